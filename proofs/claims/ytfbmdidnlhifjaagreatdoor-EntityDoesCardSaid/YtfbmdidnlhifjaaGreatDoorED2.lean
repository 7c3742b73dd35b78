/-
  Texts of the proof, put together: PVa, WVa, PVb, WVb, PVc, WVc, PVd, WVd, PVe, WVe, PVf, WVf, PH, PFr, QH, QY, QU, QW, QT, QJ, QX, WFr, PM, PNa, QN, QM, QI, QV, QL, PI, QF, Q6, Q9.
-/
import Derived.Test.YtfbmdidnlhifjaaGreatDoorED1
import Derived.Lib.Bytealg
import Derived.Lib.SmallJoins
import Derived.Laws.StructEq
import GoSem.Op.IntBits
import GoSem.Op.Shift
import Derived.Laws.Cover3
import Derived.ScopeJumps
import Derived.Laws.CopyRow
import Derived.Laws.IdiomCopy
import Derived.Laws.OwnMore
import Derived.MapKept
import Derived.Maps.RangeRun
namespace Go.Proofs.YtfbmdidnlhifjaaGreatDoor
open Go
set_option linter.unusedVariables false
structure Ac where
 fKind:Int
 fInt:Int
 fStr:An
 fN:Int
 deriving DecidableEq,Inhabited
def G8 (s:An)(ha:Int):Option (Stp (Int) (Out (Bool) (Unit))):=
 Bq (decide (ha<(s.length:Int))) (Bm (Cd ha (s.length:Int))<|Bq (((decide ((Ih s ha)<32))||(decide (126<(Ih s ha))))) (some (.out (.ret false))) (Bm (BO .i64 (ha+1))<|some (.next (ha+1)))) (some (.out (.go ())))
def G7 :Option (Bool):=
 some true
def Gr (F:Nat)(s:An):Option (Bool):=
 B5 (Ck (λσ=>G8 s σ) F 0) (BU λν=>G7 )
def Bu (ok:Bool)(i:Int):Option (Int):=
 Bq (ok) (Bm (BO .i64 (i+1))<|some (i+1)) (some (-1))
def Ke (F:Nat)(c:Ac):Option (Bool):=
 Bm (imp (decide (c.fKind=4)) (imp (decide (c.fInt=0)) (imp (decide (c.fN=0)) ((Gr F c.fStr).isSome))))<|some ((decide (c.fKind=4))&&((decide (c.fInt=0))&&((decide (c.fN=0))&&(ov (Gr F c.fStr)))))
def KZ (F:Nat)(ha:(List Ac)→Int→Int→Option (Int))(hb:(List Ac)→Int→Int→Option (Int))(v:(List Ac))(i:Int):Option (Int):=
 Bq (((decide (i<0))||(decide ((v.length:Int)≤i)))) (some (-1)) (Bm (Cd i (v.length:Int))<|Bq (decide (((Ae v i).fKind)=1)) (Bm (imp (decide (((Ae v i).fInt)=0)) (imp (decide (((Ae v i).fStr)=([]:An))) ((Bu (decide (((Ae v i).fN)=0)) i).isSome)))<|Bm (imp (decide (((Ae v i).fInt)=0)) (imp (!(decide (((Ae v i).fStr)=([]:An)))) ((Bu false i).isSome)))<|Bm (imp (!(decide (((Ae v i).fInt)=0))) ((Bu false i).isSome))<|some (bif decide (((Ae v i).fInt)=0) then(bif decide (((Ae v i).fStr)=([]:An)) then(ov (Bu (decide (((Ae v i).fN)=0)) i)) else(ov (Bu false i))) else(ov (Bu false i)))) (Bq (decide (((Ae v i).fKind)=2)) (Bm (imp (decide (((Ae v i).fInt)=0)) (imp (decide (((Ae v i).fStr)=([]:An))) ((Bu (decide (((Ae v i).fN)=0)) i).isSome)))<|Bm (imp (decide (((Ae v i).fInt)=0)) (imp (!(decide (((Ae v i).fStr)=([]:An)))) ((Bu false i).isSome)))<|Bm (imp (!(decide (((Ae v i).fInt)=0))) (imp (decide (((Ae v i).fInt)=1)) (imp (decide (((Ae v i).fStr)=([]:An))) ((Bu (decide (((Ae v i).fN)=0)) i).isSome))))<|Bm (imp (!(decide (((Ae v i).fInt)=0))) (imp (decide (((Ae v i).fInt)=1)) (imp (!(decide (((Ae v i).fStr)=([]:An)))) ((Bu false i).isSome))))<|Bm (imp (!(decide (((Ae v i).fInt)=0))) (imp (!(decide (((Ae v i).fInt)=1))) ((Bu false i).isSome)))<|some (bif decide (((Ae v i).fInt)=0) then(bif decide (((Ae v i).fStr)=([]:An)) then(ov (Bu (decide (((Ae v i).fN)=0)) i)) else(ov (Bu false i))) else(bif decide (((Ae v i).fInt)=1) then(bif decide (((Ae v i).fStr)=([]:An)) then(ov (Bu (decide (((Ae v i).fN)=0)) i)) else(ov (Bu false i))) else(ov (Bu false i))))) (Bq (decide (((Ae v i).fKind)=3)) (Bm (imp (decide (((Ae v i).fStr)=([]:An))) ((Bu (decide (((Ae v i).fN)=0)) i).isSome))<|Bm (imp (!(decide (((Ae v i).fStr)=([]:An)))) ((Bu false i).isSome))<|some (bif decide (((Ae v i).fStr)=([]:An)) then(ov (Bu (decide (((Ae v i).fN)=0)) i)) else(ov (Bu false i)))) (Bq (decide (((Ae v i).fKind)=4)) (B5 (Ke F (Ae v i)) λhd=>B5 (Bu hd i) λhe=>some he) (Bq (((decide (((Ae v i).fKind)=5))&&((decide (((Ae v i).fInt)=0))&&((decide (((Ae v i).fStr)=([]:An)))&&(decide (0≤((Ae v i).fN))))))) (Bm (BO .i64 (i+1))<|B5 (ha v (i+1) ((Ae v i).fN)) λhf=>some hf) (Bq (((decide (((Ae v i).fKind)=6))&&((decide (((Ae v i).fInt)=0))&&((decide (((Ae v i).fStr)=([]:An)))&&(decide (0≤((Ae v i).fN))))))) (Bm (BO .i64 (i+1))<|B5 (hb v (i+1) ((Ae v i).fN)) λhg=>some hg) (some (-1))))))))
def Ca (v:(List Ac))(n:Int)(he:(List Ac)→Int→Option (Int))(hb:Int)(ha:Int):Option (Stp (Int×Int) (Out (Int) (Int))):=
 Bq (decide (ha<n)) (B5 (he v hb) λhd=>Bq (decide (hd<0)) (some (.out (.ret (-1)))) (Bm (BO .i64 (ha+1))<|some (.next (hd,ha+1)))) (some (.out (.go hb)))
def CV (ha:Int):Option (Int):=
 some ha
def ES (F:Nat)(ha:(List Ac)→Int→Option (Int))(v:(List Ac))(i:Int)(n:Int):Option (Int):=
 B5 (Ck (λσ=>Ca v n ha σ.1 σ.2) F (i,0)) (BU λν=>CV ν)
def Cv (F:Nat)(v:(List Ac))(n:Int)(hf:(List Ac)→Int→Option (Int))(ha:Int)(hd:An)(hb:Int):Option (Stp (Int×An×Int) (Out (Int) (Int))):=
 Bq (decide (hb<n)) (Bm (imp (!(decide ((v.length:Int)≤ha))) (Cd ha (v.length:Int)))<|Bm (imp (!(decide ((v.length:Int)≤ha))) ((Ke F (Ae v ha)).isSome))<|Bq (((decide ((v.length:Int)≤ha))||((!(ov (Ke F (Ae v ha))))||((decide (0<hb))&&(CJ ((Ae v ha).fStr) hd||decide (((Ae v ha).fStr)=hd)))))) (some (.out (.ret (-1)))) (Bm (Cd ha (v.length:Int))<|Bm (BO .i64 (ha+1))<|B5 (hf v (ha+1)) λhe=>Bq (decide (he<0)) (some (.out (.ret (-1)))) (Bm (BO .i64 (hb+1))<|some (.next (he,(Ae v ha).fStr,hb+1))))) (some (.out (.go ha)))
def Ec (ha:Int):Option (Int):=
 some ha
def Jj (F:Nat)(ha:(List Ac)→Int→Option (Int))(v:(List Ac))(i:Int)(n:Int):Option (Int):=
 B5 (Ck (λσ=>Cv F v n ha σ.1 σ.2.1 σ.2.2) F (i,([]:An),0)) (BU λν=>Ec ν)
mutual
def Cz:Nat→(List Ac)→Int→Option (Int)
 | 0,_,_=>none
 | nn+1,v,i=>KZ nn (Ed nn) (Iy nn) v i
def Ed:Nat→(List Ac)→Int→Int→Option (Int)
 | 0,_,_,_=>none
 | nn+1,v,i,n=>ES nn (Cz nn) v i n
def Iy:Nat→(List Ac)→Int→Int→Option (Int)
 | 0,_,_,_=>none
 | nn+1,v,i,n=>Jj nn (Cz nn) v i n
end
def HJ (F:Nat)(v:(List Ac)):Option (Bool):=
 Bm (imp (decide (0<(v.length:Int))) ((Cz F v 0).isSome))<|some ((decide (0<(v.length:Int)))&&(decide ((ov (Cz F v 0))=(v.length:Int))))
def BW (F:Nat)(v:(List Ac))(i:Int)(he:(List Ac)→Int→Option (Int))(hd:Int)(hb:Int)(ha:Int):Option (Stp (Int×Int×Int) (Out (Int) (Int))):=
 Bq (decide (ha<((Ae v i).fN))) (Bq (decide (((Ae v i).fKind)=6)) (Bm (BO .i64 (hb+1))<|B5 (he v (hb+1)) λhf=>Bq (decide (hd<hf)) (B5 (Cz F v (hb+1)) λhh=>Bm (BO .i64 (ha+1))<|some (.next (hf,hh,ha+1))) (B5 (Cz F v (hb+1)) λhi=>Bm (BO .i64 (ha+1))<|some (.next (hd,hi,ha+1)))) (B5 (he v hb) λhg=>Bq (decide (hd<hg)) (B5 (Cz F v hb) λhj=>Bm (BO .i64 (ha+1))<|some (.next (hg,hj,ha+1))) (B5 (Cz F v hb) λhk=>Bm (BO .i64 (ha+1))<|some (.next (hd,hk,ha+1))))) (some (.out (.go hd)))
def CL (ha:Int):Option (Int):=
 Bm (BO .i64 (ha+1))<|some (ha+1)
def EE (F:Nat)(ha:(List Ac)→Int→Option (Int))(v:(List Ac))(i:Int):Option (Int):=
 Bm (Cd i (v.length:Int))<|Bq (((!decide (((Ae v i).fKind)=5))&&(!decide (((Ae v i).fKind)=6)))) (some 1) (Bm (BO .i64 (i+1))<|B5 (Ck (λσ=>BW F v i ha σ.1 σ.2.1 σ.2.2) F (0,i+1,0)) (BU λν=>CL ν))
def Ci:Nat→(List Ac)→Int→Option (Int)
 | 0,_,_=>none
 | nn+1,v,i=>EE nn (Ci nn) v i
def Ce (s:An)(hb:An)(ha:Int):Option (Stp (An×Int) (Out (An) (An))):=
 Bq (decide (ha<(s.length:Int))) (Bm (Cd ha (s.length:Int))<|Bq (((decide ((Ih s ha)=34))||(decide ((Ih s ha)=92)))) (Bm (BO .i64 ((hb.length:Int)+(([92]:An).length:Int)))<|Bm (BO .i64 (ha+1))<|Bm (O3 ha (ha+1))<|Bm (O3 (ha+1) (s.length:Int))<|Bm (BO .i64 (((hb++([92]:An)).length:Int)+((List.take (Int.toNat (ha+1)-Int.toNat ha) (List.drop (Int.toNat ha) s)).length:Int)))<|some (.next ((hb++([92]:An))++(List.take (Int.toNat (ha+1)-Int.toNat ha) (List.drop (Int.toNat ha) s)),ha+1))) (Bm (BO .i64 (ha+1))<|Bm (O3 ha (ha+1))<|Bm (O3 (ha+1) (s.length:Int))<|Bm (BO .i64 ((hb.length:Int)+((List.take (Int.toNat (ha+1)-Int.toNat ha) (List.drop (Int.toNat ha) s)).length:Int)))<|some (.next (hb++(List.take (Int.toNat (ha+1)-Int.toNat ha) (List.drop (Int.toNat ha) s)),ha+1)))) (some (.out (.go hb)))
def C3 (ha:An):Option (An):=
 Bm (BO .i64 ((ha.length:Int)+(([34]:An).length:Int)))<|some (ha++([34]:An))
def ER (F:Nat)(s:An):Option (An):=
 B5 (Ck (λσ=>Ce s σ.1 σ.2) F (([34]:An),0)) (BU λν=>C3 ν)
def CK (F:Nat)(v:(List Ac))(i:Int)(he:(List Ac)→Int→Option (An))(ha:An)(hb:Int)(hd:Int):Option (Stp (An×Int×Int) (Out (An) (An))):=
 Bq (decide (hd<((Ae v i).fN))) (Bq (decide (0<hd)) (Bm (BO .i64 ((ha.length:Int)+(([44]:An).length:Int)))<|Bq (decide (((Ae v i).fKind)=6)) (Bm (Cd hb (v.length:Int))<|B5 (ER F ((Ae v hb).fStr)) λhf=>Bm (BO .i64 (((ha++([44]:An)).length:Int)+(hf.length:Int)))<|Bm (BO .i64 ((((ha++([44]:An))++hf).length:Int)+(([58]:An).length:Int)))<|Bm (BO .i64 (hb+1))<|B5 (he v (hb+1)) λhh=>Bm (BO .i64 (((((ha++([44]:An))++hf)++([58]:An)).length:Int)+(hh.length:Int)))<|B5 (Cz F v (hb+1)) λhl=>Bm (BO .i64 (hd+1))<|some (.next ((((ha++([44]:An))++hf)++([58]:An))++hh,hl,hd+1))) (B5 (he v hb) λhi=>Bm (BO .i64 (((ha++([44]:An)).length:Int)+(hi.length:Int)))<|B5 (Cz F v hb) λhm=>Bm (BO .i64 (hd+1))<|some (.next ((ha++([44]:An))++hi,hm,hd+1)))) (Bq (decide (((Ae v i).fKind)=6)) (Bm (Cd hb (v.length:Int))<|B5 (ER F ((Ae v hb).fStr)) λhg=>Bm (BO .i64 ((ha.length:Int)+(hg.length:Int)))<|Bm (BO .i64 (((ha++hg).length:Int)+(([58]:An).length:Int)))<|Bm (BO .i64 (hb+1))<|B5 (he v (hb+1)) λhj=>Bm (BO .i64 ((((ha++hg)++([58]:An)).length:Int)+(hj.length:Int)))<|B5 (Cz F v (hb+1)) λhn=>Bm (BO .i64 (hd+1))<|some (.next (((ha++hg)++([58]:An))++hj,hn,hd+1))) (B5 (he v hb) λhk=>Bm (BO .i64 ((ha.length:Int)+(hk.length:Int)))<|B5 (Cz F v hb) λho=>Bm (BO .i64 (hd+1))<|some (.next (ha++hk,ho,hd+1))))) (some (.out (.go ha)))
def El (v:(List Ac))(i:Int)(ha:An):Option (An):=
 Bq (decide (((Ae v i).fKind)=6)) (Bm (BO .i64 ((([123]:An).length:Int)+(ha.length:Int)))<|Bm (BO .i64 (((([123]:An)++ha).length:Int)+(([125]:An).length:Int)))<|some ((([123]:An)++ha)++([125]:An))) (Bm (BO .i64 ((([91]:An).length:Int)+(ha.length:Int)))<|Bm (BO .i64 (((([91]:An)++ha).length:Int)+(([93]:An).length:Int)))<|some ((([91]:An)++ha)++([93]:An)))
def Iv (F:Nat)(ha:(List Ac)→Int→Option (An))(v:(List Ac))(i:Int):Option (An):=
 Bm (Cd i (v.length:Int))<|Bq (decide (((Ae v i).fKind)=1)) (some ([110,117,108,108]:An)) (Bq (decide (((Ae v i).fKind)=2)) (Bq (decide (((Ae v i).fInt)=1)) (some ([116,114,117,101]:An)) (some ([102,97,108,115,101]:An))) (Bq (decide (((Ae v i).fKind)=3)) (Bm (BO .i64 ((Ae v i).fInt))<|some (Lib.itoa ((Ae v i).fInt))) (Bq (decide (((Ae v i).fKind)=4)) (B5 (ER F ((Ae v i).fStr)) λhb=>some hb) (Bm (BO .i64 (i+1))<|B5 (Ck (λσ=>CK F v i ha σ.1 σ.2.1 σ.2.2) F (([]:An),i+1,0)) (BU λν=>El v i ν)))))
def DO:Nat→(List Ac)→Int→Option (An)
 | 0,_,_=>none
 | nn+1,v,i=>Iv nn (DO nn) v i
def CW (v:(List Ac))(ha:Int):Option (Stp (Int) (Out (Int) (Unit))):=
 Bq (decide (ha<(v.length:Int))) (Bm (Cd ha (v.length:Int))<|Bq (decide (200<(((Ae v ha).fStr).length:Int))) (some (.out (.ret 3))) (Bm (BO .i64 (ha+1))<|some (.next (ha+1)))) (some (.out (.go ())))
def EF (F:Nat)(v:(List Ac)):Option (Int):=
 B5 (DO F v 0) λha=>Bq (decide (4000<(ha.length:Int))) (some 3) (some 0)
def CX (v:(List Ac))(ha:Int):Option (Stp (Int) (Out (Int) (Unit))):=
 Bq (decide (ha<(v.length:Int))) (Bm (Cd ha (v.length:Int))<|Bq (((decide (((Ae v ha).fKind)=3))&&((decide (((Ae v ha).fInt)<(-1000000000000)))||(decide (1000000000000<((Ae v ha).fInt)))))) (some (.out (.ret 2))) (Bm (BO .i64 (ha+1))<|some (.next (ha+1)))) (some (.out (.go ())))
def EG (F:Nat)(v:(List Ac)):Option (Int):=
 Bm (imp (!(decide (200<(v.length:Int)))) ((Ci F v 0).isSome))<|Bq (((decide (200<(v.length:Int)))||(decide (8<(ov (Ci F v 0)))))) (some 3) (B5 (Ck (λσ=>CW v σ) F 0) (BU λν=>EF F v ))
def Gt (F:Nat)(v:(List Ac)):Option (Int):=
 B5 (HJ F v) λr1=>Bq (!r1) (some 1) (B5 (Ck (λσ=>CX v σ) F 0) (BU λν=>EG F v ))
end Go.Proofs.YtfbmdidnlhifjaaGreatDoor
namespace Go.Proofs.YtfbmdidnlhifjaaGreatDoor.Q
open Go Go.RowKit
set_option linter.unusedVariables false
set_option linter.unusedSimpArgs false
set_option maxRecDepth 100000
set_option maxHeartbeats 4000000
@[reducible] def Ab (x:Ac):List Rp:=[Ai x.fKind,Ai x.fInt,rS x.fStr,Ai x.fN]
theorem B2 (x:Ac):(Ab x).length=4:=rfl
theorem Kk (x:Ac):(Ab x).all (·.one)=true:=rfl
theorem Pi (F:Nat)(s:An)(r:Bool)(h:Gr F s=some r):Fn Tryz.prog GE 118 [rS s] [] (λR H=>R=rB r∧H=[]):=by
 refine enter (n:=20) Tryz.func118 Aa Tryz.ntmps118 Aa (λw Z=>?_);unfold Gr at h;refine Af (wa Aa (As (Aq (Af (wa Aa (As (AU (ob h λhi hj hg=>B4 (S:=Nat×(Int)×(Unit)) (V:=(Unit)×(Unit)) 0 (λσ=>Ck (λσ=>G8 s σ) σ.1 σ.2.1=some hi) (λσ=>[(0,rS s),(3,Ai σ.2.1)]) (λσ=>[]) (λσ=>σ.1) (F,0,()) hj (AW.c Aa (AW.c Aa AW.nil)) sN (λσ=>G7 =some r) (λσ=>[]) (λσ=>[]) ?_ ?_))))))))
 ·rintro⟨hz,hb,⟨⟩⟩ hk;refine Co (l':=[(0,rS s),(3,Ai hb)]) (H':=[]) Aa Aa ?_;obtain⟨hl,rfl,t37,hd,hf⟩:=CC hk;replace hd:G8 s hb=some t37:=hd;unfold G8 at hd;refine Aq (Af (wm Aa (wm Aa (wv (Cb DM Aa) (wv (CO Aa Aa) (As (cz hd Aa (λhm hn=>?_) (λhm ho=>?_))))))))
  ·refine A0 (AO (Aq (AU (ck hn λhh hp=>AL [(0,rS s),(3,Ai hb),(19,rB ((decide ((Ih s hb)<32))||(decide (126<(Ih s hb)))))] [] ?_ ?_))))
   ·refine Ar (wm Aa (wm Aa (wv (Dq DM Aa Aa hh) (wv (CO Aa Aa) (wm Aa (AQ (decide ((Ih s hb)<32)) (λha=>?_) (λha=>?_)))))))
    ·refine wf ha (wf ha (wf ha (wf ha (wv (r:=rB true) (At Aa ha Aa) (Ao ?_)))));exact BP ha
    ·refine wo ha (wm Aa (wo ha (wm Aa (wo ha (wv (Dq DM Aa Aa hh) (wo ha (wv (De Aa Aa) (Er Aa ha Aa (Ao ?_)))))))));exact BP ha
   refine cz hp Aa (λhq hr=>?_) (λhq hs=>?_)
   ·refine Af (wa Aa (As (Av (AB (Ad (Ad (Bt ?_)))))));have ht:=BN hr hf hg;refine AB (Ad ?_);obtain rfl:=Aw ht;exact Au (BC Tryz.results118 (AH Aa)) sN ⟨Aa,Aa⟩
   ·refine A0 (AV (AO (Ar (wm Aa (ck hs λhu hw=>wv (B0 Aa Aa hu) (wa Aa (Ao ?_)))))));have hx:=Br hw hf;exact AF (AK (hl,hb+1,()) ⟨hx,ST _⟩ (AW.c Aa (AW.c Aa AW.nil)) sN)
  ·refine B7 (A7 ?_);have hy:=BZ ho hf hg;exact A7 (Bp (AK ((),()) hy AW.nil sN))
 ·rintro⟨⟨⟩,⟨⟩⟩ he;refine CB (l':=[]) (H':=[]) Aa Aa ?_;replace he:G7 =some r:=he;unfold G7 at he;refine Bn (AO (Af (wa Aa (As (Av ?_)))));obtain rfl:=Aw he;exact Au (BC Tryz.results118 (AH Aa)) sN ⟨Aa,Aa⟩
theorem CM (ok:Bool)(i:Int)(r:Int)(h:Bu ok i=some r):Fn Tryz.prog GE 99 [rB ok,Ai i] [] (λR H=>R=Ai r∧H=[]):=by
 refine enter (n:=8) Tryz.func99 Aa Tryz.ntmps99 Aa (λw Z=>?_);unfold Bu at h;refine Af (wa Aa (As (Aq (Af (wm Aa (As (cz h Aa (λc1 h2=>?_) (λc1 h5=>?_))))))))
 ·refine Af (wm Aa (ck h2 λg3 h4=>wv (B0 Aa Aa g3) (wa Aa (As (Av (Ad ?_))))));obtain rfl:=Aw h4;exact Au (BC Tryz.results99 (AH Aa)) sN ⟨Aa,Aa⟩
 ·refine A0 (AO (Af (wv (r:=Ai (-1)) (AC Aa) (As (Av ?_)))));obtain rfl:=Aw h5;exact Au (BC Tryz.results99 (AH Aa)) sN ⟨Aa,Aa⟩
theorem Pk (F:Nat)(c:Ac)(r:Bool)(h:Ke F c=some r):Fn Tryz.prog GE 100 [Bb (Ab c)] [] (λR H=>R=rB r∧H=[]):=by
 refine enter (n:=21) Tryz.func100 Aa Tryz.ntmps100 Aa (λw Z=>?_);unfold Ke at h;refine Af (B6 Aa Aa (λb1=>?_));refine wa Aa (As (ck h λg2 h3=>AL [(2,rB ((decide (c.fKind=4))&&((decide (c.fInt=0))&&((decide (c.fN=0))&&(ov (Gr F c.fStr))))))] [] ?_ ?_))
 ·refine Ar (vF Bh Aa CS (vL 0 CU Aa (wv (Bv Aa Aa) (wm Aa (AQ (decide (c.fKind=4)) (λc4=>?_) (λc4=>?_))))))
  ·refine wo c4 (vF Bh Aa Cq (wo c4 (vL 0 Dk Aa (wo c4 (wv (Bv Aa Aa) (D4 Aa c4 Aa (wm Aa (AQ (decide (c.fInt=0)) (λc5=>?_) (λc5=>?_)))))))))
   ·refine wo c5 (vF Bh Aa Cq (wo c5 (vL 0 Dk Aa (wo c5 (wv (Bv Aa Aa) (D4 Aa c5 Aa (wm Aa (AQ (decide (c.fN=0)) (λc6=>?_) (λc6=>?_)))))))))
    ·refine wo c6 (vF Bh Aa Dm (wo c6 (vL 0 Dx Aa (wo c6 (BQ Tryz.call118 (Pi F c.fStr (ov (Gr F c.fStr)) (DJ (Cl (Cl (Cl g2 c4) c5) c6))) Aa (D4 Aa c6 Aa (wa Aa (Ao ?_))))))));exact BP (And.intro c4 (And.intro c5 c6))
    ·refine wf c6 (wf c6 (wf c6 (wv (r:=rB false) (A4 Aa c6 Aa) (wa Aa (Ao ?_)))));exact BP (And.intro c4 (And.intro c5 c6))
   ·refine wf c5 (wf c5 (wf c5 (wv (r:=rB false) (A4 Aa c5 Aa) (wm Aa (wz Aa Aa (wz Aa Aa (wz Aa Aa (wv (r:=rB false) (A4 (b:=false) Aa Aa Aa) (wa Aa (Ao ?_))))))))));exact BP (And.intro c4 c5)
  ·refine wf c4 (wf c4 (wf c4 (wv (r:=rB false) (A4 Aa c4 Aa) (wm Aa (wz Aa Aa (wz Aa Aa (wz Aa Aa (wv (r:=rB false) (A4 (b:=false) Aa Aa Aa) (wm Aa (wz Aa Aa (wz Aa Aa (wz Aa Aa (wv (r:=rB false) (A4 (b:=false) Aa Aa Aa) (wa Aa (Ao ?_)))))))))))))));exact BP c4
 refine Av ?_;obtain rfl:=Aw h3;exact Au (BC Tryz.results100 (AH Aa)) sN ⟨Aa,Aa⟩
theorem Pj (F:Nat)(ho:(List Ac)→Int→Int→Option (Int))(hp:(List Ac)→Int→Int→Option (Int))(hr:(∀(v:(List Ac)) (i:Int) (n:Int) (r:Int),ho v i n=some r→Fn Tryz.prog GE 101 [AG 4 (Ay Ab v),Ai i,Ai n] [] (λR H=>R=Ai r∧H=[])))(hs:(∀(v:(List Ac)) (i:Int) (n:Int) (r:Int),hp v i n=some r→Fn Tryz.prog GE 102 [AG 4 (Ay Ab v),Ai i,Ai n] [] (λR H=>R=Ai r∧H=[])))(v:(List Ac))(i:Int)(r:Int)(h:KZ F ho hp v i=some r):Fn Tryz.prog GE 83 [AG 4 (Ay Ab v),Ai i] [] (λR H=>R=Ai r∧H=[]):=by
 refine enter (n:=127) Tryz.func83 Aa Tryz.ntmps83 Aa (λw Z=>?_);unfold KZ at h;refine Af (wa Aa (As (Aq (AL [(0,AG 4 (Ay Ab v)),(1,Ai i),(13,rB ((decide (i<0))||(decide ((v.length:Int)≤i))))] [] ?_ ?_))))
 ·refine Ar (wm Aa (wv (CO Aa Aa) (wm Aa (AQ (decide (i<0)) (λc1=>?_) (λc1=>?_)))))
  ·refine wf c1 (wf c1 (wf c1 (wf c1 (wv (r:=rB true) (At Aa c1 Aa) (Ao ?_)))));exact BP c1
  ·refine wo c1 (wm Aa (wo c1 (wm Aa (wo c1 (wv (Bi (ys:=v) (enc:=Ab) BF Aa) (wo c1 (wv (HS Aa Aa) (Er Aa c1 Aa (Ao ?_)))))))));exact BP c1
 refine cz h Aa (λc2 h3=>?_) (λc2 h4=>?_)
 ·refine Af (wv (r:=Ai (-1)) (AC Aa) (As (Av (Ad ?_))));obtain rfl:=Aw h3;exact Au (BC LB (AH Aa)) sN ⟨Aa,Aa⟩
 ·refine A0 (AO (Af (wm Aa (wm Aa (ck h4 λg5 h6=>wv (Bg (enc:=Ab) (ys:=v) BF BJ Aa Aa g5) (wv (C7 H5 BJ Aa Aa Aa) (BA (cs:=[Ai 0,Ai 0,rS ([]:An),Ai 0]) GW Aa Aa (λb7=>?_))))))));refine A8 (i:=0) BJ Aa Aa Aa (AZ.c Aa) Aa Aa (cs':=[Ai ((Ae v i).fKind),Ai ((Ae v i).fInt),rS ((Ae v i).fStr),Ai ((Ae v i).fN)]) Aa (H':=[.blk b7 (Ab (Ae v i)) 63]) Aa (As (Aq (Af (vF Bh Aa CS (vL 0 CU Aa (wv (Bv Aa Aa) (As (cz h6 Aa (λc8 h9=>?_) (λc8 ht=>?_)))))))))
  ·refine ck h9 λhu hw=>ck hw λhx hy=>ck hy λhz h0=>AL [(4,Ai (bif decide (((Ae v i).fInt)=0) then(bif decide (((Ae v i).fStr)=([]:An)) then(ov (Bu (decide (((Ae v i).fN)=0)) i)) else(ov (Bu false i))) else(ov (Bu false i))))] [] ?_ ?_
   ·refine Ar (vF Bh Aa Cq (vL 0 Dk Aa (wv (Bv Aa Aa) (wm Aa (AQ (decide (((Ae v i).fInt)=0)) (λhb=>?_) (λhb=>?_))))))
    ·refine wo hb (vF Bh Aa Dm (wo hb (vL 0 Dx Aa (wo hb (wv (C0 Aa Aa) (D4 Aa hb Aa (wm Aa (AQ (decide (((Ae v i).fStr)=([]:An))) (λhe=>?_) (λhe=>?_)))))))))
     ·refine wo he (vF Bh Aa Cq (wo he (vL 0 Dk Aa (wo he (wv (Bv Aa Aa) (D4 Aa he Aa (wm Aa (BQ Jw (CM (decide (((Ae v i).fN)=0)) i (ov (Bu (decide (((Ae v i).fN)=0)) i)) (DJ (Cl (Cl hu hb) he))) Aa (wa Aa (Ao ?_))))))))));exact BP (And.intro hb he)
     ·refine wf he (wf he (wf he (wv (r:=rB false) (A4 Aa he Aa) (wm Aa (BQ Jw (CM false i (ov (Bu false i)) (DJ (D3 (Cl hx hb) he))) Aa (wa Aa (Ao ?_)))))));exact BP (And.intro hb he)
    ·refine wf hb (wf hb (wf hb (wv (r:=rB false) (A4 Aa hb Aa) (wm Aa (wz Aa Aa (wz Aa Aa (wz Aa Aa (wv (r:=rB false) (A4 (b:=false) Aa Aa Aa) (wm Aa (BQ Jw (CM false i (ov (Bu false i)) (DJ (D3 hz hb))) Aa (wa Aa (Ao ?_))))))))))));exact BP hb
   refine Av (Ad ?_);obtain rfl:=Aw h0;exact Au (BC LB (AH Aa)) sN ⟨Aa,Aa⟩
  ·refine A0 (AO (Aq (Af (vF Bh Aa CS (vL 0 CU Aa (wv (Bv Aa Aa) (As (cz ht Aa (λh1 h2=>?_) (λh1 h5=>?_)))))))))
   ·refine ck h2 λh7 h8=>ck h8 λhA hB=>ck hB λhC hD=>ck hD λhE hG=>ck hG λhH hI=>AL [(4,Ai (bif decide (((Ae v i).fInt)=0) then(bif decide (((Ae v i).fStr)=([]:An)) then(ov (Bu (decide (((Ae v i).fN)=0)) i)) else(ov (Bu false i))) else(bif decide (((Ae v i).fInt)=1) then(bif decide (((Ae v i).fStr)=([]:An)) then(ov (Bu (decide (((Ae v i).fN)=0)) i)) else(ov (Bu false i))) else(ov (Bu false i)))))] [] ?_ ?_
    ·refine Ar (vF Bh Aa Cq (vL 0 Dk Aa (wv (Bv Aa Aa) (wm Aa (AQ (decide (((Ae v i).fInt)=0)) (λha=>?_) (λha=>?_))))))
     ·refine wf ha (wf ha (wf ha (wv (r:=rB true) (At Aa ha Aa) (wm Aa (Bk (b:=true) Aa Aa Aa (vF Bh Aa Dm (Bk (b:=true) Aa Aa Aa (vL 0 Dx Aa (Bk (b:=true) Aa Aa Aa (wv (C0 Aa Aa) (wv (r:=rB (decide (((Ae v i).fStr)=([]:An)))) (At (b:=true) Aa Aa Aa) (wm Aa (AQ (decide (((Ae v i).fStr)=([]:An))) (λhf=>?_) (λhf=>?_))))))))))))))
      ·refine wo hf (vF Bh Aa Cq (wo hf (vL 0 Dk Aa (wo hf (wv (Bv Aa Aa) (D4 Aa hf Aa (wm Aa (BQ Jw (CM (decide (((Ae v i).fN)=0)) i (ov (Bu (decide (((Ae v i).fN)=0)) i)) (DJ (Cl (Cl h7 ha) hf))) Aa (wa Aa (Ao ?_))))))))));exact BP (And.intro ha hf)
      ·refine wf hf (wf hf (wf hf (wv (r:=rB false) (A4 Aa hf Aa) (wm Aa (BQ Jw (CM false i (ov (Bu false i)) (DJ (D3 (Cl hA ha) hf))) Aa (wa Aa (Ao ?_)))))));exact BP (And.intro ha hf)
     ·refine wo ha (vF Bh Aa Cq (wo ha (vL 0 Dk Aa (wo ha (wv (Bv Aa Aa) (Er Aa ha Aa (wm Aa (AQ (decide (((Ae v i).fInt)=1)) (λhd=>?_) (λhd=>?_)))))))))
      ·refine wo hd (vF Bh Aa Dm (wo hd (vL 0 Dx Aa (wo hd (wv (C0 Aa Aa) (D4 Aa hd Aa (wm Aa (AQ (decide (((Ae v i).fStr)=([]:An))) (λhg=>?_) (λhg=>?_)))))))))
       ·refine wo hg (vF Bh Aa Cq (wo hg (vL 0 Dk Aa (wo hg (wv (Bv Aa Aa) (D4 Aa hg Aa (wm Aa (BQ Jw (CM (decide (((Ae v i).fN)=0)) i (ov (Bu (decide (((Ae v i).fN)=0)) i)) (DJ (Cl (Cl (D3 hC ha) hd) hg))) Aa (wa Aa (Ao ?_))))))))));exact BP (And.intro ha (And.intro hd hg))
       ·refine wf hg (wf hg (wf hg (wv (r:=rB false) (A4 Aa hg Aa) (wm Aa (BQ Jw (CM false i (ov (Bu false i)) (DJ (D3 (Cl (D3 hE ha) hd) hg))) Aa (wa Aa (Ao ?_)))))));exact BP (And.intro ha (And.intro hd hg))
      ·refine wf hd (wf hd (wf hd (wv (r:=rB false) (A4 Aa hd Aa) (wm Aa (wz Aa Aa (wz Aa Aa (wz Aa Aa (wv (r:=rB false) (A4 (b:=false) Aa Aa Aa) (wm Aa (BQ Jw (CM false i (ov (Bu false i)) (DJ (D3 (D3 hH ha) hd))) Aa (wa Aa (Ao ?_))))))))))));exact BP (And.intro ha hd)
    refine Av (Ad ?_);obtain rfl:=Aw hI;exact Au (BC LB (AH Aa)) sN ⟨Aa,Aa⟩
   ·refine A0 (AO (Aq (Af (vF Bh Aa CS (vL 0 CU Aa (wv (Bv Aa Aa) (As (cz h5 Aa (λhJ hK=>?_) (λhJ hL=>?_)))))))))
    ·refine ck hK λhN hO=>ck hO λhP hQ=>AL [(4,Ai (bif decide (((Ae v i).fStr)=([]:An)) then(ov (Bu (decide (((Ae v i).fN)=0)) i)) else(ov (Bu false i))))] [] ?_ ?_
     ·refine Ar (vF Bh Aa Dm (vL 0 Dx Aa (wv (C0 Aa Aa) (wm Aa (AQ (decide (((Ae v i).fStr)=([]:An))) (λhh=>?_) (λhh=>?_))))))
      ·refine wo hh (vF Bh Aa Cq (wo hh (vL 0 Dk Aa (wo hh (wv (Bv Aa Aa) (D4 Aa hh Aa (wm Aa (BQ Jw (CM (decide (((Ae v i).fN)=0)) i (ov (Bu (decide (((Ae v i).fN)=0)) i)) (DJ (Cl hN hh))) Aa (wa Aa (Ao ?_))))))))));exact BP hh
      ·refine wf hh (wf hh (wf hh (wv (r:=rB false) (A4 Aa hh Aa) (wm Aa (BQ Jw (CM false i (ov (Bu false i)) (DJ (D3 hP hh))) Aa (wa Aa (Ao ?_)))))));exact BP hh
     refine Av (Ad ?_);obtain rfl:=Aw hQ;exact Au (BC LB (AH Aa)) sN ⟨Aa,Aa⟩
    ·refine A0 (AO (Aq (Af (vF Bh Aa CS (vL 0 CU Aa (wv (Bv Aa Aa) (As (cz hL Aa (λhR hS=>?_) (λhR hT=>?_)))))))))
     ·refine Af (wv (Bd (i:=0) H5 BJ Aa Aa Aa Aa) (ob hS λhq hU hV=>BQ Tryz.call100 (Pk F (Ae v i) hq hU) Aa (wm Aa (ob hV λhW hX hY=>BQ Jw (CM hq i hW hX) Aa (wa Aa (As (Av (Ad ?_))))))));obtain rfl:=Aw hY;exact Au (BC LB (AH Aa)) (sS sN) ⟨Aa,Aa⟩
     ·refine A0 (AO (Aq (AL [(0,AG 4 (Ay Ab v)),(1,Ai i),(5,rP b7 0),(96,rB ((decide (((Ae v i).fKind)=5))&&((decide (((Ae v i).fInt)=0))&&((decide (((Ae v i).fStr)=([]:An)))&&(decide (0≤((Ae v i).fN)))))))] [.blk b7 (Ab (Ae v i)) 63] ?_ ?_)))
      ·refine Ar (vF Bh Aa CS (vL 0 CU Aa (wv (Bv Aa Aa) (wm Aa (AQ (decide (((Ae v i).fKind)=5)) (λhi=>?_) (λhi=>?_))))))
       ·refine wo hi (vF Bh Aa Cq (wo hi (vL 0 Dk Aa (wo hi (wv (Bv Aa Aa) (D4 Aa hi Aa (wm Aa (AQ (decide (((Ae v i).fInt)=0)) (λhk=>?_) (λhk=>?_)))))))))
        ·refine wo hk (vF Bh Aa Dm (wo hk (vL 0 Dx Aa (wo hk (wv (C0 Aa Aa) (D4 Aa hk Aa (wm Aa (AQ (decide (((Ae v i).fStr)=([]:An))) (λhm=>?_) (λhm=>?_)))))))))
         ·refine wo hm (vF Bh Aa Cq (wo hm (vL 0 Dk Aa (wo hm (wv (HS Aa Aa) (D4 Aa hm Aa (Ao ?_)))))));exact BP (And.intro hi (And.intro hk hm))
         ·refine wf hm (wf hm (wf hm (wv (r:=rB false) (A4 Aa hm Aa) (Ao ?_))));exact BP (And.intro hi (And.intro hk hm))
        ·refine wf hk (wf hk (wf hk (wv (r:=rB false) (A4 Aa hk Aa) (wm Aa (wz Aa Aa (wz Aa Aa (wz Aa Aa (wv (r:=rB false) (A4 (b:=false) Aa Aa Aa) (Ao ?_)))))))));exact BP (And.intro hi hk)
       ·refine wf hi (wf hi (wf hi (wv (r:=rB false) (A4 Aa hi Aa) (wm Aa (wz Aa Aa (wz Aa Aa (wz Aa Aa (wv (r:=rB false) (A4 (b:=false) Aa Aa Aa) (wm Aa (wz Aa Aa (wz Aa Aa (wz Aa Aa (wv (r:=rB false) (A4 (b:=false) Aa Aa Aa) (Ao ?_))))))))))))));exact BP hi
      refine cz hT Aa (λhZ ga=>?_) (λhZ gb=>?_)
      ·refine Af (wm Aa (wm Aa (ck ga λgc gd=>wv (B0 Aa Aa gc) (vF Bh Aa Cq (vL 0 Dk Aa (ob gd λge gf gg=>BQ Tryz.call101 (hr v (i+1) ((Ae v i).fN) ge gf) Aa (wa Aa (As (Av (Ad ?_))))))))));obtain rfl:=Aw gg;exact Au (BC LB (AH Aa)) (sS sN) ⟨Aa,Aa⟩
      ·refine A0 (AO (Aq (AL [(0,AG 4 (Ay Ab v)),(1,Ai i),(5,rP b7 0),(120,rB ((decide (((Ae v i).fKind)=6))&&((decide (((Ae v i).fInt)=0))&&((decide (((Ae v i).fStr)=([]:An)))&&(decide (0≤((Ae v i).fN)))))))] [.blk b7 (Ab (Ae v i)) 63] ?_ ?_)))
       ·refine Ar (vF Bh Aa CS (vL 0 CU Aa (wv (Bv Aa Aa) (wm Aa (AQ (decide (((Ae v i).fKind)=6)) (λhj=>?_) (λhj=>?_))))))
        ·refine wo hj (vF Bh Aa Cq (wo hj (vL 0 Dk Aa (wo hj (wv (Bv Aa Aa) (D4 Aa hj Aa (wm Aa (AQ (decide (((Ae v i).fInt)=0)) (λhl=>?_) (λhl=>?_)))))))))
         ·refine wo hl (vF Bh Aa Dm (wo hl (vL 0 Dx Aa (wo hl (wv (C0 Aa Aa) (D4 Aa hl Aa (wm Aa (AQ (decide (((Ae v i).fStr)=([]:An))) (λhn=>?_) (λhn=>?_)))))))))
          ·refine wo hn (vF Bh Aa Cq (wo hn (vL 0 Dk Aa (wo hn (wv (HS Aa Aa) (D4 Aa hn Aa (Ao ?_)))))));exact BP (And.intro hj (And.intro hl hn))
          ·refine wf hn (wf hn (wf hn (wv (r:=rB false) (A4 Aa hn Aa) (Ao ?_))));exact BP (And.intro hj (And.intro hl hn))
         ·refine wf hl (wf hl (wf hl (wv (r:=rB false) (A4 Aa hl Aa) (wm Aa (wz Aa Aa (wz Aa Aa (wz Aa Aa (wv (r:=rB false) (A4 (b:=false) Aa Aa Aa) (Ao ?_)))))))));exact BP (And.intro hj hl)
        ·refine wf hj (wf hj (wf hj (wv (r:=rB false) (A4 Aa hj Aa) (wm Aa (wz Aa Aa (wz Aa Aa (wz Aa Aa (wv (r:=rB false) (A4 (b:=false) Aa Aa Aa) (wm Aa (wz Aa Aa (wz Aa Aa (wz Aa Aa (wv (r:=rB false) (A4 (b:=false) Aa Aa Aa) (Ao ?_))))))))))))));exact BP hj
       refine cz gb Aa (λgh gi=>?_) (λgh gj=>?_)
       ·refine Af (wm Aa (wm Aa (ck gi λgl gm=>wv (B0 Aa Aa gl) (vF Bh Aa Cq (vL 0 Dk Aa (ob gm λgp gq gr=>BQ Tryz.call102 (hs v (i+1) ((Ae v i).fN) gp gq) Aa (wa Aa (As (Av (Ad ?_))))))))));obtain rfl:=Aw gr;exact Au (BC LB (AH Aa)) (sS sN) ⟨Aa,Aa⟩
       ·refine A0 (AO (Af (wv (r:=Ai (-1)) (AC Aa) (As (Av ?_)))));obtain rfl:=Aw gj;exact Au (BC LB (AH Aa)) (sS sN) ⟨Aa,Aa⟩
theorem La (F:Nat)(ha:(List Ac)→Int→Option (Int))(hk:(∀(v:(List Ac)) (i:Int) (r:Int),ha v i=some r→Fn Tryz.prog GE 83 [AG 4 (Ay Ab v),Ai i] [] (λR H=>R=Ai r∧H=[])))(v:(List Ac))(i:Int)(n:Int)(r:Int)(h:ES F ha v i n=some r):Fn Tryz.prog GE 101 [AG 4 (Ay Ab v),Ai i,Ai n] [] (λR H=>R=Ai r∧H=[]):=by
 refine enter (n:=19) Tryz.func101 Aa Tryz.ntmps101 Aa (λw Z=>?_);unfold ES at h;refine Af (wa Aa (As (Aq (Af (wa Aa (As (AU (ob h λhl hm hh=>B4 (S:=Nat×(Int×Int)×(Unit)) (V:=(Int)×(Unit)) 0 (λσ=>Ck (λσ=>Ca v n ha σ.1 σ.2) σ.1 σ.2.1=some hl) (λσ=>[(0,AG 4 (Ay Ab v)),(1,Ai σ.2.1.1),(2,Ai n),(6,Ai 0),(7,Ai σ.2.1.2)]) (λσ=>[]) (λσ=>σ.1) (F,(i,0),()) hm (AW.c5 Aa Aa Aa Aa Aa AW.nil) sN (λσ=>CV σ.1=some r) (λσ=>[(1,Ai σ.1),(6,Ai 0)]) (λσ=>[]) ?_ ?_))))))))
 ·rintro⟨h4,⟨hb,hf⟩,⟨⟩⟩ hn;refine Co (l':=[(0,AG 4 (Ay Ab v)),(1,Ai hb),(2,Ai n),(6,Ai 0),(7,Ai hf)]) (H':=[]) Aa Aa ?_;obtain⟨ho,rfl,hp,hd,hg⟩:=CC hn;replace hd:Ca v n ha hb hf=some hp:=hd;unfold Ca at hd;refine Aq (Af (wm Aa (wm Aa (wv (CO Aa Aa) (As (cz hd Aa (λhq hr=>?_) (λhq hs=>?_)))))))
  ·refine A0 (AO (Aq (AU (Af (wm Aa (wm Aa (ob hr λhi ht hu=>BQ Jx (hk v hb hi ht) Aa (wa Aa (B1 (wm Aa (wv (CO Aa Aa) (As (cz hu Aa (λhw hx=>?_) (λhw hy=>?_))))))))))))))
   ·refine Af (wv (r:=Ai (-1)) (AC Aa) (As (Av (AB (Ad (Ad (Bt ?_)))))));have hz:=BN hx hg hh;refine AB (Ad ?_);obtain rfl:=Aw hz;exact Au (BC Tryz.results101 (AH Aa)) sN ⟨Aa,Aa⟩
   ·refine A0 (AV (AO (Ar (wm Aa (ck hy λh0 h1=>wv (B0 Aa Aa h0) (wa Aa (Ao ?_)))))));have h2:=Br h1 hg;exact AF (AK (ho,(hi,hf+1),()) ⟨h2,ST _⟩ (AW.c5 Aa Aa Aa Aa Aa AW.nil) sN)
  ·refine B7 (A7 ?_);have h3:=BZ hs hg hh;exact A7 (Bp (AK (hb,()) h3 (AW.c Aa (AW.c Aa AW.nil)) sN))
 ·rintro⟨hj,⟨⟩⟩ he;refine CB (l':=[(1,Ai hj),(6,Ai 0)]) (H':=[]) Aa Aa ?_;replace he:CV hj=some r:=he;unfold CV at he;refine Bn (AO (Af (wm Aa (wa Aa (As (Av ?_))))));obtain rfl:=Aw he;exact Au (BC Tryz.results101 (AH Aa)) sN ⟨Aa,Aa⟩
theorem NZ (F:Nat)(hg:(List Ac)→Int→Option (Int))(hp:(∀(v:(List Ac)) (i:Int) (r:Int),hg v i=some r→Fn Tryz.prog GE 83 [AG 4 (Ay Ab v),Ai i] [] (λR H=>R=Ai r∧H=[])))(v:(List Ac))(i:Int)(n:Int)(r:Int)(h:Jj F hg v i n=some r):Fn Tryz.prog GE 102 [AG 4 (Ay Ab v),Ai i,Ai n] [] (λR H=>R=Ai r∧H=[]):=by
 refine enter (n:=51) Tryz.func102 Aa Tryz.ntmps102 Aa (λw Z=>?_);unfold Jj at h;refine Af (wa Aa (B1 (wv (r:=rS ([]:An)) (AC Aa) (As (Aq (Af (wa Aa (As (AU (ob h λhq hr hl=>B4 (S:=Nat×(Int×An×Int)×(Unit)) (V:=(Int)×(Unit)) 0 (λσ=>Ck (λσ=>Cv F v n hg σ.1 σ.2.1 σ.2.2) σ.1 σ.2.1=some hq) (λσ=>[(0,AG 4 (Ay Ab v)),(1,Ai σ.2.1.1),(2,Ai n),(7,rS σ.2.1.2.1),(8,Ai σ.2.1.2.2)]) (λσ=>[]) (λσ=>σ.1) (F,(i,([]:An),0),()) hr (AW.c5 Aa Aa Aa Aa Aa AW.nil) sN (λσ=>Ec σ.1=some r) (λσ=>[(1,Ai σ.1)]) (λσ=>[]) ?_ ?_))))))))))
 ·rintro⟨hL,⟨he,hh,hf⟩,⟨⟩⟩ hs;refine Co (l':=[(0,AG 4 (Ay Ab v)),(1,Ai he),(2,Ai n),(7,rS hh),(8,Ai hf)]) (H':=[]) Aa Aa ?_;obtain⟨ht,rfl,hu,hi,hj⟩:=CC hs;replace hi:Cv F v n hg he hh hf=some hu:=hi;unfold Cv at hi;refine Aq (Af (wm Aa (wm Aa (wv (CO Aa Aa) (As (cz hi Aa (λhw hx=>?_) (λhw hy=>?_)))))))
  ·refine A0 (AO (Aq (AU (Aq (ck hx λhm hz=>ck hz λh0 h1=>AL [(0,AG 4 (Ay Ab v)),(1,Ai he),(2,Ai n),(8,Ai hf),(38,rB ((decide ((v.length:Int)≤he))||((!(ov (Ke F (Ae v he))))||((decide (0<hf))&&(CJ ((Ae v he).fStr) hh||decide (((Ae v he).fStr)=hh))))))] [] ?_ ?_)))))
   ·refine Ar (wm Aa (wm Aa (wv (Bi (ys:=v) (enc:=Ab) BF Aa) (wv (HS Aa Aa) (wm Aa (AQ (decide ((v.length:Int)≤he)) (λha=>?_) (λha=>?_)))))))
    ·refine wf ha (wf ha (wf ha (wf ha (wf ha (wf ha (wv (r:=rB true) (At Aa ha Aa) (wm Aa (wz Aa Aa (wz Aa Aa (wz Aa Aa (wu (wu (wu (wu (wu (wu (wu (wz Aa Aa (wv (r:=rB true) (At (b:=true) Aa Aa Aa) (Ao ?_))))))))))))))))))));exact BP ha
    ·refine wo ha (wm Aa (wo ha (wm Aa (wo ha (wv (Bg (enc:=Ab) (ys:=v) BF BJ Aa Aa (D3 hm ha)) (wo ha (wv (C7 H5 BJ Aa Aa Aa) (wo ha (BQ Tryz.call100 (Pk F (Ae v he) (ov (Ke F (Ae v he))) (DJ (D3 h0 ha))) Aa (wo ha (wv (Cg Aa) (Er Aa ha Aa (wm Aa (AQ (!(ov (Ke F (Ae v he)))) (λhd=>?_) (λhd=>?_)))))))))))))))
     ·refine wf hd (wf hd (wf hd (wu (wu (wu (wu (wu (wu (wu (wf hd (wv (r:=rB true) (At Aa hd Aa) (Ao ?_))))))))))));exact BP (And.intro ha hd)
     ·refine wo hd (wm Aa (wo hd (wv (De Aa Aa) (wo hd (wm Aa (AQ (decide (0<hf)) (λhb=>?_) (λhb=>?_)))))))
      ·refine wo hb (wm Aa (wo hb (wm Aa (wo hb (wv (Bg (enc:=Ab) (ys:=v) BF BJ Aa Aa (D3 hm ha)) (wo hb (wv (Be Bh Aa Dm Aa Aa) (wo hb (wv (Ba Dx Aa Aa) (wo hb (wm Aa (wo hb (wv (Pv Aa Aa) (wo hd (D4 Aa hb Aa (Er Aa hd Aa (Ao ?_)))))))))))))))));exact BP (And.intro ha (And.intro hd hb))
      ·refine wf hb (wf hb (wf hb (wf hb (wf hb (wf hb (wf hb (wo hd (wv (r:=rB false) (A4 Aa hb Aa) (Er Aa hd Aa (Ao ?_))))))))));exact BP (And.intro ha (And.intro hd hb))
   refine cz h1 Aa (λh2 h3=>?_) (λh2 h4=>?_)
   ·refine Af (wv (r:=Ai (-1)) (AC Aa) (As (Av (Ad (AB (Ad (Ad (Bt ?_))))))));have h5:=BN h3 hj hl;refine AB (Ad ?_);obtain rfl:=Aw h5;exact Au (BC Tryz.results102 (AH Aa)) sN ⟨Aa,Aa⟩
   ·refine A0 (AO (Af (wm Aa (wm Aa (ck h4 λh6 h7=>wv (Bg (enc:=Ab) (ys:=v) BF BJ Aa Aa h6) (wv (Be Bh Aa Dm Aa Aa) (wv (Ba Dx Aa Aa) (wa Aa (B1 (wm Aa (wm Aa (ck h7 λh8 h9=>wv (B0 Aa Aa h8) (ob h9 λhn hA hB=>BQ Jx (hp v (he+1) hn hA) Aa (wa Aa (B1 (wm Aa (wv (CO Aa Aa) (As (cz hB Aa (λhC hD=>?_) (λhC hE=>?_))))))))))))))))))))
    ·refine Af (wv (r:=Ai (-1)) (AC Aa) (As (Av (AB (Ad (Ad (Bt ?_)))))));have hG:=BN hD hj hl;refine AB (Ad ?_);obtain rfl:=Aw hG;exact Au (BC Tryz.results102 (AH Aa)) sN ⟨Aa,Aa⟩
    ·refine A0 (AV (AO (Ar (wm Aa (ck hE λhH hI=>wv (B0 Aa Aa hH) (wa Aa (Ao ?_)))))));have hJ:=Br hI hj;exact AF (AK (ht,(hn,(Ae v he).fStr,hf+1),()) ⟨hJ,ST _⟩ (AW.c5 Aa Aa Aa Aa Aa AW.nil) sN)
  ·refine B7 (A7 ?_);have hK:=BZ hy hj hl;exact A7 (Bp (AK (he,()) hK (AW.c Aa AW.nil) sN))
 ·rintro⟨ho,⟨⟩⟩ hk;refine CB (l':=[(1,Ai ho)]) (H':=[]) Aa Aa ?_;replace hk:Ec ho=some r:=hk;unfold Ec at hk;refine Bn (AO (Af (wm Aa (wa Aa (As (Av ?_))))));obtain rfl:=Aw hk;exact Au (BC Tryz.results102 (AH Aa)) sN ⟨Aa,Aa⟩
theorem ED:∀F:Nat,(∀(v:(List Ac)) (i:Int) (r:Int),Cz F v i=some r→Fn Tryz.prog GE 83 [AG 4 (Ay Ab v),Ai i] [] (λR H=>R=Ai r∧H=[]))∧(∀(v:(List Ac)) (i:Int) (n:Int) (r:Int),Ed F v i n=some r→Fn Tryz.prog GE 101 [AG 4 (Ay Ab v),Ai i,Ai n] [] (λR H=>R=Ai r∧H=[]))∧(∀(v:(List Ac)) (i:Int) (n:Int) (r:Int),Iy F v i n=some r→Fn Tryz.prog GE 102 [AG 4 (Ay Ab v),Ai i,Ai n] [] (λR H=>R=Ai r∧H=[]))
  | 0=>⟨(λ_ _ _ h=>by simp[Cz] at h),(λ_ _ _ _ h=>by simp[Ed] at h),(λ_ _ _ _ h=>by simp[Iy] at h)⟩
  | nn+1=>⟨(λv i r h=>Pj nn (Ed nn) (Iy nn) (ED nn).2.1 (ED nn).2.2 v i r (by rw[Cz] at h;exact h)),(λv i n r h=>La nn (Cz nn) (ED nn).1 v i n r (by rw[Ed] at h;exact h)),(λv i n r h=>NZ nn (Cz nn) (ED nn).1 v i n r (by rw[Iy] at h;exact h))⟩
theorem DV (F:Nat)(v:(List Ac))(i:Int)(r:Int)(h:Cz F v i=some r):Fn Tryz.prog GE 83 [AG 4 (Ay Ab v),Ai i] [] (λR H=>R=Ai r∧H=[]):=(ED F).1 v i r h
theorem Oc (F:Nat)(v:(List Ac))(r:Bool)(h:HJ F v=some r):Fn Tryz.prog GE 65 [AG 4 (Ay Ab v)] [] (λR H=>R=rB r∧H=[]):=by
 refine enter (n:=13) Tryz.func65 Aa Tryz.ntmps65 Aa (λw Z=>?_);unfold HJ at h;refine Af (wa Aa (As (ck h λg1 h2=>AL [(2,rB ((decide (0<(v.length:Int)))&&(decide ((ov (Cz F v 0))=(v.length:Int)))))] [] ?_ ?_)))
 ·refine Ar (wm Aa (wv (Bi (ys:=v) (enc:=Ab) BF Aa) (wv (De Aa Aa) (wm Aa (AQ (decide (0<(v.length:Int))) (λc3=>?_) (λc3=>?_))))))
  ·refine wo c3 (wm Aa (wo c3 (BQ Jx (DV F v 0 (ov (Cz F v 0)) (DJ (Cl g1 c3))) Aa (wo c3 (wm Aa (wo c3 (wv (Bi (ys:=v) (enc:=Ab) BF Aa) (wo c3 (wv (Bv Aa Aa) (D4 Aa c3 Aa (wa Aa (Ao ?_))))))))))));exact BP c3
  ·refine wf c3 (wf c3 (wf c3 (wf c3 (wf c3 (wv (r:=rB false) (A4 Aa c3 Aa) (wa Aa (Ao ?_)))))));exact BP c3
 refine Av ?_;obtain rfl:=Aw h2;exact Au (BC Tryz.results65 (AH Aa)) sN ⟨Aa,Aa⟩
theorem MF (F:Nat)(hf:(List Ac)→Int→Option (Int))(hj:(∀(v:(List Ac)) (i:Int) (r:Int),hf v i=some r→Fn Tryz.prog GE 66 [AG 4 (Ay Ab v),Ai i] [] (λR H=>R=Ai r∧H=[])))(v:(List Ac))(i:Int)(r:Int)(h:EE F hf v i=some r):Fn Tryz.prog GE 66 [AG 4 (Ay Ab v),Ai i] [] (λR H=>R=Ai r∧H=[]):=by
 refine enter (n:=47) Tryz.func66 Aa Tryz.ntmps66 Aa (λw Z=>?_);unfold EE at h;refine Af (wa Aa (B1 (wm Aa (wm Aa (ck h λg1 h2=>wv (Bg (enc:=Ab) (ys:=v) BF BJ Aa Aa g1) (wv (C7 H5 BJ Aa Aa Aa) (BA (cs:=[Ai 0,Ai 0,rS ([]:An),Ai 0]) GW Aa Aa (λb3=>?_))))))));refine A8 (i:=0) BJ Aa Aa Aa (AZ.c Aa) Aa Aa (cs':=[Ai ((Ae v i).fKind),Ai ((Ae v i).fInt),rS ((Ae v i).fStr),Ai ((Ae v i).fN)]) Aa (H':=[.blk b3 (Ab (Ae v i)) 63]) Aa (As (Aq (AL [(0,AG 4 (Ay Ab v)),(1,Ai i),(5,rP b3 0),(21,rB ((!decide (((Ae v i).fKind)=5))&&(!decide (((Ae v i).fKind)=6))))] [.blk b3 (Ab (Ae v i)) 63] ?_ ?_)))
 ·refine Ar (vF Bh Aa CS (vL 0 CU Aa (wv (CZ Aa Aa) (wm Aa (AQ (!decide (((Ae v i).fKind)=5)) (λc4=>?_) (λc4=>?_))))))
  ·refine wo c4 (vF Bh Aa CS (wo c4 (vL 0 CU Aa (wo c4 (wv (CZ Aa Aa) (D4 Aa c4 Aa (Ao ?_)))))));exact BP c4
  ·refine wf c4 (wf c4 (wf c4 (wv (r:=rB false) (A4 Aa c4 Aa) (Ao ?_))));exact BP c4
 refine cz h2 Aa (λc5 h6=>?_) (λc5 h7=>?_)
 ·refine Af (wa Aa (As (Av (Ad ?_))));obtain rfl:=Aw h6;exact Au (BC Tryz.results66 (AH Aa)) (sS sN) ⟨Aa,Aa⟩
 ·refine A0 (AO (Af (wa Aa (B1 (wm Aa (ck h7 λg8 h9=>wv (B0 Aa Aa g8) (wa Aa (As (Aq (Af (wa Aa (As (AU (ob h9 λhr hs ht=>B4 (S:=Nat×(Int×Int×Int)×(Unit)) (V:=(Int)×(Unit)) 0 (λσ=>Ck (λσ=>BW F v i hf σ.1 σ.2.1 σ.2.2) σ.1 σ.2.1=some hr) (λσ=>[(0,AG 4 (Ay Ab v)),(5,rP b3 0),(6,Ai σ.2.1.1),(7,Ai σ.2.1.2.1),(8,Ai σ.2.1.2.2)]) (λσ=>[.blk b3 (Ab (Ae v i)) 63]) (λσ=>σ.1) (F,(0,i+1,0),()) hs (AW.c5 Aa Aa Aa Aa Aa AW.nil) (sC sN) (λσ=>CL σ.1=some r) (λσ=>[(6,Ai σ.1)]) (λσ=>[]) ?_ ?_))))))))))))))
  ·rintro⟨gi,⟨hd,ha,hb⟩,⟨⟩⟩ hu;refine Co (l':=[(0,AG 4 (Ay Ab v)),(5,rP b3 0),(6,Ai hd),(7,Ai ha),(8,Ai hb)]) (H':=[.blk b3 (Ab (Ae v i)) 63]) Aa Aa ?_;obtain⟨hg,rfl,hw,hh,he⟩:=CC hu;replace hh:BW F v i hf hd ha hb=some hw:=hh;unfold BW at hh;refine Aq (Af (wm Aa (vF Bh Aa Cq (vL 0 Dk Aa (wv (CO Aa Aa) (As (cz hh Aa (λhx hy=>?_) (λhx hz=>?_))))))))
   ·refine A0 (AO (Aq (AU (Aq (Af (vF Bh Aa CS (vL 0 CU Aa (wv (Bv Aa Aa) (As (cz hy Aa (λh0 h1=>?_) (λh0 h3=>?_)))))))))))
    ·refine Ar (wm Aa (ck h1 λh4 h5=>wv (B0 Aa Aa h4) (wa Aa (B1 (wm Aa (wm Aa (ob h5 λhk h8 hA=>BQ Tryz.call66 (hj v (ha+1) hk h8) Aa (wa Aa (As (Aq (Af (wm Aa (wm Aa (wv (De Aa Aa) (As (cz hA Aa (λhB hC=>?_) (λhB hD=>?_)))))))))))))))))
     ·refine Ar (wm Aa (wa Aa (As (Ar (wm Aa (wm Aa (ob hC λhl hE hG=>BQ Jx (DV F v (ha+1) hl hE) Aa (wa Aa (Ao (AV (AO (Ar (wm Aa (ck hG λhH hI=>wv (B0 Aa Aa hH) (wa Aa (Ao ?_))))))))))))))));have hJ:=Br hI he;exact AF (AK (hg,(hk,hl,hb+1),()) ⟨hJ,ST _⟩ (AW.c5 Aa Aa Aa Aa Aa AW.nil) (sC sN))
     ·refine A0 (AO (Ar (wm Aa (wm Aa (ob hD λhm hK hL=>BQ Jx (DV F v (ha+1) hm hK) Aa (wa Aa (Ao (AV (AO (Ar (wm Aa (ck hL λhN hO=>wv (B0 Aa Aa hN) (wa Aa (Ao ?_))))))))))))));have hP:=Br hO he;exact AF (AK (hg,(hd,hm,hb+1),()) ⟨hP,ST _⟩ (AW.c5 Aa Aa Aa Aa Aa AW.nil) (sC sN))
    ·refine A0 (AO (Af (wm Aa (wm Aa (ob h3 λhn hQ hR=>BQ Tryz.call66 (hj v ha hn hQ) Aa (wa Aa (As (Aq (Af (wm Aa (wm Aa (wv (De Aa Aa) (As (cz hR Aa (λhS hT=>?_) (λhS hU=>?_)))))))))))))))
     ·refine Ar (wm Aa (wa Aa (As (Ar (wm Aa (wm Aa (ob hT λho hV hW=>BQ Jx (DV F v ha ho hV) Aa (wa Aa (Ao (AV (AO (Ar (wm Aa (ck hW λhX hY=>wv (B0 Aa Aa hX) (wa Aa (Ao ?_))))))))))))))));have hZ:=Br hY he;exact AF (AK (hg,(hn,ho,hb+1),()) ⟨hZ,ST _⟩ (AW.c5 Aa Aa Aa Aa Aa AW.nil) (sC sN))
     ·refine A0 (AO (Ar (wm Aa (wm Aa (ob hU λhp ga gb=>BQ Jx (DV F v ha hp ga) Aa (wa Aa (Ao (AV (AO (Ar (wm Aa (ck gb λgc gd=>wv (B0 Aa Aa gc) (wa Aa (Ao ?_))))))))))))));have ge:=Br gd he;exact AF (AK (hg,(hd,hp,hb+1),()) ⟨ge,ST _⟩ (AW.c5 Aa Aa Aa Aa Aa AW.nil) (sC sN))
   ·refine B7 (A7 ?_);have gf:=BZ hz he ht;exact A7 (Bp (AK (hd,()) gf (AW.c Aa AW.nil) (sS sN)))
  ·rintro⟨hq,⟨⟩⟩ hi;refine CB (l':=[(6,Ai hq)]) (H':=[]) Aa Aa ?_;replace hi:CL hq=some r:=hi;unfold CL at hi;refine Bn (AO (Af (wm Aa (ck hi λgg gh=>wv (B0 Aa Aa gg) (wa Aa (As (Av ?_)))))));obtain rfl:=Aw gh;exact Au (BC Tryz.results66 (AH Aa)) sN ⟨Aa,Aa⟩
theorem IQ:∀F:Nat,(∀(v:(List Ac)) (i:Int) (r:Int),Ci F v i=some r→Fn Tryz.prog GE 66 [AG 4 (Ay Ab v),Ai i] [] (λR H=>R=Ai r∧H=[]))
  | 0=>(λ_ _ _ h=>by simp[Ci] at h)
  | nn+1=>(λv i r h=>MF nn (Ci nn) (IQ nn) v i r (by rw[Ci] at h;exact h))
theorem Ob (F:Nat)(v:(List Ac))(i:Int)(r:Int)(h:Ci F v i=some r):Fn Tryz.prog GE 66 [AG 4 (Ay Ab v),Ai i] [] (λR H=>R=Ai r∧H=[]):=(IQ F) v i r h
theorem Ix (F:Nat)(s:An)(r:An)(h:ER F s=some r):Fn Tryz.prog GE 85 [rS s] [] (λR H=>R=rS r∧H=[]):=by
 refine enter (n:=32) Tryz.func85 Aa Tryz.ntmps85 Aa (λw Z=>?_);unfold ER at h;refine Af (wv (r:=rS ([]:An)) (AC Aa) (B1 (wv (r:=rS ([34]:An)) (AC Aa) (As (Aq (Af (wa Aa (As (AU (ob h λhm hn ho=>B4 (S:=Nat×(An×Int)×(Unit)) (V:=(An)×(Unit)) 0 (λσ=>Ck (λσ=>Ce s σ.1 σ.2) σ.1 σ.2.1=some hm) (λσ=>[(0,rS s),(3,rS σ.2.1.1),(4,Ai σ.2.1.2)]) (λσ=>[]) (λσ=>σ.1) (F,(([34]:An),0),()) hn (AW.c Aa (AW.c Aa (AW.c Aa AW.nil))) sN (λσ=>C3 σ.1=some r) (λσ=>[(3,rS σ.1)]) (λσ=>[]) ?_ ?_))))))))))
 ·rintro⟨hL,⟨hd,ha⟩,⟨⟩⟩ hp;refine Co (l':=[(0,rS s),(3,rS hd),(4,Ai ha)]) (H':=[]) Aa Aa ?_;obtain⟨hh,rfl,hq,he,hg⟩:=CC hp;replace he:Ce s hd ha=some hq:=he;unfold Ce at he;refine Aq (Af (wm Aa (wm Aa (wv (Cb DM Aa) (wv (CO Aa Aa) (As (cz he Aa (λhr hs=>?_) (λhr ht=>?_))))))))
  ·refine A0 (AO (Aq (AU (Aq (ck hs λhi hu=>AL [(0,rS s),(3,rS hd),(4,Ai ha),(20,rB ((decide ((Ih s ha)=34))||(decide ((Ih s ha)=92))))] [] ?_ ?_)))))
   ·refine Ar (wm Aa (wm Aa (wv (Dq DM Aa Aa hi) (wv (Bv Aa Aa) (wm Aa (AQ (decide ((Ih s ha)=34)) (λhb=>?_) (λhb=>?_)))))))
    ·refine wf hb (wf hb (wf hb (wf hb (wv (r:=rB true) (At Aa hb Aa) (Ao ?_)))));exact BP hb
    ·refine wo hb (wm Aa (wo hb (wm Aa (wo hb (wv (Dq DM Aa Aa hi) (wo hb (wv (Bv Aa Aa) (Er Aa hb Aa (Ao ?_)))))))));exact BP hb
   refine cz hu Aa (λhw hx=>?_) (λhw hy=>?_)
   ·refine Ar (wm Aa (ck hx λhz h0=>wv (C9 Aa Aa hz) (wa Aa (As (Ar (wm Aa (wm Aa (wm Aa (wm Aa (ck h0 λhj h1=>wv (B0 Aa Aa hj) (ck h1 λh2 h3=>ck h3 λh4 h5=>wv (Hn DM Aa Aa Aa h2 h4) (ck h5 λh6 h7=>wv (C9 Aa Aa h6) (wa Aa (Ao (AV (AO (Ar (wm Aa ?_))))))))))))))))));refine wv (B0 Aa Aa hj) (wa Aa (Ao ?_));have h8:=Br h7 hg;exact AF (AK (hh,((hd++([92]:An))++(List.take (C6 (ha+1)-C6 ha) (List.drop (C6 ha) s)),ha+1),()) ⟨h8,ST _⟩ (AW.c Aa (AW.c Aa (AW.c Aa AW.nil))) sN)
   ·refine A0 (AO (Ar (wm Aa (wm Aa (wm Aa (wm Aa (ck hy λhk h9=>wv (B0 Aa Aa hk) (ck h9 λhA hB=>ck hB λhC hD=>wv (Hn DM Aa Aa Aa hA hC) (ck hD λhE hG=>wv (C9 Aa Aa hE) (wa Aa (Ao (AV (AO (Ar (wm Aa (wv (B0 Aa Aa hk) (wa Aa (Ao ?_))))))))))))))))));have hH:=Br hG hg;exact AF (AK (hh,(hd++(List.take (C6 (ha+1)-C6 ha) (List.drop (C6 ha) s)),ha+1),()) ⟨hH,ST _⟩ (AW.c Aa (AW.c Aa (AW.c Aa AW.nil))) sN)
  ·refine B7 (A7 ?_);have hI:=BZ ht hg ho;exact A7 (Bp (AK (hd,()) hI (AW.c Aa AW.nil) sN))
 ·rintro⟨hl,⟨⟩⟩ hf;refine CB (l':=[(3,rS hl)]) (H':=[]) Aa Aa ?_;replace hf:C3 hl=some r:=hf;unfold C3 at hf;refine Bn (AO (Af (wm Aa (ck hf λhJ hK=>wv (C9 Aa Aa hJ) (wa Aa (As (Av ?_)))))));obtain rfl:=Aw hK;exact Au (BC Tryz.results85 (AH Aa)) sN ⟨Aa,Aa⟩
theorem Pg (F:Nat)(hf:(List Ac)→Int→Option (An))(hg:(∀(v:(List Ac)) (i:Int) (r:An),hf v i=some r→Fn Tryz.prog GE 67 [AG 4 (Ay Ab v),Ai i] [] (λR H=>R=rS r∧H=[])))(v:(List Ac))(i:Int)(r:An)(h:Iv F hf v i=some r):Fn Tryz.prog GE 67 [AG 4 (Ay Ab v),Ai i] [] (λR H=>R=rS r∧H=[]):=by
 refine enter (n:=77) Tryz.func67 Aa Tryz.ntmps67 Aa (λw Z=>?_);unfold Iv at h;refine Af (wv (r:=rS ([]:An)) (AC Aa) (B1 (wm Aa (wm Aa (ck h λg1 h2=>wv (Bg (enc:=Ab) (ys:=v) BF BJ Aa Aa g1) (wv (C7 H5 BJ Aa Aa Aa) (BA (cs:=[Ai 0,Ai 0,rS ([]:An),Ai 0]) GW Aa Aa (λb3=>?_))))))));refine A8 (i:=0) BJ Aa Aa Aa (AZ.c Aa) Aa Aa (cs':=[Ai ((Ae v i).fKind),Ai ((Ae v i).fInt),rS ((Ae v i).fStr),Ai ((Ae v i).fN)]) Aa (H':=[.blk b3 (Ab (Ae v i)) 63]) Aa (As (Aq (Af (vF Bh Aa CS (vL 0 CU Aa (wv (Bv Aa Aa) (As (cz h2 Aa (λc4 h5=>?_) (λc4 h6=>?_)))))))))
 ·refine Af (wv (r:=rS ([110,117,108,108]:An)) (AC Aa) (As (Av (Ad ?_))));obtain rfl:=Aw h5;exact Au (BC M9 (AH Aa)) (sS sN) ⟨Aa,Aa⟩
 ·refine A0 (AO (Aq (Af (vF Bh Aa CS (vL 0 CU Aa (wv (Bv Aa Aa) (As (cz h6 Aa (λc7 h8=>?_) (λc7 hw=>?_)))))))))
  ·refine Aq (Af (vF Bh Aa Cq (vL 0 Dk Aa (wv (Bv Aa Aa) (As (cz h8 Aa (λc9 hx=>?_) (λc9 hy=>?_)))))))
   ·refine Af (wv (r:=rS ([116,114,117,101]:An)) (AC Aa) (As (Av (Ad (Ad ?_)))));obtain rfl:=Aw hx;exact Au (BC M9 (AH Aa)) (sS sN) ⟨Aa,Aa⟩
   ·refine A0 (AO (Af (wv (r:=rS ([102,97,108,115,101]:An)) (AC Aa) (As (Av (Ad ?_))))));obtain rfl:=Aw hy;exact Au (BC M9 (AH Aa)) (sS sN) ⟨Aa,Aa⟩
  ·refine A0 (AO (Aq (Af (vF Bh Aa CS (vL 0 CU Aa (wv (Bv Aa Aa) (As (cz hw Aa (λhz h0=>?_) (λhz h1=>?_)))))))))
   ·refine Af (vF Bh Aa Cq (vL 0 Dk Aa (ck h0 λh3 h4=>EO (rs:=[Ai ((Ae v i).fInt)]) (r:=rS (Lib.itoa ((Ae v i).fInt))) Tryz.call84 Aa (R0 ((Ae v i).fInt) h3) Aa Aa (wa Aa (As (Av (Ad ?_)))))));obtain rfl:=Aw h4;exact Au (BC M9 (AH Aa)) (sS sN) ⟨Aa,Aa⟩
   ·refine A0 (AO (Aq (Af (vF Bh Aa CS (vL 0 CU Aa (wv (Bv Aa Aa) (As (cz h1 Aa (λh7 h9=>?_) (λh7 hA=>?_)))))))))
    ·refine Af (vF Bh Aa Dm (vL 0 Dx Aa (ob h9 λhB hC hD=>BQ Tryz.call85 (Ix F ((Ae v i).fStr) hB hC) Aa (wa Aa (As (Av (Ad ?_)))))));obtain rfl:=Aw hD;exact Au (BC M9 (AH Aa)) (sS sN) ⟨Aa,Aa⟩
    ·refine A0 (AO (Af (wv (r:=rS ([]:An)) (AC Aa) (B1 (wm Aa (ck hA λhE hG=>wv (B0 Aa Aa hE) (wa Aa (As (Aq (Af (wa Aa (As (AU (ob hG λhH hI hJ=>B4 (S:=Nat×(An×Int×Int)×(Unit)) (V:=(An)×(Unit)) 0 (λσ=>Ck (λσ=>CK F v i hf σ.1 σ.2.1 σ.2.2) σ.1 σ.2.1=some hH) (λσ=>[(0,AG 4 (Ay Ab v)),(4,rS ([]:An)),(5,rP b3 0),(6,rS σ.2.1.1),(7,Ai σ.2.1.2.1),(8,Ai σ.2.1.2.2)]) (λσ=>[.blk b3 (Ab (Ae v i)) 63]) (λσ=>σ.1) (F,(([]:An),i+1,0),()) hI (AW.c Aa (AW.c5 Aa Aa Aa Aa Aa AW.nil)) (sC sN) (λσ=>El v i σ.1=some r) (λσ=>[(4,rS ([]:An)),(5,rP b3 0),(6,rS σ.1)]) (λσ=>[.blk b3 (Ab (Ae v i)) 63]) ?_ ?_))))))))))))))
     ·rintro⟨cm,⟨hb,ha,hd⟩,⟨⟩⟩ hK;refine Co (l':=[(0,AG 4 (Ay Ab v)),(4,rS ([]:An)),(5,rP b3 0),(6,rS hb),(7,Ai ha),(8,Ai hd)]) (H':=[.blk b3 (Ab (Ae v i)) 63]) Aa Aa ?_;obtain⟨hh,rfl,hL,hi,he⟩:=CC hK;replace hi:CK F v i hf hb ha hd=some hL:=hi;unfold CK at hi;refine Aq (Af (wm Aa (vF Bh Aa Cq (vL 0 Dk Aa (wv (CO Aa Aa) (As (cz hi Aa (λhN hO=>?_) (λhN hP=>?_))))))))
      ·refine A0 (AO (Aq (AU (Aq (Af (wm Aa (wv (De Aa Aa) (As (cz hO Aa (λhQ hR=>?_) (λhQ hS=>?_))))))))))
       ·refine Ar (wm Aa (ck hR λhT hU=>wv (C9 Aa Aa hT) (wa Aa (As (Aq (Af (vF Bh Aa CS (vL 0 CU Aa (wv (Bv Aa Aa) (As (cz hU Aa (λhV hW=>?_) (λhV hX=>?_))))))))))))
        ·refine Af (wm Aa (wm Aa (wm Aa (ck hW λhY hZ=>wv (Bg (enc:=Ab) (ys:=v) BF BJ Aa Aa hY) (wv (Be Bh Aa Dm Aa Aa) (wv (Ba Dx Aa Aa) (ob hZ λhk ga gb=>BQ Tryz.call85 (Ix F ((Ae v ha).fStr) hk ga) Aa (ck gb λgc gd=>wv (C9 Aa Aa gc) (ck gd λge gf=>wv (C9 Aa Aa ge) (wa Aa (As (Ar (wm Aa (ck gf λgg gh=>wv (B0 Aa Aa gg) (wa Aa (B1 (wm Aa (wm Aa ?_))))))))))))))))));refine wm Aa (ob gh λhl gi gj=>BQ OR (hg v (ha+1) hl gi) Aa (ck gj λgl gm=>wv (C9 Aa Aa gl) (wa Aa (As (Ar (wm Aa (wm Aa (ob gm λhm gp gq=>BQ Jx (DV F v (ha+1) hm gp) Aa (wa Aa (Ao (AV (AO (Ar (wm Aa (ck gq λgr gs=>wv (B0 Aa Aa gr) (wa Aa (Ao ?_)))))))))))))))));have gt:=Br gs he;exact AF (AK (hh,((((hb++([44]:An))++hk)++([58]:An))++hl,hm,hd+1),()) ⟨gt,ST _⟩ (AW.c Aa (AW.c5 Aa Aa Aa Aa Aa AW.nil)) (sC sN))
        ·refine A0 (AO (Af (wm Aa (wm Aa (wm Aa (ob hX λhn gu gv=>BQ OR (hg v ha hn gu) Aa (ck gv λgw gx=>wv (C9 Aa Aa gw) (wa Aa (As (Ar (wm Aa (wm Aa (ob gx λho gy gz=>BQ Jx (DV F v ha ho gy) Aa (wa Aa (Ao (AV (AO (Ar (wm Aa (ck gz λg0 g2=>?_))))))))))))))))))));refine wv (B0 Aa Aa g0) (wa Aa (Ao ?_));have g3:=Br g2 he;exact AF (AK (hh,((hb++([44]:An))++hn,ho,hd+1),()) ⟨g3,ST _⟩ (AW.c Aa (AW.c5 Aa Aa Aa Aa Aa AW.nil)) (sC sN))
       ·refine A0 (AO (Aq (Af (vF Bh Aa CS (vL 0 CU Aa (wv (Bv Aa Aa) (As (cz hS Aa (λg4 g5=>?_) (λg4 g6=>?_)))))))))
        ·refine Af (wm Aa (wm Aa (wm Aa (ck g5 λg7 g8=>wv (Bg (enc:=Ab) (ys:=v) BF BJ Aa Aa g7) (wv (Be Bh Aa Dm Aa Aa) (wv (Ba Dx Aa Aa) (ob g8 λhp g9 gA=>BQ Tryz.call85 (Ix F ((Ae v ha).fStr) hp g9) Aa (ck gA λgB gC=>wv (C9 Aa Aa gB) (ck gC λgD gE=>wv (C9 Aa Aa gD) (wa Aa (As (Ar (wm Aa (ck gE λgF gG=>wv (B0 Aa Aa gF) (wa Aa (B1 (wm Aa (wm Aa ?_))))))))))))))))));refine wm Aa (ob gG λhq gH gI=>BQ OR (hg v (ha+1) hq gH) Aa (ck gI λgJ gK=>wv (C9 Aa Aa gJ) (wa Aa (As (Ar (wm Aa (wm Aa (ob gK λhr gL gM=>BQ Jx (DV F v (ha+1) hr gL) Aa (wa Aa (Ao (AV (AO (Ar (wm Aa (ck gM λgN gO=>wv (B0 Aa Aa gN) (wa Aa (Ao ?_)))))))))))))))));have gP:=Br gO he;exact AF (AK (hh,(((hb++hp)++([58]:An))++hq,hr,hd+1),()) ⟨gP,ST _⟩ (AW.c Aa (AW.c5 Aa Aa Aa Aa Aa AW.nil)) (sC sN))
        ·refine A0 (AO (Af (wm Aa (wm Aa (wm Aa (ob g6 λhs gQ gR=>BQ OR (hg v ha hs gQ) Aa (ck gR λgS gT=>wv (C9 Aa Aa gS) (wa Aa (As (Ar (wm Aa (wm Aa (ob gT λht gU gV=>BQ Jx (DV F v ha ht gU) Aa (wa Aa (Ao (AV (AO (Ar (wm Aa (ck gV λgW gX=>?_))))))))))))))))))));refine wv (B0 Aa Aa gW) (wa Aa (Ao ?_));have gY:=Br gX he;exact AF (AK (hh,(hb++hs,ht,hd+1),()) ⟨gY,ST _⟩ (AW.c Aa (AW.c5 Aa Aa Aa Aa Aa AW.nil)) (sC sN))
      ·refine B7 (A7 ?_);have gZ:=BZ hP he hJ;exact A7 (Bp (AK (hb,()) gZ (AW.c Aa (AW.c Aa (AW.c Aa AW.nil))) (sC sN)))
     ·rintro⟨hu,⟨⟩⟩ hj;refine CB (l':=[(4,rS ([]:An)),(5,rP b3 0),(6,rS hu)]) (H':=[.blk b3 (Ab (Ae v i)) 63]) Aa Aa ?_;replace hj:El v i hu=some r:=hj;unfold El at hj;refine Bn (AO (Aq (Af (vF Bh Aa CS (vL 0 CU Aa (wv (Bv Aa Aa) (As (cz hj Aa (λca cb=>?_) (λca cc=>?_)))))))))
      ·refine Af (wm Aa (ck cb λcd ce=>wv (C9 Aa Aa cd) (ck ce λcf cg=>wv (C9 Aa Aa cf) (wa Aa (As (Av (Ad ?_)))))));obtain rfl:=Aw cg;exact Au (BC M9 (AH Aa)) (sS sN) ⟨Aa,Aa⟩
      ·refine A0 (AO (Af (wm Aa (ck cc λch ci=>wv (C9 Aa Aa ch) (ck ci λcj cl=>wv (C9 Aa Aa cj) (wa Aa (As (Av ?_))))))));obtain rfl:=Aw cl;exact Au (BC M9 (AH Aa)) (sS sN) ⟨Aa,Aa⟩
theorem Kw:∀F:Nat,(∀(v:(List Ac)) (i:Int) (r:An),DO F v i=some r→Fn Tryz.prog GE 67 [AG 4 (Ay Ab v),Ai i] [] (λR H=>R=rS r∧H=[]))
  | 0=>(λ_ _ _ h=>by simp[DO] at h)
  | nn+1=>(λv i r h=>Pg nn (DO nn) (Kw nn) v i r (by rw[DO] at h;exact h))
theorem Qw (F:Nat)(v:(List Ac))(i:Int)(r:An)(h:DO F v i=some r):Fn Tryz.prog GE 67 [AG 4 (Ay Ab v),Ai i] [] (λR H=>R=rS r∧H=[]):=(Kw F) v i r h
theorem J5 (F:Nat)(v:(List Ac))(r:Int)(h:Gt F v=some r):Fn Tryz.prog GE 41 [AG 4 (Ay Ab v)] [] (λR H=>R=Ai r∧H=[]):=by
 refine enter (n:=61) Tryz.func41 Aa Tryz.ntmps41 Aa (λw Z=>?_);unfold Gt at h;refine Af (wa Aa (As (Aq (Af (wm Aa (ob h λr1 e3 h2=>BQ Tryz.call65 (Oc F v r1 e3) Aa (wv (Cg Aa) (As (cz h2 Aa (λc4 h5=>?_) (λc4 h6=>?_))))))))))
 ·refine Af (wa Aa (As (Av (Ad ?_))));obtain rfl:=Aw h5;exact Au (BC NO (AH Aa)) sN ⟨Aa,Aa⟩
 ·refine A0 (AO (Aq (Af (wa Aa (As (AU (ob h6 λhp hq hn=>B4 (S:=Nat×(Int)×(Unit)) (V:=(Unit)×(Unit)) 0 (λσ=>Ck (λσ=>CX v σ) σ.1 σ.2.1=some hp) (λσ=>[(0,AG 4 (Ay Ab v)),(3,Ai σ.2.1)]) (λσ=>[]) (λσ=>σ.1) (F,0,()) hq (AW.c Aa (AW.c Aa AW.nil)) sN (λσ=>EG F v =some r) (λσ=>[(0,AG 4 (Ay Ab v))]) (λσ=>[]) ?_ ?_)))))))
  ·rintro⟨ge,he,⟨⟩⟩ hr;refine Co (l':=[(0,AG 4 (Ay Ab v)),(3,Ai he)]) (H':=[]) Aa Aa ?_;obtain⟨hs,rfl,t46,hf,hj⟩:=CC hr;replace hf:CX v he=some t46:=hf;unfold CX at hf;refine Aq (Af (wm Aa (wm Aa (wv (Bi (ys:=v) (enc:=Ab) BF Aa) (wv (CO Aa Aa) (As (cz hf Aa (λht hu=>?_) (λht hw=>?_))))))))
   ·refine A0 (AO (Aq (AU (ck hu λhk hx=>AL [(0,AG 4 (Ay Ab v)),(3,Ai he),(35,rB ((decide (((Ae v he).fKind)=3))&&((decide (((Ae v he).fInt)<(-1000000000000)))||(decide (1000000000000<((Ae v he).fInt))))))] [] ?_ ?_))))
    ·refine Ar (wm Aa (wm Aa (wv (Bg (enc:=Ab) (ys:=v) BF BJ Aa Aa hk) (wv (Be Bh Aa CS Aa Aa) (wv (Ba CU Aa Aa) (wv (Bv Aa Aa) (wm Aa (AQ (decide (((Ae v he).fKind)=3)) (λha=>?_) (λha=>?_)))))))))
     ·refine wo ha (wm Aa (wo ha (wm Aa (wo ha (wv (Bg (enc:=Ab) (ys:=v) BF BJ Aa Aa hk) (wo ha (wv (Be Bh Aa Cq Aa Aa) (wo ha (wv (Ba Dk Aa Aa) (wo ha (wv (CO Aa Aa) (wo ha (wm Aa (AQ (decide (((Ae v he).fInt)<(-1000000000000))) (λhb=>?_) (λhb=>?_)))))))))))))))
      ·refine wf hb (wf hb (wf hb (wf hb (wf hb (wf hb (wo ha (wv (r:=rB true) (At Aa hb Aa) (D4 Aa ha Aa (Ao ?_)))))))));exact BP (And.intro ha hb)
      ·refine wo hb (wm Aa (wo hb (wm Aa (wo hb (wv (Bg (enc:=Ab) (ys:=v) BF BJ Aa Aa hk) (wo hb (wv (Be Bh Aa Cq Aa Aa) (wo hb (wv (Ba Dk Aa Aa) (wo hb (wv (De Aa Aa) (wo ha (Er Aa hb Aa (D4 Aa ha Aa (Ao ?_)))))))))))))));exact BP (And.intro ha hb)
     ·refine wf ha (wf ha (wf ha (wf ha (wf ha (wf ha (wf ha (wu (wu (wu (wu (wu (wu (wf ha (wv (r:=rB false) (A4 Aa ha Aa) (Ao ?_)))))))))))))));exact BP ha
    refine cz hx Aa (λhy hz=>?_) (λhy h0=>?_)
    ·refine Af (wa Aa (As (Av (AB (Ad (Ad (Bt ?_)))))));have h1:=BN hz hj hn;refine AB (Ad ?_);obtain rfl:=Aw h1;exact Au (BC NO (AH Aa)) sN ⟨Aa,Aa⟩
    ·refine A0 (AV (AO (Ar (wm Aa (ck h0 λh3 h4=>wv (B0 Aa Aa h3) (wa Aa (Ao ?_)))))));have h7:=Br h4 hj;exact AF (AK (hs,he+1,()) ⟨h7,ST _⟩ (AW.c Aa (AW.c Aa AW.nil)) sN)
   ·refine B7 (A7 ?_);have h8:=BZ hw hj hn;exact A7 (Bp (AK ((),()) h8 (AW.c Aa AW.nil) sN))
  ·rintro⟨⟨⟩,⟨⟩⟩ hg;refine CB (l':=[(0,AG 4 (Ay Ab v))]) (H':=[]) Aa Aa ?_;replace hg:EG F v =some r:=hg;unfold EG at hg;refine Bn (AO (Aq (ck hg λh9 hA=>AL [(0,AG 4 (Ay Ab v)),(43,rB ((decide (200<(v.length:Int)))||(decide (8<(ov (Ci F v 0))))))] [] ?_ ?_)))
   ·refine Ar (wm Aa (wv (Bi (ys:=v) (enc:=Ab) BF Aa) (wv (De Aa Aa) (wm Aa (AQ (decide (200<(v.length:Int))) (λhd=>?_) (λhd=>?_))))))
    ·refine wf hd (wf hd (wf hd (wv (r:=rB true) (At Aa hd Aa) (Ao ?_))));exact BP hd
    ·refine wo hd (wm Aa (wo hd (BQ Tryz.call66 (Ob F v 0 (ov (Ci F v 0)) (DJ (D3 h9 hd))) Aa (wo hd (wv (De Aa Aa) (Er Aa hd Aa (Ao ?_)))))));exact BP hd
   refine cz hA Aa (λhB hC=>?_) (λhB hD=>?_)
   ·refine Af (wa Aa (As (Av (Ad ?_))));obtain rfl:=Aw hC;exact Au (BC NO (AH Aa)) sN ⟨Aa,Aa⟩
   ·refine A0 (AO (Aq (Af (wa Aa (As (AU (ob hD λhE hG ho=>B4 (S:=Nat×(Int)×(Unit)) (V:=(Unit)×(Unit)) 2 (λσ=>Ck (λσ=>CW v σ) σ.1 σ.2.1=some hE) (λσ=>[(0,AG 4 (Ay Ab v)),(4,Ai σ.2.1)]) (λσ=>[]) (λσ=>σ.1) (F,0,()) hG (AW.c Aa (AW.c Aa AW.nil)) sN (λσ=>EF F v =some r) (λσ=>[(0,AG 4 (Ay Ab v))]) (λσ=>[]) ?_ ?_)))))))
    ·rintro⟨gf,hl,⟨⟩⟩ hH;refine Co (l':=[(0,AG 4 (Ay Ab v)),(4,Ai hl)]) (H':=[]) Aa Aa ?_;obtain⟨hI,rfl,hJ,hh,hm⟩:=CC hH;replace hh:CW v hl=some hJ:=hh;unfold CW at hh;refine Aq (Af (wm Aa (wm Aa (wv (Bi (ys:=v) (enc:=Ab) BF Aa) (wv (CO Aa Aa) (As (cz hh Aa (λhK hL=>?_) (λhK hN=>?_))))))))
     ·refine A0 (AO (Aq (AU (Af (wm Aa (wm Aa (ck hL λhO hP=>wv (Bg (enc:=Ab) (ys:=v) BF BJ Aa Aa hO) (wv (Be Bh Aa Dm Aa Aa) (wv (Ba Dx Aa Aa) (wv (Cb DM Aa) (wv (De Aa Aa) (As (cz hP Aa (λhQ hR=>?_) (λhQ hS=>?_))))))))))))))
      ·refine Af (wa Aa (As (Av (AB (Ad (Ad (Bt ?_)))))));have hT:=BN hR hm ho;refine AB (Ad ?_);obtain rfl:=Aw hT;exact Au (BC NO (AH Aa)) sN ⟨Aa,Aa⟩
      ·refine A0 (AV (AO (Ar (wm Aa (ck hS λhU hV=>wv (B0 Aa Aa hU) (wa Aa (Ao ?_)))))));have hW:=Br hV hm;exact AF (AK (hI,hl+1,()) ⟨hW,ST _⟩ (AW.c Aa (AW.c Aa AW.nil)) sN)
     ·refine B7 (A7 ?_);have hX:=BZ hN hm ho;exact A7 (Bp (AK ((),()) hX (AW.c Aa AW.nil) sN))
    ·rintro⟨⟨⟩,⟨⟩⟩ hi;refine CB (l':=[(0,AG 4 (Ay Ab v))]) (H':=[]) Aa Aa ?_;replace hi:EF F v =some r:=hi;unfold EF at hi;refine Bn (AO (Aq (Af (wm Aa (ob hi λhY hZ ga=>BQ OR (Qw F v 0 hY hZ) Aa (wv (Cb DM Aa) (wv (De Aa Aa) (As (cz ga Aa (λgb gc=>?_) (λgb gd=>?_))))))))))
     ·refine Af (wa Aa (As (Av (Ad ?_))));obtain rfl:=Aw gc;exact Au (BC NO (AH Aa)) sN ⟨Aa,Aa⟩
     ·refine A0 (AO (Af (wa Aa (As (Av ?_)))));obtain rfl:=Aw gd;exact Au (BC NO (AH Aa)) sN ⟨Aa,Aa⟩
end Go.Proofs.YtfbmdidnlhifjaaGreatDoor.Q
namespace Go.Proofs.YtfbmdidnlhifjaaGreatDoor
open Go
set_option linter.unusedVariables false
structure Az where
 fPairs:Bool
 fLeft:Int
 fKey:Bool
 fLast:An
 fStarted:Bool
 deriving DecidableEq,Inhabited
structure A9 where
 fDepth:Int
 fBytes:Int
 fOutside:Bool
 fLong:Bool
 deriving DecidableEq,Inhabited
def Bl (n:Int):Option (Bool):=
 some ((decide ((-1000000000000)≤n))&&(decide (n≤1000000000000)))
def EB (s:An)(ha:Int):Option (Stp (Int) (Out (Bool) (Unit))):=
 Bq (decide (ha<(s.length:Int))) (Bm (Cd ha (s.length:Int))<|Bq (((decide ((Ih s ha)<32))||(decide (126<(Ih s ha))))) (some (.out (.ret false))) (Bm (BO .i64 (ha+1))<|some (.next (ha+1)))) (some (.out (.go ())))
def EA :Option (Bool):=
 some true
def H7 (F:Nat)(s:An):Option (Bool):=
 B5 (Ck (λσ=>EB s σ) F 0) (BU λν=>EA )
def G6 (s:An):Option (Int):=
 Bm (BO .i64 ((s.length:Int)+2))<|Bm (BO .i64 (((s.length:Int)+2)+(Lib.countByte s 34:Int)))<|Bm (BO .i64 ((((s.length:Int)+2)+(Lib.countByte s 34:Int))+(Lib.countByte s 92:Int)))<|some ((((s.length:Int)+2)+(Lib.countByte s 34:Int))+(Lib.countByte s 92:Int))
def J1 (F:Nat)(c:Ac):Option (Bool):=
 Bq (decide (c.fKind=1)) (some ((decide (c.fInt=0))&&((decide (c.fStr=([]:An)))&&(decide (c.fN=0))))) (Bq (decide (c.fKind=2)) (some (bif decide (c.fInt=0) then((decide (c.fStr=([]:An)))&&(decide (c.fN=0))) else((decide (c.fInt=1))&&((decide (c.fStr=([]:An)))&&(decide (c.fN=0)))))) (Bq (decide (c.fKind=3)) (some ((decide (c.fStr=([]:An)))&&(decide (c.fN=0)))) (Bq (decide (c.fKind=4)) (Bm (imp (decide (c.fInt=0)) (imp (decide (c.fN=0)) ((H7 F c.fStr).isSome)))<|some ((decide (c.fInt=0))&&((decide (c.fN=0))&&(ov (H7 F c.fStr))))) (Bq (decide (c.fKind=5)) (some ((decide (c.fInt=0))&&((decide (c.fStr=([]:An)))&&(decide (0≤c.fN))))) (Bq (decide (c.fKind=6)) (some ((decide (c.fInt=0))&&((decide (c.fStr=([]:An)))&&(decide (0≤c.fN))))) (some false))))))
def LH (c:Ac):Option (Int):=
 Bq (decide (c.fKind=1)) (some 4) (Bq (decide (c.fKind=2)) (some (IntKind.wrap .i64 (5-c.fInt))) (Bq (decide (c.fKind=3)) (Bm (BO .i64 c.fInt)<|some ((Lib.itoa c.fInt).length:Int)) (Bq (decide (c.fKind=4)) (B5 (G6 c.fStr) λha=>some ha) (some (IntKind.wrap .i64 (2+(max 0 (IntKind.wrap .i64 (c.fN-1)))))))))
def CF (ha:(List Az)):Option (Stp ((List Az)) (Out ((List Az)) ((List Az)))):=
 Bq (decide (0<(ha.length:Int))) (Bm (BO .i64 ((ha.length:Int)-1))<|Bm (Cd ((ha.length:Int)-1) (ha.length:Int))<|Bm (BO .i64 (((Ae ha ((ha.length:Int)-1)).fLeft)-1))<|OC (List.set ha (Int.toNat ((ha.length:Int)-1)) (Az.mk ((Ae ha ((ha.length:Int)-1)).fPairs) (((Ae ha ((ha.length:Int)-1)).fLeft)-1) ((Ae ha ((ha.length:Int)-1)).fKey) ((Ae ha ((ha.length:Int)-1)).fLast) ((Ae ha ((ha.length:Int)-1)).fStarted))) λhb=>Bq (decide (0<((Ae hb ((ha.length:Int)-1)).fLeft))) (OC (List.set hb (Int.toNat ((ha.length:Int)-1)) (Az.mk ((Ae hb ((ha.length:Int)-1)).fPairs) ((Ae hb ((ha.length:Int)-1)).fLeft) ((Ae hb ((ha.length:Int)-1)).fPairs) ((Ae hb ((ha.length:Int)-1)).fLast) ((Ae hb ((ha.length:Int)-1)).fStarted))) λhd=>some (.out (.ret hd))) (Bm (BO .i64 ((hb.length:Int)-1))<|Bm (O3 ((hb.length:Int)-1) (hb.length:Int))<|some (.next (List.take (Int.toNat ((hb.length:Int)-1)) hb)))) (some (.out (.go ha)))
def Dn (ha:(List Az)):Option ((List Az)):=
 some ha
def HA (F:Nat)(stack:(List Az)):Option ((List Az)):=
 B5 (Ck (λσ=>CF σ) F stack) (BU λν=>Dn ν)
def Dd (ha:Int)(hb:(List Az))(hd:A9):Option (Stp ((List Az)×Int×A9) (Out (Int×A9×Bool) (A9))):=
 Bm (BO .i64 (ha+1))<|some (.next (hb,ha+1,hd))
def CE (F:Nat)(v:(List Ac))(ha:(List Az))(hb:Int)(hd:A9):Option (Stp ((List Az)×Int×A9) (Out (Int×A9×Bool) (A9))):=
 Bq (decide (hb<(v.length:Int))) (Bm (Cd hb (v.length:Int))<|B5 (J1 F (Ae v hb)) λhj=>Bq (!hj) (some (.out (.ret (0,hd,false)))) (Bm (imp (decide (0<(ha.length:Int))) (BO .i64 ((ha.length:Int)-1)))<|Bm (imp (decide (0<(ha.length:Int))) (Cd ((ha.length:Int)-1) (ha.length:Int)))<|Bq (((decide (0<(ha.length:Int)))&&((Ae ha ((ha.length:Int)-1)).fKey))) (Bm (BO .i64 ((ha.length:Int)-1))<|Bm (Cd ((ha.length:Int)-1) (ha.length:Int))<|Bq (((!decide (((Ae v hb).fKind)=4))||(((Ae ha ((ha.length:Int)-1)).fStarted)&&(CJ ((Ae v hb).fStr) ((Ae ha ((ha.length:Int)-1)).fLast)||decide (((Ae v hb).fStr)=((Ae ha ((ha.length:Int)-1)).fLast)))))) (some (.out (.ret (0,hd,false)))) (OC (List.set ha (Int.toNat ((ha.length:Int)-1)) (Az.mk ((Ae ha ((ha.length:Int)-1)).fPairs) ((Ae ha ((ha.length:Int)-1)).fLeft) ((Ae ha ((ha.length:Int)-1)).fKey) ((Ae v hb).fStr) ((Ae ha ((ha.length:Int)-1)).fStarted))) λhe=>OC (List.set he (Int.toNat ((ha.length:Int)-1)) (Az.mk ((Ae he ((ha.length:Int)-1)).fPairs) ((Ae he ((ha.length:Int)-1)).fLeft) ((Ae he ((ha.length:Int)-1)).fKey) ((Ae he ((ha.length:Int)-1)).fLast) true)) λhf=>OC (List.set hf (Int.toNat ((ha.length:Int)-1)) (Az.mk ((Ae hf ((ha.length:Int)-1)).fPairs) ((Ae hf ((ha.length:Int)-1)).fLeft) false ((Ae hf ((ha.length:Int)-1)).fLast) ((Ae hf ((ha.length:Int)-1)).fStarted))) λhk=>B5 (G6 ((Ae v hb).fStr)) λhh=>Bm (BO .i64 (hh+1))<|Dd hb hk (A9.mk hd.fDepth (IntKind.wrap .i64 (hd.fBytes+(hh+1))) hd.fOutside (hd.fLong||(decide (200<(((Ae v hb).fStr).length:Int))))))) (Bm (BO .i64 ((ha.length:Int)+1))<|B5 (LH (Ae v hb)) λhg=>Bm (imp (!hd.fOutside) (imp (decide (((Ae v hb).fKind)=3)) ((Bl ((Ae v hb).fInt)).isSome)))<|Bq (decide (0<((Ae v hb).fN))) (Bq (decide ((v.length:Int)<((Ae v hb).fN))) (some (.out (.ret (0,(A9.mk (max hd.fDepth ((ha.length:Int)+1)) (IntKind.wrap .i64 (hd.fBytes+hg)) (hd.fOutside||((decide (((Ae v hb).fKind)=3))&&(!(ov (Bl ((Ae v hb).fInt)))))) (hd.fLong||(decide (200<(((Ae v hb).fStr).length:Int))))),false)))) (Bm (OJ 48 (ha.length+([(Az.mk (decide (((Ae v hb).fKind)=6)) ((Ae v hb).fN) (decide (((Ae v hb).fKind)=6)) ([]:An) false)]:List Az).length))<|Dd hb (ha++([(Az.mk (decide (((Ae v hb).fKind)=6)) ((Ae v hb).fN) (decide (((Ae v hb).fKind)=6)) ([]:An) false)]:List Az)) (A9.mk (max hd.fDepth ((ha.length:Int)+1)) (IntKind.wrap .i64 (hd.fBytes+hg)) (hd.fOutside||((decide (((Ae v hb).fKind)=3))&&(!(ov (Bl ((Ae v hb).fInt)))))) (hd.fLong||(decide (200<(((Ae v hb).fStr).length:Int))))))) (B5 (HA F ha) λhi=>Bq (decide ((hi.length:Int)=0)) (Bm (BO .i64 (hb+1))<|some (.out (.ret (hb+1,(A9.mk (max hd.fDepth ((ha.length:Int)+1)) (IntKind.wrap .i64 (hd.fBytes+hg)) (hd.fOutside||((decide (((Ae v hb).fKind)=3))&&(!(ov (Bl ((Ae v hb).fInt)))))) (hd.fLong||(decide (200<(((Ae v hb).fStr).length:Int))))),true)))) (Dd hb hi (A9.mk (max hd.fDepth ((ha.length:Int)+1)) (IntKind.wrap .i64 (hd.fBytes+hg)) (hd.fOutside||((decide (((Ae v hb).fKind)=3))&&(!(ov (Bl ((Ae v hb).fInt)))))) (hd.fLong||(decide (200<(((Ae v hb).fStr).length:Int)))))))))) (some (.out (.go hd)))
def H8 (ha:A9):Option (Int×A9×Bool):=
 some (0,ha,false)
def H9 (F:Nat)(v:(List Ac)):Option (Int×A9×Bool):=
 B5 (Ck (λσ=>CE F v σ.1 σ.2.1 σ.2.2) F (([]:List Az),0,(A9.mk 0 0 false false))) (BU λν=>H8 ν)
def Iq (F:Nat)(v:(List Ac)):Option (Int):=
 B5 (H9 F v) λr1=>Bq (((!r1.2.2)||(!decide (r1.1=(v.length:Int))))) (some 1) (Bq (r1.2.1.fOutside) (some 2) (Bq ((r1.2.1.fLong||((decide (200<(v.length:Int)))||((decide (8<r1.2.1.fDepth))||(decide (4000<r1.2.1.fBytes)))))) (some 3) (some 0)))
def LI :Option ((List Ac)):=
 some ([(Ac.mk 1 0 ([]:An) 0)]:List Ac)
def Nn (b:Bool):Option ((List Ac)):=
 Bq (b) (some ([(Ac.mk 2 1 ([]:An) 0)]:List Ac)) (some ([(Ac.mk 2 0 ([]:An) 0)]:List Ac))
end Go.Proofs.YtfbmdidnlhifjaaGreatDoor
namespace Go.Proofs.YtfbmdidnlhifjaaGreatDoor.Q
open Go Go.RowKit
set_option linter.unusedVariables false
set_option linter.unusedSimpArgs false
set_option maxRecDepth 100000
set_option maxHeartbeats 4000000
@[reducible] def Ax (x:Az):List Rp:=[rB x.fPairs,Ai x.fLeft,rB x.fKey,rS x.fLast,rB x.fStarted]
theorem Gj (x:Az):(Ax x).length=5:=rfl
theorem Ja (x:Az):(Ax x).all (·.one)=true:=rfl
@[reducible] def AP (x:A9):List Rp:=[Ai x.fDepth,Ai x.fBytes,rB x.fOutside,rB x.fLong]
theorem QD:∃inf,Tryz.prog.info? 120=some inf∧inf.zero=some (.agg #[(.bool false),(.int .i64 0),(.bool false),(.string ⟨#[]⟩),(.bool false)])∧inf.size=5∧inf.bytes=48:=by
  have key:(Tryz.prog.info? 120).map (λi=>(i.zero,i.size,i.bytes))=some (some (.agg #[(.bool false),(.int .i64 0),(.bool false),(.string ⟨#[]⟩),(.bool false)]),5,48):=by kernel_rfl
  obtain⟨inf,h1,h2⟩:=Option.map_eq_some_iff.1 key;simp only[Prod.mk.injEq] at h2;exact⟨inf,h1,h2.1,h2.2.1,h2.2.2⟩
theorem ND (parts:List (Nat×Value)):Tryz.prog.built 63 parts=Instr.fill (λi=>(#[(0,1),(1,1),(2,1),(3,1)]:Array (Nat×Nat))[i]?) #[(.int .i64 0),(.int .i64 0),(.string ⟨#[]⟩),(.int .i64 0)] parts:=by kernel_rfl
theorem Ew {n:Nat}{c:Cx}{l:Fr}{H:List Ent}{d:Option Nat}{ty:TypeId}{pos:String}{af:Array Edge}{g:Option (Nat×Bool)}{x0:Operand}{r0:Rp}(h0:ev l x0=some r0)(u0:r0.one=true):Bo Tryz.prog n c l H { dst:=d,op:=.build 63 #[(0,x0)],type:=ty,pos:=pos,after:=af,guard:=g } (Bb [r0,Ai 0,rS ([]:An),Ai 0]):=λa w Z ha _=>by
  have p0:=ha.ev h0;have c0:=Bz (r0.hone u0 Z _ p0);have hb:Tryz.prog.built 63 [(0,a.eval x0)]=some #[a.eval x0,(.int .i64 0),(.string ⟨#[]⟩),(.int .i64 0)]:=by
    rw[ND];generalize a.eval x0=v0 at *;simp[Instr.fill,c0]
  refine⟨.agg #[a.eval x0,(.int .i64 0),(.string ⟨#[]⟩),(.int .i64 0)],⟨[a.eval x0,(.int .i64 0),(.string ⟨#[]⟩),(.int .i64 0)],rfl,p0,rfl,rfl,rfl,trivial⟩,?_⟩;have:=run_build w 63 #[(0,a.eval x0)] _ (by simpa using hb);simp[execOp,this]
theorem PV (parts:List (Nat×Value)):Tryz.prog.built 120 parts=Instr.fill (λi=>(#[(0,1),(1,1),(2,1),(3,1),(4,1)]:Array (Nat×Nat))[i]?) #[(.bool false),(.int .i64 0),(.bool false),(.string ⟨#[]⟩),(.bool false)] parts:=by kernel_rfl
theorem I5 {n:Nat}{c:Cx}{l:Fr}{H:List Ent}{d:Option Nat}{ty:TypeId}{pos:String}{af:Array Edge}{g:Option (Nat×Bool)}{x0:Operand}{r0:Rp}(h0:ev l x0=some r0)(u0:r0.one=true){x1:Operand}{r1:Rp}(h1:ev l x1=some r1)(u1:r1.one=true){x2:Operand}{r2:Rp}(h2:ev l x2=some r2)(u2:r2.one=true):Bo Tryz.prog n c l H { dst:=d,op:=.build 120 #[(0,x0),(1,x1),(2,x2)],type:=ty,pos:=pos,after:=af,guard:=g } (Bb [r0,r1,r2,rS ([]:An),rB false]):=λa w Z ha _=>by
  have p0:=ha.ev h0;have c0:=Bz (r0.hone u0 Z _ p0);have p1:=ha.ev h1;have c1:=Bz (r1.hone u1 Z _ p1);have p2:=ha.ev h2;have c2:=Bz (r2.hone u2 Z _ p2);have hb:Tryz.prog.built 120 [(0,a.eval x0),(1,a.eval x1),(2,a.eval x2)]=some #[a.eval x0,a.eval x1,a.eval x2,(.string ⟨#[]⟩),(.bool false)]:=by
    rw[PV];generalize a.eval x0=v0 at *;generalize a.eval x1=v1 at *;generalize a.eval x2=v2 at *;simp[Instr.fill,c0,c1,c2]
  refine⟨.agg #[a.eval x0,a.eval x1,a.eval x2,(.string ⟨#[]⟩),(.bool false)],⟨[a.eval x0,a.eval x1,a.eval x2,(.string ⟨#[]⟩),(.bool false)],rfl,p0,p1,p2,rfl,rfl,trivial⟩,?_⟩;have:=run_build w 120 #[(0,a.eval x0),(1,a.eval x1),(2,a.eval x2)] _ (by simpa using hb);simp[execOp,this]
theorem JB (n:Int)(r:Bool)(h:Bl n=some r):Fn Tryz.prog GE 79 [Ai n] [] (λR H=>R=rB r∧H=[]):=by
 refine enter (n:=9) Tryz.func79 Aa Tryz.ntmps79 Aa (λw Z=>?_);unfold Bl at h;refine Af (wa Aa (As (AL [(2,rB ((decide ((-1000000000000)≤n))&&(decide (n≤1000000000000))))] [] ?_ ?_)))
 ·refine Ar (wm Aa (wv (Kg Aa Aa) (wm Aa (AQ (decide ((-1000000000000)≤n)) (λc1=>?_) (λc1=>?_)))))
  ·refine wo c1 (wm Aa (wo c1 (wv (Kg Aa Aa) (D4 Aa c1 Aa (wa Aa (Ao ?_))))));exact BP c1
  ·refine wf c1 (wf c1 (wv (r:=rB false) (A4 Aa c1 Aa) (wa Aa (Ao ?_))));exact BP c1
 refine Av ?_;obtain rfl:=Aw h;exact Au (BC Tryz.results79 (AH Aa)) sN ⟨Aa,Aa⟩
theorem Qp (F:Nat)(s:An)(r:Bool)(h:H7 F s=some r):Fn Tryz.prog GE 92 [rS s] [] (λR H=>R=rB r∧H=[]):=by
 refine enter (n:=20) Tryz.func92 Aa Tryz.ntmps92 Aa (λw Z=>?_);unfold H7 at h;refine Af (wa Aa (As (Aq (Af (wm Aa (wv (Cb DM Aa) (wv (r:=Ai 0) (A5 Aa) (As (AU (ob h λhi hj hg=>B4 (S:=Nat×(Int)×(Unit)) (V:=(Unit)×(Unit)) 0 (λσ=>Ck (λσ=>EB s σ) σ.1 σ.2.1=some hi) (λσ=>[(0,rS s),(5,Ai (s.length:Int)),(6,Ai σ.2.1)]) (λσ=>[]) (λσ=>σ.1) (F,0,()) hj (AW.c Aa (AW.c Aa (AW.c Aa AW.nil))) sN (λσ=>EA =some r) (λσ=>[]) (λσ=>[]) ?_ ?_))))))))))
 ·rintro⟨hz,hb,⟨⟩⟩ hk;refine Co (l':=[(0,rS s),(5,Ai (s.length:Int)),(6,Ai hb)]) (H':=[]) Aa Aa ?_;obtain⟨hl,rfl,t37,hd,hf⟩:=CC hk;replace hd:EB s hb=some t37:=hd;unfold EB at hd;refine Af (wv (CO Aa Aa) (As (Aq (cz hd Aa (λhm hn=>?_) (λhm ho=>?_)))))
  ·refine A0 (AO (Aq (AU (Af (wm Aa (wa Aa (As (ck hn λhh hp=>AL [(0,rS s),(5,Ai (s.length:Int)),(6,Ai hb),(18,rB ((decide ((Ih s hb)<32))||(decide (126<(Ih s hb)))))] [] ?_ ?_))))))))
   ·refine Ar (wm Aa (wm Aa (wv (Dq DM Aa Aa hh) (wv (CO Aa Aa) (wm Aa (AQ (decide ((Ih s hb)<32)) (λha=>?_) (λha=>?_)))))))
    ·refine wf ha (wf ha (wf ha (wf ha (wv (r:=rB true) (At Aa ha Aa) (Ao ?_)))));exact BP ha
    ·refine wo ha (wm Aa (wo ha (wm Aa (wo ha (wv (Dq DM Aa Aa hh) (wo ha (wv (De Aa Aa) (Er Aa ha Aa (Ao ?_)))))))));exact BP ha
   refine cz hp Aa (λhq hr=>?_) (λhq hs=>?_)
   ·refine Af (wa Aa (As (Av (AB (Ad (Ad (Bt ?_)))))));have ht:=BN hr hf hg;refine AB (Ad ?_);obtain rfl:=Aw ht;exact Au (BC Tryz.results92 (AH Aa)) sN ⟨Aa,Aa⟩
   ·refine A0 (AV (AO (Ar (ck hs λhu hw=>wv (B0 Aa Aa hu) (wm Aa (Ao ?_))))));have hx:=Br hw hf;exact AF (AK (hl,hb+1,()) ⟨hx,ST _⟩ (AW.c Aa (AW.c Aa (AW.c Aa AW.nil))) sN)
  ·refine B7 (A7 ?_);have hy:=BZ ho hf hg;exact A7 (Bp (AK ((),()) hy AW.nil sN))
 ·rintro⟨⟨⟩,⟨⟩⟩ he;refine CB (l':=[]) (H':=[]) Aa Aa ?_;replace he:EA =some r:=he;unfold EA at he;refine Bn (AO (Af (wa Aa (As (Av ?_)))));obtain rfl:=Aw he;exact Au (BC Tryz.results92 (AH Aa)) sN ⟨Aa,Aa⟩
theorem Kq (s:An)(r:Int)(h:G6 s=some r):Fn Tryz.prog GE 77 [rS s] [] (λR H=>R=Ai r∧H=[]):=by
 refine enter (n:=12) Tryz.func77 Aa Tryz.ntmps77 Aa (λw Z=>?_);unfold G6 at h;refine Af (wa Aa (B1 (wm Aa (wv (Cb DM Aa) (ck h λg1 h2=>wv (B0 Aa Aa g1) (wm Aa (EO (rs:=[rS s,rS ([34]:An)]) (r:=Ai (Lib.countByte s 34:Int)) Tryz.call93 Aa (NC s 34) Aa Aa (ck h2 λg3 h4=>wv (B0 Aa Aa g3) (wm Aa (EO (rs:=[rS s,rS ([92]:An)]) (r:=Ai (Lib.countByte s 92:Int)) Tryz.call93 Aa (NC s 92) Aa Aa (ck h4 λg5 h6=>wv (B0 Aa Aa g5) (wa Aa (As (Av ?_))))))))))))));obtain rfl:=Aw h6;exact Au (BC Tryz.results77 (AH Aa)) sN ⟨Aa,Aa⟩
theorem OZ (F:Nat)(c:Ac)(r:Bool)(h:J1 F c=some r):Fn Tryz.prog GE 76 [Bb (Ab c)] [] (λR H=>R=rB r∧H=[]):=by
 refine enter (n:=81) Tryz.func76 Aa Tryz.ntmps76 Aa (λw Z=>?_);unfold J1 at h;refine Af (B6 Aa Aa (λb1=>?_));refine wa Aa (As (Aq (Af (vF Bh Aa CS (vL 0 CU Aa (As (AU (Af (wv (Bv Aa Aa) (wa Aa (As (cz h Aa (λc2 h3=>?_) (λc2 h6=>?_)))))))))))))
 ·refine AL [(2,rB ((decide (c.fInt=0))&&((decide (c.fStr=([]:An)))&&(decide (c.fN=0)))))] [] ?_ ?_
  ·refine Ar (vF Bh Aa Cq (vL 0 Dk Aa (wv (Bv Aa Aa) (wm Aa (AQ (decide (c.fInt=0)) (λc4=>?_) (λc4=>?_))))))
   ·refine wo c4 (vF Bh Aa Dm (wo c4 (vL 0 Dx Aa (wo c4 (wv (C0 Aa Aa) (D4 Aa c4 Aa (wm Aa (AQ (decide (c.fStr=([]:An))) (λc5=>?_) (λc5=>?_)))))))))
    ·refine wo c5 (vF Bh Aa Cq (wo c5 (vL 0 Dk Aa (wo c5 (wv (Bv Aa Aa) (D4 Aa c5 Aa (wa Aa (Ao ?_))))))));exact BP (And.intro c4 c5)
    ·refine wf c5 (wf c5 (wf c5 (wv (r:=rB false) (A4 Aa c5 Aa) (wa Aa (Ao ?_)))));exact BP (And.intro c4 c5)
   ·refine wf c4 (wf c4 (wf c4 (wv (r:=rB false) (A4 Aa c4 Aa) (wm Aa (wz Aa Aa (wz Aa Aa (wz Aa Aa (wv (r:=rB false) (A4 (b:=false) Aa Aa Aa) (wa Aa (Ao ?_))))))))));exact BP c4
  refine Av (AB (Ad ?_));obtain rfl:=Aw h3;exact Au (BC M8 (AH Aa)) sN ⟨Aa,Aa⟩
 ·refine Af (wv (Bv Aa Aa) (wa Aa (As (cz h6 Aa (λc7 h8=>?_) (λc7 hm=>?_)))))
  ·refine AL [(2,rB (bif decide (c.fInt=0) then((decide (c.fStr=([]:An)))&&(decide (c.fN=0))) else((decide (c.fInt=1))&&((decide (c.fStr=([]:An)))&&(decide (c.fN=0))))))] [] ?_ ?_
   ·refine Ar (vF Bh Aa Cq (vL 0 Dk Aa (wv (Bv Aa Aa) (wm Aa (AQ (decide (c.fInt=0)) (λc9=>?_) (λc9=>?_))))))
    ·refine wf c9 (wf c9 (wf c9 (wv (r:=rB true) (At Aa c9 Aa) (wm Aa (Bk (b:=true) Aa Aa Aa (vF Bh Aa Dm (Bk (b:=true) Aa Aa Aa (vL 0 Dx Aa (Bk (b:=true) Aa Aa Aa (wv (C0 Aa Aa) (wv (r:=rB (decide (c.fStr=([]:An)))) (At (b:=true) Aa Aa Aa) (wm Aa (AQ (decide (c.fStr=([]:An))) (λhg=>?_) (λhg=>?_))))))))))))))
     ·refine wo hg (vF Bh Aa Cq (wo hg (vL 0 Dk Aa (wo hg (wv (Bv Aa Aa) (D4 Aa hg Aa (wa Aa (Ao ?_))))))));exact BP (And.intro c9 hg)
     ·refine wf hg (wf hg (wf hg (wv (r:=rB false) (A4 Aa hg Aa) (wa Aa (Ao ?_)))));exact BP (And.intro c9 hg)
    ·refine wo c9 (vF Bh Aa Cq (wo c9 (vL 0 Dk Aa (wo c9 (wv (Bv Aa Aa) (Er Aa c9 Aa (wm Aa (AQ (decide (c.fInt=1)) (λhb=>?_) (λhb=>?_)))))))))
     ·refine wo hb (vF Bh Aa Dm (wo hb (vL 0 Dx Aa (wo hb (wv (C0 Aa Aa) (D4 Aa hb Aa (wm Aa (AQ (decide (c.fStr=([]:An))) (λhh=>?_) (λhh=>?_)))))))))
      ·refine wo hh (vF Bh Aa Cq (wo hh (vL 0 Dk Aa (wo hh (wv (Bv Aa Aa) (D4 Aa hh Aa (wa Aa (Ao ?_))))))));exact BP (And.intro c9 (And.intro hb hh))
      ·refine wf hh (wf hh (wf hh (wv (r:=rB false) (A4 Aa hh Aa) (wa Aa (Ao ?_)))));exact BP (And.intro c9 (And.intro hb hh))
     ·refine wf hb (wf hb (wf hb (wv (r:=rB false) (A4 Aa hb Aa) (wm Aa (wz Aa Aa (wz Aa Aa (wz Aa Aa (wv (r:=rB false) (A4 (b:=false) Aa Aa Aa) (wa Aa (Ao ?_))))))))));exact BP (And.intro c9 hb)
   refine Av (AB (Ad ?_));obtain rfl:=Aw h8;exact Au (BC M8 (AH Aa)) sN ⟨Aa,Aa⟩
  ·refine Af (wv (Bv Aa Aa) (wa Aa (As (cz hm Aa (λhn ho=>?_) (λhn hp=>?_)))))
   ·refine AL [(2,rB ((decide (c.fStr=([]:An)))&&(decide (c.fN=0))))] [] ?_ ?_
    ·refine Ar (vF Bh Aa Dm (vL 0 Dx Aa (wv (C0 Aa Aa) (wm Aa (AQ (decide (c.fStr=([]:An))) (λhi=>?_) (λhi=>?_))))))
     ·refine wo hi (vF Bh Aa Cq (wo hi (vL 0 Dk Aa (wo hi (wv (Bv Aa Aa) (D4 Aa hi Aa (wa Aa (Ao ?_))))))));exact BP hi
     ·refine wf hi (wf hi (wf hi (wv (r:=rB false) (A4 Aa hi Aa) (wa Aa (Ao ?_)))));exact BP hi
    refine Av (AB (Ad ?_));obtain rfl:=Aw ho;exact Au (BC M8 (AH Aa)) sN ⟨Aa,Aa⟩
   ·refine Af (wv (Bv Aa Aa) (wa Aa (As (cz hp Aa (λhq hr=>?_) (λhq hs=>?_)))))
    ·refine ck hr λht hu=>AL [(2,rB ((decide (c.fInt=0))&&((decide (c.fN=0))&&(ov (H7 F c.fStr)))))] [] ?_ ?_
     ·refine Ar (vF Bh Aa Cq (vL 0 Dk Aa (wv (Bv Aa Aa) (wm Aa (AQ (decide (c.fInt=0)) (λha=>?_) (λha=>?_))))))
      ·refine wo ha (vF Bh Aa Cq (wo ha (vL 0 Dk Aa (wo ha (wv (Bv Aa Aa) (D4 Aa ha Aa (wm Aa (AQ (decide (c.fN=0)) (λhd=>?_) (λhd=>?_)))))))))
       ·refine wo hd (vF Bh Aa Dm (wo hd (vL 0 Dx Aa (wo hd (BQ Tryz.call92 (Qp F c.fStr (ov (H7 F c.fStr)) (DJ (Cl (Cl ht ha) hd))) Aa (D4 Aa hd Aa (wa Aa (Ao ?_))))))));exact BP (And.intro ha hd)
       ·refine wf hd (wf hd (wf hd (wv (r:=rB false) (A4 Aa hd Aa) (wa Aa (Ao ?_)))));exact BP (And.intro ha hd)
      ·refine wf ha (wf ha (wf ha (wv (r:=rB false) (A4 Aa ha Aa) (wm Aa (wz Aa Aa (wz Aa Aa (wz Aa Aa (wv (r:=rB false) (A4 (b:=false) Aa Aa Aa) (wa Aa (Ao ?_))))))))));exact BP ha
     refine Av (AB (Ad ?_));obtain rfl:=Aw hu;exact Au (BC M8 (AH Aa)) sN ⟨Aa,Aa⟩
    ·refine Aq (Af (wv (Bv Aa Aa) (wa Aa (As (cz hs Aa (λhl hw=>?_) (λhl hx=>?_))))))
     ·refine A0 (AO (DY Aa hl (AL [(2,rB ((decide (c.fInt=0))&&((decide (c.fStr=([]:An)))&&(decide (0≤c.fN)))))] [] ?_ ?_)))
      ·refine Ar (vF Bh Aa Cq (vL 0 Dk Aa (wv (Bv Aa Aa) (wm Aa (AQ (decide (c.fInt=0)) (λhe=>?_) (λhe=>?_))))))
       ·refine wo he (vF Bh Aa Dm (wo he (vL 0 Dx Aa (wo he (wv (C0 Aa Aa) (D4 Aa he Aa (wm Aa (AQ (decide (c.fStr=([]:An))) (λhj=>?_) (λhj=>?_)))))))))
        ·refine wo hj (vF Bh Aa Cq (wo hj (vL 0 Dk Aa (wo hj (wv (HS Aa Aa) (D4 Aa hj Aa (wa Aa (Ao ?_))))))));exact BP (And.intro he hj)
        ·refine wf hj (wf hj (wf hj (wv (r:=rB false) (A4 Aa hj Aa) (wa Aa (Ao ?_)))));exact BP (And.intro he hj)
       ·refine wf he (wf he (wf he (wv (r:=rB false) (A4 Aa he Aa) (wm Aa (wz Aa Aa (wz Aa Aa (wz Aa Aa (wv (r:=rB false) (A4 (b:=false) Aa Aa Aa) (wa Aa (Ao ?_))))))))));exact BP he
      refine Av (AB (Ad ?_));obtain rfl:=Aw hw;exact Au (BC M8 (AH Aa)) sN ⟨Aa,Aa⟩
     ·refine Ar (wv (Bv Aa Aa) (wa Aa (As (cz hx Aa (λhy hz=>?_) (λhy h0=>?_)))))
      ·refine AL [(2,rB ((decide (c.fInt=0))&&((decide (c.fStr=([]:An)))&&(decide (0≤c.fN)))))] [] ?_ ?_
       ·refine Ar (vF Bh Aa Cq (vL 0 Dk Aa (wv (Bv Aa Aa) (wm Aa (AQ (decide (c.fInt=0)) (λhf=>?_) (λhf=>?_))))))
        ·refine wo hf (vF Bh Aa Dm (wo hf (vL 0 Dx Aa (wo hf (wv (C0 Aa Aa) (D4 Aa hf Aa (wm Aa (AQ (decide (c.fStr=([]:An))) (λhk=>?_) (λhk=>?_)))))))))
         ·refine wo hk (vF Bh Aa Cq (wo hk (vL 0 Dk Aa (wo hk (wv (HS Aa Aa) (D4 Aa hk Aa (wa Aa (Ao ?_))))))));exact BP (And.intro hf hk)
         ·refine wf hk (wf hk (wf hk (wv (r:=rB false) (A4 Aa hk Aa) (wa Aa (Ao ?_)))));exact BP (And.intro hf hk)
        ·refine wf hf (wf hf (wf hf (wv (r:=rB false) (A4 Aa hf Aa) (wm Aa (wz Aa Aa (wz Aa Aa (wz Aa Aa (wv (r:=rB false) (A4 (b:=false) Aa Aa Aa) (wa Aa (Ao ?_))))))))));exact BP hf
       refine Av (AB (Ad ?_));obtain rfl:=Aw hz;exact Au (BC M8 (AH Aa)) sN ⟨Aa,Aa⟩
      ·refine A0 (AV (AO (Af (wa Aa (As (Av ?_))))));obtain rfl:=Aw h0;exact Au (BC M8 (AH Aa)) (sS sN) ⟨Aa,Aa⟩
theorem Qq (c:Ac)(r:Int)(h:LH c=some r):Fn Tryz.prog GE 78 [Bb (Ab c)] [] (λR H=>R=Ai r∧H=[]):=by
 refine enter (n:=28) Tryz.func78 Aa Tryz.ntmps78 Aa (λw Z=>?_);unfold LH at h;refine Af (B6 Aa Aa (λb1=>?_));refine wa Aa (As (Aq (Af (vF Bh Aa CS (vL 0 CU Aa (As (AU (Af (wv (Bv Aa Aa) (wa Aa (As (cz h Aa (λc2 h3=>?_) (λc2 h4=>?_)))))))))))))
 ·refine Af (wa Aa (As (Av (AB (Ad ?_)))));obtain rfl:=Aw h3;exact Au (BC ON (AH Aa)) (sS sN) ⟨Aa,Aa⟩
 ·refine Af (wv (Bv Aa Aa) (wa Aa (As (cz h4 Aa (λc5 h6=>?_) (λc5 h7=>?_)))))
  ·refine Af (vF Bh Aa Cq (vL 0 Dk Aa (wv (r:=Ai (IntKind.wrap .i64 (5-c.fInt))) (Pu Aa Aa) (wa Aa (As (Av (AB (Ad ?_))))))));obtain rfl:=Aw h6;exact Au (BC ON (AH Aa)) (sS sN) ⟨Aa,Aa⟩
  ·refine Af (wv (Bv Aa Aa) (wa Aa (As (cz h7 Aa (λc8 h9=>?_) (λc8 ha=>?_)))))
   ·refine Af (vF Bh Aa Cq (vL 0 Dk Aa (ck h9 λhb hd=>EO (rs:=[Ai c.fInt]) (r:=rS (Lib.itoa c.fInt)) Tryz.call94 Aa (PP c.fInt hb) Aa Aa (wv (Cb DM Aa) (wa Aa (As (Av (AB (Ad ?_)))))))));obtain rfl:=Aw hd;exact Au (BC ON (AH Aa)) (sS sN) ⟨Aa,Aa⟩
   ·refine Af (wv (Bv Aa Aa) (wa Aa (As (cz ha Aa (λhe hf=>?_) (λhe hg=>?_)))))
    ·refine Af (vF Bh Aa Dm (vL 0 Dx Aa (ob hf λhh hi hj=>BQ Tryz.call77 (Kq c.fStr hh hi) Aa (wa Aa (As (Av (AB (Ad ?_))))))));obtain rfl:=Aw hj;exact Au (BC ON (AH Aa)) (sS sN) ⟨Aa,Aa⟩
    ·refine A0 (AV (AO (Af (vF Bh Aa Cq (vL 0 Dk Aa (wv (r:=Ai (IntKind.wrap .i64 (c.fN-1))) (Pu Aa Aa) (wv (Rb Ss Aa Aa) (wv (r:=Ai (IntKind.wrap .i64 (2+(max 0 (IntKind.wrap .i64 (c.fN-1)))))) (MN Aa Aa) (wa Aa (As (Av ?_)))))))))));obtain rfl:=Aw hg;exact Au (BC ON (AH Aa)) (sS sN) ⟨Aa,Aa⟩
theorem NS (F:Nat)(hi:Value)(stack:(List Az))(r:(List Az))(h:HA F stack=some r):Fn Tryz.prog GE 80 [rv hi] [.row hi 120 5 (Ay Ax stack)] (λR H=>∃u0:Value,R=rv u0∧H=[.row u0 120 5 (Ay Ax r)]):=by
 refine enter (n:=38) Tryz.func80 Aa Tryz.ntmps80 Aa (λw Z=>?_);unfold HA at h;refine Af (wa Aa (As (Aq (AU (ob h λhn ho hl=>B4 (S:=Nat×((List Az))×(Value)) (V:=((List Az))×(Value)) 0 (λσ=>Ck (λσ=>CF σ) σ.1 σ.2.1=some hn) (λσ=>[(0,rv σ.2.2),(2,rv (.slice none 0 0))]) (λσ=>[.row σ.2.2 120 5 (Ay Ax σ.2.1)]) (λσ=>σ.1) (F,stack,hi) ho (AW.c Aa (AW.c Aa AW.nil)) (sC sN) (λσ=>Dn σ.1=some r) (λσ=>[(0,rv σ.2),(2,rv (.slice none 0 0))]) (λσ=>[.row σ.2 120 5 (Ay Ax σ.1)]) ?_ ?_)))))
 ·rintro⟨hG,ha,hd⟩ hp;refine Co (l':=[(0,rv hd),(2,rv (.slice none 0 0))]) (H':=[.row hd 120 5 (Ay Ax ha)]) Aa Aa ?_;obtain⟨hq,rfl,hr,hg,hj⟩:=CC hp;replace hg:CF ha=some hr:=hg;unfold CF at hg;refine Aq (Af (wm Aa (wv (DD (ys:=ha) (enc:=Ax) (i:=0) Gg Aa Aa) (wv (De Aa Aa) (As (cz hg Aa (λhs ht=>?_) (λhs hu=>?_)))))))
  ·refine A0 (AO (AU (Af (wm Aa (wm Aa (wv (DD (ys:=ha) (enc:=Ax) (i:=0) Gg Aa Aa) (ck ht λhw hx=>wv (K1 Aa Aa hw) (ck hx λhe hy=>wv (r:=rv (DS 5 hd (C6 ((ha.length:Int)-1)) 0)) (I4 (i:=0) Gg LA Aa Aa Aa (B8 he)) (wa Aa (B1 (wm Aa (wv (r:=rv (DS 5 hd (C6 ((ha.length:Int)-1)) 0)) (BM (k:=0) Aa (B8 he) Aa Aa) (wv (r:=rv (DS 5 hd (C6 ((ha.length:Int)-1)) 1)) (DK (k:=0) Gf Aa Cq Aa (B8 he) Aa Aa Aa) (wv (r:=Ai ((Ae ha ((ha.length:Int)-1)).fLeft)) (E3 (enc:=Ax) (ys:=ha) (i:=0) (j:=(ha.length:Int)-1) Dk Aa Aa he Aa) (ck hy λhz h0=>wv (K1 Aa Aa hz) (wv (r:=rv (DS 5 hd (C6 ((ha.length:Int)-1)) 0)) (BM (k:=0) Aa (B8 he) Aa Aa) (wv (r:=rv (DS 5 hd (C6 ((ha.length:Int)-1)) 1)) (DK (k:=0) Gf Aa Cq Aa (B8 he) Aa Aa Aa) (Ir (enc:=Ax) (ys:=ha) (y':=(Az.mk ((Ae ha ((ha.length:Int)-1)).fPairs) (((Ae ha ((ha.length:Int)-1)).fLeft)-1) ((Ae ha ((ha.length:Int)-1)).fKey) ((Ae ha ((ha.length:Int)-1)).fLast) ((Ae ha ((ha.length:Int)-1)).fStarted))) (i:=0) (j:=(ha.length:Int)-1) Cq Aa Aa (Cc Aa) Aa he Aa Aa (H':=[.row hd 120 5 (Ay Ax (List.set ha (C6 ((ha.length:Int)-1)) (Az.mk ((Ae ha ((ha.length:Int)-1)).fPairs) (((Ae ha ((ha.length:Int)-1)).fLeft)-1) ((Ae ha ((ha.length:Int)-1)).fKey) ((Ae ha ((ha.length:Int)-1)).fLast) ((Ae ha ((ha.length:Int)-1)).fStarted))))]) Aa (bd h0 λhb hf h1=>?_)))))))))))))))))));rw[← hf];refine As (Aq (Af (wm Aa (wv (r:=rv (DS 5 hd (C6 ((ha.length:Int)-1)) 0)) (BM (k:=0) Aa (B8 (Cj he hf)) Aa Aa) (wv (r:=rv (DS 5 hd (C6 ((ha.length:Int)-1)) 1)) (DK (k:=0) Gf Aa Cq Aa (B8 (Cj he hf)) Aa Aa Aa) (wv (r:=Ai ((Ae hb ((ha.length:Int)-1)).fLeft)) (E3 (enc:=Ax) (ys:=hb) (i:=0) (j:=(ha.length:Int)-1) Dk Aa Aa (Cj he hf) Aa) (wv (De Aa Aa) (As (cz h1 Aa (λh2 h3=>?_) (λh2 h4=>?_))))))))))
   ·refine Af (wm Aa (wm Aa (wv (r:=rv (DS 5 hd (C6 ((ha.length:Int)-1)) 0)) (BM (k:=0) Aa (B8 (Cj he hf)) Aa Aa) (wv (r:=rv (DS 5 hd (C6 ((ha.length:Int)-1)) 0)) (DK (k:=0) Gf Aa H4 Aa (B8 (Cj he hf)) Aa Aa Aa) (wv (r:=rB ((Ae hb ((ha.length:Int)-1)).fPairs)) (E3 (enc:=Ax) (ys:=hb) (i:=0) (j:=(ha.length:Int)-1) Qm Aa Aa (Cj he hf) Aa) (wv (r:=rv (DS 5 hd (C6 ((ha.length:Int)-1)) 0)) (BM (k:=0) Aa (B8 (Cj he hf)) Aa Aa) (wv (r:=rv (DS 5 hd (C6 ((ha.length:Int)-1)) 2)) (DK (k:=0) Gf Aa H4 Aa (B8 (Cj he hf)) Aa Aa Aa) (Ir (enc:=Ax) (ys:=hb) (y':=(Az.mk ((Ae hb ((ha.length:Int)-1)).fPairs) ((Ae hb ((ha.length:Int)-1)).fLeft) ((Ae hb ((ha.length:Int)-1)).fPairs) ((Ae hb ((ha.length:Int)-1)).fLast) ((Ae hb ((ha.length:Int)-1)).fStarted))) (i:=0) (j:=(ha.length:Int)-1) H4 Aa Aa (Cc Aa) Aa (Cj he hf) Aa Aa (H':=[.row hd 120 5 (Ay Ax (List.set hb (C6 ((ha.length:Int)-1)) (Az.mk ((Ae hb ((ha.length:Int)-1)).fPairs) ((Ae hb ((ha.length:Int)-1)).fLeft) ((Ae hb ((ha.length:Int)-1)).fPairs) ((Ae hb ((ha.length:Int)-1)).fLast) ((Ae hb ((ha.length:Int)-1)).fStarted))))]) Aa (bd h3 λhH h5 h6=>?_)))))))));rw[← h5];refine B1 (wm Aa (wa Aa (As (Av (Ad (AB (Ad (Bt ?_))))))));have h7:=BN h6 hj hl;refine AB (Ad ?_);obtain rfl:=Aw h7;exact Au (BC Tryz.results80 (AH Aa)) (sC sN) ⟨hd,Aa,Aa⟩
   ·refine A0 (AO (Ar (wm Aa (wm Aa (wv (DD (ys:=hb) (enc:=Ax) (i:=0) Gg Aa Aa) (ck h4 λh8 h9=>wv (K1 Aa Aa h8) (ck h9 λhA hB=>RH (i:=0) Gg LA Aa Aa Aa hA Aa (λhC=>?_))))))));refine wa Aa (Ao (AV ?_));have hD:=Br hB hj;exact AF (AK (hq,List.take (C6 ((hb.length:Int)-1)) hb,hC) ⟨hD,ST _⟩ (AW.c Aa (AW.c Aa AW.nil)) (sC sN))
  ·refine B7 (A7 ?_);have hE:=BZ hu hj hl;exact A7 (Bp (AK (ha,hd) hE (AW.c Aa (AW.c Aa AW.nil)) (sC sN)))
 ·rintro⟨hm,hk⟩ hh;refine CB (l':=[(0,rv hk),(2,rv (.slice none 0 0))]) (H':=[.row hk 120 5 (Ay Ax hm)]) Aa Aa ?_;replace hh:Dn hm=some r:=hh;unfold Dn at hh;refine Bn (AO (Af (wm Aa (wa Aa (As (Av ?_))))));obtain rfl:=Aw hh;exact Au (BC Tryz.results80 (AH Aa)) (sC sN) ⟨hk,Aa,Aa⟩
theorem Qs (F:Nat)(v:(List Ac))(r:Int×A9×Bool)(h:H9 F v=some r):Fn Tryz.prog GE 56 [AG 4 (Ay Ab v)] [] (λR H=>R=C4 [Ai r.1,Bb (AP r.2.1),rB r.2.2]∧H=[]):=by
 refine enter (n:=152) Tryz.func56 Aa Tryz.ntmps56 Aa (λw Z=>?_);unfold H9 at h;refine Af (wa Aa (BA (cs:=[Ai 0,Ai 0,rB false,rB false]) Tryz.zeroValue105 Aa Aa (λb1=>?_)));refine wa Aa (As (OV (Af (BA (cs:=[Ai 0,Ai 0,rB false,rB false]) Tryz.zeroValue105 Aa Aa (λb2=>?_)))));refine B1 (wa Aa (As (Aq (OW (AO (Aq (Af (wm Aa (wv (Bi (ys:=v) (enc:=Ab) BF Aa) (wv (r:=Ai 0) (A5 Aa) (As (AU (WC.nilrow (e:=120) (sz:=5) (Jd (H2:=[.blk b2 [Ai 0,Ai 0,rB false,rB false] 105,.blk b1 [Ai 0,Ai 0,rB false,rB false] 105,.row (.slice none 0 0                                                                                                                        ) 120 5 (Ay Ax ([]:List Az))]) ((Ak (i:=1) Aa).trans (SH _ ((Ak (i:=1) Aa).trans (SH _ (SN _))))) (ob h λhA hB hy=>B4 (S:=Nat×((List Az)×Int×A9)×(Value)) (V:=(A9)×(Unit)) 0 (λσ=>Ck (λσ=>CE F v σ.1 σ.2.1 σ.2.2) σ.1 σ.2.1=some hA) (λσ=>[(0,AG 4 (Ay Ab v)),(3,rP b1 0),(5,rP b2 0),(6,rv σ.2.2),(11,AG 4 (Ay Ab v)),(12,Ai (v.length:Int)),(13,Ai σ.2.1.2.1)]) (λσ=>[.blk b2 (AP σ.2.1.2.2) 105,.blk b1 [Ai 0,Ai 0,rB false,rB false] 105,.row σ.2.2 120 5 (Ay Ax σ.2.1.1)]) (λσ=>σ.1) (F,(([]:List Az),0,(A9.mk 0 0 false false)),(.slice none 0 0                                                                                                                        )) hB (AW.c Aa (AW.c Aa (AW.c5 Aa Aa Aa Aa Aa AW.nil))) (sC (sC (sC sN))) (λσ=>H8 σ.1=some r) (λσ=>[(3,rP b1 0),(5,rP b2 0)]) (λσ=>[.blk b2 (AP σ.1) 105,.blk b1 [Ai 0,Ai 0,rB false,rB false] 105]) ?_ ?_)))))))))))))))
 ·rintro⟨gI,⟨hd,hb,ha⟩,he⟩ hC;refine Co (l':=[(0,AG 4 (Ay Ab v)),(3,rP b1 0),(5,rP b2 0),(6,rv he),(11,AG 4 (Ay Ab v)),(12,Ai (v.length:Int)),(13,Ai hb)]) (H':=[.blk b2 (AP ha) 105,.blk b1 [Ai 0,Ai 0,rB false,rB false] 105,.row he 120 5 (Ay Ax hd)]) Aa Aa ?_;obtain⟨hD,rfl,h4,h0,hx⟩:=CC hC;replace h0:CE F v hd hb ha=some h4:=h0;unfold CE at h0;refine Af (wv (CO Aa Aa) (As (Aq (cz h0 Aa (λhE hG=>?_) (λhE hH=>?_)))))
  ·refine A0 (AO (Ej (S:=((List Az)×A9)×(Value)) (λσ=>Dd hb σ.1.1 σ.1.2=some h4) (λσ=>[(0,AG 4 (Ay Ab v)),(3,rP b1 0),(5,rP b2 0),(6,rv σ.2),(11,AG 4 (Ay Ab v)),(12,Ai (v.length:Int)),(13,Ai hb)]) (λσ=>[.blk b2 (AP σ.1.2) 105,.blk b1 [Ai 0,Ai 0,rB false,rB false] 105,.row σ.2 120 5 (Ay Ax σ.1.1)]) ?_ ?_))
   ·refine AU (Af (wm Aa (ck hG λhI hJ=>wv (Bg (enc:=Ab) (ys:=v) BF BJ Aa Aa hI) (wv (C7 H5 BJ Aa Aa Aa) (BA (cs:=[Ai 0,Ai 0,rS ([]:An),Ai 0]) GW Aa Aa (λhf=>?_))))));refine wa Aa (A8 (i:=0) BJ Aa Aa Aa (AZ.c Aa) Aa Aa (cs':=[Ai ((Ae v hb).fKind),Ai ((Ae v hb).fInt),rS ((Ae v hb).fStr),Ai ((Ae v hb).fN)]) Aa (H':=[.blk hf (Ab (Ae v hb)) 63,.blk b2 (AP ha) 105,.blk b1 [Ai 0,Ai 0,rB false,rB false] 105,.row he 120 5 (Ay Ax hd)]) Aa (As (Aq (Af (wv (Bd (i:=0) H5 BJ Aa Aa Aa Aa) (ob hJ λhK hL hN=>BQ Tryz.call76 (OZ F (Ae v hb) hK hL) Aa (wv (Cg Aa) (As (cz hN Aa (λhO hP=>?_) (λhO hQ=>?_))))))))))
    ·refine Aq (Gq (H1:=[.blk hf (Ab (Ae v hb)) 63,.blk b2 (AP ha) 105,.blk b1 (AP ha) 105,.row he 120 5 (Ay Ax hd)]) [3,5] [⟨[],Bb (AP ha),1⟩,⟨[],Ai 0,0⟩,⟨[0],rv undef,2⟩,⟨[],rB false,0⟩] (rle [(3,_),(2,[.blk hf (Ab (Ae v hb)) 63,.blk b2 (AP ha) 105,.blk b1 (AP ha) 105,.row he 120 5 (Ay Ax hd)])]) [2,4,3] ?_ ?_)
     ·refine of (Bd (i:=1) GY DN Aa Aa Aa Aa) (oq (AC Aa) (J9 Aa (Ma (C8 (i:=2) DN Aa Aa Aa (AZ.c Aa) Aa Aa (cs':=[Ai ha.fDepth,Ai ha.fBytes,rB ha.fOutside,rB ha.fLong]) Aa (H':=[.blk hf (Ab (Ae v hb)) 63,.blk b2 (AP ha) 105,.blk b1 (AP ha) 105,.row he 120 5 (Ay Ax hd)]) Aa)) ?_));refine oq (AC Aa) ?_;exact Du
     refine AO (Av (Ad (AB (Ad (Ad (Bt ?_))))));have hR:=BN hP hx hy;refine AB (Ad (H6 ?_));obtain rfl:=Aw hR;exact Au (Jh OP (AH Aa) (BD (i:=2) GY DN Aa Aa Aa) (AH Aa)) (sS (sS (sS (sS sN)))) ⟨Aa,Aa⟩
    ·refine A0 (AO (Aq (Af (wm Aa (wv (DD (ys:=hd) (enc:=Ax) (i:=3) Gg Aa Aa) (wa Aa (As (ck hQ λhS hT=>ck hT λh5 hU=>AL [(0,AG 4 (Ay Ab v)),(3,rP b1 0),(5,rP b2 0),(6,rv he),(7,Ai hb),(8,rP hf 0),(9,Ai (hd.length:Int)),(11,AG 4 (Ay Ab v)),(12,Ai (v.length:Int)),(13,Ai hb),(33,rB ((decide (0<(hd.length:Int)))&&((Ae hd ((hd.length:Int)-1)).fKey)))] [.blk hf (Ab (Ae v hb)) 63,.blk b2 (AP ha) 105,.blk b1 [Ai 0,Ai 0,rB false,rB false] 105,.row he 120 5 (Ay Ax hd)] ?_ ?_))))))))
     ·refine Ar (wm Aa (wv (De Aa Aa) (wm Aa (AQ (decide (0<(hd.length:Int))) (λhi=>?_) (λhi=>?_)))))
      ·refine wo hi (wm Aa (wo hi (wm Aa (wo hi (wv (K1 Aa Aa (Cl hS hi)) (wo hi (wv (r:=rv (DS 5 he (C6 ((hd.length:Int)-1)) 0)) (I4 (i:=3) Gg LA Aa Aa Aa (B8 (Cl h5 hi))) (wo hi (wv (r:=rv (DS 5 he (C6 ((hd.length:Int)-1)) 2)) (DK (k:=3) Gf Aa H4 Aa (B8 (Cl h5 hi)) Aa Aa Aa) (wo hi (wv (r:=rB ((Ae hd ((hd.length:Int)-1)).fKey)) (E3 (enc:=Ax) (ys:=hd) (i:=3) (j:=(hd.length:Int)-1) Qm Aa Aa (Cl h5 hi) Aa) (D4 Aa hi Aa (Ao ?_)))))))))))));exact BP hi
      ·refine wf hi (wf hi (wf hi (wf hi (wf hi (wf hi (wv (r:=rB false) (A4 Aa hi Aa) (Ao ?_)))))));exact BP hi
     refine cz hU Aa (λhV hW=>?_) (λhV hX=>?_)
     ·refine Af (wm Aa (wm Aa (ck hW λhY hZ=>wv (K1 Aa Aa hY) (ck hZ λhj ga=>wv (r:=rv (DS 5 he (C6 ((hd.length:Int)-1)) 0)) (I4 (i:=3) Gg LA Aa Aa Aa (B8 hj)) (wa Aa (As (Aq (AL [(0,AG 4 (Ay Ab v)),(3,rP b1 0),(5,rP b2 0),(6,rv he),(8,rP hf 0),(10,rv (DS 5 he (C6 ((hd.length:Int)-1)) 0)),(11,AG 4 (Ay Ab v)),(12,Ai (v.length:Int)),(13,Ai hb),(38,rP hf 0),(39,Ai ((Ae v hb).fKind)),(40,rB (!decide (((Ae v hb).fKind)=4))),(41,rB (!decide (((Ae v hb).fKind)=4))),(55,rB ((!decide (((Ae v hb).fKind)=4))||(((Ae hd ((hd.length:Int)-1)).fStarted)&&(CJ ((Ae v hb).fStr) ((Ae hd ((hd.length:Int)-1)).fLast)||decide (((Ae v hb).fStr)=((Ae hd ((hd.length:Int)-1)).fLast))))))] [.blk hf (Ab (Ae v hb)) 63,.blk b2 (AP ha) 105,.blk b1 [Ai 0,Ai 0,rB false,rB false] 105,.row he 120 5 (Ay Ax hd)] ?_ ?_))))))))
      ·refine AQ (!decide (((Ae v hb).fKind)=4)) (λhh=>?_) (λhh=>?_)
       ·refine DI [0,3,5,6,8,10,11,12,13] [⟨[],rP hf 0,0⟩,⟨[0],Ai ((Ae v hb).fKind),1⟩,⟨[1],rB (!decide (((Ae v hb).fKind)=4)),0⟩,⟨[2],rB (!decide (((Ae v hb).fKind)=4)),0⟩,⟨[3],rv undef,0⟩,⟨[4,3],rv undef,0⟩,⟨[5,3],rv undef,0⟩,⟨[6,3],rv undef,0⟩,⟨[7,3],rv undef,0⟩,⟨[8],rv undef,0⟩,⟨[9,8],rv undef,0⟩,⟨[8],rv undef,0⟩,⟨[11,8],rv undef,0⟩,⟨[12,8],rv undef,0⟩,⟨[13,8],rv undef,0⟩,⟨[10,14,8],rv undef,0⟩,⟨[8,15,3],rv undef,0⟩,⟨[3,16],rB true,0⟩] [38,39,40,41,42,43,44,45,46,47,48,49,50,51,52,53,54,55,0,3,5,6,8,10,11,12,13] ?_ ?_
        ·refine oq (AS Bh Aa CS Aa Aa) (of (B3 (i:=0) CU Aa Aa Aa) (oq (CZ Aa Aa) (oq (A5 Aa) (oz hh (oz hh (oz hh (oz hh (oz hh (ou (ou (ou (ou (ou (ou (ou (oz hh (oq (At (b:=!decide (((Ae v hb).fKind)=4)) Aa hh Aa) ?_)))))))))))))))));exact Du
        exact BP hh
       ·refine AQ ((Ae hd ((hd.length:Int)-1)).fStarted) (λhk=>?_) (λhk=>?_)
        ·refine DI [0,3,5,6,8,10,11,12,13] [⟨[],rP hf 0,0⟩,⟨[0],Ai ((Ae v hb).fKind),1⟩,⟨[1],rB (!decide (((Ae v hb).fKind)=4)),0⟩,⟨[2],rB (!decide (((Ae v hb).fKind)=4)),0⟩,⟨[3],rv (DS 5 he (C6 ((hd.length:Int)-1)) 0),0⟩,⟨[4,3],rv (DS 5 he (C6 ((hd.length:Int)-1)) 0),1⟩,⟨[5,3],rv (DS 5 he (C6 ((hd.length:Int)-1)) 4),1⟩,⟨[6,3],rB ((Ae hd ((hd.length:Int)-1)).fStarted),1⟩,⟨[7,3],rB ((Ae hd ((hd.length:Int)-1)).fStarted),0⟩,⟨[8],rP hf 2,0⟩,⟨[9,8],rS ((Ae v hb).fStr),1⟩,⟨[8],rv (DS 5 he (C6 ((hd.length:Int)-1)) 0),0⟩,⟨[11,8],rv (DS 5 he (C6 ((hd.length:Int)-1)) 0),1⟩,⟨[12,8],rv (DS 5 he (C6 ((hd.length:Int)-1)) 3),1⟩,⟨[13,8],rS ((Ae hd ((hd.length:Int)-1)).fLast),1⟩,⟨[10,14,8],rB (CJ ((Ae v hb).fStr) ((Ae hd ((hd.length:Int)-1)).fLast)||decide (((Ae v hb).fStr)=((Ae hd ((hd.length:Int)-1)).fLast))),0⟩,⟨[8,15,3],rB (CJ ((Ae v hb).fStr) ((Ae hd ((hd.length:Int)-1)).fLast)||decide (((Ae v hb).fStr)=((Ae hd ((hd.length:Int)-1)).fLast))),0⟩,⟨[3,16],rB (CJ ((Ae v hb).fStr) ((Ae hd ((hd.length:Int)-1)).fLast)||decide (((Ae v hb).fStr)=((Ae hd ((hd.length:Int)-1)).fLast))),0⟩] [38,39,40,41,42,43,44,45,46,47,48,49,50,51,52,53,54,55,0,3,5,6,8,10,11,12,13] ?_ ?_
         ·refine oq (AS Bh Aa CS Aa Aa) (of (B3 (i:=0) CU Aa Aa Aa) (oq (CZ Aa Aa) (oq (A5 Aa) (on hh (oq (A5 Aa) (on hh (of (BM (k:=3) Aa (B8 hj) Aa Aa) (on hh (of (DK (k:=3) Gf Aa H4 Aa (B8 hj) Aa Aa Aa) (on hh (of (E3 (enc:=Ax) (ys:=hd) (i:=3) (j:=(hd.length:Int)-1) Qm Aa Aa hj Aa) (on hh (oq (A5 Aa) (on hk (oq (AS Bh Aa Dm Aa Aa) (on hk (of (B3 (i:=0) Dx Aa Aa Aa) (on hk (oq (A5 Aa) (on hk (of (BM (k:=3) Aa (B8 hj) Aa Aa) (on hk (of (DK (k:=3) Gf Aa Dm Aa (B8 hj) Aa Aa Aa) ?_)))))))))))))))))))))));refine on hk (of (E3 (enc:=Ax) (ys:=hd) (i:=3) (j:=(hd.length:Int)-1) Dx Aa Aa hj Aa) (on hk (oq (Pv Aa Aa) (on hh (oq (At Aa hk Aa) (oq (A4 Aa hh Aa) ?_))))));exact Du
         exact BP (And.intro hh hk)
        ·refine DI [0,3,5,6,8,10,11,12,13] [⟨[],rP hf 0,0⟩,⟨[0],Ai ((Ae v hb).fKind),1⟩,⟨[1],rB (!decide (((Ae v hb).fKind)=4)),0⟩,⟨[2],rB (!decide (((Ae v hb).fKind)=4)),0⟩,⟨[3],rv (DS 5 he (C6 ((hd.length:Int)-1)) 0),0⟩,⟨[4,3],rv (DS 5 he (C6 ((hd.length:Int)-1)) 0),1⟩,⟨[5,3],rv (DS 5 he (C6 ((hd.length:Int)-1)) 4),1⟩,⟨[6,3],rB ((Ae hd ((hd.length:Int)-1)).fStarted),1⟩,⟨[7,3],rB ((Ae hd ((hd.length:Int)-1)).fStarted),0⟩,⟨[8],rv undef,0⟩,⟨[9,8],rv undef,0⟩,⟨[8],rv undef,0⟩,⟨[11,8],rv undef,0⟩,⟨[12,8],rv undef,0⟩,⟨[13,8],rv undef,0⟩,⟨[10,14,8],rv undef,0⟩,⟨[8,15,3],rB false,0⟩,⟨[3,16],rB false,0⟩] [38,39,40,41,42,43,44,45,46,47,48,49,50,51,52,53,54,55,0,3,5,6,8,10,11,12,13] ?_ ?_
         ·refine oq (AS Bh Aa CS Aa Aa) (of (B3 (i:=0) CU Aa Aa Aa) (oq (CZ Aa Aa) (oq (A5 Aa) (on hh (oq (A5 Aa) (on hh (of (BM (k:=3) Aa (B8 hj) Aa Aa) (on hh (of (DK (k:=3) Gf Aa H4 Aa (B8 hj) Aa Aa Aa) (on hh (of (E3 (enc:=Ax) (ys:=hd) (i:=3) (j:=(hd.length:Int)-1) Qm Aa Aa hj Aa) (on hh (oq (A5 Aa) (oz hk (oz hk (oz hk (oz hk (oz hk (oz hk (oz hk (on hh (oq (A4 (b:=(Ae hd ((hd.length:Int)-1)).fStarted) Aa hk Aa) (oq (A4 Aa hh Aa) ?_)))))))))))))))))))))));exact Du
         exact BP (And.intro hh hk)
      refine cz ga Aa (λgb gc=>?_) (λgb gd=>?_)
      ·refine Aq (Gq (H1:=[.blk hf (Ab (Ae v hb)) 63,.blk b2 (AP ha) 105,.blk b1 (AP ha) 105,.row he 120 5 (Ay Ax hd)]) [3,5] [⟨[],Bb (AP ha),1⟩,⟨[],Ai 0,0⟩,⟨[0],rv undef,2⟩,⟨[],rB false,0⟩] (rle [(3,_),(2,[.blk hf (Ab (Ae v hb)) 63,.blk b2 (AP ha) 105,.blk b1 (AP ha) 105,.row he 120 5 (Ay Ax hd)])]) [2,4,3] ?_ ?_)
       ·refine of (Bd (i:=1) GY DN Aa Aa Aa Aa) (oq (AC Aa) (J9 Aa (Ma (C8 (i:=2) DN Aa Aa Aa (AZ.c Aa) Aa Aa (cs':=[Ai ha.fDepth,Ai ha.fBytes,rB ha.fOutside,rB ha.fLong]) Aa (H':=[.blk hf (Ab (Ae v hb)) 63,.blk b2 (AP ha) 105,.blk b1 (AP ha) 105,.row he 120 5 (Ay Ax hd)]) Aa)) ?_));refine oq (AC Aa) ?_;exact Du
       refine AO (Av (Ad (Ad (AB (Ad (Ad (Bt ?_)))))));have ge:=BN gc hx hy;refine AB (Ad (H6 ?_));obtain rfl:=Aw ge;exact Au (Jh OP (AH Aa) (BD (i:=2) GY DN Aa Aa Aa) (AH Aa)) (sS (sS (sS (sS sN)))) ⟨Aa,Aa⟩
      ·refine A0 (AO (Af (wm Aa (wm Aa (wm Aa (vF Bh Aa Dm (vL 0 Dx Aa (wv (r:=rv (DS 5 he (C6 ((hd.length:Int)-1)) 0)) (BM (k:=3) Aa (B8 hj) Aa Aa) (wv (r:=rv (DS 5 he (C6 ((hd.length:Int)-1)) 3)) (DK (k:=3) Gf Aa Dm Aa (B8 hj) Aa Aa Aa) (Ir (enc:=Ax) (ys:=hd) (y':=(Az.mk ((Ae hd ((hd.length:Int)-1)).fPairs) ((Ae hd ((hd.length:Int)-1)).fLeft) ((Ae hd ((hd.length:Int)-1)).fKey) ((Ae v hb).fStr) ((Ae hd ((hd.length:Int)-1)).fStarted))) (i:=3) (j:=(hd.length:Int)-1) Dm Aa Aa (Cc Aa) Aa hj Aa Aa (H':=[.blk hf (Ab (Ae v hb)) 63,.blk b2 (AP ha) 105,.blk b1 [Ai 0,Ai 0,rB false,rB false] 105,.row he 120 5 (Ay Ax (List.set hd (C6 ((hd.length:Int)-1)) (Az.mk ((Ae hd ((hd.length:Int)-1)).fPairs) ((Ae hd ((hd.length:Int)-1)).fLeft) ((Ae hd ((hd.length:Int)-1)).fKey) ((Ae v hb).fStr) ((Ae hd ((hd.length:Int)-1)).fStarted))))]) Aa (bd gd λhr hu gf=>?_)))))))))));rw[← hu];refine wv (r:=rv (DS 5 he (C6 ((hd.length:Int)-1)) 0)) (BM (k:=3) Aa (B8 (Cj hj hu)) Aa Aa) (wv (r:=rv (DS 5 he (C6 ((hd.length:Int)-1)) 4)) (DK (k:=3) Gf Aa H4 Aa (B8 (Cj hj hu)) Aa Aa Aa) (Ir (enc:=Ax) (ys:=hr) (y':=(Az.mk ((Ae hr ((hd.length:Int)-1)).fPairs) ((Ae hr ((hd.length:Int)-1)).fLeft) ((Ae hr ((hd.length:Int)-1)).fKey) ((Ae hr ((hd.length:Int)-1)).fLast) true)) (i:=3) (j:=(hd.length:Int)-1) H4 Aa Aa (Cc Aa) Aa (Cj hj hu) Aa Aa (H':=[.blk hf (Ab (Ae v hb)) 63,.blk b2 (AP ha) 105,.blk b1 [Ai 0,Ai 0,rB false,rB false] 105,.row he 120 5 (Ay Ax (List.set hr (C6 ((hd.length:Int)-1)) (Az.mk ((Ae hr ((hd.length:Int)-1)).fPairs) ((Ae hr ((hd.length:Int)-1)).fLeft) ((Ae hr ((hd.length:Int)-1)).fKey) ((Ae hr ((hd.length:Int)-1)).fLast) true)))]) Aa (bd gf λhs h1 gg=>?_)));rw[← h1];refine wv (r:=rv (DS 5 he (C6 ((hd.length:Int)-1)) 0)) (BM (k:=3) Aa (B8 (Cj (Cj hj hu) h1)) Aa Aa) (wv (r:=rv (DS 5 he (C6 ((hd.length:Int)-1)) 2)) (DK (k:=3) Gf Aa H4 Aa (B8 (Cj (Cj hj hu) h1)) Aa Aa Aa) (Ir (enc:=Ax) (ys:=hs) (y':=(Az.mk ((Ae hs ((hd.length:Int)-1)).fPairs) ((Ae hs ((hd.length:Int)-1)).fLeft) false ((Ae hs ((hd.length:Int)-1)).fLast) ((Ae hs ((hd.length:Int)-1)).fStarted))) (i:=3) (j:=(hd.length:Int)-1) H4 Aa Aa (Cc Aa) Aa (Cj (Cj hj hu) h1) Aa Aa (H':=[.blk hf (Ab (Ae v hb)) 63,.blk b2 (AP ha) 105,.blk b1 [Ai 0,Ai 0,rB false,rB false] 105,.row he 120 5 (Ay Ax (List.set hs (C6 ((hd.length:Int)-1)) (Az.mk ((Ae hs ((hd.length:Int)-1)).fPairs) ((Ae hs ((hd.length:Int)-1)).fLeft) false ((Ae hs ((hd.length:Int)-1)).fLast) ((Ae hs ((hd.length:Int)-1)).fStarted))))]) Aa (bd gg λht gh gi=>?_)));rw[← gh];refine As (Aq (ob gi λhl gj gl=>ck gl λgm gp=>Gq (H1:=[.blk hf (Ab (Ae v hb)) 63,.blk b2 [Ai ha.fDepth,Ai (IntKind.wrap .i64 (ha.fBytes+(hl+1))),rB ha.fOutside,rB ha.fLong] 105,.blk b1 [Ai 0,Ai 0,rB false,rB false] 105,.row he 120 5 (Ay Ax ht)]) [0,3,5,6,8,11,12,13,38,39,40,41] [⟨[],rP b2 1,0⟩,⟨[0],Ai ha.fBytes,1⟩,⟨[],rP hf 2,0⟩,⟨[2],rS ((Ae v hb).fStr),1⟩,⟨[3],Ai hl,0⟩,⟨[4],Ai (hl+1),0⟩,⟨[1,5],Ai (IntKind.wrap .i64 (ha.fBytes+(hl+1))),0⟩,⟨[],rP b2 1,0⟩,⟨[7,6],rv undef,2⟩] (rle [(9,_),(1,[.blk hf (Ab (Ae v hb)) 63,.blk b2 [Ai ha.fDepth,Ai (IntKind.wrap .i64 (ha.fBytes+(hl+1))),rB ha.fOutside,rB ha.fLong] 105,.blk b1 [Ai 0,Ai 0,rB false,rB false] 105,.row he 120 5 (Ay Ax ht)])]) [68,69,70,71,72,73,74,75,0,3,5,6,8,11,12,13,38,39,40,41] ?_ ?_))
       ·refine oq (AS Do Aa Cq Aa Aa) (of (B3 (i:=1) Dk Aa Aa Aa) (oq (AS Bh Aa Dm Aa Aa) (of (B3 (i:=0) Dx Aa Aa Aa) (CN Aa (λH=>DC Tryz.call77 (Kq ((Ae v hb).fStr) hl gj) Aa) ?_))));refine oq (B0 Aa Aa gm) (oq (MN Aa Aa) (oq (AS Do Aa Cq Aa Aa) (J9 Aa (Ma (KL (i:=1) Cq Aa Aa (Cc Aa) Aa Aa (cs':=[Ai ha.fDepth,Ai (IntKind.wrap .i64 (ha.fBytes+(hl+1))),rB ha.fOutside,rB ha.fLong]) Aa (H':=[.blk hf (Ab (Ae v hb)) 63,.blk b2 [Ai ha.fDepth,Ai (IntKind.wrap .i64 (ha.fBytes+(hl+1))),rB ha.fOutside,rB ha.fLong] 105,.blk b1 [Ai 0,Ai 0,rB false,rB false] 105,.row he 120 5 (Ay Ax ht)]) Aa)) ?_)));exact Du
       refine AO (AL [(0,AG 4 (Ay Ab v)),(3,rP b1 0),(5,rP b2 0),(6,rv he),(11,AG 4 (Ay Ab v)),(12,Ai (v.length:Int)),(13,Ai hb),(38,rP hf 0),(39,Ai ((Ae v hb).fKind)),(40,rB (!decide (((Ae v hb).fKind)=4))),(41,rB (!decide (((Ae v hb).fKind)=4))),(68,rP b2 1),(69,Ai ha.fBytes),(70,rP hf 2),(71,rS ((Ae v hb).fStr)),(72,Ai hl),(73,Ai (hl+1)),(74,Ai (IntKind.wrap .i64 (ha.fBytes+(hl+1)))),(75,rP b2 1)] [.blk hf (Ab (Ae v hb)) 63,.blk b2 [Ai ha.fDepth,Ai (IntKind.wrap .i64 (ha.fBytes+(hl+1))),rB ha.fOutside,rB (ha.fLong||(decide (200<(((Ae v hb).fStr).length:Int))))] 105,.blk b1 [Ai 0,Ai 0,rB false,rB false] 105,.row he 120 5 (Ay Ax ht)] ?_ ?_)
       ·refine Ar (vF Do Aa H4 (vL 1 Qm Aa (wm Aa (AQ (ha.fLong) (λho=>?_) (λho=>?_)))))
        ·refine wf ho (wf ho (wf ho (wf ho (wv (r:=rB true) (At rfl ho rfl) (vF Do rfl H4 (BR (i:=1) H4 rfl rfl (Cc rfl) rfl rfl (cs':=[Ai ha.fDepth,Ai (IntKind.wrap .i64 (ha.fBytes+(hl+1))),rB ha.fOutside,rB true]) rfl (H':=[.blk hf (Ab (Ae v hb)) 63,.blk b2 [Ai ha.fDepth,Ai (IntKind.wrap .i64 (ha.fBytes+(hl+1))),rB ha.fOutside,rB true] 105,.blk b1 [Ai 0,Ai 0,rB false,rB false] 105,.row he 120 5 (Ay Ax ht)]) rfl (Ao (Hi (H':=[.blk hf (Ab (Ae v hb)) 63,.blk b2 [Ai ha.fDepth,Ai (IntKind.wrap .i64 (ha.fBytes+(hl+1))),rB ha.fOutside,rB (ha.fLong||(decide (200<(((Ae v hb).fStr).length:Int))))] 105,.blk b1 [Ai 0,Ai 0,rB false,rB false] 105,.row he 120 5 (Ay Ax ht)]) (by simp only[ho,Ti,T4,T1,Tk,Tw,Tx,Tv,T2,SY,Tt,SW,SR]) ?_))))))));exact wt
        ·refine wo ho (vF Bh rfl Dm (wo ho (vL 0 Dx rfl (wo ho (wv (Cb DM rfl) (wo ho (wv (De rfl rfl) (Er rfl ho rfl (vF Do rfl H4 (BR (i:=1) H4 rfl rfl (Cc rfl) rfl rfl (cs':=[Ai ha.fDepth,Ai (IntKind.wrap .i64 (ha.fBytes+(hl+1))),rB ha.fOutside,rB (decide (200<(((Ae v hb).fStr).length:Int)))]) rfl (H':=[.blk hf (Ab (Ae v hb)) 63,.blk b2 [Ai ha.fDepth,Ai (IntKind.wrap .i64 (ha.fBytes+(hl+1))),rB ha.fOutside,rB (decide (200<(((Ae v hb).fStr).length:Int)))] 105,.blk b1 [Ai 0,Ai 0,rB false,rB false] 105,.row he 120 5 (Ay Ax ht)]) rfl (Ao (Hi (H':=[.blk hf (Ab (Ae v hb)) 63,.blk b2 [Ai ha.fDepth,Ai (IntKind.wrap .i64 (ha.fBytes+(hl+1))),rB ha.fOutside,rB (ha.fLong||(decide (200<(((Ae v hb).fStr).length:Int))))] 105,.blk b1 [Ai 0,Ai 0,rB false,rB false] 105,.row he 120 5 (Ay Ax ht)]) (by simp only[ho,Ti,T4,T1,Tk,Tw,Tx,Tv,T2,SY,Tt,SW,SR]) ?_))))))))))));exact wt
       exact B7 (A7 (Bn (AF (AK ((ht,(A9.mk ha.fDepth (IntKind.wrap .i64 (ha.fBytes+(hl+1))) ha.fOutside (ha.fLong||(decide (200<(((Ae v hb).fStr).length:Int)))))),he) gp (AW.c Aa (AW.c Aa (AW.c5 Aa Aa Aa Aa Aa AW.nil))) (sS (sC (sC (sC sN))))))))
     ·refine A0 (AO (Af (vF Do Aa Cq (vL 1 Dk Aa (wm Aa (wv (DD (ys:=hd) (enc:=Ax) (i:=3) Gg Aa Aa) (ck hX λgq gr=>wv (B0 Aa Aa gq) (wv (Rb Ss Aa Aa) (vF Do Aa Cq (BR (i:=1) Cq Aa Aa (Cc Aa) Aa Aa (cs':=[Ai (max ha.fDepth ((hd.length:Int)+1)),Ai ha.fBytes,rB ha.fOutside,rB ha.fLong]) Aa (H':=[.blk hf (Ab (Ae v hb)) 63,.blk b2 [Ai (max ha.fDepth ((hd.length:Int)+1)),Ai ha.fBytes,rB ha.fOutside,rB ha.fLong] 105,.blk b1 [Ai 0,Ai 0,rB false,rB false] 105,.row he 120 5 (Ay Ax hd)]) Aa (As (Aq (ob gr λhg gs gt=>Gq (H1:=[.blk hf (Ab (Ae v hb)) 63,.blk b2 [Ai (max ha.fDepth ((hd.length:Int)+1)),Ai (IntKind.wrap .i64 (ha.fBytes+hg)),rB ha.fOutside,rB ha.fLong] 105,.blk b1 [Ai 0,Ai 0,rB false,rB false] 105,.row he 120 5 (Ay Ax hd)]) [0,3,5,6,7,8,11,12,13] [⟨[],rP b2 1,0⟩,⟨[0],Ai ha.fBytes,1⟩,⟨[],Bb (Ab (Ae v hb)),1⟩,⟨[2],Ai hg,0⟩,⟨[1,3],Ai (IntKind.wrap .i64 (ha.fBytes+hg)),0⟩,⟨[],rP b2 1,0⟩,⟨[5,4],rv undef,2⟩] (rle [(7,_),(1,[.blk hf (Ab (Ae v hb)) 63,.blk b2 [Ai (max ha.fDepth ((hd.length:Int)+1)),Ai (IntKind.wrap .i64 (ha.fBytes+hg)),rB ha.fOutside,rB ha.fLong] 105,.blk b1 [Ai 0,Ai 0,rB false,rB false] 105,.row he 120 5 (Ay Ax hd)])]) [92,93,94,95,96,97,0,3,5,6,7,8,11,12,13] ?_ ?_)))))))))))))
      ·refine oq (AS Do Aa Cq Aa Aa) (of (B3 (i:=1) Dk Aa Aa Aa) (of (Bd (i:=0) H5 BJ Aa Aa Aa Aa) (CN Aa (λH=>DC Tryz.call78 (Qq (Ae v hb) hg gs) Aa) ?_)));refine oq (MN Aa Aa) (oq (AS Do Aa Cq Aa Aa) (J9 Aa (Ma (KL (i:=1) Cq Aa Aa (Cc Aa) Aa Aa (cs':=[Ai (max ha.fDepth ((hd.length:Int)+1)),Ai (IntKind.wrap .i64 (ha.fBytes+hg)),rB ha.fOutside,rB ha.fLong]) Aa (H':=[.blk hf (Ab (Ae v hb)) 63,.blk b2 [Ai (max ha.fDepth ((hd.length:Int)+1)),Ai (IntKind.wrap .i64 (ha.fBytes+hg)),rB ha.fOutside,rB ha.fLong] 105,.blk b1 [Ai 0,Ai 0,rB false,rB false] 105,.row he 120 5 (Ay Ax hd)]) Aa)) ?_));exact Du
      refine AO (ck gt λgu gv=>AL [(0,AG 4 (Ay Ab v)),(3,rP b1 0),(5,rP b2 0),(6,rv he),(7,Ai hb),(8,rP hf 0),(11,AG 4 (Ay Ab v)),(12,Ai (v.length:Int)),(13,Ai hb),(92,rP b2 1),(93,Ai ha.fBytes),(94,Bb (Ab (Ae v hb))),(95,Ai hg),(96,Ai (IntKind.wrap .i64 (ha.fBytes+hg))),(97,rP b2 1)] [.blk hf (Ab (Ae v hb)) 63,.blk b2 [Ai (max ha.fDepth ((hd.length:Int)+1)),Ai (IntKind.wrap .i64 (ha.fBytes+hg)),rB (ha.fOutside||((decide (((Ae v hb).fKind)=3))&&(!(ov (Bl ((Ae v hb).fInt)))))),rB ha.fLong] 105,.blk b1 [Ai 0,Ai 0,rB false,rB false] 105,.row he 120 5 (Ay Ax hd)] ?_ ?_)
      ·refine Ar (vF Do Aa H4 (vL 1 Qm Aa (wm Aa (AQ (ha.fOutside) (λhm=>?_) (λhm=>?_)))))
       ·refine wf hm (wf hm (wf hm (wf hm (wu (wu (wu (wu (wf hm (wv (r:=rB true) (At rfl hm rfl) (vF Do rfl H4 (BR (i:=1) H4 rfl rfl (Cc rfl) rfl rfl (cs':=[Ai (max ha.fDepth ((hd.length:Int)+1)),Ai (IntKind.wrap .i64 (ha.fBytes+hg)),rB true,rB ha.fLong]) rfl (H':=[.blk hf (Ab (Ae v hb)) 63,.blk b2 [Ai (max ha.fDepth ((hd.length:Int)+1)),Ai (IntKind.wrap .i64 (ha.fBytes+hg)),rB true,rB ha.fLong] 105,.blk b1 [Ai 0,Ai 0,rB false,rB false] 105,.row he 120 5 (Ay Ax hd)]) rfl (Ao (Hi (H':=[.blk hf (Ab (Ae v hb)) 63,.blk b2 [Ai (max ha.fDepth ((hd.length:Int)+1)),Ai (IntKind.wrap .i64 (ha.fBytes+hg)),rB (ha.fOutside||((decide (((Ae v hb).fKind)=3))&&(!(ov (Bl ((Ae v hb).fInt)))))),rB ha.fLong] 105,.blk b1 [Ai 0,Ai 0,rB false,rB false] 105,.row he 120 5 (Ay Ax hd)]) (by simp only[hm,Ti,T4,T1,Tk,Tw,Tx,Tv,T2,SY,Tt,SW,SR]) ?_)))))))))))));exact wt
       ·refine wo hm (vF Bh Aa CS (wo hm (vL 0 CU Aa (wo hm (wv (Bv Aa Aa) (wo hm (wm Aa (AQ (decide (((Ae v hb).fKind)=3)) (λhn=>?_) (λhn=>?_)))))))))
        ·refine wo hn (vF Bh rfl Cq (wo hn (vL 0 Dk rfl (wo hn (BQ Tryz.call79 (JB ((Ae v hb).fInt) (ov (Bl ((Ae v hb).fInt))) (DJ (Cl (D3 gu hm) hn))) rfl (wo hn (wv (Cg rfl) (wo hm (D4 rfl hn rfl (Er rfl hm rfl (vF Do rfl H4 (BR (i:=1) H4 rfl rfl (Cc rfl) rfl rfl (cs':=[Ai (max ha.fDepth ((hd.length:Int)+1)),Ai (IntKind.wrap .i64 (ha.fBytes+hg)),rB (!(ov (Bl ((Ae v hb).fInt)))),rB ha.fLong]) rfl (H':=[.blk hf (Ab (Ae v hb)) 63,.blk b2 [Ai (max ha.fDepth ((hd.length:Int)+1)),Ai (IntKind.wrap .i64 (ha.fBytes+hg)),rB (!(ov (Bl ((Ae v hb).fInt)))),rB ha.fLong] 105,.blk b1 [Ai 0,Ai 0,rB false,rB false] 105,.row he 120 5 (Ay Ax hd)]) rfl (Ao (Hi (H':=[.blk hf (Ab (Ae v hb)) 63,.blk b2 [Ai (max ha.fDepth ((hd.length:Int)+1)),Ai (IntKind.wrap .i64 (ha.fBytes+hg)),rB (ha.fOutside||((decide (((Ae v hb).fKind)=3))&&(!(ov (Bl ((Ae v hb).fInt)))))),rB ha.fLong] 105,.blk b1 [Ai 0,Ai 0,rB false,rB false] 105,.row he 120 5 (Ay Ax hd)]) (by simp only[hm,hn,Ti,T4,T1,Tk,Tw,Tx,Tv,T2,SY,Tt,SW,SR]) ?_))))))))))))));exact wt
        ·refine wf hn (wf hn (wf hn (wf hn (wo hm (wv (r:=rB false) (A4 rfl hn rfl) (Er rfl hm rfl (vF Do rfl H4 (BR (i:=1) H4 rfl rfl (Cc rfl) rfl rfl (cs':=[Ai (max ha.fDepth ((hd.length:Int)+1)),Ai (IntKind.wrap .i64 (ha.fBytes+hg)),rB false,rB ha.fLong]) rfl (H':=[.blk hf (Ab (Ae v hb)) 63,.blk b2 [Ai (max ha.fDepth ((hd.length:Int)+1)),Ai (IntKind.wrap .i64 (ha.fBytes+hg)),rB false,rB ha.fLong] 105,.blk b1 [Ai 0,Ai 0,rB false,rB false] 105,.row he 120 5 (Ay Ax hd)]) rfl (Ao (Hi (H':=[.blk hf (Ab (Ae v hb)) 63,.blk b2 [Ai (max ha.fDepth ((hd.length:Int)+1)),Ai (IntKind.wrap .i64 (ha.fBytes+hg)),rB (ha.fOutside||((decide (((Ae v hb).fKind)=3))&&(!(ov (Bl ((Ae v hb).fInt)))))),rB ha.fLong] 105,.blk b1 [Ai 0,Ai 0,rB false,rB false] 105,.row he 120 5 (Ay Ax hd)]) (by simp only[hm,hn,Ti,T4,T1,Tk,Tw,Tx,Tv,T2,SY,Tt,SW,SR]) ?_))))))))));exact wt
      refine AL [(0,AG 4 (Ay Ab v)),(3,rP b1 0),(5,rP b2 0),(6,rv he),(7,Ai hb),(8,rP hf 0),(11,AG 4 (Ay Ab v)),(12,Ai (v.length:Int)),(13,Ai hb),(92,rP b2 1),(93,Ai ha.fBytes),(94,Bb (Ab (Ae v hb))),(95,Ai hg),(96,Ai (IntKind.wrap .i64 (ha.fBytes+hg))),(97,rP b2 1)] [.blk hf (Ab (Ae v hb)) 63,.blk b2 [Ai (max ha.fDepth ((hd.length:Int)+1)),Ai (IntKind.wrap .i64 (ha.fBytes+hg)),rB (ha.fOutside||((decide (((Ae v hb).fKind)=3))&&(!(ov (Bl ((Ae v hb).fInt)))))),rB (ha.fLong||(decide (200<(((Ae v hb).fStr).length:Int))))] 105,.blk b1 [Ai 0,Ai 0,rB false,rB false] 105,.row he 120 5 (Ay Ax hd)] ?_ ?_
      ·refine Ar (vF Do Aa H4 (vL 1 Qm Aa (wm Aa (AQ (ha.fLong) (λhp=>?_) (λhp=>?_)))))
       ·refine wf hp (wf hp (wf hp (wf hp (wv (r:=rB true) (At rfl hp rfl) (vF Do rfl H4 (BR (i:=1) H4 rfl rfl (Cc rfl) rfl rfl (cs':=[Ai (max ha.fDepth ((hd.length:Int)+1)),Ai (IntKind.wrap .i64 (ha.fBytes+hg)),rB (ha.fOutside||((decide (((Ae v hb).fKind)=3))&&(!(ov (Bl ((Ae v hb).fInt)))))),rB true]) rfl (H':=[.blk hf (Ab (Ae v hb)) 63,.blk b2 [Ai (max ha.fDepth ((hd.length:Int)+1)),Ai (IntKind.wrap .i64 (ha.fBytes+hg)),rB (ha.fOutside||((decide (((Ae v hb).fKind)=3))&&(!(ov (Bl ((Ae v hb).fInt)))))),rB true] 105,.blk b1 [Ai 0,Ai 0,rB false,rB false] 105,.row he 120 5 (Ay Ax hd)]) rfl (Ao (Hi (H':=[.blk hf (Ab (Ae v hb)) 63,.blk b2 [Ai (max ha.fDepth ((hd.length:Int)+1)),Ai (IntKind.wrap .i64 (ha.fBytes+hg)),rB (ha.fOutside||((decide (((Ae v hb).fKind)=3))&&(!(ov (Bl ((Ae v hb).fInt)))))),rB (ha.fLong||(decide (200<(((Ae v hb).fStr).length:Int))))] 105,.blk b1 [Ai 0,Ai 0,rB false,rB false] 105,.row he 120 5 (Ay Ax hd)]) (by simp only[hp,Ti,T4,T1,Tk,Tw,Tx,Tv,T2,SY,Tt,SW,SR]) ?_))))))));exact wt
       ·refine wo hp (vF Bh rfl Dm (wo hp (vL 0 Dx rfl (wo hp (wv (Cb DM rfl) (wo hp (wv (De rfl rfl) (Er rfl hp rfl (vF Do rfl H4 (BR (i:=1) H4 rfl rfl (Cc rfl) rfl rfl (cs':=[Ai (max ha.fDepth ((hd.length:Int)+1)),Ai (IntKind.wrap .i64 (ha.fBytes+hg)),rB (ha.fOutside||((decide (((Ae v hb).fKind)=3))&&(!(ov (Bl ((Ae v hb).fInt)))))),rB (decide (200<(((Ae v hb).fStr).length:Int)))]) rfl (H':=[.blk hf (Ab (Ae v hb)) 63,.blk b2 [Ai (max ha.fDepth ((hd.length:Int)+1)),Ai (IntKind.wrap .i64 (ha.fBytes+hg)),rB (ha.fOutside||((decide (((Ae v hb).fKind)=3))&&(!(ov (Bl ((Ae v hb).fInt)))))),rB (decide (200<(((Ae v hb).fStr).length:Int)))] 105,.blk b1 [Ai 0,Ai 0,rB false,rB false] 105,.row he 120 5 (Ay Ax hd)]) rfl (Ao (Hi (H':=[.blk hf (Ab (Ae v hb)) 63,.blk b2 [Ai (max ha.fDepth ((hd.length:Int)+1)),Ai (IntKind.wrap .i64 (ha.fBytes+hg)),rB (ha.fOutside||((decide (((Ae v hb).fKind)=3))&&(!(ov (Bl ((Ae v hb).fInt)))))),rB (ha.fLong||(decide (200<(((Ae v hb).fStr).length:Int))))] 105,.blk b1 [Ai 0,Ai 0,rB false,rB false] 105,.row he 120 5 (Ay Ax hd)]) (by simp only[hp,Ti,T4,T1,Tk,Tw,Tx,Tv,T2,SY,Tt,SW,SR]) ?_))))))))))));exact wt
      refine Aq (Af (vF Bh Aa Cq (vL 0 Dk Aa (wv (De Aa Aa) (As (cz gv Aa (λgw gx=>?_) (λgw gy=>?_)))))))
      ·refine Aq (Af (vF Bh Aa Cq (vL 0 Dk Aa (wm Aa (wv (Bi (ys:=v) (enc:=Ab) BF Aa) (wv (De Aa Aa) (As (cz gx Aa (λgz g0=>?_) (λgz g1=>?_)))))))))
       ·refine Aq (Gq (H1:=[.blk hf (Ab (Ae v hb)) 63,.blk b2 [Ai (max ha.fDepth ((hd.length:Int)+1)),Ai (IntKind.wrap .i64 (ha.fBytes+hg)),rB (ha.fOutside||((decide (((Ae v hb).fKind)=3))&&(!(ov (Bl ((Ae v hb).fInt)))))),rB (ha.fLong||(decide (200<(((Ae v hb).fStr).length:Int))))] 105,.blk b1 [Ai (max ha.fDepth ((hd.length:Int)+1)),Ai (IntKind.wrap .i64 (ha.fBytes+hg)),rB (ha.fOutside||((decide (((Ae v hb).fKind)=3))&&(!(ov (Bl ((Ae v hb).fInt)))))),rB (ha.fLong||(decide (200<(((Ae v hb).fStr).length:Int))))] 105,.row he 120 5 (Ay Ax hd)]) [3,5] [⟨[],Bb [Ai (max ha.fDepth ((hd.length:Int)+1)),Ai (IntKind.wrap .i64 (ha.fBytes+hg)),rB (ha.fOutside||((decide (((Ae v hb).fKind)=3))&&(!(ov (Bl ((Ae v hb).fInt)))))),rB (ha.fLong||(decide (200<(((Ae v hb).fStr).length:Int))))],1⟩,⟨[],Ai 0,0⟩,⟨[0],rv undef,2⟩,⟨[],rB false,0⟩] (rle [(3,_),(2,[.blk hf (Ab (Ae v hb)) 63,.blk b2 [Ai (max ha.fDepth ((hd.length:Int)+1)),Ai (IntKind.wrap .i64 (ha.fBytes+hg)),rB (ha.fOutside||((decide (((Ae v hb).fKind)=3))&&(!(ov (Bl ((Ae v hb).fInt)))))),rB (ha.fLong||(decide (200<(((Ae v hb).fStr).length:Int))))] 105,.blk b1 [Ai (max ha.fDepth ((hd.length:Int)+1)),Ai (IntKind.wrap .i64 (ha.fBytes+hg)),rB (ha.fOutside||((decide (((Ae v hb).fKind)=3))&&(!(ov (Bl ((Ae v hb).fInt)))))),rB (ha.fLong||(decide (200<(((Ae v hb).fStr).length:Int))))] 105,.row he 120 5 (Ay Ax hd)])]) [2,4,3] ?_ ?_)
        ·refine of (Bd (i:=1) GY DN Aa Aa Aa Aa) (oq (AC Aa) (J9 Aa (Ma (C8 (i:=2) DN Aa Aa Aa (AZ.c Aa) Aa Aa (cs':=[Ai (max ha.fDepth ((hd.length:Int)+1)),Ai (IntKind.wrap .i64 (ha.fBytes+hg)),rB (ha.fOutside||((decide (((Ae v hb).fKind)=3))&&(!(ov (Bl ((Ae v hb).fInt)))))),rB (ha.fLong||(decide (200<(((Ae v hb).fStr).length:Int))))]) Aa (H':=[.blk hf (Ab (Ae v hb)) 63,.blk b2 [Ai (max ha.fDepth ((hd.length:Int)+1)),Ai (IntKind.wrap .i64 (ha.fBytes+hg)),rB (ha.fOutside||((decide (((Ae v hb).fKind)=3))&&(!(ov (Bl ((Ae v hb).fInt)))))),rB (ha.fLong||(decide (200<(((Ae v hb).fStr).length:Int))))] 105,.blk b1 [Ai (max ha.fDepth ((hd.length:Int)+1)),Ai (IntKind.wrap .i64 (ha.fBytes+hg)),rB (ha.fOutside||((decide (((Ae v hb).fKind)=3))&&(!(ov (Bl ((Ae v hb).fInt)))))),rB (ha.fLong||(decide (200<(((Ae v hb).fStr).length:Int))))] 105,.row he 120 5 (Ay Ax hd)]) Aa)) ?_));refine oq (AC Aa) ?_;exact Du
        refine AO (Av (Ad (Ad (AB (Ad (Ad (Bt ?_)))))));have g2:=BN g0 hx hy;refine AB (Ad (H6 ?_));obtain rfl:=Aw g2;exact Au (Jh OP (AH Aa) (BD (i:=2) GY DN Aa Aa Aa) (AH Aa)) (sS (sS (sS (sS sN)))) ⟨Aa,Aa⟩
       ·refine A0 (AO (Af (wm Aa (vF Bh Aa CS (vL 0 CU Aa (wv (Bv Aa Aa) (vF Bh Aa Cq (vL 0 Dk Aa (vF Bh Aa CS (vL 0 CU Aa (wv (Bv Aa Aa) (wv (r:=Bb [rB (decide (((Ae v hb).fKind)=6)),Ai ((Ae v hb).fN),rB (decide (((Ae v hb).fKind)=6)),rS ([]:An),rB false]) (I5 Aa Aa Aa Aa Aa Aa) (Bj (ys:=([(Az.mk (decide (((Ae v hb).fKind)=6)) ((Ae v hb).fN) (decide (((Ae v hb).fKind)=6)) ([]:An) false)]:List Az)) (enc:=Ax) (css:=[[rB (decide (((Ae v hb).fKind)=6)),Ai ((Ae v hb).fN),rB (decide (((Ae v hb).fKind)=6)),rS ([]:An),rB false]]) (xs:=[.tmp 139]) Gg LA Tryz.zeroValue120 Aa Aa Aa ⟨IK.agg ⟨Up.refl _,Up.refl _,Up.refl _,Up.refl _,Up.refl _,trivial⟩,trivial⟩ Aa Gj Aa Aa Aa (λg3=>?_))))))))))))));refine ck g1 λg4 g5=>Exists.elim QD λinf hinf=>D9 (xs:=hd) (ys:=([(Az.mk (decide (((Ae v hb).fKind)=6)) ((Ae v hb).fN) (decide (((Ae v hb).fKind)=6)) ([]:An) false)]:List Az)) (enc:=Ax) (i:=4) Gg hinf.1 hinf.2.1 hinf.2.2.1 hinf.2.2.2 Aa Aa Aa Aa Aa (NJ.w (i:=0) Aa Aa) Gj Ja g4 Aa (λh9=>?_);exact wa Aa (As (B7 (A7 (Bn (CA (H2:=[.blk b2 [Ai (max ha.fDepth ((hd.length:Int)+1)),Ai (IntKind.wrap .i64 (ha.fBytes+hg)),rB (ha.fOutside||((decide (((Ae v hb).fKind)=3))&&(!(ov (Bl ((Ae v hb).fInt)))))),rB (ha.fLong||(decide (200<(((Ae v hb).fStr).length:Int))))] 105,.blk b1 [Ai 0,Ai 0,rB false,rB false] 105,.row h9 120 5 (Ay Ax (hd++([(Az.mk (decide (((Ae v hb).fKind)=6)) ((Ae v hb).fN) (decide (((Ae v hb).fKind)=6)) ([]:An) false)]:List Az))),.row (.slice (some ⟨g3,0,none⟩) 1 1) 120 5 (Ay Ax ([(Az.mk (decide (((Ae v hb).fKind)=6)) ((Ae v hb).fN) (decide (((Ae v hb).fKind)=6)) ([]:An) false)]:List Az)),.blk hf (Ab (Ae v hb)) 63]) ((Ak (i:=3) Aa).trans (SH _ ((Ak (i:=3) Aa).trans (SH _ (SN _))))) (AF (AK ((hd++([(Az.mk (decide (((Ae v hb).fKind)=6)) ((Ae v hb).fN) (decide (((Ae v hb).fKind)=6)) ([]:An) false)]:List Az),(A9.mk (max ha.fDepth ((hd.length:Int)+1)) (IntKind.wrap .i64 (ha.fBytes+hg)) (ha.fOutside||((decide (((Ae v hb).fKind)=3))&&(!(ov (Bl ((Ae v hb).fInt)))))) (ha.fLong||(decide (200<(((Ae v hb).fStr).length:Int)))))),h9) g5 (AW.c Aa (AW.c Aa (AW.c5 Aa Aa Aa Aa Aa AW.nil))) (sC (sC (sC (sS (sS sN))))))))))))
      ·refine A0 (AO (Af (wm Aa (ob gy λhw g6 g7=>M4 (Hr:=[.blk hf (Ab (Ae v hb)) 63,.blk b2 [Ai (max ha.fDepth ((hd.length:Int)+1)),Ai (IntKind.wrap .i64 (ha.fBytes+hg)),rB (ha.fOutside||((decide (((Ae v hb).fKind)=3))&&(!(ov (Bl ((Ae v hb).fInt)))))),rB (ha.fLong||(decide (200<(((Ae v hb).fStr).length:Int))))] 105,.blk b1 [Ai 0,Ai 0,rB false,rB false] 105]) Tryz.call80 (NS F he hd hw g6) Aa ((Ak (i:=3) Aa).trans (SH _ (SN _))) Aa ?_))));rintro _ _ ⟨hz,rfl,rfl⟩;refine wa Aa (B1 (wm Aa (wv (DD (ys:=hw) (enc:=Ax) (i:=0) Gg Aa Aa) (wv (Bv Aa Aa) (As (cz g7 Aa (λg8 g9=>?_) (λg8 gA=>?_)))))))
       ·refine Aq (ck g9 λgB gC=>Gq (H1:=[.row hz 120 5 (Ay Ax hw),.blk hf (Ab (Ae v hb)) 63,.blk b2 [Ai (max ha.fDepth ((hd.length:Int)+1)),Ai (IntKind.wrap .i64 (ha.fBytes+hg)),rB (ha.fOutside||((decide (((Ae v hb).fKind)=3))&&(!(ov (Bl ((Ae v hb).fInt)))))),rB (ha.fLong||(decide (200<(((Ae v hb).fStr).length:Int))))] 105,.blk b1 [Ai (max ha.fDepth ((hd.length:Int)+1)),Ai (IntKind.wrap .i64 (ha.fBytes+hg)),rB (ha.fOutside||((decide (((Ae v hb).fKind)=3))&&(!(ov (Bl ((Ae v hb).fInt)))))),rB (ha.fLong||(decide (200<(((Ae v hb).fStr).length:Int))))] 105]) [3,5,7] [⟨[],Ai hb,0⟩,⟨[0],Ai (hb+1),0⟩,⟨[],Bb [Ai (max ha.fDepth ((hd.length:Int)+1)),Ai (IntKind.wrap .i64 (ha.fBytes+hg)),rB (ha.fOutside||((decide (((Ae v hb).fKind)=3))&&(!(ov (Bl ((Ae v hb).fInt)))))),rB (ha.fLong||(decide (200<(((Ae v hb).fStr).length:Int))))],1⟩,⟨[1],Ai (hb+1),0⟩,⟨[2],rv undef,2⟩,⟨[],rB true,0⟩] (rle [(5,_),(2,[.row hz 120 5 (Ay Ax hw),.blk hf (Ab (Ae v hb)) 63,.blk b2 [Ai (max ha.fDepth ((hd.length:Int)+1)),Ai (IntKind.wrap .i64 (ha.fBytes+hg)),rB (ha.fOutside||((decide (((Ae v hb).fKind)=3))&&(!(ov (Bl ((Ae v hb).fInt)))))),rB (ha.fLong||(decide (200<(((Ae v hb).fStr).length:Int))))] 105,.blk b1 [Ai (max ha.fDepth ((hd.length:Int)+1)),Ai (IntKind.wrap .i64 (ha.fBytes+hg)),rB (ha.fOutside||((decide (((Ae v hb).fKind)=3))&&(!(ov (Bl ((Ae v hb).fInt)))))),rB (ha.fLong||(decide (200<(((Ae v hb).fStr).length:Int))))] 105])]) [2,4,3] ?_ ?_)
        ·refine oq (A5 Aa) (oq (B0 Aa Aa gB) (of (Bd (i:=2) GY DN Aa Aa Aa Aa) (oq (AC Aa) (J9 Aa (Ma (C8 (i:=3) DN Aa Aa Aa (AZ.c Aa) Aa Aa (cs':=[Ai (max ha.fDepth ((hd.length:Int)+1)),Ai (IntKind.wrap .i64 (ha.fBytes+hg)),rB (ha.fOutside||((decide (((Ae v hb).fKind)=3))&&(!(ov (Bl ((Ae v hb).fInt)))))),rB (ha.fLong||(decide (200<(((Ae v hb).fStr).length:Int))))]) Aa (H':=[.row hz 120 5 (Ay Ax hw),.blk hf (Ab (Ae v hb)) 63,.blk b2 [Ai (max ha.fDepth ((hd.length:Int)+1)),Ai (IntKind.wrap .i64 (ha.fBytes+hg)),rB (ha.fOutside||((decide (((Ae v hb).fKind)=3))&&(!(ov (Bl ((Ae v hb).fInt)))))),rB (ha.fLong||(decide (200<(((Ae v hb).fStr).length:Int))))] 105,.blk b1 [Ai (max ha.fDepth ((hd.length:Int)+1)),Ai (IntKind.wrap .i64 (ha.fBytes+hg)),rB (ha.fOutside||((decide (((Ae v hb).fKind)=3))&&(!(ov (Bl ((Ae v hb).fInt)))))),rB (ha.fLong||(decide (200<(((Ae v hb).fStr).length:Int))))] 105]) Aa)) ?_))));refine oq (AC Aa) ?_;exact Du
        refine AO (Av (AB (Ad (Ad (Bt ?_)))));have gD:=BN gC hx hy;refine AB (Ad (H6 ?_));obtain rfl:=Aw gD;exact Au (Jh OP (AH Aa) (BD (i:=3) GY DN Aa Aa Aa) (AH Aa)) (sS (sS (sS (sS sN)))) ⟨Aa,Aa⟩
       ·exact A0 (AV (CA (H2:=[.blk b2 [Ai (max ha.fDepth ((hd.length:Int)+1)),Ai (IntKind.wrap .i64 (ha.fBytes+hg)),rB (ha.fOutside||((decide (((Ae v hb).fKind)=3))&&(!(ov (Bl ((Ae v hb).fInt)))))),rB (ha.fLong||(decide (200<(((Ae v hb).fStr).length:Int))))] 105,.blk b1 [Ai 0,Ai 0,rB false,rB false] 105,.row hz 120 5 (Ay Ax hw),.blk hf (Ab (Ae v hb)) 63]) ((Ak (i:=2) Aa).trans (SH _ ((Ak (i:=2) Aa).trans (SH _ (SN _))))) (AF (AK ((hw,(A9.mk (max ha.fDepth ((hd.length:Int)+1)) (IntKind.wrap .i64 (ha.fBytes+hg)) (ha.fOutside||((decide (((Ae v hb).fKind)=3))&&(!(ov (Bl ((Ae v hb).fInt)))))) (ha.fLong||(decide (200<(((Ae v hb).fStr).length:Int)))))),hz) gA (AW.c Aa (AW.c Aa (AW.c5 Aa Aa Aa Aa Aa AW.nil))) (sC (sC (sC (sS sN))))))))
   ·rintro⟨⟨h6,h7⟩,h8⟩ h2;refine Co (l':=[(0,AG 4 (Ay Ab v)),(3,rP b1 0),(5,rP b2 0),(6,rv h8),(11,AG 4 (Ay Ab v)),(12,Ai (v.length:Int)),(13,Ai hb)]) (H':=[.blk b2 (AP h7) 105,.blk b1 [Ai 0,Ai 0,rB false,rB false] 105,.row h8 120 5 (Ay Ax h6)]) Aa Aa ?_;replace h2:Dd hb h6 h7=some h4:=h2;unfold Dd at h2;refine Ar (ck h2 λgE gF=>wv (B0 Aa Aa gE) (wm Aa (Ao ?_)));have gG:=Br gF hx;exact AF (AK (hD,(h6,hb+1,h7),h8) ⟨gG,ST _⟩ (AW.c Aa (AW.c Aa (AW.c5 Aa Aa Aa Aa Aa AW.nil))) (sC (sC (sC sN))))
  ·refine B7 (A7 ?_);have gH:=BZ hH hx hy;exact A7 (Bp (AK (ha,()) gH (AW.c Aa (AW.c Aa AW.nil)) (sC (sC (sS sN)))))
 ·rintro⟨hq,⟨⟩⟩ h3;refine CB (l':=[(3,rP b1 0),(5,rP b2 0)]) (H':=[.blk b2 (AP hq) 105,.blk b1 [Ai 0,Ai 0,rB false,rB false] 105]) Aa Aa ?_;replace h3:H8 hq=some r:=h3;unfold H8 at h3;refine Bn (AO (Aq (Gq (H1:=[.blk b2 (AP hq) 105,.blk b1 (AP hq) 105]) [3,5] [⟨[],Bb (AP hq),1⟩,⟨[],Ai 0,0⟩,⟨[0],rv undef,2⟩,⟨[],rB false,0⟩] (rle [(3,_),(2,[.blk b2 (AP hq) 105,.blk b1 (AP hq) 105])]) [2,4,3] ?_ ?_)))
  ·refine of (Bd (i:=0) GY DN Aa Aa Aa Aa) (oq (AC Aa) (J9 Aa (Ma (C8 (i:=1) DN Aa Aa Aa (AZ.c Aa) Aa Aa (cs':=[Ai hq.fDepth,Ai hq.fBytes,rB hq.fOutside,rB hq.fLong]) Aa (H':=[.blk b2 (AP hq) 105,.blk b1 (AP hq) 105]) Aa)) ?_));refine oq (AC Aa) ?_;exact Du
  refine AO (Av (H6 ?_));obtain rfl:=Aw h3;exact Au (Jh OP (AH Aa) (BD (i:=1) GY DN Aa Aa Aa) (AH Aa)) (sS (sS sN)) ⟨Aa,Aa⟩
theorem LK (F:Nat)(v:(List Ac))(r:Int)(h:Iq F v=some r):Fn Tryz.prog GE 37 [AG 4 (Ay Ab v)] [] (λR H=>R=Ai r∧H=[]):=by
 refine enter (n:=42) Tryz.func37 Aa Tryz.ntmps37 Aa (λw Z=>?_);unfold Iq at h;refine Af (wa Aa (B1 (wm Aa (ob h λr1 e3 h2=>BQ Tryz.call56 (Qs F v r1 e3) Aa (wm Aa (wv (AJ Aa Aa) (wv (AJ Aa Aa) (wv (AJ Aa Aa) (BA (cs:=[Ai 0,Ai 0,rB false,rB false]) Tryz.zeroValue105 Aa Aa (λb4=>?_))))))))));refine wa Aa (A8 (i:=0) DN Aa Aa Aa (AZ.c Aa) Aa Aa (cs':=[Ai r1.2.1.fDepth,Ai r1.2.1.fBytes,rB r1.2.1.fOutside,rB r1.2.1.fLong]) Aa (H':=[.blk b4 (AP r1.2.1) 105]) Aa (wa Aa (As (Aq (AU (AL [(0,AG 4 (Ay Ab v)),(4,rP b4 0),(12,rB ((!r1.2.2)||(!decide (r1.1=(v.length:Int)))))] [.blk b4 (AP r1.2.1) 105] ?_ ?_))))))
 ·refine Ar (wm Aa (wv (Cg Aa) (wm Aa (AQ (!r1.2.2) (λc5=>?_) (λc5=>?_)))))
  ·refine wf c5 (wf c5 (wf c5 (wf c5 (wv (r:=rB true) (At Aa c5 Aa) (wa Aa (Ao ?_))))));exact BP c5
  ·refine wo c5 (wm Aa (wo c5 (wm Aa (wo c5 (wv (Bi (ys:=v) (enc:=Ab) BF Aa) (wo c5 (wv (CZ Aa Aa) (Er Aa c5 Aa (wa Aa (Ao ?_))))))))));exact BP c5
 refine cz h2 Aa (λc6 h7=>?_) (λc6 h8=>?_)
 ·refine Af (wa Aa (As (Av (AB (Ad ?_)))));obtain rfl:=Aw h7;exact Au (BC Qj (AH Aa)) (sS sN) ⟨Aa,Aa⟩
 ·refine Af (vF Do Aa H4 (vL 0 Qm Aa (wa Aa (As (cz h8 Aa (λc9 he=>?_) (λc9 hf=>?_))))))
  ·refine Af (wa Aa (As (Av (AB (Ad ?_)))));obtain rfl:=Aw he;exact Au (BC Qj (AH Aa)) (sS sN) ⟨Aa,Aa⟩
  ·refine AL [(24,rB (r1.2.1.fLong||((decide (200<(v.length:Int)))||((decide (8<r1.2.1.fDepth))||(decide (4000<r1.2.1.fBytes))))))] [] ?_ ?_
   ·refine Ar (vF Do Aa H4 (vL 0 Qm Aa (wm Aa (AQ (r1.2.1.fLong) (λha=>?_) (λha=>?_)))))
    ·refine wf ha (wf ha (wf ha (wv (r:=rB true) (At Aa ha Aa) (wm Aa (wz Aa Aa (wz Aa Aa (wz Aa Aa (wv (r:=rB true) (At (b:=true) Aa Aa Aa) (wm Aa (wz Aa Aa (wz Aa Aa (wz Aa Aa (wv (r:=rB true) (At (b:=true) Aa Aa Aa) (wa Aa (Ao ?_)))))))))))))));exact BP ha
    ·refine wo ha (wm Aa (wo ha (wv (Bi (ys:=v) (enc:=Ab) BF Aa) (wo ha (wv (De Aa Aa) (Er Aa ha Aa (wm Aa (AQ (decide (200<(v.length:Int))) (λhb=>?_) (λhb=>?_)))))))))
     ·refine wf hb (wf hb (wf hb (wv (r:=rB true) (At Aa hb Aa) (wm Aa (wz Aa Aa (wz Aa Aa (wz Aa Aa (wv (r:=rB true) (At (b:=true) Aa Aa Aa) (wa Aa (Ao ?_))))))))));exact BP (And.intro ha hb)
     ·refine wo hb (vF Do Aa Cq (wo hb (vL 0 Dk Aa (wo hb (wv (De Aa Aa) (Er Aa hb Aa (wm Aa (AQ (decide (8<r1.2.1.fDepth)) (λhd=>?_) (λhd=>?_)))))))))
      ·refine wf hd (wf hd (wf hd (wv (r:=rB true) (At Aa hd Aa) (wa Aa (Ao ?_)))));exact BP (And.intro ha (And.intro hb hd))
      ·refine wo hd (vF Do Aa Cq (wo hd (vL 0 Dk Aa (wo hd (wv (De Aa Aa) (Er Aa hd Aa (wa Aa (Ao ?_))))))));exact BP (And.intro ha (And.intro hb hd))
   refine cz hf Aa (λhg hh=>?_) (λhg hi=>?_)
   ·refine Af (wa Aa (As (Av (AB (Ad ?_)))));obtain rfl:=Aw hh;exact Au (BC Qj (AH Aa)) sN ⟨Aa,Aa⟩
   ·refine A0 (AV (AO (Af (wa Aa (As (Av ?_))))));obtain rfl:=Aw hi;exact Au (BC Qj (AH Aa)) sN ⟨Aa,Aa⟩
theorem KT  (r:(List Ac))(h:LI=some r):Fn Tryz.prog GE 47 [] [] (λR H=>R=AG 4 (Ay Ab r)∧H=[]):=by
 refine enter (n:=3) Tryz.func47 Aa Tryz.ntmps47 Aa (λw Z=>?_);unfold LI at h;refine Af (wa Aa (B1 (wv (r:=Bb [Ai 1,Ai 0,rS ([]:An),Ai 0]) (Ew Aa Aa) (Bj (ys:=([(Ac.mk 1 0 ([]:An) 0)]:List Ac)) (enc:=Ab) (css:=[[Ai 1,Ai 0,rS ([]:An),Ai 0]]) (xs:=[.tmp 1]) BF BJ GW Aa Aa Aa ⟨IK.agg ⟨Up.refl _,Up.refl _,Up.refl _,Up.refl _,trivial⟩,trivial⟩ Aa B2 Aa Aa Aa (λb1=>?_)))));refine wa Aa (As (Av (WK.freeze (i:=0) Aa (WK.up (d:=0) (r:=AG 4 (Ay Ab ([(Ac.mk 1 0 ([]:An) 0)]:List Ac))) Aa (Up.fact (i:=0) Aa) ?_))));obtain rfl:=Aw h;exact Au (BC Tryz.results47 (AH Aa)) (sS sN) ⟨Aa,Aa⟩
theorem Nm (b:Bool)(r:(List Ac))(h:Nn b=some r):Fn Tryz.prog GE 62 [rB b] [] (λR H=>R=AG 4 (Ay Ab r)∧H=[]):=by
 refine enter (n:=9) Tryz.func62 Aa Tryz.ntmps62 Aa (λw Z=>?_);unfold Nn at h;refine Af (wa Aa (B1 (wv (r:=Bb [Ai 2,Ai 0,rS ([]:An),Ai 0]) (Ew Aa Aa) (BA (cs:=[Ai 0,Ai 0,rS ([]:An),Ai 0]) GW Aa Aa (λb1=>?_)))));refine A8 (i:=0) BJ Aa Aa Aa (AZ.c Aa) Aa Aa (cs':=[Ai 2,Ai 0,rS ([]:An),Ai 0]) Aa (H':=[.blk b1 [Ai 2,Ai 0,rS ([]:An),Ai 0] 63]) Aa (As (Aq (Af (wm Aa (As (cz h Aa (λc2 h3=>?_) (λc2 h5=>?_)))))))
 ·refine Ar (vF Bh Aa Cq (BR (i:=0) Cq Aa Aa (Cc Aa) Aa Aa (cs':=[Ai 2,Ai 1,rS ([]:An),Ai 0]) Aa (H':=[.blk b1 [Ai 2,Ai 1,rS ([]:An),Ai 0] 63]) Aa (B1 (wv (Bd (i:=0) H5 BJ Aa Aa Aa Aa) (Bj (ys:=([(Ac.mk 2 1 ([]:An) 0)]:List Ac)) (enc:=Ab) (css:=[[Ai 2,Ai 1,rS ([]:An),Ai 0]]) (xs:=[.tmp 7]) BF BJ GW Aa Aa Aa ⟨IK.agg ⟨Up.refl _,Up.refl _,Up.refl _,Up.refl _,trivial⟩,trivial⟩ Aa B2 Aa Aa Aa (λb4=>?_))))));refine wa Aa (As (Av (WK.freeze (i:=0) Aa (WK.up (d:=2) (r:=AG 4 (Ay Ab ([(Ac.mk 2 1 ([]:An) 0)]:List Ac))) Aa (Up.fact (i:=0) Aa) ?_))));obtain rfl:=Aw h3;exact Au (BC Tryz.results62 (AH Aa)) (sS (sS sN)) ⟨Aa,Aa⟩
 ·refine A0 (AO (Af (wv (Bd (i:=0) H5 BJ Aa Aa Aa Aa) (Bj (ys:=([(Ac.mk 2 0 ([]:An) 0)]:List Ac)) (enc:=Ab) (css:=[[Ai 2,Ai 0,rS ([]:An),Ai 0]]) (xs:=[.tmp 7]) BF BJ GW Aa Aa Aa ⟨IK.agg ⟨Up.refl _,Up.refl _,Up.refl _,Up.refl _,trivial⟩,trivial⟩ Aa B2 Aa Aa Aa (λb6=>?_)))));refine wa Aa (As (Av (WK.freeze (i:=0) Aa (WK.up (d:=2) (r:=AG 4 (Ay Ab ([(Ac.mk 2 0 ([]:An) 0)]:List Ac))) Aa (Up.fact (i:=0) Aa) ?_))));obtain rfl:=Aw h5;exact Au (BC Tryz.results62 (AH Aa)) (sS (sS sN)) ⟨Aa,Aa⟩
end Go.Proofs.YtfbmdidnlhifjaaGreatDoor.Q
namespace Go.Proofs.YtfbmdidnlhifjaaGreatDoor
open Go
set_option linter.unusedVariables false
end Go.Proofs.YtfbmdidnlhifjaaGreatDoor
namespace Go.Proofs.YtfbmdidnlhifjaaGreatDoor.Q
open Go Go.RowKit
set_option linter.unusedVariables false
set_option linter.unusedSimpArgs false
set_option maxRecDepth 100000
set_option maxHeartbeats 4000000
end Go.Proofs.YtfbmdidnlhifjaaGreatDoor.Q
namespace Go.Proofs.YtfbmdidnlhifjaaGreatDoor
open Go
set_option linter.unusedVariables false
end Go.Proofs.YtfbmdidnlhifjaaGreatDoor
namespace Go.Proofs.YtfbmdidnlhifjaaGreatDoor.Q
open Go Go.RowKit
set_option linter.unusedVariables false
set_option linter.unusedSimpArgs false
set_option maxRecDepth 100000
set_option maxHeartbeats 4000000
end Go.Proofs.YtfbmdidnlhifjaaGreatDoor.Q
namespace Go.Proofs.YtfbmdidnlhifjaaGreatDoor
open Go
set_option linter.unusedVariables false
def CI (a:(List Ac))(b:(List Ac))(ha:Int):Option (Stp (Int) (Out (Bool) (Unit))):=
 Bq (decide (ha<(a.length:Int))) (Bm (Cd ha (a.length:Int))<|Bm (Cd ha (b.length:Int))<|Bq (!(decide (((Ae a ha).fKind)=((Ae b ha).fKind))&&decide (((Ae a ha).fInt)=((Ae b ha).fInt))&&decide (((Ae a ha).fStr)=((Ae b ha).fStr))&&decide (((Ae a ha).fN)=((Ae b ha).fN)))) (some (.out (.ret false))) (Bm (BO .i64 (ha+1))<|some (.next (ha+1)))) (some (.out (.go ())))
def Ek :Option (Bool):=
 some true
def DU (F:Nat)(a:(List Ac))(b:(List Ac)):Option (Bool):=
 Bq (!decide ((a.length:Int)=(b.length:Int))) (some false) (B5 (Ck (λσ=>CI a b σ) F 0) (BU λν=>Ek ))
def Ko (F:Nat)(a:(List Ac))(b:(List Ac)):Option (Bool):=
 B5 (DU F a b) λr1=>some r1
def HH (a:(List Ac))(b:(List Ac))(ha:Int):Option (Stp (Int) (Out (Bool) (Unit))):=
 Bq (decide (ha<(a.length:Int))) (Bm (Cd ha (a.length:Int))<|Bm (Cd ha (b.length:Int))<|Bq (!(decide (((Ae a ha).fKind)=((Ae b ha).fKind))&&decide (((Ae a ha).fInt)=((Ae b ha).fInt))&&decide (((Ae a ha).fStr)=((Ae b ha).fStr))&&decide (((Ae a ha).fN)=((Ae b ha).fN)))) (some (.out (.ret false))) (Bm (BO .i64 (ha+1))<|some (.next (ha+1)))) (some (.out (.go ())))
def HG :Option (Bool):=
 some true
def DB (F:Nat)(a:(List Ac))(b:(List Ac)):Option (Bool):=
 Bq (!decide ((a.length:Int)=(b.length:Int))) (some false) (B5 (Ck (λσ=>HH a b σ) F 0) (BU λν=>HG ))
end Go.Proofs.YtfbmdidnlhifjaaGreatDoor
namespace Go.Proofs.YtfbmdidnlhifjaaGreatDoor.Q
open Go Go.RowKit
set_option linter.unusedVariables false
set_option linter.unusedSimpArgs false
set_option maxRecDepth 100000
set_option maxHeartbeats 4000000
theorem PW {a0 b0:Int}{a1 b1:Int}{a2 b2:An}{a3 b3:Int}(w:World):(Op.equalIn 10000 63 (.agg #[.int .i64 a0,.int .i64 a1,.string (B a2),.int .i64 a3]) (.agg #[.int .i64 b0,.int .i64 b1,.string (B b2),.int .i64 b3])).run Tryz.prog w = .ok (decide (a0=b0)&&decide (a1=b1)&&decide (a2=b2)&&decide (a3=b3)) w:=by
  have hS:Tryz.prog.underlying 63=some (.struct (Tryz.prog.fieldsOf 63)):=by kernel_rfl
  have hp:Tryz.prog.stoodInHeld 63=false:=by kernel_rfl
  have u3:=Ss;have ia3:=Dk;have so3:=Cq;have u9:=DM;have ia9:=Dx;have so9:=Dm;have ha:=Tryz.underlying61;have hb:=CU;have hd:=CS;rw[show(10000:Nat)=9999+1 from rfl,run_equalIn_agg w 9999 63 _ _ hS hp];simp only[Program.fieldsOf,Bh]
  go_simp
  simp only[Dw]
  by_cases h0:a0=b0<;>by_cases h1:a1=b1<;>by_cases h2:a2=b2<;>by_cases h3:a3=b3<;>simp[h0,h1,h2,h3]
theorem IR {n:Nat}{c:Cx}{l:Fr}{H:List Ent}{d:Option Nat}{ty rty:TypeId}{pos:String}{af:Array Edge}{g:Option (Nat×Bool)}{x y:Operand}{a0 b0:Int}{a1 b1:Int}{a2 b2:An}{a3 b3:Int}(hx:ev l x=some (Bb [Ai a0,Ai a1,rS a2,Ai a3]))(hy:ev l y=some (Bb [Ai b0,Ai b1,rS b2,Ai b3])):Bo Tryz.prog n c l H { dst:=d,op:=.binOp .neq 63 x y rty,type:=ty,pos:=pos,after:=af,guard:=g } (rB (!(decide (a0=b0)&&decide (a1=b1)&&decide (a2=b2)&&decide (a3=b3)))):=λa w Z ha hw=>by
  obtain⟨us,e1,q1⟩:=ha.ev hx;obtain⟨vs,e2,q2⟩:=ha.ev hy;have k1:=AX.eq_rv (us:=[.int .i64 a0,.int .i64 a1,.string (B a2),.int .i64 a3]) q1;have k2:=AX.eq_rv (us:=[.int .i64 b0,.int .i64 b1,.string (B b2),.int .i64 b3]) q2;subst k1;subst k2;have hm:Tryz.prog.eqGuardType Tryz.prog.depth 63=false:=by kernel_rfl
  have hb:=PW (a0:=a0) (a1:=a1) (a2:=a2) (a3:=a3) (b0:=b0) (b1:=b1) (b2:=b2) (b3:=b3) w;refine⟨.bool (!(decide (a0=b0)&&decide (a1=b1)&&decide (a2=b2)&&decide (a3=b3))),rfl,?_⟩;have hg:=run_eqGuard_agg (P:=Tryz.prog) w .neq 63 x y #[.int .i64 a0,.int .i64 a1,.string (B a2),.int .i64 a3] #[.int .i64 b0,.int .i64 b1,.string (B b2),.int .i64 b3] hm;simp only[execOp,e1,e2,Sem.run_bind,hg,Result.andThen_ok,run_neq_struct,hb,Sem.run_pure]
theorem Kt (F:Nat)(a:(List Ac))(b:(List Ac))(r:Bool)(h:DU F a b=some r):Fn Tryz.prog GE 71 [AG 4 (Ay Ab a),AG 4 (Ay Ab b)] [] (λR H=>R=rB r∧H=[]):=by
 refine enter (n:=26) Tryz.func71 Aa Tryz.ntmps71 Aa (λw Z=>?_);unfold DU at h;refine Af (wa Aa (As (Aq (Af (wm Aa (wv (Bi (ys:=a) (enc:=Ab) BF Aa) (wm Aa (wv (Bi (ys:=b) (enc:=Ab) BF Aa) (wv (CZ Aa Aa) (As (cz h Aa (λc1 h2=>?_) (λc1 h3=>?_))))))))))))
 ·refine Af (wa Aa (As (Av (Ad ?_))));obtain rfl:=Aw h2;exact Au (BC Tryz.results71 (AH Aa)) sN ⟨Aa,Aa⟩
 ·refine A0 (AO (Aq (Af (wm Aa (wv (Bi (ys:=a) (enc:=Ab) BF Aa) (wv (r:=Ai 0) (A5 Aa) (As (AU (ob h3 λhg hh hf=>B4 (S:=Nat×(Int)×(Unit)) (V:=(Unit)×(Unit)) 0 (λσ=>Ck (λσ=>CI a b σ) σ.1 σ.2.1=some hg) (λσ=>[(0,AG 4 (Ay Ab a)),(1,AG 4 (Ay Ab b)),(12,Ai (a.length:Int)),(13,Ai σ.2.1)]) (λσ=>[]) (λσ=>σ.1) (F,0,()) hh (AW.c Aa (AW.c Aa (AW.c Aa (AW.c Aa AW.nil)))) sN (λσ=>Ek =some r) (λσ=>[]) (λσ=>[]) ?_ ?_)))))))))
  ·rintro⟨h1,ha,⟨⟩⟩ hi;refine Co (l':=[(0,AG 4 (Ay Ab a)),(1,AG 4 (Ay Ab b)),(12,Ai (a.length:Int)),(13,Ai ha)]) (H':=[]) Aa Aa ?_;obtain⟨hj,rfl,hk,hb,he⟩:=CC hi;replace hb:CI a b ha=some hk:=hb;unfold CI at hb;refine Af (wv (CO Aa Aa) (As (Aq (cz hb Aa (λhl hm=>?_) (λhl hn=>?_)))))
   ·refine A0 (AO (Aq (AU (Af (wm Aa (wa Aa (As (Aq (ck hm λho hp=>ck hp λhq hr=>DI [0,1,5,12,13] [⟨[],AG 4 (Ay Ab a),0⟩,⟨[],Ai ha,0⟩,⟨[0,1],Lb (Ab (Ae a ha)),0⟩,⟨[2],Bb (Ab (Ae a ha)),0⟩,⟨[],AG 4 (Ay Ab b),0⟩,⟨[],Ai ha,0⟩,⟨[4,5],Lb (Ab (Ae b ha)),0⟩,⟨[6],Bb (Ab (Ae b ha)),0⟩,⟨[3,7],rB (!(decide (((Ae a ha).fKind)=((Ae b ha).fKind))&&decide (((Ae a ha).fInt)=((Ae b ha).fInt))&&decide (((Ae a ha).fStr)=((Ae b ha).fStr))&&decide (((Ae a ha).fN)=((Ae b ha).fN)))),0⟩] [16,17,18,19,20,21,22,23,24,0,1,12,13] ?_ ?_)))))))))
    ·refine oq (A5 Aa) (oq (A5 Aa) (oq (Bg (enc:=Ab) (ys:=a) BF BJ Aa Aa ho) (oq (C7 H5 BJ Aa Aa Aa) (oq (A5 Aa) (oq (A5 Aa) (oq (Bg (enc:=Ab) (ys:=b) BF BJ Aa Aa hq) (oq (C7 H5 BJ Aa Aa Aa) (oq (IR Aa Aa) ?_))))))));exact Du
    refine AO (cz hr Aa (λhs ht=>?_) (λhs hu=>?_))
    ·refine Af (wa Aa (As (Av (AB (Ad (Ad (Bt ?_)))))));have hw:=BN ht he hf;refine AB (Ad ?_);obtain rfl:=Aw hw;exact Au (BC Tryz.results71 (AH Aa)) sN ⟨Aa,Aa⟩
    ·refine A0 (AV (AO (Ar (ck hu λhx hy=>wv (B0 Aa Aa hx) (wm Aa (Ao ?_))))));have hz:=Br hy he;exact AF (AK (hj,ha+1,()) ⟨hz,ST _⟩ (AW.c Aa (AW.c Aa (AW.c Aa (AW.c Aa AW.nil)))) sN)
   ·refine B7 (A7 ?_);have h0:=BZ hn he hf;exact A7 (Bp (AK ((),()) h0 AW.nil sN))
  ·rintro⟨⟨⟩,⟨⟩⟩ hd;refine CB (l':=[]) (H':=[]) Aa Aa ?_;replace hd:Ek =some r:=hd;unfold Ek at hd;refine Bn (AO (Af (wa Aa (As (Av ?_)))));obtain rfl:=Aw hd;exact Au (BC Tryz.results71 (AH Aa)) sN ⟨Aa,Aa⟩
theorem Qr (F:Nat)(a:(List Ac))(b:(List Ac))(r:Bool)(h:Ko F a b=some r):Fn Tryz.prog GE 61 [AG 4 (Ay Ab a),AG 4 (Ay Ab b)] [] (λR H=>R=rB r∧H=[]):=by
 refine enter (n:=8) Tryz.func61 Aa Tryz.ntmps61 Aa (λw Z=>?_);unfold Ko at h;refine Af (wa Aa (B1 (wm Aa (wm Aa (ob h λr1 e3 h2=>BQ Tryz.call71 (Kt F a b r1 e3) Aa (wa Aa (As (Av ?_))))))));obtain rfl:=Aw h2;exact Au (BC Tryz.results61 (AH Aa)) sN ⟨Aa,Aa⟩
theorem Ji (F:Nat)(a:(List Ac))(b:(List Ac))(r:Bool)(h:DB F a b=some r):Fn Tryz.prog GE 13 [AG 4 (Ay Ab a),AG 4 (Ay Ab b)] [] (λR H=>R=rB r∧H=[]):=by
 refine enter (n:=26) Tryz.func13 Aa Tryz.ntmps13 Aa (λw Z=>?_);unfold DB at h;refine Af (wa Aa (As (Aq (Af (wm Aa (wv (Bi (ys:=a) (enc:=Ab) BF Aa) (wm Aa (wv (Bi (ys:=b) (enc:=Ab) BF Aa) (wv (CZ Aa Aa) (As (cz h Aa (λc1 h2=>?_) (λc1 h3=>?_))))))))))))
 ·refine Af (wa Aa (As (Av (Ad ?_))));obtain rfl:=Aw h2;exact Au (BC Tryz.results13 (AH Aa)) sN ⟨Aa,Aa⟩
 ·refine A0 (AO (Aq (Af (wa Aa (As (AU (ob h3 λhg hh hf=>B4 (S:=Nat×(Int)×(Unit)) (V:=(Unit)×(Unit)) 0 (λσ=>Ck (λσ=>HH a b σ) σ.1 σ.2.1=some hg) (λσ=>[(0,AG 4 (Ay Ab a)),(1,AG 4 (Ay Ab b)),(5,Ai σ.2.1)]) (λσ=>[]) (λσ=>σ.1) (F,0,()) hh (AW.c Aa (AW.c Aa (AW.c Aa AW.nil))) sN (λσ=>HG =some r) (λσ=>[]) (λσ=>[]) ?_ ?_)))))))
  ·rintro⟨h1,ha,⟨⟩⟩ hi;refine Co (l':=[(0,AG 4 (Ay Ab a)),(1,AG 4 (Ay Ab b)),(5,Ai ha)]) (H':=[]) Aa Aa ?_;obtain⟨hj,rfl,hk,hb,he⟩:=CC hi;replace hb:HH a b ha=some hk:=hb;unfold HH at hb;refine Aq (Af (wm Aa (wm Aa (wv (Bi (ys:=a) (enc:=Ab) BF Aa) (wv (CO Aa Aa) (As (cz hb Aa (λhl hm=>?_) (λhl hn=>?_))))))))
   ·refine A0 (AO (Aq (AU (Aq (ck hm λho hp=>ck hp λhq hr=>DI [0,1,5] [⟨[],AG 4 (Ay Ab a),0⟩,⟨[],Ai ha,0⟩,⟨[0,1],Lb (Ab (Ae a ha)),0⟩,⟨[2],Bb (Ab (Ae a ha)),0⟩,⟨[],AG 4 (Ay Ab b),0⟩,⟨[],Ai ha,0⟩,⟨[4,5],Lb (Ab (Ae b ha)),0⟩,⟨[6],Bb (Ab (Ae b ha)),0⟩,⟨[3,7],rB (!(decide (((Ae a ha).fKind)=((Ae b ha).fKind))&&decide (((Ae a ha).fInt)=((Ae b ha).fInt))&&decide (((Ae a ha).fStr)=((Ae b ha).fStr))&&decide (((Ae a ha).fN)=((Ae b ha).fN)))),0⟩] [17,18,19,20,21,22,23,24,25,0,1,5] ?_ ?_)))))
    ·refine oq (A5 Aa) (oq (A5 Aa) (oq (Bg (enc:=Ab) (ys:=a) BF BJ Aa Aa ho) (oq (C7 H5 BJ Aa Aa Aa) (oq (A5 Aa) (oq (A5 Aa) (oq (Bg (enc:=Ab) (ys:=b) BF BJ Aa Aa hq) (oq (C7 H5 BJ Aa Aa Aa) (oq (IR Aa Aa) ?_))))))));exact Du
    refine AO (cz hr Aa (λhs ht=>?_) (λhs hu=>?_))
    ·refine Af (wa Aa (As (Av (AB (Ad (Ad (Bt ?_)))))));have hw:=BN ht he hf;refine AB (Ad ?_);obtain rfl:=Aw hw;exact Au (BC Tryz.results13 (AH Aa)) sN ⟨Aa,Aa⟩
    ·refine A0 (AV (AO (Ar (wm Aa (ck hu λhx hy=>wv (B0 Aa Aa hx) (wa Aa (Ao ?_)))))));have hz:=Br hy he;exact AF (AK (hj,ha+1,()) ⟨hz,ST _⟩ (AW.c Aa (AW.c Aa (AW.c Aa AW.nil))) sN)
   ·refine B7 (A7 ?_);have h0:=BZ hn he hf;exact A7 (Bp (AK ((),()) h0 AW.nil sN))
  ·rintro⟨⟨⟩,⟨⟩⟩ hd;refine CB (l':=[]) (H':=[]) Aa Aa ?_;replace hd:HG =some r:=hd;unfold HG at hd;refine Bn (AO (Af (wa Aa (As (Av ?_)))));obtain rfl:=Aw hd;exact Au (BC Tryz.results13 (AH Aa)) sN ⟨Aa,Aa⟩
end Go.Proofs.YtfbmdidnlhifjaaGreatDoor.Q
namespace Go.Proofs.YtfbmdidnlhifjaaGreatDoor
open Go
set_option linter.unusedVariables false
def HK (F:Nat)(v:(List Ac)):Option ((List Ac)×Int):=
 B5 (Gt F v) λr1=>Bq (!decide (r1=0)) (some (([]:List Ac),r1)) (some (v,0))
def Ns :Option ((List Ac)):=
 some ([(Ac.mk 1 0 ([]:An) 0)]:List Ac)
def Ky (b:Bool):Option ((List Ac)):=
 Bq (b) (some ([(Ac.mk 2 1 ([]:An) 0)]:List Ac)) (some ([(Ac.mk 2 0 ([]:An) 0)]:List Ac))
def Pm (F:Nat)(n:Int):Option ((List Ac)×Int):=
 B5 (HK F ([(Ac.mk 3 n ([]:An) 0)]:List Ac)) λr2=>some (r2.1,r2.2)
end Go.Proofs.YtfbmdidnlhifjaaGreatDoor
namespace Go.Proofs.YtfbmdidnlhifjaaGreatDoor.Q
open Go Go.RowKit
set_option linter.unusedVariables false
set_option linter.unusedSimpArgs false
set_option maxRecDepth 100000
set_option maxHeartbeats 4000000
theorem Df {n:Nat}{c:Cx}{l:Fr}{H:List Ent}{d:Option Nat}{ty:TypeId}{pos:String}{af:Array Edge}{g:Option (Nat×Bool)}{x0:Operand}{r0:Rp}(h0:ev l x0=some r0)(u0:r0.one=true){x1:Operand}{r1:Rp}(h1:ev l x1=some r1)(u1:r1.one=true):Bo Tryz.prog n c l H { dst:=d,op:=.build 63 #[(0,x0),(1,x1)],type:=ty,pos:=pos,after:=af,guard:=g } (Bb [r0,r1,rS ([]:An),Ai 0]):=λa w Z ha _=>by
  have p0:=ha.ev h0;have c0:=Bz (r0.hone u0 Z _ p0);have p1:=ha.ev h1;have c1:=Bz (r1.hone u1 Z _ p1);have hb:Tryz.prog.built 63 [(0,a.eval x0),(1,a.eval x1)]=some #[a.eval x0,a.eval x1,(.string ⟨#[]⟩),(.int .i64 0)]:=by
    rw[ND];generalize a.eval x0=v0 at *;generalize a.eval x1=v1 at *;simp[Instr.fill,c0,c1]
  refine⟨.agg #[a.eval x0,a.eval x1,(.string ⟨#[]⟩),(.int .i64 0)],⟨[a.eval x0,a.eval x1,(.string ⟨#[]⟩),(.int .i64 0)],rfl,p0,p1,rfl,rfl,trivial⟩,?_⟩;have:=run_build w 63 #[(0,a.eval x0),(1,a.eval x1)] _ (by simpa using hb);simp[execOp,this]
theorem MI (F:Nat)(v:(List Ac))(r:(List Ac)×Int)(h:HK F v=some r):Fn Tryz.prog GE 86 [AG 4 (Ay Ab v)] [] (λR H=>R=C4 [AG 4 (Ay Ab r.1),Ai r.2]∧H=[]):=by
 refine enter (n:=11) Tryz.func86 Aa Tryz.ntmps86 Aa (λw Z=>?_);unfold HK at h;refine Af (wa Aa (wa Aa (B1 (wm Aa (ob h λr1 e3 h2=>BQ Tryz.call41 (J5 F v r1 e3) Aa (wa Aa (As (Aq (Af (wm Aa (wv (CZ Aa Aa) (As (cz h2 Aa (λc4 h5=>?_) (λc4 h6=>?_))))))))))))))
 ·refine Af (wm Aa (wa Aa (wa Aa (As (Av (Ad (WK.up (d:=2) (r:=AG 4 (Ay Ab ([]:List Ac))) Aa (Up.le (E7.nil _)) ?_)))))));obtain rfl:=Aw h5;exact Au (Il Tryz.results86 (AH Aa) (AH Aa)) sN ⟨Aa,Aa⟩
 ·refine A0 (AO (Af (wm Aa (wa Aa (wa Aa (As (Av ?_)))))));obtain rfl:=Aw h6;exact Au (Il Tryz.results86 (AH Aa) (AH Aa)) sN ⟨Aa,Aa⟩
theorem Nr  (r:(List Ac))(h:Ns=some r):Fn Tryz.prog GE 34 [] [] (λR H=>R=AG 4 (Ay Ab r)∧H=[]):=by
 refine enter (n:=3) Tryz.func34 Aa Tryz.ntmps34 Aa (λw Z=>?_);unfold Ns at h;refine Af (wa Aa (B1 (wv (r:=Bb [Ai 1,Ai 0,rS ([]:An),Ai 0]) (Ew Aa Aa) (Bj (ys:=([(Ac.mk 1 0 ([]:An) 0)]:List Ac)) (enc:=Ab) (css:=[[Ai 1,Ai 0,rS ([]:An),Ai 0]]) (xs:=[.tmp 1]) BF BJ GW Aa Aa Aa ⟨IK.agg ⟨Up.refl _,Up.refl _,Up.refl _,Up.refl _,trivial⟩,trivial⟩ Aa B2 Aa Aa Aa (λb1=>?_)))));refine wa Aa (As (Av (WK.freeze (i:=0) Aa (WK.up (d:=0) (r:=AG 4 (Ay Ab ([(Ac.mk 1 0 ([]:An) 0)]:List Ac))) Aa (Up.fact (i:=0) Aa) ?_))));obtain rfl:=Aw h;exact Au (BC Tryz.results34 (AH Aa)) (sS sN) ⟨Aa,Aa⟩
theorem Jk (b:Bool)(r:(List Ac))(h:Ky b=some r):Fn Tryz.prog GE 43 [rB b] [] (λR H=>R=AG 4 (Ay Ab r)∧H=[]):=by
 refine enter (n:=8) Tryz.func43 Aa Tryz.ntmps43 Aa (λw Z=>?_);unfold Ky at h;refine Af (wa Aa (As (Aq (Af (wm Aa (As (cz h Aa (λc1 h2=>?_) (λc1 h4=>?_))))))))
 ·refine Af (wv (r:=Bb [Ai 2,Ai 1,rS ([]:An),Ai 0]) (Df Aa Aa Aa Aa) (Bj (ys:=([(Ac.mk 2 1 ([]:An) 0)]:List Ac)) (enc:=Ab) (css:=[[Ai 2,Ai 1,rS ([]:An),Ai 0]]) (xs:=[.tmp 4]) BF BJ GW Aa Aa Aa ⟨IK.agg ⟨Up.refl _,Up.refl _,Up.refl _,Up.refl _,trivial⟩,trivial⟩ Aa B2 Aa Aa Aa (λb3=>?_)));refine wa Aa (As (Av (Ad (WK.freeze (i:=0) Aa (WK.up (d:=2) (r:=AG 4 (Ay Ab ([(Ac.mk 2 1 ([]:An) 0)]:List Ac))) Aa (Up.fact (i:=0) Aa) ?_)))));obtain rfl:=Aw h2;exact Au (BC Tryz.results43 (AH Aa)) (sS sN) ⟨Aa,Aa⟩
 ·refine A0 (AO (Af (wv (r:=Bb [Ai 2,Ai 0,rS ([]:An),Ai 0]) (Ew Aa Aa) (Bj (ys:=([(Ac.mk 2 0 ([]:An) 0)]:List Ac)) (enc:=Ab) (css:=[[Ai 2,Ai 0,rS ([]:An),Ai 0]]) (xs:=[.tmp 6]) BF BJ GW Aa Aa Aa ⟨IK.agg ⟨Up.refl _,Up.refl _,Up.refl _,Up.refl _,trivial⟩,trivial⟩ Aa B2 Aa Aa Aa (λb5=>?_)))));refine wa Aa (As (Av (WK.freeze (i:=0) Aa (WK.up (d:=2) (r:=AG 4 (Ay Ab ([(Ac.mk 2 0 ([]:An) 0)]:List Ac))) Aa (Up.fact (i:=0) Aa) ?_))));obtain rfl:=Aw h4;exact Au (BC Tryz.results43 (AH Aa)) (sS sN) ⟨Aa,Aa⟩
theorem Ru (F:Nat)(n:Int)(r:(List Ac)×Int)(h:Pm F n=some r):Fn Tryz.prog GE 68 [Ai n] [] (λR H=>R=C4 [AG 4 (Ay Ab r.1),Ai r.2]∧H=[]):=by
 refine enter (n:=10) Tryz.func68 Aa Tryz.ntmps68 Aa (λw Z=>?_);unfold Pm at h;refine Af (wa Aa (wa Aa (B1 (wm Aa (wv (r:=Bb [Ai 3,Ai n,rS ([]:An),Ai 0]) (Df Aa Aa Aa Aa) (Bj (ys:=([(Ac.mk 3 n ([]:An) 0)]:List Ac)) (enc:=Ab) (css:=[[Ai 3,Ai n,rS ([]:An),Ai 0]]) (xs:=[.tmp 5]) BF BJ GW Aa Aa Aa ⟨IK.agg ⟨Up.refl _,Up.refl _,Up.refl _,Up.refl _,trivial⟩,trivial⟩ Aa B2 Aa Aa Aa (λb1=>?_)))))));refine WL.freeze (i:=0) Aa (WL.up (d:=6) (r:=AG 4 (Ay Ab ([(Ac.mk 3 n ([]:An) 0)]:List Ac))) Aa (Up.fact (i:=0) Aa) (ob h λr2 e4 h3=>BQ Tryz.call86 (MI F ([(Ac.mk 3 n ([]:An) 0)]:List Ac) r2 e4) Aa (wv (AJ Aa Aa) (wv (AJ Aa Aa) (wa Aa (wa Aa (As (Av ?_))))))));obtain rfl:=Aw h3;exact Au (Il Tryz.results68 (AH Aa) (AH Aa)) (sS sN) ⟨Aa,Aa⟩
end Go.Proofs.YtfbmdidnlhifjaaGreatDoor.Q
namespace Go.Proofs.YtfbmdidnlhifjaaGreatDoor
open Go
set_option linter.unusedVariables false
end Go.Proofs.YtfbmdidnlhifjaaGreatDoor
namespace Go.Proofs.YtfbmdidnlhifjaaGreatDoor.Q
open Go Go.RowKit
set_option linter.unusedVariables false
set_option linter.unusedSimpArgs false
section
variable {P : Program} {n : Nat} {c : Cx} {l : Fr} {H : List Ent} {d : Option Nat} {x y : Operand} {t t' ty : TypeId} {pos : String} {af : Array Edge} {g : Option (Nat × Bool)} {k k' : IntKind} {p q : Int}
end
section
variable {P : Program} {n : Nat} {c : Cx} {ops : Array Oper} {Q : Exit → Act → World → Prop} {rest : List Oper} {l : Fr} {H H' : List Ent} {d : Nat} {d' : Option Nat} {x y : Operand} {t ty e : TypeId} {pos : String} {af : Array Edge} {g : Option (Nat × Bool)} {k : IntKind} {b i len : Nat} {j : Int}
end
def Ne (ops:List Oper)(N:Nat):Bool:=
 let cl:=JV ops []
 (List.range ops.length).all (λi=>(D7 (ops.getD i default)).all (·<i))&&
 (List.range ops.length).all (λi=>i<N||(List.range i).all (λj=>(cl.getD i 0).testBit j))
section
variable {P : Program} {Q : Exit → Act → World → Prop}
theorem Mz {listed:Array Bool}{len m:Nat}(hs:listed.size=len)(hm:m≤len)(h:∀j,j<len→(listed.getD j true=true↔j<m)):listed.toList.count false=len-m:=by
 have:listed.toList=List.replicate m true++List.replicate (len-m) false:=by
  apply List.ext_getElem
  ·simp[hs];omega
  ·intro j h1 h2;have hj:j<len:=by simpa[hs] using h1
   have:=h j hj;rw[Array.getD_eq_getD_getElem?,Array.getElem?_eq_getElem (by omega)] at this;simp only[Tf] at this;rw[Array.getElem_toList,List.getElem_append]
   split
   ·rename_i h3
    simp at h3;simp[this.2 h3]
   ·rename_i h3
    simp at h3;simp only[List.getElem_replicate]
    cases hb:listed[j] with
    | false=>rfl
    | true=>have:=this.1 hb;omega
 rw[this];simp[List.count_append,List.count_replicate]
theorem N7 {listed:Array Bool}{j:Nat}(h:j<listed.size)(d d':Bool):listed.getD j d=listed.getD j d':=by
 simp[Array.getD_eq_getD_getElem?,Array.getElem?_eq_getElem h]
theorem JW {ops:List Oper}{listed:Array Bool}{i:Nat}{o:Oper}(ho:ops[i]? =some o)(hb:∀e∈D7 o,listed.getD e true=true)
  (hcl:∀j o,ops[j]? =some o→listed.getD j true=true→∀e∈D7 o,listed.getD e true=true) (j:Nat) (h:((JV ops []).getD i 0).testBit j=true):j=i∨listed.getD j true=true:=
 EM ops (λk=>k=i∨listed.getD k true=true) ops [] (λt o' ht e he hF=>by
  rcases hF with hF | hF
  ·simp at hF;subst hF;rw[ho] at ht;simp at ht;subst ht;exact .inr (hb e he)
  ·exact .inr (hcl t o' ht (by simpa using hF) e he)) (λj i hb=>by simp at hb) i j h (.inl rfl)
theorem Hk {ops:List Oper}{listed:Array Bool}{i:Nat}(hsz:listed.size=ops.length)(hlt:∀i,i<ops.length→∀e∈D7 (ops.getD i default),e<i)(h:i∈Region.ready .any ops.toArray listed) :
  listed.getD i true=false∧i<ops.length∧∃o,ops[i]? =some o∧∀e∈D7 o,listed.getD e true=true:=by
 obtain⟨h1,o,ho,h2⟩:=mem_ready.1 h;have ho':ops[i]? =some o:=by simpa using ho
 have hil:=(List.getElem?_eq_some_iff.1 ho').1;refine⟨h1,hil,o,ho',λe he=>?_⟩;have hei:=hlt i hil e (by rw[SQ,ho'];exact he);simp only[D7,List.mem_map,List.mem_filter] at he;obtain⟨x,⟨hx1,hx2⟩,rfl⟩:=he;have h3:=h2 x (by simpa using hx1) hx2;rw[N7 (by omega) true false];exact h3
theorem Hc {ops:List Oper}{listed:Array Bool}(hsz:listed.size=ops.length)(hlt:∀i,i<ops.length→∀e∈D7 (ops.getD i default),e<i)(h:Region.ready .any ops.toArray listed=[]) :
  ∀j,j<ops.length→listed.getD j true=true:=by
 intro j
 induction j using Nat.strongRecOn with
 | ind j ih=>
  intro hj
  cases hb:listed.getD j true with
  | true=>rfl
  | false=>
   have:j∈Region.ready .any ops.toArray listed:=mem_ready.2 ⟨hb,ops[j],by simp[hj],λe he hbn=>by
    have hel:e.on<j:=hlt j hj e.on (by
     rw[SQ,SK hj];simp only[D7,Tf,List.mem_map,List.mem_filter];exact⟨e,⟨by simpa using he,hbn⟩,rfl⟩)
    rw[N7 (by omega) false true];exact ih e.on hel (by omega)⟩
   rw[h] at this;cases this
theorem Jg {listed:Array Bool}{i j:Nat}(hi:i<listed.size):(listed.setIfInBounds i true).getD j true=true↔(j=i∨listed.getD j true=true):=by
 by_cases hj:i=j
 ·subst hj;simp[hi]
 ·rw[getD_set_ne true hj];exact⟨.inr,λh=>h.elim (λh=>absurd h.symm hj) id⟩
theorem NV {listed:Array Bool}{i fuel:Nat}(hi:i<listed.size)(hun:listed.getD i true=false)(hc:listed.toList.count false=fuel+1):(listed.setIfInBounds i true).toList.count false=fuel:=by
 have hfi:listed.toList[i]? =some false:=by
  rw[Array.getD_eq_getD_getElem?,Array.getElem?_eq_getElem hi] at hun;simp at hun;simp[hi,hun]
 rw[Array.toList_setIfInBounds];have h1:=List.count_set (a:=true) (b:=false) (l:=listed.toList) (i:=i) (by simpa using hi);have h2:listed.toList[i]'(by simpa using hi)=false:=by
  have:=List.getElem?_eq_some_iff.1 hfi;exact this.2
 rw[h1,h2,hc];rfl
theorem IL {ops:List Oper}{N:Nat}(hlt:∀i,i<ops.length→∀e∈D7 (ops.getD i default),e<i)
  (hch:∀i,N≤i→i<ops.length→∀j,j<i→((JV ops []).getD i 0).testBit j=true):∀(k m:Nat) (listed:Array Bool) (a:Act) (w:World),m+k=ops.length→N≤m→listed.size=ops.length→
   (∀j,j<ops.length→(listed.getD j true=true↔j<m))→(∀j o,ops[j]? =some o→listed.getD j true=true→∀e∈D7 o,listed.getD e true=true)→wpList P ops.toArray Q (ops.drop m) a w→wpAny P .any ops.toArray Q k listed a w
 | 0,m,listed,a,w,hk,hN,hsz,hl,hcl,h=>by
  refine⟨?_,?_⟩
  ·cases hr:Region.ready .any ops.toArray listed with
   | nil=>rfl
   | cons i r=>
    obtain⟨h1,h2,_⟩:=Hk hsz hlt (i:=i) (by rw[hr];simp);rw[(hl i h2).2 (by omega)] at h1;cases h1
  ·rw[List.drop_of_length_le (by omega)] at h;exact h
 | k+1,m,listed,a,w,hk,hN,hsz,hl,hcl,h=>by
  refine⟨λhr=>?_,λi hi=>?_⟩
  ·have:=(hl m (by omega)).1 (Hc hsz hlt hr m (by omega));omega
  ·obtain⟨h1,h2,o,ho,hb⟩:=Hk hsz hlt hi;have him:i=m:=by
    have hmi : ¬ i<m:=λh'=>by rw[(hl i h2).2 h'] at h1;cases h1
    by_cases e:i=m
    ·exact e
    ·rcases JW ho hb hcl m (hch i (by omega) h2 m (by omega)) with h3 | h3
     ·exact h3.symm
     ·have:=(hl m (by omega)).1 h3;omega
   subst him;have hd:ops.drop i=o::ops.drop (i+1):=by
    rw[List.drop_eq_getElem_cons h2]
    congr 1
    exact(List.getElem?_eq_some_iff.1 ho).2
   rw[hd] at h;have ih:∀a' w',wpList P ops.toArray Q (ops.drop (i+1)) a' w'→wpAny P .any ops.toArray Q k (listed.setIfInBounds i true) a' w':=λa' w' h'=>by
    refine IL hlt hch k (i+1) _ a' w' (by omega) (by omega) (by simpa using hsz) (λj hj=>?_) (λj o' hj hlj e he=>?_) h'
    ·rw[Jg (by omega),hl j hj];omega
    ·rw[Jg (by omega)] at hlj ⊢;rcases hlj with rfl | hlj
     ·rw[ho] at hj;simp at hj;subst hj;exact .inr (hb e he)
     ·exact .inr (hcl j o' hj hlj e he)
   unfold wpOp;have hoA:ops.toArray[i]? =some o:=by simpa using ho
   simp only[hoA];simp only[wpList] at h
   split
   ·rename_i hw'
    rw[Td hw'] at h;exact h.imp (λh=>Oper.wp_mono ih h) (λh=>h)
   ·rename_i hw'
    rw[SX hw'] at h;exact ih _ _ h
theorem Rm {id:Nat}{ops:List Oper}{N:Nat}(hm:P.follows .mixedOrders=true)(hB:Ne ops N=true)(hN:N≤ops.length)(I:(Nat→Bool)→Act→World→Prop)
  (hext:∀S S' a w,(∀j,j<N→S j=S' j)→I S a w→I S' a w) {a:Act} {w:World} (h0:I (λ_=>false) a { w with drawn:=w.drawn+1 })
  (step:∀S i o a w,i<N→S i=false→ops[i]? =some o→(∀e∈D7 o,e<i∧S e=true)→I S a w→∀K:Act→World→Prop,(∀a' w',I (λj=>j ==i||S j) a' w'→K a' w')→
   (Region.wanted o (yielded ops.toArray a.tmps)=true→o.wp P a w K Q)∧(Region.wanted o (yielded ops.toArray a.tmps)=false→K (a.put o.dst undef) w))
  (fin:∀a w,I (λ_=>true) a w→wpList P ops.toArray Q (ops.drop N) a w):(Code.region id ops.toArray true).wp P Q a w:=by
 simp only[Ne,SM,Tm,List.mem_range,SI,T5] at hB;obtain⟨hlt,hch0⟩:=hB;have hch:∀i,N≤i→i<ops.length→∀j,j<i→((JV ops []).getD i 0).testBit j=true:=λi h1 h2 j hj=>by
  rcases hch0 i h2 with h3 | h3
  ·omega
  ·exact h3 j hj
 refine wp_region_any hm ?_;have main:∀(fuel:Nat) (listed:Array Bool) (a:Act) (w:World),listed.size=ops.length→listed.toList.count false=fuel→I (λj=>listed.getD j true) a w→
   (∀j o,ops[j]? =some o→listed.getD j true=true→∀e∈D7 o,listed.getD e true=true)→(∀j,N≤j→j<ops.length→listed.getD j true=false)→wpAny P .any ops.toArray Q fuel listed a w:=by
  intro fuel;have allin:∀(fuel:Nat) (listed:Array Bool) (a:Act) (w:World),listed.size=ops.length→listed.toList.count false=fuel→I (λj=>listed.getD j true) a w→
   (∀j o,ops[j]? =some o→listed.getD j true=true→∀e∈D7 o,listed.getD e true=true)→(∀j,N≤j→j<ops.length→listed.getD j true=false)→(∀j,j<N→listed.getD j true=true)→wpAny P .any ops.toArray Q fuel listed a w:=by
   intro fuel listed a w hsz hc hI hcl hlast hall;have hl:∀j,j<ops.length→(listed.getD j true=true↔j<N):=λj hj=>by
    constructor
    ·intro h
     by_cases hjN:j<N
     ·exact hjN
     ·rw[hlast j (by omega) hj] at h;cases h
    ·exact hall j
   have:=Mz hsz hN hl;refine IL hlt hch fuel N listed a w (by omega) (Tb _) hsz hl hcl (fin a w (hext _ _ a w (λj hj=>hall j hj) hI))
  induction fuel with
  | zero=>
   intro listed a w hsz hc hI hcl hlast;refine allin 0 listed a w hsz hc hI hcl hlast (λj hj=>?_)
   cases hb:listed.getD j true with
   | true=>rfl
   | false=>
    have:false∈listed.toList:=by
     rw[Array.getD_eq_getD_getElem?,Array.getElem?_eq_getElem (by omega)] at hb;simp at hb;rw[← hb];simp
    have:=List.count_pos_iff.2 this;omega
  | succ fuel ih=>
   intro listed a w hsz hc hI hcl hlast
   by_cases hall:∀j,j<N→listed.getD j true=true
   ·exact allin (fuel+1) listed a w hsz hc hI hcl hlast hall
   ·refine⟨λhr=>absurd (λj hj=>Hc hsz hlt hr j (by omega)) hall,λi hi=>?_⟩;obtain⟨h1,h2,o,ho,hb⟩:=Hk hsz hlt hi;have hiN:i<N:=by
     by_cases h:i<N
     ·exact h
     ·refine absurd (λj hj=>?_) hall;rcases JW ho hb hcl j (hch i (by omega) h2 j (by omega)) with h3 | h3
      ·omega
      ·exact h3
    have K':∀a' w',I (λj=>j ==i||listed.getD j true) a' w'→wpAny P .any ops.toArray Q fuel (listed.setIfInBounds i true) a' w':=λa' w' hI'=>by
     refine ih _ a' w' (by simpa using hsz) (NV (by omega) h1 hc) (hext _ _ a' w' (λj hj=>?_) hI') (λj o' hj hlj e he=>?_) (λj h3 h4=>?_)
     ·have:=Jg (listed:=listed) (i:=i) (j:=j) (by omega)
      cases hq:(listed.setIfInBounds i true).getD j true with
      | true=>
       rw[hq] at this;rcases this.1 rfl with h | h
       ·simp[h]
       ·simp[h]
      | false=>
       rw[hq] at this;have h5 : ¬ (j=i∨listed.getD j true=true):=λh=>by have:=this.2 h;cases this
       cases hz:listed.getD j true with
       | true=>exact absurd (.inr hz) h5
       | false=>
        have:j≠i:=λh=>h5 (.inl h);simp[this]
     ·rw[Jg (by omega)] at hlj ⊢;rcases hlj with rfl | hlj
      ·rw[ho] at hj;simp at hj;subst hj;exact .inr (hb e he)
      ·exact .inr (hcl j o' hj hlj e he)
     ·rw[getD_set_ne true (by omega)];exact hlast j h3 h4
    obtain⟨k1,k2⟩:=step _ i o a w hiN h1 ho (λe he=>⟨hlt i h2 e (by rw[SQ,ho];exact he),hb e he⟩) hI _ K';unfold wpOp;have hoA:ops.toArray[i]? =some o:=by simpa using ho
    simp only[hoA]
    split
    ·rename_i hw';exact .inl (k1 hw')
    ·rename_i hw';exact k2 (by simpa using hw')
 have e0:∀j,j<ops.length→(Array.replicate ops.length false).getD j true=false:=λj hj=>by simp[hj]
 have hsz0:ops.toArray.size=ops.length:=by simp
 rw[hsz0];refine main ops.length (Array.replicate ops.length false) a _ (by simp) (by simp) (hext _ _ _ _ (λj hj=>(e0 j (by omega)).symm) h0) (λj o hj hl=>?_) (λj _ h2=>e0 j h2);rw[e0 j (List.getElem?_eq_some_iff.1 hj).1] at hl;cases hl
end
structure Sa where
 deps:List Nat
 r:Rp
 al:Option (List Rp×TypeId):=none
 late:Option (Nat×List Rp):=none
 sto:Option Nat:=none
def D2 (sp:List Sa)(i:Nat):Sa:=sp.getD i { deps:=[],r:=rv undef }
def OI (sp:List Sa):List Sp:=sp.map λs=>⟨s.deps,s.r,0⟩
def Iu (β:Nat→Nat)(s:Sa)(i:Nat):Rp:=match s.al with
 | none=>s.r
 | some _=>rv (.pointer (some ⟨β i,0,none⟩))
def IG (S:Nat→Bool)(late:Option (Nat×List Rp))(cs:List Rp):List Rp:=match late with
 | none=>cs
 | some q=>if S q.1 then q.2 else cs
def DX (S:Nat→Bool)(β:Nat→Nat):List Sa→Nat→List Ent
 | [],_=>[]
 | s::r,t=>match s.al with
  | some p=>if S t then .blk (β t) (IG S s.late p.1) p.2::DX S β r (t+1) else DX S β r (t+1)
  | none=>DX S β r (t+1)
def O9 (β:Nat→Nat):List Sa→Nat→List Ent
 | [],_=>[]
 | s::r,t=>match s.al with
  | some p=>.blk (β t) (match s.late with | none=>p.1 | some q=>q.2) p.2::O9 β r (t+1)
  | none=>O9 β r (t+1)
def JZ (β:Nat→Nat):List Oper→List Sa→Nat→Fr→Fr
 | o::os,s::sp,i,l=>match o.dst with
  | some d=>(d,Iu β s i)::JZ β os sp (i+1) l
  | none=>JZ β os sp (i+1) l
 | _,_,_,l=>l
theorem Hu {S S':Nat→Bool}{late:Option (Nat×List Rp)}{cs:List Rp}(h:∀q,late=some q→S q.1=S' q.1):IG S late cs=IG S' late cs:=by
 unfold IG
 cases late with
 | none=>rfl
 | some q=>simp only[];rw[h q rfl]
theorem Ds (S:Nat→Bool)(β:Nat→Nat)(s:Sa)(r:List Sa)(t:Nat):DX S β (s::r) t=match s.al with
  | some p=>if S t then .blk (β t) (IG S s.late p.1) p.2::DX S β r (t+1) else DX S β r (t+1)
  | none=>DX S β r (t+1):=rfl
theorem Ep {S S':Nat→Bool}{β β':Nat→Nat}:∀(r:List Sa) (t0:Nat),(∀(t:Nat) (s:Sa),r[t]? =some s→s.al≠none→S (t0+t)=S' (t0+t)∧(S (t0+t)=true→β (t0+t)=β' (t0+t)∧∀q,s.late=some q→S q.1=S' q.1))→DX S β r t0=DX S' β' r t0
 | [],_,_=>rfl
 | s::r,t0,h=>by
  have ih:=Ep r (t0+1) (λt s hs hn=>by
   have:=h (t+1) s (by simpa using hs) hn;rw[show t0+1+t=t0+(t+1) from by omega];exact this)
  unfold DX;rw[ih]
  cases ha:s.al with
  | none=>rfl
  | some p=>
   obtain⟨h1,h2⟩:=h 0 s rfl (by rw[ha];exact nofun);simp only[Nat.add_zero] at h1 h2;simp only[];rw[← h1]
   split
   ·rename_i hS;rw[(h2 hS).1,Hu (h2 hS).2]
   ·rfl
theorem My (β:Nat→Nat):∀(r:List Sa) (t0:Nat),DX (λ_=>true) β r t0=O9 β r t0
 | [],_=>rfl
 | s::r,t0=>by
  unfold DX O9;rw[My β r (t0+1)]
  cases s.al with
  | none=>rfl
  | some p=>cases hl:s.late<;>simp[IG,hl]
theorem KE (β:Nat→Nat):∀(r:List Sa) (t0:Nat),DX (λ_=>false) β r t0=[]
 | [],_=>rfl
 | s::r,t0=>by
  unfold DX;rw[KE β r (t0+1)]
  cases s.al<;>simp
theorem Mx {S:Nat→Bool}{β:Nat→Nat}{i b:Nat}{p:List Rp×TypeId}:∀(r:List Sa) (t0 k:Nat) (s:Sa),i=t0+k→r[k]? =some s→s.al=some p→S i=false→(∀(t:Nat) (s:Sa) (q:Nat×List Rp),r[t]? =some s→s.al≠none→s.late=some q→q.1≠i)→(∀q,s.late=some q→S q.1=false∧q.1≠i)→
  (DX (λj=>j ==i||S j) (λj=>if j=i then b else β j) r t0).Perm (.blk b p.1 p.2::DX S β r t0)
 | [],_,_,_,_,h,_,_,_,_=>by simp at h
 | s'::r,t0,0,s,hi,h,ha,hS,hne,hl=>by
  simp at h hi;subst h;subst hi;have e:=Ep (S:=λj=>j ==i||S j) (S':=S) (β:=λj=>if j=i then b else β j) (β':=β) r (i+1) (λt s hs hn=>by
   have:i+1+t≠i:=by omega
   refine⟨by simp[this],λ_=>⟨by simp[this],λq hq=>?_⟩⟩;have:=hne (t+1) s q (by simpa using hs) hn hq;simp[this])
  have ec:IG (λj=>j ==i||S j) s'.late p.1=p.1:=by
   unfold IG
   cases hq:s'.late with
   | none=>rfl
   | some q=>
    obtain⟨h1,h2⟩:=hl q hq;simp[h1,h2]
  unfold DX;rw[e,ha];simp only[hS,BEq.rfl,T1,if_true,ec];simp
 | s'::r,t0,k+1,s,hi,h,ha,hS,hne,hl=>by
  have ih:=Mx (S:=S) (β:=β) (i:=i) (b:=b) (p:=p) r (t0+1) k s (by omega) (by simpa using h) ha hS (λt s q hs=>hne (t+1) s q (by simpa using hs)) hl;have hne0:t0≠i:=by omega
  have hne':(t0 ==i)=false:=by simpa using hne0
  unfold DX
  cases ha':s'.al with
  | none=>exact ih
  | some q=>
   simp only[hne',Tk,SX hne0];rw[Hu (S:=λj=>j ==i||S j) (S':=S) (λq hq=>by
    have:=hne 0 s' q rfl (by rw[ha'];exact nofun) hq;simp[this])]
   cases hS':S t0 with
   | true=>simpa using(SH _ ih).trans (List.Perm.swap _ _ _)
   | false=>simpa using ih
theorem Mw {S:Nat→Bool}{β:Nat→Nat}{i j:Nat}{p:List Rp×TypeId}{ncs:List Rp}:∀(r:List Sa) (t0 k:Nat) (s:Sa),j=t0+k→r[k]? =some s→s.al=some p→s.late=some (i,ncs)→S j=true→S i=false→(∀(t:Nat) (s:Sa) (q:Nat×List Rp),r[t]? =some s→s.al≠none→s.late=some q→t0+t≠j→q.1≠i)→(∀(t:Nat) (s:Sa),r[t]? =some s→s.al≠none→t0+t≠i)→
  ∃H',(DX S β r t0).Perm (.blk (β j) p.1 p.2::H')∧(DX (λj=>j ==i||S j) β r t0).Perm (.blk (β j) ncs p.2::H')
 | [],_,_,_,_,h,_,_,_,_,_,_=>by simp at h
 | s'::r,t0,0,s,hj,h,ha,hl,hSj,hSi,hne,hni=>by
  simp at h hj;subst h;subst hj;have e:=Ep (S:=λx=>x ==i||S x) (S':=S) (β:=β) (β':=β) r (j+1) (λt s hs hn=>by
   have h1:=hni (t+1) s (by simpa using hs) hn;have h1':j+1+t≠i:=by omega
   refine⟨by simp[h1'],λ_=>⟨rfl,λq hq=>?_⟩⟩;have:=hne (t+1) s q (by simpa using hs) hn hq (by omega);simp[this])
  refine⟨DX S β r (j+1),?_,?_⟩
  ·rw[Ds];rw[ha];simp[hSj,IG,hl,hSi]
  ·rw[Ds];rw[ha,e];simp[hSj,IG,hl]
 | s'::r,t0,k+1,s,hj,h,ha,hl,hSj,hSi,hne,hni=>by
  obtain⟨H',h1,h2⟩:=Mw (S:=S) (β:=β) (i:=i) (j:=j) (p:=p) (ncs:=ncs) r (t0+1) k s (by omega) (by simpa using h) ha hl hSj hSi (λt s q hs hn hq hx=>hne (t+1) s q (by simpa using hs) hn hq (by omega)) (λt s hs hn=>by
   have:=hni (t+1) s (by simpa using hs) hn;omega)
  cases ha':s'.al with
  | none=>exact⟨H',by rw[Ds,ha'];exact h1,by rw[Ds,ha'];exact h2⟩
  | some q=>
   have hi0:=hni 0 s' rfl (by rw[ha'];exact nofun);have hi0':(t0 ==i)=false:=by simpa using hi0
   have ec:IG (λx=>x ==i||S x) s'.late q.1=IG S s'.late q.1:=Hu (λq hq=>by
    have:=hne 0 s' q rfl (by rw[ha'];exact nofun) hq (by omega);simp[this])
   cases hS':S t0 with
   | true=>
    refine⟨.blk (β t0) (IG S s'.late q.1) q.2::H',?_,?_⟩
    ·rw[Ds];rw[ha'];simpa[hS'] using(SH _ h1).trans (List.Perm.swap _ _ _)
    ·rw[Ds];rw[ha'];simp only[hi0',Tk,hS',if_true,ec];exact(SH _ h2).trans (List.Perm.swap _ _ _)
   | false=>
    refine⟨H',?_,?_⟩
    ·rw[Ds];rw[ha'];simpa[hS'] using h1
    ·rw[Ds];rw[ha'];simp only[hi0',Tk,hS'];simpa using h2
def Sv (n:Nat)(ops:List Oper)(N:Nat)(keys:List Nat)(deps:List (List Nat))(als:List Bool)(lates stos:List (Option Nat)):Bool:=
 Ne ops N&&decide (N≤ops.length)&&
 (List.range N).all (λi=>match Da ops i with
  | some d=>decide (d<n)&&!keys.contains d&&(List.range N).all (λj=>j ==i||Da ops j !=some d)
  | none=>true)&&
 (List.range N).all (λi=>(deps.getD i []).all (λj=>decide (j<N)&&(D7 (ops.getD i default)).contains j&&!als.getD j true))&&
 (List.range N).all (λi=>match stos.getD i none with
  | some j=>decide (j<N)&&(D7 (ops.getD i default)).contains j&&als.getD j false&&!als.getD i true
  | none=>true)&&
 (List.range N).all (λj=>match lates.getD j none with
  | some k=>decide (k<N)&&als.getD j false&&stos.getD k none ==some j
  | none=>true)
def RF (P:Program)(n:Nat)(c:Cx)(opsA:Array Oper)(Q:Exit→Act→World→Prop)(l:Fr)(o:Oper)(p:List Rp×TypeId):Prop:=
 ∀H a w Z (K:Act→World→Prop),Ch n l a Z→St c H Z w→(∀b w',St c (.blk b p.1 p.2::H) Z w'→K (a.put o.dst (.pointer (some ⟨b,0,none⟩))) w')→
  Region.wanted o (yielded opsA a.tmps)=true∧o.wp P a w K Q
def Ri (P:Program)(n:Nat)(c:Cx)(opsA:Array Oper)(Q:Exit→Act→World→Prop)(ops:List Oper)(sp:List Sa)(l0:Fr)(H:List Ent)(i:Nat)(o:Oper):Prop:=
 match (D2 sp i).sto with
 | some j=>o.dst=none∧∃d p ncs,Da ops j=some d∧(D2 sp j).al=some p∧(D2 sp j).late=some (i,ncs)∧
   ∀b H,Dt P n c opsA Q ((d,rv (.pointer (some ⟨b,0,none⟩)))::BI ops (OI sp) (D2 sp i).deps l0) (.blk b p.1 p.2::H) o (rv undef) (.blk b ncs p.2::H)
 | none=>match (D2 sp i).al with
  | none=>∀E,Dt P n c opsA Q (BI ops (OI sp) (D2 sp i).deps l0) (H++E) o (D2 sp i).r (H++E)
  | some p=>RF P n c opsA Q (BI ops (OI sp) (D2 sp i).deps l0) o p
def G4 (P:Program)(n:Nat)(c:Cx)(opsA:Array Oper)(Q:Exit→Act→World→Prop)(ops:List Oper)(sp:List Sa)(l0:Fr)(H:List Ent):Nat→List Oper→Prop
 | i,o::rest=>Ri P n c opsA Q ops sp l0 H i o∧G4 P n c opsA Q ops sp l0 H (i+1) rest
 | _,[]=>True
section
variable {P : Program} {n : Nat} {c : Cx} {opsA : Array Oper} {Q : Exit → Act → World → Prop} {l l0 : Fr} {H : List Ent} {sp : List Sa}
theorem G4.at {ops:List Oper}:∀{k:Nat} {rest:List Oper},G4 P n c opsA Q ops sp l0 H k rest→∀(t:Nat) o,rest[t]? =some o→Ri P n c opsA Q ops sp l0 H (k+t) o
 | k,o::rest,⟨h1,h2⟩,t,o',ht=>by
  cases t with
  | zero=>simp at ht;subst ht;exact h1
  | succ t=>
   have:=G4.at h2 t o' (by simpa using ht);rw[show k+(t+1)=k+1+t from by omega];exact this
 | _,[],_,t,o,h=>by simp at h
theorem NG {β:Nat→Nat}{a:Act}{Z:Fz}(h0:Ch n l0 a Z):∀(os:List Oper) (ss:List Sa) (k:Nat),(∀(t:Nat) o s d,os[t]? =some o→ss[t]? =some s→o.dst=some d→∃v,a.tmps[d]? =some v∧(Iu β s (k+t)).p Z v)→Ch n (JZ β os ss k l0) a Z
 | [],_,_,_=>by unfold JZ;exact h0
 | _::_,[],_,_=>by unfold JZ;exact h0
 | o::os,s::ss,k,h=>by
  have ih:=NG h0 os ss (k+1) (λt o' s' d h1 h2 h3=>by
   have:=h (t+1) o' s' d (by simpa using h1) (by simpa using h2) h3;rw[show k+1+t=k+(t+1) from by omega];exact this)
  unfold JZ
  cases hd:o.dst with
  | none=>exact ih
  | some d=>
   refine⟨ih.size,ih.defers,λi r hi=>?_⟩;rw[BB] at hi
   split at hi
   ·rename_i e;subst e;simp at hi;subst hi;exact h 0 o s d rfl rfl hd
   ·exact ih.tm i r hi
theorem Rn {id:Nat}{ops:List Oper}(N:Nat)(sp:List Sa)(hm:P.follows .mixedOrders=true)(hB:Sv n ops N (E4 l0) (sp.map (·.deps)) (sp.map (·.al.isSome)) (sp.map (·.late.map (·.1))) (sp.map (·.sto))=true)(hl0:QR l0 l)(hsp:sp.length=N)
  (hob:G4 P n c ops.toArray Q ops sp l0 H 0 (ops.take N)) (h:∀β,WL P n c ops.toArray Q (ops.drop N) (JZ β (ops.take N) sp 0 l0) (H++O9 β sp 0)):WC P n c (.region id ops.toArray true) Q l H:=by
 intro a w Z ha hw;simp only[Sv,SM,Tm,List.mem_range,SI] at hB;obtain⟨⟨⟨⟨⟨b1,bN⟩,b2⟩,b3⟩,b4⟩,b5⟩:=hB;have hget:∀i,i<N→(ops.take N)[i]? =ops[i]?:=λi hi=>by rw[Tq,Td hi]
 have hsa:∀i,i<N→sp[i]? =some (D2 sp i):=λi hi=>by
  simp[D2,SQ,SK (show i<sp.length by omega)]
 have hspq:∀i,i<N→(CH (OI sp) i)=⟨(D2 sp i).deps,(D2 sp i).r,0⟩:=λi hi=>by
  simp[CH,OI,SQ,Ty,hsa i hi]
 have hals:∀j b,j<N→(sp.map (·.al.isSome)).getD j b=(D2 sp j).al.isSome:=λj b hj=>by simp[SQ,Ty,hsa j hj]
 have hstos:∀j,j<N→(sp.map (·.sto)).getD j none=(D2 sp j).sto:=λj hj=>by simp[SQ,Ty,hsa j hj]
 have hlates:∀j,j<N→(sp.map (·.late.map (·.1))).getD j none=(D2 sp j).late.map (·.1):=λj hj=>by simp[SQ,Ty,hsa j hj]
 have S1:∀i o j,i<N→ops[i]? =some o→(D2 sp i).sto=some j→j<N∧j∈D7 o∧(D2 sp j).al≠none∧(D2 sp i).al=none:=λi o j hi ho hs=>by
  have h1:=b4 i hi;rw[hstos i hi,hs] at h1;simp only[SM,Te,SI] at h1;obtain⟨⟨⟨h2,h3⟩,h4⟩,h5⟩:=h1;rw[hals j _ h2] at h4;rw[hals i _ hi] at h5;rw[SQ,ho,Tf,List.contains_iff_mem] at h3;exact⟨h2,h3,λe=>(by rw[e] at h4;cases h4),(by simpa using h5)⟩
 have L1:∀t q,t<N→(D2 sp t).late=some q→q.1<N∧(D2 sp q.1).sto=some t:=λt q ht hq=>by
  have h1:=b5 t ht;rw[hlates t ht,hq] at h1;simp only[Option.map_some,SM,SI,beq_iff_eq] at h1;obtain⟨⟨h2,h3⟩,h4⟩:=h1;rw[hstos _ h2] at h4;exact⟨h2,h4⟩
 have hops:∀j,j<N→∃o,ops[j]? =some o:=λj hj=>⟨ops[j]'(by omega),SK (by omega)⟩
 have lt_of:∀(t:Nat) (s:Sa),sp[t]? =some s→t<N∧s=D2 sp t:=λt s hs=>by
  have h1:t<N:=by have:=(List.getElem?_eq_some_iff.1 hs).1;omega
  refine⟨h1,?_⟩;rw[hsa t h1] at hs;simpa using hs.symm
 have hdst:∀i o d,i<N→ops[i]? =some o→o.dst=some d→(d<n∧d ∉ E4 l0)∧∀j,j<N→j≠i→Da ops j≠some d:=λi o d hi ho hd=>by
  have h3:=b2 i hi;have:Da ops i=some d:=by simp[Da,ho,hd]
  rw[this] at h3;simp only[SM,Te,Tm,List.mem_range,SI] at h3;refine⟨⟨h3.1.1,λhmem=>by rw[← List.contains_iff_mem] at hmem;rw[hmem] at h3;cases h3.1.2⟩,λj hj hne he=>?_⟩;have:=h3.2 j hj;simp[hne,he] at this
 refine Rm (N:=N) hm b1 bN (λS a w=>∃ (β:Nat→Nat) (Z:Fz),St c (H++DX S β sp 0) Z w∧Ch n l0 a Z∧(∀j o d,j<N→S j=true→ops[j]? =some o→o.dst=some d→∃v,a.tmps[d]? =some v∧(Iu β (D2 sp j) j).p Z v)∧
   ∀k j,k<N→(D2 sp k).sto=some j→S k=true→S j=true)
  (λS S' a w hS hI=>?_) ⟨λ_=>0,Z,?_,ha.subL hl0,λj o d _ hS=>(by cases hS),λk j _ _ hS=>(by cases hS)⟩ (λS i o a w hi hun ho hb hI K hK=>?_) (λa w hI=>?_)
 ·obtain⟨β,Z,h1,h2,h3,h4⟩:=hI;refine⟨β,Z,?_,h2,λj o d hj hS'=>h3 j o d hj (by rw[hS j hj];exact hS'),λk j hk hs hSk=>?_⟩
  ·rw[← Ep (S:=S) (β:=β) (β':=β) sp 0 (λt s hs _=>by
    obtain⟨ht,rfl⟩:=lt_of t s hs;exact⟨hS _ (by omega),λ_=>⟨rfl,λq hq=>hS _ (L1 t q ht hq).1⟩⟩)]
   exact h1
  ·obtain⟨o,ho⟩:=hops k hk;rw[← hS j (S1 k o j hk ho hs).1];exact h4 k j hk hs (by rw[hS k hk];exact hSk)
 ·rw[KE,Tz];exact hw.drawn _
 ·obtain⟨β,Z,h1,h2,h3,hx⟩:=hI;have hput:∀k u v,a.tmps[k]? =some u→o.dst≠some k→(a.put o.dst v).tmps[k]? =some u:=λk u v hk hne=>by
   cases hd:o.dst with
   | none=>simpa[Act.put] using hk
   | some d=>
    simp only[Act.put,Array.getElem?_setIfInBounds];rw[SX (λe=>hne (by rw[hd,e]))];exact hk
  have hagr:∀v Z',Fz.le Z Z'→Ch n l0 (a.put o.dst v) Z':=λv Z' hz=>by
   refine⟨?_,?_,λk r hk=>?_⟩
   ·cases o.dst<;>simp[Act.put,h2.size]
   ·cases o.dst<;>simp[Act.put,h2.defers]
   ·obtain⟨u,hu,hpu⟩:=h2.tm k r hk;exact⟨u,hput k u v hu (λe=>((hdst i o k hi ho e).1).2 (JI hk)),r.mono hz hpu⟩
  have hvals:∀(v:Value) (Z':Fz) (β':Nat→Nat),Fz.le Z Z'→(∀j,j≠i→β' j=β j)→(o.dst≠none→(Iu β' (D2 sp i) i).p Z' v)→∀j o' d,j<N→(j ==i||S j)=true→ops[j]? =some o'→o'.dst=some d→∃u,(a.put o.dst v).tmps[d]? =some u∧(Iu β' (D2 sp j) j).p Z' u:=by
   intro v Z' β' hz hβ hp j o' d hj hS' ho' hd
   by_cases hji:j=i
   ·subst hji;rw[ho] at ho';simp at ho';subst ho';refine⟨v,?_,hp (by simp[hd])⟩;have hdn:d<a.tmps.size:=by rw[h2.size];exact(hdst j o d hi ho hd).1.1
    simp[Act.put,hd,hdn]
   ·have hSj:S j=true:=by simpa[hji] using hS'
    obtain⟨u,hu,hpu⟩:=h3 j o' d hj hSj ho' hd;refine⟨u,hput d u v hu (λe=>(hdst i o d hi ho e).2 j hj hji (by simp[Da,ho',hd])),?_⟩;have:Iu β' (D2 sp j) j=Iu β (D2 sp j) j:=by unfold Iu;rw[hβ j hji]
    rw[this];exact(Iu β (D2 sp j) j).mono hz hpu
  have hx':∀k j,k<N→(D2 sp k).sto=some j→(k ==i||S k)=true→(j ==i||S j)=true:=λk j hk hs hSk=>by
   by_cases hki:k=i
   ·subst hki;have:=(hb j (S1 k o j hk ho hs).2.1).2;simp[this]
   ·have:S j=true:=hx k j hk hs (by simpa[hki] using hSk);simp[this]
  have hat:=hob.at i o (by rw[hget i hi];exact ho);rw[Tl] at hat;unfold Ri at hat;have hag':Ch n (BI ops (OI sp) (D2 sp i).deps l0) a Z:=Jt h2 (λj hj d hd=>by
    have h4:=b3 i hi j (by simpa[SQ,Ty,hsa i hi] using hj);simp only[SM,Te,SI] at h4;obtain⟨⟨h5,h6⟩,h7⟩:=h4;rw[SQ,ho,Tf,List.contains_iff_mem] at h6;have hjal:(D2 sp j).al=none:=by
     rw[hals j _ h5] at h7;simpa using h7
    obtain⟨o2,ho2⟩:=hops j h5;obtain⟨v,hv1,hv2⟩:=h3 j o2 d h5 (hb j h6).2 ho2 (by simpa[Da,ho2] using hd);refine⟨v,hv1,?_⟩;rw[hspq j h5];simpa[Iu,hjal] using hv2)
  cases hst:(D2 sp i).sto with
  | some j=>
   rw[hst] at hat;obtain⟨hod,d,p,ncs,hd,hal,hlate,hok⟩:=hat;obtain⟨hjN,hjb,_,hial⟩:=S1 i o j hi ho hst;have hSj:=(hb j hjb).2;obtain⟨H',p1,p2⟩:=Mw (S:=S) (β:=β) (i:=i) (j:=j) (p:=p) (ncs:=ncs) sp 0 j (D2 sp j) (by omega) (hsa j hjN) hal hlate hSj hun (λt s q hs _ hq hne he=>by
     obtain⟨ht,rfl⟩:=lt_of t s hs;have:=(L1 t q ht hq).2;rw[he,hst] at this;simp at this;omega) (λt s hs hn he=>by
     obtain⟨ht,rfl⟩:=lt_of t s hs;rw[Tl] at he;subst he;exact hn hial)
   obtain⟨o2,ho2⟩:=hops j hjN;obtain⟨v,hv1,hv2⟩:=h3 j o2 d hjN hSj ho2 (by simpa[Da,ho2] using hd);have hag2:Ch n ((d,rv (.pointer (some ⟨β j,0,none⟩)))::BI ops (OI sp) (D2 sp i).deps l0) a Z:=⟨hag'.size,hag'.defers,λk r hk=>by
    rw[BB] at hk
    split at hk
    ·rename_i e;subst e;simp at hk;subst hk
     exact⟨v,hv1,by simpa[Iu,hal] using hv2⟩
    ·exact hag'.tm k r hk⟩
   refine hok (β j) (H++H') a w Z K hag2 (h1.perm ((List.Perm.append_left H p1).trans List.perm_middle)) (λv w' Z' hz _ hs'=>hK _ _ ⟨β,Z',?_,hagr v Z' hz,hvals v Z' β hz (λ_ _=>rfl) (λhne=>absurd hod hne),hx'⟩);exact hs'.perm (List.perm_middle.symm.trans (List.Perm.append_left H p2.symm))
  | none=>
   rw[hst] at hat;have latene:∀t q,t<N→(D2 sp t).late=some q→q.1≠i:=λt q ht hq he=>by
    have:=(L1 t q ht hq).2;rw[he,hst] at this;cases this
   cases hal:(D2 sp i).al with
   | none=>
    rw[hal] at hat;refine hat _ a w Z K hag' h1 (λv w' Z' hz hp hst'=>hK _ _ ⟨β,Z',?_,hagr v Z' hz,hvals v Z' β hz (λ_ _=>rfl) (λ_=>by unfold Iu;rw[hal];exact hp),hx'⟩);rw[Ep (S':=S) (β':=β) sp 0 (λt s hs hn=>by
     obtain⟨ht,rfl⟩:=lt_of t s hs;have:t≠i:=λe=>by subst e;exact hn hal
     refine⟨by simp[this],λ_=>⟨rfl,λq hq=>?_⟩⟩;have:=latene t q ht hq;simp[this])]
    exact hst'
   | some p=>
    rw[hal] at hat;have key:=λK' hK'=>hat (H++DX S β sp 0) a w Z K' hag' h1 hK';have h5:∀b w',St c (.blk b p.1 p.2::(H++DX S β sp 0)) Z w'→K (a.put o.dst (.pointer (some ⟨b,0,none⟩))) w':=λb w' hst'=>by
     refine hK _ _ ⟨λj=>if j=i then b else β j,Z,?_,hagr _ Z (Fz.le.refl _),hvals _ Z _ (Fz.le.refl _) (λj hj=>by simp[hj]) (λ_=>by simp[Iu,hal,rv]),hx'⟩;have hp:=Mx (S:=S) (β:=β) (i:=i) (b:=b) (p:=p) sp 0 i (D2 sp i) (by omega) (hsa i hi) hal hun (λt s q hs _ hq=>by
      obtain⟨ht,rfl⟩:=lt_of t s hs;exact latene t q ht hq) (λq hq=>by
       refine⟨?_,latene i q hi hq⟩
       cases hS:S q.1 with
       | false=>rfl
       | true=>
        obtain⟨h6,h7⟩:=L1 i q hi hq;have:=hx q.1 i h6 h7 hS;rw[this] at hun;cases hun)
     exact hst'.perm ((List.perm_middle.symm).trans (List.Perm.append_left H hp.symm))
    refine⟨λ_=>(key K h5).2,λhw'=>?_⟩;rw[(key K h5).1] at hw';cases hw'
 ·obtain⟨β,Z,h1,h2,h3,_⟩:=hI;refine h β a w Z (NG h2 _ _ 0 (λt o s d ht hs hd=>?_)) (by rw[← My];exact h1);obtain⟨htN,rfl⟩:=lt_of t s hs;rw[Tl];exact h3 t o d htN rfl (by rw[← hget t htN];exact ht) hd
end
theorem M1 {l:Fr}{P:Program}{n:Nat}{c:Cx}{opsA:Array Oper}{Q:Exit→Act→World→Prop}{d:Nat}{e:TypeId}{ty:TypeId}{pos:String}{af:Array Edge}{z:Value}{cs:List Rp}(hz:∀w,(zeroValue e).run P w = .ok z w)(hcs:z.cells.toList.map rv=cs) :
  RF P n c opsA Q l { dst:=some d,op:=.alloc e,type:=ty,pos:=pos,after:=af,guard:=none } (cs,e):=λH a w Z K _ hw hK=>by
 refine⟨by simp[Region.wanted],?_⟩;unfold Oper.wp;rw[show(execOp a.eval { dst:=some d,op:=.alloc e,type:=ty,pos:=pos,after:=af,guard:=none }).run P w = .ok (.value (.pointer (some ⟨w.heap.size,0,none⟩))) (w.alloc (.cells z.cells e)) from by simp[execOp,Instr.alloc,hz,newVar,newRow,newObj,Sem.run,Sem.run_bind]];exact hK _ _ (hw.alloc _ (e:=.blk w.heap.size cs e) ⟨z.cells.toList,by simpa using heap_alloc_new w _,by subst hcs;exact AX.rvs Z _⟩ rfl)
section
variable {P : Program} {n : Nat} {c : Cx} {opsA : Array Oper} {Q : Exit → Act → World → Prop} {l l0 : Fr} {H : List Ent} {sp : List Sa}
theorem BV {id:Nat}{ops:List Oper}(N:Nat)(ks0:List Nat)(sp:List Sa)(hob:G4 P n c ops.toArray Q ops sp l0 H 0 (ops.take N))(h:∀β,WL P n c ops.toArray Q (ops.drop N) (JZ β (ops.take N) sp 0 l0) (H++O9 β sp 0))
  (h0:Kp ks0 l l0:=by repeat (first | exact O2 | (apply Ll;rfl) | (apply Mr;rfl))) (hm:P.follows .mixedOrders=true:=by kernel_rfl) (hB:Sv n ops N (E4 l0) (sp.map (·.deps)) (sp.map (·.al.isSome)) (sp.map (·.late.map (·.1))) (sp.map (·.sto))=true:=by kernel_rfl)
  (hsp:sp.length=N:=by rfl):WC P n c (.region id ops.toArray true) Q l H:=Rn N sp hm hB h0.one hsp hob h
theorem Cf {all rest:List Oper}{d:Nat}{op:Op}{ty:TypeId}{pos:String}{af:Array Edge}{i:Nat}
  (hr:∀{H},Bo P n c (BI all (OI sp) (D2 sp i).deps l0) H { dst:=some d,op:=op,type:=ty,pos:=pos,after:=af,guard:=none } (D2 sp i).r) (h:G4 P n c opsA Q all sp l0 H (i+1) rest) (ha:(D2 sp i).al=none:=by rfl) (hs:(D2 sp i).sto=none:=by rfl) :
  G4 P n c opsA Q all sp l0 H i ({ dst:=some d,op:=op,type:=ty,pos:=pos,after:=af,guard:=none }::rest):=by
 refine⟨?_,h⟩;unfold Ri;rw[hs,ha];exact λ_=>HQ hr
theorem HR {all rest:List Oper}{d:Nat}{op:Op}{ty:TypeId}{pos:String}{af:Array Edge}{i:Nat}
  (hr:∀{E},Bo P n c (BI all (OI sp) (D2 sp i).deps l0) (H++E) { dst:=some d,op:=op,type:=ty,pos:=pos,after:=af,guard:=none } (D2 sp i).r) (h:G4 P n c opsA Q all sp l0 H (i+1) rest) (ha:(D2 sp i).al=none:=by rfl) (hs:(D2 sp i).sto=none:=by rfl) :
  G4 P n c opsA Q all sp l0 H i ({ dst:=some d,op:=op,type:=ty,pos:=pos,after:=af,guard:=none }::rest):=by
 refine⟨?_,h⟩;unfold Ri;rw[hs,ha];exact λ_=>HQ hr
theorem RK {all rest:List Oper}{o:Oper}{p:List Rp×TypeId}{i:Nat}(hr:RF P n c opsA Q (BI all (OI sp) (D2 sp i).deps l0) o p)(h:G4 P n c opsA Q all sp l0 H (i+1) rest)(ha:(D2 sp i).al=some p:=by rfl)(hs:(D2 sp i).sto=none:=by rfl):G4 P n c opsA Q all sp l0 H i (o::rest):=by
 refine⟨?_,h⟩;unfold Ri;rw[hs,ha];exact hr
theorem SD {all rest:List Oper}{op:Op}{ty:TypeId}{pos:String}{af:Array Edge}{g:Option (Nat×Bool)}{i j d:Nat}{p:List Rp×TypeId}{ncs:List Rp}
  (hr:∀{b H},Dt P n c opsA Q ((d,rv (.pointer (some ⟨b,0,none⟩)))::BI all (OI sp) (D2 sp i).deps l0) (.blk b p.1 p.2::H) { dst:=none,op:=op,type:=ty,pos:=pos,after:=af,guard:=g } (rv undef) (.blk b ncs p.2::H))
  (h:G4 P n c opsA Q all sp l0 H (i+1) rest) (hs:(D2 sp i).sto=some j:=by rfl) (hd:Da all j=some d:=by rfl) (ha:(D2 sp j).al=some p:=by rfl) (hl:(D2 sp j).late=some (i,ncs):=by rfl) :
  G4 P n c opsA Q all sp l0 H i ({ dst:=none,op:=op,type:=ty,pos:=pos,after:=af,guard:=g }::rest):=by
 refine⟨?_,h⟩;unfold Ri;rw[hs];exact⟨rfl,d,p,ncs,hd,ha,hl,λ_ _=>hr⟩
theorem K0 {all:List Oper}{i:Nat}:G4 P n c opsA Q all sp l0 H i []:=trivial
end
structure Qc (ks:List Nat) (β:Nat→Nat) (os:List Oper) (sp:List Sa) (i:Nat) (l0 l1:Fr):Prop where
 go:Kp ks (JZ β os sp i l0) l1
section
variable {ks : List Nat} {β : Nat → Nat} {os : List Oper} {sp : List Sa} {i d : Nat} {l0 l1 : Fr} {ds : List Nat} {r : Rp} {p : List Rp × TypeId} {lt : Option (Nat × List Rp)} {so : Option Nat} {op : Op} {ty : TypeId} {pos : String} {af : Array Edge} {g : Option (Nat × Bool)}
theorem RM (h:ks.contains d=true)(t:Qc ks β os sp (i+1) l0 l1):Qc ks β ({ dst:=some d,op:=op,type:=ty,pos:=pos,after:=af,guard:=g }::os) ({ deps:=ds,r:=r,sto:=so }::sp) i l0 ((d,r)::l1):=⟨Ll h t.go⟩
theorem RP (h:ks.contains d=true)(t:Qc ks β os sp (i+1) l0 l1):Qc ks β ({ dst:=some d,op:=op,type:=ty,pos:=pos,after:=af,guard:=g }::os) ({ deps:=ds,r:=r,al:=some p,late:=lt,sto:=so }::sp) i l0 ((d,rv (.pointer (some ⟨β i,0,none⟩)))::l1):=⟨Ll h t.go⟩
theorem RO {s:Sa}(h:ks.contains d=false)(t:Qc ks β os sp (i+1) l0 l1):Qc ks β ({ dst:=some d,op:=op,type:=ty,pos:=pos,after:=af,guard:=g }::os) (s::sp) i l0 l1:=⟨Mr h t.go⟩
theorem RN {s:Sa}(t:Qc ks β os sp (i+1) l0 l1):Qc ks β ({ dst:=none,op:=op,type:=ty,pos:=pos,after:=af,guard:=g }::os) (s::sp) i l0 l1:=⟨t.go⟩
theorem RQ (t:Kp ks l0 l1):Qc ks β [] [] i l0 l1:=⟨t⟩
theorem Ct {P:Program}{n:Nat}{c:Cx}{opsA:Array Oper}{Q:Exit→Act→World→Prop}{rest:List Oper}{H H1:List Ent}(ks:List Nat)(h:WL P n c opsA Q rest l1 H1)
  (hz:Qc ks β os sp i l0 l1:=by repeat (first | (apply RM;rfl) | (apply RP;rfl) | (apply RO;rfl) | apply RN | apply RQ | exact O2 | (apply Ll;rfl) | (apply Mr;rfl))) (hH:H=H1:=by rfl) :
  WL P n c opsA Q rest (JZ β os sp i l0) H:=λa w Z ha hw=>h a w Z (ha.subL hz.go.one) (hH▸hw)
end
section
variable {P : Program} {n : Nat} {c : Cx} {opsA : Array Oper} {Q : Exit → Act → World → Prop} {l l0 : Fr} {H : List Ent} {sp : List Sa}
theorem Lg {all rest:List Oper}{o:Oper}{i:Nat}(hr:∀{E},Dt P n c opsA Q (BI all (OI sp) (D2 sp i).deps l0) (H++E) o (D2 sp i).r (H++E))(h:G4 P n c opsA Q all sp l0 H (i+1) rest)(ha:(D2 sp i).al=none:=by rfl)(hs:(D2 sp i).sto=none:=by rfl):G4 P n c opsA Q all sp l0 H i (o::rest):=by
 refine⟨?_,h⟩;unfold Ri;rw[hs,ha];exact λ_=>hr
end
section
variable {P : Program} {n : Nat} {c : Cx} {opsA : Array Oper} {Q : Exit → Act → World → Prop} {l : Fr} {H : List Ent} {d : Nat} {ty : TypeId} {pos : String} {af : Array Edge}
end
section
variable {P : Program} {n : Nat} {c : Cx} {ops : Array Oper} {Q : Exit → Act → World → Prop} {rest : List Oper} {l : Fr} {H H' : List Ent} {d : Nat} {d' : Option Nat} {x y z3 : Operand} {ty t t' e : TypeId} {pos : String} {af : Array Edge} {g : Option (Nat × Bool)} {v u : Value} {r : Rp} {sz : Nat}
end
def S8 (p:Bool→Prop):Rp:=⟨λ_ v=>∃b,v = .bool b∧p b,λ_ h=>h,true,λ_ Z v ⟨b,e,_⟩=>by rw[e];rfl⟩
section
variable {P : Program} {n : Nat} {c : Cx} {ops : Array Oper} {Q : Exit → Act → World → Prop} {rest : List Oper} {l : Fr} {H : List Ent} {d : Option Nat} {ty rty t e : TypeId} {pos : String} {af : Array Edge} {g : Option (Nat × Bool)} {r : Rp} {x : Operand} {cx cy : Code} {sz : Nat} {xs : List (List Rp)}
theorem OX {o:Operand}{p:Bool→Prop}(ho:ev l o=some (S8 p))(h1:p true→WC P n c cx Q l H)(h2:p false→WC P n c cy Q l H):WC P n c (.cond o cx cy) Q l H:=λa w Z ha hw=>by
 obtain⟨b,e,hp⟩:=ha.ev ho;exact wp_cond_split e (λe=>h1 (e▸hp) a w Z ha hw) (λe=>h2 (e▸hp) a w Z ha hw)
theorem Ok (ht:P.underlying t=some (.slice e))(h:ev l x=some (AG sz xs)):Bo P n c l H { dst:=d,op:=.binOp .eql t x (.const (.slice none 0 0)) rty,type:=ty,pos:=pos,after:=af,guard:=g } (S8 (λb=>b=true→xs=[])):=λa w Z ha hw=>by
 obtain⟨A,cap,e1,h1,h2,h3,h4⟩:=ha.ev h;refine⟨.bool A.isNone,⟨_,rfl,λhb=>?_⟩,?_⟩
 ·cases A with
  | some a=>cases hb
  | none=>
   have:=h3 rfl;exact List.length_eq_zero_iff.1 (by omega)
 ·have:=run_equal_slice_nil (P:=P) w t e A xs.length cap ht;have e2:a.eval (.const (.slice none 0 0)) = .slice none 0 0:=rfl;simp[execOp,e1,e2,binOp,this,eqGuard]
end
section
variable {P : Program} {n : Nat} {c : Cx} {Q : Exit → Act → World → Prop} {l : Fr} {H : List Ent} {x rest' : Code} {K : Act → World → Prop}
end
section
variable {P : Program} {n : Nat} {c : Cx} {ops : Array Oper} {Q : Exit → Act → World → Prop} {rest : List Oper} {l : Fr} {H H' : List Ent} {d : Nat} {d' : Option Nat} {x y z3 z4 : Operand} {ty t t' e : TypeId} {pos : String} {af : Array Edge} {g : Option (Nat × Bool)} {v u : Value} {r : Rp} {sz : Nat}
end
structure Sx (U:Type) where
 deps:List Nat
 r:U→Rp
 dyn:Bool:=false
 old:List Nat:=[]
def OH {U:Type}(sp:List (Sx U))(i:Nat):Sx U:=sp.getD i { deps:=[],r:=λ_=>rv undef }
def Sk {U:Type}(sp:List (Sx U))(u:U):List Sp:=sp.map λs=>⟨s.deps,s.r u,0⟩
def QS {U:Type}:List (Sx U)→Prop
 | []=>True
 | s::r=>(s.dyn=false→∀u u',s.r u=s.r u')∧QS r
theorem QS.at {U:Type}:∀{sp:List (Sx U)},QS sp→∀{i:Nat} {s:Sx U},sp[i]? =some s→s.dyn=false→∀u u',s.r u=s.r u'
 | [],_,i,s,h=>by simp at h
 | x::sp,⟨h1,h2⟩,0,s,h=>by simp at h;subst h;exact h1
 | x::sp,⟨h1,h2⟩,i+1,s,h=>QS.at h2 (by simpa using h)
def HP (lw:Fr):List Nat→Fr→Fr
 | [],l=>l
 | d::r,l=>match look lw d with
  | some q=>(d,q)::HP lw r l
  | none=>HP lw r l
section
variable (P : Program) (n : Nat) (c : Cx) (opsA : Array Oper) (Q : Exit → Act → World → Prop)
def SB {U:Type}(l:Fr)(H:List Ent)(o:Oper)(r:U→Rp)(H1:U→List Ent):Prop:=
 ∀a w Z (K:Act→World→Prop),Ch n l a Z→St c H Z w→(∀u v w' Z',Fz.le Z Z'→(r u).p Z' v→St c (H1 u) Z' w'→K (a.put o.dst v) w')→
  Region.wanted o (yielded opsA a.tmps)=true∧o.wp P a w K Q
def QW {U:Type}(ops:List Oper)(sp:List (Sx U))(l0 lw:Fr)(i0:Nat)(H:List Ent)(H1:U→List Ent):Nat→List Oper→Prop
 | i,o::rest=>(if i=i0 then(∀u,SB P n c opsA Q (HP lw (OH sp i).old (BI ops (Sk sp u) (OH sp i).deps l0)) H o (OH sp i).r H1) else ∀u H',(H'=H∨H'=H1 u)→Dt P n c opsA Q (HP lw (OH sp i).old (BI ops (Sk sp u) (OH sp i).deps l0)) H' o ((OH sp i).r u) H')∧QW ops sp l0 lw i0 H H1 (i+1) rest
 | _,[]=>True
end
section
variable {P : Program} {n : Nat} {c : Cx} {opsA : Array Oper} {Q : Exit → Act → World → Prop} {l l0 lw : Fr} {U : Type} {H : List Ent} {H1 : U → List Ent} {sp : List (Sx U)} {i0 : Nat}
theorem QW.at {ops:List Oper}:∀{k:Nat} {rest:List Oper},QW P n c opsA Q ops sp l0 lw i0 H H1 k rest→∀(t:Nat) o,rest[t]? =some o→
  (if k+t=i0 then(∀u,SB P n c opsA Q (HP lw (OH sp (k+t)).old (BI ops (Sk sp u) (OH sp (k+t)).deps l0)) H o (OH sp (k+t)).r H1) else ∀u H',(H'=H∨H'=H1 u)→Dt P n c opsA Q (HP lw (OH sp (k+t)).old (BI ops (Sk sp u) (OH sp (k+t)).deps l0)) H' o ((OH sp (k+t)).r u) H')
 | k,o::rest,⟨h1,h2⟩,t,o',ht=>by
  cases t with
  | zero=>simp at ht;subst ht;exact h1
  | succ t=>
   have:=QW.at h2 t o' (by simpa using ht);rw[show k+(t+1)=k+1+t from by omega];exact this
 | _,[],_,t,o,h=>by simp at h
end
section
variable {P : Program} {n : Nat} {c : Cx} {opsA : Array Oper} {Q : Exit → Act → World → Prop} {l : Fr} {H : List Ent} {d : Nat} {x y : Operand} {ty t e : TypeId} {pos : String} {af : Array Edge} {v : Value} {sz : Nat}
end
set_option maxRecDepth 100000
set_option maxHeartbeats 4000000
end Go.Proofs.YtfbmdidnlhifjaaGreatDoor.Q
namespace Go.Proofs.YtfbmdidnlhifjaaGreatDoor
open Go
set_option linter.unusedVariables false
set_option linter.unusedSimpArgs false
section
variable {T S : Type}
def D1:List (An×T)→An→Option T
 | [],_=>none
 | p::r,k=>bif decide (p.1=k) then some p.2 else D1 r k
def A2 (xs:List (An×T))(k:An)(z:T):T:=(D1 xs k).getD z
def BG (xs:List (An×T))(k:An):Bool:=(D1 xs k).isSome
def Mj (k:An)(v:T):List (An×T)→List (An×T)
 | []=>[(k,v)]
 | p::r=>bif CJ k p.1 then(k,v)::p::r else p::Mj k v r
def I9 (xs:List (An×T))(k:An)(v:T):List (An×T):=xs.map λp=>bif decide (p.1=k) then(k,v) else p
def AY (xs:List (An×T))(k:An)(v:T):List (An×T):=bif BG xs k then I9 xs k v else Mj k v xs
def AD (f:T→S)(xs:List (An×T)):List (An×S):=xs.map λp=>(p.1,f p.2)
theorem Gy (f:T→S):∀(xs:List (An×T)) (k:An),D1 (AD f xs) k=(D1 xs k).map f
 | [],k=>rfl
 | p::r,k=>by
  show(bif decide (p.1=k) then some (f p.2) else D1 (AD f r) k)=_;rw[D1,Gy f r k]
  cases decide (p.1=k)<;>rfl
theorem P6 (f:T→S)(xs:List (An×T))(k:An):BG (AD f xs) k=BG xs k:=by
 unfold BG;rw[Gy];cases D1 xs k<;>rfl
theorem Mi (f:T→S)(k:An)(v:T):∀xs:List (An×T),AD f (Mj k v xs)=Mj k (f v) (AD f xs)
 | []=>rfl
 | p::r=>by
  show AD f (bif CJ k p.1 then(k,v)::p::r else p::Mj k v r)=(bif CJ k p.1 then(k,f v)::(p.1,f p.2)::AD f r else(p.1,f p.2)::Mj k (f v) (AD f r));rw[← Mi f k v r]
  cases CJ k p.1<;>rfl
theorem P5 (f:T→S)(xs:List (An×T))(k:An)(v:T):AD f (AY xs k v)=AY (AD f xs) k (f v):=by
 unfold AY;rw[P6]
 cases BG xs k with
 | false=>exact Mi f k v xs
 | true=>
  show AD f (I9 xs k v)=I9 (AD f xs) k (f v);unfold AD I9;rw[T0,T0];refine List.map_congr_left λp _=>?_;show _=(bif decide (p.1=k) then(k,f v) else(p.1,f p.2));simp only[Function.comp]
  cases decide (p.1=k)<;>rfl
theorem Gz (f:T→S)(xs:List (An×T)):(AD f xs).length=xs.length:=by simp[AD]
theorem K6 (k:An)(v:T):∀xs:List (An×T),(Mj k v xs).Perm ((k,v)::xs)
 | []=>SN _
 | p::r=>by
  rw[Mj]
  cases CJ k p.1 with
  | true=>exact SN _
  | false=>exact((K6 k v r).cons p).trans (List.Perm.swap _ _ _)
end
structure A3 where
 fEntity:An
 fID:An
 fOp:An
 fArgs:(List (List Ac))
 deriving DecidableEq,Inhabited
structure A6 where
 fErr:Int
 fValue:(List Ac)
 deriving DecidableEq,Inhabited
structure AA where
 fOp:A3
 fAnswer:A6
 fFrom:Int
 fTo:Int
 deriving DecidableEq,Inhabited
def Cy (ys:(List Ac)):Option ((List Ac)):=
 Bm (OJ 40 (([]:List Ac).length+ys.length))<|some (([]:List Ac)++ys)
def Ln (c:Int):Option (Bool):=
 some ((decide (97≤c))&&(decide (c≤122)))
def Jr (c:Int):Option (Bool):=
 some ((decide (48≤c))&&(decide (c≤57)))
def BK (ha:Bool):Option (Bool):=
 some ha
def Lo (c:Int):Option (Bool):=
 B5 (Ln c) λha=>Bq (ha) (BK true) (Bq (decide (65≤c)) (Bq (decide (c≤90)) (BK true) (B5 (Jr c) λhb=>Bq (hb) (BK true) (Bq (decide (c=45)) (BK true) (Bq (decide (c=95)) (BK true) (Bq (decide (c=46)) (BK true) (Bq (decide (c=58)) (BK true) (BK (decide (c=47))))))))) (B5 (Jr c) λhd=>Bq (hd) (BK true) (Bq (decide (c=45)) (BK true) (Bq (decide (c=95)) (BK true) (Bq (decide (c=46)) (BK true) (Bq (decide (c=58)) (BK true) (BK (decide (c=47)))))))))
def GS (s:An)(ha:Int):Option (Stp (Int) (Out (Bool) (Unit))):=
 Bq (decide (ha<(s.length:Int))) (Bm (Cd ha (s.length:Int))<|B5 (Lo (Ih s ha)) λhb=>Bq (!hb) (some (.out (.ret false))) (Bm (BO .i64 (ha+1))<|some (.next (ha+1)))) (some (.out (.go ())))
def Jq :Option (Bool):=
 some true
def Ht (F:Nat)(s:An):Option (Bool):=
 Bq (((decide ((s.length:Int)<1))||(decide (64<(s.length:Int))))) (some false) (B5 (Ck (λσ=>GS s σ) F 0) (BU λν=>Jq ))
def JE (op:An):Option (Int×Bool):=
 some (A2 (AY (AY (AY (AY ([]:List (An×Int)) ([114,101,97,100]:An) 0) ([119,114,105,116,101]:An) 1) ([97,100,100]:An) 1) ([99,97,115]:An) 2) op 0,BG (AY (AY (AY (AY ([]:List (An×Int)) ([114,101,97,100]:An) 0) ([119,114,105,116,101]:An) 1) ([97,100,100]:An) 1) ([99,97,115]:An) 2) op)
def Ef (F:Nat)(op:A3)(ha:Int):Option (Stp (Int) (Out (Int) (Unit))):=
 Bq (decide (ha<(op.fArgs.length:Int))) (Bm (Cd ha (op.fArgs.length:Int))<|B5 (Iq F (Ae op.fArgs ha)) λhb=>Bq (!decide (hb=0)) (some (.out (.ret hb))) (Bm (BO .i64 (ha+1))<|some (.next (ha+1)))) (some (.out (.go ())))
def GK :Option (Int):=
 some 0
def I8 (F:Nat)(op:A3):Option (Int):=
 B5 (JE op.fOp) λr2=>Bq (((!(Gp op.fEntity))||((!(Gp op.fID))||(!r2.2)))) (some 4) (Bq (!decide ((op.fArgs.length:Int)=r2.1)) (some 7) (B5 (Ck (λσ=>Ef F op σ) F 0) (BU λν=>GK )))
def GH (state:(List Ac))(args:(List (List Ac))):Option ((List Ac)×A6):=
 B5 (Cy state) λr2=>some (state,(A6.mk 0 r2))
def EY (state:(List Ac))(args:(List (List Ac))):Option ((List Ac)×A6):=
 Bm (Cd 0 (args.length:Int))<|B5 (Cy (Ae args 0)) λr4=>B5 (LI) λr7=>some (r4,(A6.mk 0 r7))
def HX (F:Nat)(state:(List Ac))(args:(List (List Ac))):Option ((List Ac)×A6):=
 Bm (Cd 0 (args.length:Int))<|B5 (Ko F state (Ae args 0)) λr4=>Bq (!r4) (B5 (Nn false) λr9=>some (state,(A6.mk 0 r9))) (Bm (Cd 1 (args.length:Int))<|B5 (Cy (Ae args 1)) λha=>B5 (Nn true) λhb=>some (ha,(A6.mk 0 hb)))
def Dr (n:(List Int))(ha:Int):Option (Stp (Int) (Out (Bool) (Unit))):=
 Bq (decide (ha<(n.length:Int))) (Bm (Cd ha (n.length:Int))<|B5 (Bl (Ae n ha)) λhb=>Bq (!hb) (some (.out (.ret false))) (Bm (BO .i64 (ha+1))<|some (.next (ha+1)))) (some (.out (.go ())))
def Ex :Option (Bool):=
 some true
def Gv (F:Nat)(n:(List Int)):Option (Bool):=
 B5 (Ck (λσ=>Dr n σ) F 0) (BU λν=>Ex )
def GF (n:Int):Option (Int×Int):=
 B5 (Bl n) λr1=>Bq (!r1) (some (0,8)) (some (n,0))
def I6 (F:Nat)(a:Int)(b:Int):Option (Int×Int):=
 B5 (Gv F ([a,b]:List Int)) λr2=>Bq (!r2) (some (0,2)) (Bm (BO .i64 (a+b))<|B5 (GF (a+b)) λha=>some (ha.1,ha.2))
def JF (F:Nat)(state:(List Ac))(args:(List (List Ac))):Option ((List Ac)×A6):=
 Bm (Cd 0 (state.length:Int))<|Bq (decide (((Ae state 0).fKind)=3)) (Bm (Cd 0 (args.length:Int))<|Bm (Cd 0 ((Ae args 0).length:Int))<|Bq (!decide (((Ae (Ae args 0) 0).fKind)=3)) (some (state,(A6.mk 7 ([]:List Ac)))) (B5 (I6 F ((Ae state 0).fInt) ((Ae (Ae args 0) 0).fInt)) λha=>Bq (!decide (ha.2=0)) (some (state,(A6.mk ha.2 ([]:List Ac)))) (B5 (Cy ([(Ac.mk 3 ha.1 ([]:An) 0)]:List Ac)) λhd=>some (([(Ac.mk 3 ha.1 ([]:An) 0)]:List Ac),(A6.mk 0 hd))))) (Bq (decide (((Ae state 0).fKind)=1)) (Bm (Cd 0 (args.length:Int))<|Bm (Cd 0 ((Ae args 0).length:Int))<|Bq (!decide (((Ae (Ae args 0) 0).fKind)=3)) (some (state,(A6.mk 7 ([]:List Ac)))) (B5 (I6 F 0 ((Ae (Ae args 0) 0).fInt)) λhb=>Bq (!decide (hb.2=0)) (some (state,(A6.mk hb.2 ([]:List Ac)))) (B5 (Cy ([(Ac.mk 3 hb.1 ([]:An) 0)]:List Ac)) λhe=>some (([(Ac.mk 3 hb.1 ([]:An) 0)]:List Ac),(A6.mk 0 he))))) (some (state,(A6.mk 7 ([]:List Ac)))))
def Px :Option ((List (An×Nat))):=
 some (AY (AY (AY (AY ([]:List (An×Nat)) ([114,101,97,100]:An) 57) ([119,114,105,116,101]:An) 58) ([97,100,100]:An) 59) ([99,97,115]:An) 60)
def RG (F:Nat)(state:(List Ac))(op:A3):Option ((List Ac)×A6×Int):=
 B5 (I8 F op) λr3=>Bq (!decide (r3=0)) (some (([]:List Ac),(A6.mk 0 ([]:List Ac)),r3)) (B5 (Iq F state) λr9=>Bq (!decide (r9=0)) (some (([]:List Ac),(A6.mk 0 ([]:List Ac)),r9)) (Bq (decide (op.fOp=([114,101,97,100]:An))) (B5 (Cy state) λhf=>B5 (GH hf op.fArgs) λha=>some (ha.1,ha.2,0)) (Bq (decide (op.fOp=([119,114,105,116,101]:An))) (B5 (Cy state) λhg=>B5 (EY hg op.fArgs) λhb=>some (hb.1,hb.2,0)) (Bq (decide (op.fOp=([97,100,100]:An))) (B5 (Cy state) λhh=>B5 (JF F hh op.fArgs) λhd=>some (hd.1,hd.2,0)) (Bm (decide (op.fOp=([99,97,115]:An)))<|B5 (Cy state) λhi=>B5 (HX F hi op.fArgs) λhe=>some (he.1,he.2,0))))))
def GJ (op:A3)(ha:Int)(hb:(List (List Ac))):Option (Stp (Int×(List (List Ac))) (Out (A3) ((List (List Ac))))):=
 Bq (decide (ha<(op.fArgs.length:Int))) (Bm (Cd ha (op.fArgs.length:Int))<|B5 (Cy (Ae op.fArgs ha)) λhd=>Bm (OJ 24 (hb.length+([hd]:List (List Ac)).length))<|Bm (BO .i64 (ha+1))<|some (.next (ha+1,hb++([hd]:List (List Ac))))) (some (.out (.go hb)))
def GI (op:A3)(ha:(List (List Ac))):Option (A3):=
 some (A3.mk op.fEntity op.fID op.fOp ha)
def JD (F:Nat)(op:A3):Option (A3):=
 B5 (Ck (λσ=>GJ op σ.1 σ.2) F (0,([]:List (List Ac)))) (BU λν=>GI op ν)
def Jn (F:Nat)(c:AA):Option (AA):=
 B5 (JD F c.fOp) λr3=>B5 (Cy c.fAnswer.fValue) λr6=>some (AA.mk r3 (A6.mk c.fAnswer.fErr r6) c.fFrom c.fTo)
def MS (F:Nat)(x:(List Ac))(y:(List Ac)):Option (Bool):=
 B5 (DU F x y) λr1=>some r1
def GU (F:Nat)(a:(List (List Ac)))(b:(List (List Ac)))(ha:Int):Option (Stp (Int) (Out (Bool) (Unit))):=
 Bq (decide (ha<(a.length:Int))) (Bm (Cd ha (a.length:Int))<|Bm (Cd ha (b.length:Int))<|B5 (MS F (Ae a ha) (Ae b ha)) λhb=>Bq (!hb) (some (.out (.ret false))) (Bm (BO .i64 (ha+1))<|some (.next (ha+1)))) (some (.out (.go ())))
def GT :Option (Bool):=
 some true
def IE (F:Nat)(a:(List (List Ac)))(b:(List (List Ac))):Option (Bool):=
 Bq (!decide ((a.length:Int)=(b.length:Int))) (some false) (B5 (Ck (λσ=>GU F a b σ) F 0) (BU λν=>GT ))
def P0 (F:Nat)(a:A3)(b:A3):Option (Bool):=
 Bm (imp (decide (a.fEntity=b.fEntity)) (imp (decide (a.fID=b.fID)) (imp (decide (a.fOp=b.fOp)) ((IE F a.fArgs b.fArgs).isSome))))<|some ((decide (a.fEntity=b.fEntity))&&((decide (a.fID=b.fID))&&((decide (a.fOp=b.fOp))&&(ov (IE F a.fArgs b.fArgs)))))
end Go.Proofs.YtfbmdidnlhifjaaGreatDoor
namespace Go.Proofs.YtfbmdidnlhifjaaGreatDoor.Q
open Go Go.RowKit
set_option linter.unusedVariables false
section
variable {P : Program} {n : Nat} {c : Cx} {l : Fr} {H : List Ent} {d : Option Nat} {ty rty t e : TypeId} {pos : String} {af : Array Edge} {g : Option (Nat × Bool)} {x : Operand} {sz : Nat}
end
set_option linter.unusedSimpArgs false
theorem D6 (s:ByteArray):MapKept.IsKey .string (.string s):=by simp[MapKept.IsKey]
theorem H0.keys {Z:Fz}:∀{f:List (List UInt8×Rp)} {es:List MapEntry},H0 Z f es→∀x∈es,MapKept.IsKey .string x.key
 | [],[],_,x,hx=>by cases hx
 | p::f,e::es,⟨⟨h1,h2⟩,h3⟩,x,hx=>by
  rcases List.mem_cons.1 hx with rfl | hx
  ·rw[h1];exact D6 _
  ·exact H0.keys h3 x hx
theorem H0.at {Z:Fz}:∀{f:List (List UInt8×Rp)} {es:List MapEntry},H0 Z f es→f.length=es.length∧∀(j:Nat) (e:MapEntry),es[j]? =some e→∃k r,f[j]? =some (k,r)∧e.key = .string (B k)∧r.p Z e.val
 | [],[],_=>⟨rfl,λj e h=>by simp at h⟩
 | p::f,e::es,⟨⟨h1,h2⟩,h3⟩=>by
  obtain⟨hl,ha⟩:=H0.at h3;refine⟨by simp[hl],λj e' hj=>?_⟩
  cases j with
  | zero=>simp at hj;subst hj;exact⟨p.1,p.2,rfl,h1,h2⟩
  | succ j=>simp at hj;simpa using ha j e' hj
theorem H0.of {Z:Fz}:∀{f:List (List UInt8×Rp)} {es:List MapEntry},f.length=es.length→(∀(j:Nat) (e:MapEntry),es[j]? =some e→∃k r,f[j]? =some (k,r)∧e.key = .string (B k)∧r.p Z e.val)→H0 Z f es
 | [],[],_,_=>trivial
 | p::f,e::es,hl,h=>by
  obtain⟨k,r,h1,h2,h3⟩:=h 0 e rfl;simp at h1;subst h1;exact⟨⟨h2,h3⟩,H0.of (by simpa using hl) λj e' hj=>by simpa using h (j+1) e' (by simpa using hj)⟩
 | [],_::_,hl,_=>by simp at hl
 | _::_,[],hl,_=>by simp at hl
theorem H0.snoc {Z:Fz}{k:List UInt8}{r:Rp}{e:MapEntry}(h1:e.key = .string (B k))(h2:r.p Z e.val):∀{f:List (List UInt8×Rp)} {es:List MapEntry},H0 Z f es→H0 Z (f++[(k,r)]) (es++[e])
 | [],[],_=>⟨⟨h1,h2⟩,trivial⟩
 | p::f,e'::es,⟨h,h3⟩=>⟨h,H0.snoc h1 h2 h3⟩
theorem H0.filter {Z:Fz}(q:MapEntry→Bool):∀{f:List (List UInt8×Rp)} {es:List MapEntry},H0 Z f es→∃g,H0 Z g (es.filter q)∧g.Sublist f
 | [],[],_=>⟨[],trivial,List.Sublist.refl _⟩
 | p::f,e::es,⟨h,h3⟩=>by
  obtain⟨g,hg,hs⟩:=H0.filter q h3
  cases hq:q e with
  | true=>exact⟨p::g,by rw[List.filter_cons_of_pos hq];exact⟨h,hg⟩,hs.cons_cons p⟩
  | false=>exact⟨g,by rw[List.filter_cons_of_neg (by simp[hq])];exact hg,hs.cons p⟩
theorem Mk {T:Type}:∀{m:List (An×T)} {k:An} {r:T},(m.map (·.1)).Nodup→(k,r)∈m→D1 m k=some r
 | p::m,k,r,hn,h=>by
  rw[Tu,List.nodup_cons] at hn;rw[D1];rcases List.mem_cons.1 h with h | h
  ·subst h;rw[SS rfl];rfl
  ·have hne : ¬ p.1=k:=λe=>hn.1 (by rw[e];exact List.mem_map.2 ⟨(k,r),h,rfl⟩);rw[SL hne];exact Mk hn.2 h
theorem K7 {T:Type}:∀{m:List (An×T)} {k:An},(∀p∈m,p.1≠k)→D1 m k=none
 | [],_,_=>rfl
 | p::m,k,h=>by
  rw[D1,SL (h p (by simp))];exact K7 λq hq=>h q (by simp[hq])
theorem Sj {a b:List UInt8}(h:B a=B b):a=b:=by
 have:=congrArg ByteArray.toList h
 rwa [Dw,Dw] at this
theorem LL {a b:List UInt8}(h:Value.string (B a) = .string (B b)):a=b:=Sj (by cases h;rfl)
theorem Lq {Z:Fz}{m:List (List UInt8×Rp)}{es:List MapEntry}{ck:Nat}(h:DH Z m es ck)(k:List UInt8) :
  (Instr.findNow .string (.string (B k)) es 0=some none∧D1 m k=none∧∀p∈m,p.1≠k)∨∃j e r,Instr.findNow .string (.string (B k)) es 0=some (some (j,e.val))∧es[j]? =some e∧e.key = .string (B k)∧D1 m k=some r∧r.p Z e.val:=by
 obtain⟨h1,h2,h3,f,h4,h5⟩:=h;obtain⟨hl,ha⟩:=h5.at;rcases MapKept.findNow_spec (D6 (B k)) es 0 h5.keys with⟨q1,q2⟩ | ⟨j,e,q1,q2,q3⟩
 ·have hne:∀p∈m,p.1≠k:=λp hp e=>by
   obtain⟨j,hj⟩:=List.mem_iff_getElem?.1 (h4.symm.subset hp);have hjl:j<es.length:=by rw[← hl];exact(List.getElem?_eq_some_iff.1 hj).1
   obtain⟨k',r',e1,e2,_⟩:=ha j es[j] (SK hjl);rw[hj] at e1;cases e1;exact q2 es[j] (List.getElem_mem hjl) (by rw[e2,← e])
  exact .inl ⟨q1,K7 hne,hne⟩
 ·obtain⟨k',r,e1,e2,e3⟩:=ha j e q2;rw[q3] at e2;obtain rfl:=LL e2;exact .inr ⟨j,e,r,by simpa using q1,q2,q3,Mk h1 (h4.subset (SP e1)),e3⟩
section
variable {P : Program} {n : Nat} {c : Cx} {ops : Array Oper} {Q : Exit → Act → World → Prop} {rest : List Oper} {l : Fr} {H : List Ent} {d : Nat} {d' : Option Nat} {ty t kt et rty : TypeId} {pos : String} {af : Array Edge} {g : Option (Nat × Bool)} {x y u : Operand} {K : Act → World → Prop} {cx : Code}
variable {T : Type} {enc : T → Rp} {xs : List (An × T)} {z : T} {k : An} {zv : Value} {i b : Nat}
theorem Kd {Z:Fz}{w:World}{m:List (List UInt8×Rp)}{rz:Rp}(ht:P.underlying t=some (.map kt et))(hk:P.underlying kt=some .string)(hz:∀w,(zeroValue et).run P w = .ok zv w)(hzr:rz.p Z zv)(hm:(Ent.map b m).holds Z w)(ok:Bool) :
  ∃v,((D1 m k).getD rz).p Z v∧(Instr.lookup t (.map (some b)) (.string (B k)) ok).run P w = .ok (if ok then .tuple #[v,.bool (D1 m k).isSome] else v) w:=by
 obtain⟨es,ck,h1,h2⟩:=hm;rcases Lq h2 k with⟨q1,q2,_⟩ | ⟨j,e,r,q1,_,_,q2,q3⟩
 ·exact⟨zv,by rw[q2];exact hzr,by simp[Instr.lookup,run_underlying ht,MapKept.run_getObj_map h1,MapKept.run_checkKey hk (D6 _),MapKept.run_findKey hk q1,hz,q2]⟩
 ·exact⟨e.val,by rw[q2];exact q3,by simp[Instr.lookup,run_underlying ht,MapKept.run_getObj_map h1,MapKept.run_checkKey hk (D6 _),MapKept.run_findKey hk q1,q2]⟩
theorem PM (enc:T→Rp)(xs:List (An×T))(k:An)(z:T):(D1 (AD enc xs) k).getD (enc z)=enc (A2 xs k z):=by
 rw[Gy];unfold A2;cases D1 xs k<;>rfl
theorem MZ (enc:T→Rp)(xs:List (An×T))(k:An):(D1 (AD enc xs) k).isSome=BG xs k:=by
 rw[Gy];unfold BG;cases D1 xs k<;>rfl
theorem GC (ht:P.underlying t=some (.map kt et))(hk:P.underlying kt=some .string)(hz:∀w,(zeroValue et).run P w = .ok zv w)(hzr:∀Z,(enc z).p Z zv)(hx:ev l x=some (rv (.map (some b))))(hi:H[i]? =some (.map b (AD enc xs)))(hy:ev l y=some (rS k)) :
  Bo P n c l H { dst:=d',op:=.lookup t x y true,type:=ty,pos:=pos,after:=af,guard:=g } (C4 [enc (A2 xs k z),rB (BG xs k)]):=λa w Z ha hw=>by
 obtain⟨v,h1,h2⟩:=Kd (k:=k) ht hk hz (hzr Z) (hw.ent hi) true;rw[PM] at h1;refine⟨.tuple #[v,.bool (BG xs k)],⟨[v,.bool (BG xs k)],rfl,h1,rfl,trivial⟩,?_⟩;rw[MZ] at h2;simp[execOp,ha.eval hx,ha.eval hy,h2]
theorem DH.length {Z:Fz}{m:List (List UInt8×Rp)}{es:List MapEntry}{ck:Nat}(h:DH Z m es ck):es.length=m.length:=by
 obtain⟨_,_,_,f,h4,h5⟩:=h;rw[← h5.at.1,h4.length_eq]
theorem Pw {m:List (List UInt8×Rp)}{N:Nat}(ht:P.underlying t=some (.map kt et))(hx:ev l x=some (rv (.map (some b))))(hi:H[i]? =some (.map b m))(hN:m.length=N) :
  Bo P n c l H { dst:=d',op:=.call { callee:=.builtin .len,args:=#[x],argTypes:=#[t] },type:=ty,pos:=pos,after:=af,guard:=g } (rI .i64 N):=λa w Z ha hw=>Dv<|by
 obtain⟨es,ck,h1,h2⟩:=hw.ent hi;have hl:es.size=N:=by rw[← hN,← h2.length];simp
 simp[execOp,resolve,invoke,builtin,ha.eval hx,Builtin.len_,run_underlying ht,goInt,MapKept.run_getObj_map h1,hl]
theorem Om {v:Option Nat}(ht:P.underlying t=some (.map kt et))(hx:ev l x=some (rv (.map v))):Bo P n c l H { dst:=d',op:=.binOp .neq t x (.const (.map none)) rty,type:=ty,pos:=pos,after:=af,guard:=g } (rB (!v.isNone)):=λa w Z ha hw=>Dv<|by
 have e2:a.eval (.const (.map none)) = .map none:=rfl;have h:=run_equal_map_nil (P:=P) w t kt et v ht;simp[execOp,ha.eval hx,e2,eqGuard,binOp,h]
theorem Kn (hn:Nat.blt d n=true)(h:∀b,WL P n c ops Q rest ((d,rv (.map (some b)))::l) (.map b []::H)) :
  WL P n c ops Q ({ dst:=some d,op:=.makeMap t none,type:=ty,pos:=pos,after:=af,guard:=none }::rest) l H:=
 Ip (λa w Z ha hw=>⟨_,w.alloc (.map #[] 0),_,_,Z,by simp[execOp,run_makeMap],Fz.le.refl _,rfl,
  hw.alloc _ (e:=.map w.heap.size []) ⟨#[],0,by simpa using heap_alloc_new w _,by simp,by simp,by simp,[],SN _,trivial⟩ rfl,h w.heap.size⟩) hn
theorem Pp {m f:List (An×Rp)}(h:f.Perm m)(k:An)(r:Rp):(I9 f k r).Perm (I9 m k r):=h.map _
theorem N3 {T:Type}:∀{f:List (An×T)} {j:Nat} {k:An} {r0:T} (r:T),(f.map (·.1)).Nodup→f[j]? =some (k,r0)→I9 f k r=f.set j (k,r)
 | p::f,0,k,r0,r,hn,h=>by
  simp at h;subst h;rw[Tu,List.nodup_cons] at hn;have:I9 f k r=f:=by
   unfold I9;rw[List.map_congr_left (g:=id) (λq hq=>?_),List.map_id];have hne : ¬ q.1=k:=λe=>hn.1 (by rw[← e];exact List.mem_map.2 ⟨q,hq,rfl⟩);rw[SL hne];rfl
  show(bif decide (k=k) then(k,r) else(k,r0))::I9 f k r=_;rw[SS rfl,this];rfl
 | p::f,j+1,k,r0,r,hn,h=>by
  rw[Tu,List.nodup_cons] at hn;simp at h;have hne : ¬ p.1=k:=λe=>hn.1 (by rw[e];exact List.mem_map.2 ⟨(k,r0),SP h,rfl⟩);show(bif decide (p.1=k) then(k,r) else p)::I9 f k r=_;rw[SL hne,N3 r hn.2 h];rfl
theorem Ou {T:Type}(m:List (An×T))(k:An)(r:T):(I9 m k r).map (·.1)=m.map (·.1):=by
 unfold I9;rw[T0];refine List.map_congr_left λp _=>?_;simp only[Function.comp]
 by_cases h:p.1=k
 ·rw[SS h];exact h.symm
 ·rw[SL h];rfl
theorem Ov {T:Type}{m:List (An×T)}{k:An}{r:T}(h:D1 m k=some r):BG m k=true:=by unfold BG;rw[h];rfl
theorem Ow {T:Type}{m:List (An×T)}{k:An}(h:D1 m k=none):BG m k=false:=by unfold BG;rw[h];rfl
theorem DH.put {Z:Fz}{m:List (An×Rp)}{es:List MapEntry}{ck j:Nat}{e:MapEntry}{k:An}{r0 r:Rp}{v:Value}(h:DH Z m es ck)(he:es[j]? =some e)(hk:e.key = .string (B k))(hm:D1 m k=some r0)(hr:r.p Z v) :
  DH Z (AY m k r) (es.set j { e with key:=.string (B k),val:=v }) ck:=by
 obtain⟨h1,h2,h3,f,h4,h5⟩:=h;obtain⟨hl,ha⟩:=h5.at;have hjl:=(List.getElem?_eq_some_iff.1 he).1;unfold AY;rw[Ov hm,SW];obtain⟨k',r',e1,e2,_⟩:=ha j e he;rw[hk] at e2;obtain rfl:=LL e2;have hfn:(f.map (·.1)).Nodup:=(h4.map (·.1)).nodup_iff.2 h1;refine⟨by rw[Ou];exact h1,?_,?_,f.set j (k,r),?_,H0.of (by simp[hl]) λi x hx=>?_⟩
 ·rw[List.map_set];have:(es.map (·.born)).set j e.born=es.map (·.born):=by
   apply List.ext_getElem?;intro i;rw[T6]
   split
   ·rename_i hij;subst hij
    simp[hjl,List.getElem?_eq_some_iff.1 he |>.2]
   ·rfl
  show((es.map (·.born)).set j e.born).Nodup;rw[this];exact h2
 ·intro x hx;rcases List.mem_or_eq_of_mem_set hx with hx | rfl
  ·exact h3 x hx
  ·exact h3 e (SP he)
 ·have:=Pp h4 k r
  rwa [N3 r hfn e1] at this
 ·rw[T6] at hx ⊢
  split at hx
  ·rename_i hij;subst hij
   cases hx
   exact⟨k,r,by rw[Td rfl,Td (by rw[hl];exact hjl)],rfl,hr⟩
  ·rename_i hij
   rw[SX hij];exact ha i x hx
theorem DH.ins {Z:Fz}{m:List (An×Rp)}{es:List MapEntry}{ck:Nat}{k:An}{r:Rp}{v:Value}(h:DH Z m es ck)(hm:D1 m k=none)(hk:∀p∈m,p.1≠k)(hr:r.p Z v) :
  DH Z (AY m k r) (es++[{ key:=.string (B k),val:=v,born:=ck }]) (ck+1):=by
 obtain⟨h1,h2,h3,f,h4,h5⟩:=h;unfold AY;rw[Ow hm,SR];have hp:=K6 k r m;refine⟨?_,?_,?_,f++[(k,r)],?_,H0.snoc rfl hr h5⟩
 ·rw[(hp.map (·.1)).nodup_iff,Tu,List.nodup_cons];exact⟨λhx=>by obtain⟨p,hp,e⟩:=List.mem_map.1 hx;exact hk p hp e,h1⟩
 ·rw[List.map_append,List.nodup_append];refine⟨h2,by simp,λa ha b hb e=>?_⟩;simp at hb;subst hb;obtain⟨x,hx,e'⟩:=List.mem_map.1 ha;have:=h3 x hx;omega
 ·intro x hx;rcases List.mem_append.1 hx with hx | hx
  ·have:=h3 x hx;omega
  ·simp at hx;subst hx;exact ST _
 ·exact(List.perm_append_comm (l₁:=f) (l₂:=[(k,r)])).trans ((h4.cons (k,r)).trans hp.symm)
theorem St.mapset {Z:Fz}{w:World}(h:St c H Z w){m m':List (An×Rp)}(hi:H[i]? =some (.map b m)){es es':Array MapEntry}{ck ck':Nat}(h1:w.heap[b]? =some (.map es ck))(h2:DH Z m' es'.toList ck') :
  St c (H.set i (.map b m')) Z { w with heap:=w.heap.setIfInBounds b (.map es' ck') }:=by
 obtain⟨q1,q2⟩:=MapKept.heap_set (o':=.map es' ck') h1;exact h.set hi rfl rfl rfl (by simp) (λk _ hk=>q2 k (by simpa[Ent.foot] using hk)) ⟨es',ck',q1,h2⟩ (by simp[Ent.foot])
theorem KW (s:ByteArray):Instr.sameBits 10000 (.string s) (.string s)=true:=by
 show(s ==s)=true;exact(MapKept.bytes_beq s s).2 rfl |> λh=>by simpa using h
theorem Rq {r:Rp}{m:List (An×Rp)}(ht:P.underlying t=some (.map kt et))(hk:P.underlying kt=some .string)(hx:ev l x=some (rv (.map (some b))))(hi:H[i]? =some (.map b m))(hy:ev l y=some (rS k))(hu:ev l u=some r){H':List Ent}(hH:H.set i (.map b (AY m k r))=H')(h:WL P n c ops Q rest l H') :
  WL P n c ops Q ({ dst:=none,op:=.mapUpdate t x y u,type:=ty,pos:=pos,after:=af,guard:=none }::rest) l H:=
 Kb λa w Z ha hw=>by
  obtain⟨es,ck,h1,h2⟩:=hw.ent hi;have hv:=ha.ev hu;subst hH;rcases Lq h2 k with⟨q1,q2,q3⟩ | ⟨j,e,r0,q1,q2,q3,q4,_⟩
  ·refine⟨_,_,?_,hw.mapset hi h1 (es':=es.push { key:=.string (B k),val:=a.eval u,born:=ck }) (by simpa using h2.ins q2 q3 hv),h⟩;simp[execOp,ha.eval hx,ha.eval hy,Instr.mapUpdate,run_underlying ht,MapKept.run_getObj_map h1,MapKept.run_checkKey hk (D6 _),MapKept.run_findKey hk q1,MapKept.run_setObj_map _ h1]
  ·have hje:es[j]? =some e:=by simpa using q2
   refine⟨_,_,?_,hw.mapset hi h1 (es':=es.modify j λe=>{ e with key:=.string (B k),val:=a.eval u }) (ck':=ck) (by
    have:=h2.put q2 q3 q4 hv;have e1:(es.modify j λe=>{ e with key:=.string (B k),val:=a.eval u }).toList=es.toList.set j { e with key:=.string (B k),val:=a.eval u }:=by
     rw[Array.toList_modify];rw[List.modify_eq_set,q2];rfl
    rw[e1];exact this),h⟩
   have hkey:((es[j]?).map (·.key)).getD (.string (B k)) = .string (B k):=by rw[hje];exact q3
   simp[execOp,ha.eval hx,ha.eval hy,Instr.mapUpdate,run_underlying ht,MapKept.run_getObj_map h1,MapKept.run_checkKey hk (D6 _),MapKept.run_findKey hk q1,MapKept.run_setObj_map _ h1,hkey,Instr.keyThatStays,KW]
theorem Je {v:T}(ht:P.underlying t=some (.map kt et))(hk:P.underlying kt=some .string)(hx:ev l x=some (rv (.map (some b))))(hi:H[i]? =some (.map b (AD enc xs)))(hy:ev l y=some (rS k))(hu:ev l u=some (enc v)){H':List Ent}(hH:H.set i (.map b (AD enc (AY xs k v)))=H')(h:WL P n c ops Q rest l H') :
  WL P n c ops Q ({ dst:=none,op:=.mapUpdate t x y u,type:=ty,pos:=pos,after:=af,guard:=none }::rest) l H:=Rq ht hk hx hi hy hu (by rw[← P5];exact hH) h
end
section
variable {P : Program} {n : Nat} {c : Cx} {ops : Array Oper} {Q : Exit → Act → World → Prop} {rest : List Oper} {l : Fr} {H : List Ent} {d : Nat} {ty t kt et rty : TypeId} {pos : String} {af : Array Edge} {x y u : Operand} {K : Act → World → Prop} {cx : Code}
variable {T : Type} {enc : T → Rp} {xs ys : List (An × T)} {i b it : Nat} {m lf : List (List UInt8 × Rp)} {cur : Option (List UInt8 × Rp)} {k : An} {r : Rp}
end
theorem AX.d1 {Z:Fz}{r0:Rp}{us:List Value}(h:AX Z [r0] us):∃y0,us=[y0]∧AX Z [r0] [y0]:=by
 match us,h.length with
 | [y0],_=>exact⟨_,rfl,h⟩
theorem AX.d2 {Z:Fz}{r0 r1:Rp}{us:List Value}(h:AX Z [r0,r1] us):∃y0 y1,us=[y0,y1]∧AX Z [r0,r1] [y0,y1]:=by
 match us,h.length with
 | [y0,y1],_=>exact⟨_,_,rfl,h⟩
theorem AX.d3 {Z:Fz}{r0 r1 r2:Rp}{us:List Value}(h:AX Z [r0,r1,r2] us):∃y0 y1 y2,us=[y0,y1,y2]∧AX Z [r0,r1,r2] [y0,y1,y2]:=by
 match us,h.length with
 | [y0,y1,y2],_=>exact⟨_,_,_,rfl,h⟩
theorem AX.d4 {Z:Fz}{r0 r1 r2 r3:Rp}{us:List Value}(h:AX Z [r0,r1,r2,r3] us):∃y0 y1 y2 y3,us=[y0,y1,y2,y3]∧AX Z [r0,r1,r2,r3] [y0,y1,y2,y3]:=by
 match us,h.length with
 | [y0,y1,y2,y3],_=>exact⟨_,_,_,_,rfl,h⟩
section
variable {P : Program} {n : Nat} {c : Cx} {ops : Array Oper} {Q : Exit → Act → World → Prop} {rest : List Oper} {l : Fr} {H H' : List Ent} {d : Nat} {d' : Option Nat} {ty t e rty : TypeId} {pos : String} {af : Array Edge} {g : Option (Nat × Bool)} {x y u : Operand} {v : Value} {sz m : Nat}
end
abbrev Ux:=Nat→Nat→Value×Nat
def Ag (k:Nat)(u u':Ux):Prop:=∀j,j<k→u j=u' j
structure Sy where
 deps:List Nat
 r:Ux→Rp
 lv:Nat:=0
 fx:Bool:=false
 old:List Nat:=[]
def OG (sp:List Sy)(i:Nat):Sy:=sp.getD i { deps:=[],r:=λ_=>rv undef }
def Su (sp:List Sy)(u:Ux):List Sp:=sp.map λs=>⟨s.deps,s.r u,0⟩
def NI:List Sy→Prop
 | []=>True
 | s::r=>(∀u u',Ag s.lv u u'→s.r u=s.r u')∧NI r
theorem NI.at:∀{sp:List Sy},NI sp→∀{i:Nat} {s:Sy},sp[i]? =some s→∀u u',Ag s.lv u u'→s.r u=s.r u'
 | [],_,i,s,h=>by simp at h
 | x::sp,⟨h1,h2⟩,0,s,h=>by simp at h;subst h;exact h1
 | x::sp,⟨h1,h2⟩,i+1,s,h=>NI.at h2 (by simpa using h)
def cnt (S:Nat→Bool)(is:List Nat):Nat:=(is.filter S).length
section
variable (P : Program) (n : Nat) (c : Cx) (opsA : Array Oper) (Q : Exit → Act → World → Prop)
def SE (l:Fr)(H:List Ent)(o:Oper)(k:Nat)(u:Ux)(r:Ux→Rp)(H1:Ux→List Ent):Prop:=
 ∀a w Z (K:Act→World→Prop),Ch n l a Z→St c H Z w→(∀u' v w' Z',Ag k u u'→Fz.le Z Z'→(r u').p Z' v→St c (H1 u') Z' w'→K (a.put o.dst v) w')→
  Region.wanted o (yielded opsA a.tmps)=true∧o.wp P a w K Q
def SC (ops:List Oper)(sp:List Sy)(l0 lw:Fr)(is:List Nat)(hs:List (Ux→List Ent))(i:Nat)(o:Oper):Prop:=
 match is.findIdx? (λx=>Nat.beq x i) with
 | some k=>∀u,SE P n c opsA Q (HP lw (OG sp i).old (BI ops (Su sp u) (OG sp i).deps l0)) (hs.getD k (λ_=>[]) u) o k u (OG sp i).r (hs.getD (k+1) (λ_=>[]))
 | none=>if (OG sp i).fx=true then ∀u,Dt P n c opsA Q (HP lw (OG sp i).old (BI ops (Su sp u) (OG sp i).deps l0)) (hs.getD (OG sp i).lv (λ_=>[]) u) o ((OG sp i).r u) (hs.getD (OG sp i).lv (λ_=>[]) u)
  else ∀u k,k≤is.length→Dt P n c opsA Q (HP lw (OG sp i).old (BI ops (Su sp u) (OG sp i).deps l0)) (hs.getD k (λ_=>[]) u) o ((OG sp i).r u) (hs.getD k (λ_=>[]) u)
def QV (ops:List Oper)(sp:List Sy)(l0 lw:Fr)(is:List Nat)(hs:List (Ux→List Ent)):Nat→List Oper→Prop
 | i,o::rest=>SC P n c opsA Q ops sp l0 lw is hs i o∧QV ops sp l0 lw is hs (i+1) rest
 | _,[]=>True
end
section
variable {P : Program} {n : Nat} {c : Cx} {opsA : Array Oper} {Q : Exit → Act → World → Prop} {l l0 lw : Fr} {H : List Ent} {hs : List (Ux → List Ent)} {sp : List Sy} {is : List Nat}
theorem QV.at {ops:List Oper}:∀{k:Nat} {rest:List Oper},QV P n c opsA Q ops sp l0 lw is hs k rest→∀(t:Nat) o,rest[t]? =some o→SC P n c opsA Q ops sp l0 lw is hs (k+t) o
 | k,o::rest,⟨h1,h2⟩,t,o',ht=>by
  cases t with
  | zero=>simp at ht;subst ht;exact h1
  | succ t=>
   have:=QV.at h2 t o' (by simpa using ht);rw[show k+(t+1)=k+1+t from by omega];exact this
 | _,[],_,t,o,h=>by simp at h
def QY (p:List Ent→Prop)(u:Ux):List (Ux→List Ent)→Prop
 | []=>True
 | f::r=>p (f u)∧QY p u r
theorem QY.at {p:List Ent→Prop}{u:Ux}:∀{hs:List (Ux→List Ent)},QY p u hs→∀k,k<hs.length→p (hs.getD k (λ_=>[]) u)
 | [],_,k,h=>absurd h (Nat.not_lt_zero _)
 | f::r,⟨h1,h2⟩,0,_=>h1
 | f::r,⟨h1,h2⟩,k+1,h=>QY.at h2 k (by simpa using h)
end
section
variable {P : Program} {n : Nat} {c : Cx} {opsA : Array Oper} {Q : Exit → Act → World → Prop} {l : Fr} {H : List Ent} {d : Nat} {x y : Operand} {ty t e : TypeId} {pos : String} {af : Array Edge} {v : Value} {sz : Nat}
end
end Go.Proofs.YtfbmdidnlhifjaaGreatDoor.Q
namespace Go.Proofs.YtfbmdidnlhifjaaGreatDoor
open Go
end Go.Proofs.YtfbmdidnlhifjaaGreatDoor
namespace Go.Proofs.YtfbmdidnlhifjaaGreatDoor.Q
open Go Go.RowKit
set_option linter.unusedVariables false
section
variable {P : Program} {n : Nat} {c : Cx} {ops : Array Oper} {Q : Exit → Act → World → Prop} {rest : List Oper} {l : Fr} {H : List Ent} {d : Nat} {d' : Option Nat} {t kt et ty : TypeId} {pos : String} {af : Array Edge} {g : Option (Nat × Bool)} {x y u : Operand} {b i : Nat} {T : Type} {enc : T → Rp} {xs : List (Int × T)} {z : T} {zv : Value}
theorem L0.push {Z:Fz}{k:Int}{r:Rp}{v:Value}(hv:r.p Z v)(ck:Nat):∀{m:List (Int×Rp)} {es:List MapEntry},L0 Z m es→L0 Z (m++[(k,r)]) (es++[⟨.int .i64 k,v,ck⟩])
 | [],[],_=>⟨⟨rfl,hv⟩,trivial⟩
 | p::m,e::es,⟨h1,h2⟩=>⟨h1,h2.push hv ck⟩
theorem CG {k:An}{xs:List (An×T)}{v:T}(ht:P.underlying t=some (.map kt et))(hk:P.underlying kt=some .string)(hx:ev l x=some (rv (.map (some b))))(hi:H[i]? =some (.map b (AD enc xs)))(hy:ev l y=some (rS k))(hu:ev l u=some (enc v)){H':List Ent}(hH:H.set i (.map b (AD enc (AY xs k v)))=H')(h:WL P n c ops Q rest l H') :
  WL P n c ops Q ({ dst:=none,op:=.insert t x y u,type:=ty,pos:=pos,after:=af,guard:=none }::rest) l H:=by
 have:=Je (n:=n) (c:=c) (ops:=ops) (Q:=Q) (rest:=rest) (ty:=ty) (pos:=pos) (af:=af) ht hk hx hi hy hu hH h;exact this
end
set_option linter.unusedSimpArgs false
def KM (k:Nat)(i:Int)(off:Nat)(Z:Fz)(v:Value):Prop:=if i<0 then v = .pointer none else ∃b,Z.nm k i.toNat=some b∧v = .pointer (some ⟨b,off,none⟩)
def Es (k:Nat)(i:Int)(off:Nat):Rp:=⟨KM k i off,fun {Z Z' v} h hp=>by
 unfold KM at *
 split
 ·rename_i h0;rwa [Td h0] at hp
 ·rename_i h0;rw[SX h0] at hp;obtain⟨b,h1,h2⟩:=hp;exact⟨b,h.nm k _ b h1,h2⟩,true,λ_ Z v hp=>by
 change KM k i off Z v at hp
 unfold KM at hp
 split at hp
 ·rw[hp];rfl
 ·obtain⟨b,_,h2⟩:=hp;rw[h2];rfl⟩
@[reducible] def eP (k:Nat) (i:Int):List Rp:=[Es k i 0]
theorem Ls (k:Nat)(i:Int):(eP k i).length=1:=rfl
theorem PT (k:Nat)(i:Int):(eP k i).all (·.one)=true:=rfl
@[reducible] def mP (k:Nat) (i:Int):Rp:=Es k i 0
theorem P7 (k:Nat)(Z:Fz):(mP k (-1)).p Z (.pointer none):=rfl
section
variable {P : Program} {n : Nat} {c : Cx} {ops : Array Oper} {Q : Exit → Act → World → Prop} {rest : List Oper} {l : Fr} {H H' : List Ent} {d : Nat} {d' : Option Nat} {x y : Operand} {ty t t' e : TypeId} {pos : String} {af : Array Edge} {g : Option (Nat × Bool)} {v u : Value} {r : Rp} {sz k : Nat} {pv : Value} {α : Type} [Inhabited α] {xs : List α} {enc : α → List Rp}
theorem Ld {Z:Fz}{w:World}{j off:Nat}{i:Int}(hw:St c H Z w)(hi:H[j]? =some (.pool k pv e (xs.map enc)))(hg:Cd i (xs.length:Int)=true)(hp:(Es k i off).p Z v) :
  ∃b us,v = .pointer (some ⟨b,off,none⟩)∧(Eq pv)[i.toNat]? =some b∧w.heap[b]? =some (.cells us.toArray e (0,0))∧AX Z (enc (Ae xs i)) us:=by
 obtain⟨h0,hl,h⟩:=hw.ent hi;have hi0:=(BL hg).1;have hi1:i.toNat<xs.length:=by have:=(BL hg).2;omega
 have hb:i.toNat<(Eq pv).length:=by rw[hl,SV];exact hi1
 obtain⟨h1,us,h2,h3⟩:=h i.toNat (Eq pv)[i.toNat] (enc xs[i.toNat]) (SK hb) (by simp[hi1])
 change KM k i off Z v at hp
 unfold KM at hp;rw[SX (by omega)] at hp;obtain⟨b,h4,h5⟩:=hp;rw[h1] at h4;obtain rfl:=Option.some.inj h4;exact⟨_,us,h5,SK hb,h2,by rw[show Ae xs i=xs[i.toNat] from by simp[Ae,hi1]];exact h3⟩
theorem GD {j off:Nat}{i:Int}{rs:List Rp}(hag:∀w,(isAgg t).run P w = .ok true w)(hsz:∀w,(sizeOf t).run P w = .ok sz w)(hx:ev l x=some (Es k i off))(hi:H[j]? =some (.pool k pv e (xs.map enc)))(hg:Cd i (xs.length:Int)=true)
  (hr:((enc (Ae xs i)).drop off).take sz=rs) (hl:rs.length=sz):Bo P n c l H { dst:=d',op:=.load t x,type:=ty,pos:=pos,after:=af,guard:=g } (Bb rs):=λa w Z ha hw=>by
 obtain⟨b,us,e1,_,h1,h2⟩:=Ld hw hi hg (ha.ev hx);have h3:=(h2.drop off).take sz;rw[hr] at h3;have hlen:=h3.length;have h4:=run_loadCells_list (P:=P) w ⟨b,off,none⟩ ((us.drop off).take sz) (λj u hj=>by
  rw[Hx,cell_of_row w b _ _ e (0,0) h1];rw[Tq] at hj
  split at hj
  ·simpa using hj
  ·cases hj)
 rw[hlen,hl] at h4;exact⟨.agg ((us.drop off).take sz).toArray,⟨_,rfl,h3⟩,by simp[execOp,e1,Instr.loadAt,Instr.sureAddr,loadVar,hag,hsz,h4]⟩
theorem CY {off:Nat}{i:Int}(hx:ev l x=some (Es k i off))(hg:decide (0≤i)=true):Bo P n c l H { dst:=d',op:=.nilCheck x,type:=ty,pos:=pos,after:=af,guard:=g } (Es k i off):=λa w Z ha hw=>by
 have h:=ha.ev hx;have h':=h
 change KM k i off Z _ at h
 unfold KM at h;rw[SX (by have:=of_decide_eq_true hg;omega)] at h;obtain⟨b,_,e1⟩:=h;exact⟨a.eval x,h',by simp[execOp,e1]⟩
theorem Lh {off off' i:Nat}{q:Int}{fs:Array Field}{f:Field}(hu:P.underlying t=some (.struct fs))(hf:fs[i]? =some f)(hsz:∀w,(sizeOf f.type).run P w = .ok (sz+1) w)
  (hx:ev l x=some (Es k q off)) (hg:decide (0≤q)=true) (ho:off+f.offset=off'):Bo P n c l H { dst:=d',op:=.fieldAddr t x i,type:=ty,pos:=pos,after:=af,guard:=g } (Es k q off'):=λa w Z ha hw=>by
 have h:=ha.ev hx
 change KM k q off Z _ at h
 unfold KM at h;have h0:=of_decide_eq_true hg;rw[SX (by omega)] at h;obtain⟨b,h1,e1⟩:=h;subst ho;refine⟨.pointer (some ⟨b,off+f.offset,none⟩),?_,by simp[execOp,e1,Instr.fieldAt,run_underlying hu,hf,Instr.sureAddr,fieldPlace,hsz,Hx]⟩;show KM k q (off+f.offset) Z _;unfold KM;rw[SX (by omega)];exact⟨b,h1,rfl⟩
theorem St.poolset {β:Type}{xs:List β}{enc:β→List Rp}{Z:Fz}{w:World}{j b:Nat}{i:Int}{us us':List Value}{y':β}(hw:St c H Z w)(hi:H[j]? =some (.pool k pv e (xs.map enc)))(hb:(Eq pv)[i.toNat]? =some b)(h1:w.heap[b]? =some (.cells us.toArray e (0,0)))(h2:AX Z (enc y') us') :
  St c (H.set j (.pool k pv e ((xs.set i.toNat y').map enc))) Z (w.setRow b us'.toArray):=by
 obtain⟨h0,hl,h⟩:=hw.ent hi;have hbl:=(List.getElem?_eq_some_iff.1 hb).1;refine hw.setp hi rfl rfl rfl (by simp[World.setRow]) (λq _ hq=>?_) ⟨h0,by simpa using hl,λi' b' cs h3 h4=>?_⟩ (λq hq=>.inl hq) rfl rfl
 ·have:q≠b:=λe=>hq (by subst e;exact SP hb);simp only[World.setRow,Array.getElem?_modify];rw[SX (λe=>this e.symm)]
 ·rw[List.map_set,T6] at h4
  split at h4
  ·rename_i hii
   subst hii
   split at h4
   ·rw[hb] at h3;obtain rfl:=Option.some.inj h3;obtain rfl:=Option.some.inj h4;obtain⟨g1,_⟩:=h i.toNat b _ hb (SK (by omega));exact⟨g1,us',setRow_heap w b _ _ e (0,0) h1,h2⟩
   ·cases h4
  ·rename_i hii
   obtain⟨g1,vs,g2,g3⟩:=h i' b' cs h3 h4;have hne:b'≠b:=λe=>hii (by
    subst e;have e1:=(List.getElem?_eq_some_iff.1 h3)
    have e2:=(List.getElem?_eq_some_iff.1 hb)
    exact(List.getElem_inj h0).1 (e2.2.trans e1.2.symm))
   refine⟨g1,vs,?_,g3⟩;simp only[World.setRow,Array.getElem?_modify];rw[SX (λe=>hne e.symm)];exact g2
theorem NT {j off:Nat}{i:Int}{y':α}(hag:∀w,(sizeOf t).run P w = .ok 1 w)(hx:ev l x=some (Es k i off))(hy:ev l y=some r)(hv:Nh H r)(hi:H[j]? =some (.pool k pv e (xs.map enc)))(hg:Cd i (xs.length:Int)=true)
  (hy':(enc (Ae xs i)).set off r=enc y') (hlt:Nat.blt off (enc (Ae xs i)).length=true) (hH:H.set j (.pool k pv e ((xs.set i.toNat y').map enc))=H') (h:WL P n c ops Q rest l H') :
  WL P n c ops Q ({ dst:=none,op:=.store t x y,type:=ty,pos:=pos,after:=af,guard:=none }::rest) l H:=
 Kb λa w Z ha hw=>by
  obtain⟨b,us,e1,hb,h1,h2⟩:=Ld hw hi hg (ha.ev hx);have hr:=ha.ev hy;have hone:=hv c Z w _ hw hr;have hlen:=h2.length;have hlt':off<us.length:=by rw[hlen];simpa using hlt
  have h4:=run_storeCells_at P b off e [a.eval y] 0 us.toArray w h1 (by simp;omega) (by simpa using hone);have hcv:=Bz hone;have h3:us.take off++[a.eval y]++us.drop (off+1)=us.set off (a.eval y):=by
   simp[List.set_eq_take_append_cons_drop,hlt']
  simp only[Nat.add_zero,SO,Tp,Tl] at h4;rw[h3] at h4;refine⟨w.setRow b (us.set off (a.eval y)).toArray,H',?_,?_,h⟩
  ·simp[execOp,e1,Instr.storeAt,Instr.sureAddr,storeVar,hag,hcv,h4]
  ·subst hH;exact hw.poolset hi hb h1 (by rw[← hy'];exact h2.set off hr)
theorem MB {j off:Nat}{i:Int}{y':α}{rs:List Rp}(hsz:∀w,(sizeOf t).run P w = .ok sz w)(hx:ev l x=some (Es k i off))(hy:ev l y=some (Bb rs))(hl:rs.length=sz)(hv:AZ H rs)(hi:H[j]? =some (.pool k pv e (xs.map enc)))(hg:Cd i (xs.length:Int)=true)
  (hlt:Nat.ble (off+sz) (enc (Ae xs i)).length=true) (hy':(enc (Ae xs i)).take off++rs++(enc (Ae xs i)).drop (off+sz)=enc y') (hH:H.set j (.pool k pv e ((xs.set i.toNat y').map enc))=H') (h:WL P n c ops Q rest l H') :
  WL P n c ops Q ({ dst:=none,op:=.store t x y,type:=ty,pos:=pos,after:=af,guard:=none }::rest) l H:=
 Kb λa w Z ha hw=>by
  obtain⟨b,us,e1,hb,h1,h2⟩:=Ld hw hi hg (ha.ev hx);obtain⟨vs,e2,h4⟩:=ha.ev hy;have hlen:=h2.length;have hvl:=h4.length;have hlt':off+sz≤us.length:=by rw[hlen];simpa using hlt
  have h5:=run_storeCells_at P b off e vs 0 us.toArray w h1 (by simp;omega) (λv hv'=>hv.at hw h4 v hv');simp only[Nat.add_zero] at h5;refine⟨w.setRow b (us.take off++vs++us.drop (off+sz)).toArray,H',?_,?_,h⟩
  ·have h6:vs.length=sz:=by omega
   rw[h6] at h5;simp only[Tg] at h5 ⊢;simp[execOp,e1,e2,Instr.storeAt,Instr.sureAddr,storeVar,hsz,Value.cells,h6,h5]
  ·subst hH;exact hw.poolset hi hb h1 (by rw[← hy'];exact((h2.take off).append h4).append (h2.drop (off+sz)))
theorem St.adopt0 {Z:Fz}{w:World}{b:Nat}{cs:List Rp}{ys:List (List Rp)}{Hr:List Ent}{pv':Value}(h:St c (.blk b cs e::.pool k pv e ys::Hr) Z w)(hpv:Eq pv'=Eq pv++[b]):∃Z',Fz.le Z Z'∧Z'.nm k ys.length=some b∧St c (.pool k pv' e (ys++[cs])::Hr) Z' w:=by
 obtain⟨us,hb1,hb2⟩:=h.has (.blk b cs e) (by simp);obtain⟨h0,hl,hp⟩:=h.has (.pool k pv e ys) (by simp);have hd:=List.pairwise_cons.1 h.dis;have hd2:=List.pairwise_cons.1 hd.2;have gd:=List.pairwise_cons.1 h.gst.dis;have gd2:=List.pairwise_cons.1 gd.2;have hcap:=h.gst.cap (.pool k pv e ys) (by simp) k (by simp[Ent.gk]);have hksz:=h.gst.sz (.pool k pv e ys) (by simp) k (by simp[Ent.gk]);have hkown:=h.gst.own (.pool k pv e ys) (by simp) k (by simp[Ent.gk])
 let Z':Fz:=⟨Z.f,λq i=>if q=k∧i=ys.length then some b else Z.nm q i⟩
 have hnew:Z'.nm k ys.length=some b:=by simp[Z']
 have hle:Fz.le Z Z':=⟨λ_ _ h=>h,λq i b' hq=>by
  by_cases hqi:q=k∧i=ys.length
  ·obtain⟨rfl,rfl⟩:=hqi;rw[hcap _ (by simp[Ent.gn,hl])] at hq;cases hq
  ·simpa[Z',hqi] using hq⟩
 have hbn:b ∉ Eq pv:=λhbs=>hd.1 (.pool k pv e ys) (by simp) b (by simp[Ent.foot]) hbs;refine⟨Z',hle,hnew,h.os,h.tape,h.output,h.size,h.old,λen he=>?_,λen he q hq=>?_,?_,⟨λb o hb=>h.frz.f b o hb,λq i b' hq=>?_⟩,h.le.trans hle,λb o hb=>h.new b o hb,λen he q hq=>?_,h.emono hle h.env,h.emono,⟨λen he q hq=>?_,λen he q hq=>?_,?_,λq i b' hq=>?_,λen he q hq i hi=>?_⟩⟩
 ·rcases List.mem_cons.1 he with rfl | he
  ·refine⟨by rw[hpv];exact List.nodup_append.2 ⟨h0,by simp,λx hx y hy e=>by simp at hy;subst hy;exact hbn (e▸hx)⟩,by rw[hpv];simp[hl],λi b' cs' h1 h2=>?_⟩
   ·rw[hpv] at h1
    by_cases hi:i<(Eq pv).length
    ·rw[Tj hi] at h1;rw[Tj (by omega)] at h2;obtain⟨g1,vs,g2,g3⟩:=hp i b' cs' h1 h2;exact⟨hle.nm k i b' g1,vs,g2,g3.mono hle⟩
    ·have hi2:i=(Eq pv).length:=by have:=(List.getElem?_eq_some_iff.1 h1).1;simp at this;omega
     subst hi2;simp at h1;subst h1;rw[hl] at h2;simp at h2;subst h2;exact⟨by rw[hl];exact hnew,us,hb1,hb2.mono hle⟩
  ·exact Ent.keep (h.has en (by simp[he])) hle λ_ _=>rfl
 ·rcases List.mem_cons.1 he with rfl | he
  ·rcases List.mem_append.1 (hpv▸(show q∈Eq pv' from hq)) with hq | hq
   ·exact h.own (.pool k pv e ys) (by simp) q hq
   ·simp at hq;subst hq;exact h.own (.blk q cs e) (by simp) q (by simp[Ent.foot])
  ·exact h.own en (by simp[he]) q hq
 ·refine List.pairwise_cons.2 ⟨λen he q hq hq'=>?_,hd2.2⟩;rcases List.mem_append.1 (hpv▸(show q∈Eq pv' from hq)) with hq | hq
  ·exact hd2.1 en he q hq hq'
  ·simp at hq;subst hq;exact hd.1 en (by simp[he]) q (by simp[Ent.foot]) hq'
 ·by_cases hqi:q=k∧i=ys.length
  ·rw[hqi.1];exact hksz
  ·exact h.frz.nm q i b' (by simpa[Z',hqi] using hq)
 ·rcases List.mem_cons.1 he with rfl | he
  ·rcases List.mem_append.1 (hpv▸(show q∈Eq pv' from hq)) with hq | hq
   ·exact h.zdis (.pool k pv e ys) (by simp) q hq
   ·simp at hq;subst hq;exact h.zdis (.blk q cs e) (by simp) q (by simp[Ent.foot])
  ·exact h.zdis en (by simp[he]) q hq
 ·rcases List.mem_cons.1 he with rfl | he
  ·simp[Ent.gk] at hq;subst hq;exact hkown
  ·exact h.gst.own en (by simp[he]) q hq
 ·rcases List.mem_cons.1 he with rfl | he
  ·simp[Ent.gk] at hq;subst hq;exact hksz
  ·exact h.gst.sz en (by simp[he]) q hq
 ·exact List.pairwise_cons.2 ⟨λen he q hq hq'=>gd2.1 en he q hq hq',gd2.2⟩
 ·by_cases hqi:q=k∧i=ys.length
  ·rw[hqi.1];exact .inr hkown
  ·exact h.gst.new q i b' (by simpa[Z',hqi] using hq)
 ·rcases List.mem_cons.1 he with rfl | he
  ·simp[Ent.gk] at hq;subst hq;simp[Ent.gn,hpv] at hi;have : ¬ i=ys.length:=by omega
   simp only[Z',this,and_false,if_false];exact hcap i (by simp[Ent.gn];omega)
  ·have hqk:q≠k:=λe1=>gd2.1 en he k (by simp[Ent.gk]) (e1▸hq);simp only[Z',hqk,false_and,if_false];exact h.gst.cap en (by simp[he]) q hq i hi
theorem St.adopt {Z:Fz}{w:World}{b:Nat}{cs:List Rp}{ys:List (List Rp)}{Hr:List Ent}(h:St c (.blk b cs e::.pool k pv e ys::Hr) Z w):∃Z',Fz.le Z Z'∧Z'.nm k ys.length=some b∧St c (.pool k (Ry (Eq pv++[b])) e (ys++[cs])::Hr) Z' w:=St.adopt0 h (QO _)
theorem Ch.re {a:Act}{Z:Fz}{d:Nat}{q r:Rp}(h:Ch n l a Z)(hl:look l d=some q)(hq:∀v,q.p Z v→r.p Z v):Ch n ((d,r)::l) a Z:=⟨h.size,h.defers,λi u hi=>by
 rw[BB] at hi
 split at hi
 ·rename_i e;subst e;simp at hi;subst hi
  obtain⟨v,h1,h2⟩:=h.tm d q hl;exact⟨v,h1,hq v h2⟩
 ·exact h.tm i u hi⟩
theorem KM.of {Z:Fz}{b N:Nat}(h:Z.nm k N=some b):∀v,(rv (.pointer (some ⟨b,0,none⟩))).p Z v→(Es k (N:Int) 0).p Z v:=λv hv=>by
 show KM k N 0 Z v;unfold KM;rw[SX (by omega)];exact⟨b,by simpa using h,hv⟩
def Ik (l:Fr)(b:Nat):List Nat→Prop
 | []=>True
 | d::ds=>look l d=some (rv (.pointer (some ⟨b,0,none⟩)))∧Ik l b ds
def Rg (k N:Nat):List Nat→Fr→Fr
 | [],l=>l
 | d::ds,l=>(d,Es k (N:Int) 0)::Rg k N ds l
theorem IH {Z:Fz}{a:Act}{b N:Nat}{l:Fr}(ha:Ch n l a Z)(hn:Z.nm k N=some b):∀{ds:List Nat},Ik l b ds→Ch n (Rg k N ds l) a Z
 | [],_=>ha
 | d::ds,⟨h1,h2⟩=>by
  have h3:=IH ha hn h2;refine⟨h3.size,h3.defers,λi u hi=>?_⟩;rw[Rg,BB] at hi
  split at hi
  ·rename_i e;subst e;simp at hi;subst hi
   obtain⟨v,h4,h5⟩:=ha.tm d _ h1;exact⟨v,h4,KM.of hn v h5⟩
  ·exact h3.tm i u hi
theorem St.adoptE {β:Type}{xs:List β}{enc:β→List Rp}{Z:Fz}{w:World}{b:Nat}{y:β}{Hr:List Ent}{cs:List Rp}(hw:St c H Z w)(hp:H.Perm (.blk b cs e::.pool k pv e (xs.map enc)::Hr))(hcs:cs=enc y) :
  ∃Z' pv',Fz.le Z Z'∧Z'.nm k xs.length=some b∧St c (.pool k pv' e ((xs++[y]).map enc)::Hr) Z' w:=by
 obtain⟨Z',h1,h2,h3⟩:=(hw.perm hp).adopt;subst hcs;rw[SV] at h2;exact⟨Z',_,h1,h2,by rw[List.map_append];exact h3⟩
theorem WL.adopt {β:Type}{xs:List β}{enc:β→List Rp}{b:Nat}{y:β}{Hr:List Ent}{cs:List Rp}(hp:H.Perm (.blk b cs e::.pool k pv e (xs.map enc)::Hr))(ds:List Nat)(hd:Ik l b ds)(hcs:cs=enc y)
  (h:∀pv',WL P n c ops Q rest (Rg k xs.length ds l) (.pool k pv' e ((xs++[y]).map enc)::Hr)):WL P n c ops Q rest l H:=λa w Z ha hw=>by
 obtain⟨Z',pv',h1,h2,h3⟩:=St.adoptE hw hp hcs;exact h pv' a w Z' (IH (ha.mono h1) h2 hd) h3
theorem WC.adopt {β:Type}{xs:List β}{enc:β→List Rp}{b:Nat}{y:β}{Hr:List Ent}{cs:List Rp}{xx:Code}(hp:H.Perm (.blk b cs e::.pool k pv e (xs.map enc)::Hr))(ds:List Nat)(hd:Ik l b ds)(hcs:cs=enc y)
  (h:∀pv',WC P n c xx Q (Rg k xs.length ds l) (.pool k pv' e ((xs++[y]).map enc)::Hr)):WC P n c xx Q l H:=λa w Z ha hw=>by
 obtain⟨Z',pv',h1,h2,h3⟩:=St.adoptE hw hp hcs;exact h pv' a w Z' (IH (ha.mono h1) h2 hd) h3
theorem WK.adopt {β:Type}{xs:List β}{enc:β→List Rp}{b:Nat}{y:β}{Hr:List Ent}{cs:List Rp}{K:Act→World→Prop}(hp:H.Perm (.blk b cs e::.pool k pv e (xs.map enc)::Hr))(ds:List Nat)(hd:Ik l b ds)(hcs:cs=enc y)
  (h:∀pv',WK n c K (Rg k xs.length ds l) (.pool k pv' e ((xs++[y]).map enc)::Hr)):WK n c K l H:=λa w Z ha hw=>by
 obtain⟨Z',pv',h1,h2,h3⟩:=St.adoptE hw hp hcs;exact h pv' a w Z' (IH (ha.mono h1) h2 hd) h3
theorem G3:Eq (.tuple #[])=[]:=rfl
theorem Jz (hn:Nat.blt d n=true)(h:∀b,WL P n c ops Q rest ((d,rv (.map (some b)))::l) (.pool b (.tuple #[]) e []::.map b []::H)) :
  WL P n c ops Q ({ dst:=some d,op:=.makeMap t none,type:=ty,pos:=pos,after:=af,guard:=none }::rest) l H:=
 Ip (λa w Z ha hw=>by
  have h1:=hw.alloc (.map #[] 0) (e:=.map w.heap.size []) ⟨#[],0,by simpa using heap_alloc_new w _,by simp,by simp,by simp,[],SN _,trivial⟩ rfl;refine⟨_,w.alloc (.map #[] 0),_,_,Z,by simp[execOp,run_makeMap],Fz.le.refl _,rfl,?_,h w.heap.size⟩;have hz:∀i,Z.nm w.heap.size i=none:=λi=>by
   cases hq:Z.nm w.heap.size i with
   | none=>rfl
   | some b=>have:=hw.frz.nm _ _ _ hq;omega
  have hold:∀en∈(Ent.map w.heap.size []::H),∀q∈en.gk,q<w.heap.size:=λen he q hq=>by
   rcases List.mem_cons.1 he with rfl | he
   ·simp[Ent.gk] at hq
   ·exact hw.gst.sz en he q hq
  refine { h1 with has:=λen he=>?_,own:=λen he q hq=>?_,dis:=List.pairwise_cons.2 ⟨λen he q hq=>by simp[Ent.foot,G3] at hq,h1.dis⟩,zdis:=λen he q hq=>?_,gst:=⟨λen he q hq=>?_,λen he q hq=>?_,List.pairwise_cons.2 ⟨λen he q hq hq'=>?_,h1.gst.dis⟩,h1.gst.new,λen he q hq i hi=>?_⟩ }
  ·rcases List.mem_cons.1 he with rfl | he
   ·exact⟨by simp[G3],by simp[G3],by simp⟩
   ·exact h1.has en he
  ·rcases List.mem_cons.1 he with rfl | he
   ·simp[Ent.foot,G3] at hq
   ·exact h1.own en he q hq
  ·rcases List.mem_cons.1 he with rfl | he
   ·simp[Ent.foot,G3] at hq
   ·exact h1.zdis en he q hq
  ·rcases List.mem_cons.1 he with rfl | he
   ·simp[Ent.gk] at hq;subst hq;exact .inl hw.size
   ·exact h1.gst.own en he q hq
  ·rcases List.mem_cons.1 he with rfl | he
   ·simp[Ent.gk] at hq;subst hq;simp
   ·exact h1.gst.sz en he q hq
  ·simp[Ent.gk] at hq;subst hq;have:=hold en he _ hq';omega
  ·rcases List.mem_cons.1 he with rfl | he
   ·simp[Ent.gk] at hq;subst hq;exact hz i
   ·exact h1.gst.cap en he q hq i hi) hn
end
def S5 (m:List (List UInt8×Rp))(Z:Fz)(v:Value):Prop:=∃b es ck,v = .map (some b)∧Z b=some (.map es ck)∧DH Z m es.toList ck
def Oa (m:List (List UInt8×Rp)):Rp:=⟨S5 m,λh ⟨b,es,ck,h1,h2,h3⟩=>⟨b,es,ck,h1,h.f b _ h2,h3.mono h⟩,true,λ_ Z v ⟨b,es,ck,h1,_⟩=>by rw[h1];rfl⟩
@[reducible] def mF (f:Nat):Rp:=rv (.func (.func f) #[] #[])
section
variable {P : Program} {n : Nat} {c : Cx} {ops opsA : Array Oper} {Q : Exit → Act → World → Prop} {rest : List Oper} {l : Fr} {H : List Ent} {d : Nat} {d' : Option Nat} {ty t kt et rty : TypeId} {pos : String} {af : Array Edge} {g : Option (Nat × Bool)} {x y u : Operand} {K : Act → World → Prop} {cx : Code} {r : Rp}
variable {T : Type} {enc : T → Rp} {xs : List (An × T)} {z : T} {k : An} {zv : Value} {i b : Nat}
theorem St.freezeM {Z:Fz}{w:World}(h:St c H Z w){m:List (List UInt8×Rp)}(hi:H[i]? =some (.map b m)):∃Z',Fz.le Z Z'∧St c (.fact (.map (some b)) (Oa m)::H.eraseIdx i) Z' w:=by
 obtain⟨es,ck,hg,hm⟩:=h.ent hi;have hmem:=SP hi;have hgz:Z b=none:=h.zdis _ hmem b (by simp[Ent.foot])
 let Z':Fz:=⟨λq=>if q=b then some (.map es ck) else Z q,Z.nm⟩
 have hle:Fz.le Z Z':=⟨λq o hb=>by
  have:q≠b:=λe=>by subst e;rw[hgz] at hb;cases hb
  simpa[Z',this] using hb,λ_ _ _ h=>h⟩
 have hfr:=h.front hi;have hd:=List.pairwise_cons.1 hfr.dis;have hs:=hfr.sub (List.sublist_cons_self _ _);have hs':St c (H.eraseIdx i) Z' w:=by
  refine { hs with has:=λen he=>Ent.keep (hs.has en he) hle λ_ _=>rfl,frz:=⟨λq o hb=>?_,h.frz.nm⟩,gst:=hs.gst.names rfl,le:=hs.le.trans hle,new:=λq o hb=>?_,zdis:=λen he k hk=>?_,env:=hs.emono hle hs.env }
  ·by_cases hbg:q=b
   ·subst hbg;simp[Z'] at hb;rw[← hb];exact hg
   ·simp[Z',hbg] at hb;exact h.frz q o hb
  ·by_cases hbg:q=b
   ·subst hbg;exact .inr (h.own _ hmem q (by simp[Ent.foot]))
   ·simp[Z',hbg] at hb;exact h.new q o hb
  ·have hkg:k≠b:=λe=>hd.1 en he b (by simp[Ent.foot]) (e▸hk);simp only[Z',hkg,if_false];exact hs.zdis en he k hk
 exact⟨Z',hle,hs'.add rfl rfl rfl (Tb _) (λ_ _=>rfl) (e':=.fact (.map (some b)) (Oa m)) ⟨b,es,ck,rfl,by simp[Z'],hm.mono hle⟩ (by simp[Ent.foot])⟩
theorem WK.freezeM {m:List (List UInt8×Rp)}(hi:H[i]? =some (.map b m))(h:WK n c K l (.fact (.map (some b)) (Oa m)::H.eraseIdx i)):WK n c K l H:=λa w Z ha hw=>by
 obtain⟨Z',hz,hs⟩:=St.freezeM hw hi;exact h a w Z' (ha.mono hz) hs
theorem WC.freezeM {m:List (List UInt8×Rp)}(hi:H[i]? =some (.map b m))(h:WC P n c cx Q l (.fact (.map (some b)) (Oa m)::H.eraseIdx i)):WC P n c cx Q l H:=λa w Z ha hw=>by
 obtain⟨Z',hz,hs⟩:=St.freezeM hw hi;exact h a w Z' (ha.mono hz) hs
theorem WL.freezeM {m:List (List UInt8×Rp)}(hi:H[i]? =some (.map b m))(h:WL P n c ops Q rest l (.fact (.map (some b)) (Oa m)::H.eraseIdx i)):WL P n c ops Q rest l H:=λa w Z ha hw=>by
 obtain⟨Z',hz,hs⟩:=St.freezeM hw hi;exact h a w Z' (ha.mono hz) hs
theorem S5.heap {Z:Fz}{w:World}(hf:NM Z w){m:List (List UInt8×Rp)}{v:Value}(h:(Oa m).p Z v):∃b,v = .map (some b)∧(Ent.map b m).holds Z w:=by
 obtain⟨b,es,ck,h1,h2,h3⟩:=h;exact⟨b,h1,es,ck,hf b _ h2,h3⟩
theorem EV {q:T}(ht:P.underlying t=some (.map kt et))(hk:P.underlying kt=some .string)(hx:ev l x=some (Oa (AD enc xs)))(hy:ev l y=some (rS k))(hq:D1 xs k=some q) :
  Bo P n c l H { dst:=d',op:=.lookup t x y false,type:=ty,pos:=pos,after:=af,guard:=g } (enc q):=λa w Z ha hw=>by
 obtain⟨b,e1,es,ck,h1,h2⟩:=S5.heap hw.frz (ha.ev hx);have hq':D1 (AD enc xs) k=some (enc q):=by rw[Gy,hq];rfl
 rcases Lq h2 k with⟨q1,q2,_⟩ | ⟨j,e,r,q1,_,_,q2,q3⟩
 ·rw[hq'] at q2;cases q2
 ·rw[hq'] at q2;obtain rfl:=Option.some.inj q2;exact⟨e.val,q3,by simp[execOp,e1,ha.eval hy,Instr.lookup,run_underlying ht,MapKept.run_getObj_map h1,MapKept.run_checkKey hk (D6 _),MapKept.run_findKey hk q1]⟩
theorem Lf {f:FuncId}{args:List Operand}{ats:Array TypeId}{rs:List Rp}(hcall:∀(as1:Array Value) (w:World),(callFunc f as1).run P w = .ok (.enter f as1) w)(hc:Km P c.E f rs r)(hx:ev l x=some (mF f))(hv:KD l args=some rs) :
  Dt P n c opsA Q l H { dst:=some d,op:=.call { callee:=.value x,args:=args.toArray,argTypes:=ats },type:=ty,pos:=pos,after:=af,guard:=none } r H:=λa w Z K ha hw hK=>
 ⟨λ_=>by
  unfold Oper.wp;rw[IP (caps:=[]) rfl (ha.eval hx) hcall w];refine(hc w Z _ (by have:=(Gb ha hv);simpa using this) (St.enter (Hin:=[]) (Hr:=H) hw)).mono ?_;rintro e w' ⟨r2,v,Ho,Z',rfl,⟨rfl,rfl⟩,hr2,hs⟩;exact hK v w' Z' hs.le hr2 (by simpa using hw.call0 hs),λh=>by simp[Region.wanted] at h⟩
end
end Go.Proofs.YtfbmdidnlhifjaaGreatDoor.Q
