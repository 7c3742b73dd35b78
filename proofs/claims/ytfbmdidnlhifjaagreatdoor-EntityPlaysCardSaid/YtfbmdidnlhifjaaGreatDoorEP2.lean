/-
  Texts of the proof, put together: PVa, WVa, PVb, WVb, PVc, WVc, PVd, WVd, PVe, WVe, PVf, WVf, PH, PFr, QH, QY, QU, QW, QT, QJ, QX, WFr, PM, PNa, QN, QM, QI, QV, QL, PI, QF.
-/
import Derived.Test.YtfbmdidnlhifjaaGreatDoorEP1
import Derived.Lib.Bytealg
import Derived.Lib.SmallJoins
import Derived.Laws.StructEq
import GoSem.Op.IntBits
import GoSem.Op.Shift
import Derived.Laws.Cover3
import Derived.ScopeJumps
import Derived.Laws.CopyRow
import Derived.Laws.IdiomCopy
import Derived.Laws.OwnMore
import Derived.MapKept
import Derived.Maps.RangeRun
namespace Go.Proofs.YtfbmdidnlhifjaaGreatDoor
open Go
set_option linter.unusedVariables false
structure Ac where
 fKind:Int
 fInt:Int
 fStr:Aq
 fN:Int
 deriving DecidableEq,Inhabited
def IM (s:Aq)(ha:Int):Option (Stp (Int) (Out (Bool) (Unit))):=
 Bq (decide (ha<(s.length:Int))) (Br (Ct ha (s.length:Int))<|Bq (((decide ((K7 s ha)<32))||(decide (126<(K7 s ha))))) (some (.out (.ret false))) (Br (Cj .i64 (ha+1))<|some (.next (ha+1)))) (some (.out (.go ())))
def IL :Option (Bool):=
 some true
def Iy (F:Nat)(s:Aq):Option (Bool):=
 Bt (BW (λσ=>IM s σ) F 0) (Cf λν=>IL )
def B7 (ok:Bool)(i:Int):Option (Int):=
 Bq (ok) (Br (Cj .i64 (i+1))<|some (i+1)) (some (-1))
def MO (F:Nat)(c:Ac):Option (Bool):=
 Br (imp (decide (c.fKind=4)) (imp (decide (c.fInt=0)) (imp (decide (c.fN=0)) ((Iy F c.fStr).isSome))))<|some ((decide (c.fKind=4))&&((decide (c.fInt=0))&&((decide (c.fN=0))&&(ov (Iy F c.fStr)))))
def NU (F:Nat)(ha:(List Ac)→Int→Int→Option (Int))(hb:(List Ac)→Int→Int→Option (Int))(v:(List Ac))(i:Int):Option (Int):=
 Bq (((decide (i<0))||(decide ((v.length:Int)≤i)))) (some (-1)) (Br (Ct i (v.length:Int))<|Bq (decide (((Af v i).fKind)=1)) (Br (imp (decide (((Af v i).fInt)=0)) (imp (decide (((Af v i).fStr)=([]:Aq))) ((B7 (decide (((Af v i).fN)=0)) i).isSome)))<|Br (imp (decide (((Af v i).fInt)=0)) (imp (!(decide (((Af v i).fStr)=([]:Aq)))) ((B7 false i).isSome)))<|Br (imp (!(decide (((Af v i).fInt)=0))) ((B7 false i).isSome))<|some (bif decide (((Af v i).fInt)=0) then(bif decide (((Af v i).fStr)=([]:Aq)) then(ov (B7 (decide (((Af v i).fN)=0)) i)) else(ov (B7 false i))) else(ov (B7 false i)))) (Bq (decide (((Af v i).fKind)=2)) (Br (imp (decide (((Af v i).fInt)=0)) (imp (decide (((Af v i).fStr)=([]:Aq))) ((B7 (decide (((Af v i).fN)=0)) i).isSome)))<|Br (imp (decide (((Af v i).fInt)=0)) (imp (!(decide (((Af v i).fStr)=([]:Aq)))) ((B7 false i).isSome)))<|Br (imp (!(decide (((Af v i).fInt)=0))) (imp (decide (((Af v i).fInt)=1)) (imp (decide (((Af v i).fStr)=([]:Aq))) ((B7 (decide (((Af v i).fN)=0)) i).isSome))))<|Br (imp (!(decide (((Af v i).fInt)=0))) (imp (decide (((Af v i).fInt)=1)) (imp (!(decide (((Af v i).fStr)=([]:Aq)))) ((B7 false i).isSome))))<|Br (imp (!(decide (((Af v i).fInt)=0))) (imp (!(decide (((Af v i).fInt)=1))) ((B7 false i).isSome)))<|some (bif decide (((Af v i).fInt)=0) then(bif decide (((Af v i).fStr)=([]:Aq)) then(ov (B7 (decide (((Af v i).fN)=0)) i)) else(ov (B7 false i))) else(bif decide (((Af v i).fInt)=1) then(bif decide (((Af v i).fStr)=([]:Aq)) then(ov (B7 (decide (((Af v i).fN)=0)) i)) else(ov (B7 false i))) else(ov (B7 false i))))) (Bq (decide (((Af v i).fKind)=3)) (Br (imp (decide (((Af v i).fStr)=([]:Aq))) ((B7 (decide (((Af v i).fN)=0)) i).isSome))<|Br (imp (!(decide (((Af v i).fStr)=([]:Aq)))) ((B7 false i).isSome))<|some (bif decide (((Af v i).fStr)=([]:Aq)) then(ov (B7 (decide (((Af v i).fN)=0)) i)) else(ov (B7 false i)))) (Bq (decide (((Af v i).fKind)=4)) (Bt (MO F (Af v i)) λhd=>Bt (B7 hd i) λhe=>some he) (Bq (((decide (((Af v i).fKind)=5))&&((decide (((Af v i).fInt)=0))&&((decide (((Af v i).fStr)=([]:Aq)))&&(decide (0≤((Af v i).fN))))))) (Br (Cj .i64 (i+1))<|Bt (ha v (i+1) ((Af v i).fN)) λhf=>some hf) (Bq (((decide (((Af v i).fKind)=6))&&((decide (((Af v i).fInt)=0))&&((decide (((Af v i).fStr)=([]:Aq)))&&(decide (0≤((Af v i).fN))))))) (Br (Cj .i64 (i+1))<|Bt (hb v (i+1) ((Af v i).fN)) λhg=>some hg) (some (-1))))))))
def CI (v:(List Ac))(n:Int)(he:(List Ac)→Int→Option (Int))(hb:Int)(ha:Int):Option (Stp (Int×Int) (Out (Int) (Int))):=
 Bq (decide (ha<n)) (Bt (he v hb) λhd=>Bq (decide (hd<0)) (some (.out (.ret (-1)))) (Br (Cj .i64 (ha+1))<|some (.next (hd,ha+1)))) (some (.out (.go hb)))
def Ea (ha:Int):Option (Int):=
 some ha
def HN (F:Nat)(ha:(List Ac)→Int→Option (Int))(v:(List Ac))(i:Int)(n:Int):Option (Int):=
 Bt (BW (λσ=>CI v n ha σ.1 σ.2) F (i,0)) (Cf λν=>Ea ν)
def Do (F:Nat)(v:(List Ac))(n:Int)(hf:(List Ac)→Int→Option (Int))(ha:Int)(hd:Aq)(hb:Int):Option (Stp (Int×Aq×Int) (Out (Int) (Int))):=
 Bq (decide (hb<n)) (Br (imp (!(decide ((v.length:Int)≤ha))) (Ct ha (v.length:Int)))<|Br (imp (!(decide ((v.length:Int)≤ha))) ((MO F (Af v ha)).isSome))<|Bq (((decide ((v.length:Int)≤ha))||((!(ov (MO F (Af v ha))))||((decide (0<hb))&&(Ce ((Af v ha).fStr) hd||decide (((Af v ha).fStr)=hd)))))) (some (.out (.ret (-1)))) (Br (Ct ha (v.length:Int))<|Br (Cj .i64 (ha+1))<|Bt (hf v (ha+1)) λhe=>Bq (decide (he<0)) (some (.out (.ret (-1)))) (Br (Cj .i64 (hb+1))<|some (.next (he,(Af v ha).fStr,hb+1))))) (some (.out (.go ha)))
def GB (ha:Int):Option (Int):=
 some ha
def LC (F:Nat)(ha:(List Ac)→Int→Option (Int))(v:(List Ac))(i:Int)(n:Int):Option (Int):=
 Bt (BW (λσ=>Do F v n ha σ.1 σ.2.1 σ.2.2) F (i,([]:Aq),0)) (Cf λν=>GB ν)
mutual
def Ds:Nat→(List Ac)→Int→Option (Int)
 | 0,_,_=>none
 | nn+1,v,i=>NU nn (GC nn) (KI nn) v i
def GC:Nat→(List Ac)→Int→Int→Option (Int)
 | 0,_,_,_=>none
 | nn+1,v,i,n=>HN nn (Ds nn) v i n
def KI:Nat→(List Ac)→Int→Int→Option (Int)
 | 0,_,_,_=>none
 | nn+1,v,i,n=>LC nn (Ds nn) v i n
end
def Kg (F:Nat)(v:(List Ac)):Option (Bool):=
 Br (imp (decide (0<(v.length:Int))) ((Ds F v 0).isSome))<|some ((decide (0<(v.length:Int)))&&(decide ((ov (Ds F v 0))=(v.length:Int))))
def CD (F:Nat)(v:(List Ac))(i:Int)(he:(List Ac)→Int→Option (Int))(hd:Int)(hb:Int)(ha:Int):Option (Stp (Int×Int×Int) (Out (Int) (Int))):=
 Bq (decide (ha<((Af v i).fN))) (Bq (decide (((Af v i).fKind)=6)) (Br (Cj .i64 (hb+1))<|Bt (he v (hb+1)) λhf=>Bq (decide (hd<hf)) (Bt (Ds F v (hb+1)) λhh=>Br (Cj .i64 (ha+1))<|some (.next (hf,hh,ha+1))) (Bt (Ds F v (hb+1)) λhi=>Br (Cj .i64 (ha+1))<|some (.next (hd,hi,ha+1)))) (Bt (he v hb) λhg=>Bq (decide (hd<hg)) (Bt (Ds F v hb) λhj=>Br (Cj .i64 (ha+1))<|some (.next (hg,hj,ha+1))) (Bt (Ds F v hb) λhk=>Br (Cj .i64 (ha+1))<|some (.next (hd,hk,ha+1))))) (some (.out (.go hd)))
def DI (ha:Int):Option (Int):=
 Br (Cj .i64 (ha+1))<|some (ha+1)
def H5 (F:Nat)(ha:(List Ac)→Int→Option (Int))(v:(List Ac))(i:Int):Option (Int):=
 Br (Ct i (v.length:Int))<|Bq (((!decide (((Af v i).fKind)=5))&&(!decide (((Af v i).fKind)=6)))) (some 1) (Br (Cj .i64 (i+1))<|Bt (BW (λσ=>CD F v i ha σ.1 σ.2.1 σ.2.2) F (0,i+1,0)) (Cf λν=>DI ν))
def CS:Nat→(List Ac)→Int→Option (Int)
 | 0,_,_=>none
 | nn+1,v,i=>H5 nn (CS nn) v i
def CN (s:Aq)(hb:Aq)(ha:Int):Option (Stp (Aq×Int) (Out (Aq) (Aq))):=
 Bq (decide (ha<(s.length:Int))) (Br (Ct ha (s.length:Int))<|Bq (((decide ((K7 s ha)=34))||(decide ((K7 s ha)=92)))) (Br (Cj .i64 ((hb.length:Int)+(([92]:Aq).length:Int)))<|Br (Cj .i64 (ha+1))<|Br (PN ha (ha+1))<|Br (PN (ha+1) (s.length:Int))<|Br (Cj .i64 (((hb++([92]:Aq)).length:Int)+((List.take (Int.toNat (ha+1)-Int.toNat ha) (List.drop (Int.toNat ha) s)).length:Int)))<|some (.next ((hb++([92]:Aq))++(List.take (Int.toNat (ha+1)-Int.toNat ha) (List.drop (Int.toNat ha) s)),ha+1))) (Br (Cj .i64 (ha+1))<|Br (PN ha (ha+1))<|Br (PN (ha+1) (s.length:Int))<|Br (Cj .i64 ((hb.length:Int)+((List.take (Int.toNat (ha+1)-Int.toNat ha) (List.drop (Int.toNat ha) s)).length:Int)))<|some (.next (hb++(List.take (Int.toNat (ha+1)-Int.toNat ha) (List.drop (Int.toNat ha) s)),ha+1)))) (some (.out (.go hb)))
def Dw (ha:Aq):Option (Aq):=
 Br (Cj .i64 ((ha.length:Int)+(([34]:Aq).length:Int)))<|some (ha++([34]:Aq))
def HM (F:Nat)(s:Aq):Option (Aq):=
 Bt (BW (λσ=>CN s σ.1 σ.2) F (([34]:Aq),0)) (Cf λν=>Dw ν)
def DH (F:Nat)(v:(List Ac))(i:Int)(he:(List Ac)→Int→Option (Aq))(ha:Aq)(hb:Int)(hd:Int):Option (Stp (Aq×Int×Int) (Out (Aq) (Aq))):=
 Bq (decide (hd<((Af v i).fN))) (Bq (decide (0<hd)) (Br (Cj .i64 ((ha.length:Int)+(([44]:Aq).length:Int)))<|Bq (decide (((Af v i).fKind)=6)) (Br (Ct hb (v.length:Int))<|Bt (HM F ((Af v hb).fStr)) λhf=>Br (Cj .i64 (((ha++([44]:Aq)).length:Int)+(hf.length:Int)))<|Br (Cj .i64 ((((ha++([44]:Aq))++hf).length:Int)+(([58]:Aq).length:Int)))<|Br (Cj .i64 (hb+1))<|Bt (he v (hb+1)) λhh=>Br (Cj .i64 (((((ha++([44]:Aq))++hf)++([58]:Aq)).length:Int)+(hh.length:Int)))<|Bt (Ds F v (hb+1)) λhl=>Br (Cj .i64 (hd+1))<|some (.next ((((ha++([44]:Aq))++hf)++([58]:Aq))++hh,hl,hd+1))) (Bt (he v hb) λhi=>Br (Cj .i64 (((ha++([44]:Aq)).length:Int)+(hi.length:Int)))<|Bt (Ds F v hb) λhm=>Br (Cj .i64 (hd+1))<|some (.next ((ha++([44]:Aq))++hi,hm,hd+1)))) (Bq (decide (((Af v i).fKind)=6)) (Br (Ct hb (v.length:Int))<|Bt (HM F ((Af v hb).fStr)) λhg=>Br (Cj .i64 ((ha.length:Int)+(hg.length:Int)))<|Br (Cj .i64 (((ha++hg).length:Int)+(([58]:Aq).length:Int)))<|Br (Cj .i64 (hb+1))<|Bt (he v (hb+1)) λhj=>Br (Cj .i64 ((((ha++hg)++([58]:Aq)).length:Int)+(hj.length:Int)))<|Bt (Ds F v (hb+1)) λhn=>Br (Cj .i64 (hd+1))<|some (.next (((ha++hg)++([58]:Aq))++hj,hn,hd+1))) (Bt (he v hb) λhk=>Br (Cj .i64 ((ha.length:Int)+(hk.length:Int)))<|Bt (Ds F v hb) λho=>Br (Cj .i64 (hd+1))<|some (.next (ha++hk,ho,hd+1))))) (some (.out (.go ha)))
def GO (v:(List Ac))(i:Int)(ha:Aq):Option (Aq):=
 Bq (decide (((Af v i).fKind)=6)) (Br (Cj .i64 ((([123]:Aq).length:Int)+(ha.length:Int)))<|Br (Cj .i64 (((([123]:Aq)++ha).length:Int)+(([125]:Aq).length:Int)))<|some ((([123]:Aq)++ha)++([125]:Aq))) (Br (Cj .i64 ((([91]:Aq).length:Int)+(ha.length:Int)))<|Br (Cj .i64 (((([91]:Aq)++ha).length:Int)+(([93]:Aq).length:Int)))<|some ((([91]:Aq)++ha)++([93]:Aq)))
def KG (F:Nat)(ha:(List Ac)→Int→Option (Aq))(v:(List Ac))(i:Int):Option (Aq):=
 Br (Ct i (v.length:Int))<|Bq (decide (((Af v i).fKind)=1)) (some ([110,117,108,108]:Aq)) (Bq (decide (((Af v i).fKind)=2)) (Bq (decide (((Af v i).fInt)=1)) (some ([116,114,117,101]:Aq)) (some ([102,97,108,115,101]:Aq))) (Bq (decide (((Af v i).fKind)=3)) (Br (Cj .i64 ((Af v i).fInt))<|some (Lib.itoa ((Af v i).fInt))) (Bq (decide (((Af v i).fKind)=4)) (Bt (HM F ((Af v i).fStr)) λhb=>some hb) (Br (Cj .i64 (i+1))<|Bt (BW (λσ=>DH F v i ha σ.1 σ.2.1 σ.2.2) F (([]:Aq),i+1,0)) (Cf λν=>GO v i ν)))))
def Gu:Nat→(List Ac)→Int→Option (Aq)
 | 0,_,_=>none
 | nn+1,v,i=>KG nn (Gu nn) v i
def Ec (v:(List Ac))(ha:Int):Option (Stp (Int) (Out (Int) (Unit))):=
 Bq (decide (ha<(v.length:Int))) (Br (Ct ha (v.length:Int))<|Bq (decide (200<(((Af v ha).fStr).length:Int))) (some (.out (.ret 3))) (Br (Cj .i64 (ha+1))<|some (.next (ha+1)))) (some (.out (.go ())))
def H6 (F:Nat)(v:(List Ac)):Option (Int):=
 Bt (Gu F v 0) λha=>Bq (decide (4000<(ha.length:Int))) (some 3) (some 0)
def Ed (v:(List Ac))(ha:Int):Option (Stp (Int) (Out (Int) (Unit))):=
 Bq (decide (ha<(v.length:Int))) (Br (Ct ha (v.length:Int))<|Bq (((decide (((Af v ha).fKind)=3))&&((decide (((Af v ha).fInt)<(-1000000000000)))||(decide (1000000000000<((Af v ha).fInt)))))) (some (.out (.ret 2))) (Br (Cj .i64 (ha+1))<|some (.next (ha+1)))) (some (.out (.go ())))
def H7 (F:Nat)(v:(List Ac)):Option (Int):=
 Br (imp (!(decide (200<(v.length:Int)))) ((CS F v 0).isSome))<|Bq (((decide (200<(v.length:Int)))||(decide (8<(ov (CS F v 0)))))) (some 3) (Bt (BW (λσ=>Ec v σ) F 0) (Cf λν=>H6 F v ))
def I1 (F:Nat)(v:(List Ac)):Option (Int):=
 Bt (Kg F v) λr1=>Bq (!r1) (some 1) (Bt (BW (λσ=>Ed v σ) F 0) (Cf λν=>H7 F v ))
end Go.Proofs.YtfbmdidnlhifjaaGreatDoor
namespace Go.Proofs.YtfbmdidnlhifjaaGreatDoor.Q
open Go Go.RowKit
set_option linter.unusedVariables false
set_option linter.unusedSimpArgs false
set_option maxRecDepth 100000
set_option maxHeartbeats 4000000
@[reducible] def Ab (x:Ac):List Rp:=[Aj x.fKind,Aj x.fInt,rS x.fStr,Aj x.fN]
theorem BT (x:Ac):(Ab x).length=4:=rfl
theorem MW (x:Ac):(Ab x).all (·.one)=true:=rfl
theorem Tb (F:Nat)(s:Aq)(r:Bool)(h:Iy F s=some r):Fn Tryz.prog GE 118 [rS s] [] (λR H=>R=rB r∧H=[]):=by
 refine enter (n:=20) Tryz.func118 Aa Tryz.ntmps118 Aa (λw Z=>?_);unfold Iy at h;refine An (wa Aa (Ax (Av (An (wa Aa (Ax (AN (ob h λhi hj hg=>Bv (S:=Nat×(Int)×(Unit)) (V:=(Unit)×(Unit)) 0 (λσ=>BW (λσ=>IM s σ) σ.1 σ.2.1=some hi) (λσ=>[(0,rS s),(3,Aj σ.2.1)]) (λσ=>[]) (λσ=>σ.1) (F,0,()) hj (AJ.c Aa (AJ.c Aa AJ.nil)) sN (λσ=>IL =some r) (λσ=>[]) (λσ=>[]) ?_ ?_))))))))
 ·rintro⟨hz,hb,⟨⟩⟩ hk;refine BM (l':=[(0,rS s),(3,Aj hb)]) (H':=[]) Aa Aa ?_;obtain⟨hl,rfl,t37,hd,hf⟩:=Cz hk;replace hd:IM s hb=some t37:=hd;unfold IM at hd;refine Av (An (wm Aa (wm Aa (wv (CJ Gn Aa) (wv (C2 Aa Aa) (Ax (cz hd Aa (λhm hn=>?_) (λhm ho=>?_))))))))
  ·refine A1 (AT (Av (AN (ck hn λhh hp=>AU [(0,rS s),(3,Aj hb),(19,rB ((decide ((K7 s hb)<32))||(decide (126<(K7 s hb)))))] [] ?_ ?_))))
   ·refine Au (wm Aa (wm Aa (wv (E2 Gn Aa Aa hh) (wv (C2 Aa Aa) (wm Aa (AY (decide ((K7 s hb)<32)) (λha=>?_) (λha=>?_)))))))
    ·refine wf ha (wf ha (wf ha (wf ha (wv (r:=rB true) (Ar Aa ha Aa) (At ?_)))));exact Cg ha
    ·refine wo ha (wm Aa (wo ha (wm Aa (wo ha (wv (E2 Gn Aa Aa hh) (wo ha (wv (DQ Aa Aa) (DB Aa ha Aa (At ?_)))))))));exact Cg ha
   refine cz hp Aa (λhq hr=>?_) (λhq hs=>?_)
   ·refine An (wa Aa (Ax (A0 (A9 (Ah (Ah (Bm ?_)))))));have ht:=B9 hr hf hg;refine A9 (Ah ?_);obtain rfl:=A2 ht;exact Az (BI Tryz.results118 (AR Aa)) sN ⟨Aa,Aa⟩
   ·refine A1 (AL (AT (Au (wm Aa (ck hs λhu hw=>wv (B0 Aa Aa hu) (wa Aa (At ?_)))))));have hx:=Bn hw hf;exact AC (AA (hl,hb+1,()) ⟨hx,Xi _⟩ (AJ.c Aa (AJ.c Aa AJ.nil)) sN)
  ·refine By (A4 ?_);have hy:=BQ ho hf hg;exact A4 (Bi (AA ((),()) hy AJ.nil sN))
 ·rintro⟨⟨⟩,⟨⟩⟩ he;refine Cy (l':=[]) (H':=[]) Aa Aa ?_;replace he:IL =some r:=he;unfold IL at he;refine Bk (AT (An (wa Aa (Ax (A0 ?_)))));obtain rfl:=A2 he;exact Az (BI Tryz.results118 (AR Aa)) sN ⟨Aa,Aa⟩
theorem DO (ok:Bool)(i:Int)(r:Int)(h:B7 ok i=some r):Fn Tryz.prog GE 99 [rB ok,Aj i] [] (λR H=>R=Aj r∧H=[]):=by
 refine enter (n:=8) Tryz.func99 Aa Tryz.ntmps99 Aa (λw Z=>?_);unfold B7 at h;refine An (wa Aa (Ax (Av (An (wm Aa (Ax (cz h Aa (λc1 h2=>?_) (λc1 h5=>?_))))))))
 ·refine An (wm Aa (ck h2 λg3 h4=>wv (B0 Aa Aa g3) (wa Aa (Ax (A0 (Ah ?_))))));obtain rfl:=A2 h4;exact Az (BI Tryz.results99 (AR Aa)) sN ⟨Aa,Aa⟩
 ·refine A1 (AT (An (wv (r:=Aj (-1)) (AV Aa) (Ax (A0 ?_)))));obtain rfl:=A2 h5;exact Az (BI Tryz.results99 (AR Aa)) sN ⟨Aa,Aa⟩
theorem Te (F:Nat)(c:Ac)(r:Bool)(h:MO F c=some r):Fn Tryz.prog GE 100 [Bd (Ab c)] [] (λR H=>R=rB r∧H=[]):=by
 refine enter (n:=21) Tryz.func100 Aa Tryz.ntmps100 Aa (λw Z=>?_);unfold MO at h;refine An (BH Aa Aa (λb1=>?_));refine wa Aa (Ax (ck h λg2 h3=>AU [(2,rB ((decide (c.fKind=4))&&((decide (c.fInt=0))&&((decide (c.fN=0))&&(ov (Iy F c.fStr))))))] [] ?_ ?_))
 ·refine Au (vF Bx Aa DY (vL 0 DZ Aa (wv (B5 Aa Aa) (wm Aa (AY (decide (c.fKind=4)) (λc4=>?_) (λc4=>?_))))))
  ·refine wo c4 (vF Bx Aa C1 (wo c4 (vL 0 Dm Aa (wo c4 (wv (B5 Aa Aa) (EP Aa c4 Aa (wm Aa (AY (decide (c.fInt=0)) (λc5=>?_) (λc5=>?_)))))))))
   ·refine wo c5 (vF Bx Aa C1 (wo c5 (vL 0 Dm Aa (wo c5 (wv (B5 Aa Aa) (EP Aa c5 Aa (wm Aa (AY (decide (c.fN=0)) (λc6=>?_) (λc6=>?_)))))))))
    ·refine wo c6 (vF Bx Aa CF (wo c6 (vL 0 CZ Aa (wo c6 (Cl Tryz.call118 (Tb F c.fStr (ov (Iy F c.fStr)) (EQ (CW (CW (CW g2 c4) c5) c6))) Aa (EP Aa c6 Aa (wa Aa (At ?_))))))));exact Cg (And.intro c4 (And.intro c5 c6))
    ·refine wf c6 (wf c6 (wf c6 (wv (r:=rB false) (AH Aa c6 Aa) (wa Aa (At ?_)))));exact Cg (And.intro c4 (And.intro c5 c6))
   ·refine wf c5 (wf c5 (wf c5 (wv (r:=rB false) (AH Aa c5 Aa) (wm Aa (wz Aa Aa (wz Aa Aa (wz Aa Aa (wv (r:=rB false) (AH (b:=false) Aa Aa Aa) (wa Aa (At ?_))))))))));exact Cg (And.intro c4 c5)
  ·refine wf c4 (wf c4 (wf c4 (wv (r:=rB false) (AH Aa c4 Aa) (wm Aa (wz Aa Aa (wz Aa Aa (wz Aa Aa (wv (r:=rB false) (AH (b:=false) Aa Aa Aa) (wm Aa (wz Aa Aa (wz Aa Aa (wz Aa Aa (wv (r:=rB false) (AH (b:=false) Aa Aa Aa) (wa Aa (At ?_)))))))))))))));exact Cg c4
 refine A0 ?_;obtain rfl:=A2 h3;exact Az (BI Tryz.results100 (AR Aa)) sN ⟨Aa,Aa⟩
theorem Tc (F:Nat)(ho:(List Ac)→Int→Int→Option (Int))(hp:(List Ac)→Int→Int→Option (Int))(hr:(∀(v:(List Ac)) (i:Int) (n:Int) (r:Int),ho v i n=some r→Fn Tryz.prog GE 101 [AD 4 (Ap Ab v),Aj i,Aj n] [] (λR H=>R=Aj r∧H=[])))(hs:(∀(v:(List Ac)) (i:Int) (n:Int) (r:Int),hp v i n=some r→Fn Tryz.prog GE 102 [AD 4 (Ap Ab v),Aj i,Aj n] [] (λR H=>R=Aj r∧H=[])))(v:(List Ac))(i:Int)(r:Int)(h:NU F ho hp v i=some r):Fn Tryz.prog GE 83 [AD 4 (Ap Ab v),Aj i] [] (λR H=>R=Aj r∧H=[]):=by
 refine enter (n:=127) Tryz.func83 Aa Tryz.ntmps83 Aa (λw Z=>?_);unfold NU at h;refine An (wa Aa (Ax (Av (AU [(0,AD 4 (Ap Ab v)),(1,Aj i),(13,rB ((decide (i<0))||(decide ((v.length:Int)≤i))))] [] ?_ ?_))))
 ·refine Au (wm Aa (wv (C2 Aa Aa) (wm Aa (AY (decide (i<0)) (λc1=>?_) (λc1=>?_)))))
  ·refine wf c1 (wf c1 (wf c1 (wf c1 (wv (r:=rB true) (Ar Aa c1 Aa) (At ?_)))));exact Cg c1
  ·refine wo c1 (wm Aa (wo c1 (wm Aa (wo c1 (wv (Bo (ys:=v) (enc:=Ab) Ci Aa) (wo c1 (wv (Iq Aa Aa) (DB Aa c1 Aa (At ?_)))))))));exact Cg c1
 refine cz h Aa (λc2 h3=>?_) (λc2 h4=>?_)
 ·refine An (wv (r:=Aj (-1)) (AV Aa) (Ax (A0 (Ah ?_))));obtain rfl:=A2 h3;exact Az (BI OB (AR Aa)) sN ⟨Aa,Aa⟩
 ·refine A1 (AT (An (wm Aa (wm Aa (ck h4 λg5 h6=>wv (Bh (enc:=Ab) (ys:=v) Ci Cp Aa Aa g5) (wv (B6 JR Cp Aa Aa Aa) (B3 (cs:=[Aj 0,Aj 0,rS ([]:Aq),Aj 0]) Jn Aa Aa (λb7=>?_))))))));refine AF (i:=0) Cp Aa Aa Aa (Be.c Aa) Aa Aa (cs':=[Aj ((Af v i).fKind),Aj ((Af v i).fInt),rS ((Af v i).fStr),Aj ((Af v i).fN)]) Aa (H':=[.blk b7 (Ab (Af v i)) 63]) Aa (Ax (Av (An (vF Bx Aa DY (vL 0 DZ Aa (wv (B5 Aa Aa) (Ax (cz h6 Aa (λc8 h9=>?_) (λc8 ht=>?_)))))))))
  ·refine ck h9 λhu hw=>ck hw λhx hy=>ck hy λhz h0=>AU [(4,Aj (bif decide (((Af v i).fInt)=0) then(bif decide (((Af v i).fStr)=([]:Aq)) then(ov (B7 (decide (((Af v i).fN)=0)) i)) else(ov (B7 false i))) else(ov (B7 false i))))] [] ?_ ?_
   ·refine Au (vF Bx Aa C1 (vL 0 Dm Aa (wv (B5 Aa Aa) (wm Aa (AY (decide (((Af v i).fInt)=0)) (λhb=>?_) (λhb=>?_))))))
    ·refine wo hb (vF Bx Aa CF (wo hb (vL 0 CZ Aa (wo hb (wv (CC Aa Aa) (EP Aa hb Aa (wm Aa (AY (decide (((Af v i).fStr)=([]:Aq))) (λhe=>?_) (λhe=>?_)))))))))
     ·refine wo he (vF Bx Aa C1 (wo he (vL 0 Dm Aa (wo he (wv (B5 Aa Aa) (EP Aa he Aa (wm Aa (Cl LQ (DO (decide (((Af v i).fN)=0)) i (ov (B7 (decide (((Af v i).fN)=0)) i)) (EQ (CW (CW hu hb) he))) Aa (wa Aa (At ?_))))))))));exact Cg (And.intro hb he)
     ·refine wf he (wf he (wf he (wv (r:=rB false) (AH Aa he Aa) (wm Aa (Cl LQ (DO false i (ov (B7 false i)) (EQ (Dj (CW hx hb) he))) Aa (wa Aa (At ?_)))))));exact Cg (And.intro hb he)
    ·refine wf hb (wf hb (wf hb (wv (r:=rB false) (AH Aa hb Aa) (wm Aa (wz Aa Aa (wz Aa Aa (wz Aa Aa (wv (r:=rB false) (AH (b:=false) Aa Aa Aa) (wm Aa (Cl LQ (DO false i (ov (B7 false i)) (EQ (Dj hz hb))) Aa (wa Aa (At ?_))))))))))));exact Cg hb
   refine A0 (Ah ?_);obtain rfl:=A2 h0;exact Az (BI OB (AR Aa)) sN ⟨Aa,Aa⟩
  ·refine A1 (AT (Av (An (vF Bx Aa DY (vL 0 DZ Aa (wv (B5 Aa Aa) (Ax (cz ht Aa (λh1 h2=>?_) (λh1 h5=>?_)))))))))
   ·refine ck h2 λh7 h8=>ck h8 λhA hB=>ck hB λhC hD=>ck hD λhE hG=>ck hG λhH hI=>AU [(4,Aj (bif decide (((Af v i).fInt)=0) then(bif decide (((Af v i).fStr)=([]:Aq)) then(ov (B7 (decide (((Af v i).fN)=0)) i)) else(ov (B7 false i))) else(bif decide (((Af v i).fInt)=1) then(bif decide (((Af v i).fStr)=([]:Aq)) then(ov (B7 (decide (((Af v i).fN)=0)) i)) else(ov (B7 false i))) else(ov (B7 false i)))))] [] ?_ ?_
    ·refine Au (vF Bx Aa C1 (vL 0 Dm Aa (wv (B5 Aa Aa) (wm Aa (AY (decide (((Af v i).fInt)=0)) (λha=>?_) (λha=>?_))))))
     ·refine wf ha (wf ha (wf ha (wv (r:=rB true) (Ar Aa ha Aa) (wm Aa (Bz (b:=true) Aa Aa Aa (vF Bx Aa CF (Bz (b:=true) Aa Aa Aa (vL 0 CZ Aa (Bz (b:=true) Aa Aa Aa (wv (CC Aa Aa) (wv (r:=rB (decide (((Af v i).fStr)=([]:Aq)))) (Ar (b:=true) Aa Aa Aa) (wm Aa (AY (decide (((Af v i).fStr)=([]:Aq))) (λhf=>?_) (λhf=>?_))))))))))))))
      ·refine wo hf (vF Bx Aa C1 (wo hf (vL 0 Dm Aa (wo hf (wv (B5 Aa Aa) (EP Aa hf Aa (wm Aa (Cl LQ (DO (decide (((Af v i).fN)=0)) i (ov (B7 (decide (((Af v i).fN)=0)) i)) (EQ (CW (CW h7 ha) hf))) Aa (wa Aa (At ?_))))))))));exact Cg (And.intro ha hf)
      ·refine wf hf (wf hf (wf hf (wv (r:=rB false) (AH Aa hf Aa) (wm Aa (Cl LQ (DO false i (ov (B7 false i)) (EQ (Dj (CW hA ha) hf))) Aa (wa Aa (At ?_)))))));exact Cg (And.intro ha hf)
     ·refine wo ha (vF Bx Aa C1 (wo ha (vL 0 Dm Aa (wo ha (wv (B5 Aa Aa) (DB Aa ha Aa (wm Aa (AY (decide (((Af v i).fInt)=1)) (λhd=>?_) (λhd=>?_)))))))))
      ·refine wo hd (vF Bx Aa CF (wo hd (vL 0 CZ Aa (wo hd (wv (CC Aa Aa) (EP Aa hd Aa (wm Aa (AY (decide (((Af v i).fStr)=([]:Aq))) (λhg=>?_) (λhg=>?_)))))))))
       ·refine wo hg (vF Bx Aa C1 (wo hg (vL 0 Dm Aa (wo hg (wv (B5 Aa Aa) (EP Aa hg Aa (wm Aa (Cl LQ (DO (decide (((Af v i).fN)=0)) i (ov (B7 (decide (((Af v i).fN)=0)) i)) (EQ (CW (CW (Dj hC ha) hd) hg))) Aa (wa Aa (At ?_))))))))));exact Cg (And.intro ha (And.intro hd hg))
       ·refine wf hg (wf hg (wf hg (wv (r:=rB false) (AH Aa hg Aa) (wm Aa (Cl LQ (DO false i (ov (B7 false i)) (EQ (Dj (CW (Dj hE ha) hd) hg))) Aa (wa Aa (At ?_)))))));exact Cg (And.intro ha (And.intro hd hg))
      ·refine wf hd (wf hd (wf hd (wv (r:=rB false) (AH Aa hd Aa) (wm Aa (wz Aa Aa (wz Aa Aa (wz Aa Aa (wv (r:=rB false) (AH (b:=false) Aa Aa Aa) (wm Aa (Cl LQ (DO false i (ov (B7 false i)) (EQ (Dj (Dj hH ha) hd))) Aa (wa Aa (At ?_))))))))))));exact Cg (And.intro ha hd)
    refine A0 (Ah ?_);obtain rfl:=A2 hI;exact Az (BI OB (AR Aa)) sN ⟨Aa,Aa⟩
   ·refine A1 (AT (Av (An (vF Bx Aa DY (vL 0 DZ Aa (wv (B5 Aa Aa) (Ax (cz h5 Aa (λhJ hK=>?_) (λhJ hL=>?_)))))))))
    ·refine ck hK λhN hO=>ck hO λhP hQ=>AU [(4,Aj (bif decide (((Af v i).fStr)=([]:Aq)) then(ov (B7 (decide (((Af v i).fN)=0)) i)) else(ov (B7 false i))))] [] ?_ ?_
     ·refine Au (vF Bx Aa CF (vL 0 CZ Aa (wv (CC Aa Aa) (wm Aa (AY (decide (((Af v i).fStr)=([]:Aq))) (λhh=>?_) (λhh=>?_))))))
      ·refine wo hh (vF Bx Aa C1 (wo hh (vL 0 Dm Aa (wo hh (wv (B5 Aa Aa) (EP Aa hh Aa (wm Aa (Cl LQ (DO (decide (((Af v i).fN)=0)) i (ov (B7 (decide (((Af v i).fN)=0)) i)) (EQ (CW hN hh))) Aa (wa Aa (At ?_))))))))));exact Cg hh
      ·refine wf hh (wf hh (wf hh (wv (r:=rB false) (AH Aa hh Aa) (wm Aa (Cl LQ (DO false i (ov (B7 false i)) (EQ (Dj hP hh))) Aa (wa Aa (At ?_)))))));exact Cg hh
     refine A0 (Ah ?_);obtain rfl:=A2 hQ;exact Az (BI OB (AR Aa)) sN ⟨Aa,Aa⟩
    ·refine A1 (AT (Av (An (vF Bx Aa DY (vL 0 DZ Aa (wv (B5 Aa Aa) (Ax (cz hL Aa (λhR hS=>?_) (λhR hT=>?_)))))))))
     ·refine An (wv (Bf (i:=0) JR Cp Aa Aa Aa Aa) (ob hS λhq hU hV=>Cl Tryz.call100 (Te F (Af v i) hq hU) Aa (wm Aa (ob hV λhW hX hY=>Cl LQ (DO hq i hW hX) Aa (wa Aa (Ax (A0 (Ah ?_))))))));obtain rfl:=A2 hY;exact Az (BI OB (AR Aa)) (sS sN) ⟨Aa,Aa⟩
     ·refine A1 (AT (Av (AU [(0,AD 4 (Ap Ab v)),(1,Aj i),(5,rP b7 0),(96,rB ((decide (((Af v i).fKind)=5))&&((decide (((Af v i).fInt)=0))&&((decide (((Af v i).fStr)=([]:Aq)))&&(decide (0≤((Af v i).fN)))))))] [.blk b7 (Ab (Af v i)) 63] ?_ ?_)))
      ·refine Au (vF Bx Aa DY (vL 0 DZ Aa (wv (B5 Aa Aa) (wm Aa (AY (decide (((Af v i).fKind)=5)) (λhi=>?_) (λhi=>?_))))))
       ·refine wo hi (vF Bx Aa C1 (wo hi (vL 0 Dm Aa (wo hi (wv (B5 Aa Aa) (EP Aa hi Aa (wm Aa (AY (decide (((Af v i).fInt)=0)) (λhk=>?_) (λhk=>?_)))))))))
        ·refine wo hk (vF Bx Aa CF (wo hk (vL 0 CZ Aa (wo hk (wv (CC Aa Aa) (EP Aa hk Aa (wm Aa (AY (decide (((Af v i).fStr)=([]:Aq))) (λhm=>?_) (λhm=>?_)))))))))
         ·refine wo hm (vF Bx Aa C1 (wo hm (vL 0 Dm Aa (wo hm (wv (Iq Aa Aa) (EP Aa hm Aa (At ?_)))))));exact Cg (And.intro hi (And.intro hk hm))
         ·refine wf hm (wf hm (wf hm (wv (r:=rB false) (AH Aa hm Aa) (At ?_))));exact Cg (And.intro hi (And.intro hk hm))
        ·refine wf hk (wf hk (wf hk (wv (r:=rB false) (AH Aa hk Aa) (wm Aa (wz Aa Aa (wz Aa Aa (wz Aa Aa (wv (r:=rB false) (AH (b:=false) Aa Aa Aa) (At ?_)))))))));exact Cg (And.intro hi hk)
       ·refine wf hi (wf hi (wf hi (wv (r:=rB false) (AH Aa hi Aa) (wm Aa (wz Aa Aa (wz Aa Aa (wz Aa Aa (wv (r:=rB false) (AH (b:=false) Aa Aa Aa) (wm Aa (wz Aa Aa (wz Aa Aa (wz Aa Aa (wv (r:=rB false) (AH (b:=false) Aa Aa Aa) (At ?_))))))))))))));exact Cg hi
      refine cz hT Aa (λhZ ga=>?_) (λhZ gb=>?_)
      ·refine An (wm Aa (wm Aa (ck ga λgc gd=>wv (B0 Aa Aa gc) (vF Bx Aa C1 (vL 0 Dm Aa (ob gd λge gf gg=>Cl Tryz.call101 (hr v (i+1) ((Af v i).fN) ge gf) Aa (wa Aa (Ax (A0 (Ah ?_))))))))));obtain rfl:=A2 gg;exact Az (BI OB (AR Aa)) (sS sN) ⟨Aa,Aa⟩
      ·refine A1 (AT (Av (AU [(0,AD 4 (Ap Ab v)),(1,Aj i),(5,rP b7 0),(120,rB ((decide (((Af v i).fKind)=6))&&((decide (((Af v i).fInt)=0))&&((decide (((Af v i).fStr)=([]:Aq)))&&(decide (0≤((Af v i).fN)))))))] [.blk b7 (Ab (Af v i)) 63] ?_ ?_)))
       ·refine Au (vF Bx Aa DY (vL 0 DZ Aa (wv (B5 Aa Aa) (wm Aa (AY (decide (((Af v i).fKind)=6)) (λhj=>?_) (λhj=>?_))))))
        ·refine wo hj (vF Bx Aa C1 (wo hj (vL 0 Dm Aa (wo hj (wv (B5 Aa Aa) (EP Aa hj Aa (wm Aa (AY (decide (((Af v i).fInt)=0)) (λhl=>?_) (λhl=>?_)))))))))
         ·refine wo hl (vF Bx Aa CF (wo hl (vL 0 CZ Aa (wo hl (wv (CC Aa Aa) (EP Aa hl Aa (wm Aa (AY (decide (((Af v i).fStr)=([]:Aq))) (λhn=>?_) (λhn=>?_)))))))))
          ·refine wo hn (vF Bx Aa C1 (wo hn (vL 0 Dm Aa (wo hn (wv (Iq Aa Aa) (EP Aa hn Aa (At ?_)))))));exact Cg (And.intro hj (And.intro hl hn))
          ·refine wf hn (wf hn (wf hn (wv (r:=rB false) (AH Aa hn Aa) (At ?_))));exact Cg (And.intro hj (And.intro hl hn))
         ·refine wf hl (wf hl (wf hl (wv (r:=rB false) (AH Aa hl Aa) (wm Aa (wz Aa Aa (wz Aa Aa (wz Aa Aa (wv (r:=rB false) (AH (b:=false) Aa Aa Aa) (At ?_)))))))));exact Cg (And.intro hj hl)
        ·refine wf hj (wf hj (wf hj (wv (r:=rB false) (AH Aa hj Aa) (wm Aa (wz Aa Aa (wz Aa Aa (wz Aa Aa (wv (r:=rB false) (AH (b:=false) Aa Aa Aa) (wm Aa (wz Aa Aa (wz Aa Aa (wz Aa Aa (wv (r:=rB false) (AH (b:=false) Aa Aa Aa) (At ?_))))))))))))));exact Cg hj
       refine cz gb Aa (λgh gi=>?_) (λgh gj=>?_)
       ·refine An (wm Aa (wm Aa (ck gi λgl gm=>wv (B0 Aa Aa gl) (vF Bx Aa C1 (vL 0 Dm Aa (ob gm λgp gq gr=>Cl Tryz.call102 (hs v (i+1) ((Af v i).fN) gp gq) Aa (wa Aa (Ax (A0 (Ah ?_))))))))));obtain rfl:=A2 gr;exact Az (BI OB (AR Aa)) (sS sN) ⟨Aa,Aa⟩
       ·refine A1 (AT (An (wv (r:=Aj (-1)) (AV Aa) (Ax (A0 ?_)))));obtain rfl:=A2 gj;exact Az (BI OB (AR Aa)) (sS sN) ⟨Aa,Aa⟩
theorem NW (F:Nat)(ha:(List Ac)→Int→Option (Int))(hk:(∀(v:(List Ac)) (i:Int) (r:Int),ha v i=some r→Fn Tryz.prog GE 83 [AD 4 (Ap Ab v),Aj i] [] (λR H=>R=Aj r∧H=[])))(v:(List Ac))(i:Int)(n:Int)(r:Int)(h:HN F ha v i n=some r):Fn Tryz.prog GE 101 [AD 4 (Ap Ab v),Aj i,Aj n] [] (λR H=>R=Aj r∧H=[]):=by
 refine enter (n:=19) Tryz.func101 Aa Tryz.ntmps101 Aa (λw Z=>?_);unfold HN at h;refine An (wa Aa (Ax (Av (An (wa Aa (Ax (AN (ob h λhl hm hh=>Bv (S:=Nat×(Int×Int)×(Unit)) (V:=(Int)×(Unit)) 0 (λσ=>BW (λσ=>CI v n ha σ.1 σ.2) σ.1 σ.2.1=some hl) (λσ=>[(0,AD 4 (Ap Ab v)),(1,Aj σ.2.1.1),(2,Aj n),(6,Aj 0),(7,Aj σ.2.1.2)]) (λσ=>[]) (λσ=>σ.1) (F,(i,0),()) hm (AJ.c5 Aa Aa Aa Aa Aa AJ.nil) sN (λσ=>Ea σ.1=some r) (λσ=>[(1,Aj σ.1),(6,Aj 0)]) (λσ=>[]) ?_ ?_))))))))
 ·rintro⟨h4,⟨hb,hf⟩,⟨⟩⟩ hn;refine BM (l':=[(0,AD 4 (Ap Ab v)),(1,Aj hb),(2,Aj n),(6,Aj 0),(7,Aj hf)]) (H':=[]) Aa Aa ?_;obtain⟨ho,rfl,hp,hd,hg⟩:=Cz hn;replace hd:CI v n ha hb hf=some hp:=hd;unfold CI at hd;refine Av (An (wm Aa (wm Aa (wv (C2 Aa Aa) (Ax (cz hd Aa (λhq hr=>?_) (λhq hs=>?_)))))))
  ·refine A1 (AT (Av (AN (An (wm Aa (wm Aa (ob hr λhi ht hu=>Cl LR (hk v hb hi ht) Aa (wa Aa (B4 (wm Aa (wv (C2 Aa Aa) (Ax (cz hu Aa (λhw hx=>?_) (λhw hy=>?_))))))))))))))
   ·refine An (wv (r:=Aj (-1)) (AV Aa) (Ax (A0 (A9 (Ah (Ah (Bm ?_)))))));have hz:=B9 hx hg hh;refine A9 (Ah ?_);obtain rfl:=A2 hz;exact Az (BI Tryz.results101 (AR Aa)) sN ⟨Aa,Aa⟩
   ·refine A1 (AL (AT (Au (wm Aa (ck hy λh0 h1=>wv (B0 Aa Aa h0) (wa Aa (At ?_)))))));have h2:=Bn h1 hg;exact AC (AA (ho,(hi,hf+1),()) ⟨h2,Xi _⟩ (AJ.c5 Aa Aa Aa Aa Aa AJ.nil) sN)
  ·refine By (A4 ?_);have h3:=BQ hs hg hh;exact A4 (Bi (AA (hb,()) h3 (AJ.c Aa (AJ.c Aa AJ.nil)) sN))
 ·rintro⟨hj,⟨⟩⟩ he;refine Cy (l':=[(1,Aj hj),(6,Aj 0)]) (H':=[]) Aa Aa ?_;replace he:Ea hj=some r:=he;unfold Ea at he;refine Bk (AT (An (wm Aa (wa Aa (Ax (A0 ?_))))));obtain rfl:=A2 he;exact Az (BI Tryz.results101 (AR Aa)) sN ⟨Aa,Aa⟩
theorem RA (F:Nat)(hg:(List Ac)→Int→Option (Int))(hp:(∀(v:(List Ac)) (i:Int) (r:Int),hg v i=some r→Fn Tryz.prog GE 83 [AD 4 (Ap Ab v),Aj i] [] (λR H=>R=Aj r∧H=[])))(v:(List Ac))(i:Int)(n:Int)(r:Int)(h:LC F hg v i n=some r):Fn Tryz.prog GE 102 [AD 4 (Ap Ab v),Aj i,Aj n] [] (λR H=>R=Aj r∧H=[]):=by
 refine enter (n:=51) Tryz.func102 Aa Tryz.ntmps102 Aa (λw Z=>?_);unfold LC at h;refine An (wa Aa (B4 (wv (r:=rS ([]:Aq)) (AV Aa) (Ax (Av (An (wa Aa (Ax (AN (ob h λhq hr hl=>Bv (S:=Nat×(Int×Aq×Int)×(Unit)) (V:=(Int)×(Unit)) 0 (λσ=>BW (λσ=>Do F v n hg σ.1 σ.2.1 σ.2.2) σ.1 σ.2.1=some hq) (λσ=>[(0,AD 4 (Ap Ab v)),(1,Aj σ.2.1.1),(2,Aj n),(7,rS σ.2.1.2.1),(8,Aj σ.2.1.2.2)]) (λσ=>[]) (λσ=>σ.1) (F,(i,([]:Aq),0),()) hr (AJ.c5 Aa Aa Aa Aa Aa AJ.nil) sN (λσ=>GB σ.1=some r) (λσ=>[(1,Aj σ.1)]) (λσ=>[]) ?_ ?_))))))))))
 ·rintro⟨hL,⟨he,hh,hf⟩,⟨⟩⟩ hs;refine BM (l':=[(0,AD 4 (Ap Ab v)),(1,Aj he),(2,Aj n),(7,rS hh),(8,Aj hf)]) (H':=[]) Aa Aa ?_;obtain⟨ht,rfl,hu,hi,hj⟩:=Cz hs;replace hi:Do F v n hg he hh hf=some hu:=hi;unfold Do at hi;refine Av (An (wm Aa (wm Aa (wv (C2 Aa Aa) (Ax (cz hi Aa (λhw hx=>?_) (λhw hy=>?_)))))))
  ·refine A1 (AT (Av (AN (Av (ck hx λhm hz=>ck hz λh0 h1=>AU [(0,AD 4 (Ap Ab v)),(1,Aj he),(2,Aj n),(8,Aj hf),(38,rB ((decide ((v.length:Int)≤he))||((!(ov (MO F (Af v he))))||((decide (0<hf))&&(Ce ((Af v he).fStr) hh||decide (((Af v he).fStr)=hh))))))] [] ?_ ?_)))))
   ·refine Au (wm Aa (wm Aa (wv (Bo (ys:=v) (enc:=Ab) Ci Aa) (wv (Iq Aa Aa) (wm Aa (AY (decide ((v.length:Int)≤he)) (λha=>?_) (λha=>?_)))))))
    ·refine wf ha (wf ha (wf ha (wf ha (wf ha (wf ha (wv (r:=rB true) (Ar Aa ha Aa) (wm Aa (wz Aa Aa (wz Aa Aa (wz Aa Aa (wu (wu (wu (wu (wu (wu (wu (wz Aa Aa (wv (r:=rB true) (Ar (b:=true) Aa Aa Aa) (At ?_))))))))))))))))))));exact Cg ha
    ·refine wo ha (wm Aa (wo ha (wm Aa (wo ha (wv (Bh (enc:=Ab) (ys:=v) Ci Cp Aa Aa (Dj hm ha)) (wo ha (wv (B6 JR Cp Aa Aa Aa) (wo ha (Cl Tryz.call100 (Te F (Af v he) (ov (MO F (Af v he))) (EQ (Dj h0 ha))) Aa (wo ha (wv (B8 Aa) (DB Aa ha Aa (wm Aa (AY (!(ov (MO F (Af v he)))) (λhd=>?_) (λhd=>?_)))))))))))))))
     ·refine wf hd (wf hd (wf hd (wu (wu (wu (wu (wu (wu (wu (wf hd (wv (r:=rB true) (Ar Aa hd Aa) (At ?_))))))))))));exact Cg (And.intro ha hd)
     ·refine wo hd (wm Aa (wo hd (wv (DQ Aa Aa) (wo hd (wm Aa (AY (decide (0<hf)) (λhb=>?_) (λhb=>?_)))))))
      ·refine wo hb (wm Aa (wo hb (wm Aa (wo hb (wv (Bh (enc:=Ab) (ys:=v) Ci Cp Aa Aa (Dj hm ha)) (wo hb (wv (AQ Bx Aa CF Aa Aa) (wo hb (wv (Bg CZ Aa Aa) (wo hb (wm Aa (wo hb (wv (Tp Aa Aa) (wo hd (EP Aa hb Aa (DB Aa hd Aa (At ?_)))))))))))))))));exact Cg (And.intro ha (And.intro hd hb))
      ·refine wf hb (wf hb (wf hb (wf hb (wf hb (wf hb (wf hb (wo hd (wv (r:=rB false) (AH Aa hb Aa) (DB Aa hd Aa (At ?_))))))))));exact Cg (And.intro ha (And.intro hd hb))
   refine cz h1 Aa (λh2 h3=>?_) (λh2 h4=>?_)
   ·refine An (wv (r:=Aj (-1)) (AV Aa) (Ax (A0 (Ah (A9 (Ah (Ah (Bm ?_))))))));have h5:=B9 h3 hj hl;refine A9 (Ah ?_);obtain rfl:=A2 h5;exact Az (BI Tryz.results102 (AR Aa)) sN ⟨Aa,Aa⟩
   ·refine A1 (AT (An (wm Aa (wm Aa (ck h4 λh6 h7=>wv (Bh (enc:=Ab) (ys:=v) Ci Cp Aa Aa h6) (wv (AQ Bx Aa CF Aa Aa) (wv (Bg CZ Aa Aa) (wa Aa (B4 (wm Aa (wm Aa (ck h7 λh8 h9=>wv (B0 Aa Aa h8) (ob h9 λhn hA hB=>Cl LR (hp v (he+1) hn hA) Aa (wa Aa (B4 (wm Aa (wv (C2 Aa Aa) (Ax (cz hB Aa (λhC hD=>?_) (λhC hE=>?_))))))))))))))))))))
    ·refine An (wv (r:=Aj (-1)) (AV Aa) (Ax (A0 (A9 (Ah (Ah (Bm ?_)))))));have hG:=B9 hD hj hl;refine A9 (Ah ?_);obtain rfl:=A2 hG;exact Az (BI Tryz.results102 (AR Aa)) sN ⟨Aa,Aa⟩
    ·refine A1 (AL (AT (Au (wm Aa (ck hE λhH hI=>wv (B0 Aa Aa hH) (wa Aa (At ?_)))))));have hJ:=Bn hI hj;exact AC (AA (ht,(hn,(Af v he).fStr,hf+1),()) ⟨hJ,Xi _⟩ (AJ.c5 Aa Aa Aa Aa Aa AJ.nil) sN)
  ·refine By (A4 ?_);have hK:=BQ hy hj hl;exact A4 (Bi (AA (he,()) hK (AJ.c Aa AJ.nil) sN))
 ·rintro⟨ho,⟨⟩⟩ hk;refine Cy (l':=[(1,Aj ho)]) (H':=[]) Aa Aa ?_;replace hk:GB ho=some r:=hk;unfold GB at hk;refine Bk (AT (An (wm Aa (wa Aa (Ax (A0 ?_))))));obtain rfl:=A2 hk;exact Az (BI Tryz.results102 (AR Aa)) sN ⟨Aa,Aa⟩
theorem H4:∀F:Nat,(∀(v:(List Ac)) (i:Int) (r:Int),Ds F v i=some r→Fn Tryz.prog GE 83 [AD 4 (Ap Ab v),Aj i] [] (λR H=>R=Aj r∧H=[]))∧(∀(v:(List Ac)) (i:Int) (n:Int) (r:Int),GC F v i n=some r→Fn Tryz.prog GE 101 [AD 4 (Ap Ab v),Aj i,Aj n] [] (λR H=>R=Aj r∧H=[]))∧(∀(v:(List Ac)) (i:Int) (n:Int) (r:Int),KI F v i n=some r→Fn Tryz.prog GE 102 [AD 4 (Ap Ab v),Aj i,Aj n] [] (λR H=>R=Aj r∧H=[]))
  | 0=>⟨(λ_ _ _ h=>by simp[Ds] at h),(λ_ _ _ _ h=>by simp[GC] at h),(λ_ _ _ _ h=>by simp[KI] at h)⟩
  | nn+1=>⟨(λv i r h=>Tc nn (GC nn) (KI nn) (H4 nn).2.1 (H4 nn).2.2 v i r (by rw[Ds] at h;exact h)),(λv i n r h=>NW nn (Ds nn) (H4 nn).1 v i n r (by rw[GC] at h;exact h)),(λv i n r h=>RA nn (Ds nn) (H4 nn).1 v i n r (by rw[KI] at h;exact h))⟩
theorem G0 (F:Nat)(v:(List Ac))(i:Int)(r:Int)(h:Ds F v i=some r):Fn Tryz.prog GE 83 [AD 4 (Ap Ab v),Aj i] [] (λR H=>R=Aj r∧H=[]):=(H4 F).1 v i r h
theorem RD (F:Nat)(v:(List Ac))(r:Bool)(h:Kg F v=some r):Fn Tryz.prog GE 65 [AD 4 (Ap Ab v)] [] (λR H=>R=rB r∧H=[]):=by
 refine enter (n:=13) Tryz.func65 Aa Tryz.ntmps65 Aa (λw Z=>?_);unfold Kg at h;refine An (wa Aa (Ax (ck h λg1 h2=>AU [(2,rB ((decide (0<(v.length:Int)))&&(decide ((ov (Ds F v 0))=(v.length:Int)))))] [] ?_ ?_)))
 ·refine Au (wm Aa (wv (Bo (ys:=v) (enc:=Ab) Ci Aa) (wv (DQ Aa Aa) (wm Aa (AY (decide (0<(v.length:Int))) (λc3=>?_) (λc3=>?_))))))
  ·refine wo c3 (wm Aa (wo c3 (Cl LR (G0 F v 0 (ov (Ds F v 0)) (EQ (CW g1 c3))) Aa (wo c3 (wm Aa (wo c3 (wv (Bo (ys:=v) (enc:=Ab) Ci Aa) (wo c3 (wv (B5 Aa Aa) (EP Aa c3 Aa (wa Aa (At ?_))))))))))));exact Cg c3
  ·refine wf c3 (wf c3 (wf c3 (wf c3 (wf c3 (wv (r:=rB false) (AH Aa c3 Aa) (wa Aa (At ?_)))))));exact Cg c3
 refine A0 ?_;obtain rfl:=A2 h2;exact Az (BI Tryz.results65 (AR Aa)) sN ⟨Aa,Aa⟩
theorem Qe (F:Nat)(hf:(List Ac)→Int→Option (Int))(hj:(∀(v:(List Ac)) (i:Int) (r:Int),hf v i=some r→Fn Tryz.prog GE 66 [AD 4 (Ap Ab v),Aj i] [] (λR H=>R=Aj r∧H=[])))(v:(List Ac))(i:Int)(r:Int)(h:H5 F hf v i=some r):Fn Tryz.prog GE 66 [AD 4 (Ap Ab v),Aj i] [] (λR H=>R=Aj r∧H=[]):=by
 refine enter (n:=47) Tryz.func66 Aa Tryz.ntmps66 Aa (λw Z=>?_);unfold H5 at h;refine An (wa Aa (B4 (wm Aa (wm Aa (ck h λg1 h2=>wv (Bh (enc:=Ab) (ys:=v) Ci Cp Aa Aa g1) (wv (B6 JR Cp Aa Aa Aa) (B3 (cs:=[Aj 0,Aj 0,rS ([]:Aq),Aj 0]) Jn Aa Aa (λb3=>?_))))))));refine AF (i:=0) Cp Aa Aa Aa (Be.c Aa) Aa Aa (cs':=[Aj ((Af v i).fKind),Aj ((Af v i).fInt),rS ((Af v i).fStr),Aj ((Af v i).fN)]) Aa (H':=[.blk b3 (Ab (Af v i)) 63]) Aa (Ax (Av (AU [(0,AD 4 (Ap Ab v)),(1,Aj i),(5,rP b3 0),(21,rB ((!decide (((Af v i).fKind)=5))&&(!decide (((Af v i).fKind)=6))))] [.blk b3 (Ab (Af v i)) 63] ?_ ?_)))
 ·refine Au (vF Bx Aa DY (vL 0 DZ Aa (wv (Dp Aa Aa) (wm Aa (AY (!decide (((Af v i).fKind)=5)) (λc4=>?_) (λc4=>?_))))))
  ·refine wo c4 (vF Bx Aa DY (wo c4 (vL 0 DZ Aa (wo c4 (wv (Dp Aa Aa) (EP Aa c4 Aa (At ?_)))))));exact Cg c4
  ·refine wf c4 (wf c4 (wf c4 (wv (r:=rB false) (AH Aa c4 Aa) (At ?_))));exact Cg c4
 refine cz h2 Aa (λc5 h6=>?_) (λc5 h7=>?_)
 ·refine An (wa Aa (Ax (A0 (Ah ?_))));obtain rfl:=A2 h6;exact Az (BI Tryz.results66 (AR Aa)) (sS sN) ⟨Aa,Aa⟩
 ·refine A1 (AT (An (wa Aa (B4 (wm Aa (ck h7 λg8 h9=>wv (B0 Aa Aa g8) (wa Aa (Ax (Av (An (wa Aa (Ax (AN (ob h9 λhr hs ht=>Bv (S:=Nat×(Int×Int×Int)×(Unit)) (V:=(Int)×(Unit)) 0 (λσ=>BW (λσ=>CD F v i hf σ.1 σ.2.1 σ.2.2) σ.1 σ.2.1=some hr) (λσ=>[(0,AD 4 (Ap Ab v)),(5,rP b3 0),(6,Aj σ.2.1.1),(7,Aj σ.2.1.2.1),(8,Aj σ.2.1.2.2)]) (λσ=>[.blk b3 (Ab (Af v i)) 63]) (λσ=>σ.1) (F,(0,i+1,0),()) hs (AJ.c5 Aa Aa Aa Aa Aa AJ.nil) (sC sN) (λσ=>DI σ.1=some r) (λσ=>[(6,Aj σ.1)]) (λσ=>[]) ?_ ?_))))))))))))))
  ·rintro⟨gi,⟨hd,ha,hb⟩,⟨⟩⟩ hu;refine BM (l':=[(0,AD 4 (Ap Ab v)),(5,rP b3 0),(6,Aj hd),(7,Aj ha),(8,Aj hb)]) (H':=[.blk b3 (Ab (Af v i)) 63]) Aa Aa ?_;obtain⟨hg,rfl,hw,hh,he⟩:=Cz hu;replace hh:CD F v i hf hd ha hb=some hw:=hh;unfold CD at hh;refine Av (An (wm Aa (vF Bx Aa C1 (vL 0 Dm Aa (wv (C2 Aa Aa) (Ax (cz hh Aa (λhx hy=>?_) (λhx hz=>?_))))))))
   ·refine A1 (AT (Av (AN (Av (An (vF Bx Aa DY (vL 0 DZ Aa (wv (B5 Aa Aa) (Ax (cz hy Aa (λh0 h1=>?_) (λh0 h3=>?_)))))))))))
    ·refine Au (wm Aa (ck h1 λh4 h5=>wv (B0 Aa Aa h4) (wa Aa (B4 (wm Aa (wm Aa (ob h5 λhk h8 hA=>Cl Tryz.call66 (hj v (ha+1) hk h8) Aa (wa Aa (Ax (Av (An (wm Aa (wm Aa (wv (DQ Aa Aa) (Ax (cz hA Aa (λhB hC=>?_) (λhB hD=>?_)))))))))))))))))
     ·refine Au (wm Aa (wa Aa (Ax (Au (wm Aa (wm Aa (ob hC λhl hE hG=>Cl LR (G0 F v (ha+1) hl hE) Aa (wa Aa (At (AL (AT (Au (wm Aa (ck hG λhH hI=>wv (B0 Aa Aa hH) (wa Aa (At ?_))))))))))))))));have hJ:=Bn hI he;exact AC (AA (hg,(hk,hl,hb+1),()) ⟨hJ,Xi _⟩ (AJ.c5 Aa Aa Aa Aa Aa AJ.nil) (sC sN))
     ·refine A1 (AT (Au (wm Aa (wm Aa (ob hD λhm hK hL=>Cl LR (G0 F v (ha+1) hm hK) Aa (wa Aa (At (AL (AT (Au (wm Aa (ck hL λhN hO=>wv (B0 Aa Aa hN) (wa Aa (At ?_))))))))))))));have hP:=Bn hO he;exact AC (AA (hg,(hd,hm,hb+1),()) ⟨hP,Xi _⟩ (AJ.c5 Aa Aa Aa Aa Aa AJ.nil) (sC sN))
    ·refine A1 (AT (An (wm Aa (wm Aa (ob h3 λhn hQ hR=>Cl Tryz.call66 (hj v ha hn hQ) Aa (wa Aa (Ax (Av (An (wm Aa (wm Aa (wv (DQ Aa Aa) (Ax (cz hR Aa (λhS hT=>?_) (λhS hU=>?_)))))))))))))))
     ·refine Au (wm Aa (wa Aa (Ax (Au (wm Aa (wm Aa (ob hT λho hV hW=>Cl LR (G0 F v ha ho hV) Aa (wa Aa (At (AL (AT (Au (wm Aa (ck hW λhX hY=>wv (B0 Aa Aa hX) (wa Aa (At ?_))))))))))))))));have hZ:=Bn hY he;exact AC (AA (hg,(hn,ho,hb+1),()) ⟨hZ,Xi _⟩ (AJ.c5 Aa Aa Aa Aa Aa AJ.nil) (sC sN))
     ·refine A1 (AT (Au (wm Aa (wm Aa (ob hU λhp ga gb=>Cl LR (G0 F v ha hp ga) Aa (wa Aa (At (AL (AT (Au (wm Aa (ck gb λgc gd=>wv (B0 Aa Aa gc) (wa Aa (At ?_))))))))))))));have ge:=Bn gd he;exact AC (AA (hg,(hd,hp,hb+1),()) ⟨ge,Xi _⟩ (AJ.c5 Aa Aa Aa Aa Aa AJ.nil) (sC sN))
   ·refine By (A4 ?_);have gf:=BQ hz he ht;exact A4 (Bi (AA (hd,()) gf (AJ.c Aa AJ.nil) (sS sN)))
  ·rintro⟨hq,⟨⟩⟩ hi;refine Cy (l':=[(6,Aj hq)]) (H':=[]) Aa Aa ?_;replace hi:DI hq=some r:=hi;unfold DI at hi;refine Bk (AT (An (wm Aa (ck hi λgg gh=>wv (B0 Aa Aa gg) (wa Aa (Ax (A0 ?_)))))));obtain rfl:=A2 gh;exact Az (BI Tryz.results66 (AR Aa)) sN ⟨Aa,Aa⟩
theorem Ln:∀F:Nat,(∀(v:(List Ac)) (i:Int) (r:Int),CS F v i=some r→Fn Tryz.prog GE 66 [AD 4 (Ap Ab v),Aj i] [] (λR H=>R=Aj r∧H=[]))
  | 0=>(λ_ _ _ h=>by simp[CS] at h)
  | nn+1=>(λv i r h=>Qe nn (CS nn) (Ln nn) v i r (by rw[CS] at h;exact h))
theorem RC (F:Nat)(v:(List Ac))(i:Int)(r:Int)(h:CS F v i=some r):Fn Tryz.prog GE 66 [AD 4 (Ap Ab v),Aj i] [] (λR H=>R=Aj r∧H=[]):=(Ln F) v i r h
theorem KH (F:Nat)(s:Aq)(r:Aq)(h:HM F s=some r):Fn Tryz.prog GE 85 [rS s] [] (λR H=>R=rS r∧H=[]):=by
 refine enter (n:=32) Tryz.func85 Aa Tryz.ntmps85 Aa (λw Z=>?_);unfold HM at h;refine An (wv (r:=rS ([]:Aq)) (AV Aa) (B4 (wv (r:=rS ([34]:Aq)) (AV Aa) (Ax (Av (An (wa Aa (Ax (AN (ob h λhm hn ho=>Bv (S:=Nat×(Aq×Int)×(Unit)) (V:=(Aq)×(Unit)) 0 (λσ=>BW (λσ=>CN s σ.1 σ.2) σ.1 σ.2.1=some hm) (λσ=>[(0,rS s),(3,rS σ.2.1.1),(4,Aj σ.2.1.2)]) (λσ=>[]) (λσ=>σ.1) (F,(([34]:Aq),0),()) hn (AJ.c Aa (AJ.c Aa (AJ.c Aa AJ.nil))) sN (λσ=>Dw σ.1=some r) (λσ=>[(3,rS σ.1)]) (λσ=>[]) ?_ ?_))))))))))
 ·rintro⟨hL,⟨hd,ha⟩,⟨⟩⟩ hp;refine BM (l':=[(0,rS s),(3,rS hd),(4,Aj ha)]) (H':=[]) Aa Aa ?_;obtain⟨hh,rfl,hq,he,hg⟩:=Cz hp;replace he:CN s hd ha=some hq:=he;unfold CN at he;refine Av (An (wm Aa (wm Aa (wv (CJ Gn Aa) (wv (C2 Aa Aa) (Ax (cz he Aa (λhr hs=>?_) (λhr ht=>?_))))))))
  ·refine A1 (AT (Av (AN (Av (ck hs λhi hu=>AU [(0,rS s),(3,rS hd),(4,Aj ha),(20,rB ((decide ((K7 s ha)=34))||(decide ((K7 s ha)=92))))] [] ?_ ?_)))))
   ·refine Au (wm Aa (wm Aa (wv (E2 Gn Aa Aa hi) (wv (B5 Aa Aa) (wm Aa (AY (decide ((K7 s ha)=34)) (λhb=>?_) (λhb=>?_)))))))
    ·refine wf hb (wf hb (wf hb (wf hb (wv (r:=rB true) (Ar Aa hb Aa) (At ?_)))));exact Cg hb
    ·refine wo hb (wm Aa (wo hb (wm Aa (wo hb (wv (E2 Gn Aa Aa hi) (wo hb (wv (B5 Aa Aa) (DB Aa hb Aa (At ?_)))))))));exact Cg hb
   refine cz hu Aa (λhw hx=>?_) (λhw hy=>?_)
   ·refine Au (wm Aa (ck hx λhz h0=>wv (D5 Aa Aa hz) (wa Aa (Ax (Au (wm Aa (wm Aa (wm Aa (wm Aa (ck h0 λhj h1=>wv (B0 Aa Aa hj) (ck h1 λh2 h3=>ck h3 λh4 h5=>wv (J9 Gn Aa Aa Aa h2 h4) (ck h5 λh6 h7=>wv (D5 Aa Aa h6) (wa Aa (At (AL (AT (Au (wm Aa ?_))))))))))))))))));refine wv (B0 Aa Aa hj) (wa Aa (At ?_));have h8:=Bn h7 hg;exact AC (AA (hh,((hd++([92]:Aq))++(List.take (BU (ha+1)-BU ha) (List.drop (BU ha) s)),ha+1),()) ⟨h8,Xi _⟩ (AJ.c Aa (AJ.c Aa (AJ.c Aa AJ.nil))) sN)
   ·refine A1 (AT (Au (wm Aa (wm Aa (wm Aa (wm Aa (ck hy λhk h9=>wv (B0 Aa Aa hk) (ck h9 λhA hB=>ck hB λhC hD=>wv (J9 Gn Aa Aa Aa hA hC) (ck hD λhE hG=>wv (D5 Aa Aa hE) (wa Aa (At (AL (AT (Au (wm Aa (wv (B0 Aa Aa hk) (wa Aa (At ?_))))))))))))))))));have hH:=Bn hG hg;exact AC (AA (hh,(hd++(List.take (BU (ha+1)-BU ha) (List.drop (BU ha) s)),ha+1),()) ⟨hH,Xi _⟩ (AJ.c Aa (AJ.c Aa (AJ.c Aa AJ.nil))) sN)
  ·refine By (A4 ?_);have hI:=BQ ht hg ho;exact A4 (Bi (AA (hd,()) hI (AJ.c Aa AJ.nil) sN))
 ·rintro⟨hl,⟨⟩⟩ hf;refine Cy (l':=[(3,rS hl)]) (H':=[]) Aa Aa ?_;replace hf:Dw hl=some r:=hf;unfold Dw at hf;refine Bk (AT (An (wm Aa (ck hf λhJ hK=>wv (D5 Aa Aa hJ) (wa Aa (Ax (A0 ?_)))))));obtain rfl:=A2 hK;exact Az (BI Tryz.results85 (AR Aa)) sN ⟨Aa,Aa⟩
theorem SX (F:Nat)(hf:(List Ac)→Int→Option (Aq))(hg:(∀(v:(List Ac)) (i:Int) (r:Aq),hf v i=some r→Fn Tryz.prog GE 67 [AD 4 (Ap Ab v),Aj i] [] (λR H=>R=rS r∧H=[])))(v:(List Ac))(i:Int)(r:Aq)(h:KG F hf v i=some r):Fn Tryz.prog GE 67 [AD 4 (Ap Ab v),Aj i] [] (λR H=>R=rS r∧H=[]):=by
 refine enter (n:=77) Tryz.func67 Aa Tryz.ntmps67 Aa (λw Z=>?_);unfold KG at h;refine An (wv (r:=rS ([]:Aq)) (AV Aa) (B4 (wm Aa (wm Aa (ck h λg1 h2=>wv (Bh (enc:=Ab) (ys:=v) Ci Cp Aa Aa g1) (wv (B6 JR Cp Aa Aa Aa) (B3 (cs:=[Aj 0,Aj 0,rS ([]:Aq),Aj 0]) Jn Aa Aa (λb3=>?_))))))));refine AF (i:=0) Cp Aa Aa Aa (Be.c Aa) Aa Aa (cs':=[Aj ((Af v i).fKind),Aj ((Af v i).fInt),rS ((Af v i).fStr),Aj ((Af v i).fN)]) Aa (H':=[.blk b3 (Ab (Af v i)) 63]) Aa (Ax (Av (An (vF Bx Aa DY (vL 0 DZ Aa (wv (B5 Aa Aa) (Ax (cz h2 Aa (λc4 h5=>?_) (λc4 h6=>?_)))))))))
 ·refine An (wv (r:=rS ([110,117,108,108]:Aq)) (AV Aa) (Ax (A0 (Ah ?_))));obtain rfl:=A2 h5;exact Az (BI PR (AR Aa)) (sS sN) ⟨Aa,Aa⟩
 ·refine A1 (AT (Av (An (vF Bx Aa DY (vL 0 DZ Aa (wv (B5 Aa Aa) (Ax (cz h6 Aa (λc7 h8=>?_) (λc7 hw=>?_)))))))))
  ·refine Av (An (vF Bx Aa C1 (vL 0 Dm Aa (wv (B5 Aa Aa) (Ax (cz h8 Aa (λc9 hx=>?_) (λc9 hy=>?_)))))))
   ·refine An (wv (r:=rS ([116,114,117,101]:Aq)) (AV Aa) (Ax (A0 (Ah (Ah ?_)))));obtain rfl:=A2 hx;exact Az (BI PR (AR Aa)) (sS sN) ⟨Aa,Aa⟩
   ·refine A1 (AT (An (wv (r:=rS ([102,97,108,115,101]:Aq)) (AV Aa) (Ax (A0 (Ah ?_))))));obtain rfl:=A2 hy;exact Az (BI PR (AR Aa)) (sS sN) ⟨Aa,Aa⟩
  ·refine A1 (AT (Av (An (vF Bx Aa DY (vL 0 DZ Aa (wv (B5 Aa Aa) (Ax (cz hw Aa (λhz h0=>?_) (λhz h1=>?_)))))))))
   ·refine An (vF Bx Aa C1 (vL 0 Dm Aa (ck h0 λh3 h4=>HI (rs:=[Aj ((Af v i).fInt)]) (r:=rS (Lib.itoa ((Af v i).fInt))) Tryz.call84 Aa (V9 ((Af v i).fInt) h3) Aa Aa (wa Aa (Ax (A0 (Ah ?_)))))));obtain rfl:=A2 h4;exact Az (BI PR (AR Aa)) (sS sN) ⟨Aa,Aa⟩
   ·refine A1 (AT (Av (An (vF Bx Aa DY (vL 0 DZ Aa (wv (B5 Aa Aa) (Ax (cz h1 Aa (λh7 h9=>?_) (λh7 hA=>?_)))))))))
    ·refine An (vF Bx Aa CF (vL 0 CZ Aa (ob h9 λhB hC hD=>Cl Tryz.call85 (KH F ((Af v i).fStr) hB hC) Aa (wa Aa (Ax (A0 (Ah ?_)))))));obtain rfl:=A2 hD;exact Az (BI PR (AR Aa)) (sS sN) ⟨Aa,Aa⟩
    ·refine A1 (AT (An (wv (r:=rS ([]:Aq)) (AV Aa) (B4 (wm Aa (ck hA λhE hG=>wv (B0 Aa Aa hE) (wa Aa (Ax (Av (An (wa Aa (Ax (AN (ob hG λhH hI hJ=>Bv (S:=Nat×(Aq×Int×Int)×(Unit)) (V:=(Aq)×(Unit)) 0 (λσ=>BW (λσ=>DH F v i hf σ.1 σ.2.1 σ.2.2) σ.1 σ.2.1=some hH) (λσ=>[(0,AD 4 (Ap Ab v)),(4,rS ([]:Aq)),(5,rP b3 0),(6,rS σ.2.1.1),(7,Aj σ.2.1.2.1),(8,Aj σ.2.1.2.2)]) (λσ=>[.blk b3 (Ab (Af v i)) 63]) (λσ=>σ.1) (F,(([]:Aq),i+1,0),()) hI (AJ.c Aa (AJ.c5 Aa Aa Aa Aa Aa AJ.nil)) (sC sN) (λσ=>GO v i σ.1=some r) (λσ=>[(4,rS ([]:Aq)),(5,rP b3 0),(6,rS σ.1)]) (λσ=>[.blk b3 (Ab (Af v i)) 63]) ?_ ?_))))))))))))))
     ·rintro⟨cm,⟨hb,ha,hd⟩,⟨⟩⟩ hK;refine BM (l':=[(0,AD 4 (Ap Ab v)),(4,rS ([]:Aq)),(5,rP b3 0),(6,rS hb),(7,Aj ha),(8,Aj hd)]) (H':=[.blk b3 (Ab (Af v i)) 63]) Aa Aa ?_;obtain⟨hh,rfl,hL,hi,he⟩:=Cz hK;replace hi:DH F v i hf hb ha hd=some hL:=hi;unfold DH at hi;refine Av (An (wm Aa (vF Bx Aa C1 (vL 0 Dm Aa (wv (C2 Aa Aa) (Ax (cz hi Aa (λhN hO=>?_) (λhN hP=>?_))))))))
      ·refine A1 (AT (Av (AN (Av (An (wm Aa (wv (DQ Aa Aa) (Ax (cz hO Aa (λhQ hR=>?_) (λhQ hS=>?_))))))))))
       ·refine Au (wm Aa (ck hR λhT hU=>wv (D5 Aa Aa hT) (wa Aa (Ax (Av (An (vF Bx Aa DY (vL 0 DZ Aa (wv (B5 Aa Aa) (Ax (cz hU Aa (λhV hW=>?_) (λhV hX=>?_))))))))))))
        ·refine An (wm Aa (wm Aa (wm Aa (ck hW λhY hZ=>wv (Bh (enc:=Ab) (ys:=v) Ci Cp Aa Aa hY) (wv (AQ Bx Aa CF Aa Aa) (wv (Bg CZ Aa Aa) (ob hZ λhk ga gb=>Cl Tryz.call85 (KH F ((Af v ha).fStr) hk ga) Aa (ck gb λgc gd=>wv (D5 Aa Aa gc) (ck gd λge gf=>wv (D5 Aa Aa ge) (wa Aa (Ax (Au (wm Aa (ck gf λgg gh=>wv (B0 Aa Aa gg) (wa Aa (B4 (wm Aa (wm Aa ?_))))))))))))))))));refine wm Aa (ob gh λhl gi gj=>Cl SF (hg v (ha+1) hl gi) Aa (ck gj λgl gm=>wv (D5 Aa Aa gl) (wa Aa (Ax (Au (wm Aa (wm Aa (ob gm λhm gp gq=>Cl LR (G0 F v (ha+1) hm gp) Aa (wa Aa (At (AL (AT (Au (wm Aa (ck gq λgr gs=>wv (B0 Aa Aa gr) (wa Aa (At ?_)))))))))))))))));have gt:=Bn gs he;exact AC (AA (hh,((((hb++([44]:Aq))++hk)++([58]:Aq))++hl,hm,hd+1),()) ⟨gt,Xi _⟩ (AJ.c Aa (AJ.c5 Aa Aa Aa Aa Aa AJ.nil)) (sC sN))
        ·refine A1 (AT (An (wm Aa (wm Aa (wm Aa (ob hX λhn gu gv=>Cl SF (hg v ha hn gu) Aa (ck gv λgw gx=>wv (D5 Aa Aa gw) (wa Aa (Ax (Au (wm Aa (wm Aa (ob gx λho gy gz=>Cl LR (G0 F v ha ho gy) Aa (wa Aa (At (AL (AT (Au (wm Aa (ck gz λg0 g2=>?_))))))))))))))))))));refine wv (B0 Aa Aa g0) (wa Aa (At ?_));have g3:=Bn g2 he;exact AC (AA (hh,((hb++([44]:Aq))++hn,ho,hd+1),()) ⟨g3,Xi _⟩ (AJ.c Aa (AJ.c5 Aa Aa Aa Aa Aa AJ.nil)) (sC sN))
       ·refine A1 (AT (Av (An (vF Bx Aa DY (vL 0 DZ Aa (wv (B5 Aa Aa) (Ax (cz hS Aa (λg4 g5=>?_) (λg4 g6=>?_)))))))))
        ·refine An (wm Aa (wm Aa (wm Aa (ck g5 λg7 g8=>wv (Bh (enc:=Ab) (ys:=v) Ci Cp Aa Aa g7) (wv (AQ Bx Aa CF Aa Aa) (wv (Bg CZ Aa Aa) (ob g8 λhp g9 gA=>Cl Tryz.call85 (KH F ((Af v ha).fStr) hp g9) Aa (ck gA λgB gC=>wv (D5 Aa Aa gB) (ck gC λgD gE=>wv (D5 Aa Aa gD) (wa Aa (Ax (Au (wm Aa (ck gE λgF gG=>wv (B0 Aa Aa gF) (wa Aa (B4 (wm Aa (wm Aa ?_))))))))))))))))));refine wm Aa (ob gG λhq gH gI=>Cl SF (hg v (ha+1) hq gH) Aa (ck gI λgJ gK=>wv (D5 Aa Aa gJ) (wa Aa (Ax (Au (wm Aa (wm Aa (ob gK λhr gL gM=>Cl LR (G0 F v (ha+1) hr gL) Aa (wa Aa (At (AL (AT (Au (wm Aa (ck gM λgN gO=>wv (B0 Aa Aa gN) (wa Aa (At ?_)))))))))))))))));have gP:=Bn gO he;exact AC (AA (hh,(((hb++hp)++([58]:Aq))++hq,hr,hd+1),()) ⟨gP,Xi _⟩ (AJ.c Aa (AJ.c5 Aa Aa Aa Aa Aa AJ.nil)) (sC sN))
        ·refine A1 (AT (An (wm Aa (wm Aa (wm Aa (ob g6 λhs gQ gR=>Cl SF (hg v ha hs gQ) Aa (ck gR λgS gT=>wv (D5 Aa Aa gS) (wa Aa (Ax (Au (wm Aa (wm Aa (ob gT λht gU gV=>Cl LR (G0 F v ha ht gU) Aa (wa Aa (At (AL (AT (Au (wm Aa (ck gV λgW gX=>?_))))))))))))))))))));refine wv (B0 Aa Aa gW) (wa Aa (At ?_));have gY:=Bn gX he;exact AC (AA (hh,(hb++hs,ht,hd+1),()) ⟨gY,Xi _⟩ (AJ.c Aa (AJ.c5 Aa Aa Aa Aa Aa AJ.nil)) (sC sN))
      ·refine By (A4 ?_);have gZ:=BQ hP he hJ;exact A4 (Bi (AA (hb,()) gZ (AJ.c Aa (AJ.c Aa (AJ.c Aa AJ.nil))) (sC sN)))
     ·rintro⟨hu,⟨⟩⟩ hj;refine Cy (l':=[(4,rS ([]:Aq)),(5,rP b3 0),(6,rS hu)]) (H':=[.blk b3 (Ab (Af v i)) 63]) Aa Aa ?_;replace hj:GO v i hu=some r:=hj;unfold GO at hj;refine Bk (AT (Av (An (vF Bx Aa DY (vL 0 DZ Aa (wv (B5 Aa Aa) (Ax (cz hj Aa (λca cb=>?_) (λca cc=>?_)))))))))
      ·refine An (wm Aa (ck cb λcd ce=>wv (D5 Aa Aa cd) (ck ce λcf cg=>wv (D5 Aa Aa cf) (wa Aa (Ax (A0 (Ah ?_)))))));obtain rfl:=A2 cg;exact Az (BI PR (AR Aa)) (sS sN) ⟨Aa,Aa⟩
      ·refine A1 (AT (An (wm Aa (ck cc λch ci=>wv (D5 Aa Aa ch) (ck ci λcj cl=>wv (D5 Aa Aa cj) (wa Aa (Ax (A0 ?_))))))));obtain rfl:=A2 cl;exact Az (BI PR (AR Aa)) (sS sN) ⟨Aa,Aa⟩
theorem Nj:∀F:Nat,(∀(v:(List Ac)) (i:Int) (r:Aq),Gu F v i=some r→Fn Tryz.prog GE 67 [AD 4 (Ap Ab v),Aj i] [] (λR H=>R=rS r∧H=[]))
  | 0=>(λ_ _ _ h=>by simp[Gu] at h)
  | nn+1=>(λv i r h=>SX nn (Gu nn) (Nj nn) v i r (by rw[Gu] at h;exact h))
theorem U3 (F:Nat)(v:(List Ac))(i:Int)(r:Aq)(h:Gu F v i=some r):Fn Tryz.prog GE 67 [AD 4 (Ap Ab v),Aj i] [] (λR H=>R=rS r∧H=[]):=(Nj F) v i r h
theorem Mf (F:Nat)(v:(List Ac))(r:Int)(h:I1 F v=some r):Fn Tryz.prog GE 41 [AD 4 (Ap Ab v)] [] (λR H=>R=Aj r∧H=[]):=by
 refine enter (n:=61) Tryz.func41 Aa Tryz.ntmps41 Aa (λw Z=>?_);unfold I1 at h;refine An (wa Aa (Ax (Av (An (wm Aa (ob h λr1 e3 h2=>Cl Tryz.call65 (RD F v r1 e3) Aa (wv (B8 Aa) (Ax (cz h2 Aa (λc4 h5=>?_) (λc4 h6=>?_))))))))))
 ·refine An (wa Aa (Ax (A0 (Ah ?_))));obtain rfl:=A2 h5;exact Az (BI Rw (AR Aa)) sN ⟨Aa,Aa⟩
 ·refine A1 (AT (Av (An (wa Aa (Ax (AN (ob h6 λhp hq hn=>Bv (S:=Nat×(Int)×(Unit)) (V:=(Unit)×(Unit)) 0 (λσ=>BW (λσ=>Ed v σ) σ.1 σ.2.1=some hp) (λσ=>[(0,AD 4 (Ap Ab v)),(3,Aj σ.2.1)]) (λσ=>[]) (λσ=>σ.1) (F,0,()) hq (AJ.c Aa (AJ.c Aa AJ.nil)) sN (λσ=>H7 F v =some r) (λσ=>[(0,AD 4 (Ap Ab v))]) (λσ=>[]) ?_ ?_)))))))
  ·rintro⟨ge,he,⟨⟩⟩ hr;refine BM (l':=[(0,AD 4 (Ap Ab v)),(3,Aj he)]) (H':=[]) Aa Aa ?_;obtain⟨hs,rfl,t46,hf,hj⟩:=Cz hr;replace hf:Ed v he=some t46:=hf;unfold Ed at hf;refine Av (An (wm Aa (wm Aa (wv (Bo (ys:=v) (enc:=Ab) Ci Aa) (wv (C2 Aa Aa) (Ax (cz hf Aa (λht hu=>?_) (λht hw=>?_))))))))
   ·refine A1 (AT (Av (AN (ck hu λhk hx=>AU [(0,AD 4 (Ap Ab v)),(3,Aj he),(35,rB ((decide (((Af v he).fKind)=3))&&((decide (((Af v he).fInt)<(-1000000000000)))||(decide (1000000000000<((Af v he).fInt))))))] [] ?_ ?_))))
    ·refine Au (wm Aa (wm Aa (wv (Bh (enc:=Ab) (ys:=v) Ci Cp Aa Aa hk) (wv (AQ Bx Aa DY Aa Aa) (wv (Bg DZ Aa Aa) (wv (B5 Aa Aa) (wm Aa (AY (decide (((Af v he).fKind)=3)) (λha=>?_) (λha=>?_)))))))))
     ·refine wo ha (wm Aa (wo ha (wm Aa (wo ha (wv (Bh (enc:=Ab) (ys:=v) Ci Cp Aa Aa hk) (wo ha (wv (AQ Bx Aa C1 Aa Aa) (wo ha (wv (Bg Dm Aa Aa) (wo ha (wv (C2 Aa Aa) (wo ha (wm Aa (AY (decide (((Af v he).fInt)<(-1000000000000))) (λhb=>?_) (λhb=>?_)))))))))))))))
      ·refine wf hb (wf hb (wf hb (wf hb (wf hb (wf hb (wo ha (wv (r:=rB true) (Ar Aa hb Aa) (EP Aa ha Aa (At ?_)))))))));exact Cg (And.intro ha hb)
      ·refine wo hb (wm Aa (wo hb (wm Aa (wo hb (wv (Bh (enc:=Ab) (ys:=v) Ci Cp Aa Aa hk) (wo hb (wv (AQ Bx Aa C1 Aa Aa) (wo hb (wv (Bg Dm Aa Aa) (wo hb (wv (DQ Aa Aa) (wo ha (DB Aa hb Aa (EP Aa ha Aa (At ?_)))))))))))))));exact Cg (And.intro ha hb)
     ·refine wf ha (wf ha (wf ha (wf ha (wf ha (wf ha (wf ha (wu (wu (wu (wu (wu (wu (wf ha (wv (r:=rB false) (AH Aa ha Aa) (At ?_)))))))))))))));exact Cg ha
    refine cz hx Aa (λhy hz=>?_) (λhy h0=>?_)
    ·refine An (wa Aa (Ax (A0 (A9 (Ah (Ah (Bm ?_)))))));have h1:=B9 hz hj hn;refine A9 (Ah ?_);obtain rfl:=A2 h1;exact Az (BI Rw (AR Aa)) sN ⟨Aa,Aa⟩
    ·refine A1 (AL (AT (Au (wm Aa (ck h0 λh3 h4=>wv (B0 Aa Aa h3) (wa Aa (At ?_)))))));have h7:=Bn h4 hj;exact AC (AA (hs,he+1,()) ⟨h7,Xi _⟩ (AJ.c Aa (AJ.c Aa AJ.nil)) sN)
   ·refine By (A4 ?_);have h8:=BQ hw hj hn;exact A4 (Bi (AA ((),()) h8 (AJ.c Aa AJ.nil) sN))
  ·rintro⟨⟨⟩,⟨⟩⟩ hg;refine Cy (l':=[(0,AD 4 (Ap Ab v))]) (H':=[]) Aa Aa ?_;replace hg:H7 F v =some r:=hg;unfold H7 at hg;refine Bk (AT (Av (ck hg λh9 hA=>AU [(0,AD 4 (Ap Ab v)),(43,rB ((decide (200<(v.length:Int)))||(decide (8<(ov (CS F v 0))))))] [] ?_ ?_)))
   ·refine Au (wm Aa (wv (Bo (ys:=v) (enc:=Ab) Ci Aa) (wv (DQ Aa Aa) (wm Aa (AY (decide (200<(v.length:Int))) (λhd=>?_) (λhd=>?_))))))
    ·refine wf hd (wf hd (wf hd (wv (r:=rB true) (Ar Aa hd Aa) (At ?_))));exact Cg hd
    ·refine wo hd (wm Aa (wo hd (Cl Tryz.call66 (RC F v 0 (ov (CS F v 0)) (EQ (Dj h9 hd))) Aa (wo hd (wv (DQ Aa Aa) (DB Aa hd Aa (At ?_)))))));exact Cg hd
   refine cz hA Aa (λhB hC=>?_) (λhB hD=>?_)
   ·refine An (wa Aa (Ax (A0 (Ah ?_))));obtain rfl:=A2 hC;exact Az (BI Rw (AR Aa)) sN ⟨Aa,Aa⟩
   ·refine A1 (AT (Av (An (wa Aa (Ax (AN (ob hD λhE hG ho=>Bv (S:=Nat×(Int)×(Unit)) (V:=(Unit)×(Unit)) 2 (λσ=>BW (λσ=>Ec v σ) σ.1 σ.2.1=some hE) (λσ=>[(0,AD 4 (Ap Ab v)),(4,Aj σ.2.1)]) (λσ=>[]) (λσ=>σ.1) (F,0,()) hG (AJ.c Aa (AJ.c Aa AJ.nil)) sN (λσ=>H6 F v =some r) (λσ=>[(0,AD 4 (Ap Ab v))]) (λσ=>[]) ?_ ?_)))))))
    ·rintro⟨gf,hl,⟨⟩⟩ hH;refine BM (l':=[(0,AD 4 (Ap Ab v)),(4,Aj hl)]) (H':=[]) Aa Aa ?_;obtain⟨hI,rfl,hJ,hh,hm⟩:=Cz hH;replace hh:Ec v hl=some hJ:=hh;unfold Ec at hh;refine Av (An (wm Aa (wm Aa (wv (Bo (ys:=v) (enc:=Ab) Ci Aa) (wv (C2 Aa Aa) (Ax (cz hh Aa (λhK hL=>?_) (λhK hN=>?_))))))))
     ·refine A1 (AT (Av (AN (An (wm Aa (wm Aa (ck hL λhO hP=>wv (Bh (enc:=Ab) (ys:=v) Ci Cp Aa Aa hO) (wv (AQ Bx Aa CF Aa Aa) (wv (Bg CZ Aa Aa) (wv (CJ Gn Aa) (wv (DQ Aa Aa) (Ax (cz hP Aa (λhQ hR=>?_) (λhQ hS=>?_))))))))))))))
      ·refine An (wa Aa (Ax (A0 (A9 (Ah (Ah (Bm ?_)))))));have hT:=B9 hR hm ho;refine A9 (Ah ?_);obtain rfl:=A2 hT;exact Az (BI Rw (AR Aa)) sN ⟨Aa,Aa⟩
      ·refine A1 (AL (AT (Au (wm Aa (ck hS λhU hV=>wv (B0 Aa Aa hU) (wa Aa (At ?_)))))));have hW:=Bn hV hm;exact AC (AA (hI,hl+1,()) ⟨hW,Xi _⟩ (AJ.c Aa (AJ.c Aa AJ.nil)) sN)
     ·refine By (A4 ?_);have hX:=BQ hN hm ho;exact A4 (Bi (AA ((),()) hX (AJ.c Aa AJ.nil) sN))
    ·rintro⟨⟨⟩,⟨⟩⟩ hi;refine Cy (l':=[(0,AD 4 (Ap Ab v))]) (H':=[]) Aa Aa ?_;replace hi:H6 F v =some r:=hi;unfold H6 at hi;refine Bk (AT (Av (An (wm Aa (ob hi λhY hZ ga=>Cl SF (U3 F v 0 hY hZ) Aa (wv (CJ Gn Aa) (wv (DQ Aa Aa) (Ax (cz ga Aa (λgb gc=>?_) (λgb gd=>?_))))))))))
     ·refine An (wa Aa (Ax (A0 (Ah ?_))));obtain rfl:=A2 gc;exact Az (BI Rw (AR Aa)) sN ⟨Aa,Aa⟩
     ·refine A1 (AT (An (wa Aa (Ax (A0 ?_)))));obtain rfl:=A2 gd;exact Az (BI Rw (AR Aa)) sN ⟨Aa,Aa⟩
end Go.Proofs.YtfbmdidnlhifjaaGreatDoor.Q
namespace Go.Proofs.YtfbmdidnlhifjaaGreatDoor
open Go
set_option linter.unusedVariables false
structure AB where
 fPairs:Bool
 fLeft:Int
 fKey:Bool
 fLast:Aq
 fStarted:Bool
 deriving DecidableEq,Inhabited
structure AM where
 fDepth:Int
 fBytes:Int
 fOutside:Bool
 fLong:Bool
 deriving DecidableEq,Inhabited
def B2 (n:Int):Option (Bool):=
 some ((decide ((-1000000000000)≤n))&&(decide (n≤1000000000000)))
def Hy (s:Aq)(ha:Int):Option (Stp (Int) (Out (Bool) (Unit))):=
 Bq (decide (ha<(s.length:Int))) (Br (Ct ha (s.length:Int))<|Bq (((decide ((K7 s ha)<32))||(decide (126<(K7 s ha))))) (some (.out (.ret false))) (Br (Cj .i64 (ha+1))<|some (.next (ha+1)))) (some (.out (.go ())))
def Hx :Option (Bool):=
 some true
def JT (F:Nat)(s:Aq):Option (Bool):=
 Bt (BW (λσ=>Hy s σ) F 0) (Cf λν=>Hx )
def IJ (s:Aq):Option (Int):=
 Br (Cj .i64 ((s.length:Int)+2))<|Br (Cj .i64 (((s.length:Int)+2)+(Lib.countByte s 34:Int)))<|Br (Cj .i64 ((((s.length:Int)+2)+(Lib.countByte s 34:Int))+(Lib.countByte s 92:Int)))<|some ((((s.length:Int)+2)+(Lib.countByte s 34:Int))+(Lib.countByte s 92:Int))
def LW (F:Nat)(c:Ac):Option (Bool):=
 Bq (decide (c.fKind=1)) (some ((decide (c.fInt=0))&&((decide (c.fStr=([]:Aq)))&&(decide (c.fN=0))))) (Bq (decide (c.fKind=2)) (some (bif decide (c.fInt=0) then((decide (c.fStr=([]:Aq)))&&(decide (c.fN=0))) else((decide (c.fInt=1))&&((decide (c.fStr=([]:Aq)))&&(decide (c.fN=0)))))) (Bq (decide (c.fKind=3)) (some ((decide (c.fStr=([]:Aq)))&&(decide (c.fN=0)))) (Bq (decide (c.fKind=4)) (Br (imp (decide (c.fInt=0)) (imp (decide (c.fN=0)) ((JT F c.fStr).isSome)))<|some ((decide (c.fInt=0))&&((decide (c.fN=0))&&(ov (JT F c.fStr))))) (Bq (decide (c.fKind=5)) (some ((decide (c.fInt=0))&&((decide (c.fStr=([]:Aq)))&&(decide (0≤c.fN))))) (Bq (decide (c.fKind=6)) (some ((decide (c.fInt=0))&&((decide (c.fStr=([]:Aq)))&&(decide (0≤c.fN))))) (some false))))))
def OI (c:Ac):Option (Int):=
 Bq (decide (c.fKind=1)) (some 4) (Bq (decide (c.fKind=2)) (some (IntKind.wrap .i64 (5-c.fInt))) (Bq (decide (c.fKind=3)) (Br (Cj .i64 c.fInt)<|some ((Lib.itoa c.fInt).length:Int)) (Bq (decide (c.fKind=4)) (Bt (IJ c.fStr) λha=>some ha) (some (IntKind.wrap .i64 (2+(max 0 (IntKind.wrap .i64 (c.fN-1)))))))))
def DD (ha:(List AB)):Option (Stp ((List AB)) (Out ((List AB)) ((List AB)))):=
 Bq (decide (0<(ha.length:Int))) (Br (Cj .i64 ((ha.length:Int)-1))<|Br (Ct ((ha.length:Int)-1) (ha.length:Int))<|Br (Cj .i64 (((Af ha ((ha.length:Int)-1)).fLeft)-1))<|NC (List.set ha (Int.toNat ((ha.length:Int)-1)) (AB.mk ((Af ha ((ha.length:Int)-1)).fPairs) (((Af ha ((ha.length:Int)-1)).fLeft)-1) ((Af ha ((ha.length:Int)-1)).fKey) ((Af ha ((ha.length:Int)-1)).fLast) ((Af ha ((ha.length:Int)-1)).fStarted))) λhb=>Bq (decide (0<((Af hb ((ha.length:Int)-1)).fLeft))) (NC (List.set hb (Int.toNat ((ha.length:Int)-1)) (AB.mk ((Af hb ((ha.length:Int)-1)).fPairs) ((Af hb ((ha.length:Int)-1)).fLeft) ((Af hb ((ha.length:Int)-1)).fPairs) ((Af hb ((ha.length:Int)-1)).fLast) ((Af hb ((ha.length:Int)-1)).fStarted))) λhd=>some (.out (.ret hd))) (Br (Cj .i64 ((hb.length:Int)-1))<|Br (PN ((hb.length:Int)-1) (hb.length:Int))<|some (.next (List.take (Int.toNat ((hb.length:Int)-1)) hb)))) (some (.out (.go ha)))
def Et (ha:(List AB)):Option ((List AB)):=
 some ha
def JW (F:Nat)(stack:(List AB)):Option ((List AB)):=
 Bt (BW (λσ=>DD σ) F stack) (Cf λν=>Et ν)
def En (ha:Int)(hb:(List AB))(hd:AM):Option (Stp ((List AB)×Int×AM) (Out (Int×AM×Bool) (AM))):=
 Br (Cj .i64 (ha+1))<|some (.next (hb,ha+1,hd))
def DC (F:Nat)(v:(List Ac))(ha:(List AB))(hb:Int)(hd:AM):Option (Stp ((List AB)×Int×AM) (Out (Int×AM×Bool) (AM))):=
 Bq (decide (hb<(v.length:Int))) (Br (Ct hb (v.length:Int))<|Bt (LW F (Af v hb)) λhj=>Bq (!hj) (some (.out (.ret (0,hd,false)))) (Br (imp (decide (0<(ha.length:Int))) (Cj .i64 ((ha.length:Int)-1)))<|Br (imp (decide (0<(ha.length:Int))) (Ct ((ha.length:Int)-1) (ha.length:Int)))<|Bq (((decide (0<(ha.length:Int)))&&((Af ha ((ha.length:Int)-1)).fKey))) (Br (Cj .i64 ((ha.length:Int)-1))<|Br (Ct ((ha.length:Int)-1) (ha.length:Int))<|Bq (((!decide (((Af v hb).fKind)=4))||(((Af ha ((ha.length:Int)-1)).fStarted)&&(Ce ((Af v hb).fStr) ((Af ha ((ha.length:Int)-1)).fLast)||decide (((Af v hb).fStr)=((Af ha ((ha.length:Int)-1)).fLast)))))) (some (.out (.ret (0,hd,false)))) (NC (List.set ha (Int.toNat ((ha.length:Int)-1)) (AB.mk ((Af ha ((ha.length:Int)-1)).fPairs) ((Af ha ((ha.length:Int)-1)).fLeft) ((Af ha ((ha.length:Int)-1)).fKey) ((Af v hb).fStr) ((Af ha ((ha.length:Int)-1)).fStarted))) λhe=>NC (List.set he (Int.toNat ((ha.length:Int)-1)) (AB.mk ((Af he ((ha.length:Int)-1)).fPairs) ((Af he ((ha.length:Int)-1)).fLeft) ((Af he ((ha.length:Int)-1)).fKey) ((Af he ((ha.length:Int)-1)).fLast) true)) λhf=>NC (List.set hf (Int.toNat ((ha.length:Int)-1)) (AB.mk ((Af hf ((ha.length:Int)-1)).fPairs) ((Af hf ((ha.length:Int)-1)).fLeft) false ((Af hf ((ha.length:Int)-1)).fLast) ((Af hf ((ha.length:Int)-1)).fStarted))) λhk=>Bt (IJ ((Af v hb).fStr)) λhh=>Br (Cj .i64 (hh+1))<|En hb hk (AM.mk hd.fDepth (IntKind.wrap .i64 (hd.fBytes+(hh+1))) hd.fOutside (hd.fLong||(decide (200<(((Af v hb).fStr).length:Int))))))) (Br (Cj .i64 ((ha.length:Int)+1))<|Bt (OI (Af v hb)) λhg=>Br (imp (!hd.fOutside) (imp (decide (((Af v hb).fKind)=3)) ((B2 ((Af v hb).fInt)).isSome)))<|Bq (decide (0<((Af v hb).fN))) (Bq (decide ((v.length:Int)<((Af v hb).fN))) (some (.out (.ret (0,(AM.mk (max hd.fDepth ((ha.length:Int)+1)) (IntKind.wrap .i64 (hd.fBytes+hg)) (hd.fOutside||((decide (((Af v hb).fKind)=3))&&(!(ov (B2 ((Af v hb).fInt)))))) (hd.fLong||(decide (200<(((Af v hb).fStr).length:Int))))),false)))) (Br (L4 48 (ha.length+([(AB.mk (decide (((Af v hb).fKind)=6)) ((Af v hb).fN) (decide (((Af v hb).fKind)=6)) ([]:Aq) false)]:List AB).length))<|En hb (ha++([(AB.mk (decide (((Af v hb).fKind)=6)) ((Af v hb).fN) (decide (((Af v hb).fKind)=6)) ([]:Aq) false)]:List AB)) (AM.mk (max hd.fDepth ((ha.length:Int)+1)) (IntKind.wrap .i64 (hd.fBytes+hg)) (hd.fOutside||((decide (((Af v hb).fKind)=3))&&(!(ov (B2 ((Af v hb).fInt)))))) (hd.fLong||(decide (200<(((Af v hb).fStr).length:Int))))))) (Bt (JW F ha) λhi=>Bq (decide ((hi.length:Int)=0)) (Br (Cj .i64 (hb+1))<|some (.out (.ret (hb+1,(AM.mk (max hd.fDepth ((ha.length:Int)+1)) (IntKind.wrap .i64 (hd.fBytes+hg)) (hd.fOutside||((decide (((Af v hb).fKind)=3))&&(!(ov (B2 ((Af v hb).fInt)))))) (hd.fLong||(decide (200<(((Af v hb).fStr).length:Int))))),true)))) (En hb hi (AM.mk (max hd.fDepth ((ha.length:Int)+1)) (IntKind.wrap .i64 (hd.fBytes+hg)) (hd.fOutside||((decide (((Af v hb).fKind)=3))&&(!(ov (B2 ((Af v hb).fInt)))))) (hd.fLong||(decide (200<(((Af v hb).fStr).length:Int)))))))))) (some (.out (.go hd)))
def JU (ha:AM):Option (Int×AM×Bool):=
 some (0,ha,false)
def JV (F:Nat)(v:(List Ac)):Option (Int×AM×Bool):=
 Bt (BW (λσ=>DC F v σ.1 σ.2.1 σ.2.2) F (([]:List AB),0,(AM.mk 0 0 false false))) (Cf λν=>JU ν)
def KD (F:Nat)(v:(List Ac)):Option (Int):=
 Bt (JV F v) λr1=>Bq (((!r1.2.2)||(!decide (r1.1=(v.length:Int))))) (some 1) (Bq (r1.2.1.fOutside) (some 2) (Bq ((r1.2.1.fLong||((decide (200<(v.length:Int)))||((decide (8<r1.2.1.fDepth))||(decide (4000<r1.2.1.fBytes)))))) (some 3) (some 0)))
def Nb :Option ((List Ac)):=
 some ([(Ac.mk 1 0 ([]:Aq) 0)]:List Ac)
def QL (b:Bool):Option ((List Ac)):=
 Bq (b) (some ([(Ac.mk 2 1 ([]:Aq) 0)]:List Ac)) (some ([(Ac.mk 2 0 ([]:Aq) 0)]:List Ac))
end Go.Proofs.YtfbmdidnlhifjaaGreatDoor
namespace Go.Proofs.YtfbmdidnlhifjaaGreatDoor.Q
open Go Go.RowKit
set_option linter.unusedVariables false
set_option linter.unusedSimpArgs false
set_option maxRecDepth 100000
set_option maxHeartbeats 4000000
@[reducible] def A7 (x:AB):List Rp:=[rB x.fPairs,Aj x.fLeft,rB x.fKey,rS x.fLast,rB x.fStarted]
theorem Ik (x:AB):(A7 x).length=5:=rfl
theorem L5 (x:AB):(A7 x).all (·.one)=true:=rfl
@[reducible] def Bc (x:AM):List Rp:=[Aj x.fDepth,Aj x.fBytes,rB x.fOutside,rB x.fLong]
theorem UM:∃inf,Tryz.prog.info? 120=some inf∧inf.zero=some (.agg #[(.bool false),(.int .i64 0),(.bool false),(.string ⟨#[]⟩),(.bool false)])∧inf.size=5∧inf.bytes=48:=by
  have key:(Tryz.prog.info? 120).map (λi=>(i.zero,i.size,i.bytes))=some (some (.agg #[(.bool false),(.int .i64 0),(.bool false),(.string ⟨#[]⟩),(.bool false)]),5,48):=by kernel_rfl
  obtain⟨inf,h1,h2⟩:=Option.map_eq_some_iff.1 key;simp only[Prod.mk.injEq] at h2;exact⟨inf,h1,h2.1,h2.2.1,h2.2.2⟩
theorem Rn (parts:List (Nat×Value)):Tryz.prog.built 63 parts=Instr.fill (λi=>(#[(0,1),(1,1),(2,1),(3,1)]:Array (Nat×Nat))[i]?) #[(.int .i64 0),(.int .i64 0),(.string ⟨#[]⟩),(.int .i64 0)] parts:=by kernel_rfl
theorem Hb {n:Nat}{c:Cx}{l:Fr}{H:List Ent}{d:Option Nat}{ty:TypeId}{pos:String}{af:Array Edge}{g:Option (Nat×Bool)}{x0:Operand}{r0:Rp}(h0:ev l x0=some r0)(u0:r0.one=true):Bw Tryz.prog n c l H { dst:=d,op:=.build 63 #[(0,x0)],type:=ty,pos:=pos,after:=af,guard:=g } (Bd [r0,Aj 0,rS ([]:Aq),Aj 0]):=λa w Z ha _=>by
  have p0:=ha.ev h0;have c0:=BN (r0.hone u0 Z _ p0);have hb:Tryz.prog.built 63 [(0,a.eval x0)]=some #[a.eval x0,(.int .i64 0),(.string ⟨#[]⟩),(.int .i64 0)]:=by
    rw[Rn];generalize a.eval x0=v0 at *;simp[Instr.fill,c0]
  refine⟨.agg #[a.eval x0,(.int .i64 0),(.string ⟨#[]⟩),(.int .i64 0)],⟨[a.eval x0,(.int .i64 0),(.string ⟨#[]⟩),(.int .i64 0)],rfl,p0,rfl,rfl,rfl,trivial⟩,?_⟩;have:=run_build w 63 #[(0,a.eval x0)] _ (by simpa using hb);simp[execOp,this]
theorem TU (parts:List (Nat×Value)):Tryz.prog.built 120 parts=Instr.fill (λi=>(#[(0,1),(1,1),(2,1),(3,1),(4,1)]:Array (Nat×Nat))[i]?) #[(.bool false),(.int .i64 0),(.bool false),(.string ⟨#[]⟩),(.bool false)] parts:=by kernel_rfl
theorem KP {n:Nat}{c:Cx}{l:Fr}{H:List Ent}{d:Option Nat}{ty:TypeId}{pos:String}{af:Array Edge}{g:Option (Nat×Bool)}{x0:Operand}{r0:Rp}(h0:ev l x0=some r0)(u0:r0.one=true){x1:Operand}{r1:Rp}(h1:ev l x1=some r1)(u1:r1.one=true){x2:Operand}{r2:Rp}(h2:ev l x2=some r2)(u2:r2.one=true):Bw Tryz.prog n c l H { dst:=d,op:=.build 120 #[(0,x0),(1,x1),(2,x2)],type:=ty,pos:=pos,after:=af,guard:=g } (Bd [r0,r1,r2,rS ([]:Aq),rB false]):=λa w Z ha _=>by
  have p0:=ha.ev h0;have c0:=BN (r0.hone u0 Z _ p0);have p1:=ha.ev h1;have c1:=BN (r1.hone u1 Z _ p1);have p2:=ha.ev h2;have c2:=BN (r2.hone u2 Z _ p2);have hb:Tryz.prog.built 120 [(0,a.eval x0),(1,a.eval x1),(2,a.eval x2)]=some #[a.eval x0,a.eval x1,a.eval x2,(.string ⟨#[]⟩),(.bool false)]:=by
    rw[TU];generalize a.eval x0=v0 at *;generalize a.eval x1=v1 at *;generalize a.eval x2=v2 at *;simp[Instr.fill,c0,c1,c2]
  refine⟨.agg #[a.eval x0,a.eval x1,a.eval x2,(.string ⟨#[]⟩),(.bool false)],⟨[a.eval x0,a.eval x1,a.eval x2,(.string ⟨#[]⟩),(.bool false)],rfl,p0,p1,p2,rfl,rfl,trivial⟩,?_⟩;have:=run_build w 120 #[(0,a.eval x0),(1,a.eval x1),(2,a.eval x2)] _ (by simpa using hb);simp[execOp,this]
theorem Mn (n:Int)(r:Bool)(h:B2 n=some r):Fn Tryz.prog GE 79 [Aj n] [] (λR H=>R=rB r∧H=[]):=by
 refine enter (n:=9) Tryz.func79 Aa Tryz.ntmps79 Aa (λw Z=>?_);unfold B2 at h;refine An (wa Aa (Ax (AU [(2,rB ((decide ((-1000000000000)≤n))&&(decide (n≤1000000000000))))] [] ?_ ?_)))
 ·refine Au (wm Aa (wv (MP Aa Aa) (wm Aa (AY (decide ((-1000000000000)≤n)) (λc1=>?_) (λc1=>?_)))))
  ·refine wo c1 (wm Aa (wo c1 (wv (MP Aa Aa) (EP Aa c1 Aa (wa Aa (At ?_))))));exact Cg c1
  ·refine wf c1 (wf c1 (wv (r:=rB false) (AH Aa c1 Aa) (wa Aa (At ?_))));exact Cg c1
 refine A0 ?_;obtain rfl:=A2 h;exact Az (BI Tryz.results79 (AR Aa)) sN ⟨Aa,Aa⟩
theorem Ur (F:Nat)(s:Aq)(r:Bool)(h:JT F s=some r):Fn Tryz.prog GE 92 [rS s] [] (λR H=>R=rB r∧H=[]):=by
 refine enter (n:=20) Tryz.func92 Aa Tryz.ntmps92 Aa (λw Z=>?_);unfold JT at h;refine An (wa Aa (Ax (Av (An (wm Aa (wv (CJ Gn Aa) (wv (r:=Aj 0) (Ay Aa) (Ax (AN (ob h λhi hj hg=>Bv (S:=Nat×(Int)×(Unit)) (V:=(Unit)×(Unit)) 0 (λσ=>BW (λσ=>Hy s σ) σ.1 σ.2.1=some hi) (λσ=>[(0,rS s),(5,Aj (s.length:Int)),(6,Aj σ.2.1)]) (λσ=>[]) (λσ=>σ.1) (F,0,()) hj (AJ.c Aa (AJ.c Aa (AJ.c Aa AJ.nil))) sN (λσ=>Hx =some r) (λσ=>[]) (λσ=>[]) ?_ ?_))))))))))
 ·rintro⟨hz,hb,⟨⟩⟩ hk;refine BM (l':=[(0,rS s),(5,Aj (s.length:Int)),(6,Aj hb)]) (H':=[]) Aa Aa ?_;obtain⟨hl,rfl,t37,hd,hf⟩:=Cz hk;replace hd:Hy s hb=some t37:=hd;unfold Hy at hd;refine An (wv (C2 Aa Aa) (Ax (Av (cz hd Aa (λhm hn=>?_) (λhm ho=>?_)))))
  ·refine A1 (AT (Av (AN (An (wm Aa (wa Aa (Ax (ck hn λhh hp=>AU [(0,rS s),(5,Aj (s.length:Int)),(6,Aj hb),(18,rB ((decide ((K7 s hb)<32))||(decide (126<(K7 s hb)))))] [] ?_ ?_))))))))
   ·refine Au (wm Aa (wm Aa (wv (E2 Gn Aa Aa hh) (wv (C2 Aa Aa) (wm Aa (AY (decide ((K7 s hb)<32)) (λha=>?_) (λha=>?_)))))))
    ·refine wf ha (wf ha (wf ha (wf ha (wv (r:=rB true) (Ar Aa ha Aa) (At ?_)))));exact Cg ha
    ·refine wo ha (wm Aa (wo ha (wm Aa (wo ha (wv (E2 Gn Aa Aa hh) (wo ha (wv (DQ Aa Aa) (DB Aa ha Aa (At ?_)))))))));exact Cg ha
   refine cz hp Aa (λhq hr=>?_) (λhq hs=>?_)
   ·refine An (wa Aa (Ax (A0 (A9 (Ah (Ah (Bm ?_)))))));have ht:=B9 hr hf hg;refine A9 (Ah ?_);obtain rfl:=A2 ht;exact Az (BI Tryz.results92 (AR Aa)) sN ⟨Aa,Aa⟩
   ·refine A1 (AL (AT (Au (ck hs λhu hw=>wv (B0 Aa Aa hu) (wm Aa (At ?_))))));have hx:=Bn hw hf;exact AC (AA (hl,hb+1,()) ⟨hx,Xi _⟩ (AJ.c Aa (AJ.c Aa (AJ.c Aa AJ.nil))) sN)
  ·refine By (A4 ?_);have hy:=BQ ho hf hg;exact A4 (Bi (AA ((),()) hy AJ.nil sN))
 ·rintro⟨⟨⟩,⟨⟩⟩ he;refine Cy (l':=[]) (H':=[]) Aa Aa ?_;replace he:Hx =some r:=he;unfold Hx at he;refine Bk (AT (An (wa Aa (Ax (A0 ?_)))));obtain rfl:=A2 he;exact Az (BI Tryz.results92 (AR Aa)) sN ⟨Aa,Aa⟩
theorem Na (s:Aq)(r:Int)(h:IJ s=some r):Fn Tryz.prog GE 77 [rS s] [] (λR H=>R=Aj r∧H=[]):=by
 refine enter (n:=12) Tryz.func77 Aa Tryz.ntmps77 Aa (λw Z=>?_);unfold IJ at h;refine An (wa Aa (B4 (wm Aa (wv (CJ Gn Aa) (ck h λg1 h2=>wv (B0 Aa Aa g1) (wm Aa (HI (rs:=[rS s,rS ([34]:Aq)]) (r:=Aj (Lib.countByte s 34:Int)) Tryz.call93 Aa (Rm s 34) Aa Aa (ck h2 λg3 h4=>wv (B0 Aa Aa g3) (wm Aa (HI (rs:=[rS s,rS ([92]:Aq)]) (r:=Aj (Lib.countByte s 92:Int)) Tryz.call93 Aa (Rm s 92) Aa Aa (ck h4 λg5 h6=>wv (B0 Aa Aa g5) (wa Aa (Ax (A0 ?_))))))))))))));obtain rfl:=A2 h6;exact Az (BI Tryz.results77 (AR Aa)) sN ⟨Aa,Aa⟩
theorem SP (F:Nat)(c:Ac)(r:Bool)(h:LW F c=some r):Fn Tryz.prog GE 76 [Bd (Ab c)] [] (λR H=>R=rB r∧H=[]):=by
 refine enter (n:=81) Tryz.func76 Aa Tryz.ntmps76 Aa (λw Z=>?_);unfold LW at h;refine An (BH Aa Aa (λb1=>?_));refine wa Aa (Ax (Av (An (vF Bx Aa DY (vL 0 DZ Aa (Ax (AN (An (wv (B5 Aa Aa) (wa Aa (Ax (cz h Aa (λc2 h3=>?_) (λc2 h6=>?_)))))))))))))
 ·refine AU [(2,rB ((decide (c.fInt=0))&&((decide (c.fStr=([]:Aq)))&&(decide (c.fN=0)))))] [] ?_ ?_
  ·refine Au (vF Bx Aa C1 (vL 0 Dm Aa (wv (B5 Aa Aa) (wm Aa (AY (decide (c.fInt=0)) (λc4=>?_) (λc4=>?_))))))
   ·refine wo c4 (vF Bx Aa CF (wo c4 (vL 0 CZ Aa (wo c4 (wv (CC Aa Aa) (EP Aa c4 Aa (wm Aa (AY (decide (c.fStr=([]:Aq))) (λc5=>?_) (λc5=>?_)))))))))
    ·refine wo c5 (vF Bx Aa C1 (wo c5 (vL 0 Dm Aa (wo c5 (wv (B5 Aa Aa) (EP Aa c5 Aa (wa Aa (At ?_))))))));exact Cg (And.intro c4 c5)
    ·refine wf c5 (wf c5 (wf c5 (wv (r:=rB false) (AH Aa c5 Aa) (wa Aa (At ?_)))));exact Cg (And.intro c4 c5)
   ·refine wf c4 (wf c4 (wf c4 (wv (r:=rB false) (AH Aa c4 Aa) (wm Aa (wz Aa Aa (wz Aa Aa (wz Aa Aa (wv (r:=rB false) (AH (b:=false) Aa Aa Aa) (wa Aa (At ?_))))))))));exact Cg c4
  refine A0 (A9 (Ah ?_));obtain rfl:=A2 h3;exact Az (BI PQ (AR Aa)) sN ⟨Aa,Aa⟩
 ·refine An (wv (B5 Aa Aa) (wa Aa (Ax (cz h6 Aa (λc7 h8=>?_) (λc7 hm=>?_)))))
  ·refine AU [(2,rB (bif decide (c.fInt=0) then((decide (c.fStr=([]:Aq)))&&(decide (c.fN=0))) else((decide (c.fInt=1))&&((decide (c.fStr=([]:Aq)))&&(decide (c.fN=0))))))] [] ?_ ?_
   ·refine Au (vF Bx Aa C1 (vL 0 Dm Aa (wv (B5 Aa Aa) (wm Aa (AY (decide (c.fInt=0)) (λc9=>?_) (λc9=>?_))))))
    ·refine wf c9 (wf c9 (wf c9 (wv (r:=rB true) (Ar Aa c9 Aa) (wm Aa (Bz (b:=true) Aa Aa Aa (vF Bx Aa CF (Bz (b:=true) Aa Aa Aa (vL 0 CZ Aa (Bz (b:=true) Aa Aa Aa (wv (CC Aa Aa) (wv (r:=rB (decide (c.fStr=([]:Aq)))) (Ar (b:=true) Aa Aa Aa) (wm Aa (AY (decide (c.fStr=([]:Aq))) (λhg=>?_) (λhg=>?_))))))))))))))
     ·refine wo hg (vF Bx Aa C1 (wo hg (vL 0 Dm Aa (wo hg (wv (B5 Aa Aa) (EP Aa hg Aa (wa Aa (At ?_))))))));exact Cg (And.intro c9 hg)
     ·refine wf hg (wf hg (wf hg (wv (r:=rB false) (AH Aa hg Aa) (wa Aa (At ?_)))));exact Cg (And.intro c9 hg)
    ·refine wo c9 (vF Bx Aa C1 (wo c9 (vL 0 Dm Aa (wo c9 (wv (B5 Aa Aa) (DB Aa c9 Aa (wm Aa (AY (decide (c.fInt=1)) (λhb=>?_) (λhb=>?_)))))))))
     ·refine wo hb (vF Bx Aa CF (wo hb (vL 0 CZ Aa (wo hb (wv (CC Aa Aa) (EP Aa hb Aa (wm Aa (AY (decide (c.fStr=([]:Aq))) (λhh=>?_) (λhh=>?_)))))))))
      ·refine wo hh (vF Bx Aa C1 (wo hh (vL 0 Dm Aa (wo hh (wv (B5 Aa Aa) (EP Aa hh Aa (wa Aa (At ?_))))))));exact Cg (And.intro c9 (And.intro hb hh))
      ·refine wf hh (wf hh (wf hh (wv (r:=rB false) (AH Aa hh Aa) (wa Aa (At ?_)))));exact Cg (And.intro c9 (And.intro hb hh))
     ·refine wf hb (wf hb (wf hb (wv (r:=rB false) (AH Aa hb Aa) (wm Aa (wz Aa Aa (wz Aa Aa (wz Aa Aa (wv (r:=rB false) (AH (b:=false) Aa Aa Aa) (wa Aa (At ?_))))))))));exact Cg (And.intro c9 hb)
   refine A0 (A9 (Ah ?_));obtain rfl:=A2 h8;exact Az (BI PQ (AR Aa)) sN ⟨Aa,Aa⟩
  ·refine An (wv (B5 Aa Aa) (wa Aa (Ax (cz hm Aa (λhn ho=>?_) (λhn hp=>?_)))))
   ·refine AU [(2,rB ((decide (c.fStr=([]:Aq)))&&(decide (c.fN=0))))] [] ?_ ?_
    ·refine Au (vF Bx Aa CF (vL 0 CZ Aa (wv (CC Aa Aa) (wm Aa (AY (decide (c.fStr=([]:Aq))) (λhi=>?_) (λhi=>?_))))))
     ·refine wo hi (vF Bx Aa C1 (wo hi (vL 0 Dm Aa (wo hi (wv (B5 Aa Aa) (EP Aa hi Aa (wa Aa (At ?_))))))));exact Cg hi
     ·refine wf hi (wf hi (wf hi (wv (r:=rB false) (AH Aa hi Aa) (wa Aa (At ?_)))));exact Cg hi
    refine A0 (A9 (Ah ?_));obtain rfl:=A2 ho;exact Az (BI PQ (AR Aa)) sN ⟨Aa,Aa⟩
   ·refine An (wv (B5 Aa Aa) (wa Aa (Ax (cz hp Aa (λhq hr=>?_) (λhq hs=>?_)))))
    ·refine ck hr λht hu=>AU [(2,rB ((decide (c.fInt=0))&&((decide (c.fN=0))&&(ov (JT F c.fStr)))))] [] ?_ ?_
     ·refine Au (vF Bx Aa C1 (vL 0 Dm Aa (wv (B5 Aa Aa) (wm Aa (AY (decide (c.fInt=0)) (λha=>?_) (λha=>?_))))))
      ·refine wo ha (vF Bx Aa C1 (wo ha (vL 0 Dm Aa (wo ha (wv (B5 Aa Aa) (EP Aa ha Aa (wm Aa (AY (decide (c.fN=0)) (λhd=>?_) (λhd=>?_)))))))))
       ·refine wo hd (vF Bx Aa CF (wo hd (vL 0 CZ Aa (wo hd (Cl Tryz.call92 (Ur F c.fStr (ov (JT F c.fStr)) (EQ (CW (CW ht ha) hd))) Aa (EP Aa hd Aa (wa Aa (At ?_))))))));exact Cg (And.intro ha hd)
       ·refine wf hd (wf hd (wf hd (wv (r:=rB false) (AH Aa hd Aa) (wa Aa (At ?_)))));exact Cg (And.intro ha hd)
      ·refine wf ha (wf ha (wf ha (wv (r:=rB false) (AH Aa ha Aa) (wm Aa (wz Aa Aa (wz Aa Aa (wz Aa Aa (wv (r:=rB false) (AH (b:=false) Aa Aa Aa) (wa Aa (At ?_))))))))));exact Cg ha
     refine A0 (A9 (Ah ?_));obtain rfl:=A2 hu;exact Az (BI PQ (AR Aa)) sN ⟨Aa,Aa⟩
    ·refine Av (An (wv (B5 Aa Aa) (wa Aa (Ax (cz hs Aa (λhl hw=>?_) (λhl hx=>?_))))))
     ·refine A1 (AT (G7 Aa hl (AU [(2,rB ((decide (c.fInt=0))&&((decide (c.fStr=([]:Aq)))&&(decide (0≤c.fN)))))] [] ?_ ?_)))
      ·refine Au (vF Bx Aa C1 (vL 0 Dm Aa (wv (B5 Aa Aa) (wm Aa (AY (decide (c.fInt=0)) (λhe=>?_) (λhe=>?_))))))
       ·refine wo he (vF Bx Aa CF (wo he (vL 0 CZ Aa (wo he (wv (CC Aa Aa) (EP Aa he Aa (wm Aa (AY (decide (c.fStr=([]:Aq))) (λhj=>?_) (λhj=>?_)))))))))
        ·refine wo hj (vF Bx Aa C1 (wo hj (vL 0 Dm Aa (wo hj (wv (Iq Aa Aa) (EP Aa hj Aa (wa Aa (At ?_))))))));exact Cg (And.intro he hj)
        ·refine wf hj (wf hj (wf hj (wv (r:=rB false) (AH Aa hj Aa) (wa Aa (At ?_)))));exact Cg (And.intro he hj)
       ·refine wf he (wf he (wf he (wv (r:=rB false) (AH Aa he Aa) (wm Aa (wz Aa Aa (wz Aa Aa (wz Aa Aa (wv (r:=rB false) (AH (b:=false) Aa Aa Aa) (wa Aa (At ?_))))))))));exact Cg he
      refine A0 (A9 (Ah ?_));obtain rfl:=A2 hw;exact Az (BI PQ (AR Aa)) sN ⟨Aa,Aa⟩
     ·refine Au (wv (B5 Aa Aa) (wa Aa (Ax (cz hx Aa (λhy hz=>?_) (λhy h0=>?_)))))
      ·refine AU [(2,rB ((decide (c.fInt=0))&&((decide (c.fStr=([]:Aq)))&&(decide (0≤c.fN)))))] [] ?_ ?_
       ·refine Au (vF Bx Aa C1 (vL 0 Dm Aa (wv (B5 Aa Aa) (wm Aa (AY (decide (c.fInt=0)) (λhf=>?_) (λhf=>?_))))))
        ·refine wo hf (vF Bx Aa CF (wo hf (vL 0 CZ Aa (wo hf (wv (CC Aa Aa) (EP Aa hf Aa (wm Aa (AY (decide (c.fStr=([]:Aq))) (λhk=>?_) (λhk=>?_)))))))))
         ·refine wo hk (vF Bx Aa C1 (wo hk (vL 0 Dm Aa (wo hk (wv (Iq Aa Aa) (EP Aa hk Aa (wa Aa (At ?_))))))));exact Cg (And.intro hf hk)
         ·refine wf hk (wf hk (wf hk (wv (r:=rB false) (AH Aa hk Aa) (wa Aa (At ?_)))));exact Cg (And.intro hf hk)
        ·refine wf hf (wf hf (wf hf (wv (r:=rB false) (AH Aa hf Aa) (wm Aa (wz Aa Aa (wz Aa Aa (wz Aa Aa (wv (r:=rB false) (AH (b:=false) Aa Aa Aa) (wa Aa (At ?_))))))))));exact Cg hf
       refine A0 (A9 (Ah ?_));obtain rfl:=A2 hz;exact Az (BI PQ (AR Aa)) sN ⟨Aa,Aa⟩
      ·refine A1 (AL (AT (An (wa Aa (Ax (A0 ?_))))));obtain rfl:=A2 h0;exact Az (BI PQ (AR Aa)) (sS sN) ⟨Aa,Aa⟩
theorem Us (c:Ac)(r:Int)(h:OI c=some r):Fn Tryz.prog GE 78 [Bd (Ab c)] [] (λR H=>R=Aj r∧H=[]):=by
 refine enter (n:=28) Tryz.func78 Aa Tryz.ntmps78 Aa (λw Z=>?_);unfold OI at h;refine An (BH Aa Aa (λb1=>?_));refine wa Aa (Ax (Av (An (vF Bx Aa DY (vL 0 DZ Aa (Ax (AN (An (wv (B5 Aa Aa) (wa Aa (Ax (cz h Aa (λc2 h3=>?_) (λc2 h4=>?_)))))))))))))
 ·refine An (wa Aa (Ax (A0 (A9 (Ah ?_)))));obtain rfl:=A2 h3;exact Az (BI SB (AR Aa)) (sS sN) ⟨Aa,Aa⟩
 ·refine An (wv (B5 Aa Aa) (wa Aa (Ax (cz h4 Aa (λc5 h6=>?_) (λc5 h7=>?_)))))
  ·refine An (vF Bx Aa C1 (vL 0 Dm Aa (wv (r:=Aj (IntKind.wrap .i64 (5-c.fInt))) (To Aa Aa) (wa Aa (Ax (A0 (A9 (Ah ?_))))))));obtain rfl:=A2 h6;exact Az (BI SB (AR Aa)) (sS sN) ⟨Aa,Aa⟩
  ·refine An (wv (B5 Aa Aa) (wa Aa (Ax (cz h7 Aa (λc8 h9=>?_) (λc8 ha=>?_)))))
   ·refine An (vF Bx Aa C1 (vL 0 Dm Aa (ck h9 λhb hd=>HI (rs:=[Aj c.fInt]) (r:=rS (Lib.itoa c.fInt)) Tryz.call94 Aa (TO c.fInt hb) Aa Aa (wv (CJ Gn Aa) (wa Aa (Ax (A0 (A9 (Ah ?_)))))))));obtain rfl:=A2 hd;exact Az (BI SB (AR Aa)) (sS sN) ⟨Aa,Aa⟩
   ·refine An (wv (B5 Aa Aa) (wa Aa (Ax (cz ha Aa (λhe hf=>?_) (λhe hg=>?_)))))
    ·refine An (vF Bx Aa CF (vL 0 CZ Aa (ob hf λhh hi hj=>Cl Tryz.call77 (Na c.fStr hh hi) Aa (wa Aa (Ax (A0 (A9 (Ah ?_))))))));obtain rfl:=A2 hj;exact Az (BI SB (AR Aa)) (sS sN) ⟨Aa,Aa⟩
    ·refine A1 (AL (AT (An (vF Bx Aa C1 (vL 0 Dm Aa (wv (r:=Aj (IntKind.wrap .i64 (c.fN-1))) (To Aa Aa) (wv (Vl Wz Aa Aa) (wv (r:=Aj (IntKind.wrap .i64 (2+(max 0 (IntKind.wrap .i64 (c.fN-1)))))) (Qu Aa Aa) (wa Aa (Ax (A0 ?_)))))))))));obtain rfl:=A2 hg;exact Az (BI SB (AR Aa)) (sS sN) ⟨Aa,Aa⟩
theorem R2 (F:Nat)(hi:Value)(stack:(List AB))(r:(List AB))(h:JW F stack=some r):Fn Tryz.prog GE 80 [rv hi] [.row hi 120 5 (Ap A7 stack)] (λR H=>∃u0:Value,R=rv u0∧H=[.row u0 120 5 (Ap A7 r)]):=by
 refine enter (n:=38) Tryz.func80 Aa Tryz.ntmps80 Aa (λw Z=>?_);unfold JW at h;refine An (wa Aa (Ax (Av (AN (ob h λhn ho hl=>Bv (S:=Nat×((List AB))×(Value)) (V:=((List AB))×(Value)) 0 (λσ=>BW (λσ=>DD σ) σ.1 σ.2.1=some hn) (λσ=>[(0,rv σ.2.2),(2,rv (.slice none 0 0))]) (λσ=>[.row σ.2.2 120 5 (Ap A7 σ.2.1)]) (λσ=>σ.1) (F,stack,hi) ho (AJ.c Aa (AJ.c Aa AJ.nil)) (sC sN) (λσ=>Et σ.1=some r) (λσ=>[(0,rv σ.2),(2,rv (.slice none 0 0))]) (λσ=>[.row σ.2 120 5 (Ap A7 σ.1)]) ?_ ?_)))))
 ·rintro⟨hG,ha,hd⟩ hp;refine BM (l':=[(0,rv hd),(2,rv (.slice none 0 0))]) (H':=[.row hd 120 5 (Ap A7 ha)]) Aa Aa ?_;obtain⟨hq,rfl,hr,hg,hj⟩:=Cz hp;replace hg:DD ha=some hr:=hg;unfold DD at hg;refine Av (An (wm Aa (wv (Ca (ys:=ha) (enc:=A7) (i:=0) Ih Aa Aa) (wv (DQ Aa Aa) (Ax (cz hg Aa (λhs ht=>?_) (λhs hu=>?_)))))))
  ·refine A1 (AT (AN (An (wm Aa (wm Aa (wv (Ca (ys:=ha) (enc:=A7) (i:=0) Ih Aa Aa) (ck ht λhw hx=>wv (Np Aa Aa hw) (ck hx λhe hy=>wv (r:=rv (C0 5 hd (BU ((ha.length:Int)-1)) 0)) (Cd (i:=0) Ih OA Aa Aa Aa (AX he)) (wa Aa (B4 (wm Aa (wv (r:=rv (C0 5 hd (BU ((ha.length:Int)-1)) 0)) (Cv (k:=0) Aa (AX he) Aa Aa) (wv (r:=rv (C0 5 hd (BU ((ha.length:Int)-1)) 1)) (BE (k:=0) Ig Aa C1 Aa (AX he) Aa Aa Aa) (wv (r:=Aj ((Af ha ((ha.length:Int)-1)).fLeft)) (Cs (enc:=A7) (ys:=ha) (i:=0) (j:=(ha.length:Int)-1) Dm Aa Aa he Aa) (ck hy λhz h0=>wv (Np Aa Aa hz) (wv (r:=rv (C0 5 hd (BU ((ha.length:Int)-1)) 0)) (Cv (k:=0) Aa (AX he) Aa Aa) (wv (r:=rv (C0 5 hd (BU ((ha.length:Int)-1)) 1)) (BE (k:=0) Ig Aa C1 Aa (AX he) Aa Aa Aa) (J0 (enc:=A7) (ys:=ha) (y':=(AB.mk ((Af ha ((ha.length:Int)-1)).fPairs) (((Af ha ((ha.length:Int)-1)).fLeft)-1) ((Af ha ((ha.length:Int)-1)).fKey) ((Af ha ((ha.length:Int)-1)).fLast) ((Af ha ((ha.length:Int)-1)).fStarted))) (i:=0) (j:=(ha.length:Int)-1) C1 Aa Aa (C7 Aa) Aa he Aa Aa (H':=[.row hd 120 5 (Ap A7 (List.set ha (BU ((ha.length:Int)-1)) (AB.mk ((Af ha ((ha.length:Int)-1)).fPairs) (((Af ha ((ha.length:Int)-1)).fLeft)-1) ((Af ha ((ha.length:Int)-1)).fKey) ((Af ha ((ha.length:Int)-1)).fLast) ((Af ha ((ha.length:Int)-1)).fStarted))))]) Aa (bd h0 λhb hf h1=>?_)))))))))))))))))));rw[← hf];refine Ax (Av (An (wm Aa (wv (r:=rv (C0 5 hd (BU ((ha.length:Int)-1)) 0)) (Cv (k:=0) Aa (AX (CT he hf)) Aa Aa) (wv (r:=rv (C0 5 hd (BU ((ha.length:Int)-1)) 1)) (BE (k:=0) Ig Aa C1 Aa (AX (CT he hf)) Aa Aa Aa) (wv (r:=Aj ((Af hb ((ha.length:Int)-1)).fLeft)) (Cs (enc:=A7) (ys:=hb) (i:=0) (j:=(ha.length:Int)-1) Dm Aa Aa (CT he hf) Aa) (wv (DQ Aa Aa) (Ax (cz h1 Aa (λh2 h3=>?_) (λh2 h4=>?_))))))))))
   ·refine An (wm Aa (wm Aa (wv (r:=rv (C0 5 hd (BU ((ha.length:Int)-1)) 0)) (Cv (k:=0) Aa (AX (CT he hf)) Aa Aa) (wv (r:=rv (C0 5 hd (BU ((ha.length:Int)-1)) 0)) (BE (k:=0) Ig Aa JQ Aa (AX (CT he hf)) Aa Aa Aa) (wv (r:=rB ((Af hb ((ha.length:Int)-1)).fPairs)) (Cs (enc:=A7) (ys:=hb) (i:=0) (j:=(ha.length:Int)-1) Ul Aa Aa (CT he hf) Aa) (wv (r:=rv (C0 5 hd (BU ((ha.length:Int)-1)) 0)) (Cv (k:=0) Aa (AX (CT he hf)) Aa Aa) (wv (r:=rv (C0 5 hd (BU ((ha.length:Int)-1)) 2)) (BE (k:=0) Ig Aa JQ Aa (AX (CT he hf)) Aa Aa Aa) (J0 (enc:=A7) (ys:=hb) (y':=(AB.mk ((Af hb ((ha.length:Int)-1)).fPairs) ((Af hb ((ha.length:Int)-1)).fLeft) ((Af hb ((ha.length:Int)-1)).fPairs) ((Af hb ((ha.length:Int)-1)).fLast) ((Af hb ((ha.length:Int)-1)).fStarted))) (i:=0) (j:=(ha.length:Int)-1) JQ Aa Aa (C7 Aa) Aa (CT he hf) Aa Aa (H':=[.row hd 120 5 (Ap A7 (List.set hb (BU ((ha.length:Int)-1)) (AB.mk ((Af hb ((ha.length:Int)-1)).fPairs) ((Af hb ((ha.length:Int)-1)).fLeft) ((Af hb ((ha.length:Int)-1)).fPairs) ((Af hb ((ha.length:Int)-1)).fLast) ((Af hb ((ha.length:Int)-1)).fStarted))))]) Aa (bd h3 λhH h5 h6=>?_)))))))));rw[← h5];refine B4 (wm Aa (wa Aa (Ax (A0 (Ah (A9 (Ah (Bm ?_))))))));have h7:=B9 h6 hj hl;refine A9 (Ah ?_);obtain rfl:=A2 h7;exact Az (BI Tryz.results80 (AR Aa)) (sC sN) ⟨hd,Aa,Aa⟩
   ·refine A1 (AT (Au (wm Aa (wm Aa (wv (Ca (ys:=hb) (enc:=A7) (i:=0) Ih Aa Aa) (ck h4 λh8 h9=>wv (Np Aa Aa h8) (ck h9 λhA hB=>VO (i:=0) Ih OA Aa Aa Aa hA Aa (λhC=>?_))))))));refine wa Aa (At (AL ?_));have hD:=Bn hB hj;exact AC (AA (hq,List.take (BU ((hb.length:Int)-1)) hb,hC) ⟨hD,Xi _⟩ (AJ.c Aa (AJ.c Aa AJ.nil)) (sC sN))
  ·refine By (A4 ?_);have hE:=BQ hu hj hl;exact A4 (Bi (AA (ha,hd) hE (AJ.c Aa (AJ.c Aa AJ.nil)) (sC sN)))
 ·rintro⟨hm,hk⟩ hh;refine Cy (l':=[(0,rv hk),(2,rv (.slice none 0 0))]) (H':=[.row hk 120 5 (Ap A7 hm)]) Aa Aa ?_;replace hh:Et hm=some r:=hh;unfold Et at hh;refine Bk (AT (An (wm Aa (wa Aa (Ax (A0 ?_))))));obtain rfl:=A2 hh;exact Az (BI Tryz.results80 (AR Aa)) (sC sN) ⟨hk,Aa,Aa⟩
theorem Uu (F:Nat)(v:(List Ac))(r:Int×AM×Bool)(h:JV F v=some r):Fn Tryz.prog GE 56 [AD 4 (Ap Ab v)] [] (λR H=>R=Dk [Aj r.1,Bd (Bc r.2.1),rB r.2.2]∧H=[]):=by
 refine enter (n:=152) Tryz.func56 Aa Tryz.ntmps56 Aa (λw Z=>?_);unfold JV at h;refine An (wa Aa (B3 (cs:=[Aj 0,Aj 0,rB false,rB false]) Tryz.zeroValue105 Aa Aa (λb1=>?_)));refine wa Aa (Ax (SL (An (B3 (cs:=[Aj 0,Aj 0,rB false,rB false]) Tryz.zeroValue105 Aa Aa (λb2=>?_)))));refine B4 (wa Aa (Ax (Av (SM (AT (Av (An (wm Aa (wv (Bo (ys:=v) (enc:=Ab) Ci Aa) (wv (r:=Aj 0) (Ay Aa) (Ax (AN (WC.nilrow (e:=120) (sz:=5) (Gy (H2:=[.blk b2 [Aj 0,Aj 0,rB false,rB false] 105,.blk b1 [Aj 0,Aj 0,rB false,rB false] 105,.row (.slice none 0 0                                                                                                                        ) 120 5 (Ap A7 ([]:List AB))]) ((Ae (i:=1) Aa).trans (WZ _ ((Ae (i:=1) Aa).trans (WZ _ (Xd _))))) (ob h λhA hB hy=>Bv (S:=Nat×((List AB)×Int×AM)×(Value)) (V:=(AM)×(Unit)) 0 (λσ=>BW (λσ=>DC F v σ.1 σ.2.1 σ.2.2) σ.1 σ.2.1=some hA) (λσ=>[(0,AD 4 (Ap Ab v)),(3,rP b1 0),(5,rP b2 0),(6,rv σ.2.2),(11,AD 4 (Ap Ab v)),(12,Aj (v.length:Int)),(13,Aj σ.2.1.2.1)]) (λσ=>[.blk b2 (Bc σ.2.1.2.2) 105,.blk b1 [Aj 0,Aj 0,rB false,rB false] 105,.row σ.2.2 120 5 (Ap A7 σ.2.1.1)]) (λσ=>σ.1) (F,(([]:List AB),0,(AM.mk 0 0 false false)),(.slice none 0 0                                                                                                                        )) hB (AJ.c Aa (AJ.c Aa (AJ.c5 Aa Aa Aa Aa Aa AJ.nil))) (sC (sC (sC sN))) (λσ=>JU σ.1=some r) (λσ=>[(3,rP b1 0),(5,rP b2 0)]) (λσ=>[.blk b2 (Bc σ.1) 105,.blk b1 [Aj 0,Aj 0,rB false,rB false] 105]) ?_ ?_)))))))))))))))
 ·rintro⟨gI,⟨hd,hb,ha⟩,he⟩ hC;refine BM (l':=[(0,AD 4 (Ap Ab v)),(3,rP b1 0),(5,rP b2 0),(6,rv he),(11,AD 4 (Ap Ab v)),(12,Aj (v.length:Int)),(13,Aj hb)]) (H':=[.blk b2 (Bc ha) 105,.blk b1 [Aj 0,Aj 0,rB false,rB false] 105,.row he 120 5 (Ap A7 hd)]) Aa Aa ?_;obtain⟨hD,rfl,h4,h0,hx⟩:=Cz hC;replace h0:DC F v hd hb ha=some h4:=h0;unfold DC at h0;refine An (wv (C2 Aa Aa) (Ax (Av (cz h0 Aa (λhE hG=>?_) (λhE hH=>?_)))))
  ·refine A1 (AT (Co (S:=((List AB)×AM)×(Value)) (λσ=>En hb σ.1.1 σ.1.2=some h4) (λσ=>[(0,AD 4 (Ap Ab v)),(3,rP b1 0),(5,rP b2 0),(6,rv σ.2),(11,AD 4 (Ap Ab v)),(12,Aj (v.length:Int)),(13,Aj hb)]) (λσ=>[.blk b2 (Bc σ.1.2) 105,.blk b1 [Aj 0,Aj 0,rB false,rB false] 105,.row σ.2 120 5 (Ap A7 σ.1.1)]) ?_ ?_))
   ·refine AN (An (wm Aa (ck hG λhI hJ=>wv (Bh (enc:=Ab) (ys:=v) Ci Cp Aa Aa hI) (wv (B6 JR Cp Aa Aa Aa) (B3 (cs:=[Aj 0,Aj 0,rS ([]:Aq),Aj 0]) Jn Aa Aa (λhf=>?_))))));refine wa Aa (AF (i:=0) Cp Aa Aa Aa (Be.c Aa) Aa Aa (cs':=[Aj ((Af v hb).fKind),Aj ((Af v hb).fInt),rS ((Af v hb).fStr),Aj ((Af v hb).fN)]) Aa (H':=[.blk hf (Ab (Af v hb)) 63,.blk b2 (Bc ha) 105,.blk b1 [Aj 0,Aj 0,rB false,rB false] 105,.row he 120 5 (Ap A7 hd)]) Aa (Ax (Av (An (wv (Bf (i:=0) JR Cp Aa Aa Aa Aa) (ob hJ λhK hL hN=>Cl Tryz.call76 (SP F (Af v hb) hK hL) Aa (wv (B8 Aa) (Ax (cz hN Aa (λhO hP=>?_) (λhO hQ=>?_))))))))))
    ·refine Av (Iu (H1:=[.blk hf (Ab (Af v hb)) 63,.blk b2 (Bc ha) 105,.blk b1 (Bc ha) 105,.row he 120 5 (Ap A7 hd)]) [3,5] [⟨[],Bd (Bc ha),1⟩,⟨[],Aj 0,0⟩,⟨[0],rv undef,2⟩,⟨[],rB false,0⟩] (rle [(3,_),(2,[.blk hf (Ab (Af v hb)) 63,.blk b2 (Bc ha) 105,.blk b1 (Bc ha) 105,.row he 120 5 (Ap A7 hd)])]) [2,4,3] ?_ ?_)
     ·refine of (Bf (i:=1) Jo Gt Aa Aa Aa Aa) (oq (AV Aa) (Mk Aa (Pc (D2 (i:=2) Gt Aa Aa Aa (Be.c Aa) Aa Aa (cs':=[Aj ha.fDepth,Aj ha.fBytes,rB ha.fOutside,rB ha.fLong]) Aa (H':=[.blk hf (Ab (Af v hb)) 63,.blk b2 (Bc ha) 105,.blk b1 (Bc ha) 105,.row he 120 5 (Ap A7 hd)]) Aa)) ?_));refine oq (AV Aa) ?_;exact Di
     refine AT (A0 (Ah (A9 (Ah (Ah (Bm ?_))))));have hR:=B9 hP hx hy;refine A9 (Ah (JS ?_));obtain rfl:=A2 hR;exact Az (LB SD (AR Aa) (BO (i:=2) Jo Gt Aa Aa Aa) (AR Aa)) (sS (sS (sS (sS sN)))) ⟨Aa,Aa⟩
    ·refine A1 (AT (Av (An (wm Aa (wv (Ca (ys:=hd) (enc:=A7) (i:=3) Ih Aa Aa) (wa Aa (Ax (ck hQ λhS hT=>ck hT λh5 hU=>AU [(0,AD 4 (Ap Ab v)),(3,rP b1 0),(5,rP b2 0),(6,rv he),(7,Aj hb),(8,rP hf 0),(9,Aj (hd.length:Int)),(11,AD 4 (Ap Ab v)),(12,Aj (v.length:Int)),(13,Aj hb),(33,rB ((decide (0<(hd.length:Int)))&&((Af hd ((hd.length:Int)-1)).fKey)))] [.blk hf (Ab (Af v hb)) 63,.blk b2 (Bc ha) 105,.blk b1 [Aj 0,Aj 0,rB false,rB false] 105,.row he 120 5 (Ap A7 hd)] ?_ ?_))))))))
     ·refine Au (wm Aa (wv (DQ Aa Aa) (wm Aa (AY (decide (0<(hd.length:Int))) (λhi=>?_) (λhi=>?_)))))
      ·refine wo hi (wm Aa (wo hi (wm Aa (wo hi (wv (Np Aa Aa (CW hS hi)) (wo hi (wv (r:=rv (C0 5 he (BU ((hd.length:Int)-1)) 0)) (Cd (i:=3) Ih OA Aa Aa Aa (AX (CW h5 hi))) (wo hi (wv (r:=rv (C0 5 he (BU ((hd.length:Int)-1)) 2)) (BE (k:=3) Ig Aa JQ Aa (AX (CW h5 hi)) Aa Aa Aa) (wo hi (wv (r:=rB ((Af hd ((hd.length:Int)-1)).fKey)) (Cs (enc:=A7) (ys:=hd) (i:=3) (j:=(hd.length:Int)-1) Ul Aa Aa (CW h5 hi) Aa) (EP Aa hi Aa (At ?_)))))))))))));exact Cg hi
      ·refine wf hi (wf hi (wf hi (wf hi (wf hi (wf hi (wv (r:=rB false) (AH Aa hi Aa) (At ?_)))))));exact Cg hi
     refine cz hU Aa (λhV hW=>?_) (λhV hX=>?_)
     ·refine An (wm Aa (wm Aa (ck hW λhY hZ=>wv (Np Aa Aa hY) (ck hZ λhj ga=>wv (r:=rv (C0 5 he (BU ((hd.length:Int)-1)) 0)) (Cd (i:=3) Ih OA Aa Aa Aa (AX hj)) (wa Aa (Ax (Av (AU [(0,AD 4 (Ap Ab v)),(3,rP b1 0),(5,rP b2 0),(6,rv he),(8,rP hf 0),(10,rv (C0 5 he (BU ((hd.length:Int)-1)) 0)),(11,AD 4 (Ap Ab v)),(12,Aj (v.length:Int)),(13,Aj hb),(38,rP hf 0),(39,Aj ((Af v hb).fKind)),(40,rB (!decide (((Af v hb).fKind)=4))),(41,rB (!decide (((Af v hb).fKind)=4))),(55,rB ((!decide (((Af v hb).fKind)=4))||(((Af hd ((hd.length:Int)-1)).fStarted)&&(Ce ((Af v hb).fStr) ((Af hd ((hd.length:Int)-1)).fLast)||decide (((Af v hb).fStr)=((Af hd ((hd.length:Int)-1)).fLast))))))] [.blk hf (Ab (Af v hb)) 63,.blk b2 (Bc ha) 105,.blk b1 [Aj 0,Aj 0,rB false,rB false] 105,.row he 120 5 (Ap A7 hd)] ?_ ?_))))))))
      ·refine AY (!decide (((Af v hb).fKind)=4)) (λhh=>?_) (λhh=>?_)
       ·refine Df [0,3,5,6,8,10,11,12,13] [⟨[],rP hf 0,0⟩,⟨[0],Aj ((Af v hb).fKind),1⟩,⟨[1],rB (!decide (((Af v hb).fKind)=4)),0⟩,⟨[2],rB (!decide (((Af v hb).fKind)=4)),0⟩,⟨[3],rv undef,0⟩,⟨[4,3],rv undef,0⟩,⟨[5,3],rv undef,0⟩,⟨[6,3],rv undef,0⟩,⟨[7,3],rv undef,0⟩,⟨[8],rv undef,0⟩,⟨[9,8],rv undef,0⟩,⟨[8],rv undef,0⟩,⟨[11,8],rv undef,0⟩,⟨[12,8],rv undef,0⟩,⟨[13,8],rv undef,0⟩,⟨[10,14,8],rv undef,0⟩,⟨[8,15,3],rv undef,0⟩,⟨[3,16],rB true,0⟩] [38,39,40,41,42,43,44,45,46,47,48,49,50,51,52,53,54,55,0,3,5,6,8,10,11,12,13] ?_ ?_
        ·refine oq (AS Bx Aa DY Aa Aa) (of (B1 (i:=0) DZ Aa Aa Aa) (oq (Dp Aa Aa) (oq (Ay Aa) (oz hh (oz hh (oz hh (oz hh (oz hh (ou (ou (ou (ou (ou (ou (ou (oz hh (oq (Ar (b:=!decide (((Af v hb).fKind)=4)) Aa hh Aa) ?_)))))))))))))))));exact Di
        exact Cg hh
       ·refine AY ((Af hd ((hd.length:Int)-1)).fStarted) (λhk=>?_) (λhk=>?_)
        ·refine Df [0,3,5,6,8,10,11,12,13] [⟨[],rP hf 0,0⟩,⟨[0],Aj ((Af v hb).fKind),1⟩,⟨[1],rB (!decide (((Af v hb).fKind)=4)),0⟩,⟨[2],rB (!decide (((Af v hb).fKind)=4)),0⟩,⟨[3],rv (C0 5 he (BU ((hd.length:Int)-1)) 0),0⟩,⟨[4,3],rv (C0 5 he (BU ((hd.length:Int)-1)) 0),1⟩,⟨[5,3],rv (C0 5 he (BU ((hd.length:Int)-1)) 4),1⟩,⟨[6,3],rB ((Af hd ((hd.length:Int)-1)).fStarted),1⟩,⟨[7,3],rB ((Af hd ((hd.length:Int)-1)).fStarted),0⟩,⟨[8],rP hf 2,0⟩,⟨[9,8],rS ((Af v hb).fStr),1⟩,⟨[8],rv (C0 5 he (BU ((hd.length:Int)-1)) 0),0⟩,⟨[11,8],rv (C0 5 he (BU ((hd.length:Int)-1)) 0),1⟩,⟨[12,8],rv (C0 5 he (BU ((hd.length:Int)-1)) 3),1⟩,⟨[13,8],rS ((Af hd ((hd.length:Int)-1)).fLast),1⟩,⟨[10,14,8],rB (Ce ((Af v hb).fStr) ((Af hd ((hd.length:Int)-1)).fLast)||decide (((Af v hb).fStr)=((Af hd ((hd.length:Int)-1)).fLast))),0⟩,⟨[8,15,3],rB (Ce ((Af v hb).fStr) ((Af hd ((hd.length:Int)-1)).fLast)||decide (((Af v hb).fStr)=((Af hd ((hd.length:Int)-1)).fLast))),0⟩,⟨[3,16],rB (Ce ((Af v hb).fStr) ((Af hd ((hd.length:Int)-1)).fLast)||decide (((Af v hb).fStr)=((Af hd ((hd.length:Int)-1)).fLast))),0⟩] [38,39,40,41,42,43,44,45,46,47,48,49,50,51,52,53,54,55,0,3,5,6,8,10,11,12,13] ?_ ?_
         ·refine oq (AS Bx Aa DY Aa Aa) (of (B1 (i:=0) DZ Aa Aa Aa) (oq (Dp Aa Aa) (oq (Ay Aa) (on hh (oq (Ay Aa) (on hh (of (Cv (k:=3) Aa (AX hj) Aa Aa) (on hh (of (BE (k:=3) Ig Aa JQ Aa (AX hj) Aa Aa Aa) (on hh (of (Cs (enc:=A7) (ys:=hd) (i:=3) (j:=(hd.length:Int)-1) Ul Aa Aa hj Aa) (on hh (oq (Ay Aa) (on hk (oq (AS Bx Aa CF Aa Aa) (on hk (of (B1 (i:=0) CZ Aa Aa Aa) (on hk (oq (Ay Aa) (on hk (of (Cv (k:=3) Aa (AX hj) Aa Aa) (on hk (of (BE (k:=3) Ig Aa CF Aa (AX hj) Aa Aa Aa) ?_)))))))))))))))))))))));refine on hk (of (Cs (enc:=A7) (ys:=hd) (i:=3) (j:=(hd.length:Int)-1) CZ Aa Aa hj Aa) (on hk (oq (Tp Aa Aa) (on hh (oq (Ar Aa hk Aa) (oq (AH Aa hh Aa) ?_))))));exact Di
         exact Cg (And.intro hh hk)
        ·refine Df [0,3,5,6,8,10,11,12,13] [⟨[],rP hf 0,0⟩,⟨[0],Aj ((Af v hb).fKind),1⟩,⟨[1],rB (!decide (((Af v hb).fKind)=4)),0⟩,⟨[2],rB (!decide (((Af v hb).fKind)=4)),0⟩,⟨[3],rv (C0 5 he (BU ((hd.length:Int)-1)) 0),0⟩,⟨[4,3],rv (C0 5 he (BU ((hd.length:Int)-1)) 0),1⟩,⟨[5,3],rv (C0 5 he (BU ((hd.length:Int)-1)) 4),1⟩,⟨[6,3],rB ((Af hd ((hd.length:Int)-1)).fStarted),1⟩,⟨[7,3],rB ((Af hd ((hd.length:Int)-1)).fStarted),0⟩,⟨[8],rv undef,0⟩,⟨[9,8],rv undef,0⟩,⟨[8],rv undef,0⟩,⟨[11,8],rv undef,0⟩,⟨[12,8],rv undef,0⟩,⟨[13,8],rv undef,0⟩,⟨[10,14,8],rv undef,0⟩,⟨[8,15,3],rB false,0⟩,⟨[3,16],rB false,0⟩] [38,39,40,41,42,43,44,45,46,47,48,49,50,51,52,53,54,55,0,3,5,6,8,10,11,12,13] ?_ ?_
         ·refine oq (AS Bx Aa DY Aa Aa) (of (B1 (i:=0) DZ Aa Aa Aa) (oq (Dp Aa Aa) (oq (Ay Aa) (on hh (oq (Ay Aa) (on hh (of (Cv (k:=3) Aa (AX hj) Aa Aa) (on hh (of (BE (k:=3) Ig Aa JQ Aa (AX hj) Aa Aa Aa) (on hh (of (Cs (enc:=A7) (ys:=hd) (i:=3) (j:=(hd.length:Int)-1) Ul Aa Aa hj Aa) (on hh (oq (Ay Aa) (oz hk (oz hk (oz hk (oz hk (oz hk (oz hk (oz hk (on hh (oq (AH (b:=(Af hd ((hd.length:Int)-1)).fStarted) Aa hk Aa) (oq (AH Aa hh Aa) ?_)))))))))))))))))))))));exact Di
         exact Cg (And.intro hh hk)
      refine cz ga Aa (λgb gc=>?_) (λgb gd=>?_)
      ·refine Av (Iu (H1:=[.blk hf (Ab (Af v hb)) 63,.blk b2 (Bc ha) 105,.blk b1 (Bc ha) 105,.row he 120 5 (Ap A7 hd)]) [3,5] [⟨[],Bd (Bc ha),1⟩,⟨[],Aj 0,0⟩,⟨[0],rv undef,2⟩,⟨[],rB false,0⟩] (rle [(3,_),(2,[.blk hf (Ab (Af v hb)) 63,.blk b2 (Bc ha) 105,.blk b1 (Bc ha) 105,.row he 120 5 (Ap A7 hd)])]) [2,4,3] ?_ ?_)
       ·refine of (Bf (i:=1) Jo Gt Aa Aa Aa Aa) (oq (AV Aa) (Mk Aa (Pc (D2 (i:=2) Gt Aa Aa Aa (Be.c Aa) Aa Aa (cs':=[Aj ha.fDepth,Aj ha.fBytes,rB ha.fOutside,rB ha.fLong]) Aa (H':=[.blk hf (Ab (Af v hb)) 63,.blk b2 (Bc ha) 105,.blk b1 (Bc ha) 105,.row he 120 5 (Ap A7 hd)]) Aa)) ?_));refine oq (AV Aa) ?_;exact Di
       refine AT (A0 (Ah (Ah (A9 (Ah (Ah (Bm ?_)))))));have ge:=B9 gc hx hy;refine A9 (Ah (JS ?_));obtain rfl:=A2 ge;exact Az (LB SD (AR Aa) (BO (i:=2) Jo Gt Aa Aa Aa) (AR Aa)) (sS (sS (sS (sS sN)))) ⟨Aa,Aa⟩
      ·refine A1 (AT (An (wm Aa (wm Aa (wm Aa (vF Bx Aa CF (vL 0 CZ Aa (wv (r:=rv (C0 5 he (BU ((hd.length:Int)-1)) 0)) (Cv (k:=3) Aa (AX hj) Aa Aa) (wv (r:=rv (C0 5 he (BU ((hd.length:Int)-1)) 3)) (BE (k:=3) Ig Aa CF Aa (AX hj) Aa Aa Aa) (J0 (enc:=A7) (ys:=hd) (y':=(AB.mk ((Af hd ((hd.length:Int)-1)).fPairs) ((Af hd ((hd.length:Int)-1)).fLeft) ((Af hd ((hd.length:Int)-1)).fKey) ((Af v hb).fStr) ((Af hd ((hd.length:Int)-1)).fStarted))) (i:=3) (j:=(hd.length:Int)-1) CF Aa Aa (C7 Aa) Aa hj Aa Aa (H':=[.blk hf (Ab (Af v hb)) 63,.blk b2 (Bc ha) 105,.blk b1 [Aj 0,Aj 0,rB false,rB false] 105,.row he 120 5 (Ap A7 (List.set hd (BU ((hd.length:Int)-1)) (AB.mk ((Af hd ((hd.length:Int)-1)).fPairs) ((Af hd ((hd.length:Int)-1)).fLeft) ((Af hd ((hd.length:Int)-1)).fKey) ((Af v hb).fStr) ((Af hd ((hd.length:Int)-1)).fStarted))))]) Aa (bd gd λhr hu gf=>?_)))))))))));rw[← hu];refine wv (r:=rv (C0 5 he (BU ((hd.length:Int)-1)) 0)) (Cv (k:=3) Aa (AX (CT hj hu)) Aa Aa) (wv (r:=rv (C0 5 he (BU ((hd.length:Int)-1)) 4)) (BE (k:=3) Ig Aa JQ Aa (AX (CT hj hu)) Aa Aa Aa) (J0 (enc:=A7) (ys:=hr) (y':=(AB.mk ((Af hr ((hd.length:Int)-1)).fPairs) ((Af hr ((hd.length:Int)-1)).fLeft) ((Af hr ((hd.length:Int)-1)).fKey) ((Af hr ((hd.length:Int)-1)).fLast) true)) (i:=3) (j:=(hd.length:Int)-1) JQ Aa Aa (C7 Aa) Aa (CT hj hu) Aa Aa (H':=[.blk hf (Ab (Af v hb)) 63,.blk b2 (Bc ha) 105,.blk b1 [Aj 0,Aj 0,rB false,rB false] 105,.row he 120 5 (Ap A7 (List.set hr (BU ((hd.length:Int)-1)) (AB.mk ((Af hr ((hd.length:Int)-1)).fPairs) ((Af hr ((hd.length:Int)-1)).fLeft) ((Af hr ((hd.length:Int)-1)).fKey) ((Af hr ((hd.length:Int)-1)).fLast) true)))]) Aa (bd gf λhs h1 gg=>?_)));rw[← h1];refine wv (r:=rv (C0 5 he (BU ((hd.length:Int)-1)) 0)) (Cv (k:=3) Aa (AX (CT (CT hj hu) h1)) Aa Aa) (wv (r:=rv (C0 5 he (BU ((hd.length:Int)-1)) 2)) (BE (k:=3) Ig Aa JQ Aa (AX (CT (CT hj hu) h1)) Aa Aa Aa) (J0 (enc:=A7) (ys:=hs) (y':=(AB.mk ((Af hs ((hd.length:Int)-1)).fPairs) ((Af hs ((hd.length:Int)-1)).fLeft) false ((Af hs ((hd.length:Int)-1)).fLast) ((Af hs ((hd.length:Int)-1)).fStarted))) (i:=3) (j:=(hd.length:Int)-1) JQ Aa Aa (C7 Aa) Aa (CT (CT hj hu) h1) Aa Aa (H':=[.blk hf (Ab (Af v hb)) 63,.blk b2 (Bc ha) 105,.blk b1 [Aj 0,Aj 0,rB false,rB false] 105,.row he 120 5 (Ap A7 (List.set hs (BU ((hd.length:Int)-1)) (AB.mk ((Af hs ((hd.length:Int)-1)).fPairs) ((Af hs ((hd.length:Int)-1)).fLeft) false ((Af hs ((hd.length:Int)-1)).fLast) ((Af hs ((hd.length:Int)-1)).fStarted))))]) Aa (bd gg λht gh gi=>?_)));rw[← gh];refine Ax (Av (ob gi λhl gj gl=>ck gl λgm gp=>Iu (H1:=[.blk hf (Ab (Af v hb)) 63,.blk b2 [Aj ha.fDepth,Aj (IntKind.wrap .i64 (ha.fBytes+(hl+1))),rB ha.fOutside,rB ha.fLong] 105,.blk b1 [Aj 0,Aj 0,rB false,rB false] 105,.row he 120 5 (Ap A7 ht)]) [0,3,5,6,8,11,12,13,38,39,40,41] [⟨[],rP b2 1,0⟩,⟨[0],Aj ha.fBytes,1⟩,⟨[],rP hf 2,0⟩,⟨[2],rS ((Af v hb).fStr),1⟩,⟨[3],Aj hl,0⟩,⟨[4],Aj (hl+1),0⟩,⟨[1,5],Aj (IntKind.wrap .i64 (ha.fBytes+(hl+1))),0⟩,⟨[],rP b2 1,0⟩,⟨[7,6],rv undef,2⟩] (rle [(9,_),(1,[.blk hf (Ab (Af v hb)) 63,.blk b2 [Aj ha.fDepth,Aj (IntKind.wrap .i64 (ha.fBytes+(hl+1))),rB ha.fOutside,rB ha.fLong] 105,.blk b1 [Aj 0,Aj 0,rB false,rB false] 105,.row he 120 5 (Ap A7 ht)])]) [68,69,70,71,72,73,74,75,0,3,5,6,8,11,12,13,38,39,40,41] ?_ ?_))
       ·refine oq (AS Ex Aa C1 Aa Aa) (of (B1 (i:=1) Dm Aa Aa Aa) (oq (AS Bx Aa CF Aa Aa) (of (B1 (i:=0) CZ Aa Aa Aa) (CV Aa (λH=>D7 Tryz.call77 (Na ((Af v hb).fStr) hl gj) Aa) ?_))));refine oq (B0 Aa Aa gm) (oq (Qu Aa Aa) (oq (AS Ex Aa C1 Aa Aa) (Mk Aa (Pc (ND (i:=1) C1 Aa Aa (C7 Aa) Aa Aa (cs':=[Aj ha.fDepth,Aj (IntKind.wrap .i64 (ha.fBytes+(hl+1))),rB ha.fOutside,rB ha.fLong]) Aa (H':=[.blk hf (Ab (Af v hb)) 63,.blk b2 [Aj ha.fDepth,Aj (IntKind.wrap .i64 (ha.fBytes+(hl+1))),rB ha.fOutside,rB ha.fLong] 105,.blk b1 [Aj 0,Aj 0,rB false,rB false] 105,.row he 120 5 (Ap A7 ht)]) Aa)) ?_)));exact Di
       refine AT (AU [(0,AD 4 (Ap Ab v)),(3,rP b1 0),(5,rP b2 0),(6,rv he),(11,AD 4 (Ap Ab v)),(12,Aj (v.length:Int)),(13,Aj hb),(38,rP hf 0),(39,Aj ((Af v hb).fKind)),(40,rB (!decide (((Af v hb).fKind)=4))),(41,rB (!decide (((Af v hb).fKind)=4))),(68,rP b2 1),(69,Aj ha.fBytes),(70,rP hf 2),(71,rS ((Af v hb).fStr)),(72,Aj hl),(73,Aj (hl+1)),(74,Aj (IntKind.wrap .i64 (ha.fBytes+(hl+1)))),(75,rP b2 1)] [.blk hf (Ab (Af v hb)) 63,.blk b2 [Aj ha.fDepth,Aj (IntKind.wrap .i64 (ha.fBytes+(hl+1))),rB ha.fOutside,rB (ha.fLong||(decide (200<(((Af v hb).fStr).length:Int))))] 105,.blk b1 [Aj 0,Aj 0,rB false,rB false] 105,.row he 120 5 (Ap A7 ht)] ?_ ?_)
       ·refine Au (vF Ex Aa JQ (vL 1 Ul Aa (wm Aa (AY (ha.fLong) (λho=>?_) (λho=>?_)))))
        ·refine wf ho (wf ho (wf ho (wf ho (wv (r:=rB true) (Ar rfl ho rfl) (vF Ex rfl JQ (Cm (i:=1) JQ rfl rfl (C7 rfl) rfl rfl (cs':=[Aj ha.fDepth,Aj (IntKind.wrap .i64 (ha.fBytes+(hl+1))),rB ha.fOutside,rB true]) rfl (H':=[.blk hf (Ab (Af v hb)) 63,.blk b2 [Aj ha.fDepth,Aj (IntKind.wrap .i64 (ha.fBytes+(hl+1))),rB ha.fOutside,rB true] 105,.blk b1 [Aj 0,Aj 0,rB false,rB false] 105,.row he 120 5 (Ap A7 ht)]) rfl (At (Jz (H':=[.blk hf (Ab (Af v hb)) 63,.blk b2 [Aj ha.fDepth,Aj (IntKind.wrap .i64 (ha.fBytes+(hl+1))),rB ha.fOutside,rB (ha.fLong||(decide (200<(((Af v hb).fStr).length:Int))))] 105,.blk b1 [Aj 0,Aj 0,rB false,rB false] 105,.row he 120 5 (Ap A7 ht)]) (by simp only[ho,X7,XH,XS,X4,XP,XF,XO,XT,Xs,XL,Xp,Xl]) ?_))))))));exact wt
        ·refine wo ho (vF Bx rfl CF (wo ho (vL 0 CZ rfl (wo ho (wv (CJ Gn rfl) (wo ho (wv (DQ rfl rfl) (DB rfl ho rfl (vF Ex rfl JQ (Cm (i:=1) JQ rfl rfl (C7 rfl) rfl rfl (cs':=[Aj ha.fDepth,Aj (IntKind.wrap .i64 (ha.fBytes+(hl+1))),rB ha.fOutside,rB (decide (200<(((Af v hb).fStr).length:Int)))]) rfl (H':=[.blk hf (Ab (Af v hb)) 63,.blk b2 [Aj ha.fDepth,Aj (IntKind.wrap .i64 (ha.fBytes+(hl+1))),rB ha.fOutside,rB (decide (200<(((Af v hb).fStr).length:Int)))] 105,.blk b1 [Aj 0,Aj 0,rB false,rB false] 105,.row he 120 5 (Ap A7 ht)]) rfl (At (Jz (H':=[.blk hf (Ab (Af v hb)) 63,.blk b2 [Aj ha.fDepth,Aj (IntKind.wrap .i64 (ha.fBytes+(hl+1))),rB ha.fOutside,rB (ha.fLong||(decide (200<(((Af v hb).fStr).length:Int))))] 105,.blk b1 [Aj 0,Aj 0,rB false,rB false] 105,.row he 120 5 (Ap A7 ht)]) (by simp only[ho,X7,XH,XS,X4,XP,XF,XO,XT,Xs,XL,Xp,Xl]) ?_))))))))))));exact wt
       exact By (A4 (Bk (AC (AA ((ht,(AM.mk ha.fDepth (IntKind.wrap .i64 (ha.fBytes+(hl+1))) ha.fOutside (ha.fLong||(decide (200<(((Af v hb).fStr).length:Int)))))),he) gp (AJ.c Aa (AJ.c Aa (AJ.c5 Aa Aa Aa Aa Aa AJ.nil))) (sS (sC (sC (sC sN))))))))
     ·refine A1 (AT (An (vF Ex Aa C1 (vL 1 Dm Aa (wm Aa (wv (Ca (ys:=hd) (enc:=A7) (i:=3) Ih Aa Aa) (ck hX λgq gr=>wv (B0 Aa Aa gq) (wv (Vl Wz Aa Aa) (vF Ex Aa C1 (Cm (i:=1) C1 Aa Aa (C7 Aa) Aa Aa (cs':=[Aj (max ha.fDepth ((hd.length:Int)+1)),Aj ha.fBytes,rB ha.fOutside,rB ha.fLong]) Aa (H':=[.blk hf (Ab (Af v hb)) 63,.blk b2 [Aj (max ha.fDepth ((hd.length:Int)+1)),Aj ha.fBytes,rB ha.fOutside,rB ha.fLong] 105,.blk b1 [Aj 0,Aj 0,rB false,rB false] 105,.row he 120 5 (Ap A7 hd)]) Aa (Ax (Av (ob gr λhg gs gt=>Iu (H1:=[.blk hf (Ab (Af v hb)) 63,.blk b2 [Aj (max ha.fDepth ((hd.length:Int)+1)),Aj (IntKind.wrap .i64 (ha.fBytes+hg)),rB ha.fOutside,rB ha.fLong] 105,.blk b1 [Aj 0,Aj 0,rB false,rB false] 105,.row he 120 5 (Ap A7 hd)]) [0,3,5,6,7,8,11,12,13] [⟨[],rP b2 1,0⟩,⟨[0],Aj ha.fBytes,1⟩,⟨[],Bd (Ab (Af v hb)),1⟩,⟨[2],Aj hg,0⟩,⟨[1,3],Aj (IntKind.wrap .i64 (ha.fBytes+hg)),0⟩,⟨[],rP b2 1,0⟩,⟨[5,4],rv undef,2⟩] (rle [(7,_),(1,[.blk hf (Ab (Af v hb)) 63,.blk b2 [Aj (max ha.fDepth ((hd.length:Int)+1)),Aj (IntKind.wrap .i64 (ha.fBytes+hg)),rB ha.fOutside,rB ha.fLong] 105,.blk b1 [Aj 0,Aj 0,rB false,rB false] 105,.row he 120 5 (Ap A7 hd)])]) [92,93,94,95,96,97,0,3,5,6,7,8,11,12,13] ?_ ?_)))))))))))))
      ·refine oq (AS Ex Aa C1 Aa Aa) (of (B1 (i:=1) Dm Aa Aa Aa) (of (Bf (i:=0) JR Cp Aa Aa Aa Aa) (CV Aa (λH=>D7 Tryz.call78 (Us (Af v hb) hg gs) Aa) ?_)));refine oq (Qu Aa Aa) (oq (AS Ex Aa C1 Aa Aa) (Mk Aa (Pc (ND (i:=1) C1 Aa Aa (C7 Aa) Aa Aa (cs':=[Aj (max ha.fDepth ((hd.length:Int)+1)),Aj (IntKind.wrap .i64 (ha.fBytes+hg)),rB ha.fOutside,rB ha.fLong]) Aa (H':=[.blk hf (Ab (Af v hb)) 63,.blk b2 [Aj (max ha.fDepth ((hd.length:Int)+1)),Aj (IntKind.wrap .i64 (ha.fBytes+hg)),rB ha.fOutside,rB ha.fLong] 105,.blk b1 [Aj 0,Aj 0,rB false,rB false] 105,.row he 120 5 (Ap A7 hd)]) Aa)) ?_));exact Di
      refine AT (ck gt λgu gv=>AU [(0,AD 4 (Ap Ab v)),(3,rP b1 0),(5,rP b2 0),(6,rv he),(7,Aj hb),(8,rP hf 0),(11,AD 4 (Ap Ab v)),(12,Aj (v.length:Int)),(13,Aj hb),(92,rP b2 1),(93,Aj ha.fBytes),(94,Bd (Ab (Af v hb))),(95,Aj hg),(96,Aj (IntKind.wrap .i64 (ha.fBytes+hg))),(97,rP b2 1)] [.blk hf (Ab (Af v hb)) 63,.blk b2 [Aj (max ha.fDepth ((hd.length:Int)+1)),Aj (IntKind.wrap .i64 (ha.fBytes+hg)),rB (ha.fOutside||((decide (((Af v hb).fKind)=3))&&(!(ov (B2 ((Af v hb).fInt)))))),rB ha.fLong] 105,.blk b1 [Aj 0,Aj 0,rB false,rB false] 105,.row he 120 5 (Ap A7 hd)] ?_ ?_)
      ·refine Au (vF Ex Aa JQ (vL 1 Ul Aa (wm Aa (AY (ha.fOutside) (λhm=>?_) (λhm=>?_)))))
       ·refine wf hm (wf hm (wf hm (wf hm (wu (wu (wu (wu (wf hm (wv (r:=rB true) (Ar rfl hm rfl) (vF Ex rfl JQ (Cm (i:=1) JQ rfl rfl (C7 rfl) rfl rfl (cs':=[Aj (max ha.fDepth ((hd.length:Int)+1)),Aj (IntKind.wrap .i64 (ha.fBytes+hg)),rB true,rB ha.fLong]) rfl (H':=[.blk hf (Ab (Af v hb)) 63,.blk b2 [Aj (max ha.fDepth ((hd.length:Int)+1)),Aj (IntKind.wrap .i64 (ha.fBytes+hg)),rB true,rB ha.fLong] 105,.blk b1 [Aj 0,Aj 0,rB false,rB false] 105,.row he 120 5 (Ap A7 hd)]) rfl (At (Jz (H':=[.blk hf (Ab (Af v hb)) 63,.blk b2 [Aj (max ha.fDepth ((hd.length:Int)+1)),Aj (IntKind.wrap .i64 (ha.fBytes+hg)),rB (ha.fOutside||((decide (((Af v hb).fKind)=3))&&(!(ov (B2 ((Af v hb).fInt)))))),rB ha.fLong] 105,.blk b1 [Aj 0,Aj 0,rB false,rB false] 105,.row he 120 5 (Ap A7 hd)]) (by simp only[hm,X7,XH,XS,X4,XP,XF,XO,XT,Xs,XL,Xp,Xl]) ?_)))))))))))));exact wt
       ·refine wo hm (vF Bx Aa DY (wo hm (vL 0 DZ Aa (wo hm (wv (B5 Aa Aa) (wo hm (wm Aa (AY (decide (((Af v hb).fKind)=3)) (λhn=>?_) (λhn=>?_)))))))))
        ·refine wo hn (vF Bx rfl C1 (wo hn (vL 0 Dm rfl (wo hn (Cl Tryz.call79 (Mn ((Af v hb).fInt) (ov (B2 ((Af v hb).fInt))) (EQ (CW (Dj gu hm) hn))) rfl (wo hn (wv (B8 rfl) (wo hm (EP rfl hn rfl (DB rfl hm rfl (vF Ex rfl JQ (Cm (i:=1) JQ rfl rfl (C7 rfl) rfl rfl (cs':=[Aj (max ha.fDepth ((hd.length:Int)+1)),Aj (IntKind.wrap .i64 (ha.fBytes+hg)),rB (!(ov (B2 ((Af v hb).fInt)))),rB ha.fLong]) rfl (H':=[.blk hf (Ab (Af v hb)) 63,.blk b2 [Aj (max ha.fDepth ((hd.length:Int)+1)),Aj (IntKind.wrap .i64 (ha.fBytes+hg)),rB (!(ov (B2 ((Af v hb).fInt)))),rB ha.fLong] 105,.blk b1 [Aj 0,Aj 0,rB false,rB false] 105,.row he 120 5 (Ap A7 hd)]) rfl (At (Jz (H':=[.blk hf (Ab (Af v hb)) 63,.blk b2 [Aj (max ha.fDepth ((hd.length:Int)+1)),Aj (IntKind.wrap .i64 (ha.fBytes+hg)),rB (ha.fOutside||((decide (((Af v hb).fKind)=3))&&(!(ov (B2 ((Af v hb).fInt)))))),rB ha.fLong] 105,.blk b1 [Aj 0,Aj 0,rB false,rB false] 105,.row he 120 5 (Ap A7 hd)]) (by simp only[hm,hn,X7,XH,XS,X4,XP,XF,XO,XT,Xs,XL,Xp,Xl]) ?_))))))))))))));exact wt
        ·refine wf hn (wf hn (wf hn (wf hn (wo hm (wv (r:=rB false) (AH rfl hn rfl) (DB rfl hm rfl (vF Ex rfl JQ (Cm (i:=1) JQ rfl rfl (C7 rfl) rfl rfl (cs':=[Aj (max ha.fDepth ((hd.length:Int)+1)),Aj (IntKind.wrap .i64 (ha.fBytes+hg)),rB false,rB ha.fLong]) rfl (H':=[.blk hf (Ab (Af v hb)) 63,.blk b2 [Aj (max ha.fDepth ((hd.length:Int)+1)),Aj (IntKind.wrap .i64 (ha.fBytes+hg)),rB false,rB ha.fLong] 105,.blk b1 [Aj 0,Aj 0,rB false,rB false] 105,.row he 120 5 (Ap A7 hd)]) rfl (At (Jz (H':=[.blk hf (Ab (Af v hb)) 63,.blk b2 [Aj (max ha.fDepth ((hd.length:Int)+1)),Aj (IntKind.wrap .i64 (ha.fBytes+hg)),rB (ha.fOutside||((decide (((Af v hb).fKind)=3))&&(!(ov (B2 ((Af v hb).fInt)))))),rB ha.fLong] 105,.blk b1 [Aj 0,Aj 0,rB false,rB false] 105,.row he 120 5 (Ap A7 hd)]) (by simp only[hm,hn,X7,XH,XS,X4,XP,XF,XO,XT,Xs,XL,Xp,Xl]) ?_))))))))));exact wt
      refine AU [(0,AD 4 (Ap Ab v)),(3,rP b1 0),(5,rP b2 0),(6,rv he),(7,Aj hb),(8,rP hf 0),(11,AD 4 (Ap Ab v)),(12,Aj (v.length:Int)),(13,Aj hb),(92,rP b2 1),(93,Aj ha.fBytes),(94,Bd (Ab (Af v hb))),(95,Aj hg),(96,Aj (IntKind.wrap .i64 (ha.fBytes+hg))),(97,rP b2 1)] [.blk hf (Ab (Af v hb)) 63,.blk b2 [Aj (max ha.fDepth ((hd.length:Int)+1)),Aj (IntKind.wrap .i64 (ha.fBytes+hg)),rB (ha.fOutside||((decide (((Af v hb).fKind)=3))&&(!(ov (B2 ((Af v hb).fInt)))))),rB (ha.fLong||(decide (200<(((Af v hb).fStr).length:Int))))] 105,.blk b1 [Aj 0,Aj 0,rB false,rB false] 105,.row he 120 5 (Ap A7 hd)] ?_ ?_
      ·refine Au (vF Ex Aa JQ (vL 1 Ul Aa (wm Aa (AY (ha.fLong) (λhp=>?_) (λhp=>?_)))))
       ·refine wf hp (wf hp (wf hp (wf hp (wv (r:=rB true) (Ar rfl hp rfl) (vF Ex rfl JQ (Cm (i:=1) JQ rfl rfl (C7 rfl) rfl rfl (cs':=[Aj (max ha.fDepth ((hd.length:Int)+1)),Aj (IntKind.wrap .i64 (ha.fBytes+hg)),rB (ha.fOutside||((decide (((Af v hb).fKind)=3))&&(!(ov (B2 ((Af v hb).fInt)))))),rB true]) rfl (H':=[.blk hf (Ab (Af v hb)) 63,.blk b2 [Aj (max ha.fDepth ((hd.length:Int)+1)),Aj (IntKind.wrap .i64 (ha.fBytes+hg)),rB (ha.fOutside||((decide (((Af v hb).fKind)=3))&&(!(ov (B2 ((Af v hb).fInt)))))),rB true] 105,.blk b1 [Aj 0,Aj 0,rB false,rB false] 105,.row he 120 5 (Ap A7 hd)]) rfl (At (Jz (H':=[.blk hf (Ab (Af v hb)) 63,.blk b2 [Aj (max ha.fDepth ((hd.length:Int)+1)),Aj (IntKind.wrap .i64 (ha.fBytes+hg)),rB (ha.fOutside||((decide (((Af v hb).fKind)=3))&&(!(ov (B2 ((Af v hb).fInt)))))),rB (ha.fLong||(decide (200<(((Af v hb).fStr).length:Int))))] 105,.blk b1 [Aj 0,Aj 0,rB false,rB false] 105,.row he 120 5 (Ap A7 hd)]) (by simp only[hp,X7,XH,XS,X4,XP,XF,XO,XT,Xs,XL,Xp,Xl]) ?_))))))));exact wt
       ·refine wo hp (vF Bx rfl CF (wo hp (vL 0 CZ rfl (wo hp (wv (CJ Gn rfl) (wo hp (wv (DQ rfl rfl) (DB rfl hp rfl (vF Ex rfl JQ (Cm (i:=1) JQ rfl rfl (C7 rfl) rfl rfl (cs':=[Aj (max ha.fDepth ((hd.length:Int)+1)),Aj (IntKind.wrap .i64 (ha.fBytes+hg)),rB (ha.fOutside||((decide (((Af v hb).fKind)=3))&&(!(ov (B2 ((Af v hb).fInt)))))),rB (decide (200<(((Af v hb).fStr).length:Int)))]) rfl (H':=[.blk hf (Ab (Af v hb)) 63,.blk b2 [Aj (max ha.fDepth ((hd.length:Int)+1)),Aj (IntKind.wrap .i64 (ha.fBytes+hg)),rB (ha.fOutside||((decide (((Af v hb).fKind)=3))&&(!(ov (B2 ((Af v hb).fInt)))))),rB (decide (200<(((Af v hb).fStr).length:Int)))] 105,.blk b1 [Aj 0,Aj 0,rB false,rB false] 105,.row he 120 5 (Ap A7 hd)]) rfl (At (Jz (H':=[.blk hf (Ab (Af v hb)) 63,.blk b2 [Aj (max ha.fDepth ((hd.length:Int)+1)),Aj (IntKind.wrap .i64 (ha.fBytes+hg)),rB (ha.fOutside||((decide (((Af v hb).fKind)=3))&&(!(ov (B2 ((Af v hb).fInt)))))),rB (ha.fLong||(decide (200<(((Af v hb).fStr).length:Int))))] 105,.blk b1 [Aj 0,Aj 0,rB false,rB false] 105,.row he 120 5 (Ap A7 hd)]) (by simp only[hp,X7,XH,XS,X4,XP,XF,XO,XT,Xs,XL,Xp,Xl]) ?_))))))))))));exact wt
      refine Av (An (vF Bx Aa C1 (vL 0 Dm Aa (wv (DQ Aa Aa) (Ax (cz gv Aa (λgw gx=>?_) (λgw gy=>?_)))))))
      ·refine Av (An (vF Bx Aa C1 (vL 0 Dm Aa (wm Aa (wv (Bo (ys:=v) (enc:=Ab) Ci Aa) (wv (DQ Aa Aa) (Ax (cz gx Aa (λgz g0=>?_) (λgz g1=>?_)))))))))
       ·refine Av (Iu (H1:=[.blk hf (Ab (Af v hb)) 63,.blk b2 [Aj (max ha.fDepth ((hd.length:Int)+1)),Aj (IntKind.wrap .i64 (ha.fBytes+hg)),rB (ha.fOutside||((decide (((Af v hb).fKind)=3))&&(!(ov (B2 ((Af v hb).fInt)))))),rB (ha.fLong||(decide (200<(((Af v hb).fStr).length:Int))))] 105,.blk b1 [Aj (max ha.fDepth ((hd.length:Int)+1)),Aj (IntKind.wrap .i64 (ha.fBytes+hg)),rB (ha.fOutside||((decide (((Af v hb).fKind)=3))&&(!(ov (B2 ((Af v hb).fInt)))))),rB (ha.fLong||(decide (200<(((Af v hb).fStr).length:Int))))] 105,.row he 120 5 (Ap A7 hd)]) [3,5] [⟨[],Bd [Aj (max ha.fDepth ((hd.length:Int)+1)),Aj (IntKind.wrap .i64 (ha.fBytes+hg)),rB (ha.fOutside||((decide (((Af v hb).fKind)=3))&&(!(ov (B2 ((Af v hb).fInt)))))),rB (ha.fLong||(decide (200<(((Af v hb).fStr).length:Int))))],1⟩,⟨[],Aj 0,0⟩,⟨[0],rv undef,2⟩,⟨[],rB false,0⟩] (rle [(3,_),(2,[.blk hf (Ab (Af v hb)) 63,.blk b2 [Aj (max ha.fDepth ((hd.length:Int)+1)),Aj (IntKind.wrap .i64 (ha.fBytes+hg)),rB (ha.fOutside||((decide (((Af v hb).fKind)=3))&&(!(ov (B2 ((Af v hb).fInt)))))),rB (ha.fLong||(decide (200<(((Af v hb).fStr).length:Int))))] 105,.blk b1 [Aj (max ha.fDepth ((hd.length:Int)+1)),Aj (IntKind.wrap .i64 (ha.fBytes+hg)),rB (ha.fOutside||((decide (((Af v hb).fKind)=3))&&(!(ov (B2 ((Af v hb).fInt)))))),rB (ha.fLong||(decide (200<(((Af v hb).fStr).length:Int))))] 105,.row he 120 5 (Ap A7 hd)])]) [2,4,3] ?_ ?_)
        ·refine of (Bf (i:=1) Jo Gt Aa Aa Aa Aa) (oq (AV Aa) (Mk Aa (Pc (D2 (i:=2) Gt Aa Aa Aa (Be.c Aa) Aa Aa (cs':=[Aj (max ha.fDepth ((hd.length:Int)+1)),Aj (IntKind.wrap .i64 (ha.fBytes+hg)),rB (ha.fOutside||((decide (((Af v hb).fKind)=3))&&(!(ov (B2 ((Af v hb).fInt)))))),rB (ha.fLong||(decide (200<(((Af v hb).fStr).length:Int))))]) Aa (H':=[.blk hf (Ab (Af v hb)) 63,.blk b2 [Aj (max ha.fDepth ((hd.length:Int)+1)),Aj (IntKind.wrap .i64 (ha.fBytes+hg)),rB (ha.fOutside||((decide (((Af v hb).fKind)=3))&&(!(ov (B2 ((Af v hb).fInt)))))),rB (ha.fLong||(decide (200<(((Af v hb).fStr).length:Int))))] 105,.blk b1 [Aj (max ha.fDepth ((hd.length:Int)+1)),Aj (IntKind.wrap .i64 (ha.fBytes+hg)),rB (ha.fOutside||((decide (((Af v hb).fKind)=3))&&(!(ov (B2 ((Af v hb).fInt)))))),rB (ha.fLong||(decide (200<(((Af v hb).fStr).length:Int))))] 105,.row he 120 5 (Ap A7 hd)]) Aa)) ?_));refine oq (AV Aa) ?_;exact Di
        refine AT (A0 (Ah (Ah (A9 (Ah (Ah (Bm ?_)))))));have g2:=B9 g0 hx hy;refine A9 (Ah (JS ?_));obtain rfl:=A2 g2;exact Az (LB SD (AR Aa) (BO (i:=2) Jo Gt Aa Aa Aa) (AR Aa)) (sS (sS (sS (sS sN)))) ⟨Aa,Aa⟩
       ·refine A1 (AT (An (wm Aa (vF Bx Aa DY (vL 0 DZ Aa (wv (B5 Aa Aa) (vF Bx Aa C1 (vL 0 Dm Aa (vF Bx Aa DY (vL 0 DZ Aa (wv (B5 Aa Aa) (wv (r:=Bd [rB (decide (((Af v hb).fKind)=6)),Aj ((Af v hb).fN),rB (decide (((Af v hb).fKind)=6)),rS ([]:Aq),rB false]) (KP Aa Aa Aa Aa Aa Aa) (Bl (ys:=([(AB.mk (decide (((Af v hb).fKind)=6)) ((Af v hb).fN) (decide (((Af v hb).fKind)=6)) ([]:Aq) false)]:List AB)) (enc:=A7) (css:=[[rB (decide (((Af v hb).fKind)=6)),Aj ((Af v hb).fN),rB (decide (((Af v hb).fKind)=6)),rS ([]:Aq),rB false]]) (xs:=[.tmp 139]) Ih OA Tryz.zeroValue120 Aa Aa Aa ⟨Jm.agg ⟨Up.refl _,Up.refl _,Up.refl _,Up.refl _,Up.refl _,trivial⟩,trivial⟩ Aa Ik Aa Aa Aa (λg3=>?_))))))))))))));refine ck g1 λg4 g5=>Exists.elim UM λinf hinf=>Da (xs:=hd) (ys:=([(AB.mk (decide (((Af v hb).fKind)=6)) ((Af v hb).fN) (decide (((Af v hb).fKind)=6)) ([]:Aq) false)]:List AB)) (enc:=A7) (i:=4) Ih hinf.1 hinf.2.1 hinf.2.2.1 hinf.2.2.2 Aa Aa Aa Aa Aa (MK.w (i:=0) Aa Aa) Ik L5 g4 Aa (λh9=>?_);exact wa Aa (Ax (By (A4 (Bk (BV (H2:=[.blk b2 [Aj (max ha.fDepth ((hd.length:Int)+1)),Aj (IntKind.wrap .i64 (ha.fBytes+hg)),rB (ha.fOutside||((decide (((Af v hb).fKind)=3))&&(!(ov (B2 ((Af v hb).fInt)))))),rB (ha.fLong||(decide (200<(((Af v hb).fStr).length:Int))))] 105,.blk b1 [Aj 0,Aj 0,rB false,rB false] 105,.row h9 120 5 (Ap A7 (hd++([(AB.mk (decide (((Af v hb).fKind)=6)) ((Af v hb).fN) (decide (((Af v hb).fKind)=6)) ([]:Aq) false)]:List AB))),.row (.slice (some ⟨g3,0,none⟩) 1 1) 120 5 (Ap A7 ([(AB.mk (decide (((Af v hb).fKind)=6)) ((Af v hb).fN) (decide (((Af v hb).fKind)=6)) ([]:Aq) false)]:List AB)),.blk hf (Ab (Af v hb)) 63]) ((Ae (i:=3) Aa).trans (WZ _ ((Ae (i:=3) Aa).trans (WZ _ (Xd _))))) (AC (AA ((hd++([(AB.mk (decide (((Af v hb).fKind)=6)) ((Af v hb).fN) (decide (((Af v hb).fKind)=6)) ([]:Aq) false)]:List AB),(AM.mk (max ha.fDepth ((hd.length:Int)+1)) (IntKind.wrap .i64 (ha.fBytes+hg)) (ha.fOutside||((decide (((Af v hb).fKind)=3))&&(!(ov (B2 ((Af v hb).fInt)))))) (ha.fLong||(decide (200<(((Af v hb).fStr).length:Int)))))),h9) g5 (AJ.c Aa (AJ.c Aa (AJ.c5 Aa Aa Aa Aa Aa AJ.nil))) (sC (sC (sC (sS (sS sN))))))))))))
      ·refine A1 (AT (An (wm Aa (ob gy λhw g6 g7=>ER (Hr:=[.blk hf (Ab (Af v hb)) 63,.blk b2 [Aj (max ha.fDepth ((hd.length:Int)+1)),Aj (IntKind.wrap .i64 (ha.fBytes+hg)),rB (ha.fOutside||((decide (((Af v hb).fKind)=3))&&(!(ov (B2 ((Af v hb).fInt)))))),rB (ha.fLong||(decide (200<(((Af v hb).fStr).length:Int))))] 105,.blk b1 [Aj 0,Aj 0,rB false,rB false] 105]) Tryz.call80 (R2 F he hd hw g6) Aa ((Ae (i:=3) Aa).trans (WZ _ (Xd _))) Aa ?_))));rintro _ _ ⟨hz,rfl,rfl⟩;refine wa Aa (B4 (wm Aa (wv (Ca (ys:=hw) (enc:=A7) (i:=0) Ih Aa Aa) (wv (B5 Aa Aa) (Ax (cz g7 Aa (λg8 g9=>?_) (λg8 gA=>?_)))))))
       ·refine Av (ck g9 λgB gC=>Iu (H1:=[.row hz 120 5 (Ap A7 hw),.blk hf (Ab (Af v hb)) 63,.blk b2 [Aj (max ha.fDepth ((hd.length:Int)+1)),Aj (IntKind.wrap .i64 (ha.fBytes+hg)),rB (ha.fOutside||((decide (((Af v hb).fKind)=3))&&(!(ov (B2 ((Af v hb).fInt)))))),rB (ha.fLong||(decide (200<(((Af v hb).fStr).length:Int))))] 105,.blk b1 [Aj (max ha.fDepth ((hd.length:Int)+1)),Aj (IntKind.wrap .i64 (ha.fBytes+hg)),rB (ha.fOutside||((decide (((Af v hb).fKind)=3))&&(!(ov (B2 ((Af v hb).fInt)))))),rB (ha.fLong||(decide (200<(((Af v hb).fStr).length:Int))))] 105]) [3,5,7] [⟨[],Aj hb,0⟩,⟨[0],Aj (hb+1),0⟩,⟨[],Bd [Aj (max ha.fDepth ((hd.length:Int)+1)),Aj (IntKind.wrap .i64 (ha.fBytes+hg)),rB (ha.fOutside||((decide (((Af v hb).fKind)=3))&&(!(ov (B2 ((Af v hb).fInt)))))),rB (ha.fLong||(decide (200<(((Af v hb).fStr).length:Int))))],1⟩,⟨[1],Aj (hb+1),0⟩,⟨[2],rv undef,2⟩,⟨[],rB true,0⟩] (rle [(5,_),(2,[.row hz 120 5 (Ap A7 hw),.blk hf (Ab (Af v hb)) 63,.blk b2 [Aj (max ha.fDepth ((hd.length:Int)+1)),Aj (IntKind.wrap .i64 (ha.fBytes+hg)),rB (ha.fOutside||((decide (((Af v hb).fKind)=3))&&(!(ov (B2 ((Af v hb).fInt)))))),rB (ha.fLong||(decide (200<(((Af v hb).fStr).length:Int))))] 105,.blk b1 [Aj (max ha.fDepth ((hd.length:Int)+1)),Aj (IntKind.wrap .i64 (ha.fBytes+hg)),rB (ha.fOutside||((decide (((Af v hb).fKind)=3))&&(!(ov (B2 ((Af v hb).fInt)))))),rB (ha.fLong||(decide (200<(((Af v hb).fStr).length:Int))))] 105])]) [2,4,3] ?_ ?_)
        ·refine oq (Ay Aa) (oq (B0 Aa Aa gB) (of (Bf (i:=2) Jo Gt Aa Aa Aa Aa) (oq (AV Aa) (Mk Aa (Pc (D2 (i:=3) Gt Aa Aa Aa (Be.c Aa) Aa Aa (cs':=[Aj (max ha.fDepth ((hd.length:Int)+1)),Aj (IntKind.wrap .i64 (ha.fBytes+hg)),rB (ha.fOutside||((decide (((Af v hb).fKind)=3))&&(!(ov (B2 ((Af v hb).fInt)))))),rB (ha.fLong||(decide (200<(((Af v hb).fStr).length:Int))))]) Aa (H':=[.row hz 120 5 (Ap A7 hw),.blk hf (Ab (Af v hb)) 63,.blk b2 [Aj (max ha.fDepth ((hd.length:Int)+1)),Aj (IntKind.wrap .i64 (ha.fBytes+hg)),rB (ha.fOutside||((decide (((Af v hb).fKind)=3))&&(!(ov (B2 ((Af v hb).fInt)))))),rB (ha.fLong||(decide (200<(((Af v hb).fStr).length:Int))))] 105,.blk b1 [Aj (max ha.fDepth ((hd.length:Int)+1)),Aj (IntKind.wrap .i64 (ha.fBytes+hg)),rB (ha.fOutside||((decide (((Af v hb).fKind)=3))&&(!(ov (B2 ((Af v hb).fInt)))))),rB (ha.fLong||(decide (200<(((Af v hb).fStr).length:Int))))] 105]) Aa)) ?_))));refine oq (AV Aa) ?_;exact Di
        refine AT (A0 (A9 (Ah (Ah (Bm ?_)))));have gD:=B9 gC hx hy;refine A9 (Ah (JS ?_));obtain rfl:=A2 gD;exact Az (LB SD (AR Aa) (BO (i:=3) Jo Gt Aa Aa Aa) (AR Aa)) (sS (sS (sS (sS sN)))) ⟨Aa,Aa⟩
       ·exact A1 (AL (BV (H2:=[.blk b2 [Aj (max ha.fDepth ((hd.length:Int)+1)),Aj (IntKind.wrap .i64 (ha.fBytes+hg)),rB (ha.fOutside||((decide (((Af v hb).fKind)=3))&&(!(ov (B2 ((Af v hb).fInt)))))),rB (ha.fLong||(decide (200<(((Af v hb).fStr).length:Int))))] 105,.blk b1 [Aj 0,Aj 0,rB false,rB false] 105,.row hz 120 5 (Ap A7 hw),.blk hf (Ab (Af v hb)) 63]) ((Ae (i:=2) Aa).trans (WZ _ ((Ae (i:=2) Aa).trans (WZ _ (Xd _))))) (AC (AA ((hw,(AM.mk (max ha.fDepth ((hd.length:Int)+1)) (IntKind.wrap .i64 (ha.fBytes+hg)) (ha.fOutside||((decide (((Af v hb).fKind)=3))&&(!(ov (B2 ((Af v hb).fInt)))))) (ha.fLong||(decide (200<(((Af v hb).fStr).length:Int)))))),hz) gA (AJ.c Aa (AJ.c Aa (AJ.c5 Aa Aa Aa Aa Aa AJ.nil))) (sC (sC (sC (sS sN))))))))
   ·rintro⟨⟨h6,h7⟩,h8⟩ h2;refine BM (l':=[(0,AD 4 (Ap Ab v)),(3,rP b1 0),(5,rP b2 0),(6,rv h8),(11,AD 4 (Ap Ab v)),(12,Aj (v.length:Int)),(13,Aj hb)]) (H':=[.blk b2 (Bc h7) 105,.blk b1 [Aj 0,Aj 0,rB false,rB false] 105,.row h8 120 5 (Ap A7 h6)]) Aa Aa ?_;replace h2:En hb h6 h7=some h4:=h2;unfold En at h2;refine Au (ck h2 λgE gF=>wv (B0 Aa Aa gE) (wm Aa (At ?_)));have gG:=Bn gF hx;exact AC (AA (hD,(h6,hb+1,h7),h8) ⟨gG,Xi _⟩ (AJ.c Aa (AJ.c Aa (AJ.c5 Aa Aa Aa Aa Aa AJ.nil))) (sC (sC (sC sN))))
  ·refine By (A4 ?_);have gH:=BQ hH hx hy;exact A4 (Bi (AA (ha,()) gH (AJ.c Aa (AJ.c Aa AJ.nil)) (sC (sC (sS sN)))))
 ·rintro⟨hq,⟨⟩⟩ h3;refine Cy (l':=[(3,rP b1 0),(5,rP b2 0)]) (H':=[.blk b2 (Bc hq) 105,.blk b1 [Aj 0,Aj 0,rB false,rB false] 105]) Aa Aa ?_;replace h3:JU hq=some r:=h3;unfold JU at h3;refine Bk (AT (Av (Iu (H1:=[.blk b2 (Bc hq) 105,.blk b1 (Bc hq) 105]) [3,5] [⟨[],Bd (Bc hq),1⟩,⟨[],Aj 0,0⟩,⟨[0],rv undef,2⟩,⟨[],rB false,0⟩] (rle [(3,_),(2,[.blk b2 (Bc hq) 105,.blk b1 (Bc hq) 105])]) [2,4,3] ?_ ?_)))
  ·refine of (Bf (i:=0) Jo Gt Aa Aa Aa Aa) (oq (AV Aa) (Mk Aa (Pc (D2 (i:=1) Gt Aa Aa Aa (Be.c Aa) Aa Aa (cs':=[Aj hq.fDepth,Aj hq.fBytes,rB hq.fOutside,rB hq.fLong]) Aa (H':=[.blk b2 (Bc hq) 105,.blk b1 (Bc hq) 105]) Aa)) ?_));refine oq (AV Aa) ?_;exact Di
  refine AT (A0 (JS ?_));obtain rfl:=A2 h3;exact Az (LB SD (AR Aa) (BO (i:=1) Jo Gt Aa Aa Aa) (AR Aa)) (sS (sS sN)) ⟨Aa,Aa⟩
theorem OK (F:Nat)(v:(List Ac))(r:Int)(h:KD F v=some r):Fn Tryz.prog GE 37 [AD 4 (Ap Ab v)] [] (λR H=>R=Aj r∧H=[]):=by
 refine enter (n:=42) Tryz.func37 Aa Tryz.ntmps37 Aa (λw Z=>?_);unfold KD at h;refine An (wa Aa (B4 (wm Aa (ob h λr1 e3 h2=>Cl Tryz.call56 (Uu F v r1 e3) Aa (wm Aa (wv (AO Aa Aa) (wv (AO Aa Aa) (wv (AO Aa Aa) (B3 (cs:=[Aj 0,Aj 0,rB false,rB false]) Tryz.zeroValue105 Aa Aa (λb4=>?_))))))))));refine wa Aa (AF (i:=0) Gt Aa Aa Aa (Be.c Aa) Aa Aa (cs':=[Aj r1.2.1.fDepth,Aj r1.2.1.fBytes,rB r1.2.1.fOutside,rB r1.2.1.fLong]) Aa (H':=[.blk b4 (Bc r1.2.1) 105]) Aa (wa Aa (Ax (Av (AN (AU [(0,AD 4 (Ap Ab v)),(4,rP b4 0),(12,rB ((!r1.2.2)||(!decide (r1.1=(v.length:Int)))))] [.blk b4 (Bc r1.2.1) 105] ?_ ?_))))))
 ·refine Au (wm Aa (wv (B8 Aa) (wm Aa (AY (!r1.2.2) (λc5=>?_) (λc5=>?_)))))
  ·refine wf c5 (wf c5 (wf c5 (wf c5 (wv (r:=rB true) (Ar Aa c5 Aa) (wa Aa (At ?_))))));exact Cg c5
  ·refine wo c5 (wm Aa (wo c5 (wm Aa (wo c5 (wv (Bo (ys:=v) (enc:=Ab) Ci Aa) (wo c5 (wv (Dp Aa Aa) (DB Aa c5 Aa (wa Aa (At ?_))))))))));exact Cg c5
 refine cz h2 Aa (λc6 h7=>?_) (λc6 h8=>?_)
 ·refine An (wa Aa (Ax (A0 (A9 (Ah ?_)))));obtain rfl:=A2 h7;exact Az (BI Uj (AR Aa)) (sS sN) ⟨Aa,Aa⟩
 ·refine An (vF Ex Aa JQ (vL 0 Ul Aa (wa Aa (Ax (cz h8 Aa (λc9 he=>?_) (λc9 hf=>?_))))))
  ·refine An (wa Aa (Ax (A0 (A9 (Ah ?_)))));obtain rfl:=A2 he;exact Az (BI Uj (AR Aa)) (sS sN) ⟨Aa,Aa⟩
  ·refine AU [(24,rB (r1.2.1.fLong||((decide (200<(v.length:Int)))||((decide (8<r1.2.1.fDepth))||(decide (4000<r1.2.1.fBytes))))))] [] ?_ ?_
   ·refine Au (vF Ex Aa JQ (vL 0 Ul Aa (wm Aa (AY (r1.2.1.fLong) (λha=>?_) (λha=>?_)))))
    ·refine wf ha (wf ha (wf ha (wv (r:=rB true) (Ar Aa ha Aa) (wm Aa (wz Aa Aa (wz Aa Aa (wz Aa Aa (wv (r:=rB true) (Ar (b:=true) Aa Aa Aa) (wm Aa (wz Aa Aa (wz Aa Aa (wz Aa Aa (wv (r:=rB true) (Ar (b:=true) Aa Aa Aa) (wa Aa (At ?_)))))))))))))));exact Cg ha
    ·refine wo ha (wm Aa (wo ha (wv (Bo (ys:=v) (enc:=Ab) Ci Aa) (wo ha (wv (DQ Aa Aa) (DB Aa ha Aa (wm Aa (AY (decide (200<(v.length:Int))) (λhb=>?_) (λhb=>?_)))))))))
     ·refine wf hb (wf hb (wf hb (wv (r:=rB true) (Ar Aa hb Aa) (wm Aa (wz Aa Aa (wz Aa Aa (wz Aa Aa (wv (r:=rB true) (Ar (b:=true) Aa Aa Aa) (wa Aa (At ?_))))))))));exact Cg (And.intro ha hb)
     ·refine wo hb (vF Ex Aa C1 (wo hb (vL 0 Dm Aa (wo hb (wv (DQ Aa Aa) (DB Aa hb Aa (wm Aa (AY (decide (8<r1.2.1.fDepth)) (λhd=>?_) (λhd=>?_)))))))))
      ·refine wf hd (wf hd (wf hd (wv (r:=rB true) (Ar Aa hd Aa) (wa Aa (At ?_)))));exact Cg (And.intro ha (And.intro hb hd))
      ·refine wo hd (vF Ex Aa C1 (wo hd (vL 0 Dm Aa (wo hd (wv (DQ Aa Aa) (DB Aa hd Aa (wa Aa (At ?_))))))));exact Cg (And.intro ha (And.intro hb hd))
   refine cz hf Aa (λhg hh=>?_) (λhg hi=>?_)
   ·refine An (wa Aa (Ax (A0 (A9 (Ah ?_)))));obtain rfl:=A2 hh;exact Az (BI Uj (AR Aa)) sN ⟨Aa,Aa⟩
   ·refine A1 (AL (AT (An (wa Aa (Ax (A0 ?_))))));obtain rfl:=A2 hi;exact Az (BI Uj (AR Aa)) sN ⟨Aa,Aa⟩
theorem NL  (r:(List Ac))(h:Nb=some r):Fn Tryz.prog GE 47 [] [] (λR H=>R=AD 4 (Ap Ab r)∧H=[]):=by
 refine enter (n:=3) Tryz.func47 Aa Tryz.ntmps47 Aa (λw Z=>?_);unfold Nb at h;refine An (wa Aa (B4 (wv (r:=Bd [Aj 1,Aj 0,rS ([]:Aq),Aj 0]) (Hb Aa Aa) (Bl (ys:=([(Ac.mk 1 0 ([]:Aq) 0)]:List Ac)) (enc:=Ab) (css:=[[Aj 1,Aj 0,rS ([]:Aq),Aj 0]]) (xs:=[.tmp 1]) Ci Cp Jn Aa Aa Aa ⟨Jm.agg ⟨Up.refl _,Up.refl _,Up.refl _,Up.refl _,trivial⟩,trivial⟩ Aa BT Aa Aa Aa (λb1=>?_)))));refine wa Aa (Ax (A0 (WK.freeze (i:=0) Aa (WK.up (d:=0) (r:=AD 4 (Ap Ab ([(Ac.mk 1 0 ([]:Aq) 0)]:List Ac))) Aa (Up.fact (i:=0) Aa) ?_))));obtain rfl:=A2 h;exact Az (BI Tryz.results47 (AR Aa)) (sS sN) ⟨Aa,Aa⟩
theorem QK (b:Bool)(r:(List Ac))(h:QL b=some r):Fn Tryz.prog GE 62 [rB b] [] (λR H=>R=AD 4 (Ap Ab r)∧H=[]):=by
 refine enter (n:=9) Tryz.func62 Aa Tryz.ntmps62 Aa (λw Z=>?_);unfold QL at h;refine An (wa Aa (B4 (wv (r:=Bd [Aj 2,Aj 0,rS ([]:Aq),Aj 0]) (Hb Aa Aa) (B3 (cs:=[Aj 0,Aj 0,rS ([]:Aq),Aj 0]) Jn Aa Aa (λb1=>?_)))));refine AF (i:=0) Cp Aa Aa Aa (Be.c Aa) Aa Aa (cs':=[Aj 2,Aj 0,rS ([]:Aq),Aj 0]) Aa (H':=[.blk b1 [Aj 2,Aj 0,rS ([]:Aq),Aj 0] 63]) Aa (Ax (Av (An (wm Aa (Ax (cz h Aa (λc2 h3=>?_) (λc2 h5=>?_)))))))
 ·refine Au (vF Bx Aa C1 (Cm (i:=0) C1 Aa Aa (C7 Aa) Aa Aa (cs':=[Aj 2,Aj 1,rS ([]:Aq),Aj 0]) Aa (H':=[.blk b1 [Aj 2,Aj 1,rS ([]:Aq),Aj 0] 63]) Aa (B4 (wv (Bf (i:=0) JR Cp Aa Aa Aa Aa) (Bl (ys:=([(Ac.mk 2 1 ([]:Aq) 0)]:List Ac)) (enc:=Ab) (css:=[[Aj 2,Aj 1,rS ([]:Aq),Aj 0]]) (xs:=[.tmp 7]) Ci Cp Jn Aa Aa Aa ⟨Jm.agg ⟨Up.refl _,Up.refl _,Up.refl _,Up.refl _,trivial⟩,trivial⟩ Aa BT Aa Aa Aa (λb4=>?_))))));refine wa Aa (Ax (A0 (WK.freeze (i:=0) Aa (WK.up (d:=2) (r:=AD 4 (Ap Ab ([(Ac.mk 2 1 ([]:Aq) 0)]:List Ac))) Aa (Up.fact (i:=0) Aa) ?_))));obtain rfl:=A2 h3;exact Az (BI Tryz.results62 (AR Aa)) (sS (sS sN)) ⟨Aa,Aa⟩
 ·refine A1 (AT (An (wv (Bf (i:=0) JR Cp Aa Aa Aa Aa) (Bl (ys:=([(Ac.mk 2 0 ([]:Aq) 0)]:List Ac)) (enc:=Ab) (css:=[[Aj 2,Aj 0,rS ([]:Aq),Aj 0]]) (xs:=[.tmp 7]) Ci Cp Jn Aa Aa Aa ⟨Jm.agg ⟨Up.refl _,Up.refl _,Up.refl _,Up.refl _,trivial⟩,trivial⟩ Aa BT Aa Aa Aa (λb6=>?_)))));refine wa Aa (Ax (A0 (WK.freeze (i:=0) Aa (WK.up (d:=2) (r:=AD 4 (Ap Ab ([(Ac.mk 2 0 ([]:Aq) 0)]:List Ac))) Aa (Up.fact (i:=0) Aa) ?_))));obtain rfl:=A2 h5;exact Az (BI Tryz.results62 (AR Aa)) (sS (sS sN)) ⟨Aa,Aa⟩
end Go.Proofs.YtfbmdidnlhifjaaGreatDoor.Q
namespace Go.Proofs.YtfbmdidnlhifjaaGreatDoor
open Go
set_option linter.unusedVariables false
end Go.Proofs.YtfbmdidnlhifjaaGreatDoor
namespace Go.Proofs.YtfbmdidnlhifjaaGreatDoor.Q
open Go Go.RowKit
set_option linter.unusedVariables false
set_option linter.unusedSimpArgs false
set_option maxRecDepth 100000
set_option maxHeartbeats 4000000
end Go.Proofs.YtfbmdidnlhifjaaGreatDoor.Q
namespace Go.Proofs.YtfbmdidnlhifjaaGreatDoor
open Go
set_option linter.unusedVariables false
end Go.Proofs.YtfbmdidnlhifjaaGreatDoor
namespace Go.Proofs.YtfbmdidnlhifjaaGreatDoor.Q
open Go Go.RowKit
set_option linter.unusedVariables false
set_option linter.unusedSimpArgs false
set_option maxRecDepth 100000
set_option maxHeartbeats 4000000
end Go.Proofs.YtfbmdidnlhifjaaGreatDoor.Q
namespace Go.Proofs.YtfbmdidnlhifjaaGreatDoor
open Go
set_option linter.unusedVariables false
def DF (a:(List Ac))(b:(List Ac))(ha:Int):Option (Stp (Int) (Out (Bool) (Unit))):=
 Bq (decide (ha<(a.length:Int))) (Br (Ct ha (a.length:Int))<|Br (Ct ha (b.length:Int))<|Bq (!(decide (((Af a ha).fKind)=((Af b ha).fKind))&&decide (((Af a ha).fInt)=((Af b ha).fInt))&&decide (((Af a ha).fStr)=((Af b ha).fStr))&&decide (((Af a ha).fN)=((Af b ha).fN)))) (some (.out (.ret false))) (Br (Cj .i64 (ha+1))<|some (.next (ha+1)))) (some (.out (.go ())))
def GM :Option (Bool):=
 some true
def Gz (F:Nat)(a:(List Ac))(b:(List Ac)):Option (Bool):=
 Bq (!decide ((a.length:Int)=(b.length:Int))) (some false) (Bt (BW (λσ=>DF a b σ) F 0) (Cf λν=>GM ))
def MZ (F:Nat)(a:(List Ac))(b:(List Ac)):Option (Bool):=
 Bt (Gz F a b) λr1=>some r1
def Ke (a:(List Ac))(b:(List Ac))(ha:Int):Option (Stp (Int) (Out (Bool) (Unit))):=
 Bq (decide (ha<(a.length:Int))) (Br (Ct ha (a.length:Int))<|Br (Ct ha (b.length:Int))<|Bq (!(decide (((Af a ha).fKind)=((Af b ha).fKind))&&decide (((Af a ha).fInt)=((Af b ha).fInt))&&decide (((Af a ha).fStr)=((Af b ha).fStr))&&decide (((Af a ha).fN)=((Af b ha).fN)))) (some (.out (.ret false))) (Br (Cj .i64 (ha+1))<|some (.next (ha+1)))) (some (.out (.go ())))
def Kd :Option (Bool):=
 some true
def Gj (F:Nat)(a:(List Ac))(b:(List Ac)):Option (Bool):=
 Bq (!decide ((a.length:Int)=(b.length:Int))) (some false) (Bt (BW (λσ=>Ke a b σ) F 0) (Cf λν=>Kd ))
end Go.Proofs.YtfbmdidnlhifjaaGreatDoor
namespace Go.Proofs.YtfbmdidnlhifjaaGreatDoor.Q
open Go Go.RowKit
set_option linter.unusedVariables false
set_option linter.unusedSimpArgs false
set_option maxRecDepth 100000
set_option maxHeartbeats 4000000
theorem TW {a0 b0:Int}{a1 b1:Int}{a2 b2:Aq}{a3 b3:Int}(w:World):(Op.equalIn 10000 63 (.agg #[.int .i64 a0,.int .i64 a1,.string (B a2),.int .i64 a3]) (.agg #[.int .i64 b0,.int .i64 b1,.string (B b2),.int .i64 b3])).run Tryz.prog w = .ok (decide (a0=b0)&&decide (a1=b1)&&decide (a2=b2)&&decide (a3=b3)) w:=by
  have hS:Tryz.prog.underlying 63=some (.struct (Tryz.prog.fieldsOf 63)):=by kernel_rfl
  have hp:Tryz.prog.stoodInHeld 63=false:=by kernel_rfl
  have u3:=Wz;have ia3:=Dm;have so3:=C1;have u9:=Gn;have ia9:=CZ;have so9:=CF;have ha:=Tryz.underlying61;have hb:=DZ;have hd:=DY;rw[show(10000:Nat)=9999+1 from rfl,run_equalIn_agg w 9999 63 _ _ hS hp];simp only[Program.fieldsOf,Bx]
  go_simp
  simp only[DW]
  by_cases h0:a0=b0<;>by_cases h1:a1=b1<;>by_cases h2:a2=b2<;>by_cases h3:a3=b3<;>simp[h0,h1,h2,h3]
theorem Lp {n:Nat}{c:Cx}{l:Fr}{H:List Ent}{d:Option Nat}{ty rty:TypeId}{pos:String}{af:Array Edge}{g:Option (Nat×Bool)}{x y:Operand}{a0 b0:Int}{a1 b1:Int}{a2 b2:Aq}{a3 b3:Int}(hx:ev l x=some (Bd [Aj a0,Aj a1,rS a2,Aj a3]))(hy:ev l y=some (Bd [Aj b0,Aj b1,rS b2,Aj b3])):Bw Tryz.prog n c l H { dst:=d,op:=.binOp .neq 63 x y rty,type:=ty,pos:=pos,after:=af,guard:=g } (rB (!(decide (a0=b0)&&decide (a1=b1)&&decide (a2=b2)&&decide (a3=b3)))):=λa w Z ha hw=>by
  obtain⟨us,e1,q1⟩:=ha.ev hx;obtain⟨vs,e2,q2⟩:=ha.ev hy;have k1:=Bj.eq_rv (us:=[.int .i64 a0,.int .i64 a1,.string (B a2),.int .i64 a3]) q1;have k2:=Bj.eq_rv (us:=[.int .i64 b0,.int .i64 b1,.string (B b2),.int .i64 b3]) q2;subst k1;subst k2;have hm:Tryz.prog.eqGuardType Tryz.prog.depth 63=false:=by kernel_rfl
  have hb:=TW (a0:=a0) (a1:=a1) (a2:=a2) (a3:=a3) (b0:=b0) (b1:=b1) (b2:=b2) (b3:=b3) w;refine⟨.bool (!(decide (a0=b0)&&decide (a1=b1)&&decide (a2=b2)&&decide (a3=b3))),rfl,?_⟩;have hg:=run_eqGuard_agg (P:=Tryz.prog) w .neq 63 x y #[.int .i64 a0,.int .i64 a1,.string (B a2),.int .i64 a3] #[.int .i64 b0,.int .i64 b1,.string (B b2),.int .i64 b3] hm;simp only[execOp,e1,e2,Sem.run_bind,hg,Result.andThen_ok,run_neq_struct,hb,Sem.run_pure]
theorem Ng (F:Nat)(a:(List Ac))(b:(List Ac))(r:Bool)(h:Gz F a b=some r):Fn Tryz.prog GE 71 [AD 4 (Ap Ab a),AD 4 (Ap Ab b)] [] (λR H=>R=rB r∧H=[]):=by
 refine enter (n:=26) Tryz.func71 Aa Tryz.ntmps71 Aa (λw Z=>?_);unfold Gz at h;refine An (wa Aa (Ax (Av (An (wm Aa (wv (Bo (ys:=a) (enc:=Ab) Ci Aa) (wm Aa (wv (Bo (ys:=b) (enc:=Ab) Ci Aa) (wv (Dp Aa Aa) (Ax (cz h Aa (λc1 h2=>?_) (λc1 h3=>?_))))))))))))
 ·refine An (wa Aa (Ax (A0 (Ah ?_))));obtain rfl:=A2 h2;exact Az (BI Tryz.results71 (AR Aa)) sN ⟨Aa,Aa⟩
 ·refine A1 (AT (Av (An (wm Aa (wv (Bo (ys:=a) (enc:=Ab) Ci Aa) (wv (r:=Aj 0) (Ay Aa) (Ax (AN (ob h3 λhg hh hf=>Bv (S:=Nat×(Int)×(Unit)) (V:=(Unit)×(Unit)) 0 (λσ=>BW (λσ=>DF a b σ) σ.1 σ.2.1=some hg) (λσ=>[(0,AD 4 (Ap Ab a)),(1,AD 4 (Ap Ab b)),(12,Aj (a.length:Int)),(13,Aj σ.2.1)]) (λσ=>[]) (λσ=>σ.1) (F,0,()) hh (AJ.c Aa (AJ.c Aa (AJ.c Aa (AJ.c Aa AJ.nil)))) sN (λσ=>GM =some r) (λσ=>[]) (λσ=>[]) ?_ ?_)))))))))
  ·rintro⟨h1,ha,⟨⟩⟩ hi;refine BM (l':=[(0,AD 4 (Ap Ab a)),(1,AD 4 (Ap Ab b)),(12,Aj (a.length:Int)),(13,Aj ha)]) (H':=[]) Aa Aa ?_;obtain⟨hj,rfl,hk,hb,he⟩:=Cz hi;replace hb:DF a b ha=some hk:=hb;unfold DF at hb;refine An (wv (C2 Aa Aa) (Ax (Av (cz hb Aa (λhl hm=>?_) (λhl hn=>?_)))))
   ·refine A1 (AT (Av (AN (An (wm Aa (wa Aa (Ax (Av (ck hm λho hp=>ck hp λhq hr=>Df [0,1,5,12,13] [⟨[],AD 4 (Ap Ab a),0⟩,⟨[],Aj ha,0⟩,⟨[0,1],EF (Ab (Af a ha)),0⟩,⟨[2],Bd (Ab (Af a ha)),0⟩,⟨[],AD 4 (Ap Ab b),0⟩,⟨[],Aj ha,0⟩,⟨[4,5],EF (Ab (Af b ha)),0⟩,⟨[6],Bd (Ab (Af b ha)),0⟩,⟨[3,7],rB (!(decide (((Af a ha).fKind)=((Af b ha).fKind))&&decide (((Af a ha).fInt)=((Af b ha).fInt))&&decide (((Af a ha).fStr)=((Af b ha).fStr))&&decide (((Af a ha).fN)=((Af b ha).fN)))),0⟩] [16,17,18,19,20,21,22,23,24,0,1,12,13] ?_ ?_)))))))))
    ·refine oq (Ay Aa) (oq (Ay Aa) (oq (Bh (enc:=Ab) (ys:=a) Ci Cp Aa Aa ho) (oq (B6 JR Cp Aa Aa Aa) (oq (Ay Aa) (oq (Ay Aa) (oq (Bh (enc:=Ab) (ys:=b) Ci Cp Aa Aa hq) (oq (B6 JR Cp Aa Aa Aa) (oq (Lp Aa Aa) ?_))))))));exact Di
    refine AT (cz hr Aa (λhs ht=>?_) (λhs hu=>?_))
    ·refine An (wa Aa (Ax (A0 (A9 (Ah (Ah (Bm ?_)))))));have hw:=B9 ht he hf;refine A9 (Ah ?_);obtain rfl:=A2 hw;exact Az (BI Tryz.results71 (AR Aa)) sN ⟨Aa,Aa⟩
    ·refine A1 (AL (AT (Au (ck hu λhx hy=>wv (B0 Aa Aa hx) (wm Aa (At ?_))))));have hz:=Bn hy he;exact AC (AA (hj,ha+1,()) ⟨hz,Xi _⟩ (AJ.c Aa (AJ.c Aa (AJ.c Aa (AJ.c Aa AJ.nil)))) sN)
   ·refine By (A4 ?_);have h0:=BQ hn he hf;exact A4 (Bi (AA ((),()) h0 AJ.nil sN))
  ·rintro⟨⟨⟩,⟨⟩⟩ hd;refine Cy (l':=[]) (H':=[]) Aa Aa ?_;replace hd:GM =some r:=hd;unfold GM at hd;refine Bk (AT (An (wa Aa (Ax (A0 ?_)))));obtain rfl:=A2 hd;exact Az (BI Tryz.results71 (AR Aa)) sN ⟨Aa,Aa⟩
theorem Ut (F:Nat)(a:(List Ac))(b:(List Ac))(r:Bool)(h:MZ F a b=some r):Fn Tryz.prog GE 61 [AD 4 (Ap Ab a),AD 4 (Ap Ab b)] [] (λR H=>R=rB r∧H=[]):=by
 refine enter (n:=8) Tryz.func61 Aa Tryz.ntmps61 Aa (λw Z=>?_);unfold MZ at h;refine An (wa Aa (B4 (wm Aa (wm Aa (ob h λr1 e3 h2=>Cl Tryz.call71 (Ng F a b r1 e3) Aa (wa Aa (Ax (A0 ?_))))))));obtain rfl:=A2 h2;exact Az (BI Tryz.results61 (AR Aa)) sN ⟨Aa,Aa⟩
theorem HK (F:Nat)(a:(List Ac))(b:(List Ac))(r:Bool)(h:Gj F a b=some r):Fn Tryz.prog GE 13 [AD 4 (Ap Ab a),AD 4 (Ap Ab b)] [] (λR H=>R=rB r∧H=[]):=by
 refine enter (n:=26) Tryz.func13 Aa Tryz.ntmps13 Aa (λw Z=>?_);unfold Gj at h;refine An (wa Aa (Ax (Av (An (wm Aa (wv (Bo (ys:=a) (enc:=Ab) Ci Aa) (wm Aa (wv (Bo (ys:=b) (enc:=Ab) Ci Aa) (wv (Dp Aa Aa) (Ax (cz h Aa (λc1 h2=>?_) (λc1 h3=>?_))))))))))))
 ·refine An (wa Aa (Ax (A0 (Ah ?_))));obtain rfl:=A2 h2;exact Az (BI Tryz.results13 (AR Aa)) sN ⟨Aa,Aa⟩
 ·refine A1 (AT (Av (An (wa Aa (Ax (AN (ob h3 λhg hh hf=>Bv (S:=Nat×(Int)×(Unit)) (V:=(Unit)×(Unit)) 0 (λσ=>BW (λσ=>Ke a b σ) σ.1 σ.2.1=some hg) (λσ=>[(0,AD 4 (Ap Ab a)),(1,AD 4 (Ap Ab b)),(5,Aj σ.2.1)]) (λσ=>[]) (λσ=>σ.1) (F,0,()) hh (AJ.c Aa (AJ.c Aa (AJ.c Aa AJ.nil))) sN (λσ=>Kd =some r) (λσ=>[]) (λσ=>[]) ?_ ?_)))))))
  ·rintro⟨h1,ha,⟨⟩⟩ hi;refine BM (l':=[(0,AD 4 (Ap Ab a)),(1,AD 4 (Ap Ab b)),(5,Aj ha)]) (H':=[]) Aa Aa ?_;obtain⟨hj,rfl,hk,hb,he⟩:=Cz hi;replace hb:Ke a b ha=some hk:=hb;unfold Ke at hb;refine Av (An (wm Aa (wm Aa (wv (Bo (ys:=a) (enc:=Ab) Ci Aa) (wv (C2 Aa Aa) (Ax (cz hb Aa (λhl hm=>?_) (λhl hn=>?_))))))))
   ·refine A1 (AT (Av (AN (Av (ck hm λho hp=>ck hp λhq hr=>Df [0,1,5] [⟨[],AD 4 (Ap Ab a),0⟩,⟨[],Aj ha,0⟩,⟨[0,1],EF (Ab (Af a ha)),0⟩,⟨[2],Bd (Ab (Af a ha)),0⟩,⟨[],AD 4 (Ap Ab b),0⟩,⟨[],Aj ha,0⟩,⟨[4,5],EF (Ab (Af b ha)),0⟩,⟨[6],Bd (Ab (Af b ha)),0⟩,⟨[3,7],rB (!(decide (((Af a ha).fKind)=((Af b ha).fKind))&&decide (((Af a ha).fInt)=((Af b ha).fInt))&&decide (((Af a ha).fStr)=((Af b ha).fStr))&&decide (((Af a ha).fN)=((Af b ha).fN)))),0⟩] [17,18,19,20,21,22,23,24,25,0,1,5] ?_ ?_)))))
    ·refine oq (Ay Aa) (oq (Ay Aa) (oq (Bh (enc:=Ab) (ys:=a) Ci Cp Aa Aa ho) (oq (B6 JR Cp Aa Aa Aa) (oq (Ay Aa) (oq (Ay Aa) (oq (Bh (enc:=Ab) (ys:=b) Ci Cp Aa Aa hq) (oq (B6 JR Cp Aa Aa Aa) (oq (Lp Aa Aa) ?_))))))));exact Di
    refine AT (cz hr Aa (λhs ht=>?_) (λhs hu=>?_))
    ·refine An (wa Aa (Ax (A0 (A9 (Ah (Ah (Bm ?_)))))));have hw:=B9 ht he hf;refine A9 (Ah ?_);obtain rfl:=A2 hw;exact Az (BI Tryz.results13 (AR Aa)) sN ⟨Aa,Aa⟩
    ·refine A1 (AL (AT (Au (wm Aa (ck hu λhx hy=>wv (B0 Aa Aa hx) (wa Aa (At ?_)))))));have hz:=Bn hy he;exact AC (AA (hj,ha+1,()) ⟨hz,Xi _⟩ (AJ.c Aa (AJ.c Aa (AJ.c Aa AJ.nil))) sN)
   ·refine By (A4 ?_);have h0:=BQ hn he hf;exact A4 (Bi (AA ((),()) h0 AJ.nil sN))
  ·rintro⟨⟨⟩,⟨⟩⟩ hd;refine Cy (l':=[]) (H':=[]) Aa Aa ?_;replace hd:Kd =some r:=hd;unfold Kd at hd;refine Bk (AT (An (wa Aa (Ax (A0 ?_)))));obtain rfl:=A2 hd;exact Az (BI Tryz.results13 (AR Aa)) sN ⟨Aa,Aa⟩
end Go.Proofs.YtfbmdidnlhifjaaGreatDoor.Q
namespace Go.Proofs.YtfbmdidnlhifjaaGreatDoor
open Go
set_option linter.unusedVariables false
def Kh (F:Nat)(v:(List Ac)):Option ((List Ac)×Int):=
 Bt (I1 F v) λr1=>Bq (!decide (r1=0)) (some (([]:List Ac),r1)) (some (v,0))
def Nk :Option ((List Ac)):=
 some ([(Ac.mk 1 0 ([]:Aq) 0)]:List Ac)
def Nn (b:Bool):Option ((List Ac)):=
 Bq (b) (some ([(Ac.mk 2 1 ([]:Aq) 0)]:List Ac)) (some ([(Ac.mk 2 0 ([]:Aq) 0)]:List Ac))
def Tf (F:Nat)(n:Int):Option ((List Ac)×Int):=
 Bt (Kh F ([(Ac.mk 3 n ([]:Aq) 0)]:List Ac)) λr2=>some (r2.1,r2.2)
end Go.Proofs.YtfbmdidnlhifjaaGreatDoor
namespace Go.Proofs.YtfbmdidnlhifjaaGreatDoor.Q
open Go Go.RowKit
set_option linter.unusedVariables false
set_option linter.unusedSimpArgs false
set_option maxRecDepth 100000
set_option maxHeartbeats 4000000
theorem Eo {n:Nat}{c:Cx}{l:Fr}{H:List Ent}{d:Option Nat}{ty:TypeId}{pos:String}{af:Array Edge}{g:Option (Nat×Bool)}{x0:Operand}{r0:Rp}(h0:ev l x0=some r0)(u0:r0.one=true){x1:Operand}{r1:Rp}(h1:ev l x1=some r1)(u1:r1.one=true):Bw Tryz.prog n c l H { dst:=d,op:=.build 63 #[(0,x0),(1,x1)],type:=ty,pos:=pos,after:=af,guard:=g } (Bd [r0,r1,rS ([]:Aq),Aj 0]):=λa w Z ha _=>by
  have p0:=ha.ev h0;have c0:=BN (r0.hone u0 Z _ p0);have p1:=ha.ev h1;have c1:=BN (r1.hone u1 Z _ p1);have hb:Tryz.prog.built 63 [(0,a.eval x0),(1,a.eval x1)]=some #[a.eval x0,a.eval x1,(.string ⟨#[]⟩),(.int .i64 0)]:=by
    rw[Rn];generalize a.eval x0=v0 at *;generalize a.eval x1=v1 at *;simp[Instr.fill,c0,c1]
  refine⟨.agg #[a.eval x0,a.eval x1,(.string ⟨#[]⟩),(.int .i64 0)],⟨[a.eval x0,a.eval x1,(.string ⟨#[]⟩),(.int .i64 0)],rfl,p0,p1,rfl,rfl,trivial⟩,?_⟩;have:=run_build w 63 #[(0,a.eval x0),(1,a.eval x1)] _ (by simpa using hb);simp[execOp,this]
theorem Qj (F:Nat)(v:(List Ac))(r:(List Ac)×Int)(h:Kh F v=some r):Fn Tryz.prog GE 86 [AD 4 (Ap Ab v)] [] (λR H=>R=Dk [AD 4 (Ap Ab r.1),Aj r.2]∧H=[]):=by
 refine enter (n:=11) Tryz.func86 Aa Tryz.ntmps86 Aa (λw Z=>?_);unfold Kh at h;refine An (wa Aa (wa Aa (B4 (wm Aa (ob h λr1 e3 h2=>Cl Tryz.call41 (Mf F v r1 e3) Aa (wa Aa (Ax (Av (An (wm Aa (wv (Dp Aa Aa) (Ax (cz h2 Aa (λc4 h5=>?_) (λc4 h6=>?_))))))))))))))
 ·refine An (wm Aa (wa Aa (wa Aa (Ax (A0 (Ah (WK.up (d:=2) (r:=AD 4 (Ap Ab ([]:List Ac))) Aa (Up.le (Gx.nil _)) ?_)))))));obtain rfl:=A2 h5;exact Az (Ix Tryz.results86 (AR Aa) (AR Aa)) sN ⟨Aa,Aa⟩
 ·refine A1 (AT (An (wm Aa (wa Aa (wa Aa (Ax (A0 ?_)))))));obtain rfl:=A2 h6;exact Az (Ix Tryz.results86 (AR Aa) (AR Aa)) sN ⟨Aa,Aa⟩
theorem NT  (r:(List Ac))(h:Nk=some r):Fn Tryz.prog GE 34 [] [] (λR H=>R=AD 4 (Ap Ab r)∧H=[]):=by
 refine enter (n:=3) Tryz.func34 Aa Tryz.ntmps34 Aa (λw Z=>?_);unfold Nk at h;refine An (wa Aa (B4 (wv (r:=Bd [Aj 1,Aj 0,rS ([]:Aq),Aj 0]) (Hb Aa Aa) (Bl (ys:=([(Ac.mk 1 0 ([]:Aq) 0)]:List Ac)) (enc:=Ab) (css:=[[Aj 1,Aj 0,rS ([]:Aq),Aj 0]]) (xs:=[.tmp 1]) Ci Cp Jn Aa Aa Aa ⟨Jm.agg ⟨Up.refl _,Up.refl _,Up.refl _,Up.refl _,trivial⟩,trivial⟩ Aa BT Aa Aa Aa (λb1=>?_)))));refine wa Aa (Ax (A0 (WK.freeze (i:=0) Aa (WK.up (d:=0) (r:=AD 4 (Ap Ab ([(Ac.mk 1 0 ([]:Aq) 0)]:List Ac))) Aa (Up.fact (i:=0) Aa) ?_))));obtain rfl:=A2 h;exact Az (BI Tryz.results34 (AR Aa)) (sS sN) ⟨Aa,Aa⟩
theorem LD (b:Bool)(r:(List Ac))(h:Nn b=some r):Fn Tryz.prog GE 43 [rB b] [] (λR H=>R=AD 4 (Ap Ab r)∧H=[]):=by
 refine enter (n:=8) Tryz.func43 Aa Tryz.ntmps43 Aa (λw Z=>?_);unfold Nn at h;refine An (wa Aa (Ax (Av (An (wm Aa (Ax (cz h Aa (λc1 h2=>?_) (λc1 h4=>?_))))))))
 ·refine An (wv (r:=Bd [Aj 2,Aj 1,rS ([]:Aq),Aj 0]) (Eo Aa Aa Aa Aa) (Bl (ys:=([(Ac.mk 2 1 ([]:Aq) 0)]:List Ac)) (enc:=Ab) (css:=[[Aj 2,Aj 1,rS ([]:Aq),Aj 0]]) (xs:=[.tmp 4]) Ci Cp Jn Aa Aa Aa ⟨Jm.agg ⟨Up.refl _,Up.refl _,Up.refl _,Up.refl _,trivial⟩,trivial⟩ Aa BT Aa Aa Aa (λb3=>?_)));refine wa Aa (Ax (A0 (Ah (WK.freeze (i:=0) Aa (WK.up (d:=2) (r:=AD 4 (Ap Ab ([(Ac.mk 2 1 ([]:Aq) 0)]:List Ac))) Aa (Up.fact (i:=0) Aa) ?_)))));obtain rfl:=A2 h2;exact Az (BI Tryz.results43 (AR Aa)) (sS sN) ⟨Aa,Aa⟩
 ·refine A1 (AT (An (wv (r:=Bd [Aj 2,Aj 0,rS ([]:Aq),Aj 0]) (Hb Aa Aa) (Bl (ys:=([(Ac.mk 2 0 ([]:Aq) 0)]:List Ac)) (enc:=Ab) (css:=[[Aj 2,Aj 0,rS ([]:Aq),Aj 0]]) (xs:=[.tmp 6]) Ci Cp Jn Aa Aa Aa ⟨Jm.agg ⟨Up.refl _,Up.refl _,Up.refl _,Up.refl _,trivial⟩,trivial⟩ Aa BT Aa Aa Aa (λb5=>?_)))));refine wa Aa (Ax (A0 (WK.freeze (i:=0) Aa (WK.up (d:=2) (r:=AD 4 (Ap Ab ([(Ac.mk 2 0 ([]:Aq) 0)]:List Ac))) Aa (Up.fact (i:=0) Aa) ?_))));obtain rfl:=A2 h4;exact Az (BI Tryz.results43 (AR Aa)) (sS sN) ⟨Aa,Aa⟩
theorem V4 (F:Nat)(n:Int)(r:(List Ac)×Int)(h:Tf F n=some r):Fn Tryz.prog GE 68 [Aj n] [] (λR H=>R=Dk [AD 4 (Ap Ab r.1),Aj r.2]∧H=[]):=by
 refine enter (n:=10) Tryz.func68 Aa Tryz.ntmps68 Aa (λw Z=>?_);unfold Tf at h;refine An (wa Aa (wa Aa (B4 (wm Aa (wv (r:=Bd [Aj 3,Aj n,rS ([]:Aq),Aj 0]) (Eo Aa Aa Aa Aa) (Bl (ys:=([(Ac.mk 3 n ([]:Aq) 0)]:List Ac)) (enc:=Ab) (css:=[[Aj 3,Aj n,rS ([]:Aq),Aj 0]]) (xs:=[.tmp 5]) Ci Cp Jn Aa Aa Aa ⟨Jm.agg ⟨Up.refl _,Up.refl _,Up.refl _,Up.refl _,trivial⟩,trivial⟩ Aa BT Aa Aa Aa (λb1=>?_)))))));refine WL.freeze (i:=0) Aa (WL.up (d:=6) (r:=AD 4 (Ap Ab ([(Ac.mk 3 n ([]:Aq) 0)]:List Ac))) Aa (Up.fact (i:=0) Aa) (ob h λr2 e4 h3=>Cl Tryz.call86 (Qj F ([(Ac.mk 3 n ([]:Aq) 0)]:List Ac) r2 e4) Aa (wv (AO Aa Aa) (wv (AO Aa Aa) (wa Aa (wa Aa (Ax (A0 ?_))))))));obtain rfl:=A2 h3;exact Az (Ix Tryz.results68 (AR Aa) (AR Aa)) (sS sN) ⟨Aa,Aa⟩
end Go.Proofs.YtfbmdidnlhifjaaGreatDoor.Q
namespace Go.Proofs.YtfbmdidnlhifjaaGreatDoor
open Go
set_option linter.unusedVariables false
end Go.Proofs.YtfbmdidnlhifjaaGreatDoor
namespace Go.Proofs.YtfbmdidnlhifjaaGreatDoor.Q
open Go Go.RowKit
set_option linter.unusedVariables false
set_option linter.unusedSimpArgs false
section
variable {P : Program} {n : Nat} {c : Cx} {l : Fr} {H : List Ent} {d : Option Nat} {x y : Operand} {t t' ty : TypeId} {pos : String} {af : Array Edge} {g : Option (Nat × Bool)} {k k' : IntKind} {p q : Int}
end
section
variable {P : Program} {n : Nat} {c : Cx} {ops : Array Oper} {Q : Exit → Act → World → Prop} {rest : List Oper} {l : Fr} {H H' : List Ent} {d : Nat} {d' : Option Nat} {x y : Operand} {t ty e : TypeId} {pos : String} {af : Array Edge} {g : Option (Nat × Bool)} {k : IntKind} {b i len : Nat} {j : Int}
end
def MB (ops:List Oper)(N:Nat):Bool:=
 let cl:=JG ops []
 (List.range ops.length).all (λi=>(D6 (ops.getD i default)).all (·<i))&&
 (List.range ops.length).all (λi=>i<N||(List.range i).all (λj=>(cl.getD i 0).testBit j))
section
variable {P : Program} {Q : Exit → Act → World → Prop}
theorem PE {listed:Array Bool}{len m:Nat}(hs:listed.size=len)(hm:m≤len)(h:∀j,j<len→(listed.getD j true=true↔j<m)):listed.toList.count false=len-m:=by
 have:listed.toList=List.replicate m true++List.replicate (len-m) false:=by
  apply List.ext_getElem
  ·simp[hs];omega
  ·intro j h1 h2;have hj:j<len:=by simpa[hs] using h1
   have:=h j hj;rw[Array.getD_eq_getD_getElem?,Array.getElem?_eq_getElem (by omega)] at this;simp only[Xy] at this;rw[Array.getElem_toList,List.getElem_append]
   split
   ·rename_i h3
    simp at h3;simp[this.2 h3]
   ·rename_i h3
    simp at h3;simp only[List.getElem_replicate]
    cases hb:listed[j] with
    | false=>rfl
    | true=>have:=this.1 hb;omega
 rw[this];simp[List.count_append,List.count_replicate]
theorem Rh {listed:Array Bool}{j:Nat}(h:j<listed.size)(d d':Bool):listed.getD j d=listed.getD j d':=by
 simp[Array.getD_eq_getD_getElem?,Array.getElem?_eq_getElem h]
theorem MF {ops:List Oper}{listed:Array Bool}{i:Nat}{o:Oper}(ho:ops[i]? =some o)(hb:∀e∈D6 o,listed.getD e true=true)
  (hcl:∀j o,ops[j]? =some o→listed.getD j true=true→∀e∈D6 o,listed.getD e true=true) (j:Nat) (h:((JG ops []).getD i 0).testBit j=true):j=i∨listed.getD j true=true:=
 Gg ops (λk=>k=i∨listed.getD k true=true) ops [] (λt o' ht e he hF=>by
  rcases hF with hF | hF
  ·simp at hF;subst hF;rw[ho] at ht;simp at ht;subst ht;exact .inr (hb e he)
  ·exact .inr (hcl t o' ht (by simpa using hF) e he)) (λj i hb=>by simp at hb) i j h (.inl rfl)
theorem J4 {ops:List Oper}{listed:Array Bool}{i:Nat}(hsz:listed.size=ops.length)(hlt:∀i,i<ops.length→∀e∈D6 (ops.getD i default),e<i)(h:i∈Region.ready .any ops.toArray listed) :
  listed.getD i true=false∧i<ops.length∧∃o,ops[i]? =some o∧∀e∈D6 o,listed.getD e true=true:=by
 obtain⟨h1,o,ho,h2⟩:=mem_ready.1 h;have ho':ops[i]? =some o:=by simpa using ho
 have hil:=(List.getElem?_eq_some_iff.1 ho').1;refine⟨h1,hil,o,ho',λe he=>?_⟩;have hei:=hlt i hil e (by rw[Xh,ho'];exact he);simp only[D6,List.mem_map,List.mem_filter] at he;obtain⟨x,⟨hx1,hx2⟩,rfl⟩:=he;have h3:=h2 x (by simpa using hx1) hx2;rw[Rh (by omega) true false];exact h3
theorem Jt {ops:List Oper}{listed:Array Bool}(hsz:listed.size=ops.length)(hlt:∀i,i<ops.length→∀e∈D6 (ops.getD i default),e<i)(h:Region.ready .any ops.toArray listed=[]) :
  ∀j,j<ops.length→listed.getD j true=true:=by
 intro j
 induction j using Nat.strongRecOn with
 | ind j ih=>
  intro hj
  cases hb:listed.getD j true with
  | true=>rfl
  | false=>
   have:j∈Region.ready .any ops.toArray listed:=mem_ready.2 ⟨hb,ops[j],by simp[hj],λe he hbn=>by
    have hel:e.on<j:=hlt j hj e.on (by
     rw[Xh,Xg hj];simp only[D6,Xy,List.mem_map,List.mem_filter];exact⟨e,⟨by simpa using he,hbn⟩,rfl⟩)
    rw[Rh (by omega) false true];exact ih e.on hel (by omega)⟩
   rw[h] at this;cases this
theorem LA {listed:Array Bool}{i j:Nat}(hi:i<listed.size):(listed.setIfInBounds i true).getD j true=true↔(j=i∨listed.getD j true=true):=by
 by_cases hj:i=j
 ·subst hj;simp[hi]
 ·rw[getD_set_ne true hj];exact⟨.inr,λh=>h.elim (λh=>absurd h.symm hj) id⟩
theorem R6 {listed:Array Bool}{i fuel:Nat}(hi:i<listed.size)(hun:listed.getD i true=false)(hc:listed.toList.count false=fuel+1):(listed.setIfInBounds i true).toList.count false=fuel:=by
 have hfi:listed.toList[i]? =some false:=by
  rw[Array.getD_eq_getD_getElem?,Array.getElem?_eq_getElem hi] at hun;simp at hun;simp[hi,hun]
 rw[Array.toList_setIfInBounds];have h1:=List.count_set (a:=true) (b:=false) (l:=listed.toList) (i:=i) (by simpa using hi);have h2:listed.toList[i]'(by simpa using hi)=false:=by
  have:=List.getElem?_eq_some_iff.1 hfi;exact this.2
 rw[h1,h2,hc];rfl
theorem Li {ops:List Oper}{N:Nat}(hlt:∀i,i<ops.length→∀e∈D6 (ops.getD i default),e<i)
  (hch:∀i,N≤i→i<ops.length→∀j,j<i→((JG ops []).getD i 0).testBit j=true):∀(k m:Nat) (listed:Array Bool) (a:Act) (w:World),m+k=ops.length→N≤m→listed.size=ops.length→
   (∀j,j<ops.length→(listed.getD j true=true↔j<m))→(∀j o,ops[j]? =some o→listed.getD j true=true→∀e∈D6 o,listed.getD e true=true)→wpList P ops.toArray Q (ops.drop m) a w→wpAny P .any ops.toArray Q k listed a w
 | 0,m,listed,a,w,hk,hN,hsz,hl,hcl,h=>by
  refine⟨?_,?_⟩
  ·cases hr:Region.ready .any ops.toArray listed with
   | nil=>rfl
   | cons i r=>
    obtain⟨h1,h2,_⟩:=J4 hsz hlt (i:=i) (by rw[hr];simp);rw[(hl i h2).2 (by omega)] at h1;cases h1
  ·rw[List.drop_of_length_le (by omega)] at h;exact h
 | k+1,m,listed,a,w,hk,hN,hsz,hl,hcl,h=>by
  refine⟨λhr=>?_,λi hi=>?_⟩
  ·have:=(hl m (by omega)).1 (Jt hsz hlt hr m (by omega));omega
  ·obtain⟨h1,h2,o,ho,hb⟩:=J4 hsz hlt hi;have him:i=m:=by
    have hmi : ¬ i<m:=λh'=>by rw[(hl i h2).2 h'] at h1;cases h1
    by_cases e:i=m
    ·exact e
    ·rcases MF ho hb hcl m (hch i (by omega) h2 m (by omega)) with h3 | h3
     ·exact h3.symm
     ·have:=(hl m (by omega)).1 h3;omega
   subst him;have hd:ops.drop i=o::ops.drop (i+1):=by
    rw[List.drop_eq_getElem_cons h2]
    congr 1
    exact(List.getElem?_eq_some_iff.1 ho).2
   rw[hd] at h;have ih:∀a' w',wpList P ops.toArray Q (ops.drop (i+1)) a' w'→wpAny P .any ops.toArray Q k (listed.setIfInBounds i true) a' w':=λa' w' h'=>by
    refine Li hlt hch k (i+1) _ a' w' (by omega) (by omega) (by simpa using hsz) (λj hj=>?_) (λj o' hj hlj e he=>?_) h'
    ·rw[LA (by omega),hl j hj];omega
    ·rw[LA (by omega)] at hlj ⊢;rcases hlj with rfl | hlj
     ·rw[ho] at hj;simp at hj;subst hj;exact .inr (hb e he)
     ·exact .inr (hcl j o' hj hlj e he)
   unfold wpOp;have hoA:ops.toArray[i]? =some o:=by simpa using ho
   simp only[hoA];simp only[wpList] at h
   split
   ·rename_i hw'
    rw[Xr hw'] at h;exact h.imp (λh=>Oper.wp_mono ih h) (λh=>h)
   ·rename_i hw'
    rw[Xn hw'] at h;exact ih _ _ h
theorem PV {id:Nat}{ops:List Oper}{N:Nat}(hm:P.follows .mixedOrders=true)(hB:MB ops N=true)(hN:N≤ops.length)(I:(Nat→Bool)→Act→World→Prop)
  (hext:∀S S' a w,(∀j,j<N→S j=S' j)→I S a w→I S' a w) {a:Act} {w:World} (h0:I (λ_=>false) a { w with drawn:=w.drawn+1 })
  (step:∀S i o a w,i<N→S i=false→ops[i]? =some o→(∀e∈D6 o,e<i∧S e=true)→I S a w→∀K:Act→World→Prop,(∀a' w',I (λj=>j ==i||S j) a' w'→K a' w')→
   (Region.wanted o (yielded ops.toArray a.tmps)=true→o.wp P a w K Q)∧(Region.wanted o (yielded ops.toArray a.tmps)=false→K (a.put o.dst undef) w))
  (fin:∀a w,I (λ_=>true) a w→wpList P ops.toArray Q (ops.drop N) a w):(Code.region id ops.toArray true).wp P Q a w:=by
 simp only[MB,Xf,X1,List.mem_range,Xc,X2] at hB;obtain⟨hlt,hch0⟩:=hB;have hch:∀i,N≤i→i<ops.length→∀j,j<i→((JG ops []).getD i 0).testBit j=true:=λi h1 h2 j hj=>by
  rcases hch0 i h2 with h3 | h3
  ·omega
  ·exact h3 j hj
 refine wp_region_any hm ?_;have main:∀(fuel:Nat) (listed:Array Bool) (a:Act) (w:World),listed.size=ops.length→listed.toList.count false=fuel→I (λj=>listed.getD j true) a w→
   (∀j o,ops[j]? =some o→listed.getD j true=true→∀e∈D6 o,listed.getD e true=true)→(∀j,N≤j→j<ops.length→listed.getD j true=false)→wpAny P .any ops.toArray Q fuel listed a w:=by
  intro fuel;have allin:∀(fuel:Nat) (listed:Array Bool) (a:Act) (w:World),listed.size=ops.length→listed.toList.count false=fuel→I (λj=>listed.getD j true) a w→
   (∀j o,ops[j]? =some o→listed.getD j true=true→∀e∈D6 o,listed.getD e true=true)→(∀j,N≤j→j<ops.length→listed.getD j true=false)→(∀j,j<N→listed.getD j true=true)→wpAny P .any ops.toArray Q fuel listed a w:=by
   intro fuel listed a w hsz hc hI hcl hlast hall;have hl:∀j,j<ops.length→(listed.getD j true=true↔j<N):=λj hj=>by
    constructor
    ·intro h
     by_cases hjN:j<N
     ·exact hjN
     ·rw[hlast j (by omega) hj] at h;cases h
    ·exact hall j
   have:=PE hsz hN hl;refine Li hlt hch fuel N listed a w (by omega) (Xq _) hsz hl hcl (fin a w (hext _ _ a w (λj hj=>hall j hj) hI))
  induction fuel with
  | zero=>
   intro listed a w hsz hc hI hcl hlast;refine allin 0 listed a w hsz hc hI hcl hlast (λj hj=>?_)
   cases hb:listed.getD j true with
   | true=>rfl
   | false=>
    have:false∈listed.toList:=by
     rw[Array.getD_eq_getD_getElem?,Array.getElem?_eq_getElem (by omega)] at hb;simp at hb;rw[← hb];simp
    have:=List.count_pos_iff.2 this;omega
  | succ fuel ih=>
   intro listed a w hsz hc hI hcl hlast
   by_cases hall:∀j,j<N→listed.getD j true=true
   ·exact allin (fuel+1) listed a w hsz hc hI hcl hlast hall
   ·refine⟨λhr=>absurd (λj hj=>Jt hsz hlt hr j (by omega)) hall,λi hi=>?_⟩;obtain⟨h1,h2,o,ho,hb⟩:=J4 hsz hlt hi;have hiN:i<N:=by
     by_cases h:i<N
     ·exact h
     ·refine absurd (λj hj=>?_) hall;rcases MF ho hb hcl j (hch i (by omega) h2 j (by omega)) with h3 | h3
      ·omega
      ·exact h3
    have K':∀a' w',I (λj=>j ==i||listed.getD j true) a' w'→wpAny P .any ops.toArray Q fuel (listed.setIfInBounds i true) a' w':=λa' w' hI'=>by
     refine ih _ a' w' (by simpa using hsz) (R6 (by omega) h1 hc) (hext _ _ a' w' (λj hj=>?_) hI') (λj o' hj hlj e he=>?_) (λj h3 h4=>?_)
     ·have:=LA (listed:=listed) (i:=i) (j:=j) (by omega)
      cases hq:(listed.setIfInBounds i true).getD j true with
      | true=>
       rw[hq] at this;rcases this.1 rfl with h | h
       ·simp[h]
       ·simp[h]
      | false=>
       rw[hq] at this;have h5 : ¬ (j=i∨listed.getD j true=true):=λh=>by have:=this.2 h;cases this
       cases hz:listed.getD j true with
       | true=>exact absurd (.inr hz) h5
       | false=>
        have:j≠i:=λh=>h5 (.inl h);simp[this]
     ·rw[LA (by omega)] at hlj ⊢;rcases hlj with rfl | hlj
      ·rw[ho] at hj;simp at hj;subst hj;exact .inr (hb e he)
      ·exact .inr (hcl j o' hj hlj e he)
     ·rw[getD_set_ne true (by omega)];exact hlast j h3 h4
    obtain⟨k1,k2⟩:=step _ i o a w hiN h1 ho (λe he=>⟨hlt i h2 e (by rw[Xh,ho];exact he),hb e he⟩) hI _ K';unfold wpOp;have hoA:ops.toArray[i]? =some o:=by simpa using ho
    simp only[hoA]
    split
    ·rename_i hw';exact .inl (k1 hw')
    ·rename_i hw';exact k2 (by simpa using hw')
 have e0:∀j,j<ops.length→(Array.replicate ops.length false).getD j true=false:=λj hj=>by simp[hj]
 have hsz0:ops.toArray.size=ops.length:=by simp
 rw[hsz0];refine main ops.length (Array.replicate ops.length false) a _ (by simp) (by simp) (hext _ _ _ _ (λj hj=>(e0 j (by omega)).symm) h0) (λj o hj hl=>?_) (λj _ h2=>e0 j h2);rw[e0 j (List.getElem?_eq_some_iff.1 hj).1] at hl;cases hl
end
structure Sa where
 deps:List Nat
 r:Rp
 al:Option (List Rp×TypeId):=none
 late:Option (Nat×List Rp):=none
 sto:Option Nat:=none
def ES (sp:List Sa)(i:Nat):Sa:=sp.getD i { deps:=[],r:=rv undef }
def S3 (sp:List Sa):List Sp:=sp.map λs=>⟨s.deps,s.r,0⟩
def KF (β:Nat→Nat)(s:Sa)(i:Nat):Rp:=match s.al with
 | none=>s.r
 | some _=>rv (.pointer (some ⟨β i,0,none⟩))
def Ld (S:Nat→Bool)(late:Option (Nat×List Rp))(cs:List Rp):List Rp:=match late with
 | none=>cs
 | some q=>if S q.1 then q.2 else cs
def G6 (S:Nat→Bool)(β:Nat→Nat):List Sa→Nat→List Ent
 | [],_=>[]
 | s::r,t=>match s.al with
  | some p=>if S t then .blk (β t) (Ld S s.late p.1) p.2::G6 S β r (t+1) else G6 S β r (t+1)
  | none=>G6 S β r (t+1)
def So (β:Nat→Nat):List Sa→Nat→List Ent
 | [],_=>[]
 | s::r,t=>match s.al with
  | some p=>.blk (β t) (match s.late with | none=>p.1 | some q=>q.2) p.2::So β r (t+1)
  | none=>So β r (t+1)
def JO (β:Nat→Nat):List Oper→List Sa→Nat→Fr→Fr
 | o::os,s::sp,i,l=>match o.dst with
  | some d=>(d,KF β s i)::JO β os sp (i+1) l
  | none=>JO β os sp (i+1) l
 | _,_,_,l=>l
theorem JF {S S':Nat→Bool}{late:Option (Nat×List Rp)}{cs:List Rp}(h:∀q,late=some q→S q.1=S' q.1):Ld S late cs=Ld S' late cs:=by
 unfold Ld
 cases late with
 | none=>rfl
 | some q=>simp only[];rw[h q rfl]
theorem ED (S:Nat→Bool)(β:Nat→Nat)(s:Sa)(r:List Sa)(t:Nat):G6 S β (s::r) t=match s.al with
  | some p=>if S t then .blk (β t) (Ld S s.late p.1) p.2::G6 S β r (t+1) else G6 S β r (t+1)
  | none=>G6 S β r (t+1):=rfl
theorem GU {S S':Nat→Bool}{β β':Nat→Nat}:∀(r:List Sa) (t0:Nat),(∀(t:Nat) (s:Sa),r[t]? =some s→s.al≠none→S (t0+t)=S' (t0+t)∧(S (t0+t)=true→β (t0+t)=β' (t0+t)∧∀q,s.late=some q→S q.1=S' q.1))→G6 S β r t0=G6 S' β' r t0
 | [],_,_=>rfl
 | s::r,t0,h=>by
  have ih:=GU r (t0+1) (λt s hs hn=>by
   have:=h (t+1) s (by simpa using hs) hn;rw[show t0+1+t=t0+(t+1) from by omega];exact this)
  unfold G6;rw[ih]
  cases ha:s.al with
  | none=>rfl
  | some p=>
   obtain⟨h1,h2⟩:=h 0 s rfl (by rw[ha];exact nofun);simp only[Nat.add_zero] at h1 h2;simp only[];rw[← h1]
   split
   ·rename_i hS;rw[(h2 hS).1,JF (h2 hS).2]
   ·rfl
theorem PD (β:Nat→Nat):∀(r:List Sa) (t0:Nat),G6 (λ_=>true) β r t0=So β r t0
 | [],_=>rfl
 | s::r,t0=>by
  unfold G6 So;rw[PD β r (t0+1)]
  cases s.al with
  | none=>rfl
  | some p=>cases hl:s.late<;>simp[Ld,hl]
theorem N3 (β:Nat→Nat):∀(r:List Sa) (t0:Nat),G6 (λ_=>false) β r t0=[]
 | [],_=>rfl
 | s::r,t0=>by
  unfold G6;rw[N3 β r (t0+1)]
  cases s.al<;>simp
theorem PC {S:Nat→Bool}{β:Nat→Nat}{i b:Nat}{p:List Rp×TypeId}:∀(r:List Sa) (t0 k:Nat) (s:Sa),i=t0+k→r[k]? =some s→s.al=some p→S i=false→(∀(t:Nat) (s:Sa) (q:Nat×List Rp),r[t]? =some s→s.al≠none→s.late=some q→q.1≠i)→(∀q,s.late=some q→S q.1=false∧q.1≠i)→
  (G6 (λj=>j ==i||S j) (λj=>if j=i then b else β j) r t0).Perm (.blk b p.1 p.2::G6 S β r t0)
 | [],_,_,_,_,h,_,_,_,_=>by simp at h
 | s'::r,t0,0,s,hi,h,ha,hS,hne,hl=>by
  simp at h hi;subst h;subst hi;have e:=GU (S:=λj=>j ==i||S j) (S':=S) (β:=λj=>if j=i then b else β j) (β':=β) r (i+1) (λt s hs hn=>by
   have:i+1+t≠i:=by omega
   refine⟨by simp[this],λ_=>⟨by simp[this],λq hq=>?_⟩⟩;have:=hne (t+1) s q (by simpa using hs) hn hq;simp[this])
  have ec:Ld (λj=>j ==i||S j) s'.late p.1=p.1:=by
   unfold Ld
   cases hq:s'.late with
   | none=>rfl
   | some q=>
    obtain⟨h1,h2⟩:=hl q hq;simp[h1,h2]
  unfold G6;rw[e,ha];simp only[hS,BEq.rfl,XS,if_true,ec];simp
 | s'::r,t0,k+1,s,hi,h,ha,hS,hne,hl=>by
  have ih:=PC (S:=S) (β:=β) (i:=i) (b:=b) (p:=p) r (t0+1) k s (by omega) (by simpa using h) ha hS (λt s q hs=>hne (t+1) s q (by simpa using hs)) hl;have hne0:t0≠i:=by omega
  have hne':(t0 ==i)=false:=by simpa using hne0
  unfold G6
  cases ha':s'.al with
  | none=>exact ih
  | some q=>
   simp only[hne',X4,Xn hne0];rw[JF (S:=λj=>j ==i||S j) (S':=S) (λq hq=>by
    have:=hne 0 s' q rfl (by rw[ha'];exact nofun) hq;simp[this])]
   cases hS':S t0 with
   | true=>simpa using(WZ _ ih).trans (List.Perm.swap _ _ _)
   | false=>simpa using ih
theorem PB {S:Nat→Bool}{β:Nat→Nat}{i j:Nat}{p:List Rp×TypeId}{ncs:List Rp}:∀(r:List Sa) (t0 k:Nat) (s:Sa),j=t0+k→r[k]? =some s→s.al=some p→s.late=some (i,ncs)→S j=true→S i=false→(∀(t:Nat) (s:Sa) (q:Nat×List Rp),r[t]? =some s→s.al≠none→s.late=some q→t0+t≠j→q.1≠i)→(∀(t:Nat) (s:Sa),r[t]? =some s→s.al≠none→t0+t≠i)→
  ∃H',(G6 S β r t0).Perm (.blk (β j) p.1 p.2::H')∧(G6 (λj=>j ==i||S j) β r t0).Perm (.blk (β j) ncs p.2::H')
 | [],_,_,_,_,h,_,_,_,_,_,_=>by simp at h
 | s'::r,t0,0,s,hj,h,ha,hl,hSj,hSi,hne,hni=>by
  simp at h hj;subst h;subst hj;have e:=GU (S:=λx=>x ==i||S x) (S':=S) (β:=β) (β':=β) r (j+1) (λt s hs hn=>by
   have h1:=hni (t+1) s (by simpa using hs) hn;have h1':j+1+t≠i:=by omega
   refine⟨by simp[h1'],λ_=>⟨rfl,λq hq=>?_⟩⟩;have:=hne (t+1) s q (by simpa using hs) hn hq (by omega);simp[this])
  refine⟨G6 S β r (j+1),?_,?_⟩
  ·rw[ED];rw[ha];simp[hSj,Ld,hl,hSi]
  ·rw[ED];rw[ha,e];simp[hSj,Ld,hl]
 | s'::r,t0,k+1,s,hj,h,ha,hl,hSj,hSi,hne,hni=>by
  obtain⟨H',h1,h2⟩:=PB (S:=S) (β:=β) (i:=i) (j:=j) (p:=p) (ncs:=ncs) r (t0+1) k s (by omega) (by simpa using h) ha hl hSj hSi (λt s q hs hn hq hx=>hne (t+1) s q (by simpa using hs) hn hq (by omega)) (λt s hs hn=>by
   have:=hni (t+1) s (by simpa using hs) hn;omega)
  cases ha':s'.al with
  | none=>exact⟨H',by rw[ED,ha'];exact h1,by rw[ED,ha'];exact h2⟩
  | some q=>
   have hi0:=hni 0 s' rfl (by rw[ha'];exact nofun);have hi0':(t0 ==i)=false:=by simpa using hi0
   have ec:Ld (λx=>x ==i||S x) s'.late q.1=Ld S s'.late q.1:=JF (λq hq=>by
    have:=hne 0 s' q rfl (by rw[ha'];exact nofun) hq (by omega);simp[this])
   cases hS':S t0 with
   | true=>
    refine⟨.blk (β t0) (Ld S s'.late q.1) q.2::H',?_,?_⟩
    ·rw[ED];rw[ha'];simpa[hS'] using(WZ _ h1).trans (List.Perm.swap _ _ _)
    ·rw[ED];rw[ha'];simp only[hi0',X4,hS',if_true,ec];exact(WZ _ h2).trans (List.Perm.swap _ _ _)
   | false=>
    refine⟨H',?_,?_⟩
    ·rw[ED];rw[ha'];simpa[hS'] using h1
    ·rw[ED];rw[ha'];simp only[hi0',X4,hS'];simpa using h2
def W7 (n:Nat)(ops:List Oper)(N:Nat)(keys:List Nat)(deps:List (List Nat))(als:List Bool)(lates stos:List (Option Nat)):Bool:=
 MB ops N&&decide (N≤ops.length)&&
 (List.range N).all (λi=>match BY ops i with
  | some d=>decide (d<n)&&!keys.contains d&&(List.range N).all (λj=>j ==i||BY ops j !=some d)
  | none=>true)&&
 (List.range N).all (λi=>(deps.getD i []).all (λj=>decide (j<N)&&(D6 (ops.getD i default)).contains j&&!als.getD j true))&&
 (List.range N).all (λi=>match stos.getD i none with
  | some j=>decide (j<N)&&(D6 (ops.getD i default)).contains j&&als.getD j false&&!als.getD i true
  | none=>true)&&
 (List.range N).all (λj=>match lates.getD j none with
  | some k=>decide (k<N)&&als.getD j false&&stos.getD k none ==some j
  | none=>true)
def VM (P:Program)(n:Nat)(c:Cx)(opsA:Array Oper)(Q:Exit→Act→World→Prop)(l:Fr)(o:Oper)(p:List Rp×TypeId):Prop:=
 ∀H a w Z (K:Act→World→Prop),CE n l a Z→St c H Z w→(∀b w',St c (.blk b p.1 p.2::H) Z w'→K (a.put o.dst (.pointer (some ⟨b,0,none⟩))) w')→
  Region.wanted o (yielded opsA a.tmps)=true∧o.wp P a w K Q
def Vq (P:Program)(n:Nat)(c:Cx)(opsA:Array Oper)(Q:Exit→Act→World→Prop)(ops:List Oper)(sp:List Sa)(l0:Fr)(H:List Ent)(i:Nat)(o:Oper):Prop:=
 match (ES sp i).sto with
 | some j=>o.dst=none∧∃d p ncs,BY ops j=some d∧(ES sp j).al=some p∧(ES sp j).late=some (i,ncs)∧
   ∀b H,DA P n c opsA Q ((d,rv (.pointer (some ⟨b,0,none⟩)))::BJ ops (S3 sp) (ES sp i).deps l0) (.blk b p.1 p.2::H) o (rv undef) (.blk b ncs p.2::H)
 | none=>match (ES sp i).al with
  | none=>∀E,DA P n c opsA Q (BJ ops (S3 sp) (ES sp i).deps l0) (H++E) o (ES sp i).r (H++E)
  | some p=>VM P n c opsA Q (BJ ops (S3 sp) (ES sp i).deps l0) o p
def IH (P:Program)(n:Nat)(c:Cx)(opsA:Array Oper)(Q:Exit→Act→World→Prop)(ops:List Oper)(sp:List Sa)(l0:Fr)(H:List Ent):Nat→List Oper→Prop
 | i,o::rest=>Vq P n c opsA Q ops sp l0 H i o∧IH P n c opsA Q ops sp l0 H (i+1) rest
 | _,[]=>True
section
variable {P : Program} {n : Nat} {c : Cx} {opsA : Array Oper} {Q : Exit → Act → World → Prop} {l l0 : Fr} {H : List Ent} {sp : List Sa}
theorem IH.at {ops:List Oper}:∀{k:Nat} {rest:List Oper},IH P n c opsA Q ops sp l0 H k rest→∀(t:Nat) o,rest[t]? =some o→Vq P n c opsA Q ops sp l0 H (k+t) o
 | k,o::rest,⟨h1,h2⟩,t,o',ht=>by
  cases t with
  | zero=>simp at ht;subst ht;exact h1
  | succ t=>
   have:=IH.at h2 t o' (by simpa using ht);rw[show k+(t+1)=k+1+t from by omega];exact this
 | _,[],_,t,o,h=>by simp at h
theorem LN {β:Nat→Nat}{a:Act}{Z:Fz}(h0:CE n l0 a Z):∀(os:List Oper) (ss:List Sa) (k:Nat),(∀(t:Nat) o s d,os[t]? =some o→ss[t]? =some s→o.dst=some d→∃v,a.tmps[d]? =some v∧(KF β s (k+t)).p Z v)→CE n (JO β os ss k l0) a Z
 | [],_,_,_=>by unfold JO;exact h0
 | _::_,[],_,_=>by unfold JO;exact h0
 | o::os,s::ss,k,h=>by
  have ih:=LN h0 os ss (k+1) (λt o' s' d h1 h2 h3=>by
   have:=h (t+1) o' s' d (by simpa using h1) (by simpa using h2) h3;rw[show k+1+t=k+(t+1) from by omega];exact this)
  unfold JO
  cases hd:o.dst with
  | none=>exact ih
  | some d=>
   refine⟨ih.size,ih.defers,λi r hi=>?_⟩;rw[BX] at hi
   split at hi
   ·rename_i e;subst e;simp at hi;subst hi;exact h 0 o s d rfl rfl hd
   ·exact ih.tm i r hi
theorem Vw {id:Nat}{ops:List Oper}(N:Nat)(sp:List Sa)(hm:P.follows .mixedOrders=true)(hB:W7 n ops N (El l0) (sp.map (·.deps)) (sp.map (·.al.isSome)) (sp.map (·.late.map (·.1))) (sp.map (·.sto))=true)(hl0:PJ l0 l)(hsp:sp.length=N)
  (hob:IH P n c ops.toArray Q ops sp l0 H 0 (ops.take N)) (h:∀β,WL P n c ops.toArray Q (ops.drop N) (JO β (ops.take N) sp 0 l0) (H++So β sp 0)):WC P n c (.region id ops.toArray true) Q l H:=by
 intro a w Z ha hw;simp only[W7,Xf,X1,List.mem_range,Xc] at hB;obtain⟨⟨⟨⟨⟨b1,bN⟩,b2⟩,b3⟩,b4⟩,b5⟩:=hB;have hget:∀i,i<N→(ops.take N)[i]? =ops[i]?:=λi hi=>by rw[X3,Xr hi]
 have hsa:∀i,i<N→sp[i]? =some (ES sp i):=λi hi=>by
  simp[ES,Xh,Xg (show i<sp.length by omega)]
 have hspq:∀i,i<N→(D4 (S3 sp) i)=⟨(ES sp i).deps,(ES sp i).r,0⟩:=λi hi=>by
  simp[D4,S3,Xh,Xv,hsa i hi]
 have hals:∀j b,j<N→(sp.map (·.al.isSome)).getD j b=(ES sp j).al.isSome:=λj b hj=>by simp[Xh,Xv,hsa j hj]
 have hstos:∀j,j<N→(sp.map (·.sto)).getD j none=(ES sp j).sto:=λj hj=>by simp[Xh,Xv,hsa j hj]
 have hlates:∀j,j<N→(sp.map (·.late.map (·.1))).getD j none=(ES sp j).late.map (·.1):=λj hj=>by simp[Xh,Xv,hsa j hj]
 have S1:∀i o j,i<N→ops[i]? =some o→(ES sp i).sto=some j→j<N∧j∈D6 o∧(ES sp j).al≠none∧(ES sp i).al=none:=λi o j hi ho hs=>by
  have h1:=b4 i hi;rw[hstos i hi,hs] at h1;simp only[Xf,Xz,Xc] at h1;obtain⟨⟨⟨h2,h3⟩,h4⟩,h5⟩:=h1;rw[hals j _ h2] at h4;rw[hals i _ hi] at h5;rw[Xh,ho,Xy,List.contains_iff_mem] at h3;exact⟨h2,h3,λe=>(by rw[e] at h4;cases h4),(by simpa using h5)⟩
 have L1:∀t q,t<N→(ES sp t).late=some q→q.1<N∧(ES sp q.1).sto=some t:=λt q ht hq=>by
  have h1:=b5 t ht;rw[hlates t ht,hq] at h1;simp only[Option.map_some,Xf,Xc,beq_iff_eq] at h1;obtain⟨⟨h2,h3⟩,h4⟩:=h1;rw[hstos _ h2] at h4;exact⟨h2,h4⟩
 have hops:∀j,j<N→∃o,ops[j]? =some o:=λj hj=>⟨ops[j]'(by omega),Xg (by omega)⟩
 have lt_of:∀(t:Nat) (s:Sa),sp[t]? =some s→t<N∧s=ES sp t:=λt s hs=>by
  have h1:t<N:=by have:=(List.getElem?_eq_some_iff.1 hs).1;omega
  refine⟨h1,?_⟩;rw[hsa t h1] at hs;simpa using hs.symm
 have hdst:∀i o d,i<N→ops[i]? =some o→o.dst=some d→(d<n∧d ∉ El l0)∧∀j,j<N→j≠i→BY ops j≠some d:=λi o d hi ho hd=>by
  have h3:=b2 i hi;have:BY ops i=some d:=by simp[BY,ho,hd]
  rw[this] at h3;simp only[Xf,Xz,X1,List.mem_range,Xc] at h3;refine⟨⟨h3.1.1,λhmem=>by rw[← List.contains_iff_mem] at hmem;rw[hmem] at h3;cases h3.1.2⟩,λj hj hne he=>?_⟩;have:=h3.2 j hj;simp[hne,he] at this
 refine PV (N:=N) hm b1 bN (λS a w=>∃ (β:Nat→Nat) (Z:Fz),St c (H++G6 S β sp 0) Z w∧CE n l0 a Z∧(∀j o d,j<N→S j=true→ops[j]? =some o→o.dst=some d→∃v,a.tmps[d]? =some v∧(KF β (ES sp j) j).p Z v)∧
   ∀k j,k<N→(ES sp k).sto=some j→S k=true→S j=true)
  (λS S' a w hS hI=>?_) ⟨λ_=>0,Z,?_,ha.subL hl0,λj o d _ hS=>(by cases hS),λk j _ _ hS=>(by cases hS)⟩ (λS i o a w hi hun ho hb hI K hK=>?_) (λa w hI=>?_)
 ·obtain⟨β,Z,h1,h2,h3,h4⟩:=hI;refine⟨β,Z,?_,h2,λj o d hj hS'=>h3 j o d hj (by rw[hS j hj];exact hS'),λk j hk hs hSk=>?_⟩
  ·rw[← GU (S:=S) (β:=β) (β':=β) sp 0 (λt s hs _=>by
    obtain⟨ht,rfl⟩:=lt_of t s hs;exact⟨hS _ (by omega),λ_=>⟨rfl,λq hq=>hS _ (L1 t q ht hq).1⟩⟩)]
   exact h1
  ·obtain⟨o,ho⟩:=hops k hk;rw[← hS j (S1 k o j hk ho hs).1];exact h4 k j hk hs (by rw[hS k hk];exact hSk)
 ·rw[N3,XB];exact hw.drawn _
 ·obtain⟨β,Z,h1,h2,h3,hx⟩:=hI;have hput:∀k u v,a.tmps[k]? =some u→o.dst≠some k→(a.put o.dst v).tmps[k]? =some u:=λk u v hk hne=>by
   cases hd:o.dst with
   | none=>simpa[Act.put] using hk
   | some d=>
    simp only[Act.put,Array.getElem?_setIfInBounds];rw[Xn (λe=>hne (by rw[hd,e]))];exact hk
  have hagr:∀v Z',Fz.le Z Z'→CE n l0 (a.put o.dst v) Z':=λv Z' hz=>by
   refine⟨?_,?_,λk r hk=>?_⟩
   ·cases o.dst<;>simp[Act.put,h2.size]
   ·cases o.dst<;>simp[Act.put,h2.defers]
   ·obtain⟨u,hu,hpu⟩:=h2.tm k r hk;exact⟨u,hput k u v hu (λe=>((hdst i o k hi ho e).1).2 (I8 hk)),r.mono hz hpu⟩
  have hvals:∀(v:Value) (Z':Fz) (β':Nat→Nat),Fz.le Z Z'→(∀j,j≠i→β' j=β j)→(o.dst≠none→(KF β' (ES sp i) i).p Z' v)→∀j o' d,j<N→(j ==i||S j)=true→ops[j]? =some o'→o'.dst=some d→∃u,(a.put o.dst v).tmps[d]? =some u∧(KF β' (ES sp j) j).p Z' u:=by
   intro v Z' β' hz hβ hp j o' d hj hS' ho' hd
   by_cases hji:j=i
   ·subst hji;rw[ho] at ho';simp at ho';subst ho';refine⟨v,?_,hp (by simp[hd])⟩;have hdn:d<a.tmps.size:=by rw[h2.size];exact(hdst j o d hi ho hd).1.1
    simp[Act.put,hd,hdn]
   ·have hSj:S j=true:=by simpa[hji] using hS'
    obtain⟨u,hu,hpu⟩:=h3 j o' d hj hSj ho' hd;refine⟨u,hput d u v hu (λe=>(hdst i o d hi ho e).2 j hj hji (by simp[BY,ho',hd])),?_⟩;have:KF β' (ES sp j) j=KF β (ES sp j) j:=by unfold KF;rw[hβ j hji]
    rw[this];exact(KF β (ES sp j) j).mono hz hpu
  have hx':∀k j,k<N→(ES sp k).sto=some j→(k ==i||S k)=true→(j ==i||S j)=true:=λk j hk hs hSk=>by
   by_cases hki:k=i
   ·subst hki;have:=(hb j (S1 k o j hk ho hs).2.1).2;simp[this]
   ·have:S j=true:=hx k j hk hs (by simpa[hki] using hSk);simp[this]
  have hat:=hob.at i o (by rw[hget i hi];exact ho);rw[X0] at hat;unfold Vq at hat;have hag':CE n (BJ ops (S3 sp) (ES sp i).deps l0) a Z:=Jl h2 (λj hj d hd=>by
    have h4:=b3 i hi j (by simpa[Xh,Xv,hsa i hi] using hj);simp only[Xf,Xz,Xc] at h4;obtain⟨⟨h5,h6⟩,h7⟩:=h4;rw[Xh,ho,Xy,List.contains_iff_mem] at h6;have hjal:(ES sp j).al=none:=by
     rw[hals j _ h5] at h7;simpa using h7
    obtain⟨o2,ho2⟩:=hops j h5;obtain⟨v,hv1,hv2⟩:=h3 j o2 d h5 (hb j h6).2 ho2 (by simpa[BY,ho2] using hd);refine⟨v,hv1,?_⟩;rw[hspq j h5];simpa[KF,hjal] using hv2)
  cases hst:(ES sp i).sto with
  | some j=>
   rw[hst] at hat;obtain⟨hod,d,p,ncs,hd,hal,hlate,hok⟩:=hat;obtain⟨hjN,hjb,_,hial⟩:=S1 i o j hi ho hst;have hSj:=(hb j hjb).2;obtain⟨H',p1,p2⟩:=PB (S:=S) (β:=β) (i:=i) (j:=j) (p:=p) (ncs:=ncs) sp 0 j (ES sp j) (by omega) (hsa j hjN) hal hlate hSj hun (λt s q hs _ hq hne he=>by
     obtain⟨ht,rfl⟩:=lt_of t s hs;have:=(L1 t q ht hq).2;rw[he,hst] at this;simp at this;omega) (λt s hs hn he=>by
     obtain⟨ht,rfl⟩:=lt_of t s hs;rw[X0] at he;subst he;exact hn hial)
   obtain⟨o2,ho2⟩:=hops j hjN;obtain⟨v,hv1,hv2⟩:=h3 j o2 d hjN hSj ho2 (by simpa[BY,ho2] using hd);have hag2:CE n ((d,rv (.pointer (some ⟨β j,0,none⟩)))::BJ ops (S3 sp) (ES sp i).deps l0) a Z:=⟨hag'.size,hag'.defers,λk r hk=>by
    rw[BX] at hk
    split at hk
    ·rename_i e;subst e;simp at hk;subst hk
     exact⟨v,hv1,by simpa[KF,hal] using hv2⟩
    ·exact hag'.tm k r hk⟩
   refine hok (β j) (H++H') a w Z K hag2 (h1.perm ((List.Perm.append_left H p1).trans List.perm_middle)) (λv w' Z' hz _ hs'=>hK _ _ ⟨β,Z',?_,hagr v Z' hz,hvals v Z' β hz (λ_ _=>rfl) (λhne=>absurd hod hne),hx'⟩);exact hs'.perm (List.perm_middle.symm.trans (List.Perm.append_left H p2.symm))
  | none=>
   rw[hst] at hat;have latene:∀t q,t<N→(ES sp t).late=some q→q.1≠i:=λt q ht hq he=>by
    have:=(L1 t q ht hq).2;rw[he,hst] at this;cases this
   cases hal:(ES sp i).al with
   | none=>
    rw[hal] at hat;refine hat _ a w Z K hag' h1 (λv w' Z' hz hp hst'=>hK _ _ ⟨β,Z',?_,hagr v Z' hz,hvals v Z' β hz (λ_ _=>rfl) (λ_=>by unfold KF;rw[hal];exact hp),hx'⟩);rw[GU (S':=S) (β':=β) sp 0 (λt s hs hn=>by
     obtain⟨ht,rfl⟩:=lt_of t s hs;have:t≠i:=λe=>by subst e;exact hn hal
     refine⟨by simp[this],λ_=>⟨rfl,λq hq=>?_⟩⟩;have:=latene t q ht hq;simp[this])]
    exact hst'
   | some p=>
    rw[hal] at hat;have key:=λK' hK'=>hat (H++G6 S β sp 0) a w Z K' hag' h1 hK';have h5:∀b w',St c (.blk b p.1 p.2::(H++G6 S β sp 0)) Z w'→K (a.put o.dst (.pointer (some ⟨b,0,none⟩))) w':=λb w' hst'=>by
     refine hK _ _ ⟨λj=>if j=i then b else β j,Z,?_,hagr _ Z (Fz.le.refl _),hvals _ Z _ (Fz.le.refl _) (λj hj=>by simp[hj]) (λ_=>by simp[KF,hal,rv]),hx'⟩;have hp:=PC (S:=S) (β:=β) (i:=i) (b:=b) (p:=p) sp 0 i (ES sp i) (by omega) (hsa i hi) hal hun (λt s q hs _ hq=>by
      obtain⟨ht,rfl⟩:=lt_of t s hs;exact latene t q ht hq) (λq hq=>by
       refine⟨?_,latene i q hi hq⟩
       cases hS:S q.1 with
       | false=>rfl
       | true=>
        obtain⟨h6,h7⟩:=L1 i q hi hq;have:=hx q.1 i h6 h7 hS;rw[this] at hun;cases hun)
     exact hst'.perm ((List.perm_middle.symm).trans (List.Perm.append_left H hp.symm))
    refine⟨λ_=>(key K h5).2,λhw'=>?_⟩;rw[(key K h5).1] at hw';cases hw'
 ·obtain⟨β,Z,h1,h2,h3,_⟩:=hI;refine h β a w Z (LN h2 _ _ 0 (λt o s d ht hs hd=>?_)) (by rw[← PD];exact h1);obtain⟨htN,rfl⟩:=lt_of t s hs;rw[X0];exact h3 t o d htN rfl (by rw[← hget t htN];exact ht) hd
end
theorem PI {l:Fr}{P:Program}{n:Nat}{c:Cx}{opsA:Array Oper}{Q:Exit→Act→World→Prop}{d:Nat}{e:TypeId}{ty:TypeId}{pos:String}{af:Array Edge}{z:Value}{cs:List Rp}(hz:∀w,(zeroValue e).run P w = .ok z w)(hcs:z.cells.toList.map rv=cs) :
  VM P n c opsA Q l { dst:=some d,op:=.alloc e,type:=ty,pos:=pos,after:=af,guard:=none } (cs,e):=λH a w Z K _ hw hK=>by
 refine⟨by simp[Region.wanted],?_⟩;unfold Oper.wp;rw[show(execOp a.eval { dst:=some d,op:=.alloc e,type:=ty,pos:=pos,after:=af,guard:=none }).run P w = .ok (.value (.pointer (some ⟨w.heap.size,0,none⟩))) (w.alloc (.cells z.cells e)) from by simp[execOp,Instr.alloc,hz,newVar,newRow,newObj,Sem.run,Sem.run_bind]];exact hK _ _ (hw.alloc _ (e:=.blk w.heap.size cs e) ⟨z.cells.toList,by simpa using heap_alloc_new w _,by subst hcs;exact Bj.rvs Z _⟩ rfl)
section
variable {P : Program} {n : Nat} {c : Cx} {opsA : Array Oper} {Q : Exit → Act → World → Prop} {l l0 : Fr} {H : List Ent} {sp : List Sa}
theorem Cu {id:Nat}{ops:List Oper}(N:Nat)(ks0:List Nat)(sp:List Sa)(hob:IH P n c ops.toArray Q ops sp l0 H 0 (ops.take N))(h:∀β,WL P n c ops.toArray Q (ops.drop N) (JO β (ops.take N) sp 0 l0) (H++So β sp 0))
  (h0:Kp ks0 l l0:=by repeat (first | exact MS | (apply KX;rfl) | (apply L3;rfl))) (hm:P.follows .mixedOrders=true:=by kernel_rfl) (hB:W7 n ops N (El l0) (sp.map (·.deps)) (sp.map (·.al.isSome)) (sp.map (·.late.map (·.1))) (sp.map (·.sto))=true:=by kernel_rfl)
  (hsp:sp.length=N:=by rfl):WC P n c (.region id ops.toArray true) Q l H:=Vw N sp hm hB h0.one hsp hob h
theorem C5 {all rest:List Oper}{d:Nat}{op:Op}{ty:TypeId}{pos:String}{af:Array Edge}{i:Nat}
  (hr:∀{H},Bw P n c (BJ all (S3 sp) (ES sp i).deps l0) H { dst:=some d,op:=op,type:=ty,pos:=pos,after:=af,guard:=none } (ES sp i).r) (h:IH P n c opsA Q all sp l0 H (i+1) rest) (ha:(ES sp i).al=none:=by rfl) (hs:(ES sp i).sto=none:=by rfl) :
  IH P n c opsA Q all sp l0 H i ({ dst:=some d,op:=op,type:=ty,pos:=pos,after:=af,guard:=none }::rest):=by
 refine⟨?_,h⟩;unfold Vq;rw[hs,ha];exact λ_=>CU hr
theorem Ii {all rest:List Oper}{d:Nat}{op:Op}{ty:TypeId}{pos:String}{af:Array Edge}{i:Nat}
  (hr:∀{E},Bw P n c (BJ all (S3 sp) (ES sp i).deps l0) (H++E) { dst:=some d,op:=op,type:=ty,pos:=pos,after:=af,guard:=none } (ES sp i).r) (h:IH P n c opsA Q all sp l0 H (i+1) rest) (ha:(ES sp i).al=none:=by rfl) (hs:(ES sp i).sto=none:=by rfl) :
  IH P n c opsA Q all sp l0 H i ({ dst:=some d,op:=op,type:=ty,pos:=pos,after:=af,guard:=none }::rest):=by
 refine⟨?_,h⟩;unfold Vq;rw[hs,ha];exact λ_=>CU hr
theorem VU {all rest:List Oper}{o:Oper}{p:List Rp×TypeId}{i:Nat}(hr:VM P n c opsA Q (BJ all (S3 sp) (ES sp i).deps l0) o p)(h:IH P n c opsA Q all sp l0 H (i+1) rest)(ha:(ES sp i).al=some p:=by rfl)(hs:(ES sp i).sto=none:=by rfl):IH P n c opsA Q all sp l0 H i (o::rest):=by
 refine⟨?_,h⟩;unfold Vq;rw[hs,ha];exact hr
theorem WW {all rest:List Oper}{op:Op}{ty:TypeId}{pos:String}{af:Array Edge}{g:Option (Nat×Bool)}{i j d:Nat}{p:List Rp×TypeId}{ncs:List Rp}
  (hr:∀{b H},DA P n c opsA Q ((d,rv (.pointer (some ⟨b,0,none⟩)))::BJ all (S3 sp) (ES sp i).deps l0) (.blk b p.1 p.2::H) { dst:=none,op:=op,type:=ty,pos:=pos,after:=af,guard:=g } (rv undef) (.blk b ncs p.2::H))
  (h:IH P n c opsA Q all sp l0 H (i+1) rest) (hs:(ES sp i).sto=some j:=by rfl) (hd:BY all j=some d:=by rfl) (ha:(ES sp j).al=some p:=by rfl) (hl:(ES sp j).late=some (i,ncs):=by rfl) :
  IH P n c opsA Q all sp l0 H i ({ dst:=none,op:=op,type:=ty,pos:=pos,after:=af,guard:=g }::rest):=by
 refine⟨?_,h⟩;unfold Vq;rw[hs];exact⟨rfl,d,p,ncs,hd,ha,hl,λ_ _=>hr⟩
theorem Ml {all:List Oper}{i:Nat}:IH P n c opsA Q all sp l0 H i []:=trivial
end
structure Ud (ks:List Nat) (β:Nat→Nat) (os:List Oper) (sp:List Sa) (i:Nat) (l0 l1:Fr):Prop where
 go:Kp ks (JO β os sp i l0) l1
section
variable {ks : List Nat} {β : Nat → Nat} {os : List Oper} {sp : List Sa} {i d : Nat} {l0 l1 : Fr} {ds : List Nat} {r : Rp} {p : List Rp × TypeId} {lt : Option (Nat × List Rp)} {so : Option Nat} {op : Op} {ty : TypeId} {pos : String} {af : Array Edge} {g : Option (Nat × Bool)}
theorem VX (h:ks.contains d=true)(t:Ud ks β os sp (i+1) l0 l1):Ud ks β ({ dst:=some d,op:=op,type:=ty,pos:=pos,after:=af,guard:=g }::os) ({ deps:=ds,r:=r,sto:=so }::sp) i l0 ((d,r)::l1):=⟨KX h t.go⟩
theorem Wa (h:ks.contains d=true)(t:Ud ks β os sp (i+1) l0 l1):Ud ks β ({ dst:=some d,op:=op,type:=ty,pos:=pos,after:=af,guard:=g }::os) ({ deps:=ds,r:=r,al:=some p,late:=lt,sto:=so }::sp) i l0 ((d,rv (.pointer (some ⟨β i,0,none⟩)))::l1):=⟨KX h t.go⟩
theorem VZ {s:Sa}(h:ks.contains d=false)(t:Ud ks β os sp (i+1) l0 l1):Ud ks β ({ dst:=some d,op:=op,type:=ty,pos:=pos,after:=af,guard:=g }::os) (s::sp) i l0 l1:=⟨L3 h t.go⟩
theorem VY {s:Sa}(t:Ud ks β os sp (i+1) l0 l1):Ud ks β ({ dst:=none,op:=op,type:=ty,pos:=pos,after:=af,guard:=g }::os) (s::sp) i l0 l1:=⟨t.go⟩
theorem Wb (t:Kp ks l0 l1):Ud ks β [] [] i l0 l1:=⟨t⟩
theorem C4 {P:Program}{n:Nat}{c:Cx}{opsA:Array Oper}{Q:Exit→Act→World→Prop}{rest:List Oper}{H H1:List Ent}(ks:List Nat)(h:WL P n c opsA Q rest l1 H1)
  (hz:Ud ks β os sp i l0 l1:=by repeat (first | (apply VX;rfl) | (apply Wa;rfl) | (apply VZ;rfl) | apply VY | apply Wb | exact MS | (apply KX;rfl) | (apply L3;rfl))) (hH:H=H1:=by rfl) :
  WL P n c opsA Q rest (JO β os sp i l0) H:=λa w Z ha hw=>h a w Z (ha.subL hz.go.one) (hH▸hw)
end
section
variable {P : Program} {n : Nat} {c : Cx} {opsA : Array Oper} {Q : Exit → Act → World → Prop} {l l0 : Fr} {H : List Ent} {sp : List Sa}
theorem Oc {all rest:List Oper}{o:Oper}{i:Nat}(hr:∀{E},DA P n c opsA Q (BJ all (S3 sp) (ES sp i).deps l0) (H++E) o (ES sp i).r (H++E))(h:IH P n c opsA Q all sp l0 H (i+1) rest)(ha:(ES sp i).al=none:=by rfl)(hs:(ES sp i).sto=none:=by rfl):IH P n c opsA Q all sp l0 H i (o::rest):=by
 refine⟨?_,h⟩;unfold Vq;rw[hs,ha];exact λ_=>hr
end
section
variable {P : Program} {n : Nat} {c : Cx} {opsA : Array Oper} {Q : Exit → Act → World → Prop} {l : Fr} {H : List Ent} {d : Nat} {ty : TypeId} {pos : String} {af : Array Edge}
end
section
variable {P : Program} {n : Nat} {c : Cx} {ops : Array Oper} {Q : Exit → Act → World → Prop} {rest : List Oper} {l : Fr} {H H' : List Ent} {d : Nat} {d' : Option Nat} {x y z3 : Operand} {ty t t' e : TypeId} {pos : String} {af : Array Edge} {g : Option (Nat × Bool)} {v u : Value} {r : Rp} {sz : Nat}
theorem Qs {α:Type}{ys:List α}{enc:α→List Rp}{k':IntKind}{j:Int}(ht:P.underlying t=some (.slice e))(hz:∀w,(sizeOf e).run P w = .ok sz w)(h:ev l x=some (AD sz (ys.map enc)))(hj:ev l z3=some (rI k' j))(hg2:PN j (ys.length:Int)=true) :
  Bw P n c l H { dst:=d',op:=.slice t x none (some z3) none,type:=ty,pos:=pos,after:=af,guard:=g } (AD sz ((ys.take j.toNat).map enc)):=λa w Z ha hw=>by
 obtain⟨A,cap,e1,hc1,hc2,hA,hc⟩:=ha.ev h;have h2:=(G5 hg2).2;have hj0:0≤j:=(G5 hg2).1;simp only[Xo] at e1 hc1;have h3:j≤(cap:Int):=by omega
 refine⟨.slice (if cap=0 then A else A.map (·.add (0*sz))) j.toNat cap,⟨if cap=0 then A else A.map (·.add (0*sz)),cap,?_,?_,by omega,?_,λq cl hq=>?_⟩,by simp[execOp,e1,ha.eval hj,Instr.sliceAt,Instr.slice,run_underlying ht,Instr.sliceBounds,C9 (m:=cap) _ _ hj0 h3,hz]⟩
 ·congr 1
  simp;omega
 ·simp;omega
 ·intro hn
  split at hn
  ·have:=hA hn;omega
  ·have:=hA (by simpa using hn);omega
 ·rw[Xv] at hq
  cases hq':(List.take j.toNat ys)[q]? with
  | none=>rw[hq'] at hq;cases hq
  | some yy=>
   rw[hq'] at hq;simp only[Option.map_some,Option.some.injEq] at hq;subst hq;rw[X3] at hq'
   split at hq'
   ·rename_i hlt
    obtain⟨hl,ad,rfl,hs,hcs⟩:=hc q (enc yy) (by simp[hq']);obtain⟨b,off,spot⟩:=ad;simp only at hs;subst hs;have hne : ¬ cap=0:=by omega
    refine⟨hl,⟨b,off+0*sz,none⟩,by simp[hne,Ir],rfl,λq' r' hr'=>?_⟩;obtain⟨u,hu,hp⟩:=hcs q' r' hr';refine⟨u,?_,hp⟩;have:off+0*sz+(q*sz+q')=off+(q*sz+q'):=by omega
    simp only;rw[this];exact hu
   ·cases hq'
end
def WN (p:Bool→Prop):Rp:=⟨λ_ v=>∃b,v = .bool b∧p b,λ_ h=>h,true,λ_ Z v ⟨b,e,_⟩=>by rw[e];rfl⟩
section
variable {P : Program} {n : Nat} {c : Cx} {ops : Array Oper} {Q : Exit → Act → World → Prop} {rest : List Oper} {l : Fr} {H : List Ent} {d : Option Nat} {ty rty t e : TypeId} {pos : String} {af : Array Edge} {g : Option (Nat × Bool)} {r : Rp} {x : Operand} {cx cy : Code} {sz : Nat} {xs : List (List Rp)}
theorem SN {o:Operand}{p:Bool→Prop}(ho:ev l o=some (WN p))(h1:p true→WC P n c cx Q l H)(h2:p false→WC P n c cy Q l H):WC P n c (.cond o cx cy) Q l H:=λa w Z ha hw=>by
 obtain⟨b,e,hp⟩:=ha.ev ho;exact wp_cond_split e (λe=>h1 (e▸hp) a w Z ha hw) (λe=>h2 (e▸hp) a w Z ha hw)
theorem RK (ht:P.underlying t=some (.slice e))(h:ev l x=some (AD sz xs)):Bw P n c l H { dst:=d,op:=.binOp .eql t x (.const (.slice none 0 0)) rty,type:=ty,pos:=pos,after:=af,guard:=g } (WN (λb=>b=true→xs=[])):=λa w Z ha hw=>by
 obtain⟨A,cap,e1,h1,h2,h3,h4⟩:=ha.ev h;refine⟨.bool A.isNone,⟨_,rfl,λhb=>?_⟩,?_⟩
 ·cases A with
  | some a=>cases hb
  | none=>
   have:=h3 rfl;exact List.length_eq_zero_iff.1 (by omega)
 ·have:=run_equal_slice_nil (P:=P) w t e A xs.length cap ht;have e2:a.eval (.const (.slice none 0 0)) = .slice none 0 0:=rfl;simp[execOp,e1,e2,binOp,this,eqGuard]
end
section
variable {P : Program} {n : Nat} {c : Cx} {Q : Exit → Act → World → Prop} {l : Fr} {H : List Ent} {x rest' : Code} {K : Act → World → Prop}
end
section
variable {P : Program} {n : Nat} {c : Cx} {ops : Array Oper} {Q : Exit → Act → World → Prop} {rest : List Oper} {l : Fr} {H H' : List Ent} {d : Nat} {d' : Option Nat} {x y z3 z4 : Operand} {ty t t' e : TypeId} {pos : String} {af : Array Edge} {g : Option (Nat × Bool)} {v u : Value} {r : Rp} {sz : Nat}
theorem Pe {i:Nat}{rs rs':List Rp}{fs:Array Field}{f:Field}(hu:P.underlying t=some (.struct fs))(hf:fs[i]? =some f)(hag:∀w,(isAgg f.type).run P w = .ok true w)(hsz:∀w,(sizeOf f.type).run P w = .ok sz w)(hx:ev l x=some (Bd rs))(hr:(rs.drop f.offset).take sz=rs') :
  Bw P n c l H { dst:=d',op:=.field t x i,type:=ty,pos:=pos,after:=af,guard:=g } (Bd rs'):=λa w Z ha hw=>by
 obtain⟨us,e1,hus⟩:=ha.ev hx;subst hr;refine⟨.agg (us.toArray.extract f.offset (f.offset+sz)),⟨(us.drop f.offset).take sz,?_,(hus.drop _).take _⟩,by simp[execOp,e1,Instr.field,run_underlying hu,hf,asAgg,part,hag,hsz]⟩;simp[List.extract_eq_take_drop,List.take_drop]
end
structure Sx (U:Type) where
 deps:List Nat
 r:U→Rp
 dyn:Bool:=false
 old:List Nat:=[]
def G8 {U:Type}(sp:List (Sx U))(i:Nat):Sx U:=sp.getD i { deps:=[],r:=λ_=>rv undef }
def S2 {U:Type}(sp:List (Sx U))(u:U):List Sp:=sp.map λs=>⟨s.deps,s.r u,0⟩
def VS {U:Type}(sp:List (Sx U))(u:U):List Sa:=sp.map λs=>{ deps:=s.deps,r:=s.r u }
def MG {U:Type}:List (Sx U)→Prop
 | []=>True
 | s::r=>(s.dyn=false→∀u u',s.r u=s.r u')∧MG r
theorem MG.at {U:Type}:∀{sp:List (Sx U)},MG sp→∀{i:Nat} {s:Sx U},sp[i]? =some s→s.dyn=false→∀u u',s.r u=s.r u'
 | [],_,i,s,h=>by simp at h
 | x::sp,⟨h1,h2⟩,0,s,h=>by simp at h;subst h;exact h1
 | x::sp,⟨h1,h2⟩,i+1,s,h=>MG.at h2 (by simpa using h)
theorem W2 {U:Type}{ds os:List Nat}{r:Rp}{sp:List (Sx U)}(h:MG sp):MG ({ deps:=ds,r:=λ_=>r,old:=os }::sp):=⟨λ_ _ _=>rfl,h⟩
theorem W1 {U:Type}{ds os:List Nat}{r:U→Rp}{sp:List (Sx U)}(h:MG sp):MG ({ deps:=ds,r:=r,dyn:=true,old:=os }::sp):=⟨λh'=>(by cases h'),h⟩
def Ef (lw:Fr):List Nat→Fr→Fr
 | [],l=>l
 | d::r,l=>match look lw d with
  | some q=>(d,q)::Ef lw r l
  | none=>Ef lw r l
theorem Ow {n:Nat}{lw l:Fr}{a:Act}{Z:Fz}(h0:CE n l a Z):∀{ds:List Nat},(∀d∈ds,∀q,look lw d=some q→∃v,a.tmps[d]? =some v∧q.p Z v)→CE n (Ef lw ds l) a Z
 | [],_=>h0
 | d::ds,h=>by
  have ih:=Ow h0 (ds:=ds) (λd' hd'=>h d' (by simp[hd']));unfold Ef
  cases hd:look lw d with
  | none=>exact ih
  | some q=>
   refine⟨ih.size,ih.defers,λi r hi=>?_⟩;rw[BX] at hi
   split at hi
   ·rename_i e;subst e;simp at hi;subst hi;exact h d (by simp) q hd
   ·exact ih.tm i r hi
theorem W0 {U:Type}:MG ([]:List (Sx U)):=trivial
def W5 (n:Nat)(ops:List Oper)(N i0:Nat)(keys:List Nat)(deps:List (List Nat))(dyns:List Bool)(olds:List (List Nat)):Bool:=
 MB ops N&&decide (N≤ops.length)&&decide (i0<N)&&
 (List.range N).all (λi=>match BY ops i with
  | some d=>decide (d<n)&&!keys.contains d&&(List.range N).all (λj=>j ==i||BY ops j !=some d)
  | none=>true)&&
 (List.range N).all (λi=>(deps.getD i []).all (λj=>decide (j<N)&&(D6 (ops.getD i default)).contains j))&&
 (List.range N).all (λi=>!dyns.getD i false||i ==i0||(D6 (ops.getD i default)).any (λe=>decide (e<N)&&(e ==i0||dyns.getD e false)))&&
 (List.range N).all (λi=>(olds.getD i []).all (λd=>(List.range N).all (λw=>BY ops w !=some d||(D6 (ops.getD w default)).contains i)))
section
variable (P : Program) (n : Nat) (c : Cx) (opsA : Array Oper) (Q : Exit → Act → World → Prop)
def Ww {U:Type}(l:Fr)(H:List Ent)(o:Oper)(r:U→Rp)(H1:U→List Ent):Prop:=
 ∀a w Z (K:Act→World→Prop),CE n l a Z→St c H Z w→(∀u v w' Z',Fz.le Z Z'→(r u).p Z' v→St c (H1 u) Z' w'→K (a.put o.dst v) w')→
  Region.wanted o (yielded opsA a.tmps)=true∧o.wp P a w K Q
def JK {U:Type}(ops:List Oper)(sp:List (Sx U))(l0 lw:Fr)(i0:Nat)(H:List Ent)(H1:U→List Ent):Nat→List Oper→Prop
 | i,o::rest=>(if i=i0 then(∀u,Ww P n c opsA Q (Ef lw (G8 sp i).old (BJ ops (S2 sp u) (G8 sp i).deps l0)) H o (G8 sp i).r H1) else ∀u H',(H'=H∨H'=H1 u)→DA P n c opsA Q (Ef lw (G8 sp i).old (BJ ops (S2 sp u) (G8 sp i).deps l0)) H' o ((G8 sp i).r u) H')∧JK ops sp l0 lw i0 H H1 (i+1) rest
 | _,[]=>True
end
section
variable {P : Program} {n : Nat} {c : Cx} {opsA : Array Oper} {Q : Exit → Act → World → Prop} {l l0 lw : Fr} {U : Type} {H : List Ent} {H1 : U → List Ent} {sp : List (Sx U)} {i0 : Nat}
theorem JK.at {ops:List Oper}:∀{k:Nat} {rest:List Oper},JK P n c opsA Q ops sp l0 lw i0 H H1 k rest→∀(t:Nat) o,rest[t]? =some o→
  (if k+t=i0 then(∀u,Ww P n c opsA Q (Ef lw (G8 sp (k+t)).old (BJ ops (S2 sp u) (G8 sp (k+t)).deps l0)) H o (G8 sp (k+t)).r H1) else ∀u H',(H'=H∨H'=H1 u)→DA P n c opsA Q (Ef lw (G8 sp (k+t)).old (BJ ops (S2 sp u) (G8 sp (k+t)).deps l0)) H' o ((G8 sp (k+t)).r u) H')
 | k,o::rest,⟨h1,h2⟩,t,o',ht=>by
  cases t with
  | zero=>simp at ht;subst ht;exact h1
  | succ t=>
   have:=JK.at h2 t o' (by simpa using ht);rw[show k+(t+1)=k+1+t from by omega];exact this
 | _,[],_,t,o,h=>by simp at h
theorem Un {id:Nat}{ops:List Oper}[Inhabited U](N i0:Nat)(sp:List (Sx U))(hm:P.follows .mixedOrders=true)(hB:W5 n ops N i0 (El l0) (sp.map (·.deps)) (sp.map (·.dyn)) (sp.map (·.old))=true)(hl0:PJ l0 l)(hlw:PJ lw l)(hsp:sp.length=N)(hst:MG sp)
  (hob:JK P n c ops.toArray Q ops sp l0 lw i0 H H1 0 (ops.take N)) (h:∀u,WL P n c ops.toArray Q (ops.drop N) (JO (λ_=>0) (ops.take N) (VS sp u) 0 l0) (H1 u)):WC P n c (.region id ops.toArray true) Q l H:=by
 intro a w Z ha hw;simp only[W5,Xf,X1,List.mem_range,Xc] at hB;obtain⟨⟨⟨⟨⟨⟨b1,bN⟩,b0⟩,b2⟩,b3⟩,b4⟩,b5⟩:=hB;have hget:∀i,i<N→(ops.take N)[i]? =ops[i]?:=λi hi=>by rw[X3,Xr hi]
 have hsa:∀i,i<N→sp[i]? =some (G8 sp i):=λi hi=>by
  simp[G8,Xh,Xg (show i<sp.length by omega)]
 have hspq:∀u i,i<N→(D4 (S2 sp u) i)=⟨(G8 sp i).deps,(G8 sp i).r u,0⟩:=λu i hi=>by
  simp[D4,S2,Xh,Xv,hsa i hi]
 have hdyn:∀j,j<N→(sp.map (·.dyn)).getD j false=(G8 sp j).dyn:=λj hj=>by simp[Xh,Xv,hsa j hj]
 have hdep:∀j,j<N→(sp.map (·.deps)).getD j []=(G8 sp j).deps:=λj hj=>by simp[Xh,Xv,hsa j hj]
 have hops:∀j,j<N→∃o,ops[j]? =some o:=λj hj=>⟨ops[j]'(by omega),Xg (by omega)⟩
 have hdst:∀i o d,i<N→ops[i]? =some o→o.dst=some d→(d<n∧d ∉ El l0)∧∀j,j<N→j≠i→BY ops j≠some d:=λi o d hi ho hd=>by
  have h3:=b2 i hi;have:BY ops i=some d:=by simp[BY,ho,hd]
  rw[this] at h3;simp only[Xf,Xz,X1,List.mem_range,Xc] at h3;refine⟨⟨h3.1.1,λhmem=>by rw[← List.contains_iff_mem] at hmem;rw[hmem] at h3;cases h3.1.2⟩,λj hj hne he=>?_⟩;have:=h3.2 j hj;simp[hne,he] at this
 refine PV (N:=N) hm b1 bN (λS a w=>∃ (u:U) (Z:Fz),St c (if S i0=true then H1 u else H) Z w∧CE n l0 a Z∧(∀j o d,j<N→S j=true→ops[j]? =some o→o.dst=some d→∃v,a.tmps[d]? =some v∧((G8 sp j).r u).p Z v)∧
   (∀j,j<N→(G8 sp j).dyn=true→S j=true→S i0=true)∧
   (∀d q,look lw d=some q→(∀wr,wr<N→BY ops wr=some d→S wr=false)→∃v,a.tmps[d]? =some v∧q.p Z v)∧
   ∀wr i d,wr<N→i<N→BY ops wr=some d→d∈(G8 sp i).old→S wr=true→S i=true)
  (λS S' a w hS hI=>?_) ⟨default,Z,?_,ha.subL hl0,λj o d _ hS=>(by cases hS),λj _ _ hS=>(by cases hS),λd q hd _=>(ha.subL hlw).tm d q hd,λwr i d _ _ _ _ hS=>(by cases hS)⟩ (λS i o a w hi hun ho hb hI K hK=>?_) (λa w hI=>?_)
 ·obtain⟨u,Z,h1,h2,h3,h4,h5,h6⟩:=hI;refine⟨u,Z,?_,h2,λj o d hj hS'=>h3 j o d hj (by rw[hS j hj];exact hS'),λj hj hd hSj=>?_,λd q hd hw'=>h5 d q hd (λwr hwr hdw=>by rw[hS wr hwr];exact hw' wr hwr hdw),λwr i d hwr hi hdw hold hSw=>by rw[← hS i hi];exact h6 wr i d hwr hi hdw hold (by rw[hS wr hwr];exact hSw)⟩
  ·rw[← hS i0 b0];exact h1
  ·rw[← hS i0 b0];exact h4 j hj hd (by rw[hS j hj];exact hSj)
 ·exact hw.drawn _
 ·obtain⟨u,Z,h1,h2,h3,hx,ho5,ho6⟩:=hI;have hput:∀k u v,a.tmps[k]? =some u→o.dst≠some k→(a.put o.dst v).tmps[k]? =some u:=λk u v hk hne=>by
   cases hd:o.dst with
   | none=>simpa[Act.put] using hk
   | some d=>
    simp only[Act.put,Array.getElem?_setIfInBounds];rw[Xn (λe=>hne (by rw[hd,e]))];exact hk
  have hagr:∀v Z',Fz.le Z Z'→CE n l0 (a.put o.dst v) Z':=λv Z' hz=>by
   refine⟨?_,?_,λk r hk=>?_⟩
   ·cases o.dst<;>simp[Act.put,h2.size]
   ·cases o.dst<;>simp[Act.put,h2.defers]
   ·obtain⟨u,hu,hpu⟩:=h2.tm k r hk;exact⟨u,hput k u v hu (λe=>((hdst i o k hi ho e).1).2 (I8 hk)),r.mono hz hpu⟩
  have hvals:∀(v:Value) (Z':Fz) (u':U),Fz.le Z Z'→(∀j,j<N→j≠i→S j=true→(G8 sp j).r u'=(G8 sp j).r u)→(o.dst≠none→((G8 sp i).r u').p Z' v)→∀j o' d,j<N→(j ==i||S j)=true→ops[j]? =some o'→o'.dst=some d→∃q,(a.put o.dst v).tmps[d]? =some q∧((G8 sp j).r u').p Z' q:=by
   intro v Z' u' hz hβ hp j o' d hj hS' ho' hd
   by_cases hji:j=i
   ·subst hji;rw[ho] at ho';simp at ho';subst ho';refine⟨v,?_,hp (by simp[hd])⟩;have hdn:d<a.tmps.size:=by rw[h2.size];exact(hdst j o d hi ho hd).1.1
    simp[Act.put,hd,hdn]
   ·have hSj:S j=true:=by simpa[hji] using hS'
    obtain⟨q,hu,hpu⟩:=h3 j o' d hj hSj ho' hd;refine⟨q,hput d q v hu (λe=>(hdst i o d hi ho e).2 j hj hji (by simp[BY,ho',hd])),?_⟩;rw[hβ j hj hji hSj];exact((G8 sp j).r u).mono hz hpu
  have hat:=hob.at i o (by rw[hget i hi];exact ho);rw[X0] at hat;have hold':∀Z',Fz.le Z Z'→∀v d q,look lw d=some q→(∀wr,wr<N→BY ops wr=some d→(wr ==i||S wr)=false)→∃v',(a.put o.dst v).tmps[d]? =some v'∧q.p Z' v':=λZ' hz v d q hd hw'=>by
   obtain⟨v',e1,e2⟩:=ho5 d q hd (λwr hwr hdw=>by have:=hw' wr hwr hdw;simp only[X8] at this;exact this.2);refine⟨v',hput d v' v e1 (λe=>?_),q.mono hz e2⟩;have:=hw' i hi (by simp[BY,ho,e]);simp at this
  have hord:∀wr k d,wr<N→k<N→BY ops wr=some d→d∈(G8 sp k).old→(wr ==i||S wr)=true→(k ==i||S k)=true:=λwr k d hwr hk hdw hmem hSw=>by
   by_cases hwi:wr=i
   ·subst hwi;have h7:=b5 k hk d (by simpa[Xh,Xv,hsa k hk] using hmem) wr hwr;simp only[X2,bne_iff_ne,ne_eq,hdw,not_true_eq_false,false_or] at h7;rw[Xh,ho,Xy,List.contains_iff_mem] at h7;simp[(hb k h7).2]
   ·have:S k=true:=ho6 wr k d hwr hk hdw hmem (by simpa[hwi] using hSw);simp[this]
  have hag':CE n (Ef lw (G8 sp i).old (BJ ops (S2 sp u) (G8 sp i).deps l0)) a Z:=Ow (Jl h2 (λj hj d hd=>by
    obtain⟨h5,h6⟩:=b3 i hi j (by rw[hdep i hi];exact hj);rw[Xh,ho,Xy,List.contains_iff_mem] at h6;obtain⟨o2,ho2⟩:=hops j h5;obtain⟨v,hv1,hv2⟩:=h3 j o2 d h5 (hb j h6).2 ho2 (by simpa[BY,ho2] using hd);refine⟨v,hv1,?_⟩;rw[hspq u j h5];exact hv2)) (λd hd q hq=>ho5 d q hq (λwr hwr hdw=>by
     cases hS:S wr with
     | false=>rfl
     | true=>have:=ho6 wr i d hwr hi hdw hd hS;rw[this] at hun;cases hun))
  by_cases hi0:i=i0
  ·subst hi0;rw[Xr rfl] at hat;rw[hun] at h1;have h1':St c H Z w:=by simpa using h1
   have key:=λK' hK'=>hat u a w Z K' hag' h1' hK';have h5:∀u' v w' Z',Fz.le Z Z'→((G8 sp i).r u').p Z' v→St c (H1 u') Z' w'→K (a.put o.dst v) w':=λu' v w' Z' hz hpv hs'=>by
    refine hK _ _ ⟨u',Z',by simpa using hs',hagr v Z' hz,hvals v Z' u' hz (λj hj hji hSj=>?_) (λ_=>hpv),λj _ _ _=>by simp,hold' Z' hz v,hord⟩;refine hst.at (hsa j hj) ?_ u' u
    cases hd:(G8 sp j).dyn with
    | false=>rfl
    | true=>have:=hx j hj hd hSj;rw[this] at hun;cases hun
   refine⟨λ_=>(key K h5).2,λhw'=>?_⟩;rw[(key K h5).1] at hw';cases hw'
  ·rw[Xn hi0] at hat;refine hat u _ (by split;exact .inr rfl;exact .inl rfl) a w Z K hag' h1 (λv w' Z' hz hp hst'=>hK _ _ ⟨u,Z',?_,hagr v Z' hz,hvals v Z' u hz (λ_ _ _ _=>rfl) (λ_=>hp),λj hj hd hSj=>?_,hold' Z' hz v,hord⟩)
   ·have hiS:(i0 ==i||S i0)=S i0:=by
     have:(i0 ==i)=false:=by simpa using λe=>hi0 e.symm
     rw[this];rfl
    show St c (if (i0 ==i||S i0)=true then H1 u else H) Z' w';rw[hiS];exact hst'
   ·have hii:(i0 ==i)=false:=by simpa using λe=>hi0 e.symm
    show(i0 ==i||S i0)=true;rw[hii,X4]
    by_cases hji:j=i
    ·subst hji;have h7:=b4 j hj;rw[hdyn j hj,hd] at h7;simp only[Xs,X4,X2,beq_iff_eq,hi0,false_or,List.any_eq_true,Xf,Xc] at h7;obtain⟨e,he,heN,h8⟩:=h7;rw[Xh,ho,Xy] at he;have hSe:=(hb e he).2;rcases h8 with h8 | h8
     ·subst h8;exact hSe
     ·rw[hdyn e heN] at h8;exact hx e heN h8 hSe
    ·exact hx j hj hd (by simpa[hji] using hSj)
 ·obtain⟨u,Z,h1,h2,h3,_,_,_⟩:=hI;have hsl:(VS sp u).length=N:=by simp[VS,hsp]
  refine h u a w Z (LN h2 _ _ 0 (λt o s d ht hs hd=>?_)) (by simpa using h1);have htN:t<N:=by have:=(List.getElem?_eq_some_iff.1 hs).1;omega
  have hs':s = { deps:=(G8 sp t).deps,r:=(G8 sp t).r u }:=by
   simp only[VS,Xv,hsa t htN,Option.map_some,Option.some.injEq] at hs;exact hs.symm
  subst hs';rw[X0];exact h3 t o d htN rfl (by rw[← hget t htN];exact ht) hd
theorem Vv [Inhabited U]{id:Nat}{ops:List Oper}(N i0:Nat)(ks0 ksw:List Nat)(sp:List (Sx U))(H1:U→List Ent)(hob:JK P n c ops.toArray Q ops sp l0 lw i0 H H1 0 (ops.take N))(h:∀u,WL P n c ops.toArray Q (ops.drop N) (JO (λ_=>0) (ops.take N) (VS sp u) 0 l0) (H1 u))
  (h0:Kp ks0 l l0:=by repeat (first | exact MS | (apply KX;rfl) | (apply L3;rfl))) (hw:Kp ksw l lw:=by repeat (first | exact MS | (apply KX;rfl) | (apply L3;rfl))) (hm:P.follows .mixedOrders=true:=by kernel_rfl) (hB:W5 n ops N i0 (El l0) (sp.map (·.deps)) (sp.map (·.dyn)) (sp.map (·.old))=true:=by kernel_rfl)
  (hsp:sp.length=N:=by rfl) (hst:MG sp:=by repeat (first | exact W0 | apply W2 | apply W1)):WC P n c (.region id ops.toArray true) Q l H:=Un N i0 sp hm hB h0.one hw.one hsp hst hob h
theorem VN {all rest:List Oper}{d:Nat}{op:Op}{ty:TypeId}{pos:String}{af:Array Edge}{i:Nat}(hr:∀{u H},Bw P n c (Ef lw (G8 sp i).old (BJ all (S2 sp u) (G8 sp i).deps l0)) H { dst:=some d,op:=op,type:=ty,pos:=pos,after:=af,guard:=none } ((G8 sp i).r u))(h:JK P n c opsA Q all sp l0 lw i0 H H1 (i+1) rest)(hne:Nat.beq i i0=false:=by rfl) :
  JK P n c opsA Q all sp l0 lw i0 H H1 i ({ dst:=some d,op:=op,type:=ty,pos:=pos,after:=af,guard:=none }::rest):=by
 refine⟨?_,h⟩;rw[Xn (λe=>by subst e;simp at hne)];exact λu H _=>CU hr
theorem WV {all rest:List Oper}{o:Oper}{i:Nat}(hr:∀{u H},DA P n c opsA Q (Ef lw (G8 sp i).old (BJ all (S2 sp u) (G8 sp i).deps l0)) H o ((G8 sp i).r u) H)(h:JK P n c opsA Q all sp l0 lw i0 H H1 (i+1) rest)(hne:Nat.beq i i0=false:=by rfl):JK P n c opsA Q all sp l0 lw i0 H H1 i (o::rest):=by
 refine⟨?_,h⟩;rw[Xn (λe=>by subst e;simp at hne)];exact λu H _=>hr
theorem WP {all rest:List Oper}{o:Oper}{i:Nat}(hr:∀{u},DA P n c opsA Q (Ef lw (G8 sp i).old (BJ all (S2 sp u) (G8 sp i).deps l0)) H o ((G8 sp i).r u) H)(hr1:∀{u},DA P n c opsA Q (Ef lw (G8 sp i).old (BJ all (S2 sp u) (G8 sp i).deps l0)) (H1 u) o ((G8 sp i).r u) (H1 u))(h:JK P n c opsA Q all sp l0 lw i0 H H1 (i+1) rest)(hne:Nat.beq i i0=false:=by rfl):JK P n c opsA Q all sp l0 lw i0 H H1 i (o::rest):=by
 refine⟨?_,h⟩;rw[Xn (λe=>by subst e;simp at hne)];intro u H' hH';rcases hH' with e | e
 ·subst e;exact hr
 ·subst e;exact hr1
theorem WT {all rest:List Oper}{o:Oper}(hr:∀{u},Ww P n c opsA Q (Ef lw (G8 sp i0).old (BJ all (S2 sp u) (G8 sp i0).deps l0)) H o (G8 sp i0).r H1)(h:JK P n c opsA Q all sp l0 lw i0 H H1 (i0+1) rest):JK P n c opsA Q all sp l0 lw i0 H H1 i0 (o::rest):=by
 refine⟨?_,h⟩;rw[Xr rfl];exact λu=>hr
theorem WU {all:List Oper}{i:Nat}:JK P n c opsA Q all sp l0 lw i0 H H1 i []:=trivial
end
section
variable {P : Program} {n : Nat} {c : Cx} {opsA : Array Oper} {Q : Exit → Act → World → Prop} {l : Fr} {H : List Ent} {d : Nat} {x y : Operand} {ty t e : TypeId} {pos : String} {af : Array Edge} {v : Value} {sz : Nat}
theorem SJ {α:Type}{xs ys:List α}{enc:α→List Rp}{i:Nat}{inf:TypeInfo}{z:Value}{bytes:Nat}(ht:P.underlying t=some (.slice e))(hinf:P.info? e=some inf)(hz:inf.zero=some z)(hsize:inf.size=sz)(hby:inf.bytes=bytes)(hzs:z.cells.size=sz)(hsz:Nat.blt 0 sz=true)(hbp:Nat.blt 0 bytes=true)
  (hx:ev l x=some (rv v)) (hi:H[i]? =some (.row v e sz (xs.map enc))) (hy:MK P n c l H y sz ys.length (ys.map enc).flatten) (henc:∀z,(enc z).length=sz) (hone:∀z,(enc z).all (·.one)=true) (hg:L4 bytes (xs.length+ys.length)=true) :
  Ww P n c opsA Q l H { dst:=some d,op:=.call { callee:=.builtin .append,args:=#[x,y],argTypes:=#[t,t] },type:=ty,pos:=pos,after:=af,guard:=none } (λv'=>rv v') (λv'=>.row v' e sz ((xs++ys).map enc)::H.eraseIdx i):=λa w Z K ha hw hK=>by
  obtain⟨h0,us,h1,h2⟩:=hw.ent hi;obtain⟨ws,h3,h4⟩:=hy a w Z ha hw;have hsz':0<sz:=by simpa using hsz
  have hbp':0<bytes:=by simpa using hbp
  have hb:(xs.length+ys.length)*bytes≤140737488355328:=by simpa[L4] using hg
  have hle:xs.length+ys.length≤(xs.length+ys.length)*bytes:=Nat.le_mul_of_pos_right _ hbp';have hws:∀y∈ws,y.oneCell'=true:=Bj.one (rs:=(ys.map enc).flatten) (by
   rw[X1];intro r hr;obtain⟨cl,hcl,hrc⟩:=List.mem_flatten.1 hr;obtain⟨z',_,rfl⟩:=List.mem_map.1 hcl;exact List.all_eq_true.1 (hone z') r hrc) h3
  have hxl:(xs.map enc).length=xs.length:=Xo ..;rw[hxl] at h1;obtain⟨v',w',e1,e2,e3,e4⟩:=Hk (P:=P) ty ht hinf hz hsize hby hzs hsz' h1 h4 hws hb (by simp only[maxLen];omega);have hent:(Ent.row v' e sz ((xs++ys).map enc)).holds Z w':=⟨λcl hcl=>by obtain⟨z',_,rfl⟩:=List.mem_map.1 hcl;exact henc z',us++ws,by simpa using e2,by rw[XM,List.flatten_append];exact h2.append h3⟩
  have hst:=hw.callF hi (St.one (e':=.row v' e sz ((xs++ys).map enc)) (M:=(Ent.row v e sz (xs.map enc)).foot) hw.frz hw.env hw.emono e3.os e3.tape e3.output e3.size (λk hk hne=>e3.block k hk (λe1=>hne (by simp[Ent.foot,← e1])))
   (hw.zdis _ (Xk hi)) hent (λk hk=>by
    simp only[Ent.foot,Option.mem_toList] at hk ⊢;rcases e4 with e4 | e4
    ·exact .inl (e4▸hk)
    ·exact .inr (e4 k hk)))
  refine⟨by simp[Region.wanted],?_⟩;unfold Oper.wp;rw[show(execOp a.eval { dst:=some d,op:=.call { callee:=.builtin .append,args:=#[x,y],argTypes:=#[t,t] },type:=ty,pos:=pos,after:=af,guard:=none }).run P w = .ok (.value v') w' from by simp[execOp,resolve,invoke,builtin,ha.eval hx,e1]];exact hK v' v' w' Z (Fz.le.refl _) rfl hst
end
set_option maxRecDepth 100000
set_option maxHeartbeats 4000000
end Go.Proofs.YtfbmdidnlhifjaaGreatDoor.Q
namespace Go.Proofs.YtfbmdidnlhifjaaGreatDoor
open Go
set_option linter.unusedVariables false
set_option linter.unusedSimpArgs false
section
variable {T S : Type}
def BA:List (Aq×T)→Aq→Option T
 | [],_=>none
 | p::r,k=>bif decide (p.1=k) then some p.2 else BA r k
def AE (xs:List (Aq×T))(k:Aq)(z:T):T:=(BA xs k).getD z
def BB (xs:List (Aq×T))(k:Aq):Bool:=(BA xs k).isSome
def mins (k:Aq)(v:T):List (Aq×T)→List (Aq×T)
 | []=>[(k,v)]
 | p::r=>bif Ce k p.1 then(k,v)::p::r else p::mins k v r
def mput (xs:List (Aq×T))(k:Aq)(v:T):List (Aq×T):=xs.map λp=>bif decide (p.1=k) then(k,v) else p
def mset (xs:List (Aq×T))(k:Aq)(v:T):List (Aq×T):=bif BB xs k then mput xs k v else mins k v xs
def AG (f:T→S)(xs:List (Aq×T)):List (Aq×S):=xs.map λp=>(p.1,f p.2)
theorem I6 (f:T→S):∀(xs:List (Aq×T)) (k:Aq),BA (AG f xs) k=(BA xs k).map f
 | [],k=>rfl
 | p::r,k=>by
  show(bif decide (p.1=k) then some (f p.2) else BA (AG f r) k)=_;rw[BA,I6 f r k]
  cases decide (p.1=k)<;>rfl
theorem Tz (f:T→S)(xs:List (Aq×T))(k:Aq):BB (AG f xs) k=BB xs k:=by
 unfold BB;rw[I6];cases BA xs k<;>rfl
theorem Pr (f:T→S)(k:Aq)(v:T):∀xs:List (Aq×T),AG f (mins k v xs)=mins k (f v) (AG f xs)
 | []=>rfl
 | p::r=>by
  show AG f (bif Ce k p.1 then(k,v)::p::r else p::mins k v r)=(bif Ce k p.1 then(k,f v)::(p.1,f p.2)::AG f r else(p.1,f p.2)::mins k (f v) (AG f r));rw[← Pr f k v r]
  cases Ce k p.1<;>rfl
theorem Ty (f:T→S)(xs:List (Aq×T))(k:Aq)(v:T):AG f (mset xs k v)=mset (AG f xs) k (f v):=by
 unfold mset;rw[Tz]
 cases BB xs k with
 | false=>exact Pr f k v xs
 | true=>
  show AG f (mput xs k v)=mput (AG f xs) k (f v);unfold AG mput;rw[XR,XR];refine List.map_congr_left λp _=>?_;show _=(bif decide (p.1=k) then(k,f v) else(p.1,f p.2));simp only[Function.comp]
  cases decide (p.1=k)<;>rfl
theorem I7 (f:T→S)(xs:List (Aq×T)):(AG f xs).length=xs.length:=by simp[AG]
theorem KV (k:Aq)(v:T):∀xs:List (Aq×T),(mins k v xs).Perm ((k,v)::xs)
 | []=>Xd _
 | p::r=>by
  rw[mins]
  cases Ce k p.1 with
  | true=>exact Xd _
  | false=>exact((KV k v r).cons p).trans (List.Perm.swap _ _ _)
end
structure A6 where
 fEntity:Aq
 fID:Aq
 fOp:Aq
 fArgs:(List (List Ac))
 deriving DecidableEq,Inhabited
structure A8 where
 fErr:Int
 fValue:(List Ac)
 deriving DecidableEq,Inhabited
structure Al where
 fOp:A6
 fAnswer:A8
 fFrom:Int
 fTo:Int
 deriving DecidableEq,Inhabited
def Dr (ys:(List Ac)):Option ((List Ac)):=
 Br (L4 40 (([]:List Ac).length+ys.length))<|some (([]:List Ac)++ys)
def Oi (c:Int):Option (Bool):=
 some ((decide (97≤c))&&(decide (c≤122)))
def LL (c:Int):Option (Bool):=
 some ((decide (48≤c))&&(decide (c≤57)))
def Cr (ha:Bool):Option (Bool):=
 some ha
def Oj (c:Int):Option (Bool):=
 Bt (Oi c) λha=>Bq (ha) (Cr true) (Bq (decide (65≤c)) (Bq (decide (c≤90)) (Cr true) (Bt (LL c) λhb=>Bq (hb) (Cr true) (Bq (decide (c=45)) (Cr true) (Bq (decide (c=95)) (Cr true) (Bq (decide (c=46)) (Cr true) (Bq (decide (c=58)) (Cr true) (Cr (decide (c=47))))))))) (Bt (LL c) λhd=>Bq (hd) (Cr true) (Bq (decide (c=45)) (Cr true) (Bq (decide (c=95)) (Cr true) (Bq (decide (c=46)) (Cr true) (Bq (decide (c=58)) (Cr true) (Cr (decide (c=47)))))))))
def Ji (s:Aq)(ha:Int):Option (Stp (Int) (Out (Bool) (Unit))):=
 Bq (decide (ha<(s.length:Int))) (Br (Ct ha (s.length:Int))<|Bt (Oj (K7 s ha)) λhb=>Bq (!hb) (some (.out (.ret false))) (Br (Cj .i64 (ha+1))<|some (.next (ha+1)))) (some (.out (.go ())))
def LK :Option (Bool):=
 some true
def JE (F:Nat)(s:Aq):Option (Bool):=
 Bq (((decide ((s.length:Int)<1))||(decide (64<(s.length:Int))))) (some false) (Bt (BW (λσ=>Ji s σ) F 0) (Cf λν=>LK ))
def HE (l:(List Aq))(s:Aq)(ha:Int):Option (Stp (Int) (Out (Bool) (Unit))):=
 Bq (decide (ha<(l.length:Int))) (Br (Ct ha (l.length:Int))<|Bq (decide ((Af l ha)=s)) (some (.out (.ret true))) (Br (Cj .i64 (ha+1))<|some (.next (ha+1)))) (some (.out (.go ())))
def Ky :Option (Bool):=
 some false
def P4 (F:Nat)(l:(List Aq))(s:Aq):Option (Bool):=
 Bt (BW (λσ=>HE l s σ) F 0) (Cf λν=>Ky )
def EB (ha:Int)(hb:(List Aq)):Option (Stp ((List Aq)×Int) (Out ((List Aq)) ((List Aq)))):=
 Br (Cj .i64 (ha+1))<|some (.next (hb,ha+1))
def DU (l:(List Aq))(hb:(List Aq))(hd:Int)(ha:Int):Option (Stp (Int) (Out (Stp ((List Aq)×Int) (Out ((List Aq)) ((List Aq)))) (Int×Bool))):=
 Br (imp (decide (ha<(hb.length:Int))) (Ct ha (hb.length:Int)))<|Br (imp (decide (ha<(hb.length:Int))) (Ct hd (l.length:Int)))<|Bq (((decide (ha<(hb.length:Int)))&&(Ce (Af hb ha) (Af l hd)))) (Br (Cj .i64 (ha+1))<|some (.next (ha+1))) (some (.out (.go (ha,((decide (ha<(hb.length:Int)))&&(Ce (Af hb ha) (Af l hd)))))))
def EA (l:(List Aq))(ha:(List Aq))(hd:Int)(hb:Int)(he:Bool):Option (Stp ((List Aq)×Int) (Out ((List Aq)) ((List Aq)))):=
 Br (imp (!(decide (hb=(ha.length:Int)))) (Ct hb (ha.length:Int)))<|Br (imp (!(decide (hb=(ha.length:Int)))) (Ct hd (l.length:Int)))<|Bq (((decide (hb=(ha.length:Int)))||(!decide ((Af ha hb)=(Af l hd))))) (Br (PN hb (ha.length:Int))<|Br (L4 16 (([]:List Aq).length+(List.take (Int.toNat hb) ha).length))<|Br (Ct hd (l.length:Int))<|Br (L4 16 ((([]:List Aq)++(List.take (Int.toNat hb) ha)).length+([Af l hd]:List Aq).length))<|Br (L4 16 (((([]:List Aq)++(List.take (Int.toNat hb) ha))++([Af l hd]:List Aq)).length+(List.drop (Int.toNat hb) ha).length))<|EB hd (((([]:List Aq)++(List.take (Int.toNat hb) ha))++([Af l hd]:List Aq))++(List.drop (Int.toNat hb) ha))) (EB hd ha)
def EC (F:Nat)(l:(List Aq))(ha:(List Aq))(hb:Int):Option (Stp ((List Aq)×Int) (Out ((List Aq)) ((List Aq)))):=
 Bq (decide (hb<(l.length:Int))) (Bt (BW (λσ=>DU l ha hb σ) F 0) (Cf λν=>EA l ha hb ν.1 ν.2)) (some (.out (.go ha)))
def Hg (ha:(List Aq)):Option ((List Aq)):=
 some ha
def IC (F:Nat)(l:(List Aq)):Option ((List Aq)):=
 Bt (BW (λσ=>EC F l σ.1 σ.2) F (([]:List Aq),0)) (Cf λν=>Hg ν)
def Mp (op:Aq):Option (Int×Bool):=
 some (AE (mset (mset (mset (mset ([]:List (Aq×Int)) ([114,101,97,100]:Aq) 0) ([119,114,105,116,101]:Aq) 1) ([97,100,100]:Aq) 1) ([99,97,115]:Aq) 2) op 0,BB (mset (mset (mset (mset ([]:List (Aq×Int)) ([114,101,97,100]:Aq) 0) ([119,114,105,116,101]:Aq) 1) ([97,100,100]:Aq) 1) ([99,97,115]:Aq) 2) op)
def GF (F:Nat)(op:A6)(ha:Int):Option (Stp (Int) (Out (Int) (Unit))):=
 Bq (decide (ha<(op.fArgs.length:Int))) (Br (Ct ha (op.fArgs.length:Int))<|Bt (KD F (Af op.fArgs ha)) λhb=>Bq (!decide (hb=0)) (some (.out (.ret hb))) (Br (Cj .i64 (ha+1))<|some (.next (ha+1)))) (some (.out (.go ())))
def Jb :Option (Int):=
 some 0
def KT (F:Nat)(op:A6):Option (Int):=
 Bt (Mp op.fOp) λr2=>Bq (((!(Is op.fEntity))||((!(Is op.fID))||(!r2.2)))) (some 4) (Bq (!decide ((op.fArgs.length:Int)=r2.1)) (some 7) (Bt (BW (λσ=>GF F op σ) F 0) (Cf λν=>Jb )))
def IY (state:(List Ac))(args:(List (List Ac))):Option ((List Ac)×A8):=
 Bt (Dr state) λr2=>some (state,(A8.mk 0 r2))
def HW (state:(List Ac))(args:(List (List Ac))):Option ((List Ac)×A8):=
 Br (Ct 0 (args.length:Int))<|Bt (Dr (Af args 0)) λr4=>Bt (Nb) λr7=>some (r4,(A8.mk 0 r7))
def Kn (F:Nat)(state:(List Ac))(args:(List (List Ac))):Option ((List Ac)×A8):=
 Br (Ct 0 (args.length:Int))<|Bt (MZ F state (Af args 0)) λr4=>Bq (!r4) (Bt (QL false) λr9=>some (state,(A8.mk 0 r9))) (Br (Ct 1 (args.length:Int))<|Bt (Dr (Af args 1)) λha=>Bt (QL true) λhb=>some (ha,(A8.mk 0 hb)))
def E3 (n:(List Int))(ha:Int):Option (Stp (Int) (Out (Bool) (Unit))):=
 Bq (decide (ha<(n.length:Int))) (Br (Ct ha (n.length:Int))<|Bt (B2 (Af n ha)) λhb=>Bq (!hb) (some (.out (.ret false))) (Br (Cj .i64 (ha+1))<|some (.next (ha+1)))) (some (.out (.go ())))
def Hc :Option (Bool):=
 some true
def I3 (F:Nat)(n:(List Int)):Option (Bool):=
 Bt (BW (λσ=>E3 n σ) F 0) (Cf λν=>Hc )
def IV (n:Int):Option (Int×Int):=
 Bt (B2 n) λr1=>Bq (!r1) (some (0,8)) (some (n,0))
def KQ (F:Nat)(a:Int)(b:Int):Option (Int×Int):=
 Bt (I3 F ([a,b]:List Int)) λr2=>Bq (!r2) (some (0,2)) (Br (Cj .i64 (a+b))<|Bt (IV (a+b)) λha=>some (ha.1,ha.2))
def Mq (F:Nat)(state:(List Ac))(args:(List (List Ac))):Option ((List Ac)×A8):=
 Br (Ct 0 (state.length:Int))<|Bq (decide (((Af state 0).fKind)=3)) (Br (Ct 0 (args.length:Int))<|Br (Ct 0 ((Af args 0).length:Int))<|Bq (!decide (((Af (Af args 0) 0).fKind)=3)) (some (state,(A8.mk 7 ([]:List Ac)))) (Bt (KQ F ((Af state 0).fInt) ((Af (Af args 0) 0).fInt)) λha=>Bq (!decide (ha.2=0)) (some (state,(A8.mk ha.2 ([]:List Ac)))) (Bt (Dr ([(Ac.mk 3 ha.1 ([]:Aq) 0)]:List Ac)) λhd=>some (([(Ac.mk 3 ha.1 ([]:Aq) 0)]:List Ac),(A8.mk 0 hd))))) (Bq (decide (((Af state 0).fKind)=1)) (Br (Ct 0 (args.length:Int))<|Br (Ct 0 ((Af args 0).length:Int))<|Bq (!decide (((Af (Af args 0) 0).fKind)=3)) (some (state,(A8.mk 7 ([]:List Ac)))) (Bt (KQ F 0 ((Af (Af args 0) 0).fInt)) λhb=>Bq (!decide (hb.2=0)) (some (state,(A8.mk hb.2 ([]:List Ac)))) (Bt (Dr ([(Ac.mk 3 hb.1 ([]:Aq) 0)]:List Ac)) λhe=>some (([(Ac.mk 3 hb.1 ([]:Aq) 0)]:List Ac),(A8.mk 0 he))))) (some (state,(A8.mk 7 ([]:List Ac)))))
def Ts :Option ((List (Aq×Nat))):=
 some (mset (mset (mset (mset ([]:List (Aq×Nat)) ([114,101,97,100]:Aq) 57) ([119,114,105,116,101]:Aq) 58) ([97,100,100]:Aq) 59) ([99,97,115]:Aq) 60)
def VW (F:Nat)(state:(List Ac))(op:A6):Option ((List Ac)×A8×Int):=
 Bt (KT F op) λr3=>Bq (!decide (r3=0)) (some (([]:List Ac),(A8.mk 0 ([]:List Ac)),r3)) (Bt (KD F state) λr9=>Bq (!decide (r9=0)) (some (([]:List Ac),(A8.mk 0 ([]:List Ac)),r9)) (Bq (decide (op.fOp=([114,101,97,100]:Aq))) (Bt (Dr state) λhf=>Bt (IY hf op.fArgs) λha=>some (ha.1,ha.2,0)) (Bq (decide (op.fOp=([119,114,105,116,101]:Aq))) (Bt (Dr state) λhg=>Bt (HW hg op.fArgs) λhb=>some (hb.1,hb.2,0)) (Bq (decide (op.fOp=([97,100,100]:Aq))) (Bt (Dr state) λhh=>Bt (Mq F hh op.fArgs) λhd=>some (hd.1,hd.2,0)) (Br (decide (op.fOp=([99,97,115]:Aq)))<|Bt (Dr state) λhi=>Bt (Kn F hi op.fArgs) λhe=>some (he.1,he.2,0))))))
def E5 (op:A6)(ha:Int)(hb:(List (List Ac))):Option (Stp (Int×(List (List Ac))) (Out (A6) ((List (List Ac))))):=
 Bq (decide (ha<(op.fArgs.length:Int))) (Br (Ct ha (op.fArgs.length:Int))<|Bt (Dr (Af op.fArgs ha)) λhd=>Br (L4 24 (hb.length+([hd]:List (List Ac)).length))<|Br (Cj .i64 (ha+1))<|some (.next (ha+1,hb++([hd]:List (List Ac))))) (some (.out (.go hb)))
def Ja (op:A6)(ha:(List (List Ac))):Option (A6):=
 some (A6.mk op.fEntity op.fID op.fOp ha)
def JA (F:Nat)(op:A6):Option (A6):=
 Bt (BW (λσ=>E5 op σ.1 σ.2) F (0,([]:List (List Ac)))) (Cf λν=>Ja op ν)
def EK (F:Nat)(c:Al):Option (Al):=
 Bt (JA F c.fOp) λr3=>Bt (Dr c.fAnswer.fValue) λr6=>some (Al.mk r3 (A8.mk c.fAnswer.fErr r6) c.fFrom c.fTo)
def Og (F:Nat)(x:(List Ac))(y:(List Ac)):Option (Bool):=
 Bt (Gz F x y) λr1=>some r1
def GK (F:Nat)(a:(List (List Ac)))(b:(List (List Ac)))(ha:Int):Option (Stp (Int) (Out (Bool) (Unit))):=
 Bq (decide (ha<(a.length:Int))) (Br (Ct ha (a.length:Int))<|Br (Ct ha (b.length:Int))<|Bt (Og F (Af a ha) (Af b ha)) λhb=>Bq (!hb) (some (.out (.ret false))) (Br (Cj .i64 (ha+1))<|some (.next (ha+1)))) (some (.out (.go ())))
def Jk :Option (Bool):=
 some true
def IE (F:Nat)(a:(List (List Ac)))(b:(List (List Ac))):Option (Bool):=
 Bq (!decide ((a.length:Int)=(b.length:Int))) (some false) (Bt (BW (λσ=>GK F a b σ) F 0) (Cf λν=>Jk ))
def Po (F:Nat)(a:A6)(b:A6):Option (Bool):=
 Br (imp (decide (a.fEntity=b.fEntity)) (imp (decide (a.fID=b.fID)) (imp (decide (a.fOp=b.fOp)) ((IE F a.fArgs b.fArgs).isSome))))<|some ((decide (a.fEntity=b.fEntity))&&((decide (a.fID=b.fID))&&((decide (a.fOp=b.fOp))&&(ov (IE F a.fArgs b.fArgs)))))
end Go.Proofs.YtfbmdidnlhifjaaGreatDoor
namespace Go.Proofs.YtfbmdidnlhifjaaGreatDoor.Q
open Go Go.RowKit
set_option linter.unusedVariables false
section
variable {P : Program} {n : Nat} {c : Cx} {l : Fr} {H : List Ent} {d : Option Nat} {ty rty t e : TypeId} {pos : String} {af : Array Edge} {g : Option (Nat × Bool)} {x : Operand} {sz : Nat}
end
set_option linter.unusedSimpArgs false
theorem Ge (s:ByteArray):MapKept.IsKey .string (.string s):=by simp[MapKept.IsKey]
theorem JN.keys {Z:Fz}:∀{f:List (List UInt8×Rp)} {es:List MapEntry},JN Z f es→∀x∈es,MapKept.IsKey .string x.key
 | [],[],_,x,hx=>by cases hx
 | p::f,e::es,⟨⟨h1,h2⟩,h3⟩,x,hx=>by
  rcases List.mem_cons.1 hx with rfl | hx
  ·rw[h1];exact Ge _
  ·exact JN.keys h3 x hx
theorem JN.at {Z:Fz}:∀{f:List (List UInt8×Rp)} {es:List MapEntry},JN Z f es→f.length=es.length∧∀(j:Nat) (e:MapEntry),es[j]? =some e→∃k r,f[j]? =some (k,r)∧e.key = .string (B k)∧r.p Z e.val
 | [],[],_=>⟨rfl,λj e h=>by simp at h⟩
 | p::f,e::es,⟨⟨h1,h2⟩,h3⟩=>by
  obtain⟨hl,ha⟩:=JN.at h3;refine⟨by simp[hl],λj e' hj=>?_⟩
  cases j with
  | zero=>simp at hj;subst hj;exact⟨p.1,p.2,rfl,h1,h2⟩
  | succ j=>simp at hj;simpa using ha j e' hj
theorem JN.of {Z:Fz}:∀{f:List (List UInt8×Rp)} {es:List MapEntry},f.length=es.length→(∀(j:Nat) (e:MapEntry),es[j]? =some e→∃k r,f[j]? =some (k,r)∧e.key = .string (B k)∧r.p Z e.val)→JN Z f es
 | [],[],_,_=>trivial
 | p::f,e::es,hl,h=>by
  obtain⟨k,r,h1,h2,h3⟩:=h 0 e rfl;simp at h1;subst h1;exact⟨⟨h2,h3⟩,JN.of (by simpa using hl) λj e' hj=>by simpa using h (j+1) e' (by simpa using hj)⟩
 | [],_::_,hl,_=>by simp at hl
 | _::_,[],hl,_=>by simp at hl
theorem JN.snoc {Z:Fz}{k:List UInt8}{r:Rp}{e:MapEntry}(h1:e.key = .string (B k))(h2:r.p Z e.val):∀{f:List (List UInt8×Rp)} {es:List MapEntry},JN Z f es→JN Z (f++[(k,r)]) (es++[e])
 | [],[],_=>⟨⟨h1,h2⟩,trivial⟩
 | p::f,e'::es,⟨h,h3⟩=>⟨h,JN.snoc h1 h2 h3⟩
theorem JN.filter {Z:Fz}(q:MapEntry→Bool):∀{f:List (List UInt8×Rp)} {es:List MapEntry},JN Z f es→∃g,JN Z g (es.filter q)∧g.Sublist f
 | [],[],_=>⟨[],trivial,List.Sublist.refl _⟩
 | p::f,e::es,⟨h,h3⟩=>by
  obtain⟨g,hg,hs⟩:=JN.filter q h3
  cases hq:q e with
  | true=>exact⟨p::g,by rw[List.filter_cons_of_pos hq];exact⟨h,hg⟩,hs.cons_cons p⟩
  | false=>exact⟨g,by rw[List.filter_cons_of_neg (by simp[hq])];exact hg,hs.cons p⟩
theorem Ps {T:Type}:∀{m:List (Aq×T)} {k:Aq} {r:T},(m.map (·.1)).Nodup→(k,r)∈m→BA m k=some r
 | p::m,k,r,hn,h=>by
  rw[XC,List.nodup_cons] at hn;rw[BA];rcases List.mem_cons.1 h with h | h
  ·subst h;rw[Xb rfl];rfl
  ·have hne : ¬ p.1=k:=λe=>hn.1 (by rw[e];exact List.mem_map.2 ⟨(k,r),h,rfl⟩);rw[Xa hne];exact Ps hn.2 h
theorem Nu {T:Type}:∀{m:List (Aq×T)} {k:Aq},(∀p∈m,p.1≠k)→BA m k=none
 | [],_,_=>rfl
 | p::m,k,h=>by
  rw[BA,Xa (h p (by simp))];exact Nu λq hq=>h q (by simp[hq])
theorem Ws {a b:List UInt8}(h:B a=B b):a=b:=by
 have:=congrArg ByteArray.toList h
 rwa [DW,DW] at this
theorem OL {a b:List UInt8}(h:Value.string (B a) = .string (B b)):a=b:=Ws (by cases h;rfl)
theorem Ol {Z:Fz}{m:List (List UInt8×Rp)}{es:List MapEntry}{ck:Nat}(h:Gm Z m es ck)(k:List UInt8) :
  (Instr.findNow .string (.string (B k)) es 0=some none∧BA m k=none∧∀p∈m,p.1≠k)∨∃j e r,Instr.findNow .string (.string (B k)) es 0=some (some (j,e.val))∧es[j]? =some e∧e.key = .string (B k)∧BA m k=some r∧r.p Z e.val:=by
 obtain⟨h1,h2,h3,f,h4,h5⟩:=h;obtain⟨hl,ha⟩:=h5.at;rcases MapKept.findNow_spec (Ge (B k)) es 0 h5.keys with⟨q1,q2⟩ | ⟨j,e,q1,q2,q3⟩
 ·have hne:∀p∈m,p.1≠k:=λp hp e=>by
   obtain⟨j,hj⟩:=List.mem_iff_getElem?.1 (h4.symm.subset hp);have hjl:j<es.length:=by rw[← hl];exact(List.getElem?_eq_some_iff.1 hj).1
   obtain⟨k',r',e1,e2,_⟩:=ha j es[j] (Xg hjl);rw[hj] at e1;cases e1;exact q2 es[j] (List.getElem_mem hjl) (by rw[e2,← e])
  exact .inl ⟨q1,Nu hne,hne⟩
 ·obtain⟨k',r,e1,e2,e3⟩:=ha j e q2;rw[q3] at e2;obtain rfl:=OL e2;exact .inr ⟨j,e,r,by simpa using q1,q2,q3,Ps h1 (h4.subset (Xk e1)),e3⟩
section
variable {P : Program} {n : Nat} {c : Cx} {ops : Array Oper} {Q : Exit → Act → World → Prop} {rest : List Oper} {l : Fr} {H : List Ent} {d : Nat} {d' : Option Nat} {ty t kt et rty : TypeId} {pos : String} {af : Array Edge} {g : Option (Nat × Bool)} {x y u : Operand} {K : Act → World → Prop} {cx : Code}
variable {T : Type} {enc : T → Rp} {xs : List (Aq × T)} {z : T} {k : Aq} {zv : Value} {i b : Nat}
theorem MN {Z:Fz}{w:World}{m:List (List UInt8×Rp)}{rz:Rp}(ht:P.underlying t=some (.map kt et))(hk:P.underlying kt=some .string)(hz:∀w,(zeroValue et).run P w = .ok zv w)(hzr:rz.p Z zv)(hm:(Ent.map b m).holds Z w)(ok:Bool) :
  ∃v,((BA m k).getD rz).p Z v∧(Instr.lookup t (.map (some b)) (.string (B k)) ok).run P w = .ok (if ok then .tuple #[v,.bool (BA m k).isSome] else v) w:=by
 obtain⟨es,ck,h1,h2⟩:=hm;rcases Ol h2 k with⟨q1,q2,_⟩ | ⟨j,e,r,q1,_,_,q2,q3⟩
 ·exact⟨zv,by rw[q2];exact hzr,by simp[Instr.lookup,run_underlying ht,MapKept.run_getObj_map h1,MapKept.run_checkKey hk (Ge _),MapKept.run_findKey hk q1,hz,q2]⟩
 ·exact⟨e.val,by rw[q2];exact q3,by simp[Instr.lookup,run_underlying ht,MapKept.run_getObj_map h1,MapKept.run_checkKey hk (Ge _),MapKept.run_findKey hk q1,q2]⟩
theorem TL (enc:T→Rp)(xs:List (Aq×T))(k:Aq)(z:T):(BA (AG enc xs) k).getD (enc z)=enc (AE xs k z):=by
 rw[I6];unfold AE;cases BA xs k<;>rfl
theorem Q0 (enc:T→Rp)(xs:List (Aq×T))(k:Aq):(BA (AG enc xs) k).isSome=BB xs k:=by
 rw[I6];unfold BB;cases BA xs k<;>rfl
theorem HT (ht:P.underlying t=some (.map kt et))(hk:P.underlying kt=some .string)(hz:∀w,(zeroValue et).run P w = .ok zv w)(hzr:∀Z,(enc z).p Z zv)(hx:ev l x=some (rv (.map (some b))))(hi:H[i]? =some (.map b (AG enc xs)))(hy:ev l y=some (rS k)) :
  Bw P n c l H { dst:=d',op:=.lookup t x y true,type:=ty,pos:=pos,after:=af,guard:=g } (Dk [enc (AE xs k z),rB (BB xs k)]):=λa w Z ha hw=>by
 obtain⟨v,h1,h2⟩:=MN (k:=k) ht hk hz (hzr Z) (hw.ent hi) true;rw[TL] at h1;refine⟨.tuple #[v,.bool (BB xs k)],⟨[v,.bool (BB xs k)],rfl,h1,rfl,trivial⟩,?_⟩;rw[Q0] at h2;simp[execOp,ha.eval hx,ha.eval hy,h2]
theorem Gm.length {Z:Fz}{m:List (List UInt8×Rp)}{es:List MapEntry}{ck:Nat}(h:Gm Z m es ck):es.length=m.length:=by
 obtain⟨_,_,_,f,h4,h5⟩:=h;rw[← h5.at.1,h4.length_eq]
theorem Tq {m:List (List UInt8×Rp)}{N:Nat}(ht:P.underlying t=some (.map kt et))(hx:ev l x=some (rv (.map (some b))))(hi:H[i]? =some (.map b m))(hN:m.length=N) :
  Bw P n c l H { dst:=d',op:=.call { callee:=.builtin .len,args:=#[x],argTypes:=#[t] },type:=ty,pos:=pos,after:=af,guard:=g } (rI .i64 N):=λa w Z ha hw=>Eu<|by
 obtain⟨es,ck,h1,h2⟩:=hw.ent hi;have hl:es.size=N:=by rw[← hN,← h2.length];simp
 simp[execOp,resolve,invoke,builtin,ha.eval hx,Builtin.len_,run_underlying ht,goInt,MapKept.run_getObj_map h1,hl]
theorem RM {v:Option Nat}(ht:P.underlying t=some (.map kt et))(hx:ev l x=some (rv (.map v))):Bw P n c l H { dst:=d',op:=.binOp .neq t x (.const (.map none)) rty,type:=ty,pos:=pos,after:=af,guard:=g } (rB (!v.isNone)):=λa w Z ha hw=>Eu<|by
 have e2:a.eval (.const (.map none)) = .map none:=rfl;have h:=run_equal_map_nil (P:=P) w t kt et v ht;simp[execOp,ha.eval hx,e2,eqGuard,binOp,h]
theorem MY (hn:Nat.blt d n=true)(h:∀b,WL P n c ops Q rest ((d,rv (.map (some b)))::l) (.map b []::H)) :
  WL P n c ops Q ({ dst:=some d,op:=.makeMap t none,type:=ty,pos:=pos,after:=af,guard:=none }::rest) l H:=
 KC (λa w Z ha hw=>⟨_,w.alloc (.map #[] 0),_,_,Z,by simp[execOp,run_makeMap],Fz.le.refl _,rfl,
  hw.alloc _ (e:=.map w.heap.size []) ⟨#[],0,by simpa using heap_alloc_new w _,by simp,by simp,by simp,[],Xd _,trivial⟩ rfl,h w.heap.size⟩) hn
theorem Ti {m f:List (Aq×Rp)}(h:f.Perm m)(k:Aq)(r:Rp):(mput f k r).Perm (mput m k r):=h.map _
theorem QY {T:Type}:∀{f:List (Aq×T)} {j:Nat} {k:Aq} {r0:T} (r:T),(f.map (·.1)).Nodup→f[j]? =some (k,r0)→mput f k r=f.set j (k,r)
 | p::f,0,k,r0,r,hn,h=>by
  simp at h;subst h;rw[XC,List.nodup_cons] at hn;have:mput f k r=f:=by
   unfold mput;rw[List.map_congr_left (g:=id) (λq hq=>?_),List.map_id];have hne : ¬ q.1=k:=λe=>hn.1 (by rw[← e];exact List.mem_map.2 ⟨q,hq,rfl⟩);rw[Xa hne];rfl
  show(bif decide (k=k) then(k,r) else(k,r0))::mput f k r=_;rw[Xb rfl,this];rfl
 | p::f,j+1,k,r0,r,hn,h=>by
  rw[XC,List.nodup_cons] at hn;simp at h;have hne : ¬ p.1=k:=λe=>hn.1 (by rw[e];exact List.mem_map.2 ⟨(k,r0),Xk h,rfl⟩);show(bif decide (p.1=k) then(k,r) else p)::mput f k r=_;rw[Xa hne,QY r hn.2 h];rfl
theorem RS {T:Type}(m:List (Aq×T))(k:Aq)(r:T):(mput m k r).map (·.1)=m.map (·.1):=by
 unfold mput;rw[XR];refine List.map_congr_left λp _=>?_;simp only[Function.comp]
 by_cases h:p.1=k
 ·rw[Xb h];exact h.symm
 ·rw[Xa h];rfl
theorem RT {T:Type}{m:List (Aq×T)}{k:Aq}{r:T}(h:BA m k=some r):BB m k=true:=by unfold BB;rw[h];rfl
theorem RW {T:Type}{m:List (Aq×T)}{k:Aq}(h:BA m k=none):BB m k=false:=by unfold BB;rw[h];rfl
theorem Gm.put {Z:Fz}{m:List (Aq×Rp)}{es:List MapEntry}{ck j:Nat}{e:MapEntry}{k:Aq}{r0 r:Rp}{v:Value}(h:Gm Z m es ck)(he:es[j]? =some e)(hk:e.key = .string (B k))(hm:BA m k=some r0)(hr:r.p Z v) :
  Gm Z (mset m k r) (es.set j { e with key:=.string (B k),val:=v }) ck:=by
 obtain⟨h1,h2,h3,f,h4,h5⟩:=h;obtain⟨hl,ha⟩:=h5.at;have hjl:=(List.getElem?_eq_some_iff.1 he).1;unfold mset;rw[RT hm,Xp];obtain⟨k',r',e1,e2,_⟩:=ha j e he;rw[hk] at e2;obtain rfl:=OL e2;have hfn:(f.map (·.1)).Nodup:=(h4.map (·.1)).nodup_iff.2 h1;refine⟨by rw[RS];exact h1,?_,?_,f.set j (k,r),?_,JN.of (by simp[hl]) λi x hx=>?_⟩
 ·rw[List.map_set];have:(es.map (·.born)).set j e.born=es.map (·.born):=by
   apply List.ext_getElem?;intro i;rw[XQ]
   split
   ·rename_i hij;subst hij
    simp[hjl,List.getElem?_eq_some_iff.1 he |>.2]
   ·rfl
  show((es.map (·.born)).set j e.born).Nodup;rw[this];exact h2
 ·intro x hx;rcases List.mem_or_eq_of_mem_set hx with hx | rfl
  ·exact h3 x hx
  ·exact h3 e (Xk he)
 ·have:=Ti h4 k r
  rwa [QY r hfn e1] at this
 ·rw[XQ] at hx ⊢
  split at hx
  ·rename_i hij;subst hij
   cases hx
   exact⟨k,r,by rw[Xr rfl,Xr (by rw[hl];exact hjl)],rfl,hr⟩
  ·rename_i hij
   rw[Xn hij];exact ha i x hx
theorem Gm.ins {Z:Fz}{m:List (Aq×Rp)}{es:List MapEntry}{ck:Nat}{k:Aq}{r:Rp}{v:Value}(h:Gm Z m es ck)(hm:BA m k=none)(hk:∀p∈m,p.1≠k)(hr:r.p Z v) :
  Gm Z (mset m k r) (es++[{ key:=.string (B k),val:=v,born:=ck }]) (ck+1):=by
 obtain⟨h1,h2,h3,f,h4,h5⟩:=h;unfold mset;rw[RW hm,Xl];have hp:=KV k r m;refine⟨?_,?_,?_,f++[(k,r)],?_,JN.snoc rfl hr h5⟩
 ·rw[(hp.map (·.1)).nodup_iff,XC,List.nodup_cons];exact⟨λhx=>by obtain⟨p,hp,e⟩:=List.mem_map.1 hx;exact hk p hp e,h1⟩
 ·rw[XM,List.nodup_append];refine⟨h2,by simp,λa ha b hb e=>?_⟩;simp at hb;subst hb;obtain⟨x,hx,e'⟩:=List.mem_map.1 ha;have:=h3 x hx;omega
 ·intro x hx;rcases List.mem_append.1 hx with hx | hx
  ·have:=h3 x hx;omega
  ·simp at hx;subst hx;exact Xi _
 ·exact(List.perm_append_comm (l₁:=f) (l₂:=[(k,r)])).trans ((h4.cons (k,r)).trans hp.symm)
theorem St.mapset {Z:Fz}{w:World}(h:St c H Z w){m m':List (Aq×Rp)}(hi:H[i]? =some (.map b m)){es es':Array MapEntry}{ck ck':Nat}(h1:w.heap[b]? =some (.map es ck))(h2:Gm Z m' es'.toList ck') :
  St c (H.set i (.map b m')) Z { w with heap:=w.heap.setIfInBounds b (.map es' ck') }:=by
 obtain⟨q1,q2⟩:=MapKept.heap_set (o':=.map es' ck') h1;exact h.set hi rfl rfl rfl (by simp) (λk _ hk=>q2 k (by simpa[Ent.foot] using hk)) ⟨es',ck',q1,h2⟩ (by simp[Ent.foot])
theorem NQ (s:ByteArray):Instr.sameBits 10000 (.string s) (.string s)=true:=by
 show(s ==s)=true;exact(MapKept.bytes_beq s s).2 rfl |> λh=>by simpa using h
theorem Vz {r:Rp}{m:List (Aq×Rp)}(ht:P.underlying t=some (.map kt et))(hk:P.underlying kt=some .string)(hx:ev l x=some (rv (.map (some b))))(hi:H[i]? =some (.map b m))(hy:ev l y=some (rS k))(hu:ev l u=some r){H':List Ent}(hH:H.set i (.map b (mset m k r))=H')(h:WL P n c ops Q rest l H') :
  WL P n c ops Q ({ dst:=none,op:=.mapUpdate t x y u,type:=ty,pos:=pos,after:=af,guard:=none }::rest) l H:=
 LS λa w Z ha hw=>by
  obtain⟨es,ck,h1,h2⟩:=hw.ent hi;have hv:=ha.ev hu;subst hH;rcases Ol h2 k with⟨q1,q2,q3⟩ | ⟨j,e,r0,q1,q2,q3,q4,_⟩
  ·refine⟨_,_,?_,hw.mapset hi h1 (es':=es.push { key:=.string (B k),val:=a.eval u,born:=ck }) (by simpa using h2.ins q2 q3 hv),h⟩;simp[execOp,ha.eval hx,ha.eval hy,Instr.mapUpdate,run_underlying ht,MapKept.run_getObj_map h1,MapKept.run_checkKey hk (Ge _),MapKept.run_findKey hk q1,MapKept.run_setObj_map _ h1]
  ·have hje:es[j]? =some e:=by simpa using q2
   refine⟨_,_,?_,hw.mapset hi h1 (es':=es.modify j λe=>{ e with key:=.string (B k),val:=a.eval u }) (ck':=ck) (by
    have:=h2.put q2 q3 q4 hv;have e1:(es.modify j λe=>{ e with key:=.string (B k),val:=a.eval u }).toList=es.toList.set j { e with key:=.string (B k),val:=a.eval u }:=by
     rw[Array.toList_modify];rw[List.modify_eq_set,q2];rfl
    rw[e1];exact this),h⟩
   have hkey:((es[j]?).map (·.key)).getD (.string (B k)) = .string (B k):=by rw[hje];exact q3
   simp[execOp,ha.eval hx,ha.eval hy,Instr.mapUpdate,run_underlying ht,MapKept.run_getObj_map h1,MapKept.run_checkKey hk (Ge _),MapKept.run_findKey hk q1,MapKept.run_setObj_map _ h1,hkey,Instr.keyThatStays,NQ]
theorem L8 {v:T}(ht:P.underlying t=some (.map kt et))(hk:P.underlying kt=some .string)(hx:ev l x=some (rv (.map (some b))))(hi:H[i]? =some (.map b (AG enc xs)))(hy:ev l y=some (rS k))(hu:ev l u=some (enc v)){H':List Ent}(hH:H.set i (.map b (AG enc (mset xs k v)))=H')(h:WL P n c ops Q rest l H') :
  WL P n c ops Q ({ dst:=none,op:=.mapUpdate t x y u,type:=ty,pos:=pos,after:=af,guard:=none }::rest) l H:=Vz ht hk hx hi hy hu (by rw[← Ty];exact hH) h
end
section
variable {P : Program} {n : Nat} {c : Cx} {ops : Array Oper} {Q : Exit → Act → World → Prop} {rest : List Oper} {l : Fr} {H : List Ent} {d : Nat} {ty t kt et rty : TypeId} {pos : String} {af : Array Edge} {x y u : Operand} {K : Act → World → Prop} {cx : Code}
variable {T : Type} {enc : T → Rp} {xs ys : List (Aq × T)} {i b it : Nat} {m lf : List (List UInt8 × Rp)} {cur : Option (List UInt8 × Rp)} {k : Aq} {r : Rp}
end
theorem Bj.d1 {Z:Fz}{r0:Rp}{us:List Value}(h:Bj Z [r0] us):∃y0,us=[y0]∧Bj Z [r0] [y0]:=by
 match us,h.length with
 | [y0],_=>exact⟨_,rfl,h⟩
theorem Bj.d2 {Z:Fz}{r0 r1:Rp}{us:List Value}(h:Bj Z [r0,r1] us):∃y0 y1,us=[y0,y1]∧Bj Z [r0,r1] [y0,y1]:=by
 match us,h.length with
 | [y0,y1],_=>exact⟨_,_,rfl,h⟩
theorem Bj.d3 {Z:Fz}{r0 r1 r2:Rp}{us:List Value}(h:Bj Z [r0,r1,r2] us):∃y0 y1 y2,us=[y0,y1,y2]∧Bj Z [r0,r1,r2] [y0,y1,y2]:=by
 match us,h.length with
 | [y0,y1,y2],_=>exact⟨_,_,_,rfl,h⟩
theorem Bj.d4 {Z:Fz}{r0 r1 r2 r3:Rp}{us:List Value}(h:Bj Z [r0,r1,r2,r3] us):∃y0 y1 y2 y3,us=[y0,y1,y2,y3]∧Bj Z [r0,r1,r2,r3] [y0,y1,y2,y3]:=by
 match us,h.length with
 | [y0,y1,y2,y3],_=>exact⟨_,_,_,_,rfl,h⟩
theorem P7 {α:Type}{sz:Nat}:∀{xs:List (List α)} (hs:∀c∈xs,c.length=sz) {k:Nat} {cl:List α},xs[k]? =some cl→∀(off m:Nat),off+m≤sz→((xs.flatten).drop (k*sz+off)).take m=(cl.drop off).take m
 | [],_,k,cl,h,_,_,_=>by simp at h
 | x::r,hs,0,cl,h,off,m,hm=>by
  simp at h;subst h;have hx:=hs x (by simp);simp only[List.flatten_cons,Nat.zero_mul,X0];rw[List.drop_append_of_le_length (by omega),List.take_append_of_le_length (by simp;omega)]
 | x::r,hs,k+1,cl,h,off,m,hm=>by
  have hx:=hs x (by simp);simp only[List.flatten_cons];have e:(k+1)*sz+off=x.length+(k*sz+off):=by rw[hx,Nat.succ_mul];omega
  rw[e,List.drop_length_add_append];exact P7 (λc hc=>hs c (by simp[hc])) (by simpa using h) off m hm
theorem P8 {α:Type}{sz:Nat}:∀{xs:List (List α)} (hs:∀c∈xs,c.length=sz) {k:Nat} {cl rs:List α},xs[k]? =some cl→∀(off:Nat),off+rs.length≤sz→(xs.set k (cl.take off++rs++cl.drop (off+rs.length))).flatten=xs.flatten.take (k*sz+off)++rs++xs.flatten.drop (k*sz+off+rs.length)
 | [],_,k,cl,rs,h,_,_=>by simp at h
 | x::r,hs,0,cl,rs,h,off,hm=>by
  simp at h;subst h;have hx:=hs x (by simp);simp only[List.set_cons_zero,List.flatten_cons,Nat.zero_mul,X0];rw[List.take_append_of_le_length (by omega),List.drop_append_of_le_length (by omega)];simp[Xw]
 | x::r,hs,k+1,cl,rs,h,off,hm=>by
  have hx:=hs x (by simp);simp only[List.set_cons_succ,List.flatten_cons];have e:(k+1)*sz+off=x.length+(k*sz+off):=by rw[hx,Nat.succ_mul];omega
  have e2:x.length+(k*sz+off)+rs.length=x.length+(k*sz+off+rs.length):=by omega
  rw[P8 (λc hc=>hs c (by simp[hc])) (by simpa using h) off hm,e,e2,List.take_length_add_append,List.drop_length_add_append];simp[Xw]
section
variable {P : Program} {n : Nat} {c : Cx} {ops : Array Oper} {Q : Exit → Act → World → Prop} {rest : List Oper} {l : Fr} {H H' : List Ent} {d : Nat} {d' : Option Nat} {ty t e rty : TypeId} {pos : String} {af : Array Edge} {g : Option (Nat × Bool)} {x y u : Operand} {v : Value} {sz m : Nat}
theorem IU {α:Type}[Inhabited α]{ys:List α}{enc:α→List Rp}{i off:Nat}{j:Int}{rs:List Rp}(hag:∀w,(isAgg t).run P w = .ok true w)(hsz:∀w,(sizeOf t).run P w = .ok m w)(hx:ev l x=some (rv (C0 sz v j.toNat off)))(hi:H[i]? =some (.row v e sz (ys.map enc)))(hg:Ct j (ys.length:Int)=true)
  (hle:Nat.ble (off+m) sz=true) (hr:((enc (Af ys j)).drop off).take m=rs) :
  Bw P n c l H { dst:=d',op:=.load t x,type:=ty,pos:=pos,after:=af,guard:=g } (Bd rs):=λa w Z ha hw=>by
 obtain⟨hs,us,⟨h1,h2⟩,h3⟩:=hw.ent hi;have h0:=(BZ hg).1;have hlt:j.toNat<ys.length:=by have:=(BZ hg).2;omega
 have eat:Af ys j=ys[j.toNat]:=by simp[Af,hlt]
 have hle':off+m≤sz:=by simpa using hle
 have hcl:(ys.map enc)[j.toNat]? =some (enc ys[j.toNat]):=by simp[hlt]
 have hcz:(enc ys[j.toNat]).length=sz:=hs _ (Xk hcl);have hseg:=P7 hs hcl off m hle';rw[← eat,hr] at hseg;have h4:=(h3.drop (j.toNat*sz+off)).take m;rw[hseg] at h4;have hrl:rs.length=m:=by rw[← hr,eat];simp;omega
 rcases h2 with⟨rfl,hz⟩ | ⟨b,cap,cur,rfl,_,hg',hcap,hm,hcs,htk⟩
 ·simp at hz;subst hz;simp at hlt
 ·have h5:=run_loadCells_list (P:=P) w ⟨b,j.toNat*sz+off,none⟩ ((us.drop (j.toNat*sz+off)).take m) (λq w' hq=>by
   rw[Ir,cell_of_row w b _ cur e (0,0) hg'];rw[X3] at hq
   split at hq
   ·rw[List.getElem?_drop,← htk,X3] at hq
    split at hq
    ·simpa using hq
    ·cases hq
   ·cases hq)
  rw[h4.length,hrl] at h5;exact⟨.agg ((us.drop (j.toNat*sz+off)).take m).toArray,⟨_,rfl,h4⟩,by simp[execOp,ha.eval hx,C0,Instr.loadAt,Instr.sureAddr,loadVar,hag,hsz,h5]⟩
theorem Uv {α:Type}[Inhabited α]{ys:List α}{enc:α→List Rp}{i off:Nat}{j:Int}{rs:List Rp}{y':α}(hsz:∀w,(sizeOf t).run P w = .ok m w)(hx:ev l x=some (rv (C0 sz v j.toNat off)))(hy:ev l y=some (Bd rs))(hv:Be H rs)(hi:H[i]? =some (.row v e sz (ys.map enc)))(hg:Ct j (ys.length:Int)=true)
  (hl:rs.length=m) (hy':(enc (Af ys j)).take off++rs++(enc (Af ys j)).drop (off+m)=enc y') (hle:Nat.ble (off+m) sz=true) (hH:H.set i (.row v e sz ((ys.set j.toNat y').map enc))=H') (h:WL P n c ops Q rest l H') :
  WL P n c ops Q ({ dst:=none,op:=.store t x y,type:=ty,pos:=pos,after:=af,guard:=none }::rest) l H:=
 LS λa w Z ha hw=>by
  obtain⟨hs,us,⟨h1,h2⟩,h3⟩:=hw.ent hi;have h0:=(BZ hg).1;have hlj:j.toNat<ys.length:=by have:=(BZ hg).2;omega
  have hle':off+m≤sz:=by simpa using hle
  have eat:Af ys j=ys[j.toNat]:=by simp[Af,hlj]
  obtain⟨vs,e1,h4⟩:=ha.ev hy;have hvl:=h4.length;have hone:∀v∈vs,v.oneCell'=true:=λv hv'=>hv.at hw h4 v hv';have hcl:(ys.map enc)[j.toNat]? =some (enc ys[j.toNat]):=by simp[hlj]
  have hcz:(enc ys[j.toNat]).length=sz:=hs _ (Xk hcl);rcases h2 with⟨rfl,hz⟩ | ⟨b,cap,cur,rfl,_,hg',hcap,hm,hcs,htk⟩
  ·simp at hz;subst hz;simp at hlj
  ·simp only[Xo] at h1 hcap htk;have hin:j.toNat*sz+off+m≤ys.length*sz:=by
    have:(j.toNat+1)*sz≤ys.length*sz:=Nat.mul_le_mul_right _ hlj;rw[Nat.succ_mul] at this;omega
   have hlc:j.toNat*sz+off+m≤cur.size:=by
    have:ys.length*sz≤cap*sz:=Nat.mul_le_mul_right _ hcap;omega
   have hvm:vs.length=m:=by omega
   have h5:=run_storeCells_at P b (j.toNat*sz+off) e vs 0 cur w hg' (by omega) hone;simp only[Nat.add_zero] at h5;have hset:((ys.set j.toNat y').map enc).flatten=(ys.map enc).flatten.take (j.toNat*sz+off)++rs++(ys.map enc).flatten.drop (j.toNat*sz+off+m):=by
    have:=P8 hs hcl (rs:=rs) off (by omega);rw[hl] at this;rw[← this,List.map_set,← hy',eat]
   refine⟨w.setRow b (cur.toList.take (j.toNat*sz+off)++vs++cur.toList.drop (j.toNat*sz+off+vs.length)).toArray,H',?_,?_,h⟩
   ·simp only[Xw] at h5 ⊢;rw[hvm] at h5 ⊢;simp[execOp,ha.eval hx,e1,C0,Instr.storeAt,Instr.sureAddr,storeVar,hsz,Value.cells,hvm,h5]
   ·subst hH;refine hw.set hi rfl rfl rfl (by simp[World.setRow]) (λk _ hk=>?_) ⟨?_,us.take (j.toNat*sz+off)++vs++us.drop (j.toNat*sz+off+m),⟨?_,.inr ⟨b,cap,_,by simp,X5 _,setRow_heap w b cur _ e (0,0) hg',by simpa using hcap,hm,?_,?_⟩⟩,?_⟩ (by simp[Ent.foot,Value.ownBlock])
    ·simp only[Ent.foot,Value.ownBlock,Option.mem_toList,Option.mem_def,Option.some.injEq] at hk;simp only[World.setRow,Array.getElem?_modify];rw[Xn hk]
    ·intro cl hcl';rw[List.map_set] at hcl';rcases List.mem_or_eq_of_mem_set hcl' with h' | rfl
     ·exact hs cl h'
     ·rw[← hy',eat];simp;omega
    ·simp;omega
    ·simp;omega
    ·have hu1:us.take (j.toNat*sz+off)=cur.toList.take (j.toNat*sz+off):=by rw[← htk,List.take_take,Nat.min_eq_left (by omega)]
     have hu2:us.drop (j.toNat*sz+off+m)=(cur.toList.drop (j.toNat*sz+off+m)).take (ys.length*sz-(j.toNat*sz+off+m)):=by rw[← htk,List.drop_take]
     rw[hu1,hu2,Xo,XJ,hvm];have e2:(List.take (j.toNat*sz+off) cur.toList++vs).length=j.toNat*sz+off+m:=by simp;omega
     have e3:ys.length*sz=(List.take (j.toNat*sz+off) cur.toList++vs).length+(ys.length*sz-(j.toNat*sz+off+m)):=by rw[e2];omega
     conv=>lhs;rw[show ys.length*sz=(List.take (j.toNat*sz+off) cur.toList++vs).length+(ys.length*sz-(j.toNat*sz+off+m)) from e3]
     rw[List.take_length_add_append]
    ·rw[hset];exact((h3.take _).append h4).append (h3.drop _)
end
abbrev Ux:=Nat→Nat→Value×Nat
def Ag (k:Nat)(u u':Ux):Prop:=∀j,j<k→u j=u' j
def ux (u:Ux)(k:Nat)(f:List (Value×Nat)):Ux:=λj=>bif Nat.beq j k then λq=>f.getD q (undef,0) else u j
theorem Wq {u:Ux}{k:Nat}{f:List (Value×Nat)}:Ag k u (ux u k f):=λj hj=>by
 unfold ux;have:Nat.beq j k=false:=by
  cases h:Nat.beq j k with
  | false=>rfl
  | true=>have:=Nat.eq_of_beq_eq_true h;omega
 rw[this];rfl
structure Sy where
 deps:List Nat
 r:Ux→Rp
 lv:Nat:=0
 fx:Bool:=false
 old:List Nat:=[]
def EO (sp:List Sy)(i:Nat):Sy:=sp.getD i { deps:=[],r:=λ_=>rv undef }
def TZ (sp:List Sy)(u:Ux):List Sp:=sp.map λs=>⟨s.deps,s.r u,0⟩
def VR (sp:List Sy)(u:Ux):List Sa:=sp.map λs=>{ deps:=s.deps,r:=s.r u }
def NE:List Sy→Prop
 | []=>True
 | s::r=>(∀u u',Ag s.lv u u'→s.r u=s.r u')∧NE r
theorem NE.at:∀{sp:List Sy},NE sp→∀{i:Nat} {s:Sy},sp[i]? =some s→∀u u',Ag s.lv u u'→s.r u=s.r u'
 | [],_,i,s,h=>by simp at h
 | x::sp,⟨h1,h2⟩,0,s,h=>by simp at h;subst h;exact h1
 | x::sp,⟨h1,h2⟩,i+1,s,h=>NE.at h2 (by simpa using h)
theorem Io {r:Rp}{m:Nat}:∀u u':Ux,Ag m u u'→(λ_:Ux=>r) u=(λ_:Ux=>r) u':=λ_ _ _=>rfl
def W4 (n:Nat)(ops:List Oper)(N:Nat)(is:List Nat)(keys:List Nat)(deps:List (List Nat))(lvs:List Nat)(fxs:List Bool)(olds:List (List Nat)):Bool:=
 let cl:=JG ops []
 MB ops N&&decide (N≤ops.length)&&is.all (λi=>decide (i<N))&&decide is.Nodup&&
 (List.range is.length).all (λk=>k ==0||(cl.getD (is.getD k 0) 0).testBit (is.getD (k-1) 0))&&
 (List.range N).all (λi=>match BY ops i with
  | some d=>decide (d<n)&&!keys.contains d&&(List.range N).all (λj=>j ==i||BY ops j !=some d)
  | none=>true)&&
 (List.range N).all (λi=>(deps.getD i []).all (λj=>decide (j<N)&&(D6 (ops.getD i default)).contains j))&&
 (List.range N).all (λi=>decide (lvs.getD i 0≤is.length)&&(lvs.getD i 0 ==0||i ==is.getD (lvs.getD i 0-1) 0||(cl.getD i 0).testBit (is.getD (lvs.getD i 0-1) 0)))&&
 (List.range N).all (λi=>!fxs.getD i false||lvs.getD i 0 ==is.length||(cl.getD (is.getD (lvs.getD i 0) 0) 0).testBit i)&&
 (List.range N).all (λi=>(olds.getD i []).all (λd=>(List.range N).all (λw=>BY ops w !=some d||(D6 (ops.getD w default)).contains i)))
def cnt (S:Nat→Bool)(is:List Nat):Nat:=(is.filter S).length
theorem M9 {S:Nat→Bool}{is:List Nat}{k:Nat}(hk:k≤is.length)(h1:∀j (h:j<is.length),j<k→S is[j]=true)(h2:∀j (h:j<is.length),k≤j→S is[j]=false):cnt S is=k:=by
 unfold cnt;rw[← List.take_append_drop k is,List.filter_append,List.filter_eq_self.2 (λx hx=>?_),List.filter_eq_nil_iff.2 (λx hx=>?_)]
 ·simp;omega
 ·obtain⟨j,hj⟩:=List.mem_iff_getElem?.1 hx;rw[List.getElem?_drop] at hj;obtain⟨h3,h4⟩:=List.getElem?_eq_some_iff.1 hj;have:=h2 (k+j) h3 (by omega);rw[h4] at this;simp[this]
 ·obtain⟨j,hj⟩:=List.mem_iff_getElem?.1 hx;rw[X3] at hj
  split at hj
  ·rename_i hjk
   obtain⟨h3,h4⟩:=List.getElem?_eq_some_iff.1 hj;have:=h1 j h3 hjk;rw[h4] at this;exact this
  ·cases hj
theorem N7 {S S':Nat→Bool}{is:List Nat}(h:∀i∈is,S i=S' i):cnt S is=cnt S' is:=by
 unfold cnt;rw[List.filter_congr h]
section
variable (P : Program) (n : Nat) (c : Cx) (opsA : Array Oper) (Q : Exit → Act → World → Prop)
def WG (l:Fr)(H:List Ent)(o:Oper)(k:Nat)(u:Ux)(r:Ux→Rp)(H1:Ux→List Ent):Prop:=
 ∀a w Z (K:Act→World→Prop),CE n l a Z→St c H Z w→(∀u' v w' Z',Ag k u u'→Fz.le Z Z'→(r u').p Z' v→St c (H1 u') Z' w'→K (a.put o.dst v) w')→
  Region.wanted o (yielded opsA a.tmps)=true∧o.wp P a w K Q
def VJ (ops:List Oper)(sp:List Sy)(l0 lw:Fr)(is:List Nat)(hs:List (Ux→List Ent))(i:Nat)(o:Oper):Prop:=
 match is.findIdx? (λx=>Nat.beq x i) with
 | some k=>∀u,WG P n c opsA Q (Ef lw (EO sp i).old (BJ ops (TZ sp u) (EO sp i).deps l0)) (hs.getD k (λ_=>[]) u) o k u (EO sp i).r (hs.getD (k+1) (λ_=>[]))
 | none=>if (EO sp i).fx=true then ∀u,DA P n c opsA Q (Ef lw (EO sp i).old (BJ ops (TZ sp u) (EO sp i).deps l0)) (hs.getD (EO sp i).lv (λ_=>[]) u) o ((EO sp i).r u) (hs.getD (EO sp i).lv (λ_=>[]) u)
  else ∀u k,k≤is.length→DA P n c opsA Q (Ef lw (EO sp i).old (BJ ops (TZ sp u) (EO sp i).deps l0)) (hs.getD k (λ_=>[]) u) o ((EO sp i).r u) (hs.getD k (λ_=>[]) u)
def JJ (ops:List Oper)(sp:List Sy)(l0 lw:Fr)(is:List Nat)(hs:List (Ux→List Ent)):Nat→List Oper→Prop
 | i,o::rest=>VJ P n c opsA Q ops sp l0 lw is hs i o∧JJ ops sp l0 lw is hs (i+1) rest
 | _,[]=>True
end
section
variable {P : Program} {n : Nat} {c : Cx} {opsA : Array Oper} {Q : Exit → Act → World → Prop} {l l0 lw : Fr} {H : List Ent} {hs : List (Ux → List Ent)} {sp : List Sy} {is : List Nat}
theorem JJ.at {ops:List Oper}:∀{k:Nat} {rest:List Oper},JJ P n c opsA Q ops sp l0 lw is hs k rest→∀(t:Nat) o,rest[t]? =some o→VJ P n c opsA Q ops sp l0 lw is hs (k+t) o
 | k,o::rest,⟨h1,h2⟩,t,o',ht=>by
  cases t with
  | zero=>simp at ht;subst ht;exact h1
  | succ t=>
   have:=JJ.at h2 t o' (by simpa using ht);rw[show k+(t+1)=k+1+t from by omega];exact this
 | _,[],_,t,o,h=>by simp at h
theorem Um {id:Nat}{ops:List Oper}(N:Nat)(is:List Nat)(sp:List Sy)(hs:List (Ux→List Ent))(hm:P.follows .mixedOrders=true)(hB:W4 n ops N is (El l0) (sp.map (·.deps)) (sp.map (·.lv)) (sp.map (·.fx)) (sp.map (·.old))=true)(hl0:PJ l0 l)(hlw:PJ lw l)(hsp:sp.length=N)(hst:NE sp)
    (hH:∀u,hs.getD 0 (λ_=>[]) u=H) (hob:JJ P n c ops.toArray Q ops sp l0 lw is hs 0 (ops.take N)) (h:∀u,WL P n c ops.toArray Q (ops.drop N) (JO (λ_=>0) (ops.take N) (VR sp u) 0 l0) (hs.getD is.length (λ_=>[]) u)):WC P n c (.region id ops.toArray true) Q l H:=by
  intro a w Z ha hw;simp only[W4,Xf,X1,List.mem_range,Xc] at hB;obtain⟨⟨⟨⟨⟨⟨⟨⟨⟨b1,bN⟩,bis⟩,NC⟩,bch⟩,b2⟩,b3⟩,b4⟩,b6⟩,b5⟩:=hB;have hget:∀i,i<N→(ops.take N)[i]? =ops[i]?:=λi hi=>by rw[X3,Xr hi]
  have hsa:∀i,i<N→sp[i]? =some (EO sp i):=λi hi=>by
    simp[EO,Xh,Xg (show i<sp.length by omega)]
  have hspq:∀u i,i<N→(D4 (TZ sp u) i)=⟨(EO sp i).deps,(EO sp i).r u,0⟩:=λu i hi=>by
    simp[D4,TZ,Xh,Xv,hsa i hi]
  have hlv:∀j,j<N→(sp.map (·.lv)).getD j 0=(EO sp j).lv:=λj hj=>by simp[Xh,Xv,hsa j hj]
  have hfx:∀j,j<N→(sp.map (·.fx)).getD j false=(EO sp j).fx:=λj hj=>by simp[Xh,Xv,hsa j hj]
  have hdep:∀j,j<N→(sp.map (·.deps)).getD j []=(EO sp j).deps:=λj hj=>by simp[Xh,Xv,hsa j hj]
  have hops:∀j,j<N→∃o,ops[j]? =some o:=λj hj=>⟨ops[j]'(by omega),Xg (by omega)⟩
  have hisN:∀k (hk:k<is.length),is[k]<N:=λk hk=>bis _ (List.getElem_mem hk);have hisD:∀k (hk:k<is.length),is.getD k 0=is[k]:=λk hk=>by rw[Xh,Xg hk];rfl
  have hdst:∀i o d,i<N→ops[i]? =some o→o.dst=some d→(d<n∧d ∉ El l0)∧∀j,j<N→j≠i→BY ops j≠some d:=λi o d hi ho hd=>by
    have h3:=b2 i hi;have:BY ops i=some d:=by simp[BY,ho,hd]
    rw[this] at h3;simp only[Xf,Xz,X1,List.mem_range,Xc] at h3;refine⟨⟨h3.1.1,λhmem=>by rw[← List.contains_iff_mem] at hmem;rw[hmem] at h3;cases h3.1.2⟩,λj hj hne he=>?_⟩;have:=h3.2 j hj;simp[hne,he] at this
  have clo:∀S:Nat→Bool,(∀t o,ops[t]? =some o→S t=true→∀e∈D6 o,S e=true)→∀j i,((JG ops []).getD j 0).testBit i=true→S j=true→S i=true:=λS hc j i hb hj=>
    Gg ops (λk=>S k=true) ops [] (λt o ht e he hF=>hc t o ht (by simpa using hF) e he) (λj i hb=>by simp at hb) j i hb hj
  have pre1:∀S:Nat→Bool,(∀t o,ops[t]? =some o→S t=true→∀e∈D6 o,S e=true)→∀k (hk:k<is.length),S is[k]=true→∀j (hj:j<is.length),j≤k→S is[j]=true:=by
    intro S hc k
    induction k with
    | zero=>
              intro hk h0 j hj hle;have:j=0:=by omega
              subst this;exact h0
    | succ k ih=>
      intro hk h0 j hj hle
      by_cases e:j=k+1
      · subst e;exact h0
      · have h3:=bch (k+1) hk
        rw[hisD (k+1) hk] at h3;simp only[X2,beq_iff_eq,Nat.succ_ne_zero,false_or,Nat.add_sub_cancel] at h3;rw[hisD k (by omega)] at h3;exact ih (by omega) (clo S hc _ _ h3 h0) j hj (by omega)
  refine PV (N:=N) hm b1 bN (λS a w=>∃ (u:Ux) (Z:Fz),St c (hs.getD (cnt S is) (λ_=>[]) u) Z w∧CE n l0 a Z∧(∀j o d,j<N→S j=true→ops[j]? =some o→o.dst=some d→∃v,a.tmps[d]? =some v∧((EO sp j).r u).p Z v)∧
      (∀t o,t<N→ops[t]? =some o→S t=true→∀e∈D6 o,e<t∧S e=true)∧
      (∀d q,look lw d=some q→(∀wr,wr<N→BY ops wr=some d→S wr=false)→∃v,a.tmps[d]? =some v∧q.p Z v)∧
      ∀wr i d,wr<N→i<N→BY ops wr=some d→d∈(EO sp i).old→S wr=true→S i=true)
    (λS S' a w hS hI=>?_) ⟨default,Z,?_,ha.subL hl0,λj o d _ hS=>(by cases hS),λt o _ _ hS=>(by cases hS),λd q hd _=>(ha.subL hlw).tm d q hd,λwr i d _ _ _ _ hS=>(by cases hS)⟩ (λS i o a w hi hun ho hb hI K hK=>?_) (λa w hI=>?_)
  · obtain⟨u,Z,h1,h2,h3,h4,h5,h6⟩:=hI
    refine⟨u,Z,?_,h2,λj o d hj hS'=>h3 j o d hj (by rw[hS j hj];exact hS'),λt o ht hto hSt e he=>?_,λd q hd hw'=>h5 d q hd (λwr hwr hdw=>by rw[hS wr hwr];exact hw' wr hwr hdw),λwr i d hwr hi hdw hold hSw=>by rw[← hS i hi];exact h6 wr i d hwr hi hdw hold (by rw[hS wr hwr];exact hSw)⟩
    · rw[← N7 (S:=S) (S':=S') λi hi=>hS i (bis i hi)];exact h1
    · obtain⟨h7,h8⟩:=h4 t o ht hto (by rw[hS t ht];exact hSt) e he
      exact⟨h7,by rw[← hS e (by omega)];exact h8⟩
  · have:cnt (λ_=>false) is=0:=M9 (X5 _) (λj _ h=>absurd h (Nat.not_lt_zero _)) (λ_ _ _=>rfl)
    rw[this,hH];exact hw.drawn _
  · obtain⟨u,Z,h1,h2,h3,hc,ho5,ho6⟩:=hI
    have hcl:∀t o,ops[t]? =some o→(decide (t<N)&&S t)=true→∀e∈D6 o,(decide (e<N)&&S e)=true:=λt o hto hSt e he=>by
      simp only[Xf,Xc] at hSt ⊢;obtain⟨h7,h8⟩:=hc t o hSt.1 hto hSt.2 e he;exact⟨by omega,h8⟩
    have hcl2:∀k q,((JG ops []).getD k 0).testBit q=true→(k=i∨(decide (k<N)&&S k)=true)→(q=i∨(decide (q<N)&&S q)=true):=
      Gg ops (λk=>k=i∨(decide (k<N)&&S k)=true) ops [] (λt o' ht e he hF=>by
        rcases hF with hF | hF
        · simp at hF;subst hF
          rw[ho] at ht;simp at ht;subst ht;obtain⟨h7,h8⟩:=hb e he;exact .inr (by simp only[Xf,Xc];exact⟨by omega,h8⟩)
        · exact .inr (hcl t o' ht (by simpa using hF) e he)) (λj i hb=>by simp at hb)
    have hanc:∀q,((JG ops []).getD i 0).testBit q=true→q≠i→S q=true:=λq hq hne=>by
      rcases hcl2 i q hq (.inl rfl) with h7 | h7
      · exact absurd h7 hne
      · simp only[Xf] at h7;exact h7.2
    have hSis:∀k (hk:k<is.length),(decide (is[k]<N)&&S is[k])=S is[k]:=λk hk=>by simp[hisN k hk]
    have hpre:∀k (hk:k<is.length),S is[k]=true→∀j (hj:j<is.length),j≤k→S is[j]=true:=λk hk hSk j hj hle=>by
      have:=pre1 (λk=>decide (k<N)&&S k) hcl k hk (by show(decide (is[k]<N)&&S is[k])=true;rw[hSis k hk];exact hSk) j hj hle
      rwa [show(decide (is[j]<N)&&S is[j])=S is[j] from hSis j hj] at this
    have hput:∀k u v,a.tmps[k]? =some u→o.dst≠some k→(a.put o.dst v).tmps[k]? =some u:=λk u v hk hne=>by
      cases hd:o.dst with
      | none=>simpa[Act.put] using hk
      | some d=>
        simp only[Act.put,Array.getElem?_setIfInBounds];rw[Xn (λe=>hne (by rw[hd,e]))];exact hk
    have hagr:∀v Z',Fz.le Z Z'→CE n l0 (a.put o.dst v) Z':=λv Z' hz=>by
      refine⟨?_,?_,λk r hk=>?_⟩
      · cases o.dst<;>simp[Act.put,h2.size]
      · cases o.dst<;>simp[Act.put,h2.defers]
      · obtain⟨u,hu,hpu⟩:=h2.tm k r hk
        exact⟨u,hput k u v hu (λe=>((hdst i o k hi ho e).1).2 (I8 hk)),r.mono hz hpu⟩
    have hvals:∀(v:Value) (Z':Fz) (u':Ux),Fz.le Z Z'→(∀j,j<N→j≠i→S j=true→(EO sp j).r u'=(EO sp j).r u)→(o.dst≠none→((EO sp i).r u').p Z' v)→∀j o' d,j<N→(j ==i||S j)=true→ops[j]? =some o'→o'.dst=some d→∃q,(a.put o.dst v).tmps[d]? =some q∧((EO sp j).r u').p Z' q:=by
      intro v Z' u' hz hβ hp j o' d hj hS' ho' hd
      by_cases hji:j=i
      · subst hji
        rw[ho] at ho';simp at ho';subst ho';refine⟨v,?_,hp (by simp[hd])⟩;have hdn:d<a.tmps.size:=by rw[h2.size];exact(hdst j o d hi ho hd).1.1
        simp[Act.put,hd,hdn]
      · have hSj:S j=true:=by simpa[hji] using hS'
        obtain⟨q,hu,hpu⟩:=h3 j o' d hj hSj ho' hd;refine⟨q,hput d q v hu (λe=>(hdst i o d hi ho e).2 j hj hji (by simp[BY,ho',hd])),?_⟩;rw[hβ j hj hji hSj];exact((EO sp j).r u).mono hz hpu
    have hat:=hob.at i o (by rw[hget i hi];exact ho);rw[X0] at hat;have hold':∀Z',Fz.le Z Z'→∀v d q,look lw d=some q→(∀wr,wr<N→BY ops wr=some d→(wr ==i||S wr)=false)→∃v',(a.put o.dst v).tmps[d]? =some v'∧q.p Z' v':=λZ' hz v d q hd hw'=>by
      obtain⟨v',e1,e2⟩:=ho5 d q hd (λwr hwr hdw=>by have:=hw' wr hwr hdw;simp only[X8] at this;exact this.2);refine⟨v',hput d v' v e1 (λe=>?_),q.mono hz e2⟩;have:=hw' i hi (by simp[BY,ho,e]);simp at this
    have hord:∀wr k d,wr<N→k<N→BY ops wr=some d→d∈(EO sp k).old→(wr ==i||S wr)=true→(k ==i||S k)=true:=λwr k d hwr hk hdw hmem hSw=>by
      by_cases hwi:wr=i
      · subst hwi
        have h7:=b5 k hk d (by simpa[Xh,Xv,hsa k hk] using hmem) wr hwr;simp only[X2,bne_iff_ne,ne_eq,hdw,not_true_eq_false,false_or] at h7;rw[Xh,ho,Xy,List.contains_iff_mem] at h7;simp[(hb k h7).2]
      · have:S k=true:=ho6 wr k d hwr hk hdw hmem (by simpa[hwi] using hSw)
        simp[this]
    have hcl':∀t o',t<N→ops[t]? =some o'→(t ==i||S t)=true→∀e∈D6 o',e<t∧(e ==i||S e)=true:=λt o' ht hto hSt e he=>by
      by_cases hti:t=i
      · subst hti
        rw[ho] at hto;simp at hto;subst hto;obtain⟨h7,h8⟩:=hb e he;exact⟨h7,by simp[h8]⟩
      · obtain⟨h7,h8⟩:=hc t o' ht hto (by simpa[hti] using hSt) e he
        exact⟨h7,by simp[h8]⟩
    have hag':CE n (Ef lw (EO sp i).old (BJ ops (TZ sp u) (EO sp i).deps l0)) a Z:=Ow (Jl h2 (λj hj d hd=>by
        obtain⟨h5,h6⟩:=b3 i hi j (by rw[hdep i hi];exact hj);rw[Xh,ho,Xy,List.contains_iff_mem] at h6;obtain⟨o2,ho2⟩:=hops j h5;obtain⟨v,hv1,hv2⟩:=h3 j o2 d h5 (hb j h6).2 ho2 (by simpa[BY,ho2] using hd);refine⟨v,hv1,?_⟩;rw[hspq u j h5];exact hv2)) (λd hd q hq=>ho5 d q hq (λwr hwr hdw=>by
          cases hS:S wr with
          | false=>rfl
          | true=>have:=ho6 wr i d hwr hi hdw hd hS;rw[this] at hun;cases hun))
    have hlev:∀j,j<N→S j=true→∀m (hm:m<is.length),m<(EO sp j).lv→S is[m]=true:=λj hj hSj m hm hlt=>by
      have h7:=b4 j hj;rw[hlv j hj] at h7;have h8:=h7.1;have hm1:(EO sp j).lv-1<is.length:=by omega
      rw[hisD _ hm1] at h7;have h9:S is[(EO sp j).lv-1]=true:=by
        have hg:=h7.2;simp only[X2,beq_iff_eq] at hg;rcases hg with(hg | hg) | hg
        · omega
        · rw[← hg];exact hSj
        · have:=clo (λk=>decide (k<N)&&S k) hcl j _ hg (by simp[hj,hSj])
          simp only[Xf] at this;exact this.2
      exact hpre _ hm1 h9 m hm (by omega)
    unfold VJ at hat
    cases hf:is.findIdx? (λx=>Nat.beq x i) with
    | some k=>
      rw[hf] at hat;obtain⟨hk,hki,_⟩:=List.findIdx?_eq_some_iff_getElem.1 hf;have hik:is[k]=i:=Nat.eq_of_beq_eq_true hki;have hlow:∀j (hj:j<is.length),j<k→S is[j]=true:=λj hj hjk=>by
        obtain⟨k',rfl⟩:∃k',k=k'+1:=⟨k-1,by omega⟩
        have h7:=bch (k'+1) hk;rw[hisD _ hk] at h7;simp only[X2,beq_iff_eq,Nat.succ_ne_zero,false_or,Nat.add_sub_cancel] at h7;have hk':k'<is.length:=by omega
        rw[hisD k' hk',hik] at h7;have hne:is[k']≠i:=λe=>by
          have:=(List.getElem_inj NC).1 (e.trans hik.symm);omega
        exact hpre k' hk' (hanc _ h7 hne) j hj (by omega)
      have hhigh:∀j (hj:j<is.length),k≤j→S is[j]=false:=λj hj hle=>by
        cases hS:S is[j] with
        | false=>rfl
        | true=>have:=hpre j hj hS k hk hle;rw[hik,hun] at this;cases this
      have hcnt:cnt S is=k:=M9 (by omega) (λj hj h=>hlow j hj h) (λj hj h=>hhigh j hj h);have hcnt':cnt (λj=>j ==i||S j) is=k+1:=M9 (by omega) (λj hj h=>by
        by_cases e:j=k
        · subst e;simp[hik]
        · simp[hlow j hj (by omega)]) (λj hj h=>by
        have hne:is[j]≠i:=λe=>by have:=(List.getElem_inj NC).1 (e.trans hik.symm);omega
        simp[hne,hhigh j hj (by omega)])
      rw[hcnt] at h1;have key:=λK' hK'=>hat u a w Z K' hag' h1 hK';have h5:∀u' v w' Z',Ag k u u'→Fz.le Z Z'→((EO sp i).r u').p Z' v→St c (hs.getD (k+1) (λ_=>[]) u') Z' w'→K (a.put o.dst v) w':=λu' v w' Z' hag hz hpv hs'=>by
        refine hK _ _ ⟨u',Z',by rw[hcnt'];exact hs',hagr v Z' hz,hvals v Z' u' hz (λj hj hji hSj=>?_) (λ_=>hpv),hcl',hold' Z' hz v,hord⟩;refine(hst.at (hsa j hj) u u' (λm hm=>hag m ?_)).symm;have hlj:=(b4 j hj).1;rw[hlv j hj] at hlj;have hml:m<is.length:=by omega
        cases Nat.lt_or_ge m k with
        | inl h7=>exact h7
        | inr h7=>have:=hlev j hj hSj m hml hm;rw[hhigh m hml h7] at this;cases this
      refine⟨λ_=>(key K h5).2,λhw'=>?_⟩;rw[(key K h5).1] at hw';cases hw'
    | none=>
      rw[hf] at hat;have hni:∀x∈is,x≠i:=λx hx e=>by
        have:=List.findIdx?_eq_none_iff.1 hf x hx;subst e;simp at this
      have hcnt':cnt (λj=>j ==i||S j) is=cnt S is:=N7 λx hx=>by simp[hni x hx]
      by_cases hfi:(EO sp i).fx=true
      · simp only[hfi,if_true] at hat
        have hli:=b4 i hi;rw[hlv i hi] at hli;have hcnt:cnt S is=(EO sp i).lv:=M9 hli.1 (λj hj h=>?_) (λj hj h=>?_)
        · rw[hcnt] at h1
          refine hat u a w Z K hag' h1 (λv w' Z' hz hp hst'=>hK _ _ ⟨u,Z',?_,hagr v Z' hz,hvals v Z' u hz (λ_ _ _ _=>rfl) (λ_=>hp),hcl',hold' Z' hz v,hord⟩);rw[hcnt',hcnt];exact hst'
        · have h7:=hli.2
          have hm1:(EO sp i).lv-1<is.length:=by omega
          rw[hisD _ hm1] at h7;simp only[X2,beq_iff_eq] at h7;rcases h7 with(h7 | h7) | h7
          · omega
          · exact absurd h7.symm (hni _ (List.getElem_mem hm1))
          · exact hpre _ hm1 (hanc _ h7 (hni _ (List.getElem_mem hm1))) j hj (by omega)
        · have h7:=b6 i hi
          rw[hfx i hi,hfi,hlv i hi] at h7;simp only[Xs,X4,X2,beq_iff_eq] at h7;rcases h7 with h7 | h7
          · omega
          · have hm1:(EO sp i).lv<is.length:=by omega
            rw[hisD _ hm1] at h7
            cases hS:S is[j] with
            | false=>rfl
            | true=>
              have h8:=hpre j hj hS _ hm1 h;have:=clo (λk=>decide (k<N)&&S k) hcl _ _ h7 (by show(decide (is[(EO sp i).lv]<N)&&S is[(EO sp i).lv])=true;rw[hSis _ hm1];exact h8);simp only[Xf,hun] at this;exact absurd this.2 (by simp)
      · simp only[hfi,XV] at hat
        refine hat u (cnt S is) (List.length_filter_le _ _) a w Z K hag' h1 (λv w' Z' hz hp hst'=>hK _ _ ⟨u,Z',?_,hagr v Z' hz,hvals v Z' u hz (λ_ _ _ _=>rfl) (λ_=>hp),hcl',hold' Z' hz v,hord⟩);rw[hcnt'];exact hst'
  · obtain⟨u,Z,h1,h2,h3,_,_,_⟩:=hI
    have hsl:(VR sp u).length=N:=by simp[VR,hsp]
    have hcnt:cnt (λ_=>true) is=is.length:=M9 (Xq _) (λ_ _ _=>rfl) (λj hj h=>by omega);rw[hcnt] at h1;refine h u a w Z (LN h2 _ _ 0 (λt o s d ht hs hd=>?_)) h1;have htN:t<N:=by have:=(List.getElem?_eq_some_iff.1 hs).1;omega
    have hs':s = { deps:=(EO sp t).deps,r:=(EO sp t).r u }:=by
      simp only[VR,Xv,hsa t htN,Option.map_some,Option.some.injEq] at hs;exact hs.symm
    subst hs';rw[X0];exact h3 t o d htN rfl (by rw[← hget t htN];exact ht) hd
theorem PW {id:Nat}{ops:List Oper}(N:Nat)(is ks0 ksw:List Nat)(sp:List Sy)(hs:List (Ux→List Ent))(hst:NE sp)(hob:JJ P n c ops.toArray Q ops sp l0 lw is hs 0 (ops.take N))(h:∀u,WL P n c ops.toArray Q (ops.drop N) (JO (λ_=>0) (ops.take N) (VR sp u) 0 l0) (hs.getD is.length (λ_=>[]) u))
  (h0:Kp ks0 l l0:=by repeat (first | exact MS | (apply KX;rfl) | (apply L3;rfl))) (hw:Kp ksw l lw:=by repeat (first | exact MS | (apply KX;rfl) | (apply L3;rfl))) (hm:P.follows .mixedOrders=true:=by kernel_rfl) (hB:W4 n ops N is (El l0) (sp.map (·.deps)) (sp.map (·.lv)) (sp.map (·.fx)) (sp.map (·.old))=true:=by kernel_rfl)
  (hsp:sp.length=N:=by rfl) (hH:∀u,hs.getD 0 (λ_=>[]) u=H:=by exact λ_=>rfl):WC P n c (.region id ops.toArray true) Q l H:=Um N is sp hs hm hB h0.one hw.one hsp hst hH hob h
theorem Lo {all rest:List Oper}{o:Oper}{i:Nat}(hr:∀{u H},DA P n c opsA Q (Ef lw (EO sp i).old (BJ all (TZ sp u) (EO sp i).deps l0)) H o ((EO sp i).r u) H)(h:JJ P n c opsA Q all sp l0 lw is hs (i+1) rest)(hne:is.findIdx? (λx=>Nat.beq x i)=none:=by rfl)(hf:(EO sp i).fx=false:=by rfl):JJ P n c opsA Q all sp l0 lw is hs i (o::rest):=by
 refine⟨?_,h⟩;unfold VJ;rw[hne];simp only[hf,Bool.false_eq_true,XV];exact λu _ _=>hr
def Sz (p:List Ent→Prop)(u:Ux):List (Ux→List Ent)→Prop
 | []=>True
 | f::r=>p (f u)∧Sz p u r
theorem Sz.at {p:List Ent→Prop}{u:Ux}:∀{hs:List (Ux→List Ent)},Sz p u hs→∀k,k<hs.length→p (hs.getD k (λ_=>[]) u)
 | [],_,k,h=>absurd h (Nat.not_lt_zero _)
 | f::r,⟨h1,h2⟩,0,_=>h1
 | f::r,⟨h1,h2⟩,k+1,h=>Sz.at h2 k (by simpa using h)
theorem WO {all rest:List Oper}{o:Oper}{i:Nat}(hr:∀{u},Sz (λH'=>DA P n c opsA Q (Ef lw (EO sp i).old (BJ all (TZ sp u) (EO sp i).deps l0)) H' o ((EO sp i).r u) H') u hs)(h:JJ P n c opsA Q all sp l0 lw is hs (i+1) rest)(hne:is.findIdx? (λx=>Nat.beq x i)=none:=by rfl)(hf:(EO sp i).fx=false:=by rfl)(hl:hs.length=is.length+1:=by rfl):JJ P n c opsA Q all sp l0 lw is hs i (o::rest):=by
 refine⟨?_,h⟩;unfold VJ;rw[hne];simp only[hf,Bool.false_eq_true,XV];exact λu k hk=>Sz.at hr k (by omega)
theorem Vj {all rest:List Oper}{o:Oper}{i:Nat}(hr:∀{u},DA P n c opsA Q (Ef lw (EO sp i).old (BJ all (TZ sp u) (EO sp i).deps l0)) (hs.getD (EO sp i).lv (λ_=>[]) u) o ((EO sp i).r u) (hs.getD (EO sp i).lv (λ_=>[]) u))(h:JJ P n c opsA Q all sp l0 lw is hs (i+1) rest)(hne:is.findIdx? (λx=>Nat.beq x i)=none:=by rfl)(hf:(EO sp i).fx=true:=by rfl):JJ P n c opsA Q all sp l0 lw is hs i (o::rest):=by
 refine⟨?_,h⟩;unfold VJ;rw[hne];simp only[hf,if_true];exact λu=>hr
theorem WS {all rest:List Oper}{o:Oper}{i:Nat}(k:Nat)(hr:∀{u},WG P n c opsA Q (Ef lw (EO sp i).old (BJ all (TZ sp u) (EO sp i).deps l0)) (hs.getD k (λ_=>[]) u) o k u (EO sp i).r (hs.getD (k+1) (λ_=>[])))(h:JJ P n c opsA Q all sp l0 lw is hs (i+1) rest)(hne:is.findIdx? (λx=>Nat.beq x i)=some k:=by rfl):JJ P n c opsA Q all sp l0 lw is hs i (o::rest):=by
 refine⟨?_,h⟩;unfold VJ;rw[hne];exact λu=>hr
theorem W3 {all:List Oper}{i:Nat}:JJ P n c opsA Q all sp l0 lw is hs i []:=trivial
end
section
variable {P : Program} {n : Nat} {c : Cx} {opsA : Array Oper} {Q : Exit → Act → World → Prop} {l : Fr} {H : List Ent} {d : Nat} {x y : Operand} {ty t e : TypeId} {pos : String} {af : Array Edge} {v : Value} {sz : Nat}
theorem Vu {k:Nat}{u:Ux}{f:FuncId}{args:List Operand}{ats:Array TypeId}{rs:List Rp}{r:Ux→Rp}{H1:Ux→List Ent}{Hin Hr:List Ent}{Φ:Rp→List Ent→Prop}(hcall:∀(as1:Array Value) (w:World),(callFunc f as1).run P w = .ok (.enter f as1) w)(hv:MV l args=some rs)
  (hp:H.Perm (Hin++Hr)) (hc:Fn P c.E f rs Hin Φ) (hΦ:∀r' H',Φ r' H'→∃u',Ag k u u'∧r'=r u'∧H'++Hr=H1 u'):WG P n c opsA Q l H { dst:=some d,op:=.call { callee:=.value (.func f),args:=args.toArray,argTypes:=ats },type:=ty,pos:=pos,after:=af,guard:=none } k u r H1:=λa w Z K ha hw hK=>by
 refine⟨by simp[Region.wanted],?_⟩;unfold Oper.wp;rw[GN rfl hcall w];refine(hc w Z _ (Hh ha hv) (hw.perm hp).enter).mono ?_;rintro e w' ⟨r',v,H',Z',rfl,hΦ',hr,hs⟩;obtain⟨u',h1,h2,h3⟩:=hΦ r' H' hΦ';subst h2;exact hK u' v w' Z' h1 hs.le hr (h3▸(hw.perm hp).call hs)
end
end Go.Proofs.YtfbmdidnlhifjaaGreatDoor.Q
namespace Go.Proofs.YtfbmdidnlhifjaaGreatDoor
open Go
end Go.Proofs.YtfbmdidnlhifjaaGreatDoor
namespace Go.Proofs.YtfbmdidnlhifjaaGreatDoor.Q
open Go Go.RowKit
set_option linter.unusedVariables false
section
variable {P : Program} {n : Nat} {c : Cx} {ops : Array Oper} {Q : Exit → Act → World → Prop} {rest : List Oper} {l : Fr} {H : List Ent} {d : Nat} {d' : Option Nat} {t kt et ty : TypeId} {pos : String} {af : Array Edge} {g : Option (Nat × Bool)} {x y u : Operand} {b i : Nat} {T : Type} {enc : T → Rp} {xs : List (Int × T)} {z : T} {zv : Value}
theorem O0.push {Z:Fz}{k:Int}{r:Rp}{v:Value}(hv:r.p Z v)(ck:Nat):∀{m:List (Int×Rp)} {es:List MapEntry},O0 Z m es→O0 Z (m++[(k,r)]) (es++[⟨.int .i64 k,v,ck⟩])
 | [],[],_=>⟨⟨rfl,hv⟩,trivial⟩
 | p::m,e::es,⟨h1,h2⟩=>⟨h1,h2.push hv ck⟩
theorem DE {k:Aq}{xs:List (Aq×T)}{v:T}(ht:P.underlying t=some (.map kt et))(hk:P.underlying kt=some .string)(hx:ev l x=some (rv (.map (some b))))(hi:H[i]? =some (.map b (AG enc xs)))(hy:ev l y=some (rS k))(hu:ev l u=some (enc v)){H':List Ent}(hH:H.set i (.map b (AG enc (mset xs k v)))=H')(h:WL P n c ops Q rest l H') :
  WL P n c ops Q ({ dst:=none,op:=.insert t x y u,type:=ty,pos:=pos,after:=af,guard:=none }::rest) l H:=by
 have:=L8 (n:=n) (c:=c) (ops:=ops) (Q:=Q) (rest:=rest) (ty:=ty) (pos:=pos) (af:=af) ht hk hx hi hy hu hH h;exact this
end
end Go.Proofs.YtfbmdidnlhifjaaGreatDoor.Q
