/-
  Texts of the proof, put together: PVa, WVa, PVb, WVb, PVc, WVc, PVd, WVd, PVe, WVe, PVf, WVf, PH, PFr, QH, QY, QU, QW, QT, QJ, QX, WFr, PM, PNa, QN, QM, QI, QV, QL, PI, QF, Q6, Q9, WNa, PNb.
-/
import Derived.Test.YtfbmdidnlhifjaaGreatDoorEK1
import Derived.Lib.Bytealg
import Derived.Lib.SmallJoins
import Derived.Laws.StructEq
import GoSem.Op.IntBits
import GoSem.Op.Shift
import Derived.Laws.Cover3
import Derived.ScopeJumps
import Derived.Laws.CopyRow
import Derived.Laws.IdiomCopy
import Derived.Laws.OwnMore
import Derived.MapKept
import Derived.Maps.RangeRun
namespace Go.Proofs.YtfbmdidnlhifjaaGreatDoor
open Go
set_option linter.unusedVariables false
structure Ab where
 fKind:Int
 fInt:Int
 fStr:Am
 fN:Int
 deriving DecidableEq,Inhabited
def Qe (s:Am)(ha:Int):Option (Stp (Int) (Out (Bool) (Unit))):=
 Bg (decide (ha<(s.length:Int))) (Bd (BL ha (s.length:Int))<|Bg (((decide ((Ln s ha)<32))||(decide (126<(Ln s ha))))) (some (.out (.ret false))) (Bd (BE .i64 (ha+1))<|some (.next (ha+1)))) (some (.out (.go ())))
def Qc :Option (Bool):=
 some true
def Mz (F:Nat)(s:Am):Option (Bool):=
 Bo (BI (λσ=>Qe s σ) F 0) (BD λν=>Qc )
def Ce (ok:Bool)(i:Int):Option (Int):=
 Bg (ok) (Bd (BE .i64 (i+1))<|some (i+1)) (some (-1))
def Rv (F:Nat)(c:Ab):Option (Bool):=
 Bd (imp (decide (c.fKind=4)) (imp (decide (c.fInt=0)) (imp (decide (c.fN=0)) ((Mz F c.fStr).isSome))))<|some ((decide (c.fKind=4))&&((decide (c.fInt=0))&&((decide (c.fN=0))&&(ov (Mz F c.fStr)))))
def Ru (F:Nat)(ha:(List Ab)→Int→Int→Option (Int))(hb:(List Ab)→Int→Int→Option (Int))(v:(List Ab))(i:Int):Option (Int):=
 Bg (((decide (i<0))||(decide ((v.length:Int)≤i)))) (some (-1)) (Bd (BL i (v.length:Int))<|Bg (decide (((Ad v i).fKind)=1)) (Bd (imp (decide (((Ad v i).fInt)=0)) (imp (decide (((Ad v i).fStr)=([]:Am))) ((Ce (decide (((Ad v i).fN)=0)) i).isSome)))<|Bd (imp (decide (((Ad v i).fInt)=0)) (imp (!(decide (((Ad v i).fStr)=([]:Am)))) ((Ce false i).isSome)))<|Bd (imp (!(decide (((Ad v i).fInt)=0))) ((Ce false i).isSome))<|some (bif decide (((Ad v i).fInt)=0) then(bif decide (((Ad v i).fStr)=([]:Am)) then(ov (Ce (decide (((Ad v i).fN)=0)) i)) else(ov (Ce false i))) else(ov (Ce false i)))) (Bg (decide (((Ad v i).fKind)=2)) (Bd (imp (decide (((Ad v i).fInt)=0)) (imp (decide (((Ad v i).fStr)=([]:Am))) ((Ce (decide (((Ad v i).fN)=0)) i).isSome)))<|Bd (imp (decide (((Ad v i).fInt)=0)) (imp (!(decide (((Ad v i).fStr)=([]:Am)))) ((Ce false i).isSome)))<|Bd (imp (!(decide (((Ad v i).fInt)=0))) (imp (decide (((Ad v i).fInt)=1)) (imp (decide (((Ad v i).fStr)=([]:Am))) ((Ce (decide (((Ad v i).fN)=0)) i).isSome))))<|Bd (imp (!(decide (((Ad v i).fInt)=0))) (imp (decide (((Ad v i).fInt)=1)) (imp (!(decide (((Ad v i).fStr)=([]:Am)))) ((Ce false i).isSome))))<|Bd (imp (!(decide (((Ad v i).fInt)=0))) (imp (!(decide (((Ad v i).fInt)=1))) ((Ce false i).isSome)))<|some (bif decide (((Ad v i).fInt)=0) then(bif decide (((Ad v i).fStr)=([]:Am)) then(ov (Ce (decide (((Ad v i).fN)=0)) i)) else(ov (Ce false i))) else(bif decide (((Ad v i).fInt)=1) then(bif decide (((Ad v i).fStr)=([]:Am)) then(ov (Ce (decide (((Ad v i).fN)=0)) i)) else(ov (Ce false i))) else(ov (Ce false i))))) (Bg (decide (((Ad v i).fKind)=3)) (Bd (imp (decide (((Ad v i).fStr)=([]:Am))) ((Ce (decide (((Ad v i).fN)=0)) i).isSome))<|Bd (imp (!(decide (((Ad v i).fStr)=([]:Am)))) ((Ce false i).isSome))<|some (bif decide (((Ad v i).fStr)=([]:Am)) then(ov (Ce (decide (((Ad v i).fN)=0)) i)) else(ov (Ce false i)))) (Bg (decide (((Ad v i).fKind)=4)) (Bo (Rv F (Ad v i)) λhd=>Bo (Ce hd i) λhe=>some he) (Bg (((decide (((Ad v i).fKind)=5))&&((decide (((Ad v i).fInt)=0))&&((decide (((Ad v i).fStr)=([]:Am)))&&(decide (0≤((Ad v i).fN))))))) (Bd (BE .i64 (i+1))<|Bo (ha v (i+1) ((Ad v i).fN)) λhf=>some hf) (Bg (((decide (((Ad v i).fKind)=6))&&((decide (((Ad v i).fInt)=0))&&((decide (((Ad v i).fStr)=([]:Am)))&&(decide (0≤((Ad v i).fN))))))) (Bd (BE .i64 (i+1))<|Bo (hb v (i+1) ((Ad v i).fN)) λhg=>some hg) (some (-1))))))))
def CV (v:(List Ab))(n:Int)(he:(List Ab)→Int→Option (Int))(hb:Int)(ha:Int):Option (Stp (Int×Int) (Out (Int) (Int))):=
 Bg (decide (ha<n)) (Bo (he v hb) λhd=>Bg (decide (hd<0)) (some (.out (.ret (-1)))) (Bd (BE .i64 (ha+1))<|some (.next (hd,ha+1)))) (some (.out (.go hb)))
def G1 (ha:Int):Option (Int):=
 some ha
def K7 (F:Nat)(ha:(List Ab)→Int→Option (Int))(v:(List Ab))(i:Int)(n:Int):Option (Int):=
 Bo (BI (λσ=>CV v n ha σ.1 σ.2) F (i,0)) (BD λν=>G1 ν)
def Ds (F:Nat)(v:(List Ab))(n:Int)(hf:(List Ab)→Int→Option (Int))(ha:Int)(hd:Am)(hb:Int):Option (Stp (Int×Am×Int) (Out (Int) (Int))):=
 Bg (decide (hb<n)) (Bd (imp (!(decide ((v.length:Int)≤ha))) (BL ha (v.length:Int)))<|Bd (imp (!(decide ((v.length:Int)≤ha))) ((Rv F (Ad v ha)).isSome))<|Bg (((decide ((v.length:Int)≤ha))||((!(ov (Rv F (Ad v ha))))||((decide (0<hb))&&(BJ ((Ad v ha).fStr) hd||decide (((Ad v ha).fStr)=hd)))))) (some (.out (.ret (-1)))) (Bd (BL ha (v.length:Int))<|Bd (BE .i64 (ha+1))<|Bo (hf v (ha+1)) λhe=>Bg (decide (he<0)) (some (.out (.ret (-1)))) (Bd (BE .i64 (hb+1))<|some (.next (he,(Ad v ha).fStr,hb+1))))) (some (.out (.go ha)))
def Jn (ha:Int):Option (Int):=
 some ha
def Pj (F:Nat)(ha:(List Ab)→Int→Option (Int))(v:(List Ab))(i:Int)(n:Int):Option (Int):=
 Bo (BI (λσ=>Ds F v n ha σ.1 σ.2.1 σ.2.2) F (i,([]:Am),0)) (BD λν=>Jn ν)
mutual
def DG:Nat→(List Ab)→Int→Option (Int)
 | 0,_,_=>none
 | nn+1,v,i=>Ru nn (LI nn) (Rt nn) v i
def LI:Nat→(List Ab)→Int→Int→Option (Int)
 | 0,_,_,_=>none
 | nn+1,v,i,n=>K7 nn (DG nn) v i n
def Rt:Nat→(List Ab)→Int→Int→Option (Int)
 | 0,_,_,_=>none
 | nn+1,v,i,n=>Pj nn (DG nn) v i n
end
def M0 (F:Nat)(v:(List Ab)):Option (Bool):=
 Bd (imp (decide (0<(v.length:Int))) ((DG F v 0).isSome))<|some ((decide (0<(v.length:Int)))&&(decide ((ov (DG F v 0))=(v.length:Int))))
def C2 (F:Nat)(v:(List Ab))(i:Int)(he:(List Ab)→Int→Option (Int))(hd:Int)(hb:Int)(ha:Int):Option (Stp (Int×Int×Int) (Out (Int) (Int))):=
 Bg (decide (ha<((Ad v i).fN))) (Bg (decide (((Ad v i).fKind)=6)) (Bd (BE .i64 (hb+1))<|Bo (he v (hb+1)) λhf=>Bg (decide (hd<hf)) (Bo (DG F v (hb+1)) λhh=>Bd (BE .i64 (ha+1))<|some (.next (hf,hh,ha+1))) (Bo (DG F v (hb+1)) λhi=>Bd (BE .i64 (ha+1))<|some (.next (hd,hi,ha+1)))) (Bo (he v hb) λhg=>Bg (decide (hd<hg)) (Bo (DG F v hb) λhj=>Bd (BE .i64 (ha+1))<|some (.next (hg,hj,ha+1))) (Bo (DG F v hb) λhk=>Bd (BE .i64 (ha+1))<|some (.next (hd,hk,ha+1))))) (some (.out (.go hd)))
def E6 (ha:Int):Option (Int):=
 Bd (BE .i64 (ha+1))<|some (ha+1)
def IG (F:Nat)(ha:(List Ab)→Int→Option (Int))(v:(List Ab))(i:Int):Option (Int):=
 Bd (BL i (v.length:Int))<|Bg (((!decide (((Ad v i).fKind)=5))&&(!decide (((Ad v i).fKind)=6)))) (some 1) (Bd (BE .i64 (i+1))<|Bo (BI (λσ=>C2 F v i ha σ.1 σ.2.1 σ.2.2) F (0,i+1,0)) (BD λν=>E6 ν))
def D7:Nat→(List Ab)→Int→Option (Int)
 | 0,_,_=>none
 | nn+1,v,i=>IG nn (D7 nn) v i
def CM (s:Am)(hb:Am)(ha:Int):Option (Stp (Am×Int) (Out (Am) (Am))):=
 Bg (decide (ha<(s.length:Int))) (Bd (BL ha (s.length:Int))<|Bg (((decide ((Ln s ha)=34))||(decide ((Ln s ha)=92)))) (Bd (BE .i64 ((hb.length:Int)+(([92]:Am).length:Int)))<|Bd (BE .i64 (ha+1))<|Bd (QO ha (ha+1))<|Bd (QO (ha+1) (s.length:Int))<|Bd (BE .i64 (((hb++([92]:Am)).length:Int)+((List.take (Int.toNat (ha+1)-Int.toNat ha) (List.drop (Int.toNat ha) s)).length:Int)))<|some (.next ((hb++([92]:Am))++(List.take (Int.toNat (ha+1)-Int.toNat ha) (List.drop (Int.toNat ha) s)),ha+1))) (Bd (BE .i64 (ha+1))<|Bd (QO ha (ha+1))<|Bd (QO (ha+1) (s.length:Int))<|Bd (BE .i64 ((hb.length:Int)+((List.take (Int.toNat (ha+1)-Int.toNat ha) (List.drop (Int.toNat ha) s)).length:Int)))<|some (.next (hb++(List.take (Int.toNat (ha+1)-Int.toNat ha) (List.drop (Int.toNat ha) s)),ha+1)))) (some (.out (.go hb)))
def DN (ha:Am):Option (Am):=
 Bd (BE .i64 ((ha.length:Int)+(([34]:Am).length:Int)))<|some (ha++([34]:Am))
def IF (F:Nat)(s:Am):Option (Am):=
 Bo (BI (λσ=>CM s σ.1 σ.2) F (([34]:Am),0)) (BD λν=>DN ν)
def Ea (F:Nat)(v:(List Ab))(i:Int)(he:(List Ab)→Int→Option (Am))(ha:Am)(hb:Int)(hd:Int):Option (Stp (Am×Int×Int) (Out (Am) (Am))):=
 Bg (decide (hd<((Ad v i).fN))) (Bg (decide (0<hd)) (Bd (BE .i64 ((ha.length:Int)+(([44]:Am).length:Int)))<|Bg (decide (((Ad v i).fKind)=6)) (Bd (BL hb (v.length:Int))<|Bo (IF F ((Ad v hb).fStr)) λhf=>Bd (BE .i64 (((ha++([44]:Am)).length:Int)+(hf.length:Int)))<|Bd (BE .i64 ((((ha++([44]:Am))++hf).length:Int)+(([58]:Am).length:Int)))<|Bd (BE .i64 (hb+1))<|Bo (he v (hb+1)) λhh=>Bd (BE .i64 (((((ha++([44]:Am))++hf)++([58]:Am)).length:Int)+(hh.length:Int)))<|Bo (DG F v (hb+1)) λhl=>Bd (BE .i64 (hd+1))<|some (.next ((((ha++([44]:Am))++hf)++([58]:Am))++hh,hl,hd+1))) (Bo (he v hb) λhi=>Bd (BE .i64 (((ha++([44]:Am)).length:Int)+(hi.length:Int)))<|Bo (DG F v hb) λhm=>Bd (BE .i64 (hd+1))<|some (.next ((ha++([44]:Am))++hi,hm,hd+1)))) (Bg (decide (((Ad v i).fKind)=6)) (Bd (BL hb (v.length:Int))<|Bo (IF F ((Ad v hb).fStr)) λhg=>Bd (BE .i64 ((ha.length:Int)+(hg.length:Int)))<|Bd (BE .i64 (((ha++hg).length:Int)+(([58]:Am).length:Int)))<|Bd (BE .i64 (hb+1))<|Bo (he v (hb+1)) λhj=>Bd (BE .i64 ((((ha++hg)++([58]:Am)).length:Int)+(hj.length:Int)))<|Bo (DG F v (hb+1)) λhn=>Bd (BE .i64 (hd+1))<|some (.next (((ha++hg)++([58]:Am))++hj,hn,hd+1))) (Bo (he v hb) λhk=>Bd (BE .i64 ((ha.length:Int)+(hk.length:Int)))<|Bo (DG F v hb) λho=>Bd (BE .i64 (hd+1))<|some (.next (ha++hk,ho,hd+1))))) (some (.out (.go ha)))
def IC (v:(List Ab))(i:Int)(ha:Am):Option (Am):=
 Bg (decide (((Ad v i).fKind)=6)) (Bd (BE .i64 ((([123]:Am).length:Int)+(ha.length:Int)))<|Bd (BE .i64 (((([123]:Am)++ha).length:Int)+(([125]:Am).length:Int)))<|some ((([123]:Am)++ha)++([125]:Am))) (Bd (BE .i64 ((([91]:Am).length:Int)+(ha.length:Int)))<|Bd (BE .i64 (((([91]:Am)++ha).length:Int)+(([93]:Am).length:Int)))<|some ((([91]:Am)++ha)++([93]:Am)))
def Mw (F:Nat)(ha:(List Ab)→Int→Option (Am))(v:(List Ab))(i:Int):Option (Am):=
 Bd (BL i (v.length:Int))<|Bg (decide (((Ad v i).fKind)=1)) (some ([110,117,108,108]:Am)) (Bg (decide (((Ad v i).fKind)=2)) (Bg (decide (((Ad v i).fInt)=1)) (some ([116,114,117,101]:Am)) (some ([102,97,108,115,101]:Am))) (Bg (decide (((Ad v i).fKind)=3)) (Bd (BE .i64 ((Ad v i).fInt))<|some (Lib.itoa ((Ad v i).fInt))) (Bg (decide (((Ad v i).fKind)=4)) (Bo (IF F ((Ad v i).fStr)) λhb=>some hb) (Bd (BE .i64 (i+1))<|Bo (BI (λσ=>Ea F v i ha σ.1 σ.2.1 σ.2.2) F (([]:Am),i+1,0)) (BD λν=>IC v i ν)))))
def He:Nat→(List Ab)→Int→Option (Am)
 | 0,_,_=>none
 | nn+1,v,i=>Mw nn (He nn) v i
def Ev (v:(List Ab))(ha:Int):Option (Stp (Int) (Out (Int) (Unit))):=
 Bg (decide (ha<(v.length:Int))) (Bd (BL ha (v.length:Int))<|Bg (decide (200<(((Ad v ha).fStr).length:Int))) (some (.out (.ret 3))) (Bd (BE .i64 (ha+1))<|some (.next (ha+1)))) (some (.out (.go ())))
def LJ (F:Nat)(v:(List Ab)):Option (Int):=
 Bo (He F v 0) λha=>Bg (decide (4000<(ha.length:Int))) (some 3) (some 0)
def Ew (v:(List Ab))(ha:Int):Option (Stp (Int) (Out (Int) (Unit))):=
 Bg (decide (ha<(v.length:Int))) (Bd (BL ha (v.length:Int))<|Bg (((decide (((Ad v ha).fKind)=3))&&((decide (((Ad v ha).fInt)<(-1000000000000)))||(decide (1000000000000<((Ad v ha).fInt)))))) (some (.out (.ret 2))) (Bd (BE .i64 (ha+1))<|some (.next (ha+1)))) (some (.out (.go ())))
def LK (F:Nat)(v:(List Ab)):Option (Int):=
 Bd (imp (!(decide (200<(v.length:Int)))) ((D7 F v 0).isSome))<|Bg (((decide (200<(v.length:Int)))||(decide (8<(ov (D7 F v 0)))))) (some 3) (Bo (BI (λσ=>Ev v σ) F 0) (BD λν=>LJ F v ))
def Jp (F:Nat)(v:(List Ab)):Option (Int):=
 Bo (M0 F v) λr1=>Bg (!r1) (some 1) (Bo (BI (λσ=>Ew v σ) F 0) (BD λν=>LK F v ))
end Go.Proofs.YtfbmdidnlhifjaaGreatDoor
namespace Go.Proofs.YtfbmdidnlhifjaaGreatDoor.Q
open Go Go.RowKit
set_option linter.unusedVariables false
set_option linter.unusedSimpArgs false
set_option maxRecDepth 100000
set_option maxHeartbeats 4000000
@[reducible] def Ac (x:Ab):List Rp:=[Ak x.fKind,Ak x.fInt,rS x.fStr,Ak x.fN]
theorem BR (x:Ab):(Ac x).length=4:=rfl
theorem L5 (x:Ab):(Ac x).all (·.one)=true:=rfl
end Go.Proofs.YtfbmdidnlhifjaaGreatDoor.Q
namespace Go.Proofs.YtfbmdidnlhifjaaGreatDoor
open Go
set_option linter.unusedVariables false
structure Aw where
 fPairs:Bool
 fLeft:Int
 fKey:Bool
 fLast:Am
 fStarted:Bool
 deriving DecidableEq,Inhabited
structure A4 where
 fDepth:Int
 fBytes:Int
 fOutside:Bool
 fLong:Bool
 deriving DecidableEq,Inhabited
def Bn (n:Int):Option (Bool):=
 some ((decide ((-1000000000000)≤n))&&(decide (n≤1000000000000)))
def Gl (s:Am)(ha:Int):Option (Stp (Int) (Out (Bool) (Unit))):=
 Bg (decide (ha<(s.length:Int))) (Bd (BL ha (s.length:Int))<|Bg (((decide ((Ln s ha)<32))||(decide (126<(Ln s ha))))) (some (.out (.ret false))) (Bd (BE .i64 (ha+1))<|some (.next (ha+1)))) (some (.out (.go ())))
def Gk :Option (Bool):=
 some true
def I2 (F:Nat)(s:Am):Option (Bool):=
 Bo (BI (λσ=>Gl s σ) F 0) (BD λν=>Gk )
def H4 (s:Am):Option (Int):=
 Bd (BE .i64 ((s.length:Int)+2))<|Bd (BE .i64 (((s.length:Int)+2)+(Lib.countByte s 34:Int)))<|Bd (BE .i64 ((((s.length:Int)+2)+(Lib.countByte s 34:Int))+(Lib.countByte s 92:Int)))<|some ((((s.length:Int)+2)+(Lib.countByte s 34:Int))+(Lib.countByte s 92:Int))
def K1 (F:Nat)(c:Ab):Option (Bool):=
 Bg (decide (c.fKind=1)) (some ((decide (c.fInt=0))&&((decide (c.fStr=([]:Am)))&&(decide (c.fN=0))))) (Bg (decide (c.fKind=2)) (some (bif decide (c.fInt=0) then((decide (c.fStr=([]:Am)))&&(decide (c.fN=0))) else((decide (c.fInt=1))&&((decide (c.fStr=([]:Am)))&&(decide (c.fN=0)))))) (Bg (decide (c.fKind=3)) (some ((decide (c.fStr=([]:Am)))&&(decide (c.fN=0)))) (Bg (decide (c.fKind=4)) (Bd (imp (decide (c.fInt=0)) (imp (decide (c.fN=0)) ((I2 F c.fStr).isSome)))<|some ((decide (c.fInt=0))&&((decide (c.fN=0))&&(ov (I2 F c.fStr))))) (Bg (decide (c.fKind=5)) (some ((decide (c.fInt=0))&&((decide (c.fStr=([]:Am)))&&(decide (0≤c.fN))))) (Bg (decide (c.fKind=6)) (some ((decide (c.fInt=0))&&((decide (c.fStr=([]:Am)))&&(decide (0≤c.fN))))) (some false))))))
def Nm (c:Ab):Option (Int):=
 Bg (decide (c.fKind=1)) (some 4) (Bg (decide (c.fKind=2)) (some (IntKind.wrap .i64 (5-c.fInt))) (Bg (decide (c.fKind=3)) (Bd (BE .i64 c.fInt)<|some ((Lib.itoa c.fInt).length:Int)) (Bg (decide (c.fKind=4)) (Bo (H4 c.fStr) λha=>some ha) (some (IntKind.wrap .i64 (2+(max 0 (IntKind.wrap .i64 (c.fN-1)))))))))
def CI (ha:(List Aw)):Option (Stp ((List Aw)) (Out ((List Aw)) ((List Aw)))):=
 Bg (decide (0<(ha.length:Int))) (Bd (BE .i64 ((ha.length:Int)-1))<|Bd (BL ((ha.length:Int)-1) (ha.length:Int))<|Bd (BE .i64 (((Ad ha ((ha.length:Int)-1)).fLeft)-1))<|Oj (List.set ha (Int.toNat ((ha.length:Int)-1)) (Aw.mk ((Ad ha ((ha.length:Int)-1)).fPairs) (((Ad ha ((ha.length:Int)-1)).fLeft)-1) ((Ad ha ((ha.length:Int)-1)).fKey) ((Ad ha ((ha.length:Int)-1)).fLast) ((Ad ha ((ha.length:Int)-1)).fStarted))) λhb=>Bg (decide (0<((Ad hb ((ha.length:Int)-1)).fLeft))) (Oj (List.set hb (Int.toNat ((ha.length:Int)-1)) (Aw.mk ((Ad hb ((ha.length:Int)-1)).fPairs) ((Ad hb ((ha.length:Int)-1)).fLeft) ((Ad hb ((ha.length:Int)-1)).fPairs) ((Ad hb ((ha.length:Int)-1)).fLast) ((Ad hb ((ha.length:Int)-1)).fStarted))) λhd=>some (.out (.ret hd))) (Bd (BE .i64 ((hb.length:Int)-1))<|Bd (QO ((hb.length:Int)-1) (hb.length:Int))<|some (.next (List.take (Int.toNat ((hb.length:Int)-1)) hb)))) (some (.out (.go ha)))
def Dm (ha:(List Aw)):Option ((List Aw)):=
 some ha
def I5 (F:Nat)(stack:(List Aw)):Option ((List Aw)):=
 Bo (BI (λσ=>CI σ) F stack) (BD λν=>Dm ν)
def Db (ha:Int)(hb:(List Aw))(hd:A4):Option (Stp ((List Aw)×Int×A4) (Out (Int×A4×Bool) (A4))):=
 Bd (BE .i64 (ha+1))<|some (.next (hb,ha+1,hd))
def CH (F:Nat)(v:(List Ab))(ha:(List Aw))(hb:Int)(hd:A4):Option (Stp ((List Aw)×Int×A4) (Out (Int×A4×Bool) (A4))):=
 Bg (decide (hb<(v.length:Int))) (Bd (BL hb (v.length:Int))<|Bo (K1 F (Ad v hb)) λhj=>Bg (!hj) (some (.out (.ret (0,hd,false)))) (Bd (imp (decide (0<(ha.length:Int))) (BE .i64 ((ha.length:Int)-1)))<|Bd (imp (decide (0<(ha.length:Int))) (BL ((ha.length:Int)-1) (ha.length:Int)))<|Bg (((decide (0<(ha.length:Int)))&&((Ad ha ((ha.length:Int)-1)).fKey))) (Bd (BE .i64 ((ha.length:Int)-1))<|Bd (BL ((ha.length:Int)-1) (ha.length:Int))<|Bg (((!decide (((Ad v hb).fKind)=4))||(((Ad ha ((ha.length:Int)-1)).fStarted)&&(BJ ((Ad v hb).fStr) ((Ad ha ((ha.length:Int)-1)).fLast)||decide (((Ad v hb).fStr)=((Ad ha ((ha.length:Int)-1)).fLast)))))) (some (.out (.ret (0,hd,false)))) (Oj (List.set ha (Int.toNat ((ha.length:Int)-1)) (Aw.mk ((Ad ha ((ha.length:Int)-1)).fPairs) ((Ad ha ((ha.length:Int)-1)).fLeft) ((Ad ha ((ha.length:Int)-1)).fKey) ((Ad v hb).fStr) ((Ad ha ((ha.length:Int)-1)).fStarted))) λhe=>Oj (List.set he (Int.toNat ((ha.length:Int)-1)) (Aw.mk ((Ad he ((ha.length:Int)-1)).fPairs) ((Ad he ((ha.length:Int)-1)).fLeft) ((Ad he ((ha.length:Int)-1)).fKey) ((Ad he ((ha.length:Int)-1)).fLast) true)) λhf=>Oj (List.set hf (Int.toNat ((ha.length:Int)-1)) (Aw.mk ((Ad hf ((ha.length:Int)-1)).fPairs) ((Ad hf ((ha.length:Int)-1)).fLeft) false ((Ad hf ((ha.length:Int)-1)).fLast) ((Ad hf ((ha.length:Int)-1)).fStarted))) λhk=>Bo (H4 ((Ad v hb).fStr)) λhh=>Bd (BE .i64 (hh+1))<|Db hb hk (A4.mk hd.fDepth (IntKind.wrap .i64 (hd.fBytes+(hh+1))) hd.fOutside (hd.fLong||(decide (200<(((Ad v hb).fStr).length:Int))))))) (Bd (BE .i64 ((ha.length:Int)+1))<|Bo (Nm (Ad v hb)) λhg=>Bd (imp (!hd.fOutside) (imp (decide (((Ad v hb).fKind)=3)) ((Bn ((Ad v hb).fInt)).isSome)))<|Bg (decide (0<((Ad v hb).fN))) (Bg (decide ((v.length:Int)<((Ad v hb).fN))) (some (.out (.ret (0,(A4.mk (max hd.fDepth ((ha.length:Int)+1)) (IntKind.wrap .i64 (hd.fBytes+hg)) (hd.fOutside||((decide (((Ad v hb).fKind)=3))&&(!(ov (Bn ((Ad v hb).fInt)))))) (hd.fLong||(decide (200<(((Ad v hb).fStr).length:Int))))),false)))) (Bd (L4 48 (ha.length+([(Aw.mk (decide (((Ad v hb).fKind)=6)) ((Ad v hb).fN) (decide (((Ad v hb).fKind)=6)) ([]:Am) false)]:List Aw).length))<|Db hb (ha++([(Aw.mk (decide (((Ad v hb).fKind)=6)) ((Ad v hb).fN) (decide (((Ad v hb).fKind)=6)) ([]:Am) false)]:List Aw)) (A4.mk (max hd.fDepth ((ha.length:Int)+1)) (IntKind.wrap .i64 (hd.fBytes+hg)) (hd.fOutside||((decide (((Ad v hb).fKind)=3))&&(!(ov (Bn ((Ad v hb).fInt)))))) (hd.fLong||(decide (200<(((Ad v hb).fStr).length:Int))))))) (Bo (I5 F ha) λhi=>Bg (decide ((hi.length:Int)=0)) (Bd (BE .i64 (hb+1))<|some (.out (.ret (hb+1,(A4.mk (max hd.fDepth ((ha.length:Int)+1)) (IntKind.wrap .i64 (hd.fBytes+hg)) (hd.fOutside||((decide (((Ad v hb).fKind)=3))&&(!(ov (Bn ((Ad v hb).fInt)))))) (hd.fLong||(decide (200<(((Ad v hb).fStr).length:Int))))),true)))) (Db hb hi (A4.mk (max hd.fDepth ((ha.length:Int)+1)) (IntKind.wrap .i64 (hd.fBytes+hg)) (hd.fOutside||((decide (((Ad v hb).fKind)=3))&&(!(ov (Bn ((Ad v hb).fInt)))))) (hd.fLong||(decide (200<(((Ad v hb).fStr).length:Int)))))))))) (some (.out (.go hd)))
def I3 (ha:A4):Option (Int×A4×Bool):=
 some (0,ha,false)
def I4 (F:Nat)(v:(List Ab)):Option (Int×A4×Bool):=
 Bo (BI (λσ=>CH F v σ.1 σ.2.1 σ.2.2) F (([]:List Aw),0,(A4.mk 0 0 false false))) (BD λν=>I3 ν)
def Jj (F:Nat)(v:(List Ab)):Option (Int):=
 Bo (I4 F v) λr1=>Bg (((!r1.2.2)||(!decide (r1.1=(v.length:Int))))) (some 1) (Bg (r1.2.1.fOutside) (some 2) (Bg ((r1.2.1.fLong||((decide (200<(v.length:Int)))||((decide (8<r1.2.1.fDepth))||(decide (4000<r1.2.1.fBytes)))))) (some 3) (some 0)))
def LA :Option ((List Ab)):=
 some ([(Ab.mk 1 0 ([]:Am) 0)]:List Ab)
def Pf (b:Bool):Option ((List Ab)):=
 Bg (b) (some ([(Ab.mk 2 1 ([]:Am) 0)]:List Ab)) (some ([(Ab.mk 2 0 ([]:Am) 0)]:List Ab))
end Go.Proofs.YtfbmdidnlhifjaaGreatDoor
namespace Go.Proofs.YtfbmdidnlhifjaaGreatDoor.Q
open Go Go.RowKit
set_option linter.unusedVariables false
set_option linter.unusedSimpArgs false
set_option maxRecDepth 100000
set_option maxHeartbeats 4000000
@[reducible] def Av (x:Aw):List Rp:=[rB x.fPairs,Ak x.fLeft,rB x.fKey,rS x.fLast,rB x.fStarted]
theorem GO (x:Aw):(Av x).length=5:=rfl
theorem Ka (x:Aw):(Av x).all (·.one)=true:=rfl
@[reducible] def AO (x:A4):List Rp:=[Ak x.fDepth,Ak x.fBytes,rB x.fOutside,rB x.fLong]
theorem Tc:∃inf,Tryz.prog.info? 120=some inf∧inf.zero=some (.agg #[(.bool false),(.int .i64 0),(.bool false),(.string ⟨#[]⟩),(.bool false)])∧inf.size=5∧inf.bytes=48:=by
  have key:(Tryz.prog.info? 120).map (λi=>(i.zero,i.size,i.bytes))=some (some (.agg #[(.bool false),(.int .i64 0),(.bool false),(.string ⟨#[]⟩),(.bool false)]),5,48):=by kernel_rfl
  obtain⟨inf,h1,h2⟩:=Option.map_eq_some_iff.1 key;simp only[Prod.mk.injEq] at h2;exact⟨inf,h1,h2.1,h2.2.1,h2.2.2⟩
theorem PF (parts:List (Nat×Value)):Tryz.prog.built 63 parts=Instr.fill (λi=>(#[(0,1),(1,1),(2,1),(3,1)]:Array (Nat×Nat))[i]?) #[(.int .i64 0),(.int .i64 0),(.string ⟨#[]⟩),(.int .i64 0)] parts:=by kernel_rfl
theorem JK {n:Nat}{c:Cx}{l:Fr}{H:List Ent}{d:Option Nat}{ty:TypeId}{pos:String}{af:Array Edge}{g:Option (Nat×Bool)}{x0:Operand}{r0:Rp}(h0:ev l x0=some r0)(u0:r0.one=true):Bp Tryz.prog n c l H { dst:=d,op:=.build 63 #[(0,x0)],type:=ty,pos:=pos,after:=af,guard:=g } (Bb [r0,Ak 0,rS ([]:Am),Ak 0]):=λa w Z ha _=>by
  have p0:=ha.ev h0;have c0:=By (r0.hone u0 Z _ p0);have hb:Tryz.prog.built 63 [(0,a.eval x0)]=some #[a.eval x0,(.int .i64 0),(.string ⟨#[]⟩),(.int .i64 0)]:=by
    rw[PF];generalize a.eval x0=v0 at *;simp[Instr.fill,c0]
  refine⟨.agg #[a.eval x0,(.int .i64 0),(.string ⟨#[]⟩),(.int .i64 0)],⟨[a.eval x0,(.int .i64 0),(.string ⟨#[]⟩),(.int .i64 0)],rfl,p0,rfl,rfl,rfl,trivial⟩,?_⟩;have:=run_build w 63 #[(0,a.eval x0)] _ (by simpa using hb);simp[execOp,this]
theorem So (parts:List (Nat×Value)):Tryz.prog.built 120 parts=Instr.fill (λi=>(#[(0,1),(1,1),(2,1),(3,1),(4,1)]:Array (Nat×Nat))[i]?) #[(.bool false),(.int .i64 0),(.bool false),(.string ⟨#[]⟩),(.bool false)] parts:=by kernel_rfl
theorem Jw {n:Nat}{c:Cx}{l:Fr}{H:List Ent}{d:Option Nat}{ty:TypeId}{pos:String}{af:Array Edge}{g:Option (Nat×Bool)}{x0:Operand}{r0:Rp}(h0:ev l x0=some r0)(u0:r0.one=true){x1:Operand}{r1:Rp}(h1:ev l x1=some r1)(u1:r1.one=true){x2:Operand}{r2:Rp}(h2:ev l x2=some r2)(u2:r2.one=true):Bp Tryz.prog n c l H { dst:=d,op:=.build 120 #[(0,x0),(1,x1),(2,x2)],type:=ty,pos:=pos,after:=af,guard:=g } (Bb [r0,r1,r2,rS ([]:Am),rB false]):=λa w Z ha _=>by
  have p0:=ha.ev h0;have c0:=By (r0.hone u0 Z _ p0);have p1:=ha.ev h1;have c1:=By (r1.hone u1 Z _ p1);have p2:=ha.ev h2;have c2:=By (r2.hone u2 Z _ p2);have hb:Tryz.prog.built 120 [(0,a.eval x0),(1,a.eval x1),(2,a.eval x2)]=some #[a.eval x0,a.eval x1,a.eval x2,(.string ⟨#[]⟩),(.bool false)]:=by
    rw[So];generalize a.eval x0=v0 at *;generalize a.eval x1=v1 at *;generalize a.eval x2=v2 at *;simp[Instr.fill,c0,c1,c2]
  refine⟨.agg #[a.eval x0,a.eval x1,a.eval x2,(.string ⟨#[]⟩),(.bool false)],⟨[a.eval x0,a.eval x1,a.eval x2,(.string ⟨#[]⟩),(.bool false)],rfl,p0,p1,p2,rfl,rfl,trivial⟩,?_⟩;have:=run_build w 120 #[(0,a.eval x0),(1,a.eval x1),(2,a.eval x2)] _ (by simpa using hb);simp[execOp,this]
theorem KF (n:Int)(r:Bool)(h:Bn n=some r):Fn Tryz.prog GE 79 [Ak n] [] (λR H=>R=rB r∧H=[]):=by
 refine enter (n:=9) Tryz.func79 Aa Tryz.ntmps79 Aa (λw Z=>?_);unfold Bn at h;refine As (wa Aa (A3 (Bc [(2,rB ((decide ((-1000000000000)≤n))&&(decide (n≤1000000000000))))] [] ?_ ?_)))
 ·refine AD (wm Aa (wv (OC Aa Aa) (wm Aa (Be (decide ((-1000000000000)≤n)) (λc1=>?_) (λc1=>?_)))))
  ·refine wo c1 (wm Aa (wo c1 (wv (OC Aa Aa) (GW Aa c1 Aa (wa Aa (A5 ?_))))));exact Dq c1
  ·refine wf c1 (wf c1 (wv (r:=rB false) (AC Aa c1 Aa) (wa Aa (A5 ?_))));exact Dq c1
 refine A8 ?_;obtain rfl:=A9 h;exact A7 (Cd Tryz.results79 (AX Aa)) sN ⟨Aa,Aa⟩
theorem SC (F:Nat)(s:Am)(r:Bool)(h:I2 F s=some r):Fn Tryz.prog GE 92 [rS s] [] (λR H=>R=rB r∧H=[]):=by
 refine enter (n:=20) Tryz.func92 Aa Tryz.ntmps92 Aa (λw Z=>?_);unfold I2 at h;refine As (wa Aa (A3 (A1 (As (wm Aa (wv (Dg GV Aa) (wv (r:=Ak 0) (Ap Aa) (A3 (Ba (ob h λhi hj hg=>BN (S:=Nat×(Int)×(Unit)) (V:=(Unit)×(Unit)) 0 (λσ=>BI (λσ=>Gl s σ) σ.1 σ.2.1=some hi) (λσ=>[(0,rS s),(5,Ak (s.length:Int)),(6,Ak σ.2.1)]) (λσ=>[]) (λσ=>σ.1) (F,0,()) hj (AZ.c Aa (AZ.c Aa (AZ.c Aa AZ.nil))) sN (λσ=>Gk =some r) (λσ=>[]) (λσ=>[]) ?_ ?_))))))))))
 ·rintro⟨hz,hb,⟨⟩⟩ hk;refine C7 (l':=[(0,rS s),(5,Ak (s.length:Int)),(6,Ak hb)]) (H':=[]) Aa Aa ?_;obtain⟨hl,rfl,t37,hd,hf⟩:=DI hk;replace hd:Gl s hb=some t37:=hd;unfold Gl at hd;refine As (wv (EN Aa Aa) (A3 (A1 (cz hd Aa (λhm hn=>?_) (λhm ho=>?_)))))
  ·refine AG (Bf (A1 (Ba (As (wm Aa (wa Aa (A3 (ck hn λhh hp=>Bc [(0,rS s),(5,Ak (s.length:Int)),(6,Ak hb),(18,rB ((decide ((Ln s hb)<32))||(decide (126<(Ln s hb)))))] [] ?_ ?_))))))))
   ·refine AD (wm Aa (wm Aa (wv (Jv GV Aa Aa hh) (wv (EN Aa Aa) (wm Aa (Be (decide ((Ln s hb)<32)) (λha=>?_) (λha=>?_)))))))
    ·refine wf ha (wf ha (wf ha (wf ha (wv (r:=rB true) (A6 Aa ha Aa) (A5 ?_)))));exact Dq ha
    ·refine wo ha (wm Aa (wo ha (wm Aa (wo ha (wv (Jv GV Aa Aa hh) (wo ha (wv (Gc Aa Aa) (Kw Aa ha Aa (A5 ?_)))))))));exact Dq ha
   refine cz hp Aa (λhq hr=>?_) (λhq hs=>?_)
   ·refine As (wa Aa (A3 (A8 (AQ (An (An (B5 ?_)))))));have ht:=Cl hr hf hg;refine AQ (An ?_);obtain rfl:=A9 ht;exact A7 (Cd Tryz.results92 (AX Aa)) sN ⟨Aa,Aa⟩
   ·refine AG (Bi (Bf (AD (ck hs λhu hw=>wv (Cy Aa Aa hu) (wm Aa (A5 ?_))))));have hx:=BO hw hf;exact AL (AW (hl,hb+1,()) ⟨hx,Vy _⟩ (AZ.c Aa (AZ.c Aa (AZ.c Aa AZ.nil))) sN)
  ·refine BM (AI ?_);have hy:=CC ho hf hg;exact AI (B1 (AW ((),()) hy AZ.nil sN))
 ·rintro⟨⟨⟩,⟨⟩⟩ he;refine DE (l':=[]) (H':=[]) Aa Aa ?_;replace he:Gk =some r:=he;unfold Gk at he;refine Bw (Bf (As (wa Aa (A3 (A8 ?_)))));obtain rfl:=A9 he;exact A7 (Cd Tryz.results92 (AX Aa)) sN ⟨Aa,Aa⟩
theorem L9 (s:Am)(r:Int)(h:H4 s=some r):Fn Tryz.prog GE 77 [rS s] [] (λR H=>R=Ak r∧H=[]):=by
 refine enter (n:=12) Tryz.func77 Aa Tryz.ntmps77 Aa (λw Z=>?_);unfold H4 at h;refine As (wa Aa (BH (wm Aa (wv (Dg GV Aa) (ck h λg1 h2=>wv (Cy Aa Aa g1) (wm Aa (H3 (rs:=[rS s,rS ([34]:Am)]) (r:=Ak (Lib.countByte s 34:Int)) Tryz.call93 Aa (PE s 34) Aa Aa (ck h2 λg3 h4=>wv (Cy Aa Aa g3) (wm Aa (H3 (rs:=[rS s,rS ([92]:Am)]) (r:=Ak (Lib.countByte s 92:Int)) Tryz.call93 Aa (PE s 92) Aa Aa (ck h4 λg5 h6=>wv (Cy Aa Aa g5) (wa Aa (A3 (A8 ?_))))))))))))));obtain rfl:=A9 h6;exact A7 (Cd Tryz.results77 (AX Aa)) sN ⟨Aa,Aa⟩
theorem Re (F:Nat)(c:Ab)(r:Bool)(h:K1 F c=some r):Fn Tryz.prog GE 76 [Bb (Ac c)] [] (λR H=>R=rB r∧H=[]):=by
 refine enter (n:=81) Tryz.func76 Aa Tryz.ntmps76 Aa (λw Z=>?_);unfold K1 at h;refine As (B8 Aa Aa (λb1=>?_));refine wa Aa (A3 (A1 (As (vF BU Aa JU (vL 0 JW Aa (A3 (Ba (As (wv (BW Aa Aa) (wa Aa (A3 (cz h Aa (λc2 h3=>?_) (λc2 h6=>?_)))))))))))))
 ·refine Bc [(2,rB ((decide (c.fInt=0))&&((decide (c.fStr=([]:Am)))&&(decide (c.fN=0)))))] [] ?_ ?_
  ·refine AD (vF BU Aa C9 (vL 0 DY Aa (wv (BW Aa Aa) (wm Aa (Be (decide (c.fInt=0)) (λc4=>?_) (λc4=>?_))))))
   ·refine wo c4 (vF BU Aa DX (wo c4 (vL 0 Er Aa (wo c4 (wv (HV Aa Aa) (GW Aa c4 Aa (wm Aa (Be (decide (c.fStr=([]:Am))) (λc5=>?_) (λc5=>?_)))))))))
    ·refine wo c5 (vF BU Aa C9 (wo c5 (vL 0 DY Aa (wo c5 (wv (BW Aa Aa) (GW Aa c5 Aa (wa Aa (A5 ?_))))))));exact Dq (And.intro c4 c5)
    ·refine wf c5 (wf c5 (wf c5 (wv (r:=rB false) (AC Aa c5 Aa) (wa Aa (A5 ?_)))));exact Dq (And.intro c4 c5)
   ·refine wf c4 (wf c4 (wf c4 (wv (r:=rB false) (AC Aa c4 Aa) (wm Aa (wz Aa Aa (wz Aa Aa (wz Aa Aa (wv (r:=rB false) (AC (b:=false) Aa Aa Aa) (wa Aa (A5 ?_))))))))));exact Dq c4
  refine A8 (AQ (An ?_));obtain rfl:=A9 h3;exact A7 (Cd Ou (AX Aa)) sN ⟨Aa,Aa⟩
 ·refine As (wv (BW Aa Aa) (wa Aa (A3 (cz h6 Aa (λc7 h8=>?_) (λc7 hm=>?_)))))
  ·refine Bc [(2,rB (bif decide (c.fInt=0) then((decide (c.fStr=([]:Am)))&&(decide (c.fN=0))) else((decide (c.fInt=1))&&((decide (c.fStr=([]:Am)))&&(decide (c.fN=0))))))] [] ?_ ?_
   ·refine AD (vF BU Aa C9 (vL 0 DY Aa (wv (BW Aa Aa) (wm Aa (Be (decide (c.fInt=0)) (λc9=>?_) (λc9=>?_))))))
    ·refine wf c9 (wf c9 (wf c9 (wv (r:=rB true) (A6 Aa c9 Aa) (wm Aa (Br (b:=true) Aa Aa Aa (vF BU Aa DX (Br (b:=true) Aa Aa Aa (vL 0 Er Aa (Br (b:=true) Aa Aa Aa (wv (HV Aa Aa) (wv (r:=rB (decide (c.fStr=([]:Am)))) (A6 (b:=true) Aa Aa Aa) (wm Aa (Be (decide (c.fStr=([]:Am))) (λhg=>?_) (λhg=>?_))))))))))))))
     ·refine wo hg (vF BU Aa C9 (wo hg (vL 0 DY Aa (wo hg (wv (BW Aa Aa) (GW Aa hg Aa (wa Aa (A5 ?_))))))));exact Dq (And.intro c9 hg)
     ·refine wf hg (wf hg (wf hg (wv (r:=rB false) (AC Aa hg Aa) (wa Aa (A5 ?_)))));exact Dq (And.intro c9 hg)
    ·refine wo c9 (vF BU Aa C9 (wo c9 (vL 0 DY Aa (wo c9 (wv (BW Aa Aa) (Kw Aa c9 Aa (wm Aa (Be (decide (c.fInt=1)) (λhb=>?_) (λhb=>?_)))))))))
     ·refine wo hb (vF BU Aa DX (wo hb (vL 0 Er Aa (wo hb (wv (HV Aa Aa) (GW Aa hb Aa (wm Aa (Be (decide (c.fStr=([]:Am))) (λhh=>?_) (λhh=>?_)))))))))
      ·refine wo hh (vF BU Aa C9 (wo hh (vL 0 DY Aa (wo hh (wv (BW Aa Aa) (GW Aa hh Aa (wa Aa (A5 ?_))))))));exact Dq (And.intro c9 (And.intro hb hh))
      ·refine wf hh (wf hh (wf hh (wv (r:=rB false) (AC Aa hh Aa) (wa Aa (A5 ?_)))));exact Dq (And.intro c9 (And.intro hb hh))
     ·refine wf hb (wf hb (wf hb (wv (r:=rB false) (AC Aa hb Aa) (wm Aa (wz Aa Aa (wz Aa Aa (wz Aa Aa (wv (r:=rB false) (AC (b:=false) Aa Aa Aa) (wa Aa (A5 ?_))))))))));exact Dq (And.intro c9 hb)
   refine A8 (AQ (An ?_));obtain rfl:=A9 h8;exact A7 (Cd Ou (AX Aa)) sN ⟨Aa,Aa⟩
  ·refine As (wv (BW Aa Aa) (wa Aa (A3 (cz hm Aa (λhn ho=>?_) (λhn hp=>?_)))))
   ·refine Bc [(2,rB ((decide (c.fStr=([]:Am)))&&(decide (c.fN=0))))] [] ?_ ?_
    ·refine AD (vF BU Aa DX (vL 0 Er Aa (wv (HV Aa Aa) (wm Aa (Be (decide (c.fStr=([]:Am))) (λhi=>?_) (λhi=>?_))))))
     ·refine wo hi (vF BU Aa C9 (wo hi (vL 0 DY Aa (wo hi (wv (BW Aa Aa) (GW Aa hi Aa (wa Aa (A5 ?_))))))));exact Dq hi
     ·refine wf hi (wf hi (wf hi (wv (r:=rB false) (AC Aa hi Aa) (wa Aa (A5 ?_)))));exact Dq hi
    refine A8 (AQ (An ?_));obtain rfl:=A9 ho;exact A7 (Cd Ou (AX Aa)) sN ⟨Aa,Aa⟩
   ·refine As (wv (BW Aa Aa) (wa Aa (A3 (cz hp Aa (λhq hr=>?_) (λhq hs=>?_)))))
    ·refine ck hr λht hu=>Bc [(2,rB ((decide (c.fInt=0))&&((decide (c.fN=0))&&(ov (I2 F c.fStr)))))] [] ?_ ?_
     ·refine AD (vF BU Aa C9 (vL 0 DY Aa (wv (BW Aa Aa) (wm Aa (Be (decide (c.fInt=0)) (λha=>?_) (λha=>?_))))))
      ·refine wo ha (vF BU Aa C9 (wo ha (vL 0 DY Aa (wo ha (wv (BW Aa Aa) (GW Aa ha Aa (wm Aa (Be (decide (c.fN=0)) (λhd=>?_) (λhd=>?_)))))))))
       ·refine wo hd (vF BU Aa DX (wo hd (vL 0 Er Aa (wo hd (Dr Tryz.call92 (SC F c.fStr (ov (I2 F c.fStr)) (Jt (Hp (Hp ht ha) hd))) Aa (GW Aa hd Aa (wa Aa (A5 ?_))))))));exact Dq (And.intro ha hd)
       ·refine wf hd (wf hd (wf hd (wv (r:=rB false) (AC Aa hd Aa) (wa Aa (A5 ?_)))));exact Dq (And.intro ha hd)
      ·refine wf ha (wf ha (wf ha (wv (r:=rB false) (AC Aa ha Aa) (wm Aa (wz Aa Aa (wz Aa Aa (wz Aa Aa (wv (r:=rB false) (AC (b:=false) Aa Aa Aa) (wa Aa (A5 ?_))))))))));exact Dq ha
     refine A8 (AQ (An ?_));obtain rfl:=A9 hu;exact A7 (Cd Ou (AX Aa)) sN ⟨Aa,Aa⟩
    ·refine A1 (As (wv (BW Aa Aa) (wa Aa (A3 (cz hs Aa (λhl hw=>?_) (λhl hx=>?_))))))
     ·refine AG (Bf (Gj Aa hl (Bc [(2,rB ((decide (c.fInt=0))&&((decide (c.fStr=([]:Am)))&&(decide (0≤c.fN)))))] [] ?_ ?_)))
      ·refine AD (vF BU Aa C9 (vL 0 DY Aa (wv (BW Aa Aa) (wm Aa (Be (decide (c.fInt=0)) (λhe=>?_) (λhe=>?_))))))
       ·refine wo he (vF BU Aa DX (wo he (vL 0 Er Aa (wo he (wv (HV Aa Aa) (GW Aa he Aa (wm Aa (Be (decide (c.fStr=([]:Am))) (λhj=>?_) (λhj=>?_)))))))))
        ·refine wo hj (vF BU Aa C9 (wo hj (vL 0 DY Aa (wo hj (wv (OD Aa Aa) (GW Aa hj Aa (wa Aa (A5 ?_))))))));exact Dq (And.intro he hj)
        ·refine wf hj (wf hj (wf hj (wv (r:=rB false) (AC Aa hj Aa) (wa Aa (A5 ?_)))));exact Dq (And.intro he hj)
       ·refine wf he (wf he (wf he (wv (r:=rB false) (AC Aa he Aa) (wm Aa (wz Aa Aa (wz Aa Aa (wz Aa Aa (wv (r:=rB false) (AC (b:=false) Aa Aa Aa) (wa Aa (A5 ?_))))))))));exact Dq he
      refine A8 (AQ (An ?_));obtain rfl:=A9 hw;exact A7 (Cd Ou (AX Aa)) sN ⟨Aa,Aa⟩
     ·refine AD (wv (BW Aa Aa) (wa Aa (A3 (cz hx Aa (λhy hz=>?_) (λhy h0=>?_)))))
      ·refine Bc [(2,rB ((decide (c.fInt=0))&&((decide (c.fStr=([]:Am)))&&(decide (0≤c.fN)))))] [] ?_ ?_
       ·refine AD (vF BU Aa C9 (vL 0 DY Aa (wv (BW Aa Aa) (wm Aa (Be (decide (c.fInt=0)) (λhf=>?_) (λhf=>?_))))))
        ·refine wo hf (vF BU Aa DX (wo hf (vL 0 Er Aa (wo hf (wv (HV Aa Aa) (GW Aa hf Aa (wm Aa (Be (decide (c.fStr=([]:Am))) (λhk=>?_) (λhk=>?_)))))))))
         ·refine wo hk (vF BU Aa C9 (wo hk (vL 0 DY Aa (wo hk (wv (OD Aa Aa) (GW Aa hk Aa (wa Aa (A5 ?_))))))));exact Dq (And.intro hf hk)
         ·refine wf hk (wf hk (wf hk (wv (r:=rB false) (AC Aa hk Aa) (wa Aa (A5 ?_)))));exact Dq (And.intro hf hk)
        ·refine wf hf (wf hf (wf hf (wv (r:=rB false) (AC Aa hf Aa) (wm Aa (wz Aa Aa (wz Aa Aa (wz Aa Aa (wv (r:=rB false) (AC (b:=false) Aa Aa Aa) (wa Aa (A5 ?_))))))))));exact Dq hf
       refine A8 (AQ (An ?_));obtain rfl:=A9 hz;exact A7 (Cd Ou (AX Aa)) sN ⟨Aa,Aa⟩
      ·refine AG (Bi (Bf (As (wa Aa (A3 (A8 ?_))))));obtain rfl:=A9 h0;exact A7 (Cd Ou (AX Aa)) (sS sN) ⟨Aa,Aa⟩
theorem SD (c:Ab)(r:Int)(h:Nm c=some r):Fn Tryz.prog GE 78 [Bb (Ac c)] [] (λR H=>R=Ak r∧H=[]):=by
 refine enter (n:=28) Tryz.func78 Aa Tryz.ntmps78 Aa (λw Z=>?_);unfold Nm at h;refine As (B8 Aa Aa (λb1=>?_));refine wa Aa (A3 (A1 (As (vF BU Aa JU (vL 0 JW Aa (A3 (Ba (As (wv (BW Aa Aa) (wa Aa (A3 (cz h Aa (λc2 h3=>?_) (λc2 h4=>?_)))))))))))))
 ·refine As (wa Aa (A3 (A8 (AQ (An ?_)))));obtain rfl:=A9 h3;exact A7 (Cd QS (AX Aa)) (sS sN) ⟨Aa,Aa⟩
 ·refine As (wv (BW Aa Aa) (wa Aa (A3 (cz h4 Aa (λc5 h6=>?_) (λc5 h7=>?_)))))
  ·refine As (vF BU Aa C9 (vL 0 DY Aa (wv (r:=Ak (IntKind.wrap .i64 (5-c.fInt))) (R3 Aa Aa) (wa Aa (A3 (A8 (AQ (An ?_))))))));obtain rfl:=A9 h6;exact A7 (Cd QS (AX Aa)) (sS sN) ⟨Aa,Aa⟩
  ·refine As (wv (BW Aa Aa) (wa Aa (A3 (cz h7 Aa (λc8 h9=>?_) (λc8 ha=>?_)))))
   ·refine As (vF BU Aa C9 (vL 0 DY Aa (ck h9 λhb hd=>H3 (rs:=[Ak c.fInt]) (r:=rS (Lib.itoa c.fInt)) Tryz.call94 Aa (Sh c.fInt hb) Aa Aa (wv (Dg GV Aa) (wa Aa (A3 (A8 (AQ (An ?_)))))))));obtain rfl:=A9 hd;exact A7 (Cd QS (AX Aa)) (sS sN) ⟨Aa,Aa⟩
   ·refine As (wv (BW Aa Aa) (wa Aa (A3 (cz ha Aa (λhe hf=>?_) (λhe hg=>?_)))))
    ·refine As (vF BU Aa DX (vL 0 Er Aa (ob hf λhh hi hj=>Dr Tryz.call77 (L9 c.fStr hh hi) Aa (wa Aa (A3 (A8 (AQ (An ?_))))))));obtain rfl:=A9 hj;exact A7 (Cd QS (AX Aa)) (sS sN) ⟨Aa,Aa⟩
    ·refine AG (Bi (Bf (As (vF BU Aa C9 (vL 0 DY Aa (wv (r:=Ak (IntKind.wrap .i64 (c.fN-1))) (R3 Aa Aa) (wv (T3 UF Aa Aa) (wv (r:=Ak (IntKind.wrap .i64 (2+(max 0 (IntKind.wrap .i64 (c.fN-1)))))) (OE Aa Aa) (wa Aa (A3 (A8 ?_)))))))))));obtain rfl:=A9 hg;exact A7 (Cd QS (AX Aa)) (sS sN) ⟨Aa,Aa⟩
theorem PU (F:Nat)(hi:Value)(stack:(List Aw))(r:(List Aw))(h:I5 F stack=some r):Fn Tryz.prog GE 80 [rv hi] [.row hi 120 5 (Au Av stack)] (λR H=>∃u0:Value,R=rv u0∧H=[.row u0 120 5 (Au Av r)]):=by
 refine enter (n:=38) Tryz.func80 Aa Tryz.ntmps80 Aa (λw Z=>?_);unfold I5 at h;refine As (wa Aa (A3 (A1 (Ba (ob h λhn ho hl=>BN (S:=Nat×((List Aw))×(Value)) (V:=((List Aw))×(Value)) 0 (λσ=>BI (λσ=>CI σ) σ.1 σ.2.1=some hn) (λσ=>[(0,rv σ.2.2),(2,rv (.slice none 0 0))]) (λσ=>[.row σ.2.2 120 5 (Au Av σ.2.1)]) (λσ=>σ.1) (F,stack,hi) ho (AZ.c Aa (AZ.c Aa AZ.nil)) (sC sN) (λσ=>Dm σ.1=some r) (λσ=>[(0,rv σ.2),(2,rv (.slice none 0 0))]) (λσ=>[.row σ.2 120 5 (Au Av σ.1)]) ?_ ?_)))))
 ·rintro⟨hG,ha,hd⟩ hp;refine C7 (l':=[(0,rv hd),(2,rv (.slice none 0 0))]) (H':=[.row hd 120 5 (Au Av ha)]) Aa Aa ?_;obtain⟨hq,rfl,hr,hg,hj⟩:=DI hp;replace hg:CI ha=some hr:=hg;unfold CI at hg;refine A1 (As (wm Aa (wv (Ed (ys:=ha) (enc:=Av) (i:=0) GL Aa Aa) (wv (Gc Aa Aa) (A3 (cz hg Aa (λhs ht=>?_) (λhs hu=>?_)))))))
  ·refine AG (Bf (Ba (As (wm Aa (wm Aa (wv (Ed (ys:=ha) (enc:=Av) (i:=0) GL Aa Aa) (ck ht λhw hx=>wv (LM Aa Aa hw) (ck hx λhe hy=>wv (r:=rv (Em 5 hd (CU ((ha.length:Int)-1)) 0)) (Ju (i:=0) GL Nh Aa Aa Aa (B4 he)) (wa Aa (BH (wm Aa (wv (r:=rv (Em 5 hd (CU ((ha.length:Int)-1)) 0)) (BK (k:=0) Aa (B4 he) Aa Aa) (wv (r:=rv (Em 5 hd (CU ((ha.length:Int)-1)) 1)) (Eh (k:=0) GK Aa C9 Aa (B4 he) Aa Aa Aa) (wv (r:=Ak ((Ad ha ((ha.length:Int)-1)).fLeft)) (Gb (enc:=Av) (ys:=ha) (i:=0) (j:=(ha.length:Int)-1) DY Aa Aa he Aa) (ck hy λhz h0=>wv (LM Aa Aa hz) (wv (r:=rv (Em 5 hd (CU ((ha.length:Int)-1)) 0)) (BK (k:=0) Aa (B4 he) Aa Aa) (wv (r:=rv (Em 5 hd (CU ((ha.length:Int)-1)) 1)) (Eh (k:=0) GK Aa C9 Aa (B4 he) Aa Aa Aa) (Jk (enc:=Av) (ys:=ha) (y':=(Aw.mk ((Ad ha ((ha.length:Int)-1)).fPairs) (((Ad ha ((ha.length:Int)-1)).fLeft)-1) ((Ad ha ((ha.length:Int)-1)).fKey) ((Ad ha ((ha.length:Int)-1)).fLast) ((Ad ha ((ha.length:Int)-1)).fStarted))) (i:=0) (j:=(ha.length:Int)-1) C9 Aa Aa (Cc Aa) Aa he Aa Aa (H':=[.row hd 120 5 (Au Av (List.set ha (CU ((ha.length:Int)-1)) (Aw.mk ((Ad ha ((ha.length:Int)-1)).fPairs) (((Ad ha ((ha.length:Int)-1)).fLeft)-1) ((Ad ha ((ha.length:Int)-1)).fKey) ((Ad ha ((ha.length:Int)-1)).fLast) ((Ad ha ((ha.length:Int)-1)).fStarted))))]) Aa (bd h0 λhb hf h1=>?_)))))))))))))))))));rw[← hf];refine A3 (A1 (As (wm Aa (wv (r:=rv (Em 5 hd (CU ((ha.length:Int)-1)) 0)) (BK (k:=0) Aa (B4 (Ch he hf)) Aa Aa) (wv (r:=rv (Em 5 hd (CU ((ha.length:Int)-1)) 1)) (Eh (k:=0) GK Aa C9 Aa (B4 (Ch he hf)) Aa Aa Aa) (wv (r:=Ak ((Ad hb ((ha.length:Int)-1)).fLeft)) (Gb (enc:=Av) (ys:=hb) (i:=0) (j:=(ha.length:Int)-1) DY Aa Aa (Ch he hf) Aa) (wv (Gc Aa Aa) (A3 (cz h1 Aa (λh2 h3=>?_) (λh2 h4=>?_))))))))))
   ·refine As (wm Aa (wm Aa (wv (r:=rv (Em 5 hd (CU ((ha.length:Int)-1)) 0)) (BK (k:=0) Aa (B4 (Ch he hf)) Aa Aa) (wv (r:=rv (Em 5 hd (CU ((ha.length:Int)-1)) 0)) (Eh (k:=0) GK Aa I0 Aa (B4 (Ch he hf)) Aa Aa Aa) (wv (r:=rB ((Ad hb ((ha.length:Int)-1)).fPairs)) (Gb (enc:=Av) (ys:=hb) (i:=0) (j:=(ha.length:Int)-1) SA Aa Aa (Ch he hf) Aa) (wv (r:=rv (Em 5 hd (CU ((ha.length:Int)-1)) 0)) (BK (k:=0) Aa (B4 (Ch he hf)) Aa Aa) (wv (r:=rv (Em 5 hd (CU ((ha.length:Int)-1)) 2)) (Eh (k:=0) GK Aa I0 Aa (B4 (Ch he hf)) Aa Aa Aa) (Jk (enc:=Av) (ys:=hb) (y':=(Aw.mk ((Ad hb ((ha.length:Int)-1)).fPairs) ((Ad hb ((ha.length:Int)-1)).fLeft) ((Ad hb ((ha.length:Int)-1)).fPairs) ((Ad hb ((ha.length:Int)-1)).fLast) ((Ad hb ((ha.length:Int)-1)).fStarted))) (i:=0) (j:=(ha.length:Int)-1) I0 Aa Aa (Cc Aa) Aa (Ch he hf) Aa Aa (H':=[.row hd 120 5 (Au Av (List.set hb (CU ((ha.length:Int)-1)) (Aw.mk ((Ad hb ((ha.length:Int)-1)).fPairs) ((Ad hb ((ha.length:Int)-1)).fLeft) ((Ad hb ((ha.length:Int)-1)).fPairs) ((Ad hb ((ha.length:Int)-1)).fLast) ((Ad hb ((ha.length:Int)-1)).fStarted))))]) Aa (bd h3 λhH h5 h6=>?_)))))))));rw[← h5];refine BH (wm Aa (wa Aa (A3 (A8 (An (AQ (An (B5 ?_))))))));have h7:=Cl h6 hj hl;refine AQ (An ?_);obtain rfl:=A9 h7;exact A7 (Cd Tryz.results80 (AX Aa)) (sC sN) ⟨hd,Aa,Aa⟩
   ·refine AG (Bf (AD (wm Aa (wm Aa (wv (Ed (ys:=hb) (enc:=Av) (i:=0) GL Aa Aa) (ck h4 λh8 h9=>wv (LM Aa Aa h8) (ck h9 λhA hB=>Ui (i:=0) GL Nh Aa Aa Aa hA Aa (λhC=>?_))))))));refine wa Aa (A5 (Bi ?_));have hD:=BO hB hj;exact AL (AW (hq,List.take (CU ((hb.length:Int)-1)) hb,hC) ⟨hD,Vy _⟩ (AZ.c Aa (AZ.c Aa AZ.nil)) (sC sN))
  ·refine BM (AI ?_);have hE:=CC hu hj hl;exact AI (B1 (AW (ha,hd) hE (AZ.c Aa (AZ.c Aa AZ.nil)) (sC sN)))
 ·rintro⟨hm,hk⟩ hh;refine DE (l':=[(0,rv hk),(2,rv (.slice none 0 0))]) (H':=[.row hk 120 5 (Au Av hm)]) Aa Aa ?_;replace hh:Dm hm=some r:=hh;unfold Dm at hh;refine Bw (Bf (As (wm Aa (wa Aa (A3 (A8 ?_))))));obtain rfl:=A9 hh;exact A7 (Cd Tryz.results80 (AX Aa)) (sC sN) ⟨hk,Aa,Aa⟩
theorem SF (F:Nat)(v:(List Ab))(r:Int×A4×Bool)(h:I4 F v=some r):Fn Tryz.prog GE 56 [AH 4 (Au Ac v)] [] (λR H=>R=Dc [Ak r.1,Bb (AO r.2.1),rB r.2.2]∧H=[]):=by
 refine enter (n:=152) Tryz.func56 Aa Tryz.ntmps56 Aa (λw Z=>?_);unfold I4 at h;refine As (wa Aa (Ca (cs:=[Ak 0,Ak 0,rB false,rB false]) Tryz.zeroValue105 Aa Aa (λb1=>?_)));refine wa Aa (A3 (Ra (As (Ca (cs:=[Ak 0,Ak 0,rB false,rB false]) Tryz.zeroValue105 Aa Aa (λb2=>?_)))));refine BH (wa Aa (A3 (A1 (Rb (Bf (A1 (As (wm Aa (wv (Bk (ys:=v) (enc:=Ac) CB Aa) (wv (r:=Ak 0) (Ap Aa) (A3 (Ba (WC.nilrow (e:=120) (sz:=5) (Ke (H2:=[.blk b2 [Ak 0,Ak 0,rB false,rB false] 105,.blk b1 [Ak 0,Ak 0,rB false,rB false] 105,.row (.slice none 0 0                                                                                                                        ) 120 5 (Au Av ([]:List Aw))]) ((Al (i:=1) Aa).trans (Vd _ ((Al (i:=1) Aa).trans (Vd _ (Vh _))))) (ob h λhA hB hy=>BN (S:=Nat×((List Aw)×Int×A4)×(Value)) (V:=(A4)×(Unit)) 0 (λσ=>BI (λσ=>CH F v σ.1 σ.2.1 σ.2.2) σ.1 σ.2.1=some hA) (λσ=>[(0,AH 4 (Au Ac v)),(3,rP b1 0),(5,rP b2 0),(6,rv σ.2.2),(11,AH 4 (Au Ac v)),(12,Ak (v.length:Int)),(13,Ak σ.2.1.2.1)]) (λσ=>[.blk b2 (AO σ.2.1.2.2) 105,.blk b1 [Ak 0,Ak 0,rB false,rB false] 105,.row σ.2.2 120 5 (Au Av σ.2.1.1)]) (λσ=>σ.1) (F,(([]:List Aw),0,(A4.mk 0 0 false false)),(.slice none 0 0                                                                                                                        )) hB (AZ.c Aa (AZ.c Aa (AZ.c5 Aa Aa Aa Aa Aa AZ.nil))) (sC (sC (sC sN))) (λσ=>I3 σ.1=some r) (λσ=>[(3,rP b1 0),(5,rP b2 0)]) (λσ=>[.blk b2 (AO σ.1) 105,.blk b1 [Ak 0,Ak 0,rB false,rB false] 105]) ?_ ?_)))))))))))))))
 ·rintro⟨gI,⟨hd,hb,ha⟩,he⟩ hC;refine C7 (l':=[(0,AH 4 (Au Ac v)),(3,rP b1 0),(5,rP b2 0),(6,rv he),(11,AH 4 (Au Ac v)),(12,Ak (v.length:Int)),(13,Ak hb)]) (H':=[.blk b2 (AO ha) 105,.blk b1 [Ak 0,Ak 0,rB false,rB false] 105,.row he 120 5 (Au Av hd)]) Aa Aa ?_;obtain⟨hD,rfl,h4,h0,hx⟩:=DI hC;replace h0:CH F v hd hb ha=some h4:=h0;unfold CH at h0;refine As (wv (EN Aa Aa) (A3 (A1 (cz h0 Aa (λhE hG=>?_) (λhE hH=>?_)))))
  ·refine AG (Bf (Dk (S:=((List Aw)×A4)×(Value)) (λσ=>Db hb σ.1.1 σ.1.2=some h4) (λσ=>[(0,AH 4 (Au Ac v)),(3,rP b1 0),(5,rP b2 0),(6,rv σ.2),(11,AH 4 (Au Ac v)),(12,Ak (v.length:Int)),(13,Ak hb)]) (λσ=>[.blk b2 (AO σ.1.2) 105,.blk b1 [Ak 0,Ak 0,rB false,rB false] 105,.row σ.2 120 5 (Au Av σ.1.1)]) ?_ ?_))
   ·refine Ba (As (wm Aa (ck hG λhI hJ=>wv (Bh (enc:=Ac) (ys:=v) CB Da Aa Aa hI) (wv (Bx Ml Da Aa Aa Aa) (Ca (cs:=[Ak 0,Ak 0,rS ([]:Am),Ak 0]) Mi Aa Aa (λhf=>?_))))));refine wa Aa (AR (i:=0) Da Aa Aa Aa (Bm.c Aa) Aa Aa (cs':=[Ak ((Ad v hb).fKind),Ak ((Ad v hb).fInt),rS ((Ad v hb).fStr),Ak ((Ad v hb).fN)]) Aa (H':=[.blk hf (Ac (Ad v hb)) 63,.blk b2 (AO ha) 105,.blk b1 [Ak 0,Ak 0,rB false,rB false] 105,.row he 120 5 (Au Av hd)]) Aa (A3 (A1 (As (wv (Bl (i:=0) Ml Da Aa Aa Aa Aa) (ob hJ λhK hL hN=>Dr Tryz.call76 (Re F (Ad v hb) hK hL) Aa (wv (BS Aa) (A3 (cz hN Aa (λhO hP=>?_) (λhO hQ=>?_))))))))))
    ·refine A1 (Ha (H1:=[.blk hf (Ac (Ad v hb)) 63,.blk b2 (AO ha) 105,.blk b1 (AO ha) 105,.row he 120 5 (Au Av hd)]) [3,5] [⟨[],Bb (AO ha),1⟩,⟨[],Ak 0,0⟩,⟨[0],rv undef,2⟩,⟨[],rB false,0⟩] (rle [(3,_),(2,[.blk hf (Ac (Ad v hb)) 63,.blk b2 (AO ha) 105,.blk b1 (AO ha) 105,.row he 120 5 (Au Av hd)])]) [2,4,3] ?_ ?_)
     ·refine of (Bl (i:=1) HQ Ej Aa Aa Aa Aa) (oq (AT Aa) (KD Aa (N8 (CA (i:=2) Ej Aa Aa Aa (Bm.c Aa) Aa Aa (cs':=[Ak ha.fDepth,Ak ha.fBytes,rB ha.fOutside,rB ha.fLong]) Aa (H':=[.blk hf (Ac (Ad v hb)) 63,.blk b2 (AO ha) 105,.blk b1 (AO ha) 105,.row he 120 5 (Au Av hd)]) Aa)) ?_));refine oq (AT Aa) ?_;exact CE
     refine Bf (A8 (An (AQ (An (An (B5 ?_))))));have hR:=Cl hP hx hy;refine AQ (An (I1 ?_));obtain rfl:=A9 hR;exact A7 (QN QT (AX Aa) (Ci (i:=2) HQ Ej Aa Aa Aa) (AX Aa)) (sS (sS (sS (sS sN)))) ⟨Aa,Aa⟩
    ·refine AG (Bf (A1 (As (wm Aa (wv (Ed (ys:=hd) (enc:=Av) (i:=3) GL Aa Aa) (wa Aa (A3 (ck hQ λhS hT=>ck hT λh5 hU=>Bc [(0,AH 4 (Au Ac v)),(3,rP b1 0),(5,rP b2 0),(6,rv he),(7,Ak hb),(8,rP hf 0),(9,Ak (hd.length:Int)),(11,AH 4 (Au Ac v)),(12,Ak (v.length:Int)),(13,Ak hb),(33,rB ((decide (0<(hd.length:Int)))&&((Ad hd ((hd.length:Int)-1)).fKey)))] [.blk hf (Ac (Ad v hb)) 63,.blk b2 (AO ha) 105,.blk b1 [Ak 0,Ak 0,rB false,rB false] 105,.row he 120 5 (Au Av hd)] ?_ ?_))))))))
     ·refine AD (wm Aa (wv (Gc Aa Aa) (wm Aa (Be (decide (0<(hd.length:Int))) (λhi=>?_) (λhi=>?_)))))
      ·refine wo hi (wm Aa (wo hi (wm Aa (wo hi (wv (LM Aa Aa (Hp hS hi)) (wo hi (wv (r:=rv (Em 5 he (CU ((hd.length:Int)-1)) 0)) (Ju (i:=3) GL Nh Aa Aa Aa (B4 (Hp h5 hi))) (wo hi (wv (r:=rv (Em 5 he (CU ((hd.length:Int)-1)) 2)) (Eh (k:=3) GK Aa I0 Aa (B4 (Hp h5 hi)) Aa Aa Aa) (wo hi (wv (r:=rB ((Ad hd ((hd.length:Int)-1)).fKey)) (Gb (enc:=Av) (ys:=hd) (i:=3) (j:=(hd.length:Int)-1) SA Aa Aa (Hp h5 hi) Aa) (GW Aa hi Aa (A5 ?_)))))))))))));exact Dq hi
      ·refine wf hi (wf hi (wf hi (wf hi (wf hi (wf hi (wv (r:=rB false) (AC Aa hi Aa) (A5 ?_)))))));exact Dq hi
     refine cz hU Aa (λhV hW=>?_) (λhV hX=>?_)
     ·refine As (wm Aa (wm Aa (ck hW λhY hZ=>wv (LM Aa Aa hY) (ck hZ λhj ga=>wv (r:=rv (Em 5 he (CU ((hd.length:Int)-1)) 0)) (Ju (i:=3) GL Nh Aa Aa Aa (B4 hj)) (wa Aa (A3 (A1 (Bc [(0,AH 4 (Au Ac v)),(3,rP b1 0),(5,rP b2 0),(6,rv he),(8,rP hf 0),(10,rv (Em 5 he (CU ((hd.length:Int)-1)) 0)),(11,AH 4 (Au Ac v)),(12,Ak (v.length:Int)),(13,Ak hb),(38,rP hf 0),(39,Ak ((Ad v hb).fKind)),(40,rB (!decide (((Ad v hb).fKind)=4))),(41,rB (!decide (((Ad v hb).fKind)=4))),(55,rB ((!decide (((Ad v hb).fKind)=4))||(((Ad hd ((hd.length:Int)-1)).fStarted)&&(BJ ((Ad v hb).fStr) ((Ad hd ((hd.length:Int)-1)).fLast)||decide (((Ad v hb).fStr)=((Ad hd ((hd.length:Int)-1)).fLast))))))] [.blk hf (Ac (Ad v hb)) 63,.blk b2 (AO ha) 105,.blk b1 [Ak 0,Ak 0,rB false,rB false] 105,.row he 120 5 (Au Av hd)] ?_ ?_))))))))
      ·refine Be (!decide (((Ad v hb).fKind)=4)) (λhh=>?_) (λhh=>?_)
       ·refine Dl [0,3,5,6,8,10,11,12,13] [⟨[],rP hf 0,0⟩,⟨[0],Ak ((Ad v hb).fKind),1⟩,⟨[1],rB (!decide (((Ad v hb).fKind)=4)),0⟩,⟨[2],rB (!decide (((Ad v hb).fKind)=4)),0⟩,⟨[3],rv undef,0⟩,⟨[4,3],rv undef,0⟩,⟨[5,3],rv undef,0⟩,⟨[6,3],rv undef,0⟩,⟨[7,3],rv undef,0⟩,⟨[8],rv undef,0⟩,⟨[9,8],rv undef,0⟩,⟨[8],rv undef,0⟩,⟨[11,8],rv undef,0⟩,⟨[12,8],rv undef,0⟩,⟨[13,8],rv undef,0⟩,⟨[10,14,8],rv undef,0⟩,⟨[8,15,3],rv undef,0⟩,⟨[3,16],rB true,0⟩] [38,39,40,41,42,43,44,45,46,47,48,49,50,51,52,53,54,55,0,3,5,6,8,10,11,12,13] ?_ ?_
        ·refine oq (AS BU Aa JU Aa Aa) (of (B6 (i:=0) JW Aa Aa Aa) (oq (DP Aa Aa) (oq (Ap Aa) (oz hh (oz hh (oz hh (oz hh (oz hh (ou (ou (ou (ou (ou (ou (ou (oz hh (oq (A6 (b:=!decide (((Ad v hb).fKind)=4)) Aa hh Aa) ?_)))))))))))))))));exact CE
        exact Dq hh
       ·refine Be ((Ad hd ((hd.length:Int)-1)).fStarted) (λhk=>?_) (λhk=>?_)
        ·refine Dl [0,3,5,6,8,10,11,12,13] [⟨[],rP hf 0,0⟩,⟨[0],Ak ((Ad v hb).fKind),1⟩,⟨[1],rB (!decide (((Ad v hb).fKind)=4)),0⟩,⟨[2],rB (!decide (((Ad v hb).fKind)=4)),0⟩,⟨[3],rv (Em 5 he (CU ((hd.length:Int)-1)) 0),0⟩,⟨[4,3],rv (Em 5 he (CU ((hd.length:Int)-1)) 0),1⟩,⟨[5,3],rv (Em 5 he (CU ((hd.length:Int)-1)) 4),1⟩,⟨[6,3],rB ((Ad hd ((hd.length:Int)-1)).fStarted),1⟩,⟨[7,3],rB ((Ad hd ((hd.length:Int)-1)).fStarted),0⟩,⟨[8],rP hf 2,0⟩,⟨[9,8],rS ((Ad v hb).fStr),1⟩,⟨[8],rv (Em 5 he (CU ((hd.length:Int)-1)) 0),0⟩,⟨[11,8],rv (Em 5 he (CU ((hd.length:Int)-1)) 0),1⟩,⟨[12,8],rv (Em 5 he (CU ((hd.length:Int)-1)) 3),1⟩,⟨[13,8],rS ((Ad hd ((hd.length:Int)-1)).fLast),1⟩,⟨[10,14,8],rB (BJ ((Ad v hb).fStr) ((Ad hd ((hd.length:Int)-1)).fLast)||decide (((Ad v hb).fStr)=((Ad hd ((hd.length:Int)-1)).fLast))),0⟩,⟨[8,15,3],rB (BJ ((Ad v hb).fStr) ((Ad hd ((hd.length:Int)-1)).fLast)||decide (((Ad v hb).fStr)=((Ad hd ((hd.length:Int)-1)).fLast))),0⟩,⟨[3,16],rB (BJ ((Ad v hb).fStr) ((Ad hd ((hd.length:Int)-1)).fLast)||decide (((Ad v hb).fStr)=((Ad hd ((hd.length:Int)-1)).fLast))),0⟩] [38,39,40,41,42,43,44,45,46,47,48,49,50,51,52,53,54,55,0,3,5,6,8,10,11,12,13] ?_ ?_
         ·refine oq (AS BU Aa JU Aa Aa) (of (B6 (i:=0) JW Aa Aa Aa) (oq (DP Aa Aa) (oq (Ap Aa) (on hh (oq (Ap Aa) (on hh (of (BK (k:=3) Aa (B4 hj) Aa Aa) (on hh (of (Eh (k:=3) GK Aa I0 Aa (B4 hj) Aa Aa Aa) (on hh (of (Gb (enc:=Av) (ys:=hd) (i:=3) (j:=(hd.length:Int)-1) SA Aa Aa hj Aa) (on hh (oq (Ap Aa) (on hk (oq (AS BU Aa DX Aa Aa) (on hk (of (B6 (i:=0) Er Aa Aa Aa) (on hk (oq (Ap Aa) (on hk (of (BK (k:=3) Aa (B4 hj) Aa Aa) (on hk (of (Eh (k:=3) GK Aa DX Aa (B4 hj) Aa Aa Aa) ?_)))))))))))))))))))))));refine on hk (of (Gb (enc:=Av) (ys:=hd) (i:=3) (j:=(hd.length:Int)-1) Er Aa Aa hj Aa) (on hk (oq (T2 Aa Aa) (on hh (oq (A6 Aa hk Aa) (oq (AC Aa hh Aa) ?_))))));exact CE
         exact Dq (And.intro hh hk)
        ·refine Dl [0,3,5,6,8,10,11,12,13] [⟨[],rP hf 0,0⟩,⟨[0],Ak ((Ad v hb).fKind),1⟩,⟨[1],rB (!decide (((Ad v hb).fKind)=4)),0⟩,⟨[2],rB (!decide (((Ad v hb).fKind)=4)),0⟩,⟨[3],rv (Em 5 he (CU ((hd.length:Int)-1)) 0),0⟩,⟨[4,3],rv (Em 5 he (CU ((hd.length:Int)-1)) 0),1⟩,⟨[5,3],rv (Em 5 he (CU ((hd.length:Int)-1)) 4),1⟩,⟨[6,3],rB ((Ad hd ((hd.length:Int)-1)).fStarted),1⟩,⟨[7,3],rB ((Ad hd ((hd.length:Int)-1)).fStarted),0⟩,⟨[8],rv undef,0⟩,⟨[9,8],rv undef,0⟩,⟨[8],rv undef,0⟩,⟨[11,8],rv undef,0⟩,⟨[12,8],rv undef,0⟩,⟨[13,8],rv undef,0⟩,⟨[10,14,8],rv undef,0⟩,⟨[8,15,3],rB false,0⟩,⟨[3,16],rB false,0⟩] [38,39,40,41,42,43,44,45,46,47,48,49,50,51,52,53,54,55,0,3,5,6,8,10,11,12,13] ?_ ?_
         ·refine oq (AS BU Aa JU Aa Aa) (of (B6 (i:=0) JW Aa Aa Aa) (oq (DP Aa Aa) (oq (Ap Aa) (on hh (oq (Ap Aa) (on hh (of (BK (k:=3) Aa (B4 hj) Aa Aa) (on hh (of (Eh (k:=3) GK Aa I0 Aa (B4 hj) Aa Aa Aa) (on hh (of (Gb (enc:=Av) (ys:=hd) (i:=3) (j:=(hd.length:Int)-1) SA Aa Aa hj Aa) (on hh (oq (Ap Aa) (oz hk (oz hk (oz hk (oz hk (oz hk (oz hk (oz hk (on hh (oq (AC (b:=(Ad hd ((hd.length:Int)-1)).fStarted) Aa hk Aa) (oq (AC Aa hh Aa) ?_)))))))))))))))))))))));exact CE
         exact Dq (And.intro hh hk)
      refine cz ga Aa (λgb gc=>?_) (λgb gd=>?_)
      ·refine A1 (Ha (H1:=[.blk hf (Ac (Ad v hb)) 63,.blk b2 (AO ha) 105,.blk b1 (AO ha) 105,.row he 120 5 (Au Av hd)]) [3,5] [⟨[],Bb (AO ha),1⟩,⟨[],Ak 0,0⟩,⟨[0],rv undef,2⟩,⟨[],rB false,0⟩] (rle [(3,_),(2,[.blk hf (Ac (Ad v hb)) 63,.blk b2 (AO ha) 105,.blk b1 (AO ha) 105,.row he 120 5 (Au Av hd)])]) [2,4,3] ?_ ?_)
       ·refine of (Bl (i:=1) HQ Ej Aa Aa Aa Aa) (oq (AT Aa) (KD Aa (N8 (CA (i:=2) Ej Aa Aa Aa (Bm.c Aa) Aa Aa (cs':=[Ak ha.fDepth,Ak ha.fBytes,rB ha.fOutside,rB ha.fLong]) Aa (H':=[.blk hf (Ac (Ad v hb)) 63,.blk b2 (AO ha) 105,.blk b1 (AO ha) 105,.row he 120 5 (Au Av hd)]) Aa)) ?_));refine oq (AT Aa) ?_;exact CE
       refine Bf (A8 (An (An (AQ (An (An (B5 ?_)))))));have ge:=Cl gc hx hy;refine AQ (An (I1 ?_));obtain rfl:=A9 ge;exact A7 (QN QT (AX Aa) (Ci (i:=2) HQ Ej Aa Aa Aa) (AX Aa)) (sS (sS (sS (sS sN)))) ⟨Aa,Aa⟩
      ·refine AG (Bf (As (wm Aa (wm Aa (wm Aa (vF BU Aa DX (vL 0 Er Aa (wv (r:=rv (Em 5 he (CU ((hd.length:Int)-1)) 0)) (BK (k:=3) Aa (B4 hj) Aa Aa) (wv (r:=rv (Em 5 he (CU ((hd.length:Int)-1)) 3)) (Eh (k:=3) GK Aa DX Aa (B4 hj) Aa Aa Aa) (Jk (enc:=Av) (ys:=hd) (y':=(Aw.mk ((Ad hd ((hd.length:Int)-1)).fPairs) ((Ad hd ((hd.length:Int)-1)).fLeft) ((Ad hd ((hd.length:Int)-1)).fKey) ((Ad v hb).fStr) ((Ad hd ((hd.length:Int)-1)).fStarted))) (i:=3) (j:=(hd.length:Int)-1) DX Aa Aa (Cc Aa) Aa hj Aa Aa (H':=[.blk hf (Ac (Ad v hb)) 63,.blk b2 (AO ha) 105,.blk b1 [Ak 0,Ak 0,rB false,rB false] 105,.row he 120 5 (Au Av (List.set hd (CU ((hd.length:Int)-1)) (Aw.mk ((Ad hd ((hd.length:Int)-1)).fPairs) ((Ad hd ((hd.length:Int)-1)).fLeft) ((Ad hd ((hd.length:Int)-1)).fKey) ((Ad v hb).fStr) ((Ad hd ((hd.length:Int)-1)).fStarted))))]) Aa (bd gd λhr hu gf=>?_)))))))))));rw[← hu];refine wv (r:=rv (Em 5 he (CU ((hd.length:Int)-1)) 0)) (BK (k:=3) Aa (B4 (Ch hj hu)) Aa Aa) (wv (r:=rv (Em 5 he (CU ((hd.length:Int)-1)) 4)) (Eh (k:=3) GK Aa I0 Aa (B4 (Ch hj hu)) Aa Aa Aa) (Jk (enc:=Av) (ys:=hr) (y':=(Aw.mk ((Ad hr ((hd.length:Int)-1)).fPairs) ((Ad hr ((hd.length:Int)-1)).fLeft) ((Ad hr ((hd.length:Int)-1)).fKey) ((Ad hr ((hd.length:Int)-1)).fLast) true)) (i:=3) (j:=(hd.length:Int)-1) I0 Aa Aa (Cc Aa) Aa (Ch hj hu) Aa Aa (H':=[.blk hf (Ac (Ad v hb)) 63,.blk b2 (AO ha) 105,.blk b1 [Ak 0,Ak 0,rB false,rB false] 105,.row he 120 5 (Au Av (List.set hr (CU ((hd.length:Int)-1)) (Aw.mk ((Ad hr ((hd.length:Int)-1)).fPairs) ((Ad hr ((hd.length:Int)-1)).fLeft) ((Ad hr ((hd.length:Int)-1)).fKey) ((Ad hr ((hd.length:Int)-1)).fLast) true)))]) Aa (bd gf λhs h1 gg=>?_)));rw[← h1];refine wv (r:=rv (Em 5 he (CU ((hd.length:Int)-1)) 0)) (BK (k:=3) Aa (B4 (Ch (Ch hj hu) h1)) Aa Aa) (wv (r:=rv (Em 5 he (CU ((hd.length:Int)-1)) 2)) (Eh (k:=3) GK Aa I0 Aa (B4 (Ch (Ch hj hu) h1)) Aa Aa Aa) (Jk (enc:=Av) (ys:=hs) (y':=(Aw.mk ((Ad hs ((hd.length:Int)-1)).fPairs) ((Ad hs ((hd.length:Int)-1)).fLeft) false ((Ad hs ((hd.length:Int)-1)).fLast) ((Ad hs ((hd.length:Int)-1)).fStarted))) (i:=3) (j:=(hd.length:Int)-1) I0 Aa Aa (Cc Aa) Aa (Ch (Ch hj hu) h1) Aa Aa (H':=[.blk hf (Ac (Ad v hb)) 63,.blk b2 (AO ha) 105,.blk b1 [Ak 0,Ak 0,rB false,rB false] 105,.row he 120 5 (Au Av (List.set hs (CU ((hd.length:Int)-1)) (Aw.mk ((Ad hs ((hd.length:Int)-1)).fPairs) ((Ad hs ((hd.length:Int)-1)).fLeft) false ((Ad hs ((hd.length:Int)-1)).fLast) ((Ad hs ((hd.length:Int)-1)).fStarted))))]) Aa (bd gg λht gh gi=>?_)));rw[← gh];refine A3 (A1 (ob gi λhl gj gl=>ck gl λgm gp=>Ha (H1:=[.blk hf (Ac (Ad v hb)) 63,.blk b2 [Ak ha.fDepth,Ak (IntKind.wrap .i64 (ha.fBytes+(hl+1))),rB ha.fOutside,rB ha.fLong] 105,.blk b1 [Ak 0,Ak 0,rB false,rB false] 105,.row he 120 5 (Au Av ht)]) [0,3,5,6,8,11,12,13,38,39,40,41] [⟨[],rP b2 1,0⟩,⟨[0],Ak ha.fBytes,1⟩,⟨[],rP hf 2,0⟩,⟨[2],rS ((Ad v hb).fStr),1⟩,⟨[3],Ak hl,0⟩,⟨[4],Ak (hl+1),0⟩,⟨[1,5],Ak (IntKind.wrap .i64 (ha.fBytes+(hl+1))),0⟩,⟨[],rP b2 1,0⟩,⟨[7,6],rv undef,2⟩] (rle [(9,_),(1,[.blk hf (Ac (Ad v hb)) 63,.blk b2 [Ak ha.fDepth,Ak (IntKind.wrap .i64 (ha.fBytes+(hl+1))),rB ha.fOutside,rB ha.fLong] 105,.blk b1 [Ak 0,Ak 0,rB false,rB false] 105,.row he 120 5 (Au Av ht)])]) [68,69,70,71,72,73,74,75,0,3,5,6,8,11,12,13,38,39,40,41] ?_ ?_))
       ·refine oq (AS Dp Aa C9 Aa Aa) (of (B6 (i:=1) DY Aa Aa Aa) (oq (AS BU Aa DX Aa Aa) (of (B6 (i:=0) Er Aa Aa Aa) (Cm Aa (λH=>D8 Tryz.call77 (L9 ((Ad v hb).fStr) hl gj) Aa) ?_))));refine oq (Cy Aa Aa gm) (oq (OE Aa Aa) (oq (AS Dp Aa C9 Aa Aa) (KD Aa (N8 (Mf (i:=1) C9 Aa Aa (Cc Aa) Aa Aa (cs':=[Ak ha.fDepth,Ak (IntKind.wrap .i64 (ha.fBytes+(hl+1))),rB ha.fOutside,rB ha.fLong]) Aa (H':=[.blk hf (Ac (Ad v hb)) 63,.blk b2 [Ak ha.fDepth,Ak (IntKind.wrap .i64 (ha.fBytes+(hl+1))),rB ha.fOutside,rB ha.fLong] 105,.blk b1 [Ak 0,Ak 0,rB false,rB false] 105,.row he 120 5 (Au Av ht)]) Aa)) ?_)));exact CE
       refine Bf (Bc [(0,AH 4 (Au Ac v)),(3,rP b1 0),(5,rP b2 0),(6,rv he),(11,AH 4 (Au Ac v)),(12,Ak (v.length:Int)),(13,Ak hb),(38,rP hf 0),(39,Ak ((Ad v hb).fKind)),(40,rB (!decide (((Ad v hb).fKind)=4))),(41,rB (!decide (((Ad v hb).fKind)=4))),(68,rP b2 1),(69,Ak ha.fBytes),(70,rP hf 2),(71,rS ((Ad v hb).fStr)),(72,Ak hl),(73,Ak (hl+1)),(74,Ak (IntKind.wrap .i64 (ha.fBytes+(hl+1)))),(75,rP b2 1)] [.blk hf (Ac (Ad v hb)) 63,.blk b2 [Ak ha.fDepth,Ak (IntKind.wrap .i64 (ha.fBytes+(hl+1))),rB ha.fOutside,rB (ha.fLong||(decide (200<(((Ad v hb).fStr).length:Int))))] 105,.blk b1 [Ak 0,Ak 0,rB false,rB false] 105,.row he 120 5 (Au Av ht)] ?_ ?_)
       ·refine AD (vF Dp Aa I0 (vL 1 SA Aa (wm Aa (Be (ha.fLong) (λho=>?_) (λho=>?_)))))
        ·refine wf ho (wf ho (wf ho (wf ho (wv (r:=rB true) (A6 rfl ho rfl) (vF Dp rfl I0 (BQ (i:=1) I0 rfl rfl (Cc rfl) rfl rfl (cs':=[Ak ha.fDepth,Ak (IntKind.wrap .i64 (ha.fBytes+(hl+1))),rB ha.fOutside,rB true]) rfl (H':=[.blk hf (Ac (Ad v hb)) 63,.blk b2 [Ak ha.fDepth,Ak (IntKind.wrap .i64 (ha.fBytes+(hl+1))),rB ha.fOutside,rB true] 105,.blk b1 [Ak 0,Ak 0,rB false,rB false] 105,.row he 120 5 (Au Av ht)]) rfl (A5 (Ib (H':=[.blk hf (Ac (Ad v hb)) 63,.blk b2 [Ak ha.fDepth,Ak (IntKind.wrap .i64 (ha.fBytes+(hl+1))),rB ha.fOutside,rB (ha.fLong||(decide (200<(((Ad v hb).fStr).length:Int))))] 105,.blk b1 [Ak 0,Ak 0,rB false,rB false] 105,.row he 120 5 (Au Av ht)]) (by simp only[ho,V3,VH,VW,V6,VQ,VF,VP,VX,Vw,VL,Vq,Vl]) ?_))))))));exact wt
        ·refine wo ho (vF BU rfl DX (wo ho (vL 0 Er rfl (wo ho (wv (Dg GV rfl) (wo ho (wv (Gc rfl rfl) (Kw rfl ho rfl (vF Dp rfl I0 (BQ (i:=1) I0 rfl rfl (Cc rfl) rfl rfl (cs':=[Ak ha.fDepth,Ak (IntKind.wrap .i64 (ha.fBytes+(hl+1))),rB ha.fOutside,rB (decide (200<(((Ad v hb).fStr).length:Int)))]) rfl (H':=[.blk hf (Ac (Ad v hb)) 63,.blk b2 [Ak ha.fDepth,Ak (IntKind.wrap .i64 (ha.fBytes+(hl+1))),rB ha.fOutside,rB (decide (200<(((Ad v hb).fStr).length:Int)))] 105,.blk b1 [Ak 0,Ak 0,rB false,rB false] 105,.row he 120 5 (Au Av ht)]) rfl (A5 (Ib (H':=[.blk hf (Ac (Ad v hb)) 63,.blk b2 [Ak ha.fDepth,Ak (IntKind.wrap .i64 (ha.fBytes+(hl+1))),rB ha.fOutside,rB (ha.fLong||(decide (200<(((Ad v hb).fStr).length:Int))))] 105,.blk b1 [Ak 0,Ak 0,rB false,rB false] 105,.row he 120 5 (Au Av ht)]) (by simp only[ho,V3,VH,VW,V6,VQ,VF,VP,VX,Vw,VL,Vq,Vl]) ?_))))))))))));exact wt
       exact BM (AI (Bw (AL (AW ((ht,(A4.mk ha.fDepth (IntKind.wrap .i64 (ha.fBytes+(hl+1))) ha.fOutside (ha.fLong||(decide (200<(((Ad v hb).fStr).length:Int)))))),he) gp (AZ.c Aa (AZ.c Aa (AZ.c5 Aa Aa Aa Aa Aa AZ.nil))) (sS (sC (sC (sC sN))))))))
     ·refine AG (Bf (As (vF Dp Aa C9 (vL 1 DY Aa (wm Aa (wv (Ed (ys:=hd) (enc:=Av) (i:=3) GL Aa Aa) (ck hX λgq gr=>wv (Cy Aa Aa gq) (wv (T3 UF Aa Aa) (vF Dp Aa C9 (BQ (i:=1) C9 Aa Aa (Cc Aa) Aa Aa (cs':=[Ak (max ha.fDepth ((hd.length:Int)+1)),Ak ha.fBytes,rB ha.fOutside,rB ha.fLong]) Aa (H':=[.blk hf (Ac (Ad v hb)) 63,.blk b2 [Ak (max ha.fDepth ((hd.length:Int)+1)),Ak ha.fBytes,rB ha.fOutside,rB ha.fLong] 105,.blk b1 [Ak 0,Ak 0,rB false,rB false] 105,.row he 120 5 (Au Av hd)]) Aa (A3 (A1 (ob gr λhg gs gt=>Ha (H1:=[.blk hf (Ac (Ad v hb)) 63,.blk b2 [Ak (max ha.fDepth ((hd.length:Int)+1)),Ak (IntKind.wrap .i64 (ha.fBytes+hg)),rB ha.fOutside,rB ha.fLong] 105,.blk b1 [Ak 0,Ak 0,rB false,rB false] 105,.row he 120 5 (Au Av hd)]) [0,3,5,6,7,8,11,12,13] [⟨[],rP b2 1,0⟩,⟨[0],Ak ha.fBytes,1⟩,⟨[],Bb (Ac (Ad v hb)),1⟩,⟨[2],Ak hg,0⟩,⟨[1,3],Ak (IntKind.wrap .i64 (ha.fBytes+hg)),0⟩,⟨[],rP b2 1,0⟩,⟨[5,4],rv undef,2⟩] (rle [(7,_),(1,[.blk hf (Ac (Ad v hb)) 63,.blk b2 [Ak (max ha.fDepth ((hd.length:Int)+1)),Ak (IntKind.wrap .i64 (ha.fBytes+hg)),rB ha.fOutside,rB ha.fLong] 105,.blk b1 [Ak 0,Ak 0,rB false,rB false] 105,.row he 120 5 (Au Av hd)])]) [92,93,94,95,96,97,0,3,5,6,7,8,11,12,13] ?_ ?_)))))))))))))
      ·refine oq (AS Dp Aa C9 Aa Aa) (of (B6 (i:=1) DY Aa Aa Aa) (of (Bl (i:=0) Ml Da Aa Aa Aa Aa) (Cm Aa (λH=>D8 Tryz.call78 (SD (Ad v hb) hg gs) Aa) ?_)));refine oq (OE Aa Aa) (oq (AS Dp Aa C9 Aa Aa) (KD Aa (N8 (Mf (i:=1) C9 Aa Aa (Cc Aa) Aa Aa (cs':=[Ak (max ha.fDepth ((hd.length:Int)+1)),Ak (IntKind.wrap .i64 (ha.fBytes+hg)),rB ha.fOutside,rB ha.fLong]) Aa (H':=[.blk hf (Ac (Ad v hb)) 63,.blk b2 [Ak (max ha.fDepth ((hd.length:Int)+1)),Ak (IntKind.wrap .i64 (ha.fBytes+hg)),rB ha.fOutside,rB ha.fLong] 105,.blk b1 [Ak 0,Ak 0,rB false,rB false] 105,.row he 120 5 (Au Av hd)]) Aa)) ?_));exact CE
      refine Bf (ck gt λgu gv=>Bc [(0,AH 4 (Au Ac v)),(3,rP b1 0),(5,rP b2 0),(6,rv he),(7,Ak hb),(8,rP hf 0),(11,AH 4 (Au Ac v)),(12,Ak (v.length:Int)),(13,Ak hb),(92,rP b2 1),(93,Ak ha.fBytes),(94,Bb (Ac (Ad v hb))),(95,Ak hg),(96,Ak (IntKind.wrap .i64 (ha.fBytes+hg))),(97,rP b2 1)] [.blk hf (Ac (Ad v hb)) 63,.blk b2 [Ak (max ha.fDepth ((hd.length:Int)+1)),Ak (IntKind.wrap .i64 (ha.fBytes+hg)),rB (ha.fOutside||((decide (((Ad v hb).fKind)=3))&&(!(ov (Bn ((Ad v hb).fInt)))))),rB ha.fLong] 105,.blk b1 [Ak 0,Ak 0,rB false,rB false] 105,.row he 120 5 (Au Av hd)] ?_ ?_)
      ·refine AD (vF Dp Aa I0 (vL 1 SA Aa (wm Aa (Be (ha.fOutside) (λhm=>?_) (λhm=>?_)))))
       ·refine wf hm (wf hm (wf hm (wf hm (wu (wu (wu (wu (wf hm (wv (r:=rB true) (A6 rfl hm rfl) (vF Dp rfl I0 (BQ (i:=1) I0 rfl rfl (Cc rfl) rfl rfl (cs':=[Ak (max ha.fDepth ((hd.length:Int)+1)),Ak (IntKind.wrap .i64 (ha.fBytes+hg)),rB true,rB ha.fLong]) rfl (H':=[.blk hf (Ac (Ad v hb)) 63,.blk b2 [Ak (max ha.fDepth ((hd.length:Int)+1)),Ak (IntKind.wrap .i64 (ha.fBytes+hg)),rB true,rB ha.fLong] 105,.blk b1 [Ak 0,Ak 0,rB false,rB false] 105,.row he 120 5 (Au Av hd)]) rfl (A5 (Ib (H':=[.blk hf (Ac (Ad v hb)) 63,.blk b2 [Ak (max ha.fDepth ((hd.length:Int)+1)),Ak (IntKind.wrap .i64 (ha.fBytes+hg)),rB (ha.fOutside||((decide (((Ad v hb).fKind)=3))&&(!(ov (Bn ((Ad v hb).fInt)))))),rB ha.fLong] 105,.blk b1 [Ak 0,Ak 0,rB false,rB false] 105,.row he 120 5 (Au Av hd)]) (by simp only[hm,V3,VH,VW,V6,VQ,VF,VP,VX,Vw,VL,Vq,Vl]) ?_)))))))))))));exact wt
       ·refine wo hm (vF BU Aa JU (wo hm (vL 0 JW Aa (wo hm (wv (BW Aa Aa) (wo hm (wm Aa (Be (decide (((Ad v hb).fKind)=3)) (λhn=>?_) (λhn=>?_)))))))))
        ·refine wo hn (vF BU rfl C9 (wo hn (vL 0 DY rfl (wo hn (Dr Tryz.call79 (KF ((Ad v hb).fInt) (ov (Bn ((Ad v hb).fInt))) (Jt (Hp (NW gu hm) hn))) rfl (wo hn (wv (BS rfl) (wo hm (GW rfl hn rfl (Kw rfl hm rfl (vF Dp rfl I0 (BQ (i:=1) I0 rfl rfl (Cc rfl) rfl rfl (cs':=[Ak (max ha.fDepth ((hd.length:Int)+1)),Ak (IntKind.wrap .i64 (ha.fBytes+hg)),rB (!(ov (Bn ((Ad v hb).fInt)))),rB ha.fLong]) rfl (H':=[.blk hf (Ac (Ad v hb)) 63,.blk b2 [Ak (max ha.fDepth ((hd.length:Int)+1)),Ak (IntKind.wrap .i64 (ha.fBytes+hg)),rB (!(ov (Bn ((Ad v hb).fInt)))),rB ha.fLong] 105,.blk b1 [Ak 0,Ak 0,rB false,rB false] 105,.row he 120 5 (Au Av hd)]) rfl (A5 (Ib (H':=[.blk hf (Ac (Ad v hb)) 63,.blk b2 [Ak (max ha.fDepth ((hd.length:Int)+1)),Ak (IntKind.wrap .i64 (ha.fBytes+hg)),rB (ha.fOutside||((decide (((Ad v hb).fKind)=3))&&(!(ov (Bn ((Ad v hb).fInt)))))),rB ha.fLong] 105,.blk b1 [Ak 0,Ak 0,rB false,rB false] 105,.row he 120 5 (Au Av hd)]) (by simp only[hm,hn,V3,VH,VW,V6,VQ,VF,VP,VX,Vw,VL,Vq,Vl]) ?_))))))))))))));exact wt
        ·refine wf hn (wf hn (wf hn (wf hn (wo hm (wv (r:=rB false) (AC rfl hn rfl) (Kw rfl hm rfl (vF Dp rfl I0 (BQ (i:=1) I0 rfl rfl (Cc rfl) rfl rfl (cs':=[Ak (max ha.fDepth ((hd.length:Int)+1)),Ak (IntKind.wrap .i64 (ha.fBytes+hg)),rB false,rB ha.fLong]) rfl (H':=[.blk hf (Ac (Ad v hb)) 63,.blk b2 [Ak (max ha.fDepth ((hd.length:Int)+1)),Ak (IntKind.wrap .i64 (ha.fBytes+hg)),rB false,rB ha.fLong] 105,.blk b1 [Ak 0,Ak 0,rB false,rB false] 105,.row he 120 5 (Au Av hd)]) rfl (A5 (Ib (H':=[.blk hf (Ac (Ad v hb)) 63,.blk b2 [Ak (max ha.fDepth ((hd.length:Int)+1)),Ak (IntKind.wrap .i64 (ha.fBytes+hg)),rB (ha.fOutside||((decide (((Ad v hb).fKind)=3))&&(!(ov (Bn ((Ad v hb).fInt)))))),rB ha.fLong] 105,.blk b1 [Ak 0,Ak 0,rB false,rB false] 105,.row he 120 5 (Au Av hd)]) (by simp only[hm,hn,V3,VH,VW,V6,VQ,VF,VP,VX,Vw,VL,Vq,Vl]) ?_))))))))));exact wt
      refine Bc [(0,AH 4 (Au Ac v)),(3,rP b1 0),(5,rP b2 0),(6,rv he),(7,Ak hb),(8,rP hf 0),(11,AH 4 (Au Ac v)),(12,Ak (v.length:Int)),(13,Ak hb),(92,rP b2 1),(93,Ak ha.fBytes),(94,Bb (Ac (Ad v hb))),(95,Ak hg),(96,Ak (IntKind.wrap .i64 (ha.fBytes+hg))),(97,rP b2 1)] [.blk hf (Ac (Ad v hb)) 63,.blk b2 [Ak (max ha.fDepth ((hd.length:Int)+1)),Ak (IntKind.wrap .i64 (ha.fBytes+hg)),rB (ha.fOutside||((decide (((Ad v hb).fKind)=3))&&(!(ov (Bn ((Ad v hb).fInt)))))),rB (ha.fLong||(decide (200<(((Ad v hb).fStr).length:Int))))] 105,.blk b1 [Ak 0,Ak 0,rB false,rB false] 105,.row he 120 5 (Au Av hd)] ?_ ?_
      ·refine AD (vF Dp Aa I0 (vL 1 SA Aa (wm Aa (Be (ha.fLong) (λhp=>?_) (λhp=>?_)))))
       ·refine wf hp (wf hp (wf hp (wf hp (wv (r:=rB true) (A6 rfl hp rfl) (vF Dp rfl I0 (BQ (i:=1) I0 rfl rfl (Cc rfl) rfl rfl (cs':=[Ak (max ha.fDepth ((hd.length:Int)+1)),Ak (IntKind.wrap .i64 (ha.fBytes+hg)),rB (ha.fOutside||((decide (((Ad v hb).fKind)=3))&&(!(ov (Bn ((Ad v hb).fInt)))))),rB true]) rfl (H':=[.blk hf (Ac (Ad v hb)) 63,.blk b2 [Ak (max ha.fDepth ((hd.length:Int)+1)),Ak (IntKind.wrap .i64 (ha.fBytes+hg)),rB (ha.fOutside||((decide (((Ad v hb).fKind)=3))&&(!(ov (Bn ((Ad v hb).fInt)))))),rB true] 105,.blk b1 [Ak 0,Ak 0,rB false,rB false] 105,.row he 120 5 (Au Av hd)]) rfl (A5 (Ib (H':=[.blk hf (Ac (Ad v hb)) 63,.blk b2 [Ak (max ha.fDepth ((hd.length:Int)+1)),Ak (IntKind.wrap .i64 (ha.fBytes+hg)),rB (ha.fOutside||((decide (((Ad v hb).fKind)=3))&&(!(ov (Bn ((Ad v hb).fInt)))))),rB (ha.fLong||(decide (200<(((Ad v hb).fStr).length:Int))))] 105,.blk b1 [Ak 0,Ak 0,rB false,rB false] 105,.row he 120 5 (Au Av hd)]) (by simp only[hp,V3,VH,VW,V6,VQ,VF,VP,VX,Vw,VL,Vq,Vl]) ?_))))))));exact wt
       ·refine wo hp (vF BU rfl DX (wo hp (vL 0 Er rfl (wo hp (wv (Dg GV rfl) (wo hp (wv (Gc rfl rfl) (Kw rfl hp rfl (vF Dp rfl I0 (BQ (i:=1) I0 rfl rfl (Cc rfl) rfl rfl (cs':=[Ak (max ha.fDepth ((hd.length:Int)+1)),Ak (IntKind.wrap .i64 (ha.fBytes+hg)),rB (ha.fOutside||((decide (((Ad v hb).fKind)=3))&&(!(ov (Bn ((Ad v hb).fInt)))))),rB (decide (200<(((Ad v hb).fStr).length:Int)))]) rfl (H':=[.blk hf (Ac (Ad v hb)) 63,.blk b2 [Ak (max ha.fDepth ((hd.length:Int)+1)),Ak (IntKind.wrap .i64 (ha.fBytes+hg)),rB (ha.fOutside||((decide (((Ad v hb).fKind)=3))&&(!(ov (Bn ((Ad v hb).fInt)))))),rB (decide (200<(((Ad v hb).fStr).length:Int)))] 105,.blk b1 [Ak 0,Ak 0,rB false,rB false] 105,.row he 120 5 (Au Av hd)]) rfl (A5 (Ib (H':=[.blk hf (Ac (Ad v hb)) 63,.blk b2 [Ak (max ha.fDepth ((hd.length:Int)+1)),Ak (IntKind.wrap .i64 (ha.fBytes+hg)),rB (ha.fOutside||((decide (((Ad v hb).fKind)=3))&&(!(ov (Bn ((Ad v hb).fInt)))))),rB (ha.fLong||(decide (200<(((Ad v hb).fStr).length:Int))))] 105,.blk b1 [Ak 0,Ak 0,rB false,rB false] 105,.row he 120 5 (Au Av hd)]) (by simp only[hp,V3,VH,VW,V6,VQ,VF,VP,VX,Vw,VL,Vq,Vl]) ?_))))))))))));exact wt
      refine A1 (As (vF BU Aa C9 (vL 0 DY Aa (wv (Gc Aa Aa) (A3 (cz gv Aa (λgw gx=>?_) (λgw gy=>?_)))))))
      ·refine A1 (As (vF BU Aa C9 (vL 0 DY Aa (wm Aa (wv (Bk (ys:=v) (enc:=Ac) CB Aa) (wv (Gc Aa Aa) (A3 (cz gx Aa (λgz g0=>?_) (λgz g1=>?_)))))))))
       ·refine A1 (Ha (H1:=[.blk hf (Ac (Ad v hb)) 63,.blk b2 [Ak (max ha.fDepth ((hd.length:Int)+1)),Ak (IntKind.wrap .i64 (ha.fBytes+hg)),rB (ha.fOutside||((decide (((Ad v hb).fKind)=3))&&(!(ov (Bn ((Ad v hb).fInt)))))),rB (ha.fLong||(decide (200<(((Ad v hb).fStr).length:Int))))] 105,.blk b1 [Ak (max ha.fDepth ((hd.length:Int)+1)),Ak (IntKind.wrap .i64 (ha.fBytes+hg)),rB (ha.fOutside||((decide (((Ad v hb).fKind)=3))&&(!(ov (Bn ((Ad v hb).fInt)))))),rB (ha.fLong||(decide (200<(((Ad v hb).fStr).length:Int))))] 105,.row he 120 5 (Au Av hd)]) [3,5] [⟨[],Bb [Ak (max ha.fDepth ((hd.length:Int)+1)),Ak (IntKind.wrap .i64 (ha.fBytes+hg)),rB (ha.fOutside||((decide (((Ad v hb).fKind)=3))&&(!(ov (Bn ((Ad v hb).fInt)))))),rB (ha.fLong||(decide (200<(((Ad v hb).fStr).length:Int))))],1⟩,⟨[],Ak 0,0⟩,⟨[0],rv undef,2⟩,⟨[],rB false,0⟩] (rle [(3,_),(2,[.blk hf (Ac (Ad v hb)) 63,.blk b2 [Ak (max ha.fDepth ((hd.length:Int)+1)),Ak (IntKind.wrap .i64 (ha.fBytes+hg)),rB (ha.fOutside||((decide (((Ad v hb).fKind)=3))&&(!(ov (Bn ((Ad v hb).fInt)))))),rB (ha.fLong||(decide (200<(((Ad v hb).fStr).length:Int))))] 105,.blk b1 [Ak (max ha.fDepth ((hd.length:Int)+1)),Ak (IntKind.wrap .i64 (ha.fBytes+hg)),rB (ha.fOutside||((decide (((Ad v hb).fKind)=3))&&(!(ov (Bn ((Ad v hb).fInt)))))),rB (ha.fLong||(decide (200<(((Ad v hb).fStr).length:Int))))] 105,.row he 120 5 (Au Av hd)])]) [2,4,3] ?_ ?_)
        ·refine of (Bl (i:=1) HQ Ej Aa Aa Aa Aa) (oq (AT Aa) (KD Aa (N8 (CA (i:=2) Ej Aa Aa Aa (Bm.c Aa) Aa Aa (cs':=[Ak (max ha.fDepth ((hd.length:Int)+1)),Ak (IntKind.wrap .i64 (ha.fBytes+hg)),rB (ha.fOutside||((decide (((Ad v hb).fKind)=3))&&(!(ov (Bn ((Ad v hb).fInt)))))),rB (ha.fLong||(decide (200<(((Ad v hb).fStr).length:Int))))]) Aa (H':=[.blk hf (Ac (Ad v hb)) 63,.blk b2 [Ak (max ha.fDepth ((hd.length:Int)+1)),Ak (IntKind.wrap .i64 (ha.fBytes+hg)),rB (ha.fOutside||((decide (((Ad v hb).fKind)=3))&&(!(ov (Bn ((Ad v hb).fInt)))))),rB (ha.fLong||(decide (200<(((Ad v hb).fStr).length:Int))))] 105,.blk b1 [Ak (max ha.fDepth ((hd.length:Int)+1)),Ak (IntKind.wrap .i64 (ha.fBytes+hg)),rB (ha.fOutside||((decide (((Ad v hb).fKind)=3))&&(!(ov (Bn ((Ad v hb).fInt)))))),rB (ha.fLong||(decide (200<(((Ad v hb).fStr).length:Int))))] 105,.row he 120 5 (Au Av hd)]) Aa)) ?_));refine oq (AT Aa) ?_;exact CE
        refine Bf (A8 (An (An (AQ (An (An (B5 ?_)))))));have g2:=Cl g0 hx hy;refine AQ (An (I1 ?_));obtain rfl:=A9 g2;exact A7 (QN QT (AX Aa) (Ci (i:=2) HQ Ej Aa Aa Aa) (AX Aa)) (sS (sS (sS (sS sN)))) ⟨Aa,Aa⟩
       ·refine AG (Bf (As (wm Aa (vF BU Aa JU (vL 0 JW Aa (wv (BW Aa Aa) (vF BU Aa C9 (vL 0 DY Aa (vF BU Aa JU (vL 0 JW Aa (wv (BW Aa Aa) (wv (r:=Bb [rB (decide (((Ad v hb).fKind)=6)),Ak ((Ad v hb).fN),rB (decide (((Ad v hb).fKind)=6)),rS ([]:Am),rB false]) (Jw Aa Aa Aa Aa Aa Aa) (Bq (ys:=([(Aw.mk (decide (((Ad v hb).fKind)=6)) ((Ad v hb).fN) (decide (((Ad v hb).fKind)=6)) ([]:Am) false)]:List Aw)) (enc:=Av) (css:=[[rB (decide (((Ad v hb).fKind)=6)),Ak ((Ad v hb).fN),rB (decide (((Ad v hb).fKind)=6)),rS ([]:Am),rB false]]) (xs:=[.tmp 139]) GL Nh Tryz.zeroValue120 Aa Aa Aa ⟨Kt.agg ⟨Up.refl _,Up.refl _,Up.refl _,Up.refl _,Up.refl _,trivial⟩,trivial⟩ Aa GO Aa Aa Aa (λg3=>?_))))))))))))));refine ck g1 λg4 g5=>Exists.elim Tc λinf hinf=>DZ (xs:=hd) (ys:=([(Aw.mk (decide (((Ad v hb).fKind)=6)) ((Ad v hb).fN) (decide (((Ad v hb).fKind)=6)) ([]:Am) false)]:List Aw)) (enc:=Av) (i:=4) GL hinf.1 hinf.2.1 hinf.2.2.1 hinf.2.2.2 Aa Aa Aa Aa Aa (PL.w (i:=0) Aa Aa) GO Ka g4 Aa (λh9=>?_);exact wa Aa (A3 (BM (AI (Bw (CD (H2:=[.blk b2 [Ak (max ha.fDepth ((hd.length:Int)+1)),Ak (IntKind.wrap .i64 (ha.fBytes+hg)),rB (ha.fOutside||((decide (((Ad v hb).fKind)=3))&&(!(ov (Bn ((Ad v hb).fInt)))))),rB (ha.fLong||(decide (200<(((Ad v hb).fStr).length:Int))))] 105,.blk b1 [Ak 0,Ak 0,rB false,rB false] 105,.row h9 120 5 (Au Av (hd++([(Aw.mk (decide (((Ad v hb).fKind)=6)) ((Ad v hb).fN) (decide (((Ad v hb).fKind)=6)) ([]:Am) false)]:List Aw))),.row (.slice (some ⟨g3,0,none⟩) 1 1) 120 5 (Au Av ([(Aw.mk (decide (((Ad v hb).fKind)=6)) ((Ad v hb).fN) (decide (((Ad v hb).fKind)=6)) ([]:Am) false)]:List Aw)),.blk hf (Ac (Ad v hb)) 63]) ((Al (i:=3) Aa).trans (Vd _ ((Al (i:=3) Aa).trans (Vd _ (Vh _))))) (AL (AW ((hd++([(Aw.mk (decide (((Ad v hb).fKind)=6)) ((Ad v hb).fN) (decide (((Ad v hb).fKind)=6)) ([]:Am) false)]:List Aw),(A4.mk (max ha.fDepth ((hd.length:Int)+1)) (IntKind.wrap .i64 (ha.fBytes+hg)) (ha.fOutside||((decide (((Ad v hb).fKind)=3))&&(!(ov (Bn ((Ad v hb).fInt)))))) (ha.fLong||(decide (200<(((Ad v hb).fStr).length:Int)))))),h9) g5 (AZ.c Aa (AZ.c Aa (AZ.c5 Aa Aa Aa Aa Aa AZ.nil))) (sC (sC (sC (sS (sS sN))))))))))))
      ·refine AG (Bf (As (wm Aa (ob gy λhw g6 g7=>HP (Hr:=[.blk hf (Ac (Ad v hb)) 63,.blk b2 [Ak (max ha.fDepth ((hd.length:Int)+1)),Ak (IntKind.wrap .i64 (ha.fBytes+hg)),rB (ha.fOutside||((decide (((Ad v hb).fKind)=3))&&(!(ov (Bn ((Ad v hb).fInt)))))),rB (ha.fLong||(decide (200<(((Ad v hb).fStr).length:Int))))] 105,.blk b1 [Ak 0,Ak 0,rB false,rB false] 105]) Tryz.call80 (PU F he hd hw g6) Aa ((Al (i:=3) Aa).trans (Vd _ (Vh _))) Aa ?_))));rintro _ _ ⟨hz,rfl,rfl⟩;refine wa Aa (BH (wm Aa (wv (Ed (ys:=hw) (enc:=Av) (i:=0) GL Aa Aa) (wv (BW Aa Aa) (A3 (cz g7 Aa (λg8 g9=>?_) (λg8 gA=>?_)))))))
       ·refine A1 (ck g9 λgB gC=>Ha (H1:=[.row hz 120 5 (Au Av hw),.blk hf (Ac (Ad v hb)) 63,.blk b2 [Ak (max ha.fDepth ((hd.length:Int)+1)),Ak (IntKind.wrap .i64 (ha.fBytes+hg)),rB (ha.fOutside||((decide (((Ad v hb).fKind)=3))&&(!(ov (Bn ((Ad v hb).fInt)))))),rB (ha.fLong||(decide (200<(((Ad v hb).fStr).length:Int))))] 105,.blk b1 [Ak (max ha.fDepth ((hd.length:Int)+1)),Ak (IntKind.wrap .i64 (ha.fBytes+hg)),rB (ha.fOutside||((decide (((Ad v hb).fKind)=3))&&(!(ov (Bn ((Ad v hb).fInt)))))),rB (ha.fLong||(decide (200<(((Ad v hb).fStr).length:Int))))] 105]) [3,5,7] [⟨[],Ak hb,0⟩,⟨[0],Ak (hb+1),0⟩,⟨[],Bb [Ak (max ha.fDepth ((hd.length:Int)+1)),Ak (IntKind.wrap .i64 (ha.fBytes+hg)),rB (ha.fOutside||((decide (((Ad v hb).fKind)=3))&&(!(ov (Bn ((Ad v hb).fInt)))))),rB (ha.fLong||(decide (200<(((Ad v hb).fStr).length:Int))))],1⟩,⟨[1],Ak (hb+1),0⟩,⟨[2],rv undef,2⟩,⟨[],rB true,0⟩] (rle [(5,_),(2,[.row hz 120 5 (Au Av hw),.blk hf (Ac (Ad v hb)) 63,.blk b2 [Ak (max ha.fDepth ((hd.length:Int)+1)),Ak (IntKind.wrap .i64 (ha.fBytes+hg)),rB (ha.fOutside||((decide (((Ad v hb).fKind)=3))&&(!(ov (Bn ((Ad v hb).fInt)))))),rB (ha.fLong||(decide (200<(((Ad v hb).fStr).length:Int))))] 105,.blk b1 [Ak (max ha.fDepth ((hd.length:Int)+1)),Ak (IntKind.wrap .i64 (ha.fBytes+hg)),rB (ha.fOutside||((decide (((Ad v hb).fKind)=3))&&(!(ov (Bn ((Ad v hb).fInt)))))),rB (ha.fLong||(decide (200<(((Ad v hb).fStr).length:Int))))] 105])]) [2,4,3] ?_ ?_)
        ·refine oq (Ap Aa) (oq (Cy Aa Aa gB) (of (Bl (i:=2) HQ Ej Aa Aa Aa Aa) (oq (AT Aa) (KD Aa (N8 (CA (i:=3) Ej Aa Aa Aa (Bm.c Aa) Aa Aa (cs':=[Ak (max ha.fDepth ((hd.length:Int)+1)),Ak (IntKind.wrap .i64 (ha.fBytes+hg)),rB (ha.fOutside||((decide (((Ad v hb).fKind)=3))&&(!(ov (Bn ((Ad v hb).fInt)))))),rB (ha.fLong||(decide (200<(((Ad v hb).fStr).length:Int))))]) Aa (H':=[.row hz 120 5 (Au Av hw),.blk hf (Ac (Ad v hb)) 63,.blk b2 [Ak (max ha.fDepth ((hd.length:Int)+1)),Ak (IntKind.wrap .i64 (ha.fBytes+hg)),rB (ha.fOutside||((decide (((Ad v hb).fKind)=3))&&(!(ov (Bn ((Ad v hb).fInt)))))),rB (ha.fLong||(decide (200<(((Ad v hb).fStr).length:Int))))] 105,.blk b1 [Ak (max ha.fDepth ((hd.length:Int)+1)),Ak (IntKind.wrap .i64 (ha.fBytes+hg)),rB (ha.fOutside||((decide (((Ad v hb).fKind)=3))&&(!(ov (Bn ((Ad v hb).fInt)))))),rB (ha.fLong||(decide (200<(((Ad v hb).fStr).length:Int))))] 105]) Aa)) ?_))));refine oq (AT Aa) ?_;exact CE
        refine Bf (A8 (AQ (An (An (B5 ?_)))));have gD:=Cl gC hx hy;refine AQ (An (I1 ?_));obtain rfl:=A9 gD;exact A7 (QN QT (AX Aa) (Ci (i:=3) HQ Ej Aa Aa Aa) (AX Aa)) (sS (sS (sS (sS sN)))) ⟨Aa,Aa⟩
       ·exact AG (Bi (CD (H2:=[.blk b2 [Ak (max ha.fDepth ((hd.length:Int)+1)),Ak (IntKind.wrap .i64 (ha.fBytes+hg)),rB (ha.fOutside||((decide (((Ad v hb).fKind)=3))&&(!(ov (Bn ((Ad v hb).fInt)))))),rB (ha.fLong||(decide (200<(((Ad v hb).fStr).length:Int))))] 105,.blk b1 [Ak 0,Ak 0,rB false,rB false] 105,.row hz 120 5 (Au Av hw),.blk hf (Ac (Ad v hb)) 63]) ((Al (i:=2) Aa).trans (Vd _ ((Al (i:=2) Aa).trans (Vd _ (Vh _))))) (AL (AW ((hw,(A4.mk (max ha.fDepth ((hd.length:Int)+1)) (IntKind.wrap .i64 (ha.fBytes+hg)) (ha.fOutside||((decide (((Ad v hb).fKind)=3))&&(!(ov (Bn ((Ad v hb).fInt)))))) (ha.fLong||(decide (200<(((Ad v hb).fStr).length:Int)))))),hz) gA (AZ.c Aa (AZ.c Aa (AZ.c5 Aa Aa Aa Aa Aa AZ.nil))) (sC (sC (sC (sS sN))))))))
   ·rintro⟨⟨h6,h7⟩,h8⟩ h2;refine C7 (l':=[(0,AH 4 (Au Ac v)),(3,rP b1 0),(5,rP b2 0),(6,rv h8),(11,AH 4 (Au Ac v)),(12,Ak (v.length:Int)),(13,Ak hb)]) (H':=[.blk b2 (AO h7) 105,.blk b1 [Ak 0,Ak 0,rB false,rB false] 105,.row h8 120 5 (Au Av h6)]) Aa Aa ?_;replace h2:Db hb h6 h7=some h4:=h2;unfold Db at h2;refine AD (ck h2 λgE gF=>wv (Cy Aa Aa gE) (wm Aa (A5 ?_)));have gG:=BO gF hx;exact AL (AW (hD,(h6,hb+1,h7),h8) ⟨gG,Vy _⟩ (AZ.c Aa (AZ.c Aa (AZ.c5 Aa Aa Aa Aa Aa AZ.nil))) (sC (sC (sC sN))))
  ·refine BM (AI ?_);have gH:=CC hH hx hy;exact AI (B1 (AW (ha,()) gH (AZ.c Aa (AZ.c Aa AZ.nil)) (sC (sC (sS sN)))))
 ·rintro⟨hq,⟨⟩⟩ h3;refine DE (l':=[(3,rP b1 0),(5,rP b2 0)]) (H':=[.blk b2 (AO hq) 105,.blk b1 [Ak 0,Ak 0,rB false,rB false] 105]) Aa Aa ?_;replace h3:I3 hq=some r:=h3;unfold I3 at h3;refine Bw (Bf (A1 (Ha (H1:=[.blk b2 (AO hq) 105,.blk b1 (AO hq) 105]) [3,5] [⟨[],Bb (AO hq),1⟩,⟨[],Ak 0,0⟩,⟨[0],rv undef,2⟩,⟨[],rB false,0⟩] (rle [(3,_),(2,[.blk b2 (AO hq) 105,.blk b1 (AO hq) 105])]) [2,4,3] ?_ ?_)))
  ·refine of (Bl (i:=0) HQ Ej Aa Aa Aa Aa) (oq (AT Aa) (KD Aa (N8 (CA (i:=1) Ej Aa Aa Aa (Bm.c Aa) Aa Aa (cs':=[Ak hq.fDepth,Ak hq.fBytes,rB hq.fOutside,rB hq.fLong]) Aa (H':=[.blk b2 (AO hq) 105,.blk b1 (AO hq) 105]) Aa)) ?_));refine oq (AT Aa) ?_;exact CE
  refine Bf (A8 (I1 ?_));obtain rfl:=A9 h3;exact A7 (QN QT (AX Aa) (Ci (i:=1) HQ Ej Aa Aa Aa) (AX Aa)) (sS (sS sN)) ⟨Aa,Aa⟩
theorem No (F:Nat)(v:(List Ab))(r:Int)(h:Jj F v=some r):Fn Tryz.prog GE 37 [AH 4 (Au Ac v)] [] (λR H=>R=Ak r∧H=[]):=by
 refine enter (n:=42) Tryz.func37 Aa Tryz.ntmps37 Aa (λw Z=>?_);unfold Jj at h;refine As (wa Aa (BH (wm Aa (ob h λr1 e3 h2=>Dr Tryz.call56 (SF F v r1 e3) Aa (wm Aa (wv (AU Aa Aa) (wv (AU Aa Aa) (wv (AU Aa Aa) (Ca (cs:=[Ak 0,Ak 0,rB false,rB false]) Tryz.zeroValue105 Aa Aa (λb4=>?_))))))))));refine wa Aa (AR (i:=0) Ej Aa Aa Aa (Bm.c Aa) Aa Aa (cs':=[Ak r1.2.1.fDepth,Ak r1.2.1.fBytes,rB r1.2.1.fOutside,rB r1.2.1.fLong]) Aa (H':=[.blk b4 (AO r1.2.1) 105]) Aa (wa Aa (A3 (A1 (Ba (Bc [(0,AH 4 (Au Ac v)),(4,rP b4 0),(12,rB ((!r1.2.2)||(!decide (r1.1=(v.length:Int)))))] [.blk b4 (AO r1.2.1) 105] ?_ ?_))))))
 ·refine AD (wm Aa (wv (BS Aa) (wm Aa (Be (!r1.2.2) (λc5=>?_) (λc5=>?_)))))
  ·refine wf c5 (wf c5 (wf c5 (wf c5 (wv (r:=rB true) (A6 Aa c5 Aa) (wa Aa (A5 ?_))))));exact Dq c5
  ·refine wo c5 (wm Aa (wo c5 (wm Aa (wo c5 (wv (Bk (ys:=v) (enc:=Ac) CB Aa) (wo c5 (wv (DP Aa Aa) (Kw Aa c5 Aa (wa Aa (A5 ?_))))))))));exact Dq c5
 refine cz h2 Aa (λc6 h7=>?_) (λc6 h8=>?_)
 ·refine As (wa Aa (A3 (A8 (AQ (An ?_)))));obtain rfl:=A9 h7;exact A7 (Cd S7 (AX Aa)) (sS sN) ⟨Aa,Aa⟩
 ·refine As (vF Dp Aa I0 (vL 0 SA Aa (wa Aa (A3 (cz h8 Aa (λc9 he=>?_) (λc9 hf=>?_))))))
  ·refine As (wa Aa (A3 (A8 (AQ (An ?_)))));obtain rfl:=A9 he;exact A7 (Cd S7 (AX Aa)) (sS sN) ⟨Aa,Aa⟩
  ·refine Bc [(24,rB (r1.2.1.fLong||((decide (200<(v.length:Int)))||((decide (8<r1.2.1.fDepth))||(decide (4000<r1.2.1.fBytes))))))] [] ?_ ?_
   ·refine AD (vF Dp Aa I0 (vL 0 SA Aa (wm Aa (Be (r1.2.1.fLong) (λha=>?_) (λha=>?_)))))
    ·refine wf ha (wf ha (wf ha (wv (r:=rB true) (A6 Aa ha Aa) (wm Aa (wz Aa Aa (wz Aa Aa (wz Aa Aa (wv (r:=rB true) (A6 (b:=true) Aa Aa Aa) (wm Aa (wz Aa Aa (wz Aa Aa (wz Aa Aa (wv (r:=rB true) (A6 (b:=true) Aa Aa Aa) (wa Aa (A5 ?_)))))))))))))));exact Dq ha
    ·refine wo ha (wm Aa (wo ha (wv (Bk (ys:=v) (enc:=Ac) CB Aa) (wo ha (wv (Gc Aa Aa) (Kw Aa ha Aa (wm Aa (Be (decide (200<(v.length:Int))) (λhb=>?_) (λhb=>?_)))))))))
     ·refine wf hb (wf hb (wf hb (wv (r:=rB true) (A6 Aa hb Aa) (wm Aa (wz Aa Aa (wz Aa Aa (wz Aa Aa (wv (r:=rB true) (A6 (b:=true) Aa Aa Aa) (wa Aa (A5 ?_))))))))));exact Dq (And.intro ha hb)
     ·refine wo hb (vF Dp Aa C9 (wo hb (vL 0 DY Aa (wo hb (wv (Gc Aa Aa) (Kw Aa hb Aa (wm Aa (Be (decide (8<r1.2.1.fDepth)) (λhd=>?_) (λhd=>?_)))))))))
      ·refine wf hd (wf hd (wf hd (wv (r:=rB true) (A6 Aa hd Aa) (wa Aa (A5 ?_)))));exact Dq (And.intro ha (And.intro hb hd))
      ·refine wo hd (vF Dp Aa C9 (wo hd (vL 0 DY Aa (wo hd (wv (Gc Aa Aa) (Kw Aa hd Aa (wa Aa (A5 ?_))))))));exact Dq (And.intro ha (And.intro hb hd))
   refine cz hf Aa (λhg hh=>?_) (λhg hi=>?_)
   ·refine As (wa Aa (A3 (A8 (AQ (An ?_)))));obtain rfl:=A9 hh;exact A7 (Cd S7 (AX Aa)) sN ⟨Aa,Aa⟩
   ·refine AG (Bi (Bf (As (wa Aa (A3 (A8 ?_))))));obtain rfl:=A9 hi;exact A7 (Cd S7 (AX Aa)) sN ⟨Aa,Aa⟩
theorem Mp  (r:(List Ab))(h:LA=some r):Fn Tryz.prog GE 47 [] [] (λR H=>R=AH 4 (Au Ac r)∧H=[]):=by
 refine enter (n:=3) Tryz.func47 Aa Tryz.ntmps47 Aa (λw Z=>?_);unfold LA at h;refine As (wa Aa (BH (wv (r:=Bb [Ak 1,Ak 0,rS ([]:Am),Ak 0]) (JK Aa Aa) (Bq (ys:=([(Ab.mk 1 0 ([]:Am) 0)]:List Ab)) (enc:=Ac) (css:=[[Ak 1,Ak 0,rS ([]:Am),Ak 0]]) (xs:=[.tmp 1]) CB Da Mi Aa Aa Aa ⟨Kt.agg ⟨Up.refl _,Up.refl _,Up.refl _,Up.refl _,trivial⟩,trivial⟩ Aa BR Aa Aa Aa (λb1=>?_)))));refine wa Aa (A3 (A8 (WK.freeze (i:=0) Aa (WK.up (d:=0) (r:=AH 4 (Au Ac ([(Ab.mk 1 0 ([]:Am) 0)]:List Ab))) Aa (Up.fact (i:=0) Aa) ?_))));obtain rfl:=A9 h;exact A7 (Cd Tryz.results47 (AX Aa)) (sS sN) ⟨Aa,Aa⟩
theorem Pe (b:Bool)(r:(List Ab))(h:Pf b=some r):Fn Tryz.prog GE 62 [rB b] [] (λR H=>R=AH 4 (Au Ac r)∧H=[]):=by
 refine enter (n:=9) Tryz.func62 Aa Tryz.ntmps62 Aa (λw Z=>?_);unfold Pf at h;refine As (wa Aa (BH (wv (r:=Bb [Ak 2,Ak 0,rS ([]:Am),Ak 0]) (JK Aa Aa) (Ca (cs:=[Ak 0,Ak 0,rS ([]:Am),Ak 0]) Mi Aa Aa (λb1=>?_)))));refine AR (i:=0) Da Aa Aa Aa (Bm.c Aa) Aa Aa (cs':=[Ak 2,Ak 0,rS ([]:Am),Ak 0]) Aa (H':=[.blk b1 [Ak 2,Ak 0,rS ([]:Am),Ak 0] 63]) Aa (A3 (A1 (As (wm Aa (A3 (cz h Aa (λc2 h3=>?_) (λc2 h5=>?_)))))))
 ·refine AD (vF BU Aa C9 (BQ (i:=0) C9 Aa Aa (Cc Aa) Aa Aa (cs':=[Ak 2,Ak 1,rS ([]:Am),Ak 0]) Aa (H':=[.blk b1 [Ak 2,Ak 1,rS ([]:Am),Ak 0] 63]) Aa (BH (wv (Bl (i:=0) Ml Da Aa Aa Aa Aa) (Bq (ys:=([(Ab.mk 2 1 ([]:Am) 0)]:List Ab)) (enc:=Ac) (css:=[[Ak 2,Ak 1,rS ([]:Am),Ak 0]]) (xs:=[.tmp 7]) CB Da Mi Aa Aa Aa ⟨Kt.agg ⟨Up.refl _,Up.refl _,Up.refl _,Up.refl _,trivial⟩,trivial⟩ Aa BR Aa Aa Aa (λb4=>?_))))));refine wa Aa (A3 (A8 (WK.freeze (i:=0) Aa (WK.up (d:=2) (r:=AH 4 (Au Ac ([(Ab.mk 2 1 ([]:Am) 0)]:List Ab))) Aa (Up.fact (i:=0) Aa) ?_))));obtain rfl:=A9 h3;exact A7 (Cd Tryz.results62 (AX Aa)) (sS (sS sN)) ⟨Aa,Aa⟩
 ·refine AG (Bf (As (wv (Bl (i:=0) Ml Da Aa Aa Aa Aa) (Bq (ys:=([(Ab.mk 2 0 ([]:Am) 0)]:List Ab)) (enc:=Ac) (css:=[[Ak 2,Ak 0,rS ([]:Am),Ak 0]]) (xs:=[.tmp 7]) CB Da Mi Aa Aa Aa ⟨Kt.agg ⟨Up.refl _,Up.refl _,Up.refl _,Up.refl _,trivial⟩,trivial⟩ Aa BR Aa Aa Aa (λb6=>?_)))));refine wa Aa (A3 (A8 (WK.freeze (i:=0) Aa (WK.up (d:=2) (r:=AH 4 (Au Ac ([(Ab.mk 2 0 ([]:Am) 0)]:List Ab))) Aa (Up.fact (i:=0) Aa) ?_))));obtain rfl:=A9 h5;exact A7 (Cd Tryz.results62 (AX Aa)) (sS (sS sN)) ⟨Aa,Aa⟩
end Go.Proofs.YtfbmdidnlhifjaaGreatDoor.Q
namespace Go.Proofs.YtfbmdidnlhifjaaGreatDoor
open Go
set_option linter.unusedVariables false
end Go.Proofs.YtfbmdidnlhifjaaGreatDoor
namespace Go.Proofs.YtfbmdidnlhifjaaGreatDoor.Q
open Go Go.RowKit
set_option linter.unusedVariables false
set_option linter.unusedSimpArgs false
set_option maxRecDepth 100000
set_option maxHeartbeats 4000000
end Go.Proofs.YtfbmdidnlhifjaaGreatDoor.Q
namespace Go.Proofs.YtfbmdidnlhifjaaGreatDoor
open Go
set_option linter.unusedVariables false
end Go.Proofs.YtfbmdidnlhifjaaGreatDoor
namespace Go.Proofs.YtfbmdidnlhifjaaGreatDoor.Q
open Go Go.RowKit
set_option linter.unusedVariables false
set_option linter.unusedSimpArgs false
set_option maxRecDepth 100000
set_option maxHeartbeats 4000000
end Go.Proofs.YtfbmdidnlhifjaaGreatDoor.Q
namespace Go.Proofs.YtfbmdidnlhifjaaGreatDoor
open Go
set_option linter.unusedVariables false
def CK (a:(List Ab))(b:(List Ab))(ha:Int):Option (Stp (Int) (Out (Bool) (Unit))):=
 Bg (decide (ha<(a.length:Int))) (Bd (BL ha (a.length:Int))<|Bd (BL ha (b.length:Int))<|Bg (!(decide (((Ad a ha).fKind)=((Ad b ha).fKind))&&decide (((Ad a ha).fInt)=((Ad b ha).fInt))&&decide (((Ad a ha).fStr)=((Ad b ha).fStr))&&decide (((Ad a ha).fN)=((Ad b ha).fN)))) (some (.out (.ret false))) (Bd (BE .i64 (ha+1))<|some (.next (ha+1)))) (some (.out (.go ())))
def E4 :Option (Bool):=
 some true
def En (F:Nat)(a:(List Ab))(b:(List Ab)):Option (Bool):=
 Bg (!decide ((a.length:Int)=(b.length:Int))) (some false) (Bo (BI (λσ=>CK a b σ) F 0) (BD λν=>E4 ))
def L8 (F:Nat)(a:(List Ab))(b:(List Ab)):Option (Bool):=
 Bo (En F a b) λr1=>some r1
def IE (a:(List Ab))(b:(List Ab))(ha:Int):Option (Stp (Int) (Out (Bool) (Unit))):=
 Bg (decide (ha<(a.length:Int))) (Bd (BL ha (a.length:Int))<|Bd (BL ha (b.length:Int))<|Bg (!(decide (((Ad a ha).fKind)=((Ad b ha).fKind))&&decide (((Ad a ha).fInt)=((Ad b ha).fInt))&&decide (((Ad a ha).fStr)=((Ad b ha).fStr))&&decide (((Ad a ha).fN)=((Ad b ha).fN)))) (some (.out (.ret false))) (Bd (BE .i64 (ha+1))<|some (.next (ha+1)))) (some (.out (.go ())))
def ID :Option (Bool):=
 some true
def E5 (F:Nat)(a:(List Ab))(b:(List Ab)):Option (Bool):=
 Bg (!decide ((a.length:Int)=(b.length:Int))) (some false) (Bo (BI (λσ=>IE a b σ) F 0) (BD λν=>ID ))
end Go.Proofs.YtfbmdidnlhifjaaGreatDoor
namespace Go.Proofs.YtfbmdidnlhifjaaGreatDoor.Q
open Go Go.RowKit
set_option linter.unusedVariables false
set_option linter.unusedSimpArgs false
set_option maxRecDepth 100000
set_option maxHeartbeats 4000000
theorem Sr {a0 b0:Int}{a1 b1:Int}{a2 b2:Am}{a3 b3:Int}(w:World):(Op.equalIn 10000 63 (.agg #[.int .i64 a0,.int .i64 a1,.string (B a2),.int .i64 a3]) (.agg #[.int .i64 b0,.int .i64 b1,.string (B b2),.int .i64 b3])).run Tryz.prog w = .ok (decide (a0=b0)&&decide (a1=b1)&&decide (a2=b2)&&decide (a3=b3)) w:=by
  have hS:Tryz.prog.underlying 63=some (.struct (Tryz.prog.fieldsOf 63)):=by kernel_rfl
  have hp:Tryz.prog.stoodInHeld 63=false:=by kernel_rfl
  have u3:=UF;have ia3:=DY;have so3:=C9;have u9:=GV;have ia9:=Er;have so9:=DX;have ha:=Tryz.underlying61;have hb:=JW;have hd:=JU;rw[show(10000:Nat)=9999+1 from rfl,run_equalIn_agg w 9999 63 _ _ hS hp];simp only[Program.fieldsOf,BU]
  go_simp
  simp only[DB]
  by_cases h0:a0=b0<;>by_cases h1:a1=b1<;>by_cases h2:a2=b2<;>by_cases h3:a3=b3<;>simp[h0,h1,h2,h3]
theorem JL {n:Nat}{c:Cx}{l:Fr}{H:List Ent}{d:Option Nat}{ty rty:TypeId}{pos:String}{af:Array Edge}{g:Option (Nat×Bool)}{x y:Operand}{a0 b0:Int}{a1 b1:Int}{a2 b2:Am}{a3 b3:Int}(hx:ev l x=some (Bb [Ak a0,Ak a1,rS a2,Ak a3]))(hy:ev l y=some (Bb [Ak b0,Ak b1,rS b2,Ak b3])):Bp Tryz.prog n c l H { dst:=d,op:=.binOp .neq 63 x y rty,type:=ty,pos:=pos,after:=af,guard:=g } (rB (!(decide (a0=b0)&&decide (a1=b1)&&decide (a2=b2)&&decide (a3=b3)))):=λa w Z ha hw=>by
  obtain⟨us,e1,q1⟩:=ha.ev hx;obtain⟨vs,e2,q2⟩:=ha.ev hy;have k1:=AV.eq_rv (us:=[.int .i64 a0,.int .i64 a1,.string (B a2),.int .i64 a3]) q1;have k2:=AV.eq_rv (us:=[.int .i64 b0,.int .i64 b1,.string (B b2),.int .i64 b3]) q2;subst k1;subst k2;have hm:Tryz.prog.eqGuardType Tryz.prog.depth 63=false:=by kernel_rfl
  have hb:=Sr (a0:=a0) (a1:=a1) (a2:=a2) (a3:=a3) (b0:=b0) (b1:=b1) (b2:=b2) (b3:=b3) w;refine⟨.bool (!(decide (a0=b0)&&decide (a1=b1)&&decide (a2=b2)&&decide (a3=b3))),rfl,?_⟩;have hg:=run_eqGuard_agg (P:=Tryz.prog) w .neq 63 x y #[.int .i64 a0,.int .i64 a1,.string (B a2),.int .i64 a3] #[.int .i64 b0,.int .i64 b1,.string (B b2),.int .i64 b3] hm;simp only[execOp,e1,e2,Sem.run_bind,hg,Result.andThen_ok,run_neq_struct,hb,Sem.run_pure]
theorem LE (F:Nat)(a:(List Ab))(b:(List Ab))(r:Bool)(h:En F a b=some r):Fn Tryz.prog GE 71 [AH 4 (Au Ac a),AH 4 (Au Ac b)] [] (λR H=>R=rB r∧H=[]):=by
 refine enter (n:=26) Tryz.func71 Aa Tryz.ntmps71 Aa (λw Z=>?_);unfold En at h;refine As (wa Aa (A3 (A1 (As (wm Aa (wv (Bk (ys:=a) (enc:=Ac) CB Aa) (wm Aa (wv (Bk (ys:=b) (enc:=Ac) CB Aa) (wv (DP Aa Aa) (A3 (cz h Aa (λc1 h2=>?_) (λc1 h3=>?_))))))))))))
 ·refine As (wa Aa (A3 (A8 (An ?_))));obtain rfl:=A9 h2;exact A7 (Cd Tryz.results71 (AX Aa)) sN ⟨Aa,Aa⟩
 ·refine AG (Bf (A1 (As (wm Aa (wv (Bk (ys:=a) (enc:=Ac) CB Aa) (wv (r:=Ak 0) (Ap Aa) (A3 (Ba (ob h3 λhg hh hf=>BN (S:=Nat×(Int)×(Unit)) (V:=(Unit)×(Unit)) 0 (λσ=>BI (λσ=>CK a b σ) σ.1 σ.2.1=some hg) (λσ=>[(0,AH 4 (Au Ac a)),(1,AH 4 (Au Ac b)),(12,Ak (a.length:Int)),(13,Ak σ.2.1)]) (λσ=>[]) (λσ=>σ.1) (F,0,()) hh (AZ.c Aa (AZ.c Aa (AZ.c Aa (AZ.c Aa AZ.nil)))) sN (λσ=>E4 =some r) (λσ=>[]) (λσ=>[]) ?_ ?_)))))))))
  ·rintro⟨h1,ha,⟨⟩⟩ hi;refine C7 (l':=[(0,AH 4 (Au Ac a)),(1,AH 4 (Au Ac b)),(12,Ak (a.length:Int)),(13,Ak ha)]) (H':=[]) Aa Aa ?_;obtain⟨hj,rfl,hk,hb,he⟩:=DI hi;replace hb:CK a b ha=some hk:=hb;unfold CK at hb;refine As (wv (EN Aa Aa) (A3 (A1 (cz hb Aa (λhl hm=>?_) (λhl hn=>?_)))))
   ·refine AG (Bf (A1 (Ba (As (wm Aa (wa Aa (A3 (A1 (ck hm λho hp=>ck hp λhq hr=>Dl [0,1,5,12,13] [⟨[],AH 4 (Au Ac a),0⟩,⟨[],Ak ha,0⟩,⟨[0,1],Du (Ac (Ad a ha)),0⟩,⟨[2],Bb (Ac (Ad a ha)),0⟩,⟨[],AH 4 (Au Ac b),0⟩,⟨[],Ak ha,0⟩,⟨[4,5],Du (Ac (Ad b ha)),0⟩,⟨[6],Bb (Ac (Ad b ha)),0⟩,⟨[3,7],rB (!(decide (((Ad a ha).fKind)=((Ad b ha).fKind))&&decide (((Ad a ha).fInt)=((Ad b ha).fInt))&&decide (((Ad a ha).fStr)=((Ad b ha).fStr))&&decide (((Ad a ha).fN)=((Ad b ha).fN)))),0⟩] [16,17,18,19,20,21,22,23,24,0,1,12,13] ?_ ?_)))))))))
    ·refine oq (Ap Aa) (oq (Ap Aa) (oq (Bh (enc:=Ac) (ys:=a) CB Da Aa Aa ho) (oq (Bx Ml Da Aa Aa Aa) (oq (Ap Aa) (oq (Ap Aa) (oq (Bh (enc:=Ac) (ys:=b) CB Da Aa Aa hq) (oq (Bx Ml Da Aa Aa Aa) (oq (JL Aa Aa) ?_))))))));exact CE
    refine Bf (cz hr Aa (λhs ht=>?_) (λhs hu=>?_))
    ·refine As (wa Aa (A3 (A8 (AQ (An (An (B5 ?_)))))));have hw:=Cl ht he hf;refine AQ (An ?_);obtain rfl:=A9 hw;exact A7 (Cd Tryz.results71 (AX Aa)) sN ⟨Aa,Aa⟩
    ·refine AG (Bi (Bf (AD (ck hu λhx hy=>wv (Cy Aa Aa hx) (wm Aa (A5 ?_))))));have hz:=BO hy he;exact AL (AW (hj,ha+1,()) ⟨hz,Vy _⟩ (AZ.c Aa (AZ.c Aa (AZ.c Aa (AZ.c Aa AZ.nil)))) sN)
   ·refine BM (AI ?_);have h0:=CC hn he hf;exact AI (B1 (AW ((),()) h0 AZ.nil sN))
  ·rintro⟨⟨⟩,⟨⟩⟩ hd;refine DE (l':=[]) (H':=[]) Aa Aa ?_;replace hd:E4 =some r:=hd;unfold E4 at hd;refine Bw (Bf (As (wa Aa (A3 (A8 ?_)))));obtain rfl:=A9 hd;exact A7 (Cd Tryz.results71 (AX Aa)) sN ⟨Aa,Aa⟩
theorem SE (F:Nat)(a:(List Ab))(b:(List Ab))(r:Bool)(h:L8 F a b=some r):Fn Tryz.prog GE 61 [AH 4 (Au Ac a),AH 4 (Au Ac b)] [] (λR H=>R=rB r∧H=[]):=by
 refine enter (n:=8) Tryz.func61 Aa Tryz.ntmps61 Aa (λw Z=>?_);unfold L8 at h;refine As (wa Aa (BH (wm Aa (wm Aa (ob h λr1 e3 h2=>Dr Tryz.call71 (LE F a b r1 e3) Aa (wa Aa (A3 (A8 ?_))))))));obtain rfl:=A9 h2;exact A7 (Cd Tryz.results61 (AX Aa)) sN ⟨Aa,Aa⟩
theorem Ki (F:Nat)(a:(List Ab))(b:(List Ab))(r:Bool)(h:E5 F a b=some r):Fn Tryz.prog GE 13 [AH 4 (Au Ac a),AH 4 (Au Ac b)] [] (λR H=>R=rB r∧H=[]):=by
 refine enter (n:=26) Tryz.func13 Aa Tryz.ntmps13 Aa (λw Z=>?_);unfold E5 at h;refine As (wa Aa (A3 (A1 (As (wm Aa (wv (Bk (ys:=a) (enc:=Ac) CB Aa) (wm Aa (wv (Bk (ys:=b) (enc:=Ac) CB Aa) (wv (DP Aa Aa) (A3 (cz h Aa (λc1 h2=>?_) (λc1 h3=>?_))))))))))))
 ·refine As (wa Aa (A3 (A8 (An ?_))));obtain rfl:=A9 h2;exact A7 (Cd Tryz.results13 (AX Aa)) sN ⟨Aa,Aa⟩
 ·refine AG (Bf (A1 (As (wa Aa (A3 (Ba (ob h3 λhg hh hf=>BN (S:=Nat×(Int)×(Unit)) (V:=(Unit)×(Unit)) 0 (λσ=>BI (λσ=>IE a b σ) σ.1 σ.2.1=some hg) (λσ=>[(0,AH 4 (Au Ac a)),(1,AH 4 (Au Ac b)),(5,Ak σ.2.1)]) (λσ=>[]) (λσ=>σ.1) (F,0,()) hh (AZ.c Aa (AZ.c Aa (AZ.c Aa AZ.nil))) sN (λσ=>ID =some r) (λσ=>[]) (λσ=>[]) ?_ ?_)))))))
  ·rintro⟨h1,ha,⟨⟩⟩ hi;refine C7 (l':=[(0,AH 4 (Au Ac a)),(1,AH 4 (Au Ac b)),(5,Ak ha)]) (H':=[]) Aa Aa ?_;obtain⟨hj,rfl,hk,hb,he⟩:=DI hi;replace hb:IE a b ha=some hk:=hb;unfold IE at hb;refine A1 (As (wm Aa (wm Aa (wv (Bk (ys:=a) (enc:=Ac) CB Aa) (wv (EN Aa Aa) (A3 (cz hb Aa (λhl hm=>?_) (λhl hn=>?_))))))))
   ·refine AG (Bf (A1 (Ba (A1 (ck hm λho hp=>ck hp λhq hr=>Dl [0,1,5] [⟨[],AH 4 (Au Ac a),0⟩,⟨[],Ak ha,0⟩,⟨[0,1],Du (Ac (Ad a ha)),0⟩,⟨[2],Bb (Ac (Ad a ha)),0⟩,⟨[],AH 4 (Au Ac b),0⟩,⟨[],Ak ha,0⟩,⟨[4,5],Du (Ac (Ad b ha)),0⟩,⟨[6],Bb (Ac (Ad b ha)),0⟩,⟨[3,7],rB (!(decide (((Ad a ha).fKind)=((Ad b ha).fKind))&&decide (((Ad a ha).fInt)=((Ad b ha).fInt))&&decide (((Ad a ha).fStr)=((Ad b ha).fStr))&&decide (((Ad a ha).fN)=((Ad b ha).fN)))),0⟩] [17,18,19,20,21,22,23,24,25,0,1,5] ?_ ?_)))))
    ·refine oq (Ap Aa) (oq (Ap Aa) (oq (Bh (enc:=Ac) (ys:=a) CB Da Aa Aa ho) (oq (Bx Ml Da Aa Aa Aa) (oq (Ap Aa) (oq (Ap Aa) (oq (Bh (enc:=Ac) (ys:=b) CB Da Aa Aa hq) (oq (Bx Ml Da Aa Aa Aa) (oq (JL Aa Aa) ?_))))))));exact CE
    refine Bf (cz hr Aa (λhs ht=>?_) (λhs hu=>?_))
    ·refine As (wa Aa (A3 (A8 (AQ (An (An (B5 ?_)))))));have hw:=Cl ht he hf;refine AQ (An ?_);obtain rfl:=A9 hw;exact A7 (Cd Tryz.results13 (AX Aa)) sN ⟨Aa,Aa⟩
    ·refine AG (Bi (Bf (AD (wm Aa (ck hu λhx hy=>wv (Cy Aa Aa hx) (wa Aa (A5 ?_)))))));have hz:=BO hy he;exact AL (AW (hj,ha+1,()) ⟨hz,Vy _⟩ (AZ.c Aa (AZ.c Aa (AZ.c Aa AZ.nil))) sN)
   ·refine BM (AI ?_);have h0:=CC hn he hf;exact AI (B1 (AW ((),()) h0 AZ.nil sN))
  ·rintro⟨⟨⟩,⟨⟩⟩ hd;refine DE (l':=[]) (H':=[]) Aa Aa ?_;replace hd:ID =some r:=hd;unfold ID at hd;refine Bw (Bf (As (wa Aa (A3 (A8 ?_)))));obtain rfl:=A9 hd;exact A7 (Cd Tryz.results13 (AX Aa)) sN ⟨Aa,Aa⟩
end Go.Proofs.YtfbmdidnlhifjaaGreatDoor.Q
namespace Go.Proofs.YtfbmdidnlhifjaaGreatDoor
open Go
set_option linter.unusedVariables false
def N1 (F:Nat)(v:(List Ab)):Option ((List Ab)×Int):=
 Bo (Jp F v) λr1=>Bg (!decide (r1=0)) (some (([]:List Ab),r1)) (some (v,0))
def Pk :Option ((List Ab)):=
 some ([(Ab.mk 1 0 ([]:Am) 0)]:List Ab)
def Po (b:Bool):Option ((List Ab)):=
 Bg (b) (some ([(Ab.mk 2 1 ([]:Am) 0)]:List Ab)) (some ([(Ab.mk 2 0 ([]:Am) 0)]:List Ab))
def TJ (F:Nat)(n:Int):Option ((List Ab)×Int):=
 Bo (N1 F ([(Ab.mk 3 n ([]:Am) 0)]:List Ab)) λr2=>some (r2.1,r2.2)
end Go.Proofs.YtfbmdidnlhifjaaGreatDoor
namespace Go.Proofs.YtfbmdidnlhifjaaGreatDoor.Q
open Go Go.RowKit
set_option linter.unusedVariables false
set_option linter.unusedSimpArgs false
set_option maxRecDepth 100000
set_option maxHeartbeats 4000000
theorem Gd {n:Nat}{c:Cx}{l:Fr}{H:List Ent}{d:Option Nat}{ty:TypeId}{pos:String}{af:Array Edge}{g:Option (Nat×Bool)}{x0:Operand}{r0:Rp}(h0:ev l x0=some r0)(u0:r0.one=true){x1:Operand}{r1:Rp}(h1:ev l x1=some r1)(u1:r1.one=true):Bp Tryz.prog n c l H { dst:=d,op:=.build 63 #[(0,x0),(1,x1)],type:=ty,pos:=pos,after:=af,guard:=g } (Bb [r0,r1,rS ([]:Am),Ak 0]):=λa w Z ha _=>by
  have p0:=ha.ev h0;have c0:=By (r0.hone u0 Z _ p0);have p1:=ha.ev h1;have c1:=By (r1.hone u1 Z _ p1);have hb:Tryz.prog.built 63 [(0,a.eval x0),(1,a.eval x1)]=some #[a.eval x0,a.eval x1,(.string ⟨#[]⟩),(.int .i64 0)]:=by
    rw[PF];generalize a.eval x0=v0 at *;generalize a.eval x1=v1 at *;simp[Instr.fill,c0,c1]
  refine⟨.agg #[a.eval x0,a.eval x1,(.string ⟨#[]⟩),(.int .i64 0)],⟨[a.eval x0,a.eval x1,(.string ⟨#[]⟩),(.int .i64 0)],rfl,p0,p1,rfl,rfl,trivial⟩,?_⟩;have:=run_build w 63 #[(0,a.eval x0),(1,a.eval x1)] _ (by simpa using hb);simp[execOp,this]
end Go.Proofs.YtfbmdidnlhifjaaGreatDoor.Q
namespace Go.Proofs.YtfbmdidnlhifjaaGreatDoor
open Go
set_option linter.unusedVariables false
end Go.Proofs.YtfbmdidnlhifjaaGreatDoor
namespace Go.Proofs.YtfbmdidnlhifjaaGreatDoor.Q
open Go Go.RowKit
set_option linter.unusedVariables false
set_option linter.unusedSimpArgs false
section
variable {P : Program} {n : Nat} {c : Cx} {l : Fr} {H : List Ent} {d : Option Nat} {x y : Operand} {t t' ty : TypeId} {pos : String} {af : Array Edge} {g : Option (Nat × Bool)} {k k' : IntKind} {p q : Int}
end
section
variable {P : Program} {n : Nat} {c : Cx} {ops : Array Oper} {Q : Exit → Act → World → Prop} {rest : List Oper} {l : Fr} {H H' : List Ent} {d : Nat} {d' : Option Nat} {x y : Operand} {t ty e : TypeId} {pos : String} {af : Array Edge} {g : Option (Nat × Bool)} {k : IntKind} {b i len : Nat} {j : Int}
end
def OR (ops:List Oper)(N:Nat):Bool:=
 let cl:=Lf ops []
 (List.range ops.length).all (λi=>(DU (ops.getD i default)).all (·<i))&&
 (List.range ops.length).all (λi=>i<N||(List.range i).all (λj=>(cl.getD i 0).testBit j))
section
variable {P : Program} {Q : Exit → Act → World → Prop}
theorem Oh {listed:Array Bool}{len m:Nat}(hs:listed.size=len)(hm:m≤len)(h:∀j,j<len→(listed.getD j true=true↔j<m)):listed.toList.count false=len-m:=by
 have:listed.toList=List.replicate m true++List.replicate (len-m) false:=by
  apply List.ext_getElem
  ·simp[hs];omega
  ·intro j h1 h2;have hj:j<len:=by simpa[hs] using h1
   have:=h j hj;rw[Array.getD_eq_getD_getElem?,Array.getElem?_eq_getElem (by omega)] at this;simp only[V1] at this;rw[Array.getElem_toList,List.getElem_append]
   split
   ·rename_i h3
    simp at h3;simp[this.2 h3]
   ·rename_i h3
    simp at h3;simp only[List.getElem_replicate]
    cases hb:listed[j] with
    | false=>rfl
    | true=>have:=this.1 hb;omega
 rw[this];simp[List.count_append,List.count_replicate]
theorem P9 {listed:Array Bool}{j:Nat}(h:j<listed.size)(d d':Bool):listed.getD j d=listed.getD j d':=by
 simp[Array.getD_eq_getD_getElem?,Array.getElem?_eq_getElem h]
theorem Li {ops:List Oper}{listed:Array Bool}{i:Nat}{o:Oper}(ho:ops[i]? =some o)(hb:∀e∈DU o,listed.getD e true=true)
  (hcl:∀j o,ops[j]? =some o→listed.getD j true=true→∀e∈DU o,listed.getD e true=true) (j:Nat) (h:((Lf ops []).getD i 0).testBit j=true):j=i∨listed.getD j true=true:=
 Gw ops (λk=>k=i∨listed.getD k true=true) ops [] (λt o' ht e he hF=>by
  rcases hF with hF | hF
  ·simp at hF;subst hF;rw[ho] at ht;simp at ht;subst ht;exact .inr (hb e he)
  ·exact .inr (hcl t o' ht (by simpa using hF) e he)) (λj i hb=>by simp at hb) i j h (.inl rfl)
theorem If {ops:List Oper}{listed:Array Bool}{i:Nat}(hsz:listed.size=ops.length)(hlt:∀i,i<ops.length→∀e∈DU (ops.getD i default),e<i)(h:i∈Region.ready .any ops.toArray listed) :
  listed.getD i true=false∧i<ops.length∧∃o,ops[i]? =some o∧∀e∈DU o,listed.getD e true=true:=by
 obtain⟨h1,o,ho,h2⟩:=mem_ready.1 h;have ho':ops[i]? =some o:=by simpa using ho
 have hil:=(List.getElem?_eq_some_iff.1 ho').1;refine⟨h1,hil,o,ho',λe he=>?_⟩;have hei:=hlt i hil e (by rw[Vn,ho'];exact he);simp only[DU,List.mem_map,List.mem_filter] at he;obtain⟨x,⟨hx1,hx2⟩,rfl⟩:=he;have h3:=h2 x (by simpa using hx1) hx2;rw[P9 (by omega) true false];exact h3
theorem HW {ops:List Oper}{listed:Array Bool}(hsz:listed.size=ops.length)(hlt:∀i,i<ops.length→∀e∈DU (ops.getD i default),e<i)(h:Region.ready .any ops.toArray listed=[]) :
  ∀j,j<ops.length→listed.getD j true=true:=by
 intro j
 induction j using Nat.strongRecOn with
 | ind j ih=>
  intro hj
  cases hb:listed.getD j true with
  | true=>rfl
  | false=>
   have:j∈Region.ready .any ops.toArray listed:=mem_ready.2 ⟨hb,ops[j],by simp[hj],λe he hbn=>by
    have hel:e.on<j:=hlt j hj e.on (by
     rw[Vn,Vi hj];simp only[DU,V1,List.mem_map,List.mem_filter];exact⟨e,⟨by simpa using he,hbn⟩,rfl⟩)
    rw[P9 (by omega) false true];exact ih e.on hel (by omega)⟩
   rw[h] at this;cases this
theorem Kh {listed:Array Bool}{i j:Nat}(hi:i<listed.size):(listed.setIfInBounds i true).getD j true=true↔(j=i∨listed.getD j true=true):=by
 by_cases hj:i=j
 ·subst hj;simp[hi]
 ·rw[getD_set_ne true hj];exact⟨.inr,λh=>h.elim (λh=>absurd h.symm hj) id⟩
theorem PY {listed:Array Bool}{i fuel:Nat}(hi:i<listed.size)(hun:listed.getD i true=false)(hc:listed.toList.count false=fuel+1):(listed.setIfInBounds i true).toList.count false=fuel:=by
 have hfi:listed.toList[i]? =some false:=by
  rw[Array.getD_eq_getD_getElem?,Array.getElem?_eq_getElem hi] at hun;simp at hun;simp[hi,hun]
 rw[Array.toList_setIfInBounds];have h1:=List.count_set (a:=true) (b:=false) (l:=listed.toList) (i:=i) (by simpa using hi);have h2:listed.toList[i]'(by simpa using hi)=false:=by
  have:=List.getElem?_eq_some_iff.1 hfi;exact this.2
 rw[h1,h2,hc];rfl
theorem JD {ops:List Oper}{N:Nat}(hlt:∀i,i<ops.length→∀e∈DU (ops.getD i default),e<i)
  (hch:∀i,N≤i→i<ops.length→∀j,j<i→((Lf ops []).getD i 0).testBit j=true):∀(k m:Nat) (listed:Array Bool) (a:Act) (w:World),m+k=ops.length→N≤m→listed.size=ops.length→
   (∀j,j<ops.length→(listed.getD j true=true↔j<m))→(∀j o,ops[j]? =some o→listed.getD j true=true→∀e∈DU o,listed.getD e true=true)→wpList P ops.toArray Q (ops.drop m) a w→wpAny P .any ops.toArray Q k listed a w
 | 0,m,listed,a,w,hk,hN,hsz,hl,hcl,h=>by
  refine⟨?_,?_⟩
  ·cases hr:Region.ready .any ops.toArray listed with
   | nil=>rfl
   | cons i r=>
    obtain⟨h1,h2,_⟩:=If hsz hlt (i:=i) (by rw[hr];simp);rw[(hl i h2).2 (by omega)] at h1;cases h1
  ·rw[List.drop_of_length_le (by omega)] at h;exact h
 | k+1,m,listed,a,w,hk,hN,hsz,hl,hcl,h=>by
  refine⟨λhr=>?_,λi hi=>?_⟩
  ·have:=(hl m (by omega)).1 (HW hsz hlt hr m (by omega));omega
  ·obtain⟨h1,h2,o,ho,hb⟩:=If hsz hlt hi;have him:i=m:=by
    have hmi : ¬ i<m:=λh'=>by rw[(hl i h2).2 h'] at h1;cases h1
    by_cases e:i=m
    ·exact e
    ·rcases Li ho hb hcl m (hch i (by omega) h2 m (by omega)) with h3 | h3
     ·exact h3.symm
     ·have:=(hl m (by omega)).1 h3;omega
   subst him;have hd:ops.drop i=o::ops.drop (i+1):=by
    rw[List.drop_eq_getElem_cons h2]
    congr 1
    exact(List.getElem?_eq_some_iff.1 ho).2
   rw[hd] at h;have ih:∀a' w',wpList P ops.toArray Q (ops.drop (i+1)) a' w'→wpAny P .any ops.toArray Q k (listed.setIfInBounds i true) a' w':=λa' w' h'=>by
    refine JD hlt hch k (i+1) _ a' w' (by omega) (by omega) (by simpa using hsz) (λj hj=>?_) (λj o' hj hlj e he=>?_) h'
    ·rw[Kh (by omega),hl j hj];omega
    ·rw[Kh (by omega)] at hlj ⊢;rcases hlj with rfl | hlj
     ·rw[ho] at hj;simp at hj;subst hj;exact .inr (hb e he)
     ·exact .inr (hcl j o' hj hlj e he)
   unfold wpOp;have hoA:ops.toArray[i]? =some o:=by simpa using ho
   simp only[hoA];simp only[wpList] at h
   split
   ·rename_i hw'
    rw[Vu hw'] at h;exact h.imp (λh=>Oper.wp_mono ih h) (λh=>h)
   ·rename_i hw'
    rw[Vp hw'] at h;exact ih _ _ h
theorem TC {id:Nat}{ops:List Oper}{N:Nat}(hm:P.follows .mixedOrders=true)(hB:OR ops N=true)(hN:N≤ops.length)(I:(Nat→Bool)→Act→World→Prop)
  (hext:∀S S' a w,(∀j,j<N→S j=S' j)→I S a w→I S' a w) {a:Act} {w:World} (h0:I (λ_=>false) a { w with drawn:=w.drawn+1 })
  (step:∀S i o a w,i<N→S i=false→ops[i]? =some o→(∀e∈DU o,e<i∧S e=true)→I S a w→∀K:Act→World→Prop,(∀a' w',I (λj=>j ==i||S j) a' w'→K a' w')→
   (Region.wanted o (yielded ops.toArray a.tmps)=true→o.wp P a w K Q)∧(Region.wanted o (yielded ops.toArray a.tmps)=false→K (a.put o.dst undef) w))
  (fin:∀a w,I (λ_=>true) a w→wpList P ops.toArray Q (ops.drop N) a w):(Code.region id ops.toArray true).wp P Q a w:=by
 simp only[OR,Vj,V9,List.mem_range,Vf,VI] at hB;obtain⟨hlt,hch0⟩:=hB;have hch:∀i,N≤i→i<ops.length→∀j,j<i→((Lf ops []).getD i 0).testBit j=true:=λi h1 h2 j hj=>by
  rcases hch0 i h2 with h3 | h3
  ·omega
  ·exact h3 j hj
 refine wp_region_any hm ?_;have main:∀(fuel:Nat) (listed:Array Bool) (a:Act) (w:World),listed.size=ops.length→listed.toList.count false=fuel→I (λj=>listed.getD j true) a w→
   (∀j o,ops[j]? =some o→listed.getD j true=true→∀e∈DU o,listed.getD e true=true)→(∀j,N≤j→j<ops.length→listed.getD j true=false)→wpAny P .any ops.toArray Q fuel listed a w:=by
  intro fuel;have allin:∀(fuel:Nat) (listed:Array Bool) (a:Act) (w:World),listed.size=ops.length→listed.toList.count false=fuel→I (λj=>listed.getD j true) a w→
   (∀j o,ops[j]? =some o→listed.getD j true=true→∀e∈DU o,listed.getD e true=true)→(∀j,N≤j→j<ops.length→listed.getD j true=false)→(∀j,j<N→listed.getD j true=true)→wpAny P .any ops.toArray Q fuel listed a w:=by
   intro fuel listed a w hsz hc hI hcl hlast hall;have hl:∀j,j<ops.length→(listed.getD j true=true↔j<N):=λj hj=>by
    constructor
    ·intro h
     by_cases hjN:j<N
     ·exact hjN
     ·rw[hlast j (by omega) hj] at h;cases h
    ·exact hall j
   have:=Oh hsz hN hl;refine JD hlt hch fuel N listed a w (by omega) (Vs _) hsz hl hcl (fin a w (hext _ _ a w (λj hj=>hall j hj) hI))
  induction fuel with
  | zero=>
   intro listed a w hsz hc hI hcl hlast;refine allin 0 listed a w hsz hc hI hcl hlast (λj hj=>?_)
   cases hb:listed.getD j true with
   | true=>rfl
   | false=>
    have:false∈listed.toList:=by
     rw[Array.getD_eq_getD_getElem?,Array.getElem?_eq_getElem (by omega)] at hb;simp at hb;rw[← hb];simp
    have:=List.count_pos_iff.2 this;omega
  | succ fuel ih=>
   intro listed a w hsz hc hI hcl hlast
   by_cases hall:∀j,j<N→listed.getD j true=true
   ·exact allin (fuel+1) listed a w hsz hc hI hcl hlast hall
   ·refine⟨λhr=>absurd (λj hj=>HW hsz hlt hr j (by omega)) hall,λi hi=>?_⟩;obtain⟨h1,h2,o,ho,hb⟩:=If hsz hlt hi;have hiN:i<N:=by
     by_cases h:i<N
     ·exact h
     ·refine absurd (λj hj=>?_) hall;rcases Li ho hb hcl j (hch i (by omega) h2 j (by omega)) with h3 | h3
      ·omega
      ·exact h3
    have K':∀a' w',I (λj=>j ==i||listed.getD j true) a' w'→wpAny P .any ops.toArray Q fuel (listed.setIfInBounds i true) a' w':=λa' w' hI'=>by
     refine ih _ a' w' (by simpa using hsz) (PY (by omega) h1 hc) (hext _ _ a' w' (λj hj=>?_) hI') (λj o' hj hlj e he=>?_) (λj h3 h4=>?_)
     ·have:=Kh (listed:=listed) (i:=i) (j:=j) (by omega)
      cases hq:(listed.setIfInBounds i true).getD j true with
      | true=>
       rw[hq] at this;rcases this.1 rfl with h | h
       ·simp[h]
       ·simp[h]
      | false=>
       rw[hq] at this;have h5 : ¬ (j=i∨listed.getD j true=true):=λh=>by have:=this.2 h;cases this
       cases hz:listed.getD j true with
       | true=>exact absurd (.inr hz) h5
       | false=>
        have:j≠i:=λh=>h5 (.inl h);simp[this]
     ·rw[Kh (by omega)] at hlj ⊢;rcases hlj with rfl | hlj
      ·rw[ho] at hj;simp at hj;subst hj;exact .inr (hb e he)
      ·exact .inr (hcl j o' hj hlj e he)
     ·rw[getD_set_ne true (by omega)];exact hlast j h3 h4
    obtain⟨k1,k2⟩:=step _ i o a w hiN h1 ho (λe he=>⟨hlt i h2 e (by rw[Vn,ho];exact he),hb e he⟩) hI _ K';unfold wpOp;have hoA:ops.toArray[i]? =some o:=by simpa using ho
    simp only[hoA]
    split
    ·rename_i hw';exact .inl (k1 hw')
    ·rename_i hw';exact k2 (by simpa using hw')
 have e0:∀j,j<ops.length→(Array.replicate ops.length false).getD j true=false:=λj hj=>by simp[hj]
 have hsz0:ops.toArray.size=ops.length:=by simp
 rw[hsz0];refine main ops.length (Array.replicate ops.length false) a _ (by simp) (by simp) (hext _ _ _ _ (λj hj=>(e0 j (by omega)).symm) h0) (λj o hj hl=>?_) (λj _ h2=>e0 j h2);rw[e0 j (List.getElem?_eq_some_iff.1 hj).1] at hl;cases hl
end
structure Sa where
 deps:List Nat
 r:Rp
 al:Option (List Rp×TypeId):=none
 late:Option (Nat×List Rp):=none
 sto:Option Nat:=none
def DF (sp:List Sa)(i:Nat):Sa:=sp.getD i { deps:=[],r:=rv undef }
def QM (sp:List Sa):List Sp:=sp.map λs=>⟨s.deps,s.r,0⟩
def Jm (β:Nat→Nat)(s:Sa)(i:Nat):Rp:=match s.al with
 | none=>s.r
 | some _=>rv (.pointer (some ⟨β i,0,none⟩))
def J7 (S:Nat→Bool)(late:Option (Nat×List Rp))(cs:List Rp):List Rp:=match late with
 | none=>cs
 | some q=>if S q.1 then q.2 else cs
def Eq (S:Nat→Bool)(β:Nat→Nat):List Sa→Nat→List Ent
 | [],_=>[]
 | s::r,t=>match s.al with
  | some p=>if S t then .blk (β t) (J7 S s.late p.1) p.2::Eq S β r (t+1) else Eq S β r (t+1)
  | none=>Eq S β r (t+1)
def QC (β:Nat→Nat):List Sa→Nat→List Ent
 | [],_=>[]
 | s::r,t=>match s.al with
  | some p=>.blk (β t) (match s.late with | none=>p.1 | some q=>q.2) p.2::QC β r (t+1)
  | none=>QC β r (t+1)
def Lp (β:Nat→Nat):List Oper→List Sa→Nat→Fr→Fr
 | o::os,s::sp,i,l=>match o.dst with
  | some d=>(d,Jm β s i)::Lp β os sp (i+1) l
  | none=>Lp β os sp (i+1) l
 | _,_,_,l=>l
theorem Ir {S S':Nat→Bool}{late:Option (Nat×List Rp)}{cs:List Rp}(h:∀q,late=some q→S q.1=S' q.1):J7 S late cs=J7 S' late cs:=by
 unfold J7
 cases late with
 | none=>rfl
 | some q=>simp only[];rw[h q rfl]
theorem D4 (S:Nat→Bool)(β:Nat→Nat)(s:Sa)(r:List Sa)(t:Nat):Eq S β (s::r) t=match s.al with
  | some p=>if S t then .blk (β t) (J7 S s.late p.1) p.2::Eq S β r (t+1) else Eq S β r (t+1)
  | none=>Eq S β r (t+1):=rfl
theorem EG {S S':Nat→Bool}{β β':Nat→Nat}:∀(r:List Sa) (t0:Nat),(∀(t:Nat) (s:Sa),r[t]? =some s→s.al≠none→S (t0+t)=S' (t0+t)∧(S (t0+t)=true→β (t0+t)=β' (t0+t)∧∀q,s.late=some q→S q.1=S' q.1))→Eq S β r t0=Eq S' β' r t0
 | [],_,_=>rfl
 | s::r,t0,h=>by
  have ih:=EG r (t0+1) (λt s hs hn=>by
   have:=h (t+1) s (by simpa using hs) hn;rw[show t0+1+t=t0+(t+1) from by omega];exact this)
  unfold Eq;rw[ih]
  cases ha:s.al with
  | none=>rfl
  | some p=>
   obtain⟨h1,h2⟩:=h 0 s rfl (by rw[ha];exact nofun);simp only[Nat.add_zero] at h1 h2;simp only[];rw[← h1]
   split
   ·rename_i hS;rw[(h2 hS).1,Ir (h2 hS).2]
   ·rfl
theorem Og (β:Nat→Nat):∀(r:List Sa) (t0:Nat),Eq (λ_=>true) β r t0=QC β r t0
 | [],_=>rfl
 | s::r,t0=>by
  unfold Eq QC;rw[Og β r (t0+1)]
  cases s.al with
  | none=>rfl
  | some p=>cases hl:s.late<;>simp[J7,hl]
theorem LX (β:Nat→Nat):∀(r:List Sa) (t0:Nat),Eq (λ_=>false) β r t0=[]
 | [],_=>rfl
 | s::r,t0=>by
  unfold Eq;rw[LX β r (t0+1)]
  cases s.al<;>simp
theorem Of {S:Nat→Bool}{β:Nat→Nat}{i b:Nat}{p:List Rp×TypeId}:∀(r:List Sa) (t0 k:Nat) (s:Sa),i=t0+k→r[k]? =some s→s.al=some p→S i=false→(∀(t:Nat) (s:Sa) (q:Nat×List Rp),r[t]? =some s→s.al≠none→s.late=some q→q.1≠i)→(∀q,s.late=some q→S q.1=false∧q.1≠i)→
  (Eq (λj=>j ==i||S j) (λj=>if j=i then b else β j) r t0).Perm (.blk b p.1 p.2::Eq S β r t0)
 | [],_,_,_,_,h,_,_,_,_=>by simp at h
 | s'::r,t0,0,s,hi,h,ha,hS,hne,hl=>by
  simp at h hi;subst h;subst hi;have e:=EG (S:=λj=>j ==i||S j) (S':=S) (β:=λj=>if j=i then b else β j) (β':=β) r (i+1) (λt s hs hn=>by
   have:i+1+t≠i:=by omega
   refine⟨by simp[this],λ_=>⟨by simp[this],λq hq=>?_⟩⟩;have:=hne (t+1) s q (by simpa using hs) hn hq;simp[this])
  have ec:J7 (λj=>j ==i||S j) s'.late p.1=p.1:=by
   unfold J7
   cases hq:s'.late with
   | none=>rfl
   | some q=>
    obtain⟨h1,h2⟩:=hl q hq;simp[h1,h2]
  unfold Eq;rw[e,ha];simp only[hS,BEq.rfl,VW,if_true,ec];simp
 | s'::r,t0,k+1,s,hi,h,ha,hS,hne,hl=>by
  have ih:=Of (S:=S) (β:=β) (i:=i) (b:=b) (p:=p) r (t0+1) k s (by omega) (by simpa using h) ha hS (λt s q hs=>hne (t+1) s q (by simpa using hs)) hl;have hne0:t0≠i:=by omega
  have hne':(t0 ==i)=false:=by simpa using hne0
  unfold Eq
  cases ha':s'.al with
  | none=>exact ih
  | some q=>
   simp only[hne',V6,Vp hne0];rw[Ir (S:=λj=>j ==i||S j) (S':=S) (λq hq=>by
    have:=hne 0 s' q rfl (by rw[ha'];exact nofun) hq;simp[this])]
   cases hS':S t0 with
   | true=>simpa using(Vd _ ih).trans (List.Perm.swap _ _ _)
   | false=>simpa using ih
theorem Oe {S:Nat→Bool}{β:Nat→Nat}{i j:Nat}{p:List Rp×TypeId}{ncs:List Rp}:∀(r:List Sa) (t0 k:Nat) (s:Sa),j=t0+k→r[k]? =some s→s.al=some p→s.late=some (i,ncs)→S j=true→S i=false→(∀(t:Nat) (s:Sa) (q:Nat×List Rp),r[t]? =some s→s.al≠none→s.late=some q→t0+t≠j→q.1≠i)→(∀(t:Nat) (s:Sa),r[t]? =some s→s.al≠none→t0+t≠i)→
  ∃H',(Eq S β r t0).Perm (.blk (β j) p.1 p.2::H')∧(Eq (λj=>j ==i||S j) β r t0).Perm (.blk (β j) ncs p.2::H')
 | [],_,_,_,_,h,_,_,_,_,_,_=>by simp at h
 | s'::r,t0,0,s,hj,h,ha,hl,hSj,hSi,hne,hni=>by
  simp at h hj;subst h;subst hj;have e:=EG (S:=λx=>x ==i||S x) (S':=S) (β:=β) (β':=β) r (j+1) (λt s hs hn=>by
   have h1:=hni (t+1) s (by simpa using hs) hn;have h1':j+1+t≠i:=by omega
   refine⟨by simp[h1'],λ_=>⟨rfl,λq hq=>?_⟩⟩;have:=hne (t+1) s q (by simpa using hs) hn hq (by omega);simp[this])
  refine⟨Eq S β r (j+1),?_,?_⟩
  ·rw[D4];rw[ha];simp[hSj,J7,hl,hSi]
  ·rw[D4];rw[ha,e];simp[hSj,J7,hl]
 | s'::r,t0,k+1,s,hj,h,ha,hl,hSj,hSi,hne,hni=>by
  obtain⟨H',h1,h2⟩:=Oe (S:=S) (β:=β) (i:=i) (j:=j) (p:=p) (ncs:=ncs) r (t0+1) k s (by omega) (by simpa using h) ha hl hSj hSi (λt s q hs hn hq hx=>hne (t+1) s q (by simpa using hs) hn hq (by omega)) (λt s hs hn=>by
   have:=hni (t+1) s (by simpa using hs) hn;omega)
  cases ha':s'.al with
  | none=>exact⟨H',by rw[D4,ha'];exact h1,by rw[D4,ha'];exact h2⟩
  | some q=>
   have hi0:=hni 0 s' rfl (by rw[ha'];exact nofun);have hi0':(t0 ==i)=false:=by simpa using hi0
   have ec:J7 (λx=>x ==i||S x) s'.late q.1=J7 S s'.late q.1:=Ir (λq hq=>by
    have:=hne 0 s' q rfl (by rw[ha'];exact nofun) hq (by omega);simp[this])
   cases hS':S t0 with
   | true=>
    refine⟨.blk (β t0) (J7 S s'.late q.1) q.2::H',?_,?_⟩
    ·rw[D4];rw[ha'];simpa[hS'] using(Vd _ h1).trans (List.Perm.swap _ _ _)
    ·rw[D4];rw[ha'];simp only[hi0',V6,hS',if_true,ec];exact(Vd _ h2).trans (List.Perm.swap _ _ _)
   | false=>
    refine⟨H',?_,?_⟩
    ·rw[D4];rw[ha'];simpa[hS'] using h1
    ·rw[D4];rw[ha'];simp only[hi0',V6,hS'];simpa using h2
def UI (n:Nat)(ops:List Oper)(N:Nat)(keys:List Nat)(deps:List (List Nat))(als:List Bool)(lates stos:List (Option Nat)):Bool:=
 OR ops N&&decide (N≤ops.length)&&
 (List.range N).all (λi=>match CR ops i with
  | some d=>decide (d<n)&&!keys.contains d&&(List.range N).all (λj=>j ==i||CR ops j !=some d)
  | none=>true)&&
 (List.range N).all (λi=>(deps.getD i []).all (λj=>decide (j<N)&&(DU (ops.getD i default)).contains j&&!als.getD j true))&&
 (List.range N).all (λi=>match stos.getD i none with
  | some j=>decide (j<N)&&(DU (ops.getD i default)).contains j&&als.getD j false&&!als.getD i true
  | none=>true)&&
 (List.range N).all (λj=>match lates.getD j none with
  | some k=>decide (k<N)&&als.getD j false&&stos.getD k none ==some j
  | none=>true)
def Uf (P:Program)(n:Nat)(c:Cx)(opsA:Array Oper)(Q:Exit→Act→World→Prop)(l:Fr)(o:Oper)(p:List Rp×TypeId):Prop:=
 ∀H a w Z (K:Act→World→Prop),Cf n l a Z→St c H Z w→(∀b w',St c (.blk b p.1 p.2::H) Z w'→K (a.put o.dst (.pointer (some ⟨b,0,none⟩))) w')→
  Region.wanted o (yielded opsA a.tmps)=true∧o.wp P a w K Q
def T8 (P:Program)(n:Nat)(c:Cx)(opsA:Array Oper)(Q:Exit→Act→World→Prop)(ops:List Oper)(sp:List Sa)(l0:Fr)(H:List Ent)(i:Nat)(o:Oper):Prop:=
 match (DF sp i).sto with
 | some j=>o.dst=none∧∃d p ncs,CR ops j=some d∧(DF sp j).al=some p∧(DF sp j).late=some (i,ncs)∧
   ∀b H,D5 P n c opsA Q ((d,rv (.pointer (some ⟨b,0,none⟩)))::B7 ops (QM sp) (DF sp i).deps l0) (.blk b p.1 p.2::H) o (rv undef) (.blk b ncs p.2::H)
 | none=>match (DF sp i).al with
  | none=>∀E,D5 P n c opsA Q (B7 ops (QM sp) (DF sp i).deps l0) (H++E) o (DF sp i).r (H++E)
  | some p=>Uf P n c opsA Q (B7 ops (QM sp) (DF sp i).deps l0) o p
def Hz (P:Program)(n:Nat)(c:Cx)(opsA:Array Oper)(Q:Exit→Act→World→Prop)(ops:List Oper)(sp:List Sa)(l0:Fr)(H:List Ent):Nat→List Oper→Prop
 | i,o::rest=>T8 P n c opsA Q ops sp l0 H i o∧Hz P n c opsA Q ops sp l0 H (i+1) rest
 | _,[]=>True
section
variable {P : Program} {n : Nat} {c : Cx} {opsA : Array Oper} {Q : Exit → Act → World → Prop} {l l0 : Fr} {H : List Ent} {sp : List Sa}
theorem Hz.at {ops:List Oper}:∀{k:Nat} {rest:List Oper},Hz P n c opsA Q ops sp l0 H k rest→∀(t:Nat) o,rest[t]? =some o→T8 P n c opsA Q ops sp l0 H (k+t) o
 | k,o::rest,⟨h1,h2⟩,t,o',ht=>by
  cases t with
  | zero=>simp at ht;subst ht;exact h1
  | succ t=>
   have:=Hz.at h2 t o' (by simpa using ht);rw[show k+(t+1)=k+1+t from by omega];exact this
 | _,[],_,t,o,h=>by simp at h
theorem PI {β:Nat→Nat}{a:Act}{Z:Fz}(h0:Cf n l0 a Z):∀(os:List Oper) (ss:List Sa) (k:Nat),(∀(t:Nat) o s d,os[t]? =some o→ss[t]? =some s→o.dst=some d→∃v,a.tmps[d]? =some v∧(Jm β s (k+t)).p Z v)→Cf n (Lp β os ss k l0) a Z
 | [],_,_,_=>by unfold Lp;exact h0
 | _::_,[],_,_=>by unfold Lp;exact h0
 | o::os,s::ss,k,h=>by
  have ih:=PI h0 os ss (k+1) (λt o' s' d h1 h2 h3=>by
   have:=h (t+1) o' s' d (by simpa using h1) (by simpa using h2) h3;rw[show k+1+t=k+(t+1) from by omega];exact this)
  unfold Lp
  cases hd:o.dst with
  | none=>exact ih
  | some d=>
   refine⟨ih.size,ih.defers,λi r hi=>?_⟩;rw[B9] at hi
   split at hi
   ·rename_i e;subst e;simp at hi;subst hi;exact h 0 o s d rfl rfl hd
   ·exact ih.tm i r hi
theorem TD {id:Nat}{ops:List Oper}(N:Nat)(sp:List Sa)(hm:P.follows .mixedOrders=true)(hB:UI n ops N (EF l0) (sp.map (·.deps)) (sp.map (·.al.isSome)) (sp.map (·.late.map (·.1))) (sp.map (·.sto))=true)(hl0:Tt l0 l)(hsp:sp.length=N)
  (hob:Hz P n c ops.toArray Q ops sp l0 H 0 (ops.take N)) (h:∀β,WL P n c ops.toArray Q (ops.drop N) (Lp β (ops.take N) sp 0 l0) (H++QC β sp 0)):WC P n c (.region id ops.toArray true) Q l H:=by
 intro a w Z ha hw;simp only[UI,Vj,V9,List.mem_range,Vf] at hB;obtain⟨⟨⟨⟨⟨b1,bN⟩,b2⟩,b3⟩,b4⟩,b5⟩:=hB;have hget:∀i,i<N→(ops.take N)[i]? =ops[i]?:=λi hi=>by rw[VJ,Vu hi]
 have hsa:∀i,i<N→sp[i]? =some (DF sp i):=λi hi=>by
  simp[DF,Vn,Vi (show i<sp.length by omega)]
 have hspq:∀i,i<N→(CG (QM sp) i)=⟨(DF sp i).deps,(DF sp i).r,0⟩:=λi hi=>by
  simp[CG,QM,Vn,VS,hsa i hi]
 have hals:∀j b,j<N→(sp.map (·.al.isSome)).getD j b=(DF sp j).al.isSome:=λj b hj=>by simp[Vn,VS,hsa j hj]
 have hstos:∀j,j<N→(sp.map (·.sto)).getD j none=(DF sp j).sto:=λj hj=>by simp[Vn,VS,hsa j hj]
 have hlates:∀j,j<N→(sp.map (·.late.map (·.1))).getD j none=(DF sp j).late.map (·.1):=λj hj=>by simp[Vn,VS,hsa j hj]
 have S1:∀i o j,i<N→ops[i]? =some o→(DF sp i).sto=some j→j<N∧j∈DU o∧(DF sp j).al≠none∧(DF sp i).al=none:=λi o j hi ho hs=>by
  have h1:=b4 i hi;rw[hstos i hi,hs] at h1;simp only[Vj,V0,Vf] at h1;obtain⟨⟨⟨h2,h3⟩,h4⟩,h5⟩:=h1;rw[hals j _ h2] at h4;rw[hals i _ hi] at h5;rw[Vn,ho,V1,List.contains_iff_mem] at h3;exact⟨h2,h3,λe=>(by rw[e] at h4;cases h4),(by simpa using h5)⟩
 have L1:∀t q,t<N→(DF sp t).late=some q→q.1<N∧(DF sp q.1).sto=some t:=λt q ht hq=>by
  have h1:=b5 t ht;rw[hlates t ht,hq] at h1;simp only[Option.map_some,Vj,Vf,beq_iff_eq] at h1;obtain⟨⟨h2,h3⟩,h4⟩:=h1;rw[hstos _ h2] at h4;exact⟨h2,h4⟩
 have hops:∀j,j<N→∃o,ops[j]? =some o:=λj hj=>⟨ops[j]'(by omega),Vi (by omega)⟩
 have lt_of:∀(t:Nat) (s:Sa),sp[t]? =some s→t<N∧s=DF sp t:=λt s hs=>by
  have h1:t<N:=by have:=(List.getElem?_eq_some_iff.1 hs).1;omega
  refine⟨h1,?_⟩;rw[hsa t h1] at hs;simpa using hs.symm
 have hdst:∀i o d,i<N→ops[i]? =some o→o.dst=some d→(d<n∧d ∉ EF l0)∧∀j,j<N→j≠i→CR ops j≠some d:=λi o d hi ho hd=>by
  have h3:=b2 i hi;have:CR ops i=some d:=by simp[CR,ho,hd]
  rw[this] at h3;simp only[Vj,V0,V9,List.mem_range,Vf] at h3;refine⟨⟨h3.1.1,λhmem=>by rw[← List.contains_iff_mem] at hmem;rw[hmem] at h3;cases h3.1.2⟩,λj hj hne he=>?_⟩;have:=h3.2 j hj;simp[hne,he] at this
 refine TC (N:=N) hm b1 bN (λS a w=>∃ (β:Nat→Nat) (Z:Fz),St c (H++Eq S β sp 0) Z w∧Cf n l0 a Z∧(∀j o d,j<N→S j=true→ops[j]? =some o→o.dst=some d→∃v,a.tmps[d]? =some v∧(Jm β (DF sp j) j).p Z v)∧
   ∀k j,k<N→(DF sp k).sto=some j→S k=true→S j=true)
  (λS S' a w hS hI=>?_) ⟨λ_=>0,Z,?_,ha.subL hl0,λj o d _ hS=>(by cases hS),λk j _ _ hS=>(by cases hS)⟩ (λS i o a w hi hun ho hb hI K hK=>?_) (λa w hI=>?_)
 ·obtain⟨β,Z,h1,h2,h3,h4⟩:=hI;refine⟨β,Z,?_,h2,λj o d hj hS'=>h3 j o d hj (by rw[hS j hj];exact hS'),λk j hk hs hSk=>?_⟩
  ·rw[← EG (S:=S) (β:=β) (β':=β) sp 0 (λt s hs _=>by
    obtain⟨ht,rfl⟩:=lt_of t s hs;exact⟨hS _ (by omega),λ_=>⟨rfl,λq hq=>hS _ (L1 t q ht hq).1⟩⟩)]
   exact h1
  ·obtain⟨o,ho⟩:=hops k hk;rw[← hS j (S1 k o j hk ho hs).1];exact h4 k j hk hs (by rw[hS k hk];exact hSk)
 ·rw[LX,VB];exact hw.drawn _
 ·obtain⟨β,Z,h1,h2,h3,hx⟩:=hI;have hput:∀k u v,a.tmps[k]? =some u→o.dst≠some k→(a.put o.dst v).tmps[k]? =some u:=λk u v hk hne=>by
   cases hd:o.dst with
   | none=>simpa[Act.put] using hk
   | some d=>
    simp only[Act.put,Array.getElem?_setIfInBounds];rw[Vp (λe=>hne (by rw[hd,e]))];exact hk
  have hagr:∀v Z',Fz.le Z Z'→Cf n l0 (a.put o.dst v) Z':=λv Z' hz=>by
   refine⟨?_,?_,λk r hk=>?_⟩
   ·cases o.dst<;>simp[Act.put,h2.size]
   ·cases o.dst<;>simp[Act.put,h2.defers]
   ·obtain⟨u,hu,hpu⟩:=h2.tm k r hk;exact⟨u,hput k u v hu (λe=>((hdst i o k hi ho e).1).2 (KM hk)),r.mono hz hpu⟩
  have hvals:∀(v:Value) (Z':Fz) (β':Nat→Nat),Fz.le Z Z'→(∀j,j≠i→β' j=β j)→(o.dst≠none→(Jm β' (DF sp i) i).p Z' v)→∀j o' d,j<N→(j ==i||S j)=true→ops[j]? =some o'→o'.dst=some d→∃u,(a.put o.dst v).tmps[d]? =some u∧(Jm β' (DF sp j) j).p Z' u:=by
   intro v Z' β' hz hβ hp j o' d hj hS' ho' hd
   by_cases hji:j=i
   ·subst hji;rw[ho] at ho';simp at ho';subst ho';refine⟨v,?_,hp (by simp[hd])⟩;have hdn:d<a.tmps.size:=by rw[h2.size];exact(hdst j o d hi ho hd).1.1
    simp[Act.put,hd,hdn]
   ·have hSj:S j=true:=by simpa[hji] using hS'
    obtain⟨u,hu,hpu⟩:=h3 j o' d hj hSj ho' hd;refine⟨u,hput d u v hu (λe=>(hdst i o d hi ho e).2 j hj hji (by simp[CR,ho',hd])),?_⟩;have:Jm β' (DF sp j) j=Jm β (DF sp j) j:=by unfold Jm;rw[hβ j hji]
    rw[this];exact(Jm β (DF sp j) j).mono hz hpu
  have hx':∀k j,k<N→(DF sp k).sto=some j→(k ==i||S k)=true→(j ==i||S j)=true:=λk j hk hs hSk=>by
   by_cases hki:k=i
   ·subst hki;have:=(hb j (S1 k o j hk ho hs).2.1).2;simp[this]
   ·have:S j=true:=hx k j hk hs (by simpa[hki] using hSk);simp[this]
  have hat:=hob.at i o (by rw[hget i hi];exact ho);rw[V4] at hat;unfold T8 at hat;have hag':Cf n (B7 ops (QM sp) (DF sp i).deps l0) a Z:=Ks h2 (λj hj d hd=>by
    have h4:=b3 i hi j (by simpa[Vn,VS,hsa i hi] using hj);simp only[Vj,V0,Vf] at h4;obtain⟨⟨h5,h6⟩,h7⟩:=h4;rw[Vn,ho,V1,List.contains_iff_mem] at h6;have hjal:(DF sp j).al=none:=by
     rw[hals j _ h5] at h7;simpa using h7
    obtain⟨o2,ho2⟩:=hops j h5;obtain⟨v,hv1,hv2⟩:=h3 j o2 d h5 (hb j h6).2 ho2 (by simpa[CR,ho2] using hd);refine⟨v,hv1,?_⟩;rw[hspq j h5];simpa[Jm,hjal] using hv2)
  cases hst:(DF sp i).sto with
  | some j=>
   rw[hst] at hat;obtain⟨hod,d,p,ncs,hd,hal,hlate,hok⟩:=hat;obtain⟨hjN,hjb,_,hial⟩:=S1 i o j hi ho hst;have hSj:=(hb j hjb).2;obtain⟨H',p1,p2⟩:=Oe (S:=S) (β:=β) (i:=i) (j:=j) (p:=p) (ncs:=ncs) sp 0 j (DF sp j) (by omega) (hsa j hjN) hal hlate hSj hun (λt s q hs _ hq hne he=>by
     obtain⟨ht,rfl⟩:=lt_of t s hs;have:=(L1 t q ht hq).2;rw[he,hst] at this;simp at this;omega) (λt s hs hn he=>by
     obtain⟨ht,rfl⟩:=lt_of t s hs;rw[V4] at he;subst he;exact hn hial)
   obtain⟨o2,ho2⟩:=hops j hjN;obtain⟨v,hv1,hv2⟩:=h3 j o2 d hjN hSj ho2 (by simpa[CR,ho2] using hd);have hag2:Cf n ((d,rv (.pointer (some ⟨β j,0,none⟩)))::B7 ops (QM sp) (DF sp i).deps l0) a Z:=⟨hag'.size,hag'.defers,λk r hk=>by
    rw[B9] at hk
    split at hk
    ·rename_i e;subst e;simp at hk;subst hk
     exact⟨v,hv1,by simpa[Jm,hal] using hv2⟩
    ·exact hag'.tm k r hk⟩
   refine hok (β j) (H++H') a w Z K hag2 (h1.perm ((List.Perm.append_left H p1).trans List.perm_middle)) (λv w' Z' hz _ hs'=>hK _ _ ⟨β,Z',?_,hagr v Z' hz,hvals v Z' β hz (λ_ _=>rfl) (λhne=>absurd hod hne),hx'⟩);exact hs'.perm (List.perm_middle.symm.trans (List.Perm.append_left H p2.symm))
  | none=>
   rw[hst] at hat;have latene:∀t q,t<N→(DF sp t).late=some q→q.1≠i:=λt q ht hq he=>by
    have:=(L1 t q ht hq).2;rw[he,hst] at this;cases this
   cases hal:(DF sp i).al with
   | none=>
    rw[hal] at hat;refine hat _ a w Z K hag' h1 (λv w' Z' hz hp hst'=>hK _ _ ⟨β,Z',?_,hagr v Z' hz,hvals v Z' β hz (λ_ _=>rfl) (λ_=>by unfold Jm;rw[hal];exact hp),hx'⟩);rw[EG (S':=S) (β':=β) sp 0 (λt s hs hn=>by
     obtain⟨ht,rfl⟩:=lt_of t s hs;have:t≠i:=λe=>by subst e;exact hn hal
     refine⟨by simp[this],λ_=>⟨rfl,λq hq=>?_⟩⟩;have:=latene t q ht hq;simp[this])]
    exact hst'
   | some p=>
    rw[hal] at hat;have key:=λK' hK'=>hat (H++Eq S β sp 0) a w Z K' hag' h1 hK';have h5:∀b w',St c (.blk b p.1 p.2::(H++Eq S β sp 0)) Z w'→K (a.put o.dst (.pointer (some ⟨b,0,none⟩))) w':=λb w' hst'=>by
     refine hK _ _ ⟨λj=>if j=i then b else β j,Z,?_,hagr _ Z (Fz.le.refl _),hvals _ Z _ (Fz.le.refl _) (λj hj=>by simp[hj]) (λ_=>by simp[Jm,hal,rv]),hx'⟩;have hp:=Of (S:=S) (β:=β) (i:=i) (b:=b) (p:=p) sp 0 i (DF sp i) (by omega) (hsa i hi) hal hun (λt s q hs _ hq=>by
      obtain⟨ht,rfl⟩:=lt_of t s hs;exact latene t q ht hq) (λq hq=>by
       refine⟨?_,latene i q hi hq⟩
       cases hS:S q.1 with
       | false=>rfl
       | true=>
        obtain⟨h6,h7⟩:=L1 i q hi hq;have:=hx q.1 i h6 h7 hS;rw[this] at hun;cases hun)
     exact hst'.perm ((List.perm_middle.symm).trans (List.Perm.append_left H hp.symm))
    refine⟨λ_=>(key K h5).2,λhw'=>?_⟩;rw[(key K h5).1] at hw';cases hw'
 ·obtain⟨β,Z,h1,h2,h3,_⟩:=hI;refine h β a w Z (PI h2 _ _ 0 (λt o s d ht hs hd=>?_)) (by rw[← Og];exact h1);obtain⟨htN,rfl⟩:=lt_of t s hs;rw[V4];exact h3 t o d htN rfl (by rw[← hget t htN];exact ht) hd
end
theorem Om {l:Fr}{P:Program}{n:Nat}{c:Cx}{opsA:Array Oper}{Q:Exit→Act→World→Prop}{d:Nat}{e:TypeId}{ty:TypeId}{pos:String}{af:Array Edge}{z:Value}{cs:List Rp}(hz:∀w,(zeroValue e).run P w = .ok z w)(hcs:z.cells.toList.map rv=cs) :
  Uf P n c opsA Q l { dst:=some d,op:=.alloc e,type:=ty,pos:=pos,after:=af,guard:=none } (cs,e):=λH a w Z K _ hw hK=>by
 refine⟨by simp[Region.wanted],?_⟩;unfold Oper.wp;rw[show(execOp a.eval { dst:=some d,op:=.alloc e,type:=ty,pos:=pos,after:=af,guard:=none }).run P w = .ok (.value (.pointer (some ⟨w.heap.size,0,none⟩))) (w.alloc (.cells z.cells e)) from by simp[execOp,Instr.alloc,hz,newVar,newRow,newObj,Sem.run,Sem.run_bind]];exact hK _ _ (hw.alloc _ (e:=.blk w.heap.size cs e) ⟨z.cells.toList,by simpa using heap_alloc_new w _,by subst hcs;exact AV.rvs Z _⟩ rfl)
section
variable {P : Program} {n : Nat} {c : Cx} {opsA : Array Oper} {Q : Exit → Act → World → Prop} {l l0 : Fr} {H : List Ent} {sp : List Sa}
theorem C1 {id:Nat}{ops:List Oper}(N:Nat)(ks0:List Nat)(sp:List Sa)(hob:Hz P n c ops.toArray Q ops sp l0 H 0 (ops.take N))(h:∀β,WL P n c ops.toArray Q (ops.drop N) (Lp β (ops.take N) sp 0 l0) (H++QC β sp 0))
  (h0:Kp ks0 l l0:=by repeat (first | exact NU | (apply KT;rfl) | (apply L2;rfl))) (hm:P.follows .mixedOrders=true:=by kernel_rfl) (hB:UI n ops N (EF l0) (sp.map (·.deps)) (sp.map (·.al.isSome)) (sp.map (·.late.map (·.1))) (sp.map (·.sto))=true:=by kernel_rfl)
  (hsp:sp.length=N:=by rfl):WC P n c (.region id ops.toArray true) Q l H:=TD N sp hm hB h0.one hsp hob h
theorem C3 {all rest:List Oper}{d:Nat}{op:Op}{ty:TypeId}{pos:String}{af:Array Edge}{i:Nat}
  (hr:∀{H},Bp P n c (B7 all (QM sp) (DF sp i).deps l0) H { dst:=some d,op:=op,type:=ty,pos:=pos,after:=af,guard:=none } (DF sp i).r) (h:Hz P n c opsA Q all sp l0 H (i+1) rest) (ha:(DF sp i).al=none:=by rfl) (hs:(DF sp i).sto=none:=by rfl) :
  Hz P n c opsA Q all sp l0 H i ({ dst:=some d,op:=op,type:=ty,pos:=pos,after:=af,guard:=none }::rest):=by
 refine⟨?_,h⟩;unfold T8;rw[hs,ha];exact λ_=>IM hr
theorem JZ {all rest:List Oper}{d:Nat}{op:Op}{ty:TypeId}{pos:String}{af:Array Edge}{i:Nat}
  (hr:∀{E},Bp P n c (B7 all (QM sp) (DF sp i).deps l0) (H++E) { dst:=some d,op:=op,type:=ty,pos:=pos,after:=af,guard:=none } (DF sp i).r) (h:Hz P n c opsA Q all sp l0 H (i+1) rest) (ha:(DF sp i).al=none:=by rfl) (hs:(DF sp i).sto=none:=by rfl) :
  Hz P n c opsA Q all sp l0 H i ({ dst:=some d,op:=op,type:=ty,pos:=pos,after:=af,guard:=none }::rest):=by
 refine⟨?_,h⟩;unfold T8;rw[hs,ha];exact λ_=>IM hr
theorem Un {all rest:List Oper}{o:Oper}{p:List Rp×TypeId}{i:Nat}(hr:Uf P n c opsA Q (B7 all (QM sp) (DF sp i).deps l0) o p)(h:Hz P n c opsA Q all sp l0 H (i+1) rest)(ha:(DF sp i).al=some p:=by rfl)(hs:(DF sp i).sto=none:=by rfl):Hz P n c opsA Q all sp l0 H i (o::rest):=by
 refine⟨?_,h⟩;unfold T8;rw[hs,ha];exact hr
theorem UY {all rest:List Oper}{op:Op}{ty:TypeId}{pos:String}{af:Array Edge}{g:Option (Nat×Bool)}{i j d:Nat}{p:List Rp×TypeId}{ncs:List Rp}
  (hr:∀{b H},D5 P n c opsA Q ((d,rv (.pointer (some ⟨b,0,none⟩)))::B7 all (QM sp) (DF sp i).deps l0) (.blk b p.1 p.2::H) { dst:=none,op:=op,type:=ty,pos:=pos,after:=af,guard:=g } (rv undef) (.blk b ncs p.2::H))
  (h:Hz P n c opsA Q all sp l0 H (i+1) rest) (hs:(DF sp i).sto=some j:=by rfl) (hd:CR all j=some d:=by rfl) (ha:(DF sp j).al=some p:=by rfl) (hl:(DF sp j).late=some (i,ncs):=by rfl) :
  Hz P n c opsA Q all sp l0 H i ({ dst:=none,op:=op,type:=ty,pos:=pos,after:=af,guard:=g }::rest):=by
 refine⟨?_,h⟩;unfold T8;rw[hs];exact⟨rfl,d,p,ncs,hd,ha,hl,λ_ _=>hr⟩
theorem OA {all:List Oper}{i:Nat}:Hz P n c opsA Q all sp l0 H i []:=trivial
end
structure S2 (ks:List Nat) (β:Nat→Nat) (os:List Oper) (sp:List Sa) (i:Nat) (l0 l1:Fr):Prop where
 go:Kp ks (Lp β os sp i l0) l1
section
variable {ks : List Nat} {β : Nat → Nat} {os : List Oper} {sp : List Sa} {i d : Nat} {l0 l1 : Fr} {ds : List Nat} {r : Rp} {p : List Rp × TypeId} {lt : Option (Nat × List Rp)} {so : Option Nat} {op : Op} {ty : TypeId} {pos : String} {af : Array Edge} {g : Option (Nat × Bool)}
theorem Ur (h:ks.contains d=true)(t:S2 ks β os sp (i+1) l0 l1):S2 ks β ({ dst:=some d,op:=op,type:=ty,pos:=pos,after:=af,guard:=g }::os) ({ deps:=ds,r:=r,sto:=so }::sp) i l0 ((d,r)::l1):=⟨KT h t.go⟩
theorem Uu (h:ks.contains d=true)(t:S2 ks β os sp (i+1) l0 l1):S2 ks β ({ dst:=some d,op:=op,type:=ty,pos:=pos,after:=af,guard:=g }::os) ({ deps:=ds,r:=r,al:=some p,late:=lt,sto:=so }::sp) i l0 ((d,rv (.pointer (some ⟨β i,0,none⟩)))::l1):=⟨KT h t.go⟩
theorem Ut {s:Sa}(h:ks.contains d=false)(t:S2 ks β os sp (i+1) l0 l1):S2 ks β ({ dst:=some d,op:=op,type:=ty,pos:=pos,after:=af,guard:=g }::os) (s::sp) i l0 l1:=⟨L2 h t.go⟩
theorem Us {s:Sa}(t:S2 ks β os sp (i+1) l0 l1):S2 ks β ({ dst:=none,op:=op,type:=ty,pos:=pos,after:=af,guard:=g }::os) (s::sp) i l0 l1:=⟨t.go⟩
theorem Uv (t:Kp ks l0 l1):S2 ks β [] [] i l0 l1:=⟨t⟩
theorem Dj {P:Program}{n:Nat}{c:Cx}{opsA:Array Oper}{Q:Exit→Act→World→Prop}{rest:List Oper}{H H1:List Ent}(ks:List Nat)(h:WL P n c opsA Q rest l1 H1)
  (hz:S2 ks β os sp i l0 l1:=by repeat (first | (apply Ur;rfl) | (apply Uu;rfl) | (apply Ut;rfl) | apply Us | apply Uv | exact NU | (apply KT;rfl) | (apply L2;rfl))) (hH:H=H1:=by rfl) :
  WL P n c opsA Q rest (Lp β os sp i l0) H:=λa w Z ha hw=>h a w Z (ha.subL hz.go.one) (hH▸hw)
end
section
variable {P : Program} {n : Nat} {c : Cx} {opsA : Array Oper} {Q : Exit → Act → World → Prop} {l l0 : Fr} {H : List Ent} {sp : List Sa}
theorem OB {all rest:List Oper}{o:Oper}{i:Nat}(hr:∀{E},D5 P n c opsA Q (B7 all (QM sp) (DF sp i).deps l0) (H++E) o (DF sp i).r (H++E))(h:Hz P n c opsA Q all sp l0 H (i+1) rest)(ha:(DF sp i).al=none:=by rfl)(hs:(DF sp i).sto=none:=by rfl):Hz P n c opsA Q all sp l0 H i (o::rest):=by
 refine⟨?_,h⟩;unfold T8;rw[hs,ha];exact λ_=>hr
end
section
variable {P : Program} {n : Nat} {c : Cx} {opsA : Array Oper} {Q : Exit → Act → World → Prop} {l : Fr} {H : List Ent} {d : Nat} {ty : TypeId} {pos : String} {af : Array Edge}
end
section
variable {P : Program} {n : Nat} {c : Cx} {ops : Array Oper} {Q : Exit → Act → World → Prop} {rest : List Oper} {l : Fr} {H H' : List Ent} {d : Nat} {d' : Option Nat} {x y z3 : Operand} {ty t t' e : TypeId} {pos : String} {af : Array Edge} {g : Option (Nat × Bool)} {v u : Value} {r : Rp} {sz : Nat}
end
def UU (p:Bool→Prop):Rp:=⟨λ_ v=>∃b,v = .bool b∧p b,λ_ h=>h,true,λ_ Z v ⟨b,e,_⟩=>by rw[e];rfl⟩
section
variable {P : Program} {n : Nat} {c : Cx} {ops : Array Oper} {Q : Exit → Act → World → Prop} {rest : List Oper} {l : Fr} {H : List Ent} {d : Option Nat} {ty rty t e : TypeId} {pos : String} {af : Array Edge} {g : Option (Nat × Bool)} {r : Rp} {x : Operand} {cx cy : Code} {sz : Nat} {xs : List (List Rp)}
theorem Rc {o:Operand}{p:Bool→Prop}(ho:ev l o=some (UU p))(h1:p true→WC P n c cx Q l H)(h2:p false→WC P n c cy Q l H):WC P n c (.cond o cx cy) Q l H:=λa w Z ha hw=>by
 obtain⟨b,e,hp⟩:=ha.ev ho;exact wp_cond_split e (λe=>h1 (e▸hp) a w Z ha hw) (λe=>h2 (e▸hp) a w Z ha hw)
theorem Qm (ht:P.underlying t=some (.slice e))(h:ev l x=some (AH sz xs)):Bp P n c l H { dst:=d,op:=.binOp .eql t x (.const (.slice none 0 0)) rty,type:=ty,pos:=pos,after:=af,guard:=g } (UU (λb=>b=true→xs=[])):=λa w Z ha hw=>by
 obtain⟨A,cap,e1,h1,h2,h3,h4⟩:=ha.ev h;refine⟨.bool A.isNone,⟨_,rfl,λhb=>?_⟩,?_⟩
 ·cases A with
  | some a=>cases hb
  | none=>
   have:=h3 rfl;exact List.length_eq_zero_iff.1 (by omega)
 ·have:=run_equal_slice_nil (P:=P) w t e A xs.length cap ht;have e2:a.eval (.const (.slice none 0 0)) = .slice none 0 0:=rfl;simp[execOp,e1,e2,binOp,this,eqGuard]
end
section
variable {P : Program} {n : Nat} {c : Cx} {Q : Exit → Act → World → Prop} {l : Fr} {H : List Ent} {x rest' : Code} {K : Act → World → Prop}
end
section
variable {P : Program} {n : Nat} {c : Cx} {ops : Array Oper} {Q : Exit → Act → World → Prop} {rest : List Oper} {l : Fr} {H H' : List Ent} {d : Nat} {d' : Option Nat} {x y z3 z4 : Operand} {ty t t' e : TypeId} {pos : String} {af : Array Edge} {g : Option (Nat × Bool)} {v u : Value} {r : Rp} {sz : Nat}
end
structure Sx (U:Type) where
 deps:List Nat
 r:U→Rp
 dyn:Bool:=false
 old:List Nat:=[]
def QL {U:Type}(sp:List (Sx U))(i:Nat):Sx U:=sp.getD i { deps:=[],r:=λ_=>rv undef }
def UA {U:Type}(sp:List (Sx U))(u:U):List Sp:=sp.map λs=>⟨s.deps,s.r u,0⟩
def Tu {U:Type}:List (Sx U)→Prop
 | []=>True
 | s::r=>(s.dyn=false→∀u u',s.r u=s.r u')∧Tu r
theorem Tu.at {U:Type}:∀{sp:List (Sx U)},Tu sp→∀{i:Nat} {s:Sx U},sp[i]? =some s→s.dyn=false→∀u u',s.r u=s.r u'
 | [],_,i,s,h=>by simp at h
 | x::sp,⟨h1,h2⟩,0,s,h=>by simp at h;subst h;exact h1
 | x::sp,⟨h1,h2⟩,i+1,s,h=>Tu.at h2 (by simpa using h)
def IL (lw:Fr):List Nat→Fr→Fr
 | [],l=>l
 | d::r,l=>match look lw d with
  | some q=>(d,q)::IL lw r l
  | none=>IL lw r l
section
variable (P : Program) (n : Nat) (c : Cx) (opsA : Array Oper) (Q : Exit → Act → World → Prop)
def UW {U:Type}(l:Fr)(H:List Ent)(o:Oper)(r:U→Rp)(H1:U→List Ent):Prop:=
 ∀a w Z (K:Act→World→Prop),Cf n l a Z→St c H Z w→(∀u v w' Z',Fz.le Z Z'→(r u).p Z' v→St c (H1 u) Z' w'→K (a.put o.dst v) w')→
  Region.wanted o (yielded opsA a.tmps)=true∧o.wp P a w K Q
def Ty {U:Type}(ops:List Oper)(sp:List (Sx U))(l0 lw:Fr)(i0:Nat)(H:List Ent)(H1:U→List Ent):Nat→List Oper→Prop
 | i,o::rest=>(if i=i0 then(∀u,UW P n c opsA Q (IL lw (QL sp i).old (B7 ops (UA sp u) (QL sp i).deps l0)) H o (QL sp i).r H1) else ∀u H',(H'=H∨H'=H1 u)→D5 P n c opsA Q (IL lw (QL sp i).old (B7 ops (UA sp u) (QL sp i).deps l0)) H' o ((QL sp i).r u) H')∧Ty ops sp l0 lw i0 H H1 (i+1) rest
 | _,[]=>True
end
section
variable {P : Program} {n : Nat} {c : Cx} {opsA : Array Oper} {Q : Exit → Act → World → Prop} {l l0 lw : Fr} {U : Type} {H : List Ent} {H1 : U → List Ent} {sp : List (Sx U)} {i0 : Nat}
theorem Ty.at {ops:List Oper}:∀{k:Nat} {rest:List Oper},Ty P n c opsA Q ops sp l0 lw i0 H H1 k rest→∀(t:Nat) o,rest[t]? =some o→
  (if k+t=i0 then(∀u,UW P n c opsA Q (IL lw (QL sp (k+t)).old (B7 ops (UA sp u) (QL sp (k+t)).deps l0)) H o (QL sp (k+t)).r H1) else ∀u H',(H'=H∨H'=H1 u)→D5 P n c opsA Q (IL lw (QL sp (k+t)).old (B7 ops (UA sp u) (QL sp (k+t)).deps l0)) H' o ((QL sp (k+t)).r u) H')
 | k,o::rest,⟨h1,h2⟩,t,o',ht=>by
  cases t with
  | zero=>simp at ht;subst ht;exact h1
  | succ t=>
   have:=Ty.at h2 t o' (by simpa using ht);rw[show k+(t+1)=k+1+t from by omega];exact this
 | _,[],_,t,o,h=>by simp at h
end
section
variable {P : Program} {n : Nat} {c : Cx} {opsA : Array Oper} {Q : Exit → Act → World → Prop} {l : Fr} {H : List Ent} {d : Nat} {x y : Operand} {ty t e : TypeId} {pos : String} {af : Array Edge} {v : Value} {sz : Nat}
end
set_option maxRecDepth 100000
set_option maxHeartbeats 4000000
end Go.Proofs.YtfbmdidnlhifjaaGreatDoor.Q
namespace Go.Proofs.YtfbmdidnlhifjaaGreatDoor
open Go
set_option linter.unusedVariables false
set_option linter.unusedSimpArgs false
section
variable {T S : Type}
def B3:List (Am×T)→Am→Option T
 | [],_=>none
 | p::r,k=>bif decide (p.1=k) then some p.2 else B3 r k
def Ay (xs:List (Am×T))(k:Am)(z:T):T:=(B3 xs k).getD z
def Bu (xs:List (Am×T))(k:Am):Bool:=(B3 xs k).isSome
def mins (k:Am)(v:T):List (Am×T)→List (Am×T)
 | []=>[(k,v)]
 | p::r=>bif BJ k p.1 then(k,v)::p::r else p::mins k v r
def mput (xs:List (Am×T))(k:Am)(v:T):List (Am×T):=xs.map λp=>bif decide (p.1=k) then(k,v) else p
def mset (xs:List (Am×T))(k:Am)(v:T):List (Am×T):=bif Bu xs k then mput xs k v else mins k v xs
def AA (f:T→S)(xs:List (Am×T)):List (Am×S):=xs.map λp=>(p.1,f p.2)
theorem Hk (f:T→S):∀(xs:List (Am×T)) (k:Am),B3 (AA f xs) k=(B3 xs k).map f
 | [],k=>rfl
 | p::r,k=>by
  show(bif decide (p.1=k) then some (f p.2) else B3 (AA f r) k)=_;rw[B3,Hk f r k]
  cases decide (p.1=k)<;>rfl
theorem RC (f:T→S)(xs:List (Am×T))(k:Am):Bu (AA f xs) k=Bu xs k:=by
 unfold Bu;rw[Hk];cases B3 xs k<;>rfl
theorem NL (f:T→S)(k:Am)(v:T):∀xs:List (Am×T),AA f (mins k v xs)=mins k (f v) (AA f xs)
 | []=>rfl
 | p::r=>by
  show AA f (bif BJ k p.1 then(k,v)::p::r else p::mins k v r)=(bif BJ k p.1 then(k,f v)::(p.1,f p.2)::AA f r else(p.1,f p.2)::mins k (f v) (AA f r));rw[← NL f k v r]
  cases BJ k p.1<;>rfl
theorem RB (f:T→S)(xs:List (Am×T))(k:Am)(v:T):AA f (mset xs k v)=mset (AA f xs) k (f v):=by
 unfold mset;rw[RC]
 cases Bu xs k with
 | false=>exact NL f k v xs
 | true=>
  show AA f (mput xs k v)=mput (AA f xs) k (f v);unfold AA mput;rw[VV,VV];refine List.map_congr_left λp _=>?_;show _=(bif decide (p.1=k) then(k,f v) else(p.1,f p.2));simp only[Function.comp]
  cases decide (p.1=k)<;>rfl
theorem Hl (f:T→S)(xs:List (Am×T)):(AA f xs).length=xs.length:=by simp[AA]
theorem J1 (k:Am)(v:T):∀xs:List (Am×T),(mins k v xs).Perm ((k,v)::xs)
 | []=>Vh _
 | p::r=>by
  rw[mins]
  cases BJ k p.1 with
  | true=>exact Vh _
  | false=>exact((J1 k v r).cons p).trans (List.Perm.swap _ _ _)
end
structure At where
 fEntity:Am
 fID:Am
 fOp:Am
 fArgs:(List (List Ab))
 deriving DecidableEq,Inhabited
structure A0 where
 fErr:Int
 fValue:(List Ab)
 deriving DecidableEq,Inhabited
structure Aj where
 fOp:At
 fAnswer:A0
 fFrom:Int
 fTo:Int
 deriving DecidableEq,Inhabited
def Cw (ys:(List Ab)):Option ((List Ab)):=
 Bd (L4 40 (([]:List Ab).length+ys.length))<|some (([]:List Ab)++ys)
def Te (c:Int):Option (Bool):=
 some ((decide (97≤c))&&(decide (c≤122)))
def P6 (c:Int):Option (Bool):=
 some ((decide (48≤c))&&(decide (c≤57)))
def BV (ha:Bool):Option (Bool):=
 some ha
def RX (c:Int):Option (Bool):=
 Bo (Te c) λha=>Bg (ha) (BV true) (Bg (decide (65≤c)) (Bg (decide (c≤90)) (BV true) (Bo (P6 c) λhb=>Bg (hb) (BV true) (Bg (decide (c=45)) (BV true) (Bg (decide (c=95)) (BV true) (Bg (decide (c=46)) (BV true) (Bg (decide (c=58)) (BV true) (BV (decide (c=47))))))))) (Bo (P6 c) λhd=>Bg (hd) (BV true) (Bg (decide (c=45)) (BV true) (Bg (decide (c=95)) (BV true) (Bg (decide (c=46)) (BV true) (Bg (decide (c=58)) (BV true) (BV (decide (c=47)))))))))
def MI (s:Am)(ha:Int):Option (Stp (Int) (Out (Bool) (Unit))):=
 Bg (decide (ha<(s.length:Int))) (Bd (BL ha (s.length:Int))<|Bo (RX (Ln s ha)) λhb=>Bg (!hb) (some (.out (.ret false))) (Bd (BE .i64 (ha+1))<|some (.next (ha+1)))) (some (.out (.go ())))
def Tf :Option (Bool):=
 some true
def OM (F:Nat)(s:Am):Option (Bool):=
 Bg (((decide ((s.length:Int)<1))||(decide (64<(s.length:Int))))) (some false) (Bo (BI (λσ=>MI s σ) F 0) (BD λν=>Tf ))
def KX (l:(List Am))(s:Am)(ha:Int):Option (Stp (Int) (Out (Bool) (Unit))):=
 Bg (decide (ha<(l.length:Int))) (Bd (BL ha (l.length:Int))<|Bg (decide ((Ad l ha)=s)) (some (.out (.ret true))) (Bd (BE .i64 (ha+1))<|some (.next (ha+1)))) (some (.out (.go ())))
def RY :Option (Bool):=
 some false
def Sb (F:Nat)(l:(List Am))(s:Am):Option (Bool):=
 Bo (BI (λσ=>KX l s σ) F 0) (BD λν=>RY )
def Ht (ha:Int)(hb:(List Am)):Option (Stp ((List Am)×Int) (Out ((List Am)) ((List Am)))):=
 Bd (BE .i64 (ha+1))<|some (.next (hb,ha+1))
def EW (l:(List Am))(hb:(List Am))(hd:Int)(ha:Int):Option (Stp (Int) (Out (Stp ((List Am)×Int) (Out ((List Am)) ((List Am)))) (Int×Bool))):=
 Bd (imp (decide (ha<(hb.length:Int))) (BL ha (hb.length:Int)))<|Bd (imp (decide (ha<(hb.length:Int))) (BL hd (l.length:Int)))<|Bg (((decide (ha<(hb.length:Int)))&&(BJ (Ad hb ha) (Ad l hd)))) (Bd (BE .i64 (ha+1))<|some (.next (ha+1))) (some (.out (.go (ha,((decide (ha<(hb.length:Int)))&&(BJ (Ad hb ha) (Ad l hd)))))))
def Hq (l:(List Am))(ha:(List Am))(hd:Int)(hb:Int)(he:Bool):Option (Stp ((List Am)×Int) (Out ((List Am)) ((List Am)))):=
 Bd (imp (!(decide (hb=(ha.length:Int)))) (BL hb (ha.length:Int)))<|Bd (imp (!(decide (hb=(ha.length:Int)))) (BL hd (l.length:Int)))<|Bg (((decide (hb=(ha.length:Int)))||(!decide ((Ad ha hb)=(Ad l hd))))) (Bd (QO hb (ha.length:Int))<|Bd (L4 16 (([]:List Am).length+(List.take (Int.toNat hb) ha).length))<|Bd (BL hd (l.length:Int))<|Bd (L4 16 ((([]:List Am)++(List.take (Int.toNat hb) ha)).length+([Ad l hd]:List Am).length))<|Bd (L4 16 (((([]:List Am)++(List.take (Int.toNat hb) ha))++([Ad l hd]:List Am)).length+(List.drop (Int.toNat hb) ha).length))<|Ht hd (((([]:List Am)++(List.take (Int.toNat hb) ha))++([Ad l hd]:List Am))++(List.drop (Int.toNat hb) ha))) (Ht hd ha)
def Hu (F:Nat)(l:(List Am))(ha:(List Am))(hb:Int):Option (Stp ((List Am)×Int) (Out ((List Am)) ((List Am)))):=
 Bg (decide (hb<(l.length:Int))) (Bo (BI (λσ=>EW l ha hb σ) F 0) (BD λν=>Hq l ha hb ν.1 ν.2)) (some (.out (.go ha)))
def NX (ha:(List Am)):Option ((List Am)):=
 some ha
def KW (F:Nat)(l:(List Am)):Option ((List Am)):=
 Bo (BI (λσ=>Hu F l σ.1 σ.2) F (([]:List Am),0)) (BD λν=>NX ν)
def KH (op:Am):Option (Int×Bool):=
 some (Ay (mset (mset (mset (mset ([]:List (Am×Int)) ([114,101,97,100]:Am) 0) ([119,114,105,116,101]:Am) 1) ([97,100,100]:Am) 1) ([99,97,115]:Am) 2) op 0,Bu (mset (mset (mset (mset ([]:List (Am×Int)) ([114,101,97,100]:Am) 0) ([119,114,105,116,101]:Am) 1) ([97,100,100]:Am) 1) ([99,97,115]:Am) 2) op)
def Ey (F:Nat)(op:At)(ha:Int):Option (Stp (Int) (Out (Int) (Unit))):=
 Bg (decide (ha<(op.fArgs.length:Int))) (Bd (BL ha (op.fArgs.length:Int))<|Bo (Jj F (Ad op.fArgs ha)) λhb=>Bg (!decide (hb=0)) (some (.out (.ret hb))) (Bd (BE .i64 (ha+1))<|some (.next (ha+1)))) (some (.out (.go ())))
def HF :Option (Int):=
 some 0
def J0 (F:Nat)(op:At):Option (Int):=
 Bo (KH op.fOp) λr2=>Bg (((!(GX op.fEntity))||((!(GX op.fID))||(!r2.2)))) (some 4) (Bg (!decide ((op.fArgs.length:Int)=r2.1)) (some 7) (Bo (BI (λσ=>Ey F op σ) F 0) (BD λν=>HF )))
def HD (state:(List Ab))(args:(List (List Ab))):Option ((List Ab)×A0):=
 Bo (Cw state) λr2=>some (state,(A0.mk 0 r2))
def G9 (state:(List Ab))(args:(List (List Ab))):Option ((List Ab)×A0):=
 Bd (BL 0 (args.length:Int))<|Bo (Cw (Ad args 0)) λr4=>Bo (LA) λr7=>some (r4,(A0.mk 0 r7))
def IQ (F:Nat)(state:(List Ab))(args:(List (List Ab))):Option ((List Ab)×A0):=
 Bd (BL 0 (args.length:Int))<|Bo (L8 F state (Ad args 0)) λr4=>Bg (!r4) (Bo (Pf false) λr9=>some (state,(A0.mk 0 r9))) (Bd (BL 1 (args.length:Int))<|Bo (Cw (Ad args 1)) λha=>Bo (Pf true) λhb=>some (ha,(A0.mk 0 hb)))
def Dw (n:(List Int))(ha:Int):Option (Stp (Int) (Out (Bool) (Unit))):=
 Bg (decide (ha<(n.length:Int))) (Bd (BL ha (n.length:Int))<|Bo (Bn (Ad n ha)) λhb=>Bg (!hb) (some (.out (.ret false))) (Bd (BE .i64 (ha+1))<|some (.next (ha+1)))) (some (.out (.go ())))
def ER :Option (Bool):=
 some true
def Hh (F:Nat)(n:(List Int)):Option (Bool):=
 Bo (BI (λσ=>Dw n σ) F 0) (BD λν=>ER )
def HB (n:Int):Option (Int×Int):=
 Bo (Bn n) λr1=>Bg (!r1) (some (0,8)) (some (n,0))
def Jx (F:Nat)(a:Int)(b:Int):Option (Int×Int):=
 Bo (Hh F ([a,b]:List Int)) λr2=>Bg (!r2) (some (0,2)) (Bd (BE .i64 (a+b))<|Bo (HB (a+b)) λha=>some (ha.1,ha.2))
def KI (F:Nat)(state:(List Ab))(args:(List (List Ab))):Option ((List Ab)×A0):=
 Bd (BL 0 (state.length:Int))<|Bg (decide (((Ad state 0).fKind)=3)) (Bd (BL 0 (args.length:Int))<|Bd (BL 0 ((Ad args 0).length:Int))<|Bg (!decide (((Ad (Ad args 0) 0).fKind)=3)) (some (state,(A0.mk 7 ([]:List Ab)))) (Bo (Jx F ((Ad state 0).fInt) ((Ad (Ad args 0) 0).fInt)) λha=>Bg (!decide (ha.2=0)) (some (state,(A0.mk ha.2 ([]:List Ab)))) (Bo (Cw ([(Ab.mk 3 ha.1 ([]:Am) 0)]:List Ab)) λhd=>some (([(Ab.mk 3 ha.1 ([]:Am) 0)]:List Ab),(A0.mk 0 hd))))) (Bg (decide (((Ad state 0).fKind)=1)) (Bd (BL 0 (args.length:Int))<|Bd (BL 0 ((Ad args 0).length:Int))<|Bg (!decide (((Ad (Ad args 0) 0).fKind)=3)) (some (state,(A0.mk 7 ([]:List Ab)))) (Bo (Jx F 0 ((Ad (Ad args 0) 0).fInt)) λhb=>Bg (!decide (hb.2=0)) (some (state,(A0.mk hb.2 ([]:List Ab)))) (Bo (Cw ([(Ab.mk 3 hb.1 ([]:Am) 0)]:List Ab)) λhe=>some (([(Ab.mk 3 hb.1 ([]:Am) 0)]:List Ab),(A0.mk 0 he))))) (some (state,(A0.mk 7 ([]:List Ab)))))
def R5 :Option ((List (Am×Nat))):=
 some (mset (mset (mset (mset ([]:List (Am×Nat)) ([114,101,97,100]:Am) 57) ([119,114,105,116,101]:Am) 58) ([97,100,100]:Am) 59) ([99,97,115]:Am) 60)
def Uq (F:Nat)(state:(List Ab))(op:At):Option ((List Ab)×A0×Int):=
 Bo (J0 F op) λr3=>Bg (!decide (r3=0)) (some (([]:List Ab),(A0.mk 0 ([]:List Ab)),r3)) (Bo (Jj F state) λr9=>Bg (!decide (r9=0)) (some (([]:List Ab),(A0.mk 0 ([]:List Ab)),r9)) (Bg (decide (op.fOp=([114,101,97,100]:Am))) (Bo (Cw state) λhf=>Bo (HD hf op.fArgs) λha=>some (ha.1,ha.2,0)) (Bg (decide (op.fOp=([119,114,105,116,101]:Am))) (Bo (Cw state) λhg=>Bo (G9 hg op.fArgs) λhb=>some (hb.1,hb.2,0)) (Bg (decide (op.fOp=([97,100,100]:Am))) (Bo (Cw state) λhh=>Bo (KI F hh op.fArgs) λhd=>some (hd.1,hd.2,0)) (Bd (decide (op.fOp=([99,97,115]:Am)))<|Bo (Cw state) λhi=>Bo (IQ F hi op.fArgs) λhe=>some (he.1,he.2,0))))))
def Dy (op:At)(ha:Int)(hb:(List (List Ab))):Option (Stp (Int×(List (List Ab))) (Out (At) ((List (List Ab))))):=
 Bg (decide (ha<(op.fArgs.length:Int))) (Bd (BL ha (op.fArgs.length:Int))<|Bo (Cw (Ad op.fArgs ha)) λhd=>Bd (L4 24 (hb.length+([hd]:List (List Ab)).length))<|Bd (BE .i64 (ha+1))<|some (.next (ha+1,hb++([hd]:List (List Ab))))) (some (.out (.go hb)))
def HE (op:At)(ha:(List (List Ab))):Option (At):=
 some (At.mk op.fEntity op.fID op.fOp ha)
def Im (F:Nat)(op:At):Option (At):=
 Bo (BI (λσ=>Dy op σ.1 σ.2) F (0,([]:List (List Ab)))) (BD λν=>HE op ν)
def Eo (F:Nat)(c:Aj):Option (Aj):=
 Bo (Im F c.fOp) λr3=>Bo (Cw c.fAnswer.fValue) λr6=>some (Aj.mk r3 (A0.mk c.fAnswer.fErr r6) c.fFrom c.fTo)
def ME (F:Nat)(x:(List Ab))(y:(List Ab)):Option (Bool):=
 Bo (En F x y) λr1=>some r1
def E3 (F:Nat)(a:(List (List Ab)))(b:(List (List Ab)))(ha:Int):Option (Stp (Int) (Out (Bool) (Unit))):=
 Bg (decide (ha<(a.length:Int))) (Bd (BL ha (a.length:Int))<|Bd (BL ha (b.length:Int))<|Bo (ME F (Ad a ha) (Ad b ha)) λhb=>Bg (!hb) (some (.out (.ret false))) (Bd (BE .i64 (ha+1))<|some (.next (ha+1)))) (some (.out (.go ())))
def HO :Option (Bool):=
 some true
def Hv (F:Nat)(a:(List (List Ab)))(b:(List (List Ab))):Option (Bool):=
 Bg (!decide ((a.length:Int)=(b.length:Int))) (some false) (Bo (BI (λσ=>E3 F a b σ) F 0) (BD λν=>HO ))
def NI (F:Nat)(a:At)(b:At):Option (Bool):=
 Bd (imp (decide (a.fEntity=b.fEntity)) (imp (decide (a.fID=b.fID)) (imp (decide (a.fOp=b.fOp)) ((Hv F a.fArgs b.fArgs).isSome))))<|some ((decide (a.fEntity=b.fEntity))&&((decide (a.fID=b.fID))&&((decide (a.fOp=b.fOp))&&(ov (Hv F a.fArgs b.fArgs)))))
end Go.Proofs.YtfbmdidnlhifjaaGreatDoor
namespace Go.Proofs.YtfbmdidnlhifjaaGreatDoor.Q
open Go Go.RowKit
set_option linter.unusedVariables false
section
variable {P : Program} {n : Nat} {c : Cx} {l : Fr} {H : List Ent} {d : Option Nat} {ty rty t e : TypeId} {pos : String} {af : Array Edge} {g : Option (Nat × Bool)} {x : Operand} {sz : Nat}
end
set_option linter.unusedSimpArgs false
theorem DS (s:ByteArray):MapKept.IsKey .string (.string s):=by simp[MapKept.IsKey]
theorem Iy.keys {Z:Fz}:∀{f:List (List UInt8×Rp)} {es:List MapEntry},Iy Z f es→∀x∈es,MapKept.IsKey .string x.key
 | [],[],_,x,hx=>by cases hx
 | p::f,e::es,⟨⟨h1,h2⟩,h3⟩,x,hx=>by
  rcases List.mem_cons.1 hx with rfl | hx
  ·rw[h1];exact DS _
  ·exact Iy.keys h3 x hx
theorem Iy.at {Z:Fz}:∀{f:List (List UInt8×Rp)} {es:List MapEntry},Iy Z f es→f.length=es.length∧∀(j:Nat) (e:MapEntry),es[j]? =some e→∃k r,f[j]? =some (k,r)∧e.key = .string (B k)∧r.p Z e.val
 | [],[],_=>⟨rfl,λj e h=>by simp at h⟩
 | p::f,e::es,⟨⟨h1,h2⟩,h3⟩=>by
  obtain⟨hl,ha⟩:=Iy.at h3;refine⟨by simp[hl],λj e' hj=>?_⟩
  cases j with
  | zero=>simp at hj;subst hj;exact⟨p.1,p.2,rfl,h1,h2⟩
  | succ j=>simp at hj;simpa using ha j e' hj
theorem Iy.of {Z:Fz}:∀{f:List (List UInt8×Rp)} {es:List MapEntry},f.length=es.length→(∀(j:Nat) (e:MapEntry),es[j]? =some e→∃k r,f[j]? =some (k,r)∧e.key = .string (B k)∧r.p Z e.val)→Iy Z f es
 | [],[],_,_=>trivial
 | p::f,e::es,hl,h=>by
  obtain⟨k,r,h1,h2,h3⟩:=h 0 e rfl;simp at h1;subst h1;exact⟨⟨h2,h3⟩,Iy.of (by simpa using hl) λj e' hj=>by simpa using h (j+1) e' (by simpa using hj)⟩
 | [],_::_,hl,_=>by simp at hl
 | _::_,[],hl,_=>by simp at hl
theorem Iy.snoc {Z:Fz}{k:List UInt8}{r:Rp}{e:MapEntry}(h1:e.key = .string (B k))(h2:r.p Z e.val):∀{f:List (List UInt8×Rp)} {es:List MapEntry},Iy Z f es→Iy Z (f++[(k,r)]) (es++[e])
 | [],[],_=>⟨⟨h1,h2⟩,trivial⟩
 | p::f,e'::es,⟨h,h3⟩=>⟨h,Iy.snoc h1 h2 h3⟩
theorem Iy.filter {Z:Fz}(q:MapEntry→Bool):∀{f:List (List UInt8×Rp)} {es:List MapEntry},Iy Z f es→∃g,Iy Z g (es.filter q)∧g.Sublist f
 | [],[],_=>⟨[],trivial,List.Sublist.refl _⟩
 | p::f,e::es,⟨h,h3⟩=>by
  obtain⟨g,hg,hs⟩:=Iy.filter q h3
  cases hq:q e with
  | true=>exact⟨p::g,by rw[List.filter_cons_of_pos hq];exact⟨h,hg⟩,hs.cons_cons p⟩
  | false=>exact⟨g,by rw[List.filter_cons_of_neg (by simp[hq])];exact hg,hs.cons p⟩
theorem NM {T:Type}:∀{m:List (Am×T)} {k:Am} {r:T},(m.map (·.1)).Nodup→(k,r)∈m→B3 m k=some r
 | p::m,k,r,hn,h=>by
  rw[VC,List.nodup_cons] at hn;rw[B3];rcases List.mem_cons.1 h with h | h
  ·subst h;rw[Ve rfl];rfl
  ·have hne : ¬ p.1=k:=λe=>hn.1 (by rw[e];exact List.mem_map.2 ⟨(k,r),h,rfl⟩);rw[Vc hne];exact NM hn.2 h
theorem LQ {T:Type}:∀{m:List (Am×T)} {k:Am},(∀p∈m,p.1≠k)→B3 m k=none
 | [],_,_=>rfl
 | p::m,k,h=>by
  rw[B3,Vc (h p (by simp))];exact LQ λq hq=>h q (by simp[hq])
theorem U9 {a b:List UInt8}(h:B a=B b):a=b:=by
 have:=congrArg ByteArray.toList h
 rwa [DB,DB] at this
theorem Np {a b:List UInt8}(h:Value.string (B a) = .string (B b)):a=b:=U9 (by cases h;rfl)
theorem MK {Z:Fz}{m:List (List UInt8×Rp)}{es:List MapEntry}{ck:Nat}(h:Eg Z m es ck)(k:List UInt8) :
  (Instr.findNow .string (.string (B k)) es 0=some none∧B3 m k=none∧∀p∈m,p.1≠k)∨∃j e r,Instr.findNow .string (.string (B k)) es 0=some (some (j,e.val))∧es[j]? =some e∧e.key = .string (B k)∧B3 m k=some r∧r.p Z e.val:=by
 obtain⟨h1,h2,h3,f,h4,h5⟩:=h;obtain⟨hl,ha⟩:=h5.at;rcases MapKept.findNow_spec (DS (B k)) es 0 h5.keys with⟨q1,q2⟩ | ⟨j,e,q1,q2,q3⟩
 ·have hne:∀p∈m,p.1≠k:=λp hp e=>by
   obtain⟨j,hj⟩:=List.mem_iff_getElem?.1 (h4.symm.subset hp);have hjl:j<es.length:=by rw[← hl];exact(List.getElem?_eq_some_iff.1 hj).1
   obtain⟨k',r',e1,e2,_⟩:=ha j es[j] (Vi hjl);rw[hj] at e1;cases e1;exact q2 es[j] (List.getElem_mem hjl) (by rw[e2,← e])
  exact .inl ⟨q1,LQ hne,hne⟩
 ·obtain⟨k',r,e1,e2,e3⟩:=ha j e q2;rw[q3] at e2;obtain rfl:=Np e2;exact .inr ⟨j,e,r,by simpa using q1,q2,q3,NM h1 (h4.subset (Vm e1)),e3⟩
section
variable {P : Program} {n : Nat} {c : Cx} {ops : Array Oper} {Q : Exit → Act → World → Prop} {rest : List Oper} {l : Fr} {H : List Ent} {d : Nat} {d' : Option Nat} {ty t kt et rty : TypeId} {pos : String} {af : Array Edge} {g : Option (Nat × Bool)} {x y u : Operand} {K : Act → World → Prop} {cx : Code}
variable {T : Type} {enc : T → Rp} {xs : List (Am × T)} {z : T} {k : Am} {zv : Value} {i b : Nat}
theorem Lv {Z:Fz}{w:World}{m:List (List UInt8×Rp)}{rz:Rp}(ht:P.underlying t=some (.map kt et))(hk:P.underlying kt=some .string)(hz:∀w,(zeroValue et).run P w = .ok zv w)(hzr:rz.p Z zv)(hm:(Ent.map b m).holds Z w)(ok:Bool) :
  ∃v,((B3 m k).getD rz).p Z v∧(Instr.lookup t (.map (some b)) (.string (B k)) ok).run P w = .ok (if ok then .tuple #[v,.bool (B3 m k).isSome] else v) w:=by
 obtain⟨es,ck,h1,h2⟩:=hm;rcases MK h2 k with⟨q1,q2,_⟩ | ⟨j,e,r,q1,_,_,q2,q3⟩
 ·exact⟨zv,by rw[q2];exact hzr,by simp[Instr.lookup,run_underlying ht,MapKept.run_getObj_map h1,MapKept.run_checkKey hk (DS _),MapKept.run_findKey hk q1,hz,q2]⟩
 ·exact⟨e.val,by rw[q2];exact q3,by simp[Instr.lookup,run_underlying ht,MapKept.run_getObj_map h1,MapKept.run_checkKey hk (DS _),MapKept.run_findKey hk q1,q2]⟩
theorem Se (enc:T→Rp)(xs:List (Am×T))(k:Am)(z:T):(B3 (AA enc xs) k).getD (enc z)=enc (Ay xs k z):=by
 rw[Hk];unfold Ay;cases B3 xs k<;>rfl
theorem OJ (enc:T→Rp)(xs:List (Am×T))(k:Am):(B3 (AA enc xs) k).isSome=Bu xs k:=by
 rw[Hk];unfold Bu;cases B3 xs k<;>rfl
theorem H9 (ht:P.underlying t=some (.map kt et))(hk:P.underlying kt=some .string)(hz:∀w,(zeroValue et).run P w = .ok zv w)(hzr:∀Z,(enc z).p Z zv)(hx:ev l x=some (rv (.map (some b))))(hi:H[i]? =some (.map b (AA enc xs)))(hy:ev l y=some (rS k)) :
  Bp P n c l H { dst:=d',op:=.lookup t x y true,type:=ty,pos:=pos,after:=af,guard:=g } (Dc [enc (Ay xs k z),rB (Bu xs k)]):=λa w Z ha hw=>by
 obtain⟨v,h1,h2⟩:=Lv (k:=k) ht hk hz (hzr Z) (hw.ent hi) true;rw[Se] at h1;refine⟨.tuple #[v,.bool (Bu xs k)],⟨[v,.bool (Bu xs k)],rfl,h1,rfl,trivial⟩,?_⟩;rw[OJ] at h2;simp[execOp,ha.eval hx,ha.eval hy,h2]
theorem Eg.length {Z:Fz}{m:List (List UInt8×Rp)}{es:List MapEntry}{ck:Nat}(h:Eg Z m es ck):es.length=m.length:=by
 obtain⟨_,_,_,f,h4,h5⟩:=h;rw[← h5.at.1,h4.length_eq]
theorem R4 {m:List (List UInt8×Rp)}{N:Nat}(ht:P.underlying t=some (.map kt et))(hx:ev l x=some (rv (.map (some b))))(hi:H[i]? =some (.map b m))(hN:m.length=N) :
  Bp P n c l H { dst:=d',op:=.call { callee:=.builtin .len,args:=#[x],argTypes:=#[t] },type:=ty,pos:=pos,after:=af,guard:=g } (rI .i64 N):=λa w Z ha hw=>DQ<|by
 obtain⟨es,ck,h1,h2⟩:=hw.ent hi;have hl:es.size=N:=by rw[← hN,← h2.length];simp
 simp[execOp,resolve,invoke,builtin,ha.eval hx,Builtin.len_,run_underlying ht,goInt,MapKept.run_getObj_map h1,hl]
theorem Qp {v:Option Nat}(ht:P.underlying t=some (.map kt et))(hx:ev l x=some (rv (.map v))):Bp P n c l H { dst:=d',op:=.binOp .neq t x (.const (.map none)) rty,type:=ty,pos:=pos,after:=af,guard:=g } (rB (!v.isNone)):=λa w Z ha hw=>DQ<|by
 have e2:a.eval (.const (.map none)) = .map none:=rfl;have h:=run_equal_map_nil (P:=P) w t kt et v ht;simp[execOp,ha.eval hx,e2,eqGuard,binOp,h]
theorem L7 (hn:Nat.blt d n=true)(h:∀b,WL P n c ops Q rest ((d,rv (.map (some b)))::l) (.map b []::H)) :
  WL P n c ops Q ({ dst:=some d,op:=.makeMap t none,type:=ty,pos:=pos,after:=af,guard:=none }::rest) l H:=
 Ji (λa w Z ha hw=>⟨_,w.alloc (.map #[] 0),_,_,Z,by simp[execOp,run_makeMap],Fz.le.refl _,rfl,
  hw.alloc _ (e:=.map w.heap.size []) ⟨#[],0,by simpa using heap_alloc_new w _,by simp,by simp,by simp,[],Vh _,trivial⟩ rfl,h w.heap.size⟩) hn
theorem Rx {m f:List (Am×Rp)}(h:f.Perm m)(k:Am)(r:Rp):(mput f k r).Perm (mput m k r):=h.map _
theorem Py {T:Type}:∀{f:List (Am×T)} {j:Nat} {k:Am} {r0:T} (r:T),(f.map (·.1)).Nodup→f[j]? =some (k,r0)→mput f k r=f.set j (k,r)
 | p::f,0,k,r0,r,hn,h=>by
  simp at h;subst h;rw[VC,List.nodup_cons] at hn;have:mput f k r=f:=by
   unfold mput;rw[List.map_congr_left (g:=id) (λq hq=>?_),List.map_id];have hne : ¬ q.1=k:=λe=>hn.1 (by rw[← e];exact List.mem_map.2 ⟨q,hq,rfl⟩);rw[Vc hne];rfl
  show(bif decide (k=k) then(k,r) else(k,r0))::mput f k r=_;rw[Ve rfl,this];rfl
 | p::f,j+1,k,r0,r,hn,h=>by
  rw[VC,List.nodup_cons] at hn;simp at h;have hne : ¬ p.1=k:=λe=>hn.1 (by rw[e];exact List.mem_map.2 ⟨(k,r0),Vm h,rfl⟩);show(bif decide (p.1=k) then(k,r) else p)::mput f k r=_;rw[Vc hne,Py r hn.2 h];rfl
theorem Qu {T:Type}(m:List (Am×T))(k:Am)(r:T):(mput m k r).map (·.1)=m.map (·.1):=by
 unfold mput;rw[VV];refine List.map_congr_left λp _=>?_;simp only[Function.comp]
 by_cases h:p.1=k
 ·rw[Ve h];exact h.symm
 ·rw[Vc h];rfl
theorem Qv {T:Type}{m:List (Am×T)}{k:Am}{r:T}(h:B3 m k=some r):Bu m k=true:=by unfold Bu;rw[h];rfl
theorem Qw {T:Type}{m:List (Am×T)}{k:Am}(h:B3 m k=none):Bu m k=false:=by unfold Bu;rw[h];rfl
theorem Eg.put {Z:Fz}{m:List (Am×Rp)}{es:List MapEntry}{ck j:Nat}{e:MapEntry}{k:Am}{r0 r:Rp}{v:Value}(h:Eg Z m es ck)(he:es[j]? =some e)(hk:e.key = .string (B k))(hm:B3 m k=some r0)(hr:r.p Z v) :
  Eg Z (mset m k r) (es.set j { e with key:=.string (B k),val:=v }) ck:=by
 obtain⟨h1,h2,h3,f,h4,h5⟩:=h;obtain⟨hl,ha⟩:=h5.at;have hjl:=(List.getElem?_eq_some_iff.1 he).1;unfold mset;rw[Qv hm,Vq];obtain⟨k',r',e1,e2,_⟩:=ha j e he;rw[hk] at e2;obtain rfl:=Np e2;have hfn:(f.map (·.1)).Nodup:=(h4.map (·.1)).nodup_iff.2 h1;refine⟨by rw[Qu];exact h1,?_,?_,f.set j (k,r),?_,Iy.of (by simp[hl]) λi x hx=>?_⟩
 ·rw[List.map_set];have:(es.map (·.born)).set j e.born=es.map (·.born):=by
   apply List.ext_getElem?;intro i;rw[VR]
   split
   ·rename_i hij;subst hij
    simp[hjl,List.getElem?_eq_some_iff.1 he |>.2]
   ·rfl
  show((es.map (·.born)).set j e.born).Nodup;rw[this];exact h2
 ·intro x hx;rcases List.mem_or_eq_of_mem_set hx with hx | rfl
  ·exact h3 x hx
  ·exact h3 e (Vm he)
 ·have:=Rx h4 k r
  rwa [Py r hfn e1] at this
 ·rw[VR] at hx ⊢
  split at hx
  ·rename_i hij;subst hij
   cases hx
   exact⟨k,r,by rw[Vu rfl,Vu (by rw[hl];exact hjl)],rfl,hr⟩
  ·rename_i hij
   rw[Vp hij];exact ha i x hx
theorem Eg.ins {Z:Fz}{m:List (Am×Rp)}{es:List MapEntry}{ck:Nat}{k:Am}{r:Rp}{v:Value}(h:Eg Z m es ck)(hm:B3 m k=none)(hk:∀p∈m,p.1≠k)(hr:r.p Z v) :
  Eg Z (mset m k r) (es++[{ key:=.string (B k),val:=v,born:=ck }]) (ck+1):=by
 obtain⟨h1,h2,h3,f,h4,h5⟩:=h;unfold mset;rw[Qw hm,Vl];have hp:=J1 k r m;refine⟨?_,?_,?_,f++[(k,r)],?_,Iy.snoc rfl hr h5⟩
 ·rw[(hp.map (·.1)).nodup_iff,VC,List.nodup_cons];exact⟨λhx=>by obtain⟨p,hp,e⟩:=List.mem_map.1 hx;exact hk p hp e,h1⟩
 ·rw[VU,List.nodup_append];refine⟨h2,by simp,λa ha b hb e=>?_⟩;simp at hb;subst hb;obtain⟨x,hx,e'⟩:=List.mem_map.1 ha;have:=h3 x hx;omega
 ·intro x hx;rcases List.mem_append.1 hx with hx | hx
  ·have:=h3 x hx;omega
  ·simp at hx;subst hx;exact Vy _
 ·exact(List.perm_append_comm (l₁:=f) (l₂:=[(k,r)])).trans ((h4.cons (k,r)).trans hp.symm)
theorem St.mapset {Z:Fz}{w:World}(h:St c H Z w){m m':List (Am×Rp)}(hi:H[i]? =some (.map b m)){es es':Array MapEntry}{ck ck':Nat}(h1:w.heap[b]? =some (.map es ck))(h2:Eg Z m' es'.toList ck') :
  St c (H.set i (.map b m')) Z { w with heap:=w.heap.setIfInBounds b (.map es' ck') }:=by
 obtain⟨q1,q2⟩:=MapKept.heap_set (o':=.map es' ck') h1;exact h.set hi rfl rfl rfl (by simp) (λk _ hk=>q2 k (by simpa[Ent.foot] using hk)) ⟨es',ck',q1,h2⟩ (by simp[Ent.foot])
theorem Mv (s:ByteArray):Instr.sameBits 10000 (.string s) (.string s)=true:=by
 show(s ==s)=true;exact(MapKept.bytes_beq s s).2 rfl |> λh=>by simpa using h
theorem TF {r:Rp}{m:List (Am×Rp)}(ht:P.underlying t=some (.map kt et))(hk:P.underlying kt=some .string)(hx:ev l x=some (rv (.map (some b))))(hi:H[i]? =some (.map b m))(hy:ev l y=some (rS k))(hu:ev l u=some r){H':List Ent}(hH:H.set i (.map b (mset m k r))=H')(h:WL P n c ops Q rest l H') :
  WL P n c ops Q ({ dst:=none,op:=.mapUpdate t x y u,type:=ty,pos:=pos,after:=af,guard:=none }::rest) l H:=
 Lt λa w Z ha hw=>by
  obtain⟨es,ck,h1,h2⟩:=hw.ent hi;have hv:=ha.ev hu;subst hH;rcases MK h2 k with⟨q1,q2,q3⟩ | ⟨j,e,r0,q1,q2,q3,q4,_⟩
  ·refine⟨_,_,?_,hw.mapset hi h1 (es':=es.push { key:=.string (B k),val:=a.eval u,born:=ck }) (by simpa using h2.ins q2 q3 hv),h⟩;simp[execOp,ha.eval hx,ha.eval hy,Instr.mapUpdate,run_underlying ht,MapKept.run_getObj_map h1,MapKept.run_checkKey hk (DS _),MapKept.run_findKey hk q1,MapKept.run_setObj_map _ h1]
  ·have hje:es[j]? =some e:=by simpa using q2
   refine⟨_,_,?_,hw.mapset hi h1 (es':=es.modify j λe=>{ e with key:=.string (B k),val:=a.eval u }) (ck':=ck) (by
    have:=h2.put q2 q3 q4 hv;have e1:(es.modify j λe=>{ e with key:=.string (B k),val:=a.eval u }).toList=es.toList.set j { e with key:=.string (B k),val:=a.eval u }:=by
     rw[Array.toList_modify];rw[List.modify_eq_set,q2];rfl
    rw[e1];exact this),h⟩
   have hkey:((es[j]?).map (·.key)).getD (.string (B k)) = .string (B k):=by rw[hje];exact q3
   simp[execOp,ha.eval hx,ha.eval hy,Instr.mapUpdate,run_underlying ht,MapKept.run_getObj_map h1,MapKept.run_checkKey hk (DS _),MapKept.run_findKey hk q1,MapKept.run_setObj_map _ h1,hkey,Instr.keyThatStays,Mv]
theorem Kf {v:T}(ht:P.underlying t=some (.map kt et))(hk:P.underlying kt=some .string)(hx:ev l x=some (rv (.map (some b))))(hi:H[i]? =some (.map b (AA enc xs)))(hy:ev l y=some (rS k))(hu:ev l u=some (enc v)){H':List Ent}(hH:H.set i (.map b (AA enc (mset xs k v)))=H')(h:WL P n c ops Q rest l H') :
  WL P n c ops Q ({ dst:=none,op:=.mapUpdate t x y u,type:=ty,pos:=pos,after:=af,guard:=none }::rest) l H:=TF ht hk hx hi hy hu (by rw[← RB];exact hH) h
end
section
variable {P : Program} {n : Nat} {c : Cx} {ops : Array Oper} {Q : Exit → Act → World → Prop} {rest : List Oper} {l : Fr} {H : List Ent} {d : Nat} {ty t kt et rty : TypeId} {pos : String} {af : Array Edge} {x y u : Operand} {K : Act → World → Prop} {cx : Code}
variable {T : Type} {enc : T → Rp} {xs ys : List (Am × T)} {i b it : Nat} {m lf : List (List UInt8 × Rp)} {cur : Option (List UInt8 × Rp)} {k : Am} {r : Rp}
end
theorem AV.d1 {Z:Fz}{r0:Rp}{us:List Value}(h:AV Z [r0] us):∃y0,us=[y0]∧AV Z [r0] [y0]:=by
 match us,h.length with
 | [y0],_=>exact⟨_,rfl,h⟩
theorem AV.d2 {Z:Fz}{r0 r1:Rp}{us:List Value}(h:AV Z [r0,r1] us):∃y0 y1,us=[y0,y1]∧AV Z [r0,r1] [y0,y1]:=by
 match us,h.length with
 | [y0,y1],_=>exact⟨_,_,rfl,h⟩
theorem AV.d3 {Z:Fz}{r0 r1 r2:Rp}{us:List Value}(h:AV Z [r0,r1,r2] us):∃y0 y1 y2,us=[y0,y1,y2]∧AV Z [r0,r1,r2] [y0,y1,y2]:=by
 match us,h.length with
 | [y0,y1,y2],_=>exact⟨_,_,_,rfl,h⟩
theorem AV.d4 {Z:Fz}{r0 r1 r2 r3:Rp}{us:List Value}(h:AV Z [r0,r1,r2,r3] us):∃y0 y1 y2 y3,us=[y0,y1,y2,y3]∧AV Z [r0,r1,r2,r3] [y0,y1,y2,y3]:=by
 match us,h.length with
 | [y0,y1,y2,y3],_=>exact⟨_,_,_,_,rfl,h⟩
section
variable {P : Program} {n : Nat} {c : Cx} {ops : Array Oper} {Q : Exit → Act → World → Prop} {rest : List Oper} {l : Fr} {H H' : List Ent} {d : Nat} {d' : Option Nat} {ty t e rty : TypeId} {pos : String} {af : Array Edge} {g : Option (Nat × Bool)} {x y u : Operand} {v : Value} {sz m : Nat}
end
abbrev Ux:=Nat→Nat→Value×Nat
def Ag (k:Nat)(u u':Ux):Prop:=∀j,j<k→u j=u' j
structure Sy where
 deps:List Nat
 r:Ux→Rp
 lv:Nat:=0
 fx:Bool:=false
 old:List Nat:=[]
def QK (sp:List Sy)(i:Nat):Sy:=sp.getD i { deps:=[],r:=λ_=>rv undef }
def UG (sp:List Sy)(u:Ux):List Sp:=sp.map λs=>⟨s.deps,s.r u,0⟩
def PK:List Sy→Prop
 | []=>True
 | s::r=>(∀u u',Ag s.lv u u'→s.r u=s.r u')∧PK r
theorem PK.at:∀{sp:List Sy},PK sp→∀{i:Nat} {s:Sy},sp[i]? =some s→∀u u',Ag s.lv u u'→s.r u=s.r u'
 | [],_,i,s,h=>by simp at h
 | x::sp,⟨h1,h2⟩,0,s,h=>by simp at h;subst h;exact h1
 | x::sp,⟨h1,h2⟩,i+1,s,h=>PK.at h2 (by simpa using h)
def cnt (S:Nat→Bool)(is:List Nat):Nat:=(is.filter S).length
section
variable (P : Program) (n : Nat) (c : Cx) (opsA : Array Oper) (Q : Exit → Act → World → Prop)
def UZ (l:Fr)(H:List Ent)(o:Oper)(k:Nat)(u:Ux)(r:Ux→Rp)(H1:Ux→List Ent):Prop:=
 ∀a w Z (K:Act→World→Prop),Cf n l a Z→St c H Z w→(∀u' v w' Z',Ag k u u'→Fz.le Z Z'→(r u').p Z' v→St c (H1 u') Z' w'→K (a.put o.dst v) w')→
  Region.wanted o (yielded opsA a.tmps)=true∧o.wp P a w K Q
def UX (ops:List Oper)(sp:List Sy)(l0 lw:Fr)(is:List Nat)(hs:List (Ux→List Ent))(i:Nat)(o:Oper):Prop:=
 match is.findIdx? (λx=>Nat.beq x i) with
 | some k=>∀u,UZ P n c opsA Q (IL lw (QK sp i).old (B7 ops (UG sp u) (QK sp i).deps l0)) (hs.getD k (λ_=>[]) u) o k u (QK sp i).r (hs.getD (k+1) (λ_=>[]))
 | none=>if (QK sp i).fx=true then ∀u,D5 P n c opsA Q (IL lw (QK sp i).old (B7 ops (UG sp u) (QK sp i).deps l0)) (hs.getD (QK sp i).lv (λ_=>[]) u) o ((QK sp i).r u) (hs.getD (QK sp i).lv (λ_=>[]) u)
  else ∀u k,k≤is.length→D5 P n c opsA Q (IL lw (QK sp i).old (B7 ops (UG sp u) (QK sp i).deps l0)) (hs.getD k (λ_=>[]) u) o ((QK sp i).r u) (hs.getD k (λ_=>[]) u)
def Tx (ops:List Oper)(sp:List Sy)(l0 lw:Fr)(is:List Nat)(hs:List (Ux→List Ent)):Nat→List Oper→Prop
 | i,o::rest=>UX P n c opsA Q ops sp l0 lw is hs i o∧Tx ops sp l0 lw is hs (i+1) rest
 | _,[]=>True
end
section
variable {P : Program} {n : Nat} {c : Cx} {opsA : Array Oper} {Q : Exit → Act → World → Prop} {l l0 lw : Fr} {H : List Ent} {hs : List (Ux → List Ent)} {sp : List Sy} {is : List Nat}
theorem Tx.at {ops:List Oper}:∀{k:Nat} {rest:List Oper},Tx P n c opsA Q ops sp l0 lw is hs k rest→∀(t:Nat) o,rest[t]? =some o→UX P n c opsA Q ops sp l0 lw is hs (k+t) o
 | k,o::rest,⟨h1,h2⟩,t,o',ht=>by
  cases t with
  | zero=>simp at ht;subst ht;exact h1
  | succ t=>
   have:=Tx.at h2 t o' (by simpa using ht);rw[show k+(t+1)=k+1+t from by omega];exact this
 | _,[],_,t,o,h=>by simp at h
def T0 (p:List Ent→Prop)(u:Ux):List (Ux→List Ent)→Prop
 | []=>True
 | f::r=>p (f u)∧T0 p u r
theorem T0.at {p:List Ent→Prop}{u:Ux}:∀{hs:List (Ux→List Ent)},T0 p u hs→∀k,k<hs.length→p (hs.getD k (λ_=>[]) u)
 | [],_,k,h=>absurd h (Nat.not_lt_zero _)
 | f::r,⟨h1,h2⟩,0,_=>h1
 | f::r,⟨h1,h2⟩,k+1,h=>T0.at h2 k (by simpa using h)
end
section
variable {P : Program} {n : Nat} {c : Cx} {opsA : Array Oper} {Q : Exit → Act → World → Prop} {l : Fr} {H : List Ent} {d : Nat} {x y : Operand} {ty t e : TypeId} {pos : String} {af : Array Edge} {v : Value} {sz : Nat}
end
end Go.Proofs.YtfbmdidnlhifjaaGreatDoor.Q
namespace Go.Proofs.YtfbmdidnlhifjaaGreatDoor
open Go
end Go.Proofs.YtfbmdidnlhifjaaGreatDoor
namespace Go.Proofs.YtfbmdidnlhifjaaGreatDoor.Q
open Go Go.RowKit
set_option linter.unusedVariables false
section
variable {P : Program} {n : Nat} {c : Cx} {ops : Array Oper} {Q : Exit → Act → World → Prop} {rest : List Oper} {l : Fr} {H : List Ent} {d : Nat} {d' : Option Nat} {t kt et ty : TypeId} {pos : String} {af : Array Edge} {g : Option (Nat × Bool)} {x y u : Operand} {b i : Nat} {T : Type} {enc : T → Rp} {xs : List (Int × T)} {z : T} {zv : Value}
theorem MX.push {Z:Fz}{k:Int}{r:Rp}{v:Value}(hv:r.p Z v)(ck:Nat):∀{m:List (Int×Rp)} {es:List MapEntry},MX Z m es→MX Z (m++[(k,r)]) (es++[⟨.int .i64 k,v,ck⟩])
 | [],[],_=>⟨⟨rfl,hv⟩,trivial⟩
 | p::m,e::es,⟨h1,h2⟩=>⟨h1,h2.push hv ck⟩
theorem CJ {k:Am}{xs:List (Am×T)}{v:T}(ht:P.underlying t=some (.map kt et))(hk:P.underlying kt=some .string)(hx:ev l x=some (rv (.map (some b))))(hi:H[i]? =some (.map b (AA enc xs)))(hy:ev l y=some (rS k))(hu:ev l u=some (enc v)){H':List Ent}(hH:H.set i (.map b (AA enc (mset xs k v)))=H')(h:WL P n c ops Q rest l H') :
  WL P n c ops Q ({ dst:=none,op:=.insert t x y u,type:=ty,pos:=pos,after:=af,guard:=none }::rest) l H:=by
 have:=Kf (n:=n) (c:=c) (ops:=ops) (Q:=Q) (rest:=rest) (ty:=ty) (pos:=pos) (af:=af) ht hk hx hi hy hu hH h;exact this
end
set_option linter.unusedSimpArgs false
def Mg (k:Nat)(i:Int)(off:Nat)(Z:Fz)(v:Value):Prop:=if i<0 then v = .pointer none else ∃b,Z.nm k i.toNat=some b∧v = .pointer (some ⟨b,off,none⟩)
def EL (k:Nat)(i:Int)(off:Nat):Rp:=⟨Mg k i off,fun {Z Z' v} h hp=>by
 unfold Mg at *
 split
 ·rename_i h0;rwa [Vu h0] at hp
 ·rename_i h0;rw[Vp h0] at hp;obtain⟨b,h1,h2⟩:=hp;exact⟨b,h.nm k _ b h1,h2⟩,true,λ_ Z v hp=>by
 change Mg k i off Z v at hp
 unfold Mg at hp
 split at hp
 ·rw[hp];rfl
 ·obtain⟨b,_,h2⟩:=hp;rw[h2];rfl⟩
@[reducible] def eP (k:Nat) (i:Int):List Rp:=[EL k i 0]
theorem MM (k:Nat)(i:Int):(eP k i).length=1:=rfl
theorem Sk (k:Nat)(i:Int):(eP k i).all (·.one)=true:=rfl
@[reducible] def mP (k:Nat) (i:Int):Rp:=EL k i 0
theorem RD (k:Nat)(Z:Fz):(mP k (-1)).p Z (.pointer none):=rfl
section
variable {P : Program} {n : Nat} {c : Cx} {ops : Array Oper} {Q : Exit → Act → World → Prop} {rest : List Oper} {l : Fr} {H H' : List Ent} {d : Nat} {d' : Option Nat} {x y : Operand} {ty t t' e : TypeId} {pos : String} {af : Array Edge} {g : Option (Nat × Bool)} {v u : Value} {r : Rp} {sz k : Nat} {pv : Value} {α : Type} [Inhabited α] {xs : List α} {enc : α → List Rp}
theorem M7 {Z:Fz}{w:World}{j off:Nat}{i:Int}(hw:St c H Z w)(hi:H[j]? =some (.pool k pv e (xs.map enc)))(hg:BL i (xs.length:Int)=true)(hp:(EL k i off).p Z v) :
  ∃b us,v = .pointer (some ⟨b,off,none⟩)∧(EI pv)[i.toNat]? =some b∧w.heap[b]? =some (.cells us.toArray e (0,0))∧AV Z (enc (Ad xs i)) us:=by
 obtain⟨h0,hl,h⟩:=hw.ent hi;have hi0:=(BG hg).1;have hi1:i.toNat<xs.length:=by have:=(BG hg).2;omega
 have hb:i.toNat<(EI pv).length:=by rw[hl,Vr];exact hi1
 obtain⟨h1,us,h2,h3⟩:=h i.toNat (EI pv)[i.toNat] (enc xs[i.toNat]) (Vi hb) (by simp[hi1])
 change Mg k i off Z v at hp
 unfold Mg at hp;rw[Vp (by omega)] at hp;obtain⟨b,h4,h5⟩:=hp;rw[h1] at h4;obtain rfl:=Option.some.inj h4;exact⟨_,us,h5,Vi hb,h2,by rw[show Ad xs i=xs[i.toNat] from by simp[Ad,hi1]];exact h3⟩
theorem HA {j off:Nat}{i:Int}{rs:List Rp}(hag:∀w,(isAgg t).run P w = .ok true w)(hsz:∀w,(sizeOf t).run P w = .ok sz w)(hx:ev l x=some (EL k i off))(hi:H[j]? =some (.pool k pv e (xs.map enc)))(hg:BL i (xs.length:Int)=true)
  (hr:((enc (Ad xs i)).drop off).take sz=rs) (hl:rs.length=sz):Bp P n c l H { dst:=d',op:=.load t x,type:=ty,pos:=pos,after:=af,guard:=g } (Bb rs):=λa w Z ha hw=>by
 obtain⟨b,us,e1,_,h1,h2⟩:=M7 hw hi hg (ha.ev hx);have h3:=(h2.drop off).take sz;rw[hr] at h3;have hlen:=h3.length;have h4:=run_loadCells_list (P:=P) w ⟨b,off,none⟩ ((us.drop off).take sz) (λj u hj=>by
  rw[It,cell_of_row w b _ _ e (0,0) h1];rw[VJ] at hj
  split at hj
  ·simpa using hj
  ·cases hj)
 rw[hlen,hl] at h4;exact⟨.agg ((us.drop off).take sz).toArray,⟨_,rfl,h3⟩,by simp[execOp,e1,Instr.loadAt,Instr.sureAddr,loadVar,hag,hsz,h4]⟩
theorem CW {off:Nat}{i:Int}(hx:ev l x=some (EL k i off))(hg:decide (0≤i)=true):Bp P n c l H { dst:=d',op:=.nilCheck x,type:=ty,pos:=pos,after:=af,guard:=g } (EL k i off):=λa w Z ha hw=>by
 have h:=ha.ev hx;have h':=h
 change Mg k i off Z _ at h
 unfold Mg at h;rw[Vp (by have:=VE hg;omega)] at h;obtain⟨b,_,e1⟩:=h;exact⟨a.eval x,h',by simp[execOp,e1]⟩
theorem MB {off off' i:Nat}{q:Int}{fs:Array Field}{f:Field}(hu:P.underlying t=some (.struct fs))(hf:fs[i]? =some f)(hsz:∀w,(sizeOf f.type).run P w = .ok (sz+1) w)
  (hx:ev l x=some (EL k q off)) (hg:decide (0≤q)=true) (ho:off+f.offset=off'):Bp P n c l H { dst:=d',op:=.fieldAddr t x i,type:=ty,pos:=pos,after:=af,guard:=g } (EL k q off'):=λa w Z ha hw=>by
 have h:=ha.ev hx
 change Mg k q off Z _ at h
 unfold Mg at h;have h0:=VE hg;rw[Vp (by omega)] at h;obtain⟨b,h1,e1⟩:=h;subst ho;refine⟨.pointer (some ⟨b,off+f.offset,none⟩),?_,by simp[execOp,e1,Instr.fieldAt,run_underlying hu,hf,Instr.sureAddr,fieldPlace,hsz,It]⟩;show Mg k q (off+f.offset) Z _;unfold Mg;rw[Vp (by omega)];exact⟨b,h1,rfl⟩
theorem St.poolset {β:Type}{xs:List β}{enc:β→List Rp}{Z:Fz}{w:World}{j b:Nat}{i:Int}{us us':List Value}{y':β}(hw:St c H Z w)(hi:H[j]? =some (.pool k pv e (xs.map enc)))(hb:(EI pv)[i.toNat]? =some b)(h1:w.heap[b]? =some (.cells us.toArray e (0,0)))(h2:AV Z (enc y') us') :
  St c (H.set j (.pool k pv e ((xs.set i.toNat y').map enc))) Z (w.setRow b us'.toArray):=by
 obtain⟨h0,hl,h⟩:=hw.ent hi;have hbl:=(List.getElem?_eq_some_iff.1 hb).1;refine hw.setp hi rfl rfl rfl (by simp[World.setRow]) (λq _ hq=>?_) ⟨h0,by simpa using hl,λi' b' cs h3 h4=>?_⟩ (λq hq=>.inl hq) rfl rfl
 ·have:q≠b:=λe=>hq (by subst e;exact Vm hb);simp only[World.setRow,Array.getElem?_modify];rw[Vp (λe=>this e.symm)]
 ·rw[List.map_set,VR] at h4
  split at h4
  ·rename_i hii
   subst hii
   split at h4
   ·rw[hb] at h3;obtain rfl:=Option.some.inj h3;obtain rfl:=Option.some.inj h4;obtain⟨g1,_⟩:=h i.toNat b _ hb (Vi (by omega));exact⟨g1,us',setRow_heap w b _ _ e (0,0) h1,h2⟩
   ·cases h4
  ·rename_i hii
   obtain⟨g1,vs,g2,g3⟩:=h i' b' cs h3 h4;have hne:b'≠b:=λe=>hii (by
    subst e;have e1:=(List.getElem?_eq_some_iff.1 h3)
    have e2:=(List.getElem?_eq_some_iff.1 hb)
    exact(List.getElem_inj h0).1 (e2.2.trans e1.2.symm))
   refine⟨g1,vs,?_,g3⟩;simp only[World.setRow,Array.getElem?_modify];rw[Vp (λe=>hne e.symm)];exact g2
theorem PV {j off:Nat}{i:Int}{y':α}(hag:∀w,(sizeOf t).run P w = .ok 1 w)(hx:ev l x=some (EL k i off))(hy:ev l y=some r)(hv:OX H r)(hi:H[j]? =some (.pool k pv e (xs.map enc)))(hg:BL i (xs.length:Int)=true)
  (hy':(enc (Ad xs i)).set off r=enc y') (hlt:Nat.blt off (enc (Ad xs i)).length=true) (hH:H.set j (.pool k pv e ((xs.set i.toNat y').map enc))=H') (h:WL P n c ops Q rest l H') :
  WL P n c ops Q ({ dst:=none,op:=.store t x y,type:=ty,pos:=pos,after:=af,guard:=none }::rest) l H:=
 Lt λa w Z ha hw=>by
  obtain⟨b,us,e1,hb,h1,h2⟩:=M7 hw hi hg (ha.ev hx);have hr:=ha.ev hy;have hone:=hv c Z w _ hw hr;have hlen:=h2.length;have hlt':off<us.length:=by rw[hlen];simpa using hlt
  have h4:=run_storeCells_at P b off e [a.eval y] 0 us.toArray w h1 (by simp;omega) (by simpa using hone);have hcv:=By hone;have h3:us.take off++[a.eval y]++us.drop (off+1)=us.set off (a.eval y):=by
   simp[List.set_eq_take_append_cons_drop,hlt']
  simp only[Nat.add_zero,Vk,V8,V4] at h4;rw[h3] at h4;refine⟨w.setRow b (us.set off (a.eval y)).toArray,H',?_,?_,h⟩
  ·simp[execOp,e1,Instr.storeAt,Instr.sureAddr,storeVar,hag,hcv,h4]
  ·subst hH;exact hw.poolset hi hb h1 (by rw[← hy'];exact h2.set off hr)
theorem Ow {j off:Nat}{i:Int}{y':α}{rs:List Rp}(hsz:∀w,(sizeOf t).run P w = .ok sz w)(hx:ev l x=some (EL k i off))(hy:ev l y=some (Bb rs))(hl:rs.length=sz)(hv:Bm H rs)(hi:H[j]? =some (.pool k pv e (xs.map enc)))(hg:BL i (xs.length:Int)=true)
  (hlt:Nat.ble (off+sz) (enc (Ad xs i)).length=true) (hy':(enc (Ad xs i)).take off++rs++(enc (Ad xs i)).drop (off+sz)=enc y') (hH:H.set j (.pool k pv e ((xs.set i.toNat y').map enc))=H') (h:WL P n c ops Q rest l H') :
  WL P n c ops Q ({ dst:=none,op:=.store t x y,type:=ty,pos:=pos,after:=af,guard:=none }::rest) l H:=
 Lt λa w Z ha hw=>by
  obtain⟨b,us,e1,hb,h1,h2⟩:=M7 hw hi hg (ha.ev hx);obtain⟨vs,e2,h4⟩:=ha.ev hy;have hlen:=h2.length;have hvl:=h4.length;have hlt':off+sz≤us.length:=by rw[hlen];simpa using hlt
  have h5:=run_storeCells_at P b off e vs 0 us.toArray w h1 (by simp;omega) (λv hv'=>hv.at hw h4 v hv');simp only[Nat.add_zero] at h5;refine⟨w.setRow b (us.take off++vs++us.drop (off+sz)).toArray,H',?_,?_,h⟩
  ·have h6:vs.length=sz:=by omega
   rw[h6] at h5;simp only[Vz] at h5 ⊢;simp[execOp,e1,e2,Instr.storeAt,Instr.sureAddr,storeVar,hsz,Value.cells,h6,h5]
  ·subst hH;exact hw.poolset hi hb h1 (by rw[← hy'];exact((h2.take off).append h4).append (h2.drop (off+sz)))
theorem St.adopt0 {Z:Fz}{w:World}{b:Nat}{cs:List Rp}{ys:List (List Rp)}{Hr:List Ent}{pv':Value}(h:St c (.blk b cs e::.pool k pv e ys::Hr) Z w)(hpv:EI pv'=EI pv++[b]):∃Z',Fz.le Z Z'∧Z'.nm k ys.length=some b∧St c (.pool k pv' e (ys++[cs])::Hr) Z' w:=by
 obtain⟨us,hb1,hb2⟩:=h.has (.blk b cs e) (by simp);obtain⟨h0,hl,hp⟩:=h.has (.pool k pv e ys) (by simp);have hd:=List.pairwise_cons.1 h.dis;have hd2:=List.pairwise_cons.1 hd.2;have gd:=List.pairwise_cons.1 h.gst.dis;have gd2:=List.pairwise_cons.1 gd.2;have hcap:=h.gst.cap (.pool k pv e ys) (by simp) k (by simp[Ent.gk]);have hksz:=h.gst.sz (.pool k pv e ys) (by simp) k (by simp[Ent.gk]);have hkown:=h.gst.own (.pool k pv e ys) (by simp) k (by simp[Ent.gk])
 let Z':Fz:=⟨Z.f,λq i=>if q=k∧i=ys.length then some b else Z.nm q i⟩
 have hnew:Z'.nm k ys.length=some b:=by simp[Z']
 have hle:Fz.le Z Z':=⟨λ_ _ h=>h,λq i b' hq=>by
  by_cases hqi:q=k∧i=ys.length
  ·obtain⟨rfl,rfl⟩:=hqi;rw[hcap _ (by simp[Ent.gn,hl])] at hq;cases hq
  ·simpa[Z',hqi] using hq⟩
 have hbn:b ∉ EI pv:=λhbs=>hd.1 (.pool k pv e ys) (by simp) b (by simp[Ent.foot]) hbs;refine⟨Z',hle,hnew,h.os,h.tape,h.output,h.size,h.old,λen he=>?_,λen he q hq=>?_,?_,⟨λb o hb=>h.frz.f b o hb,λq i b' hq=>?_⟩,h.le.trans hle,λb o hb=>h.new b o hb,λen he q hq=>?_,h.emono hle h.env,h.emono,⟨λen he q hq=>?_,λen he q hq=>?_,?_,λq i b' hq=>?_,λen he q hq i hi=>?_⟩⟩
 ·rcases List.mem_cons.1 he with rfl | he
  ·refine⟨by rw[hpv];exact List.nodup_append.2 ⟨h0,by simp,λx hx y hy e=>by simp at hy;subst hy;exact hbn (e▸hx)⟩,by rw[hpv];simp[hl],λi b' cs' h1 h2=>?_⟩
   ·rw[hpv] at h1
    by_cases hi:i<(EI pv).length
    ·rw[V2 hi] at h1;rw[V2 (by omega)] at h2;obtain⟨g1,vs,g2,g3⟩:=hp i b' cs' h1 h2;exact⟨hle.nm k i b' g1,vs,g2,g3.mono hle⟩
    ·have hi2:i=(EI pv).length:=by have:=(List.getElem?_eq_some_iff.1 h1).1;simp at this;omega
     subst hi2;simp at h1;subst h1;rw[hl] at h2;simp at h2;subst h2;exact⟨by rw[hl];exact hnew,us,hb1,hb2.mono hle⟩
  ·exact Ent.keep (h.has en (by simp[he])) hle λ_ _=>rfl
 ·rcases List.mem_cons.1 he with rfl | he
  ·rcases List.mem_append.1 (hpv▸(show q∈EI pv' from hq)) with hq | hq
   ·exact h.own (.pool k pv e ys) (by simp) q hq
   ·simp at hq;subst hq;exact h.own (.blk q cs e) (by simp) q (by simp[Ent.foot])
  ·exact h.own en (by simp[he]) q hq
 ·refine List.pairwise_cons.2 ⟨λen he q hq hq'=>?_,hd2.2⟩;rcases List.mem_append.1 (hpv▸(show q∈EI pv' from hq)) with hq | hq
  ·exact hd2.1 en he q hq hq'
  ·simp at hq;subst hq;exact hd.1 en (by simp[he]) q (by simp[Ent.foot]) hq'
 ·by_cases hqi:q=k∧i=ys.length
  ·rw[hqi.1];exact hksz
  ·exact h.frz.nm q i b' (by simpa[Z',hqi] using hq)
 ·rcases List.mem_cons.1 he with rfl | he
  ·rcases List.mem_append.1 (hpv▸(show q∈EI pv' from hq)) with hq | hq
   ·exact h.zdis (.pool k pv e ys) (by simp) q hq
   ·simp at hq;subst hq;exact h.zdis (.blk q cs e) (by simp) q (by simp[Ent.foot])
  ·exact h.zdis en (by simp[he]) q hq
 ·rcases List.mem_cons.1 he with rfl | he
  ·simp[Ent.gk] at hq;subst hq;exact hkown
  ·exact h.gst.own en (by simp[he]) q hq
 ·rcases List.mem_cons.1 he with rfl | he
  ·simp[Ent.gk] at hq;subst hq;exact hksz
  ·exact h.gst.sz en (by simp[he]) q hq
 ·exact List.pairwise_cons.2 ⟨λen he q hq hq'=>gd2.1 en he q hq hq',gd2.2⟩
 ·by_cases hqi:q=k∧i=ys.length
  ·rw[hqi.1];exact .inr hkown
  ·exact h.gst.new q i b' (by simpa[Z',hqi] using hq)
 ·rcases List.mem_cons.1 he with rfl | he
  ·simp[Ent.gk] at hq;subst hq;simp[Ent.gn,hpv] at hi;have : ¬ i=ys.length:=by omega
   simp only[Z',this,and_false,if_false];exact hcap i (by simp[Ent.gn];omega)
  ·have hqk:q≠k:=λe1=>gd2.1 en he k (by simp[Ent.gk]) (e1▸hq);simp only[Z',hqk,false_and,if_false];exact h.gst.cap en (by simp[he]) q hq i hi
theorem St.adopt {Z:Fz}{w:World}{b:Nat}{cs:List Rp}{ys:List (List Rp)}{Hr:List Ent}(h:St c (.blk b cs e::.pool k pv e ys::Hr) Z w):∃Z',Fz.le Z Z'∧Z'.nm k ys.length=some b∧St c (.pool k (TL (EI pv++[b])) e (ys++[cs])::Hr) Z' w:=St.adopt0 h (Tp _)
theorem Cf.re {a:Act}{Z:Fz}{d:Nat}{q r:Rp}(h:Cf n l a Z)(hl:look l d=some q)(hq:∀v,q.p Z v→r.p Z v):Cf n ((d,r)::l) a Z:=⟨h.size,h.defers,λi u hi=>by
 rw[B9] at hi
 split at hi
 ·rename_i e;subst e;simp at hi;subst hi
  obtain⟨v,h1,h2⟩:=h.tm d q hl;exact⟨v,h1,hq v h2⟩
 ·exact h.tm i u hi⟩
theorem Mg.of {Z:Fz}{b N:Nat}(h:Z.nm k N=some b):∀v,(rv (.pointer (some ⟨b,0,none⟩))).p Z v→(EL k (N:Int) 0).p Z v:=λv hv=>by
 show Mg k N 0 Z v;unfold Mg;rw[Vp (by omega)];exact⟨b,by simpa using h,hv⟩
def Jg (l:Fr)(b:Nat):List Nat→Prop
 | []=>True
 | d::ds=>look l d=some (rv (.pointer (some ⟨b,0,none⟩)))∧Jg l b ds
def T7 (k N:Nat):List Nat→Fr→Fr
 | [],l=>l
 | d::ds,l=>(d,EL k (N:Int) 0)::T7 k N ds l
theorem J8 {Z:Fz}{a:Act}{b N:Nat}{l:Fr}(ha:Cf n l a Z)(hn:Z.nm k N=some b):∀{ds:List Nat},Jg l b ds→Cf n (T7 k N ds l) a Z
 | [],_=>ha
 | d::ds,⟨h1,h2⟩=>by
  have h3:=J8 ha hn h2;refine⟨h3.size,h3.defers,λi u hi=>?_⟩;rw[T7,B9] at hi
  split at hi
  ·rename_i e;subst e;simp at hi;subst hi
   obtain⟨v,h4,h5⟩:=ha.tm d _ h1;exact⟨v,h4,Mg.of hn v h5⟩
  ·exact h3.tm i u hi
theorem St.adoptE {β:Type}{xs:List β}{enc:β→List Rp}{Z:Fz}{w:World}{b:Nat}{y:β}{Hr:List Ent}{cs:List Rp}(hw:St c H Z w)(hp:H.Perm (.blk b cs e::.pool k pv e (xs.map enc)::Hr))(hcs:cs=enc y) :
  ∃Z' pv',Fz.le Z Z'∧Z'.nm k xs.length=some b∧St c (.pool k pv' e ((xs++[y]).map enc)::Hr) Z' w:=by
 obtain⟨Z',h1,h2,h3⟩:=(hw.perm hp).adopt;subst hcs;rw[Vr] at h2;exact⟨Z',_,h1,h2,by rw[VU];exact h3⟩
theorem WL.adopt {β:Type}{xs:List β}{enc:β→List Rp}{b:Nat}{y:β}{Hr:List Ent}{cs:List Rp}(hp:H.Perm (.blk b cs e::.pool k pv e (xs.map enc)::Hr))(ds:List Nat)(hd:Jg l b ds)(hcs:cs=enc y)
  (h:∀pv',WL P n c ops Q rest (T7 k xs.length ds l) (.pool k pv' e ((xs++[y]).map enc)::Hr)):WL P n c ops Q rest l H:=λa w Z ha hw=>by
 obtain⟨Z',pv',h1,h2,h3⟩:=St.adoptE hw hp hcs;exact h pv' a w Z' (J8 (ha.mono h1) h2 hd) h3
theorem WC.adopt {β:Type}{xs:List β}{enc:β→List Rp}{b:Nat}{y:β}{Hr:List Ent}{cs:List Rp}{xx:Code}(hp:H.Perm (.blk b cs e::.pool k pv e (xs.map enc)::Hr))(ds:List Nat)(hd:Jg l b ds)(hcs:cs=enc y)
  (h:∀pv',WC P n c xx Q (T7 k xs.length ds l) (.pool k pv' e ((xs++[y]).map enc)::Hr)):WC P n c xx Q l H:=λa w Z ha hw=>by
 obtain⟨Z',pv',h1,h2,h3⟩:=St.adoptE hw hp hcs;exact h pv' a w Z' (J8 (ha.mono h1) h2 hd) h3
theorem WK.adopt {β:Type}{xs:List β}{enc:β→List Rp}{b:Nat}{y:β}{Hr:List Ent}{cs:List Rp}{K:Act→World→Prop}(hp:H.Perm (.blk b cs e::.pool k pv e (xs.map enc)::Hr))(ds:List Nat)(hd:Jg l b ds)(hcs:cs=enc y)
  (h:∀pv',WK n c K (T7 k xs.length ds l) (.pool k pv' e ((xs++[y]).map enc)::Hr)):WK n c K l H:=λa w Z ha hw=>by
 obtain⟨Z',pv',h1,h2,h3⟩:=St.adoptE hw hp hcs;exact h pv' a w Z' (J8 (ha.mono h1) h2 hd) h3
theorem Hx:EI (.tuple #[])=[]:=rfl
theorem Ky (hn:Nat.blt d n=true)(h:∀b,WL P n c ops Q rest ((d,rv (.map (some b)))::l) (.pool b (.tuple #[]) e []::.map b []::H)) :
  WL P n c ops Q ({ dst:=some d,op:=.makeMap t none,type:=ty,pos:=pos,after:=af,guard:=none }::rest) l H:=
 Ji (λa w Z ha hw=>by
  have h1:=hw.alloc (.map #[] 0) (e:=.map w.heap.size []) ⟨#[],0,by simpa using heap_alloc_new w _,by simp,by simp,by simp,[],Vh _,trivial⟩ rfl;refine⟨_,w.alloc (.map #[] 0),_,_,Z,by simp[execOp,run_makeMap],Fz.le.refl _,rfl,?_,h w.heap.size⟩;have hz:∀i,Z.nm w.heap.size i=none:=λi=>by
   cases hq:Z.nm w.heap.size i with
   | none=>rfl
   | some b=>have:=hw.frz.nm _ _ _ hq;omega
  have hold:∀en∈(Ent.map w.heap.size []::H),∀q∈en.gk,q<w.heap.size:=λen he q hq=>by
   rcases List.mem_cons.1 he with rfl | he
   ·simp[Ent.gk] at hq
   ·exact hw.gst.sz en he q hq
  refine { h1 with has:=λen he=>?_,own:=λen he q hq=>?_,dis:=List.pairwise_cons.2 ⟨λen he q hq=>by simp[Ent.foot,Hx] at hq,h1.dis⟩,zdis:=λen he q hq=>?_,gst:=⟨λen he q hq=>?_,λen he q hq=>?_,List.pairwise_cons.2 ⟨λen he q hq hq'=>?_,h1.gst.dis⟩,h1.gst.new,λen he q hq i hi=>?_⟩ }
  ·rcases List.mem_cons.1 he with rfl | he
   ·exact⟨by simp[Hx],by simp[Hx],by simp⟩
   ·exact h1.has en he
  ·rcases List.mem_cons.1 he with rfl | he
   ·simp[Ent.foot,Hx] at hq
   ·exact h1.own en he q hq
  ·rcases List.mem_cons.1 he with rfl | he
   ·simp[Ent.foot,Hx] at hq
   ·exact h1.zdis en he q hq
  ·rcases List.mem_cons.1 he with rfl | he
   ·simp[Ent.gk] at hq;subst hq;exact .inl hw.size
   ·exact h1.gst.own en he q hq
  ·rcases List.mem_cons.1 he with rfl | he
   ·simp[Ent.gk] at hq;subst hq;simp
   ·exact h1.gst.sz en he q hq
  ·simp[Ent.gk] at hq;subst hq;have:=hold en he _ hq';omega
  ·rcases List.mem_cons.1 he with rfl | he
   ·simp[Ent.gk] at hq;subst hq;exact hz i
   ·exact h1.gst.cap en he q hq i hi) hn
end
def UR (m:List (List UInt8×Rp))(Z:Fz)(v:Value):Prop:=∃b es ck,v = .map (some b)∧Z b=some (.map es ck)∧Eg Z m es.toList ck
def Qf (m:List (List UInt8×Rp)):Rp:=⟨UR m,λh ⟨b,es,ck,h1,h2,h3⟩=>⟨b,es,ck,h1,h.f b _ h2,h3.mono h⟩,true,λ_ Z v ⟨b,es,ck,h1,_⟩=>by rw[h1];rfl⟩
@[reducible] def mF (f:Nat):Rp:=rv (.func (.func f) #[] #[])
section
variable {P : Program} {n : Nat} {c : Cx} {ops opsA : Array Oper} {Q : Exit → Act → World → Prop} {rest : List Oper} {l : Fr} {H : List Ent} {d : Nat} {d' : Option Nat} {ty t kt et rty : TypeId} {pos : String} {af : Array Edge} {g : Option (Nat × Bool)} {x y u : Operand} {K : Act → World → Prop} {cx : Code} {r : Rp}
variable {T : Type} {enc : T → Rp} {xs : List (Am × T)} {z : T} {k : Am} {zv : Value} {i b : Nat}
theorem St.freezeM {Z:Fz}{w:World}(h:St c H Z w){m:List (List UInt8×Rp)}(hi:H[i]? =some (.map b m)):∃Z',Fz.le Z Z'∧St c (.fact (.map (some b)) (Qf m)::H.eraseIdx i) Z' w:=by
 obtain⟨es,ck,hg,hm⟩:=h.ent hi;have hmem:=Vm hi;have hgz:Z b=none:=h.zdis _ hmem b (by simp[Ent.foot])
 let Z':Fz:=⟨λq=>if q=b then some (.map es ck) else Z q,Z.nm⟩
 have hle:Fz.le Z Z':=⟨λq o hb=>by
  have:q≠b:=λe=>by subst e;rw[hgz] at hb;cases hb
  simpa[Z',this] using hb,λ_ _ _ h=>h⟩
 have hfr:=h.front hi;have hd:=List.pairwise_cons.1 hfr.dis;have hs:=hfr.sub (List.sublist_cons_self _ _);have hs':St c (H.eraseIdx i) Z' w:=by
  refine { hs with has:=λen he=>Ent.keep (hs.has en he) hle λ_ _=>rfl,frz:=⟨λq o hb=>?_,h.frz.nm⟩,gst:=hs.gst.names rfl,le:=hs.le.trans hle,new:=λq o hb=>?_,zdis:=λen he k hk=>?_,env:=hs.emono hle hs.env }
  ·by_cases hbg:q=b
   ·subst hbg;simp[Z'] at hb;rw[← hb];exact hg
   ·simp[Z',hbg] at hb;exact h.frz q o hb
  ·by_cases hbg:q=b
   ·subst hbg;exact .inr (h.own _ hmem q (by simp[Ent.foot]))
   ·simp[Z',hbg] at hb;exact h.new q o hb
  ·have hkg:k≠b:=λe=>hd.1 en he b (by simp[Ent.foot]) (e▸hk);simp only[Z',hkg,if_false];exact hs.zdis en he k hk
 exact⟨Z',hle,hs'.add rfl rfl rfl (Vs _) (λ_ _=>rfl) (e':=.fact (.map (some b)) (Qf m)) ⟨b,es,ck,rfl,by simp[Z'],hm.mono hle⟩ (by simp[Ent.foot])⟩
theorem WK.freezeM {m:List (List UInt8×Rp)}(hi:H[i]? =some (.map b m))(h:WK n c K l (.fact (.map (some b)) (Qf m)::H.eraseIdx i)):WK n c K l H:=λa w Z ha hw=>by
 obtain⟨Z',hz,hs⟩:=St.freezeM hw hi;exact h a w Z' (ha.mono hz) hs
theorem WC.freezeM {m:List (List UInt8×Rp)}(hi:H[i]? =some (.map b m))(h:WC P n c cx Q l (.fact (.map (some b)) (Qf m)::H.eraseIdx i)):WC P n c cx Q l H:=λa w Z ha hw=>by
 obtain⟨Z',hz,hs⟩:=St.freezeM hw hi;exact h a w Z' (ha.mono hz) hs
theorem WL.freezeM {m:List (List UInt8×Rp)}(hi:H[i]? =some (.map b m))(h:WL P n c ops Q rest l (.fact (.map (some b)) (Qf m)::H.eraseIdx i)):WL P n c ops Q rest l H:=λa w Z ha hw=>by
 obtain⟨Z',hz,hs⟩:=St.freezeM hw hi;exact h a w Z' (ha.mono hz) hs
theorem UR.heap {Z:Fz}{w:World}(hf:PO Z w){m:List (List UInt8×Rp)}{v:Value}(h:(Qf m).p Z v):∃b,v = .map (some b)∧(Ent.map b m).holds Z w:=by
 obtain⟨b,es,ck,h1,h2,h3⟩:=h;exact⟨b,h1,es,ck,hf b _ h2,h3⟩
theorem G6 {q:T}(ht:P.underlying t=some (.map kt et))(hk:P.underlying kt=some .string)(hx:ev l x=some (Qf (AA enc xs)))(hy:ev l y=some (rS k))(hq:B3 xs k=some q) :
  Bp P n c l H { dst:=d',op:=.lookup t x y false,type:=ty,pos:=pos,after:=af,guard:=g } (enc q):=λa w Z ha hw=>by
 obtain⟨b,e1,es,ck,h1,h2⟩:=UR.heap hw.frz (ha.ev hx);have hq':B3 (AA enc xs) k=some (enc q):=by rw[Hk,hq];rfl
 rcases MK h2 k with⟨q1,q2,_⟩ | ⟨j,e,r,q1,_,_,q2,q3⟩
 ·rw[hq'] at q2;cases q2
 ·rw[hq'] at q2;obtain rfl:=Option.some.inj q2;exact⟨e.val,q3,by simp[execOp,e1,ha.eval hy,Instr.lookup,run_underlying ht,MapKept.run_getObj_map h1,MapKept.run_checkKey hk (DS _),MapKept.run_findKey hk q1]⟩
theorem MA {f:FuncId}{args:List Operand}{ats:Array TypeId}{rs:List Rp}(hcall:∀(as1:Array Value) (w:World),(callFunc f as1).run P w = .ok (.enter f as1) w)(hc:MW P c.E f rs r)(hx:ev l x=some (mF f))(hv:LW l args=some rs) :
  D5 P n c opsA Q l H { dst:=some d,op:=.call { callee:=.value x,args:=args.toArray,argTypes:=ats },type:=ty,pos:=pos,after:=af,guard:=none } r H:=λa w Z K ha hw hK=>
 ⟨λ_=>by
  unfold Oper.wp;rw[JI (caps:=[]) rfl (ha.eval hx) hcall w];refine(hc w Z _ (by have:=(GG ha hv);simpa using this) (St.enter (Hin:=[]) (Hr:=H) hw)).mono ?_;rintro e w' ⟨r2,v,Ho,Z',rfl,⟨rfl,rfl⟩,hr2,hs⟩;exact hK v w' Z' hs.le hr2 (by simpa using hw.call0 hs),λh=>by simp[Region.wanted] at h⟩
end
set_option maxRecDepth 100000
set_option maxHeartbeats 4000000
@[reducible] def HX (x:Int):Rp:=Ak x
theorem SV (Z:Fz):(HX 0).p Z (.int .i64 0):=rfl
@[reducible] def Ah (x:(List Ab)):List Rp:=[AH 4 (Au Ac x)]
theorem Dh (x:(List Ab)):(Ah x).length=1:=rfl
theorem Kb (x:(List Ab)):(Ah x).all (·.one)=true:=rfl
@[reducible] def Ao (x:At):List Rp:=[rS x.fEntity,rS x.fID,rS x.fOp,AH 1 (Au Ah x.fArgs)]
@[reducible] def A2 (x:A0):List Rp:=[Ak x.fErr,AH 4 (Au Ac x.fValue)]
@[reducible] def Ae (x:Aj):List Rp:=[rS x.fOp.fEntity,rS x.fOp.fID,rS x.fOp.fOp,AH 1 (Au Ah x.fOp.fArgs),Ak x.fAnswer.fErr,AH 4 (Au Ac x.fAnswer.fValue),Ak x.fFrom,Ak x.fTo]
theorem HZ (x:Aj):(Ae x).length=8:=rfl
theorem L6 (x:Aj):(Ae x).all (·.one)=true:=rfl
theorem Uw:∃inf,Tryz.prog.info? 9=some inf∧inf.zero=some (.string ⟨#[]⟩)∧inf.size=1∧inf.bytes=16:=by
  have key:(Tryz.prog.info? 9).map (λi=>(i.zero,i.size,i.bytes))=some (some (.string ⟨#[]⟩),1,16):=by kernel_rfl
  obtain⟨inf,h1,h2⟩:=Option.map_eq_some_iff.1 key;simp only[Prod.mk.injEq] at h2;exact⟨inf,h1,h2.1,h2.2.1,h2.2.2⟩
theorem TU:∃inf,Tryz.prog.info? 22=some inf∧inf.zero=some (.slice none 0 0)∧inf.size=1∧inf.bytes=24:=by
  have key:(Tryz.prog.info? 22).map (λi=>(i.zero,i.size,i.bytes))=some (some (.slice none 0 0),1,24):=by kernel_rfl
  obtain⟨inf,h1,h2⟩:=Option.map_eq_some_iff.1 key;simp only[Prod.mk.injEq] at h2;exact⟨inf,h1,h2.1,h2.2.1,h2.2.2⟩
theorem TS:∃inf,Tryz.prog.info? 63=some inf∧inf.zero=some (.agg #[(.int .i64 0),(.int .i64 0),(.string ⟨#[]⟩),(.int .i64 0)])∧inf.size=4∧inf.bytes=40:=by
  have key:(Tryz.prog.info? 63).map (λi=>(i.zero,i.size,i.bytes))=some (some (.agg #[(.int .i64 0),(.int .i64 0),(.string ⟨#[]⟩),(.int .i64 0)]),4,40):=by kernel_rfl
  obtain⟨inf,h1,h2⟩:=Option.map_eq_some_iff.1 key;simp only[Prod.mk.injEq] at h2;exact⟨inf,h1,h2.1,h2.2.1,h2.2.2⟩
theorem MO (parts:List (Nat×Value)):Tryz.prog.built 31 parts=Instr.fill (λi=>(#[(0,1),(1,1)]:Array (Nat×Nat))[i]?) #[(.int .i64 0),((.slice none 0 0))] parts:=by kernel_rfl
theorem KE {n:Nat}{c:Cx}{l:Fr}{H:List Ent}{d:Option Nat}{ty:TypeId}{pos:String}{af:Array Edge}{g:Option (Nat×Bool)}:Bp Tryz.prog n c l H { dst:=d,op:=.build 31 #[],type:=ty,pos:=pos,after:=af,guard:=g } (Bb [Ak 0,rv (.slice none 0 0)]):=λa w Z ha _=>by
  have hb:Tryz.prog.built 31 []=some #[(.int .i64 0),((.slice none 0 0))]:=by
    rw[MO];simp[Instr.fill,Value.cells]
  refine⟨.agg #[(.int .i64 0),((.slice none 0 0))],⟨[(.int .i64 0),((.slice none 0 0))],rfl,rfl,rfl,trivial⟩,?_⟩;have:=run_build w 31 #[] _ (by simpa using hb);simp[execOp,this]
theorem Ee {n:Nat}{c:Cx}{l:Fr}{H:List Ent}{d:Option Nat}{ty:TypeId}{pos:String}{af:Array Edge}{g:Option (Nat×Bool)}{x0:Operand}{r0:Rp}(h0:ev l x0=some r0)(u0:r0.one=true):Bp Tryz.prog n c l H { dst:=d,op:=.build 31 #[(0,x0)],type:=ty,pos:=pos,after:=af,guard:=g } (Bb [r0,rv (.slice none 0 0)]):=λa w Z ha _=>by
  have p0:=ha.ev h0;have c0:=By (r0.hone u0 Z _ p0);have hb:Tryz.prog.built 31 [(0,a.eval x0)]=some #[a.eval x0,((.slice none 0 0))]:=by
    rw[MO];generalize a.eval x0=v0 at *;simp[Instr.fill,c0]
  refine⟨.agg #[a.eval x0,((.slice none 0 0))],⟨[a.eval x0,((.slice none 0 0))],rfl,p0,rfl,trivial⟩,?_⟩;have:=run_build w 31 #[(0,a.eval x0)] _ (by simpa using hb);simp[execOp,this]
theorem Dv {n:Nat}{c:Cx}{l:Fr}{H:List Ent}{d:Option Nat}{ty:TypeId}{pos:String}{af:Array Edge}{g:Option (Nat×Bool)}{x1:Operand}{r1:Rp}(h1:ev l x1=some r1)(u1:r1.one=true):Bp Tryz.prog n c l H { dst:=d,op:=.build 31 #[(1,x1)],type:=ty,pos:=pos,after:=af,guard:=g } (Bb [Ak 0,r1]):=λa w Z ha _=>by
  have p1:=ha.ev h1;have c1:=By (r1.hone u1 Z _ p1);have hb:Tryz.prog.built 31 [(1,a.eval x1)]=some #[(.int .i64 0),a.eval x1]:=by
    rw[MO];generalize a.eval x1=v1 at *;simp[Instr.fill,c1]
  refine⟨.agg #[(.int .i64 0),a.eval x1],⟨[(.int .i64 0),a.eval x1],rfl,rfl,p1,trivial⟩,?_⟩;have:=run_build w 31 #[(1,a.eval x1)] _ (by simpa using hb);simp[execOp,this]
theorem C8 (ys:(List Ab))(r:(List Ab))(h:Cw ys=some r):Fn Tryz.prog GE 39 [AH 4 (Au Ac ys)] [] (λR H=>R=AH 4 (Au Ac r)∧H=[]):=by
 refine enter (n:=8) Tryz.func39 Aa Tryz.ntmps39 Aa (λw Z=>?_);unfold Cw at h;refine As (wa Aa (A3 (A1 (As (wm Aa (wv (Qm CB Aa) (A3 (Rc Aa (λc1=>?_) (λc1=>?_)))))))))
 ·have e2:ys=[]:=List.map_eq_nil_iff.1 (c1 rfl);have h3:some ([]:List Ab)=some r:=by rw[e2] at h;exact(Sn h).2
  refine As (wa Aa (A3 (A8 (An (WK.up (d:=2) (r:=AH 4 (Au Ac ([]:List Ab))) Aa (Up.le (GZ.nil _)) ?_)))));obtain rfl:=A9 h3;exact A7 (Cd Tryz.results39 (AX Aa)) sN ⟨Aa,Aa⟩
 ·refine AG (Bf (As (Bq (ys:=([]:List Ab)) (enc:=Ac) (css:=[]) (xs:=[]) CB Da Mi Aa Aa Aa trivial Aa BR Aa Aa Aa (λb4=>?_))));refine wm Aa (ck h λg6 h7=>Exists.elim TS λinf hinf=>DZ (xs:=([]:List Ab)) (ys:=ys) (enc:=Ac) (i:=0) CB hinf.1 hinf.2.1 hinf.2.2.1 hinf.2.2.2 Aa Aa Aa Aa Aa (PL.z Aa Aa) BR L5 g6 Aa (λv5=>?_));refine wa Aa (A3 (A8 (WK.freeze (i:=0) Aa (WK.up (d:=2) (r:=AH 4 (Au Ac (([]:List Ab)++ys))) Aa (Up.fact (i:=0) Aa) ?_))));obtain rfl:=A9 h7;exact A7 (Cd Tryz.results39 (AX Aa)) (sS sN) ⟨Aa,Aa⟩
theorem R9 (op:Am)(r:Int×Bool)(h:KH op=some r):Fn Tryz.prog GE 54 [rS op] [] (λR H=>R=Dc [Ak r.1,rB r.2]∧H=[]):=by
 refine enter (n:=15) Tryz.func54 Aa Tryz.ntmps54 Aa (λw Z=>?_);unfold KH at h;refine As (wa Aa (wa Aa (BH (L7 Aa (λb1=>?_)))));refine CJ (enc:=HX) (xs:=([]:List (Am×Int))) (v:=0) (i:=0) Nd GV Aa Aa Aa Aa (H':=[.map b1 (AA HX (mset ([]:List (Am×Int)) ([114,101,97,100]:Am) 0))]) Aa (CJ (enc:=HX) (xs:=mset ([]:List (Am×Int)) ([114,101,97,100]:Am) 0) (v:=1) (i:=0) Nd GV Aa Aa Aa Aa (H':=[.map b1 (AA HX (mset (mset ([]:List (Am×Int)) ([114,101,97,100]:Am) 0) ([119,114,105,116,101]:Am) 1))]) Aa (CJ (enc:=HX) (xs:=mset (mset ([]:List (Am×Int)) ([114,101,97,100]:Am) 0) ([119,114,105,116,101]:Am) 1) (v:=1) (i:=0) Nd GV Aa Aa Aa Aa (H':=[.map b1 (AA HX (mset (mset (mset ([]:List (Am×Int)) ([114,101,97,100]:Am) 0) ([119,114,105,116,101]:Am) 1) ([97,100,100]:Am) 1))]) Aa (CJ (enc:=HX) (xs:=mset (mset (mset ([]:List (Am×Int)) ([114,101,97,100]:Am) 0) ([119,114,105,116,101]:Am) 1) ([97,100,100]:Am) 1) (v:=2) (i:=0) Nd GV Aa Aa Aa Aa (H':=[.map b1 (AA HX (mset (mset (mset (mset ([]:List (Am×Int)) ([114,101,97,100]:Am) 0) ([119,114,105,116,101]:Am) 1) ([97,100,100]:Am) 1) ([99,97,115]:Am) 2))]) Aa (wm Aa (wm Aa (wv (r:=Dc [Ak (Ay (mset (mset (mset (mset ([]:List (Am×Int)) ([114,101,97,100]:Am) 0) ([119,114,105,116,101]:Am) 1) ([97,100,100]:Am) 1) ([99,97,115]:Am) 2) op 0),rB (Bu (mset (mset (mset (mset ([]:List (Am×Int)) ([114,101,97,100]:Am) 0) ([119,114,105,116,101]:Am) 1) ([97,100,100]:Am) 1) ([99,97,115]:Am) 2) op)]) (H9 (enc:=HX) (xs:=mset (mset (mset (mset ([]:List (Am×Int)) ([114,101,97,100]:Am) 0) ([119,114,105,116,101]:Am) 1) ([97,100,100]:Am) 1) ([99,97,115]:Am) 2) (z:=0) (i:=0) Nd GV Tryz.zeroValue3 SV Aa Aa Aa) (wm Aa (wv (AU Aa Aa) (wv (AU Aa Aa) (wa Aa (wa Aa (BH (wm Aa (wm Aa (wa Aa (wa Aa (A3 (A8 ?_))))))))))))))))));obtain rfl:=A9 h;exact A7 (Lm Tryz.results54 (AX Aa) (AX Aa)) (sS sN) ⟨Aa,Aa⟩
theorem NJ (F:Nat)(op:At)(r:Int)(h:J0 F op=some r):Fn Tryz.prog GE 36 [Bb (Ao op)] [] (λR H=>R=Ak r∧H=[]):=by
 refine enter (n:=46) Tryz.func36 Aa Tryz.ntmps36 Aa (λw Z=>?_);unfold J0 at h;refine As (B8 Aa Aa (λb1=>?_));refine wa Aa (BH (vF BX Aa DX (vL 0 Er Aa (ob h λr2 e4 h3=>Dr Tryz.call54 (R9 op.fOp r2 e4) Aa (wm Aa (wv (AU Aa Aa) (wv (AU Aa Aa) (wa Aa (wa Aa (A3 (A1 (Bc [(1,rP b1 0),(3,Ak r2.1),(27,rB ((!(GX op.fEntity))||((!(GX op.fID))||(!r2.2))))] [.blk b1 (Ao op) 25] ?_ ?_))))))))))))
 ·refine AD (vF BX Aa DX (vL 0 Er Aa (H3 (rs:=[rS op.fEntity]) (r:=rB (GX op.fEntity)) Tryz.call55 Aa (Uz op.fEntity) Aa Aa (wv (BS Aa) (wm Aa (Be (!(GX op.fEntity)) (λc5=>?_) (λc5=>?_)))))))
  ·refine wf c5 (wf c5 (wf c5 (wf c5 (wv (r:=rB true) (A6 Aa c5 Aa) (wm Aa (wz Aa Aa (wz Aa Aa (wv (r:=rB true) (A6 (b:=true) Aa Aa Aa) (A5 ?_)))))))));exact Dq c5
  ·refine wo c5 (vF BX Aa DX (wo c5 (vL 0 Er Aa (wo c5 (H3 (rs:=[rS op.fID]) (r:=rB (GX op.fID)) Tryz.call55 Aa (Uz op.fID) Aa Aa (wo c5 (wv (BS Aa) (Kw Aa c5 Aa (wm Aa (Be (!(GX op.fID)) (λc6=>?_) (λc6=>?_)))))))))))
   ·refine wf c6 (wf c6 (wv (r:=rB true) (A6 Aa c6 Aa) (A5 ?_)));exact Dq (And.intro c5 c6)
   ·refine wo c6 (wm Aa (wo c6 (wv (BS Aa) (Kw Aa c6 Aa (A5 ?_)))));exact Dq (And.intro c5 c6)
 refine cz h3 Aa (λc7 h8=>?_) (λc7 h9=>?_)
 ·refine As (wa Aa (A3 (A8 (An ?_))));obtain rfl:=A9 h8;exact A7 (Cd S8 (AX Aa)) (sS sN) ⟨Aa,Aa⟩
 ·refine AG (Bf (A1 (As (vF BX Aa EJ (vL 0 GT Aa (wv (Bk (ys:=op.fArgs) (enc:=Ah) DC Aa) (wm Aa (wv (DP Aa Aa) (A3 (cz h9 Aa (λhg hh=>?_) (λhg hi=>?_)))))))))))
  ·refine As (wa Aa (A3 (A8 (An ?_))));obtain rfl:=A9 hh;exact A7 (Cd S8 (AX Aa)) (sS sN) ⟨Aa,Aa⟩
  ·refine AG (Bf (A1 (As (vF BX Aa EJ (vL 0 GT Aa (wv (Bk (ys:=op.fArgs) (enc:=Ah) DC Aa) (wv (r:=Ak 0) (Ap Aa) (A3 (Ba (ob hi λhj hk hf=>BN (S:=Nat×(Int)×(Unit)) (V:=(Unit)×(Unit)) 0 (λσ=>BI (λσ=>Ey F op σ) σ.1 σ.2.1=some hj) (λσ=>[(34,AH 1 (Au Ah op.fArgs)),(35,Ak (op.fArgs.length:Int)),(36,Ak σ.2.1)]) (λσ=>[]) (λσ=>σ.1) (F,0,()) hk (AZ.c Aa (AZ.c Aa (AZ.c Aa AZ.nil))) (sS sN) (λσ=>HF =some r) (λσ=>[]) (λσ=>[]) ?_ ?_))))))))))
   ·rintro⟨h6,ha,⟨⟩⟩ hl;refine C7 (l':=[(34,AH 1 (Au Ah op.fArgs)),(35,Ak (op.fArgs.length:Int)),(36,Ak ha)]) (H':=[]) Aa Aa ?_;obtain⟨hm,rfl,hn,hb,he⟩:=DI hl;replace hb:Ey F op ha=some hn:=hb;unfold Ey at hb;refine As (wv (EN Aa Aa) (A3 (A1 (cz hb Aa (λho hp=>?_) (λho hq=>?_)))))
    ·refine AG (Bf (A1 (Ba (As (ck hp λhr hs=>wv (Bh (enc:=Ah) (ys:=op.fArgs) DC DL Aa Aa hr) (wv (Bj EY Aa Aa) (wa Aa (BH (wm Aa (ob hs λht hu hw=>Dr Tryz.call37 (No F (Ad op.fArgs ha) ht hu) Aa (wa Aa (BH (wm Aa (wv (DP Aa Aa) (A3 (cz hw Aa (λhx hy=>?_) (λhx hz=>?_)))))))))))))))))
     ·refine As (wm Aa (wa Aa (A3 (A8 (AQ (An (An (B5 ?_))))))));have h0:=Cl hy he hf;refine AQ (An ?_);obtain rfl:=A9 h0;exact A7 (Cd S8 (AX Aa)) sN ⟨Aa,Aa⟩
     ·refine AG (Bi (Bf (AD (ck hz λh1 h2=>wv (Cy Aa Aa h1) (wm Aa (A5 ?_))))));have h4:=BO h2 he;exact AL (AW (hm,ha+1,()) ⟨h4,Vy _⟩ (AZ.c Aa (AZ.c Aa (AZ.c Aa AZ.nil))) sN)
    ·refine BM (AI ?_);have h5:=CC hq he hf;exact AI (B1 (AW ((),()) h5 AZ.nil sN))
   ·rintro⟨⟨⟩,⟨⟩⟩ hd;refine DE (l':=[]) (H':=[]) Aa Aa ?_;replace hd:HF =some r:=hd;unfold HF at hd;refine Bw (Bf (As (wa Aa (A3 (A8 ?_)))));obtain rfl:=A9 hd;exact A7 (Cd S8 (AX Aa)) sN ⟨Aa,Aa⟩
theorem NG (state:(List Ab))(args:(List (List Ab)))(r:(List Ab)×A0)(h:HD state args=some r):Fn Tryz.prog GE 57 [AH 4 (Au Ac state),AH 1 (Au Ah args)] [] (λR H=>R=Dc [AH 4 (Au Ac r.1),Bb (A2 r.2)]∧H=[]):=by
 refine enter (n:=10) Tryz.func57 Aa Tryz.ntmps57 Aa (λw Z=>?_);unfold HD at h;refine As (wa Aa (Ca (cs:=[Ak 0,rv (.slice none 0 0)]) Lq Aa Aa (λb1=>?_)));refine BH (wm Aa (wm Aa (ob h λr2 e4 h3=>Dr JV (C8 state r2 e4) Aa (wv (r:=Bb [Ak 0,AH 4 (Au Ac r2)]) (Dv Aa Aa) (wa Aa (AR (i:=0) BF Aa Aa Aa (Bm.c Aa) Aa Aa (cs':=[Ak 0,AH 4 (Au Ac r2)]) Aa (H':=[.blk b1 [Ak 0,AH 4 (Au Ac r2)] 31]) Aa (A3 (A8 ?_))))))));obtain rfl:=A9 h3;exact A7 (Lm Tryz.results57 (AX Aa) (Ci (i:=0) DD BF Aa Aa Aa)) (sS sN) ⟨Aa,Aa⟩
theorem MD (state:(List Ab))(args:(List (List Ab)))(r:(List Ab)×A0)(h:G9 state args=some r):Fn Tryz.prog GE 58 [AH 4 (Au Ac state),AH 1 (Au Ah args)] [] (λR H=>R=Dc [AH 4 (Au Ac r.1),Bb (A2 r.2)]∧H=[]):=by
 refine enter (n:=12) Tryz.func58 Aa Tryz.ntmps58 Aa (λw Z=>?_);unfold G9 at h;refine As (wa Aa (Ca (cs:=[Ak 0,rv (.slice none 0 0)]) Lq Aa Aa (λb1=>?_)));refine BH (wm Aa (ck h λg2 h3=>wv (Bh (enc:=Ah) (ys:=args) DC DL Aa Aa g2) (wv (Bj EY Aa Aa) (ob h3 λr4 e6 h5=>Dr JV (C8 (Ad args 0) r4 e6) Aa (ob h5 λr7 e9 h8=>Dr Tryz.call47 (Mp r7 e9) Aa (wv (r:=Bb [Ak 0,AH 4 (Au Ac r7)]) (Dv Aa Aa) (wa Aa (AR (i:=0) BF Aa Aa Aa (Bm.c Aa) Aa Aa (cs':=[Ak 0,AH 4 (Au Ac r7)]) Aa (H':=[.blk b1 [Ak 0,AH 4 (Au Ac r7)] 31]) Aa (A3 (A8 ?_))))))))));obtain rfl:=A9 h8;exact A7 (Lm Tryz.results58 (AX Aa) (Ci (i:=0) DD BF Aa Aa Aa)) (sS sN) ⟨Aa,Aa⟩
theorem OG (F:Nat)(state:(List Ab))(args:(List (List Ab)))(r:(List Ab)×A0)(h:IQ F state args=some r):Fn Tryz.prog GE 60 [AH 4 (Au Ac state),AH 1 (Au Ah args)] [] (λR H=>R=Dc [AH 4 (Au Ac r.1),Bb (A2 r.2)]∧H=[]):=by
 refine enter (n:=21) Tryz.func60 Aa Tryz.ntmps60 Aa (λw Z=>?_);unfold IQ at h;refine As (wa Aa (Ca (cs:=[Ak 0,rv (.slice none 0 0)]) Lq Aa Aa (λb1=>?_)));refine A3 (A1 (As (wm Aa (wm Aa (ck h λg2 h3=>wv (Bh (enc:=Ah) (ys:=args) DC DL Aa Aa g2) (wv (Bj EY Aa Aa) (ob h3 λr4 e6 h5=>Dr Tryz.call61 (SE F state (Ad args 0) r4 e6) Aa (wv (BS Aa) (A3 (cz h5 Aa (λc7 h8=>?_) (λc7 hb=>?_)))))))))))
 ·refine As (wm Aa (ob h8 λr9 hd he=>Dr Tryz.call62 (Pe false r9 hd) Aa (wv (r:=Bb [Ak 0,AH 4 (Au Ac r9)]) (Dv Aa Aa) (wa Aa (AR (i:=0) BF Aa Aa Aa (Bm.c Aa) Aa Aa (cs':=[Ak 0,AH 4 (Au Ac r9)]) Aa (H':=[.blk b1 [Ak 0,AH 4 (Au Ac r9)] 31]) Aa (A3 (A8 (An ?_))))))));obtain rfl:=A9 he;exact A7 (Lm Tryz.results60 (AX Aa) (Ci (i:=0) DD BF Aa Aa Aa)) (sS sN) ⟨Aa,Aa⟩
 ·refine AG (Bf (As (wm Aa (ck hb λhf hg=>wv (Bh (enc:=Ah) (ys:=args) DC DL Aa Aa hf) (wv (Bj EY Aa Aa) (ob hg λhh hi hj=>Dr JV (C8 (Ad args 1) hh hi) Aa (ob hj λha hk hl=>Dr Tryz.call62 (Pe true ha hk) Aa (wv (r:=Bb [Ak 0,AH 4 (Au Ac ha)]) (Dv Aa Aa) (wa Aa (AR (i:=0) BF Aa Aa Aa (Bm.c Aa) Aa Aa (cs':=[Ak 0,AH 4 (Au Ac ha)]) Aa (H':=[.blk b1 [Ak 0,AH 4 (Au Ac ha)] 31]) Aa (A3 (A8 ?_))))))))))));obtain rfl:=A9 hl;exact A7 (Lm Tryz.results60 (AX Aa) (Ci (i:=0) DD BF Aa Aa Aa)) (sS sN) ⟨Aa,Aa⟩
theorem OF (F:Nat)(n:(List Int))(r:Bool)(h:Hh F n=some r):Fn Tryz.prog GE 95 [AH 1 (Au Gf n)] [] (λR H=>R=rB r∧H=[]):=by
 refine enter (n:=15) Tryz.func95 Aa Tryz.ntmps95 Aa (λw Z=>?_);unfold Hh at h;refine As (wa Aa (A3 (A1 (As (wm Aa (wv (Bk (ys:=n) (enc:=Gf) QR Aa) (wv (r:=Ak 0) (Ap Aa) (A3 (Ba (ob h λhg hh hf=>BN (S:=Nat×(Int)×(Unit)) (V:=(Unit)×(Unit)) 0 (λσ=>BI (λσ=>Dw n σ) σ.1 σ.2.1=some hg) (λσ=>[(5,AH 1 (Au Gf n)),(6,Ak (n.length:Int)),(7,Ak σ.2.1)]) (λσ=>[]) (λσ=>σ.1) (F,0,()) hh (AZ.c Aa (AZ.c Aa (AZ.c Aa AZ.nil))) sN (λσ=>ER =some r) (λσ=>[]) (λσ=>[]) ?_ ?_))))))))))
 ·rintro⟨h2,ha,⟨⟩⟩ hi;refine C7 (l':=[(5,AH 1 (Au Gf n)),(6,Ak (n.length:Int)),(7,Ak ha)]) (H':=[]) Aa Aa ?_;obtain⟨hj,rfl,hk,hb,he⟩:=DI hi;replace hb:Dw n ha=some hk:=hb;unfold Dw at hb;refine As (wv (EN Aa Aa) (A3 (A1 (cz hb Aa (λhl hm=>?_) (λhl hn=>?_)))))
  ·refine AG (Bf (A1 (Ba (As (ck hm λho hp=>wv (Bh (enc:=Gf) (ys:=n) QR C9 Aa Aa ho) (wv (Bj DY Aa Aa) (wa Aa (BH (wm Aa (ob hp λhq hr hs=>Dr Tryz.call79 (KF (Ad n ha) hq hr) Aa (wv (BS Aa) (A3 (cz hs Aa (λht hu=>?_) (λht hw=>?_))))))))))))))
   ·refine As (wa Aa (A3 (A8 (AQ (An (An (B5 ?_)))))));have hx:=Cl hu he hf;refine AQ (An ?_);obtain rfl:=A9 hx;exact A7 (Cd Tryz.results95 (AX Aa)) sN ⟨Aa,Aa⟩
   ·refine AG (Bi (Bf (AD (ck hw λhy hz=>wv (Cy Aa Aa hy) (wm Aa (A5 ?_))))));have h0:=BO hz he;exact AL (AW (hj,ha+1,()) ⟨h0,Vy _⟩ (AZ.c Aa (AZ.c Aa (AZ.c Aa AZ.nil))) sN)
  ·refine BM (AI ?_);have h1:=CC hn he hf;exact AI (B1 (AW ((),()) h1 AZ.nil sN))
 ·rintro⟨⟨⟩,⟨⟩⟩ hd;refine DE (l':=[]) (H':=[]) Aa Aa ?_;replace hd:ER =some r:=hd;unfold ER at hd;refine Bw (Bf (As (wa Aa (A3 (A8 ?_)))));obtain rfl:=A9 hd;exact A7 (Cd Tryz.results95 (AX Aa)) sN ⟨Aa,Aa⟩
theorem NE (n:Int)(r:Int×Int)(h:HB n=some r):Fn Tryz.prog GE 96 [Ak n] [] (λR H=>R=Dc [Ak r.1,Ak r.2]∧H=[]):=by
 refine enter (n:=8) Tryz.func96 Aa Tryz.ntmps96 Aa (λw Z=>?_);unfold HB at h;refine As (wa Aa (wa Aa (A3 (A1 (As (wm Aa (ob h λr1 e3 h2=>Dr Tryz.call79 (KF n r1 e3) Aa (wv (BS Aa) (A3 (cz h2 Aa (λc4 h5=>?_) (λc4 h6=>?_)))))))))))
 ·refine As (wa Aa (wa Aa (A3 (A8 (An ?_)))));obtain rfl:=A9 h5;exact A7 (Lm Tryz.results96 (AX Aa) (AX Aa)) sN ⟨Aa,Aa⟩
 ·refine AG (Bf (As (wm Aa (wa Aa (wa Aa (A3 (A8 ?_)))))));obtain rfl:=A9 h6;exact A7 (Lm Tryz.results96 (AX Aa) (AX Aa)) sN ⟨Aa,Aa⟩
theorem NF (F:Nat)(a:Int)(b:Int)(r:Int×Int)(h:Jx F a b=some r):Fn Tryz.prog GE 81 [Ak a,Ak b] [] (λR H=>R=Dc [Ak r.1,Ak r.2]∧H=[]):=by
 refine enter (n:=17) Tryz.func81 Aa Tryz.ntmps81 Aa (λw Z=>?_);unfold Jx at h;refine As (wa Aa (wa Aa (A3 (A1 (As (wm Aa (wm Aa (Bq (ys:=([a,b]:List Int)) (enc:=Gf) (css:=[[Ak a],[Ak b]]) (xs:=[.tmp 6,.tmp 7]) QR C9 Tryz.zeroValue3 Aa Aa Aa ⟨Kt.one Aa (Up.refl _),Kt.one Aa (Up.refl _),trivial⟩ Aa OP Aa Aa Aa (λb1=>?_)))))))));refine WL.freeze (i:=0) Aa (WL.up (d:=8) (r:=AH 1 (Au Gf ([a,b]:List Int))) Aa (Up.fact (i:=0) Aa) (ob h λr2 e4 h3=>Dr Tryz.call95 (OF F ([a,b]:List Int) r2 e4) Aa (wv (BS Aa) (A3 (cz h3 Aa (λc5 h6=>?_) (λc5 h7=>?_))))))
 ·refine As (wa Aa (wa Aa (A3 (A8 (An ?_)))));obtain rfl:=A9 h6;exact A7 (Lm Tryz.results81 (AX Aa) (AX Aa)) (sS sN) ⟨Aa,Aa⟩
 ·refine AG (Bf (As (wm Aa (wm Aa (ck h7 λg8 h9=>wv (Cy Aa Aa g8) (ob h9 λha hb hd=>Dr Tryz.call96 (NE (a+b) ha hb) Aa (wv (AU Aa Aa) (wv (AU Aa Aa) (wa Aa (wa Aa (A3 (A8 ?_))))))))))));obtain rfl:=A9 hd;exact A7 (Lm Tryz.results81 (AX Aa) (AX Aa)) (sS sN) ⟨Aa,Aa⟩
theorem RA (F:Nat)(state:(List Ab))(args:(List (List Ab)))(r:(List Ab)×A0)(h:KI F state args=some r):Fn Tryz.prog GE 59 [AH 4 (Au Ac state),AH 1 (Au Ah args)] [] (λR H=>R=Dc [AH 4 (Au Ac r.1),Bb (A2 r.2)]∧H=[]):=by
 refine enter (n:=56) Tryz.func59 Aa Tryz.ntmps59 Aa (λw Z=>?_);unfold KI at h;refine As (wa Aa (Ca (cs:=[Ak 0,rv (.slice none 0 0)]) Lq Aa Aa (λb1=>?_)));refine BH (wa Aa (A3 (A1 (As (wm Aa (ck h λg2 h3=>wv (Bh (enc:=Ac) (ys:=state) CB Da Aa Aa g2) (wv (AJ BU Aa JU Aa Aa) (wv (Bj JW Aa Aa) (A3 (Ba (As (wv (BW Aa Aa) (wa Aa (A3 (cz h3 Aa (λc4 h5=>?_) (λc4 hh=>?_))))))))))))))))
 ·refine AD (wm Aa (wv (Bh (enc:=Ac) (ys:=state) CB Da Aa Aa g2) (wv (AJ BU Aa C9 Aa Aa) (wv (Bj DY Aa Aa) (wa Aa (A5 (Bi (Bf (A1 (As (wm Aa (ck h5 λg6 h7=>wv (Bh (enc:=Ah) (ys:=args) DC DL Aa Aa g6) (wv (Bj EY Aa Aa) (ck h7 λg8 h9=>wv (Bh (enc:=Ac) (ys:=Ad args 0) CB Da Aa Aa g8) (wv (AJ BU Aa JU Aa Aa) (wv (Bj JW Aa Aa) (wv (DP Aa Aa) (A3 (cz h9 Aa (λhi hj=>?_) (λhi hk=>?_))))))))))))))))))))
  ·refine As (wm Aa (wv (r:=Bb [Ak 7,rv (.slice none 0 0)]) (Ee Aa Aa) (wa Aa (AR (i:=0) BF Aa Aa Aa (Bm.c Aa) Aa Aa (cs':=[Ak 7,rv (.slice none 0 0)]) Aa (H':=[.blk b1 [Ak 7,rv (.slice none 0 0)] 31]) Aa (A3 (A8 (An (WK.upBlk (i:=0) (cs':=[Ak 7,AH 4 (Au Ac ([]:List Ab))]) Aa ⟨Up.refl _,Up.le (GZ.nil _),trivial⟩ ?_))))))));obtain rfl:=A9 hj;exact A7 (Lm Ov (AX Aa) (Ci (i:=0) DD BF Aa Aa Aa)) (sS sN) ⟨Aa,Aa⟩
  ·refine AG (Bf (As (wm Aa (wm Aa (wv (Bh (enc:=Ah) (ys:=args) DC DL Aa Aa g6) (wv (Bj EY Aa Aa) (wv (Bh (enc:=Ac) (ys:=Ad args 0) CB Da Aa Aa g8) (wv (AJ BU Aa C9 Aa Aa) (wv (Bj DY Aa Aa) (ob hk λha hl hm=>Dr Tryz.call81 (NF F ((Ad state 0).fInt) ((Ad (Ad args 0) 0).fInt) ha hl) Aa (wm Aa (wv (AU Aa Aa) (wv (AU Aa Aa) (wa Aa (wa Aa (A3 (A1 (As (wm Aa (wv (DP Aa Aa) (A3 (cz hm Aa (λhn ho=>?_) (λhn hp=>?_)))))))))))))))))))))))
   ·refine As (wm Aa (wm Aa (wv (r:=Bb [Ak ha.2,rv (.slice none 0 0)]) (Ee Aa Aa) (wa Aa (AR (i:=0) BF Aa Aa Aa (Bm.c Aa) Aa Aa (cs':=[Ak ha.2,rv (.slice none 0 0)]) Aa (H':=[.blk b1 [Ak ha.2,rv (.slice none 0 0)] 31]) Aa (A3 (A8 (An (WK.upBlk (i:=0) (cs':=[Ak ha.2,AH 4 (Au Ac ([]:List Ab))]) Aa ⟨Up.refl _,Up.le (GZ.nil _),trivial⟩ ?_)))))))));obtain rfl:=A9 ho;exact A7 (Lm Ov (AX Aa) (Ci (i:=0) DD BF Aa Aa Aa)) (sS sN) ⟨Aa,Aa⟩
   ·refine AG (Bf (As (wm Aa (wv (r:=Bb [Ak 3,Ak ha.1,rS ([]:Am),Ak 0]) (Gd Aa Aa Aa Aa) (Bq (ys:=([(Ab.mk 3 ha.1 ([]:Am) 0)]:List Ab)) (enc:=Ac) (css:=[[Ak 3,Ak ha.1,rS ([]:Am),Ak 0]]) (xs:=[.tmp 50]) CB Da Mi Aa Aa Aa ⟨Kt.agg ⟨Up.refl _,Up.refl _,Up.refl _,Up.refl _,trivial⟩,trivial⟩ Aa BR Aa Aa Aa (λhq=>?_))))));refine wa Aa (BH (wm Aa (wm Aa (WL.freeze (i:=0) Aa (WL.up (d:=53) (r:=AH 4 (Au Ac ([(Ab.mk 3 ha.1 ([]:Am) 0)]:List Ab))) Aa (Up.fact (i:=0) Aa) (ob hp λhd hr hs=>Dr JV (C8 ([(Ab.mk 3 ha.1 ([]:Am) 0)]:List Ab) hd hr) Aa (wv (r:=Bb [Ak 0,AH 4 (Au Ac hd)]) (Dv Aa Aa) (wa Aa (AR (i:=1) BF Aa Aa Aa (Bm.c Aa) Aa Aa (cs':=[Ak 0,AH 4 (Au Ac hd)]) Aa (H':=[.fact (.slice (some ⟨hq,0,none⟩) 1 1) (AH 4 (Au Ac ([(Ab.mk 3 ha.1 ([]:Am) 0)]:List Ab))),.blk b1 [Ak 0,AH 4 (Au Ac hd)] 31]) Aa (A3 (A8 (WK.up (d:=4) (r:=AH 4 (Au Ac ([(Ab.mk 3 ha.1 ([]:Am) 0)]:List Ab))) Aa (Up.fact (i:=0) Aa) ?_))))))))))));obtain rfl:=A9 hs;exact A7 (Lm Ov (AX Aa) (Ci (i:=1) DD BF Aa Aa Aa)) (sS (sS sN)) ⟨Aa,Aa⟩
 ·refine As (wv (BW Aa Aa) (wa Aa (A3 (cz hh Aa (λht hu=>?_) (λht hw=>?_)))))
  ·refine AG (Bi (Bf (A1 (As (wm Aa (ck hu λhf hx=>wv (Bh (enc:=Ah) (ys:=args) DC DL Aa Aa hf) (wv (Bj EY Aa Aa) (ck hx λhg hy=>wv (Bh (enc:=Ac) (ys:=Ad args 0) CB Da Aa Aa hg) (wv (AJ BU Aa JU Aa Aa) (wv (Bj JW Aa Aa) (wv (DP Aa Aa) (A3 (cz hy Aa (λhz h0=>?_) (λhz h1=>?_))))))))))))))
   ·refine As (wm Aa (wv (r:=Bb [Ak 7,rv (.slice none 0 0)]) (Ee Aa Aa) (wa Aa (AR (i:=0) BF Aa Aa Aa (Bm.c Aa) Aa Aa (cs':=[Ak 7,rv (.slice none 0 0)]) Aa (H':=[.blk b1 [Ak 7,rv (.slice none 0 0)] 31]) Aa (A3 (A8 (An (WK.upBlk (i:=0) (cs':=[Ak 7,AH 4 (Au Ac ([]:List Ab))]) Aa ⟨Up.refl _,Up.le (GZ.nil _),trivial⟩ ?_))))))));obtain rfl:=A9 h0;exact A7 (Lm Ov (AX Aa) (Ci (i:=0) DD BF Aa Aa Aa)) (sS sN) ⟨Aa,Aa⟩
   ·refine AG (Bf (As (wm Aa (wm Aa (wv (Bh (enc:=Ah) (ys:=args) DC DL Aa Aa hf) (wv (Bj EY Aa Aa) (wv (Bh (enc:=Ac) (ys:=Ad args 0) CB Da Aa Aa hg) (wv (AJ BU Aa C9 Aa Aa) (wv (Bj DY Aa Aa) (ob h1 λhb h2 h4=>Dr Tryz.call81 (NF F 0 ((Ad (Ad args 0) 0).fInt) hb h2) Aa (wm Aa (wv (AU Aa Aa) (wv (AU Aa Aa) (wa Aa (wa Aa (A3 (A1 (As (wm Aa (wv (DP Aa Aa) (A3 (cz h4 Aa (λh6 h8=>?_) (λh6 hA=>?_)))))))))))))))))))))))
    ·refine As (wm Aa (wm Aa (wv (r:=Bb [Ak hb.2,rv (.slice none 0 0)]) (Ee Aa Aa) (wa Aa (AR (i:=0) BF Aa Aa Aa (Bm.c Aa) Aa Aa (cs':=[Ak hb.2,rv (.slice none 0 0)]) Aa (H':=[.blk b1 [Ak hb.2,rv (.slice none 0 0)] 31]) Aa (A3 (A8 (An (WK.upBlk (i:=0) (cs':=[Ak hb.2,AH 4 (Au Ac ([]:List Ab))]) Aa ⟨Up.refl _,Up.le (GZ.nil _),trivial⟩ ?_)))))))));obtain rfl:=A9 h8;exact A7 (Lm Ov (AX Aa) (Ci (i:=0) DD BF Aa Aa Aa)) (sS sN) ⟨Aa,Aa⟩
    ·refine AG (Bf (As (wm Aa (wv (r:=Bb [Ak 3,Ak hb.1,rS ([]:Am),Ak 0]) (Gd Aa Aa Aa Aa) (Bq (ys:=([(Ab.mk 3 hb.1 ([]:Am) 0)]:List Ab)) (enc:=Ac) (css:=[[Ak 3,Ak hb.1,rS ([]:Am),Ak 0]]) (xs:=[.tmp 50]) CB Da Mi Aa Aa Aa ⟨Kt.agg ⟨Up.refl _,Up.refl _,Up.refl _,Up.refl _,trivial⟩,trivial⟩ Aa BR Aa Aa Aa (λhB=>?_))))));refine wa Aa (BH (wm Aa (wm Aa (WL.freeze (i:=0) Aa (WL.up (d:=53) (r:=AH 4 (Au Ac ([(Ab.mk 3 hb.1 ([]:Am) 0)]:List Ab))) Aa (Up.fact (i:=0) Aa) (ob hA λhe hC hD=>Dr JV (C8 ([(Ab.mk 3 hb.1 ([]:Am) 0)]:List Ab) he hC) Aa (wv (r:=Bb [Ak 0,AH 4 (Au Ac he)]) (Dv Aa Aa) (wa Aa (AR (i:=1) BF Aa Aa Aa (Bm.c Aa) Aa Aa (cs':=[Ak 0,AH 4 (Au Ac he)]) Aa (H':=[.fact (.slice (some ⟨hB,0,none⟩) 1 1) (AH 4 (Au Ac ([(Ab.mk 3 hb.1 ([]:Am) 0)]:List Ab))),.blk b1 [Ak 0,AH 4 (Au Ac he)] 31]) Aa (A3 (A8 (WK.up (d:=4) (r:=AH 4 (Au Ac ([(Ab.mk 3 hb.1 ([]:Am) 0)]:List Ab))) Aa (Up.fact (i:=0) Aa) ?_))))))))))));obtain rfl:=A9 hD;exact A7 (Lm Ov (AX Aa) (Ci (i:=1) DD BF Aa Aa Aa)) (sS (sS sN)) ⟨Aa,Aa⟩
  ·refine As (wm Aa (wv (r:=Bb [Ak 7,rv (.slice none 0 0)]) (Ee Aa Aa) (wa Aa (AR (i:=0) BF Aa Aa Aa (Bm.c Aa) Aa Aa (cs':=[Ak 7,rv (.slice none 0 0)]) Aa (H':=[.blk b1 [Ak 7,rv (.slice none 0 0)] 31]) Aa (A3 (A8 (AQ (An (WK.upBlk (i:=0) (cs':=[Ak 7,AH 4 (Au Ac ([]:List Ab))]) Aa ⟨Up.refl _,Up.le (GZ.nil _),trivial⟩ ?_)))))))));obtain rfl:=A9 hw;exact A7 (Lm Ov (AX Aa) (Ci (i:=0) DD BF Aa Aa Aa)) (sS sN) ⟨Aa,Aa⟩
theorem IP  (r:(List (Am×Nat)))(h:R5=some r):Fn Tryz.prog GE 38 [] [] (λR H=>R=Qf (AA mF r)∧H=[]):=by
 refine enter (n:=3) Tryz.func38 Aa Tryz.ntmps38 Aa (λw Z=>?_);unfold R5 at h;refine As (wv (r:=rv (.map none)) (AT Aa) (BH (L7 Aa (λb1=>?_))));refine CJ (enc:=mF) (xs:=([]:List (Am×Nat))) (v:=57) (i:=0) Nb GV Aa Aa Aa Aa (H':=[.map b1 (AA mF (mset ([]:List (Am×Nat)) ([114,101,97,100]:Am) 57))]) Aa (CJ (enc:=mF) (xs:=mset ([]:List (Am×Nat)) ([114,101,97,100]:Am) 57) (v:=58) (i:=0) Nb GV Aa Aa Aa Aa (H':=[.map b1 (AA mF (mset (mset ([]:List (Am×Nat)) ([114,101,97,100]:Am) 57) ([119,114,105,116,101]:Am) 58))]) Aa (CJ (enc:=mF) (xs:=mset (mset ([]:List (Am×Nat)) ([114,101,97,100]:Am) 57) ([119,114,105,116,101]:Am) 58) (v:=59) (i:=0) Nb GV Aa Aa Aa Aa (H':=[.map b1 (AA mF (mset (mset (mset ([]:List (Am×Nat)) ([114,101,97,100]:Am) 57) ([119,114,105,116,101]:Am) 58) ([97,100,100]:Am) 59))]) Aa (CJ (enc:=mF) (xs:=mset (mset (mset ([]:List (Am×Nat)) ([114,101,97,100]:Am) 57) ([119,114,105,116,101]:Am) 58) ([97,100,100]:Am) 59) (v:=60) (i:=0) Nb GV Aa Aa Aa Aa (H':=[.map b1 (AA mF (mset (mset (mset (mset ([]:List (Am×Nat)) ([114,101,97,100]:Am) 57) ([119,114,105,116,101]:Am) 58) ([97,100,100]:Am) 59) ([99,97,115]:Am) 60))]) Aa (wm Aa (wa Aa (A3 (A8 (WK.freezeM (i:=0) Aa (WK.up (d:=0) (r:=Qf (AA mF (mset (mset (mset (mset ([]:List (Am×Nat)) ([114,101,97,100]:Am) 57) ([119,114,105,116,101]:Am) 58) ([97,100,100]:Am) 59) ([99,97,115]:Am) 60))) Aa (Up.fact (i:=0) Aa) ?_)))))))));obtain rfl:=A9 h;exact A7 (Cd Tryz.results38 (AX Aa)) (sS sN) ⟨Aa,Aa⟩
theorem Uo (F:Nat)(state:(List Ab))(op:At)(r:(List Ab)×A0×Int)(h:Uq F state op=some r):Fn Tryz.prog GE 11 [AH 4 (Au Ac state),Bb (Ao op)] [] (λR H=>R=Dc [AH 4 (Au Ac r.1),Bb (A2 r.2.1),Ak r.2.2]∧H=[]):=by
 refine enter (n:=37) Tryz.func11 Aa Tryz.ntmps11 Aa (λw Z=>?_);unfold Uq at h;refine As (B8 Aa Aa (λb1=>?_));refine wa Aa (Ca (cs:=[Ak 0,rv (.slice none 0 0)]) Lq Aa Aa (λb2=>?_));refine wa Aa (A3 (A1 (As (wv (Bl (i:=1) EK Cp Aa Aa Aa Aa) (ob h λr3 e5 h4=>Dr Tryz.call36 (NJ F op r3 e5) Aa (wa Aa (BH (wm Aa (wv (DP Aa Aa) (A3 (cz h4 Aa (λc6 h7=>?_) (λc6 h8=>?_))))))))))))
 ·refine As (wv (r:=Bb [Ak 0,rv (.slice none 0 0)]) (KE ) (wm Aa (wa Aa (AR (i:=0) BF Aa Aa Aa (Bm.c Aa) Aa Aa (cs':=[Ak 0,rv (.slice none 0 0)]) Aa (H':=[.blk b2 [Ak 0,rv (.slice none 0 0)] 31,.blk b1 (Ao op) 25]) Aa (wa Aa (A3 (A8 (An (WK.up (d:=4) (r:=AH 4 (Au Ac ([]:List Ab))) Aa (Up.le (GZ.nil _)) (WK.upBlk (i:=0) (cs':=[Ak 0,AH 4 (Au Ac ([]:List Ab))]) Aa ⟨Up.refl _,Up.le (GZ.nil _),trivial⟩ ?_))))))))));obtain rfl:=A9 h7;exact A7 (QN PQ (AX Aa) (Ci (i:=0) DD BF Aa Aa Aa) (AX Aa)) (sS (sS sN)) ⟨Aa,Aa⟩
 ·refine AG (Bf (A1 (As (wm Aa (ob h8 λr9 hq hr=>Dr Tryz.call37 (No F state r9 hq) Aa (wa Aa (BH (wm Aa (wv (DP Aa Aa) (A3 (cz hr Aa (λhs ht=>?_) (λhs hu=>?_))))))))))))
  ·refine As (wv (r:=Bb [Ak 0,rv (.slice none 0 0)]) (KE ) (wm Aa (wa Aa (AR (i:=0) BF Aa Aa Aa (Bm.c Aa) Aa Aa (cs':=[Ak 0,rv (.slice none 0 0)]) Aa (H':=[.blk b2 [Ak 0,rv (.slice none 0 0)] 31,.blk b1 (Ao op) 25]) Aa (wa Aa (A3 (A8 (An (WK.up (d:=4) (r:=AH 4 (Au Ac ([]:List Ab))) Aa (Up.le (GZ.nil _)) (WK.upBlk (i:=0) (cs':=[Ak 0,AH 4 (Au Ac ([]:List Ab))]) Aa ⟨Up.refl _,Up.le (GZ.nil _),trivial⟩ ?_))))))))));obtain rfl:=A9 ht;exact A7 (QN PQ (AX Aa) (Ci (i:=0) DD BF Aa Aa Aa) (AX Aa)) (sS (sS sN)) ⟨Aa,Aa⟩
  ·refine AG (Bf (A1 (bz hu (λhn hw=>?_) (λhn hx=>?_))))
   ·refine ob hw λhf hy hz=>ob hz λha h0 h1=>C1 14 [0,3,5] [⟨[],Qf (AA mF (mset (mset (mset (mset ([]:List (Am×Nat)) ([114,101,97,100]:Am) 57) ([119,114,105,116,101]:Am) 58) ([97,100,100]:Am) 59) ([99,97,115]:Am) 60)),none,none,none⟩,⟨[],rP b1 2,none,none,none⟩,⟨[1],rS op.fOp,none,none,none⟩,⟨[0,2],rv (.func (.func 57) #[] #[]),none,none,none⟩,⟨[],AH 4 (Au Ac state),none,none,none⟩,⟨[4],AH 4 (Au Ac hf),none,none,none⟩,⟨[],rP b1 3,none,none,none⟩,⟨[6],AH 1 (Au Ah op.fArgs),none,none,none⟩,⟨[3,5,7],Dc [AH 4 (Au Ac ha.1),Bb (A2 ha.2)],none,none,none⟩,⟨[8],Dc [AH 4 (Au Ac ha.1),Bb (A2 ha.2)],none,none,none⟩,⟨[9],AH 4 (Au Ac ha.1),none,none,none⟩,⟨[9],Bb (A2 ha.2),none,none,none⟩,⟨[],rv undef,some ([Ak 0,rv (.slice none 0 0)],31),none,none⟩,⟨[10],AH 4 (Au Ac ha.1),none,none,none⟩] ?_ (λβ=>?_)
    ·refine OB (D8 Tryz.call38 (IP (mset (mset (mset (mset ([]:List (Am×Nat)) ([114,101,97,100]:Am) 57) ([119,114,105,116,101]:Am) 58) ([97,100,100]:Am) 59) ([99,97,115]:Am) 60) rfl) rfl) (C3 (AS BX rfl DX rfl rfl) (JZ (B6 (i:=1) Er rfl rfl rfl) (C3 (G6 (enc:=mF) (xs:=(mset (mset (mset (mset ([]:List (Am×Nat)) ([114,101,97,100]:Am) 57) ([119,114,105,116,101]:Am) 58) ([97,100,100]:Am) 59) ([99,97,115]:Am) 60)) (q:=57) Nb GV rfl rfl (by rw[VE hn];rfl)) (C3 (Ap rfl) (OB (D8 JV (C8 state hf hy) rfl) (C3 (AS BX rfl EJ rfl rfl) (JZ (B6 (i:=1) GT rfl rfl rfl) (OB (MA Tryz.call57 (NG hf op.fArgs ha h0) rfl rfl) (C3 (Ap rfl) (C3 (AU rfl rfl) (C3 (AU rfl rfl) (Un (Om (cs:=[Ak 0,rv (.slice none 0 0)]) Lq rfl) (C3 (AT rfl) ?_)))))))))))));exact OA
    refine Dj (H1:=[.blk b2 [Ak 0,rv (.slice none 0 0)] 31,.blk b1 (Ao op) 25,.blk (β 12) [Ak 0,rv (.slice none 0 0)] 31]) [24,25,26,27,28,29,30,31,32,23,33,34,10,9,0,3,5] ?_;generalize β 12=hg;refine AR (i:=2) BF Aa Aa Aa (Bm.c Aa) Aa Aa (cs':=[Ak ha.2.fErr,AH 4 (Au Ac ha.2.fValue)]) Aa (H':=[.blk b2 [Ak 0,rv (.slice none 0 0)] 31,.blk b1 (Ao op) 25,.blk hg (A2 ha.2) 31]) Aa (A3 (A1 (C1 3 [5,9,10] [⟨[],AH 4 (Au Ac ha.1),none,none,none⟩,⟨[],Bb (A2 ha.2),none,none,none⟩,⟨[0],AH 4 (Au Ac ha.1),none,none,none⟩] ?_ (λβ=>?_))))
    ·refine C3 (Ap Aa) (JZ (Bl (i:=2) DD BF Aa Aa Aa Aa) (C3 (AT Aa) ?_));exact OA
    refine Dj (H1:=[.blk b2 [Ak 0,rv (.slice none 0 0)] 31,.blk b1 (Ao op) 25,.blk hg (A2 ha.2) 31]) [35,36,4,5,9,10] ?_;refine AR (i:=0) BF Aa Aa Aa (Bm.c Aa) Aa Aa (cs':=[Ak ha.2.fErr,AH 4 (Au Ac ha.2.fValue)]) Aa (H':=[.blk b2 (A2 ha.2) 31,.blk b1 (Ao op) 25,.blk hg (A2 ha.2) 31]) Aa (wa Aa (A3 (A8 ?_)));obtain rfl:=A9 h1;exact A7 (QN PQ (AX Aa) (Ci (i:=0) DD BF Aa Aa Aa) (AX Aa)) (sS (sS (sS sN))) ⟨Aa,Aa⟩
   ·refine bz hx (λho h2=>?_) (λho h3=>?_)
    ·refine ob h2 λhh h5 h6=>ob h6 λhb h9 hA=>C1 14 [0,3,5] [⟨[],Qf (AA mF (mset (mset (mset (mset ([]:List (Am×Nat)) ([114,101,97,100]:Am) 57) ([119,114,105,116,101]:Am) 58) ([97,100,100]:Am) 59) ([99,97,115]:Am) 60)),none,none,none⟩,⟨[],rP b1 2,none,none,none⟩,⟨[1],rS op.fOp,none,none,none⟩,⟨[0,2],rv (.func (.func 58) #[] #[]),none,none,none⟩,⟨[],AH 4 (Au Ac state),none,none,none⟩,⟨[4],AH 4 (Au Ac hh),none,none,none⟩,⟨[],rP b1 3,none,none,none⟩,⟨[6],AH 1 (Au Ah op.fArgs),none,none,none⟩,⟨[3,5,7],Dc [AH 4 (Au Ac hb.1),Bb (A2 hb.2)],none,none,none⟩,⟨[8],Dc [AH 4 (Au Ac hb.1),Bb (A2 hb.2)],none,none,none⟩,⟨[9],AH 4 (Au Ac hb.1),none,none,none⟩,⟨[9],Bb (A2 hb.2),none,none,none⟩,⟨[],rv undef,some ([Ak 0,rv (.slice none 0 0)],31),none,none⟩,⟨[10],AH 4 (Au Ac hb.1),none,none,none⟩] ?_ (λβ=>?_)
     ·refine OB (D8 Tryz.call38 (IP (mset (mset (mset (mset ([]:List (Am×Nat)) ([114,101,97,100]:Am) 57) ([119,114,105,116,101]:Am) 58) ([97,100,100]:Am) 59) ([99,97,115]:Am) 60) rfl) rfl) (C3 (AS BX rfl DX rfl rfl) (JZ (B6 (i:=1) Er rfl rfl rfl) (C3 (G6 (enc:=mF) (xs:=(mset (mset (mset (mset ([]:List (Am×Nat)) ([114,101,97,100]:Am) 57) ([119,114,105,116,101]:Am) 58) ([97,100,100]:Am) 59) ([99,97,115]:Am) 60)) (q:=58) Nb GV rfl rfl (by rw[VE ho];rfl)) (C3 (Ap rfl) (OB (D8 JV (C8 state hh h5) rfl) (C3 (AS BX rfl EJ rfl rfl) (JZ (B6 (i:=1) GT rfl rfl rfl) (OB (MA Tryz.call58 (MD hh op.fArgs hb h9) rfl rfl) (C3 (Ap rfl) (C3 (AU rfl rfl) (C3 (AU rfl rfl) (Un (Om (cs:=[Ak 0,rv (.slice none 0 0)]) Lq rfl) (C3 (AT rfl) ?_)))))))))))));exact OA
     refine Dj (H1:=[.blk b2 [Ak 0,rv (.slice none 0 0)] 31,.blk b1 (Ao op) 25,.blk (β 12) [Ak 0,rv (.slice none 0 0)] 31]) [24,25,26,27,28,29,30,31,32,23,33,34,10,9,0,3,5] ?_;generalize β 12=hi;refine AR (i:=2) BF Aa Aa Aa (Bm.c Aa) Aa Aa (cs':=[Ak hb.2.fErr,AH 4 (Au Ac hb.2.fValue)]) Aa (H':=[.blk b2 [Ak 0,rv (.slice none 0 0)] 31,.blk b1 (Ao op) 25,.blk hi (A2 hb.2) 31]) Aa (A3 (A1 (C1 3 [5,9,10] [⟨[],AH 4 (Au Ac hb.1),none,none,none⟩,⟨[],Bb (A2 hb.2),none,none,none⟩,⟨[0],AH 4 (Au Ac hb.1),none,none,none⟩] ?_ (λβ=>?_))))
     ·refine C3 (Ap Aa) (JZ (Bl (i:=2) DD BF Aa Aa Aa Aa) (C3 (AT Aa) ?_));exact OA
     refine Dj (H1:=[.blk b2 [Ak 0,rv (.slice none 0 0)] 31,.blk b1 (Ao op) 25,.blk hi (A2 hb.2) 31]) [35,36,4,5,9,10] ?_;refine AR (i:=0) BF Aa Aa Aa (Bm.c Aa) Aa Aa (cs':=[Ak hb.2.fErr,AH 4 (Au Ac hb.2.fValue)]) Aa (H':=[.blk b2 (A2 hb.2) 31,.blk b1 (Ao op) 25,.blk hi (A2 hb.2) 31]) Aa (wa Aa (A3 (A8 ?_)));obtain rfl:=A9 hA;exact A7 (QN PQ (AX Aa) (Ci (i:=0) DD BF Aa Aa Aa) (AX Aa)) (sS (sS (sS sN))) ⟨Aa,Aa⟩
    ·refine bz h3 (λhp hB=>?_) (λhp hC=>?_)
     ·refine ob hB λhj hD hE=>ob hE λhd hG hH=>C1 14 [0,3,5] [⟨[],Qf (AA mF (mset (mset (mset (mset ([]:List (Am×Nat)) ([114,101,97,100]:Am) 57) ([119,114,105,116,101]:Am) 58) ([97,100,100]:Am) 59) ([99,97,115]:Am) 60)),none,none,none⟩,⟨[],rP b1 2,none,none,none⟩,⟨[1],rS op.fOp,none,none,none⟩,⟨[0,2],rv (.func (.func 59) #[] #[]),none,none,none⟩,⟨[],AH 4 (Au Ac state),none,none,none⟩,⟨[4],AH 4 (Au Ac hj),none,none,none⟩,⟨[],rP b1 3,none,none,none⟩,⟨[6],AH 1 (Au Ah op.fArgs),none,none,none⟩,⟨[3,5,7],Dc [AH 4 (Au Ac hd.1),Bb (A2 hd.2)],none,none,none⟩,⟨[8],Dc [AH 4 (Au Ac hd.1),Bb (A2 hd.2)],none,none,none⟩,⟨[9],AH 4 (Au Ac hd.1),none,none,none⟩,⟨[9],Bb (A2 hd.2),none,none,none⟩,⟨[],rv undef,some ([Ak 0,rv (.slice none 0 0)],31),none,none⟩,⟨[10],AH 4 (Au Ac hd.1),none,none,none⟩] ?_ (λβ=>?_)
      ·refine OB (D8 Tryz.call38 (IP (mset (mset (mset (mset ([]:List (Am×Nat)) ([114,101,97,100]:Am) 57) ([119,114,105,116,101]:Am) 58) ([97,100,100]:Am) 59) ([99,97,115]:Am) 60) rfl) rfl) (C3 (AS BX rfl DX rfl rfl) (JZ (B6 (i:=1) Er rfl rfl rfl) (C3 (G6 (enc:=mF) (xs:=(mset (mset (mset (mset ([]:List (Am×Nat)) ([114,101,97,100]:Am) 57) ([119,114,105,116,101]:Am) 58) ([97,100,100]:Am) 59) ([99,97,115]:Am) 60)) (q:=59) Nb GV rfl rfl (by rw[VE hp];rfl)) (C3 (Ap rfl) (OB (D8 JV (C8 state hj hD) rfl) (C3 (AS BX rfl EJ rfl rfl) (JZ (B6 (i:=1) GT rfl rfl rfl) (OB (MA Tryz.call59 (RA F hj op.fArgs hd hG) rfl rfl) (C3 (Ap rfl) (C3 (AU rfl rfl) (C3 (AU rfl rfl) (Un (Om (cs:=[Ak 0,rv (.slice none 0 0)]) Lq rfl) (C3 (AT rfl) ?_)))))))))))));exact OA
      refine Dj (H1:=[.blk b2 [Ak 0,rv (.slice none 0 0)] 31,.blk b1 (Ao op) 25,.blk (β 12) [Ak 0,rv (.slice none 0 0)] 31]) [24,25,26,27,28,29,30,31,32,23,33,34,10,9,0,3,5] ?_;generalize β 12=hk;refine AR (i:=2) BF Aa Aa Aa (Bm.c Aa) Aa Aa (cs':=[Ak hd.2.fErr,AH 4 (Au Ac hd.2.fValue)]) Aa (H':=[.blk b2 [Ak 0,rv (.slice none 0 0)] 31,.blk b1 (Ao op) 25,.blk hk (A2 hd.2) 31]) Aa (A3 (A1 (C1 3 [5,9,10] [⟨[],AH 4 (Au Ac hd.1),none,none,none⟩,⟨[],Bb (A2 hd.2),none,none,none⟩,⟨[0],AH 4 (Au Ac hd.1),none,none,none⟩] ?_ (λβ=>?_))))
      ·refine C3 (Ap Aa) (JZ (Bl (i:=2) DD BF Aa Aa Aa Aa) (C3 (AT Aa) ?_));exact OA
      refine Dj (H1:=[.blk b2 [Ak 0,rv (.slice none 0 0)] 31,.blk b1 (Ao op) 25,.blk hk (A2 hd.2) 31]) [35,36,4,5,9,10] ?_;refine AR (i:=0) BF Aa Aa Aa (Bm.c Aa) Aa Aa (cs':=[Ak hd.2.fErr,AH 4 (Au Ac hd.2.fValue)]) Aa (H':=[.blk b2 (A2 hd.2) 31,.blk b1 (Ao op) 25,.blk hk (A2 hd.2) 31]) Aa (wa Aa (A3 (A8 ?_)));obtain rfl:=A9 hH;exact A7 (QN PQ (AX Aa) (Ci (i:=0) DD BF Aa Aa Aa) (AX Aa)) (sS (sS (sS sN))) ⟨Aa,Aa⟩
     ·refine ck hC λhI hJ=>ob hJ λhl hK hL=>ob hL λhe hN hO=>C1 14 [0,3,5] [⟨[],Qf (AA mF (mset (mset (mset (mset ([]:List (Am×Nat)) ([114,101,97,100]:Am) 57) ([119,114,105,116,101]:Am) 58) ([97,100,100]:Am) 59) ([99,97,115]:Am) 60)),none,none,none⟩,⟨[],rP b1 2,none,none,none⟩,⟨[1],rS op.fOp,none,none,none⟩,⟨[0,2],rv (.func (.func 60) #[] #[]),none,none,none⟩,⟨[],AH 4 (Au Ac state),none,none,none⟩,⟨[4],AH 4 (Au Ac hl),none,none,none⟩,⟨[],rP b1 3,none,none,none⟩,⟨[6],AH 1 (Au Ah op.fArgs),none,none,none⟩,⟨[3,5,7],Dc [AH 4 (Au Ac he.1),Bb (A2 he.2)],none,none,none⟩,⟨[8],Dc [AH 4 (Au Ac he.1),Bb (A2 he.2)],none,none,none⟩,⟨[9],AH 4 (Au Ac he.1),none,none,none⟩,⟨[9],Bb (A2 he.2),none,none,none⟩,⟨[],rv undef,some ([Ak 0,rv (.slice none 0 0)],31),none,none⟩,⟨[10],AH 4 (Au Ac he.1),none,none,none⟩] ?_ (λβ=>?_)
      ·refine OB (D8 Tryz.call38 (IP (mset (mset (mset (mset ([]:List (Am×Nat)) ([114,101,97,100]:Am) 57) ([119,114,105,116,101]:Am) 58) ([97,100,100]:Am) 59) ([99,97,115]:Am) 60) rfl) rfl) (C3 (AS BX rfl DX rfl rfl) (JZ (B6 (i:=1) Er rfl rfl rfl) (C3 (G6 (enc:=mF) (xs:=(mset (mset (mset (mset ([]:List (Am×Nat)) ([114,101,97,100]:Am) 57) ([119,114,105,116,101]:Am) 58) ([97,100,100]:Am) 59) ([99,97,115]:Am) 60)) (q:=60) Nb GV rfl rfl (by rw[VE hI];rfl)) (C3 (Ap rfl) (OB (D8 JV (C8 state hl hK) rfl) (C3 (AS BX rfl EJ rfl rfl) (JZ (B6 (i:=1) GT rfl rfl rfl) (OB (MA Tryz.call60 (OG F hl op.fArgs he hN) rfl rfl) (C3 (Ap rfl) (C3 (AU rfl rfl) (C3 (AU rfl rfl) (Un (Om (cs:=[Ak 0,rv (.slice none 0 0)]) Lq rfl) (C3 (AT rfl) ?_)))))))))))));exact OA
      refine Dj (H1:=[.blk b2 [Ak 0,rv (.slice none 0 0)] 31,.blk b1 (Ao op) 25,.blk (β 12) [Ak 0,rv (.slice none 0 0)] 31]) [24,25,26,27,28,29,30,31,32,23,33,34,10,9,0,3,5] ?_;generalize β 12=hm;refine AR (i:=2) BF Aa Aa Aa (Bm.c Aa) Aa Aa (cs':=[Ak he.2.fErr,AH 4 (Au Ac he.2.fValue)]) Aa (H':=[.blk b2 [Ak 0,rv (.slice none 0 0)] 31,.blk b1 (Ao op) 25,.blk hm (A2 he.2) 31]) Aa (A3 (A1 (C1 3 [5,9,10] [⟨[],AH 4 (Au Ac he.1),none,none,none⟩,⟨[],Bb (A2 he.2),none,none,none⟩,⟨[0],AH 4 (Au Ac he.1),none,none,none⟩] ?_ (λβ=>?_))))
      ·refine C3 (Ap Aa) (JZ (Bl (i:=2) DD BF Aa Aa Aa Aa) (C3 (AT Aa) ?_));exact OA
      refine Dj (H1:=[.blk b2 [Ak 0,rv (.slice none 0 0)] 31,.blk b1 (Ao op) 25,.blk hm (A2 he.2) 31]) [35,36,4,5,9,10] ?_;refine AR (i:=0) BF Aa Aa Aa (Bm.c Aa) Aa Aa (cs':=[Ak he.2.fErr,AH 4 (Au Ac he.2.fValue)]) Aa (H':=[.blk b2 (A2 he.2) 31,.blk b1 (Ao op) 25,.blk hm (A2 he.2) 31]) Aa (wa Aa (A3 (A8 ?_)));obtain rfl:=A9 hO;exact A7 (QN PQ (AX Aa) (Ci (i:=0) DD BF Aa Aa Aa) (AX Aa)) (sS (sS (sS sN))) ⟨Aa,Aa⟩
theorem KG (F:Nat)(op:At)(r:At)(h:Im F op=some r):Fn Tryz.prog GE 48 [Bb (Ao op)] [] (λR H=>R=Bb (Ao r)∧H=[]):=by
 refine enter (n:=24) Tryz.func48 Aa Tryz.ntmps48 Aa (λw Z=>?_);unfold Im at h;refine As (B8 Aa Aa (λb1=>?_));refine Ca (cs:=[rS ([]:Am),rS ([]:Am),rS ([]:Am),rv (.slice none 0 0)]) Tryz.zeroValue25 Aa Aa (λb2=>?_);refine BH (vF BX Aa EJ (vL 1 GT Aa (wa Aa (BH (vF BX Aa EJ (BQ (i:=1) EJ Aa Aa (Cc Aa) Aa Aa (cs':=[rS op.fEntity,rS op.fID,rS op.fOp,rv (.slice none 0 0)]) Aa (H':=[.blk b2 [rS ([]:Am),rS ([]:Am),rS ([]:Am),rv (.slice none 0 0)] 25,.blk b1 [rS op.fEntity,rS op.fID,rS op.fOp,rv (.slice none 0 0)] 25]) Aa (A3 (A1 (As (wm Aa (wv (Bk (ys:=op.fArgs) (enc:=Ah) DC Aa) (wv (r:=Ak 0) (Ap Aa) (A3 (Ba (WC.nilrow (e:=22) (sz:=1) (Ke (H2:=[.blk b2 [rS ([]:Am),rS ([]:Am),rS ([]:Am),rv (.slice none 0 0)] 25,.blk b1 [rS op.fEntity,rS op.fID,rS op.fOp,rv (.slice none 0 0)] 25,.row (.slice none 0 0                      ) 22 1 (Au Ah ([]:List (List Ab)))]) ((Al (i:=1) Aa).trans (Vd _ ((Al (i:=1) Aa).trans (Vd _ (Vh _))))) (ob h λhj hk hl=>BN (S:=Nat×(Int×(List (List Ab)))×(Value)) (V:=((List (List Ab)))×(Value)) 0 (λσ=>BI (λσ=>Dy op σ.1 σ.2) σ.1 σ.2.1=some hj) (λσ=>[(1,rP b1 0),(2,rP b2 0),(9,AH 1 (Au Ah op.fArgs)),(10,Ak (op.fArgs.length:Int)),(11,Ak σ.2.1.1)]) (λσ=>[.blk b2 [rS ([]:Am),rS ([]:Am),rS ([]:Am),rv (.slice none 0 0)] 25,.blk b1 [rS op.fEntity,rS op.fID,rS op.fOp,rv σ.2.2] 25,.row σ.2.2 22 1 (Au Ah σ.2.1.2)]) (λσ=>σ.1) (F,(0,([]:List (List Ab))),(.slice none 0 0                      )) hk (AZ.c5 Aa Aa Aa Aa Aa AZ.nil) (sC (sC (sC sN))) (λσ=>HE op σ.1=some r) (λσ=>[(1,rP b1 0),(2,rP b2 0)]) (λσ=>[.blk b2 [rS ([]:Am),rS ([]:Am),rS ([]:Am),rv (.slice none 0 0)] 25,.blk b1 [rS op.fEntity,rS op.fID,rS op.fOp,rv σ.2] 25,.row σ.2 22 1 (Au Ah σ.1)]) ?_ ?_)))))))))))))))))
 ·rintro⟨h2,⟨he,hb⟩,v32⟩ hm;refine C7 (l':=[(1,rP b1 0),(2,rP b2 0),(9,AH 1 (Au Ah op.fArgs)),(10,Ak (op.fArgs.length:Int)),(11,Ak he)]) (H':=[.blk b2 [rS ([]:Am),rS ([]:Am),rS ([]:Am),rv (.slice none 0 0)] 25,.blk b1 [rS op.fEntity,rS op.fID,rS op.fOp,rv v32] 25,.row v32 22 1 (Au Ah hb)]) Aa Aa ?_;obtain⟨hn,rfl,t51,hf,hi⟩:=DI hm;replace hf:Dy op he hb=some t51:=hf;unfold Dy at hf;refine As (wv (EN Aa Aa) (A3 (A1 (cz hf Aa (λho hp=>?_) (λho hq=>?_)))))
  ·refine AG (Bf (A1 (Ba (As (ck hp λhr hs=>wv (Bh (enc:=Ah) (ys:=op.fArgs) DC DL Aa Aa hr) (wv (Bj EY Aa Aa) (wa Aa (A3 (ob hs λha ht hu=>C1 5 [1,2,5,9,10,11] [⟨[],rP b1 3,none,none,none⟩,⟨[0],rv v32,none,none,none⟩,⟨[],AH 4 (Au Ac (Ad op.fArgs he)),none,none,none⟩,⟨[2],AH 4 (Au Ac ha),none,none,none⟩,⟨[3],AH 1 (Au Ah ([ha]:List (List Ab))),none,none,none⟩] ?_ (λβ=>?_))))))))))
   ·refine C3 (AS BX Aa EJ Aa Aa) (JZ (B6 (i:=1) GT Aa Aa Aa) (C3 (Ap Aa) (OB (D8 JV (C8 (Ad op.fArgs he) ha ht) Aa) (OB (Lw (ys:=([ha]:List (List Ab))) (enc:=Ah) (css:=[[AH 4 (Au Ac ha)]]) (xs:=[.tmp 18]) DC DL Tryz.zeroValue22 Aa Aa Aa ⟨Kt.one Aa (Up.refl _),trivial⟩ Aa Dh Aa Aa) ?_))));exact OA
   refine Dj (H1:=[.blk b2 [rS ([]:Am),rS ([]:Am),rS ([]:Am),rv (.slice none 0 0)] 25,.blk b1 [rS op.fEntity,rS op.fID,rS op.fOp,rv v32] 25,.row v32 22 1 (Au Ah hb)]) [15,16,17,18,19,1,2,5,9,10,11] ?_;refine ck hu λhw hx=>Exists.elim TU λinf hinf=>DZ (xs:=hb) (ys:=([ha]:List (List Ab))) (enc:=Ah) (i:=2) DC hinf.1 hinf.2.1 hinf.2.2.1 hinf.2.2.2 Aa Aa Aa Aa Aa (PL.z Aa Aa) Dh Kb hw Aa (λv64=>?_);refine vF BX Aa EJ (BQ (i:=2) EJ Aa Aa (IK (i:=0) Aa) Aa Aa (cs':=[rS op.fEntity,rS op.fID,rS op.fOp,rv v64]) Aa (H':=[.row v64 22 1 (Au Ah (hb++([ha]:List (List Ab)))),.blk b2 [rS ([]:Am),rS ([]:Am),rS ([]:Am),rv (.slice none 0 0)] 25,.blk b1 [rS op.fEntity,rS op.fID,rS op.fOp,rv v64] 25]) Aa (A5 (Bi (Bf (AD (ck hx λhy hz=>wv (Cy Aa Aa hy) (wm Aa (A5 (CD (H2:=[.blk b2 [rS ([]:Am),rS ([]:Am),rS ([]:Am),rv (.slice none 0 0)] 25,.blk b1 [rS op.fEntity,rS op.fID,rS op.fOp,rv v64] 25,.row v64 22 1 (Au Ah (hb++([ha]:List (List Ab))))]) ((Al (i:=1) Aa).trans (Vd _ ((Al (i:=1) Aa).trans (Vd _ (Vh _))))) ?_)))))))));have h0:=BO hz hi;exact AL (AW (hn,(he+1,hb++([ha]:List (List Ab))),v64) ⟨h0,Vy _⟩ (AZ.c5 Aa Aa Aa Aa Aa AZ.nil) (sC (sC (sC sN))))
  ·refine BM (AI ?_);have h1:=CC hq hi hl;exact AI (B1 (AW (hb,v32) h1 (AZ.c Aa (AZ.c Aa AZ.nil)) (sC (sC (sC sN)))))
 ·rintro⟨hg,hd⟩ hh;refine DE (l':=[(1,rP b1 0),(2,rP b2 0)]) (H':=[.blk b2 [rS ([]:Am),rS ([]:Am),rS ([]:Am),rv (.slice none 0 0)] 25,.blk b1 [rS op.fEntity,rS op.fID,rS op.fOp,rv hd] 25,.row hd 22 1 (Au Ah hg)]) Aa Aa ?_;replace hh:HE op hg=some r:=hh;unfold HE at hh;refine Bw (Bf (As (wv (Bl (i:=1) EK Cp Aa Aa Aa Aa) (AR (i:=0) Cp Aa Aa Aa ⟨(Cc Aa),(Cc Aa),(Cc Aa),(IK (i:=2) Aa),trivial⟩ Aa Aa (cs':=[rS op.fEntity,rS op.fID,rS op.fOp,rv hd]) Aa (H':=[.blk b2 [rS op.fEntity,rS op.fID,rS op.fOp,rv hd] 25,.blk b1 [rS op.fEntity,rS op.fID,rS op.fOp,rv hd] 25,.row hd 22 1 (Au Ah hg)]) Aa (A3 (A8 (WK.freeze (i:=2) Aa (WK.upBlk (i:=1) (cs':=[rS op.fEntity,rS op.fID,rS op.fOp,AH 1 (Au Ah hg)]) Aa ⟨Up.refl _,Up.refl _,Up.refl _,Up.fact (i:=0) Aa,trivial⟩ ?_))))))));obtain rfl:=A9 hh;exact A7 (Cd Tryz.results48 (Ci (i:=1) EK Cp Aa Aa Aa)) (sS (sS (sS sN))) ⟨Aa,Aa⟩
theorem LP (F:Nat)(c:Aj)(r:Aj)(h:Eo F c=some r):Fn Tryz.prog GE 45 [Bb (Ae c)] [] (λR H=>R=Bb (Ae r)∧H=[]):=by
 refine enter (n:=14) Tryz.func45 Aa Tryz.ntmps45 Aa (λw Z=>?_);unfold Eo at h;refine As (B8 Aa Aa (λb1=>?_));refine Ca (cs:=[rS ([]:Am),rS ([]:Am),rS ([]:Am),rv (.slice none 0 0),Ak 0,rv (.slice none 0 0),Ak 0,Ak 0]) Or Aa Aa (λb2=>?_);refine BH (vF CX Aa Cp (wv (Bl (i:=1) EK Cp Aa Aa Aa Aa) (ob h λr3 e5 h4=>Dr Tryz.call48 (KG F c.fOp r3 e5) Aa (vF CX Aa Cp (AR (i:=1) Cp Aa Aa Aa (Bm.c Aa) Aa Aa (cs':=[rS r3.fEntity,rS r3.fID,rS r3.fOp,AH 1 (Au Ah r3.fArgs),Ak c.fAnswer.fErr,AH 4 (Au Ac c.fAnswer.fValue),Ak c.fFrom,Ak c.fTo]) Aa (H':=[.blk b2 [rS ([]:Am),rS ([]:Am),rS ([]:Am),rv (.slice none 0 0),Ak 0,rv (.slice none 0 0),Ak 0,Ak 0] 44,.blk b1 [rS r3.fEntity,rS r3.fID,rS r3.fOp,AH 1 (Au Ah r3.fArgs),Ak c.fAnswer.fErr,AH 4 (Au Ac c.fAnswer.fValue),Ak c.fFrom,Ak c.fTo] 44]) Aa (BH (vF CX Aa BF (vF Nc Aa DL (vL 1 EY Aa (ob h4 λr6 e8 h7=>Dr JV (C8 c.fAnswer.fValue r6 e8) Aa (vF CX Aa BF (vF Nc Aa DL (BQ (i:=1) DL Aa Aa (Cc Aa) Aa Aa (cs':=[rS r3.fEntity,rS r3.fID,rS r3.fOp,AH 1 (Au Ah r3.fArgs),Ak c.fAnswer.fErr,AH 4 (Au Ac r6),Ak c.fFrom,Ak c.fTo]) Aa (H':=[.blk b2 [rS ([]:Am),rS ([]:Am),rS ([]:Am),rv (.slice none 0 0),Ak 0,rv (.slice none 0 0),Ak 0,Ak 0] 44,.blk b1 [rS r3.fEntity,rS r3.fID,rS r3.fOp,AH 1 (Au Ah r3.fArgs),Ak c.fAnswer.fErr,AH 4 (Au Ac r6),Ak c.fFrom,Ak c.fTo] 44]) Aa (BH (wv (Bl (i:=1) Ls Cr Aa Aa Aa Aa) (AR (i:=0) Cr Aa Aa Aa (Bm.c Aa) Aa Aa (cs':=[rS r3.fEntity,rS r3.fID,rS r3.fOp,AH 1 (Au Ah r3.fArgs),Ak c.fAnswer.fErr,AH 4 (Au Ac r6),Ak c.fFrom,Ak c.fTo]) Aa (H':=[.blk b2 [rS r3.fEntity,rS r3.fID,rS r3.fOp,AH 1 (Au Ah r3.fArgs),Ak c.fAnswer.fErr,AH 4 (Au Ac r6),Ak c.fFrom,Ak c.fTo] 44,.blk b1 [rS r3.fEntity,rS r3.fID,rS r3.fOp,AH 1 (Au Ah r3.fArgs),Ak c.fAnswer.fErr,AH 4 (Au Ac r6),Ak c.fFrom,Ak c.fTo] 44]) Aa (A3 (A8 ?_))))))))))))))))));obtain rfl:=A9 h7;exact A7 (Cd Tryz.results45 (Ci (i:=0) Ls Cr Aa Aa Aa)) (sS (sS sN)) ⟨Aa,Aa⟩
theorem R6 (F:Nat)(x:(List Ab))(y:(List Ab))(r:Bool)(h:ME F x y=some r):Fn Tryz.prog GE 70 [AH 4 (Au Ac x),AH 4 (Au Ac y)] [] (λR H=>R=rB r∧H=[]):=by
 refine enter (n:=8) Tryz.func70 Aa Tryz.ntmps70 Aa (λw Z=>?_);unfold ME at h;refine As (wa Aa (BH (wm Aa (wm Aa (ob h λr1 e3 h2=>Dr Tryz.call71 (LE F x y r1 e3) Aa (wa Aa (A3 (A8 ?_))))))));obtain rfl:=A9 h2;exact A7 (Cd Tryz.results70 (AX Aa)) sN ⟨Aa,Aa⟩
theorem Sj (F:Nat)(a:(List (List Ab)))(b:(List (List Ab)))(r:Bool)(h:Hv F a b=some r):Fn Tryz.prog GE 69 [AH 1 (Au Ah a),AH 1 (Au Ah b),rv (.func (.func 70) #[] #[])] [] (λR H=>R=rB r∧H=[]):=by
 refine enter (n:=32) Tryz.func69 Aa Tryz.ntmps69 Aa (λw Z=>?_);unfold Hv at h;refine As (wa Aa (A3 (A1 (As (wm Aa (wv (Bk (ys:=a) (enc:=Ah) DC Aa) (wm Aa (wv (Bk (ys:=b) (enc:=Ah) DC Aa) (wv (DP Aa Aa) (A3 (cz h Aa (λc1 h2=>?_) (λc1 h3=>?_))))))))))))
 ·refine As (wa Aa (A3 (A8 (An ?_))));obtain rfl:=A9 h2;exact A7 (Cd Tryz.results69 (AX Aa)) sN ⟨Aa,Aa⟩
 ·refine AG (Bf (A1 (As (wm Aa (wv (Bk (ys:=a) (enc:=Ah) DC Aa) (wv (r:=Ak 0) (Ap Aa) (A3 (Ba (ob h3 λhg hh hf=>BN (S:=Nat×(Int)×(Unit)) (V:=(Unit)×(Unit)) 0 (λσ=>BI (λσ=>E3 F a b σ) σ.1 σ.2.1=some hg) (λσ=>[(1,AH 1 (Au Ah b)),(2,rv (.func (.func 70) #[] #[])),(15,AH 1 (Au Ah a)),(16,Ak (a.length:Int)),(17,Ak σ.2.1)]) (λσ=>[]) (λσ=>σ.1) (F,0,()) hh (AZ.c5 Aa Aa Aa Aa Aa AZ.nil) sN (λσ=>HO =some r) (λσ=>[]) (λσ=>[]) ?_ ?_)))))))))
  ·rintro⟨h6,ha,⟨⟩⟩ hi;refine C7 (l':=[(1,AH 1 (Au Ah b)),(2,rv (.func (.func 70) #[] #[])),(15,AH 1 (Au Ah a)),(16,Ak (a.length:Int)),(17,Ak ha)]) (H':=[]) Aa Aa ?_;obtain⟨hj,rfl,hk,hb,he⟩:=DI hi;replace hb:E3 F a b ha=some hk:=hb;unfold E3 at hb;refine As (wv (EN Aa Aa) (A3 (A1 (cz hb Aa (λhl hm=>?_) (λhl hn=>?_)))))
   ·refine AG (Bf (A1 (Ba (As (wm Aa (ck hm λho hp=>wv (Bh (enc:=Ah) (ys:=a) DC DL Aa Aa ho) (wv (Bj EY Aa Aa) (wa Aa (wa Aa (BH (wm Aa (wm Aa (ck hp λhq hr=>wv (Bh (enc:=Ah) (ys:=b) DC DL Aa Aa hq) (wv (Bj EY Aa Aa) (wa Aa (BH (wm Aa (wm Aa (wm Aa (ob hr λhs ht hu=>SB (rs:=[AH 4 (Au Ac (Ad a ha)),AH 4 (Au Ac (Ad b ha))]) (Hin:=[]) (Hr:=[]) Tryz.call70 Aa Aa (Vh _) (R6 F (Ad a ha) (Ad b ha) hs ht) Aa ?_))))))))))))))))))));rintro _ _ ⟨rfl,rfl⟩;refine wv (BS Aa) (A3 (cz hu Aa (λhw hx=>?_) (λhw hy=>?_)))
    ·refine As (wa Aa (A3 (A8 (AQ (An (An (B5 ?_)))))));have hz:=Cl hx he hf;refine AQ (An ?_);obtain rfl:=A9 hz;exact A7 (Cd Tryz.results69 (AX Aa)) sN ⟨Aa,Aa⟩
    ·refine AG (Bi (Bf (AD (ck hy λh0 h1=>wv (Cy Aa Aa h0) (wm Aa (A5 ?_))))));have h4:=BO h1 he;exact AL (AW (hj,ha+1,()) ⟨h4,Vy _⟩ (AZ.c5 Aa Aa Aa Aa Aa AZ.nil) sN)
   ·refine BM (AI ?_);have h5:=CC hn he hf;exact AI (B1 (AW ((),()) h5 AZ.nil sN))
  ·rintro⟨⟨⟩,⟨⟩⟩ hd;refine DE (l':=[]) (H':=[]) Aa Aa ?_;replace hd:HO =some r:=hd;unfold HO at hd;refine Bw (Bf (As (wa Aa (A3 (A8 ?_)))));obtain rfl:=A9 hd;exact A7 (Cd Tryz.results69 (AX Aa)) sN ⟨Aa,Aa⟩
theorem SS (F:Nat)(a:At)(b:At)(r:Bool)(h:NI F a b=some r):Fn Tryz.prog GE 46 [Bb (Ao a),Bb (Ao b)] [] (λR H=>R=rB r∧H=[]):=by
 refine enter (n:=31) Tryz.func46 Aa Tryz.ntmps46 Aa (λw Z=>?_);unfold NI at h;refine As (B8 Aa Aa (λb1=>?_));refine B8 Aa Aa (λb2=>?_);refine wa Aa (A3 (ck h λg3 h4=>Bc [(4,rB ((decide (a.fEntity=b.fEntity))&&((decide (a.fID=b.fID))&&((decide (a.fOp=b.fOp))&&(ov (Hv F a.fArgs b.fArgs))))))] [] ?_ ?_))
 ·refine AD (vF BX Aa DX (vL 1 Er Aa (vF BX Aa DX (vL 0 Er Aa (wv (HV Aa Aa) (wm Aa (Be (decide (a.fEntity=b.fEntity)) (λc5=>?_) (λc5=>?_))))))))
  ·refine wo c5 (vF BX Aa DX (wo c5 (vL 1 Er Aa (wo c5 (vF BX Aa DX (wo c5 (vL 0 Er Aa (wo c5 (wv (HV Aa Aa) (GW Aa c5 Aa (wm Aa (Be (decide (a.fID=b.fID)) (λc6=>?_) (λc6=>?_)))))))))))))
   ·refine wo c6 (vF BX Aa DX (wo c6 (vL 1 Er Aa (wo c6 (vF BX Aa DX (wo c6 (vL 0 Er Aa (wo c6 (wv (HV Aa Aa) (GW Aa c6 Aa (wm Aa (Be (decide (a.fOp=b.fOp)) (λc7=>?_) (λc7=>?_)))))))))))))
    ·refine wo c7 (vF BX Aa EJ (wo c7 (vL 1 GT Aa (wo c7 (vF BX Aa EJ (wo c7 (vL 0 GT Aa (wo c7 (Dr Tryz.call69 (Sj F a.fArgs b.fArgs (ov (Hv F a.fArgs b.fArgs)) (Jt (Hp (Hp (Hp g3 c5) c6) c7))) Aa (GW Aa c7 Aa (wa Aa (A5 ?_))))))))))));exact Dq (And.intro c5 (And.intro c6 c7))
    ·refine wf c7 (wf c7 (wf c7 (wf c7 (wf c7 (wv (r:=rB false) (AC Aa c7 Aa) (wa Aa (A5 ?_)))))));exact Dq (And.intro c5 (And.intro c6 c7))
   ·refine wf c6 (wf c6 (wf c6 (wf c6 (wf c6 (wv (r:=rB false) (AC Aa c6 Aa) (wm Aa (wz Aa Aa (wz Aa Aa (wz Aa Aa (wz Aa Aa (wz Aa Aa (wv (r:=rB false) (AC (b:=false) Aa Aa Aa) (wa Aa (A5 ?_))))))))))))));exact Dq (And.intro c5 c6)
  ·refine wf c5 (wf c5 (wf c5 (wf c5 (wf c5 (wv (r:=rB false) (AC Aa c5 Aa) (wm Aa (wz Aa Aa (wz Aa Aa (wz Aa Aa (wz Aa Aa (wz Aa Aa (wv (r:=rB false) (AC (b:=false) Aa Aa Aa) (wm Aa (wz Aa Aa (wz Aa Aa (wz Aa Aa (wz Aa Aa (wz Aa Aa (wv (r:=rB false) (AC (b:=false) Aa Aa Aa) (wa Aa (A5 ?_)))))))))))))))))))));exact Dq c5
 refine A8 ?_;obtain rfl:=A9 h4;exact A7 (Cd Tryz.results46 (AX Aa)) sN ⟨Aa,Aa⟩
end Go.Proofs.YtfbmdidnlhifjaaGreatDoor.Q
namespace Go.Proofs.YtfbmdidnlhifjaaGreatDoor
open Go
set_option linter.unusedVariables false
structure AE where
 fTime:Int
 fL:(List Aj)
 deriving DecidableEq,Inhabited
structure AP where
 fKind:Int
 fOp:At
 fNow:Int
 deriving DecidableEq,Inhabited
def M4 (op:Am):Option (Int):=
 Bg (decide (op=([114,101,97,100]:Am))) (some 0) (Bg (decide (op=([119,114,105,116,101]:Am))) (some 1) (Bg (decide (op=([97,100,100]:Am))) (some 1) (Bg (decide (op=([99,97,115]:Am))) (some 2) (some (-1)))))
def Hf (F:Nat)(op:At)(ha:Int):Option (Stp (Int) (Out (Int) (Unit))):=
 Bg (decide (ha<(op.fArgs.length:Int))) (Bd (BL ha (op.fArgs.length:Int))<|Bo (Jp F (Ad op.fArgs ha)) λhb=>Bg (!decide (hb=0)) (some (.out (.ret hb))) (Bd (BE .i64 (ha+1))<|some (.next (ha+1)))) (some (.out (.go ())))
def N2 :Option (Int):=
 some 0
def II (F:Nat)(op:At):Option (Int):=
 Bo (M4 op.fOp) λr2=>Bd ((OM F op.fEntity).isSome)<|Bd (imp (!(!(ov (OM F op.fEntity)))) ((OM F op.fID).isSome))<|Bg (((!(ov (OM F op.fEntity)))||((!(ov (OM F op.fID)))||(decide (r2<0))))) (some 4) (Bg (!decide ((op.fArgs.length:Int)=r2)) (some 7) (Bo (BI (λσ=>Hf F op σ) F 0) (BD λν=>N2 )))
def DM (F:Nat)(a:At)(b:At)(ha:Int):Option (Stp (Int) (Out (Bool) (Unit))):=
 Bg (decide (ha<(a.fArgs.length:Int))) (Bd (BL ha (a.fArgs.length:Int))<|Bd (BL ha (b.fArgs.length:Int))<|Bo (E5 F (Ad a.fArgs ha) (Ad b.fArgs ha)) λhb=>Bg (!hb) (some (.out (.ret false))) (Bd (BE .i64 (ha+1))<|some (.next (ha+1)))) (some (.out (.go ())))
def G0 :Option (Bool):=
 some true
def Bz (F:Nat)(a:At)(b:At):Option (Bool):=
 Bg (((!decide (a.fEntity=b.fEntity))||((!decide (a.fID=b.fID))||((!decide (a.fOp=b.fOp))||(!decide ((a.fArgs.length:Int)=(b.fArgs.length:Int))))))) (some false) (Bo (BI (λσ=>DM F a b σ) F 0) (BD λν=>G0 ))
def M5 (F:Nat)(state:(List Ab))(n:(List Ab)):Option ((List Ab)×A0):=
 Bd (BL 0 (state.length:Int))<|Bd (imp (!decide (((Ad state 0).fKind)=1)) (imp (!(!decide (((Ad state 0).fKind)=3))) (BL 0 (n.length:Int))))<|Bd (imp (!(!decide (((Ad state 0).fKind)=1))) (BL 0 (n.length:Int)))<|Bg ((bif !decide (((Ad state 0).fKind)=1) then((!decide (((Ad state 0).fKind)=3))||(!decide (((Ad n 0).fKind)=3))) else !decide (((Ad n 0).fKind)=3))) (some (state,(A0.mk 7 ([]:List Ab)))) (Bd (BL 0 (n.length:Int))<|Bd (BE .i64 (((Ad state 0).fInt)+((Ad n 0).fInt)))<|Bo (TJ F (((Ad state 0).fInt)+((Ad n 0).fInt))) λha=>Bg (!decide (ha.2=0)) (some (state,(A0.mk 8 ([]:List Ab)))) (some (ha.1,(A0.mk 0 ha.1))))
def Pn (F:Nat)(state:(List Ab))(op:At):Option ((List Ab)×A0×Int):=
 Bo (II F op) λr3=>Bg (decide (r3=0)) (Bo (Jp F state) λr8=>Bg (!decide (r8=0)) (some (([]:List Ab),(A0.mk 0 ([]:List Ab)),r8)) (Bg (decide (op.fOp=([119,114,105,116,101]:Am))) (Bd (BL 0 (op.fArgs.length:Int))<|Bo (Pk) λhd=>some (Ad op.fArgs 0,(A0.mk 0 hd),0)) (Bg (decide (op.fOp=([97,100,100]:Am))) (Bd (BL 0 (op.fArgs.length:Int))<|Bo (M5 F state (Ad op.fArgs 0)) λha=>some (ha.1,ha.2,0)) (Bg (decide (op.fOp=([99,97,115]:Am))) (Bd (BL 0 (op.fArgs.length:Int))<|Bo (E5 F state (Ad op.fArgs 0)) λhe=>Bg (he) (Bd (BL 1 (op.fArgs.length:Int))<|Bo (Po true) λhf=>some (Ad op.fArgs 1,(A0.mk 0 hf),0)) (Bo (Po false) λhg=>some (state,(A0.mk 0 hg),0))) (some (state,(A0.mk 0 state),0)))))) (Bg (!decide (r3=0)) (some (([]:List Ab),(A0.mk 0 ([]:List Ab)),r3)) (Bg (decide (op.fOp=([119,114,105,116,101]:Am))) (Bd (BL 0 (op.fArgs.length:Int))<|Bo (Pk) λhh=>some (Ad op.fArgs 0,(A0.mk 0 hh),0)) (Bg (decide (op.fOp=([97,100,100]:Am))) (Bd (BL 0 (op.fArgs.length:Int))<|Bo (M5 F state (Ad op.fArgs 0)) λhb=>some (hb.1,hb.2,0)) (Bg (decide (op.fOp=([99,97,115]:Am))) (Bd (BL 0 (op.fArgs.length:Int))<|Bo (E5 F state (Ad op.fArgs 0)) λhi=>Bg (hi) (Bd (BL 1 (op.fArgs.length:Int))<|Bo (Po true) λhj=>some (Ad op.fArgs 1,(A0.mk 0 hj),0)) (Bo (Po false) λhk=>some (state,(A0.mk 0 hk),0))) (some (state,(A0.mk 0 state),0))))))
def Ij (ha:Int)(hb:(List Ab)):Option (Stp ((List Ab)×Int) (Out ((List Ab)) ((List Ab)))):=
 Bd (BE .i64 (ha+1))<|some (.next (hb,ha+1))
def DO (F:Nat)(d:AE)(e:Am)(hb:(List Ab))(ha:Int):Option (Stp ((List Ab)×Int) (Out ((List Ab)) ((List Ab)))):=
 Bg (decide (ha<(d.fL.length:Int))) (Bd (BL ha (d.fL.length:Int))<|Bg (((decide ((((Ad d.fL ha).fOp).fEntity)=e))&&(decide (0≤((Ad d.fL ha).fTo))))) (Bo (Pn F hb ((Ad d.fL ha).fOp)) λhd=>Ij ha hd.1) (Ij ha hb)) (some (.out (.go hb)))
def Ii (ha:(List Ab)):Option ((List Ab)):=
 some ha
def M1 (F:Nat)(d:AE)(e:Am):Option ((List Ab)):=
 Bo (Pk) λr1=>Bo (BI (λσ=>DO F d e σ.1 σ.2) F (r1,0)) (BD λν=>Ii ν)
def Ik (ha:Int)(hb:(List Am)):Option (Stp ((List Am)×Int) (Out ((List Am)) ((List Am)))):=
 Bd (BE .i64 (ha+1))<|some (.next (hb,ha+1))
def E7 (F:Nat)(d:AE)(hb:(List Am))(ha:Int):Option (Stp ((List Am)×Int) (Out ((List Am)) ((List Am)))):=
 Bg (decide (ha<(d.fL.length:Int))) (Bd (BL ha (d.fL.length:Int))<|Bo (Sb F hb (((Ad d.fL ha).fOp).fEntity)) λhd=>Bg (!hd) (Bd (L4 16 (hb.length+([((Ad d.fL ha).fOp).fEntity]:List Am).length))<|Bo (KW F (hb++([((Ad d.fL ha).fOp).fEntity]:List Am))) λhe=>Ik ha he) (Ik ha hb)) (some (.out (.go hb)))
def O5 (ha:(List Am)):Option ((List Am)):=
 some ha
def M3 (F:Nat)(d:AE):Option ((List Am)):=
 Bo (BI (λσ=>E7 F d σ.1 σ.2) F (([]:List Am),0)) (BD λν=>O5 ν)
def EP (ha:Int)(hb:Bool):Option (Stp (Bool×Int) (Out (Int×AE) (Bool))):=
 Bd (BE .i64 (ha+1))<|some (.next (hb,ha+1))
def EO (d:AE)(op:At)(now:Int)(ha:Bool):Option (Int×AE):=
 Bg (ha) (some (3,d)) (Bd (L4 120 (d.fL.length+([(Aj.mk op (A0.mk 0 ([]:List Ab)) now (-1))]:List Aj).length))<|some (0,(AE.mk now (d.fL++([(Aj.mk op (A0.mk 0 ([]:List Ab)) now (-1))]:List Aj)))))
def Cb (F:Nat)(d:AE)(op:At)(now:Int)(hb:Bool)(ha:Int):Option (Stp (Bool×Int) (Out (Int×AE) (Bool))):=
 Bg (decide (ha<(d.fL.length:Int))) (Bd (BL ha (d.fL.length:Int))<|Bg (decide ((((Ad d.fL ha).fOp).fID)=op.fID)) (Bo (Bz F ((Ad d.fL ha).fOp) op) λhd=>Bg (!hd) (some (.out (.ret (19,d)))) (some (.out (.ret (0,(AE.mk now d.fL)))))) (Bg (hb) (EP ha true) (EP ha (decide ((((Ad d.fL ha).fOp).fEntity)=op.fEntity))))) (some (.out (.go hb)))
def JJ (F:Nat)(d:AE)(op:At)(now:Int)(ha:Bool):Option (Int×AE):=
 Bg (decide (256≤(d.fL.length:Int))) (EO d op now true) (Bg (!ha) (Bo (M3 F d) λhb=>EO d op now (decide (256≤(hb.length:Int)))) (EO d op now false))
def Eb (F:Nat)(d:AE)(op:At)(now:Int):Option (Int×AE):=
 Bo (II F op) λr2=>Bg (!decide (r2=0)) (some (r2,d)) (Bg (((decide (now<0))||(decide (1073741824<now)))) (some (2,d)) (Bg (decide (now<d.fTime)) (some (11,d)) (Bo (BI (λσ=>Cb F d op now σ.1 σ.2) F (false,0)) (BD λν=>JJ F d op now ν))))
def Cu (F:Nat)(d:AE)(e:Am)(now:Int)(r7:(List Ab))(ha:Int):Option (Stp (Int) (Out (Aj×Bool×AE) (Unit))):=
 Bg (decide (ha<(d.fL.length:Int))) (Bd (BL ha (d.fL.length:Int))<|Bg (((decide ((((Ad d.fL ha).fOp).fEntity)=e))&&(decide (((Ad d.fL ha).fTo)<0)))) (Bo (Pn F r7 ((Ad d.fL ha).fOp)) λhe=>Oj (List.set d.fL (Int.toNat ha) (Aj.mk ((Ad d.fL ha).fOp) he.2.1 ((Ad d.fL ha).fFrom) ((Ad d.fL ha).fTo))) λhd=>Bd (BL ha (hd.length:Int))<|Oj (List.set hd (Int.toNat ha) (Aj.mk ((Ad hd ha).fOp) ((Ad hd ha).fAnswer) ((Ad hd ha).fFrom) now)) λhb=>Bd (BL ha (hb.length:Int))<|some (.out (.ret ((Aj.mk ((Ad hb ha).fOp) ((Ad hb ha).fAnswer) ((Ad hb ha).fFrom) ((Ad hb ha).fTo)),true,(AE.mk now hb))))) (Bd (BE .i64 (ha+1))<|some (.next (ha+1)))) (some (.out (.go ())))
def Qg (d:AE):Option (Aj×Bool×AE):=
 some ((Aj.mk (At.mk ([]:Am) ([]:Am) ([]:Am) ([]:List (List Ab))) (A0.mk 0 ([]:List Ab)) 0 0),false,d)
def Ih (F:Nat)(d:AE)(e:Am)(now:Int):Option (Aj×Bool×AE):=
 Bg (((decide (now<0))||((decide (1073741824<now))||(decide (now<d.fTime))))) (some ((Aj.mk (At.mk ([]:Am) ([]:Am) ([]:Am) ([]:List (List Ab))) (A0.mk 0 ([]:List Ab)) 0 0),false,d)) (Bo (M1 F d e) λr7=>Bo (BI (λσ=>Cu F d e now r7 σ) F 0) (BD λν=>Qg d ))
def KS (id:Am)(n:Int):Option (At):=
 some (At.mk ([120]:Am) id ([97,100,100]:Am) ([([(Ab.mk 3 n ([]:Am) 0)]:List Ab)]:List (List Ab)))
def Ez (a:(List Am))(b:(List Am))(ha:Int):Option (Stp (Int) (Out (Bool) (Unit))):=
 Bg (decide (ha<(a.length:Int))) (Bd (BL ha (a.length:Int))<|Bd (BL ha (b.length:Int))<|Bg (!decide ((Ad a ha)=(Ad b ha))) (some (.out (.ret false))) (Bd (BE .i64 (ha+1))<|some (.next (ha+1)))) (some (.out (.go ())))
def HJ :Option (Bool):=
 some true
def EA (F:Nat)(a:(List Am))(b:(List Am)):Option (Bool):=
 Bg (!decide ((a.length:Int)=(b.length:Int))) (some false) (Bo (BI (λσ=>Ez a b σ) F 0) (BD λν=>HJ ))
def E1 (v:(List Ab))(ha:Int):Option (Stp (Int) (Out (Bool) (Unit))):=
 Bg (decide (ha<(v.length:Int))) (Bd (BL ha (v.length:Int))<|Bg (decide (250<(((Ad v ha).fStr).length:Int))) (some (.out (.ret false))) (Bd (BE .i64 (ha+1))<|some (.next (ha+1)))) (some (.out (.go ())))
def HL :Option (Bool):=
 some true
def KQ (F:Nat)(v:(List Ab)):Option (Bool):=
 Bg (decide (100<(v.length:Int))) (some false) (Bo (BI (λσ=>E1 v σ) F 0) (BD λν=>HL ))
def E0 (F:Nat)(op:At)(ha:Int):Option (Stp (Int) (Out (Bool) (Unit))):=
 Bg (decide (ha<(op.fArgs.length:Int))) (Bd (BL ha (op.fArgs.length:Int))<|Bo (KQ F (Ad op.fArgs ha)) λhb=>Bg (!hb) (some (.out (.ret false))) (Bd (BE .i64 (ha+1))<|some (.next (ha+1)))) (some (.out (.go ())))
def HK :Option (Bool):=
 some true
def KP (F:Nat)(op:At):Option (Bool):=
 Bg (((decide (100<(op.fEntity.length:Int)))||((decide (100<(op.fID.length:Int)))||((decide (100<(op.fOp.length:Int)))||(decide (4<(op.fArgs.length:Int))))))) (some false) (Bo (BI (λσ=>E0 F op σ) F 0) (BD λν=>HK ))
def D2 (F:Nat)(l:(List AP))(ha:Int):Option (Stp (Int) (Out (Bool) (Unit))):=
 Bg (decide (ha<(l.length:Int))) (Bd (BL ha (l.length:Int))<|Bo (KP F ((Ad l ha).fOp)) λhb=>Bg (!hb) (some (.out (.ret false))) (Bd (BE .i64 (ha+1))<|some (.next (ha+1)))) (some (.out (.go ())))
def EU :Option (Bool):=
 some true
def Co (F:Nat)(l:(List AP)):Option (Bool):=
 Bg (decide (50<(l.length:Int))) (some false) (Bo (BI (λσ=>D2 F l σ) F 0) (BD λν=>EU ))
def B2 (F:Nat)(a:A0)(b:A0):Option (Bool):=
 Bd (imp (decide (a.fErr=b.fErr)) ((E5 F a.fValue b.fValue).isSome))<|some ((decide (a.fErr=b.fErr))&&(ov (E5 F a.fValue b.fValue)))
def E2 (F:Nat)(a:(List Aj))(b:(List Aj))(ha:Int):Option (Stp (Int) (Out (Bool) (Unit))):=
 Bg (decide (ha<(a.length:Int))) (Bd (BL ha (a.length:Int))<|Bd (BL ha (b.length:Int))<|Bd ((Bz F ((Ad a ha).fOp) ((Ad b ha).fOp)).isSome)<|Bd (imp (!(!(ov (Bz F ((Ad a ha).fOp) ((Ad b ha).fOp))))) ((B2 F ((Ad a ha).fAnswer) ((Ad b ha).fAnswer)).isSome))<|Bg (((!(ov (Bz F ((Ad a ha).fOp) ((Ad b ha).fOp))))||((!(ov (B2 F ((Ad a ha).fAnswer) ((Ad b ha).fAnswer))))||((!decide (((Ad a ha).fFrom)=((Ad b ha).fFrom)))||(!decide (((Ad a ha).fTo)=((Ad b ha).fTo))))))) (some (.out (.ret false))) (Bd (BE .i64 (ha+1))<|some (.next (ha+1)))) (some (.out (.go ())))
def HM :Option (Bool):=
 some true
def In (F:Nat)(a:(List Aj))(b:(List Aj)):Option (Bool):=
 Bg (!decide ((a.length:Int)=(b.length:Int))) (some false) (Bo (BI (λσ=>E2 F a b σ) F 0) (BD λν=>HM ))
end Go.Proofs.YtfbmdidnlhifjaaGreatDoor
