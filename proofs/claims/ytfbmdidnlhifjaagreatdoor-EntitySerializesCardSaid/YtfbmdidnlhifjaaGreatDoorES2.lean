/-
  Texts of the proof, put together: PVa, WVa, PVb, WVb, PVc, WVc, PVd, WVd, PVe, WVe, PVf, WVf, PH, PFr, QH, QY, QU, QW, QT, QJ, QX, WFr, PM, PNa, QN, QM, QI, QV, QL, PI, QF, Q6, Q9, WNa, PNb.
-/
import Derived.Test.YtfbmdidnlhifjaaGreatDoorES1
import Derived.Lib.Bytealg
import Derived.Lib.SmallJoins
import Derived.Laws.StructEq
import GoSem.Op.IntBits
import GoSem.Op.Shift
import Derived.Laws.Cover3
import Derived.ScopeJumps
import Derived.Laws.CopyRow
import Derived.Laws.IdiomCopy
import Derived.Laws.OwnMore
import Derived.MapKept
import Derived.Maps.RangeRun
namespace Go.Proofs.YtfbmdidnlhifjaaGreatDoor
open Go
set_option linter.unusedVariables false
structure Ab where
 fKind:Int
 fInt:Int
 fStr:Ak
 fN:Int
 deriving DecidableEq,Inhabited
def PR (s:Ak)(ha:Int):Option (Stp (Int) (Out (Bool) (Unit))):=
 Bg (decide (ha<(s.length:Int))) (Ba (BK ha (s.length:Int))<|Bg (((decide ((KO s ha)<32))||(decide (126<(KO s ha))))) (some (.out (.ret false))) (Ba (BB .i64 (ha+1))<|some (.next (ha+1)))) (some (.out (.go ())))
def PP :Option (Bool):=
 some true
def LY (F:Nat)(s:Ak):Option (Bool):=
 Bp (BD (λσ=>PR s σ) F 0) (B9 λν=>PP )
def Cc (ok:Bool)(i:Int):Option (Int):=
 Bg (ok) (Ba (BB .i64 (i+1))<|some (i+1)) (some (-1))
def Rk (F:Nat)(c:Ab):Option (Bool):=
 Ba (imp (decide (c.fKind=4)) (imp (decide (c.fInt=0)) (imp (decide (c.fN=0)) ((LY F c.fStr).isSome))))<|some ((decide (c.fKind=4))&&((decide (c.fInt=0))&&((decide (c.fN=0))&&(ov (LY F c.fStr)))))
def Rj (F:Nat)(ha:(List Ab)→Int→Int→Option (Int))(hb:(List Ab)→Int→Int→Option (Int))(v:(List Ab))(i:Int):Option (Int):=
 Bg (((decide (i<0))||(decide ((v.length:Int)≤i)))) (some (-1)) (Ba (BK i (v.length:Int))<|Bg (decide (((Ae v i).fKind)=1)) (Ba (imp (decide (((Ae v i).fInt)=0)) (imp (decide (((Ae v i).fStr)=([]:Ak))) ((Cc (decide (((Ae v i).fN)=0)) i).isSome)))<|Ba (imp (decide (((Ae v i).fInt)=0)) (imp (!(decide (((Ae v i).fStr)=([]:Ak)))) ((Cc false i).isSome)))<|Ba (imp (!(decide (((Ae v i).fInt)=0))) ((Cc false i).isSome))<|some (bif decide (((Ae v i).fInt)=0) then(bif decide (((Ae v i).fStr)=([]:Ak)) then(ov (Cc (decide (((Ae v i).fN)=0)) i)) else(ov (Cc false i))) else(ov (Cc false i)))) (Bg (decide (((Ae v i).fKind)=2)) (Ba (imp (decide (((Ae v i).fInt)=0)) (imp (decide (((Ae v i).fStr)=([]:Ak))) ((Cc (decide (((Ae v i).fN)=0)) i).isSome)))<|Ba (imp (decide (((Ae v i).fInt)=0)) (imp (!(decide (((Ae v i).fStr)=([]:Ak)))) ((Cc false i).isSome)))<|Ba (imp (!(decide (((Ae v i).fInt)=0))) (imp (decide (((Ae v i).fInt)=1)) (imp (decide (((Ae v i).fStr)=([]:Ak))) ((Cc (decide (((Ae v i).fN)=0)) i).isSome))))<|Ba (imp (!(decide (((Ae v i).fInt)=0))) (imp (decide (((Ae v i).fInt)=1)) (imp (!(decide (((Ae v i).fStr)=([]:Ak)))) ((Cc false i).isSome))))<|Ba (imp (!(decide (((Ae v i).fInt)=0))) (imp (!(decide (((Ae v i).fInt)=1))) ((Cc false i).isSome)))<|some (bif decide (((Ae v i).fInt)=0) then(bif decide (((Ae v i).fStr)=([]:Ak)) then(ov (Cc (decide (((Ae v i).fN)=0)) i)) else(ov (Cc false i))) else(bif decide (((Ae v i).fInt)=1) then(bif decide (((Ae v i).fStr)=([]:Ak)) then(ov (Cc (decide (((Ae v i).fN)=0)) i)) else(ov (Cc false i))) else(ov (Cc false i))))) (Bg (decide (((Ae v i).fKind)=3)) (Ba (imp (decide (((Ae v i).fStr)=([]:Ak))) ((Cc (decide (((Ae v i).fN)=0)) i).isSome))<|Ba (imp (!(decide (((Ae v i).fStr)=([]:Ak)))) ((Cc false i).isSome))<|some (bif decide (((Ae v i).fStr)=([]:Ak)) then(ov (Cc (decide (((Ae v i).fN)=0)) i)) else(ov (Cc false i)))) (Bg (decide (((Ae v i).fKind)=4)) (Bp (Rk F (Ae v i)) λhd=>Bp (Cc hd i) λhe=>some he) (Bg (((decide (((Ae v i).fKind)=5))&&((decide (((Ae v i).fInt)=0))&&((decide (((Ae v i).fStr)=([]:Ak)))&&(decide (0≤((Ae v i).fN))))))) (Ba (BB .i64 (i+1))<|Bp (ha v (i+1) ((Ae v i).fN)) λhf=>some hf) (Bg (((decide (((Ae v i).fKind)=6))&&((decide (((Ae v i).fInt)=0))&&((decide (((Ae v i).fStr)=([]:Ak)))&&(decide (0≤((Ae v i).fN))))))) (Ba (BB .i64 (i+1))<|Bp (hb v (i+1) ((Ae v i).fN)) λhg=>some hg) (some (-1))))))))
def CQ (v:(List Ab))(n:Int)(he:(List Ab)→Int→Option (Int))(hb:Int)(ha:Int):Option (Stp (Int×Int) (Out (Int) (Int))):=
 Bg (decide (ha<n)) (Bp (he v hb) λhd=>Bg (decide (hd<0)) (some (.out (.ret (-1)))) (Ba (BB .i64 (ha+1))<|some (.next (hd,ha+1)))) (some (.out (.go hb)))
def Gk (ha:Int):Option (Int):=
 some ha
def Kg (F:Nat)(ha:(List Ab)→Int→Option (Int))(v:(List Ab))(i:Int)(n:Int):Option (Int):=
 Bp (BD (λσ=>CQ v n ha σ.1 σ.2) F (i,0)) (B9 λν=>Gk ν)
def Di (F:Nat)(v:(List Ab))(n:Int)(hf:(List Ab)→Int→Option (Int))(ha:Int)(hd:Ak)(hb:Int):Option (Stp (Int×Ak×Int) (Out (Int) (Int))):=
 Bg (decide (hb<n)) (Ba (imp (!(decide ((v.length:Int)≤ha))) (BK ha (v.length:Int)))<|Ba (imp (!(decide ((v.length:Int)≤ha))) ((Rk F (Ae v ha)).isSome))<|Bg (((decide ((v.length:Int)≤ha))||((!(ov (Rk F (Ae v ha))))||((decide (0<hb))&&(BE ((Ae v ha).fStr) hd||decide (((Ae v ha).fStr)=hd)))))) (some (.out (.ret (-1)))) (Ba (BK ha (v.length:Int))<|Ba (BB .i64 (ha+1))<|Bp (hf v (ha+1)) λhe=>Bg (decide (he<0)) (some (.out (.ret (-1)))) (Ba (BB .i64 (hb+1))<|some (.next (he,(Ae v ha).fStr,hb+1))))) (some (.out (.go ha)))
def IV (ha:Int):Option (Int):=
 some ha
def OT (F:Nat)(ha:(List Ab)→Int→Option (Int))(v:(List Ab))(i:Int)(n:Int):Option (Int):=
 Bp (BD (λσ=>Di F v n ha σ.1 σ.2.1 σ.2.2) F (i,([]:Ak),0)) (B9 λν=>IV ν)
mutual
def D7:Nat→(List Ab)→Int→Option (Int)
 | 0,_,_=>none
 | nn+1,v,i=>Rj nn (Lq nn) (Ri nn) v i
def Lq:Nat→(List Ab)→Int→Int→Option (Int)
 | 0,_,_,_=>none
 | nn+1,v,i,n=>Kg nn (D7 nn) v i n
def Ri:Nat→(List Ab)→Int→Int→Option (Int)
 | 0,_,_,_=>none
 | nn+1,v,i,n=>OT nn (D7 nn) v i n
end
def LZ (F:Nat)(v:(List Ab)):Option (Bool):=
 Ba (imp (decide (0<(v.length:Int))) ((D7 F v 0).isSome))<|some ((decide (0<(v.length:Int)))&&(decide ((ov (D7 F v 0))=(v.length:Int))))
def Cu (F:Nat)(v:(List Ab))(i:Int)(he:(List Ab)→Int→Option (Int))(hd:Int)(hb:Int)(ha:Int):Option (Stp (Int×Int×Int) (Out (Int) (Int))):=
 Bg (decide (ha<((Ae v i).fN))) (Bg (decide (((Ae v i).fKind)=6)) (Ba (BB .i64 (hb+1))<|Bp (he v (hb+1)) λhf=>Bg (decide (hd<hf)) (Bp (D7 F v (hb+1)) λhh=>Ba (BB .i64 (ha+1))<|some (.next (hf,hh,ha+1))) (Bp (D7 F v (hb+1)) λhi=>Ba (BB .i64 (ha+1))<|some (.next (hd,hi,ha+1)))) (Bp (he v hb) λhg=>Bg (decide (hd<hg)) (Bp (D7 F v hb) λhj=>Ba (BB .i64 (ha+1))<|some (.next (hg,hj,ha+1))) (Bp (D7 F v hb) λhk=>Ba (BB .i64 (ha+1))<|some (.next (hd,hk,ha+1))))) (some (.out (.go hd)))
def Ev (ha:Int):Option (Int):=
 Ba (BB .i64 (ha+1))<|some (ha+1)
def Iz (F:Nat)(ha:(List Ab)→Int→Option (Int))(v:(List Ab))(i:Int):Option (Int):=
 Ba (BK i (v.length:Int))<|Bg (((!decide (((Ae v i).fKind)=5))&&(!decide (((Ae v i).fKind)=6)))) (some 1) (Ba (BB .i64 (i+1))<|Bp (BD (λσ=>Cu F v i ha σ.1 σ.2.1 σ.2.2) F (0,i+1,0)) (B9 λν=>Ev ν))
def D1:Nat→(List Ab)→Int→Option (Int)
 | 0,_,_=>none
 | nn+1,v,i=>Iz nn (D1 nn) v i
def CE (s:Ak)(hb:Ak)(ha:Int):Option (Stp (Ak×Int) (Out (Ak) (Ak))):=
 Bg (decide (ha<(s.length:Int))) (Ba (BK ha (s.length:Int))<|Bg (((decide ((KO s ha)=34))||(decide ((KO s ha)=92)))) (Ba (BB .i64 ((hb.length:Int)+(([92]:Ak).length:Int)))<|Ba (BB .i64 (ha+1))<|Ba (QD ha (ha+1))<|Ba (QD (ha+1) (s.length:Int))<|Ba (BB .i64 (((hb++([92]:Ak)).length:Int)+((List.take (Int.toNat (ha+1)-Int.toNat ha) (List.drop (Int.toNat ha) s)).length:Int)))<|some (.next ((hb++([92]:Ak))++(List.take (Int.toNat (ha+1)-Int.toNat ha) (List.drop (Int.toNat ha) s)),ha+1))) (Ba (BB .i64 (ha+1))<|Ba (QD ha (ha+1))<|Ba (QD (ha+1) (s.length:Int))<|Ba (BB .i64 ((hb.length:Int)+((List.take (Int.toNat (ha+1)-Int.toNat ha) (List.drop (Int.toNat ha) s)).length:Int)))<|some (.next (hb++(List.take (Int.toNat (ha+1)-Int.toNat ha) (List.drop (Int.toNat ha) s)),ha+1)))) (some (.out (.go hb)))
def DB (ha:Ak):Option (Ak):=
 Ba (BB .i64 ((ha.length:Int)+(([34]:Ak).length:Int)))<|some (ha++([34]:Ak))
def Iy (F:Nat)(s:Ak):Option (Ak):=
 Bp (BD (λσ=>CE s σ.1 σ.2) F (([34]:Ak),0)) (B9 λν=>DB ν)
def DM (F:Nat)(v:(List Ab))(i:Int)(he:(List Ab)→Int→Option (Ak))(ha:Ak)(hb:Int)(hd:Int):Option (Stp (Ak×Int×Int) (Out (Ak) (Ak))):=
 Bg (decide (hd<((Ae v i).fN))) (Bg (decide (0<hd)) (Ba (BB .i64 ((ha.length:Int)+(([44]:Ak).length:Int)))<|Bg (decide (((Ae v i).fKind)=6)) (Ba (BK hb (v.length:Int))<|Bp (Iy F ((Ae v hb).fStr)) λhf=>Ba (BB .i64 (((ha++([44]:Ak)).length:Int)+(hf.length:Int)))<|Ba (BB .i64 ((((ha++([44]:Ak))++hf).length:Int)+(([58]:Ak).length:Int)))<|Ba (BB .i64 (hb+1))<|Bp (he v (hb+1)) λhh=>Ba (BB .i64 (((((ha++([44]:Ak))++hf)++([58]:Ak)).length:Int)+(hh.length:Int)))<|Bp (D7 F v (hb+1)) λhl=>Ba (BB .i64 (hd+1))<|some (.next ((((ha++([44]:Ak))++hf)++([58]:Ak))++hh,hl,hd+1))) (Bp (he v hb) λhi=>Ba (BB .i64 (((ha++([44]:Ak)).length:Int)+(hi.length:Int)))<|Bp (D7 F v hb) λhm=>Ba (BB .i64 (hd+1))<|some (.next ((ha++([44]:Ak))++hi,hm,hd+1)))) (Bg (decide (((Ae v i).fKind)=6)) (Ba (BK hb (v.length:Int))<|Bp (Iy F ((Ae v hb).fStr)) λhg=>Ba (BB .i64 ((ha.length:Int)+(hg.length:Int)))<|Ba (BB .i64 (((ha++hg).length:Int)+(([58]:Ak).length:Int)))<|Ba (BB .i64 (hb+1))<|Bp (he v (hb+1)) λhj=>Ba (BB .i64 ((((ha++hg)++([58]:Ak)).length:Int)+(hj.length:Int)))<|Bp (D7 F v (hb+1)) λhn=>Ba (BB .i64 (hd+1))<|some (.next (((ha++hg)++([58]:Ak))++hj,hn,hd+1))) (Bp (he v hb) λhk=>Ba (BB .i64 ((ha.length:Int)+(hk.length:Int)))<|Bp (D7 F v hb) λho=>Ba (BB .i64 (hd+1))<|some (.next (ha++hk,ho,hd+1))))) (some (.out (.go ha)))
def Iv (v:(List Ab))(i:Int)(ha:Ak):Option (Ak):=
 Bg (decide (((Ae v i).fKind)=6)) (Ba (BB .i64 ((([123]:Ak).length:Int)+(ha.length:Int)))<|Ba (BB .i64 (((([123]:Ak)++ha).length:Int)+(([125]:Ak).length:Int)))<|some ((([123]:Ak)++ha)++([125]:Ak))) (Ba (BB .i64 ((([91]:Ak).length:Int)+(ha.length:Int)))<|Ba (BB .i64 (((([91]:Ak)++ha).length:Int)+(([93]:Ak).length:Int)))<|some ((([91]:Ak)++ha)++([93]:Ak)))
def LU (F:Nat)(ha:(List Ab)→Int→Option (Ak))(v:(List Ab))(i:Int):Option (Ak):=
 Ba (BK i (v.length:Int))<|Bg (decide (((Ae v i).fKind)=1)) (some ([110,117,108,108]:Ak)) (Bg (decide (((Ae v i).fKind)=2)) (Bg (decide (((Ae v i).fInt)=1)) (some ([116,114,117,101]:Ak)) (some ([102,97,108,115,101]:Ak))) (Bg (decide (((Ae v i).fKind)=3)) (Ba (BB .i64 ((Ae v i).fInt))<|some (Lib.itoa ((Ae v i).fInt))) (Bg (decide (((Ae v i).fKind)=4)) (Bp (Iy F ((Ae v i).fStr)) λhb=>some hb) (Ba (BB .i64 (i+1))<|Bp (BD (λσ=>DM F v i ha σ.1 σ.2.1 σ.2.2) F (([]:Ak),i+1,0)) (B9 λν=>Iv v i ν)))))
def GJ:Nat→(List Ab)→Int→Option (Ak)
 | 0,_,_=>none
 | nn+1,v,i=>LU nn (GJ nn) v i
def El (v:(List Ab))(ha:Int):Option (Stp (Int) (Out (Int) (Unit))):=
 Bg (decide (ha<(v.length:Int))) (Ba (BK ha (v.length:Int))<|Bg (decide (200<(((Ae v ha).fStr).length:Int))) (some (.out (.ret 3))) (Ba (BB .i64 (ha+1))<|some (.next (ha+1)))) (some (.out (.go ())))
def Lr (F:Nat)(v:(List Ab)):Option (Int):=
 Bp (GJ F v 0) λha=>Bg (decide (4000<(ha.length:Int))) (some 3) (some 0)
def Em (v:(List Ab))(ha:Int):Option (Stp (Int) (Out (Int) (Unit))):=
 Bg (decide (ha<(v.length:Int))) (Ba (BK ha (v.length:Int))<|Bg (((decide (((Ae v ha).fKind)=3))&&((decide (((Ae v ha).fInt)<(-1000000000000)))||(decide (1000000000000<((Ae v ha).fInt)))))) (some (.out (.ret 2))) (Ba (BB .i64 (ha+1))<|some (.next (ha+1)))) (some (.out (.go ())))
def Ls (F:Nat)(v:(List Ab)):Option (Int):=
 Ba (imp (!(decide (200<(v.length:Int)))) ((D1 F v 0).isSome))<|Bg (((decide (200<(v.length:Int)))||(decide (8<(ov (D1 F v 0)))))) (some 3) (Bp (BD (λσ=>El v σ) F 0) (B9 λν=>Lr F v ))
def IX (F:Nat)(v:(List Ab)):Option (Int):=
 Bp (LZ F v) λr1=>Bg (!r1) (some 1) (Bp (BD (λσ=>Em v σ) F 0) (B9 λν=>Ls F v ))
end Go.Proofs.YtfbmdidnlhifjaaGreatDoor
namespace Go.Proofs.YtfbmdidnlhifjaaGreatDoor.Q
open Go Go.RowKit
set_option linter.unusedVariables false
set_option linter.unusedSimpArgs false
set_option maxRecDepth 100000
set_option maxHeartbeats 4000000
@[reducible] def Ac (x:Ab):List Rp:=[Am x.fKind,Am x.fInt,rS x.fStr,Am x.fN]
theorem BG (x:Ab):(Ac x).length=4:=rfl
theorem Lc (x:Ab):(Ac x).all (·.one)=true:=rfl
end Go.Proofs.YtfbmdidnlhifjaaGreatDoor.Q
namespace Go.Proofs.YtfbmdidnlhifjaaGreatDoor
open Go
set_option linter.unusedVariables false
structure At where
 fPairs:Bool
 fLeft:Int
 fKey:Bool
 fLast:Ak
 fStarted:Bool
 deriving DecidableEq,Inhabited
structure A3 where
 fDepth:Int
 fBytes:Int
 fOutside:Bool
 fLong:Bool
 deriving DecidableEq,Inhabited
def Bj (n:Int):Option (Bool):=
 some ((decide ((-1000000000000)≤n))&&(decide (n≤1000000000000)))
def EU (s:Ak)(ha:Int):Option (Stp (Int) (Out (Bool) (Unit))):=
 Bg (decide (ha<(s.length:Int))) (Ba (BK ha (s.length:Int))<|Bg (((decide ((KO s ha)<32))||(decide (126<(KO s ha))))) (some (.out (.ret false))) (Ba (BB .i64 (ha+1))<|some (.next (ha+1)))) (some (.out (.go ())))
def ET :Option (Bool):=
 some true
def Il (F:Nat)(s:Ak):Option (Bool):=
 Bp (BD (λσ=>EU s σ) F 0) (B9 λν=>ET )
def Hh (s:Ak):Option (Int):=
 Ba (BB .i64 ((s.length:Int)+2))<|Ba (BB .i64 (((s.length:Int)+2)+(Lib.countByte s 34:Int)))<|Ba (BB .i64 ((((s.length:Int)+2)+(Lib.countByte s 34:Int))+(Lib.countByte s 92:Int)))<|some ((((s.length:Int)+2)+(Lib.countByte s 34:Int))+(Lib.countByte s 92:Int))
def Kb (F:Nat)(c:Ab):Option (Bool):=
 Bg (decide (c.fKind=1)) (some ((decide (c.fInt=0))&&((decide (c.fStr=([]:Ak)))&&(decide (c.fN=0))))) (Bg (decide (c.fKind=2)) (some (bif decide (c.fInt=0) then((decide (c.fStr=([]:Ak)))&&(decide (c.fN=0))) else((decide (c.fInt=1))&&((decide (c.fStr=([]:Ak)))&&(decide (c.fN=0)))))) (Bg (decide (c.fKind=3)) (some ((decide (c.fStr=([]:Ak)))&&(decide (c.fN=0)))) (Bg (decide (c.fKind=4)) (Ba (imp (decide (c.fInt=0)) (imp (decide (c.fN=0)) ((Il F c.fStr).isSome)))<|some ((decide (c.fInt=0))&&((decide (c.fN=0))&&(ov (Il F c.fStr))))) (Bg (decide (c.fKind=5)) (some ((decide (c.fInt=0))&&((decide (c.fStr=([]:Ak)))&&(decide (0≤c.fN))))) (Bg (decide (c.fKind=6)) (some ((decide (c.fInt=0))&&((decide (c.fStr=([]:Ak)))&&(decide (0≤c.fN))))) (some false))))))
def MI (c:Ab):Option (Int):=
 Bg (decide (c.fKind=1)) (some 4) (Bg (decide (c.fKind=2)) (some (IntKind.wrap .i64 (5-c.fInt))) (Bg (decide (c.fKind=3)) (Ba (BB .i64 c.fInt)<|some ((Lib.itoa c.fInt).length:Int)) (Bg (decide (c.fKind=4)) (Bp (Hh c.fStr) λha=>some ha) (some (IntKind.wrap .i64 (2+(max 0 (IntKind.wrap .i64 (c.fN-1)))))))))
def C9 (ha:(List At)):Option (Stp ((List At)) (Out ((List At)) ((List At)))):=
 Bg (decide (0<(ha.length:Int))) (Ba (BB .i64 ((ha.length:Int)-1))<|Ba (BK ((ha.length:Int)-1) (ha.length:Int))<|Ba (BB .i64 (((Ae ha ((ha.length:Int)-1)).fLeft)-1))<|NI (List.set ha (Int.toNat ((ha.length:Int)-1)) (At.mk ((Ae ha ((ha.length:Int)-1)).fPairs) (((Ae ha ((ha.length:Int)-1)).fLeft)-1) ((Ae ha ((ha.length:Int)-1)).fKey) ((Ae ha ((ha.length:Int)-1)).fLast) ((Ae ha ((ha.length:Int)-1)).fStarted))) λhb=>Bg (decide (0<((Ae hb ((ha.length:Int)-1)).fLeft))) (NI (List.set hb (Int.toNat ((ha.length:Int)-1)) (At.mk ((Ae hb ((ha.length:Int)-1)).fPairs) ((Ae hb ((ha.length:Int)-1)).fLeft) ((Ae hb ((ha.length:Int)-1)).fPairs) ((Ae hb ((ha.length:Int)-1)).fLast) ((Ae hb ((ha.length:Int)-1)).fStarted))) λhd=>some (.out (.ret hd))) (Ba (BB .i64 ((hb.length:Int)-1))<|Ba (QD ((hb.length:Int)-1) (hb.length:Int))<|some (.next (List.take (Int.toNat ((hb.length:Int)-1)) hb)))) (some (.out (.go ha)))
def De (ha:(List At)):Option ((List At)):=
 some ha
def Io (F:Nat)(stack:(List At)):Option ((List At)):=
 Bp (BD (λσ=>C9 σ) F stack) (B9 λν=>De ν)
def CY (ha:Int)(hb:(List At))(hd:A3):Option (Stp ((List At)×Int×A3) (Out (Int×A3×Bool) (A3))):=
 Ba (BB .i64 (ha+1))<|some (.next (hb,ha+1,hd))
def C8 (F:Nat)(v:(List Ab))(ha:(List At))(hb:Int)(hd:A3):Option (Stp ((List At)×Int×A3) (Out (Int×A3×Bool) (A3))):=
 Bg (decide (hb<(v.length:Int))) (Ba (BK hb (v.length:Int))<|Bp (Kb F (Ae v hb)) λhj=>Bg (!hj) (some (.out (.ret (0,hd,false)))) (Ba (imp (decide (0<(ha.length:Int))) (BB .i64 ((ha.length:Int)-1)))<|Ba (imp (decide (0<(ha.length:Int))) (BK ((ha.length:Int)-1) (ha.length:Int)))<|Bg (((decide (0<(ha.length:Int)))&&((Ae ha ((ha.length:Int)-1)).fKey))) (Ba (BB .i64 ((ha.length:Int)-1))<|Ba (BK ((ha.length:Int)-1) (ha.length:Int))<|Bg (((!decide (((Ae v hb).fKind)=4))||(((Ae ha ((ha.length:Int)-1)).fStarted)&&(BE ((Ae v hb).fStr) ((Ae ha ((ha.length:Int)-1)).fLast)||decide (((Ae v hb).fStr)=((Ae ha ((ha.length:Int)-1)).fLast)))))) (some (.out (.ret (0,hd,false)))) (NI (List.set ha (Int.toNat ((ha.length:Int)-1)) (At.mk ((Ae ha ((ha.length:Int)-1)).fPairs) ((Ae ha ((ha.length:Int)-1)).fLeft) ((Ae ha ((ha.length:Int)-1)).fKey) ((Ae v hb).fStr) ((Ae ha ((ha.length:Int)-1)).fStarted))) λhe=>NI (List.set he (Int.toNat ((ha.length:Int)-1)) (At.mk ((Ae he ((ha.length:Int)-1)).fPairs) ((Ae he ((ha.length:Int)-1)).fLeft) ((Ae he ((ha.length:Int)-1)).fKey) ((Ae he ((ha.length:Int)-1)).fLast) true)) λhf=>NI (List.set hf (Int.toNat ((ha.length:Int)-1)) (At.mk ((Ae hf ((ha.length:Int)-1)).fPairs) ((Ae hf ((ha.length:Int)-1)).fLeft) false ((Ae hf ((ha.length:Int)-1)).fLast) ((Ae hf ((ha.length:Int)-1)).fStarted))) λhk=>Bp (Hh ((Ae v hb).fStr)) λhh=>Ba (BB .i64 (hh+1))<|CY hb hk (A3.mk hd.fDepth (IntKind.wrap .i64 (hd.fBytes+(hh+1))) hd.fOutside (hd.fLong||(decide (200<(((Ae v hb).fStr).length:Int))))))) (Ba (BB .i64 ((ha.length:Int)+1))<|Bp (MI (Ae v hb)) λhg=>Ba (imp (!hd.fOutside) (imp (decide (((Ae v hb).fKind)=3)) ((Bj ((Ae v hb).fInt)).isSome)))<|Bg (decide (0<((Ae v hb).fN))) (Bg (decide ((v.length:Int)<((Ae v hb).fN))) (some (.out (.ret (0,(A3.mk (max hd.fDepth ((ha.length:Int)+1)) (IntKind.wrap .i64 (hd.fBytes+hg)) (hd.fOutside||((decide (((Ae v hb).fKind)=3))&&(!(ov (Bj ((Ae v hb).fInt)))))) (hd.fLong||(decide (200<(((Ae v hb).fStr).length:Int))))),false)))) (Ba (Lb 48 (ha.length+([(At.mk (decide (((Ae v hb).fKind)=6)) ((Ae v hb).fN) (decide (((Ae v hb).fKind)=6)) ([]:Ak) false)]:List At).length))<|CY hb (ha++([(At.mk (decide (((Ae v hb).fKind)=6)) ((Ae v hb).fN) (decide (((Ae v hb).fKind)=6)) ([]:Ak) false)]:List At)) (A3.mk (max hd.fDepth ((ha.length:Int)+1)) (IntKind.wrap .i64 (hd.fBytes+hg)) (hd.fOutside||((decide (((Ae v hb).fKind)=3))&&(!(ov (Bj ((Ae v hb).fInt)))))) (hd.fLong||(decide (200<(((Ae v hb).fStr).length:Int))))))) (Bp (Io F ha) λhi=>Bg (decide ((hi.length:Int)=0)) (Ba (BB .i64 (hb+1))<|some (.out (.ret (hb+1,(A3.mk (max hd.fDepth ((ha.length:Int)+1)) (IntKind.wrap .i64 (hd.fBytes+hg)) (hd.fOutside||((decide (((Ae v hb).fKind)=3))&&(!(ov (Bj ((Ae v hb).fInt)))))) (hd.fLong||(decide (200<(((Ae v hb).fStr).length:Int))))),true)))) (CY hb hi (A3.mk (max hd.fDepth ((ha.length:Int)+1)) (IntKind.wrap .i64 (hd.fBytes+hg)) (hd.fOutside||((decide (((Ae v hb).fKind)=3))&&(!(ov (Bj ((Ae v hb).fInt)))))) (hd.fLong||(decide (200<(((Ae v hb).fStr).length:Int)))))))))) (some (.out (.go hd)))
def Im (ha:A3):Option (Int×A3×Bool):=
 some (0,ha,false)
def In (F:Nat)(v:(List Ab)):Option (Int×A3×Bool):=
 Bp (BD (λσ=>C8 F v σ.1 σ.2.1 σ.2.2) F (([]:List At),0,(A3.mk 0 0 false false))) (B9 λν=>Im ν)
def IR (F:Nat)(v:(List Ab)):Option (Int):=
 Bp (In F v) λr1=>Bg (((!r1.2.2)||(!decide (r1.1=(v.length:Int))))) (some 1) (Bg (r1.2.1.fOutside) (some 2) (Bg ((r1.2.1.fLong||((decide (200<(v.length:Int)))||((decide (8<r1.2.1.fDepth))||(decide (4000<r1.2.1.fBytes)))))) (some 3) (some 0)))
def Lj :Option ((List Ab)):=
 some ([(Ab.mk 1 0 ([]:Ak) 0)]:List Ab)
def OO (b:Bool):Option ((List Ab)):=
 Bg (b) (some ([(Ab.mk 2 1 ([]:Ak) 0)]:List Ab)) (some ([(Ab.mk 2 0 ([]:Ak) 0)]:List Ab))
end Go.Proofs.YtfbmdidnlhifjaaGreatDoor
namespace Go.Proofs.YtfbmdidnlhifjaaGreatDoor.Q
open Go Go.RowKit
set_option linter.unusedVariables false
set_option linter.unusedSimpArgs false
set_option maxRecDepth 100000
set_option maxHeartbeats 4000000
@[reducible] def As (x:At):List Rp:=[rB x.fPairs,Am x.fLeft,rB x.fKey,rS x.fLast,rB x.fStarted]
theorem G7 (x:At):(As x).length=5:=rfl
theorem JE (x:At):(As x).all (·.one)=true:=rfl
@[reducible] def AK (x:A3):List Rp:=[Am x.fDepth,Am x.fBytes,rB x.fOutside,rB x.fLong]
theorem SR:∃inf,Tryz.prog.info? 120=some inf∧inf.zero=some (.agg #[(.bool false),(.int .i64 0),(.bool false),(.string ⟨#[]⟩),(.bool false)])∧inf.size=5∧inf.bytes=48:=by
  have key:(Tryz.prog.info? 120).map (λi=>(i.zero,i.size,i.bytes))=some (some (.agg #[(.bool false),(.int .i64 0),(.bool false),(.string ⟨#[]⟩),(.bool false)]),5,48):=by kernel_rfl
  obtain⟨inf,h1,h2⟩:=Option.map_eq_some_iff.1 key;simp only[Prod.mk.injEq] at h2;exact⟨inf,h1,h2.1,h2.2.1,h2.2.2⟩
theorem Pz (parts:List (Nat×Value)):Tryz.prog.built 63 parts=Instr.fill (λi=>(#[(0,1),(1,1),(2,1),(3,1)]:Array (Nat×Nat))[i]?) #[(.int .i64 0),(.int .i64 0),(.string ⟨#[]⟩),(.int .i64 0)] parts:=by kernel_rfl
theorem GM {n:Nat}{c:Cx}{l:Fr}{H:List Ent}{d:Option Nat}{ty:TypeId}{pos:String}{af:Array Edge}{g:Option (Nat×Bool)}{x0:Operand}{r0:Rp}(h0:ev l x0=some r0)(u0:r0.one=true):Bk Tryz.prog n c l H { dst:=d,op:=.build 63 #[(0,x0)],type:=ty,pos:=pos,after:=af,guard:=g } (Bc [r0,Am 0,rS ([]:Ak),Am 0]):=λa w Z ha _=>by
  have p0:=ha.ev h0;have c0:=Bw (r0.hone u0 Z _ p0);have hb:Tryz.prog.built 63 [(0,a.eval x0)]=some #[a.eval x0,(.int .i64 0),(.string ⟨#[]⟩),(.int .i64 0)]:=by
    rw[Pz];generalize a.eval x0=v0 at *;simp[Instr.fill,c0]
  refine⟨.agg #[a.eval x0,(.int .i64 0),(.string ⟨#[]⟩),(.int .i64 0)],⟨[a.eval x0,(.int .i64 0),(.string ⟨#[]⟩),(.int .i64 0)],rfl,p0,rfl,rfl,rfl,trivial⟩,?_⟩;have:=run_build w 63 #[(0,a.eval x0)] _ (by simpa using hb);simp[execOp,this]
theorem Sd (parts:List (Nat×Value)):Tryz.prog.built 120 parts=Instr.fill (λi=>(#[(0,1),(1,1),(2,1),(3,1),(4,1)]:Array (Nat×Nat))[i]?) #[(.bool false),(.int .i64 0),(.bool false),(.string ⟨#[]⟩),(.bool false)] parts:=by kernel_rfl
theorem Jd {n:Nat}{c:Cx}{l:Fr}{H:List Ent}{d:Option Nat}{ty:TypeId}{pos:String}{af:Array Edge}{g:Option (Nat×Bool)}{x0:Operand}{r0:Rp}(h0:ev l x0=some r0)(u0:r0.one=true){x1:Operand}{r1:Rp}(h1:ev l x1=some r1)(u1:r1.one=true){x2:Operand}{r2:Rp}(h2:ev l x2=some r2)(u2:r2.one=true):Bk Tryz.prog n c l H { dst:=d,op:=.build 120 #[(0,x0),(1,x1),(2,x2)],type:=ty,pos:=pos,after:=af,guard:=g } (Bc [r0,r1,r2,rS ([]:Ak),rB false]):=λa w Z ha _=>by
  have p0:=ha.ev h0;have c0:=Bw (r0.hone u0 Z _ p0);have p1:=ha.ev h1;have c1:=Bw (r1.hone u1 Z _ p1);have p2:=ha.ev h2;have c2:=Bw (r2.hone u2 Z _ p2);have hb:Tryz.prog.built 120 [(0,a.eval x0),(1,a.eval x1),(2,a.eval x2)]=some #[a.eval x0,a.eval x1,a.eval x2,(.string ⟨#[]⟩),(.bool false)]:=by
    rw[Sd];generalize a.eval x0=v0 at *;generalize a.eval x1=v1 at *;generalize a.eval x2=v2 at *;simp[Instr.fill,c0,c1,c2]
  refine⟨.agg #[a.eval x0,a.eval x1,a.eval x2,(.string ⟨#[]⟩),(.bool false)],⟨[a.eval x0,a.eval x1,a.eval x2,(.string ⟨#[]⟩),(.bool false)],rfl,p0,p1,p2,rfl,rfl,trivial⟩,?_⟩;have:=run_build w 120 #[(0,a.eval x0),(1,a.eval x1),(2,a.eval x2)] _ (by simpa using hb);simp[execOp,this]
theorem Kq (n:Int)(r:Bool)(h:Bj n=some r):Fn Tryz.prog GE 79 [Am n] [] (λR H=>R=rB r∧H=[]):=by
 refine enter (n:=9) Tryz.func79 Aa Tryz.ntmps79 Aa (λw Z=>?_);unfold Bj at h;refine Ap (wa Aa (A4 (AW [(2,rB ((decide ((-1000000000000)≤n))&&(decide (n≤1000000000000))))] [] ?_ ?_)))
 ·refine AB (wm Aa (wv (Om Aa Aa) (wm Aa (Bb (decide ((-1000000000000)≤n)) (λc1=>?_) (λc1=>?_)))))
  ·refine wo c1 (wm Aa (wo c1 (wv (Om Aa Aa) (Ij Aa c1 Aa (wa Aa (A5 ?_))))));exact Dc c1
  ·refine wf c1 (wf c1 (wv (r:=rB false) (AP Aa c1 Aa) (wa Aa (A5 ?_))));exact Dc c1
 refine A8 ?_;obtain rfl:=A9 h;exact A7 (Ci Tryz.results79 (AV Aa)) sN ⟨Aa,Aa⟩
theorem Sw (F:Nat)(s:Ak)(r:Bool)(h:Il F s=some r):Fn Tryz.prog GE 92 [rS s] [] (λR H=>R=rB r∧H=[]):=by
 refine enter (n:=20) Tryz.func92 Aa Tryz.ntmps92 Aa (λw Z=>?_);unfold Il at h;refine Ap (wa Aa (A4 (A2 (Ap (wm Aa (wv (CS G1 Aa) (wv (r:=Am 0) (Ay Aa) (A4 (AX (ob h λhi hj hg=>BP (S:=Nat×(Int)×(Unit)) (V:=(Unit)×(Unit)) 0 (λσ=>BD (λσ=>EU s σ) σ.1 σ.2.1=some hi) (λσ=>[(0,rS s),(5,Am (s.length:Int)),(6,Am σ.2.1)]) (λσ=>[]) (λσ=>σ.1) (F,0,()) hj (AZ.c Aa (AZ.c Aa (AZ.c Aa AZ.nil))) sN (λσ=>ET =some r) (λσ=>[]) (λσ=>[]) ?_ ?_))))))))))
 ·rintro⟨hz,hb,⟨⟩⟩ hk;refine C4 (l':=[(0,rS s),(5,Am (s.length:Int)),(6,Am hb)]) (H':=[]) Aa Aa ?_;obtain⟨hl,rfl,t37,hd,hf⟩:=DR hk;replace hd:EU s hb=some t37:=hd;unfold EU at hd;refine Ap (wv (E8 Aa Aa) (A4 (A2 (cz hd Aa (λhm hn=>?_) (λhm ho=>?_)))))
  ·refine AD (Be (A2 (AX (Ap (wm Aa (wa Aa (A4 (ck hn λhh hp=>AW [(0,rS s),(5,Am (s.length:Int)),(6,Am hb),(18,rB ((decide ((KO s hb)<32))||(decide (126<(KO s hb)))))] [] ?_ ?_))))))))
   ·refine AB (wm Aa (wm Aa (wv (Jc G1 Aa Aa hh) (wv (E8 Aa Aa) (wm Aa (Bb (decide ((KO s hb)<32)) (λha=>?_) (λha=>?_)))))))
    ·refine wf ha (wf ha (wf ha (wf ha (wv (r:=rB true) (A6 Aa ha Aa) (A5 ?_)))));exact Dc ha
    ·refine wo ha (wm Aa (wo ha (wm Aa (wo ha (wv (Jc G1 Aa Aa hh) (wo ha (wv (Ez Aa Aa) (Ju Aa ha Aa (A5 ?_)))))))));exact Dc ha
   refine cz hp Aa (λhq hr=>?_) (λhq hs=>?_)
   ·refine Ap (wa Aa (A4 (A8 (AM (Al (Al (B0 ?_)))))));have ht:=Cj hr hf hg;refine AM (Al ?_);obtain rfl:=A9 ht;exact A7 (Ci Tryz.results92 (AV Aa)) sN ⟨Aa,Aa⟩
   ·refine AD (Bi (Be (AB (ck hs λhu hw=>wv (Cz Aa Aa hu) (wm Aa (A5 ?_))))));have hx:=BQ hw hf;exact AO (AY (hl,hb+1,()) ⟨hx,Vn _⟩ (AZ.c Aa (AZ.c Aa (AZ.c Aa AZ.nil))) sN)
  ·refine BL (AE ?_);have hy:=CB ho hf hg;exact AE (B1 (AY ((),()) hy AZ.nil sN))
 ·rintro⟨⟨⟩,⟨⟩⟩ he;refine DK (l':=[]) (H':=[]) Aa Aa ?_;replace he:ET =some r:=he;unfold ET at he;refine Bv (Be (Ap (wa Aa (A4 (A8 ?_)))));obtain rfl:=A9 he;exact A7 (Ci Tryz.results92 (AV Aa)) sN ⟨Aa,Aa⟩
theorem Li (s:Ak)(r:Int)(h:Hh s=some r):Fn Tryz.prog GE 77 [rS s] [] (λR H=>R=Am r∧H=[]):=by
 refine enter (n:=12) Tryz.func77 Aa Tryz.ntmps77 Aa (λw Z=>?_);unfold Hh at h;refine Ap (wa Aa (BF (wm Aa (wv (CS G1 Aa) (ck h λg1 h2=>wv (Cz Aa Aa g1) (wm Aa (Hg (rs:=[rS s,rS ([34]:Ak)]) (r:=Am (Lib.countByte s 34:Int)) Tryz.call93 Aa (Py s 34) Aa Aa (ck h2 λg3 h4=>wv (Cz Aa Aa g3) (wm Aa (Hg (rs:=[rS s,rS ([92]:Ak)]) (r:=Am (Lib.countByte s 92:Int)) Tryz.call93 Aa (Py s 92) Aa Aa (ck h4 λg5 h6=>wv (Cz Aa Aa g5) (wa Aa (A4 (A8 ?_))))))))))))));obtain rfl:=A9 h6;exact A7 (Ci Tryz.results77 (AV Aa)) sN ⟨Aa,Aa⟩
theorem QT (F:Nat)(c:Ab)(r:Bool)(h:Kb F c=some r):Fn Tryz.prog GE 76 [Bc (Ac c)] [] (λR H=>R=rB r∧H=[]):=by
 refine enter (n:=81) Tryz.func76 Aa Tryz.ntmps76 Aa (λw Z=>?_);unfold Kb at h;refine Ap (BJ Aa Aa (λb1=>?_));refine wa Aa (A4 (A2 (Ap (vF BS Aa J8 (vL 0 JA Aa (A4 (AX (Ap (wv (BV Aa Aa) (wa Aa (A4 (cz h Aa (λc2 h3=>?_) (λc2 h6=>?_)))))))))))))
 ·refine AW [(2,rB ((decide (c.fInt=0))&&((decide (c.fStr=([]:Ak)))&&(decide (c.fN=0)))))] [] ?_ ?_
  ·refine AB (vF BS Aa C7 (vL 0 Ei Aa (wv (BV Aa Aa) (wm Aa (Bb (decide (c.fInt=0)) (λc4=>?_) (λc4=>?_))))))
   ·refine wo c4 (vF BS Aa Eh (wo c4 (vL 0 EI Aa (wo c4 (wv (HC Aa Aa) (Ij Aa c4 Aa (wm Aa (Bb (decide (c.fStr=([]:Ak))) (λc5=>?_) (λc5=>?_)))))))))
    ·refine wo c5 (vF BS Aa C7 (wo c5 (vL 0 Ei Aa (wo c5 (wv (BV Aa Aa) (Ij Aa c5 Aa (wa Aa (A5 ?_))))))));exact Dc (And.intro c4 c5)
    ·refine wf c5 (wf c5 (wf c5 (wv (r:=rB false) (AP Aa c5 Aa) (wa Aa (A5 ?_)))));exact Dc (And.intro c4 c5)
   ·refine wf c4 (wf c4 (wf c4 (wv (r:=rB false) (AP Aa c4 Aa) (wm Aa (wz Aa Aa (wz Aa Aa (wz Aa Aa (wv (r:=rB false) (AP (b:=false) Aa Aa Aa) (wa Aa (A5 ?_))))))))));exact Dc c4
  refine A8 (AM (Al ?_));obtain rfl:=A9 h3;exact A7 (Ci NQ (AV Aa)) sN ⟨Aa,Aa⟩
 ·refine Ap (wv (BV Aa Aa) (wa Aa (A4 (cz h6 Aa (λc7 h8=>?_) (λc7 hm=>?_)))))
  ·refine AW [(2,rB (bif decide (c.fInt=0) then((decide (c.fStr=([]:Ak)))&&(decide (c.fN=0))) else((decide (c.fInt=1))&&((decide (c.fStr=([]:Ak)))&&(decide (c.fN=0))))))] [] ?_ ?_
   ·refine AB (vF BS Aa C7 (vL 0 Ei Aa (wv (BV Aa Aa) (wm Aa (Bb (decide (c.fInt=0)) (λc9=>?_) (λc9=>?_))))))
    ·refine wf c9 (wf c9 (wf c9 (wv (r:=rB true) (A6 Aa c9 Aa) (wm Aa (Bo (b:=true) Aa Aa Aa (vF BS Aa Eh (Bo (b:=true) Aa Aa Aa (vL 0 EI Aa (Bo (b:=true) Aa Aa Aa (wv (HC Aa Aa) (wv (r:=rB (decide (c.fStr=([]:Ak)))) (A6 (b:=true) Aa Aa Aa) (wm Aa (Bb (decide (c.fStr=([]:Ak))) (λhg=>?_) (λhg=>?_))))))))))))))
     ·refine wo hg (vF BS Aa C7 (wo hg (vL 0 Ei Aa (wo hg (wv (BV Aa Aa) (Ij Aa hg Aa (wa Aa (A5 ?_))))))));exact Dc (And.intro c9 hg)
     ·refine wf hg (wf hg (wf hg (wv (r:=rB false) (AP Aa hg Aa) (wa Aa (A5 ?_)))));exact Dc (And.intro c9 hg)
    ·refine wo c9 (vF BS Aa C7 (wo c9 (vL 0 Ei Aa (wo c9 (wv (BV Aa Aa) (Ju Aa c9 Aa (wm Aa (Bb (decide (c.fInt=1)) (λhb=>?_) (λhb=>?_)))))))))
     ·refine wo hb (vF BS Aa Eh (wo hb (vL 0 EI Aa (wo hb (wv (HC Aa Aa) (Ij Aa hb Aa (wm Aa (Bb (decide (c.fStr=([]:Ak))) (λhh=>?_) (λhh=>?_)))))))))
      ·refine wo hh (vF BS Aa C7 (wo hh (vL 0 Ei Aa (wo hh (wv (BV Aa Aa) (Ij Aa hh Aa (wa Aa (A5 ?_))))))));exact Dc (And.intro c9 (And.intro hb hh))
      ·refine wf hh (wf hh (wf hh (wv (r:=rB false) (AP Aa hh Aa) (wa Aa (A5 ?_)))));exact Dc (And.intro c9 (And.intro hb hh))
     ·refine wf hb (wf hb (wf hb (wv (r:=rB false) (AP Aa hb Aa) (wm Aa (wz Aa Aa (wz Aa Aa (wz Aa Aa (wv (r:=rB false) (AP (b:=false) Aa Aa Aa) (wa Aa (A5 ?_))))))))));exact Dc (And.intro c9 hb)
   refine A8 (AM (Al ?_));obtain rfl:=A9 h8;exact A7 (Ci NQ (AV Aa)) sN ⟨Aa,Aa⟩
  ·refine Ap (wv (BV Aa Aa) (wa Aa (A4 (cz hm Aa (λhn ho=>?_) (λhn hp=>?_)))))
   ·refine AW [(2,rB ((decide (c.fStr=([]:Ak)))&&(decide (c.fN=0))))] [] ?_ ?_
    ·refine AB (vF BS Aa Eh (vL 0 EI Aa (wv (HC Aa Aa) (wm Aa (Bb (decide (c.fStr=([]:Ak))) (λhi=>?_) (λhi=>?_))))))
     ·refine wo hi (vF BS Aa C7 (wo hi (vL 0 Ei Aa (wo hi (wv (BV Aa Aa) (Ij Aa hi Aa (wa Aa (A5 ?_))))))));exact Dc hi
     ·refine wf hi (wf hi (wf hi (wv (r:=rB false) (AP Aa hi Aa) (wa Aa (A5 ?_)))));exact Dc hi
    refine A8 (AM (Al ?_));obtain rfl:=A9 ho;exact A7 (Ci NQ (AV Aa)) sN ⟨Aa,Aa⟩
   ·refine Ap (wv (BV Aa Aa) (wa Aa (A4 (cz hp Aa (λhq hr=>?_) (λhq hs=>?_)))))
    ·refine ck hr λht hu=>AW [(2,rB ((decide (c.fInt=0))&&((decide (c.fN=0))&&(ov (Il F c.fStr)))))] [] ?_ ?_
     ·refine AB (vF BS Aa C7 (vL 0 Ei Aa (wv (BV Aa Aa) (wm Aa (Bb (decide (c.fInt=0)) (λha=>?_) (λha=>?_))))))
      ·refine wo ha (vF BS Aa C7 (wo ha (vL 0 Ei Aa (wo ha (wv (BV Aa Aa) (Ij Aa ha Aa (wm Aa (Bb (decide (c.fN=0)) (λhd=>?_) (λhd=>?_)))))))))
       ·refine wo hd (vF BS Aa Eh (wo hd (vL 0 EI Aa (wo hd (DI Tryz.call92 (Sw F c.fStr (ov (Il F c.fStr)) (Oi (GW (GW ht ha) hd))) Aa (Ij Aa hd Aa (wa Aa (A5 ?_))))))));exact Dc (And.intro ha hd)
       ·refine wf hd (wf hd (wf hd (wv (r:=rB false) (AP Aa hd Aa) (wa Aa (A5 ?_)))));exact Dc (And.intro ha hd)
      ·refine wf ha (wf ha (wf ha (wv (r:=rB false) (AP Aa ha Aa) (wm Aa (wz Aa Aa (wz Aa Aa (wz Aa Aa (wv (r:=rB false) (AP (b:=false) Aa Aa Aa) (wa Aa (A5 ?_))))))))));exact Dc ha
     refine A8 (AM (Al ?_));obtain rfl:=A9 hu;exact A7 (Ci NQ (AV Aa)) sN ⟨Aa,Aa⟩
    ·refine A2 (Ap (wv (BV Aa Aa) (wa Aa (A4 (cz hs Aa (λhl hw=>?_) (λhl hx=>?_))))))
     ·refine AD (Be (ES Aa hl (AW [(2,rB ((decide (c.fInt=0))&&((decide (c.fStr=([]:Ak)))&&(decide (0≤c.fN)))))] [] ?_ ?_)))
      ·refine AB (vF BS Aa C7 (vL 0 Ei Aa (wv (BV Aa Aa) (wm Aa (Bb (decide (c.fInt=0)) (λhe=>?_) (λhe=>?_))))))
       ·refine wo he (vF BS Aa Eh (wo he (vL 0 EI Aa (wo he (wv (HC Aa Aa) (Ij Aa he Aa (wm Aa (Bb (decide (c.fStr=([]:Ak))) (λhj=>?_) (λhj=>?_)))))))))
        ·refine wo hj (vF BS Aa C7 (wo hj (vL 0 Ei Aa (wo hj (wv (On Aa Aa) (Ij Aa hj Aa (wa Aa (A5 ?_))))))));exact Dc (And.intro he hj)
        ·refine wf hj (wf hj (wf hj (wv (r:=rB false) (AP Aa hj Aa) (wa Aa (A5 ?_)))));exact Dc (And.intro he hj)
       ·refine wf he (wf he (wf he (wv (r:=rB false) (AP Aa he Aa) (wm Aa (wz Aa Aa (wz Aa Aa (wz Aa Aa (wv (r:=rB false) (AP (b:=false) Aa Aa Aa) (wa Aa (A5 ?_))))))))));exact Dc he
      refine A8 (AM (Al ?_));obtain rfl:=A9 hw;exact A7 (Ci NQ (AV Aa)) sN ⟨Aa,Aa⟩
     ·refine AB (wv (BV Aa Aa) (wa Aa (A4 (cz hx Aa (λhy hz=>?_) (λhy h0=>?_)))))
      ·refine AW [(2,rB ((decide (c.fInt=0))&&((decide (c.fStr=([]:Ak)))&&(decide (0≤c.fN)))))] [] ?_ ?_
       ·refine AB (vF BS Aa C7 (vL 0 Ei Aa (wv (BV Aa Aa) (wm Aa (Bb (decide (c.fInt=0)) (λhf=>?_) (λhf=>?_))))))
        ·refine wo hf (vF BS Aa Eh (wo hf (vL 0 EI Aa (wo hf (wv (HC Aa Aa) (Ij Aa hf Aa (wm Aa (Bb (decide (c.fStr=([]:Ak))) (λhk=>?_) (λhk=>?_)))))))))
         ·refine wo hk (vF BS Aa C7 (wo hk (vL 0 Ei Aa (wo hk (wv (On Aa Aa) (Ij Aa hk Aa (wa Aa (A5 ?_))))))));exact Dc (And.intro hf hk)
         ·refine wf hk (wf hk (wf hk (wv (r:=rB false) (AP Aa hk Aa) (wa Aa (A5 ?_)))));exact Dc (And.intro hf hk)
        ·refine wf hf (wf hf (wf hf (wv (r:=rB false) (AP Aa hf Aa) (wm Aa (wz Aa Aa (wz Aa Aa (wz Aa Aa (wv (r:=rB false) (AP (b:=false) Aa Aa Aa) (wa Aa (A5 ?_))))))))));exact Dc hf
       refine A8 (AM (Al ?_));obtain rfl:=A9 hz;exact A7 (Ci NQ (AV Aa)) sN ⟨Aa,Aa⟩
      ·refine AD (Bi (Be (Ap (wa Aa (A4 (A8 ?_))))));obtain rfl:=A9 h0;exact A7 (Ci NQ (AV Aa)) (sS sN) ⟨Aa,Aa⟩
theorem Sz (c:Ab)(r:Int)(h:MI c=some r):Fn Tryz.prog GE 78 [Bc (Ac c)] [] (λR H=>R=Am r∧H=[]):=by
 refine enter (n:=28) Tryz.func78 Aa Tryz.ntmps78 Aa (λw Z=>?_);unfold MI at h;refine Ap (BJ Aa Aa (λb1=>?_));refine wa Aa (A4 (A2 (Ap (vF BS Aa J8 (vL 0 JA Aa (A4 (AX (Ap (wv (BV Aa Aa) (wa Aa (A4 (cz h Aa (λc2 h3=>?_) (λc2 h4=>?_)))))))))))))
 ·refine Ap (wa Aa (A4 (A8 (AM (Al ?_)))));obtain rfl:=A9 h3;exact A7 (Ci QJ (AV Aa)) (sS sN) ⟨Aa,Aa⟩
 ·refine Ap (wv (BV Aa Aa) (wa Aa (A4 (cz h4 Aa (λc5 h6=>?_) (λc5 h7=>?_)))))
  ·refine Ap (vF BS Aa C7 (vL 0 Ei Aa (wv (r:=Am (IntKind.wrap .i64 (5-c.fInt))) (Rt Aa Aa) (wa Aa (A4 (A8 (AM (Al ?_))))))));obtain rfl:=A9 h6;exact A7 (Ci QJ (AV Aa)) (sS sN) ⟨Aa,Aa⟩
  ·refine Ap (wv (BV Aa Aa) (wa Aa (A4 (cz h7 Aa (λc8 h9=>?_) (λc8 ha=>?_)))))
   ·refine Ap (vF BS Aa C7 (vL 0 Ei Aa (ck h9 λhb hd=>Hg (rs:=[Am c.fInt]) (r:=rS (Lib.itoa c.fInt)) Tryz.call94 Aa (RW c.fInt hb) Aa Aa (wv (CS G1 Aa) (wa Aa (A4 (A8 (AM (Al ?_)))))))));obtain rfl:=A9 hd;exact A7 (Ci QJ (AV Aa)) (sS sN) ⟨Aa,Aa⟩
   ·refine Ap (wv (BV Aa Aa) (wa Aa (A4 (cz ha Aa (λhe hf=>?_) (λhe hg=>?_)))))
    ·refine Ap (vF BS Aa Eh (vL 0 EI Aa (ob hf λhh hi hj=>DI Tryz.call77 (Li c.fStr hh hi) Aa (wa Aa (A4 (A8 (AM (Al ?_))))))));obtain rfl:=A9 hj;exact A7 (Ci QJ (AV Aa)) (sS sN) ⟨Aa,Aa⟩
    ·refine AD (Bi (Be (Ap (vF BS Aa C7 (vL 0 Ei Aa (wv (r:=Am (IntKind.wrap .i64 (c.fN-1))) (Rt Aa Aa) (wv (Ts U4 Aa Aa) (wv (r:=Am (IntKind.wrap .i64 (2+(max 0 (IntKind.wrap .i64 (c.fN-1)))))) (Oo Aa Aa) (wa Aa (A4 (A8 ?_)))))))))));obtain rfl:=A9 hg;exact A7 (Ci QJ (AV Aa)) (sS sN) ⟨Aa,Aa⟩
theorem PH (F:Nat)(hi:Value)(stack:(List At))(r:(List At))(h:Io F stack=some r):Fn Tryz.prog GE 80 [rv hi] [.row hi 120 5 (Au As stack)] (λR H=>∃u0:Value,R=rv u0∧H=[.row u0 120 5 (Au As r)]):=by
 refine enter (n:=38) Tryz.func80 Aa Tryz.ntmps80 Aa (λw Z=>?_);unfold Io at h;refine Ap (wa Aa (A4 (A2 (AX (ob h λhn ho hl=>BP (S:=Nat×((List At))×(Value)) (V:=((List At))×(Value)) 0 (λσ=>BD (λσ=>C9 σ) σ.1 σ.2.1=some hn) (λσ=>[(0,rv σ.2.2),(2,rv (.slice none 0 0))]) (λσ=>[.row σ.2.2 120 5 (Au As σ.2.1)]) (λσ=>σ.1) (F,stack,hi) ho (AZ.c Aa (AZ.c Aa AZ.nil)) (sC sN) (λσ=>De σ.1=some r) (λσ=>[(0,rv σ.2),(2,rv (.slice none 0 0))]) (λσ=>[.row σ.2 120 5 (Au As σ.1)]) ?_ ?_)))))
 ·rintro⟨hG,ha,hd⟩ hp;refine C4 (l':=[(0,rv hd),(2,rv (.slice none 0 0))]) (H':=[.row hd 120 5 (Au As ha)]) Aa Aa ?_;obtain⟨hq,rfl,hr,hg,hj⟩:=DR hp;replace hg:C9 ha=some hr:=hg;unfold C9 at hg;refine A2 (Ap (wm Aa (wv (DO (ys:=ha) (enc:=As) (i:=0) G3 Aa Aa) (wv (Ez Aa Aa) (A4 (cz hg Aa (λhs ht=>?_) (λhs hu=>?_)))))))
  ·refine AD (Be (AX (Ap (wm Aa (wm Aa (wv (DO (ys:=ha) (enc:=As) (i:=0) G3 Aa Aa) (ck ht λhw hx=>wv (Lv Aa Aa hw) (ck hx λhe hy=>wv (r:=rv (Ed 5 hd (CN ((ha.length:Int)-1)) 0)) (Jb (i:=0) G3 MD Aa Aa Aa (Bz he)) (wa Aa (BF (wm Aa (wv (r:=rv (Ed 5 hd (CN ((ha.length:Int)-1)) 0)) (BH (k:=0) Aa (Bz he) Aa Aa) (wv (r:=rv (Ed 5 hd (CN ((ha.length:Int)-1)) 1)) (DY (k:=0) G2 Aa C7 Aa (Bz he) Aa Aa Aa) (wv (r:=Am ((Ae ha ((ha.length:Int)-1)).fLeft)) (EL (enc:=As) (ys:=ha) (i:=0) (j:=(ha.length:Int)-1) Ei Aa Aa he Aa) (ck hy λhz h0=>wv (Lv Aa Aa hz) (wv (r:=rv (Ed 5 hd (CN ((ha.length:Int)-1)) 0)) (BH (k:=0) Aa (Bz he) Aa Aa) (wv (r:=rv (Ed 5 hd (CN ((ha.length:Int)-1)) 1)) (DY (k:=0) G2 Aa C7 Aa (Bz he) Aa Aa Aa) (IS (enc:=As) (ys:=ha) (y':=(At.mk ((Ae ha ((ha.length:Int)-1)).fPairs) (((Ae ha ((ha.length:Int)-1)).fLeft)-1) ((Ae ha ((ha.length:Int)-1)).fKey) ((Ae ha ((ha.length:Int)-1)).fLast) ((Ae ha ((ha.length:Int)-1)).fStarted))) (i:=0) (j:=(ha.length:Int)-1) C7 Aa Aa (BZ Aa) Aa he Aa Aa (H':=[.row hd 120 5 (Au As (List.set ha (CN ((ha.length:Int)-1)) (At.mk ((Ae ha ((ha.length:Int)-1)).fPairs) (((Ae ha ((ha.length:Int)-1)).fLeft)-1) ((Ae ha ((ha.length:Int)-1)).fKey) ((Ae ha ((ha.length:Int)-1)).fLast) ((Ae ha ((ha.length:Int)-1)).fStarted))))]) Aa (bd h0 λhb hf h1=>?_)))))))))))))))))));rw[← hf];refine A4 (A2 (Ap (wm Aa (wv (r:=rv (Ed 5 hd (CN ((ha.length:Int)-1)) 0)) (BH (k:=0) Aa (Bz (Cg he hf)) Aa Aa) (wv (r:=rv (Ed 5 hd (CN ((ha.length:Int)-1)) 1)) (DY (k:=0) G2 Aa C7 Aa (Bz (Cg he hf)) Aa Aa Aa) (wv (r:=Am ((Ae hb ((ha.length:Int)-1)).fLeft)) (EL (enc:=As) (ys:=hb) (i:=0) (j:=(ha.length:Int)-1) Ei Aa Aa (Cg he hf) Aa) (wv (Ez Aa Aa) (A4 (cz h1 Aa (λh2 h3=>?_) (λh2 h4=>?_))))))))))
   ·refine Ap (wm Aa (wm Aa (wv (r:=rv (Ed 5 hd (CN ((ha.length:Int)-1)) 0)) (BH (k:=0) Aa (Bz (Cg he hf)) Aa Aa) (wv (r:=rv (Ed 5 hd (CN ((ha.length:Int)-1)) 0)) (DY (k:=0) G2 Aa Ih Aa (Bz (Cg he hf)) Aa Aa Aa) (wv (r:=rB ((Ae hb ((ha.length:Int)-1)).fPairs)) (EL (enc:=As) (ys:=hb) (i:=0) (j:=(ha.length:Int)-1) Su Aa Aa (Cg he hf) Aa) (wv (r:=rv (Ed 5 hd (CN ((ha.length:Int)-1)) 0)) (BH (k:=0) Aa (Bz (Cg he hf)) Aa Aa) (wv (r:=rv (Ed 5 hd (CN ((ha.length:Int)-1)) 2)) (DY (k:=0) G2 Aa Ih Aa (Bz (Cg he hf)) Aa Aa Aa) (IS (enc:=As) (ys:=hb) (y':=(At.mk ((Ae hb ((ha.length:Int)-1)).fPairs) ((Ae hb ((ha.length:Int)-1)).fLeft) ((Ae hb ((ha.length:Int)-1)).fPairs) ((Ae hb ((ha.length:Int)-1)).fLast) ((Ae hb ((ha.length:Int)-1)).fStarted))) (i:=0) (j:=(ha.length:Int)-1) Ih Aa Aa (BZ Aa) Aa (Cg he hf) Aa Aa (H':=[.row hd 120 5 (Au As (List.set hb (CN ((ha.length:Int)-1)) (At.mk ((Ae hb ((ha.length:Int)-1)).fPairs) ((Ae hb ((ha.length:Int)-1)).fLeft) ((Ae hb ((ha.length:Int)-1)).fPairs) ((Ae hb ((ha.length:Int)-1)).fLast) ((Ae hb ((ha.length:Int)-1)).fStarted))))]) Aa (bd h3 λhH h5 h6=>?_)))))))));rw[← h5];refine BF (wm Aa (wa Aa (A4 (A8 (Al (AM (Al (B0 ?_))))))));have h7:=Cj h6 hj hl;refine AM (Al ?_);obtain rfl:=A9 h7;exact A7 (Ci Tryz.results80 (AV Aa)) (sC sN) ⟨hd,Aa,Aa⟩
   ·refine AD (Be (AB (wm Aa (wm Aa (wv (DO (ys:=hb) (enc:=As) (i:=0) G3 Aa Aa) (ck h4 λh8 h9=>wv (Lv Aa Aa h8) (ck h9 λhA hB=>TX (i:=0) G3 MD Aa Aa Aa hA Aa (λhC=>?_))))))));refine wa Aa (A5 (Bi ?_));have hD:=BQ hB hj;exact AO (AY (hq,List.take (CN ((hb.length:Int)-1)) hb,hC) ⟨hD,Vn _⟩ (AZ.c Aa (AZ.c Aa AZ.nil)) (sC sN))
  ·refine BL (AE ?_);have hE:=CB hu hj hl;exact AE (B1 (AY (ha,hd) hE (AZ.c Aa (AZ.c Aa AZ.nil)) (sC sN)))
 ·rintro⟨hm,hk⟩ hh;refine DK (l':=[(0,rv hk),(2,rv (.slice none 0 0))]) (H':=[.row hk 120 5 (Au As hm)]) Aa Aa ?_;replace hh:De hm=some r:=hh;unfold De at hh;refine Bv (Be (Ap (wm Aa (wa Aa (A4 (A8 ?_))))));obtain rfl:=A9 hh;exact A7 (Ci Tryz.results80 (AV Aa)) (sC sN) ⟨hk,Aa,Aa⟩
theorem S2 (F:Nat)(v:(List Ab))(r:Int×A3×Bool)(h:In F v=some r):Fn Tryz.prog GE 56 [AL 4 (Au Ac v)] [] (λR H=>R=CP [Am r.1,Bc (AK r.2.1),rB r.2.2]∧H=[]):=by
 refine enter (n:=152) Tryz.func56 Aa Tryz.ntmps56 Aa (λw Z=>?_);unfold In at h;refine Ap (wa Aa (BM (cs:=[Am 0,Am 0,rB false,rB false]) Tryz.zeroValue105 Aa Aa (λb1=>?_)));refine wa Aa (A4 (QP (Ap (BM (cs:=[Am 0,Am 0,rB false,rB false]) Tryz.zeroValue105 Aa Aa (λb2=>?_)))));refine BF (wa Aa (A4 (A2 (QQ (Be (A2 (Ap (wm Aa (wv (Bl (ys:=v) (enc:=Ac) Cy Aa) (wv (r:=Am 0) (Ay Aa) (A4 (AX (WC.nilrow (e:=120) (sz:=5) (JI (H2:=[.blk b2 [Am 0,Am 0,rB false,rB false] 105,.blk b1 [Am 0,Am 0,rB false,rB false] 105,.row (.slice none 0 0                                                                                                                        ) 120 5 (Au As ([]:List At))]) ((Aj (i:=1) Aa).trans (US _ ((Aj (i:=1) Aa).trans (US _ (UY _))))) (ob h λhA hB hy=>BP (S:=Nat×((List At)×Int×A3)×(Value)) (V:=(A3)×(Unit)) 0 (λσ=>BD (λσ=>C8 F v σ.1 σ.2.1 σ.2.2) σ.1 σ.2.1=some hA) (λσ=>[(0,AL 4 (Au Ac v)),(3,rP b1 0),(5,rP b2 0),(6,rv σ.2.2),(11,AL 4 (Au Ac v)),(12,Am (v.length:Int)),(13,Am σ.2.1.2.1)]) (λσ=>[.blk b2 (AK σ.2.1.2.2) 105,.blk b1 [Am 0,Am 0,rB false,rB false] 105,.row σ.2.2 120 5 (Au As σ.2.1.1)]) (λσ=>σ.1) (F,(([]:List At),0,(A3.mk 0 0 false false)),(.slice none 0 0                                                                                                                        )) hB (AZ.c Aa (AZ.c Aa (AZ.c5 Aa Aa Aa Aa Aa AZ.nil))) (sC (sC (sC sN))) (λσ=>Im σ.1=some r) (λσ=>[(3,rP b1 0),(5,rP b2 0)]) (λσ=>[.blk b2 (AK σ.1) 105,.blk b1 [Am 0,Am 0,rB false,rB false] 105]) ?_ ?_)))))))))))))))
 ·rintro⟨gI,⟨hd,hb,ha⟩,he⟩ hC;refine C4 (l':=[(0,AL 4 (Au Ac v)),(3,rP b1 0),(5,rP b2 0),(6,rv he),(11,AL 4 (Au Ac v)),(12,Am (v.length:Int)),(13,Am hb)]) (H':=[.blk b2 (AK ha) 105,.blk b1 [Am 0,Am 0,rB false,rB false] 105,.row he 120 5 (Au As hd)]) Aa Aa ?_;obtain⟨hD,rfl,h4,h0,hx⟩:=DR hC;replace h0:C8 F v hd hb ha=some h4:=h0;unfold C8 at h0;refine Ap (wv (E8 Aa Aa) (A4 (A2 (cz h0 Aa (λhE hG=>?_) (λhE hH=>?_)))))
  ·refine AD (Be (Dd (S:=((List At)×A3)×(Value)) (λσ=>CY hb σ.1.1 σ.1.2=some h4) (λσ=>[(0,AL 4 (Au Ac v)),(3,rP b1 0),(5,rP b2 0),(6,rv σ.2),(11,AL 4 (Au Ac v)),(12,Am (v.length:Int)),(13,Am hb)]) (λσ=>[.blk b2 (AK σ.1.2) 105,.blk b1 [Am 0,Am 0,rB false,rB false] 105,.row σ.2 120 5 (Au As σ.1.1)]) ?_ ?_))
   ·refine AX (Ap (wm Aa (ck hG λhI hJ=>wv (By (enc:=Ac) (ys:=v) Cy CW Aa Aa hI) (wv (CR LK CW Aa Aa Aa) (BM (cs:=[Am 0,Am 0,rS ([]:Ak),Am 0]) KQ Aa Aa (λhf=>?_))))));refine wa Aa (AG (i:=0) CW Aa Aa Aa (Bh.c Aa) Aa Aa (cs':=[Am ((Ae v hb).fKind),Am ((Ae v hb).fInt),rS ((Ae v hb).fStr),Am ((Ae v hb).fN)]) Aa (H':=[.blk hf (Ac (Ae v hb)) 63,.blk b2 (AK ha) 105,.blk b1 [Am 0,Am 0,rB false,rB false] 105,.row he 120 5 (Au As hd)]) Aa (A4 (A2 (Ap (wv (Bf (i:=0) LK CW Aa Aa Aa Aa) (ob hJ λhK hL hN=>DI Tryz.call76 (QT F (Ae v hb) hK hL) Aa (wv (Cd Aa) (A4 (cz hN Aa (λhO hP=>?_) (λhO hQ=>?_))))))))))
    ·refine A2 (GF (H1:=[.blk hf (Ac (Ae v hb)) 63,.blk b2 (AK ha) 105,.blk b1 (AK ha) 105,.row he 120 5 (Au As hd)]) [3,5] [⟨[],Bc (AK ha),1⟩,⟨[],Am 0,0⟩,⟨[0],rv undef,2⟩,⟨[],rB false,0⟩] (rle [(3,_),(2,[.blk hf (Ac (Ae v hb)) 63,.blk b2 (AK ha) 105,.blk b1 (AK ha) 105,.row he 120 5 (Au As hd)])]) [2,4,3] ?_ ?_)
     ·refine of (Bf (i:=1) H7 Ea Aa Aa Aa Aa) (oq (AQ Aa) (Kl Aa (Nf (C1 (i:=2) Ea Aa Aa Aa (Bh.c Aa) Aa Aa (cs':=[Am ha.fDepth,Am ha.fBytes,rB ha.fOutside,rB ha.fLong]) Aa (H':=[.blk hf (Ac (Ae v hb)) 63,.blk b2 (AK ha) 105,.blk b1 (AK ha) 105,.row he 120 5 (Au As hd)]) Aa)) ?_));refine oq (AQ Aa) ?_;exact Dk
     refine Be (A8 (Al (AM (Al (Al (B0 ?_))))));have hR:=Cj hP hx hy;refine AM (Al (Ik ?_));obtain rfl:=A9 hR;exact A7 (QC QK (AV Aa) (BX (i:=2) H7 Ea Aa Aa Aa) (AV Aa)) (sS (sS (sS (sS sN)))) ⟨Aa,Aa⟩
    ·refine AD (Be (A2 (Ap (wm Aa (wv (DO (ys:=hd) (enc:=As) (i:=3) G3 Aa Aa) (wa Aa (A4 (ck hQ λhS hT=>ck hT λh5 hU=>AW [(0,AL 4 (Au Ac v)),(3,rP b1 0),(5,rP b2 0),(6,rv he),(7,Am hb),(8,rP hf 0),(9,Am (hd.length:Int)),(11,AL 4 (Au Ac v)),(12,Am (v.length:Int)),(13,Am hb),(33,rB ((decide (0<(hd.length:Int)))&&((Ae hd ((hd.length:Int)-1)).fKey)))] [.blk hf (Ac (Ae v hb)) 63,.blk b2 (AK ha) 105,.blk b1 [Am 0,Am 0,rB false,rB false] 105,.row he 120 5 (Au As hd)] ?_ ?_))))))))
     ·refine AB (wm Aa (wv (Ez Aa Aa) (wm Aa (Bb (decide (0<(hd.length:Int))) (λhi=>?_) (λhi=>?_)))))
      ·refine wo hi (wm Aa (wo hi (wm Aa (wo hi (wv (Lv Aa Aa (GW hS hi)) (wo hi (wv (r:=rv (Ed 5 he (CN ((hd.length:Int)-1)) 0)) (Jb (i:=3) G3 MD Aa Aa Aa (Bz (GW h5 hi))) (wo hi (wv (r:=rv (Ed 5 he (CN ((hd.length:Int)-1)) 2)) (DY (k:=3) G2 Aa Ih Aa (Bz (GW h5 hi)) Aa Aa Aa) (wo hi (wv (r:=rB ((Ae hd ((hd.length:Int)-1)).fKey)) (EL (enc:=As) (ys:=hd) (i:=3) (j:=(hd.length:Int)-1) Su Aa Aa (GW h5 hi) Aa) (Ij Aa hi Aa (A5 ?_)))))))))))));exact Dc hi
      ·refine wf hi (wf hi (wf hi (wf hi (wf hi (wf hi (wv (r:=rB false) (AP Aa hi Aa) (A5 ?_)))))));exact Dc hi
     refine cz hU Aa (λhV hW=>?_) (λhV hX=>?_)
     ·refine Ap (wm Aa (wm Aa (ck hW λhY hZ=>wv (Lv Aa Aa hY) (ck hZ λhj ga=>wv (r:=rv (Ed 5 he (CN ((hd.length:Int)-1)) 0)) (Jb (i:=3) G3 MD Aa Aa Aa (Bz hj)) (wa Aa (A4 (A2 (AW [(0,AL 4 (Au Ac v)),(3,rP b1 0),(5,rP b2 0),(6,rv he),(8,rP hf 0),(10,rv (Ed 5 he (CN ((hd.length:Int)-1)) 0)),(11,AL 4 (Au Ac v)),(12,Am (v.length:Int)),(13,Am hb),(38,rP hf 0),(39,Am ((Ae v hb).fKind)),(40,rB (!decide (((Ae v hb).fKind)=4))),(41,rB (!decide (((Ae v hb).fKind)=4))),(55,rB ((!decide (((Ae v hb).fKind)=4))||(((Ae hd ((hd.length:Int)-1)).fStarted)&&(BE ((Ae v hb).fStr) ((Ae hd ((hd.length:Int)-1)).fLast)||decide (((Ae v hb).fStr)=((Ae hd ((hd.length:Int)-1)).fLast))))))] [.blk hf (Ac (Ae v hb)) 63,.blk b2 (AK ha) 105,.blk b1 [Am 0,Am 0,rB false,rB false] 105,.row he 120 5 (Au As hd)] ?_ ?_))))))))
      ·refine Bb (!decide (((Ae v hb).fKind)=4)) (λhh=>?_) (λhh=>?_)
       ·refine Et [0,3,5,6,8,10,11,12,13] [⟨[],rP hf 0,0⟩,⟨[0],Am ((Ae v hb).fKind),1⟩,⟨[1],rB (!decide (((Ae v hb).fKind)=4)),0⟩,⟨[2],rB (!decide (((Ae v hb).fKind)=4)),0⟩,⟨[3],rv undef,0⟩,⟨[4,3],rv undef,0⟩,⟨[5,3],rv undef,0⟩,⟨[6,3],rv undef,0⟩,⟨[7,3],rv undef,0⟩,⟨[8],rv undef,0⟩,⟨[9,8],rv undef,0⟩,⟨[8],rv undef,0⟩,⟨[11,8],rv undef,0⟩,⟨[12,8],rv undef,0⟩,⟨[13,8],rv undef,0⟩,⟨[10,14,8],rv undef,0⟩,⟨[8,15,3],rv undef,0⟩,⟨[3,16],rB true,0⟩] [38,39,40,41,42,43,44,45,46,47,48,49,50,51,52,53,54,55,0,3,5,6,8,10,11,12,13] ?_ ?_
        ·refine oq (AR BS Aa J8 Aa Aa) (of (B5 (i:=0) JA Aa Aa Aa) (oq (Ey Aa Aa) (oq (Ay Aa) (oz hh (oz hh (oz hh (oz hh (oz hh (ou (ou (ou (ou (ou (ou (ou (oz hh (oq (A6 (b:=!decide (((Ae v hb).fKind)=4)) Aa hh Aa) ?_)))))))))))))))));exact Dk
        exact Dc hh
       ·refine Bb ((Ae hd ((hd.length:Int)-1)).fStarted) (λhk=>?_) (λhk=>?_)
        ·refine Et [0,3,5,6,8,10,11,12,13] [⟨[],rP hf 0,0⟩,⟨[0],Am ((Ae v hb).fKind),1⟩,⟨[1],rB (!decide (((Ae v hb).fKind)=4)),0⟩,⟨[2],rB (!decide (((Ae v hb).fKind)=4)),0⟩,⟨[3],rv (Ed 5 he (CN ((hd.length:Int)-1)) 0),0⟩,⟨[4,3],rv (Ed 5 he (CN ((hd.length:Int)-1)) 0),1⟩,⟨[5,3],rv (Ed 5 he (CN ((hd.length:Int)-1)) 4),1⟩,⟨[6,3],rB ((Ae hd ((hd.length:Int)-1)).fStarted),1⟩,⟨[7,3],rB ((Ae hd ((hd.length:Int)-1)).fStarted),0⟩,⟨[8],rP hf 2,0⟩,⟨[9,8],rS ((Ae v hb).fStr),1⟩,⟨[8],rv (Ed 5 he (CN ((hd.length:Int)-1)) 0),0⟩,⟨[11,8],rv (Ed 5 he (CN ((hd.length:Int)-1)) 0),1⟩,⟨[12,8],rv (Ed 5 he (CN ((hd.length:Int)-1)) 3),1⟩,⟨[13,8],rS ((Ae hd ((hd.length:Int)-1)).fLast),1⟩,⟨[10,14,8],rB (BE ((Ae v hb).fStr) ((Ae hd ((hd.length:Int)-1)).fLast)||decide (((Ae v hb).fStr)=((Ae hd ((hd.length:Int)-1)).fLast))),0⟩,⟨[8,15,3],rB (BE ((Ae v hb).fStr) ((Ae hd ((hd.length:Int)-1)).fLast)||decide (((Ae v hb).fStr)=((Ae hd ((hd.length:Int)-1)).fLast))),0⟩,⟨[3,16],rB (BE ((Ae v hb).fStr) ((Ae hd ((hd.length:Int)-1)).fLast)||decide (((Ae v hb).fStr)=((Ae hd ((hd.length:Int)-1)).fLast))),0⟩] [38,39,40,41,42,43,44,45,46,47,48,49,50,51,52,53,54,55,0,3,5,6,8,10,11,12,13] ?_ ?_
         ·refine oq (AR BS Aa J8 Aa Aa) (of (B5 (i:=0) JA Aa Aa Aa) (oq (Ey Aa Aa) (oq (Ay Aa) (on hh (oq (Ay Aa) (on hh (of (BH (k:=3) Aa (Bz hj) Aa Aa) (on hh (of (DY (k:=3) G2 Aa Ih Aa (Bz hj) Aa Aa Aa) (on hh (of (EL (enc:=As) (ys:=hd) (i:=3) (j:=(hd.length:Int)-1) Su Aa Aa hj Aa) (on hh (oq (Ay Aa) (on hk (oq (AR BS Aa Eh Aa Aa) (on hk (of (B5 (i:=0) EI Aa Aa Aa) (on hk (oq (Ay Aa) (on hk (of (BH (k:=3) Aa (Bz hj) Aa Aa) (on hk (of (DY (k:=3) G2 Aa Eh Aa (Bz hj) Aa Aa Aa) ?_)))))))))))))))))))))));refine on hk (of (EL (enc:=As) (ys:=hd) (i:=3) (j:=(hd.length:Int)-1) EI Aa Aa hj Aa) (on hk (oq (Tr Aa Aa) (on hh (oq (A6 Aa hk Aa) (oq (AP Aa hh Aa) ?_))))));exact Dk
         exact Dc (And.intro hh hk)
        ·refine Et [0,3,5,6,8,10,11,12,13] [⟨[],rP hf 0,0⟩,⟨[0],Am ((Ae v hb).fKind),1⟩,⟨[1],rB (!decide (((Ae v hb).fKind)=4)),0⟩,⟨[2],rB (!decide (((Ae v hb).fKind)=4)),0⟩,⟨[3],rv (Ed 5 he (CN ((hd.length:Int)-1)) 0),0⟩,⟨[4,3],rv (Ed 5 he (CN ((hd.length:Int)-1)) 0),1⟩,⟨[5,3],rv (Ed 5 he (CN ((hd.length:Int)-1)) 4),1⟩,⟨[6,3],rB ((Ae hd ((hd.length:Int)-1)).fStarted),1⟩,⟨[7,3],rB ((Ae hd ((hd.length:Int)-1)).fStarted),0⟩,⟨[8],rv undef,0⟩,⟨[9,8],rv undef,0⟩,⟨[8],rv undef,0⟩,⟨[11,8],rv undef,0⟩,⟨[12,8],rv undef,0⟩,⟨[13,8],rv undef,0⟩,⟨[10,14,8],rv undef,0⟩,⟨[8,15,3],rB false,0⟩,⟨[3,16],rB false,0⟩] [38,39,40,41,42,43,44,45,46,47,48,49,50,51,52,53,54,55,0,3,5,6,8,10,11,12,13] ?_ ?_
         ·refine oq (AR BS Aa J8 Aa Aa) (of (B5 (i:=0) JA Aa Aa Aa) (oq (Ey Aa Aa) (oq (Ay Aa) (on hh (oq (Ay Aa) (on hh (of (BH (k:=3) Aa (Bz hj) Aa Aa) (on hh (of (DY (k:=3) G2 Aa Ih Aa (Bz hj) Aa Aa Aa) (on hh (of (EL (enc:=As) (ys:=hd) (i:=3) (j:=(hd.length:Int)-1) Su Aa Aa hj Aa) (on hh (oq (Ay Aa) (oz hk (oz hk (oz hk (oz hk (oz hk (oz hk (oz hk (on hh (oq (AP (b:=(Ae hd ((hd.length:Int)-1)).fStarted) Aa hk Aa) (oq (AP Aa hh Aa) ?_)))))))))))))))))))))));exact Dk
         exact Dc (And.intro hh hk)
      refine cz ga Aa (λgb gc=>?_) (λgb gd=>?_)
      ·refine A2 (GF (H1:=[.blk hf (Ac (Ae v hb)) 63,.blk b2 (AK ha) 105,.blk b1 (AK ha) 105,.row he 120 5 (Au As hd)]) [3,5] [⟨[],Bc (AK ha),1⟩,⟨[],Am 0,0⟩,⟨[0],rv undef,2⟩,⟨[],rB false,0⟩] (rle [(3,_),(2,[.blk hf (Ac (Ae v hb)) 63,.blk b2 (AK ha) 105,.blk b1 (AK ha) 105,.row he 120 5 (Au As hd)])]) [2,4,3] ?_ ?_)
       ·refine of (Bf (i:=1) H7 Ea Aa Aa Aa Aa) (oq (AQ Aa) (Kl Aa (Nf (C1 (i:=2) Ea Aa Aa Aa (Bh.c Aa) Aa Aa (cs':=[Am ha.fDepth,Am ha.fBytes,rB ha.fOutside,rB ha.fLong]) Aa (H':=[.blk hf (Ac (Ae v hb)) 63,.blk b2 (AK ha) 105,.blk b1 (AK ha) 105,.row he 120 5 (Au As hd)]) Aa)) ?_));refine oq (AQ Aa) ?_;exact Dk
       refine Be (A8 (Al (Al (AM (Al (Al (B0 ?_)))))));have ge:=Cj gc hx hy;refine AM (Al (Ik ?_));obtain rfl:=A9 ge;exact A7 (QC QK (AV Aa) (BX (i:=2) H7 Ea Aa Aa Aa) (AV Aa)) (sS (sS (sS (sS sN)))) ⟨Aa,Aa⟩
      ·refine AD (Be (Ap (wm Aa (wm Aa (wm Aa (vF BS Aa Eh (vL 0 EI Aa (wv (r:=rv (Ed 5 he (CN ((hd.length:Int)-1)) 0)) (BH (k:=3) Aa (Bz hj) Aa Aa) (wv (r:=rv (Ed 5 he (CN ((hd.length:Int)-1)) 3)) (DY (k:=3) G2 Aa Eh Aa (Bz hj) Aa Aa Aa) (IS (enc:=As) (ys:=hd) (y':=(At.mk ((Ae hd ((hd.length:Int)-1)).fPairs) ((Ae hd ((hd.length:Int)-1)).fLeft) ((Ae hd ((hd.length:Int)-1)).fKey) ((Ae v hb).fStr) ((Ae hd ((hd.length:Int)-1)).fStarted))) (i:=3) (j:=(hd.length:Int)-1) Eh Aa Aa (BZ Aa) Aa hj Aa Aa (H':=[.blk hf (Ac (Ae v hb)) 63,.blk b2 (AK ha) 105,.blk b1 [Am 0,Am 0,rB false,rB false] 105,.row he 120 5 (Au As (List.set hd (CN ((hd.length:Int)-1)) (At.mk ((Ae hd ((hd.length:Int)-1)).fPairs) ((Ae hd ((hd.length:Int)-1)).fLeft) ((Ae hd ((hd.length:Int)-1)).fKey) ((Ae v hb).fStr) ((Ae hd ((hd.length:Int)-1)).fStarted))))]) Aa (bd gd λhr hu gf=>?_)))))))))));rw[← hu];refine wv (r:=rv (Ed 5 he (CN ((hd.length:Int)-1)) 0)) (BH (k:=3) Aa (Bz (Cg hj hu)) Aa Aa) (wv (r:=rv (Ed 5 he (CN ((hd.length:Int)-1)) 4)) (DY (k:=3) G2 Aa Ih Aa (Bz (Cg hj hu)) Aa Aa Aa) (IS (enc:=As) (ys:=hr) (y':=(At.mk ((Ae hr ((hd.length:Int)-1)).fPairs) ((Ae hr ((hd.length:Int)-1)).fLeft) ((Ae hr ((hd.length:Int)-1)).fKey) ((Ae hr ((hd.length:Int)-1)).fLast) true)) (i:=3) (j:=(hd.length:Int)-1) Ih Aa Aa (BZ Aa) Aa (Cg hj hu) Aa Aa (H':=[.blk hf (Ac (Ae v hb)) 63,.blk b2 (AK ha) 105,.blk b1 [Am 0,Am 0,rB false,rB false] 105,.row he 120 5 (Au As (List.set hr (CN ((hd.length:Int)-1)) (At.mk ((Ae hr ((hd.length:Int)-1)).fPairs) ((Ae hr ((hd.length:Int)-1)).fLeft) ((Ae hr ((hd.length:Int)-1)).fKey) ((Ae hr ((hd.length:Int)-1)).fLast) true)))]) Aa (bd gf λhs h1 gg=>?_)));rw[← h1];refine wv (r:=rv (Ed 5 he (CN ((hd.length:Int)-1)) 0)) (BH (k:=3) Aa (Bz (Cg (Cg hj hu) h1)) Aa Aa) (wv (r:=rv (Ed 5 he (CN ((hd.length:Int)-1)) 2)) (DY (k:=3) G2 Aa Ih Aa (Bz (Cg (Cg hj hu) h1)) Aa Aa Aa) (IS (enc:=As) (ys:=hs) (y':=(At.mk ((Ae hs ((hd.length:Int)-1)).fPairs) ((Ae hs ((hd.length:Int)-1)).fLeft) false ((Ae hs ((hd.length:Int)-1)).fLast) ((Ae hs ((hd.length:Int)-1)).fStarted))) (i:=3) (j:=(hd.length:Int)-1) Ih Aa Aa (BZ Aa) Aa (Cg (Cg hj hu) h1) Aa Aa (H':=[.blk hf (Ac (Ae v hb)) 63,.blk b2 (AK ha) 105,.blk b1 [Am 0,Am 0,rB false,rB false] 105,.row he 120 5 (Au As (List.set hs (CN ((hd.length:Int)-1)) (At.mk ((Ae hs ((hd.length:Int)-1)).fPairs) ((Ae hs ((hd.length:Int)-1)).fLeft) false ((Ae hs ((hd.length:Int)-1)).fLast) ((Ae hs ((hd.length:Int)-1)).fStarted))))]) Aa (bd gg λht gh gi=>?_)));rw[← gh];refine A4 (A2 (ob gi λhl gj gl=>ck gl λgm gp=>GF (H1:=[.blk hf (Ac (Ae v hb)) 63,.blk b2 [Am ha.fDepth,Am (IntKind.wrap .i64 (ha.fBytes+(hl+1))),rB ha.fOutside,rB ha.fLong] 105,.blk b1 [Am 0,Am 0,rB false,rB false] 105,.row he 120 5 (Au As ht)]) [0,3,5,6,8,11,12,13,38,39,40,41] [⟨[],rP b2 1,0⟩,⟨[0],Am ha.fBytes,1⟩,⟨[],rP hf 2,0⟩,⟨[2],rS ((Ae v hb).fStr),1⟩,⟨[3],Am hl,0⟩,⟨[4],Am (hl+1),0⟩,⟨[1,5],Am (IntKind.wrap .i64 (ha.fBytes+(hl+1))),0⟩,⟨[],rP b2 1,0⟩,⟨[7,6],rv undef,2⟩] (rle [(9,_),(1,[.blk hf (Ac (Ae v hb)) 63,.blk b2 [Am ha.fDepth,Am (IntKind.wrap .i64 (ha.fBytes+(hl+1))),rB ha.fOutside,rB ha.fLong] 105,.blk b1 [Am 0,Am 0,rB false,rB false] 105,.row he 120 5 (Au As ht)])]) [68,69,70,71,72,73,74,75,0,3,5,6,8,11,12,13,38,39,40,41] ?_ ?_))
       ·refine oq (AR Dh Aa C7 Aa Aa) (of (B5 (i:=1) Ei Aa Aa Aa) (oq (AR BS Aa Eh Aa Aa) (of (B5 (i:=0) EI Aa Aa Aa) (CU Aa (λH=>G4 Tryz.call77 (Li ((Ae v hb).fStr) hl gj) Aa) ?_))));refine oq (Cz Aa Aa gm) (oq (Oo Aa Aa) (oq (AR Dh Aa C7 Aa Aa) (Kl Aa (Nf (LF (i:=1) C7 Aa Aa (BZ Aa) Aa Aa (cs':=[Am ha.fDepth,Am (IntKind.wrap .i64 (ha.fBytes+(hl+1))),rB ha.fOutside,rB ha.fLong]) Aa (H':=[.blk hf (Ac (Ae v hb)) 63,.blk b2 [Am ha.fDepth,Am (IntKind.wrap .i64 (ha.fBytes+(hl+1))),rB ha.fOutside,rB ha.fLong] 105,.blk b1 [Am 0,Am 0,rB false,rB false] 105,.row he 120 5 (Au As ht)]) Aa)) ?_)));exact Dk
       refine Be (AW [(0,AL 4 (Au Ac v)),(3,rP b1 0),(5,rP b2 0),(6,rv he),(11,AL 4 (Au Ac v)),(12,Am (v.length:Int)),(13,Am hb),(38,rP hf 0),(39,Am ((Ae v hb).fKind)),(40,rB (!decide (((Ae v hb).fKind)=4))),(41,rB (!decide (((Ae v hb).fKind)=4))),(68,rP b2 1),(69,Am ha.fBytes),(70,rP hf 2),(71,rS ((Ae v hb).fStr)),(72,Am hl),(73,Am (hl+1)),(74,Am (IntKind.wrap .i64 (ha.fBytes+(hl+1)))),(75,rP b2 1)] [.blk hf (Ac (Ae v hb)) 63,.blk b2 [Am ha.fDepth,Am (IntKind.wrap .i64 (ha.fBytes+(hl+1))),rB ha.fOutside,rB (ha.fLong||(decide (200<(((Ae v hb).fStr).length:Int))))] 105,.blk b1 [Am 0,Am 0,rB false,rB false] 105,.row he 120 5 (Au As ht)] ?_ ?_)
       ·refine AB (vF Dh Aa Ih (vL 1 Su Aa (wm Aa (Bb (ha.fLong) (λho=>?_) (λho=>?_)))))
        ·refine wf ho (wf ho (wf ho (wf ho (wv (r:=rB true) (A6 rfl ho rfl) (vF Dh rfl Ih (BO (i:=1) Ih rfl rfl (BZ rfl) rfl rfl (cs':=[Am ha.fDepth,Am (IntKind.wrap .i64 (ha.fBytes+(hl+1))),rB ha.fOutside,rB true]) rfl (H':=[.blk hf (Ac (Ae v hb)) 63,.blk b2 [Am ha.fDepth,Am (IntKind.wrap .i64 (ha.fBytes+(hl+1))),rB ha.fOutside,rB true] 105,.blk b1 [Am 0,Am 0,rB false,rB false] 105,.row he 120 5 (Au As ht)]) rfl (A5 (HI (H':=[.blk hf (Ac (Ae v hb)) 63,.blk b2 [Am ha.fDepth,Am (IntKind.wrap .i64 (ha.fBytes+(hl+1))),rB ha.fOutside,rB (ha.fLong||(decide (200<(((Ae v hb).fStr).length:Int))))] 105,.blk b1 [Am 0,Am 0,rB false,rB false] 105,.row he 120 5 (Au As ht)]) (by simp only[ho,Vs,V6,VL,Vv,VF,V3,VE,VM,Vk,VA,Vf,Va]) ?_))))))));exact wt
        ·refine wo ho (vF BS rfl Eh (wo ho (vL 0 EI rfl (wo ho (wv (CS G1 rfl) (wo ho (wv (Ez rfl rfl) (Ju rfl ho rfl (vF Dh rfl Ih (BO (i:=1) Ih rfl rfl (BZ rfl) rfl rfl (cs':=[Am ha.fDepth,Am (IntKind.wrap .i64 (ha.fBytes+(hl+1))),rB ha.fOutside,rB (decide (200<(((Ae v hb).fStr).length:Int)))]) rfl (H':=[.blk hf (Ac (Ae v hb)) 63,.blk b2 [Am ha.fDepth,Am (IntKind.wrap .i64 (ha.fBytes+(hl+1))),rB ha.fOutside,rB (decide (200<(((Ae v hb).fStr).length:Int)))] 105,.blk b1 [Am 0,Am 0,rB false,rB false] 105,.row he 120 5 (Au As ht)]) rfl (A5 (HI (H':=[.blk hf (Ac (Ae v hb)) 63,.blk b2 [Am ha.fDepth,Am (IntKind.wrap .i64 (ha.fBytes+(hl+1))),rB ha.fOutside,rB (ha.fLong||(decide (200<(((Ae v hb).fStr).length:Int))))] 105,.blk b1 [Am 0,Am 0,rB false,rB false] 105,.row he 120 5 (Au As ht)]) (by simp only[ho,Vs,V6,VL,Vv,VF,V3,VE,VM,Vk,VA,Vf,Va]) ?_))))))))))));exact wt
       exact BL (AE (Bv (AO (AY ((ht,(A3.mk ha.fDepth (IntKind.wrap .i64 (ha.fBytes+(hl+1))) ha.fOutside (ha.fLong||(decide (200<(((Ae v hb).fStr).length:Int)))))),he) gp (AZ.c Aa (AZ.c Aa (AZ.c5 Aa Aa Aa Aa Aa AZ.nil))) (sS (sC (sC (sC sN))))))))
     ·refine AD (Be (Ap (vF Dh Aa C7 (vL 1 Ei Aa (wm Aa (wv (DO (ys:=hd) (enc:=As) (i:=3) G3 Aa Aa) (ck hX λgq gr=>wv (Cz Aa Aa gq) (wv (Ts U4 Aa Aa) (vF Dh Aa C7 (BO (i:=1) C7 Aa Aa (BZ Aa) Aa Aa (cs':=[Am (max ha.fDepth ((hd.length:Int)+1)),Am ha.fBytes,rB ha.fOutside,rB ha.fLong]) Aa (H':=[.blk hf (Ac (Ae v hb)) 63,.blk b2 [Am (max ha.fDepth ((hd.length:Int)+1)),Am ha.fBytes,rB ha.fOutside,rB ha.fLong] 105,.blk b1 [Am 0,Am 0,rB false,rB false] 105,.row he 120 5 (Au As hd)]) Aa (A4 (A2 (ob gr λhg gs gt=>GF (H1:=[.blk hf (Ac (Ae v hb)) 63,.blk b2 [Am (max ha.fDepth ((hd.length:Int)+1)),Am (IntKind.wrap .i64 (ha.fBytes+hg)),rB ha.fOutside,rB ha.fLong] 105,.blk b1 [Am 0,Am 0,rB false,rB false] 105,.row he 120 5 (Au As hd)]) [0,3,5,6,7,8,11,12,13] [⟨[],rP b2 1,0⟩,⟨[0],Am ha.fBytes,1⟩,⟨[],Bc (Ac (Ae v hb)),1⟩,⟨[2],Am hg,0⟩,⟨[1,3],Am (IntKind.wrap .i64 (ha.fBytes+hg)),0⟩,⟨[],rP b2 1,0⟩,⟨[5,4],rv undef,2⟩] (rle [(7,_),(1,[.blk hf (Ac (Ae v hb)) 63,.blk b2 [Am (max ha.fDepth ((hd.length:Int)+1)),Am (IntKind.wrap .i64 (ha.fBytes+hg)),rB ha.fOutside,rB ha.fLong] 105,.blk b1 [Am 0,Am 0,rB false,rB false] 105,.row he 120 5 (Au As hd)])]) [92,93,94,95,96,97,0,3,5,6,7,8,11,12,13] ?_ ?_)))))))))))))
      ·refine oq (AR Dh Aa C7 Aa Aa) (of (B5 (i:=1) Ei Aa Aa Aa) (of (Bf (i:=0) LK CW Aa Aa Aa Aa) (CU Aa (λH=>G4 Tryz.call78 (Sz (Ae v hb) hg gs) Aa) ?_)));refine oq (Oo Aa Aa) (oq (AR Dh Aa C7 Aa Aa) (Kl Aa (Nf (LF (i:=1) C7 Aa Aa (BZ Aa) Aa Aa (cs':=[Am (max ha.fDepth ((hd.length:Int)+1)),Am (IntKind.wrap .i64 (ha.fBytes+hg)),rB ha.fOutside,rB ha.fLong]) Aa (H':=[.blk hf (Ac (Ae v hb)) 63,.blk b2 [Am (max ha.fDepth ((hd.length:Int)+1)),Am (IntKind.wrap .i64 (ha.fBytes+hg)),rB ha.fOutside,rB ha.fLong] 105,.blk b1 [Am 0,Am 0,rB false,rB false] 105,.row he 120 5 (Au As hd)]) Aa)) ?_));exact Dk
      refine Be (ck gt λgu gv=>AW [(0,AL 4 (Au Ac v)),(3,rP b1 0),(5,rP b2 0),(6,rv he),(7,Am hb),(8,rP hf 0),(11,AL 4 (Au Ac v)),(12,Am (v.length:Int)),(13,Am hb),(92,rP b2 1),(93,Am ha.fBytes),(94,Bc (Ac (Ae v hb))),(95,Am hg),(96,Am (IntKind.wrap .i64 (ha.fBytes+hg))),(97,rP b2 1)] [.blk hf (Ac (Ae v hb)) 63,.blk b2 [Am (max ha.fDepth ((hd.length:Int)+1)),Am (IntKind.wrap .i64 (ha.fBytes+hg)),rB (ha.fOutside||((decide (((Ae v hb).fKind)=3))&&(!(ov (Bj ((Ae v hb).fInt)))))),rB ha.fLong] 105,.blk b1 [Am 0,Am 0,rB false,rB false] 105,.row he 120 5 (Au As hd)] ?_ ?_)
      ·refine AB (vF Dh Aa Ih (vL 1 Su Aa (wm Aa (Bb (ha.fOutside) (λhm=>?_) (λhm=>?_)))))
       ·refine wf hm (wf hm (wf hm (wf hm (wu (wu (wu (wu (wf hm (wv (r:=rB true) (A6 rfl hm rfl) (vF Dh rfl Ih (BO (i:=1) Ih rfl rfl (BZ rfl) rfl rfl (cs':=[Am (max ha.fDepth ((hd.length:Int)+1)),Am (IntKind.wrap .i64 (ha.fBytes+hg)),rB true,rB ha.fLong]) rfl (H':=[.blk hf (Ac (Ae v hb)) 63,.blk b2 [Am (max ha.fDepth ((hd.length:Int)+1)),Am (IntKind.wrap .i64 (ha.fBytes+hg)),rB true,rB ha.fLong] 105,.blk b1 [Am 0,Am 0,rB false,rB false] 105,.row he 120 5 (Au As hd)]) rfl (A5 (HI (H':=[.blk hf (Ac (Ae v hb)) 63,.blk b2 [Am (max ha.fDepth ((hd.length:Int)+1)),Am (IntKind.wrap .i64 (ha.fBytes+hg)),rB (ha.fOutside||((decide (((Ae v hb).fKind)=3))&&(!(ov (Bj ((Ae v hb).fInt)))))),rB ha.fLong] 105,.blk b1 [Am 0,Am 0,rB false,rB false] 105,.row he 120 5 (Au As hd)]) (by simp only[hm,Vs,V6,VL,Vv,VF,V3,VE,VM,Vk,VA,Vf,Va]) ?_)))))))))))));exact wt
       ·refine wo hm (vF BS Aa J8 (wo hm (vL 0 JA Aa (wo hm (wv (BV Aa Aa) (wo hm (wm Aa (Bb (decide (((Ae v hb).fKind)=3)) (λhn=>?_) (λhn=>?_)))))))))
        ·refine wo hn (vF BS rfl C7 (wo hn (vL 0 Ei rfl (wo hn (DI Tryz.call79 (Kq ((Ae v hb).fInt) (ov (Bj ((Ae v hb).fInt))) (Oi (GW (K8 gu hm) hn))) rfl (wo hn (wv (Cd rfl) (wo hm (Ij rfl hn rfl (Ju rfl hm rfl (vF Dh rfl Ih (BO (i:=1) Ih rfl rfl (BZ rfl) rfl rfl (cs':=[Am (max ha.fDepth ((hd.length:Int)+1)),Am (IntKind.wrap .i64 (ha.fBytes+hg)),rB (!(ov (Bj ((Ae v hb).fInt)))),rB ha.fLong]) rfl (H':=[.blk hf (Ac (Ae v hb)) 63,.blk b2 [Am (max ha.fDepth ((hd.length:Int)+1)),Am (IntKind.wrap .i64 (ha.fBytes+hg)),rB (!(ov (Bj ((Ae v hb).fInt)))),rB ha.fLong] 105,.blk b1 [Am 0,Am 0,rB false,rB false] 105,.row he 120 5 (Au As hd)]) rfl (A5 (HI (H':=[.blk hf (Ac (Ae v hb)) 63,.blk b2 [Am (max ha.fDepth ((hd.length:Int)+1)),Am (IntKind.wrap .i64 (ha.fBytes+hg)),rB (ha.fOutside||((decide (((Ae v hb).fKind)=3))&&(!(ov (Bj ((Ae v hb).fInt)))))),rB ha.fLong] 105,.blk b1 [Am 0,Am 0,rB false,rB false] 105,.row he 120 5 (Au As hd)]) (by simp only[hm,hn,Vs,V6,VL,Vv,VF,V3,VE,VM,Vk,VA,Vf,Va]) ?_))))))))))))));exact wt
        ·refine wf hn (wf hn (wf hn (wf hn (wo hm (wv (r:=rB false) (AP rfl hn rfl) (Ju rfl hm rfl (vF Dh rfl Ih (BO (i:=1) Ih rfl rfl (BZ rfl) rfl rfl (cs':=[Am (max ha.fDepth ((hd.length:Int)+1)),Am (IntKind.wrap .i64 (ha.fBytes+hg)),rB false,rB ha.fLong]) rfl (H':=[.blk hf (Ac (Ae v hb)) 63,.blk b2 [Am (max ha.fDepth ((hd.length:Int)+1)),Am (IntKind.wrap .i64 (ha.fBytes+hg)),rB false,rB ha.fLong] 105,.blk b1 [Am 0,Am 0,rB false,rB false] 105,.row he 120 5 (Au As hd)]) rfl (A5 (HI (H':=[.blk hf (Ac (Ae v hb)) 63,.blk b2 [Am (max ha.fDepth ((hd.length:Int)+1)),Am (IntKind.wrap .i64 (ha.fBytes+hg)),rB (ha.fOutside||((decide (((Ae v hb).fKind)=3))&&(!(ov (Bj ((Ae v hb).fInt)))))),rB ha.fLong] 105,.blk b1 [Am 0,Am 0,rB false,rB false] 105,.row he 120 5 (Au As hd)]) (by simp only[hm,hn,Vs,V6,VL,Vv,VF,V3,VE,VM,Vk,VA,Vf,Va]) ?_))))))))));exact wt
      refine AW [(0,AL 4 (Au Ac v)),(3,rP b1 0),(5,rP b2 0),(6,rv he),(7,Am hb),(8,rP hf 0),(11,AL 4 (Au Ac v)),(12,Am (v.length:Int)),(13,Am hb),(92,rP b2 1),(93,Am ha.fBytes),(94,Bc (Ac (Ae v hb))),(95,Am hg),(96,Am (IntKind.wrap .i64 (ha.fBytes+hg))),(97,rP b2 1)] [.blk hf (Ac (Ae v hb)) 63,.blk b2 [Am (max ha.fDepth ((hd.length:Int)+1)),Am (IntKind.wrap .i64 (ha.fBytes+hg)),rB (ha.fOutside||((decide (((Ae v hb).fKind)=3))&&(!(ov (Bj ((Ae v hb).fInt)))))),rB (ha.fLong||(decide (200<(((Ae v hb).fStr).length:Int))))] 105,.blk b1 [Am 0,Am 0,rB false,rB false] 105,.row he 120 5 (Au As hd)] ?_ ?_
      ·refine AB (vF Dh Aa Ih (vL 1 Su Aa (wm Aa (Bb (ha.fLong) (λhp=>?_) (λhp=>?_)))))
       ·refine wf hp (wf hp (wf hp (wf hp (wv (r:=rB true) (A6 rfl hp rfl) (vF Dh rfl Ih (BO (i:=1) Ih rfl rfl (BZ rfl) rfl rfl (cs':=[Am (max ha.fDepth ((hd.length:Int)+1)),Am (IntKind.wrap .i64 (ha.fBytes+hg)),rB (ha.fOutside||((decide (((Ae v hb).fKind)=3))&&(!(ov (Bj ((Ae v hb).fInt)))))),rB true]) rfl (H':=[.blk hf (Ac (Ae v hb)) 63,.blk b2 [Am (max ha.fDepth ((hd.length:Int)+1)),Am (IntKind.wrap .i64 (ha.fBytes+hg)),rB (ha.fOutside||((decide (((Ae v hb).fKind)=3))&&(!(ov (Bj ((Ae v hb).fInt)))))),rB true] 105,.blk b1 [Am 0,Am 0,rB false,rB false] 105,.row he 120 5 (Au As hd)]) rfl (A5 (HI (H':=[.blk hf (Ac (Ae v hb)) 63,.blk b2 [Am (max ha.fDepth ((hd.length:Int)+1)),Am (IntKind.wrap .i64 (ha.fBytes+hg)),rB (ha.fOutside||((decide (((Ae v hb).fKind)=3))&&(!(ov (Bj ((Ae v hb).fInt)))))),rB (ha.fLong||(decide (200<(((Ae v hb).fStr).length:Int))))] 105,.blk b1 [Am 0,Am 0,rB false,rB false] 105,.row he 120 5 (Au As hd)]) (by simp only[hp,Vs,V6,VL,Vv,VF,V3,VE,VM,Vk,VA,Vf,Va]) ?_))))))));exact wt
       ·refine wo hp (vF BS rfl Eh (wo hp (vL 0 EI rfl (wo hp (wv (CS G1 rfl) (wo hp (wv (Ez rfl rfl) (Ju rfl hp rfl (vF Dh rfl Ih (BO (i:=1) Ih rfl rfl (BZ rfl) rfl rfl (cs':=[Am (max ha.fDepth ((hd.length:Int)+1)),Am (IntKind.wrap .i64 (ha.fBytes+hg)),rB (ha.fOutside||((decide (((Ae v hb).fKind)=3))&&(!(ov (Bj ((Ae v hb).fInt)))))),rB (decide (200<(((Ae v hb).fStr).length:Int)))]) rfl (H':=[.blk hf (Ac (Ae v hb)) 63,.blk b2 [Am (max ha.fDepth ((hd.length:Int)+1)),Am (IntKind.wrap .i64 (ha.fBytes+hg)),rB (ha.fOutside||((decide (((Ae v hb).fKind)=3))&&(!(ov (Bj ((Ae v hb).fInt)))))),rB (decide (200<(((Ae v hb).fStr).length:Int)))] 105,.blk b1 [Am 0,Am 0,rB false,rB false] 105,.row he 120 5 (Au As hd)]) rfl (A5 (HI (H':=[.blk hf (Ac (Ae v hb)) 63,.blk b2 [Am (max ha.fDepth ((hd.length:Int)+1)),Am (IntKind.wrap .i64 (ha.fBytes+hg)),rB (ha.fOutside||((decide (((Ae v hb).fKind)=3))&&(!(ov (Bj ((Ae v hb).fInt)))))),rB (ha.fLong||(decide (200<(((Ae v hb).fStr).length:Int))))] 105,.blk b1 [Am 0,Am 0,rB false,rB false] 105,.row he 120 5 (Au As hd)]) (by simp only[hp,Vs,V6,VL,Vv,VF,V3,VE,VM,Vk,VA,Vf,Va]) ?_))))))))))));exact wt
      refine A2 (Ap (vF BS Aa C7 (vL 0 Ei Aa (wv (Ez Aa Aa) (A4 (cz gv Aa (λgw gx=>?_) (λgw gy=>?_)))))))
      ·refine A2 (Ap (vF BS Aa C7 (vL 0 Ei Aa (wm Aa (wv (Bl (ys:=v) (enc:=Ac) Cy Aa) (wv (Ez Aa Aa) (A4 (cz gx Aa (λgz g0=>?_) (λgz g1=>?_)))))))))
       ·refine A2 (GF (H1:=[.blk hf (Ac (Ae v hb)) 63,.blk b2 [Am (max ha.fDepth ((hd.length:Int)+1)),Am (IntKind.wrap .i64 (ha.fBytes+hg)),rB (ha.fOutside||((decide (((Ae v hb).fKind)=3))&&(!(ov (Bj ((Ae v hb).fInt)))))),rB (ha.fLong||(decide (200<(((Ae v hb).fStr).length:Int))))] 105,.blk b1 [Am (max ha.fDepth ((hd.length:Int)+1)),Am (IntKind.wrap .i64 (ha.fBytes+hg)),rB (ha.fOutside||((decide (((Ae v hb).fKind)=3))&&(!(ov (Bj ((Ae v hb).fInt)))))),rB (ha.fLong||(decide (200<(((Ae v hb).fStr).length:Int))))] 105,.row he 120 5 (Au As hd)]) [3,5] [⟨[],Bc [Am (max ha.fDepth ((hd.length:Int)+1)),Am (IntKind.wrap .i64 (ha.fBytes+hg)),rB (ha.fOutside||((decide (((Ae v hb).fKind)=3))&&(!(ov (Bj ((Ae v hb).fInt)))))),rB (ha.fLong||(decide (200<(((Ae v hb).fStr).length:Int))))],1⟩,⟨[],Am 0,0⟩,⟨[0],rv undef,2⟩,⟨[],rB false,0⟩] (rle [(3,_),(2,[.blk hf (Ac (Ae v hb)) 63,.blk b2 [Am (max ha.fDepth ((hd.length:Int)+1)),Am (IntKind.wrap .i64 (ha.fBytes+hg)),rB (ha.fOutside||((decide (((Ae v hb).fKind)=3))&&(!(ov (Bj ((Ae v hb).fInt)))))),rB (ha.fLong||(decide (200<(((Ae v hb).fStr).length:Int))))] 105,.blk b1 [Am (max ha.fDepth ((hd.length:Int)+1)),Am (IntKind.wrap .i64 (ha.fBytes+hg)),rB (ha.fOutside||((decide (((Ae v hb).fKind)=3))&&(!(ov (Bj ((Ae v hb).fInt)))))),rB (ha.fLong||(decide (200<(((Ae v hb).fStr).length:Int))))] 105,.row he 120 5 (Au As hd)])]) [2,4,3] ?_ ?_)
        ·refine of (Bf (i:=1) H7 Ea Aa Aa Aa Aa) (oq (AQ Aa) (Kl Aa (Nf (C1 (i:=2) Ea Aa Aa Aa (Bh.c Aa) Aa Aa (cs':=[Am (max ha.fDepth ((hd.length:Int)+1)),Am (IntKind.wrap .i64 (ha.fBytes+hg)),rB (ha.fOutside||((decide (((Ae v hb).fKind)=3))&&(!(ov (Bj ((Ae v hb).fInt)))))),rB (ha.fLong||(decide (200<(((Ae v hb).fStr).length:Int))))]) Aa (H':=[.blk hf (Ac (Ae v hb)) 63,.blk b2 [Am (max ha.fDepth ((hd.length:Int)+1)),Am (IntKind.wrap .i64 (ha.fBytes+hg)),rB (ha.fOutside||((decide (((Ae v hb).fKind)=3))&&(!(ov (Bj ((Ae v hb).fInt)))))),rB (ha.fLong||(decide (200<(((Ae v hb).fStr).length:Int))))] 105,.blk b1 [Am (max ha.fDepth ((hd.length:Int)+1)),Am (IntKind.wrap .i64 (ha.fBytes+hg)),rB (ha.fOutside||((decide (((Ae v hb).fKind)=3))&&(!(ov (Bj ((Ae v hb).fInt)))))),rB (ha.fLong||(decide (200<(((Ae v hb).fStr).length:Int))))] 105,.row he 120 5 (Au As hd)]) Aa)) ?_));refine oq (AQ Aa) ?_;exact Dk
        refine Be (A8 (Al (Al (AM (Al (Al (B0 ?_)))))));have g2:=Cj g0 hx hy;refine AM (Al (Ik ?_));obtain rfl:=A9 g2;exact A7 (QC QK (AV Aa) (BX (i:=2) H7 Ea Aa Aa Aa) (AV Aa)) (sS (sS (sS (sS sN)))) ⟨Aa,Aa⟩
       ·refine AD (Be (Ap (wm Aa (vF BS Aa J8 (vL 0 JA Aa (wv (BV Aa Aa) (vF BS Aa C7 (vL 0 Ei Aa (vF BS Aa J8 (vL 0 JA Aa (wv (BV Aa Aa) (wv (r:=Bc [rB (decide (((Ae v hb).fKind)=6)),Am ((Ae v hb).fN),rB (decide (((Ae v hb).fKind)=6)),rS ([]:Ak),rB false]) (Jd Aa Aa Aa Aa Aa Aa) (Bm (ys:=([(At.mk (decide (((Ae v hb).fKind)=6)) ((Ae v hb).fN) (decide (((Ae v hb).fKind)=6)) ([]:Ak) false)]:List At)) (enc:=As) (css:=[[rB (decide (((Ae v hb).fKind)=6)),Am ((Ae v hb).fN),rB (decide (((Ae v hb).fKind)=6)),rS ([]:Ak),rB false]]) (xs:=[.tmp 139]) G3 MD Tryz.zeroValue120 Aa Aa Aa ⟨JV.agg ⟨Up.refl _,Up.refl _,Up.refl _,Up.refl _,Up.refl _,trivial⟩,trivial⟩ Aa G7 Aa Aa Aa (λg3=>?_))))))))))))));refine ck g1 λg4 g5=>Exists.elim SR λinf hinf=>DL (xs:=hd) (ys:=([(At.mk (decide (((Ae v hb).fKind)=6)) ((Ae v hb).fN) (decide (((Ae v hb).fKind)=6)) ([]:Ak) false)]:List At)) (enc:=As) (i:=4) G3 hinf.1 hinf.2.1 hinf.2.2.1 hinf.2.2.2 Aa Aa Aa Aa Aa (P5.w (i:=0) Aa Aa) G7 JE g4 Aa (λh9=>?_);exact wa Aa (A4 (BL (AE (Bv (C2 (H2:=[.blk b2 [Am (max ha.fDepth ((hd.length:Int)+1)),Am (IntKind.wrap .i64 (ha.fBytes+hg)),rB (ha.fOutside||((decide (((Ae v hb).fKind)=3))&&(!(ov (Bj ((Ae v hb).fInt)))))),rB (ha.fLong||(decide (200<(((Ae v hb).fStr).length:Int))))] 105,.blk b1 [Am 0,Am 0,rB false,rB false] 105,.row h9 120 5 (Au As (hd++([(At.mk (decide (((Ae v hb).fKind)=6)) ((Ae v hb).fN) (decide (((Ae v hb).fKind)=6)) ([]:Ak) false)]:List At))),.row (.slice (some ⟨g3,0,none⟩) 1 1) 120 5 (Au As ([(At.mk (decide (((Ae v hb).fKind)=6)) ((Ae v hb).fN) (decide (((Ae v hb).fKind)=6)) ([]:Ak) false)]:List At)),.blk hf (Ac (Ae v hb)) 63]) ((Aj (i:=3) Aa).trans (US _ ((Aj (i:=3) Aa).trans (US _ (UY _))))) (AO (AY ((hd++([(At.mk (decide (((Ae v hb).fKind)=6)) ((Ae v hb).fN) (decide (((Ae v hb).fKind)=6)) ([]:Ak) false)]:List At),(A3.mk (max ha.fDepth ((hd.length:Int)+1)) (IntKind.wrap .i64 (ha.fBytes+hg)) (ha.fOutside||((decide (((Ae v hb).fKind)=3))&&(!(ov (Bj ((Ae v hb).fInt)))))) (ha.fLong||(decide (200<(((Ae v hb).fStr).length:Int)))))),h9) g5 (AZ.c Aa (AZ.c Aa (AZ.c5 Aa Aa Aa Aa Aa AZ.nil))) (sC (sC (sC (sS (sS sN))))))))))))
      ·refine AD (Be (Ap (wm Aa (ob gy λhw g6 g7=>JY (Hr:=[.blk hf (Ac (Ae v hb)) 63,.blk b2 [Am (max ha.fDepth ((hd.length:Int)+1)),Am (IntKind.wrap .i64 (ha.fBytes+hg)),rB (ha.fOutside||((decide (((Ae v hb).fKind)=3))&&(!(ov (Bj ((Ae v hb).fInt)))))),rB (ha.fLong||(decide (200<(((Ae v hb).fStr).length:Int))))] 105,.blk b1 [Am 0,Am 0,rB false,rB false] 105]) Tryz.call80 (PH F he hd hw g6) Aa ((Aj (i:=3) Aa).trans (US _ (UY _))) Aa ?_))));rintro _ _ ⟨hz,rfl,rfl⟩;refine wa Aa (BF (wm Aa (wv (DO (ys:=hw) (enc:=As) (i:=0) G3 Aa Aa) (wv (BV Aa Aa) (A4 (cz g7 Aa (λg8 g9=>?_) (λg8 gA=>?_)))))))
       ·refine A2 (ck g9 λgB gC=>GF (H1:=[.row hz 120 5 (Au As hw),.blk hf (Ac (Ae v hb)) 63,.blk b2 [Am (max ha.fDepth ((hd.length:Int)+1)),Am (IntKind.wrap .i64 (ha.fBytes+hg)),rB (ha.fOutside||((decide (((Ae v hb).fKind)=3))&&(!(ov (Bj ((Ae v hb).fInt)))))),rB (ha.fLong||(decide (200<(((Ae v hb).fStr).length:Int))))] 105,.blk b1 [Am (max ha.fDepth ((hd.length:Int)+1)),Am (IntKind.wrap .i64 (ha.fBytes+hg)),rB (ha.fOutside||((decide (((Ae v hb).fKind)=3))&&(!(ov (Bj ((Ae v hb).fInt)))))),rB (ha.fLong||(decide (200<(((Ae v hb).fStr).length:Int))))] 105]) [3,5,7] [⟨[],Am hb,0⟩,⟨[0],Am (hb+1),0⟩,⟨[],Bc [Am (max ha.fDepth ((hd.length:Int)+1)),Am (IntKind.wrap .i64 (ha.fBytes+hg)),rB (ha.fOutside||((decide (((Ae v hb).fKind)=3))&&(!(ov (Bj ((Ae v hb).fInt)))))),rB (ha.fLong||(decide (200<(((Ae v hb).fStr).length:Int))))],1⟩,⟨[1],Am (hb+1),0⟩,⟨[2],rv undef,2⟩,⟨[],rB true,0⟩] (rle [(5,_),(2,[.row hz 120 5 (Au As hw),.blk hf (Ac (Ae v hb)) 63,.blk b2 [Am (max ha.fDepth ((hd.length:Int)+1)),Am (IntKind.wrap .i64 (ha.fBytes+hg)),rB (ha.fOutside||((decide (((Ae v hb).fKind)=3))&&(!(ov (Bj ((Ae v hb).fInt)))))),rB (ha.fLong||(decide (200<(((Ae v hb).fStr).length:Int))))] 105,.blk b1 [Am (max ha.fDepth ((hd.length:Int)+1)),Am (IntKind.wrap .i64 (ha.fBytes+hg)),rB (ha.fOutside||((decide (((Ae v hb).fKind)=3))&&(!(ov (Bj ((Ae v hb).fInt)))))),rB (ha.fLong||(decide (200<(((Ae v hb).fStr).length:Int))))] 105])]) [2,4,3] ?_ ?_)
        ·refine oq (Ay Aa) (oq (Cz Aa Aa gB) (of (Bf (i:=2) H7 Ea Aa Aa Aa Aa) (oq (AQ Aa) (Kl Aa (Nf (C1 (i:=3) Ea Aa Aa Aa (Bh.c Aa) Aa Aa (cs':=[Am (max ha.fDepth ((hd.length:Int)+1)),Am (IntKind.wrap .i64 (ha.fBytes+hg)),rB (ha.fOutside||((decide (((Ae v hb).fKind)=3))&&(!(ov (Bj ((Ae v hb).fInt)))))),rB (ha.fLong||(decide (200<(((Ae v hb).fStr).length:Int))))]) Aa (H':=[.row hz 120 5 (Au As hw),.blk hf (Ac (Ae v hb)) 63,.blk b2 [Am (max ha.fDepth ((hd.length:Int)+1)),Am (IntKind.wrap .i64 (ha.fBytes+hg)),rB (ha.fOutside||((decide (((Ae v hb).fKind)=3))&&(!(ov (Bj ((Ae v hb).fInt)))))),rB (ha.fLong||(decide (200<(((Ae v hb).fStr).length:Int))))] 105,.blk b1 [Am (max ha.fDepth ((hd.length:Int)+1)),Am (IntKind.wrap .i64 (ha.fBytes+hg)),rB (ha.fOutside||((decide (((Ae v hb).fKind)=3))&&(!(ov (Bj ((Ae v hb).fInt)))))),rB (ha.fLong||(decide (200<(((Ae v hb).fStr).length:Int))))] 105]) Aa)) ?_))));refine oq (AQ Aa) ?_;exact Dk
        refine Be (A8 (AM (Al (Al (B0 ?_)))));have gD:=Cj gC hx hy;refine AM (Al (Ik ?_));obtain rfl:=A9 gD;exact A7 (QC QK (AV Aa) (BX (i:=3) H7 Ea Aa Aa Aa) (AV Aa)) (sS (sS (sS (sS sN)))) ⟨Aa,Aa⟩
       ·exact AD (Bi (C2 (H2:=[.blk b2 [Am (max ha.fDepth ((hd.length:Int)+1)),Am (IntKind.wrap .i64 (ha.fBytes+hg)),rB (ha.fOutside||((decide (((Ae v hb).fKind)=3))&&(!(ov (Bj ((Ae v hb).fInt)))))),rB (ha.fLong||(decide (200<(((Ae v hb).fStr).length:Int))))] 105,.blk b1 [Am 0,Am 0,rB false,rB false] 105,.row hz 120 5 (Au As hw),.blk hf (Ac (Ae v hb)) 63]) ((Aj (i:=2) Aa).trans (US _ ((Aj (i:=2) Aa).trans (US _ (UY _))))) (AO (AY ((hw,(A3.mk (max ha.fDepth ((hd.length:Int)+1)) (IntKind.wrap .i64 (ha.fBytes+hg)) (ha.fOutside||((decide (((Ae v hb).fKind)=3))&&(!(ov (Bj ((Ae v hb).fInt)))))) (ha.fLong||(decide (200<(((Ae v hb).fStr).length:Int)))))),hz) gA (AZ.c Aa (AZ.c Aa (AZ.c5 Aa Aa Aa Aa Aa AZ.nil))) (sC (sC (sC (sS sN))))))))
   ·rintro⟨⟨h6,h7⟩,h8⟩ h2;refine C4 (l':=[(0,AL 4 (Au Ac v)),(3,rP b1 0),(5,rP b2 0),(6,rv h8),(11,AL 4 (Au Ac v)),(12,Am (v.length:Int)),(13,Am hb)]) (H':=[.blk b2 (AK h7) 105,.blk b1 [Am 0,Am 0,rB false,rB false] 105,.row h8 120 5 (Au As h6)]) Aa Aa ?_;replace h2:CY hb h6 h7=some h4:=h2;unfold CY at h2;refine AB (ck h2 λgE gF=>wv (Cz Aa Aa gE) (wm Aa (A5 ?_)));have gG:=BQ gF hx;exact AO (AY (hD,(h6,hb+1,h7),h8) ⟨gG,Vn _⟩ (AZ.c Aa (AZ.c Aa (AZ.c5 Aa Aa Aa Aa Aa AZ.nil))) (sC (sC (sC sN))))
  ·refine BL (AE ?_);have gH:=CB hH hx hy;exact AE (B1 (AY (ha,()) gH (AZ.c Aa (AZ.c Aa AZ.nil)) (sC (sC (sS sN)))))
 ·rintro⟨hq,⟨⟩⟩ h3;refine DK (l':=[(3,rP b1 0),(5,rP b2 0)]) (H':=[.blk b2 (AK hq) 105,.blk b1 [Am 0,Am 0,rB false,rB false] 105]) Aa Aa ?_;replace h3:Im hq=some r:=h3;unfold Im at h3;refine Bv (Be (A2 (GF (H1:=[.blk b2 (AK hq) 105,.blk b1 (AK hq) 105]) [3,5] [⟨[],Bc (AK hq),1⟩,⟨[],Am 0,0⟩,⟨[0],rv undef,2⟩,⟨[],rB false,0⟩] (rle [(3,_),(2,[.blk b2 (AK hq) 105,.blk b1 (AK hq) 105])]) [2,4,3] ?_ ?_)))
  ·refine of (Bf (i:=0) H7 Ea Aa Aa Aa Aa) (oq (AQ Aa) (Kl Aa (Nf (C1 (i:=1) Ea Aa Aa Aa (Bh.c Aa) Aa Aa (cs':=[Am hq.fDepth,Am hq.fBytes,rB hq.fOutside,rB hq.fLong]) Aa (H':=[.blk b2 (AK hq) 105,.blk b1 (AK hq) 105]) Aa)) ?_));refine oq (AQ Aa) ?_;exact Dk
  refine Be (A8 (Ik ?_));obtain rfl:=A9 h3;exact A7 (QC QK (AV Aa) (BX (i:=1) H7 Ea Aa Aa Aa) (AV Aa)) (sS (sS sN)) ⟨Aa,Aa⟩
theorem MK (F:Nat)(v:(List Ab))(r:Int)(h:IR F v=some r):Fn Tryz.prog GE 37 [AL 4 (Au Ac v)] [] (λR H=>R=Am r∧H=[]):=by
 refine enter (n:=42) Tryz.func37 Aa Tryz.ntmps37 Aa (λw Z=>?_);unfold IR at h;refine Ap (wa Aa (BF (wm Aa (ob h λr1 e3 h2=>DI Tryz.call56 (S2 F v r1 e3) Aa (wm Aa (wv (AN Aa Aa) (wv (AN Aa Aa) (wv (AN Aa Aa) (BM (cs:=[Am 0,Am 0,rB false,rB false]) Tryz.zeroValue105 Aa Aa (λb4=>?_))))))))));refine wa Aa (AG (i:=0) Ea Aa Aa Aa (Bh.c Aa) Aa Aa (cs':=[Am r1.2.1.fDepth,Am r1.2.1.fBytes,rB r1.2.1.fOutside,rB r1.2.1.fLong]) Aa (H':=[.blk b4 (AK r1.2.1) 105]) Aa (wa Aa (A4 (A2 (AX (AW [(0,AL 4 (Au Ac v)),(4,rP b4 0),(12,rB ((!r1.2.2)||(!decide (r1.1=(v.length:Int)))))] [.blk b4 (AK r1.2.1) 105] ?_ ?_))))))
 ·refine AB (wm Aa (wv (Cd Aa) (wm Aa (Bb (!r1.2.2) (λc5=>?_) (λc5=>?_)))))
  ·refine wf c5 (wf c5 (wf c5 (wf c5 (wv (r:=rB true) (A6 Aa c5 Aa) (wa Aa (A5 ?_))))));exact Dc c5
  ·refine wo c5 (wm Aa (wo c5 (wm Aa (wo c5 (wv (Bl (ys:=v) (enc:=Ac) Cy Aa) (wo c5 (wv (Ey Aa Aa) (Ju Aa c5 Aa (wa Aa (A5 ?_))))))))));exact Dc c5
 refine cz h2 Aa (λc6 h7=>?_) (λc6 h8=>?_)
 ·refine Ap (wa Aa (A4 (A8 (AM (Al ?_)))));obtain rfl:=A9 h7;exact A7 (Ci Sr (AV Aa)) (sS sN) ⟨Aa,Aa⟩
 ·refine Ap (vF Dh Aa Ih (vL 0 Su Aa (wa Aa (A4 (cz h8 Aa (λc9 he=>?_) (λc9 hf=>?_))))))
  ·refine Ap (wa Aa (A4 (A8 (AM (Al ?_)))));obtain rfl:=A9 he;exact A7 (Ci Sr (AV Aa)) (sS sN) ⟨Aa,Aa⟩
  ·refine AW [(24,rB (r1.2.1.fLong||((decide (200<(v.length:Int)))||((decide (8<r1.2.1.fDepth))||(decide (4000<r1.2.1.fBytes))))))] [] ?_ ?_
   ·refine AB (vF Dh Aa Ih (vL 0 Su Aa (wm Aa (Bb (r1.2.1.fLong) (λha=>?_) (λha=>?_)))))
    ·refine wf ha (wf ha (wf ha (wv (r:=rB true) (A6 Aa ha Aa) (wm Aa (wz Aa Aa (wz Aa Aa (wz Aa Aa (wv (r:=rB true) (A6 (b:=true) Aa Aa Aa) (wm Aa (wz Aa Aa (wz Aa Aa (wz Aa Aa (wv (r:=rB true) (A6 (b:=true) Aa Aa Aa) (wa Aa (A5 ?_)))))))))))))));exact Dc ha
    ·refine wo ha (wm Aa (wo ha (wv (Bl (ys:=v) (enc:=Ac) Cy Aa) (wo ha (wv (Ez Aa Aa) (Ju Aa ha Aa (wm Aa (Bb (decide (200<(v.length:Int))) (λhb=>?_) (λhb=>?_)))))))))
     ·refine wf hb (wf hb (wf hb (wv (r:=rB true) (A6 Aa hb Aa) (wm Aa (wz Aa Aa (wz Aa Aa (wz Aa Aa (wv (r:=rB true) (A6 (b:=true) Aa Aa Aa) (wa Aa (A5 ?_))))))))));exact Dc (And.intro ha hb)
     ·refine wo hb (vF Dh Aa C7 (wo hb (vL 0 Ei Aa (wo hb (wv (Ez Aa Aa) (Ju Aa hb Aa (wm Aa (Bb (decide (8<r1.2.1.fDepth)) (λhd=>?_) (λhd=>?_)))))))))
      ·refine wf hd (wf hd (wf hd (wv (r:=rB true) (A6 Aa hd Aa) (wa Aa (A5 ?_)))));exact Dc (And.intro ha (And.intro hb hd))
      ·refine wo hd (vF Dh Aa C7 (wo hd (vL 0 Ei Aa (wo hd (wv (Ez Aa Aa) (Ju Aa hd Aa (wa Aa (A5 ?_))))))));exact Dc (And.intro ha (And.intro hb hd))
   refine cz hf Aa (λhg hh=>?_) (λhg hi=>?_)
   ·refine Ap (wa Aa (A4 (A8 (AM (Al ?_)))));obtain rfl:=A9 hh;exact A7 (Ci Sr (AV Aa)) sN ⟨Aa,Aa⟩
   ·refine AD (Bi (Be (Ap (wa Aa (A4 (A8 ?_))))));obtain rfl:=A9 hi;exact A7 (Ci Sr (AV Aa)) sN ⟨Aa,Aa⟩
theorem LO  (r:(List Ab))(h:Lj=some r):Fn Tryz.prog GE 47 [] [] (λR H=>R=AL 4 (Au Ac r)∧H=[]):=by
 refine enter (n:=3) Tryz.func47 Aa Tryz.ntmps47 Aa (λw Z=>?_);unfold Lj at h;refine Ap (wa Aa (BF (wv (r:=Bc [Am 1,Am 0,rS ([]:Ak),Am 0]) (GM Aa Aa) (Bm (ys:=([(Ab.mk 1 0 ([]:Ak) 0)]:List Ab)) (enc:=Ac) (css:=[[Am 1,Am 0,rS ([]:Ak),Am 0]]) (xs:=[.tmp 1]) Cy CW KQ Aa Aa Aa ⟨JV.agg ⟨Up.refl _,Up.refl _,Up.refl _,Up.refl _,trivial⟩,trivial⟩ Aa BG Aa Aa Aa (λb1=>?_)))));refine wa Aa (A4 (A8 (WK.freeze (i:=0) Aa (WK.up (d:=0) (r:=AL 4 (Au Ac ([(Ab.mk 1 0 ([]:Ak) 0)]:List Ab))) Aa (Up.fact (i:=0) Aa) ?_))));obtain rfl:=A9 h;exact A7 (Ci Tryz.results47 (AV Aa)) (sS sN) ⟨Aa,Aa⟩
theorem ON (b:Bool)(r:(List Ab))(h:OO b=some r):Fn Tryz.prog GE 62 [rB b] [] (λR H=>R=AL 4 (Au Ac r)∧H=[]):=by
 refine enter (n:=9) Tryz.func62 Aa Tryz.ntmps62 Aa (λw Z=>?_);unfold OO at h;refine Ap (wa Aa (BF (wv (r:=Bc [Am 2,Am 0,rS ([]:Ak),Am 0]) (GM Aa Aa) (BM (cs:=[Am 0,Am 0,rS ([]:Ak),Am 0]) KQ Aa Aa (λb1=>?_)))));refine AG (i:=0) CW Aa Aa Aa (Bh.c Aa) Aa Aa (cs':=[Am 2,Am 0,rS ([]:Ak),Am 0]) Aa (H':=[.blk b1 [Am 2,Am 0,rS ([]:Ak),Am 0] 63]) Aa (A4 (A2 (Ap (wm Aa (A4 (cz h Aa (λc2 h3=>?_) (λc2 h5=>?_)))))))
 ·refine AB (vF BS Aa C7 (BO (i:=0) C7 Aa Aa (BZ Aa) Aa Aa (cs':=[Am 2,Am 1,rS ([]:Ak),Am 0]) Aa (H':=[.blk b1 [Am 2,Am 1,rS ([]:Ak),Am 0] 63]) Aa (BF (wv (Bf (i:=0) LK CW Aa Aa Aa Aa) (Bm (ys:=([(Ab.mk 2 1 ([]:Ak) 0)]:List Ab)) (enc:=Ac) (css:=[[Am 2,Am 1,rS ([]:Ak),Am 0]]) (xs:=[.tmp 7]) Cy CW KQ Aa Aa Aa ⟨JV.agg ⟨Up.refl _,Up.refl _,Up.refl _,Up.refl _,trivial⟩,trivial⟩ Aa BG Aa Aa Aa (λb4=>?_))))));refine wa Aa (A4 (A8 (WK.freeze (i:=0) Aa (WK.up (d:=2) (r:=AL 4 (Au Ac ([(Ab.mk 2 1 ([]:Ak) 0)]:List Ab))) Aa (Up.fact (i:=0) Aa) ?_))));obtain rfl:=A9 h3;exact A7 (Ci Tryz.results62 (AV Aa)) (sS (sS sN)) ⟨Aa,Aa⟩
 ·refine AD (Be (Ap (wv (Bf (i:=0) LK CW Aa Aa Aa Aa) (Bm (ys:=([(Ab.mk 2 0 ([]:Ak) 0)]:List Ab)) (enc:=Ac) (css:=[[Am 2,Am 0,rS ([]:Ak),Am 0]]) (xs:=[.tmp 7]) Cy CW KQ Aa Aa Aa ⟨JV.agg ⟨Up.refl _,Up.refl _,Up.refl _,Up.refl _,trivial⟩,trivial⟩ Aa BG Aa Aa Aa (λb6=>?_)))));refine wa Aa (A4 (A8 (WK.freeze (i:=0) Aa (WK.up (d:=2) (r:=AL 4 (Au Ac ([(Ab.mk 2 0 ([]:Ak) 0)]:List Ab))) Aa (Up.fact (i:=0) Aa) ?_))));obtain rfl:=A9 h5;exact A7 (Ci Tryz.results62 (AV Aa)) (sS (sS sN)) ⟨Aa,Aa⟩
end Go.Proofs.YtfbmdidnlhifjaaGreatDoor.Q
namespace Go.Proofs.YtfbmdidnlhifjaaGreatDoor
open Go
set_option linter.unusedVariables false
end Go.Proofs.YtfbmdidnlhifjaaGreatDoor
namespace Go.Proofs.YtfbmdidnlhifjaaGreatDoor.Q
open Go Go.RowKit
set_option linter.unusedVariables false
set_option linter.unusedSimpArgs false
set_option maxRecDepth 100000
set_option maxHeartbeats 4000000
end Go.Proofs.YtfbmdidnlhifjaaGreatDoor.Q
namespace Go.Proofs.YtfbmdidnlhifjaaGreatDoor
open Go
set_option linter.unusedVariables false
end Go.Proofs.YtfbmdidnlhifjaaGreatDoor
namespace Go.Proofs.YtfbmdidnlhifjaaGreatDoor.Q
open Go Go.RowKit
set_option linter.unusedVariables false
set_option linter.unusedSimpArgs false
set_option maxRecDepth 100000
set_option maxHeartbeats 4000000
end Go.Proofs.YtfbmdidnlhifjaaGreatDoor.Q
namespace Go.Proofs.YtfbmdidnlhifjaaGreatDoor
open Go
set_option linter.unusedVariables false
def CC (a:(List Ab))(b:(List Ab))(ha:Int):Option (Stp (Int) (Out (Bool) (Unit))):=
 Bg (decide (ha<(a.length:Int))) (Ba (BK ha (a.length:Int))<|Ba (BK ha (b.length:Int))<|Bg (!(decide (((Ae a ha).fKind)=((Ae b ha).fKind))&&decide (((Ae a ha).fInt)=((Ae b ha).fInt))&&decide (((Ae a ha).fStr)=((Ae b ha).fStr))&&decide (((Ae a ha).fN)=((Ae b ha).fN)))) (some (.out (.ret false))) (Ba (BB .i64 (ha+1))<|some (.next (ha+1)))) (some (.out (.go ())))
def Eu :Option (Bool):=
 some true
def Ee (F:Nat)(a:(List Ab))(b:(List Ab)):Option (Bool):=
 Bg (!decide ((a.length:Int)=(b.length:Int))) (some false) (Bp (BD (λσ=>CC a b σ) F 0) (B9 λν=>Eu ))
def Lh (F:Nat)(a:(List Ab))(b:(List Ab)):Option (Bool):=
 Bp (Ee F a b) λr1=>some r1
def Ix (a:(List Ab))(b:(List Ab))(ha:Int):Option (Stp (Int) (Out (Bool) (Unit))):=
 Bg (decide (ha<(a.length:Int))) (Ba (BK ha (a.length:Int))<|Ba (BK ha (b.length:Int))<|Bg (!(decide (((Ae a ha).fKind)=((Ae b ha).fKind))&&decide (((Ae a ha).fInt)=((Ae b ha).fInt))&&decide (((Ae a ha).fStr)=((Ae b ha).fStr))&&decide (((Ae a ha).fN)=((Ae b ha).fN)))) (some (.out (.ret false))) (Ba (BB .i64 (ha+1))<|some (.next (ha+1)))) (some (.out (.go ())))
def Iw :Option (Bool):=
 some true
def E9 (F:Nat)(a:(List Ab))(b:(List Ab)):Option (Bool):=
 Bg (!decide ((a.length:Int)=(b.length:Int))) (some false) (Bp (BD (λσ=>Ix a b σ) F 0) (B9 λν=>Iw ))
end Go.Proofs.YtfbmdidnlhifjaaGreatDoor
namespace Go.Proofs.YtfbmdidnlhifjaaGreatDoor.Q
open Go Go.RowKit
set_option linter.unusedVariables false
set_option linter.unusedSimpArgs false
set_option maxRecDepth 100000
set_option maxHeartbeats 4000000
theorem Sf {a0 b0:Int}{a1 b1:Int}{a2 b2:Ak}{a3 b3:Int}(w:World):(Op.equalIn 10000 63 (.agg #[.int .i64 a0,.int .i64 a1,.string (B a2),.int .i64 a3]) (.agg #[.int .i64 b0,.int .i64 b1,.string (B b2),.int .i64 b3])).run Tryz.prog w = .ok (decide (a0=b0)&&decide (a1=b1)&&decide (a2=b2)&&decide (a3=b3)) w:=by
  have hS:Tryz.prog.underlying 63=some (.struct (Tryz.prog.fieldsOf 63)):=by kernel_rfl
  have hp:Tryz.prog.stoodInHeld 63=false:=by kernel_rfl
  have u3:=U4;have ia3:=Ei;have so3:=C7;have u9:=G1;have ia9:=EI;have so9:=Eh;have ha:=Tryz.underlying61;have hb:=JA;have hd:=J8;rw[show(10000:Nat)=9999+1 from rfl,run_equalIn_agg w 9999 63 _ _ hS hp];simp only[Program.fieldsOf,BS]
  go_simp
  simp only[D4]
  by_cases h0:a0=b0<;>by_cases h1:a1=b1<;>by_cases h2:a2=b2<;>by_cases h3:a3=b3<;>simp[h0,h1,h2,h3]
theorem J1 {n:Nat}{c:Cx}{l:Fr}{H:List Ent}{d:Option Nat}{ty rty:TypeId}{pos:String}{af:Array Edge}{g:Option (Nat×Bool)}{x y:Operand}{a0 b0:Int}{a1 b1:Int}{a2 b2:Ak}{a3 b3:Int}(hx:ev l x=some (Bc [Am a0,Am a1,rS a2,Am a3]))(hy:ev l y=some (Bc [Am b0,Am b1,rS b2,Am b3])):Bk Tryz.prog n c l H { dst:=d,op:=.binOp .neq 63 x y rty,type:=ty,pos:=pos,after:=af,guard:=g } (rB (!(decide (a0=b0)&&decide (a1=b1)&&decide (a2=b2)&&decide (a3=b3)))):=λa w Z ha hw=>by
  obtain⟨us,e1,q1⟩:=ha.ev hx;obtain⟨vs,e2,q2⟩:=ha.ev hy;have k1:=AS.eq_rv (us:=[.int .i64 a0,.int .i64 a1,.string (B a2),.int .i64 a3]) q1;have k2:=AS.eq_rv (us:=[.int .i64 b0,.int .i64 b1,.string (B b2),.int .i64 b3]) q2;subst k1;subst k2;have hm:Tryz.prog.eqGuardType Tryz.prog.depth 63=false:=by kernel_rfl
  have hb:=Sf (a0:=a0) (a1:=a1) (a2:=a2) (a3:=a3) (b0:=b0) (b1:=b1) (b2:=b2) (b3:=b3) w;refine⟨.bool (!(decide (a0=b0)&&decide (a1=b1)&&decide (a2=b2)&&decide (a3=b3))),rfl,?_⟩;have hg:=run_eqGuard_agg (P:=Tryz.prog) w .neq 63 x y #[.int .i64 a0,.int .i64 a1,.string (B a2),.int .i64 a3] #[.int .i64 b0,.int .i64 b1,.string (B b2),.int .i64 b3] hm;simp only[execOp,e1,e2,Sem.run_bind,hg,Result.andThen_ok,run_neq_struct,hb,Sem.run_pure]
theorem Lm (F:Nat)(a:(List Ab))(b:(List Ab))(r:Bool)(h:Ee F a b=some r):Fn Tryz.prog GE 71 [AL 4 (Au Ac a),AL 4 (Au Ac b)] [] (λR H=>R=rB r∧H=[]):=by
 refine enter (n:=26) Tryz.func71 Aa Tryz.ntmps71 Aa (λw Z=>?_);unfold Ee at h;refine Ap (wa Aa (A4 (A2 (Ap (wm Aa (wv (Bl (ys:=a) (enc:=Ac) Cy Aa) (wm Aa (wv (Bl (ys:=b) (enc:=Ac) Cy Aa) (wv (Ey Aa Aa) (A4 (cz h Aa (λc1 h2=>?_) (λc1 h3=>?_))))))))))))
 ·refine Ap (wa Aa (A4 (A8 (Al ?_))));obtain rfl:=A9 h2;exact A7 (Ci Tryz.results71 (AV Aa)) sN ⟨Aa,Aa⟩
 ·refine AD (Be (A2 (Ap (wm Aa (wv (Bl (ys:=a) (enc:=Ac) Cy Aa) (wv (r:=Am 0) (Ay Aa) (A4 (AX (ob h3 λhg hh hf=>BP (S:=Nat×(Int)×(Unit)) (V:=(Unit)×(Unit)) 0 (λσ=>BD (λσ=>CC a b σ) σ.1 σ.2.1=some hg) (λσ=>[(0,AL 4 (Au Ac a)),(1,AL 4 (Au Ac b)),(12,Am (a.length:Int)),(13,Am σ.2.1)]) (λσ=>[]) (λσ=>σ.1) (F,0,()) hh (AZ.c Aa (AZ.c Aa (AZ.c Aa (AZ.c Aa AZ.nil)))) sN (λσ=>Eu =some r) (λσ=>[]) (λσ=>[]) ?_ ?_)))))))))
  ·rintro⟨h1,ha,⟨⟩⟩ hi;refine C4 (l':=[(0,AL 4 (Au Ac a)),(1,AL 4 (Au Ac b)),(12,Am (a.length:Int)),(13,Am ha)]) (H':=[]) Aa Aa ?_;obtain⟨hj,rfl,hk,hb,he⟩:=DR hi;replace hb:CC a b ha=some hk:=hb;unfold CC at hb;refine Ap (wv (E8 Aa Aa) (A4 (A2 (cz hb Aa (λhl hm=>?_) (λhl hn=>?_)))))
   ·refine AD (Be (A2 (AX (Ap (wm Aa (wa Aa (A4 (A2 (ck hm λho hp=>ck hp λhq hr=>Et [0,1,5,12,13] [⟨[],AL 4 (Au Ac a),0⟩,⟨[],Am ha,0⟩,⟨[0,1],Lt (Ac (Ae a ha)),0⟩,⟨[2],Bc (Ac (Ae a ha)),0⟩,⟨[],AL 4 (Au Ac b),0⟩,⟨[],Am ha,0⟩,⟨[4,5],Lt (Ac (Ae b ha)),0⟩,⟨[6],Bc (Ac (Ae b ha)),0⟩,⟨[3,7],rB (!(decide (((Ae a ha).fKind)=((Ae b ha).fKind))&&decide (((Ae a ha).fInt)=((Ae b ha).fInt))&&decide (((Ae a ha).fStr)=((Ae b ha).fStr))&&decide (((Ae a ha).fN)=((Ae b ha).fN)))),0⟩] [16,17,18,19,20,21,22,23,24,0,1,12,13] ?_ ?_)))))))))
    ·refine oq (Ay Aa) (oq (Ay Aa) (oq (By (enc:=Ac) (ys:=a) Cy CW Aa Aa ho) (oq (CR LK CW Aa Aa Aa) (oq (Ay Aa) (oq (Ay Aa) (oq (By (enc:=Ac) (ys:=b) Cy CW Aa Aa hq) (oq (CR LK CW Aa Aa Aa) (oq (J1 Aa Aa) ?_))))))));exact Dk
    refine Be (cz hr Aa (λhs ht=>?_) (λhs hu=>?_))
    ·refine Ap (wa Aa (A4 (A8 (AM (Al (Al (B0 ?_)))))));have hw:=Cj ht he hf;refine AM (Al ?_);obtain rfl:=A9 hw;exact A7 (Ci Tryz.results71 (AV Aa)) sN ⟨Aa,Aa⟩
    ·refine AD (Bi (Be (AB (ck hu λhx hy=>wv (Cz Aa Aa hx) (wm Aa (A5 ?_))))));have hz:=BQ hy he;exact AO (AY (hj,ha+1,()) ⟨hz,Vn _⟩ (AZ.c Aa (AZ.c Aa (AZ.c Aa (AZ.c Aa AZ.nil)))) sN)
   ·refine BL (AE ?_);have h0:=CB hn he hf;exact AE (B1 (AY ((),()) h0 AZ.nil sN))
  ·rintro⟨⟨⟩,⟨⟩⟩ hd;refine DK (l':=[]) (H':=[]) Aa Aa ?_;replace hd:Eu =some r:=hd;unfold Eu at hd;refine Bv (Be (Ap (wa Aa (A4 (A8 ?_)))));obtain rfl:=A9 hd;exact A7 (Ci Tryz.results71 (AV Aa)) sN ⟨Aa,Aa⟩
theorem S0 (F:Nat)(a:(List Ab))(b:(List Ab))(r:Bool)(h:Lh F a b=some r):Fn Tryz.prog GE 61 [AL 4 (Au Ac a),AL 4 (Au Ac b)] [] (λR H=>R=rB r∧H=[]):=by
 refine enter (n:=8) Tryz.func61 Aa Tryz.ntmps61 Aa (λw Z=>?_);unfold Lh at h;refine Ap (wa Aa (BF (wm Aa (wm Aa (ob h λr1 e3 h2=>DI Tryz.call71 (Lm F a b r1 e3) Aa (wa Aa (A4 (A8 ?_))))))));obtain rfl:=A9 h2;exact A7 (Ci Tryz.results61 (AV Aa)) sN ⟨Aa,Aa⟩
theorem OS (F:Nat)(a:(List Ab))(b:(List Ab))(r:Bool)(h:E9 F a b=some r):Fn Tryz.prog GE 13 [AL 4 (Au Ac a),AL 4 (Au Ac b)] [] (λR H=>R=rB r∧H=[]):=by
 refine enter (n:=26) Tryz.func13 Aa Tryz.ntmps13 Aa (λw Z=>?_);unfold E9 at h;refine Ap (wa Aa (A4 (A2 (Ap (wm Aa (wv (Bl (ys:=a) (enc:=Ac) Cy Aa) (wm Aa (wv (Bl (ys:=b) (enc:=Ac) Cy Aa) (wv (Ey Aa Aa) (A4 (cz h Aa (λc1 h2=>?_) (λc1 h3=>?_))))))))))))
 ·refine Ap (wa Aa (A4 (A8 (Al ?_))));obtain rfl:=A9 h2;exact A7 (Ci Tryz.results13 (AV Aa)) sN ⟨Aa,Aa⟩
 ·refine AD (Be (A2 (Ap (wa Aa (A4 (AX (ob h3 λhg hh hf=>BP (S:=Nat×(Int)×(Unit)) (V:=(Unit)×(Unit)) 0 (λσ=>BD (λσ=>Ix a b σ) σ.1 σ.2.1=some hg) (λσ=>[(0,AL 4 (Au Ac a)),(1,AL 4 (Au Ac b)),(5,Am σ.2.1)]) (λσ=>[]) (λσ=>σ.1) (F,0,()) hh (AZ.c Aa (AZ.c Aa (AZ.c Aa AZ.nil))) sN (λσ=>Iw =some r) (λσ=>[]) (λσ=>[]) ?_ ?_)))))))
  ·rintro⟨h1,ha,⟨⟩⟩ hi;refine C4 (l':=[(0,AL 4 (Au Ac a)),(1,AL 4 (Au Ac b)),(5,Am ha)]) (H':=[]) Aa Aa ?_;obtain⟨hj,rfl,hk,hb,he⟩:=DR hi;replace hb:Ix a b ha=some hk:=hb;unfold Ix at hb;refine A2 (Ap (wm Aa (wm Aa (wv (Bl (ys:=a) (enc:=Ac) Cy Aa) (wv (E8 Aa Aa) (A4 (cz hb Aa (λhl hm=>?_) (λhl hn=>?_))))))))
   ·refine AD (Be (A2 (AX (A2 (ck hm λho hp=>ck hp λhq hr=>Et [0,1,5] [⟨[],AL 4 (Au Ac a),0⟩,⟨[],Am ha,0⟩,⟨[0,1],Lt (Ac (Ae a ha)),0⟩,⟨[2],Bc (Ac (Ae a ha)),0⟩,⟨[],AL 4 (Au Ac b),0⟩,⟨[],Am ha,0⟩,⟨[4,5],Lt (Ac (Ae b ha)),0⟩,⟨[6],Bc (Ac (Ae b ha)),0⟩,⟨[3,7],rB (!(decide (((Ae a ha).fKind)=((Ae b ha).fKind))&&decide (((Ae a ha).fInt)=((Ae b ha).fInt))&&decide (((Ae a ha).fStr)=((Ae b ha).fStr))&&decide (((Ae a ha).fN)=((Ae b ha).fN)))),0⟩] [17,18,19,20,21,22,23,24,25,0,1,5] ?_ ?_)))))
    ·refine oq (Ay Aa) (oq (Ay Aa) (oq (By (enc:=Ac) (ys:=a) Cy CW Aa Aa ho) (oq (CR LK CW Aa Aa Aa) (oq (Ay Aa) (oq (Ay Aa) (oq (By (enc:=Ac) (ys:=b) Cy CW Aa Aa hq) (oq (CR LK CW Aa Aa Aa) (oq (J1 Aa Aa) ?_))))))));exact Dk
    refine Be (cz hr Aa (λhs ht=>?_) (λhs hu=>?_))
    ·refine Ap (wa Aa (A4 (A8 (AM (Al (Al (B0 ?_)))))));have hw:=Cj ht he hf;refine AM (Al ?_);obtain rfl:=A9 hw;exact A7 (Ci Tryz.results13 (AV Aa)) sN ⟨Aa,Aa⟩
    ·refine AD (Bi (Be (AB (wm Aa (ck hu λhx hy=>wv (Cz Aa Aa hx) (wa Aa (A5 ?_)))))));have hz:=BQ hy he;exact AO (AY (hj,ha+1,()) ⟨hz,Vn _⟩ (AZ.c Aa (AZ.c Aa (AZ.c Aa AZ.nil))) sN)
   ·refine BL (AE ?_);have h0:=CB hn he hf;exact AE (B1 (AY ((),()) h0 AZ.nil sN))
  ·rintro⟨⟨⟩,⟨⟩⟩ hd;refine DK (l':=[]) (H':=[]) Aa Aa ?_;replace hd:Iw =some r:=hd;unfold Iw at hd;refine Bv (Be (Ap (wa Aa (A4 (A8 ?_)))));obtain rfl:=A9 hd;exact A7 (Ci Tryz.results13 (AV Aa)) sN ⟨Aa,Aa⟩
end Go.Proofs.YtfbmdidnlhifjaaGreatDoor.Q
namespace Go.Proofs.YtfbmdidnlhifjaaGreatDoor
open Go
set_option linter.unusedVariables false
def MY (F:Nat)(v:(List Ab)):Option ((List Ab)×Int):=
 Bp (IX F v) λr1=>Bg (!decide (r1=0)) (some (([]:List Ab),r1)) (some (v,0))
def OU :Option ((List Ab)):=
 some ([(Ab.mk 1 0 ([]:Ak) 0)]:List Ab)
def OX (b:Bool):Option ((List Ab)):=
 Bg (b) (some ([(Ab.mk 2 1 ([]:Ak) 0)]:List Ab)) (some ([(Ab.mk 2 0 ([]:Ak) 0)]:List Ab))
def T9 (F:Nat)(n:Int):Option ((List Ab)×Int):=
 Bp (MY F ([(Ab.mk 3 n ([]:Ak) 0)]:List Ab)) λr2=>some (r2.1,r2.2)
end Go.Proofs.YtfbmdidnlhifjaaGreatDoor
namespace Go.Proofs.YtfbmdidnlhifjaaGreatDoor.Q
open Go Go.RowKit
set_option linter.unusedVariables false
set_option linter.unusedSimpArgs false
set_option maxRecDepth 100000
set_option maxHeartbeats 4000000
theorem EM {n:Nat}{c:Cx}{l:Fr}{H:List Ent}{d:Option Nat}{ty:TypeId}{pos:String}{af:Array Edge}{g:Option (Nat×Bool)}{x0:Operand}{r0:Rp}(h0:ev l x0=some r0)(u0:r0.one=true){x1:Operand}{r1:Rp}(h1:ev l x1=some r1)(u1:r1.one=true):Bk Tryz.prog n c l H { dst:=d,op:=.build 63 #[(0,x0),(1,x1)],type:=ty,pos:=pos,after:=af,guard:=g } (Bc [r0,r1,rS ([]:Ak),Am 0]):=λa w Z ha _=>by
  have p0:=ha.ev h0;have c0:=Bw (r0.hone u0 Z _ p0);have p1:=ha.ev h1;have c1:=Bw (r1.hone u1 Z _ p1);have hb:Tryz.prog.built 63 [(0,a.eval x0),(1,a.eval x1)]=some #[a.eval x0,a.eval x1,(.string ⟨#[]⟩),(.int .i64 0)]:=by
    rw[Pz];generalize a.eval x0=v0 at *;generalize a.eval x1=v1 at *;simp[Instr.fill,c0,c1]
  refine⟨.agg #[a.eval x0,a.eval x1,(.string ⟨#[]⟩),(.int .i64 0)],⟨[a.eval x0,a.eval x1,(.string ⟨#[]⟩),(.int .i64 0)],rfl,p0,p1,rfl,rfl,trivial⟩,?_⟩;have:=run_build w 63 #[(0,a.eval x0),(1,a.eval x1)] _ (by simpa using hb);simp[execOp,this]
end Go.Proofs.YtfbmdidnlhifjaaGreatDoor.Q
namespace Go.Proofs.YtfbmdidnlhifjaaGreatDoor
open Go
set_option linter.unusedVariables false
end Go.Proofs.YtfbmdidnlhifjaaGreatDoor
namespace Go.Proofs.YtfbmdidnlhifjaaGreatDoor.Q
open Go Go.RowKit
set_option linter.unusedVariables false
set_option linter.unusedSimpArgs false
section
variable {P : Program} {n : Nat} {c : Cx} {l : Fr} {H : List Ent} {d : Option Nat} {x y : Operand} {t t' ty : TypeId} {pos : String} {af : Array Edge} {g : Option (Nat × Bool)} {k k' : IntKind} {p q : Int}
end
section
variable {P : Program} {n : Nat} {c : Cx} {ops : Array Oper} {Q : Exit → Act → World → Prop} {rest : List Oper} {l : Fr} {H H' : List Ent} {d : Nat} {d' : Option Nat} {x y : Operand} {t ty e : TypeId} {pos : String} {af : Array Edge} {g : Option (Nat × Bool)} {k : IntKind} {b i len : Nat} {j : Int}
end
def OB (ops:List Oper)(N:Nat):Bool:=
 let cl:=KI ops []
 (List.range ops.length).all (λi=>(DG (ops.getD i default)).all (·<i))&&
 (List.range ops.length).all (λi=>i<N||(List.range i).all (λj=>(cl.getD i 0).testBit j))
section
variable {P : Program} {Q : Exit → Act → World → Prop}
theorem NG {listed:Array Bool}{len m:Nat}(hs:listed.size=len)(hm:m≤len)(h:∀j,j<len→(listed.getD j true=true↔j<m)):listed.toList.count false=len-m:=by
 have:listed.toList=List.replicate m true++List.replicate (len-m) false:=by
  apply List.ext_getElem
  ·simp[hs];omega
  ·intro j h1 h2;have hj:j<len:=by simpa[hs] using h1
   have:=h j hj;rw[Array.getD_eq_getD_getElem?,Array.getElem?_eq_getElem (by omega)] at this;simp only[Vr] at this;rw[Array.getElem_toList,List.getElem_append]
   split
   ·rename_i h3
    simp at h3;simp[this.2 h3]
   ·rename_i h3
    simp at h3;simp only[List.getElem_replicate]
    cases hb:listed[j] with
    | false=>rfl
    | true=>have:=this.1 hb;omega
 rw[this];simp[List.count_append,List.count_replicate]
theorem Pt {listed:Array Bool}{j:Nat}(h:j<listed.size)(d d':Bool):listed.getD j d=listed.getD j d':=by
 simp[Array.getD_eq_getD_getElem?,Array.getElem?_eq_getElem h]
theorem KK {ops:List Oper}{listed:Array Bool}{i:Nat}{o:Oper}(ho:ops[i]? =some o)(hb:∀e∈DG o,listed.getD e true=true)
  (hcl:∀j o,ops[j]? =some o→listed.getD j true=true→∀e∈DG o,listed.getD e true=true) (j:Nat) (h:((KI ops []).getD i 0).testBit j=true):j=i∨listed.getD j true=true:=
 Gd ops (λk=>k=i∨listed.getD k true=true) ops [] (λt o' ht e he hF=>by
  rcases hF with hF | hF
  ·simp at hF;subst hF;rw[ho] at ht;simp at ht;subst ht;exact .inr (hb e he)
  ·exact .inr (hcl t o' ht (by simpa using hF) e he)) (λj i hb=>by simp at hb) i j h (.inl rfl)
theorem HL {ops:List Oper}{listed:Array Bool}{i:Nat}(hsz:listed.size=ops.length)(hlt:∀i,i<ops.length→∀e∈DG (ops.getD i default),e<i)(h:i∈Region.ready .any ops.toArray listed) :
  listed.getD i true=false∧i<ops.length∧∃o,ops[i]? =some o∧∀e∈DG o,listed.getD e true=true:=by
 obtain⟨h1,o,ho,h2⟩:=mem_ready.1 h;have ho':ops[i]? =some o:=by simpa using ho
 have hil:=(List.getElem?_eq_some_iff.1 ho').1;refine⟨h1,hil,o,ho',λe he=>?_⟩;have hei:=hlt i hil e (by rw[Vc,ho'];exact he);simp only[DG,List.mem_map,List.mem_filter] at he;obtain⟨x,⟨hx1,hx2⟩,rfl⟩:=he;have h3:=h2 x (by simpa using hx1) hx2;rw[Pt (by omega) true false];exact h3
theorem HD {ops:List Oper}{listed:Array Bool}(hsz:listed.size=ops.length)(hlt:∀i,i<ops.length→∀e∈DG (ops.getD i default),e<i)(h:Region.ready .any ops.toArray listed=[]) :
  ∀j,j<ops.length→listed.getD j true=true:=by
 intro j
 induction j using Nat.strongRecOn with
 | ind j ih=>
  intro hj
  cases hb:listed.getD j true with
  | true=>rfl
  | false=>
   have:j∈Region.ready .any ops.toArray listed:=mem_ready.2 ⟨hb,ops[j],by simp[hj],λe he hbn=>by
    have hel:e.on<j:=hlt j hj e.on (by
     rw[Vc,UW hj];simp only[DG,Vr,List.mem_map,List.mem_filter];exact⟨e,⟨by simpa using he,hbn⟩,rfl⟩)
    rw[Pt (by omega) false true];exact ih e.on hel (by omega)⟩
   rw[h] at this;cases this
theorem JL {listed:Array Bool}{i j:Nat}(hi:i<listed.size):(listed.setIfInBounds i true).getD j true=true↔(j=i∨listed.getD j true=true):=by
 by_cases hj:i=j
 ·subst hj;simp[hi]
 ·rw[getD_set_ne true hj];exact⟨.inr,λh=>h.elim (λh=>absurd h.symm hj) id⟩
theorem PL {listed:Array Bool}{i fuel:Nat}(hi:i<listed.size)(hun:listed.getD i true=false)(hc:listed.toList.count false=fuel+1):(listed.setIfInBounds i true).toList.count false=fuel:=by
 have hfi:listed.toList[i]? =some false:=by
  rw[Array.getD_eq_getD_getElem?,Array.getElem?_eq_getElem hi] at hun;simp at hun;simp[hi,hun]
 rw[Array.toList_setIfInBounds];have h1:=List.count_set (a:=true) (b:=false) (l:=listed.toList) (i:=i) (by simpa using hi);have h2:listed.toList[i]'(by simpa using hi)=false:=by
  have:=List.getElem?_eq_some_iff.1 hfi;exact this.2
 rw[h1,h2,hc];rfl
theorem Jv {ops:List Oper}{N:Nat}(hlt:∀i,i<ops.length→∀e∈DG (ops.getD i default),e<i)
  (hch:∀i,N≤i→i<ops.length→∀j,j<i→((KI ops []).getD i 0).testBit j=true):∀(k m:Nat) (listed:Array Bool) (a:Act) (w:World),m+k=ops.length→N≤m→listed.size=ops.length→
   (∀j,j<ops.length→(listed.getD j true=true↔j<m))→(∀j o,ops[j]? =some o→listed.getD j true=true→∀e∈DG o,listed.getD e true=true)→wpList P ops.toArray Q (ops.drop m) a w→wpAny P .any ops.toArray Q k listed a w
 | 0,m,listed,a,w,hk,hN,hsz,hl,hcl,h=>by
  refine⟨?_,?_⟩
  ·cases hr:Region.ready .any ops.toArray listed with
   | nil=>rfl
   | cons i r=>
    obtain⟨h1,h2,_⟩:=HL hsz hlt (i:=i) (by rw[hr];simp);rw[(hl i h2).2 (by omega)] at h1;cases h1
  ·rw[List.drop_of_length_le (by omega)] at h;exact h
 | k+1,m,listed,a,w,hk,hN,hsz,hl,hcl,h=>by
  refine⟨λhr=>?_,λi hi=>?_⟩
  ·have:=(hl m (by omega)).1 (HD hsz hlt hr m (by omega));omega
  ·obtain⟨h1,h2,o,ho,hb⟩:=HL hsz hlt hi;have him:i=m:=by
    have hmi : ¬ i<m:=λh'=>by rw[(hl i h2).2 h'] at h1;cases h1
    by_cases e:i=m
    ·exact e
    ·rcases KK ho hb hcl m (hch i (by omega) h2 m (by omega)) with h3 | h3
     ·exact h3.symm
     ·have:=(hl m (by omega)).1 h3;omega
   subst him;have hd:ops.drop i=o::ops.drop (i+1):=by
    rw[List.drop_eq_getElem_cons h2]
    congr 1
    exact(List.getElem?_eq_some_iff.1 ho).2
   rw[hd] at h;have ih:∀a' w',wpList P ops.toArray Q (ops.drop (i+1)) a' w'→wpAny P .any ops.toArray Q k (listed.setIfInBounds i true) a' w':=λa' w' h'=>by
    refine Jv hlt hch k (i+1) _ a' w' (by omega) (by omega) (by simpa using hsz) (λj hj=>?_) (λj o' hj hlj e he=>?_) h'
    ·rw[JL (by omega),hl j hj];omega
    ·rw[JL (by omega)] at hlj ⊢;rcases hlj with rfl | hlj
     ·rw[ho] at hj;simp at hj;subst hj;exact .inr (hb e he)
     ·exact .inr (hcl j o' hj hlj e he)
   unfold wpOp;have hoA:ops.toArray[i]? =some o:=by simpa using ho
   simp only[hoA];simp only[wpList] at h
   split
   ·rename_i hw'
    rw[Vi hw'] at h;exact h.imp (λh=>Oper.wp_mono ih h) (λh=>h)
   ·rename_i hw'
    rw[Ve hw'] at h;exact ih _ _ h
theorem T1 {id:Nat}{ops:List Oper}{N:Nat}(hm:P.follows .mixedOrders=true)(hB:OB ops N=true)(hN:N≤ops.length)(I:(Nat→Bool)→Act→World→Prop)
  (hext:∀S S' a w,(∀j,j<N→S j=S' j)→I S a w→I S' a w) {a:Act} {w:World} (h0:I (λ_=>false) a { w with drawn:=w.drawn+1 })
  (step:∀S i o a w,i<N→S i=false→ops[i]? =some o→(∀e∈DG o,e<i∧S e=true)→I S a w→∀K:Act→World→Prop,(∀a' w',I (λj=>j ==i||S j) a' w'→K a' w')→
   (Region.wanted o (yielded ops.toArray a.tmps)=true→o.wp P a w K Q)∧(Region.wanted o (yielded ops.toArray a.tmps)=false→K (a.put o.dst undef) w))
  (fin:∀a w,I (λ_=>true) a w→wpList P ops.toArray Q (ops.drop N) a w):(Code.region id ops.toArray true).wp P Q a w:=by
 simp only[OB,UX,V1,List.mem_range,UU,V7] at hB;obtain⟨hlt,hch0⟩:=hB;have hch:∀i,N≤i→i<ops.length→∀j,j<i→((KI ops []).getD i 0).testBit j=true:=λi h1 h2 j hj=>by
  rcases hch0 i h2 with h3 | h3
  ·omega
  ·exact h3 j hj
 refine wp_region_any hm ?_;have main:∀(fuel:Nat) (listed:Array Bool) (a:Act) (w:World),listed.size=ops.length→listed.toList.count false=fuel→I (λj=>listed.getD j true) a w→
   (∀j o,ops[j]? =some o→listed.getD j true=true→∀e∈DG o,listed.getD e true=true)→(∀j,N≤j→j<ops.length→listed.getD j true=false)→wpAny P .any ops.toArray Q fuel listed a w:=by
  intro fuel;have allin:∀(fuel:Nat) (listed:Array Bool) (a:Act) (w:World),listed.size=ops.length→listed.toList.count false=fuel→I (λj=>listed.getD j true) a w→
   (∀j o,ops[j]? =some o→listed.getD j true=true→∀e∈DG o,listed.getD e true=true)→(∀j,N≤j→j<ops.length→listed.getD j true=false)→(∀j,j<N→listed.getD j true=true)→wpAny P .any ops.toArray Q fuel listed a w:=by
   intro fuel listed a w hsz hc hI hcl hlast hall;have hl:∀j,j<ops.length→(listed.getD j true=true↔j<N):=λj hj=>by
    constructor
    ·intro h
     by_cases hjN:j<N
     ·exact hjN
     ·rw[hlast j (by omega) hj] at h;cases h
    ·exact hall j
   have:=NG hsz hN hl;refine Jv hlt hch fuel N listed a w (by omega) (Vh _) hsz hl hcl (fin a w (hext _ _ a w (λj hj=>hall j hj) hI))
  induction fuel with
  | zero=>
   intro listed a w hsz hc hI hcl hlast;refine allin 0 listed a w hsz hc hI hcl hlast (λj hj=>?_)
   cases hb:listed.getD j true with
   | true=>rfl
   | false=>
    have:false∈listed.toList:=by
     rw[Array.getD_eq_getD_getElem?,Array.getElem?_eq_getElem (by omega)] at hb;simp at hb;rw[← hb];simp
    have:=List.count_pos_iff.2 this;omega
  | succ fuel ih=>
   intro listed a w hsz hc hI hcl hlast
   by_cases hall:∀j,j<N→listed.getD j true=true
   ·exact allin (fuel+1) listed a w hsz hc hI hcl hlast hall
   ·refine⟨λhr=>absurd (λj hj=>HD hsz hlt hr j (by omega)) hall,λi hi=>?_⟩;obtain⟨h1,h2,o,ho,hb⟩:=HL hsz hlt hi;have hiN:i<N:=by
     by_cases h:i<N
     ·exact h
     ·refine absurd (λj hj=>?_) hall;rcases KK ho hb hcl j (hch i (by omega) h2 j (by omega)) with h3 | h3
      ·omega
      ·exact h3
    have K':∀a' w',I (λj=>j ==i||listed.getD j true) a' w'→wpAny P .any ops.toArray Q fuel (listed.setIfInBounds i true) a' w':=λa' w' hI'=>by
     refine ih _ a' w' (by simpa using hsz) (PL (by omega) h1 hc) (hext _ _ a' w' (λj hj=>?_) hI') (λj o' hj hlj e he=>?_) (λj h3 h4=>?_)
     ·have:=JL (listed:=listed) (i:=i) (j:=j) (by omega)
      cases hq:(listed.setIfInBounds i true).getD j true with
      | true=>
       rw[hq] at this;rcases this.1 rfl with h | h
       ·simp[h]
       ·simp[h]
      | false=>
       rw[hq] at this;have h5 : ¬ (j=i∨listed.getD j true=true):=λh=>by have:=this.2 h;cases this
       cases hz:listed.getD j true with
       | true=>exact absurd (.inr hz) h5
       | false=>
        have:j≠i:=λh=>h5 (.inl h);simp[this]
     ·rw[JL (by omega)] at hlj ⊢;rcases hlj with rfl | hlj
      ·rw[ho] at hj;simp at hj;subst hj;exact .inr (hb e he)
      ·exact .inr (hcl j o' hj hlj e he)
     ·rw[getD_set_ne true (by omega)];exact hlast j h3 h4
    obtain⟨k1,k2⟩:=step _ i o a w hiN h1 ho (λe he=>⟨hlt i h2 e (by rw[Vc,ho];exact he),hb e he⟩) hI _ K';unfold wpOp;have hoA:ops.toArray[i]? =some o:=by simpa using ho
    simp only[hoA]
    split
    ·rename_i hw';exact .inl (k1 hw')
    ·rename_i hw';exact k2 (by simpa using hw')
 have e0:∀j,j<ops.length→(Array.replicate ops.length false).getD j true=false:=λj hj=>by simp[hj]
 have hsz0:ops.toArray.size=ops.length:=by simp
 rw[hsz0];refine main ops.length (Array.replicate ops.length false) a _ (by simp) (by simp) (hext _ _ _ _ (λj hj=>(e0 j (by omega)).symm) h0) (λj o hj hl=>?_) (λj _ h2=>e0 j h2);rw[e0 j (List.getElem?_eq_some_iff.1 hj).1] at hl;cases hl
end
structure Sa where
 deps:List Nat
 r:Rp
 al:Option (List Rp×TypeId):=none
 late:Option (Nat×List Rp):=none
 sto:Option Nat:=none
def D6 (sp:List Sa)(i:Nat):Sa:=sp.getD i { deps:=[],r:=rv undef }
def QB (sp:List Sa):List Sp:=sp.map λs=>⟨s.deps,s.r,0⟩
def IU (β:Nat→Nat)(s:Sa)(i:Nat):Rp:=match s.al with
 | none=>s.r
 | some _=>rv (.pointer (some ⟨β i,0,none⟩))
def Jo (S:Nat→Bool)(late:Option (Nat×List Rp))(cs:List Rp):List Rp:=match late with
 | none=>cs
 | some q=>if S q.1 then q.2 else cs
def Eg (S:Nat→Bool)(β:Nat→Nat):List Sa→Nat→List Ent
 | [],_=>[]
 | s::r,t=>match s.al with
  | some p=>if S t then .blk (β t) (Jo S s.late p.1) p.2::Eg S β r (t+1) else Eg S β r (t+1)
  | none=>Eg S β r (t+1)
def Q1 (β:Nat→Nat):List Sa→Nat→List Ent
 | [],_=>[]
 | s::r,t=>match s.al with
  | some p=>.blk (β t) (match s.late with | none=>p.1 | some q=>q.2) p.2::Q1 β r (t+1)
  | none=>Q1 β r (t+1)
def KP (β:Nat→Nat):List Oper→List Sa→Nat→Fr→Fr
 | o::os,s::sp,i,l=>match o.dst with
  | some d=>(d,IU β s i)::KP β os sp (i+1) l
  | none=>KP β os sp (i+1) l
 | _,_,_,l=>l
theorem HZ {S S':Nat→Bool}{late:Option (Nat×List Rp)}{cs:List Rp}(h:∀q,late=some q→S q.1=S' q.1):Jo S late cs=Jo S' late cs:=by
 unfold Jo
 cases late with
 | none=>rfl
 | some q=>simp only[];rw[h q rfl]
theorem Dv (S:Nat→Bool)(β:Nat→Nat)(s:Sa)(r:List Sa)(t:Nat):Eg S β (s::r) t=match s.al with
  | some p=>if S t then .blk (β t) (Jo S s.late p.1) p.2::Eg S β r (t+1) else Eg S β r (t+1)
  | none=>Eg S β r (t+1):=rfl
theorem E3 {S S':Nat→Bool}{β β':Nat→Nat}:∀(r:List Sa) (t0:Nat),(∀(t:Nat) (s:Sa),r[t]? =some s→s.al≠none→S (t0+t)=S' (t0+t)∧(S (t0+t)=true→β (t0+t)=β' (t0+t)∧∀q,s.late=some q→S q.1=S' q.1))→Eg S β r t0=Eg S' β' r t0
 | [],_,_=>rfl
 | s::r,t0,h=>by
  have ih:=E3 r (t0+1) (λt s hs hn=>by
   have:=h (t+1) s (by simpa using hs) hn;rw[show t0+1+t=t0+(t+1) from by omega];exact this)
  unfold Eg;rw[ih]
  cases ha:s.al with
  | none=>rfl
  | some p=>
   obtain⟨h1,h2⟩:=h 0 s rfl (by rw[ha];exact nofun);simp only[Nat.add_zero] at h1 h2;simp only[];rw[← h1]
   split
   ·rename_i hS;rw[(h2 hS).1,HZ (h2 hS).2]
   ·rfl
theorem NE (β:Nat→Nat):∀(r:List Sa) (t0:Nat),Eg (λ_=>true) β r t0=Q1 β r t0
 | [],_=>rfl
 | s::r,t0=>by
  unfold Eg Q1;rw[NE β r (t0+1)]
  cases s.al with
  | none=>rfl
  | some p=>cases hl:s.late<;>simp[Jo,hl]
theorem L7 (β:Nat→Nat):∀(r:List Sa) (t0:Nat),Eg (λ_=>false) β r t0=[]
 | [],_=>rfl
 | s::r,t0=>by
  unfold Eg;rw[L7 β r (t0+1)]
  cases s.al<;>simp
theorem ND {S:Nat→Bool}{β:Nat→Nat}{i b:Nat}{p:List Rp×TypeId}:∀(r:List Sa) (t0 k:Nat) (s:Sa),i=t0+k→r[k]? =some s→s.al=some p→S i=false→(∀(t:Nat) (s:Sa) (q:Nat×List Rp),r[t]? =some s→s.al≠none→s.late=some q→q.1≠i)→(∀q,s.late=some q→S q.1=false∧q.1≠i)→
  (Eg (λj=>j ==i||S j) (λj=>if j=i then b else β j) r t0).Perm (.blk b p.1 p.2::Eg S β r t0)
 | [],_,_,_,_,h,_,_,_,_=>by simp at h
 | s'::r,t0,0,s,hi,h,ha,hS,hne,hl=>by
  simp at h hi;subst h;subst hi;have e:=E3 (S:=λj=>j ==i||S j) (S':=S) (β:=λj=>if j=i then b else β j) (β':=β) r (i+1) (λt s hs hn=>by
   have:i+1+t≠i:=by omega
   refine⟨by simp[this],λ_=>⟨by simp[this],λq hq=>?_⟩⟩;have:=hne (t+1) s q (by simpa using hs) hn hq;simp[this])
  have ec:Jo (λj=>j ==i||S j) s'.late p.1=p.1:=by
   unfold Jo
   cases hq:s'.late with
   | none=>rfl
   | some q=>
    obtain⟨h1,h2⟩:=hl q hq;simp[h1,h2]
  unfold Eg;rw[e,ha];simp only[hS,BEq.rfl,VL,if_true,ec];simp
 | s'::r,t0,k+1,s,hi,h,ha,hS,hne,hl=>by
  have ih:=ND (S:=S) (β:=β) (i:=i) (b:=b) (p:=p) r (t0+1) k s (by omega) (by simpa using h) ha hS (λt s q hs=>hne (t+1) s q (by simpa using hs)) hl;have hne0:t0≠i:=by omega
  have hne':(t0 ==i)=false:=by simpa using hne0
  unfold Eg
  cases ha':s'.al with
  | none=>exact ih
  | some q=>
   simp only[hne',Vv,Ve hne0];rw[HZ (S:=λj=>j ==i||S j) (S':=S) (λq hq=>by
    have:=hne 0 s' q rfl (by rw[ha'];exact nofun) hq;simp[this])]
   cases hS':S t0 with
   | true=>simpa using(US _ ih).trans (List.Perm.swap _ _ _)
   | false=>simpa using ih
theorem NC {S:Nat→Bool}{β:Nat→Nat}{i j:Nat}{p:List Rp×TypeId}{ncs:List Rp}:∀(r:List Sa) (t0 k:Nat) (s:Sa),j=t0+k→r[k]? =some s→s.al=some p→s.late=some (i,ncs)→S j=true→S i=false→(∀(t:Nat) (s:Sa) (q:Nat×List Rp),r[t]? =some s→s.al≠none→s.late=some q→t0+t≠j→q.1≠i)→(∀(t:Nat) (s:Sa),r[t]? =some s→s.al≠none→t0+t≠i)→
  ∃H',(Eg S β r t0).Perm (.blk (β j) p.1 p.2::H')∧(Eg (λj=>j ==i||S j) β r t0).Perm (.blk (β j) ncs p.2::H')
 | [],_,_,_,_,h,_,_,_,_,_,_=>by simp at h
 | s'::r,t0,0,s,hj,h,ha,hl,hSj,hSi,hne,hni=>by
  simp at h hj;subst h;subst hj;have e:=E3 (S:=λx=>x ==i||S x) (S':=S) (β:=β) (β':=β) r (j+1) (λt s hs hn=>by
   have h1:=hni (t+1) s (by simpa using hs) hn;have h1':j+1+t≠i:=by omega
   refine⟨by simp[h1'],λ_=>⟨rfl,λq hq=>?_⟩⟩;have:=hne (t+1) s q (by simpa using hs) hn hq (by omega);simp[this])
  refine⟨Eg S β r (j+1),?_,?_⟩
  ·rw[Dv];rw[ha];simp[hSj,Jo,hl,hSi]
  ·rw[Dv];rw[ha,e];simp[hSj,Jo,hl]
 | s'::r,t0,k+1,s,hj,h,ha,hl,hSj,hSi,hne,hni=>by
  obtain⟨H',h1,h2⟩:=NC (S:=S) (β:=β) (i:=i) (j:=j) (p:=p) (ncs:=ncs) r (t0+1) k s (by omega) (by simpa using h) ha hl hSj hSi (λt s q hs hn hq hx=>hne (t+1) s q (by simpa using hs) hn hq (by omega)) (λt s hs hn=>by
   have:=hni (t+1) s (by simpa using hs) hn;omega)
  cases ha':s'.al with
  | none=>exact⟨H',by rw[Dv,ha'];exact h1,by rw[Dv,ha'];exact h2⟩
  | some q=>
   have hi0:=hni 0 s' rfl (by rw[ha'];exact nofun);have hi0':(t0 ==i)=false:=by simpa using hi0
   have ec:Jo (λx=>x ==i||S x) s'.late q.1=Jo S s'.late q.1:=HZ (λq hq=>by
    have:=hne 0 s' q rfl (by rw[ha'];exact nofun) hq (by omega);simp[this])
   cases hS':S t0 with
   | true=>
    refine⟨.blk (β t0) (Jo S s'.late q.1) q.2::H',?_,?_⟩
    ·rw[Dv];rw[ha'];simpa[hS'] using(US _ h1).trans (List.Perm.swap _ _ _)
    ·rw[Dv];rw[ha'];simp only[hi0',Vv,hS',if_true,ec];exact(US _ h2).trans (List.Perm.swap _ _ _)
   | false=>
    refine⟨H',?_,?_⟩
    ·rw[Dv];rw[ha'];simpa[hS'] using h1
    ·rw[Dv];rw[ha'];simp only[hi0',Vv,hS'];simpa using h2
def U7 (n:Nat)(ops:List Oper)(N:Nat)(keys:List Nat)(deps:List (List Nat))(als:List Bool)(lates stos:List (Option Nat)):Bool:=
 OB ops N&&decide (N≤ops.length)&&
 (List.range N).all (λi=>match CL ops i with
  | some d=>decide (d<n)&&!keys.contains d&&(List.range N).all (λj=>j ==i||CL ops j !=some d)
  | none=>true)&&
 (List.range N).all (λi=>(deps.getD i []).all (λj=>decide (j<N)&&(DG (ops.getD i default)).contains j&&!als.getD j true))&&
 (List.range N).all (λi=>match stos.getD i none with
  | some j=>decide (j<N)&&(DG (ops.getD i default)).contains j&&als.getD j false&&!als.getD i true
  | none=>true)&&
 (List.range N).all (λj=>match lates.getD j none with
  | some k=>decide (k<N)&&als.getD j false&&stos.getD k none ==some j
  | none=>true)
def TV (P:Program)(n:Nat)(c:Cx)(opsA:Array Oper)(Q:Exit→Act→World→Prop)(l:Fr)(o:Oper)(p:List Rp×TypeId):Prop:=
 ∀H a w Z (K:Act→World→Prop),Cf n l a Z→St c H Z w→(∀b w',St c (.blk b p.1 p.2::H) Z w'→K (a.put o.dst (.pointer (some ⟨b,0,none⟩))) w')→
  Region.wanted o (yielded opsA a.tmps)=true∧o.wp P a w K Q
def Ty (P:Program)(n:Nat)(c:Cx)(opsA:Array Oper)(Q:Exit→Act→World→Prop)(ops:List Oper)(sp:List Sa)(l0:Fr)(H:List Ent)(i:Nat)(o:Oper):Prop:=
 match (D6 sp i).sto with
 | some j=>o.dst=none∧∃d p ncs,CL ops j=some d∧(D6 sp j).al=some p∧(D6 sp j).late=some (i,ncs)∧
   ∀b H,Dw P n c opsA Q ((d,rv (.pointer (some ⟨b,0,none⟩)))::B2 ops (QB sp) (D6 sp i).deps l0) (.blk b p.1 p.2::H) o (rv undef) (.blk b ncs p.2::H)
 | none=>match (D6 sp i).al with
  | none=>∀E,Dw P n c opsA Q (B2 ops (QB sp) (D6 sp i).deps l0) (H++E) o (D6 sp i).r (H++E)
  | some p=>TV P n c opsA Q (B2 ops (QB sp) (D6 sp i).deps l0) o p
def He (P:Program)(n:Nat)(c:Cx)(opsA:Array Oper)(Q:Exit→Act→World→Prop)(ops:List Oper)(sp:List Sa)(l0:Fr)(H:List Ent):Nat→List Oper→Prop
 | i,o::rest=>Ty P n c opsA Q ops sp l0 H i o∧He P n c opsA Q ops sp l0 H (i+1) rest
 | _,[]=>True
section
variable {P : Program} {n : Nat} {c : Cx} {opsA : Array Oper} {Q : Exit → Act → World → Prop} {l l0 : Fr} {H : List Ent} {sp : List Sa}
theorem He.at {ops:List Oper}:∀{k:Nat} {rest:List Oper},He P n c opsA Q ops sp l0 H k rest→∀(t:Nat) o,rest[t]? =some o→Ty P n c opsA Q ops sp l0 H (k+t) o
 | k,o::rest,⟨h1,h2⟩,t,o',ht=>by
  cases t with
  | zero=>simp at ht;subst ht;exact h1
  | succ t=>
   have:=He.at h2 t o' (by simpa using ht);rw[show k+(t+1)=k+1+t from by omega];exact this
 | _,[],_,t,o,h=>by simp at h
theorem P2 {β:Nat→Nat}{a:Act}{Z:Fz}(h0:Cf n l0 a Z):∀(os:List Oper) (ss:List Sa) (k:Nat),(∀(t:Nat) o s d,os[t]? =some o→ss[t]? =some s→o.dst=some d→∃v,a.tmps[d]? =some v∧(IU β s (k+t)).p Z v)→Cf n (KP β os ss k l0) a Z
 | [],_,_,_=>by unfold KP;exact h0
 | _::_,[],_,_=>by unfold KP;exact h0
 | o::os,s::ss,k,h=>by
  have ih:=P2 h0 os ss (k+1) (λt o' s' d h1 h2 h3=>by
   have:=h (t+1) o' s' d (by simpa using h1) (by simpa using h2) h3;rw[show k+1+t=k+(t+1) from by omega];exact this)
  unfold KP
  cases hd:o.dst with
  | none=>exact ih
  | some d=>
   refine⟨ih.size,ih.defers,λi r hi=>?_⟩;rw[B3] at hi
   split at hi
   ·rename_i e;subst e;simp at hi;subst hi;exact h 0 o s d rfl rfl hd
   ·exact ih.tm i r hi
theorem T2 {id:Nat}{ops:List Oper}(N:Nat)(sp:List Sa)(hm:P.follows .mixedOrders=true)(hB:U7 n ops N (E2 l0) (sp.map (·.deps)) (sp.map (·.al.isSome)) (sp.map (·.late.map (·.1))) (sp.map (·.sto))=true)(hl0:Ti l0 l)(hsp:sp.length=N)
  (hob:He P n c ops.toArray Q ops sp l0 H 0 (ops.take N)) (h:∀β,WL P n c ops.toArray Q (ops.drop N) (KP β (ops.take N) sp 0 l0) (H++Q1 β sp 0)):WC P n c (.region id ops.toArray true) Q l H:=by
 intro a w Z ha hw;simp only[U7,UX,V1,List.mem_range,UU] at hB;obtain⟨⟨⟨⟨⟨b1,bN⟩,b2⟩,b3⟩,b4⟩,b5⟩:=hB;have hget:∀i,i<N→(ops.take N)[i]? =ops[i]?:=λi hi=>by rw[V8,Vi hi]
 have hsa:∀i,i<N→sp[i]? =some (D6 sp i):=λi hi=>by
  simp[D6,Vc,UW (show i<sp.length by omega)]
 have hspq:∀i,i<N→(C6 (QB sp) i)=⟨(D6 sp i).deps,(D6 sp i).r,0⟩:=λi hi=>by
  simp[C6,QB,Vc,VH,hsa i hi]
 have hals:∀j b,j<N→(sp.map (·.al.isSome)).getD j b=(D6 sp j).al.isSome:=λj b hj=>by simp[Vc,VH,hsa j hj]
 have hstos:∀j,j<N→(sp.map (·.sto)).getD j none=(D6 sp j).sto:=λj hj=>by simp[Vc,VH,hsa j hj]
 have hlates:∀j,j<N→(sp.map (·.late.map (·.1))).getD j none=(D6 sp j).late.map (·.1):=λj hj=>by simp[Vc,VH,hsa j hj]
 have S1:∀i o j,i<N→ops[i]? =some o→(D6 sp i).sto=some j→j<N∧j∈DG o∧(D6 sp j).al≠none∧(D6 sp i).al=none:=λi o j hi ho hs=>by
  have h1:=b4 i hi;rw[hstos i hi,hs] at h1;simp only[UX,Vq,UU] at h1;obtain⟨⟨⟨h2,h3⟩,h4⟩,h5⟩:=h1;rw[hals j _ h2] at h4;rw[hals i _ hi] at h5;rw[Vc,ho,Vr,List.contains_iff_mem] at h3;exact⟨h2,h3,λe=>(by rw[e] at h4;cases h4),(by simpa using h5)⟩
 have L1:∀t q,t<N→(D6 sp t).late=some q→q.1<N∧(D6 sp q.1).sto=some t:=λt q ht hq=>by
  have h1:=b5 t ht;rw[hlates t ht,hq] at h1;simp only[Option.map_some,UX,UU,beq_iff_eq] at h1;obtain⟨⟨h2,h3⟩,h4⟩:=h1;rw[hstos _ h2] at h4;exact⟨h2,h4⟩
 have hops:∀j,j<N→∃o,ops[j]? =some o:=λj hj=>⟨ops[j]'(by omega),UW (by omega)⟩
 have lt_of:∀(t:Nat) (s:Sa),sp[t]? =some s→t<N∧s=D6 sp t:=λt s hs=>by
  have h1:t<N:=by have:=(List.getElem?_eq_some_iff.1 hs).1;omega
  refine⟨h1,?_⟩;rw[hsa t h1] at hs;simpa using hs.symm
 have hdst:∀i o d,i<N→ops[i]? =some o→o.dst=some d→(d<n∧d ∉ E2 l0)∧∀j,j<N→j≠i→CL ops j≠some d:=λi o d hi ho hd=>by
  have h3:=b2 i hi;have:CL ops i=some d:=by simp[CL,ho,hd]
  rw[this] at h3;simp only[UX,Vq,V1,List.mem_range,UU] at h3;refine⟨⟨h3.1.1,λhmem=>by rw[← List.contains_iff_mem] at hmem;rw[hmem] at h3;cases h3.1.2⟩,λj hj hne he=>?_⟩;have:=h3.2 j hj;simp[hne,he] at this
 refine T1 (N:=N) hm b1 bN (λS a w=>∃ (β:Nat→Nat) (Z:Fz),St c (H++Eg S β sp 0) Z w∧Cf n l0 a Z∧(∀j o d,j<N→S j=true→ops[j]? =some o→o.dst=some d→∃v,a.tmps[d]? =some v∧(IU β (D6 sp j) j).p Z v)∧
   ∀k j,k<N→(D6 sp k).sto=some j→S k=true→S j=true)
  (λS S' a w hS hI=>?_) ⟨λ_=>0,Z,?_,ha.subL hl0,λj o d _ hS=>(by cases hS),λk j _ _ hS=>(by cases hS)⟩ (λS i o a w hi hun ho hb hI K hK=>?_) (λa w hI=>?_)
 ·obtain⟨β,Z,h1,h2,h3,h4⟩:=hI;refine⟨β,Z,?_,h2,λj o d hj hS'=>h3 j o d hj (by rw[hS j hj];exact hS'),λk j hk hs hSk=>?_⟩
  ·rw[← E3 (S:=S) (β:=β) (β':=β) sp 0 (λt s hs _=>by
    obtain⟨ht,rfl⟩:=lt_of t s hs;exact⟨hS _ (by omega),λ_=>⟨rfl,λq hq=>hS _ (L1 t q ht hq).1⟩⟩)]
   exact h1
  ·obtain⟨o,ho⟩:=hops k hk;rw[← hS j (S1 k o j hk ho hs).1];exact h4 k j hk hs (by rw[hS k hk];exact hSk)
 ·rw[L7,Vz];exact hw.drawn _
 ·obtain⟨β,Z,h1,h2,h3,hx⟩:=hI;have hput:∀k u v,a.tmps[k]? =some u→o.dst≠some k→(a.put o.dst v).tmps[k]? =some u:=λk u v hk hne=>by
   cases hd:o.dst with
   | none=>simpa[Act.put] using hk
   | some d=>
    simp only[Act.put,Array.getElem?_setIfInBounds];rw[Ve (λe=>hne (by rw[hd,e]))];exact hk
  have hagr:∀v Z',Fz.le Z Z'→Cf n l0 (a.put o.dst v) Z':=λv Z' hz=>by
   refine⟨?_,?_,λk r hk=>?_⟩
   ·cases o.dst<;>simp[Act.put,h2.size]
   ·cases o.dst<;>simp[Act.put,h2.defers]
   ·obtain⟨u,hu,hpu⟩:=h2.tm k r hk;exact⟨u,hput k u v hu (λe=>((hdst i o k hi ho e).1).2 (Kx hk)),r.mono hz hpu⟩
  have hvals:∀(v:Value) (Z':Fz) (β':Nat→Nat),Fz.le Z Z'→(∀j,j≠i→β' j=β j)→(o.dst≠none→(IU β' (D6 sp i) i).p Z' v)→∀j o' d,j<N→(j ==i||S j)=true→ops[j]? =some o'→o'.dst=some d→∃u,(a.put o.dst v).tmps[d]? =some u∧(IU β' (D6 sp j) j).p Z' u:=by
   intro v Z' β' hz hβ hp j o' d hj hS' ho' hd
   by_cases hji:j=i
   ·subst hji;rw[ho] at ho';simp at ho';subst ho';refine⟨v,?_,hp (by simp[hd])⟩;have hdn:d<a.tmps.size:=by rw[h2.size];exact(hdst j o d hi ho hd).1.1
    simp[Act.put,hd,hdn]
   ·have hSj:S j=true:=by simpa[hji] using hS'
    obtain⟨u,hu,hpu⟩:=h3 j o' d hj hSj ho' hd;refine⟨u,hput d u v hu (λe=>(hdst i o d hi ho e).2 j hj hji (by simp[CL,ho',hd])),?_⟩;have:IU β' (D6 sp j) j=IU β (D6 sp j) j:=by unfold IU;rw[hβ j hji]
    rw[this];exact(IU β (D6 sp j) j).mono hz hpu
  have hx':∀k j,k<N→(D6 sp k).sto=some j→(k ==i||S k)=true→(j ==i||S j)=true:=λk j hk hs hSk=>by
   by_cases hki:k=i
   ·subst hki;have:=(hb j (S1 k o j hk ho hs).2.1).2;simp[this]
   ·have:S j=true:=hx k j hk hs (by simpa[hki] using hSk);simp[this]
  have hat:=hob.at i o (by rw[hget i hi];exact ho);rw[Vt] at hat;unfold Ty at hat;have hag':Cf n (B2 ops (QB sp) (D6 sp i).deps l0) a Z:=JU h2 (λj hj d hd=>by
    have h4:=b3 i hi j (by simpa[Vc,VH,hsa i hi] using hj);simp only[UX,Vq,UU] at h4;obtain⟨⟨h5,h6⟩,h7⟩:=h4;rw[Vc,ho,Vr,List.contains_iff_mem] at h6;have hjal:(D6 sp j).al=none:=by
     rw[hals j _ h5] at h7;simpa using h7
    obtain⟨o2,ho2⟩:=hops j h5;obtain⟨v,hv1,hv2⟩:=h3 j o2 d h5 (hb j h6).2 ho2 (by simpa[CL,ho2] using hd);refine⟨v,hv1,?_⟩;rw[hspq j h5];simpa[IU,hjal] using hv2)
  cases hst:(D6 sp i).sto with
  | some j=>
   rw[hst] at hat;obtain⟨hod,d,p,ncs,hd,hal,hlate,hok⟩:=hat;obtain⟨hjN,hjb,_,hial⟩:=S1 i o j hi ho hst;have hSj:=(hb j hjb).2;obtain⟨H',p1,p2⟩:=NC (S:=S) (β:=β) (i:=i) (j:=j) (p:=p) (ncs:=ncs) sp 0 j (D6 sp j) (by omega) (hsa j hjN) hal hlate hSj hun (λt s q hs _ hq hne he=>by
     obtain⟨ht,rfl⟩:=lt_of t s hs;have:=(L1 t q ht hq).2;rw[he,hst] at this;simp at this;omega) (λt s hs hn he=>by
     obtain⟨ht,rfl⟩:=lt_of t s hs;rw[Vt] at he;subst he;exact hn hial)
   obtain⟨o2,ho2⟩:=hops j hjN;obtain⟨v,hv1,hv2⟩:=h3 j o2 d hjN hSj ho2 (by simpa[CL,ho2] using hd);have hag2:Cf n ((d,rv (.pointer (some ⟨β j,0,none⟩)))::B2 ops (QB sp) (D6 sp i).deps l0) a Z:=⟨hag'.size,hag'.defers,λk r hk=>by
    rw[B3] at hk
    split at hk
    ·rename_i e;subst e;simp at hk;subst hk
     exact⟨v,hv1,by simpa[IU,hal] using hv2⟩
    ·exact hag'.tm k r hk⟩
   refine hok (β j) (H++H') a w Z K hag2 (h1.perm ((List.Perm.append_left H p1).trans List.perm_middle)) (λv w' Z' hz _ hs'=>hK _ _ ⟨β,Z',?_,hagr v Z' hz,hvals v Z' β hz (λ_ _=>rfl) (λhne=>absurd hod hne),hx'⟩);exact hs'.perm (List.perm_middle.symm.trans (List.Perm.append_left H p2.symm))
  | none=>
   rw[hst] at hat;have latene:∀t q,t<N→(D6 sp t).late=some q→q.1≠i:=λt q ht hq he=>by
    have:=(L1 t q ht hq).2;rw[he,hst] at this;cases this
   cases hal:(D6 sp i).al with
   | none=>
    rw[hal] at hat;refine hat _ a w Z K hag' h1 (λv w' Z' hz hp hst'=>hK _ _ ⟨β,Z',?_,hagr v Z' hz,hvals v Z' β hz (λ_ _=>rfl) (λ_=>by unfold IU;rw[hal];exact hp),hx'⟩);rw[E3 (S':=S) (β':=β) sp 0 (λt s hs hn=>by
     obtain⟨ht,rfl⟩:=lt_of t s hs;have:t≠i:=λe=>by subst e;exact hn hal
     refine⟨by simp[this],λ_=>⟨rfl,λq hq=>?_⟩⟩;have:=latene t q ht hq;simp[this])]
    exact hst'
   | some p=>
    rw[hal] at hat;have key:=λK' hK'=>hat (H++Eg S β sp 0) a w Z K' hag' h1 hK';have h5:∀b w',St c (.blk b p.1 p.2::(H++Eg S β sp 0)) Z w'→K (a.put o.dst (.pointer (some ⟨b,0,none⟩))) w':=λb w' hst'=>by
     refine hK _ _ ⟨λj=>if j=i then b else β j,Z,?_,hagr _ Z (Fz.le.refl _),hvals _ Z _ (Fz.le.refl _) (λj hj=>by simp[hj]) (λ_=>by simp[IU,hal,rv]),hx'⟩;have hp:=ND (S:=S) (β:=β) (i:=i) (b:=b) (p:=p) sp 0 i (D6 sp i) (by omega) (hsa i hi) hal hun (λt s q hs _ hq=>by
      obtain⟨ht,rfl⟩:=lt_of t s hs;exact latene t q ht hq) (λq hq=>by
       refine⟨?_,latene i q hi hq⟩
       cases hS:S q.1 with
       | false=>rfl
       | true=>
        obtain⟨h6,h7⟩:=L1 i q hi hq;have:=hx q.1 i h6 h7 hS;rw[this] at hun;cases hun)
     exact hst'.perm ((List.perm_middle.symm).trans (List.Perm.append_left H hp.symm))
    refine⟨λ_=>(key K h5).2,λhw'=>?_⟩;rw[(key K h5).1] at hw';cases hw'
 ·obtain⟨β,Z,h1,h2,h3,_⟩:=hI;refine h β a w Z (P2 h2 _ _ 0 (λt o s d ht hs hd=>?_)) (by rw[← NE];exact h1);obtain⟨htN,rfl⟩:=lt_of t s hs;rw[Vt];exact h3 t o d htN rfl (by rw[← hget t htN];exact ht) hd
end
theorem NL {l:Fr}{P:Program}{n:Nat}{c:Cx}{opsA:Array Oper}{Q:Exit→Act→World→Prop}{d:Nat}{e:TypeId}{ty:TypeId}{pos:String}{af:Array Edge}{z:Value}{cs:List Rp}(hz:∀w,(zeroValue e).run P w = .ok z w)(hcs:z.cells.toList.map rv=cs) :
  TV P n c opsA Q l { dst:=some d,op:=.alloc e,type:=ty,pos:=pos,after:=af,guard:=none } (cs,e):=λH a w Z K _ hw hK=>by
 refine⟨by simp[Region.wanted],?_⟩;unfold Oper.wp;rw[show(execOp a.eval { dst:=some d,op:=.alloc e,type:=ty,pos:=pos,after:=af,guard:=none }).run P w = .ok (.value (.pointer (some ⟨w.heap.size,0,none⟩))) (w.alloc (.cells z.cells e)) from by simp[execOp,Instr.alloc,hz,newVar,newRow,newObj,Sem.run,Sem.run_bind]];exact hK _ _ (hw.alloc _ (e:=.blk w.heap.size cs e) ⟨z.cells.toList,by simpa using heap_alloc_new w _,by subst hcs;exact AS.rvs Z _⟩ rfl)
section
variable {P : Program} {n : Nat} {c : Cx} {opsA : Array Oper} {Q : Exit → Act → World → Prop} {l l0 : Fr} {H : List Ent} {sp : List Sa}
theorem C3 {id:Nat}{ops:List Oper}(N:Nat)(ks0:List Nat)(sp:List Sa)(hob:He P n c ops.toArray Q ops sp l0 H 0 (ops.take N))(h:∀β,WL P n c ops.toArray Q (ops.drop N) (KP β (ops.take N) sp 0 l0) (H++Q1 β sp 0))
  (h0:Kp ks0 l l0:=by repeat (first | exact N1 | (apply K6;rfl) | (apply KY;rfl))) (hm:P.follows .mixedOrders=true:=by kernel_rfl) (hB:U7 n ops N (E2 l0) (sp.map (·.deps)) (sp.map (·.al.isSome)) (sp.map (·.late.map (·.1))) (sp.map (·.sto))=true:=by kernel_rfl)
  (hsp:sp.length=N:=by rfl):WC P n c (.region id ops.toArray true) Q l H:=T2 N sp hm hB h0.one hsp hob h
theorem CG {all rest:List Oper}{d:Nat}{op:Op}{ty:TypeId}{pos:String}{af:Array Edge}{i:Nat}
  (hr:∀{H},Bk P n c (B2 all (QB sp) (D6 sp i).deps l0) H { dst:=some d,op:=op,type:=ty,pos:=pos,after:=af,guard:=none } (D6 sp i).r) (h:He P n c opsA Q all sp l0 H (i+1) rest) (ha:(D6 sp i).al=none:=by rfl) (hs:(D6 sp i).sto=none:=by rfl) :
  He P n c opsA Q all sp l0 H i ({ dst:=some d,op:=op,type:=ty,pos:=pos,after:=af,guard:=none }::rest):=by
 refine⟨?_,h⟩;unfold Ty;rw[hs,ha];exact λ_=>I6 hr
theorem Km {all rest:List Oper}{d:Nat}{op:Op}{ty:TypeId}{pos:String}{af:Array Edge}{i:Nat}
  (hr:∀{E},Bk P n c (B2 all (QB sp) (D6 sp i).deps l0) (H++E) { dst:=some d,op:=op,type:=ty,pos:=pos,after:=af,guard:=none } (D6 sp i).r) (h:He P n c opsA Q all sp l0 H (i+1) rest) (ha:(D6 sp i).al=none:=by rfl) (hs:(D6 sp i).sto=none:=by rfl) :
  He P n c opsA Q all sp l0 H i ({ dst:=some d,op:=op,type:=ty,pos:=pos,after:=af,guard:=none }::rest):=by
 refine⟨?_,h⟩;unfold Ty;rw[hs,ha];exact λ_=>I6 hr
theorem Uc {all rest:List Oper}{o:Oper}{p:List Rp×TypeId}{i:Nat}(hr:TV P n c opsA Q (B2 all (QB sp) (D6 sp i).deps l0) o p)(h:He P n c opsA Q all sp l0 H (i+1) rest)(ha:(D6 sp i).al=some p:=by rfl)(hs:(D6 sp i).sto=none:=by rfl):He P n c opsA Q all sp l0 H i (o::rest):=by
 refine⟨?_,h⟩;unfold Ty;rw[hs,ha];exact hr
theorem UN {all rest:List Oper}{op:Op}{ty:TypeId}{pos:String}{af:Array Edge}{g:Option (Nat×Bool)}{i j d:Nat}{p:List Rp×TypeId}{ncs:List Rp}
  (hr:∀{b H},Dw P n c opsA Q ((d,rv (.pointer (some ⟨b,0,none⟩)))::B2 all (QB sp) (D6 sp i).deps l0) (.blk b p.1 p.2::H) { dst:=none,op:=op,type:=ty,pos:=pos,after:=af,guard:=g } (rv undef) (.blk b ncs p.2::H))
  (h:He P n c opsA Q all sp l0 H (i+1) rest) (hs:(D6 sp i).sto=some j:=by rfl) (hd:CL all j=some d:=by rfl) (ha:(D6 sp j).al=some p:=by rfl) (hl:(D6 sp j).late=some (i,ncs):=by rfl) :
  He P n c opsA Q all sp l0 H i ({ dst:=none,op:=op,type:=ty,pos:=pos,after:=af,guard:=g }::rest):=by
 refine⟨?_,h⟩;unfold Ty;rw[hs];exact⟨rfl,d,p,ncs,hd,ha,hl,λ_ _=>hr⟩
theorem Pg {all:List Oper}{i:Nat}:He P n c opsA Q all sp l0 H i []:=trivial
end
structure Sm (ks:List Nat) (β:Nat→Nat) (os:List Oper) (sp:List Sa) (i:Nat) (l0 l1:Fr):Prop where
 go:Kp ks (KP β os sp i l0) l1
section
variable {ks : List Nat} {β : Nat → Nat} {os : List Oper} {sp : List Sa} {i d : Nat} {l0 l1 : Fr} {ds : List Nat} {r : Rp} {p : List Rp × TypeId} {lt : Option (Nat × List Rp)} {so : Option Nat} {op : Op} {ty : TypeId} {pos : String} {af : Array Edge} {g : Option (Nat × Bool)}
theorem Ud (h:ks.contains d=true)(t:Sm ks β os sp (i+1) l0 l1):Sm ks β ({ dst:=some d,op:=op,type:=ty,pos:=pos,after:=af,guard:=g }::os) ({ deps:=ds,r:=r,sto:=so }::sp) i l0 ((d,r)::l1):=⟨K6 h t.go⟩
theorem Ug (h:ks.contains d=true)(t:Sm ks β os sp (i+1) l0 l1):Sm ks β ({ dst:=some d,op:=op,type:=ty,pos:=pos,after:=af,guard:=g }::os) ({ deps:=ds,r:=r,al:=some p,late:=lt,sto:=so }::sp) i l0 ((d,rv (.pointer (some ⟨β i,0,none⟩)))::l1):=⟨K6 h t.go⟩
theorem Uf {s:Sa}(h:ks.contains d=false)(t:Sm ks β os sp (i+1) l0 l1):Sm ks β ({ dst:=some d,op:=op,type:=ty,pos:=pos,after:=af,guard:=g }::os) (s::sp) i l0 l1:=⟨KY h t.go⟩
theorem Ue {s:Sa}(t:Sm ks β os sp (i+1) l0 l1):Sm ks β ({ dst:=none,op:=op,type:=ty,pos:=pos,after:=af,guard:=g }::os) (s::sp) i l0 l1:=⟨t.go⟩
theorem Uh (t:Kp ks l0 l1):Sm ks β [] [] i l0 l1:=⟨t⟩
theorem Dy {P:Program}{n:Nat}{c:Cx}{opsA:Array Oper}{Q:Exit→Act→World→Prop}{rest:List Oper}{H H1:List Ent}(ks:List Nat)(h:WL P n c opsA Q rest l1 H1)
  (hz:Sm ks β os sp i l0 l1:=by repeat (first | (apply Ud;rfl) | (apply Ug;rfl) | (apply Uf;rfl) | apply Ue | apply Uh | exact N1 | (apply K6;rfl) | (apply KY;rfl))) (hH:H=H1:=by rfl) :
  WL P n c opsA Q rest (KP β os sp i l0) H:=λa w Z ha hw=>h a w Z (ha.subL hz.go.one) (hH▸hw)
end
section
variable {P : Program} {n : Nat} {c : Cx} {opsA : Array Oper} {Q : Exit → Act → World → Prop} {l l0 : Fr} {H : List Ent} {sp : List Sa}
theorem Ol {all rest:List Oper}{o:Oper}{i:Nat}(hr:∀{E},Dw P n c opsA Q (B2 all (QB sp) (D6 sp i).deps l0) (H++E) o (D6 sp i).r (H++E))(h:He P n c opsA Q all sp l0 H (i+1) rest)(ha:(D6 sp i).al=none:=by rfl)(hs:(D6 sp i).sto=none:=by rfl):He P n c opsA Q all sp l0 H i (o::rest):=by
 refine⟨?_,h⟩;unfold Ty;rw[hs,ha];exact λ_=>hr
end
section
variable {P : Program} {n : Nat} {c : Cx} {opsA : Array Oper} {Q : Exit → Act → World → Prop} {l : Fr} {H : List Ent} {d : Nat} {ty : TypeId} {pos : String} {af : Array Edge}
end
section
variable {P : Program} {n : Nat} {c : Cx} {ops : Array Oper} {Q : Exit → Act → World → Prop} {rest : List Oper} {l : Fr} {H H' : List Ent} {d : Nat} {d' : Option Nat} {x y z3 : Operand} {ty t t' e : TypeId} {pos : String} {af : Array Edge} {g : Option (Nat × Bool)} {v u : Value} {r : Rp} {sz : Nat}
end
def UI (p:Bool→Prop):Rp:=⟨λ_ v=>∃b,v = .bool b∧p b,λ_ h=>h,true,λ_ Z v ⟨b,e,_⟩=>by rw[e];rfl⟩
section
variable {P : Program} {n : Nat} {c : Cx} {ops : Array Oper} {Q : Exit → Act → World → Prop} {rest : List Oper} {l : Fr} {H : List Ent} {d : Option Nat} {ty rty t e : TypeId} {pos : String} {af : Array Edge} {g : Option (Nat × Bool)} {r : Rp} {x : Operand} {cx cy : Code} {sz : Nat} {xs : List (List Rp)}
theorem QR {o:Operand}{p:Bool→Prop}(ho:ev l o=some (UI p))(h1:p true→WC P n c cx Q l H)(h2:p false→WC P n c cy Q l H):WC P n c (.cond o cx cy) Q l H:=λa w Z ha hw=>by
 obtain⟨b,e,hp⟩:=ha.ev ho;exact wp_cond_split e (λe=>h1 (e▸hp) a w Z ha hw) (λe=>h2 (e▸hp) a w Z ha hw)
theorem PZ (ht:P.underlying t=some (.slice e))(h:ev l x=some (AL sz xs)):Bk P n c l H { dst:=d,op:=.binOp .eql t x (.const (.slice none 0 0)) rty,type:=ty,pos:=pos,after:=af,guard:=g } (UI (λb=>b=true→xs=[])):=λa w Z ha hw=>by
 obtain⟨A,cap,e1,h1,h2,h3,h4⟩:=ha.ev h;refine⟨.bool A.isNone,⟨_,rfl,λhb=>?_⟩,?_⟩
 ·cases A with
  | some a=>cases hb
  | none=>
   have:=h3 rfl;exact List.length_eq_zero_iff.1 (by omega)
 ·have:=run_equal_slice_nil (P:=P) w t e A xs.length cap ht;have e2:a.eval (.const (.slice none 0 0)) = .slice none 0 0:=rfl;simp[execOp,e1,e2,binOp,this,eqGuard]
end
section
variable {P : Program} {n : Nat} {c : Cx} {Q : Exit → Act → World → Prop} {l : Fr} {H : List Ent} {x rest' : Code} {K : Act → World → Prop}
end
section
variable {P : Program} {n : Nat} {c : Cx} {ops : Array Oper} {Q : Exit → Act → World → Prop} {rest : List Oper} {l : Fr} {H H' : List Ent} {d : Nat} {d' : Option Nat} {x y z3 z4 : Operand} {ty t t' e : TypeId} {pos : String} {af : Array Edge} {g : Option (Nat × Bool)} {v u : Value} {r : Rp} {sz : Nat}
theorem Nh {i:Nat}{rs rs':List Rp}{fs:Array Field}{f:Field}(hu:P.underlying t=some (.struct fs))(hf:fs[i]? =some f)(hag:∀w,(isAgg f.type).run P w = .ok true w)(hsz:∀w,(sizeOf f.type).run P w = .ok sz w)(hx:ev l x=some (Bc rs))(hr:(rs.drop f.offset).take sz=rs') :
  Bk P n c l H { dst:=d',op:=.field t x i,type:=ty,pos:=pos,after:=af,guard:=g } (Bc rs'):=λa w Z ha hw=>by
 obtain⟨us,e1,hus⟩:=ha.ev hx;subst hr;refine⟨.agg (us.toArray.extract f.offset (f.offset+sz)),⟨(us.drop f.offset).take sz,?_,(hus.drop _).take _⟩,by simp[execOp,e1,Instr.field,run_underlying hu,hf,asAgg,part,hag,hsz]⟩;simp[List.extract_eq_take_drop,List.take_drop]
end
structure Sx (U:Type) where
 deps:List Nat
 r:U→Rp
 dyn:Bool:=false
 old:List Nat:=[]
def QA {U:Type}(sp:List (Sx U))(i:Nat):Sx U:=sp.getD i { deps:=[],r:=λ_=>rv undef }
def Uy {U:Type}(sp:List (Sx U))(u:U):List Sp:=sp.map λs=>⟨s.deps,s.r u,0⟩
def Tj {U:Type}:List (Sx U)→Prop
 | []=>True
 | s::r=>(s.dyn=false→∀u u',s.r u=s.r u')∧Tj r
theorem Tj.at {U:Type}:∀{sp:List (Sx U)},Tj sp→∀{i:Nat} {s:Sx U},sp[i]? =some s→s.dyn=false→∀u u',s.r u=s.r u'
 | [],_,i,s,h=>by simp at h
 | x::sp,⟨h1,h2⟩,0,s,h=>by simp at h;subst h;exact h1
 | x::sp,⟨h1,h2⟩,i+1,s,h=>Tj.at h2 (by simpa using h)
def I5 (lw:Fr):List Nat→Fr→Fr
 | [],l=>l
 | d::r,l=>match look lw d with
  | some q=>(d,q)::I5 lw r l
  | none=>I5 lw r l
section
variable (P : Program) (n : Nat) (c : Cx) (opsA : Array Oper) (Q : Exit → Act → World → Prop)
def UK {U:Type}(l:Fr)(H:List Ent)(o:Oper)(r:U→Rp)(H1:U→List Ent):Prop:=
 ∀a w Z (K:Act→World→Prop),Cf n l a Z→St c H Z w→(∀u v w' Z',Fz.le Z Z'→(r u).p Z' v→St c (H1 u) Z' w'→K (a.put o.dst v) w')→
  Region.wanted o (yielded opsA a.tmps)=true∧o.wp P a w K Q
def Tn {U:Type}(ops:List Oper)(sp:List (Sx U))(l0 lw:Fr)(i0:Nat)(H:List Ent)(H1:U→List Ent):Nat→List Oper→Prop
 | i,o::rest=>(if i=i0 then(∀u,UK P n c opsA Q (I5 lw (QA sp i).old (B2 ops (Uy sp u) (QA sp i).deps l0)) H o (QA sp i).r H1) else ∀u H',(H'=H∨H'=H1 u)→Dw P n c opsA Q (I5 lw (QA sp i).old (B2 ops (Uy sp u) (QA sp i).deps l0)) H' o ((QA sp i).r u) H')∧Tn ops sp l0 lw i0 H H1 (i+1) rest
 | _,[]=>True
end
section
variable {P : Program} {n : Nat} {c : Cx} {opsA : Array Oper} {Q : Exit → Act → World → Prop} {l l0 lw : Fr} {U : Type} {H : List Ent} {H1 : U → List Ent} {sp : List (Sx U)} {i0 : Nat}
theorem Tn.at {ops:List Oper}:∀{k:Nat} {rest:List Oper},Tn P n c opsA Q ops sp l0 lw i0 H H1 k rest→∀(t:Nat) o,rest[t]? =some o→
  (if k+t=i0 then(∀u,UK P n c opsA Q (I5 lw (QA sp (k+t)).old (B2 ops (Uy sp u) (QA sp (k+t)).deps l0)) H o (QA sp (k+t)).r H1) else ∀u H',(H'=H∨H'=H1 u)→Dw P n c opsA Q (I5 lw (QA sp (k+t)).old (B2 ops (Uy sp u) (QA sp (k+t)).deps l0)) H' o ((QA sp (k+t)).r u) H')
 | k,o::rest,⟨h1,h2⟩,t,o',ht=>by
  cases t with
  | zero=>simp at ht;subst ht;exact h1
  | succ t=>
   have:=Tn.at h2 t o' (by simpa using ht);rw[show k+(t+1)=k+1+t from by omega];exact this
 | _,[],_,t,o,h=>by simp at h
end
section
variable {P : Program} {n : Nat} {c : Cx} {opsA : Array Oper} {Q : Exit → Act → World → Prop} {l : Fr} {H : List Ent} {d : Nat} {x y : Operand} {ty t e : TypeId} {pos : String} {af : Array Edge} {v : Value} {sz : Nat}
end
set_option maxRecDepth 100000
set_option maxHeartbeats 4000000
end Go.Proofs.YtfbmdidnlhifjaaGreatDoor.Q
namespace Go.Proofs.YtfbmdidnlhifjaaGreatDoor
open Go
set_option linter.unusedVariables false
set_option linter.unusedSimpArgs false
section
variable {T S : Type}
def B4:List (Ak×T)→Ak→Option T
 | [],_=>none
 | p::r,k=>bif decide (p.1=k) then some p.2 else B4 r k
def Aw (xs:List (Ak×T))(k:Ak)(z:T):T:=(B4 xs k).getD z
def Bq (xs:List (Ak×T))(k:Ak):Bool:=(B4 xs k).isSome
def mins (k:Ak)(v:T):List (Ak×T)→List (Ak×T)
 | []=>[(k,v)]
 | p::r=>bif BE k p.1 then(k,v)::p::r else p::mins k v r
def mput (xs:List (Ak×T))(k:Ak)(v:T):List (Ak×T):=xs.map λp=>bif decide (p.1=k) then(k,v) else p
def mset (xs:List (Ak×T))(k:Ak)(v:T):List (Ak×T):=bif Bq xs k then mput xs k v else mins k v xs
def A1 (f:T→S)(xs:List (Ak×T)):List (Ak×S):=xs.map λp=>(p.1,f p.2)
theorem GQ (f:T→S):∀(xs:List (Ak×T)) (k:Ak),B4 (A1 f xs) k=(B4 xs k).map f
 | [],k=>rfl
 | p::r,k=>by
  show(bif decide (p.1=k) then some (f p.2) else B4 (A1 f r) k)=_;rw[B4,GQ f r k]
  cases decide (p.1=k)<;>rfl
theorem R6 (f:T→S)(xs:List (Ak×T))(k:Ak):Bq (A1 f xs) k=Bq xs k:=by
 unfold Bq;rw[GQ];cases B4 xs k<;>rfl
theorem Nt (f:T→S)(k:Ak)(v:T):∀xs:List (Ak×T),A1 f (mins k v xs)=mins k (f v) (A1 f xs)
 | []=>rfl
 | p::r=>by
  show A1 f (bif BE k p.1 then(k,v)::p::r else p::mins k v r)=(bif BE k p.1 then(k,f v)::(p.1,f p.2)::A1 f r else(p.1,f p.2)::mins k (f v) (A1 f r));rw[← Nt f k v r]
  cases BE k p.1<;>rfl
theorem R5 (f:T→S)(xs:List (Ak×T))(k:Ak)(v:T):A1 f (mset xs k v)=mset (A1 f xs) k (f v):=by
 unfold mset;rw[R6]
 cases Bq xs k with
 | false=>exact Nt f k v xs
 | true=>
  show A1 f (mput xs k v)=mput (A1 f xs) k (f v);unfold A1 mput;rw[VK,VK];refine List.map_congr_left λp _=>?_;show _=(bif decide (p.1=k) then(k,f v) else(p.1,f p.2));simp only[Function.comp]
  cases decide (p.1=k)<;>rfl
theorem GR (f:T→S)(xs:List (Ak×T)):(A1 f xs).length=xs.length:=by simp[A1]
theorem Ji (k:Ak)(v:T):∀xs:List (Ak×T),(mins k v xs).Perm ((k,v)::xs)
 | []=>UY _
 | p::r=>by
  rw[mins]
  cases BE k p.1 with
  | true=>exact UY _
  | false=>exact((Ji k v r).cons p).trans (List.Perm.swap _ _ _)
end
structure Ar where
 fEntity:Ak
 fID:Ak
 fOp:Ak
 fArgs:(List (List Ab))
 deriving DecidableEq,Inhabited
structure Ax where
 fErr:Int
 fValue:(List Ab)
 deriving DecidableEq,Inhabited
structure Ai where
 fOp:Ar
 fAnswer:Ax
 fFrom:Int
 fTo:Int
 deriving DecidableEq,Inhabited
def Cr (ys:(List Ab)):Option ((List Ab)):=
 Ba (Lb 40 (([]:List Ab).length+ys.length))<|some (([]:List Ab)++ys)
def ST (c:Int):Option (Bool):=
 some ((decide (97≤c))&&(decide (c≤122)))
def Pr (c:Int):Option (Bool):=
 some ((decide (48≤c))&&(decide (c≤57)))
def BT (ha:Bool):Option (Bool):=
 some ha
def RM (c:Int):Option (Bool):=
 Bp (ST c) λha=>Bg (ha) (BT true) (Bg (decide (65≤c)) (Bg (decide (c≤90)) (BT true) (Bp (Pr c) λhb=>Bg (hb) (BT true) (Bg (decide (c=45)) (BT true) (Bg (decide (c=95)) (BT true) (Bg (decide (c=46)) (BT true) (Bg (decide (c=58)) (BT true) (BT (decide (c=47))))))))) (Bp (Pr c) λhd=>Bg (hd) (BT true) (Bg (decide (c=45)) (BT true) (Bg (decide (c=95)) (BT true) (Bg (decide (c=46)) (BT true) (Bg (decide (c=58)) (BT true) (BT (decide (c=47)))))))))
def Mo (s:Ak)(ha:Int):Option (Stp (Int) (Out (Bool) (Unit))):=
 Bg (decide (ha<(s.length:Int))) (Ba (BK ha (s.length:Int))<|Bp (RM (KO s ha)) λhb=>Bg (!hb) (some (.out (.ret false))) (Ba (BB .i64 (ha+1))<|some (.next (ha+1)))) (some (.out (.go ())))
def SU :Option (Bool):=
 some true
def O4 (F:Nat)(s:Ak):Option (Bool):=
 Bg (((decide ((s.length:Int)<1))||(decide (64<(s.length:Int))))) (some false) (Bp (BD (λσ=>Mo s σ) F 0) (B9 λν=>SU ))
def KB (l:(List Ak))(s:Ak)(ha:Int):Option (Stp (Int) (Out (Bool) (Unit))):=
 Bg (decide (ha<(l.length:Int))) (Ba (BK ha (l.length:Int))<|Bg (decide ((Ae l ha)=s)) (some (.out (.ret true))) (Ba (BB .i64 (ha+1))<|some (.next (ha+1)))) (some (.out (.go ())))
def RN :Option (Bool):=
 some false
def RP (F:Nat)(l:(List Ak))(s:Ak):Option (Bool):=
 Bp (BD (λσ=>KB l s σ) F 0) (B9 λν=>RN )
def GY (ha:Int)(hb:(List Ak)):Option (Stp ((List Ak)×Int) (Out ((List Ak)) ((List Ak)))):=
 Ba (BB .i64 (ha+1))<|some (.next (hb,ha+1))
def EH (l:(List Ak))(hb:(List Ak))(hd:Int)(ha:Int):Option (Stp (Int) (Out (Stp ((List Ak)×Int) (Out ((List Ak)) ((List Ak)))) (Int×Bool))):=
 Ba (imp (decide (ha<(hb.length:Int))) (BK ha (hb.length:Int)))<|Ba (imp (decide (ha<(hb.length:Int))) (BK hd (l.length:Int)))<|Bg (((decide (ha<(hb.length:Int)))&&(BE (Ae hb ha) (Ae l hd)))) (Ba (BB .i64 (ha+1))<|some (.next (ha+1))) (some (.out (.go (ha,((decide (ha<(hb.length:Int)))&&(BE (Ae hb ha) (Ae l hd)))))))
def GX (l:(List Ak))(ha:(List Ak))(hd:Int)(hb:Int)(he:Bool):Option (Stp ((List Ak)×Int) (Out ((List Ak)) ((List Ak)))):=
 Ba (imp (!(decide (hb=(ha.length:Int)))) (BK hb (ha.length:Int)))<|Ba (imp (!(decide (hb=(ha.length:Int)))) (BK hd (l.length:Int)))<|Bg (((decide (hb=(ha.length:Int)))||(!decide ((Ae ha hb)=(Ae l hd))))) (Ba (QD hb (ha.length:Int))<|Ba (Lb 16 (([]:List Ak).length+(List.take (Int.toNat hb) ha).length))<|Ba (BK hd (l.length:Int))<|Ba (Lb 16 ((([]:List Ak)++(List.take (Int.toNat hb) ha)).length+([Ae l hd]:List Ak).length))<|Ba (Lb 16 (((([]:List Ak)++(List.take (Int.toNat hb) ha))++([Ae l hd]:List Ak)).length+(List.drop (Int.toNat hb) ha).length))<|GY hd (((([]:List Ak)++(List.take (Int.toNat hb) ha))++([Ae l hd]:List Ak))++(List.drop (Int.toNat hb) ha))) (GY hd ha)
def GZ (F:Nat)(l:(List Ak))(ha:(List Ak))(hb:Int):Option (Stp ((List Ak)×Int) (Out ((List Ak)) ((List Ak)))):=
 Bg (decide (hb<(l.length:Int))) (Bp (BD (λσ=>EH l ha hb σ) F 0) (B9 λν=>GX l ha hb ν.1 ν.2)) (some (.out (.go ha)))
def N3 (ha:(List Ak)):Option ((List Ak)):=
 some ha
def KA (F:Nat)(l:(List Ak)):Option ((List Ak)):=
 Bp (BD (λσ=>GZ F l σ.1 σ.2) F (([]:List Ak),0)) (B9 λν=>N3 ν)
def Ks (op:Ak):Option (Int×Bool):=
 some (Aw (mset (mset (mset (mset ([]:List (Ak×Int)) ([114,101,97,100]:Ak) 0) ([119,114,105,116,101]:Ak) 1) ([97,100,100]:Ak) 1) ([99,97,115]:Ak) 2) op 0,Bq (mset (mset (mset (mset ([]:List (Ak×Int)) ([114,101,97,100]:Ak) 0) ([119,114,105,116,101]:Ak) 1) ([97,100,100]:Ak) 1) ([99,97,115]:Ak) 2) op)
def Eo (F:Nat)(op:Ar)(ha:Int):Option (Stp (Int) (Out (Int) (Unit))):=
 Bg (decide (ha<(op.fArgs.length:Int))) (Ba (BK ha (op.fArgs.length:Int))<|Bp (IR F (Ae op.fArgs ha)) λhb=>Bg (!decide (hb=0)) (some (.out (.ret hb))) (Ba (BB .i64 (ha+1))<|some (.next (ha+1)))) (some (.out (.go ())))
def Hu :Option (Int):=
 some 0
def Jh (F:Nat)(op:Ar):Option (Int):=
 Bp (Ks op.fOp) λr2=>Bg (((!(GC op.fEntity))||((!(GC op.fID))||(!r2.2)))) (some 4) (Bg (!decide ((op.fArgs.length:Int)=r2.1)) (some 7) (Bp (BD (λσ=>Eo F op σ) F 0) (B9 λν=>Hu )))
def Hp (state:(List Ab))(args:(List (List Ab))):Option ((List Ab)×Ax):=
 Bp (Cr state) λr2=>some (state,(Ax.mk 0 r2))
def Gu (state:(List Ab))(args:(List (List Ab))):Option ((List Ab)×Ax):=
 Ba (BK 0 (args.length:Int))<|Bp (Cr (Ae args 0)) λr4=>Bp (Lj) λr7=>some (r4,(Ax.mk 0 r7))
def IA (F:Nat)(state:(List Ab))(args:(List (List Ab))):Option ((List Ab)×Ax):=
 Ba (BK 0 (args.length:Int))<|Bp (Lh F state (Ae args 0)) λr4=>Bg (!r4) (Bp (OO false) λr9=>some (state,(Ax.mk 0 r9))) (Ba (BK 1 (args.length:Int))<|Bp (Cr (Ae args 1)) λha=>Bp (OO true) λhb=>some (ha,(Ax.mk 0 hb)))
def Dm (n:(List Int))(ha:Int):Option (Stp (Int) (Out (Bool) (Unit))):=
 Bg (decide (ha<(n.length:Int))) (Ba (BK ha (n.length:Int))<|Bp (Bj (Ae n ha)) λhb=>Bg (!hb) (some (.out (.ret false))) (Ba (BB .i64 (ha+1))<|some (.next (ha+1)))) (some (.out (.go ())))
def ED :Option (Bool):=
 some true
def GN (F:Nat)(n:(List Int)):Option (Bool):=
 Bp (BD (λσ=>Dm n σ) F 0) (B9 λν=>ED )
def Hl (n:Int):Option (Int×Int):=
 Bp (Bj n) λr1=>Bg (!r1) (some (0,8)) (some (n,0))
def Je (F:Nat)(a:Int)(b:Int):Option (Int×Int):=
 Bp (GN F ([a,b]:List Int)) λr2=>Bg (!r2) (some (0,2)) (Ba (BB .i64 (a+b))<|Bp (Hl (a+b)) λha=>some (ha.1,ha.2))
def Kt (F:Nat)(state:(List Ab))(args:(List (List Ab))):Option ((List Ab)×Ax):=
 Ba (BK 0 (state.length:Int))<|Bg (decide (((Ae state 0).fKind)=3)) (Ba (BK 0 (args.length:Int))<|Ba (BK 0 ((Ae args 0).length:Int))<|Bg (!decide (((Ae (Ae args 0) 0).fKind)=3)) (some (state,(Ax.mk 7 ([]:List Ab)))) (Bp (Je F ((Ae state 0).fInt) ((Ae (Ae args 0) 0).fInt)) λha=>Bg (!decide (ha.2=0)) (some (state,(Ax.mk ha.2 ([]:List Ab)))) (Bp (Cr ([(Ab.mk 3 ha.1 ([]:Ak) 0)]:List Ab)) λhd=>some (([(Ab.mk 3 ha.1 ([]:Ak) 0)]:List Ab),(Ax.mk 0 hd))))) (Bg (decide (((Ae state 0).fKind)=1)) (Ba (BK 0 (args.length:Int))<|Ba (BK 0 ((Ae args 0).length:Int))<|Bg (!decide (((Ae (Ae args 0) 0).fKind)=3)) (some (state,(Ax.mk 7 ([]:List Ab)))) (Bp (Je F 0 ((Ae (Ae args 0) 0).fInt)) λhb=>Bg (!decide (hb.2=0)) (some (state,(Ax.mk hb.2 ([]:List Ab)))) (Bp (Cr ([(Ab.mk 3 hb.1 ([]:Ak) 0)]:List Ab)) λhe=>some (([(Ab.mk 3 hb.1 ([]:Ak) 0)]:List Ab),(Ax.mk 0 he))))) (some (state,(Ax.mk 7 ([]:List Ab)))))
def Rx :Option ((List (Ak×Nat))):=
 some (mset (mset (mset (mset ([]:List (Ak×Nat)) ([114,101,97,100]:Ak) 57) ([119,114,105,116,101]:Ak) 58) ([97,100,100]:Ak) 59) ([99,97,115]:Ak) 60)
def TW (F:Nat)(state:(List Ab))(op:Ar):Option ((List Ab)×Ax×Int):=
 Bp (Jh F op) λr3=>Bg (!decide (r3=0)) (some (([]:List Ab),(Ax.mk 0 ([]:List Ab)),r3)) (Bp (IR F state) λr9=>Bg (!decide (r9=0)) (some (([]:List Ab),(Ax.mk 0 ([]:List Ab)),r9)) (Bg (decide (op.fOp=([114,101,97,100]:Ak))) (Bp (Cr state) λhf=>Bp (Hp hf op.fArgs) λha=>some (ha.1,ha.2,0)) (Bg (decide (op.fOp=([119,114,105,116,101]:Ak))) (Bp (Cr state) λhg=>Bp (Gu hg op.fArgs) λhb=>some (hb.1,hb.2,0)) (Bg (decide (op.fOp=([97,100,100]:Ak))) (Bp (Cr state) λhh=>Bp (Kt F hh op.fArgs) λhd=>some (hd.1,hd.2,0)) (Ba (decide (op.fOp=([99,97,115]:Ak)))<|Bp (Cr state) λhi=>Bp (IA F hi op.fArgs) λhe=>some (he.1,he.2,0))))))
def Do (op:Ar)(ha:Int)(hb:(List (List Ab))):Option (Stp (Int×(List (List Ab))) (Out (Ar) ((List (List Ab))))):=
 Bg (decide (ha<(op.fArgs.length:Int))) (Ba (BK ha (op.fArgs.length:Int))<|Bp (Cr (Ae op.fArgs ha)) λhd=>Ba (Lb 24 (hb.length+([hd]:List (List Ab)).length))<|Ba (BB .i64 (ha+1))<|some (.next (ha+1,hb++([hd]:List (List Ab))))) (some (.out (.go hb)))
def Ht (op:Ar)(ha:(List (List Ab))):Option (Ar):=
 some (Ar.mk op.fEntity op.fID op.fOp ha)
def HV (F:Nat)(op:Ar):Option (Ar):=
 Bp (BD (λσ=>Do op σ.1 σ.2) F (0,([]:List (List Ab)))) (B9 λν=>Ht op ν)
def D2 (F:Nat)(c:Ai):Option (Ai):=
 Bp (HV F c.fOp) λr3=>Bp (Cr c.fAnswer.fValue) λr6=>some (Ai.mk r3 (Ax.mk c.fAnswer.fErr r6) c.fFrom c.fTo)
def Mk (F:Nat)(x:(List Ab))(y:(List Ab)):Option (Bool):=
 Bp (Ee F x y) λr1=>some r1
def Er (F:Nat)(a:(List (List Ab)))(b:(List (List Ab)))(ha:Int):Option (Stp (Int) (Out (Bool) (Unit))):=
 Bg (decide (ha<(a.length:Int))) (Ba (BK ha (a.length:Int))<|Ba (BK ha (b.length:Int))<|Bp (Mk F (Ae a ha) (Ae b ha)) λhb=>Bg (!hb) (some (.out (.ret false))) (Ba (BB .i64 (ha+1))<|some (.next (ha+1)))) (some (.out (.go ())))
def H6 :Option (Bool):=
 some true
def Ha (F:Nat)(a:(List (List Ab)))(b:(List (List Ab))):Option (Bool):=
 Bg (!decide ((a.length:Int)=(b.length:Int))) (some false) (Bp (BD (λσ=>Er F a b σ) F 0) (B9 λν=>H6 ))
def Np (F:Nat)(a:Ar)(b:Ar):Option (Bool):=
 Ba (imp (decide (a.fEntity=b.fEntity)) (imp (decide (a.fID=b.fID)) (imp (decide (a.fOp=b.fOp)) ((Ha F a.fArgs b.fArgs).isSome))))<|some ((decide (a.fEntity=b.fEntity))&&((decide (a.fID=b.fID))&&((decide (a.fOp=b.fOp))&&(ov (Ha F a.fArgs b.fArgs)))))
end Go.Proofs.YtfbmdidnlhifjaaGreatDoor
namespace Go.Proofs.YtfbmdidnlhifjaaGreatDoor.Q
open Go Go.RowKit
set_option linter.unusedVariables false
section
variable {P : Program} {n : Nat} {c : Cx} {l : Fr} {H : List Ent} {d : Option Nat} {ty rty t e : TypeId} {pos : String} {af : Array Edge} {g : Option (Nat × Bool)} {x : Operand} {sz : Nat}
end
set_option linter.unusedSimpArgs false
theorem DE (s:ByteArray):MapKept.IsKey .string (.string s):=by simp[MapKept.IsKey]
theorem If.keys {Z:Fz}:∀{f:List (List UInt8×Rp)} {es:List MapEntry},If Z f es→∀x∈es,MapKept.IsKey .string x.key
 | [],[],_,x,hx=>by cases hx
 | p::f,e::es,⟨⟨h1,h2⟩,h3⟩,x,hx=>by
  rcases List.mem_cons.1 hx with rfl | hx
  ·rw[h1];exact DE _
  ·exact If.keys h3 x hx
theorem If.at {Z:Fz}:∀{f:List (List UInt8×Rp)} {es:List MapEntry},If Z f es→f.length=es.length∧∀(j:Nat) (e:MapEntry),es[j]? =some e→∃k r,f[j]? =some (k,r)∧e.key = .string (B k)∧r.p Z e.val
 | [],[],_=>⟨rfl,λj e h=>by simp at h⟩
 | p::f,e::es,⟨⟨h1,h2⟩,h3⟩=>by
  obtain⟨hl,ha⟩:=If.at h3;refine⟨by simp[hl],λj e' hj=>?_⟩
  cases j with
  | zero=>simp at hj;subst hj;exact⟨p.1,p.2,rfl,h1,h2⟩
  | succ j=>simp at hj;simpa using ha j e' hj
theorem If.of {Z:Fz}:∀{f:List (List UInt8×Rp)} {es:List MapEntry},f.length=es.length→(∀(j:Nat) (e:MapEntry),es[j]? =some e→∃k r,f[j]? =some (k,r)∧e.key = .string (B k)∧r.p Z e.val)→If Z f es
 | [],[],_,_=>trivial
 | p::f,e::es,hl,h=>by
  obtain⟨k,r,h1,h2,h3⟩:=h 0 e rfl;simp at h1;subst h1;exact⟨⟨h2,h3⟩,If.of (by simpa using hl) λj e' hj=>by simpa using h (j+1) e' (by simpa using hj)⟩
 | [],_::_,hl,_=>by simp at hl
 | _::_,[],hl,_=>by simp at hl
theorem If.snoc {Z:Fz}{k:List UInt8}{r:Rp}{e:MapEntry}(h1:e.key = .string (B k))(h2:r.p Z e.val):∀{f:List (List UInt8×Rp)} {es:List MapEntry},If Z f es→If Z (f++[(k,r)]) (es++[e])
 | [],[],_=>⟨⟨h1,h2⟩,trivial⟩
 | p::f,e'::es,⟨h,h3⟩=>⟨h,If.snoc h1 h2 h3⟩
theorem If.filter {Z:Fz}(q:MapEntry→Bool):∀{f:List (List UInt8×Rp)} {es:List MapEntry},If Z f es→∃g,If Z g (es.filter q)∧g.Sublist f
 | [],[],_=>⟨[],trivial,List.Sublist.refl _⟩
 | p::f,e::es,⟨h,h3⟩=>by
  obtain⟨g,hg,hs⟩:=If.filter q h3
  cases hq:q e with
  | true=>exact⟨p::g,by rw[List.filter_cons_of_pos hq];exact⟨h,hg⟩,hs.cons_cons p⟩
  | false=>exact⟨g,by rw[List.filter_cons_of_neg (by simp[hq])];exact hg,hs.cons p⟩
theorem Nu {T:Type}:∀{m:List (Ak×T)} {k:Ak} {r:T},(m.map (·.1)).Nodup→(k,r)∈m→B4 m k=some r
 | p::m,k,r,hn,h=>by
  rw[V0,List.nodup_cons] at hn;rw[B4];rcases List.mem_cons.1 h with h | h
  ·subst h;rw[UT rfl];rfl
  ·have hne : ¬ p.1=k:=λe=>hn.1 (by rw[e];exact List.mem_map.2 ⟨(k,r),h,rfl⟩);rw[UR hne];exact Nu hn.2 h
theorem Lz {T:Type}:∀{m:List (Ak×T)} {k:Ak},(∀p∈m,p.1≠k)→B4 m k=none
 | [],_,_=>rfl
 | p::m,k,h=>by
  rw[B4,UR (h p (by simp))];exact Lz λq hq=>h q (by simp[hq])
theorem Uv {a b:List UInt8}(h:B a=B b):a=b:=by
 have:=congrArg ByteArray.toList h
 rwa [D4,D4] at this
theorem ML {a b:List UInt8}(h:Value.string (B a) = .string (B b)):a=b:=Uv (by cases h;rfl)
theorem Mq {Z:Fz}{m:List (List UInt8×Rp)}{es:List MapEntry}{ck:Nat}(h:DU Z m es ck)(k:List UInt8) :
  (Instr.findNow .string (.string (B k)) es 0=some none∧B4 m k=none∧∀p∈m,p.1≠k)∨∃j e r,Instr.findNow .string (.string (B k)) es 0=some (some (j,e.val))∧es[j]? =some e∧e.key = .string (B k)∧B4 m k=some r∧r.p Z e.val:=by
 obtain⟨h1,h2,h3,f,h4,h5⟩:=h;obtain⟨hl,ha⟩:=h5.at;rcases MapKept.findNow_spec (DE (B k)) es 0 h5.keys with⟨q1,q2⟩ | ⟨j,e,q1,q2,q3⟩
 ·have hne:∀p∈m,p.1≠k:=λp hp e=>by
   obtain⟨j,hj⟩:=List.mem_iff_getElem?.1 (h4.symm.subset hp);have hjl:j<es.length:=by rw[← hl];exact(List.getElem?_eq_some_iff.1 hj).1
   obtain⟨k',r',e1,e2,_⟩:=ha j es[j] (UW hjl);rw[hj] at e1;cases e1;exact q2 es[j] (List.getElem_mem hjl) (by rw[e2,← e])
  exact .inl ⟨q1,Lz hne,hne⟩
 ·obtain⟨k',r,e1,e2,e3⟩:=ha j e q2;rw[q3] at e2;obtain rfl:=ML e2;exact .inr ⟨j,e,r,by simpa using q1,q2,q3,Nu h1 (h4.subset (Vb e1)),e3⟩
section
variable {P : Program} {n : Nat} {c : Cx} {ops : Array Oper} {Q : Exit → Act → World → Prop} {rest : List Oper} {l : Fr} {H : List Ent} {d : Nat} {d' : Option Nat} {ty t kt et rty : TypeId} {pos : String} {af : Array Edge} {g : Option (Nat × Bool)} {x y u : Operand} {K : Act → World → Prop} {cx : Code}
variable {T : Type} {enc : T → Rp} {xs : List (Ak × T)} {z : T} {k : Ak} {zv : Value} {i b : Nat}
theorem KT {Z:Fz}{w:World}{m:List (List UInt8×Rp)}{rz:Rp}(ht:P.underlying t=some (.map kt et))(hk:P.underlying kt=some .string)(hz:∀w,(zeroValue et).run P w = .ok zv w)(hzr:rz.p Z zv)(hm:(Ent.map b m).holds Z w)(ok:Bool) :
  ∃v,((B4 m k).getD rz).p Z v∧(Instr.lookup t (.map (some b)) (.string (B k)) ok).run P w = .ok (if ok then .tuple #[v,.bool (B4 m k).isSome] else v) w:=by
 obtain⟨es,ck,h1,h2⟩:=hm;rcases Mq h2 k with⟨q1,q2,_⟩ | ⟨j,e,r,q1,_,_,q2,q3⟩
 ·exact⟨zv,by rw[q2];exact hzr,by simp[Instr.lookup,run_underlying ht,MapKept.run_getObj_map h1,MapKept.run_checkKey hk (DE _),MapKept.run_findKey hk q1,hz,q2]⟩
 ·exact⟨e.val,by rw[q2];exact q3,by simp[Instr.lookup,run_underlying ht,MapKept.run_getObj_map h1,MapKept.run_checkKey hk (DE _),MapKept.run_findKey hk q1,q2]⟩
theorem RR (enc:T→Rp)(xs:List (Ak×T))(k:Ak)(z:T):(B4 (A1 enc xs) k).getD (enc z)=enc (Aw xs k z):=by
 rw[GQ];unfold Aw;cases B4 xs k<;>rfl
theorem O1 (enc:T→Rp)(xs:List (Ak×T))(k:Ak):(B4 (A1 enc xs) k).isSome=Bq xs k:=by
 rw[GQ];unfold Bq;cases B4 xs k<;>rfl
theorem Gr (ht:P.underlying t=some (.map kt et))(hk:P.underlying kt=some .string)(hz:∀w,(zeroValue et).run P w = .ok zv w)(hzr:∀Z,(enc z).p Z zv)(hx:ev l x=some (rv (.map (some b))))(hi:H[i]? =some (.map b (A1 enc xs)))(hy:ev l y=some (rS k)) :
  Bk P n c l H { dst:=d',op:=.lookup t x y true,type:=ty,pos:=pos,after:=af,guard:=g } (CP [enc (Aw xs k z),rB (Bq xs k)]):=λa w Z ha hw=>by
 obtain⟨v,h1,h2⟩:=KT (k:=k) ht hk hz (hzr Z) (hw.ent hi) true;rw[RR] at h1;refine⟨.tuple #[v,.bool (Bq xs k)],⟨[v,.bool (Bq xs k)],rfl,h1,rfl,trivial⟩,?_⟩;rw[O1] at h2;simp[execOp,ha.eval hx,ha.eval hy,h2]
theorem DU.length {Z:Fz}{m:List (List UInt8×Rp)}{es:List MapEntry}{ck:Nat}(h:DU Z m es ck):es.length=m.length:=by
 obtain⟨_,_,_,f,h4,h5⟩:=h;rw[← h5.at.1,h4.length_eq]
theorem Rv {m:List (List UInt8×Rp)}{N:Nat}(ht:P.underlying t=some (.map kt et))(hx:ev l x=some (rv (.map (some b))))(hi:H[i]? =some (.map b m))(hN:m.length=N) :
  Bk P n c l H { dst:=d',op:=.call { callee:=.builtin .len,args:=#[x],argTypes:=#[t] },type:=ty,pos:=pos,after:=af,guard:=g } (rI .i64 N):=λa w Z ha hw=>DD<|by
 obtain⟨es,ck,h1,h2⟩:=hw.ent hi;have hl:es.size=N:=by rw[← hN,← h2.length];simp
 simp[execOp,resolve,invoke,builtin,ha.eval hx,Builtin.len_,run_underlying ht,goInt,MapKept.run_getObj_map h1,hl]
theorem Qb {v:Option Nat}(ht:P.underlying t=some (.map kt et))(hx:ev l x=some (rv (.map v))):Bk P n c l H { dst:=d',op:=.binOp .neq t x (.const (.map none)) rty,type:=ty,pos:=pos,after:=af,guard:=g } (rB (!v.isNone)):=λa w Z ha hw=>DD<|by
 have e2:a.eval (.const (.map none)) = .map none:=rfl;have h:=run_equal_map_nil (P:=P) w t kt et v ht;simp[execOp,ha.eval hx,e2,eqGuard,binOp,h]
theorem Lg (hn:Nat.blt d n=true)(h:∀b,WL P n c ops Q rest ((d,rv (.map (some b)))::l) (.map b []::H)) :
  WL P n c ops Q ({ dst:=some d,op:=.makeMap t none,type:=ty,pos:=pos,after:=af,guard:=none }::rest) l H:=
 IQ (λa w Z ha hw=>⟨_,w.alloc (.map #[] 0),_,_,Z,by simp[execOp,run_makeMap],Fz.le.refl _,rfl,
  hw.alloc _ (e:=.map w.heap.size []) ⟨#[],0,by simpa using heap_alloc_new w _,by simp,by simp,by simp,[],UY _,trivial⟩ rfl,h w.heap.size⟩) hn
theorem Rm {m f:List (Ak×Rp)}(h:f.Perm m)(k:Ak)(r:Rp):(mput f k r).Perm (mput m k r):=h.map _
theorem Pi {T:Type}:∀{f:List (Ak×T)} {j:Nat} {k:Ak} {r0:T} (r:T),(f.map (·.1)).Nodup→f[j]? =some (k,r0)→mput f k r=f.set j (k,r)
 | p::f,0,k,r0,r,hn,h=>by
  simp at h;subst h;rw[V0,List.nodup_cons] at hn;have:mput f k r=f:=by
   unfold mput;rw[List.map_congr_left (g:=id) (λq hq=>?_),List.map_id];have hne : ¬ q.1=k:=λe=>hn.1 (by rw[← e];exact List.mem_map.2 ⟨q,hq,rfl⟩);rw[UR hne];rfl
  show(bif decide (k=k) then(k,r) else(k,r0))::mput f k r=_;rw[UT rfl,this];rfl
 | p::f,j+1,k,r0,r,hn,h=>by
  rw[V0,List.nodup_cons] at hn;simp at h;have hne : ¬ p.1=k:=λe=>hn.1 (by rw[e];exact List.mem_map.2 ⟨(k,r0),Vb h,rfl⟩);show(bif decide (p.1=k) then(k,r) else p)::mput f k r=_;rw[UR hne,Pi r hn.2 h];rfl
theorem Qi {T:Type}(m:List (Ak×T))(k:Ak)(r:T):(mput m k r).map (·.1)=m.map (·.1):=by
 unfold mput;rw[VK];refine List.map_congr_left λp _=>?_;simp only[Function.comp]
 by_cases h:p.1=k
 ·rw[UT h];exact h.symm
 ·rw[UR h];rfl
theorem Qj {T:Type}{m:List (Ak×T)}{k:Ak}{r:T}(h:B4 m k=some r):Bq m k=true:=by unfold Bq;rw[h];rfl
theorem Qk {T:Type}{m:List (Ak×T)}{k:Ak}(h:B4 m k=none):Bq m k=false:=by unfold Bq;rw[h];rfl
theorem DU.put {Z:Fz}{m:List (Ak×Rp)}{es:List MapEntry}{ck j:Nat}{e:MapEntry}{k:Ak}{r0 r:Rp}{v:Value}(h:DU Z m es ck)(he:es[j]? =some e)(hk:e.key = .string (B k))(hm:B4 m k=some r0)(hr:r.p Z v) :
  DU Z (mset m k r) (es.set j { e with key:=.string (B k),val:=v }) ck:=by
 obtain⟨h1,h2,h3,f,h4,h5⟩:=h;obtain⟨hl,ha⟩:=h5.at;have hjl:=(List.getElem?_eq_some_iff.1 he).1;unfold mset;rw[Qj hm,Vf];obtain⟨k',r',e1,e2,_⟩:=ha j e he;rw[hk] at e2;obtain rfl:=ML e2;have hfn:(f.map (·.1)).Nodup:=(h4.map (·.1)).nodup_iff.2 h1;refine⟨by rw[Qi];exact h1,?_,?_,f.set j (k,r),?_,If.of (by simp[hl]) λi x hx=>?_⟩
 ·rw[List.map_set];have:(es.map (·.born)).set j e.born=es.map (·.born):=by
   apply List.ext_getElem?;intro i;rw[VG]
   split
   ·rename_i hij;subst hij
    simp[hjl,List.getElem?_eq_some_iff.1 he |>.2]
   ·rfl
  show((es.map (·.born)).set j e.born).Nodup;rw[this];exact h2
 ·intro x hx;rcases List.mem_or_eq_of_mem_set hx with hx | rfl
  ·exact h3 x hx
  ·exact h3 e (Vb he)
 ·have:=Rm h4 k r
  rwa [Pi r hfn e1] at this
 ·rw[VG] at hx ⊢
  split at hx
  ·rename_i hij;subst hij
   cases hx
   exact⟨k,r,by rw[Vi rfl,Vi (by rw[hl];exact hjl)],rfl,hr⟩
  ·rename_i hij
   rw[Ve hij];exact ha i x hx
theorem DU.ins {Z:Fz}{m:List (Ak×Rp)}{es:List MapEntry}{ck:Nat}{k:Ak}{r:Rp}{v:Value}(h:DU Z m es ck)(hm:B4 m k=none)(hk:∀p∈m,p.1≠k)(hr:r.p Z v) :
  DU Z (mset m k r) (es++[{ key:=.string (B k),val:=v,born:=ck }]) (ck+1):=by
 obtain⟨h1,h2,h3,f,h4,h5⟩:=h;unfold mset;rw[Qk hm,Va];have hp:=Ji k r m;refine⟨?_,?_,?_,f++[(k,r)],?_,If.snoc rfl hr h5⟩
 ·rw[(hp.map (·.1)).nodup_iff,V0,List.nodup_cons];exact⟨λhx=>by obtain⟨p,hp,e⟩:=List.mem_map.1 hx;exact hk p hp e,h1⟩
 ·rw[VJ,List.nodup_append];refine⟨h2,by simp,λa ha b hb e=>?_⟩;simp at hb;subst hb;obtain⟨x,hx,e'⟩:=List.mem_map.1 ha;have:=h3 x hx;omega
 ·intro x hx;rcases List.mem_append.1 hx with hx | hx
  ·have:=h3 x hx;omega
  ·simp at hx;subst hx;exact Vn _
 ·exact(List.perm_append_comm (l₁:=f) (l₂:=[(k,r)])).trans ((h4.cons (k,r)).trans hp.symm)
theorem St.mapset {Z:Fz}{w:World}(h:St c H Z w){m m':List (Ak×Rp)}(hi:H[i]? =some (.map b m)){es es':Array MapEntry}{ck ck':Nat}(h1:w.heap[b]? =some (.map es ck))(h2:DU Z m' es'.toList ck') :
  St c (H.set i (.map b m')) Z { w with heap:=w.heap.setIfInBounds b (.map es' ck') }:=by
 obtain⟨q1,q2⟩:=MapKept.heap_set (o':=.map es' ck') h1;exact h.set hi rfl rfl rfl (by simp) (λk _ hk=>q2 k (by simpa[Ent.foot] using hk)) ⟨es',ck',q1,h2⟩ (by simp[Ent.foot])
theorem LT (s:ByteArray):Instr.sameBits 10000 (.string s) (.string s)=true:=by
 show(s ==s)=true;exact(MapKept.bytes_beq s s).2 rfl |> λh=>by simpa using h
theorem T4 {r:Rp}{m:List (Ak×Rp)}(ht:P.underlying t=some (.map kt et))(hk:P.underlying kt=some .string)(hx:ev l x=some (rv (.map (some b))))(hi:H[i]? =some (.map b m))(hy:ev l y=some (rS k))(hu:ev l u=some r){H':List Ent}(hH:H.set i (.map b (mset m k r))=H')(h:WL P n c ops Q rest l H') :
  WL P n c ops Q ({ dst:=none,op:=.mapUpdate t x y u,type:=ty,pos:=pos,after:=af,guard:=none }::rest) l H:=
 KR λa w Z ha hw=>by
  obtain⟨es,ck,h1,h2⟩:=hw.ent hi;have hv:=ha.ev hu;subst hH;rcases Mq h2 k with⟨q1,q2,q3⟩ | ⟨j,e,r0,q1,q2,q3,q4,_⟩
  ·refine⟨_,_,?_,hw.mapset hi h1 (es':=es.push { key:=.string (B k),val:=a.eval u,born:=ck }) (by simpa using h2.ins q2 q3 hv),h⟩;simp[execOp,ha.eval hx,ha.eval hy,Instr.mapUpdate,run_underlying ht,MapKept.run_getObj_map h1,MapKept.run_checkKey hk (DE _),MapKept.run_findKey hk q1,MapKept.run_setObj_map _ h1]
  ·have hje:es[j]? =some e:=by simpa using q2
   refine⟨_,_,?_,hw.mapset hi h1 (es':=es.modify j λe=>{ e with key:=.string (B k),val:=a.eval u }) (ck':=ck) (by
    have:=h2.put q2 q3 q4 hv;have e1:(es.modify j λe=>{ e with key:=.string (B k),val:=a.eval u }).toList=es.toList.set j { e with key:=.string (B k),val:=a.eval u }:=by
     rw[Array.toList_modify];rw[List.modify_eq_set,q2];rfl
    rw[e1];exact this),h⟩
   have hkey:((es[j]?).map (·.key)).getD (.string (B k)) = .string (B k):=by rw[hje];exact q3
   simp[execOp,ha.eval hx,ha.eval hy,Instr.mapUpdate,run_underlying ht,MapKept.run_getObj_map h1,MapKept.run_checkKey hk (DE _),MapKept.run_findKey hk q1,MapKept.run_setObj_map _ h1,hkey,Instr.keyThatStays,LT]
theorem JJ {v:T}(ht:P.underlying t=some (.map kt et))(hk:P.underlying kt=some .string)(hx:ev l x=some (rv (.map (some b))))(hi:H[i]? =some (.map b (A1 enc xs)))(hy:ev l y=some (rS k))(hu:ev l u=some (enc v)){H':List Ent}(hH:H.set i (.map b (A1 enc (mset xs k v)))=H')(h:WL P n c ops Q rest l H') :
  WL P n c ops Q ({ dst:=none,op:=.mapUpdate t x y u,type:=ty,pos:=pos,after:=af,guard:=none }::rest) l H:=T4 ht hk hx hi hy hu (by rw[← R5];exact hH) h
end
section
variable {P : Program} {n : Nat} {c : Cx} {ops : Array Oper} {Q : Exit → Act → World → Prop} {rest : List Oper} {l : Fr} {H : List Ent} {d : Nat} {ty t kt et rty : TypeId} {pos : String} {af : Array Edge} {x y u : Operand} {K : Act → World → Prop} {cx : Code}
variable {T : Type} {enc : T → Rp} {xs ys : List (Ak × T)} {i b it : Nat} {m lf : List (List UInt8 × Rp)} {cur : Option (List UInt8 × Rp)} {k : Ak} {r : Rp}
end
theorem AS.d1 {Z:Fz}{r0:Rp}{us:List Value}(h:AS Z [r0] us):∃y0,us=[y0]∧AS Z [r0] [y0]:=by
 match us,h.length with
 | [y0],_=>exact⟨_,rfl,h⟩
theorem AS.d2 {Z:Fz}{r0 r1:Rp}{us:List Value}(h:AS Z [r0,r1] us):∃y0 y1,us=[y0,y1]∧AS Z [r0,r1] [y0,y1]:=by
 match us,h.length with
 | [y0,y1],_=>exact⟨_,_,rfl,h⟩
theorem AS.d3 {Z:Fz}{r0 r1 r2:Rp}{us:List Value}(h:AS Z [r0,r1,r2] us):∃y0 y1 y2,us=[y0,y1,y2]∧AS Z [r0,r1,r2] [y0,y1,y2]:=by
 match us,h.length with
 | [y0,y1,y2],_=>exact⟨_,_,_,rfl,h⟩
theorem AS.d4 {Z:Fz}{r0 r1 r2 r3:Rp}{us:List Value}(h:AS Z [r0,r1,r2,r3] us):∃y0 y1 y2 y3,us=[y0,y1,y2,y3]∧AS Z [r0,r1,r2,r3] [y0,y1,y2,y3]:=by
 match us,h.length with
 | [y0,y1,y2,y3],_=>exact⟨_,_,_,_,rfl,h⟩
section
variable {P : Program} {n : Nat} {c : Cx} {ops : Array Oper} {Q : Exit → Act → World → Prop} {rest : List Oper} {l : Fr} {H H' : List Ent} {d : Nat} {d' : Option Nat} {ty t e rty : TypeId} {pos : String} {af : Array Edge} {g : Option (Nat × Bool)} {x y u : Operand} {v : Value} {sz m : Nat}
end
abbrev Ux:=Nat→Nat→Value×Nat
def Ag (k:Nat)(u u':Ux):Prop:=∀j,j<k→u j=u' j
structure Sy where
 deps:List Nat
 r:Ux→Rp
 lv:Nat:=0
 fx:Bool:=false
 old:List Nat:=[]
def Q9 (sp:List Sy)(i:Nat):Sy:=sp.getD i { deps:=[],r:=λ_=>rv undef }
def U5 (sp:List Sy)(u:Ux):List Sp:=sp.map λs=>⟨s.deps,s.r u,0⟩
def P4:List Sy→Prop
 | []=>True
 | s::r=>(∀u u',Ag s.lv u u'→s.r u=s.r u')∧P4 r
theorem P4.at:∀{sp:List Sy},P4 sp→∀{i:Nat} {s:Sy},sp[i]? =some s→∀u u',Ag s.lv u u'→s.r u=s.r u'
 | [],_,i,s,h=>by simp at h
 | x::sp,⟨h1,h2⟩,0,s,h=>by simp at h;subst h;exact h1
 | x::sp,⟨h1,h2⟩,i+1,s,h=>P4.at h2 (by simpa using h)
def cnt (S:Nat→Bool)(is:List Nat):Nat:=(is.filter S).length
section
variable (P : Program) (n : Nat) (c : Cx) (opsA : Array Oper) (Q : Exit → Act → World → Prop)
def UO (l:Fr)(H:List Ent)(o:Oper)(k:Nat)(u:Ux)(r:Ux→Rp)(H1:Ux→List Ent):Prop:=
 ∀a w Z (K:Act→World→Prop),Cf n l a Z→St c H Z w→(∀u' v w' Z',Ag k u u'→Fz.le Z Z'→(r u').p Z' v→St c (H1 u') Z' w'→K (a.put o.dst v) w')→
  Region.wanted o (yielded opsA a.tmps)=true∧o.wp P a w K Q
def UL (ops:List Oper)(sp:List Sy)(l0 lw:Fr)(is:List Nat)(hs:List (Ux→List Ent))(i:Nat)(o:Oper):Prop:=
 match is.findIdx? (λx=>Nat.beq x i) with
 | some k=>∀u,UO P n c opsA Q (I5 lw (Q9 sp i).old (B2 ops (U5 sp u) (Q9 sp i).deps l0)) (hs.getD k (λ_=>[]) u) o k u (Q9 sp i).r (hs.getD (k+1) (λ_=>[]))
 | none=>if (Q9 sp i).fx=true then ∀u,Dw P n c opsA Q (I5 lw (Q9 sp i).old (B2 ops (U5 sp u) (Q9 sp i).deps l0)) (hs.getD (Q9 sp i).lv (λ_=>[]) u) o ((Q9 sp i).r u) (hs.getD (Q9 sp i).lv (λ_=>[]) u)
  else ∀u k,k≤is.length→Dw P n c opsA Q (I5 lw (Q9 sp i).old (B2 ops (U5 sp u) (Q9 sp i).deps l0)) (hs.getD k (λ_=>[]) u) o ((Q9 sp i).r u) (hs.getD k (λ_=>[]) u)
def Tm (ops:List Oper)(sp:List Sy)(l0 lw:Fr)(is:List Nat)(hs:List (Ux→List Ent)):Nat→List Oper→Prop
 | i,o::rest=>UL P n c opsA Q ops sp l0 lw is hs i o∧Tm ops sp l0 lw is hs (i+1) rest
 | _,[]=>True
end
section
variable {P : Program} {n : Nat} {c : Cx} {opsA : Array Oper} {Q : Exit → Act → World → Prop} {l l0 lw : Fr} {H : List Ent} {hs : List (Ux → List Ent)} {sp : List Sy} {is : List Nat}
theorem Tm.at {ops:List Oper}:∀{k:Nat} {rest:List Oper},Tm P n c opsA Q ops sp l0 lw is hs k rest→∀(t:Nat) o,rest[t]? =some o→UL P n c opsA Q ops sp l0 lw is hs (k+t) o
 | k,o::rest,⟨h1,h2⟩,t,o',ht=>by
  cases t with
  | zero=>simp at ht;subst ht;exact h1
  | succ t=>
   have:=Tm.at h2 t o' (by simpa using ht);rw[show k+(t+1)=k+1+t from by omega];exact this
 | _,[],_,t,o,h=>by simp at h
def Tp (p:List Ent→Prop)(u:Ux):List (Ux→List Ent)→Prop
 | []=>True
 | f::r=>p (f u)∧Tp p u r
theorem Tp.at {p:List Ent→Prop}{u:Ux}:∀{hs:List (Ux→List Ent)},Tp p u hs→∀k,k<hs.length→p (hs.getD k (λ_=>[]) u)
 | [],_,k,h=>absurd h (Nat.not_lt_zero _)
 | f::r,⟨h1,h2⟩,0,_=>h1
 | f::r,⟨h1,h2⟩,k+1,h=>Tp.at h2 k (by simpa using h)
end
section
variable {P : Program} {n : Nat} {c : Cx} {opsA : Array Oper} {Q : Exit → Act → World → Prop} {l : Fr} {H : List Ent} {d : Nat} {x y : Operand} {ty t e : TypeId} {pos : String} {af : Array Edge} {v : Value} {sz : Nat}
end
end Go.Proofs.YtfbmdidnlhifjaaGreatDoor.Q
namespace Go.Proofs.YtfbmdidnlhifjaaGreatDoor
open Go
end Go.Proofs.YtfbmdidnlhifjaaGreatDoor
namespace Go.Proofs.YtfbmdidnlhifjaaGreatDoor.Q
open Go Go.RowKit
set_option linter.unusedVariables false
section
variable {P : Program} {n : Nat} {c : Cx} {ops : Array Oper} {Q : Exit → Act → World → Prop} {rest : List Oper} {l : Fr} {H : List Ent} {d : Nat} {d' : Option Nat} {t kt et ty : TypeId} {pos : String} {af : Array Edge} {g : Option (Nat × Bool)} {x y u : Operand} {b i : Nat} {T : Type} {enc : T → Rp} {xs : List (Int × T)} {z : T} {zv : Value}
theorem M5.push {Z:Fz}{k:Int}{r:Rp}{v:Value}(hv:r.p Z v)(ck:Nat):∀{m:List (Int×Rp)} {es:List MapEntry},M5 Z m es→M5 Z (m++[(k,r)]) (es++[⟨.int .i64 k,v,ck⟩])
 | [],[],_=>⟨⟨rfl,hv⟩,trivial⟩
 | p::m,e::es,⟨h1,h2⟩=>⟨h1,h2.push hv ck⟩
theorem CA {k:Ak}{xs:List (Ak×T)}{v:T}(ht:P.underlying t=some (.map kt et))(hk:P.underlying kt=some .string)(hx:ev l x=some (rv (.map (some b))))(hi:H[i]? =some (.map b (A1 enc xs)))(hy:ev l y=some (rS k))(hu:ev l u=some (enc v)){H':List Ent}(hH:H.set i (.map b (A1 enc (mset xs k v)))=H')(h:WL P n c ops Q rest l H') :
  WL P n c ops Q ({ dst:=none,op:=.insert t x y u,type:=ty,pos:=pos,after:=af,guard:=none }::rest) l H:=by
 have:=JJ (n:=n) (c:=c) (ops:=ops) (Q:=Q) (rest:=rest) (ty:=ty) (pos:=pos) (af:=af) ht hk hx hi hy hu hH h;exact this
end
set_option linter.unusedSimpArgs false
def LG (k:Nat)(i:Int)(off:Nat)(Z:Fz)(v:Value):Prop:=if i<0 then v = .pointer none else ∃b,Z.nm k i.toNat=some b∧v = .pointer (some ⟨b,off,none⟩)
def DX (k:Nat)(i:Int)(off:Nat):Rp:=⟨LG k i off,fun {Z Z' v} h hp=>by
 unfold LG at *
 split
 ·rename_i h0;rwa [Vi h0] at hp
 ·rename_i h0;rw[Ve h0] at hp;obtain⟨b,h1,h2⟩:=hp;exact⟨b,h.nm k _ b h1,h2⟩,true,λ_ Z v hp=>by
 change LG k i off Z v at hp
 unfold LG at hp
 split at hp
 ·rw[hp];rfl
 ·obtain⟨b,_,h2⟩:=hp;rw[h2];rfl⟩
@[reducible] def eP (k:Nat) (i:Int):List Rp:=[DX k i 0]
theorem Mt (k:Nat)(i:Int):(eP k i).length=1:=rfl
theorem RZ (k:Nat)(i:Int):(eP k i).all (·.one)=true:=rfl
@[reducible] def mP (k:Nat) (i:Int):Rp:=DX k i 0
theorem Qp (k:Nat)(Z:Fz):(mP k (-1)).p Z (.pointer none):=rfl
section
variable {P : Program} {n : Nat} {c : Cx} {ops : Array Oper} {Q : Exit → Act → World → Prop} {rest : List Oper} {l : Fr} {H H' : List Ent} {d : Nat} {d' : Option Nat} {x y : Operand} {ty t t' e : TypeId} {pos : String} {af : Array Edge} {g : Option (Nat × Bool)} {v u : Value} {r : Rp} {sz k : Nat} {pv : Value} {α : Type} [Inhabited α] {xs : List α} {enc : α → List Rp}
theorem JP {Z:Fz}{w:World}{j off:Nat}{i:Int}(hw:St c H Z w)(hi:H[j]? =some (.pool k pv e (xs.map enc)))(hg:BK i (xs.length:Int)=true)(hp:(DX k i off).p Z v) :
  ∃b us,v = .pointer (some ⟨b,off,none⟩)∧(E5 pv)[i.toNat]? =some b∧w.heap[b]? =some (.cells us.toArray e (0,0))∧AS Z (enc (Ae xs i)) us:=by
 obtain⟨h0,hl,h⟩:=hw.ent hi;have hi0:=(BC hg).1;have hi1:i.toNat<xs.length:=by have:=(BC hg).2;omega
 have hb:i.toNat<(E5 pv).length:=by rw[hl,Vg];exact hi1
 obtain⟨h1,us,h2,h3⟩:=h i.toNat (E5 pv)[i.toNat] (enc xs[i.toNat]) (UW hb) (by simp[hi1])
 change LG k i off Z v at hp
 unfold LG at hp;rw[Ve (by omega)] at hp;obtain⟨b,h4,h5⟩:=hp;rw[h1] at h4;obtain rfl:=Option.some.inj h4;exact⟨_,us,h5,UW hb,h2,by rw[show Ae xs i=xs[i.toNat] from by simp[Ae,hi1]];exact h3⟩
theorem Rw {j off:Nat}{i:Int}(hag:∀w,(isAgg t).run P w = .ok false w)(hx:ev l x=some (DX k i off))(hi:H[j]? =some (.pool k pv e (xs.map enc)))(hg:BK i (xs.length:Int)=true)(hc:(enc (Ae xs i))[off]? =some r) :
  Bk P n c l H { dst:=d',op:=.load t x,type:=ty,pos:=pos,after:=af,guard:=g } r:=λa w Z ha hw=>by
 obtain⟨b,us,e1,_,h1,h2⟩:=JP hw hi hg (ha.ev hx);obtain⟨u,hu,hp⟩:=h2.at hc;have hcell:w.cell? ⟨b,off,none⟩=some u:=by rw[cell_of_row w b off _ e (0,0) h1];simpa using hu
 exact⟨u,hp,by simp[execOp,e1,Instr.loadAt,Instr.sureAddr,loadVar,hag,hcell]⟩
theorem Ga {j off:Nat}{i:Int}{rs:List Rp}(hag:∀w,(isAgg t).run P w = .ok true w)(hsz:∀w,(sizeOf t).run P w = .ok sz w)(hx:ev l x=some (DX k i off))(hi:H[j]? =some (.pool k pv e (xs.map enc)))(hg:BK i (xs.length:Int)=true)
  (hr:((enc (Ae xs i)).drop off).take sz=rs) (hl:rs.length=sz):Bk P n c l H { dst:=d',op:=.load t x,type:=ty,pos:=pos,after:=af,guard:=g } (Bc rs):=λa w Z ha hw=>by
 obtain⟨b,us,e1,_,h1,h2⟩:=JP hw hi hg (ha.ev hx);have h3:=(h2.drop off).take sz;rw[hr] at h3;have hlen:=h3.length;have h4:=run_loadCells_list (P:=P) w ⟨b,off,none⟩ ((us.drop off).take sz) (λj u hj=>by
  rw[Ib,cell_of_row w b _ _ e (0,0) h1];rw[V8] at hj
  split at hj
  ·simpa using hj
  ·cases hj)
 rw[hlen,hl] at h4;exact⟨.agg ((us.drop off).take sz).toArray,⟨_,rfl,h3⟩,by simp[execOp,e1,Instr.loadAt,Instr.sureAddr,loadVar,hag,hsz,h4]⟩
theorem Ck {off:Nat}{i:Int}(hx:ev l x=some (DX k i off))(hg:decide (0≤i)=true):Bk P n c l H { dst:=d',op:=.nilCheck x,type:=ty,pos:=pos,after:=af,guard:=g } (DX k i off):=λa w Z ha hw=>by
 have h:=ha.ev hx;have h':=h
 change LG k i off Z _ at h
 unfold LG at h;rw[Ve (by have:=V5 hg;omega)] at h;obtain⟨b,_,e1⟩:=h;exact⟨a.eval x,h',by simp[execOp,e1]⟩
theorem Kn {off off' i:Nat}{q:Int}{fs:Array Field}{f:Field}(hu:P.underlying t=some (.struct fs))(hf:fs[i]? =some f)(hsz:∀w,(sizeOf f.type).run P w = .ok (sz+1) w)
  (hx:ev l x=some (DX k q off)) (hg:decide (0≤q)=true) (ho:off+f.offset=off'):Bk P n c l H { dst:=d',op:=.fieldAddr t x i,type:=ty,pos:=pos,after:=af,guard:=g } (DX k q off'):=λa w Z ha hw=>by
 have h:=ha.ev hx
 change LG k q off Z _ at h
 unfold LG at h;have h0:=V5 hg;rw[Ve (by omega)] at h;obtain⟨b,h1,e1⟩:=h;subst ho;refine⟨.pointer (some ⟨b,off+f.offset,none⟩),?_,by simp[execOp,e1,Instr.fieldAt,run_underlying hu,hf,Instr.sureAddr,fieldPlace,hsz,Ib]⟩;show LG k q (off+f.offset) Z _;unfold LG;rw[Ve (by omega)];exact⟨b,h1,rfl⟩
theorem St.poolset {β:Type}{xs:List β}{enc:β→List Rp}{Z:Fz}{w:World}{j b:Nat}{i:Int}{us us':List Value}{y':β}(hw:St c H Z w)(hi:H[j]? =some (.pool k pv e (xs.map enc)))(hb:(E5 pv)[i.toNat]? =some b)(h1:w.heap[b]? =some (.cells us.toArray e (0,0)))(h2:AS Z (enc y') us') :
  St c (H.set j (.pool k pv e ((xs.set i.toNat y').map enc))) Z (w.setRow b us'.toArray):=by
 obtain⟨h0,hl,h⟩:=hw.ent hi;have hbl:=(List.getElem?_eq_some_iff.1 hb).1;refine hw.setp hi rfl rfl rfl (by simp[World.setRow]) (λq _ hq=>?_) ⟨h0,by simpa using hl,λi' b' cs h3 h4=>?_⟩ (λq hq=>.inl hq) rfl rfl
 ·have:q≠b:=λe=>hq (by subst e;exact Vb hb);simp only[World.setRow,Array.getElem?_modify];rw[Ve (λe=>this e.symm)]
 ·rw[List.map_set,VG] at h4
  split at h4
  ·rename_i hii
   subst hii
   split at h4
   ·rw[hb] at h3;obtain rfl:=Option.some.inj h3;obtain rfl:=Option.some.inj h4;obtain⟨g1,_⟩:=h i.toNat b _ hb (UW (by omega));exact⟨g1,us',setRow_heap w b _ _ e (0,0) h1,h2⟩
   ·cases h4
  ·rename_i hii
   obtain⟨g1,vs,g2,g3⟩:=h i' b' cs h3 h4;have hne:b'≠b:=λe=>hii (by
    subst e;have e1:=(List.getElem?_eq_some_iff.1 h3)
    have e2:=(List.getElem?_eq_some_iff.1 hb)
    exact(List.getElem_inj h0).1 (e2.2.trans e1.2.symm))
   refine⟨g1,vs,?_,g3⟩;simp only[World.setRow,Array.getElem?_modify];rw[Ve (λe=>hne e.symm)];exact g2
theorem PI {j off:Nat}{i:Int}{y':α}(hag:∀w,(sizeOf t).run P w = .ok 1 w)(hx:ev l x=some (DX k i off))(hy:ev l y=some r)(hv:OH H r)(hi:H[j]? =some (.pool k pv e (xs.map enc)))(hg:BK i (xs.length:Int)=true)
  (hy':(enc (Ae xs i)).set off r=enc y') (hlt:Nat.blt off (enc (Ae xs i)).length=true) (hH:H.set j (.pool k pv e ((xs.set i.toNat y').map enc))=H') (h:WL P n c ops Q rest l H') :
  WL P n c ops Q ({ dst:=none,op:=.store t x y,type:=ty,pos:=pos,after:=af,guard:=none }::rest) l H:=
 KR λa w Z ha hw=>by
  obtain⟨b,us,e1,hb,h1,h2⟩:=JP hw hi hg (ha.ev hx);have hr:=ha.ev hy;have hone:=hv c Z w _ hw hr;have hlen:=h2.length;have hlt':off<us.length:=by rw[hlen];simpa using hlt
  have h4:=run_storeCells_at P b off e [a.eval y] 0 us.toArray w h1 (by simp;omega) (by simpa using hone);have hcv:=Bw hone;have h3:us.take off++[a.eval y]++us.drop (off+1)=us.set off (a.eval y):=by
   simp[List.set_eq_take_append_cons_drop,hlt']
  simp only[Nat.add_zero,UZ,Vx,Vt] at h4;rw[h3] at h4;refine⟨w.setRow b (us.set off (a.eval y)).toArray,H',?_,?_,h⟩
  ·simp[execOp,e1,Instr.storeAt,Instr.sureAddr,storeVar,hag,hcv,h4]
  ·subst hH;exact hw.poolset hi hb h1 (by rw[← hy'];exact h2.set off hr)
theorem NS {j off:Nat}{i:Int}{y':α}{rs:List Rp}(hsz:∀w,(sizeOf t).run P w = .ok sz w)(hx:ev l x=some (DX k i off))(hy:ev l y=some (Bc rs))(hl:rs.length=sz)(hv:Bh H rs)(hi:H[j]? =some (.pool k pv e (xs.map enc)))(hg:BK i (xs.length:Int)=true)
  (hlt:Nat.ble (off+sz) (enc (Ae xs i)).length=true) (hy':(enc (Ae xs i)).take off++rs++(enc (Ae xs i)).drop (off+sz)=enc y') (hH:H.set j (.pool k pv e ((xs.set i.toNat y').map enc))=H') (h:WL P n c ops Q rest l H') :
  WL P n c ops Q ({ dst:=none,op:=.store t x y,type:=ty,pos:=pos,after:=af,guard:=none }::rest) l H:=
 KR λa w Z ha hw=>by
  obtain⟨b,us,e1,hb,h1,h2⟩:=JP hw hi hg (ha.ev hx);obtain⟨vs,e2,h4⟩:=ha.ev hy;have hlen:=h2.length;have hvl:=h4.length;have hlt':off+sz≤us.length:=by rw[hlen];simpa using hlt
  have h5:=run_storeCells_at P b off e vs 0 us.toArray w h1 (by simp;omega) (λv hv'=>hv.at hw h4 v hv');simp only[Nat.add_zero] at h5;refine⟨w.setRow b (us.take off++vs++us.drop (off+sz)).toArray,H',?_,?_,h⟩
  ·have h6:vs.length=sz:=by omega
   rw[h6] at h5;simp only[Vo] at h5 ⊢;simp[execOp,e1,e2,Instr.storeAt,Instr.sureAddr,storeVar,hsz,Value.cells,h6,h5]
  ·subst hH;exact hw.poolset hi hb h1 (by rw[← hy'];exact((h2.take off).append h4).append (h2.drop (off+sz)))
theorem St.adopt0 {Z:Fz}{w:World}{b:Nat}{cs:List Rp}{ys:List (List Rp)}{Hr:List Ent}{pv':Value}(h:St c (.blk b cs e::.pool k pv e ys::Hr) Z w)(hpv:E5 pv'=E5 pv++[b]):∃Z',Fz.le Z Z'∧Z'.nm k ys.length=some b∧St c (.pool k pv' e (ys++[cs])::Hr) Z' w:=by
 obtain⟨us,hb1,hb2⟩:=h.has (.blk b cs e) (by simp);obtain⟨h0,hl,hp⟩:=h.has (.pool k pv e ys) (by simp);have hd:=List.pairwise_cons.1 h.dis;have hd2:=List.pairwise_cons.1 hd.2;have gd:=List.pairwise_cons.1 h.gst.dis;have gd2:=List.pairwise_cons.1 gd.2;have hcap:=h.gst.cap (.pool k pv e ys) (by simp) k (by simp[Ent.gk]);have hksz:=h.gst.sz (.pool k pv e ys) (by simp) k (by simp[Ent.gk]);have hkown:=h.gst.own (.pool k pv e ys) (by simp) k (by simp[Ent.gk])
 let Z':Fz:=⟨Z.f,λq i=>if q=k∧i=ys.length then some b else Z.nm q i⟩
 have hnew:Z'.nm k ys.length=some b:=by simp[Z']
 have hle:Fz.le Z Z':=⟨λ_ _ h=>h,λq i b' hq=>by
  by_cases hqi:q=k∧i=ys.length
  ·obtain⟨rfl,rfl⟩:=hqi;rw[hcap _ (by simp[Ent.gn,hl])] at hq;cases hq
  ·simpa[Z',hqi] using hq⟩
 have hbn:b ∉ E5 pv:=λhbs=>hd.1 (.pool k pv e ys) (by simp) b (by simp[Ent.foot]) hbs;refine⟨Z',hle,hnew,h.os,h.tape,h.output,h.size,h.old,λen he=>?_,λen he q hq=>?_,?_,⟨λb o hb=>h.frz.f b o hb,λq i b' hq=>?_⟩,h.le.trans hle,λb o hb=>h.new b o hb,λen he q hq=>?_,h.emono hle h.env,h.emono,⟨λen he q hq=>?_,λen he q hq=>?_,?_,λq i b' hq=>?_,λen he q hq i hi=>?_⟩⟩
 ·rcases List.mem_cons.1 he with rfl | he
  ·refine⟨by rw[hpv];exact List.nodup_append.2 ⟨h0,by simp,λx hx y hy e=>by simp at hy;subst hy;exact hbn (e▸hx)⟩,by rw[hpv];simp[hl],λi b' cs' h1 h2=>?_⟩
   ·rw[hpv] at h1
    by_cases hi:i<(E5 pv).length
    ·rw[Vp hi] at h1;rw[Vp (by omega)] at h2;obtain⟨g1,vs,g2,g3⟩:=hp i b' cs' h1 h2;exact⟨hle.nm k i b' g1,vs,g2,g3.mono hle⟩
    ·have hi2:i=(E5 pv).length:=by have:=(List.getElem?_eq_some_iff.1 h1).1;simp at this;omega
     subst hi2;simp at h1;subst h1;rw[hl] at h2;simp at h2;subst h2;exact⟨by rw[hl];exact hnew,us,hb1,hb2.mono hle⟩
  ·exact Ent.keep (h.has en (by simp[he])) hle λ_ _=>rfl
 ·rcases List.mem_cons.1 he with rfl | he
  ·rcases List.mem_append.1 (hpv▸(show q∈E5 pv' from hq)) with hq | hq
   ·exact h.own (.pool k pv e ys) (by simp) q hq
   ·simp at hq;subst hq;exact h.own (.blk q cs e) (by simp) q (by simp[Ent.foot])
  ·exact h.own en (by simp[he]) q hq
 ·refine List.pairwise_cons.2 ⟨λen he q hq hq'=>?_,hd2.2⟩;rcases List.mem_append.1 (hpv▸(show q∈E5 pv' from hq)) with hq | hq
  ·exact hd2.1 en he q hq hq'
  ·simp at hq;subst hq;exact hd.1 en (by simp[he]) q (by simp[Ent.foot]) hq'
 ·by_cases hqi:q=k∧i=ys.length
  ·rw[hqi.1];exact hksz
  ·exact h.frz.nm q i b' (by simpa[Z',hqi] using hq)
 ·rcases List.mem_cons.1 he with rfl | he
  ·rcases List.mem_append.1 (hpv▸(show q∈E5 pv' from hq)) with hq | hq
   ·exact h.zdis (.pool k pv e ys) (by simp) q hq
   ·simp at hq;subst hq;exact h.zdis (.blk q cs e) (by simp) q (by simp[Ent.foot])
  ·exact h.zdis en (by simp[he]) q hq
 ·rcases List.mem_cons.1 he with rfl | he
  ·simp[Ent.gk] at hq;subst hq;exact hkown
  ·exact h.gst.own en (by simp[he]) q hq
 ·rcases List.mem_cons.1 he with rfl | he
  ·simp[Ent.gk] at hq;subst hq;exact hksz
  ·exact h.gst.sz en (by simp[he]) q hq
 ·exact List.pairwise_cons.2 ⟨λen he q hq hq'=>gd2.1 en he q hq hq',gd2.2⟩
 ·by_cases hqi:q=k∧i=ys.length
  ·rw[hqi.1];exact .inr hkown
  ·exact h.gst.new q i b' (by simpa[Z',hqi] using hq)
 ·rcases List.mem_cons.1 he with rfl | he
  ·simp[Ent.gk] at hq;subst hq;simp[Ent.gn,hpv] at hi;have : ¬ i=ys.length:=by omega
   simp only[Z',this,and_false,if_false];exact hcap i (by simp[Ent.gn];omega)
  ·have hqk:q≠k:=λe1=>gd2.1 en he k (by simp[Ent.gk]) (e1▸hq);simp only[Z',hqk,false_and,if_false];exact h.gst.cap en (by simp[he]) q hq i hi
theorem St.adopt {Z:Fz}{w:World}{b:Nat}{cs:List Rp}{ys:List (List Rp)}{Hr:List Ent}(h:St c (.blk b cs e::.pool k pv e ys::Hr) Z w):∃Z',Fz.le Z Z'∧Z'.nm k ys.length=some b∧St c (.pool k (TB (E5 pv++[b])) e (ys++[cs])::Hr) Z' w:=St.adopt0 h (Te _)
theorem Cf.re {a:Act}{Z:Fz}{d:Nat}{q r:Rp}(h:Cf n l a Z)(hl:look l d=some q)(hq:∀v,q.p Z v→r.p Z v):Cf n ((d,r)::l) a Z:=⟨h.size,h.defers,λi u hi=>by
 rw[B3] at hi
 split at hi
 ·rename_i e;subst e;simp at hi;subst hi
  obtain⟨v,h1,h2⟩:=h.tm d q hl;exact⟨v,h1,hq v h2⟩
 ·exact h.tm i u hi⟩
theorem LG.of {Z:Fz}{b N:Nat}(h:Z.nm k N=some b):∀v,(rv (.pointer (some ⟨b,0,none⟩))).p Z v→(DX k (N:Int) 0).p Z v:=λv hv=>by
 show LG k N 0 Z v;unfold LG;rw[Ve (by omega)];exact⟨b,by simpa using h,hv⟩
def IL (l:Fr)(b:Nat):List Nat→Prop
 | []=>True
 | d::ds=>look l d=some (rv (.pointer (some ⟨b,0,none⟩)))∧IL l b ds
def Tx (k N:Nat):List Nat→Fr→Fr
 | [],l=>l
 | d::ds,l=>(d,DX k (N:Int) 0)::Tx k N ds l
theorem Jp {Z:Fz}{a:Act}{b N:Nat}{l:Fr}(ha:Cf n l a Z)(hn:Z.nm k N=some b):∀{ds:List Nat},IL l b ds→Cf n (Tx k N ds l) a Z
 | [],_=>ha
 | d::ds,⟨h1,h2⟩=>by
  have h3:=Jp ha hn h2;refine⟨h3.size,h3.defers,λi u hi=>?_⟩;rw[Tx,B3] at hi
  split at hi
  ·rename_i e;subst e;simp at hi;subst hi
   obtain⟨v,h4,h5⟩:=ha.tm d _ h1;exact⟨v,h4,LG.of hn v h5⟩
  ·exact h3.tm i u hi
theorem St.adoptE {β:Type}{xs:List β}{enc:β→List Rp}{Z:Fz}{w:World}{b:Nat}{y:β}{Hr:List Ent}{cs:List Rp}(hw:St c H Z w)(hp:H.Perm (.blk b cs e::.pool k pv e (xs.map enc)::Hr))(hcs:cs=enc y) :
  ∃Z' pv',Fz.le Z Z'∧Z'.nm k xs.length=some b∧St c (.pool k pv' e ((xs++[y]).map enc)::Hr) Z' w:=by
 obtain⟨Z',h1,h2,h3⟩:=(hw.perm hp).adopt;subst hcs;rw[Vg] at h2;exact⟨Z',_,h1,h2,by rw[VJ];exact h3⟩
theorem WL.adopt {β:Type}{xs:List β}{enc:β→List Rp}{b:Nat}{y:β}{Hr:List Ent}{cs:List Rp}(hp:H.Perm (.blk b cs e::.pool k pv e (xs.map enc)::Hr))(ds:List Nat)(hd:IL l b ds)(hcs:cs=enc y)
  (h:∀pv',WL P n c ops Q rest (Tx k xs.length ds l) (.pool k pv' e ((xs++[y]).map enc)::Hr)):WL P n c ops Q rest l H:=λa w Z ha hw=>by
 obtain⟨Z',pv',h1,h2,h3⟩:=St.adoptE hw hp hcs;exact h pv' a w Z' (Jp (ha.mono h1) h2 hd) h3
theorem WC.adopt {β:Type}{xs:List β}{enc:β→List Rp}{b:Nat}{y:β}{Hr:List Ent}{cs:List Rp}{xx:Code}(hp:H.Perm (.blk b cs e::.pool k pv e (xs.map enc)::Hr))(ds:List Nat)(hd:IL l b ds)(hcs:cs=enc y)
  (h:∀pv',WC P n c xx Q (Tx k xs.length ds l) (.pool k pv' e ((xs++[y]).map enc)::Hr)):WC P n c xx Q l H:=λa w Z ha hw=>by
 obtain⟨Z',pv',h1,h2,h3⟩:=St.adoptE hw hp hcs;exact h pv' a w Z' (Jp (ha.mono h1) h2 hd) h3
theorem WK.adopt {β:Type}{xs:List β}{enc:β→List Rp}{b:Nat}{y:β}{Hr:List Ent}{cs:List Rp}{K:Act→World→Prop}(hp:H.Perm (.blk b cs e::.pool k pv e (xs.map enc)::Hr))(ds:List Nat)(hd:IL l b ds)(hcs:cs=enc y)
  (h:∀pv',WK n c K (Tx k xs.length ds l) (.pool k pv' e ((xs++[y]).map enc)::Hr)):WK n c K l H:=λa w Z ha hw=>by
 obtain⟨Z',pv',h1,h2,h3⟩:=St.adoptE hw hp hcs;exact h pv' a w Z' (Jp (ha.mono h1) h2 hd) h3
theorem Hc:E5 (.tuple #[])=[]:=rfl
theorem JZ (hn:Nat.blt d n=true)(h:∀b,WL P n c ops Q rest ((d,rv (.map (some b)))::l) (.pool b (.tuple #[]) e []::.map b []::H)) :
  WL P n c ops Q ({ dst:=some d,op:=.makeMap t none,type:=ty,pos:=pos,after:=af,guard:=none }::rest) l H:=
 IQ (λa w Z ha hw=>by
  have h1:=hw.alloc (.map #[] 0) (e:=.map w.heap.size []) ⟨#[],0,by simpa using heap_alloc_new w _,by simp,by simp,by simp,[],UY _,trivial⟩ rfl;refine⟨_,w.alloc (.map #[] 0),_,_,Z,by simp[execOp,run_makeMap],Fz.le.refl _,rfl,?_,h w.heap.size⟩;have hz:∀i,Z.nm w.heap.size i=none:=λi=>by
   cases hq:Z.nm w.heap.size i with
   | none=>rfl
   | some b=>have:=hw.frz.nm _ _ _ hq;omega
  have hold:∀en∈(Ent.map w.heap.size []::H),∀q∈en.gk,q<w.heap.size:=λen he q hq=>by
   rcases List.mem_cons.1 he with rfl | he
   ·simp[Ent.gk] at hq
   ·exact hw.gst.sz en he q hq
  refine { h1 with has:=λen he=>?_,own:=λen he q hq=>?_,dis:=List.pairwise_cons.2 ⟨λen he q hq=>by simp[Ent.foot,Hc] at hq,h1.dis⟩,zdis:=λen he q hq=>?_,gst:=⟨λen he q hq=>?_,λen he q hq=>?_,List.pairwise_cons.2 ⟨λen he q hq hq'=>?_,h1.gst.dis⟩,h1.gst.new,λen he q hq i hi=>?_⟩ }
  ·rcases List.mem_cons.1 he with rfl | he
   ·exact⟨by simp[Hc],by simp[Hc],by simp⟩
   ·exact h1.has en he
  ·rcases List.mem_cons.1 he with rfl | he
   ·simp[Ent.foot,Hc] at hq
   ·exact h1.own en he q hq
  ·rcases List.mem_cons.1 he with rfl | he
   ·simp[Ent.foot,Hc] at hq
   ·exact h1.zdis en he q hq
  ·rcases List.mem_cons.1 he with rfl | he
   ·simp[Ent.gk] at hq;subst hq;exact .inl hw.size
   ·exact h1.gst.own en he q hq
  ·rcases List.mem_cons.1 he with rfl | he
   ·simp[Ent.gk] at hq;subst hq;simp
   ·exact h1.gst.sz en he q hq
  ·simp[Ent.gk] at hq;subst hq;have:=hold en he _ hq';omega
  ·rcases List.mem_cons.1 he with rfl | he
   ·simp[Ent.gk] at hq;subst hq;exact hz i
   ·exact h1.gst.cap en he q hq i hi) hn
end
def UF (m:List (List UInt8×Rp))(Z:Fz)(v:Value):Prop:=∃b es ck,v = .map (some b)∧Z b=some (.map es ck)∧DU Z m es.toList ck
def PS (m:List (List UInt8×Rp)):Rp:=⟨UF m,λh ⟨b,es,ck,h1,h2,h3⟩=>⟨b,es,ck,h1,h.f b _ h2,h3.mono h⟩,true,λ_ Z v ⟨b,es,ck,h1,_⟩=>by rw[h1];rfl⟩
@[reducible] def mF (f:Nat):Rp:=rv (.func (.func f) #[] #[])
section
variable {P : Program} {n : Nat} {c : Cx} {ops opsA : Array Oper} {Q : Exit → Act → World → Prop} {rest : List Oper} {l : Fr} {H : List Ent} {d : Nat} {d' : Option Nat} {ty t kt et rty : TypeId} {pos : String} {af : Array Edge} {g : Option (Nat × Bool)} {x y u : Operand} {K : Act → World → Prop} {cx : Code} {r : Rp}
variable {T : Type} {enc : T → Rp} {xs : List (Ak × T)} {z : T} {k : Ak} {zv : Value} {i b : Nat}
theorem St.freezeM {Z:Fz}{w:World}(h:St c H Z w){m:List (List UInt8×Rp)}(hi:H[i]? =some (.map b m)):∃Z',Fz.le Z Z'∧St c (.fact (.map (some b)) (PS m)::H.eraseIdx i) Z' w:=by
 obtain⟨es,ck,hg,hm⟩:=h.ent hi;have hmem:=Vb hi;have hgz:Z b=none:=h.zdis _ hmem b (by simp[Ent.foot])
 let Z':Fz:=⟨λq=>if q=b then some (.map es ck) else Z q,Z.nm⟩
 have hle:Fz.le Z Z':=⟨λq o hb=>by
  have:q≠b:=λe=>by subst e;rw[hgz] at hb;cases hb
  simpa[Z',this] using hb,λ_ _ _ h=>h⟩
 have hfr:=h.front hi;have hd:=List.pairwise_cons.1 hfr.dis;have hs:=hfr.sub (List.sublist_cons_self _ _);have hs':St c (H.eraseIdx i) Z' w:=by
  refine { hs with has:=λen he=>Ent.keep (hs.has en he) hle λ_ _=>rfl,frz:=⟨λq o hb=>?_,h.frz.nm⟩,gst:=hs.gst.names rfl,le:=hs.le.trans hle,new:=λq o hb=>?_,zdis:=λen he k hk=>?_,env:=hs.emono hle hs.env }
  ·by_cases hbg:q=b
   ·subst hbg;simp[Z'] at hb;rw[← hb];exact hg
   ·simp[Z',hbg] at hb;exact h.frz q o hb
  ·by_cases hbg:q=b
   ·subst hbg;exact .inr (h.own _ hmem q (by simp[Ent.foot]))
   ·simp[Z',hbg] at hb;exact h.new q o hb
  ·have hkg:k≠b:=λe=>hd.1 en he b (by simp[Ent.foot]) (e▸hk);simp only[Z',hkg,if_false];exact hs.zdis en he k hk
 exact⟨Z',hle,hs'.add rfl rfl rfl (Vh _) (λ_ _=>rfl) (e':=.fact (.map (some b)) (PS m)) ⟨b,es,ck,rfl,by simp[Z'],hm.mono hle⟩ (by simp[Ent.foot])⟩
theorem WK.freezeM {m:List (List UInt8×Rp)}(hi:H[i]? =some (.map b m))(h:WK n c K l (.fact (.map (some b)) (PS m)::H.eraseIdx i)):WK n c K l H:=λa w Z ha hw=>by
 obtain⟨Z',hz,hs⟩:=St.freezeM hw hi;exact h a w Z' (ha.mono hz) hs
theorem WC.freezeM {m:List (List UInt8×Rp)}(hi:H[i]? =some (.map b m))(h:WC P n c cx Q l (.fact (.map (some b)) (PS m)::H.eraseIdx i)):WC P n c cx Q l H:=λa w Z ha hw=>by
 obtain⟨Z',hz,hs⟩:=St.freezeM hw hi;exact h a w Z' (ha.mono hz) hs
theorem WL.freezeM {m:List (List UInt8×Rp)}(hi:H[i]? =some (.map b m))(h:WL P n c ops Q rest l (.fact (.map (some b)) (PS m)::H.eraseIdx i)):WL P n c ops Q rest l H:=λa w Z ha hw=>by
 obtain⟨Z',hz,hs⟩:=St.freezeM hw hi;exact h a w Z' (ha.mono hz) hs
theorem UF.heap {Z:Fz}{w:World}(hf:P8 Z w){m:List (List UInt8×Rp)}{v:Value}(h:(PS m).p Z v):∃b,v = .map (some b)∧(Ent.map b m).holds Z w:=by
 obtain⟨b,es,ck,h1,h2,h3⟩:=h;exact⟨b,h1,es,ck,hf b _ h2,h3⟩
theorem Gs {q:T}(ht:P.underlying t=some (.map kt et))(hk:P.underlying kt=some .string)(hx:ev l x=some (PS (A1 enc xs)))(hy:ev l y=some (rS k))(hq:B4 xs k=some q) :
  Bk P n c l H { dst:=d',op:=.lookup t x y false,type:=ty,pos:=pos,after:=af,guard:=g } (enc q):=λa w Z ha hw=>by
 obtain⟨b,e1,es,ck,h1,h2⟩:=UF.heap hw.frz (ha.ev hx);have hq':B4 (A1 enc xs) k=some (enc q):=by rw[GQ,hq];rfl
 rcases Mq h2 k with⟨q1,q2,_⟩ | ⟨j,e,r,q1,_,_,q2,q3⟩
 ·rw[hq'] at q2;cases q2
 ·rw[hq'] at q2;obtain rfl:=Option.some.inj q2;exact⟨e.val,q3,by simp[execOp,e1,ha.eval hy,Instr.lookup,run_underlying ht,MapKept.run_getObj_map h1,MapKept.run_checkKey hk (DE _),MapKept.run_findKey hk q1]⟩
theorem Mg {f:FuncId}{args:List Operand}{ats:Array TypeId}{rs:List Rp}(hcall:∀(as1:Array Value) (w:World),(callFunc f as1).run P w = .ok (.enter f as1) w)(hc:M4 P c.E f rs r)(hx:ev l x=some (mF f))(hv:L6 l args=some rs) :
  Dw P n c opsA Q l H { dst:=some d,op:=.call { callee:=.value x,args:=args.toArray,argTypes:=ats },type:=ty,pos:=pos,after:=af,guard:=none } r H:=λa w Z K ha hw hK=>
 ⟨λ_=>by
  unfold Oper.wp;rw[Jz (caps:=[]) rfl (ha.eval hx) hcall w];refine(hc w Z _ (by have:=(Gx ha hv);simpa using this) (St.enter (Hin:=[]) (Hr:=H) hw)).mono ?_;rintro e w' ⟨r2,v,Ho,Z',rfl,⟨rfl,rfl⟩,hr2,hs⟩;exact hK v w' Z' hs.le hr2 (by simpa using hw.call0 hs),λh=>by simp[Region.wanted] at h⟩
end
set_option maxRecDepth 100000
set_option maxHeartbeats 4000000
@[reducible] def HE (x:Int):Rp:=Am x
theorem SK (Z:Fz):(HE 0).p Z (.int .i64 0):=rfl
@[reducible] def An (x:(List Ab)):List Rp:=[AL 4 (Au Ac x)]
theorem Db (x:(List Ab)):(An x).length=1:=rfl
theorem JF (x:(List Ab)):(An x).all (·.one)=true:=rfl
@[reducible] def Av (x:Ar):List Rp:=[rS x.fEntity,rS x.fID,rS x.fOp,AL 1 (Au An x.fArgs)]
@[reducible] def A0 (x:Ax):List Rp:=[Am x.fErr,AL 4 (Au Ac x.fValue)]
@[reducible] def Af (x:Ai):List Rp:=[rS x.fOp.fEntity,rS x.fOp.fID,rS x.fOp.fOp,AL 1 (Au An x.fOp.fArgs),Am x.fAnswer.fErr,AL 4 (Au Ac x.fAnswer.fValue),Am x.fFrom,Am x.fTo]
theorem HG (x:Ai):(Af x).length=8:=rfl
theorem Ld (x:Ai):(Af x).all (·.one)=true:=rfl
theorem Ui:∃inf,Tryz.prog.info? 9=some inf∧inf.zero=some (.string ⟨#[]⟩)∧inf.size=1∧inf.bytes=16:=by
  have key:(Tryz.prog.info? 9).map (λi=>(i.zero,i.size,i.bytes))=some (some (.string ⟨#[]⟩),1,16):=by kernel_rfl
  obtain⟨inf,h1,h2⟩:=Option.map_eq_some_iff.1 key;simp only[Prod.mk.injEq] at h2;exact⟨inf,h1,h2.1,h2.2.1,h2.2.2⟩
theorem TK:∃inf,Tryz.prog.info? 22=some inf∧inf.zero=some (.slice none 0 0)∧inf.size=1∧inf.bytes=24:=by
  have key:(Tryz.prog.info? 22).map (λi=>(i.zero,i.size,i.bytes))=some (some (.slice none 0 0),1,24):=by kernel_rfl
  obtain⟨inf,h1,h2⟩:=Option.map_eq_some_iff.1 key;simp only[Prod.mk.injEq] at h2;exact⟨inf,h1,h2.1,h2.2.1,h2.2.2⟩
theorem TI:∃inf,Tryz.prog.info? 63=some inf∧inf.zero=some (.agg #[(.int .i64 0),(.int .i64 0),(.string ⟨#[]⟩),(.int .i64 0)])∧inf.size=4∧inf.bytes=40:=by
  have key:(Tryz.prog.info? 63).map (λi=>(i.zero,i.size,i.bytes))=some (some (.agg #[(.int .i64 0),(.int .i64 0),(.string ⟨#[]⟩),(.int .i64 0)]),4,40):=by kernel_rfl
  obtain⟨inf,h1,h2⟩:=Option.map_eq_some_iff.1 key;simp only[Prod.mk.injEq] at h2;exact⟨inf,h1,h2.1,h2.2.1,h2.2.2⟩
theorem Mv (parts:List (Nat×Value)):Tryz.prog.built 31 parts=Instr.fill (λi=>(#[(0,1),(1,1)]:Array (Nat×Nat))[i]?) #[(.int .i64 0),((.slice none 0 0))] parts:=by kernel_rfl
theorem HT {n:Nat}{c:Cx}{l:Fr}{H:List Ent}{d:Option Nat}{ty:TypeId}{pos:String}{af:Array Edge}{g:Option (Nat×Bool)}:Bk Tryz.prog n c l H { dst:=d,op:=.build 31 #[],type:=ty,pos:=pos,after:=af,guard:=g } (Bc [Am 0,rv (.slice none 0 0)]):=λa w Z ha _=>by
  have hb:Tryz.prog.built 31 []=some #[(.int .i64 0),((.slice none 0 0))]:=by
    rw[Mv];simp[Instr.fill,Value.cells]
  refine⟨.agg #[(.int .i64 0),((.slice none 0 0))],⟨[(.int .i64 0),((.slice none 0 0))],rfl,rfl,rfl,trivial⟩,?_⟩;have:=run_build w 31 #[] _ (by simpa using hb);simp[execOp,this]
theorem DP {n:Nat}{c:Cx}{l:Fr}{H:List Ent}{d:Option Nat}{ty:TypeId}{pos:String}{af:Array Edge}{g:Option (Nat×Bool)}{x0:Operand}{r0:Rp}(h0:ev l x0=some r0)(u0:r0.one=true):Bk Tryz.prog n c l H { dst:=d,op:=.build 31 #[(0,x0)],type:=ty,pos:=pos,after:=af,guard:=g } (Bc [r0,rv (.slice none 0 0)]):=λa w Z ha _=>by
  have p0:=ha.ev h0;have c0:=Bw (r0.hone u0 Z _ p0);have hb:Tryz.prog.built 31 [(0,a.eval x0)]=some #[a.eval x0,((.slice none 0 0))]:=by
    rw[Mv];generalize a.eval x0=v0 at *;simp[Instr.fill,c0]
  refine⟨.agg #[a.eval x0,((.slice none 0 0))],⟨[a.eval x0,((.slice none 0 0))],rfl,p0,rfl,trivial⟩,?_⟩;have:=run_build w 31 #[(0,a.eval x0)] _ (by simpa using hb);simp[execOp,this]
theorem Dl {n:Nat}{c:Cx}{l:Fr}{H:List Ent}{d:Option Nat}{ty:TypeId}{pos:String}{af:Array Edge}{g:Option (Nat×Bool)}{x1:Operand}{r1:Rp}(h1:ev l x1=some r1)(u1:r1.one=true):Bk Tryz.prog n c l H { dst:=d,op:=.build 31 #[(1,x1)],type:=ty,pos:=pos,after:=af,guard:=g } (Bc [Am 0,r1]):=λa w Z ha _=>by
  have p1:=ha.ev h1;have c1:=Bw (r1.hone u1 Z _ p1);have hb:Tryz.prog.built 31 [(1,a.eval x1)]=some #[(.int .i64 0),a.eval x1]:=by
    rw[Mv];generalize a.eval x1=v1 at *;simp[Instr.fill,c1]
  refine⟨.agg #[(.int .i64 0),a.eval x1],⟨[(.int .i64 0),a.eval x1],rfl,rfl,p1,trivial⟩,?_⟩;have:=run_build w 31 #[(1,a.eval x1)] _ (by simpa using hb);simp[execOp,this]
theorem C0 (ys:(List Ab))(r:(List Ab))(h:Cr ys=some r):Fn Tryz.prog GE 39 [AL 4 (Au Ac ys)] [] (λR H=>R=AL 4 (Au Ac r)∧H=[]):=by
 refine enter (n:=8) Tryz.func39 Aa Tryz.ntmps39 Aa (λw Z=>?_);unfold Cr at h;refine Ap (wa Aa (A4 (A2 (Ap (wm Aa (wv (PZ Cy Aa) (A4 (QR Aa (λc1=>?_) (λc1=>?_)))))))))
 ·have e2:ys=[]:=List.map_eq_nil_iff.1 (c1 rfl);have h3:some ([]:List Ab)=some r:=by rw[e2] at h;exact(Sc h).2
  refine Ap (wa Aa (A4 (A8 (Al (WK.up (d:=2) (r:=AL 4 (Au Ac ([]:List Ab))) Aa (Up.le (GB.nil _)) ?_)))));obtain rfl:=A9 h3;exact A7 (Ci Tryz.results39 (AV Aa)) sN ⟨Aa,Aa⟩
 ·refine AD (Be (Ap (Bm (ys:=([]:List Ab)) (enc:=Ac) (css:=[]) (xs:=[]) Cy CW KQ Aa Aa Aa trivial Aa BG Aa Aa Aa (λb4=>?_))));refine wm Aa (ck h λg6 h7=>Exists.elim TI λinf hinf=>DL (xs:=([]:List Ab)) (ys:=ys) (enc:=Ac) (i:=0) Cy hinf.1 hinf.2.1 hinf.2.2.1 hinf.2.2.2 Aa Aa Aa Aa Aa (P5.z Aa Aa) BG Lc g6 Aa (λv5=>?_));refine wa Aa (A4 (A8 (WK.freeze (i:=0) Aa (WK.up (d:=2) (r:=AL 4 (Au Ac (([]:List Ab)++ys))) Aa (Up.fact (i:=0) Aa) ?_))));obtain rfl:=A9 h7;exact A7 (Ci Tryz.results39 (AV Aa)) (sS sN) ⟨Aa,Aa⟩
theorem R3 (op:Ak)(r:Int×Bool)(h:Ks op=some r):Fn Tryz.prog GE 54 [rS op] [] (λR H=>R=CP [Am r.1,rB r.2]∧H=[]):=by
 refine enter (n:=15) Tryz.func54 Aa Tryz.ntmps54 Aa (λw Z=>?_);unfold Ks at h;refine Ap (wa Aa (wa Aa (BF (Lg Aa (λb1=>?_)))));refine CA (enc:=HE) (xs:=([]:List (Ak×Int))) (v:=0) (i:=0) MB G1 Aa Aa Aa Aa (H':=[.map b1 (A1 HE (mset ([]:List (Ak×Int)) ([114,101,97,100]:Ak) 0))]) Aa (CA (enc:=HE) (xs:=mset ([]:List (Ak×Int)) ([114,101,97,100]:Ak) 0) (v:=1) (i:=0) MB G1 Aa Aa Aa Aa (H':=[.map b1 (A1 HE (mset (mset ([]:List (Ak×Int)) ([114,101,97,100]:Ak) 0) ([119,114,105,116,101]:Ak) 1))]) Aa (CA (enc:=HE) (xs:=mset (mset ([]:List (Ak×Int)) ([114,101,97,100]:Ak) 0) ([119,114,105,116,101]:Ak) 1) (v:=1) (i:=0) MB G1 Aa Aa Aa Aa (H':=[.map b1 (A1 HE (mset (mset (mset ([]:List (Ak×Int)) ([114,101,97,100]:Ak) 0) ([119,114,105,116,101]:Ak) 1) ([97,100,100]:Ak) 1))]) Aa (CA (enc:=HE) (xs:=mset (mset (mset ([]:List (Ak×Int)) ([114,101,97,100]:Ak) 0) ([119,114,105,116,101]:Ak) 1) ([97,100,100]:Ak) 1) (v:=2) (i:=0) MB G1 Aa Aa Aa Aa (H':=[.map b1 (A1 HE (mset (mset (mset (mset ([]:List (Ak×Int)) ([114,101,97,100]:Ak) 0) ([119,114,105,116,101]:Ak) 1) ([97,100,100]:Ak) 1) ([99,97,115]:Ak) 2))]) Aa (wm Aa (wm Aa (wv (r:=CP [Am (Aw (mset (mset (mset (mset ([]:List (Ak×Int)) ([114,101,97,100]:Ak) 0) ([119,114,105,116,101]:Ak) 1) ([97,100,100]:Ak) 1) ([99,97,115]:Ak) 2) op 0),rB (Bq (mset (mset (mset (mset ([]:List (Ak×Int)) ([114,101,97,100]:Ak) 0) ([119,114,105,116,101]:Ak) 1) ([97,100,100]:Ak) 1) ([99,97,115]:Ak) 2) op)]) (Gr (enc:=HE) (xs:=mset (mset (mset (mset ([]:List (Ak×Int)) ([114,101,97,100]:Ak) 0) ([119,114,105,116,101]:Ak) 1) ([97,100,100]:Ak) 1) ([99,97,115]:Ak) 2) (z:=0) (i:=0) MB G1 Tryz.zeroValue3 SK Aa Aa Aa) (wm Aa (wv (AN Aa Aa) (wv (AN Aa Aa) (wa Aa (wa Aa (BF (wm Aa (wm Aa (wa Aa (wa Aa (A4 (A8 ?_))))))))))))))))));obtain rfl:=A9 h;exact A7 (JM Tryz.results54 (AV Aa) (AV Aa)) (sS sN) ⟨Aa,Aa⟩
theorem Nq (F:Nat)(op:Ar)(r:Int)(h:Jh F op=some r):Fn Tryz.prog GE 36 [Bc (Av op)] [] (λR H=>R=Am r∧H=[]):=by
 refine enter (n:=46) Tryz.func36 Aa Tryz.ntmps36 Aa (λw Z=>?_);unfold Jh at h;refine Ap (BJ Aa Aa (λb1=>?_));refine wa Aa (BF (vF Cs Aa Eh (vL 0 EI Aa (ob h λr2 e4 h3=>DI Tryz.call54 (R3 op.fOp r2 e4) Aa (wm Aa (wv (AN Aa Aa) (wv (AN Aa Aa) (wa Aa (wa Aa (A4 (A2 (AW [(1,rP b1 0),(3,Am r2.1),(27,rB ((!(GC op.fEntity))||((!(GC op.fID))||(!r2.2))))] [.blk b1 (Av op) 25] ?_ ?_))))))))))))
 ·refine AB (vF Cs Aa Eh (vL 0 EI Aa (Hg (rs:=[rS op.fEntity]) (r:=rB (GC op.fEntity)) Tryz.call55 Aa (Uk op.fEntity) Aa Aa (wv (Cd Aa) (wm Aa (Bb (!(GC op.fEntity)) (λc5=>?_) (λc5=>?_)))))))
  ·refine wf c5 (wf c5 (wf c5 (wf c5 (wv (r:=rB true) (A6 Aa c5 Aa) (wm Aa (wz Aa Aa (wz Aa Aa (wv (r:=rB true) (A6 (b:=true) Aa Aa Aa) (A5 ?_)))))))));exact Dc c5
  ·refine wo c5 (vF Cs Aa Eh (wo c5 (vL 0 EI Aa (wo c5 (Hg (rs:=[rS op.fID]) (r:=rB (GC op.fID)) Tryz.call55 Aa (Uk op.fID) Aa Aa (wo c5 (wv (Cd Aa) (Ju Aa c5 Aa (wm Aa (Bb (!(GC op.fID)) (λc6=>?_) (λc6=>?_)))))))))))
   ·refine wf c6 (wf c6 (wv (r:=rB true) (A6 Aa c6 Aa) (A5 ?_)));exact Dc (And.intro c5 c6)
   ·refine wo c6 (wm Aa (wo c6 (wv (Cd Aa) (Ju Aa c6 Aa (A5 ?_)))));exact Dc (And.intro c5 c6)
 refine cz h3 Aa (λc7 h8=>?_) (λc7 h9=>?_)
 ·refine Ap (wa Aa (A4 (A8 (Al ?_))));obtain rfl:=A9 h8;exact A7 (Ci Ss (AV Aa)) (sS sN) ⟨Aa,Aa⟩
 ·refine AD (Be (A2 (Ap (vF Cs Aa GD (vL 0 IP Aa (wv (Bl (ys:=op.fArgs) (enc:=An) Es Aa) (wm Aa (wv (Ey Aa Aa) (A4 (cz h9 Aa (λhg hh=>?_) (λhg hi=>?_)))))))))))
  ·refine Ap (wa Aa (A4 (A8 (Al ?_))));obtain rfl:=A9 hh;exact A7 (Ci Ss (AV Aa)) (sS sN) ⟨Aa,Aa⟩
  ·refine AD (Be (A2 (Ap (vF Cs Aa GD (vL 0 IP Aa (wv (Bl (ys:=op.fArgs) (enc:=An) Es Aa) (wv (r:=Am 0) (Ay Aa) (A4 (AX (ob hi λhj hk hf=>BP (S:=Nat×(Int)×(Unit)) (V:=(Unit)×(Unit)) 0 (λσ=>BD (λσ=>Eo F op σ) σ.1 σ.2.1=some hj) (λσ=>[(34,AL 1 (Au An op.fArgs)),(35,Am (op.fArgs.length:Int)),(36,Am σ.2.1)]) (λσ=>[]) (λσ=>σ.1) (F,0,()) hk (AZ.c Aa (AZ.c Aa (AZ.c Aa AZ.nil))) (sS sN) (λσ=>Hu =some r) (λσ=>[]) (λσ=>[]) ?_ ?_))))))))))
   ·rintro⟨h6,ha,⟨⟩⟩ hl;refine C4 (l':=[(34,AL 1 (Au An op.fArgs)),(35,Am (op.fArgs.length:Int)),(36,Am ha)]) (H':=[]) Aa Aa ?_;obtain⟨hm,rfl,hn,hb,he⟩:=DR hl;replace hb:Eo F op ha=some hn:=hb;unfold Eo at hb;refine Ap (wv (E8 Aa Aa) (A4 (A2 (cz hb Aa (λho hp=>?_) (λho hq=>?_)))))
    ·refine AD (Be (A2 (AX (Ap (ck hp λhr hs=>wv (By (enc:=An) (ys:=op.fArgs) Es DW Aa Aa hr) (wv (Bs Gh Aa Aa) (wa Aa (BF (wm Aa (ob hs λht hu hw=>DI Tryz.call37 (MK F (Ae op.fArgs ha) ht hu) Aa (wa Aa (BF (wm Aa (wv (Ey Aa Aa) (A4 (cz hw Aa (λhx hy=>?_) (λhx hz=>?_)))))))))))))))))
     ·refine Ap (wm Aa (wa Aa (A4 (A8 (AM (Al (Al (B0 ?_))))))));have h0:=Cj hy he hf;refine AM (Al ?_);obtain rfl:=A9 h0;exact A7 (Ci Ss (AV Aa)) sN ⟨Aa,Aa⟩
     ·refine AD (Bi (Be (AB (ck hz λh1 h2=>wv (Cz Aa Aa h1) (wm Aa (A5 ?_))))));have h4:=BQ h2 he;exact AO (AY (hm,ha+1,()) ⟨h4,Vn _⟩ (AZ.c Aa (AZ.c Aa (AZ.c Aa AZ.nil))) sN)
    ·refine BL (AE ?_);have h5:=CB hq he hf;exact AE (B1 (AY ((),()) h5 AZ.nil sN))
   ·rintro⟨⟨⟩,⟨⟩⟩ hd;refine DK (l':=[]) (H':=[]) Aa Aa ?_;replace hd:Hu =some r:=hd;unfold Hu at hd;refine Bv (Be (Ap (wa Aa (A4 (A8 ?_)))));obtain rfl:=A9 hd;exact A7 (Ci Ss (AV Aa)) sN ⟨Aa,Aa⟩
theorem Nm (state:(List Ab))(args:(List (List Ab)))(r:(List Ab)×Ax)(h:Hp state args=some r):Fn Tryz.prog GE 57 [AL 4 (Au Ac state),AL 1 (Au An args)] [] (λR H=>R=CP [AL 4 (Au Ac r.1),Bc (A0 r.2)]∧H=[]):=by
 refine enter (n:=10) Tryz.func57 Aa Tryz.ntmps57 Aa (λw Z=>?_);unfold Hp at h;refine Ap (wa Aa (BM (cs:=[Am 0,rv (.slice none 0 0)]) IO Aa Aa (λb1=>?_)));refine BF (wm Aa (wm Aa (ob h λr2 e4 h3=>DI J9 (C0 state r2 e4) Aa (wv (r:=Bc [Am 0,AL 4 (Au Ac r2)]) (Dl Aa Aa) (wa Aa (AG (i:=0) BA Aa Aa Aa (Bh.c Aa) Aa Aa (cs':=[Am 0,AL 4 (Au Ac r2)]) Aa (H':=[.blk b1 [Am 0,AL 4 (Au Ac r2)] 31]) Aa (A4 (A8 ?_))))))));obtain rfl:=A9 h3;exact A7 (JM Tryz.results57 (AV Aa) (BX (i:=0) Dx BA Aa Aa Aa)) (sS sN) ⟨Aa,Aa⟩
theorem Mj (state:(List Ab))(args:(List (List Ab)))(r:(List Ab)×Ax)(h:Gu state args=some r):Fn Tryz.prog GE 58 [AL 4 (Au Ac state),AL 1 (Au An args)] [] (λR H=>R=CP [AL 4 (Au Ac r.1),Bc (A0 r.2)]∧H=[]):=by
 refine enter (n:=12) Tryz.func58 Aa Tryz.ntmps58 Aa (λw Z=>?_);unfold Gu at h;refine Ap (wa Aa (BM (cs:=[Am 0,rv (.slice none 0 0)]) IO Aa Aa (λb1=>?_)));refine BF (wm Aa (ck h λg2 h3=>wv (By (enc:=An) (ys:=args) Es DW Aa Aa g2) (wv (Bs Gh Aa Aa) (ob h3 λr4 e6 h5=>DI J9 (C0 (Ae args 0) r4 e6) Aa (ob h5 λr7 e9 h8=>DI Tryz.call47 (LO r7 e9) Aa (wv (r:=Bc [Am 0,AL 4 (Au Ac r7)]) (Dl Aa Aa) (wa Aa (AG (i:=0) BA Aa Aa Aa (Bh.c Aa) Aa Aa (cs':=[Am 0,AL 4 (Au Ac r7)]) Aa (H':=[.blk b1 [Am 0,AL 4 (Au Ac r7)] 31]) Aa (A4 (A8 ?_))))))))));obtain rfl:=A9 h8;exact A7 (JM Tryz.results58 (AV Aa) (BX (i:=0) Dx BA Aa Aa Aa)) (sS sN) ⟨Aa,Aa⟩
theorem Ot (F:Nat)(state:(List Ab))(args:(List (List Ab)))(r:(List Ab)×Ax)(h:IA F state args=some r):Fn Tryz.prog GE 60 [AL 4 (Au Ac state),AL 1 (Au An args)] [] (λR H=>R=CP [AL 4 (Au Ac r.1),Bc (A0 r.2)]∧H=[]):=by
 refine enter (n:=21) Tryz.func60 Aa Tryz.ntmps60 Aa (λw Z=>?_);unfold IA at h;refine Ap (wa Aa (BM (cs:=[Am 0,rv (.slice none 0 0)]) IO Aa Aa (λb1=>?_)));refine A4 (A2 (Ap (wm Aa (wm Aa (ck h λg2 h3=>wv (By (enc:=An) (ys:=args) Es DW Aa Aa g2) (wv (Bs Gh Aa Aa) (ob h3 λr4 e6 h5=>DI Tryz.call61 (S0 F state (Ae args 0) r4 e6) Aa (wv (Cd Aa) (A4 (cz h5 Aa (λc7 h8=>?_) (λc7 hb=>?_)))))))))))
 ·refine Ap (wm Aa (ob h8 λr9 hd he=>DI Tryz.call62 (ON false r9 hd) Aa (wv (r:=Bc [Am 0,AL 4 (Au Ac r9)]) (Dl Aa Aa) (wa Aa (AG (i:=0) BA Aa Aa Aa (Bh.c Aa) Aa Aa (cs':=[Am 0,AL 4 (Au Ac r9)]) Aa (H':=[.blk b1 [Am 0,AL 4 (Au Ac r9)] 31]) Aa (A4 (A8 (Al ?_))))))));obtain rfl:=A9 he;exact A7 (JM Tryz.results60 (AV Aa) (BX (i:=0) Dx BA Aa Aa Aa)) (sS sN) ⟨Aa,Aa⟩
 ·refine AD (Be (Ap (wm Aa (ck hb λhf hg=>wv (By (enc:=An) (ys:=args) Es DW Aa Aa hf) (wv (Bs Gh Aa Aa) (ob hg λhh hi hj=>DI J9 (C0 (Ae args 1) hh hi) Aa (ob hj λha hk hl=>DI Tryz.call62 (ON true ha hk) Aa (wv (r:=Bc [Am 0,AL 4 (Au Ac ha)]) (Dl Aa Aa) (wa Aa (AG (i:=0) BA Aa Aa Aa (Bh.c Aa) Aa Aa (cs':=[Am 0,AL 4 (Au Ac ha)]) Aa (H':=[.blk b1 [Am 0,AL 4 (Au Ac ha)] 31]) Aa (A4 (A8 ?_))))))))))));obtain rfl:=A9 hl;exact A7 (JM Tryz.results60 (AV Aa) (BX (i:=0) Dx BA Aa Aa Aa)) (sS sN) ⟨Aa,Aa⟩
theorem Oq (F:Nat)(n:(List Int))(r:Bool)(h:GN F n=some r):Fn Tryz.prog GE 95 [AL 1 (Au EO n)] [] (λR H=>R=rB r∧H=[]):=by
 refine enter (n:=15) Tryz.func95 Aa Tryz.ntmps95 Aa (λw Z=>?_);unfold GN at h;refine Ap (wa Aa (A4 (A2 (Ap (wm Aa (wv (Bl (ys:=n) (enc:=EO) QH Aa) (wv (r:=Am 0) (Ay Aa) (A4 (AX (ob h λhg hh hf=>BP (S:=Nat×(Int)×(Unit)) (V:=(Unit)×(Unit)) 0 (λσ=>BD (λσ=>Dm n σ) σ.1 σ.2.1=some hg) (λσ=>[(5,AL 1 (Au EO n)),(6,Am (n.length:Int)),(7,Am σ.2.1)]) (λσ=>[]) (λσ=>σ.1) (F,0,()) hh (AZ.c Aa (AZ.c Aa (AZ.c Aa AZ.nil))) sN (λσ=>ED =some r) (λσ=>[]) (λσ=>[]) ?_ ?_))))))))))
 ·rintro⟨h2,ha,⟨⟩⟩ hi;refine C4 (l':=[(5,AL 1 (Au EO n)),(6,Am (n.length:Int)),(7,Am ha)]) (H':=[]) Aa Aa ?_;obtain⟨hj,rfl,hk,hb,he⟩:=DR hi;replace hb:Dm n ha=some hk:=hb;unfold Dm at hb;refine Ap (wv (E8 Aa Aa) (A4 (A2 (cz hb Aa (λhl hm=>?_) (λhl hn=>?_)))))
  ·refine AD (Be (A2 (AX (Ap (ck hm λho hp=>wv (By (enc:=EO) (ys:=n) QH C7 Aa Aa ho) (wv (Bs Ei Aa Aa) (wa Aa (BF (wm Aa (ob hp λhq hr hs=>DI Tryz.call79 (Kq (Ae n ha) hq hr) Aa (wv (Cd Aa) (A4 (cz hs Aa (λht hu=>?_) (λht hw=>?_))))))))))))))
   ·refine Ap (wa Aa (A4 (A8 (AM (Al (Al (B0 ?_)))))));have hx:=Cj hu he hf;refine AM (Al ?_);obtain rfl:=A9 hx;exact A7 (Ci Tryz.results95 (AV Aa)) sN ⟨Aa,Aa⟩
   ·refine AD (Bi (Be (AB (ck hw λhy hz=>wv (Cz Aa Aa hy) (wm Aa (A5 ?_))))));have h0:=BQ hz he;exact AO (AY (hj,ha+1,()) ⟨h0,Vn _⟩ (AZ.c Aa (AZ.c Aa (AZ.c Aa AZ.nil))) sN)
  ·refine BL (AE ?_);have h1:=CB hn he hf;exact AE (B1 (AY ((),()) h1 AZ.nil sN))
 ·rintro⟨⟨⟩,⟨⟩⟩ hd;refine DK (l':=[]) (H':=[]) Aa Aa ?_;replace hd:ED =some r:=hd;unfold ED at hd;refine Bv (Be (Ap (wa Aa (A4 (A8 ?_)))));obtain rfl:=A9 hd;exact A7 (Ci Tryz.results95 (AV Aa)) sN ⟨Aa,Aa⟩
theorem Nk (n:Int)(r:Int×Int)(h:Hl n=some r):Fn Tryz.prog GE 96 [Am n] [] (λR H=>R=CP [Am r.1,Am r.2]∧H=[]):=by
 refine enter (n:=8) Tryz.func96 Aa Tryz.ntmps96 Aa (λw Z=>?_);unfold Hl at h;refine Ap (wa Aa (wa Aa (A4 (A2 (Ap (wm Aa (ob h λr1 e3 h2=>DI Tryz.call79 (Kq n r1 e3) Aa (wv (Cd Aa) (A4 (cz h2 Aa (λc4 h5=>?_) (λc4 h6=>?_)))))))))))
 ·refine Ap (wa Aa (wa Aa (A4 (A8 (Al ?_)))));obtain rfl:=A9 h5;exact A7 (JM Tryz.results96 (AV Aa) (AV Aa)) sN ⟨Aa,Aa⟩
 ·refine AD (Be (Ap (wm Aa (wa Aa (wa Aa (A4 (A8 ?_)))))));obtain rfl:=A9 h6;exact A7 (JM Tryz.results96 (AV Aa) (AV Aa)) sN ⟨Aa,Aa⟩
theorem Nl (F:Nat)(a:Int)(b:Int)(r:Int×Int)(h:Je F a b=some r):Fn Tryz.prog GE 81 [Am a,Am b] [] (λR H=>R=CP [Am r.1,Am r.2]∧H=[]):=by
 refine enter (n:=17) Tryz.func81 Aa Tryz.ntmps81 Aa (λw Z=>?_);unfold Je at h;refine Ap (wa Aa (wa Aa (A4 (A2 (Ap (wm Aa (wm Aa (Bm (ys:=([a,b]:List Int)) (enc:=EO) (css:=[[Am a],[Am b]]) (xs:=[.tmp 6,.tmp 7]) QH C7 Tryz.zeroValue3 Aa Aa Aa ⟨JV.one Aa (Up.refl _),JV.one Aa (Up.refl _),trivial⟩ Aa O8 Aa Aa Aa (λb1=>?_)))))))));refine WL.freeze (i:=0) Aa (WL.up (d:=8) (r:=AL 1 (Au EO ([a,b]:List Int))) Aa (Up.fact (i:=0) Aa) (ob h λr2 e4 h3=>DI Tryz.call95 (Oq F ([a,b]:List Int) r2 e4) Aa (wv (Cd Aa) (A4 (cz h3 Aa (λc5 h6=>?_) (λc5 h7=>?_))))))
 ·refine Ap (wa Aa (wa Aa (A4 (A8 (Al ?_)))));obtain rfl:=A9 h6;exact A7 (JM Tryz.results81 (AV Aa) (AV Aa)) (sS sN) ⟨Aa,Aa⟩
 ·refine AD (Be (Ap (wm Aa (wm Aa (ck h7 λg8 h9=>wv (Cz Aa Aa g8) (ob h9 λha hb hd=>DI Tryz.call96 (Nk (a+b) ha hb) Aa (wv (AN Aa Aa) (wv (AN Aa Aa) (wa Aa (wa Aa (A4 (A8 ?_))))))))))));obtain rfl:=A9 hd;exact A7 (JM Tryz.results81 (AV Aa) (AV Aa)) (sS sN) ⟨Aa,Aa⟩
theorem R4 (F:Nat)(state:(List Ab))(args:(List (List Ab)))(r:(List Ab)×Ax)(h:Kt F state args=some r):Fn Tryz.prog GE 59 [AL 4 (Au Ac state),AL 1 (Au An args)] [] (λR H=>R=CP [AL 4 (Au Ac r.1),Bc (A0 r.2)]∧H=[]):=by
 refine enter (n:=56) Tryz.func59 Aa Tryz.ntmps59 Aa (λw Z=>?_);unfold Kt at h;refine Ap (wa Aa (BM (cs:=[Am 0,rv (.slice none 0 0)]) IO Aa Aa (λb1=>?_)));refine BF (wa Aa (A4 (A2 (Ap (wm Aa (ck h λg2 h3=>wv (By (enc:=Ac) (ys:=state) Cy CW Aa Aa g2) (wv (Bn BS Aa J8 Aa Aa) (wv (Bs JA Aa Aa) (A4 (AX (Ap (wv (BV Aa Aa) (wa Aa (A4 (cz h3 Aa (λc4 h5=>?_) (λc4 hh=>?_))))))))))))))))
 ·refine AB (wm Aa (wv (By (enc:=Ac) (ys:=state) Cy CW Aa Aa g2) (wv (Bn BS Aa C7 Aa Aa) (wv (Bs Ei Aa Aa) (wa Aa (A5 (Bi (Be (A2 (Ap (wm Aa (ck h5 λg6 h7=>wv (By (enc:=An) (ys:=args) Es DW Aa Aa g6) (wv (Bs Gh Aa Aa) (ck h7 λg8 h9=>wv (By (enc:=Ac) (ys:=Ae args 0) Cy CW Aa Aa g8) (wv (Bn BS Aa J8 Aa Aa) (wv (Bs JA Aa Aa) (wv (Ey Aa Aa) (A4 (cz h9 Aa (λhi hj=>?_) (λhi hk=>?_))))))))))))))))))))
  ·refine Ap (wm Aa (wv (r:=Bc [Am 7,rv (.slice none 0 0)]) (DP Aa Aa) (wa Aa (AG (i:=0) BA Aa Aa Aa (Bh.c Aa) Aa Aa (cs':=[Am 7,rv (.slice none 0 0)]) Aa (H':=[.blk b1 [Am 7,rv (.slice none 0 0)] 31]) Aa (A4 (A8 (Al (WK.upBlk (i:=0) (cs':=[Am 7,AL 4 (Au Ac ([]:List Ab))]) Aa ⟨Up.refl _,Up.le (GB.nil _),trivial⟩ ?_))))))));obtain rfl:=A9 hj;exact A7 (JM NR (AV Aa) (BX (i:=0) Dx BA Aa Aa Aa)) (sS sN) ⟨Aa,Aa⟩
  ·refine AD (Be (Ap (wm Aa (wm Aa (wv (By (enc:=An) (ys:=args) Es DW Aa Aa g6) (wv (Bs Gh Aa Aa) (wv (By (enc:=Ac) (ys:=Ae args 0) Cy CW Aa Aa g8) (wv (Bn BS Aa C7 Aa Aa) (wv (Bs Ei Aa Aa) (ob hk λha hl hm=>DI Tryz.call81 (Nl F ((Ae state 0).fInt) ((Ae (Ae args 0) 0).fInt) ha hl) Aa (wm Aa (wv (AN Aa Aa) (wv (AN Aa Aa) (wa Aa (wa Aa (A4 (A2 (Ap (wm Aa (wv (Ey Aa Aa) (A4 (cz hm Aa (λhn ho=>?_) (λhn hp=>?_)))))))))))))))))))))))
   ·refine Ap (wm Aa (wm Aa (wv (r:=Bc [Am ha.2,rv (.slice none 0 0)]) (DP Aa Aa) (wa Aa (AG (i:=0) BA Aa Aa Aa (Bh.c Aa) Aa Aa (cs':=[Am ha.2,rv (.slice none 0 0)]) Aa (H':=[.blk b1 [Am ha.2,rv (.slice none 0 0)] 31]) Aa (A4 (A8 (Al (WK.upBlk (i:=0) (cs':=[Am ha.2,AL 4 (Au Ac ([]:List Ab))]) Aa ⟨Up.refl _,Up.le (GB.nil _),trivial⟩ ?_)))))))));obtain rfl:=A9 ho;exact A7 (JM NR (AV Aa) (BX (i:=0) Dx BA Aa Aa Aa)) (sS sN) ⟨Aa,Aa⟩
   ·refine AD (Be (Ap (wm Aa (wv (r:=Bc [Am 3,Am ha.1,rS ([]:Ak),Am 0]) (EM Aa Aa Aa Aa) (Bm (ys:=([(Ab.mk 3 ha.1 ([]:Ak) 0)]:List Ab)) (enc:=Ac) (css:=[[Am 3,Am ha.1,rS ([]:Ak),Am 0]]) (xs:=[.tmp 50]) Cy CW KQ Aa Aa Aa ⟨JV.agg ⟨Up.refl _,Up.refl _,Up.refl _,Up.refl _,trivial⟩,trivial⟩ Aa BG Aa Aa Aa (λhq=>?_))))));refine wa Aa (BF (wm Aa (wm Aa (WL.freeze (i:=0) Aa (WL.up (d:=53) (r:=AL 4 (Au Ac ([(Ab.mk 3 ha.1 ([]:Ak) 0)]:List Ab))) Aa (Up.fact (i:=0) Aa) (ob hp λhd hr hs=>DI J9 (C0 ([(Ab.mk 3 ha.1 ([]:Ak) 0)]:List Ab) hd hr) Aa (wv (r:=Bc [Am 0,AL 4 (Au Ac hd)]) (Dl Aa Aa) (wa Aa (AG (i:=1) BA Aa Aa Aa (Bh.c Aa) Aa Aa (cs':=[Am 0,AL 4 (Au Ac hd)]) Aa (H':=[.fact (.slice (some ⟨hq,0,none⟩) 1 1) (AL 4 (Au Ac ([(Ab.mk 3 ha.1 ([]:Ak) 0)]:List Ab))),.blk b1 [Am 0,AL 4 (Au Ac hd)] 31]) Aa (A4 (A8 (WK.up (d:=4) (r:=AL 4 (Au Ac ([(Ab.mk 3 ha.1 ([]:Ak) 0)]:List Ab))) Aa (Up.fact (i:=0) Aa) ?_))))))))))));obtain rfl:=A9 hs;exact A7 (JM NR (AV Aa) (BX (i:=1) Dx BA Aa Aa Aa)) (sS (sS sN)) ⟨Aa,Aa⟩
 ·refine Ap (wv (BV Aa Aa) (wa Aa (A4 (cz hh Aa (λht hu=>?_) (λht hw=>?_)))))
  ·refine AD (Bi (Be (A2 (Ap (wm Aa (ck hu λhf hx=>wv (By (enc:=An) (ys:=args) Es DW Aa Aa hf) (wv (Bs Gh Aa Aa) (ck hx λhg hy=>wv (By (enc:=Ac) (ys:=Ae args 0) Cy CW Aa Aa hg) (wv (Bn BS Aa J8 Aa Aa) (wv (Bs JA Aa Aa) (wv (Ey Aa Aa) (A4 (cz hy Aa (λhz h0=>?_) (λhz h1=>?_))))))))))))))
   ·refine Ap (wm Aa (wv (r:=Bc [Am 7,rv (.slice none 0 0)]) (DP Aa Aa) (wa Aa (AG (i:=0) BA Aa Aa Aa (Bh.c Aa) Aa Aa (cs':=[Am 7,rv (.slice none 0 0)]) Aa (H':=[.blk b1 [Am 7,rv (.slice none 0 0)] 31]) Aa (A4 (A8 (Al (WK.upBlk (i:=0) (cs':=[Am 7,AL 4 (Au Ac ([]:List Ab))]) Aa ⟨Up.refl _,Up.le (GB.nil _),trivial⟩ ?_))))))));obtain rfl:=A9 h0;exact A7 (JM NR (AV Aa) (BX (i:=0) Dx BA Aa Aa Aa)) (sS sN) ⟨Aa,Aa⟩
   ·refine AD (Be (Ap (wm Aa (wm Aa (wv (By (enc:=An) (ys:=args) Es DW Aa Aa hf) (wv (Bs Gh Aa Aa) (wv (By (enc:=Ac) (ys:=Ae args 0) Cy CW Aa Aa hg) (wv (Bn BS Aa C7 Aa Aa) (wv (Bs Ei Aa Aa) (ob h1 λhb h2 h4=>DI Tryz.call81 (Nl F 0 ((Ae (Ae args 0) 0).fInt) hb h2) Aa (wm Aa (wv (AN Aa Aa) (wv (AN Aa Aa) (wa Aa (wa Aa (A4 (A2 (Ap (wm Aa (wv (Ey Aa Aa) (A4 (cz h4 Aa (λh6 h8=>?_) (λh6 hA=>?_)))))))))))))))))))))))
    ·refine Ap (wm Aa (wm Aa (wv (r:=Bc [Am hb.2,rv (.slice none 0 0)]) (DP Aa Aa) (wa Aa (AG (i:=0) BA Aa Aa Aa (Bh.c Aa) Aa Aa (cs':=[Am hb.2,rv (.slice none 0 0)]) Aa (H':=[.blk b1 [Am hb.2,rv (.slice none 0 0)] 31]) Aa (A4 (A8 (Al (WK.upBlk (i:=0) (cs':=[Am hb.2,AL 4 (Au Ac ([]:List Ab))]) Aa ⟨Up.refl _,Up.le (GB.nil _),trivial⟩ ?_)))))))));obtain rfl:=A9 h8;exact A7 (JM NR (AV Aa) (BX (i:=0) Dx BA Aa Aa Aa)) (sS sN) ⟨Aa,Aa⟩
    ·refine AD (Be (Ap (wm Aa (wv (r:=Bc [Am 3,Am hb.1,rS ([]:Ak),Am 0]) (EM Aa Aa Aa Aa) (Bm (ys:=([(Ab.mk 3 hb.1 ([]:Ak) 0)]:List Ab)) (enc:=Ac) (css:=[[Am 3,Am hb.1,rS ([]:Ak),Am 0]]) (xs:=[.tmp 50]) Cy CW KQ Aa Aa Aa ⟨JV.agg ⟨Up.refl _,Up.refl _,Up.refl _,Up.refl _,trivial⟩,trivial⟩ Aa BG Aa Aa Aa (λhB=>?_))))));refine wa Aa (BF (wm Aa (wm Aa (WL.freeze (i:=0) Aa (WL.up (d:=53) (r:=AL 4 (Au Ac ([(Ab.mk 3 hb.1 ([]:Ak) 0)]:List Ab))) Aa (Up.fact (i:=0) Aa) (ob hA λhe hC hD=>DI J9 (C0 ([(Ab.mk 3 hb.1 ([]:Ak) 0)]:List Ab) he hC) Aa (wv (r:=Bc [Am 0,AL 4 (Au Ac he)]) (Dl Aa Aa) (wa Aa (AG (i:=1) BA Aa Aa Aa (Bh.c Aa) Aa Aa (cs':=[Am 0,AL 4 (Au Ac he)]) Aa (H':=[.fact (.slice (some ⟨hB,0,none⟩) 1 1) (AL 4 (Au Ac ([(Ab.mk 3 hb.1 ([]:Ak) 0)]:List Ab))),.blk b1 [Am 0,AL 4 (Au Ac he)] 31]) Aa (A4 (A8 (WK.up (d:=4) (r:=AL 4 (Au Ac ([(Ab.mk 3 hb.1 ([]:Ak) 0)]:List Ab))) Aa (Up.fact (i:=0) Aa) ?_))))))))))));obtain rfl:=A9 hD;exact A7 (JM NR (AV Aa) (BX (i:=1) Dx BA Aa Aa Aa)) (sS (sS sN)) ⟨Aa,Aa⟩
  ·refine Ap (wm Aa (wv (r:=Bc [Am 7,rv (.slice none 0 0)]) (DP Aa Aa) (wa Aa (AG (i:=0) BA Aa Aa Aa (Bh.c Aa) Aa Aa (cs':=[Am 7,rv (.slice none 0 0)]) Aa (H':=[.blk b1 [Am 7,rv (.slice none 0 0)] 31]) Aa (A4 (A8 (AM (Al (WK.upBlk (i:=0) (cs':=[Am 7,AL 4 (Au Ac ([]:List Ab))]) Aa ⟨Up.refl _,Up.le (GB.nil _),trivial⟩ ?_)))))))));obtain rfl:=A9 hw;exact A7 (JM NR (AV Aa) (BX (i:=0) Dx BA Aa Aa Aa)) (sS sN) ⟨Aa,Aa⟩
theorem I9  (r:(List (Ak×Nat)))(h:Rx=some r):Fn Tryz.prog GE 38 [] [] (λR H=>R=PS (A1 mF r)∧H=[]):=by
 refine enter (n:=3) Tryz.func38 Aa Tryz.ntmps38 Aa (λw Z=>?_);unfold Rx at h;refine Ap (wv (r:=rv (.map none)) (AQ Aa) (BF (Lg Aa (λb1=>?_))));refine CA (enc:=mF) (xs:=([]:List (Ak×Nat))) (v:=57) (i:=0) M9 G1 Aa Aa Aa Aa (H':=[.map b1 (A1 mF (mset ([]:List (Ak×Nat)) ([114,101,97,100]:Ak) 57))]) Aa (CA (enc:=mF) (xs:=mset ([]:List (Ak×Nat)) ([114,101,97,100]:Ak) 57) (v:=58) (i:=0) M9 G1 Aa Aa Aa Aa (H':=[.map b1 (A1 mF (mset (mset ([]:List (Ak×Nat)) ([114,101,97,100]:Ak) 57) ([119,114,105,116,101]:Ak) 58))]) Aa (CA (enc:=mF) (xs:=mset (mset ([]:List (Ak×Nat)) ([114,101,97,100]:Ak) 57) ([119,114,105,116,101]:Ak) 58) (v:=59) (i:=0) M9 G1 Aa Aa Aa Aa (H':=[.map b1 (A1 mF (mset (mset (mset ([]:List (Ak×Nat)) ([114,101,97,100]:Ak) 57) ([119,114,105,116,101]:Ak) 58) ([97,100,100]:Ak) 59))]) Aa (CA (enc:=mF) (xs:=mset (mset (mset ([]:List (Ak×Nat)) ([114,101,97,100]:Ak) 57) ([119,114,105,116,101]:Ak) 58) ([97,100,100]:Ak) 59) (v:=60) (i:=0) M9 G1 Aa Aa Aa Aa (H':=[.map b1 (A1 mF (mset (mset (mset (mset ([]:List (Ak×Nat)) ([114,101,97,100]:Ak) 57) ([119,114,105,116,101]:Ak) 58) ([97,100,100]:Ak) 59) ([99,97,115]:Ak) 60))]) Aa (wm Aa (wa Aa (A4 (A8 (WK.freezeM (i:=0) Aa (WK.up (d:=0) (r:=PS (A1 mF (mset (mset (mset (mset ([]:List (Ak×Nat)) ([114,101,97,100]:Ak) 57) ([119,114,105,116,101]:Ak) 58) ([97,100,100]:Ak) 59) ([99,97,115]:Ak) 60))) Aa (Up.fact (i:=0) Aa) ?_)))))))));obtain rfl:=A9 h;exact A7 (Ci Tryz.results38 (AV Aa)) (sS sN) ⟨Aa,Aa⟩
theorem Tu (F:Nat)(state:(List Ab))(op:Ar)(r:(List Ab)×Ax×Int)(h:TW F state op=some r):Fn Tryz.prog GE 11 [AL 4 (Au Ac state),Bc (Av op)] [] (λR H=>R=CP [AL 4 (Au Ac r.1),Bc (A0 r.2.1),Am r.2.2]∧H=[]):=by
 refine enter (n:=37) Tryz.func11 Aa Tryz.ntmps11 Aa (λw Z=>?_);unfold TW at h;refine Ap (BJ Aa Aa (λb1=>?_));refine wa Aa (BM (cs:=[Am 0,rv (.slice none 0 0)]) IO Aa Aa (λb2=>?_));refine wa Aa (A4 (A2 (Ap (wv (Bf (i:=1) Ii D5 Aa Aa Aa Aa) (ob h λr3 e5 h4=>DI Tryz.call36 (Nq F op r3 e5) Aa (wa Aa (BF (wm Aa (wv (Ey Aa Aa) (A4 (cz h4 Aa (λc6 h7=>?_) (λc6 h8=>?_))))))))))))
 ·refine Ap (wv (r:=Bc [Am 0,rv (.slice none 0 0)]) (HT ) (wm Aa (wa Aa (AG (i:=0) BA Aa Aa Aa (Bh.c Aa) Aa Aa (cs':=[Am 0,rv (.slice none 0 0)]) Aa (H':=[.blk b2 [Am 0,rv (.slice none 0 0)] 31,.blk b1 (Av op) 25]) Aa (wa Aa (A4 (A8 (Al (WK.up (d:=4) (r:=AL 4 (Au Ac ([]:List Ab))) Aa (Up.le (GB.nil _)) (WK.upBlk (i:=0) (cs':=[Am 0,AL 4 (Au Ac ([]:List Ab))]) Aa ⟨Up.refl _,Up.le (GB.nil _),trivial⟩ ?_))))))))));obtain rfl:=A9 h7;exact A7 (QC PD (AV Aa) (BX (i:=0) Dx BA Aa Aa Aa) (AV Aa)) (sS (sS sN)) ⟨Aa,Aa⟩
 ·refine AD (Be (A2 (Ap (wm Aa (ob h8 λr9 hq hr=>DI Tryz.call37 (MK F state r9 hq) Aa (wa Aa (BF (wm Aa (wv (Ey Aa Aa) (A4 (cz hr Aa (λhs ht=>?_) (λhs hu=>?_))))))))))))
  ·refine Ap (wv (r:=Bc [Am 0,rv (.slice none 0 0)]) (HT ) (wm Aa (wa Aa (AG (i:=0) BA Aa Aa Aa (Bh.c Aa) Aa Aa (cs':=[Am 0,rv (.slice none 0 0)]) Aa (H':=[.blk b2 [Am 0,rv (.slice none 0 0)] 31,.blk b1 (Av op) 25]) Aa (wa Aa (A4 (A8 (Al (WK.up (d:=4) (r:=AL 4 (Au Ac ([]:List Ab))) Aa (Up.le (GB.nil _)) (WK.upBlk (i:=0) (cs':=[Am 0,AL 4 (Au Ac ([]:List Ab))]) Aa ⟨Up.refl _,Up.le (GB.nil _),trivial⟩ ?_))))))))));obtain rfl:=A9 ht;exact A7 (QC PD (AV Aa) (BX (i:=0) Dx BA Aa Aa Aa) (AV Aa)) (sS (sS sN)) ⟨Aa,Aa⟩
  ·refine AD (Be (A2 (bz hu (λhn hw=>?_) (λhn hx=>?_))))
   ·refine ob hw λhf hy hz=>ob hz λha h0 h1=>C3 14 [0,3,5] [⟨[],PS (A1 mF (mset (mset (mset (mset ([]:List (Ak×Nat)) ([114,101,97,100]:Ak) 57) ([119,114,105,116,101]:Ak) 58) ([97,100,100]:Ak) 59) ([99,97,115]:Ak) 60)),none,none,none⟩,⟨[],rP b1 2,none,none,none⟩,⟨[1],rS op.fOp,none,none,none⟩,⟨[0,2],rv (.func (.func 57) #[] #[]),none,none,none⟩,⟨[],AL 4 (Au Ac state),none,none,none⟩,⟨[4],AL 4 (Au Ac hf),none,none,none⟩,⟨[],rP b1 3,none,none,none⟩,⟨[6],AL 1 (Au An op.fArgs),none,none,none⟩,⟨[3,5,7],CP [AL 4 (Au Ac ha.1),Bc (A0 ha.2)],none,none,none⟩,⟨[8],CP [AL 4 (Au Ac ha.1),Bc (A0 ha.2)],none,none,none⟩,⟨[9],AL 4 (Au Ac ha.1),none,none,none⟩,⟨[9],Bc (A0 ha.2),none,none,none⟩,⟨[],rv undef,some ([Am 0,rv (.slice none 0 0)],31),none,none⟩,⟨[10],AL 4 (Au Ac ha.1),none,none,none⟩] ?_ (λβ=>?_)
    ·refine Ol (G4 Tryz.call38 (I9 (mset (mset (mset (mset ([]:List (Ak×Nat)) ([114,101,97,100]:Ak) 57) ([119,114,105,116,101]:Ak) 58) ([97,100,100]:Ak) 59) ([99,97,115]:Ak) 60) rfl) rfl) (CG (AR Cs rfl Eh rfl rfl) (Km (B5 (i:=1) EI rfl rfl rfl) (CG (Gs (enc:=mF) (xs:=(mset (mset (mset (mset ([]:List (Ak×Nat)) ([114,101,97,100]:Ak) 57) ([119,114,105,116,101]:Ak) 58) ([97,100,100]:Ak) 59) ([99,97,115]:Ak) 60)) (q:=57) M9 G1 rfl rfl (by rw[V5 hn];rfl)) (CG (Ay rfl) (Ol (G4 J9 (C0 state hf hy) rfl) (CG (AR Cs rfl GD rfl rfl) (Km (B5 (i:=1) IP rfl rfl rfl) (Ol (Mg Tryz.call57 (Nm hf op.fArgs ha h0) rfl rfl) (CG (Ay rfl) (CG (AN rfl rfl) (CG (AN rfl rfl) (Uc (NL (cs:=[Am 0,rv (.slice none 0 0)]) IO rfl) (CG (AQ rfl) ?_)))))))))))));exact Pg
    refine Dy (H1:=[.blk b2 [Am 0,rv (.slice none 0 0)] 31,.blk b1 (Av op) 25,.blk (β 12) [Am 0,rv (.slice none 0 0)] 31]) [24,25,26,27,28,29,30,31,32,23,33,34,10,9,0,3,5] ?_;generalize β 12=hg;refine AG (i:=2) BA Aa Aa Aa (Bh.c Aa) Aa Aa (cs':=[Am ha.2.fErr,AL 4 (Au Ac ha.2.fValue)]) Aa (H':=[.blk b2 [Am 0,rv (.slice none 0 0)] 31,.blk b1 (Av op) 25,.blk hg (A0 ha.2) 31]) Aa (A4 (A2 (C3 3 [5,9,10] [⟨[],AL 4 (Au Ac ha.1),none,none,none⟩,⟨[],Bc (A0 ha.2),none,none,none⟩,⟨[0],AL 4 (Au Ac ha.1),none,none,none⟩] ?_ (λβ=>?_))))
    ·refine CG (Ay Aa) (Km (Bf (i:=2) Dx BA Aa Aa Aa Aa) (CG (AQ Aa) ?_));exact Pg
    refine Dy (H1:=[.blk b2 [Am 0,rv (.slice none 0 0)] 31,.blk b1 (Av op) 25,.blk hg (A0 ha.2) 31]) [35,36,4,5,9,10] ?_;refine AG (i:=0) BA Aa Aa Aa (Bh.c Aa) Aa Aa (cs':=[Am ha.2.fErr,AL 4 (Au Ac ha.2.fValue)]) Aa (H':=[.blk b2 (A0 ha.2) 31,.blk b1 (Av op) 25,.blk hg (A0 ha.2) 31]) Aa (wa Aa (A4 (A8 ?_)));obtain rfl:=A9 h1;exact A7 (QC PD (AV Aa) (BX (i:=0) Dx BA Aa Aa Aa) (AV Aa)) (sS (sS (sS sN))) ⟨Aa,Aa⟩
   ·refine bz hx (λho h2=>?_) (λho h3=>?_)
    ·refine ob h2 λhh h5 h6=>ob h6 λhb h9 hA=>C3 14 [0,3,5] [⟨[],PS (A1 mF (mset (mset (mset (mset ([]:List (Ak×Nat)) ([114,101,97,100]:Ak) 57) ([119,114,105,116,101]:Ak) 58) ([97,100,100]:Ak) 59) ([99,97,115]:Ak) 60)),none,none,none⟩,⟨[],rP b1 2,none,none,none⟩,⟨[1],rS op.fOp,none,none,none⟩,⟨[0,2],rv (.func (.func 58) #[] #[]),none,none,none⟩,⟨[],AL 4 (Au Ac state),none,none,none⟩,⟨[4],AL 4 (Au Ac hh),none,none,none⟩,⟨[],rP b1 3,none,none,none⟩,⟨[6],AL 1 (Au An op.fArgs),none,none,none⟩,⟨[3,5,7],CP [AL 4 (Au Ac hb.1),Bc (A0 hb.2)],none,none,none⟩,⟨[8],CP [AL 4 (Au Ac hb.1),Bc (A0 hb.2)],none,none,none⟩,⟨[9],AL 4 (Au Ac hb.1),none,none,none⟩,⟨[9],Bc (A0 hb.2),none,none,none⟩,⟨[],rv undef,some ([Am 0,rv (.slice none 0 0)],31),none,none⟩,⟨[10],AL 4 (Au Ac hb.1),none,none,none⟩] ?_ (λβ=>?_)
     ·refine Ol (G4 Tryz.call38 (I9 (mset (mset (mset (mset ([]:List (Ak×Nat)) ([114,101,97,100]:Ak) 57) ([119,114,105,116,101]:Ak) 58) ([97,100,100]:Ak) 59) ([99,97,115]:Ak) 60) rfl) rfl) (CG (AR Cs rfl Eh rfl rfl) (Km (B5 (i:=1) EI rfl rfl rfl) (CG (Gs (enc:=mF) (xs:=(mset (mset (mset (mset ([]:List (Ak×Nat)) ([114,101,97,100]:Ak) 57) ([119,114,105,116,101]:Ak) 58) ([97,100,100]:Ak) 59) ([99,97,115]:Ak) 60)) (q:=58) M9 G1 rfl rfl (by rw[V5 ho];rfl)) (CG (Ay rfl) (Ol (G4 J9 (C0 state hh h5) rfl) (CG (AR Cs rfl GD rfl rfl) (Km (B5 (i:=1) IP rfl rfl rfl) (Ol (Mg Tryz.call58 (Mj hh op.fArgs hb h9) rfl rfl) (CG (Ay rfl) (CG (AN rfl rfl) (CG (AN rfl rfl) (Uc (NL (cs:=[Am 0,rv (.slice none 0 0)]) IO rfl) (CG (AQ rfl) ?_)))))))))))));exact Pg
     refine Dy (H1:=[.blk b2 [Am 0,rv (.slice none 0 0)] 31,.blk b1 (Av op) 25,.blk (β 12) [Am 0,rv (.slice none 0 0)] 31]) [24,25,26,27,28,29,30,31,32,23,33,34,10,9,0,3,5] ?_;generalize β 12=hi;refine AG (i:=2) BA Aa Aa Aa (Bh.c Aa) Aa Aa (cs':=[Am hb.2.fErr,AL 4 (Au Ac hb.2.fValue)]) Aa (H':=[.blk b2 [Am 0,rv (.slice none 0 0)] 31,.blk b1 (Av op) 25,.blk hi (A0 hb.2) 31]) Aa (A4 (A2 (C3 3 [5,9,10] [⟨[],AL 4 (Au Ac hb.1),none,none,none⟩,⟨[],Bc (A0 hb.2),none,none,none⟩,⟨[0],AL 4 (Au Ac hb.1),none,none,none⟩] ?_ (λβ=>?_))))
     ·refine CG (Ay Aa) (Km (Bf (i:=2) Dx BA Aa Aa Aa Aa) (CG (AQ Aa) ?_));exact Pg
     refine Dy (H1:=[.blk b2 [Am 0,rv (.slice none 0 0)] 31,.blk b1 (Av op) 25,.blk hi (A0 hb.2) 31]) [35,36,4,5,9,10] ?_;refine AG (i:=0) BA Aa Aa Aa (Bh.c Aa) Aa Aa (cs':=[Am hb.2.fErr,AL 4 (Au Ac hb.2.fValue)]) Aa (H':=[.blk b2 (A0 hb.2) 31,.blk b1 (Av op) 25,.blk hi (A0 hb.2) 31]) Aa (wa Aa (A4 (A8 ?_)));obtain rfl:=A9 hA;exact A7 (QC PD (AV Aa) (BX (i:=0) Dx BA Aa Aa Aa) (AV Aa)) (sS (sS (sS sN))) ⟨Aa,Aa⟩
    ·refine bz h3 (λhp hB=>?_) (λhp hC=>?_)
     ·refine ob hB λhj hD hE=>ob hE λhd hG hH=>C3 14 [0,3,5] [⟨[],PS (A1 mF (mset (mset (mset (mset ([]:List (Ak×Nat)) ([114,101,97,100]:Ak) 57) ([119,114,105,116,101]:Ak) 58) ([97,100,100]:Ak) 59) ([99,97,115]:Ak) 60)),none,none,none⟩,⟨[],rP b1 2,none,none,none⟩,⟨[1],rS op.fOp,none,none,none⟩,⟨[0,2],rv (.func (.func 59) #[] #[]),none,none,none⟩,⟨[],AL 4 (Au Ac state),none,none,none⟩,⟨[4],AL 4 (Au Ac hj),none,none,none⟩,⟨[],rP b1 3,none,none,none⟩,⟨[6],AL 1 (Au An op.fArgs),none,none,none⟩,⟨[3,5,7],CP [AL 4 (Au Ac hd.1),Bc (A0 hd.2)],none,none,none⟩,⟨[8],CP [AL 4 (Au Ac hd.1),Bc (A0 hd.2)],none,none,none⟩,⟨[9],AL 4 (Au Ac hd.1),none,none,none⟩,⟨[9],Bc (A0 hd.2),none,none,none⟩,⟨[],rv undef,some ([Am 0,rv (.slice none 0 0)],31),none,none⟩,⟨[10],AL 4 (Au Ac hd.1),none,none,none⟩] ?_ (λβ=>?_)
      ·refine Ol (G4 Tryz.call38 (I9 (mset (mset (mset (mset ([]:List (Ak×Nat)) ([114,101,97,100]:Ak) 57) ([119,114,105,116,101]:Ak) 58) ([97,100,100]:Ak) 59) ([99,97,115]:Ak) 60) rfl) rfl) (CG (AR Cs rfl Eh rfl rfl) (Km (B5 (i:=1) EI rfl rfl rfl) (CG (Gs (enc:=mF) (xs:=(mset (mset (mset (mset ([]:List (Ak×Nat)) ([114,101,97,100]:Ak) 57) ([119,114,105,116,101]:Ak) 58) ([97,100,100]:Ak) 59) ([99,97,115]:Ak) 60)) (q:=59) M9 G1 rfl rfl (by rw[V5 hp];rfl)) (CG (Ay rfl) (Ol (G4 J9 (C0 state hj hD) rfl) (CG (AR Cs rfl GD rfl rfl) (Km (B5 (i:=1) IP rfl rfl rfl) (Ol (Mg Tryz.call59 (R4 F hj op.fArgs hd hG) rfl rfl) (CG (Ay rfl) (CG (AN rfl rfl) (CG (AN rfl rfl) (Uc (NL (cs:=[Am 0,rv (.slice none 0 0)]) IO rfl) (CG (AQ rfl) ?_)))))))))))));exact Pg
      refine Dy (H1:=[.blk b2 [Am 0,rv (.slice none 0 0)] 31,.blk b1 (Av op) 25,.blk (β 12) [Am 0,rv (.slice none 0 0)] 31]) [24,25,26,27,28,29,30,31,32,23,33,34,10,9,0,3,5] ?_;generalize β 12=hk;refine AG (i:=2) BA Aa Aa Aa (Bh.c Aa) Aa Aa (cs':=[Am hd.2.fErr,AL 4 (Au Ac hd.2.fValue)]) Aa (H':=[.blk b2 [Am 0,rv (.slice none 0 0)] 31,.blk b1 (Av op) 25,.blk hk (A0 hd.2) 31]) Aa (A4 (A2 (C3 3 [5,9,10] [⟨[],AL 4 (Au Ac hd.1),none,none,none⟩,⟨[],Bc (A0 hd.2),none,none,none⟩,⟨[0],AL 4 (Au Ac hd.1),none,none,none⟩] ?_ (λβ=>?_))))
      ·refine CG (Ay Aa) (Km (Bf (i:=2) Dx BA Aa Aa Aa Aa) (CG (AQ Aa) ?_));exact Pg
      refine Dy (H1:=[.blk b2 [Am 0,rv (.slice none 0 0)] 31,.blk b1 (Av op) 25,.blk hk (A0 hd.2) 31]) [35,36,4,5,9,10] ?_;refine AG (i:=0) BA Aa Aa Aa (Bh.c Aa) Aa Aa (cs':=[Am hd.2.fErr,AL 4 (Au Ac hd.2.fValue)]) Aa (H':=[.blk b2 (A0 hd.2) 31,.blk b1 (Av op) 25,.blk hk (A0 hd.2) 31]) Aa (wa Aa (A4 (A8 ?_)));obtain rfl:=A9 hH;exact A7 (QC PD (AV Aa) (BX (i:=0) Dx BA Aa Aa Aa) (AV Aa)) (sS (sS (sS sN))) ⟨Aa,Aa⟩
     ·refine ck hC λhI hJ=>ob hJ λhl hK hL=>ob hL λhe hN hO=>C3 14 [0,3,5] [⟨[],PS (A1 mF (mset (mset (mset (mset ([]:List (Ak×Nat)) ([114,101,97,100]:Ak) 57) ([119,114,105,116,101]:Ak) 58) ([97,100,100]:Ak) 59) ([99,97,115]:Ak) 60)),none,none,none⟩,⟨[],rP b1 2,none,none,none⟩,⟨[1],rS op.fOp,none,none,none⟩,⟨[0,2],rv (.func (.func 60) #[] #[]),none,none,none⟩,⟨[],AL 4 (Au Ac state),none,none,none⟩,⟨[4],AL 4 (Au Ac hl),none,none,none⟩,⟨[],rP b1 3,none,none,none⟩,⟨[6],AL 1 (Au An op.fArgs),none,none,none⟩,⟨[3,5,7],CP [AL 4 (Au Ac he.1),Bc (A0 he.2)],none,none,none⟩,⟨[8],CP [AL 4 (Au Ac he.1),Bc (A0 he.2)],none,none,none⟩,⟨[9],AL 4 (Au Ac he.1),none,none,none⟩,⟨[9],Bc (A0 he.2),none,none,none⟩,⟨[],rv undef,some ([Am 0,rv (.slice none 0 0)],31),none,none⟩,⟨[10],AL 4 (Au Ac he.1),none,none,none⟩] ?_ (λβ=>?_)
      ·refine Ol (G4 Tryz.call38 (I9 (mset (mset (mset (mset ([]:List (Ak×Nat)) ([114,101,97,100]:Ak) 57) ([119,114,105,116,101]:Ak) 58) ([97,100,100]:Ak) 59) ([99,97,115]:Ak) 60) rfl) rfl) (CG (AR Cs rfl Eh rfl rfl) (Km (B5 (i:=1) EI rfl rfl rfl) (CG (Gs (enc:=mF) (xs:=(mset (mset (mset (mset ([]:List (Ak×Nat)) ([114,101,97,100]:Ak) 57) ([119,114,105,116,101]:Ak) 58) ([97,100,100]:Ak) 59) ([99,97,115]:Ak) 60)) (q:=60) M9 G1 rfl rfl (by rw[V5 hI];rfl)) (CG (Ay rfl) (Ol (G4 J9 (C0 state hl hK) rfl) (CG (AR Cs rfl GD rfl rfl) (Km (B5 (i:=1) IP rfl rfl rfl) (Ol (Mg Tryz.call60 (Ot F hl op.fArgs he hN) rfl rfl) (CG (Ay rfl) (CG (AN rfl rfl) (CG (AN rfl rfl) (Uc (NL (cs:=[Am 0,rv (.slice none 0 0)]) IO rfl) (CG (AQ rfl) ?_)))))))))))));exact Pg
      refine Dy (H1:=[.blk b2 [Am 0,rv (.slice none 0 0)] 31,.blk b1 (Av op) 25,.blk (β 12) [Am 0,rv (.slice none 0 0)] 31]) [24,25,26,27,28,29,30,31,32,23,33,34,10,9,0,3,5] ?_;generalize β 12=hm;refine AG (i:=2) BA Aa Aa Aa (Bh.c Aa) Aa Aa (cs':=[Am he.2.fErr,AL 4 (Au Ac he.2.fValue)]) Aa (H':=[.blk b2 [Am 0,rv (.slice none 0 0)] 31,.blk b1 (Av op) 25,.blk hm (A0 he.2) 31]) Aa (A4 (A2 (C3 3 [5,9,10] [⟨[],AL 4 (Au Ac he.1),none,none,none⟩,⟨[],Bc (A0 he.2),none,none,none⟩,⟨[0],AL 4 (Au Ac he.1),none,none,none⟩] ?_ (λβ=>?_))))
      ·refine CG (Ay Aa) (Km (Bf (i:=2) Dx BA Aa Aa Aa Aa) (CG (AQ Aa) ?_));exact Pg
      refine Dy (H1:=[.blk b2 [Am 0,rv (.slice none 0 0)] 31,.blk b1 (Av op) 25,.blk hm (A0 he.2) 31]) [35,36,4,5,9,10] ?_;refine AG (i:=0) BA Aa Aa Aa (Bh.c Aa) Aa Aa (cs':=[Am he.2.fErr,AL 4 (Au Ac he.2.fValue)]) Aa (H':=[.blk b2 (A0 he.2) 31,.blk b1 (Av op) 25,.blk hm (A0 he.2) 31]) Aa (wa Aa (A4 (A8 ?_)));obtain rfl:=A9 hO;exact A7 (QC PD (AV Aa) (BX (i:=0) Dx BA Aa Aa Aa) (AV Aa)) (sS (sS (sS sN))) ⟨Aa,Aa⟩
theorem Kr (F:Nat)(op:Ar)(r:Ar)(h:HV F op=some r):Fn Tryz.prog GE 48 [Bc (Av op)] [] (λR H=>R=Bc (Av r)∧H=[]):=by
 refine enter (n:=24) Tryz.func48 Aa Tryz.ntmps48 Aa (λw Z=>?_);unfold HV at h;refine Ap (BJ Aa Aa (λb1=>?_));refine BM (cs:=[rS ([]:Ak),rS ([]:Ak),rS ([]:Ak),rv (.slice none 0 0)]) Tryz.zeroValue25 Aa Aa (λb2=>?_);refine BF (vF Cs Aa GD (vL 1 IP Aa (wa Aa (BF (vF Cs Aa GD (BO (i:=1) GD Aa Aa (BZ Aa) Aa Aa (cs':=[rS op.fEntity,rS op.fID,rS op.fOp,rv (.slice none 0 0)]) Aa (H':=[.blk b2 [rS ([]:Ak),rS ([]:Ak),rS ([]:Ak),rv (.slice none 0 0)] 25,.blk b1 [rS op.fEntity,rS op.fID,rS op.fOp,rv (.slice none 0 0)] 25]) Aa (A4 (A2 (Ap (wm Aa (wv (Bl (ys:=op.fArgs) (enc:=An) Es Aa) (wv (r:=Am 0) (Ay Aa) (A4 (AX (WC.nilrow (e:=22) (sz:=1) (JI (H2:=[.blk b2 [rS ([]:Ak),rS ([]:Ak),rS ([]:Ak),rv (.slice none 0 0)] 25,.blk b1 [rS op.fEntity,rS op.fID,rS op.fOp,rv (.slice none 0 0)] 25,.row (.slice none 0 0                      ) 22 1 (Au An ([]:List (List Ab)))]) ((Aj (i:=1) Aa).trans (US _ ((Aj (i:=1) Aa).trans (US _ (UY _))))) (ob h λhj hk hl=>BP (S:=Nat×(Int×(List (List Ab)))×(Value)) (V:=((List (List Ab)))×(Value)) 0 (λσ=>BD (λσ=>Do op σ.1 σ.2) σ.1 σ.2.1=some hj) (λσ=>[(1,rP b1 0),(2,rP b2 0),(9,AL 1 (Au An op.fArgs)),(10,Am (op.fArgs.length:Int)),(11,Am σ.2.1.1)]) (λσ=>[.blk b2 [rS ([]:Ak),rS ([]:Ak),rS ([]:Ak),rv (.slice none 0 0)] 25,.blk b1 [rS op.fEntity,rS op.fID,rS op.fOp,rv σ.2.2] 25,.row σ.2.2 22 1 (Au An σ.2.1.2)]) (λσ=>σ.1) (F,(0,([]:List (List Ab))),(.slice none 0 0                      )) hk (AZ.c5 Aa Aa Aa Aa Aa AZ.nil) (sC (sC (sC sN))) (λσ=>Ht op σ.1=some r) (λσ=>[(1,rP b1 0),(2,rP b2 0)]) (λσ=>[.blk b2 [rS ([]:Ak),rS ([]:Ak),rS ([]:Ak),rv (.slice none 0 0)] 25,.blk b1 [rS op.fEntity,rS op.fID,rS op.fOp,rv σ.2] 25,.row σ.2 22 1 (Au An σ.1)]) ?_ ?_)))))))))))))))))
 ·rintro⟨h2,⟨he,hb⟩,v32⟩ hm;refine C4 (l':=[(1,rP b1 0),(2,rP b2 0),(9,AL 1 (Au An op.fArgs)),(10,Am (op.fArgs.length:Int)),(11,Am he)]) (H':=[.blk b2 [rS ([]:Ak),rS ([]:Ak),rS ([]:Ak),rv (.slice none 0 0)] 25,.blk b1 [rS op.fEntity,rS op.fID,rS op.fOp,rv v32] 25,.row v32 22 1 (Au An hb)]) Aa Aa ?_;obtain⟨hn,rfl,t51,hf,hi⟩:=DR hm;replace hf:Do op he hb=some t51:=hf;unfold Do at hf;refine Ap (wv (E8 Aa Aa) (A4 (A2 (cz hf Aa (λho hp=>?_) (λho hq=>?_)))))
  ·refine AD (Be (A2 (AX (Ap (ck hp λhr hs=>wv (By (enc:=An) (ys:=op.fArgs) Es DW Aa Aa hr) (wv (Bs Gh Aa Aa) (wa Aa (A4 (ob hs λha ht hu=>C3 5 [1,2,5,9,10,11] [⟨[],rP b1 3,none,none,none⟩,⟨[0],rv v32,none,none,none⟩,⟨[],AL 4 (Au Ac (Ae op.fArgs he)),none,none,none⟩,⟨[2],AL 4 (Au Ac ha),none,none,none⟩,⟨[3],AL 1 (Au An ([ha]:List (List Ab))),none,none,none⟩] ?_ (λβ=>?_))))))))))
   ·refine CG (AR Cs Aa GD Aa Aa) (Km (B5 (i:=1) IP Aa Aa Aa) (CG (Ay Aa) (Ol (G4 J9 (C0 (Ae op.fArgs he) ha ht) Aa) (Ol (KU (ys:=([ha]:List (List Ab))) (enc:=An) (css:=[[AL 4 (Au Ac ha)]]) (xs:=[.tmp 18]) Es DW Tryz.zeroValue22 Aa Aa Aa ⟨JV.one Aa (Up.refl _),trivial⟩ Aa Db Aa Aa) ?_))));exact Pg
   refine Dy (H1:=[.blk b2 [rS ([]:Ak),rS ([]:Ak),rS ([]:Ak),rv (.slice none 0 0)] 25,.blk b1 [rS op.fEntity,rS op.fID,rS op.fOp,rv v32] 25,.row v32 22 1 (Au An hb)]) [15,16,17,18,19,1,2,5,9,10,11] ?_;refine ck hu λhw hx=>Exists.elim TK λinf hinf=>DL (xs:=hb) (ys:=([ha]:List (List Ab))) (enc:=An) (i:=2) Es hinf.1 hinf.2.1 hinf.2.2.1 hinf.2.2.2 Aa Aa Aa Aa Aa (P5.z Aa Aa) Db JF hw Aa (λv64=>?_);refine vF Cs Aa GD (BO (i:=2) GD Aa Aa (I4 (i:=0) Aa) Aa Aa (cs':=[rS op.fEntity,rS op.fID,rS op.fOp,rv v64]) Aa (H':=[.row v64 22 1 (Au An (hb++([ha]:List (List Ab)))),.blk b2 [rS ([]:Ak),rS ([]:Ak),rS ([]:Ak),rv (.slice none 0 0)] 25,.blk b1 [rS op.fEntity,rS op.fID,rS op.fOp,rv v64] 25]) Aa (A5 (Bi (Be (AB (ck hx λhy hz=>wv (Cz Aa Aa hy) (wm Aa (A5 (C2 (H2:=[.blk b2 [rS ([]:Ak),rS ([]:Ak),rS ([]:Ak),rv (.slice none 0 0)] 25,.blk b1 [rS op.fEntity,rS op.fID,rS op.fOp,rv v64] 25,.row v64 22 1 (Au An (hb++([ha]:List (List Ab))))]) ((Aj (i:=1) Aa).trans (US _ ((Aj (i:=1) Aa).trans (US _ (UY _))))) ?_)))))))));have h0:=BQ hz hi;exact AO (AY (hn,(he+1,hb++([ha]:List (List Ab))),v64) ⟨h0,Vn _⟩ (AZ.c5 Aa Aa Aa Aa Aa AZ.nil) (sC (sC (sC sN))))
  ·refine BL (AE ?_);have h1:=CB hq hi hl;exact AE (B1 (AY (hb,v32) h1 (AZ.c Aa (AZ.c Aa AZ.nil)) (sC (sC (sC sN)))))
 ·rintro⟨hg,hd⟩ hh;refine DK (l':=[(1,rP b1 0),(2,rP b2 0)]) (H':=[.blk b2 [rS ([]:Ak),rS ([]:Ak),rS ([]:Ak),rv (.slice none 0 0)] 25,.blk b1 [rS op.fEntity,rS op.fID,rS op.fOp,rv hd] 25,.row hd 22 1 (Au An hg)]) Aa Aa ?_;replace hh:Ht op hg=some r:=hh;unfold Ht at hh;refine Bv (Be (Ap (wv (Bf (i:=1) Ii D5 Aa Aa Aa Aa) (AG (i:=0) D5 Aa Aa Aa ⟨(BZ Aa),(BZ Aa),(BZ Aa),(I4 (i:=2) Aa),trivial⟩ Aa Aa (cs':=[rS op.fEntity,rS op.fID,rS op.fOp,rv hd]) Aa (H':=[.blk b2 [rS op.fEntity,rS op.fID,rS op.fOp,rv hd] 25,.blk b1 [rS op.fEntity,rS op.fID,rS op.fOp,rv hd] 25,.row hd 22 1 (Au An hg)]) Aa (A4 (A8 (WK.freeze (i:=2) Aa (WK.upBlk (i:=1) (cs':=[rS op.fEntity,rS op.fID,rS op.fOp,AL 1 (Au An hg)]) Aa ⟨Up.refl _,Up.refl _,Up.refl _,Up.fact (i:=0) Aa,trivial⟩ ?_))))))));obtain rfl:=A9 hh;exact A7 (Ci Tryz.results48 (BX (i:=1) Ii D5 Aa Aa Aa)) (sS (sS (sS sN))) ⟨Aa,Aa⟩
theorem Jf (F:Nat)(c:Ai)(r:Ai)(h:D2 F c=some r):Fn Tryz.prog GE 45 [Bc (Af c)] [] (λR H=>R=Bc (Af r)∧H=[]):=by
 refine enter (n:=14) Tryz.func45 Aa Tryz.ntmps45 Aa (λw Z=>?_);unfold D2 at h;refine Ap (BJ Aa Aa (λb1=>?_));refine BM (cs:=[rS ([]:Ak),rS ([]:Ak),rS ([]:Ak),rv (.slice none 0 0),Am 0,rv (.slice none 0 0),Am 0,Am 0]) NO Aa Aa (λb2=>?_);refine BF (vF E6 Aa D5 (wv (Bf (i:=1) Ii D5 Aa Aa Aa Aa) (ob h λr3 e5 h4=>DI Tryz.call48 (Kr F c.fOp r3 e5) Aa (vF E6 Aa D5 (AG (i:=1) D5 Aa Aa Aa (Bh.c Aa) Aa Aa (cs':=[rS r3.fEntity,rS r3.fID,rS r3.fOp,AL 1 (Au An r3.fArgs),Am c.fAnswer.fErr,AL 4 (Au Ac c.fAnswer.fValue),Am c.fFrom,Am c.fTo]) Aa (H':=[.blk b2 [rS ([]:Ak),rS ([]:Ak),rS ([]:Ak),rv (.slice none 0 0),Am 0,rv (.slice none 0 0),Am 0,Am 0] 44,.blk b1 [rS r3.fEntity,rS r3.fID,rS r3.fOp,AL 1 (Au An r3.fArgs),Am c.fAnswer.fErr,AL 4 (Au Ac c.fAnswer.fValue),Am c.fFrom,Am c.fTo] 44]) Aa (BF (vF E6 Aa BA (vF MA Aa DW (vL 1 Gh Aa (ob h4 λr6 e8 h7=>DI J9 (C0 c.fAnswer.fValue r6 e8) Aa (vF E6 Aa BA (vF MA Aa DW (BO (i:=1) DW Aa Aa (BZ Aa) Aa Aa (cs':=[rS r3.fEntity,rS r3.fID,rS r3.fOp,AL 1 (Au An r3.fArgs),Am c.fAnswer.fErr,AL 4 (Au Ac r6),Am c.fFrom,Am c.fTo]) Aa (H':=[.blk b2 [rS ([]:Ak),rS ([]:Ak),rS ([]:Ak),rv (.slice none 0 0),Am 0,rv (.slice none 0 0),Am 0,Am 0] 44,.blk b1 [rS r3.fEntity,rS r3.fID,rS r3.fOp,AL 1 (Au An r3.fArgs),Am c.fAnswer.fErr,AL 4 (Au Ac r6),Am c.fFrom,Am c.fTo] 44]) Aa (BF (wv (Bf (i:=1) JB DV Aa Aa Aa Aa) (AG (i:=0) DV Aa Aa Aa (Bh.c Aa) Aa Aa (cs':=[rS r3.fEntity,rS r3.fID,rS r3.fOp,AL 1 (Au An r3.fArgs),Am c.fAnswer.fErr,AL 4 (Au Ac r6),Am c.fFrom,Am c.fTo]) Aa (H':=[.blk b2 [rS r3.fEntity,rS r3.fID,rS r3.fOp,AL 1 (Au An r3.fArgs),Am c.fAnswer.fErr,AL 4 (Au Ac r6),Am c.fFrom,Am c.fTo] 44,.blk b1 [rS r3.fEntity,rS r3.fID,rS r3.fOp,AL 1 (Au An r3.fArgs),Am c.fAnswer.fErr,AL 4 (Au Ac r6),Am c.fFrom,Am c.fTo] 44]) Aa (A4 (A8 ?_))))))))))))))))));obtain rfl:=A9 h7;exact A7 (Ci Tryz.results45 (BX (i:=0) JB DV Aa Aa Aa)) (sS (sS sN)) ⟨Aa,Aa⟩
theorem Ry (F:Nat)(x:(List Ab))(y:(List Ab))(r:Bool)(h:Mk F x y=some r):Fn Tryz.prog GE 70 [AL 4 (Au Ac x),AL 4 (Au Ac y)] [] (λR H=>R=rB r∧H=[]):=by
 refine enter (n:=8) Tryz.func70 Aa Tryz.ntmps70 Aa (λw Z=>?_);unfold Mk at h;refine Ap (wa Aa (BF (wm Aa (wm Aa (ob h λr1 e3 h2=>DI Tryz.call71 (Lm F x y r1 e3) Aa (wa Aa (A4 (A8 ?_))))))));obtain rfl:=A9 h2;exact A7 (Ci Tryz.results70 (AV Aa)) sN ⟨Aa,Aa⟩
theorem RY (F:Nat)(a:(List (List Ab)))(b:(List (List Ab)))(r:Bool)(h:Ha F a b=some r):Fn Tryz.prog GE 69 [AL 1 (Au An a),AL 1 (Au An b),rv (.func (.func 70) #[] #[])] [] (λR H=>R=rB r∧H=[]):=by
 refine enter (n:=32) Tryz.func69 Aa Tryz.ntmps69 Aa (λw Z=>?_);unfold Ha at h;refine Ap (wa Aa (A4 (A2 (Ap (wm Aa (wv (Bl (ys:=a) (enc:=An) Es Aa) (wm Aa (wv (Bl (ys:=b) (enc:=An) Es Aa) (wv (Ey Aa Aa) (A4 (cz h Aa (λc1 h2=>?_) (λc1 h3=>?_))))))))))))
 ·refine Ap (wa Aa (A4 (A8 (Al ?_))));obtain rfl:=A9 h2;exact A7 (Ci Tryz.results69 (AV Aa)) sN ⟨Aa,Aa⟩
 ·refine AD (Be (A2 (Ap (wm Aa (wv (Bl (ys:=a) (enc:=An) Es Aa) (wv (r:=Am 0) (Ay Aa) (A4 (AX (ob h3 λhg hh hf=>BP (S:=Nat×(Int)×(Unit)) (V:=(Unit)×(Unit)) 0 (λσ=>BD (λσ=>Er F a b σ) σ.1 σ.2.1=some hg) (λσ=>[(1,AL 1 (Au An b)),(2,rv (.func (.func 70) #[] #[])),(15,AL 1 (Au An a)),(16,Am (a.length:Int)),(17,Am σ.2.1)]) (λσ=>[]) (λσ=>σ.1) (F,0,()) hh (AZ.c5 Aa Aa Aa Aa Aa AZ.nil) sN (λσ=>H6 =some r) (λσ=>[]) (λσ=>[]) ?_ ?_)))))))))
  ·rintro⟨h6,ha,⟨⟩⟩ hi;refine C4 (l':=[(1,AL 1 (Au An b)),(2,rv (.func (.func 70) #[] #[])),(15,AL 1 (Au An a)),(16,Am (a.length:Int)),(17,Am ha)]) (H':=[]) Aa Aa ?_;obtain⟨hj,rfl,hk,hb,he⟩:=DR hi;replace hb:Er F a b ha=some hk:=hb;unfold Er at hb;refine Ap (wv (E8 Aa Aa) (A4 (A2 (cz hb Aa (λhl hm=>?_) (λhl hn=>?_)))))
   ·refine AD (Be (A2 (AX (Ap (wm Aa (ck hm λho hp=>wv (By (enc:=An) (ys:=a) Es DW Aa Aa ho) (wv (Bs Gh Aa Aa) (wa Aa (wa Aa (BF (wm Aa (wm Aa (ck hp λhq hr=>wv (By (enc:=An) (ys:=b) Es DW Aa Aa hq) (wv (Bs Gh Aa Aa) (wa Aa (BF (wm Aa (wm Aa (wm Aa (ob hr λhs ht hu=>Sv (rs:=[AL 4 (Au Ac (Ae a ha)),AL 4 (Au Ac (Ae b ha))]) (Hin:=[]) (Hr:=[]) Tryz.call70 Aa Aa (UY _) (Ry F (Ae a ha) (Ae b ha) hs ht) Aa ?_))))))))))))))))))));rintro _ _ ⟨rfl,rfl⟩;refine wv (Cd Aa) (A4 (cz hu Aa (λhw hx=>?_) (λhw hy=>?_)))
    ·refine Ap (wa Aa (A4 (A8 (AM (Al (Al (B0 ?_)))))));have hz:=Cj hx he hf;refine AM (Al ?_);obtain rfl:=A9 hz;exact A7 (Ci Tryz.results69 (AV Aa)) sN ⟨Aa,Aa⟩
    ·refine AD (Bi (Be (AB (ck hy λh0 h1=>wv (Cz Aa Aa h0) (wm Aa (A5 ?_))))));have h4:=BQ h1 he;exact AO (AY (hj,ha+1,()) ⟨h4,Vn _⟩ (AZ.c5 Aa Aa Aa Aa Aa AZ.nil) sN)
   ·refine BL (AE ?_);have h5:=CB hn he hf;exact AE (B1 (AY ((),()) h5 AZ.nil sN))
  ·rintro⟨⟨⟩,⟨⟩⟩ hd;refine DK (l':=[]) (H':=[]) Aa Aa ?_;replace hd:H6 =some r:=hd;unfold H6 at hd;refine Bv (Be (Ap (wa Aa (A4 (A8 ?_)))));obtain rfl:=A9 hd;exact A7 (Ci Tryz.results69 (AV Aa)) sN ⟨Aa,Aa⟩
theorem SH (F:Nat)(a:Ar)(b:Ar)(r:Bool)(h:Np F a b=some r):Fn Tryz.prog GE 46 [Bc (Av a),Bc (Av b)] [] (λR H=>R=rB r∧H=[]):=by
 refine enter (n:=31) Tryz.func46 Aa Tryz.ntmps46 Aa (λw Z=>?_);unfold Np at h;refine Ap (BJ Aa Aa (λb1=>?_));refine BJ Aa Aa (λb2=>?_);refine wa Aa (A4 (ck h λg3 h4=>AW [(4,rB ((decide (a.fEntity=b.fEntity))&&((decide (a.fID=b.fID))&&((decide (a.fOp=b.fOp))&&(ov (Ha F a.fArgs b.fArgs))))))] [] ?_ ?_))
 ·refine AB (vF Cs Aa Eh (vL 1 EI Aa (vF Cs Aa Eh (vL 0 EI Aa (wv (HC Aa Aa) (wm Aa (Bb (decide (a.fEntity=b.fEntity)) (λc5=>?_) (λc5=>?_))))))))
  ·refine wo c5 (vF Cs Aa Eh (wo c5 (vL 1 EI Aa (wo c5 (vF Cs Aa Eh (wo c5 (vL 0 EI Aa (wo c5 (wv (HC Aa Aa) (Ij Aa c5 Aa (wm Aa (Bb (decide (a.fID=b.fID)) (λc6=>?_) (λc6=>?_)))))))))))))
   ·refine wo c6 (vF Cs Aa Eh (wo c6 (vL 1 EI Aa (wo c6 (vF Cs Aa Eh (wo c6 (vL 0 EI Aa (wo c6 (wv (HC Aa Aa) (Ij Aa c6 Aa (wm Aa (Bb (decide (a.fOp=b.fOp)) (λc7=>?_) (λc7=>?_)))))))))))))
    ·refine wo c7 (vF Cs Aa GD (wo c7 (vL 1 IP Aa (wo c7 (vF Cs Aa GD (wo c7 (vL 0 IP Aa (wo c7 (DI Tryz.call69 (RY F a.fArgs b.fArgs (ov (Ha F a.fArgs b.fArgs)) (Oi (GW (GW (GW g3 c5) c6) c7))) Aa (Ij Aa c7 Aa (wa Aa (A5 ?_))))))))))));exact Dc (And.intro c5 (And.intro c6 c7))
    ·refine wf c7 (wf c7 (wf c7 (wf c7 (wf c7 (wv (r:=rB false) (AP Aa c7 Aa) (wa Aa (A5 ?_)))))));exact Dc (And.intro c5 (And.intro c6 c7))
   ·refine wf c6 (wf c6 (wf c6 (wf c6 (wf c6 (wv (r:=rB false) (AP Aa c6 Aa) (wm Aa (wz Aa Aa (wz Aa Aa (wz Aa Aa (wz Aa Aa (wz Aa Aa (wv (r:=rB false) (AP (b:=false) Aa Aa Aa) (wa Aa (A5 ?_))))))))))))));exact Dc (And.intro c5 c6)
  ·refine wf c5 (wf c5 (wf c5 (wf c5 (wf c5 (wv (r:=rB false) (AP Aa c5 Aa) (wm Aa (wz Aa Aa (wz Aa Aa (wz Aa Aa (wz Aa Aa (wz Aa Aa (wv (r:=rB false) (AP (b:=false) Aa Aa Aa) (wm Aa (wz Aa Aa (wz Aa Aa (wz Aa Aa (wz Aa Aa (wz Aa Aa (wv (r:=rB false) (AP (b:=false) Aa Aa Aa) (wa Aa (A5 ?_)))))))))))))))))))));exact Dc c5
 refine A8 ?_;obtain rfl:=A9 h4;exact A7 (Ci Tryz.results46 (AV Aa)) sN ⟨Aa,Aa⟩
end Go.Proofs.YtfbmdidnlhifjaaGreatDoor.Q
namespace Go.Proofs.YtfbmdidnlhifjaaGreatDoor
open Go
set_option linter.unusedVariables false
structure AC where
 fTime:Int
 fL:(List Ai)
 deriving DecidableEq,Inhabited
structure Bd where
 fKind:Int
 fOp:Ar
 fNow:Int
 deriving DecidableEq,Inhabited
def Mc (op:Ak):Option (Int):=
 Bg (decide (op=([114,101,97,100]:Ak))) (some 0) (Bg (decide (op=([119,114,105,116,101]:Ak))) (some 1) (Bg (decide (op=([97,100,100]:Ak))) (some 1) (Bg (decide (op=([99,97,115]:Ak))) (some 2) (some (-1)))))
def GK (F:Nat)(op:Ar)(ha:Int):Option (Stp (Int) (Out (Int) (Unit))):=
 Bg (decide (ha<(op.fArgs.length:Int))) (Ba (BK ha (op.fArgs.length:Int))<|Bp (IX F (Ae op.fArgs ha)) λhb=>Bg (!decide (hb=0)) (some (.out (.ret hb))) (Ba (BB .i64 (ha+1))<|some (.next (ha+1)))) (some (.out (.go ())))
def MZ :Option (Int):=
 some 0
def I1 (F:Nat)(op:Ar):Option (Int):=
 Bp (Mc op.fOp) λr2=>Ba ((O4 F op.fEntity).isSome)<|Ba (imp (!(!(ov (O4 F op.fEntity)))) ((O4 F op.fID).isSome))<|Bg (((!(ov (O4 F op.fEntity)))||((!(ov (O4 F op.fID)))||(decide (r2<0))))) (some 4) (Bg (!decide ((op.fArgs.length:Int)=r2)) (some 7) (Bp (BD (λσ=>GK F op σ) F 0) (B9 λν=>MZ )))
def HM (F:Nat)(a:Ar)(b:Ar)(ha:Int):Option (Stp (Int) (Out (Bool) (Unit))):=
 Bg (decide (ha<(a.fArgs.length:Int))) (Ba (BK ha (a.fArgs.length:Int))<|Ba (BK ha (b.fArgs.length:Int))<|Bp (E9 F (Ae a.fArgs ha) (Ae b.fArgs ha)) λhb=>Bg (!hb) (some (.out (.ret false))) (Ba (BB .i64 (ha+1))<|some (.next (ha+1)))) (some (.out (.go ())))
def NZ :Option (Bool):=
 some true
def LV (F:Nat)(a:Ar)(b:Ar):Option (Bool):=
 Bg (((!decide (a.fEntity=b.fEntity))||((!decide (a.fID=b.fID))||((!decide (a.fOp=b.fOp))||(!decide ((a.fArgs.length:Int)=(b.fArgs.length:Int))))))) (some false) (Bp (BD (λσ=>HM F a b σ) F 0) (B9 λν=>NZ ))
def Md (F:Nat)(state:(List Ab))(n:(List Ab)):Option ((List Ab)×Ax):=
 Ba (BK 0 (state.length:Int))<|Ba (imp (!decide (((Ae state 0).fKind)=1)) (imp (!(!decide (((Ae state 0).fKind)=3))) (BK 0 (n.length:Int))))<|Ba (imp (!(!decide (((Ae state 0).fKind)=1))) (BK 0 (n.length:Int)))<|Bg ((bif !decide (((Ae state 0).fKind)=1) then((!decide (((Ae state 0).fKind)=3))||(!decide (((Ae n 0).fKind)=3))) else !decide (((Ae n 0).fKind)=3))) (some (state,(Ax.mk 7 ([]:List Ab)))) (Ba (BK 0 (n.length:Int))<|Ba (BB .i64 (((Ae state 0).fInt)+((Ae n 0).fInt)))<|Bp (T9 F (((Ae state 0).fInt)+((Ae n 0).fInt))) λha=>Bg (!decide (ha.2=0)) (some (state,(Ax.mk 8 ([]:List Ab)))) (some (ha.1,(Ax.mk 0 ha.1))))
def OW (F:Nat)(state:(List Ab))(op:Ar):Option ((List Ab)×Ax×Int):=
 Bp (I1 F op) λr3=>Bg (decide (r3=0)) (Bp (IX F state) λr8=>Bg (!decide (r8=0)) (some (([]:List Ab),(Ax.mk 0 ([]:List Ab)),r8)) (Bg (decide (op.fOp=([119,114,105,116,101]:Ak))) (Ba (BK 0 (op.fArgs.length:Int))<|Bp (OU) λhd=>some (Ae op.fArgs 0,(Ax.mk 0 hd),0)) (Bg (decide (op.fOp=([97,100,100]:Ak))) (Ba (BK 0 (op.fArgs.length:Int))<|Bp (Md F state (Ae op.fArgs 0)) λha=>some (ha.1,ha.2,0)) (Bg (decide (op.fOp=([99,97,115]:Ak))) (Ba (BK 0 (op.fArgs.length:Int))<|Bp (E9 F state (Ae op.fArgs 0)) λhe=>Bg (he) (Ba (BK 1 (op.fArgs.length:Int))<|Bp (OX true) λhf=>some (Ae op.fArgs 1,(Ax.mk 0 hf),0)) (Bp (OX false) λhg=>some (state,(Ax.mk 0 hg),0))) (some (state,(Ax.mk 0 state),0)))))) (Bg (!decide (r3=0)) (some (([]:List Ab),(Ax.mk 0 ([]:List Ab)),r3)) (Bg (decide (op.fOp=([119,114,105,116,101]:Ak))) (Ba (BK 0 (op.fArgs.length:Int))<|Bp (OU) λhh=>some (Ae op.fArgs 0,(Ax.mk 0 hh),0)) (Bg (decide (op.fOp=([97,100,100]:Ak))) (Ba (BK 0 (op.fArgs.length:Int))<|Bp (Md F state (Ae op.fArgs 0)) λhb=>some (hb.1,hb.2,0)) (Bg (decide (op.fOp=([99,97,115]:Ak))) (Ba (BK 0 (op.fArgs.length:Int))<|Bp (E9 F state (Ae op.fArgs 0)) λhi=>Bg (hi) (Ba (BK 1 (op.fArgs.length:Int))<|Bp (OX true) λhj=>some (Ae op.fArgs 1,(Ax.mk 0 hj),0)) (Bp (OX false) λhk=>some (state,(Ax.mk 0 hk),0))) (some (state,(Ax.mk 0 state),0))))))
def HQ (ha:Int)(hb:(List Ab)):Option (Stp ((List Ab)×Int) (Out ((List Ab)) ((List Ab)))):=
 Ba (BB .i64 (ha+1))<|some (.next (hb,ha+1))
def DC (F:Nat)(d:AC)(e:Ak)(hb:(List Ab))(ha:Int):Option (Stp ((List Ab)×Int) (Out ((List Ab)) ((List Ab)))):=
 Bg (decide (ha<(d.fL.length:Int))) (Ba (BK ha (d.fL.length:Int))<|Bg (((decide ((((Ae d.fL ha).fOp).fEntity)=e))&&(decide (0≤((Ae d.fL ha).fTo))))) (Bp (OW F hb ((Ae d.fL ha).fOp)) λhd=>HQ ha hd.1) (HQ ha hb)) (some (.out (.go hb)))
def HP (ha:(List Ab)):Option ((List Ab)):=
 some ha
def Ma (F:Nat)(d:AC)(e:Ak):Option ((List Ab)):=
 Bp (OU) λr1=>Bp (BD (λσ=>DC F d e σ.1 σ.2) F (r1,0)) (B9 λν=>HP ν)
def HR (ha:Int)(hb:(List Ak)):Option (Stp ((List Ak)×Int) (Out ((List Ak)) ((List Ak)))):=
 Ba (BB .i64 (ha+1))<|some (.next (hb,ha+1))
def Ew (F:Nat)(d:AC)(hb:(List Ak))(ha:Int):Option (Stp ((List Ak)×Int) (Out ((List Ak)) ((List Ak)))):=
 Bg (decide (ha<(d.fL.length:Int))) (Ba (BK ha (d.fL.length:Int))<|Bp (RP F hb (((Ae d.fL ha).fOp).fEntity)) λhd=>Bg (!hd) (Ba (Lb 16 (hb.length+([((Ae d.fL ha).fOp).fEntity]:List Ak).length))<|Bp (KA F (hb++([((Ae d.fL ha).fOp).fEntity]:List Ak))) λhe=>HR ha he) (HR ha hb)) (some (.out (.go hb)))
def Od (ha:(List Ak)):Option ((List Ak)):=
 some ha
def Mb (F:Nat)(d:AC):Option ((List Ak)):=
 Bp (BD (λσ=>Ew F d σ.1 σ.2) F (([]:List Ak),0)) (B9 λν=>Od ν)
def EB (ha:Int)(hb:Bool):Option (Stp (Bool×Int) (Out (Int×AC) (Bool))):=
 Ba (BB .i64 (ha+1))<|some (.next (hb,ha+1))
def EA (d:AC)(op:Ar)(now:Int)(ha:Bool):Option (Int×AC):=
 Bg (ha) (some (3,d)) (Ba (Lb 120 (d.fL.length+([(Ai.mk op (Ax.mk 0 ([]:List Ab)) now (-1))]:List Ai).length))<|some (0,(AC.mk now (d.fL++([(Ai.mk op (Ax.mk 0 ([]:List Ab)) now (-1))]:List Ai)))))
def BY (F:Nat)(d:AC)(op:Ar)(now:Int)(hb:Bool)(ha:Int):Option (Stp (Bool×Int) (Out (Int×AC) (Bool))):=
 Bg (decide (ha<(d.fL.length:Int))) (Ba (BK ha (d.fL.length:Int))<|Bg (decide ((((Ae d.fL ha).fOp).fID)=op.fID)) (Bp (LV F ((Ae d.fL ha).fOp) op) λhd=>Bg (!hd) (some (.out (.ret (19,d)))) (some (.out (.ret (0,(AC.mk now d.fL)))))) (Bg (hb) (EB ha true) (EB ha (decide ((((Ae d.fL ha).fOp).fEntity)=op.fEntity))))) (some (.out (.go hb)))
def J0 (F:Nat)(d:AC)(op:Ar)(now:Int)(ha:Bool):Option (Int×AC):=
 Bg (decide (256≤(d.fL.length:Int))) (EA d op now true) (Bg (!ha) (Bp (Mb F d) λhb=>EA d op now (decide (256≤(hb.length:Int)))) (EA d op now false))
def DN (F:Nat)(d:AC)(op:Ar)(now:Int):Option (Int×AC):=
 Bp (I1 F op) λr2=>Bg (!decide (r2=0)) (some (r2,d)) (Bg (((decide (now<0))||(decide (1073741824<now)))) (some (2,d)) (Bg (decide (now<d.fTime)) (some (11,d)) (Bp (BD (λσ=>BY F d op now σ.1 σ.2) F (false,0)) (B9 λν=>J0 F d op now ν))))
def Cp (F:Nat)(d:AC)(e:Ak)(now:Int)(r7:(List Ab))(ha:Int):Option (Stp (Int) (Out (Ai×Bool×AC) (Unit))):=
 Bg (decide (ha<(d.fL.length:Int))) (Ba (BK ha (d.fL.length:Int))<|Bg (((decide ((((Ae d.fL ha).fOp).fEntity)=e))&&(decide (((Ae d.fL ha).fTo)<0)))) (Bp (OW F r7 ((Ae d.fL ha).fOp)) λhe=>NI (List.set d.fL (Int.toNat ha) (Ai.mk ((Ae d.fL ha).fOp) he.2.1 ((Ae d.fL ha).fFrom) ((Ae d.fL ha).fTo))) λhd=>Ba (BK ha (hd.length:Int))<|NI (List.set hd (Int.toNat ha) (Ai.mk ((Ae hd ha).fOp) ((Ae hd ha).fAnswer) ((Ae hd ha).fFrom) now)) λhb=>Ba (BK ha (hb.length:Int))<|some (.out (.ret ((Ai.mk ((Ae hb ha).fOp) ((Ae hb ha).fAnswer) ((Ae hb ha).fFrom) ((Ae hb ha).fTo)),true,(AC.mk now hb))))) (Ba (BB .i64 (ha+1))<|some (.next (ha+1)))) (some (.out (.go ())))
def PT (d:AC):Option (Ai×Bool×AC):=
 some ((Ai.mk (Ar.mk ([]:Ak) ([]:Ak) ([]:Ak) ([]:List (List Ab))) (Ax.mk 0 ([]:List Ab)) 0 0),false,d)
def HO (F:Nat)(d:AC)(e:Ak)(now:Int):Option (Ai×Bool×AC):=
 Bg (((decide (now<0))||((decide (1073741824<now))||(decide (now<d.fTime))))) (some ((Ai.mk (Ar.mk ([]:Ak) ([]:Ak) ([]:Ak) ([]:List (List Ab))) (Ax.mk 0 ([]:List Ab)) 0 0),false,d)) (Bp (Ma F d e) λr7=>Bp (BD (λσ=>Cp F d e now r7 σ) F 0) (B9 λν=>PT d ))
def K5 (id:Ak)(n:Int):Option (Ar):=
 some (Ar.mk ([120]:Ak) id ([97,100,100]:Ak) ([([(Ab.mk 3 n ([]:Ak) 0)]:List Ab)]:List (List Ab)))
def Hz (a:(List Ak))(b:(List Ak))(ha:Int):Option (Stp (Int) (Out (Bool) (Unit))):=
 Bg (decide (ha<(a.length:Int))) (Ba (BK ha (a.length:Int))<|Ba (BK ha (b.length:Int))<|Bg (!decide ((Ae a ha)=(Ae b ha))) (some (.out (.ret false))) (Ba (BB .i64 (ha+1))<|some (.next (ha+1)))) (some (.out (.go ())))
def Hy :Option (Bool):=
 some true
def Ml (F:Nat)(a:(List Ak))(b:(List Ak)):Option (Bool):=
 Bg (!decide ((a.length:Int)=(b.length:Int))) (some false) (Bp (BD (λσ=>Hz a b σ) F 0) (B9 λν=>Hy ))
def Eq (v:(List Ab))(ha:Int):Option (Stp (Int) (Out (Bool) (Unit))):=
 Bg (decide (ha<(v.length:Int))) (Ba (BK ha (v.length:Int))<|Bg (decide (250<(((Ae v ha).fStr).length:Int))) (some (.out (.ret false))) (Ba (BB .i64 (ha+1))<|some (.next (ha+1)))) (some (.out (.go ())))
def H3 :Option (Bool):=
 some true
def K1 (F:Nat)(v:(List Ab)):Option (Bool):=
 Bg (decide (100<(v.length:Int))) (some false) (Bp (BD (λσ=>Eq v σ) F 0) (B9 λν=>H3 ))
def Ep (F:Nat)(op:Ar)(ha:Int):Option (Stp (Int) (Out (Bool) (Unit))):=
 Bg (decide (ha<(op.fArgs.length:Int))) (Ba (BK ha (op.fArgs.length:Int))<|Bp (K1 F (Ae op.fArgs ha)) λhb=>Bg (!hb) (some (.out (.ret false))) (Ba (BB .i64 (ha+1))<|some (.next (ha+1)))) (some (.out (.go ())))
def H0 :Option (Bool):=
 some true
def K0 (F:Nat)(op:Ar):Option (Bool):=
 Bg (((decide (100<(op.fEntity.length:Int)))||((decide (100<(op.fID.length:Int)))||((decide (100<(op.fOp.length:Int)))||(decide (4<(op.fArgs.length:Int))))))) (some false) (Bp (BD (λσ=>Ep F op σ) F 0) (B9 λν=>H0 ))
def Ds (F:Nat)(l:(List Bd))(ha:Int):Option (Stp (Int) (Out (Bool) (Unit))):=
 Bg (decide (ha<(l.length:Int))) (Ba (BK ha (l.length:Int))<|Bp (K0 F ((Ae l ha).fOp)) λhb=>Bg (!hb) (some (.out (.ret false))) (Ba (BB .i64 (ha+1))<|some (.next (ha+1)))) (some (.out (.go ())))
def EG :Option (Bool):=
 some true
def D3 (F:Nat)(l:(List Bd)):Option (Bool):=
 Bg (decide (50<(l.length:Int))) (some false) (Bp (BD (λσ=>Ds F l σ) F 0) (B9 λν=>EG ))
def Cm (F:Nat)(a:Ax)(b:Ax):Option (Bool):=
 Ba (imp (decide (a.fErr=b.fErr)) ((E9 F a.fValue b.fValue).isSome))<|some ((decide (a.fErr=b.fErr))&&(ov (E9 F a.fValue b.fValue)))
end Go.Proofs.YtfbmdidnlhifjaaGreatDoor
