/-
  Texts of the proof, put together: WVd, PVe, WVe, PVf, WVf, PH, PFr, QH, QY, QU, QW, QT, QJ, QX, WFr, PM, PNa, QN, QM, QI, QV, QL, PI, QF, Q6, Q9.
-/
import Derived.Test.YtogdediiodmnbaaGreatDoorEB2
import Derived.Laws.StructEq
import GoSem.Op.IntBits
import GoSem.Op.Shift
import Derived.Laws.Cover3
import Derived.ScopeJumps
import Derived.Laws.CopyRow
import Derived.Laws.IdiomCopy
import Derived.Laws.OwnMore
import Derived.MapKept
import Derived.Maps.RangeRun
namespace Go.Proofs.YtogdediiodmnbaaGreatDoor.Q
open Go Go.RowKit
set_option linter.unusedVariables false
set_option linter.unusedSimpArgs false
set_option maxRecDepth 100000
set_option maxHeartbeats 4000000
theorem HE:∃inf,Tryz.prog.info? 63=some inf∧inf.zero=some (.agg #[(.int .i64 0),(.int .i64 0),(.string ⟨#[]⟩),(.int .i64 0)])∧inf.size=4∧inf.bytes=40:=by
  have key:(Tryz.prog.info? 63).map (λi=>(i.zero,i.size,i.bytes))=some (some (.agg #[(.int .i64 0),(.int .i64 0),(.string ⟨#[]⟩),(.int .i64 0)]),4,40):=by kernel_rfl
  obtain⟨inf,h1,h2⟩:=Option.map_eq_some_iff.1 key;simp only[Prod.mk.injEq] at h2;exact⟨inf,h1,h2.1,h2.2.1,h2.2.2⟩
theorem DO {n:Nat}{c:Cx}{l:Fr}{H:List Ent}{d:Option Nat}{ty:TypeId}{pos:String}{af:Array Edge}{g:Option (Nat×Bool)}{x0:Operand}{r0:Rp}(h0:ev l x0=some r0)(u0:r0.one=true){x1:Operand}{r1:Rp}(h1:ev l x1=some r1)(u1:r1.one=true):Bn Tryz.prog n c l H { dst:=d,op:=.build 63 #[(0,x0),(1,x1)],type:=ty,pos:=pos,after:=af,guard:=g } (Bg [r0,r1,rS ([]:Ah),rI .i64 0]):=λa w Z ha _=>by
  have p0:=ha.ev h0;have c0:=B1 (r0.hone u0 Z _ p0);have p1:=ha.ev h1;have c1:=B1 (r1.hone u1 Z _ p1);have hb:Tryz.prog.built 63 [(0,a.eval x0),(1,a.eval x1)]=some #[a.eval x0,a.eval x1,(.string ⟨#[]⟩),(.int .i64 0)]:=by
    rw[Or];generalize a.eval x0=v0 at *;generalize a.eval x1=v1 at *;simp[Instr.fill,c0,c1]
  refine⟨.agg #[a.eval x0,a.eval x1,(.string ⟨#[]⟩),(.int .i64 0)],⟨[a.eval x0,a.eval x1,(.string ⟨#[]⟩),(.int .i64 0)],rfl,p0,p1,rfl,rfl,trivial⟩,?_⟩;have:=run_build w 63 #[(0,a.eval x0),(1,a.eval x1)] _ (by simpa using hb);simp[execOp,this]
theorem IW {n:Nat}{c:Cx}{l:Fr}{H:List Ent}{d:Option Nat}{ty:TypeId}{pos:String}{af:Array Edge}{g:Option (Nat×Bool)}{x0:Operand}{r0:Rp}(h0:ev l x0=some r0)(u0:r0.one=true){x2:Operand}{r2:Rp}(h2:ev l x2=some r2)(u2:r2.one=true):Bn Tryz.prog n c l H { dst:=d,op:=.build 63 #[(0,x0),(2,x2)],type:=ty,pos:=pos,after:=af,guard:=g } (Bg [r0,rI .i64 0,r2,rI .i64 0]):=λa w Z ha _=>by
  have p0:=ha.ev h0;have c0:=B1 (r0.hone u0 Z _ p0);have p2:=ha.ev h2;have c2:=B1 (r2.hone u2 Z _ p2);have hb:Tryz.prog.built 63 [(0,a.eval x0),(2,a.eval x2)]=some #[a.eval x0,(.int .i64 0),a.eval x2,(.int .i64 0)]:=by
    rw[Or];generalize a.eval x0=v0 at *;generalize a.eval x2=v2 at *;simp[Instr.fill,c0,c2]
  refine⟨.agg #[a.eval x0,(.int .i64 0),a.eval x2,(.int .i64 0)],⟨[a.eval x0,(.int .i64 0),a.eval x2,(.int .i64 0)],rfl,p0,rfl,p2,rfl,trivial⟩,?_⟩;have:=run_build w 63 #[(0,a.eval x0),(2,a.eval x2)] _ (by simpa using hb);simp[execOp,this]
theorem UE (parts:List (Nat×Value)):Tryz.prog.built 142 parts=Instr.fill (λi=>(#[(0,1),(1,1),(2,1),(3,1)]:Array (Nat×Nat))[i]?) #[(.string ⟨#[]⟩),(.int .i64 0),((.slice none 0 0)),(.bool false)] parts:=by kernel_rfl
theorem Od {n:Nat}{c:Cx}{l:Fr}{H:List Ent}{d:Option Nat}{ty:TypeId}{pos:String}{af:Array Edge}{g:Option (Nat×Bool)}{x0:Operand}{r0:Rp}(h0:ev l x0=some r0)(u0:r0.one=true):Bn Tryz.prog n c l H { dst:=d,op:=.build 142 #[(0,x0)],type:=ty,pos:=pos,after:=af,guard:=g } (Bg [r0,rI .i64 0,rv (.slice none 0 0),rB false]):=λa w Z ha _=>by
  have p0:=ha.ev h0;have c0:=B1 (r0.hone u0 Z _ p0);have hb:Tryz.prog.built 142 [(0,a.eval x0)]=some #[a.eval x0,(.int .i64 0),((.slice none 0 0)),(.bool false)]:=by
    rw[UE];generalize a.eval x0=v0 at *;simp[Instr.fill,c0]
  refine⟨.agg #[a.eval x0,(.int .i64 0),((.slice none 0 0)),(.bool false)],⟨[a.eval x0,(.int .i64 0),((.slice none 0 0)),(.bool false)],rfl,p0,rfl,rfl,rfl,trivial⟩,?_⟩;have:=run_build w 142 #[(0,a.eval x0)] _ (by simpa using hb);simp[execOp,this]
theorem ML (s:Ah)(p:Ah)(r:Bool)(h:G6 s p=some r):Fn Tryz.prog GE 181 [rS s,rS p] [] (λR H=>R=rB r∧H=[]):=by
 refine enter (n:=18) Tryz.func181 Aa Tryz.ntmps181 Aa (λw Z=>?_);refine Be (l':=[(0,rS s),(1,rS p)]) (H':=[]) Aa Aa ?_;unfold G6 at h;refine Al (wv (r:=rB false) (Ae Aa) (Av ?_));obtain⟨g1,h2⟩:=A8 h;refine AX [(4,rB ((decide ((p.length:Int)≤(s.length:Int)))&&(decide ((List.take (Int.toNat (p.length:Int)) s)=p))))] [] ?_ ?_
 ·refine At (wm Aa (wv (BC CC Aa) (wm Aa (wv (BC CC Aa) (wv (K6 Aa Aa) (wm Aa (Bb (decide ((p.length:Int)≤(s.length:Int))) (λc3=>?_) (λc3=>?_))))))))
  ·refine wo c3 (wm Aa (wo c3 (wm Aa (wo c3 (wv (BC CC Aa) (wo c3 (wv (Jo CC Aa Aa (GH g1 c3)) (wo c3 (wm Aa (wo c3 (wv (Hk Aa Aa) (Jx Aa c3 Aa (wa Aa (Aw ?_))))))))))))));exact CW c3
  ·refine wf c3 (wf c3 (wf c3 (wf c3 (wf c3 (wf c3 (wv (r:=rB false) (AP (b:=decide ((p.length:Int)≤(s.length:Int))) Aa c3 Aa) (wa Aa (Aw ?_))))))));exact CW c3
 refine A1 ?_;obtain rfl:=A2 h2;exact A0 (Ce Tryz.results181 (AO Aa)) sN ⟨Aa,Aa⟩
theorem Lg (s:Ah)(p:Ah)(r:Bool)(h:Ge s p=some r):Fn Tryz.prog GE 161 [rS s,rS p] [] (λR H=>R=rB r∧H=[]):=by
 refine enter (n:=8) Tryz.func161 Aa Tryz.ntmps161 Aa (λw Z=>?_);refine Be (l':=[(0,rS s),(1,rS p)]) (H':=[]) Aa Aa ?_;unfold Ge at h;refine Al (wv (r:=rB false) (Ae Aa) (By (wm Aa (wm Aa ?_))));obtain⟨r1,e3,h2⟩:=AM h;refine D9 Tryz.call181 (ML s p r1 e3) Aa (wa Aa (Av (A1 ?_)));obtain rfl:=A2 h2;exact A0 (Ce Tryz.results161 (AO Aa)) sN ⟨Aa,Aa⟩
theorem Db (ha:Nat)(hb:Value)(q:Ao)(s:Ah)(r:Bool×Ao)(h:Dt q s=some r):Fn Tryz.prog GE 124 [rv (.pointer (some ⟨ha,0,none⟩)),rS s] [.blk ha [rS q.fS,rI .i64 q.fAt,rv hb,rB q.fGreat] 142,.row hb 63 4 (List.map Ac q.fCells)] (λR H=>∃w0_2:Value,R=rB r.1∧H=[.blk ha [rS r.2.fS,rI .i64 r.2.fAt,rv w0_2,rB r.2.fGreat] 142,.row w0_2 63 4 (List.map Ac r.2.fCells)]):=by
 refine enter (n:=26) Tryz.func124 Aa Tryz.ntmps124 Aa (λw Z=>?_);refine Be (l':=[(0,rv (.pointer (some ⟨ha,0,none⟩))),(1,rS s)]) (H':=[.blk ha [rS q.fS,rI .i64 q.fAt,rv hb,rB q.fGreat] 142,.row hb 63 4 (List.map Ac q.fCells)]) Aa Aa ?_;unfold Dt at h;refine Al (wv (r:=rB false) (Ae Aa) (Av (As (As ?_))));obtain⟨g1,h2⟩:=A8 h;obtain⟨r3,e5,h4⟩:=AM h2;refine CD [0,1] [⟨[],rv (.pointer (some ⟨ha,0,none⟩)),0⟩,⟨[0],rv (.pointer (some ⟨ha,0,none⟩)),0⟩,⟨[1],rv (.pointer (some ⟨ha,0,none⟩)),0⟩,⟨[2],rS q.fS,1⟩,⟨[],rv (.pointer (some ⟨ha,0,none⟩)),0⟩,⟨[4],rv (.pointer (some ⟨ha,0,none⟩)),0⟩,⟨[5],rv (.pointer (some ⟨ha,1,none⟩)),0⟩,⟨[6],rI .i64 q.fAt,1⟩,⟨[3,7],rS (List.drop (Int.toNat q.fAt) q.fS),0⟩,⟨[],rS s,0⟩,⟨[8,9],rB r3,0⟩,⟨[10],rB (!r3),0⟩] [16,0,1] ?_ ?_
 ·refine oq (Aq Aa) (oq (Ar Aa) (oq (Ad Bx Aa CM Aa Aa) (of (Au (i:=0) Dk Aa Aa Aa) (oq (Aq Aa) (oq (Ar Aa) (oq (Ad Bx Aa C4 Aa Aa) (of (Au (i:=0) D8 Aa Aa Aa) (oq (DY CC Aa Aa g1) (oq (Aq Aa) (CU Aa (λH=>G8 Tryz.call161 (Lg (List.drop (Int.toNat q.fAt) q.fS) s r3 e5) Aa) ?_))))))))));refine oq (BT Aa) ?_;exact Cn
 refine AW (Az (b:=!r3) Aa (λc6=>?_) (λc6=>?_))
 ·have h7:=AK c6 h4;refine Al (wv (r:=rB false) (Ae Aa) (Av (A1 (Af ?_))));obtain rfl:=A2 h7;exact A0 (Ce Tryz.results124 (AO Aa)) (sC (sC sN)) ⟨hb,Aa,Aa⟩
 ·have h8:=AL c6 h4;refine A4 (AW (Al (wm Aa (wv (Ar Aa) (wv (Ad Bx Aa C4 Aa Aa) (wv (Au (i:=0) D8 Aa Aa Aa) (wm Aa (wv (BC CC Aa) ?_))))))));obtain⟨g9,hd⟩:=A8 h8;refine wv (BZ Aa Aa g9) (wv (Ar Aa) (wv (Ad Bx Aa C4 Aa Aa) (Bu (i:=0) C4 Aa Aa (BV Aa) Aa Aa (cs':=[rS q.fS,rI .i64 (q.fAt+(s.length:Int)),rv hb,rB q.fGreat]) Aa (H':=[.blk ha [rS q.fS,rI .i64 (q.fAt+(s.length:Int)),rv hb,rB q.fGreat] 142,.row hb 63 4 (List.map Ac q.fCells)]) Aa (By (wv (r:=rB true) (Ae Aa) (Av (A1 ?_)))))));obtain rfl:=A2 hd;exact A0 (Ce Tryz.results124 (AO Aa)) (sC (sC sN)) ⟨hb,Aa,Aa⟩
theorem QH (F:Nat)(ha:Nat)(hj:Value)(q:Ao)(r:Ah×Bool×Ao)(h:LJ F q=some r):Fn Tryz.prog GE 126 [rv (.pointer (some ⟨ha,0,none⟩))] [.blk ha [rS q.fS,rI .i64 q.fAt,rv hj,rB q.fGreat] 142,.row hj 63 4 (List.map Ac q.fCells)] (λR H=>∃w0_2:Value,R=C0 [rS r.1,rB r.2.1]∧H=[.blk ha [rS r.2.2.fS,rI .i64 r.2.2.fAt,rv w0_2,rB r.2.2.fGreat] 142,.row w0_2 63 4 (List.map Ac r.2.2.fCells)]):=by
 refine enter (n:=104) Tryz.func126 Aa Tryz.ntmps126 Aa (λw Z=>?_);refine Be (l':=[(0,rv (.pointer (some ⟨ha,0,none⟩)))]) (H':=[.blk ha [rS q.fS,rI .i64 q.fAt,rv hj,rB q.fGreat] 142,.row hj 63 4 (List.map Ac q.fCells)]) Aa Aa ?_;unfold LJ at h;refine Al (wv (r:=rS ([]:Ah)) (Ae Aa) (wv (r:=rB false) (Ae Aa) (Av (As (Al (wm Aa ?_))))));obtain⟨r1,e3,h2⟩:=AM h;refine EL (Hr:=[]) Gg (Db ha hj q ([34]:Ah) r1 e3) Aa (Yi _) Aa ?_;rintro _ _ ⟨v4,rfl,rfl⟩;refine wv (BT Aa) (Av (Az (b:=!r1.1) Aa (λc5=>?_) (λc5=>?_)))
 ·have h6:=AK c5 h2;refine Al (wv (r:=rS ([]:Ah)) (Ae Aa) (wv (r:=rB false) (Ae Aa) (Av (A1 (Af ?_)))));obtain rfl:=A2 h6;exact A0 (EP OB (AO Aa) (AO Aa)) (sC (sC sN)) ⟨v4,Aa,Aa⟩
 ·have h7:=AL c5 h2;refine A4 (AW (Al (wv (r:=rv (.slice none 0 0)) (Ae Aa) (Av (As (AY (WC.nilrow (e:=5) (sz:=1) (Iz (H2:=[.blk ha [rS r1.2.fS,rI .i64 r1.2.fAt,rv v4,rB r1.2.fGreat] 142,.row v4 63 4 (List.map Ac r1.2.fCells),.row (.slice none 0 0     ) 5 1 (List.map Bl ([]:List Int))]) ((Ai (i:=1) Aa).trans (Yh _ ((Ai (i:=1) Aa).trans (Yh _ (Yi _))))) ?_))))))));obtain⟨h5,h8,hm⟩:=AM h7;refine BJ (S:=Nat×((List Int)×Int)×(Value)) (V:=(Int)×(Unit)) 0 (λσ=>Ch (λσ=>DK r1 σ.1 σ.2) σ.1 σ.2.1=some h5) (λσ=>[(0,rv (.pointer (some ⟨ha,0,none⟩))),(4,rv σ.2.2)]) (λσ=>[.blk ha [rS r1.2.fS,rI .i64 σ.2.1.2,rv v4,rB r1.2.fGreat] 142,.row v4 63 4 (List.map Ac r1.2.fCells),.row σ.2.2 5 1 (List.map Bl σ.2.1.1)]) (λσ=>σ.1) (F,(([]:List Int),r1.2.fAt),(.slice none 0 0     )) h8 (AT.c Aa (AT.c Aa AT.nil)) (sC (sC (sC sN))) (λσ=>Hd r1 σ.1=some r) (λσ=>[]) (λσ=>[.blk ha [rS r1.2.fS,rI .i64 σ.1,rv v4,rB r1.2.fGreat] 142,.row v4 63 4 (List.map Ac r1.2.fCells)]) ?_ ?_
  ·rintro⟨ga,⟨hf,hb⟩,hg⟩ h9;refine Be (l':=[(0,rv (.pointer (some ⟨ha,0,none⟩))),(4,rv hg)]) (H':=[.blk ha [rS r1.2.fS,rI .i64 hb,rv v4,rB r1.2.fGreat] 142,.row v4 63 4 (List.map Ac r1.2.fCells),.row hg 5 1 (List.map Bl hf)]) Aa Aa ?_;obtain⟨hA,rfl,hq,hk,hl⟩:=Dh h9;replace hk:DK r1 hf hb=some hq:=hk;unfold DK at hk;refine As (As (CD [0,4] [⟨[],rv (.pointer (some ⟨ha,0,none⟩)),0⟩,⟨[0],rv (.pointer (some ⟨ha,0,none⟩)),0⟩,⟨[1],rv (.pointer (some ⟨ha,1,none⟩)),0⟩,⟨[2],rI .i64 hb,1⟩,⟨[],rv (.pointer (some ⟨ha,0,none⟩)),0⟩,⟨[4],rv (.pointer (some ⟨ha,0,none⟩)),0⟩,⟨[5],rv (.pointer (some ⟨ha,0,none⟩)),0⟩,⟨[6],rS r1.2.fS,1⟩,⟨[7],rI .i64 (r1.2.fS.length:Int),0⟩,⟨[3,8],rB (decide (hb<(r1.2.fS.length:Int))),0⟩] [9,10,11,12,13,14,15,16,17,18,0,4] ?_ ?_))
   ·refine oq (Aq Aa) (oq (Ar Aa) (oq (Ad Bx Aa C4 Aa Aa) (of (Au (i:=0) D8 Aa Aa Aa) (oq (Aq Aa) (oq (Ar Aa) (oq (Ad Bx Aa CM Aa Aa) (of (Au (i:=0) Dk Aa Aa Aa) (oq (BC CC Aa) (oq (Dn Aa Aa) ?_)))))))));exact Cn
   refine AW (Az (b:=decide (hb<(r1.2.fS.length:Int))) Aa (λhr=>?_) (λhr=>?_))
   ·have hB:=AK hr hk;refine A4 (AW (AY (As ?_)));obtain⟨hC,hD⟩:=A8 hB;refine CD [0,4,9,10,11,12,13,14,15,16,17] [⟨[],rv (.pointer (some ⟨ha,0,none⟩)),0⟩,⟨[0],rv (.pointer (some ⟨ha,0,none⟩)),0⟩,⟨[1],rv (.pointer (some ⟨ha,0,none⟩)),0⟩,⟨[2],rS r1.2.fS,1⟩,⟨[],rv (.pointer (some ⟨ha,0,none⟩)),0⟩,⟨[4],rv (.pointer (some ⟨ha,0,none⟩)),0⟩,⟨[5],rv (.pointer (some ⟨ha,1,none⟩)),0⟩,⟨[6],rI .i64 hb,1⟩,⟨[3,7],rI .u8 (Br r1.2.fS hb),0⟩,⟨[8],rI .u8 (Br r1.2.fS hb),0⟩] [19,20,21,22,23,24,25,26,27,5,0,4,9,10,11,12,13,14,15,16,17] ?_ ?_
    ·refine oq (Aq Aa) (oq (Ar Aa) (oq (Ad Bx Aa CM Aa Aa) (of (Au (i:=0) Dk Aa Aa Aa) (oq (Aq Aa) (oq (Ar Aa) (oq (Ad Bx Aa C4 Aa Aa) (of (Au (i:=0) D8 Aa Aa Aa) (oq (BA CC Aa Aa hC) (oq (Ae Aa) ?_)))))))));exact Cn
    refine AW (Al (wm Aa (wv (Ar Aa) (wv (Ad Bx Aa C4 Aa Aa) (wv (Au (i:=0) D8 Aa Aa Aa) ?_)))));obtain⟨hE,hy⟩:=A8 hD;refine wv (BZ Aa Aa hE) (wv (Ar Aa) (wv (Ad Bx Aa C4 Aa Aa) (Bu (i:=0) C4 Aa Aa (BV Aa) Aa Aa (cs':=[rS r1.2.fS,rI .i64 (hb+1),rv v4,rB r1.2.fGreat]) Aa (H':=[.blk ha [rS r1.2.fS,rI .i64 (hb+1),rv v4,rB r1.2.fGreat] 142,.row v4 63 4 (List.map Ac r1.2.fCells),.row hg 5 1 (List.map Bl hf)]) Aa (Av (CZ (S:=(Int×Int)×(Unit)) (λσ=>Ep hf σ.1.1 σ.1.2=some hq) (λσ=>[(0,rv (.pointer (some ⟨ha,0,none⟩))),(4,rv hg),(5,rI .u8 σ.1.1),(9,rv (.pointer (some ⟨ha,0,none⟩))),(10,rv (.pointer (some ⟨ha,0,none⟩))),(11,rv (.pointer (some ⟨ha,1,none⟩))),(12,rI .i64 hb),(13,rv (.pointer (some ⟨ha,0,none⟩))),(14,rv (.pointer (some ⟨ha,0,none⟩))),(15,rv (.pointer (some ⟨ha,0,none⟩))),(16,rS r1.2.fS),(17,rI .i64 (r1.2.fS.length:Int)),(19,rv (.pointer (some ⟨ha,0,none⟩))),(20,rv (.pointer (some ⟨ha,0,none⟩))),(21,rv (.pointer (some ⟨ha,0,none⟩))),(22,rS r1.2.fS),(23,rv (.pointer (some ⟨ha,0,none⟩))),(24,rv (.pointer (some ⟨ha,0,none⟩))),(25,rv (.pointer (some ⟨ha,1,none⟩))),(26,rI .i64 hb),(27,rI .u8 (Br r1.2.fS hb))]) (λσ=>[.blk ha [rS r1.2.fS,rI .i64 σ.1.2,rv v4,rB r1.2.fGreat] 142,.row v4 63 4 (List.map Ac r1.2.fCells),.row hg 5 1 (List.map Bl hf)]) ?_ ?_)))))
    ·refine AY (Al (wm Aa (wv (Ca Aa Aa) (wa Aa (Av (Az (b:=decide ((Br r1.2.fS hb)=34)) Aa (λhs=>?_) (λhs=>?_)))))))
     ·have hG:=AK hs hy;refine Al (wm Aa (wv (r:=rS (PI hf)) (Wp (xs:=hf) (i:=2) EN CC Wi Aa Aa) (wa Aa (wv (r:=rB true) (Ae Aa) (Av (A1 (AC (Af (AC (Af (Bq ?_)))))))))));have hH:=BF hG hl hm;refine AC (Af ?_);obtain rfl:=A2 hH;exact A0 (EP OB (AO Aa) (AO Aa)) (sC (sC (sS sN))) ⟨v4,Aa,Aa⟩
     ·have hz:=AL hs hy;refine AX [(0,rv (.pointer (some ⟨ha,0,none⟩))),(4,rv hg),(5,rI .u8 (Br r1.2.fS hb)),(9,rv (.pointer (some ⟨ha,0,none⟩))),(10,rv (.pointer (some ⟨ha,0,none⟩))),(11,rv (.pointer (some ⟨ha,1,none⟩))),(12,rI .i64 hb),(13,rv (.pointer (some ⟨ha,0,none⟩))),(14,rv (.pointer (some ⟨ha,0,none⟩))),(15,rv (.pointer (some ⟨ha,0,none⟩))),(16,rS r1.2.fS),(17,rI .i64 (r1.2.fS.length:Int)),(19,rv (.pointer (some ⟨ha,0,none⟩))),(20,rv (.pointer (some ⟨ha,0,none⟩))),(21,rv (.pointer (some ⟨ha,0,none⟩))),(22,rS r1.2.fS),(23,rv (.pointer (some ⟨ha,0,none⟩))),(24,rv (.pointer (some ⟨ha,0,none⟩))),(25,rv (.pointer (some ⟨ha,1,none⟩))),(26,rI .i64 hb),(27,rI .u8 (Br r1.2.fS hb)),(40,rB ((decide ((Br r1.2.fS hb)<32))||(decide (126<(Br r1.2.fS hb)))))] [.blk ha [rS r1.2.fS,rI .i64 (hb+1),rv v4,rB r1.2.fGreat] 142,.row v4 63 4 (List.map Ac r1.2.fCells),.row hg 5 1 (List.map Bl hf)] ?_ ?_
      ·refine At (wm Aa (wv (Dn Aa Aa) (wm Aa (Bb (decide ((Br r1.2.fS hb)<32)) (λhh=>?_) (λhh=>?_)))))
       ·refine wf hh (wf hh (wv (r:=rB true) (A7 (b:=decide ((Br r1.2.fS hb)<32)) Aa hh Aa) (wa Aa (Aw ?_))));exact CW hh
       ·refine wo hh (wm Aa (wo hh (wv (DN Aa Aa) (HU Aa hh Aa (wa Aa (Aw ?_))))));exact CW hh
      refine Az (b:=((decide ((Br r1.2.fS hb)<32))||(decide (126<(Br r1.2.fS hb))))) Aa (λht=>?_) (λht=>?_)
      ·have hI:=AK ht hz;refine Al (wv (r:=rS ([]:Ah)) (Ae Aa) (wv (r:=rB false) (Ae Aa) (Av (A1 (AC (Af (AC (Af (Bq ?_)))))))));have hJ:=BF hI hl hm;refine AC (Af ?_);obtain rfl:=A2 hJ;exact A0 (EP OB (AO Aa) (AO Aa)) (sC (sC (sS sN))) ⟨v4,Aa,Aa⟩
      ·have h0:=AL ht hz;refine Al (wm Aa (wv (Ca Aa Aa) (wa Aa (Av (Az (b:=decide ((Br r1.2.fS hb)=92)) Aa (λhu=>?_) (λhu=>?_))))))
       ·have hK:=AK hu h0;refine As ?_;obtain⟨hw,h1⟩:=A8 hK;refine AX [(0,rv (.pointer (some ⟨ha,0,none⟩))),(4,rv hg),(9,rv (.pointer (some ⟨ha,0,none⟩))),(10,rv (.pointer (some ⟨ha,0,none⟩))),(11,rv (.pointer (some ⟨ha,1,none⟩))),(12,rI .i64 hb),(13,rv (.pointer (some ⟨ha,0,none⟩))),(14,rv (.pointer (some ⟨ha,0,none⟩))),(15,rv (.pointer (some ⟨ha,0,none⟩))),(16,rS r1.2.fS),(17,rI .i64 (r1.2.fS.length:Int)),(19,rv (.pointer (some ⟨ha,0,none⟩))),(20,rv (.pointer (some ⟨ha,0,none⟩))),(21,rv (.pointer (some ⟨ha,0,none⟩))),(22,rS r1.2.fS),(23,rv (.pointer (some ⟨ha,0,none⟩))),(24,rv (.pointer (some ⟨ha,0,none⟩))),(25,rv (.pointer (some ⟨ha,1,none⟩))),(26,rI .i64 hb),(27,rI .u8 (Br r1.2.fS hb)),(50,rv (.pointer (some ⟨ha,0,none⟩))),(51,rv (.pointer (some ⟨ha,0,none⟩))),(52,rv (.pointer (some ⟨ha,1,none⟩))),(53,rI .i64 (hb+1)),(54,rv (.pointer (some ⟨ha,0,none⟩))),(55,rv (.pointer (some ⟨ha,0,none⟩))),(56,rv (.pointer (some ⟨ha,0,none⟩))),(57,rS r1.2.fS),(58,rI .i64 (r1.2.fS.length:Int)),(59,rB (decide ((r1.2.fS.length:Int)≤(hb+1)))),(60,rB (decide ((r1.2.fS.length:Int)≤(hb+1)))),(83,rB ((decide ((r1.2.fS.length:Int)≤(hb+1)))||((!decide ((Br r1.2.fS (hb+1))=34))&&(!decide ((Br r1.2.fS (hb+1))=92)))))] [.blk ha [rS r1.2.fS,rI .i64 (hb+1),rv v4,rB r1.2.fGreat] 142,.row v4 63 4 (List.map Ac r1.2.fCells),.row hg 5 1 (List.map Bl hf)] ?_ ?_
        ·refine Bb (decide ((r1.2.fS.length:Int)≤(hb+1))) (λhd=>?_) (λhd=>?_)
         ·refine CD [0,4,9,10,11,12,13,14,15,16,17,19,20,21,22,23,24,25,26,27] [⟨[],rv (.pointer (some ⟨ha,0,none⟩)),0⟩,⟨[0],rv (.pointer (some ⟨ha,0,none⟩)),0⟩,⟨[1],rv (.pointer (some ⟨ha,1,none⟩)),0⟩,⟨[2],rI .i64 (hb+1),1⟩,⟨[],rv (.pointer (some ⟨ha,0,none⟩)),0⟩,⟨[4],rv (.pointer (some ⟨ha,0,none⟩)),0⟩,⟨[5],rv (.pointer (some ⟨ha,0,none⟩)),0⟩,⟨[6],rS r1.2.fS,1⟩,⟨[7],rI .i64 (r1.2.fS.length:Int),0⟩,⟨[3,8],rB (decide ((r1.2.fS.length:Int)≤(hb+1))),0⟩,⟨[9],rB (decide ((r1.2.fS.length:Int)≤(hb+1))),0⟩,⟨[10],rv undef,0⟩,⟨[11,10],rv undef,0⟩,⟨[12,10],rv undef,0⟩,⟨[13,10],rv undef,0⟩,⟨[10],rv undef,0⟩,⟨[15,10],rv undef,0⟩,⟨[16,10],rv undef,0⟩,⟨[17,10],rv undef,0⟩,⟨[14,18,10],rv undef,0⟩,⟨[19,10],rv undef,0⟩,⟨[20,10],rv undef,0⟩,⟨[21],rv undef,0⟩,⟨[22,21],rv undef,0⟩,⟨[23,21],rv undef,0⟩,⟨[24,21],rv undef,0⟩,⟨[21],rv undef,0⟩,⟨[26,21],rv undef,0⟩,⟨[27,21],rv undef,0⟩,⟨[28,21],rv undef,0⟩,⟨[25,29,21],rv undef,0⟩,⟨[30,21],rv undef,0⟩,⟨[21,31,10],rv undef,0⟩,⟨[10,32],rB true,0⟩] [50,51,52,53,54,55,56,57,58,59,60,61,62,63,64,65,66,67,68,69,70,71,72,73,74,75,76,77,78,79,80,81,82,83,0,4,9,10,11,12,13,14,15,16,17,19,20,21,22,23,24,25,26,27] ?_ ?_
          ·refine oq (Aq Aa) (oq (Ar Aa) (oq (Ad Bx Aa C4 Aa Aa) (of (Au (i:=0) D8 Aa Aa Aa) (oq (Aq Aa) (oq (Ar Aa) (oq (Ad Bx Aa CM Aa Aa) (of (Au (i:=0) Dk Aa Aa Aa) (oq (BC CC Aa) (oq (K6 Aa Aa) (oq (Aq Aa) (oz hd (oz hd (oz hd (oz hd (oz hd (oz hd (oz hd (oz hd (oz hd (oz hd (oz hd (ou (ou ?_)))))))))))))))))))))));refine ou (ou (ou (ou (ou (ou (ou (ou (oz hd (oq (A7 (b:=decide ((r1.2.fS.length:Int)≤(hb+1))) Aa hd Aa) ?_)))))))));exact Cn
          exact CW hd
         ·refine Bb (!decide ((Br r1.2.fS (hb+1))=34)) (λhe=>?_) (λhe=>?_)
          ·refine CD [0,4,9,10,11,12,13,14,15,16,17,19,20,21,22,23,24,25,26,27] [⟨[],rv (.pointer (some ⟨ha,0,none⟩)),0⟩,⟨[0],rv (.pointer (some ⟨ha,0,none⟩)),0⟩,⟨[1],rv (.pointer (some ⟨ha,1,none⟩)),0⟩,⟨[2],rI .i64 (hb+1),1⟩,⟨[],rv (.pointer (some ⟨ha,0,none⟩)),0⟩,⟨[4],rv (.pointer (some ⟨ha,0,none⟩)),0⟩,⟨[5],rv (.pointer (some ⟨ha,0,none⟩)),0⟩,⟨[6],rS r1.2.fS,1⟩,⟨[7],rI .i64 (r1.2.fS.length:Int),0⟩,⟨[3,8],rB (decide ((r1.2.fS.length:Int)≤(hb+1))),0⟩,⟨[9],rB (decide ((r1.2.fS.length:Int)≤(hb+1))),0⟩,⟨[10],rv (.pointer (some ⟨ha,0,none⟩)),0⟩,⟨[11,10],rv (.pointer (some ⟨ha,0,none⟩)),0⟩,⟨[12,10],rv (.pointer (some ⟨ha,0,none⟩)),0⟩,⟨[13,10],rS r1.2.fS,1⟩,⟨[10],rv (.pointer (some ⟨ha,0,none⟩)),0⟩,⟨[15,10],rv (.pointer (some ⟨ha,0,none⟩)),0⟩,⟨[16,10],rv (.pointer (some ⟨ha,1,none⟩)),0⟩,⟨[17,10],rI .i64 (hb+1),1⟩,⟨[14,18,10],rI .u8 (Br r1.2.fS (hb+1)),0⟩,⟨[19,10],rB (!decide ((Br r1.2.fS (hb+1))=34)),0⟩,⟨[20,10],rB (!decide ((Br r1.2.fS (hb+1))=34)),0⟩,⟨[21],rv (.pointer (some ⟨ha,0,none⟩)),0⟩,⟨[22,21],rv (.pointer (some ⟨ha,0,none⟩)),0⟩,⟨[23,21],rv (.pointer (some ⟨ha,0,none⟩)),0⟩,⟨[24,21],rS r1.2.fS,1⟩,⟨[21],rv (.pointer (some ⟨ha,0,none⟩)),0⟩,⟨[26,21],rv (.pointer (some ⟨ha,0,none⟩)),0⟩,⟨[27,21],rv (.pointer (some ⟨ha,1,none⟩)),0⟩,⟨[28,21],rI .i64 (hb+1),1⟩,⟨[25,29,21],rI .u8 (Br r1.2.fS (hb+1)),0⟩,⟨[30,21],rB (!decide ((Br r1.2.fS (hb+1))=92)),0⟩,⟨[21,31,10],rB (!decide ((Br r1.2.fS (hb+1))=92)),0⟩,⟨[10,32],rB (!decide ((Br r1.2.fS (hb+1))=92)),0⟩] [50,51,52,53,54,55,56,57,58,59,60,61,62,63,64,65,66,67,68,69,70,71,72,73,74,75,76,77,78,79,80,81,82,83,0,4,9,10,11,12,13,14,15,16,17,19,20,21,22,23,24,25,26,27] ?_ ?_
           ·refine oq (Aq Aa) (oq (Ar Aa) (oq (Ad Bx Aa C4 Aa Aa) (of (Au (i:=0) D8 Aa Aa Aa) (oq (Aq Aa) (oq (Ar Aa) (oq (Ad Bx Aa CM Aa Aa) (of (Au (i:=0) Dk Aa Aa Aa) (oq (BC CC Aa) (oq (K6 Aa Aa) (oq (Aq Aa) (on hd (oq (Aq Aa) (on hd (oq (Ar Aa) (on hd (oq (Ad Bx Aa CM Aa Aa) (on hd (of (Au (i:=0) Dk Aa Aa Aa) (on hd (oq (Aq Aa) (on hd (oq (Ar Aa) (on hd ?_)))))))))))))))))))))));refine oq (Ad Bx Aa C4 Aa Aa) (on hd (of (Au (i:=0) D8 Aa Aa Aa) (on hd (oq (BA CC Aa Aa (N0 hw hd)) (on hd (oq (CX Aa Aa) (on hd (oq (Aq Aa) (on he (oq (Aq Aa) (on he (oq (Ar Aa) (on he (oq (Ad Bx Aa CM Aa Aa) (on he (of (Au (i:=0) Dk Aa Aa Aa) (on he (oq (Aq Aa) (on he (oq (Ar Aa) (on he (oq (Ad Bx Aa C4 Aa Aa) (on he ?_)))))))))))))))))))))));refine of (Au (i:=0) D8 Aa Aa Aa) (on he (oq (BA CC Aa Aa (N0 hw hd)) (on he (oq (CX Aa Aa) (on hd (oq (A7 Aa he Aa) (oq (AP Aa hd Aa) ?_)))))));exact Cn
           exact CW (And.intro hd he)
          ·refine CD [0,4,9,10,11,12,13,14,15,16,17,19,20,21,22,23,24,25,26,27] [⟨[],rv (.pointer (some ⟨ha,0,none⟩)),0⟩,⟨[0],rv (.pointer (some ⟨ha,0,none⟩)),0⟩,⟨[1],rv (.pointer (some ⟨ha,1,none⟩)),0⟩,⟨[2],rI .i64 (hb+1),1⟩,⟨[],rv (.pointer (some ⟨ha,0,none⟩)),0⟩,⟨[4],rv (.pointer (some ⟨ha,0,none⟩)),0⟩,⟨[5],rv (.pointer (some ⟨ha,0,none⟩)),0⟩,⟨[6],rS r1.2.fS,1⟩,⟨[7],rI .i64 (r1.2.fS.length:Int),0⟩,⟨[3,8],rB (decide ((r1.2.fS.length:Int)≤(hb+1))),0⟩,⟨[9],rB (decide ((r1.2.fS.length:Int)≤(hb+1))),0⟩,⟨[10],rv (.pointer (some ⟨ha,0,none⟩)),0⟩,⟨[11,10],rv (.pointer (some ⟨ha,0,none⟩)),0⟩,⟨[12,10],rv (.pointer (some ⟨ha,0,none⟩)),0⟩,⟨[13,10],rS r1.2.fS,1⟩,⟨[10],rv (.pointer (some ⟨ha,0,none⟩)),0⟩,⟨[15,10],rv (.pointer (some ⟨ha,0,none⟩)),0⟩,⟨[16,10],rv (.pointer (some ⟨ha,1,none⟩)),0⟩,⟨[17,10],rI .i64 (hb+1),1⟩,⟨[14,18,10],rI .u8 (Br r1.2.fS (hb+1)),0⟩,⟨[19,10],rB (!decide ((Br r1.2.fS (hb+1))=34)),0⟩,⟨[20,10],rB (!decide ((Br r1.2.fS (hb+1))=34)),0⟩,⟨[21],rv undef,0⟩,⟨[22,21],rv undef,0⟩,⟨[23,21],rv undef,0⟩,⟨[24,21],rv undef,0⟩,⟨[21],rv undef,0⟩,⟨[26,21],rv undef,0⟩,⟨[27,21],rv undef,0⟩,⟨[28,21],rv undef,0⟩,⟨[25,29,21],rv undef,0⟩,⟨[30,21],rv undef,0⟩,⟨[21,31,10],rB false,0⟩,⟨[10,32],rB false,0⟩] [50,51,52,53,54,55,56,57,58,59,60,61,62,63,64,65,66,67,68,69,70,71,72,73,74,75,76,77,78,79,80,81,82,83,0,4,9,10,11,12,13,14,15,16,17,19,20,21,22,23,24,25,26,27] ?_ ?_
           ·refine oq (Aq Aa) (oq (Ar Aa) (oq (Ad Bx Aa C4 Aa Aa) (of (Au (i:=0) D8 Aa Aa Aa) (oq (Aq Aa) (oq (Ar Aa) (oq (Ad Bx Aa CM Aa Aa) (of (Au (i:=0) Dk Aa Aa Aa) (oq (BC CC Aa) (oq (K6 Aa Aa) (oq (Aq Aa) (on hd (oq (Aq Aa) (on hd (oq (Ar Aa) (on hd (oq (Ad Bx Aa CM Aa Aa) (on hd (of (Au (i:=0) Dk Aa Aa Aa) (on hd (oq (Aq Aa) (on hd (oq (Ar Aa) (on hd ?_)))))))))))))))))))))));refine oq (Ad Bx Aa C4 Aa Aa) (on hd (of (Au (i:=0) D8 Aa Aa Aa) (on hd (oq (BA CC Aa Aa (N0 hw hd)) (on hd (oq (CX Aa Aa) (on hd (oq (Aq Aa) (oz he (oz he (oz he (oz he (oz he (oz he (oz he (oz he (oz he (oz he (on hd (oq (AP (b:=!decide ((Br r1.2.fS (hb+1))=34)) Aa he Aa) (oq (AP Aa hd Aa) ?_)))))))))))))))))))));exact Cn
           exact CW (And.intro hd he)
        refine Az (b:=((decide ((r1.2.fS.length:Int)≤(hb+1)))||((!decide ((Br r1.2.fS (hb+1))=34))&&(!decide ((Br r1.2.fS (hb+1))=92))))) Aa (λhx=>?_) (λhx=>?_)
        ·have hL:=AK hx h1;refine Al (wv (r:=rS ([]:Ah)) (Ae Aa) (wv (r:=rB false) (Ae Aa) (Av (A1 (Af (AC (Af (AC (Af (Bq ?_))))))))));have hN:=BF hL hl hm;refine AC (Af ?_);obtain rfl:=A2 hN;exact A0 (EP OB (AO Aa) (AO Aa)) (sC (sC (sS sN))) ⟨v4,Aa,Aa⟩
        ·have hO:=AL hx h1;refine A4 (AW (As ?_));obtain⟨hP,hQ⟩:=A8 hO;refine CD [0,4,9,10,11,12,13,14,15,16,17,19,20,21,22,23,24,25,26,27,50,51,52,53,54,55,56,57,58,59,60] [⟨[],rv (.pointer (some ⟨ha,0,none⟩)),0⟩,⟨[0],rv (.pointer (some ⟨ha,0,none⟩)),0⟩,⟨[1],rv (.pointer (some ⟨ha,0,none⟩)),0⟩,⟨[2],rS r1.2.fS,1⟩,⟨[],rv (.pointer (some ⟨ha,0,none⟩)),0⟩,⟨[4],rv (.pointer (some ⟨ha,0,none⟩)),0⟩,⟨[5],rv (.pointer (some ⟨ha,1,none⟩)),0⟩,⟨[6],rI .i64 (hb+1),1⟩,⟨[3,7],rI .u8 (Br r1.2.fS (hb+1)),0⟩,⟨[8],rI .u8 (Br r1.2.fS (hb+1)),0⟩] [84,85,86,87,88,89,90,91,92,5,0,4,9,10,11,12,13,14,15,16,17,19,20,21,22,23,24,25,26,27,50,51,52,53,54,55,56,57,58,59,60] ?_ ?_
         ·refine oq (Aq Aa) (oq (Ar Aa) (oq (Ad Bx Aa CM Aa Aa) (of (Au (i:=0) Dk Aa Aa Aa) (oq (Aq Aa) (oq (Ar Aa) (oq (Ad Bx Aa C4 Aa Aa) (of (Au (i:=0) D8 Aa Aa Aa) (oq (BA CC Aa Aa hP) (oq (Ae Aa) ?_)))))))));exact Cn
         refine AW (At (wm Aa (wv (Ar Aa) (wv (Ad Bx Aa C4 Aa Aa) (wv (Au (i:=0) D8 Aa Aa Aa) ?_)))));obtain⟨hR,hS⟩:=A8 hQ;exact wv (BZ Aa Aa hR) (wv (Ar Aa) (wv (Ad Bx Aa C4 Aa Aa) (Bu (i:=0) C4 Aa Aa (BV Aa) Aa Aa (cs':=[rS r1.2.fS,rI .i64 ((hb+1)+1),rv v4,rB r1.2.fGreat]) Aa (H':=[.blk ha [rS r1.2.fS,rI .i64 ((hb+1)+1),rv v4,rB r1.2.fGreat] 142,.row v4 63 4 (List.map Ac r1.2.fCells),.row hg 5 1 (List.map Bl hf)]) Aa (Aw (AV (AA (AU ((Br r1.2.fS (hb+1),(hb+1)+1),()) hS (AT.c Aa (AT.c5 Aa Aa Aa Aa Aa (AT.c5 Aa Aa Aa Aa Aa (AT.c5 Aa Aa Aa Aa Aa (AT.c5 Aa Aa Aa Aa Aa AT.nil))))) (sC (sC (sC sN))))))))))
       ·have hT:=AL hu h0;exact A4 (AV (AA (AU ((Br r1.2.fS hb,hb+1),()) hT (AT.c Aa (AT.c5 Aa Aa Aa Aa Aa (AT.c5 Aa Aa Aa Aa Aa (AT.c5 Aa Aa Aa Aa Aa (AT.c5 Aa Aa Aa Aa Aa AT.nil))))) (sC (sC (sC sN))))))
    ·rintro⟨⟨hi,hn⟩,⟨⟩⟩ ho;refine Be (l':=[(0,rv (.pointer (some ⟨ha,0,none⟩))),(4,rv hg),(5,rI .u8 hi),(9,rv (.pointer (some ⟨ha,0,none⟩))),(10,rv (.pointer (some ⟨ha,0,none⟩))),(11,rv (.pointer (some ⟨ha,1,none⟩))),(12,rI .i64 hb),(13,rv (.pointer (some ⟨ha,0,none⟩))),(14,rv (.pointer (some ⟨ha,0,none⟩))),(15,rv (.pointer (some ⟨ha,0,none⟩))),(16,rS r1.2.fS),(17,rI .i64 (r1.2.fS.length:Int)),(19,rv (.pointer (some ⟨ha,0,none⟩))),(20,rv (.pointer (some ⟨ha,0,none⟩))),(21,rv (.pointer (some ⟨ha,0,none⟩))),(22,rS r1.2.fS),(23,rv (.pointer (some ⟨ha,0,none⟩))),(24,rv (.pointer (some ⟨ha,0,none⟩))),(25,rv (.pointer (some ⟨ha,1,none⟩))),(26,rI .i64 hb),(27,rI .u8 (Br r1.2.fS hb))]) (H':=[.blk ha [rS r1.2.fS,rI .i64 hn,rv v4,rB r1.2.fGreat] 142,.row v4 63 4 (List.map Ac r1.2.fCells),.row hg 5 1 (List.map Bl hf)]) Aa Aa ?_;replace ho:Ep hf hi hn=some hq:=ho;unfold Ep at ho;refine At (wm Aa (wm Aa (Bc (ys:=([hi]:List Int)) (enc:=Bl) (css:=[[rI .u8 hi]]) (xs:=[.tmp 101]) EN Xi Xh Aa Aa Aa ⟨G2.one Aa (Up.refl _),trivial⟩ Aa DD Aa Aa Aa (λhU=>?_))));obtain⟨hV,hW⟩:=A8 ho;obtain⟨inf,hinf⟩:=Mv;refine BX (xs:=hf) (ys:=([hi]:List Int)) (enc:=Bl) (i:=3) EN hinf.1 hinf.2.1 hinf.2.2.1 hinf.2.2.2 Aa Aa Aa Aa Aa (J0.w (i:=0) Aa Aa) DD IN hV Aa (λh3=>?_);refine wa Aa (Aw (AV (BN (H2:=[.blk ha [rS r1.2.fS,rI .i64 hn,rv v4,rB r1.2.fGreat] 142,.row v4 63 4 (List.map Ac r1.2.fCells),.row h3 5 1 (List.map Bl (hf++([hi]:List Int))),.row (.slice (some ⟨hU,0,none⟩) 1 1) 5 1 (List.map Bl ([hi]:List Int))]) ((Ai (i:=2) Aa).trans (Yh _ ((Ai (i:=2) Aa).trans (Yh _ (Yi _))))) ?_)));have hX:=BG hW hl;exact AA (AU (hA,(hf++([hi]:List Int),hn),h3) ⟨hX,Y1 _⟩ (AT.c Aa (AT.c Aa AT.nil)) (sC (sC (sC (sS sN)))))
   ·have hY:=AL hr hk;refine BQ (AE ?_);have hZ:=CE hY hl hm;exact AE (B7 (AU (hb,()) hZ AT.nil (sC (sC (sS sN)))))
  ·rintro⟨h4,⟨⟩⟩ hp;refine Dr (l':=[]) (H':=[.blk ha [rS r1.2.fS,rI .i64 h4,rv v4,rB r1.2.fGreat] 142,.row v4 63 4 (List.map Ac r1.2.fCells)]) Aa Aa ?_;replace hp:Hd r1 h4=some r:=hp;unfold Hd at hp;refine B4 (AW (Al (wv (r:=rS ([]:Ah)) (Ae Aa) (wv (r:=rB false) (Ae Aa) (Av (A1 ?_))))));obtain rfl:=A2 hp;exact A0 (EP OB (AO Aa) (AO Aa)) (sC (sC sN)) ⟨v4,Aa,Aa⟩
theorem Vn (F:Nat)(ha:Nat)(hj:Value)(q:Ao)(r:Bool×Ao)(h:LK F q=some r):Fn Tryz.prog GE 162 [rv (.pointer (some ⟨ha,0,none⟩))] [.blk ha [rS q.fS,rI .i64 q.fAt,rv hj,rB q.fGreat] 142,.row hj 63 4 (List.map Ac q.fCells)] (λR H=>∃w0_2:Value,R=rB r.1∧H=[.blk ha [rS r.2.fS,rI .i64 r.2.fAt,rv w0_2,rB r.2.fGreat] 142,.row w0_2 63 4 (List.map Ac r.2.fCells)]):=by
 refine enter (n:=104) Tryz.func162 Aa Tryz.ntmps162 Aa (λw Z=>?_);refine Be (l':=[(0,rv (.pointer (some ⟨ha,0,none⟩)))]) (H':=[.blk ha [rS q.fS,rI .i64 q.fAt,rv hj,rB q.fGreat] 142,.row hj 63 4 (List.map Ac q.fCells)]) Aa Aa ?_;unfold LK at h;refine Al (wv (r:=rB false) (Ae Aa) (By (wm Aa (wv (Ar Aa) (wv (Ad Bx Aa C4 Aa Aa) (wv (Au (i:=0) D8 Aa Aa Aa) (wa Aa (By (wm Aa ?_)))))))));obtain⟨r1,e3,h2⟩:=AM h;refine EL (Hr:=[]) Gg (Db ha hj q ([45]:Ah) r1 e3) Aa (Yi _) Aa ?_;rintro _ _ ⟨v4,rfl,rfl⟩;refine By (wm Aa (wv (Ar Aa) (wv (Ad Bx Aa C4 Aa Aa) (wv (Au (i:=0) D8 Aa Aa Aa) (wa Aa (Av (As (AY ?_))))))));obtain⟨ht,hu,hw⟩:=AM h2;refine BJ (S:=Nat×(Int)×(Unit)) (V:=(Int)×(Unit)) 0 (λσ=>Ch (λσ=>DL r1 σ) σ.1 σ.2.1=some ht) (λσ=>[(0,rv (.pointer (some ⟨ha,0,none⟩))),(3,rI .i64 q.fAt),(4,rI .i64 r1.2.fAt)]) (λσ=>[.blk ha [rS r1.2.fS,rI .i64 σ.2.1,rv v4,rB r1.2.fGreat] 142,.row v4 63 4 (List.map Ac r1.2.fCells)]) (λσ=>σ.1) (F,r1.2.fAt,()) hu (AT.c Aa (AT.c Aa (AT.c Aa AT.nil))) (sC (sC sN)) (λσ=>Ia q r1 σ.1=some r) (λσ=>[(0,rv (.pointer (some ⟨ha,0,none⟩))),(3,rI .i64 q.fAt),(4,rI .i64 r1.2.fAt)]) (λσ=>[.blk ha [rS r1.2.fS,rI .i64 σ.1,rv v4,rB r1.2.fGreat] 142,.row v4 63 4 (List.map Ac r1.2.fCells)]) ?_ ?_
 ·rintro⟨hH,hd,⟨⟩⟩ hx;refine Be (l':=[(0,rv (.pointer (some ⟨ha,0,none⟩))),(3,rI .i64 q.fAt),(4,rI .i64 r1.2.fAt)]) (H':=[.blk ha [rS r1.2.fS,rI .i64 hd,rv v4,rB r1.2.fGreat] 142,.row v4 63 4 (List.map Ac r1.2.fCells)]) Aa Aa ?_;obtain⟨hy,rfl,hz,hk,hp⟩:=Dh hx;replace hk:DL r1 hd=some hz:=hk;unfold DL at hk;refine As ?_;obtain⟨hm,hq⟩:=A8 hk;refine AX [(0,rv (.pointer (some ⟨ha,0,none⟩))),(3,rI .i64 q.fAt),(4,rI .i64 r1.2.fAt),(17,rv (.pointer (some ⟨ha,0,none⟩))),(18,rv (.pointer (some ⟨ha,0,none⟩))),(19,rv (.pointer (some ⟨ha,1,none⟩))),(20,rI .i64 hd),(21,rv (.pointer (some ⟨ha,0,none⟩))),(22,rv (.pointer (some ⟨ha,0,none⟩))),(23,rv (.pointer (some ⟨ha,0,none⟩))),(24,rS r1.2.fS),(25,rI .i64 (r1.2.fS.length:Int)),(26,rB (decide (hd<(r1.2.fS.length:Int)))),(27,rB (decide (hd<(r1.2.fS.length:Int)))),(38,rB ((decide (hd<(r1.2.fS.length:Int)))&&(decide (48≤(Br r1.2.fS hd))))),(39,rB ((decide (hd<(r1.2.fS.length:Int)))&&(decide (48≤(Br r1.2.fS hd))))),(50,rB ((decide (hd<(r1.2.fS.length:Int)))&&((decide (48≤(Br r1.2.fS hd)))&&(decide ((Br r1.2.fS hd)≤57)))))] [.blk ha [rS r1.2.fS,rI .i64 hd,rv v4,rB r1.2.fGreat] 142,.row v4 63 4 (List.map Ac r1.2.fCells)] ?_ ?_
  ·refine Bb (decide (hd<(r1.2.fS.length:Int))) (λhe=>?_) (λhe=>?_)
   ·refine Bb (decide (48≤(Br r1.2.fS hd))) (λhf=>?_) (λhf=>?_)
    ·refine CD [0,3,4] [⟨[],rv (.pointer (some ⟨ha,0,none⟩)),0⟩,⟨[0],rv (.pointer (some ⟨ha,0,none⟩)),0⟩,⟨[1],rv (.pointer (some ⟨ha,1,none⟩)),0⟩,⟨[2],rI .i64 hd,1⟩,⟨[],rv (.pointer (some ⟨ha,0,none⟩)),0⟩,⟨[4],rv (.pointer (some ⟨ha,0,none⟩)),0⟩,⟨[5],rv (.pointer (some ⟨ha,0,none⟩)),0⟩,⟨[6],rS r1.2.fS,1⟩,⟨[7],rI .i64 (r1.2.fS.length:Int),0⟩,⟨[3,8],rB (decide (hd<(r1.2.fS.length:Int))),0⟩,⟨[9],rB (decide (hd<(r1.2.fS.length:Int))),0⟩,⟨[10],rv (.pointer (some ⟨ha,0,none⟩)),0⟩,⟨[11,10],rv (.pointer (some ⟨ha,0,none⟩)),0⟩,⟨[12,10],rv (.pointer (some ⟨ha,0,none⟩)),0⟩,⟨[13,10],rS r1.2.fS,1⟩,⟨[10],rv (.pointer (some ⟨ha,0,none⟩)),0⟩,⟨[15,10],rv (.pointer (some ⟨ha,0,none⟩)),0⟩,⟨[16,10],rv (.pointer (some ⟨ha,1,none⟩)),0⟩,⟨[17,10],rI .i64 hd,1⟩,⟨[14,18,10],rI .u8 (Br r1.2.fS hd),0⟩,⟨[19,10],rB (decide (48≤(Br r1.2.fS hd))),0⟩,⟨[10,20],rB (decide (48≤(Br r1.2.fS hd))),0⟩,⟨[21],rB (decide (48≤(Br r1.2.fS hd))),0⟩,⟨[22],rv (.pointer (some ⟨ha,0,none⟩)),0⟩,⟨[23,22],rv (.pointer (some ⟨ha,0,none⟩)),0⟩,⟨[24,22],rv (.pointer (some ⟨ha,0,none⟩)),0⟩,⟨[25,22],rS r1.2.fS,1⟩,⟨[22],rv (.pointer (some ⟨ha,0,none⟩)),0⟩,⟨[27,22],rv (.pointer (some ⟨ha,0,none⟩)),0⟩,⟨[28,22],rv (.pointer (some ⟨ha,1,none⟩)),0⟩,⟨[29,22],rI .i64 hd,1⟩,⟨[26,30,22],rI .u8 (Br r1.2.fS hd),0⟩,⟨[31,22],rB (decide ((Br r1.2.fS hd)≤57)),0⟩,⟨[22,32],rB (decide ((Br r1.2.fS hd)≤57)),0⟩] [17,18,19,20,21,22,23,24,25,26,27,28,29,30,31,32,33,34,35,36,37,38,39,40,41,42,43,44,45,46,47,48,49,50,0,3,4] ?_ ?_
     ·refine oq (Aq Aa) (oq (Ar Aa) (oq (Ad Bx Aa C4 Aa Aa) (of (Au (i:=0) D8 Aa Aa Aa) (oq (Aq Aa) (oq (Ar Aa) (oq (Ad Bx Aa CM Aa Aa) (of (Au (i:=0) Dk Aa Aa Aa) (oq (BC CC Aa) (oq (Dn Aa Aa) (oq (Aq Aa) (on he (oq (Aq Aa) (on he (oq (Ar Aa) (on he (oq (Ad Bx Aa CM Aa Aa) (on he (of (Au (i:=0) Dk Aa Aa Aa) (on he (oq (Aq Aa) (on he (oq (Ar Aa) (on he ?_)))))))))))))))))))))));refine oq (Ad Bx Aa C4 Aa Aa) (on he (of (Au (i:=0) D8 Aa Aa Aa) (on he (oq (BA CC Aa Aa (GH hm he)) (on he (oq (K6 Aa Aa) (oq (A7 Aa he Aa) (oq (Aq Aa) (on hf (oq (Aq Aa) (on hf (oq (Ar Aa) (on hf (oq (Ad Bx Aa CM Aa Aa) (on hf (of (Au (i:=0) Dk Aa Aa Aa) (on hf (oq (Aq Aa) (on hf (oq (Ar Aa) (on hf (oq (Ad Bx Aa C4 Aa Aa) (on hf ?_)))))))))))))))))))))));refine of (Au (i:=0) D8 Aa Aa Aa) (on hf (oq (BA CC Aa Aa (GH hm he)) (on hf (oq (MN Aa Aa) (oq (A7 Aa hf Aa) ?_)))));exact Cn
     exact CW (And.intro he hf)
    ·refine CD [0,3,4] [⟨[],rv (.pointer (some ⟨ha,0,none⟩)),0⟩,⟨[0],rv (.pointer (some ⟨ha,0,none⟩)),0⟩,⟨[1],rv (.pointer (some ⟨ha,1,none⟩)),0⟩,⟨[2],rI .i64 hd,1⟩,⟨[],rv (.pointer (some ⟨ha,0,none⟩)),0⟩,⟨[4],rv (.pointer (some ⟨ha,0,none⟩)),0⟩,⟨[5],rv (.pointer (some ⟨ha,0,none⟩)),0⟩,⟨[6],rS r1.2.fS,1⟩,⟨[7],rI .i64 (r1.2.fS.length:Int),0⟩,⟨[3,8],rB (decide (hd<(r1.2.fS.length:Int))),0⟩,⟨[9],rB (decide (hd<(r1.2.fS.length:Int))),0⟩,⟨[10],rv (.pointer (some ⟨ha,0,none⟩)),0⟩,⟨[11,10],rv (.pointer (some ⟨ha,0,none⟩)),0⟩,⟨[12,10],rv (.pointer (some ⟨ha,0,none⟩)),0⟩,⟨[13,10],rS r1.2.fS,1⟩,⟨[10],rv (.pointer (some ⟨ha,0,none⟩)),0⟩,⟨[15,10],rv (.pointer (some ⟨ha,0,none⟩)),0⟩,⟨[16,10],rv (.pointer (some ⟨ha,1,none⟩)),0⟩,⟨[17,10],rI .i64 hd,1⟩,⟨[14,18,10],rI .u8 (Br r1.2.fS hd),0⟩,⟨[19,10],rB (decide (48≤(Br r1.2.fS hd))),0⟩,⟨[10,20],rB (decide (48≤(Br r1.2.fS hd))),0⟩,⟨[21],rB (decide (48≤(Br r1.2.fS hd))),0⟩,⟨[22],rv undef,0⟩,⟨[23,22],rv undef,0⟩,⟨[24,22],rv undef,0⟩,⟨[25,22],rv undef,0⟩,⟨[22],rv undef,0⟩,⟨[27,22],rv undef,0⟩,⟨[28,22],rv undef,0⟩,⟨[29,22],rv undef,0⟩,⟨[26,30,22],rv undef,0⟩,⟨[31,22],rv undef,0⟩,⟨[22,32],rB false,0⟩] [17,18,19,20,21,22,23,24,25,26,27,28,29,30,31,32,33,34,35,36,37,38,39,40,41,42,43,44,45,46,47,48,49,50,0,3,4] ?_ ?_
     ·refine oq (Aq Aa) (oq (Ar Aa) (oq (Ad Bx Aa C4 Aa Aa) (of (Au (i:=0) D8 Aa Aa Aa) (oq (Aq Aa) (oq (Ar Aa) (oq (Ad Bx Aa CM Aa Aa) (of (Au (i:=0) Dk Aa Aa Aa) (oq (BC CC Aa) (oq (Dn Aa Aa) (oq (Aq Aa) (on he (oq (Aq Aa) (on he (oq (Ar Aa) (on he (oq (Ad Bx Aa CM Aa Aa) (on he (of (Au (i:=0) Dk Aa Aa Aa) (on he (oq (Aq Aa) (on he (oq (Ar Aa) (on he ?_)))))))))))))))))))))));refine oq (Ad Bx Aa C4 Aa Aa) (on he (of (Au (i:=0) D8 Aa Aa Aa) (on he (oq (BA CC Aa Aa (GH hm he)) (on he (oq (K6 Aa Aa) (oq (A7 Aa he Aa) (oq (Aq Aa) (oz hf (oz hf (oz hf (oz hf (oz hf (oz hf (oz hf (oz hf (oz hf (oz hf (oq (AP (b:=decide (48≤(Br r1.2.fS hd))) Aa hf Aa) ?_)))))))))))))))))));exact Cn
     exact CW (And.intro he hf)
   ·refine CD [0,3,4] [⟨[],rv (.pointer (some ⟨ha,0,none⟩)),0⟩,⟨[0],rv (.pointer (some ⟨ha,0,none⟩)),0⟩,⟨[1],rv (.pointer (some ⟨ha,1,none⟩)),0⟩,⟨[2],rI .i64 hd,1⟩,⟨[],rv (.pointer (some ⟨ha,0,none⟩)),0⟩,⟨[4],rv (.pointer (some ⟨ha,0,none⟩)),0⟩,⟨[5],rv (.pointer (some ⟨ha,0,none⟩)),0⟩,⟨[6],rS r1.2.fS,1⟩,⟨[7],rI .i64 (r1.2.fS.length:Int),0⟩,⟨[3,8],rB (decide (hd<(r1.2.fS.length:Int))),0⟩,⟨[9],rB (decide (hd<(r1.2.fS.length:Int))),0⟩,⟨[10],rv undef,0⟩,⟨[11,10],rv undef,0⟩,⟨[12,10],rv undef,0⟩,⟨[13,10],rv undef,0⟩,⟨[10],rv undef,0⟩,⟨[15,10],rv undef,0⟩,⟨[16,10],rv undef,0⟩,⟨[17,10],rv undef,0⟩,⟨[14,18,10],rv undef,0⟩,⟨[19,10],rv undef,0⟩,⟨[10,20],rB false,0⟩,⟨[21],rB false,0⟩,⟨[22],rv undef,0⟩,⟨[23,22],rv undef,0⟩,⟨[24,22],rv undef,0⟩,⟨[25,22],rv undef,0⟩,⟨[22],rv undef,0⟩,⟨[27,22],rv undef,0⟩,⟨[28,22],rv undef,0⟩,⟨[29,22],rv undef,0⟩,⟨[26,30,22],rv undef,0⟩,⟨[31,22],rv undef,0⟩,⟨[22,32],rB false,0⟩] [17,18,19,20,21,22,23,24,25,26,27,28,29,30,31,32,33,34,35,36,37,38,39,40,41,42,43,44,45,46,47,48,49,50,0,3,4] ?_ ?_
    ·refine oq (Aq Aa) (oq (Ar Aa) (oq (Ad Bx Aa C4 Aa Aa) (of (Au (i:=0) D8 Aa Aa Aa) (oq (Aq Aa) (oq (Ar Aa) (oq (Ad Bx Aa CM Aa Aa) (of (Au (i:=0) Dk Aa Aa Aa) (oq (BC CC Aa) (oq (Dn Aa Aa) (oq (Aq Aa) (oz he (oz he (oz he (oz he (oz he (oz he (oz he (oz he (oz he (oz he (oq (AP (b:=decide (hd<(r1.2.fS.length:Int))) Aa he Aa) (oq (Aq Aa) (oz Aa ?_)))))))))))))))))))))));refine oz Aa (oz Aa (oz Aa (oz Aa (oz Aa (oz Aa (oz Aa (oz Aa (oz Aa (oq (AP (b:=false) Aa Aa Aa) ?_)))))))));exact Cn
    exact CW he
  refine Az (b:=((decide (hd<(r1.2.fS.length:Int)))&&((decide (48≤(Br r1.2.fS hd)))&&(decide ((Br r1.2.fS hd)≤57))))) Aa (λhn=>?_) (λhn=>?_)
  ·have h0:=AK hn hq;refine A4 (AW (AY (At (wm Aa (wv (Ar Aa) (wv (Ad Bx Aa C4 Aa Aa) (wv (Au (i:=0) D8 Aa Aa Aa) ?_)))))));obtain⟨h1,h3⟩:=A8 h0;refine wv (BZ Aa Aa h1) (wv (Ar Aa) (wv (Ad Bx Aa C4 Aa Aa) (Bu (i:=0) C4 Aa Aa (BV Aa) Aa Aa (cs':=[rS r1.2.fS,rI .i64 (hd+1),rv v4,rB r1.2.fGreat]) Aa (H':=[.blk ha [rS r1.2.fS,rI .i64 (hd+1),rv v4,rB r1.2.fGreat] 142,.row v4 63 4 (List.map Ac r1.2.fCells)]) Aa (Aw (AV ?_)))));have h4:=BG h3 hp;exact AA (AU (hy,hd+1,()) ⟨h4,Y1 _⟩ (AT.c Aa (AT.c Aa (AT.c Aa AT.nil))) (sC (sC sN)))
  ·have h5:=AL hn hq;refine BQ (AE ?_);have h6:=CE h5 hp hw;exact AE (B7 (AU (hd,()) h6 (AT.c Aa (AT.c Aa (AT.c Aa AT.nil))) (sC (sC sN))))
 ·rintro⟨hb,⟨⟩⟩ hl;refine Dr (l':=[(0,rv (.pointer (some ⟨ha,0,none⟩))),(3,rI .i64 q.fAt),(4,rI .i64 r1.2.fAt)]) (H':=[.blk ha [rS r1.2.fS,rI .i64 hb,rv v4,rB r1.2.fGreat] 142,.row v4 63 4 (List.map Ac r1.2.fCells)]) Aa Aa ?_;replace hl:Ia q r1 hb=some r:=hl;unfold Ia at hl;refine B4 (AW (As ?_));obtain⟨h7,h8⟩:=A8 hl;obtain⟨h9,hA⟩:=A8 h8;obtain⟨hB,hr⟩:=A8 hA;refine CD [0,3,4] [⟨[],rv (.pointer (some ⟨ha,0,none⟩)),0⟩,⟨[0],rv (.pointer (some ⟨ha,0,none⟩)),0⟩,⟨[1],rv (.pointer (some ⟨ha,0,none⟩)),0⟩,⟨[2],rS r1.2.fS,1⟩,⟨[],rI .i64 q.fAt,0⟩,⟨[],rv (.pointer (some ⟨ha,0,none⟩)),0⟩,⟨[5],rv (.pointer (some ⟨ha,0,none⟩)),0⟩,⟨[6],rv (.pointer (some ⟨ha,1,none⟩)),0⟩,⟨[7],rI .i64 hb,1⟩,⟨[3,4,8],rS (List.take (Int.toNat hb-Int.toNat q.fAt) (List.drop (Int.toNat q.fAt) r1.2.fS)),0⟩,⟨[9],C0 [rI .i64 (Bw (List.take (Int.toNat hb-Int.toNat q.fAt) (List.drop (Int.toNat q.fAt) r1.2.fS))),rI .i64 (BD (List.take (Int.toNat hb-Int.toNat q.fAt) (List.drop (Int.toNat q.fAt) r1.2.fS)))],0⟩,⟨[10],C0 [rI .i64 (Bw (List.take (Int.toNat hb-Int.toNat q.fAt) (List.drop (Int.toNat q.fAt) r1.2.fS))),rI .i64 (BD (List.take (Int.toNat hb-Int.toNat q.fAt) (List.drop (Int.toNat q.fAt) r1.2.fS)))],0⟩,⟨[11],rI .i64 (Bw (List.take (Int.toNat hb-Int.toNat q.fAt) (List.drop (Int.toNat q.fAt) r1.2.fS))),0⟩,⟨[11],rI .i64 (BD (List.take (Int.toNat hb-Int.toNat q.fAt) (List.drop (Int.toNat q.fAt) r1.2.fS))),0⟩,⟨[12],rI .i64 (Bw (List.take (Int.toNat hb-Int.toNat q.fAt) (List.drop (Int.toNat q.fAt) r1.2.fS))),0⟩,⟨[13],rI .i64 (BD (List.take (Int.toNat hb-Int.toNat q.fAt) (List.drop (Int.toNat q.fAt) r1.2.fS))),0⟩] [5,6,0,4] ?_ ?_
  ·refine oq (Aq Aa) (oq (Ar Aa) (oq (Ad Bx Aa CM Aa Aa) (of (Au (i:=0) Dk Aa Aa Aa) (oq (Aq Aa) (oq (Aq Aa) (oq (Ar Aa) (oq (Ad Bx Aa C4 Aa Aa) (of (Au (i:=0) D8 Aa Aa Aa) (oq (LY CC Aa Aa Aa h7 h9) (CU Aa (λH=>JQ (rs:=[rS (List.take (Int.toNat hb-Int.toNat q.fAt) (List.drop (Int.toNat q.fAt) r1.2.fS))]) (r:=C0 [rI .i64 (Bw (List.take (Int.toNat hb-Int.toNat q.fAt) (List.drop (Int.toNat q.fAt) r1.2.fS))),rI .i64 (BD (List.take (Int.toNat hb-Int.toNat q.fAt) (List.drop (Int.toNat q.fAt) r1.2.fS)))]) Tryz.call67 Aa (QW (List.take (Int.toNat hb-Int.toNat q.fAt) (List.drop (Int.toNat q.fAt) r1.2.fS)) hB) Aa) ?_))))))))));refine oq (Aq Aa) (oq (AB Aa Aa) (oq (AB Aa Aa) (oq (Ae Aa) (oq (Ae Aa) ?_))));exact Cn
  refine AW (As (AX [(0,rv (.pointer (some ⟨ha,0,none⟩))),(5,rI .i64 (Bw (List.take (Int.toNat hb-Int.toNat q.fAt) (List.drop (Int.toNat q.fAt) r1.2.fS)))),(6,rI .i64 (BD (List.take (Int.toNat hb-Int.toNat q.fAt) (List.drop (Int.toNat q.fAt) r1.2.fS)))),(81,rB ((decide ((BD (List.take (Int.toNat hb-Int.toNat q.fAt) (List.drop (Int.toNat q.fAt) r1.2.fS)))=1))||(decide (r1.2.fAt=hb))))] [.blk ha [rS r1.2.fS,rI .i64 hb,rv v4,rB r1.2.fGreat] 142,.row v4 63 4 (List.map Ac r1.2.fCells)] ?_ ?_))
  ·refine At (wm Aa (wv (Ca Aa Aa) (wm Aa (Bb (decide ((BD (List.take (Int.toNat hb-Int.toNat q.fAt) (List.drop (Int.toNat q.fAt) r1.2.fS)))=1)) (λhg=>?_) (λhg=>?_)))))
   ·refine wf hg (wf hg (wf hg (wf hg (wf hg (wf hg (wv (r:=rB true) (A7 (b:=decide ((BD (List.take (Int.toNat hb-Int.toNat q.fAt) (List.drop (Int.toNat q.fAt) r1.2.fS)))=1)) Aa hg Aa) (Aw ?_)))))));exact CW hg
   ·refine wo hg (wm Aa (wo hg (wm Aa (wo hg (wv (Ar Aa) (wo hg (wv (Ad Bx Aa C4 Aa Aa) (wo hg (wv (Au (i:=0) D8 Aa Aa Aa) (wo hg (wv (Ca Aa Aa) (HU Aa hg Aa (Aw ?_)))))))))))));exact CW hg
  refine Az (b:=((decide ((BD (List.take (Int.toNat hb-Int.toNat q.fAt) (List.drop (Int.toNat q.fAt) r1.2.fS)))=1))||(decide (r1.2.fAt=hb)))) Aa (λho=>?_) (λho=>?_)
  ·have hC:=AK ho hr;refine Al (wv (r:=rB false) (Ae Aa) (Av (A1 (Af ?_))));obtain rfl:=A2 hC;exact A0 (Ce Tryz.results162 (AO Aa)) (sC (sC sN)) ⟨v4,Aa,Aa⟩
  ·have hD:=AL ho hr;refine A4 (AW (AX [(0,rv (.pointer (some ⟨ha,0,none⟩))),(5,rI .i64 (Bw (List.take (Int.toNat hb-Int.toNat q.fAt) (List.drop (Int.toNat q.fAt) r1.2.fS))))] [.blk ha [rS r1.2.fS,rI .i64 hb,rv v4,rB (r1.2.fGreat||(!decide ((BD (List.take (Int.toNat hb-Int.toNat q.fAt) (List.drop (Int.toNat q.fAt) r1.2.fS)))=0)))] 142,.row v4 63 4 (List.map Ac r1.2.fCells)] ?_ ?_))
   ·refine At (wm Aa (wm Aa (wv (Ar Aa) (wv (Ad Bx Aa Hx Aa Aa) (wv (Au (i:=0) SH Aa Aa Aa) (wm Aa (Bb (r1.2.fGreat) (λhh=>?_) (λhh=>?_))))))))
    ·refine wf hh (wf hh (wv (r:=rB true) (A7 (b:=r1.2.fGreat) rfl hh rfl) (wv (Ar rfl) (wv (Ad Bx rfl Hx rfl rfl) (Bu (i:=0) Hx rfl rfl (BV rfl) rfl rfl (cs':=[rS r1.2.fS,rI .i64 hb,rv v4,rB true]) rfl (H':=[.blk ha [rS r1.2.fS,rI .i64 hb,rv v4,rB true] 142,.row v4 63 4 (List.map Ac r1.2.fCells)]) rfl (Aw (Hy (H':=[.blk ha [rS r1.2.fS,rI .i64 hb,rv v4,rB (r1.2.fGreat||(!decide ((BD (List.take (Int.toNat hb-Int.toNat q.fAt) (List.drop (Int.toNat q.fAt) r1.2.fS)))=0)))] 142,.row v4 63 4 (List.map Ac r1.2.fCells)]) (by simp only[hh,Yv,Y5,YJ,Y0,Y7,YA,YK,YB,Ys,Y9,Ym,Yj]) ?_)))))));exact wt
    ·refine wo hh (wm rfl (wo hh (wv (CX rfl rfl) (HU rfl hh rfl (wv (Ar rfl) (wv (Ad Bx rfl Hx rfl rfl) (Bu (i:=0) Hx rfl rfl (BV rfl) rfl rfl (cs':=[rS r1.2.fS,rI .i64 hb,rv v4,rB (!decide ((BD (List.take (Int.toNat hb-Int.toNat q.fAt) (List.drop (Int.toNat q.fAt) r1.2.fS)))=0))]) rfl (H':=[.blk ha [rS r1.2.fS,rI .i64 hb,rv v4,rB (!decide ((BD (List.take (Int.toNat hb-Int.toNat q.fAt) (List.drop (Int.toNat q.fAt) r1.2.fS)))=0))] 142,.row v4 63 4 (List.map Ac r1.2.fCells)]) rfl (Aw (Hy (H':=[.blk ha [rS r1.2.fS,rI .i64 hb,rv v4,rB (r1.2.fGreat||(!decide ((BD (List.take (Int.toNat hb-Int.toNat q.fAt) (List.drop (Int.toNat q.fAt) r1.2.fS)))=0)))] 142,.row v4 63 4 (List.map Ac r1.2.fCells)]) (by simp only[hh,Yv,Y5,YJ,Y0,Y7,YA,YK,YB,Ys,Y9,Ym,Yj]) ?_)))))))));exact wt
   refine Al (wm Aa (wm Aa (wv (Ar Aa) (wv (Ad Bx Aa Cp Aa Aa) (wv (Au (i:=0) DG Aa Aa Aa) (wm Aa (wv (r:=Bg [rI .i64 3,rI .i64 (Bw (List.take (Int.toNat hb-Int.toNat q.fAt) (List.drop (Int.toNat q.fAt) r1.2.fS))),rS ([]:Ah),rI .i64 0]) (DO Aa Aa Aa Aa) (Bc (ys:=([(Ab.mk 3 (Bw (List.take (Int.toNat hb-Int.toNat q.fAt) (List.drop (Int.toNat q.fAt) r1.2.fS))) ([]:Ah) 0)]:List Ab)) (enc:=Ac) (css:=[[rI .i64 3,rI .i64 (Bw (List.take (Int.toNat hb-Int.toNat q.fAt) (List.drop (Int.toNat q.fAt) r1.2.fS))),rS ([]:Ah),rI .i64 0]]) (xs:=[.tmp 99]) Cb C3 HS Aa Aa Aa ⟨G2.agg ⟨Up.refl _,Up.refl _,Up.refl _,Up.refl _,trivial⟩,trivial⟩ Aa Bi Aa Aa Aa (λhs=>?_)))))))));obtain⟨hE,hG⟩:=A8 hD;obtain⟨inf,hinf⟩:=HE;refine BX (xs:=r1.2.fCells) (ys:=([(Ab.mk 3 (Bw (List.take (Int.toNat hb-Int.toNat q.fAt) (List.drop (Int.toNat q.fAt) r1.2.fS))) ([]:Ah) 0)]:List Ab)) (enc:=Ac) (i:=2) Cb hinf.1 hinf.2.1 hinf.2.2.1 hinf.2.2.2 Aa Aa Aa Aa Aa (J0.w (i:=0) Aa Aa) Bi C1 hE Aa (λhi=>?_);refine wv (Ar Aa) (wv (Ad Bx Aa Cp Aa Aa) (Bu (i:=2) Cp Aa Aa (CG (i:=0) Aa) Aa Aa (cs':=[rS r1.2.fS,rI .i64 hb,rv hi,rB (r1.2.fGreat||(!decide ((BD (List.take (Int.toNat hb-Int.toNat q.fAt) (List.drop (Int.toNat q.fAt) r1.2.fS)))=0)))]) Aa (H':=[.row hi 63 4 (List.map Ac (r1.2.fCells++([(Ab.mk 3 (Bw (List.take (Int.toNat hb-Int.toNat q.fAt) (List.drop (Int.toNat q.fAt) r1.2.fS))) ([]:Ah) 0)]:List Ab))),.row (.slice (some ⟨hs,0,none⟩) 1 1) 63 4 (List.map Ac ([(Ab.mk 3 (Bw (List.take (Int.toNat hb-Int.toNat q.fAt) (List.drop (Int.toNat q.fAt) r1.2.fS))) ([]:Ah) 0)]:List Ab)),.blk ha [rS r1.2.fS,rI .i64 hb,rv hi,rB (r1.2.fGreat||(!decide ((BD (List.take (Int.toNat hb-Int.toNat q.fAt) (List.drop (Int.toNat q.fAt) r1.2.fS)))=0)))] 142]) Aa (By (wv (r:=rB true) (Ae Aa) (Av (A1 (BN (H2:=[.blk ha [rS r1.2.fS,rI .i64 hb,rv hi,rB (r1.2.fGreat||(!decide ((BD (List.take (Int.toNat hb-Int.toNat q.fAt) (List.drop (Int.toNat q.fAt) r1.2.fS)))=0)))] 142,.row hi 63 4 (List.map Ac (r1.2.fCells++([(Ab.mk 3 (Bw (List.take (Int.toNat hb-Int.toNat q.fAt) (List.drop (Int.toNat q.fAt) r1.2.fS))) ([]:Ah) 0)]:List Ab))),.row (.slice (some ⟨hs,0,none⟩) 1 1) 63 4 (List.map Ac ([(Ab.mk 3 (Bw (List.take (Int.toNat hb-Int.toNat q.fAt) (List.drop (Int.toNat q.fAt) r1.2.fS))) ([]:Ah) 0)]:List Ab))]) ((Ai (i:=2) Aa).trans (Yh _ (Yi _))) ?_)))))));obtain rfl:=A2 hG;exact A0 (Ce Tryz.results162 (AO Aa)) (sC (sC (sS sN))) ⟨hi,Aa,Aa⟩
theorem PU (F:Nat)(hb:Nat)(hj:Value)(q:Ao)(r:Bool×Ao)(h:He F q=some r):Fn Tryz.prog GE 125 [rv (.pointer (some ⟨hb,0,none⟩))] [.blk hb [rS q.fS,rI .i64 q.fAt,rv hj,rB q.fGreat] 142,.row hj 63 4 (List.map Ac q.fCells)] (λR H=>∃w0_2:Value,R=rB r.1∧H=[.blk hb [rS r.2.fS,rI .i64 r.2.fAt,rv w0_2,rB r.2.fGreat] 142,.row w0_2 63 4 (List.map Ac r.2.fCells)]):=by
 refine enter (n:=75) Tryz.func125 Aa Tryz.ntmps125 Aa (λw Z=>?_);refine Be (l':=[(0,rv (.pointer (some ⟨hb,0,none⟩)))]) (H':=[.blk hb [rS q.fS,rI .i64 q.fAt,rv hj,rB q.fGreat] 142,.row hj 63 4 (List.map Ac q.fCells)]) Aa Aa ?_;unfold He at h;refine Al (wv (r:=rB false) (Ae Aa) (Av (CZ (S:=(Ah×Int×(List Ab)×Bool)×(Value)) (λσ=>Dv σ.1.1 σ.1.2.1 σ.1.2.2.1 σ.1.2.2.2=some r) (λσ=>[]) (λσ=>[.blk hb [rS σ.1.1,rI .i64 σ.1.2.1,rv σ.2,rB σ.1.2.2.2] 142,.row σ.2 63 4 (List.map Ac σ.1.2.2.1)]) ?_ ?_)))
 ·refine AY (Al (wm Aa ?_));obtain⟨he,h7,hs⟩:=AM h;refine EL (Hr:=[]) Gg (Db hb hj q ([110,117,108,108]:Ah) he h7) Aa (Yi _) Aa ?_;rintro _ _ ⟨h8,rfl,rfl⟩;refine wa Aa (Av (Az (b:=he.1) Aa (λhm=>?_) (λhm=>?_)))
  ·have h9:=AK hm hs;refine At (wm Aa (wm Aa (wv (Ar Aa) (wv (Ad Bx Aa Cp Aa Aa) (wv (Au (i:=0) DG Aa Aa Aa) (wv (r:=Bg [rI .i64 1,rI .i64 0,rS ([]:Ah),rI .i64 0]) (Eg Aa Aa) (Bc (ys:=([(Ab.mk 1 0 ([]:Ah) 0)]:List Ab)) (enc:=Ac) (css:=[[rI .i64 1,rI .i64 0,rS ([]:Ah),rI .i64 0]]) (xs:=[.tmp 15]) Cb C3 HS Aa Aa Aa ⟨G2.agg ⟨Up.refl _,Up.refl _,Up.refl _,Up.refl _,trivial⟩,trivial⟩ Aa Bi Aa Aa Aa (λht=>?_))))))));obtain⟨hA,hB⟩:=A8 h9;obtain⟨inf,hinf⟩:=HE;refine BX (xs:=he.2.fCells) (ys:=([(Ab.mk 1 0 ([]:Ah) 0)]:List Ab)) (enc:=Ac) (i:=2) Cb hinf.1 hinf.2.1 hinf.2.2.1 hinf.2.2.2 Aa Aa Aa Aa Aa (J0.w (i:=0) Aa Aa) Bi C1 hA Aa (λhg=>?_);exact wv (Ar Aa) (wv (Ad Bx Aa Cp Aa Aa) (Bu (i:=2) Cp Aa Aa (CG (i:=0) Aa) Aa Aa (cs':=[rS he.2.fS,rI .i64 he.2.fAt,rv hg,rB he.2.fGreat]) Aa (H':=[.row hg 63 4 (List.map Ac (he.2.fCells++([(Ab.mk 1 0 ([]:Ah) 0)]:List Ab))),.row (.slice (some ⟨ht,0,none⟩) 1 1) 63 4 (List.map Ac ([(Ab.mk 1 0 ([]:Ah) 0)]:List Ab)),.blk hb [rS he.2.fS,rI .i64 he.2.fAt,rv hg,rB he.2.fGreat] 142]) Aa (Aw (AV (BN (H2:=[.blk hb [rS he.2.fS,rI .i64 he.2.fAt,rv hg,rB he.2.fGreat] 142,.row hg 63 4 (List.map Ac (he.2.fCells++([(Ab.mk 1 0 ([]:Ah) 0)]:List Ab))),.row (.slice (some ⟨ht,0,none⟩) 1 1) 63 4 (List.map Ac ([(Ab.mk 1 0 ([]:Ah) 0)]:List Ab))]) ((Ai (i:=2) Aa).trans (Yh _ (Yi _))) (AA (AU ((he.2.fS,he.2.fAt,he.2.fCells++([(Ab.mk 1 0 ([]:Ah) 0)]:List Ab),he.2.fGreat),hg) hB AT.nil (sC (sC (sS sN))))))))))
  ·have hC:=AL hm hs;refine Al (wm Aa ?_);obtain⟨hf,hD,hu⟩:=AM hC;refine EL (Hr:=[]) Gg (Db hb h8 he.2 ([116,114,117,101]:Ah) hf hD) Aa (Yi _) Aa ?_;rintro _ _ ⟨v76,rfl,rfl⟩;refine wa Aa (Av (Az (b:=hf.1) Aa (λhn=>?_) (λhn=>?_)))
   ·have hE:=AK hn hu;refine At (wm Aa (wm Aa (wv (Ar Aa) (wv (Ad Bx Aa Cp Aa Aa) (wv (Au (i:=0) DG Aa Aa Aa) (wv (r:=Bg [rI .i64 2,rI .i64 1,rS ([]:Ah),rI .i64 0]) (DO Aa Aa Aa Aa) (Bc (ys:=([(Ab.mk 2 1 ([]:Ah) 0)]:List Ab)) (enc:=Ac) (css:=[[rI .i64 2,rI .i64 1,rS ([]:Ah),rI .i64 0]]) (xs:=[.tmp 28]) Cb C3 HS Aa Aa Aa ⟨G2.agg ⟨Up.refl _,Up.refl _,Up.refl _,Up.refl _,trivial⟩,trivial⟩ Aa Bi Aa Aa Aa (λhw=>?_))))))));obtain⟨hG,hH⟩:=A8 hE;obtain⟨inf,hinf⟩:=HE;refine BX (xs:=hf.2.fCells) (ys:=([(Ab.mk 2 1 ([]:Ah) 0)]:List Ab)) (enc:=Ac) (i:=2) Cb hinf.1 hinf.2.1 hinf.2.2.1 hinf.2.2.2 Aa Aa Aa Aa Aa (J0.w (i:=0) Aa Aa) Bi C1 hG Aa (λv80=>?_);exact wv (Ar Aa) (wv (Ad Bx Aa Cp Aa Aa) (Bu (i:=2) Cp Aa Aa (CG (i:=0) Aa) Aa Aa (cs':=[rS hf.2.fS,rI .i64 hf.2.fAt,rv v80,rB hf.2.fGreat]) Aa (H':=[.row v80 63 4 (List.map Ac (hf.2.fCells++([(Ab.mk 2 1 ([]:Ah) 0)]:List Ab))),.row (.slice (some ⟨hw,0,none⟩) 1 1) 63 4 (List.map Ac ([(Ab.mk 2 1 ([]:Ah) 0)]:List Ab)),.blk hb [rS hf.2.fS,rI .i64 hf.2.fAt,rv v80,rB hf.2.fGreat] 142]) Aa (Aw (AV (BN (H2:=[.blk hb [rS hf.2.fS,rI .i64 hf.2.fAt,rv v80,rB hf.2.fGreat] 142,.row v80 63 4 (List.map Ac (hf.2.fCells++([(Ab.mk 2 1 ([]:Ah) 0)]:List Ab))),.row (.slice (some ⟨hw,0,none⟩) 1 1) 63 4 (List.map Ac ([(Ab.mk 2 1 ([]:Ah) 0)]:List Ab))]) ((Ai (i:=2) Aa).trans (Yh _ (Yi _))) (AA (AU ((hf.2.fS,hf.2.fAt,hf.2.fCells++([(Ab.mk 2 1 ([]:Ah) 0)]:List Ab),hf.2.fGreat),v80) hH AT.nil (sC (sC (sS sN))))))))))
   ·have hI:=AL hn hu;refine Al (wm Aa ?_);obtain⟨hd,hJ,hx⟩:=AM hI;refine EL (Hr:=[]) Gg (Db hb v76 hf.2 ([102,97,108,115,101]:Ah) hd hJ) Aa (Yi _) Aa ?_;rintro _ _ ⟨hy,rfl,rfl⟩;refine wa Aa (Av (Az (b:=hd.1) Aa (λho=>?_) (λho=>?_)))
    ·have hK:=AK ho hx;refine At (wm Aa (wm Aa (wv (Ar Aa) (wv (Ad Bx Aa Cp Aa Aa) (wv (Au (i:=0) DG Aa Aa Aa) (wv (r:=Bg [rI .i64 2,rI .i64 0,rS ([]:Ah),rI .i64 0]) (Eg Aa Aa) (Bc (ys:=([(Ab.mk 2 0 ([]:Ah) 0)]:List Ab)) (enc:=Ac) (css:=[[rI .i64 2,rI .i64 0,rS ([]:Ah),rI .i64 0]]) (xs:=[.tmp 41]) Cb C3 HS Aa Aa Aa ⟨G2.agg ⟨Up.refl _,Up.refl _,Up.refl _,Up.refl _,trivial⟩,trivial⟩ Aa Bi Aa Aa Aa (λhz=>?_))))))));obtain⟨hL,hN⟩:=A8 hK;obtain⟨inf,hinf⟩:=HE;refine BX (xs:=hd.2.fCells) (ys:=([(Ab.mk 2 0 ([]:Ah) 0)]:List Ab)) (enc:=Ac) (i:=2) Cb hinf.1 hinf.2.1 hinf.2.2.1 hinf.2.2.2 Aa Aa Aa Aa Aa (J0.w (i:=0) Aa Aa) Bi C1 hL Aa (λhh=>?_);exact wv (Ar Aa) (wv (Ad Bx Aa Cp Aa Aa) (Bu (i:=2) Cp Aa Aa (CG (i:=0) Aa) Aa Aa (cs':=[rS hd.2.fS,rI .i64 hd.2.fAt,rv hh,rB hd.2.fGreat]) Aa (H':=[.row hh 63 4 (List.map Ac (hd.2.fCells++([(Ab.mk 2 0 ([]:Ah) 0)]:List Ab))),.row (.slice (some ⟨hz,0,none⟩) 1 1) 63 4 (List.map Ac ([(Ab.mk 2 0 ([]:Ah) 0)]:List Ab)),.blk hb [rS hd.2.fS,rI .i64 hd.2.fAt,rv hh,rB hd.2.fGreat] 142]) Aa (Aw (AV (BN (H2:=[.blk hb [rS hd.2.fS,rI .i64 hd.2.fAt,rv hh,rB hd.2.fGreat] 142,.row hh 63 4 (List.map Ac (hd.2.fCells++([(Ab.mk 2 0 ([]:Ah) 0)]:List Ab))),.row (.slice (some ⟨hz,0,none⟩) 1 1) 63 4 (List.map Ac ([(Ab.mk 2 0 ([]:Ah) 0)]:List Ab))]) ((Ai (i:=2) Aa).trans (Yh _ (Yi _))) (AA (AU ((hd.2.fS,hd.2.fAt,hd.2.fCells++([(Ab.mk 2 0 ([]:Ah) 0)]:List Ab),hd.2.fGreat),hh) hN AT.nil (sC (sC (sS sN))))))))))
    ·have hO:=AL ho hx;refine As ?_;obtain⟨hP,hQ⟩:=A8 hO;obtain⟨hk,hR,h0⟩:=AM hQ;refine CD [0] [⟨[],rv (.pointer (some ⟨hb,0,none⟩)),0⟩,⟨[0],rv (.pointer (some ⟨hb,0,none⟩)),0⟩,⟨[1],rv (.pointer (some ⟨hb,0,none⟩)),0⟩,⟨[2],rS hd.2.fS,1⟩,⟨[],rv (.pointer (some ⟨hb,0,none⟩)),0⟩,⟨[4],rv (.pointer (some ⟨hb,0,none⟩)),0⟩,⟨[5],rv (.pointer (some ⟨hb,1,none⟩)),0⟩,⟨[6],rI .i64 hd.2.fAt,1⟩,⟨[3,7],rS (List.drop (Int.toNat hd.2.fAt) hd.2.fS),0⟩,⟨[8],rB hk,0⟩,⟨[9],rB hk,0⟩] [46,0] ?_ ?_
     ·refine oq (Aq Aa) (oq (Ar Aa) (oq (Ad Bx Aa CM Aa Aa) (of (Au (i:=0) Dk Aa Aa Aa) (oq (Aq Aa) (oq (Ar Aa) (oq (Ad Bx Aa C4 Aa Aa) (of (Au (i:=0) D8 Aa Aa Aa) (oq (DY CC Aa Aa hP) (CU Aa (λH=>G8 Tryz.call161 (Lg (List.drop (Int.toNat hd.2.fAt) hd.2.fS) ([34]:Ah) hk hR) Aa) ?_)))))))));refine oq (Ae Aa) ?_;exact Cn
     refine AW (Az (b:=hk) Aa (λhp=>?_) (λhp=>?_))
     ·have hS:=AK hp h0;refine Al (wm Aa ?_);obtain⟨ha,hT,h1⟩:=AM hS;refine EL (Hr:=[]) Tryz.call126 (QH F hb hy hd.2 ha hT) Aa (Yi _) Aa ?_;rintro _ _ ⟨hU,rfl,rfl⟩;refine wm Aa (wv (AB Aa Aa) (wv (AB Aa Aa) (wa Aa (wa Aa (Av (As (Al (wm Aa (wv (BT Aa) (Av (Az (b:=!ha.2.1) Aa (λhq=>?_) (λhq=>?_))))))))))))
      ·have hV:=AK hq h1;refine Al (wv (r:=rB false) (Ae Aa) (Av (A1 (Af (AC (Af ?_))))));obtain rfl:=A2 hV;exact A0 (Ce Tryz.results125 (AO Aa)) (sC (sC sN)) ⟨hU,Aa,Aa⟩
      ·have hW:=AL hq h1;refine A4 (AW (At (wm Aa (wm Aa (wv (Ar Aa) (wv (Ad Bx Aa Cp Aa Aa) (wv (Au (i:=0) DG Aa Aa Aa) (wm Aa (wv (r:=Bg [rI .i64 4,rI .i64 0,rS ha.1,rI .i64 0]) (IW Aa Aa Aa Aa) (Bc (ys:=([(Ab.mk 4 0 ha.1 0)]:List Ab)) (enc:=Ac) (css:=[[rI .i64 4,rI .i64 0,rS ha.1,rI .i64 0]]) (xs:=[.tmp 70]) Cb C3 HS Aa Aa Aa ⟨G2.agg ⟨Up.refl _,Up.refl _,Up.refl _,Up.refl _,trivial⟩,trivial⟩ Aa Bi Aa Aa Aa (λh2=>?_)))))))))));obtain⟨hX,hY⟩:=A8 hW;obtain⟨inf,hinf⟩:=HE;refine BX (xs:=ha.2.2.fCells) (ys:=([(Ab.mk 4 0 ha.1 0)]:List Ab)) (enc:=Ac) (i:=2) Cb hinf.1 hinf.2.1 hinf.2.2.1 hinf.2.2.2 Aa Aa Aa Aa Aa (J0.w (i:=0) Aa Aa) Bi C1 hX Aa (λhi=>?_);exact wv (Ar Aa) (wv (Ad Bx Aa Cp Aa Aa) (Bu (i:=2) Cp Aa Aa (CG (i:=0) Aa) Aa Aa (cs':=[rS ha.2.2.fS,rI .i64 ha.2.2.fAt,rv hi,rB ha.2.2.fGreat]) Aa (H':=[.row hi 63 4 (List.map Ac (ha.2.2.fCells++([(Ab.mk 4 0 ha.1 0)]:List Ab))),.row (.slice (some ⟨h2,0,none⟩) 1 1) 63 4 (List.map Ac ([(Ab.mk 4 0 ha.1 0)]:List Ab)),.blk hb [rS ha.2.2.fS,rI .i64 ha.2.2.fAt,rv hi,rB ha.2.2.fGreat] 142]) Aa (Aw (AV (BN (H2:=[.blk hb [rS ha.2.2.fS,rI .i64 ha.2.2.fAt,rv hi,rB ha.2.2.fGreat] 142,.row hi 63 4 (List.map Ac (ha.2.2.fCells++([(Ab.mk 4 0 ha.1 0)]:List Ab))),.row (.slice (some ⟨h2,0,none⟩) 1 1) 63 4 (List.map Ac ([(Ab.mk 4 0 ha.1 0)]:List Ab))]) ((Ai (i:=2) Aa).trans (Yh _ (Yi _))) (AA (AU ((ha.2.2.fS,ha.2.2.fAt,ha.2.2.fCells++([(Ab.mk 4 0 ha.1 0)]:List Ab),ha.2.2.fGreat),hi) hY AT.nil (sC (sC (sS sN))))))))))
     ·have hZ:=AL hp h0;refine Al (wm Aa ?_);obtain⟨ga,gb,gc⟩:=AM hZ;refine EL (Hr:=[]) Tryz.call162 (Vn F hb hy hd.2 ga gb) Aa (Yi _) Aa ?_;rintro _ _ ⟨gd,rfl,rfl⟩;refine wa Aa (Av (A1 (AC (Af ?_))));obtain rfl:=A2 gc;exact A0 (Ce Tryz.results125 (AO Aa)) (sC (sC sN)) ⟨gd,Aa,Aa⟩
 ·rintro⟨⟨h3,h4,h5,h6⟩,hr⟩ hl;refine Be (l':=[]) (H':=[.blk hb [rS h3,rI .i64 h4,rv hr,rB h6] 142,.row hr 63 4 (List.map Ac h5)]) Aa Aa ?_;replace hl:Dv h3 h4 h5 h6=some r:=hl;unfold Dv at hl;refine Al (wv (r:=rB true) (Ae Aa) (Av (A1 ?_)));obtain rfl:=A2 hl;exact A0 (Ce Tryz.results125 (AO Aa)) (sC (sC sN)) ⟨hr,Aa,Aa⟩
theorem PS (F:Nat)(hl:Ao→Option (Bool×Ao))(gp:(∀(hb:Nat) (hp:Value) (q:Ao) (r:Bool×Ao),hl q=some r→Fn Tryz.prog GE 99 [rv (.pointer (some ⟨hb,0,none⟩))] [.blk hb [rS q.fS,rI .i64 q.fAt,rv hp,rB q.fGreat] 142,.row hp 63 4 (List.map Ac q.fCells)] (λR H=>∃w0_2:Value,R=rB r.1∧H=[.blk hb [rS r.2.fS,rI .i64 r.2.fAt,rv w0_2,rB r.2.fGreat] 142,.row w0_2 63 4 (List.map Ac r.2.fCells)])))(hb:Nat)(hp:Value)(q:Ao)(r:Bool×Ao)(h:J6 F hl q=some r):Fn Tryz.prog GE 99 [rv (.pointer (some ⟨hb,0,none⟩))] [.blk hb [rS q.fS,rI .i64 q.fAt,rv hp,rB q.fGreat] 142,.row hp 63 4 (List.map Ac q.fCells)] (λR H=>∃w0_2:Value,R=rB r.1∧H=[.blk hb [rS r.2.fS,rI .i64 r.2.fAt,rv w0_2,rB r.2.fGreat] 142,.row w0_2 63 4 (List.map Ac r.2.fCells)]):=by
 refine enter (n:=96) Tryz.func99 Aa Tryz.ntmps99 Aa (λw Z=>?_);refine Be (l':=[(0,rv (.pointer (some ⟨hb,0,none⟩)))]) (H':=[.blk hb [rS q.fS,rI .i64 q.fAt,rv hp,rB q.fGreat] 142,.row hp 63 4 (List.map Ac q.fCells)]) Aa Aa ?_;unfold J6 at h;refine Al (wv (r:=rB false) (Ae Aa) (By (wm Aa ?_)));obtain⟨r1,e3,h2⟩:=AM h;refine EL (Hr:=[]) Gg (Db hb hp q ([91]:Ah) r1 e3) Aa (Yi _) Aa ?_;rintro _ _ ⟨v4,rfl,rfl⟩;refine wa Aa (Av (As (CZ (S:=(Bool×Ah×Int×(List Ab)×Bool)×(Value)) (λσ=>Du F hl r1 σ.1.1 σ.1.2.1 σ.1.2.2.1 σ.1.2.2.2.1 σ.1.2.2.2.2=some r) (λσ=>[(0,rv (.pointer (some ⟨hb,0,none⟩))),(2,rB false),(3,rB r1.1),(19,rB σ.1.1)]) (λσ=>[.blk hb [rS σ.1.2.1,rI .i64 σ.1.2.2.1,rv σ.2,rB σ.1.2.2.2.2] 142,.row σ.2 63 4 (List.map Ac σ.1.2.2.2.1)]) ?_ ?_)))
 ·refine At (wm Aa (wv (BT Aa) (wm Aa (Bb (!r1.1) (λhh=>?_) (λhh=>?_)))))
  ·have gC:=AK hh h2;refine wo hh (wm Aa (wo hh ?_));obtain⟨hr,gD,gE⟩:=AM gC;refine EL (Hr:=[]) Gg (Db hb v4 r1.2 ([123]:Ah) hr gD) Aa (Yi _) Aa ?_;rintro _ _ ⟨v24,rfl,rfl⟩;exact wo hh (wv (BT Aa) (Jx Aa hh Aa (Aw (AA (AU ((!hr.1,hr.2.fS,hr.2.fAt,hr.2.fCells,hr.2.fGreat),v24) gE (AT.c Aa (AT.c Aa (AT.c Aa (AT.c Aa AT.nil)))) (sC (sC sN)))))))
  ·have gF:=AL hh h2;exact wf hh (wf hh (wf hh (wv (r:=rB false) (AP (b:=!r1.1) Aa hh Aa) (Aw (AA (AU ((false,r1.2.fS,r1.2.fAt,r1.2.fCells,r1.2.fGreat),v4) gF (AT.c Aa (AT.c Aa (AT.c Aa (AT.c Aa AT.nil)))) (sC (sC sN))))))))
 ·rintro⟨⟨hJ,hm,hn,x16,ho⟩,hK⟩ h0;refine Be (l':=[(0,rv (.pointer (some ⟨hb,0,none⟩))),(2,rB false),(3,rB r1.1),(19,rB hJ)]) (H':=[.blk hb [rS hm,rI .i64 hn,rv hK,rB ho] 142,.row hK 63 4 (List.map Ac x16)]) Aa Aa ?_;replace h0:Du F hl r1 hJ hm hn x16 ho=some r:=h0;unfold Du at h0;refine Az (b:=hJ) Aa (λhL=>?_) (λhL=>?_)
  ·have gG:=AK hL h0;refine Al (wm Aa ?_);obtain⟨gH,gI,gJ⟩:=AM gG;refine EL (Hr:=[]) Tryz.call125 (PU F hb hK (Ao.mk hm hn x16 ho) gH gI) Aa (Yi _) Aa ?_;rintro _ _ ⟨v32,rfl,rfl⟩;refine wa Aa (Av (A1 (Af ?_)));obtain rfl:=A2 gJ;exact A0 (Ce MD (AO Aa)) (sC (sC sN)) ⟨v32,Aa,Aa⟩
  ·have gq:=AL hL h0;refine A4 (AW (Al (wv (r:=rI .i64 6) (Ae Aa) (wv (r:=rS ([125]:Ah)) (Ae Aa) (Av (As (Al (wm Aa (Av (Az (b:=r1.1) Aa (λh1=>?_) (λh1=>?_)))))))))))
   ·have gK:=AK h1 gq;refine At (wv (r:=rI .i64 5) (Ae Aa) (wv (r:=rS ([93]:Ah)) (Ae Aa) (By (wm Aa (wv (Ar Aa) (wv (Ad Bx Aa Cp Aa Aa) (wv (Au (i:=0) DG Aa Aa Aa) (wv (CL (ys:=x16) (enc:=Ac) (i:=1) Cb Aa Aa) (wa Aa (By (wm Aa (wm Aa (wv (Ar Aa) (wv (Ad Bx Aa Cp Aa Aa) (wv (Au (i:=0) DG Aa Aa Aa) (wm Aa (wv (r:=Bg [rI .i64 5,rI .i64 0,rS ([]:Ah),rI .i64 0]) (Eg Aa Aa) (Bc (ys:=([(Ab.mk 5 0 ([]:Ah) 0)]:List Ab)) (enc:=Ac) (css:=[[rI .i64 5,rI .i64 0,rS ([]:Ah),rI .i64 0]]) (xs:=[.tmp 34]) Cb C3 HS Aa Aa Aa ⟨G2.agg ⟨Up.refl _,Up.refl _,Up.refl _,Up.refl _,trivial⟩,trivial⟩ Aa Bi Aa Aa Aa (λgr=>?_)))))))))))))))))));obtain⟨gL,gM⟩:=A8 gK;obtain⟨inf,hinf⟩:=HE;refine BX (xs:=x16) (ys:=([(Ab.mk 5 0 ([]:Ah) 0)]:List Ab)) (enc:=Ac) (i:=2) Cb hinf.1 hinf.2.1 hinf.2.2.1 hinf.2.2.2 Aa Aa Aa Aa Aa (J0.w (i:=0) Aa Aa) Bi C1 gL Aa (λv37=>?_);refine wv (Ar Aa) (wv (Ad Bx Aa Cp Aa Aa) (Bu (i:=2) Cp Aa Aa (CG (i:=0) Aa) Aa Aa (cs':=[rS hm,rI .i64 hn,rv v37,rB ho]) Aa (H':=[.row v37 63 4 (List.map Ac (x16++([(Ab.mk 5 0 ([]:Ah) 0)]:List Ab))),.row (.slice (some ⟨gr,0,none⟩) 1 1) 63 4 (List.map Ac ([(Ab.mk 5 0 ([]:Ah) 0)]:List Ab)),.blk hb [rS hm,rI .i64 hn,rv v37,rB ho] 142]) Aa (Av (As (Al (wm Aa (wm Aa ?_)))))));obtain⟨hs,gN,gs⟩:=AM gM;refine EL (Hr:=[.row (.slice (some ⟨gr,0,none⟩) 1 1) 63 4 (List.map Ac ([(Ab.mk 5 0 ([]:Ah) 0)]:List Ab))]) Gg (Db hb v37 (Ao.mk hm hn (x16++([(Ab.mk 5 0 ([]:Ah) 0)]:List Ab)) ho) ([93]:Ah) hs gN) Aa ((Ai (i:=2) Aa).trans (Yh _ (Yi _))) Aa ?_;rintro _ _ ⟨gt,rfl,rfl⟩;refine Av (Az (b:=hs.1) Aa (λhN=>?_) (λhN=>?_))
    ·have gO:=AK hN gs;refine Al (wv (r:=rB true) (Ae Aa) (Av (A1 (Af ?_))));obtain rfl:=A2 gO;exact A0 (Ce MD (AO Aa)) (sC (sC (sS sN))) ⟨gt,Aa,Aa⟩
    ·have gP:=AL hN gs;refine A4 (AW (Al (wv (r:=rS ([]:Ah)) (Ae Aa) (By (wv (r:=rI .i64 1) (Ae Aa) (Av (AY ?_)))))));obtain⟨gQ,gR,hO⟩:=AM gP;refine BJ (S:=Nat×(Int×Ah×Int×(List Ab)×Bool)×(Value)) (V:=(Unit)×(Unit)) 0 (λσ=>Ch (λσ=>DW hl x16 σ.1 σ.2.1 σ.2.2.1 σ.2.2.2.1 σ.2.2.2.2) σ.1 σ.2.1=some gQ) (λσ=>[(0,rv (.pointer (some ⟨hb,0,none⟩))),(2,rB false),(3,rB r1.1),(5,rS ([93]:Ah)),(6,rI .i64 (x16.length:Int)),(7,rS ([]:Ah)),(8,rI .i64 σ.2.1.1)]) (λσ=>[.blk hb [rS σ.2.1.2.1,rI .i64 σ.2.1.2.2.1,rv σ.2.2,rB σ.2.1.2.2.2.2] 142,.row σ.2.2 63 4 (List.map Ac σ.2.1.2.2.2.1)]) (λσ=>σ.1) (F,(1,hs.2.fS,hs.2.fAt,hs.2.fCells,hs.2.fGreat),gt) gR (AT.c Aa (AT.c Aa (AT.c5 Aa Aa Aa Aa Aa AT.nil))) (sC (sC (sS sN))) (λσ=>Gl =some r) (λσ=>[]) (λσ=>[]) ?_ ?_
     ·rintro⟨xa,⟨h3,hP,hQ,hR,hS⟩,hT⟩ gS;refine Be (l':=[(0,rv (.pointer (some ⟨hb,0,none⟩))),(2,rB false),(3,rB r1.1),(5,rS ([93]:Ah)),(6,rI .i64 (x16.length:Int)),(7,rS ([]:Ah)),(8,rI .i64 h3)]) (H':=[.blk hb [rS hP,rI .i64 hQ,rv hT,rB hS] 142,.row hT 63 4 (List.map Ac hR)]) Aa Aa ?_;obtain⟨gT,rfl,gU,hB,hC⟩:=Dh gS;replace hB:DW hl x16 h3 hP hQ hR hS=some gU:=hB;unfold DW at hB;refine As (AY (As (Al (wm Aa (wv (BT Aa) (Av (DA Aa (DE h1) (A4 (AW (As (Al (wm Aa ?_))))))))))));obtain⟨hd,gV,gu⟩:=AM hB;refine EL (Hr:=[]) Tryz.call99 (gp hb hT (Ao.mk hP hQ hR hS) hd gV) Aa (Yi _) Aa ?_;rintro _ _ ⟨ht,rfl,rfl⟩;refine wv (BT Aa) (Av (Az (b:=!hd.1) Aa (λhU=>?_) (λhU=>?_)))
      ·have gW:=AK hU gu;refine Al (wv (r:=rB false) (Ae Aa) (Av (A1 (Af (AC (Af (Af (Bq ?_))))))));have gX:=BF gW hC hO;refine AC ?_;obtain rfl:=A2 gX;exact A0 (Ce MD (AO Aa)) (sC (sC sN)) ⟨ht,Aa,Aa⟩
      ·have gY:=AL hU gu;refine A4 (AW (Al (wm Aa (wv (Ar Aa) (wv (Ad Bx Aa Cp Aa Aa) (wv (Au (i:=0) DG Aa Aa Aa) (wm Aa (wm Aa ?_))))))));obtain⟨hV,gZ⟩:=A8 gY;refine wv (r:=rv (EC 4 ht (Int.toNat (x16.length:Int)) 0)) (Ig (i:=1) Cb C3 Aa Aa Aa (BH hV)) (wv (r:=rv (EC 4 ht (Int.toNat (x16.length:Int)) 3)) (Es (k:=1) Cc Aa C4 Aa (BH hV) Aa Aa Aa) (Ic (enc:=Ac) (ys:=hd.2.fCells) (y':=(Ab.mk ((Aj hd.2.fCells (x16.length:Int)).fKind) ((Aj hd.2.fCells (x16.length:Int)).fInt) ((Aj hd.2.fCells (x16.length:Int)).fStr) h3)) (i:=1) (j:=(x16.length:Int)) C4 Aa Aa (BV Aa) Aa hV Aa Aa (H':=[.blk hb [rS hd.2.fS,rI .i64 hd.2.fAt,rv ht,rB hd.2.fGreat] 142,.row ht 63 4 (List.map Ac (List.set hd.2.fCells (Int.toNat (x16.length:Int)) (Ab.mk ((Aj hd.2.fCells (x16.length:Int)).fKind) ((Aj hd.2.fCells (x16.length:Int)).fInt) ((Aj hd.2.fCells (x16.length:Int)).fStr) h3)))]) Aa ?_));obtain⟨ca,cb,cc⟩:=Dq gZ;rw[← cb];refine Av (As (Al (wm Aa (wm Aa ?_))));obtain⟨hW,cd,gv⟩:=AM cc;refine EL (Hr:=[]) Gg (Db hb ht (Ao.mk hd.2.fS hd.2.fAt ca hd.2.fGreat) ([93]:Ah) hW cd) Aa (Yi _) Aa ?_;rintro _ _ ⟨gw,rfl,rfl⟩;refine Av (Az (b:=hW.1) Aa (λc167=>?_) (λc167=>?_))
       ·have ce:=AK c167 gv;refine Al (wv (r:=rB true) (Ae Aa) (Av (A1 (Af (AC (Af (Af (Bq ?_))))))));have cf:=BF ce hC hO;refine AC ?_;obtain rfl:=A2 cf;exact A0 (Ce MD (AO Aa)) (sC (sC sN)) ⟨gw,Aa,Aa⟩
       ·have cg:=AL c167 gv;refine A4 (AW (Al (wm Aa ?_)));obtain⟨hu,ch,gx⟩:=AM cg;refine EL (Hr:=[]) Gg (Db hb gw hW.2 ([44]:Ah) hu ch) Aa (Yi _) Aa ?_;rintro _ _ ⟨gy,rfl,rfl⟩;refine wv (BT Aa) (Av (Az (b:=!hu.1) Aa (λc175=>?_) (λc175=>?_)))
        ·have ci:=AK c175 gx;refine Al (wv (r:=rB false) (Ae Aa) (Av (A1 (AC (Af (Af (Bq ?_)))))));have cj:=BF ci hC hO;refine AC ?_;obtain rfl:=A2 cj;exact A0 (Ce MD (AO Aa)) (sC (sC sN)) ⟨gy,Aa,Aa⟩
        ·have ck:=AL c175 gx;refine A4 (AV (AW (At (wm Aa ?_))));obtain⟨cl,cm⟩:=A8 ck;refine wv (BZ Aa Aa cl) (wa Aa (Aw ?_));have cn:=BG cm hC;exact AA (AU (gT,(h3+1,hu.2.fS,hu.2.fAt,hu.2.fCells,hu.2.fGreat),gy) ⟨cn,Y1 _⟩ (AT.c Aa (AT.c Aa (AT.c5 Aa Aa Aa Aa Aa AT.nil))) (sC (sC sN)))
     ·rintro⟨⟨⟩,⟨⟩⟩ co
      cases co
   ·have cp:=AL h1 gq;refine A4 (AW (Al (wm Aa (wv (Ar Aa) (wv (Ad Bx Aa Cp Aa Aa) (wv (Au (i:=0) DG Aa Aa Aa) (wv (CL (ys:=x16) (enc:=Ac) (i:=1) Cb Aa Aa) (wa Aa (By (wm Aa (wm Aa (wv (Ar Aa) (wv (Ad Bx Aa Cp Aa Aa) (wv (Au (i:=0) DG Aa Aa Aa) (wm Aa (wv (r:=Bg [rI .i64 6,rI .i64 0,rS ([]:Ah),rI .i64 0]) (Eg Aa Aa) (Bc (ys:=([(Ab.mk 6 0 ([]:Ah) 0)]:List Ab)) (enc:=Ac) (css:=[[rI .i64 6,rI .i64 0,rS ([]:Ah),rI .i64 0]]) (xs:=[.tmp 34]) Cb C3 HS Aa Aa Aa ⟨G2.agg ⟨Up.refl _,Up.refl _,Up.refl _,Up.refl _,trivial⟩,trivial⟩ Aa Bi Aa Aa Aa (λgz=>?_))))))))))))))))));obtain⟨cq,cr⟩:=A8 cp;obtain⟨inf,hinf⟩:=HE;refine BX (xs:=x16) (ys:=([(Ab.mk 6 0 ([]:Ah) 0)]:List Ab)) (enc:=Ac) (i:=2) Cb hinf.1 hinf.2.1 hinf.2.2.1 hinf.2.2.2 Aa Aa Aa Aa Aa (J0.w (i:=0) Aa Aa) Bi C1 cq Aa (λhD=>?_);refine wv (Ar Aa) (wv (Ad Bx Aa Cp Aa Aa) (Bu (i:=2) Cp Aa Aa (CG (i:=0) Aa) Aa Aa (cs':=[rS hm,rI .i64 hn,rv hD,rB ho]) Aa (H':=[.row hD 63 4 (List.map Ac (x16++([(Ab.mk 6 0 ([]:Ah) 0)]:List Ab))),.row (.slice (some ⟨gz,0,none⟩) 1 1) 63 4 (List.map Ac ([(Ab.mk 6 0 ([]:Ah) 0)]:List Ab)),.blk hb [rS hm,rI .i64 hn,rv hD,rB ho] 142]) Aa (Av (As (Al (wm Aa (wm Aa ?_)))))));obtain⟨hw,cs,g0⟩:=AM cr;refine EL (Hr:=[.row (.slice (some ⟨gz,0,none⟩) 1 1) 63 4 (List.map Ac ([(Ab.mk 6 0 ([]:Ah) 0)]:List Ab))]) Gg (Db hb hD (Ao.mk hm hn (x16++([(Ab.mk 6 0 ([]:Ah) 0)]:List Ab)) ho) ([125]:Ah) hw cs) Aa ((Ai (i:=2) Aa).trans (Yh _ (Yi _))) Aa ?_;rintro _ _ ⟨g1,rfl,rfl⟩;refine Av (Az (b:=hw.1) Aa (λhX=>?_) (λhX=>?_))
    ·have ct:=AK hX g0;refine Al (wv (r:=rB true) (Ae Aa) (Av (A1 (Af ?_))));obtain rfl:=A2 ct;exact A0 (Ce MD (AO Aa)) (sC (sC (sS sN))) ⟨g1,Aa,Aa⟩
    ·have cu:=AL hX g0;refine A4 (AW (Al (wv (r:=rS ([]:Ah)) (Ae Aa) (By (wv (r:=rI .i64 1) (Ae Aa) (Av (AY ?_)))))));obtain⟨cv,cw,hE⟩:=AM cu;refine BJ (S:=Nat×(Ah×Int×Ah×Int×(List Ab)×Bool)×(Value)) (V:=(Unit)×(Unit)) 0 (λσ=>Ch (λσ=>DV F hl x16 σ.1 σ.2.1 σ.2.2.1 σ.2.2.2.1 σ.2.2.2.2.1 σ.2.2.2.2.2) σ.1 σ.2.1=some cv) (λσ=>[(0,rv (.pointer (some ⟨hb,0,none⟩))),(2,rB false),(3,rB r1.1),(5,rS ([125]:Ah)),(6,rI .i64 (x16.length:Int)),(7,rS σ.2.1.1),(8,rI .i64 σ.2.1.2.1)]) (λσ=>[.blk hb [rS σ.2.1.2.2.1,rI .i64 σ.2.1.2.2.2.1,rv σ.2.2,rB σ.2.1.2.2.2.2.2] 142,.row σ.2.2 63 4 (List.map Ac σ.2.1.2.2.2.2.1)]) (λσ=>σ.1) (F,(([]:Ah),1,hw.2.fS,hw.2.fAt,hw.2.fCells,hw.2.fGreat),g1) cw (AT.c Aa (AT.c Aa (AT.c5 Aa Aa Aa Aa Aa AT.nil))) (sC (sC (sS sN))) (λσ=>Gk =some r) (λσ=>[]) (λσ=>[]) ?_ ?_
     ·rintro⟨xb,⟨he,hi,hY,hZ,ga,gb⟩,gc⟩ cx;refine Be (l':=[(0,rv (.pointer (some ⟨hb,0,none⟩))),(2,rB false),(3,rB r1.1),(5,rS ([125]:Ah)),(6,rI .i64 (x16.length:Int)),(7,rS he),(8,rI .i64 hi)]) (H':=[.blk hb [rS hY,rI .i64 hZ,rv gc,rB gb] 142,.row gc 63 4 (List.map Ac ga)]) Aa Aa ?_;obtain⟨cy,rfl,gd,hG,h4⟩:=Dh cx;replace hG:DV F hl x16 he hi hY hZ ga gb=some gd:=hG;unfold DV at hG;refine As (AY (As (Al (wm Aa (wv (BT Aa) (Av (Ed Aa (HO h1) (Al (wm Aa ?_)))))))));obtain⟨ha,cz,g2⟩:=AM hG;refine EL (Hr:=[]) Tryz.call126 (QH F hb gc (Ao.mk hY hZ ga gb) ha cz) Aa (Yi _) Aa ?_;rintro _ _ ⟨hH,rfl,rfl⟩;refine wm Aa (wv (AB Aa Aa) (wv (AB Aa Aa) (wa Aa (wa Aa (Av (As (CZ (S:=(Bool×Bool×Bool×Ah×Int×(List Ab)×Bool)×(Value)) (λσ=>Cd hl x16 hi ha σ.1.1 σ.1.2.1 σ.1.2.2.1 σ.1.2.2.2.1 σ.1.2.2.2.2.1 σ.1.2.2.2.2.2.1 σ.1.2.2.2.2.2.2=some gd) (λσ=>[(0,rv (.pointer (some ⟨hb,0,none⟩))),(2,rB false),(3,rB r1.1),(5,rS ([125]:Ah)),(6,rI .i64 (x16.length:Int)),(7,rS he),(8,rI .i64 hi),(9,rS ha.1),(10,rB ha.2.1),(44,rB r1.1),(45,rB (!r1.1)),(46,C0 [rS ha.1,rB ha.2.1]),(47,rv (.pointer (some ⟨hb,0,none⟩))),(48,C0 [rS ha.1,rB ha.2.1]),(49,rS ha.1),(50,rB ha.2.1),(51,rB ha.2.1),(52,rB (!ha.2.1)),(53,rB (!ha.2.1)),(61,rB σ.1.1),(62,rB σ.1.2.1),(66,rB σ.1.2.2.1)]) (λσ=>[.blk hb [rS σ.1.2.2.2.1,rI .i64 σ.1.2.2.2.2.1,rv σ.2,rB σ.1.2.2.2.2.2.2] 142,.row σ.2 63 4 (List.map Ac σ.1.2.2.2.2.2.1)]) ?_ ?_)))))))
      ·refine At (wm Aa (wv (BT Aa) (wm Aa (Bb (!ha.2.1) (λhg=>?_) (λhg=>?_)))))
       ·have c0:=AK hg g2;exact wf hg (wf hg (wf hg (wu (wu (wu (wf hg (wv (r:=rB true) (A7 (b:=!ha.2.1) Aa hg Aa) (wm Aa (A3 (b:=true) Aa Aa Aa Aa (A3 (b:=true) Aa Aa Aa Aa (A3 (b:=true) Aa Aa Aa Aa (wv (r:=rB true) (A7 (b:=true) Aa Aa Aa) (Aw (AA (AU ((true,true,true,ha.2.2.fS,ha.2.2.fAt,ha.2.2.fCells,ha.2.2.fGreat),hH) c0 (AT.c Aa (AT.c Aa (AT.c5 Aa Aa Aa Aa Aa (AT.c5 Aa Aa Aa Aa Aa (AT.c5 Aa Aa Aa Aa Aa (AT.c5 Aa Aa Aa Aa Aa AT.nil)))))) (sC (sC sN)))))))))))))))))
       ·have g3:=AL hg g2;refine wo hg (wm Aa (wo hg (wv (DN Aa Aa) (wo hg (wm Aa (Bb (decide (1<hi)) (λhj=>?_) (λhj=>?_)))))))
        ·have g4:=AK hj g3;refine wo hj (wm Aa (wo hj (wm Aa (wo hj (wv (TA Aa Aa) (wo hg (Jx Aa hj Aa (HU Aa hg Aa (wm Aa (Bb (Cu ha.1 he||decide (ha.1=he)) (λhk=>?_) (λhk=>?_)))))))))))
         ·have c1:=AK hk g4;exact wf hk (wf hk (wf hk (wv (r:=rB true) (A7 (b:=Cu ha.1 he||decide (ha.1=he)) Aa hk Aa) (Aw (AA (AU ((Cu ha.1 he||decide (ha.1=he),Cu ha.1 he||decide (ha.1=he),true,ha.2.2.fS,ha.2.2.fAt,ha.2.2.fCells,ha.2.2.fGreat),hH) c1 (AT.c Aa (AT.c Aa (AT.c5 Aa Aa Aa Aa Aa (AT.c5 Aa Aa Aa Aa Aa (AT.c5 Aa Aa Aa Aa Aa (AT.c5 Aa Aa Aa Aa Aa AT.nil)))))) (sC (sC sN))))))))
         ·have c2:=AL hk g4;refine wo hk (wm Aa (wo hk ?_));obtain⟨hx,c3,c4⟩:=AM c2;refine EL (Hr:=[]) Gg (Db hb hH ha.2.2 ([58]:Ah) hx c3) Aa (Yi _) Aa ?_;rintro _ _ ⟨c6,rfl,rfl⟩;exact wo hk (wv (BT Aa) (HU Aa hk Aa (Aw (AA (AU ((Cu ha.1 he||decide (ha.1=he),Cu ha.1 he||decide (ha.1=he),!hx.1,hx.2.fS,hx.2.fAt,hx.2.fCells,hx.2.fGreat),c6) c4 (AT.c Aa (AT.c Aa (AT.c5 Aa Aa Aa Aa Aa (AT.c5 Aa Aa Aa Aa Aa (AT.c5 Aa Aa Aa Aa Aa (AT.c5 Aa Aa Aa Aa Aa AT.nil)))))) (sC (sC sN)))))))
        ·have c7:=AL hj g3;refine wf hj (wf hj (wf hj (wo hg (wv (r:=rB false) (AP (b:=decide (1<hi)) Aa hj Aa) (HU Aa hg Aa (wm Aa (Bo (b:=false) Aa Aa Aa (wm Aa (Bo (b:=false) Aa Aa Aa ?_)))))))));obtain⟨hq,c8,c9⟩:=AM c7;refine EL (Hr:=[]) Gg (Db hb hH ha.2.2 ([58]:Ah) hq c8) Aa (Yi _) Aa ?_;rintro _ _ ⟨cA,rfl,rfl⟩;exact Bo (b:=false) Aa Aa Aa (wv (BT Aa) (wv (r:=rB (!hq.1)) (AP (b:=false) Aa Aa Aa) (Aw (AA (AU ((false,false,!hq.1,hq.2.fS,hq.2.fAt,hq.2.fCells,hq.2.fGreat),cA) c9 (AT.c Aa (AT.c Aa (AT.c5 Aa Aa Aa Aa Aa (AT.c5 Aa Aa Aa Aa Aa (AT.c5 Aa Aa Aa Aa Aa (AT.c5 Aa Aa Aa Aa Aa AT.nil)))))) (sC (sC sN)))))))
      ·rintro⟨⟨g5,g6,ge,h5,h6,h7,h8⟩,gf⟩ h9;refine Be (l':=[(0,rv (.pointer (some ⟨hb,0,none⟩))),(2,rB false),(3,rB r1.1),(5,rS ([125]:Ah)),(6,rI .i64 (x16.length:Int)),(7,rS he),(8,rI .i64 hi),(9,rS ha.1),(10,rB ha.2.1),(44,rB r1.1),(45,rB (!r1.1)),(46,C0 [rS ha.1,rB ha.2.1]),(47,rv (.pointer (some ⟨hb,0,none⟩))),(48,C0 [rS ha.1,rB ha.2.1]),(49,rS ha.1),(50,rB ha.2.1),(51,rB ha.2.1),(52,rB (!ha.2.1)),(53,rB (!ha.2.1)),(61,rB g5),(62,rB g6),(66,rB ge)]) (H':=[.blk hb [rS h5,rI .i64 h6,rv gf,rB h8] 142,.row gf 63 4 (List.map Ac h7)]) Aa Aa ?_;replace h9:Cd hl x16 hi ha g5 g6 ge h5 h6 h7 h8=some gd:=h9;unfold Cd at h9;refine Az (b:=ge) Aa (λgg=>?_) (λgg=>?_)
       ·have cB:=AK gg h9;refine Al (wv (r:=rB false) (Ae Aa) (Av (A1 (Af (Af (AC (Af (Af (Bq ?_)))))))));have cC:=BF cB h4 hE;refine AC ?_;obtain rfl:=A2 cC;exact A0 (Ce MD (AO Aa)) (sC (sC sN)) ⟨gf,Aa,Aa⟩
       ·have cD:=AL gg h9;refine A4 (AW (Al (wm Aa (wa Aa (Av (At (wm Aa (wm Aa (wv (Ar Aa) (wv (Ad Bx Aa Cp Aa Aa) (wv (Au (i:=0) DG Aa Aa Aa) (wm Aa (wv (r:=Bg [rI .i64 4,rI .i64 0,rS ha.1,rI .i64 0]) (IW Aa Aa Aa Aa) (Bc (ys:=([(Ab.mk 4 0 ha.1 0)]:List Ab)) (enc:=Ac) (css:=[[rI .i64 4,rI .i64 0,rS ha.1,rI .i64 0]]) (xs:=[.tmp 74]) Cb C3 HS Aa Aa Aa ⟨G2.agg ⟨Up.refl _,Up.refl _,Up.refl _,Up.refl _,trivial⟩,trivial⟩ Aa Bi Aa Aa Aa (λhA=>?_)))))))))))))));obtain⟨cE,cF⟩:=A8 cD;obtain⟨inf,hinf⟩:=HE;refine BX (xs:=h7) (ys:=([(Ab.mk 4 0 ha.1 0)]:List Ab)) (enc:=Ac) (i:=2) Cb hinf.1 hinf.2.1 hinf.2.2.1 hinf.2.2.2 Aa Aa Aa Aa Aa (J0.w (i:=0) Aa Aa) Bi C1 cE Aa (λhI=>?_);refine wv (Ar Aa) (wv (Ad Bx Aa Cp Aa Aa) (Bu (i:=2) Cp Aa Aa (CG (i:=0) Aa) Aa Aa (cs':=[rS h5,rI .i64 h6,rv hI,rB h8]) Aa (H':=[.row hI 63 4 (List.map Ac (h7++([(Ab.mk 4 0 ha.1 0)]:List Ab))),.row (.slice (some ⟨hA,0,none⟩) 1 1) 63 4 (List.map Ac ([(Ab.mk 4 0 ha.1 0)]:List Ab)),.blk hb [rS h5,rI .i64 h6,rv hI,rB h8] 142]) Aa (Av (As (Al (wm Aa ?_))))));obtain⟨hf,cG,g7⟩:=AM cF;refine EL (Hr:=[.row (.slice (some ⟨hA,0,none⟩) 1 1) 63 4 (List.map Ac ([(Ab.mk 4 0 ha.1 0)]:List Ab))]) Tryz.call99 (gp hb hI (Ao.mk h5 h6 (h7++([(Ab.mk 4 0 ha.1 0)]:List Ab)) h8) hf cG) Aa ((Ai (i:=2) Aa).trans (Yh _ (Yi _))) Aa ?_;rintro _ _ ⟨hy,rfl,rfl⟩;refine wv (BT Aa) (Av (Az (b:=!hf.1) Aa (λgh=>?_) (λgh=>?_)))
        ·have cH:=AK gh g7;refine Al (wv (r:=rB false) (Ae Aa) (Av (A1 (Af (AC (Af (Af (Bq ?_))))))));have cI:=BF cH h4 hE;refine AC ?_;obtain rfl:=A2 cI;exact A0 (Ce MD (AO Aa)) (sC (sC (sS sN))) ⟨hy,Aa,Aa⟩
        ·have cJ:=AL gh g7;refine A4 (AW (Al (wm Aa (wv (Ar Aa) (wv (Ad Bx Aa Cp Aa Aa) (wv (Au (i:=0) DG Aa Aa Aa) (wm Aa (wm Aa ?_))))))));obtain⟨gi,cK⟩:=A8 cJ;refine wv (r:=rv (EC 4 hy (Int.toNat (x16.length:Int)) 0)) (Ig (i:=1) Cb C3 Aa Aa Aa (BH gi)) (wv (r:=rv (EC 4 hy (Int.toNat (x16.length:Int)) 3)) (Es (k:=1) Cc Aa C4 Aa (BH gi) Aa Aa Aa) (Ic (enc:=Ac) (ys:=hf.2.fCells) (y':=(Ab.mk ((Aj hf.2.fCells (x16.length:Int)).fKind) ((Aj hf.2.fCells (x16.length:Int)).fInt) ((Aj hf.2.fCells (x16.length:Int)).fStr) hi)) (i:=1) (j:=(x16.length:Int)) C4 Aa Aa (BV Aa) Aa gi Aa Aa (H':=[.blk hb [rS hf.2.fS,rI .i64 hf.2.fAt,rv hy,rB hf.2.fGreat] 142,.row hy 63 4 (List.map Ac (List.set hf.2.fCells (Int.toNat (x16.length:Int)) (Ab.mk ((Aj hf.2.fCells (x16.length:Int)).fKind) ((Aj hf.2.fCells (x16.length:Int)).fInt) ((Aj hf.2.fCells (x16.length:Int)).fStr) hi))),.row (.slice (some ⟨hA,0,none⟩) 1 1) 63 4 (List.map Ac ([(Ab.mk 4 0 ha.1 0)]:List Ab))]) Aa ?_));obtain⟨cL,cM,cN⟩:=Dq cK;rw[← cM];refine Av (As (Al (wm Aa (wm Aa ?_))));obtain⟨gj,cO,g8⟩:=AM cN;refine EL (Hr:=[.row (.slice (some ⟨hA,0,none⟩) 1 1) 63 4 (List.map Ac ([(Ab.mk 4 0 ha.1 0)]:List Ab))]) Gg (Db hb hy (Ao.mk hf.2.fS hf.2.fAt cL hf.2.fGreat) ([125]:Ah) gj cO) Aa (Yi _) Aa ?_;rintro _ _ ⟨g9,rfl,rfl⟩;refine Av (Az (b:=gj.1) Aa (λgl=>?_) (λgl=>?_))
         ·have cP:=AK gl g8;refine Al (wv (r:=rB true) (Ae Aa) (Av (A1 (Af (AC (Af (Af (Bq ?_))))))));have cQ:=BF cP h4 hE;refine AC ?_;obtain rfl:=A2 cQ;exact A0 (Ce MD (AO Aa)) (sC (sC (sS sN))) ⟨g9,Aa,Aa⟩
         ·have cR:=AL gl g8;refine A4 (AW (Al (wm Aa ?_)));obtain⟨hz,cS,gA⟩:=AM cR;refine EL (Hr:=[.row (.slice (some ⟨hA,0,none⟩) 1 1) 63 4 (List.map Ac ([(Ab.mk 4 0 ha.1 0)]:List Ab))]) Gg (Db hb g9 gj.2 ([44]:Ah) hz cS) Aa (Yi _) Aa ?_;rintro _ _ ⟨gB,rfl,rfl⟩;refine wv (BT Aa) (Av (Az (b:=!hz.1) Aa (λgm=>?_) (λgm=>?_)))
          ·have cT:=AK gm gA;refine Al (wv (r:=rB false) (Ae Aa) (Av (A1 (AC (Af (Af (Bq ?_)))))));have cU:=BF cT h4 hE;refine AC ?_;obtain rfl:=A2 cU;exact A0 (Ce MD (AO Aa)) (sC (sC (sS sN))) ⟨gB,Aa,Aa⟩
          ·have cV:=AL gm gA;refine A4 (AV (AW (At (wm Aa ?_))));obtain⟨cW,cX⟩:=A8 cV;refine wv (BZ Aa Aa cW) (wa Aa (Aw ?_));have cY:=BG cX h4;exact AA (AU (cy,(ha.1,hi+1,hz.2.fS,hz.2.fAt,hz.2.fCells,hz.2.fGreat),gB) ⟨cY,Y1 _⟩ (AT.c Aa (AT.c Aa (AT.c5 Aa Aa Aa Aa Aa AT.nil))) (sC (sC (sS sN))))
     ·rintro⟨⟨⟩,⟨⟩⟩ cZ
      cases cZ
theorem La:∀F:Nat,(∀(ha:Nat) (hb:Value) (q:Ao) (r:Bool×Ao),Cj F q=some r→Fn Tryz.prog GE 99 [rv (.pointer (some ⟨ha,0,none⟩))] [.blk ha [rS q.fS,rI .i64 q.fAt,rv hb,rB q.fGreat] 142,.row hb 63 4 (List.map Ac q.fCells)] (λR H=>∃w0_2:Value,R=rB r.1∧H=[.blk ha [rS r.2.fS,rI .i64 r.2.fAt,rv w0_2,rB r.2.fGreat] 142,.row w0_2 63 4 (List.map Ac r.2.fCells)]))
  | 0=>(λ_ _ _ _ h=>by simp[Cj] at h)
  | nn+1=>(λha hb q r h=>PS nn (Cj nn) (La nn) ha hb q r (by rw[Cj] at h;exact h))
theorem R7 (F:Nat)(ha:Nat)(hb:Value)(q:Ao)(r:Bool×Ao)(h:Cj F q=some r):Fn Tryz.prog GE 99 [rv (.pointer (some ⟨ha,0,none⟩))] [.blk ha [rS q.fS,rI .i64 q.fAt,rv hb,rB q.fGreat] 142,.row hb 63 4 (List.map Ac q.fCells)] (λR H=>∃w0_2:Value,R=rB r.1∧H=[.blk ha [rS r.2.fS,rI .i64 r.2.fAt,rv w0_2,rB r.2.fGreat] 142,.row w0_2 63 4 (List.map Ac r.2.fCells)]):=(La F) ha hb q r h
theorem RB (F:Nat)(s:Ah)(r:(List Ab)×Int)(h:J9 F s=some r):Fn Tryz.prog GE 68 [rS s] [] (λR H=>R=C0 [AQ 4 (List.map Ac r.1),rI .i64 r.2]∧H=[]):=by
 refine enter (n:=34) Tryz.func68 Aa Tryz.ntmps68 Aa (λw Z=>?_);refine Be (l':=[(0,rS s)]) (H':=[]) Aa Aa ?_;unfold J9 at h;refine Al (wv (r:=rv (.slice none 0 0)) (Ae Aa) (wv (r:=rI .i64 0) (Ae Aa) (Av (As (Al (wm Aa (wv (BC CC Aa) (wv (DN Aa Aa) (Av (Az (b:=decide (4000<(s.length:Int))) Aa (λc1=>?_) (λc1=>?_)))))))))))
 ·have h2:=AK c1 h;refine Al (wv (r:=rv (.slice none 0 0)) (Ae Aa) (wv (r:=rI .i64 3) (Ae Aa) (Av (A1 (Af (WK.up (d:=2) (r:=AQ 4 (List.map Ac ([]:List Ab))) Aa (Up.le (ER.nil _)) ?_))))));obtain rfl:=A2 h2;exact A0 (EP Vb (AO Aa) (AO Aa)) sN ⟨Aa,Aa⟩
 ·have h3:=AL c1 h;refine A4 (AW (Al (wm Aa (wv (r:=Bg [rS s,rI .i64 0,rv (.slice none 0 0),rB false]) (Od Aa Aa) (BW Aa Aa (λb4=>?_))))));refine wa Aa (Av (As (CZ (S:=(Bool×Ah×Int×(List Ab)×Bool)×(Value)) (λσ=>E5 F σ.1.1 σ.1.2.1 σ.1.2.2.1 σ.1.2.2.2.1 σ.1.2.2.2.2=some r) (λσ=>[(2,rv (.slice none 0 0)),(3,rI .i64 0),(4,rv (.pointer (some ⟨b4,0,none⟩))),(22,rB σ.1.1)]) (λσ=>[.blk b4 [rS σ.1.2.1,rI .i64 σ.1.2.2.1,rv σ.2,rB σ.1.2.2.2.2] 142,.row σ.2 63 4 (List.map Ac σ.1.2.2.2.1)]) ?_ ?_)))
  ·refine At (wm Aa (WL.nilrow (e:=63) (sz:=4) ?_));obtain⟨hb,ho,hj⟩:=AM h3;refine EL (Hr:=[]) Tryz.call99 (R7 F b4 (.slice none 0 0                                                               ) (Ao.mk s 0 ([]:List Ab) false) hb ho) Aa ((Ai (i:=1) Aa).trans (Yh _ (Yi _))) Aa ?_;rintro _ _ ⟨v21,rfl,rfl⟩;refine wv (BT Aa) (wm Aa (Bb (!hb.1) (λha=>?_) (λha=>?_)))
   ·have hp:=AK ha hj;exact wf ha (wf ha (wf ha (wf ha (wf ha (wf ha (wf ha (wv (r:=rB true) (A7 (b:=!hb.1) Aa ha Aa) (Aw (AA (AU ((true,hb.2.fS,hb.2.fAt,hb.2.fCells,hb.2.fGreat),v21) hp (AT.c Aa (AT.c Aa (AT.c Aa (AT.c Aa AT.nil)))) (sC (sC sN))))))))))))
   ·have hq:=AL ha hj;exact wo ha (wm Aa (wo ha (wv (Ar Aa) (wo ha (wv (Ad Bx Aa C4 Aa Aa) (wo ha (wv (Au (i:=0) D8 Aa Aa Aa) (wo ha (wm Aa (wo ha (wv (BC CC Aa) (wo ha (wv (CX Aa Aa) (HU Aa ha Aa (Aw (AA (AU ((!decide (hb.2.fAt=(s.length:Int)),hb.2.fS,hb.2.fAt,hb.2.fCells,hb.2.fGreat),v21) hq (AT.c Aa (AT.c Aa (AT.c Aa (AT.c Aa AT.nil)))) (sC (sC sN)))))))))))))))))))
  ·rintro⟨⟨hf,hk,hl,he,hg⟩,hm⟩ hd;refine Be (l':=[(2,rv (.slice none 0 0)),(3,rI .i64 0),(4,rv (.pointer (some ⟨b4,0,none⟩))),(22,rB hf)]) (H':=[.blk b4 [rS hk,rI .i64 hl,rv hm,rB hg] 142,.row hm 63 4 (List.map Ac he)]) Aa Aa ?_;replace hd:E5 F hf hk hl he hg=some r:=hd;unfold E5 at hd;refine Az (b:=hf) Aa (λhh=>?_) (λhh=>?_)
   ·have hr:=AK hh hd;refine Al (wv (r:=rv (.slice none 0 0)) (Ae Aa) (wv (r:=rI .i64 1) (Ae Aa) (Av (A1 (Af (WK.up (d:=2) (r:=AQ 4 (List.map Ac ([]:List Ab))) Aa (Up.le (ER.nil _)) ?_))))));obtain rfl:=A2 hr;exact A0 (EP Vb (AO Aa) (AO Aa)) (sS (sS sN)) ⟨Aa,Aa⟩
   ·have hn:=AL hh hd;refine A4 (AW (As (Al (wm Aa (wv (Ar Aa) (wv (Ad Bx Aa Hx Aa Aa) (wv (Au (i:=0) SH Aa Aa Aa) (Av (Az (b:=hg) Aa (λhi=>?_) (λhi=>?_))))))))))
    ·have hs:=AK hi hn;refine Al (wv (r:=rv (.slice none 0 0)) (Ae Aa) (wv (r:=rI .i64 2) (Ae Aa) (Av (A1 (Af (WK.up (d:=2) (r:=AQ 4 (List.map Ac ([]:List Ab))) Aa (Up.le (ER.nil _)) ?_))))));obtain rfl:=A2 hs;exact A0 (EP Vb (AO Aa) (AO Aa)) (sS (sS sN)) ⟨Aa,Aa⟩
    ·have ht:=AL hi hn;refine A4 (AW (Al (wm Aa (wv (Ar Aa) (wv (Ad Bx Aa Cp Aa Aa) (wv (Au (i:=0) DG Aa Aa Aa) (WL.freeze (i:=1) Aa (WL.up (d:=30) (r:=AQ 4 (List.map Ac he)) Aa (Up.fact (i:=0) Aa) ?_))))))));obtain⟨hu,hw,hx⟩:=AM ht;refine D9 Tryz.call100 (PW F he hu hw) Aa (wv (AB Aa Aa) (wv (AB Aa Aa) (wa Aa (wa Aa (Av (A1 ?_))))));obtain rfl:=A2 hx;exact A0 (EP Vb (AO Aa) (AO Aa)) (sS (sS sN)) ⟨Aa,Aa⟩
end Go.Proofs.YtogdediiodmnbaaGreatDoor.Q
namespace Go.Proofs.YtogdediiodmnbaaGreatDoor
open Go
set_option linter.unusedVariables false
def Dz (a:(List Ab))(b:(List Ab))(ha:Int):Option (Stp (Int) (Out (Bool) (Unit))):=
 B3 (decide (ha<(a.length:Int))) (Bj (C2 ha (a.length:Int))<|Bj (C2 ha (b.length:Int))<|B3 (!(decide (((Aj a ha).fKind)=((Aj b ha).fKind))&&decide (((Aj a ha).fInt)=((Aj b ha).fInt))&&decide (((Aj a ha).fStr)=((Aj b ha).fStr))&&decide (((Aj a ha).fN)=((Aj b ha).fN)))) (some (.out (.ret false))) (Bj (Ci .i64 (ha+1))<|some (.next (ha+1)))) (some (.out (.go ())))
def Gm :Option (Bool):=
 some true
def H3 (F:Nat)(a:(List Ab))(b:(List Ab)):Option (Bool):=
 B3 (!decide ((a.length:Int)=(b.length:Int))) (some false) (B8 (Ch (λσ=>Dz a b σ) F 0) (Cg λν=>Gm ))
def Tb (F:Nat)(a:(List Ab))(b:(List Ab)):Option (Bool):=
 B8 (H3 F a b) λr1=>some r1
def JJ (a:(List Ab))(b:(List Ab))(ha:Int):Option (Stp (Int) (Out (Bool) (Unit))):=
 B3 (decide (ha<(a.length:Int))) (Bj (C2 ha (a.length:Int))<|Bj (C2 ha (b.length:Int))<|B3 (!(decide (((Aj a ha).fKind)=((Aj b ha).fKind))&&decide (((Aj a ha).fInt)=((Aj b ha).fInt))&&decide (((Aj a ha).fStr)=((Aj b ha).fStr))&&decide (((Aj a ha).fN)=((Aj b ha).fN)))) (some (.out (.ret false))) (Bj (Ci .i64 (ha+1))<|some (.next (ha+1)))) (some (.out (.go ())))
def JI :Option (Bool):=
 some true
def OW (F:Nat)(a:(List Ab))(b:(List Ab)):Option (Bool):=
 B3 (!decide ((a.length:Int)=(b.length:Int))) (some false) (B8 (Ch (λσ=>JJ a b σ) F 0) (Cg λν=>JI ))
end Go.Proofs.YtogdediiodmnbaaGreatDoor
namespace Go.Proofs.YtogdediiodmnbaaGreatDoor.Q
open Go Go.RowKit
set_option linter.unusedVariables false
set_option linter.unusedSimpArgs false
set_option maxRecDepth 100000
set_option maxHeartbeats 4000000
theorem UM {a0 b0:Int}{a1 b1:Int}{a2 b2:Ah}{a3 b3:Int}(w:World):(Op.equalIn 10000 63 (.agg #[.int .i64 a0,.int .i64 a1,.string (B a2),.int .i64 a3]) (.agg #[.int .i64 b0,.int .i64 b1,.string (B b2),.int .i64 b3])).run Tryz.prog w = .ok (decide (a0=b0)&&decide (a1=b1)&&decide (a2=b2)&&decide (a3=b3)) w:=by
  have hS:Tryz.prog.underlying 63=some (.struct (Tryz.prog.fieldsOf 63)):=by kernel_rfl
  have hp:Tryz.prog.stoodInHeld 63=false:=by kernel_rfl
  have u3:=UY;have ia3:=D8;have so3:=C4;have u9:=CC;have ia9:=Dk;have so9:=CM;have ha:=Tryz.underlying61;have hb:=HY;have hd:=HX;rw[show(10000:Nat)=9999+1 from rfl,run_equalIn_agg w 9999 63 _ _ hS hp];simp only[Program.fieldsOf,Cc]
  go_simp
  simp only[Ex]
  by_cases h0:a0=b0<;>by_cases h1:a1=b1<;>by_cases h2:a2=b2<;>by_cases h3:a3=b3<;>simp[h0,h1,h2,h3]
theorem Lf {n:Nat}{c:Cx}{l:Fr}{H:List Ent}{d:Option Nat}{ty rty:TypeId}{pos:String}{af:Array Edge}{g:Option (Nat×Bool)}{x y:Operand}{a0 b0:Int}{a1 b1:Int}{a2 b2:Ah}{a3 b3:Int}(hx:ev l x=some (Bg [rI .i64 a0,rI .i64 a1,rS a2,rI .i64 a3]))(hy:ev l y=some (Bg [rI .i64 b0,rI .i64 b1,rS b2,rI .i64 b3])):Bn Tryz.prog n c l H { dst:=d,op:=.binOp .neq 63 x y rty,type:=ty,pos:=pos,after:=af,guard:=g } (rB (!(decide (a0=b0)&&decide (a1=b1)&&decide (a2=b2)&&decide (a3=b3)))):=λa w Z ha hw=>by
  obtain⟨us,e1,q1⟩:=ha.ev hx;obtain⟨vs,e2,q2⟩:=ha.ev hy;have k1:=Bd.eq_rv (us:=[.int .i64 a0,.int .i64 a1,.string (B a2),.int .i64 a3]) q1;have k2:=Bd.eq_rv (us:=[.int .i64 b0,.int .i64 b1,.string (B b2),.int .i64 b3]) q2;subst k1;subst k2;have hm:Tryz.prog.eqGuardType Tryz.prog.depth 63=false:=by kernel_rfl
  have hb:=UM (a0:=a0) (a1:=a1) (a2:=a2) (a3:=a3) (b0:=b0) (b1:=b1) (b2:=b2) (b3:=b3) w;refine⟨.bool (!(decide (a0=b0)&&decide (a1=b1)&&decide (a2=b2)&&decide (a3=b3))),rfl,?_⟩;have hg:=run_eqGuard_agg (P:=Tryz.prog) w .neq 63 x y #[.int .i64 a0,.int .i64 a1,.string (B a2),.int .i64 a3] #[.int .i64 b0,.int .i64 b1,.string (B b2),.int .i64 b3] hm;simp only[execOp,e1,e2,Sem.run_bind,hg,Result.andThen_ok,run_neq_struct,hb,Sem.run_pure]
theorem Nf (F:Nat)(a:(List Ab))(b:(List Ab))(r:Bool)(h:H3 F a b=some r):Fn Tryz.prog GE 89 [AQ 4 (List.map Ac a),AQ 4 (List.map Ac b)] [] (λR H=>R=rB r∧H=[]):=by
 refine enter (n:=26) Tryz.func89 Aa Tryz.ntmps89 Aa (λw Z=>?_);refine Be (l':=[(0,AQ 4 (List.map Ac a)),(1,AQ 4 (List.map Ac b))]) (H':=[]) Aa Aa ?_;unfold H3 at h;refine Al (wv (r:=rB false) (Ae Aa) (Av (As (Al (wm Aa (wv (Bz (ys:=a) (enc:=Ac) Cb Aa) (wm Aa (wv (Bz (ys:=b) (enc:=Ac) Cb Aa) (wv (CX Aa Aa) (Av (Az (b:=!decide ((a.length:Int)=(b.length:Int))) Aa (λc1=>?_) (λc1=>?_))))))))))))
 ·have h2:=AK c1 h;refine Al (wv (r:=rB false) (Ae Aa) (Av (A1 (Af ?_))));obtain rfl:=A2 h2;exact A0 (Ce Tryz.results89 (AO Aa)) sN ⟨Aa,Aa⟩
 ·have h3:=AL c1 h;refine A4 (AW (As (Al (wm Aa (wv (Bz (ys:=a) (enc:=Ac) Cb Aa) (wv (r:=rI .i64 0) (Aq Aa) (Av (AY ?_))))))));obtain⟨hj,hk,hh⟩:=AM h3;refine BJ (S:=Nat×(Int)×(Unit)) (V:=(Unit)×(Unit)) 0 (λσ=>Ch (λσ=>Dz a b σ) σ.1 σ.2.1=some hj) (λσ=>[(0,AQ 4 (List.map Ac a)),(1,AQ 4 (List.map Ac b)),(12,rI .i64 (a.length:Int)),(13,rI .i64 σ.2.1)]) (λσ=>[]) (λσ=>σ.1) (F,0,()) hk (AT.c Aa (AT.c Aa (AT.c Aa (AT.c Aa AT.nil)))) sN (λσ=>Gm =some r) (λσ=>[]) (λσ=>[]) ?_ ?_
  ·rintro⟨h1,ha,⟨⟩⟩ hl;refine Be (l':=[(0,AQ 4 (List.map Ac a)),(1,AQ 4 (List.map Ac b)),(12,rI .i64 (a.length:Int)),(13,rI .i64 ha)]) (H':=[]) Aa Aa ?_;obtain⟨hm,rfl,hn,hb,he⟩:=Dh hl;replace hb:Dz a b ha=some hn:=hb;unfold Dz at hb;refine Al (wv (Dn Aa Aa) (Av (As (Az (b:=decide (ha<(a.length:Int))) Aa (λhf=>?_) (λhf=>?_)))))
   ·have ho:=AK hf hb;refine A4 (AW (As (AY (Al (wm Aa (wa Aa (Av (As ?_))))))));obtain⟨hp,hq⟩:=A8 ho;obtain⟨hr,hi⟩:=A8 hq;refine CD [0,1,5,12,13] [⟨[],AQ 4 (List.map Ac a),0⟩,⟨[],rI .i64 ha,0⟩,⟨[0,1],OX (Ac (Aj a ha)),0⟩,⟨[2],Bg (Ac (Aj a ha)),0⟩,⟨[],AQ 4 (List.map Ac b),0⟩,⟨[],rI .i64 ha,0⟩,⟨[4,5],OX (Ac (Aj b ha)),0⟩,⟨[6],Bg (Ac (Aj b ha)),0⟩,⟨[3,7],rB (!(decide (((Aj a ha).fKind)=((Aj b ha).fKind))&&decide (((Aj a ha).fInt)=((Aj b ha).fInt))&&decide (((Aj a ha).fStr)=((Aj b ha).fStr))&&decide (((Aj a ha).fN)=((Aj b ha).fN)))),0⟩] [16,17,18,19,20,21,22,23,24,0,1,12,13] ?_ ?_
    ·refine oq (Aq Aa) (oq (Aq Aa) (oq (BE (enc:=Ac) (ys:=a) Cb C3 Aa Aa hp) (oq (E8 ME C3 Aa Aa Aa) (oq (Aq Aa) (oq (Aq Aa) (oq (BE (enc:=Ac) (ys:=b) Cb C3 Aa Aa hr) (oq (E8 ME C3 Aa Aa Aa) (oq (Lf Aa Aa) ?_))))))));exact Cn
    refine AW (Az (b:=!(decide (((Aj a ha).fKind)=((Aj b ha).fKind))&&decide (((Aj a ha).fInt)=((Aj b ha).fInt))&&decide (((Aj a ha).fStr)=((Aj b ha).fStr))&&decide (((Aj a ha).fN)=((Aj b ha).fN)))) Aa (λhg=>?_) (λhg=>?_))
    ·have hs:=AK hg hi;refine Al (wv (r:=rB false) (Ae Aa) (Av (A1 (AC (Af (Af (Bq ?_)))))));have ht:=BF hs he hh;refine AC (Af ?_);obtain rfl:=A2 ht;exact A0 (Ce Tryz.results89 (AO Aa)) sN ⟨Aa,Aa⟩
    ·have hu:=AL hg hi;refine A4 (AV (AW (At ?_)));obtain⟨hw,hx⟩:=A8 hu;refine wv (BZ Aa Aa hw) (wm Aa (Aw ?_));have hy:=BG hx he;exact AA (AU (hm,ha+1,()) ⟨hy,Y1 _⟩ (AT.c Aa (AT.c Aa (AT.c Aa (AT.c Aa AT.nil)))) sN)
   ·have hz:=AL hf hb;refine BQ (AE ?_);have h0:=CE hz he hh;exact AE (B7 (AU ((),()) h0 AT.nil sN))
  ·rintro⟨⟨⟩,⟨⟩⟩ hd;refine Dr (l':=[]) (H':=[]) Aa Aa ?_;replace hd:Gm =some r:=hd;unfold Gm at hd;refine B4 (AW (Al (wv (r:=rB true) (Ae Aa) (Av (A1 ?_)))));obtain rfl:=A2 hd;exact A0 (Ce Tryz.results89 (AO Aa)) sN ⟨Aa,Aa⟩
theorem Vm (F:Nat)(a:(List Ab))(b:(List Ab))(r:Bool)(h:Tb F a b=some r):Fn Tryz.prog GE 79 [AQ 4 (List.map Ac a),AQ 4 (List.map Ac b)] [] (λR H=>R=rB r∧H=[]):=by
 refine enter (n:=8) Tryz.func79 Aa Tryz.ntmps79 Aa (λw Z=>?_);refine Be (l':=[(0,AQ 4 (List.map Ac a)),(1,AQ 4 (List.map Ac b))]) (H':=[]) Aa Aa ?_;unfold Tb at h;refine Al (wv (r:=rB false) (Ae Aa) (By (wm Aa (wm Aa ?_))));obtain⟨r1,e3,h2⟩:=AM h;refine D9 Tryz.call89 (Nf F a b r1 e3) Aa (wa Aa (Av (A1 ?_)));obtain rfl:=A2 h2;exact A0 (Ce Tryz.results79 (AO Aa)) sN ⟨Aa,Aa⟩
theorem Vu (F:Nat)(a:(List Ab))(b:(List Ab))(r:Bool)(h:OW F a b=some r):Fn Tryz.prog GE 15 [AQ 4 (List.map Ac a),AQ 4 (List.map Ac b)] [] (λR H=>R=rB r∧H=[]):=by
 refine enter (n:=26) Tryz.func15 Aa Tryz.ntmps15 Aa (λw Z=>?_);refine Be (l':=[(0,AQ 4 (List.map Ac a)),(1,AQ 4 (List.map Ac b))]) (H':=[]) Aa Aa ?_;unfold OW at h;refine Al (wv (r:=rB false) (Ae Aa) (Av (As (Al (wm Aa (wv (Bz (ys:=a) (enc:=Ac) Cb Aa) (wm Aa (wv (Bz (ys:=b) (enc:=Ac) Cb Aa) (wv (CX Aa Aa) (Av (Az (b:=!decide ((a.length:Int)=(b.length:Int))) Aa (λc1=>?_) (λc1=>?_))))))))))))
 ·have h2:=AK c1 h;refine Al (wv (r:=rB false) (Ae Aa) (Av (A1 (Af ?_))));obtain rfl:=A2 h2;exact A0 (Ce Tryz.results15 (AO Aa)) sN ⟨Aa,Aa⟩
 ·have h3:=AL c1 h;refine A4 (AW (As (Al (wv (r:=rI .i64 0) (Ae Aa) (Av (AY ?_))))));obtain⟨hj,hk,hh⟩:=AM h3;refine BJ (S:=Nat×(Int)×(Unit)) (V:=(Unit)×(Unit)) 0 (λσ=>Ch (λσ=>JJ a b σ) σ.1 σ.2.1=some hj) (λσ=>[(0,AQ 4 (List.map Ac a)),(1,AQ 4 (List.map Ac b)),(5,rI .i64 σ.2.1)]) (λσ=>[]) (λσ=>σ.1) (F,0,()) hk (AT.c Aa (AT.c Aa (AT.c Aa AT.nil))) sN (λσ=>JI =some r) (λσ=>[]) (λσ=>[]) ?_ ?_
  ·rintro⟨h1,ha,⟨⟩⟩ hl;refine Be (l':=[(0,AQ 4 (List.map Ac a)),(1,AQ 4 (List.map Ac b)),(5,rI .i64 ha)]) (H':=[]) Aa Aa ?_;obtain⟨hm,rfl,hn,hb,he⟩:=Dh hl;replace hb:JJ a b ha=some hn:=hb;unfold JJ at hb;refine As (Al (wm Aa (wm Aa (wv (Bz (ys:=a) (enc:=Ac) Cb Aa) (wv (Dn Aa Aa) (Av (Az (b:=decide (ha<(a.length:Int))) Aa (λhf=>?_) (λhf=>?_))))))))
   ·have ho:=AK hf hb;refine A4 (AW (As (AY (As ?_))));obtain⟨hp,hq⟩:=A8 ho;obtain⟨hr,hi⟩:=A8 hq;refine CD [0,1,5] [⟨[],AQ 4 (List.map Ac a),0⟩,⟨[],rI .i64 ha,0⟩,⟨[0,1],OX (Ac (Aj a ha)),0⟩,⟨[2],Bg (Ac (Aj a ha)),0⟩,⟨[],AQ 4 (List.map Ac b),0⟩,⟨[],rI .i64 ha,0⟩,⟨[4,5],OX (Ac (Aj b ha)),0⟩,⟨[6],Bg (Ac (Aj b ha)),0⟩,⟨[3,7],rB (!(decide (((Aj a ha).fKind)=((Aj b ha).fKind))&&decide (((Aj a ha).fInt)=((Aj b ha).fInt))&&decide (((Aj a ha).fStr)=((Aj b ha).fStr))&&decide (((Aj a ha).fN)=((Aj b ha).fN)))),0⟩] [17,18,19,20,21,22,23,24,25,0,1,5] ?_ ?_
    ·refine oq (Aq Aa) (oq (Aq Aa) (oq (BE (enc:=Ac) (ys:=a) Cb C3 Aa Aa hp) (oq (E8 ME C3 Aa Aa Aa) (oq (Aq Aa) (oq (Aq Aa) (oq (BE (enc:=Ac) (ys:=b) Cb C3 Aa Aa hr) (oq (E8 ME C3 Aa Aa Aa) (oq (Lf Aa Aa) ?_))))))));exact Cn
    refine AW (Az (b:=!(decide (((Aj a ha).fKind)=((Aj b ha).fKind))&&decide (((Aj a ha).fInt)=((Aj b ha).fInt))&&decide (((Aj a ha).fStr)=((Aj b ha).fStr))&&decide (((Aj a ha).fN)=((Aj b ha).fN)))) Aa (λhg=>?_) (λhg=>?_))
    ·have hs:=AK hg hi;refine Al (wv (r:=rB false) (Ae Aa) (Av (A1 (AC (Af (Af (Bq ?_)))))));have ht:=BF hs he hh;refine AC (Af ?_);obtain rfl:=A2 ht;exact A0 (Ce Tryz.results15 (AO Aa)) sN ⟨Aa,Aa⟩
    ·have hu:=AL hg hi;refine A4 (AV (AW (At (wm Aa ?_))));obtain⟨hw,hx⟩:=A8 hu;refine wv (BZ Aa Aa hw) (wa Aa (Aw ?_));have hy:=BG hx he;exact AA (AU (hm,ha+1,()) ⟨hy,Y1 _⟩ (AT.c Aa (AT.c Aa (AT.c Aa AT.nil))) sN)
   ·have hz:=AL hf hb;refine BQ (AE ?_);have h0:=CE hz he hh;exact AE (B7 (AU ((),()) h0 AT.nil sN))
  ·rintro⟨⟨⟩,⟨⟩⟩ hd;refine Dr (l':=[]) (H':=[]) Aa Aa ?_;replace hd:JI =some r:=hd;unfold JI at hd;refine B4 (AW (Al (wv (r:=rB true) (Ae Aa) (Av (A1 ?_)))));obtain rfl:=A2 hd;exact A0 (Ce Tryz.results15 (AO Aa)) sN ⟨Aa,Aa⟩
end Go.Proofs.YtogdediiodmnbaaGreatDoor.Q
namespace Go.Proofs.YtogdediiodmnbaaGreatDoor
open Go
set_option linter.unusedVariables false
end Go.Proofs.YtogdediiodmnbaaGreatDoor
namespace Go.Proofs.YtogdediiodmnbaaGreatDoor.Q
open Go Go.RowKit
set_option linter.unusedVariables false
set_option linter.unusedSimpArgs false
set_option maxRecDepth 100000
set_option maxHeartbeats 4000000
end Go.Proofs.YtogdediiodmnbaaGreatDoor.Q
namespace Go.Proofs.YtogdediiodmnbaaGreatDoor
open Go
def Ks (k:IntKind)(x y:Int):Int:=k.wrap ((BitVec.ofInt k.bits x||| BitVec.ofInt k.bits y).toNat:Int)
def Em (k:IntKind)(x n:Int):Int:=k.wrap (x*2 ^ (min n.toNat k.bits))
def Js (k:IntKind)(x n:Int):Int:=x.fdiv (2 ^ (min n.toNat k.bits))
set_option linter.unusedVariables false
def EJ (fields:(List Ah))(hb:(List Int))(ha:Int):Option (Stp ((List Int)×Int) (Out (Ah×Int) ((List Int)))):=
 B3 (decide (ha<(fields.length:Int))) (Bj (C2 ha (fields.length:Int))<|B3 (decide (4000<((Aj fields ha).length:Int))) (some (.out (.ret (([]:Ah),3)))) (Bj (DI 1 (hb.length+([IntKind.wrap .u8 (Js .i64 ((Aj fields ha).length:Int) 8),IntKind.wrap .u8 ((Aj fields ha).length:Int)]:List Int).length))<|Bj (DI 1 ((hb++([IntKind.wrap .u8 (Js .i64 ((Aj fields ha).length:Int) 8),IntKind.wrap .u8 ((Aj fields ha).length:Int)]:List Int)).length+(Aj fields ha).length))<|Bj (Ci .i64 (ha+1))<|some (.next ((hb++([IntKind.wrap .u8 (Js .i64 ((Aj fields ha).length:Int) 8),IntKind.wrap .u8 ((Aj fields ha).length:Int)]:List Int))++CO (Aj fields ha),ha+1)))) (some (.out (.go hb)))
def Ki (ha:(List Int)):Option (Ah×Int):=
 some (PI ha,0)
def P1 (F:Nat)(fields:(List Ah)):Option (Ah×Int):=
 B3 (decide (64<(fields.length:Int))) (some (([]:Ah),3)) (B8 (Ch (λσ=>EJ fields σ.1 σ.2) F (([IntKind.wrap .u8 (fields.length:Int)]:List Int),0)) (Cg λν=>Ki ν))
def Dd (ha:Int):Option ((List Ah)×Int):=
 some (([]:List Ah),ha)
def Cs (s:Ah)(ha:Ah)(hb:(List Ah))(hh:Int)(hd:Int):Option (Stp (Ah×(List Ah)×Int×Int) (Out ((List Ah)×Int) (Ah×(List Ah)))):=
 B3 (decide (hd<(Br s 0))) (B3 (decide ((ha.length:Int)<2)) (B8 (Dd 14) λhe=>some (.out (.ret he))) (Bj (C2 0 (ha.length:Int))<|Bj (Ci .i64 (Br ha 0))<|Bj (C2 1 (ha.length:Int))<|Bj (Ci .i64 (Br ha 1))<|Bj (Jb 2 (ha.length:Int))<|B3 (decide (4000<(Ks .i64 (Em .i64 (Br ha 0) 8) (Br ha 1)))) (B8 (Dd 13) λhf=>some (.out (.ret hf))) (B3 (decide (((List.drop (Int.toNat 2) ha).length:Int)<(Ks .i64 (Em .i64 (Br ha 0) 8) (Br ha 1)))) (B8 (Dd 14) λhg=>some (.out (.ret hg))) (Bj (Jb (Ks .i64 (Em .i64 (Br ha 0) 8) (Br ha 1)) ((List.drop (Int.toNat 2) ha).length:Int))<|Bj (DI 16 (hb.length+([List.take (Int.toNat (Ks .i64 (Em .i64 (Br ha 0) 8) (Br ha 1))) (List.drop (Int.toNat 2) ha)]:List Ah).length))<|Bj (Ci .i64 (hd+1))<|some (.next (List.drop (Int.toNat (Ks .i64 (Em .i64 (Br ha 0) 8) (Br ha 1))) (List.drop (Int.toNat 2) ha),hb++([List.take (Int.toNat (Ks .i64 (Em .i64 (Br ha 0) 8) (Br ha 1))) (List.drop (Int.toNat 2) ha)]:List Ah),Ks .i64 (Em .i64 (Br ha 0) 8) (Br ha 1),hd+1)))))) (some (.out (.go (ha,hb))))
def Ea (hb:Ah)(ha:(List Ah)):Option ((List Ah)×Int):=
 B3 (!decide (hb=([]:Ah))) (Dd 13) (Bj (Jb (ha.length:Int) (ha.length:Int))<|some (List.take (Int.toNat (ha.length:Int)) ha,0))
def Kh (F:Nat)(s:Ah):Option ((List Ah)×Int):=
 B3 (decide (s=([]:Ah))) (Dd 14) (Bj (C2 0 (s.length:Int))<|Bj (Ci .i64 (Br s 0))<|Bj (Jb 1 (s.length:Int))<|B3 (decide (64<(Br s 0))) (Dd 13) (B8 (Ch (λσ=>Cs s σ.1 σ.2.1 σ.2.2.1 σ.2.2.2) F (List.drop (Int.toNat 1) s,([]:List Ah),0,0)) (Cg λν=>Ea ν.1 ν.2)))
end Go.Proofs.YtogdediiodmnbaaGreatDoor
namespace Go.Proofs.YtogdediiodmnbaaGreatDoor.Q
open Go Go.RowKit
set_option linter.unusedVariables false
set_option linter.unusedSimpArgs false
section
variable {P : Program} {n : Nat} {c : Cx} {l : Fr} {H : List Ent} {d : Option Nat} {x y : Operand} {t t' ty : TypeId} {pos : String} {af : Array Edge} {g : Option (Nat × Bool)} {k k' : IntKind} {p q : Int}
theorem XI (hx:ev l x=some (rI k p))(hy:ev l y=some (rI k q)):Bn P n c l H { dst:=d,op:=.binOp .or t x y t',type:=ty,pos:=pos,after:=af,guard:=g } (rI k (Ks k p q)):=λa w Z ha _=>CN<|by
 simp[execOp,ha.eval hx,ha.eval hy,B5,binOp,Op.intBits,Ks]
theorem Xp (hx:ev l x=some (rI k p))(hy:ev l y=some (rI k' q))(h0:decide (0≤q)=true):Bn P n c l H { dst:=d,op:=.binOp .shl t x y t',type:=ty,pos:=pos,after:=af,guard:=g } (rI k (Em k p q)):=λa w Z ha _=>CN<|by
 have h1 : ¬ q<0:=by have:=Y4 h0;omega
 simp[execOp,ha.eval hx,ha.eval hy,B5,binOp,Op.shift,Em,h1]
theorem Xo (hx:ev l x=some (rI k p))(hy:ev l y=some (rI k' q))(h0:decide (0≤q)=true):Bn P n c l H { dst:=d,op:=.binOp .shr t x y t',type:=ty,pos:=pos,after:=af,guard:=g } (rI k (Js k p q)):=λa w Z ha _=>CN<|by
 have h1 : ¬ q<0:=by have:=Y4 h0;omega
 simp[execOp,ha.eval hx,ha.eval hy,B5,binOp,Op.shift,Js,h1]
end
section
variable {P : Program} {n : Nat} {c : Cx} {ops : Array Oper} {Q : Exit → Act → World → Prop} {rest : List Oper} {l : Fr} {H H' : List Ent} {d : Nat} {d' : Option Nat} {x y : Operand} {t ty e : TypeId} {pos : String} {af : Array Edge} {g : Option (Nat × Bool)} {k : IntKind} {b i len : Nat} {j : Int}
end
def Oo (ops:List Oper)(N:Nat):Bool:=
 let cl:=M3 ops []
 (List.range ops.length).all (λi=>(Eo (ops.getD i default)).all (·<i))&&
 (List.range ops.length).all (λi=>i<N||(List.range i).all (λj=>(cl.getD i 0).testBit j))
section
variable {P : Program} {Q : Exit → Act → World → Prop}
theorem PB {listed:Array Bool}{len m:Nat}(hs:listed.size=len)(hm:m≤len)(h:∀j,j<len→(listed.getD j true=true↔j<m)):listed.toList.count false=len-m:=by
 have:listed.toList=List.replicate m true++List.replicate (len-m) false:=by
  apply List.ext_getElem
  ·simp[hs];omega
  ·intro j h1 h2;have hj:j<len:=by simpa[hs] using h1
   have:=h j hj;rw[Array.getD_eq_getD_getElem?,Array.getElem?_eq_getElem (by omega)] at this;simp only[YC] at this;rw[Array.getElem_toList,List.getElem_append]
   split
   ·rename_i h3
    simp at h3;simp[this.2 h3]
   ·rename_i h3
    simp at h3;simp only[List.getElem_replicate]
    cases hb:listed[j] with
    | false=>rfl
    | true=>have:=this.1 hb;omega
 rw[this];simp[List.count_append,List.count_replicate]
theorem Rk {listed:Array Bool}{j:Nat}(h:j<listed.size)(d d':Bool):listed.getD j d=listed.getD j d':=by
 simp[Array.getD_eq_getD_getElem?,Array.getElem?_eq_getElem h]
theorem M8 {ops:List Oper}{listed:Array Bool}{i:Nat}{o:Oper}(ho:ops[i]? =some o)(hb:∀e∈Eo o,listed.getD e true=true)
  (hcl:∀j o,ops[j]? =some o→listed.getD j true=true→∀e∈Eo o,listed.getD e true=true) (j:Nat) (h:((M3 ops []).getD i 0).testBit j=true):j=i∨listed.getD j true=true:=
 Ht ops (λk=>k=i∨listed.getD k true=true) ops [] (λt o' ht e he hF=>by
  rcases hF with hF | hF
  ·simp at hF;subst hF;rw[ho] at ht;simp at ht;subst ht;exact .inr (hb e he)
  ·exact .inr (hcl t o' ht (by simpa using hF) e he)) (λj i hb=>by simp at hb) i j h (.inl rfl)
theorem Jj {ops:List Oper}{listed:Array Bool}{i:Nat}(hsz:listed.size=ops.length)(hlt:∀i,i<ops.length→∀e∈Eo (ops.getD i default),e<i)(h:i∈Region.ready .any ops.toArray listed) :
  listed.getD i true=false∧i<ops.length∧∃o,ops[i]? =some o∧∀e∈Eo o,listed.getD e true=true:=by
 obtain⟨h1,o,ho,h2⟩:=mem_ready.1 h;have ho':ops[i]? =some o:=by simpa using ho
 have hil:=(List.getElem?_eq_some_iff.1 ho').1;refine⟨h1,hil,o,ho',λe he=>?_⟩;have hei:=hlt i hil e (by rw[Yq,ho'];exact he);simp only[Eo,List.mem_map,List.mem_filter] at he;obtain⟨x,⟨hx1,hx2⟩,rfl⟩:=he;have h3:=h2 x (by simpa using hx1) hx2;rw[Rk (by omega) true false];exact h3
theorem IY {ops:List Oper}{listed:Array Bool}(hsz:listed.size=ops.length)(hlt:∀i,i<ops.length→∀e∈Eo (ops.getD i default),e<i)(h:Region.ready .any ops.toArray listed=[]) :
  ∀j,j<ops.length→listed.getD j true=true:=by
 intro j
 induction j using Nat.strongRecOn with
 | ind j ih=>
  intro hj
  cases hb:listed.getD j true with
  | true=>rfl
  | false=>
   have:j∈Region.ready .any ops.toArray listed:=mem_ready.2 ⟨hb,ops[j],by simp[hj],λe he hbn=>by
    have hel:e.on<j:=hlt j hj e.on (by
     rw[Yq,Yp hj];simp only[Eo,YC,List.mem_map,List.mem_filter];exact⟨e,⟨by simpa using he,hbn⟩,rfl⟩)
    rw[Rk (by omega) false true];exact ih e.on hel (by omega)⟩
   rw[h] at this;cases this
theorem Lz {listed:Array Bool}{i j:Nat}(hi:i<listed.size):(listed.setIfInBounds i true).getD j true=true↔(j=i∨listed.getD j true=true):=by
 by_cases hj:i=j
 ·subst hj;simp[hi]
 ·rw[getD_set_ne true hj];exact⟨.inr,λh=>h.elim (λh=>absurd h.symm hj) id⟩
theorem RG {listed:Array Bool}{i fuel:Nat}(hi:i<listed.size)(hun:listed.getD i true=false)(hc:listed.toList.count false=fuel+1):(listed.setIfInBounds i true).toList.count false=fuel:=by
 have hfi:listed.toList[i]? =some false:=by
  rw[Array.getD_eq_getD_getElem?,Array.getElem?_eq_getElem hi] at hun;simp at hun;simp[hi,hun]
 rw[Array.toList_setIfInBounds];have h1:=List.count_set (a:=true) (b:=false) (l:=listed.toList) (i:=i) (by simpa using hi);have h2:listed.toList[i]'(by simpa using hi)=false:=by
  have:=List.getElem?_eq_some_iff.1 hfi;exact this.2
 rw[h1,h2,hc];rfl
theorem KW {ops:List Oper}{N:Nat}(hlt:∀i,i<ops.length→∀e∈Eo (ops.getD i default),e<i)
  (hch:∀i,N≤i→i<ops.length→∀j,j<i→((M3 ops []).getD i 0).testBit j=true):∀(k m:Nat) (listed:Array Bool) (a:Act) (w:World),m+k=ops.length→N≤m→listed.size=ops.length→
   (∀j,j<ops.length→(listed.getD j true=true↔j<m))→(∀j o,ops[j]? =some o→listed.getD j true=true→∀e∈Eo o,listed.getD e true=true)→wpList P ops.toArray Q (ops.drop m) a w→wpAny P .any ops.toArray Q k listed a w
 | 0,m,listed,a,w,hk,hN,hsz,hl,hcl,h=>by
  refine⟨?_,?_⟩
  ·cases hr:Region.ready .any ops.toArray listed with
   | nil=>rfl
   | cons i r=>
    obtain⟨h1,h2,_⟩:=Jj hsz hlt (i:=i) (by rw[hr];simp);rw[(hl i h2).2 (by omega)] at h1;cases h1
  ·rw[List.drop_of_length_le (by omega)] at h;exact h
 | k+1,m,listed,a,w,hk,hN,hsz,hl,hcl,h=>by
  refine⟨λhr=>?_,λi hi=>?_⟩
  ·have:=(hl m (by omega)).1 (IY hsz hlt hr m (by omega));omega
  ·obtain⟨h1,h2,o,ho,hb⟩:=Jj hsz hlt hi;have him:i=m:=by
    have hmi : ¬ i<m:=λh'=>by rw[(hl i h2).2 h'] at h1;cases h1
    by_cases e:i=m
    ·exact e
    ·rcases M8 ho hb hcl m (hch i (by omega) h2 m (by omega)) with h3 | h3
     ·exact h3.symm
     ·have:=(hl m (by omega)).1 h3;omega
   subst him;have hd:ops.drop i=o::ops.drop (i+1):=by
    rw[List.drop_eq_getElem_cons h2]
    congr 1
    exact(List.getElem?_eq_some_iff.1 ho).2
   rw[hd] at h;have ih:∀a' w',wpList P ops.toArray Q (ops.drop (i+1)) a' w'→wpAny P .any ops.toArray Q k (listed.setIfInBounds i true) a' w':=λa' w' h'=>by
    refine KW hlt hch k (i+1) _ a' w' (by omega) (by omega) (by simpa using hsz) (λj hj=>?_) (λj o' hj hlj e he=>?_) h'
    ·rw[Lz (by omega),hl j hj];omega
    ·rw[Lz (by omega)] at hlj ⊢;rcases hlj with rfl | hlj
     ·rw[ho] at hj;simp at hj;subst hj;exact .inr (hb e he)
     ·exact .inr (hcl j o' hj hlj e he)
   unfold wpOp;have hoA:ops.toArray[i]? =some o:=by simpa using ho
   simp only[hoA];simp only[wpList] at h
   split
   ·rename_i hw'
    rw[Y6 hw'] at h;exact h.imp (λh=>Oper.wp_mono ih h) (λh=>h)
   ·rename_i hw'
    rw[Yw hw'] at h;exact ih _ _ h
theorem SV {id:Nat}{ops:List Oper}{N:Nat}(hm:P.follows .mixedOrders=true)(hB:Oo ops N=true)(hN:N≤ops.length)(I:(Nat→Bool)→Act→World→Prop)
  (hext:∀S S' a w,(∀j,j<N→S j=S' j)→I S a w→I S' a w) {a:Act} {w:World} (h0:I (λ_=>false) a { w with drawn:=w.drawn+1 })
  (step:∀S i o a w,i<N→S i=false→ops[i]? =some o→(∀e∈Eo o,e<i∧S e=true)→I S a w→∀K:Act→World→Prop,(∀a' w',I (λj=>j ==i||S j) a' w'→K a' w')→
   (Region.wanted o (yielded ops.toArray a.tmps)=true→o.wp P a w K Q)∧(Region.wanted o (yielded ops.toArray a.tmps)=false→K (a.put o.dst undef) w))
  (fin:∀a w,I (λ_=>true) a w→wpList P ops.toArray Q (ops.drop N) a w):(Code.region id ops.toArray true).wp P Q a w:=by
 simp only[Oo,Yl,YD,List.mem_range,Yg,YN] at hB;obtain⟨hlt,hch0⟩:=hB;have hch:∀i,N≤i→i<ops.length→∀j,j<i→((M3 ops []).getD i 0).testBit j=true:=λi h1 h2 j hj=>by
  rcases hch0 i h2 with h3 | h3
  ·omega
  ·exact h3 j hj
 refine wp_region_any hm ?_;have main:∀(fuel:Nat) (listed:Array Bool) (a:Act) (w:World),listed.size=ops.length→listed.toList.count false=fuel→I (λj=>listed.getD j true) a w→
   (∀j o,ops[j]? =some o→listed.getD j true=true→∀e∈Eo o,listed.getD e true=true)→(∀j,N≤j→j<ops.length→listed.getD j true=false)→wpAny P .any ops.toArray Q fuel listed a w:=by
  intro fuel;have allin:∀(fuel:Nat) (listed:Array Bool) (a:Act) (w:World),listed.size=ops.length→listed.toList.count false=fuel→I (λj=>listed.getD j true) a w→
   (∀j o,ops[j]? =some o→listed.getD j true=true→∀e∈Eo o,listed.getD e true=true)→(∀j,N≤j→j<ops.length→listed.getD j true=false)→(∀j,j<N→listed.getD j true=true)→wpAny P .any ops.toArray Q fuel listed a w:=by
   intro fuel listed a w hsz hc hI hcl hlast hall;have hl:∀j,j<ops.length→(listed.getD j true=true↔j<N):=λj hj=>by
    constructor
    ·intro h
     by_cases hjN:j<N
     ·exact hjN
     ·rw[hlast j (by omega) hj] at h;cases h
    ·exact hall j
   have:=PB hsz hN hl;refine KW hlt hch fuel N listed a w (by omega) (Y2 _) hsz hl hcl (fin a w (hext _ _ a w (λj hj=>hall j hj) hI))
  induction fuel with
  | zero=>
   intro listed a w hsz hc hI hcl hlast;refine allin 0 listed a w hsz hc hI hcl hlast (λj hj=>?_)
   cases hb:listed.getD j true with
   | true=>rfl
   | false=>
    have:false∈listed.toList:=by
     rw[Array.getD_eq_getD_getElem?,Array.getElem?_eq_getElem (by omega)] at hb;simp at hb;rw[← hb];simp
    have:=List.count_pos_iff.2 this;omega
  | succ fuel ih=>
   intro listed a w hsz hc hI hcl hlast
   by_cases hall:∀j,j<N→listed.getD j true=true
   ·exact allin (fuel+1) listed a w hsz hc hI hcl hlast hall
   ·refine⟨λhr=>absurd (λj hj=>IY hsz hlt hr j (by omega)) hall,λi hi=>?_⟩;obtain⟨h1,h2,o,ho,hb⟩:=Jj hsz hlt hi;have hiN:i<N:=by
     by_cases h:i<N
     ·exact h
     ·refine absurd (λj hj=>?_) hall;rcases M8 ho hb hcl j (hch i (by omega) h2 j (by omega)) with h3 | h3
      ·omega
      ·exact h3
    have K':∀a' w',I (λj=>j ==i||listed.getD j true) a' w'→wpAny P .any ops.toArray Q fuel (listed.setIfInBounds i true) a' w':=λa' w' hI'=>by
     refine ih _ a' w' (by simpa using hsz) (RG (by omega) h1 hc) (hext _ _ a' w' (λj hj=>?_) hI') (λj o' hj hlj e he=>?_) (λj h3 h4=>?_)
     ·have:=Lz (listed:=listed) (i:=i) (j:=j) (by omega)
      cases hq:(listed.setIfInBounds i true).getD j true with
      | true=>
       rw[hq] at this;rcases this.1 rfl with h | h
       ·simp[h]
       ·simp[h]
      | false=>
       rw[hq] at this;have h5 : ¬ (j=i∨listed.getD j true=true):=λh=>by have:=this.2 h;cases this
       cases hz:listed.getD j true with
       | true=>exact absurd (.inr hz) h5
       | false=>
        have:j≠i:=λh=>h5 (.inl h);simp[this]
     ·rw[Lz (by omega)] at hlj ⊢;rcases hlj with rfl | hlj
      ·rw[ho] at hj;simp at hj;subst hj;exact .inr (hb e he)
      ·exact .inr (hcl j o' hj hlj e he)
     ·rw[getD_set_ne true (by omega)];exact hlast j h3 h4
    obtain⟨k1,k2⟩:=step _ i o a w hiN h1 ho (λe he=>⟨hlt i h2 e (by rw[Yq,ho];exact he),hb e he⟩) hI _ K';unfold wpOp;have hoA:ops.toArray[i]? =some o:=by simpa using ho
    simp only[hoA]
    split
    ·rename_i hw';exact .inl (k1 hw')
    ·rename_i hw';exact k2 (by simpa using hw')
 have e0:∀j,j<ops.length→(Array.replicate ops.length false).getD j true=false:=λj hj=>by simp[hj]
 have hsz0:ops.toArray.size=ops.length:=by simp
 rw[hsz0];refine main ops.length (Array.replicate ops.length false) a _ (by simp) (by simp) (hext _ _ _ _ (λj hj=>(e0 j (by omega)).symm) h0) (λj o hj hl=>?_) (λj _ h2=>e0 j h2);rw[e0 j (List.getElem?_eq_some_iff.1 hj).1] at hl;cases hl
end
structure Sa where
 deps:List Nat
 r:Rp
 al:Option (List Rp×TypeId):=none
 late:Option (Nat×List Rp):=none
 sto:Option Nat:=none
def E0 (sp:List Sa)(i:Nat):Sa:=sp.getD i { deps:=[],r:=rv undef }
def SJ (sp:List Sa):List Sp:=sp.map λs=>⟨s.deps,s.r,0⟩
def K1 (β:Nat→Nat)(s:Sa)(i:Nat):Rp:=match s.al with
 | none=>s.r
 | some _=>rv (.pointer (some ⟨β i,0,none⟩))
def KM (S:Nat→Bool)(late:Option (Nat×List Rp))(cs:List Rp):List Rp:=match late with
 | none=>cs
 | some q=>if S q.1 then q.2 else cs
def EW (S:Nat→Bool)(β:Nat→Nat):List Sa→Nat→List Ent
 | [],_=>[]
 | s::r,t=>match s.al with
  | some p=>if S t then .blk (β t) (KM S s.late p.1) p.2::EW S β r (t+1) else EW S β r (t+1)
  | none=>EW S β r (t+1)
def S0 (β:Nat→Nat):List Sa→Nat→List Ent
 | [],_=>[]
 | s::r,t=>match s.al with
  | some p=>.blk (β t) (match s.late with | none=>p.1 | some q=>q.2) p.2::S0 β r (t+1)
  | none=>S0 β r (t+1)
def Lk (β:Nat→Nat):List Oper→List Sa→Nat→Fr→Fr
 | o::os,s::sp,i,l=>match o.dst with
  | some d=>(d,K1 β s i)::Lk β os sp (i+1) l
  | none=>Lk β os sp (i+1) l
 | _,_,_,l=>l
theorem Jv {S S':Nat→Bool}{late:Option (Nat×List Rp)}{cs:List Rp}(h:∀q,late=some q→S q.1=S' q.1):KM S late cs=KM S' late cs:=by
 unfold KM
 cases late with
 | none=>rfl
 | some q=>simp only[];rw[h q rfl]
theorem Ek (S:Nat→Bool)(β:Nat→Nat)(s:Sa)(r:List Sa)(t:Nat):EW S β (s::r) t=match s.al with
  | some p=>if S t then .blk (β t) (KM S s.late p.1) p.2::EW S β r (t+1) else EW S β r (t+1)
  | none=>EW S β r (t+1):=rfl
theorem Gx {S S':Nat→Bool}{β β':Nat→Nat}:∀(r:List Sa) (t0:Nat),(∀(t:Nat) (s:Sa),r[t]? =some s→s.al≠none→S (t0+t)=S' (t0+t)∧(S (t0+t)=true→β (t0+t)=β' (t0+t)∧∀q,s.late=some q→S q.1=S' q.1))→EW S β r t0=EW S' β' r t0
 | [],_,_=>rfl
 | s::r,t0,h=>by
  have ih:=Gx r (t0+1) (λt s hs hn=>by
   have:=h (t+1) s (by simpa using hs) hn;rw[show t0+1+t=t0+(t+1) from by omega];exact this)
  unfold EW;rw[ih]
  cases ha:s.al with
  | none=>rfl
  | some p=>
   obtain⟨h1,h2⟩:=h 0 s rfl (by rw[ha];exact nofun);simp only[Nat.add_zero] at h1 h2;simp only[];rw[← h1]
   split
   ·rename_i hS;rw[(h2 hS).1,Jv (h2 hS).2]
   ·rfl
theorem P7 (β:Nat→Nat):∀(r:List Sa) (t0:Nat),EW (λ_=>true) β r t0=S0 β r t0
 | [],_=>rfl
 | s::r,t0=>by
  unfold EW S0;rw[P7 β r (t0+1)]
  cases s.al with
  | none=>rfl
  | some p=>cases hl:s.late<;>simp[KM,hl]
theorem N5 (β:Nat→Nat):∀(r:List Sa) (t0:Nat),EW (λ_=>false) β r t0=[]
 | [],_=>rfl
 | s::r,t0=>by
  unfold EW;rw[N5 β r (t0+1)]
  cases s.al<;>simp
theorem P6 {S:Nat→Bool}{β:Nat→Nat}{i b:Nat}{p:List Rp×TypeId}:∀(r:List Sa) (t0 k:Nat) (s:Sa),i=t0+k→r[k]? =some s→s.al=some p→S i=false→(∀(t:Nat) (s:Sa) (q:Nat×List Rp),r[t]? =some s→s.al≠none→s.late=some q→q.1≠i)→(∀q,s.late=some q→S q.1=false∧q.1≠i)→
  (EW (λj=>j ==i||S j) (λj=>if j=i then b else β j) r t0).Perm (.blk b p.1 p.2::EW S β r t0)
 | [],_,_,_,_,h,_,_,_,_=>by simp at h
 | s'::r,t0,0,s,hi,h,ha,hS,hne,hl=>by
  simp at h hi;subst h;subst hi;have e:=Gx (S:=λj=>j ==i||S j) (S':=S) (β:=λj=>if j=i then b else β j) (β':=β) r (i+1) (λt s hs hn=>by
   have:i+1+t≠i:=by omega
   refine⟨by simp[this],λ_=>⟨by simp[this],λq hq=>?_⟩⟩;have:=hne (t+1) s q (by simpa using hs) hn hq;simp[this])
  have ec:KM (λj=>j ==i||S j) s'.late p.1=p.1:=by
   unfold KM
   cases hq:s'.late with
   | none=>rfl
   | some q=>
    obtain⟨h1,h2⟩:=hl q hq;simp[h1,h2]
  unfold EW;rw[e,ha];simp only[hS,BEq.rfl,YJ,Ze,ec];simp
 | s'::r,t0,k+1,s,hi,h,ha,hS,hne,hl=>by
  have ih:=P6 (S:=S) (β:=β) (i:=i) (b:=b) (p:=p) r (t0+1) k s (by omega) (by simpa using h) ha hS (λt s q hs=>hne (t+1) s q (by simpa using hs)) hl;have hne0:t0≠i:=by omega
  have hne':(t0 ==i)=false:=by simpa using hne0
  unfold EW
  cases ha':s'.al with
  | none=>exact ih
  | some q=>
   simp only[hne',Y0,Yw hne0];rw[Jv (S:=λj=>j ==i||S j) (S':=S) (λq hq=>by
    have:=hne 0 s' q rfl (by rw[ha'];exact nofun) hq;simp[this])]
   cases hS':S t0 with
   | true=>simpa using(Yh _ ih).trans (List.Perm.swap _ _ _)
   | false=>simpa using ih
theorem P5 {S:Nat→Bool}{β:Nat→Nat}{i j:Nat}{p:List Rp×TypeId}{ncs:List Rp}:∀(r:List Sa) (t0 k:Nat) (s:Sa),j=t0+k→r[k]? =some s→s.al=some p→s.late=some (i,ncs)→S j=true→S i=false→(∀(t:Nat) (s:Sa) (q:Nat×List Rp),r[t]? =some s→s.al≠none→s.late=some q→t0+t≠j→q.1≠i)→(∀(t:Nat) (s:Sa),r[t]? =some s→s.al≠none→t0+t≠i)→
  ∃H',(EW S β r t0).Perm (.blk (β j) p.1 p.2::H')∧(EW (λj=>j ==i||S j) β r t0).Perm (.blk (β j) ncs p.2::H')
 | [],_,_,_,_,h,_,_,_,_,_,_=>by simp at h
 | s'::r,t0,0,s,hj,h,ha,hl,hSj,hSi,hne,hni=>by
  simp at h hj;subst h;subst hj;have e:=Gx (S:=λx=>x ==i||S x) (S':=S) (β:=β) (β':=β) r (j+1) (λt s hs hn=>by
   have h1:=hni (t+1) s (by simpa using hs) hn;have h1':j+1+t≠i:=by omega
   refine⟨by simp[h1'],λ_=>⟨rfl,λq hq=>?_⟩⟩;have:=hne (t+1) s q (by simpa using hs) hn hq (by omega);simp[this])
  refine⟨EW S β r (j+1),?_,?_⟩
  ·rw[Ek];rw[ha];simp[hSj,KM,hl,hSi]
  ·rw[Ek];rw[ha,e];simp[hSj,KM,hl]
 | s'::r,t0,k+1,s,hj,h,ha,hl,hSj,hSi,hne,hni=>by
  obtain⟨H',h1,h2⟩:=P5 (S:=S) (β:=β) (i:=i) (j:=j) (p:=p) (ncs:=ncs) r (t0+1) k s (by omega) (by simpa using h) ha hl hSj hSi (λt s q hs hn hq hx=>hne (t+1) s q (by simpa using hs) hn hq (by omega)) (λt s hs hn=>by
   have:=hni (t+1) s (by simpa using hs) hn;omega)
  cases ha':s'.al with
  | none=>exact⟨H',by rw[Ek,ha'];exact h1,by rw[Ek,ha'];exact h2⟩
  | some q=>
   have hi0:=hni 0 s' rfl (by rw[ha'];exact nofun);have hi0':(t0 ==i)=false:=by simpa using hi0
   have ec:KM (λx=>x ==i||S x) s'.late q.1=KM S s'.late q.1:=Jv (λq hq=>by
    have:=hne 0 s' q rfl (by rw[ha'];exact nofun) hq (by omega);simp[this])
   cases hS':S t0 with
   | true=>
    refine⟨.blk (β t0) (KM S s'.late q.1) q.2::H',?_,?_⟩
    ·rw[Ek];rw[ha'];simpa[hS'] using(Yh _ h1).trans (List.Perm.swap _ _ _)
    ·rw[Ek];rw[ha'];simp only[hi0',Y0,hS',Ze,ec];exact(Yh _ h2).trans (List.Perm.swap _ _ _)
   | false=>
    refine⟨H',?_,?_⟩
    ·rw[Ek];rw[ha'];simpa[hS'] using h1
    ·rw[Ek];rw[ha'];simp only[hi0',Y0,hS'];simpa using h2
def XH (n:Nat)(ops:List Oper)(N:Nat)(keys:List Nat)(deps:List (List Nat))(als:List Bool)(lates stos:List (Option Nat)):Bool:=
 Oo ops N&&decide (N≤ops.length)&&
 (List.range N).all (λi=>match Cw ops i with
  | some d=>decide (d<n)&&!keys.contains d&&(List.range N).all (λj=>j ==i||Cw ops j !=some d)
  | none=>true)&&
 (List.range N).all (λi=>(deps.getD i []).all (λj=>decide (j<N)&&(Eo (ops.getD i default)).contains j&&!als.getD j true))&&
 (List.range N).all (λi=>match stos.getD i none with
  | some j=>decide (j<N)&&(Eo (ops.getD i default)).contains j&&als.getD j false&&!als.getD i true
  | none=>true)&&
 (List.range N).all (λj=>match lates.getD j none with
  | some k=>decide (k<N)&&als.getD j false&&stos.getD k none ==some j
  | none=>true)
def Xb (P:Program)(n:Nat)(c:Cx)(opsA:Array Oper)(Q:Exit→Act→World→Prop)(l:Fr)(o:Oper)(p:List Rp×TypeId):Prop:=
 ∀H a w Z (K:Act→World→Prop),C6 n l a Z→St c H Z w→(∀b w',St c (.blk b p.1 p.2::H) Z w'→K (a.put o.dst (.pointer (some ⟨b,0,none⟩))) w')→
  Region.wanted o (yielded opsA a.tmps)=true∧o.wp P a w K Q
def Ww (P:Program)(n:Nat)(c:Cx)(opsA:Array Oper)(Q:Exit→Act→World→Prop)(ops:List Oper)(sp:List Sa)(l0:Fr)(H:List Ent)(i:Nat)(o:Oper):Prop:=
 match (E0 sp i).sto with
 | some j=>o.dst=none∧∃d p ncs,Cw ops j=some d∧(E0 sp j).al=some p∧(E0 sp j).late=some (i,ncs)∧
   ∀b H,DR P n c opsA Q ((d,rv (.pointer (some ⟨b,0,none⟩)))::BK ops (SJ sp) (E0 sp i).deps l0) (.blk b p.1 p.2::H) o (rv undef) (.blk b ncs p.2::H)
 | none=>match (E0 sp i).al with
  | none=>∀E,DR P n c opsA Q (BK ops (SJ sp) (E0 sp i).deps l0) (H++E) o (E0 sp i).r (H++E)
  | some p=>Xb P n c opsA Q (BK ops (SJ sp) (E0 sp i).deps l0) o p
def Iu (P:Program)(n:Nat)(c:Cx)(opsA:Array Oper)(Q:Exit→Act→World→Prop)(ops:List Oper)(sp:List Sa)(l0:Fr)(H:List Ent):Nat→List Oper→Prop
 | i,o::rest=>Ww P n c opsA Q ops sp l0 H i o∧Iu P n c opsA Q ops sp l0 H (i+1) rest
 | _,[]=>True
section
variable {P : Program} {n : Nat} {c : Cx} {opsA : Array Oper} {Q : Exit → Act → World → Prop} {l l0 : Fr} {H : List Ent} {sp : List Sa}
theorem Iu.at {ops:List Oper}:∀{k:Nat} {rest:List Oper},Iu P n c opsA Q ops sp l0 H k rest→∀(t:Nat) o,rest[t]? =some o→Ww P n c opsA Q ops sp l0 H (k+t) o
 | k,o::rest,⟨h1,h2⟩,t,o',ht=>by
  cases t with
  | zero=>simp at ht;subst ht;exact h1
  | succ t=>
   have:=Iu.at h2 t o' (by simpa using ht);rw[show k+(t+1)=k+1+t from by omega];exact this
 | _,[],_,t,o,h=>by simp at h
theorem Ox {β:Nat→Nat}{a:Act}{Z:Fz}(h0:C6 n l0 a Z):∀(os:List Oper) (ss:List Sa) (k:Nat),(∀(t:Nat) o s d,os[t]? =some o→ss[t]? =some s→o.dst=some d→∃v,a.tmps[d]? =some v∧(K1 β s (k+t)).p Z v)→C6 n (Lk β os ss k l0) a Z
 | [],_,_,_=>by unfold Lk;exact h0
 | _::_,[],_,_=>by unfold Lk;exact h0
 | o::os,s::ss,k,h=>by
  have ih:=Ox h0 os ss (k+1) (λt o' s' d h1 h2 h3=>by
   have:=h (t+1) o' s' d (by simpa using h1) (by simpa using h2) h3;rw[show k+1+t=k+(t+1) from by omega];exact this)
  unfold Lk
  cases hd:o.dst with
  | none=>exact ih
  | some d=>
   refine⟨ih.size,ih.defers,λi r hi=>?_⟩;rw[BO] at hi
   split at hi
   ·rename_i e;subst e;simp at hi;subst hi;exact h 0 o s d rfl rfl hd
   ·exact ih.tm i r hi
theorem W4 {id:Nat}{ops:List Oper}(N:Nat)(sp:List Sa)(hm:P.follows .mixedOrders=true)(hB:XH n ops N (Eu l0) (sp.map (·.deps)) (sp.map (·.al.isSome)) (sp.map (·.late.map (·.1))) (sp.map (·.sto))=true)(hl0:SE l0 l)(hsp:sp.length=N)
  (hob:Iu P n c ops.toArray Q ops sp l0 H 0 (ops.take N)) (h:∀β,WL P n c ops.toArray Q (ops.drop N) (Lk β (ops.take N) sp 0 l0) (H++S0 β sp 0)):WC P n c (.region id ops.toArray true) Q l H:=by
 intro a w Z ha hw;simp only[XH,Yl,YD,List.mem_range,Yg] at hB;obtain⟨⟨⟨⟨⟨b1,bN⟩,b2⟩,b3⟩,b4⟩,b5⟩:=hB;have hget:∀i,i<N→(ops.take N)[i]? =ops[i]?:=λi hi=>by rw[YM,Y6 hi]
 have hsa:∀i,i<N→sp[i]? =some (E0 sp i):=λi hi=>by
  simp[E0,Yq,Yp (show i<sp.length by omega)]
 have hspq:∀i,i<N→(Dp (SJ sp) i)=⟨(E0 sp i).deps,(E0 sp i).r,0⟩:=λi hi=>by
  simp[Dp,SJ,Yq,YH,hsa i hi]
 have hals:∀j b,j<N→(sp.map (·.al.isSome)).getD j b=(E0 sp j).al.isSome:=λj b hj=>by simp[Yq,YH,hsa j hj]
 have hstos:∀j,j<N→(sp.map (·.sto)).getD j none=(E0 sp j).sto:=λj hj=>by simp[Yq,YH,hsa j hj]
 have hlates:∀j,j<N→(sp.map (·.late.map (·.1))).getD j none=(E0 sp j).late.map (·.1):=λj hj=>by simp[Yq,YH,hsa j hj]
 have S1:∀i o j,i<N→ops[i]? =some o→(E0 sp i).sto=some j→j<N∧j∈Eo o∧(E0 sp j).al≠none∧(E0 sp i).al=none:=λi o j hi ho hs=>by
  have h1:=b4 i hi;rw[hstos i hi,hs] at h1;simp only[Yl,Yy,Yg] at h1;obtain⟨⟨⟨h2,h3⟩,h4⟩,h5⟩:=h1;rw[hals j _ h2] at h4;rw[hals i _ hi] at h5;rw[Yq,ho,YC,List.contains_iff_mem] at h3;exact⟨h2,h3,λe=>(by rw[e] at h4;cases h4),(by simpa using h5)⟩
 have L1:∀t q,t<N→(E0 sp t).late=some q→q.1<N∧(E0 sp q.1).sto=some t:=λt q ht hq=>by
  have h1:=b5 t ht;rw[hlates t ht,hq] at h1;simp only[Option.map_some,Yl,Yg,beq_iff_eq] at h1;obtain⟨⟨h2,h3⟩,h4⟩:=h1;rw[hstos _ h2] at h4;exact⟨h2,h4⟩
 have hops:∀j,j<N→∃o,ops[j]? =some o:=λj hj=>⟨ops[j]'(by omega),Yp (by omega)⟩
 have lt_of:∀(t:Nat) (s:Sa),sp[t]? =some s→t<N∧s=E0 sp t:=λt s hs=>by
  have h1:t<N:=by have:=(List.getElem?_eq_some_iff.1 hs).1;omega
  refine⟨h1,?_⟩;rw[hsa t h1] at hs;simpa using hs.symm
 have hdst:∀i o d,i<N→ops[i]? =some o→o.dst=some d→(d<n∧d ∉ Eu l0)∧∀j,j<N→j≠i→Cw ops j≠some d:=λi o d hi ho hd=>by
  have h3:=b2 i hi;have:Cw ops i=some d:=by simp[Cw,ho,hd]
  rw[this] at h3;simp only[Yl,Yy,YD,List.mem_range,Yg] at h3;refine⟨⟨h3.1.1,λhmem=>by rw[← List.contains_iff_mem] at hmem;rw[hmem] at h3;cases h3.1.2⟩,λj hj hne he=>?_⟩;have:=h3.2 j hj;simp[hne,he] at this
 refine SV (N:=N) hm b1 bN (λS a w=>∃ (β:Nat→Nat) (Z:Fz),St c (H++EW S β sp 0) Z w∧C6 n l0 a Z∧(∀j o d,j<N→S j=true→ops[j]? =some o→o.dst=some d→∃v,a.tmps[d]? =some v∧(K1 β (E0 sp j) j).p Z v)∧
   ∀k j,k<N→(E0 sp k).sto=some j→S k=true→S j=true)
  (λS S' a w hS hI=>?_) ⟨λ_=>0,Z,?_,ha.subL hl0,λj o d _ hS=>(by cases hS),λk j _ _ hS=>(by cases hS)⟩ (λS i o a w hi hun ho hb hI K hK=>?_) (λa w hI=>?_)
 ·obtain⟨β,Z,h1,h2,h3,h4⟩:=hI;refine⟨β,Z,?_,h2,λj o d hj hS'=>h3 j o d hj (by rw[hS j hj];exact hS'),λk j hk hs hSk=>?_⟩
  ·rw[← Gx (S:=S) (β:=β) (β':=β) sp 0 (λt s hs _=>by
    obtain⟨ht,rfl⟩:=lt_of t s hs;exact⟨hS _ (by omega),λ_=>⟨rfl,λq hq=>hS _ (L1 t q ht hq).1⟩⟩)]
   exact h1
  ·obtain⟨o,ho⟩:=hops k hk;rw[← hS j (S1 k o j hk ho hs).1];exact h4 k j hk hs (by rw[hS k hk];exact hSk)
 ·rw[N5,YV];exact hw.drawn _
 ·obtain⟨β,Z,h1,h2,h3,hx⟩:=hI;have hput:∀k u v,a.tmps[k]? =some u→o.dst≠some k→(a.put o.dst v).tmps[k]? =some u:=λk u v hk hne=>by
   cases hd:o.dst with
   | none=>simpa[Act.put] using hk
   | some d=>
    simp only[Act.put,Array.getElem?_setIfInBounds];rw[Yw (λe=>hne (by rw[hd,e]))];exact hk
  have hagr:∀v Z',Fz.le Z Z'→C6 n l0 (a.put o.dst v) Z':=λv Z' hz=>by
   refine⟨?_,?_,λk r hk=>?_⟩
   ·cases o.dst<;>simp[Act.put,h2.size]
   ·cases o.dst<;>simp[Act.put,h2.defers]
   ·obtain⟨u,hu,hpu⟩:=h2.tm k r hk;exact⟨u,hput k u v hu (λe=>((hdst i o k hi ho e).1).2 (Kb hk)),r.mono hz hpu⟩
  have hvals:∀(v:Value) (Z':Fz) (β':Nat→Nat),Fz.le Z Z'→(∀j,j≠i→β' j=β j)→(o.dst≠none→(K1 β' (E0 sp i) i).p Z' v)→∀j o' d,j<N→(j ==i||S j)=true→ops[j]? =some o'→o'.dst=some d→∃u,(a.put o.dst v).tmps[d]? =some u∧(K1 β' (E0 sp j) j).p Z' u:=by
   intro v Z' β' hz hβ hp j o' d hj hS' ho' hd
   by_cases hji:j=i
   ·subst hji;rw[ho] at ho';simp at ho';subst ho';refine⟨v,?_,hp (by simp[hd])⟩;have hdn:d<a.tmps.size:=by rw[h2.size];exact(hdst j o d hi ho hd).1.1
    simp[Act.put,hd,hdn]
   ·have hSj:S j=true:=by simpa[hji] using hS'
    obtain⟨u,hu,hpu⟩:=h3 j o' d hj hSj ho' hd;refine⟨u,hput d u v hu (λe=>(hdst i o d hi ho e).2 j hj hji (by simp[Cw,ho',hd])),?_⟩;have:K1 β' (E0 sp j) j=K1 β (E0 sp j) j:=by unfold K1;rw[hβ j hji]
    rw[this];exact(K1 β (E0 sp j) j).mono hz hpu
  have hx':∀k j,k<N→(E0 sp k).sto=some j→(k ==i||S k)=true→(j ==i||S j)=true:=λk j hk hs hSk=>by
   by_cases hki:k=i
   ·subst hki;have:=(hb j (S1 k o j hk ho hs).2.1).2;simp[this]
   ·have:S j=true:=hx k j hk hs (by simpa[hki] using hSk);simp[this]
  have hat:=hob.at i o (by rw[hget i hi];exact ho);rw[YQ] at hat;unfold Ww at hat;have hag':C6 n (BK ops (SJ sp) (E0 sp i).deps l0) a Z:=Kn h2 (λj hj d hd=>by
    have h4:=b3 i hi j (by simpa[Yq,YH,hsa i hi] using hj);simp only[Yl,Yy,Yg] at h4;obtain⟨⟨h5,h6⟩,h7⟩:=h4;rw[Yq,ho,YC,List.contains_iff_mem] at h6;have hjal:(E0 sp j).al=none:=by
     rw[hals j _ h5] at h7;simpa using h7
    obtain⟨o2,ho2⟩:=hops j h5;obtain⟨v,hv1,hv2⟩:=h3 j o2 d h5 (hb j h6).2 ho2 (by simpa[Cw,ho2] using hd);refine⟨v,hv1,?_⟩;rw[hspq j h5];simpa[K1,hjal] using hv2)
  cases hst:(E0 sp i).sto with
  | some j=>
   rw[hst] at hat;obtain⟨hod,d,p,ncs,hd,hal,hlate,hok⟩:=hat;obtain⟨hjN,hjb,_,hial⟩:=S1 i o j hi ho hst;have hSj:=(hb j hjb).2;obtain⟨H',p1,p2⟩:=P5 (S:=S) (β:=β) (i:=i) (j:=j) (p:=p) (ncs:=ncs) sp 0 j (E0 sp j) (by omega) (hsa j hjN) hal hlate hSj hun (λt s q hs _ hq hne he=>by
     obtain⟨ht,rfl⟩:=lt_of t s hs;have:=(L1 t q ht hq).2;rw[he,hst] at this;simp at this;omega) (λt s hs hn he=>by
     obtain⟨ht,rfl⟩:=lt_of t s hs;rw[YQ] at he;subst he;exact hn hial)
   obtain⟨o2,ho2⟩:=hops j hjN;obtain⟨v,hv1,hv2⟩:=h3 j o2 d hjN hSj ho2 (by simpa[Cw,ho2] using hd);have hag2:C6 n ((d,rv (.pointer (some ⟨β j,0,none⟩)))::BK ops (SJ sp) (E0 sp i).deps l0) a Z:=⟨hag'.size,hag'.defers,λk r hk=>by
    rw[BO] at hk
    split at hk
    ·rename_i e;subst e;simp at hk;subst hk
     exact⟨v,hv1,by simpa[K1,hal] using hv2⟩
    ·exact hag'.tm k r hk⟩
   refine hok (β j) (H++H') a w Z K hag2 (h1.perm ((List.Perm.append_left H p1).trans List.perm_middle)) (λv w' Z' hz _ hs'=>hK _ _ ⟨β,Z',?_,hagr v Z' hz,hvals v Z' β hz (λ_ _=>rfl) (λhne=>absurd hod hne),hx'⟩);exact hs'.perm (List.perm_middle.symm.trans (List.Perm.append_left H p2.symm))
  | none=>
   rw[hst] at hat;have latene:∀t q,t<N→(E0 sp t).late=some q→q.1≠i:=λt q ht hq he=>by
    have:=(L1 t q ht hq).2;rw[he,hst] at this;cases this
   cases hal:(E0 sp i).al with
   | none=>
    rw[hal] at hat;refine hat _ a w Z K hag' h1 (λv w' Z' hz hp hst'=>hK _ _ ⟨β,Z',?_,hagr v Z' hz,hvals v Z' β hz (λ_ _=>rfl) (λ_=>by unfold K1;rw[hal];exact hp),hx'⟩);rw[Gx (S':=S) (β':=β) sp 0 (λt s hs hn=>by
     obtain⟨ht,rfl⟩:=lt_of t s hs;have:t≠i:=λe=>by subst e;exact hn hal
     refine⟨by simp[this],λ_=>⟨rfl,λq hq=>?_⟩⟩;have:=latene t q ht hq;simp[this])]
    exact hst'
   | some p=>
    rw[hal] at hat;have key:=λK' hK'=>hat (H++EW S β sp 0) a w Z K' hag' h1 hK';have h5:∀b w',St c (.blk b p.1 p.2::(H++EW S β sp 0)) Z w'→K (a.put o.dst (.pointer (some ⟨b,0,none⟩))) w':=λb w' hst'=>by
     refine hK _ _ ⟨λj=>if j=i then b else β j,Z,?_,hagr _ Z (Fz.le.refl _),hvals _ Z _ (Fz.le.refl _) (λj hj=>by simp[hj]) (λ_=>by simp[K1,hal,rv]),hx'⟩;have hp:=P6 (S:=S) (β:=β) (i:=i) (b:=b) (p:=p) sp 0 i (E0 sp i) (by omega) (hsa i hi) hal hun (λt s q hs _ hq=>by
      obtain⟨ht,rfl⟩:=lt_of t s hs;exact latene t q ht hq) (λq hq=>by
       refine⟨?_,latene i q hi hq⟩
       cases hS:S q.1 with
       | false=>rfl
       | true=>
        obtain⟨h6,h7⟩:=L1 i q hi hq;have:=hx q.1 i h6 h7 hS;rw[this] at hun;cases hun)
     exact hst'.perm ((List.perm_middle.symm).trans (List.Perm.append_left H hp.symm))
    refine⟨λ_=>(key K h5).2,λhw'=>?_⟩;rw[(key K h5).1] at hw';cases hw'
 ·obtain⟨β,Z,h1,h2,h3,_⟩:=hI;refine h β a w Z (Ox h2 _ _ 0 (λt o s d ht hs hd=>?_)) (by rw[← P7];exact h1);obtain⟨htN,rfl⟩:=lt_of t s hs;rw[YQ];exact h3 t o d htN rfl (by rw[← hget t htN];exact ht) hd
end
theorem NF {l:Fr}{P:Program}{n:Nat}{c:Cx}{opsA:Array Oper}{Q:Exit→Act→World→Prop}{d:Nat}{e:TypeId}{ty:TypeId}{pos:String}{af:Array Edge}{z:Value}{cs:List Rp}(hz:∀w,(zeroValue e).run P w = .ok z w)(hcs:z.cells.toList.map rv=cs) :
  Xb P n c opsA Q l { dst:=some d,op:=.alloc e,type:=ty,pos:=pos,after:=af,guard:=none } (cs,e):=λH a w Z K _ hw hK=>by
 refine⟨by simp[Region.wanted],?_⟩;unfold Oper.wp;rw[show(execOp a.eval { dst:=some d,op:=.alloc e,type:=ty,pos:=pos,after:=af,guard:=none }).run P w = .ok (.value (.pointer (some ⟨w.heap.size,0,none⟩))) (w.alloc (.cells z.cells e)) from by simp[execOp,Instr.alloc,hz,newVar,newRow,newObj,Sem.run,Sem.run_bind]];exact hK _ _ (hw.alloc _ (e:=.blk w.heap.size cs e) ⟨z.cells.toList,by simpa using heap_alloc_new w _,by subst hcs;exact Bd.rvs Z _⟩ rfl)
section
variable {P : Program} {n : Nat} {c : Cx} {opsA : Array Oper} {Q : Exit → Act → World → Prop} {l l0 : Fr} {H : List Ent} {sp : List Sa}
theorem C9 {id:Nat}{ops:List Oper}(N:Nat)(ks0:List Nat)(sp:List Sa)(hob:Iu P n c ops.toArray Q ops sp l0 H 0 (ops.take N))(h:∀β,WL P n c ops.toArray Q (ops.drop N) (Lk β (ops.take N) sp 0 l0) (H++S0 β sp 0))
  (h0:Kp ks0 l l0:=by repeat (first | exact MR | (apply KF;rfl) | (apply Lp;rfl))) (hm:P.follows .mixedOrders=true:=by kernel_rfl) (hB:XH n ops N (Eu l0) (sp.map (·.deps)) (sp.map (·.al.isSome)) (sp.map (·.late.map (·.1))) (sp.map (·.sto))=true:=by kernel_rfl)
  (hsp:sp.length=N:=by rfl):WC P n c (.region id ops.toArray true) Q l H:=W4 N sp hm hB h0.one hsp hob h
theorem Cv {all rest:List Oper}{d:Nat}{op:Op}{ty:TypeId}{pos:String}{af:Array Edge}{i:Nat}
  (hr:∀{H},Bn P n c (BK all (SJ sp) (E0 sp i).deps l0) H { dst:=some d,op:=op,type:=ty,pos:=pos,after:=af,guard:=none } (E0 sp i).r) (h:Iu P n c opsA Q all sp l0 H (i+1) rest) (ha:(E0 sp i).al=none:=by rfl) (hs:(E0 sp i).sto=none:=by rfl) :
  Iu P n c opsA Q all sp l0 H i ({ dst:=some d,op:=op,type:=ty,pos:=pos,after:=af,guard:=none }::rest):=by
 refine⟨?_,h⟩;unfold Ww;rw[hs,ha];exact λ_=>Jk hr
theorem Kr {all rest:List Oper}{d:Nat}{op:Op}{ty:TypeId}{pos:String}{af:Array Edge}{i:Nat}
  (hr:∀{E},Bn P n c (BK all (SJ sp) (E0 sp i).deps l0) (H++E) { dst:=some d,op:=op,type:=ty,pos:=pos,after:=af,guard:=none } (E0 sp i).r) (h:Iu P n c opsA Q all sp l0 H (i+1) rest) (ha:(E0 sp i).al=none:=by rfl) (hs:(E0 sp i).sto=none:=by rfl) :
  Iu P n c opsA Q all sp l0 H i ({ dst:=some d,op:=op,type:=ty,pos:=pos,after:=af,guard:=none }::rest):=by
 refine⟨?_,h⟩;unfold Ww;rw[hs,ha];exact λ_=>Jk hr
theorem Xe {all rest:List Oper}{o:Oper}{p:List Rp×TypeId}{i:Nat}(hr:Xb P n c opsA Q (BK all (SJ sp) (E0 sp i).deps l0) o p)(h:Iu P n c opsA Q all sp l0 H (i+1) rest)(ha:(E0 sp i).al=some p:=by rfl)(hs:(E0 sp i).sto=none:=by rfl):Iu P n c opsA Q all sp l0 H i (o::rest):=by
 refine⟨?_,h⟩;unfold Ww;rw[hs,ha];exact hr
theorem Yb {all rest:List Oper}{op:Op}{ty:TypeId}{pos:String}{af:Array Edge}{g:Option (Nat×Bool)}{i j d:Nat}{p:List Rp×TypeId}{ncs:List Rp}
  (hr:∀{b H},DR P n c opsA Q ((d,rv (.pointer (some ⟨b,0,none⟩)))::BK all (SJ sp) (E0 sp i).deps l0) (.blk b p.1 p.2::H) { dst:=none,op:=op,type:=ty,pos:=pos,after:=af,guard:=g } (rv undef) (.blk b ncs p.2::H))
  (h:Iu P n c opsA Q all sp l0 H (i+1) rest) (hs:(E0 sp i).sto=some j:=by rfl) (hd:Cw all j=some d:=by rfl) (ha:(E0 sp j).al=some p:=by rfl) (hl:(E0 sp j).late=some (i,ncs):=by rfl) :
  Iu P n c opsA Q all sp l0 H i ({ dst:=none,op:=op,type:=ty,pos:=pos,after:=af,guard:=g }::rest):=by
 refine⟨?_,h⟩;unfold Ww;rw[hs];exact⟨rfl,d,p,ncs,hd,ha,hl,λ_ _=>hr⟩
theorem Ob {all:List Oper}{i:Nat}:Iu P n c opsA Q all sp l0 H i []:=trivial
end
structure UT (ks:List Nat) (β:Nat→Nat) (os:List Oper) (sp:List Sa) (i:Nat) (l0 l1:Fr):Prop where
 go:Kp ks (Lk β os sp i l0) l1
section
variable {ks : List Nat} {β : Nat → Nat} {os : List Oper} {sp : List Sa} {i d : Nat} {l0 l1 : Fr} {ds : List Nat} {r : Rp} {p : List Rp × TypeId} {lt : Option (Nat × List Rp)} {so : Option Nat} {op : Op} {ty : TypeId} {pos : String} {af : Array Edge} {g : Option (Nat × Bool)}
theorem Xr (h:ks.contains d=true)(t:UT ks β os sp (i+1) l0 l1):UT ks β ({ dst:=some d,op:=op,type:=ty,pos:=pos,after:=af,guard:=g }::os) ({ deps:=ds,r:=r,sto:=so }::sp) i l0 ((d,r)::l1):=⟨KF h t.go⟩
theorem Xu (h:ks.contains d=true)(t:UT ks β os sp (i+1) l0 l1):UT ks β ({ dst:=some d,op:=op,type:=ty,pos:=pos,after:=af,guard:=g }::os) ({ deps:=ds,r:=r,al:=some p,late:=lt,sto:=so }::sp) i l0 ((d,rv (.pointer (some ⟨β i,0,none⟩)))::l1):=⟨KF h t.go⟩
theorem Xt {s:Sa}(h:ks.contains d=false)(t:UT ks β os sp (i+1) l0 l1):UT ks β ({ dst:=some d,op:=op,type:=ty,pos:=pos,after:=af,guard:=g }::os) (s::sp) i l0 l1:=⟨Lp h t.go⟩
theorem Xs {s:Sa}(t:UT ks β os sp (i+1) l0 l1):UT ks β ({ dst:=none,op:=op,type:=ty,pos:=pos,after:=af,guard:=g }::os) (s::sp) i l0 l1:=⟨t.go⟩
theorem Xv (t:Kp ks l0 l1):UT ks β [] [] i l0 l1:=⟨t⟩
theorem CR {P:Program}{n:Nat}{c:Cx}{opsA:Array Oper}{Q:Exit→Act→World→Prop}{rest:List Oper}{H H1:List Ent}(ks:List Nat)(h:WL P n c opsA Q rest l1 H1)
  (hz:UT ks β os sp i l0 l1:=by repeat (first | (apply Xr;rfl) | (apply Xu;rfl) | (apply Xt;rfl) | apply Xs | apply Xv | exact MR | (apply KF;rfl) | (apply Lp;rfl))) (hH:H=H1:=by rfl) :
  WL P n c opsA Q rest (Lk β os sp i l0) H:=λa w Z ha hw=>h a w Z (ha.subL hz.go.one) (hH▸hw)
end
section
variable {P : Program} {n : Nat} {c : Cx} {opsA : Array Oper} {Q : Exit → Act → World → Prop} {l l0 : Fr} {H : List Ent} {sp : List Sa}
theorem PJ {all rest:List Oper}{o:Oper}{i:Nat}(hr:∀{E},DR P n c opsA Q (BK all (SJ sp) (E0 sp i).deps l0) (H++E) o (E0 sp i).r (H++E))(h:Iu P n c opsA Q all sp l0 H (i+1) rest)(ha:(E0 sp i).al=none:=by rfl)(hs:(E0 sp i).sto=none:=by rfl):Iu P n c opsA Q all sp l0 H i (o::rest):=by
 refine⟨?_,h⟩;unfold Ww;rw[hs,ha];exact λ_=>hr
end
section
variable {P : Program} {n : Nat} {c : Cx} {opsA : Array Oper} {Q : Exit → Act → World → Prop} {l : Fr} {H : List Ent} {d : Nat} {ty : TypeId} {pos : String} {af : Array Edge}
end
section
variable {P : Program} {n : Nat} {c : Cx} {ops : Array Oper} {Q : Exit → Act → World → Prop} {rest : List Oper} {l : Fr} {H H' : List Ent} {d : Nat} {d' : Option Nat} {x y z3 : Operand} {ty t t' e : TypeId} {pos : String} {af : Array Edge} {g : Option (Nat × Bool)} {v u : Value} {r : Rp} {sz : Nat}
end
def XV (p:Bool→Prop):Rp:=⟨λ_ v=>∃b,v = .bool b∧p b,λ_ h=>h,true,λ_ Z v ⟨b,e,_⟩=>by rw[e];rfl⟩
section
variable {P : Program} {n : Nat} {c : Cx} {ops : Array Oper} {Q : Exit → Act → World → Prop} {rest : List Oper} {l : Fr} {H : List Ent} {d : Option Nat} {ty rty t e : TypeId} {pos : String} {af : Array Edge} {g : Option (Nat × Bool)} {r : Rp} {x : Operand} {cx cy : Code} {sz : Nat} {xs : List (List Rp)}
theorem SY {o:Operand}{p:Bool→Prop}(ho:ev l o=some (XV p))(h1:p true→WC P n c cx Q l H)(h2:p false→WC P n c cy Q l H):WC P n c (.cond o cx cy) Q l H:=λa w Z ha hw=>by
 obtain⟨b,e,hp⟩:=ha.ev ho;exact wp_cond_split e (λe=>h1 (e▸hp) a w Z ha hw) (λe=>h2 (e▸hp) a w Z ha hw)
theorem RY (ht:P.underlying t=some (.slice e))(h:ev l x=some (AQ sz xs)):Bn P n c l H { dst:=d,op:=.binOp .eql t x (.const (.slice none 0 0)) rty,type:=ty,pos:=pos,after:=af,guard:=g } (XV (λb=>b=true→xs=[])):=λa w Z ha hw=>by
 obtain⟨A,cap,e1,h1,h2,h3,h4⟩:=ha.ev h;refine⟨.bool A.isNone,⟨_,rfl,λhb=>?_⟩,?_⟩
 ·cases A with
  | some a=>cases hb
  | none=>
   have:=h3 rfl;exact List.length_eq_zero_iff.1 (by omega)
 ·have:=run_equal_slice_nil (P:=P) w t e A xs.length cap ht;have e2:a.eval (.const (.slice none 0 0)) = .slice none 0 0:=rfl;simp[execOp,e1,e2,binOp,this,eqGuard]
end
section
variable {P : Program} {n : Nat} {c : Cx} {Q : Exit → Act → World → Prop} {l : Fr} {H : List Ent} {x rest' : Code} {K : Act → World → Prop}
theorem I0 {lb:Nat}(h:WK n c (Q (.goto lb)) l H):WC P n c (.goto lb) Q l H:=λa w Z ha hw=>wp_goto (h a w Z ha hw)
theorem BI {lb:Nat}(h:WK n c (Q (.goto lb)) l H):WK n c (Exit.then K Q (.goto lb)) l H:=h
theorem E3 {id lb:Nat}(h:WK n c (Q (.goto lb)) l H):WK n c (Exit.inBlock id Q (.goto lb)) l H:=h
theorem HZ {id lb:Nat}(h:WK n c (Q (.goto lb)) l H):WK n c (UA id K Q (.goto lb)) l H:=h
theorem Vg {lb:Nat}(h:WK n c (Q .ret) l H):WK n c (Exit.jump lb K Q .ret) l H:=h
theorem Ix {lb:Nat}(h:WK n c K l H):WK n c (Exit.jump lb K Q (.goto lb)) l H:=λa w Z ha hw=>⟨rfl,h a w Z ha hw⟩
theorem MH {S:Type}(lb:Nat)(inv:S→Prop)(fr:S→Fr)(hp:S→List Ent)(hf:findLabel x lb=some rest')
  (h1:WC P n c x (Exit.jump lb (GK n c inv fr hp) Q) l H) (h2:∀s,inv s→WC P n c rest' (Exit.noGoto Q) (fr s) (hp s)):WC P n c (.scope x) Q l H:=λa w Z ha hw=>
 wp_scope_jumps lb (GK n c inv fr hp) (λ_ _=>0) hf (h1 a w Z ha hw) (by
  rintro a w ⟨s,Z,hi,ha,hw⟩;refine wp_mono (h2 s hi a w Z ha hw) λe a w q=>?_
  cases e with
  | goto _=>exact q.elim
  | _=>exact q)
end
section
variable {P : Program} {n : Nat} {c : Cx} {ops : Array Oper} {Q : Exit → Act → World → Prop} {rest : List Oper} {l : Fr} {H H' : List Ent} {d : Nat} {d' : Option Nat} {x y z3 z4 : Operand} {ty t t' e : TypeId} {pos : String} {af : Array Edge} {g : Option (Nat × Bool)} {v u : Value} {r : Rp} {sz : Nat}
theorem Pf {α:Type}{ys:List α}{enc:α→List Rp}{k' k'':IntKind}{j:Int}(ht:P.underlying t=some (.slice e))(hz:∀w,(sizeOf e).run P w = .ok sz w)(h:ev l x=some (AQ sz (ys.map enc)))(hj:ev l z3=some (rI k' j))(hm:ev l z4=some (rI k'' j))(hg2:Jb j (ys.length:Int)=true) :
  Bn P n c l H { dst:=d',op:=.slice t x none (some z3) (some z4),type:=ty,pos:=pos,after:=af,guard:=g } (AQ sz ((ys.take j.toNat).map enc)):=λa w Z ha hw=>by
 obtain⟨A,cap,e1,hc1,hc2,hA,hc⟩:=ha.ev h;have h0:=(CP hg2).1;have h2:=(CP hg2).2;simp only[Yt] at e1 hc1;have h3:j≤(cap:Int):=by omega
 refine⟨.slice A j.toNat j.toNat,⟨A,j.toNat,?_,?_,by omega,?_,λq cl hq=>?_⟩,?_⟩
 ·congr 1
  simp;omega
 ·simp;omega
 ·intro hn;have:=hA hn;omega
 ·rw[YH,YM] at hq
  split at hq
  ·exact hc q cl (by rw[YH];exact hq)
  ·cases hq
 ·have hA':A.map (λb=>b.add 0)=A:=by
   cases A with
   | none=>rfl
   | some ad=>obtain⟨b,o,sp⟩:=ad;cases sp<;>rfl
  simp[execOp,e1,ha.eval hj,ha.eval hm,Instr.sliceAt,Instr.slice,run_underlying ht,Instr.sliceBounds,B2 (m:=cap) _ _ h0 h3,B2 (m:=j.toNat) _ _ h0 (by omega),hz]
  try (intro _;cases A<;>rfl)
end
structure Sx (U:Type) where
 deps:List Nat
 r:U→Rp
 dyn:Bool:=false
 old:List Nat:=[]
def GY {U:Type}(sp:List (Sx U))(i:Nat):Sx U:=sp.getD i { deps:=[],r:=λ_=>rv undef }
def UQ {U:Type}(sp:List (Sx U))(u:U):List Sp:=sp.map λs=>⟨s.deps,s.r u,0⟩
def Xl {U:Type}(sp:List (Sx U))(u:U):List Sa:=sp.map λs=>{ deps:=s.deps,r:=s.r u }
def M9 {U:Type}:List (Sx U)→Prop
 | []=>True
 | s::r=>(s.dyn=false→∀u u',s.r u=s.r u')∧M9 r
theorem M9.at {U:Type}:∀{sp:List (Sx U)},M9 sp→∀{i:Nat} {s:Sx U},sp[i]? =some s→s.dyn=false→∀u u',s.r u=s.r u'
 | [],_,i,s,h=>by simp at h
 | x::sp,⟨h1,h2⟩,0,s,h=>by simp at h;subst h;exact h1
 | x::sp,⟨h1,h2⟩,i+1,s,h=>M9.at h2 (by simpa using h)
theorem XE {U:Type}{ds os:List Nat}{r:Rp}{sp:List (Sx U)}(h:M9 sp):M9 ({ deps:=ds,r:=λ_=>r,old:=os }::sp):=⟨λ_ _ _=>rfl,h⟩
theorem XD {U:Type}{ds os:List Nat}{r:U→Rp}{sp:List (Sx U)}(h:M9 sp):M9 ({ deps:=ds,r:=r,dyn:=true,old:=os }::sp):=⟨λh'=>(by cases h'),h⟩
def Gp (lw:Fr):List Nat→Fr→Fr
 | [],l=>l
 | d::r,l=>match look lw d with
  | some q=>(d,q)::Gp lw r l
  | none=>Gp lw r l
theorem Ru {n:Nat}{lw l:Fr}{a:Act}{Z:Fz}(h0:C6 n l a Z):∀{ds:List Nat},(∀d∈ds,∀q,look lw d=some q→∃v,a.tmps[d]? =some v∧q.p Z v)→C6 n (Gp lw ds l) a Z
 | [],_=>h0
 | d::ds,h=>by
  have ih:=Ru h0 (ds:=ds) (λd' hd'=>h d' (by simp[hd']));unfold Gp
  cases hd:look lw d with
  | none=>exact ih
  | some q=>
   refine⟨ih.size,ih.defers,λi r hi=>?_⟩;rw[BO] at hi
   split at hi
   ·rename_i e;subst e;simp at hi;subst hi;exact h d (by simp) q hd
   ·exact ih.tm i r hi
theorem XC {U:Type}:M9 ([]:List (Sx U)):=trivial
def XG (n:Nat)(ops:List Oper)(N i0:Nat)(keys:List Nat)(deps:List (List Nat))(dyns:List Bool)(olds:List (List Nat)):Bool:=
 Oo ops N&&decide (N≤ops.length)&&decide (i0<N)&&
 (List.range N).all (λi=>match Cw ops i with
  | some d=>decide (d<n)&&!keys.contains d&&(List.range N).all (λj=>j ==i||Cw ops j !=some d)
  | none=>true)&&
 (List.range N).all (λi=>(deps.getD i []).all (λj=>decide (j<N)&&(Eo (ops.getD i default)).contains j))&&
 (List.range N).all (λi=>!dyns.getD i false||i ==i0||(Eo (ops.getD i default)).any (λe=>decide (e<N)&&(e ==i0||dyns.getD e false)))&&
 (List.range N).all (λi=>(olds.getD i []).all (λd=>(List.range N).all (λw=>Cw ops w !=some d||(Eo (ops.getD w default)).contains i)))
section
variable (P : Program) (n : Nat) (c : Cx) (opsA : Array Oper) (Q : Exit → Act → World → Prop)
def X8 {U:Type}(l:Fr)(H:List Ent)(o:Oper)(r:U→Rp)(H1:U→List Ent):Prop:=
 ∀a w Z (K:Act→World→Prop),C6 n l a Z→St c H Z w→(∀u v w' Z',Fz.le Z Z'→(r u).p Z' v→St c (H1 u) Z' w'→K (a.put o.dst v) w')→
  Region.wanted o (yielded opsA a.tmps)=true∧o.wp P a w K Q
def KT {U:Type}(ops:List Oper)(sp:List (Sx U))(l0 lw:Fr)(i0:Nat)(H:List Ent)(H1:U→List Ent):Nat→List Oper→Prop
 | i,o::rest=>(if i=i0 then(∀u,X8 P n c opsA Q (Gp lw (GY sp i).old (BK ops (UQ sp u) (GY sp i).deps l0)) H o (GY sp i).r H1) else ∀u H',(H'=H∨H'=H1 u)→DR P n c opsA Q (Gp lw (GY sp i).old (BK ops (UQ sp u) (GY sp i).deps l0)) H' o ((GY sp i).r u) H')∧KT ops sp l0 lw i0 H H1 (i+1) rest
 | _,[]=>True
end
section
variable {P : Program} {n : Nat} {c : Cx} {opsA : Array Oper} {Q : Exit → Act → World → Prop} {l l0 lw : Fr} {U : Type} {H : List Ent} {H1 : U → List Ent} {sp : List (Sx U)} {i0 : Nat}
theorem KT.at {ops:List Oper}:∀{k:Nat} {rest:List Oper},KT P n c opsA Q ops sp l0 lw i0 H H1 k rest→∀(t:Nat) o,rest[t]? =some o→
  (if k+t=i0 then(∀u,X8 P n c opsA Q (Gp lw (GY sp (k+t)).old (BK ops (UQ sp u) (GY sp (k+t)).deps l0)) H o (GY sp (k+t)).r H1) else ∀u H',(H'=H∨H'=H1 u)→DR P n c opsA Q (Gp lw (GY sp (k+t)).old (BK ops (UQ sp u) (GY sp (k+t)).deps l0)) H' o ((GY sp (k+t)).r u) H')
 | k,o::rest,⟨h1,h2⟩,t,o',ht=>by
  cases t with
  | zero=>simp at ht;subst ht;exact h1
  | succ t=>
   have:=KT.at h2 t o' (by simpa using ht);rw[show k+(t+1)=k+1+t from by omega];exact this
 | _,[],_,t,o,h=>by simp at h
theorem Vh {id:Nat}{ops:List Oper}[Inhabited U](N i0:Nat)(sp:List (Sx U))(hm:P.follows .mixedOrders=true)(hB:XG n ops N i0 (Eu l0) (sp.map (·.deps)) (sp.map (·.dyn)) (sp.map (·.old))=true)(hl0:SE l0 l)(hlw:SE lw l)(hsp:sp.length=N)(hst:M9 sp)
  (hob:KT P n c ops.toArray Q ops sp l0 lw i0 H H1 0 (ops.take N)) (h:∀u,WL P n c ops.toArray Q (ops.drop N) (Lk (λ_=>0) (ops.take N) (Xl sp u) 0 l0) (H1 u)):WC P n c (.region id ops.toArray true) Q l H:=by
 intro a w Z ha hw;simp only[XG,Yl,YD,List.mem_range,Yg] at hB;obtain⟨⟨⟨⟨⟨⟨b1,bN⟩,b0⟩,b2⟩,b3⟩,b4⟩,b5⟩:=hB;have hget:∀i,i<N→(ops.take N)[i]? =ops[i]?:=λi hi=>by rw[YM,Y6 hi]
 have hsa:∀i,i<N→sp[i]? =some (GY sp i):=λi hi=>by
  simp[GY,Yq,Yp (show i<sp.length by omega)]
 have hspq:∀u i,i<N→(Dp (UQ sp u) i)=⟨(GY sp i).deps,(GY sp i).r u,0⟩:=λu i hi=>by
  simp[Dp,UQ,Yq,YH,hsa i hi]
 have hdyn:∀j,j<N→(sp.map (·.dyn)).getD j false=(GY sp j).dyn:=λj hj=>by simp[Yq,YH,hsa j hj]
 have hdep:∀j,j<N→(sp.map (·.deps)).getD j []=(GY sp j).deps:=λj hj=>by simp[Yq,YH,hsa j hj]
 have hops:∀j,j<N→∃o,ops[j]? =some o:=λj hj=>⟨ops[j]'(by omega),Yp (by omega)⟩
 have hdst:∀i o d,i<N→ops[i]? =some o→o.dst=some d→(d<n∧d ∉ Eu l0)∧∀j,j<N→j≠i→Cw ops j≠some d:=λi o d hi ho hd=>by
  have h3:=b2 i hi;have:Cw ops i=some d:=by simp[Cw,ho,hd]
  rw[this] at h3;simp only[Yl,Yy,YD,List.mem_range,Yg] at h3;refine⟨⟨h3.1.1,λhmem=>by rw[← List.contains_iff_mem] at hmem;rw[hmem] at h3;cases h3.1.2⟩,λj hj hne he=>?_⟩;have:=h3.2 j hj;simp[hne,he] at this
 refine SV (N:=N) hm b1 bN (λS a w=>∃ (u:U) (Z:Fz),St c (if S i0=true then H1 u else H) Z w∧C6 n l0 a Z∧(∀j o d,j<N→S j=true→ops[j]? =some o→o.dst=some d→∃v,a.tmps[d]? =some v∧((GY sp j).r u).p Z v)∧
   (∀j,j<N→(GY sp j).dyn=true→S j=true→S i0=true)∧
   (∀d q,look lw d=some q→(∀wr,wr<N→Cw ops wr=some d→S wr=false)→∃v,a.tmps[d]? =some v∧q.p Z v)∧
   ∀wr i d,wr<N→i<N→Cw ops wr=some d→d∈(GY sp i).old→S wr=true→S i=true)
  (λS S' a w hS hI=>?_) ⟨default,Z,?_,ha.subL hl0,λj o d _ hS=>(by cases hS),λj _ _ hS=>(by cases hS),λd q hd _=>(ha.subL hlw).tm d q hd,λwr i d _ _ _ _ hS=>(by cases hS)⟩ (λS i o a w hi hun ho hb hI K hK=>?_) (λa w hI=>?_)
 ·obtain⟨u,Z,h1,h2,h3,h4,h5,h6⟩:=hI;refine⟨u,Z,?_,h2,λj o d hj hS'=>h3 j o d hj (by rw[hS j hj];exact hS'),λj hj hd hSj=>?_,λd q hd hw'=>h5 d q hd (λwr hwr hdw=>by rw[hS wr hwr];exact hw' wr hwr hdw),λwr i d hwr hi hdw hold hSw=>by rw[← hS i hi];exact h6 wr i d hwr hi hdw hold (by rw[hS wr hwr];exact hSw)⟩
  ·rw[← hS i0 b0];exact h1
  ·rw[← hS i0 b0];exact h4 j hj hd (by rw[hS j hj];exact hSj)
 ·exact hw.drawn _
 ·obtain⟨u,Z,h1,h2,h3,hx,ho5,ho6⟩:=hI;have hput:∀k u v,a.tmps[k]? =some u→o.dst≠some k→(a.put o.dst v).tmps[k]? =some u:=λk u v hk hne=>by
   cases hd:o.dst with
   | none=>simpa[Act.put] using hk
   | some d=>
    simp only[Act.put,Array.getElem?_setIfInBounds];rw[Yw (λe=>hne (by rw[hd,e]))];exact hk
  have hagr:∀v Z',Fz.le Z Z'→C6 n l0 (a.put o.dst v) Z':=λv Z' hz=>by
   refine⟨?_,?_,λk r hk=>?_⟩
   ·cases o.dst<;>simp[Act.put,h2.size]
   ·cases o.dst<;>simp[Act.put,h2.defers]
   ·obtain⟨u,hu,hpu⟩:=h2.tm k r hk;exact⟨u,hput k u v hu (λe=>((hdst i o k hi ho e).1).2 (Kb hk)),r.mono hz hpu⟩
  have hvals:∀(v:Value) (Z':Fz) (u':U),Fz.le Z Z'→(∀j,j<N→j≠i→S j=true→(GY sp j).r u'=(GY sp j).r u)→(o.dst≠none→((GY sp i).r u').p Z' v)→∀j o' d,j<N→(j ==i||S j)=true→ops[j]? =some o'→o'.dst=some d→∃q,(a.put o.dst v).tmps[d]? =some q∧((GY sp j).r u').p Z' q:=by
   intro v Z' u' hz hβ hp j o' d hj hS' ho' hd
   by_cases hji:j=i
   ·subst hji;rw[ho] at ho';simp at ho';subst ho';refine⟨v,?_,hp (by simp[hd])⟩;have hdn:d<a.tmps.size:=by rw[h2.size];exact(hdst j o d hi ho hd).1.1
    simp[Act.put,hd,hdn]
   ·have hSj:S j=true:=by simpa[hji] using hS'
    obtain⟨q,hu,hpu⟩:=h3 j o' d hj hSj ho' hd;refine⟨q,hput d q v hu (λe=>(hdst i o d hi ho e).2 j hj hji (by simp[Cw,ho',hd])),?_⟩;rw[hβ j hj hji hSj];exact((GY sp j).r u).mono hz hpu
  have hat:=hob.at i o (by rw[hget i hi];exact ho);rw[YQ] at hat;have hold':∀Z',Fz.le Z Z'→∀v d q,look lw d=some q→(∀wr,wr<N→Cw ops wr=some d→(wr ==i||S wr)=false)→∃v',(a.put o.dst v).tmps[d]? =some v'∧q.p Z' v':=λZ' hz v d q hd hw'=>by
   obtain⟨v',e1,e2⟩:=ho5 d q hd (λwr hwr hdw=>by have:=hw' wr hwr hdw;simp only[Yz] at this;exact this.2);refine⟨v',hput d v' v e1 (λe=>?_),q.mono hz e2⟩;have:=hw' i hi (by simp[Cw,ho,e]);simp at this
  have hord:∀wr k d,wr<N→k<N→Cw ops wr=some d→d∈(GY sp k).old→(wr ==i||S wr)=true→(k ==i||S k)=true:=λwr k d hwr hk hdw hmem hSw=>by
   by_cases hwi:wr=i
   ·subst hwi;have h7:=b5 k hk d (by simpa[Yq,YH,hsa k hk] using hmem) wr hwr;simp only[YN,bne_iff_ne,ne_eq,hdw,not_true_eq_false,false_or] at h7;rw[Yq,ho,YC,List.contains_iff_mem] at h7;simp[(hb k h7).2]
   ·have:S k=true:=ho6 wr k d hwr hk hdw hmem (by simpa[hwi] using hSw);simp[this]
  have hag':C6 n (Gp lw (GY sp i).old (BK ops (UQ sp u) (GY sp i).deps l0)) a Z:=Ru (Kn h2 (λj hj d hd=>by
    obtain⟨h5,h6⟩:=b3 i hi j (by rw[hdep i hi];exact hj);rw[Yq,ho,YC,List.contains_iff_mem] at h6;obtain⟨o2,ho2⟩:=hops j h5;obtain⟨v,hv1,hv2⟩:=h3 j o2 d h5 (hb j h6).2 ho2 (by simpa[Cw,ho2] using hd);refine⟨v,hv1,?_⟩;rw[hspq u j h5];exact hv2)) (λd hd q hq=>ho5 d q hq (λwr hwr hdw=>by
     cases hS:S wr with
     | false=>rfl
     | true=>have:=ho6 wr i d hwr hi hdw hd hS;rw[this] at hun;cases hun))
  by_cases hi0:i=i0
  ·subst hi0;rw[Y6 rfl] at hat;rw[hun] at h1;have h1':St c H Z w:=by simpa using h1
   have key:=λK' hK'=>hat u a w Z K' hag' h1' hK';have h5:∀u' v w' Z',Fz.le Z Z'→((GY sp i).r u').p Z' v→St c (H1 u') Z' w'→K (a.put o.dst v) w':=λu' v w' Z' hz hpv hs'=>by
    refine hK _ _ ⟨u',Z',by simpa using hs',hagr v Z' hz,hvals v Z' u' hz (λj hj hji hSj=>?_) (λ_=>hpv),λj _ _ _=>by simp,hold' Z' hz v,hord⟩;refine hst.at (hsa j hj) ?_ u' u
    cases hd:(GY sp j).dyn with
    | false=>rfl
    | true=>have:=hx j hj hd hSj;rw[this] at hun;cases hun
   refine⟨λ_=>(key K h5).2,λhw'=>?_⟩;rw[(key K h5).1] at hw';cases hw'
  ·rw[Yw hi0] at hat;refine hat u _ (by split;exact .inr rfl;exact .inl rfl) a w Z K hag' h1 (λv w' Z' hz hp hst'=>hK _ _ ⟨u,Z',?_,hagr v Z' hz,hvals v Z' u hz (λ_ _ _ _=>rfl) (λ_=>hp),λj hj hd hSj=>?_,hold' Z' hz v,hord⟩)
   ·have hiS:(i0 ==i||S i0)=S i0:=by
     have:(i0 ==i)=false:=by simpa using λe=>hi0 e.symm
     rw[this];rfl
    show St c (if (i0 ==i||S i0)=true then H1 u else H) Z' w';rw[hiS];exact hst'
   ·have hii:(i0 ==i)=false:=by simpa using λe=>hi0 e.symm
    show(i0 ==i||S i0)=true;rw[hii,Y0]
    by_cases hji:j=i
    ·subst hji;have h7:=b4 j hj;rw[hdyn j hj,hd] at h7;simp only[Ys,Y0,YN,beq_iff_eq,hi0,false_or,List.any_eq_true,Yl,Yg] at h7;obtain⟨e,he,heN,h8⟩:=h7;rw[Yq,ho,YC] at he;have hSe:=(hb e he).2;rcases h8 with h8 | h8
     ·subst h8;exact hSe
     ·rw[hdyn e heN] at h8;exact hx e heN h8 hSe
    ·exact hx j hj hd (by simpa[hji] using hSj)
 ·obtain⟨u,Z,h1,h2,h3,_,_,_⟩:=hI;have hsl:(Xl sp u).length=N:=by simp[Xl,hsp]
  refine h u a w Z (Ox h2 _ _ 0 (λt o s d ht hs hd=>?_)) (by simpa using h1);have htN:t<N:=by have:=(List.getElem?_eq_some_iff.1 hs).1;omega
  have hs':s = { deps:=(GY sp t).deps,r:=(GY sp t).r u }:=by
   simp only[Xl,YH,hsa t htN,Option.map_some,Option.some.injEq] at hs;exact hs.symm
  subst hs';rw[YQ];exact h3 t o d htN rfl (by rw[← hget t htN];exact ht) hd
theorem W3 [Inhabited U]{id:Nat}{ops:List Oper}(N i0:Nat)(ks0 ksw:List Nat)(sp:List (Sx U))(H1:U→List Ent)(hob:KT P n c ops.toArray Q ops sp l0 lw i0 H H1 0 (ops.take N))(h:∀u,WL P n c ops.toArray Q (ops.drop N) (Lk (λ_=>0) (ops.take N) (Xl sp u) 0 l0) (H1 u))
  (h0:Kp ks0 l l0:=by repeat (first | exact MR | (apply KF;rfl) | (apply Lp;rfl))) (hw:Kp ksw l lw:=by repeat (first | exact MR | (apply KF;rfl) | (apply Lp;rfl))) (hm:P.follows .mixedOrders=true:=by kernel_rfl) (hB:XG n ops N i0 (Eu l0) (sp.map (·.deps)) (sp.map (·.dyn)) (sp.map (·.old))=true:=by kernel_rfl)
  (hsp:sp.length=N:=by rfl) (hst:M9 sp:=by repeat (first | exact XC | apply XE | apply XD)):WC P n c (.region id ops.toArray true) Q l H:=Vh N i0 sp hm hB h0.one hw.one hsp hst hob h
theorem Wn {all rest:List Oper}{d:Nat}{op:Op}{ty:TypeId}{pos:String}{af:Array Edge}{i:Nat}(hr:∀{u H},Bn P n c (Gp lw (GY sp i).old (BK all (UQ sp u) (GY sp i).deps l0)) H { dst:=some d,op:=op,type:=ty,pos:=pos,after:=af,guard:=none } ((GY sp i).r u))(h:KT P n c opsA Q all sp l0 lw i0 H H1 (i+1) rest)(hne:Nat.beq i i0=false:=by rfl) :
  KT P n c opsA Q all sp l0 lw i0 H H1 i ({ dst:=some d,op:=op,type:=ty,pos:=pos,after:=af,guard:=none }::rest):=by
 refine⟨?_,h⟩;rw[Yw (λe=>by subst e;simp at hne)];exact λu H _=>Jk hr
theorem Ya {all rest:List Oper}{o:Oper}{i:Nat}(hr:∀{u H},DR P n c opsA Q (Gp lw (GY sp i).old (BK all (UQ sp u) (GY sp i).deps l0)) H o ((GY sp i).r u) H)(h:KT P n c opsA Q all sp l0 lw i0 H H1 (i+1) rest)(hne:Nat.beq i i0=false:=by rfl):KT P n c opsA Q all sp l0 lw i0 H H1 i (o::rest):=by
 refine⟨?_,h⟩;rw[Yw (λe=>by subst e;simp at hne)];exact λu H _=>hr
theorem XY {all rest:List Oper}{o:Oper}(hr:∀{u},X8 P n c opsA Q (Gp lw (GY sp i0).old (BK all (UQ sp u) (GY sp i0).deps l0)) H o (GY sp i0).r H1)(h:KT P n c opsA Q all sp l0 lw i0 H H1 (i0+1) rest):KT P n c opsA Q all sp l0 lw i0 H H1 i0 (o::rest):=by
 refine⟨?_,h⟩;rw[Y6 rfl];exact λu=>hr
theorem XZ {all:List Oper}{i:Nat}:KT P n c opsA Q all sp l0 lw i0 H H1 i []:=trivial
end
section
variable {P : Program} {n : Nat} {c : Cx} {opsA : Array Oper} {Q : Exit → Act → World → Prop} {l : Fr} {H : List Ent} {d : Nat} {x y : Operand} {ty t e : TypeId} {pos : String} {af : Array Edge} {v : Value} {sz : Nat}
theorem ST {α:Type}{xs ys:List α}{enc:α→List Rp}{i:Nat}{inf:TypeInfo}{z:Value}{bytes:Nat}(ht:P.underlying t=some (.slice e))(hinf:P.info? e=some inf)(hz:inf.zero=some z)(hsize:inf.size=sz)(hby:inf.bytes=bytes)(hzs:z.cells.size=sz)(hsz:Nat.blt 0 sz=true)(hbp:Nat.blt 0 bytes=true)
  (hx:ev l x=some (rv v)) (hi:H[i]? =some (.row v e sz (xs.map enc))) (hy:J0 P n c l H y sz ys.length (ys.map enc).flatten) (henc:∀z,(enc z).length=sz) (hone:∀z,(enc z).all (·.one)=true) (hg:DI bytes (xs.length+ys.length)=true) :
  X8 P n c opsA Q l H { dst:=some d,op:=.call { callee:=.builtin .append,args:=#[x,y],argTypes:=#[t,t] },type:=ty,pos:=pos,after:=af,guard:=none } (λv'=>rv v') (λv'=>.row v' e sz ((xs++ys).map enc)::H.eraseIdx i):=λa w Z K ha hw hK=>by
  obtain⟨h0,us,h1,h2⟩:=hw.ent hi;obtain⟨ws,h3,h4⟩:=hy a w Z ha hw;have hsz':0<sz:=by simpa using hsz
  have hbp':0<bytes:=by simpa using hbp
  have hb:(xs.length+ys.length)*bytes≤140737488355328:=by simpa[DI] using hg
  have hle:xs.length+ys.length≤(xs.length+ys.length)*bytes:=Nat.le_mul_of_pos_right _ hbp';have hws:∀y∈ws,y.oneCell'=true:=Bd.one (rs:=(ys.map enc).flatten) (by
   rw[YD];intro r hr;obtain⟨cl,hcl,hrc⟩:=List.mem_flatten.1 hr;obtain⟨z',_,rfl⟩:=List.mem_map.1 hcl;exact List.all_eq_true.1 (hone z') r hrc) h3
  have hxl:(xs.map enc).length=xs.length:=Yt ..;rw[hxl] at h1;obtain⟨v',w',e1,e2,e3,e4⟩:=GO (P:=P) ty ht hinf hz hsize hby hzs hsz' h1 h4 hws hb (by simp only[maxLen];omega);have hent:(Ent.row v' e sz ((xs++ys).map enc)).holds Z w':=⟨λcl hcl=>by obtain⟨z',_,rfl⟩:=List.mem_map.1 hcl;exact henc z',us++ws,by simpa using e2,by rw[Zd,List.flatten_append];exact h2.append h3⟩
  have hst:=hw.callF hi (St.one (e':=.row v' e sz ((xs++ys).map enc)) (M:=(Ent.row v e sz (xs.map enc)).foot) hw.frz hw.env hw.emono e3.os e3.tape e3.output e3.size (λk hk hne=>e3.block k hk (λe1=>hne (by simp[Ent.foot,← e1])))
   (hw.zdis _ (Yu hi)) hent (λk hk=>by
    simp only[Ent.foot,Option.mem_toList] at hk ⊢;rcases e4 with e4 | e4
    ·exact .inl (e4▸hk)
    ·exact .inr (e4 k hk)))
  refine⟨by simp[Region.wanted],?_⟩;unfold Oper.wp;rw[show(execOp a.eval { dst:=some d,op:=.call { callee:=.builtin .append,args:=#[x,y],argTypes:=#[t,t] },type:=ty,pos:=pos,after:=af,guard:=none }).run P w = .ok (.value v') w' from by simp[execOp,resolve,invoke,builtin,ha.eval hx,e1]];exact hK v' v' w' Z (Fz.le.refl _) rfl hst
end
set_option maxRecDepth 100000
set_option maxHeartbeats 4000000
theorem Uh:∃inf,Tryz.prog.info? 9=some inf∧inf.zero=some (.string ⟨#[]⟩)∧inf.size=1∧inf.bytes=16:=by
  have key:(Tryz.prog.info? 9).map (λi=>(i.zero,i.size,i.bytes))=some (some (.string ⟨#[]⟩),1,16):=by kernel_rfl
  obtain⟨inf,h1,h2⟩:=Option.map_eq_some_iff.1 key;simp only[Prod.mk.injEq] at h2;exact⟨inf,h1,h2.1,h2.2.1,h2.2.2⟩
theorem VP (F:Nat)(fields:(List Ah))(r:Ah×Int)(h:P1 F fields=some r):Fn Tryz.prog GE 62 [AQ 1 (List.map eS fields)] [] (λR H=>R=C0 [rS r.1,rI .i64 r.2]∧H=[]):=by
 refine enter (n:=39) Tryz.func62 Aa Tryz.ntmps62 Aa (λw Z=>?_);refine Be (l':=[(0,AQ 1 (List.map eS fields))]) (H':=[]) Aa Aa ?_;unfold P1 at h;refine Al (wv (r:=rS ([]:Ah)) (Ae Aa) (wv (r:=rI .i64 0) (Ae Aa) (Av (As (Al (wm Aa (wv (Bz (ys:=fields) (enc:=eS) DU Aa) (wv (DN Aa Aa) (Av (Az (b:=decide (64<(fields.length:Int))) Aa (λc1=>?_) (λc1=>?_)))))))))))
 ·have h2:=AK c1 h;refine Al (wv (r:=rS ([]:Ah)) (Ae Aa) (wv (r:=rI .i64 3) (Ae Aa) (Av (A1 (Af ?_)))));obtain rfl:=A2 h2;exact A0 (EP Tryz.results62 (AO Aa) (AO Aa)) sN ⟨Aa,Aa⟩
 ·have h3:=AL c1 h;refine A4 (AW (Al (wm Aa (wv (Bz (ys:=fields) (enc:=eS) DU Aa) (wv (r:=rI .u8 (IntKind.wrap .u8 (fields.length:Int))) (Ih ⟨_,UY⟩ Wi Aa) (Bc (ys:=([IntKind.wrap .u8 (fields.length:Int)]:List Int)) (enc:=Bl) (css:=[[rI .u8 (IntKind.wrap .u8 (fields.length:Int))]]) (xs:=[.tmp 12]) EN Xi Xh Aa Aa Aa ⟨G2.one Aa (Up.refl _),trivial⟩ Aa DD Aa Aa Aa (λb4=>?_)))))));refine wa Aa (Av (As (Al (wm Aa (wv (Bz (ys:=fields) (enc:=eS) DU Aa) (wv (r:=rI .i64 0) (Aq Aa) (Av (AY ?_))))))));obtain⟨hl,hm,hi⟩:=AM h3;refine BJ (S:=Nat×((List Int)×Int)×(Value)) (V:=((List Int))×(Value)) 0 (λσ=>Ch (λσ=>EJ fields σ.1 σ.2) σ.1 σ.2.1=some hl) (λσ=>[(2,rS ([]:Ah)),(3,rI .i64 0),(4,rv σ.2.2),(14,AQ 1 (List.map eS fields)),(15,rI .i64 (fields.length:Int)),(16,rI .i64 σ.2.1.2)]) (λσ=>[.row σ.2.2 5 1 (List.map Bl σ.2.1.1)]) (λσ=>σ.1) (F,(([IntKind.wrap .u8 (fields.length:Int)]:List Int),0),(.slice (some ⟨b4,0,none⟩) 1 1)) hm (AT.c Aa (AT.c5 Aa Aa Aa Aa Aa AT.nil)) (sC sN) (λσ=>Ki σ.1=some r) (λσ=>[(2,rS ([]:Ah)),(3,rI .i64 0),(4,rv σ.2)]) (λσ=>[.row σ.2 5 1 (List.map Bl σ.1)]) ?_ ?_
  ·rintro⟨h8,⟨hb,ha⟩,v41⟩ hn;refine Be (l':=[(2,rS ([]:Ah)),(3,rI .i64 0),(4,rv v41),(14,AQ 1 (List.map eS fields)),(15,rI .i64 (fields.length:Int)),(16,rI .i64 ha)]) (H':=[.row v41 5 1 (List.map Bl hb)]) Aa Aa ?_;obtain⟨ho,rfl,hp,hd,hg⟩:=Dh hn;replace hd:EJ fields hb ha=some hp:=hd;unfold EJ at hd;refine Al (wv (Dn Aa Aa) (Av (As (Az (b:=decide (ha<(fields.length:Int))) Aa (λhh=>?_) (λhh=>?_)))))
   ·have hq:=AK hh hd;refine A4 (AW (As (AY (Al ?_))));obtain⟨hr,hj⟩:=A8 hq;refine wv (BE (enc:=eS) (ys:=fields) DU CM Aa Aa hr) (wv (Bv Dk Aa Aa) (wa Aa (Av (As (Al (wm Aa (wv (BC CC Aa) (wv (DN Aa Aa) (Av (Az (b:=decide (4000<((Aj fields ha).length:Int))) Aa (λc75=>?_) (λc75=>?_)))))))))))
    ·have hs:=AK c75 hj;refine Al (wv (r:=rS ([]:Ah)) (Ae Aa) (wv (r:=rI .i64 3) (Ae Aa) (Av (A1 (Af (AC (Af (Af (Bq ?_)))))))));have ht:=BF hs hg hi;refine AC (Af ?_);obtain rfl:=A2 ht;exact A0 (EP Tryz.results62 (AO Aa) (AO Aa)) (sS sN) ⟨Aa,Aa⟩
    ·have hu:=AL c75 hj;refine A4 (AW (Al (wm Aa (wm Aa (wv (BC CC Aa) (wv (r:=rI .i64 (Js .i64 ((Aj fields ha).length:Int) 8)) (Xo Aa Aa (by decide)) (wv (r:=rI .u8 (IntKind.wrap .u8 (Js .i64 ((Aj fields ha).length:Int) 8))) (Ih ⟨_,UY⟩ Wi Aa) (wm Aa (wv (BC CC Aa) (wv (r:=rI .u8 (IntKind.wrap .u8 ((Aj fields ha).length:Int))) (Ih ⟨_,UY⟩ Wi Aa) (Bc (ys:=([IntKind.wrap .u8 (Js .i64 ((Aj fields ha).length:Int) 8),IntKind.wrap .u8 ((Aj fields ha).length:Int)]:List Int)) (enc:=Bl) (css:=[[rI .u8 (IntKind.wrap .u8 (Js .i64 ((Aj fields ha).length:Int) 8))],[rI .u8 (IntKind.wrap .u8 ((Aj fields ha).length:Int))]]) (xs:=[.tmp 27,.tmp 30]) EN Xi Xh Aa Aa Aa ⟨G2.one Aa (Up.refl _),G2.one Aa (Up.refl _),trivial⟩ Aa DD Aa Aa Aa (λh9=>?_))))))))))));obtain⟨hw,hx⟩:=A8 hu;obtain⟨inf,hinf⟩:=Mv;refine BX (xs:=hb) (ys:=([IntKind.wrap .u8 (Js .i64 ((Aj fields ha).length:Int) 8),IntKind.wrap .u8 ((Aj fields ha).length:Int)]:List Int)) (enc:=Bl) (i:=1) EN hinf.1 hinf.2.1 hinf.2.2.1 hinf.2.2.2 Aa Aa Aa Aa Aa (J0.w (i:=0) Aa Aa) DD IN hw Aa (λv80=>?_);refine wa Aa (Av (At (wm Aa (wm Aa ?_))));obtain⟨hy,hz⟩:=A8 hx;obtain⟨inf,hinf⟩:=Mv;refine H0 (xs:=hb++([IntKind.wrap .u8 (Js .i64 ((Aj fields ha).length:Int) 8),IntKind.wrap .u8 ((Aj fields ha).length:Int)]:List Int)) (i:=0) EN CC hinf.1 hinf.2.1 hinf.2.2.1 hinf.2.2.2 Aa Aa Aa hy Aa (λh0=>?_);refine wa Aa (Aw (AV (AW (At ?_))));obtain⟨h1,h4⟩:=A8 hz;refine wv (BZ Aa Aa h1) (wm Aa (Aw ?_));have h5:=BG h4 hg;exact AA (AU (ho,((hb++([IntKind.wrap .u8 (Js .i64 ((Aj fields ha).length:Int) 8),IntKind.wrap .u8 ((Aj fields ha).length:Int)]:List Int))++CO (Aj fields ha),ha+1),h0) ⟨h5,Y1 _⟩ (AT.c Aa (AT.c5 Aa Aa Aa Aa Aa AT.nil)) (sC (sS sN)))
   ·have h6:=AL hh hd;refine BQ (AE ?_);have h7:=CE h6 hg hi;exact AE (B7 (AU (hb,v41) h7 (AT.c Aa (AT.c Aa (AT.c Aa AT.nil))) (sC sN)))
  ·rintro⟨he,hk⟩ hf;refine Dr (l':=[(2,rS ([]:Ah)),(3,rI .i64 0),(4,rv hk)]) (H':=[.row hk 5 1 (List.map Bl he)]) Aa Aa ?_;replace hf:Ki he=some r:=hf;unfold Ki at hf;refine B4 (AW (Al (wm Aa (wv (r:=rS (PI he)) (Wp (xs:=he) (i:=0) EN CC Wi Aa Aa) (wa Aa (wv (r:=rI .i64 0) (Ae Aa) (Av (A1 ?_))))))));obtain rfl:=A2 hf;exact A0 (EP Tryz.results62 (AO Aa) (AO Aa)) (sS sN) ⟨Aa,Aa⟩
theorem Sz (F:Nat)(s:Ah)(r:(List Ah)×Int)(h:Kh F s=some r):Fn Tryz.prog GE 66 [rS s] [] (λR H=>R=C0 [AQ 1 (List.map eS r.1),rI .i64 r.2]∧H=[]):=by
 refine enter (n:=58) Tryz.func66 Aa Tryz.ntmps66 Aa (λw Z=>?_);refine Be (l':=[(0,rS s)]) (H':=[]) Aa Aa ?_;unfold Kh at h;refine Al (wv (r:=rv (.slice none 0 0)) (Ae Aa) (wv (r:=rI .i64 0) (Ae Aa) (Av (MH (S:=(Int)×(Unit)) 0 (λσ=>Dd σ.1=some r) (λσ=>[(2,rv (.slice none 0 0)),(3,rI .i64 0),(7,rI .i64 σ.1)]) (λσ=>[]) Aa ?_ ?_))))
 ·refine Al (wv (r:=rv (.slice none 0 0)) (Ae Aa) (By (wv (r:=rI .i64 0) (Ae Aa) (wv (r:=rI .i64 0) (Ae Aa) (By (wv (r:=rI .i64 14) (Ae Aa) (Av (As (Al (wm Aa (wv (Hk Aa Aa) (Av (Az (b:=decide (s=([]:Ah))) Aa (λhl=>?_) (λhl=>?_))))))))))))))
  ·have h1:=AK hl h;exact I0 (BI (Ix (AU (14,()) h1 (AT.c Aa (AT.c Aa (AT.c Aa AT.nil))) sN)))
  ·have h2:=AL hl h;refine A4 (AW (As ?_));obtain⟨h3,h4⟩:=A8 h2;obtain⟨h5,h6⟩:=A8 h4;obtain⟨h7,hs⟩:=A8 h6;refine C9 6 [0,2,3,4,6,7] [⟨[],rS s,none,none,none⟩,⟨[0],rI .u8 (Br s 0),none,none,none⟩,⟨[1],rI .i64 (Br s 0),none,none,none⟩,⟨[],rS s,none,none,none⟩,⟨[3],rS (List.drop (Int.toNat 1) s),none,none,none⟩,⟨[2],rI .i64 (Br s 0),none,none,none⟩] ?_ (λβ=>?_)
   ·refine Cv (Aq Aa) (Cv (BA CC Aa Aa h3) (Cv (HB ⟨_,Wi⟩ UY Aa h5) (Cv (Aq Aa) (Cv (DY CC Aa Aa h7) (Cv (Ae Aa) ?_)))));exact Ob
   refine CR (H1:=[]) [10,11,12,13,14,5,0,2,3,4,6,7] ?_;refine wa Aa (Av (As (Al (wm Aa (wv (DN Aa Aa) (Av (Az (b:=decide (64<(Br s 0))) Aa (λc167=>?_) (λc167=>?_))))))))
   ·have h8:=AK c167 hs;exact Al (wv (r:=rI .i64 13) (Ae Aa) (Av (I0 (BI (Ix (AU (13,()) h8 (AT.c Aa (AT.c Aa (AT.c Aa AT.nil))) sN))))))
   ·have h9:=AL c167 hs;refine A4 (AW (As (Al (wm Aa (wv (r:=rI .i64 0) (Aq Aa) (Av (AY (WC.nilrow (e:=9) (sz:=1) ?_))))))));obtain⟨hA,hB,hi⟩:=AM h9;refine BJ (S:=Nat×(Ah×(List Ah)×Int×Int)×(Value)) (V:=(Ah×(List Ah))×(Value)) 0 (λσ=>Ch (λσ=>Cs s σ.1 σ.2.1 σ.2.2.1 σ.2.2.2) σ.1 σ.2.1=some hA) (λσ=>[(0,rS σ.2.1.1),(2,rv (.slice none 0 0)),(3,rI .i64 0),(4,rv σ.2.2),(6,rI .i64 σ.2.1.2.2.1),(7,rI .i64 14),(17,rI .i64 (Br s 0)),(18,rI .i64 σ.2.1.2.2.2)]) (λσ=>[.row σ.2.2 9 1 (List.map eS σ.2.1.2.1)]) (λσ=>σ.1) (F,(List.drop (Int.toNat 1) s,([]:List Ah),0,0),(.slice none 0 0         )) hB (AT.c Aa (AT.c Aa (AT.c Aa (AT.c5 Aa Aa Aa Aa Aa AT.nil)))) (sC sN) (λσ=>Ea σ.1.1 σ.1.2=some r) (λσ=>[(0,rS σ.1.1),(2,rv (.slice none 0 0)),(3,rI .i64 0),(4,rv σ.2),(7,rI .i64 14)]) (λσ=>[.row σ.2 9 1 (List.map eS σ.1.2)]) ?_ ?_
    ·rintro⟨gt,⟨ha,hd,ht,hj⟩,v233⟩ hC;refine Be (l':=[(0,rS ha),(2,rv (.slice none 0 0)),(3,rI .i64 0),(4,rv v233),(6,rI .i64 ht),(7,rI .i64 14),(17,rI .i64 (Br s 0)),(18,rI .i64 hj)]) (H':=[.row v233 9 1 (List.map eS hd)]) Aa Aa ?_;obtain⟨hD,rfl,hE,hf,hg⟩:=Dh hC;replace hf:Cs s ha hd ht hj=some hE:=hf;unfold Cs at hf;refine Al (wv (Dn Aa Aa) (Av (As (Az (b:=decide (hj<(Br s 0))) Aa (λhm=>?_) (λhm=>?_)))))
     ·have hu:=AK hm hf;refine A4 (AW (As (AY (As (Al (wm Aa (wv (BC CC Aa) (wv (Dn Aa Aa) (Av (Az (b:=decide ((ha.length:Int)<2)) Aa (λhn=>?_) (λhn=>?_)))))))))))
      ·have hG:=AK hn hu;refine I0 (BI (E3 (BI (BI (HZ (E3 (BI (Ix ?_))))))));obtain⟨gu,hH,hI⟩:=AM hG;have hJ:=BF hI hg hi;obtain rfl:=A2 hJ;exact AU (14,()) hH (AT.c Aa (AT.c Aa (AT.c Aa AT.nil))) (sS sN)
      ·have hK:=AL hn hu;refine A4 (AW (As ?_));obtain⟨hL,hN⟩:=A8 hK;obtain⟨hO,hP⟩:=A8 hN;obtain⟨hQ,hR⟩:=A8 hP;obtain⟨hS,hT⟩:=A8 hR;obtain⟨hU,hw⟩:=A8 hT;refine C9 11 [0,2,3,4,7,17,18,19,20,21,22] [⟨[],rS ha,none,none,none⟩,⟨[0],rI .u8 (Br ha 0),none,none,none⟩,⟨[1],rI .i64 (Br ha 0),none,none,none⟩,⟨[2],rI .i64 (Em .i64 (Br ha 0) 8),none,none,none⟩,⟨[],rS ha,none,none,none⟩,⟨[4],rI .u8 (Br ha 1),none,none,none⟩,⟨[5],rI .i64 (Br ha 1),none,none,none⟩,⟨[3,6],rI .i64 (Ks .i64 (Em .i64 (Br ha 0) 8) (Br ha 1)),none,none,none⟩,⟨[],rS ha,none,none,none⟩,⟨[8],rS (List.drop (Int.toNat 2) ha),none,none,none⟩,⟨[7],rI .i64 (Ks .i64 (Em .i64 (Br ha 0) 8) (Br ha 1)),none,none,none⟩] ?_ (λβ=>?_)
       ·refine Cv (Aq Aa) (Cv (BA CC Aa Aa hL) (Cv (HB ⟨_,Wi⟩ UY Aa hO) (Cv (Xp Aa Aa (by decide)) (Cv (Aq Aa) (Cv (BA CC Aa Aa hQ) (Cv (HB ⟨_,Wi⟩ UY Aa hS) (Cv (XI Aa Aa) (Cv (Aq Aa) (Cv (DY CC Aa Aa hU) (Cv (Ae Aa) ?_))))))))));exact Ob
       refine CR (H1:=[.row v233 9 1 (List.map eS hd)]) [23,24,25,26,27,28,29,30,31,32,6,0,2,3,4,7,17,18,19,20,21,22] ?_;refine wa Aa (Av (As (Al (wm Aa (wv (DN Aa Aa) (Av (Az (b:=decide (4000<(Ks .i64 (Em .i64 (Br ha 0) 8) (Br ha 1)))) Aa (λho=>?_) (λho=>?_))))))))
       ·have hV:=AK ho hw;refine Al (wv (r:=rI .i64 13) (Ae Aa) (Av (I0 (BI (E3 (BI (BI (HZ (E3 (BI (Ix ?_)))))))))));obtain⟨gv,hW,hX⟩:=AM hV;have hY:=BF hX hg hi;obtain rfl:=A2 hY;exact AU (13,()) hW (AT.c Aa (AT.c Aa (AT.c Aa AT.nil))) (sS sN)
       ·have hx:=AL ho hw;refine A4 (AW (As (Al (wm Aa (wv (BC CC Aa) (wm Aa (wv (Dn Aa Aa) (Av (Az (b:=decide (((List.drop (Int.toNat 2) ha).length:Int)<(Ks .i64 (Em .i64 (Br ha 0) 8) (Br ha 1)))) Aa (λhp=>?_) (λhp=>?_))))))))))
        ·have hZ:=AK hp hx;refine I0 (BI (E3 (BI (BI (HZ (E3 (BI (Ix ?_))))))));obtain⟨gw,ga,gb⟩:=AM hZ;have gc:=BF gb hg hi;obtain rfl:=A2 gc;exact AU (14,()) ga (AT.c Aa (AT.c Aa (AT.c Aa AT.nil))) (sS sN)
        ·have gd:=AL hp hx;refine A4 (AW ?_);obtain⟨hy,ge⟩:=A8 gd;obtain⟨gf,gg⟩:=A8 ge;obtain⟨inf,hinf⟩:=Uh;refine W3 10 5 [0,2,3,6,7,17,18,20,21,22,23,24,25,26,27,28,29,30,31,32,33,34,35,36,37,38] [4] [{ deps:=[],r:=λ_=>rv v233,old:=[4] },{ deps:=[],r:=λ_=>rS (List.drop (Int.toNat 2) ha) },{ deps:=[],r:=λ_=>rI .i64 (Ks .i64 (Em .i64 (Br ha 0) 8) (Br ha 1)) },{ deps:=[1,2],r:=λ_=>rS (List.take (Int.toNat (Ks .i64 (Em .i64 (Br ha 0) 8) (Br ha 1))) (List.drop (Int.toNat 2) ha)) },{ deps:=[3],r:=λ_=>AQ 1 (List.map eS ([List.take (Int.toNat (Ks .i64 (Em .i64 (Br ha 0) 8) (Br ha 1))) (List.drop (Int.toNat 2) ha)]:List Ah)) },{ deps:=[0,4],r:=λhb=>rv hb,dyn:=true },{ deps:=[],r:=λ_=>rS (List.drop (Int.toNat 2) ha) },{ deps:=[],r:=λ_=>rI .i64 (Ks .i64 (Em .i64 (Br ha 0) 8) (Br ha 1)) },{ deps:=[6,7],r:=λ_=>rS (List.drop (Int.toNat (Ks .i64 (Em .i64 (Br ha 0) 8) (Br ha 1))) (List.drop (Int.toNat 2) ha)) },{ deps:=[5],r:=λhb=>rv hb,dyn:=true }] (λhb=>[.row hb 9 1 (List.map eS (hd++([List.take (Int.toNat (Ks .i64 (Em .i64 (Br ha 0) 8) (Br ha 1))) (List.drop (Int.toNat 2) ha)]:List Ah)))]) ?_ (λhb=>?_)
         ·refine Wn (Aq Aa) (Wn (Aq Aa) (Wn (Aq Aa) (Wn (Jo CC Aa Aa hy) (Ya (GQ (ys:=([List.take (Int.toNat (Ks .i64 (Em .i64 (Br ha 0) 8) (Br ha 1))) (List.drop (Int.toNat 2) ha)]:List Ah)) (enc:=eS) (css:=[[rS (List.take (Int.toNat (Ks .i64 (Em .i64 (Br ha 0) 8) (Br ha 1))) (List.drop (Int.toNat 2) ha))]]) (xs:=[.tmp 42]) DU CM W1 Aa Aa Aa ⟨G2.one Aa (Up.refl _),trivial⟩ Aa GT Aa Aa) (XY (ST (xs:=hd) (ys:=([List.take (Int.toNat (Ks .i64 (Em .i64 (Br ha 0) 8) (Br ha 1))) (List.drop (Int.toNat 2) ha)]:List Ah)) (enc:=eS) (i:=0) DU hinf.1 hinf.2.1 hinf.2.2.1 hinf.2.2.2 Aa Aa Aa Aa Aa (J0.z Aa Aa) GT Q4 gf) (Wn (Aq Aa) (Wn (Aq Aa) (Wn (DY CC Aa Aa hy) (Wn (fun {hb _}=>(Ae Aa)) ?_)))))))));exact XZ
         refine CR (H1:=[.row hb 9 1 (List.map eS (hd++([List.take (Int.toNat (Ks .i64 (Em .i64 (Br ha 0) 8) (Br ha 1))) (List.drop (Int.toNat 2) ha)]:List Ah)))]) [39,40,41,42,43,44,45,46,47,4,0,2,3,6,7,17,18,20,21,22,23,24,25,26,27,28,29,30,31,32,33,34,35,36,37,38] ?_;refine wa Aa (Aw (AV (AW (At ?_))));obtain⟨gh,gi⟩:=A8 gg;refine wv (BZ Aa Aa gh) (wm Aa (Aw ?_));have gj:=BG gi hg;exact AA (AU (hD,(List.drop (Int.toNat (Ks .i64 (Em .i64 (Br ha 0) 8) (Br ha 1))) (List.drop (Int.toNat 2) ha),hd++([List.take (Int.toNat (Ks .i64 (Em .i64 (Br ha 0) 8) (Br ha 1))) (List.drop (Int.toNat 2) ha)]:List Ah),Ks .i64 (Em .i64 (Br ha 0) 8) (Br ha 1),hj+1),hb) ⟨gj,Y1 _⟩ (AT.c Aa (AT.c Aa (AT.c Aa (AT.c5 Aa Aa Aa Aa Aa AT.nil)))) (sC sN))
     ·have gl:=AL hm hf;refine BQ (AE ?_);have gm:=CE gl hg hi;exact AE (B7 (AU ((ha,hd),v233) gm (AT.c5 Aa Aa Aa Aa Aa AT.nil) (sC sN)))
    ·rintro⟨⟨hq,he⟩,hz⟩ hh;refine Dr (l':=[(0,rS hq),(2,rv (.slice none 0 0)),(3,rI .i64 0),(4,rv hz),(7,rI .i64 14)]) (H':=[.row hz 9 1 (List.map eS he)]) Aa Aa ?_;replace hh:Ea hq he=some r:=hh;unfold Ea at hh;refine B4 (AW (As (Al (wm Aa (wv (JS Aa Aa) (Av (Az (b:=!decide (hq=([]:Ah))) Aa (λhr=>?_) (λhr=>?_))))))))
     ·have gp:=AK hr hh;exact Al (wv (r:=rI .i64 13) (Ae Aa) (Av (I0 (BI (Ix (AU (13,()) gp (AT.c Aa (AT.c Aa (AT.c Aa AT.nil))) (sS sN)))))))
     ·have gq:=AL hr hh;refine A4 (AW (As (Al (wm Aa (wm Aa (wv (CL (ys:=he) (enc:=eS) (i:=0) DU Aa Aa) (wm Aa (wv (CL (ys:=he) (enc:=eS) (i:=0) DU Aa Aa) (WL.freeze (i:=0) Aa (WL.up (d:=51) (r:=AQ 1 (List.map eS he)) Aa (Up.fact (i:=0) Aa) ?_))))))))));obtain⟨gr,gs⟩:=A8 gq;refine wv (r:=AQ 1 (List.map eS (List.take (Int.toNat (he.length:Int)) he))) (Pf DU CM Aa Aa Aa gr) (wa Aa (wv (r:=rI .i64 0) (Ae Aa) (Av (A1 (Af (Vg ?_))))));obtain rfl:=A2 gs;exact A0 (EP Tryz.results66 (AO Aa) (AO Aa)) (sS sN) ⟨Aa,Aa⟩
 ·rintro⟨h0,⟨⟩⟩ hk;refine Be (l':=[(2,rv (.slice none 0 0)),(3,rI .i64 0),(7,rI .i64 h0)]) (H':=[]) Aa Aa ?_;replace hk:Dd h0=some r:=hk;unfold Dd at hk;refine As (A4 (AW (Al (wm Aa (wv (r:=rv (.slice none 0 0)) (Ae Aa) (wa Aa (Av (A1 (Iw (WK.up (d:=2) (r:=AQ 1 (List.map eS ([]:List Ah))) Aa (Up.le (ER.nil _)) ?_))))))))));obtain rfl:=A2 hk;exact A0 (EP Tryz.results66 (AO Aa) (AO Aa)) sN ⟨Aa,Aa⟩
end Go.Proofs.YtogdediiodmnbaaGreatDoor.Q
namespace Go.Proofs.YtogdediiodmnbaaGreatDoor
open Go
set_option linter.unusedVariables false
set_option linter.unusedSimpArgs false
section
variable {T S : Type}
def Ey:List (Ah×T)→Ah→Option T
 | [],_=>none
 | p::r,k=>bif decide (p.1=k) then some p.2 else Ey r k
def A9 (xs:List (Ah×T))(k:Ah)(z:T):T:=(Ey xs k).getD z
def BP (xs:List (Ah×T))(k:Ah):Bool:=(Ey xs k).isSome
def Pq (k:Ah)(v:T):List (Ah×T)→List (Ah×T)
 | []=>[(k,v)]
 | p::r=>bif Cu k p.1 then(k,v)::p::r else p::Pq k v r
def KD (xs:List (Ah×T))(k:Ah)(v:T):List (Ah×T):=xs.map λp=>bif decide (p.1=k) then(k,v) else p
def Bh (xs:List (Ah×T))(k:Ah)(v:T):List (Ah×T):=bif BP xs k then KD xs k v else Pq k v xs
def AI (f:T→S)(xs:List (Ah×T)):List (Ah×S):=xs.map λp=>(p.1,f p.2)
theorem Ik (f:T→S):∀(xs:List (Ah×T)) (k:Ah),Ey (AI f xs) k=(Ey xs k).map f
 | [],k=>rfl
 | p::r,k=>by
  show(bif decide (p.1=k) then some (f p.2) else Ey (AI f r) k)=_;rw[Ey,Ik f r k]
  cases decide (p.1=k)<;>rfl
theorem TQ (f:T→S)(xs:List (Ah×T))(k:Ah):BP (AI f xs) k=BP xs k:=by
 unfold BP;rw[Ik];cases Ey xs k<;>rfl
theorem Pp (f:T→S)(k:Ah)(v:T):∀xs:List (Ah×T),AI f (Pq k v xs)=Pq k (f v) (AI f xs)
 | []=>rfl
 | p::r=>by
  show AI f (bif Cu k p.1 then(k,v)::p::r else p::Pq k v r)=(bif Cu k p.1 then(k,f v)::(p.1,f p.2)::AI f r else(p.1,f p.2)::Pq k (f v) (AI f r));rw[← Pp f k v r]
  cases Cu k p.1<;>rfl
theorem TO (f:T→S)(xs:List (Ah×T))(k:Ah)(v:T):AI f (Bh xs k v)=Bh (AI f xs) k (f v):=by
 unfold Bh;rw[TQ]
 cases BP xs k with
 | false=>exact Pp f k v xs
 | true=>
  show AI f (KD xs k v)=KD (AI f xs) k (f v);unfold AI KD;rw[Zc,Zc];refine List.map_congr_left λp _=>?_;show _=(bif decide (p.1=k) then(k,f v) else(p.1,f p.2));simp only[Function.comp]
  cases decide (p.1=k)<;>rfl
theorem Il (f:T→S)(xs:List (Ah×T)):(AI f xs).length=xs.length:=by simp[AI]
theorem Ns (k:Ah)(v:T):∀xs:List (Ah×T),(Pq k v xs).Perm ((k,v)::xs)
 | []=>Yi _
 | p::r=>by
  rw[Pq]
  cases Cu k p.1 with
  | true=>exact Yi _
  | false=>exact((Ns k v r).cons p).trans (List.Perm.swap _ _ _)
end
structure Ax where
 fEntity:Ah
 fID:Ah
 fOp:Ah
 fArgs:(List (List Ab))
 deriving DecidableEq,Inhabited
structure Ba where
 fErr:Int
 fValue:(List Ab)
 deriving DecidableEq,Inhabited
structure AG where
 fOp:Ax
 fAnswer:Ba
 fFrom:Int
 fTo:Int
 deriving DecidableEq,Inhabited
def Ew (ys:(List Ab)):Option ((List Ab)):=
 Bj (DI 40 (([]:List Ab).length+ys.length))<|some (([]:List Ab)++ys)
def Mj (op:Ah):Option (Int×Bool):=
 some (A9 (Bh (Bh (Bh (Bh ([]:List (Ah×Int)) ([114,101,97,100]:Ah) 0) ([119,114,105,116,101]:Ah) 1) ([97,100,100]:Ah) 1) ([99,97,115]:Ah) 2) op 0,BP (Bh (Bh (Bh (Bh ([]:List (Ah×Int)) ([114,101,97,100]:Ah) 0) ([119,114,105,116,101]:Ah) 1) ([97,100,100]:Ah) 1) ([99,97,115]:Ah) 2) op)
def Gb (F:Nat)(op:Ax)(ha:Int):Option (Stp (Int) (Out (Int) (Unit))):=
 B3 (decide (ha<(op.fArgs.length:Int))) (Bj (C2 ha (op.fArgs.length:Int))<|B8 (Ib F (Aj op.fArgs ha)) λhb=>B3 (!decide (hb=0)) (some (.out (.ret hb))) (Bj (Ci .i64 (ha+1))<|some (.next (ha+1)))) (some (.out (.go ())))
def ID :Option (Int):=
 some 0
def HD (F:Nat)(op:Ax):Option (Int):=
 B8 (Mj op.fOp) λr2=>B3 (((!(Jy op.fEntity))||((!(Jy op.fID))||(!r2.2)))) (some 4) (B3 (!decide ((op.fArgs.length:Int)=r2.1)) (some 7) (B8 (Ch (λσ=>Gb F op σ) F 0) (Cg λν=>ID )))
def KA (state:(List Ab))(args:(List (List Ab))):Option ((List Ab)×Ba):=
 B8 (Ew state) λr2=>some (state,(Ba.mk 0 r2))
def Jp (state:(List Ab))(args:(List (List Ab))):Option ((List Ab)×Ba):=
 Bj (C2 0 (args.length:Int))<|B8 (Ew (Aj args 0)) λr4=>B8 (OL) λr7=>some (r4,(Ba.mk 0 r7))
def Me (F:Nat)(state:(List Ab))(args:(List (List Ab))):Option ((List Ab)×Ba):=
 Bj (C2 0 (args.length:Int))<|B8 (Tb F state (Aj args 0)) λr4=>B3 (!r4) (B8 (QJ false) λr9=>some (state,(Ba.mk 0 r9))) (Bj (C2 1 (args.length:Int))<|B8 (Ew (Aj args 1)) λha=>B8 (QJ true) λhb=>some (ha,(Ba.mk 0 hb)))
def GA (n:(List Int))(ha:Int):Option (Stp (Int) (Out (Bool) (Unit))):=
 B3 (decide (ha<(n.length:Int))) (Bj (C2 ha (n.length:Int))<|B8 (B6 (Aj n ha)) λhb=>B3 (!hb) (some (.out (.ret false))) (Bj (Ci .i64 (ha+1))<|some (.next (ha+1)))) (some (.out (.go ())))
def G9 :Option (Bool):=
 some true
def Mb (F:Nat)(n:(List Int)):Option (Bool):=
 B8 (Ch (λσ=>GA n σ) F 0) (Cg λν=>G9 )
def K8 (n:Int):Option (Int×Int):=
 B8 (B6 n) λr1=>B3 (!r1) (some (0,8)) (some (n,0))
def Oe (F:Nat)(a:Int)(b:Int):Option (Int×Int):=
 B8 (Mb F ([a,b]:List Int)) λr2=>B3 (!r2) (some (0,2)) (Bj (Ci .i64 (a+b))<|B8 (K8 (a+b)) λha=>some (ha.1,ha.2))
def Qt (F:Nat)(state:(List Ab))(args:(List (List Ab))):Option ((List Ab)×Ba):=
 Bj (C2 0 (state.length:Int))<|B3 (decide (((Aj state 0).fKind)=3)) (Bj (C2 0 (args.length:Int))<|Bj (C2 0 ((Aj args 0).length:Int))<|B3 (!decide (((Aj (Aj args 0) 0).fKind)=3)) (some (state,(Ba.mk 7 ([]:List Ab)))) (B8 (Oe F ((Aj state 0).fInt) ((Aj (Aj args 0) 0).fInt)) λha=>B3 (!decide (ha.2=0)) (some (state,(Ba.mk ha.2 ([]:List Ab)))) (B8 (Ew ([(Ab.mk 3 ha.1 ([]:Ah) 0)]:List Ab)) λhd=>some (([(Ab.mk 3 ha.1 ([]:Ah) 0)]:List Ab),(Ba.mk 0 hd))))) (B3 (decide (((Aj state 0).fKind)=1)) (Bj (C2 0 (args.length:Int))<|Bj (C2 0 ((Aj args 0).length:Int))<|B3 (!decide (((Aj (Aj args 0) 0).fKind)=3)) (some (state,(Ba.mk 7 ([]:List Ab)))) (B8 (Oe F 0 ((Aj (Aj args 0) 0).fInt)) λhb=>B3 (!decide (hb.2=0)) (some (state,(Ba.mk hb.2 ([]:List Ab)))) (B8 (Ew ([(Ab.mk 3 hb.1 ([]:Ah) 0)]:List Ab)) λhe=>some (([(Ab.mk 3 hb.1 ([]:Ah) 0)]:List Ab),(Ba.mk 0 he))))) (some (state,(Ba.mk 7 ([]:List Ab)))))
def TF :Option ((List (Ah×Nat))):=
 some (Bh (Bh (Bh (Bh ([]:List (Ah×Nat)) ([114,101,97,100]:Ah) 75) ([119,114,105,116,101]:Ah) 76) ([97,100,100]:Ah) 77) ([99,97,115]:Ah) 78)
def XJ (F:Nat)(state:(List Ab))(op:Ax):Option ((List Ab)×Ba×Int):=
 B8 (HD F op) λr3=>B3 (!decide (r3=0)) (some (([]:List Ab),(Ba.mk 0 ([]:List Ab)),r3)) (B8 (Ib F state) λr9=>B3 (!decide (r9=0)) (some (([]:List Ab),(Ba.mk 0 ([]:List Ab)),r9)) (B3 (decide (op.fOp=([114,101,97,100]:Ah))) (B8 (Ew state) λhf=>B8 (KA hf op.fArgs) λha=>some (ha.1,ha.2,0)) (B3 (decide (op.fOp=([119,114,105,116,101]:Ah))) (B8 (Ew state) λhg=>B8 (Jp hg op.fArgs) λhb=>some (hb.1,hb.2,0)) (B3 (decide (op.fOp=([97,100,100]:Ah))) (B8 (Ew state) λhh=>B8 (Qt F hh op.fArgs) λhd=>some (hd.1,hd.2,0)) (Bj (decide (op.fOp=([99,97,115]:Ah)))<|B8 (Ew state) λhi=>B8 (Me F hi op.fArgs) λhe=>some (he.1,he.2,0))))))
def IC (op:Ax)(ha:Int)(hb:(List (List Ab))):Option (Stp (Int×(List (List Ab))) (Out (Ax) ((List (List Ab))))):=
 B3 (decide (ha<(op.fArgs.length:Int))) (Bj (C2 ha (op.fArgs.length:Int))<|B8 (Ew (Aj op.fArgs ha)) λhd=>Bj (DI 24 (hb.length+([hd]:List (List Ab)).length))<|Bj (Ci .i64 (ha+1))<|some (.next (ha+1,hb++([hd]:List (List Ab))))) (some (.out (.go hb)))
def IB (op:Ax)(ha:(List (List Ab))):Option (Ax):=
 some (Ax.mk op.fEntity op.fID op.fOp ha)
def Mi (F:Nat)(op:Ax):Option (Ax):=
 B8 (Ch (λσ=>IC op σ.1 σ.2) F (0,([]:List (List Ab)))) (Cg λν=>IB op ν)
def L7 (F:Nat)(c:AG):Option (AG):=
 B8 (Mi F c.fOp) λr3=>B8 (Ew c.fAnswer.fValue) λr6=>some (AG.mk r3 (Ba.mk c.fAnswer.fErr r6) c.fFrom c.fTo)
def Qq (F:Nat)(x:(List Ab))(y:(List Ab)):Option (Bool):=
 B8 (H3 F x y) λr1=>some r1
def IM (F:Nat)(a:(List (List Ab)))(b:(List (List Ab)))(ha:Int):Option (Stp (Int) (Out (Bool) (Unit))):=
 B3 (decide (ha<(a.length:Int))) (Bj (C2 ha (a.length:Int))<|Bj (C2 ha (b.length:Int))<|B8 (Qq F (Aj a ha) (Aj b ha)) λhb=>B3 (!hb) (some (.out (.ret false))) (Bj (Ci .i64 (ha+1))<|some (.next (ha+1)))) (some (.out (.go ())))
def IL :Option (Bool):=
 some true
def KI (F:Nat)(a:(List (List Ab)))(b:(List (List Ab))):Option (Bool):=
 B3 (!decide ((a.length:Int)=(b.length:Int))) (some false) (B8 (Ch (λσ=>IM F a b σ) F 0) (Cg λν=>IL ))
def TI (F:Nat)(a:Ax)(b:Ax):Option (Bool):=
 Bj (imp (decide (a.fEntity=b.fEntity)) (imp (decide (a.fID=b.fID)) (imp (decide (a.fOp=b.fOp)) ((KI F a.fArgs b.fArgs).isSome))))<|some ((decide (a.fEntity=b.fEntity))&&((decide (a.fID=b.fID))&&((decide (a.fOp=b.fOp))&&(ov (KI F a.fArgs b.fArgs)))))
def D1 (F:Nat)(op:Ax)(hd:(List Ah))(ha:Int):Option (Stp ((List Ah)×Int) (Out (Ah×Int) ((List Ah)))):=
 B3 (decide (ha<(op.fArgs.length:Int))) (Bj (C2 ha (op.fArgs.length:Int))<|B8 (J8 F (Aj op.fArgs ha)) λhb=>B3 (!decide (hb.2=0)) (some (.out (.ret (([]:Ah),hb.2)))) (Bj (DI 16 (hd.length+([hb.1]:List Ah).length))<|Bj (Ci .i64 (ha+1))<|some (.next (hd++([hb.1]:List Ah),ha+1)))) (some (.out (.go hd)))
def Gr (F:Nat)(hb:(List Ah)):Option (Ah×Int):=
 B8 (P1 F hb) λha=>some (ha.1,ha.2)
def GD (F:Nat)(op:Ax)(now:Int):Option (Ah×Int):=
 B8 (HD F op) λr2=>B3 (!decide (r2=0)) (some (([]:Ah),r2)) (B3 (((decide (now<0))||(decide (1073741824<now)))) (some (([]:Ah),2)) (Bj (Ci .i64 now)<|B8 (Ch (λσ=>D1 F op σ.1 σ.2) F (([op.fEntity,op.fID,op.fOp,Lib.itoa now]:List Ah),0)) (Cg λν=>Gr F ν)))
def D2 (F:Nat)(r2:(List Ah)×Int)(ha:Int)(hd:(List (List Ab))):Option (Stp (Int×(List (List Ab))) (Out (Ax×Int×Int) ((List (List Ab))))):=
 B3 (decide (ha<((List.drop (Int.toNat 4) r2.1).length:Int))) (Bj (C2 ha ((List.drop (Int.toNat 4) r2.1).length:Int))<|B8 (J9 F (Aj (List.drop (Int.toNat 4) r2.1) ha)) λhb=>B3 (!decide (hb.2=0)) (some (.out (.ret ((Ax.mk ([]:Ah) ([]:Ah) ([]:Ah) ([]:List (List Ab))),0,hb.2)))) (Bj (DI 24 (hd.length+([hb.1]:List (List Ab)).length))<|Bj (Ci .i64 (ha+1))<|some (.next (ha+1,hd++([hb.1]:List (List Ab)))))) (some (.out (.go hd)))
def Gs (F:Nat)(r2:(List Ah)×Int)(ha:(List (List Ab))):Option (Ax×Int×Int):=
 B8 (HD F (Ax.mk (Aj r2.1 0) (Aj r2.1 1) (Aj r2.1 2) ha)) λhb=>B3 (!decide (hb=0)) (some ((Ax.mk ([]:Ah) ([]:Ah) ([]:Ah) ([]:List (List Ab))),0,hb)) (B3 (((decide ((Bw (Aj r2.1 3))<0))||(decide (1073741824<(Bw (Aj r2.1 3)))))) (some ((Ax.mk ([]:Ah) ([]:Ah) ([]:Ah) ([]:List (List Ab))),0,2)) (some ((Ax.mk (Aj r2.1 0) (Aj r2.1 1) (Aj r2.1 2) ha),Bw (Aj r2.1 3),0)))
def GF (F:Nat)(rec:Ah):Option (Ax×Int×Int):=
 B8 (Kh F rec) λr2=>B3 (!decide (r2.2=0)) (some ((Ax.mk ([]:Ah) ([]:Ah) ([]:Ah) ([]:List (List Ab))),0,r2.2)) (B3 (decide ((r2.1.length:Int)<4)) (some ((Ax.mk ([]:Ah) ([]:Ah) ([]:Ah) ([]:List (List Ab))),0,13)) (Bj (C2 3 (r2.1.length:Int))<|Bj (DI 1 (Aj r2.1 3).length)<|B3 (!decide ((BD (Aj r2.1 3))=0)) (some ((Ax.mk ([]:Ah) ([]:Ah) ([]:Ah) ([]:List (List Ab))),0,BD (Aj r2.1 3))) (Bj (C2 0 (r2.1.length:Int))<|Bj (C2 1 (r2.1.length:Int))<|Bj (C2 2 (r2.1.length:Int))<|Bj (Jb 4 (r2.1.length:Int))<|B8 (Ch (λσ=>D2 F r2 σ.1 σ.2) F (0,([]:List (List Ab)))) (Cg λν=>Gs F r2 ν))))
end Go.Proofs.YtogdediiodmnbaaGreatDoor
namespace Go.Proofs.YtogdediiodmnbaaGreatDoor.Q
open Go Go.RowKit
set_option linter.unusedVariables false
section
variable {P : Program} {n : Nat} {c : Cx} {l : Fr} {H : List Ent} {d : Option Nat} {ty rty t e : TypeId} {pos : String} {af : Array Edge} {g : Option (Nat × Bool)} {x : Operand} {sz : Nat}
end
set_option linter.unusedSimpArgs false
theorem EA (s:ByteArray):MapKept.IsKey .string (.string s):=by simp[MapKept.IsKey]
theorem J1.keys {Z:Fz}:∀{f:List (List UInt8×Rp)} {es:List MapEntry},J1 Z f es→∀x∈es,MapKept.IsKey .string x.key
 | [],[],_,x,hx=>by cases hx
 | p::f,e::es,⟨⟨h1,h2⟩,h3⟩,x,hx=>by
  rcases List.mem_cons.1 hx with rfl | hx
  ·rw[h1];exact EA _
  ·exact J1.keys h3 x hx
theorem J1.at {Z:Fz}:∀{f:List (List UInt8×Rp)} {es:List MapEntry},J1 Z f es→f.length=es.length∧∀(j:Nat) (e:MapEntry),es[j]? =some e→∃k r,f[j]? =some (k,r)∧e.key = .string (B k)∧r.p Z e.val
 | [],[],_=>⟨rfl,λj e h=>by simp at h⟩
 | p::f,e::es,⟨⟨h1,h2⟩,h3⟩=>by
  obtain⟨hl,ha⟩:=J1.at h3;refine⟨by simp[hl],λj e' hj=>?_⟩
  cases j with
  | zero=>simp at hj;subst hj;exact⟨p.1,p.2,rfl,h1,h2⟩
  | succ j=>simp at hj;simpa using ha j e' hj
theorem J1.of {Z:Fz}:∀{f:List (List UInt8×Rp)} {es:List MapEntry},f.length=es.length→(∀(j:Nat) (e:MapEntry),es[j]? =some e→∃k r,f[j]? =some (k,r)∧e.key = .string (B k)∧r.p Z e.val)→J1 Z f es
 | [],[],_,_=>trivial
 | p::f,e::es,hl,h=>by
  obtain⟨k,r,h1,h2,h3⟩:=h 0 e rfl;simp at h1;subst h1;exact⟨⟨h2,h3⟩,J1.of (by simpa using hl) λj e' hj=>by simpa using h (j+1) e' (by simpa using hj)⟩
 | [],_::_,hl,_=>by simp at hl
 | _::_,[],hl,_=>by simp at hl
theorem J1.snoc {Z:Fz}{k:List UInt8}{r:Rp}{e:MapEntry}(h1:e.key = .string (B k))(h2:r.p Z e.val):∀{f:List (List UInt8×Rp)} {es:List MapEntry},J1 Z f es→J1 Z (f++[(k,r)]) (es++[e])
 | [],[],_=>⟨⟨h1,h2⟩,trivial⟩
 | p::f,e'::es,⟨h,h3⟩=>⟨h,J1.snoc h1 h2 h3⟩
theorem J1.filter {Z:Fz}(q:MapEntry→Bool):∀{f:List (List UInt8×Rp)} {es:List MapEntry},J1 Z f es→∃g,J1 Z g (es.filter q)∧g.Sublist f
 | [],[],_=>⟨[],trivial,List.Sublist.refl _⟩
 | p::f,e::es,⟨h,h3⟩=>by
  obtain⟨g,hg,hs⟩:=J1.filter q h3
  cases hq:q e with
  | true=>exact⟨p::g,by rw[List.filter_cons_of_pos hq];exact⟨h,hg⟩,hs.cons_cons p⟩
  | false=>exact⟨g,by rw[List.filter_cons_of_neg (by simp[hq])];exact hg,hs.cons p⟩
theorem Pr {T:Type}:∀{m:List (Ah×T)} {k:Ah} {r:T},(m.map (·.1)).Nodup→(k,r)∈m→Ey m k=some r
 | p::m,k,r,hn,h=>by
  rw[YR,List.nodup_cons] at hn;rw[Ey];rcases List.mem_cons.1 h with h | h
  ·subst h;rw[Yr rfl];rfl
  ·have hne : ¬ p.1=k:=λe=>hn.1 (by rw[e];exact List.mem_map.2 ⟨(k,r),h,rfl⟩);rw[Yo hne];exact Pr hn.2 h
theorem Nt {T:Type}:∀{m:List (Ah×T)} {k:Ah},(∀p∈m,p.1≠k)→Ey m k=none
 | [],_,_=>rfl
 | p::m,k,h=>by
  rw[Ey,Yo (h p (by simp))];exact Nt λq hq=>h q (by simp[hq])
theorem X5 {a b:List UInt8}(h:B a=B b):a=b:=by
 have:=congrArg ByteArray.toList h
 rwa [Ex,Ex] at this
theorem OR {a b:List UInt8}(h:Value.string (B a) = .string (B b)):a=b:=X5 (by cases h;rfl)
theorem Oj {Z:Fz}{m:List (List UInt8×Rp)}{es:List MapEntry}{ck:Nat}(h:EK Z m es ck)(k:List UInt8) :
  (Instr.findNow .string (.string (B k)) es 0=some none∧Ey m k=none∧∀p∈m,p.1≠k)∨∃j e r,Instr.findNow .string (.string (B k)) es 0=some (some (j,e.val))∧es[j]? =some e∧e.key = .string (B k)∧Ey m k=some r∧r.p Z e.val:=by
 obtain⟨h1,h2,h3,f,h4,h5⟩:=h;obtain⟨hl,ha⟩:=h5.at;rcases MapKept.findNow_spec (EA (B k)) es 0 h5.keys with⟨q1,q2⟩ | ⟨j,e,q1,q2,q3⟩
 ·have hne:∀p∈m,p.1≠k:=λp hp e=>by
   obtain⟨j,hj⟩:=List.mem_iff_getElem?.1 (h4.symm.subset hp);have hjl:j<es.length:=by rw[← hl];exact(List.getElem?_eq_some_iff.1 hj).1
   obtain⟨k',r',e1,e2,_⟩:=ha j es[j] (Yp hjl);rw[hj] at e1;cases e1;exact q2 es[j] (List.getElem_mem hjl) (by rw[e2,← e])
  exact .inl ⟨q1,Nt hne,hne⟩
 ·obtain⟨k',r,e1,e2,e3⟩:=ha j e q2;rw[q3] at e2;obtain rfl:=OR e2;exact .inr ⟨j,e,r,by simpa using q1,q2,q3,Pr h1 (h4.subset (Yu e1)),e3⟩
section
variable {P : Program} {n : Nat} {c : Cx} {ops : Array Oper} {Q : Exit → Act → World → Prop} {rest : List Oper} {l : Fr} {H : List Ent} {d : Nat} {d' : Option Nat} {ty t kt et rty : TypeId} {pos : String} {af : Array Edge} {g : Option (Nat × Bool)} {x y u : Operand} {K : Act → World → Prop} {cx : Code}
variable {T : Type} {enc : T → Rp} {xs : List (Ah × T)} {z : T} {k : Ah} {zv : Value} {i b : Nat}
theorem MM {Z:Fz}{w:World}{m:List (List UInt8×Rp)}{rz:Rp}(ht:P.underlying t=some (.map kt et))(hk:P.underlying kt=some .string)(hz:∀w,(zeroValue et).run P w = .ok zv w)(hzr:rz.p Z zv)(hm:(Ent.map b m).holds Z w)(ok:Bool) :
  ∃v,((Ey m k).getD rz).p Z v∧(Instr.lookup t (.map (some b)) (.string (B k)) ok).run P w = .ok (if ok then .tuple #[v,.bool (Ey m k).isSome] else v) w:=by
 obtain⟨es,ck,h1,h2⟩:=hm;rcases Oj h2 k with⟨q1,q2,_⟩ | ⟨j,e,r,q1,_,_,q2,q3⟩
 ·exact⟨zv,by rw[q2];exact hzr,by simp[Instr.lookup,run_underlying ht,MapKept.run_getObj_map h1,MapKept.run_checkKey hk (EA _),MapKept.run_findKey hk q1,hz,q2]⟩
 ·exact⟨e.val,by rw[q2];exact q3,by simp[Instr.lookup,run_underlying ht,MapKept.run_getObj_map h1,MapKept.run_checkKey hk (EA _),MapKept.run_findKey hk q1,q2]⟩
theorem Uk (enc:T→Rp)(xs:List (Ah×T))(k:Ah)(z:T):(Ey (AI enc xs) k).getD (enc z)=enc (A9 xs k z):=by
 rw[Ik];unfold A9;cases Ey xs k<;>rfl
theorem Q0 (enc:T→Rp)(xs:List (Ah×T))(k:Ah):(Ey (AI enc xs) k).isSome=BP xs k:=by
 rw[Ik];unfold BP;cases Ey xs k<;>rfl
theorem I7 (ht:P.underlying t=some (.map kt et))(hk:P.underlying kt=some .string)(hz:∀w,(zeroValue et).run P w = .ok zv w)(hzr:∀Z,(enc z).p Z zv)(hx:ev l x=some (rv (.map (some b))))(hi:H[i]? =some (.map b (AI enc xs)))(hy:ev l y=some (rS k)) :
  Bn P n c l H { dst:=d',op:=.lookup t x y true,type:=ty,pos:=pos,after:=af,guard:=g } (C0 [enc (A9 xs k z),rB (BP xs k)]):=λa w Z ha hw=>by
 obtain⟨v,h1,h2⟩:=MM (k:=k) ht hk hz (hzr Z) (hw.ent hi) true;rw[Uk] at h1;refine⟨.tuple #[v,.bool (BP xs k)],⟨[v,.bool (BP xs k)],rfl,h1,rfl,trivial⟩,?_⟩;rw[Q0] at h2;simp[execOp,ha.eval hx,ha.eval hy,h2]
theorem EK.length {Z:Fz}{m:List (List UInt8×Rp)}{es:List MapEntry}{ck:Nat}(h:EK Z m es ck):es.length=m.length:=by
 obtain⟨_,_,_,f,h4,h5⟩:=h;rw[← h5.at.1,h4.length_eq]
theorem TC {m:List (List UInt8×Rp)}{N:Nat}(ht:P.underlying t=some (.map kt et))(hx:ev l x=some (rv (.map (some b))))(hi:H[i]? =some (.map b m))(hN:m.length=N) :
  Bn P n c l H { dst:=d',op:=.call { callee:=.builtin .len,args:=#[x],argTypes:=#[t] },type:=ty,pos:=pos,after:=af,guard:=g } (rI .i64 N):=λa w Z ha hw=>CN<|by
 obtain⟨es,ck,h1,h2⟩:=hw.ent hi;have hl:es.size=N:=by rw[← hN,← h2.length];simp
 simp[execOp,resolve,invoke,builtin,ha.eval hx,Builtin.len_,run_underlying ht,goInt,MapKept.run_getObj_map h1,hl]
theorem Sb {v:Option Nat}(ht:P.underlying t=some (.map kt et))(hx:ev l x=some (rv (.map v))):Bn P n c l H { dst:=d',op:=.binOp .neq t x (.const (.map none)) rty,type:=ty,pos:=pos,after:=af,guard:=g } (rB (!v.isNone)):=λa w Z ha hw=>CN<|by
 have e2:a.eval (.const (.map none)) = .map none:=rfl;have h:=run_equal_map_nil (P:=P) w t kt et v ht;simp[execOp,ha.eval hx,e2,eqGuard,binOp,h]
theorem MX (hn:Nat.blt d n=true)(h:∀b,WL P n c ops Q rest ((d,rv (.map (some b)))::l) (.map b []::H)) :
  WL P n c ops Q ({ dst:=some d,op:=.makeMap t none,type:=ty,pos:=pos,after:=af,guard:=none }::rest) l H:=
 IP (λa w Z ha hw=>⟨_,w.alloc (.map #[] 0),_,_,Z,by simp[execOp,run_makeMap],Fz.le.refl _,rfl,
  hw.alloc _ (e:=.map w.heap.size []) ⟨#[],0,by simpa using heap_alloc_new w _,by simp,by simp,by simp,[],Yi _,trivial⟩ rfl,h w.heap.size⟩) hn
theorem T0 {m f:List (Ah×Rp)}(h:f.Perm m)(k:Ah)(r:Rp):(KD f k r).Perm (KD m k r):=h.map _
theorem Re {T:Type}:∀{f:List (Ah×T)} {j:Nat} {k:Ah} {r0:T} (r:T),(f.map (·.1)).Nodup→f[j]? =some (k,r0)→KD f k r=f.set j (k,r)
 | p::f,0,k,r0,r,hn,h=>by
  simp at h;subst h;rw[YR,List.nodup_cons] at hn;have:KD f k r=f:=by
   unfold KD;rw[List.map_congr_left (g:=id) (λq hq=>?_),List.map_id];have hne : ¬ q.1=k:=λe=>hn.1 (by rw[← e];exact List.mem_map.2 ⟨q,hq,rfl⟩);rw[Yo hne];rfl
  show(bif decide (k=k) then(k,r) else(k,r0))::KD f k r=_;rw[Yr rfl,this];rfl
 | p::f,j+1,k,r0,r,hn,h=>by
  rw[YR,List.nodup_cons] at hn;simp at h;have hne : ¬ p.1=k:=λe=>hn.1 (by rw[e];exact List.mem_map.2 ⟨(k,r0),Yu h,rfl⟩);show(bif decide (p.1=k) then(k,r) else p)::KD f k r=_;rw[Yo hne,Re r hn.2 h];rfl
theorem Sg {T:Type}(m:List (Ah×T))(k:Ah)(r:T):(KD m k r).map (·.1)=m.map (·.1):=by
 unfold KD;rw[Zc];refine List.map_congr_left λp _=>?_;simp only[Function.comp]
 by_cases h:p.1=k
 ·rw[Yr h];exact h.symm
 ·rw[Yo h];rfl
theorem Sh {T:Type}{m:List (Ah×T)}{k:Ah}{r:T}(h:Ey m k=some r):BP m k=true:=by unfold BP;rw[h];rfl
theorem Si {T:Type}{m:List (Ah×T)}{k:Ah}(h:Ey m k=none):BP m k=false:=by unfold BP;rw[h];rfl
theorem EK.put {Z:Fz}{m:List (Ah×Rp)}{es:List MapEntry}{ck j:Nat}{e:MapEntry}{k:Ah}{r0 r:Rp}{v:Value}(h:EK Z m es ck)(he:es[j]? =some e)(hk:e.key = .string (B k))(hm:Ey m k=some r0)(hr:r.p Z v) :
  EK Z (Bh m k r) (es.set j { e with key:=.string (B k),val:=v }) ck:=by
 obtain⟨h1,h2,h3,f,h4,h5⟩:=h;obtain⟨hl,ha⟩:=h5.at;have hjl:=(List.getElem?_eq_some_iff.1 he).1;unfold Bh;rw[Sh hm,Ym];obtain⟨k',r',e1,e2,_⟩:=ha j e he;rw[hk] at e2;obtain rfl:=OR e2;have hfn:(f.map (·.1)).Nodup:=(h4.map (·.1)).nodup_iff.2 h1;refine⟨by rw[Sg];exact h1,?_,?_,f.set j (k,r),?_,J1.of (by simp[hl]) λi x hx=>?_⟩
 ·rw[List.map_set];have:(es.map (·.born)).set j e.born=es.map (·.born):=by
   apply List.ext_getElem?;intro i;rw[Zf]
   split
   ·rename_i hij;subst hij
    simp[hjl,List.getElem?_eq_some_iff.1 he |>.2]
   ·rfl
  show((es.map (·.born)).set j e.born).Nodup;rw[this];exact h2
 ·intro x hx;rcases List.mem_or_eq_of_mem_set hx with hx | rfl
  ·exact h3 x hx
  ·exact h3 e (Yu he)
 ·have:=T0 h4 k r
  rwa [Re r hfn e1] at this
 ·rw[Zf] at hx ⊢
  split at hx
  ·rename_i hij;subst hij
   cases hx
   exact⟨k,r,by rw[Y6 rfl,Y6 (by rw[hl];exact hjl)],rfl,hr⟩
  ·rename_i hij
   rw[Yw hij];exact ha i x hx
theorem EK.ins {Z:Fz}{m:List (Ah×Rp)}{es:List MapEntry}{ck:Nat}{k:Ah}{r:Rp}{v:Value}(h:EK Z m es ck)(hm:Ey m k=none)(hk:∀p∈m,p.1≠k)(hr:r.p Z v) :
  EK Z (Bh m k r) (es++[{ key:=.string (B k),val:=v,born:=ck }]) (ck+1):=by
 obtain⟨h1,h2,h3,f,h4,h5⟩:=h;unfold Bh;rw[Si hm,Yj];have hp:=Ns k r m;refine⟨?_,?_,?_,f++[(k,r)],?_,J1.snoc rfl hr h5⟩
 ·rw[(hp.map (·.1)).nodup_iff,YR,List.nodup_cons];exact⟨λhx=>by obtain⟨p,hp,e⟩:=List.mem_map.1 hx;exact hk p hp e,h1⟩
 ·rw[Zd,List.nodup_append];refine⟨h2,by simp,λa ha b hb e=>?_⟩;simp at hb;subst hb;obtain⟨x,hx,e'⟩:=List.mem_map.1 ha;have:=h3 x hx;omega
 ·intro x hx;rcases List.mem_append.1 hx with hx | hx
  ·have:=h3 x hx;omega
  ·simp at hx;subst hx;exact Y1 _
 ·exact(List.perm_append_comm (l₁:=f) (l₂:=[(k,r)])).trans ((h4.cons (k,r)).trans hp.symm)
theorem St.mapset {Z:Fz}{w:World}(h:St c H Z w){m m':List (Ah×Rp)}(hi:H[i]? =some (.map b m)){es es':Array MapEntry}{ck ck':Nat}(h1:w.heap[b]? =some (.map es ck))(h2:EK Z m' es'.toList ck') :
  St c (H.set i (.map b m')) Z { w with heap:=w.heap.setIfInBounds b (.map es' ck') }:=by
 obtain⟨q1,q2⟩:=MapKept.heap_set (o':=.map es' ck') h1;exact h.set hi rfl rfl rfl (by simp) (λk _ hk=>q2 k (by simpa[Ent.foot] using hk)) ⟨es',ck',q1,h2⟩ (by simp[Ent.foot])
theorem NQ (s:ByteArray):Instr.sameBits 10000 (.string s) (.string s)=true:=by
 show(s ==s)=true;exact(MapKept.bytes_beq s s).2 rfl |> λh=>by simpa using h
theorem W5 {r:Rp}{m:List (Ah×Rp)}(ht:P.underlying t=some (.map kt et))(hk:P.underlying kt=some .string)(hx:ev l x=some (rv (.map (some b))))(hi:H[i]? =some (.map b m))(hy:ev l y=some (rS k))(hu:ev l u=some r){H':List Ent}(hH:H.set i (.map b (Bh m k r))=H')(h:WL P n c ops Q rest l H') :
  WL P n c ops Q ({ dst:=none,op:=.mapUpdate t x y u,type:=ty,pos:=pos,after:=af,guard:=none }::rest) l H:=
 MG λa w Z ha hw=>by
  obtain⟨es,ck,h1,h2⟩:=hw.ent hi;have hv:=ha.ev hu;subst hH;rcases Oj h2 k with⟨q1,q2,q3⟩ | ⟨j,e,r0,q1,q2,q3,q4,_⟩
  ·refine⟨_,_,?_,hw.mapset hi h1 (es':=es.push { key:=.string (B k),val:=a.eval u,born:=ck }) (by simpa using h2.ins q2 q3 hv),h⟩;simp[execOp,ha.eval hx,ha.eval hy,Instr.mapUpdate,run_underlying ht,MapKept.run_getObj_map h1,MapKept.run_checkKey hk (EA _),MapKept.run_findKey hk q1,MapKept.run_setObj_map _ h1]
  ·have hje:es[j]? =some e:=by simpa using q2
   refine⟨_,_,?_,hw.mapset hi h1 (es':=es.modify j λe=>{ e with key:=.string (B k),val:=a.eval u }) (ck':=ck) (by
    have:=h2.put q2 q3 q4 hv;have e1:(es.modify j λe=>{ e with key:=.string (B k),val:=a.eval u }).toList=es.toList.set j { e with key:=.string (B k),val:=a.eval u }:=by
     rw[Array.toList_modify];rw[List.modify_eq_set,q2];rfl
    rw[e1];exact this),h⟩
   have hkey:((es[j]?).map (·.key)).getD (.string (B k)) = .string (B k):=by rw[hje];exact q3
   simp[execOp,ha.eval hx,ha.eval hy,Instr.mapUpdate,run_underlying ht,MapKept.run_getObj_map h1,MapKept.run_checkKey hk (EA _),MapKept.run_findKey hk q1,MapKept.run_setObj_map _ h1,hkey,Instr.keyThatStays,NQ]
theorem Lx {v:T}(ht:P.underlying t=some (.map kt et))(hk:P.underlying kt=some .string)(hx:ev l x=some (rv (.map (some b))))(hi:H[i]? =some (.map b (AI enc xs)))(hy:ev l y=some (rS k))(hu:ev l u=some (enc v)){H':List Ent}(hH:H.set i (.map b (AI enc (Bh xs k v)))=H')(h:WL P n c ops Q rest l H') :
  WL P n c ops Q ({ dst:=none,op:=.mapUpdate t x y u,type:=ty,pos:=pos,after:=af,guard:=none }::rest) l H:=W5 ht hk hx hi hy hu (by rw[← TO];exact hH) h
end
section
variable {P : Program} {n : Nat} {c : Cx} {ops : Array Oper} {Q : Exit → Act → World → Prop} {rest : List Oper} {l : Fr} {H : List Ent} {d : Nat} {ty t kt et rty : TypeId} {pos : String} {af : Array Edge} {x y u : Operand} {K : Act → World → Prop} {cx : Code}
variable {T : Type} {enc : T → Rp} {xs ys : List (Ah × T)} {i b it : Nat} {m lf : List (List UInt8 × Rp)} {cur : Option (List UInt8 × Rp)} {k : Ah} {r : Rp}
end
theorem Bd.d1 {Z:Fz}{r0:Rp}{us:List Value}(h:Bd Z [r0] us):∃y0,us=[y0]∧Bd Z [r0] [y0]:=by
 match us,h.length with
 | [y0],_=>exact⟨_,rfl,h⟩
theorem Bd.d2 {Z:Fz}{r0 r1:Rp}{us:List Value}(h:Bd Z [r0,r1] us):∃y0 y1,us=[y0,y1]∧Bd Z [r0,r1] [y0,y1]:=by
 match us,h.length with
 | [y0,y1],_=>exact⟨_,_,rfl,h⟩
theorem Bd.d3 {Z:Fz}{r0 r1 r2:Rp}{us:List Value}(h:Bd Z [r0,r1,r2] us):∃y0 y1 y2,us=[y0,y1,y2]∧Bd Z [r0,r1,r2] [y0,y1,y2]:=by
 match us,h.length with
 | [y0,y1,y2],_=>exact⟨_,_,_,rfl,h⟩
theorem Bd.d4 {Z:Fz}{r0 r1 r2 r3:Rp}{us:List Value}(h:Bd Z [r0,r1,r2,r3] us):∃y0 y1 y2 y3,us=[y0,y1,y2,y3]∧Bd Z [r0,r1,r2,r3] [y0,y1,y2,y3]:=by
 match us,h.length with
 | [y0,y1,y2,y3],_=>exact⟨_,_,_,_,rfl,h⟩
section
variable {P : Program} {n : Nat} {c : Cx} {ops : Array Oper} {Q : Exit → Act → World → Prop} {rest : List Oper} {l : Fr} {H H' : List Ent} {d : Nat} {d' : Option Nat} {ty t e rty : TypeId} {pos : String} {af : Array Edge} {g : Option (Nat × Bool)} {x y u : Operand} {v : Value} {sz m : Nat}
end
abbrev Ux:=Nat→Nat→Value×Nat
def Ag (k:Nat)(u u':Ux):Prop:=∀j,j<k→u j=u' j
structure Sy where
 deps:List Nat
 r:Ux→Rp
 lv:Nat:=0
 fx:Bool:=false
 old:List Nat:=[]
def SI (sp:List Sy)(i:Nat):Sy:=sp.getD i { deps:=[],r:=λ_=>rv undef }
def XB (sp:List Sy)(u:Ux):List Sp:=sp.map λs=>⟨s.deps,s.r u,0⟩
def Rw:List Sy→Prop
 | []=>True
 | s::r=>(∀u u',Ag s.lv u u'→s.r u=s.r u')∧Rw r
theorem Rw.at:∀{sp:List Sy},Rw sp→∀{i:Nat} {s:Sy},sp[i]? =some s→∀u u',Ag s.lv u u'→s.r u=s.r u'
 | [],_,i,s,h=>by simp at h
 | x::sp,⟨h1,h2⟩,0,s,h=>by simp at h;subst h;exact h1
 | x::sp,⟨h1,h2⟩,i+1,s,h=>Rw.at h2 (by simpa using h)
def cnt (S:Nat→Bool)(is:List Nat):Nat:=(is.filter S).length
section
variable (P : Program) (n : Nat) (c : Cx) (opsA : Array Oper) (Q : Exit → Act → World → Prop)
def Yc (l:Fr)(H:List Ent)(o:Oper)(k:Nat)(u:Ux)(r:Ux→Rp)(H1:Ux→List Ent):Prop:=
 ∀a w Z (K:Act→World→Prop),C6 n l a Z→St c H Z w→(∀u' v w' Z',Ag k u u'→Fz.le Z Z'→(r u').p Z' v→St c (H1 u') Z' w'→K (a.put o.dst v) w')→
  Region.wanted o (yielded opsA a.tmps)=true∧o.wp P a w K Q
def XX (ops:List Oper)(sp:List Sy)(l0 lw:Fr)(is:List Nat)(hs:List (Ux→List Ent))(i:Nat)(o:Oper):Prop:=
 match is.findIdx? (λx=>Nat.beq x i) with
 | some k=>∀u,Yc P n c opsA Q (Gp lw (SI sp i).old (BK ops (XB sp u) (SI sp i).deps l0)) (hs.getD k (λ_=>[]) u) o k u (SI sp i).r (hs.getD (k+1) (λ_=>[]))
 | none=>if (SI sp i).fx=true then ∀u,DR P n c opsA Q (Gp lw (SI sp i).old (BK ops (XB sp u) (SI sp i).deps l0)) (hs.getD (SI sp i).lv (λ_=>[]) u) o ((SI sp i).r u) (hs.getD (SI sp i).lv (λ_=>[]) u)
  else ∀u k,k≤is.length→DR P n c opsA Q (Gp lw (SI sp i).old (BK ops (XB sp u) (SI sp i).deps l0)) (hs.getD k (λ_=>[]) u) o ((SI sp i).r u) (hs.getD k (λ_=>[]) u)
def We (ops:List Oper)(sp:List Sy)(l0 lw:Fr)(is:List Nat)(hs:List (Ux→List Ent)):Nat→List Oper→Prop
 | i,o::rest=>XX P n c opsA Q ops sp l0 lw is hs i o∧We ops sp l0 lw is hs (i+1) rest
 | _,[]=>True
end
section
variable {P : Program} {n : Nat} {c : Cx} {opsA : Array Oper} {Q : Exit → Act → World → Prop} {l l0 lw : Fr} {H : List Ent} {hs : List (Ux → List Ent)} {sp : List Sy} {is : List Nat}
theorem We.at {ops:List Oper}:∀{k:Nat} {rest:List Oper},We P n c opsA Q ops sp l0 lw is hs k rest→∀(t:Nat) o,rest[t]? =some o→XX P n c opsA Q ops sp l0 lw is hs (k+t) o
 | k,o::rest,⟨h1,h2⟩,t,o',ht=>by
  cases t with
  | zero=>simp at ht;subst ht;exact h1
  | succ t=>
   have:=We.at h2 t o' (by simpa using ht);rw[show k+(t+1)=k+1+t from by omega];exact this
 | _,[],_,t,o,h=>by simp at h
def Wh (p:List Ent→Prop)(u:Ux):List (Ux→List Ent)→Prop
 | []=>True
 | f::r=>p (f u)∧Wh p u r
theorem Wh.at {p:List Ent→Prop}{u:Ux}:∀{hs:List (Ux→List Ent)},Wh p u hs→∀k,k<hs.length→p (hs.getD k (λ_=>[]) u)
 | [],_,k,h=>absurd h (Nat.not_lt_zero _)
 | f::r,⟨h1,h2⟩,0,_=>h1
 | f::r,⟨h1,h2⟩,k+1,h=>Wh.at h2 k (by simpa using h)
end
section
variable {P : Program} {n : Nat} {c : Cx} {opsA : Array Oper} {Q : Exit → Act → World → Prop} {l : Fr} {H : List Ent} {d : Nat} {x y : Operand} {ty t e : TypeId} {pos : String} {af : Array Edge} {v : Value} {sz : Nat}
end
end Go.Proofs.YtogdediiodmnbaaGreatDoor.Q
namespace Go.Proofs.YtogdediiodmnbaaGreatDoor
open Go
end Go.Proofs.YtogdediiodmnbaaGreatDoor
namespace Go.Proofs.YtogdediiodmnbaaGreatDoor.Q
open Go Go.RowKit
set_option linter.unusedVariables false
section
variable {P : Program} {n : Nat} {c : Cx} {ops : Array Oper} {Q : Exit → Act → World → Prop} {rest : List Oper} {l : Fr} {H : List Ent} {d : Nat} {d' : Option Nat} {t kt et ty : TypeId} {pos : String} {af : Array Edge} {g : Option (Nat × Bool)} {x y u : Operand} {b i : Nat} {T : Type} {enc : T → Rp} {xs : List (Int × T)} {z : T} {zv : Value}
theorem Oz.push {Z:Fz}{k:Int}{r:Rp}{v:Value}(hv:r.p Z v)(ck:Nat):∀{m:List (Int×Rp)} {es:List MapEntry},Oz Z m es→Oz Z (m++[(k,r)]) (es++[⟨.int .i64 k,v,ck⟩])
 | [],[],_=>⟨⟨rfl,hv⟩,trivial⟩
 | p::m,e::es,⟨h1,h2⟩=>⟨h1,h2.push hv ck⟩
theorem Dy {k:Ah}{xs:List (Ah×T)}{v:T}(ht:P.underlying t=some (.map kt et))(hk:P.underlying kt=some .string)(hx:ev l x=some (rv (.map (some b))))(hi:H[i]? =some (.map b (AI enc xs)))(hy:ev l y=some (rS k))(hu:ev l u=some (enc v)){H':List Ent}(hH:H.set i (.map b (AI enc (Bh xs k v)))=H')(h:WL P n c ops Q rest l H') :
  WL P n c ops Q ({ dst:=none,op:=.insert t x y u,type:=ty,pos:=pos,after:=af,guard:=none }::rest) l H:=by
 have:=Lx (n:=n) (c:=c) (ops:=ops) (Q:=Q) (rest:=rest) (ty:=ty) (pos:=pos) (af:=af) ht hk hx hi hy hu hH h;exact this
end
set_option linter.unusedSimpArgs false
def NH (k:Nat)(i:Int)(off:Nat)(Z:Fz)(v:Value):Prop:=if i<0 then v = .pointer none else ∃b,Z.nm k i.toNat=some b∧v = .pointer (some ⟨b,off,none⟩)
def G4 (k:Nat)(i:Int)(off:Nat):Rp:=⟨NH k i off,fun {Z Z' v} h hp=>by
 unfold NH at *
 split
 ·rename_i h0;rwa [Y6 h0] at hp
 ·rename_i h0;rw[Yw h0] at hp;obtain⟨b,h1,h2⟩:=hp;exact⟨b,h.nm k _ b h1,h2⟩,true,λ_ Z v hp=>by
 change NH k i off Z v at hp
 unfold NH at hp
 split at hp
 ·rw[hp];rfl
 ·obtain⟨b,_,h2⟩:=hp;rw[h2];rfl⟩
@[reducible] def eP (k:Nat) (i:Int):List Rp:=[G4 k i 0]
theorem Ol (k:Nat)(i:Int):(eP k i).length=1:=rfl
theorem Uz (k:Nat)(i:Int):(eP k i).all (·.one)=true:=rfl
@[reducible] def mP (k:Nat) (i:Int):Rp:=G4 k i 0
theorem TS (k:Nat)(Z:Fz):(mP k (-1)).p Z (.pointer none):=rfl
section
variable {P : Program} {n : Nat} {c : Cx} {ops : Array Oper} {Q : Exit → Act → World → Prop} {rest : List Oper} {l : Fr} {H H' : List Ent} {d : Nat} {d' : Option Nat} {x y : Operand} {ty t t' e : TypeId} {pos : String} {af : Array Edge} {g : Option (Nat × Bool)} {v u : Value} {r : Rp} {sz k : Nat} {pv : Value} {α : Type} [Inhabited α] {xs : List α} {enc : α → List Rp}
theorem NW {Z:Fz}{w:World}{j off:Nat}{i:Int}(hw:St c H Z w)(hi:H[j]? =some (.pool k pv e (xs.map enc)))(hg:C2 i (xs.length:Int)=true)(hp:(G4 k i off).p Z v) :
  ∃b us,v = .pointer (some ⟨b,off,none⟩)∧(G0 pv)[i.toNat]? =some b∧w.heap[b]? =some (.cells us.toArray e (0,0))∧Bd Z (enc (Aj xs i)) us:=by
 obtain⟨h0,hl,h⟩:=hw.ent hi;have hi0:=(Cf hg).1;have hi1:i.toNat<xs.length:=by have:=(Cf hg).2;omega
 have hb:i.toNat<(G0 pv).length:=by rw[hl,Yt];exact hi1
 obtain⟨h1,us,h2,h3⟩:=h i.toNat (G0 pv)[i.toNat] (enc xs[i.toNat]) (Yp hb) (by simp[hi1])
 change NH k i off Z v at hp
 unfold NH at hp;rw[Yw (by omega)] at hp;obtain⟨b,h4,h5⟩:=hp;rw[h1] at h4;obtain rfl:=Option.some.inj h4;exact⟨_,us,h5,Yp hb,h2,by rw[show Aj xs i=xs[i.toNat] from by simp[Aj,hi1]];exact h3⟩
theorem I8 {j off:Nat}{i:Int}{rs:List Rp}(hag:∀w,(isAgg t).run P w = .ok true w)(hsz:∀w,(sizeOf t).run P w = .ok sz w)(hx:ev l x=some (G4 k i off))(hi:H[j]? =some (.pool k pv e (xs.map enc)))(hg:C2 i (xs.length:Int)=true)
  (hr:((enc (Aj xs i)).drop off).take sz=rs) (hl:rs.length=sz):Bn P n c l H { dst:=d',op:=.load t x,type:=ty,pos:=pos,after:=af,guard:=g } (Bg rs):=λa w Z ha hw=>by
 obtain⟨b,us,e1,_,h1,h2⟩:=NW hw hi hg (ha.ev hx);have h3:=(h2.drop off).take sz;rw[hr] at h3;have hlen:=h3.length;have h4:=run_loadCells_list (P:=P) w ⟨b,off,none⟩ ((us.drop off).take sz) (λj u hj=>by
  rw[HH,cell_of_row w b _ _ e (0,0) h1];rw[YM] at hj
  split at hj
  ·simpa using hj
  ·cases hj)
 rw[hlen,hl] at h4;exact⟨.agg ((us.drop off).take sz).toArray,⟨_,rfl,h3⟩,by simp[execOp,e1,Instr.loadAt,Instr.sureAddr,loadVar,hag,hsz,h4]⟩
theorem DC {off:Nat}{i:Int}(hx:ev l x=some (G4 k i off))(hg:decide (0≤i)=true):Bn P n c l H { dst:=d',op:=.nilCheck x,type:=ty,pos:=pos,after:=af,guard:=g } (G4 k i off):=λa w Z ha hw=>by
 have h:=ha.ev hx;have h':=h
 change NH k i off Z _ at h
 unfold NH at h;rw[Yw (by have:=Y4 hg;omega)] at h;obtain⟨b,_,e1⟩:=h;exact⟨a.eval x,h',by simp[execOp,e1]⟩
theorem Oc {off off' i:Nat}{q:Int}{fs:Array Field}{f:Field}(hu:P.underlying t=some (.struct fs))(hf:fs[i]? =some f)(hsz:∀w,(sizeOf f.type).run P w = .ok (sz+1) w)
  (hx:ev l x=some (G4 k q off)) (hg:decide (0≤q)=true) (ho:off+f.offset=off'):Bn P n c l H { dst:=d',op:=.fieldAddr t x i,type:=ty,pos:=pos,after:=af,guard:=g } (G4 k q off'):=λa w Z ha hw=>by
 have h:=ha.ev hx
 change NH k q off Z _ at h
 unfold NH at h;have h0:=Y4 hg;rw[Yw (by omega)] at h;obtain⟨b,h1,e1⟩:=h;subst ho;refine⟨.pointer (some ⟨b,off+f.offset,none⟩),?_,by simp[execOp,e1,Instr.fieldAt,run_underlying hu,hf,Instr.sureAddr,fieldPlace,hsz,HH]⟩;show NH k q (off+f.offset) Z _;unfold NH;rw[Yw (by omega)];exact⟨b,h1,rfl⟩
theorem St.poolset {β:Type}{xs:List β}{enc:β→List Rp}{Z:Fz}{w:World}{j b:Nat}{i:Int}{us us':List Value}{y':β}(hw:St c H Z w)(hi:H[j]? =some (.pool k pv e (xs.map enc)))(hb:(G0 pv)[i.toNat]? =some b)(h1:w.heap[b]? =some (.cells us.toArray e (0,0)))(h2:Bd Z (enc y') us') :
  St c (H.set j (.pool k pv e ((xs.set i.toNat y').map enc))) Z (w.setRow b us'.toArray):=by
 obtain⟨h0,hl,h⟩:=hw.ent hi;have hbl:=(List.getElem?_eq_some_iff.1 hb).1;refine hw.setp hi rfl rfl rfl (by simp[World.setRow]) (λq _ hq=>?_) ⟨h0,by simpa using hl,λi' b' cs h3 h4=>?_⟩ (λq hq=>.inl hq) rfl rfl
 ·have:q≠b:=λe=>hq (by subst e;exact Yu hb);simp only[World.setRow,Array.getElem?_modify];rw[Yw (λe=>this e.symm)]
 ·rw[List.map_set,Zf] at h4
  split at h4
  ·rename_i hii
   subst hii
   split at h4
   ·rw[hb] at h3;obtain rfl:=Option.some.inj h3;obtain rfl:=Option.some.inj h4;obtain⟨g1,_⟩:=h i.toNat b _ hb (Yp (by omega));exact⟨g1,us',setRow_heap w b _ _ e (0,0) h1,h2⟩
   ·cases h4
  ·rename_i hii
   obtain⟨g1,vs,g2,g3⟩:=h i' b' cs h3 h4;have hne:b'≠b:=λe=>hii (by
    subst e;have e1:=(List.getElem?_eq_some_iff.1 h3)
    have e2:=(List.getElem?_eq_some_iff.1 hb)
    exact(List.getElem_inj h0).1 (e2.2.trans e1.2.symm))
   refine⟨g1,vs,?_,g3⟩;simp only[World.setRow,Array.getElem?_modify];rw[Yw (λe=>hne e.symm)];exact g2
theorem RD {j off:Nat}{i:Int}{y':α}(hag:∀w,(sizeOf t).run P w = .ok 1 w)(hx:ev l x=some (G4 k i off))(hy:ev l y=some r)(hv:PH H r)(hi:H[j]? =some (.pool k pv e (xs.map enc)))(hg:C2 i (xs.length:Int)=true)
  (hy':(enc (Aj xs i)).set off r=enc y') (hlt:Nat.blt off (enc (Aj xs i)).length=true) (hH:H.set j (.pool k pv e ((xs.set i.toNat y').map enc))=H') (h:WL P n c ops Q rest l H') :
  WL P n c ops Q ({ dst:=none,op:=.store t x y,type:=ty,pos:=pos,after:=af,guard:=none }::rest) l H:=
 MG λa w Z ha hw=>by
  obtain⟨b,us,e1,hb,h1,h2⟩:=NW hw hi hg (ha.ev hx);have hr:=ha.ev hy;have hone:=hv c Z w _ hw hr;have hlen:=h2.length;have hlt':off<us.length:=by rw[hlen];simpa using hlt
  have h4:=run_storeCells_at P b off e [a.eval y] 0 us.toArray w h1 (by simp;omega) (by simpa using hone);have hcv:=B1 hone;have h3:us.take off++[a.eval y]++us.drop (off+1)=us.set off (a.eval y):=by
   simp[List.set_eq_take_append_cons_drop,hlt']
  simp only[Nat.add_zero,Yk,YT,YQ] at h4;rw[h3] at h4;refine⟨w.setRow b (us.set off (a.eval y)).toArray,H',?_,?_,h⟩
  ·simp[execOp,e1,Instr.storeAt,Instr.sureAddr,storeVar,hag,hcv,h4]
  ·subst hH;exact hw.poolset hi hb h1 (by rw[← hy'];exact h2.set off hr)
theorem PX {j off:Nat}{i:Int}{y':α}{rs:List Rp}(hsz:∀w,(sizeOf t).run P w = .ok sz w)(hx:ev l x=some (G4 k i off))(hy:ev l y=some (Bg rs))(hl:rs.length=sz)(hv:Bm H rs)(hi:H[j]? =some (.pool k pv e (xs.map enc)))(hg:C2 i (xs.length:Int)=true)
  (hlt:Nat.ble (off+sz) (enc (Aj xs i)).length=true) (hy':(enc (Aj xs i)).take off++rs++(enc (Aj xs i)).drop (off+sz)=enc y') (hH:H.set j (.pool k pv e ((xs.set i.toNat y').map enc))=H') (h:WL P n c ops Q rest l H') :
  WL P n c ops Q ({ dst:=none,op:=.store t x y,type:=ty,pos:=pos,after:=af,guard:=none }::rest) l H:=
 MG λa w Z ha hw=>by
  obtain⟨b,us,e1,hb,h1,h2⟩:=NW hw hi hg (ha.ev hx);obtain⟨vs,e2,h4⟩:=ha.ev hy;have hlen:=h2.length;have hvl:=h4.length;have hlt':off+sz≤us.length:=by rw[hlen];simpa using hlt
  have h5:=run_storeCells_at P b off e vs 0 us.toArray w h1 (by simp;omega) (λv hv'=>hv.at hw h4 v hv');simp only[Nat.add_zero] at h5;refine⟨w.setRow b (us.take off++vs++us.drop (off+sz)).toArray,H',?_,?_,h⟩
  ·have h6:vs.length=sz:=by omega
   rw[h6] at h5;simp only[YL] at h5 ⊢;simp[execOp,e1,e2,Instr.storeAt,Instr.sureAddr,storeVar,hsz,Value.cells,h6,h5]
  ·subst hH;exact hw.poolset hi hb h1 (by rw[← hy'];exact((h2.take off).append h4).append (h2.drop (off+sz)))
theorem St.adopt0 {Z:Fz}{w:World}{b:Nat}{cs:List Rp}{ys:List (List Rp)}{Hr:List Ent}{pv':Value}(h:St c (.blk b cs e::.pool k pv e ys::Hr) Z w)(hpv:G0 pv'=G0 pv++[b]):∃Z',Fz.le Z Z'∧Z'.nm k ys.length=some b∧St c (.pool k pv' e (ys++[cs])::Hr) Z' w:=by
 obtain⟨us,hb1,hb2⟩:=h.has (.blk b cs e) (by simp);obtain⟨h0,hl,hp⟩:=h.has (.pool k pv e ys) (by simp);have hd:=List.pairwise_cons.1 h.dis;have hd2:=List.pairwise_cons.1 hd.2;have gd:=List.pairwise_cons.1 h.gst.dis;have gd2:=List.pairwise_cons.1 gd.2;have hcap:=h.gst.cap (.pool k pv e ys) (by simp) k (by simp[Ent.gk]);have hksz:=h.gst.sz (.pool k pv e ys) (by simp) k (by simp[Ent.gk]);have hkown:=h.gst.own (.pool k pv e ys) (by simp) k (by simp[Ent.gk])
 let Z':Fz:=⟨Z.f,λq i=>if q=k∧i=ys.length then some b else Z.nm q i⟩
 have hnew:Z'.nm k ys.length=some b:=by simp[Z']
 have hle:Fz.le Z Z':=⟨λ_ _ h=>h,λq i b' hq=>by
  by_cases hqi:q=k∧i=ys.length
  ·obtain⟨rfl,rfl⟩:=hqi;rw[hcap _ (by simp[Ent.gn,hl])] at hq;cases hq
  ·simpa[Z',hqi] using hq⟩
 have hbn:b ∉ G0 pv:=λhbs=>hd.1 (.pool k pv e ys) (by simp) b (by simp[Ent.foot]) hbs;refine⟨Z',hle,hnew,h.os,h.tape,h.output,h.size,h.old,λen he=>?_,λen he q hq=>?_,?_,⟨λb o hb=>h.frz.f b o hb,λq i b' hq=>?_⟩,h.le.trans hle,λb o hb=>h.new b o hb,λen he q hq=>?_,h.emono hle h.env,h.emono,⟨λen he q hq=>?_,λen he q hq=>?_,?_,λq i b' hq=>?_,λen he q hq i hi=>?_⟩⟩
 ·rcases List.mem_cons.1 he with rfl | he
  ·refine⟨by rw[hpv];exact List.nodup_append.2 ⟨h0,by simp,λx hx y hy e=>by simp at hy;subst hy;exact hbn (e▸hx)⟩,by rw[hpv];simp[hl],λi b' cs' h1 h2=>?_⟩
   ·rw[hpv] at h1
    by_cases hi:i<(G0 pv).length
    ·rw[YP hi] at h1;rw[YP (by omega)] at h2;obtain⟨g1,vs,g2,g3⟩:=hp i b' cs' h1 h2;exact⟨hle.nm k i b' g1,vs,g2,g3.mono hle⟩
    ·have hi2:i=(G0 pv).length:=by have:=(List.getElem?_eq_some_iff.1 h1).1;simp at this;omega
     subst hi2;simp at h1;subst h1;rw[hl] at h2;simp at h2;subst h2;exact⟨by rw[hl];exact hnew,us,hb1,hb2.mono hle⟩
  ·exact Ent.keep (h.has en (by simp[he])) hle λ_ _=>rfl
 ·rcases List.mem_cons.1 he with rfl | he
  ·rcases List.mem_append.1 (hpv▸(show q∈G0 pv' from hq)) with hq | hq
   ·exact h.own (.pool k pv e ys) (by simp) q hq
   ·simp at hq;subst hq;exact h.own (.blk q cs e) (by simp) q (by simp[Ent.foot])
  ·exact h.own en (by simp[he]) q hq
 ·refine List.pairwise_cons.2 ⟨λen he q hq hq'=>?_,hd2.2⟩;rcases List.mem_append.1 (hpv▸(show q∈G0 pv' from hq)) with hq | hq
  ·exact hd2.1 en he q hq hq'
  ·simp at hq;subst hq;exact hd.1 en (by simp[he]) q (by simp[Ent.foot]) hq'
 ·by_cases hqi:q=k∧i=ys.length
  ·rw[hqi.1];exact hksz
  ·exact h.frz.nm q i b' (by simpa[Z',hqi] using hq)
 ·rcases List.mem_cons.1 he with rfl | he
  ·rcases List.mem_append.1 (hpv▸(show q∈G0 pv' from hq)) with hq | hq
   ·exact h.zdis (.pool k pv e ys) (by simp) q hq
   ·simp at hq;subst hq;exact h.zdis (.blk q cs e) (by simp) q (by simp[Ent.foot])
  ·exact h.zdis en (by simp[he]) q hq
 ·rcases List.mem_cons.1 he with rfl | he
  ·simp[Ent.gk] at hq;subst hq;exact hkown
  ·exact h.gst.own en (by simp[he]) q hq
 ·rcases List.mem_cons.1 he with rfl | he
  ·simp[Ent.gk] at hq;subst hq;exact hksz
  ·exact h.gst.sz en (by simp[he]) q hq
 ·exact List.pairwise_cons.2 ⟨λen he q hq hq'=>gd2.1 en he q hq hq',gd2.2⟩
 ·by_cases hqi:q=k∧i=ys.length
  ·rw[hqi.1];exact .inr hkown
  ·exact h.gst.new q i b' (by simpa[Z',hqi] using hq)
 ·rcases List.mem_cons.1 he with rfl | he
  ·simp[Ent.gk] at hq;subst hq;simp[Ent.gn,hpv] at hi;have : ¬ i=ys.length:=by omega
   simp only[Z',this,and_false,YX];exact hcap i (by simp[Ent.gn];omega)
  ·have hqk:q≠k:=λe1=>gd2.1 en he k (by simp[Ent.gk]) (e1▸hq);simp only[Z',hqk,false_and,YX];exact h.gst.cap en (by simp[he]) q hq i hi
theorem St.adopt {Z:Fz}{w:World}{b:Nat}{cs:List Rp}{ys:List (List Rp)}{Hr:List Ent}(h:St c (.blk b cs e::.pool k pv e ys::Hr) Z w):∃Z',Fz.le Z Z'∧Z'.nm k ys.length=some b∧St c (.pool k (WD (G0 pv++[b])) e (ys++[cs])::Hr) Z' w:=St.adopt0 h (VZ _)
theorem C6.re {a:Act}{Z:Fz}{d:Nat}{q r:Rp}(h:C6 n l a Z)(hl:look l d=some q)(hq:∀v,q.p Z v→r.p Z v):C6 n ((d,r)::l) a Z:=⟨h.size,h.defers,λi u hi=>by
 rw[BO] at hi
 split at hi
 ·rename_i e;subst e;simp at hi;subst hi
  obtain⟨v,h1,h2⟩:=h.tm d q hl;exact⟨v,h1,hq v h2⟩
 ·exact h.tm i u hi⟩
theorem NH.of {Z:Fz}{b N:Nat}(h:Z.nm k N=some b):∀v,(rv (.pointer (some ⟨b,0,none⟩))).p Z v→(G4 k (N:Int) 0).p Z v:=λv hv=>by
 show NH k N 0 Z v;unfold NH;rw[Yw (by omega)];exact⟨b,by simpa using h,hv⟩
def Ko (l:Fr)(b:Nat):List Nat→Prop
 | []=>True
 | d::ds=>look l d=some (rv (.pointer (some ⟨b,0,none⟩)))∧Ko l b ds
def Wv (k N:Nat):List Nat→Fr→Fr
 | [],l=>l
 | d::ds,l=>(d,G4 k (N:Int) 0)::Wv k N ds l
theorem KP {Z:Fz}{a:Act}{b N:Nat}{l:Fr}(ha:C6 n l a Z)(hn:Z.nm k N=some b):∀{ds:List Nat},Ko l b ds→C6 n (Wv k N ds l) a Z
 | [],_=>ha
 | d::ds,⟨h1,h2⟩=>by
  have h3:=KP ha hn h2;refine⟨h3.size,h3.defers,λi u hi=>?_⟩;rw[Wv,BO] at hi
  split at hi
  ·rename_i e;subst e;simp at hi;subst hi
   obtain⟨v,h4,h5⟩:=ha.tm d _ h1;exact⟨v,h4,NH.of hn v h5⟩
  ·exact h3.tm i u hi
theorem St.adoptE {β:Type}{xs:List β}{enc:β→List Rp}{Z:Fz}{w:World}{b:Nat}{y:β}{Hr:List Ent}{cs:List Rp}(hw:St c H Z w)(hp:H.Perm (.blk b cs e::.pool k pv e (xs.map enc)::Hr))(hcs:cs=enc y) :
  ∃Z' pv',Fz.le Z Z'∧Z'.nm k xs.length=some b∧St c (.pool k pv' e ((xs++[y]).map enc)::Hr) Z' w:=by
 obtain⟨Z',h1,h2,h3⟩:=(hw.perm hp).adopt;subst hcs;rw[Yt] at h2;exact⟨Z',_,h1,h2,by rw[Zd];exact h3⟩
theorem WL.adopt {β:Type}{xs:List β}{enc:β→List Rp}{b:Nat}{y:β}{Hr:List Ent}{cs:List Rp}(hp:H.Perm (.blk b cs e::.pool k pv e (xs.map enc)::Hr))(ds:List Nat)(hd:Ko l b ds)(hcs:cs=enc y)
  (h:∀pv',WL P n c ops Q rest (Wv k xs.length ds l) (.pool k pv' e ((xs++[y]).map enc)::Hr)):WL P n c ops Q rest l H:=λa w Z ha hw=>by
 obtain⟨Z',pv',h1,h2,h3⟩:=St.adoptE hw hp hcs;exact h pv' a w Z' (KP (ha.mono h1) h2 hd) h3
theorem WC.adopt {β:Type}{xs:List β}{enc:β→List Rp}{b:Nat}{y:β}{Hr:List Ent}{cs:List Rp}{xx:Code}(hp:H.Perm (.blk b cs e::.pool k pv e (xs.map enc)::Hr))(ds:List Nat)(hd:Ko l b ds)(hcs:cs=enc y)
  (h:∀pv',WC P n c xx Q (Wv k xs.length ds l) (.pool k pv' e ((xs++[y]).map enc)::Hr)):WC P n c xx Q l H:=λa w Z ha hw=>by
 obtain⟨Z',pv',h1,h2,h3⟩:=St.adoptE hw hp hcs;exact h pv' a w Z' (KP (ha.mono h1) h2 hd) h3
theorem WK.adopt {β:Type}{xs:List β}{enc:β→List Rp}{b:Nat}{y:β}{Hr:List Ent}{cs:List Rp}{K:Act→World→Prop}(hp:H.Perm (.blk b cs e::.pool k pv e (xs.map enc)::Hr))(ds:List Nat)(hd:Ko l b ds)(hcs:cs=enc y)
  (h:∀pv',WK n c K (Wv k xs.length ds l) (.pool k pv' e ((xs++[y]).map enc)::Hr)):WK n c K l H:=λa w Z ha hw=>by
 obtain⟨Z',pv',h1,h2,h3⟩:=St.adoptE hw hp hcs;exact h pv' a w Z' (KP (ha.mono h1) h2 hd) h3
theorem Ip:G0 (.tuple #[])=[]:=rfl
theorem LH (hn:Nat.blt d n=true)(h:∀b,WL P n c ops Q rest ((d,rv (.map (some b)))::l) (.pool b (.tuple #[]) e []::.map b []::H)) :
  WL P n c ops Q ({ dst:=some d,op:=.makeMap t none,type:=ty,pos:=pos,after:=af,guard:=none }::rest) l H:=
 IP (λa w Z ha hw=>by
  have h1:=hw.alloc (.map #[] 0) (e:=.map w.heap.size []) ⟨#[],0,by simpa using heap_alloc_new w _,by simp,by simp,by simp,[],Yi _,trivial⟩ rfl;refine⟨_,w.alloc (.map #[] 0),_,_,Z,by simp[execOp,run_makeMap],Fz.le.refl _,rfl,?_,h w.heap.size⟩;have hz:∀i,Z.nm w.heap.size i=none:=λi=>by
   cases hq:Z.nm w.heap.size i with
   | none=>rfl
   | some b=>have:=hw.frz.nm _ _ _ hq;omega
  have hold:∀en∈(Ent.map w.heap.size []::H),∀q∈en.gk,q<w.heap.size:=λen he q hq=>by
   rcases List.mem_cons.1 he with rfl | he
   ·simp[Ent.gk] at hq
   ·exact hw.gst.sz en he q hq
  refine { h1 with has:=λen he=>?_,own:=λen he q hq=>?_,dis:=List.pairwise_cons.2 ⟨λen he q hq=>by simp[Ent.foot,Ip] at hq,h1.dis⟩,zdis:=λen he q hq=>?_,gst:=⟨λen he q hq=>?_,λen he q hq=>?_,List.pairwise_cons.2 ⟨λen he q hq hq'=>?_,h1.gst.dis⟩,h1.gst.new,λen he q hq i hi=>?_⟩ }
  ·rcases List.mem_cons.1 he with rfl | he
   ·exact⟨by simp[Ip],by simp[Ip],by simp⟩
   ·exact h1.has en he
  ·rcases List.mem_cons.1 he with rfl | he
   ·simp[Ent.foot,Ip] at hq
   ·exact h1.own en he q hq
  ·rcases List.mem_cons.1 he with rfl | he
   ·simp[Ent.foot,Ip] at hq
   ·exact h1.zdis en he q hq
  ·rcases List.mem_cons.1 he with rfl | he
   ·simp[Ent.gk] at hq;subst hq;exact .inl hw.size
   ·exact h1.gst.own en he q hq
  ·rcases List.mem_cons.1 he with rfl | he
   ·simp[Ent.gk] at hq;subst hq;simp
   ·exact h1.gst.sz en he q hq
  ·simp[Ent.gk] at hq;subst hq;have:=hold en he _ hq';omega
  ·rcases List.mem_cons.1 he with rfl | he
   ·simp[Ent.gk] at hq;subst hq;exact hz i
   ·exact h1.gst.cap en he q hq i hi) hn
end
def XS (m:List (List UInt8×Rp))(Z:Fz)(v:Value):Prop:=∃b es ck,v = .map (some b)∧Z b=some (.map es ck)∧EK Z m es.toList ck
def RO (m:List (List UInt8×Rp)):Rp:=⟨XS m,λh ⟨b,es,ck,h1,h2,h3⟩=>⟨b,es,ck,h1,h.f b _ h2,h3.mono h⟩,true,λ_ Z v ⟨b,es,ck,h1,_⟩=>by rw[h1];rfl⟩
@[reducible] def mF (f:Nat):Rp:=rv (.func (.func f) #[] #[])
section
variable {P : Program} {n : Nat} {c : Cx} {ops opsA : Array Oper} {Q : Exit → Act → World → Prop} {rest : List Oper} {l : Fr} {H : List Ent} {d : Nat} {d' : Option Nat} {ty t kt et rty : TypeId} {pos : String} {af : Array Edge} {g : Option (Nat × Bool)} {x y u : Operand} {K : Act → World → Prop} {cx : Code} {r : Rp}
variable {T : Type} {enc : T → Rp} {xs : List (Ah × T)} {z : T} {k : Ah} {zv : Value} {i b : Nat}
theorem St.freezeM {Z:Fz}{w:World}(h:St c H Z w){m:List (List UInt8×Rp)}(hi:H[i]? =some (.map b m)):∃Z',Fz.le Z Z'∧St c (.fact (.map (some b)) (RO m)::H.eraseIdx i) Z' w:=by
 obtain⟨es,ck,hg,hm⟩:=h.ent hi;have hmem:=Yu hi;have hgz:Z b=none:=h.zdis _ hmem b (by simp[Ent.foot])
 let Z':Fz:=⟨λq=>if q=b then some (.map es ck) else Z q,Z.nm⟩
 have hle:Fz.le Z Z':=⟨λq o hb=>by
  have:q≠b:=λe=>by subst e;rw[hgz] at hb;cases hb
  simpa[Z',this] using hb,λ_ _ _ h=>h⟩
 have hfr:=h.front hi;have hd:=List.pairwise_cons.1 hfr.dis;have hs:=hfr.sub (List.sublist_cons_self _ _);have hs':St c (H.eraseIdx i) Z' w:=by
  refine { hs with has:=λen he=>Ent.keep (hs.has en he) hle λ_ _=>rfl,frz:=⟨λq o hb=>?_,h.frz.nm⟩,gst:=hs.gst.names rfl,le:=hs.le.trans hle,new:=λq o hb=>?_,zdis:=λen he k hk=>?_,env:=hs.emono hle hs.env }
  ·by_cases hbg:q=b
   ·subst hbg;simp[Z'] at hb;rw[← hb];exact hg
   ·simp[Z',hbg] at hb;exact h.frz q o hb
  ·by_cases hbg:q=b
   ·subst hbg;exact .inr (h.own _ hmem q (by simp[Ent.foot]))
   ·simp[Z',hbg] at hb;exact h.new q o hb
  ·have hkg:k≠b:=λe=>hd.1 en he b (by simp[Ent.foot]) (e▸hk);simp only[Z',hkg,YX];exact hs.zdis en he k hk
 exact⟨Z',hle,hs'.add rfl rfl rfl (Y2 _) (λ_ _=>rfl) (e':=.fact (.map (some b)) (RO m)) ⟨b,es,ck,rfl,by simp[Z'],hm.mono hle⟩ (by simp[Ent.foot])⟩
theorem WK.freezeM {m:List (List UInt8×Rp)}(hi:H[i]? =some (.map b m))(h:WK n c K l (.fact (.map (some b)) (RO m)::H.eraseIdx i)):WK n c K l H:=λa w Z ha hw=>by
 obtain⟨Z',hz,hs⟩:=St.freezeM hw hi;exact h a w Z' (ha.mono hz) hs
theorem WC.freezeM {m:List (List UInt8×Rp)}(hi:H[i]? =some (.map b m))(h:WC P n c cx Q l (.fact (.map (some b)) (RO m)::H.eraseIdx i)):WC P n c cx Q l H:=λa w Z ha hw=>by
 obtain⟨Z',hz,hs⟩:=St.freezeM hw hi;exact h a w Z' (ha.mono hz) hs
theorem WL.freezeM {m:List (List UInt8×Rp)}(hi:H[i]? =some (.map b m))(h:WL P n c ops Q rest l (.fact (.map (some b)) (RO m)::H.eraseIdx i)):WL P n c ops Q rest l H:=λa w Z ha hw=>by
 obtain⟨Z',hz,hs⟩:=St.freezeM hw hi;exact h a w Z' (ha.mono hz) hs
theorem XS.heap {Z:Fz}{w:World}(hf:Rz Z w){m:List (List UInt8×Rp)}{v:Value}(h:(RO m).p Z v):∃b,v = .map (some b)∧(Ent.map b m).holds Z w:=by
 obtain⟨b,es,ck,h1,h2,h3⟩:=h;exact⟨b,h1,es,ck,hf b _ h2,h3⟩
theorem HA {q:T}(ht:P.underlying t=some (.map kt et))(hk:P.underlying kt=some .string)(hx:ev l x=some (RO (AI enc xs)))(hy:ev l y=some (rS k))(hq:Ey xs k=some q) :
  Bn P n c l H { dst:=d',op:=.lookup t x y false,type:=ty,pos:=pos,after:=af,guard:=g } (enc q):=λa w Z ha hw=>by
 obtain⟨b,e1,es,ck,h1,h2⟩:=XS.heap hw.frz (ha.ev hx);have hq':Ey (AI enc xs) k=some (enc q):=by rw[Ik,hq];rfl
 rcases Oj h2 k with⟨q1,q2,_⟩ | ⟨j,e,r,q1,_,_,q2,q3⟩
 ·rw[hq'] at q2;cases q2
 ·rw[hq'] at q2;obtain rfl:=Option.some.inj q2;exact⟨e.val,q3,by simp[execOp,e1,ha.eval hy,Instr.lookup,run_underlying ht,MapKept.run_getObj_map h1,MapKept.run_checkKey hk (EA _),MapKept.run_findKey hk q1]⟩
theorem Oa {f:FuncId}{args:List Operand}{ats:Array TypeId}{rs:List Rp}(hcall:∀(as1:Array Value) (w:World),(callFunc f as1).run P w = .ok (.enter f as1) w)(hc:MW P c.E f rs r)(hx:ev l x=some (mF f))(hv:MB l args=some rs) :
  DR P n c opsA Q l H { dst:=some d,op:=.call { callee:=.value x,args:=args.toArray,argTypes:=ats },type:=ty,pos:=pos,after:=af,guard:=none } r H:=λa w Z K ha hw hK=>
 ⟨λ_=>by
  unfold Oper.wp;rw[Ld (caps:=[]) rfl (ha.eval hx) hcall w];refine(hc w Z _ (by have:=(GI ha hv);simpa using this) (St.enter (Hin:=[]) (Hr:=H) hw)).mono ?_;rintro e w' ⟨r2,v,Ho,Z',rfl,⟨rfl,rfl⟩,hr2,hs⟩;exact hK v w' Z' hs.le hr2 (by simpa using hw.call0 hs),λh=>by simp[Region.wanted] at h⟩
end
end Go.Proofs.YtogdediiodmnbaaGreatDoor.Q
