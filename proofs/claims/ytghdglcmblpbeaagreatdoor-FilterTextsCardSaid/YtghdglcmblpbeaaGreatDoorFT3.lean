/-
  Texts of the proof, put together: WVd, PVe, WVe, PVf, WVf, PVg, QU, QT, WVg, PVh, QN, WVh, PFa, QW, PM, QM, QV, PH, QJ, QX, QL.
-/
import Derived.Test.YtghdglcmblpbeaaGreatDoorFT2
import Derived.Laws.StructEq
import Derived.Laws.Cover3
import Derived.MapKept
import Derived.Maps.RangeRun
import GoSem.Op.IntBits
import GoSem.Op.Shift
import Derived.ScopeJumps
import Derived.Laws.CopyRow
import Derived.Laws.IdiomCopy
import Derived.Laws.OwnMore
namespace Go.Proofs.YtghdglcmblpbeaaGreatDoor.Q
open Go Go.RowKit
set_option linter.unusedVariables false
set_option linter.unusedSimpArgs false
set_option maxRecDepth 100000
set_option maxHeartbeats 4000000
theorem EJ {n:Nat}{c:Cx}{l:Fr}{H:List Ent}{d:Option Nat}{ty:TypeId}{pos:String}{af:Array Edge}{g:Option (Nat×Bool)}{x0:Operand}{r0:Rp}(h0:ev l x0=some r0)(u0:r0.one=true):B9 Tryz.prog n c l H { dst:=d,op:=.build 54 #[(0,x0)],type:=ty,pos:=pos,after:=af,guard:=g } (Bw [r0,Ai 0,rS ([]:Am),Ai 0]):=λa w Z ha _=>by
  have p0:=ha.ev h0;have c0:=Ck (r0.hone u0 Z _ p0);have hb:Tryz.prog.built 54 [(0,a.eval x0)]=some #[a.eval x0,(.int .i64 0),(.string ⟨#[]⟩),(.int .i64 0)]:=by
    rw[OP];generalize a.eval x0=v0 at *;simp[Instr.fill,c0]
  refine⟨.agg #[a.eval x0,(.int .i64 0),(.string ⟨#[]⟩),(.int .i64 0)],⟨[a.eval x0,(.int .i64 0),(.string ⟨#[]⟩),(.int .i64 0)],rfl,p0,rfl,rfl,rfl,trivial⟩,?_⟩;have:=run_build w 54 #[(0,a.eval x0)] _ (by simpa using hb);simp[execOp,this]
theorem YI (parts:List (Nat×Value)):Tryz.prog.built 106 parts=Instr.fill (λi=>(#[(0,1),(1,1),(2,1),(3,1)]:Array (Nat×Nat))[i]?) #[(.string ⟨#[]⟩),(.int .i64 0),((.slice none 0 0)),(.bool false)] parts:=by kernel_rfl
theorem Rw {n:Nat}{c:Cx}{l:Fr}{H:List Ent}{d:Option Nat}{ty:TypeId}{pos:String}{af:Array Edge}{g:Option (Nat×Bool)}{x0:Operand}{r0:Rp}(h0:ev l x0=some r0)(u0:r0.one=true):B9 Tryz.prog n c l H { dst:=d,op:=.build 106 #[(0,x0)],type:=ty,pos:=pos,after:=af,guard:=g } (Bw [r0,Ai 0,rv (.slice none 0 0),rB false]):=λa w Z ha _=>by
  have p0:=ha.ev h0;have c0:=Ck (r0.hone u0 Z _ p0);have hb:Tryz.prog.built 106 [(0,a.eval x0)]=some #[a.eval x0,(.int .i64 0),((.slice none 0 0)),(.bool false)]:=by
    rw[YI];generalize a.eval x0=v0 at *;simp[Instr.fill,c0]
  refine⟨.agg #[a.eval x0,(.int .i64 0),((.slice none 0 0)),(.bool false)],⟨[a.eval x0,(.int .i64 0),((.slice none 0 0)),(.bool false)],rfl,p0,rfl,rfl,rfl,trivial⟩,?_⟩;have:=run_build w 106 #[(0,a.eval x0)] _ (by simpa using hb);simp[execOp,this]
theorem Qm (s:Am)(p:Am)(r:Bool)(h:ID s p=some r):Fn Tryz.prog GE 136 [rS s,rS p] [] (λR H=>R=rB r∧H=[]):=by
 refine enter (n:=18) Tryz.func136 Aa Tryz.ntmps136 Aa (λw Z=>?_);unfold ID at h;refine Ah (wa Aa (An (ck h λg1 h2=>AE [(4,rB ((decide ((p.length:Int)≤(s.length:Int)))&&(decide ((List.take (B8 (p.length:Int)) s)=p))))] [] ?_ ?_)))
 ·refine Al (wm Aa (wv (BJ Di Aa) (wm Aa (wv (BJ Di Aa) (wv (GT Aa Aa) (wm Aa (AP (decide ((p.length:Int)≤(s.length:Int))) (λc3=>?_) (λc3=>?_))))))))
  ·refine wo c3 (wm Aa (wo c3 (wm Aa (wo c3 (wv (BJ Di Aa) (wo c3 (wv (Px Di Aa Aa (Cr g1 c3)) (wo c3 (wm Aa (wo c3 (wv (EZ Aa Aa) (C3 Aa c3 Aa (wa Aa (Ak ?_))))))))))))));exact BH c3
  ·refine wf c3 (wf c3 (wf c3 (wf c3 (wf c3 (wf c3 (wv (r:=rB false) (Az Aa c3 Aa) (wa Aa (Ak ?_))))))));exact BH c3
 refine Ar ?_;obtain rfl:=Ap h2;exact Aq (B2 Tryz.results136 (A5 Aa)) sN ⟨Aa,Aa⟩
theorem IR (s:Am)(p:Am)(r:Bool)(h:Eg s p=some r):Fn Tryz.prog GE 98 [rS s,rS p] [] (λR H=>R=rB r∧H=[]):=by
 refine enter (n:=8) Tryz.func98 Aa Tryz.ntmps98 Aa (λw Z=>?_);unfold Eg at h;refine Ah (wa Aa (Bd (wm Aa (wm Aa (ob h λr1 e3 h2=>BI Tryz.call136 (Qm s p r1 e3) Aa (wa Aa (An (Ar ?_))))))));obtain rfl:=Ap h2;exact Aq (B2 Tryz.results98 (A5 Aa)) sN ⟨Aa,Aa⟩
theorem Er (ha:Nat)(hb:Value)(q:A3)(s:Am)(r:Bool×A3)(h:E5 q s=some r):Fn Tryz.prog GE 117 [rP ha 0,rS s] [.blk ha [rS q.fS,Ai q.fAt,rv hb,rB q.fGreat] 106,.row hb 54 4 (A1 Ac q.fCells)] (λR H=>∃w0_2:Value,R=rB r.1∧H=[.blk ha [rS r.2.fS,Ai r.2.fAt,rv w0_2,rB r.2.fGreat] 106,.row w0_2 54 4 (A1 Ac r.2.fCells)]):=by
 refine enter (n:=26) Tryz.func117 Aa Tryz.ntmps117 Aa (λw Z=>?_);unfold E5 at h;refine Ah (wa Aa (An (Ao (Ao (ck h λg1 h2=>ob h2 λr3 e5 h4=>D5 [0,1] [⟨[],rP ha 0,0⟩,⟨[0],rP ha 0,0⟩,⟨[1],rP ha 0,0⟩,⟨[2],rS q.fS,1⟩,⟨[],rP ha 0,0⟩,⟨[4],rP ha 0,0⟩,⟨[5],rP ha 1,0⟩,⟨[6],Ai q.fAt,1⟩,⟨[3,7],rS (List.drop (B8 q.fAt) q.fS),0⟩,⟨[],rS s,0⟩,⟨[8,9],rB r3,0⟩,⟨[10],rB (!r3),0⟩] [16,0,1] ?_ ?_)))))
 ·refine oq (A8 Aa) (oq (AG Aa) (oq (AI BK Aa CX Aa Aa) (of (Bq (i:=0) Dm Aa Aa Aa) (oq (A8 Aa) (oq (AG Aa) (oq (AI BK Aa BL Aa Aa) (of (Bq (i:=0) Cc Aa Aa Aa) (oq (Kf Di Aa Aa g1) (oq (A8 Aa) (EH Aa (λH=>Ea Tryz.call98 (IR (List.drop (B8 q.fAt) q.fS) s r3 e5) Aa) ?_))))))))));refine oq (B7 Aa) ?_;exact C7
 refine A9 (cz h4 Aa (λc6 h7=>?_) (λc6 h8=>?_))
 ·refine Ah (wa Aa (An (Ar (Ae ?_))));obtain rfl:=Ap h7;exact Aq (B2 Tryz.results117 (A5 Aa)) (sC (sC sN)) ⟨hb,Aa,Aa⟩
 ·refine As (A9 (Ah (wm Aa (wv (AG Aa) (vF BK Aa BL (vL 0 Cc Aa (wm Aa (wv (BJ Di Aa) (ck h8 λg9 he=>wv (Bh Aa Aa g9) (wv (AG Aa) (vF BK Aa BL (B5 (i:=0) BL Aa Aa (BU Aa) Aa Aa (cs':=[rS q.fS,Ai (q.fAt+(s.length:Int)),rv hb,rB q.fGreat]) Aa (H':=[.blk ha [rS q.fS,Ai (q.fAt+(s.length:Int)),rv hb,rB q.fGreat] 106,.row hb 54 4 (A1 Ac q.fCells)]) Aa (Bd (wa Aa (An (Ar ?_))))))))))))))));obtain rfl:=Ap he;exact Aq (B2 Tryz.results117 (A5 Aa)) (sC (sC sN)) ⟨hb,Aa,Aa⟩
theorem U9 (F:Nat)(ha:Nat)(hq:Value)(q:A3)(r:Am×Bool×A3)(h:OZ F q=some r):Fn Tryz.prog GE 119 [rP ha 0] [.blk ha [rS q.fS,Ai q.fAt,rv hq,rB q.fGreat] 106,.row hq 54 4 (A1 Ac q.fCells)] (λR H=>∃w0_2:Value,R=CY [rS r.1,rB r.2.1]∧H=[.blk ha [rS r.2.2.fS,Ai r.2.2.fAt,rv w0_2,rB r.2.2.fGreat] 106,.row w0_2 54 4 (A1 Ac r.2.2.fCells)]):=by
 refine enter (n:=104) Tryz.func119 Aa Tryz.ntmps119 Aa (λw Z=>?_);unfold OZ at h;refine Ah (wv (r:=rS ([]:Am)) (AC Aa) (wa Aa (An (Ao (Ah (wm Aa (ob h λr1 e3 h2=>Gc (Hr:=[]) Im (Er ha hq q ([34]:Am) r1 e3) Aa (AcK _) Aa ?_)))))));rintro _ _ ⟨v4,rfl,rfl⟩;refine wv (B7 Aa) (An (cz h2 Aa (λc5 h6=>?_) (λc5 h7=>?_)))
 ·refine Ah (wv (r:=rS ([]:Am)) (AC Aa) (wa Aa (An (Ar (Ae ?_)))));obtain rfl:=Ap h6;exact Aq (CM RT (A5 Aa) (A5 Aa)) (sC (sC sN)) ⟨v4,Aa,Aa⟩
 ·refine As (A9 (Ah (wa Aa (An (Ao (AA (WC.nilrow (e:=5) (sz:=1) (JU (H2:=[.blk ha [rS r1.2.fS,Ai r1.2.fAt,rv v4,rB r1.2.fGreat] 106,.row v4 54 4 (A1 Ac r1.2.fCells),.row (.slice none 0 0     ) 5 1 (A1 BO ([]:List Int))]) ((A6 (i:=1) Aa).trans (AcQ _ ((A6 (i:=1) Aa).trans (AcQ _ (AcK _))))) (ob h7 λhw hx hl=>Bk (S:=Nat×((List Int)×Int)×(Value)) (V:=(Int)×(Unit)) 0 (λσ=>BS (λσ=>Ge r1 σ.1 σ.2) σ.1 σ.2.1=some hw) (λσ=>[(0,rP ha 0),(4,rv σ.2.2)]) (λσ=>[.blk ha [rS r1.2.fS,Ai σ.2.1.2,rv v4,rB r1.2.fGreat] 106,.row v4 54 4 (A1 Ac r1.2.fCells),.row σ.2.2 5 1 (A1 BO σ.2.1.1)]) (λσ=>σ.1) (F,(([]:List Int),r1.2.fAt),(.slice none 0 0     )) hx (A4.c Aa (A4.c Aa A4.nil)) (sC (sC (sC sN))) (λσ=>Jt r1 σ.1=some r) (λσ=>[]) (λσ=>[.blk ha [rS r1.2.fS,Ai σ.1,rv v4,rB r1.2.fGreat] 106,.row v4 54 4 (A1 Ac r1.2.fCells)]) ?_ ?_)))))))))
  ·rintro⟨gb,⟨hg,hb⟩,hh⟩ hy;refine BC (l':=[(0,rP ha 0),(4,rv hh)]) (H':=[.blk ha [rS r1.2.fS,Ai hb,rv v4,rB r1.2.fGreat] 106,.row v4 54 4 (A1 Ac r1.2.fCells),.row hh 5 1 (A1 BO hg)]) Aa Aa ?_;obtain⟨hz,rfl,hr,hm,hk⟩:=Ce hy;replace hm:Ge r1 hg hb=some hr:=hm;unfold Ge at hm;refine Ao (Ao (D5 [0,4] [⟨[],rP ha 0,0⟩,⟨[0],rP ha 0,0⟩,⟨[1],rP ha 1,0⟩,⟨[2],Ai hb,1⟩,⟨[],rP ha 0,0⟩,⟨[4],rP ha 0,0⟩,⟨[5],rP ha 0,0⟩,⟨[6],rS r1.2.fS,1⟩,⟨[7],Ai (r1.2.fS.length:Int),0⟩,⟨[3,8],rB (decide (hb<(r1.2.fS.length:Int))),0⟩] [9,10,11,12,13,14,15,16,17,18,0,4] ?_ ?_))
   ·refine oq (A8 Aa) (oq (AG Aa) (oq (AI BK Aa BL Aa Aa) (of (Bq (i:=0) Cc Aa Aa Aa) (oq (A8 Aa) (oq (AG Aa) (oq (AI BK Aa CX Aa Aa) (of (Bq (i:=0) Dm Aa Aa Aa) (oq (BJ Di Aa) (oq (Cn Aa Aa) ?_)))))))));exact C7
   refine A9 (cz hm Aa (λh0 h1=>?_) (λh0 h3=>?_))
   ·refine As (A9 (AA (Ao (ck h1 λh4 h5=>D5 [0,4,9,10,11,12,13,14,15,16,17] [⟨[],rP ha 0,0⟩,⟨[0],rP ha 0,0⟩,⟨[1],rP ha 0,0⟩,⟨[2],rS r1.2.fS,1⟩,⟨[],rP ha 0,0⟩,⟨[4],rP ha 0,0⟩,⟨[5],rP ha 1,0⟩,⟨[6],Ai hb,1⟩,⟨[3,7],rI .u8 (BA r1.2.fS hb),0⟩,⟨[8],rI .u8 (BA r1.2.fS hb),0⟩] [19,20,21,22,23,24,25,26,27,5,0,4,9,10,11,12,13,14,15,16,17] ?_ ?_))))
    ·refine oq (A8 Aa) (oq (AG Aa) (oq (AI BK Aa CX Aa Aa) (of (Bq (i:=0) Dm Aa Aa Aa) (oq (A8 Aa) (oq (AG Aa) (oq (AI BK Aa BL Aa Aa) (of (Bq (i:=0) Cc Aa Aa Aa) (oq (Bo Di Aa Aa h4) (oq (AC Aa) ?_)))))))));exact C7
    refine A9 (Ah (wm Aa (wv (AG Aa) (vF BK Aa BL (vL 0 Cc Aa (ck h5 λh8 h9=>wv (Bh Aa Aa h8) (wv (AG Aa) (vF BK Aa BL (B5 (i:=0) BL Aa Aa (BU Aa) Aa Aa (cs':=[rS r1.2.fS,Ai (hb+1),rv v4,rB r1.2.fGreat]) Aa (H':=[.blk ha [rS r1.2.fS,Ai (hb+1),rv v4,rB r1.2.fGreat] 106,.row v4 54 4 (A1 Ac r1.2.fCells),.row hh 5 1 (A1 BO hg)]) Aa (An (Cw (S:=(Int×Int)×(Unit)) (λσ=>GN hg σ.1.1 σ.1.2=some hr) (λσ=>[(0,rP ha 0),(4,rv hh),(5,rI .u8 σ.1.1),(9,rP ha 0),(10,rP ha 0),(11,rP ha 1),(12,Ai hb),(13,rP ha 0),(14,rP ha 0),(15,rP ha 0),(16,rS r1.2.fS),(17,Ai (r1.2.fS.length:Int)),(19,rP ha 0),(20,rP ha 0),(21,rP ha 0),(22,rS r1.2.fS),(23,rP ha 0),(24,rP ha 0),(25,rP ha 1),(26,Ai hb),(27,rI .u8 (BA r1.2.fS hb))]) (λσ=>[.blk ha [rS r1.2.fS,Ai σ.1.2,rv v4,rB r1.2.fGreat] 106,.row v4 54 4 (A1 Ac r1.2.fCells),.row hh 5 1 (A1 BO hg)]) ?_ ?_)))))))))))
    ·refine AA (Ah (wm Aa (wv (Bj Aa Aa) (wa Aa (An (cz h9 Aa (λhA hB=>?_) (λhA hC=>?_)))))))
     ·refine Ah (wm Aa (wv (r:=rS (YT hg)) (AbL (xs:=hg) (i:=2) OU Di yu5 Aa Aa) (wa Aa (wa Aa (An (Ar (Au (Ae (Au (Ae (AU ?_)))))))))));have hD:=Bm hB hk hl;refine Au (Ae ?_);obtain rfl:=Ap hD;exact Aq (CM RT (A5 Aa) (A5 Aa)) (sC (sC (sS sN))) ⟨v4,Aa,Aa⟩
     ·refine AE [(0,rP ha 0),(4,rv hh),(5,rI .u8 (BA r1.2.fS hb)),(9,rP ha 0),(10,rP ha 0),(11,rP ha 1),(12,Ai hb),(13,rP ha 0),(14,rP ha 0),(15,rP ha 0),(16,rS r1.2.fS),(17,Ai (r1.2.fS.length:Int)),(19,rP ha 0),(20,rP ha 0),(21,rP ha 0),(22,rS r1.2.fS),(23,rP ha 0),(24,rP ha 0),(25,rP ha 1),(26,Ai hb),(27,rI .u8 (BA r1.2.fS hb)),(40,rB ((decide ((BA r1.2.fS hb)<32))||(decide (126<(BA r1.2.fS hb)))))] [.blk ha [rS r1.2.fS,Ai (hb+1),rv v4,rB r1.2.fGreat] 106,.row v4 54 4 (A1 Ac r1.2.fCells),.row hh 5 1 (A1 BO hg)] ?_ ?_
      ·refine Al (wm Aa (wv (Cn Aa Aa) (wm Aa (AP (decide ((BA r1.2.fS hb)<32)) (λhi=>?_) (λhi=>?_)))))
       ·refine wf hi (wf hi (wv (r:=rB true) (Aw Aa hi Aa) (wa Aa (Ak ?_))));exact BH hi
       ·refine wo hi (wm Aa (wo hi (wv (CD Aa Aa) (Cs Aa hi Aa (wa Aa (Ak ?_))))));exact BH hi
      refine cz hC Aa (λhE hG=>?_) (λhE hH=>?_)
      ·refine Ah (wv (r:=rS ([]:Am)) (AC Aa) (wa Aa (An (Ar (Au (Ae (Au (Ae (AU ?_)))))))));have hI:=Bm hG hk hl;refine Au (Ae ?_);obtain rfl:=Ap hI;exact Aq (CM RT (A5 Aa) (A5 Aa)) (sC (sC (sS sN))) ⟨v4,Aa,Aa⟩
      ·refine Ah (wm Aa (wv (Bj Aa Aa) (wa Aa (An (cz hH Aa (λhJ hK=>?_) (λhJ hL=>?_))))))
       ·refine Ao (ck hK λhs hN=>AE [(0,rP ha 0),(4,rv hh),(9,rP ha 0),(10,rP ha 0),(11,rP ha 1),(12,Ai hb),(13,rP ha 0),(14,rP ha 0),(15,rP ha 0),(16,rS r1.2.fS),(17,Ai (r1.2.fS.length:Int)),(19,rP ha 0),(20,rP ha 0),(21,rP ha 0),(22,rS r1.2.fS),(23,rP ha 0),(24,rP ha 0),(25,rP ha 1),(26,Ai hb),(27,rI .u8 (BA r1.2.fS hb)),(50,rP ha 0),(51,rP ha 0),(52,rP ha 1),(53,Ai (hb+1)),(54,rP ha 0),(55,rP ha 0),(56,rP ha 0),(57,rS r1.2.fS),(58,Ai (r1.2.fS.length:Int)),(59,rB (decide ((r1.2.fS.length:Int)≤(hb+1)))),(60,rB (decide ((r1.2.fS.length:Int)≤(hb+1)))),(83,rB ((decide ((r1.2.fS.length:Int)≤(hb+1)))||((!decide ((BA r1.2.fS (hb+1))=34))&&(!decide ((BA r1.2.fS (hb+1))=92)))))] [.blk ha [rS r1.2.fS,Ai (hb+1),rv v4,rB r1.2.fGreat] 106,.row v4 54 4 (A1 Ac r1.2.fCells),.row hh 5 1 (A1 BO hg)] ?_ ?_)
        ·refine AP (decide ((r1.2.fS.length:Int)≤(hb+1))) (λhe=>?_) (λhe=>?_)
         ·refine D5 [0,4,9,10,11,12,13,14,15,16,17,19,20,21,22,23,24,25,26,27] [⟨[],rP ha 0,0⟩,⟨[0],rP ha 0,0⟩,⟨[1],rP ha 1,0⟩,⟨[2],Ai (hb+1),1⟩,⟨[],rP ha 0,0⟩,⟨[4],rP ha 0,0⟩,⟨[5],rP ha 0,0⟩,⟨[6],rS r1.2.fS,1⟩,⟨[7],Ai (r1.2.fS.length:Int),0⟩,⟨[3,8],rB (decide ((r1.2.fS.length:Int)≤(hb+1))),0⟩,⟨[9],rB (decide ((r1.2.fS.length:Int)≤(hb+1))),0⟩,⟨[10],rv undef,0⟩,⟨[11,10],rv undef,0⟩,⟨[12,10],rv undef,0⟩,⟨[13,10],rv undef,0⟩,⟨[10],rv undef,0⟩,⟨[15,10],rv undef,0⟩,⟨[16,10],rv undef,0⟩,⟨[17,10],rv undef,0⟩,⟨[14,18,10],rv undef,0⟩,⟨[19,10],rv undef,0⟩,⟨[20,10],rv undef,0⟩,⟨[21],rv undef,0⟩,⟨[22,21],rv undef,0⟩,⟨[23,21],rv undef,0⟩,⟨[24,21],rv undef,0⟩,⟨[21],rv undef,0⟩,⟨[26,21],rv undef,0⟩,⟨[27,21],rv undef,0⟩,⟨[28,21],rv undef,0⟩,⟨[25,29,21],rv undef,0⟩,⟨[30,21],rv undef,0⟩,⟨[21,31,10],rv undef,0⟩,⟨[10,32],rB true,0⟩] [50,51,52,53,54,55,56,57,58,59,60,61,62,63,64,65,66,67,68,69,70,71,72,73,74,75,76,77,78,79,80,81,82,83,0,4,9,10,11,12,13,14,15,16,17,19,20,21,22,23,24,25,26,27] ?_ ?_
          ·refine oq (A8 Aa) (oq (AG Aa) (oq (AI BK Aa BL Aa Aa) (of (Bq (i:=0) Cc Aa Aa Aa) (oq (A8 Aa) (oq (AG Aa) (oq (AI BK Aa CX Aa Aa) (of (Bq (i:=0) Dm Aa Aa Aa) (oq (BJ Di Aa) (oq (GT Aa Aa) (oq (A8 Aa) (oz he (oz he (oz he (oz he (oz he (oz he (oz he (oz he (oz he (oz he (oz he (ou (ou ?_)))))))))))))))))))))));refine ou (ou (ou (ou (ou (ou (ou (ou (oz he (oq (Aw (b:=decide ((r1.2.fS.length:Int)≤(hb+1))) Aa he Aa) ?_)))))))));exact C7
          exact BH he
         ·refine AP (!decide ((BA r1.2.fS (hb+1))=34)) (λhf=>?_) (λhf=>?_)
          ·refine D5 [0,4,9,10,11,12,13,14,15,16,17,19,20,21,22,23,24,25,26,27] [⟨[],rP ha 0,0⟩,⟨[0],rP ha 0,0⟩,⟨[1],rP ha 1,0⟩,⟨[2],Ai (hb+1),1⟩,⟨[],rP ha 0,0⟩,⟨[4],rP ha 0,0⟩,⟨[5],rP ha 0,0⟩,⟨[6],rS r1.2.fS,1⟩,⟨[7],Ai (r1.2.fS.length:Int),0⟩,⟨[3,8],rB (decide ((r1.2.fS.length:Int)≤(hb+1))),0⟩,⟨[9],rB (decide ((r1.2.fS.length:Int)≤(hb+1))),0⟩,⟨[10],rP ha 0,0⟩,⟨[11,10],rP ha 0,0⟩,⟨[12,10],rP ha 0,0⟩,⟨[13,10],rS r1.2.fS,1⟩,⟨[10],rP ha 0,0⟩,⟨[15,10],rP ha 0,0⟩,⟨[16,10],rP ha 1,0⟩,⟨[17,10],Ai (hb+1),1⟩,⟨[14,18,10],rI .u8 (BA r1.2.fS (hb+1)),0⟩,⟨[19,10],rB (!decide ((BA r1.2.fS (hb+1))=34)),0⟩,⟨[20,10],rB (!decide ((BA r1.2.fS (hb+1))=34)),0⟩,⟨[21],rP ha 0,0⟩,⟨[22,21],rP ha 0,0⟩,⟨[23,21],rP ha 0,0⟩,⟨[24,21],rS r1.2.fS,1⟩,⟨[21],rP ha 0,0⟩,⟨[26,21],rP ha 0,0⟩,⟨[27,21],rP ha 1,0⟩,⟨[28,21],Ai (hb+1),1⟩,⟨[25,29,21],rI .u8 (BA r1.2.fS (hb+1)),0⟩,⟨[30,21],rB (!decide ((BA r1.2.fS (hb+1))=92)),0⟩,⟨[21,31,10],rB (!decide ((BA r1.2.fS (hb+1))=92)),0⟩,⟨[10,32],rB (!decide ((BA r1.2.fS (hb+1))=92)),0⟩] [50,51,52,53,54,55,56,57,58,59,60,61,62,63,64,65,66,67,68,69,70,71,72,73,74,75,76,77,78,79,80,81,82,83,0,4,9,10,11,12,13,14,15,16,17,19,20,21,22,23,24,25,26,27] ?_ ?_
           ·refine oq (A8 Aa) (oq (AG Aa) (oq (AI BK Aa BL Aa Aa) (of (Bq (i:=0) Cc Aa Aa Aa) (oq (A8 Aa) (oq (AG Aa) (oq (AI BK Aa CX Aa Aa) (of (Bq (i:=0) Dm Aa Aa Aa) (oq (BJ Di Aa) (oq (GT Aa Aa) (oq (A8 Aa) (on he (oq (A8 Aa) (on he (oq (AG Aa) (on he (oq (AI BK Aa CX Aa Aa) (on he (of (Bq (i:=0) Dm Aa Aa Aa) (on he (oq (A8 Aa) (on he (oq (AG Aa) (on he ?_)))))))))))))))))))))));refine oq (AI BK Aa BL Aa Aa) (on he (of (Bq (i:=0) Cc Aa Aa Aa) (on he (oq (Bo Di Aa Aa (BR hs he)) (on he (oq (Bs Aa Aa) (on he (oq (A8 Aa) (on hf (oq (A8 Aa) (on hf (oq (AG Aa) (on hf (oq (AI BK Aa CX Aa Aa) (on hf (of (Bq (i:=0) Dm Aa Aa Aa) (on hf (oq (A8 Aa) (on hf (oq (AG Aa) (on hf (oq (AI BK Aa BL Aa Aa) (on hf ?_)))))))))))))))))))))));refine of (Bq (i:=0) Cc Aa Aa Aa) (on hf (oq (Bo Di Aa Aa (BR hs he)) (on hf (oq (Bs Aa Aa) (on he (oq (Aw Aa hf Aa) (oq (Az Aa he Aa) ?_)))))));exact C7
           exact BH (And.intro he hf)
          ·refine D5 [0,4,9,10,11,12,13,14,15,16,17,19,20,21,22,23,24,25,26,27] [⟨[],rP ha 0,0⟩,⟨[0],rP ha 0,0⟩,⟨[1],rP ha 1,0⟩,⟨[2],Ai (hb+1),1⟩,⟨[],rP ha 0,0⟩,⟨[4],rP ha 0,0⟩,⟨[5],rP ha 0,0⟩,⟨[6],rS r1.2.fS,1⟩,⟨[7],Ai (r1.2.fS.length:Int),0⟩,⟨[3,8],rB (decide ((r1.2.fS.length:Int)≤(hb+1))),0⟩,⟨[9],rB (decide ((r1.2.fS.length:Int)≤(hb+1))),0⟩,⟨[10],rP ha 0,0⟩,⟨[11,10],rP ha 0,0⟩,⟨[12,10],rP ha 0,0⟩,⟨[13,10],rS r1.2.fS,1⟩,⟨[10],rP ha 0,0⟩,⟨[15,10],rP ha 0,0⟩,⟨[16,10],rP ha 1,0⟩,⟨[17,10],Ai (hb+1),1⟩,⟨[14,18,10],rI .u8 (BA r1.2.fS (hb+1)),0⟩,⟨[19,10],rB (!decide ((BA r1.2.fS (hb+1))=34)),0⟩,⟨[20,10],rB (!decide ((BA r1.2.fS (hb+1))=34)),0⟩,⟨[21],rv undef,0⟩,⟨[22,21],rv undef,0⟩,⟨[23,21],rv undef,0⟩,⟨[24,21],rv undef,0⟩,⟨[21],rv undef,0⟩,⟨[26,21],rv undef,0⟩,⟨[27,21],rv undef,0⟩,⟨[28,21],rv undef,0⟩,⟨[25,29,21],rv undef,0⟩,⟨[30,21],rv undef,0⟩,⟨[21,31,10],rB false,0⟩,⟨[10,32],rB false,0⟩] [50,51,52,53,54,55,56,57,58,59,60,61,62,63,64,65,66,67,68,69,70,71,72,73,74,75,76,77,78,79,80,81,82,83,0,4,9,10,11,12,13,14,15,16,17,19,20,21,22,23,24,25,26,27] ?_ ?_
           ·refine oq (A8 Aa) (oq (AG Aa) (oq (AI BK Aa BL Aa Aa) (of (Bq (i:=0) Cc Aa Aa Aa) (oq (A8 Aa) (oq (AG Aa) (oq (AI BK Aa CX Aa Aa) (of (Bq (i:=0) Dm Aa Aa Aa) (oq (BJ Di Aa) (oq (GT Aa Aa) (oq (A8 Aa) (on he (oq (A8 Aa) (on he (oq (AG Aa) (on he (oq (AI BK Aa CX Aa Aa) (on he (of (Bq (i:=0) Dm Aa Aa Aa) (on he (oq (A8 Aa) (on he (oq (AG Aa) (on he ?_)))))))))))))))))))))));refine oq (AI BK Aa BL Aa Aa) (on he (of (Bq (i:=0) Cc Aa Aa Aa) (on he (oq (Bo Di Aa Aa (BR hs he)) (on he (oq (Bs Aa Aa) (on he (oq (A8 Aa) (oz hf (oz hf (oz hf (oz hf (oz hf (oz hf (oz hf (oz hf (oz hf (oz hf (on he (oq (Az (b:=!decide ((BA r1.2.fS (hb+1))=34)) Aa hf Aa) (oq (Az Aa he Aa) ?_)))))))))))))))))))));exact C7
           exact BH (And.intro he hf)
        refine cz hN Aa (λhO hP=>?_) (λhO hQ=>?_)
        ·refine Ah (wv (r:=rS ([]:Am)) (AC Aa) (wa Aa (An (Ar (Ae (Au (Ae (Au (Ae (AU ?_))))))))));have hR:=Bm hP hk hl;refine Au (Ae ?_);obtain rfl:=Ap hR;exact Aq (CM RT (A5 Aa) (A5 Aa)) (sC (sC (sS sN))) ⟨v4,Aa,Aa⟩
        ·refine As (A9 (Ao (ck hQ λhS hT=>D5 [0,4,9,10,11,12,13,14,15,16,17,19,20,21,22,23,24,25,26,27,50,51,52,53,54,55,56,57,58,59,60] [⟨[],rP ha 0,0⟩,⟨[0],rP ha 0,0⟩,⟨[1],rP ha 0,0⟩,⟨[2],rS r1.2.fS,1⟩,⟨[],rP ha 0,0⟩,⟨[4],rP ha 0,0⟩,⟨[5],rP ha 1,0⟩,⟨[6],Ai (hb+1),1⟩,⟨[3,7],rI .u8 (BA r1.2.fS (hb+1)),0⟩,⟨[8],rI .u8 (BA r1.2.fS (hb+1)),0⟩] [84,85,86,87,88,89,90,91,92,5,0,4,9,10,11,12,13,14,15,16,17,19,20,21,22,23,24,25,26,27,50,51,52,53,54,55,56,57,58,59,60] ?_ ?_)))
         ·refine oq (A8 Aa) (oq (AG Aa) (oq (AI BK Aa CX Aa Aa) (of (Bq (i:=0) Dm Aa Aa Aa) (oq (A8 Aa) (oq (AG Aa) (oq (AI BK Aa BL Aa Aa) (of (Bq (i:=0) Cc Aa Aa Aa) (oq (Bo Di Aa Aa hS) (oq (AC Aa) ?_)))))))));exact C7
         exact A9 (Al (wm Aa (wv (AG Aa) (vF BK Aa BL (vL 0 Cc Aa (ck hT λhU hV=>wv (Bh Aa Aa hU) (wv (AG Aa) (vF BK Aa BL (B5 (i:=0) BL Aa Aa (BU Aa) Aa Aa (cs':=[rS r1.2.fS,Ai ((hb+1)+1),rv v4,rB r1.2.fGreat]) Aa (H':=[.blk ha [rS r1.2.fS,Ai ((hb+1)+1),rv v4,rB r1.2.fGreat] 106,.row v4 54 4 (A1 Ac r1.2.fCells),.row hh 5 1 (A1 BO hg)]) Aa (Ak (A7 (Ax (Av ((BA r1.2.fS (hb+1),(hb+1)+1),()) hV (A4.c Aa (A4.c5 Aa Aa Aa Aa Aa (A4.c5 Aa Aa Aa Aa Aa (A4.c5 Aa Aa Aa Aa Aa (A4.c5 Aa Aa Aa Aa Aa A4.nil))))) (sC (sC (sC sN))))))))))))))))
       ·exact As (A7 (Ax (Av ((BA r1.2.fS hb,hb+1),()) hL (A4.c Aa (A4.c5 Aa Aa Aa Aa Aa (A4.c5 Aa Aa Aa Aa Aa (A4.c5 Aa Aa Aa Aa Aa (A4.c5 Aa Aa Aa Aa Aa A4.nil))))) (sC (sC (sC sN))))))
    ·rintro⟨⟨hj,hn⟩,⟨⟩⟩ ho;refine BC (l':=[(0,rP ha 0),(4,rv hh),(5,rI .u8 hj),(9,rP ha 0),(10,rP ha 0),(11,rP ha 1),(12,Ai hb),(13,rP ha 0),(14,rP ha 0),(15,rP ha 0),(16,rS r1.2.fS),(17,Ai (r1.2.fS.length:Int)),(19,rP ha 0),(20,rP ha 0),(21,rP ha 0),(22,rS r1.2.fS),(23,rP ha 0),(24,rP ha 0),(25,rP ha 1),(26,Ai hb),(27,rI .u8 (BA r1.2.fS hb))]) (H':=[.blk ha [rS r1.2.fS,Ai hn,rv v4,rB r1.2.fGreat] 106,.row v4 54 4 (A1 Ac r1.2.fCells),.row hh 5 1 (A1 BO hg)]) Aa Aa ?_;replace ho:GN hg hj hn=some hr:=ho;unfold GN at ho;refine Al (wm Aa (wm Aa (AN (ys:=([hj]:List Int)) (enc:=BO) (css:=[[rI .u8 hj]]) (xs:=[.tmp 101]) OU Tryz.sizeOf5 yz5 Aa Aa Aa ⟨Dx.one Aa (Up.refl _),trivial⟩ Aa Ii Aa Aa Aa (λhW=>?_))));refine ck ho λhX hY=>Exists.elim SX λinf hinf=>B6 (xs:=hg) (ys:=([hj]:List Int)) (enc:=BO) (i:=3) OU hinf.1 hinf.2.1 hinf.2.2.1 hinf.2.2.2 Aa Aa Aa Aa Aa (I7.w (i:=0) Aa Aa) Ii NH hX Aa (λht=>?_);refine wa Aa (Ak (A7 (Cv (H2:=[.blk ha [rS r1.2.fS,Ai hn,rv v4,rB r1.2.fGreat] 106,.row v4 54 4 (A1 Ac r1.2.fCells),.row ht 5 1 (A1 BO (hg++([hj]:List Int))),.row (.slice (some ⟨hW,0,none⟩) 1 1) 5 1 (A1 BO ([hj]:List Int))]) ((A6 (i:=2) Aa).trans (AcQ _ ((A6 (i:=2) Aa).trans (AcQ _ (AcK _))))) ?_)));have hZ:=AY hY hk;exact Ax (Av (hz,(hg++([hj]:List Int),hn),ht) ⟨hZ,AcR _⟩ (A4.c Aa (A4.c Aa A4.nil)) (sC (sC (sC (sS sN)))))
   ·refine Bt (Ay ?_);have ga:=BD h3 hk hl;exact Ay (Bb (Av (hb,()) ga A4.nil (sC (sC (sS sN)))))
  ·rintro⟨hu,⟨⟩⟩ hp;refine Ci (l':=[]) (H':=[.blk ha [rS r1.2.fS,Ai hu,rv v4,rB r1.2.fGreat] 106,.row v4 54 4 (A1 Ac r1.2.fCells)]) Aa Aa ?_;replace hp:Jt r1 hu=some r:=hp;unfold Jt at hp;refine Bf (A9 (Ah (wv (r:=rS ([]:Am)) (AC Aa) (wa Aa (An (Ar ?_))))));obtain rfl:=Ap hp;exact Aq (CM RT (A5 Aa) (A5 Aa)) (sC (sC sN)) ⟨v4,Aa,Aa⟩
theorem Zf (F:Nat)(ha:Nat)(hm:Value)(q:A3)(r:Bool×A3)(h:Pa F q=some r):Fn Tryz.prog GE 144 [rP ha 0] [.blk ha [rS q.fS,Ai q.fAt,rv hm,rB q.fGreat] 106,.row hm 54 4 (A1 Ac q.fCells)] (λR H=>∃w0_2:Value,R=rB r.1∧H=[.blk ha [rS r.2.fS,Ai r.2.fAt,rv w0_2,rB r.2.fGreat] 106,.row w0_2 54 4 (A1 Ac r.2.fCells)]):=by
 refine enter (n:=104) Tryz.func144 Aa Tryz.ntmps144 Aa (λw Z=>?_);unfold Pa at h;refine Ah (wa Aa (Bd (wm Aa (wv (AG Aa) (vF BK Aa BL (vL 0 Cc Aa (wa Aa (Bd (wm Aa (ob h λr1 e3 h2=>Gc (Hr:=[]) Im (Er ha hm q ([45]:Am) r1 e3) Aa (AcK _) Aa ?_))))))))));rintro _ _ ⟨v4,rfl,rfl⟩;refine Bd (wm Aa (wv (AG Aa) (vF BK Aa BL (vL 0 Cc Aa (wa Aa (An (Ao (AA (ob h2 λhq hr hs=>Bk (S:=Nat×(Int)×(Unit)) (V:=(Int)×(Unit)) 0 (λσ=>BS (λσ=>Gf r1 σ) σ.1 σ.2.1=some hq) (λσ=>[(0,rP ha 0),(3,Ai q.fAt),(4,Ai r1.2.fAt)]) (λσ=>[.blk ha [rS r1.2.fS,Ai σ.2.1,rv v4,rB r1.2.fGreat] 106,.row v4 54 4 (A1 Ac r1.2.fCells)]) (λσ=>σ.1) (F,r1.2.fAt,()) hr (A4.c Aa (A4.c Aa (A4.c Aa A4.nil))) (sC (sC sN)) (λσ=>KA q r1 σ.1=some r) (λσ=>[(0,rP ha 0),(3,Ai q.fAt),(4,Ai r1.2.fAt)]) (λσ=>[.blk ha [rS r1.2.fS,Ai σ.1,rv v4,rB r1.2.fGreat] 106,.row v4 54 4 (A1 Ac r1.2.fCells)]) ?_ ?_)))))))))
 ·rintro⟨hI,he,⟨⟩⟩ ht;refine BC (l':=[(0,rP ha 0),(3,Ai q.fAt),(4,Ai r1.2.fAt)]) (H':=[.blk ha [rS r1.2.fS,Ai he,rv v4,rB r1.2.fGreat] 106,.row v4 54 4 (A1 Ac r1.2.fCells)]) Aa Aa ?_;obtain⟨hu,rfl,hw,hk,ho⟩:=Ce ht;replace hk:Gf r1 he=some hw:=hk;unfold Gf at hk;refine Ao (ck hk λhn hx=>AE [(0,rP ha 0),(3,Ai q.fAt),(4,Ai r1.2.fAt),(17,rP ha 0),(18,rP ha 0),(19,rP ha 1),(20,Ai he),(21,rP ha 0),(22,rP ha 0),(23,rP ha 0),(24,rS r1.2.fS),(25,Ai (r1.2.fS.length:Int)),(26,rB (decide (he<(r1.2.fS.length:Int)))),(27,rB (decide (he<(r1.2.fS.length:Int)))),(38,rB ((decide (he<(r1.2.fS.length:Int)))&&(decide (48≤(BA r1.2.fS he))))),(39,rB ((decide (he<(r1.2.fS.length:Int)))&&(decide (48≤(BA r1.2.fS he))))),(50,rB ((decide (he<(r1.2.fS.length:Int)))&&((decide (48≤(BA r1.2.fS he)))&&(decide ((BA r1.2.fS he)≤57)))))] [.blk ha [rS r1.2.fS,Ai he,rv v4,rB r1.2.fGreat] 106,.row v4 54 4 (A1 Ac r1.2.fCells)] ?_ ?_)
  ·refine AP (decide (he<(r1.2.fS.length:Int))) (λhf=>?_) (λhf=>?_)
   ·refine AP (decide (48≤(BA r1.2.fS he))) (λhg=>?_) (λhg=>?_)
    ·refine D5 [0,3,4] [⟨[],rP ha 0,0⟩,⟨[0],rP ha 0,0⟩,⟨[1],rP ha 1,0⟩,⟨[2],Ai he,1⟩,⟨[],rP ha 0,0⟩,⟨[4],rP ha 0,0⟩,⟨[5],rP ha 0,0⟩,⟨[6],rS r1.2.fS,1⟩,⟨[7],Ai (r1.2.fS.length:Int),0⟩,⟨[3,8],rB (decide (he<(r1.2.fS.length:Int))),0⟩,⟨[9],rB (decide (he<(r1.2.fS.length:Int))),0⟩,⟨[10],rP ha 0,0⟩,⟨[11,10],rP ha 0,0⟩,⟨[12,10],rP ha 0,0⟩,⟨[13,10],rS r1.2.fS,1⟩,⟨[10],rP ha 0,0⟩,⟨[15,10],rP ha 0,0⟩,⟨[16,10],rP ha 1,0⟩,⟨[17,10],Ai he,1⟩,⟨[14,18,10],rI .u8 (BA r1.2.fS he),0⟩,⟨[19,10],rB (decide (48≤(BA r1.2.fS he))),0⟩,⟨[10,20],rB (decide (48≤(BA r1.2.fS he))),0⟩,⟨[21],rB (decide (48≤(BA r1.2.fS he))),0⟩,⟨[22],rP ha 0,0⟩,⟨[23,22],rP ha 0,0⟩,⟨[24,22],rP ha 0,0⟩,⟨[25,22],rS r1.2.fS,1⟩,⟨[22],rP ha 0,0⟩,⟨[27,22],rP ha 0,0⟩,⟨[28,22],rP ha 1,0⟩,⟨[29,22],Ai he,1⟩,⟨[26,30,22],rI .u8 (BA r1.2.fS he),0⟩,⟨[31,22],rB (decide ((BA r1.2.fS he)≤57)),0⟩,⟨[22,32],rB (decide ((BA r1.2.fS he)≤57)),0⟩] [17,18,19,20,21,22,23,24,25,26,27,28,29,30,31,32,33,34,35,36,37,38,39,40,41,42,43,44,45,46,47,48,49,50,0,3,4] ?_ ?_
     ·refine oq (A8 Aa) (oq (AG Aa) (oq (AI BK Aa BL Aa Aa) (of (Bq (i:=0) Cc Aa Aa Aa) (oq (A8 Aa) (oq (AG Aa) (oq (AI BK Aa CX Aa Aa) (of (Bq (i:=0) Dm Aa Aa Aa) (oq (BJ Di Aa) (oq (Cn Aa Aa) (oq (A8 Aa) (on hf (oq (A8 Aa) (on hf (oq (AG Aa) (on hf (oq (AI BK Aa CX Aa Aa) (on hf (of (Bq (i:=0) Dm Aa Aa Aa) (on hf (oq (A8 Aa) (on hf (oq (AG Aa) (on hf ?_)))))))))))))))))))))));refine oq (AI BK Aa BL Aa Aa) (on hf (of (Bq (i:=0) Cc Aa Aa Aa) (on hf (oq (Bo Di Aa Aa (Cr hn hf)) (on hf (oq (GT Aa Aa) (oq (Aw Aa hf Aa) (oq (A8 Aa) (on hg (oq (A8 Aa) (on hg (oq (AG Aa) (on hg (oq (AI BK Aa CX Aa Aa) (on hg (of (Bq (i:=0) Dm Aa Aa Aa) (on hg (oq (A8 Aa) (on hg (oq (AG Aa) (on hg (oq (AI BK Aa BL Aa Aa) (on hg ?_)))))))))))))))))))))));refine of (Bq (i:=0) Cc Aa Aa Aa) (on hg (oq (Bo Di Aa Aa (Cr hn hf)) (on hg (oq (LC Aa Aa) (oq (Aw Aa hg Aa) ?_)))));exact C7
     exact BH (And.intro hf hg)
    ·refine D5 [0,3,4] [⟨[],rP ha 0,0⟩,⟨[0],rP ha 0,0⟩,⟨[1],rP ha 1,0⟩,⟨[2],Ai he,1⟩,⟨[],rP ha 0,0⟩,⟨[4],rP ha 0,0⟩,⟨[5],rP ha 0,0⟩,⟨[6],rS r1.2.fS,1⟩,⟨[7],Ai (r1.2.fS.length:Int),0⟩,⟨[3,8],rB (decide (he<(r1.2.fS.length:Int))),0⟩,⟨[9],rB (decide (he<(r1.2.fS.length:Int))),0⟩,⟨[10],rP ha 0,0⟩,⟨[11,10],rP ha 0,0⟩,⟨[12,10],rP ha 0,0⟩,⟨[13,10],rS r1.2.fS,1⟩,⟨[10],rP ha 0,0⟩,⟨[15,10],rP ha 0,0⟩,⟨[16,10],rP ha 1,0⟩,⟨[17,10],Ai he,1⟩,⟨[14,18,10],rI .u8 (BA r1.2.fS he),0⟩,⟨[19,10],rB (decide (48≤(BA r1.2.fS he))),0⟩,⟨[10,20],rB (decide (48≤(BA r1.2.fS he))),0⟩,⟨[21],rB (decide (48≤(BA r1.2.fS he))),0⟩,⟨[22],rv undef,0⟩,⟨[23,22],rv undef,0⟩,⟨[24,22],rv undef,0⟩,⟨[25,22],rv undef,0⟩,⟨[22],rv undef,0⟩,⟨[27,22],rv undef,0⟩,⟨[28,22],rv undef,0⟩,⟨[29,22],rv undef,0⟩,⟨[26,30,22],rv undef,0⟩,⟨[31,22],rv undef,0⟩,⟨[22,32],rB false,0⟩] [17,18,19,20,21,22,23,24,25,26,27,28,29,30,31,32,33,34,35,36,37,38,39,40,41,42,43,44,45,46,47,48,49,50,0,3,4] ?_ ?_
     ·refine oq (A8 Aa) (oq (AG Aa) (oq (AI BK Aa BL Aa Aa) (of (Bq (i:=0) Cc Aa Aa Aa) (oq (A8 Aa) (oq (AG Aa) (oq (AI BK Aa CX Aa Aa) (of (Bq (i:=0) Dm Aa Aa Aa) (oq (BJ Di Aa) (oq (Cn Aa Aa) (oq (A8 Aa) (on hf (oq (A8 Aa) (on hf (oq (AG Aa) (on hf (oq (AI BK Aa CX Aa Aa) (on hf (of (Bq (i:=0) Dm Aa Aa Aa) (on hf (oq (A8 Aa) (on hf (oq (AG Aa) (on hf ?_)))))))))))))))))))))));refine oq (AI BK Aa BL Aa Aa) (on hf (of (Bq (i:=0) Cc Aa Aa Aa) (on hf (oq (Bo Di Aa Aa (Cr hn hf)) (on hf (oq (GT Aa Aa) (oq (Aw Aa hf Aa) (oq (A8 Aa) (oz hg (oz hg (oz hg (oz hg (oz hg (oz hg (oz hg (oz hg (oz hg (oz hg (oq (Az (b:=decide (48≤(BA r1.2.fS he))) Aa hg Aa) ?_)))))))))))))))))));exact C7
     exact BH (And.intro hf hg)
   ·refine D5 [0,3,4] [⟨[],rP ha 0,0⟩,⟨[0],rP ha 0,0⟩,⟨[1],rP ha 1,0⟩,⟨[2],Ai he,1⟩,⟨[],rP ha 0,0⟩,⟨[4],rP ha 0,0⟩,⟨[5],rP ha 0,0⟩,⟨[6],rS r1.2.fS,1⟩,⟨[7],Ai (r1.2.fS.length:Int),0⟩,⟨[3,8],rB (decide (he<(r1.2.fS.length:Int))),0⟩,⟨[9],rB (decide (he<(r1.2.fS.length:Int))),0⟩,⟨[10],rv undef,0⟩,⟨[11,10],rv undef,0⟩,⟨[12,10],rv undef,0⟩,⟨[13,10],rv undef,0⟩,⟨[10],rv undef,0⟩,⟨[15,10],rv undef,0⟩,⟨[16,10],rv undef,0⟩,⟨[17,10],rv undef,0⟩,⟨[14,18,10],rv undef,0⟩,⟨[19,10],rv undef,0⟩,⟨[10,20],rB false,0⟩,⟨[21],rB false,0⟩,⟨[22],rv undef,0⟩,⟨[23,22],rv undef,0⟩,⟨[24,22],rv undef,0⟩,⟨[25,22],rv undef,0⟩,⟨[22],rv undef,0⟩,⟨[27,22],rv undef,0⟩,⟨[28,22],rv undef,0⟩,⟨[29,22],rv undef,0⟩,⟨[26,30,22],rv undef,0⟩,⟨[31,22],rv undef,0⟩,⟨[22,32],rB false,0⟩] [17,18,19,20,21,22,23,24,25,26,27,28,29,30,31,32,33,34,35,36,37,38,39,40,41,42,43,44,45,46,47,48,49,50,0,3,4] ?_ ?_
    ·refine oq (A8 Aa) (oq (AG Aa) (oq (AI BK Aa BL Aa Aa) (of (Bq (i:=0) Cc Aa Aa Aa) (oq (A8 Aa) (oq (AG Aa) (oq (AI BK Aa CX Aa Aa) (of (Bq (i:=0) Dm Aa Aa Aa) (oq (BJ Di Aa) (oq (Cn Aa Aa) (oq (A8 Aa) (oz hf (oz hf (oz hf (oz hf (oz hf (oz hf (oz hf (oz hf (oz hf (oz hf (oq (Az (b:=decide (he<(r1.2.fS.length:Int))) Aa hf Aa) (oq (A8 Aa) (oz Aa ?_)))))))))))))))))))))));refine oz Aa (oz Aa (oz Aa (oz Aa (oz Aa (oz Aa (oz Aa (oz Aa (oz Aa (oq (Az (b:=false) Aa Aa Aa) ?_)))))))));exact C7
    exact BH hf
  refine cz hx Aa (λhy hz=>?_) (λhy h0=>?_)
  ·refine As (A9 (AA (Al (wm Aa (wv (AG Aa) (vF BK Aa BL (vL 0 Cc Aa (ck hz λh1 h3=>wv (Bh Aa Aa h1) (wv (AG Aa) (vF BK Aa BL (B5 (i:=0) BL Aa Aa (BU Aa) Aa Aa (cs':=[rS r1.2.fS,Ai (he+1),rv v4,rB r1.2.fGreat]) Aa (H':=[.blk ha [rS r1.2.fS,Ai (he+1),rv v4,rB r1.2.fGreat] 106,.row v4 54 4 (A1 Ac r1.2.fCells)]) Aa (Ak (A7 ?_)))))))))))));have h4:=AY h3 ho;exact Ax (Av (hu,he+1,()) ⟨h4,AcR _⟩ (A4.c Aa (A4.c Aa (A4.c Aa A4.nil))) (sC (sC sN)))
  ·refine Bt (Ay ?_);have h5:=BD h0 ho hs;exact Ay (Bb (Av (he,()) h5 (A4.c Aa (A4.c Aa (A4.c Aa A4.nil))) (sC (sC sN))))
 ·rintro⟨hb,⟨⟩⟩ hl;refine Ci (l':=[(0,rP ha 0),(3,Ai q.fAt),(4,Ai r1.2.fAt)]) (H':=[.blk ha [rS r1.2.fS,Ai hb,rv v4,rB r1.2.fGreat] 106,.row v4 54 4 (A1 Ac r1.2.fCells)]) Aa Aa ?_;replace hl:KA q r1 hb=some r:=hl;unfold KA at hl;refine Bf (A9 (Ao (ck hl λh6 h7=>ck h7 λh8 h9=>ck h9 λhA hB=>D5 [0,3,4] [⟨[],rP ha 0,0⟩,⟨[0],rP ha 0,0⟩,⟨[1],rP ha 0,0⟩,⟨[2],rS r1.2.fS,1⟩,⟨[],Ai q.fAt,0⟩,⟨[],rP ha 0,0⟩,⟨[5],rP ha 0,0⟩,⟨[6],rP ha 1,0⟩,⟨[7],Ai hb,1⟩,⟨[3,4,8],rS (List.take (B8 hb-B8 q.fAt) (List.drop (B8 q.fAt) r1.2.fS)),0⟩,⟨[9],CY [Ai (Da (List.take (B8 hb-B8 q.fAt) (List.drop (B8 q.fAt) r1.2.fS))),Ai (CO (List.take (B8 hb-B8 q.fAt) (List.drop (B8 q.fAt) r1.2.fS)))],0⟩,⟨[10],CY [Ai (Da (List.take (B8 hb-B8 q.fAt) (List.drop (B8 q.fAt) r1.2.fS))),Ai (CO (List.take (B8 hb-B8 q.fAt) (List.drop (B8 q.fAt) r1.2.fS)))],0⟩,⟨[11],Ai (Da (List.take (B8 hb-B8 q.fAt) (List.drop (B8 q.fAt) r1.2.fS))),0⟩,⟨[11],Ai (CO (List.take (B8 hb-B8 q.fAt) (List.drop (B8 q.fAt) r1.2.fS))),0⟩,⟨[12],Ai (Da (List.take (B8 hb-B8 q.fAt) (List.drop (B8 q.fAt) r1.2.fS))),0⟩,⟨[13],Ai (CO (List.take (B8 hb-B8 q.fAt) (List.drop (B8 q.fAt) r1.2.fS))),0⟩] [5,6,0,4] ?_ ?_)))
  ·refine oq (A8 Aa) (oq (AG Aa) (oq (AI BK Aa CX Aa Aa) (of (Bq (i:=0) Dm Aa Aa Aa) (oq (A8 Aa) (oq (A8 Aa) (oq (AG Aa) (oq (AI BK Aa BL Aa Aa) (of (Bq (i:=0) Cc Aa Aa Aa) (oq (Gx Di Aa Aa Aa h6 h8) (EH Aa (λH=>MG (rs:=[rS (List.take (B8 hb-B8 q.fAt) (List.drop (B8 q.fAt) r1.2.fS))]) (r:=CY [Ai (Da (List.take (B8 hb-B8 q.fAt) (List.drop (B8 q.fAt) r1.2.fS))),Ai (CO (List.take (B8 hb-B8 q.fAt) (List.drop (B8 q.fAt) r1.2.fS)))]) Tryz.call151 Aa (Zu (List.take (B8 hb-B8 q.fAt) (List.drop (B8 q.fAt) r1.2.fS)) hA) Aa) ?_))))))))));refine oq (A8 Aa) (oq (A0 Aa Aa) (oq (A0 Aa Aa) (oq (AC Aa) (oq (AC Aa) ?_))));exact C7
  refine A9 (Ao (AE [(0,rP ha 0),(5,Ai (Da (List.take (B8 hb-B8 q.fAt) (List.drop (B8 q.fAt) r1.2.fS)))),(6,Ai (CO (List.take (B8 hb-B8 q.fAt) (List.drop (B8 q.fAt) r1.2.fS)))),(81,rB ((decide ((CO (List.take (B8 hb-B8 q.fAt) (List.drop (B8 q.fAt) r1.2.fS)))=1))||(decide (r1.2.fAt=hb))))] [.blk ha [rS r1.2.fS,Ai hb,rv v4,rB r1.2.fGreat] 106,.row v4 54 4 (A1 Ac r1.2.fCells)] ?_ ?_))
  ·refine Al (wm Aa (wv (Bj Aa Aa) (wm Aa (AP (decide ((CO (List.take (B8 hb-B8 q.fAt) (List.drop (B8 q.fAt) r1.2.fS)))=1)) (λhh=>?_) (λhh=>?_)))))
   ·refine wf hh (wf hh (wf hh (wf hh (wf hh (wf hh (wv (r:=rB true) (Aw Aa hh Aa) (Ak ?_)))))));exact BH hh
   ·refine wo hh (wm Aa (wo hh (wm Aa (wo hh (wv (AG Aa) (wo hh (vF BK Aa BL (wo hh (vL 0 Cc Aa (wo hh (wv (Bj Aa Aa) (Cs Aa hh Aa (Ak ?_)))))))))))));exact BH hh
  refine cz hB Aa (λhC hD=>?_) (λhC hE=>?_)
  ·refine Ah (wa Aa (An (Ar (Ae ?_))));obtain rfl:=Ap hD;exact Aq (B2 Tryz.results144 (A5 Aa)) (sC (sC sN)) ⟨v4,Aa,Aa⟩
  ·refine As (A9 (AE [(0,rP ha 0),(5,Ai (Da (List.take (B8 hb-B8 q.fAt) (List.drop (B8 q.fAt) r1.2.fS))))] [.blk ha [rS r1.2.fS,Ai hb,rv v4,rB (r1.2.fGreat||(!decide ((CO (List.take (B8 hb-B8 q.fAt) (List.drop (B8 q.fAt) r1.2.fS)))=0)))] 106,.row v4 54 4 (A1 Ac r1.2.fCells)] ?_ ?_))
   ·refine Al (wm Aa (wm Aa (wv (AG Aa) (vF BK Aa JP (vL 0 W1 Aa (wm Aa (AP (r1.2.fGreat) (λhi=>?_) (λhi=>?_))))))))
    ·refine wf hi (wf hi (wv (r:=rB true) (Aw rfl hi rfl) (wv (AG rfl) (vF BK rfl JP (B5 (i:=0) JP rfl rfl (BU rfl) rfl rfl (cs':=[rS r1.2.fS,Ai hb,rv v4,rB true]) rfl (H':=[.blk ha [rS r1.2.fS,Ai hb,rv v4,rB true] 106,.row v4 54 4 (A1 Ac r1.2.fCells)]) rfl (Ak (JS (H':=[.blk ha [rS r1.2.fS,Ai hb,rv v4,rB (r1.2.fGreat||(!decide ((CO (List.take (B8 hb-B8 q.fAt) (List.drop (B8 q.fAt) r1.2.fS)))=0)))] 106,.row v4 54 4 (A1 Ac r1.2.fCells)]) (by simp only[hi,AcY,Adm,Adu,Ade,Adn,Adj,Adv,Ado,AcU,Adi,AcO,AcJ]) ?_)))))));exact wt
    ·refine wo hi (wm rfl (wo hi (wv (Bs rfl rfl) (Cs rfl hi rfl (wv (AG rfl) (vF BK rfl JP (B5 (i:=0) JP rfl rfl (BU rfl) rfl rfl (cs':=[rS r1.2.fS,Ai hb,rv v4,rB (!decide ((CO (List.take (B8 hb-B8 q.fAt) (List.drop (B8 q.fAt) r1.2.fS)))=0))]) rfl (H':=[.blk ha [rS r1.2.fS,Ai hb,rv v4,rB (!decide ((CO (List.take (B8 hb-B8 q.fAt) (List.drop (B8 q.fAt) r1.2.fS)))=0))] 106,.row v4 54 4 (A1 Ac r1.2.fCells)]) rfl (Ak (JS (H':=[.blk ha [rS r1.2.fS,Ai hb,rv v4,rB (r1.2.fGreat||(!decide ((CO (List.take (B8 hb-B8 q.fAt) (List.drop (B8 q.fAt) r1.2.fS)))=0)))] 106,.row v4 54 4 (A1 Ac r1.2.fCells)]) (by simp only[hi,AcY,Adm,Adu,Ade,Adn,Adj,Adv,Ado,AcU,Adi,AcO,AcJ]) ?_)))))))));exact wt
   refine Ah (wm Aa (wm Aa (wv (AG Aa) (vF BK Aa BZ (vL 0 CN Aa (wm Aa (wv (r:=Bw [Ai 3,Ai (Da (List.take (B8 hb-B8 q.fAt) (List.drop (B8 q.fAt) r1.2.fS))),rS ([]:Am),Ai 0]) (Cj Aa Aa Aa Aa) (AN (ys:=([(Ab.mk 3 (Da (List.take (B8 hb-B8 q.fAt) (List.drop (B8 q.fAt) r1.2.fS))) ([]:Am) 0)]:List Ab)) (enc:=Ac) (css:=[[Ai 3,Ai (Da (List.take (B8 hb-B8 q.fAt) (List.drop (B8 q.fAt) r1.2.fS))),rS ([]:Am),Ai 0]]) (xs:=[.tmp 99]) Br Bx DU Aa Aa Aa ⟨Dx.agg ⟨Up.refl _,Up.refl _,Up.refl _,Up.refl _,trivial⟩,trivial⟩ Aa AO Aa Aa Aa (λhp=>?_)))))))));refine ck hE λhG hH=>Exists.elim Ef λinf hinf=>B6 (xs:=r1.2.fCells) (ys:=([(Ab.mk 3 (Da (List.take (B8 hb-B8 q.fAt) (List.drop (B8 q.fAt) r1.2.fS))) ([]:Am) 0)]:List Ab)) (enc:=Ac) (i:=2) Br hinf.1 hinf.2.1 hinf.2.2.1 hinf.2.2.2 Aa Aa Aa Aa Aa (I7.w (i:=0) Aa Aa) AO BG hG Aa (λhj=>?_);refine wv (AG Aa) (vF BK Aa BZ (B5 (i:=2) BZ Aa Aa (Dt (i:=0) Aa) Aa Aa (cs':=[rS r1.2.fS,Ai hb,rv hj,rB (r1.2.fGreat||(!decide ((CO (List.take (B8 hb-B8 q.fAt) (List.drop (B8 q.fAt) r1.2.fS)))=0)))]) Aa (H':=[.row hj 54 4 (A1 Ac (r1.2.fCells++([(Ab.mk 3 (Da (List.take (B8 hb-B8 q.fAt) (List.drop (B8 q.fAt) r1.2.fS))) ([]:Am) 0)]:List Ab))),.row (.slice (some ⟨hp,0,none⟩) 1 1) 54 4 (A1 Ac ([(Ab.mk 3 (Da (List.take (B8 hb-B8 q.fAt) (List.drop (B8 q.fAt) r1.2.fS))) ([]:Am) 0)]:List Ab)),.blk ha [rS r1.2.fS,Ai hb,rv hj,rB (r1.2.fGreat||(!decide ((CO (List.take (B8 hb-B8 q.fAt) (List.drop (B8 q.fAt) r1.2.fS)))=0)))] 106]) Aa (Bd (wa Aa (An (Ar (Cv (H2:=[.blk ha [rS r1.2.fS,Ai hb,rv hj,rB (r1.2.fGreat||(!decide ((CO (List.take (B8 hb-B8 q.fAt) (List.drop (B8 q.fAt) r1.2.fS)))=0)))] 106,.row hj 54 4 (A1 Ac (r1.2.fCells++([(Ab.mk 3 (Da (List.take (B8 hb-B8 q.fAt) (List.drop (B8 q.fAt) r1.2.fS))) ([]:Am) 0)]:List Ab))),.row (.slice (some ⟨hp,0,none⟩) 1 1) 54 4 (A1 Ac ([(Ab.mk 3 (Da (List.take (B8 hb-B8 q.fAt) (List.drop (B8 q.fAt) r1.2.fS))) ([]:Am) 0)]:List Ab))]) ((A6 (i:=2) Aa).trans (AcQ _ (AcK _))) ?_)))))));obtain rfl:=Ap hH;exact Aq (B2 Tryz.results144 (A5 Aa)) (sC (sC (sS sN))) ⟨hj,Aa,Aa⟩
theorem T9 (F:Nat)(he:Nat)(hl:Value)(q:A3)(r:Bool×A3)(h:Ju F q=some r):Fn Tryz.prog GE 118 [rP he 0] [.blk he [rS q.fS,Ai q.fAt,rv hl,rB q.fGreat] 106,.row hl 54 4 (A1 Ac q.fCells)] (λR H=>∃w0_2:Value,R=rB r.1∧H=[.blk he [rS r.2.fS,Ai r.2.fAt,rv w0_2,rB r.2.fGreat] 106,.row w0_2 54 4 (A1 Ac r.2.fCells)]):=by
 refine enter (n:=75) Tryz.func118 Aa Tryz.ntmps118 Aa (λw Z=>?_);unfold Ju at h;refine Ah (wa Aa (An (Cw (S:=(Am×Int×(List Ab)×Bool)×(Value)) (λσ=>E7 σ.1.1 σ.1.2.1 σ.1.2.2.1 σ.1.2.2.2=some r) (λσ=>[]) (λσ=>[.blk he [rS σ.1.1,Ai σ.1.2.1,rv σ.2,rB σ.1.2.2.2] 106,.row σ.2 54 4 (A1 Ac σ.1.2.2.1)]) ?_ ?_)))
 ·refine AA (Ah (wm Aa (ob h λhf hy hz=>Gc (Hr:=[]) Im (Er he hl q ([110,117,108,108]:Am) hf hy) Aa (AcK _) Aa ?_)));rintro _ _ ⟨h0,rfl,rfl⟩;refine wa Aa (An (cz hz Aa (λh1 h2=>?_) (λh1 h3=>?_)))
  ·refine Al (wm Aa (wm Aa (wv (AG Aa) (vF BK Aa BZ (vL 0 CN Aa (wv (r:=Bw [Ai 1,Ai 0,rS ([]:Am),Ai 0]) (EJ Aa Aa) (AN (ys:=([(Ab.mk 1 0 ([]:Am) 0)]:List Ab)) (enc:=Ac) (css:=[[Ai 1,Ai 0,rS ([]:Am),Ai 0]]) (xs:=[.tmp 15]) Br Bx DU Aa Aa Aa ⟨Dx.agg ⟨Up.refl _,Up.refl _,Up.refl _,Up.refl _,trivial⟩,trivial⟩ Aa AO Aa Aa Aa (λho=>?_))))))));refine ck h2 λh4 h5=>Exists.elim Ef λinf hinf=>B6 (xs:=hf.2.fCells) (ys:=([(Ab.mk 1 0 ([]:Am) 0)]:List Ab)) (enc:=Ac) (i:=2) Br hinf.1 hinf.2.1 hinf.2.2.1 hinf.2.2.2 Aa Aa Aa Aa Aa (I7.w (i:=0) Aa Aa) AO BG h4 Aa (λhh=>?_);exact wv (AG Aa) (vF BK Aa BZ (B5 (i:=2) BZ Aa Aa (Dt (i:=0) Aa) Aa Aa (cs':=[rS hf.2.fS,Ai hf.2.fAt,rv hh,rB hf.2.fGreat]) Aa (H':=[.row hh 54 4 (A1 Ac (hf.2.fCells++([(Ab.mk 1 0 ([]:Am) 0)]:List Ab))),.row (.slice (some ⟨ho,0,none⟩) 1 1) 54 4 (A1 Ac ([(Ab.mk 1 0 ([]:Am) 0)]:List Ab)),.blk he [rS hf.2.fS,Ai hf.2.fAt,rv hh,rB hf.2.fGreat] 106]) Aa (Ak (A7 (Cv (H2:=[.blk he [rS hf.2.fS,Ai hf.2.fAt,rv hh,rB hf.2.fGreat] 106,.row hh 54 4 (A1 Ac (hf.2.fCells++([(Ab.mk 1 0 ([]:Am) 0)]:List Ab))),.row (.slice (some ⟨ho,0,none⟩) 1 1) 54 4 (A1 Ac ([(Ab.mk 1 0 ([]:Am) 0)]:List Ab))]) ((A6 (i:=2) Aa).trans (AcQ _ (AcK _))) (Ax (Av ((hf.2.fS,hf.2.fAt,hf.2.fCells++([(Ab.mk 1 0 ([]:Am) 0)]:List Ab),hf.2.fGreat),hh) h5 A4.nil (sC (sC (sS sN))))))))))
  ·refine Ah (wm Aa (ob h3 λhg h6 h7=>Gc (Hr:=[]) Im (Er he h0 hf.2 ([116,114,117,101]:Am) hg h6) Aa (AcK _) Aa ?_));rintro _ _ ⟨v76,rfl,rfl⟩;refine wa Aa (An (cz h7 Aa (λh8 h9=>?_) (λh8 hA=>?_)))
   ·refine Al (wm Aa (wm Aa (wv (AG Aa) (vF BK Aa BZ (vL 0 CN Aa (wv (r:=Bw [Ai 2,Ai 1,rS ([]:Am),Ai 0]) (Cj Aa Aa Aa Aa) (AN (ys:=([(Ab.mk 2 1 ([]:Am) 0)]:List Ab)) (enc:=Ac) (css:=[[Ai 2,Ai 1,rS ([]:Am),Ai 0]]) (xs:=[.tmp 28]) Br Bx DU Aa Aa Aa ⟨Dx.agg ⟨Up.refl _,Up.refl _,Up.refl _,Up.refl _,trivial⟩,trivial⟩ Aa AO Aa Aa Aa (λhp=>?_))))))));refine ck h9 λhB hC=>Exists.elim Ef λinf hinf=>B6 (xs:=hg.2.fCells) (ys:=([(Ab.mk 2 1 ([]:Am) 0)]:List Ab)) (enc:=Ac) (i:=2) Br hinf.1 hinf.2.1 hinf.2.2.1 hinf.2.2.2 Aa Aa Aa Aa Aa (I7.w (i:=0) Aa Aa) AO BG hB Aa (λv80=>?_);exact wv (AG Aa) (vF BK Aa BZ (B5 (i:=2) BZ Aa Aa (Dt (i:=0) Aa) Aa Aa (cs':=[rS hg.2.fS,Ai hg.2.fAt,rv v80,rB hg.2.fGreat]) Aa (H':=[.row v80 54 4 (A1 Ac (hg.2.fCells++([(Ab.mk 2 1 ([]:Am) 0)]:List Ab))),.row (.slice (some ⟨hp,0,none⟩) 1 1) 54 4 (A1 Ac ([(Ab.mk 2 1 ([]:Am) 0)]:List Ab)),.blk he [rS hg.2.fS,Ai hg.2.fAt,rv v80,rB hg.2.fGreat] 106]) Aa (Ak (A7 (Cv (H2:=[.blk he [rS hg.2.fS,Ai hg.2.fAt,rv v80,rB hg.2.fGreat] 106,.row v80 54 4 (A1 Ac (hg.2.fCells++([(Ab.mk 2 1 ([]:Am) 0)]:List Ab))),.row (.slice (some ⟨hp,0,none⟩) 1 1) 54 4 (A1 Ac ([(Ab.mk 2 1 ([]:Am) 0)]:List Ab))]) ((A6 (i:=2) Aa).trans (AcQ _ (AcK _))) (Ax (Av ((hg.2.fS,hg.2.fAt,hg.2.fCells++([(Ab.mk 2 1 ([]:Am) 0)]:List Ab),hg.2.fGreat),v80) hC A4.nil (sC (sC (sS sN))))))))))
   ·refine Ah (wm Aa (ob hA λhb hD hE=>Gc (Hr:=[]) Im (Er he v76 hg.2 ([102,97,108,115,101]:Am) hb hD) Aa (AcK _) Aa ?_));rintro _ _ ⟨hq,rfl,rfl⟩;refine wa Aa (An (cz hE Aa (λhG hH=>?_) (λhG hI=>?_)))
    ·refine Al (wm Aa (wm Aa (wv (AG Aa) (vF BK Aa BZ (vL 0 CN Aa (wv (r:=Bw [Ai 2,Ai 0,rS ([]:Am),Ai 0]) (EJ Aa Aa) (AN (ys:=([(Ab.mk 2 0 ([]:Am) 0)]:List Ab)) (enc:=Ac) (css:=[[Ai 2,Ai 0,rS ([]:Am),Ai 0]]) (xs:=[.tmp 41]) Br Bx DU Aa Aa Aa ⟨Dx.agg ⟨Up.refl _,Up.refl _,Up.refl _,Up.refl _,trivial⟩,trivial⟩ Aa AO Aa Aa Aa (λhr=>?_))))))));refine ck hH λhJ hK=>Exists.elim Ef λinf hinf=>B6 (xs:=hb.2.fCells) (ys:=([(Ab.mk 2 0 ([]:Am) 0)]:List Ab)) (enc:=Ac) (i:=2) Br hinf.1 hinf.2.1 hinf.2.2.1 hinf.2.2.2 Aa Aa Aa Aa Aa (I7.w (i:=0) Aa Aa) AO BG hJ Aa (λhi=>?_);exact wv (AG Aa) (vF BK Aa BZ (B5 (i:=2) BZ Aa Aa (Dt (i:=0) Aa) Aa Aa (cs':=[rS hb.2.fS,Ai hb.2.fAt,rv hi,rB hb.2.fGreat]) Aa (H':=[.row hi 54 4 (A1 Ac (hb.2.fCells++([(Ab.mk 2 0 ([]:Am) 0)]:List Ab))),.row (.slice (some ⟨hr,0,none⟩) 1 1) 54 4 (A1 Ac ([(Ab.mk 2 0 ([]:Am) 0)]:List Ab)),.blk he [rS hb.2.fS,Ai hb.2.fAt,rv hi,rB hb.2.fGreat] 106]) Aa (Ak (A7 (Cv (H2:=[.blk he [rS hb.2.fS,Ai hb.2.fAt,rv hi,rB hb.2.fGreat] 106,.row hi 54 4 (A1 Ac (hb.2.fCells++([(Ab.mk 2 0 ([]:Am) 0)]:List Ab))),.row (.slice (some ⟨hr,0,none⟩) 1 1) 54 4 (A1 Ac ([(Ab.mk 2 0 ([]:Am) 0)]:List Ab))]) ((A6 (i:=2) Aa).trans (AcQ _ (AcK _))) (Ax (Av ((hb.2.fS,hb.2.fAt,hb.2.fCells++([(Ab.mk 2 0 ([]:Am) 0)]:List Ab),hb.2.fGreat),hi) hK A4.nil (sC (sC (sS sN))))))))))
    ·refine Ao (ck hI λhL hN=>ob hN λhm hO hP=>D5 [0] [⟨[],rP he 0,0⟩,⟨[0],rP he 0,0⟩,⟨[1],rP he 0,0⟩,⟨[2],rS hb.2.fS,1⟩,⟨[],rP he 0,0⟩,⟨[4],rP he 0,0⟩,⟨[5],rP he 1,0⟩,⟨[6],Ai hb.2.fAt,1⟩,⟨[3,7],rS (List.drop (B8 hb.2.fAt) hb.2.fS),0⟩,⟨[8],rB hm,0⟩,⟨[9],rB hm,0⟩] [46,0] ?_ ?_)
     ·refine oq (A8 Aa) (oq (AG Aa) (oq (AI BK Aa CX Aa Aa) (of (Bq (i:=0) Dm Aa Aa Aa) (oq (A8 Aa) (oq (AG Aa) (oq (AI BK Aa BL Aa Aa) (of (Bq (i:=0) Cc Aa Aa Aa) (oq (Kf Di Aa Aa hL) (EH Aa (λH=>Ea Tryz.call98 (IR (List.drop (B8 hb.2.fAt) hb.2.fS) ([34]:Am) hm hO) Aa) ?_)))))))));refine oq (AC Aa) ?_;exact C7
     refine A9 (cz hP Aa (λhQ hR=>?_) (λhQ hS=>?_))
     ·refine Ah (wm Aa (ob hR λha hT hU=>Gc (Hr:=[]) Tryz.call119 (U9 F he hq hb.2 ha hT) Aa (AcK _) Aa ?_));rintro _ _ ⟨hV,rfl,rfl⟩;refine wm Aa (wv (A0 Aa Aa) (wv (A0 Aa Aa) (wa Aa (wa Aa (An (Ao (Ah (wm Aa (wv (B7 Aa) (An (cz hU Aa (λhW hX=>?_) (λhW hY=>?_))))))))))))
      ·refine Ah (wa Aa (An (Ar (Ae (Au (Ae ?_))))));obtain rfl:=Ap hX;exact Aq (B2 Tryz.results118 (A5 Aa)) (sC (sC sN)) ⟨hV,Aa,Aa⟩
      ·refine As (A9 (Al (wm Aa (wm Aa (wv (AG Aa) (vF BK Aa BZ (vL 0 CN Aa (wm Aa (wv (r:=Bw [Ai 4,Ai 0,rS ha.1,Ai 0]) (Dc Aa Aa Aa Aa) (AN (ys:=([(Ab.mk 4 0 ha.1 0)]:List Ab)) (enc:=Ac) (css:=[[Ai 4,Ai 0,rS ha.1,Ai 0]]) (xs:=[.tmp 70]) Br Bx DU Aa Aa Aa ⟨Dx.agg ⟨Up.refl _,Up.refl _,Up.refl _,Up.refl _,trivial⟩,trivial⟩ Aa AO Aa Aa Aa (λhs=>?_)))))))))));refine ck hY λhZ ga=>Exists.elim Ef λinf hinf=>B6 (xs:=ha.2.2.fCells) (ys:=([(Ab.mk 4 0 ha.1 0)]:List Ab)) (enc:=Ac) (i:=2) Br hinf.1 hinf.2.1 hinf.2.2.1 hinf.2.2.2 Aa Aa Aa Aa Aa (I7.w (i:=0) Aa Aa) AO BG hZ Aa (λhj=>?_);exact wv (AG Aa) (vF BK Aa BZ (B5 (i:=2) BZ Aa Aa (Dt (i:=0) Aa) Aa Aa (cs':=[rS ha.2.2.fS,Ai ha.2.2.fAt,rv hj,rB ha.2.2.fGreat]) Aa (H':=[.row hj 54 4 (A1 Ac (ha.2.2.fCells++([(Ab.mk 4 0 ha.1 0)]:List Ab))),.row (.slice (some ⟨hs,0,none⟩) 1 1) 54 4 (A1 Ac ([(Ab.mk 4 0 ha.1 0)]:List Ab)),.blk he [rS ha.2.2.fS,Ai ha.2.2.fAt,rv hj,rB ha.2.2.fGreat] 106]) Aa (Ak (A7 (Cv (H2:=[.blk he [rS ha.2.2.fS,Ai ha.2.2.fAt,rv hj,rB ha.2.2.fGreat] 106,.row hj 54 4 (A1 Ac (ha.2.2.fCells++([(Ab.mk 4 0 ha.1 0)]:List Ab))),.row (.slice (some ⟨hs,0,none⟩) 1 1) 54 4 (A1 Ac ([(Ab.mk 4 0 ha.1 0)]:List Ab))]) ((A6 (i:=2) Aa).trans (AcQ _ (AcK _))) (Ax (Av ((ha.2.2.fS,ha.2.2.fAt,ha.2.2.fCells++([(Ab.mk 4 0 ha.1 0)]:List Ab),ha.2.2.fGreat),hj) ga A4.nil (sC (sC (sS sN))))))))))
     ·refine Ah (wm Aa (ob hS λgb gc gd=>Gc (Hr:=[]) Tryz.call144 (Zf F he hq hb.2 gb gc) Aa (AcK _) Aa ?_));rintro _ _ ⟨ge,rfl,rfl⟩;refine wa Aa (An (Ar (Au (Ae ?_))));obtain rfl:=Ap gd;exact Aq (B2 Tryz.results118 (A5 Aa)) (sC (sC sN)) ⟨ge,Aa,Aa⟩
 ·rintro⟨⟨ht,hu,hw,hx⟩,hn⟩ hk;refine BC (l':=[]) (H':=[.blk he [rS ht,Ai hu,rv hn,rB hx] 106,.row hn 54 4 (A1 Ac hw)]) Aa Aa ?_;replace hk:E7 ht hu hw hx=some r:=hk;unfold E7 at hk;refine Ah (wa Aa (An (Ar ?_)));obtain rfl:=Ap hk;exact Aq (B2 Tryz.results118 (A5 Aa)) (sC (sC sN)) ⟨hn,Aa,Aa⟩
theorem T7 (F:Nat)(hi:A3→Option (Bool×A3))(gb:(∀(hb:Nat) (hr:Value) (q:A3) (r:Bool×A3),hi q=some r→Fn Tryz.prog GE 89 [rP hb 0] [.blk hb [rS q.fS,Ai q.fAt,rv hr,rB q.fGreat] 106,.row hr 54 4 (A1 Ac q.fCells)] (λR H=>∃w0_2:Value,R=rB r.1∧H=[.blk hb [rS r.2.fS,Ai r.2.fAt,rv w0_2,rB r.2.fGreat] 106,.row w0_2 54 4 (A1 Ac r.2.fCells)])))(hb:Nat)(hr:Value)(q:A3)(r:Bool×A3)(h:Mp F hi q=some r):Fn Tryz.prog GE 89 [rP hb 0] [.blk hb [rS q.fS,Ai q.fAt,rv hr,rB q.fGreat] 106,.row hr 54 4 (A1 Ac q.fCells)] (λR H=>∃w0_2:Value,R=rB r.1∧H=[.blk hb [rS r.2.fS,Ai r.2.fAt,rv w0_2,rB r.2.fGreat] 106,.row w0_2 54 4 (A1 Ac r.2.fCells)]):=by
 refine enter (n:=96) Tryz.func89 Aa Tryz.ntmps89 Aa (λw Z=>?_);unfold Mp at h;refine Ah (wa Aa (Bd (wm Aa (ob h λr1 e3 h2=>Gc (Hr:=[]) Im (Er hb hr q ([91]:Am) r1 e3) Aa (AcK _) Aa ?_))));rintro _ _ ⟨v4,rfl,rfl⟩;refine wa Aa (An (Ao (Cw (S:=(Bool×Am×Int×(List Ab)×Bool)×(Value)) (λσ=>E6 F hi r1 σ.1.1 σ.1.2.1 σ.1.2.2.1 σ.1.2.2.2.1 σ.1.2.2.2.2=some r) (λσ=>[(0,rP hb 0),(2,rB false),(3,rB r1.1),(19,rB σ.1.1)]) (λσ=>[.blk hb [rS σ.1.2.1,Ai σ.1.2.2.1,rv σ.2,rB σ.1.2.2.2.2] 106,.row σ.2 54 4 (A1 Ac σ.1.2.2.2.1)]) ?_ ?_)))
 ·refine Al (wm Aa (wv (B7 Aa) (wm Aa (bz h2 (λhj gt=>?_) (λhj gu=>?_)))))
  ·refine wo hj (wm Aa (wo hj (ob gt λhs gv gw=>Gc (Hr:=[]) Im (Er hb v4 r1.2 ([123]:Am) hs gv) Aa (AcK _) Aa ?_)));rintro _ _ ⟨gx,rfl,rfl⟩;exact wo hj (wv (B7 Aa) (C3 Aa hj Aa (Ak (Ax (Av ((!hs.1,hs.2.fS,hs.2.fAt,hs.2.fCells,hs.2.fGreat),gx) gw (A4.c Aa (A4.c Aa (A4.c Aa (A4.c Aa A4.nil)))) (sC (sC sN)))))))
  ·exact wf hj (wf hj (wf hj (wv (r:=rB false) (Az Aa hj Aa) (Ak (Ax (Av ((false,r1.2.fS,r1.2.fAt,r1.2.fCells,r1.2.fGreat),v4) gu (A4.c Aa (A4.c Aa (A4.c Aa (A4.c Aa A4.nil)))) (sC (sC sN))))))))
 ·rintro⟨⟨gc,hk,hl,x16,hm⟩,hJ⟩ h9;refine BC (l':=[(0,rP hb 0),(2,rB false),(3,rB r1.1),(19,rB gc)]) (H':=[.blk hb [rS hk,Ai hl,rv hJ,rB hm] 106,.row hJ 54 4 (A1 Ac x16)]) Aa Aa ?_;replace h9:E6 F hi r1 gc hk hl x16 hm=some r:=h9;unfold E6 at h9;refine cz h9 Aa (λgy gz=>?_) (λgy g0=>?_)
  ·refine Ah (wm Aa (ob gz λg1 g2 g3=>Gc (Hr:=[]) Tryz.call118 (T9 F hb hJ (A3.mk hk hl x16 hm) g1 g2) Aa (AcK _) Aa ?_));rintro _ _ ⟨g4,rfl,rfl⟩;refine wa Aa (An (Ar (Ae ?_)));obtain rfl:=Ap g3;exact Aq (B2 Qe (A5 Aa)) (sC (sC sN)) ⟨g4,Aa,Aa⟩
  ·refine As (A9 (Ah (wa Aa (wv (r:=rS ([125]:Am)) (AC Aa) (An (Ao (Ah (wm Aa (An (cz g0 Aa (λhK g5=>?_) (λhK g6=>?_)))))))))))
   ·refine Al (wa Aa (wv (r:=rS ([93]:Am)) (AC Aa) (Bd (wm Aa (wv (AG Aa) (vF BK Aa BZ (vL 0 CN Aa (wv (Gk (ys:=x16) (enc:=Ac) (i:=1) Br Aa Aa) (wa Aa (Bd (wm Aa (wm Aa (wv (AG Aa) (vF BK Aa BZ (vL 0 CN Aa (wm Aa (wv (r:=Bw [Ai 5,Ai 0,rS ([]:Am),Ai 0]) (EJ Aa Aa) (AN (ys:=([(Ab.mk 5 0 ([]:Am) 0)]:List Ab)) (enc:=Ac) (css:=[[Ai 5,Ai 0,rS ([]:Am),Ai 0]]) (xs:=[.tmp 34]) Br Bx DU Aa Aa Aa ⟨Dx.agg ⟨Up.refl _,Up.refl _,Up.refl _,Up.refl _,trivial⟩,trivial⟩ Aa AO Aa Aa Aa (λgd=>?_)))))))))))))))))));refine ck g5 λg7 g8=>Exists.elim Ef λinf hinf=>B6 (xs:=x16) (ys:=([(Ab.mk 5 0 ([]:Am) 0)]:List Ab)) (enc:=Ac) (i:=2) Br hinf.1 hinf.2.1 hinf.2.2.1 hinf.2.2.2 Aa Aa Aa Aa Aa (I7.w (i:=0) Aa Aa) AO BG g7 Aa (λv37=>?_);refine wv (AG Aa) (vF BK Aa BZ (B5 (i:=2) BZ Aa Aa (Dt (i:=0) Aa) Aa Aa (cs':=[rS hk,Ai hl,rv v37,rB hm]) Aa (H':=[.row v37 54 4 (A1 Ac (x16++([(Ab.mk 5 0 ([]:Am) 0)]:List Ab))),.row (.slice (some ⟨gd,0,none⟩) 1 1) 54 4 (A1 Ac ([(Ab.mk 5 0 ([]:Am) 0)]:List Ab)),.blk hb [rS hk,Ai hl,rv v37,rB hm] 106]) Aa (An (Ao (Ah (wm Aa (wm Aa (ob g8 λhx g9 gA=>Gc (Hr:=[.row (.slice (some ⟨gd,0,none⟩) 1 1) 54 4 (A1 Ac ([(Ab.mk 5 0 ([]:Am) 0)]:List Ab))]) Im (Er hb v37 (A3.mk hk hl (x16++([(Ab.mk 5 0 ([]:Am) 0)]:List Ab)) hm) ([93]:Am) hx g9) Aa ((A6 (i:=2) Aa).trans (AcQ _ (AcK _))) Aa ?_))))))));rintro _ _ ⟨ge,rfl,rfl⟩;refine An (cz gA Aa (λgB gC=>?_) (λgB gD=>?_))
    ·refine Ah (wa Aa (An (Ar (Ae ?_))));obtain rfl:=Ap gC;exact Aq (B2 Qe (A5 Aa)) (sC (sC (sS sN))) ⟨ge,Aa,Aa⟩
    ·refine As (A9 (Ah (wv (r:=rS ([]:Am)) (AC Aa) (Bd (wa Aa (An (AA (ob gD λgE gF hL=>Bk (S:=Nat×(Int×Am×Int×(List Ab)×Bool)×(Value)) (V:=(Unit)×(Unit)) 0 (λσ=>BS (λσ=>Gu hi x16 σ.1 σ.2.1 σ.2.2.1 σ.2.2.2.1 σ.2.2.2.2) σ.1 σ.2.1=some gE) (λσ=>[(0,rP hb 0),(2,rB false),(3,rB r1.1),(5,rS ([93]:Am)),(6,Ai (x16.length:Int)),(7,rS ([]:Am)),(8,Ai σ.2.1.1)]) (λσ=>[.blk hb [rS σ.2.1.2.1,Ai σ.2.1.2.2.1,rv σ.2.2,rB σ.2.1.2.2.2.2] 106,.row σ.2.2 54 4 (A1 Ac σ.2.1.2.2.2.1)]) (λσ=>σ.1) (F,(1,hx.2.fS,hx.2.fAt,hx.2.fCells,hx.2.fGreat),ge) gF (A4.c Aa (A4.c Aa (A4.c5 Aa Aa Aa Aa Aa A4.nil))) (sC (sC (sS sN))) (λσ=>Ir =some r) (λσ=>[]) (λσ=>[]) ?_ ?_))))))))
     ·rintro⟨xf,⟨hy,hN,hO,hP,hQ⟩,hR⟩ gG;refine BC (l':=[(0,rP hb 0),(2,rB false),(3,rB r1.1),(5,rS ([93]:Am)),(6,Ai (x16.length:Int)),(7,rS ([]:Am)),(8,Ai hy)]) (H':=[.blk hb [rS hN,Ai hO,rv hR,rB hQ] 106,.row hR 54 4 (A1 Ac hP)]) Aa Aa ?_;obtain⟨gH,rfl,gI,hA,hB⟩:=Ce gG;replace hA:Gu hi x16 hy hN hO hP hQ=some gI:=hA;unfold Gu at hA;refine Ao (AA (Ao (Ah (wm Aa (wv (B7 Aa) (An (Jp Aa (AbM hK) (As (A9 (Ao (Ah (wm Aa (ob hA λhe gJ gK=>Gc (Hr:=[]) Tryz.call89 (gb hb hR (A3.mk hN hO hP hQ) he gJ) Aa (AcK _) Aa ?_)))))))))))));rintro _ _ ⟨ht,rfl,rfl⟩;refine wv (B7 Aa) (An (cz gK Aa (λgL gM=>?_) (λgL gN=>?_)))
      ·refine Ah (wa Aa (An (Ar (Ae (Au (Ae (Ae (AU ?_))))))));have gO:=Bm gM hB hL;refine Au ?_;obtain rfl:=Ap gO;exact Aq (B2 Qe (A5 Aa)) (sC (sC sN)) ⟨ht,Aa,Aa⟩
      ·refine As (A9 (Ah (wm Aa (wv (AG Aa) (vF BK Aa BZ (vL 0 CN Aa (wm Aa (wm Aa (ck gN λhS gP=>wv (r:=rv (HE 4 ht (B8 (x16.length:Int)) 0)) (LU (i:=1) Br Bx Aa Aa Aa (C0 hS)) (wv (r:=rv (HE 4 ht (B8 (x16.length:Int)) 3)) (GU (k:=1) Bp Aa BL Aa (C0 hS) Aa Aa Aa) (KD (enc:=Ac) (ys:=he.2.fCells) (y':=(Ab.mk ((At he.2.fCells (x16.length:Int)).fKind) ((At he.2.fCells (x16.length:Int)).fInt) ((At he.2.fCells (x16.length:Int)).fStr) hy)) (i:=1) (j:=(x16.length:Int)) BL Aa Aa (BU Aa) Aa hS Aa Aa (H':=[.blk hb [rS he.2.fS,Ai he.2.fAt,rv ht,rB he.2.fGreat] 106,.row ht 54 4 (A1 Ac (List.set he.2.fCells (B8 (x16.length:Int)) (Ab.mk ((At he.2.fCells (x16.length:Int)).fKind) ((At he.2.fCells (x16.length:Int)).fInt) ((At he.2.fCells (x16.length:Int)).fStr) hy)))]) Aa (bd gP λgQ gR gS=>?_))))))))))));rw[← gR];refine An (Ao (Ah (wm Aa (wm Aa (ob gS λgf gT gU=>Gc (Hr:=[]) Im (Er hb ht (A3.mk he.2.fS he.2.fAt gQ he.2.fGreat) ([93]:Am) gf gT) Aa (AcK _) Aa ?_)))));rintro _ _ ⟨gg,rfl,rfl⟩;refine An (cz gU Aa (λc167 gV=>?_) (λc167 gW=>?_))
       ·refine Ah (wa Aa (An (Ar (Ae (Au (Ae (Ae (AU ?_))))))));have gX:=Bm gV hB hL;refine Au ?_;obtain rfl:=Ap gX;exact Aq (B2 Qe (A5 Aa)) (sC (sC sN)) ⟨gg,Aa,Aa⟩
       ·refine As (A9 (Ah (wm Aa (ob gW λhz gY gZ=>Gc (Hr:=[]) Im (Er hb gg gf.2 ([44]:Am) hz gY) Aa (AcK _) Aa ?_))));rintro _ _ ⟨gh,rfl,rfl⟩;refine wv (B7 Aa) (An (cz gZ Aa (λc175 ca=>?_) (λc175 cb=>?_)))
        ·refine Ah (wa Aa (An (Ar (Au (Ae (Ae (AU ?_)))))));have cc:=Bm ca hB hL;refine Au ?_;obtain rfl:=Ap cc;exact Aq (B2 Qe (A5 Aa)) (sC (sC sN)) ⟨gh,Aa,Aa⟩
        ·refine As (A7 (A9 (Al (wm Aa (ck cb λcd ce=>wv (Bh Aa Aa cd) (wa Aa (Ak ?_)))))));have cf:=AY ce hB;exact Ax (Av (gH,(hy+1,hz.2.fS,hz.2.fAt,hz.2.fCells,hz.2.fGreat),gh) ⟨cf,AcR _⟩ (A4.c Aa (A4.c Aa (A4.c5 Aa Aa Aa Aa Aa A4.nil))) (sC (sC sN)))
     ·rintro⟨⟨⟩,⟨⟩⟩ cg
      cases cg
   ·refine As (A9 (Ah (wm Aa (wv (AG Aa) (vF BK Aa BZ (vL 0 CN Aa (wv (Gk (ys:=x16) (enc:=Ac) (i:=1) Br Aa Aa) (wa Aa (Bd (wm Aa (wm Aa (wv (AG Aa) (vF BK Aa BZ (vL 0 CN Aa (wm Aa (wv (r:=Bw [Ai 6,Ai 0,rS ([]:Am),Ai 0]) (EJ Aa Aa) (AN (ys:=([(Ab.mk 6 0 ([]:Am) 0)]:List Ab)) (enc:=Ac) (css:=[[Ai 6,Ai 0,rS ([]:Am),Ai 0]]) (xs:=[.tmp 34]) Br Bx DU Aa Aa Aa ⟨Dx.agg ⟨Up.refl _,Up.refl _,Up.refl _,Up.refl _,trivial⟩,trivial⟩ Aa AO Aa Aa Aa (λgi=>?_))))))))))))))))));refine ck g6 λch ci=>Exists.elim Ef λinf hinf=>B6 (xs:=x16) (ys:=([(Ab.mk 6 0 ([]:Am) 0)]:List Ab)) (enc:=Ac) (i:=2) Br hinf.1 hinf.2.1 hinf.2.2.1 hinf.2.2.2 Aa Aa Aa Aa Aa (I7.w (i:=0) Aa Aa) AO BG ch Aa (λhC=>?_);refine wv (AG Aa) (vF BK Aa BZ (B5 (i:=2) BZ Aa Aa (Dt (i:=0) Aa) Aa Aa (cs':=[rS hk,Ai hl,rv hC,rB hm]) Aa (H':=[.row hC 54 4 (A1 Ac (x16++([(Ab.mk 6 0 ([]:Am) 0)]:List Ab))),.row (.slice (some ⟨gi,0,none⟩) 1 1) 54 4 (A1 Ac ([(Ab.mk 6 0 ([]:Am) 0)]:List Ab)),.blk hb [rS hk,Ai hl,rv hC,rB hm] 106]) Aa (An (Ao (Ah (wm Aa (wm Aa (ob ci λh0 cj cl=>Gc (Hr:=[.row (.slice (some ⟨gi,0,none⟩) 1 1) 54 4 (A1 Ac ([(Ab.mk 6 0 ([]:Am) 0)]:List Ab))]) Im (Er hb hC (A3.mk hk hl (x16++([(Ab.mk 6 0 ([]:Am) 0)]:List Ab)) hm) ([125]:Am) h0 cj) Aa ((A6 (i:=2) Aa).trans (AcQ _ (AcK _))) Aa ?_))))))));rintro _ _ ⟨gj,rfl,rfl⟩;refine An (cz cl Aa (λcm cn=>?_) (λcm co=>?_))
    ·refine Ah (wa Aa (An (Ar (Ae ?_))));obtain rfl:=Ap cn;exact Aq (B2 Qe (A5 Aa)) (sC (sC (sS sN))) ⟨gj,Aa,Aa⟩
    ·refine As (A9 (Ah (wv (r:=rS ([]:Am)) (AC Aa) (Bd (wa Aa (An (AA (ob co λcp cq hD=>Bk (S:=Nat×(Am×Int×Am×Int×(List Ab)×Bool)×(Value)) (V:=(Unit)×(Unit)) 0 (λσ=>BS (λσ=>Gt F hi x16 σ.1 σ.2.1 σ.2.2.1 σ.2.2.2.1 σ.2.2.2.2.1 σ.2.2.2.2.2) σ.1 σ.2.1=some cp) (λσ=>[(0,rP hb 0),(2,rB false),(3,rB r1.1),(5,rS ([125]:Am)),(6,Ai (x16.length:Int)),(7,rS σ.2.1.1),(8,Ai σ.2.1.2.1)]) (λσ=>[.blk hb [rS σ.2.1.2.2.1,Ai σ.2.1.2.2.2.1,rv σ.2.2,rB σ.2.1.2.2.2.2.2] 106,.row σ.2.2 54 4 (A1 Ac σ.2.1.2.2.2.2.1)]) (λσ=>σ.1) (F,(([]:Am),1,h0.2.fS,h0.2.fAt,h0.2.fCells,h0.2.fGreat),gj) cq (A4.c Aa (A4.c Aa (A4.c5 Aa Aa Aa Aa Aa A4.nil))) (sC (sC (sS sN))) (λσ=>Iq =some r) (λσ=>[]) (λσ=>[]) ?_ ?_))))))))
     ·rintro⟨xg,⟨hh,hn,hT,hU,hV,hW⟩,hX⟩ cr;refine BC (l':=[(0,rP hb 0),(2,rB false),(3,rB r1.1),(5,rS ([125]:Am)),(6,Ai (x16.length:Int)),(7,rS hh),(8,Ai hn)]) (H':=[.blk hb [rS hT,Ai hU,rv hX,rB hW] 106,.row hX 54 4 (A1 Ac hV)]) Aa Aa ?_;obtain⟨cs,rfl,hY,hE,h1⟩:=Ce cr;replace hE:Gt F hi x16 hh hn hT hU hV hW=some hY:=hE;unfold Gt at hE;refine Ao (AA (Ao (Ah (wm Aa (wv (B7 Aa) (An (EQ Aa (AbN hK) (Ah (wm Aa (ob hE λha ct cu=>Gc (Hr:=[]) Tryz.call119 (U9 F hb hX (A3.mk hT hU hV hW) ha ct) Aa (AcK _) Aa ?_))))))))));rintro _ _ ⟨hG,rfl,rfl⟩;refine wm Aa (wv (A0 Aa Aa) (wv (A0 Aa Aa) (wa Aa (wa Aa (An (Ao (Cw (S:=(Bool×Bool×Bool×Am×Int×(List Ab)×Bool)×(Value)) (λσ=>CL hi x16 hn ha σ.1.1 σ.1.2.1 σ.1.2.2.1 σ.1.2.2.2.1 σ.1.2.2.2.2.1 σ.1.2.2.2.2.2.1 σ.1.2.2.2.2.2.2=some hY) (λσ=>[(0,rP hb 0),(2,rB false),(3,rB r1.1),(5,rS ([125]:Am)),(6,Ai (x16.length:Int)),(7,rS hh),(8,Ai hn),(9,rS ha.1),(10,rB ha.2.1),(44,rB r1.1),(45,rB (!r1.1)),(46,CY [rS ha.1,rB ha.2.1]),(47,rP hb 0),(48,CY [rS ha.1,rB ha.2.1]),(49,rS ha.1),(50,rB ha.2.1),(51,rB ha.2.1),(52,rB (!ha.2.1)),(53,rB (!ha.2.1)),(61,rB σ.1.1),(62,rB σ.1.2.1),(66,rB σ.1.2.2.1)]) (λσ=>[.blk hb [rS σ.1.2.2.2.1,Ai σ.1.2.2.2.2.1,rv σ.2,rB σ.1.2.2.2.2.2.2] 106,.row σ.2 54 4 (A1 Ac σ.1.2.2.2.2.2.1)]) ?_ ?_)))))))
      ·refine Al (wm Aa (wv (B7 Aa) (wm Aa (bz cu (λhg cv=>?_) (λhg cw=>?_)))))
       ·exact wf hg (wf hg (wf hg (wu (wu (wu (wf hg (wv (r:=rB true) (Aw Aa hg Aa) (wm Aa (wz Aa Aa (wz Aa Aa (wz Aa Aa (wv (r:=rB true) (Aw (b:=true) Aa Aa Aa) (Ak (Ax (Av ((true,true,true,ha.2.2.fS,ha.2.2.fAt,ha.2.2.fCells,ha.2.2.fGreat),hG) cv (A4.c Aa (A4.c Aa (A4.c5 Aa Aa Aa Aa Aa (A4.c5 Aa Aa Aa Aa Aa (A4.c5 Aa Aa Aa Aa Aa (A4.c5 Aa Aa Aa Aa Aa A4.nil)))))) (sC (sC sN)))))))))))))))))
       ·refine wo hg (wm Aa (wo hg (wv (CD Aa Aa) (wo hg (wm Aa (bz cw (λho cx=>?_) (λho cy=>?_)))))))
        ·refine wo ho (wm Aa (wo ho (wm Aa (wo ho (wv (UQ Aa Aa) (wo hg (C3 Aa ho Aa (Cs Aa hg Aa (wm Aa (bz cx (λhp c0=>?_) (λhp c1=>?_)))))))))))
         ·exact wf hp (wf hp (wf hp (wv (r:=rB true) (Aw Aa hp Aa) (Ak (Ax (Av ((DI ha.1 hh||decide (ha.1=hh),DI ha.1 hh||decide (ha.1=hh),true,ha.2.2.fS,ha.2.2.fAt,ha.2.2.fCells,ha.2.2.fGreat),hG) c0 (A4.c Aa (A4.c Aa (A4.c5 Aa Aa Aa Aa Aa (A4.c5 Aa Aa Aa Aa Aa (A4.c5 Aa Aa Aa Aa Aa (A4.c5 Aa Aa Aa Aa Aa A4.nil)))))) (sC (sC sN))))))))
         ·refine wo hp (wm Aa (wo hp (ob c1 λhu c2 c3=>Gc (Hr:=[]) Im (Er hb hG ha.2.2 ([58]:Am) hu c2) Aa (AcK _) Aa ?_)));rintro _ _ ⟨c4,rfl,rfl⟩;exact wo hp (wv (B7 Aa) (Cs Aa hp Aa (Ak (Ax (Av ((DI ha.1 hh||decide (ha.1=hh),DI ha.1 hh||decide (ha.1=hh),!hu.1,hu.2.fS,hu.2.fAt,hu.2.fCells,hu.2.fGreat),c4) c3 (A4.c Aa (A4.c Aa (A4.c5 Aa Aa Aa Aa Aa (A4.c5 Aa Aa Aa Aa Aa (A4.c5 Aa Aa Aa Aa Aa (A4.c5 Aa Aa Aa Aa Aa A4.nil)))))) (sC (sC sN)))))))
        ·refine wf ho (wf ho (wf ho (wo hg (wv (r:=rB false) (Az Aa ho Aa) (Cs Aa hg Aa (wm Aa (Ba (b:=false) Aa Aa Aa (wm Aa (Ba (b:=false) Aa Aa Aa (ob cy λhq c6 c7=>Gc (Hr:=[]) Im (Er hb hG ha.2.2 ([58]:Am) hq c6) Aa (AcK _) Aa ?_))))))))));rintro _ _ ⟨c8,rfl,rfl⟩;exact Ba (b:=false) Aa Aa Aa (wv (B7 Aa) (wv (r:=rB (!hq.1)) (Az (b:=false) Aa Aa Aa) (Ak (Ax (Av ((false,false,!hq.1,hq.2.fS,hq.2.fAt,hq.2.fCells,hq.2.fGreat),c8) c7 (A4.c Aa (A4.c Aa (A4.c5 Aa Aa Aa Aa Aa (A4.c5 Aa Aa Aa Aa Aa (A4.c5 Aa Aa Aa Aa Aa (A4.c5 Aa Aa Aa Aa Aa A4.nil)))))) (sC (sC sN)))))))
      ·rintro⟨⟨gl,gm,gp,h3,h4,h5,h6⟩,hZ⟩ hH;refine BC (l':=[(0,rP hb 0),(2,rB false),(3,rB r1.1),(5,rS ([125]:Am)),(6,Ai (x16.length:Int)),(7,rS hh),(8,Ai hn),(9,rS ha.1),(10,rB ha.2.1),(44,rB r1.1),(45,rB (!r1.1)),(46,CY [rS ha.1,rB ha.2.1]),(47,rP hb 0),(48,CY [rS ha.1,rB ha.2.1]),(49,rS ha.1),(50,rB ha.2.1),(51,rB ha.2.1),(52,rB (!ha.2.1)),(53,rB (!ha.2.1)),(61,rB gl),(62,rB gm),(66,rB gp)]) (H':=[.blk hb [rS h3,Ai h4,rv hZ,rB h6] 106,.row hZ 54 4 (A1 Ac h5)]) Aa Aa ?_;replace hH:CL hi x16 hn ha gl gm gp h3 h4 h5 h6=some hY:=hH;unfold CL at hH;refine cz hH Aa (λc9 cA=>?_) (λc9 cB=>?_)
       ·refine Ah (wa Aa (An (Ar (Ae (Ae (Au (Ae (Ae (AU ?_)))))))));have cC:=Bm cA h1 hD;refine Au ?_;obtain rfl:=Ap cC;exact Aq (B2 Qe (A5 Aa)) (sC (sC sN)) ⟨hZ,Aa,Aa⟩
       ·refine As (A9 (Ah (wm Aa (wa Aa (An (Al (wm Aa (wm Aa (wv (AG Aa) (vF BK Aa BZ (vL 0 CN Aa (wm Aa (wv (r:=Bw [Ai 4,Ai 0,rS ha.1,Ai 0]) (Dc Aa Aa Aa Aa) (AN (ys:=([(Ab.mk 4 0 ha.1 0)]:List Ab)) (enc:=Ac) (css:=[[Ai 4,Ai 0,rS ha.1,Ai 0]]) (xs:=[.tmp 74]) Br Bx DU Aa Aa Aa ⟨Dx.agg ⟨Up.refl _,Up.refl _,Up.refl _,Up.refl _,trivial⟩,trivial⟩ Aa AO Aa Aa Aa (λh7=>?_)))))))))))))));refine ck cB λcD cE=>Exists.elim Ef λinf hinf=>B6 (xs:=h5) (ys:=([(Ab.mk 4 0 ha.1 0)]:List Ab)) (enc:=Ac) (i:=2) Br hinf.1 hinf.2.1 hinf.2.2.1 hinf.2.2.2 Aa Aa Aa Aa Aa (I7.w (i:=0) Aa Aa) AO BG cD Aa (λhI=>?_);refine wv (AG Aa) (vF BK Aa BZ (B5 (i:=2) BZ Aa Aa (Dt (i:=0) Aa) Aa Aa (cs':=[rS h3,Ai h4,rv hI,rB h6]) Aa (H':=[.row hI 54 4 (A1 Ac (h5++([(Ab.mk 4 0 ha.1 0)]:List Ab))),.row (.slice (some ⟨h7,0,none⟩) 1 1) 54 4 (A1 Ac ([(Ab.mk 4 0 ha.1 0)]:List Ab)),.blk hb [rS h3,Ai h4,rv hI,rB h6] 106]) Aa (An (Ao (Ah (wm Aa (ob cE λhf cF cG=>Gc (Hr:=[.row (.slice (some ⟨h7,0,none⟩) 1 1) 54 4 (A1 Ac ([(Ab.mk 4 0 ha.1 0)]:List Ab))]) Tryz.call89 (gb hb hI (A3.mk h3 h4 (h5++([(Ab.mk 4 0 ha.1 0)]:List Ab)) h6) hf cF) Aa ((A6 (i:=2) Aa).trans (AcQ _ (AcK _))) Aa ?_)))))));rintro _ _ ⟨hw,rfl,rfl⟩;refine wv (B7 Aa) (An (cz cG Aa (λcH cI=>?_) (λcH cJ=>?_)))
        ·refine Ah (wa Aa (An (Ar (Ae (Au (Ae (Ae (AU ?_))))))));have cK:=Bm cI h1 hD;refine Au ?_;obtain rfl:=Ap cK;exact Aq (B2 Qe (A5 Aa)) (sC (sC (sS sN))) ⟨hw,Aa,Aa⟩
        ·refine As (A9 (Ah (wm Aa (wv (AG Aa) (vF BK Aa BZ (vL 0 CN Aa (wm Aa (wm Aa (ck cJ λga cL=>wv (r:=rv (HE 4 hw (B8 (x16.length:Int)) 0)) (LU (i:=1) Br Bx Aa Aa Aa (C0 ga)) (wv (r:=rv (HE 4 hw (B8 (x16.length:Int)) 3)) (GU (k:=1) Bp Aa BL Aa (C0 ga) Aa Aa Aa) (KD (enc:=Ac) (ys:=hf.2.fCells) (y':=(Ab.mk ((At hf.2.fCells (x16.length:Int)).fKind) ((At hf.2.fCells (x16.length:Int)).fInt) ((At hf.2.fCells (x16.length:Int)).fStr) hn)) (i:=1) (j:=(x16.length:Int)) BL Aa Aa (BU Aa) Aa ga Aa Aa (H':=[.blk hb [rS hf.2.fS,Ai hf.2.fAt,rv hw,rB hf.2.fGreat] 106,.row hw 54 4 (A1 Ac (List.set hf.2.fCells (B8 (x16.length:Int)) (Ab.mk ((At hf.2.fCells (x16.length:Int)).fKind) ((At hf.2.fCells (x16.length:Int)).fInt) ((At hf.2.fCells (x16.length:Int)).fStr) hn))),.row (.slice (some ⟨h7,0,none⟩) 1 1) 54 4 (A1 Ac ([(Ab.mk 4 0 ha.1 0)]:List Ab))]) Aa (bd cL λcM cN cO=>?_))))))))))));rw[← cN];refine An (Ao (Ah (wm Aa (wm Aa (ob cO λgq cP cQ=>Gc (Hr:=[.row (.slice (some ⟨h7,0,none⟩) 1 1) 54 4 (A1 Ac ([(Ab.mk 4 0 ha.1 0)]:List Ab))]) Im (Er hb hw (A3.mk hf.2.fS hf.2.fAt cM hf.2.fGreat) ([125]:Am) gq cP) Aa (AcK _) Aa ?_)))));rintro _ _ ⟨gr,rfl,rfl⟩;refine An (cz cQ Aa (λcR cS=>?_) (λcR cT=>?_))
         ·refine Ah (wa Aa (An (Ar (Ae (Au (Ae (Ae (AU ?_))))))));have cU:=Bm cS h1 hD;refine Au ?_;obtain rfl:=Ap cU;exact Aq (B2 Qe (A5 Aa)) (sC (sC (sS sN))) ⟨gr,Aa,Aa⟩
         ·refine As (A9 (Ah (wm Aa (ob cT λh8 cV cW=>Gc (Hr:=[.row (.slice (some ⟨h7,0,none⟩) 1 1) 54 4 (A1 Ac ([(Ab.mk 4 0 ha.1 0)]:List Ab))]) Im (Er hb gr gq.2 ([44]:Am) h8 cV) Aa (AcK _) Aa ?_))));rintro _ _ ⟨gs,rfl,rfl⟩;refine wv (B7 Aa) (An (cz cW Aa (λcX cY=>?_) (λcX cZ=>?_)))
          ·refine Ah (wa Aa (An (Ar (Au (Ae (Ae (AU ?_)))))));have xa:=Bm cY h1 hD;refine Au ?_;obtain rfl:=Ap xa;exact Aq (B2 Qe (A5 Aa)) (sC (sC (sS sN))) ⟨gs,Aa,Aa⟩
          ·refine As (A7 (A9 (Al (wm Aa (ck cZ λxb xc=>wv (Bh Aa Aa xb) (wa Aa (Ak ?_)))))));have xd:=AY xc h1;exact Ax (Av (cs,(ha.1,hn+1,h8.2.fS,h8.2.fAt,h8.2.fCells,h8.2.fGreat),gs) ⟨xd,AcR _⟩ (A4.c Aa (A4.c Aa (A4.c5 Aa Aa Aa Aa Aa A4.nil))) (sC (sC (sS sN))))
     ·rintro⟨⟨⟩,⟨⟩⟩ xe
      cases xe
theorem Oc:∀F:Nat,(∀(ha:Nat) (hb:Value) (q:A3) (r:Bool×A3),CQ F q=some r→Fn Tryz.prog GE 89 [rP ha 0] [.blk ha [rS q.fS,Ai q.fAt,rv hb,rB q.fGreat] 106,.row hb 54 4 (A1 Ac q.fCells)] (λR H=>∃w0_2:Value,R=rB r.1∧H=[.blk ha [rS r.2.fS,Ai r.2.fAt,rv w0_2,rB r.2.fGreat] 106,.row w0_2 54 4 (A1 Ac r.2.fCells)]))
  | 0=>(λ_ _ _ _ h=>by simp[CQ] at h)
  | nn+1=>(λha hb q r h=>T7 nn (CQ nn) (Oc nn) ha hb q r (by rw[CQ] at h;exact h))
theorem V0 (F:Nat)(ha:Nat)(hb:Value)(q:A3)(r:Bool×A3)(h:CQ F q=some r):Fn Tryz.prog GE 89 [rP ha 0] [.blk ha [rS q.fS,Ai q.fAt,rv hb,rB q.fGreat] 106,.row hb 54 4 (A1 Ac q.fCells)] (λR H=>∃w0_2:Value,R=rB r.1∧H=[.blk ha [rS r.2.fS,Ai r.2.fAt,rv w0_2,rB r.2.fGreat] 106,.row w0_2 54 4 (A1 Ac r.2.fCells)]):=(Oc F) ha hb q r h
theorem V5 (F:Nat)(s:Am)(r:(List Ab)×Int)(h:Mw F s=some r):Fn Tryz.prog GE 55 [rS s] [] (λR H=>R=CY [AB 4 (A1 Ac r.1),Ai r.2]∧H=[]):=by
 refine enter (n:=34) Tryz.func55 Aa Tryz.ntmps55 Aa (λw Z=>?_);unfold Mw at h;refine Ah (wa Aa (wa Aa (An (Ao (Ah (wm Aa (wv (BJ Di Aa) (wv (CD Aa Aa) (An (cz h Aa (λc1 h2=>?_) (λc1 h3=>?_)))))))))))
 ·refine Ah (wa Aa (wa Aa (An (Ar (Ae (WK.up (d:=2) (r:=AB 4 (A1 Ac ([]:List Ab))) Aa (Up.le (DH.nil _)) ?_))))));obtain rfl:=Ap h2;exact Aq (CM YX (A5 Aa) (A5 Aa)) sN ⟨Aa,Aa⟩
 ·refine As (A9 (Ah (wm Aa (wv (r:=Bw [rS s,Ai 0,rv (.slice none 0 0),rB false]) (Rw Aa Aa) (BF Aa Aa (λb4=>?_))))));refine wa Aa (An (Ao (Cw (S:=(Bool×Am×Int×(List Ab)×Bool)×(Value)) (λσ=>Hm F σ.1.1 σ.1.2.1 σ.1.2.2.1 σ.1.2.2.2.1 σ.1.2.2.2.2=some r) (λσ=>[(2,rv (.slice none 0 0)),(3,Ai 0),(4,rP b4 0),(22,rB σ.1.1)]) (λσ=>[.blk b4 [rS σ.1.2.1,Ai σ.1.2.2.1,rv σ.2,rB σ.1.2.2.2.2] 106,.row σ.2 54 4 (A1 Ac σ.1.2.2.2.1)]) ?_ ?_)))
  ·refine Al (wm Aa (WL.nilrow (e:=54) (sz:=4) (ob h3 λhb hl hm=>Gc (Hr:=[]) Tryz.call89 (V0 F b4 (.slice none 0 0                                                      ) (A3.mk s 0 ([]:List Ab) false) hb hl) Aa ((A6 (i:=1) Aa).trans (AcQ _ (AcK _))) Aa ?_)));rintro _ _ ⟨v21,rfl,rfl⟩;refine wv (B7 Aa) (wm Aa (bz hm (λha hn=>?_) (λha ho=>?_)))
   ·exact wf ha (wf ha (wf ha (wf ha (wf ha (wf ha (wf ha (wv (r:=rB true) (Aw Aa ha Aa) (Ak (Ax (Av ((true,hb.2.fS,hb.2.fAt,hb.2.fCells,hb.2.fGreat),v21) hn (A4.c Aa (A4.c Aa (A4.c Aa (A4.c Aa A4.nil)))) (sC (sC sN))))))))))))
   ·exact wo ha (wm Aa (wo ha (wv (AG Aa) (wo ha (vF BK Aa BL (wo ha (vL 0 Cc Aa (wo ha (wm Aa (wo ha (wv (BJ Di Aa) (wo ha (wv (Bs Aa Aa) (Cs Aa ha Aa (Ak (Ax (Av ((!decide (hb.2.fAt=(s.length:Int)),hb.2.fS,hb.2.fAt,hb.2.fCells,hb.2.fGreat),v21) ho (A4.c Aa (A4.c Aa (A4.c Aa (A4.c Aa A4.nil)))) (sC (sC sN)))))))))))))))))))
  ·rintro⟨⟨hg,hh,hi,he,hj⟩,hk⟩ hf;refine BC (l':=[(2,rv (.slice none 0 0)),(3,Ai 0),(4,rP b4 0),(22,rB hg)]) (H':=[.blk b4 [rS hh,Ai hi,rv hk,rB hj] 106,.row hk 54 4 (A1 Ac he)]) Aa Aa ?_;replace hf:Hm F hg hh hi he hj=some r:=hf;unfold Hm at hf;refine cz hf Aa (λhp hq=>?_) (λhp hr=>?_)
   ·refine Ah (wa Aa (wa Aa (An (Ar (Ae (WK.up (d:=2) (r:=AB 4 (A1 Ac ([]:List Ab))) Aa (Up.le (DH.nil _)) ?_))))));obtain rfl:=Ap hq;exact Aq (CM YX (A5 Aa) (A5 Aa)) (sS (sS sN)) ⟨Aa,Aa⟩
   ·refine As (A9 (Ao (Ah (wm Aa (wv (AG Aa) (vF BK Aa JP (vL 0 W1 Aa (An (cz hr Aa (λhs ht=>?_) (λhs hu=>?_))))))))))
    ·refine Ah (wa Aa (wa Aa (An (Ar (Ae (WK.up (d:=2) (r:=AB 4 (A1 Ac ([]:List Ab))) Aa (Up.le (DH.nil _)) ?_))))));obtain rfl:=Ap ht;exact Aq (CM YX (A5 Aa) (A5 Aa)) (sS (sS sN)) ⟨Aa,Aa⟩
    ·refine As (A9 (Ah (wm Aa (wv (AG Aa) (vF BK Aa BZ (vL 0 CN Aa (WL.freeze (i:=1) Aa (WL.up (d:=30) (r:=AB 4 (A1 Ac he)) Aa (Up.fact (i:=0) Aa) (ob hu λhw hx hy=>BI Tryz.call71 (JX F he hw hx) Aa (wv (A0 Aa Aa) (wv (A0 Aa Aa) (wa Aa (wa Aa (An (Ar ?_)))))))))))))));obtain rfl:=Ap hy;exact Aq (CM YX (A5 Aa) (A5 Aa)) (sS (sS sN)) ⟨Aa,Aa⟩
end Go.Proofs.YtghdglcmblpbeaaGreatDoor.Q
namespace Go.Proofs.YtghdglcmblpbeaaGreatDoor
open Go
set_option linter.unusedVariables false
def Ka (a:(List Ab))(b:(List Ab))(ha:Int):Option (Stp (Int) (Out (Bool) (Unit))):=
 AT (decide (ha<(a.length:Int))) (AS (Co ha (a.length:Int))<|AS (Co ha (b.length:Int))<|AT (!(decide (((At a ha).fKind)=((At b ha).fKind))&&decide (((At a ha).fInt)=((At b ha).fInt))&&decide (((At a ha).fStr)=((At b ha).fStr))&&decide (((At a ha).fN)=((At b ha).fN)))) (some (.out (.ret false))) (AS (Bu .i64 (ha+1))<|some (.next (ha+1)))) (some (.out (.go ())))
def JZ :Option (Bool):=
 some true
def Rg (F:Nat)(a:(List Ab))(b:(List Ab)):Option (Bool):=
 AT (!decide ((a.length:Int)=(b.length:Int))) (some false) (Bi (BS (λσ=>Ka a b σ) F 0) (BP λν=>JZ ))
def WT (F:Nat)(a:(List Ab))(b:(List Ab)):Option (Bool):=
 Bi (Rg F a b) λr1=>some r1
def J0 (a:(List Ab))(b:(List Ab))(ha:Int):Option (Stp (Int) (Out (Bool) (Unit))):=
 AT (decide (ha<(a.length:Int))) (AS (Co ha (a.length:Int))<|AS (Co ha (b.length:Int))<|AT (!(decide (((At a ha).fKind)=((At b ha).fKind))&&decide (((At a ha).fInt)=((At b ha).fInt))&&decide (((At a ha).fStr)=((At b ha).fStr))&&decide (((At a ha).fN)=((At b ha).fN)))) (some (.out (.ret false))) (AS (Bu .i64 (ha+1))<|some (.next (ha+1)))) (some (.out (.go ())))
def S2 :Option (Bool):=
 some true
def Xq (F:Nat)(a:(List Ab))(b:(List Ab)):Option (Bool):=
 AT (!decide ((a.length:Int)=(b.length:Int))) (some false) (Bi (BS (λσ=>J0 a b σ) F 0) (BP λν=>S2 ))
end Go.Proofs.YtghdglcmblpbeaaGreatDoor
namespace Go.Proofs.YtghdglcmblpbeaaGreatDoor.Q
open Go Go.RowKit
set_option linter.unusedVariables false
set_option linter.unusedSimpArgs false
set_option maxRecDepth 100000
set_option maxHeartbeats 4000000
theorem YP {a0 b0:Int}{a1 b1:Int}{a2 b2:Am}{a3 b3:Int}(w:World):(Op.equalIn 10000 54 (.agg #[.int .i64 a0,.int .i64 a1,.string (B a2),.int .i64 a3]) (.agg #[.int .i64 b0,.int .i64 b1,.string (B b2),.int .i64 b3])).run Tryz.prog w = .ok (decide (a0=b0)&&decide (a1=b1)&&decide (a2=b2)&&decide (a3=b3)) w:=by
  have hS:Tryz.prog.underlying 54=some (.struct (Tryz.prog.fieldsOf 54)):=by kernel_rfl
  have hp:Tryz.prog.stoodInHeld 54=false:=by kernel_rfl
  have u3:=yu3;have ia3:=Cc;have so3:=BL;have u9:=Di;have ia9:=Dm;have so9:=CX;have ha:=Tryz.underlying52;have hb:=CP;have he:=CC;rw[show(10000:Nat)=9999+1 from rfl,run_equalIn_agg w 9999 54 _ _ hS hp];simp only[Program.fieldsOf,Bp]
  go_simp
  simp only[Hb]
  by_cases h0:a0=b0<;>by_cases h1:a1=b1<;>by_cases h2:a2=b2<;>by_cases h3:a3=b3<;>simp[h0,h1,h2,h3]
theorem Oi {n:Nat}{c:Cx}{l:Fr}{H:List Ent}{d:Option Nat}{ty rty:TypeId}{pos:String}{af:Array Edge}{g:Option (Nat×Bool)}{x y:Operand}{a0 b0:Int}{a1 b1:Int}{a2 b2:Am}{a3 b3:Int}(hx:ev l x=some (Bw [Ai a0,Ai a1,rS a2,Ai a3]))(hy:ev l y=some (Bw [Ai b0,Ai b1,rS b2,Ai b3])):B9 Tryz.prog n c l H { dst:=d,op:=.binOp .neq 54 x y rty,type:=ty,pos:=pos,after:=af,guard:=g } (rB (!(decide (a0=b0)&&decide (a1=b1)&&decide (a2=b2)&&decide (a3=b3)))):=λa w Z ha hw=>by
  obtain⟨us,e1,q1⟩:=ha.ev hx;obtain⟨vs,e2,q2⟩:=ha.ev hy;have k1:=By.eq_rv (us:=[.int .i64 a0,.int .i64 a1,.string (B a2),.int .i64 a3]) q1;have k2:=By.eq_rv (us:=[.int .i64 b0,.int .i64 b1,.string (B b2),.int .i64 b3]) q2;subst k1;subst k2;have hm:Tryz.prog.eqGuardType Tryz.prog.depth 54=false:=by kernel_rfl
  have hb:=YP (a0:=a0) (a1:=a1) (a2:=a2) (a3:=a3) (b0:=b0) (b1:=b1) (b2:=b2) (b3:=b3) w;refine⟨.bool (!(decide (a0=b0)&&decide (a1=b1)&&decide (a2=b2)&&decide (a3=b3))),rfl,?_⟩;have hg:=run_eqGuard_agg (P:=Tryz.prog) w .neq 54 x y #[.int .i64 a0,.int .i64 a1,.string (B a2),.int .i64 a3] #[.int .i64 b0,.int .i64 b1,.string (B b2),.int .i64 b3] hm;simp only[execOp,e1,e2,Sem.run_bind,hg,Result.andThen_ok,run_neq_struct,hb,Sem.run_pure]
theorem V9 (F:Nat)(a:(List Ab))(b:(List Ab))(r:Bool)(h:Rg F a b=some r):Fn Tryz.prog GE 142 [AB 4 (A1 Ac a),AB 4 (A1 Ac b)] [] (λR H=>R=rB r∧H=[]):=by
 refine enter (n:=26) Tryz.func142 Aa Tryz.ntmps142 Aa (λw Z=>?_);unfold Rg at h;refine Ah (wa Aa (An (Ao (Ah (wm Aa (wv (AW (ys:=a) (enc:=Ac) Br Aa) (wm Aa (wv (AW (ys:=b) (enc:=Ac) Br Aa) (wv (Bs Aa Aa) (An (cz h Aa (λc1 h2=>?_) (λc1 h3=>?_))))))))))))
 ·refine Ah (wa Aa (An (Ar (Ae ?_))));obtain rfl:=Ap h2;exact Aq (B2 Tryz.results142 (A5 Aa)) sN ⟨Aa,Aa⟩
 ·refine As (A9 (Ao (Ah (wm Aa (wv (AW (ys:=a) (enc:=Ac) Br Aa) (wv (r:=Ai 0) (A8 Aa) (An (AA (ob h3 λhh hi hg=>Bk (S:=Nat×(Int)×(Unit)) (V:=(Unit)×(Unit)) 0 (λσ=>BS (λσ=>Ka a b σ) σ.1 σ.2.1=some hh) (λσ=>[(0,AB 4 (A1 Ac a)),(1,AB 4 (A1 Ac b)),(12,Ai (a.length:Int)),(13,Ai σ.2.1)]) (λσ=>[]) (λσ=>σ.1) (F,0,()) hi (A4.c Aa (A4.c Aa (A4.c Aa (A4.c Aa A4.nil)))) sN (λσ=>JZ =some r) (λσ=>[]) (λσ=>[]) ?_ ?_)))))))))
  ·rintro⟨h4,ha,⟨⟩⟩ hj;refine BC (l':=[(0,AB 4 (A1 Ac a)),(1,AB 4 (A1 Ac b)),(12,Ai (a.length:Int)),(13,Ai ha)]) (H':=[]) Aa Aa ?_;obtain⟨hk,rfl,hl,hb,hf⟩:=Ce hj;replace hb:Ka a b ha=some hl:=hb;unfold Ka at hb;refine Ah (wv (Cn Aa Aa) (An (Ao (cz hb Aa (λhm hn=>?_) (λhm ho=>?_)))))
   ·refine As (A9 (Ao (AA (Ah (wm Aa (wa Aa (An (Ao (ck hn λhp hq=>ck hq λhr hs=>D5 [0,1,5,12,13] [⟨[],AB 4 (A1 Ac a),0⟩,⟨[],Ai ha,0⟩,⟨[0,1],Jc (Ac (At a ha)),0⟩,⟨[2],Bw (Ac (At a ha)),0⟩,⟨[],AB 4 (A1 Ac b),0⟩,⟨[],Ai ha,0⟩,⟨[4,5],Jc (Ac (At b ha)),0⟩,⟨[6],Bw (Ac (At b ha)),0⟩,⟨[3,7],rB (!(decide (((At a ha).fKind)=((At b ha).fKind))&&decide (((At a ha).fInt)=((At b ha).fInt))&&decide (((At a ha).fStr)=((At b ha).fStr))&&decide (((At a ha).fN)=((At b ha).fN)))),0⟩] [16,17,18,19,20,21,22,23,24,0,1,12,13] ?_ ?_)))))))))
    ·refine oq (A8 Aa) (oq (A8 Aa) (oq (AX (enc:=Ac) (ys:=a) Br Bx Aa Aa hp) (oq (DM LA Bx Aa Aa Aa) (oq (A8 Aa) (oq (A8 Aa) (oq (AX (enc:=Ac) (ys:=b) Br Bx Aa Aa hr) (oq (DM LA Bx Aa Aa Aa) (oq (Oi Aa Aa) ?_))))))));exact C7
    refine A9 (cz hs Aa (λht hu=>?_) (λht hw=>?_))
    ·refine Ah (wa Aa (An (Ar (Au (Ae (Ae (AU ?_)))))));have hx:=Bm hu hf hg;refine Au (Ae ?_);obtain rfl:=Ap hx;exact Aq (B2 Tryz.results142 (A5 Aa)) sN ⟨Aa,Aa⟩
    ·refine As (A7 (A9 (Al (ck hw λhy hz=>wv (Bh Aa Aa hy) (wm Aa (Ak ?_))))));have h0:=AY hz hf;exact Ax (Av (hk,ha+1,()) ⟨h0,AcR _⟩ (A4.c Aa (A4.c Aa (A4.c Aa (A4.c Aa A4.nil)))) sN)
   ·refine Bt (Ay ?_);have h1:=BD ho hf hg;exact Ay (Bb (Av ((),()) h1 A4.nil sN))
  ·rintro⟨⟨⟩,⟨⟩⟩ he;refine Ci (l':=[]) (H':=[]) Aa Aa ?_;replace he:JZ =some r:=he;unfold JZ at he;refine Bf (A9 (Ah (wa Aa (An (Ar ?_)))));obtain rfl:=Ap he;exact Aq (B2 Tryz.results142 (A5 Aa)) sN ⟨Aa,Aa⟩
theorem Ze (F:Nat)(a:(List Ab))(b:(List Ab))(r:Bool)(h:WT F a b=some r):Fn Tryz.prog GE 110 [AB 4 (A1 Ac a),AB 4 (A1 Ac b)] [] (λR H=>R=rB r∧H=[]):=by
 refine enter (n:=8) Tryz.func110 Aa Tryz.ntmps110 Aa (λw Z=>?_);unfold WT at h;refine Ah (wa Aa (Bd (wm Aa (wm Aa (ob h λr1 e3 h2=>BI Tryz.call142 (V9 F a b r1 e3) Aa (wa Aa (An (Ar ?_))))))));obtain rfl:=Ap h2;exact Aq (B2 Tryz.results110 (A5 Aa)) sN ⟨Aa,Aa⟩
end Go.Proofs.YtghdglcmblpbeaaGreatDoor.Q
namespace Go.Proofs.YtghdglcmblpbeaaGreatDoor
open Go
set_option linter.unusedVariables false
def Ix (F:Nat)(v:(List Ab)):Option ((List Ab)×Int):=
 Bi (KI F v) λr1=>AT (!decide (r1=0)) (some (([]:List Ab),r1)) (some (v,0))
def S5 :Option ((List Ab)):=
 some ([(Ab.mk 1 0 ([]:Am) 0)]:List Ab)
def Og (b:Bool):Option ((List Ab)):=
 AT (b) (some ([(Ab.mk 2 1 ([]:Am) 0)]:List Ab)) (some ([(Ab.mk 2 0 ([]:Am) 0)]:List Ab))
def TI (F:Nat)(s:Am):Option ((List Ab)×Int):=
 Bi (Ix F ([(Ab.mk 4 0 s 0)]:List Ab)) λr2=>some (r2.1,r2.2)
def Bz (s:Am)(at_:Int)(word:Am):Option (Bool):=
 AS (Bu .i64 (at_+(word.length:Int)))<|AS (imp (decide ((at_+(word.length:Int))≤(s.length:Int))) (GM at_ (at_+(word.length:Int))))<|AS (imp (decide ((at_+(word.length:Int))≤(s.length:Int))) (GM (at_+(word.length:Int)) (s.length:Int)))<|some ((decide ((at_+(word.length:Int))≤(s.length:Int)))&&(decide ((List.take (Int.toNat (at_+(word.length:Int))-Int.toNat at_) (List.drop (Int.toNat at_) s))=word)))
def CS (s:Am)(hb:Am)(ha:Int):Option (Stp (Am×Int) (Out (Am×Int) (Am×Int))):=
 AS (imp (decide (ha<(s.length:Int))) (Co ha (s.length:Int)))<|AT (((decide (ha<(s.length:Int)))&&(!decide ((BA s ha)=34)))) (AS (Co ha (s.length:Int))<|AT (decide ((BA s ha)=92)) (AS (Bu .i64 (ha+1))<|AS (imp (!(decide ((s.length:Int)≤(ha+1)))) (Co (ha+1) (s.length:Int)))<|AT (((decide ((s.length:Int)≤(ha+1)))||((!decide ((BA s (ha+1))=34))&&(!decide ((BA s (ha+1))=92))))) (some (.out (.ret (([]:Am),(-1))))) (AS (Bu .i64 ((ha+1)+1))<|AS (GM (ha+1) ((ha+1)+1))<|AS (GM ((ha+1)+1) (s.length:Int))<|AS (Bu .i64 ((hb.length:Int)+((List.take (Int.toNat ((ha+1)+1)-Int.toNat (ha+1)) (List.drop (Int.toNat (ha+1)) s)).length:Int)))<|some (.next (hb++(List.take (Int.toNat ((ha+1)+1)-Int.toNat (ha+1)) (List.drop (Int.toNat (ha+1)) s)),(ha+1)+1)))) (AS (Bu .i64 (ha+1))<|AS (GM ha (ha+1))<|AS (GM (ha+1) (s.length:Int))<|AS (Bu .i64 ((hb.length:Int)+((List.take (Int.toNat (ha+1)-Int.toNat ha) (List.drop (Int.toNat ha) s)).length:Int)))<|some (.next (hb++(List.take (Int.toNat (ha+1)-Int.toNat ha) (List.drop (Int.toNat ha) s)),ha+1)))) (some (.out (.go (hb,ha))))
def Df (s:Am)(hb:Am)(ha:Int):Option (Am×Int):=
 AT (decide ((s.length:Int)≤ha)) (some (([]:Am),(-1))) (AS (Bu .i64 (ha+1))<|some (hb,ha+1))
def Dz (F:Nat)(s:Am)(at_:Int):Option (Am×Int):=
 AS (imp (!(decide ((s.length:Int)≤at_))) (Co at_ (s.length:Int)))<|AT (((decide ((s.length:Int)≤at_))||(!decide ((BA s at_)=34)))) (some (([]:Am),(-1))) (AS (Bu .i64 (at_+1))<|Bi (BS (λσ=>CS s σ.1 σ.2) F (([]:Am),at_+1)) (BP λν=>Df s ν.1 ν.2))
def G6 (s:Am)(at_:Int)(ha:Int)(hb:Int):Option (Stp (Int×Int) (Out ((List Ab)×Int) (Int×Int))):=
 AS (imp (decide (ha<(s.length:Int))) (Co ha (s.length:Int)))<|AT (((decide (ha<(s.length:Int)))&&((decide (48≤(BA s ha)))&&(decide ((BA s ha)≤57))))) (AS (Bu .i64 (ha-(at_+1)))<|AT (decide ((ha-(at_+1))<18)) (AS (Bu .i64 (10*hb))<|AS (Co ha (s.length:Int))<|AS (Bu .u8 ((BA s ha)-48))<|AS (Bu .i64 ((BA s ha)-48))<|AS (Bu .i64 ((10*hb)+((BA s ha)-48)))<|AS (Bu .i64 (ha+1))<|some (.next (ha+1,(10*hb)+((BA s ha)-48)))) (AS (Bu .i64 (ha+1))<|some (.next (ha+1,hb)))) (some (.out (.go (ha,hb))))
def G4 (s:Am)(at_:Int)(ha:Int)(hb:Int):Option ((List Ab)×Int):=
 AS (imp (!(decide (ha=(at_+1)))) (Co (at_+1) (s.length:Int)))<|AS (imp (!(decide (ha=(at_+1)))) (imp (decide ((BA s (at_+1))=48)) (Bu .i64 ((at_+1)+1))))<|AT (((decide (ha=(at_+1)))||((decide ((BA s (at_+1))=48))&&((decide (((at_+1)+1)<ha))||(decide (at_<(at_+1))))))) (some (([]:List Ab),(-1))) (AS (Bu .i64 (ha-(at_+1)))<|AT (decide (18<(ha-(at_+1)))) (AT (decide (at_<(at_+1))) (AS (Bu .i64 (-2000000000000))<|some (([(Ab.mk 3 (-2000000000000) ([]:Am) 0)]:List Ab),ha)) (some (([(Ab.mk 3 2000000000000 ([]:Am) 0)]:List Ab),ha))) (AT (decide (at_<(at_+1))) (AS (Bu .i64 (-hb))<|some (([(Ab.mk 3 (-hb) ([]:Am) 0)]:List Ab),ha)) (some (([(Ab.mk 3 hb ([]:Am) 0)]:List Ab),ha))))
def G5 (s:Am)(at_:Int)(ha:Int)(hb:Int):Option (Stp (Int×Int) (Out ((List Ab)×Int) (Int×Int))):=
 AS (imp (decide (ha<(s.length:Int))) (Co ha (s.length:Int)))<|AT (((decide (ha<(s.length:Int)))&&((decide (48≤(BA s ha)))&&(decide ((BA s ha)≤57))))) (AS (Bu .i64 (ha-at_))<|AT (decide ((ha-at_)<18)) (AS (Bu .i64 (10*hb))<|AS (Co ha (s.length:Int))<|AS (Bu .u8 ((BA s ha)-48))<|AS (Bu .i64 ((BA s ha)-48))<|AS (Bu .i64 ((10*hb)+((BA s ha)-48)))<|AS (Bu .i64 (ha+1))<|some (.next (ha+1,(10*hb)+((BA s ha)-48)))) (AS (Bu .i64 (ha+1))<|some (.next (ha+1,hb)))) (some (.out (.go (ha,hb))))
def G3 (s:Am)(at_:Int)(ha:Int)(hb:Int):Option ((List Ab)×Int):=
 AS (imp (!(decide (ha=at_))) (imp (decide ((BA s at_)=48)) (Bu .i64 (at_+1))))<|AT (((decide (ha=at_))||((decide ((BA s at_)=48))&&((decide ((at_+1)<ha))||(decide (at_<at_)))))) (some (([]:List Ab),(-1))) (AS (Bu .i64 (ha-at_))<|AT (decide (18<(ha-at_))) (AT (decide (at_<at_)) (AS (Bu .i64 (-2000000000000))<|some (([(Ab.mk 3 (-2000000000000) ([]:Am) 0)]:List Ab),ha)) (some (([(Ab.mk 3 2000000000000 ([]:Am) 0)]:List Ab),ha))) (AT (decide (at_<at_)) (AS (Bu .i64 (-hb))<|some (([(Ab.mk 3 (-hb) ([]:Am) 0)]:List Ab),ha)) (some (([(Ab.mk 3 hb ([]:Am) 0)]:List Ab),ha))))
def J1 (F:Nat)(s:Am)(at_:Int):Option ((List Ab)×Int):=
 AS (Co at_ (s.length:Int))<|AT (decide ((BA s at_)=45)) (AS (Bu .i64 (at_+1))<|Bi (BS (λσ=>G6 s at_ σ.1 σ.2) F (at_+1,0)) (BP λν=>G4 s at_ ν.1 ν.2)) (Bi (BS (λσ=>G5 s at_ σ.1 σ.2) F (at_,0)) (BP λν=>G3 s at_ ν.1 ν.2))
def Rl (F:Nat)(hf:Am→Int→Option ((List Ab)×Int))(s:Am)(at_:Int):Option ((List Ab)×Int):=
 AT (decide ((s.length:Int)≤at_)) (some (([]:List Ab),(-1))) (Bi (Bz s at_ ([110,117,108,108]:Am)) λr4=>AT (r4) (Bi (S5) λr9=>AS (Bu .i64 (at_+4))<|some (r9,at_+4)) (Bi (Bz s at_ ([116,114,117,101]:Am)) λhg=>AT (hg) (Bi (Og true) λhh=>AS (Bu .i64 (at_+4))<|some (hh,at_+4)) (Bi (Bz s at_ ([102,97,108,115,101]:Am)) λhi=>AT (hi) (Bi (Og false) λhj=>AS (Bu .i64 (at_+5))<|some (hj,at_+5)) (AS (Co at_ (s.length:Int))<|AT (decide ((BA s at_)=34)) (Bi (Dz F s at_) λha=>some (([(Ab.mk 4 0 ha.1 0)]:List Ab),ha.2)) (AT (((decide ((BA s at_)=91))||(decide ((BA s at_)=123)))) (Bi (hf s at_) λhb=>some (hb.1,hb.2)) (Bi (J1 F s at_) λhe=>some (he.1,he.2)))))))
def HS (F:Nat)(s:Am)(hi:Am→Int→Option ((List Ab)×Int))(hh:(List Ab))(hb:Int)(ha:Ab):Option (Stp ((List Ab)×Int×Ab) (Out ((List Ab)×Int) ((List Ab)×Int×Ab))):=
 AS ((Bz s hb ([125]:Am)).isSome)<|AS (imp (!(!(ov (Bz s hb ([125]:Am))))) (imp (decide (0<ha.fN)) (Bu .i64 (hb-1))))<|AS (imp (!(!(ov (Bz s hb ([125]:Am))))) (imp (decide (0<ha.fN)) (Co (hb-1) (s.length:Int))))<|AT (((!(ov (Bz s hb ([125]:Am))))||((decide (0<ha.fN))&&(decide ((BA s (hb-1))=44))))) (AT (decide (ha.fKind=6)) (Bi (Dz F s hb) λhe=>AS (imp (!(decide (he.2<0))) ((Bz s he.2 ([58]:Am)).isSome))<|AT (((decide (he.2<0))||(!(ov (Bz s he.2 ([58]:Am)))))) (some (.out (.ret (([]:List Ab),(-1))))) (AS (DN 40 (hh.length+([(Ab.mk 4 0 he.1 0)]:List Ab).length))<|AS (Bu .i64 (he.2+1))<|Bi (hi s (he.2+1)) λhf=>AT (decide (hf.2<0)) (some (.out (.ret (([]:List Ab),(-1))))) (AS (DN 40 ((hh++([(Ab.mk 4 0 he.1 0)]:List Ab)).length+hf.1.length))<|AS (Bu .i64 (ha.fN+1))<|Bi (Bz s hf.2 ([44]:Am)) λhj=>AT (hj) (AS (Bu .i64 (hf.2+1))<|some (.next ((hh++([(Ab.mk 4 0 he.1 0)]:List Ab))++hf.1,hf.2+1,(Ab.mk ha.fKind ha.fInt ha.fStr (ha.fN+1))))) (Bi (Bz s hf.2 ([125]:Am)) λhk=>AT (!hk) (some (.out (.ret (([]:List Ab),(-1))))) (some (.next ((hh++([(Ab.mk 4 0 he.1 0)]:List Ab))++hf.1,hf.2,(Ab.mk ha.fKind ha.fInt ha.fStr (ha.fN+1))))))))) (Bi (hi s hb) λhg=>AT (decide (hg.2<0)) (some (.out (.ret (([]:List Ab),(-1))))) (AS (DN 40 (hh.length+hg.1.length))<|AS (Bu .i64 (ha.fN+1))<|Bi (Bz s hg.2 ([44]:Am)) λhl=>AT (hl) (AS (Bu .i64 (hg.2+1))<|some (.next (hh++hg.1,hg.2+1,(Ab.mk ha.fKind ha.fInt ha.fStr (ha.fN+1))))) (Bi (Bz s hg.2 ([125]:Am)) λhm=>AT (!hm) (some (.out (.ret (([]:List Ab),(-1))))) (some (.next (hh++hg.1,hg.2,(Ab.mk ha.fKind ha.fInt ha.fStr (ha.fN+1))))))))) (some (.out (.go (hh,hb,ha))))
def HQ (ha:(List Ab))(hb:Int)(he:Ab):Option ((List Ab)×Int):=
 AS (DN 40 (([he]:List Ab).length+ha.length))<|AS (Bu .i64 (hb+1))<|some (([he]:List Ab)++ha,hb+1)
def HR (F:Nat)(s:Am)(hi:Am→Int→Option ((List Ab)×Int))(hh:(List Ab))(hb:Int)(ha:Ab):Option (Stp ((List Ab)×Int×Ab) (Out ((List Ab)×Int) ((List Ab)×Int×Ab))):=
 AS ((Bz s hb ([93]:Am)).isSome)<|AS (imp (!(!(ov (Bz s hb ([93]:Am))))) (imp (decide (0<ha.fN)) (Bu .i64 (hb-1))))<|AS (imp (!(!(ov (Bz s hb ([93]:Am))))) (imp (decide (0<ha.fN)) (Co (hb-1) (s.length:Int))))<|AT (((!(ov (Bz s hb ([93]:Am))))||((decide (0<ha.fN))&&(decide ((BA s (hb-1))=44))))) (AT (decide (ha.fKind=6)) (Bi (Dz F s hb) λhe=>AS (imp (!(decide (he.2<0))) ((Bz s he.2 ([58]:Am)).isSome))<|AT (((decide (he.2<0))||(!(ov (Bz s he.2 ([58]:Am)))))) (some (.out (.ret (([]:List Ab),(-1))))) (AS (DN 40 (hh.length+([(Ab.mk 4 0 he.1 0)]:List Ab).length))<|AS (Bu .i64 (he.2+1))<|Bi (hi s (he.2+1)) λhf=>AT (decide (hf.2<0)) (some (.out (.ret (([]:List Ab),(-1))))) (AS (DN 40 ((hh++([(Ab.mk 4 0 he.1 0)]:List Ab)).length+hf.1.length))<|AS (Bu .i64 (ha.fN+1))<|Bi (Bz s hf.2 ([44]:Am)) λhj=>AT (hj) (AS (Bu .i64 (hf.2+1))<|some (.next ((hh++([(Ab.mk 4 0 he.1 0)]:List Ab))++hf.1,hf.2+1,(Ab.mk ha.fKind ha.fInt ha.fStr (ha.fN+1))))) (Bi (Bz s hf.2 ([93]:Am)) λhk=>AT (!hk) (some (.out (.ret (([]:List Ab),(-1))))) (some (.next ((hh++([(Ab.mk 4 0 he.1 0)]:List Ab))++hf.1,hf.2,(Ab.mk ha.fKind ha.fInt ha.fStr (ha.fN+1))))))))) (Bi (hi s hb) λhg=>AT (decide (hg.2<0)) (some (.out (.ret (([]:List Ab),(-1))))) (AS (DN 40 (hh.length+hg.1.length))<|AS (Bu .i64 (ha.fN+1))<|Bi (Bz s hg.2 ([44]:Am)) λhl=>AT (hl) (AS (Bu .i64 (hg.2+1))<|some (.next (hh++hg.1,hg.2+1,(Ab.mk ha.fKind ha.fInt ha.fStr (ha.fN+1))))) (Bi (Bz s hg.2 ([93]:Am)) λhm=>AT (!hm) (some (.out (.ret (([]:List Ab),(-1))))) (some (.next (hh++hg.1,hg.2,(Ab.mk ha.fKind ha.fInt ha.fStr (ha.fN+1))))))))) (some (.out (.go (hh,hb,ha))))
def HP (ha:(List Ab))(hb:Int)(he:Ab):Option ((List Ab)×Int):=
 AS (DN 40 (([he]:List Ab).length+ha.length))<|AS (Bu .i64 (hb+1))<|some (([he]:List Ab)++ha,hb+1)
def Kb (F:Nat)(ha:Am→Int→Option ((List Ab)×Int))(s:Am)(at_:Int):Option ((List Ab)×Int):=
 AS (Co at_ (s.length:Int))<|AT (decide ((BA s at_)=123)) (AS (Bu .i64 (at_+1))<|Bi (BS (λσ=>HS F s ha σ.1 σ.2.1 σ.2.2) F (([]:List Ab),at_+1,(Ab.mk 6 0 ([]:Am) 0))) (BP λν=>HQ ν.1 ν.2.1 ν.2.2)) (AS (Bu .i64 (at_+1))<|Bi (BS (λσ=>HR F s ha σ.1 σ.2.1 σ.2.2) F (([]:List Ab),at_+1,(Ab.mk 5 0 ([]:Am) 0))) (BP λν=>HP ν.1 ν.2.1 ν.2.2))
mutual
def HJ:Nat→Am→Int→Option ((List Ab)×Int)
 | 0,_,_=>none
 | nn+1,s,at_=>Rl nn (DW nn) s at_
def DW:Nat→Am→Int→Option ((List Ab)×Int)
 | 0,_,_=>none
 | nn+1,s,at_=>Kb nn (HJ nn) s at_
end
def M7 (F:Nat)(s:Am):Option ((List Ab)×Int):=
 AT (decide (4000<(s.length:Int))) (some (([]:List Ab),3)) (Bi (HJ F s 0) λr4=>AT (!decide (r4.2=(s.length:Int))) (some (([]:List Ab),1)) (Bi (Ix F r4.1) λha=>some (ha.1,ha.2)))
end Go.Proofs.YtghdglcmblpbeaaGreatDoor
namespace Go.Proofs.YtghdglcmblpbeaaGreatDoor.Q
open Go Go.RowKit
set_option linter.unusedVariables false
set_option linter.unusedSimpArgs false
set_option maxRecDepth 100000
set_option maxHeartbeats 4000000
theorem Pq (F:Nat)(v:(List Ab))(r:(List Ab)×Int)(h:Ix F v=some r):Fn Tryz.prog GE 73 [AB 4 (A1 Ac v)] [] (λR H=>R=CY [AB 4 (A1 Ac r.1),Ai r.2]∧H=[]):=by
 refine enter (n:=11) Tryz.func73 Aa Tryz.ntmps73 Aa (λw Z=>?_);unfold Ix at h;refine Ah (wa Aa (wa Aa (Bd (wm Aa (ob h λr1 e3 h2=>BI Tryz.call34 (M8 F v r1 e3) Aa (wa Aa (An (Ao (Ah (wm Aa (wv (Bs Aa Aa) (An (cz h2 Aa (λc4 h5=>?_) (λc4 h6=>?_))))))))))))))
 ·refine Ah (wm Aa (wa Aa (wa Aa (An (Ar (Ae (WK.up (d:=2) (r:=AB 4 (A1 Ac ([]:List Ab))) Aa (Up.le (DH.nil _)) ?_)))))));obtain rfl:=Ap h5;exact Aq (CM Tryz.results73 (A5 Aa) (A5 Aa)) sN ⟨Aa,Aa⟩
 ·refine As (A9 (Ah (wm Aa (wa Aa (wa Aa (An (Ar ?_)))))));obtain rfl:=Ap h6;exact Aq (CM Tryz.results73 (A5 Aa) (A5 Aa)) sN ⟨Aa,Aa⟩
theorem Zr  (r:(List Ab))(h:S5=some r):Fn Tryz.prog GE 121 [] [] (λR H=>R=AB 4 (A1 Ac r)∧H=[]):=by
 refine enter (n:=3) Tryz.func121 Aa Tryz.ntmps121 Aa (λw Z=>?_);unfold S5 at h;refine Ah (wa Aa (Bd (wv (r:=Bw [Ai 1,Ai 0,rS ([]:Am),Ai 0]) (EJ Aa Aa) (AN (ys:=([(Ab.mk 1 0 ([]:Am) 0)]:List Ab)) (enc:=Ac) (css:=[[Ai 1,Ai 0,rS ([]:Am),Ai 0]]) (xs:=[.tmp 1]) Br Bx DU Aa Aa Aa ⟨Dx.agg ⟨Up.refl _,Up.refl _,Up.refl _,Up.refl _,trivial⟩,trivial⟩ Aa AO Aa Aa Aa (λb1=>?_)))));refine wa Aa (An (Ar (WK.freeze (i:=0) Aa (WK.up (d:=0) (r:=AB 4 (A1 Ac ([(Ab.mk 1 0 ([]:Am) 0)]:List Ab))) Aa (Up.fact (i:=0) Aa) ?_))));obtain rfl:=Ap h;exact Aq (B2 Tryz.results121 (A5 Aa)) (sS sN) ⟨Aa,Aa⟩
theorem UJ (b:Bool)(r:(List Ab))(h:Og b=some r):Fn Tryz.prog GE 122 [rB b] [] (λR H=>R=AB 4 (A1 Ac r)∧H=[]):=by
 refine enter (n:=8) Tryz.func122 Aa Tryz.ntmps122 Aa (λw Z=>?_);unfold Og at h;refine Ah (wa Aa (An (Ao (Ah (wm Aa (An (cz h Aa (λc1 h2=>?_) (λc1 h4=>?_))))))))
 ·refine Ah (wv (r:=Bw [Ai 2,Ai 1,rS ([]:Am),Ai 0]) (Cj Aa Aa Aa Aa) (AN (ys:=([(Ab.mk 2 1 ([]:Am) 0)]:List Ab)) (enc:=Ac) (css:=[[Ai 2,Ai 1,rS ([]:Am),Ai 0]]) (xs:=[.tmp 4]) Br Bx DU Aa Aa Aa ⟨Dx.agg ⟨Up.refl _,Up.refl _,Up.refl _,Up.refl _,trivial⟩,trivial⟩ Aa AO Aa Aa Aa (λb3=>?_)));refine wa Aa (An (Ar (Ae (WK.freeze (i:=0) Aa (WK.up (d:=2) (r:=AB 4 (A1 Ac ([(Ab.mk 2 1 ([]:Am) 0)]:List Ab))) Aa (Up.fact (i:=0) Aa) ?_)))));obtain rfl:=Ap h2;exact Aq (B2 Tryz.results122 (A5 Aa)) (sS sN) ⟨Aa,Aa⟩
 ·refine As (A9 (Ah (wv (r:=Bw [Ai 2,Ai 0,rS ([]:Am),Ai 0]) (EJ Aa Aa) (AN (ys:=([(Ab.mk 2 0 ([]:Am) 0)]:List Ab)) (enc:=Ac) (css:=[[Ai 2,Ai 0,rS ([]:Am),Ai 0]]) (xs:=[.tmp 6]) Br Bx DU Aa Aa Aa ⟨Dx.agg ⟨Up.refl _,Up.refl _,Up.refl _,Up.refl _,trivial⟩,trivial⟩ Aa AO Aa Aa Aa (λb5=>?_)))));refine wa Aa (An (Ar (WK.freeze (i:=0) Aa (WK.up (d:=2) (r:=AB 4 (A1 Ac ([(Ab.mk 2 0 ([]:Am) 0)]:List Ab))) Aa (Up.fact (i:=0) Aa) ?_))));obtain rfl:=Ap h4;exact Aq (B2 Tryz.results122 (A5 Aa)) (sS sN) ⟨Aa,Aa⟩
theorem TH (F:Nat)(s:Am)(r:(List Ab)×Int)(h:TI F s=some r):Fn Tryz.prog GE 33 [rS s] [] (λR H=>R=CY [AB 4 (A1 Ac r.1),Ai r.2]∧H=[]):=by
 refine enter (n:=10) Tryz.func33 Aa Tryz.ntmps33 Aa (λw Z=>?_);unfold TI at h;refine Ah (wa Aa (wa Aa (Bd (wm Aa (wv (r:=Bw [Ai 4,Ai 0,rS s,Ai 0]) (Dc Aa Aa Aa Aa) (AN (ys:=([(Ab.mk 4 0 s 0)]:List Ab)) (enc:=Ac) (css:=[[Ai 4,Ai 0,rS s,Ai 0]]) (xs:=[.tmp 5]) Br Bx DU Aa Aa Aa ⟨Dx.agg ⟨Up.refl _,Up.refl _,Up.refl _,Up.refl _,trivial⟩,trivial⟩ Aa AO Aa Aa Aa (λb1=>?_)))))));refine WL.freeze (i:=0) Aa (WL.up (d:=6) (r:=AB 4 (A1 Ac ([(Ab.mk 4 0 s 0)]:List Ab))) Aa (Up.fact (i:=0) Aa) (ob h λr2 e4 h3=>BI Tryz.call73 (Pq F ([(Ab.mk 4 0 s 0)]:List Ab) r2 e4) Aa (wv (A0 Aa Aa) (wv (A0 Aa Aa) (wa Aa (wa Aa (An (Ar ?_))))))));obtain rfl:=Ap h3;exact Aq (CM Tryz.results33 (A5 Aa) (A5 Aa)) (sS sN) ⟨Aa,Aa⟩
theorem CZ (s:Am)(at_:Int)(word:Am)(r:Bool)(h:Bz s at_ word=some r):Fn Tryz.prog GE 120 [rS s,Ai at_,rS word] [] (λR H=>R=rB r∧H=[]):=by
 refine enter (n:=25) Tryz.func120 Aa Tryz.ntmps120 Aa (λw Z=>?_);unfold Bz at h;refine Ah (wa Aa (An (ck h λg1 h2=>ck h2 λg3 h4=>ck h4 λg5 h6=>AE [(6,rB ((decide ((at_+(word.length:Int))≤(s.length:Int)))&&(decide ((List.take (B8 (at_+(word.length:Int))-B8 at_) (List.drop (B8 at_) s))=word))))] [] ?_ ?_)))
 ·refine Al (wm Aa (wm Aa (wv (BJ Di Aa) (wv (Bh Aa Aa g1) (wm Aa (wv (BJ Di Aa) (wv (LC Aa Aa) (wm Aa (AP (decide ((at_+(word.length:Int))≤(s.length:Int))) (λc7=>?_) (λc7=>?_))))))))))
  ·refine wo c7 (wm Aa (wo c7 (wm Aa (wo c7 (wm Aa (wo c7 (wm Aa (wo c7 (wv (BJ Di Aa) (wo c7 (wv (Bh Aa Aa g1) (wo c7 (wv (Gx Di Aa Aa Aa (Cr g3 c7) (Cr g5 c7)) (wo c7 (wm Aa (wo c7 (wv (EZ Aa Aa) (C3 Aa c7 Aa (wa Aa (Ak ?_))))))))))))))))))));exact BH c7
  ·refine wf c7 (wf c7 (wf c7 (wf c7 (wf c7 (wf c7 (wf c7 (wf c7 (wf c7 (wv (r:=rB false) (Az Aa c7 Aa) (wa Aa (Ak ?_)))))))))));exact BH c7
 refine Ar ?_;obtain rfl:=Ap h6;exact Aq (B2 Tryz.results120 (A5 Aa)) sN ⟨Aa,Aa⟩
theorem Jb (F:Nat)(s:Am)(at_:Int)(r:Am×Int)(h:Dz F s at_=some r):Fn Tryz.prog GE 123 [rS s,Ai at_] [] (λR H=>R=CY [rS r.1,Ai r.2]∧H=[]):=by
 refine enter (n:=68) Tryz.func123 Aa Tryz.ntmps123 Aa (λw Z=>?_);unfold Dz at h;refine Ah (wv (r:=rS ([]:Am)) (AC Aa) (wa Aa (An (Ao (ck h λg1 h2=>AE [(0,rS s),(1,Ai at_),(17,rB ((decide ((s.length:Int)≤at_))||(!decide ((BA s at_)=34))))] [] ?_ ?_)))))
 ·refine Al (wm Aa (wm Aa (wv (BJ Di Aa) (wv (GT Aa Aa) (wm Aa (AP (decide ((s.length:Int)≤at_)) (λc3=>?_) (λc3=>?_)))))))
  ·refine wf c3 (wf c3 (wf c3 (wf c3 (wv (r:=rB true) (Aw Aa c3 Aa) (Ak ?_)))));exact BH c3
  ·refine wo c3 (wm Aa (wo c3 (wm Aa (wo c3 (wv (Bo Di Aa Aa (BR g1 c3)) (wo c3 (wv (Bs Aa Aa) (Cs Aa c3 Aa (Ak ?_)))))))));exact BH c3
 refine cz h2 Aa (λc4 h5=>?_) (λc4 h6=>?_)
 ·refine Ah (wv (r:=rS ([]:Am)) (AC Aa) (wv (r:=Ai (-1)) (AC Aa) (An (Ar (Ae ?_)))));obtain rfl:=Ap h5;exact Aq (CM U6 (A5 Aa) (A5 Aa)) sN ⟨Aa,Aa⟩
 ·refine As (A9 (Ah (wv (r:=rS ([]:Am)) (AC Aa) (Bd (wm Aa (ck h6 λg7 h8=>wv (Bh Aa Aa g7) (wa Aa (An (Ao (AA (ob h8 λhr hs hk=>Bk (S:=Nat×(Am×Int)×(Unit)) (V:=(Am×Int)×(Unit)) 0 (λσ=>BS (λσ=>CS s σ.1 σ.2) σ.1 σ.2.1=some hr) (λσ=>[(0,rS s),(6,rS σ.2.1.1),(7,Ai σ.2.1.2)]) (λσ=>[]) (λσ=>σ.1) (F,(([]:Am),at_+1),()) hs (A4.c Aa (A4.c Aa (A4.c Aa A4.nil))) sN (λσ=>Df s σ.1.1 σ.1.2=some r) (λσ=>[(0,rS s),(6,rS σ.1.1),(7,Ai σ.1.2)]) (λσ=>[]) ?_ ?_)))))))))))
  ·rintro⟨gf,⟨hg,hb⟩,⟨⟩⟩ ht;refine BC (l':=[(0,rS s),(6,rS hg),(7,Ai hb)]) (H':=[]) Aa Aa ?_;obtain⟨hl,rfl,hu,hh,hi⟩:=Ce ht;replace hh:CS s hg hb=some hu:=hh;unfold CS at hh;refine Ao (ck hh λhw hx=>AE [(0,rS s),(6,rS hg),(7,Ai hb),(29,rB ((decide (hb<(s.length:Int)))&&(!decide ((BA s hb)=34))))] [] ?_ ?_)
   ·refine Al (wm Aa (wm Aa (wv (BJ Di Aa) (wv (Cn Aa Aa) (wm Aa (AP (decide (hb<(s.length:Int))) (λhe=>?_) (λhe=>?_)))))))
    ·refine wo he (wm Aa (wo he (wm Aa (wo he (wv (Bo Di Aa Aa (Cr hw he)) (wo he (wv (Bs Aa Aa) (C3 Aa he Aa (Ak ?_)))))))));exact BH he
    ·refine wf he (wf he (wf he (wf he (wv (r:=rB false) (Az Aa he Aa) (Ak ?_)))));exact BH he
   refine cz hx Aa (λhy hz=>?_) (λhy h0=>?_)
   ·refine As (A9 (AA (Ao (Ah (wm Aa (wm Aa (ck hz λh1 h3=>wv (Bo Di Aa Aa h1) (wv (Bj Aa Aa) (An (cz h3 Aa (λh4 h7=>?_) (λh4 h9=>?_)))))))))))
    ·refine Ah (wm Aa (ck h7 λhA hB=>wv (Bh Aa Aa hA) (wa Aa (An (ck hB λhm hC=>AE [(0,rS s),(6,rS hg),(7,Ai (hb+1)),(51,rB ((decide ((s.length:Int)≤(hb+1)))||((!decide ((BA s (hb+1))=34))&&(!decide ((BA s (hb+1))=92)))))] [] ?_ ?_)))))
     ·refine Al (wm Aa (wm Aa (wv (BJ Di Aa) (wv (GT Aa Aa) (wm Aa (AP (decide ((s.length:Int)≤(hb+1))) (λha=>?_) (λha=>?_)))))))
      ·refine wf ha (wf ha (wf ha (wf ha (wf ha (wu (wu (wu (wu (wf ha (wv (r:=rB true) (Aw Aa ha Aa) (Ak ?_)))))))))));exact BH ha
      ·refine wo ha (wm Aa (wo ha (wm Aa (wo ha (wv (Bo Di Aa Aa (BR hm ha)) (wo ha (wv (Bs Aa Aa) (wo ha (wm Aa (AP (!decide ((BA s (hb+1))=34)) (λhf=>?_) (λhf=>?_)))))))))))
       ·refine wo hf (wm Aa (wo hf (wm Aa (wo hf (wv (Bo Di Aa Aa (BR hm ha)) (wo hf (wv (Bs Aa Aa) (wo ha (C3 Aa hf Aa (Cs Aa ha Aa (Ak ?_)))))))))));exact BH (And.intro ha hf)
       ·refine wf hf (wf hf (wf hf (wf hf (wo ha (wv (r:=rB false) (Az Aa hf Aa) (Cs Aa ha Aa (Ak ?_)))))));exact BH (And.intro ha hf)
     refine cz hC Aa (λhD hE=>?_) (λhD hG=>?_)
     ·refine Ah (wv (r:=rS ([]:Am)) (AC Aa) (wv (r:=Ai (-1)) (AC Aa) (An (Ar (Ae (Au (Ae (AU ?_))))))));have hH:=Bm hE hi hk;refine Au (Ae ?_);obtain rfl:=Ap hH;exact Aq (CM U6 (A5 Aa) (A5 Aa)) sN ⟨Aa,Aa⟩
     ·refine As (A9 (Ah (wm Aa (wm Aa (wm Aa (wm Aa (ck hG λhn hI=>wv (Bh Aa Aa hn) (ck hI λhJ hK=>ck hK λhL hN=>wv (Gx Di Aa Aa Aa hJ hL) (ck hN λhO hP=>wv (Eb Aa Aa hO) (wa Aa (An (Al (wm Aa (wv (Bh Aa Aa hn) (wa Aa (Ak (A7 ?_)))))))))))))))));have hQ:=AY hP hi;exact Ax (Av (hl,(hg++(List.take (B8 ((hb+1)+1)-B8 (hb+1)) (List.drop (B8 (hb+1)) s)),(hb+1)+1),()) ⟨hQ,AcR _⟩ (A4.c Aa (A4.c Aa (A4.c Aa A4.nil))) sN)
    ·refine As (A9 (Ah (wm Aa (wm Aa (wm Aa (wm Aa (ck h9 λho hR=>wv (Bh Aa Aa ho) (ck hR λhS hT=>ck hT λhU hV=>wv (Gx Di Aa Aa Aa hS hU) (ck hV λhW hX=>wv (Eb Aa Aa hW) (wa Aa (An (Al (wm Aa (wv (Bh Aa Aa ho) (wa Aa (Ak (A7 ?_)))))))))))))))));have hY:=AY hX hi;exact Ax (Av (hl,(hg++(List.take (B8 (hb+1)-B8 hb) (List.drop (B8 hb) s)),hb+1),()) ⟨hY,AcR _⟩ (A4.c Aa (A4.c Aa (A4.c Aa A4.nil))) sN)
   ·refine Bt (Ay ?_);have hZ:=BD h0 hi hk;exact Ay (Bb (Av ((hg,hb),()) hZ (A4.c Aa (A4.c Aa (A4.c Aa A4.nil))) sN))
  ·rintro⟨⟨hp,hq⟩,⟨⟩⟩ hj;refine Ci (l':=[(0,rS s),(6,rS hp),(7,Ai hq)]) (H':=[]) Aa Aa ?_;replace hj:Df s hp hq=some r:=hj;unfold Df at hj;refine Bf (A9 (Ao (Ah (wm Aa (wm Aa (wv (BJ Di Aa) (wv (GT Aa Aa) (An (cz hj Aa (λga gb=>?_) (λga gc=>?_))))))))))
   ·refine Ah (wv (r:=rS ([]:Am)) (AC Aa) (wv (r:=Ai (-1)) (AC Aa) (An (Ar (Ae ?_)))));obtain rfl:=Ap gb;exact Aq (CM U6 (A5 Aa) (A5 Aa)) sN ⟨Aa,Aa⟩
   ·refine As (A9 (Ah (wm Aa (wm Aa (ck gc λgd ge=>wv (Bh Aa Aa gd) (wa Aa (wa Aa (An (Ar ?_)))))))));obtain rfl:=Ap ge;exact Aq (CM U6 (A5 Aa) (A5 Aa)) sN ⟨Aa,Aa⟩
theorem TJ (F:Nat)(s:Am)(at_:Int)(r:(List Ab)×Int)(h:J1 F s at_=some r):Fn Tryz.prog GE 125 [rS s,Ai at_] [] (λR H=>R=CY [AB 4 (A1 Ac r.1),Ai r.2]∧H=[]):=by
 refine enter (n:=80) Tryz.func125 Aa Tryz.ntmps125 Aa (λw Z=>?_);unfold J1 at h;refine Ah (wa Aa (wa Aa (Bd (wm Aa (wa Aa (An (Ao (Ah (wm Aa (wm Aa (ck h λg1 h2=>wv (Bo Di Aa Aa g1) (wv (Bj Aa Aa) (An (cz h2 Aa (λc3 h4=>?_) (λc3 h8=>?_)))))))))))))))
 ·refine Al (wm Aa (ck h4 λg5 h6=>wv (Bh Aa Aa g5) (wa Aa (Bd (wm Aa (wa Aa (Bd (wa Aa (An (Ao (AA (ob h6 λh9 hA hB=>Bk (S:=Nat×(Int×Int)×(Unit)) (V:=(Int×Int)×(Unit)) 0 (λσ=>BS (λσ=>G6 s at_ σ.1 σ.2) σ.1 σ.2.1=some h9) (λσ=>[(0,rS s),(1,Ai at_),(6,Ai σ.2.1.1),(7,Ai (at_+1)),(8,Ai σ.2.1.2)]) (λσ=>[]) (λσ=>σ.1) (F,(at_+1,0),()) hA (A4.c5 Aa Aa Aa Aa Aa A4.nil) sN (λσ=>G4 s at_ σ.1.1 σ.1.2=some r) (λσ=>[(0,rS s),(1,Ai at_),(6,Ai σ.1.1),(7,Ai (at_+1)),(8,Ai σ.1.2)]) (λσ=>[]) ?_ ?_))))))))))))
  ·rintro⟨cw,⟨hk,hs⟩,⟨⟩⟩ hC;refine BC (l':=[(0,rS s),(1,Ai at_),(6,Ai hk),(7,Ai (at_+1)),(8,Ai hs)]) (H':=[]) Aa Aa ?_;obtain⟨h1,rfl,t213,hu,hz⟩:=Ce hC;replace hu:G6 s at_ hk hs=some t213:=hu;unfold G6 at hu;refine Ao (ck hu λh3 hD=>AE [(0,rS s),(1,Ai at_),(6,Ai hk),(7,Ai (at_+1)),(8,Ai hs),(32,rB ((decide (hk<(s.length:Int)))&&((decide (48≤(BA s hk)))&&(decide ((BA s hk)≤57)))))] [] ?_ ?_)
   ·refine Al (wm Aa (wm Aa (wv (BJ Di Aa) (wv (Cn Aa Aa) (wm Aa (AP (decide (hk<(s.length:Int))) (λhg=>?_) (λhg=>?_)))))))
    ·refine wo hg (wm Aa (wo hg (wm Aa (wo hg (wv (Bo Di Aa Aa (Cr h3 hg)) (wo hg (wv (GT Aa Aa) (C3 Aa hg Aa (wm Aa (AP (decide (48≤(BA s hk))) (λhi=>?_) (λhi=>?_)))))))))))
     ·refine wo hi (wm Aa (wo hi (wm Aa (wo hi (wv (Bo Di Aa Aa (Cr h3 hg)) (wo hi (wv (LC Aa Aa) (C3 Aa hi Aa (Ak ?_)))))))));exact BH (And.intro hg hi)
     ·refine wf hi (wf hi (wf hi (wf hi (wv (r:=rB false) (Az Aa hi Aa) (Ak ?_)))));exact BH (And.intro hg hi)
    ·refine wf hg (wf hg (wf hg (wf hg (wv (r:=rB false) (Az Aa hg Aa) (wm Aa (wz Aa Aa (wz Aa Aa (wz Aa Aa (wz Aa Aa (wv (r:=rB false) (Az (b:=false) Aa Aa Aa) (Ak ?_)))))))))));exact BH hg
   refine cz hD Aa (λhE hG=>?_) (λhE hH=>?_)
   ·refine As (A9 (AA (Ao (Ah (wm Aa (wm Aa (ck hG λhI hJ=>wv (IK Aa Aa hI) (wv (Cn Aa Aa) (An (cz hJ Aa (λhK hL=>?_) (λhK hN=>?_)))))))))))
    ·refine Al (wm Aa (ck hL λhO hP=>wv (XD Aa Aa hO) (wm Aa (wm Aa (ck hP λhQ hR=>wv (Bo Di Aa Aa hQ) (ck hR λhS hT=>wv (IK Aa Aa hS) (ck hT λhU hV=>wv (LV ⟨_,yu5⟩ yu3 Aa hU) (ck hV λhW hX=>wv (Bh Aa Aa hW) (wa Aa (An (Al (wm Aa (ck hX λhY hZ=>wv (Bh Aa Aa hY) (wa Aa (Ak (A7 ?_))))))))))))))));have ga:=AY hZ hz;exact Ax (Av (h1,(hk+1,(10*hs)+((BA s hk)-48)),()) ⟨ga,AcR _⟩ (A4.c5 Aa Aa Aa Aa Aa A4.nil) sN)
    ·refine As (A9 (Al (wm Aa (ck hN λgb gc=>wv (Bh Aa Aa gb) (wa Aa (Ak (A7 ?_)))))));have gd:=AY gc hz;exact Ax (Av (h1,(hk+1,hs),()) ⟨gd,AcR _⟩ (A4.c5 Aa Aa Aa Aa Aa A4.nil) sN)
   ·refine Bt (Ay ?_);have ge:=BD hH hz hB;exact Ay (Bb (Av ((hk,hs),()) ge (A4.c5 Aa Aa Aa Aa Aa A4.nil) sN))
  ·rintro⟨⟨hq,hm⟩,⟨⟩⟩ hw;refine Ci (l':=[(0,rS s),(1,Ai at_),(6,Ai hq),(7,Ai (at_+1)),(8,Ai hm)]) (H':=[]) Aa Aa ?_;replace hw:G4 s at_ hq hm=some r:=hw;unfold G4 at hw;refine Bf (A9 (Ao (ck hw λgf gg=>ck gg λgh gi=>AE [(1,Ai at_),(6,Ai hq),(7,Ai (at_+1)),(8,Ai hm),(66,rB ((decide (hq=(at_+1)))||((decide ((BA s (at_+1))=48))&&((decide (((at_+1)+1)<hq))||(decide (at_<(at_+1)))))))] [] ?_ ?_)))
   ·refine Al (wm Aa (wm Aa (wv (Bj Aa Aa) (wm Aa (AP (decide (hq=(at_+1))) (λha=>?_) (λha=>?_))))))
    ·refine wf ha (wf ha (wf ha (wf ha (wf ha (wu (wu (wu (wu (wu (wu (wu (wu (wu (wf ha (wv (r:=rB true) (Aw Aa ha Aa) (Ak ?_))))))))))))))));exact BH ha
    ·refine wo ha (wm Aa (wo ha (wm Aa (wo ha (wv (Bo Di Aa Aa (BR gf ha)) (wo ha (wv (Bj Aa Aa) (wo ha (wm Aa (AP (decide ((BA s (at_+1))=48)) (λhe=>?_) (λhe=>?_)))))))))))
     ·refine wo he (wm Aa (wo he (wm Aa (wo he (wv (Bh Aa Aa (Cr (BR gh ha) he)) (wo he (wv (CD Aa Aa) (wo he (wm Aa (AP (decide (((at_+1)+1)<hq)) (λhn=>?_) (λhn=>?_)))))))))))
      ·refine wf hn (wf hn (wf hn (wo he (wv (r:=rB true) (Aw Aa hn Aa) (wo ha (C3 Aa he Aa (Cs Aa ha Aa (Ak ?_))))))));exact BH (And.intro ha (And.intro he hn))
      ·refine wo hn (wm Aa (wo hn (wm Aa (wo hn (wv (CD Aa Aa) (wo he (Cs Aa hn Aa (wo ha (C3 Aa he Aa (Cs Aa ha Aa (Ak ?_)))))))))));exact BH (And.intro ha (And.intro he hn))
     ·refine wf he (wf he (wf he (wf he (wf he (wu (wu (wu (wf he (wo ha (wv (r:=rB false) (Az Aa he Aa) (Cs Aa ha Aa (Ak ?_))))))))))));exact BH (And.intro ha he)
   refine cz gi Aa (λgj gl=>?_) (λgj gm=>?_)
   ·refine Ah (wa Aa (wv (r:=Ai (-1)) (AC Aa) (An (Ar (Ae (WK.up (d:=4) (r:=AB 4 (A1 Ac ([]:List Ab))) Aa (Up.le (DH.nil _)) ?_))))));obtain rfl:=Ap gl;exact Aq (CM LE (A5 Aa) (A5 Aa)) sN ⟨Aa,Aa⟩
   ·refine As (A9 (Ao (Ah (wm Aa (wm Aa (ck gm λgp gq=>wv (IK Aa Aa gp) (wv (CD Aa Aa) (An (cz gq Aa (λgr gs=>?_) (λgr gt=>?_))))))))))
    ·refine Al (wa Aa (An (Ao (Ah (wm Aa (wm Aa (wv (CD Aa Aa) (An (cz gs Aa (λgu gv=>?_) (λgu gw=>?_))))))))))
     ·refine Al (wm Aa (ck gv λgx gy=>wv (SH Aa gx) (wa Aa (Bd (wm Aa (wv (r:=Bw [Ai 3,Ai (-2000000000000),rS ([]:Am),Ai 0]) (Cj Aa Aa Aa Aa) (AN (ys:=([(Ab.mk 3 (-2000000000000) ([]:Am) 0)]:List Ab)) (enc:=Ac) (css:=[[Ai 3,Ai (-2000000000000),rS ([]:Am),Ai 0]]) (xs:=[.tmp 77]) Br Bx DU Aa Aa Aa ⟨Dx.agg ⟨Up.refl _,Up.refl _,Up.refl _,Up.refl _,trivial⟩,trivial⟩ Aa AO Aa Aa Aa (λcx=>?_))))))));refine wm Aa (wa Aa (wa Aa (An (Ar (WK.freeze (i:=0) Aa (WK.up (d:=4) (r:=AB 4 (A1 Ac ([(Ab.mk 3 (-2000000000000) ([]:Am) 0)]:List Ab))) Aa (Up.fact (i:=0) Aa) ?_))))));obtain rfl:=Ap gy;exact Aq (CM LE (A5 Aa) (A5 Aa)) (sS sN) ⟨Aa,Aa⟩
     ·refine As (A9 (Ah (wm Aa (wv (r:=Bw [Ai 3,Ai 2000000000000,rS ([]:Am),Ai 0]) (Cj Aa Aa Aa Aa) (AN (ys:=([(Ab.mk 3 2000000000000 ([]:Am) 0)]:List Ab)) (enc:=Ac) (css:=[[Ai 3,Ai 2000000000000,rS ([]:Am),Ai 0]]) (xs:=[.tmp 77]) Br Bx DU Aa Aa Aa ⟨Dx.agg ⟨Up.refl _,Up.refl _,Up.refl _,Up.refl _,trivial⟩,trivial⟩ Aa AO Aa Aa Aa (λcy=>?_))))));refine wm Aa (wa Aa (wa Aa (An (Ar (WK.freeze (i:=0) Aa (WK.up (d:=4) (r:=AB 4 (A1 Ac ([(Ab.mk 3 2000000000000 ([]:Am) 0)]:List Ab))) Aa (Up.fact (i:=0) Aa) ?_))))));obtain rfl:=Ap gw;exact Aq (CM LE (A5 Aa) (A5 Aa)) (sS sN) ⟨Aa,Aa⟩
    ·refine As (A9 (Ao (Ah (wm Aa (wm Aa (wv (CD Aa Aa) (An (cz gt Aa (λgz g0=>?_) (λgz g2=>?_)))))))))
     ·refine Al (wm Aa (ck g0 λg3 g4=>wv (SH Aa g3) (wa Aa (Bd (wm Aa (wv (r:=Bw [Ai 3,Ai (-hm),rS ([]:Am),Ai 0]) (Cj Aa Aa Aa Aa) (AN (ys:=([(Ab.mk 3 (-hm) ([]:Am) 0)]:List Ab)) (enc:=Ac) (css:=[[Ai 3,Ai (-hm),rS ([]:Am),Ai 0]]) (xs:=[.tmp 77]) Br Bx DU Aa Aa Aa ⟨Dx.agg ⟨Up.refl _,Up.refl _,Up.refl _,Up.refl _,trivial⟩,trivial⟩ Aa AO Aa Aa Aa (λc0=>?_))))))));refine wm Aa (wa Aa (wa Aa (An (Ar (WK.freeze (i:=0) Aa (WK.up (d:=4) (r:=AB 4 (A1 Ac ([(Ab.mk 3 (-hm) ([]:Am) 0)]:List Ab))) Aa (Up.fact (i:=0) Aa) ?_))))));obtain rfl:=Ap g4;exact Aq (CM LE (A5 Aa) (A5 Aa)) (sS sN) ⟨Aa,Aa⟩
     ·refine As (A9 (Ah (wm Aa (wv (r:=Bw [Ai 3,Ai hm,rS ([]:Am),Ai 0]) (Cj Aa Aa Aa Aa) (AN (ys:=([(Ab.mk 3 hm ([]:Am) 0)]:List Ab)) (enc:=Ac) (css:=[[Ai 3,Ai hm,rS ([]:Am),Ai 0]]) (xs:=[.tmp 77]) Br Bx DU Aa Aa Aa ⟨Dx.agg ⟨Up.refl _,Up.refl _,Up.refl _,Up.refl _,trivial⟩,trivial⟩ Aa AO Aa Aa Aa (λc1=>?_))))));refine wm Aa (wa Aa (wa Aa (An (Ar (WK.freeze (i:=0) Aa (WK.up (d:=4) (r:=AB 4 (A1 Ac ([(Ab.mk 3 hm ([]:Am) 0)]:List Ab))) Aa (Up.fact (i:=0) Aa) ?_))))));obtain rfl:=Ap g2;exact Aq (CM LE (A5 Aa) (A5 Aa)) (sS sN) ⟨Aa,Aa⟩
 ·refine As (A9 (Ah (wm Aa (wa Aa (Bd (wa Aa (An (Ao (AA (ob h8 λg6 g7 g8=>Bk (S:=Nat×(Int×Int)×(Unit)) (V:=(Int×Int)×(Unit)) 0 (λσ=>BS (λσ=>G5 s at_ σ.1 σ.2) σ.1 σ.2.1=some g6) (λσ=>[(0,rS s),(1,Ai at_),(6,Ai σ.2.1.1),(7,Ai at_),(8,Ai σ.2.1.2)]) (λσ=>[]) (λσ=>σ.1) (F,(at_,0),()) g7 (A4.c5 Aa Aa Aa Aa Aa A4.nil) sN (λσ=>G3 s at_ σ.1.1 σ.1.2=some r) (λσ=>[(0,rS s),(1,Ai at_),(6,Ai σ.1.1),(7,Ai at_),(8,Ai σ.1.2)]) (λσ=>[]) ?_ ?_))))))))))
  ·rintro⟨c2,⟨hl,ht⟩,⟨⟩⟩ g9;refine BC (l':=[(0,rS s),(1,Ai at_),(6,Ai hl),(7,Ai at_),(8,Ai ht)]) (H':=[]) Aa Aa ?_;obtain⟨h5,rfl,gA,hx,h0⟩:=Ce g9;replace hx:G5 s at_ hl ht=some gA:=hx;unfold G5 at hx;refine Ao (ck hx λh7 gB=>AE [(0,rS s),(1,Ai at_),(6,Ai hl),(7,Ai at_),(8,Ai ht),(32,rB ((decide (hl<(s.length:Int)))&&((decide (48≤(BA s hl)))&&(decide ((BA s hl)≤57)))))] [] ?_ ?_)
   ·refine Al (wm Aa (wm Aa (wv (BJ Di Aa) (wv (Cn Aa Aa) (wm Aa (AP (decide (hl<(s.length:Int))) (λhh=>?_) (λhh=>?_)))))))
    ·refine wo hh (wm Aa (wo hh (wm Aa (wo hh (wv (Bo Di Aa Aa (Cr h7 hh)) (wo hh (wv (GT Aa Aa) (C3 Aa hh Aa (wm Aa (AP (decide (48≤(BA s hl))) (λhj=>?_) (λhj=>?_)))))))))))
     ·refine wo hj (wm Aa (wo hj (wm Aa (wo hj (wv (Bo Di Aa Aa (Cr h7 hh)) (wo hj (wv (LC Aa Aa) (C3 Aa hj Aa (Ak ?_)))))))));exact BH (And.intro hh hj)
     ·refine wf hj (wf hj (wf hj (wf hj (wv (r:=rB false) (Az Aa hj Aa) (Ak ?_)))));exact BH (And.intro hh hj)
    ·refine wf hh (wf hh (wf hh (wf hh (wv (r:=rB false) (Az Aa hh Aa) (wm Aa (wz Aa Aa (wz Aa Aa (wz Aa Aa (wz Aa Aa (wv (r:=rB false) (Az (b:=false) Aa Aa Aa) (Ak ?_)))))))))));exact BH hh
   refine cz gB Aa (λgC gD=>?_) (λgC gE=>?_)
   ·refine As (A9 (AA (Ao (Ah (wm Aa (wm Aa (ck gD λgF gG=>wv (IK Aa Aa gF) (wv (Cn Aa Aa) (An (cz gG Aa (λgH gI=>?_) (λgH gJ=>?_)))))))))))
    ·refine Al (wm Aa (ck gI λgK gL=>wv (XD Aa Aa gK) (wm Aa (wm Aa (ck gL λgM gN=>wv (Bo Di Aa Aa gM) (ck gN λgO gP=>wv (IK Aa Aa gO) (ck gP λgQ gR=>wv (LV ⟨_,yu5⟩ yu3 Aa gQ) (ck gR λgS gT=>wv (Bh Aa Aa gS) (wa Aa (An (Al (wm Aa (ck gT λgU gV=>wv (Bh Aa Aa gU) (wa Aa (Ak (A7 ?_))))))))))))))));have gW:=AY gV h0;exact Ax (Av (h5,(hl+1,(10*ht)+((BA s hl)-48)),()) ⟨gW,AcR _⟩ (A4.c5 Aa Aa Aa Aa Aa A4.nil) sN)
    ·refine As (A9 (Al (wm Aa (ck gJ λgX gY=>wv (Bh Aa Aa gX) (wa Aa (Ak (A7 ?_)))))));have gZ:=AY gY h0;exact Ax (Av (h5,(hl+1,ht),()) ⟨gZ,AcR _⟩ (A4.c5 Aa Aa Aa Aa Aa A4.nil) sN)
   ·refine Bt (Ay ?_);have ca:=BD gE h0 g8;exact Ay (Bb (Av ((hl,ht),()) ca (A4.c5 Aa Aa Aa Aa Aa A4.nil) sN))
  ·rintro⟨⟨hr,ho⟩,⟨⟩⟩ hy;refine Ci (l':=[(0,rS s),(1,Ai at_),(6,Ai hr),(7,Ai at_),(8,Ai ho)]) (H':=[]) Aa Aa ?_;replace hy:G3 s at_ hr ho=some r:=hy;unfold G3 at hy;refine Bf (A9 (Ao (ck hy λcb cc=>AE [(1,Ai at_),(6,Ai hr),(7,Ai at_),(8,Ai ho),(66,rB ((decide (hr=at_))||((decide ((BA s at_)=48))&&((decide ((at_+1)<hr))||(decide (at_<at_))))))] [] ?_ ?_)))
   ·refine Al (wm Aa (wm Aa (wv (Bj Aa Aa) (wm Aa (AP (decide (hr=at_)) (λhb=>?_) (λhb=>?_))))))
    ·refine wf hb (wf hb (wf hb (wf hb (wf hb (wu (wu (wu (wu (wu (wu (wu (wu (wu (wf hb (wv (r:=rB true) (Aw Aa hb Aa) (Ak ?_))))))))))))))));exact BH hb
    ·refine wo hb (wm Aa (wo hb (wm Aa (wo hb (wv (Bo Di Aa Aa g1) (wo hb (wv (Bj Aa Aa) (wo hb (wm Aa (AP (decide ((BA s at_)=48)) (λhf=>?_) (λhf=>?_)))))))))))
     ·refine wo hf (wm Aa (wo hf (wm Aa (wo hf (wv (Bh Aa Aa (Cr (BR cb hb) hf)) (wo hf (wv (CD Aa Aa) (wo hf (wm Aa (AP (decide ((at_+1)<hr)) (λhp=>?_) (λhp=>?_)))))))))))
      ·refine wf hp (wf hp (wf hp (wo hf (wv (r:=rB true) (Aw Aa hp Aa) (wo hb (C3 Aa hf Aa (Cs Aa hb Aa (Ak ?_))))))));exact BH (And.intro hb (And.intro hf hp))
      ·refine wo hp (wm Aa (wo hp (wm Aa (wo hp (wv (CD Aa Aa) (wo hf (Cs Aa hp Aa (wo hb (C3 Aa hf Aa (Cs Aa hb Aa (Ak ?_)))))))))));exact BH (And.intro hb (And.intro hf hp))
     ·refine wf hf (wf hf (wf hf (wf hf (wf hf (wu (wu (wu (wf hf (wo hb (wv (r:=rB false) (Az Aa hf Aa) (Cs Aa hb Aa (Ak ?_))))))))))));exact BH (And.intro hb hf)
   refine cz cc Aa (λcd ce=>?_) (λcd cf=>?_)
   ·refine Ah (wa Aa (wv (r:=Ai (-1)) (AC Aa) (An (Ar (Ae (WK.up (d:=4) (r:=AB 4 (A1 Ac ([]:List Ab))) Aa (Up.le (DH.nil _)) ?_))))));obtain rfl:=Ap ce;exact Aq (CM LE (A5 Aa) (A5 Aa)) sN ⟨Aa,Aa⟩
   ·refine As (A9 (Ao (Ah (wm Aa (wm Aa (ck cf λcg ch=>wv (IK Aa Aa cg) (wv (CD Aa Aa) (An (cz ch Aa (λci cj=>?_) (λci cl=>?_))))))))))
    ·refine Al (wa Aa (An (Ao (Ah (wm Aa (wm Aa (wv (CD Aa Aa) (An (cz cj Aa (λcm cn=>?_) (λcm co=>?_))))))))))
     ·refine Al (wm Aa (ck cn λcp cq=>wv (SH Aa cp) (wa Aa (Bd (wm Aa (wv (r:=Bw [Ai 3,Ai (-2000000000000),rS ([]:Am),Ai 0]) (Cj Aa Aa Aa Aa) (AN (ys:=([(Ab.mk 3 (-2000000000000) ([]:Am) 0)]:List Ab)) (enc:=Ac) (css:=[[Ai 3,Ai (-2000000000000),rS ([]:Am),Ai 0]]) (xs:=[.tmp 77]) Br Bx DU Aa Aa Aa ⟨Dx.agg ⟨Up.refl _,Up.refl _,Up.refl _,Up.refl _,trivial⟩,trivial⟩ Aa AO Aa Aa Aa (λc4=>?_))))))));refine wm Aa (wa Aa (wa Aa (An (Ar (WK.freeze (i:=0) Aa (WK.up (d:=4) (r:=AB 4 (A1 Ac ([(Ab.mk 3 (-2000000000000) ([]:Am) 0)]:List Ab))) Aa (Up.fact (i:=0) Aa) ?_))))));obtain rfl:=Ap cq;exact Aq (CM LE (A5 Aa) (A5 Aa)) (sS sN) ⟨Aa,Aa⟩
     ·refine As (A9 (Ah (wm Aa (wv (r:=Bw [Ai 3,Ai 2000000000000,rS ([]:Am),Ai 0]) (Cj Aa Aa Aa Aa) (AN (ys:=([(Ab.mk 3 2000000000000 ([]:Am) 0)]:List Ab)) (enc:=Ac) (css:=[[Ai 3,Ai 2000000000000,rS ([]:Am),Ai 0]]) (xs:=[.tmp 77]) Br Bx DU Aa Aa Aa ⟨Dx.agg ⟨Up.refl _,Up.refl _,Up.refl _,Up.refl _,trivial⟩,trivial⟩ Aa AO Aa Aa Aa (λc6=>?_))))));refine wm Aa (wa Aa (wa Aa (An (Ar (WK.freeze (i:=0) Aa (WK.up (d:=4) (r:=AB 4 (A1 Ac ([(Ab.mk 3 2000000000000 ([]:Am) 0)]:List Ab))) Aa (Up.fact (i:=0) Aa) ?_))))));obtain rfl:=Ap co;exact Aq (CM LE (A5 Aa) (A5 Aa)) (sS sN) ⟨Aa,Aa⟩
    ·refine As (A9 (Ao (Ah (wm Aa (wm Aa (wv (CD Aa Aa) (An (cz cl Aa (λcr cs=>?_) (λcr ct=>?_)))))))))
     ·refine Al (wm Aa (ck cs λcu cv=>wv (SH Aa cu) (wa Aa (Bd (wm Aa (wv (r:=Bw [Ai 3,Ai (-ho),rS ([]:Am),Ai 0]) (Cj Aa Aa Aa Aa) (AN (ys:=([(Ab.mk 3 (-ho) ([]:Am) 0)]:List Ab)) (enc:=Ac) (css:=[[Ai 3,Ai (-ho),rS ([]:Am),Ai 0]]) (xs:=[.tmp 77]) Br Bx DU Aa Aa Aa ⟨Dx.agg ⟨Up.refl _,Up.refl _,Up.refl _,Up.refl _,trivial⟩,trivial⟩ Aa AO Aa Aa Aa (λc7=>?_))))))));refine wm Aa (wa Aa (wa Aa (An (Ar (WK.freeze (i:=0) Aa (WK.up (d:=4) (r:=AB 4 (A1 Ac ([(Ab.mk 3 (-ho) ([]:Am) 0)]:List Ab))) Aa (Up.fact (i:=0) Aa) ?_))))));obtain rfl:=Ap cv;exact Aq (CM LE (A5 Aa) (A5 Aa)) (sS sN) ⟨Aa,Aa⟩
     ·refine As (A9 (Ah (wm Aa (wv (r:=Bw [Ai 3,Ai ho,rS ([]:Am),Ai 0]) (Cj Aa Aa Aa Aa) (AN (ys:=([(Ab.mk 3 ho ([]:Am) 0)]:List Ab)) (enc:=Ac) (css:=[[Ai 3,Ai ho,rS ([]:Am),Ai 0]]) (xs:=[.tmp 77]) Br Bx DU Aa Aa Aa ⟨Dx.agg ⟨Up.refl _,Up.refl _,Up.refl _,Up.refl _,trivial⟩,trivial⟩ Aa AO Aa Aa Aa (λc8=>?_))))));refine wm Aa (wa Aa (wa Aa (An (Ar (WK.freeze (i:=0) Aa (WK.up (d:=4) (r:=AB 4 (A1 Ac ([(Ab.mk 3 ho ([]:Am) 0)]:List Ab))) Aa (Up.fact (i:=0) Aa) ?_))))));obtain rfl:=Ap ct;exact Aq (CM LE (A5 Aa) (A5 Aa)) (sS sN) ⟨Aa,Aa⟩
theorem Xr (F:Nat)(he:Am→Int→Option ((List Ab)×Int))(hf:(∀(s:Am) (at_:Int) (r:(List Ab)×Int),he s at_=some r→Fn Tryz.prog GE 124 [rS s,Ai at_] [] (λR H=>R=CY [AB 4 (A1 Ac r.1),Ai r.2]∧H=[])))(s:Am)(at_:Int)(r:(List Ab)×Int)(h:Rl F he s at_=some r):Fn Tryz.prog GE 93 [rS s,Ai at_] [] (λR H=>R=CY [AB 4 (A1 Ac r.1),Ai r.2]∧H=[]):=by
 refine enter (n:=64) Tryz.func93 Aa Tryz.ntmps93 Aa (λw Z=>?_);unfold Rl at h;refine Ah (wa Aa (wa Aa (An (Ao (Ah (wm Aa (wm Aa (wv (BJ Di Aa) (wv (GT Aa Aa) (An (cz h Aa (λc1 h2=>?_) (λc1 h3=>?_))))))))))))
 ·refine Ah (wa Aa (wv (r:=Ai (-1)) (AC Aa) (An (Ar (Ae (WK.up (d:=4) (r:=AB 4 (A1 Ac ([]:List Ab))) Aa (Up.le (DH.nil _)) ?_))))));obtain rfl:=Ap h2;exact Aq (CM Tx (A5 Aa) (A5 Aa)) sN ⟨Aa,Aa⟩
 ·refine As (A9 (Ao (Ah (wm Aa (wm Aa (ob h3 λr4 e6 h5=>BI Il (CZ s at_ ([110,117,108,108]:Am) r4 e6) Aa (An (cz h5 Aa (λc7 h8=>?_) (λc7 hg=>?_)))))))))
  ·refine Ah (ob h8 λr9 hh hi=>BI Tryz.call121 (Zr r9 hh) Aa (wm Aa (ck hi λhj hk=>wv (Bh Aa Aa hj) (wa Aa (wa Aa (An (Ar (Ae ?_))))))));obtain rfl:=Ap hk;exact Aq (CM Tx (A5 Aa) (A5 Aa)) sN ⟨Aa,Aa⟩
  ·refine As (A9 (Ao (Ah (wm Aa (wm Aa (ob hg λhl hm hn=>BI Il (CZ s at_ ([116,114,117,101]:Am) hl hm) Aa (An (cz hn Aa (λho hp=>?_) (λho hq=>?_)))))))))
   ·refine Ah (ob hp λhr hs ht=>BI Tryz.call122 (UJ true hr hs) Aa (wm Aa (ck ht λhu hw=>wv (Bh Aa Aa hu) (wa Aa (wa Aa (An (Ar (Ae ?_))))))));obtain rfl:=Ap hw;exact Aq (CM Tx (A5 Aa) (A5 Aa)) sN ⟨Aa,Aa⟩
   ·refine As (A9 (Ao (Ah (wm Aa (wm Aa (ob hq λhx hy hz=>BI Il (CZ s at_ ([102,97,108,115,101]:Am) hx hy) Aa (An (cz hz Aa (λh0 h1=>?_) (λh0 h4=>?_)))))))))
    ·refine Ah (ob h1 λh6 h7 h9=>BI Tryz.call122 (UJ false h6 h7) Aa (wm Aa (ck h9 λhA hB=>wv (Bh Aa Aa hA) (wa Aa (wa Aa (An (Ar (Ae ?_))))))));obtain rfl:=Ap hB;exact Aq (CM Tx (A5 Aa) (A5 Aa)) sN ⟨Aa,Aa⟩
    ·refine As (A9 (Ao (Ah (wm Aa (wm Aa (ck h4 λhb hC=>wv (Bo Di Aa Aa hb) (wv (Bj Aa Aa) (An (cz hC Aa (λhD hE=>?_) (λhD hG=>?_))))))))))
     ·refine Ah (wm Aa (wm Aa (ob hE λha hH hI=>BI Tryz.call123 (Jb F s at_ ha hH) Aa (wm Aa (wv (A0 Aa Aa) (wv (A0 Aa Aa) (wa Aa (wa Aa (Bd (wm Aa (wv (r:=Bw [Ai 4,Ai 0,rS ha.1,Ai 0]) (Dc Aa Aa Aa Aa) (AN (ys:=([(Ab.mk 4 0 ha.1 0)]:List Ab)) (enc:=Ac) (css:=[[Ai 4,Ai 0,rS ha.1,Ai 0]]) (xs:=[.tmp 41]) Br Bx DU Aa Aa Aa ⟨Dx.agg ⟨Up.refl _,Up.refl _,Up.refl _,Up.refl _,trivial⟩,trivial⟩ Aa AO Aa Aa Aa (λhT=>?_)))))))))))));refine wm Aa (wa Aa (wa Aa (An (Ar (Ae (WK.freeze (i:=0) Aa (WK.up (d:=4) (r:=AB 4 (A1 Ac ([(Ab.mk 4 0 ha.1 0)]:List Ab))) Aa (Up.fact (i:=0) Aa) ?_)))))));obtain rfl:=Ap hI;exact Aq (CM Tx (A5 Aa) (A5 Aa)) (sS sN) ⟨Aa,Aa⟩
     ·refine As (A9 (Ao (AE [(0,rS s),(1,Ai at_),(53,rB ((decide ((BA s at_)=91))||(decide ((BA s at_)=123))))] [] ?_ ?_)))
      ·refine Al (wm Aa (wm Aa (wv (Bo Di Aa Aa hb) (wv (Bj Aa Aa) (wm Aa (AP (decide ((BA s at_)=91)) (λc46=>?_) (λc46=>?_)))))))
       ·refine wf c46 (wf c46 (wf c46 (wf c46 (wv (r:=rB true) (Aw Aa c46 Aa) (Ak ?_)))));exact BH c46
       ·refine wo c46 (wm Aa (wo c46 (wm Aa (wo c46 (wv (Bo Di Aa Aa hb) (wo c46 (wv (Bj Aa Aa) (Cs Aa c46 Aa (Ak ?_)))))))));exact BH c46
      refine cz hG Aa (λhJ hK=>?_) (λhJ hL=>?_)
      ·refine Ah (wm Aa (wm Aa (ob hK λhN hO hP=>BI Tryz.call124 (hf s at_ hN hO) Aa (wv (A0 Aa Aa) (wv (A0 Aa Aa) (wa Aa (wa Aa (An (Ar (Ae ?_))))))))));obtain rfl:=Ap hP;exact Aq (CM Tx (A5 Aa) (A5 Aa)) sN ⟨Aa,Aa⟩
      ·refine As (A9 (Ah (wm Aa (wm Aa (ob hL λhQ hR hS=>BI Tryz.call125 (TJ F s at_ hQ hR) Aa (wv (A0 Aa Aa) (wv (A0 Aa Aa) (wa Aa (wa Aa (An (Ar ?_)))))))))));obtain rfl:=Ap hS;exact Aq (CM Tx (A5 Aa) (A5 Aa)) sN ⟨Aa,Aa⟩
theorem Rm (F:Nat)(h1:Am→Int→Option ((List Ab)×Int))(hB:(∀(s:Am) (at_:Int) (r:(List Ab)×Int),h1 s at_=some r→Fn Tryz.prog GE 93 [rS s,Ai at_] [] (λR H=>R=CY [AB 4 (A1 Ac r.1),Ai r.2]∧H=[])))(s:Am)(at_:Int)(r:(List Ab)×Int)(h:Kb F h1 s at_=some r):Fn Tryz.prog GE 124 [rS s,Ai at_] [] (λR H=>R=CY [AB 4 (A1 Ac r.1),Ai r.2]∧H=[]):=by
 refine enter (n:=98) Tryz.func124 Aa Tryz.ntmps124 Aa (λw Z=>?_);unfold Kb at h;refine Ah (wa Aa (wa Aa (Bd (wv (r:=Bw [Ai 5,Ai 0,rS ([]:Am),Ai 0]) (EJ Aa Aa) (Cg (cs:=[Ai 0,Ai 0,rS ([]:Am),Ai 0]) DU Aa Aa (λb1=>?_))))));refine Bg (i:=0) Bx Aa Aa Aa (B3.c Aa) Aa Aa (cs':=[Ai 5,Ai 0,rS ([]:Am),Ai 0]) Aa (H':=[.blk b1 [Ai 5,Ai 0,rS ([]:Am),Ai 0] 54]) Aa (Bd (wv (r:=rS ([93]:Am)) (AC Aa) (An (Ao (Ah (wm Aa (wm Aa (ck h λg2 h3=>wv (Bo Di Aa Aa g2) (wv (Bj Aa Aa) (An (cz h3 Aa (λc4 h5=>?_) (λc4 hS=>?_))))))))))))
 ·refine Ah (vF Bp Aa CC (B5 (i:=0) CC Aa Aa (BU Aa) Aa Aa (cs':=[Ai 6,Ai 0,rS ([]:Am),Ai 0]) Aa (H':=[.blk b1 [Ai 6,Ai 0,rS ([]:Am),Ai 0] 54]) Aa (An (Al (wv (r:=rS ([125]:Am)) (AC Aa) (Bd (wa Aa (Bd (wm Aa (ck h5 λg6 h7=>wv (Bh Aa Aa g6) (wa Aa (An (Ao (AA (WC.nilrow (e:=54) (sz:=4) (JU (H2:=[.blk b1 [Ai 6,Ai 0,rS ([]:Am),Ai 0] 54,.row (.slice none 0 0                                                      ) 54 4 (A1 Ac ([]:List Ab))]) ((A6 (i:=1) Aa).trans (AcQ _ (AcK _))) (ob h7 λhT hU h2=>Bk (S:=Nat×((List Ab)×Int×Ab)×(Value)) (V:=((List Ab)×Int×Ab)×(Value)) 0 (λσ=>BS (λσ=>HS F s h1 σ.1 σ.2.1 σ.2.2) σ.1 σ.2.1=some hT) (λσ=>[(0,rS s),(6,rP b1 0),(7,rS ([125]:Am)),(8,rv σ.2.2),(9,Ai σ.2.1.2.1)]) (λσ=>[.blk b1 (Ac σ.2.1.2.2) 54,.row σ.2.2 54 4 (A1 Ac σ.2.1.1)]) (λσ=>σ.1) (F,(([]:List Ab),at_+1,(Ab.mk 6 0 ([]:Am) 0)),(.slice none 0 0                                                      )) hU (A4.c5 Aa Aa Aa Aa Aa A4.nil) (sC (sC sN)) (λσ=>HQ σ.1.1 σ.1.2.1 σ.1.2.2=some r) (λσ=>[(6,rP b1 0),(8,rv σ.2),(9,Ai σ.1.2.1)]) (λσ=>[.blk b1 (Ac σ.1.2.2) 54,.row σ.2 54 4 (A1 Ac σ.1.1)]) ?_ ?_)))))))))))))))))
  ·rintro⟨xU,⟨hi,ho,ha⟩,hz⟩ hV;refine BC (l':=[(0,rS s),(6,rP b1 0),(7,rS ([125]:Am)),(8,rv hz),(9,Ai ho)]) (H':=[.blk b1 (Ac ha) 54,.row hz 54 4 (A1 Ac hi)]) Aa Aa ?_;obtain⟨hC,rfl,hW,hD,hu⟩:=Ce hV;replace hD:HS F s h1 hi ho ha=some hW:=hD;unfold HS at hD;refine Ao (ck hD λhX hY=>ck hY λhZ ga=>ck ga λgb gc=>AE [(0,rS s),(6,rP b1 0),(7,rS ([125]:Am)),(8,rv hz),(9,Ai ho),(39,rB ((!(ov (Bz s ho ([125]:Am))))||((decide (0<ha.fN))&&(decide ((BA s (ho-1))=44)))))] [.blk b1 (Ac ha) 54,.row hz 54 4 (A1 Ac hi)] ?_ ?_)
   ·refine Al (wm Aa (wm Aa (wm Aa (BI Il (CZ s ho ([125]:Am) (ov (Bz s ho ([125]:Am))) (DY hX)) Aa (wv (B7 Aa) (wm Aa (AP (!(ov (Bz s ho ([125]:Am)))) (λhg=>?_) (λhg=>?_))))))))
    ·refine wf hg (wf hg (wf hg (wf hg (wu (wu (wu (wu (wu (wf hg (wv (r:=rB true) (Aw Aa hg Aa) (Ak ?_)))))))))));exact BH hg
    ·refine wo hg (vF Bp Aa BL (wo hg (vL 0 Cc Aa (wo hg (wv (CD Aa Aa) (wo hg (wm Aa (AP (decide (0<ha.fN)) (λhk=>?_) (λhk=>?_)))))))))
     ·refine wo hk (wm Aa (wo hk (wm Aa (wo hk (wv (IK Aa Aa (Cr (BR hZ hg) hk)) (wo hk (wv (Bo Di Aa Aa (Cr (BR gb hg) hk)) (wo hk (wv (Bj Aa Aa) (wo hg (C3 Aa hk Aa (Cs Aa hg Aa (Ak ?_)))))))))))));exact BH (And.intro hg hk)
     ·refine wf hk (wf hk (wf hk (wf hk (wf hk (wo hg (wv (r:=rB false) (Az Aa hk Aa) (Cs Aa hg Aa (Ak ?_))))))));exact BH (And.intro hg hk)
   refine cz gc Aa (λgd ge=>?_) (λgd gf=>?_)
   ·refine As (A9 (AA (Ao (Ah (vF Bp Aa CC (vL 0 CP Aa (wv (Bj Aa Aa) (An (cz ge Aa (λgg gh=>?_) (λgg gi=>?_))))))))))
    ·refine Ah (wm Aa (wm Aa (ob gh λhe gj gl=>BI Tryz.call123 (Jb F s ho he gj) Aa (wm Aa (wv (A0 Aa Aa) (wv (A0 Aa Aa) (wa Aa (wa Aa (An (Ao (ck gl λgm gp=>AE [(0,rS s),(6,rP b1 0),(7,rS ([125]:Am)),(8,rv hz),(10,rS he.1),(11,Ai he.2),(56,rB ((decide (he.2<0))||(!(ov (Bz s he.2 ([58]:Am))))))] [.blk b1 (Ac ha) 54,.row hz 54 4 (A1 Ac hi)] ?_ ?_)))))))))))
     ·refine Al (wm Aa (wv (Cn Aa Aa) (wm Aa (AP (decide (he.2<0)) (λhm=>?_) (λhm=>?_)))))
      ·refine wf hm (wf hm (wf hm (wf hm (wv (r:=rB true) (Aw Aa hm Aa) (Ak ?_)))));exact BH hm
      ·refine wo hm (wm Aa (wo hm (wm Aa (wo hm (BI Il (CZ s he.2 ([58]:Am) (ov (Bz s he.2 ([58]:Am))) (DY (BR gm hm))) Aa (wo hm (wv (B7 Aa) (Cs Aa hm Aa (Ak ?_)))))))));exact BH hm
     refine cz gp Aa (λgq gr=>?_) (λgq gs=>?_)
     ·refine Ah (wa Aa (wv (r:=Ai (-1)) (AC Aa) (An (Ar (Ae (Ae (Au (Ae (AU ?_)))))))));have gt:=Bm gr hu h2;refine Au (Ae (WK.up (d:=4) (r:=AB 4 (A1 Ac ([]:List Ab))) Aa (Up.le (DH.nil _)) ?_));obtain rfl:=Ap gt;exact Aq (CM Ks (A5 Aa) (A5 Aa)) (sS (sS sN)) ⟨Aa,Aa⟩
     ·refine As (A9 (Ah (wm Aa (wm Aa (wv (r:=Bw [Ai 4,Ai 0,rS he.1,Ai 0]) (Dc Aa Aa Aa Aa) (AN (ys:=([(Ab.mk 4 0 he.1 0)]:List Ab)) (enc:=Ac) (css:=[[Ai 4,Ai 0,rS he.1,Ai 0]]) (xs:=[.tmp 59]) Br Bx DU Aa Aa Aa ⟨Dx.agg ⟨Up.refl _,Up.refl _,Up.refl _,Up.refl _,trivial⟩,trivial⟩ Aa AO Aa Aa Aa (λhL=>?_)))))));refine ck gs λgu gv=>Exists.elim Ef λinf hinf=>B6 (xs:=hi) (ys:=([(Ab.mk 4 0 he.1 0)]:List Ab)) (enc:=Ac) (i:=2) Br hinf.1 hinf.2.1 hinf.2.2.1 hinf.2.2.2 Aa Aa Aa Aa Aa (I7.w (i:=0) Aa Aa) AO BG gu Aa (λxV=>?_);refine wa Aa (An (Al (wm Aa (ck gv λgw gx=>wv (Bh Aa Aa gw) (wa Aa (Bd (wm Aa (wm Aa (ob gx λhp gy gz=>BI WE (hB s (he.2+1) hp gy) Aa (wm Aa (wv (A0 Aa Aa) (wv (A0 Aa Aa) (wa Aa (wa Aa (An (Ao (Ah (wm Aa (wv (Cn Aa Aa) (An (cz gz Aa (λg0 g1=>?_) (λg0 g3=>?_))))))))))))))))))))))
      ·refine Ah (wa Aa (wv (r:=Ai (-1)) (AC Aa) (An (Ar (Ae (Au (Ae (AU ?_))))))));have g4:=Bm g1 hu h2;refine Au (Ae (WK.up (d:=4) (r:=AB 4 (A1 Ac ([]:List Ab))) Aa (Up.le (DH.nil _)) ?_));obtain rfl:=Ap g4;exact Aq (CM Ks (A5 Aa) (A5 Aa)) (sS (sS (sS sN))) ⟨Aa,Aa⟩
      ·refine As (A9 (Ah (wm Aa (wm Aa (ck g3 λg5 g7=>Exists.elim Ef λinf hinf=>B6 (xs:=hi++([(Ab.mk 4 0 he.1 0)]:List Ab)) (ys:=hp.1) (enc:=Ac) (i:=0) Br hinf.1 hinf.2.1 hinf.2.2.1 hinf.2.2.2 Aa Aa Aa Aa Aa (I7.z Aa Aa) AO BG g5 Aa (λh6=>?_))))));refine wa Aa (Bd (vF Bp Aa BL (vL 2 Cc Aa (ck g7 λg8 g9=>wv (Bh Aa Aa g8) (vF Bp Aa BL (B5 (i:=2) BL Aa Aa (BU Aa) Aa Aa (cs':=[Ai ha.fKind,Ai ha.fInt,rS ha.fStr,Ai (ha.fN+1)]) Aa (H':=[.row h6 54 4 (A1 Ac ((hi++([(Ab.mk 4 0 he.1 0)]:List Ab))++hp.1)),.row (.slice (some ⟨hL,0,none⟩) 1 1) 54 4 (A1 Ac ([(Ab.mk 4 0 he.1 0)]:List Ab)),.blk b1 [Ai ha.fKind,Ai ha.fInt,rS ha.fStr,Ai (ha.fN+1)] 54]) Aa (Bd (wm Aa (wa Aa (Bd (wm Aa (wm Aa (ob g9 λgA gB gC=>BI Il (CZ s hp.2 ([44]:Am) gA gB) Aa (An (cz gC Aa (λgD gE=>?_) (λgD gF=>?_))))))))))))))))
       ·refine Al (wm Aa (ck gE λgG gH=>wv (Bh Aa Aa gG) (wa Aa (Ak (A7 (Cv (H2:=[.blk b1 [Ai ha.fKind,Ai ha.fInt,rS ha.fStr,Ai (ha.fN+1)] 54,.row h6 54 4 (A1 Ac ((hi++([(Ab.mk 4 0 he.1 0)]:List Ab))++hp.1)),.row (.slice (some ⟨hL,0,none⟩) 1 1) 54 4 (A1 Ac ([(Ab.mk 4 0 he.1 0)]:List Ab))]) ((A6 (i:=2) Aa).trans (AcQ _ (AcK _))) ?_))))));have gI:=AY gH hu;exact Ax (Av (hC,((hi++([(Ab.mk 4 0 he.1 0)]:List Ab))++hp.1,hp.2+1,(Ab.mk ha.fKind ha.fInt ha.fStr (ha.fN+1))),h6) ⟨gI,AcR _⟩ (A4.c5 Aa Aa Aa Aa Aa A4.nil) (sC (sC (sS sN))))
       ·refine Ah (wm Aa (wm Aa (wm Aa (ob gF λgJ gK gL=>BI Il (CZ s hp.2 ([125]:Am) gJ gK) Aa (wv (B7 Aa) (An (cz gL Aa (λgM gN=>?_) (λgM gO=>?_))))))))
        ·refine Ah (wa Aa (wv (r:=Ai (-1)) (AC Aa) (An (Ar (Au (Ae (AU ?_)))))));have gP:=Bm gN hu h2;refine Au (Ae (WK.up (d:=4) (r:=AB 4 (A1 Ac ([]:List Ab))) Aa (Up.le (DH.nil _)) ?_));obtain rfl:=Ap gP;exact Aq (CM Ks (A5 Aa) (A5 Aa)) (sS (sS (sS sN))) ⟨Aa,Aa⟩
        ·refine As (A7 (Cv (H2:=[.blk b1 [Ai ha.fKind,Ai ha.fInt,rS ha.fStr,Ai (ha.fN+1)] 54,.row h6 54 4 (A1 Ac ((hi++([(Ab.mk 4 0 he.1 0)]:List Ab))++hp.1)),.row (.slice (some ⟨hL,0,none⟩) 1 1) 54 4 (A1 Ac ([(Ab.mk 4 0 he.1 0)]:List Ab))]) ((A6 (i:=2) Aa).trans (AcQ _ (AcK _))) ?_));have gQ:=AY gO hu;exact Ax (Av (hC,((hi++([(Ab.mk 4 0 he.1 0)]:List Ab))++hp.1,hp.2,(Ab.mk ha.fKind ha.fInt ha.fStr (ha.fN+1))),h6) ⟨gQ,AcR _⟩ (A4.c5 Aa Aa Aa Aa Aa A4.nil) (sC (sC (sS sN))))
    ·refine As (A9 (Ah (wm Aa (wm Aa (ob gi λhq gR gS=>BI WE (hB s ho hq gR) Aa (wm Aa (wv (A0 Aa Aa) (wv (A0 Aa Aa) (wa Aa (wa Aa (An (Ao (Ah (wm Aa (wv (Cn Aa Aa) (An (cz gS Aa (λgT gU=>?_) (λgT gV=>?_))))))))))))))))))
     ·refine Ah (wa Aa (wv (r:=Ai (-1)) (AC Aa) (An (Ar (Ae (Au (Ae (AU ?_))))))));have gW:=Bm gU hu h2;refine Au (Ae (WK.up (d:=4) (r:=AB 4 (A1 Ac ([]:List Ab))) Aa (Up.le (DH.nil _)) ?_));obtain rfl:=Ap gW;exact Aq (CM Ks (A5 Aa) (A5 Aa)) (sS (sS sN)) ⟨Aa,Aa⟩
     ·refine As (A9 (Ah (wm Aa (wm Aa (ck gV λgX gY=>Exists.elim Ef λinf hinf=>B6 (xs:=hi) (ys:=hq.1) (enc:=Ac) (i:=1) Br hinf.1 hinf.2.1 hinf.2.2.1 hinf.2.2.2 Aa Aa Aa Aa Aa (I7.z Aa Aa) AO BG gX Aa (λh8=>?_))))));refine wa Aa (Bd (vF Bp Aa BL (vL 1 Cc Aa (ck gY λgZ ca=>wv (Bh Aa Aa gZ) (vF Bp Aa BL (B5 (i:=1) BL Aa Aa (BU Aa) Aa Aa (cs':=[Ai ha.fKind,Ai ha.fInt,rS ha.fStr,Ai (ha.fN+1)]) Aa (H':=[.row h8 54 4 (A1 Ac (hi++hq.1)),.blk b1 [Ai ha.fKind,Ai ha.fInt,rS ha.fStr,Ai (ha.fN+1)] 54]) Aa (Bd (wm Aa (wa Aa (Bd (wm Aa (wm Aa (ob ca λcb cc cd=>BI Il (CZ s hq.2 ([44]:Am) cb cc) Aa (An (cz cd Aa (λce cf=>?_) (λce cg=>?_))))))))))))))))
      ·refine Al (wm Aa (ck cf λch ci=>wv (Bh Aa Aa ch) (wa Aa (Ak (A7 (Cv (H2:=[.blk b1 [Ai ha.fKind,Ai ha.fInt,rS ha.fStr,Ai (ha.fN+1)] 54,.row h8 54 4 (A1 Ac (hi++hq.1))]) ((A6 (i:=1) Aa).trans (AcQ _ (AcK _))) ?_))))));have cj:=AY ci hu;exact Ax (Av (hC,(hi++hq.1,hq.2+1,(Ab.mk ha.fKind ha.fInt ha.fStr (ha.fN+1))),h8) ⟨cj,AcR _⟩ (A4.c5 Aa Aa Aa Aa Aa A4.nil) (sC (sC sN)))
      ·refine Ah (wm Aa (wm Aa (wm Aa (ob cg λcl cm cn=>BI Il (CZ s hq.2 ([125]:Am) cl cm) Aa (wv (B7 Aa) (An (cz cn Aa (λco cp=>?_) (λco cq=>?_))))))))
       ·refine Ah (wa Aa (wv (r:=Ai (-1)) (AC Aa) (An (Ar (Au (Ae (AU ?_)))))));have cr:=Bm cp hu h2;refine Au (Ae (WK.up (d:=4) (r:=AB 4 (A1 Ac ([]:List Ab))) Aa (Up.le (DH.nil _)) ?_));obtain rfl:=Ap cr;exact Aq (CM Ks (A5 Aa) (A5 Aa)) (sS (sS sN)) ⟨Aa,Aa⟩
       ·refine As (A7 (Cv (H2:=[.blk b1 [Ai ha.fKind,Ai ha.fInt,rS ha.fStr,Ai (ha.fN+1)] 54,.row h8 54 4 (A1 Ac (hi++hq.1))]) ((A6 (i:=1) Aa).trans (AcQ _ (AcK _))) ?_));have ct:=AY cq hu;exact Ax (Av (hC,(hi++hq.1,hq.2,(Ab.mk ha.fKind ha.fInt ha.fStr (ha.fN+1))),h8) ⟨ct,AcR _⟩ (A4.c5 Aa Aa Aa Aa Aa A4.nil) (sC (sC sN)))
   ·refine Bt (Ay ?_);have cu:=BD gf hu h2;exact Ay (Bb (Av ((hi,ho,ha),hz) cu (A4.c Aa (A4.c Aa (A4.c Aa A4.nil))) (sC (sC sN))))
  ·rintro⟨⟨hE,hO,hx⟩,hP⟩ hG;refine Ci (l':=[(6,rP b1 0),(8,rv hP),(9,Ai hO)]) (H':=[.blk b1 (Ac hx) 54,.row hP 54 4 (A1 Ac hE)]) Aa Aa ?_;replace hG:HQ hE hO hx=some r:=hG;unfold HQ at hG;refine Bf (A9 (Ah (wv (AM (i:=0) LA Bx Aa Aa Aa Aa) (AN (ys:=([hx]:List Ab)) (enc:=Ac) (css:=[[Ai hx.fKind,Ai hx.fInt,rS hx.fStr,Ai hx.fN]]) (xs:=[.tmp 90]) Br Bx DU Aa Aa Aa ⟨Dx.agg ⟨Up.refl _,Up.refl _,Up.refl _,Up.refl _,trivial⟩,trivial⟩ Aa AO Aa Aa Aa (λxW=>?_)))));refine wa Aa (Bd (wm Aa (wm Aa (ck hG λcv cw=>Exists.elim Ef λinf hinf=>B6 (xs:=([hx]:List Ab)) (ys:=hE) (enc:=Ac) (i:=0) Br hinf.1 hinf.2.1 hinf.2.2.1 hinf.2.2.2 Aa Aa Aa Aa Aa (I7.w (i:=2) Aa Aa) AO BG cv Aa (λxX=>?_)))));refine wa Aa (Bd (wm Aa (wm Aa (ck cw λcx cy=>wv (Bh Aa Aa cx) (wa Aa (wa Aa (An (Ar (WK.freeze (i:=0) Aa (WK.up (d:=4) (r:=AB 4 (A1 Ac (([hx]:List Ab)++hE))) Aa (Up.fact (i:=0) Aa) ?_))))))))));obtain rfl:=Ap cy;exact Aq (CM Ks (A5 Aa) (A5 Aa)) (sS (sS (sS sN))) ⟨Aa,Aa⟩
 ·refine As (A9 (Ah (wa Aa (Bd (wm Aa (ck hS λc0 c1=>wv (Bh Aa Aa c0) (wa Aa (An (Ao (AA (WC.nilrow (e:=54) (sz:=4) (JU (H2:=[.blk b1 [Ai 5,Ai 0,rS ([]:Am),Ai 0] 54,.row (.slice none 0 0                                                      ) 54 4 (A1 Ac ([]:List Ab))]) ((A6 (i:=1) Aa).trans (AcQ _ (AcK _))) (ob c1 λc2 c3 h4=>Bk (S:=Nat×((List Ab)×Int×Ab)×(Value)) (V:=((List Ab)×Int×Ab)×(Value)) 0 (λσ=>BS (λσ=>HR F s h1 σ.1 σ.2.1 σ.2.2) σ.1 σ.2.1=some c2) (λσ=>[(0,rS s),(6,rP b1 0),(7,rS ([93]:Am)),(8,rv σ.2.2),(9,Ai σ.2.1.2.1)]) (λσ=>[.blk b1 (Ac σ.2.1.2.2) 54,.row σ.2.2 54 4 (A1 Ac σ.2.1.1)]) (λσ=>σ.1) (F,(([]:List Ab),at_+1,(Ab.mk 5 0 ([]:Am) 0)),(.slice none 0 0                                                      )) c3 (A4.c5 Aa Aa Aa Aa Aa A4.nil) (sC (sC sN)) (λσ=>HP σ.1.1 σ.1.2.1 σ.1.2.2=some r) (λσ=>[(6,rP b1 0),(8,rv σ.2),(9,Ai σ.1.2.1)]) (λσ=>[.blk b1 (Ac σ.1.2.2) 54,.row σ.2 54 4 (A1 Ac σ.1.1)]) ?_ ?_)))))))))))))
  ·rintro⟨xY,⟨hj,hr,hb⟩,h0⟩ c6;refine BC (l':=[(0,rS s),(6,rP b1 0),(7,rS ([93]:Am)),(8,rv h0),(9,Ai hr)]) (H':=[.blk b1 (Ac hb) 54,.row h0 54 4 (A1 Ac hj)]) Aa Aa ?_;obtain⟨hH,rfl,c7,hI,hw⟩:=Ce c6;replace hI:HR F s h1 hj hr hb=some c7:=hI;unfold HR at hI;refine Ao (ck hI λc8 c9=>ck c9 λcA cB=>ck cB λcC cD=>AE [(0,rS s),(6,rP b1 0),(7,rS ([93]:Am)),(8,rv h0),(9,Ai hr),(39,rB ((!(ov (Bz s hr ([93]:Am))))||((decide (0<hb.fN))&&(decide ((BA s (hr-1))=44)))))] [.blk b1 (Ac hb) 54,.row h0 54 4 (A1 Ac hj)] ?_ ?_)
   ·refine Al (wm Aa (wm Aa (wm Aa (BI Il (CZ s hr ([93]:Am) (ov (Bz s hr ([93]:Am))) (DY c8)) Aa (wv (B7 Aa) (wm Aa (AP (!(ov (Bz s hr ([93]:Am)))) (λhh=>?_) (λhh=>?_))))))))
    ·refine wf hh (wf hh (wf hh (wf hh (wu (wu (wu (wu (wu (wf hh (wv (r:=rB true) (Aw Aa hh Aa) (Ak ?_)))))))))));exact BH hh
    ·refine wo hh (vF Bp Aa BL (wo hh (vL 0 Cc Aa (wo hh (wv (CD Aa Aa) (wo hh (wm Aa (AP (decide (0<hb.fN)) (λhl=>?_) (λhl=>?_)))))))))
     ·refine wo hl (wm Aa (wo hl (wm Aa (wo hl (wv (IK Aa Aa (Cr (BR cA hh) hl)) (wo hl (wv (Bo Di Aa Aa (Cr (BR cC hh) hl)) (wo hl (wv (Bj Aa Aa) (wo hh (C3 Aa hl Aa (Cs Aa hh Aa (Ak ?_)))))))))))));exact BH (And.intro hh hl)
     ·refine wf hl (wf hl (wf hl (wf hl (wf hl (wo hh (wv (r:=rB false) (Az Aa hl Aa) (Cs Aa hh Aa (Ak ?_))))))));exact BH (And.intro hh hl)
   refine cz cD Aa (λcE cF=>?_) (λcE cG=>?_)
   ·refine As (A9 (AA (Ao (Ah (vF Bp Aa CC (vL 0 CP Aa (wv (Bj Aa Aa) (An (cz cF Aa (λcH cI=>?_) (λcH cJ=>?_))))))))))
    ·refine Ah (wm Aa (wm Aa (ob cI λhf cK cL=>BI Tryz.call123 (Jb F s hr hf cK) Aa (wm Aa (wv (A0 Aa Aa) (wv (A0 Aa Aa) (wa Aa (wa Aa (An (Ao (ck cL λcM cN=>AE [(0,rS s),(6,rP b1 0),(7,rS ([93]:Am)),(8,rv h0),(10,rS hf.1),(11,Ai hf.2),(56,rB ((decide (hf.2<0))||(!(ov (Bz s hf.2 ([58]:Am))))))] [.blk b1 (Ac hb) 54,.row h0 54 4 (A1 Ac hj)] ?_ ?_)))))))))))
     ·refine Al (wm Aa (wv (Cn Aa Aa) (wm Aa (AP (decide (hf.2<0)) (λhn=>?_) (λhn=>?_)))))
      ·refine wf hn (wf hn (wf hn (wf hn (wv (r:=rB true) (Aw Aa hn Aa) (Ak ?_)))));exact BH hn
      ·refine wo hn (wm Aa (wo hn (wm Aa (wo hn (BI Il (CZ s hf.2 ([58]:Am) (ov (Bz s hf.2 ([58]:Am))) (DY (BR cM hn))) Aa (wo hn (wv (B7 Aa) (Cs Aa hn Aa (Ak ?_)))))))));exact BH hn
     refine cz cN Aa (λcO cP=>?_) (λcO cQ=>?_)
     ·refine Ah (wa Aa (wv (r:=Ai (-1)) (AC Aa) (An (Ar (Ae (Ae (Au (Ae (AU ?_)))))))));have cR:=Bm cP hw h4;refine Au (Ae (WK.up (d:=4) (r:=AB 4 (A1 Ac ([]:List Ab))) Aa (Up.le (DH.nil _)) ?_));obtain rfl:=Ap cR;exact Aq (CM Ks (A5 Aa) (A5 Aa)) (sS (sS sN)) ⟨Aa,Aa⟩
     ·refine As (A9 (Ah (wm Aa (wm Aa (wv (r:=Bw [Ai 4,Ai 0,rS hf.1,Ai 0]) (Dc Aa Aa Aa Aa) (AN (ys:=([(Ab.mk 4 0 hf.1 0)]:List Ab)) (enc:=Ac) (css:=[[Ai 4,Ai 0,rS hf.1,Ai 0]]) (xs:=[.tmp 59]) Br Bx DU Aa Aa Aa ⟨Dx.agg ⟨Up.refl _,Up.refl _,Up.refl _,Up.refl _,trivial⟩,trivial⟩ Aa AO Aa Aa Aa (λhN=>?_)))))));refine ck cQ λcS cT=>Exists.elim Ef λinf hinf=>B6 (xs:=hj) (ys:=([(Ab.mk 4 0 hf.1 0)]:List Ab)) (enc:=Ac) (i:=2) Br hinf.1 hinf.2.1 hinf.2.2.1 hinf.2.2.2 Aa Aa Aa Aa Aa (I7.w (i:=0) Aa Aa) AO BG cS Aa (λxZ=>?_);refine wa Aa (An (Al (wm Aa (ck cT λcU cV=>wv (Bh Aa Aa cU) (wa Aa (Bd (wm Aa (wm Aa (ob cV λhs cW cX=>BI WE (hB s (hf.2+1) hs cW) Aa (wm Aa (wv (A0 Aa Aa) (wv (A0 Aa Aa) (wa Aa (wa Aa (An (Ao (Ah (wm Aa (wv (Cn Aa Aa) (An (cz cX Aa (λcY cZ=>?_) (λcY xa=>?_))))))))))))))))))))))
      ·refine Ah (wa Aa (wv (r:=Ai (-1)) (AC Aa) (An (Ar (Ae (Au (Ae (AU ?_))))))));have xb:=Bm cZ hw h4;refine Au (Ae (WK.up (d:=4) (r:=AB 4 (A1 Ac ([]:List Ab))) Aa (Up.le (DH.nil _)) ?_));obtain rfl:=Ap xb;exact Aq (CM Ks (A5 Aa) (A5 Aa)) (sS (sS (sS sN))) ⟨Aa,Aa⟩
      ·refine As (A9 (Ah (wm Aa (wm Aa (ck xa λxc xd=>Exists.elim Ef λinf hinf=>B6 (xs:=hj++([(Ab.mk 4 0 hf.1 0)]:List Ab)) (ys:=hs.1) (enc:=Ac) (i:=0) Br hinf.1 hinf.2.1 hinf.2.2.1 hinf.2.2.2 Aa Aa Aa Aa Aa (I7.z Aa Aa) AO BG xc Aa (λh9=>?_))))));refine wa Aa (Bd (vF Bp Aa BL (vL 2 Cc Aa (ck xd λxe xf=>wv (Bh Aa Aa xe) (vF Bp Aa BL (B5 (i:=2) BL Aa Aa (BU Aa) Aa Aa (cs':=[Ai hb.fKind,Ai hb.fInt,rS hb.fStr,Ai (hb.fN+1)]) Aa (H':=[.row h9 54 4 (A1 Ac ((hj++([(Ab.mk 4 0 hf.1 0)]:List Ab))++hs.1)),.row (.slice (some ⟨hN,0,none⟩) 1 1) 54 4 (A1 Ac ([(Ab.mk 4 0 hf.1 0)]:List Ab)),.blk b1 [Ai hb.fKind,Ai hb.fInt,rS hb.fStr,Ai (hb.fN+1)] 54]) Aa (Bd (wm Aa (wa Aa (Bd (wm Aa (wm Aa (ob xf λxg xh xi=>BI Il (CZ s hs.2 ([44]:Am) xg xh) Aa (An (cz xi Aa (λxj xk=>?_) (λxj xl=>?_))))))))))))))))
       ·refine Al (wm Aa (ck xk λxm xn=>wv (Bh Aa Aa xm) (wa Aa (Ak (A7 (Cv (H2:=[.blk b1 [Ai hb.fKind,Ai hb.fInt,rS hb.fStr,Ai (hb.fN+1)] 54,.row h9 54 4 (A1 Ac ((hj++([(Ab.mk 4 0 hf.1 0)]:List Ab))++hs.1)),.row (.slice (some ⟨hN,0,none⟩) 1 1) 54 4 (A1 Ac ([(Ab.mk 4 0 hf.1 0)]:List Ab))]) ((A6 (i:=2) Aa).trans (AcQ _ (AcK _))) ?_))))));have xo:=AY xn hw;exact Ax (Av (hH,((hj++([(Ab.mk 4 0 hf.1 0)]:List Ab))++hs.1,hs.2+1,(Ab.mk hb.fKind hb.fInt hb.fStr (hb.fN+1))),h9) ⟨xo,AcR _⟩ (A4.c5 Aa Aa Aa Aa Aa A4.nil) (sC (sC (sS sN))))
       ·refine Ah (wm Aa (wm Aa (wm Aa (ob xl λxp xq xr=>BI Il (CZ s hs.2 ([93]:Am) xp xq) Aa (wv (B7 Aa) (An (cz xr Aa (λxt xu=>?_) (λxt xv=>?_))))))))
        ·refine Ah (wa Aa (wv (r:=Ai (-1)) (AC Aa) (An (Ar (Au (Ae (AU ?_)))))));have xw:=Bm xu hw h4;refine Au (Ae (WK.up (d:=4) (r:=AB 4 (A1 Ac ([]:List Ab))) Aa (Up.le (DH.nil _)) ?_));obtain rfl:=Ap xw;exact Aq (CM Ks (A5 Aa) (A5 Aa)) (sS (sS (sS sN))) ⟨Aa,Aa⟩
        ·refine As (A7 (Cv (H2:=[.blk b1 [Ai hb.fKind,Ai hb.fInt,rS hb.fStr,Ai (hb.fN+1)] 54,.row h9 54 4 (A1 Ac ((hj++([(Ab.mk 4 0 hf.1 0)]:List Ab))++hs.1)),.row (.slice (some ⟨hN,0,none⟩) 1 1) 54 4 (A1 Ac ([(Ab.mk 4 0 hf.1 0)]:List Ab))]) ((A6 (i:=2) Aa).trans (AcQ _ (AcK _))) ?_));have xx:=AY xv hw;exact Ax (Av (hH,((hj++([(Ab.mk 4 0 hf.1 0)]:List Ab))++hs.1,hs.2,(Ab.mk hb.fKind hb.fInt hb.fStr (hb.fN+1))),h9) ⟨xx,AcR _⟩ (A4.c5 Aa Aa Aa Aa Aa A4.nil) (sC (sC (sS sN))))
    ·refine As (A9 (Ah (wm Aa (wm Aa (ob cJ λht xy xz=>BI WE (hB s hr ht xy) Aa (wm Aa (wv (A0 Aa Aa) (wv (A0 Aa Aa) (wa Aa (wa Aa (An (Ao (Ah (wm Aa (wv (Cn Aa Aa) (An (cz xz Aa (λx0 x1=>?_) (λx0 x2=>?_))))))))))))))))))
     ·refine Ah (wa Aa (wv (r:=Ai (-1)) (AC Aa) (An (Ar (Ae (Au (Ae (AU ?_))))))));have x3:=Bm x1 hw h4;refine Au (Ae (WK.up (d:=4) (r:=AB 4 (A1 Ac ([]:List Ab))) Aa (Up.le (DH.nil _)) ?_));obtain rfl:=Ap x3;exact Aq (CM Ks (A5 Aa) (A5 Aa)) (sS (sS sN)) ⟨Aa,Aa⟩
     ·refine As (A9 (Ah (wm Aa (wm Aa (ck x2 λx4 x5=>Exists.elim Ef λinf hinf=>B6 (xs:=hj) (ys:=ht.1) (enc:=Ac) (i:=1) Br hinf.1 hinf.2.1 hinf.2.2.1 hinf.2.2.2 Aa Aa Aa Aa Aa (I7.z Aa Aa) AO BG x4 Aa (λhA=>?_))))));refine wa Aa (Bd (vF Bp Aa BL (vL 1 Cc Aa (ck x5 λx6 x7=>wv (Bh Aa Aa x6) (vF Bp Aa BL (B5 (i:=1) BL Aa Aa (BU Aa) Aa Aa (cs':=[Ai hb.fKind,Ai hb.fInt,rS hb.fStr,Ai (hb.fN+1)]) Aa (H':=[.row hA 54 4 (A1 Ac (hj++ht.1)),.blk b1 [Ai hb.fKind,Ai hb.fInt,rS hb.fStr,Ai (hb.fN+1)] 54]) Aa (Bd (wm Aa (wa Aa (Bd (wm Aa (wm Aa (ob x7 λx8 x9 xA=>BI Il (CZ s ht.2 ([44]:Am) x8 x9) Aa (An (cz xA Aa (λxB xC=>?_) (λxB xD=>?_))))))))))))))))
      ·refine Al (wm Aa (ck xC λxE xF=>wv (Bh Aa Aa xE) (wa Aa (Ak (A7 (Cv (H2:=[.blk b1 [Ai hb.fKind,Ai hb.fInt,rS hb.fStr,Ai (hb.fN+1)] 54,.row hA 54 4 (A1 Ac (hj++ht.1))]) ((A6 (i:=1) Aa).trans (AcQ _ (AcK _))) ?_))))));have xG:=AY xF hw;exact Ax (Av (hH,(hj++ht.1,ht.2+1,(Ab.mk hb.fKind hb.fInt hb.fStr (hb.fN+1))),hA) ⟨xG,AcR _⟩ (A4.c5 Aa Aa Aa Aa Aa A4.nil) (sC (sC sN)))
      ·refine Ah (wm Aa (wm Aa (wm Aa (ob xD λxH xI xJ=>BI Il (CZ s ht.2 ([93]:Am) xH xI) Aa (wv (B7 Aa) (An (cz xJ Aa (λxK xL=>?_) (λxK xM=>?_))))))))
       ·refine Ah (wa Aa (wv (r:=Ai (-1)) (AC Aa) (An (Ar (Au (Ae (AU ?_)))))));have xN:=Bm xL hw h4;refine Au (Ae (WK.up (d:=4) (r:=AB 4 (A1 Ac ([]:List Ab))) Aa (Up.le (DH.nil _)) ?_));obtain rfl:=Ap xN;exact Aq (CM Ks (A5 Aa) (A5 Aa)) (sS (sS sN)) ⟨Aa,Aa⟩
       ·refine As (A7 (Cv (H2:=[.blk b1 [Ai hb.fKind,Ai hb.fInt,rS hb.fStr,Ai (hb.fN+1)] 54,.row hA 54 4 (A1 Ac (hj++ht.1))]) ((A6 (i:=1) Aa).trans (AcQ _ (AcK _))) ?_));have xO:=AY xM hw;exact Ax (Av (hH,(hj++ht.1,ht.2,(Ab.mk hb.fKind hb.fInt hb.fStr (hb.fN+1))),hA) ⟨xO,AcR _⟩ (A4.c5 Aa Aa Aa Aa Aa A4.nil) (sC (sC sN)))
   ·refine Bt (Ay ?_);have xP:=BD cG hw h4;exact Ay (Bb (Av ((hj,hr,hb),h0) xP (A4.c Aa (A4.c Aa (A4.c Aa A4.nil))) (sC (sC sN))))
  ·rintro⟨⟨hJ,hQ,hy⟩,hR⟩ hK;refine Ci (l':=[(6,rP b1 0),(8,rv hR),(9,Ai hQ)]) (H':=[.blk b1 (Ac hy) 54,.row hR 54 4 (A1 Ac hJ)]) Aa Aa ?_;replace hK:HP hJ hQ hy=some r:=hK;unfold HP at hK;refine Bf (A9 (Ah (wv (AM (i:=0) LA Bx Aa Aa Aa Aa) (AN (ys:=([hy]:List Ab)) (enc:=Ac) (css:=[[Ai hy.fKind,Ai hy.fInt,rS hy.fStr,Ai hy.fN]]) (xs:=[.tmp 90]) Br Bx DU Aa Aa Aa ⟨Dx.agg ⟨Up.refl _,Up.refl _,Up.refl _,Up.refl _,trivial⟩,trivial⟩ Aa AO Aa Aa Aa (λva=>?_)))));refine wa Aa (Bd (wm Aa (wm Aa (ck hK λxQ xR=>Exists.elim Ef λinf hinf=>B6 (xs:=([hy]:List Ab)) (ys:=hJ) (enc:=Ac) (i:=0) Br hinf.1 hinf.2.1 hinf.2.2.1 hinf.2.2.2 Aa Aa Aa Aa Aa (I7.w (i:=2) Aa Aa) AO BG xQ Aa (λvb=>?_)))));refine wa Aa (Bd (wm Aa (wm Aa (ck xR λxS xT=>wv (Bh Aa Aa xS) (wa Aa (wa Aa (An (Ar (WK.freeze (i:=0) Aa (WK.up (d:=4) (r:=AB 4 (A1 Ac (([hy]:List Ab)++hJ))) Aa (Up.fact (i:=0) Aa) ?_))))))))));obtain rfl:=Ap xT;exact Aq (CM Ks (A5 Aa) (A5 Aa)) (sS (sS (sS sN))) ⟨Aa,Aa⟩
theorem Nx:∀F:Nat,(∀(s:Am) (at_:Int) (r:(List Ab)×Int),HJ F s at_=some r→Fn Tryz.prog GE 93 [rS s,Ai at_] [] (λR H=>R=CY [AB 4 (A1 Ac r.1),Ai r.2]∧H=[]))∧(∀(s:Am) (at_:Int) (r:(List Ab)×Int),DW F s at_=some r→Fn Tryz.prog GE 124 [rS s,Ai at_] [] (λR H=>R=CY [AB 4 (A1 Ac r.1),Ai r.2]∧H=[]))
  | 0=>⟨(λ_ _ _ h=>by simp[HJ] at h),(λ_ _ _ h=>by simp[DW] at h)⟩
  | nn+1=>⟨(λs at_ r h=>Xr nn (DW nn) (Nx nn).2 s at_ r (by rw[HJ] at h;exact h)),(λs at_ r h=>Rm nn (HJ nn) (Nx nn).1 s at_ r (by rw[DW] at h;exact h))⟩
theorem Zq (F:Nat)(s:Am)(at_:Int)(r:(List Ab)×Int)(h:HJ F s at_=some r):Fn Tryz.prog GE 93 [rS s,Ai at_] [] (λR H=>R=CY [AB 4 (A1 Ac r.1),Ai r.2]∧H=[]):=(Nx F).1 s at_ r h
theorem VL (F:Nat)(s:Am)(r:(List Ab)×Int)(h:M7 F s=some r):Fn Tryz.prog GE 59 [rS s] [] (λR H=>R=CY [AB 4 (A1 Ac r.1),Ai r.2]∧H=[]):=by
 refine enter (n:=22) Tryz.func59 Aa Tryz.ntmps59 Aa (λw Z=>?_);unfold M7 at h;refine Ah (wa Aa (wa Aa (An (Ao (Ah (wm Aa (wv (BJ Di Aa) (wv (CD Aa Aa) (An (cz h Aa (λc1 h2=>?_) (λc1 h3=>?_)))))))))))
 ·refine Ah (wa Aa (wa Aa (An (Ar (Ae (WK.up (d:=2) (r:=AB 4 (A1 Ac ([]:List Ab))) Aa (Up.le (DH.nil _)) ?_))))));obtain rfl:=Ap h2;exact Aq (CM Tryz.results59 (A5 Aa) (A5 Aa)) sN ⟨Aa,Aa⟩
 ·refine As (A9 (Ah (wm Aa (ob h3 λr4 e6 h5=>BI WE (Zq F s 0 r4 e6) Aa (wm Aa (wv (A0 Aa Aa) (wv (A0 Aa Aa) (wa Aa (wa Aa (An (Ao (Ah (wm Aa (wm Aa (wv (BJ Di Aa) (wv (Bs Aa Aa) (An (cz h5 Aa (λc7 h8=>?_) (λc7 h9=>?_)))))))))))))))))))
  ·refine Ah (wa Aa (wa Aa (An (Ar (Ae (WK.up (d:=2) (r:=AB 4 (A1 Ac ([]:List Ab))) Aa (Up.le (DH.nil _)) ?_))))));obtain rfl:=Ap h8;exact Aq (CM Tryz.results59 (A5 Aa) (A5 Aa)) sN ⟨Aa,Aa⟩
  ·refine As (A9 (Ah (wm Aa (ob h9 λha hb he=>BI Tryz.call73 (Pq F r4.1 ha hb) Aa (wv (A0 Aa Aa) (wv (A0 Aa Aa) (wa Aa (wa Aa (An (Ar ?_))))))))));obtain rfl:=Ap he;exact Aq (CM Tryz.results59 (A5 Aa) (A5 Aa)) sN ⟨Aa,Aa⟩
end Go.Proofs.YtghdglcmblpbeaaGreatDoor.Q
namespace Go.Proofs.YtghdglcmblpbeaaGreatDoor
open Go
set_option linter.unusedVariables false
def Md (ys:(List Ab)):Option ((List Ab)):=
 AS (DN 40 (([]:List Ab).length+ys.length))<|some (([]:List Ab)++ys)
def GP (key:Am)(x:(List Ab))(out:(List (List Ab))):Option (Bool×(List (List Ab))):=
 Bi (Md x) λr1=>AS (DN 24 (out.length+([r1]:List (List Ab)).length))<|some (true,out++([r1]:List (List Ab)))
def It (F:Nat)(v:(List Ab))(ha:Int)(hb:Int)(hg:(List (List Ab))):Option (Stp (Int×Int×(List (List Ab))) (Out ((List (List Ab))) ((List (List Ab))))):=
 AT (decide (hb<((At v 0).fN))) (AT (decide (((At v 0).fKind)=6)) (AS (Co ha (v.length:Int))<|AS (Bu .i64 (ha+1))<|AS (GM (ha+1) (v.length:Int))<|Bi (GO F (List.drop (Int.toNat (ha+1)) v)) λhe=>AS (Bu .i64 ((ha+1)+he.1))<|AS (GM (ha+1) ((ha+1)+he.1))<|AS (GM ((ha+1)+he.1) (v.length:Int))<|Bi (GP ((At v ha).fStr) (List.take (Int.toNat ((ha+1)+he.1)-Int.toNat (ha+1)) (List.drop (Int.toNat (ha+1)) v)) hg) λhh=>AT (!hh.1) (some (.out (.ret hh.2))) (AS (Bu .i64 (hb+1))<|some (.next ((ha+1)+he.1,hb+1,hh.2)))) (AS (GM ha (v.length:Int))<|Bi (GO F (List.drop (Int.toNat ha) v)) λhf=>AS (Bu .i64 (ha+hf.1))<|AS (GM ha (ha+hf.1))<|AS (GM (ha+hf.1) (v.length:Int))<|Bi (GP ([]:Am) (List.take (Int.toNat (ha+hf.1)-Int.toNat ha) (List.drop (Int.toNat ha) v)) hg) λhi=>AT (!hi.1) (some (.out (.ret hi.2))) (AS (Bu .i64 (hb+1))<|some (.next (ha+hf.1,hb+1,hi.2))))) (some (.out (.go hg)))
def JW (ha:(List (List Ab))):Option ((List (List Ab))):=
 some ha
def O5 (F:Nat)(v:(List Ab))(out:(List (List Ab))):Option ((List (List Ab))):=
 AS (Co 0 (v.length:Int))<|Bi (BS (λσ=>It F v σ.1 σ.2.1 σ.2.2) F (1,0,out)) (BP λν=>JW ν)
def KB (F:Nat)(v:(List Ab)):Option ((List (List Ab))×Int):=
 Bi (Es F v) λr1=>AT (!decide (r1=0)) (some (([]:List (List Ab)),r1)) (AS (Co 0 (v.length:Int))<|AT (((!decide (((At v 0).fKind)=5))&&(!decide (((At v 0).fKind)=6)))) (some (([]:List (List Ab)),7)) (Bi (O5 F v ([]:List (List Ab))) λha=>some (ha,0)))
end Go.Proofs.YtghdglcmblpbeaaGreatDoor
namespace Go.Proofs.YtghdglcmblpbeaaGreatDoor.Q
open Go Go.RowKit
set_option linter.unusedVariables false
set_option linter.unusedSimpArgs false
def Ut (ops:List Oper)(N:Nat):Bool:=
 let cl:=PV ops []
 (List.range ops.length).all (λi=>(Hv (ops.getD i default)).all (·<i))&&
 (List.range ops.length).all (λi=>i<N||(List.range i).all (λj=>(cl.getD i 0).testBit j))
section
variable {P : Program} {Q : Exit → Act → World → Prop}
theorem Tp {listed:Array Bool}{len m:Nat}(hs:listed.size=len)(hm:m≤len)(h:∀j,j<len→(listed.getD j true=true↔j<m)):listed.toList.count false=len-m:=by
 have:listed.toList=List.replicate m true++List.replicate (len-m) false:=by
  apply List.ext_getElem
  ·simp[hs];omega
  ·intro j h1 h2;have hj:j<len:=by simpa[hs] using h1
   have:=h j hj;rw[Array.getD_eq_getD_getElem?,Array.getElem?_eq_getElem (by omega)] at this;simp only[Adw] at this;rw[Array.getElem_toList,List.getElem_append]
   split
   ·rename_i h3
    simp at h3;simp[this.2 h3]
   ·rename_i h3
    simp at h3;simp only[List.getElem_replicate]
    cases hb:listed[j] with
    | false=>rfl
    | true=>have:=this.1 hb;omega
 rw[this];simp[List.count_append,List.count_replicate]
theorem Vb {listed:Array Bool}{j:Nat}(h:j<listed.size)(d d':Bool):listed.getD j d=listed.getD j d':=by
 simp[Array.getD_eq_getD_getElem?,Array.getElem?_eq_getElem h]
theorem Qa {ops:List Oper}{listed:Array Bool}{i:Nat}{o:Oper}(ho:ops[i]? =some o)(hb:∀e∈Hv o,listed.getD e true=true)
  (hcl:∀j o,ops[j]? =some o→listed.getD j true=true→∀e∈Hv o,listed.getD e true=true) (j:Nat) (h:((PV ops []).getD i 0).testBit j=true):j=i∨listed.getD j true=true:=
 JM ops (λk=>k=i∨listed.getD k true=true) ops [] (λt o' ht e he hF=>by
  rcases hF with hF | hF
  ·simp at hF;subst hF;rw[ho] at ht;simp at ht;subst ht;exact .inr (hb e he)
  ·exact .inr (hcl t o' ht (by simpa using hF) e he)) (λj i hb=>by simp at hb) i j h (.inl rfl)
theorem LR {ops:List Oper}{listed:Array Bool}{i:Nat}(hsz:listed.size=ops.length)(hlt:∀i,i<ops.length→∀e∈Hv (ops.getD i default),e<i)(h:i∈Region.ready .any ops.toArray listed) :
  listed.getD i true=false∧i<ops.length∧∃o,ops[i]? =some o∧∀e∈Hv o,listed.getD e true=true:=by
 obtain⟨h1,o,ho,h2⟩:=mem_ready.1 h;have ho':ops[i]? =some o:=by simpa using ho
 have hil:=(List.getElem?_eq_some_iff.1 ho').1;refine⟨h1,hil,o,ho',λe he=>?_⟩;have hei:=hlt i hil e (by rw[AcX,ho'];exact he);simp only[Hv,List.mem_map,List.mem_filter] at he;obtain⟨x,⟨hx1,hx2⟩,rfl⟩:=he;have h3:=h2 x (by simpa using hx1) hx2;rw[Vb (by omega) true false];exact h3
theorem LJ {ops:List Oper}{listed:Array Bool}(hsz:listed.size=ops.length)(hlt:∀i,i<ops.length→∀e∈Hv (ops.getD i default),e<i)(h:Region.ready .any ops.toArray listed=[]) :
  ∀j,j<ops.length→listed.getD j true=true:=by
 intro j
 induction j using Nat.strongRecOn with
 | ind j ih=>
  intro hj
  cases hb:listed.getD j true with
  | true=>rfl
  | false=>
   have:j∈Region.ready .any ops.toArray listed:=mem_ready.2 ⟨hb,ops[j],by simp[hj],λe he hbn=>by
    have hel:e.on<j:=hlt j hj e.on (by
     rw[AcX,AcS hj];simp only[Hv,Adw,List.mem_map,List.mem_filter];exact⟨e,⟨by simpa using he,hbn⟩,rfl⟩)
    rw[Vb (by omega) false true];exact ih e.on hel (by omega)⟩
   rw[h] at this;cases this
theorem O9 {listed:Array Bool}{i j:Nat}(hi:i<listed.size):(listed.setIfInBounds i true).getD j true=true↔(j=i∨listed.getD j true=true):=by
 by_cases hj:i=j
 ·subst hj;simp[hi]
 ·rw[getD_set_ne true hj];exact⟨.inr,λh=>h.elim (λh=>absurd h.symm hj) id⟩
theorem VC {listed:Array Bool}{i fuel:Nat}(hi:i<listed.size)(hun:listed.getD i true=false)(hc:listed.toList.count false=fuel+1):(listed.setIfInBounds i true).toList.count false=fuel:=by
 have hfi:listed.toList[i]? =some false:=by
  rw[Array.getD_eq_getD_getElem?,Array.getElem?_eq_getElem hi] at hun;simp at hun;simp[hi,hun]
 rw[Array.toList_setIfInBounds];have h1:=List.count_set (a:=true) (b:=false) (l:=listed.toList) (i:=i) (by simpa using hi);have h2:listed.toList[i]'(by simpa using hi)=false:=by
  have:=List.getElem?_eq_some_iff.1 hfi;exact this.2
 rw[h1,h2,hc];rfl
theorem NX {ops:List Oper}{N:Nat}(hlt:∀i,i<ops.length→∀e∈Hv (ops.getD i default),e<i)
  (hch:∀i,N≤i→i<ops.length→∀j,j<i→((PV ops []).getD i 0).testBit j=true):∀(k m:Nat) (listed:Array Bool) (a:Act) (w:World),m+k=ops.length→N≤m→listed.size=ops.length→
   (∀j,j<ops.length→(listed.getD j true=true↔j<m))→(∀j o,ops[j]? =some o→listed.getD j true=true→∀e∈Hv o,listed.getD e true=true)→wpList P ops.toArray Q (ops.drop m) a w→wpAny P .any ops.toArray Q k listed a w
 | 0,m,listed,a,w,hk,hN,hsz,hl,hcl,h=>by
  refine⟨?_,?_⟩
  ·cases hr:Region.ready .any ops.toArray listed with
   | nil=>rfl
   | cons i r=>
    obtain⟨h1,h2,_⟩:=LR hsz hlt (i:=i) (by rw[hr];simp);rw[(hl i h2).2 (by omega)] at h1;cases h1
  ·rw[List.drop_of_length_le (by omega)] at h;exact h
 | k+1,m,listed,a,w,hk,hN,hsz,hl,hcl,h=>by
  refine⟨λhr=>?_,λi hi=>?_⟩
  ·have:=(hl m (by omega)).1 (LJ hsz hlt hr m (by omega));omega
  ·obtain⟨h1,h2,o,ho,hb⟩:=LR hsz hlt hi;have him:i=m:=by
    have hmi : ¬ i<m:=λh'=>by rw[(hl i h2).2 h'] at h1;cases h1
    by_cases e:i=m
    ·exact e
    ·rcases Qa ho hb hcl m (hch i (by omega) h2 m (by omega)) with h3 | h3
     ·exact h3.symm
     ·have:=(hl m (by omega)).1 h3;omega
   subst him;have hd:ops.drop i=o::ops.drop (i+1):=by
    rw[List.drop_eq_getElem_cons h2]
    congr 1
    exact(List.getElem?_eq_some_iff.1 ho).2
   rw[hd] at h;have ih:∀a' w',wpList P ops.toArray Q (ops.drop (i+1)) a' w'→wpAny P .any ops.toArray Q k (listed.setIfInBounds i true) a' w':=λa' w' h'=>by
    refine NX hlt hch k (i+1) _ a' w' (by omega) (by omega) (by simpa using hsz) (λj hj=>?_) (λj o' hj hlj e he=>?_) h'
    ·rw[O9 (by omega),hl j hj];omega
    ·rw[O9 (by omega)] at hlj ⊢;rcases hlj with rfl | hlj
     ·rw[ho] at hj;simp at hj;subst hj;exact .inr (hb e he)
     ·exact .inr (hcl j o' hj hlj e he)
   unfold wpOp;have hoA:ops.toArray[i]? =some o:=by simpa using ho
   simp only[hoA];simp only[wpList] at h
   split
   ·rename_i hw'
    rw[Ad9 hw'] at h;exact h.imp (λh=>Oper.wp_mono ih h) (λh=>h)
   ·rename_i hw'
    rw[Ad2 hw'] at h;exact ih _ _ h
theorem Aa0 {id:Nat}{ops:List Oper}{N:Nat}(hm:P.follows .mixedOrders=true)(hB:Ut ops N=true)(hN:N≤ops.length)(I:(Nat→Bool)→Act→World→Prop)
  (hext:∀S S' a w,(∀j,j<N→S j=S' j)→I S a w→I S' a w) {a:Act} {w:World} (h0:I (λ_=>false) a { w with drawn:=w.drawn+1 })
  (step:∀S i o a w,i<N→S i=false→ops[i]? =some o→(∀e∈Hv o,e<i∧S e=true)→I S a w→∀K:Act→World→Prop,(∀a' w',I (λj=>j ==i||S j) a' w'→K a' w')→
   (Region.wanted o (yielded ops.toArray a.tmps)=true→o.wp P a w K Q)∧(Region.wanted o (yielded ops.toArray a.tmps)=false→K (a.put o.dst undef) w))
  (fin:∀a w,I (λ_=>true) a w→wpList P ops.toArray Q (ops.drop N) a w):(Code.region id ops.toArray true).wp P Q a w:=by
 simp only[Ut,AcP,Adx,List.mem_range,AcI,Ady] at hB;obtain⟨hlt,hch0⟩:=hB;have hch:∀i,N≤i→i<ops.length→∀j,j<i→((PV ops []).getD i 0).testBit j=true:=λi h1 h2 j hj=>by
  rcases hch0 i h2 with h3 | h3
  ·omega
  ·exact h3 j hj
 refine wp_region_any hm ?_;have main:∀(fuel:Nat) (listed:Array Bool) (a:Act) (w:World),listed.size=ops.length→listed.toList.count false=fuel→I (λj=>listed.getD j true) a w→
   (∀j o,ops[j]? =some o→listed.getD j true=true→∀e∈Hv o,listed.getD e true=true)→(∀j,N≤j→j<ops.length→listed.getD j true=false)→wpAny P .any ops.toArray Q fuel listed a w:=by
  intro fuel;have allin:∀(fuel:Nat) (listed:Array Bool) (a:Act) (w:World),listed.size=ops.length→listed.toList.count false=fuel→I (λj=>listed.getD j true) a w→
   (∀j o,ops[j]? =some o→listed.getD j true=true→∀e∈Hv o,listed.getD e true=true)→(∀j,N≤j→j<ops.length→listed.getD j true=false)→(∀j,j<N→listed.getD j true=true)→wpAny P .any ops.toArray Q fuel listed a w:=by
   intro fuel listed a w hsz hc hI hcl hlast hall;have hl:∀j,j<ops.length→(listed.getD j true=true↔j<N):=λj hj=>by
    constructor
    ·intro h
     by_cases hjN:j<N
     ·exact hjN
     ·rw[hlast j (by omega) hj] at h;cases h
    ·exact hall j
   have:=Tp hsz hN hl;refine NX hlt hch fuel N listed a w (by omega) (Adg _) hsz hl hcl (fin a w (hext _ _ a w (λj hj=>hall j hj) hI))
  induction fuel with
  | zero=>
   intro listed a w hsz hc hI hcl hlast;refine allin 0 listed a w hsz hc hI hcl hlast (λj hj=>?_)
   cases hb:listed.getD j true with
   | true=>rfl
   | false=>
    have:false∈listed.toList:=by
     rw[Array.getD_eq_getD_getElem?,Array.getElem?_eq_getElem (by omega)] at hb;simp at hb;rw[← hb];simp
    have:=List.count_pos_iff.2 this;omega
  | succ fuel ih=>
   intro listed a w hsz hc hI hcl hlast
   by_cases hall:∀j,j<N→listed.getD j true=true
   ·exact allin (fuel+1) listed a w hsz hc hI hcl hlast hall
   ·refine⟨λhr=>absurd (λj hj=>LJ hsz hlt hr j (by omega)) hall,λi hi=>?_⟩;obtain⟨h1,h2,o,ho,hb⟩:=LR hsz hlt hi;have hiN:i<N:=by
     by_cases h:i<N
     ·exact h
     ·refine absurd (λj hj=>?_) hall;rcases Qa ho hb hcl j (hch i (by omega) h2 j (by omega)) with h3 | h3
      ·omega
      ·exact h3
    have K':∀a' w',I (λj=>j ==i||listed.getD j true) a' w'→wpAny P .any ops.toArray Q fuel (listed.setIfInBounds i true) a' w':=λa' w' hI'=>by
     refine ih _ a' w' (by simpa using hsz) (VC (by omega) h1 hc) (hext _ _ a' w' (λj hj=>?_) hI') (λj o' hj hlj e he=>?_) (λj h3 h4=>?_)
     ·have:=O9 (listed:=listed) (i:=i) (j:=j) (by omega)
      cases hq:(listed.setIfInBounds i true).getD j true with
      | true=>
       rw[hq] at this;rcases this.1 rfl with h | h
       ·simp[h]
       ·simp[h]
      | false=>
       rw[hq] at this;have h5 : ¬ (j=i∨listed.getD j true=true):=λh=>by have:=this.2 h;cases this
       cases hz:listed.getD j true with
       | true=>exact absurd (.inr hz) h5
       | false=>
        have:j≠i:=λh=>h5 (.inl h);simp[this]
     ·rw[O9 (by omega)] at hlj ⊢;rcases hlj with rfl | hlj
      ·rw[ho] at hj;simp at hj;subst hj;exact .inr (hb e he)
      ·exact .inr (hcl j o' hj hlj e he)
     ·rw[getD_set_ne true (by omega)];exact hlast j h3 h4
    obtain⟨k1,k2⟩:=step _ i o a w hiN h1 ho (λe he=>⟨hlt i h2 e (by rw[AcX,ho];exact he),hb e he⟩) hI _ K';unfold wpOp;have hoA:ops.toArray[i]? =some o:=by simpa using ho
    simp only[hoA]
    split
    ·rename_i hw';exact .inl (k1 hw')
    ·rename_i hw';exact k2 (by simpa using hw')
 have e0:∀j,j<ops.length→(Array.replicate ops.length false).getD j true=false:=λj hj=>by simp[hj]
 have hsz0:ops.toArray.size=ops.length:=by simp
 rw[hsz0];refine main ops.length (Array.replicate ops.length false) a _ (by simp) (by simp) (hext _ _ _ _ (λj hj=>(e0 j (by omega)).symm) h0) (λj o hj hl=>?_) (λj _ h2=>e0 j h2);rw[e0 j (List.getElem?_eq_some_iff.1 hj).1] at hl;cases hl
end
structure Sa where
 deps:List Nat
 r:Rp
 al:Option (List Rp×TypeId):=none
 late:Option (Nat×List Rp):=none
 sto:Option Nat:=none
def Ib (sp:List Sa)(i:Nat):Sa:=sp.getD i { deps:=[],r:=rv undef }
def Zn (sp:List Sa):List Sp:=sp.map λs=>⟨s.deps,s.r,0⟩
def Nv (β:Nat→Nat)(s:Sa)(i:Nat):Rp:=match s.al with
 | none=>s.r
 | some _=>rv (.pointer (some ⟨β i,0,none⟩))
def NJ (S:Nat→Bool)(late:Option (Nat×List Rp))(cs:List Rp):List Rp:=match late with
 | none=>cs
 | some q=>if S q.1 then q.2 else cs
def HX (S:Nat→Bool)(β:Nat→Nat):List Sa→Nat→List Ent
 | [],_=>[]
 | s::r,t=>match s.al with
  | some p=>if S t then .blk (β t) (NJ S s.late p.1) p.2::HX S β r (t+1) else HX S β r (t+1)
  | none=>HX S β r (t+1)
def Wr (β:Nat→Nat):List Sa→Nat→List Ent
 | [],_=>[]
 | s::r,t=>match s.al with
  | some p=>.blk (β t) (match s.late with | none=>p.1 | some q=>q.2) p.2::Wr β r (t+1)
  | none=>Wr β r (t+1)
def Qd (β:Nat→Nat):List Oper→List Sa→Nat→Fr→Fr
 | o::os,s::sp,i,l=>match o.dst with
  | some d=>(d,Nv β s i)::Qd β os sp (i+1) l
  | none=>Qd β os sp (i+1) l
 | _,_,_,l=>l
theorem Mc {S S':Nat→Bool}{late:Option (Nat×List Rp)}{cs:List Rp}(h:∀q,late=some q→S q.1=S' q.1):NJ S late cs=NJ S' late cs:=by
 unfold NJ
 cases late with
 | none=>rfl
 | some q=>simp only[];rw[h q rfl]
theorem GJ (S:Nat→Bool)(β:Nat→Nat)(s:Sa)(r:List Sa)(t:Nat):HX S β (s::r) t=match s.al with
  | some p=>if S t then .blk (β t) (NJ S s.late p.1) p.2::HX S β r (t+1) else HX S β r (t+1)
  | none=>HX S β r (t+1):=rfl
theorem I3 {S S':Nat→Bool}{β β':Nat→Nat}:∀(r:List Sa) (t0:Nat),(∀(t:Nat) (s:Sa),r[t]? =some s→s.al≠none→S (t0+t)=S' (t0+t)∧(S (t0+t)=true→β (t0+t)=β' (t0+t)∧∀q,s.late=some q→S q.1=S' q.1))→HX S β r t0=HX S' β' r t0
 | [],_,_=>rfl
 | s::r,t0,h=>by
  have ih:=I3 r (t0+1) (λt s hs hn=>by
   have:=h (t+1) s (by simpa using hs) hn;rw[show t0+1+t=t0+(t+1) from by omega];exact this)
  unfold HX;rw[ih]
  cases ha:s.al with
  | none=>rfl
  | some p=>
   obtain⟨h1,h2⟩:=h 0 s rfl (by rw[ha];exact nofun);simp only[Nat.add_zero] at h1 h2;simp only[];rw[← h1]
   split
   ·rename_i hS;rw[(h2 hS).1,Mc (h2 hS).2]
   ·rfl
theorem To (β:Nat→Nat):∀(r:List Sa) (t0:Nat),HX (λ_=>true) β r t0=Wr β r t0
 | [],_=>rfl
 | s::r,t0=>by
  unfold HX Wr;rw[To β r (t0+1)]
  cases s.al with
  | none=>rfl
  | some p=>cases hl:s.late<;>simp[NJ,hl]
theorem QT (β:Nat→Nat):∀(r:List Sa) (t0:Nat),HX (λ_=>false) β r t0=[]
 | [],_=>rfl
 | s::r,t0=>by
  unfold HX;rw[QT β r (t0+1)]
  cases s.al<;>simp
theorem Tn {S:Nat→Bool}{β:Nat→Nat}{i b:Nat}{p:List Rp×TypeId}:∀(r:List Sa) (t0 k:Nat) (s:Sa),i=t0+k→r[k]? =some s→s.al=some p→S i=false→(∀(t:Nat) (s:Sa) (q:Nat×List Rp),r[t]? =some s→s.al≠none→s.late=some q→q.1≠i)→(∀q,s.late=some q→S q.1=false∧q.1≠i)→
  (HX (λj=>j ==i||S j) (λj=>if j=i then b else β j) r t0).Perm (.blk b p.1 p.2::HX S β r t0)
 | [],_,_,_,_,h,_,_,_,_=>by simp at h
 | s'::r,t0,0,s,hi,h,ha,hS,hne,hl=>by
  simp at h hi;subst h;subst hi;have e:=I3 (S:=λj=>j ==i||S j) (S':=S) (β:=λj=>if j=i then b else β j) (β':=β) r (i+1) (λt s hs hn=>by
   have:i+1+t≠i:=by omega
   refine⟨by simp[this],λ_=>⟨by simp[this],λq hq=>?_⟩⟩;have:=hne (t+1) s q (by simpa using hs) hn hq;simp[this])
  have ec:NJ (λj=>j ==i||S j) s'.late p.1=p.1:=by
   unfold NJ
   cases hq:s'.late with
   | none=>rfl
   | some q=>
    obtain⟨h1,h2⟩:=hl q hq;simp[h1,h2]
  unfold HX;rw[e,ha];simp only[hS,BEq.rfl,Adu,if_true,ec];simp
 | s'::r,t0,k+1,s,hi,h,ha,hS,hne,hl=>by
  have ih:=Tn (S:=S) (β:=β) (i:=i) (b:=b) (p:=p) r (t0+1) k s (by omega) (by simpa using h) ha hS (λt s q hs=>hne (t+1) s q (by simpa using hs)) hl;have hne0:t0≠i:=by omega
  have hne':(t0 ==i)=false:=by simpa using hne0
  unfold HX
  cases ha':s'.al with
  | none=>exact ih
  | some q=>
   simp only[hne',Ade,Ad2 hne0];rw[Mc (S:=λj=>j ==i||S j) (S':=S) (λq hq=>by
    have:=hne 0 s' q rfl (by rw[ha'];exact nofun) hq;simp[this])]
   cases hS':S t0 with
   | true=>simpa using(AcQ _ ih).trans (List.Perm.swap _ _ _)
   | false=>simpa using ih
theorem Tm {S:Nat→Bool}{β:Nat→Nat}{i j:Nat}{p:List Rp×TypeId}{ncs:List Rp}:∀(r:List Sa) (t0 k:Nat) (s:Sa),j=t0+k→r[k]? =some s→s.al=some p→s.late=some (i,ncs)→S j=true→S i=false→(∀(t:Nat) (s:Sa) (q:Nat×List Rp),r[t]? =some s→s.al≠none→s.late=some q→t0+t≠j→q.1≠i)→(∀(t:Nat) (s:Sa),r[t]? =some s→s.al≠none→t0+t≠i)→
  ∃H',(HX S β r t0).Perm (.blk (β j) p.1 p.2::H')∧(HX (λj=>j ==i||S j) β r t0).Perm (.blk (β j) ncs p.2::H')
 | [],_,_,_,_,h,_,_,_,_,_,_=>by simp at h
 | s'::r,t0,0,s,hj,h,ha,hl,hSj,hSi,hne,hni=>by
  simp at h hj;subst h;subst hj;have e:=I3 (S:=λx=>x ==i||S x) (S':=S) (β:=β) (β':=β) r (j+1) (λt s hs hn=>by
   have h1:=hni (t+1) s (by simpa using hs) hn;have h1':j+1+t≠i:=by omega
   refine⟨by simp[h1'],λ_=>⟨rfl,λq hq=>?_⟩⟩;have:=hne (t+1) s q (by simpa using hs) hn hq (by omega);simp[this])
  refine⟨HX S β r (j+1),?_,?_⟩
  ·rw[GJ];rw[ha];simp[hSj,NJ,hl,hSi]
  ·rw[GJ];rw[ha,e];simp[hSj,NJ,hl]
 | s'::r,t0,k+1,s,hj,h,ha,hl,hSj,hSi,hne,hni=>by
  obtain⟨H',h1,h2⟩:=Tm (S:=S) (β:=β) (i:=i) (j:=j) (p:=p) (ncs:=ncs) r (t0+1) k s (by omega) (by simpa using h) ha hl hSj hSi (λt s q hs hn hq hx=>hne (t+1) s q (by simpa using hs) hn hq (by omega)) (λt s hs hn=>by
   have:=hni (t+1) s (by simpa using hs) hn;omega)
  cases ha':s'.al with
  | none=>exact⟨H',by rw[GJ,ha'];exact h1,by rw[GJ,ha'];exact h2⟩
  | some q=>
   have hi0:=hni 0 s' rfl (by rw[ha'];exact nofun);have hi0':(t0 ==i)=false:=by simpa using hi0
   have ec:NJ (λx=>x ==i||S x) s'.late q.1=NJ S s'.late q.1:=Mc (λq hq=>by
    have:=hne 0 s' q rfl (by rw[ha'];exact nofun) hq (by omega);simp[this])
   cases hS':S t0 with
   | true=>
    refine⟨.blk (β t0) (NJ S s'.late q.1) q.2::H',?_,?_⟩
    ·rw[GJ];rw[ha'];simpa[hS'] using(AcQ _ h1).trans (List.Perm.swap _ _ _)
    ·rw[GJ];rw[ha'];simp only[hi0',Ade,hS',if_true,ec];exact(AcQ _ h2).trans (List.Perm.swap _ _ _)
   | false=>
    refine⟨H',?_,?_⟩
    ·rw[GJ];rw[ha'];simpa[hS'] using h1
    ·rw[GJ];rw[ha'];simp only[hi0',Ade,hS'];simpa using h2
def okA (n:Nat)(ops:List Oper)(N:Nat)(keys:List Nat)(deps:List (List Nat))(als:List Bool)(lates stos:List (Option Nat)):Bool:=
 Ut ops N&&decide (N≤ops.length)&&
 (List.range N).all (λi=>match Ga ops i with
  | some d=>decide (d<n)&&!keys.contains d&&(List.range N).all (λj=>j ==i||Ga ops j !=some d)
  | none=>true)&&
 (List.range N).all (λi=>(deps.getD i []).all (λj=>decide (j<N)&&(Hv (ops.getD i default)).contains j&&!als.getD j true))&&
 (List.range N).all (λi=>match stos.getD i none with
  | some j=>decide (j<N)&&(Hv (ops.getD i default)).contains j&&als.getD j false&&!als.getD i true
  | none=>true)&&
 (List.range N).all (λj=>match lates.getD j none with
  | some k=>decide (k<N)&&als.getD j false&&stos.getD k none ==some j
  | none=>true)
def Ac6 (P:Program)(n:Nat)(c:Cx)(opsA:Array Oper)(Q:Exit→Act→World→Prop)(o:Oper)(p:List Rp×TypeId):Prop:=
 ∀H a w Z (K:Act→World→Prop),St c H Z w→(∀b w',St c (.blk b p.1 p.2::H) Z w'→K (a.put o.dst (.pointer (some ⟨b,0,none⟩))) w')→
  Region.wanted o (yielded opsA a.tmps)=true∧o.wp P a w K Q
def ObA (P:Program)(n:Nat)(c:Cx)(opsA:Array Oper)(Q:Exit→Act→World→Prop)(ops:List Oper)(sp:List Sa)(l0:Fr)(H:List Ent)(i:Nat)(o:Oper):Prop:=
 match (Ib sp i).sto with
 | some j=>o.dst=none∧∃d p ncs,Ga ops j=some d∧(Ib sp j).al=some p∧(Ib sp j).late=some (i,ncs)∧
   ∀b H,GK P n c opsA Q ((d,rv (.pointer (some ⟨b,0,none⟩)))::CA ops (Zn sp) (Ib sp i).deps l0) (.blk b p.1 p.2::H) o (rv undef) (.blk b ncs p.2::H)
 | none=>match (Ib sp i).al with
  | none=>∀E,GK P n c opsA Q (CA ops (Zn sp) (Ib sp i).deps l0) (H++E) o (Ib sp i).r (H++E)
  | some p=>Ac6 P n c opsA Q o p
def NN (P:Program)(n:Nat)(c:Cx)(opsA:Array Oper)(Q:Exit→Act→World→Prop)(ops:List Oper)(sp:List Sa)(l0:Fr)(H:List Ent):Nat→List Oper→Prop
 | i,o::rest=>ObA P n c opsA Q ops sp l0 H i o∧NN P n c opsA Q ops sp l0 H (i+1) rest
 | _,[]=>True
section
variable {P : Program} {n : Nat} {c : Cx} {opsA : Array Oper} {Q : Exit → Act → World → Prop} {l l0 : Fr} {H : List Ent} {sp : List Sa}
theorem NN.at {ops:List Oper}:∀{k:Nat} {rest:List Oper},NN P n c opsA Q ops sp l0 H k rest→∀(t:Nat) o,rest[t]? =some o→ObA P n c opsA Q ops sp l0 H (k+t) o
 | k,o::rest,⟨h1,h2⟩,t,o',ht=>by
  cases t with
  | zero=>simp at ht;subst ht;exact h1
  | succ t=>
   have:=NN.at h2 t o' (by simpa using ht);rw[show k+(t+1)=k+1+t from by omega];exact this
 | _,[],_,t,o,h=>by simp at h
theorem Vl {β:Nat→Nat}{a:Act}{Z:Fz}(h0:DP n l0 a Z):∀(os:List Oper) (ss:List Sa) (k:Nat),(∀(t:Nat) o s d,os[t]? =some o→ss[t]? =some s→o.dst=some d→∃v,a.tmps[d]? =some v∧(Nv β s (k+t)).p Z v)→DP n (Qd β os ss k l0) a Z
 | [],_,_,_=>by unfold Qd;exact h0
 | _::_,[],_,_=>by unfold Qd;exact h0
 | o::os,s::ss,k,h=>by
  have ih:=Vl h0 os ss (k+1) (λt o' s' d h1 h2 h3=>by
   have:=h (t+1) o' s' d (by simpa using h1) (by simpa using h2) h3;rw[show k+1+t=k+(t+1) from by omega];exact this)
  unfold Qd
  cases hd:o.dst with
  | none=>exact ih
  | some d=>
   refine⟨ih.size,ih.defers,λi r hi=>?_⟩;rw[Db] at hi
   split at hi
   ·rename_i e;subst e;simp at hi;subst hi;exact h 0 o s d rfl rfl hd
   ·exact ih.tm i r hi
theorem Aa1 {id:Nat}{ops:List Oper}(N:Nat)(sp:List Sa)(hm:P.follows .mixedOrders=true)(hB:okA n ops N (I0 l0) (sp.map (·.deps)) (sp.map (·.al.isSome)) (sp.map (·.late.map (·.1))) (sp.map (·.sto))=true)(hl0:Aag l0 l)(hsp:sp.length=N)
  (hob:NN P n c ops.toArray Q ops sp l0 H 0 (ops.take N)) (h:∀β,WL P n c ops.toArray Q (ops.drop N) (Qd β (ops.take N) sp 0 l0) (H++Wr β sp 0)):WC P n c (.region id ops.toArray true) Q l H:=by
 intro a w Z ha hw;simp only[okA,AcP,Adx,List.mem_range,AcI] at hB;obtain⟨⟨⟨⟨⟨b1,bN⟩,b2⟩,b3⟩,b4⟩,b5⟩:=hB;have hget:∀i,i<N→(ops.take N)[i]? =ops[i]?:=λi hi=>by rw[Ad4,Ad9 hi]
 have hsa:∀i,i<N→sp[i]? =some (Ib sp i):=λi hi=>by
  simp[Ib,AcX,AcS (show i<sp.length by omega)]
 have hspq:∀i,i<N→(E2 (Zn sp) i)=⟨(Ib sp i).deps,(Ib sp i).r,0⟩:=λi hi=>by
  simp[E2,Zn,AcX,Ad6,hsa i hi]
 have hals:∀j b,j<N→(sp.map (·.al.isSome)).getD j b=(Ib sp j).al.isSome:=λj b hj=>by simp[AcX,Ad6,hsa j hj]
 have hstos:∀j,j<N→(sp.map (·.sto)).getD j none=(Ib sp j).sto:=λj hj=>by simp[AcX,Ad6,hsa j hj]
 have hlates:∀j,j<N→(sp.map (·.late.map (·.1))).getD j none=(Ib sp j).late.map (·.1):=λj hj=>by simp[AcX,Ad6,hsa j hj]
 have S1:∀i o j,i<N→ops[i]? =some o→(Ib sp i).sto=some j→j<N∧j∈Hv o∧(Ib sp j).al≠none∧(Ib sp i).al=none:=λi o j hi ho hs=>by
  have h1:=b4 i hi;rw[hstos i hi,hs] at h1;simp only[AcP,AcW,AcI] at h1;obtain⟨⟨⟨h2,h3⟩,h4⟩,h5⟩:=h1;rw[hals j _ h2] at h4;rw[hals i _ hi] at h5;rw[AcX,ho,Adw,List.contains_iff_mem] at h3;exact⟨h2,h3,λe=>(by rw[e] at h4;cases h4),(by simpa using h5)⟩
 have L1:∀t q,t<N→(Ib sp t).late=some q→q.1<N∧(Ib sp q.1).sto=some t:=λt q ht hq=>by
  have h1:=b5 t ht;rw[hlates t ht,hq] at h1;simp only[Option.map_some,AcP,AcI,beq_iff_eq] at h1;obtain⟨⟨h2,h3⟩,h4⟩:=h1;rw[hstos _ h2] at h4;exact⟨h2,h4⟩
 have hops:∀j,j<N→∃o,ops[j]? =some o:=λj hj=>⟨ops[j]'(by omega),AcS (by omega)⟩
 have lt_of:∀(t:Nat) (s:Sa),sp[t]? =some s→t<N∧s=Ib sp t:=λt s hs=>by
  have h1:t<N:=by have:=(List.getElem?_eq_some_iff.1 hs).1;omega
  refine⟨h1,?_⟩;rw[hsa t h1] at hs;simpa using hs.symm
 have hdst:∀i o d,i<N→ops[i]? =some o→o.dst=some d→(d<n∧d ∉ I0 l0)∧∀j,j<N→j≠i→Ga ops j≠some d:=λi o d hi ho hd=>by
  have h3:=b2 i hi;have:Ga ops i=some d:=by simp[Ga,ho,hd]
  rw[this] at h3;simp only[AcP,AcW,Adx,List.mem_range,AcI] at h3;refine⟨⟨h3.1.1,λhmem=>by rw[← List.contains_iff_mem] at hmem;rw[hmem] at h3;cases h3.1.2⟩,λj hj hne he=>?_⟩;have:=h3.2 j hj;simp[hne,he] at this
 refine Aa0 (N:=N) hm b1 bN (λS a w=>∃ (β:Nat→Nat) (Z:Fz),St c (H++HX S β sp 0) Z w∧DP n l0 a Z∧(∀j o d,j<N→S j=true→ops[j]? =some o→o.dst=some d→∃v,a.tmps[d]? =some v∧(Nv β (Ib sp j) j).p Z v)∧
   ∀k j,k<N→(Ib sp k).sto=some j→S k=true→S j=true)
  (λS S' a w hS hI=>?_) ⟨λ_=>0,Z,?_,ha.subL hl0,λj o d _ hS=>(by cases hS),λk j _ _ hS=>(by cases hS)⟩ (λS i o a w hi hun ho hb hI K hK=>?_) (λa w hI=>?_)
 ·obtain⟨β,Z,h1,h2,h3,h4⟩:=hI;refine⟨β,Z,?_,h2,λj o d hj hS'=>h3 j o d hj (by rw[hS j hj];exact hS'),λk j hk hs hSk=>?_⟩
  ·rw[← I3 (S:=S) (β:=β) (β':=β) sp 0 (λt s hs _=>by
    obtain⟨ht,rfl⟩:=lt_of t s hs;exact⟨hS _ (by omega),λ_=>⟨rfl,λq hq=>hS _ (L1 t q ht hq).1⟩⟩)]
   exact h1
  ·obtain⟨o,ho⟩:=hops k hk;rw[← hS j (S1 k o j hk ho hs).1];exact h4 k j hk hs (by rw[hS k hk];exact hSk)
 ·rw[QT,Adf];exact hw.drawn _
 ·obtain⟨β,Z,h1,h2,h3,hx⟩:=hI;have hput:∀k u v,a.tmps[k]? =some u→o.dst≠some k→(a.put o.dst v).tmps[k]? =some u:=λk u v hk hne=>by
   cases hd:o.dst with
   | none=>simpa[Act.put] using hk
   | some d=>
    simp only[Act.put,Array.getElem?_setIfInBounds];rw[Ad2 (λe=>hne (by rw[hd,e]))];exact hk
  have hagr:∀v Z',Fz.le Z Z'→DP n l0 (a.put o.dst v) Z':=λv Z' hz=>by
   refine⟨?_,?_,λk r hk=>?_⟩
   ·cases o.dst<;>simp[Act.put,h2.size]
   ·cases o.dst<;>simp[Act.put,h2.defers]
   ·obtain⟨u,hu,hpu⟩:=h2.tm k r hk;exact⟨u,hput k u v hu (λe=>((hdst i o k hi ho e).1).2 (P3 hk)),r.mono hz hpu⟩
  have hvals:∀(v:Value) (Z':Fz) (β':Nat→Nat),Fz.le Z Z'→(∀j,j≠i→β' j=β j)→(o.dst≠none→(Nv β' (Ib sp i) i).p Z' v)→∀j o' d,j<N→(j ==i||S j)=true→ops[j]? =some o'→o'.dst=some d→∃u,(a.put o.dst v).tmps[d]? =some u∧(Nv β' (Ib sp j) j).p Z' u:=by
   intro v Z' β' hz hβ hp j o' d hj hS' ho' hd
   by_cases hji:j=i
   ·subst hji;rw[ho] at ho';simp at ho';subst ho';refine⟨v,?_,hp (by simp[hd])⟩;have hdn:d<a.tmps.size:=by rw[h2.size];exact(hdst j o d hi ho hd).1.1
    simp[Act.put,hd,hdn]
   ·have hSj:S j=true:=by simpa[hji] using hS'
    obtain⟨u,hu,hpu⟩:=h3 j o' d hj hSj ho' hd;refine⟨u,hput d u v hu (λe=>(hdst i o d hi ho e).2 j hj hji (by simp[Ga,ho',hd])),?_⟩;have:Nv β' (Ib sp j) j=Nv β (Ib sp j) j:=by unfold Nv;rw[hβ j hji]
    rw[this];exact(Nv β (Ib sp j) j).mono hz hpu
  have hx':∀k j,k<N→(Ib sp k).sto=some j→(k ==i||S k)=true→(j ==i||S j)=true:=λk j hk hs hSk=>by
   by_cases hki:k=i
   ·subst hki;have:=(hb j (S1 k o j hk ho hs).2.1).2;simp[this]
   ·have:S j=true:=hx k j hk hs (by simpa[hki] using hSk);simp[this]
  have hat:=hob.at i o (by rw[hget i hi];exact ho);rw[Ad1] at hat;unfold ObA at hat;have hag':DP n (CA ops (Zn sp) (Ib sp i).deps l0) a Z:=OS h2 (λj hj d hd=>by
    have h4:=b3 i hi j (by simpa[AcX,Ad6,hsa i hi] using hj);simp only[AcP,AcW,AcI] at h4;obtain⟨⟨h5,h6⟩,h7⟩:=h4;rw[AcX,ho,Adw,List.contains_iff_mem] at h6;have hjal:(Ib sp j).al=none:=by
     rw[hals j _ h5] at h7;simpa using h7
    obtain⟨o2,ho2⟩:=hops j h5;obtain⟨v,hv1,hv2⟩:=h3 j o2 d h5 (hb j h6).2 ho2 (by simpa[Ga,ho2] using hd);refine⟨v,hv1,?_⟩;rw[hspq j h5];simpa[Nv,hjal] using hv2)
  cases hst:(Ib sp i).sto with
  | some j=>
   rw[hst] at hat;obtain⟨hod,d,p,ncs,hd,hal,hlate,hok⟩:=hat;obtain⟨hjN,hjb,_,hial⟩:=S1 i o j hi ho hst;have hSj:=(hb j hjb).2;obtain⟨H',p1,p2⟩:=Tm (S:=S) (β:=β) (i:=i) (j:=j) (p:=p) (ncs:=ncs) sp 0 j (Ib sp j) (by omega) (hsa j hjN) hal hlate hSj hun (λt s q hs _ hq hne he=>by
     obtain⟨ht,rfl⟩:=lt_of t s hs;have:=(L1 t q ht hq).2;rw[he,hst] at this;simp at this;omega) (λt s hs hn he=>by
     obtain⟨ht,rfl⟩:=lt_of t s hs;rw[Ad1] at he;subst he;exact hn hial)
   obtain⟨o2,ho2⟩:=hops j hjN;obtain⟨v,hv1,hv2⟩:=h3 j o2 d hjN hSj ho2 (by simpa[Ga,ho2] using hd);have hag2:DP n ((d,rv (.pointer (some ⟨β j,0,none⟩)))::CA ops (Zn sp) (Ib sp i).deps l0) a Z:=⟨hag'.size,hag'.defers,λk r hk=>by
    rw[Db] at hk
    split at hk
    ·rename_i e;subst e;simp at hk;subst hk
     exact⟨v,hv1,by simpa[Nv,hal] using hv2⟩
    ·exact hag'.tm k r hk⟩
   refine hok (β j) (H++H') a w Z K hag2 (h1.perm ((List.Perm.append_left H p1).trans List.perm_middle)) (λv w' Z' hz _ hs'=>hK _ _ ⟨β,Z',?_,hagr v Z' hz,hvals v Z' β hz (λ_ _=>rfl) (λhne=>absurd hod hne),hx'⟩);exact hs'.perm (List.perm_middle.symm.trans (List.Perm.append_left H p2.symm))
  | none=>
   rw[hst] at hat;have latene:∀t q,t<N→(Ib sp t).late=some q→q.1≠i:=λt q ht hq he=>by
    have:=(L1 t q ht hq).2;rw[he,hst] at this;cases this
   cases hal:(Ib sp i).al with
   | none=>
    rw[hal] at hat;refine hat _ a w Z K hag' h1 (λv w' Z' hz hp hst'=>hK _ _ ⟨β,Z',?_,hagr v Z' hz,hvals v Z' β hz (λ_ _=>rfl) (λ_=>by unfold Nv;rw[hal];exact hp),hx'⟩);rw[I3 (S':=S) (β':=β) sp 0 (λt s hs hn=>by
     obtain⟨ht,rfl⟩:=lt_of t s hs;have:t≠i:=λe=>by subst e;exact hn hal
     refine⟨by simp[this],λ_=>⟨rfl,λq hq=>?_⟩⟩;have:=latene t q ht hq;simp[this])]
    exact hst'
   | some p=>
    rw[hal] at hat;have key:=λK' hK'=>hat (H++HX S β sp 0) a w Z K' h1 hK';have h5:∀b w',St c (.blk b p.1 p.2::(H++HX S β sp 0)) Z w'→K (a.put o.dst (.pointer (some ⟨b,0,none⟩))) w':=λb w' hst'=>by
     refine hK _ _ ⟨λj=>if j=i then b else β j,Z,?_,hagr _ Z (Fz.le.refl _),hvals _ Z _ (Fz.le.refl _) (λj hj=>by simp[hj]) (λ_=>by simp[Nv,hal,rv]),hx'⟩;have hp:=Tn (S:=S) (β:=β) (i:=i) (b:=b) (p:=p) sp 0 i (Ib sp i) (by omega) (hsa i hi) hal hun (λt s q hs _ hq=>by
      obtain⟨ht,rfl⟩:=lt_of t s hs;exact latene t q ht hq) (λq hq=>by
       refine⟨?_,latene i q hi hq⟩
       cases hS:S q.1 with
       | false=>rfl
       | true=>
        obtain⟨h6,h7⟩:=L1 i q hi hq;have:=hx q.1 i h6 h7 hS;rw[this] at hun;cases hun)
     exact hst'.perm ((List.perm_middle.symm).trans (List.Perm.append_left H hp.symm))
    refine⟨λ_=>(key K h5).2,λhw'=>?_⟩;rw[(key K h5).1] at hw';cases hw'
 ·obtain⟨β,Z,h1,h2,h3,_⟩:=hI;refine h β a w Z (Vl h2 _ _ 0 (λt o s d ht hs hd=>?_)) (by rw[← To];exact h1);obtain⟨htN,rfl⟩:=lt_of t s hs;rw[Ad1];exact h3 t o d htN rfl (by rw[← hget t htN];exact ht) hd
end
section
variable {P : Program} {n : Nat} {c : Cx} {opsA : Array Oper} {Q : Exit → Act → World → Prop} {l l0 : Fr} {H : List Ent} {sp : List Sa}
theorem Hy {id:Nat}{ops:List Oper}(N:Nat)(ks0:List Nat)(sp:List Sa)(hob:NN P n c ops.toArray Q ops sp l0 H 0 (ops.take N))(h:∀β,WL P n c ops.toArray Q (ops.drop N) (Qd β (ops.take N) sp 0 l0) (H++Wr β sp 0))
  (h0:Kp ks0 l l0:=by repeat (first | exact SS | (apply P7;rfl) | (apply Qs;rfl))) (hm:P.follows .mixedOrders=true:=by kernel_rfl) (hB:okA n ops N (I0 l0) (sp.map (·.deps)) (sp.map (·.al.isSome)) (sp.map (·.late.map (·.1))) (sp.map (·.sto))=true:=by kernel_rfl)
  (hsp:sp.length=N:=by rfl):WC P n c (.region id ops.toArray true) Q l H:=Aa1 N sp hm hB h0.one hsp hob h
theorem Jl {all rest:List Oper}{d:Nat}{op:Op}{ty:TypeId}{pos:String}{af:Array Edge}{i:Nat}
  (hr:∀{H},B9 P n c (CA all (Zn sp) (Ib sp i).deps l0) H { dst:=some d,op:=op,type:=ty,pos:=pos,after:=af,guard:=none } (Ib sp i).r) (h:NN P n c opsA Q all sp l0 H (i+1) rest) (ha:(Ib sp i).al=none:=by rfl) (hs:(Ib sp i).sto=none:=by rfl) :
  NN P n c opsA Q all sp l0 H i ({ dst:=some d,op:=op,type:=ty,pos:=pos,after:=af,guard:=none }::rest):=by
 refine⟨?_,h⟩;unfold ObA;rw[hs,ha];exact λ_=>VV hr
theorem UP {all rest:List Oper}{d:Nat}{op:Op}{ty:TypeId}{pos:String}{af:Array Edge}{i:Nat}
  (hr:∀{E},B9 P n c (CA all (Zn sp) (Ib sp i).deps l0) (H++E) { dst:=some d,op:=op,type:=ty,pos:=pos,after:=af,guard:=none } (Ib sp i).r) (h:NN P n c opsA Q all sp l0 H (i+1) rest) (ha:(Ib sp i).al=none:=by rfl) (hs:(Ib sp i).sto=none:=by rfl) :
  NN P n c opsA Q all sp l0 H i ({ dst:=some d,op:=op,type:=ty,pos:=pos,after:=af,guard:=none }::rest):=by
 refine⟨?_,h⟩;unfold ObA;rw[hs,ha];exact λ_=>VV hr
theorem YU {all:List Oper}{i:Nat}:NN P n c opsA Q all sp l0 H i []:=trivial
end
structure YV (ks:List Nat) (β:Nat→Nat) (os:List Oper) (sp:List Sa) (i:Nat) (l0 l1:Fr):Prop where
 go:Kp ks (Qd β os sp i l0) l1
section
variable {ks : List Nat} {β : Nat → Nat} {os : List Oper} {sp : List Sa} {i d : Nat} {l0 l1 : Fr} {ds : List Nat} {r : Rp} {p : List Rp × TypeId} {lt : Option (Nat × List Rp)} {so : Option Nat} {op : Op} {ty : TypeId} {pos : String} {af : Array Edge} {g : Option (Nat × Bool)}
theorem AbR (h:ks.contains d=true)(t:YV ks β os sp (i+1) l0 l1):YV ks β ({ dst:=some d,op:=op,type:=ty,pos:=pos,after:=af,guard:=g }::os) ({ deps:=ds,r:=r,sto:=so }::sp) i l0 ((d,r)::l1):=⟨P7 h t.go⟩
theorem AbU (h:ks.contains d=true)(t:YV ks β os sp (i+1) l0 l1):YV ks β ({ dst:=some d,op:=op,type:=ty,pos:=pos,after:=af,guard:=g }::os) ({ deps:=ds,r:=r,al:=some p,late:=lt,sto:=so }::sp) i l0 ((d,rv (.pointer (some ⟨β i,0,none⟩)))::l1):=⟨P7 h t.go⟩
theorem AbT {s:Sa}(h:ks.contains d=false)(t:YV ks β os sp (i+1) l0 l1):YV ks β ({ dst:=some d,op:=op,type:=ty,pos:=pos,after:=af,guard:=g }::os) (s::sp) i l0 l1:=⟨Qs h t.go⟩
theorem AbS {s:Sa}(t:YV ks β os sp (i+1) l0 l1):YV ks β ({ dst:=none,op:=op,type:=ty,pos:=pos,after:=af,guard:=g }::os) (s::sp) i l0 l1:=⟨t.go⟩
theorem AbV (t:Kp ks l0 l1):YV ks β [] [] i l0 l1:=⟨t⟩
theorem Ja {P:Program}{n:Nat}{c:Cx}{opsA:Array Oper}{Q:Exit→Act→World→Prop}{rest:List Oper}{H H1:List Ent}(ks:List Nat)(h:WL P n c opsA Q rest l1 H1)
  (hz:YV ks β os sp i l0 l1:=by repeat (first | (apply AbR;rfl) | (apply AbU;rfl) | (apply AbT;rfl) | apply AbS | apply AbV | exact SS | (apply P7;rfl) | (apply Qs;rfl))) (hH:H=H1:=by rfl) :
  WL P n c opsA Q rest (Qd β os sp i l0) H:=λa w Z ha hw=>h a w Z (ha.subL hz.go.one) (hH▸hw)
end
section
variable {P : Program} {n : Nat} {c : Cx} {opsA : Array Oper} {Q : Exit → Act → World → Prop} {l l0 : Fr} {H : List Ent} {sp : List Sa}
theorem RM {all rest:List Oper}{o:Oper}{i:Nat}(hr:∀{E},GK P n c opsA Q (CA all (Zn sp) (Ib sp i).deps l0) (H++E) o (Ib sp i).r (H++E))(h:NN P n c opsA Q all sp l0 H (i+1) rest)(ha:(Ib sp i).al=none:=by rfl)(hs:(Ib sp i).sto=none:=by rfl):NN P n c opsA Q all sp l0 H i (o::rest):=by
 refine⟨?_,h⟩;unfold ObA;rw[hs,ha];exact λ_=>hr
end
def rBx (p:Bool→Prop):Rp:=⟨λ_ v=>∃b,v = .bool b∧p b,λ_ h=>h,true,λ_ Z v ⟨b,e,_⟩=>by rw[e];rfl⟩
section
variable {P : Program} {n : Nat} {c : Cx} {ops : Array Oper} {Q : Exit → Act → World → Prop} {rest : List Oper} {l : Fr} {H : List Ent} {d : Option Nat} {ty rty t e : TypeId} {pos : String} {af : Array Edge} {g : Option (Nat × Bool)} {r : Rp} {x : Operand} {cx cy : Code} {sz : Nat} {xs : List (List Rp)}
theorem WP {o:Operand}{p:Bool→Prop}(ho:ev l o=some (rBx p))(h1:p true→WC P n c cx Q l H)(h2:p false→WC P n c cy Q l H):WC P n c (.cond o cx cy) Q l H:=λa w Z ha hw=>by
 obtain⟨b,e,hp⟩:=ha.ev ho;exact wp_cond_split e (λe=>h1 (e▸hp) a w Z ha hw) (λe=>h2 (e▸hp) a w Z ha hw)
theorem VW (ht:P.underlying t=some (.slice e))(h:ev l x=some (AB sz xs)):B9 P n c l H { dst:=d,op:=.binOp .eql t x (.const (.slice none 0 0)) rty,type:=ty,pos:=pos,after:=af,guard:=g } (rBx (λb=>b=true→xs=[])):=λa w Z ha hw=>by
 obtain⟨A,cap,e1,h1,h2,h3,h4⟩:=ha.ev h;refine⟨.bool A.isNone,⟨_,rfl,λhb=>?_⟩,?_⟩
 ·cases A with
  | some a=>cases hb
  | none=>
   have:=h3 rfl;exact List.length_eq_zero_iff.1 (by omega)
 ·have:=run_equal_slice_nil (P:=P) w t e A xs.length cap ht;have e2:a.eval (.const (.slice none 0 0)) = .slice none 0 0:=rfl;simp[execOp,e1,e2,binOp,this,eqGuard]
end
set_option maxRecDepth 100000
set_option maxHeartbeats 4000000
theorem Hq:∃inf,Tryz.prog.info? 28=some inf∧inf.zero=some (.slice none 0 0)∧inf.size=1∧inf.bytes=24:=by
  have key:(Tryz.prog.info? 28).map (λi=>(i.zero,i.size,i.bytes))=some (some (.slice none 0 0),1,24):=by kernel_rfl
  obtain⟨inf,h1,h2⟩:=Option.map_eq_some_iff.1 key;simp only[Prod.mk.injEq] at h2;exact⟨inf,h1,h2.1,h2.2.1,h2.2.2⟩
theorem PU (ys:(List Ab))(r:(List Ab))(h:Md ys=some r):Fn Tryz.prog GE 92 [AB 4 (A1 Ac ys)] [] (λR H=>R=AB 4 (A1 Ac r)∧H=[]):=by
 refine enter (n:=8) Tryz.func92 Aa Tryz.ntmps92 Aa (λw Z=>?_);unfold Md at h;refine Ah (wa Aa (An (Ao (Ah (wm Aa (wv (VW Br Aa) (An (WP Aa (λc1=>?_) (λc1=>?_)))))))))
 ·have e2:ys=[]:=List.map_eq_nil_iff.1 (c1 rfl);have h3:some ([]:List Ab)=some r:=by rw[e2] at h;exact(Y8 h).2
  refine Ah (wa Aa (An (Ar (Ae (WK.up (d:=2) (r:=AB 4 (A1 Ac ([]:List Ab))) Aa (Up.le (DH.nil _)) ?_)))));obtain rfl:=Ap h3;exact Aq (B2 Tryz.results92 (A5 Aa)) sN ⟨Aa,Aa⟩
 ·refine As (A9 (Ah (AN (ys:=([]:List Ab)) (enc:=Ac) (css:=[]) (xs:=[]) Br Bx DU Aa Aa Aa trivial Aa AO Aa Aa Aa (λb4=>?_))));refine wm Aa (ck h λg6 h7=>Exists.elim Ef λinf hinf=>B6 (xs:=([]:List Ab)) (ys:=ys) (enc:=Ac) (i:=0) Br hinf.1 hinf.2.1 hinf.2.2.1 hinf.2.2.2 Aa Aa Aa Aa Aa (I7.z Aa Aa) AO BG g6 Aa (λv5=>?_));refine wa Aa (An (Ar (WK.freeze (i:=0) Aa (WK.up (d:=2) (r:=AB 4 (A1 Ac (([]:List Ab)++ys))) Aa (Up.fact (i:=0) Aa) ?_))));obtain rfl:=Ap h7;exact Aq (B2 Tryz.results92 (A5 Aa)) (sS sN) ⟨Aa,Aa⟩
theorem Q0 (ha:Nat)(hb:Value)(key:Am)(x:(List Ab))(out:(List (List Ab)))(r:Bool×(List (List Ab)))(h:GP key x out=some r):Fn Tryz.prog GE 91 [rS key,AB 4 (A1 Ac x),rP ha 0] [.blk ha [rv hb] 24,.row hb 28 1 (A1 Ad out)] (λR H=>∃w2_0:Value,R=rB r.1∧H=[.blk ha [rv w2_0] 24,.row w2_0 28 1 (A1 Ad r.2)]):=by
 refine enter (n:=11) Tryz.func91 Aa Tryz.ntmps91 Aa (λw Z=>?_);unfold GP at h;refine Ah (wa Aa (An (Ao (ob h λr1 e3 h2=>Hy 4 [1,2] [⟨[],rv hb,none,none,none⟩,⟨[],AB 4 (A1 Ac x),none,none,none⟩,⟨[1],AB 4 (A1 Ac r1),none,none,none⟩,⟨[2],AB 1 (A1 Ad ([r1]:List (List Ab))),none,none,none⟩] ?_ (λβ=>?_)))))
 ·refine UP (Bq (i:=0) DQ Aa Aa Aa) (Jl (A8 Aa) (RM (Ea Tryz.call92 (PU x r1 e3) Aa) (RM (D0 (ys:=([r1]:List (List Ab))) (enc:=Ad) (css:=[[AB 4 (A1 Ac r1)]]) (xs:=[.tmp 8]) BB BZ Jm Aa Aa Aa ⟨Dx.one Aa (Up.refl _),trivial⟩ Aa Be Aa Aa) ?_)));exact YU
 refine Ja (H1:=[.blk ha [rv hb] 24,.row hb 28 1 (A1 Ad out)]) [6,7,8,9,1,2] ?_;refine ck h2 λg5 h6=>Exists.elim Hq λinf hinf=>B6 (xs:=out) (ys:=([r1]:List (List Ab))) (enc:=Ad) (i:=1) BB hinf.1 hinf.2.1 hinf.2.2.1 hinf.2.2.2 Aa Aa Aa Aa Aa (I7.z Aa Aa) Be Cf g5 Aa (λv4=>?_);refine B5 (i:=1) Dp Aa Aa (Dt (i:=0) Aa) Aa Aa (cs':=[rv v4]) Aa (H':=[.row v4 28 1 (A1 Ad (out++([r1]:List (List Ab)))),.blk ha [rv v4] 24]) Aa (Bd (wa Aa (An (Ar (Cv (H2:=[.blk ha [rv v4] 24,.row v4 28 1 (A1 Ad (out++([r1]:List (List Ab))))]) ((A6 (i:=1) Aa).trans (AcQ _ (AcK _))) ?_)))));obtain rfl:=Ap h6;exact Aq (B2 Tryz.results91 (A5 Aa)) (sC (sC sN)) ⟨v4,Aa,Aa⟩
theorem V3 (F:Nat)(hb:Nat)(hm:Value)(v:(List Ab))(out:(List (List Ab)))(r:(List (List Ab)))(h:O5 F v out=some r):Fn Tryz.prog GE 90 [AB 4 (A1 Ac v),rv (.func (.func 91) #[] #[(.pointer (some ⟨hb,0,none⟩))])] [.blk hb [rv hm] 24,.row hm 28 1 (A1 Ad out)] (λR H=>∃w1_0_0:Value,R=rv (.tuple #[])∧H=[.blk hb [rv w1_0_0] 24,.row w1_0_0 28 1 (A1 Ad r)]):=by
 refine enter (n:=52) Tryz.func90 Aa Tryz.ntmps90 Aa (λw Z=>?_);unfold O5 at h;refine Ah (wa Aa (Bd (wm Aa (ck h λg1 h2=>wv (AX (enc:=Ac) (ys:=v) Br Bx Aa Aa g1) (wv (AQ Bp Aa BL Aa Aa) (wv (AK Cc Aa Aa) (wv (r:=Ai 0) (A8 Aa) (An (AA (ob h2 λh0 h1 hn=>Bk (S:=Nat×(Int×Int×(List (List Ab)))×(Value)) (V:=((List (List Ab)))×(Value)) 0 (λσ=>BS (λσ=>It F v σ.1 σ.2.1 σ.2.2) σ.1 σ.2.1=some h0) (λσ=>[(0,AB 4 (A1 Ac v)),(1,rv (.func (.func 91) #[] #[(.pointer (some ⟨hb,0,none⟩))])),(4,Ai σ.2.1.1),(12,Ai ((At v 0).fN)),(13,Ai σ.2.1.2.1)]) (λσ=>[.blk hb [rv σ.2.2] 24,.row σ.2.2 28 1 (A1 Ad σ.2.1.2.2)]) (λσ=>σ.1) (F,(1,0,out),hm) h1 (A4.c5 Aa Aa Aa Aa Aa A4.nil) (sC (sC sN)) (λσ=>JW σ.1=some r) (λσ=>[]) (λσ=>[.blk hb [rv σ.2] 24,.row σ.2 28 1 (A1 Ad σ.1)]) ?_ ?_))))))))))
 ·rintro⟨n171,⟨ha,hj,hh⟩,he⟩ h3;refine BC (l':=[(0,AB 4 (A1 Ac v)),(1,rv (.func (.func 91) #[] #[(.pointer (some ⟨hb,0,none⟩))])),(4,Ai ha),(12,Ai ((At v 0).fN)),(13,Ai hj)]) (H':=[.blk hb [rv he] 24,.row he 28 1 (A1 Ad hh)]) Aa Aa ?_;obtain⟨hr,rfl,h4,hk,hi⟩:=Ce h3;replace hk:It F v ha hj hh=some h4:=hk;unfold It at hk;refine Ah (wv (Cn Aa Aa) (An (Ao (cz hk Aa (λh5 h6=>?_) (λh5 h7=>?_)))))
  ·refine As (A9 (Ao (AA (Ah (wv (r:=rS ([]:Am)) (AC Aa) (An (Ao (Ah (wm Aa (wv (AX (enc:=Ac) (ys:=v) Br Bx Aa Aa g1) (wv (AQ Bp Aa CC Aa Aa) (wv (AK CP Aa Aa) (wv (Bj Aa Aa) (An (cz h6 Aa (λh8 h9=>?_) (λh8 hA=>?_))))))))))))))))
   ·refine Ah (wm Aa (wm Aa (ck h9 λhB hC=>wv (AX (enc:=Ac) (ys:=v) Br Bx Aa Aa hB) (wv (AQ Bp Aa CX Aa Aa) (wv (AK Dm Aa Aa) (wa Aa (An (Al (wm Aa (ck hC λhD hE=>wv (Bh Aa Aa hD) (wa Aa (Bd (wm Aa (wm Aa (ck hE λhG hH=>wv (r:=AB 4 (A1 Ac (List.drop (B8 (ha+1)) v))) (EI Br Bx Aa Aa hG) (ob hH λhf hI hJ=>BI T3 (JV F (List.drop (B8 (ha+1)) v) hf hI) Aa (wm Aa (wv (A0 Aa Aa) (wv (A0 Aa Aa) ?_)))))))))))))))))));refine wv (A0 Aa Aa) (Cg (cs:=[Ai 0,Ai 0,rB false,rB false]) Rb Aa Aa (λhs=>?_));refine wa Aa (Bg (i:=0) I8 Aa Aa Aa (B3.c Aa) Aa Aa (cs':=[Ai hf.2.1.fDepth,Ai hf.2.1.fBytes,rB hf.2.1.fOutside,rB hf.2.1.fLong]) Aa (H':=[.blk hs (AZ hf.2.1) 86,.blk hb [rv he] 24,.row he 28 1 (A1 Ad hh)]) Aa (wa Aa (An (Ao (Ah (wm Aa (wm Aa (wm Aa (wm Aa (wm Aa (wm Aa (ck hJ λho hK=>wv (Bh Aa Aa ho) (wm Aa (wm Aa (wv (Bh Aa Aa ho) (ck hK λhL hN=>ck hN λhO hP=>wv (r:=AB 4 (A1 Ac (List.take (B8 ((ha+1)+hf.1)-B8 (ha+1)) (List.drop (B8 (ha+1)) v)))) (Hp Br Bx Aa Aa Aa Aa hL hO) (ob hP λht hQ hR=>DB (rs:=[rS ((At v ha).fStr),AB 4 (A1 Ac (List.take (B8 ((ha+1)+hf.1)-B8 (ha+1)) (List.drop (B8 (ha+1)) v)))]) (Hin:=[.blk hb [rv he] 24,.row he 28 1 (A1 Ad hh)]) (Hr:=[.blk hs (AZ hf.2.1) 86]) Tryz.call91 Aa Aa ((A6 (i:=1) Aa).trans (AcQ _ ((A6 (i:=1) Aa).trans (AcQ _ (AcK _))))) (Q0 hb he ((At v ha).fStr) (List.take (B8 ((ha+1)+hf.1)-B8 (ha+1)) (List.drop (B8 (ha+1)) v)) hh ht hQ) Aa ?_)))))))))))))))));rintro _ _ ⟨hu,rfl,rfl⟩;refine wv (B7 Aa) (An (cz hR Aa (λhS hT=>?_) (λhS hU=>?_)))
    ·refine Ar (Ae (Au (Ae (Ae (AU ?_)))));have hV:=Bm hT hi hn;refine Au ?_;obtain rfl:=Ap hV;exact Aq (Rk Rc) (sC (sC (sS sN))) ⟨hu,Aa,Aa⟩
    ·refine As (A9 (Al (wm Aa (wm Aa (wv (Bh Aa Aa ho) (wa Aa (Ak (A7 (A9 (Al (ck hU λhW hX=>wv (Bh Aa Aa hW) (wm Aa (Ak ?_)))))))))))));have hY:=AY hX hi;exact Ax (Av (hr,((ha+1)+hf.1,hj+1,ht.2),hu) ⟨hY,AcR _⟩ (A4.c5 Aa Aa Aa Aa Aa A4.nil) (sC (sC (sS sN))))
   ·refine As (A9 (Ah (wm Aa (wm Aa (ck hA λhZ ga=>wv (r:=AB 4 (A1 Ac (List.drop (B8 ha) v))) (EI Br Bx Aa Aa hZ) (ob ga λhg gb gc=>BI T3 (JV F (List.drop (B8 ha) v) hg gb) Aa (wm Aa (wv (A0 Aa Aa) (wv (A0 Aa Aa) (wv (A0 Aa Aa) (Cg (cs:=[Ai 0,Ai 0,rB false,rB false]) Rb Aa Aa (λhw=>?_))))))))))));refine wa Aa (Bg (i:=0) I8 Aa Aa Aa (B3.c Aa) Aa Aa (cs':=[Ai hg.2.1.fDepth,Ai hg.2.1.fBytes,rB hg.2.1.fOutside,rB hg.2.1.fLong]) Aa (H':=[.blk hw (AZ hg.2.1) 86,.blk hb [rv he] 24,.row he 28 1 (A1 Ad hh)]) Aa (wa Aa (An (Ao (Ah (wm Aa (wm Aa (wm Aa (wm Aa (wm Aa (wm Aa (ck gc λhp gd=>wv (Bh Aa Aa hp) (wm Aa (wm Aa (wv (Bh Aa Aa hp) (ck gd λge gf=>ck gf λgg gh=>wv (r:=AB 4 (A1 Ac (List.take (B8 (ha+hg.1)-B8 ha) (List.drop (B8 ha) v)))) (Hp Br Bx Aa Aa Aa Aa ge gg) (ob gh λhx gi gj=>DB (rs:=[rS ([]:Am),AB 4 (A1 Ac (List.take (B8 (ha+hg.1)-B8 ha) (List.drop (B8 ha) v)))]) (Hin:=[.blk hb [rv he] 24,.row he 28 1 (A1 Ad hh)]) (Hr:=[.blk hw (AZ hg.2.1) 86]) Tryz.call91 Aa Aa ((A6 (i:=1) Aa).trans (AcQ _ ((A6 (i:=1) Aa).trans (AcQ _ (AcK _))))) (Q0 hb he ([]:Am) (List.take (B8 (ha+hg.1)-B8 ha) (List.drop (B8 ha) v)) hh hx gi) Aa ?_)))))))))))))))));rintro _ _ ⟨hy,rfl,rfl⟩;refine wv (B7 Aa) (An (cz gj Aa (λgl gm=>?_) (λgl gp=>?_)))
    ·refine Ar (Ae (Au (Ae (Ae (AU ?_)))));have gq:=Bm gm hi hn;refine Au ?_;obtain rfl:=Ap gq;exact Aq (Rk Rc) (sC (sC (sS sN))) ⟨hy,Aa,Aa⟩
    ·refine As (A9 (Al (wm Aa (wm Aa (wv (Bh Aa Aa hp) (wa Aa (Ak (A7 (A9 (Al (ck gp λgr gs=>wv (Bh Aa Aa gr) (wm Aa (Ak ?_)))))))))))));have gt:=AY gs hi;exact Ax (Av (hr,(ha+hg.1,hj+1,hx.2),hy) ⟨gt,AcR _⟩ (A4.c5 Aa Aa Aa Aa Aa A4.nil) (sC (sC (sS sN))))
  ·refine Bt (Ay ?_);have gu:=BD h7 hi hn;exact Ay (Bb (Av (hh,he) gu A4.nil (sC (sC sN))))
 ·rintro⟨hz,hq⟩ hl;refine Ci (l':=[]) (H':=[.blk hb [rv hq] 24,.row hq 28 1 (A1 Ad hz)]) Aa Aa ?_;replace hl:JW hz=some r:=hl;unfold JW at hl;refine Bf ?_;obtain rfl:=Ap hl;exact Hi (Rk Rc) (sC (sC sN)) ⟨hq,Aa,Aa⟩
theorem Mt (F:Nat)(v:(List Ab))(r:(List (List Ab))×Int)(h:KB F v=some r):Fn Tryz.prog GE 56 [AB 4 (A1 Ac v)] [] (λR H=>R=CY [AB 1 (A1 Ad r.1),Ai r.2]∧H=[]):=by
 refine enter (n:=27) Tryz.func56 Aa Tryz.ntmps56 Aa (λw Z=>?_);unfold KB at h;refine Ah (wa Aa (wa Aa (An (Ao (Ah (wm Aa (ob h λr1 e3 h2=>BI Qg (Gi F v r1 e3) Aa (wa Aa (Bd (wm Aa (wv (Bs Aa Aa) (An (cz h2 Aa (λc4 h5=>?_) (λc4 h6=>?_))))))))))))))
 ·refine Ah (wm Aa (wa Aa (wa Aa (An (Ar (Ae (WK.up (d:=2) (r:=AB 1 (A1 Ad ([]:List (List Ab)))) Aa (Up.le (DH.nil _)) ?_)))))));obtain rfl:=Ap h5;exact Aq (CM Tryz.results56 (A5 Aa) (A5 Aa)) sN ⟨Aa,Aa⟩
 ·refine As (A9 (Ao (ck h6 λg7 h8=>AE [(0,AB 4 (A1 Ac v)),(22,rB ((!decide (((At v 0).fKind)=5))&&(!decide (((At v 0).fKind)=6))))] [] ?_ ?_)))
  ·refine Al (wm Aa (wv (AX (enc:=Ac) (ys:=v) Br Bx Aa Aa g7) (wv (AQ Bp Aa CC Aa Aa) (wv (AK CP Aa Aa) (wv (Bs Aa Aa) (wm Aa (AP (!decide (((At v 0).fKind)=5)) (λc9=>?_) (λc9=>?_))))))))
   ·refine wo c9 (wm Aa (wo c9 (wv (AX (enc:=Ac) (ys:=v) Br Bx Aa Aa g7) (wo c9 (wv (AQ Bp Aa CC Aa Aa) (wo c9 (wv (AK CP Aa Aa) (wo c9 (wv (Bs Aa Aa) (C3 Aa c9 Aa (Ak ?_)))))))))));exact BH c9
   ·refine wf c9 (wf c9 (wf c9 (wf c9 (wf c9 (wv (r:=rB false) (Az Aa c9 Aa) (Ak ?_))))));exact BH c9
  refine cz h8 Aa (λhe hf=>?_) (λhe hg=>?_)
  ·refine Ah (wa Aa (wa Aa (An (Ar (Ae (WK.up (d:=2) (r:=AB 1 (A1 Ad ([]:List (List Ab)))) Aa (Up.le (DH.nil _)) ?_))))));obtain rfl:=Ap hf;exact Aq (CM Tryz.results56 (A5 Aa) (A5 Aa)) sN ⟨Aa,Aa⟩
  ·refine As (A9 (Ah (Cg (cs:=[rv (.slice none 0 0)]) Tryz.zeroValue24 Aa Aa (λha=>?_))));refine Bd (wm Aa (wv (r:=rv (.func (.func 91) #[] #[(.pointer (some ⟨ha,0,none⟩))])) (Cz Aa) (WL.nilrow (e:=28) (sz:=1) (ob hg λhb hh hi=>Gc (Hr:=[]) Tryz.call90 (V3 F ha (.slice none 0 0                            ) v ([]:List (List Ab)) hb hh) Aa ((A6 (i:=1) Aa).trans (AcQ _ (AcK _))) Aa ?_))));rintro _ _ ⟨hj,rfl,rfl⟩;refine Bd (vL 0 DQ Aa (wa Aa (wa Aa (An (Ar (WK.freeze (i:=1) Aa (WK.up (d:=2) (r:=AB 1 (A1 Ad hb)) Aa (Up.fact (i:=0) Aa) ?_)))))));obtain rfl:=Ap hi;exact Aq (CM Tryz.results56 (A5 Aa) (A5 Aa)) (sS (sS sN)) ⟨Aa,Aa⟩
end Go.Proofs.YtghdglcmblpbeaaGreatDoor.Q
namespace Go.Proofs.YtghdglcmblpbeaaGreatDoor
open Go
set_option linter.unusedVariables false
def UB (k:Am)(x:(List Ab))(key:Am)(out:(List Ab)):Option (Bool×(List Ab)):=
 AT (decide (k=key)) (Bi (Md x) λr3=>AS (decide (0<r3.length))<|some (!decide (k=key),r3)) (some (!decide (k=key),out))
def Mv (F:Nat)(v:(List Ab))(key:Am)(ha:Int)(hb:Int)(hg:(List Ab)):Option (Stp (Int×Int×(List Ab)) (Out ((List Ab)) ((List Ab)))):=
 AT (decide (hb<((At v 0).fN))) (AT (decide (((At v 0).fKind)=6)) (AS (Co ha (v.length:Int))<|AS (Bu .i64 (ha+1))<|AS (GM (ha+1) (v.length:Int))<|Bi (GO F (List.drop (Int.toNat (ha+1)) v)) λhe=>AS (Bu .i64 ((ha+1)+he.1))<|AS (GM (ha+1) ((ha+1)+he.1))<|AS (GM ((ha+1)+he.1) (v.length:Int))<|Bi (UB ((At v ha).fStr) (List.take (Int.toNat ((ha+1)+he.1)-Int.toNat (ha+1)) (List.drop (Int.toNat (ha+1)) v)) key hg) λhh=>AT (!hh.1) (some (.out (.ret hh.2))) (AS (Bu .i64 (hb+1))<|some (.next ((ha+1)+he.1,hb+1,hh.2)))) (AS (GM ha (v.length:Int))<|Bi (GO F (List.drop (Int.toNat ha) v)) λhf=>AS (Bu .i64 (ha+hf.1))<|AS (GM ha (ha+hf.1))<|AS (GM (ha+hf.1) (v.length:Int))<|Bi (UB ([]:Am) (List.take (Int.toNat (ha+hf.1)-Int.toNat ha) (List.drop (Int.toNat ha) v)) key hg) λhi=>AT (!hi.1) (some (.out (.ret hi.2))) (AS (Bu .i64 (hb+1))<|some (.next (ha+hf.1,hb+1,hi.2))))) (some (.out (.go hg)))
def Mu (ha:(List Ab)):Option ((List Ab)):=
 some ha
def WY (F:Nat)(v:(List Ab))(key:Am)(out:(List Ab)):Option ((List Ab)):=
 AS (Co 0 (v.length:Int))<|Bi (BS (λσ=>Mv F v key σ.1 σ.2.1 σ.2.2) F (1,0,out)) (BP λν=>Mu ν)
def Aa3 (F:Nat)(v:(List Ab))(key:Am):Option ((List Ab)×Int):=
 Bi (Es F v) λr2=>AT (!decide (r2=0)) (some (([]:List Ab),r2)) (AS (Co 0 (v.length:Int))<|AT (!decide (((At v 0).fKind)=6)) (some (([]:List Ab),7)) (Bi (WY F v key ([]:List Ab)) λha=>AT (List.isEmpty ha) (some (([]:List Ab),5)) (some (ha,0))))
def Mr (F:Nat)(path:(List Am))(he:(List Ab))(ha:Int):Option (Stp ((List Ab)×Int) (Out ((List Ab)×Int) ((List Ab)))):=
 AT (decide (ha<(path.length:Int))) (AS (Co ha (path.length:Int))<|Bi (Aa3 F he (At path ha)) λhb=>AT (!decide (hb.2=0)) (some (.out (.ret (([]:List Ab),hb.2)))) (AS (Bu .i64 (ha+1))<|some (.next (hb.1,ha+1)))) (some (.out (.go he)))
def Mq (ha:(List Ab)):Option ((List Ab)×Int):=
 some (ha,0)
def WW (F:Nat)(v:(List Ab))(path:(List Am)):Option ((List Ab)×Int):=
 Bi (Es F v) λr1=>AT (!decide (r1=0)) (some (([]:List Ab),r1)) (Bi (Md v) λr7=>Bi (BS (λσ=>Mr F path σ.1 σ.2) F (r7,0)) (BP λν=>Mq ν))
def GQ (v:(List Ab))(b:Int)(hb:(List Ab))(ha:Int):Option (Stp ((List Ab)×Int) (Out ((List Ab)) ((List Ab)))):=
 AT (decide (ha<b)) (AS (Co ha (v.length:Int))<|AS (DN 40 (hb.length+([(At v ha)]:List Ab).length))<|AS (Bu .i64 (ha+1))<|some (.next (hb++([(At v ha)]:List Ab),ha+1))) (some (.out (.go hb)))
def J2 (ha:(List Ab)):Option ((List Ab)):=
 some ha
def Pm (F:Nat)(v:(List Ab))(a:Int)(b:Int):Option ((List Ab)):=
 Bi (BS (λσ=>GQ v b σ.1 σ.2) F (([]:List Ab),a)) (BP λν=>J2 ν)
def ER (F:Nat)(v:(List Ab))(ha:(List (List Ab)))(hb:Int)(he:Int):Option (Stp ((List (List Ab))×Int×Int) (Out ((List (List Ab))×Int) ((List (List Ab))))):=
 AT (decide (he<((At v 0).fN))) (AT (decide (((At v 0).fKind)=6)) (AS (Bu .i64 (hb+1))<|Bi (DR F v (hb+1)) λhf=>Bi (Pm F v (hb+1) hf) λhg=>AS (DN 24 (ha.length+([hg]:List (List Ab)).length))<|AS (Bu .i64 (he+1))<|some (.next (ha++([hg]:List (List Ab)),hf,he+1))) (Bi (DR F v hb) λhh=>Bi (Pm F v hb hh) λhi=>AS (DN 24 (ha.length+([hi]:List (List Ab)).length))<|AS (Bu .i64 (he+1))<|some (.next (ha++([hi]:List (List Ab)),hh,he+1)))) (some (.out (.go ha)))
def Li (ha:(List (List Ab))):Option ((List (List Ab))×Int):=
 some (ha,0)
def LT (F:Nat)(v:(List Ab)):Option ((List (List Ab))×Int):=
 Bi (KI F v) λr1=>AT (!decide (r1=0)) (some (([]:List (List Ab)),r1)) (AS (Co 0 (v.length:Int))<|AT (((!decide (((At v 0).fKind)=5))&&(!decide (((At v 0).fKind)=6)))) (some (([]:List (List Ab)),7)) (Bi (BS (λσ=>ER F v σ.1 σ.2.1 σ.2.2) F (([]:List (List Ab)),1,0)) (BP λν=>Li ν)))
end Go.Proofs.YtghdglcmblpbeaaGreatDoor
namespace Go.Proofs.YtghdglcmblpbeaaGreatDoor.Q
open Go Go.RowKit
set_option linter.unusedVariables false
def Q8 (sz:Nat)(xs:List (List Rp)):Rp:=⟨λZ v=>RN sz xs Z v∧(xs=[]→v = .slice none 0 0),λh ⟨a,b⟩=>⟨RN.mono h a,b⟩,true,λ_ Z v ⟨⟨A,cap,e,_⟩,_⟩=>by rw[e];rfl⟩
theorem DH.sn {sz:Nat}{xs:List (List Rp)}:DH (Q8 sz xs) (AB sz xs):=λ_ _ h=>h.1
theorem DH.niln (sz:Nat):DH (rv (.slice none 0 0)) (Q8 sz []):=λZ v h=>by rw[show v=_ from h];exact⟨RN.nil sz Z,λ_=>rfl⟩
theorem DH.upn {T:Type}{sz:Nat}{enc:T→List Rp}{ys:List T}(h:decide (0<ys.length)=true):DH (AB sz (List.map enc ys)) (Q8 sz (List.map enc ys)):=λZ v hv=>⟨hv,λe=>by
 have:=AcT h;rw[List.map_eq_nil_iff.1 e] at this;exact absurd this (by simp)⟩
section
variable {P : Program} {n : Nat} {c : Cx} {l : Fr} {H : List Ent} {d : Option Nat} {ty rty t e : TypeId} {pos : String} {af : Array Edge} {g : Option (Nat × Bool)} {x : Operand} {sz : Nat}
theorem TR {T:Type}{enc:T→List Rp}{ys:List T}(ht:P.underlying t=some (.slice e))(h:ev l x=some (Q8 sz (List.map enc ys))):B9 P n c l H { dst:=d,op:=.binOp .eql t x (.const (.slice none 0 0)) rty,type:=ty,pos:=pos,after:=af,guard:=g } (rB (List.isEmpty ys)):=λa w Z ha hw=>by
 obtain⟨⟨A,cap,e1,h1,h2,h3,h4⟩,h5⟩:=ha.ev h;have e2:a.eval (.const (.slice none 0 0)) = .slice none 0 0:=rfl;refine⟨.bool A.isNone,?_,?_⟩
 ·show Value.bool A.isNone = .bool ys.isEmpty
  cases ys with
  | nil=>
   have:=h5 rfl;rw[e1] at this
   cases this;rfl
  | cons y r=>
   cases A with
   | some a=>rfl
   | none=>
    have:=h3 rfl;simp only[AcV,AcH] at h1;omega
 ·have:=run_equal_slice_nil (P:=P) w t e A (List.map enc ys).length cap ht;simp only[AcV] at this;simp[execOp,e1,e2,binOp,this,eqGuard]
end
set_option linter.unusedSimpArgs false
set_option maxRecDepth 100000
set_option maxHeartbeats 4000000
theorem Aaq:∃inf,Tryz.prog.info? 9=some inf∧inf.zero=some (.string ⟨#[]⟩)∧inf.size=1∧inf.bytes=16:=by
  have key:(Tryz.prog.info? 9).map (λi=>(i.zero,i.size,i.bytes))=some (some (.string ⟨#[]⟩),1,16):=by kernel_rfl
  obtain⟨inf,h1,h2⟩:=Option.map_eq_some_iff.1 key;simp only[Prod.mk.injEq] at h2;exact⟨inf,h1,h2.1,h2.2.1,h2.2.2⟩
theorem UA (ha:Nat)(hb:Nat)(k:Am)(x:(List Ab))(key:Am)(out:(List Ab))(r:Bool×(List Ab))(h:UB k x key out=some r):Fn Tryz.prog GE 140 [rS k,AB 4 (A1 Ac x),rP ha 0,rP hb 0] [.blk ha [rS key] 9,.blk hb [Q8 4 (A1 Ac out)] 28] (λR H=>R=rB r.1∧H=[.blk ha [rS key] 9,.blk hb [Q8 4 (A1 Ac r.2)] 28]):=by
 refine enter (n:=15) Tryz.func140 Aa Tryz.ntmps140 Aa (λw Z=>?_);unfold UB at h;refine Ah (wa Aa (An (Ao (Ah (wm Aa (vL 0 Dm Aa (wv (EZ Aa Aa) (An (cz h Aa (λc1 h2=>?_) (λc1 h8=>?_))))))))))
 ·refine Al (wm Aa (ob h2 λr3 e5 h4=>BI Tryz.call92 (PU x r3 e5) Aa (ck h4 λg6 h7=>WL.up (d:=11) (r:=Q8 4 (A1 Ac r3)) Aa (Up.le (DH.upn g6)) (B5 (i:=1) BZ Aa Aa (BU Aa) Aa Aa (cs':=[Q8 4 (A1 Ac r3)]) Aa (H':=[.blk ha [rS key] 9,.blk hb [Q8 4 (A1 Ac r3)] 28]) Aa (Bd (wm Aa (vL 0 Dm Aa (wv (GA Aa Aa) (wa Aa (An (Ar ?_)))))))))));obtain rfl:=Ap h7;exact Aq (B2 Tryz.results140 (A5 Aa)) (sC (sC sN)) ⟨Aa,Aa⟩
 ·refine As (A9 (Ah (wm Aa (vL 0 Dm Aa (wv (GA Aa Aa) (wa Aa (An (Ar ?_))))))));obtain rfl:=Ap h8;exact Aq (B2 Tryz.results140 (A5 Aa)) (sC (sC sN)) ⟨Aa,Aa⟩
theorem Zh (F:Nat)(hb:Nat)(he:Nat)(v:(List Ab))(key:Am)(out:(List Ab))(r:(List Ab))(h:WY F v key out=some r):Fn Tryz.prog GE 90 [AB 4 (A1 Ac v),rv (.func (.func 140) #[] #[(.pointer (some ⟨hb,0,none⟩)),(.pointer (some ⟨he,0,none⟩))])] [.blk hb [rS key] 9,.blk he [Q8 4 (A1 Ac out)] 28] (λR H=>R=rv (.tuple #[])∧H=[.blk hb [rS key] 9,.blk he [Q8 4 (A1 Ac r)] 28]):=by
 refine enter (n:=52) Tryz.func90 Aa Tryz.ntmps90 Aa (λw Z=>?_);unfold WY at h;refine Ah (wa Aa (Bd (wm Aa (ck h λg1 h2=>wv (AX (enc:=Ac) (ys:=v) Br Bx Aa Aa g1) (wv (AQ Bp Aa BL Aa Aa) (wv (AK Cc Aa Aa) (wv (r:=Ai 0) (A8 Aa) (An (AA (ob h2 λhw hx hm=>Bk (S:=Nat×(Int×Int×(List Ab))×(Unit)) (V:=((List Ab))×(Unit)) 0 (λσ=>BS (λσ=>Mv F v key σ.1 σ.2.1 σ.2.2) σ.1 σ.2.1=some hw) (λσ=>[(0,AB 4 (A1 Ac v)),(1,rv (.func (.func 140) #[] #[(.pointer (some ⟨hb,0,none⟩)),(.pointer (some ⟨he,0,none⟩))])),(4,Ai σ.2.1.1),(12,Ai ((At v 0).fN)),(13,Ai σ.2.1.2.1)]) (λσ=>[.blk hb [rS key] 9,.blk he [Q8 4 (A1 Ac σ.2.1.2.2)] 28]) (λσ=>σ.1) (F,(1,0,out),()) hx (A4.c5 Aa Aa Aa Aa Aa A4.nil) (sC (sC sN)) (λσ=>Mu σ.1=some r) (λσ=>[]) (λσ=>[.blk hb [rS key] 9,.blk he [Q8 4 (A1 Ac σ.1)] 28]) ?_ ?_))))))))))
 ·rintro⟨gr,⟨ha,hj,hh⟩,⟨⟩⟩ hy;refine BC (l':=[(0,AB 4 (A1 Ac v)),(1,rv (.func (.func 140) #[] #[(.pointer (some ⟨hb,0,none⟩)),(.pointer (some ⟨he,0,none⟩))])),(4,Ai ha),(12,Ai ((At v 0).fN)),(13,Ai hj)]) (H':=[.blk hb [rS key] 9,.blk he [Q8 4 (A1 Ac hh)] 28]) Aa Aa ?_;obtain⟨hp,rfl,hz,hk,hi⟩:=Ce hy;replace hk:Mv F v key ha hj hh=some hz:=hk;unfold Mv at hk;refine Ah (wv (Cn Aa Aa) (An (Ao (cz hk Aa (λh0 h1=>?_) (λh0 h3=>?_)))))
  ·refine As (A9 (Ao (AA (Ah (wv (r:=rS ([]:Am)) (AC Aa) (An (Ao (Ah (wm Aa (wv (AX (enc:=Ac) (ys:=v) Br Bx Aa Aa g1) (wv (AQ Bp Aa CC Aa Aa) (wv (AK CP Aa Aa) (wv (Bj Aa Aa) (An (cz h1 Aa (λh4 h5=>?_) (λh4 h6=>?_))))))))))))))))
   ·refine Ah (wm Aa (wm Aa (ck h5 λh7 h8=>wv (AX (enc:=Ac) (ys:=v) Br Bx Aa Aa h7) (wv (AQ Bp Aa CX Aa Aa) (wv (AK Dm Aa Aa) (wa Aa (An (Al (wm Aa (ck h8 λh9 hA=>wv (Bh Aa Aa h9) (wa Aa (Bd (wm Aa (wm Aa (ck hA λhB hC=>wv (r:=AB 4 (A1 Ac (List.drop (B8 (ha+1)) v))) (EI Br Bx Aa Aa hB) (ob hC λhf hD hE=>BI T3 (JV F (List.drop (B8 (ha+1)) v) hf hD) Aa (wm Aa (wv (A0 Aa Aa) (wv (A0 Aa Aa) ?_)))))))))))))))))));refine wv (A0 Aa Aa) (Cg (cs:=[Ai 0,Ai 0,rB false,rB false]) Rb Aa Aa (λhq=>?_));refine wa Aa (Bg (i:=0) I8 Aa Aa Aa (B3.c Aa) Aa Aa (cs':=[Ai hf.2.1.fDepth,Ai hf.2.1.fBytes,rB hf.2.1.fOutside,rB hf.2.1.fLong]) Aa (H':=[.blk hq (AZ hf.2.1) 86,.blk hb [rS key] 9,.blk he [Q8 4 (A1 Ac hh)] 28]) Aa (wa Aa (An (Ao (Ah (wm Aa (wm Aa (wm Aa (wm Aa (wm Aa (wm Aa (ck hE λhn hG=>wv (Bh Aa Aa hn) (wm Aa (wm Aa (wv (Bh Aa Aa hn) (ck hG λhH hI=>ck hI λhJ hK=>wv (r:=AB 4 (A1 Ac (List.take (B8 ((ha+1)+hf.1)-B8 (ha+1)) (List.drop (B8 (ha+1)) v)))) (Hp Br Bx Aa Aa Aa Aa hH hJ) (ob hK λhr hL hN=>DB (rs:=[rS ((At v ha).fStr),AB 4 (A1 Ac (List.take (B8 ((ha+1)+hf.1)-B8 (ha+1)) (List.drop (B8 (ha+1)) v)))]) (Hin:=[.blk hb [rS key] 9,.blk he [Q8 4 (A1 Ac hh)] 28]) (Hr:=[.blk hq (AZ hf.2.1) 86]) Tryz.call140 Aa Aa ((A6 (i:=1) Aa).trans (AcQ _ ((A6 (i:=1) Aa).trans (AcQ _ (AcK _))))) (UA hb he ((At v ha).fStr) (List.take (B8 ((ha+1)+hf.1)-B8 (ha+1)) (List.drop (B8 (ha+1)) v)) key hh hr hL) Aa ?_)))))))))))))))));rintro _ _ ⟨rfl,rfl⟩;refine wv (B7 Aa) (An (cz hN Aa (λhO hP=>?_) (λhO hQ=>?_)))
    ·refine Ar (Ae (Au (Ae (Ae (AU ?_)))));have hR:=Bm hP hi hm;refine Au ?_;obtain rfl:=Ap hR;exact Aq (Rk Rc) (sC (sC (sS sN))) ⟨Aa,Aa⟩
    ·refine As (A9 (Al (wm Aa (wm Aa (wv (Bh Aa Aa hn) (wa Aa (Ak (A7 (A9 (Al (ck hQ λhS hT=>wv (Bh Aa Aa hS) (wm Aa (Ak ?_)))))))))))));have hU:=AY hT hi;exact Ax (Av (hp,((ha+1)+hf.1,hj+1,hr.2),()) ⟨hU,AcR _⟩ (A4.c5 Aa Aa Aa Aa Aa A4.nil) (sC (sC (sS sN))))
   ·refine As (A9 (Ah (wm Aa (wm Aa (ck h6 λhV hW=>wv (r:=AB 4 (A1 Ac (List.drop (B8 ha) v))) (EI Br Bx Aa Aa hV) (ob hW λhg hX hY=>BI T3 (JV F (List.drop (B8 ha) v) hg hX) Aa (wm Aa (wv (A0 Aa Aa) (wv (A0 Aa Aa) (wv (A0 Aa Aa) (Cg (cs:=[Ai 0,Ai 0,rB false,rB false]) Rb Aa Aa (λhs=>?_))))))))))));refine wa Aa (Bg (i:=0) I8 Aa Aa Aa (B3.c Aa) Aa Aa (cs':=[Ai hg.2.1.fDepth,Ai hg.2.1.fBytes,rB hg.2.1.fOutside,rB hg.2.1.fLong]) Aa (H':=[.blk hs (AZ hg.2.1) 86,.blk hb [rS key] 9,.blk he [Q8 4 (A1 Ac hh)] 28]) Aa (wa Aa (An (Ao (Ah (wm Aa (wm Aa (wm Aa (wm Aa (wm Aa (wm Aa (ck hY λho hZ=>wv (Bh Aa Aa ho) (wm Aa (wm Aa (wv (Bh Aa Aa ho) (ck hZ λga gb=>ck gb λgc gd=>wv (r:=AB 4 (A1 Ac (List.take (B8 (ha+hg.1)-B8 ha) (List.drop (B8 ha) v)))) (Hp Br Bx Aa Aa Aa Aa ga gc) (ob gd λht ge gf=>DB (rs:=[rS ([]:Am),AB 4 (A1 Ac (List.take (B8 (ha+hg.1)-B8 ha) (List.drop (B8 ha) v)))]) (Hin:=[.blk hb [rS key] 9,.blk he [Q8 4 (A1 Ac hh)] 28]) (Hr:=[.blk hs (AZ hg.2.1) 86]) Tryz.call140 Aa Aa ((A6 (i:=1) Aa).trans (AcQ _ ((A6 (i:=1) Aa).trans (AcQ _ (AcK _))))) (UA hb he ([]:Am) (List.take (B8 (ha+hg.1)-B8 ha) (List.drop (B8 ha) v)) key hh ht ge) Aa ?_)))))))))))))))));rintro _ _ ⟨rfl,rfl⟩;refine wv (B7 Aa) (An (cz gf Aa (λgg gh=>?_) (λgg gi=>?_)))
    ·refine Ar (Ae (Au (Ae (Ae (AU ?_)))));have gj:=Bm gh hi hm;refine Au ?_;obtain rfl:=Ap gj;exact Aq (Rk Rc) (sC (sC (sS sN))) ⟨Aa,Aa⟩
    ·refine As (A9 (Al (wm Aa (wm Aa (wv (Bh Aa Aa ho) (wa Aa (Ak (A7 (A9 (Al (ck gi λgl gm=>wv (Bh Aa Aa gl) (wm Aa (Ak ?_)))))))))))));have gp:=AY gm hi;exact Ax (Av (hp,(ha+hg.1,hj+1,ht.2),()) ⟨gp,AcR _⟩ (A4.c5 Aa Aa Aa Aa Aa A4.nil) (sC (sC (sS sN))))
  ·refine Bt (Ay ?_);have gq:=BD h3 hi hm;exact Ay (Bb (Av (hh,()) gq A4.nil (sC (sC sN))))
 ·rintro⟨hu,⟨⟩⟩ hl;refine Ci (l':=[]) (H':=[.blk hb [rS key] 9,.blk he [Q8 4 (A1 Ac hu)] 28]) Aa Aa ?_;replace hl:Mu hu=some r:=hl;unfold Mu at hl;refine Bf ?_;obtain rfl:=Ap hl;exact Hi (Rk Rc) (sC (sC sN)) ⟨Aa,Aa⟩
theorem Aa2 (F:Nat)(v:(List Ab))(key:Am)(r:(List Ab)×Int)(h:Aa3 F v key=some r):Fn Tryz.prog GE 107 [AB 4 (A1 Ac v),rS key] [] (λR H=>R=CY [AB 4 (A1 Ac r.1),Ai r.2]∧H=[]):=by
 refine enter (n:=24) Tryz.func107 Aa Tryz.ntmps107 Aa (λw Z=>?_);unfold Aa3 at h;refine Ah (NZ Aa (BU Aa) Aa (λb1=>?_));refine wa Aa (wa Aa (An (Ao (Ah (wm Aa (ob h λr2 e4 h3=>BI Qg (Gi F v r2 e4) Aa (wa Aa (Bd (wm Aa (wv (Bs Aa Aa) (An (cz h3 Aa (λc5 h6=>?_) (λc5 h7=>?_)))))))))))))
 ·refine Ah (wm Aa (wa Aa (wa Aa (An (Ar (Ae (WK.up (d:=4) (r:=AB 4 (A1 Ac ([]:List Ab))) Aa (Up.le (DH.nil _)) ?_)))))));obtain rfl:=Ap h6;exact Aq (CM U8 (A5 Aa) (A5 Aa)) (sS sN) ⟨Aa,Aa⟩
 ·refine As (A9 (Ao (Ah (wm Aa (ck h7 λg8 h9=>wv (AX (enc:=Ac) (ys:=v) Br Bx Aa Aa g8) (wv (AQ Bp Aa CC Aa Aa) (wv (AK CP Aa Aa) (wv (Bs Aa Aa) (An (cz h9 Aa (λhe hf=>?_) (λhe hg=>?_)))))))))))
  ·refine Ah (wa Aa (wa Aa (An (Ar (Ae (WK.up (d:=4) (r:=AB 4 (A1 Ac ([]:List Ab))) Aa (Up.le (DH.nil _)) ?_))))));obtain rfl:=Ap hf;exact Aq (CM U8 (A5 Aa) (A5 Aa)) (sS sN) ⟨Aa,Aa⟩
  ·refine As (A9 (Ah (Cg (cs:=[rv (.slice none 0 0)]) Jm Aa Aa (λhb=>?_))));refine Bd (wm Aa (wv (r:=rv (.func (.func 140) #[] #[(.pointer (some ⟨b1,0,none⟩)),(.pointer (some ⟨hb,0,none⟩))])) (Cz Aa) (WL.upBlk (i:=0) (cs':=[Q8 4 (A1 Ac ([]:List Ab))]) Aa ⟨Up.le (DH.niln _),trivial⟩ (ob hg λha hh hi=>Gc (Hr:=[]) Tryz.call90 (Zh F b1 hb v key ([]:List Ab) ha hh) Aa ((A6 (i:=1) Aa).trans (AcQ _ (AcK _))) Aa ?_))));rintro _ _ ⟨rfl,rfl⟩;refine An (Ao (Ah (vL 1 CN Aa (wv (r:=rB (List.isEmpty ha)) (TR Br Aa) (An (cz hi Aa (λhj hk=>?_) (λhj hl=>?_)))))))
   ·refine Ah (wa Aa (wa Aa (An (Ar (Ae (WK.up (d:=4) (r:=AB 4 (A1 Ac ([]:List Ab))) Aa (Up.le (DH.nil _)) ?_))))));obtain rfl:=Ap hk;exact Aq (CM U8 (A5 Aa) (A5 Aa)) (sS (sS sN)) ⟨Aa,Aa⟩
   ·refine As (A9 (Ah (vL 1 CN Aa (wa Aa (wa Aa (An (Ar (WK.up (d:=4) (r:=AB 4 (A1 Ac ha)) Aa (Up.le DH.sn) ?_))))))));obtain rfl:=Ap hl;exact Aq (CM U8 (A5 Aa) (A5 Aa)) (sS (sS sN)) ⟨Aa,Aa⟩
theorem Zg (F:Nat)(v:(List Ab))(path:(List Am))(r:(List Ab)×Int)(h:WW F v path=some r):Fn Tryz.prog GE 77 [AB 4 (A1 Ac v),AB 1 (A1 eS path)] [] (λR H=>R=CY [AB 4 (A1 Ac r.1),Ai r.2]∧H=[]):=by
 refine enter (n:=37) Tryz.func77 Aa Tryz.ntmps77 Aa (λw Z=>?_);unfold WW at h;refine Ah (wa Aa (wa Aa (An (Ao (Ah (wm Aa (ob h λr1 e3 h2=>BI Qg (Gi F v r1 e3) Aa (wa Aa (Bd (wm Aa (wv (Bs Aa Aa) (An (cz h2 Aa (λc4 h5=>?_) (λc4 h6=>?_))))))))))))))
 ·refine Ah (wm Aa (wa Aa (wa Aa (An (Ar (Ae (WK.up (d:=4) (r:=AB 4 (A1 Ac ([]:List Ab))) Aa (Up.le (DH.nil _)) ?_)))))));obtain rfl:=Ap h5;exact Aq (CM Tryz.results77 (A5 Aa) (A5 Aa)) sN ⟨Aa,Aa⟩
 ·refine As (A9 (Ah (wm Aa (ob h6 λr7 e9 h8=>BI Tryz.call92 (PU v r7 e9) Aa (wa Aa (An (Ao (Ah (wm Aa (wv (AW (ys:=path) (enc:=eS) DG Aa) (wv (r:=Ai 0) (A8 Aa) (An (AA (ob h8 λhk hl hh=>Bk (S:=Nat×((List Ab)×Int)×(Unit)) (V:=((List Ab))×(Unit)) 0 (λσ=>BS (λσ=>Mr F path σ.1 σ.2) σ.1 σ.2.1=some hk) (λσ=>[(4,rv (.slice none 0 0)),(5,Ai 0),(7,AB 4 (A1 Ac σ.2.1.1)),(19,AB 1 (A1 eS path)),(20,Ai (path.length:Int)),(21,Ai σ.2.1.2)]) (λσ=>[]) (λσ=>σ.1) (F,(r7,0),()) hl (A4.c Aa (A4.c5 Aa Aa Aa Aa Aa A4.nil)) sN (λσ=>Mq σ.1=some r) (λσ=>[(4,rv (.slice none 0 0)),(5,Ai 0),(7,AB 4 (A1 Ac σ.1))]) (λσ=>[]) ?_ ?_))))))))))))))
  ·rintro⟨h9,⟨ha,hb⟩,⟨⟩⟩ hm;refine BC (l':=[(4,rv (.slice none 0 0)),(5,Ai 0),(7,AB 4 (A1 Ac ha)),(19,AB 1 (A1 eS path)),(20,Ai (path.length:Int)),(21,Ai hb)]) (H':=[]) Aa Aa ?_;obtain⟨hn,rfl,ho,he,hg⟩:=Ce hm;replace he:Mr F path ha hb=some ho:=he;unfold Mr at he;refine Ah (wv (Cn Aa Aa) (An (Ao (cz he Aa (λhp hq=>?_) (λhp hr=>?_)))))
   ·refine As (A9 (Ao (AA (Ah (ck hq λhs ht=>wv (AX (enc:=eS) (ys:=path) DG CX Aa Aa hs) (wv (AK Dm Aa Aa) (wa Aa (Bd (wm Aa (wm Aa (ob ht λhi hu hw=>BI Tryz.call107 (Aa2 F ha (At path hb) hi hu) Aa (wm Aa (wv (A0 Aa Aa) (wv (A0 Aa Aa) (wa Aa (wa Aa (An (Ao (Ah (wm Aa (wv (Bs Aa Aa) ?_)))))))))))))))))))));refine An (cz hw Aa (λhx hy=>?_) (λhx hz=>?_))
    ·refine Ah (wm Aa (wa Aa (wa Aa (An (Ar (Ae (Au (Ae (Ae (AU ?_))))))))));have h0:=Bm hy hg hh;refine Au (Ae (WK.up (d:=4) (r:=AB 4 (A1 Ac ([]:List Ab))) Aa (Up.le (DH.nil _)) ?_));obtain rfl:=Ap h0;exact Aq (CM Tryz.results77 (A5 Aa) (A5 Aa)) sN ⟨Aa,Aa⟩
    ·refine As (A9 (Al (wm Aa (wa Aa (Ak (A7 (A9 (Al (ck hz λh1 h3=>wv (Bh Aa Aa h1) (wm Aa (Ak ?_)))))))))));have h4:=AY h3 hg;exact Ax (Av (hn,(hi.1,hb+1),()) ⟨h4,AcR _⟩ (A4.c Aa (A4.c5 Aa Aa Aa Aa Aa A4.nil)) sN)
   ·refine Bt (Ay ?_);have h7:=BD hr hg hh;exact Ay (Bb (Av (ha,()) h7 (A4.c Aa (A4.c Aa (A4.c Aa A4.nil))) sN))
  ·rintro⟨hj,⟨⟩⟩ hf;refine Ci (l':=[(4,rv (.slice none 0 0)),(5,Ai 0),(7,AB 4 (A1 Ac hj))]) (H':=[]) Aa Aa ?_;replace hf:Mq hj=some r:=hf;unfold Mq at hf;refine Bf (A9 (Ah (wm Aa (wa Aa (wa Aa (An (Ar ?_)))))));obtain rfl:=Ap hf;exact Aq (CM Tryz.results77 (A5 Aa) (A5 Aa)) sN ⟨Aa,Aa⟩
theorem UH (F:Nat)(v:(List Ab))(a:Int)(b:Int)(r:(List Ab))(h:Pm F v a b=some r):Fn Tryz.prog GE 81 [AB 4 (A1 Ac v),Ai a,Ai b] [] (λR H=>R=AB 4 (A1 Ac r)∧H=[]):=by
 refine enter (n:=23) Tryz.func81 Aa Tryz.ntmps81 Aa (λw Z=>?_);unfold Pm at h;refine Ah (wa Aa (Bd (wa Aa (An (Ao (Ah (wm Aa (wa Aa (An (AA (WC.nilrow (e:=54) (sz:=4) (ob h λhk hl hm=>Bk (S:=Nat×((List Ab)×Int)×(Value)) (V:=((List Ab))×(Value)) 0 (λσ=>BS (λσ=>GQ v b σ.1 σ.2) σ.1 σ.2.1=some hk) (λσ=>[(0,AB 4 (A1 Ac v)),(2,Ai b),(6,rv (.slice none 0 0)),(7,rv σ.2.2),(8,Ai σ.2.1.2)]) (λσ=>[.row σ.2.2 54 4 (A1 Ac σ.2.1.1)]) (λσ=>σ.1) (F,(([]:List Ab),a),(.slice none 0 0                                                      )) hl (A4.c5 Aa Aa Aa Aa Aa A4.nil) (sC sN) (λσ=>J2 σ.1=some r) (λσ=>[(6,rv (.slice none 0 0)),(7,rv σ.2)]) (λσ=>[.row σ.2 54 4 (A1 Ac σ.1)]) ?_ ?_))))))))))))
 ·rintro⟨h2,⟨hb,ha⟩,hg⟩ hn;refine BC (l':=[(0,AB 4 (A1 Ac v)),(2,Ai b),(6,rv (.slice none 0 0)),(7,rv hg),(8,Ai ha)]) (H':=[.row hg 54 4 (A1 Ac hb)]) Aa Aa ?_;obtain⟨ho,rfl,hp,he,hi⟩:=Ce hn;replace he:GQ v b hb ha=some hp:=he;unfold GQ at he;refine Ao (Ah (wm Aa (wm Aa (wv (Cn Aa Aa) (An (cz he Aa (λc51 hq=>?_) (λc51 hr=>?_)))))))
  ·refine As (A9 (Ao (AA (Al (wm Aa (wm Aa (wm Aa (ck hq λhs ht=>wv (AX (enc:=Ac) (ys:=v) Br Bx Aa Aa hs) (wv (DM LA Bx Aa Aa Aa) (AN (ys:=([(At v ha)]:List Ab)) (enc:=Ac) (css:=[[Ai ((At v ha).fKind),Ai ((At v ha).fInt),rS ((At v ha).fStr),Ai ((At v ha).fN)]]) (xs:=[.tmp 19]) Br Bx DU Aa Aa Aa ⟨Dx.agg ⟨Up.refl _,Up.refl _,Up.refl _,Up.refl _,trivial⟩,trivial⟩ Aa AO Aa Aa Aa (λh3=>?_)))))))))));refine ck ht λhu hw=>Exists.elim Ef λinf hinf=>B6 (xs:=hb) (ys:=([(At v ha)]:List Ab)) (enc:=Ac) (i:=1) Br hinf.1 hinf.2.1 hinf.2.2.1 hinf.2.2.2 Aa Aa Aa Aa Aa (I7.w (i:=0) Aa Aa) AO BG hu Aa (λhx=>?_);refine wa Aa (Ak (A7 (A9 (Al (wm Aa (ck hw λhy hz=>wv (Bh Aa Aa hy) (wa Aa (Ak ?_))))))));have h0:=AY hz hi;exact Ax (Av (ho,(hb++([(At v ha)]:List Ab),ha+1),hx) ⟨h0,AcR _⟩ (A4.c5 Aa Aa Aa Aa Aa A4.nil) (sC (sS sN)))
  ·refine Bt (Ay ?_);have h1:=BD hr hi hm;exact Ay (Bb (Av (hb,hg) h1 (A4.c Aa (A4.c Aa A4.nil)) (sC sN)))
 ·rintro⟨hh,hj⟩ hf;refine Ci (l':=[(6,rv (.slice none 0 0)),(7,rv hj)]) (H':=[.row hj 54 4 (A1 Ac hh)]) Aa Aa ?_;replace hf:J2 hh=some r:=hf;unfold J2 at hf;refine Bf (A9 (Ah (wm Aa (wa Aa (An (Ar (WK.freeze (i:=0) Aa (WK.up (d:=6) (r:=AB 4 (A1 Ac hh)) Aa (Up.fact (i:=0) Aa) ?_))))))));obtain rfl:=Ap hf;exact Aq (B2 Tryz.results81 (A5 Aa)) (sS sN) ⟨Aa,Aa⟩
theorem Po (F:Nat)(v:(List Ab))(r:(List (List Ab))×Int)(h:LT F v=some r):Fn Tryz.prog GE 60 [AB 4 (A1 Ac v)] [] (λR H=>R=CY [AB 1 (A1 Ad r.1),Ai r.2]∧H=[]):=by
 refine enter (n:=53) Tryz.func60 Aa Tryz.ntmps60 Aa (λw Z=>?_);unfold LT at h;refine Ah (wa Aa (wa Aa (Bd (wm Aa (ob h λr1 e3 h2=>BI Tryz.call34 (M8 F v r1 e3) Aa (wa Aa (An (Ao (Ah (wm Aa (wv (Bs Aa Aa) (An (cz h2 Aa (λc4 h5=>?_) (λc4 h6=>?_))))))))))))))
 ·refine Ah (wm Aa (wa Aa (wa Aa (An (Ar (Ae (WK.up (d:=2) (r:=AB 1 (A1 Ad ([]:List (List Ab)))) Aa (Up.le (DH.nil _)) ?_)))))));obtain rfl:=Ap h5;exact Aq (CM Tryz.results60 (A5 Aa) (A5 Aa)) sN ⟨Aa,Aa⟩
 ·refine As (A9 (Ao (ck h6 λg7 h8=>AE [(0,AB 4 (A1 Ac v)),(25,rB ((!decide (((At v 0).fKind)=5))&&(!decide (((At v 0).fKind)=6))))] [] ?_ ?_)))
  ·refine Al (wm Aa (wv (AX (enc:=Ac) (ys:=v) Br Bx Aa Aa g7) (wv (AQ Bp Aa CC Aa Aa) (wv (AK CP Aa Aa) (wv (Bs Aa Aa) (wm Aa (AP (!decide (((At v 0).fKind)=5)) (λc9=>?_) (λc9=>?_))))))))
   ·refine wo c9 (wm Aa (wo c9 (wv (AX (enc:=Ac) (ys:=v) Br Bx Aa Aa g7) (wo c9 (wv (AQ Bp Aa CC Aa Aa) (wo c9 (wv (AK CP Aa Aa) (wo c9 (wv (Bs Aa Aa) (C3 Aa c9 Aa (Ak ?_)))))))))));exact BH c9
   ·refine wf c9 (wf c9 (wf c9 (wf c9 (wf c9 (wv (r:=rB false) (Az Aa c9 Aa) (Ak ?_))))));exact BH c9
  refine cz h8 Aa (λhp hq=>?_) (λhp hr=>?_)
  ·refine Ah (wa Aa (wa Aa (An (Ar (Ae (WK.up (d:=2) (r:=AB 1 (A1 Ad ([]:List (List Ab)))) Aa (Up.le (DH.nil _)) ?_))))));obtain rfl:=Ap hq;exact Aq (CM Tryz.results60 (A5 Aa) (A5 Aa)) sN ⟨Aa,Aa⟩
  ·refine As (A9 (Ah (wa Aa (Bd (wa Aa (An (Ao (Ah (wa Aa (An (AA (WC.nilrow (e:=28) (sz:=1) (ob hr λhs ht hu=>Bk (S:=Nat×((List (List Ab))×Int×Int)×(Value)) (V:=((List (List Ab)))×(Value)) 0 (λσ=>BS (λσ=>ER F v σ.1 σ.2.1 σ.2.2) σ.1 σ.2.1=some hs) (λσ=>[(0,AB 4 (A1 Ac v)),(5,rv σ.2.2),(6,Ai σ.2.1.2.1),(7,Ai σ.2.1.2.2)]) (λσ=>[.row σ.2.2 28 1 (A1 Ad σ.2.1.1)]) (λσ=>σ.1) (F,(([]:List (List Ab)),1,0),(.slice none 0 0                            )) ht (A4.c Aa (A4.c Aa (A4.c Aa (A4.c Aa A4.nil)))) (sC sN) (λσ=>Li σ.1=some r) (λσ=>[(5,rv σ.2)]) (λσ=>[.row σ.2 28 1 (A1 Ad σ.1)]) ?_ ?_)))))))))))))
   ·rintro⟨hX,⟨ha,hb,hg⟩,v76⟩ hw;refine BC (l':=[(0,AB 4 (A1 Ac v)),(5,rv v76),(6,Ai hb),(7,Ai hg)]) (H':=[.row v76 28 1 (A1 Ad ha)]) Aa Aa ?_;obtain⟨hn,rfl,hx,hh,hj⟩:=Ce hw;replace hh:ER F v ha hb hg=some hx:=hh;unfold ER at hh;refine Ao (Ah (wm Aa (wm Aa (wv (AX (enc:=Ac) (ys:=v) Br Bx Aa Aa g7) (wv (AQ Bp Aa BL Aa Aa) (wv (AK Cc Aa Aa) (wv (Cn Aa Aa) (An (cz hh Aa (λhy hz=>?_) (λhy h0=>?_))))))))))
    ·refine As (A9 (Ao (AA (Ao (Ah (wm Aa (wv (AX (enc:=Ac) (ys:=v) Br Bx Aa Aa g7) (wv (AQ Bp Aa CC Aa Aa) (wv (AK CP Aa Aa) (wv (Bj Aa Aa) (An (cz hz Aa (λh1 h3=>?_) (λh1 h4=>?_)))))))))))))
     ·refine Al (wm Aa (ck h3 λh7 h9=>wv (Bh Aa Aa h7) (wa Aa (Bd (wm Aa (wm Aa (ob h9 λhk hA hB=>BI Nr (GR F v (hb+1) hk hA) Aa (wa Aa (Bd (wm Aa (wm Aa (wm Aa (wm Aa (ob hB λhe hC hD=>BI Tryz.call81 (UH F v (hb+1) hk he hC) Aa (AN (ys:=([he]:List (List Ab))) (enc:=Ad) (css:=[[AB 4 (A1 Ac he)]]) (xs:=[.tmp 48]) BB BZ Jm Aa Aa Aa ⟨Dx.one Aa (Up.refl _),trivial⟩ Aa Be Aa Aa Aa (λhY=>?_))))))))))))))));refine ck hD λhE hG=>Exists.elim Hq λinf hinf=>B6 (xs:=ha) (ys:=([he]:List (List Ab))) (enc:=Ad) (i:=1) BB hinf.1 hinf.2.1 hinf.2.2.1 hinf.2.2.2 Aa Aa Aa Aa Aa (I7.w (i:=0) Aa Aa) Be Cf hE Aa (λhH=>?_);refine wa Aa (An (Al (wm Aa (wa Aa (Ak (A7 (A9 (Al (wm Aa (ck hG λhI hJ=>wv (Bh Aa Aa hI) (wa Aa (Ak ?_))))))))))));have hK:=AY hJ hj;exact Ax (Av (hn,(ha++([he]:List (List Ab)),hk,hg+1),hH) ⟨hK,AcR _⟩ (A4.c Aa (A4.c Aa (A4.c Aa (A4.c Aa A4.nil)))) (sC (sS sN)))
     ·refine As (A9 (Ah (wm Aa (wm Aa (ob h4 λhl hL hN=>BI Nr (GR F v hb hl hL) Aa (wa Aa (Bd (wm Aa (wm Aa (wm Aa (wm Aa (ob hN λhf hO hP=>BI Tryz.call81 (UH F v hb hl hf hO) Aa (AN (ys:=([hf]:List (List Ab))) (enc:=Ad) (css:=[[AB 4 (A1 Ac hf)]]) (xs:=[.tmp 48]) BB BZ Jm Aa Aa Aa ⟨Dx.one Aa (Up.refl _),trivial⟩ Aa Be Aa Aa Aa (λhZ=>?_))))))))))))));refine ck hP λhQ hR=>Exists.elim Hq λinf hinf=>B6 (xs:=ha) (ys:=([hf]:List (List Ab))) (enc:=Ad) (i:=1) BB hinf.1 hinf.2.1 hinf.2.2.1 hinf.2.2.2 Aa Aa Aa Aa Aa (I7.w (i:=0) Aa Aa) Be Cf hQ Aa (λhS=>?_);refine wa Aa (An (Al (wm Aa (wa Aa (Ak (A7 (A9 (Al (wm Aa (ck hR λhT hU=>wv (Bh Aa Aa hT) (wa Aa (Ak ?_))))))))))));have hV:=AY hU hj;exact Ax (Av (hn,(ha++([hf]:List (List Ab)),hl,hg+1),hS) ⟨hV,AcR _⟩ (A4.c Aa (A4.c Aa (A4.c Aa (A4.c Aa A4.nil)))) (sC (sS sN)))
    ·refine Bt (Ay ?_);have hW:=BD h0 hj hu;exact Ay (Bb (Av (ha,v76) hW (A4.c Aa A4.nil) (sC sN)))
   ·rintro⟨hm,ho⟩ hi;refine Ci (l':=[(5,rv ho)]) (H':=[.row ho 28 1 (A1 Ad hm)]) Aa Aa ?_;replace hi:Li hm=some r:=hi;unfold Li at hi;refine Bf (A9 (Ah (wm Aa (wa Aa (wa Aa (An (Ar (WK.freeze (i:=0) Aa (WK.up (d:=2) (r:=AB 1 (A1 Ad hm)) Aa (Up.fact (i:=0) Aa) ?_)))))))));obtain rfl:=Ap hi;exact Aq (CM Tryz.results60 (A5 Aa) (A5 Aa)) (sS sN) ⟨Aa,Aa⟩
end Go.Proofs.YtghdglcmblpbeaaGreatDoor.Q
namespace Go.Proofs.YtghdglcmblpbeaaGreatDoor
open Go
set_option linter.unusedVariables false
structure Aj where
 fPath:(List Am)
 fOp:Int
 fValues:(List (List Ab))
 fText:Am
 fLow:Int
 fHigh:Int
 deriving DecidableEq,Inhabited
structure Ab9 where
 fID:Am
 fTenant:Am
 fSource:Am
 fKey:Am
 fAt:Int
 fCause:Am
 fBody:(List Ab)
 deriving DecidableEq,Inhabited
def Dd (ys:(List Am))(x:Am)(ha:Int):Option (Stp (Int) (Out (Int) (Unit))):=
 AT (decide (ha<(ys.length:Int))) (AS (Co ha (ys.length:Int))<|AT (decide (x=(At ys ha))) (some (.out (.ret ha))) (AS (Bu .i64 (ha+1))<|some (.next (ha+1)))) (some (.out (.go ())))
def IC :Option (Int):=
 some (-1)
def KE (F:Nat)(ys:(List Am))(x:Am):Option (Int):=
 Bi (BS (λσ=>Dd ys x σ) F 0) (BP λν=>IC )
def IF (a:(List Am))(b:(List Am))(ha:Int):Option (Stp (Int) (Out (Bool) (Unit))):=
 AT (decide (ha<(a.length:Int))) (AS (Co ha (a.length:Int))<|AS (Co ha (b.length:Int))<|AT (!decide ((At a ha)=(At b ha))) (some (.out (.ret false))) (AS (Bu .i64 (ha+1))<|some (.next (ha+1)))) (some (.out (.go ())))
def IE :Option (Bool):=
 some true
def Iu (F:Nat)(a:(List Am))(b:(List Am)):Option (Bool):=
 AT (!decide ((a.length:Int)=(b.length:Int))) (some false) (Bi (BS (λσ=>IF a b σ) F 0) (BP λν=>IE ))
def NC :Option ((List Am)):=
 some ([([]:Am),([101,120,105,115,116,115]:Am),([109,105,115,115,105,110,103]:Am),([101,113,117,97,108,115]:Am),([111,116,104,101,114]:Am),([112,114,101,102,105,120]:Am),([114,97,110,103,101]:Am)]:List Am)
def HV (op:Int):Option (Bool):=
 some ((decide (op=3))||(decide (op=4)))
def CI (ha:Bool):Option (Int):=
 AT (ha) (some 1) (some 0)
def Ht (F:Nat)(f:Aj)(ha:Int):Option (Stp (Int) (Out (Int) (Unit))):=
 AT (decide (ha<(f.fValues.length:Int))) (AS (Co ha (f.fValues.length:Int))<|Bi (Es F (At f.fValues ha)) λhb=>AT (!decide (hb=0)) (some (.out (.ret hb))) (AS (Bu .i64 (ha+1))<|some (.next (ha+1)))) (some (.out (.go ())))
def JG (f:Aj):Option (Int):=
 Bi (HV f.fOp) λha=>AT (!ha) (AT (decide (0<(f.fValues.length:Int))) (CI true) (AT (!decide (f.fOp=5)) (AT (!decide (f.fText=([]:Am))) (CI true) (AT (!decide (f.fOp=6)) (AT (!decide (f.fLow=0)) (CI true) (CI (!decide (f.fHigh=0)))) (CI false))) (AT (!decide (f.fOp=6)) (AT (!decide (f.fLow=0)) (CI true) (CI (!decide (f.fHigh=0)))) (CI false)))) (AT (!decide (f.fOp=5)) (AT (!decide (f.fText=([]:Am))) (CI true) (AT (!decide (f.fOp=6)) (AT (!decide (f.fLow=0)) (CI true) (CI (!decide (f.fHigh=0)))) (CI false))) (AT (!decide (f.fOp=6)) (AT (!decide (f.fLow=0)) (CI true) (CI (!decide (f.fHigh=0)))) (CI false)))
def CH (ha:Bool):Option (Int):=
 AT (ha) (some 1) (some 0)
def JI (F:Nat)(f:Aj)(ha:Int):Option (Stp (Int) (Out (Int) (Unit))):=
 AT (decide (ha<(f.fValues.length:Int))) (AS (Co ha (f.fValues.length:Int))<|Bi (Es F (At f.fValues ha)) λhb=>AT (!decide (hb=0)) (some (.out (.ret hb))) (AS (Bu .i64 (ha+1))<|some (.next (ha+1)))) (some (.out (.go ())))
def JF (f:Aj):Option (Int):=
 Bi (HV f.fOp) λha=>AT (!ha) (AT (decide (0<(f.fValues.length:Int))) (CH true) (AT (!decide (f.fOp=5)) (AT (!decide (f.fText=([]:Am))) (CH true) (AT (!decide (f.fOp=6)) (AT (!decide (f.fLow=0)) (CH true) (CH (!decide (f.fHigh=0)))) (CH false))) (AT (!decide (f.fOp=6)) (AT (!decide (f.fLow=0)) (CH true) (CH (!decide (f.fHigh=0)))) (CH false)))) (AT (!decide (f.fOp=5)) (AT (!decide (f.fText=([]:Am))) (CH true) (AT (!decide (f.fOp=6)) (AT (!decide (f.fLow=0)) (CH true) (CH (!decide (f.fHigh=0)))) (CH false))) (AT (!decide (f.fOp=6)) (AT (!decide (f.fLow=0)) (CH true) (CH (!decide (f.fHigh=0)))) (CH false)))
def CG (ha:Bool):Option (Int):=
 AT (ha) (some 1) (some 0)
def CF (ha:Bool):Option (Int):=
 AT (ha) (some 1) (some 0)
def CE (ha:Bool):Option (Int):=
 AT (ha) (some 1) (some 0)
def Hu (F:Nat)(f:Aj)(ha:Int):Option (Stp (Int) (Out (Int) (Unit))):=
 AT (decide (ha<(f.fPath.length:Int))) (AS (Co ha (f.fPath.length:Int))<|Bi (Qj F (At f.fPath ha)) λhb=>AT (!decide (hb.2=0)) (some (.out (.ret hb.2))) (AS (Bu .i64 (ha+1))<|some (.next (ha+1)))) (some (.out (.go ())))
def JH (F:Nat)(f:Aj):Option (Int):=
 AT (((decide (f.fOp<1))||(decide (6<f.fOp)))) (some 7) (AT (decide (f.fOp=3)) (AT (((decide ((f.fValues.length:Int)<1))||(decide (8<(f.fValues.length:Int))))) (some 3) (Bi (BS (λσ=>Ht F f σ) F 0) (BP λν=>JG f ))) (AT (decide (f.fOp=4)) (AT (((decide ((f.fValues.length:Int)<1))||(decide (8<(f.fValues.length:Int))))) (some 3) (Bi (BS (λσ=>JI F f σ) F 0) (BP λν=>JF f ))) (AT (decide (f.fOp=5)) (Bi (Qj F f.fText) λha=>AT (!decide (ha.2=0)) (some ha.2) (Bi (HV f.fOp) λhb=>AT (!hb) (AT (decide (0<(f.fValues.length:Int))) (CG true) (AT (!decide (f.fOp=5)) (AT (!decide (f.fText=([]:Am))) (CG true) (AT (!decide (f.fOp=6)) (AT (!decide (f.fLow=0)) (CG true) (CG (!decide (f.fHigh=0)))) (CG false))) (AT (!decide (f.fOp=6)) (AT (!decide (f.fLow=0)) (CG true) (CG (!decide (f.fHigh=0)))) (CG false)))) (AT (!decide (f.fOp=5)) (AT (!decide (f.fText=([]:Am))) (CG true) (AT (!decide (f.fOp=6)) (AT (!decide (f.fLow=0)) (CG true) (CG (!decide (f.fHigh=0)))) (CG false))) (AT (!decide (f.fOp=6)) (AT (!decide (f.fLow=0)) (CG true) (CG (!decide (f.fHigh=0)))) (CG false))))) (AT (decide (f.fOp=6)) (AS ((BE f.fLow).isSome)<|AS (imp (!(!(ov (BE f.fLow)))) ((BE f.fHigh).isSome))<|AT (((!(ov (BE f.fLow)))||((!(ov (BE f.fHigh)))||(decide (f.fHigh<f.fLow))))) (some 2) (Bi (HV f.fOp) λhe=>AT (!he) (AT (decide (0<(f.fValues.length:Int))) (CF true) (AT (!decide (f.fOp=5)) (AT (!decide (f.fText=([]:Am))) (CF true) (AT (!decide (f.fOp=6)) (AT (!decide (f.fLow=0)) (CF true) (CF (!decide (f.fHigh=0)))) (CF false))) (AT (!decide (f.fOp=6)) (AT (!decide (f.fLow=0)) (CF true) (CF (!decide (f.fHigh=0)))) (CF false)))) (AT (!decide (f.fOp=5)) (AT (!decide (f.fText=([]:Am))) (CF true) (AT (!decide (f.fOp=6)) (AT (!decide (f.fLow=0)) (CF true) (CF (!decide (f.fHigh=0)))) (CF false))) (AT (!decide (f.fOp=6)) (AT (!decide (f.fLow=0)) (CF true) (CF (!decide (f.fHigh=0)))) (CF false))))) (Bi (HV f.fOp) λhf=>AT (!hf) (AT (decide (0<(f.fValues.length:Int))) (CE true) (AT (!decide (f.fOp=5)) (AT (!decide (f.fText=([]:Am))) (CE true) (AT (!decide (f.fOp=6)) (AT (!decide (f.fLow=0)) (CE true) (CE (!decide (f.fHigh=0)))) (CE false))) (AT (!decide (f.fOp=6)) (AT (!decide (f.fLow=0)) (CE true) (CE (!decide (f.fHigh=0)))) (CE false)))) (AT (!decide (f.fOp=5)) (AT (!decide (f.fText=([]:Am))) (CE true) (AT (!decide (f.fOp=6)) (AT (!decide (f.fLow=0)) (CE true) (CE (!decide (f.fHigh=0)))) (CE false))) (AT (!decide (f.fOp=6)) (AT (!decide (f.fLow=0)) (CE true) (CE (!decide (f.fHigh=0)))) (CE false))))))))
def DA (F:Nat)(f:Aj):Option (Int):=
 AT (decide (4<(f.fPath.length:Int))) (some 3) (Bi (BS (λσ=>Hu F f σ) F 0) (BP λν=>JH F f ))
def R4 (F:Nat)(x:(List Ab))(v:(List Ab)):Option (Bool):=
 Bi (WT F x v) λr1=>some r1
def OL (F:Nat)(ys:(List (List Ab)))(v:(List Ab))(ha:Int):Option (Stp (Int) (Out (Int) (Unit))):=
 AT (decide (ha<(ys.length:Int))) (AS (Co ha (ys.length:Int))<|Bi (R4 F (At ys ha) v) λhb=>AT (hb) (some (.out (.ret ha))) (AS (Bu .i64 (ha+1))<|some (.next (ha+1)))) (some (.out (.go ())))
def OK :Option (Int):=
 some (-1)
def AaN (F:Nat)(ys:(List (List Ab)))(v:(List Ab)):Option (Int):=
 Bi (BS (λσ=>OL F ys v σ) F 0) (BP λν=>OK )
def Abu (F:Nat)(ys:(List (List Ab)))(v:(List Ab)):Option (Bool):=
 Bi (AaN F ys v) λr1=>some (decide (0≤r1))
def LZ (F:Nat)(l:(List (List Ab)))(v:(List Ab)):Option (Bool):=
 Bi (Abu F l v) λr2=>some r2
def Ni (v:(List Ab))(pre:Am):Option (Bool):=
 AS (Co 0 (v.length:Int))<|AS (imp (decide (((At v 0).fKind)=4)) ((Eg ((At v 0).fStr) pre).isSome))<|some ((decide (((At v 0).fKind)=4))&&(ov (Eg ((At v 0).fStr) pre)))
def Nd (v:(List Ab))(low:Int)(high:Int):Option (Bool):=
 AS (Co 0 (v.length:Int))<|some ((decide (((At v 0).fKind)=3))&&((decide (low≤((At v 0).fInt)))&&(decide (((At v 0).fInt)≤high))))
def QP (F:Nat)(f:Aj)(v:(List Ab)):Option (Bool):=
 Bi (WW F v f.fPath) λr2=>AT (!decide (r2.2=0)) (some (decide (f.fOp=2))) (AT (decide (f.fOp=1)) (some true) (AT (decide (f.fOp=3)) (Bi (LZ F f.fValues r2.1) λha=>some (ha ==(decide (f.fOp=3)))) (AT (decide (f.fOp=4)) (Bi (LZ F f.fValues r2.1) λhb=>some (hb ==(decide (f.fOp=3)))) (AT (decide (f.fOp=5)) (Bi (Ni r2.1 f.fText) λhe=>some he) (AT (decide (f.fOp=6)) (Bi (Nd r2.1 f.fLow f.fHigh) λhf=>some hf) (some false))))))
def Yq (F:Nat)(f:Aj)(v:(List Ab)):Option (Bool):=
 AS ((DA F f).isSome)<|AS (imp (decide ((ov (DA F f))=0)) ((Es F v).isSome))<|AS (imp (decide ((ov (DA F f))=0)) (imp (decide ((ov (Es F v))=0)) ((QP F f v).isSome)))<|some ((decide ((ov (DA F f))=0))&&((decide ((ov (Es F v))=0))&&(ov (QP F f v))))
def R3 (F:Nat)(f:Aj)(v:(List Ab)):Option (Bool):=
 Bi (Yq F f v) λr2=>some (!r2)
def R1 (F:Nat)(ys:(List Aj))(v:(List Ab))(ha:Int):Option (Stp (Int) (Out (Int) (Unit))):=
 AT (decide (ha<(ys.length:Int))) (AS (Co ha (ys.length:Int))<|Bi (R3 F (At ys ha) v) λhb=>AT (hb) (some (.out (.ret ha))) (AS (Bu .i64 (ha+1))<|some (.next (ha+1)))) (some (.out (.go ())))
def R0 :Option (Int):=
 some (-1)
def ixM (F:Nat)(ys:(List Aj))(v:(List Ab)):Option (Int):=
 Bi (BS (λσ=>R1 F ys v σ) F 0) (BP λν=>R0 )
def cfM (F:Nat)(ys:(List Aj))(v:(List Ab)):Option (Bool):=
 Bi (ixM F ys v) λr1=>some (decide (0≤r1))
def Ih (x16:Bool):Option (Bool):=
 some x16
def Ug (F:Nat)(l:(List Aj))(v:(List Ab)):Option (Bool):=
 AT (decide ((l.length:Int)≤32)) (Bi (Es F v) λha=>AT (decide (ha=0)) (Bi (cfM F l v) λhb=>Ih (!hb)) (Ih false)) (Ih false)
def Abf (F:Nat)(v:(List Ab))(a:Aj):Option (Bool):=
 Bi (LZ F a.fValues v) λr1=>some (!r1)
def MU (F:Nat)(ys:(List (List Ab)))(a:Aj)(ha:Int):Option (Stp (Int) (Out (Int) (Unit))):=
 AT (decide (ha<(ys.length:Int))) (AS (Co ha (ys.length:Int))<|Bi (Abf F (At ys ha) a) λhb=>AT (hb) (some (.out (.ret ha))) (AS (Bu .i64 (ha+1))<|some (.next (ha+1)))) (some (.out (.go ())))
def MT :Option (Int):=
 some (-1)
def XX (F:Nat)(ys:(List (List Ab)))(a:Aj):Option (Int):=
 Bi (BS (λσ=>MU F ys a σ) F 0) (BP λν=>MT )
def YC (F:Nat)(ys:(List (List Ab)))(a:Aj):Option (Bool):=
 Bi (XX F ys a) λr1=>some (decide (0≤r1))
def Uf (F:Nat)(f:Aj)(a:Aj):Option (Bool):=
 Bi (YC F f.fValues a) λr2=>some (!r2)
def Abd (F:Nat)(v:(List Ab))(b:Aj):Option (Bool):=
 Bi (LZ F b.fValues v) λr1=>some r1
def MS (F:Nat)(ys:(List (List Ab)))(b:Aj)(ha:Int):Option (Stp (Int) (Out (Int) (Unit))):=
 AT (decide (ha<(ys.length:Int))) (AS (Co ha (ys.length:Int))<|Bi (Abd F (At ys ha) b) λhb=>AT (hb) (some (.out (.ret ha))) (AS (Bu .i64 (ha+1))<|some (.next (ha+1)))) (some (.out (.go ())))
def MR :Option (Int):=
 some (-1)
def XW (F:Nat)(ys:(List (List Ab)))(b:Aj):Option (Int):=
 Bi (BS (λσ=>MS F ys b σ) F 0) (BP λν=>MR )
def YB (F:Nat)(ys:(List (List Ab)))(b:Aj):Option (Bool):=
 Bi (XW F ys b) λr1=>some (decide (0≤r1))
def Ue (F:Nat)(f:Aj)(b:Aj):Option (Bool):=
 Bi (YB F f.fValues b) λr2=>some (!r2)
def Abb (v:(List Ab))(a:Aj):Option (Bool):=
 Bi (Ni v a.fText) λr1=>some r1
def MQ (ys:(List (List Ab)))(a:Aj)(ha:Int):Option (Stp (Int) (Out (Int) (Unit))):=
 AT (decide (ha<(ys.length:Int))) (AS (Co ha (ys.length:Int))<|Bi (Abb (At ys ha) a) λhb=>AT (hb) (some (.out (.ret ha))) (AS (Bu .i64 (ha+1))<|some (.next (ha+1)))) (some (.out (.go ())))
def MP :Option (Int):=
 some (-1)
def XV (F:Nat)(ys:(List (List Ab)))(a:Aj):Option (Int):=
 Bi (BS (λσ=>MQ ys a σ) F 0) (BP λν=>MP )
def YA (F:Nat)(ys:(List (List Ab)))(a:Aj):Option (Bool):=
 Bi (XV F ys a) λr1=>some (decide (0≤r1))
def Ud (F:Nat)(f:Aj)(a:Aj):Option (Bool):=
 Bi (YA F f.fValues a) λr2=>some (!r2)
def AaZ (v:(List Ab))(a:Aj):Option (Bool):=
 Bi (Nd v a.fLow a.fHigh) λr1=>some r1
def MO (ys:(List (List Ab)))(a:Aj)(ha:Int):Option (Stp (Int) (Out (Int) (Unit))):=
 AT (decide (ha<(ys.length:Int))) (AS (Co ha (ys.length:Int))<|Bi (AaZ (At ys ha) a) λhb=>AT (hb) (some (.out (.ret ha))) (AS (Bu .i64 (ha+1))<|some (.next (ha+1)))) (some (.out (.go ())))
def MN :Option (Int):=
 some (-1)
def XU (F:Nat)(ys:(List (List Ab)))(a:Aj):Option (Int):=
 Bi (BS (λσ=>MO ys a σ) F 0) (BP λν=>MN )
def Y9 (F:Nat)(ys:(List (List Ab)))(a:Aj):Option (Bool):=
 Bi (XU F ys a) λr1=>some (decide (0≤r1))
def Uc (F:Nat)(f:Aj)(a:Aj):Option (Bool):=
 Bi (Y9 F f.fValues a) λr2=>some (!r2)
def ND (F:Nat)(a:Aj)(b:Aj):Option (Bool):=
 AT (decide (a.fOp=4)) (Bi (Uf F b a) λr5=>some r5) (AT (decide (a.fOp=3)) (Bi (Ue F a b) λha=>some ha) (AT (decide (a.fOp=5)) (Bi (Ud F b a) λhb=>some hb) (AT (decide (a.fOp=6)) (Bi (Uc F b a) λhe=>some he) (some false))))
def AaX (F:Nat)(v:(List Ab))(b:Aj):Option (Bool):=
 Bi (LZ F b.fValues v) λr1=>some r1
def Abl (F:Nat)(v:(List Ab))(b:Aj):Option (Bool):=
 Bi (AaX F v b) λr1=>some (!r1)
def Na (F:Nat)(ys:(List (List Ab)))(b:Aj)(ha:Int):Option (Stp (Int) (Out (Int) (Unit))):=
 AT (decide (ha<(ys.length:Int))) (AS (Co ha (ys.length:Int))<|Bi (Abl F (At ys ha) b) λhb=>AT (hb) (some (.out (.ret ha))) (AS (Bu .i64 (ha+1))<|some (.next (ha+1)))) (some (.out (.go ())))
def MZ :Option (Int):=
 some (-1)
def Ya (F:Nat)(ys:(List (List Ab)))(b:Aj):Option (Int):=
 Bi (BS (λσ=>Na F ys b σ) F 0) (BP λν=>MZ )
def YF (F:Nat)(ys:(List (List Ab)))(b:Aj):Option (Bool):=
 Bi (Ya F ys b) λr1=>some (decide (0≤r1))
def KT (ha:Bool):Option (Bool):=
 some ha
def Yw (F:Nat)(f:Aj)(b:Aj):Option (Bool):=
 AT (decide (f.fOp=3)) (Bi (YF F f.fValues b) λha=>KT (!ha)) (KT false)
def AaV (v:(List Ab))(b:Aj):Option (Bool):=
 Bi (Ni v b.fText) λr1=>some r1
def Abj (v:(List Ab))(b:Aj):Option (Bool):=
 Bi (AaV v b) λr1=>some (!r1)
def MY (ys:(List (List Ab)))(b:Aj)(ha:Int):Option (Stp (Int) (Out (Int) (Unit))):=
 AT (decide (ha<(ys.length:Int))) (AS (Co ha (ys.length:Int))<|Bi (Abj (At ys ha) b) λhb=>AT (hb) (some (.out (.ret ha))) (AS (Bu .i64 (ha+1))<|some (.next (ha+1)))) (some (.out (.go ())))
def MX :Option (Int):=
 some (-1)
def XZ (F:Nat)(ys:(List (List Ab)))(b:Aj):Option (Int):=
 Bi (BS (λσ=>MY ys b σ) F 0) (BP λν=>MX )
def YE (F:Nat)(ys:(List (List Ab)))(b:Aj):Option (Bool):=
 Bi (XZ F ys b) λr1=>some (decide (0≤r1))
def KS (ha:Bool):Option (Bool):=
 some ha
def Ve (F:Nat)(f:Aj)(b:Aj):Option (Bool):=
 AT (decide (f.fOp=3)) (Bi (YE F f.fValues b) λha=>KS (!ha)) (KS false)
def AaT (v:(List Ab))(b:Aj):Option (Bool):=
 Bi (Nd v b.fLow b.fHigh) λr1=>some r1
def Abh (v:(List Ab))(b:Aj):Option (Bool):=
 Bi (AaT v b) λr1=>some (!r1)
def MW (ys:(List (List Ab)))(b:Aj)(ha:Int):Option (Stp (Int) (Out (Int) (Unit))):=
 AT (decide (ha<(ys.length:Int))) (AS (Co ha (ys.length:Int))<|Bi (Abh (At ys ha) b) λhb=>AT (hb) (some (.out (.ret ha))) (AS (Bu .i64 (ha+1))<|some (.next (ha+1)))) (some (.out (.go ())))
def MV :Option (Int):=
 some (-1)
def XY (F:Nat)(ys:(List (List Ab)))(b:Aj):Option (Int):=
 Bi (BS (λσ=>MW ys b σ) F 0) (BP λν=>MV )
def YD (F:Nat)(ys:(List (List Ab)))(b:Aj):Option (Bool):=
 Bi (XY F ys b) λr1=>some (decide (0≤r1))
def KR (ha:Bool):Option (Bool):=
 some ha
def Te (F:Nat)(f:Aj)(b:Aj):Option (Bool):=
 AT (decide (f.fOp=3)) (Bi (YD F f.fValues b) λha=>KR (!ha)) (KR false)
def GC (ha:Bool):Option (Bool):=
 some ha
def EL (ha:Bool):Option (Bool):=
 some ha
def PI (F:Nat)(a:Aj)(b:Aj):Option (Bool):=
 AT (decide (b.fOp=1)) (some (!decide (a.fOp=2))) (AT (decide (b.fOp=2)) (some (decide (a.fOp=2))) (AT (decide (b.fOp=3)) (Bi (Yw F a b) λha=>some ha) (AT (decide (b.fOp=4)) (Bi (ND F a b) λhb=>some hb) (AT (decide (b.fOp=5)) (AT (decide (a.fOp=5)) (Bi (Eg a.fText b.fText) λhe=>AT (he) (GC true) (Bi (Ve F a b) λhf=>GC hf)) (Bi (Ve F a b) λhg=>GC hg)) (AT (decide (a.fOp=6)) (AT (decide (b.fLow≤a.fLow)) (AT (decide (a.fHigh≤b.fHigh)) (EL true) (Bi (Te F a b) λhh=>EL hh)) (Bi (Te F a b) λhi=>EL hi)) (Bi (Te F a b) λhj=>EL hj))))))
def Nh (F:Nat)(long:(List Am))(short:(List Am)):Option (Bool):=
 AS (imp (decide ((short.length:Int)<(long.length:Int))) (GM (short.length:Int) (long.length:Int)))<|AS (imp (decide ((short.length:Int)<(long.length:Int))) ((Iu F (List.take (Int.toNat (short.length:Int)) long) short).isSome))<|some ((decide ((short.length:Int)<(long.length:Int)))&&(ov (Iu F (List.take (Int.toNat (short.length:Int)) long) short)))
def Nf (F:Nat)(a:Aj)(b:Aj):Option (Bool):=
 AS ((DA F a).isSome)<|AS (imp (!(!decide ((ov (DA F a))=0))) ((DA F b).isSome))<|AT (((!decide ((ov (DA F a))=0))||(!decide ((ov (DA F b))=0)))) (some false) (Bi (Iu F a.fPath b.fPath) λha=>AT (ha) (Bi (PI F a b) λhb=>some hb) (Bi (Nh F a.fPath b.fPath) λhe=>AT (he) (some ((decide (b.fOp=1))&&(!decide (a.fOp=2)))) (Bi (Nh F b.fPath a.fPath) λhf=>AT (hf) (some ((decide (a.fOp=2))&&(decide (b.fOp=2)))) (some false))))
end Go.Proofs.YtghdglcmblpbeaaGreatDoor
namespace Go.Proofs.YtghdglcmblpbeaaGreatDoor.Q
open Go Go.RowKit
set_option linter.unusedVariables false
set_option linter.unusedSimpArgs false
section
variable {P : Program} {n : Nat} {c : Cx} {opsA : Array Oper} {Q : Exit → Act → World → Prop} {l : Fr} {H : List Ent} {d : Nat} {ty : TypeId} {pos : String} {af : Array Edge}
end
section
variable {P : Program} {n : Nat} {c : Cx} {ops : Array Oper} {Q : Exit → Act → World → Prop} {rest : List Oper} {l : Fr} {H H' : List Ent} {d : Nat} {d' : Option Nat} {x y z3 : Operand} {ty t t' e : TypeId} {pos : String} {af : Array Edge} {g : Option (Nat × Bool)} {v u : Value} {r : Rp} {sz : Nat}
theorem TS {α:Type}{ys:List α}{enc:α→List Rp}{k':IntKind}{j:Int}(ht:P.underlying t=some (.slice e))(hz:∀w,(sizeOf e).run P w = .ok sz w)(h:ev l x=some (AB sz (ys.map enc)))(hj:ev l z3=some (rI k' j))(hg2:GM j (ys.length:Int)=true) :
  B9 P n c l H { dst:=d',op:=.slice t x none (some z3) none,type:=ty,pos:=pos,after:=af,guard:=g } (AB sz ((ys.take j.toNat).map enc)):=λa w Z ha hw=>by
 obtain⟨A,cap,e1,hc1,hc2,hA,hc⟩:=ha.ev h;have h2:=(DT hg2).2;have hj0:0≤j:=(DT hg2).1;simp only[AcV] at e1 hc1;have h3:j≤(cap:Int):=by omega
 refine⟨.slice (if cap=0 then A else A.map (·.add (0*sz))) j.toNat cap,⟨if cap=0 then A else A.map (·.add (0*sz)),cap,?_,?_,by omega,?_,λq cl hq=>?_⟩,by simp[execOp,e1,ha.eval hj,Instr.sliceAt,Instr.slice,run_underlying ht,Instr.sliceBounds,BY (m:=cap) _ _ hj0 h3,hz]⟩
 ·congr 1
  simp;omega
 ·simp;omega
 ·intro hn
  split at hn
  ·have:=hA hn;omega
  ·have:=hA (by simpa using hn);omega
 ·rw[Ad6] at hq
  cases hq':(List.take j.toNat ys)[q]? with
  | none=>rw[hq'] at hq;cases hq
  | some yy=>
   rw[hq'] at hq;simp only[Option.map_some,Option.some.injEq] at hq;subst hq;rw[Ad4] at hq'
   split at hq'
   ·rename_i hlt
    obtain⟨hl,ad,rfl,hs,hcs⟩:=hc q (enc yy) (by simp[hq']);obtain⟨b,off,spot⟩:=ad;simp only at hs;subst hs;have hne : ¬ cap=0:=by omega
    refine⟨hl,⟨b,off+0*sz,none⟩,by simp[hne,K8],rfl,λq' r' hr'=>?_⟩;obtain⟨u,hu,hp⟩:=hcs q' r' hr';refine⟨u,?_,hp⟩;have:off+0*sz+(q*sz+q')=off+(q*sz+q'):=by omega
    simp only;rw[this];exact hu
   ·cases hq'
end
end Go.Proofs.YtghdglcmblpbeaaGreatDoor.Q
namespace Go.Proofs.YtghdglcmblpbeaaGreatDoor
open Go
set_option linter.unusedVariables false
set_option linter.unusedSimpArgs false
section
variable {T S : Type}
def Z3:List (Am×T)→Am→Option T
 | [],_=>none
 | p::r,k=>bif decide (p.1=k) then some p.2 else Z3 r k
def AaG (xs:List (Am×T))(k:Am):Bool:=(Z3 xs k).isSome
def AbP (k:Am)(v:T):List (Am×T)→List (Am×T)
 | []=>[(k,v)]
 | p::r=>bif DI k p.1 then(k,v)::p::r else p::AbP k v r
def Qr (xs:List (Am×T))(k:Am)(v:T):List (Am×T):=xs.map λp=>bif decide (p.1=k) then(k,v) else p
def AbO (xs:List (Am×T))(k:Am)(v:T):List (Am×T):=bif AaG xs k then Qr xs k v else AbP k v xs
end
end Go.Proofs.YtghdglcmblpbeaaGreatDoor
namespace Go.Proofs.YtghdglcmblpbeaaGreatDoor.Q
open Go Go.RowKit
set_option linter.unusedVariables false
set_option linter.unusedSimpArgs false
theorem Wh (s:ByteArray):MapKept.IsKey .string (.string s):=by simp[MapKept.IsKey]
theorem Qx.keys {Z:Fz}:∀{f:List (List UInt8×Rp)} {es:List MapEntry},Qx Z f es→∀x∈es,MapKept.IsKey .string x.key
 | [],[],_,x,hx=>by cases hx
 | p::f,e::es,⟨⟨h1,h2⟩,h3⟩,x,hx=>by
  rcases List.mem_cons.1 hx with rfl | hx
  ·rw[h1];exact Wh _
  ·exact Qx.keys h3 x hx
theorem Qx.at {Z:Fz}:∀{f:List (List UInt8×Rp)} {es:List MapEntry},Qx Z f es→f.length=es.length∧∀(j:Nat) (e:MapEntry),es[j]? =some e→∃k r,f[j]? =some (k,r)∧e.key = .string (B k)∧r.p Z e.val
 | [],[],_=>⟨rfl,λj e h=>by simp at h⟩
 | p::f,e::es,⟨⟨h1,h2⟩,h3⟩=>by
  obtain⟨hl,ha⟩:=Qx.at h3;refine⟨by simp[hl],λj e' hj=>?_⟩
  cases j with
  | zero=>simp at hj;subst hj;exact⟨p.1,p.2,rfl,h1,h2⟩
  | succ j=>simp at hj;simpa using ha j e' hj
theorem Qx.of {Z:Fz}:∀{f:List (List UInt8×Rp)} {es:List MapEntry},f.length=es.length→(∀(j:Nat) (e:MapEntry),es[j]? =some e→∃k r,f[j]? =some (k,r)∧e.key = .string (B k)∧r.p Z e.val)→Qx Z f es
 | [],[],_,_=>trivial
 | p::f,e::es,hl,h=>by
  obtain⟨k,r,h1,h2,h3⟩:=h 0 e rfl;simp at h1;subst h1;exact⟨⟨h2,h3⟩,Qx.of (by simpa using hl) λj e' hj=>by simpa using h (j+1) e' (by simpa using hj)⟩
 | [],_::_,hl,_=>by simp at hl
 | _::_,[],hl,_=>by simp at hl
theorem Qx.filter {Z:Fz}(q:MapEntry→Bool):∀{f:List (List UInt8×Rp)} {es:List MapEntry},Qx Z f es→∃g,Qx Z g (es.filter q)∧g.Sublist f
 | [],[],_=>⟨[],trivial,List.Sublist.refl _⟩
 | p::f,e::es,⟨h,h3⟩=>by
  obtain⟨g,hg,hs⟩:=Qx.filter q h3
  cases hq:q e with
  | true=>exact⟨p::g,by rw[List.filter_cons_of_pos hq];exact⟨h,hg⟩,hs.cons_cons p⟩
  | false=>exact⟨g,by rw[List.filter_cons_of_neg (by simp[hq])];exact hg,hs.cons p⟩
theorem Ack {a b:List UInt8}(h:B a=B b):a=b:=by
 have:=congrArg ByteArray.toList h
 rwa [Hb,Hb] at this
theorem Xh {a b:List UInt8}(h:Value.string (B a) = .string (B b)):a=b:=Ack (by cases h;rfl)
section
variable {P : Program} {n : Nat} {c : Cx} {ops : Array Oper} {Q : Exit → Act → World → Prop} {rest : List Oper} {l : Fr} {H : List Ent} {d : Nat} {d' : Option Nat} {ty t kt et rty : TypeId} {pos : String} {af : Array Edge} {g : Option (Nat × Bool)} {x y u : Operand} {K : Act → World → Prop} {cx : Code}
variable {T : Type} {enc : T → Rp} {xs : List (Am × T)} {z : T} {k : Am} {zv : Value} {i b : Nat}
theorem LL.length {Z:Fz}{m:List (List UInt8×Rp)}{es:List MapEntry}{ck:Nat}(h:LL Z m es ck):es.length=m.length:=by
 obtain⟨_,_,_,f,h4,h5⟩:=h;rw[← h5.at.1,h4.length_eq]
theorem X0 {m f:List (Am×Rp)}(h:f.Perm m)(k:Am)(r:Rp):(Qr f k r).Perm (Qr m k r):=h.map _
theorem UT {T:Type}:∀{f:List (Am×T)} {j:Nat} {k:Am} {r0:T} (r:T),(f.map (·.1)).Nodup→f[j]? =some (k,r0)→Qr f k r=f.set j (k,r)
 | p::f,0,k,r0,r,hn,h=>by
  simp at h;subst h;rw[Ad7,List.nodup_cons] at hn;have:Qr f k r=f:=by
   unfold Qr;rw[List.map_congr_left (g:=id) (λq hq=>?_),List.map_id];have hne : ¬ q.1=k:=λe=>hn.1 (by rw[← e];exact List.mem_map.2 ⟨q,hq,rfl⟩);rw[AcG hne];rfl
  show(bif decide (k=k) then(k,r) else(k,r0))::Qr f k r=_;rw[AcL rfl,this];rfl
 | p::f,j+1,k,r0,r,hn,h=>by
  rw[Ad7,List.nodup_cons] at hn;simp at h;have hne : ¬ p.1=k:=λe=>hn.1 (by rw[e];exact List.mem_map.2 ⟨(k,r0),Adb h,rfl⟩);show(bif decide (p.1=k) then(k,r) else p)::Qr f k r=_;rw[AcG hne,UT r hn.2 h];rfl
theorem Wb {T:Type}(m:List (Am×T))(k:Am)(r:T):(Qr m k r).map (·.1)=m.map (·.1):=by
 unfold Qr;rw[List.map_map];refine List.map_congr_left λp _=>?_;simp only[Function.comp]
 by_cases h:p.1=k
 ·rw[AcL h];exact h.symm
 ·rw[AcG h];rfl
theorem Wc {T:Type}{m:List (Am×T)}{k:Am}{r:T}(h:Z3 m k=some r):AaG m k=true:=by unfold AaG;rw[h];rfl
theorem LL.put {Z:Fz}{m:List (Am×Rp)}{es:List MapEntry}{ck j:Nat}{e:MapEntry}{k:Am}{r0 r:Rp}{v:Value}(h:LL Z m es ck)(he:es[j]? =some e)(hk:e.key = .string (B k))(hm:Z3 m k=some r0)(hr:r.p Z v) :
  LL Z (AbO m k r) (es.set j { e with key:=.string (B k),val:=v }) ck:=by
 obtain⟨h1,h2,h3,f,h4,h5⟩:=h;obtain⟨hl,ha⟩:=h5.at;have hjl:=(List.getElem?_eq_some_iff.1 he).1;unfold AbO;rw[Wc hm,AcO];obtain⟨k',r',e1,e2,_⟩:=ha j e he;rw[hk] at e2;obtain rfl:=Xh e2;have hfn:(f.map (·.1)).Nodup:=(h4.map (·.1)).nodup_iff.2 h1;refine⟨by rw[Wb];exact h1,?_,?_,f.set j (k,r),?_,Qx.of (by simp[hl]) λi x hx=>?_⟩
 ·rw[List.map_set];have:(es.map (·.born)).set j e.born=es.map (·.born):=by
   apply List.ext_getElem?;intro i;rw[List.getElem?_set]
   split
   ·rename_i hij;subst hij
    simp[hjl,List.getElem?_eq_some_iff.1 he |>.2]
   ·rfl
  show((es.map (·.born)).set j e.born).Nodup;rw[this];exact h2
 ·intro x hx;rcases List.mem_or_eq_of_mem_set hx with hx | rfl
  ·exact h3 x hx
  ·exact h3 e (Adb he)
 ·have:=X0 h4 k r
  rwa [UT r hfn e1] at this
 ·rw[List.getElem?_set] at hx ⊢
  split at hx
  ·rename_i hij;subst hij
   cases hx
   exact⟨k,r,by rw[Ad9 rfl,Ad9 (by rw[hl];exact hjl)],rfl,hr⟩
  ·rename_i hij
   rw[Ad2 hij];exact ha i x hx
end
theorem By.d1 {Z:Fz}{r0:Rp}{us:List Value}(h:By Z [r0] us):∃y0,us=[y0]∧By Z [r0] [y0]:=by
 match us,h.length with
 | [y0],_=>exact⟨_,rfl,h⟩
section
variable {P : Program} {n : Nat} {c : Cx} {ops : Array Oper} {Q : Exit → Act → World → Prop} {rest : List Oper} {l : Fr} {H H' : List Ent} {d : Nat} {d' : Option Nat} {ty t e rty : TypeId} {pos : String} {af : Array Edge} {g : Option (Nat × Bool)} {x y u : Operand} {v : Value} {sz m : Nat}
end
end Go.Proofs.YtghdglcmblpbeaaGreatDoor.Q
namespace Go.Proofs.YtghdglcmblpbeaaGreatDoor
open Go
end Go.Proofs.YtghdglcmblpbeaaGreatDoor
namespace Go.Proofs.YtghdglcmblpbeaaGreatDoor.Q
open Go Go.RowKit
set_option linter.unusedVariables false
set_option linter.unusedSimpArgs false
section
variable {P : Program} {n : Nat} {c : Cx} {Q : Exit → Act → World → Prop} {l : Fr} {H : List Ent} {x rest' : Code} {K : Act → World → Prop}
end
section
variable {P : Program} {n : Nat} {c : Cx} {ops : Array Oper} {Q : Exit → Act → World → Prop} {rest : List Oper} {l : Fr} {H H' : List Ent} {d : Nat} {d' : Option Nat} {x y z3 z4 : Operand} {ty t t' e : TypeId} {pos : String} {af : Array Edge} {g : Option (Nat × Bool)} {v u : Value} {r : Rp} {sz : Nat}
end
structure Sx (U:Type) where
 deps:List Nat
 r:U→Rp
 dyn:Bool:=false
 old:List Nat:=[]
def W3 {U:Type}(sp:List (Sx U))(i:Nat):Sx U:=sp.getD i { deps:=[],r:=λ_=>rv undef }
def sxu {U:Type}(sp:List (Sx U))(u:U):List Sp:=sp.map λs=>⟨s.deps,s.r u,0⟩
def Aah {U:Type}:List (Sx U)→Prop
 | []=>True
 | s::r=>(s.dyn=false→∀u u',s.r u=s.r u')∧Aah r
theorem Aah.at {U:Type}:∀{sp:List (Sx U)},Aah sp→∀{i:Nat} {s:Sx U},sp[i]? =some s→s.dyn=false→∀u u',s.r u=s.r u'
 | [],_,i,s,h=>by simp at h
 | x::sp,⟨h1,h2⟩,0,s,h=>by simp at h;subst h;exact h1
 | x::sp,⟨h1,h2⟩,i+1,s,h=>Aah.at h2 (by simpa using h)
def MF (lw:Fr):List Nat→Fr→Fr
 | [],l=>l
 | d::r,l=>match look lw d with
  | some q=>(d,q)::MF lw r l
  | none=>MF lw r l
section
variable (P : Program) (n : Nat) (c : Cx) (opsA : Array Oper) (Q : Exit → Act → World → Prop)
def OpX {U:Type}(l:Fr)(H:List Ent)(o:Oper)(r:U→Rp)(H1:U→List Ent):Prop:=
 ∀a w Z (K:Act→World→Prop),DP n l a Z→St c H Z w→(∀u v w' Z',Fz.le Z Z'→(r u).p Z' v→St c (H1 u) Z' w'→K (a.put o.dst v) w')→
  Region.wanted o (yielded opsA a.tmps)=true∧o.wp P a w K Q
def Aak {U:Type}(ops:List Oper)(sp:List (Sx U))(l0 lw:Fr)(i0:Nat)(H:List Ent)(H1:U→List Ent):Nat→List Oper→Prop
 | i,o::rest=>(if i=i0 then(∀u,OpX P n c opsA Q (MF lw (W3 sp i).old (CA ops (sxu sp u) (W3 sp i).deps l0)) H o (W3 sp i).r H1) else ∀u H,GK P n c opsA Q (MF lw (W3 sp i).old (CA ops (sxu sp u) (W3 sp i).deps l0)) H o ((W3 sp i).r u) H)∧Aak ops sp l0 lw i0 H H1 (i+1) rest
 | _,[]=>True
end
section
variable {P : Program} {n : Nat} {c : Cx} {opsA : Array Oper} {Q : Exit → Act → World → Prop} {l l0 lw : Fr} {U : Type} {H : List Ent} {H1 : U → List Ent} {sp : List (Sx U)} {i0 : Nat}
theorem Aak.at {ops:List Oper}:∀{k:Nat} {rest:List Oper},Aak P n c opsA Q ops sp l0 lw i0 H H1 k rest→∀(t:Nat) o,rest[t]? =some o→
  (if k+t=i0 then(∀u,OpX P n c opsA Q (MF lw (W3 sp (k+t)).old (CA ops (sxu sp u) (W3 sp (k+t)).deps l0)) H o (W3 sp (k+t)).r H1) else ∀u H,GK P n c opsA Q (MF lw (W3 sp (k+t)).old (CA ops (sxu sp u) (W3 sp (k+t)).deps l0)) H o ((W3 sp (k+t)).r u) H)
 | k,o::rest,⟨h1,h2⟩,t,o',ht=>by
  cases t with
  | zero=>simp at ht;subst ht;exact h1
  | succ t=>
   have:=Aak.at h2 t o' (by simpa using ht);rw[show k+(t+1)=k+1+t from by omega];exact this
 | _,[],_,t,o,h=>by simp at h
end
section
variable {P : Program} {n : Nat} {c : Cx} {opsA : Array Oper} {Q : Exit → Act → World → Prop} {l : Fr} {H : List Ent} {d : Nat} {x y : Operand} {ty t e : TypeId} {pos : String} {af : Array Edge} {v : Value} {sz : Nat}
end
abbrev Ux:=Nat→Nat→Value×Nat
def Ag (k:Nat)(u u':Ux):Prop:=∀j,j<k→u j=u' j
structure Sy where
 deps:List Nat
 r:Ux→Rp
 lv:Nat:=0
 fx:Bool:=false
 old:List Nat:=[]
def W2 (sp:List Sy)(i:Nat):Sy:=sp.getD i { deps:=[],r:=λ_=>rv undef }
def syu (sp:List Sy)(u:Ux):List Sp:=sp.map λs=>⟨s.deps,s.r u,0⟩
def Vn:List Sy→Prop
 | []=>True
 | s::r=>(∀u u',Ag s.lv u u'→s.r u=s.r u')∧Vn r
theorem Vn.at:∀{sp:List Sy},Vn sp→∀{i:Nat} {s:Sy},sp[i]? =some s→∀u u',Ag s.lv u u'→s.r u=s.r u'
 | [],_,i,s,h=>by simp at h
 | x::sp,⟨h1,h2⟩,0,s,h=>by simp at h;subst h;exact h1
 | x::sp,⟨h1,h2⟩,i+1,s,h=>Vn.at h2 (by simpa using h)
def cnt (S:Nat→Bool)(is:List Nat):Nat:=(is.filter S).length
section
variable (P : Program) (n : Nat) (c : Cx) (opsA : Array Oper) (Q : Exit → Act → World → Prop)
def OpY (l:Fr)(H:List Ent)(o:Oper)(k:Nat)(u:Ux)(r:Ux→Rp)(H1:Ux→List Ent):Prop:=
 ∀a w Z (K:Act→World→Prop),DP n l a Z→St c H Z w→(∀u' v w' Z',Ag k u u'→Fz.le Z Z'→(r u').p Z' v→St c (H1 u') Z' w'→K (a.put o.dst v) w')→
  Region.wanted o (yielded opsA a.tmps)=true∧o.wp P a w K Q
def ObY (ops:List Oper)(sp:List Sy)(l0 lw:Fr)(is:List Nat)(hs:List (Ux→List Ent))(i:Nat)(o:Oper):Prop:=
 match is.findIdx? (λx=>Nat.beq x i) with
 | some k=>∀u,OpY P n c opsA Q (MF lw (W2 sp i).old (CA ops (syu sp u) (W2 sp i).deps l0)) (hs.getD k (λ_=>[]) u) o k u (W2 sp i).r (hs.getD (k+1) (λ_=>[]))
 | none=>if (W2 sp i).fx=true then ∀u,GK P n c opsA Q (MF lw (W2 sp i).old (CA ops (syu sp u) (W2 sp i).deps l0)) (hs.getD (W2 sp i).lv (λ_=>[]) u) o ((W2 sp i).r u) (hs.getD (W2 sp i).lv (λ_=>[]) u)
  else ∀u H,GK P n c opsA Q (MF lw (W2 sp i).old (CA ops (syu sp u) (W2 sp i).deps l0)) H o ((W2 sp i).r u) H
def Aaj (ops:List Oper)(sp:List Sy)(l0 lw:Fr)(is:List Nat)(hs:List (Ux→List Ent)):Nat→List Oper→Prop
 | i,o::rest=>ObY P n c opsA Q ops sp l0 lw is hs i o∧Aaj ops sp l0 lw is hs (i+1) rest
 | _,[]=>True
end
section
variable {P : Program} {n : Nat} {c : Cx} {opsA : Array Oper} {Q : Exit → Act → World → Prop} {l l0 lw : Fr} {H : List Ent} {hs : List (Ux → List Ent)} {sp : List Sy} {is : List Nat}
theorem Aaj.at {ops:List Oper}:∀{k:Nat} {rest:List Oper},Aaj P n c opsA Q ops sp l0 lw is hs k rest→∀(t:Nat) o,rest[t]? =some o→ObY P n c opsA Q ops sp l0 lw is hs (k+t) o
 | k,o::rest,⟨h1,h2⟩,t,o',ht=>by
  cases t with
  | zero=>simp at ht;subst ht;exact h1
  | succ t=>
   have:=Aaj.at h2 t o' (by simpa using ht);rw[show k+(t+1)=k+1+t from by omega];exact this
 | _,[],_,t,o,h=>by simp at h
end
section
variable {P : Program} {n : Nat} {c : Cx} {opsA : Array Oper} {Q : Exit → Act → World → Prop} {l : Fr} {H : List Ent} {d : Nat} {x y : Operand} {ty t e : TypeId} {pos : String} {af : Array Edge} {v : Value} {sz : Nat}
end
end Go.Proofs.YtghdglcmblpbeaaGreatDoor.Q
