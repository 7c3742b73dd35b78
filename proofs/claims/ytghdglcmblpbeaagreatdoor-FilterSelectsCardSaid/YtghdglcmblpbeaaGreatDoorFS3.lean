/-
  Texts of the proof, put together: WVd, PVe, WVe, PVf, WVf, PVg, QU, QT, WVg, PVh, QN, WVh, PFa, QW, PM, QM, QV, PH, QJ, QX, QL.
-/
import Derived.Test.YtghdglcmblpbeaaGreatDoorFS2
import Derived.Laws.StructEq
import Derived.Laws.Cover3
import Derived.MapKept
import Derived.Maps.RangeRun
import GoSem.Op.IntBits
import GoSem.Op.Shift
import Derived.ScopeJumps
import Derived.Laws.CopyRow
import Derived.Laws.IdiomCopy
import Derived.Laws.OwnMore
namespace Go.Proofs.YtghdglcmblpbeaaGreatDoor.Q
open Go Go.RowKit
set_option linter.unusedVariables false
set_option linter.unusedSimpArgs false
set_option maxRecDepth 100000
set_option maxHeartbeats 4000000
theorem GL {n:Nat}{c:Cx}{l:Fr}{H:List Ent}{d:Option Nat}{ty:TypeId}{pos:String}{af:Array Edge}{g:Option (Nat×Bool)}{x0:Operand}{r0:Rp}(h0:ev l x0=some r0)(u0:r0.one=true):B0 Tryz.prog n c l H { dst:=d,op:=.build 54 #[(0,x0)],type:=ty,pos:=pos,after:=af,guard:=g } (B8 [r0,Al 0,rS ([]:Av),Al 0]):=λa w Z ha _=>by
  have p0:=ha.ev h0;have c0:=BV (r0.hone u0 Z _ p0);have hb:Tryz.prog.built 54 [(0,a.eval x0)]=some #[a.eval x0,(.int .i64 0),(.string ⟨#[]⟩),(.int .i64 0)]:=by
    rw[Md];generalize a.eval x0=v0 at *;simp[Instr.fill,c0]
  refine⟨.agg #[a.eval x0,(.int .i64 0),(.string ⟨#[]⟩),(.int .i64 0)],⟨[a.eval x0,(.int .i64 0),(.string ⟨#[]⟩),(.int .i64 0)],rfl,p0,rfl,rfl,rfl,trivial⟩,?_⟩;have:=run_build w 54 #[(0,a.eval x0)] _ (by simpa using hb);simp[execOp,this]
theorem US (parts:List (Nat×Value)):Tryz.prog.built 106 parts=Instr.fill (λi=>(#[(0,1),(1,1),(2,1),(3,1)]:Array (Nat×Nat))[i]?) #[(.string ⟨#[]⟩),(.int .i64 0),((.slice none 0 0)),(.bool false)] parts:=by kernel_rfl
theorem Ow {n:Nat}{c:Cx}{l:Fr}{H:List Ent}{d:Option Nat}{ty:TypeId}{pos:String}{af:Array Edge}{g:Option (Nat×Bool)}{x0:Operand}{r0:Rp}(h0:ev l x0=some r0)(u0:r0.one=true):B0 Tryz.prog n c l H { dst:=d,op:=.build 106 #[(0,x0)],type:=ty,pos:=pos,after:=af,guard:=g } (B8 [r0,Al 0,rv (.slice none 0 0),rB false]):=λa w Z ha _=>by
  have p0:=ha.ev h0;have c0:=BV (r0.hone u0 Z _ p0);have hb:Tryz.prog.built 106 [(0,a.eval x0)]=some #[a.eval x0,(.int .i64 0),((.slice none 0 0)),(.bool false)]:=by
    rw[US];generalize a.eval x0=v0 at *;simp[Instr.fill,c0]
  refine⟨.agg #[a.eval x0,(.int .i64 0),((.slice none 0 0)),(.bool false)],⟨[a.eval x0,(.int .i64 0),((.slice none 0 0)),(.bool false)],rfl,p0,rfl,rfl,rfl,trivial⟩,?_⟩;have:=run_build w 106 #[(0,a.eval x0)] _ (by simpa using hb);simp[execOp,this]
theorem Nq (s:Av)(p:Av)(r:Bool)(h:GC s p=some r):Fn Tryz.prog GE 136 [rS s,rS p] [] (λR H=>R=rB r∧H=[]):=by
 refine enter (n:=18) Tryz.func136 rfl Tryz.ntmps136 rfl (λw Z=>?_);unfold GC at h;refine Ae (wa rfl (Ak (ck h λg1 h2=>AD [(4,rB ((decide ((p.length:Int)≤(s.length:Int)))&&(decide ((List.take (By (p.length:Int)) s)=p))))] [] ?_ ?_)))
 ·refine Aj (wm rfl (wv (BQ Dz rfl) (wm rfl (wv (BQ Dz rfl) (wv (ET rfl rfl) (wm rfl (AN (decide ((p.length:Int)≤(s.length:Int))) (λc3=>?_) (λc3=>?_))))))))
  ·refine wo c3 (wm rfl (wo c3 (wm rfl (wo c3 (wv (BQ Dz rfl) (wo c3 (wv (J7 Dz rfl rfl (Ch g1 c3)) (wo c3 (wm rfl (wo c3 (wv (DK rfl rfl) (Cj rfl c3 rfl (wa rfl (Ai ?_))))))))))))));exact BJ c3
  ·refine wf c3 (wf c3 (wf c3 (wf c3 (wf c3 (wf c3 (wv (r:=rB false) (Aw rfl c3 rfl) (wa rfl (Ai ?_))))))));exact BJ c3
 refine Ap ?_;obtain rfl:=An h2;exact Ao (Bo Tryz.results136 (A5 rfl)) sN ⟨rfl,rfl⟩
theorem GQ (s:Av)(p:Av)(r:Bool)(h:De s p=some r):Fn Tryz.prog GE 98 [rS s,rS p] [] (λR H=>R=rB r∧H=[]):=by
 refine enter (n:=8) Tryz.func98 rfl Tryz.ntmps98 rfl (λw Z=>?_);unfold De at h;refine Ae (wa rfl (Bc (wm rfl (wm rfl (ob h λr1 e3 h2=>BM Tryz.call136 (Nq s p r1 e3) rfl (wa rfl (Ak (Ap ?_))))))));obtain rfl:=An h2;exact Ao (Bo Tryz.results98 (A5 rfl)) sN ⟨rfl,rfl⟩
theorem Dj (ha:Nat)(hb:Value)(q:A1)(s:Av)(r:Bool×A1)(h:EI q s=some r):Fn Tryz.prog GE 117 [rP ha 0,rS s] [.blk ha [rS q.fS,Al q.fAt,rv hb,rB q.fGreat] 106,.row hb 54 4 (A0 Ab q.fCells)] (λR H=>∃w0_2:Value,R=rB r.1∧H=[.blk ha [rS r.2.fS,Al r.2.fAt,rv w0_2,rB r.2.fGreat] 106,.row w0_2 54 4 (A0 Ab r.2.fCells)]):=by
 refine enter (n:=26) Tryz.func117 rfl Tryz.ntmps117 rfl (λw Z=>?_);unfold EI at h;refine Ae (wa rfl (Ak (Am (Am (ck h λg1 h2=>ob h2 λr3 e5 h4=>C8 [0,1] [⟨[],rP ha 0,0⟩,⟨[0],rP ha 0,0⟩,⟨[1],rP ha 0,0⟩,⟨[2],rS q.fS,1⟩,⟨[],rP ha 0,0⟩,⟨[4],rP ha 0,0⟩,⟨[5],rP ha 1,0⟩,⟨[6],Al q.fAt,1⟩,⟨[3,7],rS (List.drop (By q.fAt) q.fS),0⟩,⟨[],rS s,0⟩,⟨[8,9],rB r3,0⟩,⟨[10],rB (!r3),0⟩] [16,0,1] ?_ ?_)))))
 ·refine oq (A6 rfl) (oq (AA rfl) (oq (AG B1 rfl C7 rfl rfl) (of (Bm (i:=0) CD rfl rfl rfl) (oq (A6 rfl) (oq (AA rfl) (oq (AG B1 rfl B9 rfl rfl) (of (Bm (i:=0) BN rfl rfl rfl) (oq (Id Dz rfl rfl g1) (oq (A6 rfl) (D7 rfl (λH=>E6 Tryz.call98 (GQ (List.drop (By q.fAt) q.fS) s r3 e5) rfl) ?_))))))))));refine oq (B4 rfl) ?_;exact Ct
 refine A7 (cz h4 rfl (λc6 h7=>?_) (λc6 h8=>?_))
 ·refine Ae (wa rfl (Ak (Ap (Ac ?_))));obtain rfl:=An h7;exact Ao (Bo Tryz.results117 (A5 rfl)) (sC (sC sN)) ⟨hb,rfl,rfl⟩
 ·refine Aq (A7 (Ae (wm rfl (wv (AA rfl) (vF B1 rfl B9 (vL 0 BN rfl (wm rfl (wv (BQ Dz rfl) (ck h8 λg9 he=>wv (Bd rfl rfl g9) (wv (AA rfl) (vF B1 rfl B9 (BA (i:=0) B9 rfl rfl (BS rfl) rfl rfl (cs':=[rS q.fS,Al (q.fAt+(s.length:Int)),rv hb,rB q.fGreat]) rfl (H':=[.blk ha [rS q.fS,Al (q.fAt+(s.length:Int)),rv hb,rB q.fGreat] 106,.row hb 54 4 (A0 Ab q.fCells)]) rfl (Bc (wa rfl (Ak (Ap ?_))))))))))))))));obtain rfl:=An he;exact Ao (Bo Tryz.results117 (A5 rfl)) (sC (sC sN)) ⟨hb,rfl,rfl⟩
theorem Rr (F:Nat)(ha:Nat)(hq:Value)(q:A1)(r:Av×Bool×A1)(h:Rs F q=some r):Fn Tryz.prog GE 119 [rP ha 0] [.blk ha [rS q.fS,Al q.fAt,rv hq,rB q.fGreat] 106,.row hq 54 4 (A0 Ab q.fCells)] (λR H=>∃w0_2:Value,R=Da [rS r.1,rB r.2.1]∧H=[.blk ha [rS r.2.2.fS,Al r.2.2.fAt,rv w0_2,rB r.2.2.fGreat] 106,.row w0_2 54 4 (A0 Ab r.2.2.fCells)]):=by
 refine enter (n:=104) Tryz.func119 rfl Tryz.ntmps119 rfl (λw Z=>?_);unfold Rs at h;refine Ae (wv (r:=rS ([]:Av)) (AE rfl) (wa rfl (Ak (Am (Ae (wm rfl (ob h λr1 e3 h2=>DN (Hr:=[]) Gr (Dj ha hq q ([34]:Av) r1 e3) rfl (Yu _) rfl ?_)))))));rintro _ _ ⟨v4,rfl,rfl⟩;refine wv (B4 rfl) (Ak (cz h2 rfl (λc5 h6=>?_) (λc5 h7=>?_)))
 ·refine Ae (wv (r:=rS ([]:Av)) (AE rfl) (wa rfl (Ak (Ap (Ac ?_)))));obtain rfl:=An h6;exact Ao (Dq OT (A5 rfl) (A5 rfl)) (sC (sC sN)) ⟨v4,rfl,rfl⟩
 ·refine Aq (A7 (Ae (wa rfl (Ak (Am (A3 (WC.nilrow (e:=5) (sz:=1) (NY (H2:=[.blk ha [rS r1.2.fS,Al r1.2.fAt,rv v4,rB r1.2.fGreat] 106,.row v4 54 4 (A0 Ab r1.2.fCells),.row (.slice none 0 0     ) 5 1 (A0 B7 ([]:List Int))]) ((A4 (i:=1) rfl).trans (Yw _ ((A4 (i:=1) rfl).trans (Yw _ (Yu _))))) (ob h7 λhw hx hl=>Bb (S:=Nat×((List Int)×Int)×(Value)) (V:=(Int)×(Unit)) 0 (λσ=>BG (λσ=>JP r1 σ.1 σ.2) σ.1 σ.2.1=some hw) (λσ=>[(0,rP ha 0),(4,rv σ.2.2)]) (λσ=>[.blk ha [rS r1.2.fS,Al σ.2.1.2,rv v4,rB r1.2.fGreat] 106,.row v4 54 4 (A0 Ab r1.2.fCells),.row σ.2.2 5 1 (A0 B7 σ.2.1.1)]) (λσ=>σ.1) (F,(([]:List Int),r1.2.fAt),(.slice none 0 0     )) hx (Az.c rfl (Az.c rfl Az.nil)) (sC (sC (sC sN))) (λσ=>JO r1 σ.1=some r) (λσ=>[]) (λσ=>[.blk ha [rS r1.2.fS,Al σ.1,rv v4,rB r1.2.fGreat] 106,.row v4 54 4 (A0 Ab r1.2.fCells)]) ?_ ?_)))))))))
  ·rintro⟨gb,⟨hg,hb⟩,hh⟩ hy;refine Bs (l':=[(0,rP ha 0),(4,rv hh)]) (H':=[.blk ha [rS r1.2.fS,Al hb,rv v4,rB r1.2.fGreat] 106,.row v4 54 4 (A0 Ab r1.2.fCells),.row hh 5 1 (A0 B7 hg)]) rfl rfl ?_;obtain⟨hz,rfl,hr,hm,hk⟩:=BF hy;replace hm:JP r1 hg hb=some hr:=hm;unfold JP at hm;refine Am (Am (C8 [0,4] [⟨[],rP ha 0,0⟩,⟨[0],rP ha 0,0⟩,⟨[1],rP ha 1,0⟩,⟨[2],Al hb,1⟩,⟨[],rP ha 0,0⟩,⟨[4],rP ha 0,0⟩,⟨[5],rP ha 0,0⟩,⟨[6],rS r1.2.fS,1⟩,⟨[7],Al (r1.2.fS.length:Int),0⟩,⟨[3,8],rB (decide (hb<(r1.2.fS.length:Int))),0⟩] [9,10,11,12,13,14,15,16,17,18,0,4] ?_ ?_))
   ·refine oq (A6 rfl) (oq (AA rfl) (oq (AG B1 rfl B9 rfl rfl) (of (Bm (i:=0) BN rfl rfl rfl) (oq (A6 rfl) (oq (AA rfl) (oq (AG B1 rfl C7 rfl rfl) (of (Bm (i:=0) CD rfl rfl rfl) (oq (BQ Dz rfl) (oq (BW rfl rfl) ?_)))))))));exact Ct
   refine A7 (cz hm rfl (λh0 h1=>?_) (λh0 h3=>?_))
   ·refine Aq (A7 (A3 (Am (ck h1 λh4 h5=>C8 [0,4,9,10,11,12,13,14,15,16,17] [⟨[],rP ha 0,0⟩,⟨[0],rP ha 0,0⟩,⟨[1],rP ha 0,0⟩,⟨[2],rS r1.2.fS,1⟩,⟨[],rP ha 0,0⟩,⟨[4],rP ha 0,0⟩,⟨[5],rP ha 1,0⟩,⟨[6],Al hb,1⟩,⟨[3,7],rI .u8 (Ck r1.2.fS hb),0⟩,⟨[8],rI .u8 (Ck r1.2.fS hb),0⟩] [19,20,21,22,23,24,25,26,27,5,0,4,9,10,11,12,13,14,15,16,17] ?_ ?_))))
    ·refine oq (A6 rfl) (oq (AA rfl) (oq (AG B1 rfl C7 rfl rfl) (of (Bm (i:=0) CD rfl rfl rfl) (oq (A6 rfl) (oq (AA rfl) (oq (AG B1 rfl B9 rfl rfl) (of (Bm (i:=0) BN rfl rfl rfl) (oq (BC Dz rfl rfl h4) (oq (AE rfl) ?_)))))))));exact Ct
    refine A7 (Ae (wm rfl (wv (AA rfl) (vF B1 rfl B9 (vL 0 BN rfl (ck h5 λh8 h9=>wv (Bd rfl rfl h8) (wv (AA rfl) (vF B1 rfl B9 (BA (i:=0) B9 rfl rfl (BS rfl) rfl rfl (cs':=[rS r1.2.fS,Al (hb+1),rv v4,rB r1.2.fGreat]) rfl (H':=[.blk ha [rS r1.2.fS,Al (hb+1),rv v4,rB r1.2.fGreat] 106,.row v4 54 4 (A0 Ab r1.2.fCells),.row hh 5 1 (A0 B7 hg)]) rfl (Ak (BO (S:=(Int×Int)×(Unit)) (λσ=>I5 hg σ.1.1 σ.1.2=some hr) (λσ=>[(0,rP ha 0),(4,rv hh),(5,rI .u8 σ.1.1),(9,rP ha 0),(10,rP ha 0),(11,rP ha 1),(12,Al hb),(13,rP ha 0),(14,rP ha 0),(15,rP ha 0),(16,rS r1.2.fS),(17,Al (r1.2.fS.length:Int)),(19,rP ha 0),(20,rP ha 0),(21,rP ha 0),(22,rS r1.2.fS),(23,rP ha 0),(24,rP ha 0),(25,rP ha 1),(26,Al hb),(27,rI .u8 (Ck r1.2.fS hb))]) (λσ=>[.blk ha [rS r1.2.fS,Al σ.1.2,rv v4,rB r1.2.fGreat] 106,.row v4 54 4 (A0 Ab r1.2.fCells),.row hh 5 1 (A0 B7 hg)]) ?_ ?_)))))))))))
    ·refine A3 (Ae (wm rfl (wv (Bh rfl rfl) (wa rfl (Ak (cz h9 rfl (λhA hB=>?_) (λhA hC=>?_)))))))
     ·refine Ae (wm rfl (wv (r:=rS (Wi hg)) (X2 (xs:=hg) (i:=2) Mj Dz Tryz.underlying5 rfl rfl) (wa rfl (wa rfl (Ak (Ap (At (Ac (At (Ac (AM ?_)))))))))));have hD:=Bg hB hk hl;refine At (Ac ?_);obtain rfl:=An hD;exact Ao (Dq OT (A5 rfl) (A5 rfl)) (sC (sC (sS sN))) ⟨v4,rfl,rfl⟩
     ·refine AD [(0,rP ha 0),(4,rv hh),(5,rI .u8 (Ck r1.2.fS hb)),(9,rP ha 0),(10,rP ha 0),(11,rP ha 1),(12,Al hb),(13,rP ha 0),(14,rP ha 0),(15,rP ha 0),(16,rS r1.2.fS),(17,Al (r1.2.fS.length:Int)),(19,rP ha 0),(20,rP ha 0),(21,rP ha 0),(22,rS r1.2.fS),(23,rP ha 0),(24,rP ha 0),(25,rP ha 1),(26,Al hb),(27,rI .u8 (Ck r1.2.fS hb)),(40,rB ((decide ((Ck r1.2.fS hb)<32))||(decide (126<(Ck r1.2.fS hb)))))] [.blk ha [rS r1.2.fS,Al (hb+1),rv v4,rB r1.2.fGreat] 106,.row v4 54 4 (A0 Ab r1.2.fCells),.row hh 5 1 (A0 B7 hg)] ?_ ?_
      ·refine Aj (wm rfl (wv (BW rfl rfl) (wm rfl (AN (decide ((Ck r1.2.fS hb)<32)) (λhi=>?_) (λhi=>?_)))))
       ·refine wf hi (wf hi (wv (r:=rB true) (Ay rfl hi rfl) (wa rfl (Ai ?_))));exact BJ hi
       ·refine wo hi (wm rfl (wo hi (wv (C3 rfl rfl) (Cm rfl hi rfl (wa rfl (Ai ?_))))));exact BJ hi
      refine cz hC rfl (λhE hG=>?_) (λhE hH=>?_)
      ·refine Ae (wv (r:=rS ([]:Av)) (AE rfl) (wa rfl (Ak (Ap (At (Ac (At (Ac (AM ?_)))))))));have hI:=Bg hG hk hl;refine At (Ac ?_);obtain rfl:=An hI;exact Ao (Dq OT (A5 rfl) (A5 rfl)) (sC (sC (sS sN))) ⟨v4,rfl,rfl⟩
      ·refine Ae (wm rfl (wv (Bh rfl rfl) (wa rfl (Ak (cz hH rfl (λhJ hK=>?_) (λhJ hL=>?_))))))
       ·refine Am (ck hK λhs hN=>AD [(0,rP ha 0),(4,rv hh),(9,rP ha 0),(10,rP ha 0),(11,rP ha 1),(12,Al hb),(13,rP ha 0),(14,rP ha 0),(15,rP ha 0),(16,rS r1.2.fS),(17,Al (r1.2.fS.length:Int)),(19,rP ha 0),(20,rP ha 0),(21,rP ha 0),(22,rS r1.2.fS),(23,rP ha 0),(24,rP ha 0),(25,rP ha 1),(26,Al hb),(27,rI .u8 (Ck r1.2.fS hb)),(50,rP ha 0),(51,rP ha 0),(52,rP ha 1),(53,Al (hb+1)),(54,rP ha 0),(55,rP ha 0),(56,rP ha 0),(57,rS r1.2.fS),(58,Al (r1.2.fS.length:Int)),(59,rB (decide ((r1.2.fS.length:Int)≤(hb+1)))),(60,rB (decide ((r1.2.fS.length:Int)≤(hb+1)))),(83,rB ((decide ((r1.2.fS.length:Int)≤(hb+1)))||((!decide ((Ck r1.2.fS (hb+1))=34))&&(!decide ((Ck r1.2.fS (hb+1))=92)))))] [.blk ha [rS r1.2.fS,Al (hb+1),rv v4,rB r1.2.fGreat] 106,.row v4 54 4 (A0 Ab r1.2.fCells),.row hh 5 1 (A0 B7 hg)] ?_ ?_)
        ·refine AN (decide ((r1.2.fS.length:Int)≤(hb+1))) (λhe=>?_) (λhe=>?_)
         ·refine C8 [0,4,9,10,11,12,13,14,15,16,17,19,20,21,22,23,24,25,26,27] [⟨[],rP ha 0,0⟩,⟨[0],rP ha 0,0⟩,⟨[1],rP ha 1,0⟩,⟨[2],Al (hb+1),1⟩,⟨[],rP ha 0,0⟩,⟨[4],rP ha 0,0⟩,⟨[5],rP ha 0,0⟩,⟨[6],rS r1.2.fS,1⟩,⟨[7],Al (r1.2.fS.length:Int),0⟩,⟨[3,8],rB (decide ((r1.2.fS.length:Int)≤(hb+1))),0⟩,⟨[9],rB (decide ((r1.2.fS.length:Int)≤(hb+1))),0⟩,⟨[10],rv undef,0⟩,⟨[11,10],rv undef,0⟩,⟨[12,10],rv undef,0⟩,⟨[13,10],rv undef,0⟩,⟨[10],rv undef,0⟩,⟨[15,10],rv undef,0⟩,⟨[16,10],rv undef,0⟩,⟨[17,10],rv undef,0⟩,⟨[14,18,10],rv undef,0⟩,⟨[19,10],rv undef,0⟩,⟨[20,10],rv undef,0⟩,⟨[21],rv undef,0⟩,⟨[22,21],rv undef,0⟩,⟨[23,21],rv undef,0⟩,⟨[24,21],rv undef,0⟩,⟨[21],rv undef,0⟩,⟨[26,21],rv undef,0⟩,⟨[27,21],rv undef,0⟩,⟨[28,21],rv undef,0⟩,⟨[25,29,21],rv undef,0⟩,⟨[30,21],rv undef,0⟩,⟨[21,31,10],rv undef,0⟩,⟨[10,32],rB true,0⟩] [50,51,52,53,54,55,56,57,58,59,60,61,62,63,64,65,66,67,68,69,70,71,72,73,74,75,76,77,78,79,80,81,82,83,0,4,9,10,11,12,13,14,15,16,17,19,20,21,22,23,24,25,26,27] ?_ ?_
          ·refine oq (A6 rfl) (oq (AA rfl) (oq (AG B1 rfl B9 rfl rfl) (of (Bm (i:=0) BN rfl rfl rfl) (oq (A6 rfl) (oq (AA rfl) (oq (AG B1 rfl C7 rfl rfl) (of (Bm (i:=0) CD rfl rfl rfl) (oq (BQ Dz rfl) (oq (ET rfl rfl) (oq (A6 rfl) (oz he (oz he (oz he (oz he (oz he (oz he (oz he (oz he (oz he (oz he (oz he (ou (ou ?_)))))))))))))))))))))));refine ou (ou (ou (ou (ou (ou (ou (ou (oz he (oq (Ay (b:=decide ((r1.2.fS.length:Int)≤(hb+1))) rfl he rfl) ?_)))))))));exact Ct
          exact BJ he
         ·refine AN (!decide ((Ck r1.2.fS (hb+1))=34)) (λhf=>?_) (λhf=>?_)
          ·refine C8 [0,4,9,10,11,12,13,14,15,16,17,19,20,21,22,23,24,25,26,27] [⟨[],rP ha 0,0⟩,⟨[0],rP ha 0,0⟩,⟨[1],rP ha 1,0⟩,⟨[2],Al (hb+1),1⟩,⟨[],rP ha 0,0⟩,⟨[4],rP ha 0,0⟩,⟨[5],rP ha 0,0⟩,⟨[6],rS r1.2.fS,1⟩,⟨[7],Al (r1.2.fS.length:Int),0⟩,⟨[3,8],rB (decide ((r1.2.fS.length:Int)≤(hb+1))),0⟩,⟨[9],rB (decide ((r1.2.fS.length:Int)≤(hb+1))),0⟩,⟨[10],rP ha 0,0⟩,⟨[11,10],rP ha 0,0⟩,⟨[12,10],rP ha 0,0⟩,⟨[13,10],rS r1.2.fS,1⟩,⟨[10],rP ha 0,0⟩,⟨[15,10],rP ha 0,0⟩,⟨[16,10],rP ha 1,0⟩,⟨[17,10],Al (hb+1),1⟩,⟨[14,18,10],rI .u8 (Ck r1.2.fS (hb+1)),0⟩,⟨[19,10],rB (!decide ((Ck r1.2.fS (hb+1))=34)),0⟩,⟨[20,10],rB (!decide ((Ck r1.2.fS (hb+1))=34)),0⟩,⟨[21],rP ha 0,0⟩,⟨[22,21],rP ha 0,0⟩,⟨[23,21],rP ha 0,0⟩,⟨[24,21],rS r1.2.fS,1⟩,⟨[21],rP ha 0,0⟩,⟨[26,21],rP ha 0,0⟩,⟨[27,21],rP ha 1,0⟩,⟨[28,21],Al (hb+1),1⟩,⟨[25,29,21],rI .u8 (Ck r1.2.fS (hb+1)),0⟩,⟨[30,21],rB (!decide ((Ck r1.2.fS (hb+1))=92)),0⟩,⟨[21,31,10],rB (!decide ((Ck r1.2.fS (hb+1))=92)),0⟩,⟨[10,32],rB (!decide ((Ck r1.2.fS (hb+1))=92)),0⟩] [50,51,52,53,54,55,56,57,58,59,60,61,62,63,64,65,66,67,68,69,70,71,72,73,74,75,76,77,78,79,80,81,82,83,0,4,9,10,11,12,13,14,15,16,17,19,20,21,22,23,24,25,26,27] ?_ ?_
           ·refine oq (A6 rfl) (oq (AA rfl) (oq (AG B1 rfl B9 rfl rfl) (of (Bm (i:=0) BN rfl rfl rfl) (oq (A6 rfl) (oq (AA rfl) (oq (AG B1 rfl C7 rfl rfl) (of (Bm (i:=0) CD rfl rfl rfl) (oq (BQ Dz rfl) (oq (ET rfl rfl) (oq (A6 rfl) (on he (oq (A6 rfl) (on he (oq (AA rfl) (on he (oq (AG B1 rfl C7 rfl rfl) (on he (of (Bm (i:=0) CD rfl rfl rfl) (on he (oq (A6 rfl) (on he (oq (AA rfl) (on he ?_)))))))))))))))))))))));refine oq (AG B1 rfl B9 rfl rfl) (on he (of (Bm (i:=0) BN rfl rfl rfl) (on he (oq (BC Dz rfl rfl (Cw hs he)) (on he (oq (Bk rfl rfl) (on he (oq (A6 rfl) (on hf (oq (A6 rfl) (on hf (oq (AA rfl) (on hf (oq (AG B1 rfl C7 rfl rfl) (on hf (of (Bm (i:=0) CD rfl rfl rfl) (on hf (oq (A6 rfl) (on hf (oq (AA rfl) (on hf (oq (AG B1 rfl B9 rfl rfl) (on hf ?_)))))))))))))))))))))));refine of (Bm (i:=0) BN rfl rfl rfl) (on hf (oq (BC Dz rfl rfl (Cw hs he)) (on hf (oq (Bk rfl rfl) (on he (oq (Ay rfl hf rfl) (oq (Aw rfl he rfl) ?_)))))));exact Ct
           exact BJ (And.intro he hf)
          ·refine C8 [0,4,9,10,11,12,13,14,15,16,17,19,20,21,22,23,24,25,26,27] [⟨[],rP ha 0,0⟩,⟨[0],rP ha 0,0⟩,⟨[1],rP ha 1,0⟩,⟨[2],Al (hb+1),1⟩,⟨[],rP ha 0,0⟩,⟨[4],rP ha 0,0⟩,⟨[5],rP ha 0,0⟩,⟨[6],rS r1.2.fS,1⟩,⟨[7],Al (r1.2.fS.length:Int),0⟩,⟨[3,8],rB (decide ((r1.2.fS.length:Int)≤(hb+1))),0⟩,⟨[9],rB (decide ((r1.2.fS.length:Int)≤(hb+1))),0⟩,⟨[10],rP ha 0,0⟩,⟨[11,10],rP ha 0,0⟩,⟨[12,10],rP ha 0,0⟩,⟨[13,10],rS r1.2.fS,1⟩,⟨[10],rP ha 0,0⟩,⟨[15,10],rP ha 0,0⟩,⟨[16,10],rP ha 1,0⟩,⟨[17,10],Al (hb+1),1⟩,⟨[14,18,10],rI .u8 (Ck r1.2.fS (hb+1)),0⟩,⟨[19,10],rB (!decide ((Ck r1.2.fS (hb+1))=34)),0⟩,⟨[20,10],rB (!decide ((Ck r1.2.fS (hb+1))=34)),0⟩,⟨[21],rv undef,0⟩,⟨[22,21],rv undef,0⟩,⟨[23,21],rv undef,0⟩,⟨[24,21],rv undef,0⟩,⟨[21],rv undef,0⟩,⟨[26,21],rv undef,0⟩,⟨[27,21],rv undef,0⟩,⟨[28,21],rv undef,0⟩,⟨[25,29,21],rv undef,0⟩,⟨[30,21],rv undef,0⟩,⟨[21,31,10],rB false,0⟩,⟨[10,32],rB false,0⟩] [50,51,52,53,54,55,56,57,58,59,60,61,62,63,64,65,66,67,68,69,70,71,72,73,74,75,76,77,78,79,80,81,82,83,0,4,9,10,11,12,13,14,15,16,17,19,20,21,22,23,24,25,26,27] ?_ ?_
           ·refine oq (A6 rfl) (oq (AA rfl) (oq (AG B1 rfl B9 rfl rfl) (of (Bm (i:=0) BN rfl rfl rfl) (oq (A6 rfl) (oq (AA rfl) (oq (AG B1 rfl C7 rfl rfl) (of (Bm (i:=0) CD rfl rfl rfl) (oq (BQ Dz rfl) (oq (ET rfl rfl) (oq (A6 rfl) (on he (oq (A6 rfl) (on he (oq (AA rfl) (on he (oq (AG B1 rfl C7 rfl rfl) (on he (of (Bm (i:=0) CD rfl rfl rfl) (on he (oq (A6 rfl) (on he (oq (AA rfl) (on he ?_)))))))))))))))))))))));refine oq (AG B1 rfl B9 rfl rfl) (on he (of (Bm (i:=0) BN rfl rfl rfl) (on he (oq (BC Dz rfl rfl (Cw hs he)) (on he (oq (Bk rfl rfl) (on he (oq (A6 rfl) (oz hf (oz hf (oz hf (oz hf (oz hf (oz hf (oz hf (oz hf (oz hf (oz hf (on he (oq (Aw (b:=!decide ((Ck r1.2.fS (hb+1))=34)) rfl hf rfl) (oq (Aw rfl he rfl) ?_)))))))))))))))))))));exact Ct
           exact BJ (And.intro he hf)
        refine cz hN rfl (λhO hP=>?_) (λhO hQ=>?_)
        ·refine Ae (wv (r:=rS ([]:Av)) (AE rfl) (wa rfl (Ak (Ap (Ac (At (Ac (At (Ac (AM ?_))))))))));have hR:=Bg hP hk hl;refine At (Ac ?_);obtain rfl:=An hR;exact Ao (Dq OT (A5 rfl) (A5 rfl)) (sC (sC (sS sN))) ⟨v4,rfl,rfl⟩
        ·refine Aq (A7 (Am (ck hQ λhS hT=>C8 [0,4,9,10,11,12,13,14,15,16,17,19,20,21,22,23,24,25,26,27,50,51,52,53,54,55,56,57,58,59,60] [⟨[],rP ha 0,0⟩,⟨[0],rP ha 0,0⟩,⟨[1],rP ha 0,0⟩,⟨[2],rS r1.2.fS,1⟩,⟨[],rP ha 0,0⟩,⟨[4],rP ha 0,0⟩,⟨[5],rP ha 1,0⟩,⟨[6],Al (hb+1),1⟩,⟨[3,7],rI .u8 (Ck r1.2.fS (hb+1)),0⟩,⟨[8],rI .u8 (Ck r1.2.fS (hb+1)),0⟩] [84,85,86,87,88,89,90,91,92,5,0,4,9,10,11,12,13,14,15,16,17,19,20,21,22,23,24,25,26,27,50,51,52,53,54,55,56,57,58,59,60] ?_ ?_)))
         ·refine oq (A6 rfl) (oq (AA rfl) (oq (AG B1 rfl C7 rfl rfl) (of (Bm (i:=0) CD rfl rfl rfl) (oq (A6 rfl) (oq (AA rfl) (oq (AG B1 rfl B9 rfl rfl) (of (Bm (i:=0) BN rfl rfl rfl) (oq (BC Dz rfl rfl hS) (oq (AE rfl) ?_)))))))));exact Ct
         exact A7 (Aj (wm rfl (wv (AA rfl) (vF B1 rfl B9 (vL 0 BN rfl (ck hT λhU hV=>wv (Bd rfl rfl hU) (wv (AA rfl) (vF B1 rfl B9 (BA (i:=0) B9 rfl rfl (BS rfl) rfl rfl (cs':=[rS r1.2.fS,Al ((hb+1)+1),rv v4,rB r1.2.fGreat]) rfl (H':=[.blk ha [rS r1.2.fS,Al ((hb+1)+1),rv v4,rB r1.2.fGreat] 106,.row v4 54 4 (A0 Ab r1.2.fCells),.row hh 5 1 (A0 B7 hg)]) rfl (Ai (A2 (Au (Ar ((Ck r1.2.fS (hb+1),(hb+1)+1),()) hV (Az.c rfl (Az.c5 rfl rfl rfl rfl rfl (Az.c5 rfl rfl rfl rfl rfl (Az.c5 rfl rfl rfl rfl rfl (Az.c5 rfl rfl rfl rfl rfl Az.nil))))) (sC (sC (sC sN))))))))))))))))
       ·exact Aq (A2 (Au (Ar ((Ck r1.2.fS hb,hb+1),()) hL (Az.c rfl (Az.c5 rfl rfl rfl rfl rfl (Az.c5 rfl rfl rfl rfl rfl (Az.c5 rfl rfl rfl rfl rfl (Az.c5 rfl rfl rfl rfl rfl Az.nil))))) (sC (sC (sC sN))))))
    ·rintro⟨⟨hj,hn⟩,⟨⟩⟩ ho;refine Bs (l':=[(0,rP ha 0),(4,rv hh),(5,rI .u8 hj),(9,rP ha 0),(10,rP ha 0),(11,rP ha 1),(12,Al hb),(13,rP ha 0),(14,rP ha 0),(15,rP ha 0),(16,rS r1.2.fS),(17,Al (r1.2.fS.length:Int)),(19,rP ha 0),(20,rP ha 0),(21,rP ha 0),(22,rS r1.2.fS),(23,rP ha 0),(24,rP ha 0),(25,rP ha 1),(26,Al hb),(27,rI .u8 (Ck r1.2.fS hb))]) (H':=[.blk ha [rS r1.2.fS,Al hn,rv v4,rB r1.2.fGreat] 106,.row v4 54 4 (A0 Ab r1.2.fCells),.row hh 5 1 (A0 B7 hg)]) rfl rfl ?_;replace ho:I5 hg hj hn=some hr:=ho;unfold I5 at ho;refine Aj (wm rfl (wm rfl (AX (ys:=([hj]:List Int)) (enc:=B7) (css:=[[rI .u8 hj]]) (xs:=[.tmp 101]) Mj Tryz.sizeOf5 Ya rfl rfl rfl ⟨Ep.one rfl (Up.refl _),trivial⟩ rfl Gp rfl rfl rfl (λhW=>?_))));refine ck ho λhX hY=>Exists.elim PG λinf hinf=>BZ (xs:=hg) (ys:=([hj]:List Int)) (enc:=B7) (i:=3) Mj hinf.1 hinf.2.1 hinf.2.2.1 hinf.2.2.2 rfl rfl rfl rfl rfl (JF.w (i:=0) rfl rfl) Gp Li hX rfl (λht=>?_);refine wa rfl (Ai (A2 (C6 (H2:=[.blk ha [rS r1.2.fS,Al hn,rv v4,rB r1.2.fGreat] 106,.row v4 54 4 (A0 Ab r1.2.fCells),.row ht 5 1 (A0 B7 (hg++([hj]:List Int))),.row (.slice (some ⟨hW,0,none⟩) 1 1) 5 1 (A0 B7 ([hj]:List Int))]) ((A4 (i:=2) rfl).trans (Yw _ ((A4 (i:=2) rfl).trans (Yw _ (Yu _))))) ?_)));have hZ:=AW hY hk;exact Au (Ar (hz,(hg++([hj]:List Int),hn),ht) ⟨hZ,Yy _⟩ (Az.c rfl (Az.c rfl Az.nil)) (sC (sC (sC (sS sN)))))
   ·refine Bf (As ?_);have ga:=Bu h3 hk hl;exact As (AP (Ar (hb,()) ga Az.nil (sC (sC (sS sN)))))
  ·rintro⟨hu,⟨⟩⟩ hp;refine BK (l':=[]) (H':=[.blk ha [rS r1.2.fS,Al hu,rv v4,rB r1.2.fGreat] 106,.row v4 54 4 (A0 Ab r1.2.fCells)]) rfl rfl ?_;replace hp:JO r1 hu=some r:=hp;unfold JO at hp;refine AV (A7 (Ae (wv (r:=rS ([]:Av)) (AE rfl) (wa rfl (Ak (Ap ?_))))));obtain rfl:=An hp;exact Ao (Dq OT (A5 rfl) (A5 rfl)) (sC (sC sN)) ⟨v4,rfl,rfl⟩
theorem Vl (F:Nat)(ha:Nat)(hm:Value)(q:A1)(r:Bool×A1)(h:T5 F q=some r):Fn Tryz.prog GE 144 [rP ha 0] [.blk ha [rS q.fS,Al q.fAt,rv hm,rB q.fGreat] 106,.row hm 54 4 (A0 Ab q.fCells)] (λR H=>∃w0_2:Value,R=rB r.1∧H=[.blk ha [rS r.2.fS,Al r.2.fAt,rv w0_2,rB r.2.fGreat] 106,.row w0_2 54 4 (A0 Ab r.2.fCells)]):=by
 refine enter (n:=104) Tryz.func144 rfl Tryz.ntmps144 rfl (λw Z=>?_);unfold T5 at h;refine Ae (wa rfl (Bc (wm rfl (wv (AA rfl) (vF B1 rfl B9 (vL 0 BN rfl (wa rfl (Bc (wm rfl (ob h λr1 e3 h2=>DN (Hr:=[]) Gr (Dj ha hm q ([45]:Av) r1 e3) rfl (Yu _) rfl ?_))))))))));rintro _ _ ⟨v4,rfl,rfl⟩;refine Bc (wm rfl (wv (AA rfl) (vF B1 rfl B9 (vL 0 BN rfl (wa rfl (Ak (Am (A3 (ob h2 λhq hr hs=>Bb (S:=Nat×(Int)×(Unit)) (V:=(Int)×(Unit)) 0 (λσ=>BG (λσ=>JR r1 σ) σ.1 σ.2.1=some hq) (λσ=>[(0,rP ha 0),(3,Al q.fAt),(4,Al r1.2.fAt)]) (λσ=>[.blk ha [rS r1.2.fS,Al σ.2.1,rv v4,rB r1.2.fGreat] 106,.row v4 54 4 (A0 Ab r1.2.fCells)]) (λσ=>σ.1) (F,r1.2.fAt,()) hr (Az.c rfl (Az.c rfl (Az.c rfl Az.nil))) (sC (sC sN)) (λσ=>JQ q r1 σ.1=some r) (λσ=>[(0,rP ha 0),(3,Al q.fAt),(4,Al r1.2.fAt)]) (λσ=>[.blk ha [rS r1.2.fS,Al σ.1,rv v4,rB r1.2.fGreat] 106,.row v4 54 4 (A0 Ab r1.2.fCells)]) ?_ ?_)))))))))
 ·rintro⟨hI,he,⟨⟩⟩ ht;refine Bs (l':=[(0,rP ha 0),(3,Al q.fAt),(4,Al r1.2.fAt)]) (H':=[.blk ha [rS r1.2.fS,Al he,rv v4,rB r1.2.fGreat] 106,.row v4 54 4 (A0 Ab r1.2.fCells)]) rfl rfl ?_;obtain⟨hu,rfl,hw,hk,ho⟩:=BF ht;replace hk:JR r1 he=some hw:=hk;unfold JR at hk;refine Am (ck hk λhn hx=>AD [(0,rP ha 0),(3,Al q.fAt),(4,Al r1.2.fAt),(17,rP ha 0),(18,rP ha 0),(19,rP ha 1),(20,Al he),(21,rP ha 0),(22,rP ha 0),(23,rP ha 0),(24,rS r1.2.fS),(25,Al (r1.2.fS.length:Int)),(26,rB (decide (he<(r1.2.fS.length:Int)))),(27,rB (decide (he<(r1.2.fS.length:Int)))),(38,rB ((decide (he<(r1.2.fS.length:Int)))&&(decide (48≤(Ck r1.2.fS he))))),(39,rB ((decide (he<(r1.2.fS.length:Int)))&&(decide (48≤(Ck r1.2.fS he))))),(50,rB ((decide (he<(r1.2.fS.length:Int)))&&((decide (48≤(Ck r1.2.fS he)))&&(decide ((Ck r1.2.fS he)≤57)))))] [.blk ha [rS r1.2.fS,Al he,rv v4,rB r1.2.fGreat] 106,.row v4 54 4 (A0 Ab r1.2.fCells)] ?_ ?_)
  ·refine AN (decide (he<(r1.2.fS.length:Int))) (λhf=>?_) (λhf=>?_)
   ·refine AN (decide (48≤(Ck r1.2.fS he))) (λhg=>?_) (λhg=>?_)
    ·refine C8 [0,3,4] [⟨[],rP ha 0,0⟩,⟨[0],rP ha 0,0⟩,⟨[1],rP ha 1,0⟩,⟨[2],Al he,1⟩,⟨[],rP ha 0,0⟩,⟨[4],rP ha 0,0⟩,⟨[5],rP ha 0,0⟩,⟨[6],rS r1.2.fS,1⟩,⟨[7],Al (r1.2.fS.length:Int),0⟩,⟨[3,8],rB (decide (he<(r1.2.fS.length:Int))),0⟩,⟨[9],rB (decide (he<(r1.2.fS.length:Int))),0⟩,⟨[10],rP ha 0,0⟩,⟨[11,10],rP ha 0,0⟩,⟨[12,10],rP ha 0,0⟩,⟨[13,10],rS r1.2.fS,1⟩,⟨[10],rP ha 0,0⟩,⟨[15,10],rP ha 0,0⟩,⟨[16,10],rP ha 1,0⟩,⟨[17,10],Al he,1⟩,⟨[14,18,10],rI .u8 (Ck r1.2.fS he),0⟩,⟨[19,10],rB (decide (48≤(Ck r1.2.fS he))),0⟩,⟨[10,20],rB (decide (48≤(Ck r1.2.fS he))),0⟩,⟨[21],rB (decide (48≤(Ck r1.2.fS he))),0⟩,⟨[22],rP ha 0,0⟩,⟨[23,22],rP ha 0,0⟩,⟨[24,22],rP ha 0,0⟩,⟨[25,22],rS r1.2.fS,1⟩,⟨[22],rP ha 0,0⟩,⟨[27,22],rP ha 0,0⟩,⟨[28,22],rP ha 1,0⟩,⟨[29,22],Al he,1⟩,⟨[26,30,22],rI .u8 (Ck r1.2.fS he),0⟩,⟨[31,22],rB (decide ((Ck r1.2.fS he)≤57)),0⟩,⟨[22,32],rB (decide ((Ck r1.2.fS he)≤57)),0⟩] [17,18,19,20,21,22,23,24,25,26,27,28,29,30,31,32,33,34,35,36,37,38,39,40,41,42,43,44,45,46,47,48,49,50,0,3,4] ?_ ?_
     ·refine oq (A6 rfl) (oq (AA rfl) (oq (AG B1 rfl B9 rfl rfl) (of (Bm (i:=0) BN rfl rfl rfl) (oq (A6 rfl) (oq (AA rfl) (oq (AG B1 rfl C7 rfl rfl) (of (Bm (i:=0) CD rfl rfl rfl) (oq (BQ Dz rfl) (oq (BW rfl rfl) (oq (A6 rfl) (on hf (oq (A6 rfl) (on hf (oq (AA rfl) (on hf (oq (AG B1 rfl C7 rfl rfl) (on hf (of (Bm (i:=0) CD rfl rfl rfl) (on hf (oq (A6 rfl) (on hf (oq (AA rfl) (on hf ?_)))))))))))))))))))))));refine oq (AG B1 rfl B9 rfl rfl) (on hf (of (Bm (i:=0) BN rfl rfl rfl) (on hf (oq (BC Dz rfl rfl (Ch hn hf)) (on hf (oq (ET rfl rfl) (oq (Ay rfl hf rfl) (oq (A6 rfl) (on hg (oq (A6 rfl) (on hg (oq (AA rfl) (on hg (oq (AG B1 rfl C7 rfl rfl) (on hg (of (Bm (i:=0) CD rfl rfl rfl) (on hg (oq (A6 rfl) (on hg (oq (AA rfl) (on hg (oq (AG B1 rfl B9 rfl rfl) (on hg ?_)))))))))))))))))))))));refine of (Bm (i:=0) BN rfl rfl rfl) (on hg (oq (BC Dz rfl rfl (Ch hn hf)) (on hg (oq (KT rfl rfl) (oq (Ay rfl hg rfl) ?_)))));exact Ct
     exact BJ (And.intro hf hg)
    ·refine C8 [0,3,4] [⟨[],rP ha 0,0⟩,⟨[0],rP ha 0,0⟩,⟨[1],rP ha 1,0⟩,⟨[2],Al he,1⟩,⟨[],rP ha 0,0⟩,⟨[4],rP ha 0,0⟩,⟨[5],rP ha 0,0⟩,⟨[6],rS r1.2.fS,1⟩,⟨[7],Al (r1.2.fS.length:Int),0⟩,⟨[3,8],rB (decide (he<(r1.2.fS.length:Int))),0⟩,⟨[9],rB (decide (he<(r1.2.fS.length:Int))),0⟩,⟨[10],rP ha 0,0⟩,⟨[11,10],rP ha 0,0⟩,⟨[12,10],rP ha 0,0⟩,⟨[13,10],rS r1.2.fS,1⟩,⟨[10],rP ha 0,0⟩,⟨[15,10],rP ha 0,0⟩,⟨[16,10],rP ha 1,0⟩,⟨[17,10],Al he,1⟩,⟨[14,18,10],rI .u8 (Ck r1.2.fS he),0⟩,⟨[19,10],rB (decide (48≤(Ck r1.2.fS he))),0⟩,⟨[10,20],rB (decide (48≤(Ck r1.2.fS he))),0⟩,⟨[21],rB (decide (48≤(Ck r1.2.fS he))),0⟩,⟨[22],rv undef,0⟩,⟨[23,22],rv undef,0⟩,⟨[24,22],rv undef,0⟩,⟨[25,22],rv undef,0⟩,⟨[22],rv undef,0⟩,⟨[27,22],rv undef,0⟩,⟨[28,22],rv undef,0⟩,⟨[29,22],rv undef,0⟩,⟨[26,30,22],rv undef,0⟩,⟨[31,22],rv undef,0⟩,⟨[22,32],rB false,0⟩] [17,18,19,20,21,22,23,24,25,26,27,28,29,30,31,32,33,34,35,36,37,38,39,40,41,42,43,44,45,46,47,48,49,50,0,3,4] ?_ ?_
     ·refine oq (A6 rfl) (oq (AA rfl) (oq (AG B1 rfl B9 rfl rfl) (of (Bm (i:=0) BN rfl rfl rfl) (oq (A6 rfl) (oq (AA rfl) (oq (AG B1 rfl C7 rfl rfl) (of (Bm (i:=0) CD rfl rfl rfl) (oq (BQ Dz rfl) (oq (BW rfl rfl) (oq (A6 rfl) (on hf (oq (A6 rfl) (on hf (oq (AA rfl) (on hf (oq (AG B1 rfl C7 rfl rfl) (on hf (of (Bm (i:=0) CD rfl rfl rfl) (on hf (oq (A6 rfl) (on hf (oq (AA rfl) (on hf ?_)))))))))))))))))))))));refine oq (AG B1 rfl B9 rfl rfl) (on hf (of (Bm (i:=0) BN rfl rfl rfl) (on hf (oq (BC Dz rfl rfl (Ch hn hf)) (on hf (oq (ET rfl rfl) (oq (Ay rfl hf rfl) (oq (A6 rfl) (oz hg (oz hg (oz hg (oz hg (oz hg (oz hg (oz hg (oz hg (oz hg (oz hg (oq (Aw (b:=decide (48≤(Ck r1.2.fS he))) rfl hg rfl) ?_)))))))))))))))))));exact Ct
     exact BJ (And.intro hf hg)
   ·refine C8 [0,3,4] [⟨[],rP ha 0,0⟩,⟨[0],rP ha 0,0⟩,⟨[1],rP ha 1,0⟩,⟨[2],Al he,1⟩,⟨[],rP ha 0,0⟩,⟨[4],rP ha 0,0⟩,⟨[5],rP ha 0,0⟩,⟨[6],rS r1.2.fS,1⟩,⟨[7],Al (r1.2.fS.length:Int),0⟩,⟨[3,8],rB (decide (he<(r1.2.fS.length:Int))),0⟩,⟨[9],rB (decide (he<(r1.2.fS.length:Int))),0⟩,⟨[10],rv undef,0⟩,⟨[11,10],rv undef,0⟩,⟨[12,10],rv undef,0⟩,⟨[13,10],rv undef,0⟩,⟨[10],rv undef,0⟩,⟨[15,10],rv undef,0⟩,⟨[16,10],rv undef,0⟩,⟨[17,10],rv undef,0⟩,⟨[14,18,10],rv undef,0⟩,⟨[19,10],rv undef,0⟩,⟨[10,20],rB false,0⟩,⟨[21],rB false,0⟩,⟨[22],rv undef,0⟩,⟨[23,22],rv undef,0⟩,⟨[24,22],rv undef,0⟩,⟨[25,22],rv undef,0⟩,⟨[22],rv undef,0⟩,⟨[27,22],rv undef,0⟩,⟨[28,22],rv undef,0⟩,⟨[29,22],rv undef,0⟩,⟨[26,30,22],rv undef,0⟩,⟨[31,22],rv undef,0⟩,⟨[22,32],rB false,0⟩] [17,18,19,20,21,22,23,24,25,26,27,28,29,30,31,32,33,34,35,36,37,38,39,40,41,42,43,44,45,46,47,48,49,50,0,3,4] ?_ ?_
    ·refine oq (A6 rfl) (oq (AA rfl) (oq (AG B1 rfl B9 rfl rfl) (of (Bm (i:=0) BN rfl rfl rfl) (oq (A6 rfl) (oq (AA rfl) (oq (AG B1 rfl C7 rfl rfl) (of (Bm (i:=0) CD rfl rfl rfl) (oq (BQ Dz rfl) (oq (BW rfl rfl) (oq (A6 rfl) (oz hf (oz hf (oz hf (oz hf (oz hf (oz hf (oz hf (oz hf (oz hf (oz hf (oq (Aw (b:=decide (he<(r1.2.fS.length:Int))) rfl hf rfl) (oq (A6 rfl) (oz rfl ?_)))))))))))))))))))))));refine oz rfl (oz rfl (oz rfl (oz rfl (oz rfl (oz rfl (oz rfl (oz rfl (oz rfl (oq (Aw (b:=false) rfl rfl rfl) ?_)))))))));exact Ct
    exact BJ hf
  refine cz hx rfl (λhy hz=>?_) (λhy h0=>?_)
  ·refine Aq (A7 (A3 (Aj (wm rfl (wv (AA rfl) (vF B1 rfl B9 (vL 0 BN rfl (ck hz λh1 h3=>wv (Bd rfl rfl h1) (wv (AA rfl) (vF B1 rfl B9 (BA (i:=0) B9 rfl rfl (BS rfl) rfl rfl (cs':=[rS r1.2.fS,Al (he+1),rv v4,rB r1.2.fGreat]) rfl (H':=[.blk ha [rS r1.2.fS,Al (he+1),rv v4,rB r1.2.fGreat] 106,.row v4 54 4 (A0 Ab r1.2.fCells)]) rfl (Ai (A2 ?_)))))))))))));have h4:=AW h3 ho;exact Au (Ar (hu,he+1,()) ⟨h4,Yy _⟩ (Az.c rfl (Az.c rfl (Az.c rfl Az.nil))) (sC (sC sN)))
  ·refine Bf (As ?_);have h5:=Bu h0 ho hs;exact As (AP (Ar (he,()) h5 (Az.c rfl (Az.c rfl (Az.c rfl Az.nil))) (sC (sC sN))))
 ·rintro⟨hb,⟨⟩⟩ hl;refine BK (l':=[(0,rP ha 0),(3,Al q.fAt),(4,Al r1.2.fAt)]) (H':=[.blk ha [rS r1.2.fS,Al hb,rv v4,rB r1.2.fGreat] 106,.row v4 54 4 (A0 Ab r1.2.fCells)]) rfl rfl ?_;replace hl:JQ q r1 hb=some r:=hl;unfold JQ at hl;refine AV (A7 (Am (ck hl λh6 h7=>ck h7 λh8 h9=>ck h9 λhA hB=>C8 [0,3,4] [⟨[],rP ha 0,0⟩,⟨[0],rP ha 0,0⟩,⟨[1],rP ha 0,0⟩,⟨[2],rS r1.2.fS,1⟩,⟨[],Al q.fAt,0⟩,⟨[],rP ha 0,0⟩,⟨[5],rP ha 0,0⟩,⟨[6],rP ha 1,0⟩,⟨[7],Al hb,1⟩,⟨[3,4,8],rS (List.take (By hb-By q.fAt) (List.drop (By q.fAt) r1.2.fS)),0⟩,⟨[9],Da [Al (CL (List.take (By hb-By q.fAt) (List.drop (By q.fAt) r1.2.fS))),Al (CH (List.take (By hb-By q.fAt) (List.drop (By q.fAt) r1.2.fS)))],0⟩,⟨[10],Da [Al (CL (List.take (By hb-By q.fAt) (List.drop (By q.fAt) r1.2.fS))),Al (CH (List.take (By hb-By q.fAt) (List.drop (By q.fAt) r1.2.fS)))],0⟩,⟨[11],Al (CL (List.take (By hb-By q.fAt) (List.drop (By q.fAt) r1.2.fS))),0⟩,⟨[11],Al (CH (List.take (By hb-By q.fAt) (List.drop (By q.fAt) r1.2.fS))),0⟩,⟨[12],Al (CL (List.take (By hb-By q.fAt) (List.drop (By q.fAt) r1.2.fS))),0⟩,⟨[13],Al (CH (List.take (By hb-By q.fAt) (List.drop (By q.fAt) r1.2.fS))),0⟩] [5,6,0,4] ?_ ?_)))
  ·refine oq (A6 rfl) (oq (AA rfl) (oq (AG B1 rfl C7 rfl rfl) (of (Bm (i:=0) CD rfl rfl rfl) (oq (A6 rfl) (oq (A6 rfl) (oq (AA rfl) (oq (AG B1 rfl B9 rfl rfl) (of (Bm (i:=0) BN rfl rfl rfl) (oq (Ie Dz rfl rfl rfl h6 h8) (D7 rfl (λH=>Km (rs:=[rS (List.take (By hb-By q.fAt) (List.drop (By q.fAt) r1.2.fS))]) (r:=Da [Al (CL (List.take (By hb-By q.fAt) (List.drop (By q.fAt) r1.2.fS))),Al (CH (List.take (By hb-By q.fAt) (List.drop (By q.fAt) r1.2.fS)))]) Tryz.call151 rfl (V0 (List.take (By hb-By q.fAt) (List.drop (By q.fAt) r1.2.fS)) hA) rfl) ?_))))))))));refine oq (A6 rfl) (oq (A8 rfl rfl) (oq (A8 rfl rfl) (oq (AE rfl) (oq (AE rfl) ?_))));exact Ct
  refine A7 (Am (AD [(0,rP ha 0),(5,Al (CL (List.take (By hb-By q.fAt) (List.drop (By q.fAt) r1.2.fS)))),(6,Al (CH (List.take (By hb-By q.fAt) (List.drop (By q.fAt) r1.2.fS)))),(81,rB ((decide ((CH (List.take (By hb-By q.fAt) (List.drop (By q.fAt) r1.2.fS)))=1))||(decide (r1.2.fAt=hb))))] [.blk ha [rS r1.2.fS,Al hb,rv v4,rB r1.2.fGreat] 106,.row v4 54 4 (A0 Ab r1.2.fCells)] ?_ ?_))
  ·refine Aj (wm rfl (wv (Bh rfl rfl) (wm rfl (AN (decide ((CH (List.take (By hb-By q.fAt) (List.drop (By q.fAt) r1.2.fS)))=1)) (λhh=>?_) (λhh=>?_)))))
   ·refine wf hh (wf hh (wf hh (wf hh (wf hh (wf hh (wv (r:=rB true) (Ay rfl hh rfl) (Ai ?_)))))));exact BJ hh
   ·refine wo hh (wm rfl (wo hh (wm rfl (wo hh (wv (AA rfl) (wo hh (vF B1 rfl B9 (wo hh (vL 0 BN rfl (wo hh (wv (Bh rfl rfl) (Cm rfl hh rfl (Ai ?_)))))))))))));exact BJ hh
  refine cz hB rfl (λhC hD=>?_) (λhC hE=>?_)
  ·refine Ae (wa rfl (Ak (Ap (Ac ?_))));obtain rfl:=An hD;exact Ao (Bo Tryz.results144 (A5 rfl)) (sC (sC sN)) ⟨v4,rfl,rfl⟩
  ·refine Aq (A7 (AD [(0,rP ha 0),(5,Al (CL (List.take (By hb-By q.fAt) (List.drop (By q.fAt) r1.2.fS))))] [.blk ha [rS r1.2.fS,Al hb,rv v4,rB (r1.2.fGreat||(!decide ((CH (List.take (By hb-By q.fAt) (List.drop (By q.fAt) r1.2.fS)))=0)))] 106,.row v4 54 4 (A0 Ab r1.2.fCells)] ?_ ?_))
   ·refine Aj (wm rfl (wm rfl (wv (AA rfl) (vF B1 rfl HI (vL 0 Tf rfl (wm rfl (AN (r1.2.fGreat) (λhi=>?_) (λhi=>?_))))))))
    ·refine wf hi (wf hi (wv (r:=rB true) (Ay rfl hi rfl) (wv (AA rfl) (vF B1 rfl HI (BA (i:=0) HI rfl rfl (BS rfl) rfl rfl (cs':=[rS r1.2.fS,Al hb,rv v4,rB true]) rfl (H':=[.blk ha [rS r1.2.fS,Al hb,rv v4,rB true] 106,.row v4 54 4 (A0 Ab r1.2.fCells)]) rfl (Ai (HL (H':=[.blk ha [rS r1.2.fS,Al hb,rv v4,rB (r1.2.fGreat||(!decide ((CH (List.take (By hb-By q.fAt) (List.drop (By q.fAt) r1.2.fS)))=0)))] 106,.row v4 54 4 (A0 Ab r1.2.fCells)]) (by simp only[hi,YC,YL,YP,YF,YS,YK,YQ,YR,YA,YJ,Y7,Y2]) ?_)))))));exact wt
    ·refine wo hi (wm rfl (wo hi (wv (Bk rfl rfl) (Cm rfl hi rfl (wv (AA rfl) (vF B1 rfl HI (BA (i:=0) HI rfl rfl (BS rfl) rfl rfl (cs':=[rS r1.2.fS,Al hb,rv v4,rB (!decide ((CH (List.take (By hb-By q.fAt) (List.drop (By q.fAt) r1.2.fS)))=0))]) rfl (H':=[.blk ha [rS r1.2.fS,Al hb,rv v4,rB (!decide ((CH (List.take (By hb-By q.fAt) (List.drop (By q.fAt) r1.2.fS)))=0))] 106,.row v4 54 4 (A0 Ab r1.2.fCells)]) rfl (Ai (HL (H':=[.blk ha [rS r1.2.fS,Al hb,rv v4,rB (r1.2.fGreat||(!decide ((CH (List.take (By hb-By q.fAt) (List.drop (By q.fAt) r1.2.fS)))=0)))] 106,.row v4 54 4 (A0 Ab r1.2.fCells)]) (by simp only[hi,YC,YL,YP,YF,YS,YK,YQ,YR,YA,YJ,Y7,Y2]) ?_)))))))));exact wt
   refine Ae (wm rfl (wm rfl (wv (AA rfl) (vF B1 rfl Cg (vL 0 CE rfl (wm rfl (wv (r:=B8 [Al 3,Al (CL (List.take (By hb-By q.fAt) (List.drop (By q.fAt) r1.2.fS))),rS ([]:Av),Al 0]) (DU rfl rfl rfl rfl) (AX (ys:=([(Aa.mk 3 (CL (List.take (By hb-By q.fAt) (List.drop (By q.fAt) r1.2.fS))) ([]:Av) 0)]:List Aa)) (enc:=Ab) (css:=[[Al 3,Al (CL (List.take (By hb-By q.fAt) (List.drop (By q.fAt) r1.2.fS))),rS ([]:Av),Al 0]]) (xs:=[.tmp 99]) Br Bz GX rfl rfl rfl ⟨Ep.agg ⟨Up.refl _,Up.refl _,Up.refl _,Up.refl _,trivial⟩,trivial⟩ rfl Bi rfl rfl rfl (λhp=>?_)))))))));refine ck hE λhG hH=>Exists.elim G2 λinf hinf=>BZ (xs:=r1.2.fCells) (ys:=([(Aa.mk 3 (CL (List.take (By hb-By q.fAt) (List.drop (By q.fAt) r1.2.fS))) ([]:Av) 0)]:List Aa)) (enc:=Ab) (i:=2) Br hinf.1 hinf.2.1 hinf.2.2.1 hinf.2.2.2 rfl rfl rfl rfl rfl (JF.w (i:=0) rfl rfl) Bi Cv hG rfl (λhj=>?_);refine wv (AA rfl) (vF B1 rfl Cg (BA (i:=2) Cg rfl rfl (CP (i:=0) rfl) rfl rfl (cs':=[rS r1.2.fS,Al hb,rv hj,rB (r1.2.fGreat||(!decide ((CH (List.take (By hb-By q.fAt) (List.drop (By q.fAt) r1.2.fS)))=0)))]) rfl (H':=[.row hj 54 4 (A0 Ab (r1.2.fCells++([(Aa.mk 3 (CL (List.take (By hb-By q.fAt) (List.drop (By q.fAt) r1.2.fS))) ([]:Av) 0)]:List Aa))),.row (.slice (some ⟨hp,0,none⟩) 1 1) 54 4 (A0 Ab ([(Aa.mk 3 (CL (List.take (By hb-By q.fAt) (List.drop (By q.fAt) r1.2.fS))) ([]:Av) 0)]:List Aa)),.blk ha [rS r1.2.fS,Al hb,rv hj,rB (r1.2.fGreat||(!decide ((CH (List.take (By hb-By q.fAt) (List.drop (By q.fAt) r1.2.fS)))=0)))] 106]) rfl (Bc (wa rfl (Ak (Ap (C6 (H2:=[.blk ha [rS r1.2.fS,Al hb,rv hj,rB (r1.2.fGreat||(!decide ((CH (List.take (By hb-By q.fAt) (List.drop (By q.fAt) r1.2.fS)))=0)))] 106,.row hj 54 4 (A0 Ab (r1.2.fCells++([(Aa.mk 3 (CL (List.take (By hb-By q.fAt) (List.drop (By q.fAt) r1.2.fS))) ([]:Av) 0)]:List Aa))),.row (.slice (some ⟨hp,0,none⟩) 1 1) 54 4 (A0 Ab ([(Aa.mk 3 (CL (List.take (By hb-By q.fAt) (List.drop (By q.fAt) r1.2.fS))) ([]:Av) 0)]:List Aa))]) ((A4 (i:=2) rfl).trans (Yw _ (Yu _))) ?_)))))));obtain rfl:=An hH;exact Ao (Bo Tryz.results144 (A5 rfl)) (sC (sC (sS sN))) ⟨hj,rfl,rfl⟩
theorem Qw (F:Nat)(he:Nat)(hl:Value)(q:A1)(r:Bool×A1)(h:Mu F q=some r):Fn Tryz.prog GE 118 [rP he 0] [.blk he [rS q.fS,Al q.fAt,rv hl,rB q.fGreat] 106,.row hl 54 4 (A0 Ab q.fCells)] (λR H=>∃w0_2:Value,R=rB r.1∧H=[.blk he [rS r.2.fS,Al r.2.fAt,rv w0_2,rB r.2.fGreat] 106,.row w0_2 54 4 (A0 Ab r.2.fCells)]):=by
 refine enter (n:=75) Tryz.func118 rfl Tryz.ntmps118 rfl (λw Z=>?_);unfold Mu at h;refine Ae (wa rfl (Ak (BO (S:=(Av×Int×(List Aa)×Bool)×(Value)) (λσ=>D0 σ.1.1 σ.1.2.1 σ.1.2.2.1 σ.1.2.2.2=some r) (λσ=>[]) (λσ=>[.blk he [rS σ.1.1,Al σ.1.2.1,rv σ.2,rB σ.1.2.2.2] 106,.row σ.2 54 4 (A0 Ab σ.1.2.2.1)]) ?_ ?_)))
 ·refine A3 (Ae (wm rfl (ob h λhf hy hz=>DN (Hr:=[]) Gr (Dj he hl q ([110,117,108,108]:Av) hf hy) rfl (Yu _) rfl ?_)));rintro _ _ ⟨h0,rfl,rfl⟩;refine wa rfl (Ak (cz hz rfl (λh1 h2=>?_) (λh1 h3=>?_)))
  ·refine Aj (wm rfl (wm rfl (wv (AA rfl) (vF B1 rfl Cg (vL 0 CE rfl (wv (r:=B8 [Al 1,Al 0,rS ([]:Av),Al 0]) (GL rfl rfl) (AX (ys:=([(Aa.mk 1 0 ([]:Av) 0)]:List Aa)) (enc:=Ab) (css:=[[Al 1,Al 0,rS ([]:Av),Al 0]]) (xs:=[.tmp 15]) Br Bz GX rfl rfl rfl ⟨Ep.agg ⟨Up.refl _,Up.refl _,Up.refl _,Up.refl _,trivial⟩,trivial⟩ rfl Bi rfl rfl rfl (λho=>?_))))))));refine ck h2 λh4 h5=>Exists.elim G2 λinf hinf=>BZ (xs:=hf.2.fCells) (ys:=([(Aa.mk 1 0 ([]:Av) 0)]:List Aa)) (enc:=Ab) (i:=2) Br hinf.1 hinf.2.1 hinf.2.2.1 hinf.2.2.2 rfl rfl rfl rfl rfl (JF.w (i:=0) rfl rfl) Bi Cv h4 rfl (λhh=>?_);exact wv (AA rfl) (vF B1 rfl Cg (BA (i:=2) Cg rfl rfl (CP (i:=0) rfl) rfl rfl (cs':=[rS hf.2.fS,Al hf.2.fAt,rv hh,rB hf.2.fGreat]) rfl (H':=[.row hh 54 4 (A0 Ab (hf.2.fCells++([(Aa.mk 1 0 ([]:Av) 0)]:List Aa))),.row (.slice (some ⟨ho,0,none⟩) 1 1) 54 4 (A0 Ab ([(Aa.mk 1 0 ([]:Av) 0)]:List Aa)),.blk he [rS hf.2.fS,Al hf.2.fAt,rv hh,rB hf.2.fGreat] 106]) rfl (Ai (A2 (C6 (H2:=[.blk he [rS hf.2.fS,Al hf.2.fAt,rv hh,rB hf.2.fGreat] 106,.row hh 54 4 (A0 Ab (hf.2.fCells++([(Aa.mk 1 0 ([]:Av) 0)]:List Aa))),.row (.slice (some ⟨ho,0,none⟩) 1 1) 54 4 (A0 Ab ([(Aa.mk 1 0 ([]:Av) 0)]:List Aa))]) ((A4 (i:=2) rfl).trans (Yw _ (Yu _))) (Au (Ar ((hf.2.fS,hf.2.fAt,hf.2.fCells++([(Aa.mk 1 0 ([]:Av) 0)]:List Aa),hf.2.fGreat),hh) h5 Az.nil (sC (sC (sS sN))))))))))
  ·refine Ae (wm rfl (ob h3 λhg h6 h7=>DN (Hr:=[]) Gr (Dj he h0 hf.2 ([116,114,117,101]:Av) hg h6) rfl (Yu _) rfl ?_));rintro _ _ ⟨v76,rfl,rfl⟩;refine wa rfl (Ak (cz h7 rfl (λh8 h9=>?_) (λh8 hA=>?_)))
   ·refine Aj (wm rfl (wm rfl (wv (AA rfl) (vF B1 rfl Cg (vL 0 CE rfl (wv (r:=B8 [Al 2,Al 1,rS ([]:Av),Al 0]) (DU rfl rfl rfl rfl) (AX (ys:=([(Aa.mk 2 1 ([]:Av) 0)]:List Aa)) (enc:=Ab) (css:=[[Al 2,Al 1,rS ([]:Av),Al 0]]) (xs:=[.tmp 28]) Br Bz GX rfl rfl rfl ⟨Ep.agg ⟨Up.refl _,Up.refl _,Up.refl _,Up.refl _,trivial⟩,trivial⟩ rfl Bi rfl rfl rfl (λhp=>?_))))))));refine ck h9 λhB hC=>Exists.elim G2 λinf hinf=>BZ (xs:=hg.2.fCells) (ys:=([(Aa.mk 2 1 ([]:Av) 0)]:List Aa)) (enc:=Ab) (i:=2) Br hinf.1 hinf.2.1 hinf.2.2.1 hinf.2.2.2 rfl rfl rfl rfl rfl (JF.w (i:=0) rfl rfl) Bi Cv hB rfl (λv80=>?_);exact wv (AA rfl) (vF B1 rfl Cg (BA (i:=2) Cg rfl rfl (CP (i:=0) rfl) rfl rfl (cs':=[rS hg.2.fS,Al hg.2.fAt,rv v80,rB hg.2.fGreat]) rfl (H':=[.row v80 54 4 (A0 Ab (hg.2.fCells++([(Aa.mk 2 1 ([]:Av) 0)]:List Aa))),.row (.slice (some ⟨hp,0,none⟩) 1 1) 54 4 (A0 Ab ([(Aa.mk 2 1 ([]:Av) 0)]:List Aa)),.blk he [rS hg.2.fS,Al hg.2.fAt,rv v80,rB hg.2.fGreat] 106]) rfl (Ai (A2 (C6 (H2:=[.blk he [rS hg.2.fS,Al hg.2.fAt,rv v80,rB hg.2.fGreat] 106,.row v80 54 4 (A0 Ab (hg.2.fCells++([(Aa.mk 2 1 ([]:Av) 0)]:List Aa))),.row (.slice (some ⟨hp,0,none⟩) 1 1) 54 4 (A0 Ab ([(Aa.mk 2 1 ([]:Av) 0)]:List Aa))]) ((A4 (i:=2) rfl).trans (Yw _ (Yu _))) (Au (Ar ((hg.2.fS,hg.2.fAt,hg.2.fCells++([(Aa.mk 2 1 ([]:Av) 0)]:List Aa),hg.2.fGreat),v80) hC Az.nil (sC (sC (sS sN))))))))))
   ·refine Ae (wm rfl (ob hA λhb hD hE=>DN (Hr:=[]) Gr (Dj he v76 hg.2 ([102,97,108,115,101]:Av) hb hD) rfl (Yu _) rfl ?_));rintro _ _ ⟨hq,rfl,rfl⟩;refine wa rfl (Ak (cz hE rfl (λhG hH=>?_) (λhG hI=>?_)))
    ·refine Aj (wm rfl (wm rfl (wv (AA rfl) (vF B1 rfl Cg (vL 0 CE rfl (wv (r:=B8 [Al 2,Al 0,rS ([]:Av),Al 0]) (GL rfl rfl) (AX (ys:=([(Aa.mk 2 0 ([]:Av) 0)]:List Aa)) (enc:=Ab) (css:=[[Al 2,Al 0,rS ([]:Av),Al 0]]) (xs:=[.tmp 41]) Br Bz GX rfl rfl rfl ⟨Ep.agg ⟨Up.refl _,Up.refl _,Up.refl _,Up.refl _,trivial⟩,trivial⟩ rfl Bi rfl rfl rfl (λhr=>?_))))))));refine ck hH λhJ hK=>Exists.elim G2 λinf hinf=>BZ (xs:=hb.2.fCells) (ys:=([(Aa.mk 2 0 ([]:Av) 0)]:List Aa)) (enc:=Ab) (i:=2) Br hinf.1 hinf.2.1 hinf.2.2.1 hinf.2.2.2 rfl rfl rfl rfl rfl (JF.w (i:=0) rfl rfl) Bi Cv hJ rfl (λhi=>?_);exact wv (AA rfl) (vF B1 rfl Cg (BA (i:=2) Cg rfl rfl (CP (i:=0) rfl) rfl rfl (cs':=[rS hb.2.fS,Al hb.2.fAt,rv hi,rB hb.2.fGreat]) rfl (H':=[.row hi 54 4 (A0 Ab (hb.2.fCells++([(Aa.mk 2 0 ([]:Av) 0)]:List Aa))),.row (.slice (some ⟨hr,0,none⟩) 1 1) 54 4 (A0 Ab ([(Aa.mk 2 0 ([]:Av) 0)]:List Aa)),.blk he [rS hb.2.fS,Al hb.2.fAt,rv hi,rB hb.2.fGreat] 106]) rfl (Ai (A2 (C6 (H2:=[.blk he [rS hb.2.fS,Al hb.2.fAt,rv hi,rB hb.2.fGreat] 106,.row hi 54 4 (A0 Ab (hb.2.fCells++([(Aa.mk 2 0 ([]:Av) 0)]:List Aa))),.row (.slice (some ⟨hr,0,none⟩) 1 1) 54 4 (A0 Ab ([(Aa.mk 2 0 ([]:Av) 0)]:List Aa))]) ((A4 (i:=2) rfl).trans (Yw _ (Yu _))) (Au (Ar ((hb.2.fS,hb.2.fAt,hb.2.fCells++([(Aa.mk 2 0 ([]:Av) 0)]:List Aa),hb.2.fGreat),hi) hK Az.nil (sC (sC (sS sN))))))))))
    ·refine Am (ck hI λhL hN=>ob hN λhm hO hP=>C8 [0] [⟨[],rP he 0,0⟩,⟨[0],rP he 0,0⟩,⟨[1],rP he 0,0⟩,⟨[2],rS hb.2.fS,1⟩,⟨[],rP he 0,0⟩,⟨[4],rP he 0,0⟩,⟨[5],rP he 1,0⟩,⟨[6],Al hb.2.fAt,1⟩,⟨[3,7],rS (List.drop (By hb.2.fAt) hb.2.fS),0⟩,⟨[8],rB hm,0⟩,⟨[9],rB hm,0⟩] [46,0] ?_ ?_)
     ·refine oq (A6 rfl) (oq (AA rfl) (oq (AG B1 rfl C7 rfl rfl) (of (Bm (i:=0) CD rfl rfl rfl) (oq (A6 rfl) (oq (AA rfl) (oq (AG B1 rfl B9 rfl rfl) (of (Bm (i:=0) BN rfl rfl rfl) (oq (Id Dz rfl rfl hL) (D7 rfl (λH=>E6 Tryz.call98 (GQ (List.drop (By hb.2.fAt) hb.2.fS) ([34]:Av) hm hO) rfl) ?_)))))))));refine oq (AE rfl) ?_;exact Ct
     refine A7 (cz hP rfl (λhQ hR=>?_) (λhQ hS=>?_))
     ·refine Ae (wm rfl (ob hR λha hT hU=>DN (Hr:=[]) Tryz.call119 (Rr F he hq hb.2 ha hT) rfl (Yu _) rfl ?_));rintro _ _ ⟨hV,rfl,rfl⟩;refine wm rfl (wv (A8 rfl rfl) (wv (A8 rfl rfl) (wa rfl (wa rfl (Ak (Am (Ae (wm rfl (wv (B4 rfl) (Ak (cz hU rfl (λhW hX=>?_) (λhW hY=>?_))))))))))))
      ·refine Ae (wa rfl (Ak (Ap (Ac (At (Ac ?_))))));obtain rfl:=An hX;exact Ao (Bo Tryz.results118 (A5 rfl)) (sC (sC sN)) ⟨hV,rfl,rfl⟩
      ·refine Aq (A7 (Aj (wm rfl (wm rfl (wv (AA rfl) (vF B1 rfl Cg (vL 0 CE rfl (wm rfl (wv (r:=B8 [Al 4,Al 0,rS ha.1,Al 0]) (DT rfl rfl rfl rfl) (AX (ys:=([(Aa.mk 4 0 ha.1 0)]:List Aa)) (enc:=Ab) (css:=[[Al 4,Al 0,rS ha.1,Al 0]]) (xs:=[.tmp 70]) Br Bz GX rfl rfl rfl ⟨Ep.agg ⟨Up.refl _,Up.refl _,Up.refl _,Up.refl _,trivial⟩,trivial⟩ rfl Bi rfl rfl rfl (λhs=>?_)))))))))));refine ck hY λhZ ga=>Exists.elim G2 λinf hinf=>BZ (xs:=ha.2.2.fCells) (ys:=([(Aa.mk 4 0 ha.1 0)]:List Aa)) (enc:=Ab) (i:=2) Br hinf.1 hinf.2.1 hinf.2.2.1 hinf.2.2.2 rfl rfl rfl rfl rfl (JF.w (i:=0) rfl rfl) Bi Cv hZ rfl (λhj=>?_);exact wv (AA rfl) (vF B1 rfl Cg (BA (i:=2) Cg rfl rfl (CP (i:=0) rfl) rfl rfl (cs':=[rS ha.2.2.fS,Al ha.2.2.fAt,rv hj,rB ha.2.2.fGreat]) rfl (H':=[.row hj 54 4 (A0 Ab (ha.2.2.fCells++([(Aa.mk 4 0 ha.1 0)]:List Aa))),.row (.slice (some ⟨hs,0,none⟩) 1 1) 54 4 (A0 Ab ([(Aa.mk 4 0 ha.1 0)]:List Aa)),.blk he [rS ha.2.2.fS,Al ha.2.2.fAt,rv hj,rB ha.2.2.fGreat] 106]) rfl (Ai (A2 (C6 (H2:=[.blk he [rS ha.2.2.fS,Al ha.2.2.fAt,rv hj,rB ha.2.2.fGreat] 106,.row hj 54 4 (A0 Ab (ha.2.2.fCells++([(Aa.mk 4 0 ha.1 0)]:List Aa))),.row (.slice (some ⟨hs,0,none⟩) 1 1) 54 4 (A0 Ab ([(Aa.mk 4 0 ha.1 0)]:List Aa))]) ((A4 (i:=2) rfl).trans (Yw _ (Yu _))) (Au (Ar ((ha.2.2.fS,ha.2.2.fAt,ha.2.2.fCells++([(Aa.mk 4 0 ha.1 0)]:List Aa),ha.2.2.fGreat),hj) ga Az.nil (sC (sC (sS sN))))))))))
     ·refine Ae (wm rfl (ob hS λgb gc gd=>DN (Hr:=[]) Tryz.call144 (Vl F he hq hb.2 gb gc) rfl (Yu _) rfl ?_));rintro _ _ ⟨ge,rfl,rfl⟩;refine wa rfl (Ak (Ap (At (Ac ?_))));obtain rfl:=An gd;exact Ao (Bo Tryz.results118 (A5 rfl)) (sC (sC sN)) ⟨ge,rfl,rfl⟩
 ·rintro⟨⟨ht,hu,hw,hx⟩,hn⟩ hk;refine Bs (l':=[]) (H':=[.blk he [rS ht,Al hu,rv hn,rB hx] 106,.row hn 54 4 (A0 Ab hw)]) rfl rfl ?_;replace hk:D0 ht hu hw hx=some r:=hk;unfold D0 at hk;refine Ae (wa rfl (Ak (Ap ?_)));obtain rfl:=An hk;exact Ao (Bo Tryz.results118 (A5 rfl)) (sC (sC sN)) ⟨hn,rfl,rfl⟩
theorem Qv (F:Nat)(hj:A1→Option (Bool×A1))(gc:(∀(hb:Nat) (hs:Value) (q:A1) (r:Bool×A1),hj q=some r→Fn Tryz.prog GE 89 [rP hb 0] [.blk hb [rS q.fS,Al q.fAt,rv hs,rB q.fGreat] 106,.row hs 54 4 (A0 Ab q.fCells)] (λR H=>∃w0_2:Value,R=rB r.1∧H=[.blk hb [rS r.2.fS,Al r.2.fAt,rv w0_2,rB r.2.fGreat] 106,.row w0_2 54 4 (A0 Ab r.2.fCells)])))(hb:Nat)(hs:Value)(q:A1)(r:Bool×A1)(h:Mr F hj q=some r):Fn Tryz.prog GE 89 [rP hb 0] [.blk hb [rS q.fS,Al q.fAt,rv hs,rB q.fGreat] 106,.row hs 54 4 (A0 Ab q.fCells)] (λR H=>∃w0_2:Value,R=rB r.1∧H=[.blk hb [rS r.2.fS,Al r.2.fAt,rv w0_2,rB r.2.fGreat] 106,.row w0_2 54 4 (A0 Ab r.2.fCells)]):=by
 refine enter (n:=96) Tryz.func89 rfl Tryz.ntmps89 rfl (λw Z=>?_);unfold Mr at h;refine Ae (wa rfl (Bc (wm rfl (ob h λr1 e3 h2=>DN (Hr:=[]) Gr (Dj hb hs q ([91]:Av) r1 e3) rfl (Yu _) rfl ?_))));rintro _ _ ⟨v4,rfl,rfl⟩;refine wa rfl (Ak (Am (BO (S:=(Bool×Av×Int×(List Aa)×Bool)×(Value)) (λσ=>Gt F hj r1 σ.1.1 σ.1.2.1 σ.1.2.2.1 σ.1.2.2.2.1 σ.1.2.2.2.2=some r) (λσ=>[(0,rP hb 0),(2,rB false),(3,rB r1.1),(19,rB σ.1.1)]) (λσ=>[.blk hb [rS σ.1.2.1,Al σ.1.2.2.1,rv σ.2,rB σ.1.2.2.2.2] 106,.row σ.2 54 4 (A0 Ab σ.1.2.2.2.1)]) ?_ ?_)))
 ·refine Aj (wm rfl (wv (B4 rfl) (wm rfl (bz h2 (λhk gu=>?_) (λhk gv=>?_)))))
  ·refine wo hk (wm rfl (wo hk (ob gu λht gw gx=>DN (Hr:=[]) Gr (Dj hb v4 r1.2 ([123]:Av) ht gw) rfl (Yu _) rfl ?_)));rintro _ _ ⟨gy,rfl,rfl⟩;exact wo hk (wv (B4 rfl) (Cj rfl hk rfl (Ai (Au (Ar ((!ht.1,ht.2.fS,ht.2.fAt,ht.2.fCells,ht.2.fGreat),gy) gx (Az.c rfl (Az.c rfl (Az.c rfl (Az.c rfl Az.nil)))) (sC (sC sN)))))))
  ·exact wf hk (wf hk (wf hk (wv (r:=rB false) (Aw rfl hk rfl) (Ai (Au (Ar ((false,r1.2.fS,r1.2.fAt,r1.2.fCells,r1.2.fGreat),v4) gv (Az.c rfl (Az.c rfl (Az.c rfl (Az.c rfl Az.nil)))) (sC (sC sN))))))))
 ·rintro⟨⟨gd,hl,hm,he,hn⟩,hK⟩ hA;refine Bs (l':=[(0,rP hb 0),(2,rB false),(3,rB r1.1),(19,rB gd)]) (H':=[.blk hb [rS hl,Al hm,rv hK,rB hn] 106,.row hK 54 4 (A0 Ab he)]) rfl rfl ?_;replace hA:Gt F hj r1 gd hl hm he hn=some r:=hA;unfold Gt at hA;refine cz hA rfl (λgz g0=>?_) (λgz g1=>?_)
  ·refine Ae (wm rfl (ob g0 λg2 g3 g4=>DN (Hr:=[]) Tryz.call118 (Qw F hb hK (A1.mk hl hm he hn) g2 g3) rfl (Yu _) rfl ?_));rintro _ _ ⟨g5,rfl,rfl⟩;refine wa rfl (Ak (Ap (Ac ?_)));obtain rfl:=An g4;exact Ao (Bo Nm (A5 rfl)) (sC (sC sN)) ⟨g5,rfl,rfl⟩
  ·refine Aq (A7 (Ae (wa rfl (wv (r:=rS ([125]:Av)) (AE rfl) (Ak (Am (Ae (wm rfl (Ak (cz g1 rfl (λhL g6=>?_) (λhL g7=>?_)))))))))))
   ·refine Aj (wa rfl (wv (r:=rS ([93]:Av)) (AE rfl) (Bc (wm rfl (wv (AA rfl) (vF B1 rfl Cg (vL 0 CE rfl (wv (DS (ys:=he) (enc:=Ab) (i:=1) Br rfl rfl) (wa rfl (Bc (wm rfl (wm rfl (wv (AA rfl) (vF B1 rfl Cg (vL 0 CE rfl (wm rfl (wv (r:=B8 [Al 5,Al 0,rS ([]:Av),Al 0]) (GL rfl rfl) (AX (ys:=([(Aa.mk 5 0 ([]:Av) 0)]:List Aa)) (enc:=Ab) (css:=[[Al 5,Al 0,rS ([]:Av),Al 0]]) (xs:=[.tmp 34]) Br Bz GX rfl rfl rfl ⟨Ep.agg ⟨Up.refl _,Up.refl _,Up.refl _,Up.refl _,trivial⟩,trivial⟩ rfl Bi rfl rfl rfl (λge=>?_)))))))))))))))))));refine ck g6 λg8 g9=>Exists.elim G2 λinf hinf=>BZ (xs:=he) (ys:=([(Aa.mk 5 0 ([]:Av) 0)]:List Aa)) (enc:=Ab) (i:=2) Br hinf.1 hinf.2.1 hinf.2.2.1 hinf.2.2.2 rfl rfl rfl rfl rfl (JF.w (i:=0) rfl rfl) Bi Cv g8 rfl (λv37=>?_);refine wv (AA rfl) (vF B1 rfl Cg (BA (i:=2) Cg rfl rfl (CP (i:=0) rfl) rfl rfl (cs':=[rS hl,Al hm,rv v37,rB hn]) rfl (H':=[.row v37 54 4 (A0 Ab (he++([(Aa.mk 5 0 ([]:Av) 0)]:List Aa))),.row (.slice (some ⟨ge,0,none⟩) 1 1) 54 4 (A0 Ab ([(Aa.mk 5 0 ([]:Av) 0)]:List Aa)),.blk hb [rS hl,Al hm,rv v37,rB hn] 106]) rfl (Ak (Am (Ae (wm rfl (wm rfl (ob g9 λhy gA gB=>DN (Hr:=[.row (.slice (some ⟨ge,0,none⟩) 1 1) 54 4 (A0 Ab ([(Aa.mk 5 0 ([]:Av) 0)]:List Aa))]) Gr (Dj hb v37 (A1.mk hl hm (he++([(Aa.mk 5 0 ([]:Av) 0)]:List Aa)) hn) ([93]:Av) hy gA) rfl ((A4 (i:=2) rfl).trans (Yw _ (Yu _))) rfl ?_))))))));rintro _ _ ⟨gf,rfl,rfl⟩;refine Ak (cz gB rfl (λgC gD=>?_) (λgC gE=>?_))
    ·refine Ae (wa rfl (Ak (Ap (Ac ?_))));obtain rfl:=An gD;exact Ao (Bo Nm (A5 rfl)) (sC (sC (sS sN))) ⟨gf,rfl,rfl⟩
    ·refine Aq (A7 (Ae (wv (r:=rS ([]:Av)) (AE rfl) (Bc (wa rfl (Ak (A3 (ob gE λgF gG hN=>Bb (S:=Nat×(Int×Av×Int×(List Aa)×Bool)×(Value)) (V:=(Unit)×(Unit)) 0 (λσ=>BG (λσ=>HQ hj he σ.1 σ.2.1 σ.2.2.1 σ.2.2.2.1 σ.2.2.2.2) σ.1 σ.2.1=some gF) (λσ=>[(0,rP hb 0),(2,rB false),(3,rB r1.1),(5,rS ([93]:Av)),(6,Al (he.length:Int)),(7,rS ([]:Av)),(8,Al σ.2.1.1)]) (λσ=>[.blk hb [rS σ.2.1.2.1,Al σ.2.1.2.2.1,rv σ.2.2,rB σ.2.1.2.2.2.2] 106,.row σ.2.2 54 4 (A0 Ab σ.2.1.2.2.2.1)]) (λσ=>σ.1) (F,(1,hy.2.fS,hy.2.fAt,hy.2.fCells,hy.2.fGreat),gf) gG (Az.c rfl (Az.c rfl (Az.c5 rfl rfl rfl rfl rfl Az.nil))) (sC (sC (sS sN))) (λσ=>Mt =some r) (λσ=>[]) (λσ=>[]) ?_ ?_))))))))
     ·rintro⟨xg,⟨hz,hO,hP,hQ,hR⟩,hS⟩ gH;refine Bs (l':=[(0,rP hb 0),(2,rB false),(3,rB r1.1),(5,rS ([93]:Av)),(6,Al (he.length:Int)),(7,rS ([]:Av)),(8,Al hz)]) (H':=[.blk hb [rS hO,Al hP,rv hS,rB hR] 106,.row hS 54 4 (A0 Ab hQ)]) rfl rfl ?_;obtain⟨gI,rfl,gJ,hB,hC⟩:=BF gH;replace hB:HQ hj he hz hO hP hQ hR=some gJ:=hB;unfold HQ at hB;refine Am (A3 (Am (Ae (wm rfl (wv (B4 rfl) (Ak (Hl rfl (X3 hL) (Aq (A7 (Am (Ae (wm rfl (ob hB λhf gK gL=>DN (Hr:=[]) Tryz.call89 (gc hb hS (A1.mk hO hP hQ hR) hf gK) rfl (Yu _) rfl ?_)))))))))))));rintro _ _ ⟨hu,rfl,rfl⟩;refine wv (B4 rfl) (Ak (cz gL rfl (λgM gN=>?_) (λgM gO=>?_)))
      ·refine Ae (wa rfl (Ak (Ap (Ac (At (Ac (Ac (AM ?_))))))));have gP:=Bg gN hC hN;refine At ?_;obtain rfl:=An gP;exact Ao (Bo Nm (A5 rfl)) (sC (sC sN)) ⟨hu,rfl,rfl⟩
      ·refine Aq (A7 (Ae (wm rfl (wv (AA rfl) (vF B1 rfl Cg (vL 0 CE rfl (wm rfl (wm rfl (ck gO λhT gQ=>wv (r:=rv (ER 4 hu (By (he.length:Int)) 0)) (KU (i:=1) Br Bz rfl rfl rfl (Ca hT)) (wv (r:=rv (ER 4 hu (By (he.length:Int)) 3)) (Ex (k:=1) Bl rfl B9 rfl (Ca hT) rfl rfl rfl) (I9 (enc:=Ab) (ys:=hf.2.fCells) (y':=(Aa.mk ((Ax hf.2.fCells (he.length:Int)).fKind) ((Ax hf.2.fCells (he.length:Int)).fInt) ((Ax hf.2.fCells (he.length:Int)).fStr) hz)) (i:=1) (j:=(he.length:Int)) B9 rfl rfl (BS rfl) rfl hT rfl rfl (H':=[.blk hb [rS hf.2.fS,Al hf.2.fAt,rv hu,rB hf.2.fGreat] 106,.row hu 54 4 (A0 Ab (List.set hf.2.fCells (By (he.length:Int)) (Aa.mk ((Ax hf.2.fCells (he.length:Int)).fKind) ((Ax hf.2.fCells (he.length:Int)).fInt) ((Ax hf.2.fCells (he.length:Int)).fStr) hz)))]) rfl (bd gQ λgR gS gT=>?_))))))))))));rw[← gS];refine Ak (Am (Ae (wm rfl (wm rfl (ob gT λgg gU gV=>DN (Hr:=[]) Gr (Dj hb hu (A1.mk hf.2.fS hf.2.fAt gR hf.2.fGreat) ([93]:Av) gg gU) rfl (Yu _) rfl ?_)))));rintro _ _ ⟨gh,rfl,rfl⟩;refine Ak (cz gV rfl (λc167 gW=>?_) (λc167 gX=>?_))
       ·refine Ae (wa rfl (Ak (Ap (Ac (At (Ac (Ac (AM ?_))))))));have gY:=Bg gW hC hN;refine At ?_;obtain rfl:=An gY;exact Ao (Bo Nm (A5 rfl)) (sC (sC sN)) ⟨gh,rfl,rfl⟩
       ·refine Aq (A7 (Ae (wm rfl (ob gX λh0 gZ ca=>DN (Hr:=[]) Gr (Dj hb gh gg.2 ([44]:Av) h0 gZ) rfl (Yu _) rfl ?_))));rintro _ _ ⟨gi,rfl,rfl⟩;refine wv (B4 rfl) (Ak (cz ca rfl (λc175 cb=>?_) (λc175 cc=>?_)))
        ·refine Ae (wa rfl (Ak (Ap (At (Ac (Ac (AM ?_)))))));have cd:=Bg cb hC hN;refine At ?_;obtain rfl:=An cd;exact Ao (Bo Nm (A5 rfl)) (sC (sC sN)) ⟨gi,rfl,rfl⟩
        ·refine Aq (A2 (A7 (Aj (wm rfl (ck cc λce cf=>wv (Bd rfl rfl ce) (wa rfl (Ai ?_)))))));have cg:=AW cf hC;exact Au (Ar (gI,(hz+1,h0.2.fS,h0.2.fAt,h0.2.fCells,h0.2.fGreat),gi) ⟨cg,Yy _⟩ (Az.c rfl (Az.c rfl (Az.c5 rfl rfl rfl rfl rfl Az.nil))) (sC (sC sN)))
     ·rintro⟨⟨⟩,⟨⟩⟩ ch
      cases ch
   ·refine Aq (A7 (Ae (wm rfl (wv (AA rfl) (vF B1 rfl Cg (vL 0 CE rfl (wv (DS (ys:=he) (enc:=Ab) (i:=1) Br rfl rfl) (wa rfl (Bc (wm rfl (wm rfl (wv (AA rfl) (vF B1 rfl Cg (vL 0 CE rfl (wm rfl (wv (r:=B8 [Al 6,Al 0,rS ([]:Av),Al 0]) (GL rfl rfl) (AX (ys:=([(Aa.mk 6 0 ([]:Av) 0)]:List Aa)) (enc:=Ab) (css:=[[Al 6,Al 0,rS ([]:Av),Al 0]]) (xs:=[.tmp 34]) Br Bz GX rfl rfl rfl ⟨Ep.agg ⟨Up.refl _,Up.refl _,Up.refl _,Up.refl _,trivial⟩,trivial⟩ rfl Bi rfl rfl rfl (λgj=>?_))))))))))))))))));refine ck g7 λci cj=>Exists.elim G2 λinf hinf=>BZ (xs:=he) (ys:=([(Aa.mk 6 0 ([]:Av) 0)]:List Aa)) (enc:=Ab) (i:=2) Br hinf.1 hinf.2.1 hinf.2.2.1 hinf.2.2.2 rfl rfl rfl rfl rfl (JF.w (i:=0) rfl rfl) Bi Cv ci rfl (λhD=>?_);refine wv (AA rfl) (vF B1 rfl Cg (BA (i:=2) Cg rfl rfl (CP (i:=0) rfl) rfl rfl (cs':=[rS hl,Al hm,rv hD,rB hn]) rfl (H':=[.row hD 54 4 (A0 Ab (he++([(Aa.mk 6 0 ([]:Av) 0)]:List Aa))),.row (.slice (some ⟨gj,0,none⟩) 1 1) 54 4 (A0 Ab ([(Aa.mk 6 0 ([]:Av) 0)]:List Aa)),.blk hb [rS hl,Al hm,rv hD,rB hn] 106]) rfl (Ak (Am (Ae (wm rfl (wm rfl (ob cj λh1 cl cm=>DN (Hr:=[.row (.slice (some ⟨gj,0,none⟩) 1 1) 54 4 (A0 Ab ([(Aa.mk 6 0 ([]:Av) 0)]:List Aa))]) Gr (Dj hb hD (A1.mk hl hm (he++([(Aa.mk 6 0 ([]:Av) 0)]:List Aa)) hn) ([125]:Av) h1 cl) rfl ((A4 (i:=2) rfl).trans (Yw _ (Yu _))) rfl ?_))))))));rintro _ _ ⟨gl,rfl,rfl⟩;refine Ak (cz cm rfl (λcn co=>?_) (λcn cp=>?_))
    ·refine Ae (wa rfl (Ak (Ap (Ac ?_))));obtain rfl:=An co;exact Ao (Bo Nm (A5 rfl)) (sC (sC (sS sN))) ⟨gl,rfl,rfl⟩
    ·refine Aq (A7 (Ae (wv (r:=rS ([]:Av)) (AE rfl) (Bc (wa rfl (Ak (A3 (ob cp λcq cr hE=>Bb (S:=Nat×(Av×Int×Av×Int×(List Aa)×Bool)×(Value)) (V:=(Unit)×(Unit)) 0 (λσ=>BG (λσ=>HP F hj he σ.1 σ.2.1 σ.2.2.1 σ.2.2.2.1 σ.2.2.2.2.1 σ.2.2.2.2.2) σ.1 σ.2.1=some cq) (λσ=>[(0,rP hb 0),(2,rB false),(3,rB r1.1),(5,rS ([125]:Av)),(6,Al (he.length:Int)),(7,rS σ.2.1.1),(8,Al σ.2.1.2.1)]) (λσ=>[.blk hb [rS σ.2.1.2.2.1,Al σ.2.1.2.2.2.1,rv σ.2.2,rB σ.2.1.2.2.2.2.2] 106,.row σ.2.2 54 4 (A0 Ab σ.2.1.2.2.2.2.1)]) (λσ=>σ.1) (F,(([]:Av),1,h1.2.fS,h1.2.fAt,h1.2.fCells,h1.2.fGreat),gl) cr (Az.c rfl (Az.c rfl (Az.c5 rfl rfl rfl rfl rfl Az.nil))) (sC (sC (sS sN))) (λσ=>Ms =some r) (λσ=>[]) (λσ=>[]) ?_ ?_))))))))
     ·rintro⟨xh,⟨hi,ho,hU,hV,hW,hX⟩,hY⟩ cs;refine Bs (l':=[(0,rP hb 0),(2,rB false),(3,rB r1.1),(5,rS ([125]:Av)),(6,Al (he.length:Int)),(7,rS hi),(8,Al ho)]) (H':=[.blk hb [rS hU,Al hV,rv hY,rB hX] 106,.row hY 54 4 (A0 Ab hW)]) rfl rfl ?_;obtain⟨ct,rfl,hZ,hG,h3⟩:=BF cs;replace hG:HP F hj he hi ho hU hV hW hX=some hZ:=hG;unfold HP at hG;refine Am (A3 (Am (Ae (wm rfl (wv (B4 rfl) (Ak (DD rfl (X4 hL) (Ae (wm rfl (ob hG λha cu cv=>DN (Hr:=[]) Tryz.call119 (Rr F hb hY (A1.mk hU hV hW hX) ha cu) rfl (Yu _) rfl ?_))))))))));rintro _ _ ⟨hH,rfl,rfl⟩;refine wm rfl (wv (A8 rfl rfl) (wv (A8 rfl rfl) (wa rfl (wa rfl (Ak (Am (BO (S:=(Bool×Bool×Bool×Av×Int×(List Aa)×Bool)×(Value)) (λσ=>DZ hj he ho ha σ.1.1 σ.1.2.1 σ.1.2.2.1 σ.1.2.2.2.1 σ.1.2.2.2.2.1 σ.1.2.2.2.2.2.1 σ.1.2.2.2.2.2.2=some hZ) (λσ=>[(0,rP hb 0),(2,rB false),(3,rB r1.1),(5,rS ([125]:Av)),(6,Al (he.length:Int)),(7,rS hi),(8,Al ho),(9,rS ha.1),(10,rB ha.2.1),(44,rB r1.1),(45,rB (!r1.1)),(46,Da [rS ha.1,rB ha.2.1]),(47,rP hb 0),(48,Da [rS ha.1,rB ha.2.1]),(49,rS ha.1),(50,rB ha.2.1),(51,rB ha.2.1),(52,rB (!ha.2.1)),(53,rB (!ha.2.1)),(61,rB σ.1.1),(62,rB σ.1.2.1),(66,rB σ.1.2.2.1)]) (λσ=>[.blk hb [rS σ.1.2.2.2.1,Al σ.1.2.2.2.2.1,rv σ.2,rB σ.1.2.2.2.2.2.2] 106,.row σ.2 54 4 (A0 Ab σ.1.2.2.2.2.2.1)]) ?_ ?_)))))))
      ·refine Aj (wm rfl (wv (B4 rfl) (wm rfl (bz cv (λhh cw=>?_) (λhh cx=>?_)))))
       ·exact wf hh (wf hh (wf hh (wu (wu (wu (wf hh (wv (r:=rB true) (Ay rfl hh rfl) (wm rfl (wz rfl rfl (wz rfl rfl (wz rfl rfl (wv (r:=rB true) (Ay (b:=true) rfl rfl rfl) (Ai (Au (Ar ((true,true,true,ha.2.2.fS,ha.2.2.fAt,ha.2.2.fCells,ha.2.2.fGreat),hH) cw (Az.c rfl (Az.c rfl (Az.c5 rfl rfl rfl rfl rfl (Az.c5 rfl rfl rfl rfl rfl (Az.c5 rfl rfl rfl rfl rfl (Az.c5 rfl rfl rfl rfl rfl Az.nil)))))) (sC (sC sN)))))))))))))))))
       ·refine wo hh (wm rfl (wo hh (wv (C3 rfl rfl) (wo hh (wm rfl (bz cx (λhp cy=>?_) (λhp c0=>?_)))))))
        ·refine wo hp (wm rfl (wo hp (wm rfl (wo hp (wv (R3 rfl rfl) (wo hh (Cj rfl hp rfl (Cm rfl hh rfl (wm rfl (bz cy (λhq c1=>?_) (λhq c2=>?_)))))))))))
         ·exact wf hq (wf hq (wf hq (wv (r:=rB true) (Ay rfl hq rfl) (Ai (Au (Ar ((CY ha.1 hi||decide (ha.1=hi),CY ha.1 hi||decide (ha.1=hi),true,ha.2.2.fS,ha.2.2.fAt,ha.2.2.fCells,ha.2.2.fGreat),hH) c1 (Az.c rfl (Az.c rfl (Az.c5 rfl rfl rfl rfl rfl (Az.c5 rfl rfl rfl rfl rfl (Az.c5 rfl rfl rfl rfl rfl (Az.c5 rfl rfl rfl rfl rfl Az.nil)))))) (sC (sC sN))))))))
         ·refine wo hq (wm rfl (wo hq (ob c2 λhw c3 c4=>DN (Hr:=[]) Gr (Dj hb hH ha.2.2 ([58]:Av) hw c3) rfl (Yu _) rfl ?_)));rintro _ _ ⟨c6,rfl,rfl⟩;exact wo hq (wv (B4 rfl) (Cm rfl hq rfl (Ai (Au (Ar ((CY ha.1 hi||decide (ha.1=hi),CY ha.1 hi||decide (ha.1=hi),!hw.1,hw.2.fS,hw.2.fAt,hw.2.fCells,hw.2.fGreat),c6) c4 (Az.c rfl (Az.c rfl (Az.c5 rfl rfl rfl rfl rfl (Az.c5 rfl rfl rfl rfl rfl (Az.c5 rfl rfl rfl rfl rfl (Az.c5 rfl rfl rfl rfl rfl Az.nil)))))) (sC (sC sN)))))))
        ·refine wf hp (wf hp (wf hp (wo hh (wv (r:=rB false) (Aw rfl hp rfl) (Cm rfl hh rfl (wm rfl (AR (b:=false) rfl rfl rfl (wm rfl (AR (b:=false) rfl rfl rfl (ob c0 λhr c7 c8=>DN (Hr:=[]) Gr (Dj hb hH ha.2.2 ([58]:Av) hr c7) rfl (Yu _) rfl ?_))))))))));rintro _ _ ⟨c9,rfl,rfl⟩;exact AR (b:=false) rfl rfl rfl (wv (B4 rfl) (wv (r:=rB (!hr.1)) (Aw (b:=false) rfl rfl rfl) (Ai (Au (Ar ((false,false,!hr.1,hr.2.fS,hr.2.fAt,hr.2.fCells,hr.2.fGreat),c9) c8 (Az.c rfl (Az.c rfl (Az.c5 rfl rfl rfl rfl rfl (Az.c5 rfl rfl rfl rfl rfl (Az.c5 rfl rfl rfl rfl rfl (Az.c5 rfl rfl rfl rfl rfl Az.nil)))))) (sC (sC sN)))))))
      ·rintro⟨⟨gm,gp,gq,h4,h5,h6,h7⟩,ga⟩ hI;refine Bs (l':=[(0,rP hb 0),(2,rB false),(3,rB r1.1),(5,rS ([125]:Av)),(6,Al (he.length:Int)),(7,rS hi),(8,Al ho),(9,rS ha.1),(10,rB ha.2.1),(44,rB r1.1),(45,rB (!r1.1)),(46,Da [rS ha.1,rB ha.2.1]),(47,rP hb 0),(48,Da [rS ha.1,rB ha.2.1]),(49,rS ha.1),(50,rB ha.2.1),(51,rB ha.2.1),(52,rB (!ha.2.1)),(53,rB (!ha.2.1)),(61,rB gm),(62,rB gp),(66,rB gq)]) (H':=[.blk hb [rS h4,Al h5,rv ga,rB h7] 106,.row ga 54 4 (A0 Ab h6)]) rfl rfl ?_;replace hI:DZ hj he ho ha gm gp gq h4 h5 h6 h7=some hZ:=hI;unfold DZ at hI;refine cz hI rfl (λcA cB=>?_) (λcA cC=>?_)
       ·refine Ae (wa rfl (Ak (Ap (Ac (Ac (At (Ac (Ac (AM ?_)))))))));have cD:=Bg cB h3 hE;refine At ?_;obtain rfl:=An cD;exact Ao (Bo Nm (A5 rfl)) (sC (sC sN)) ⟨ga,rfl,rfl⟩
       ·refine Aq (A7 (Ae (wm rfl (wa rfl (Ak (Aj (wm rfl (wm rfl (wv (AA rfl) (vF B1 rfl Cg (vL 0 CE rfl (wm rfl (wv (r:=B8 [Al 4,Al 0,rS ha.1,Al 0]) (DT rfl rfl rfl rfl) (AX (ys:=([(Aa.mk 4 0 ha.1 0)]:List Aa)) (enc:=Ab) (css:=[[Al 4,Al 0,rS ha.1,Al 0]]) (xs:=[.tmp 74]) Br Bz GX rfl rfl rfl ⟨Ep.agg ⟨Up.refl _,Up.refl _,Up.refl _,Up.refl _,trivial⟩,trivial⟩ rfl Bi rfl rfl rfl (λh8=>?_)))))))))))))));refine ck cC λcE cF=>Exists.elim G2 λinf hinf=>BZ (xs:=h6) (ys:=([(Aa.mk 4 0 ha.1 0)]:List Aa)) (enc:=Ab) (i:=2) Br hinf.1 hinf.2.1 hinf.2.2.1 hinf.2.2.2 rfl rfl rfl rfl rfl (JF.w (i:=0) rfl rfl) Bi Cv cE rfl (λhJ=>?_);refine wv (AA rfl) (vF B1 rfl Cg (BA (i:=2) Cg rfl rfl (CP (i:=0) rfl) rfl rfl (cs':=[rS h4,Al h5,rv hJ,rB h7]) rfl (H':=[.row hJ 54 4 (A0 Ab (h6++([(Aa.mk 4 0 ha.1 0)]:List Aa))),.row (.slice (some ⟨h8,0,none⟩) 1 1) 54 4 (A0 Ab ([(Aa.mk 4 0 ha.1 0)]:List Aa)),.blk hb [rS h4,Al h5,rv hJ,rB h7] 106]) rfl (Ak (Am (Ae (wm rfl (ob cF λhg cG cH=>DN (Hr:=[.row (.slice (some ⟨h8,0,none⟩) 1 1) 54 4 (A0 Ab ([(Aa.mk 4 0 ha.1 0)]:List Aa))]) Tryz.call89 (gc hb hJ (A1.mk h4 h5 (h6++([(Aa.mk 4 0 ha.1 0)]:List Aa)) h7) hg cG) rfl ((A4 (i:=2) rfl).trans (Yw _ (Yu _))) rfl ?_)))))));rintro _ _ ⟨hx,rfl,rfl⟩;refine wv (B4 rfl) (Ak (cz cH rfl (λcI cJ=>?_) (λcI cK=>?_)))
        ·refine Ae (wa rfl (Ak (Ap (Ac (At (Ac (Ac (AM ?_))))))));have cL:=Bg cJ h3 hE;refine At ?_;obtain rfl:=An cL;exact Ao (Bo Nm (A5 rfl)) (sC (sC (sS sN))) ⟨hx,rfl,rfl⟩
        ·refine Aq (A7 (Ae (wm rfl (wv (AA rfl) (vF B1 rfl Cg (vL 0 CE rfl (wm rfl (wm rfl (ck cK λgb cM=>wv (r:=rv (ER 4 hx (By (he.length:Int)) 0)) (KU (i:=1) Br Bz rfl rfl rfl (Ca gb)) (wv (r:=rv (ER 4 hx (By (he.length:Int)) 3)) (Ex (k:=1) Bl rfl B9 rfl (Ca gb) rfl rfl rfl) (I9 (enc:=Ab) (ys:=hg.2.fCells) (y':=(Aa.mk ((Ax hg.2.fCells (he.length:Int)).fKind) ((Ax hg.2.fCells (he.length:Int)).fInt) ((Ax hg.2.fCells (he.length:Int)).fStr) ho)) (i:=1) (j:=(he.length:Int)) B9 rfl rfl (BS rfl) rfl gb rfl rfl (H':=[.blk hb [rS hg.2.fS,Al hg.2.fAt,rv hx,rB hg.2.fGreat] 106,.row hx 54 4 (A0 Ab (List.set hg.2.fCells (By (he.length:Int)) (Aa.mk ((Ax hg.2.fCells (he.length:Int)).fKind) ((Ax hg.2.fCells (he.length:Int)).fInt) ((Ax hg.2.fCells (he.length:Int)).fStr) ho))),.row (.slice (some ⟨h8,0,none⟩) 1 1) 54 4 (A0 Ab ([(Aa.mk 4 0 ha.1 0)]:List Aa))]) rfl (bd cM λcN cO cP=>?_))))))))))));rw[← cO];refine Ak (Am (Ae (wm rfl (wm rfl (ob cP λgr cQ cR=>DN (Hr:=[.row (.slice (some ⟨h8,0,none⟩) 1 1) 54 4 (A0 Ab ([(Aa.mk 4 0 ha.1 0)]:List Aa))]) Gr (Dj hb hx (A1.mk hg.2.fS hg.2.fAt cN hg.2.fGreat) ([125]:Av) gr cQ) rfl (Yu _) rfl ?_)))));rintro _ _ ⟨gs,rfl,rfl⟩;refine Ak (cz cR rfl (λcS cT=>?_) (λcS cU=>?_))
         ·refine Ae (wa rfl (Ak (Ap (Ac (At (Ac (Ac (AM ?_))))))));have cV:=Bg cT h3 hE;refine At ?_;obtain rfl:=An cV;exact Ao (Bo Nm (A5 rfl)) (sC (sC (sS sN))) ⟨gs,rfl,rfl⟩
         ·refine Aq (A7 (Ae (wm rfl (ob cU λh9 cW cX=>DN (Hr:=[.row (.slice (some ⟨h8,0,none⟩) 1 1) 54 4 (A0 Ab ([(Aa.mk 4 0 ha.1 0)]:List Aa))]) Gr (Dj hb gs gr.2 ([44]:Av) h9 cW) rfl (Yu _) rfl ?_))));rintro _ _ ⟨gt,rfl,rfl⟩;refine wv (B4 rfl) (Ak (cz cX rfl (λcY cZ=>?_) (λcY xa=>?_)))
          ·refine Ae (wa rfl (Ak (Ap (At (Ac (Ac (AM ?_)))))));have xb:=Bg cZ h3 hE;refine At ?_;obtain rfl:=An xb;exact Ao (Bo Nm (A5 rfl)) (sC (sC (sS sN))) ⟨gt,rfl,rfl⟩
          ·refine Aq (A2 (A7 (Aj (wm rfl (ck xa λxc xd=>wv (Bd rfl rfl xc) (wa rfl (Ai ?_)))))));have xe:=AW xd h3;exact Au (Ar (ct,(ha.1,ho+1,h9.2.fS,h9.2.fAt,h9.2.fCells,h9.2.fGreat),gt) ⟨xe,Yy _⟩ (Az.c rfl (Az.c rfl (Az.c5 rfl rfl rfl rfl rfl Az.nil))) (sC (sC (sS sN))))
     ·rintro⟨⟨⟩,⟨⟩⟩ xf
      cases xf
theorem L0:∀F:Nat,(∀(ha:Nat) (hb:Value) (q:A1) (r:Bool×A1),HR F q=some r→Fn Tryz.prog GE 89 [rP ha 0] [.blk ha [rS q.fS,Al q.fAt,rv hb,rB q.fGreat] 106,.row hb 54 4 (A0 Ab q.fCells)] (λR H=>∃w0_2:Value,R=rB r.1∧H=[.blk ha [rS r.2.fS,Al r.2.fAt,rv w0_2,rB r.2.fGreat] 106,.row w0_2 54 4 (A0 Ab r.2.fCells)]))
  | 0=>(λ_ _ _ _ h=>by simp[HR] at h)
  | nn+1=>(λha hb q r h=>Qv nn (HR nn) (L0 nn) ha hb q r (by rw[HR] at h;exact h))
theorem Sb (F:Nat)(ha:Nat)(hb:Value)(q:A1)(r:Bool×A1)(h:HR F q=some r):Fn Tryz.prog GE 89 [rP ha 0] [.blk ha [rS q.fS,Al q.fAt,rv hb,rB q.fGreat] 106,.row hb 54 4 (A0 Ab q.fCells)] (λR H=>∃w0_2:Value,R=rB r.1∧H=[.blk ha [rS r.2.fS,Al r.2.fAt,rv w0_2,rB r.2.fGreat] 106,.row w0_2 54 4 (A0 Ab r.2.fCells)]):=(L0 F) ha hb q r h
theorem Sg (F:Nat)(s:Av)(r:(List Aa)×Int)(h:Oe F s=some r):Fn Tryz.prog GE 55 [rS s] [] (λR H=>R=Da [AC 4 (A0 Ab r.1),Al r.2]∧H=[]):=by
 refine enter (n:=34) Tryz.func55 rfl Tryz.ntmps55 rfl (λw Z=>?_);unfold Oe at h;refine Ae (wa rfl (wa rfl (Ak (Am (Ae (wm rfl (wv (BQ Dz rfl) (wv (C3 rfl rfl) (Ak (cz h rfl (λc1 h2=>?_) (λc1 h3=>?_)))))))))))
 ·refine Ae (wa rfl (wa rfl (Ak (Ap (Ac (WK.up (d:=2) (r:=AC 4 (A0 Ab ([]:List Aa))) rfl (Up.le (DJ.nil _)) ?_))))));obtain rfl:=An h2;exact Ao (Dq Ve (A5 rfl) (A5 rfl)) sN ⟨rfl,rfl⟩
 ·refine Aq (A7 (Ae (wm rfl (wv (r:=B8 [rS s,Al 0,rv (.slice none 0 0),rB false]) (Ow rfl rfl) (B5 rfl rfl (λb4=>?_))))));refine wa rfl (Ak (Am (BO (S:=(Bool×Av×Int×(List Aa)×Bool)×(Value)) (λσ=>Gu F σ.1.1 σ.1.2.1 σ.1.2.2.1 σ.1.2.2.2.1 σ.1.2.2.2.2=some r) (λσ=>[(2,rv (.slice none 0 0)),(3,Al 0),(4,rP b4 0),(22,rB σ.1.1)]) (λσ=>[.blk b4 [rS σ.1.2.1,Al σ.1.2.2.1,rv σ.2,rB σ.1.2.2.2.2] 106,.row σ.2 54 4 (A0 Ab σ.1.2.2.2.1)]) ?_ ?_)))
  ·refine Aj (wm rfl (WL.nilrow (e:=54) (sz:=4) (ob h3 λhb hl hm=>DN (Hr:=[]) Tryz.call89 (Sb F b4 (.slice none 0 0                                                      ) (A1.mk s 0 ([]:List Aa) false) hb hl) rfl ((A4 (i:=1) rfl).trans (Yw _ (Yu _))) rfl ?_)));rintro _ _ ⟨v21,rfl,rfl⟩;refine wv (B4 rfl) (wm rfl (bz hm (λha hn=>?_) (λha ho=>?_)))
   ·exact wf ha (wf ha (wf ha (wf ha (wf ha (wf ha (wf ha (wv (r:=rB true) (Ay rfl ha rfl) (Ai (Au (Ar ((true,hb.2.fS,hb.2.fAt,hb.2.fCells,hb.2.fGreat),v21) hn (Az.c rfl (Az.c rfl (Az.c rfl (Az.c rfl Az.nil)))) (sC (sC sN))))))))))))
   ·exact wo ha (wm rfl (wo ha (wv (AA rfl) (wo ha (vF B1 rfl B9 (wo ha (vL 0 BN rfl (wo ha (wm rfl (wo ha (wv (BQ Dz rfl) (wo ha (wv (Bk rfl rfl) (Cm rfl ha rfl (Ai (Au (Ar ((!decide (hb.2.fAt=(s.length:Int)),hb.2.fS,hb.2.fAt,hb.2.fCells,hb.2.fGreat),v21) ho (Az.c rfl (Az.c rfl (Az.c rfl (Az.c rfl Az.nil)))) (sC (sC sN)))))))))))))))))))
  ·rintro⟨⟨hg,hh,hi,he,hj⟩,hk⟩ hf;refine Bs (l':=[(2,rv (.slice none 0 0)),(3,Al 0),(4,rP b4 0),(22,rB hg)]) (H':=[.blk b4 [rS hh,Al hi,rv hk,rB hj] 106,.row hk 54 4 (A0 Ab he)]) rfl rfl ?_;replace hf:Gu F hg hh hi he hj=some r:=hf;unfold Gu at hf;refine cz hf rfl (λhp hq=>?_) (λhp hr=>?_)
   ·refine Ae (wa rfl (wa rfl (Ak (Ap (Ac (WK.up (d:=2) (r:=AC 4 (A0 Ab ([]:List Aa))) rfl (Up.le (DJ.nil _)) ?_))))));obtain rfl:=An hq;exact Ao (Dq Ve (A5 rfl) (A5 rfl)) (sS (sS sN)) ⟨rfl,rfl⟩
   ·refine Aq (A7 (Am (Ae (wm rfl (wv (AA rfl) (vF B1 rfl HI (vL 0 Tf rfl (Ak (cz hr rfl (λhs ht=>?_) (λhs hu=>?_))))))))))
    ·refine Ae (wa rfl (wa rfl (Ak (Ap (Ac (WK.up (d:=2) (r:=AC 4 (A0 Ab ([]:List Aa))) rfl (Up.le (DJ.nil _)) ?_))))));obtain rfl:=An ht;exact Ao (Dq Ve (A5 rfl) (A5 rfl)) (sS (sS sN)) ⟨rfl,rfl⟩
    ·refine Aq (A7 (Ae (wm rfl (wv (AA rfl) (vF B1 rfl Cg (vL 0 CE rfl (WL.freeze (i:=1) rfl (WL.up (d:=30) (r:=AC 4 (A0 Ab he)) rfl (Up.fact (i:=0) rfl) (ob hu λhw hx hy=>BM Tryz.call71 (HV F he hw hx) rfl (wv (A8 rfl rfl) (wv (A8 rfl rfl) (wa rfl (wa rfl (Ak (Ap ?_)))))))))))))));obtain rfl:=An hy;exact Ao (Dq Ve (A5 rfl) (A5 rfl)) (sS (sS sN)) ⟨rfl,rfl⟩
end Go.Proofs.YtghdglcmblpbeaaGreatDoor.Q
namespace Go.Proofs.YtghdglcmblpbeaaGreatDoor
open Go
set_option linter.unusedVariables false
def HY (a:(List Aa))(b:(List Aa))(ha:Int):Option (Stp (Int) (Out (Bool) (Unit))):=
 AS (decide (ha<(a.length:Int))) (AY (Cu ha (a.length:Int))<|AY (Cu ha (b.length:Int))<|AS (!(decide (((Ax a ha).fKind)=((Ax b ha).fKind))&&decide (((Ax a ha).fInt)=((Ax b ha).fInt))&&decide (((Ax a ha).fStr)=((Ax b ha).fStr))&&decide (((Ax a ha).fN)=((Ax b ha).fN)))) (some (.out (.ret false))) (AY (BB .i64 (ha+1))<|some (.next (ha+1)))) (some (.out (.go ())))
def HX :Option (Bool):=
 some true
def LQ (F:Nat)(a:(List Aa))(b:(List Aa)):Option (Bool):=
 AS (!decide ((a.length:Int)=(b.length:Int))) (some false) (Be (BG (λσ=>HY a b σ) F 0) (BE λν=>HX ))
def N3 (F:Nat)(a:(List Aa))(b:(List Aa)):Option (Bool):=
 Be (LQ F a b) λr1=>some r1
def Et (a:(List Aa))(b:(List Aa))(ha:Int):Option (Stp (Int) (Out (Bool) (Unit))):=
 AS (decide (ha<(a.length:Int))) (AY (Cu ha (a.length:Int))<|AY (Cu ha (b.length:Int))<|AS (!(decide (((Ax a ha).fKind)=((Ax b ha).fKind))&&decide (((Ax a ha).fInt)=((Ax b ha).fInt))&&decide (((Ax a ha).fStr)=((Ax b ha).fStr))&&decide (((Ax a ha).fN)=((Ax b ha).fN)))) (some (.out (.ret false))) (AY (BB .i64 (ha+1))<|some (.next (ha+1)))) (some (.out (.go ())))
def IB :Option (Bool):=
 some true
def L5 (F:Nat)(a:(List Aa))(b:(List Aa)):Option (Bool):=
 AS (!decide ((a.length:Int)=(b.length:Int))) (some false) (Be (BG (λσ=>Et a b σ) F 0) (BE λν=>IB ))
end Go.Proofs.YtghdglcmblpbeaaGreatDoor
namespace Go.Proofs.YtghdglcmblpbeaaGreatDoor.Q
open Go Go.RowKit
set_option linter.unusedVariables false
set_option linter.unusedSimpArgs false
set_option maxRecDepth 100000
set_option maxHeartbeats 4000000
theorem UW {a0 b0:Int}{a1 b1:Int}{a2 b2:Av}{a3 b3:Int}(w:World):(Op.equalIn 10000 54 (.agg #[.int .i64 a0,.int .i64 a1,.string (B a2),.int .i64 a3]) (.agg #[.int .i64 b0,.int .i64 b1,.string (B b2),.int .i64 b3])).run Tryz.prog w = .ok (decide (a0=b0)&&decide (a1=b1)&&decide (a2=b2)&&decide (a3=b3)) w:=by
  have hS:Tryz.prog.underlying 54=some (.struct (Tryz.prog.fieldsOf 54)):=by kernel_rfl
  have hp:Tryz.prog.stoodInHeld 54=false:=by kernel_rfl
  have u3:=Yc;have ia3:=BN;have so3:=B9;have u9:=Dz;have ia9:=CD;have so9:=C7;have ha:=Tryz.underlying52;have hb:=CA;have he:=C2;rw[show(10000:Nat)=9999+1 from rfl,run_equalIn_agg w 9999 54 _ _ hS hp];simp only[Program.fieldsOf,Bl]
  go_simp
  simp only[E4]
  by_cases h0:a0=b0<;>by_cases h1:a1=b1<;>by_cases h2:a2=b2<;>by_cases h3:a3=b3<;>simp[h0,h1,h2,h3]
theorem II {n:Nat}{c:Cx}{l:Fr}{H:List Ent}{d:Option Nat}{ty rty:TypeId}{pos:String}{af:Array Edge}{g:Option (Nat×Bool)}{x y:Operand}{a0 b0:Int}{a1 b1:Int}{a2 b2:Av}{a3 b3:Int}(hx:ev l x=some (B8 [Al a0,Al a1,rS a2,Al a3]))(hy:ev l y=some (B8 [Al b0,Al b1,rS b2,Al b3])):B0 Tryz.prog n c l H { dst:=d,op:=.binOp .neq 54 x y rty,type:=ty,pos:=pos,after:=af,guard:=g } (rB (!(decide (a0=b0)&&decide (a1=b1)&&decide (a2=b2)&&decide (a3=b3)))):=λa w Z ha hw=>by
  obtain⟨us,e1,q1⟩:=ha.ev hx;obtain⟨vs,e2,q2⟩:=ha.ev hy;have k1:=Bn.eq_rv (us:=[.int .i64 a0,.int .i64 a1,.string (B a2),.int .i64 a3]) q1;have k2:=Bn.eq_rv (us:=[.int .i64 b0,.int .i64 b1,.string (B b2),.int .i64 b3]) q2;subst k1;subst k2;have hm:Tryz.prog.eqGuardType Tryz.prog.depth 54=false:=by kernel_rfl
  have hb:=UW (a0:=a0) (a1:=a1) (a2:=a2) (a3:=a3) (b0:=b0) (b1:=b1) (b2:=b2) (b3:=b3) w;refine⟨.bool (!(decide (a0=b0)&&decide (a1=b1)&&decide (a2=b2)&&decide (a3=b3))),rfl,?_⟩;have hg:=run_eqGuard_agg (P:=Tryz.prog) w .neq 54 x y #[.int .i64 a0,.int .i64 a1,.string (B a2),.int .i64 a3] #[.int .i64 b0,.int .i64 b1,.string (B b2),.int .i64 b3] hm;simp only[execOp,e1,e2,Sem.run_bind,hg,Result.andThen_ok,run_neq_struct,hb,Sem.run_pure]
theorem Sl (F:Nat)(a:(List Aa))(b:(List Aa))(r:Bool)(h:LQ F a b=some r):Fn Tryz.prog GE 142 [AC 4 (A0 Ab a),AC 4 (A0 Ab b)] [] (λR H=>R=rB r∧H=[]):=by
 refine enter (n:=26) Tryz.func142 rfl Tryz.ntmps142 rfl (λw Z=>?_);unfold LQ at h;refine Ae (wa rfl (Ak (Am (Ae (wm rfl (wv (AF (ys:=a) (enc:=Ab) Br rfl) (wm rfl (wv (AF (ys:=b) (enc:=Ab) Br rfl) (wv (Bk rfl rfl) (Ak (cz h rfl (λc1 h2=>?_) (λc1 h3=>?_))))))))))))
 ·refine Ae (wa rfl (Ak (Ap (Ac ?_))));obtain rfl:=An h2;exact Ao (Bo Tryz.results142 (A5 rfl)) sN ⟨rfl,rfl⟩
 ·refine Aq (A7 (Am (Ae (wm rfl (wv (AF (ys:=a) (enc:=Ab) Br rfl) (wv (r:=Al 0) (A6 rfl) (Ak (A3 (ob h3 λhh hi hg=>Bb (S:=Nat×(Int)×(Unit)) (V:=(Unit)×(Unit)) 0 (λσ=>BG (λσ=>HY a b σ) σ.1 σ.2.1=some hh) (λσ=>[(0,AC 4 (A0 Ab a)),(1,AC 4 (A0 Ab b)),(12,Al (a.length:Int)),(13,Al σ.2.1)]) (λσ=>[]) (λσ=>σ.1) (F,0,()) hi (Az.c rfl (Az.c rfl (Az.c rfl (Az.c rfl Az.nil)))) sN (λσ=>HX =some r) (λσ=>[]) (λσ=>[]) ?_ ?_)))))))))
  ·rintro⟨h4,ha,⟨⟩⟩ hj;refine Bs (l':=[(0,AC 4 (A0 Ab a)),(1,AC 4 (A0 Ab b)),(12,Al (a.length:Int)),(13,Al ha)]) (H':=[]) rfl rfl ?_;obtain⟨hk,rfl,hl,hb,hf⟩:=BF hj;replace hb:HY a b ha=some hl:=hb;unfold HY at hb;refine Ae (wv (BW rfl rfl) (Ak (Am (cz hb rfl (λhm hn=>?_) (λhm ho=>?_)))))
   ·refine Aq (A7 (Am (A3 (Ae (wm rfl (wa rfl (Ak (Am (ck hn λhp hq=>ck hq λhr hs=>C8 [0,1,5,12,13] [⟨[],AC 4 (A0 Ab a),0⟩,⟨[],Al ha,0⟩,⟨[0,1],Jv (Ab (Ax a ha)),0⟩,⟨[2],B8 (Ab (Ax a ha)),0⟩,⟨[],AC 4 (A0 Ab b),0⟩,⟨[],Al ha,0⟩,⟨[4,5],Jv (Ab (Ax b ha)),0⟩,⟨[6],B8 (Ab (Ax b ha)),0⟩,⟨[3,7],rB (!(decide (((Ax a ha).fKind)=((Ax b ha).fKind))&&decide (((Ax a ha).fInt)=((Ax b ha).fInt))&&decide (((Ax a ha).fStr)=((Ax b ha).fStr))&&decide (((Ax a ha).fN)=((Ax b ha).fN)))),0⟩] [16,17,18,19,20,21,22,23,24,0,1,12,13] ?_ ?_)))))))))
    ·refine oq (A6 rfl) (oq (A6 rfl) (oq (AT (enc:=Ab) (ys:=a) Br Bz rfl rfl hp) (oq (Cy Jp Bz rfl rfl rfl) (oq (A6 rfl) (oq (A6 rfl) (oq (AT (enc:=Ab) (ys:=b) Br Bz rfl rfl hr) (oq (Cy Jp Bz rfl rfl rfl) (oq (II rfl rfl) ?_))))))));exact Ct
    refine A7 (cz hs rfl (λht hu=>?_) (λht hw=>?_))
    ·refine Ae (wa rfl (Ak (Ap (At (Ac (Ac (AM ?_)))))));have hx:=Bg hu hf hg;refine At (Ac ?_);obtain rfl:=An hx;exact Ao (Bo Tryz.results142 (A5 rfl)) sN ⟨rfl,rfl⟩
    ·refine Aq (A2 (A7 (Aj (ck hw λhy hz=>wv (Bd rfl rfl hy) (wm rfl (Ai ?_))))));have h0:=AW hz hf;exact Au (Ar (hk,ha+1,()) ⟨h0,Yy _⟩ (Az.c rfl (Az.c rfl (Az.c rfl (Az.c rfl Az.nil)))) sN)
   ·refine Bf (As ?_);have h1:=Bu ho hf hg;exact As (AP (Ar ((),()) h1 Az.nil sN))
  ·rintro⟨⟨⟩,⟨⟩⟩ he;refine BK (l':=[]) (H':=[]) rfl rfl ?_;replace he:HX =some r:=he;unfold HX at he;refine AV (A7 (Ae (wa rfl (Ak (Ap ?_)))));obtain rfl:=An he;exact Ao (Bo Tryz.results142 (A5 rfl)) sN ⟨rfl,rfl⟩
theorem Vk (F:Nat)(a:(List Aa))(b:(List Aa))(r:Bool)(h:N3 F a b=some r):Fn Tryz.prog GE 110 [AC 4 (A0 Ab a),AC 4 (A0 Ab b)] [] (λR H=>R=rB r∧H=[]):=by
 refine enter (n:=8) Tryz.func110 rfl Tryz.ntmps110 rfl (λw Z=>?_);unfold N3 at h;refine Ae (wa rfl (Bc (wm rfl (wm rfl (ob h λr1 e3 h2=>BM Tryz.call142 (Sl F a b r1 e3) rfl (wa rfl (Ak (Ap ?_))))))));obtain rfl:=An h2;exact Ao (Bo Tryz.results110 (A5 rfl)) sN ⟨rfl,rfl⟩
theorem Vv (F:Nat)(a:(List Aa))(b:(List Aa))(r:Bool)(h:L5 F a b=some r):Fn Tryz.prog GE 83 [AC 4 (A0 Ab a),AC 4 (A0 Ab b)] [] (λR H=>R=rB r∧H=[]):=by
 refine enter (n:=26) Tryz.func83 rfl Tryz.ntmps83 rfl (λw Z=>?_);unfold L5 at h;refine Ae (wa rfl (Ak (Am (Ae (wm rfl (wv (AF (ys:=a) (enc:=Ab) Br rfl) (wm rfl (wv (AF (ys:=b) (enc:=Ab) Br rfl) (wv (Bk rfl rfl) (Ak (cz h rfl (λc1 h2=>?_) (λc1 h3=>?_))))))))))))
 ·refine Ae (wa rfl (Ak (Ap (Ac ?_))));obtain rfl:=An h2;exact Ao (Bo Tryz.results83 (A5 rfl)) sN ⟨rfl,rfl⟩
 ·refine Aq (A7 (Am (Ae (wa rfl (Ak (A3 (ob h3 λhh hi hg=>Bb (S:=Nat×(Int)×(Unit)) (V:=(Unit)×(Unit)) 0 (λσ=>BG (λσ=>Et a b σ) σ.1 σ.2.1=some hh) (λσ=>[(0,AC 4 (A0 Ab a)),(1,AC 4 (A0 Ab b)),(5,Al σ.2.1)]) (λσ=>[]) (λσ=>σ.1) (F,0,()) hi (Az.c rfl (Az.c rfl (Az.c rfl Az.nil))) sN (λσ=>IB =some r) (λσ=>[]) (λσ=>[]) ?_ ?_)))))))
  ·rintro⟨h4,ha,⟨⟩⟩ hj;refine Bs (l':=[(0,AC 4 (A0 Ab a)),(1,AC 4 (A0 Ab b)),(5,Al ha)]) (H':=[]) rfl rfl ?_;obtain⟨hk,rfl,hl,hb,hf⟩:=BF hj;replace hb:Et a b ha=some hl:=hb;unfold Et at hb;refine Am (Ae (wm rfl (wm rfl (wv (AF (ys:=a) (enc:=Ab) Br rfl) (wv (BW rfl rfl) (Ak (cz hb rfl (λhm hn=>?_) (λhm ho=>?_))))))))
   ·refine Aq (A7 (Am (A3 (Am (ck hn λhp hq=>ck hq λhr hs=>C8 [0,1,5] [⟨[],AC 4 (A0 Ab a),0⟩,⟨[],Al ha,0⟩,⟨[0,1],Jv (Ab (Ax a ha)),0⟩,⟨[2],B8 (Ab (Ax a ha)),0⟩,⟨[],AC 4 (A0 Ab b),0⟩,⟨[],Al ha,0⟩,⟨[4,5],Jv (Ab (Ax b ha)),0⟩,⟨[6],B8 (Ab (Ax b ha)),0⟩,⟨[3,7],rB (!(decide (((Ax a ha).fKind)=((Ax b ha).fKind))&&decide (((Ax a ha).fInt)=((Ax b ha).fInt))&&decide (((Ax a ha).fStr)=((Ax b ha).fStr))&&decide (((Ax a ha).fN)=((Ax b ha).fN)))),0⟩] [17,18,19,20,21,22,23,24,25,0,1,5] ?_ ?_)))))
    ·refine oq (A6 rfl) (oq (A6 rfl) (oq (AT (enc:=Ab) (ys:=a) Br Bz rfl rfl hp) (oq (Cy Jp Bz rfl rfl rfl) (oq (A6 rfl) (oq (A6 rfl) (oq (AT (enc:=Ab) (ys:=b) Br Bz rfl rfl hr) (oq (Cy Jp Bz rfl rfl rfl) (oq (II rfl rfl) ?_))))))));exact Ct
    refine A7 (cz hs rfl (λht hu=>?_) (λht hw=>?_))
    ·refine Ae (wa rfl (Ak (Ap (At (Ac (Ac (AM ?_)))))));have hx:=Bg hu hf hg;refine At (Ac ?_);obtain rfl:=An hx;exact Ao (Bo Tryz.results83 (A5 rfl)) sN ⟨rfl,rfl⟩
    ·refine Aq (A2 (A7 (Aj (wm rfl (ck hw λhy hz=>wv (Bd rfl rfl hy) (wa rfl (Ai ?_)))))));have h0:=AW hz hf;exact Au (Ar (hk,ha+1,()) ⟨h0,Yy _⟩ (Az.c rfl (Az.c rfl (Az.c rfl Az.nil))) sN)
   ·refine Bf (As ?_);have h1:=Bu ho hf hg;exact As (AP (Ar ((),()) h1 Az.nil sN))
  ·rintro⟨⟨⟩,⟨⟩⟩ he;refine BK (l':=[]) (H':=[]) rfl rfl ?_;replace he:IB =some r:=he;unfold IB at he;refine AV (A7 (Ae (wa rfl (Ak (Ap ?_)))));obtain rfl:=An he;exact Ao (Bo Tryz.results83 (A5 rfl)) sN ⟨rfl,rfl⟩
end Go.Proofs.YtghdglcmblpbeaaGreatDoor.Q
namespace Go.Proofs.YtghdglcmblpbeaaGreatDoor
open Go
set_option linter.unusedVariables false
def IE (F:Nat)(v:(List Aa)):Option ((List Aa)×Int):=
 Be (D5 F v) λr1=>AS (!decide (r1=0)) (some (([]:List Aa),r1)) (some (v,0))
def Q3 (F:Nat)(s:Av):Option ((List Aa)×Int):=
 Be (IE F ([(Aa.mk 4 0 s 0)]:List Aa)) λr2=>some (r2.1,r2.2)
end Go.Proofs.YtghdglcmblpbeaaGreatDoor
namespace Go.Proofs.YtghdglcmblpbeaaGreatDoor.Q
open Go Go.RowKit
set_option linter.unusedVariables false
set_option linter.unusedSimpArgs false
set_option maxRecDepth 100000
set_option maxHeartbeats 4000000
theorem Q7 (F:Nat)(v:(List Aa))(r:(List Aa)×Int)(h:IE F v=some r):Fn Tryz.prog GE 73 [AC 4 (A0 Ab v)] [] (λR H=>R=Da [AC 4 (A0 Ab r.1),Al r.2]∧H=[]):=by
 refine enter (n:=11) Tryz.func73 rfl Tryz.ntmps73 rfl (λw Z=>?_);unfold IE at h;refine Ae (wa rfl (wa rfl (Bc (wm rfl (ob h λr1 e3 h2=>BM Qr (Gz F v r1 e3) rfl (wa rfl (Ak (Am (Ae (wm rfl (wv (Bk rfl rfl) (Ak (cz h2 rfl (λc4 h5=>?_) (λc4 h6=>?_))))))))))))))
 ·refine Ae (wm rfl (wa rfl (wa rfl (Ak (Ap (Ac (WK.up (d:=2) (r:=AC 4 (A0 Ab ([]:List Aa))) rfl (Up.le (DJ.nil _)) ?_)))))));obtain rfl:=An h5;exact Ao (Dq Tryz.results73 (A5 rfl) (A5 rfl)) sN ⟨rfl,rfl⟩
 ·refine Aq (A7 (Ae (wm rfl (wa rfl (wa rfl (Ak (Ap ?_)))))));obtain rfl:=An h6;exact Ao (Dq Tryz.results73 (A5 rfl) (A5 rfl)) sN ⟨rfl,rfl⟩
theorem Q2 (F:Nat)(s:Av)(r:(List Aa)×Int)(h:Q3 F s=some r):Fn Tryz.prog GE 33 [rS s] [] (λR H=>R=Da [AC 4 (A0 Ab r.1),Al r.2]∧H=[]):=by
 refine enter (n:=10) Tryz.func33 rfl Tryz.ntmps33 rfl (λw Z=>?_);unfold Q3 at h;refine Ae (wa rfl (wa rfl (Bc (wm rfl (wv (r:=B8 [Al 4,Al 0,rS s,Al 0]) (DT rfl rfl rfl rfl) (AX (ys:=([(Aa.mk 4 0 s 0)]:List Aa)) (enc:=Ab) (css:=[[Al 4,Al 0,rS s,Al 0]]) (xs:=[.tmp 5]) Br Bz GX rfl rfl rfl ⟨Ep.agg ⟨Up.refl _,Up.refl _,Up.refl _,Up.refl _,trivial⟩,trivial⟩ rfl Bi rfl rfl rfl (λb1=>?_)))))));refine WL.freeze (i:=0) rfl (WL.up (d:=6) (r:=AC 4 (A0 Ab ([(Aa.mk 4 0 s 0)]:List Aa))) rfl (Up.fact (i:=0) rfl) (ob h λr2 e4 h3=>BM Tryz.call73 (Q7 F ([(Aa.mk 4 0 s 0)]:List Aa) r2 e4) rfl (wv (A8 rfl rfl) (wv (A8 rfl rfl) (wa rfl (wa rfl (Ak (Ap ?_))))))));obtain rfl:=An h3;exact Ao (Dq Tryz.results33 (A5 rfl) (A5 rfl)) (sS sN) ⟨rfl,rfl⟩
end Go.Proofs.YtghdglcmblpbeaaGreatDoor.Q
namespace Go.Proofs.YtghdglcmblpbeaaGreatDoor
open Go
set_option linter.unusedVariables false
def JD (ys:(List Aa)):Option ((List Aa)):=
 AY (Ey 40 (([]:List Aa).length+ys.length))<|some (([]:List Aa)++ys)
def LP (key:Av)(x:(List Aa))(out:(List (List Aa))):Option (Bool×(List (List Aa))):=
 Be (JD x) λr1=>AY (Ey 24 (out.length+([r1]:List (List Aa)).length))<|some (true,out++([r1]:List (List Aa)))
def HU (F:Nat)(v:(List Aa))(ha:Int)(hb:Int)(hg:(List (List Aa))):Option (Stp (Int×Int×(List (List Aa))) (Out ((List (List Aa))) ((List (List Aa))))):=
 AS (decide (hb<((Ax v 0).fN))) (AS (decide (((Ax v 0).fKind)=6)) (AY (Cu ha (v.length:Int))<|AY (BB .i64 (ha+1))<|AY (EU (ha+1) (v.length:Int))<|Be (E5 F (List.drop (Int.toNat (ha+1)) v)) λhe=>AY (BB .i64 ((ha+1)+he.1))<|AY (EU (ha+1) ((ha+1)+he.1))<|AY (EU ((ha+1)+he.1) (v.length:Int))<|Be (LP ((Ax v ha).fStr) (List.take (Int.toNat ((ha+1)+he.1)-Int.toNat (ha+1)) (List.drop (Int.toNat (ha+1)) v)) hg) λhh=>AS (!hh.1) (some (.out (.ret hh.2))) (AY (BB .i64 (hb+1))<|some (.next ((ha+1)+he.1,hb+1,hh.2)))) (AY (EU ha (v.length:Int))<|Be (E5 F (List.drop (Int.toNat ha) v)) λhf=>AY (BB .i64 (ha+hf.1))<|AY (EU ha (ha+hf.1))<|AY (EU (ha+hf.1) (v.length:Int))<|Be (LP ([]:Av) (List.take (Int.toNat (ha+hf.1)-Int.toNat ha) (List.drop (Int.toNat ha) v)) hg) λhi=>AS (!hi.1) (some (.out (.ret hi.2))) (AY (BB .i64 (hb+1))<|some (.next (ha+hf.1,hb+1,hi.2))))) (some (.out (.go hg)))
def HT (ha:(List (List Aa))):Option ((List (List Aa))):=
 some ha
def Oc (F:Nat)(v:(List Aa))(out:(List (List Aa))):Option ((List (List Aa))):=
 AY (Cu 0 (v.length:Int))<|Be (BG (λσ=>HU F v σ.1 σ.2.1 σ.2.2) F (1,0,out)) (BE λν=>HT ν)
def KL (F:Nat)(v:(List Aa)):Option ((List (List Aa))×Int):=
 Be (Dk F v) λr1=>AS (!decide (r1=0)) (some (([]:List (List Aa)),r1)) (AY (Cu 0 (v.length:Int))<|AS (((!decide (((Ax v 0).fKind)=5))&&(!decide (((Ax v 0).fKind)=6)))) (some (([]:List (List Aa)),7)) (Be (Oc F v ([]:List (List Aa))) λha=>some (ha,0)))
end Go.Proofs.YtghdglcmblpbeaaGreatDoor
namespace Go.Proofs.YtghdglcmblpbeaaGreatDoor.Q
open Go Go.RowKit
set_option linter.unusedVariables false
set_option linter.unusedSimpArgs false
def Rc (ops:List Oper)(N:Nat):Bool:=
 let cl:=Ne ops []
 (List.range ops.length).all (λi=>(EF (ops.getD i default)).all (·<i))&&
 (List.range ops.length).all (λi=>i<N||(List.range i).all (λj=>(cl.getD i 0).testBit j))
section
variable {P : Program} {Q : Exit → Act → World → Prop}
theorem Qc {listed:Array Bool}{len m:Nat}(hs:listed.size=len)(hm:m≤len)(h:∀j,j<len→(listed.getD j true=true↔j<m)):listed.toList.count false=len-m:=by
 have:listed.toList=List.replicate m true++List.replicate (len-m) false:=by
  apply List.ext_getElem
  ·simp[hs];omega
  ·intro j h1 h2;have hj:j<len:=by simpa[hs] using h1
   have:=h j hj;rw[Array.getD_eq_getD_getElem?,Array.getElem?_eq_getElem (by omega)] at this;simp only[YN] at this;rw[Array.getElem_toList,List.getElem_append]
   split
   ·rename_i h3
    simp at h3;simp[this.2 h3]
   ·rename_i h3
    simp at h3;simp only[List.getElem_replicate]
    cases hb:listed[j] with
    | false=>rfl
    | true=>have:=this.1 hb;omega
 rw[this];simp[List.count_append,List.count_replicate]
theorem RC {listed:Array Bool}{j:Nat}(h:j<listed.size)(d d':Bool):listed.getD j d=listed.getD j d':=by
 simp[Array.getD_eq_getD_getElem?,Array.getElem?_eq_getElem h]
theorem Ni {ops:List Oper}{listed:Array Bool}{i:Nat}{o:Oper}(ho:ops[i]? =some o)(hb:∀e∈EF o,listed.getD e true=true)
  (hcl:∀j o,ops[j]? =some o→listed.getD j true=true→∀e∈EF o,listed.getD e true=true) (j:Nat) (h:((Ne ops []).getD i 0).testBit j=true):j=i∨listed.getD j true=true:=
 HG ops (λk=>k=i∨listed.getD k true=true) ops [] (λt o' ht e he hF=>by
  rcases hF with hF | hF
  ·simp at hF;subst hF;rw[ho] at ht;simp at ht;subst ht;exact .inr (hb e he)
  ·exact .inr (hcl t o' ht (by simpa using hF) e he)) (λj i hb=>by simp at hb) i j h (.inl rfl)
theorem J4 {ops:List Oper}{listed:Array Bool}{i:Nat}(hsz:listed.size=ops.length)(hlt:∀i,i<ops.length→∀e∈EF (ops.getD i default),e<i)(h:i∈Region.ready .any ops.toArray listed) :
  listed.getD i true=false∧i<ops.length∧∃o,ops[i]? =some o∧∀e∈EF o,listed.getD e true=true:=by
 obtain⟨h1,o,ho,h2⟩:=mem_ready.1 h;have ho':ops[i]? =some o:=by simpa using ho
 have hil:=(List.getElem?_eq_some_iff.1 ho').1;refine⟨h1,hil,o,ho',λe he=>?_⟩;have hei:=hlt i hil e (by rw[Y6,ho'];exact he);simp only[EF,List.mem_map,List.mem_filter] at he;obtain⟨x,⟨hx1,hx2⟩,rfl⟩:=he;have h3:=h2 x (by simpa using hx1) hx2;rw[RC (by omega) true false];exact h3
theorem Jy {ops:List Oper}{listed:Array Bool}(hsz:listed.size=ops.length)(hlt:∀i,i<ops.length→∀e∈EF (ops.getD i default),e<i)(h:Region.ready .any ops.toArray listed=[]) :
  ∀j,j<ops.length→listed.getD j true=true:=by
 intro j
 induction j using Nat.strongRecOn with
 | ind j ih=>
  intro hj
  cases hb:listed.getD j true with
  | true=>rfl
  | false=>
   have:j∈Region.ready .any ops.toArray listed:=mem_ready.2 ⟨hb,ops[j],by simp[hj],λe he hbn=>by
    have hel:e.on<j:=hlt j hj e.on (by
     rw[Y6,Y3 hj];simp only[EF,YN,List.mem_map,List.mem_filter];exact⟨e,⟨by simpa using he,hbn⟩,rfl⟩)
    rw[RC (by omega) false true];exact ih e.on hel (by omega)⟩
   rw[h] at this;cases this
theorem LS {listed:Array Bool}{i j:Nat}(hi:i<listed.size):(listed.setIfInBounds i true).getD j true=true↔(j=i∨listed.getD j true=true):=by
 by_cases hj:i=j
 ·subst hj;simp[hi]
 ·rw[getD_set_ne true hj];exact⟨.inr,λh=>h.elim (λh=>absurd h.symm hj) id⟩
theorem Sm {listed:Array Bool}{i fuel:Nat}(hi:i<listed.size)(hun:listed.getD i true=false)(hc:listed.toList.count false=fuel+1):(listed.setIfInBounds i true).toList.count false=fuel:=by
 have hfi:listed.toList[i]? =some false:=by
  rw[Array.getD_eq_getD_getElem?,Array.getElem?_eq_getElem hi] at hun;simp at hun;simp[hi,hun]
 rw[Array.toList_setIfInBounds];have h1:=List.count_set (a:=true) (b:=false) (l:=listed.toList) (i:=i) (by simpa using hi);have h2:listed.toList[i]'(by simpa using hi)=false:=by
  have:=List.getElem?_eq_some_iff.1 hfi;exact this.2
 rw[h1,h2,hc];rfl
theorem Lx {ops:List Oper}{N:Nat}(hlt:∀i,i<ops.length→∀e∈EF (ops.getD i default),e<i)
  (hch:∀i,N≤i→i<ops.length→∀j,j<i→((Ne ops []).getD i 0).testBit j=true):∀(k m:Nat) (listed:Array Bool) (a:Act) (w:World),m+k=ops.length→N≤m→listed.size=ops.length→
   (∀j,j<ops.length→(listed.getD j true=true↔j<m))→(∀j o,ops[j]? =some o→listed.getD j true=true→∀e∈EF o,listed.getD e true=true)→wpList P ops.toArray Q (ops.drop m) a w→wpAny P .any ops.toArray Q k listed a w
 | 0,m,listed,a,w,hk,hN,hsz,hl,hcl,h=>by
  refine⟨?_,?_⟩
  ·cases hr:Region.ready .any ops.toArray listed with
   | nil=>rfl
   | cons i r=>
    obtain⟨h1,h2,_⟩:=J4 hsz hlt (i:=i) (by rw[hr];simp);rw[(hl i h2).2 (by omega)] at h1;cases h1
  ·rw[List.drop_of_length_le (by omega)] at h;exact h
 | k+1,m,listed,a,w,hk,hN,hsz,hl,hcl,h=>by
  refine⟨λhr=>?_,λi hi=>?_⟩
  ·have:=(hl m (by omega)).1 (Jy hsz hlt hr m (by omega));omega
  ·obtain⟨h1,h2,o,ho,hb⟩:=J4 hsz hlt hi;have him:i=m:=by
    have hmi : ¬ i<m:=λh'=>by rw[(hl i h2).2 h'] at h1;cases h1
    by_cases e:i=m
    ·exact e
    ·rcases Ni ho hb hcl m (hch i (by omega) h2 m (by omega)) with h3 | h3
     ·exact h3.symm
     ·have:=(hl m (by omega)).1 h3;omega
   subst him;have hd:ops.drop i=o::ops.drop (i+1):=by
    rw[List.drop_eq_getElem_cons h2]
    congr 1
    exact(List.getElem?_eq_some_iff.1 ho).2
   rw[hd] at h;have ih:∀a' w',wpList P ops.toArray Q (ops.drop (i+1)) a' w'→wpAny P .any ops.toArray Q k (listed.setIfInBounds i true) a' w':=λa' w' h'=>by
    refine Lx hlt hch k (i+1) _ a' w' (by omega) (by omega) (by simpa using hsz) (λj hj=>?_) (λj o' hj hlj e he=>?_) h'
    ·rw[LS (by omega),hl j hj];omega
    ·rw[LS (by omega)] at hlj ⊢;rcases hlj with rfl | hlj
     ·rw[ho] at hj;simp at hj;subst hj;exact .inr (hb e he)
     ·exact .inr (hcl j o' hj hlj e he)
   unfold wpOp;have hoA:ops.toArray[i]? =some o:=by simpa using ho
   simp only[hoA];simp only[wpList] at h
   split
   ·rename_i hw'
    rw[if_pos hw'] at h;exact h.imp (λh=>Oper.wp_mono ih h) (λh=>h)
   ·rename_i hw'
    rw[Zk hw'] at h;exact ih _ _ h
theorem Wr {id:Nat}{ops:List Oper}{N:Nat}(hm:P.follows .mixedOrders=true)(hB:Rc ops N=true)(hN:N≤ops.length)(I:(Nat→Bool)→Act→World→Prop)
  (hext:∀S S' a w,(∀j,j<N→S j=S' j)→I S a w→I S' a w) {a:Act} {w:World} (h0:I (λ_=>false) a { w with drawn:=w.drawn+1 })
  (step:∀S i o a w,i<N→S i=false→ops[i]? =some o→(∀e∈EF o,e<i∧S e=true)→I S a w→∀K:Act→World→Prop,(∀a' w',I (λj=>j ==i||S j) a' w'→K a' w')→
   (Region.wanted o (yielded ops.toArray a.tmps)=true→o.wp P a w K Q)∧(Region.wanted o (yielded ops.toArray a.tmps)=false→K (a.put o.dst undef) w))
  (fin:∀a w,I (λ_=>true) a w→wpList P ops.toArray Q (ops.drop N) a w):(Code.region id ops.toArray true).wp P Q a w:=by
 simp only[Rc,Y1,YU,List.mem_range,Yv,YZ] at hB;obtain⟨hlt,hch0⟩:=hB;have hch:∀i,N≤i→i<ops.length→∀j,j<i→((Ne ops []).getD i 0).testBit j=true:=λi h1 h2 j hj=>by
  rcases hch0 i h2 with h3 | h3
  ·omega
  ·exact h3 j hj
 refine wp_region_any hm ?_;have main:∀(fuel:Nat) (listed:Array Bool) (a:Act) (w:World),listed.size=ops.length→listed.toList.count false=fuel→I (λj=>listed.getD j true) a w→
   (∀j o,ops[j]? =some o→listed.getD j true=true→∀e∈EF o,listed.getD e true=true)→(∀j,N≤j→j<ops.length→listed.getD j true=false)→wpAny P .any ops.toArray Q fuel listed a w:=by
  intro fuel;have allin:∀(fuel:Nat) (listed:Array Bool) (a:Act) (w:World),listed.size=ops.length→listed.toList.count false=fuel→I (λj=>listed.getD j true) a w→
   (∀j o,ops[j]? =some o→listed.getD j true=true→∀e∈EF o,listed.getD e true=true)→(∀j,N≤j→j<ops.length→listed.getD j true=false)→(∀j,j<N→listed.getD j true=true)→wpAny P .any ops.toArray Q fuel listed a w:=by
   intro fuel listed a w hsz hc hI hcl hlast hall;have hl:∀j,j<ops.length→(listed.getD j true=true↔j<N):=λj hj=>by
    constructor
    ·intro h
     by_cases hjN:j<N
     ·exact hjN
     ·rw[hlast j (by omega) hj] at h;cases h
    ·exact hall j
   have:=Qc hsz hN hl;refine Lx hlt hch fuel N listed a w (by omega) (YG _) hsz hl hcl (fin a w (hext _ _ a w (λj hj=>hall j hj) hI))
  induction fuel with
  | zero=>
   intro listed a w hsz hc hI hcl hlast;refine allin 0 listed a w hsz hc hI hcl hlast (λj hj=>?_)
   cases hb:listed.getD j true with
   | true=>rfl
   | false=>
    have:false∈listed.toList:=by
     rw[Array.getD_eq_getD_getElem?,Array.getElem?_eq_getElem (by omega)] at hb;simp at hb;rw[← hb];simp
    have:=List.count_pos_iff.2 this;omega
  | succ fuel ih=>
   intro listed a w hsz hc hI hcl hlast
   by_cases hall:∀j,j<N→listed.getD j true=true
   ·exact allin (fuel+1) listed a w hsz hc hI hcl hlast hall
   ·refine⟨λhr=>absurd (λj hj=>Jy hsz hlt hr j (by omega)) hall,λi hi=>?_⟩;obtain⟨h1,h2,o,ho,hb⟩:=J4 hsz hlt hi;have hiN:i<N:=by
     by_cases h:i<N
     ·exact h
     ·refine absurd (λj hj=>?_) hall;rcases Ni ho hb hcl j (hch i (by omega) h2 j (by omega)) with h3 | h3
      ·omega
      ·exact h3
    have K':∀a' w',I (λj=>j ==i||listed.getD j true) a' w'→wpAny P .any ops.toArray Q fuel (listed.setIfInBounds i true) a' w':=λa' w' hI'=>by
     refine ih _ a' w' (by simpa using hsz) (Sm (by omega) h1 hc) (hext _ _ a' w' (λj hj=>?_) hI') (λj o' hj hlj e he=>?_) (λj h3 h4=>?_)
     ·have:=LS (listed:=listed) (i:=i) (j:=j) (by omega)
      cases hq:(listed.setIfInBounds i true).getD j true with
      | true=>
       rw[hq] at this;rcases this.1 rfl with h | h
       ·simp[h]
       ·simp[h]
      | false=>
       rw[hq] at this;have h5 : ¬ (j=i∨listed.getD j true=true):=λh=>by have:=this.2 h;cases this
       cases hz:listed.getD j true with
       | true=>exact absurd (.inr hz) h5
       | false=>
        have:j≠i:=λh=>h5 (.inl h);simp[this]
     ·rw[LS (by omega)] at hlj ⊢;rcases hlj with rfl | hlj
      ·rw[ho] at hj;simp at hj;subst hj;exact .inr (hb e he)
      ·exact .inr (hcl j o' hj hlj e he)
     ·rw[getD_set_ne true (by omega)];exact hlast j h3 h4
    obtain⟨k1,k2⟩:=step _ i o a w hiN h1 ho (λe he=>⟨hlt i h2 e (by rw[Y6,ho];exact he),hb e he⟩) hI _ K';unfold wpOp;have hoA:ops.toArray[i]? =some o:=by simpa using ho
    simp only[hoA]
    split
    ·rename_i hw';exact .inl (k1 hw')
    ·rename_i hw';exact k2 (by simpa using hw')
 have e0:∀j,j<ops.length→(Array.replicate ops.length false).getD j true=false:=λj hj=>by simp[hj]
 have hsz0:ops.toArray.size=ops.length:=by simp
 rw[hsz0];refine main ops.length (Array.replicate ops.length false) a _ (by simp) (by simp) (hext _ _ _ _ (λj hj=>(e0 j (by omega)).symm) h0) (λj o hj hl=>?_) (λj _ h2=>e0 j h2);rw[e0 j (List.getElem?_eq_some_iff.1 hj).1] at hl;cases hl
end
structure Sa where
 deps:List Nat
 r:Rp
 al:Option (List Rp×TypeId):=none
 late:Option (Nat×List Rp):=none
 sto:Option Nat:=none
def Gi (sp:List Sa)(i:Nat):Sa:=sp.getD i { deps:=[],r:=rv undef }
def Vq (sp:List Sa):List Sp:=sp.map λs=>⟨s.deps,s.r,0⟩
def KM (β:Nat→Nat)(s:Sa)(i:Nat):Rp:=match s.al with
 | none=>s.r
 | some _=>rv (.pointer (some ⟨β i,0,none⟩))
def Lj (S:Nat→Bool)(late:Option (Nat×List Rp))(cs:List Rp):List Rp:=match late with
 | none=>cs
 | some q=>if S q.1 then q.2 else cs
def Gf (S:Nat→Bool)(β:Nat→Nat):List Sa→Nat→List Ent
 | [],_=>[]
 | s::r,t=>match s.al with
  | some p=>if S t then .blk (β t) (Lj S s.late p.1) p.2::Gf S β r (t+1) else Gf S β r (t+1)
  | none=>Gf S β r (t+1)
def SV (β:Nat→Nat):List Sa→Nat→List Ent
 | [],_=>[]
 | s::r,t=>match s.al with
  | some p=>.blk (β t) (match s.late with | none=>p.1 | some q=>q.2) p.2::SV β r (t+1)
  | none=>SV β r (t+1)
def Nl (β:Nat→Nat):List Oper→List Sa→Nat→Fr→Fr
 | o::os,s::sp,i,l=>match o.dst with
  | some d=>(d,KM β s i)::Nl β os sp (i+1) l
  | none=>Nl β os sp (i+1) l
 | _,_,_,l=>l
theorem JC {S S':Nat→Bool}{late:Option (Nat×List Rp)}{cs:List Rp}(h:∀q,late=some q→S q.1=S' q.1):Lj S late cs=Lj S' late cs:=by
 unfold Lj
 cases late with
 | none=>rfl
 | some q=>simp only[];rw[h q rfl]
theorem Eo (S:Nat→Bool)(β:Nat→Nat)(s:Sa)(r:List Sa)(t:Nat):Gf S β (s::r) t=match s.al with
  | some p=>if S t then .blk (β t) (Lj S s.late p.1) p.2::Gf S β r (t+1) else Gf S β r (t+1)
  | none=>Gf S β r (t+1):=rfl
theorem G5 {S S':Nat→Bool}{β β':Nat→Nat}:∀(r:List Sa) (t0:Nat),(∀(t:Nat) (s:Sa),r[t]? =some s→s.al≠none→S (t0+t)=S' (t0+t)∧(S (t0+t)=true→β (t0+t)=β' (t0+t)∧∀q,s.late=some q→S q.1=S' q.1))→Gf S β r t0=Gf S' β' r t0
 | [],_,_=>rfl
 | s::r,t0,h=>by
  have ih:=G5 r (t0+1) (λt s hs hn=>by
   have:=h (t+1) s (by simpa using hs) hn;rw[show t0+1+t=t0+(t+1) from by omega];exact this)
  unfold Gf;rw[ih]
  cases ha:s.al with
  | none=>rfl
  | some p=>
   obtain⟨h1,h2⟩:=h 0 s rfl (by rw[ha];exact nofun);simp only[Nat.add_zero] at h1 h2;simp only[];rw[← h1]
   split
   ·rename_i hS;rw[(h2 hS).1,JC (h2 hS).2]
   ·rfl
theorem Qb (β:Nat→Nat):∀(r:List Sa) (t0:Nat),Gf (λ_=>true) β r t0=SV β r t0
 | [],_=>rfl
 | s::r,t0=>by
  unfold Gf SV;rw[Qb β r (t0+1)]
  cases s.al with
  | none=>rfl
  | some p=>cases hl:s.late<;>simp[Lj,hl]
theorem NL (β:Nat→Nat):∀(r:List Sa) (t0:Nat),Gf (λ_=>false) β r t0=[]
 | [],_=>rfl
 | s::r,t0=>by
  unfold Gf;rw[NL β r (t0+1)]
  cases s.al<;>simp
theorem Qa {S:Nat→Bool}{β:Nat→Nat}{i b:Nat}{p:List Rp×TypeId}:∀(r:List Sa) (t0 k:Nat) (s:Sa),i=t0+k→r[k]? =some s→s.al=some p→S i=false→(∀(t:Nat) (s:Sa) (q:Nat×List Rp),r[t]? =some s→s.al≠none→s.late=some q→q.1≠i)→(∀q,s.late=some q→S q.1=false∧q.1≠i)→
  (Gf (λj=>j ==i||S j) (λj=>if j=i then b else β j) r t0).Perm (.blk b p.1 p.2::Gf S β r t0)
 | [],_,_,_,_,h,_,_,_,_=>by simp at h
 | s'::r,t0,0,s,hi,h,ha,hS,hne,hl=>by
  simp at h hi;subst h;subst hi;have e:=G5 (S:=λj=>j ==i||S j) (S':=S) (β:=λj=>if j=i then b else β j) (β':=β) r (i+1) (λt s hs hn=>by
   have:i+1+t≠i:=by omega
   refine⟨by simp[this],λ_=>⟨by simp[this],λq hq=>?_⟩⟩;have:=hne (t+1) s q (by simpa using hs) hn hq;simp[this])
  have ec:Lj (λj=>j ==i||S j) s'.late p.1=p.1:=by
   unfold Lj
   cases hq:s'.late with
   | none=>rfl
   | some q=>
    obtain⟨h1,h2⟩:=hl q hq;simp[h1,h2]
  unfold Gf;rw[e,ha];simp only[hS,BEq.rfl,YP,if_true,ec];simp
 | s'::r,t0,k+1,s,hi,h,ha,hS,hne,hl=>by
  have ih:=Qa (S:=S) (β:=β) (i:=i) (b:=b) (p:=p) r (t0+1) k s (by omega) (by simpa using h) ha hS (λt s q hs=>hne (t+1) s q (by simpa using hs)) hl;have hne0:t0≠i:=by omega
  have hne':(t0 ==i)=false:=by simpa using hne0
  unfold Gf
  cases ha':s'.al with
  | none=>exact ih
  | some q=>
   simp only[hne',YF,Zk hne0];rw[JC (S:=λj=>j ==i||S j) (S':=S) (λq hq=>by
    have:=hne 0 s' q rfl (by rw[ha'];exact nofun) hq;simp[this])]
   cases hS':S t0 with
   | true=>simpa using(Yw _ ih).trans (List.Perm.swap _ _ _)
   | false=>simpa using ih
theorem PZ {S:Nat→Bool}{β:Nat→Nat}{i j:Nat}{p:List Rp×TypeId}{ncs:List Rp}:∀(r:List Sa) (t0 k:Nat) (s:Sa),j=t0+k→r[k]? =some s→s.al=some p→s.late=some (i,ncs)→S j=true→S i=false→(∀(t:Nat) (s:Sa) (q:Nat×List Rp),r[t]? =some s→s.al≠none→s.late=some q→t0+t≠j→q.1≠i)→(∀(t:Nat) (s:Sa),r[t]? =some s→s.al≠none→t0+t≠i)→
  ∃H',(Gf S β r t0).Perm (.blk (β j) p.1 p.2::H')∧(Gf (λj=>j ==i||S j) β r t0).Perm (.blk (β j) ncs p.2::H')
 | [],_,_,_,_,h,_,_,_,_,_,_=>by simp at h
 | s'::r,t0,0,s,hj,h,ha,hl,hSj,hSi,hne,hni=>by
  simp at h hj;subst h;subst hj;have e:=G5 (S:=λx=>x ==i||S x) (S':=S) (β:=β) (β':=β) r (j+1) (λt s hs hn=>by
   have h1:=hni (t+1) s (by simpa using hs) hn;have h1':j+1+t≠i:=by omega
   refine⟨by simp[h1'],λ_=>⟨rfl,λq hq=>?_⟩⟩;have:=hne (t+1) s q (by simpa using hs) hn hq (by omega);simp[this])
  refine⟨Gf S β r (j+1),?_,?_⟩
  ·rw[Eo];rw[ha];simp[hSj,Lj,hl,hSi]
  ·rw[Eo];rw[ha,e];simp[hSj,Lj,hl]
 | s'::r,t0,k+1,s,hj,h,ha,hl,hSj,hSi,hne,hni=>by
  obtain⟨H',h1,h2⟩:=PZ (S:=S) (β:=β) (i:=i) (j:=j) (p:=p) (ncs:=ncs) r (t0+1) k s (by omega) (by simpa using h) ha hl hSj hSi (λt s q hs hn hq hx=>hne (t+1) s q (by simpa using hs) hn hq (by omega)) (λt s hs hn=>by
   have:=hni (t+1) s (by simpa using hs) hn;omega)
  cases ha':s'.al with
  | none=>exact⟨H',by rw[Eo,ha'];exact h1,by rw[Eo,ha'];exact h2⟩
  | some q=>
   have hi0:=hni 0 s' rfl (by rw[ha'];exact nofun);have hi0':(t0 ==i)=false:=by simpa using hi0
   have ec:Lj (λx=>x ==i||S x) s'.late q.1=Lj S s'.late q.1:=JC (λq hq=>by
    have:=hne 0 s' q rfl (by rw[ha'];exact nofun) hq (by omega);simp[this])
   cases hS':S t0 with
   | true=>
    refine⟨.blk (β t0) (Lj S s'.late q.1) q.2::H',?_,?_⟩
    ·rw[Eo];rw[ha'];simpa[hS'] using(Yw _ h1).trans (List.Perm.swap _ _ _)
    ·rw[Eo];rw[ha'];simp only[hi0',YF,hS',if_true,ec];exact(Yw _ h2).trans (List.Perm.swap _ _ _)
   | false=>
    refine⟨H',?_,?_⟩
    ·rw[Eo];rw[ha'];simpa[hS'] using h1
    ·rw[Eo];rw[ha'];simp only[hi0',YF,hS'];simpa using h2
def Ye (n:Nat)(ops:List Oper)(N:Nat)(keys:List Nat)(deps:List (List Nat))(als:List Bool)(lates stos:List (Option Nat)):Bool:=
 Rc ops N&&decide (N≤ops.length)&&
 (List.range N).all (λi=>match DL ops i with
  | some d=>decide (d<n)&&!keys.contains d&&(List.range N).all (λj=>j ==i||DL ops j !=some d)
  | none=>true)&&
 (List.range N).all (λi=>(deps.getD i []).all (λj=>decide (j<N)&&(EF (ops.getD i default)).contains j&&!als.getD j true))&&
 (List.range N).all (λi=>match stos.getD i none with
  | some j=>decide (j<N)&&(EF (ops.getD i default)).contains j&&als.getD j false&&!als.getD i true
  | none=>true)&&
 (List.range N).all (λj=>match lates.getD j none with
  | some k=>decide (k<N)&&als.getD j false&&stos.getD k none ==some j
  | none=>true)
def Ym (P:Program)(n:Nat)(c:Cx)(opsA:Array Oper)(Q:Exit→Act→World→Prop)(o:Oper)(p:List Rp×TypeId):Prop:=
 ∀H a w Z (K:Act→World→Prop),St c H Z w→(∀b w',St c (.blk b p.1 p.2::H) Z w'→K (a.put o.dst (.pointer (some ⟨b,0,none⟩))) w')→
  Region.wanted o (yielded opsA a.tmps)=true∧o.wp P a w K Q
def Xs (P:Program)(n:Nat)(c:Cx)(opsA:Array Oper)(Q:Exit→Act→World→Prop)(ops:List Oper)(sp:List Sa)(l0:Fr)(H:List Ent)(i:Nat)(o:Oper):Prop:=
 match (Gi sp i).sto with
 | some j=>o.dst=none∧∃d p ncs,DL ops j=some d∧(Gi sp j).al=some p∧(Gi sp j).late=some (i,ncs)∧
   ∀b H,E3 P n c opsA Q ((d,rv (.pointer (some ⟨b,0,none⟩)))::Cn ops (Vq sp) (Gi sp i).deps l0) (.blk b p.1 p.2::H) o (rv undef) (.blk b ncs p.2::H)
 | none=>match (Gi sp i).al with
  | none=>∀E,E3 P n c opsA Q (Cn ops (Vq sp) (Gi sp i).deps l0) (H++E) o (Gi sp i).r (H++E)
  | some p=>Ym P n c opsA Q o p
def Lo (P:Program)(n:Nat)(c:Cx)(opsA:Array Oper)(Q:Exit→Act→World→Prop)(ops:List Oper)(sp:List Sa)(l0:Fr)(H:List Ent):Nat→List Oper→Prop
 | i,o::rest=>Xs P n c opsA Q ops sp l0 H i o∧Lo P n c opsA Q ops sp l0 H (i+1) rest
 | _,[]=>True
section
variable {P : Program} {n : Nat} {c : Cx} {opsA : Array Oper} {Q : Exit → Act → World → Prop} {l l0 : Fr} {H : List Ent} {sp : List Sa}
theorem Lo.at {ops:List Oper}:∀{k:Nat} {rest:List Oper},Lo P n c opsA Q ops sp l0 H k rest→∀(t:Nat) o,rest[t]? =some o→Xs P n c opsA Q ops sp l0 H (k+t) o
 | k,o::rest,⟨h1,h2⟩,t,o',ht=>by
  cases t with
  | zero=>simp at ht;subst ht;exact h1
  | succ t=>
   have:=Lo.at h2 t o' (by simpa using ht);rw[show k+(t+1)=k+1+t from by omega];exact this
 | _,[],_,t,o,h=>by simp at h
theorem RN {β:Nat→Nat}{a:Act}{Z:Fz}(h0:CW n l0 a Z):∀(os:List Oper) (ss:List Sa) (k:Nat),(∀(t:Nat) o s d,os[t]? =some o→ss[t]? =some s→o.dst=some d→∃v,a.tmps[d]? =some v∧(KM β s (k+t)).p Z v)→CW n (Nl β os ss k l0) a Z
 | [],_,_,_=>by unfold Nl;exact h0
 | _::_,[],_,_=>by unfold Nl;exact h0
 | o::os,s::ss,k,h=>by
  have ih:=RN h0 os ss (k+1) (λt o' s' d h1 h2 h3=>by
   have:=h (t+1) o' s' d (by simpa using h1) (by simpa using h2) h3;rw[show k+1+t=k+(t+1) from by omega];exact this)
  unfold Nl
  cases hd:o.dst with
  | none=>exact ih
  | some d=>
   refine⟨ih.size,ih.defers,λi r hi=>?_⟩;rw[C4] at hi
   split at hi
   ·rename_i e;subst e;simp at hi;subst hi;exact h 0 o s d rfl rfl hd
   ·exact ih.tm i r hi
theorem Ws {id:Nat}{ops:List Oper}(N:Nat)(sp:List Sa)(hm:P.follows .mixedOrders=true)(hB:Ye n ops N (G1 l0) (sp.map (·.deps)) (sp.map (·.al.isSome)) (sp.map (·.late.map (·.1))) (sp.map (·.sto))=true)(hl0:Wd l0 l)(hsp:sp.length=N)
  (hob:Lo P n c ops.toArray Q ops sp l0 H 0 (ops.take N)) (h:∀β,WL P n c ops.toArray Q (ops.drop N) (Nl β (ops.take N) sp 0 l0) (H++SV β sp 0)):WC P n c (.region id ops.toArray true) Q l H:=by
 intro a w Z ha hw;simp only[Ye,Y1,YU,List.mem_range,Yv] at hB;obtain⟨⟨⟨⟨⟨b1,bN⟩,b2⟩,b3⟩,b4⟩,b5⟩:=hB;have hget:∀i,i<N→(ops.take N)[i]? =ops[i]?:=λi hi=>by rw[YX,if_pos hi]
 have hsa:∀i,i<N→sp[i]? =some (Gi sp i):=λi hi=>by
  simp[Gi,Y6,Y3 (show i<sp.length by omega)]
 have hspq:∀i,i<N→(Dy (Vq sp) i)=⟨(Gi sp i).deps,(Gi sp i).r,0⟩:=λi hi=>by
  simp[Dy,Vq,Y6,Zc,hsa i hi]
 have hals:∀j b,j<N→(sp.map (·.al.isSome)).getD j b=(Gi sp j).al.isSome:=λj b hj=>by simp[Y6,Zc,hsa j hj]
 have hstos:∀j,j<N→(sp.map (·.sto)).getD j none=(Gi sp j).sto:=λj hj=>by simp[Y6,Zc,hsa j hj]
 have hlates:∀j,j<N→(sp.map (·.late.map (·.1))).getD j none=(Gi sp j).late.map (·.1):=λj hj=>by simp[Y6,Zc,hsa j hj]
 have S1:∀i o j,i<N→ops[i]? =some o→(Gi sp i).sto=some j→j<N∧j∈EF o∧(Gi sp j).al≠none∧(Gi sp i).al=none:=λi o j hi ho hs=>by
  have h1:=b4 i hi;rw[hstos i hi,hs] at h1;simp only[Y1,YB,Yv] at h1;obtain⟨⟨⟨h2,h3⟩,h4⟩,h5⟩:=h1;rw[hals j _ h2] at h4;rw[hals i _ hi] at h5;rw[Y6,ho,YN,List.contains_iff_mem] at h3;exact⟨h2,h3,λe=>(by rw[e] at h4;cases h4),(by simpa using h5)⟩
 have L1:∀t q,t<N→(Gi sp t).late=some q→q.1<N∧(Gi sp q.1).sto=some t:=λt q ht hq=>by
  have h1:=b5 t ht;rw[hlates t ht,hq] at h1;simp only[Option.map_some,Y1,Yv,beq_iff_eq] at h1;obtain⟨⟨h2,h3⟩,h4⟩:=h1;rw[hstos _ h2] at h4;exact⟨h2,h4⟩
 have hops:∀j,j<N→∃o,ops[j]? =some o:=λj hj=>⟨ops[j]'(by omega),Y3 (by omega)⟩
 have lt_of:∀(t:Nat) (s:Sa),sp[t]? =some s→t<N∧s=Gi sp t:=λt s hs=>by
  have h1:t<N:=by have:=(List.getElem?_eq_some_iff.1 hs).1;omega
  refine⟨h1,?_⟩;rw[hsa t h1] at hs;simpa using hs.symm
 have hdst:∀i o d,i<N→ops[i]? =some o→o.dst=some d→(d<n∧d ∉ G1 l0)∧∀j,j<N→j≠i→DL ops j≠some d:=λi o d hi ho hd=>by
  have h3:=b2 i hi;have:DL ops i=some d:=by simp[DL,ho,hd]
  rw[this] at h3;simp only[Y1,YB,YU,List.mem_range,Yv] at h3;refine⟨⟨h3.1.1,λhmem=>by rw[← List.contains_iff_mem] at hmem;rw[hmem] at h3;cases h3.1.2⟩,λj hj hne he=>?_⟩;have:=h3.2 j hj;simp[hne,he] at this
 refine Wr (N:=N) hm b1 bN (λS a w=>∃ (β:Nat→Nat) (Z:Fz),St c (H++Gf S β sp 0) Z w∧CW n l0 a Z∧(∀j o d,j<N→S j=true→ops[j]? =some o→o.dst=some d→∃v,a.tmps[d]? =some v∧(KM β (Gi sp j) j).p Z v)∧
   ∀k j,k<N→(Gi sp k).sto=some j→S k=true→S j=true)
  (λS S' a w hS hI=>?_) ⟨λ_=>0,Z,?_,ha.subL hl0,λj o d _ hS=>(by cases hS),λk j _ _ hS=>(by cases hS)⟩ (λS i o a w hi hun ho hb hI K hK=>?_) (λa w hI=>?_)
 ·obtain⟨β,Z,h1,h2,h3,h4⟩:=hI;refine⟨β,Z,?_,h2,λj o d hj hS'=>h3 j o d hj (by rw[hS j hj];exact hS'),λk j hk hs hSk=>?_⟩
  ·rw[← G5 (S:=S) (β:=β) (β':=β) sp 0 (λt s hs _=>by
    obtain⟨ht,rfl⟩:=lt_of t s hs;exact⟨hS _ (by omega),λ_=>⟨rfl,λq hq=>hS _ (L1 t q ht hq).1⟩⟩)]
   exact h1
  ·obtain⟨o,ho⟩:=hops k hk;rw[← hS j (S1 k o j hk ho hs).1];exact h4 k j hk hs (by rw[hS k hk];exact hSk)
 ·rw[NL,YY];exact hw.drawn _
 ·obtain⟨β,Z,h1,h2,h3,hx⟩:=hI;have hput:∀k u v,a.tmps[k]? =some u→o.dst≠some k→(a.put o.dst v).tmps[k]? =some u:=λk u v hk hne=>by
   cases hd:o.dst with
   | none=>simpa[Act.put] using hk
   | some d=>
    simp only[Act.put,Array.getElem?_setIfInBounds];rw[Zk (λe=>hne (by rw[hd,e]))];exact hk
  have hagr:∀v Z',Fz.le Z Z'→CW n l0 (a.put o.dst v) Z':=λv Z' hz=>by
   refine⟨?_,?_,λk r hk=>?_⟩
   ·cases o.dst<;>simp[Act.put,h2.size]
   ·cases o.dst<;>simp[Act.put,h2.defers]
   ·obtain⟨u,hu,hpu⟩:=h2.tm k r hk;exact⟨u,hput k u v hu (λe=>((hdst i o k hi ho e).1).2 (MH hk)),r.mono hz hpu⟩
  have hvals:∀(v:Value) (Z':Fz) (β':Nat→Nat),Fz.le Z Z'→(∀j,j≠i→β' j=β j)→(o.dst≠none→(KM β' (Gi sp i) i).p Z' v)→∀j o' d,j<N→(j ==i||S j)=true→ops[j]? =some o'→o'.dst=some d→∃u,(a.put o.dst v).tmps[d]? =some u∧(KM β' (Gi sp j) j).p Z' u:=by
   intro v Z' β' hz hβ hp j o' d hj hS' ho' hd
   by_cases hji:j=i
   ·subst hji;rw[ho] at ho';simp at ho';subst ho';refine⟨v,?_,hp (by simp[hd])⟩;have hdn:d<a.tmps.size:=by rw[h2.size];exact(hdst j o d hi ho hd).1.1
    simp[Act.put,hd,hdn]
   ·have hSj:S j=true:=by simpa[hji] using hS'
    obtain⟨u,hu,hpu⟩:=h3 j o' d hj hSj ho' hd;refine⟨u,hput d u v hu (λe=>(hdst i o d hi ho e).2 j hj hji (by simp[DL,ho',hd])),?_⟩;have:KM β' (Gi sp j) j=KM β (Gi sp j) j:=by unfold KM;rw[hβ j hji]
    rw[this];exact(KM β (Gi sp j) j).mono hz hpu
  have hx':∀k j,k<N→(Gi sp k).sto=some j→(k ==i||S k)=true→(j ==i||S j)=true:=λk j hk hs hSk=>by
   by_cases hki:k=i
   ·subst hki;have:=(hb j (S1 k o j hk ho hs).2.1).2;simp[this]
   ·have:S j=true:=hx k j hk hs (by simpa[hki] using hSk);simp[this]
  have hat:=hob.at i o (by rw[hget i hi];exact ho);rw[YV] at hat;unfold Xs at hat;have hag':CW n (Cn ops (Vq sp) (Gi sp i).deps l0) a Z:=Mg h2 (λj hj d hd=>by
    have h4:=b3 i hi j (by simpa[Y6,Zc,hsa i hi] using hj);simp only[Y1,YB,Yv] at h4;obtain⟨⟨h5,h6⟩,h7⟩:=h4;rw[Y6,ho,YN,List.contains_iff_mem] at h6;have hjal:(Gi sp j).al=none:=by
     rw[hals j _ h5] at h7;simpa using h7
    obtain⟨o2,ho2⟩:=hops j h5;obtain⟨v,hv1,hv2⟩:=h3 j o2 d h5 (hb j h6).2 ho2 (by simpa[DL,ho2] using hd);refine⟨v,hv1,?_⟩;rw[hspq j h5];simpa[KM,hjal] using hv2)
  cases hst:(Gi sp i).sto with
  | some j=>
   rw[hst] at hat;obtain⟨hod,d,p,ncs,hd,hal,hlate,hok⟩:=hat;obtain⟨hjN,hjb,_,hial⟩:=S1 i o j hi ho hst;have hSj:=(hb j hjb).2;obtain⟨H',p1,p2⟩:=PZ (S:=S) (β:=β) (i:=i) (j:=j) (p:=p) (ncs:=ncs) sp 0 j (Gi sp j) (by omega) (hsa j hjN) hal hlate hSj hun (λt s q hs _ hq hne he=>by
     obtain⟨ht,rfl⟩:=lt_of t s hs;have:=(L1 t q ht hq).2;rw[he,hst] at this;simp at this;omega) (λt s hs hn he=>by
     obtain⟨ht,rfl⟩:=lt_of t s hs;rw[YV] at he;subst he;exact hn hial)
   obtain⟨o2,ho2⟩:=hops j hjN;obtain⟨v,hv1,hv2⟩:=h3 j o2 d hjN hSj ho2 (by simpa[DL,ho2] using hd);have hag2:CW n ((d,rv (.pointer (some ⟨β j,0,none⟩)))::Cn ops (Vq sp) (Gi sp i).deps l0) a Z:=⟨hag'.size,hag'.defers,λk r hk=>by
    rw[C4] at hk
    split at hk
    ·rename_i e;subst e;simp at hk;subst hk
     exact⟨v,hv1,by simpa[KM,hal] using hv2⟩
    ·exact hag'.tm k r hk⟩
   refine hok (β j) (H++H') a w Z K hag2 (h1.perm ((List.Perm.append_left H p1).trans List.perm_middle)) (λv w' Z' hz _ hs'=>hK _ _ ⟨β,Z',?_,hagr v Z' hz,hvals v Z' β hz (λ_ _=>rfl) (λhne=>absurd hod hne),hx'⟩);exact hs'.perm (List.perm_middle.symm.trans (List.Perm.append_left H p2.symm))
  | none=>
   rw[hst] at hat;have latene:∀t q,t<N→(Gi sp t).late=some q→q.1≠i:=λt q ht hq he=>by
    have:=(L1 t q ht hq).2;rw[he,hst] at this;cases this
   cases hal:(Gi sp i).al with
   | none=>
    rw[hal] at hat;refine hat _ a w Z K hag' h1 (λv w' Z' hz hp hst'=>hK _ _ ⟨β,Z',?_,hagr v Z' hz,hvals v Z' β hz (λ_ _=>rfl) (λ_=>by unfold KM;rw[hal];exact hp),hx'⟩);rw[G5 (S':=S) (β':=β) sp 0 (λt s hs hn=>by
     obtain⟨ht,rfl⟩:=lt_of t s hs;have:t≠i:=λe=>by subst e;exact hn hal
     refine⟨by simp[this],λ_=>⟨rfl,λq hq=>?_⟩⟩;have:=latene t q ht hq;simp[this])]
    exact hst'
   | some p=>
    rw[hal] at hat;have key:=λK' hK'=>hat (H++Gf S β sp 0) a w Z K' h1 hK';have h5:∀b w',St c (.blk b p.1 p.2::(H++Gf S β sp 0)) Z w'→K (a.put o.dst (.pointer (some ⟨b,0,none⟩))) w':=λb w' hst'=>by
     refine hK _ _ ⟨λj=>if j=i then b else β j,Z,?_,hagr _ Z (Fz.le.refl _),hvals _ Z _ (Fz.le.refl _) (λj hj=>by simp[hj]) (λ_=>by simp[KM,hal,rv]),hx'⟩;have hp:=Qa (S:=S) (β:=β) (i:=i) (b:=b) (p:=p) sp 0 i (Gi sp i) (by omega) (hsa i hi) hal hun (λt s q hs _ hq=>by
      obtain⟨ht,rfl⟩:=lt_of t s hs;exact latene t q ht hq) (λq hq=>by
       refine⟨?_,latene i q hi hq⟩
       cases hS:S q.1 with
       | false=>rfl
       | true=>
        obtain⟨h6,h7⟩:=L1 i q hi hq;have:=hx q.1 i h6 h7 hS;rw[this] at hun;cases hun)
     exact hst'.perm ((List.perm_middle.symm).trans (List.Perm.append_left H hp.symm))
    refine⟨λ_=>(key K h5).2,λhw'=>?_⟩;rw[(key K h5).1] at hw';cases hw'
 ·obtain⟨β,Z,h1,h2,h3,_⟩:=hI;refine h β a w Z (RN h2 _ _ 0 (λt o s d ht hs hd=>?_)) (by rw[← Qb];exact h1);obtain⟨htN,rfl⟩:=lt_of t s hs;rw[YV];exact h3 t o d htN rfl (by rw[← hget t htN];exact ht) hd
end
section
variable {P : Program} {n : Nat} {c : Cx} {opsA : Array Oper} {Q : Exit → Act → World → Prop} {l l0 : Fr} {H : List Ent} {sp : List Sa}
theorem LN {id:Nat}{ops:List Oper}(N:Nat)(ks0:List Nat)(sp:List Sa)(hob:Lo P n c ops.toArray Q ops sp l0 H 0 (ops.take N))(h:∀β,WL P n c ops.toArray Q (ops.drop N) (Nl β (ops.take N) sp 0 l0) (H++SV β sp 0))
  (h0:Kp ks0 l l0:=by repeat (first | exact PC | (apply MM;rfl) | (apply Nx;rfl))) (hm:P.follows .mixedOrders=true:=by kernel_rfl) (hB:Ye n ops N (G1 l0) (sp.map (·.deps)) (sp.map (·.al.isSome)) (sp.map (·.late.map (·.1))) (sp.map (·.sto))=true:=by kernel_rfl)
  (hsp:sp.length=N:=by rfl):WC P n c (.region id ops.toArray true) Q l H:=Ws N sp hm hB h0.one hsp hob h
theorem ND {all rest:List Oper}{d:Nat}{op:Op}{ty:TypeId}{pos:String}{af:Array Edge}{i:Nat}
  (hr:∀{H},B0 P n c (Cn all (Vq sp) (Gi sp i).deps l0) H { dst:=some d,op:=op,type:=ty,pos:=pos,after:=af,guard:=none } (Gi sp i).r) (h:Lo P n c opsA Q all sp l0 H (i+1) rest) (ha:(Gi sp i).al=none:=by rfl) (hs:(Gi sp i).sto=none:=by rfl) :
  Lo P n c opsA Q all sp l0 H i ({ dst:=some d,op:=op,type:=ty,pos:=pos,after:=af,guard:=none }::rest):=by
 refine⟨?_,h⟩;unfold Xs;rw[hs,ha];exact λ_=>V3 hr
theorem XT {all rest:List Oper}{d:Nat}{op:Op}{ty:TypeId}{pos:String}{af:Array Edge}{i:Nat}
  (hr:∀{E},B0 P n c (Cn all (Vq sp) (Gi sp i).deps l0) (H++E) { dst:=some d,op:=op,type:=ty,pos:=pos,after:=af,guard:=none } (Gi sp i).r) (h:Lo P n c opsA Q all sp l0 H (i+1) rest) (ha:(Gi sp i).al=none:=by rfl) (hs:(Gi sp i).sto=none:=by rfl) :
  Lo P n c opsA Q all sp l0 H i ({ dst:=some d,op:=op,type:=ty,pos:=pos,after:=af,guard:=none }::rest):=by
 refine⟨?_,h⟩;unfold Xs;rw[hs,ha];exact λ_=>V3 hr
theorem XU {all:List Oper}{i:Nat}:Lo P n c opsA Q all sp l0 H i []:=trivial
end
structure Vc (ks:List Nat) (β:Nat→Nat) (os:List Oper) (sp:List Sa) (i:Nat) (l0 l1:Fr):Prop where
 go:Kp ks (Nl β os sp i l0) l1
section
variable {ks : List Nat} {β : Nat → Nat} {os : List Oper} {sp : List Sa} {i d : Nat} {l0 l1 : Fr} {ds : List Nat} {r : Rp} {p : List Rp × TypeId} {lt : Option (Nat × List Rp)} {so : Option Nat} {op : Op} {ty : TypeId} {pos : String} {af : Array Edge} {g : Option (Nat × Bool)}
theorem X7 (h:ks.contains d=true)(t:Vc ks β os sp (i+1) l0 l1):Vc ks β ({ dst:=some d,op:=op,type:=ty,pos:=pos,after:=af,guard:=g }::os) ({ deps:=ds,r:=r,sto:=so }::sp) i l0 ((d,r)::l1):=⟨MM h t.go⟩
theorem XA (h:ks.contains d=true)(t:Vc ks β os sp (i+1) l0 l1):Vc ks β ({ dst:=some d,op:=op,type:=ty,pos:=pos,after:=af,guard:=g }::os) ({ deps:=ds,r:=r,al:=some p,late:=lt,sto:=so }::sp) i l0 ((d,rv (.pointer (some ⟨β i,0,none⟩)))::l1):=⟨MM h t.go⟩
theorem X9 {s:Sa}(h:ks.contains d=false)(t:Vc ks β os sp (i+1) l0 l1):Vc ks β ({ dst:=some d,op:=op,type:=ty,pos:=pos,after:=af,guard:=g }::os) (s::sp) i l0 l1:=⟨Nx h t.go⟩
theorem X8 {s:Sa}(t:Vc ks β os sp (i+1) l0 l1):Vc ks β ({ dst:=none,op:=op,type:=ty,pos:=pos,after:=af,guard:=g }::os) (s::sp) i l0 l1:=⟨t.go⟩
theorem XB (t:Kp ks l0 l1):Vc ks β [] [] i l0 l1:=⟨t⟩
theorem NX {P:Program}{n:Nat}{c:Cx}{opsA:Array Oper}{Q:Exit→Act→World→Prop}{rest:List Oper}{H H1:List Ent}(ks:List Nat)(h:WL P n c opsA Q rest l1 H1)
  (hz:Vc ks β os sp i l0 l1:=by repeat (first | (apply X7;rfl) | (apply XA;rfl) | (apply X9;rfl) | apply X8 | apply XB | exact PC | (apply MM;rfl) | (apply Nx;rfl))) (hH:H=H1:=by rfl) :
  WL P n c opsA Q rest (Nl β os sp i l0) H:=λa w Z ha hw=>h a w Z (ha.subL hz.go.one) (hH▸hw)
end
section
variable {P : Program} {n : Nat} {c : Cx} {opsA : Array Oper} {Q : Exit → Act → World → Prop} {l l0 : Fr} {H : List Ent} {sp : List Sa}
theorem XV {all rest:List Oper}{o:Oper}{i:Nat}(hr:∀{E},E3 P n c opsA Q (Cn all (Vq sp) (Gi sp i).deps l0) (H++E) o (Gi sp i).r (H++E))(h:Lo P n c opsA Q all sp l0 H (i+1) rest)(ha:(Gi sp i).al=none:=by rfl)(hs:(Gi sp i).sto=none:=by rfl):Lo P n c opsA Q all sp l0 H i (o::rest):=by
 refine⟨?_,h⟩;unfold Xs;rw[hs,ha];exact λ_=>hr
end
def Yn (p:Bool→Prop):Rp:=⟨λ_ v=>∃b,v = .bool b∧p b,λ_ h=>h,true,λ_ Z v ⟨b,e,_⟩=>by rw[e];rfl⟩
section
variable {P : Program} {n : Nat} {c : Cx} {ops : Array Oper} {Q : Exit → Act → World → Prop} {rest : List Oper} {l : Fr} {H : List Ent} {d : Option Nat} {ty rty t e : TypeId} {pos : String} {af : Array Edge} {g : Option (Nat × Bool)} {r : Rp} {x : Operand} {cx cy : Code} {sz : Nat} {xs : List (List Rp)}
theorem T2 {o:Operand}{p:Bool→Prop}(ho:ev l o=some (Yn p))(h1:p true→WC P n c cx Q l H)(h2:p false→WC P n c cy Q l H):WC P n c (.cond o cx cy) Q l H:=λa w Z ha hw=>by
 obtain⟨b,e,hp⟩:=ha.ev ho;exact wp_cond_split e (λe=>h1 (e▸hp) a w Z ha hw) (λe=>h2 (e▸hp) a w Z ha hw)
theorem S6 (ht:P.underlying t=some (.slice e))(h:ev l x=some (AC sz xs)):B0 P n c l H { dst:=d,op:=.binOp .eql t x (.const (.slice none 0 0)) rty,type:=ty,pos:=pos,after:=af,guard:=g } (Yn (λb=>b=true→xs=[])):=λa w Z ha hw=>by
 obtain⟨A,cap,e1,h1,h2,h3,h4⟩:=ha.ev h;refine⟨.bool A.isNone,⟨_,rfl,λhb=>?_⟩,?_⟩
 ·cases A with
  | some a=>cases hb
  | none=>
   have:=h3 rfl;exact List.length_eq_zero_iff.1 (by omega)
 ·have:=run_equal_slice_nil (P:=P) w t e A xs.length cap ht;have e2:a.eval (.const (.slice none 0 0)) = .slice none 0 0:=rfl;simp[execOp,e1,e2,binOp,this,eqGuard]
end
set_option maxRecDepth 100000
set_option maxHeartbeats 4000000
theorem MO:∃inf,Tryz.prog.info? 28=some inf∧inf.zero=some (.slice none 0 0)∧inf.size=1∧inf.bytes=24:=by
  have key:(Tryz.prog.info? 28).map (λi=>(i.zero,i.size,i.bytes))=some (some (.slice none 0 0),1,24):=by kernel_rfl
  obtain⟨inf,h1,h2⟩:=Option.map_eq_some_iff.1 key;simp only[Prod.mk.injEq] at h2;exact⟨inf,h1,h2.1,h2.2.1,h2.2.2⟩
theorem Nd (ys:(List Aa))(r:(List Aa))(h:JD ys=some r):Fn Tryz.prog GE 92 [AC 4 (A0 Ab ys)] [] (λR H=>R=AC 4 (A0 Ab r)∧H=[]):=by
 refine enter (n:=8) Tryz.func92 rfl Tryz.ntmps92 rfl (λw Z=>?_);unfold JD at h;refine Ae (wa rfl (Ak (Am (Ae (wm rfl (wv (S6 Br rfl) (Ak (T2 rfl (λc1=>?_) (λc1=>?_)))))))))
 ·have e2:ys=[]:=List.map_eq_nil_iff.1 (c1 rfl);have h3:some ([]:List Aa)=some r:=by rw[e2] at h;exact(UH h).2
  refine Ae (wa rfl (Ak (Ap (Ac (WK.up (d:=2) (r:=AC 4 (A0 Ab ([]:List Aa))) rfl (Up.le (DJ.nil _)) ?_)))));obtain rfl:=An h3;exact Ao (Bo Tryz.results92 (A5 rfl)) sN ⟨rfl,rfl⟩
 ·refine Aq (A7 (Ae (AX (ys:=([]:List Aa)) (enc:=Ab) (css:=[]) (xs:=[]) Br Bz GX rfl rfl rfl trivial rfl Bi rfl rfl rfl (λb4=>?_))));refine wm rfl (ck h λg6 h7=>Exists.elim G2 λinf hinf=>BZ (xs:=([]:List Aa)) (ys:=ys) (enc:=Ab) (i:=0) Br hinf.1 hinf.2.1 hinf.2.2.1 hinf.2.2.2 rfl rfl rfl rfl rfl (JF.z rfl rfl) Bi Cv g6 rfl (λv5=>?_));refine wa rfl (Ak (Ap (WK.freeze (i:=0) rfl (WK.up (d:=2) (r:=AC 4 (A0 Ab (([]:List Aa)++ys))) rfl (Up.fact (i:=0) rfl) ?_))));obtain rfl:=An h7;exact Ao (Bo Tryz.results92 (A5 rfl)) (sS sN) ⟨rfl,rfl⟩
theorem N6 (ha:Nat)(hb:Value)(key:Av)(x:(List Aa))(out:(List (List Aa)))(r:Bool×(List (List Aa)))(h:LP key x out=some r):Fn Tryz.prog GE 91 [rS key,AC 4 (A0 Ab x),rP ha 0] [.blk ha [rv hb] 24,.row hb 28 1 (A0 Af out)] (λR H=>∃w2_0:Value,R=rB r.1∧H=[.blk ha [rv w2_0] 24,.row w2_0 28 1 (A0 Af r.2)]):=by
 refine enter (n:=11) Tryz.func91 rfl Tryz.ntmps91 rfl (λw Z=>?_);unfold LP at h;refine Ae (wa rfl (Ak (Am (ob h λr1 e3 h2=>LN 4 [1,2] [⟨[],rv hb,none,none,none⟩,⟨[],AC 4 (A0 Ab x),none,none,none⟩,⟨[1],AC 4 (A0 Ab r1),none,none,none⟩,⟨[2],AC 1 (A0 Af ([r1]:List (List Aa))),none,none,none⟩] ?_ (λβ=>?_)))))
 ·refine XT (Bm (i:=0) CX rfl rfl rfl) (ND (A6 rfl) (XV (E6 Tryz.call92 (Nd x r1 e3) rfl) (XV (Ha (ys:=([r1]:List (List Aa))) (enc:=Af) (css:=[[AC 4 (A0 Ab r1)]]) (xs:=[.tmp 8]) BX Cg Mi rfl rfl rfl ⟨Ep.one rfl (Up.refl _),trivial⟩ rfl B2 rfl rfl) ?_)));exact XU
 refine NX (H1:=[.blk ha [rv hb] 24,.row hb 28 1 (A0 Af out)]) [6,7,8,9,1,2] ?_;refine ck h2 λg5 h6=>Exists.elim MO λinf hinf=>BZ (xs:=out) (ys:=([r1]:List (List Aa))) (enc:=Af) (i:=1) BX hinf.1 hinf.2.1 hinf.2.2.1 hinf.2.2.2 rfl rfl rfl rfl rfl (JF.z rfl rfl) B2 Dp g5 rfl (λv4=>?_);refine BA (i:=1) CJ rfl rfl (CP (i:=0) rfl) rfl rfl (cs':=[rv v4]) rfl (H':=[.row v4 28 1 (A0 Af (out++([r1]:List (List Aa)))),.blk ha [rv v4] 24]) rfl (Bc (wa rfl (Ak (Ap (C6 (H2:=[.blk ha [rv v4] 24,.row v4 28 1 (A0 Af (out++([r1]:List (List Aa))))]) ((A4 (i:=1) rfl).trans (Yw _ (Yu _))) ?_)))));obtain rfl:=An h6;exact Ao (Bo Tryz.results91 (A5 rfl)) (sC (sC sN)) ⟨v4,rfl,rfl⟩
theorem Se (F:Nat)(hb:Nat)(hm:Value)(v:(List Aa))(out:(List (List Aa)))(r:(List (List Aa)))(h:Oc F v out=some r):Fn Tryz.prog GE 90 [AC 4 (A0 Ab v),rv (.func (.func 91) #[] #[(.pointer (some ⟨hb,0,none⟩))])] [.blk hb [rv hm] 24,.row hm 28 1 (A0 Af out)] (λR H=>∃w1_0_0:Value,R=rv (.tuple #[])∧H=[.blk hb [rv w1_0_0] 24,.row w1_0_0 28 1 (A0 Af r)]):=by
 refine enter (n:=52) Tryz.func90 rfl Tryz.ntmps90 rfl (λw Z=>?_);unfold Oc at h;refine Ae (wa rfl (Bc (wm rfl (ck h λg1 h2=>wv (AT (enc:=Ab) (ys:=v) Br Bz rfl rfl g1) (wv (AI Bl rfl B9 rfl rfl) (wv (AH BN rfl rfl) (wv (r:=Al 0) (A6 rfl) (Ak (A3 (ob h2 λh0 h1 hn=>Bb (S:=Nat×(Int×Int×(List (List Aa)))×(Value)) (V:=((List (List Aa)))×(Value)) 0 (λσ=>BG (λσ=>HU F v σ.1 σ.2.1 σ.2.2) σ.1 σ.2.1=some h0) (λσ=>[(0,AC 4 (A0 Ab v)),(1,rv (.func (.func 91) #[] #[(.pointer (some ⟨hb,0,none⟩))])),(4,Al σ.2.1.1),(12,Al ((Ax v 0).fN)),(13,Al σ.2.1.2.1)]) (λσ=>[.blk hb [rv σ.2.2] 24,.row σ.2.2 28 1 (A0 Af σ.2.1.2.2)]) (λσ=>σ.1) (F,(1,0,out),hm) h1 (Az.c5 rfl rfl rfl rfl rfl Az.nil) (sC (sC sN)) (λσ=>HT σ.1=some r) (λσ=>[]) (λσ=>[.blk hb [rv σ.2] 24,.row σ.2 28 1 (A0 Af σ.1)]) ?_ ?_))))))))))
 ·rintro⟨n171,⟨ha,hj,hh⟩,he⟩ h3;refine Bs (l':=[(0,AC 4 (A0 Ab v)),(1,rv (.func (.func 91) #[] #[(.pointer (some ⟨hb,0,none⟩))])),(4,Al ha),(12,Al ((Ax v 0).fN)),(13,Al hj)]) (H':=[.blk hb [rv he] 24,.row he 28 1 (A0 Af hh)]) rfl rfl ?_;obtain⟨hr,rfl,h4,hk,hi⟩:=BF h3;replace hk:HU F v ha hj hh=some h4:=hk;unfold HU at hk;refine Ae (wv (BW rfl rfl) (Ak (Am (cz hk rfl (λh5 h6=>?_) (λh5 h7=>?_)))))
  ·refine Aq (A7 (Am (A3 (Ae (wv (r:=rS ([]:Av)) (AE rfl) (Ak (Am (Ae (wm rfl (wv (AT (enc:=Ab) (ys:=v) Br Bz rfl rfl g1) (wv (AI Bl rfl C2 rfl rfl) (wv (AH CA rfl rfl) (wv (Bh rfl rfl) (Ak (cz h6 rfl (λh8 h9=>?_) (λh8 hA=>?_))))))))))))))))
   ·refine Ae (wm rfl (wm rfl (ck h9 λhB hC=>wv (AT (enc:=Ab) (ys:=v) Br Bz rfl rfl hB) (wv (AI Bl rfl C7 rfl rfl) (wv (AH CD rfl rfl) (wa rfl (Ak (Aj (wm rfl (ck hC λhD hE=>wv (Bd rfl rfl hD) (wa rfl (Bc (wm rfl (wm rfl (ck hE λhG hH=>wv (r:=AC 4 (A0 Ab (List.drop (By (ha+1)) v))) (Eb Br Bz rfl rfl hG) (ob hH λhf hI hJ=>BM Qq (HS F (List.drop (By (ha+1)) v) hf hI) rfl (wm rfl (wv (A8 rfl rfl) (wv (A8 rfl rfl) ?_)))))))))))))))))));refine wv (A8 rfl rfl) (Cd (cs:=[Al 0,Al 0,rB false,rB false]) NT rfl rfl (λhs=>?_));refine wa rfl (Bj (i:=0) G7 rfl rfl rfl (BP.c rfl) rfl rfl (cs':=[Al hf.2.1.fDepth,Al hf.2.1.fBytes,rB hf.2.1.fOutside,rB hf.2.1.fLong]) rfl (H':=[.blk hs (AO hf.2.1) 86,.blk hb [rv he] 24,.row he 28 1 (A0 Af hh)]) rfl (wa rfl (Ak (Am (Ae (wm rfl (wm rfl (wm rfl (wm rfl (wm rfl (wm rfl (ck hJ λho hK=>wv (Bd rfl rfl ho) (wm rfl (wm rfl (wv (Bd rfl rfl ho) (ck hK λhL hN=>ck hN λhO hP=>wv (r:=AC 4 (A0 Ab (List.take (By ((ha+1)+hf.1)-By (ha+1)) (List.drop (By (ha+1)) v)))) (E9 Br Bz rfl rfl rfl rfl hL hO) (ob hP λht hQ hR=>CN (rs:=[rS ((Ax v ha).fStr),AC 4 (A0 Ab (List.take (By ((ha+1)+hf.1)-By (ha+1)) (List.drop (By (ha+1)) v)))]) (Hin:=[.blk hb [rv he] 24,.row he 28 1 (A0 Af hh)]) (Hr:=[.blk hs (AO hf.2.1) 86]) Tryz.call91 rfl rfl ((A4 (i:=1) rfl).trans (Yw _ ((A4 (i:=1) rfl).trans (Yw _ (Yu _))))) (N6 hb he ((Ax v ha).fStr) (List.take (By ((ha+1)+hf.1)-By (ha+1)) (List.drop (By (ha+1)) v)) hh ht hQ) rfl ?_)))))))))))))))));rintro _ _ ⟨hu,rfl,rfl⟩;refine wv (B4 rfl) (Ak (cz hR rfl (λhS hT=>?_) (λhS hU=>?_)))
    ·refine Ap (Ac (At (Ac (Ac (AM ?_)))));have hV:=Bg hT hi hn;refine At ?_;obtain rfl:=An hV;exact Ao (Oj NW) (sC (sC (sS sN))) ⟨hu,rfl,rfl⟩
    ·refine Aq (A7 (Aj (wm rfl (wm rfl (wv (Bd rfl rfl ho) (wa rfl (Ai (A2 (A7 (Aj (ck hU λhW hX=>wv (Bd rfl rfl hW) (wm rfl (Ai ?_)))))))))))));have hY:=AW hX hi;exact Au (Ar (hr,((ha+1)+hf.1,hj+1,ht.2),hu) ⟨hY,Yy _⟩ (Az.c5 rfl rfl rfl rfl rfl Az.nil) (sC (sC (sS sN))))
   ·refine Aq (A7 (Ae (wm rfl (wm rfl (ck hA λhZ ga=>wv (r:=AC 4 (A0 Ab (List.drop (By ha) v))) (Eb Br Bz rfl rfl hZ) (ob ga λhg gb gc=>BM Qq (HS F (List.drop (By ha) v) hg gb) rfl (wm rfl (wv (A8 rfl rfl) (wv (A8 rfl rfl) (wv (A8 rfl rfl) (Cd (cs:=[Al 0,Al 0,rB false,rB false]) NT rfl rfl (λhw=>?_))))))))))));refine wa rfl (Bj (i:=0) G7 rfl rfl rfl (BP.c rfl) rfl rfl (cs':=[Al hg.2.1.fDepth,Al hg.2.1.fBytes,rB hg.2.1.fOutside,rB hg.2.1.fLong]) rfl (H':=[.blk hw (AO hg.2.1) 86,.blk hb [rv he] 24,.row he 28 1 (A0 Af hh)]) rfl (wa rfl (Ak (Am (Ae (wm rfl (wm rfl (wm rfl (wm rfl (wm rfl (wm rfl (ck gc λhp gd=>wv (Bd rfl rfl hp) (wm rfl (wm rfl (wv (Bd rfl rfl hp) (ck gd λge gf=>ck gf λgg gh=>wv (r:=AC 4 (A0 Ab (List.take (By (ha+hg.1)-By ha) (List.drop (By ha) v)))) (E9 Br Bz rfl rfl rfl rfl ge gg) (ob gh λhx gi gj=>CN (rs:=[rS ([]:Av),AC 4 (A0 Ab (List.take (By (ha+hg.1)-By ha) (List.drop (By ha) v)))]) (Hin:=[.blk hb [rv he] 24,.row he 28 1 (A0 Af hh)]) (Hr:=[.blk hw (AO hg.2.1) 86]) Tryz.call91 rfl rfl ((A4 (i:=1) rfl).trans (Yw _ ((A4 (i:=1) rfl).trans (Yw _ (Yu _))))) (N6 hb he ([]:Av) (List.take (By (ha+hg.1)-By ha) (List.drop (By ha) v)) hh hx gi) rfl ?_)))))))))))))))));rintro _ _ ⟨hy,rfl,rfl⟩;refine wv (B4 rfl) (Ak (cz gj rfl (λgl gm=>?_) (λgl gp=>?_)))
    ·refine Ap (Ac (At (Ac (Ac (AM ?_)))));have gq:=Bg gm hi hn;refine At ?_;obtain rfl:=An gq;exact Ao (Oj NW) (sC (sC (sS sN))) ⟨hy,rfl,rfl⟩
    ·refine Aq (A7 (Aj (wm rfl (wm rfl (wv (Bd rfl rfl hp) (wa rfl (Ai (A2 (A7 (Aj (ck gp λgr gs=>wv (Bd rfl rfl gr) (wm rfl (Ai ?_)))))))))))));have gt:=AW gs hi;exact Au (Ar (hr,(ha+hg.1,hj+1,hx.2),hy) ⟨gt,Yy _⟩ (Az.c5 rfl rfl rfl rfl rfl Az.nil) (sC (sC (sS sN))))
  ·refine Bf (As ?_);have gu:=Bu h7 hi hn;exact As (AP (Ar (hh,he) gu Az.nil (sC (sC sN))))
 ·rintro⟨hz,hq⟩ hl;refine BK (l':=[]) (H':=[.blk hb [rv hq] 24,.row hq 28 1 (A0 Af hz)]) rfl rfl ?_;replace hl:HT hz=some r:=hl;unfold HT at hl;refine AV ?_;obtain rfl:=An hl;exact E7 (Oj NW) (sC (sC sN)) ⟨hq,rfl,rfl⟩
theorem JV (F:Nat)(v:(List Aa))(r:(List (List Aa))×Int)(h:KL F v=some r):Fn Tryz.prog GE 56 [AC 4 (A0 Ab v)] [] (λR H=>R=Da [AC 1 (A0 Af r.1),Al r.2]∧H=[]):=by
 refine enter (n:=27) Tryz.func56 rfl Tryz.ntmps56 rfl (λw Z=>?_);unfold KL at h;refine Ae (wa rfl (wa rfl (Ak (Am (Ae (wm rfl (ob h λr1 e3 h2=>BM Nn (DR F v r1 e3) rfl (wa rfl (Bc (wm rfl (wv (Bk rfl rfl) (Ak (cz h2 rfl (λc4 h5=>?_) (λc4 h6=>?_))))))))))))))
 ·refine Ae (wm rfl (wa rfl (wa rfl (Ak (Ap (Ac (WK.up (d:=2) (r:=AC 1 (A0 Af ([]:List (List Aa)))) rfl (Up.le (DJ.nil _)) ?_)))))));obtain rfl:=An h5;exact Ao (Dq Tryz.results56 (A5 rfl) (A5 rfl)) sN ⟨rfl,rfl⟩
 ·refine Aq (A7 (Am (ck h6 λg7 h8=>AD [(0,AC 4 (A0 Ab v)),(22,rB ((!decide (((Ax v 0).fKind)=5))&&(!decide (((Ax v 0).fKind)=6))))] [] ?_ ?_)))
  ·refine Aj (wm rfl (wv (AT (enc:=Ab) (ys:=v) Br Bz rfl rfl g7) (wv (AI Bl rfl C2 rfl rfl) (wv (AH CA rfl rfl) (wv (Bk rfl rfl) (wm rfl (AN (!decide (((Ax v 0).fKind)=5)) (λc9=>?_) (λc9=>?_))))))))
   ·refine wo c9 (wm rfl (wo c9 (wv (AT (enc:=Ab) (ys:=v) Br Bz rfl rfl g7) (wo c9 (wv (AI Bl rfl C2 rfl rfl) (wo c9 (wv (AH CA rfl rfl) (wo c9 (wv (Bk rfl rfl) (Cj rfl c9 rfl (Ai ?_)))))))))));exact BJ c9
   ·refine wf c9 (wf c9 (wf c9 (wf c9 (wf c9 (wv (r:=rB false) (Aw rfl c9 rfl) (Ai ?_))))));exact BJ c9
  refine cz h8 rfl (λhe hf=>?_) (λhe hg=>?_)
  ·refine Ae (wa rfl (wa rfl (Ak (Ap (Ac (WK.up (d:=2) (r:=AC 1 (A0 Af ([]:List (List Aa)))) rfl (Up.le (DJ.nil _)) ?_))))));obtain rfl:=An hf;exact Ao (Dq Tryz.results56 (A5 rfl) (A5 rfl)) sN ⟨rfl,rfl⟩
  ·refine Aq (A7 (Ae (Cd (cs:=[rv (.slice none 0 0)]) Tryz.zeroValue24 rfl rfl (λha=>?_))));refine Bc (wm rfl (wv (r:=rv (.func (.func 91) #[] #[(.pointer (some ⟨ha,0,none⟩))])) (BY rfl) (WL.nilrow (e:=28) (sz:=1) (ob hg λhb hh hi=>DN (Hr:=[]) Tryz.call90 (Se F ha (.slice none 0 0                            ) v ([]:List (List Aa)) hb hh) rfl ((A4 (i:=1) rfl).trans (Yw _ (Yu _))) rfl ?_))));rintro _ _ ⟨hj,rfl,rfl⟩;refine Bc (vL 0 CX rfl (wa rfl (wa rfl (Ak (Ap (WK.freeze (i:=1) rfl (WK.up (d:=2) (r:=AC 1 (A0 Af hb)) rfl (Up.fact (i:=0) rfl) ?_)))))));obtain rfl:=An hi;exact Ao (Dq Tryz.results56 (A5 rfl) (A5 rfl)) (sS (sS sN)) ⟨rfl,rfl⟩
end Go.Proofs.YtghdglcmblpbeaaGreatDoor.Q
namespace Go.Proofs.YtghdglcmblpbeaaGreatDoor
open Go
set_option linter.unusedVariables false
def I8 (k:Av)(x:(List Aa))(key:Av)(out:(List Aa)):Option (Bool×(List Aa)):=
 AS (decide (k=key)) (Be (JD x) λr3=>AY (decide (0<r3.length))<|some (!decide (k=key),r3)) (some (!decide (k=key),out))
def I7 (F:Nat)(v:(List Aa))(key:Av)(ha:Int)(hb:Int)(hg:(List Aa)):Option (Stp (Int×Int×(List Aa)) (Out ((List Aa)) ((List Aa)))):=
 AS (decide (hb<((Ax v 0).fN))) (AS (decide (((Ax v 0).fKind)=6)) (AY (Cu ha (v.length:Int))<|AY (BB .i64 (ha+1))<|AY (EU (ha+1) (v.length:Int))<|Be (E5 F (List.drop (Int.toNat (ha+1)) v)) λhe=>AY (BB .i64 ((ha+1)+he.1))<|AY (EU (ha+1) ((ha+1)+he.1))<|AY (EU ((ha+1)+he.1) (v.length:Int))<|Be (I8 ((Ax v ha).fStr) (List.take (Int.toNat ((ha+1)+he.1)-Int.toNat (ha+1)) (List.drop (Int.toNat (ha+1)) v)) key hg) λhh=>AS (!hh.1) (some (.out (.ret hh.2))) (AY (BB .i64 (hb+1))<|some (.next ((ha+1)+he.1,hb+1,hh.2)))) (AY (EU ha (v.length:Int))<|Be (E5 F (List.drop (Int.toNat ha) v)) λhf=>AY (BB .i64 (ha+hf.1))<|AY (EU ha (ha+hf.1))<|AY (EU (ha+hf.1) (v.length:Int))<|Be (I8 ([]:Av) (List.take (Int.toNat (ha+hf.1)-Int.toNat ha) (List.drop (Int.toNat ha) v)) key hg) λhi=>AS (!hi.1) (some (.out (.ret hi.2))) (AY (BB .i64 (hb+1))<|some (.next (ha+hf.1,hb+1,hi.2))))) (some (.out (.go hg)))
def JW (ha:(List Aa)):Option ((List Aa)):=
 some ha
def Pe (F:Nat)(v:(List Aa))(key:Av)(out:(List Aa)):Option ((List Aa)):=
 AY (Cu 0 (v.length:Int))<|Be (BG (λσ=>I7 F v key σ.1 σ.2.1 σ.2.2) F (1,0,out)) (BE λν=>JW ν)
def T9 (F:Nat)(v:(List Aa))(key:Av):Option ((List Aa)×Int):=
 Be (Dk F v) λr2=>AS (!decide (r2=0)) (some (([]:List Aa),r2)) (AY (Cu 0 (v.length:Int))<|AS (!decide (((Ax v 0).fKind)=6)) (some (([]:List Aa),7)) (Be (Pe F v key ([]:List Aa)) λha=>AS (List.isEmpty ha) (some (([]:List Aa),5)) (some (ha,0))))
def Er (F:Nat)(path:(List Av))(he:(List Aa))(ha:Int):Option (Stp ((List Aa)×Int) (Out ((List Aa)×Int) ((List Aa)))):=
 AS (decide (ha<(path.length:Int))) (AY (Cu ha (path.length:Int))<|Be (T9 F he (Ax path ha)) λhb=>AS (!decide (hb.2=0)) (some (.out (.ret (([]:List Aa),hb.2)))) (AY (BB .i64 (ha+1))<|some (.next (hb.1,ha+1)))) (some (.out (.go he)))
def I6 (ha:(List Aa)):Option ((List Aa)×Int):=
 some (ha,0)
def Pc (F:Nat)(v:(List Aa))(path:(List Av)):Option ((List Aa)×Int):=
 Be (Dk F v) λr1=>AS (!decide (r1=0)) (some (([]:List Aa),r1)) (Be (JD v) λr7=>Be (BG (λσ=>Er F path σ.1 σ.2) F (r7,0)) (BE λν=>I6 ν))
def Ev (v:(List Aa))(b:Int)(hb:(List Aa))(ha:Int):Option (Stp ((List Aa)×Int) (Out ((List Aa)) ((List Aa)))):=
 AS (decide (ha<b)) (AY (Cu ha (v.length:Int))<|AY (Ey 40 (hb.length+([(Ax v ha)]:List Aa).length))<|AY (BB .i64 (ha+1))<|some (.next (hb++([(Ax v ha)]:List Aa),ha+1))) (some (.out (.go hb)))
def Ht (ha:(List Aa)):Option ((List Aa)):=
 some ha
def Kd (F:Nat)(v:(List Aa))(a:Int)(b:Int):Option ((List Aa)):=
 Be (BG (λσ=>Ev v b σ.1 σ.2) F (([]:List Aa),a)) (BE λν=>Ht ν)
def DE (F:Nat)(v:(List Aa))(ha:(List (List Aa)))(hb:Int)(he:Int):Option (Stp ((List (List Aa))×Int×Int) (Out ((List (List Aa))×Int) ((List (List Aa))))):=
 AS (decide (he<((Ax v 0).fN))) (AS (decide (((Ax v 0).fKind)=6)) (AY (BB .i64 (hb+1))<|Be (CV F v (hb+1)) λhf=>Be (Kd F v (hb+1) hf) λhg=>AY (Ey 24 (ha.length+([hg]:List (List Aa)).length))<|AY (BB .i64 (he+1))<|some (.next (ha++([hg]:List (List Aa)),hf,he+1))) (Be (CV F v hb) λhh=>Be (Kd F v hb hh) λhi=>AY (Ey 24 (ha.length+([hi]:List (List Aa)).length))<|AY (BB .i64 (he+1))<|some (.next (ha++([hi]:List (List Aa)),hh,he+1)))) (some (.out (.go ha)))
def Je (ha:(List (List Aa))):Option ((List (List Aa))×Int):=
 some (ha,0)
def M8 (F:Nat)(v:(List Aa)):Option ((List (List Aa))×Int):=
 Be (D5 F v) λr1=>AS (!decide (r1=0)) (some (([]:List (List Aa)),r1)) (AY (Cu 0 (v.length:Int))<|AS (((!decide (((Ax v 0).fKind)=5))&&(!decide (((Ax v 0).fKind)=6)))) (some (([]:List (List Aa)),7)) (Be (BG (λσ=>DE F v σ.1 σ.2.1 σ.2.2) F (([]:List (List Aa)),1,0)) (BE λν=>Je ν)))
def Ew (F:Nat)(v:(List Aa))(hb:(List Av))(ha:Int)(he:Int):Option (Stp ((List Av)×Int×Int) (Out ((List Av)×Int) ((List Av)))):=
 AS (decide (he<((Ax v 0).fN))) (AY (Cu ha (v.length:Int))<|AY (Ey 16 (hb.length+([(Ax v ha).fStr]:List Av).length))<|AY (BB .i64 (ha+1))<|Be (CV F v (ha+1)) λhf=>AY (BB .i64 (he+1))<|some (.next (hb++([(Ax v ha).fStr]:List Av),hf,he+1))) (some (.out (.go hb)))
def Kf (ha:(List Av)):Option ((List Av)×Int):=
 some (ha,0)
def Ps (F:Nat)(v:(List Aa)):Option ((List Av)×Int):=
 Be (D5 F v) λr1=>AS (!decide (r1=0)) (some (([]:List Av),r1)) (AY (Cu 0 (v.length:Int))<|AS (!decide (((Ax v 0).fKind)=6)) (some (([]:List Av),7)) (Be (BG (λσ=>Ew F v σ.1 σ.2.1 σ.2.2) F (([]:List Av),1,0)) (BE λν=>Kf ν)))
def GK (key:Av)(r1:(List Av)×Int)(r7:(List (List Aa))×Int)(ha:Int):Option (Stp (Int) (Out ((List Aa)×Int) (Unit))):=
 AS (decide (ha<(r1.1.length:Int))) (AY (Cu ha (r1.1.length:Int))<|AS (decide ((Ax r1.1 ha)=key)) (AY (Cu ha (r7.1.length:Int))<|some (.out (.ret (Ax r7.1 ha,0)))) (AY (BB .i64 (ha+1))<|some (.next (ha+1)))) (some (.out (.go ())))
def LU :Option ((List Aa)×Int):=
 some (([]:List Aa),5)
def TR (F:Nat)(v:(List Aa))(key:Av):Option ((List Aa)×Int):=
 Be (Ps F v) λr1=>AS (!decide (r1.2=0)) (some (([]:List Aa),r1.2)) (Be (M8 F v) λr7=>Be (BG (λσ=>GK key r1 r7 σ) F 0) (BE λν=>LU ))
def Eu (F:Nat)(path:(List Av))(hf:Int)(he:(List Aa))(ha:Int):Option (Stp (Int×(List Aa)×Int) (Out ((List Aa)×Int) ((List Aa)))):=
 AS (decide (ha<(path.length:Int))) (AY (Cu ha (path.length:Int))<|Be (TR F he (Ax path ha)) λhb=>AS (!decide (hb.2=0)) (some (.out (.ret (([]:List Aa),hb.2)))) (AY (BB .i64 (ha+1))<|some (.next (hb.2,hb.1,ha+1)))) (some (.out (.go he)))
def ID (ha:(List Aa)):Option ((List Aa)×Int):=
 some (ha,0)
def Po (F:Nat)(v:(List Aa))(path:(List Av)):Option ((List Aa)×Int):=
 Be (D5 F v) λr1=>AS (!decide (r1=0)) (some (([]:List Aa),r1)) (Be (Kd F v 0 (v.length:Int)) λr7=>Be (BG (λσ=>Eu F path σ.1 σ.2.1 σ.2.2) F (r1,r7,0)) (BE λν=>ID ν))
end Go.Proofs.YtghdglcmblpbeaaGreatDoor
namespace Go.Proofs.YtghdglcmblpbeaaGreatDoor.Q
open Go Go.RowKit
set_option linter.unusedVariables false
def NB (sz:Nat)(xs:List (List Rp)):Rp:=⟨λZ v=>OM sz xs Z v∧(xs=[]→v = .slice none 0 0),λh ⟨a,b⟩=>⟨OM.mono h a,b⟩,true,λ_ Z v ⟨⟨A,cap,e,_⟩,_⟩=>by rw[e];rfl⟩
theorem DJ.sn {sz:Nat}{xs:List (List Rp)}:DJ (NB sz xs) (AC sz xs):=λ_ _ h=>h.1
theorem DJ.niln (sz:Nat):DJ (rv (.slice none 0 0)) (NB sz []):=λZ v h=>by rw[show v=_ from h];exact⟨OM.nil sz Z,λ_=>rfl⟩
theorem DJ.upn {T:Type}{sz:Nat}{enc:T→List Rp}{ys:List T}(h:decide (0<ys.length)=true):DJ (AC sz (List.map enc ys)) (NB sz (List.map enc ys)):=λZ v hv=>⟨hv,λe=>by
 have:=YH h;rw[List.map_eq_nil_iff.1 e] at this;exact absurd this (by simp)⟩
section
variable {P : Program} {n : Nat} {c : Cx} {l : Fr} {H : List Ent} {d : Option Nat} {ty rty t e : TypeId} {pos : String} {af : Array Edge} {g : Option (Nat × Bool)} {x : Operand} {sz : Nat}
theorem Q9 {T:Type}{enc:T→List Rp}{ys:List T}(ht:P.underlying t=some (.slice e))(h:ev l x=some (NB sz (List.map enc ys))):B0 P n c l H { dst:=d,op:=.binOp .eql t x (.const (.slice none 0 0)) rty,type:=ty,pos:=pos,after:=af,guard:=g } (rB (List.isEmpty ys)):=λa w Z ha hw=>by
 obtain⟨⟨A,cap,e1,h1,h2,h3,h4⟩,h5⟩:=ha.ev h;have e2:a.eval (.const (.slice none 0 0)) = .slice none 0 0:=rfl;refine⟨.bool A.isNone,?_,?_⟩
 ·show Value.bool A.isNone = .bool ys.isEmpty
  cases ys with
  | nil=>
   have:=h5 rfl;rw[e1] at this
   cases this;rfl
  | cons y r=>
   cases A with
   | some a=>rfl
   | none=>
    have:=h3 rfl;simp only[Y9,Y0] at h1;omega
 ·have:=run_equal_slice_nil (P:=P) w t e A (List.map enc ys).length cap ht;simp only[Y9] at this;simp[execOp,e1,e2,binOp,this,eqGuard]
end
set_option linter.unusedSimpArgs false
set_option maxRecDepth 100000
set_option maxHeartbeats 4000000
theorem Wk:∃inf,Tryz.prog.info? 9=some inf∧inf.zero=some (.string ⟨#[]⟩)∧inf.size=1∧inf.bytes=16:=by
  have key:(Tryz.prog.info? 9).map (λi=>(i.zero,i.size,i.bytes))=some (some (.string ⟨#[]⟩),1,16):=by kernel_rfl
  obtain⟨inf,h1,h2⟩:=Option.map_eq_some_iff.1 key;simp only[Prod.mk.injEq] at h2;exact⟨inf,h1,h2.1,h2.2.1,h2.2.2⟩
theorem Rt (ha:Nat)(hb:Nat)(k:Av)(x:(List Aa))(key:Av)(out:(List Aa))(r:Bool×(List Aa))(h:I8 k x key out=some r):Fn Tryz.prog GE 140 [rS k,AC 4 (A0 Ab x),rP ha 0,rP hb 0] [.blk ha [rS key] 9,.blk hb [NB 4 (A0 Ab out)] 28] (λR H=>R=rB r.1∧H=[.blk ha [rS key] 9,.blk hb [NB 4 (A0 Ab r.2)] 28]):=by
 refine enter (n:=15) Tryz.func140 rfl Tryz.ntmps140 rfl (λw Z=>?_);unfold I8 at h;refine Ae (wa rfl (Ak (Am (Ae (wm rfl (vL 0 CD rfl (wv (DK rfl rfl) (Ak (cz h rfl (λc1 h2=>?_) (λc1 h8=>?_))))))))))
 ·refine Aj (wm rfl (ob h2 λr3 e5 h4=>BM Tryz.call92 (Nd x r3 e5) rfl (ck h4 λg6 h7=>WL.up (d:=11) (r:=NB 4 (A0 Ab r3)) rfl (Up.le (DJ.upn g6)) (BA (i:=1) Cg rfl rfl (BS rfl) rfl rfl (cs':=[NB 4 (A0 Ab r3)]) rfl (H':=[.blk ha [rS key] 9,.blk hb [NB 4 (A0 Ab r3)] 28]) rfl (Bc (wm rfl (vL 0 CD rfl (wv (EL rfl rfl) (wa rfl (Ak (Ap ?_)))))))))));obtain rfl:=An h7;exact Ao (Bo Tryz.results140 (A5 rfl)) (sC (sC sN)) ⟨rfl,rfl⟩
 ·refine Aq (A7 (Ae (wm rfl (vL 0 CD rfl (wv (EL rfl rfl) (wa rfl (Ak (Ap ?_))))))));obtain rfl:=An h8;exact Ao (Bo Tryz.results140 (A5 rfl)) (sC (sC sN)) ⟨rfl,rfl⟩
theorem Vp (F:Nat)(hb:Nat)(he:Nat)(v:(List Aa))(key:Av)(out:(List Aa))(r:(List Aa))(h:Pe F v key out=some r):Fn Tryz.prog GE 90 [AC 4 (A0 Ab v),rv (.func (.func 140) #[] #[(.pointer (some ⟨hb,0,none⟩)),(.pointer (some ⟨he,0,none⟩))])] [.blk hb [rS key] 9,.blk he [NB 4 (A0 Ab out)] 28] (λR H=>R=rv (.tuple #[])∧H=[.blk hb [rS key] 9,.blk he [NB 4 (A0 Ab r)] 28]):=by
 refine enter (n:=52) Tryz.func90 rfl Tryz.ntmps90 rfl (λw Z=>?_);unfold Pe at h;refine Ae (wa rfl (Bc (wm rfl (ck h λg1 h2=>wv (AT (enc:=Ab) (ys:=v) Br Bz rfl rfl g1) (wv (AI Bl rfl B9 rfl rfl) (wv (AH BN rfl rfl) (wv (r:=Al 0) (A6 rfl) (Ak (A3 (ob h2 λhw hx hm=>Bb (S:=Nat×(Int×Int×(List Aa))×(Unit)) (V:=((List Aa))×(Unit)) 0 (λσ=>BG (λσ=>I7 F v key σ.1 σ.2.1 σ.2.2) σ.1 σ.2.1=some hw) (λσ=>[(0,AC 4 (A0 Ab v)),(1,rv (.func (.func 140) #[] #[(.pointer (some ⟨hb,0,none⟩)),(.pointer (some ⟨he,0,none⟩))])),(4,Al σ.2.1.1),(12,Al ((Ax v 0).fN)),(13,Al σ.2.1.2.1)]) (λσ=>[.blk hb [rS key] 9,.blk he [NB 4 (A0 Ab σ.2.1.2.2)] 28]) (λσ=>σ.1) (F,(1,0,out),()) hx (Az.c5 rfl rfl rfl rfl rfl Az.nil) (sC (sC sN)) (λσ=>JW σ.1=some r) (λσ=>[]) (λσ=>[.blk hb [rS key] 9,.blk he [NB 4 (A0 Ab σ.1)] 28]) ?_ ?_))))))))))
 ·rintro⟨gr,⟨ha,hj,hh⟩,⟨⟩⟩ hy;refine Bs (l':=[(0,AC 4 (A0 Ab v)),(1,rv (.func (.func 140) #[] #[(.pointer (some ⟨hb,0,none⟩)),(.pointer (some ⟨he,0,none⟩))])),(4,Al ha),(12,Al ((Ax v 0).fN)),(13,Al hj)]) (H':=[.blk hb [rS key] 9,.blk he [NB 4 (A0 Ab hh)] 28]) rfl rfl ?_;obtain⟨hp,rfl,hz,hk,hi⟩:=BF hy;replace hk:I7 F v key ha hj hh=some hz:=hk;unfold I7 at hk;refine Ae (wv (BW rfl rfl) (Ak (Am (cz hk rfl (λh0 h1=>?_) (λh0 h3=>?_)))))
  ·refine Aq (A7 (Am (A3 (Ae (wv (r:=rS ([]:Av)) (AE rfl) (Ak (Am (Ae (wm rfl (wv (AT (enc:=Ab) (ys:=v) Br Bz rfl rfl g1) (wv (AI Bl rfl C2 rfl rfl) (wv (AH CA rfl rfl) (wv (Bh rfl rfl) (Ak (cz h1 rfl (λh4 h5=>?_) (λh4 h6=>?_))))))))))))))))
   ·refine Ae (wm rfl (wm rfl (ck h5 λh7 h8=>wv (AT (enc:=Ab) (ys:=v) Br Bz rfl rfl h7) (wv (AI Bl rfl C7 rfl rfl) (wv (AH CD rfl rfl) (wa rfl (Ak (Aj (wm rfl (ck h8 λh9 hA=>wv (Bd rfl rfl h9) (wa rfl (Bc (wm rfl (wm rfl (ck hA λhB hC=>wv (r:=AC 4 (A0 Ab (List.drop (By (ha+1)) v))) (Eb Br Bz rfl rfl hB) (ob hC λhf hD hE=>BM Qq (HS F (List.drop (By (ha+1)) v) hf hD) rfl (wm rfl (wv (A8 rfl rfl) (wv (A8 rfl rfl) ?_)))))))))))))))))));refine wv (A8 rfl rfl) (Cd (cs:=[Al 0,Al 0,rB false,rB false]) NT rfl rfl (λhq=>?_));refine wa rfl (Bj (i:=0) G7 rfl rfl rfl (BP.c rfl) rfl rfl (cs':=[Al hf.2.1.fDepth,Al hf.2.1.fBytes,rB hf.2.1.fOutside,rB hf.2.1.fLong]) rfl (H':=[.blk hq (AO hf.2.1) 86,.blk hb [rS key] 9,.blk he [NB 4 (A0 Ab hh)] 28]) rfl (wa rfl (Ak (Am (Ae (wm rfl (wm rfl (wm rfl (wm rfl (wm rfl (wm rfl (ck hE λhn hG=>wv (Bd rfl rfl hn) (wm rfl (wm rfl (wv (Bd rfl rfl hn) (ck hG λhH hI=>ck hI λhJ hK=>wv (r:=AC 4 (A0 Ab (List.take (By ((ha+1)+hf.1)-By (ha+1)) (List.drop (By (ha+1)) v)))) (E9 Br Bz rfl rfl rfl rfl hH hJ) (ob hK λhr hL hN=>CN (rs:=[rS ((Ax v ha).fStr),AC 4 (A0 Ab (List.take (By ((ha+1)+hf.1)-By (ha+1)) (List.drop (By (ha+1)) v)))]) (Hin:=[.blk hb [rS key] 9,.blk he [NB 4 (A0 Ab hh)] 28]) (Hr:=[.blk hq (AO hf.2.1) 86]) Tryz.call140 rfl rfl ((A4 (i:=1) rfl).trans (Yw _ ((A4 (i:=1) rfl).trans (Yw _ (Yu _))))) (Rt hb he ((Ax v ha).fStr) (List.take (By ((ha+1)+hf.1)-By (ha+1)) (List.drop (By (ha+1)) v)) key hh hr hL) rfl ?_)))))))))))))))));rintro _ _ ⟨rfl,rfl⟩;refine wv (B4 rfl) (Ak (cz hN rfl (λhO hP=>?_) (λhO hQ=>?_)))
    ·refine Ap (Ac (At (Ac (Ac (AM ?_)))));have hR:=Bg hP hi hm;refine At ?_;obtain rfl:=An hR;exact Ao (Oj NW) (sC (sC (sS sN))) ⟨rfl,rfl⟩
    ·refine Aq (A7 (Aj (wm rfl (wm rfl (wv (Bd rfl rfl hn) (wa rfl (Ai (A2 (A7 (Aj (ck hQ λhS hT=>wv (Bd rfl rfl hS) (wm rfl (Ai ?_)))))))))))));have hU:=AW hT hi;exact Au (Ar (hp,((ha+1)+hf.1,hj+1,hr.2),()) ⟨hU,Yy _⟩ (Az.c5 rfl rfl rfl rfl rfl Az.nil) (sC (sC (sS sN))))
   ·refine Aq (A7 (Ae (wm rfl (wm rfl (ck h6 λhV hW=>wv (r:=AC 4 (A0 Ab (List.drop (By ha) v))) (Eb Br Bz rfl rfl hV) (ob hW λhg hX hY=>BM Qq (HS F (List.drop (By ha) v) hg hX) rfl (wm rfl (wv (A8 rfl rfl) (wv (A8 rfl rfl) (wv (A8 rfl rfl) (Cd (cs:=[Al 0,Al 0,rB false,rB false]) NT rfl rfl (λhs=>?_))))))))))));refine wa rfl (Bj (i:=0) G7 rfl rfl rfl (BP.c rfl) rfl rfl (cs':=[Al hg.2.1.fDepth,Al hg.2.1.fBytes,rB hg.2.1.fOutside,rB hg.2.1.fLong]) rfl (H':=[.blk hs (AO hg.2.1) 86,.blk hb [rS key] 9,.blk he [NB 4 (A0 Ab hh)] 28]) rfl (wa rfl (Ak (Am (Ae (wm rfl (wm rfl (wm rfl (wm rfl (wm rfl (wm rfl (ck hY λho hZ=>wv (Bd rfl rfl ho) (wm rfl (wm rfl (wv (Bd rfl rfl ho) (ck hZ λga gb=>ck gb λgc gd=>wv (r:=AC 4 (A0 Ab (List.take (By (ha+hg.1)-By ha) (List.drop (By ha) v)))) (E9 Br Bz rfl rfl rfl rfl ga gc) (ob gd λht ge gf=>CN (rs:=[rS ([]:Av),AC 4 (A0 Ab (List.take (By (ha+hg.1)-By ha) (List.drop (By ha) v)))]) (Hin:=[.blk hb [rS key] 9,.blk he [NB 4 (A0 Ab hh)] 28]) (Hr:=[.blk hs (AO hg.2.1) 86]) Tryz.call140 rfl rfl ((A4 (i:=1) rfl).trans (Yw _ ((A4 (i:=1) rfl).trans (Yw _ (Yu _))))) (Rt hb he ([]:Av) (List.take (By (ha+hg.1)-By ha) (List.drop (By ha) v)) key hh ht ge) rfl ?_)))))))))))))))));rintro _ _ ⟨rfl,rfl⟩;refine wv (B4 rfl) (Ak (cz gf rfl (λgg gh=>?_) (λgg gi=>?_)))
    ·refine Ap (Ac (At (Ac (Ac (AM ?_)))));have gj:=Bg gh hi hm;refine At ?_;obtain rfl:=An gj;exact Ao (Oj NW) (sC (sC (sS sN))) ⟨rfl,rfl⟩
    ·refine Aq (A7 (Aj (wm rfl (wm rfl (wv (Bd rfl rfl ho) (wa rfl (Ai (A2 (A7 (Aj (ck gi λgl gm=>wv (Bd rfl rfl gl) (wm rfl (Ai ?_)))))))))))));have gp:=AW gm hi;exact Au (Ar (hp,(ha+hg.1,hj+1,ht.2),()) ⟨gp,Yy _⟩ (Az.c5 rfl rfl rfl rfl rfl Az.nil) (sC (sC (sS sN))))
  ·refine Bf (As ?_);have gq:=Bu h3 hi hm;exact As (AP (Ar (hh,()) gq Az.nil (sC (sC sN))))
 ·rintro⟨hu,⟨⟩⟩ hl;refine BK (l':=[]) (H':=[.blk hb [rS key] 9,.blk he [NB 4 (A0 Ab hu)] 28]) rfl rfl ?_;replace hl:JW hu=some r:=hl;unfold JW at hl;refine AV ?_;obtain rfl:=An hl;exact E7 (Oj NW) (sC (sC sN)) ⟨rfl,rfl⟩
theorem Wt (F:Nat)(v:(List Aa))(key:Av)(r:(List Aa)×Int)(h:T9 F v key=some r):Fn Tryz.prog GE 107 [AC 4 (A0 Ab v),rS key] [] (λR H=>R=Da [AC 4 (A0 Ab r.1),Al r.2]∧H=[]):=by
 refine enter (n:=24) Tryz.func107 rfl Tryz.ntmps107 rfl (λw Z=>?_);unfold T9 at h;refine Ae (Lz rfl (BS rfl) rfl (λb1=>?_));refine wa rfl (wa rfl (Ak (Am (Ae (wm rfl (ob h λr2 e4 h3=>BM Nn (DR F v r2 e4) rfl (wa rfl (Bc (wm rfl (wv (Bk rfl rfl) (Ak (cz h3 rfl (λc5 h6=>?_) (λc5 h7=>?_)))))))))))))
 ·refine Ae (wm rfl (wa rfl (wa rfl (Ak (Ap (Ac (WK.up (d:=4) (r:=AC 4 (A0 Ab ([]:List Aa))) rfl (Up.le (DJ.nil _)) ?_)))))));obtain rfl:=An h6;exact Ao (Dq Rn (A5 rfl) (A5 rfl)) (sS sN) ⟨rfl,rfl⟩
 ·refine Aq (A7 (Am (Ae (wm rfl (ck h7 λg8 h9=>wv (AT (enc:=Ab) (ys:=v) Br Bz rfl rfl g8) (wv (AI Bl rfl C2 rfl rfl) (wv (AH CA rfl rfl) (wv (Bk rfl rfl) (Ak (cz h9 rfl (λhe hf=>?_) (λhe hg=>?_)))))))))))
  ·refine Ae (wa rfl (wa rfl (Ak (Ap (Ac (WK.up (d:=4) (r:=AC 4 (A0 Ab ([]:List Aa))) rfl (Up.le (DJ.nil _)) ?_))))));obtain rfl:=An hf;exact Ao (Dq Rn (A5 rfl) (A5 rfl)) (sS sN) ⟨rfl,rfl⟩
  ·refine Aq (A7 (Ae (Cd (cs:=[rv (.slice none 0 0)]) Mi rfl rfl (λhb=>?_))));refine Bc (wm rfl (wv (r:=rv (.func (.func 140) #[] #[(.pointer (some ⟨b1,0,none⟩)),(.pointer (some ⟨hb,0,none⟩))])) (BY rfl) (WL.upBlk (i:=0) (cs':=[NB 4 (A0 Ab ([]:List Aa))]) rfl ⟨Up.le (DJ.niln _),trivial⟩ (ob hg λha hh hi=>DN (Hr:=[]) Tryz.call90 (Vp F b1 hb v key ([]:List Aa) ha hh) rfl ((A4 (i:=1) rfl).trans (Yw _ (Yu _))) rfl ?_))));rintro _ _ ⟨rfl,rfl⟩;refine Ak (Am (Ae (vL 1 CE rfl (wv (r:=rB (List.isEmpty ha)) (Q9 Br rfl) (Ak (cz hi rfl (λhj hk=>?_) (λhj hl=>?_)))))))
   ·refine Ae (wa rfl (wa rfl (Ak (Ap (Ac (WK.up (d:=4) (r:=AC 4 (A0 Ab ([]:List Aa))) rfl (Up.le (DJ.nil _)) ?_))))));obtain rfl:=An hk;exact Ao (Dq Rn (A5 rfl) (A5 rfl)) (sS (sS sN)) ⟨rfl,rfl⟩
   ·refine Aq (A7 (Ae (vL 1 CE rfl (wa rfl (wa rfl (Ak (Ap (WK.up (d:=4) (r:=AC 4 (A0 Ab ha)) rfl (Up.le DJ.sn) ?_))))))));obtain rfl:=An hl;exact Ao (Dq Rn (A5 rfl) (A5 rfl)) (sS (sS sN)) ⟨rfl,rfl⟩
theorem Vm (F:Nat)(v:(List Aa))(path:(List Av))(r:(List Aa)×Int)(h:Pc F v path=some r):Fn Tryz.prog GE 77 [AC 4 (A0 Ab v),AC 1 (A0 eS path)] [] (λR H=>R=Da [AC 4 (A0 Ab r.1),Al r.2]∧H=[]):=by
 refine enter (n:=37) Tryz.func77 rfl Tryz.ntmps77 rfl (λw Z=>?_);unfold Pc at h;refine Ae (wa rfl (wa rfl (Ak (Am (Ae (wm rfl (ob h λr1 e3 h2=>BM Nn (DR F v r1 e3) rfl (wa rfl (Bc (wm rfl (wv (Bk rfl rfl) (Ak (cz h2 rfl (λc4 h5=>?_) (λc4 h6=>?_))))))))))))))
 ·refine Ae (wm rfl (wa rfl (wa rfl (Ak (Ap (Ac (WK.up (d:=4) (r:=AC 4 (A0 Ab ([]:List Aa))) rfl (Up.le (DJ.nil _)) ?_)))))));obtain rfl:=An h5;exact Ao (Dq Tryz.results77 (A5 rfl) (A5 rfl)) sN ⟨rfl,rfl⟩
 ·refine Aq (A7 (Ae (wm rfl (ob h6 λr7 e9 h8=>BM Tryz.call92 (Nd v r7 e9) rfl (wa rfl (Ak (Am (Ae (wm rfl (wv (AF (ys:=path) (enc:=eS) CS rfl) (wv (r:=Al 0) (A6 rfl) (Ak (A3 (ob h8 λhk hl hh=>Bb (S:=Nat×((List Aa)×Int)×(Unit)) (V:=((List Aa))×(Unit)) 0 (λσ=>BG (λσ=>Er F path σ.1 σ.2) σ.1 σ.2.1=some hk) (λσ=>[(4,rv (.slice none 0 0)),(5,Al 0),(7,AC 4 (A0 Ab σ.2.1.1)),(19,AC 1 (A0 eS path)),(20,Al (path.length:Int)),(21,Al σ.2.1.2)]) (λσ=>[]) (λσ=>σ.1) (F,(r7,0),()) hl (Az.c rfl (Az.c5 rfl rfl rfl rfl rfl Az.nil)) sN (λσ=>I6 σ.1=some r) (λσ=>[(4,rv (.slice none 0 0)),(5,Al 0),(7,AC 4 (A0 Ab σ.1))]) (λσ=>[]) ?_ ?_))))))))))))))
  ·rintro⟨h9,⟨ha,hb⟩,⟨⟩⟩ hm;refine Bs (l':=[(4,rv (.slice none 0 0)),(5,Al 0),(7,AC 4 (A0 Ab ha)),(19,AC 1 (A0 eS path)),(20,Al (path.length:Int)),(21,Al hb)]) (H':=[]) rfl rfl ?_;obtain⟨hn,rfl,ho,he,hg⟩:=BF hm;replace he:Er F path ha hb=some ho:=he;unfold Er at he;refine Ae (wv (BW rfl rfl) (Ak (Am (cz he rfl (λhp hq=>?_) (λhp hr=>?_)))))
   ·refine Aq (A7 (Am (A3 (Ae (ck hq λhs ht=>wv (AT (enc:=eS) (ys:=path) CS C7 rfl rfl hs) (wv (AH CD rfl rfl) (wa rfl (Bc (wm rfl (wm rfl (ob ht λhi hu hw=>BM Tryz.call107 (Wt F ha (Ax path hb) hi hu) rfl (wm rfl (wv (A8 rfl rfl) (wv (A8 rfl rfl) (wa rfl (wa rfl (Ak (Am (Ae (wm rfl (wv (Bk rfl rfl) ?_)))))))))))))))))))));refine Ak (cz hw rfl (λhx hy=>?_) (λhx hz=>?_))
    ·refine Ae (wm rfl (wa rfl (wa rfl (Ak (Ap (Ac (At (Ac (Ac (AM ?_))))))))));have h0:=Bg hy hg hh;refine At (Ac (WK.up (d:=4) (r:=AC 4 (A0 Ab ([]:List Aa))) rfl (Up.le (DJ.nil _)) ?_));obtain rfl:=An h0;exact Ao (Dq Tryz.results77 (A5 rfl) (A5 rfl)) sN ⟨rfl,rfl⟩
    ·refine Aq (A7 (Aj (wm rfl (wa rfl (Ai (A2 (A7 (Aj (ck hz λh1 h3=>wv (Bd rfl rfl h1) (wm rfl (Ai ?_)))))))))));have h4:=AW h3 hg;exact Au (Ar (hn,(hi.1,hb+1),()) ⟨h4,Yy _⟩ (Az.c rfl (Az.c5 rfl rfl rfl rfl rfl Az.nil)) sN)
   ·refine Bf (As ?_);have h7:=Bu hr hg hh;exact As (AP (Ar (ha,()) h7 (Az.c rfl (Az.c rfl (Az.c rfl Az.nil))) sN))
  ·rintro⟨hj,⟨⟩⟩ hf;refine BK (l':=[(4,rv (.slice none 0 0)),(5,Al 0),(7,AC 4 (A0 Ab hj))]) (H':=[]) rfl rfl ?_;replace hf:I6 hj=some r:=hf;unfold I6 at hf;refine AV (A7 (Ae (wm rfl (wa rfl (wa rfl (Ak (Ap ?_)))))));obtain rfl:=An hf;exact Ao (Dq Tryz.results77 (A5 rfl) (A5 rfl)) sN ⟨rfl,rfl⟩
theorem Om (F:Nat)(v:(List Aa))(a:Int)(b:Int)(r:(List Aa))(h:Kd F v a b=some r):Fn Tryz.prog GE 81 [AC 4 (A0 Ab v),Al a,Al b] [] (λR H=>R=AC 4 (A0 Ab r)∧H=[]):=by
 refine enter (n:=23) Tryz.func81 rfl Tryz.ntmps81 rfl (λw Z=>?_);unfold Kd at h;refine Ae (wa rfl (Bc (wa rfl (Ak (Am (Ae (wm rfl (wa rfl (Ak (A3 (WC.nilrow (e:=54) (sz:=4) (ob h λhk hl hm=>Bb (S:=Nat×((List Aa)×Int)×(Value)) (V:=((List Aa))×(Value)) 0 (λσ=>BG (λσ=>Ev v b σ.1 σ.2) σ.1 σ.2.1=some hk) (λσ=>[(0,AC 4 (A0 Ab v)),(2,Al b),(6,rv (.slice none 0 0)),(7,rv σ.2.2),(8,Al σ.2.1.2)]) (λσ=>[.row σ.2.2 54 4 (A0 Ab σ.2.1.1)]) (λσ=>σ.1) (F,(([]:List Aa),a),(.slice none 0 0                                                      )) hl (Az.c5 rfl rfl rfl rfl rfl Az.nil) (sC sN) (λσ=>Ht σ.1=some r) (λσ=>[(6,rv (.slice none 0 0)),(7,rv σ.2)]) (λσ=>[.row σ.2 54 4 (A0 Ab σ.1)]) ?_ ?_))))))))))))
 ·rintro⟨h2,⟨hb,ha⟩,hg⟩ hn;refine Bs (l':=[(0,AC 4 (A0 Ab v)),(2,Al b),(6,rv (.slice none 0 0)),(7,rv hg),(8,Al ha)]) (H':=[.row hg 54 4 (A0 Ab hb)]) rfl rfl ?_;obtain⟨ho,rfl,hp,he,hi⟩:=BF hn;replace he:Ev v b hb ha=some hp:=he;unfold Ev at he;refine Am (Ae (wm rfl (wm rfl (wv (BW rfl rfl) (Ak (cz he rfl (λc51 hq=>?_) (λc51 hr=>?_)))))))
  ·refine Aq (A7 (Am (A3 (Aj (wm rfl (wm rfl (wm rfl (ck hq λhs ht=>wv (AT (enc:=Ab) (ys:=v) Br Bz rfl rfl hs) (wv (Cy Jp Bz rfl rfl rfl) (AX (ys:=([(Ax v ha)]:List Aa)) (enc:=Ab) (css:=[[Al ((Ax v ha).fKind),Al ((Ax v ha).fInt),rS ((Ax v ha).fStr),Al ((Ax v ha).fN)]]) (xs:=[.tmp 19]) Br Bz GX rfl rfl rfl ⟨Ep.agg ⟨Up.refl _,Up.refl _,Up.refl _,Up.refl _,trivial⟩,trivial⟩ rfl Bi rfl rfl rfl (λh3=>?_)))))))))));refine ck ht λhu hw=>Exists.elim G2 λinf hinf=>BZ (xs:=hb) (ys:=([(Ax v ha)]:List Aa)) (enc:=Ab) (i:=1) Br hinf.1 hinf.2.1 hinf.2.2.1 hinf.2.2.2 rfl rfl rfl rfl rfl (JF.w (i:=0) rfl rfl) Bi Cv hu rfl (λhx=>?_);refine wa rfl (Ai (A2 (A7 (Aj (wm rfl (ck hw λhy hz=>wv (Bd rfl rfl hy) (wa rfl (Ai ?_))))))));have h0:=AW hz hi;exact Au (Ar (ho,(hb++([(Ax v ha)]:List Aa),ha+1),hx) ⟨h0,Yy _⟩ (Az.c5 rfl rfl rfl rfl rfl Az.nil) (sC (sS sN)))
  ·refine Bf (As ?_);have h1:=Bu hr hi hm;exact As (AP (Ar (hb,hg) h1 (Az.c rfl (Az.c rfl Az.nil)) (sC sN)))
 ·rintro⟨hh,hj⟩ hf;refine BK (l':=[(6,rv (.slice none 0 0)),(7,rv hj)]) (H':=[.row hj 54 4 (A0 Ab hh)]) rfl rfl ?_;replace hf:Ht hh=some r:=hf;unfold Ht at hf;refine AV (A7 (Ae (wm rfl (wa rfl (Ak (Ap (WK.freeze (i:=0) rfl (WK.up (d:=6) (r:=AC 4 (A0 Ab hh)) rfl (Up.fact (i:=0) rfl) ?_))))))));obtain rfl:=An hf;exact Ao (Bo Tryz.results81 (A5 rfl)) (sS sN) ⟨rfl,rfl⟩
theorem TP (F:Nat)(v:(List Aa))(r:(List (List Aa))×Int)(h:M8 F v=some r):Fn Tryz.prog GE 60 [AC 4 (A0 Ab v)] [] (λR H=>R=Da [AC 1 (A0 Af r.1),Al r.2]∧H=[]):=by
 refine enter (n:=53) Tryz.func60 rfl Tryz.ntmps60 rfl (λw Z=>?_);unfold M8 at h;refine Ae (wa rfl (wa rfl (Bc (wm rfl (ob h λr1 e3 h2=>BM Qr (Gz F v r1 e3) rfl (wa rfl (Ak (Am (Ae (wm rfl (wv (Bk rfl rfl) (Ak (cz h2 rfl (λc4 h5=>?_) (λc4 h6=>?_))))))))))))))
 ·refine Ae (wm rfl (wa rfl (wa rfl (Ak (Ap (Ac (WK.up (d:=2) (r:=AC 1 (A0 Af ([]:List (List Aa)))) rfl (Up.le (DJ.nil _)) ?_)))))));obtain rfl:=An h5;exact Ao (Dq Tryz.results60 (A5 rfl) (A5 rfl)) sN ⟨rfl,rfl⟩
 ·refine Aq (A7 (Am (ck h6 λg7 h8=>AD [(0,AC 4 (A0 Ab v)),(25,rB ((!decide (((Ax v 0).fKind)=5))&&(!decide (((Ax v 0).fKind)=6))))] [] ?_ ?_)))
  ·refine Aj (wm rfl (wv (AT (enc:=Ab) (ys:=v) Br Bz rfl rfl g7) (wv (AI Bl rfl C2 rfl rfl) (wv (AH CA rfl rfl) (wv (Bk rfl rfl) (wm rfl (AN (!decide (((Ax v 0).fKind)=5)) (λc9=>?_) (λc9=>?_))))))))
   ·refine wo c9 (wm rfl (wo c9 (wv (AT (enc:=Ab) (ys:=v) Br Bz rfl rfl g7) (wo c9 (wv (AI Bl rfl C2 rfl rfl) (wo c9 (wv (AH CA rfl rfl) (wo c9 (wv (Bk rfl rfl) (Cj rfl c9 rfl (Ai ?_)))))))))));exact BJ c9
   ·refine wf c9 (wf c9 (wf c9 (wf c9 (wf c9 (wv (r:=rB false) (Aw rfl c9 rfl) (Ai ?_))))));exact BJ c9
  refine cz h8 rfl (λhp hq=>?_) (λhp hr=>?_)
  ·refine Ae (wa rfl (wa rfl (Ak (Ap (Ac (WK.up (d:=2) (r:=AC 1 (A0 Af ([]:List (List Aa)))) rfl (Up.le (DJ.nil _)) ?_))))));obtain rfl:=An hq;exact Ao (Dq Tryz.results60 (A5 rfl) (A5 rfl)) sN ⟨rfl,rfl⟩
  ·refine Aq (A7 (Ae (wa rfl (Bc (wa rfl (Ak (Am (Ae (wa rfl (Ak (A3 (WC.nilrow (e:=28) (sz:=1) (ob hr λhs ht hu=>Bb (S:=Nat×((List (List Aa))×Int×Int)×(Value)) (V:=((List (List Aa)))×(Value)) 0 (λσ=>BG (λσ=>DE F v σ.1 σ.2.1 σ.2.2) σ.1 σ.2.1=some hs) (λσ=>[(0,AC 4 (A0 Ab v)),(5,rv σ.2.2),(6,Al σ.2.1.2.1),(7,Al σ.2.1.2.2)]) (λσ=>[.row σ.2.2 28 1 (A0 Af σ.2.1.1)]) (λσ=>σ.1) (F,(([]:List (List Aa)),1,0),(.slice none 0 0                            )) ht (Az.c rfl (Az.c rfl (Az.c rfl (Az.c rfl Az.nil)))) (sC sN) (λσ=>Je σ.1=some r) (λσ=>[(5,rv σ.2)]) (λσ=>[.row σ.2 28 1 (A0 Af σ.1)]) ?_ ?_)))))))))))))
   ·rintro⟨hX,⟨ha,hb,hg⟩,v76⟩ hw;refine Bs (l':=[(0,AC 4 (A0 Ab v)),(5,rv v76),(6,Al hb),(7,Al hg)]) (H':=[.row v76 28 1 (A0 Af ha)]) rfl rfl ?_;obtain⟨hn,rfl,hx,hh,hj⟩:=BF hw;replace hh:DE F v ha hb hg=some hx:=hh;unfold DE at hh;refine Am (Ae (wm rfl (wm rfl (wv (AT (enc:=Ab) (ys:=v) Br Bz rfl rfl g7) (wv (AI Bl rfl B9 rfl rfl) (wv (AH BN rfl rfl) (wv (BW rfl rfl) (Ak (cz hh rfl (λhy hz=>?_) (λhy h0=>?_))))))))))
    ·refine Aq (A7 (Am (A3 (Am (Ae (wm rfl (wv (AT (enc:=Ab) (ys:=v) Br Bz rfl rfl g7) (wv (AI Bl rfl C2 rfl rfl) (wv (AH CA rfl rfl) (wv (Bh rfl rfl) (Ak (cz hz rfl (λh1 h3=>?_) (λh1 h4=>?_)))))))))))))
     ·refine Aj (wm rfl (ck h3 λh7 h9=>wv (Bd rfl rfl h7) (wa rfl (Bc (wm rfl (wm rfl (ob h9 λhk hA hB=>BM JG (DY F v (hb+1) hk hA) rfl (wa rfl (Bc (wm rfl (wm rfl (wm rfl (wm rfl (ob hB λhe hC hD=>BM Tryz.call81 (Om F v (hb+1) hk he hC) rfl (AX (ys:=([he]:List (List Aa))) (enc:=Af) (css:=[[AC 4 (A0 Ab he)]]) (xs:=[.tmp 48]) BX Cg Mi rfl rfl rfl ⟨Ep.one rfl (Up.refl _),trivial⟩ rfl B2 rfl rfl rfl (λhY=>?_))))))))))))))));refine ck hD λhE hG=>Exists.elim MO λinf hinf=>BZ (xs:=ha) (ys:=([he]:List (List Aa))) (enc:=Af) (i:=1) BX hinf.1 hinf.2.1 hinf.2.2.1 hinf.2.2.2 rfl rfl rfl rfl rfl (JF.w (i:=0) rfl rfl) B2 Dp hE rfl (λhH=>?_);refine wa rfl (Ak (Aj (wm rfl (wa rfl (Ai (A2 (A7 (Aj (wm rfl (ck hG λhI hJ=>wv (Bd rfl rfl hI) (wa rfl (Ai ?_))))))))))));have hK:=AW hJ hj;exact Au (Ar (hn,(ha++([he]:List (List Aa)),hk,hg+1),hH) ⟨hK,Yy _⟩ (Az.c rfl (Az.c rfl (Az.c rfl (Az.c rfl Az.nil)))) (sC (sS sN)))
     ·refine Aq (A7 (Ae (wm rfl (wm rfl (ob h4 λhl hL hN=>BM JG (DY F v hb hl hL) rfl (wa rfl (Bc (wm rfl (wm rfl (wm rfl (wm rfl (ob hN λhf hO hP=>BM Tryz.call81 (Om F v hb hl hf hO) rfl (AX (ys:=([hf]:List (List Aa))) (enc:=Af) (css:=[[AC 4 (A0 Ab hf)]]) (xs:=[.tmp 48]) BX Cg Mi rfl rfl rfl ⟨Ep.one rfl (Up.refl _),trivial⟩ rfl B2 rfl rfl rfl (λhZ=>?_))))))))))))));refine ck hP λhQ hR=>Exists.elim MO λinf hinf=>BZ (xs:=ha) (ys:=([hf]:List (List Aa))) (enc:=Af) (i:=1) BX hinf.1 hinf.2.1 hinf.2.2.1 hinf.2.2.2 rfl rfl rfl rfl rfl (JF.w (i:=0) rfl rfl) B2 Dp hQ rfl (λhS=>?_);refine wa rfl (Ak (Aj (wm rfl (wa rfl (Ai (A2 (A7 (Aj (wm rfl (ck hR λhT hU=>wv (Bd rfl rfl hT) (wa rfl (Ai ?_))))))))))));have hV:=AW hU hj;exact Au (Ar (hn,(ha++([hf]:List (List Aa)),hl,hg+1),hS) ⟨hV,Yy _⟩ (Az.c rfl (Az.c rfl (Az.c rfl (Az.c rfl Az.nil)))) (sC (sS sN)))
    ·refine Bf (As ?_);have hW:=Bu h0 hj hu;exact As (AP (Ar (ha,v76) hW (Az.c rfl Az.nil) (sC sN)))
   ·rintro⟨hm,ho⟩ hi;refine BK (l':=[(5,rv ho)]) (H':=[.row ho 28 1 (A0 Af hm)]) rfl rfl ?_;replace hi:Je hm=some r:=hi;unfold Je at hi;refine AV (A7 (Ae (wm rfl (wa rfl (wa rfl (Ak (Ap (WK.freeze (i:=0) rfl (WK.up (d:=2) (r:=AC 1 (A0 Af hm)) rfl (Up.fact (i:=0) rfl) ?_)))))))));obtain rfl:=An hi;exact Ao (Dq Tryz.results60 (A5 rfl) (A5 rfl)) (sS sN) ⟨rfl,rfl⟩
theorem Vx (F:Nat)(v:(List Aa))(r:(List Av)×Int)(h:Ps F v=some r):Fn Tryz.prog GE 111 [AC 4 (A0 Ab v)] [] (λR H=>R=Da [AC 1 (A0 eS r.1),Al r.2]∧H=[]):=by
 refine enter (n:=39) Tryz.func111 rfl Tryz.ntmps111 rfl (λw Z=>?_);unfold Ps at h;refine Ae (wa rfl (wa rfl (Bc (wm rfl (ob h λr1 e3 h2=>BM Qr (Gz F v r1 e3) rfl (wa rfl (Ak (Am (Ae (wm rfl (wv (Bk rfl rfl) (Ak (cz h2 rfl (λc4 h5=>?_) (λc4 h6=>?_))))))))))))))
 ·refine Ae (wm rfl (wa rfl (wa rfl (Ak (Ap (Ac (WK.up (d:=2) (r:=AC 1 (A0 eS ([]:List Av))) rfl (Up.le (DJ.nil _)) ?_)))))));obtain rfl:=An h5;exact Ao (Dq Tryz.results111 (A5 rfl) (A5 rfl)) sN ⟨rfl,rfl⟩
 ·refine Aq (A7 (Am (Ae (wm rfl (ck h6 λg7 h8=>wv (AT (enc:=Ab) (ys:=v) Br Bz rfl rfl g7) (wv (AI Bl rfl C2 rfl rfl) (wv (AH CA rfl rfl) (wv (Bk rfl rfl) (Ak (cz h8 rfl (λc9 hm=>?_) (λc9 hn=>?_)))))))))))
  ·refine Ae (wa rfl (wa rfl (Ak (Ap (Ac (WK.up (d:=2) (r:=AC 1 (A0 eS ([]:List Av))) rfl (Up.le (DJ.nil _)) ?_))))));obtain rfl:=An hm;exact Ao (Dq Tryz.results111 (A5 rfl) (A5 rfl)) sN ⟨rfl,rfl⟩
  ·refine Aq (A7 (Ae (wa rfl (Bc (wa rfl (Ak (Am (Ae (wa rfl (Ak (A3 (WC.nilrow (e:=9) (sz:=1) (ob hn λho hp hq=>Bb (S:=Nat×((List Av)×Int×Int)×(Value)) (V:=((List Av))×(Value)) 0 (λσ=>BG (λσ=>Ew F v σ.1 σ.2.1 σ.2.2) σ.1 σ.2.1=some ho) (λσ=>[(0,AC 4 (A0 Ab v)),(2,rv (.slice none 0 0)),(3,Al 0),(5,rv σ.2.2),(6,Al σ.2.1.2.1),(7,Al σ.2.1.2.2)]) (λσ=>[.row σ.2.2 9 1 (A0 eS σ.2.1.1)]) (λσ=>σ.1) (F,(([]:List Av),1,0),(.slice none 0 0         )) hp (Az.c rfl (Az.c5 rfl rfl rfl rfl rfl Az.nil)) (sC sN) (λσ=>Kf σ.1=some r) (λσ=>[(2,rv (.slice none 0 0)),(3,Al 0),(5,rv σ.2)]) (λσ=>[.row σ.2 9 1 (A0 eS σ.1)]) ?_ ?_)))))))))))))
   ·rintro⟨hD,⟨hb,ha,hg⟩,hh⟩ hr;refine Bs (l':=[(0,AC 4 (A0 Ab v)),(2,rv (.slice none 0 0)),(3,Al 0),(5,rv hh),(6,Al ha),(7,Al hg)]) (H':=[.row hh 9 1 (A0 eS hb)]) rfl rfl ?_;obtain⟨hs,rfl,ht,he,hj⟩:=BF hr;replace he:Ew F v hb ha hg=some ht:=he;unfold Ew at he;refine Am (Ae (wm rfl (wm rfl (wv (AT (enc:=Ab) (ys:=v) Br Bz rfl rfl g7) (wv (AI Bl rfl B9 rfl rfl) (wv (AH BN rfl rfl) (wv (BW rfl rfl) (Ak (cz he rfl (λc75 hu=>?_) (λc75 hw=>?_))))))))))
    ·refine Aq (A7 (Am (A3 (Ae (wm rfl (wm rfl (wm rfl (ck hu λhx hy=>wv (AT (enc:=Ab) (ys:=v) Br Bz rfl rfl hx) (wv (AI Bl rfl C7 rfl rfl) (wv (AH CD rfl rfl) (AX (ys:=([(Ax v ha).fStr]:List Av)) (enc:=eS) (css:=[[rS ((Ax v ha).fStr)]]) (xs:=[.tmp 31]) CS C7 Wp rfl rfl rfl ⟨Ep.one rfl (Up.refl _),trivial⟩ rfl He rfl rfl rfl (λhE=>?_))))))))))));refine ck hy λhz h0=>Exists.elim Wk λinf hinf=>BZ (xs:=hb) (ys:=([(Ax v ha).fStr]:List Av)) (enc:=eS) (i:=1) CS hinf.1 hinf.2.1 hinf.2.2.1 hinf.2.2.2 rfl rfl rfl rfl rfl (JF.w (i:=0) rfl rfl) He UB hz rfl (λv80=>?_);refine wa rfl (Ak (Aj (wm rfl (wm rfl (ck h0 λh1 h3=>wv (Bd rfl rfl h1) (ob h3 λhk h4 h7=>BM JG (DY F v (ha+1) hk h4) rfl (wa rfl (Ai (A2 (A7 (Aj (wm rfl (ck h7 λh9 hA=>wv (Bd rfl rfl h9) (wa rfl (Ai ?_)))))))))))))));have hB:=AW hA hj;exact Au (Ar (hs,(hb++([(Ax v ha).fStr]:List Av),hk,hg+1),v80) ⟨hB,Yy _⟩ (Az.c rfl (Az.c5 rfl rfl rfl rfl rfl Az.nil)) (sC (sS sN)))
    ·refine Bf (As ?_);have hC:=Bu hw hj hq;exact As (AP (Ar (hb,hh) hC (Az.c rfl (Az.c rfl (Az.c rfl Az.nil))) (sC sN)))
   ·rintro⟨hi,hl⟩ hf;refine BK (l':=[(2,rv (.slice none 0 0)),(3,Al 0),(5,rv hl)]) (H':=[.row hl 9 1 (A0 eS hi)]) rfl rfl ?_;replace hf:Kf hi=some r:=hf;unfold Kf at hf;refine AV (A7 (Ae (wm rfl (wa rfl (wa rfl (Ak (Ap (WK.freeze (i:=0) rfl (WK.up (d:=2) (r:=AC 1 (A0 eS hi)) rfl (Up.fact (i:=0) rfl) ?_)))))))));obtain rfl:=An hf;exact Ao (Dq Tryz.results111 (A5 rfl) (A5 rfl)) (sS sN) ⟨rfl,rfl⟩
theorem Wx (F:Nat)(v:(List Aa))(key:Av)(r:(List Aa)×Int)(h:TR F v key=some r):Fn Tryz.prog GE 82 [AC 4 (A0 Ab v),rS key] [] (λR H=>R=Da [AC 4 (A0 Ab r.1),Al r.2]∧H=[]):=by
 refine enter (n:=40) Tryz.func82 rfl Tryz.ntmps82 rfl (λw Z=>?_);unfold TR at h;refine Ae (wa rfl (wa rfl (Bc (wm rfl (ob h λr1 e3 h2=>BM Tryz.call111 (Vx F v r1 e3) rfl (wm rfl (wv (A8 rfl rfl) (wv (A8 rfl rfl) (wa rfl (wa rfl (Ak (Am (Ae (wm rfl (wv (Bk rfl rfl) (Ak (cz h2 rfl (λc4 h5=>?_) (λc4 h6=>?_))))))))))))))))))
 ·refine Ae (wm rfl (wa rfl (wa rfl (Ak (Ap (Ac (WK.up (d:=4) (r:=AC 4 (A0 Ab ([]:List Aa))) rfl (Up.le (DJ.nil _)) ?_)))))));obtain rfl:=An h5;exact Ao (Dq Tryz.results82 (A5 rfl) (A5 rfl)) sN ⟨rfl,rfl⟩
 ·refine Aq (A7 (Ae (wm rfl (ob h6 λr7 e9 h8=>BM Tryz.call60 (TP F v r7 e9) rfl (wm rfl (wv (A8 rfl rfl) (wv (A8 rfl rfl) (wa rfl (wa rfl (Ak (Am (Ae (wa rfl (Ak (A3 (ob h8 λhh hi hg=>Bb (S:=Nat×(Int)×(Unit)) (V:=(Unit)×(Unit)) 0 (λσ=>BG (λσ=>GK key r1 r7 σ) σ.1 σ.2.1=some hh) (λσ=>[(1,rS key),(4,rv (.slice none 0 0)),(5,Al 0),(6,AC 1 (A0 eS r1.1)),(8,AC 1 (A0 Af r7.1)),(10,Al σ.2.1)]) (λσ=>[]) (λσ=>σ.1) (F,0,()) hi (Az.c rfl (Az.c5 rfl rfl rfl rfl rfl Az.nil)) sN (λσ=>LU =some r) (λσ=>[(4,rv (.slice none 0 0)),(5,Al 0)]) (λσ=>[]) ?_ ?_))))))))))))))))
  ·rintro⟨h3,he,⟨⟩⟩ hj;refine Bs (l':=[(1,rS key),(4,rv (.slice none 0 0)),(5,Al 0),(6,AC 1 (A0 eS r1.1)),(8,AC 1 (A0 Af r7.1)),(10,Al he)]) (H':=[]) rfl rfl ?_;obtain⟨hk,rfl,hl,ha,hf⟩:=BF hj;replace ha:GK key r1 r7 he=some hl:=ha;unfold GK at ha;refine Am (Ae (wm rfl (wm rfl (wv (AF (ys:=r1.1) (enc:=eS) CS rfl) (wv (BW rfl rfl) (Ak (cz ha rfl (λhm hn=>?_) (λhm ho=>?_))))))))
   ·refine Aq (A7 (Am (A3 (Ae (wm rfl (wm rfl (ck hn λhp hq=>wv (AT (enc:=eS) (ys:=r1.1) CS C7 rfl rfl hp) (wv (AH CD rfl rfl) (wm rfl (wv (DK rfl rfl) (Ak (cz hq rfl (λhr hs=>?_) (λhr ht=>?_)))))))))))))
    ·refine Ae (wm rfl (wm rfl (ck hs λhu hw=>wv (AT (enc:=Af) (ys:=r7.1) BX Cg rfl rfl hu) (wv (AH CE rfl rfl) (wa rfl (wa rfl (Ak (Ap (At (Ac (Ac (AM ?_))))))))))));have hx:=Bg hw hf hg;refine At (Ac ?_);obtain rfl:=An hx;exact Ao (Dq Tryz.results82 (A5 rfl) (A5 rfl)) sN ⟨rfl,rfl⟩
    ·refine Aq (A2 (A7 (Aj (wm rfl (ck ht λhy hz=>wv (Bd rfl rfl hy) (wa rfl (Ai ?_)))))));have h0:=AW hz hf;exact Au (Ar (hk,he+1,()) ⟨h0,Yy _⟩ (Az.c rfl (Az.c5 rfl rfl rfl rfl rfl Az.nil)) sN)
   ·refine Bf (As ?_);have h1:=Bu ho hf hg;exact As (AP (Ar ((),()) h1 (Az.c rfl (Az.c rfl Az.nil)) sN))
  ·rintro⟨⟨⟩,⟨⟩⟩ hb;refine BK (l':=[(4,rv (.slice none 0 0)),(5,Al 0)]) (H':=[]) rfl rfl ?_;replace hb:LU =some r:=hb;unfold LU at hb;refine AV (A7 (Ae (wa rfl (wa rfl (Ak (Ap (WK.up (d:=4) (r:=AC 4 (A0 Ab ([]:List Aa))) rfl (Up.le (DJ.nil _)) ?_)))))));obtain rfl:=An hb;exact Ao (Dq Tryz.results82 (A5 rfl) (A5 rfl)) sN ⟨rfl,rfl⟩
theorem Vw (F:Nat)(v:(List Aa))(path:(List Av))(r:(List Aa)×Int)(h:Po F v path=some r):Fn Tryz.prog GE 38 [AC 4 (A0 Ab v),AC 1 (A0 eS path)] [] (λR H=>R=Da [AC 4 (A0 Ab r.1),Al r.2]∧H=[]):=by
 refine enter (n:=37) Tryz.func38 rfl Tryz.ntmps38 rfl (λw Z=>?_);unfold Po at h;refine Ae (wa rfl (wa rfl (Bc (wm rfl (ob h λr1 e3 h2=>BM Qr (Gz F v r1 e3) rfl (wa rfl (Ak (Am (Ae (wm rfl (wv (Bk rfl rfl) (Ak (cz h2 rfl (λc4 h5=>?_) (λc4 h6=>?_))))))))))))))
 ·refine Ae (wm rfl (wa rfl (wa rfl (Ak (Ap (Ac (WK.up (d:=4) (r:=AC 4 (A0 Ab ([]:List Aa))) rfl (Up.le (DJ.nil _)) ?_)))))));obtain rfl:=An h5;exact Ao (Dq Tryz.results38 (A5 rfl) (A5 rfl)) sN ⟨rfl,rfl⟩
 ·refine Aq (A7 (Ae (wm rfl (wm rfl (wv (AF (ys:=v) (enc:=Ab) Br rfl) (ob h6 λr7 e9 h8=>BM Tryz.call81 (Om F v 0 (v.length:Int) r7 e9) rfl (wa rfl (Ak (Am (Ae (wa rfl (Ak (A3 (ob h8 λhl hm hi=>Bb (S:=Nat×(Int×(List Aa)×Int)×(Unit)) (V:=((List Aa))×(Unit)) 0 (λσ=>BG (λσ=>Eu F path σ.1 σ.2.1 σ.2.2) σ.1 σ.2.1=some hl) (λσ=>[(1,AC 1 (A0 eS path)),(4,rv (.slice none 0 0)),(5,Al 0),(6,Al σ.2.1.1),(7,AC 4 (A0 Ab σ.2.1.2.1)),(8,Al σ.2.1.2.2)]) (λσ=>[]) (λσ=>σ.1) (F,(r1,r7,0),()) hm (Az.c rfl (Az.c5 rfl rfl rfl rfl rfl Az.nil)) sN (λσ=>ID σ.1=some r) (λσ=>[(4,rv (.slice none 0 0)),(5,Al 0),(7,AC 4 (A0 Ab σ.1))]) (λσ=>[]) ?_ ?_))))))))))))))
  ·rintro⟨hA,⟨hj,ha,hb⟩,⟨⟩⟩ hn;refine Bs (l':=[(1,AC 1 (A0 eS path)),(4,rv (.slice none 0 0)),(5,Al 0),(6,Al hj),(7,AC 4 (A0 Ab ha)),(8,Al hb)]) (H':=[]) rfl rfl ?_;obtain⟨ho,rfl,hp,he,hg⟩:=BF hn;replace he:Eu F path hj ha hb=some hp:=he;unfold Eu at he;refine Am (Ae (wm rfl (wm rfl (wv (AF (ys:=path) (enc:=eS) CS rfl) (wv (BW rfl rfl) (Ak (cz he rfl (λhq hr=>?_) (λhq hs=>?_))))))))
   ·refine Aq (A7 (Am (A3 (Ae (wm rfl (wm rfl (wm rfl (ck hr λht hu=>wv (AT (enc:=eS) (ys:=path) CS C7 rfl rfl ht) (wv (AH CD rfl rfl) (ob hu λhh hw hx=>BM Tryz.call82 (Wx F ha (Ax path hb) hh hw) rfl (wm rfl (wv (A8 rfl rfl) (wv (A8 rfl rfl) (wa rfl (wa rfl (Bc (wm rfl (wv (Bk rfl rfl) (Ak (cz hx rfl (λhy hz=>?_) (λhy h0=>?_)))))))))))))))))))))
    ·refine Ae (wm rfl (wa rfl (wa rfl (Ak (Ap (At (Ac (Ac (AM ?_)))))))));have h1:=Bg hz hg hi;refine At (Ac (WK.up (d:=4) (r:=AC 4 (A0 Ab ([]:List Aa))) rfl (Up.le (DJ.nil _)) ?_));obtain rfl:=An h1;exact Ao (Dq Tryz.results38 (A5 rfl) (A5 rfl)) sN ⟨rfl,rfl⟩
    ·refine Aq (A2 (A7 (Aj (wm rfl (ck h0 λh3 h4=>wv (Bd rfl rfl h3) (wa rfl (Ai ?_)))))));have h7:=AW h4 hg;exact Au (Ar (ho,(hh.2,hh.1,hb+1),()) ⟨h7,Yy _⟩ (Az.c rfl (Az.c5 rfl rfl rfl rfl rfl Az.nil)) sN)
   ·refine Bf (As ?_);have h9:=Bu hs hg hi;exact As (AP (Ar (ha,()) h9 (Az.c rfl (Az.c rfl (Az.c rfl Az.nil))) sN))
  ·rintro⟨hk,⟨⟩⟩ hf;refine BK (l':=[(4,rv (.slice none 0 0)),(5,Al 0),(7,AC 4 (A0 Ab hk))]) (H':=[]) rfl rfl ?_;replace hf:ID hk=some r:=hf;unfold ID at hf;refine AV (A7 (Ae (wm rfl (wa rfl (wa rfl (Ak (Ap ?_)))))));obtain rfl:=An hf;exact Ao (Dq Tryz.results38 (A5 rfl) (A5 rfl)) sN ⟨rfl,rfl⟩
end Go.Proofs.YtghdglcmblpbeaaGreatDoor.Q
namespace Go.Proofs.YtghdglcmblpbeaaGreatDoor
open Go
set_option linter.unusedVariables false
structure Ah where
 fPath:(List Av)
 fOp:Int
 fValues:(List (List Aa))
 fText:Av
 fLow:Int
 fHigh:Int
 deriving DecidableEq,Inhabited
structure Cf where
 fID:Av
 fTenant:Av
 fSource:Av
 fKey:Av
 fAt:Int
 fCause:Av
 fBody:(List Aa)
 deriving DecidableEq,Inhabited
def GB (ys:(List Av))(x:Av)(ha:Int):Option (Stp (Int) (Out (Int) (Unit))):=
 AS (decide (ha<(ys.length:Int))) (AY (Cu ha (ys.length:Int))<|AS (decide (x=(Ax ys ha))) (some (.out (.ret ha))) (AY (BB .i64 (ha+1))<|some (.next (ha+1)))) (some (.out (.go ())))
def GA :Option (Int):=
 some (-1)
def M0 (F:Nat)(ys:(List Av))(x:Av):Option (Int):=
 Be (BG (λσ=>GB ys x σ) F 0) (BE λν=>GA )
def GF (a:(List Av))(b:(List Av))(ha:Int):Option (Stp (Int) (Out (Bool) (Unit))):=
 AS (decide (ha<(a.length:Int))) (AY (Cu ha (a.length:Int))<|AY (Cu ha (b.length:Int))<|AS (!decide ((Ax a ha)=(Ax b ha))) (some (.out (.ret false))) (AY (BB .i64 (ha+1))<|some (.next (ha+1)))) (some (.out (.go ())))
def GD :Option (Bool):=
 some true
def Gv (F:Nat)(a:(List Av))(b:(List Av)):Option (Bool):=
 AS (!decide ((a.length:Int)=(b.length:Int))) (some false) (Be (BG (λσ=>GF a b σ) F 0) (BE λν=>GD ))
def O4 :Option ((List Av)):=
 some ([([]:Av),([101,120,105,115,116,115]:Av),([109,105,115,115,105,110,103]:Av),([101,113,117,97,108,115]:Av),([111,116,104,101,114]:Av),([112,114,101,102,105,120]:Av),([114,97,110,103,101]:Av)]:List Av)
def Gb (op:Int):Option (Bool):=
 some ((decide (op=3))||(decide (op=4)))
def Cs (ha:Bool):Option (Int):=
 AS (ha) (some 1) (some 0)
def EC (F:Nat)(f:Ah)(ha:Int):Option (Stp (Int) (Out (Int) (Unit))):=
 AS (decide (ha<(f.fValues.length:Int))) (AY (Cu ha (f.fValues.length:Int))<|Be (Dk F (Ax f.fValues ha)) λhb=>AS (!decide (hb=0)) (some (.out (.ret hb))) (AY (BB .i64 (ha+1))<|some (.next (ha+1)))) (some (.out (.go ())))
def H9 (f:Ah):Option (Int):=
 Be (Gb f.fOp) λha=>AS (!ha) (AS (decide (0<(f.fValues.length:Int))) (Cs true) (AS (!decide (f.fOp=5)) (AS (!decide (f.fText=([]:Av))) (Cs true) (AS (!decide (f.fOp=6)) (AS (!decide (f.fLow=0)) (Cs true) (Cs (!decide (f.fHigh=0)))) (Cs false))) (AS (!decide (f.fOp=6)) (AS (!decide (f.fLow=0)) (Cs true) (Cs (!decide (f.fHigh=0)))) (Cs false)))) (AS (!decide (f.fOp=5)) (AS (!decide (f.fText=([]:Av))) (Cs true) (AS (!decide (f.fOp=6)) (AS (!decide (f.fLow=0)) (Cs true) (Cs (!decide (f.fHigh=0)))) (Cs false))) (AS (!decide (f.fOp=6)) (AS (!decide (f.fLow=0)) (Cs true) (Cs (!decide (f.fHigh=0)))) (Cs false)))
def Cr (ha:Bool):Option (Int):=
 AS (ha) (some 1) (some 0)
def HB (F:Nat)(f:Ah)(ha:Int):Option (Stp (Int) (Out (Int) (Unit))):=
 AS (decide (ha<(f.fValues.length:Int))) (AY (Cu ha (f.fValues.length:Int))<|Be (Dk F (Ax f.fValues ha)) λhb=>AS (!decide (hb=0)) (some (.out (.ret hb))) (AY (BB .i64 (ha+1))<|some (.next (ha+1)))) (some (.out (.go ())))
def H8 (f:Ah):Option (Int):=
 Be (Gb f.fOp) λha=>AS (!ha) (AS (decide (0<(f.fValues.length:Int))) (Cr true) (AS (!decide (f.fOp=5)) (AS (!decide (f.fText=([]:Av))) (Cr true) (AS (!decide (f.fOp=6)) (AS (!decide (f.fLow=0)) (Cr true) (Cr (!decide (f.fHigh=0)))) (Cr false))) (AS (!decide (f.fOp=6)) (AS (!decide (f.fLow=0)) (Cr true) (Cr (!decide (f.fHigh=0)))) (Cr false)))) (AS (!decide (f.fOp=5)) (AS (!decide (f.fText=([]:Av))) (Cr true) (AS (!decide (f.fOp=6)) (AS (!decide (f.fLow=0)) (Cr true) (Cr (!decide (f.fHigh=0)))) (Cr false))) (AS (!decide (f.fOp=6)) (AS (!decide (f.fLow=0)) (Cr true) (Cr (!decide (f.fHigh=0)))) (Cr false)))
def Cq (ha:Bool):Option (Int):=
 AS (ha) (some 1) (some 0)
def Cp (ha:Bool):Option (Int):=
 AS (ha) (some 1) (some 0)
def Co (ha:Bool):Option (Int):=
 AS (ha) (some 1) (some 0)
def ED (F:Nat)(f:Ah)(ha:Int):Option (Stp (Int) (Out (Int) (Unit))):=
 AS (decide (ha<(f.fPath.length:Int))) (AY (Cu ha (f.fPath.length:Int))<|Be (Ob F (Ax f.fPath ha)) λhb=>AS (!decide (hb.2=0)) (some (.out (.ret hb.2))) (AY (BB .i64 (ha+1))<|some (.next (ha+1)))) (some (.out (.go ())))
def HA (F:Nat)(f:Ah):Option (Int):=
 AS (((decide (f.fOp<1))||(decide (6<f.fOp)))) (some 7) (AS (decide (f.fOp=3)) (AS (((decide ((f.fValues.length:Int)<1))||(decide (8<(f.fValues.length:Int))))) (some 3) (Be (BG (λσ=>EC F f σ) F 0) (BE λν=>H9 f ))) (AS (decide (f.fOp=4)) (AS (((decide ((f.fValues.length:Int)<1))||(decide (8<(f.fValues.length:Int))))) (some 3) (Be (BG (λσ=>HB F f σ) F 0) (BE λν=>H8 f ))) (AS (decide (f.fOp=5)) (Be (Ob F f.fText) λha=>AS (!decide (ha.2=0)) (some ha.2) (Be (Gb f.fOp) λhb=>AS (!hb) (AS (decide (0<(f.fValues.length:Int))) (Cq true) (AS (!decide (f.fOp=5)) (AS (!decide (f.fText=([]:Av))) (Cq true) (AS (!decide (f.fOp=6)) (AS (!decide (f.fLow=0)) (Cq true) (Cq (!decide (f.fHigh=0)))) (Cq false))) (AS (!decide (f.fOp=6)) (AS (!decide (f.fLow=0)) (Cq true) (Cq (!decide (f.fHigh=0)))) (Cq false)))) (AS (!decide (f.fOp=5)) (AS (!decide (f.fText=([]:Av))) (Cq true) (AS (!decide (f.fOp=6)) (AS (!decide (f.fLow=0)) (Cq true) (Cq (!decide (f.fHigh=0)))) (Cq false))) (AS (!decide (f.fOp=6)) (AS (!decide (f.fLow=0)) (Cq true) (Cq (!decide (f.fHigh=0)))) (Cq false))))) (AS (decide (f.fOp=6)) (AY ((Bv f.fLow).isSome)<|AY (imp (!(!(ov (Bv f.fLow)))) ((Bv f.fHigh).isSome))<|AS (((!(ov (Bv f.fLow)))||((!(ov (Bv f.fHigh)))||(decide (f.fHigh<f.fLow))))) (some 2) (Be (Gb f.fOp) λhe=>AS (!he) (AS (decide (0<(f.fValues.length:Int))) (Cp true) (AS (!decide (f.fOp=5)) (AS (!decide (f.fText=([]:Av))) (Cp true) (AS (!decide (f.fOp=6)) (AS (!decide (f.fLow=0)) (Cp true) (Cp (!decide (f.fHigh=0)))) (Cp false))) (AS (!decide (f.fOp=6)) (AS (!decide (f.fLow=0)) (Cp true) (Cp (!decide (f.fHigh=0)))) (Cp false)))) (AS (!decide (f.fOp=5)) (AS (!decide (f.fText=([]:Av))) (Cp true) (AS (!decide (f.fOp=6)) (AS (!decide (f.fLow=0)) (Cp true) (Cp (!decide (f.fHigh=0)))) (Cp false))) (AS (!decide (f.fOp=6)) (AS (!decide (f.fLow=0)) (Cp true) (Cp (!decide (f.fHigh=0)))) (Cp false))))) (Be (Gb f.fOp) λhf=>AS (!hf) (AS (decide (0<(f.fValues.length:Int))) (Co true) (AS (!decide (f.fOp=5)) (AS (!decide (f.fText=([]:Av))) (Co true) (AS (!decide (f.fOp=6)) (AS (!decide (f.fLow=0)) (Co true) (Co (!decide (f.fHigh=0)))) (Co false))) (AS (!decide (f.fOp=6)) (AS (!decide (f.fLow=0)) (Co true) (Co (!decide (f.fHigh=0)))) (Co false)))) (AS (!decide (f.fOp=5)) (AS (!decide (f.fText=([]:Av))) (Co true) (AS (!decide (f.fOp=6)) (AS (!decide (f.fLow=0)) (Co true) (Co (!decide (f.fHigh=0)))) (Co false))) (AS (!decide (f.fOp=6)) (AS (!decide (f.fLow=0)) (Co true) (Co (!decide (f.fHigh=0)))) (Co false))))))))
def CM (F:Nat)(f:Ah):Option (Int):=
 AS (decide (4<(f.fPath.length:Int))) (some 3) (Be (BG (λσ=>ED F f σ) F 0) (BE λν=>HA F f ))
def Mc (F:Nat)(x:(List Aa))(v:(List Aa)):Option (Bool):=
 Be (N3 F x v) λr1=>some r1
def Ji (F:Nat)(ys:(List (List Aa)))(v:(List Aa))(ha:Int):Option (Stp (Int) (Out (Int) (Unit))):=
 AS (decide (ha<(ys.length:Int))) (AY (Cu ha (ys.length:Int))<|Be (Mc F (Ax ys ha) v) λhb=>AS (hb) (some (.out (.ret ha))) (AY (BB .i64 (ha+1))<|some (.next (ha+1)))) (some (.out (.go ())))
def LZ :Option (Int):=
 some (-1)
def VH (F:Nat)(ys:(List (List Aa)))(v:(List Aa)):Option (Int):=
 Be (BG (λσ=>Ji F ys v σ) F 0) (BE λν=>LZ )
def UM (F:Nat)(ys:(List (List Aa)))(v:(List Aa)):Option (Bool):=
 Be (VH F ys v) λr1=>some (decide (0≤r1))
def Im (F:Nat)(l:(List (List Aa)))(v:(List Aa)):Option (Bool):=
 Be (UM F l v) λr2=>some r2
def Il (v:(List Aa))(pre:Av):Option (Bool):=
 AY (Cu 0 (v.length:Int))<|AY (imp (decide (((Ax v 0).fKind)=4)) ((De ((Ax v 0).fStr) pre).isSome))<|some ((decide (((Ax v 0).fKind)=4))&&(ov (De ((Ax v 0).fStr) pre)))
def Ih (v:(List Aa))(low:Int)(high:Int):Option (Bool):=
 AY (Cu 0 (v.length:Int))<|some ((decide (((Ax v 0).fKind)=3))&&((decide (low≤((Ax v 0).fInt)))&&(decide (((Ax v 0).fInt)≤high))))
def LA (F:Nat)(f:Ah)(v:(List Aa)):Option (Bool):=
 Be (Pc F v f.fPath) λr2=>AS (!decide (r2.2=0)) (some (decide (f.fOp=2))) (AS (decide (f.fOp=1)) (some true) (AS (decide (f.fOp=3)) (Be (Im F f.fValues r2.1) λha=>some (ha ==(decide (f.fOp=3)))) (AS (decide (f.fOp=4)) (Be (Im F f.fValues r2.1) λhb=>some (hb ==(decide (f.fOp=3)))) (AS (decide (f.fOp=5)) (Be (Il r2.1 f.fText) λhe=>some he) (AS (decide (f.fOp=6)) (Be (Ih r2.1 f.fLow f.fHigh) λhf=>some hf) (some false))))))
def QM (F:Nat)(f:Ah)(v:(List Aa)):Option (Bool):=
 AY ((CM F f).isSome)<|AY (imp (decide ((ov (CM F f))=0)) ((Dk F v).isSome))<|AY (imp (decide ((ov (CM F f))=0)) (imp (decide ((ov (Dk F v))=0)) ((LA F f v).isSome)))<|some ((decide ((ov (CM F f))=0))&&((decide ((ov (Dk F v))=0))&&(ov (LA F f v))))
def Mb (F:Nat)(f:Ah)(v:(List Aa)):Option (Bool):=
 Be (QM F f v) λr2=>some (!r2)
def Lb (F:Nat)(ys:(List Ah))(v:(List Aa))(ha:Int):Option (Stp (Int) (Out (Int) (Unit))):=
 AS (decide (ha<(ys.length:Int))) (AY (Cu ha (ys.length:Int))<|Be (Mb F (Ax ys ha) v) λhb=>AS (hb) (some (.out (.ret ha))) (AY (BB .i64 (ha+1))<|some (.next (ha+1)))) (some (.out (.go ())))
def O1 :Option (Int):=
 some (-1)
def XW (F:Nat)(ys:(List Ah))(v:(List Aa)):Option (Int):=
 Be (BG (λσ=>Lb F ys v σ) F 0) (BE λν=>O1 )
def XH (F:Nat)(ys:(List Ah))(v:(List Aa)):Option (Bool):=
 Be (XW F ys v) λr1=>some (decide (0≤r1))
def EB (ha:Bool):Option (Bool):=
 some ha
def JB (F:Nat)(l:(List Ah))(v:(List Aa)):Option (Bool):=
 AS (decide ((l.length:Int)≤32)) (Be (Dk F v) λha=>AS (decide (ha=0)) (Be (XH F l v) λhb=>EB (!hb)) (EB false)) (EB false)
def G3 (ha:Int)(hb:(List Int)):Option (Stp ((List Int)×Int) (Out ((List Int)) ((List Int)))):=
 AY (BB .i64 (ha+1))<|some (.next (hb,ha+1))
def G4 (F:Nat)(l:(List Ah))(events:(List Cf))(hb:(List Int))(ha:Int):Option (Stp ((List Int)×Int) (Out ((List Int)) ((List Int)))):=
 AS (decide (ha<(events.length:Int))) (AY (Cu ha (events.length:Int))<|Be (JB F l ((Ax events ha).fBody)) λhe=>AS (he) (AY (Ey 8 (hb.length+([ha]:List Int).length))<|G3 ha (hb++([ha]:List Int))) (G3 ha hb)) (some (.out (.go hb)))
def Ii (ha:(List Int)):Option ((List Int)):=
 some ha
def KF (F:Nat)(l:(List Ah))(events:(List Cf)):Option ((List Int)):=
 Be (BG (λσ=>G4 F l events σ.1 σ.2) F (([]:List Int),0)) (BE λν=>Ii ν)
def WX (F:Nat)(v:(List Aa))(a:Ah):Option (Bool):=
 Be (Im F a.fValues v) λr1=>some (!r1)
def K4 (F:Nat)(ys:(List (List Aa)))(a:Ah)(ha:Int):Option (Stp (Int) (Out (Int) (Unit))):=
 AS (decide (ha<(ys.length:Int))) (AY (Cu ha (ys.length:Int))<|Be (WX F (Ax ys ha) a) λhb=>AS (hb) (some (.out (.ret ha))) (AY (BB .i64 (ha+1))<|some (.next (ha+1)))) (some (.out (.go ())))
def K3 :Option (Int):=
 some (-1)
def Un (F:Nat)(ys:(List (List Aa)))(a:Ah):Option (Int):=
 Be (BG (λσ=>K4 F ys a σ) F 0) (BE λν=>K3 )
def UL (F:Nat)(ys:(List (List Aa)))(a:Ah):Option (Bool):=
 Be (Un F ys a) λr1=>some (decide (0≤r1))
def QQ (F:Nat)(f:Ah)(a:Ah):Option (Bool):=
 Be (UL F f.fValues a) λr2=>some (!r2)
def WV (F:Nat)(v:(List Aa))(b:Ah):Option (Bool):=
 Be (Im F b.fValues v) λr1=>some r1
def Ky (F:Nat)(ys:(List (List Aa)))(b:Ah)(ha:Int):Option (Stp (Int) (Out (Int) (Unit))):=
 AS (decide (ha<(ys.length:Int))) (AY (Cu ha (ys.length:Int))<|Be (WV F (Ax ys ha) b) λhb=>AS (hb) (some (.out (.ret ha))) (AY (BB .i64 (ha+1))<|some (.next (ha+1)))) (some (.out (.go ())))
def Kx :Option (Int):=
 some (-1)
def Um (F:Nat)(ys:(List (List Aa)))(b:Ah):Option (Int):=
 Be (BG (λσ=>Ky F ys b σ) F 0) (BE λν=>Kx )
def UK (F:Nat)(ys:(List (List Aa)))(b:Ah):Option (Bool):=
 Be (Um F ys b) λr1=>some (decide (0≤r1))
def QP (F:Nat)(f:Ah)(b:Ah):Option (Bool):=
 Be (UK F f.fValues b) λr2=>some (!r2)
def WT (v:(List Aa))(a:Ah):Option (Bool):=
 Be (Il v a.fText) λr1=>some r1
def Kw (ys:(List (List Aa)))(a:Ah)(ha:Int):Option (Stp (Int) (Out (Int) (Unit))):=
 AS (decide (ha<(ys.length:Int))) (AY (Cu ha (ys.length:Int))<|Be (WT (Ax ys ha) a) λhb=>AS (hb) (some (.out (.ret ha))) (AY (BB .i64 (ha+1))<|some (.next (ha+1)))) (some (.out (.go ())))
def Kv :Option (Int):=
 some (-1)
def Ul (F:Nat)(ys:(List (List Aa)))(a:Ah):Option (Int):=
 Be (BG (λσ=>Kw ys a σ) F 0) (BE λν=>Kv )
def UJ (F:Nat)(ys:(List (List Aa)))(a:Ah):Option (Bool):=
 Be (Ul F ys a) λr1=>some (decide (0≤r1))
def QO (F:Nat)(f:Ah)(a:Ah):Option (Bool):=
 Be (UJ F f.fValues a) λr2=>some (!r2)
def WR (v:(List Aa))(a:Ah):Option (Bool):=
 Be (Ih v a.fLow a.fHigh) λr1=>some r1
def Ku (ys:(List (List Aa)))(a:Ah)(ha:Int):Option (Stp (Int) (Out (Int) (Unit))):=
 AS (decide (ha<(ys.length:Int))) (AY (Cu ha (ys.length:Int))<|Be (WR (Ax ys ha) a) λhb=>AS (hb) (some (.out (.ret ha))) (AY (BB .i64 (ha+1))<|some (.next (ha+1)))) (some (.out (.go ())))
def Kt :Option (Int):=
 some (-1)
def Uk (F:Nat)(ys:(List (List Aa)))(a:Ah):Option (Int):=
 Be (BG (λσ=>Ku ys a σ) F 0) (BE λν=>Kt )
def UI (F:Nat)(ys:(List (List Aa)))(a:Ah):Option (Bool):=
 Be (Uk F ys a) λr1=>some (decide (0≤r1))
def QN (F:Nat)(f:Ah)(a:Ah):Option (Bool):=
 Be (UI F f.fValues a) λr2=>some (!r2)
def Lg (F:Nat)(a:Ah)(b:Ah):Option (Bool):=
 AS (decide (a.fOp=4)) (Be (QQ F b a) λr5=>some r5) (AS (decide (a.fOp=3)) (Be (QP F a b) λha=>some ha) (AS (decide (a.fOp=5)) (Be (QO F b a) λhb=>some hb) (AS (decide (a.fOp=6)) (Be (QN F b a) λhe=>some he) (some false))))
def WO (F:Nat)(v:(List Aa))(b:Ah):Option (Bool):=
 Be (Im F b.fValues v) λr1=>some r1
def Xd (F:Nat)(v:(List Aa))(b:Ah):Option (Bool):=
 Be (WO F v b) λr1=>some (!r1)
def KA (F:Nat)(ys:(List (List Aa)))(b:Ah)(ha:Int):Option (Stp (Int) (Out (Int) (Unit))):=
 AS (decide (ha<(ys.length:Int))) (AY (Cu ha (ys.length:Int))<|Be (Xd F (Ax ys ha) b) λhb=>AS (hb) (some (.out (.ret ha))) (AY (BB .i64 (ha+1))<|some (.next (ha+1)))) (some (.out (.go ())))
def K9 :Option (Int):=
 some (-1)
def Ur (F:Nat)(ys:(List (List Aa)))(b:Ah):Option (Int):=
 Be (BG (λσ=>KA F ys b σ) F 0) (BE λν=>K9 )
def UP (F:Nat)(ys:(List (List Aa)))(b:Ah):Option (Bool):=
 Be (Ur F ys b) λr1=>some (decide (0≤r1))
def IQ (ha:Bool):Option (Bool):=
 some ha
def U8 (F:Nat)(f:Ah)(b:Ah):Option (Bool):=
 AS (decide (f.fOp=3)) (Be (UP F f.fValues b) λha=>IQ (!ha)) (IQ false)
def WM (v:(List Aa))(b:Ah):Option (Bool):=
 Be (Il v b.fText) λr1=>some r1
def Xb (v:(List Aa))(b:Ah):Option (Bool):=
 Be (WM v b) λr1=>some (!r1)
def K8 (ys:(List (List Aa)))(b:Ah)(ha:Int):Option (Stp (Int) (Out (Int) (Unit))):=
 AS (decide (ha<(ys.length:Int))) (AY (Cu ha (ys.length:Int))<|Be (Xb (Ax ys ha) b) λhb=>AS (hb) (some (.out (.ret ha))) (AY (BB .i64 (ha+1))<|some (.next (ha+1)))) (some (.out (.go ())))
def K7 :Option (Int):=
 some (-1)
def Uq (F:Nat)(ys:(List (List Aa)))(b:Ah):Option (Int):=
 Be (BG (λσ=>K8 ys b σ) F 0) (BE λν=>K7 )
def UO (F:Nat)(ys:(List (List Aa)))(b:Ah):Option (Bool):=
 Be (Uq F ys b) λr1=>some (decide (0≤r1))
def IP (ha:Bool):Option (Bool):=
 some ha
def RF (F:Nat)(f:Ah)(b:Ah):Option (Bool):=
 AS (decide (f.fOp=3)) (Be (UO F f.fValues b) λha=>IP (!ha)) (IP false)
def WI (v:(List Aa))(b:Ah):Option (Bool):=
 Be (Ih v b.fLow b.fHigh) λr1=>some r1
def WZ (v:(List Aa))(b:Ah):Option (Bool):=
 Be (WI v b) λr1=>some (!r1)
def K6 (ys:(List (List Aa)))(b:Ah)(ha:Int):Option (Stp (Int) (Out (Int) (Unit))):=
 AS (decide (ha<(ys.length:Int))) (AY (Cu ha (ys.length:Int))<|Be (WZ (Ax ys ha) b) λhb=>AS (hb) (some (.out (.ret ha))) (AY (BB .i64 (ha+1))<|some (.next (ha+1)))) (some (.out (.go ())))
def K5 :Option (Int):=
 some (-1)
def Uo (F:Nat)(ys:(List (List Aa)))(b:Ah):Option (Int):=
 Be (BG (λσ=>K6 ys b σ) F 0) (BE λν=>K5 )
def UN (F:Nat)(ys:(List (List Aa)))(b:Ah):Option (Bool):=
 Be (Uo F ys b) λr1=>some (decide (0≤r1))
def IO (ha:Bool):Option (Bool):=
 some ha
def PO (F:Nat)(f:Ah)(b:Ah):Option (Bool):=
 AS (decide (f.fOp=3)) (Be (UN F f.fValues b) λha=>IO (!ha)) (IO false)
def Eh (ha:Bool):Option (Bool):=
 some ha
def D9 (ha:Bool):Option (Bool):=
 some ha
def MR (F:Nat)(a:Ah)(b:Ah):Option (Bool):=
 AS (decide (b.fOp=1)) (some (!decide (a.fOp=2))) (AS (decide (b.fOp=2)) (some (decide (a.fOp=2))) (AS (decide (b.fOp=3)) (Be (U8 F a b) λha=>some ha) (AS (decide (b.fOp=4)) (Be (Lg F a b) λhb=>some hb) (AS (decide (b.fOp=5)) (AS (decide (a.fOp=5)) (Be (De a.fText b.fText) λhe=>AS (he) (Eh true) (Be (RF F a b) λhf=>Eh hf)) (Be (RF F a b) λhg=>Eh hg)) (AS (decide (a.fOp=6)) (AS (decide (b.fLow≤a.fLow)) (AS (decide (a.fHigh≤b.fHigh)) (D9 true) (Be (PO F a b) λhh=>D9 hh)) (Be (PO F a b) λhi=>D9 hi)) (Be (PO F a b) λhj=>D9 hj))))))
def KH (F:Nat)(long:(List Av))(short:(List Av)):Option (Bool):=
 AY (imp (decide ((short.length:Int)<(long.length:Int))) (EU (short.length:Int) (long.length:Int)))<|AY (imp (decide ((short.length:Int)<(long.length:Int))) ((Gv F (List.take (Int.toNat (short.length:Int)) long) short).isSome))<|some ((decide ((short.length:Int)<(long.length:Int)))&&(ov (Gv F (List.take (Int.toNat (short.length:Int)) long) short)))
def KG (F:Nat)(a:Ah)(b:Ah):Option (Bool):=
 AY ((CM F a).isSome)<|AY (imp (!(!decide ((ov (CM F a))=0))) ((CM F b).isSome))<|AS (((!decide ((ov (CM F a))=0))||(!decide ((ov (CM F b))=0)))) (some false) (Be (Gv F a.fPath b.fPath) λha=>AS (ha) (Be (MR F a b) λhb=>some hb) (Be (KH F a.fPath b.fPath) λhe=>AS (he) (some ((decide (b.fOp=1))&&(!decide (a.fOp=2)))) (Be (KH F b.fPath a.fPath) λhf=>AS (hf) (some ((decide (a.fOp=2))&&(decide (b.fOp=2)))) (some false))))
end Go.Proofs.YtghdglcmblpbeaaGreatDoor
namespace Go.Proofs.YtghdglcmblpbeaaGreatDoor.Q
open Go Go.RowKit
set_option linter.unusedVariables false
set_option linter.unusedSimpArgs false
section
variable {P : Program} {n : Nat} {c : Cx} {opsA : Array Oper} {Q : Exit → Act → World → Prop} {l : Fr} {H : List Ent} {d : Nat} {ty : TypeId} {pos : String} {af : Array Edge}
end
section
variable {P : Program} {n : Nat} {c : Cx} {ops : Array Oper} {Q : Exit → Act → World → Prop} {rest : List Oper} {l : Fr} {H H' : List Ent} {d : Nat} {d' : Option Nat} {x y z3 : Operand} {ty t t' e : TypeId} {pos : String} {af : Array Edge} {g : Option (Nat × Bool)} {v u : Value} {r : Rp} {sz : Nat}
theorem QA {α:Type}{ys:List α}{enc:α→List Rp}{k':IntKind}{j:Int}(ht:P.underlying t=some (.slice e))(hz:∀w,(sizeOf e).run P w = .ok sz w)(h:ev l x=some (AC sz (ys.map enc)))(hj:ev l z3=some (rI k' j))(hg2:EU j (ys.length:Int)=true) :
  B0 P n c l H { dst:=d',op:=.slice t x none (some z3) none,type:=ty,pos:=pos,after:=af,guard:=g } (AC sz ((ys.take j.toNat).map enc)):=λa w Z ha hw=>by
 obtain⟨A,cap,e1,hc1,hc2,hA,hc⟩:=ha.ev h;have h2:=(Db hg2).2;have hj0:0≤j:=(Db hg2).1;simp only[Y9] at e1 hc1;have h3:j≤(cap:Int):=by omega
 refine⟨.slice (if cap=0 then A else A.map (·.add (0*sz))) j.toNat cap,⟨if cap=0 then A else A.map (·.add (0*sz)),cap,?_,?_,by omega,?_,λq cl hq=>?_⟩,by simp[execOp,e1,ha.eval hj,Instr.sliceAt,Instr.slice,run_underlying ht,Instr.sliceBounds,BD (m:=cap) _ _ hj0 h3,hz]⟩
 ·congr 1
  simp;omega
 ·simp;omega
 ·intro hn
  split at hn
  ·have:=hA hn;omega
  ·have:=hA (by simpa using hn);omega
 ·rw[Zc] at hq
  cases hq':(List.take j.toNat ys)[q]? with
  | none=>rw[hq'] at hq;cases hq
  | some yy=>
   rw[hq'] at hq;simp only[Option.map_some,Option.some.injEq] at hq;subst hq;rw[YX] at hq'
   split at hq'
   ·rename_i hlt
    obtain⟨hl,ad,rfl,hs,hcs⟩:=hc q (enc yy) (by simp[hq']);obtain⟨b,off,spot⟩:=ad;simp only at hs;subst hs;have hne : ¬ cap=0:=by omega
    refine⟨hl,⟨b,off+0*sz,none⟩,by simp[hne,I3],rfl,λq' r' hr'=>?_⟩;obtain⟨u,hu,hp⟩:=hcs q' r' hr';refine⟨u,?_,hp⟩;have:off+0*sz+(q*sz+q')=off+(q*sz+q'):=by omega
    simp only;rw[this];exact hu
   ·cases hq'
end
end Go.Proofs.YtghdglcmblpbeaaGreatDoor.Q
namespace Go.Proofs.YtghdglcmblpbeaaGreatDoor
open Go
set_option linter.unusedVariables false
set_option linter.unusedSimpArgs false
section
variable {T S : Type}
def V9:List (Av×T)→Av→Option T
 | [],_=>none
 | p::r,k=>bif decide (p.1=k) then some p.2 else V9 r k
def W4 (xs:List (Av×T))(k:Av):Bool:=(V9 xs k).isSome
def X6 (k:Av)(v:T):List (Av×T)→List (Av×T)
 | []=>[(k,v)]
 | p::r=>bif CY k p.1 then(k,v)::p::r else p::X6 k v r
def Nv (xs:List (Av×T))(k:Av)(v:T):List (Av×T):=xs.map λp=>bif decide (p.1=k) then(k,v) else p
def X5 (xs:List (Av×T))(k:Av)(v:T):List (Av×T):=bif W4 xs k then Nv xs k v else X6 k v xs
end
end Go.Proofs.YtghdglcmblpbeaaGreatDoor
namespace Go.Proofs.YtghdglcmblpbeaaGreatDoor.Q
open Go Go.RowKit
set_option linter.unusedVariables false
set_option linter.unusedSimpArgs false
theorem SF (s:ByteArray):MapKept.IsKey .string (.string s):=by simp[MapKept.IsKey]
theorem N2.keys {Z:Fz}:∀{f:List (List UInt8×Rp)} {es:List MapEntry},N2 Z f es→∀x∈es,MapKept.IsKey .string x.key
 | [],[],_,x,hx=>by cases hx
 | p::f,e::es,⟨⟨h1,h2⟩,h3⟩,x,hx=>by
  rcases List.mem_cons.1 hx with rfl | hx
  ·rw[h1];exact SF _
  ·exact N2.keys h3 x hx
theorem N2.at {Z:Fz}:∀{f:List (List UInt8×Rp)} {es:List MapEntry},N2 Z f es→f.length=es.length∧∀(j:Nat) (e:MapEntry),es[j]? =some e→∃k r,f[j]? =some (k,r)∧e.key = .string (B k)∧r.p Z e.val
 | [],[],_=>⟨rfl,λj e h=>by simp at h⟩
 | p::f,e::es,⟨⟨h1,h2⟩,h3⟩=>by
  obtain⟨hl,ha⟩:=N2.at h3;refine⟨by simp[hl],λj e' hj=>?_⟩
  cases j with
  | zero=>simp at hj;subst hj;exact⟨p.1,p.2,rfl,h1,h2⟩
  | succ j=>simp at hj;simpa using ha j e' hj
theorem N2.of {Z:Fz}:∀{f:List (List UInt8×Rp)} {es:List MapEntry},f.length=es.length→(∀(j:Nat) (e:MapEntry),es[j]? =some e→∃k r,f[j]? =some (k,r)∧e.key = .string (B k)∧r.p Z e.val)→N2 Z f es
 | [],[],_,_=>trivial
 | p::f,e::es,hl,h=>by
  obtain⟨k,r,h1,h2,h3⟩:=h 0 e rfl;simp at h1;subst h1;exact⟨⟨h2,h3⟩,N2.of (by simpa using hl) λj e' hj=>by simpa using h (j+1) e' (by simpa using hj)⟩
 | [],_::_,hl,_=>by simp at hl
 | _::_,[],hl,_=>by simp at hl
theorem N2.filter {Z:Fz}(q:MapEntry→Bool):∀{f:List (List UInt8×Rp)} {es:List MapEntry},N2 Z f es→∃g,N2 Z g (es.filter q)∧g.Sublist f
 | [],[],_=>⟨[],trivial,List.Sublist.refl _⟩
 | p::f,e::es,⟨h,h3⟩=>by
  obtain⟨g,hg,hs⟩:=N2.filter q h3
  cases hq:q e with
  | true=>exact⟨p::g,by rw[List.filter_cons_of_pos hq];exact⟨h,hg⟩,hs.cons_cons p⟩
  | false=>exact⟨g,by rw[List.filter_cons_of_neg (by simp[hq])];exact hg,hs.cons p⟩
theorem XN {a b:List UInt8}(h:B a=B b):a=b:=by
 have:=congrArg ByteArray.toList h
 rwa [E4,E4] at this
theorem TC {a b:List UInt8}(h:Value.string (B a) = .string (B b)):a=b:=XN (by cases h;rfl)
section
variable {P : Program} {n : Nat} {c : Cx} {ops : Array Oper} {Q : Exit → Act → World → Prop} {rest : List Oper} {l : Fr} {H : List Ent} {d : Nat} {d' : Option Nat} {ty t kt et rty : TypeId} {pos : String} {af : Array Edge} {g : Option (Nat × Bool)} {x y u : Operand} {K : Act → World → Prop} {cx : Code}
variable {T : Type} {enc : T → Rp} {xs : List (Av × T)} {z : T} {k : Av} {zv : Value} {i b : Nat}
theorem Jz.length {Z:Fz}{m:List (List UInt8×Rp)}{es:List MapEntry}{ck:Nat}(h:Jz Z m es ck):es.length=m.length:=by
 obtain⟨_,_,_,f,h4,h5⟩:=h;rw[← h5.at.1,h4.length_eq]
theorem TV {m f:List (Av×Rp)}(h:f.Perm m)(k:Av)(r:Rp):(Nv f k r).Perm (Nv m k r):=h.map _
theorem R6 {T:Type}:∀{f:List (Av×T)} {j:Nat} {k:Av} {r0:T} (r:T),(f.map (·.1)).Nodup→f[j]? =some (k,r0)→Nv f k r=f.set j (k,r)
 | p::f,0,k,r0,r,hn,h=>by
  simp at h;subst h;rw[Zl,List.nodup_cons] at hn;have:Nv f k r=f:=by
   unfold Nv;rw[List.map_congr_left (g:=id) (λq hq=>?_),List.map_id];have hne : ¬ q.1=k:=λe=>hn.1 (by rw[← e];exact List.mem_map.2 ⟨q,hq,rfl⟩);rw[Yz hne];rfl
  show(bif decide (k=k) then(k,r) else(k,r0))::Nv f k r=_;rw[Y5 rfl,this];rfl
 | p::f,j+1,k,r0,r,hn,h=>by
  rw[Zl,List.nodup_cons] at hn;simp at h;have hne : ¬ p.1=k:=λe=>hn.1 (by rw[e];exact List.mem_map.2 ⟨(k,r0),Y8 h,rfl⟩);show(bif decide (p.1=k) then(k,r) else p)::Nv f k r=_;rw[Yz hne,R6 r hn.2 h];rfl
theorem SA {T:Type}(m:List (Av×T))(k:Av)(r:T):(Nv m k r).map (·.1)=m.map (·.1):=by
 unfold Nv;rw[List.map_map];refine List.map_congr_left λp _=>?_;simp only[Function.comp]
 by_cases h:p.1=k
 ·rw[Y5 h];exact h.symm
 ·rw[Yz h];rfl
theorem SB {T:Type}{m:List (Av×T)}{k:Av}{r:T}(h:V9 m k=some r):W4 m k=true:=by unfold W4;rw[h];rfl
theorem Jz.put {Z:Fz}{m:List (Av×Rp)}{es:List MapEntry}{ck j:Nat}{e:MapEntry}{k:Av}{r0 r:Rp}{v:Value}(h:Jz Z m es ck)(he:es[j]? =some e)(hk:e.key = .string (B k))(hm:V9 m k=some r0)(hr:r.p Z v) :
  Jz Z (X5 m k r) (es.set j { e with key:=.string (B k),val:=v }) ck:=by
 obtain⟨h1,h2,h3,f,h4,h5⟩:=h;obtain⟨hl,ha⟩:=h5.at;have hjl:=(List.getElem?_eq_some_iff.1 he).1;unfold X5;rw[SB hm,Y7];obtain⟨k',r',e1,e2,_⟩:=ha j e he;rw[hk] at e2;obtain rfl:=TC e2;have hfn:(f.map (·.1)).Nodup:=(h4.map (·.1)).nodup_iff.2 h1;refine⟨by rw[SA];exact h1,?_,?_,f.set j (k,r),?_,N2.of (by simp[hl]) λi x hx=>?_⟩
 ·rw[List.map_set];have:(es.map (·.born)).set j e.born=es.map (·.born):=by
   apply List.ext_getElem?;intro i;rw[List.getElem?_set]
   split
   ·rename_i hij;subst hij
    simp[hjl,List.getElem?_eq_some_iff.1 he |>.2]
   ·rfl
  show((es.map (·.born)).set j e.born).Nodup;rw[this];exact h2
 ·intro x hx;rcases List.mem_or_eq_of_mem_set hx with hx | rfl
  ·exact h3 x hx
  ·exact h3 e (Y8 he)
 ·have:=TV h4 k r
  rwa [R6 r hfn e1] at this
 ·rw[List.getElem?_set] at hx ⊢
  split at hx
  ·rename_i hij;subst hij
   cases hx
   exact⟨k,r,by rw[if_pos rfl,if_pos (by rw[hl];exact hjl)],rfl,hr⟩
  ·rename_i hij
   rw[Zk hij];exact ha i x hx
end
theorem Bn.d1 {Z:Fz}{r0:Rp}{us:List Value}(h:Bn Z [r0] us):∃y0,us=[y0]∧Bn Z [r0] [y0]:=by
 match us,h.length with
 | [y0],_=>exact⟨_,rfl,h⟩
section
variable {P : Program} {n : Nat} {c : Cx} {ops : Array Oper} {Q : Exit → Act → World → Prop} {rest : List Oper} {l : Fr} {H H' : List Ent} {d : Nat} {d' : Option Nat} {ty t e rty : TypeId} {pos : String} {af : Array Edge} {g : Option (Nat × Bool)} {x y u : Operand} {v : Value} {sz m : Nat}
end
end Go.Proofs.YtghdglcmblpbeaaGreatDoor.Q
namespace Go.Proofs.YtghdglcmblpbeaaGreatDoor
open Go
end Go.Proofs.YtghdglcmblpbeaaGreatDoor
namespace Go.Proofs.YtghdglcmblpbeaaGreatDoor.Q
open Go Go.RowKit
set_option linter.unusedVariables false
set_option linter.unusedSimpArgs false
section
variable {P : Program} {n : Nat} {c : Cx} {Q : Exit → Act → World → Prop} {l : Fr} {H : List Ent} {x rest' : Code} {K : Act → World → Prop}
end
section
variable {P : Program} {n : Nat} {c : Cx} {ops : Array Oper} {Q : Exit → Act → World → Prop} {rest : List Oper} {l : Fr} {H H' : List Ent} {d : Nat} {d' : Option Nat} {x y z3 z4 : Operand} {ty t t' e : TypeId} {pos : String} {af : Array Edge} {g : Option (Nat × Bool)} {v u : Value} {r : Rp} {sz : Nat}
end
structure Sx (U:Type) where
 deps:List Nat
 r:U→Rp
 dyn:Bool:=false
 old:List Nat:=[]
def Th {U:Type}(sp:List (Sx U))(i:Nat):Sx U:=sp.getD i { deps:=[],r:=λ_=>rv undef }
def XP {U:Type}(sp:List (Sx U))(u:U):List Sp:=sp.map λs=>⟨s.deps,s.r u,0⟩
def We {U:Type}:List (Sx U)→Prop
 | []=>True
 | s::r=>(s.dyn=false→∀u u',s.r u=s.r u')∧We r
theorem We.at {U:Type}:∀{sp:List (Sx U)},We sp→∀{i:Nat} {s:Sx U},sp[i]? =some s→s.dyn=false→∀u u',s.r u=s.r u'
 | [],_,i,s,h=>by simp at h
 | x::sp,⟨h1,h2⟩,0,s,h=>by simp at h;subst h;exact h1
 | x::sp,⟨h1,h2⟩,i+1,s,h=>We.at h2 (by simpa using h)
def Kl (lw:Fr):List Nat→Fr→Fr
 | [],l=>l
 | d::r,l=>match look lw d with
  | some q=>(d,q)::Kl lw r l
  | none=>Kl lw r l
section
variable (P : Program) (n : Nat) (c : Cx) (opsA : Array Oper) (Q : Exit → Act → World → Prop)
def Yp {U:Type}(l:Fr)(H:List Ent)(o:Oper)(r:U→Rp)(H1:U→List Ent):Prop:=
 ∀a w Z (K:Act→World→Prop),CW n l a Z→St c H Z w→(∀u v w' Z',Fz.le Z Z'→(r u).p Z' v→St c (H1 u) Z' w'→K (a.put o.dst v) w')→
  Region.wanted o (yielded opsA a.tmps)=true∧o.wp P a w K Q
def Wh {U:Type}(ops:List Oper)(sp:List (Sx U))(l0 lw:Fr)(i0:Nat)(H:List Ent)(H1:U→List Ent):Nat→List Oper→Prop
 | i,o::rest=>(if i=i0 then(∀u,Yp P n c opsA Q (Kl lw (Th sp i).old (Cn ops (XP sp u) (Th sp i).deps l0)) H o (Th sp i).r H1) else ∀u H,E3 P n c opsA Q (Kl lw (Th sp i).old (Cn ops (XP sp u) (Th sp i).deps l0)) H o ((Th sp i).r u) H)∧Wh ops sp l0 lw i0 H H1 (i+1) rest
 | _,[]=>True
end
section
variable {P : Program} {n : Nat} {c : Cx} {opsA : Array Oper} {Q : Exit → Act → World → Prop} {l l0 lw : Fr} {U : Type} {H : List Ent} {H1 : U → List Ent} {sp : List (Sx U)} {i0 : Nat}
theorem Wh.at {ops:List Oper}:∀{k:Nat} {rest:List Oper},Wh P n c opsA Q ops sp l0 lw i0 H H1 k rest→∀(t:Nat) o,rest[t]? =some o→
  (if k+t=i0 then(∀u,Yp P n c opsA Q (Kl lw (Th sp (k+t)).old (Cn ops (XP sp u) (Th sp (k+t)).deps l0)) H o (Th sp (k+t)).r H1) else ∀u H,E3 P n c opsA Q (Kl lw (Th sp (k+t)).old (Cn ops (XP sp u) (Th sp (k+t)).deps l0)) H o ((Th sp (k+t)).r u) H)
 | k,o::rest,⟨h1,h2⟩,t,o',ht=>by
  cases t with
  | zero=>simp at ht;subst ht;exact h1
  | succ t=>
   have:=Wh.at h2 t o' (by simpa using ht);rw[show k+(t+1)=k+1+t from by omega];exact this
 | _,[],_,t,o,h=>by simp at h
end
section
variable {P : Program} {n : Nat} {c : Cx} {opsA : Array Oper} {Q : Exit → Act → World → Prop} {l : Fr} {H : List Ent} {d : Nat} {x y : Operand} {ty t e : TypeId} {pos : String} {af : Array Edge} {v : Value} {sz : Nat}
end
abbrev Ux:=Nat→Nat→Value×Nat
def Ag (k:Nat)(u u':Ux):Prop:=∀j,j<k→u j=u' j
structure Sy where
 deps:List Nat
 r:Ux→Rp
 lv:Nat:=0
 fx:Bool:=false
 old:List Nat:=[]
def Tg (sp:List Sy)(i:Nat):Sy:=sp.getD i { deps:=[],r:=λ_=>rv undef }
def Yd (sp:List Sy)(u:Ux):List Sp:=sp.map λs=>⟨s.deps,s.r u,0⟩
def RP:List Sy→Prop
 | []=>True
 | s::r=>(∀u u',Ag s.lv u u'→s.r u=s.r u')∧RP r
theorem RP.at:∀{sp:List Sy},RP sp→∀{i:Nat} {s:Sy},sp[i]? =some s→∀u u',Ag s.lv u u'→s.r u=s.r u'
 | [],_,i,s,h=>by simp at h
 | x::sp,⟨h1,h2⟩,0,s,h=>by simp at h;subst h;exact h1
 | x::sp,⟨h1,h2⟩,i+1,s,h=>RP.at h2 (by simpa using h)
def cnt (S:Nat→Bool)(is:List Nat):Nat:=(is.filter S).length
section
variable (P : Program) (n : Nat) (c : Cx) (opsA : Array Oper) (Q : Exit → Act → World → Prop)
def Yr (l:Fr)(H:List Ent)(o:Oper)(k:Nat)(u:Ux)(r:Ux→Rp)(H1:Ux→List Ent):Prop:=
 ∀a w Z (K:Act→World→Prop),CW n l a Z→St c H Z w→(∀u' v w' Z',Ag k u u'→Fz.le Z Z'→(r u').p Z' v→St c (H1 u') Z' w'→K (a.put o.dst v) w')→
  Region.wanted o (yielded opsA a.tmps)=true∧o.wp P a w K Q
def Yq (ops:List Oper)(sp:List Sy)(l0 lw:Fr)(is:List Nat)(hs:List (Ux→List Ent))(i:Nat)(o:Oper):Prop:=
 match is.findIdx? (λx=>Nat.beq x i) with
 | some k=>∀u,Yr P n c opsA Q (Kl lw (Tg sp i).old (Cn ops (Yd sp u) (Tg sp i).deps l0)) (hs.getD k (λ_=>[]) u) o k u (Tg sp i).r (hs.getD (k+1) (λ_=>[]))
 | none=>if (Tg sp i).fx=true then ∀u,E3 P n c opsA Q (Kl lw (Tg sp i).old (Cn ops (Yd sp u) (Tg sp i).deps l0)) (hs.getD (Tg sp i).lv (λ_=>[]) u) o ((Tg sp i).r u) (hs.getD (Tg sp i).lv (λ_=>[]) u)
  else ∀u H,E3 P n c opsA Q (Kl lw (Tg sp i).old (Cn ops (Yd sp u) (Tg sp i).deps l0)) H o ((Tg sp i).r u) H
def Wg (ops:List Oper)(sp:List Sy)(l0 lw:Fr)(is:List Nat)(hs:List (Ux→List Ent)):Nat→List Oper→Prop
 | i,o::rest=>Yq P n c opsA Q ops sp l0 lw is hs i o∧Wg ops sp l0 lw is hs (i+1) rest
 | _,[]=>True
end
section
variable {P : Program} {n : Nat} {c : Cx} {opsA : Array Oper} {Q : Exit → Act → World → Prop} {l l0 lw : Fr} {H : List Ent} {hs : List (Ux → List Ent)} {sp : List Sy} {is : List Nat}
theorem Wg.at {ops:List Oper}:∀{k:Nat} {rest:List Oper},Wg P n c opsA Q ops sp l0 lw is hs k rest→∀(t:Nat) o,rest[t]? =some o→Yq P n c opsA Q ops sp l0 lw is hs (k+t) o
 | k,o::rest,⟨h1,h2⟩,t,o',ht=>by
  cases t with
  | zero=>simp at ht;subst ht;exact h1
  | succ t=>
   have:=Wg.at h2 t o' (by simpa using ht);rw[show k+(t+1)=k+1+t from by omega];exact this
 | _,[],_,t,o,h=>by simp at h
end
section
variable {P : Program} {n : Nat} {c : Cx} {opsA : Array Oper} {Q : Exit → Act → World → Prop} {l : Fr} {H : List Ent} {d : Nat} {x y : Operand} {ty t e : TypeId} {pos : String} {af : Array Edge} {v : Value} {sz : Nat}
end
end Go.Proofs.YtghdglcmblpbeaaGreatDoor.Q
