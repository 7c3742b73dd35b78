/-
  Texts of the proof, put together: WVd, PVe, WVe, PVf, WVf, PVg, QU, QT, WVg, PVh, QN, WVh, PFa, QW, PM, QM, QV, PH, QJ, QX, QL.
-/
import Derived.Test.YtghdglcmblpbeaaGreatDoorFM2
import Derived.Laws.StructEq
import Derived.Laws.Cover3
import Derived.MapKept
import Derived.Maps.RangeRun
import GoSem.Op.IntBits
import GoSem.Op.Shift
import Derived.ScopeJumps
import Derived.Laws.CopyRow
import Derived.Laws.IdiomCopy
import Derived.Laws.OwnMore
namespace Go.Proofs.YtghdglcmblpbeaaGreatDoor.Q
open Go Go.RowKit
set_option linter.unusedVariables false
set_option linter.unusedSimpArgs false
set_option maxRecDepth 100000
set_option maxHeartbeats 4000000
theorem GI {n:Nat}{c:Cx}{l:Fr}{H:List Ent}{d:Option Nat}{ty:TypeId}{pos:String}{af:Array Edge}{g:Option (Nat×Bool)}{x0:Operand}{r0:Rp}(h0:ev l x0=some r0)(u0:r0.one=true):Bz Tryz.prog n c l H { dst:=d,op:=.build 54 #[(0,x0)],type:=ty,pos:=pos,after:=af,guard:=g } (Bs [r0,Al 0,rS ([]:Au),Al 0]):=λa w Z ha _=>by
  have p0:=ha.ev h0;have c0:=BW (r0.hone u0 Z _ p0);have hb:Tryz.prog.built 54 [(0,a.eval x0)]=some #[a.eval x0,(.int .i64 0),(.string ⟨#[]⟩),(.int .i64 0)]:=by
    rw[LW];generalize a.eval x0=v0 at *;simp[Instr.fill,c0]
  refine⟨.agg #[a.eval x0,(.int .i64 0),(.string ⟨#[]⟩),(.int .i64 0)],⟨[a.eval x0,(.int .i64 0),(.string ⟨#[]⟩),(.int .i64 0)],rfl,p0,rfl,rfl,rfl,trivial⟩,?_⟩;have:=run_build w 54 #[(0,a.eval x0)] _ (by simpa using hb);simp[execOp,this]
theorem U3 (parts:List (Nat×Value)):Tryz.prog.built 106 parts=Instr.fill (λi=>(#[(0,1),(1,1),(2,1),(3,1)]:Array (Nat×Nat))[i]?) #[(.string ⟨#[]⟩),(.int .i64 0),((.slice none 0 0)),(.bool false)] parts:=by kernel_rfl
theorem Ol {n:Nat}{c:Cx}{l:Fr}{H:List Ent}{d:Option Nat}{ty:TypeId}{pos:String}{af:Array Edge}{g:Option (Nat×Bool)}{x0:Operand}{r0:Rp}(h0:ev l x0=some r0)(u0:r0.one=true):Bz Tryz.prog n c l H { dst:=d,op:=.build 106 #[(0,x0)],type:=ty,pos:=pos,after:=af,guard:=g } (Bs [r0,Al 0,rv (.slice none 0 0),rB false]):=λa w Z ha _=>by
  have p0:=ha.ev h0;have c0:=BW (r0.hone u0 Z _ p0);have hb:Tryz.prog.built 106 [(0,a.eval x0)]=some #[a.eval x0,(.int .i64 0),((.slice none 0 0)),(.bool false)]:=by
    rw[U3];generalize a.eval x0=v0 at *;simp[Instr.fill,c0]
  refine⟨.agg #[a.eval x0,(.int .i64 0),((.slice none 0 0)),(.bool false)],⟨[a.eval x0,(.int .i64 0),((.slice none 0 0)),(.bool false)],rfl,p0,rfl,rfl,rfl,trivial⟩,?_⟩;have:=run_build w 106 #[(0,a.eval x0)] _ (by simpa using hb);simp[execOp,this]
theorem Ng (s:Au)(p:Au)(r:Bool)(h:G9 s p=some r):Fn Tryz.prog GE 136 [rS s,rS p] [] (λR H=>R=rB r∧H=[]):=by
 refine enter (n:=18) Tryz.func136 rfl Tryz.ntmps136 rfl (λw Z=>?_);unfold G9 at h;refine Af (wa rfl (Ak (ck h λg1 h2=>AC [(4,rB ((decide ((p.length:Int)≤(s.length:Int)))&&(decide ((List.take (Bw (p.length:Int)) s)=p))))] [] ?_ ?_)))
 ·refine Aj (wm rfl (wv (BM D2 rfl) (wm rfl (wv (BM D2 rfl) (wv (ER rfl rfl) (wm rfl (AN (decide ((p.length:Int)≤(s.length:Int))) (λc3=>?_) (λc3=>?_))))))))
  ·refine wo c3 (wm rfl (wo c3 (wm rfl (wo c3 (wv (BM D2 rfl) (wo c3 (wv (Jx D2 rfl rfl (BD g1 c3)) (wo c3 (wm rfl (wo c3 (wv (DM rfl rfl) (Ci rfl c3 rfl (wa rfl (Ai ?_))))))))))))));exact BG c3
  ·refine wf c3 (wf c3 (wf c3 (wf c3 (wf c3 (wf c3 (wv (r:=rB false) (At rfl c3 rfl) (wa rfl (Ai ?_))))))));exact BG c3
 refine Ap ?_;obtain rfl:=An h2;exact Ao (Bq Tryz.results136 (A6 rfl)) sN ⟨rfl,rfl⟩
theorem GN (s:Au)(p:Au)(r:Bool)(h:Dk s p=some r):Fn Tryz.prog GE 98 [rS s,rS p] [] (λR H=>R=rB r∧H=[]):=by
 refine enter (n:=8) Tryz.func98 rfl Tryz.ntmps98 rfl (λw Z=>?_);unfold Dk at h;refine Af (wa rfl (Bb (wm rfl (wm rfl (ob h λr1 e3 h2=>BQ Tryz.call136 (Ng s p r1 e3) rfl (wa rfl (Ak (Ap ?_))))))));obtain rfl:=An h2;exact Ao (Bq Tryz.results98 (A6 rfl)) sN ⟨rfl,rfl⟩
theorem Do (ha:Nat)(hb:Value)(q:A0)(s:Au)(r:Bool×A0)(h:EG q s=some r):Fn Tryz.prog GE 117 [rP ha 0,rS s] [.blk ha [rS q.fS,Al q.fAt,rv hb,rB q.fGreat] 106,.row hb 54 4 (A1 Ab q.fCells)] (λR H=>∃w0_2:Value,R=rB r.1∧H=[.blk ha [rS r.2.fS,Al r.2.fAt,rv w0_2,rB r.2.fGreat] 106,.row w0_2 54 4 (A1 Ab r.2.fCells)]):=by
 refine enter (n:=26) Tryz.func117 rfl Tryz.ntmps117 rfl (λw Z=>?_);unfold EG at h;refine Af (wa rfl (Ak (Am (Am (ck h λg1 h2=>ob h2 λr3 e5 h4=>C3 [0,1] [⟨[],rP ha 0,0⟩,⟨[0],rP ha 0,0⟩,⟨[1],rP ha 0,0⟩,⟨[2],rS q.fS,1⟩,⟨[],rP ha 0,0⟩,⟨[4],rP ha 0,0⟩,⟨[5],rP ha 1,0⟩,⟨[6],Al q.fAt,1⟩,⟨[3,7],rS (List.drop (Bw q.fAt) q.fS),0⟩,⟨[],rS s,0⟩,⟨[8,9],rB r3,0⟩,⟨[10],rB (!r3),0⟩] [16,0,1] ?_ ?_)))))
 ·refine oq (A2 rfl) (oq (A9 rfl) (oq (AG B3 rfl CE rfl rfl) (of (Bn (i:=0) CI rfl rfl rfl) (oq (A2 rfl) (oq (A9 rfl) (oq (AG B3 rfl BB rfl rfl) (of (Bn (i:=0) BL rfl rfl rfl) (oq (HY D2 rfl rfl g1) (oq (A2 rfl) (Cz rfl (λH=>C7 Tryz.call98 (GN (List.drop (Bw q.fAt) q.fS) s r3 e5) rfl) ?_))))))))));refine oq (B4 rfl) ?_;exact Cj
 refine AA (cz h4 rfl (λc6 h7=>?_) (λc6 h8=>?_))
 ·refine Af (wa rfl (Ak (Ap (Ac ?_))));obtain rfl:=An h7;exact Ao (Bq Tryz.results117 (A6 rfl)) (sC (sC sN)) ⟨hb,rfl,rfl⟩
 ·refine Aq (AA (Af (wm rfl (wv (A9 rfl) (vF B3 rfl BB (vL 0 BL rfl (wm rfl (wv (BM D2 rfl) (ck h8 λg9 he=>wv (Bd rfl rfl g9) (wv (A9 rfl) (vF B3 rfl BB (BA (i:=0) BB rfl rfl (BO rfl) rfl rfl (cs':=[rS q.fS,Al (q.fAt+(s.length:Int)),rv hb,rB q.fGreat]) rfl (H':=[.blk ha [rS q.fS,Al (q.fAt+(s.length:Int)),rv hb,rB q.fGreat] 106,.row hb 54 4 (A1 Ab q.fCells)]) rfl (Bb (wa rfl (Ak (Ap ?_))))))))))))))));obtain rfl:=An he;exact Ao (Bq Tryz.results117 (A6 rfl)) (sC (sC sN)) ⟨hb,rfl,rfl⟩
theorem QW (F:Nat)(ha:Nat)(hq:Value)(q:A0)(r:Au×Bool×A0)(h:QX F q=some r):Fn Tryz.prog GE 119 [rP ha 0] [.blk ha [rS q.fS,Al q.fAt,rv hq,rB q.fGreat] 106,.row hq 54 4 (A1 Ab q.fCells)] (λR H=>∃w0_2:Value,R=Df [rS r.1,rB r.2.1]∧H=[.blk ha [rS r.2.2.fS,Al r.2.2.fAt,rv w0_2,rB r.2.2.fGreat] 106,.row w0_2 54 4 (A1 Ab r.2.2.fCells)]):=by
 refine enter (n:=104) Tryz.func119 rfl Tryz.ntmps119 rfl (λw Z=>?_);unfold QX at h;refine Af (wv (r:=rS ([]:Au)) (AE rfl) (wa rfl (Ak (Am (Af (wm rfl (ob h λr1 e3 h2=>DP (Hr:=[]) Gn (Do ha hq q ([34]:Au) r1 e3) rfl (XT _) rfl ?_)))))));rintro _ _ ⟨v4,rfl,rfl⟩;refine wv (B4 rfl) (Ak (cz h2 rfl (λc5 h6=>?_) (λc5 h7=>?_)))
 ·refine Af (wv (r:=rS ([]:Au)) (AE rfl) (wa rfl (Ak (Ap (Ac ?_)))));obtain rfl:=An h6;exact Ao (Du OL (A6 rfl) (A6 rfl)) (sC (sC sN)) ⟨v4,rfl,rfl⟩
 ·refine Aq (AA (Af (wa rfl (Ak (Am (A5 (WC.nilrow (e:=5) (sz:=1) (NQ (H2:=[.blk ha [rS r1.2.fS,Al r1.2.fAt,rv v4,rB r1.2.fGreat] 106,.row v4 54 4 (A1 Ab r1.2.fCells),.row (.slice none 0 0     ) 5 1 (A1 B8 ([]:List Int))]) ((A4 (i:=1) rfl).trans (XV _ ((A4 (i:=1) rfl).trans (XV _ (XT _))))) (ob h7 λhw hx hl=>Bc (S:=Nat×((List Int)×Int)×(Value)) (V:=(Int)×(Unit)) 0 (λσ=>BP (λσ=>JE r1 σ.1 σ.2) σ.1 σ.2.1=some hw) (λσ=>[(0,rP ha 0),(4,rv σ.2.2)]) (λσ=>[.blk ha [rS r1.2.fS,Al σ.2.1.2,rv v4,rB r1.2.fGreat] 106,.row v4 54 4 (A1 Ab r1.2.fCells),.row σ.2.2 5 1 (A1 B8 σ.2.1.1)]) (λσ=>σ.1) (F,(([]:List Int),r1.2.fAt),(.slice none 0 0     )) hx (Az.c rfl (Az.c rfl Az.nil)) (sC (sC (sC sN))) (λσ=>JD r1 σ.1=some r) (λσ=>[]) (λσ=>[.blk ha [rS r1.2.fS,Al σ.1,rv v4,rB r1.2.fGreat] 106,.row v4 54 4 (A1 Ab r1.2.fCells)]) ?_ ?_)))))))))
  ·rintro⟨gb,⟨hg,hb⟩,hh⟩ hy;refine Bu (l':=[(0,rP ha 0),(4,rv hh)]) (H':=[.blk ha [rS r1.2.fS,Al hb,rv v4,rB r1.2.fGreat] 106,.row v4 54 4 (A1 Ab r1.2.fCells),.row hh 5 1 (A1 B8 hg)]) rfl rfl ?_;obtain⟨hz,rfl,hr,hm,hk⟩:=BK hy;replace hm:JE r1 hg hb=some hr:=hm;unfold JE at hm;refine Am (Am (C3 [0,4] [⟨[],rP ha 0,0⟩,⟨[0],rP ha 0,0⟩,⟨[1],rP ha 1,0⟩,⟨[2],Al hb,1⟩,⟨[],rP ha 0,0⟩,⟨[4],rP ha 0,0⟩,⟨[5],rP ha 0,0⟩,⟨[6],rS r1.2.fS,1⟩,⟨[7],Al (r1.2.fS.length:Int),0⟩,⟨[3,8],rB (decide (hb<(r1.2.fS.length:Int))),0⟩] [9,10,11,12,13,14,15,16,17,18,0,4] ?_ ?_))
   ·refine oq (A2 rfl) (oq (A9 rfl) (oq (AG B3 rfl BB rfl rfl) (of (Bn (i:=0) BL rfl rfl rfl) (oq (A2 rfl) (oq (A9 rfl) (oq (AG B3 rfl CE rfl rfl) (of (Bn (i:=0) CI rfl rfl rfl) (oq (BM D2 rfl) (oq (Cc rfl rfl) ?_)))))))));exact Cj
   refine AA (cz hm rfl (λh0 h1=>?_) (λh0 h3=>?_))
   ·refine Aq (AA (A5 (Am (ck h1 λh4 h5=>C3 [0,4,9,10,11,12,13,14,15,16,17] [⟨[],rP ha 0,0⟩,⟨[0],rP ha 0,0⟩,⟨[1],rP ha 0,0⟩,⟨[2],rS r1.2.fS,1⟩,⟨[],rP ha 0,0⟩,⟨[4],rP ha 0,0⟩,⟨[5],rP ha 1,0⟩,⟨[6],Al hb,1⟩,⟨[3,7],rI .u8 (Ck r1.2.fS hb),0⟩,⟨[8],rI .u8 (Ck r1.2.fS hb),0⟩] [19,20,21,22,23,24,25,26,27,5,0,4,9,10,11,12,13,14,15,16,17] ?_ ?_))))
    ·refine oq (A2 rfl) (oq (A9 rfl) (oq (AG B3 rfl CE rfl rfl) (of (Bn (i:=0) CI rfl rfl rfl) (oq (A2 rfl) (oq (A9 rfl) (oq (AG B3 rfl BB rfl rfl) (of (Bn (i:=0) BL rfl rfl rfl) (oq (BC D2 rfl rfl h4) (oq (AE rfl) ?_)))))))));exact Cj
    refine AA (Af (wm rfl (wv (A9 rfl) (vF B3 rfl BB (vL 0 BL rfl (ck h5 λh8 h9=>wv (Bd rfl rfl h8) (wv (A9 rfl) (vF B3 rfl BB (BA (i:=0) BB rfl rfl (BO rfl) rfl rfl (cs':=[rS r1.2.fS,Al (hb+1),rv v4,rB r1.2.fGreat]) rfl (H':=[.blk ha [rS r1.2.fS,Al (hb+1),rv v4,rB r1.2.fGreat] 106,.row v4 54 4 (A1 Ab r1.2.fCells),.row hh 5 1 (A1 B8 hg)]) rfl (Ak (BY (S:=(Int×Int)×(Unit)) (λσ=>Ix hg σ.1.1 σ.1.2=some hr) (λσ=>[(0,rP ha 0),(4,rv hh),(5,rI .u8 σ.1.1),(9,rP ha 0),(10,rP ha 0),(11,rP ha 1),(12,Al hb),(13,rP ha 0),(14,rP ha 0),(15,rP ha 0),(16,rS r1.2.fS),(17,Al (r1.2.fS.length:Int)),(19,rP ha 0),(20,rP ha 0),(21,rP ha 0),(22,rS r1.2.fS),(23,rP ha 0),(24,rP ha 0),(25,rP ha 1),(26,Al hb),(27,rI .u8 (Ck r1.2.fS hb))]) (λσ=>[.blk ha [rS r1.2.fS,Al σ.1.2,rv v4,rB r1.2.fGreat] 106,.row v4 54 4 (A1 Ab r1.2.fCells),.row hh 5 1 (A1 B8 hg)]) ?_ ?_)))))))))))
    ·refine A5 (Af (wm rfl (wv (Be rfl rfl) (wa rfl (Ak (cz h9 rfl (λhA hB=>?_) (λhA hC=>?_)))))))
     ·refine Af (wm rfl (wv (r:=rS (VK hg)) (Xd (xs:=hg) (i:=2) Mc D2 Tryz.underlying5 rfl rfl) (wa rfl (wa rfl (Ak (Ap (As (Ac (As (Ac (AO ?_)))))))))));have hD:=Bg hB hk hl;refine As (Ac ?_);obtain rfl:=An hD;exact Ao (Du OL (A6 rfl) (A6 rfl)) (sC (sC (sS sN))) ⟨v4,rfl,rfl⟩
     ·refine AC [(0,rP ha 0),(4,rv hh),(5,rI .u8 (Ck r1.2.fS hb)),(9,rP ha 0),(10,rP ha 0),(11,rP ha 1),(12,Al hb),(13,rP ha 0),(14,rP ha 0),(15,rP ha 0),(16,rS r1.2.fS),(17,Al (r1.2.fS.length:Int)),(19,rP ha 0),(20,rP ha 0),(21,rP ha 0),(22,rS r1.2.fS),(23,rP ha 0),(24,rP ha 0),(25,rP ha 1),(26,Al hb),(27,rI .u8 (Ck r1.2.fS hb)),(40,rB ((decide ((Ck r1.2.fS hb)<32))||(decide (126<(Ck r1.2.fS hb)))))] [.blk ha [rS r1.2.fS,Al (hb+1),rv v4,rB r1.2.fGreat] 106,.row v4 54 4 (A1 Ab r1.2.fCells),.row hh 5 1 (A1 B8 hg)] ?_ ?_
      ·refine Aj (wm rfl (wv (Cc rfl rfl) (wm rfl (AN (decide ((Ck r1.2.fS hb)<32)) (λhi=>?_) (λhi=>?_)))))
       ·refine wf hi (wf hi (wv (r:=rB true) (Ax rfl hi rfl) (wa rfl (Ai ?_))));exact BG hi
       ·refine wo hi (wm rfl (wo hi (wv (CC rfl rfl) (Cm rfl hi rfl (wa rfl (Ai ?_))))));exact BG hi
      refine cz hC rfl (λhE hG=>?_) (λhE hH=>?_)
      ·refine Af (wv (r:=rS ([]:Au)) (AE rfl) (wa rfl (Ak (Ap (As (Ac (As (Ac (AO ?_)))))))));have hI:=Bg hG hk hl;refine As (Ac ?_);obtain rfl:=An hI;exact Ao (Du OL (A6 rfl) (A6 rfl)) (sC (sC (sS sN))) ⟨v4,rfl,rfl⟩
      ·refine Af (wm rfl (wv (Be rfl rfl) (wa rfl (Ak (cz hH rfl (λhJ hK=>?_) (λhJ hL=>?_))))))
       ·refine Am (ck hK λhs hN=>AC [(0,rP ha 0),(4,rv hh),(9,rP ha 0),(10,rP ha 0),(11,rP ha 1),(12,Al hb),(13,rP ha 0),(14,rP ha 0),(15,rP ha 0),(16,rS r1.2.fS),(17,Al (r1.2.fS.length:Int)),(19,rP ha 0),(20,rP ha 0),(21,rP ha 0),(22,rS r1.2.fS),(23,rP ha 0),(24,rP ha 0),(25,rP ha 1),(26,Al hb),(27,rI .u8 (Ck r1.2.fS hb)),(50,rP ha 0),(51,rP ha 0),(52,rP ha 1),(53,Al (hb+1)),(54,rP ha 0),(55,rP ha 0),(56,rP ha 0),(57,rS r1.2.fS),(58,Al (r1.2.fS.length:Int)),(59,rB (decide ((r1.2.fS.length:Int)≤(hb+1)))),(60,rB (decide ((r1.2.fS.length:Int)≤(hb+1)))),(83,rB ((decide ((r1.2.fS.length:Int)≤(hb+1)))||((!decide ((Ck r1.2.fS (hb+1))=34))&&(!decide ((Ck r1.2.fS (hb+1))=92)))))] [.blk ha [rS r1.2.fS,Al (hb+1),rv v4,rB r1.2.fGreat] 106,.row v4 54 4 (A1 Ab r1.2.fCells),.row hh 5 1 (A1 B8 hg)] ?_ ?_)
        ·refine AN (decide ((r1.2.fS.length:Int)≤(hb+1))) (λhe=>?_) (λhe=>?_)
         ·refine C3 [0,4,9,10,11,12,13,14,15,16,17,19,20,21,22,23,24,25,26,27] [⟨[],rP ha 0,0⟩,⟨[0],rP ha 0,0⟩,⟨[1],rP ha 1,0⟩,⟨[2],Al (hb+1),1⟩,⟨[],rP ha 0,0⟩,⟨[4],rP ha 0,0⟩,⟨[5],rP ha 0,0⟩,⟨[6],rS r1.2.fS,1⟩,⟨[7],Al (r1.2.fS.length:Int),0⟩,⟨[3,8],rB (decide ((r1.2.fS.length:Int)≤(hb+1))),0⟩,⟨[9],rB (decide ((r1.2.fS.length:Int)≤(hb+1))),0⟩,⟨[10],rv undef,0⟩,⟨[11,10],rv undef,0⟩,⟨[12,10],rv undef,0⟩,⟨[13,10],rv undef,0⟩,⟨[10],rv undef,0⟩,⟨[15,10],rv undef,0⟩,⟨[16,10],rv undef,0⟩,⟨[17,10],rv undef,0⟩,⟨[14,18,10],rv undef,0⟩,⟨[19,10],rv undef,0⟩,⟨[20,10],rv undef,0⟩,⟨[21],rv undef,0⟩,⟨[22,21],rv undef,0⟩,⟨[23,21],rv undef,0⟩,⟨[24,21],rv undef,0⟩,⟨[21],rv undef,0⟩,⟨[26,21],rv undef,0⟩,⟨[27,21],rv undef,0⟩,⟨[28,21],rv undef,0⟩,⟨[25,29,21],rv undef,0⟩,⟨[30,21],rv undef,0⟩,⟨[21,31,10],rv undef,0⟩,⟨[10,32],rB true,0⟩] [50,51,52,53,54,55,56,57,58,59,60,61,62,63,64,65,66,67,68,69,70,71,72,73,74,75,76,77,78,79,80,81,82,83,0,4,9,10,11,12,13,14,15,16,17,19,20,21,22,23,24,25,26,27] ?_ ?_
          ·refine oq (A2 rfl) (oq (A9 rfl) (oq (AG B3 rfl BB rfl rfl) (of (Bn (i:=0) BL rfl rfl rfl) (oq (A2 rfl) (oq (A9 rfl) (oq (AG B3 rfl CE rfl rfl) (of (Bn (i:=0) CI rfl rfl rfl) (oq (BM D2 rfl) (oq (ER rfl rfl) (oq (A2 rfl) (oz he (oz he (oz he (oz he (oz he (oz he (oz he (oz he (oz he (oz he (oz he (ou (ou ?_)))))))))))))))))))))));refine ou (ou (ou (ou (ou (ou (ou (ou (oz he (oq (Ax (b:=decide ((r1.2.fS.length:Int)≤(hb+1))) rfl he rfl) ?_)))))))));exact Cj
          exact BG he
         ·refine AN (!decide ((Ck r1.2.fS (hb+1))=34)) (λhf=>?_) (λhf=>?_)
          ·refine C3 [0,4,9,10,11,12,13,14,15,16,17,19,20,21,22,23,24,25,26,27] [⟨[],rP ha 0,0⟩,⟨[0],rP ha 0,0⟩,⟨[1],rP ha 1,0⟩,⟨[2],Al (hb+1),1⟩,⟨[],rP ha 0,0⟩,⟨[4],rP ha 0,0⟩,⟨[5],rP ha 0,0⟩,⟨[6],rS r1.2.fS,1⟩,⟨[7],Al (r1.2.fS.length:Int),0⟩,⟨[3,8],rB (decide ((r1.2.fS.length:Int)≤(hb+1))),0⟩,⟨[9],rB (decide ((r1.2.fS.length:Int)≤(hb+1))),0⟩,⟨[10],rP ha 0,0⟩,⟨[11,10],rP ha 0,0⟩,⟨[12,10],rP ha 0,0⟩,⟨[13,10],rS r1.2.fS,1⟩,⟨[10],rP ha 0,0⟩,⟨[15,10],rP ha 0,0⟩,⟨[16,10],rP ha 1,0⟩,⟨[17,10],Al (hb+1),1⟩,⟨[14,18,10],rI .u8 (Ck r1.2.fS (hb+1)),0⟩,⟨[19,10],rB (!decide ((Ck r1.2.fS (hb+1))=34)),0⟩,⟨[20,10],rB (!decide ((Ck r1.2.fS (hb+1))=34)),0⟩,⟨[21],rP ha 0,0⟩,⟨[22,21],rP ha 0,0⟩,⟨[23,21],rP ha 0,0⟩,⟨[24,21],rS r1.2.fS,1⟩,⟨[21],rP ha 0,0⟩,⟨[26,21],rP ha 0,0⟩,⟨[27,21],rP ha 1,0⟩,⟨[28,21],Al (hb+1),1⟩,⟨[25,29,21],rI .u8 (Ck r1.2.fS (hb+1)),0⟩,⟨[30,21],rB (!decide ((Ck r1.2.fS (hb+1))=92)),0⟩,⟨[21,31,10],rB (!decide ((Ck r1.2.fS (hb+1))=92)),0⟩,⟨[10,32],rB (!decide ((Ck r1.2.fS (hb+1))=92)),0⟩] [50,51,52,53,54,55,56,57,58,59,60,61,62,63,64,65,66,67,68,69,70,71,72,73,74,75,76,77,78,79,80,81,82,83,0,4,9,10,11,12,13,14,15,16,17,19,20,21,22,23,24,25,26,27] ?_ ?_
           ·refine oq (A2 rfl) (oq (A9 rfl) (oq (AG B3 rfl BB rfl rfl) (of (Bn (i:=0) BL rfl rfl rfl) (oq (A2 rfl) (oq (A9 rfl) (oq (AG B3 rfl CE rfl rfl) (of (Bn (i:=0) CI rfl rfl rfl) (oq (BM D2 rfl) (oq (ER rfl rfl) (oq (A2 rfl) (on he (oq (A2 rfl) (on he (oq (A9 rfl) (on he (oq (AG B3 rfl CE rfl rfl) (on he (of (Bn (i:=0) CI rfl rfl rfl) (on he (oq (A2 rfl) (on he (oq (A9 rfl) (on he ?_)))))))))))))))))))))));refine oq (AG B3 rfl BB rfl rfl) (on he (of (Bn (i:=0) BL rfl rfl rfl) (on he (oq (BC D2 rfl rfl (Cn hs he)) (on he (oq (Bk rfl rfl) (on he (oq (A2 rfl) (on hf (oq (A2 rfl) (on hf (oq (A9 rfl) (on hf (oq (AG B3 rfl CE rfl rfl) (on hf (of (Bn (i:=0) CI rfl rfl rfl) (on hf (oq (A2 rfl) (on hf (oq (A9 rfl) (on hf (oq (AG B3 rfl BB rfl rfl) (on hf ?_)))))))))))))))))))))));refine of (Bn (i:=0) BL rfl rfl rfl) (on hf (oq (BC D2 rfl rfl (Cn hs he)) (on hf (oq (Bk rfl rfl) (on he (oq (Ax rfl hf rfl) (oq (At rfl he rfl) ?_)))))));exact Cj
           exact BG (And.intro he hf)
          ·refine C3 [0,4,9,10,11,12,13,14,15,16,17,19,20,21,22,23,24,25,26,27] [⟨[],rP ha 0,0⟩,⟨[0],rP ha 0,0⟩,⟨[1],rP ha 1,0⟩,⟨[2],Al (hb+1),1⟩,⟨[],rP ha 0,0⟩,⟨[4],rP ha 0,0⟩,⟨[5],rP ha 0,0⟩,⟨[6],rS r1.2.fS,1⟩,⟨[7],Al (r1.2.fS.length:Int),0⟩,⟨[3,8],rB (decide ((r1.2.fS.length:Int)≤(hb+1))),0⟩,⟨[9],rB (decide ((r1.2.fS.length:Int)≤(hb+1))),0⟩,⟨[10],rP ha 0,0⟩,⟨[11,10],rP ha 0,0⟩,⟨[12,10],rP ha 0,0⟩,⟨[13,10],rS r1.2.fS,1⟩,⟨[10],rP ha 0,0⟩,⟨[15,10],rP ha 0,0⟩,⟨[16,10],rP ha 1,0⟩,⟨[17,10],Al (hb+1),1⟩,⟨[14,18,10],rI .u8 (Ck r1.2.fS (hb+1)),0⟩,⟨[19,10],rB (!decide ((Ck r1.2.fS (hb+1))=34)),0⟩,⟨[20,10],rB (!decide ((Ck r1.2.fS (hb+1))=34)),0⟩,⟨[21],rv undef,0⟩,⟨[22,21],rv undef,0⟩,⟨[23,21],rv undef,0⟩,⟨[24,21],rv undef,0⟩,⟨[21],rv undef,0⟩,⟨[26,21],rv undef,0⟩,⟨[27,21],rv undef,0⟩,⟨[28,21],rv undef,0⟩,⟨[25,29,21],rv undef,0⟩,⟨[30,21],rv undef,0⟩,⟨[21,31,10],rB false,0⟩,⟨[10,32],rB false,0⟩] [50,51,52,53,54,55,56,57,58,59,60,61,62,63,64,65,66,67,68,69,70,71,72,73,74,75,76,77,78,79,80,81,82,83,0,4,9,10,11,12,13,14,15,16,17,19,20,21,22,23,24,25,26,27] ?_ ?_
           ·refine oq (A2 rfl) (oq (A9 rfl) (oq (AG B3 rfl BB rfl rfl) (of (Bn (i:=0) BL rfl rfl rfl) (oq (A2 rfl) (oq (A9 rfl) (oq (AG B3 rfl CE rfl rfl) (of (Bn (i:=0) CI rfl rfl rfl) (oq (BM D2 rfl) (oq (ER rfl rfl) (oq (A2 rfl) (on he (oq (A2 rfl) (on he (oq (A9 rfl) (on he (oq (AG B3 rfl CE rfl rfl) (on he (of (Bn (i:=0) CI rfl rfl rfl) (on he (oq (A2 rfl) (on he (oq (A9 rfl) (on he ?_)))))))))))))))))))))));refine oq (AG B3 rfl BB rfl rfl) (on he (of (Bn (i:=0) BL rfl rfl rfl) (on he (oq (BC D2 rfl rfl (Cn hs he)) (on he (oq (Bk rfl rfl) (on he (oq (A2 rfl) (oz hf (oz hf (oz hf (oz hf (oz hf (oz hf (oz hf (oz hf (oz hf (oz hf (on he (oq (At (b:=!decide ((Ck r1.2.fS (hb+1))=34)) rfl hf rfl) (oq (At rfl he rfl) ?_)))))))))))))))))))));exact Cj
           exact BG (And.intro he hf)
        refine cz hN rfl (λhO hP=>?_) (λhO hQ=>?_)
        ·refine Af (wv (r:=rS ([]:Au)) (AE rfl) (wa rfl (Ak (Ap (Ac (As (Ac (As (Ac (AO ?_))))))))));have hR:=Bg hP hk hl;refine As (Ac ?_);obtain rfl:=An hR;exact Ao (Du OL (A6 rfl) (A6 rfl)) (sC (sC (sS sN))) ⟨v4,rfl,rfl⟩
        ·refine Aq (AA (Am (ck hQ λhS hT=>C3 [0,4,9,10,11,12,13,14,15,16,17,19,20,21,22,23,24,25,26,27,50,51,52,53,54,55,56,57,58,59,60] [⟨[],rP ha 0,0⟩,⟨[0],rP ha 0,0⟩,⟨[1],rP ha 0,0⟩,⟨[2],rS r1.2.fS,1⟩,⟨[],rP ha 0,0⟩,⟨[4],rP ha 0,0⟩,⟨[5],rP ha 1,0⟩,⟨[6],Al (hb+1),1⟩,⟨[3,7],rI .u8 (Ck r1.2.fS (hb+1)),0⟩,⟨[8],rI .u8 (Ck r1.2.fS (hb+1)),0⟩] [84,85,86,87,88,89,90,91,92,5,0,4,9,10,11,12,13,14,15,16,17,19,20,21,22,23,24,25,26,27,50,51,52,53,54,55,56,57,58,59,60] ?_ ?_)))
         ·refine oq (A2 rfl) (oq (A9 rfl) (oq (AG B3 rfl CE rfl rfl) (of (Bn (i:=0) CI rfl rfl rfl) (oq (A2 rfl) (oq (A9 rfl) (oq (AG B3 rfl BB rfl rfl) (of (Bn (i:=0) BL rfl rfl rfl) (oq (BC D2 rfl rfl hS) (oq (AE rfl) ?_)))))))));exact Cj
         exact AA (Aj (wm rfl (wv (A9 rfl) (vF B3 rfl BB (vL 0 BL rfl (ck hT λhU hV=>wv (Bd rfl rfl hU) (wv (A9 rfl) (vF B3 rfl BB (BA (i:=0) BB rfl rfl (BO rfl) rfl rfl (cs':=[rS r1.2.fS,Al ((hb+1)+1),rv v4,rB r1.2.fGreat]) rfl (H':=[.blk ha [rS r1.2.fS,Al ((hb+1)+1),rv v4,rB r1.2.fGreat] 106,.row v4 54 4 (A1 Ab r1.2.fCells),.row hh 5 1 (A1 B8 hg)]) rfl (Ai (A3 (Av (Ar ((Ck r1.2.fS (hb+1),(hb+1)+1),()) hV (Az.c rfl (Az.c5 rfl rfl rfl rfl rfl (Az.c5 rfl rfl rfl rfl rfl (Az.c5 rfl rfl rfl rfl rfl (Az.c5 rfl rfl rfl rfl rfl Az.nil))))) (sC (sC (sC sN))))))))))))))))
       ·exact Aq (A3 (Av (Ar ((Ck r1.2.fS hb,hb+1),()) hL (Az.c rfl (Az.c5 rfl rfl rfl rfl rfl (Az.c5 rfl rfl rfl rfl rfl (Az.c5 rfl rfl rfl rfl rfl (Az.c5 rfl rfl rfl rfl rfl Az.nil))))) (sC (sC (sC sN))))))
    ·rintro⟨⟨hj,hn⟩,⟨⟩⟩ ho;refine Bu (l':=[(0,rP ha 0),(4,rv hh),(5,rI .u8 hj),(9,rP ha 0),(10,rP ha 0),(11,rP ha 1),(12,Al hb),(13,rP ha 0),(14,rP ha 0),(15,rP ha 0),(16,rS r1.2.fS),(17,Al (r1.2.fS.length:Int)),(19,rP ha 0),(20,rP ha 0),(21,rP ha 0),(22,rS r1.2.fS),(23,rP ha 0),(24,rP ha 0),(25,rP ha 1),(26,Al hb),(27,rI .u8 (Ck r1.2.fS hb))]) (H':=[.blk ha [rS r1.2.fS,Al hn,rv v4,rB r1.2.fGreat] 106,.row v4 54 4 (A1 Ab r1.2.fCells),.row hh 5 1 (A1 B8 hg)]) rfl rfl ?_;replace ho:Ix hg hj hn=some hr:=ho;unfold Ix at ho;refine Aj (wm rfl (wm rfl (AY (ys:=([hj]:List Int)) (enc:=B8) (css:=[[rI .u8 hj]]) (xs:=[.tmp 101]) Mc Tryz.sizeOf5 XA rfl rfl rfl ⟨E1.one rfl (Up.refl _),trivial⟩ rfl Gl rfl rfl rfl (λhW=>?_))));refine ck ho λhX hY=>Exists.elim P8 λinf hinf=>Cg (xs:=hg) (ys:=([hj]:List Int)) (enc:=B8) (i:=3) Mc hinf.1 hinf.2.1 hinf.2.2.1 hinf.2.2.2 rfl rfl rfl rfl rfl (K9.w (i:=0) rfl rfl) Gl KZ hX rfl (λht=>?_);refine wa rfl (Ai (A3 (CB (H2:=[.blk ha [rS r1.2.fS,Al hn,rv v4,rB r1.2.fGreat] 106,.row v4 54 4 (A1 Ab r1.2.fCells),.row ht 5 1 (A1 B8 (hg++([hj]:List Int))),.row (.slice (some ⟨hW,0,none⟩) 1 1) 5 1 (A1 B8 ([hj]:List Int))]) ((A4 (i:=2) rfl).trans (XV _ ((A4 (i:=2) rfl).trans (XV _ (XT _))))) ?_)));have hZ:=AW hY hk;exact Av (Ar (hz,(hg++([hj]:List Int),hn),ht) ⟨hZ,XX _⟩ (Az.c rfl (Az.c rfl Az.nil)) (sC (sC (sC (sS sN)))))
   ·refine Bi (Aw ?_);have ga:=Bx h3 hk hl;exact Aw (AS (Ar (hb,()) ga Az.nil (sC (sC (sS sN)))))
  ·rintro⟨hu,⟨⟩⟩ hp;refine BS (l':=[]) (H':=[.blk ha [rS r1.2.fS,Al hu,rv v4,rB r1.2.fGreat] 106,.row v4 54 4 (A1 Ab r1.2.fCells)]) rfl rfl ?_;replace hp:JD r1 hu=some r:=hp;unfold JD at hp;refine AV (AA (Af (wv (r:=rS ([]:Au)) (AE rfl) (wa rfl (Ak (Ap ?_))))));obtain rfl:=An hp;exact Ao (Du OL (A6 rfl) (A6 rfl)) (sC (sC sN)) ⟨v4,rfl,rfl⟩
theorem UM (F:Nat)(ha:Nat)(hm:Value)(q:A0)(r:Bool×A0)(h:Th F q=some r):Fn Tryz.prog GE 144 [rP ha 0] [.blk ha [rS q.fS,Al q.fAt,rv hm,rB q.fGreat] 106,.row hm 54 4 (A1 Ab q.fCells)] (λR H=>∃w0_2:Value,R=rB r.1∧H=[.blk ha [rS r.2.fS,Al r.2.fAt,rv w0_2,rB r.2.fGreat] 106,.row w0_2 54 4 (A1 Ab r.2.fCells)]):=by
 refine enter (n:=104) Tryz.func144 rfl Tryz.ntmps144 rfl (λw Z=>?_);unfold Th at h;refine Af (wa rfl (Bb (wm rfl (wv (A9 rfl) (vF B3 rfl BB (vL 0 BL rfl (wa rfl (Bb (wm rfl (ob h λr1 e3 h2=>DP (Hr:=[]) Gn (Do ha hm q ([45]:Au) r1 e3) rfl (XT _) rfl ?_))))))))));rintro _ _ ⟨v4,rfl,rfl⟩;refine Bb (wm rfl (wv (A9 rfl) (vF B3 rfl BB (vL 0 BL rfl (wa rfl (Ak (Am (A5 (ob h2 λhq hr hs=>Bc (S:=Nat×(Int)×(Unit)) (V:=(Int)×(Unit)) 0 (λσ=>BP (λσ=>JG r1 σ) σ.1 σ.2.1=some hq) (λσ=>[(0,rP ha 0),(3,Al q.fAt),(4,Al r1.2.fAt)]) (λσ=>[.blk ha [rS r1.2.fS,Al σ.2.1,rv v4,rB r1.2.fGreat] 106,.row v4 54 4 (A1 Ab r1.2.fCells)]) (λσ=>σ.1) (F,r1.2.fAt,()) hr (Az.c rfl (Az.c rfl (Az.c rfl Az.nil))) (sC (sC sN)) (λσ=>JF q r1 σ.1=some r) (λσ=>[(0,rP ha 0),(3,Al q.fAt),(4,Al r1.2.fAt)]) (λσ=>[.blk ha [rS r1.2.fS,Al σ.1,rv v4,rB r1.2.fGreat] 106,.row v4 54 4 (A1 Ab r1.2.fCells)]) ?_ ?_)))))))))
 ·rintro⟨hI,he,⟨⟩⟩ ht;refine Bu (l':=[(0,rP ha 0),(3,Al q.fAt),(4,Al r1.2.fAt)]) (H':=[.blk ha [rS r1.2.fS,Al he,rv v4,rB r1.2.fGreat] 106,.row v4 54 4 (A1 Ab r1.2.fCells)]) rfl rfl ?_;obtain⟨hu,rfl,hw,hk,ho⟩:=BK ht;replace hk:JG r1 he=some hw:=hk;unfold JG at hk;refine Am (ck hk λhn hx=>AC [(0,rP ha 0),(3,Al q.fAt),(4,Al r1.2.fAt),(17,rP ha 0),(18,rP ha 0),(19,rP ha 1),(20,Al he),(21,rP ha 0),(22,rP ha 0),(23,rP ha 0),(24,rS r1.2.fS),(25,Al (r1.2.fS.length:Int)),(26,rB (decide (he<(r1.2.fS.length:Int)))),(27,rB (decide (he<(r1.2.fS.length:Int)))),(38,rB ((decide (he<(r1.2.fS.length:Int)))&&(decide (48≤(Ck r1.2.fS he))))),(39,rB ((decide (he<(r1.2.fS.length:Int)))&&(decide (48≤(Ck r1.2.fS he))))),(50,rB ((decide (he<(r1.2.fS.length:Int)))&&((decide (48≤(Ck r1.2.fS he)))&&(decide ((Ck r1.2.fS he)≤57)))))] [.blk ha [rS r1.2.fS,Al he,rv v4,rB r1.2.fGreat] 106,.row v4 54 4 (A1 Ab r1.2.fCells)] ?_ ?_)
  ·refine AN (decide (he<(r1.2.fS.length:Int))) (λhf=>?_) (λhf=>?_)
   ·refine AN (decide (48≤(Ck r1.2.fS he))) (λhg=>?_) (λhg=>?_)
    ·refine C3 [0,3,4] [⟨[],rP ha 0,0⟩,⟨[0],rP ha 0,0⟩,⟨[1],rP ha 1,0⟩,⟨[2],Al he,1⟩,⟨[],rP ha 0,0⟩,⟨[4],rP ha 0,0⟩,⟨[5],rP ha 0,0⟩,⟨[6],rS r1.2.fS,1⟩,⟨[7],Al (r1.2.fS.length:Int),0⟩,⟨[3,8],rB (decide (he<(r1.2.fS.length:Int))),0⟩,⟨[9],rB (decide (he<(r1.2.fS.length:Int))),0⟩,⟨[10],rP ha 0,0⟩,⟨[11,10],rP ha 0,0⟩,⟨[12,10],rP ha 0,0⟩,⟨[13,10],rS r1.2.fS,1⟩,⟨[10],rP ha 0,0⟩,⟨[15,10],rP ha 0,0⟩,⟨[16,10],rP ha 1,0⟩,⟨[17,10],Al he,1⟩,⟨[14,18,10],rI .u8 (Ck r1.2.fS he),0⟩,⟨[19,10],rB (decide (48≤(Ck r1.2.fS he))),0⟩,⟨[10,20],rB (decide (48≤(Ck r1.2.fS he))),0⟩,⟨[21],rB (decide (48≤(Ck r1.2.fS he))),0⟩,⟨[22],rP ha 0,0⟩,⟨[23,22],rP ha 0,0⟩,⟨[24,22],rP ha 0,0⟩,⟨[25,22],rS r1.2.fS,1⟩,⟨[22],rP ha 0,0⟩,⟨[27,22],rP ha 0,0⟩,⟨[28,22],rP ha 1,0⟩,⟨[29,22],Al he,1⟩,⟨[26,30,22],rI .u8 (Ck r1.2.fS he),0⟩,⟨[31,22],rB (decide ((Ck r1.2.fS he)≤57)),0⟩,⟨[22,32],rB (decide ((Ck r1.2.fS he)≤57)),0⟩] [17,18,19,20,21,22,23,24,25,26,27,28,29,30,31,32,33,34,35,36,37,38,39,40,41,42,43,44,45,46,47,48,49,50,0,3,4] ?_ ?_
     ·refine oq (A2 rfl) (oq (A9 rfl) (oq (AG B3 rfl BB rfl rfl) (of (Bn (i:=0) BL rfl rfl rfl) (oq (A2 rfl) (oq (A9 rfl) (oq (AG B3 rfl CE rfl rfl) (of (Bn (i:=0) CI rfl rfl rfl) (oq (BM D2 rfl) (oq (Cc rfl rfl) (oq (A2 rfl) (on hf (oq (A2 rfl) (on hf (oq (A9 rfl) (on hf (oq (AG B3 rfl CE rfl rfl) (on hf (of (Bn (i:=0) CI rfl rfl rfl) (on hf (oq (A2 rfl) (on hf (oq (A9 rfl) (on hf ?_)))))))))))))))))))))));refine oq (AG B3 rfl BB rfl rfl) (on hf (of (Bn (i:=0) BL rfl rfl rfl) (on hf (oq (BC D2 rfl rfl (BD hn hf)) (on hf (oq (ER rfl rfl) (oq (Ax rfl hf rfl) (oq (A2 rfl) (on hg (oq (A2 rfl) (on hg (oq (A9 rfl) (on hg (oq (AG B3 rfl CE rfl rfl) (on hg (of (Bn (i:=0) CI rfl rfl rfl) (on hg (oq (A2 rfl) (on hg (oq (A9 rfl) (on hg (oq (AG B3 rfl BB rfl rfl) (on hg ?_)))))))))))))))))))))));refine of (Bn (i:=0) BL rfl rfl rfl) (on hg (oq (BC D2 rfl rfl (BD hn hf)) (on hg (oq (KK rfl rfl) (oq (Ax rfl hg rfl) ?_)))));exact Cj
     exact BG (And.intro hf hg)
    ·refine C3 [0,3,4] [⟨[],rP ha 0,0⟩,⟨[0],rP ha 0,0⟩,⟨[1],rP ha 1,0⟩,⟨[2],Al he,1⟩,⟨[],rP ha 0,0⟩,⟨[4],rP ha 0,0⟩,⟨[5],rP ha 0,0⟩,⟨[6],rS r1.2.fS,1⟩,⟨[7],Al (r1.2.fS.length:Int),0⟩,⟨[3,8],rB (decide (he<(r1.2.fS.length:Int))),0⟩,⟨[9],rB (decide (he<(r1.2.fS.length:Int))),0⟩,⟨[10],rP ha 0,0⟩,⟨[11,10],rP ha 0,0⟩,⟨[12,10],rP ha 0,0⟩,⟨[13,10],rS r1.2.fS,1⟩,⟨[10],rP ha 0,0⟩,⟨[15,10],rP ha 0,0⟩,⟨[16,10],rP ha 1,0⟩,⟨[17,10],Al he,1⟩,⟨[14,18,10],rI .u8 (Ck r1.2.fS he),0⟩,⟨[19,10],rB (decide (48≤(Ck r1.2.fS he))),0⟩,⟨[10,20],rB (decide (48≤(Ck r1.2.fS he))),0⟩,⟨[21],rB (decide (48≤(Ck r1.2.fS he))),0⟩,⟨[22],rv undef,0⟩,⟨[23,22],rv undef,0⟩,⟨[24,22],rv undef,0⟩,⟨[25,22],rv undef,0⟩,⟨[22],rv undef,0⟩,⟨[27,22],rv undef,0⟩,⟨[28,22],rv undef,0⟩,⟨[29,22],rv undef,0⟩,⟨[26,30,22],rv undef,0⟩,⟨[31,22],rv undef,0⟩,⟨[22,32],rB false,0⟩] [17,18,19,20,21,22,23,24,25,26,27,28,29,30,31,32,33,34,35,36,37,38,39,40,41,42,43,44,45,46,47,48,49,50,0,3,4] ?_ ?_
     ·refine oq (A2 rfl) (oq (A9 rfl) (oq (AG B3 rfl BB rfl rfl) (of (Bn (i:=0) BL rfl rfl rfl) (oq (A2 rfl) (oq (A9 rfl) (oq (AG B3 rfl CE rfl rfl) (of (Bn (i:=0) CI rfl rfl rfl) (oq (BM D2 rfl) (oq (Cc rfl rfl) (oq (A2 rfl) (on hf (oq (A2 rfl) (on hf (oq (A9 rfl) (on hf (oq (AG B3 rfl CE rfl rfl) (on hf (of (Bn (i:=0) CI rfl rfl rfl) (on hf (oq (A2 rfl) (on hf (oq (A9 rfl) (on hf ?_)))))))))))))))))))))));refine oq (AG B3 rfl BB rfl rfl) (on hf (of (Bn (i:=0) BL rfl rfl rfl) (on hf (oq (BC D2 rfl rfl (BD hn hf)) (on hf (oq (ER rfl rfl) (oq (Ax rfl hf rfl) (oq (A2 rfl) (oz hg (oz hg (oz hg (oz hg (oz hg (oz hg (oz hg (oz hg (oz hg (oz hg (oq (At (b:=decide (48≤(Ck r1.2.fS he))) rfl hg rfl) ?_)))))))))))))))))));exact Cj
     exact BG (And.intro hf hg)
   ·refine C3 [0,3,4] [⟨[],rP ha 0,0⟩,⟨[0],rP ha 0,0⟩,⟨[1],rP ha 1,0⟩,⟨[2],Al he,1⟩,⟨[],rP ha 0,0⟩,⟨[4],rP ha 0,0⟩,⟨[5],rP ha 0,0⟩,⟨[6],rS r1.2.fS,1⟩,⟨[7],Al (r1.2.fS.length:Int),0⟩,⟨[3,8],rB (decide (he<(r1.2.fS.length:Int))),0⟩,⟨[9],rB (decide (he<(r1.2.fS.length:Int))),0⟩,⟨[10],rv undef,0⟩,⟨[11,10],rv undef,0⟩,⟨[12,10],rv undef,0⟩,⟨[13,10],rv undef,0⟩,⟨[10],rv undef,0⟩,⟨[15,10],rv undef,0⟩,⟨[16,10],rv undef,0⟩,⟨[17,10],rv undef,0⟩,⟨[14,18,10],rv undef,0⟩,⟨[19,10],rv undef,0⟩,⟨[10,20],rB false,0⟩,⟨[21],rB false,0⟩,⟨[22],rv undef,0⟩,⟨[23,22],rv undef,0⟩,⟨[24,22],rv undef,0⟩,⟨[25,22],rv undef,0⟩,⟨[22],rv undef,0⟩,⟨[27,22],rv undef,0⟩,⟨[28,22],rv undef,0⟩,⟨[29,22],rv undef,0⟩,⟨[26,30,22],rv undef,0⟩,⟨[31,22],rv undef,0⟩,⟨[22,32],rB false,0⟩] [17,18,19,20,21,22,23,24,25,26,27,28,29,30,31,32,33,34,35,36,37,38,39,40,41,42,43,44,45,46,47,48,49,50,0,3,4] ?_ ?_
    ·refine oq (A2 rfl) (oq (A9 rfl) (oq (AG B3 rfl BB rfl rfl) (of (Bn (i:=0) BL rfl rfl rfl) (oq (A2 rfl) (oq (A9 rfl) (oq (AG B3 rfl CE rfl rfl) (of (Bn (i:=0) CI rfl rfl rfl) (oq (BM D2 rfl) (oq (Cc rfl rfl) (oq (A2 rfl) (oz hf (oz hf (oz hf (oz hf (oz hf (oz hf (oz hf (oz hf (oz hf (oz hf (oq (At (b:=decide (he<(r1.2.fS.length:Int))) rfl hf rfl) (oq (A2 rfl) (oz rfl ?_)))))))))))))))))))))));refine oz rfl (oz rfl (oz rfl (oz rfl (oz rfl (oz rfl (oz rfl (oz rfl (oz rfl (oq (At (b:=false) rfl rfl rfl) ?_)))))))));exact Cj
    exact BG hf
  refine cz hx rfl (λhy hz=>?_) (λhy h0=>?_)
  ·refine Aq (AA (A5 (Aj (wm rfl (wv (A9 rfl) (vF B3 rfl BB (vL 0 BL rfl (ck hz λh1 h3=>wv (Bd rfl rfl h1) (wv (A9 rfl) (vF B3 rfl BB (BA (i:=0) BB rfl rfl (BO rfl) rfl rfl (cs':=[rS r1.2.fS,Al (he+1),rv v4,rB r1.2.fGreat]) rfl (H':=[.blk ha [rS r1.2.fS,Al (he+1),rv v4,rB r1.2.fGreat] 106,.row v4 54 4 (A1 Ab r1.2.fCells)]) rfl (Ai (A3 ?_)))))))))))));have h4:=AW h3 ho;exact Av (Ar (hu,he+1,()) ⟨h4,XX _⟩ (Az.c rfl (Az.c rfl (Az.c rfl Az.nil))) (sC (sC sN)))
  ·refine Bi (Aw ?_);have h5:=Bx h0 ho hs;exact Aw (AS (Ar (he,()) h5 (Az.c rfl (Az.c rfl (Az.c rfl Az.nil))) (sC (sC sN))))
 ·rintro⟨hb,⟨⟩⟩ hl;refine BS (l':=[(0,rP ha 0),(3,Al q.fAt),(4,Al r1.2.fAt)]) (H':=[.blk ha [rS r1.2.fS,Al hb,rv v4,rB r1.2.fGreat] 106,.row v4 54 4 (A1 Ab r1.2.fCells)]) rfl rfl ?_;replace hl:JF q r1 hb=some r:=hl;unfold JF at hl;refine AV (AA (Am (ck hl λh6 h7=>ck h7 λh8 h9=>ck h9 λhA hB=>C3 [0,3,4] [⟨[],rP ha 0,0⟩,⟨[0],rP ha 0,0⟩,⟨[1],rP ha 0,0⟩,⟨[2],rS r1.2.fS,1⟩,⟨[],Al q.fAt,0⟩,⟨[],rP ha 0,0⟩,⟨[5],rP ha 0,0⟩,⟨[6],rP ha 1,0⟩,⟨[7],Al hb,1⟩,⟨[3,4,8],rS (List.take (Bw hb-Bw q.fAt) (List.drop (Bw q.fAt) r1.2.fS)),0⟩,⟨[9],Df [Al (CP (List.take (Bw hb-Bw q.fAt) (List.drop (Bw q.fAt) r1.2.fS))),Al (CL (List.take (Bw hb-Bw q.fAt) (List.drop (Bw q.fAt) r1.2.fS)))],0⟩,⟨[10],Df [Al (CP (List.take (Bw hb-Bw q.fAt) (List.drop (Bw q.fAt) r1.2.fS))),Al (CL (List.take (Bw hb-Bw q.fAt) (List.drop (Bw q.fAt) r1.2.fS)))],0⟩,⟨[11],Al (CP (List.take (Bw hb-Bw q.fAt) (List.drop (Bw q.fAt) r1.2.fS))),0⟩,⟨[11],Al (CL (List.take (Bw hb-Bw q.fAt) (List.drop (Bw q.fAt) r1.2.fS))),0⟩,⟨[12],Al (CP (List.take (Bw hb-Bw q.fAt) (List.drop (Bw q.fAt) r1.2.fS))),0⟩,⟨[13],Al (CL (List.take (Bw hb-Bw q.fAt) (List.drop (Bw q.fAt) r1.2.fS))),0⟩] [5,6,0,4] ?_ ?_)))
  ·refine oq (A2 rfl) (oq (A9 rfl) (oq (AG B3 rfl CE rfl rfl) (of (Bn (i:=0) CI rfl rfl rfl) (oq (A2 rfl) (oq (A2 rfl) (oq (A9 rfl) (oq (AG B3 rfl BB rfl rfl) (of (Bn (i:=0) BL rfl rfl rfl) (oq (HZ D2 rfl rfl rfl h6 h8) (Cz rfl (λH=>Kb (rs:=[rS (List.take (Bw hb-Bw q.fAt) (List.drop (Bw q.fAt) r1.2.fS))]) (r:=Df [Al (CP (List.take (Bw hb-Bw q.fAt) (List.drop (Bw q.fAt) r1.2.fS))),Al (CL (List.take (Bw hb-Bw q.fAt) (List.drop (Bw q.fAt) r1.2.fS)))]) Tryz.call151 rfl (Vb (List.take (Bw hb-Bw q.fAt) (List.drop (Bw q.fAt) r1.2.fS)) hA) rfl) ?_))))))))));refine oq (A2 rfl) (oq (A7 rfl rfl) (oq (A7 rfl rfl) (oq (AE rfl) (oq (AE rfl) ?_))));exact Cj
  refine AA (Am (AC [(0,rP ha 0),(5,Al (CP (List.take (Bw hb-Bw q.fAt) (List.drop (Bw q.fAt) r1.2.fS)))),(6,Al (CL (List.take (Bw hb-Bw q.fAt) (List.drop (Bw q.fAt) r1.2.fS)))),(81,rB ((decide ((CL (List.take (Bw hb-Bw q.fAt) (List.drop (Bw q.fAt) r1.2.fS)))=1))||(decide (r1.2.fAt=hb))))] [.blk ha [rS r1.2.fS,Al hb,rv v4,rB r1.2.fGreat] 106,.row v4 54 4 (A1 Ab r1.2.fCells)] ?_ ?_))
  ·refine Aj (wm rfl (wv (Be rfl rfl) (wm rfl (AN (decide ((CL (List.take (Bw hb-Bw q.fAt) (List.drop (Bw q.fAt) r1.2.fS)))=1)) (λhh=>?_) (λhh=>?_)))))
   ·refine wf hh (wf hh (wf hh (wf hh (wf hh (wf hh (wv (r:=rB true) (Ax rfl hh rfl) (Ai ?_)))))));exact BG hh
   ·refine wo hh (wm rfl (wo hh (wm rfl (wo hh (wv (A9 rfl) (wo hh (vF B3 rfl BB (wo hh (vL 0 BL rfl (wo hh (wv (Be rfl rfl) (Cm rfl hh rfl (Ai ?_)))))))))))));exact BG hh
  refine cz hB rfl (λhC hD=>?_) (λhC hE=>?_)
  ·refine Af (wa rfl (Ak (Ap (Ac ?_))));obtain rfl:=An hD;exact Ao (Bq Tryz.results144 (A6 rfl)) (sC (sC sN)) ⟨v4,rfl,rfl⟩
  ·refine Aq (AA (AC [(0,rP ha 0),(5,Al (CP (List.take (Bw hb-Bw q.fAt) (List.drop (Bw q.fAt) r1.2.fS))))] [.blk ha [rS r1.2.fS,Al hb,rv v4,rB (r1.2.fGreat||(!decide ((CL (List.take (Bw hb-Bw q.fAt) (List.drop (Bw q.fAt) r1.2.fS)))=0)))] 106,.row v4 54 4 (A1 Ab r1.2.fCells)] ?_ ?_))
   ·refine Aj (wm rfl (wm rfl (wv (A9 rfl) (vF B3 rfl HD (vL 0 SI rfl (wm rfl (AN (r1.2.fGreat) (λhi=>?_) (λhi=>?_))))))))
    ·refine wf hi (wf hi (wv (r:=rB true) (Ax rfl hi rfl) (wv (A9 rfl) (vF B3 rfl HD (BA (i:=0) HD rfl rfl (BO rfl) rfl rfl (cs':=[rS r1.2.fS,Al hb,rv v4,rB true]) rfl (H':=[.blk ha [rS r1.2.fS,Al hb,rv v4,rB true] 106,.row v4 54 4 (A1 Ab r1.2.fCells)]) rfl (Ai (HG (H':=[.blk ha [rS r1.2.fS,Al hb,rv v4,rB (r1.2.fGreat||(!decide ((CL (List.take (Bw hb-Bw q.fAt) (List.drop (Bw q.fAt) r1.2.fS)))=0)))] 106,.row v4 54 4 (A1 Ab r1.2.fCells)]) (by simp only[hi,Yl,Yt,Yx,Yo,Y1,Ys,Yz,Y0,Yj,Yr,Yg,Yb]) ?_)))))));exact wt
    ·refine wo hi (wm rfl (wo hi (wv (Bk rfl rfl) (Cm rfl hi rfl (wv (A9 rfl) (vF B3 rfl HD (BA (i:=0) HD rfl rfl (BO rfl) rfl rfl (cs':=[rS r1.2.fS,Al hb,rv v4,rB (!decide ((CL (List.take (Bw hb-Bw q.fAt) (List.drop (Bw q.fAt) r1.2.fS)))=0))]) rfl (H':=[.blk ha [rS r1.2.fS,Al hb,rv v4,rB (!decide ((CL (List.take (Bw hb-Bw q.fAt) (List.drop (Bw q.fAt) r1.2.fS)))=0))] 106,.row v4 54 4 (A1 Ab r1.2.fCells)]) rfl (Ai (HG (H':=[.blk ha [rS r1.2.fS,Al hb,rv v4,rB (r1.2.fGreat||(!decide ((CL (List.take (Bw hb-Bw q.fAt) (List.drop (Bw q.fAt) r1.2.fS)))=0)))] 106,.row v4 54 4 (A1 Ab r1.2.fCells)]) (by simp only[hi,Yl,Yt,Yx,Yo,Y1,Ys,Yz,Y0,Yj,Yr,Yg,Yb]) ?_)))))))));exact wt
   refine Af (wm rfl (wm rfl (wv (A9 rfl) (vF B3 rfl Cl (vL 0 CX rfl (wm rfl (wv (r:=Bs [Al 3,Al (CP (List.take (Bw hb-Bw q.fAt) (List.drop (Bw q.fAt) r1.2.fS))),rS ([]:Au),Al 0]) (DY rfl rfl rfl rfl) (AY (ys:=([(Aa.mk 3 (CP (List.take (Bw hb-Bw q.fAt) (List.drop (Bw q.fAt) r1.2.fS))) ([]:Au) 0)]:List Aa)) (enc:=Ab) (css:=[[Al 3,Al (CP (List.take (Bw hb-Bw q.fAt) (List.drop (Bw q.fAt) r1.2.fS))),rS ([]:Au),Al 0]]) (xs:=[.tmp 99]) Bp By GT rfl rfl rfl ⟨E1.agg ⟨Up.refl _,Up.refl _,Up.refl _,Up.refl _,trivial⟩,trivial⟩ rfl Bf rfl rfl rfl (λhp=>?_)))))))));refine ck hE λhG hH=>Exists.elim G0 λinf hinf=>Cg (xs:=r1.2.fCells) (ys:=([(Aa.mk 3 (CP (List.take (Bw hb-Bw q.fAt) (List.drop (Bw q.fAt) r1.2.fS))) ([]:Au) 0)]:List Aa)) (enc:=Ab) (i:=2) Bp hinf.1 hinf.2.1 hinf.2.2.1 hinf.2.2.2 rfl rfl rfl rfl rfl (K9.w (i:=0) rfl rfl) Bf Cy hG rfl (λhj=>?_);refine wv (A9 rfl) (vF B3 rfl Cl (BA (i:=2) Cl rfl rfl (CT (i:=0) rfl) rfl rfl (cs':=[rS r1.2.fS,Al hb,rv hj,rB (r1.2.fGreat||(!decide ((CL (List.take (Bw hb-Bw q.fAt) (List.drop (Bw q.fAt) r1.2.fS)))=0)))]) rfl (H':=[.row hj 54 4 (A1 Ab (r1.2.fCells++([(Aa.mk 3 (CP (List.take (Bw hb-Bw q.fAt) (List.drop (Bw q.fAt) r1.2.fS))) ([]:Au) 0)]:List Aa))),.row (.slice (some ⟨hp,0,none⟩) 1 1) 54 4 (A1 Ab ([(Aa.mk 3 (CP (List.take (Bw hb-Bw q.fAt) (List.drop (Bw q.fAt) r1.2.fS))) ([]:Au) 0)]:List Aa)),.blk ha [rS r1.2.fS,Al hb,rv hj,rB (r1.2.fGreat||(!decide ((CL (List.take (Bw hb-Bw q.fAt) (List.drop (Bw q.fAt) r1.2.fS)))=0)))] 106]) rfl (Bb (wa rfl (Ak (Ap (CB (H2:=[.blk ha [rS r1.2.fS,Al hb,rv hj,rB (r1.2.fGreat||(!decide ((CL (List.take (Bw hb-Bw q.fAt) (List.drop (Bw q.fAt) r1.2.fS)))=0)))] 106,.row hj 54 4 (A1 Ab (r1.2.fCells++([(Aa.mk 3 (CP (List.take (Bw hb-Bw q.fAt) (List.drop (Bw q.fAt) r1.2.fS))) ([]:Au) 0)]:List Aa))),.row (.slice (some ⟨hp,0,none⟩) 1 1) 54 4 (A1 Ab ([(Aa.mk 3 (CP (List.take (Bw hb-Bw q.fAt) (List.drop (Bw q.fAt) r1.2.fS))) ([]:Au) 0)]:List Aa))]) ((A4 (i:=2) rfl).trans (XV _ (XT _))) ?_)))))));obtain rfl:=An hH;exact Ao (Bq Tryz.results144 (A6 rfl)) (sC (sC (sS sN))) ⟨hj,rfl,rfl⟩
theorem Qi (F:Nat)(he:Nat)(hl:Value)(q:A0)(r:Bool×A0)(h:Mn F q=some r):Fn Tryz.prog GE 118 [rP he 0] [.blk he [rS q.fS,Al q.fAt,rv hl,rB q.fGreat] 106,.row hl 54 4 (A1 Ab q.fCells)] (λR H=>∃w0_2:Value,R=rB r.1∧H=[.blk he [rS r.2.fS,Al r.2.fAt,rv w0_2,rB r.2.fGreat] 106,.row w0_2 54 4 (A1 Ab r.2.fCells)]):=by
 refine enter (n:=75) Tryz.func118 rfl Tryz.ntmps118 rfl (λw Z=>?_);unfold Mn at h;refine Af (wa rfl (Ak (BY (S:=(Au×Int×(List Aa)×Bool)×(Value)) (λσ=>D3 σ.1.1 σ.1.2.1 σ.1.2.2.1 σ.1.2.2.2=some r) (λσ=>[]) (λσ=>[.blk he [rS σ.1.1,Al σ.1.2.1,rv σ.2,rB σ.1.2.2.2] 106,.row σ.2 54 4 (A1 Ab σ.1.2.2.1)]) ?_ ?_)))
 ·refine A5 (Af (wm rfl (ob h λhf hy hz=>DP (Hr:=[]) Gn (Do he hl q ([110,117,108,108]:Au) hf hy) rfl (XT _) rfl ?_)));rintro _ _ ⟨h0,rfl,rfl⟩;refine wa rfl (Ak (cz hz rfl (λh1 h2=>?_) (λh1 h3=>?_)))
  ·refine Aj (wm rfl (wm rfl (wv (A9 rfl) (vF B3 rfl Cl (vL 0 CX rfl (wv (r:=Bs [Al 1,Al 0,rS ([]:Au),Al 0]) (GI rfl rfl) (AY (ys:=([(Aa.mk 1 0 ([]:Au) 0)]:List Aa)) (enc:=Ab) (css:=[[Al 1,Al 0,rS ([]:Au),Al 0]]) (xs:=[.tmp 15]) Bp By GT rfl rfl rfl ⟨E1.agg ⟨Up.refl _,Up.refl _,Up.refl _,Up.refl _,trivial⟩,trivial⟩ rfl Bf rfl rfl rfl (λho=>?_))))))));refine ck h2 λh4 h5=>Exists.elim G0 λinf hinf=>Cg (xs:=hf.2.fCells) (ys:=([(Aa.mk 1 0 ([]:Au) 0)]:List Aa)) (enc:=Ab) (i:=2) Bp hinf.1 hinf.2.1 hinf.2.2.1 hinf.2.2.2 rfl rfl rfl rfl rfl (K9.w (i:=0) rfl rfl) Bf Cy h4 rfl (λhh=>?_);exact wv (A9 rfl) (vF B3 rfl Cl (BA (i:=2) Cl rfl rfl (CT (i:=0) rfl) rfl rfl (cs':=[rS hf.2.fS,Al hf.2.fAt,rv hh,rB hf.2.fGreat]) rfl (H':=[.row hh 54 4 (A1 Ab (hf.2.fCells++([(Aa.mk 1 0 ([]:Au) 0)]:List Aa))),.row (.slice (some ⟨ho,0,none⟩) 1 1) 54 4 (A1 Ab ([(Aa.mk 1 0 ([]:Au) 0)]:List Aa)),.blk he [rS hf.2.fS,Al hf.2.fAt,rv hh,rB hf.2.fGreat] 106]) rfl (Ai (A3 (CB (H2:=[.blk he [rS hf.2.fS,Al hf.2.fAt,rv hh,rB hf.2.fGreat] 106,.row hh 54 4 (A1 Ab (hf.2.fCells++([(Aa.mk 1 0 ([]:Au) 0)]:List Aa))),.row (.slice (some ⟨ho,0,none⟩) 1 1) 54 4 (A1 Ab ([(Aa.mk 1 0 ([]:Au) 0)]:List Aa))]) ((A4 (i:=2) rfl).trans (XV _ (XT _))) (Av (Ar ((hf.2.fS,hf.2.fAt,hf.2.fCells++([(Aa.mk 1 0 ([]:Au) 0)]:List Aa),hf.2.fGreat),hh) h5 Az.nil (sC (sC (sS sN))))))))))
  ·refine Af (wm rfl (ob h3 λhg h6 h7=>DP (Hr:=[]) Gn (Do he h0 hf.2 ([116,114,117,101]:Au) hg h6) rfl (XT _) rfl ?_));rintro _ _ ⟨v76,rfl,rfl⟩;refine wa rfl (Ak (cz h7 rfl (λh8 h9=>?_) (λh8 hA=>?_)))
   ·refine Aj (wm rfl (wm rfl (wv (A9 rfl) (vF B3 rfl Cl (vL 0 CX rfl (wv (r:=Bs [Al 2,Al 1,rS ([]:Au),Al 0]) (DY rfl rfl rfl rfl) (AY (ys:=([(Aa.mk 2 1 ([]:Au) 0)]:List Aa)) (enc:=Ab) (css:=[[Al 2,Al 1,rS ([]:Au),Al 0]]) (xs:=[.tmp 28]) Bp By GT rfl rfl rfl ⟨E1.agg ⟨Up.refl _,Up.refl _,Up.refl _,Up.refl _,trivial⟩,trivial⟩ rfl Bf rfl rfl rfl (λhp=>?_))))))));refine ck h9 λhB hC=>Exists.elim G0 λinf hinf=>Cg (xs:=hg.2.fCells) (ys:=([(Aa.mk 2 1 ([]:Au) 0)]:List Aa)) (enc:=Ab) (i:=2) Bp hinf.1 hinf.2.1 hinf.2.2.1 hinf.2.2.2 rfl rfl rfl rfl rfl (K9.w (i:=0) rfl rfl) Bf Cy hB rfl (λv80=>?_);exact wv (A9 rfl) (vF B3 rfl Cl (BA (i:=2) Cl rfl rfl (CT (i:=0) rfl) rfl rfl (cs':=[rS hg.2.fS,Al hg.2.fAt,rv v80,rB hg.2.fGreat]) rfl (H':=[.row v80 54 4 (A1 Ab (hg.2.fCells++([(Aa.mk 2 1 ([]:Au) 0)]:List Aa))),.row (.slice (some ⟨hp,0,none⟩) 1 1) 54 4 (A1 Ab ([(Aa.mk 2 1 ([]:Au) 0)]:List Aa)),.blk he [rS hg.2.fS,Al hg.2.fAt,rv v80,rB hg.2.fGreat] 106]) rfl (Ai (A3 (CB (H2:=[.blk he [rS hg.2.fS,Al hg.2.fAt,rv v80,rB hg.2.fGreat] 106,.row v80 54 4 (A1 Ab (hg.2.fCells++([(Aa.mk 2 1 ([]:Au) 0)]:List Aa))),.row (.slice (some ⟨hp,0,none⟩) 1 1) 54 4 (A1 Ab ([(Aa.mk 2 1 ([]:Au) 0)]:List Aa))]) ((A4 (i:=2) rfl).trans (XV _ (XT _))) (Av (Ar ((hg.2.fS,hg.2.fAt,hg.2.fCells++([(Aa.mk 2 1 ([]:Au) 0)]:List Aa),hg.2.fGreat),v80) hC Az.nil (sC (sC (sS sN))))))))))
   ·refine Af (wm rfl (ob hA λhb hD hE=>DP (Hr:=[]) Gn (Do he v76 hg.2 ([102,97,108,115,101]:Au) hb hD) rfl (XT _) rfl ?_));rintro _ _ ⟨hq,rfl,rfl⟩;refine wa rfl (Ak (cz hE rfl (λhG hH=>?_) (λhG hI=>?_)))
    ·refine Aj (wm rfl (wm rfl (wv (A9 rfl) (vF B3 rfl Cl (vL 0 CX rfl (wv (r:=Bs [Al 2,Al 0,rS ([]:Au),Al 0]) (GI rfl rfl) (AY (ys:=([(Aa.mk 2 0 ([]:Au) 0)]:List Aa)) (enc:=Ab) (css:=[[Al 2,Al 0,rS ([]:Au),Al 0]]) (xs:=[.tmp 41]) Bp By GT rfl rfl rfl ⟨E1.agg ⟨Up.refl _,Up.refl _,Up.refl _,Up.refl _,trivial⟩,trivial⟩ rfl Bf rfl rfl rfl (λhr=>?_))))))));refine ck hH λhJ hK=>Exists.elim G0 λinf hinf=>Cg (xs:=hb.2.fCells) (ys:=([(Aa.mk 2 0 ([]:Au) 0)]:List Aa)) (enc:=Ab) (i:=2) Bp hinf.1 hinf.2.1 hinf.2.2.1 hinf.2.2.2 rfl rfl rfl rfl rfl (K9.w (i:=0) rfl rfl) Bf Cy hJ rfl (λhi=>?_);exact wv (A9 rfl) (vF B3 rfl Cl (BA (i:=2) Cl rfl rfl (CT (i:=0) rfl) rfl rfl (cs':=[rS hb.2.fS,Al hb.2.fAt,rv hi,rB hb.2.fGreat]) rfl (H':=[.row hi 54 4 (A1 Ab (hb.2.fCells++([(Aa.mk 2 0 ([]:Au) 0)]:List Aa))),.row (.slice (some ⟨hr,0,none⟩) 1 1) 54 4 (A1 Ab ([(Aa.mk 2 0 ([]:Au) 0)]:List Aa)),.blk he [rS hb.2.fS,Al hb.2.fAt,rv hi,rB hb.2.fGreat] 106]) rfl (Ai (A3 (CB (H2:=[.blk he [rS hb.2.fS,Al hb.2.fAt,rv hi,rB hb.2.fGreat] 106,.row hi 54 4 (A1 Ab (hb.2.fCells++([(Aa.mk 2 0 ([]:Au) 0)]:List Aa))),.row (.slice (some ⟨hr,0,none⟩) 1 1) 54 4 (A1 Ab ([(Aa.mk 2 0 ([]:Au) 0)]:List Aa))]) ((A4 (i:=2) rfl).trans (XV _ (XT _))) (Av (Ar ((hb.2.fS,hb.2.fAt,hb.2.fCells++([(Aa.mk 2 0 ([]:Au) 0)]:List Aa),hb.2.fGreat),hi) hK Az.nil (sC (sC (sS sN))))))))))
    ·refine Am (ck hI λhL hN=>ob hN λhm hO hP=>C3 [0] [⟨[],rP he 0,0⟩,⟨[0],rP he 0,0⟩,⟨[1],rP he 0,0⟩,⟨[2],rS hb.2.fS,1⟩,⟨[],rP he 0,0⟩,⟨[4],rP he 0,0⟩,⟨[5],rP he 1,0⟩,⟨[6],Al hb.2.fAt,1⟩,⟨[3,7],rS (List.drop (Bw hb.2.fAt) hb.2.fS),0⟩,⟨[8],rB hm,0⟩,⟨[9],rB hm,0⟩] [46,0] ?_ ?_)
     ·refine oq (A2 rfl) (oq (A9 rfl) (oq (AG B3 rfl CE rfl rfl) (of (Bn (i:=0) CI rfl rfl rfl) (oq (A2 rfl) (oq (A9 rfl) (oq (AG B3 rfl BB rfl rfl) (of (Bn (i:=0) BL rfl rfl rfl) (oq (HY D2 rfl rfl hL) (Cz rfl (λH=>C7 Tryz.call98 (GN (List.drop (Bw hb.2.fAt) hb.2.fS) ([34]:Au) hm hO) rfl) ?_)))))))));refine oq (AE rfl) ?_;exact Cj
     refine AA (cz hP rfl (λhQ hR=>?_) (λhQ hS=>?_))
     ·refine Af (wm rfl (ob hR λha hT hU=>DP (Hr:=[]) Tryz.call119 (QW F he hq hb.2 ha hT) rfl (XT _) rfl ?_));rintro _ _ ⟨hV,rfl,rfl⟩;refine wm rfl (wv (A7 rfl rfl) (wv (A7 rfl rfl) (wa rfl (wa rfl (Ak (Am (Af (wm rfl (wv (B4 rfl) (Ak (cz hU rfl (λhW hX=>?_) (λhW hY=>?_))))))))))))
      ·refine Af (wa rfl (Ak (Ap (Ac (As (Ac ?_))))));obtain rfl:=An hX;exact Ao (Bq Tryz.results118 (A6 rfl)) (sC (sC sN)) ⟨hV,rfl,rfl⟩
      ·refine Aq (AA (Aj (wm rfl (wm rfl (wv (A9 rfl) (vF B3 rfl Cl (vL 0 CX rfl (wm rfl (wv (r:=Bs [Al 4,Al 0,rS ha.1,Al 0]) (DX rfl rfl rfl rfl) (AY (ys:=([(Aa.mk 4 0 ha.1 0)]:List Aa)) (enc:=Ab) (css:=[[Al 4,Al 0,rS ha.1,Al 0]]) (xs:=[.tmp 70]) Bp By GT rfl rfl rfl ⟨E1.agg ⟨Up.refl _,Up.refl _,Up.refl _,Up.refl _,trivial⟩,trivial⟩ rfl Bf rfl rfl rfl (λhs=>?_)))))))))));refine ck hY λhZ ga=>Exists.elim G0 λinf hinf=>Cg (xs:=ha.2.2.fCells) (ys:=([(Aa.mk 4 0 ha.1 0)]:List Aa)) (enc:=Ab) (i:=2) Bp hinf.1 hinf.2.1 hinf.2.2.1 hinf.2.2.2 rfl rfl rfl rfl rfl (K9.w (i:=0) rfl rfl) Bf Cy hZ rfl (λhj=>?_);exact wv (A9 rfl) (vF B3 rfl Cl (BA (i:=2) Cl rfl rfl (CT (i:=0) rfl) rfl rfl (cs':=[rS ha.2.2.fS,Al ha.2.2.fAt,rv hj,rB ha.2.2.fGreat]) rfl (H':=[.row hj 54 4 (A1 Ab (ha.2.2.fCells++([(Aa.mk 4 0 ha.1 0)]:List Aa))),.row (.slice (some ⟨hs,0,none⟩) 1 1) 54 4 (A1 Ab ([(Aa.mk 4 0 ha.1 0)]:List Aa)),.blk he [rS ha.2.2.fS,Al ha.2.2.fAt,rv hj,rB ha.2.2.fGreat] 106]) rfl (Ai (A3 (CB (H2:=[.blk he [rS ha.2.2.fS,Al ha.2.2.fAt,rv hj,rB ha.2.2.fGreat] 106,.row hj 54 4 (A1 Ab (ha.2.2.fCells++([(Aa.mk 4 0 ha.1 0)]:List Aa))),.row (.slice (some ⟨hs,0,none⟩) 1 1) 54 4 (A1 Ab ([(Aa.mk 4 0 ha.1 0)]:List Aa))]) ((A4 (i:=2) rfl).trans (XV _ (XT _))) (Av (Ar ((ha.2.2.fS,ha.2.2.fAt,ha.2.2.fCells++([(Aa.mk 4 0 ha.1 0)]:List Aa),ha.2.2.fGreat),hj) ga Az.nil (sC (sC (sS sN))))))))))
     ·refine Af (wm rfl (ob hS λgb gc gd=>DP (Hr:=[]) Tryz.call144 (UM F he hq hb.2 gb gc) rfl (XT _) rfl ?_));rintro _ _ ⟨ge,rfl,rfl⟩;refine wa rfl (Ak (Ap (As (Ac ?_))));obtain rfl:=An gd;exact Ao (Bq Tryz.results118 (A6 rfl)) (sC (sC sN)) ⟨ge,rfl,rfl⟩
 ·rintro⟨⟨ht,hu,hw,hx⟩,hn⟩ hk;refine Bu (l':=[]) (H':=[.blk he [rS ht,Al hu,rv hn,rB hx] 106,.row hn 54 4 (A1 Ab hw)]) rfl rfl ?_;replace hk:D3 ht hu hw hx=some r:=hk;unfold D3 at hk;refine Af (wa rfl (Ak (Ap ?_)));obtain rfl:=An hk;exact Ao (Bq Tryz.results118 (A6 rfl)) (sC (sC sN)) ⟨hn,rfl,rfl⟩
theorem Qh (F:Nat)(hj:A0→Option (Bool×A0))(gc:(∀(hb:Nat) (hs:Value) (q:A0) (r:Bool×A0),hj q=some r→Fn Tryz.prog GE 89 [rP hb 0] [.blk hb [rS q.fS,Al q.fAt,rv hs,rB q.fGreat] 106,.row hs 54 4 (A1 Ab q.fCells)] (λR H=>∃w0_2:Value,R=rB r.1∧H=[.blk hb [rS r.2.fS,Al r.2.fAt,rv w0_2,rB r.2.fGreat] 106,.row w0_2 54 4 (A1 Ab r.2.fCells)])))(hb:Nat)(hs:Value)(q:A0)(r:Bool×A0)(h:Mk F hj q=some r):Fn Tryz.prog GE 89 [rP hb 0] [.blk hb [rS q.fS,Al q.fAt,rv hs,rB q.fGreat] 106,.row hs 54 4 (A1 Ab q.fCells)] (λR H=>∃w0_2:Value,R=rB r.1∧H=[.blk hb [rS r.2.fS,Al r.2.fAt,rv w0_2,rB r.2.fGreat] 106,.row w0_2 54 4 (A1 Ab r.2.fCells)]):=by
 refine enter (n:=96) Tryz.func89 rfl Tryz.ntmps89 rfl (λw Z=>?_);unfold Mk at h;refine Af (wa rfl (Bb (wm rfl (ob h λr1 e3 h2=>DP (Hr:=[]) Gn (Do hb hs q ([91]:Au) r1 e3) rfl (XT _) rfl ?_))));rintro _ _ ⟨v4,rfl,rfl⟩;refine wa rfl (Ak (Am (BY (S:=(Bool×Au×Int×(List Aa)×Bool)×(Value)) (λσ=>Gq F hj r1 σ.1.1 σ.1.2.1 σ.1.2.2.1 σ.1.2.2.2.1 σ.1.2.2.2.2=some r) (λσ=>[(0,rP hb 0),(2,rB false),(3,rB r1.1),(19,rB σ.1.1)]) (λσ=>[.blk hb [rS σ.1.2.1,Al σ.1.2.2.1,rv σ.2,rB σ.1.2.2.2.2] 106,.row σ.2 54 4 (A1 Ab σ.1.2.2.2.1)]) ?_ ?_)))
 ·refine Aj (wm rfl (wv (B4 rfl) (wm rfl (bz h2 (λhk gu=>?_) (λhk gv=>?_)))))
  ·refine wo hk (wm rfl (wo hk (ob gu λht gw gx=>DP (Hr:=[]) Gn (Do hb v4 r1.2 ([123]:Au) ht gw) rfl (XT _) rfl ?_)));rintro _ _ ⟨gy,rfl,rfl⟩;exact wo hk (wv (B4 rfl) (Ci rfl hk rfl (Ai (Av (Ar ((!ht.1,ht.2.fS,ht.2.fAt,ht.2.fCells,ht.2.fGreat),gy) gx (Az.c rfl (Az.c rfl (Az.c rfl (Az.c rfl Az.nil)))) (sC (sC sN)))))))
  ·exact wf hk (wf hk (wf hk (wv (r:=rB false) (At rfl hk rfl) (Ai (Av (Ar ((false,r1.2.fS,r1.2.fAt,r1.2.fCells,r1.2.fGreat),v4) gv (Az.c rfl (Az.c rfl (Az.c rfl (Az.c rfl Az.nil)))) (sC (sC sN))))))))
 ·rintro⟨⟨gd,hl,hm,he,hn⟩,hK⟩ hA;refine Bu (l':=[(0,rP hb 0),(2,rB false),(3,rB r1.1),(19,rB gd)]) (H':=[.blk hb [rS hl,Al hm,rv hK,rB hn] 106,.row hK 54 4 (A1 Ab he)]) rfl rfl ?_;replace hA:Gq F hj r1 gd hl hm he hn=some r:=hA;unfold Gq at hA;refine cz hA rfl (λgz g0=>?_) (λgz g1=>?_)
  ·refine Af (wm rfl (ob g0 λg2 g3 g4=>DP (Hr:=[]) Tryz.call118 (Qi F hb hK (A0.mk hl hm he hn) g2 g3) rfl (XT _) rfl ?_));rintro _ _ ⟨g5,rfl,rfl⟩;refine wa rfl (Ak (Ap (Ac ?_)));obtain rfl:=An g4;exact Ao (Bq Nc (A6 rfl)) (sC (sC sN)) ⟨g5,rfl,rfl⟩
  ·refine Aq (AA (Af (wa rfl (wv (r:=rS ([125]:Au)) (AE rfl) (Ak (Am (Af (wm rfl (Ak (cz g1 rfl (λhL g6=>?_) (λhL g7=>?_)))))))))))
   ·refine Aj (wa rfl (wv (r:=rS ([93]:Au)) (AE rfl) (Bb (wm rfl (wv (A9 rfl) (vF B3 rfl Cl (vL 0 CX rfl (wv (DW (ys:=he) (enc:=Ab) (i:=1) Bp rfl rfl) (wa rfl (Bb (wm rfl (wm rfl (wv (A9 rfl) (vF B3 rfl Cl (vL 0 CX rfl (wm rfl (wv (r:=Bs [Al 5,Al 0,rS ([]:Au),Al 0]) (GI rfl rfl) (AY (ys:=([(Aa.mk 5 0 ([]:Au) 0)]:List Aa)) (enc:=Ab) (css:=[[Al 5,Al 0,rS ([]:Au),Al 0]]) (xs:=[.tmp 34]) Bp By GT rfl rfl rfl ⟨E1.agg ⟨Up.refl _,Up.refl _,Up.refl _,Up.refl _,trivial⟩,trivial⟩ rfl Bf rfl rfl rfl (λge=>?_)))))))))))))))))));refine ck g6 λg8 g9=>Exists.elim G0 λinf hinf=>Cg (xs:=he) (ys:=([(Aa.mk 5 0 ([]:Au) 0)]:List Aa)) (enc:=Ab) (i:=2) Bp hinf.1 hinf.2.1 hinf.2.2.1 hinf.2.2.2 rfl rfl rfl rfl rfl (K9.w (i:=0) rfl rfl) Bf Cy g8 rfl (λv37=>?_);refine wv (A9 rfl) (vF B3 rfl Cl (BA (i:=2) Cl rfl rfl (CT (i:=0) rfl) rfl rfl (cs':=[rS hl,Al hm,rv v37,rB hn]) rfl (H':=[.row v37 54 4 (A1 Ab (he++([(Aa.mk 5 0 ([]:Au) 0)]:List Aa))),.row (.slice (some ⟨ge,0,none⟩) 1 1) 54 4 (A1 Ab ([(Aa.mk 5 0 ([]:Au) 0)]:List Aa)),.blk hb [rS hl,Al hm,rv v37,rB hn] 106]) rfl (Ak (Am (Af (wm rfl (wm rfl (ob g9 λhy gA gB=>DP (Hr:=[.row (.slice (some ⟨ge,0,none⟩) 1 1) 54 4 (A1 Ab ([(Aa.mk 5 0 ([]:Au) 0)]:List Aa))]) Gn (Do hb v37 (A0.mk hl hm (he++([(Aa.mk 5 0 ([]:Au) 0)]:List Aa)) hn) ([93]:Au) hy gA) rfl ((A4 (i:=2) rfl).trans (XV _ (XT _))) rfl ?_))))))));rintro _ _ ⟨gf,rfl,rfl⟩;refine Ak (cz gB rfl (λgC gD=>?_) (λgC gE=>?_))
    ·refine Af (wa rfl (Ak (Ap (Ac ?_))));obtain rfl:=An gD;exact Ao (Bq Nc (A6 rfl)) (sC (sC (sS sN))) ⟨gf,rfl,rfl⟩
    ·refine Aq (AA (Af (wv (r:=rS ([]:Au)) (AE rfl) (Bb (wa rfl (Ak (A5 (ob gE λgF gG hN=>Bc (S:=Nat×(Int×Au×Int×(List Aa)×Bool)×(Value)) (V:=(Unit)×(Unit)) 0 (λσ=>BP (λσ=>HL hj he σ.1 σ.2.1 σ.2.2.1 σ.2.2.2.1 σ.2.2.2.2) σ.1 σ.2.1=some gF) (λσ=>[(0,rP hb 0),(2,rB false),(3,rB r1.1),(5,rS ([93]:Au)),(6,Al (he.length:Int)),(7,rS ([]:Au)),(8,Al σ.2.1.1)]) (λσ=>[.blk hb [rS σ.2.1.2.1,Al σ.2.1.2.2.1,rv σ.2.2,rB σ.2.1.2.2.2.2] 106,.row σ.2.2 54 4 (A1 Ab σ.2.1.2.2.2.1)]) (λσ=>σ.1) (F,(1,hy.2.fS,hy.2.fAt,hy.2.fCells,hy.2.fGreat),gf) gG (Az.c rfl (Az.c rfl (Az.c5 rfl rfl rfl rfl rfl Az.nil))) (sC (sC (sS sN))) (λσ=>Mm =some r) (λσ=>[]) (λσ=>[]) ?_ ?_))))))))
     ·rintro⟨xg,⟨hz,hO,hP,hQ,hR⟩,hS⟩ gH;refine Bu (l':=[(0,rP hb 0),(2,rB false),(3,rB r1.1),(5,rS ([93]:Au)),(6,Al (he.length:Int)),(7,rS ([]:Au)),(8,Al hz)]) (H':=[.blk hb [rS hO,Al hP,rv hS,rB hR] 106,.row hS 54 4 (A1 Ab hQ)]) rfl rfl ?_;obtain⟨gI,rfl,gJ,hB,hC⟩:=BK gH;replace hB:HL hj he hz hO hP hQ hR=some gJ:=hB;unfold HL at hB;refine Am (A5 (Am (Af (wm rfl (wv (B4 rfl) (Ak (Hi rfl (Xe hL) (Aq (AA (Am (Af (wm rfl (ob hB λhf gK gL=>DP (Hr:=[]) Tryz.call89 (gc hb hS (A0.mk hO hP hQ hR) hf gK) rfl (XT _) rfl ?_)))))))))))));rintro _ _ ⟨hu,rfl,rfl⟩;refine wv (B4 rfl) (Ak (cz gL rfl (λgM gN=>?_) (λgM gO=>?_)))
      ·refine Af (wa rfl (Ak (Ap (Ac (As (Ac (Ac (AO ?_))))))));have gP:=Bg gN hC hN;refine As ?_;obtain rfl:=An gP;exact Ao (Bq Nc (A6 rfl)) (sC (sC sN)) ⟨hu,rfl,rfl⟩
      ·refine Aq (AA (Af (wm rfl (wv (A9 rfl) (vF B3 rfl Cl (vL 0 CX rfl (wm rfl (wm rfl (ck gO λhT gQ=>wv (r:=rv (EP 4 hu (Bw (he.length:Int)) 0)) (KL (i:=1) Bp By rfl rfl rfl (Ca hT)) (wv (r:=rv (EP 4 hu (Bw (he.length:Int)) 3)) (Ew (k:=1) Bl rfl BB rfl (Ca hT) rfl rfl rfl) (I1 (enc:=Ab) (ys:=hf.2.fCells) (y':=(Aa.mk ((Ay hf.2.fCells (he.length:Int)).fKind) ((Ay hf.2.fCells (he.length:Int)).fInt) ((Ay hf.2.fCells (he.length:Int)).fStr) hz)) (i:=1) (j:=(he.length:Int)) BB rfl rfl (BO rfl) rfl hT rfl rfl (H':=[.blk hb [rS hf.2.fS,Al hf.2.fAt,rv hu,rB hf.2.fGreat] 106,.row hu 54 4 (A1 Ab (List.set hf.2.fCells (Bw (he.length:Int)) (Aa.mk ((Ay hf.2.fCells (he.length:Int)).fKind) ((Ay hf.2.fCells (he.length:Int)).fInt) ((Ay hf.2.fCells (he.length:Int)).fStr) hz)))]) rfl (bd gQ λgR gS gT=>?_))))))))))));rw[← gS];refine Ak (Am (Af (wm rfl (wm rfl (ob gT λgg gU gV=>DP (Hr:=[]) Gn (Do hb hu (A0.mk hf.2.fS hf.2.fAt gR hf.2.fGreat) ([93]:Au) gg gU) rfl (XT _) rfl ?_)))));rintro _ _ ⟨gh,rfl,rfl⟩;refine Ak (cz gV rfl (λc167 gW=>?_) (λc167 gX=>?_))
       ·refine Af (wa rfl (Ak (Ap (Ac (As (Ac (Ac (AO ?_))))))));have gY:=Bg gW hC hN;refine As ?_;obtain rfl:=An gY;exact Ao (Bq Nc (A6 rfl)) (sC (sC sN)) ⟨gh,rfl,rfl⟩
       ·refine Aq (AA (Af (wm rfl (ob gX λh0 gZ ca=>DP (Hr:=[]) Gn (Do hb gh gg.2 ([44]:Au) h0 gZ) rfl (XT _) rfl ?_))));rintro _ _ ⟨gi,rfl,rfl⟩;refine wv (B4 rfl) (Ak (cz ca rfl (λc175 cb=>?_) (λc175 cc=>?_)))
        ·refine Af (wa rfl (Ak (Ap (As (Ac (Ac (AO ?_)))))));have cd:=Bg cb hC hN;refine As ?_;obtain rfl:=An cd;exact Ao (Bq Nc (A6 rfl)) (sC (sC sN)) ⟨gi,rfl,rfl⟩
        ·refine Aq (A3 (AA (Aj (wm rfl (ck cc λce cf=>wv (Bd rfl rfl ce) (wa rfl (Ai ?_)))))));have cg:=AW cf hC;exact Av (Ar (gI,(hz+1,h0.2.fS,h0.2.fAt,h0.2.fCells,h0.2.fGreat),gi) ⟨cg,XX _⟩ (Az.c rfl (Az.c rfl (Az.c5 rfl rfl rfl rfl rfl Az.nil))) (sC (sC sN)))
     ·rintro⟨⟨⟩,⟨⟩⟩ ch
      cases ch
   ·refine Aq (AA (Af (wm rfl (wv (A9 rfl) (vF B3 rfl Cl (vL 0 CX rfl (wv (DW (ys:=he) (enc:=Ab) (i:=1) Bp rfl rfl) (wa rfl (Bb (wm rfl (wm rfl (wv (A9 rfl) (vF B3 rfl Cl (vL 0 CX rfl (wm rfl (wv (r:=Bs [Al 6,Al 0,rS ([]:Au),Al 0]) (GI rfl rfl) (AY (ys:=([(Aa.mk 6 0 ([]:Au) 0)]:List Aa)) (enc:=Ab) (css:=[[Al 6,Al 0,rS ([]:Au),Al 0]]) (xs:=[.tmp 34]) Bp By GT rfl rfl rfl ⟨E1.agg ⟨Up.refl _,Up.refl _,Up.refl _,Up.refl _,trivial⟩,trivial⟩ rfl Bf rfl rfl rfl (λgj=>?_))))))))))))))))));refine ck g7 λci cj=>Exists.elim G0 λinf hinf=>Cg (xs:=he) (ys:=([(Aa.mk 6 0 ([]:Au) 0)]:List Aa)) (enc:=Ab) (i:=2) Bp hinf.1 hinf.2.1 hinf.2.2.1 hinf.2.2.2 rfl rfl rfl rfl rfl (K9.w (i:=0) rfl rfl) Bf Cy ci rfl (λhD=>?_);refine wv (A9 rfl) (vF B3 rfl Cl (BA (i:=2) Cl rfl rfl (CT (i:=0) rfl) rfl rfl (cs':=[rS hl,Al hm,rv hD,rB hn]) rfl (H':=[.row hD 54 4 (A1 Ab (he++([(Aa.mk 6 0 ([]:Au) 0)]:List Aa))),.row (.slice (some ⟨gj,0,none⟩) 1 1) 54 4 (A1 Ab ([(Aa.mk 6 0 ([]:Au) 0)]:List Aa)),.blk hb [rS hl,Al hm,rv hD,rB hn] 106]) rfl (Ak (Am (Af (wm rfl (wm rfl (ob cj λh1 cl cm=>DP (Hr:=[.row (.slice (some ⟨gj,0,none⟩) 1 1) 54 4 (A1 Ab ([(Aa.mk 6 0 ([]:Au) 0)]:List Aa))]) Gn (Do hb hD (A0.mk hl hm (he++([(Aa.mk 6 0 ([]:Au) 0)]:List Aa)) hn) ([125]:Au) h1 cl) rfl ((A4 (i:=2) rfl).trans (XV _ (XT _))) rfl ?_))))))));rintro _ _ ⟨gl,rfl,rfl⟩;refine Ak (cz cm rfl (λcn co=>?_) (λcn cp=>?_))
    ·refine Af (wa rfl (Ak (Ap (Ac ?_))));obtain rfl:=An co;exact Ao (Bq Nc (A6 rfl)) (sC (sC (sS sN))) ⟨gl,rfl,rfl⟩
    ·refine Aq (AA (Af (wv (r:=rS ([]:Au)) (AE rfl) (Bb (wa rfl (Ak (A5 (ob cp λcq cr hE=>Bc (S:=Nat×(Au×Int×Au×Int×(List Aa)×Bool)×(Value)) (V:=(Unit)×(Unit)) 0 (λσ=>BP (λσ=>HK F hj he σ.1 σ.2.1 σ.2.2.1 σ.2.2.2.1 σ.2.2.2.2.1 σ.2.2.2.2.2) σ.1 σ.2.1=some cq) (λσ=>[(0,rP hb 0),(2,rB false),(3,rB r1.1),(5,rS ([125]:Au)),(6,Al (he.length:Int)),(7,rS σ.2.1.1),(8,Al σ.2.1.2.1)]) (λσ=>[.blk hb [rS σ.2.1.2.2.1,Al σ.2.1.2.2.2.1,rv σ.2.2,rB σ.2.1.2.2.2.2.2] 106,.row σ.2.2 54 4 (A1 Ab σ.2.1.2.2.2.2.1)]) (λσ=>σ.1) (F,(([]:Au),1,h1.2.fS,h1.2.fAt,h1.2.fCells,h1.2.fGreat),gl) cr (Az.c rfl (Az.c rfl (Az.c5 rfl rfl rfl rfl rfl Az.nil))) (sC (sC (sS sN))) (λσ=>Ml =some r) (λσ=>[]) (λσ=>[]) ?_ ?_))))))))
     ·rintro⟨xh,⟨hi,ho,hU,hV,hW,hX⟩,hY⟩ cs;refine Bu (l':=[(0,rP hb 0),(2,rB false),(3,rB r1.1),(5,rS ([125]:Au)),(6,Al (he.length:Int)),(7,rS hi),(8,Al ho)]) (H':=[.blk hb [rS hU,Al hV,rv hY,rB hX] 106,.row hY 54 4 (A1 Ab hW)]) rfl rfl ?_;obtain⟨ct,rfl,hZ,hG,h3⟩:=BK cs;replace hG:HK F hj he hi ho hU hV hW hX=some hZ:=hG;unfold HK at hG;refine Am (A5 (Am (Af (wm rfl (wv (B4 rfl) (Ak (DE rfl (Xf hL) (Af (wm rfl (ob hG λha cu cv=>DP (Hr:=[]) Tryz.call119 (QW F hb hY (A0.mk hU hV hW hX) ha cu) rfl (XT _) rfl ?_))))))))));rintro _ _ ⟨hH,rfl,rfl⟩;refine wm rfl (wv (A7 rfl rfl) (wv (A7 rfl rfl) (wa rfl (wa rfl (Ak (Am (BY (S:=(Bool×Bool×Bool×Au×Int×(List Aa)×Bool)×(Value)) (λσ=>Ed hj he ho ha σ.1.1 σ.1.2.1 σ.1.2.2.1 σ.1.2.2.2.1 σ.1.2.2.2.2.1 σ.1.2.2.2.2.2.1 σ.1.2.2.2.2.2.2=some hZ) (λσ=>[(0,rP hb 0),(2,rB false),(3,rB r1.1),(5,rS ([125]:Au)),(6,Al (he.length:Int)),(7,rS hi),(8,Al ho),(9,rS ha.1),(10,rB ha.2.1),(44,rB r1.1),(45,rB (!r1.1)),(46,Df [rS ha.1,rB ha.2.1]),(47,rP hb 0),(48,Df [rS ha.1,rB ha.2.1]),(49,rS ha.1),(50,rB ha.2.1),(51,rB ha.2.1),(52,rB (!ha.2.1)),(53,rB (!ha.2.1)),(61,rB σ.1.1),(62,rB σ.1.2.1),(66,rB σ.1.2.2.1)]) (λσ=>[.blk hb [rS σ.1.2.2.2.1,Al σ.1.2.2.2.2.1,rv σ.2,rB σ.1.2.2.2.2.2.2] 106,.row σ.2 54 4 (A1 Ab σ.1.2.2.2.2.2.1)]) ?_ ?_)))))))
      ·refine Aj (wm rfl (wv (B4 rfl) (wm rfl (bz cv (λhh cw=>?_) (λhh cx=>?_)))))
       ·exact wf hh (wf hh (wf hh (wu (wu (wu (wf hh (wv (r:=rB true) (Ax rfl hh rfl) (wm rfl (wz rfl rfl (wz rfl rfl (wz rfl rfl (wv (r:=rB true) (Ax (b:=true) rfl rfl rfl) (Ai (Av (Ar ((true,true,true,ha.2.2.fS,ha.2.2.fAt,ha.2.2.fCells,ha.2.2.fGreat),hH) cw (Az.c rfl (Az.c rfl (Az.c5 rfl rfl rfl rfl rfl (Az.c5 rfl rfl rfl rfl rfl (Az.c5 rfl rfl rfl rfl rfl (Az.c5 rfl rfl rfl rfl rfl Az.nil)))))) (sC (sC sN)))))))))))))))))
       ·refine wo hh (wm rfl (wo hh (wv (CC rfl rfl) (wo hh (wm rfl (bz cx (λhp cy=>?_) (λhp c0=>?_)))))))
        ·refine wo hp (wm rfl (wo hp (wm rfl (wo hp (wv (Rh rfl rfl) (wo hh (Ci rfl hp rfl (Cm rfl hh rfl (wm rfl (bz cy (λhq c1=>?_) (λhq c2=>?_)))))))))))
         ·exact wf hq (wf hq (wf hq (wv (r:=rB true) (Ax rfl hq rfl) (Ai (Av (Ar ((De ha.1 hi||decide (ha.1=hi),De ha.1 hi||decide (ha.1=hi),true,ha.2.2.fS,ha.2.2.fAt,ha.2.2.fCells,ha.2.2.fGreat),hH) c1 (Az.c rfl (Az.c rfl (Az.c5 rfl rfl rfl rfl rfl (Az.c5 rfl rfl rfl rfl rfl (Az.c5 rfl rfl rfl rfl rfl (Az.c5 rfl rfl rfl rfl rfl Az.nil)))))) (sC (sC sN))))))))
         ·refine wo hq (wm rfl (wo hq (ob c2 λhw c3 c4=>DP (Hr:=[]) Gn (Do hb hH ha.2.2 ([58]:Au) hw c3) rfl (XT _) rfl ?_)));rintro _ _ ⟨c6,rfl,rfl⟩;exact wo hq (wv (B4 rfl) (Cm rfl hq rfl (Ai (Av (Ar ((De ha.1 hi||decide (ha.1=hi),De ha.1 hi||decide (ha.1=hi),!hw.1,hw.2.fS,hw.2.fAt,hw.2.fCells,hw.2.fGreat),c6) c4 (Az.c rfl (Az.c rfl (Az.c5 rfl rfl rfl rfl rfl (Az.c5 rfl rfl rfl rfl rfl (Az.c5 rfl rfl rfl rfl rfl (Az.c5 rfl rfl rfl rfl rfl Az.nil)))))) (sC (sC sN)))))))
        ·refine wf hp (wf hp (wf hp (wo hh (wv (r:=rB false) (At rfl hp rfl) (Cm rfl hh rfl (wm rfl (AQ (b:=false) rfl rfl rfl (wm rfl (AQ (b:=false) rfl rfl rfl (ob c0 λhr c7 c8=>DP (Hr:=[]) Gn (Do hb hH ha.2.2 ([58]:Au) hr c7) rfl (XT _) rfl ?_))))))))));rintro _ _ ⟨c9,rfl,rfl⟩;exact AQ (b:=false) rfl rfl rfl (wv (B4 rfl) (wv (r:=rB (!hr.1)) (At (b:=false) rfl rfl rfl) (Ai (Av (Ar ((false,false,!hr.1,hr.2.fS,hr.2.fAt,hr.2.fCells,hr.2.fGreat),c9) c8 (Az.c rfl (Az.c rfl (Az.c5 rfl rfl rfl rfl rfl (Az.c5 rfl rfl rfl rfl rfl (Az.c5 rfl rfl rfl rfl rfl (Az.c5 rfl rfl rfl rfl rfl Az.nil)))))) (sC (sC sN)))))))
      ·rintro⟨⟨gm,gp,gq,h4,h5,h6,h7⟩,ga⟩ hI;refine Bu (l':=[(0,rP hb 0),(2,rB false),(3,rB r1.1),(5,rS ([125]:Au)),(6,Al (he.length:Int)),(7,rS hi),(8,Al ho),(9,rS ha.1),(10,rB ha.2.1),(44,rB r1.1),(45,rB (!r1.1)),(46,Df [rS ha.1,rB ha.2.1]),(47,rP hb 0),(48,Df [rS ha.1,rB ha.2.1]),(49,rS ha.1),(50,rB ha.2.1),(51,rB ha.2.1),(52,rB (!ha.2.1)),(53,rB (!ha.2.1)),(61,rB gm),(62,rB gp),(66,rB gq)]) (H':=[.blk hb [rS h4,Al h5,rv ga,rB h7] 106,.row ga 54 4 (A1 Ab h6)]) rfl rfl ?_;replace hI:Ed hj he ho ha gm gp gq h4 h5 h6 h7=some hZ:=hI;unfold Ed at hI;refine cz hI rfl (λcA cB=>?_) (λcA cC=>?_)
       ·refine Af (wa rfl (Ak (Ap (Ac (Ac (As (Ac (Ac (AO ?_)))))))));have cD:=Bg cB h3 hE;refine As ?_;obtain rfl:=An cD;exact Ao (Bq Nc (A6 rfl)) (sC (sC sN)) ⟨ga,rfl,rfl⟩
       ·refine Aq (AA (Af (wm rfl (wa rfl (Ak (Aj (wm rfl (wm rfl (wv (A9 rfl) (vF B3 rfl Cl (vL 0 CX rfl (wm rfl (wv (r:=Bs [Al 4,Al 0,rS ha.1,Al 0]) (DX rfl rfl rfl rfl) (AY (ys:=([(Aa.mk 4 0 ha.1 0)]:List Aa)) (enc:=Ab) (css:=[[Al 4,Al 0,rS ha.1,Al 0]]) (xs:=[.tmp 74]) Bp By GT rfl rfl rfl ⟨E1.agg ⟨Up.refl _,Up.refl _,Up.refl _,Up.refl _,trivial⟩,trivial⟩ rfl Bf rfl rfl rfl (λh8=>?_)))))))))))))));refine ck cC λcE cF=>Exists.elim G0 λinf hinf=>Cg (xs:=h6) (ys:=([(Aa.mk 4 0 ha.1 0)]:List Aa)) (enc:=Ab) (i:=2) Bp hinf.1 hinf.2.1 hinf.2.2.1 hinf.2.2.2 rfl rfl rfl rfl rfl (K9.w (i:=0) rfl rfl) Bf Cy cE rfl (λhJ=>?_);refine wv (A9 rfl) (vF B3 rfl Cl (BA (i:=2) Cl rfl rfl (CT (i:=0) rfl) rfl rfl (cs':=[rS h4,Al h5,rv hJ,rB h7]) rfl (H':=[.row hJ 54 4 (A1 Ab (h6++([(Aa.mk 4 0 ha.1 0)]:List Aa))),.row (.slice (some ⟨h8,0,none⟩) 1 1) 54 4 (A1 Ab ([(Aa.mk 4 0 ha.1 0)]:List Aa)),.blk hb [rS h4,Al h5,rv hJ,rB h7] 106]) rfl (Ak (Am (Af (wm rfl (ob cF λhg cG cH=>DP (Hr:=[.row (.slice (some ⟨h8,0,none⟩) 1 1) 54 4 (A1 Ab ([(Aa.mk 4 0 ha.1 0)]:List Aa))]) Tryz.call89 (gc hb hJ (A0.mk h4 h5 (h6++([(Aa.mk 4 0 ha.1 0)]:List Aa)) h7) hg cG) rfl ((A4 (i:=2) rfl).trans (XV _ (XT _))) rfl ?_)))))));rintro _ _ ⟨hx,rfl,rfl⟩;refine wv (B4 rfl) (Ak (cz cH rfl (λcI cJ=>?_) (λcI cK=>?_)))
        ·refine Af (wa rfl (Ak (Ap (Ac (As (Ac (Ac (AO ?_))))))));have cL:=Bg cJ h3 hE;refine As ?_;obtain rfl:=An cL;exact Ao (Bq Nc (A6 rfl)) (sC (sC (sS sN))) ⟨hx,rfl,rfl⟩
        ·refine Aq (AA (Af (wm rfl (wv (A9 rfl) (vF B3 rfl Cl (vL 0 CX rfl (wm rfl (wm rfl (ck cK λgb cM=>wv (r:=rv (EP 4 hx (Bw (he.length:Int)) 0)) (KL (i:=1) Bp By rfl rfl rfl (Ca gb)) (wv (r:=rv (EP 4 hx (Bw (he.length:Int)) 3)) (Ew (k:=1) Bl rfl BB rfl (Ca gb) rfl rfl rfl) (I1 (enc:=Ab) (ys:=hg.2.fCells) (y':=(Aa.mk ((Ay hg.2.fCells (he.length:Int)).fKind) ((Ay hg.2.fCells (he.length:Int)).fInt) ((Ay hg.2.fCells (he.length:Int)).fStr) ho)) (i:=1) (j:=(he.length:Int)) BB rfl rfl (BO rfl) rfl gb rfl rfl (H':=[.blk hb [rS hg.2.fS,Al hg.2.fAt,rv hx,rB hg.2.fGreat] 106,.row hx 54 4 (A1 Ab (List.set hg.2.fCells (Bw (he.length:Int)) (Aa.mk ((Ay hg.2.fCells (he.length:Int)).fKind) ((Ay hg.2.fCells (he.length:Int)).fInt) ((Ay hg.2.fCells (he.length:Int)).fStr) ho))),.row (.slice (some ⟨h8,0,none⟩) 1 1) 54 4 (A1 Ab ([(Aa.mk 4 0 ha.1 0)]:List Aa))]) rfl (bd cM λcN cO cP=>?_))))))))))));rw[← cO];refine Ak (Am (Af (wm rfl (wm rfl (ob cP λgr cQ cR=>DP (Hr:=[.row (.slice (some ⟨h8,0,none⟩) 1 1) 54 4 (A1 Ab ([(Aa.mk 4 0 ha.1 0)]:List Aa))]) Gn (Do hb hx (A0.mk hg.2.fS hg.2.fAt cN hg.2.fGreat) ([125]:Au) gr cQ) rfl (XT _) rfl ?_)))));rintro _ _ ⟨gs,rfl,rfl⟩;refine Ak (cz cR rfl (λcS cT=>?_) (λcS cU=>?_))
         ·refine Af (wa rfl (Ak (Ap (Ac (As (Ac (Ac (AO ?_))))))));have cV:=Bg cT h3 hE;refine As ?_;obtain rfl:=An cV;exact Ao (Bq Nc (A6 rfl)) (sC (sC (sS sN))) ⟨gs,rfl,rfl⟩
         ·refine Aq (AA (Af (wm rfl (ob cU λh9 cW cX=>DP (Hr:=[.row (.slice (some ⟨h8,0,none⟩) 1 1) 54 4 (A1 Ab ([(Aa.mk 4 0 ha.1 0)]:List Aa))]) Gn (Do hb gs gr.2 ([44]:Au) h9 cW) rfl (XT _) rfl ?_))));rintro _ _ ⟨gt,rfl,rfl⟩;refine wv (B4 rfl) (Ak (cz cX rfl (λcY cZ=>?_) (λcY xa=>?_)))
          ·refine Af (wa rfl (Ak (Ap (As (Ac (Ac (AO ?_)))))));have xb:=Bg cZ h3 hE;refine As ?_;obtain rfl:=An xb;exact Ao (Bq Nc (A6 rfl)) (sC (sC (sS sN))) ⟨gt,rfl,rfl⟩
          ·refine Aq (A3 (AA (Aj (wm rfl (ck xa λxc xd=>wv (Bd rfl rfl xc) (wa rfl (Ai ?_)))))));have xe:=AW xd h3;exact Av (Ar (ct,(ha.1,ho+1,h9.2.fS,h9.2.fAt,h9.2.fCells,h9.2.fGreat),gt) ⟨xe,XX _⟩ (Az.c rfl (Az.c rfl (Az.c5 rfl rfl rfl rfl rfl Az.nil))) (sC (sC (sS sN))))
     ·rintro⟨⟨⟩,⟨⟩⟩ xf
      cases xf
theorem Lr:∀F:Nat,(∀(ha:Nat) (hb:Value) (q:A0) (r:Bool×A0),HM F q=some r→Fn Tryz.prog GE 89 [rP ha 0] [.blk ha [rS q.fS,Al q.fAt,rv hb,rB q.fGreat] 106,.row hb 54 4 (A1 Ab q.fCells)] (λR H=>∃w0_2:Value,R=rB r.1∧H=[.blk ha [rS r.2.fS,Al r.2.fAt,rv w0_2,rB r.2.fGreat] 106,.row w0_2 54 4 (A1 Ab r.2.fCells)]))
  | 0=>(λ_ _ _ _ h=>by simp[HM] at h)
  | nn+1=>(λha hb q r h=>Qh nn (HM nn) (Lr nn) ha hb q r (by rw[HM] at h;exact h))
theorem RF (F:Nat)(ha:Nat)(hb:Value)(q:A0)(r:Bool×A0)(h:HM F q=some r):Fn Tryz.prog GE 89 [rP ha 0] [.blk ha [rS q.fS,Al q.fAt,rv hb,rB q.fGreat] 106,.row hb 54 4 (A1 Ab q.fCells)] (λR H=>∃w0_2:Value,R=rB r.1∧H=[.blk ha [rS r.2.fS,Al r.2.fAt,rv w0_2,rB r.2.fGreat] 106,.row w0_2 54 4 (A1 Ab r.2.fCells)]):=(Lr F) ha hb q r h
theorem RK (F:Nat)(s:Au)(r:(List Aa)×Int)(h:NW F s=some r):Fn Tryz.prog GE 55 [rS s] [] (λR H=>R=Df [AD 4 (A1 Ab r.1),Al r.2]∧H=[]):=by
 refine enter (n:=34) Tryz.func55 rfl Tryz.ntmps55 rfl (λw Z=>?_);unfold NW at h;refine Af (wa rfl (wa rfl (Ak (Am (Af (wm rfl (wv (BM D2 rfl) (wv (CC rfl rfl) (Ak (cz h rfl (λc1 h2=>?_) (λc1 h3=>?_)))))))))))
 ·refine Af (wa rfl (wa rfl (Ak (Ap (Ac (WK.up (d:=2) (r:=AD 4 (A1 Ab ([]:List Aa))) rfl (Up.le (DL.nil _)) ?_))))));obtain rfl:=An h2;exact Ao (Du UF (A6 rfl) (A6 rfl)) sN ⟨rfl,rfl⟩
 ·refine Aq (AA (Af (wm rfl (wv (r:=Bs [rS s,Al 0,rv (.slice none 0 0),rB false]) (Ol rfl rfl) (B1 rfl rfl (λb4=>?_))))));refine wa rfl (Ak (Am (BY (S:=(Bool×Au×Int×(List Aa)×Bool)×(Value)) (λσ=>Gr F σ.1.1 σ.1.2.1 σ.1.2.2.1 σ.1.2.2.2.1 σ.1.2.2.2.2=some r) (λσ=>[(2,rv (.slice none 0 0)),(3,Al 0),(4,rP b4 0),(22,rB σ.1.1)]) (λσ=>[.blk b4 [rS σ.1.2.1,Al σ.1.2.2.1,rv σ.2,rB σ.1.2.2.2.2] 106,.row σ.2 54 4 (A1 Ab σ.1.2.2.2.1)]) ?_ ?_)))
  ·refine Aj (wm rfl (WL.nilrow (e:=54) (sz:=4) (ob h3 λhb hl hm=>DP (Hr:=[]) Tryz.call89 (RF F b4 (.slice none 0 0                                                      ) (A0.mk s 0 ([]:List Aa) false) hb hl) rfl ((A4 (i:=1) rfl).trans (XV _ (XT _))) rfl ?_)));rintro _ _ ⟨v21,rfl,rfl⟩;refine wv (B4 rfl) (wm rfl (bz hm (λha hn=>?_) (λha ho=>?_)))
   ·exact wf ha (wf ha (wf ha (wf ha (wf ha (wf ha (wf ha (wv (r:=rB true) (Ax rfl ha rfl) (Ai (Av (Ar ((true,hb.2.fS,hb.2.fAt,hb.2.fCells,hb.2.fGreat),v21) hn (Az.c rfl (Az.c rfl (Az.c rfl (Az.c rfl Az.nil)))) (sC (sC sN))))))))))))
   ·exact wo ha (wm rfl (wo ha (wv (A9 rfl) (wo ha (vF B3 rfl BB (wo ha (vL 0 BL rfl (wo ha (wm rfl (wo ha (wv (BM D2 rfl) (wo ha (wv (Bk rfl rfl) (Cm rfl ha rfl (Ai (Av (Ar ((!decide (hb.2.fAt=(s.length:Int)),hb.2.fS,hb.2.fAt,hb.2.fCells,hb.2.fGreat),v21) ho (Az.c rfl (Az.c rfl (Az.c rfl (Az.c rfl Az.nil)))) (sC (sC sN)))))))))))))))))))
  ·rintro⟨⟨hg,hh,hi,he,hj⟩,hk⟩ hf;refine Bu (l':=[(2,rv (.slice none 0 0)),(3,Al 0),(4,rP b4 0),(22,rB hg)]) (H':=[.blk b4 [rS hh,Al hi,rv hk,rB hj] 106,.row hk 54 4 (A1 Ab he)]) rfl rfl ?_;replace hf:Gr F hg hh hi he hj=some r:=hf;unfold Gr at hf;refine cz hf rfl (λhp hq=>?_) (λhp hr=>?_)
   ·refine Af (wa rfl (wa rfl (Ak (Ap (Ac (WK.up (d:=2) (r:=AD 4 (A1 Ab ([]:List Aa))) rfl (Up.le (DL.nil _)) ?_))))));obtain rfl:=An hq;exact Ao (Du UF (A6 rfl) (A6 rfl)) (sS (sS sN)) ⟨rfl,rfl⟩
   ·refine Aq (AA (Am (Af (wm rfl (wv (A9 rfl) (vF B3 rfl HD (vL 0 SI rfl (Ak (cz hr rfl (λhs ht=>?_) (λhs hu=>?_))))))))))
    ·refine Af (wa rfl (wa rfl (Ak (Ap (Ac (WK.up (d:=2) (r:=AD 4 (A1 Ab ([]:List Aa))) rfl (Up.le (DL.nil _)) ?_))))));obtain rfl:=An ht;exact Ao (Du UF (A6 rfl) (A6 rfl)) (sS (sS sN)) ⟨rfl,rfl⟩
    ·refine Aq (AA (Af (wm rfl (wv (A9 rfl) (vF B3 rfl Cl (vL 0 CX rfl (WL.freeze (i:=1) rfl (WL.up (d:=30) (r:=AD 4 (A1 Ab he)) rfl (Up.fact (i:=0) rfl) (ob hu λhw hx hy=>BQ Tryz.call71 (HQ F he hw hx) rfl (wv (A7 rfl rfl) (wv (A7 rfl rfl) (wa rfl (wa rfl (Ak (Ap ?_)))))))))))))));obtain rfl:=An hy;exact Ao (Du UF (A6 rfl) (A6 rfl)) (sS (sS sN)) ⟨rfl,rfl⟩
end Go.Proofs.YtghdglcmblpbeaaGreatDoor.Q
namespace Go.Proofs.YtghdglcmblpbeaaGreatDoor
open Go
set_option linter.unusedVariables false
def HT (a:(List Aa))(b:(List Aa))(ha:Int):Option (Stp (Int) (Out (Bool) (Unit))):=
 AR (decide (ha<(a.length:Int))) (AX (C0 ha (a.length:Int))<|AX (C0 ha (b.length:Int))<|AR (!(decide (((Ay a ha).fKind)=((Ay b ha).fKind))&&decide (((Ay a ha).fInt)=((Ay b ha).fInt))&&decide (((Ay a ha).fStr)=((Ay b ha).fStr))&&decide (((Ay a ha).fN)=((Ay b ha).fN)))) (some (.out (.ret false))) (AX (BF .i64 (ha+1))<|some (.next (ha+1)))) (some (.out (.go ())))
def HS :Option (Bool):=
 some true
def LJ (F:Nat)(a:(List Aa))(b:(List Aa)):Option (Bool):=
 AR (!decide ((a.length:Int)=(b.length:Int))) (some false) (Bh (BP (λσ=>HT a b σ) F 0) (BI λν=>HS ))
def Nt (F:Nat)(a:(List Aa))(b:(List Aa)):Option (Bool):=
 Bh (LJ F a b) λr1=>some r1
def Es (a:(List Aa))(b:(List Aa))(ha:Int):Option (Stp (Int) (Out (Bool) (Unit))):=
 AR (decide (ha<(a.length:Int))) (AX (C0 ha (a.length:Int))<|AX (C0 ha (b.length:Int))<|AR (!(decide (((Ay a ha).fKind)=((Ay b ha).fKind))&&decide (((Ay a ha).fInt)=((Ay b ha).fInt))&&decide (((Ay a ha).fStr)=((Ay b ha).fStr))&&decide (((Ay a ha).fN)=((Ay b ha).fN)))) (some (.out (.ret false))) (AX (BF .i64 (ha+1))<|some (.next (ha+1)))) (some (.out (.go ())))
def I3 :Option (Bool):=
 some true
def Lv (F:Nat)(a:(List Aa))(b:(List Aa)):Option (Bool):=
 AR (!decide ((a.length:Int)=(b.length:Int))) (some false) (Bh (BP (λσ=>Es a b σ) F 0) (BI λν=>I3 ))
end Go.Proofs.YtghdglcmblpbeaaGreatDoor
namespace Go.Proofs.YtghdglcmblpbeaaGreatDoor.Q
open Go Go.RowKit
set_option linter.unusedVariables false
set_option linter.unusedSimpArgs false
set_option maxRecDepth 100000
set_option maxHeartbeats 4000000
theorem U8 {a0 b0:Int}{a1 b1:Int}{a2 b2:Au}{a3 b3:Int}(w:World):(Op.equalIn 10000 54 (.agg #[.int .i64 a0,.int .i64 a1,.string (B a2),.int .i64 a3]) (.agg #[.int .i64 b0,.int .i64 b1,.string (B b2),.int .i64 b3])).run Tryz.prog w = .ok (decide (a0=b0)&&decide (a1=b1)&&decide (a2=b2)&&decide (a3=b3)) w:=by
  have hS:Tryz.prog.underlying 54=some (.struct (Tryz.prog.fieldsOf 54)):=by kernel_rfl
  have hp:Tryz.prog.stoodInHeld 54=false:=by kernel_rfl
  have u3:=XB;have ia3:=BL;have so3:=BB;have u9:=D2;have ia9:=CI;have so9:=CE;have ha:=Tryz.underlying52;have hb:=CF;have he:=C8;rw[show(10000:Nat)=9999+1 from rfl,run_equalIn_agg w 9999 54 _ _ hS hp];simp only[Program.fieldsOf,Bl]
  go_simp
  simp only[E2]
  by_cases h0:a0=b0<;>by_cases h1:a1=b1<;>by_cases h2:a2=b2<;>by_cases h3:a3=b3<;>simp[h0,h1,h2,h3]
theorem IA {n:Nat}{c:Cx}{l:Fr}{H:List Ent}{d:Option Nat}{ty rty:TypeId}{pos:String}{af:Array Edge}{g:Option (Nat×Bool)}{x y:Operand}{a0 b0:Int}{a1 b1:Int}{a2 b2:Au}{a3 b3:Int}(hx:ev l x=some (Bs [Al a0,Al a1,rS a2,Al a3]))(hy:ev l y=some (Bs [Al b0,Al b1,rS b2,Al b3])):Bz Tryz.prog n c l H { dst:=d,op:=.binOp .neq 54 x y rty,type:=ty,pos:=pos,after:=af,guard:=g } (rB (!(decide (a0=b0)&&decide (a1=b1)&&decide (a2=b2)&&decide (a3=b3)))):=λa w Z ha hw=>by
  obtain⟨us,e1,q1⟩:=ha.ev hx;obtain⟨vs,e2,q2⟩:=ha.ev hy;have k1:=Bm.eq_rv (us:=[.int .i64 a0,.int .i64 a1,.string (B a2),.int .i64 a3]) q1;have k2:=Bm.eq_rv (us:=[.int .i64 b0,.int .i64 b1,.string (B b2),.int .i64 b3]) q2;subst k1;subst k2;have hm:Tryz.prog.eqGuardType Tryz.prog.depth 54=false:=by kernel_rfl
  have hb:=U8 (a0:=a0) (a1:=a1) (a2:=a2) (a3:=a3) (b0:=b0) (b1:=b1) (b2:=b2) (b3:=b3) w;refine⟨.bool (!(decide (a0=b0)&&decide (a1=b1)&&decide (a2=b2)&&decide (a3=b3))),rfl,?_⟩;have hg:=run_eqGuard_agg (P:=Tryz.prog) w .neq 54 x y #[.int .i64 a0,.int .i64 a1,.string (B a2),.int .i64 a3] #[.int .i64 b0,.int .i64 b1,.string (B b2),.int .i64 b3] hm;simp only[execOp,e1,e2,Sem.run_bind,hg,Result.andThen_ok,run_neq_struct,hb,Sem.run_pure]
theorem RP (F:Nat)(a:(List Aa))(b:(List Aa))(r:Bool)(h:LJ F a b=some r):Fn Tryz.prog GE 142 [AD 4 (A1 Ab a),AD 4 (A1 Ab b)] [] (λR H=>R=rB r∧H=[]):=by
 refine enter (n:=26) Tryz.func142 rfl Tryz.ntmps142 rfl (λw Z=>?_);unfold LJ at h;refine Af (wa rfl (Ak (Am (Af (wm rfl (wv (AI (ys:=a) (enc:=Ab) Bp rfl) (wm rfl (wv (AI (ys:=b) (enc:=Ab) Bp rfl) (wv (Bk rfl rfl) (Ak (cz h rfl (λc1 h2=>?_) (λc1 h3=>?_))))))))))))
 ·refine Af (wa rfl (Ak (Ap (Ac ?_))));obtain rfl:=An h2;exact Ao (Bq Tryz.results142 (A6 rfl)) sN ⟨rfl,rfl⟩
 ·refine Aq (AA (Am (Af (wm rfl (wv (AI (ys:=a) (enc:=Ab) Bp rfl) (wv (r:=Al 0) (A2 rfl) (Ak (A5 (ob h3 λhh hi hg=>Bc (S:=Nat×(Int)×(Unit)) (V:=(Unit)×(Unit)) 0 (λσ=>BP (λσ=>HT a b σ) σ.1 σ.2.1=some hh) (λσ=>[(0,AD 4 (A1 Ab a)),(1,AD 4 (A1 Ab b)),(12,Al (a.length:Int)),(13,Al σ.2.1)]) (λσ=>[]) (λσ=>σ.1) (F,0,()) hi (Az.c rfl (Az.c rfl (Az.c rfl (Az.c rfl Az.nil)))) sN (λσ=>HS =some r) (λσ=>[]) (λσ=>[]) ?_ ?_)))))))))
  ·rintro⟨h4,ha,⟨⟩⟩ hj;refine Bu (l':=[(0,AD 4 (A1 Ab a)),(1,AD 4 (A1 Ab b)),(12,Al (a.length:Int)),(13,Al ha)]) (H':=[]) rfl rfl ?_;obtain⟨hk,rfl,hl,hb,hf⟩:=BK hj;replace hb:HT a b ha=some hl:=hb;unfold HT at hb;refine Af (wv (Cc rfl rfl) (Ak (Am (cz hb rfl (λhm hn=>?_) (λhm ho=>?_)))))
   ·refine Aq (AA (Am (A5 (Af (wm rfl (wa rfl (Ak (Am (ck hn λhp hq=>ck hq λhr hs=>C3 [0,1,5,12,13] [⟨[],AD 4 (A1 Ab a),0⟩,⟨[],Al ha,0⟩,⟨[0,1],J4 (Ab (Ay a ha)),0⟩,⟨[2],Bs (Ab (Ay a ha)),0⟩,⟨[],AD 4 (A1 Ab b),0⟩,⟨[],Al ha,0⟩,⟨[4,5],J4 (Ab (Ay b ha)),0⟩,⟨[6],Bs (Ab (Ay b ha)),0⟩,⟨[3,7],rB (!(decide (((Ay a ha).fKind)=((Ay b ha).fKind))&&decide (((Ay a ha).fInt)=((Ay b ha).fInt))&&decide (((Ay a ha).fStr)=((Ay b ha).fStr))&&decide (((Ay a ha).fN)=((Ay b ha).fN)))),0⟩] [16,17,18,19,20,21,22,23,24,0,1,12,13] ?_ ?_)))))))))
    ·refine oq (A2 rfl) (oq (A2 rfl) (oq (AT (enc:=Ab) (ys:=a) Bp By rfl rfl hp) (oq (C5 Jh By rfl rfl rfl) (oq (A2 rfl) (oq (A2 rfl) (oq (AT (enc:=Ab) (ys:=b) Bp By rfl rfl hr) (oq (C5 Jh By rfl rfl rfl) (oq (IA rfl rfl) ?_))))))));exact Cj
    refine AA (cz hs rfl (λht hu=>?_) (λht hw=>?_))
    ·refine Af (wa rfl (Ak (Ap (As (Ac (Ac (AO ?_)))))));have hx:=Bg hu hf hg;refine As (Ac ?_);obtain rfl:=An hx;exact Ao (Bq Tryz.results142 (A6 rfl)) sN ⟨rfl,rfl⟩
    ·refine Aq (A3 (AA (Aj (ck hw λhy hz=>wv (Bd rfl rfl hy) (wm rfl (Ai ?_))))));have h0:=AW hz hf;exact Av (Ar (hk,ha+1,()) ⟨h0,XX _⟩ (Az.c rfl (Az.c rfl (Az.c rfl (Az.c rfl Az.nil)))) sN)
   ·refine Bi (Aw ?_);have h1:=Bx ho hf hg;exact Aw (AS (Ar ((),()) h1 Az.nil sN))
  ·rintro⟨⟨⟩,⟨⟩⟩ he;refine BS (l':=[]) (H':=[]) rfl rfl ?_;replace he:HS =some r:=he;unfold HS at he;refine AV (AA (Af (wa rfl (Ak (Ap ?_)))));obtain rfl:=An he;exact Ao (Bq Tryz.results142 (A6 rfl)) sN ⟨rfl,rfl⟩
theorem UL (F:Nat)(a:(List Aa))(b:(List Aa))(r:Bool)(h:Nt F a b=some r):Fn Tryz.prog GE 110 [AD 4 (A1 Ab a),AD 4 (A1 Ab b)] [] (λR H=>R=rB r∧H=[]):=by
 refine enter (n:=8) Tryz.func110 rfl Tryz.ntmps110 rfl (λw Z=>?_);unfold Nt at h;refine Af (wa rfl (Bb (wm rfl (wm rfl (ob h λr1 e3 h2=>BQ Tryz.call142 (RP F a b r1 e3) rfl (wa rfl (Ak (Ap ?_))))))));obtain rfl:=An h2;exact Ao (Bq Tryz.results110 (A6 rfl)) sN ⟨rfl,rfl⟩
theorem UW (F:Nat)(a:(List Aa))(b:(List Aa))(r:Bool)(h:Lv F a b=some r):Fn Tryz.prog GE 83 [AD 4 (A1 Ab a),AD 4 (A1 Ab b)] [] (λR H=>R=rB r∧H=[]):=by
 refine enter (n:=26) Tryz.func83 rfl Tryz.ntmps83 rfl (λw Z=>?_);unfold Lv at h;refine Af (wa rfl (Ak (Am (Af (wm rfl (wv (AI (ys:=a) (enc:=Ab) Bp rfl) (wm rfl (wv (AI (ys:=b) (enc:=Ab) Bp rfl) (wv (Bk rfl rfl) (Ak (cz h rfl (λc1 h2=>?_) (λc1 h3=>?_))))))))))))
 ·refine Af (wa rfl (Ak (Ap (Ac ?_))));obtain rfl:=An h2;exact Ao (Bq Tryz.results83 (A6 rfl)) sN ⟨rfl,rfl⟩
 ·refine Aq (AA (Am (Af (wa rfl (Ak (A5 (ob h3 λhh hi hg=>Bc (S:=Nat×(Int)×(Unit)) (V:=(Unit)×(Unit)) 0 (λσ=>BP (λσ=>Es a b σ) σ.1 σ.2.1=some hh) (λσ=>[(0,AD 4 (A1 Ab a)),(1,AD 4 (A1 Ab b)),(5,Al σ.2.1)]) (λσ=>[]) (λσ=>σ.1) (F,0,()) hi (Az.c rfl (Az.c rfl (Az.c rfl Az.nil))) sN (λσ=>I3 =some r) (λσ=>[]) (λσ=>[]) ?_ ?_)))))))
  ·rintro⟨h4,ha,⟨⟩⟩ hj;refine Bu (l':=[(0,AD 4 (A1 Ab a)),(1,AD 4 (A1 Ab b)),(5,Al ha)]) (H':=[]) rfl rfl ?_;obtain⟨hk,rfl,hl,hb,hf⟩:=BK hj;replace hb:Es a b ha=some hl:=hb;unfold Es at hb;refine Am (Af (wm rfl (wm rfl (wv (AI (ys:=a) (enc:=Ab) Bp rfl) (wv (Cc rfl rfl) (Ak (cz hb rfl (λhm hn=>?_) (λhm ho=>?_))))))))
   ·refine Aq (AA (Am (A5 (Am (ck hn λhp hq=>ck hq λhr hs=>C3 [0,1,5] [⟨[],AD 4 (A1 Ab a),0⟩,⟨[],Al ha,0⟩,⟨[0,1],J4 (Ab (Ay a ha)),0⟩,⟨[2],Bs (Ab (Ay a ha)),0⟩,⟨[],AD 4 (A1 Ab b),0⟩,⟨[],Al ha,0⟩,⟨[4,5],J4 (Ab (Ay b ha)),0⟩,⟨[6],Bs (Ab (Ay b ha)),0⟩,⟨[3,7],rB (!(decide (((Ay a ha).fKind)=((Ay b ha).fKind))&&decide (((Ay a ha).fInt)=((Ay b ha).fInt))&&decide (((Ay a ha).fStr)=((Ay b ha).fStr))&&decide (((Ay a ha).fN)=((Ay b ha).fN)))),0⟩] [17,18,19,20,21,22,23,24,25,0,1,5] ?_ ?_)))))
    ·refine oq (A2 rfl) (oq (A2 rfl) (oq (AT (enc:=Ab) (ys:=a) Bp By rfl rfl hp) (oq (C5 Jh By rfl rfl rfl) (oq (A2 rfl) (oq (A2 rfl) (oq (AT (enc:=Ab) (ys:=b) Bp By rfl rfl hr) (oq (C5 Jh By rfl rfl rfl) (oq (IA rfl rfl) ?_))))))));exact Cj
    refine AA (cz hs rfl (λht hu=>?_) (λht hw=>?_))
    ·refine Af (wa rfl (Ak (Ap (As (Ac (Ac (AO ?_)))))));have hx:=Bg hu hf hg;refine As (Ac ?_);obtain rfl:=An hx;exact Ao (Bq Tryz.results83 (A6 rfl)) sN ⟨rfl,rfl⟩
    ·refine Aq (A3 (AA (Aj (wm rfl (ck hw λhy hz=>wv (Bd rfl rfl hy) (wa rfl (Ai ?_)))))));have h0:=AW hz hf;exact Av (Ar (hk,ha+1,()) ⟨h0,XX _⟩ (Az.c rfl (Az.c rfl (Az.c rfl Az.nil))) sN)
   ·refine Bi (Aw ?_);have h1:=Bx ho hf hg;exact Aw (AS (Ar ((),()) h1 Az.nil sN))
  ·rintro⟨⟨⟩,⟨⟩⟩ he;refine BS (l':=[]) (H':=[]) rfl rfl ?_;replace he:I3 =some r:=he;unfold I3 at he;refine AV (AA (Af (wa rfl (Ak (Ap ?_)))));obtain rfl:=An he;exact Ao (Bq Tryz.results83 (A6 rfl)) sN ⟨rfl,rfl⟩
end Go.Proofs.YtghdglcmblpbeaaGreatDoor.Q
namespace Go.Proofs.YtghdglcmblpbeaaGreatDoor
open Go
set_option linter.unusedVariables false
def I6 (F:Nat)(v:(List Aa)):Option ((List Aa)×Int):=
 Bh (D8 F v) λr1=>AR (!decide (r1=0)) (some (([]:List Aa),r1)) (some (v,0))
def Qq (F:Nat)(s:Au):Option ((List Aa)×Int):=
 Bh (I6 F ([(Aa.mk 4 0 s 0)]:List Aa)) λr2=>some (r2.1,r2.2)
end Go.Proofs.YtghdglcmblpbeaaGreatDoor
namespace Go.Proofs.YtghdglcmblpbeaaGreatDoor.Q
open Go Go.RowKit
set_option linter.unusedVariables false
set_option linter.unusedSimpArgs false
set_option maxRecDepth 100000
set_option maxHeartbeats 4000000
theorem Qu (F:Nat)(v:(List Aa))(r:(List Aa)×Int)(h:I6 F v=some r):Fn Tryz.prog GE 73 [AD 4 (A1 Ab v)] [] (λR H=>R=Df [AD 4 (A1 Ab r.1),Al r.2]∧H=[]):=by
 refine enter (n:=11) Tryz.func73 rfl Tryz.ntmps73 rfl (λw Z=>?_);unfold I6 at h;refine Af (wa rfl (wa rfl (Bb (wm rfl (ob h λr1 e3 h2=>BQ Qd (Gw F v r1 e3) rfl (wa rfl (Ak (Am (Af (wm rfl (wv (Bk rfl rfl) (Ak (cz h2 rfl (λc4 h5=>?_) (λc4 h6=>?_))))))))))))))
 ·refine Af (wm rfl (wa rfl (wa rfl (Ak (Ap (Ac (WK.up (d:=2) (r:=AD 4 (A1 Ab ([]:List Aa))) rfl (Up.le (DL.nil _)) ?_)))))));obtain rfl:=An h5;exact Ao (Du Tryz.results73 (A6 rfl) (A6 rfl)) sN ⟨rfl,rfl⟩
 ·refine Aq (AA (Af (wm rfl (wa rfl (wa rfl (Ak (Ap ?_)))))));obtain rfl:=An h6;exact Ao (Du Tryz.results73 (A6 rfl) (A6 rfl)) sN ⟨rfl,rfl⟩
theorem Qp (F:Nat)(s:Au)(r:(List Aa)×Int)(h:Qq F s=some r):Fn Tryz.prog GE 33 [rS s] [] (λR H=>R=Df [AD 4 (A1 Ab r.1),Al r.2]∧H=[]):=by
 refine enter (n:=10) Tryz.func33 rfl Tryz.ntmps33 rfl (λw Z=>?_);unfold Qq at h;refine Af (wa rfl (wa rfl (Bb (wm rfl (wv (r:=Bs [Al 4,Al 0,rS s,Al 0]) (DX rfl rfl rfl rfl) (AY (ys:=([(Aa.mk 4 0 s 0)]:List Aa)) (enc:=Ab) (css:=[[Al 4,Al 0,rS s,Al 0]]) (xs:=[.tmp 5]) Bp By GT rfl rfl rfl ⟨E1.agg ⟨Up.refl _,Up.refl _,Up.refl _,Up.refl _,trivial⟩,trivial⟩ rfl Bf rfl rfl rfl (λb1=>?_)))))));refine WL.freeze (i:=0) rfl (WL.up (d:=6) (r:=AD 4 (A1 Ab ([(Aa.mk 4 0 s 0)]:List Aa))) rfl (Up.fact (i:=0) rfl) (ob h λr2 e4 h3=>BQ Tryz.call73 (Qu F ([(Aa.mk 4 0 s 0)]:List Aa) r2 e4) rfl (wv (A7 rfl rfl) (wv (A7 rfl rfl) (wa rfl (wa rfl (Ak (Ap ?_))))))));obtain rfl:=An h3;exact Ao (Du Tryz.results33 (A6 rfl) (A6 rfl)) (sS sN) ⟨rfl,rfl⟩
end Go.Proofs.YtghdglcmblpbeaaGreatDoor.Q
namespace Go.Proofs.YtghdglcmblpbeaaGreatDoor
open Go
set_option linter.unusedVariables false
def J2 (ys:(List Aa)):Option ((List Aa)):=
 AX (E7 40 (([]:List Aa).length+ys.length))<|some (([]:List Aa)++ys)
def LI (key:Au)(x:(List Aa))(out:(List (List Aa))):Option (Bool×(List (List Aa))):=
 Bh (J2 x) λr1=>AX (E7 24 (out.length+([r1]:List (List Aa)).length))<|some (true,out++([r1]:List (List Aa)))
def HP (F:Nat)(v:(List Aa))(ha:Int)(hb:Int)(hg:(List (List Aa))):Option (Stp (Int×Int×(List (List Aa))) (Out ((List (List Aa))) ((List (List Aa))))):=
 AR (decide (hb<((Ay v 0).fN))) (AR (decide (((Ay v 0).fKind)=6)) (AX (C0 ha (v.length:Int))<|AX (BF .i64 (ha+1))<|AX (ES (ha+1) (v.length:Int))<|Bh (E3 F (List.drop (Int.toNat (ha+1)) v)) λhe=>AX (BF .i64 ((ha+1)+he.1))<|AX (ES (ha+1) ((ha+1)+he.1))<|AX (ES ((ha+1)+he.1) (v.length:Int))<|Bh (LI ((Ay v ha).fStr) (List.take (Int.toNat ((ha+1)+he.1)-Int.toNat (ha+1)) (List.drop (Int.toNat (ha+1)) v)) hg) λhh=>AR (!hh.1) (some (.out (.ret hh.2))) (AX (BF .i64 (hb+1))<|some (.next ((ha+1)+he.1,hb+1,hh.2)))) (AX (ES ha (v.length:Int))<|Bh (E3 F (List.drop (Int.toNat ha) v)) λhf=>AX (BF .i64 (ha+hf.1))<|AX (ES ha (ha+hf.1))<|AX (ES (ha+hf.1) (v.length:Int))<|Bh (LI ([]:Au) (List.take (Int.toNat (ha+hf.1)-Int.toNat ha) (List.drop (Int.toNat ha) v)) hg) λhi=>AR (!hi.1) (some (.out (.ret hi.2))) (AX (BF .i64 (hb+1))<|some (.next (ha+hf.1,hb+1,hi.2))))) (some (.out (.go hg)))
def HO (ha:(List (List Aa))):Option ((List (List Aa))):=
 some ha
def NU (F:Nat)(v:(List Aa))(out:(List (List Aa))):Option ((List (List Aa))):=
 AX (C0 0 (v.length:Int))<|Bh (BP (λσ=>HP F v σ.1 σ.2.1 σ.2.2) F (1,0,out)) (BI λν=>HO ν)
def KC (F:Nat)(v:(List Aa)):Option ((List (List Aa))×Int):=
 Bh (Dp F v) λr1=>AR (!decide (r1=0)) (some (([]:List (List Aa)),r1)) (AX (C0 0 (v.length:Int))<|AR (((!decide (((Ay v 0).fKind)=5))&&(!decide (((Ay v 0).fKind)=6)))) (some (([]:List (List Aa)),7)) (Bh (NU F v ([]:List (List Aa))) λha=>some (ha,0)))
end Go.Proofs.YtghdglcmblpbeaaGreatDoor
namespace Go.Proofs.YtghdglcmblpbeaaGreatDoor.Q
open Go Go.RowKit
set_option linter.unusedVariables false
set_option linter.unusedSimpArgs false
def QI (ops:List Oper)(N:Nat):Bool:=
 let cl:=MV ops []
 (List.range ops.length).all (λi=>(ED (ops.getD i default)).all (·<i))&&
 (List.range ops.length).all (λi=>i<N||(List.range i).all (λj=>(cl.getD i 0).testBit j))
section
variable {P : Program} {Q : Exit → Act → World → Prop}
theorem PQ {listed:Array Bool}{len m:Nat}(hs:listed.size=len)(hm:m≤len)(h:∀j,j<len→(listed.getD j true=true↔j<m)):listed.toList.count false=len-m:=by
 have:listed.toList=List.replicate m true++List.replicate (len-m) false:=by
  apply List.ext_getElem
  ·simp[hs];omega
  ·intro j h1 h2;have hj:j<len:=by simpa[hs] using h1
   have:=h j hj;rw[Array.getD_eq_getD_getElem?,Array.getElem?_eq_getElem (by omega)] at this;simp only[Yv] at this;rw[Array.getElem_toList,List.getElem_append]
   split
   ·rename_i h3
    simp at h3;simp[this.2 h3]
   ·rename_i h3
    simp at h3;simp only[List.getElem_replicate]
    cases hb:listed[j] with
    | false=>rfl
    | true=>have:=this.1 hb;omega
 rw[this];simp[List.count_append,List.count_replicate]
theorem Rq {listed:Array Bool}{j:Nat}(h:j<listed.size)(d d':Bool):listed.getD j d=listed.getD j d':=by
 simp[Array.getD_eq_getD_getElem?,Array.getElem?_eq_getElem h]
theorem MY {ops:List Oper}{listed:Array Bool}{i:Nat}{o:Oper}(ho:ops[i]? =some o)(hb:∀e∈ED o,listed.getD e true=true)
  (hcl:∀j o,ops[j]? =some o→listed.getD j true=true→∀e∈ED o,listed.getD e true=true) (j:Nat) (h:((MV ops []).getD i 0).testBit j=true):j=i∨listed.getD j true=true:=
 HB ops (λk=>k=i∨listed.getD k true=true) ops [] (λt o' ht e he hF=>by
  rcases hF with hF | hF
  ·simp at hF;subst hF;rw[ho] at ht;simp at ht;subst ht;exact .inr (hb e he)
  ·exact .inr (hcl t o' ht (by simpa using hF) e he)) (λj i hb=>by simp at hb) i j h (.inl rfl)
theorem Ju {ops:List Oper}{listed:Array Bool}{i:Nat}(hsz:listed.size=ops.length)(hlt:∀i,i<ops.length→∀e∈ED (ops.getD i default),e<i)(h:i∈Region.ready .any ops.toArray listed) :
  listed.getD i true=false∧i<ops.length∧∃o,ops[i]? =some o∧∀e∈ED o,listed.getD e true=true:=by
 obtain⟨h1,o,ho,h2⟩:=mem_ready.1 h;have ho':ops[i]? =some o:=by simpa using ho
 have hil:=(List.getElem?_eq_some_iff.1 ho').1;refine⟨h1,hil,o,ho',λe he=>?_⟩;have hei:=hlt i hil e (by rw[Yf,ho'];exact he);simp only[ED,List.mem_map,List.mem_filter] at he;obtain⟨x,⟨hx1,hx2⟩,rfl⟩:=he;have h3:=h2 x (by simpa using hx1) hx2;rw[Rq (by omega) true false];exact h3
theorem Jo {ops:List Oper}{listed:Array Bool}(hsz:listed.size=ops.length)(hlt:∀i,i<ops.length→∀e∈ED (ops.getD i default),e<i)(h:Region.ready .any ops.toArray listed=[]) :
  ∀j,j<ops.length→listed.getD j true=true:=by
 intro j
 induction j using Nat.strongRecOn with
 | ind j ih=>
  intro hj
  cases hb:listed.getD j true with
  | true=>rfl
  | false=>
   have:j∈Region.ready .any ops.toArray listed:=mem_ready.2 ⟨hb,ops[j],by simp[hj],λe he hbn=>by
    have hel:e.on<j:=hlt j hj e.on (by
     rw[Yf,Yc hj];simp only[ED,Yv,List.mem_map,List.mem_filter];exact⟨e,⟨by simpa using he,hbn⟩,rfl⟩)
    rw[Rq (by omega) false true];exact ih e.on hel (by omega)⟩
   rw[h] at this;cases this
theorem LL {listed:Array Bool}{i j:Nat}(hi:i<listed.size):(listed.setIfInBounds i true).getD j true=true↔(j=i∨listed.getD j true=true):=by
 by_cases hj:i=j
 ·subst hj;simp[hi]
 ·rw[getD_set_ne true hj];exact⟨.inr,λh=>h.elim (λh=>absurd h.symm hj) id⟩
theorem RQ {listed:Array Bool}{i fuel:Nat}(hi:i<listed.size)(hun:listed.getD i true=false)(hc:listed.toList.count false=fuel+1):(listed.setIfInBounds i true).toList.count false=fuel:=by
 have hfi:listed.toList[i]? =some false:=by
  rw[Array.getD_eq_getD_getElem?,Array.getElem?_eq_getElem hi] at hun;simp at hun;simp[hi,hun]
 rw[Array.toList_setIfInBounds];have h1:=List.count_set (a:=true) (b:=false) (l:=listed.toList) (i:=i) (by simpa using hi);have h2:listed.toList[i]'(by simpa using hi)=false:=by
  have:=List.getElem?_eq_some_iff.1 hfi;exact this.2
 rw[h1,h2,hc];rfl
theorem Lo {ops:List Oper}{N:Nat}(hlt:∀i,i<ops.length→∀e∈ED (ops.getD i default),e<i)
  (hch:∀i,N≤i→i<ops.length→∀j,j<i→((MV ops []).getD i 0).testBit j=true):∀(k m:Nat) (listed:Array Bool) (a:Act) (w:World),m+k=ops.length→N≤m→listed.size=ops.length→
   (∀j,j<ops.length→(listed.getD j true=true↔j<m))→(∀j o,ops[j]? =some o→listed.getD j true=true→∀e∈ED o,listed.getD e true=true)→wpList P ops.toArray Q (ops.drop m) a w→wpAny P .any ops.toArray Q k listed a w
 | 0,m,listed,a,w,hk,hN,hsz,hl,hcl,h=>by
  refine⟨?_,?_⟩
  ·cases hr:Region.ready .any ops.toArray listed with
   | nil=>rfl
   | cons i r=>
    obtain⟨h1,h2,_⟩:=Ju hsz hlt (i:=i) (by rw[hr];simp);rw[(hl i h2).2 (by omega)] at h1;cases h1
  ·rw[List.drop_of_length_le (by omega)] at h;exact h
 | k+1,m,listed,a,w,hk,hN,hsz,hl,hcl,h=>by
  refine⟨λhr=>?_,λi hi=>?_⟩
  ·have:=(hl m (by omega)).1 (Jo hsz hlt hr m (by omega));omega
  ·obtain⟨h1,h2,o,ho,hb⟩:=Ju hsz hlt hi;have him:i=m:=by
    have hmi : ¬ i<m:=λh'=>by rw[(hl i h2).2 h'] at h1;cases h1
    by_cases e:i=m
    ·exact e
    ·rcases MY ho hb hcl m (hch i (by omega) h2 m (by omega)) with h3 | h3
     ·exact h3.symm
     ·have:=(hl m (by omega)).1 h3;omega
   subst him;have hd:ops.drop i=o::ops.drop (i+1):=by
    rw[List.drop_eq_getElem_cons h2]
    congr 1
    exact(List.getElem?_eq_some_iff.1 ho).2
   rw[hd] at h;have ih:∀a' w',wpList P ops.toArray Q (ops.drop (i+1)) a' w'→wpAny P .any ops.toArray Q k (listed.setIfInBounds i true) a' w':=λa' w' h'=>by
    refine Lo hlt hch k (i+1) _ a' w' (by omega) (by omega) (by simpa using hsz) (λj hj=>?_) (λj o' hj hlj e he=>?_) h'
    ·rw[LL (by omega),hl j hj];omega
    ·rw[LL (by omega)] at hlj ⊢;rcases hlj with rfl | hlj
     ·rw[ho] at hj;simp at hj;subst hj;exact .inr (hb e he)
     ·exact .inr (hcl j o' hj hlj e he)
   unfold wpOp;have hoA:ops.toArray[i]? =some o:=by simpa using ho
   simp only[hoA];simp only[wpList] at h
   split
   ·rename_i hw'
    rw[if_pos hw'] at h;exact h.imp (λh=>Oper.wp_mono ih h) (λh=>h)
   ·rename_i hw'
    rw[YJ hw'] at h;exact ih _ _ h
theorem VR {id:Nat}{ops:List Oper}{N:Nat}(hm:P.follows .mixedOrders=true)(hB:QI ops N=true)(hN:N≤ops.length)(I:(Nat→Bool)→Act→World→Prop)
  (hext:∀S S' a w,(∀j,j<N→S j=S' j)→I S a w→I S' a w) {a:Act} {w:World} (h0:I (λ_=>false) a { w with drawn:=w.drawn+1 })
  (step:∀S i o a w,i<N→S i=false→ops[i]? =some o→(∀e∈ED o,e<i∧S e=true)→I S a w→∀K:Act→World→Prop,(∀a' w',I (λj=>j ==i||S j) a' w'→K a' w')→
   (Region.wanted o (yielded ops.toArray a.tmps)=true→o.wp P a w K Q)∧(Region.wanted o (yielded ops.toArray a.tmps)=false→K (a.put o.dst undef) w))
  (fin:∀a w,I (λ_=>true) a w→wpList P ops.toArray Q (ops.drop N) a w):(Code.region id ops.toArray true).wp P Q a w:=by
 simp only[QI,Ya,Y3,List.mem_range,XU,Y7] at hB;obtain⟨hlt,hch0⟩:=hB;have hch:∀i,N≤i→i<ops.length→∀j,j<i→((MV ops []).getD i 0).testBit j=true:=λi h1 h2 j hj=>by
  rcases hch0 i h2 with h3 | h3
  ·omega
  ·exact h3 j hj
 refine wp_region_any hm ?_;have main:∀(fuel:Nat) (listed:Array Bool) (a:Act) (w:World),listed.size=ops.length→listed.toList.count false=fuel→I (λj=>listed.getD j true) a w→
   (∀j o,ops[j]? =some o→listed.getD j true=true→∀e∈ED o,listed.getD e true=true)→(∀j,N≤j→j<ops.length→listed.getD j true=false)→wpAny P .any ops.toArray Q fuel listed a w:=by
  intro fuel;have allin:∀(fuel:Nat) (listed:Array Bool) (a:Act) (w:World),listed.size=ops.length→listed.toList.count false=fuel→I (λj=>listed.getD j true) a w→
   (∀j o,ops[j]? =some o→listed.getD j true=true→∀e∈ED o,listed.getD e true=true)→(∀j,N≤j→j<ops.length→listed.getD j true=false)→(∀j,j<N→listed.getD j true=true)→wpAny P .any ops.toArray Q fuel listed a w:=by
   intro fuel listed a w hsz hc hI hcl hlast hall;have hl:∀j,j<ops.length→(listed.getD j true=true↔j<N):=λj hj=>by
    constructor
    ·intro h
     by_cases hjN:j<N
     ·exact hjN
     ·rw[hlast j (by omega) hj] at h;cases h
    ·exact hall j
   have:=PQ hsz hN hl;refine Lo hlt hch fuel N listed a w (by omega) (Yp _) hsz hl hcl (fin a w (hext _ _ a w (λj hj=>hall j hj) hI))
  induction fuel with
  | zero=>
   intro listed a w hsz hc hI hcl hlast;refine allin 0 listed a w hsz hc hI hcl hlast (λj hj=>?_)
   cases hb:listed.getD j true with
   | true=>rfl
   | false=>
    have:false∈listed.toList:=by
     rw[Array.getD_eq_getD_getElem?,Array.getElem?_eq_getElem (by omega)] at hb;simp at hb;rw[← hb];simp
    have:=List.count_pos_iff.2 this;omega
  | succ fuel ih=>
   intro listed a w hsz hc hI hcl hlast
   by_cases hall:∀j,j<N→listed.getD j true=true
   ·exact allin (fuel+1) listed a w hsz hc hI hcl hlast hall
   ·refine⟨λhr=>absurd (λj hj=>Jo hsz hlt hr j (by omega)) hall,λi hi=>?_⟩;obtain⟨h1,h2,o,ho,hb⟩:=Ju hsz hlt hi;have hiN:i<N:=by
     by_cases h:i<N
     ·exact h
     ·refine absurd (λj hj=>?_) hall;rcases MY ho hb hcl j (hch i (by omega) h2 j (by omega)) with h3 | h3
      ·omega
      ·exact h3
    have K':∀a' w',I (λj=>j ==i||listed.getD j true) a' w'→wpAny P .any ops.toArray Q fuel (listed.setIfInBounds i true) a' w':=λa' w' hI'=>by
     refine ih _ a' w' (by simpa using hsz) (RQ (by omega) h1 hc) (hext _ _ a' w' (λj hj=>?_) hI') (λj o' hj hlj e he=>?_) (λj h3 h4=>?_)
     ·have:=LL (listed:=listed) (i:=i) (j:=j) (by omega)
      cases hq:(listed.setIfInBounds i true).getD j true with
      | true=>
       rw[hq] at this;rcases this.1 rfl with h | h
       ·simp[h]
       ·simp[h]
      | false=>
       rw[hq] at this;have h5 : ¬ (j=i∨listed.getD j true=true):=λh=>by have:=this.2 h;cases this
       cases hz:listed.getD j true with
       | true=>exact absurd (.inr hz) h5
       | false=>
        have:j≠i:=λh=>h5 (.inl h);simp[this]
     ·rw[LL (by omega)] at hlj ⊢;rcases hlj with rfl | hlj
      ·rw[ho] at hj;simp at hj;subst hj;exact .inr (hb e he)
      ·exact .inr (hcl j o' hj hlj e he)
     ·rw[getD_set_ne true (by omega)];exact hlast j h3 h4
    obtain⟨k1,k2⟩:=step _ i o a w hiN h1 ho (λe he=>⟨hlt i h2 e (by rw[Yf,ho];exact he),hb e he⟩) hI _ K';unfold wpOp;have hoA:ops.toArray[i]? =some o:=by simpa using ho
    simp only[hoA]
    split
    ·rename_i hw';exact .inl (k1 hw')
    ·rename_i hw';exact k2 (by simpa using hw')
 have e0:∀j,j<ops.length→(Array.replicate ops.length false).getD j true=false:=λj hj=>by simp[hj]
 have hsz0:ops.toArray.size=ops.length:=by simp
 rw[hsz0];refine main ops.length (Array.replicate ops.length false) a _ (by simp) (by simp) (hext _ _ _ _ (λj hj=>(e0 j (by omega)).symm) h0) (λj o hj hl=>?_) (λj _ h2=>e0 j h2);rw[e0 j (List.getElem?_eq_some_iff.1 hj).1] at hl;cases hl
end
structure Sa where
 deps:List Nat
 r:Rp
 al:Option (List Rp×TypeId):=none
 late:Option (Nat×List Rp):=none
 sto:Option Nat:=none
def Gf (sp:List Sa)(i:Nat):Sa:=sp.getD i { deps:=[],r:=rv undef }
def UR (sp:List Sa):List Sp:=sp.map λs=>⟨s.deps,s.r,0⟩
def KD (β:Nat→Nat)(s:Sa)(i:Nat):Rp:=match s.al with
 | none=>s.r
 | some _=>rv (.pointer (some ⟨β i,0,none⟩))
def La (S:Nat→Bool)(late:Option (Nat×List Rp))(cs:List Rp):List Rp:=match late with
 | none=>cs
 | some q=>if S q.1 then q.2 else cs
def Gc (S:Nat→Bool)(β:Nat→Nat):List Sa→Nat→List Ent
 | [],_=>[]
 | s::r,t=>match s.al with
  | some p=>if S t then .blk (β t) (La S s.late p.1) p.2::Gc S β r (t+1) else Gc S β r (t+1)
  | none=>Gc S β r (t+1)
def S8 (β:Nat→Nat):List Sa→Nat→List Ent
 | [],_=>[]
 | s::r,t=>match s.al with
  | some p=>.blk (β t) (match s.late with | none=>p.1 | some q=>q.2) p.2::S8 β r (t+1)
  | none=>S8 β r (t+1)
def Nb (β:Nat→Nat):List Oper→List Sa→Nat→Fr→Fr
 | o::os,s::sp,i,l=>match o.dst with
  | some d=>(d,KD β s i)::Nb β os sp (i+1) l
  | none=>Nb β os sp (i+1) l
 | _,_,_,l=>l
theorem J1 {S S':Nat→Bool}{late:Option (Nat×List Rp)}{cs:List Rp}(h:∀q,late=some q→S q.1=S' q.1):La S late cs=La S' late cs:=by
 unfold La
 cases late with
 | none=>rfl
 | some q=>simp only[];rw[h q rfl]
theorem Eo (S:Nat→Bool)(β:Nat→Nat)(s:Sa)(r:List Sa)(t:Nat):Gc S β (s::r) t=match s.al with
  | some p=>if S t then .blk (β t) (La S s.late p.1) p.2::Gc S β r (t+1) else Gc S β r (t+1)
  | none=>Gc S β r (t+1):=rfl
theorem G2 {S S':Nat→Bool}{β β':Nat→Nat}:∀(r:List Sa) (t0:Nat),(∀(t:Nat) (s:Sa),r[t]? =some s→s.al≠none→S (t0+t)=S' (t0+t)∧(S (t0+t)=true→β (t0+t)=β' (t0+t)∧∀q,s.late=some q→S q.1=S' q.1))→Gc S β r t0=Gc S' β' r t0
 | [],_,_=>rfl
 | s::r,t0,h=>by
  have ih:=G2 r (t0+1) (λt s hs hn=>by
   have:=h (t+1) s (by simpa using hs) hn;rw[show t0+1+t=t0+(t+1) from by omega];exact this)
  unfold Gc;rw[ih]
  cases ha:s.al with
  | none=>rfl
  | some p=>
   obtain⟨h1,h2⟩:=h 0 s rfl (by rw[ha];exact nofun);simp only[Nat.add_zero] at h1 h2;simp only[];rw[← h1]
   split
   ·rename_i hS;rw[(h2 hS).1,J1 (h2 hS).2]
   ·rfl
theorem PP (β:Nat→Nat):∀(r:List Sa) (t0:Nat),Gc (λ_=>true) β r t0=S8 β r t0
 | [],_=>rfl
 | s::r,t0=>by
  unfold Gc S8;rw[PP β r (t0+1)]
  cases s.al with
  | none=>rfl
  | some p=>cases hl:s.late<;>simp[La,hl]
theorem ND (β:Nat→Nat):∀(r:List Sa) (t0:Nat),Gc (λ_=>false) β r t0=[]
 | [],_=>rfl
 | s::r,t0=>by
  unfold Gc;rw[ND β r (t0+1)]
  cases s.al<;>simp
theorem PO {S:Nat→Bool}{β:Nat→Nat}{i b:Nat}{p:List Rp×TypeId}:∀(r:List Sa) (t0 k:Nat) (s:Sa),i=t0+k→r[k]? =some s→s.al=some p→S i=false→(∀(t:Nat) (s:Sa) (q:Nat×List Rp),r[t]? =some s→s.al≠none→s.late=some q→q.1≠i)→(∀q,s.late=some q→S q.1=false∧q.1≠i)→
  (Gc (λj=>j ==i||S j) (λj=>if j=i then b else β j) r t0).Perm (.blk b p.1 p.2::Gc S β r t0)
 | [],_,_,_,_,h,_,_,_,_=>by simp at h
 | s'::r,t0,0,s,hi,h,ha,hS,hne,hl=>by
  simp at h hi;subst h;subst hi;have e:=G2 (S:=λj=>j ==i||S j) (S':=S) (β:=λj=>if j=i then b else β j) (β':=β) r (i+1) (λt s hs hn=>by
   have:i+1+t≠i:=by omega
   refine⟨by simp[this],λ_=>⟨by simp[this],λq hq=>?_⟩⟩;have:=hne (t+1) s q (by simpa using hs) hn hq;simp[this])
  have ec:La (λj=>j ==i||S j) s'.late p.1=p.1:=by
   unfold La
   cases hq:s'.late with
   | none=>rfl
   | some q=>
    obtain⟨h1,h2⟩:=hl q hq;simp[h1,h2]
  unfold Gc;rw[e,ha];simp only[hS,BEq.rfl,Yx,if_true,ec];simp
 | s'::r,t0,k+1,s,hi,h,ha,hS,hne,hl=>by
  have ih:=PO (S:=S) (β:=β) (i:=i) (b:=b) (p:=p) r (t0+1) k s (by omega) (by simpa using h) ha hS (λt s q hs=>hne (t+1) s q (by simpa using hs)) hl;have hne0:t0≠i:=by omega
  have hne':(t0 ==i)=false:=by simpa using hne0
  unfold Gc
  cases ha':s'.al with
  | none=>exact ih
  | some q=>
   simp only[hne',Yo,YJ hne0];rw[J1 (S:=λj=>j ==i||S j) (S':=S) (λq hq=>by
    have:=hne 0 s' q rfl (by rw[ha'];exact nofun) hq;simp[this])]
   cases hS':S t0 with
   | true=>simpa using(XV _ ih).trans (List.Perm.swap _ _ _)
   | false=>simpa using ih
theorem PN {S:Nat→Bool}{β:Nat→Nat}{i j:Nat}{p:List Rp×TypeId}{ncs:List Rp}:∀(r:List Sa) (t0 k:Nat) (s:Sa),j=t0+k→r[k]? =some s→s.al=some p→s.late=some (i,ncs)→S j=true→S i=false→(∀(t:Nat) (s:Sa) (q:Nat×List Rp),r[t]? =some s→s.al≠none→s.late=some q→t0+t≠j→q.1≠i)→(∀(t:Nat) (s:Sa),r[t]? =some s→s.al≠none→t0+t≠i)→
  ∃H',(Gc S β r t0).Perm (.blk (β j) p.1 p.2::H')∧(Gc (λj=>j ==i||S j) β r t0).Perm (.blk (β j) ncs p.2::H')
 | [],_,_,_,_,h,_,_,_,_,_,_=>by simp at h
 | s'::r,t0,0,s,hj,h,ha,hl,hSj,hSi,hne,hni=>by
  simp at h hj;subst h;subst hj;have e:=G2 (S:=λx=>x ==i||S x) (S':=S) (β:=β) (β':=β) r (j+1) (λt s hs hn=>by
   have h1:=hni (t+1) s (by simpa using hs) hn;have h1':j+1+t≠i:=by omega
   refine⟨by simp[h1'],λ_=>⟨rfl,λq hq=>?_⟩⟩;have:=hne (t+1) s q (by simpa using hs) hn hq (by omega);simp[this])
  refine⟨Gc S β r (j+1),?_,?_⟩
  ·rw[Eo];rw[ha];simp[hSj,La,hl,hSi]
  ·rw[Eo];rw[ha,e];simp[hSj,La,hl]
 | s'::r,t0,k+1,s,hj,h,ha,hl,hSj,hSi,hne,hni=>by
  obtain⟨H',h1,h2⟩:=PN (S:=S) (β:=β) (i:=i) (j:=j) (p:=p) (ncs:=ncs) r (t0+1) k s (by omega) (by simpa using h) ha hl hSj hSi (λt s q hs hn hq hx=>hne (t+1) s q (by simpa using hs) hn hq (by omega)) (λt s hs hn=>by
   have:=hni (t+1) s (by simpa using hs) hn;omega)
  cases ha':s'.al with
  | none=>exact⟨H',by rw[Eo,ha'];exact h1,by rw[Eo,ha'];exact h2⟩
  | some q=>
   have hi0:=hni 0 s' rfl (by rw[ha'];exact nofun);have hi0':(t0 ==i)=false:=by simpa using hi0
   have ec:La (λx=>x ==i||S x) s'.late q.1=La S s'.late q.1:=J1 (λq hq=>by
    have:=hne 0 s' q rfl (by rw[ha'];exact nofun) hq (by omega);simp[this])
   cases hS':S t0 with
   | true=>
    refine⟨.blk (β t0) (La S s'.late q.1) q.2::H',?_,?_⟩
    ·rw[Eo];rw[ha'];simpa[hS'] using(XV _ h1).trans (List.Perm.swap _ _ _)
    ·rw[Eo];rw[ha'];simp only[hi0',Yo,hS',if_true,ec];exact(XV _ h2).trans (List.Perm.swap _ _ _)
   | false=>
    refine⟨H',?_,?_⟩
    ·rw[Eo];rw[ha'];simpa[hS'] using h1
    ·rw[Eo];rw[ha'];simp only[hi0',Yo,hS'];simpa using h2
def XD (n:Nat)(ops:List Oper)(N:Nat)(keys:List Nat)(deps:List (List Nat))(als:List Bool)(lates stos:List (Option Nat)):Bool:=
 QI ops N&&decide (N≤ops.length)&&
 (List.range N).all (λi=>match DN ops i with
  | some d=>decide (d<n)&&!keys.contains d&&(List.range N).all (λj=>j ==i||DN ops j !=some d)
  | none=>true)&&
 (List.range N).all (λi=>(deps.getD i []).all (λj=>decide (j<N)&&(ED (ops.getD i default)).contains j&&!als.getD j true))&&
 (List.range N).all (λi=>match stos.getD i none with
  | some j=>decide (j<N)&&(ED (ops.getD i default)).contains j&&als.getD j false&&!als.getD i true
  | none=>true)&&
 (List.range N).all (λj=>match lates.getD j none with
  | some k=>decide (k<N)&&als.getD j false&&stos.getD k none ==some j
  | none=>true)
def XL (P:Program)(n:Nat)(c:Cx)(opsA:Array Oper)(Q:Exit→Act→World→Prop)(o:Oper)(p:List Rp×TypeId):Prop:=
 ∀H a w Z (K:Act→World→Prop),St c H Z w→(∀b w',St c (.blk b p.1 p.2::H) Z w'→K (a.put o.dst (.pointer (some ⟨b,0,none⟩))) w')→
  Region.wanted o (yielded opsA a.tmps)=true∧o.wp P a w K Q
def WT (P:Program)(n:Nat)(c:Cx)(opsA:Array Oper)(Q:Exit→Act→World→Prop)(ops:List Oper)(sp:List Sa)(l0:Fr)(H:List Ent)(i:Nat)(o:Oper):Prop:=
 match (Gf sp i).sto with
 | some j=>o.dst=none∧∃d p ncs,DN ops j=some d∧(Gf sp j).al=some p∧(Gf sp j).late=some (i,ncs)∧
   ∀b H,E0 P n c opsA Q ((d,rv (.pointer (some ⟨b,0,none⟩)))::Cp ops (UR sp) (Gf sp i).deps l0) (.blk b p.1 p.2::H) o (rv undef) (.blk b ncs p.2::H)
 | none=>match (Gf sp i).al with
  | none=>∀E,E0 P n c opsA Q (Cp ops (UR sp) (Gf sp i).deps l0) (H++E) o (Gf sp i).r (H++E)
  | some p=>XL P n c opsA Q o p
def Lf (P:Program)(n:Nat)(c:Cx)(opsA:Array Oper)(Q:Exit→Act→World→Prop)(ops:List Oper)(sp:List Sa)(l0:Fr)(H:List Ent):Nat→List Oper→Prop
 | i,o::rest=>WT P n c opsA Q ops sp l0 H i o∧Lf P n c opsA Q ops sp l0 H (i+1) rest
 | _,[]=>True
section
variable {P : Program} {n : Nat} {c : Cx} {opsA : Array Oper} {Q : Exit → Act → World → Prop} {l l0 : Fr} {H : List Ent} {sp : List Sa}
theorem Lf.at {ops:List Oper}:∀{k:Nat} {rest:List Oper},Lf P n c opsA Q ops sp l0 H k rest→∀(t:Nat) o,rest[t]? =some o→WT P n c opsA Q ops sp l0 H (k+t) o
 | k,o::rest,⟨h1,h2⟩,t,o',ht=>by
  cases t with
  | zero=>simp at ht;subst ht;exact h1
  | succ t=>
   have:=Lf.at h2 t o' (by simpa using ht);rw[show k+(t+1)=k+1+t from by omega];exact this
 | _,[],_,t,o,h=>by simp at h
theorem R2 {β:Nat→Nat}{a:Act}{Z:Fz}(h0:Dc n l0 a Z):∀(os:List Oper) (ss:List Sa) (k:Nat),(∀(t:Nat) o s d,os[t]? =some o→ss[t]? =some s→o.dst=some d→∃v,a.tmps[d]? =some v∧(KD β s (k+t)).p Z v)→Dc n (Nb β os ss k l0) a Z
 | [],_,_,_=>by unfold Nb;exact h0
 | _::_,[],_,_=>by unfold Nb;exact h0
 | o::os,s::ss,k,h=>by
  have ih:=R2 h0 os ss (k+1) (λt o' s' d h1 h2 h3=>by
   have:=h (t+1) o' s' d (by simpa using h1) (by simpa using h2) h3;rw[show k+1+t=k+(t+1) from by omega];exact this)
  unfold Nb
  cases hd:o.dst with
  | none=>exact ih
  | some d=>
   refine⟨ih.size,ih.defers,λi r hi=>?_⟩;rw[C9] at hi
   split at hi
   ·rename_i e;subst e;simp at hi;subst hi;exact h 0 o s d rfl rfl hd
   ·exact ih.tm i r hi
theorem VS {id:Nat}{ops:List Oper}(N:Nat)(sp:List Sa)(hm:P.follows .mixedOrders=true)(hB:XD n ops N (Gz l0) (sp.map (·.deps)) (sp.map (·.al.isSome)) (sp.map (·.late.map (·.1))) (sp.map (·.sto))=true)(hl0:VD l0 l)(hsp:sp.length=N)
  (hob:Lf P n c ops.toArray Q ops sp l0 H 0 (ops.take N)) (h:∀β,WL P n c ops.toArray Q (ops.drop N) (Nb β (ops.take N) sp 0 l0) (H++S8 β sp 0)):WC P n c (.region id ops.toArray true) Q l H:=by
 intro a w Z ha hw;simp only[XD,Ya,Y3,List.mem_range,XU] at hB;obtain⟨⟨⟨⟨⟨b1,bN⟩,b2⟩,b3⟩,b4⟩,b5⟩:=hB;have hget:∀i,i<N→(ops.take N)[i]? =ops[i]?:=λi hi=>by rw[Y6,if_pos hi]
 have hsa:∀i,i<N→sp[i]? =some (Gf sp i):=λi hi=>by
  simp[Gf,Yf,Yc (show i<sp.length by omega)]
 have hspq:∀i,i<N→(D1 (UR sp) i)=⟨(Gf sp i).deps,(Gf sp i).r,0⟩:=λi hi=>by
  simp[D1,UR,Yf,YB,hsa i hi]
 have hals:∀j b,j<N→(sp.map (·.al.isSome)).getD j b=(Gf sp j).al.isSome:=λj b hj=>by simp[Yf,YB,hsa j hj]
 have hstos:∀j,j<N→(sp.map (·.sto)).getD j none=(Gf sp j).sto:=λj hj=>by simp[Yf,YB,hsa j hj]
 have hlates:∀j,j<N→(sp.map (·.late.map (·.1))).getD j none=(Gf sp j).late.map (·.1):=λj hj=>by simp[Yf,YB,hsa j hj]
 have S1:∀i o j,i<N→ops[i]? =some o→(Gf sp i).sto=some j→j<N∧j∈ED o∧(Gf sp j).al≠none∧(Gf sp i).al=none:=λi o j hi ho hs=>by
  have h1:=b4 i hi;rw[hstos i hi,hs] at h1;simp only[Ya,Yk,XU] at h1;obtain⟨⟨⟨h2,h3⟩,h4⟩,h5⟩:=h1;rw[hals j _ h2] at h4;rw[hals i _ hi] at h5;rw[Yf,ho,Yv,List.contains_iff_mem] at h3;exact⟨h2,h3,λe=>(by rw[e] at h4;cases h4),(by simpa using h5)⟩
 have L1:∀t q,t<N→(Gf sp t).late=some q→q.1<N∧(Gf sp q.1).sto=some t:=λt q ht hq=>by
  have h1:=b5 t ht;rw[hlates t ht,hq] at h1;simp only[Option.map_some,Ya,XU,beq_iff_eq] at h1;obtain⟨⟨h2,h3⟩,h4⟩:=h1;rw[hstos _ h2] at h4;exact⟨h2,h4⟩
 have hops:∀j,j<N→∃o,ops[j]? =some o:=λj hj=>⟨ops[j]'(by omega),Yc (by omega)⟩
 have lt_of:∀(t:Nat) (s:Sa),sp[t]? =some s→t<N∧s=Gf sp t:=λt s hs=>by
  have h1:t<N:=by have:=(List.getElem?_eq_some_iff.1 hs).1;omega
  refine⟨h1,?_⟩;rw[hsa t h1] at hs;simpa using hs.symm
 have hdst:∀i o d,i<N→ops[i]? =some o→o.dst=some d→(d<n∧d ∉ Gz l0)∧∀j,j<N→j≠i→DN ops j≠some d:=λi o d hi ho hd=>by
  have h3:=b2 i hi;have:DN ops i=some d:=by simp[DN,ho,hd]
  rw[this] at h3;simp only[Ya,Yk,Y3,List.mem_range,XU] at h3;refine⟨⟨h3.1.1,λhmem=>by rw[← List.contains_iff_mem] at hmem;rw[hmem] at h3;cases h3.1.2⟩,λj hj hne he=>?_⟩;have:=h3.2 j hj;simp[hne,he] at this
 refine VR (N:=N) hm b1 bN (λS a w=>∃ (β:Nat→Nat) (Z:Fz),St c (H++Gc S β sp 0) Z w∧Dc n l0 a Z∧(∀j o d,j<N→S j=true→ops[j]? =some o→o.dst=some d→∃v,a.tmps[d]? =some v∧(KD β (Gf sp j) j).p Z v)∧
   ∀k j,k<N→(Gf sp k).sto=some j→S k=true→S j=true)
  (λS S' a w hS hI=>?_) ⟨λ_=>0,Z,?_,ha.subL hl0,λj o d _ hS=>(by cases hS),λk j _ _ hS=>(by cases hS)⟩ (λS i o a w hi hun ho hb hI K hK=>?_) (λa w hI=>?_)
 ·obtain⟨β,Z,h1,h2,h3,h4⟩:=hI;refine⟨β,Z,?_,h2,λj o d hj hS'=>h3 j o d hj (by rw[hS j hj];exact hS'),λk j hk hs hSk=>?_⟩
  ·rw[← G2 (S:=S) (β:=β) (β':=β) sp 0 (λt s hs _=>by
    obtain⟨ht,rfl⟩:=lt_of t s hs;exact⟨hS _ (by omega),λ_=>⟨rfl,λq hq=>hS _ (L1 t q ht hq).1⟩⟩)]
   exact h1
  ·obtain⟨o,ho⟩:=hops k hk;rw[← hS j (S1 k o j hk ho hs).1];exact h4 k j hk hs (by rw[hS k hk];exact hSk)
 ·rw[ND,YA];exact hw.drawn _
 ·obtain⟨β,Z,h1,h2,h3,hx⟩:=hI;have hput:∀k u v,a.tmps[k]? =some u→o.dst≠some k→(a.put o.dst v).tmps[k]? =some u:=λk u v hk hne=>by
   cases hd:o.dst with
   | none=>simpa[Act.put] using hk
   | some d=>
    simp only[Act.put,Array.getElem?_setIfInBounds];rw[YJ (λe=>hne (by rw[hd,e]))];exact hk
  have hagr:∀v Z',Fz.le Z Z'→Dc n l0 (a.put o.dst v) Z':=λv Z' hz=>by
   refine⟨?_,?_,λk r hk=>?_⟩
   ·cases o.dst<;>simp[Act.put,h2.size]
   ·cases o.dst<;>simp[Act.put,h2.defers]
   ·obtain⟨u,hu,hpu⟩:=h2.tm k r hk;exact⟨u,hput k u v hu (λe=>((hdst i o k hi ho e).1).2 (M9 hk)),r.mono hz hpu⟩
  have hvals:∀(v:Value) (Z':Fz) (β':Nat→Nat),Fz.le Z Z'→(∀j,j≠i→β' j=β j)→(o.dst≠none→(KD β' (Gf sp i) i).p Z' v)→∀j o' d,j<N→(j ==i||S j)=true→ops[j]? =some o'→o'.dst=some d→∃u,(a.put o.dst v).tmps[d]? =some u∧(KD β' (Gf sp j) j).p Z' u:=by
   intro v Z' β' hz hβ hp j o' d hj hS' ho' hd
   by_cases hji:j=i
   ·subst hji;rw[ho] at ho';simp at ho';subst ho';refine⟨v,?_,hp (by simp[hd])⟩;have hdn:d<a.tmps.size:=by rw[h2.size];exact(hdst j o d hi ho hd).1.1
    simp[Act.put,hd,hdn]
   ·have hSj:S j=true:=by simpa[hji] using hS'
    obtain⟨u,hu,hpu⟩:=h3 j o' d hj hSj ho' hd;refine⟨u,hput d u v hu (λe=>(hdst i o d hi ho e).2 j hj hji (by simp[DN,ho',hd])),?_⟩;have:KD β' (Gf sp j) j=KD β (Gf sp j) j:=by unfold KD;rw[hβ j hji]
    rw[this];exact(KD β (Gf sp j) j).mono hz hpu
  have hx':∀k j,k<N→(Gf sp k).sto=some j→(k ==i||S k)=true→(j ==i||S j)=true:=λk j hk hs hSk=>by
   by_cases hki:k=i
   ·subst hki;have:=(hb j (S1 k o j hk ho hs).2.1).2;simp[this]
   ·have:S j=true:=hx k j hk hs (by simpa[hki] using hSk);simp[this]
  have hat:=hob.at i o (by rw[hget i hi];exact ho);rw[Y4] at hat;unfold WT at hat;have hag':Dc n (Cp ops (UR sp) (Gf sp i).deps l0) a Z:=LZ h2 (λj hj d hd=>by
    have h4:=b3 i hi j (by simpa[Yf,YB,hsa i hi] using hj);simp only[Ya,Yk,XU] at h4;obtain⟨⟨h5,h6⟩,h7⟩:=h4;rw[Yf,ho,Yv,List.contains_iff_mem] at h6;have hjal:(Gf sp j).al=none:=by
     rw[hals j _ h5] at h7;simpa using h7
    obtain⟨o2,ho2⟩:=hops j h5;obtain⟨v,hv1,hv2⟩:=h3 j o2 d h5 (hb j h6).2 ho2 (by simpa[DN,ho2] using hd);refine⟨v,hv1,?_⟩;rw[hspq j h5];simpa[KD,hjal] using hv2)
  cases hst:(Gf sp i).sto with
  | some j=>
   rw[hst] at hat;obtain⟨hod,d,p,ncs,hd,hal,hlate,hok⟩:=hat;obtain⟨hjN,hjb,_,hial⟩:=S1 i o j hi ho hst;have hSj:=(hb j hjb).2;obtain⟨H',p1,p2⟩:=PN (S:=S) (β:=β) (i:=i) (j:=j) (p:=p) (ncs:=ncs) sp 0 j (Gf sp j) (by omega) (hsa j hjN) hal hlate hSj hun (λt s q hs _ hq hne he=>by
     obtain⟨ht,rfl⟩:=lt_of t s hs;have:=(L1 t q ht hq).2;rw[he,hst] at this;simp at this;omega) (λt s hs hn he=>by
     obtain⟨ht,rfl⟩:=lt_of t s hs;rw[Y4] at he;subst he;exact hn hial)
   obtain⟨o2,ho2⟩:=hops j hjN;obtain⟨v,hv1,hv2⟩:=h3 j o2 d hjN hSj ho2 (by simpa[DN,ho2] using hd);have hag2:Dc n ((d,rv (.pointer (some ⟨β j,0,none⟩)))::Cp ops (UR sp) (Gf sp i).deps l0) a Z:=⟨hag'.size,hag'.defers,λk r hk=>by
    rw[C9] at hk
    split at hk
    ·rename_i e;subst e;simp at hk;subst hk
     exact⟨v,hv1,by simpa[KD,hal] using hv2⟩
    ·exact hag'.tm k r hk⟩
   refine hok (β j) (H++H') a w Z K hag2 (h1.perm ((List.Perm.append_left H p1).trans List.perm_middle)) (λv w' Z' hz _ hs'=>hK _ _ ⟨β,Z',?_,hagr v Z' hz,hvals v Z' β hz (λ_ _=>rfl) (λhne=>absurd hod hne),hx'⟩);exact hs'.perm (List.perm_middle.symm.trans (List.Perm.append_left H p2.symm))
  | none=>
   rw[hst] at hat;have latene:∀t q,t<N→(Gf sp t).late=some q→q.1≠i:=λt q ht hq he=>by
    have:=(L1 t q ht hq).2;rw[he,hst] at this;cases this
   cases hal:(Gf sp i).al with
   | none=>
    rw[hal] at hat;refine hat _ a w Z K hag' h1 (λv w' Z' hz hp hst'=>hK _ _ ⟨β,Z',?_,hagr v Z' hz,hvals v Z' β hz (λ_ _=>rfl) (λ_=>by unfold KD;rw[hal];exact hp),hx'⟩);rw[G2 (S':=S) (β':=β) sp 0 (λt s hs hn=>by
     obtain⟨ht,rfl⟩:=lt_of t s hs;have:t≠i:=λe=>by subst e;exact hn hal
     refine⟨by simp[this],λ_=>⟨rfl,λq hq=>?_⟩⟩;have:=latene t q ht hq;simp[this])]
    exact hst'
   | some p=>
    rw[hal] at hat;have key:=λK' hK'=>hat (H++Gc S β sp 0) a w Z K' h1 hK';have h5:∀b w',St c (.blk b p.1 p.2::(H++Gc S β sp 0)) Z w'→K (a.put o.dst (.pointer (some ⟨b,0,none⟩))) w':=λb w' hst'=>by
     refine hK _ _ ⟨λj=>if j=i then b else β j,Z,?_,hagr _ Z (Fz.le.refl _),hvals _ Z _ (Fz.le.refl _) (λj hj=>by simp[hj]) (λ_=>by simp[KD,hal,rv]),hx'⟩;have hp:=PO (S:=S) (β:=β) (i:=i) (b:=b) (p:=p) sp 0 i (Gf sp i) (by omega) (hsa i hi) hal hun (λt s q hs _ hq=>by
      obtain⟨ht,rfl⟩:=lt_of t s hs;exact latene t q ht hq) (λq hq=>by
       refine⟨?_,latene i q hi hq⟩
       cases hS:S q.1 with
       | false=>rfl
       | true=>
        obtain⟨h6,h7⟩:=L1 i q hi hq;have:=hx q.1 i h6 h7 hS;rw[this] at hun;cases hun)
     exact hst'.perm ((List.perm_middle.symm).trans (List.Perm.append_left H hp.symm))
    refine⟨λ_=>(key K h5).2,λhw'=>?_⟩;rw[(key K h5).1] at hw';cases hw'
 ·obtain⟨β,Z,h1,h2,h3,_⟩:=hI;refine h β a w Z (R2 h2 _ _ 0 (λt o s d ht hs hd=>?_)) (by rw[← PP];exact h1);obtain⟨htN,rfl⟩:=lt_of t s hs;rw[Y4];exact h3 t o d htN rfl (by rw[← hget t htN];exact ht) hd
end
section
variable {P : Program} {n : Nat} {c : Cx} {opsA : Array Oper} {Q : Exit → Act → World → Prop} {l l0 : Fr} {H : List Ent} {sp : List Sa}
theorem LG {id:Nat}{ops:List Oper}(N:Nat)(ks0:List Nat)(sp:List Sa)(hob:Lf P n c ops.toArray Q ops sp l0 H 0 (ops.take N))(h:∀β,WL P n c ops.toArray Q (ops.drop N) (Nb β (ops.take N) sp 0 l0) (H++S8 β sp 0))
  (h0:Kp ks0 l l0:=by repeat (first | exact P4 | (apply MD;rfl) | (apply Nn;rfl))) (hm:P.follows .mixedOrders=true:=by kernel_rfl) (hB:XD n ops N (Gz l0) (sp.map (·.deps)) (sp.map (·.al.isSome)) (sp.map (·.late.map (·.1))) (sp.map (·.sto))=true:=by kernel_rfl)
  (hsp:sp.length=N:=by rfl):WC P n c (.region id ops.toArray true) Q l H:=VS N sp hm hB h0.one hsp hob h
theorem N3 {all rest:List Oper}{d:Nat}{op:Op}{ty:TypeId}{pos:String}{af:Array Edge}{i:Nat}
  (hr:∀{H},Bz P n c (Cp all (UR sp) (Gf sp i).deps l0) H { dst:=some d,op:=op,type:=ty,pos:=pos,after:=af,guard:=none } (Gf sp i).r) (h:Lf P n c opsA Q all sp l0 H (i+1) rest) (ha:(Gf sp i).al=none:=by rfl) (hs:(Gf sp i).sto=none:=by rfl) :
  Lf P n c opsA Q all sp l0 H i ({ dst:=some d,op:=op,type:=ty,pos:=pos,after:=af,guard:=none }::rest):=by
 refine⟨?_,h⟩;unfold WT;rw[hs,ha];exact λ_=>Ve hr
theorem X3 {all rest:List Oper}{d:Nat}{op:Op}{ty:TypeId}{pos:String}{af:Array Edge}{i:Nat}
  (hr:∀{E},Bz P n c (Cp all (UR sp) (Gf sp i).deps l0) (H++E) { dst:=some d,op:=op,type:=ty,pos:=pos,after:=af,guard:=none } (Gf sp i).r) (h:Lf P n c opsA Q all sp l0 H (i+1) rest) (ha:(Gf sp i).al=none:=by rfl) (hs:(Gf sp i).sto=none:=by rfl) :
  Lf P n c opsA Q all sp l0 H i ({ dst:=some d,op:=op,type:=ty,pos:=pos,after:=af,guard:=none }::rest):=by
 refine⟨?_,h⟩;unfold WT;rw[hs,ha];exact λ_=>Ve hr
theorem X4 {all:List Oper}{i:Nat}:Lf P n c opsA Q all sp l0 H i []:=trivial
end
structure UD (ks:List Nat) (β:Nat→Nat) (os:List Oper) (sp:List Sa) (i:Nat) (l0 l1:Fr):Prop where
 go:Kp ks (Nb β os sp i l0) l1
section
variable {ks : List Nat} {β : Nat → Nat} {os : List Oper} {sp : List Sa} {i d : Nat} {l0 l1 : Fr} {ds : List Nat} {r : Rp} {p : List Rp × TypeId} {lt : Option (Nat × List Rp)} {so : Option Nat} {op : Op} {ty : TypeId} {pos : String} {af : Array Edge} {g : Option (Nat × Bool)}
theorem Xi (h:ks.contains d=true)(t:UD ks β os sp (i+1) l0 l1):UD ks β ({ dst:=some d,op:=op,type:=ty,pos:=pos,after:=af,guard:=g }::os) ({ deps:=ds,r:=r,sto:=so }::sp) i l0 ((d,r)::l1):=⟨MD h t.go⟩
theorem Xl (h:ks.contains d=true)(t:UD ks β os sp (i+1) l0 l1):UD ks β ({ dst:=some d,op:=op,type:=ty,pos:=pos,after:=af,guard:=g }::os) ({ deps:=ds,r:=r,al:=some p,late:=lt,sto:=so }::sp) i l0 ((d,rv (.pointer (some ⟨β i,0,none⟩)))::l1):=⟨MD h t.go⟩
theorem Xk {s:Sa}(h:ks.contains d=false)(t:UD ks β os sp (i+1) l0 l1):UD ks β ({ dst:=some d,op:=op,type:=ty,pos:=pos,after:=af,guard:=g }::os) (s::sp) i l0 l1:=⟨Nn h t.go⟩
theorem Xj {s:Sa}(t:UD ks β os sp (i+1) l0 l1):UD ks β ({ dst:=none,op:=op,type:=ty,pos:=pos,after:=af,guard:=g }::os) (s::sp) i l0 l1:=⟨t.go⟩
theorem Xm (t:Kp ks l0 l1):UD ks β [] [] i l0 l1:=⟨t⟩
theorem NP {P:Program}{n:Nat}{c:Cx}{opsA:Array Oper}{Q:Exit→Act→World→Prop}{rest:List Oper}{H H1:List Ent}(ks:List Nat)(h:WL P n c opsA Q rest l1 H1)
  (hz:UD ks β os sp i l0 l1:=by repeat (first | (apply Xi;rfl) | (apply Xl;rfl) | (apply Xk;rfl) | apply Xj | apply Xm | exact P4 | (apply MD;rfl) | (apply Nn;rfl))) (hH:H=H1:=by rfl) :
  WL P n c opsA Q rest (Nb β os sp i l0) H:=λa w Z ha hw=>h a w Z (ha.subL hz.go.one) (hH▸hw)
end
section
variable {P : Program} {n : Nat} {c : Cx} {opsA : Array Oper} {Q : Exit → Act → World → Prop} {l l0 : Fr} {H : List Ent} {sp : List Sa}
theorem X5 {all rest:List Oper}{o:Oper}{i:Nat}(hr:∀{E},E0 P n c opsA Q (Cp all (UR sp) (Gf sp i).deps l0) (H++E) o (Gf sp i).r (H++E))(h:Lf P n c opsA Q all sp l0 H (i+1) rest)(ha:(Gf sp i).al=none:=by rfl)(hs:(Gf sp i).sto=none:=by rfl):Lf P n c opsA Q all sp l0 H i (o::rest):=by
 refine⟨?_,h⟩;unfold WT;rw[hs,ha];exact λ_=>hr
end
def XM (p:Bool→Prop):Rp:=⟨λ_ v=>∃b,v = .bool b∧p b,λ_ h=>h,true,λ_ Z v ⟨b,e,_⟩=>by rw[e];rfl⟩
section
variable {P : Program} {n : Nat} {c : Cx} {ops : Array Oper} {Q : Exit → Act → World → Prop} {rest : List Oper} {l : Fr} {H : List Ent} {d : Option Nat} {ty rty t e : TypeId} {pos : String} {af : Array Edge} {g : Option (Nat × Bool)} {r : Rp} {x : Operand} {cx cy : Code} {sz : Nat} {xs : List (List Rp)}
theorem Te {o:Operand}{p:Bool→Prop}(ho:ev l o=some (XM p))(h1:p true→WC P n c cx Q l H)(h2:p false→WC P n c cy Q l H):WC P n c (.cond o cx cy) Q l H:=λa w Z ha hw=>by
 obtain⟨b,e,hp⟩:=ha.ev ho;exact wp_cond_split e (λe=>h1 (e▸hp) a w Z ha hw) (λe=>h2 (e▸hp) a w Z ha hw)
theorem Sh (ht:P.underlying t=some (.slice e))(h:ev l x=some (AD sz xs)):Bz P n c l H { dst:=d,op:=.binOp .eql t x (.const (.slice none 0 0)) rty,type:=ty,pos:=pos,after:=af,guard:=g } (XM (λb=>b=true→xs=[])):=λa w Z ha hw=>by
 obtain⟨A,cap,e1,h1,h2,h3,h4⟩:=ha.ev h;refine⟨.bool A.isNone,⟨_,rfl,λhb=>?_⟩,?_⟩
 ·cases A with
  | some a=>cases hb
  | none=>
   have:=h3 rfl;exact List.length_eq_zero_iff.1 (by omega)
 ·have:=run_equal_slice_nil (P:=P) w t e A xs.length cap ht;have e2:a.eval (.const (.slice none 0 0)) = .slice none 0 0:=rfl;simp[execOp,e1,e2,binOp,this,eqGuard]
end
set_option maxRecDepth 100000
set_option maxHeartbeats 4000000
theorem MF:∃inf,Tryz.prog.info? 28=some inf∧inf.zero=some (.slice none 0 0)∧inf.size=1∧inf.bytes=24:=by
  have key:(Tryz.prog.info? 28).map (λi=>(i.zero,i.size,i.bytes))=some (some (.slice none 0 0),1,24):=by kernel_rfl
  obtain⟨inf,h1,h2⟩:=Option.map_eq_some_iff.1 key;simp only[Prod.mk.injEq] at h2;exact⟨inf,h1,h2.1,h2.2.1,h2.2.2⟩
theorem MU (ys:(List Aa))(r:(List Aa))(h:J2 ys=some r):Fn Tryz.prog GE 92 [AD 4 (A1 Ab ys)] [] (λR H=>R=AD 4 (A1 Ab r)∧H=[]):=by
 refine enter (n:=8) Tryz.func92 rfl Tryz.ntmps92 rfl (λw Z=>?_);unfold J2 at h;refine Af (wa rfl (Ak (Am (Af (wm rfl (wv (Sh Bp rfl) (Ak (Te rfl (λc1=>?_) (λc1=>?_)))))))))
 ·have e2:ys=[]:=List.map_eq_nil_iff.1 (c1 rfl);have h3:some ([]:List Aa)=some r:=by rw[e2] at h;exact(Ur h).2
  refine Af (wa rfl (Ak (Ap (Ac (WK.up (d:=2) (r:=AD 4 (A1 Ab ([]:List Aa))) rfl (Up.le (DL.nil _)) ?_)))));obtain rfl:=An h3;exact Ao (Bq Tryz.results92 (A6 rfl)) sN ⟨rfl,rfl⟩
 ·refine Aq (AA (Af (AY (ys:=([]:List Aa)) (enc:=Ab) (css:=[]) (xs:=[]) Bp By GT rfl rfl rfl trivial rfl Bf rfl rfl rfl (λb4=>?_))));refine wm rfl (ck h λg6 h7=>Exists.elim G0 λinf hinf=>Cg (xs:=([]:List Aa)) (ys:=ys) (enc:=Ab) (i:=0) Bp hinf.1 hinf.2.1 hinf.2.2.1 hinf.2.2.2 rfl rfl rfl rfl rfl (K9.z rfl rfl) Bf Cy g6 rfl (λv5=>?_));refine wa rfl (Ak (Ap (WK.freeze (i:=0) rfl (WK.up (d:=2) (r:=AD 4 (A1 Ab (([]:List Aa)++ys))) rfl (Up.fact (i:=0) rfl) ?_))));obtain rfl:=An h7;exact Ao (Bq Tryz.results92 (A6 rfl)) (sS sN) ⟨rfl,rfl⟩
theorem Nw (ha:Nat)(hb:Value)(key:Au)(x:(List Aa))(out:(List (List Aa)))(r:Bool×(List (List Aa)))(h:LI key x out=some r):Fn Tryz.prog GE 91 [rS key,AD 4 (A1 Ab x),rP ha 0] [.blk ha [rv hb] 24,.row hb 28 1 (A1 Ae out)] (λR H=>∃w2_0:Value,R=rB r.1∧H=[.blk ha [rv w2_0] 24,.row w2_0 28 1 (A1 Ae r.2)]):=by
 refine enter (n:=11) Tryz.func91 rfl Tryz.ntmps91 rfl (λw Z=>?_);unfold LI at h;refine Af (wa rfl (Ak (Am (ob h λr1 e3 h2=>LG 4 [1,2] [⟨[],rv hb,none,none,none⟩,⟨[],AD 4 (A1 Ab x),none,none,none⟩,⟨[1],AD 4 (A1 Ab r1),none,none,none⟩,⟨[2],AD 1 (A1 Ae ([r1]:List (List Aa))),none,none,none⟩] ?_ (λβ=>?_)))))
 ·refine X3 (Bn (i:=0) Dd rfl rfl rfl) (N3 (A2 rfl) (X5 (C7 Tryz.call92 (MU x r1 e3) rfl) (X5 (GW (ys:=([r1]:List (List Aa))) (enc:=Ae) (css:=[[AD 4 (A1 Ab r1)]]) (xs:=[.tmp 8]) BX Cl Mb rfl rfl rfl ⟨E1.one rfl (Up.refl _),trivial⟩ rfl B5 rfl rfl) ?_)));exact X4
 refine NP (H1:=[.blk ha [rv hb] 24,.row hb 28 1 (A1 Ae out)]) [6,7,8,9,1,2] ?_;refine ck h2 λg5 h6=>Exists.elim MF λinf hinf=>Cg (xs:=out) (ys:=([r1]:List (List Aa))) (enc:=Ae) (i:=1) BX hinf.1 hinf.2.1 hinf.2.2.1 hinf.2.2.2 rfl rfl rfl rfl rfl (K9.z rfl rfl) B5 Dt g5 rfl (λv4=>?_);refine BA (i:=1) CN rfl rfl (CT (i:=0) rfl) rfl rfl (cs':=[rv v4]) rfl (H':=[.row v4 28 1 (A1 Ae (out++([r1]:List (List Aa)))),.blk ha [rv v4] 24]) rfl (Bb (wa rfl (Ak (Ap (CB (H2:=[.blk ha [rv v4] 24,.row v4 28 1 (A1 Ae (out++([r1]:List (List Aa))))]) ((A4 (i:=1) rfl).trans (XV _ (XT _))) ?_)))));obtain rfl:=An h6;exact Ao (Bq Tryz.results91 (A6 rfl)) (sC (sC sN)) ⟨v4,rfl,rfl⟩
theorem RI (F:Nat)(hb:Nat)(hm:Value)(v:(List Aa))(out:(List (List Aa)))(r:(List (List Aa)))(h:NU F v out=some r):Fn Tryz.prog GE 90 [AD 4 (A1 Ab v),rv (.func (.func 91) #[] #[(.pointer (some ⟨hb,0,none⟩))])] [.blk hb [rv hm] 24,.row hm 28 1 (A1 Ae out)] (λR H=>∃w1_0_0:Value,R=rv (.tuple #[])∧H=[.blk hb [rv w1_0_0] 24,.row w1_0_0 28 1 (A1 Ae r)]):=by
 refine enter (n:=52) Tryz.func90 rfl Tryz.ntmps90 rfl (λw Z=>?_);unfold NU at h;refine Af (wa rfl (Bb (wm rfl (ck h λg1 h2=>wv (AT (enc:=Ab) (ys:=v) Bp By rfl rfl g1) (wv (AK Bl rfl BB rfl rfl) (wv (AH BL rfl rfl) (wv (r:=Al 0) (A2 rfl) (Ak (A5 (ob h2 λh0 h1 hn=>Bc (S:=Nat×(Int×Int×(List (List Aa)))×(Value)) (V:=((List (List Aa)))×(Value)) 0 (λσ=>BP (λσ=>HP F v σ.1 σ.2.1 σ.2.2) σ.1 σ.2.1=some h0) (λσ=>[(0,AD 4 (A1 Ab v)),(1,rv (.func (.func 91) #[] #[(.pointer (some ⟨hb,0,none⟩))])),(4,Al σ.2.1.1),(12,Al ((Ay v 0).fN)),(13,Al σ.2.1.2.1)]) (λσ=>[.blk hb [rv σ.2.2] 24,.row σ.2.2 28 1 (A1 Ae σ.2.1.2.2)]) (λσ=>σ.1) (F,(1,0,out),hm) h1 (Az.c5 rfl rfl rfl rfl rfl Az.nil) (sC (sC sN)) (λσ=>HO σ.1=some r) (λσ=>[]) (λσ=>[.blk hb [rv σ.2] 24,.row σ.2 28 1 (A1 Ae σ.1)]) ?_ ?_))))))))))
 ·rintro⟨n171,⟨ha,hj,hh⟩,he⟩ h3;refine Bu (l':=[(0,AD 4 (A1 Ab v)),(1,rv (.func (.func 91) #[] #[(.pointer (some ⟨hb,0,none⟩))])),(4,Al ha),(12,Al ((Ay v 0).fN)),(13,Al hj)]) (H':=[.blk hb [rv he] 24,.row he 28 1 (A1 Ae hh)]) rfl rfl ?_;obtain⟨hr,rfl,h4,hk,hi⟩:=BK h3;replace hk:HP F v ha hj hh=some h4:=hk;unfold HP at hk;refine Af (wv (Cc rfl rfl) (Ak (Am (cz hk rfl (λh5 h6=>?_) (λh5 h7=>?_)))))
  ·refine Aq (AA (Am (A5 (Af (wv (r:=rS ([]:Au)) (AE rfl) (Ak (Am (Af (wm rfl (wv (AT (enc:=Ab) (ys:=v) Bp By rfl rfl g1) (wv (AK Bl rfl C8 rfl rfl) (wv (AH CF rfl rfl) (wv (Be rfl rfl) (Ak (cz h6 rfl (λh8 h9=>?_) (λh8 hA=>?_))))))))))))))))
   ·refine Af (wm rfl (wm rfl (ck h9 λhB hC=>wv (AT (enc:=Ab) (ys:=v) Bp By rfl rfl hB) (wv (AK Bl rfl CE rfl rfl) (wv (AH CI rfl rfl) (wa rfl (Ak (Aj (wm rfl (ck hC λhD hE=>wv (Bd rfl rfl hD) (wa rfl (Bb (wm rfl (wm rfl (ck hE λhG hH=>wv (r:=AD 4 (A1 Ab (List.drop (Bw (ha+1)) v))) (Ef Bp By rfl rfl hG) (ob hH λhf hI hJ=>BQ Qc (HN F (List.drop (Bw (ha+1)) v) hf hI) rfl (wm rfl (wv (A7 rfl rfl) (wv (A7 rfl rfl) ?_)))))))))))))))))));refine wv (A7 rfl rfl) (Cf (cs:=[Al 0,Al 0,rB false,rB false]) NL rfl rfl (λhs=>?_));refine wa rfl (Bj (i:=0) G4 rfl rfl rfl (BR.c rfl) rfl rfl (cs':=[Al hf.2.1.fDepth,Al hf.2.1.fBytes,rB hf.2.1.fOutside,rB hf.2.1.fLong]) rfl (H':=[.blk hs (AP hf.2.1) 86,.blk hb [rv he] 24,.row he 28 1 (A1 Ae hh)]) rfl (wa rfl (Ak (Am (Af (wm rfl (wm rfl (wm rfl (wm rfl (wm rfl (wm rfl (ck hJ λho hK=>wv (Bd rfl rfl ho) (wm rfl (wm rfl (wv (Bd rfl rfl ho) (ck hK λhL hN=>ck hN λhO hP=>wv (r:=AD 4 (A1 Ab (List.take (Bw ((ha+1)+hf.1)-Bw (ha+1)) (List.drop (Bw (ha+1)) v)))) (E6 Bp By rfl rfl rfl rfl hL hO) (ob hP λht hQ hR=>CQ (rs:=[rS ((Ay v ha).fStr),AD 4 (A1 Ab (List.take (Bw ((ha+1)+hf.1)-Bw (ha+1)) (List.drop (Bw (ha+1)) v)))]) (Hin:=[.blk hb [rv he] 24,.row he 28 1 (A1 Ae hh)]) (Hr:=[.blk hs (AP hf.2.1) 86]) Tryz.call91 rfl rfl ((A4 (i:=1) rfl).trans (XV _ ((A4 (i:=1) rfl).trans (XV _ (XT _))))) (Nw hb he ((Ay v ha).fStr) (List.take (Bw ((ha+1)+hf.1)-Bw (ha+1)) (List.drop (Bw (ha+1)) v)) hh ht hQ) rfl ?_)))))))))))))))));rintro _ _ ⟨hu,rfl,rfl⟩;refine wv (B4 rfl) (Ak (cz hR rfl (λhS hT=>?_) (λhS hU=>?_)))
    ·refine Ap (Ac (As (Ac (Ac (AO ?_)))));have hV:=Bg hT hi hn;refine As ?_;obtain rfl:=An hV;exact Ao (Oa NN) (sC (sC (sS sN))) ⟨hu,rfl,rfl⟩
    ·refine Aq (AA (Aj (wm rfl (wm rfl (wv (Bd rfl rfl ho) (wa rfl (Ai (A3 (AA (Aj (ck hU λhW hX=>wv (Bd rfl rfl hW) (wm rfl (Ai ?_)))))))))))));have hY:=AW hX hi;exact Av (Ar (hr,((ha+1)+hf.1,hj+1,ht.2),hu) ⟨hY,XX _⟩ (Az.c5 rfl rfl rfl rfl rfl Az.nil) (sC (sC (sS sN))))
   ·refine Aq (AA (Af (wm rfl (wm rfl (ck hA λhZ ga=>wv (r:=AD 4 (A1 Ab (List.drop (Bw ha) v))) (Ef Bp By rfl rfl hZ) (ob ga λhg gb gc=>BQ Qc (HN F (List.drop (Bw ha) v) hg gb) rfl (wm rfl (wv (A7 rfl rfl) (wv (A7 rfl rfl) (wv (A7 rfl rfl) (Cf (cs:=[Al 0,Al 0,rB false,rB false]) NL rfl rfl (λhw=>?_))))))))))));refine wa rfl (Bj (i:=0) G4 rfl rfl rfl (BR.c rfl) rfl rfl (cs':=[Al hg.2.1.fDepth,Al hg.2.1.fBytes,rB hg.2.1.fOutside,rB hg.2.1.fLong]) rfl (H':=[.blk hw (AP hg.2.1) 86,.blk hb [rv he] 24,.row he 28 1 (A1 Ae hh)]) rfl (wa rfl (Ak (Am (Af (wm rfl (wm rfl (wm rfl (wm rfl (wm rfl (wm rfl (ck gc λhp gd=>wv (Bd rfl rfl hp) (wm rfl (wm rfl (wv (Bd rfl rfl hp) (ck gd λge gf=>ck gf λgg gh=>wv (r:=AD 4 (A1 Ab (List.take (Bw (ha+hg.1)-Bw ha) (List.drop (Bw ha) v)))) (E6 Bp By rfl rfl rfl rfl ge gg) (ob gh λhx gi gj=>CQ (rs:=[rS ([]:Au),AD 4 (A1 Ab (List.take (Bw (ha+hg.1)-Bw ha) (List.drop (Bw ha) v)))]) (Hin:=[.blk hb [rv he] 24,.row he 28 1 (A1 Ae hh)]) (Hr:=[.blk hw (AP hg.2.1) 86]) Tryz.call91 rfl rfl ((A4 (i:=1) rfl).trans (XV _ ((A4 (i:=1) rfl).trans (XV _ (XT _))))) (Nw hb he ([]:Au) (List.take (Bw (ha+hg.1)-Bw ha) (List.drop (Bw ha) v)) hh hx gi) rfl ?_)))))))))))))))));rintro _ _ ⟨hy,rfl,rfl⟩;refine wv (B4 rfl) (Ak (cz gj rfl (λgl gm=>?_) (λgl gp=>?_)))
    ·refine Ap (Ac (As (Ac (Ac (AO ?_)))));have gq:=Bg gm hi hn;refine As ?_;obtain rfl:=An gq;exact Ao (Oa NN) (sC (sC (sS sN))) ⟨hy,rfl,rfl⟩
    ·refine Aq (AA (Aj (wm rfl (wm rfl (wv (Bd rfl rfl hp) (wa rfl (Ai (A3 (AA (Aj (ck gp λgr gs=>wv (Bd rfl rfl gr) (wm rfl (Ai ?_)))))))))))));have gt:=AW gs hi;exact Av (Ar (hr,(ha+hg.1,hj+1,hx.2),hy) ⟨gt,XX _⟩ (Az.c5 rfl rfl rfl rfl rfl Az.nil) (sC (sC (sS sN))))
  ·refine Bi (Aw ?_);have gu:=Bx h7 hi hn;exact Aw (AS (Ar (hh,he) gu Az.nil (sC (sC sN))))
 ·rintro⟨hz,hq⟩ hl;refine BS (l':=[]) (H':=[.blk hb [rv hq] 24,.row hq 28 1 (A1 Ae hz)]) rfl rfl ?_;replace hl:HO hz=some r:=hl;unfold HO at hl;refine AV ?_;obtain rfl:=An hl;exact E4 (Oa NN) (sC (sC sN)) ⟨hq,rfl,rfl⟩
theorem JK (F:Nat)(v:(List Aa))(r:(List (List Aa))×Int)(h:KC F v=some r):Fn Tryz.prog GE 56 [AD 4 (A1 Ab v)] [] (λR H=>R=Df [AD 1 (A1 Ae r.1),Al r.2]∧H=[]):=by
 refine enter (n:=27) Tryz.func56 rfl Tryz.ntmps56 rfl (λw Z=>?_);unfold KC at h;refine Af (wa rfl (wa rfl (Ak (Am (Af (wm rfl (ob h λr1 e3 h2=>BQ Nd (DT F v r1 e3) rfl (wa rfl (Bb (wm rfl (wv (Bk rfl rfl) (Ak (cz h2 rfl (λc4 h5=>?_) (λc4 h6=>?_))))))))))))))
 ·refine Af (wm rfl (wa rfl (wa rfl (Ak (Ap (Ac (WK.up (d:=2) (r:=AD 1 (A1 Ae ([]:List (List Aa)))) rfl (Up.le (DL.nil _)) ?_)))))));obtain rfl:=An h5;exact Ao (Du Tryz.results56 (A6 rfl) (A6 rfl)) sN ⟨rfl,rfl⟩
 ·refine Aq (AA (Am (ck h6 λg7 h8=>AC [(0,AD 4 (A1 Ab v)),(22,rB ((!decide (((Ay v 0).fKind)=5))&&(!decide (((Ay v 0).fKind)=6))))] [] ?_ ?_)))
  ·refine Aj (wm rfl (wv (AT (enc:=Ab) (ys:=v) Bp By rfl rfl g7) (wv (AK Bl rfl C8 rfl rfl) (wv (AH CF rfl rfl) (wv (Bk rfl rfl) (wm rfl (AN (!decide (((Ay v 0).fKind)=5)) (λc9=>?_) (λc9=>?_))))))))
   ·refine wo c9 (wm rfl (wo c9 (wv (AT (enc:=Ab) (ys:=v) Bp By rfl rfl g7) (wo c9 (wv (AK Bl rfl C8 rfl rfl) (wo c9 (wv (AH CF rfl rfl) (wo c9 (wv (Bk rfl rfl) (Ci rfl c9 rfl (Ai ?_)))))))))));exact BG c9
   ·refine wf c9 (wf c9 (wf c9 (wf c9 (wf c9 (wv (r:=rB false) (At rfl c9 rfl) (Ai ?_))))));exact BG c9
  refine cz h8 rfl (λhe hf=>?_) (λhe hg=>?_)
  ·refine Af (wa rfl (wa rfl (Ak (Ap (Ac (WK.up (d:=2) (r:=AD 1 (A1 Ae ([]:List (List Aa)))) rfl (Up.le (DL.nil _)) ?_))))));obtain rfl:=An hf;exact Ao (Du Tryz.results56 (A6 rfl) (A6 rfl)) sN ⟨rfl,rfl⟩
  ·refine Aq (AA (Af (Cf (cs:=[rv (.slice none 0 0)]) Tryz.zeroValue24 rfl rfl (λha=>?_))));refine Bb (wm rfl (wv (r:=rv (.func (.func 91) #[] #[(.pointer (some ⟨ha,0,none⟩))])) (BZ rfl) (WL.nilrow (e:=28) (sz:=1) (ob hg λhb hh hi=>DP (Hr:=[]) Tryz.call90 (RI F ha (.slice none 0 0                            ) v ([]:List (List Aa)) hb hh) rfl ((A4 (i:=1) rfl).trans (XV _ (XT _))) rfl ?_))));rintro _ _ ⟨hj,rfl,rfl⟩;refine Bb (vL 0 Dd rfl (wa rfl (wa rfl (Ak (Ap (WK.freeze (i:=1) rfl (WK.up (d:=2) (r:=AD 1 (A1 Ae hb)) rfl (Up.fact (i:=0) rfl) ?_)))))));obtain rfl:=An hi;exact Ao (Du Tryz.results56 (A6 rfl) (A6 rfl)) (sS (sS sN)) ⟨rfl,rfl⟩
end Go.Proofs.YtghdglcmblpbeaaGreatDoor.Q
namespace Go.Proofs.YtghdglcmblpbeaaGreatDoor
open Go
set_option linter.unusedVariables false
def I0 (k:Au)(x:(List Aa))(key:Au)(out:(List Aa)):Option (Bool×(List Aa)):=
 AR (decide (k=key)) (Bh (J2 x) λr3=>AX (decide (0<r3.length))<|some (!decide (k=key),r3)) (some (!decide (k=key),out))
def Iz (F:Nat)(v:(List Aa))(key:Au)(ha:Int)(hb:Int)(hg:(List Aa)):Option (Stp (Int×Int×(List Aa)) (Out ((List Aa)) ((List Aa)))):=
 AR (decide (hb<((Ay v 0).fN))) (AR (decide (((Ay v 0).fKind)=6)) (AX (C0 ha (v.length:Int))<|AX (BF .i64 (ha+1))<|AX (ES (ha+1) (v.length:Int))<|Bh (E3 F (List.drop (Int.toNat (ha+1)) v)) λhe=>AX (BF .i64 ((ha+1)+he.1))<|AX (ES (ha+1) ((ha+1)+he.1))<|AX (ES ((ha+1)+he.1) (v.length:Int))<|Bh (I0 ((Ay v ha).fStr) (List.take (Int.toNat ((ha+1)+he.1)-Int.toNat (ha+1)) (List.drop (Int.toNat (ha+1)) v)) key hg) λhh=>AR (!hh.1) (some (.out (.ret hh.2))) (AX (BF .i64 (hb+1))<|some (.next ((ha+1)+he.1,hb+1,hh.2)))) (AX (ES ha (v.length:Int))<|Bh (E3 F (List.drop (Int.toNat ha) v)) λhf=>AX (BF .i64 (ha+hf.1))<|AX (ES ha (ha+hf.1))<|AX (ES (ha+hf.1) (v.length:Int))<|Bh (I0 ([]:Au) (List.take (Int.toNat (ha+hf.1)-Int.toNat ha) (List.drop (Int.toNat ha) v)) key hg) λhi=>AR (!hi.1) (some (.out (.ret hi.2))) (AX (BF .i64 (hb+1))<|some (.next (ha+hf.1,hb+1,hi.2))))) (some (.out (.go hg)))
def JL (ha:(List Aa)):Option ((List Aa)):=
 some ha
def OW (F:Nat)(v:(List Aa))(key:Au)(out:(List Aa)):Option ((List Aa)):=
 AX (C0 0 (v.length:Int))<|Bh (BP (λσ=>Iz F v key σ.1 σ.2.1 σ.2.2) F (1,0,out)) (BI λν=>JL ν)
def Tl (F:Nat)(v:(List Aa))(key:Au):Option ((List Aa)×Int):=
 Bh (Dp F v) λr2=>AR (!decide (r2=0)) (some (([]:List Aa),r2)) (AX (C0 0 (v.length:Int))<|AR (!decide (((Ay v 0).fKind)=6)) (some (([]:List Aa),7)) (Bh (OW F v key ([]:List Aa)) λha=>AR (List.isEmpty ha) (some (([]:List Aa),5)) (some (ha,0))))
def Ep (F:Nat)(path:(List Au))(he:(List Aa))(ha:Int):Option (Stp ((List Aa)×Int) (Out ((List Aa)×Int) ((List Aa)))):=
 AR (decide (ha<(path.length:Int))) (AX (C0 ha (path.length:Int))<|Bh (Tl F he (Ay path ha)) λhb=>AR (!decide (hb.2=0)) (some (.out (.ret (([]:List Aa),hb.2)))) (AX (BF .i64 (ha+1))<|some (.next (hb.1,ha+1)))) (some (.out (.go he)))
def Iy (ha:(List Aa)):Option ((List Aa)×Int):=
 some (ha,0)
def OU (F:Nat)(v:(List Aa))(path:(List Au)):Option ((List Aa)×Int):=
 Bh (Dp F v) λr1=>AR (!decide (r1=0)) (some (([]:List Aa),r1)) (Bh (J2 v) λr7=>Bh (BP (λσ=>Ep F path σ.1 σ.2) F (r7,0)) (BI λν=>Iy ν))
def Eu (v:(List Aa))(b:Int)(hb:(List Aa))(ha:Int):Option (Stp ((List Aa)×Int) (Out ((List Aa)) ((List Aa)))):=
 AR (decide (ha<b)) (AX (C0 ha (v.length:Int))<|AX (E7 40 (hb.length+([(Ay v ha)]:List Aa).length))<|AX (BF .i64 (ha+1))<|some (.next (hb++([(Ay v ha)]:List Aa),ha+1))) (some (.out (.go hb)))
def Hn (ha:(List Aa)):Option ((List Aa)):=
 some ha
def JS (F:Nat)(v:(List Aa))(a:Int)(b:Int):Option ((List Aa)):=
 Bh (BP (λσ=>Eu v b σ.1 σ.2) F (([]:List Aa),a)) (BI λν=>Hn ν)
def DF (F:Nat)(v:(List Aa))(ha:(List (List Aa)))(hb:Int)(he:Int):Option (Stp ((List (List Aa))×Int×Int) (Out ((List (List Aa))×Int) ((List (List Aa))))):=
 AR (decide (he<((Ay v 0).fN))) (AR (decide (((Ay v 0).fKind)=6)) (AX (BF .i64 (hb+1))<|Bh (Db F v (hb+1)) λhf=>Bh (JS F v (hb+1) hf) λhg=>AX (E7 24 (ha.length+([hg]:List (List Aa)).length))<|AX (BF .i64 (he+1))<|some (.next (ha++([hg]:List (List Aa)),hf,he+1))) (Bh (Db F v hb) λhh=>Bh (JS F v hb hh) λhi=>AX (E7 24 (ha.length+([hi]:List (List Aa)).length))<|AX (BF .i64 (he+1))<|some (.next (ha++([hi]:List (List Aa)),hh,he+1)))) (some (.out (.go ha)))
def IV (ha:(List (List Aa))):Option ((List (List Aa))×Int):=
 some (ha,0)
def Mz (F:Nat)(v:(List Aa)):Option ((List (List Aa))×Int):=
 Bh (D8 F v) λr1=>AR (!decide (r1=0)) (some (([]:List (List Aa)),r1)) (AX (C0 0 (v.length:Int))<|AR (((!decide (((Ay v 0).fKind)=5))&&(!decide (((Ay v 0).fKind)=6)))) (some (([]:List (List Aa)),7)) (Bh (BP (λσ=>DF F v σ.1 σ.2.1 σ.2.2) F (([]:List (List Aa)),1,0)) (BI λν=>IV ν)))
def Ev (F:Nat)(v:(List Aa))(hb:(List Au))(ha:Int)(he:Int):Option (Stp ((List Au)×Int×Int) (Out ((List Au)×Int) ((List Au)))):=
 AR (decide (he<((Ay v 0).fN))) (AX (C0 ha (v.length:Int))<|AX (E7 16 (hb.length+([(Ay v ha).fStr]:List Au).length))<|AX (BF .i64 (ha+1))<|Bh (Db F v (ha+1)) λhf=>AX (BF .i64 (he+1))<|some (.next (hb++([(Ay v ha).fStr]:List Au),hf,he+1))) (some (.out (.go hb)))
def JU (ha:(List Au)):Option ((List Au)×Int):=
 some (ha,0)
def Pj (F:Nat)(v:(List Aa)):Option ((List Au)×Int):=
 Bh (D8 F v) λr1=>AR (!decide (r1=0)) (some (([]:List Au),r1)) (AX (C0 0 (v.length:Int))<|AR (!decide (((Ay v 0).fKind)=6)) (some (([]:List Au),7)) (Bh (BP (λσ=>Ev F v σ.1 σ.2.1 σ.2.2) F (([]:List Au),1,0)) (BI λν=>JU ν)))
def GH (key:Au)(r1:(List Au)×Int)(r7:(List (List Aa))×Int)(ha:Int):Option (Stp (Int) (Out ((List Aa)×Int) (Unit))):=
 AR (decide (ha<(r1.1.length:Int))) (AX (C0 ha (r1.1.length:Int))<|AR (decide ((Ay r1.1 ha)=key)) (AX (C0 ha (r7.1.length:Int))<|some (.out (.ret (Ay r7.1 ha,0)))) (AX (BF .i64 (ha+1))<|some (.next (ha+1)))) (some (.out (.go ())))
def LN :Option ((List Aa)×Int):=
 some (([]:List Aa),5)
def T3 (F:Nat)(v:(List Aa))(key:Au):Option ((List Aa)×Int):=
 Bh (Pj F v) λr1=>AR (!decide (r1.2=0)) (some (([]:List Aa),r1.2)) (Bh (Mz F v) λr7=>Bh (BP (λσ=>GH key r1 r7 σ) F 0) (BI λν=>LN ))
def Et (F:Nat)(path:(List Au))(hf:Int)(he:(List Aa))(ha:Int):Option (Stp (Int×(List Aa)×Int) (Out ((List Aa)×Int) ((List Aa)))):=
 AR (decide (ha<(path.length:Int))) (AX (C0 ha (path.length:Int))<|Bh (T3 F he (Ay path ha)) λhb=>AR (!decide (hb.2=0)) (some (.out (.ret (([]:List Aa),hb.2)))) (AX (BF .i64 (ha+1))<|some (.next (hb.2,hb.1,ha+1)))) (some (.out (.go he)))
def I5 (ha:(List Aa)):Option ((List Aa)×Int):=
 some (ha,0)
def Pf (F:Nat)(v:(List Aa))(path:(List Au)):Option ((List Aa)×Int):=
 Bh (D8 F v) λr1=>AR (!decide (r1=0)) (some (([]:List Aa),r1)) (Bh (JS F v 0 (v.length:Int)) λr7=>Bh (BP (λσ=>Et F path σ.1 σ.2.1 σ.2.2) F (r1,r7,0)) (BI λν=>I5 ν))
end Go.Proofs.YtghdglcmblpbeaaGreatDoor
namespace Go.Proofs.YtghdglcmblpbeaaGreatDoor.Q
open Go Go.RowKit
set_option linter.unusedVariables false
def N1 (sz:Nat)(xs:List (List Rp)):Rp:=⟨λZ v=>OE sz xs Z v∧(xs=[]→v = .slice none 0 0),λh ⟨a,b⟩=>⟨OE.mono h a,b⟩,true,λ_ Z v ⟨⟨A,cap,e,_⟩,_⟩=>by rw[e];rfl⟩
theorem DL.sn {sz:Nat}{xs:List (List Rp)}:DL (N1 sz xs) (AD sz xs):=λ_ _ h=>h.1
theorem DL.niln (sz:Nat):DL (rv (.slice none 0 0)) (N1 sz []):=λZ v h=>by rw[show v=_ from h];exact⟨OE.nil sz Z,λ_=>rfl⟩
theorem DL.upn {T:Type}{sz:Nat}{enc:T→List Rp}{ys:List T}(h:decide (0<ys.length)=true):DL (AD sz (List.map enc ys)) (N1 sz (List.map enc ys)):=λZ v hv=>⟨hv,λe=>by
 have:=Yq h;rw[List.map_eq_nil_iff.1 e] at this;exact absurd this (by simp)⟩
section
variable {P : Program} {n : Nat} {c : Cx} {l : Fr} {H : List Ent} {d : Option Nat} {ty rty t e : TypeId} {pos : String} {af : Array Edge} {g : Option (Nat × Bool)} {x : Operand} {sz : Nat}
theorem Qw {T:Type}{enc:T→List Rp}{ys:List T}(ht:P.underlying t=some (.slice e))(h:ev l x=some (N1 sz (List.map enc ys))):Bz P n c l H { dst:=d,op:=.binOp .eql t x (.const (.slice none 0 0)) rty,type:=ty,pos:=pos,after:=af,guard:=g } (rB (List.isEmpty ys)):=λa w Z ha hw=>by
 obtain⟨⟨A,cap,e1,h1,h2,h3,h4⟩,h5⟩:=ha.ev h;have e2:a.eval (.const (.slice none 0 0)) = .slice none 0 0:=rfl;refine⟨.bool A.isNone,?_,?_⟩
 ·show Value.bool A.isNone = .bool ys.isEmpty
  cases ys with
  | nil=>
   have:=h5 rfl;rw[e1] at this
   cases this;rfl
  | cons y r=>
   cases A with
   | some a=>rfl
   | none=>
    have:=h3 rfl;simp only[Yi,XZ] at h1;omega
 ·have:=run_equal_slice_nil (P:=P) w t e A (List.map enc ys).length cap ht;simp only[Yi] at this;simp[execOp,e1,e2,binOp,this,eqGuard]
end
set_option linter.unusedSimpArgs false
set_option maxRecDepth 100000
set_option maxHeartbeats 4000000
theorem VM:∃inf,Tryz.prog.info? 9=some inf∧inf.zero=some (.string ⟨#[]⟩)∧inf.size=1∧inf.bytes=16:=by
  have key:(Tryz.prog.info? 9).map (λi=>(i.zero,i.size,i.bytes))=some (some (.string ⟨#[]⟩),1,16):=by kernel_rfl
  obtain⟨inf,h1,h2⟩:=Option.map_eq_some_iff.1 key;simp only[Prod.mk.injEq] at h2;exact⟨inf,h1,h2.1,h2.2.1,h2.2.2⟩
theorem QY (ha:Nat)(hb:Nat)(k:Au)(x:(List Aa))(key:Au)(out:(List Aa))(r:Bool×(List Aa))(h:I0 k x key out=some r):Fn Tryz.prog GE 140 [rS k,AD 4 (A1 Ab x),rP ha 0,rP hb 0] [.blk ha [rS key] 9,.blk hb [N1 4 (A1 Ab out)] 28] (λR H=>R=rB r.1∧H=[.blk ha [rS key] 9,.blk hb [N1 4 (A1 Ab r.2)] 28]):=by
 refine enter (n:=15) Tryz.func140 rfl Tryz.ntmps140 rfl (λw Z=>?_);unfold I0 at h;refine Af (wa rfl (Ak (Am (Af (wm rfl (vL 0 CI rfl (wv (DM rfl rfl) (Ak (cz h rfl (λc1 h2=>?_) (λc1 h8=>?_))))))))))
 ·refine Aj (wm rfl (ob h2 λr3 e5 h4=>BQ Tryz.call92 (MU x r3 e5) rfl (ck h4 λg6 h7=>WL.up (d:=11) (r:=N1 4 (A1 Ab r3)) rfl (Up.le (DL.upn g6)) (BA (i:=1) Cl rfl rfl (BO rfl) rfl rfl (cs':=[N1 4 (A1 Ab r3)]) rfl (H':=[.blk ha [rS key] 9,.blk hb [N1 4 (A1 Ab r3)] 28]) rfl (Bb (wm rfl (vL 0 CI rfl (wv (EJ rfl rfl) (wa rfl (Ak (Ap ?_)))))))))));obtain rfl:=An h7;exact Ao (Bq Tryz.results140 (A6 rfl)) (sC (sC sN)) ⟨rfl,rfl⟩
 ·refine Aq (AA (Af (wm rfl (vL 0 CI rfl (wv (EJ rfl rfl) (wa rfl (Ak (Ap ?_))))))));obtain rfl:=An h8;exact Ao (Bq Tryz.results140 (A6 rfl)) (sC (sC sN)) ⟨rfl,rfl⟩
theorem UQ (F:Nat)(hb:Nat)(he:Nat)(v:(List Aa))(key:Au)(out:(List Aa))(r:(List Aa))(h:OW F v key out=some r):Fn Tryz.prog GE 90 [AD 4 (A1 Ab v),rv (.func (.func 140) #[] #[(.pointer (some ⟨hb,0,none⟩)),(.pointer (some ⟨he,0,none⟩))])] [.blk hb [rS key] 9,.blk he [N1 4 (A1 Ab out)] 28] (λR H=>R=rv (.tuple #[])∧H=[.blk hb [rS key] 9,.blk he [N1 4 (A1 Ab r)] 28]):=by
 refine enter (n:=52) Tryz.func90 rfl Tryz.ntmps90 rfl (λw Z=>?_);unfold OW at h;refine Af (wa rfl (Bb (wm rfl (ck h λg1 h2=>wv (AT (enc:=Ab) (ys:=v) Bp By rfl rfl g1) (wv (AK Bl rfl BB rfl rfl) (wv (AH BL rfl rfl) (wv (r:=Al 0) (A2 rfl) (Ak (A5 (ob h2 λhw hx hm=>Bc (S:=Nat×(Int×Int×(List Aa))×(Unit)) (V:=((List Aa))×(Unit)) 0 (λσ=>BP (λσ=>Iz F v key σ.1 σ.2.1 σ.2.2) σ.1 σ.2.1=some hw) (λσ=>[(0,AD 4 (A1 Ab v)),(1,rv (.func (.func 140) #[] #[(.pointer (some ⟨hb,0,none⟩)),(.pointer (some ⟨he,0,none⟩))])),(4,Al σ.2.1.1),(12,Al ((Ay v 0).fN)),(13,Al σ.2.1.2.1)]) (λσ=>[.blk hb [rS key] 9,.blk he [N1 4 (A1 Ab σ.2.1.2.2)] 28]) (λσ=>σ.1) (F,(1,0,out),()) hx (Az.c5 rfl rfl rfl rfl rfl Az.nil) (sC (sC sN)) (λσ=>JL σ.1=some r) (λσ=>[]) (λσ=>[.blk hb [rS key] 9,.blk he [N1 4 (A1 Ab σ.1)] 28]) ?_ ?_))))))))))
 ·rintro⟨gr,⟨ha,hj,hh⟩,⟨⟩⟩ hy;refine Bu (l':=[(0,AD 4 (A1 Ab v)),(1,rv (.func (.func 140) #[] #[(.pointer (some ⟨hb,0,none⟩)),(.pointer (some ⟨he,0,none⟩))])),(4,Al ha),(12,Al ((Ay v 0).fN)),(13,Al hj)]) (H':=[.blk hb [rS key] 9,.blk he [N1 4 (A1 Ab hh)] 28]) rfl rfl ?_;obtain⟨hp,rfl,hz,hk,hi⟩:=BK hy;replace hk:Iz F v key ha hj hh=some hz:=hk;unfold Iz at hk;refine Af (wv (Cc rfl rfl) (Ak (Am (cz hk rfl (λh0 h1=>?_) (λh0 h3=>?_)))))
  ·refine Aq (AA (Am (A5 (Af (wv (r:=rS ([]:Au)) (AE rfl) (Ak (Am (Af (wm rfl (wv (AT (enc:=Ab) (ys:=v) Bp By rfl rfl g1) (wv (AK Bl rfl C8 rfl rfl) (wv (AH CF rfl rfl) (wv (Be rfl rfl) (Ak (cz h1 rfl (λh4 h5=>?_) (λh4 h6=>?_))))))))))))))))
   ·refine Af (wm rfl (wm rfl (ck h5 λh7 h8=>wv (AT (enc:=Ab) (ys:=v) Bp By rfl rfl h7) (wv (AK Bl rfl CE rfl rfl) (wv (AH CI rfl rfl) (wa rfl (Ak (Aj (wm rfl (ck h8 λh9 hA=>wv (Bd rfl rfl h9) (wa rfl (Bb (wm rfl (wm rfl (ck hA λhB hC=>wv (r:=AD 4 (A1 Ab (List.drop (Bw (ha+1)) v))) (Ef Bp By rfl rfl hB) (ob hC λhf hD hE=>BQ Qc (HN F (List.drop (Bw (ha+1)) v) hf hD) rfl (wm rfl (wv (A7 rfl rfl) (wv (A7 rfl rfl) ?_)))))))))))))))))));refine wv (A7 rfl rfl) (Cf (cs:=[Al 0,Al 0,rB false,rB false]) NL rfl rfl (λhq=>?_));refine wa rfl (Bj (i:=0) G4 rfl rfl rfl (BR.c rfl) rfl rfl (cs':=[Al hf.2.1.fDepth,Al hf.2.1.fBytes,rB hf.2.1.fOutside,rB hf.2.1.fLong]) rfl (H':=[.blk hq (AP hf.2.1) 86,.blk hb [rS key] 9,.blk he [N1 4 (A1 Ab hh)] 28]) rfl (wa rfl (Ak (Am (Af (wm rfl (wm rfl (wm rfl (wm rfl (wm rfl (wm rfl (ck hE λhn hG=>wv (Bd rfl rfl hn) (wm rfl (wm rfl (wv (Bd rfl rfl hn) (ck hG λhH hI=>ck hI λhJ hK=>wv (r:=AD 4 (A1 Ab (List.take (Bw ((ha+1)+hf.1)-Bw (ha+1)) (List.drop (Bw (ha+1)) v)))) (E6 Bp By rfl rfl rfl rfl hH hJ) (ob hK λhr hL hN=>CQ (rs:=[rS ((Ay v ha).fStr),AD 4 (A1 Ab (List.take (Bw ((ha+1)+hf.1)-Bw (ha+1)) (List.drop (Bw (ha+1)) v)))]) (Hin:=[.blk hb [rS key] 9,.blk he [N1 4 (A1 Ab hh)] 28]) (Hr:=[.blk hq (AP hf.2.1) 86]) Tryz.call140 rfl rfl ((A4 (i:=1) rfl).trans (XV _ ((A4 (i:=1) rfl).trans (XV _ (XT _))))) (QY hb he ((Ay v ha).fStr) (List.take (Bw ((ha+1)+hf.1)-Bw (ha+1)) (List.drop (Bw (ha+1)) v)) key hh hr hL) rfl ?_)))))))))))))))));rintro _ _ ⟨rfl,rfl⟩;refine wv (B4 rfl) (Ak (cz hN rfl (λhO hP=>?_) (λhO hQ=>?_)))
    ·refine Ap (Ac (As (Ac (Ac (AO ?_)))));have hR:=Bg hP hi hm;refine As ?_;obtain rfl:=An hR;exact Ao (Oa NN) (sC (sC (sS sN))) ⟨rfl,rfl⟩
    ·refine Aq (AA (Aj (wm rfl (wm rfl (wv (Bd rfl rfl hn) (wa rfl (Ai (A3 (AA (Aj (ck hQ λhS hT=>wv (Bd rfl rfl hS) (wm rfl (Ai ?_)))))))))))));have hU:=AW hT hi;exact Av (Ar (hp,((ha+1)+hf.1,hj+1,hr.2),()) ⟨hU,XX _⟩ (Az.c5 rfl rfl rfl rfl rfl Az.nil) (sC (sC (sS sN))))
   ·refine Aq (AA (Af (wm rfl (wm rfl (ck h6 λhV hW=>wv (r:=AD 4 (A1 Ab (List.drop (Bw ha) v))) (Ef Bp By rfl rfl hV) (ob hW λhg hX hY=>BQ Qc (HN F (List.drop (Bw ha) v) hg hX) rfl (wm rfl (wv (A7 rfl rfl) (wv (A7 rfl rfl) (wv (A7 rfl rfl) (Cf (cs:=[Al 0,Al 0,rB false,rB false]) NL rfl rfl (λhs=>?_))))))))))));refine wa rfl (Bj (i:=0) G4 rfl rfl rfl (BR.c rfl) rfl rfl (cs':=[Al hg.2.1.fDepth,Al hg.2.1.fBytes,rB hg.2.1.fOutside,rB hg.2.1.fLong]) rfl (H':=[.blk hs (AP hg.2.1) 86,.blk hb [rS key] 9,.blk he [N1 4 (A1 Ab hh)] 28]) rfl (wa rfl (Ak (Am (Af (wm rfl (wm rfl (wm rfl (wm rfl (wm rfl (wm rfl (ck hY λho hZ=>wv (Bd rfl rfl ho) (wm rfl (wm rfl (wv (Bd rfl rfl ho) (ck hZ λga gb=>ck gb λgc gd=>wv (r:=AD 4 (A1 Ab (List.take (Bw (ha+hg.1)-Bw ha) (List.drop (Bw ha) v)))) (E6 Bp By rfl rfl rfl rfl ga gc) (ob gd λht ge gf=>CQ (rs:=[rS ([]:Au),AD 4 (A1 Ab (List.take (Bw (ha+hg.1)-Bw ha) (List.drop (Bw ha) v)))]) (Hin:=[.blk hb [rS key] 9,.blk he [N1 4 (A1 Ab hh)] 28]) (Hr:=[.blk hs (AP hg.2.1) 86]) Tryz.call140 rfl rfl ((A4 (i:=1) rfl).trans (XV _ ((A4 (i:=1) rfl).trans (XV _ (XT _))))) (QY hb he ([]:Au) (List.take (Bw (ha+hg.1)-Bw ha) (List.drop (Bw ha) v)) key hh ht ge) rfl ?_)))))))))))))))));rintro _ _ ⟨rfl,rfl⟩;refine wv (B4 rfl) (Ak (cz gf rfl (λgg gh=>?_) (λgg gi=>?_)))
    ·refine Ap (Ac (As (Ac (Ac (AO ?_)))));have gj:=Bg gh hi hm;refine As ?_;obtain rfl:=An gj;exact Ao (Oa NN) (sC (sC (sS sN))) ⟨rfl,rfl⟩
    ·refine Aq (AA (Aj (wm rfl (wm rfl (wv (Bd rfl rfl ho) (wa rfl (Ai (A3 (AA (Aj (ck gi λgl gm=>wv (Bd rfl rfl gl) (wm rfl (Ai ?_)))))))))))));have gp:=AW gm hi;exact Av (Ar (hp,(ha+hg.1,hj+1,ht.2),()) ⟨gp,XX _⟩ (Az.c5 rfl rfl rfl rfl rfl Az.nil) (sC (sC (sS sN))))
  ·refine Bi (Aw ?_);have gq:=Bx h3 hi hm;exact Aw (AS (Ar (hh,()) gq Az.nil (sC (sC sN))))
 ·rintro⟨hu,⟨⟩⟩ hl;refine BS (l':=[]) (H':=[.blk hb [rS key] 9,.blk he [N1 4 (A1 Ab hu)] 28]) rfl rfl ?_;replace hl:JL hu=some r:=hl;unfold JL at hl;refine AV ?_;obtain rfl:=An hl;exact E4 (Oa NN) (sC (sC sN)) ⟨rfl,rfl⟩
theorem VT (F:Nat)(v:(List Aa))(key:Au)(r:(List Aa)×Int)(h:Tl F v key=some r):Fn Tryz.prog GE 107 [AD 4 (A1 Ab v),rS key] [] (λR H=>R=Df [AD 4 (A1 Ab r.1),Al r.2]∧H=[]):=by
 refine enter (n:=24) Tryz.func107 rfl Tryz.ntmps107 rfl (λw Z=>?_);unfold Tl at h;refine Af (Lq rfl (BO rfl) rfl (λb1=>?_));refine wa rfl (wa rfl (Ak (Am (Af (wm rfl (ob h λr2 e4 h3=>BQ Nd (DT F v r2 e4) rfl (wa rfl (Bb (wm rfl (wv (Bk rfl rfl) (Ak (cz h3 rfl (λc5 h6=>?_) (λc5 h7=>?_)))))))))))))
 ·refine Af (wm rfl (wa rfl (wa rfl (Ak (Ap (Ac (WK.up (d:=4) (r:=AD 4 (A1 Ab ([]:List Aa))) rfl (Up.le (DL.nil _)) ?_)))))));obtain rfl:=An h6;exact Ao (Du QT (A6 rfl) (A6 rfl)) (sS sN) ⟨rfl,rfl⟩
 ·refine Aq (AA (Am (Af (wm rfl (ck h7 λg8 h9=>wv (AT (enc:=Ab) (ys:=v) Bp By rfl rfl g8) (wv (AK Bl rfl C8 rfl rfl) (wv (AH CF rfl rfl) (wv (Bk rfl rfl) (Ak (cz h9 rfl (λhe hf=>?_) (λhe hg=>?_)))))))))))
  ·refine Af (wa rfl (wa rfl (Ak (Ap (Ac (WK.up (d:=4) (r:=AD 4 (A1 Ab ([]:List Aa))) rfl (Up.le (DL.nil _)) ?_))))));obtain rfl:=An hf;exact Ao (Du QT (A6 rfl) (A6 rfl)) (sS sN) ⟨rfl,rfl⟩
  ·refine Aq (AA (Af (Cf (cs:=[rv (.slice none 0 0)]) Mb rfl rfl (λhb=>?_))));refine Bb (wm rfl (wv (r:=rv (.func (.func 140) #[] #[(.pointer (some ⟨b1,0,none⟩)),(.pointer (some ⟨hb,0,none⟩))])) (BZ rfl) (WL.upBlk (i:=0) (cs':=[N1 4 (A1 Ab ([]:List Aa))]) rfl ⟨Up.le (DL.niln _),trivial⟩ (ob hg λha hh hi=>DP (Hr:=[]) Tryz.call90 (UQ F b1 hb v key ([]:List Aa) ha hh) rfl ((A4 (i:=1) rfl).trans (XV _ (XT _))) rfl ?_))));rintro _ _ ⟨rfl,rfl⟩;refine Ak (Am (Af (vL 1 CX rfl (wv (r:=rB (List.isEmpty ha)) (Qw Bp rfl) (Ak (cz hi rfl (λhj hk=>?_) (λhj hl=>?_)))))))
   ·refine Af (wa rfl (wa rfl (Ak (Ap (Ac (WK.up (d:=4) (r:=AD 4 (A1 Ab ([]:List Aa))) rfl (Up.le (DL.nil _)) ?_))))));obtain rfl:=An hk;exact Ao (Du QT (A6 rfl) (A6 rfl)) (sS (sS sN)) ⟨rfl,rfl⟩
   ·refine Aq (AA (Af (vL 1 CX rfl (wa rfl (wa rfl (Ak (Ap (WK.up (d:=4) (r:=AD 4 (A1 Ab ha)) rfl (Up.le DL.sn) ?_))))))));obtain rfl:=An hl;exact Ao (Du QT (A6 rfl) (A6 rfl)) (sS (sS sN)) ⟨rfl,rfl⟩
theorem UN (F:Nat)(v:(List Aa))(path:(List Au))(r:(List Aa)×Int)(h:OU F v path=some r):Fn Tryz.prog GE 77 [AD 4 (A1 Ab v),AD 1 (A1 eS path)] [] (λR H=>R=Df [AD 4 (A1 Ab r.1),Al r.2]∧H=[]):=by
 refine enter (n:=37) Tryz.func77 rfl Tryz.ntmps77 rfl (λw Z=>?_);unfold OU at h;refine Af (wa rfl (wa rfl (Ak (Am (Af (wm rfl (ob h λr1 e3 h2=>BQ Nd (DT F v r1 e3) rfl (wa rfl (Bb (wm rfl (wv (Bk rfl rfl) (Ak (cz h2 rfl (λc4 h5=>?_) (λc4 h6=>?_))))))))))))))
 ·refine Af (wm rfl (wa rfl (wa rfl (Ak (Ap (Ac (WK.up (d:=4) (r:=AD 4 (A1 Ab ([]:List Aa))) rfl (Up.le (DL.nil _)) ?_)))))));obtain rfl:=An h5;exact Ao (Du Tryz.results77 (A6 rfl) (A6 rfl)) sN ⟨rfl,rfl⟩
 ·refine Aq (AA (Af (wm rfl (ob h6 λr7 e9 h8=>BQ Tryz.call92 (MU v r7 e9) rfl (wa rfl (Ak (Am (Af (wm rfl (wv (AI (ys:=path) (enc:=eS) CW rfl) (wv (r:=Al 0) (A2 rfl) (Ak (A5 (ob h8 λhk hl hh=>Bc (S:=Nat×((List Aa)×Int)×(Unit)) (V:=((List Aa))×(Unit)) 0 (λσ=>BP (λσ=>Ep F path σ.1 σ.2) σ.1 σ.2.1=some hk) (λσ=>[(4,rv (.slice none 0 0)),(5,Al 0),(7,AD 4 (A1 Ab σ.2.1.1)),(19,AD 1 (A1 eS path)),(20,Al (path.length:Int)),(21,Al σ.2.1.2)]) (λσ=>[]) (λσ=>σ.1) (F,(r7,0),()) hl (Az.c rfl (Az.c5 rfl rfl rfl rfl rfl Az.nil)) sN (λσ=>Iy σ.1=some r) (λσ=>[(4,rv (.slice none 0 0)),(5,Al 0),(7,AD 4 (A1 Ab σ.1))]) (λσ=>[]) ?_ ?_))))))))))))))
  ·rintro⟨h9,⟨ha,hb⟩,⟨⟩⟩ hm;refine Bu (l':=[(4,rv (.slice none 0 0)),(5,Al 0),(7,AD 4 (A1 Ab ha)),(19,AD 1 (A1 eS path)),(20,Al (path.length:Int)),(21,Al hb)]) (H':=[]) rfl rfl ?_;obtain⟨hn,rfl,ho,he,hg⟩:=BK hm;replace he:Ep F path ha hb=some ho:=he;unfold Ep at he;refine Af (wv (Cc rfl rfl) (Ak (Am (cz he rfl (λhp hq=>?_) (λhp hr=>?_)))))
   ·refine Aq (AA (Am (A5 (Af (ck hq λhs ht=>wv (AT (enc:=eS) (ys:=path) CW CE rfl rfl hs) (wv (AH CI rfl rfl) (wa rfl (Bb (wm rfl (wm rfl (ob ht λhi hu hw=>BQ Tryz.call107 (VT F ha (Ay path hb) hi hu) rfl (wm rfl (wv (A7 rfl rfl) (wv (A7 rfl rfl) (wa rfl (wa rfl (Ak (Am (Af (wm rfl (wv (Bk rfl rfl) ?_)))))))))))))))))))));refine Ak (cz hw rfl (λhx hy=>?_) (λhx hz=>?_))
    ·refine Af (wm rfl (wa rfl (wa rfl (Ak (Ap (Ac (As (Ac (Ac (AO ?_))))))))));have h0:=Bg hy hg hh;refine As (Ac (WK.up (d:=4) (r:=AD 4 (A1 Ab ([]:List Aa))) rfl (Up.le (DL.nil _)) ?_));obtain rfl:=An h0;exact Ao (Du Tryz.results77 (A6 rfl) (A6 rfl)) sN ⟨rfl,rfl⟩
    ·refine Aq (AA (Aj (wm rfl (wa rfl (Ai (A3 (AA (Aj (ck hz λh1 h3=>wv (Bd rfl rfl h1) (wm rfl (Ai ?_)))))))))));have h4:=AW h3 hg;exact Av (Ar (hn,(hi.1,hb+1),()) ⟨h4,XX _⟩ (Az.c rfl (Az.c5 rfl rfl rfl rfl rfl Az.nil)) sN)
   ·refine Bi (Aw ?_);have h7:=Bx hr hg hh;exact Aw (AS (Ar (ha,()) h7 (Az.c rfl (Az.c rfl (Az.c rfl Az.nil))) sN))
  ·rintro⟨hj,⟨⟩⟩ hf;refine BS (l':=[(4,rv (.slice none 0 0)),(5,Al 0),(7,AD 4 (A1 Ab hj))]) (H':=[]) rfl rfl ?_;replace hf:Iy hj=some r:=hf;unfold Iy at hf;refine AV (AA (Af (wm rfl (wa rfl (wa rfl (Ak (Ap ?_)))))));obtain rfl:=An hf;exact Ao (Du Tryz.results77 (A6 rfl) (A6 rfl)) sN ⟨rfl,rfl⟩
theorem Od (F:Nat)(v:(List Aa))(a:Int)(b:Int)(r:(List Aa))(h:JS F v a b=some r):Fn Tryz.prog GE 81 [AD 4 (A1 Ab v),Al a,Al b] [] (λR H=>R=AD 4 (A1 Ab r)∧H=[]):=by
 refine enter (n:=23) Tryz.func81 rfl Tryz.ntmps81 rfl (λw Z=>?_);unfold JS at h;refine Af (wa rfl (Bb (wa rfl (Ak (Am (Af (wm rfl (wa rfl (Ak (A5 (WC.nilrow (e:=54) (sz:=4) (ob h λhk hl hm=>Bc (S:=Nat×((List Aa)×Int)×(Value)) (V:=((List Aa))×(Value)) 0 (λσ=>BP (λσ=>Eu v b σ.1 σ.2) σ.1 σ.2.1=some hk) (λσ=>[(0,AD 4 (A1 Ab v)),(2,Al b),(6,rv (.slice none 0 0)),(7,rv σ.2.2),(8,Al σ.2.1.2)]) (λσ=>[.row σ.2.2 54 4 (A1 Ab σ.2.1.1)]) (λσ=>σ.1) (F,(([]:List Aa),a),(.slice none 0 0                                                      )) hl (Az.c5 rfl rfl rfl rfl rfl Az.nil) (sC sN) (λσ=>Hn σ.1=some r) (λσ=>[(6,rv (.slice none 0 0)),(7,rv σ.2)]) (λσ=>[.row σ.2 54 4 (A1 Ab σ.1)]) ?_ ?_))))))))))))
 ·rintro⟨h2,⟨hb,ha⟩,hg⟩ hn;refine Bu (l':=[(0,AD 4 (A1 Ab v)),(2,Al b),(6,rv (.slice none 0 0)),(7,rv hg),(8,Al ha)]) (H':=[.row hg 54 4 (A1 Ab hb)]) rfl rfl ?_;obtain⟨ho,rfl,hp,he,hi⟩:=BK hn;replace he:Eu v b hb ha=some hp:=he;unfold Eu at he;refine Am (Af (wm rfl (wm rfl (wv (Cc rfl rfl) (Ak (cz he rfl (λc51 hq=>?_) (λc51 hr=>?_)))))))
  ·refine Aq (AA (Am (A5 (Aj (wm rfl (wm rfl (wm rfl (ck hq λhs ht=>wv (AT (enc:=Ab) (ys:=v) Bp By rfl rfl hs) (wv (C5 Jh By rfl rfl rfl) (AY (ys:=([(Ay v ha)]:List Aa)) (enc:=Ab) (css:=[[Al ((Ay v ha).fKind),Al ((Ay v ha).fInt),rS ((Ay v ha).fStr),Al ((Ay v ha).fN)]]) (xs:=[.tmp 19]) Bp By GT rfl rfl rfl ⟨E1.agg ⟨Up.refl _,Up.refl _,Up.refl _,Up.refl _,trivial⟩,trivial⟩ rfl Bf rfl rfl rfl (λh3=>?_)))))))))));refine ck ht λhu hw=>Exists.elim G0 λinf hinf=>Cg (xs:=hb) (ys:=([(Ay v ha)]:List Aa)) (enc:=Ab) (i:=1) Bp hinf.1 hinf.2.1 hinf.2.2.1 hinf.2.2.2 rfl rfl rfl rfl rfl (K9.w (i:=0) rfl rfl) Bf Cy hu rfl (λhx=>?_);refine wa rfl (Ai (A3 (AA (Aj (wm rfl (ck hw λhy hz=>wv (Bd rfl rfl hy) (wa rfl (Ai ?_))))))));have h0:=AW hz hi;exact Av (Ar (ho,(hb++([(Ay v ha)]:List Aa),ha+1),hx) ⟨h0,XX _⟩ (Az.c5 rfl rfl rfl rfl rfl Az.nil) (sC (sS sN)))
  ·refine Bi (Aw ?_);have h1:=Bx hr hi hm;exact Aw (AS (Ar (hb,hg) h1 (Az.c rfl (Az.c rfl Az.nil)) (sC sN)))
 ·rintro⟨hh,hj⟩ hf;refine BS (l':=[(6,rv (.slice none 0 0)),(7,rv hj)]) (H':=[.row hj 54 4 (A1 Ab hh)]) rfl rfl ?_;replace hf:Hn hh=some r:=hf;unfold Hn at hf;refine AV (AA (Af (wm rfl (wa rfl (Ak (Ap (WK.freeze (i:=0) rfl (WK.up (d:=6) (r:=AD 4 (A1 Ab hh)) rfl (Up.fact (i:=0) rfl) ?_))))))));obtain rfl:=An hf;exact Ao (Bq Tryz.results81 (A6 rfl)) (sS sN) ⟨rfl,rfl⟩
theorem T1 (F:Nat)(v:(List Aa))(r:(List (List Aa))×Int)(h:Mz F v=some r):Fn Tryz.prog GE 60 [AD 4 (A1 Ab v)] [] (λR H=>R=Df [AD 1 (A1 Ae r.1),Al r.2]∧H=[]):=by
 refine enter (n:=53) Tryz.func60 rfl Tryz.ntmps60 rfl (λw Z=>?_);unfold Mz at h;refine Af (wa rfl (wa rfl (Bb (wm rfl (ob h λr1 e3 h2=>BQ Qd (Gw F v r1 e3) rfl (wa rfl (Ak (Am (Af (wm rfl (wv (Bk rfl rfl) (Ak (cz h2 rfl (λc4 h5=>?_) (λc4 h6=>?_))))))))))))))
 ·refine Af (wm rfl (wa rfl (wa rfl (Ak (Ap (Ac (WK.up (d:=2) (r:=AD 1 (A1 Ae ([]:List (List Aa)))) rfl (Up.le (DL.nil _)) ?_)))))));obtain rfl:=An h5;exact Ao (Du Tryz.results60 (A6 rfl) (A6 rfl)) sN ⟨rfl,rfl⟩
 ·refine Aq (AA (Am (ck h6 λg7 h8=>AC [(0,AD 4 (A1 Ab v)),(25,rB ((!decide (((Ay v 0).fKind)=5))&&(!decide (((Ay v 0).fKind)=6))))] [] ?_ ?_)))
  ·refine Aj (wm rfl (wv (AT (enc:=Ab) (ys:=v) Bp By rfl rfl g7) (wv (AK Bl rfl C8 rfl rfl) (wv (AH CF rfl rfl) (wv (Bk rfl rfl) (wm rfl (AN (!decide (((Ay v 0).fKind)=5)) (λc9=>?_) (λc9=>?_))))))))
   ·refine wo c9 (wm rfl (wo c9 (wv (AT (enc:=Ab) (ys:=v) Bp By rfl rfl g7) (wo c9 (wv (AK Bl rfl C8 rfl rfl) (wo c9 (wv (AH CF rfl rfl) (wo c9 (wv (Bk rfl rfl) (Ci rfl c9 rfl (Ai ?_)))))))))));exact BG c9
   ·refine wf c9 (wf c9 (wf c9 (wf c9 (wf c9 (wv (r:=rB false) (At rfl c9 rfl) (Ai ?_))))));exact BG c9
  refine cz h8 rfl (λhp hq=>?_) (λhp hr=>?_)
  ·refine Af (wa rfl (wa rfl (Ak (Ap (Ac (WK.up (d:=2) (r:=AD 1 (A1 Ae ([]:List (List Aa)))) rfl (Up.le (DL.nil _)) ?_))))));obtain rfl:=An hq;exact Ao (Du Tryz.results60 (A6 rfl) (A6 rfl)) sN ⟨rfl,rfl⟩
  ·refine Aq (AA (Af (wa rfl (Bb (wa rfl (Ak (Am (Af (wa rfl (Ak (A5 (WC.nilrow (e:=28) (sz:=1) (ob hr λhs ht hu=>Bc (S:=Nat×((List (List Aa))×Int×Int)×(Value)) (V:=((List (List Aa)))×(Value)) 0 (λσ=>BP (λσ=>DF F v σ.1 σ.2.1 σ.2.2) σ.1 σ.2.1=some hs) (λσ=>[(0,AD 4 (A1 Ab v)),(5,rv σ.2.2),(6,Al σ.2.1.2.1),(7,Al σ.2.1.2.2)]) (λσ=>[.row σ.2.2 28 1 (A1 Ae σ.2.1.1)]) (λσ=>σ.1) (F,(([]:List (List Aa)),1,0),(.slice none 0 0                            )) ht (Az.c rfl (Az.c rfl (Az.c rfl (Az.c rfl Az.nil)))) (sC sN) (λσ=>IV σ.1=some r) (λσ=>[(5,rv σ.2)]) (λσ=>[.row σ.2 28 1 (A1 Ae σ.1)]) ?_ ?_)))))))))))))
   ·rintro⟨hX,⟨ha,hb,hg⟩,v76⟩ hw;refine Bu (l':=[(0,AD 4 (A1 Ab v)),(5,rv v76),(6,Al hb),(7,Al hg)]) (H':=[.row v76 28 1 (A1 Ae ha)]) rfl rfl ?_;obtain⟨hn,rfl,hx,hh,hj⟩:=BK hw;replace hh:DF F v ha hb hg=some hx:=hh;unfold DF at hh;refine Am (Af (wm rfl (wm rfl (wv (AT (enc:=Ab) (ys:=v) Bp By rfl rfl g7) (wv (AK Bl rfl BB rfl rfl) (wv (AH BL rfl rfl) (wv (Cc rfl rfl) (Ak (cz hh rfl (λhy hz=>?_) (λhy h0=>?_))))))))))
    ·refine Aq (AA (Am (A5 (Am (Af (wm rfl (wv (AT (enc:=Ab) (ys:=v) Bp By rfl rfl g7) (wv (AK Bl rfl C8 rfl rfl) (wv (AH CF rfl rfl) (wv (Be rfl rfl) (Ak (cz hz rfl (λh1 h3=>?_) (λh1 h4=>?_)))))))))))))
     ·refine Aj (wm rfl (ck h3 λh7 h9=>wv (Bd rfl rfl h7) (wa rfl (Bb (wm rfl (wm rfl (ob h9 λhk hA hB=>BQ J5 (Ec F v (hb+1) hk hA) rfl (wa rfl (Bb (wm rfl (wm rfl (wm rfl (wm rfl (ob hB λhe hC hD=>BQ Tryz.call81 (Od F v (hb+1) hk he hC) rfl (AY (ys:=([he]:List (List Aa))) (enc:=Ae) (css:=[[AD 4 (A1 Ab he)]]) (xs:=[.tmp 48]) BX Cl Mb rfl rfl rfl ⟨E1.one rfl (Up.refl _),trivial⟩ rfl B5 rfl rfl rfl (λhY=>?_))))))))))))))));refine ck hD λhE hG=>Exists.elim MF λinf hinf=>Cg (xs:=ha) (ys:=([he]:List (List Aa))) (enc:=Ae) (i:=1) BX hinf.1 hinf.2.1 hinf.2.2.1 hinf.2.2.2 rfl rfl rfl rfl rfl (K9.w (i:=0) rfl rfl) B5 Dt hE rfl (λhH=>?_);refine wa rfl (Ak (Aj (wm rfl (wa rfl (Ai (A3 (AA (Aj (wm rfl (ck hG λhI hJ=>wv (Bd rfl rfl hI) (wa rfl (Ai ?_))))))))))));have hK:=AW hJ hj;exact Av (Ar (hn,(ha++([he]:List (List Aa)),hk,hg+1),hH) ⟨hK,XX _⟩ (Az.c rfl (Az.c rfl (Az.c rfl (Az.c rfl Az.nil)))) (sC (sS sN)))
     ·refine Aq (AA (Af (wm rfl (wm rfl (ob h4 λhl hL hN=>BQ J5 (Ec F v hb hl hL) rfl (wa rfl (Bb (wm rfl (wm rfl (wm rfl (wm rfl (ob hN λhf hO hP=>BQ Tryz.call81 (Od F v hb hl hf hO) rfl (AY (ys:=([hf]:List (List Aa))) (enc:=Ae) (css:=[[AD 4 (A1 Ab hf)]]) (xs:=[.tmp 48]) BX Cl Mb rfl rfl rfl ⟨E1.one rfl (Up.refl _),trivial⟩ rfl B5 rfl rfl rfl (λhZ=>?_))))))))))))));refine ck hP λhQ hR=>Exists.elim MF λinf hinf=>Cg (xs:=ha) (ys:=([hf]:List (List Aa))) (enc:=Ae) (i:=1) BX hinf.1 hinf.2.1 hinf.2.2.1 hinf.2.2.2 rfl rfl rfl rfl rfl (K9.w (i:=0) rfl rfl) B5 Dt hQ rfl (λhS=>?_);refine wa rfl (Ak (Aj (wm rfl (wa rfl (Ai (A3 (AA (Aj (wm rfl (ck hR λhT hU=>wv (Bd rfl rfl hT) (wa rfl (Ai ?_))))))))))));have hV:=AW hU hj;exact Av (Ar (hn,(ha++([hf]:List (List Aa)),hl,hg+1),hS) ⟨hV,XX _⟩ (Az.c rfl (Az.c rfl (Az.c rfl (Az.c rfl Az.nil)))) (sC (sS sN)))
    ·refine Bi (Aw ?_);have hW:=Bx h0 hj hu;exact Aw (AS (Ar (ha,v76) hW (Az.c rfl Az.nil) (sC sN)))
   ·rintro⟨hm,ho⟩ hi;refine BS (l':=[(5,rv ho)]) (H':=[.row ho 28 1 (A1 Ae hm)]) rfl rfl ?_;replace hi:IV hm=some r:=hi;unfold IV at hi;refine AV (AA (Af (wm rfl (wa rfl (wa rfl (Ak (Ap (WK.freeze (i:=0) rfl (WK.up (d:=2) (r:=AD 1 (A1 Ae hm)) rfl (Up.fact (i:=0) rfl) ?_)))))))));obtain rfl:=An hi;exact Ao (Du Tryz.results60 (A6 rfl) (A6 rfl)) (sS sN) ⟨rfl,rfl⟩
theorem UY (F:Nat)(v:(List Aa))(r:(List Au)×Int)(h:Pj F v=some r):Fn Tryz.prog GE 111 [AD 4 (A1 Ab v)] [] (λR H=>R=Df [AD 1 (A1 eS r.1),Al r.2]∧H=[]):=by
 refine enter (n:=39) Tryz.func111 rfl Tryz.ntmps111 rfl (λw Z=>?_);unfold Pj at h;refine Af (wa rfl (wa rfl (Bb (wm rfl (ob h λr1 e3 h2=>BQ Qd (Gw F v r1 e3) rfl (wa rfl (Ak (Am (Af (wm rfl (wv (Bk rfl rfl) (Ak (cz h2 rfl (λc4 h5=>?_) (λc4 h6=>?_))))))))))))))
 ·refine Af (wm rfl (wa rfl (wa rfl (Ak (Ap (Ac (WK.up (d:=2) (r:=AD 1 (A1 eS ([]:List Au))) rfl (Up.le (DL.nil _)) ?_)))))));obtain rfl:=An h5;exact Ao (Du Tryz.results111 (A6 rfl) (A6 rfl)) sN ⟨rfl,rfl⟩
 ·refine Aq (AA (Am (Af (wm rfl (ck h6 λg7 h8=>wv (AT (enc:=Ab) (ys:=v) Bp By rfl rfl g7) (wv (AK Bl rfl C8 rfl rfl) (wv (AH CF rfl rfl) (wv (Bk rfl rfl) (Ak (cz h8 rfl (λc9 hm=>?_) (λc9 hn=>?_)))))))))))
  ·refine Af (wa rfl (wa rfl (Ak (Ap (Ac (WK.up (d:=2) (r:=AD 1 (A1 eS ([]:List Au))) rfl (Up.le (DL.nil _)) ?_))))));obtain rfl:=An hm;exact Ao (Du Tryz.results111 (A6 rfl) (A6 rfl)) sN ⟨rfl,rfl⟩
  ·refine Aq (AA (Af (wa rfl (Bb (wa rfl (Ak (Am (Af (wa rfl (Ak (A5 (WC.nilrow (e:=9) (sz:=1) (ob hn λho hp hq=>Bc (S:=Nat×((List Au)×Int×Int)×(Value)) (V:=((List Au))×(Value)) 0 (λσ=>BP (λσ=>Ev F v σ.1 σ.2.1 σ.2.2) σ.1 σ.2.1=some ho) (λσ=>[(0,AD 4 (A1 Ab v)),(2,rv (.slice none 0 0)),(3,Al 0),(5,rv σ.2.2),(6,Al σ.2.1.2.1),(7,Al σ.2.1.2.2)]) (λσ=>[.row σ.2.2 9 1 (A1 eS σ.2.1.1)]) (λσ=>σ.1) (F,(([]:List Au),1,0),(.slice none 0 0         )) hp (Az.c rfl (Az.c5 rfl rfl rfl rfl rfl Az.nil)) (sC sN) (λσ=>JU σ.1=some r) (λσ=>[(2,rv (.slice none 0 0)),(3,Al 0),(5,rv σ.2)]) (λσ=>[.row σ.2 9 1 (A1 eS σ.1)]) ?_ ?_)))))))))))))
   ·rintro⟨hD,⟨hb,ha,hg⟩,hh⟩ hr;refine Bu (l':=[(0,AD 4 (A1 Ab v)),(2,rv (.slice none 0 0)),(3,Al 0),(5,rv hh),(6,Al ha),(7,Al hg)]) (H':=[.row hh 9 1 (A1 eS hb)]) rfl rfl ?_;obtain⟨hs,rfl,ht,he,hj⟩:=BK hr;replace he:Ev F v hb ha hg=some ht:=he;unfold Ev at he;refine Am (Af (wm rfl (wm rfl (wv (AT (enc:=Ab) (ys:=v) Bp By rfl rfl g7) (wv (AK Bl rfl BB rfl rfl) (wv (AH BL rfl rfl) (wv (Cc rfl rfl) (Ak (cz he rfl (λc75 hu=>?_) (λc75 hw=>?_))))))))))
    ·refine Aq (AA (Am (A5 (Af (wm rfl (wm rfl (wm rfl (ck hu λhx hy=>wv (AT (enc:=Ab) (ys:=v) Bp By rfl rfl hx) (wv (AK Bl rfl CE rfl rfl) (wv (AH CI rfl rfl) (AY (ys:=([(Ay v ha).fStr]:List Au)) (enc:=eS) (css:=[[rS ((Ay v ha).fStr)]]) (xs:=[.tmp 31]) CW CE VQ rfl rfl rfl ⟨E1.one rfl (Up.refl _),trivial⟩ rfl Ha rfl rfl rfl (λhE=>?_))))))))))));refine ck hy λhz h0=>Exists.elim VM λinf hinf=>Cg (xs:=hb) (ys:=([(Ay v ha).fStr]:List Au)) (enc:=eS) (i:=1) CW hinf.1 hinf.2.1 hinf.2.2.1 hinf.2.2.2 rfl rfl rfl rfl rfl (K9.w (i:=0) rfl rfl) Ha Ul hz rfl (λv80=>?_);refine wa rfl (Ak (Aj (wm rfl (wm rfl (ck h0 λh1 h3=>wv (Bd rfl rfl h1) (ob h3 λhk h4 h7=>BQ J5 (Ec F v (ha+1) hk h4) rfl (wa rfl (Ai (A3 (AA (Aj (wm rfl (ck h7 λh9 hA=>wv (Bd rfl rfl h9) (wa rfl (Ai ?_)))))))))))))));have hB:=AW hA hj;exact Av (Ar (hs,(hb++([(Ay v ha).fStr]:List Au),hk,hg+1),v80) ⟨hB,XX _⟩ (Az.c rfl (Az.c5 rfl rfl rfl rfl rfl Az.nil)) (sC (sS sN)))
    ·refine Bi (Aw ?_);have hC:=Bx hw hj hq;exact Aw (AS (Ar (hb,hh) hC (Az.c rfl (Az.c rfl (Az.c rfl Az.nil))) (sC sN)))
   ·rintro⟨hi,hl⟩ hf;refine BS (l':=[(2,rv (.slice none 0 0)),(3,Al 0),(5,rv hl)]) (H':=[.row hl 9 1 (A1 eS hi)]) rfl rfl ?_;replace hf:JU hi=some r:=hf;unfold JU at hf;refine AV (AA (Af (wm rfl (wa rfl (wa rfl (Ak (Ap (WK.freeze (i:=0) rfl (WK.up (d:=2) (r:=AD 1 (A1 eS hi)) rfl (Up.fact (i:=0) rfl) ?_)))))))));obtain rfl:=An hf;exact Ao (Du Tryz.results111 (A6 rfl) (A6 rfl)) (sS sN) ⟨rfl,rfl⟩
theorem VY (F:Nat)(v:(List Aa))(key:Au)(r:(List Aa)×Int)(h:T3 F v key=some r):Fn Tryz.prog GE 82 [AD 4 (A1 Ab v),rS key] [] (λR H=>R=Df [AD 4 (A1 Ab r.1),Al r.2]∧H=[]):=by
 refine enter (n:=40) Tryz.func82 rfl Tryz.ntmps82 rfl (λw Z=>?_);unfold T3 at h;refine Af (wa rfl (wa rfl (Bb (wm rfl (ob h λr1 e3 h2=>BQ Tryz.call111 (UY F v r1 e3) rfl (wm rfl (wv (A7 rfl rfl) (wv (A7 rfl rfl) (wa rfl (wa rfl (Ak (Am (Af (wm rfl (wv (Bk rfl rfl) (Ak (cz h2 rfl (λc4 h5=>?_) (λc4 h6=>?_))))))))))))))))))
 ·refine Af (wm rfl (wa rfl (wa rfl (Ak (Ap (Ac (WK.up (d:=4) (r:=AD 4 (A1 Ab ([]:List Aa))) rfl (Up.le (DL.nil _)) ?_)))))));obtain rfl:=An h5;exact Ao (Du Tryz.results82 (A6 rfl) (A6 rfl)) sN ⟨rfl,rfl⟩
 ·refine Aq (AA (Af (wm rfl (ob h6 λr7 e9 h8=>BQ Tryz.call60 (T1 F v r7 e9) rfl (wm rfl (wv (A7 rfl rfl) (wv (A7 rfl rfl) (wa rfl (wa rfl (Ak (Am (Af (wa rfl (Ak (A5 (ob h8 λhh hi hg=>Bc (S:=Nat×(Int)×(Unit)) (V:=(Unit)×(Unit)) 0 (λσ=>BP (λσ=>GH key r1 r7 σ) σ.1 σ.2.1=some hh) (λσ=>[(1,rS key),(4,rv (.slice none 0 0)),(5,Al 0),(6,AD 1 (A1 eS r1.1)),(8,AD 1 (A1 Ae r7.1)),(10,Al σ.2.1)]) (λσ=>[]) (λσ=>σ.1) (F,0,()) hi (Az.c rfl (Az.c5 rfl rfl rfl rfl rfl Az.nil)) sN (λσ=>LN =some r) (λσ=>[(4,rv (.slice none 0 0)),(5,Al 0)]) (λσ=>[]) ?_ ?_))))))))))))))))
  ·rintro⟨h3,he,⟨⟩⟩ hj;refine Bu (l':=[(1,rS key),(4,rv (.slice none 0 0)),(5,Al 0),(6,AD 1 (A1 eS r1.1)),(8,AD 1 (A1 Ae r7.1)),(10,Al he)]) (H':=[]) rfl rfl ?_;obtain⟨hk,rfl,hl,ha,hf⟩:=BK hj;replace ha:GH key r1 r7 he=some hl:=ha;unfold GH at ha;refine Am (Af (wm rfl (wm rfl (wv (AI (ys:=r1.1) (enc:=eS) CW rfl) (wv (Cc rfl rfl) (Ak (cz ha rfl (λhm hn=>?_) (λhm ho=>?_))))))))
   ·refine Aq (AA (Am (A5 (Af (wm rfl (wm rfl (ck hn λhp hq=>wv (AT (enc:=eS) (ys:=r1.1) CW CE rfl rfl hp) (wv (AH CI rfl rfl) (wm rfl (wv (DM rfl rfl) (Ak (cz hq rfl (λhr hs=>?_) (λhr ht=>?_)))))))))))))
    ·refine Af (wm rfl (wm rfl (ck hs λhu hw=>wv (AT (enc:=Ae) (ys:=r7.1) BX Cl rfl rfl hu) (wv (AH CX rfl rfl) (wa rfl (wa rfl (Ak (Ap (As (Ac (Ac (AO ?_))))))))))));have hx:=Bg hw hf hg;refine As (Ac ?_);obtain rfl:=An hx;exact Ao (Du Tryz.results82 (A6 rfl) (A6 rfl)) sN ⟨rfl,rfl⟩
    ·refine Aq (A3 (AA (Aj (wm rfl (ck ht λhy hz=>wv (Bd rfl rfl hy) (wa rfl (Ai ?_)))))));have h0:=AW hz hf;exact Av (Ar (hk,he+1,()) ⟨h0,XX _⟩ (Az.c rfl (Az.c5 rfl rfl rfl rfl rfl Az.nil)) sN)
   ·refine Bi (Aw ?_);have h1:=Bx ho hf hg;exact Aw (AS (Ar ((),()) h1 (Az.c rfl (Az.c rfl Az.nil)) sN))
  ·rintro⟨⟨⟩,⟨⟩⟩ hb;refine BS (l':=[(4,rv (.slice none 0 0)),(5,Al 0)]) (H':=[]) rfl rfl ?_;replace hb:LN =some r:=hb;unfold LN at hb;refine AV (AA (Af (wa rfl (wa rfl (Ak (Ap (WK.up (d:=4) (r:=AD 4 (A1 Ab ([]:List Aa))) rfl (Up.le (DL.nil _)) ?_)))))));obtain rfl:=An hb;exact Ao (Du Tryz.results82 (A6 rfl) (A6 rfl)) sN ⟨rfl,rfl⟩
theorem UX (F:Nat)(v:(List Aa))(path:(List Au))(r:(List Aa)×Int)(h:Pf F v path=some r):Fn Tryz.prog GE 38 [AD 4 (A1 Ab v),AD 1 (A1 eS path)] [] (λR H=>R=Df [AD 4 (A1 Ab r.1),Al r.2]∧H=[]):=by
 refine enter (n:=37) Tryz.func38 rfl Tryz.ntmps38 rfl (λw Z=>?_);unfold Pf at h;refine Af (wa rfl (wa rfl (Bb (wm rfl (ob h λr1 e3 h2=>BQ Qd (Gw F v r1 e3) rfl (wa rfl (Ak (Am (Af (wm rfl (wv (Bk rfl rfl) (Ak (cz h2 rfl (λc4 h5=>?_) (λc4 h6=>?_))))))))))))))
 ·refine Af (wm rfl (wa rfl (wa rfl (Ak (Ap (Ac (WK.up (d:=4) (r:=AD 4 (A1 Ab ([]:List Aa))) rfl (Up.le (DL.nil _)) ?_)))))));obtain rfl:=An h5;exact Ao (Du Tryz.results38 (A6 rfl) (A6 rfl)) sN ⟨rfl,rfl⟩
 ·refine Aq (AA (Af (wm rfl (wm rfl (wv (AI (ys:=v) (enc:=Ab) Bp rfl) (ob h6 λr7 e9 h8=>BQ Tryz.call81 (Od F v 0 (v.length:Int) r7 e9) rfl (wa rfl (Ak (Am (Af (wa rfl (Ak (A5 (ob h8 λhl hm hi=>Bc (S:=Nat×(Int×(List Aa)×Int)×(Unit)) (V:=((List Aa))×(Unit)) 0 (λσ=>BP (λσ=>Et F path σ.1 σ.2.1 σ.2.2) σ.1 σ.2.1=some hl) (λσ=>[(1,AD 1 (A1 eS path)),(4,rv (.slice none 0 0)),(5,Al 0),(6,Al σ.2.1.1),(7,AD 4 (A1 Ab σ.2.1.2.1)),(8,Al σ.2.1.2.2)]) (λσ=>[]) (λσ=>σ.1) (F,(r1,r7,0),()) hm (Az.c rfl (Az.c5 rfl rfl rfl rfl rfl Az.nil)) sN (λσ=>I5 σ.1=some r) (λσ=>[(4,rv (.slice none 0 0)),(5,Al 0),(7,AD 4 (A1 Ab σ.1))]) (λσ=>[]) ?_ ?_))))))))))))))
  ·rintro⟨hA,⟨hj,ha,hb⟩,⟨⟩⟩ hn;refine Bu (l':=[(1,AD 1 (A1 eS path)),(4,rv (.slice none 0 0)),(5,Al 0),(6,Al hj),(7,AD 4 (A1 Ab ha)),(8,Al hb)]) (H':=[]) rfl rfl ?_;obtain⟨ho,rfl,hp,he,hg⟩:=BK hn;replace he:Et F path hj ha hb=some hp:=he;unfold Et at he;refine Am (Af (wm rfl (wm rfl (wv (AI (ys:=path) (enc:=eS) CW rfl) (wv (Cc rfl rfl) (Ak (cz he rfl (λhq hr=>?_) (λhq hs=>?_))))))))
   ·refine Aq (AA (Am (A5 (Af (wm rfl (wm rfl (wm rfl (ck hr λht hu=>wv (AT (enc:=eS) (ys:=path) CW CE rfl rfl ht) (wv (AH CI rfl rfl) (ob hu λhh hw hx=>BQ Tryz.call82 (VY F ha (Ay path hb) hh hw) rfl (wm rfl (wv (A7 rfl rfl) (wv (A7 rfl rfl) (wa rfl (wa rfl (Bb (wm rfl (wv (Bk rfl rfl) (Ak (cz hx rfl (λhy hz=>?_) (λhy h0=>?_)))))))))))))))))))))
    ·refine Af (wm rfl (wa rfl (wa rfl (Ak (Ap (As (Ac (Ac (AO ?_)))))))));have h1:=Bg hz hg hi;refine As (Ac (WK.up (d:=4) (r:=AD 4 (A1 Ab ([]:List Aa))) rfl (Up.le (DL.nil _)) ?_));obtain rfl:=An h1;exact Ao (Du Tryz.results38 (A6 rfl) (A6 rfl)) sN ⟨rfl,rfl⟩
    ·refine Aq (A3 (AA (Aj (wm rfl (ck h0 λh3 h4=>wv (Bd rfl rfl h3) (wa rfl (Ai ?_)))))));have h7:=AW h4 hg;exact Av (Ar (ho,(hh.2,hh.1,hb+1),()) ⟨h7,XX _⟩ (Az.c rfl (Az.c5 rfl rfl rfl rfl rfl Az.nil)) sN)
   ·refine Bi (Aw ?_);have h9:=Bx hs hg hi;exact Aw (AS (Ar (ha,()) h9 (Az.c rfl (Az.c rfl (Az.c rfl Az.nil))) sN))
  ·rintro⟨hk,⟨⟩⟩ hf;refine BS (l':=[(4,rv (.slice none 0 0)),(5,Al 0),(7,AD 4 (A1 Ab hk))]) (H':=[]) rfl rfl ?_;replace hf:I5 hk=some r:=hf;unfold I5 at hf;refine AV (AA (Af (wm rfl (wa rfl (wa rfl (Ak (Ap ?_)))))));obtain rfl:=An hf;exact Ao (Du Tryz.results38 (A6 rfl) (A6 rfl)) sN ⟨rfl,rfl⟩
end Go.Proofs.YtghdglcmblpbeaaGreatDoor.Q
namespace Go.Proofs.YtghdglcmblpbeaaGreatDoor
open Go
set_option linter.unusedVariables false
structure Ah where
 fPath:(List Au)
 fOp:Int
 fValues:(List (List Aa))
 fText:Au
 fLow:Int
 fHigh:Int
 deriving DecidableEq,Inhabited
structure WS where
 fID:Au
 fTenant:Au
 fSource:Au
 fKey:Au
 fAt:Int
 fCause:Au
 fBody:(List Aa)
 deriving DecidableEq,Inhabited
def G8 (ys:(List Au))(x:Au)(ha:Int):Option (Stp (Int) (Out (Int) (Unit))):=
 AR (decide (ha<(ys.length:Int))) (AX (C0 ha (ys.length:Int))<|AR (decide (x=(Ay ys ha))) (some (.out (.ret ha))) (AX (BF .i64 (ha+1))<|some (.next (ha+1)))) (some (.out (.go ())))
def G7 :Option (Int):=
 some (-1)
def Mt (F:Nat)(ys:(List Au))(x:Au):Option (Int):=
 Bh (BP (λσ=>G8 ys x σ) F 0) (BI λν=>G7 )
def GB (a:(List Au))(b:(List Au))(ha:Int):Option (Stp (Int) (Out (Bool) (Unit))):=
 AR (decide (ha<(a.length:Int))) (AX (C0 ha (a.length:Int))<|AX (C0 ha (b.length:Int))<|AR (!decide ((Ay a ha)=(Ay b ha))) (some (.out (.ret false))) (AX (BF .i64 (ha+1))<|some (.next (ha+1)))) (some (.out (.go ())))
def GA :Option (Bool):=
 some true
def Gs (F:Nat)(a:(List Au))(b:(List Au)):Option (Bool):=
 AR (!decide ((a.length:Int)=(b.length:Int))) (some false) (Bh (BP (λσ=>GB a b σ) F 0) (BI λν=>GA ))
def Ov :Option ((List Au)):=
 some ([([]:Au),([101,120,105,115,116,115]:Au),([109,105,115,115,105,110,103]:Au),([101,113,117,97,108,115]:Au),([111,116,104,101,114]:Au),([112,114,101,102,105,120]:Au),([114,97,110,103,101]:Au)]:List Au)
def EZ (op:Int):Option (Bool):=
 some ((decide (op=3))||(decide (op=4)))
def Cu (ha:Bool):Option (Int):=
 AR (ha) (some 1) (some 0)
def EA (F:Nat)(f:Ah)(ha:Int):Option (Stp (Int) (Out (Int) (Unit))):=
 AR (decide (ha<(f.fValues.length:Int))) (AX (C0 ha (f.fValues.length:Int))<|Bh (Dp F (Ay f.fValues ha)) λhb=>AR (!decide (hb=0)) (some (.out (.ret hb))) (AX (BF .i64 (ha+1))<|some (.next (ha+1)))) (some (.out (.go ())))
def H6 (f:Ah):Option (Int):=
 Bh (EZ f.fOp) λha=>AR (!ha) (AR (decide (0<(f.fValues.length:Int))) (Cu true) (AR (!decide (f.fOp=5)) (AR (!decide (f.fText=([]:Au))) (Cu true) (AR (!decide (f.fOp=6)) (AR (!decide (f.fLow=0)) (Cu true) (Cu (!decide (f.fHigh=0)))) (Cu false))) (AR (!decide (f.fOp=6)) (AR (!decide (f.fLow=0)) (Cu true) (Cu (!decide (f.fHigh=0)))) (Cu false)))) (AR (!decide (f.fOp=5)) (AR (!decide (f.fText=([]:Au))) (Cu true) (AR (!decide (f.fOp=6)) (AR (!decide (f.fLow=0)) (Cu true) (Cu (!decide (f.fHigh=0)))) (Cu false))) (AR (!decide (f.fOp=6)) (AR (!decide (f.fLow=0)) (Cu true) (Cu (!decide (f.fHigh=0)))) (Cu false)))
def Ct (ha:Bool):Option (Int):=
 AR (ha) (some 1) (some 0)
def H8 (F:Nat)(f:Ah)(ha:Int):Option (Stp (Int) (Out (Int) (Unit))):=
 AR (decide (ha<(f.fValues.length:Int))) (AX (C0 ha (f.fValues.length:Int))<|Bh (Dp F (Ay f.fValues ha)) λhb=>AR (!decide (hb=0)) (some (.out (.ret hb))) (AX (BF .i64 (ha+1))<|some (.next (ha+1)))) (some (.out (.go ())))
def H5 (f:Ah):Option (Int):=
 Bh (EZ f.fOp) λha=>AR (!ha) (AR (decide (0<(f.fValues.length:Int))) (Ct true) (AR (!decide (f.fOp=5)) (AR (!decide (f.fText=([]:Au))) (Ct true) (AR (!decide (f.fOp=6)) (AR (!decide (f.fLow=0)) (Ct true) (Ct (!decide (f.fHigh=0)))) (Ct false))) (AR (!decide (f.fOp=6)) (AR (!decide (f.fLow=0)) (Ct true) (Ct (!decide (f.fHigh=0)))) (Ct false)))) (AR (!decide (f.fOp=5)) (AR (!decide (f.fText=([]:Au))) (Ct true) (AR (!decide (f.fOp=6)) (AR (!decide (f.fLow=0)) (Ct true) (Ct (!decide (f.fHigh=0)))) (Ct false))) (AR (!decide (f.fOp=6)) (AR (!decide (f.fLow=0)) (Ct true) (Ct (!decide (f.fHigh=0)))) (Ct false)))
def Cs (ha:Bool):Option (Int):=
 AR (ha) (some 1) (some 0)
def Cr (ha:Bool):Option (Int):=
 AR (ha) (some 1) (some 0)
def Cq (ha:Bool):Option (Int):=
 AR (ha) (some 1) (some 0)
def EB (F:Nat)(f:Ah)(ha:Int):Option (Stp (Int) (Out (Int) (Unit))):=
 AR (decide (ha<(f.fPath.length:Int))) (AX (C0 ha (f.fPath.length:Int))<|Bh (NT F (Ay f.fPath ha)) λhb=>AR (!decide (hb.2=0)) (some (.out (.ret hb.2))) (AX (BF .i64 (ha+1))<|some (.next (ha+1)))) (some (.out (.go ())))
def H7 (F:Nat)(f:Ah):Option (Int):=
 AR (((decide (f.fOp<1))||(decide (6<f.fOp)))) (some 7) (AR (decide (f.fOp=3)) (AR (((decide ((f.fValues.length:Int)<1))||(decide (8<(f.fValues.length:Int))))) (some 3) (Bh (BP (λσ=>EA F f σ) F 0) (BI λν=>H6 f ))) (AR (decide (f.fOp=4)) (AR (((decide ((f.fValues.length:Int)<1))||(decide (8<(f.fValues.length:Int))))) (some 3) (Bh (BP (λσ=>H8 F f σ) F 0) (BI λν=>H5 f ))) (AR (decide (f.fOp=5)) (Bh (NT F f.fText) λha=>AR (!decide (ha.2=0)) (some ha.2) (Bh (EZ f.fOp) λhb=>AR (!hb) (AR (decide (0<(f.fValues.length:Int))) (Cs true) (AR (!decide (f.fOp=5)) (AR (!decide (f.fText=([]:Au))) (Cs true) (AR (!decide (f.fOp=6)) (AR (!decide (f.fLow=0)) (Cs true) (Cs (!decide (f.fHigh=0)))) (Cs false))) (AR (!decide (f.fOp=6)) (AR (!decide (f.fLow=0)) (Cs true) (Cs (!decide (f.fHigh=0)))) (Cs false)))) (AR (!decide (f.fOp=5)) (AR (!decide (f.fText=([]:Au))) (Cs true) (AR (!decide (f.fOp=6)) (AR (!decide (f.fLow=0)) (Cs true) (Cs (!decide (f.fHigh=0)))) (Cs false))) (AR (!decide (f.fOp=6)) (AR (!decide (f.fLow=0)) (Cs true) (Cs (!decide (f.fHigh=0)))) (Cs false))))) (AR (decide (f.fOp=6)) (AX ((Bt f.fLow).isSome)<|AX (imp (!(!(ov (Bt f.fLow)))) ((Bt f.fHigh).isSome))<|AR (((!(ov (Bt f.fLow)))||((!(ov (Bt f.fHigh)))||(decide (f.fHigh<f.fLow))))) (some 2) (Bh (EZ f.fOp) λhe=>AR (!he) (AR (decide (0<(f.fValues.length:Int))) (Cr true) (AR (!decide (f.fOp=5)) (AR (!decide (f.fText=([]:Au))) (Cr true) (AR (!decide (f.fOp=6)) (AR (!decide (f.fLow=0)) (Cr true) (Cr (!decide (f.fHigh=0)))) (Cr false))) (AR (!decide (f.fOp=6)) (AR (!decide (f.fLow=0)) (Cr true) (Cr (!decide (f.fHigh=0)))) (Cr false)))) (AR (!decide (f.fOp=5)) (AR (!decide (f.fText=([]:Au))) (Cr true) (AR (!decide (f.fOp=6)) (AR (!decide (f.fLow=0)) (Cr true) (Cr (!decide (f.fHigh=0)))) (Cr false))) (AR (!decide (f.fOp=6)) (AR (!decide (f.fLow=0)) (Cr true) (Cr (!decide (f.fHigh=0)))) (Cr false))))) (Bh (EZ f.fOp) λhf=>AR (!hf) (AR (decide (0<(f.fValues.length:Int))) (Cq true) (AR (!decide (f.fOp=5)) (AR (!decide (f.fText=([]:Au))) (Cq true) (AR (!decide (f.fOp=6)) (AR (!decide (f.fLow=0)) (Cq true) (Cq (!decide (f.fHigh=0)))) (Cq false))) (AR (!decide (f.fOp=6)) (AR (!decide (f.fLow=0)) (Cq true) (Cq (!decide (f.fHigh=0)))) (Cq false)))) (AR (!decide (f.fOp=5)) (AR (!decide (f.fText=([]:Au))) (Cq true) (AR (!decide (f.fOp=6)) (AR (!decide (f.fLow=0)) (Cq true) (Cq (!decide (f.fHigh=0)))) (Cq false))) (AR (!decide (f.fOp=6)) (AR (!decide (f.fLow=0)) (Cq true) (Cq (!decide (f.fHigh=0)))) (Cq false))))))))
def B2 (F:Nat)(f:Ah):Option (Int):=
 AR (decide (4<(f.fPath.length:Int))) (some 3) (Bh (BP (λσ=>EB F f σ) F 0) (BI λν=>H7 F f ))
def LV (F:Nat)(x:(List Aa))(v:(List Aa)):Option (Bool):=
 Bh (Nt F x v) λr1=>some r1
def IZ (F:Nat)(ys:(List (List Aa)))(v:(List Aa))(ha:Int):Option (Stp (Int) (Out (Int) (Unit))):=
 AR (decide (ha<(ys.length:Int))) (AX (C0 ha (ys.length:Int))<|Bh (LV F (Ay ys ha) v) λhb=>AR (hb) (some (.out (.ret ha))) (AX (BF .i64 (ha+1))<|some (.next (ha+1)))) (some (.out (.go ())))
def LS :Option (Int):=
 some (-1)
def Vs (F:Nat)(ys:(List (List Aa)))(v:(List Aa)):Option (Int):=
 Bh (BP (λσ=>IZ F ys v σ) F 0) (BI λν=>LS )
def Uw (F:Nat)(ys:(List (List Aa)))(v:(List Aa)):Option (Bool):=
 Bh (Vs F ys v) λr1=>some (decide (0≤r1))
def Ig (F:Nat)(l:(List (List Aa)))(v:(List Aa)):Option (Bool):=
 Bh (Uw F l v) λr2=>some r2
def If (v:(List Aa))(pre:Au):Option (Bool):=
 AX (C0 0 (v.length:Int))<|AX (imp (decide (((Ay v 0).fKind)=4)) ((Dk ((Ay v 0).fStr) pre).isSome))<|some ((decide (((Ay v 0).fKind)=4))&&(ov (Dk ((Ay v 0).fStr) pre)))
def Ic (v:(List Aa))(low:Int)(high:Int):Option (Bool):=
 AX (C0 0 (v.length:Int))<|some ((decide (((Ay v 0).fKind)=3))&&((decide (low≤((Ay v 0).fInt)))&&(decide (((Ay v 0).fInt)≤high))))
def L0 (F:Nat)(f:Ah)(v:(List Aa)):Option (Bool):=
 Bh (OU F v f.fPath) λr2=>AR (!decide (r2.2=0)) (some (decide (f.fOp=2))) (AR (decide (f.fOp=1)) (some true) (AR (decide (f.fOp=3)) (Bh (Ig F f.fValues r2.1) λha=>some (ha ==(decide (f.fOp=3)))) (AR (decide (f.fOp=4)) (Bh (Ig F f.fValues r2.1) λhb=>some (hb ==(decide (f.fOp=3)))) (AR (decide (f.fOp=5)) (Bh (If r2.1 f.fText) λhe=>some he) (AR (decide (f.fOp=6)) (Bh (Ic r2.1 f.fLow f.fHigh) λhf=>some hf) (some false))))))
def DK (F:Nat)(f:Ah)(v:(List Aa)):Option (Bool):=
 AX ((B2 F f).isSome)<|AX (imp (decide ((ov (B2 F f))=0)) ((Dp F v).isSome))<|AX (imp (decide ((ov (B2 F f))=0)) (imp (decide ((ov (Dp F v))=0)) ((L0 F f v).isSome)))<|some ((decide ((ov (B2 F f))=0))&&((decide ((ov (Dp F v))=0))&&(ov (L0 F f v))))
def LU (F:Nat)(f:Ah)(v:(List Aa)):Option (Bool):=
 Bh (DK F f v) λr2=>some (!r2)
def KR (F:Nat)(ys:(List Ah))(v:(List Aa))(ha:Int):Option (Stp (Int) (Out (Int) (Unit))):=
 AR (decide (ha<(ys.length:Int))) (AX (C0 ha (ys.length:Int))<|Bh (LU F (Ay ys ha) v) λhb=>AR (hb) (some (.out (.ret ha))) (AX (BF .i64 (ha+1))<|some (.next (ha+1)))) (some (.out (.go ())))
def Oq :Option (Int):=
 some (-1)
def X6 (F:Nat)(ys:(List Ah))(v:(List Aa)):Option (Int):=
 Bh (BP (λσ=>KR F ys v σ) F 0) (BI λν=>Oq )
def Xs (F:Nat)(ys:(List Ah))(v:(List Aa)):Option (Bool):=
 Bh (X6 F ys v) λr1=>some (decide (0≤r1))
def E9 (ha:Bool):Option (Bool):=
 some ha
def Da (F:Nat)(l:(List Ah))(v:(List Aa)):Option (Bool):=
 AR (decide ((l.length:Int)≤32)) (Bh (Dp F v) λha=>AR (decide (ha=0)) (Bh (Xs F l v) λhb=>E9 (!hb)) (E9 false)) (E9 false)
def W4 (F:Nat)(v:(List Aa))(a:Ah):Option (Bool):=
 Bh (Ig F a.fValues v) λr1=>some (!r1)
def Kq (F:Nat)(ys:(List (List Aa)))(a:Ah)(ha:Int):Option (Stp (Int) (Out (Int) (Unit))):=
 AR (decide (ha<(ys.length:Int))) (AX (C0 ha (ys.length:Int))<|Bh (W4 F (Ay ys ha) a) λhb=>AR (hb) (some (.out (.ret ha))) (AX (BF .i64 (ha+1))<|some (.next (ha+1)))) (some (.out (.go ())))
def Ko :Option (Int):=
 some (-1)
def TQ (F:Nat)(ys:(List (List Aa)))(a:Ah):Option (Int):=
 Bh (BP (λσ=>Kq F ys a σ) F 0) (BI λν=>Ko )
def Uv (F:Nat)(ys:(List (List Aa)))(a:Ah):Option (Bool):=
 Bh (TQ F ys a) λr1=>some (decide (0≤r1))
def QA (F:Nat)(f:Ah)(a:Ah):Option (Bool):=
 Bh (Uv F f.fValues a) λr2=>some (!r2)
def W2 (F:Nat)(v:(List Aa))(b:Ah):Option (Bool):=
 Bh (Ig F b.fValues v) λr1=>some r1
def Kn (F:Nat)(ys:(List (List Aa)))(b:Ah)(ha:Int):Option (Stp (Int) (Out (Int) (Unit))):=
 AR (decide (ha<(ys.length:Int))) (AX (C0 ha (ys.length:Int))<|Bh (W2 F (Ay ys ha) b) λhb=>AR (hb) (some (.out (.ret ha))) (AX (BF .i64 (ha+1))<|some (.next (ha+1)))) (some (.out (.go ())))
def Km :Option (Int):=
 some (-1)
def TP (F:Nat)(ys:(List (List Aa)))(b:Ah):Option (Int):=
 Bh (BP (λσ=>Kn F ys b σ) F 0) (BI λν=>Km )
def Uu (F:Nat)(ys:(List (List Aa)))(b:Ah):Option (Bool):=
 Bh (TP F ys b) λr1=>some (decide (0≤r1))
def Q9 (F:Nat)(f:Ah)(b:Ah):Option (Bool):=
 Bh (Uu F f.fValues b) λr2=>some (!r2)
def W0 (v:(List Aa))(a:Ah):Option (Bool):=
 Bh (If v a.fText) λr1=>some r1
def Kl (ys:(List (List Aa)))(a:Ah)(ha:Int):Option (Stp (Int) (Out (Int) (Unit))):=
 AR (decide (ha<(ys.length:Int))) (AX (C0 ha (ys.length:Int))<|Bh (W0 (Ay ys ha) a) λhb=>AR (hb) (some (.out (.ret ha))) (AX (BF .i64 (ha+1))<|some (.next (ha+1)))) (some (.out (.go ())))
def Kk :Option (Int):=
 some (-1)
def TO (F:Nat)(ys:(List (List Aa)))(a:Ah):Option (Int):=
 Bh (BP (λσ=>Kl ys a σ) F 0) (BI λν=>Kk )
def Ut (F:Nat)(ys:(List (List Aa)))(a:Ah):Option (Bool):=
 Bh (TO F ys a) λr1=>some (decide (0≤r1))
def Q8 (F:Nat)(f:Ah)(a:Ah):Option (Bool):=
 Bh (Ut F f.fValues a) λr2=>some (!r2)
def Wy (v:(List Aa))(a:Ah):Option (Bool):=
 Bh (Ic v a.fLow a.fHigh) λr1=>some r1
def Kj (ys:(List (List Aa)))(a:Ah)(ha:Int):Option (Stp (Int) (Out (Int) (Unit))):=
 AR (decide (ha<(ys.length:Int))) (AX (C0 ha (ys.length:Int))<|Bh (Wy (Ay ys ha) a) λhb=>AR (hb) (some (.out (.ret ha))) (AX (BF .i64 (ha+1))<|some (.next (ha+1)))) (some (.out (.go ())))
def Ki :Option (Int):=
 some (-1)
def TN (F:Nat)(ys:(List (List Aa)))(a:Ah):Option (Int):=
 Bh (BP (λσ=>Kj ys a σ) F 0) (BI λν=>Ki )
def Us (F:Nat)(ys:(List (List Aa)))(a:Ah):Option (Bool):=
 Bh (TN F ys a) λr1=>some (decide (0≤r1))
def Q7 (F:Nat)(f:Ah)(a:Ah):Option (Bool):=
 Bh (Us F f.fValues a) λr2=>some (!r2)
def KX (F:Nat)(a:Ah)(b:Ah):Option (Bool):=
 AR (decide (a.fOp=4)) (Bh (QA F b a) λr5=>some r5) (AR (decide (a.fOp=3)) (Bh (Q9 F a b) λha=>some ha) (AR (decide (a.fOp=5)) (Bh (Q8 F b a) λhb=>some hb) (AR (decide (a.fOp=6)) (Bh (Q7 F b a) λhe=>some he) (some false))))
def Ww (F:Nat)(v:(List Aa))(b:Ah):Option (Bool):=
 Bh (Ig F b.fValues v) λr1=>some r1
def WA (F:Nat)(v:(List Aa))(b:Ah):Option (Bool):=
 Bh (Ww F v b) λr1=>some (!r1)
def Kw (F:Nat)(ys:(List (List Aa)))(b:Ah)(ha:Int):Option (Stp (Int) (Out (Int) (Unit))):=
 AR (decide (ha<(ys.length:Int))) (AX (C0 ha (ys.length:Int))<|Bh (WA F (Ay ys ha) b) λhb=>AR (hb) (some (.out (.ret ha))) (AX (BF .i64 (ha+1))<|some (.next (ha+1)))) (some (.out (.go ())))
def Kv :Option (Int):=
 some (-1)
def TT (F:Nat)(ys:(List (List Aa)))(b:Ah):Option (Int):=
 Bh (BP (λσ=>Kw F ys b σ) F 0) (BI λν=>Kv )
def U0 (F:Nat)(ys:(List (List Aa)))(b:Ah):Option (Bool):=
 Bh (TT F ys b) λr1=>some (decide (0≤r1))
def IH (ha:Bool):Option (Bool):=
 some ha
def Uj (F:Nat)(f:Ah)(b:Ah):Option (Bool):=
 AR (decide (f.fOp=3)) (Bh (U0 F f.fValues b) λha=>IH (!ha)) (IH false)
def Wu (v:(List Aa))(b:Ah):Option (Bool):=
 Bh (If v b.fText) λr1=>some r1
def W8 (v:(List Aa))(b:Ah):Option (Bool):=
 Bh (Wu v b) λr1=>some (!r1)
def Ku (ys:(List (List Aa)))(b:Ah)(ha:Int):Option (Stp (Int) (Out (Int) (Unit))):=
 AR (decide (ha<(ys.length:Int))) (AX (C0 ha (ys.length:Int))<|Bh (W8 (Ay ys ha) b) λhb=>AR (hb) (some (.out (.ret ha))) (AX (BF .i64 (ha+1))<|some (.next (ha+1)))) (some (.out (.go ())))
def Kt :Option (Int):=
 some (-1)
def TS (F:Nat)(ys:(List (List Aa)))(b:Ah):Option (Int):=
 Bh (BP (λσ=>Ku ys b σ) F 0) (BI λν=>Kt )
def Uz (F:Nat)(ys:(List (List Aa)))(b:Ah):Option (Bool):=
 Bh (TS F ys b) λr1=>some (decide (0≤r1))
def IG (ha:Bool):Option (Bool):=
 some ha
def Ru (F:Nat)(f:Ah)(b:Ah):Option (Bool):=
 AR (decide (f.fOp=3)) (Bh (Uz F f.fValues b) λha=>IG (!ha)) (IG false)
def Ws (v:(List Aa))(b:Ah):Option (Bool):=
 Bh (Ic v b.fLow b.fHigh) λr1=>some r1
def W6 (v:(List Aa))(b:Ah):Option (Bool):=
 Bh (Ws v b) λr1=>some (!r1)
def Ks (ys:(List (List Aa)))(b:Ah)(ha:Int):Option (Stp (Int) (Out (Int) (Unit))):=
 AR (decide (ha<(ys.length:Int))) (AX (C0 ha (ys.length:Int))<|Bh (W6 (Ay ys ha) b) λhb=>AR (hb) (some (.out (.ret ha))) (AX (BF .i64 (ha+1))<|some (.next (ha+1)))) (some (.out (.go ())))
def Kr :Option (Int):=
 some (-1)
def TR (F:Nat)(ys:(List (List Aa)))(b:Ah):Option (Int):=
 Bh (BP (λσ=>Ks ys b σ) F 0) (BI λν=>Kr )
def Uy (F:Nat)(ys:(List (List Aa)))(b:Ah):Option (Bool):=
 Bh (TR F ys b) λr1=>some (decide (0≤r1))
def IF (ha:Bool):Option (Bool):=
 some ha
def PF (F:Nat)(f:Ah)(b:Ah):Option (Bool):=
 AR (decide (f.fOp=3)) (Bh (Uy F f.fValues b) λha=>IF (!ha)) (IF false)
def Eh (ha:Bool):Option (Bool):=
 some ha
def DB (ha:Bool):Option (Bool):=
 some ha
def MJ (F:Nat)(a:Ah)(b:Ah):Option (Bool):=
 AR (decide (b.fOp=1)) (some (!decide (a.fOp=2))) (AR (decide (b.fOp=2)) (some (decide (a.fOp=2))) (AR (decide (b.fOp=3)) (Bh (Uj F a b) λha=>some ha) (AR (decide (b.fOp=4)) (Bh (KX F a b) λhb=>some hb) (AR (decide (b.fOp=5)) (AR (decide (a.fOp=5)) (Bh (Dk a.fText b.fText) λhe=>AR (he) (Eh true) (Bh (Ru F a b) λhf=>Eh hf)) (Bh (Ru F a b) λhg=>Eh hg)) (AR (decide (a.fOp=6)) (AR (decide (b.fLow≤a.fLow)) (AR (decide (a.fHigh≤b.fHigh)) (DB true) (Bh (PF F a b) λhh=>DB hh)) (Bh (PF F a b) λhi=>DB hi)) (Bh (PF F a b) λhj=>DB hj))))))
def K6 (F:Nat)(long:(List Au))(short:(List Au)):Option (Bool):=
 AX (imp (decide ((short.length:Int)<(long.length:Int))) (ES (short.length:Int) (long.length:Int)))<|AX (imp (decide ((short.length:Int)<(long.length:Int))) ((Gs F (List.take (Int.toNat (short.length:Int)) long) short).isSome))<|some ((decide ((short.length:Int)<(long.length:Int)))&&(ov (Gs F (List.take (Int.toNat (short.length:Int)) long) short)))
def K5 (F:Nat)(a:Ah)(b:Ah):Option (Bool):=
 AX ((B2 F a).isSome)<|AX (imp (!(!decide ((ov (B2 F a))=0))) ((B2 F b).isSome))<|AR (((!decide ((ov (B2 F a))=0))||(!decide ((ov (B2 F b))=0)))) (some false) (Bh (Gs F a.fPath b.fPath) λha=>AR (ha) (Bh (MJ F a b) λhb=>some hb) (Bh (K6 F a.fPath b.fPath) λhe=>AR (he) (some ((decide (b.fOp=1))&&(!decide (a.fOp=2)))) (Bh (K6 F b.fPath a.fPath) λhf=>AR (hf) (some ((decide (a.fOp=2))&&(decide (b.fOp=2)))) (some false))))
end Go.Proofs.YtghdglcmblpbeaaGreatDoor
namespace Go.Proofs.YtghdglcmblpbeaaGreatDoor.Q
open Go Go.RowKit
set_option linter.unusedVariables false
set_option linter.unusedSimpArgs false
section
variable {P : Program} {n : Nat} {c : Cx} {opsA : Array Oper} {Q : Exit → Act → World → Prop} {l : Fr} {H : List Ent} {d : Nat} {ty : TypeId} {pos : String} {af : Array Edge}
end
section
variable {P : Program} {n : Nat} {c : Cx} {ops : Array Oper} {Q : Exit → Act → World → Prop} {rest : List Oper} {l : Fr} {H H' : List Ent} {d : Nat} {d' : Option Nat} {x y z3 : Operand} {ty t t' e : TypeId} {pos : String} {af : Array Edge} {g : Option (Nat × Bool)} {v u : Value} {r : Rp} {sz : Nat}
theorem Qx {α:Type}{ys:List α}{enc:α→List Rp}{k':IntKind}{j:Int}(ht:P.underlying t=some (.slice e))(hz:∀w,(sizeOf e).run P w = .ok sz w)(h:ev l x=some (AD sz (ys.map enc)))(hj:ev l z3=some (rI k' j))(hg2:ES j (ys.length:Int)=true) :
  Bz P n c l H { dst:=d',op:=.slice t x none (some z3) none,type:=ty,pos:=pos,after:=af,guard:=g } (AD sz ((ys.take j.toNat).map enc)):=λa w Z ha hw=>by
 obtain⟨A,cap,e1,hc1,hc2,hA,hc⟩:=ha.ev h;have h2:=(Dg hg2).2;have hj0:0≤j:=(Dg hg2).1;simp only[Yi] at e1 hc1;have h3:j≤(cap:Int):=by omega
 refine⟨.slice (if cap=0 then A else A.map (·.add (0*sz))) j.toNat cap,⟨if cap=0 then A else A.map (·.add (0*sz)),cap,?_,?_,by omega,?_,λq cl hq=>?_⟩,by simp[execOp,e1,ha.eval hj,Instr.sliceAt,Instr.slice,run_underlying ht,Instr.sliceBounds,BE (m:=cap) _ _ hj0 h3,hz]⟩
 ·congr 1
  simp;omega
 ·simp;omega
 ·intro hn
  split at hn
  ·have:=hA hn;omega
  ·have:=hA (by simpa using hn);omega
 ·rw[YB] at hq
  cases hq':(List.take j.toNat ys)[q]? with
  | none=>rw[hq'] at hq;cases hq
  | some yy=>
   rw[hq'] at hq;simp only[Option.map_some,Option.some.injEq] at hq;subst hq;rw[Y6] at hq'
   split at hq'
   ·rename_i hlt
    obtain⟨hl,ad,rfl,hs,hcs⟩:=hc q (enc yy) (by simp[hq']);obtain⟨b,off,spot⟩:=ad;simp only at hs;subst hs;have hne : ¬ cap=0:=by omega
    refine⟨hl,⟨b,off+0*sz,none⟩,by simp[hne,Iv],rfl,λq' r' hr'=>?_⟩;obtain⟨u,hu,hp⟩:=hcs q' r' hr';refine⟨u,?_,hp⟩;have:off+0*sz+(q*sz+q')=off+(q*sz+q'):=by omega
    simp only;rw[this];exact hu
   ·cases hq'
end
end Go.Proofs.YtghdglcmblpbeaaGreatDoor.Q
namespace Go.Proofs.YtghdglcmblpbeaaGreatDoor
open Go
set_option linter.unusedVariables false
set_option linter.unusedSimpArgs false
section
variable {T S : Type}
def Vj:List (Au×T)→Au→Option T
 | [],_=>none
 | p::r,k=>bif decide (p.1=k) then some p.2 else Vj r k
def Wf (xs:List (Au×T))(k:Au):Bool:=(Vj xs k).isSome
def Xh (k:Au)(v:T):List (Au×T)→List (Au×T)
 | []=>[(k,v)]
 | p::r=>bif De k p.1 then(k,v)::p::r else p::Xh k v r
def Nl (xs:List (Au×T))(k:Au)(v:T):List (Au×T):=xs.map λp=>bif decide (p.1=k) then(k,v) else p
def Xg (xs:List (Au×T))(k:Au)(v:T):List (Au×T):=bif Wf xs k then Nl xs k v else Xh k v xs
end
end Go.Proofs.YtghdglcmblpbeaaGreatDoor
namespace Go.Proofs.YtghdglcmblpbeaaGreatDoor.Q
open Go Go.RowKit
set_option linter.unusedVariables false
set_option linter.unusedSimpArgs false
theorem Sr (s:ByteArray):MapKept.IsKey .string (.string s):=by simp[MapKept.IsKey]
theorem Ns.keys {Z:Fz}:∀{f:List (List UInt8×Rp)} {es:List MapEntry},Ns Z f es→∀x∈es,MapKept.IsKey .string x.key
 | [],[],_,x,hx=>by cases hx
 | p::f,e::es,⟨⟨h1,h2⟩,h3⟩,x,hx=>by
  rcases List.mem_cons.1 hx with rfl | hx
  ·rw[h1];exact Sr _
  ·exact Ns.keys h3 x hx
theorem Ns.at {Z:Fz}:∀{f:List (List UInt8×Rp)} {es:List MapEntry},Ns Z f es→f.length=es.length∧∀(j:Nat) (e:MapEntry),es[j]? =some e→∃k r,f[j]? =some (k,r)∧e.key = .string (B k)∧r.p Z e.val
 | [],[],_=>⟨rfl,λj e h=>by simp at h⟩
 | p::f,e::es,⟨⟨h1,h2⟩,h3⟩=>by
  obtain⟨hl,ha⟩:=Ns.at h3;refine⟨by simp[hl],λj e' hj=>?_⟩
  cases j with
  | zero=>simp at hj;subst hj;exact⟨p.1,p.2,rfl,h1,h2⟩
  | succ j=>simp at hj;simpa using ha j e' hj
theorem Ns.of {Z:Fz}:∀{f:List (List UInt8×Rp)} {es:List MapEntry},f.length=es.length→(∀(j:Nat) (e:MapEntry),es[j]? =some e→∃k r,f[j]? =some (k,r)∧e.key = .string (B k)∧r.p Z e.val)→Ns Z f es
 | [],[],_,_=>trivial
 | p::f,e::es,hl,h=>by
  obtain⟨k,r,h1,h2,h3⟩:=h 0 e rfl;simp at h1;subst h1;exact⟨⟨h2,h3⟩,Ns.of (by simpa using hl) λj e' hj=>by simpa using h (j+1) e' (by simpa using hj)⟩
 | [],_::_,hl,_=>by simp at hl
 | _::_,[],hl,_=>by simp at hl
theorem Ns.filter {Z:Fz}(q:MapEntry→Bool):∀{f:List (List UInt8×Rp)} {es:List MapEntry},Ns Z f es→∃g,Ns Z g (es.filter q)∧g.Sublist f
 | [],[],_=>⟨[],trivial,List.Sublist.refl _⟩
 | p::f,e::es,⟨h,h3⟩=>by
  obtain⟨g,hg,hs⟩:=Ns.filter q h3
  cases hq:q e with
  | true=>exact⟨p::g,by rw[List.filter_cons_of_pos hq];exact⟨h,hg⟩,hs.cons_cons p⟩
  | false=>exact⟨g,by rw[List.filter_cons_of_neg (by simp[hq])];exact hg,hs.cons p⟩
theorem Xy {a b:List UInt8}(h:B a=B b):a=b:=by
 have:=congrArg ByteArray.toList h
 rwa [E2,E2] at this
theorem To {a b:List UInt8}(h:Value.string (B a) = .string (B b)):a=b:=Xy (by cases h;rfl)
section
variable {P : Program} {n : Nat} {c : Cx} {ops : Array Oper} {Q : Exit → Act → World → Prop} {rest : List Oper} {l : Fr} {H : List Ent} {d : Nat} {d' : Option Nat} {ty t kt et rty : TypeId} {pos : String} {af : Array Edge} {g : Option (Nat × Bool)} {x y u : Operand} {K : Act → World → Prop} {cx : Code}
variable {T : Type} {enc : T → Rp} {xs : List (Au × T)} {z : T} {k : Au} {zv : Value} {i b : Nat}
theorem Jp.length {Z:Fz}{m:List (List UInt8×Rp)}{es:List MapEntry}{ck:Nat}(h:Jp Z m es ck):es.length=m.length:=by
 obtain⟨_,_,_,f,h4,h5⟩:=h;rw[← h5.at.1,h4.length_eq]
theorem T7 {m f:List (Au×Rp)}(h:f.Perm m)(k:Au)(r:Rp):(Nl f k r).Perm (Nl m k r):=h.map _
theorem Rj {T:Type}:∀{f:List (Au×T)} {j:Nat} {k:Au} {r0:T} (r:T),(f.map (·.1)).Nodup→f[j]? =some (k,r0)→Nl f k r=f.set j (k,r)
 | p::f,0,k,r0,r,hn,h=>by
  simp at h;subst h;rw[YK,List.nodup_cons] at hn;have:Nl f k r=f:=by
   unfold Nl;rw[List.map_congr_left (g:=id) (λq hq=>?_),List.map_id];have hne : ¬ q.1=k:=λe=>hn.1 (by rw[← e];exact List.mem_map.2 ⟨q,hq,rfl⟩);rw[XY hne];rfl
  show(bif decide (k=k) then(k,r) else(k,r0))::Nl f k r=_;rw[Ye rfl,this];rfl
 | p::f,j+1,k,r0,r,hn,h=>by
  rw[YK,List.nodup_cons] at hn;simp at h;have hne : ¬ p.1=k:=λe=>hn.1 (by rw[e];exact List.mem_map.2 ⟨(k,r0),Yh h,rfl⟩);show(bif decide (p.1=k) then(k,r) else p)::Nl f k r=_;rw[XY hne,Rj r hn.2 h];rfl
theorem Sl {T:Type}(m:List (Au×T))(k:Au)(r:T):(Nl m k r).map (·.1)=m.map (·.1):=by
 unfold Nl;rw[List.map_map];refine List.map_congr_left λp _=>?_;simp only[Function.comp]
 by_cases h:p.1=k
 ·rw[Ye h];exact h.symm
 ·rw[XY h];rfl
theorem Sm {T:Type}{m:List (Au×T)}{k:Au}{r:T}(h:Vj m k=some r):Wf m k=true:=by unfold Wf;rw[h];rfl
theorem Jp.put {Z:Fz}{m:List (Au×Rp)}{es:List MapEntry}{ck j:Nat}{e:MapEntry}{k:Au}{r0 r:Rp}{v:Value}(h:Jp Z m es ck)(he:es[j]? =some e)(hk:e.key = .string (B k))(hm:Vj m k=some r0)(hr:r.p Z v) :
  Jp Z (Xg m k r) (es.set j { e with key:=.string (B k),val:=v }) ck:=by
 obtain⟨h1,h2,h3,f,h4,h5⟩:=h;obtain⟨hl,ha⟩:=h5.at;have hjl:=(List.getElem?_eq_some_iff.1 he).1;unfold Xg;rw[Sm hm,Yg];obtain⟨k',r',e1,e2,_⟩:=ha j e he;rw[hk] at e2;obtain rfl:=To e2;have hfn:(f.map (·.1)).Nodup:=(h4.map (·.1)).nodup_iff.2 h1;refine⟨by rw[Sl];exact h1,?_,?_,f.set j (k,r),?_,Ns.of (by simp[hl]) λi x hx=>?_⟩
 ·rw[List.map_set];have:(es.map (·.born)).set j e.born=es.map (·.born):=by
   apply List.ext_getElem?;intro i;rw[List.getElem?_set]
   split
   ·rename_i hij;subst hij
    simp[hjl,List.getElem?_eq_some_iff.1 he |>.2]
   ·rfl
  show((es.map (·.born)).set j e.born).Nodup;rw[this];exact h2
 ·intro x hx;rcases List.mem_or_eq_of_mem_set hx with hx | rfl
  ·exact h3 x hx
  ·exact h3 e (Yh he)
 ·have:=T7 h4 k r
  rwa [Rj r hfn e1] at this
 ·rw[List.getElem?_set] at hx ⊢
  split at hx
  ·rename_i hij;subst hij
   cases hx
   exact⟨k,r,by rw[if_pos rfl,if_pos (by rw[hl];exact hjl)],rfl,hr⟩
  ·rename_i hij
   rw[YJ hij];exact ha i x hx
end
theorem Bm.d1 {Z:Fz}{r0:Rp}{us:List Value}(h:Bm Z [r0] us):∃y0,us=[y0]∧Bm Z [r0] [y0]:=by
 match us,h.length with
 | [y0],_=>exact⟨_,rfl,h⟩
theorem Bm.d2 {Z:Fz}{r0 r1:Rp}{us:List Value}(h:Bm Z [r0,r1] us):∃y0 y1,us=[y0,y1]∧Bm Z [r0,r1] [y0,y1]:=by
 match us,h.length with
 | [y0,y1],_=>exact⟨_,_,rfl,h⟩
section
variable {P : Program} {n : Nat} {c : Cx} {ops : Array Oper} {Q : Exit → Act → World → Prop} {rest : List Oper} {l : Fr} {H H' : List Ent} {d : Nat} {d' : Option Nat} {ty t e rty : TypeId} {pos : String} {af : Array Edge} {g : Option (Nat × Bool)} {x y u : Operand} {v : Value} {sz m : Nat}
end
end Go.Proofs.YtghdglcmblpbeaaGreatDoor.Q
namespace Go.Proofs.YtghdglcmblpbeaaGreatDoor
open Go
end Go.Proofs.YtghdglcmblpbeaaGreatDoor
namespace Go.Proofs.YtghdglcmblpbeaaGreatDoor.Q
open Go Go.RowKit
set_option linter.unusedVariables false
set_option linter.unusedSimpArgs false
section
variable {P : Program} {n : Nat} {c : Cx} {Q : Exit → Act → World → Prop} {l : Fr} {H : List Ent} {x rest' : Code} {K : Act → World → Prop}
end
section
variable {P : Program} {n : Nat} {c : Cx} {ops : Array Oper} {Q : Exit → Act → World → Prop} {rest : List Oper} {l : Fr} {H H' : List Ent} {d : Nat} {d' : Option Nat} {x y z3 z4 : Operand} {ty t t' e : TypeId} {pos : String} {af : Array Edge} {g : Option (Nat × Bool)} {v u : Value} {r : Rp} {sz : Nat}
end
structure Sx (U:Type) where
 deps:List Nat
 r:U→Rp
 dyn:Bool:=false
 old:List Nat:=[]
def SK {U:Type}(sp:List (Sx U))(i:Nat):Sx U:=sp.getD i { deps:=[],r:=λ_=>rv undef }
def X0 {U:Type}(sp:List (Sx U))(u:U):List Sp:=sp.map λs=>⟨s.deps,s.r u,0⟩
def VE {U:Type}:List (Sx U)→Prop
 | []=>True
 | s::r=>(s.dyn=false→∀u u',s.r u=s.r u')∧VE r
theorem VE.at {U:Type}:∀{sp:List (Sx U)},VE sp→∀{i:Nat} {s:Sx U},sp[i]? =some s→s.dyn=false→∀u u',s.r u=s.r u'
 | [],_,i,s,h=>by simp at h
 | x::sp,⟨h1,h2⟩,0,s,h=>by simp at h;subst h;exact h1
 | x::sp,⟨h1,h2⟩,i+1,s,h=>VE.at h2 (by simpa using h)
def Ka (lw:Fr):List Nat→Fr→Fr
 | [],l=>l
 | d::r,l=>match look lw d with
  | some q=>(d,q)::Ka lw r l
  | none=>Ka lw r l
section
variable (P : Program) (n : Nat) (c : Cx) (opsA : Array Oper) (Q : Exit → Act → World → Prop)
def XO {U:Type}(l:Fr)(H:List Ent)(o:Oper)(r:U→Rp)(H1:U→List Ent):Prop:=
 ∀a w Z (K:Act→World→Prop),Dc n l a Z→St c H Z w→(∀u v w' Z',Fz.le Z Z'→(r u).p Z' v→St c (H1 u) Z' w'→K (a.put o.dst v) w')→
  Region.wanted o (yielded opsA a.tmps)=true∧o.wp P a w K Q
def VH {U:Type}(ops:List Oper)(sp:List (Sx U))(l0 lw:Fr)(i0:Nat)(H:List Ent)(H1:U→List Ent):Nat→List Oper→Prop
 | i,o::rest=>(if i=i0 then(∀u,XO P n c opsA Q (Ka lw (SK sp i).old (Cp ops (X0 sp u) (SK sp i).deps l0)) H o (SK sp i).r H1) else ∀u H,E0 P n c opsA Q (Ka lw (SK sp i).old (Cp ops (X0 sp u) (SK sp i).deps l0)) H o ((SK sp i).r u) H)∧VH ops sp l0 lw i0 H H1 (i+1) rest
 | _,[]=>True
end
section
variable {P : Program} {n : Nat} {c : Cx} {opsA : Array Oper} {Q : Exit → Act → World → Prop} {l l0 lw : Fr} {U : Type} {H : List Ent} {H1 : U → List Ent} {sp : List (Sx U)} {i0 : Nat}
theorem VH.at {ops:List Oper}:∀{k:Nat} {rest:List Oper},VH P n c opsA Q ops sp l0 lw i0 H H1 k rest→∀(t:Nat) o,rest[t]? =some o→
  (if k+t=i0 then(∀u,XO P n c opsA Q (Ka lw (SK sp (k+t)).old (Cp ops (X0 sp u) (SK sp (k+t)).deps l0)) H o (SK sp (k+t)).r H1) else ∀u H,E0 P n c opsA Q (Ka lw (SK sp (k+t)).old (Cp ops (X0 sp u) (SK sp (k+t)).deps l0)) H o ((SK sp (k+t)).r u) H)
 | k,o::rest,⟨h1,h2⟩,t,o',ht=>by
  cases t with
  | zero=>simp at ht;subst ht;exact h1
  | succ t=>
   have:=VH.at h2 t o' (by simpa using ht);rw[show k+(t+1)=k+1+t from by omega];exact this
 | _,[],_,t,o,h=>by simp at h
end
section
variable {P : Program} {n : Nat} {c : Cx} {opsA : Array Oper} {Q : Exit → Act → World → Prop} {l : Fr} {H : List Ent} {d : Nat} {x y : Operand} {ty t e : TypeId} {pos : String} {af : Array Edge} {v : Value} {sz : Nat}
end
abbrev Ux:=Nat→Nat→Value×Nat
def Ag (k:Nat)(u u':Ux):Prop:=∀j,j<k→u j=u' j
structure Sy where
 deps:List Nat
 r:Ux→Rp
 lv:Nat:=0
 fx:Bool:=false
 old:List Nat:=[]
def SJ (sp:List Sy)(i:Nat):Sy:=sp.getD i { deps:=[],r:=λ_=>rv undef }
def XC (sp:List Sy)(u:Ux):List Sp:=sp.map λs=>⟨s.deps,s.r u,0⟩
def R4:List Sy→Prop
 | []=>True
 | s::r=>(∀u u',Ag s.lv u u'→s.r u=s.r u')∧R4 r
theorem R4.at:∀{sp:List Sy},R4 sp→∀{i:Nat} {s:Sy},sp[i]? =some s→∀u u',Ag s.lv u u'→s.r u=s.r u'
 | [],_,i,s,h=>by simp at h
 | x::sp,⟨h1,h2⟩,0,s,h=>by simp at h;subst h;exact h1
 | x::sp,⟨h1,h2⟩,i+1,s,h=>R4.at h2 (by simpa using h)
def cnt (S:Nat→Bool)(is:List Nat):Nat:=(is.filter S).length
section
variable (P : Program) (n : Nat) (c : Cx) (opsA : Array Oper) (Q : Exit → Act → World → Prop)
def XQ (l:Fr)(H:List Ent)(o:Oper)(k:Nat)(u:Ux)(r:Ux→Rp)(H1:Ux→List Ent):Prop:=
 ∀a w Z (K:Act→World→Prop),Dc n l a Z→St c H Z w→(∀u' v w' Z',Ag k u u'→Fz.le Z Z'→(r u').p Z' v→St c (H1 u') Z' w'→K (a.put o.dst v) w')→
  Region.wanted o (yielded opsA a.tmps)=true∧o.wp P a w K Q
def XP (ops:List Oper)(sp:List Sy)(l0 lw:Fr)(is:List Nat)(hs:List (Ux→List Ent))(i:Nat)(o:Oper):Prop:=
 match is.findIdx? (λx=>Nat.beq x i) with
 | some k=>∀u,XQ P n c opsA Q (Ka lw (SJ sp i).old (Cp ops (XC sp u) (SJ sp i).deps l0)) (hs.getD k (λ_=>[]) u) o k u (SJ sp i).r (hs.getD (k+1) (λ_=>[]))
 | none=>if (SJ sp i).fx=true then ∀u,E0 P n c opsA Q (Ka lw (SJ sp i).old (Cp ops (XC sp u) (SJ sp i).deps l0)) (hs.getD (SJ sp i).lv (λ_=>[]) u) o ((SJ sp i).r u) (hs.getD (SJ sp i).lv (λ_=>[]) u)
  else ∀u H,E0 P n c opsA Q (Ka lw (SJ sp i).old (Cp ops (XC sp u) (SJ sp i).deps l0)) H o ((SJ sp i).r u) H
def VG (ops:List Oper)(sp:List Sy)(l0 lw:Fr)(is:List Nat)(hs:List (Ux→List Ent)):Nat→List Oper→Prop
 | i,o::rest=>XP P n c opsA Q ops sp l0 lw is hs i o∧VG ops sp l0 lw is hs (i+1) rest
 | _,[]=>True
end
section
variable {P : Program} {n : Nat} {c : Cx} {opsA : Array Oper} {Q : Exit → Act → World → Prop} {l l0 lw : Fr} {H : List Ent} {hs : List (Ux → List Ent)} {sp : List Sy} {is : List Nat}
theorem VG.at {ops:List Oper}:∀{k:Nat} {rest:List Oper},VG P n c opsA Q ops sp l0 lw is hs k rest→∀(t:Nat) o,rest[t]? =some o→XP P n c opsA Q ops sp l0 lw is hs (k+t) o
 | k,o::rest,⟨h1,h2⟩,t,o',ht=>by
  cases t with
  | zero=>simp at ht;subst ht;exact h1
  | succ t=>
   have:=VG.at h2 t o' (by simpa using ht);rw[show k+(t+1)=k+1+t from by omega];exact this
 | _,[],_,t,o,h=>by simp at h
end
section
variable {P : Program} {n : Nat} {c : Cx} {opsA : Array Oper} {Q : Exit → Act → World → Prop} {l : Fr} {H : List Ent} {d : Nat} {x y : Operand} {ty t e : TypeId} {pos : String} {af : Array Edge} {v : Value} {sz : Nat}
end
end Go.Proofs.YtghdglcmblpbeaaGreatDoor.Q
