/-
  Texts of the proof, put together: WVd, PVe, WVe, PVf, WVf, PVg, QU, QT, WVg, PVh, QN, WVh, PFa, QW, PM, QM, QV, PH, QJ, QX, QL.
-/
import Derived.Test.YtghdglcmblpbeaaGreatDoorFD2
import Derived.Laws.StructEq
import Derived.Laws.Cover3
import Derived.MapKept
import Derived.Maps.RangeRun
import GoSem.Op.IntBits
import GoSem.Op.Shift
import Derived.ScopeJumps
import Derived.Laws.CopyRow
import Derived.Laws.IdiomCopy
import Derived.Laws.OwnMore
namespace Go.Proofs.YtghdglcmblpbeaaGreatDoor.Q
open Go Go.RowKit
set_option linter.unusedVariables false
set_option linter.unusedSimpArgs false
set_option maxRecDepth 100000
set_option maxHeartbeats 4000000
theorem GB {n:Nat}{c:Cx}{l:Fr}{H:List Ent}{d:Option Nat}{ty:TypeId}{pos:String}{af:Array Edge}{g:Option (Nat×Bool)}{x0:Operand}{r0:Rp}(h0:ev l x0=some r0)(u0:r0.one=true):B2 Tryz.prog n c l H { dst:=d,op:=.build 54 #[(0,x0)],type:=ty,pos:=pos,after:=af,guard:=g } (Bt [r0,Al 0,rS ([]:Aw),Al 0]):=λa w Z ha _=>by
  have p0:=ha.ev h0;have c0:=BZ (r0.hone u0 Z _ p0);have hb:Tryz.prog.built 54 [(0,a.eval x0)]=some #[a.eval x0,(.int .i64 0),(.string ⟨#[]⟩),(.int .i64 0)]:=by
    rw[LG];generalize a.eval x0=v0 at *;simp[Instr.fill,c0]
  refine⟨.agg #[a.eval x0,(.int .i64 0),(.string ⟨#[]⟩),(.int .i64 0)],⟨[a.eval x0,(.int .i64 0),(.string ⟨#[]⟩),(.int .i64 0)],rfl,p0,rfl,rfl,rfl,trivial⟩,?_⟩;have:=run_build w 54 #[(0,a.eval x0)] _ (by simpa using hb);simp[execOp,this]
theorem TN (parts:List (Nat×Value)):Tryz.prog.built 106 parts=Instr.fill (λi=>(#[(0,1),(1,1),(2,1),(3,1)]:Array (Nat×Nat))[i]?) #[(.string ⟨#[]⟩),(.int .i64 0),((.slice none 0 0)),(.bool false)] parts:=by kernel_rfl
theorem NY {n:Nat}{c:Cx}{l:Fr}{H:List Ent}{d:Option Nat}{ty:TypeId}{pos:String}{af:Array Edge}{g:Option (Nat×Bool)}{x0:Operand}{r0:Rp}(h0:ev l x0=some r0)(u0:r0.one=true):B2 Tryz.prog n c l H { dst:=d,op:=.build 106 #[(0,x0)],type:=ty,pos:=pos,after:=af,guard:=g } (Bt [r0,Al 0,rv (.slice none 0 0),rB false]):=λa w Z ha _=>by
  have p0:=ha.ev h0;have c0:=BZ (r0.hone u0 Z _ p0);have hb:Tryz.prog.built 106 [(0,a.eval x0)]=some #[a.eval x0,(.int .i64 0),((.slice none 0 0)),(.bool false)]:=by
    rw[TN];generalize a.eval x0=v0 at *;simp[Instr.fill,c0]
  refine⟨.agg #[a.eval x0,(.int .i64 0),((.slice none 0 0)),(.bool false)],⟨[a.eval x0,(.int .i64 0),((.slice none 0 0)),(.bool false)],rfl,p0,rfl,rfl,rfl,trivial⟩,?_⟩;have:=run_build w 106 #[(0,a.eval x0)] _ (by simpa using hb);simp[execOp,this]
theorem MU (s:Aw)(p:Aw)(r:Bool)(h:G5 s p=some r):Fn Tryz.prog GE 136 [rS s,rS p] [] (λR H=>R=rB r∧H=[]):=by
 refine enter (n:=18) Tryz.func136 rfl Tryz.ntmps136 rfl (λw Z=>?_);unfold G5 at h;refine Af (wa rfl (Am (ck h λg1 h2=>AE [(4,rB ((decide ((p.length:Int)≤(s.length:Int)))&&(decide ((List.take (B0 (p.length:Int)) s)=p))))] [] ?_ ?_)))
 ·refine Aj (wm rfl (wv (BP D4 rfl) (wm rfl (wv (BP D4 rfl) (wv (EI rfl rfl) (wm rfl (AH (decide ((p.length:Int)≤(s.length:Int))) (λc3=>?_) (λc3=>?_))))))))
  ·refine wo c3 (wm rfl (wo c3 (wm rfl (wo c3 (wv (BP D4 rfl) (wo c3 (wv (Jv D4 rfl rfl (BE g1 c3)) (wo c3 (wm rfl (wo c3 (wv (DT rfl rfl) (BR rfl c3 rfl (wa rfl (Ai ?_))))))))))))));exact BD c3
  ·refine wf c3 (wf c3 (wf c3 (wf c3 (wf c3 (wf c3 (wv (r:=rB false) (Ak rfl c3 rfl) (wa rfl (Ai ?_))))))));exact BD c3
 refine Aq ?_;obtain rfl:=Ao h2;exact Ap (Bs Tryz.results136 (A5 rfl)) sN ⟨rfl,rfl⟩
theorem GH (s:Aw)(p:Aw)(r:Bool)(h:Dn s p=some r):Fn Tryz.prog GE 98 [rS s,rS p] [] (λR H=>R=rB r∧H=[]):=by
 refine enter (n:=8) Tryz.func98 rfl Tryz.ntmps98 rfl (λw Z=>?_);unfold Dn at h;refine Af (wa rfl (Bb (wm rfl (wm rfl (ob h λr1 e3 h2=>BL Tryz.call136 (MU s p r1 e3) rfl (wa rfl (Am (Aq ?_))))))));obtain rfl:=Ao h2;exact Ap (Bs Tryz.results98 (A5 rfl)) sN ⟨rfl,rfl⟩
theorem Ds (ha:Nat)(hb:Value)(q:A0)(s:Aw)(r:Bool×A0)(h:ED q s=some r):Fn Tryz.prog GE 117 [rP ha 0,rS s] [.blk ha [rS q.fS,Al q.fAt,rv hb,rB q.fGreat] 106,.row hb 54 4 (A2 Ab q.fCells)] (λR H=>∃w0_2:Value,R=rB r.1∧H=[.blk ha [rS r.2.fS,Al r.2.fAt,rv w0_2,rB r.2.fGreat] 106,.row w0_2 54 4 (A2 Ab r.2.fCells)]):=by
 refine enter (n:=26) Tryz.func117 rfl Tryz.ntmps117 rfl (λw Z=>?_);unfold ED at h;refine Af (wa rfl (Am (An (An (ck h λg1 h2=>ob h2 λr3 e5 h4=>C7 [0,1] [⟨[],rP ha 0,0⟩,⟨[0],rP ha 0,0⟩,⟨[1],rP ha 0,0⟩,⟨[2],rS q.fS,1⟩,⟨[],rP ha 0,0⟩,⟨[4],rP ha 0,0⟩,⟨[5],rP ha 1,0⟩,⟨[6],Al q.fAt,1⟩,⟨[3,7],rS (List.drop (B0 q.fAt) q.fS),0⟩,⟨[],rS s,0⟩,⟨[8,9],rB r3,0⟩,⟨[10],rB (!r3),0⟩] [16,0,1] ?_ ?_)))))
 ·refine oq (A3 rfl) (oq (A8 rfl) (oq (AI B4 rfl C6 rfl rfl) (of (Bp (i:=0) CG rfl rfl rfl) (oq (A3 rfl) (oq (A8 rfl) (oq (AI B4 rfl B3 rfl rfl) (of (Bp (i:=0) BG rfl rfl rfl) (oq (HV D4 rfl rfl g1) (oq (A3 rfl) (CJ rfl (λH=>Dj Tryz.call98 (GH (List.drop (B0 q.fAt) q.fS) s r3 e5) rfl) ?_))))))))));refine oq (Bu rfl) ?_;exact Cr
 refine AD (cz h4 rfl (λc6 h7=>?_) (λc6 h8=>?_))
 ·refine Af (wa rfl (Am (Aq (Ac ?_))));obtain rfl:=Ao h7;exact Ap (Bs Tryz.results117 (A5 rfl)) (sC (sC sN)) ⟨hb,rfl,rfl⟩
 ·refine At (AD (Af (wm rfl (wv (A8 rfl) (vF B4 rfl B3 (vL 0 BG rfl (wm rfl (wv (BP D4 rfl) (ck h8 λg9 he=>wv (Be rfl rfl g9) (wv (A8 rfl) (vF B4 rfl B3 (BF (i:=0) B3 rfl rfl (BQ rfl) rfl rfl (cs':=[rS q.fS,Al (q.fAt+(s.length:Int)),rv hb,rB q.fGreat]) rfl (H':=[.blk ha [rS q.fS,Al (q.fAt+(s.length:Int)),rv hb,rB q.fGreat] 106,.row hb 54 4 (A2 Ab q.fCells)]) rfl (Bb (wa rfl (Am (Aq ?_))))))))))))))));obtain rfl:=Ao he;exact Ap (Bs Tryz.results117 (A5 rfl)) (sC (sC sN)) ⟨hb,rfl,rfl⟩
theorem QB (F:Nat)(ha:Nat)(hq:Value)(q:A0)(r:Aw×Bool×A0)(h:QC F q=some r):Fn Tryz.prog GE 119 [rP ha 0] [.blk ha [rS q.fS,Al q.fAt,rv hq,rB q.fGreat] 106,.row hq 54 4 (A2 Ab q.fCells)] (λR H=>∃w0_2:Value,R=Dx [rS r.1,rB r.2.1]∧H=[.blk ha [rS r.2.2.fS,Al r.2.2.fAt,rv w0_2,rB r.2.2.fGreat] 106,.row w0_2 54 4 (A2 Ab r.2.2.fCells)]):=by
 refine enter (n:=104) Tryz.func119 rfl Tryz.ntmps119 rfl (λw Z=>?_);unfold QC at h;refine Af (wv (r:=rS ([]:Aw)) (AG rfl) (wa rfl (Am (An (Af (wm rfl (ob h λr1 e3 h2=>DP (Hr:=[]) Gi (Ds ha hq q ([34]:Aw) r1 e3) rfl (Xv _) rfl ?_)))))));rintro _ _ ⟨v4,rfl,rfl⟩;refine wv (Bu rfl) (Am (cz h2 rfl (λc5 h6=>?_) (λc5 h7=>?_)))
 ·refine Af (wv (r:=rS ([]:Aw)) (AG rfl) (wa rfl (Am (Aq (Ac ?_)))));obtain rfl:=Ao h6;exact Ap (Eb O8 (A5 rfl) (A5 rfl)) (sC (sC sN)) ⟨v4,rfl,rfl⟩
 ·refine At (AD (Af (wa rfl (Am (An (A6 (WC.nilrow (e:=5) (sz:=1) (NF (H2:=[.blk ha [rS r1.2.fS,Al r1.2.fAt,rv v4,rB r1.2.fGreat] 106,.row v4 54 4 (A2 Ab r1.2.fCells),.row (.slice none 0 0     ) 5 1 (A2 BA ([]:List Int))]) ((A1 (i:=1) rfl).trans (Xx _ ((A1 (i:=1) rfl).trans (Xx _ (Xv _))))) (ob h7 λhw hx hl=>Bd (S:=Nat×((List Int)×Int)×(Value)) (V:=(Int)×(Unit)) 0 (λσ=>Cf (λσ=>JA r1 σ.1 σ.2) σ.1 σ.2.1=some hw) (λσ=>[(0,rP ha 0),(4,rv σ.2.2)]) (λσ=>[.blk ha [rS r1.2.fS,Al σ.2.1.2,rv v4,rB r1.2.fGreat] 106,.row v4 54 4 (A2 Ab r1.2.fCells),.row σ.2.2 5 1 (A2 BA σ.2.1.1)]) (λσ=>σ.1) (F,(([]:List Int),r1.2.fAt),(.slice none 0 0     )) hx (Az.c rfl (Az.c rfl Az.nil)) (sC (sC (sC sN))) (λσ=>J9 r1 σ.1=some r) (λσ=>[]) (λσ=>[.blk ha [rS r1.2.fS,Al σ.1,rv v4,rB r1.2.fGreat] 106,.row v4 54 4 (A2 Ab r1.2.fCells)]) ?_ ?_)))))))))
  ·rintro⟨gb,⟨hg,hb⟩,hh⟩ hy;refine B7 (l':=[(0,rP ha 0),(4,rv hh)]) (H':=[.blk ha [rS r1.2.fS,Al hb,rv v4,rB r1.2.fGreat] 106,.row v4 54 4 (A2 Ab r1.2.fCells),.row hh 5 1 (A2 BA hg)]) rfl rfl ?_;obtain⟨hz,rfl,hr,hm,hk⟩:=Ca hy;replace hm:JA r1 hg hb=some hr:=hm;unfold JA at hm;refine An (An (C7 [0,4] [⟨[],rP ha 0,0⟩,⟨[0],rP ha 0,0⟩,⟨[1],rP ha 1,0⟩,⟨[2],Al hb,1⟩,⟨[],rP ha 0,0⟩,⟨[4],rP ha 0,0⟩,⟨[5],rP ha 0,0⟩,⟨[6],rS r1.2.fS,1⟩,⟨[7],Al (r1.2.fS.length:Int),0⟩,⟨[3,8],rB (decide (hb<(r1.2.fS.length:Int))),0⟩] [9,10,11,12,13,14,15,16,17,18,0,4] ?_ ?_))
   ·refine oq (A3 rfl) (oq (A8 rfl) (oq (AI B4 rfl B3 rfl rfl) (of (Bp (i:=0) BG rfl rfl rfl) (oq (A3 rfl) (oq (A8 rfl) (oq (AI B4 rfl C6 rfl rfl) (of (Bp (i:=0) CG rfl rfl rfl) (oq (BP D4 rfl) (oq (Cl rfl rfl) ?_)))))))));exact Cr
   refine AD (cz hm rfl (λh0 h1=>?_) (λh0 h3=>?_))
   ·refine At (AD (A6 (An (ck h1 λh4 h5=>C7 [0,4,9,10,11,12,13,14,15,16,17] [⟨[],rP ha 0,0⟩,⟨[0],rP ha 0,0⟩,⟨[1],rP ha 0,0⟩,⟨[2],rS r1.2.fS,1⟩,⟨[],rP ha 0,0⟩,⟨[4],rP ha 0,0⟩,⟨[5],rP ha 1,0⟩,⟨[6],Al hb,1⟩,⟨[3,7],rI .u8 (Cn r1.2.fS hb),0⟩,⟨[8],rI .u8 (Cn r1.2.fS hb),0⟩] [19,20,21,22,23,24,25,26,27,5,0,4,9,10,11,12,13,14,15,16,17] ?_ ?_))))
    ·refine oq (A3 rfl) (oq (A8 rfl) (oq (AI B4 rfl C6 rfl rfl) (of (Bp (i:=0) CG rfl rfl rfl) (oq (A3 rfl) (oq (A8 rfl) (oq (AI B4 rfl B3 rfl rfl) (of (Bp (i:=0) BG rfl rfl rfl) (oq (BH D4 rfl rfl h4) (oq (AG rfl) ?_)))))))));exact Cr
    refine AD (Af (wm rfl (wv (A8 rfl) (vF B4 rfl B3 (vL 0 BG rfl (ck h5 λh8 h9=>wv (Be rfl rfl h8) (wv (A8 rfl) (vF B4 rfl B3 (BF (i:=0) B3 rfl rfl (BQ rfl) rfl rfl (cs':=[rS r1.2.fS,Al (hb+1),rv v4,rB r1.2.fGreat]) rfl (H':=[.blk ha [rS r1.2.fS,Al (hb+1),rv v4,rB r1.2.fGreat] 106,.row v4 54 4 (A2 Ab r1.2.fCells),.row hh 5 1 (A2 BA hg)]) rfl (Am (BX (S:=(Int×Int)×(Unit)) (λσ=>Iw hg σ.1.1 σ.1.2=some hr) (λσ=>[(0,rP ha 0),(4,rv hh),(5,rI .u8 σ.1.1),(9,rP ha 0),(10,rP ha 0),(11,rP ha 1),(12,Al hb),(13,rP ha 0),(14,rP ha 0),(15,rP ha 0),(16,rS r1.2.fS),(17,Al (r1.2.fS.length:Int)),(19,rP ha 0),(20,rP ha 0),(21,rP ha 0),(22,rS r1.2.fS),(23,rP ha 0),(24,rP ha 0),(25,rP ha 1),(26,Al hb),(27,rI .u8 (Cn r1.2.fS hb))]) (λσ=>[.blk ha [rS r1.2.fS,Al σ.1.2,rv v4,rB r1.2.fGreat] 106,.row v4 54 4 (A2 Ab r1.2.fCells),.row hh 5 1 (A2 BA hg)]) ?_ ?_)))))))))))
    ·refine A6 (Af (wm rfl (wv (AX rfl rfl) (wa rfl (Am (cz h9 rfl (λhA hB=>?_) (λhA hC=>?_)))))))
     ·refine Af (wm rfl (wv (r:=rS (Vo hg)) (Wx (xs:=hg) (i:=2) LL D4 Tryz.underlying5 rfl rfl) (wa rfl (wa rfl (Am (Aq (Au (Ac (Au (Ac (AP ?_)))))))))));have hD:=Bg hB hk hl;refine Au (Ac ?_);obtain rfl:=Ao hD;exact Ap (Eb O8 (A5 rfl) (A5 rfl)) (sC (sC (sS sN))) ⟨v4,rfl,rfl⟩
     ·refine AE [(0,rP ha 0),(4,rv hh),(5,rI .u8 (Cn r1.2.fS hb)),(9,rP ha 0),(10,rP ha 0),(11,rP ha 1),(12,Al hb),(13,rP ha 0),(14,rP ha 0),(15,rP ha 0),(16,rS r1.2.fS),(17,Al (r1.2.fS.length:Int)),(19,rP ha 0),(20,rP ha 0),(21,rP ha 0),(22,rS r1.2.fS),(23,rP ha 0),(24,rP ha 0),(25,rP ha 1),(26,Al hb),(27,rI .u8 (Cn r1.2.fS hb)),(40,rB ((decide ((Cn r1.2.fS hb)<32))||(decide (126<(Cn r1.2.fS hb)))))] [.blk ha [rS r1.2.fS,Al (hb+1),rv v4,rB r1.2.fGreat] 106,.row v4 54 4 (A2 Ab r1.2.fCells),.row hh 5 1 (A2 BA hg)] ?_ ?_
      ·refine Aj (wm rfl (wv (Cl rfl rfl) (wm rfl (AH (decide ((Cn r1.2.fS hb)<32)) (λhi=>?_) (λhi=>?_)))))
       ·refine wf hi (wf hi (wv (r:=rB true) (Av rfl hi rfl) (wa rfl (Ai ?_))));exact BD hi
       ·refine wo hi (wm rfl (wo hi (wv (CB rfl rfl) (Cc rfl hi rfl (wa rfl (Ai ?_))))));exact BD hi
      refine cz hC rfl (λhE hG=>?_) (λhE hH=>?_)
      ·refine Af (wv (r:=rS ([]:Aw)) (AG rfl) (wa rfl (Am (Aq (Au (Ac (Au (Ac (AP ?_)))))))));have hI:=Bg hG hk hl;refine Au (Ac ?_);obtain rfl:=Ao hI;exact Ap (Eb O8 (A5 rfl) (A5 rfl)) (sC (sC (sS sN))) ⟨v4,rfl,rfl⟩
      ·refine Af (wm rfl (wv (AX rfl rfl) (wa rfl (Am (cz hH rfl (λhJ hK=>?_) (λhJ hL=>?_))))))
       ·refine An (ck hK λhs hN=>AE [(0,rP ha 0),(4,rv hh),(9,rP ha 0),(10,rP ha 0),(11,rP ha 1),(12,Al hb),(13,rP ha 0),(14,rP ha 0),(15,rP ha 0),(16,rS r1.2.fS),(17,Al (r1.2.fS.length:Int)),(19,rP ha 0),(20,rP ha 0),(21,rP ha 0),(22,rS r1.2.fS),(23,rP ha 0),(24,rP ha 0),(25,rP ha 1),(26,Al hb),(27,rI .u8 (Cn r1.2.fS hb)),(50,rP ha 0),(51,rP ha 0),(52,rP ha 1),(53,Al (hb+1)),(54,rP ha 0),(55,rP ha 0),(56,rP ha 0),(57,rS r1.2.fS),(58,Al (r1.2.fS.length:Int)),(59,rB (decide ((r1.2.fS.length:Int)≤(hb+1)))),(60,rB (decide ((r1.2.fS.length:Int)≤(hb+1)))),(83,rB ((decide ((r1.2.fS.length:Int)≤(hb+1)))||((!decide ((Cn r1.2.fS (hb+1))=34))&&(!decide ((Cn r1.2.fS (hb+1))=92)))))] [.blk ha [rS r1.2.fS,Al (hb+1),rv v4,rB r1.2.fGreat] 106,.row v4 54 4 (A2 Ab r1.2.fCells),.row hh 5 1 (A2 BA hg)] ?_ ?_)
        ·refine AH (decide ((r1.2.fS.length:Int)≤(hb+1))) (λhe=>?_) (λhe=>?_)
         ·refine C7 [0,4,9,10,11,12,13,14,15,16,17,19,20,21,22,23,24,25,26,27] [⟨[],rP ha 0,0⟩,⟨[0],rP ha 0,0⟩,⟨[1],rP ha 1,0⟩,⟨[2],Al (hb+1),1⟩,⟨[],rP ha 0,0⟩,⟨[4],rP ha 0,0⟩,⟨[5],rP ha 0,0⟩,⟨[6],rS r1.2.fS,1⟩,⟨[7],Al (r1.2.fS.length:Int),0⟩,⟨[3,8],rB (decide ((r1.2.fS.length:Int)≤(hb+1))),0⟩,⟨[9],rB (decide ((r1.2.fS.length:Int)≤(hb+1))),0⟩,⟨[10],rv undef,0⟩,⟨[11,10],rv undef,0⟩,⟨[12,10],rv undef,0⟩,⟨[13,10],rv undef,0⟩,⟨[10],rv undef,0⟩,⟨[15,10],rv undef,0⟩,⟨[16,10],rv undef,0⟩,⟨[17,10],rv undef,0⟩,⟨[14,18,10],rv undef,0⟩,⟨[19,10],rv undef,0⟩,⟨[20,10],rv undef,0⟩,⟨[21],rv undef,0⟩,⟨[22,21],rv undef,0⟩,⟨[23,21],rv undef,0⟩,⟨[24,21],rv undef,0⟩,⟨[21],rv undef,0⟩,⟨[26,21],rv undef,0⟩,⟨[27,21],rv undef,0⟩,⟨[28,21],rv undef,0⟩,⟨[25,29,21],rv undef,0⟩,⟨[30,21],rv undef,0⟩,⟨[21,31,10],rv undef,0⟩,⟨[10,32],rB true,0⟩] [50,51,52,53,54,55,56,57,58,59,60,61,62,63,64,65,66,67,68,69,70,71,72,73,74,75,76,77,78,79,80,81,82,83,0,4,9,10,11,12,13,14,15,16,17,19,20,21,22,23,24,25,26,27] ?_ ?_
          ·refine oq (A3 rfl) (oq (A8 rfl) (oq (AI B4 rfl B3 rfl rfl) (of (Bp (i:=0) BG rfl rfl rfl) (oq (A3 rfl) (oq (A8 rfl) (oq (AI B4 rfl C6 rfl rfl) (of (Bp (i:=0) CG rfl rfl rfl) (oq (BP D4 rfl) (oq (EI rfl rfl) (oq (A3 rfl) (oz he (oz he (oz he (oz he (oz he (oz he (oz he (oz he (oz he (oz he (oz he (ou (ou ?_)))))))))))))))))))))));refine ou (ou (ou (ou (ou (ou (ou (ou (oz he (oq (Av (b:=decide ((r1.2.fS.length:Int)≤(hb+1))) rfl he rfl) ?_)))))))));exact Cr
          exact BD he
         ·refine AH (!decide ((Cn r1.2.fS (hb+1))=34)) (λhf=>?_) (λhf=>?_)
          ·refine C7 [0,4,9,10,11,12,13,14,15,16,17,19,20,21,22,23,24,25,26,27] [⟨[],rP ha 0,0⟩,⟨[0],rP ha 0,0⟩,⟨[1],rP ha 1,0⟩,⟨[2],Al (hb+1),1⟩,⟨[],rP ha 0,0⟩,⟨[4],rP ha 0,0⟩,⟨[5],rP ha 0,0⟩,⟨[6],rS r1.2.fS,1⟩,⟨[7],Al (r1.2.fS.length:Int),0⟩,⟨[3,8],rB (decide ((r1.2.fS.length:Int)≤(hb+1))),0⟩,⟨[9],rB (decide ((r1.2.fS.length:Int)≤(hb+1))),0⟩,⟨[10],rP ha 0,0⟩,⟨[11,10],rP ha 0,0⟩,⟨[12,10],rP ha 0,0⟩,⟨[13,10],rS r1.2.fS,1⟩,⟨[10],rP ha 0,0⟩,⟨[15,10],rP ha 0,0⟩,⟨[16,10],rP ha 1,0⟩,⟨[17,10],Al (hb+1),1⟩,⟨[14,18,10],rI .u8 (Cn r1.2.fS (hb+1)),0⟩,⟨[19,10],rB (!decide ((Cn r1.2.fS (hb+1))=34)),0⟩,⟨[20,10],rB (!decide ((Cn r1.2.fS (hb+1))=34)),0⟩,⟨[21],rP ha 0,0⟩,⟨[22,21],rP ha 0,0⟩,⟨[23,21],rP ha 0,0⟩,⟨[24,21],rS r1.2.fS,1⟩,⟨[21],rP ha 0,0⟩,⟨[26,21],rP ha 0,0⟩,⟨[27,21],rP ha 1,0⟩,⟨[28,21],Al (hb+1),1⟩,⟨[25,29,21],rI .u8 (Cn r1.2.fS (hb+1)),0⟩,⟨[30,21],rB (!decide ((Cn r1.2.fS (hb+1))=92)),0⟩,⟨[21,31,10],rB (!decide ((Cn r1.2.fS (hb+1))=92)),0⟩,⟨[10,32],rB (!decide ((Cn r1.2.fS (hb+1))=92)),0⟩] [50,51,52,53,54,55,56,57,58,59,60,61,62,63,64,65,66,67,68,69,70,71,72,73,74,75,76,77,78,79,80,81,82,83,0,4,9,10,11,12,13,14,15,16,17,19,20,21,22,23,24,25,26,27] ?_ ?_
           ·refine oq (A3 rfl) (oq (A8 rfl) (oq (AI B4 rfl B3 rfl rfl) (of (Bp (i:=0) BG rfl rfl rfl) (oq (A3 rfl) (oq (A8 rfl) (oq (AI B4 rfl C6 rfl rfl) (of (Bp (i:=0) CG rfl rfl rfl) (oq (BP D4 rfl) (oq (EI rfl rfl) (oq (A3 rfl) (on he (oq (A3 rfl) (on he (oq (A8 rfl) (on he (oq (AI B4 rfl C6 rfl rfl) (on he (of (Bp (i:=0) CG rfl rfl rfl) (on he (oq (A3 rfl) (on he (oq (A8 rfl) (on he ?_)))))))))))))))))))))));refine oq (AI B4 rfl B3 rfl rfl) (on he (of (Bp (i:=0) BG rfl rfl rfl) (on he (oq (BH D4 rfl rfl (BO hs he)) (on he (oq (Bo rfl rfl) (on he (oq (A3 rfl) (on hf (oq (A3 rfl) (on hf (oq (A8 rfl) (on hf (oq (AI B4 rfl C6 rfl rfl) (on hf (of (Bp (i:=0) CG rfl rfl rfl) (on hf (oq (A3 rfl) (on hf (oq (A8 rfl) (on hf (oq (AI B4 rfl B3 rfl rfl) (on hf ?_)))))))))))))))))))))));refine of (Bp (i:=0) BG rfl rfl rfl) (on hf (oq (BH D4 rfl rfl (BO hs he)) (on hf (oq (Bo rfl rfl) (on he (oq (Av rfl hf rfl) (oq (Ak rfl he rfl) ?_)))))));exact Cr
           exact BD (And.intro he hf)
          ·refine C7 [0,4,9,10,11,12,13,14,15,16,17,19,20,21,22,23,24,25,26,27] [⟨[],rP ha 0,0⟩,⟨[0],rP ha 0,0⟩,⟨[1],rP ha 1,0⟩,⟨[2],Al (hb+1),1⟩,⟨[],rP ha 0,0⟩,⟨[4],rP ha 0,0⟩,⟨[5],rP ha 0,0⟩,⟨[6],rS r1.2.fS,1⟩,⟨[7],Al (r1.2.fS.length:Int),0⟩,⟨[3,8],rB (decide ((r1.2.fS.length:Int)≤(hb+1))),0⟩,⟨[9],rB (decide ((r1.2.fS.length:Int)≤(hb+1))),0⟩,⟨[10],rP ha 0,0⟩,⟨[11,10],rP ha 0,0⟩,⟨[12,10],rP ha 0,0⟩,⟨[13,10],rS r1.2.fS,1⟩,⟨[10],rP ha 0,0⟩,⟨[15,10],rP ha 0,0⟩,⟨[16,10],rP ha 1,0⟩,⟨[17,10],Al (hb+1),1⟩,⟨[14,18,10],rI .u8 (Cn r1.2.fS (hb+1)),0⟩,⟨[19,10],rB (!decide ((Cn r1.2.fS (hb+1))=34)),0⟩,⟨[20,10],rB (!decide ((Cn r1.2.fS (hb+1))=34)),0⟩,⟨[21],rv undef,0⟩,⟨[22,21],rv undef,0⟩,⟨[23,21],rv undef,0⟩,⟨[24,21],rv undef,0⟩,⟨[21],rv undef,0⟩,⟨[26,21],rv undef,0⟩,⟨[27,21],rv undef,0⟩,⟨[28,21],rv undef,0⟩,⟨[25,29,21],rv undef,0⟩,⟨[30,21],rv undef,0⟩,⟨[21,31,10],rB false,0⟩,⟨[10,32],rB false,0⟩] [50,51,52,53,54,55,56,57,58,59,60,61,62,63,64,65,66,67,68,69,70,71,72,73,74,75,76,77,78,79,80,81,82,83,0,4,9,10,11,12,13,14,15,16,17,19,20,21,22,23,24,25,26,27] ?_ ?_
           ·refine oq (A3 rfl) (oq (A8 rfl) (oq (AI B4 rfl B3 rfl rfl) (of (Bp (i:=0) BG rfl rfl rfl) (oq (A3 rfl) (oq (A8 rfl) (oq (AI B4 rfl C6 rfl rfl) (of (Bp (i:=0) CG rfl rfl rfl) (oq (BP D4 rfl) (oq (EI rfl rfl) (oq (A3 rfl) (on he (oq (A3 rfl) (on he (oq (A8 rfl) (on he (oq (AI B4 rfl C6 rfl rfl) (on he (of (Bp (i:=0) CG rfl rfl rfl) (on he (oq (A3 rfl) (on he (oq (A8 rfl) (on he ?_)))))))))))))))))))))));refine oq (AI B4 rfl B3 rfl rfl) (on he (of (Bp (i:=0) BG rfl rfl rfl) (on he (oq (BH D4 rfl rfl (BO hs he)) (on he (oq (Bo rfl rfl) (on he (oq (A3 rfl) (oz hf (oz hf (oz hf (oz hf (oz hf (oz hf (oz hf (oz hf (oz hf (oz hf (on he (oq (Ak (b:=!decide ((Cn r1.2.fS (hb+1))=34)) rfl hf rfl) (oq (Ak rfl he rfl) ?_)))))))))))))))))))));exact Cr
           exact BD (And.intro he hf)
        refine cz hN rfl (λhO hP=>?_) (λhO hQ=>?_)
        ·refine Af (wv (r:=rS ([]:Aw)) (AG rfl) (wa rfl (Am (Aq (Ac (Au (Ac (Au (Ac (AP ?_))))))))));have hR:=Bg hP hk hl;refine Au (Ac ?_);obtain rfl:=Ao hR;exact Ap (Eb O8 (A5 rfl) (A5 rfl)) (sC (sC (sS sN))) ⟨v4,rfl,rfl⟩
        ·refine At (AD (An (ck hQ λhS hT=>C7 [0,4,9,10,11,12,13,14,15,16,17,19,20,21,22,23,24,25,26,27,50,51,52,53,54,55,56,57,58,59,60] [⟨[],rP ha 0,0⟩,⟨[0],rP ha 0,0⟩,⟨[1],rP ha 0,0⟩,⟨[2],rS r1.2.fS,1⟩,⟨[],rP ha 0,0⟩,⟨[4],rP ha 0,0⟩,⟨[5],rP ha 1,0⟩,⟨[6],Al (hb+1),1⟩,⟨[3,7],rI .u8 (Cn r1.2.fS (hb+1)),0⟩,⟨[8],rI .u8 (Cn r1.2.fS (hb+1)),0⟩] [84,85,86,87,88,89,90,91,92,5,0,4,9,10,11,12,13,14,15,16,17,19,20,21,22,23,24,25,26,27,50,51,52,53,54,55,56,57,58,59,60] ?_ ?_)))
         ·refine oq (A3 rfl) (oq (A8 rfl) (oq (AI B4 rfl C6 rfl rfl) (of (Bp (i:=0) CG rfl rfl rfl) (oq (A3 rfl) (oq (A8 rfl) (oq (AI B4 rfl B3 rfl rfl) (of (Bp (i:=0) BG rfl rfl rfl) (oq (BH D4 rfl rfl hS) (oq (AG rfl) ?_)))))))));exact Cr
         exact AD (Aj (wm rfl (wv (A8 rfl) (vF B4 rfl B3 (vL 0 BG rfl (ck hT λhU hV=>wv (Be rfl rfl hU) (wv (A8 rfl) (vF B4 rfl B3 (BF (i:=0) B3 rfl rfl (BQ rfl) rfl rfl (cs':=[rS r1.2.fS,Al ((hb+1)+1),rv v4,rB r1.2.fGreat]) rfl (H':=[.blk ha [rS r1.2.fS,Al ((hb+1)+1),rv v4,rB r1.2.fGreat] 106,.row v4 54 4 (A2 Ab r1.2.fCells),.row hh 5 1 (A2 BA hg)]) rfl (Ai (A4 (As (Ar ((Cn r1.2.fS (hb+1),(hb+1)+1),()) hV (Az.c rfl (Az.c5 rfl rfl rfl rfl rfl (Az.c5 rfl rfl rfl rfl rfl (Az.c5 rfl rfl rfl rfl rfl (Az.c5 rfl rfl rfl rfl rfl Az.nil))))) (sC (sC (sC sN))))))))))))))))
       ·exact At (A4 (As (Ar ((Cn r1.2.fS hb,hb+1),()) hL (Az.c rfl (Az.c5 rfl rfl rfl rfl rfl (Az.c5 rfl rfl rfl rfl rfl (Az.c5 rfl rfl rfl rfl rfl (Az.c5 rfl rfl rfl rfl rfl Az.nil))))) (sC (sC (sC sN))))))
    ·rintro⟨⟨hj,hn⟩,⟨⟩⟩ ho;refine B7 (l':=[(0,rP ha 0),(4,rv hh),(5,rI .u8 hj),(9,rP ha 0),(10,rP ha 0),(11,rP ha 1),(12,Al hb),(13,rP ha 0),(14,rP ha 0),(15,rP ha 0),(16,rS r1.2.fS),(17,Al (r1.2.fS.length:Int)),(19,rP ha 0),(20,rP ha 0),(21,rP ha 0),(22,rS r1.2.fS),(23,rP ha 0),(24,rP ha 0),(25,rP ha 1),(26,Al hb),(27,rI .u8 (Cn r1.2.fS hb))]) (H':=[.blk ha [rS r1.2.fS,Al hn,rv v4,rB r1.2.fGreat] 106,.row v4 54 4 (A2 Ab r1.2.fCells),.row hh 5 1 (A2 BA hg)]) rfl rfl ?_;replace ho:Iw hg hj hn=some hr:=ho;unfold Iw at ho;refine Aj (wm rfl (wm rfl (AZ (ys:=([hj]:List Int)) (enc:=BA) (css:=[[rI .u8 hj]]) (xs:=[.tmp 101]) LL Tryz.sizeOf5 WZ rfl rfl rfl ⟨EA.one rfl (Up.refl _),trivial⟩ rfl Gg rfl rfl rfl (λhW=>?_))));refine ck ho λhX hY=>Exists.elim Pp λinf hinf=>C1 (xs:=hg) (ys:=([hj]:List Int)) (enc:=BA) (i:=3) LL hinf.1 hinf.2.1 hinf.2.2.1 hinf.2.2.2 rfl rfl rfl rfl rfl (Lz.w (i:=0) rfl rfl) Gg KK hX rfl (λht=>?_);refine wa rfl (Ai (A4 (CA (H2:=[.blk ha [rS r1.2.fS,Al hn,rv v4,rB r1.2.fGreat] 106,.row v4 54 4 (A2 Ab r1.2.fCells),.row ht 5 1 (A2 BA (hg++([hj]:List Int))),.row (.slice (some ⟨hW,0,none⟩) 1 1) 5 1 (A2 BA ([hj]:List Int))]) ((A1 (i:=2) rfl).trans (Xx _ ((A1 (i:=2) rfl).trans (Xx _ (Xv _))))) ?_)));have hZ:=AW hY hk;exact As (Ar (hz,(hg++([hj]:List Int),hn),ht) ⟨hZ,X0 _⟩ (Az.c rfl (Az.c rfl Az.nil)) (sC (sC (sC (sS sN)))))
   ·refine Bl (Ay ?_);have ga:=BB h3 hk hl;exact Ay (AS (Ar (hb,()) ga Az.nil (sC (sC (sS sN)))))
  ·rintro⟨hu,⟨⟩⟩ hp;refine Ce (l':=[]) (H':=[.blk ha [rS r1.2.fS,Al hu,rv v4,rB r1.2.fGreat] 106,.row v4 54 4 (A2 Ab r1.2.fCells)]) rfl rfl ?_;replace hp:J9 r1 hu=some r:=hp;unfold J9 at hp;refine AV (AD (Af (wv (r:=rS ([]:Aw)) (AG rfl) (wa rfl (Am (Aq ?_))))));obtain rfl:=Ao hp;exact Ap (Eb O8 (A5 rfl) (A5 rfl)) (sC (sC sN)) ⟨v4,rfl,rfl⟩
theorem Ui (F:Nat)(ha:Nat)(hm:Value)(q:A0)(r:Bool×A0)(h:SL F q=some r):Fn Tryz.prog GE 144 [rP ha 0] [.blk ha [rS q.fS,Al q.fAt,rv hm,rB q.fGreat] 106,.row hm 54 4 (A2 Ab q.fCells)] (λR H=>∃w0_2:Value,R=rB r.1∧H=[.blk ha [rS r.2.fS,Al r.2.fAt,rv w0_2,rB r.2.fGreat] 106,.row w0_2 54 4 (A2 Ab r.2.fCells)]):=by
 refine enter (n:=104) Tryz.func144 rfl Tryz.ntmps144 rfl (λw Z=>?_);unfold SL at h;refine Af (wa rfl (Bb (wm rfl (wv (A8 rfl) (vF B4 rfl B3 (vL 0 BG rfl (wa rfl (Bb (wm rfl (ob h λr1 e3 h2=>DP (Hr:=[]) Gi (Ds ha hm q ([45]:Aw) r1 e3) rfl (Xv _) rfl ?_))))))))));rintro _ _ ⟨v4,rfl,rfl⟩;refine Bb (wm rfl (wv (A8 rfl) (vF B4 rfl B3 (vL 0 BG rfl (wa rfl (Am (An (A6 (ob h2 λhq hr hs=>Bd (S:=Nat×(Int)×(Unit)) (V:=(Int)×(Unit)) 0 (λσ=>Cf (λσ=>JC r1 σ) σ.1 σ.2.1=some hq) (λσ=>[(0,rP ha 0),(3,Al q.fAt),(4,Al r1.2.fAt)]) (λσ=>[.blk ha [rS r1.2.fS,Al σ.2.1,rv v4,rB r1.2.fGreat] 106,.row v4 54 4 (A2 Ab r1.2.fCells)]) (λσ=>σ.1) (F,r1.2.fAt,()) hr (Az.c rfl (Az.c rfl (Az.c rfl Az.nil))) (sC (sC sN)) (λσ=>JB q r1 σ.1=some r) (λσ=>[(0,rP ha 0),(3,Al q.fAt),(4,Al r1.2.fAt)]) (λσ=>[.blk ha [rS r1.2.fS,Al σ.1,rv v4,rB r1.2.fGreat] 106,.row v4 54 4 (A2 Ab r1.2.fCells)]) ?_ ?_)))))))))
 ·rintro⟨hI,he,⟨⟩⟩ ht;refine B7 (l':=[(0,rP ha 0),(3,Al q.fAt),(4,Al r1.2.fAt)]) (H':=[.blk ha [rS r1.2.fS,Al he,rv v4,rB r1.2.fGreat] 106,.row v4 54 4 (A2 Ab r1.2.fCells)]) rfl rfl ?_;obtain⟨hu,rfl,hw,hk,ho⟩:=Ca ht;replace hk:JC r1 he=some hw:=hk;unfold JC at hk;refine An (ck hk λhn hx=>AE [(0,rP ha 0),(3,Al q.fAt),(4,Al r1.2.fAt),(17,rP ha 0),(18,rP ha 0),(19,rP ha 1),(20,Al he),(21,rP ha 0),(22,rP ha 0),(23,rP ha 0),(24,rS r1.2.fS),(25,Al (r1.2.fS.length:Int)),(26,rB (decide (he<(r1.2.fS.length:Int)))),(27,rB (decide (he<(r1.2.fS.length:Int)))),(38,rB ((decide (he<(r1.2.fS.length:Int)))&&(decide (48≤(Cn r1.2.fS he))))),(39,rB ((decide (he<(r1.2.fS.length:Int)))&&(decide (48≤(Cn r1.2.fS he))))),(50,rB ((decide (he<(r1.2.fS.length:Int)))&&((decide (48≤(Cn r1.2.fS he)))&&(decide ((Cn r1.2.fS he)≤57)))))] [.blk ha [rS r1.2.fS,Al he,rv v4,rB r1.2.fGreat] 106,.row v4 54 4 (A2 Ab r1.2.fCells)] ?_ ?_)
  ·refine AH (decide (he<(r1.2.fS.length:Int))) (λhf=>?_) (λhf=>?_)
   ·refine AH (decide (48≤(Cn r1.2.fS he))) (λhg=>?_) (λhg=>?_)
    ·refine C7 [0,3,4] [⟨[],rP ha 0,0⟩,⟨[0],rP ha 0,0⟩,⟨[1],rP ha 1,0⟩,⟨[2],Al he,1⟩,⟨[],rP ha 0,0⟩,⟨[4],rP ha 0,0⟩,⟨[5],rP ha 0,0⟩,⟨[6],rS r1.2.fS,1⟩,⟨[7],Al (r1.2.fS.length:Int),0⟩,⟨[3,8],rB (decide (he<(r1.2.fS.length:Int))),0⟩,⟨[9],rB (decide (he<(r1.2.fS.length:Int))),0⟩,⟨[10],rP ha 0,0⟩,⟨[11,10],rP ha 0,0⟩,⟨[12,10],rP ha 0,0⟩,⟨[13,10],rS r1.2.fS,1⟩,⟨[10],rP ha 0,0⟩,⟨[15,10],rP ha 0,0⟩,⟨[16,10],rP ha 1,0⟩,⟨[17,10],Al he,1⟩,⟨[14,18,10],rI .u8 (Cn r1.2.fS he),0⟩,⟨[19,10],rB (decide (48≤(Cn r1.2.fS he))),0⟩,⟨[10,20],rB (decide (48≤(Cn r1.2.fS he))),0⟩,⟨[21],rB (decide (48≤(Cn r1.2.fS he))),0⟩,⟨[22],rP ha 0,0⟩,⟨[23,22],rP ha 0,0⟩,⟨[24,22],rP ha 0,0⟩,⟨[25,22],rS r1.2.fS,1⟩,⟨[22],rP ha 0,0⟩,⟨[27,22],rP ha 0,0⟩,⟨[28,22],rP ha 1,0⟩,⟨[29,22],Al he,1⟩,⟨[26,30,22],rI .u8 (Cn r1.2.fS he),0⟩,⟨[31,22],rB (decide ((Cn r1.2.fS he)≤57)),0⟩,⟨[22,32],rB (decide ((Cn r1.2.fS he)≤57)),0⟩] [17,18,19,20,21,22,23,24,25,26,27,28,29,30,31,32,33,34,35,36,37,38,39,40,41,42,43,44,45,46,47,48,49,50,0,3,4] ?_ ?_
     ·refine oq (A3 rfl) (oq (A8 rfl) (oq (AI B4 rfl B3 rfl rfl) (of (Bp (i:=0) BG rfl rfl rfl) (oq (A3 rfl) (oq (A8 rfl) (oq (AI B4 rfl C6 rfl rfl) (of (Bp (i:=0) CG rfl rfl rfl) (oq (BP D4 rfl) (oq (Cl rfl rfl) (oq (A3 rfl) (on hf (oq (A3 rfl) (on hf (oq (A8 rfl) (on hf (oq (AI B4 rfl C6 rfl rfl) (on hf (of (Bp (i:=0) CG rfl rfl rfl) (on hf (oq (A3 rfl) (on hf (oq (A8 rfl) (on hf ?_)))))))))))))))))))))));refine oq (AI B4 rfl B3 rfl rfl) (on hf (of (Bp (i:=0) BG rfl rfl rfl) (on hf (oq (BH D4 rfl rfl (BE hn hf)) (on hf (oq (EI rfl rfl) (oq (Av rfl hf rfl) (oq (A3 rfl) (on hg (oq (A3 rfl) (on hg (oq (A8 rfl) (on hg (oq (AI B4 rfl C6 rfl rfl) (on hg (of (Bp (i:=0) CG rfl rfl rfl) (on hg (oq (A3 rfl) (on hg (oq (A8 rfl) (on hg (oq (AI B4 rfl B3 rfl rfl) (on hg ?_)))))))))))))))))))))));refine of (Bp (i:=0) BG rfl rfl rfl) (on hg (oq (BH D4 rfl rfl (BE hn hf)) (on hg (oq (JY rfl rfl) (oq (Av rfl hg rfl) ?_)))));exact Cr
     exact BD (And.intro hf hg)
    ·refine C7 [0,3,4] [⟨[],rP ha 0,0⟩,⟨[0],rP ha 0,0⟩,⟨[1],rP ha 1,0⟩,⟨[2],Al he,1⟩,⟨[],rP ha 0,0⟩,⟨[4],rP ha 0,0⟩,⟨[5],rP ha 0,0⟩,⟨[6],rS r1.2.fS,1⟩,⟨[7],Al (r1.2.fS.length:Int),0⟩,⟨[3,8],rB (decide (he<(r1.2.fS.length:Int))),0⟩,⟨[9],rB (decide (he<(r1.2.fS.length:Int))),0⟩,⟨[10],rP ha 0,0⟩,⟨[11,10],rP ha 0,0⟩,⟨[12,10],rP ha 0,0⟩,⟨[13,10],rS r1.2.fS,1⟩,⟨[10],rP ha 0,0⟩,⟨[15,10],rP ha 0,0⟩,⟨[16,10],rP ha 1,0⟩,⟨[17,10],Al he,1⟩,⟨[14,18,10],rI .u8 (Cn r1.2.fS he),0⟩,⟨[19,10],rB (decide (48≤(Cn r1.2.fS he))),0⟩,⟨[10,20],rB (decide (48≤(Cn r1.2.fS he))),0⟩,⟨[21],rB (decide (48≤(Cn r1.2.fS he))),0⟩,⟨[22],rv undef,0⟩,⟨[23,22],rv undef,0⟩,⟨[24,22],rv undef,0⟩,⟨[25,22],rv undef,0⟩,⟨[22],rv undef,0⟩,⟨[27,22],rv undef,0⟩,⟨[28,22],rv undef,0⟩,⟨[29,22],rv undef,0⟩,⟨[26,30,22],rv undef,0⟩,⟨[31,22],rv undef,0⟩,⟨[22,32],rB false,0⟩] [17,18,19,20,21,22,23,24,25,26,27,28,29,30,31,32,33,34,35,36,37,38,39,40,41,42,43,44,45,46,47,48,49,50,0,3,4] ?_ ?_
     ·refine oq (A3 rfl) (oq (A8 rfl) (oq (AI B4 rfl B3 rfl rfl) (of (Bp (i:=0) BG rfl rfl rfl) (oq (A3 rfl) (oq (A8 rfl) (oq (AI B4 rfl C6 rfl rfl) (of (Bp (i:=0) CG rfl rfl rfl) (oq (BP D4 rfl) (oq (Cl rfl rfl) (oq (A3 rfl) (on hf (oq (A3 rfl) (on hf (oq (A8 rfl) (on hf (oq (AI B4 rfl C6 rfl rfl) (on hf (of (Bp (i:=0) CG rfl rfl rfl) (on hf (oq (A3 rfl) (on hf (oq (A8 rfl) (on hf ?_)))))))))))))))))))))));refine oq (AI B4 rfl B3 rfl rfl) (on hf (of (Bp (i:=0) BG rfl rfl rfl) (on hf (oq (BH D4 rfl rfl (BE hn hf)) (on hf (oq (EI rfl rfl) (oq (Av rfl hf rfl) (oq (A3 rfl) (oz hg (oz hg (oz hg (oz hg (oz hg (oz hg (oz hg (oz hg (oz hg (oz hg (oq (Ak (b:=decide (48≤(Cn r1.2.fS he))) rfl hg rfl) ?_)))))))))))))))))));exact Cr
     exact BD (And.intro hf hg)
   ·refine C7 [0,3,4] [⟨[],rP ha 0,0⟩,⟨[0],rP ha 0,0⟩,⟨[1],rP ha 1,0⟩,⟨[2],Al he,1⟩,⟨[],rP ha 0,0⟩,⟨[4],rP ha 0,0⟩,⟨[5],rP ha 0,0⟩,⟨[6],rS r1.2.fS,1⟩,⟨[7],Al (r1.2.fS.length:Int),0⟩,⟨[3,8],rB (decide (he<(r1.2.fS.length:Int))),0⟩,⟨[9],rB (decide (he<(r1.2.fS.length:Int))),0⟩,⟨[10],rv undef,0⟩,⟨[11,10],rv undef,0⟩,⟨[12,10],rv undef,0⟩,⟨[13,10],rv undef,0⟩,⟨[10],rv undef,0⟩,⟨[15,10],rv undef,0⟩,⟨[16,10],rv undef,0⟩,⟨[17,10],rv undef,0⟩,⟨[14,18,10],rv undef,0⟩,⟨[19,10],rv undef,0⟩,⟨[10,20],rB false,0⟩,⟨[21],rB false,0⟩,⟨[22],rv undef,0⟩,⟨[23,22],rv undef,0⟩,⟨[24,22],rv undef,0⟩,⟨[25,22],rv undef,0⟩,⟨[22],rv undef,0⟩,⟨[27,22],rv undef,0⟩,⟨[28,22],rv undef,0⟩,⟨[29,22],rv undef,0⟩,⟨[26,30,22],rv undef,0⟩,⟨[31,22],rv undef,0⟩,⟨[22,32],rB false,0⟩] [17,18,19,20,21,22,23,24,25,26,27,28,29,30,31,32,33,34,35,36,37,38,39,40,41,42,43,44,45,46,47,48,49,50,0,3,4] ?_ ?_
    ·refine oq (A3 rfl) (oq (A8 rfl) (oq (AI B4 rfl B3 rfl rfl) (of (Bp (i:=0) BG rfl rfl rfl) (oq (A3 rfl) (oq (A8 rfl) (oq (AI B4 rfl C6 rfl rfl) (of (Bp (i:=0) CG rfl rfl rfl) (oq (BP D4 rfl) (oq (Cl rfl rfl) (oq (A3 rfl) (oz hf (oz hf (oz hf (oz hf (oz hf (oz hf (oz hf (oz hf (oz hf (oz hf (oq (Ak (b:=decide (he<(r1.2.fS.length:Int))) rfl hf rfl) (oq (A3 rfl) (oz rfl ?_)))))))))))))))))))))));refine oz rfl (oz rfl (oz rfl (oz rfl (oz rfl (oz rfl (oz rfl (oz rfl (oz rfl (oq (Ak (b:=false) rfl rfl rfl) ?_)))))))));exact Cr
    exact BD hf
  refine cz hx rfl (λhy hz=>?_) (λhy h0=>?_)
  ·refine At (AD (A6 (Aj (wm rfl (wv (A8 rfl) (vF B4 rfl B3 (vL 0 BG rfl (ck hz λh1 h3=>wv (Be rfl rfl h1) (wv (A8 rfl) (vF B4 rfl B3 (BF (i:=0) B3 rfl rfl (BQ rfl) rfl rfl (cs':=[rS r1.2.fS,Al (he+1),rv v4,rB r1.2.fGreat]) rfl (H':=[.blk ha [rS r1.2.fS,Al (he+1),rv v4,rB r1.2.fGreat] 106,.row v4 54 4 (A2 Ab r1.2.fCells)]) rfl (Ai (A4 ?_)))))))))))));have h4:=AW h3 ho;exact As (Ar (hu,he+1,()) ⟨h4,X0 _⟩ (Az.c rfl (Az.c rfl (Az.c rfl Az.nil))) (sC (sC sN)))
  ·refine Bl (Ay ?_);have h5:=BB h0 ho hs;exact Ay (AS (Ar (he,()) h5 (Az.c rfl (Az.c rfl (Az.c rfl Az.nil))) (sC (sC sN))))
 ·rintro⟨hb,⟨⟩⟩ hl;refine Ce (l':=[(0,rP ha 0),(3,Al q.fAt),(4,Al r1.2.fAt)]) (H':=[.blk ha [rS r1.2.fS,Al hb,rv v4,rB r1.2.fGreat] 106,.row v4 54 4 (A2 Ab r1.2.fCells)]) rfl rfl ?_;replace hl:JB q r1 hb=some r:=hl;unfold JB at hl;refine AV (AD (An (ck hl λh6 h7=>ck h7 λh8 h9=>ck h9 λhA hB=>C7 [0,3,4] [⟨[],rP ha 0,0⟩,⟨[0],rP ha 0,0⟩,⟨[1],rP ha 0,0⟩,⟨[2],rS r1.2.fS,1⟩,⟨[],Al q.fAt,0⟩,⟨[],rP ha 0,0⟩,⟨[5],rP ha 0,0⟩,⟨[6],rP ha 1,0⟩,⟨[7],Al hb,1⟩,⟨[3,4,8],rS (List.take (B0 hb-B0 q.fAt) (List.drop (B0 q.fAt) r1.2.fS)),0⟩,⟨[9],Dx [Al (CU (List.take (B0 hb-B0 q.fAt) (List.drop (B0 q.fAt) r1.2.fS))),Al (CM (List.take (B0 hb-B0 q.fAt) (List.drop (B0 q.fAt) r1.2.fS)))],0⟩,⟨[10],Dx [Al (CU (List.take (B0 hb-B0 q.fAt) (List.drop (B0 q.fAt) r1.2.fS))),Al (CM (List.take (B0 hb-B0 q.fAt) (List.drop (B0 q.fAt) r1.2.fS)))],0⟩,⟨[11],Al (CU (List.take (B0 hb-B0 q.fAt) (List.drop (B0 q.fAt) r1.2.fS))),0⟩,⟨[11],Al (CM (List.take (B0 hb-B0 q.fAt) (List.drop (B0 q.fAt) r1.2.fS))),0⟩,⟨[12],Al (CU (List.take (B0 hb-B0 q.fAt) (List.drop (B0 q.fAt) r1.2.fS))),0⟩,⟨[13],Al (CM (List.take (B0 hb-B0 q.fAt) (List.drop (B0 q.fAt) r1.2.fS))),0⟩] [5,6,0,4] ?_ ?_)))
  ·refine oq (A3 rfl) (oq (A8 rfl) (oq (AI B4 rfl C6 rfl rfl) (of (Bp (i:=0) CG rfl rfl rfl) (oq (A3 rfl) (oq (A3 rfl) (oq (A8 rfl) (oq (AI B4 rfl B3 rfl rfl) (of (Bp (i:=0) BG rfl rfl rfl) (oq (HW D4 rfl rfl rfl h6 h8) (CJ rfl (λH=>JX (rs:=[rS (List.take (B0 hb-B0 q.fAt) (List.drop (B0 q.fAt) r1.2.fS))]) (r:=Dx [Al (CU (List.take (B0 hb-B0 q.fAt) (List.drop (B0 q.fAt) r1.2.fS))),Al (CM (List.take (B0 hb-B0 q.fAt) (List.drop (B0 q.fAt) r1.2.fS)))]) Tryz.call151 rfl (Uu (List.take (B0 hb-B0 q.fAt) (List.drop (B0 q.fAt) r1.2.fS)) hA) rfl) ?_))))))))));refine oq (A3 rfl) (oq (AC rfl rfl) (oq (AC rfl rfl) (oq (AG rfl) (oq (AG rfl) ?_))));exact Cr
  refine AD (An (AE [(0,rP ha 0),(5,Al (CU (List.take (B0 hb-B0 q.fAt) (List.drop (B0 q.fAt) r1.2.fS)))),(6,Al (CM (List.take (B0 hb-B0 q.fAt) (List.drop (B0 q.fAt) r1.2.fS)))),(81,rB ((decide ((CM (List.take (B0 hb-B0 q.fAt) (List.drop (B0 q.fAt) r1.2.fS)))=1))||(decide (r1.2.fAt=hb))))] [.blk ha [rS r1.2.fS,Al hb,rv v4,rB r1.2.fGreat] 106,.row v4 54 4 (A2 Ab r1.2.fCells)] ?_ ?_))
  ·refine Aj (wm rfl (wv (AX rfl rfl) (wm rfl (AH (decide ((CM (List.take (B0 hb-B0 q.fAt) (List.drop (B0 q.fAt) r1.2.fS)))=1)) (λhh=>?_) (λhh=>?_)))))
   ·refine wf hh (wf hh (wf hh (wf hh (wf hh (wf hh (wv (r:=rB true) (Av rfl hh rfl) (Ai ?_)))))));exact BD hh
   ·refine wo hh (wm rfl (wo hh (wm rfl (wo hh (wv (A8 rfl) (wo hh (vF B4 rfl B3 (wo hh (vL 0 BG rfl (wo hh (wv (AX rfl rfl) (Cc rfl hh rfl (Ai ?_)))))))))))));exact BD hh
  refine cz hB rfl (λhC hD=>?_) (λhC hE=>?_)
  ·refine Af (wa rfl (Am (Aq (Ac ?_))));obtain rfl:=Ao hD;exact Ap (Bs Tryz.results144 (A5 rfl)) (sC (sC sN)) ⟨v4,rfl,rfl⟩
  ·refine At (AD (AE [(0,rP ha 0),(5,Al (CU (List.take (B0 hb-B0 q.fAt) (List.drop (B0 q.fAt) r1.2.fS))))] [.blk ha [rS r1.2.fS,Al hb,rv v4,rB (r1.2.fGreat||(!decide ((CM (List.take (B0 hb-B0 q.fAt) (List.drop (B0 q.fAt) r1.2.fS)))=0)))] 106,.row v4 54 4 (A2 Ab r1.2.fCells)] ?_ ?_))
   ·refine Aj (wm rfl (wm rfl (wv (A8 rfl) (vF B4 rfl HB (vL 0 Sw rfl (wm rfl (AH (r1.2.fGreat) (λhi=>?_) (λhi=>?_))))))))
    ·refine wf hi (wf hi (wv (r:=rB true) (Av rfl hi rfl) (wv (A8 rfl) (vF B4 rfl HB (BF (i:=0) HB rfl rfl (BQ rfl) rfl rfl (cs':=[rS r1.2.fS,Al hb,rv v4,rB true]) rfl (H':=[.blk ha [rS r1.2.fS,Al hb,rv v4,rB true] 106,.row v4 54 4 (A2 Ab r1.2.fCells)]) rfl (Ai (HE (H':=[.blk ha [rS r1.2.fS,Al hb,rv v4,rB (r1.2.fGreat||(!decide ((CM (List.take (B0 hb-B0 q.fAt) (List.drop (B0 q.fAt) r1.2.fS)))=0)))] 106,.row v4 54 4 (A2 Ab r1.2.fCells)]) (by simp only[hi,XB,XK,XP,XF,XS,XL,XQ,XR,XC,XJ,X8,X2]) ?_)))))));exact wt
    ·refine wo hi (wm rfl (wo hi (wv (Bo rfl rfl) (Cc rfl hi rfl (wv (A8 rfl) (vF B4 rfl HB (BF (i:=0) HB rfl rfl (BQ rfl) rfl rfl (cs':=[rS r1.2.fS,Al hb,rv v4,rB (!decide ((CM (List.take (B0 hb-B0 q.fAt) (List.drop (B0 q.fAt) r1.2.fS)))=0))]) rfl (H':=[.blk ha [rS r1.2.fS,Al hb,rv v4,rB (!decide ((CM (List.take (B0 hb-B0 q.fAt) (List.drop (B0 q.fAt) r1.2.fS)))=0))] 106,.row v4 54 4 (A2 Ab r1.2.fCells)]) rfl (Ai (HE (H':=[.blk ha [rS r1.2.fS,Al hb,rv v4,rB (r1.2.fGreat||(!decide ((CM (List.take (B0 hb-B0 q.fAt) (List.drop (B0 q.fAt) r1.2.fS)))=0)))] 106,.row v4 54 4 (A2 Ab r1.2.fCells)]) (by simp only[hi,XB,XK,XP,XF,XS,XL,XQ,XR,XC,XJ,X8,X2]) ?_)))))))));exact wt
   refine Af (wm rfl (wm rfl (wv (A8 rfl) (vF B4 rfl Co (vL 0 CS rfl (wm rfl (wv (r:=Bt [Al 3,Al (CU (List.take (B0 hb-B0 q.fAt) (List.drop (B0 q.fAt) r1.2.fS))),rS ([]:Aw),Al 0]) (DW rfl rfl rfl rfl) (AZ (ys:=([(Aa.mk 3 (CU (List.take (B0 hb-B0 q.fAt) (List.drop (B0 q.fAt) r1.2.fS))) ([]:Aw) 0)]:List Aa)) (enc:=Ab) (css:=[[Al 3,Al (CU (List.take (B0 hb-B0 q.fAt) (List.drop (B0 q.fAt) r1.2.fS))),rS ([]:Aw),Al 0]]) (xs:=[.tmp 99]) Bv BC GV rfl rfl rfl ⟨EA.agg ⟨Up.refl _,Up.refl _,Up.refl _,Up.refl _,trivial⟩,trivial⟩ rfl Bi rfl rfl rfl (λhp=>?_)))))))));refine ck hE λhG hH=>Exists.elim GR λinf hinf=>C1 (xs:=r1.2.fCells) (ys:=([(Aa.mk 3 (CU (List.take (B0 hb-B0 q.fAt) (List.drop (B0 q.fAt) r1.2.fS))) ([]:Aw) 0)]:List Aa)) (enc:=Ab) (i:=2) Bv hinf.1 hinf.2.1 hinf.2.2.1 hinf.2.2.2 rfl rfl rfl rfl rfl (Lz.w (i:=0) rfl rfl) Bi C0 hG rfl (λhj=>?_);refine wv (A8 rfl) (vF B4 rfl Co (BF (i:=2) Co rfl rfl (CZ (i:=0) rfl) rfl rfl (cs':=[rS r1.2.fS,Al hb,rv hj,rB (r1.2.fGreat||(!decide ((CM (List.take (B0 hb-B0 q.fAt) (List.drop (B0 q.fAt) r1.2.fS)))=0)))]) rfl (H':=[.row hj 54 4 (A2 Ab (r1.2.fCells++([(Aa.mk 3 (CU (List.take (B0 hb-B0 q.fAt) (List.drop (B0 q.fAt) r1.2.fS))) ([]:Aw) 0)]:List Aa))),.row (.slice (some ⟨hp,0,none⟩) 1 1) 54 4 (A2 Ab ([(Aa.mk 3 (CU (List.take (B0 hb-B0 q.fAt) (List.drop (B0 q.fAt) r1.2.fS))) ([]:Aw) 0)]:List Aa)),.blk ha [rS r1.2.fS,Al hb,rv hj,rB (r1.2.fGreat||(!decide ((CM (List.take (B0 hb-B0 q.fAt) (List.drop (B0 q.fAt) r1.2.fS)))=0)))] 106]) rfl (Bb (wa rfl (Am (Aq (CA (H2:=[.blk ha [rS r1.2.fS,Al hb,rv hj,rB (r1.2.fGreat||(!decide ((CM (List.take (B0 hb-B0 q.fAt) (List.drop (B0 q.fAt) r1.2.fS)))=0)))] 106,.row hj 54 4 (A2 Ab (r1.2.fCells++([(Aa.mk 3 (CU (List.take (B0 hb-B0 q.fAt) (List.drop (B0 q.fAt) r1.2.fS))) ([]:Aw) 0)]:List Aa))),.row (.slice (some ⟨hp,0,none⟩) 1 1) 54 4 (A2 Ab ([(Aa.mk 3 (CU (List.take (B0 hb-B0 q.fAt) (List.drop (B0 q.fAt) r1.2.fS))) ([]:Aw) 0)]:List Aa))]) ((A1 (i:=2) rfl).trans (Xx _ (Xv _))) ?_)))))));obtain rfl:=Ao hH;exact Ap (Bs Tryz.results144 (A5 rfl)) (sC (sC (sS sN))) ⟨hj,rfl,rfl⟩
theorem PV (F:Nat)(he:Nat)(hl:Value)(q:A0)(r:Bool×A0)(h:LX F q=some r):Fn Tryz.prog GE 118 [rP he 0] [.blk he [rS q.fS,Al q.fAt,rv hl,rB q.fGreat] 106,.row hl 54 4 (A2 Ab q.fCells)] (λR H=>∃w0_2:Value,R=rB r.1∧H=[.blk he [rS r.2.fS,Al r.2.fAt,rv w0_2,rB r.2.fGreat] 106,.row w0_2 54 4 (A2 Ab r.2.fCells)]):=by
 refine enter (n:=75) Tryz.func118 rfl Tryz.ntmps118 rfl (λw Z=>?_);unfold LX at h;refine Af (wa rfl (Am (BX (S:=(Aw×Int×(List Aa)×Bool)×(Value)) (λσ=>D5 σ.1.1 σ.1.2.1 σ.1.2.2.1 σ.1.2.2.2=some r) (λσ=>[]) (λσ=>[.blk he [rS σ.1.1,Al σ.1.2.1,rv σ.2,rB σ.1.2.2.2] 106,.row σ.2 54 4 (A2 Ab σ.1.2.2.1)]) ?_ ?_)))
 ·refine A6 (Af (wm rfl (ob h λhf hy hz=>DP (Hr:=[]) Gi (Ds he hl q ([110,117,108,108]:Aw) hf hy) rfl (Xv _) rfl ?_)));rintro _ _ ⟨h0,rfl,rfl⟩;refine wa rfl (Am (cz hz rfl (λh1 h2=>?_) (λh1 h3=>?_)))
  ·refine Aj (wm rfl (wm rfl (wv (A8 rfl) (vF B4 rfl Co (vL 0 CS rfl (wv (r:=Bt [Al 1,Al 0,rS ([]:Aw),Al 0]) (GB rfl rfl) (AZ (ys:=([(Aa.mk 1 0 ([]:Aw) 0)]:List Aa)) (enc:=Ab) (css:=[[Al 1,Al 0,rS ([]:Aw),Al 0]]) (xs:=[.tmp 15]) Bv BC GV rfl rfl rfl ⟨EA.agg ⟨Up.refl _,Up.refl _,Up.refl _,Up.refl _,trivial⟩,trivial⟩ rfl Bi rfl rfl rfl (λho=>?_))))))));refine ck h2 λh4 h5=>Exists.elim GR λinf hinf=>C1 (xs:=hf.2.fCells) (ys:=([(Aa.mk 1 0 ([]:Aw) 0)]:List Aa)) (enc:=Ab) (i:=2) Bv hinf.1 hinf.2.1 hinf.2.2.1 hinf.2.2.2 rfl rfl rfl rfl rfl (Lz.w (i:=0) rfl rfl) Bi C0 h4 rfl (λhh=>?_);exact wv (A8 rfl) (vF B4 rfl Co (BF (i:=2) Co rfl rfl (CZ (i:=0) rfl) rfl rfl (cs':=[rS hf.2.fS,Al hf.2.fAt,rv hh,rB hf.2.fGreat]) rfl (H':=[.row hh 54 4 (A2 Ab (hf.2.fCells++([(Aa.mk 1 0 ([]:Aw) 0)]:List Aa))),.row (.slice (some ⟨ho,0,none⟩) 1 1) 54 4 (A2 Ab ([(Aa.mk 1 0 ([]:Aw) 0)]:List Aa)),.blk he [rS hf.2.fS,Al hf.2.fAt,rv hh,rB hf.2.fGreat] 106]) rfl (Ai (A4 (CA (H2:=[.blk he [rS hf.2.fS,Al hf.2.fAt,rv hh,rB hf.2.fGreat] 106,.row hh 54 4 (A2 Ab (hf.2.fCells++([(Aa.mk 1 0 ([]:Aw) 0)]:List Aa))),.row (.slice (some ⟨ho,0,none⟩) 1 1) 54 4 (A2 Ab ([(Aa.mk 1 0 ([]:Aw) 0)]:List Aa))]) ((A1 (i:=2) rfl).trans (Xx _ (Xv _))) (As (Ar ((hf.2.fS,hf.2.fAt,hf.2.fCells++([(Aa.mk 1 0 ([]:Aw) 0)]:List Aa),hf.2.fGreat),hh) h5 Az.nil (sC (sC (sS sN))))))))))
  ·refine Af (wm rfl (ob h3 λhg h6 h7=>DP (Hr:=[]) Gi (Ds he h0 hf.2 ([116,114,117,101]:Aw) hg h6) rfl (Xv _) rfl ?_));rintro _ _ ⟨v76,rfl,rfl⟩;refine wa rfl (Am (cz h7 rfl (λh8 h9=>?_) (λh8 hA=>?_)))
   ·refine Aj (wm rfl (wm rfl (wv (A8 rfl) (vF B4 rfl Co (vL 0 CS rfl (wv (r:=Bt [Al 2,Al 1,rS ([]:Aw),Al 0]) (DW rfl rfl rfl rfl) (AZ (ys:=([(Aa.mk 2 1 ([]:Aw) 0)]:List Aa)) (enc:=Ab) (css:=[[Al 2,Al 1,rS ([]:Aw),Al 0]]) (xs:=[.tmp 28]) Bv BC GV rfl rfl rfl ⟨EA.agg ⟨Up.refl _,Up.refl _,Up.refl _,Up.refl _,trivial⟩,trivial⟩ rfl Bi rfl rfl rfl (λhp=>?_))))))));refine ck h9 λhB hC=>Exists.elim GR λinf hinf=>C1 (xs:=hg.2.fCells) (ys:=([(Aa.mk 2 1 ([]:Aw) 0)]:List Aa)) (enc:=Ab) (i:=2) Bv hinf.1 hinf.2.1 hinf.2.2.1 hinf.2.2.2 rfl rfl rfl rfl rfl (Lz.w (i:=0) rfl rfl) Bi C0 hB rfl (λv80=>?_);exact wv (A8 rfl) (vF B4 rfl Co (BF (i:=2) Co rfl rfl (CZ (i:=0) rfl) rfl rfl (cs':=[rS hg.2.fS,Al hg.2.fAt,rv v80,rB hg.2.fGreat]) rfl (H':=[.row v80 54 4 (A2 Ab (hg.2.fCells++([(Aa.mk 2 1 ([]:Aw) 0)]:List Aa))),.row (.slice (some ⟨hp,0,none⟩) 1 1) 54 4 (A2 Ab ([(Aa.mk 2 1 ([]:Aw) 0)]:List Aa)),.blk he [rS hg.2.fS,Al hg.2.fAt,rv v80,rB hg.2.fGreat] 106]) rfl (Ai (A4 (CA (H2:=[.blk he [rS hg.2.fS,Al hg.2.fAt,rv v80,rB hg.2.fGreat] 106,.row v80 54 4 (A2 Ab (hg.2.fCells++([(Aa.mk 2 1 ([]:Aw) 0)]:List Aa))),.row (.slice (some ⟨hp,0,none⟩) 1 1) 54 4 (A2 Ab ([(Aa.mk 2 1 ([]:Aw) 0)]:List Aa))]) ((A1 (i:=2) rfl).trans (Xx _ (Xv _))) (As (Ar ((hg.2.fS,hg.2.fAt,hg.2.fCells++([(Aa.mk 2 1 ([]:Aw) 0)]:List Aa),hg.2.fGreat),v80) hC Az.nil (sC (sC (sS sN))))))))))
   ·refine Af (wm rfl (ob hA λhb hD hE=>DP (Hr:=[]) Gi (Ds he v76 hg.2 ([102,97,108,115,101]:Aw) hb hD) rfl (Xv _) rfl ?_));rintro _ _ ⟨hq,rfl,rfl⟩;refine wa rfl (Am (cz hE rfl (λhG hH=>?_) (λhG hI=>?_)))
    ·refine Aj (wm rfl (wm rfl (wv (A8 rfl) (vF B4 rfl Co (vL 0 CS rfl (wv (r:=Bt [Al 2,Al 0,rS ([]:Aw),Al 0]) (GB rfl rfl) (AZ (ys:=([(Aa.mk 2 0 ([]:Aw) 0)]:List Aa)) (enc:=Ab) (css:=[[Al 2,Al 0,rS ([]:Aw),Al 0]]) (xs:=[.tmp 41]) Bv BC GV rfl rfl rfl ⟨EA.agg ⟨Up.refl _,Up.refl _,Up.refl _,Up.refl _,trivial⟩,trivial⟩ rfl Bi rfl rfl rfl (λhr=>?_))))))));refine ck hH λhJ hK=>Exists.elim GR λinf hinf=>C1 (xs:=hb.2.fCells) (ys:=([(Aa.mk 2 0 ([]:Aw) 0)]:List Aa)) (enc:=Ab) (i:=2) Bv hinf.1 hinf.2.1 hinf.2.2.1 hinf.2.2.2 rfl rfl rfl rfl rfl (Lz.w (i:=0) rfl rfl) Bi C0 hJ rfl (λhi=>?_);exact wv (A8 rfl) (vF B4 rfl Co (BF (i:=2) Co rfl rfl (CZ (i:=0) rfl) rfl rfl (cs':=[rS hb.2.fS,Al hb.2.fAt,rv hi,rB hb.2.fGreat]) rfl (H':=[.row hi 54 4 (A2 Ab (hb.2.fCells++([(Aa.mk 2 0 ([]:Aw) 0)]:List Aa))),.row (.slice (some ⟨hr,0,none⟩) 1 1) 54 4 (A2 Ab ([(Aa.mk 2 0 ([]:Aw) 0)]:List Aa)),.blk he [rS hb.2.fS,Al hb.2.fAt,rv hi,rB hb.2.fGreat] 106]) rfl (Ai (A4 (CA (H2:=[.blk he [rS hb.2.fS,Al hb.2.fAt,rv hi,rB hb.2.fGreat] 106,.row hi 54 4 (A2 Ab (hb.2.fCells++([(Aa.mk 2 0 ([]:Aw) 0)]:List Aa))),.row (.slice (some ⟨hr,0,none⟩) 1 1) 54 4 (A2 Ab ([(Aa.mk 2 0 ([]:Aw) 0)]:List Aa))]) ((A1 (i:=2) rfl).trans (Xx _ (Xv _))) (As (Ar ((hb.2.fS,hb.2.fAt,hb.2.fCells++([(Aa.mk 2 0 ([]:Aw) 0)]:List Aa),hb.2.fGreat),hi) hK Az.nil (sC (sC (sS sN))))))))))
    ·refine An (ck hI λhL hN=>ob hN λhm hO hP=>C7 [0] [⟨[],rP he 0,0⟩,⟨[0],rP he 0,0⟩,⟨[1],rP he 0,0⟩,⟨[2],rS hb.2.fS,1⟩,⟨[],rP he 0,0⟩,⟨[4],rP he 0,0⟩,⟨[5],rP he 1,0⟩,⟨[6],Al hb.2.fAt,1⟩,⟨[3,7],rS (List.drop (B0 hb.2.fAt) hb.2.fS),0⟩,⟨[8],rB hm,0⟩,⟨[9],rB hm,0⟩] [46,0] ?_ ?_)
     ·refine oq (A3 rfl) (oq (A8 rfl) (oq (AI B4 rfl C6 rfl rfl) (of (Bp (i:=0) CG rfl rfl rfl) (oq (A3 rfl) (oq (A8 rfl) (oq (AI B4 rfl B3 rfl rfl) (of (Bp (i:=0) BG rfl rfl rfl) (oq (HV D4 rfl rfl hL) (CJ rfl (λH=>Dj Tryz.call98 (GH (List.drop (B0 hb.2.fAt) hb.2.fS) ([34]:Aw) hm hO) rfl) ?_)))))))));refine oq (AG rfl) ?_;exact Cr
     refine AD (cz hP rfl (λhQ hR=>?_) (λhQ hS=>?_))
     ·refine Af (wm rfl (ob hR λha hT hU=>DP (Hr:=[]) Tryz.call119 (QB F he hq hb.2 ha hT) rfl (Xv _) rfl ?_));rintro _ _ ⟨hV,rfl,rfl⟩;refine wm rfl (wv (AC rfl rfl) (wv (AC rfl rfl) (wa rfl (wa rfl (Am (An (Af (wm rfl (wv (Bu rfl) (Am (cz hU rfl (λhW hX=>?_) (λhW hY=>?_))))))))))))
      ·refine Af (wa rfl (Am (Aq (Ac (Au (Ac ?_))))));obtain rfl:=Ao hX;exact Ap (Bs Tryz.results118 (A5 rfl)) (sC (sC sN)) ⟨hV,rfl,rfl⟩
      ·refine At (AD (Aj (wm rfl (wm rfl (wv (A8 rfl) (vF B4 rfl Co (vL 0 CS rfl (wm rfl (wv (r:=Bt [Al 4,Al 0,rS ha.1,Al 0]) (DV rfl rfl rfl rfl) (AZ (ys:=([(Aa.mk 4 0 ha.1 0)]:List Aa)) (enc:=Ab) (css:=[[Al 4,Al 0,rS ha.1,Al 0]]) (xs:=[.tmp 70]) Bv BC GV rfl rfl rfl ⟨EA.agg ⟨Up.refl _,Up.refl _,Up.refl _,Up.refl _,trivial⟩,trivial⟩ rfl Bi rfl rfl rfl (λhs=>?_)))))))))));refine ck hY λhZ ga=>Exists.elim GR λinf hinf=>C1 (xs:=ha.2.2.fCells) (ys:=([(Aa.mk 4 0 ha.1 0)]:List Aa)) (enc:=Ab) (i:=2) Bv hinf.1 hinf.2.1 hinf.2.2.1 hinf.2.2.2 rfl rfl rfl rfl rfl (Lz.w (i:=0) rfl rfl) Bi C0 hZ rfl (λhj=>?_);exact wv (A8 rfl) (vF B4 rfl Co (BF (i:=2) Co rfl rfl (CZ (i:=0) rfl) rfl rfl (cs':=[rS ha.2.2.fS,Al ha.2.2.fAt,rv hj,rB ha.2.2.fGreat]) rfl (H':=[.row hj 54 4 (A2 Ab (ha.2.2.fCells++([(Aa.mk 4 0 ha.1 0)]:List Aa))),.row (.slice (some ⟨hs,0,none⟩) 1 1) 54 4 (A2 Ab ([(Aa.mk 4 0 ha.1 0)]:List Aa)),.blk he [rS ha.2.2.fS,Al ha.2.2.fAt,rv hj,rB ha.2.2.fGreat] 106]) rfl (Ai (A4 (CA (H2:=[.blk he [rS ha.2.2.fS,Al ha.2.2.fAt,rv hj,rB ha.2.2.fGreat] 106,.row hj 54 4 (A2 Ab (ha.2.2.fCells++([(Aa.mk 4 0 ha.1 0)]:List Aa))),.row (.slice (some ⟨hs,0,none⟩) 1 1) 54 4 (A2 Ab ([(Aa.mk 4 0 ha.1 0)]:List Aa))]) ((A1 (i:=2) rfl).trans (Xx _ (Xv _))) (As (Ar ((ha.2.2.fS,ha.2.2.fAt,ha.2.2.fCells++([(Aa.mk 4 0 ha.1 0)]:List Aa),ha.2.2.fGreat),hj) ga Az.nil (sC (sC (sS sN))))))))))
     ·refine Af (wm rfl (ob hS λgb gc gd=>DP (Hr:=[]) Tryz.call144 (Ui F he hq hb.2 gb gc) rfl (Xv _) rfl ?_));rintro _ _ ⟨ge,rfl,rfl⟩;refine wa rfl (Am (Aq (Au (Ac ?_))));obtain rfl:=Ao gd;exact Ap (Bs Tryz.results118 (A5 rfl)) (sC (sC sN)) ⟨ge,rfl,rfl⟩
 ·rintro⟨⟨ht,hu,hw,hx⟩,hn⟩ hk;refine B7 (l':=[]) (H':=[.blk he [rS ht,Al hu,rv hn,rB hx] 106,.row hn 54 4 (A2 Ab hw)]) rfl rfl ?_;replace hk:D5 ht hu hw hx=some r:=hk;unfold D5 at hk;refine Af (wa rfl (Am (Aq ?_)));obtain rfl:=Ao hk;exact Ap (Bs Tryz.results118 (A5 rfl)) (sC (sC sN)) ⟨hn,rfl,rfl⟩
theorem PU (F:Nat)(hj:A0→Option (Bool×A0))(gc:(∀(hb:Nat) (hs:Value) (q:A0) (r:Bool×A0),hj q=some r→Fn Tryz.prog GE 89 [rP hb 0] [.blk hb [rS q.fS,Al q.fAt,rv hs,rB q.fGreat] 106,.row hs 54 4 (A2 Ab q.fCells)] (λR H=>∃w0_2:Value,R=rB r.1∧H=[.blk hb [rS r.2.fS,Al r.2.fAt,rv w0_2,rB r.2.fGreat] 106,.row w0_2 54 4 (A2 Ab r.2.fCells)])))(hb:Nat)(hs:Value)(q:A0)(r:Bool×A0)(h:LU F hj q=some r):Fn Tryz.prog GE 89 [rP hb 0] [.blk hb [rS q.fS,Al q.fAt,rv hs,rB q.fGreat] 106,.row hs 54 4 (A2 Ab q.fCells)] (λR H=>∃w0_2:Value,R=rB r.1∧H=[.blk hb [rS r.2.fS,Al r.2.fAt,rv w0_2,rB r.2.fGreat] 106,.row w0_2 54 4 (A2 Ab r.2.fCells)]):=by
 refine enter (n:=96) Tryz.func89 rfl Tryz.ntmps89 rfl (λw Z=>?_);unfold LU at h;refine Af (wa rfl (Bb (wm rfl (ob h λr1 e3 h2=>DP (Hr:=[]) Gi (Ds hb hs q ([91]:Aw) r1 e3) rfl (Xv _) rfl ?_))));rintro _ _ ⟨v4,rfl,rfl⟩;refine wa rfl (Am (An (BX (S:=(Bool×Aw×Int×(List Aa)×Bool)×(Value)) (λσ=>Gk F hj r1 σ.1.1 σ.1.2.1 σ.1.2.2.1 σ.1.2.2.2.1 σ.1.2.2.2.2=some r) (λσ=>[(0,rP hb 0),(2,rB false),(3,rB r1.1),(19,rB σ.1.1)]) (λσ=>[.blk hb [rS σ.1.2.1,Al σ.1.2.2.1,rv σ.2,rB σ.1.2.2.2.2] 106,.row σ.2 54 4 (A2 Ab σ.1.2.2.2.1)]) ?_ ?_)))
 ·refine Aj (wm rfl (wv (Bu rfl) (wm rfl (bz h2 (λhk gu=>?_) (λhk gv=>?_)))))
  ·refine wo hk (wm rfl (wo hk (ob gu λht gw gx=>DP (Hr:=[]) Gi (Ds hb v4 r1.2 ([123]:Aw) ht gw) rfl (Xv _) rfl ?_)));rintro _ _ ⟨gy,rfl,rfl⟩;exact wo hk (wv (Bu rfl) (BR rfl hk rfl (Ai (As (Ar ((!ht.1,ht.2.fS,ht.2.fAt,ht.2.fCells,ht.2.fGreat),gy) gx (Az.c rfl (Az.c rfl (Az.c rfl (Az.c rfl Az.nil)))) (sC (sC sN)))))))
  ·exact wf hk (wf hk (wf hk (wv (r:=rB false) (Ak rfl hk rfl) (Ai (As (Ar ((false,r1.2.fS,r1.2.fAt,r1.2.fCells,r1.2.fGreat),v4) gv (Az.c rfl (Az.c rfl (Az.c rfl (Az.c rfl Az.nil)))) (sC (sC sN))))))))
 ·rintro⟨⟨gd,hl,hm,he,hn⟩,hK⟩ hA;refine B7 (l':=[(0,rP hb 0),(2,rB false),(3,rB r1.1),(19,rB gd)]) (H':=[.blk hb [rS hl,Al hm,rv hK,rB hn] 106,.row hK 54 4 (A2 Ab he)]) rfl rfl ?_;replace hA:Gk F hj r1 gd hl hm he hn=some r:=hA;unfold Gk at hA;refine cz hA rfl (λgz g0=>?_) (λgz g1=>?_)
  ·refine Af (wm rfl (ob g0 λg2 g3 g4=>DP (Hr:=[]) Tryz.call118 (PV F hb hK (A0.mk hl hm he hn) g2 g3) rfl (Xv _) rfl ?_));rintro _ _ ⟨g5,rfl,rfl⟩;refine wa rfl (Am (Aq (Ac ?_)));obtain rfl:=Ao g4;exact Ap (Bs MQ (A5 rfl)) (sC (sC sN)) ⟨g5,rfl,rfl⟩
  ·refine At (AD (Af (wa rfl (wv (r:=rS ([125]:Aw)) (AG rfl) (Am (An (Af (wm rfl (Am (cz g1 rfl (λhL g6=>?_) (λhL g7=>?_)))))))))))
   ·refine Aj (wa rfl (wv (r:=rS ([93]:Aw)) (AG rfl) (Bb (wm rfl (wv (A8 rfl) (vF B4 rfl Co (vL 0 CS rfl (wv (DU (ys:=he) (enc:=Ab) (i:=1) Bv rfl rfl) (wa rfl (Bb (wm rfl (wm rfl (wv (A8 rfl) (vF B4 rfl Co (vL 0 CS rfl (wm rfl (wv (r:=Bt [Al 5,Al 0,rS ([]:Aw),Al 0]) (GB rfl rfl) (AZ (ys:=([(Aa.mk 5 0 ([]:Aw) 0)]:List Aa)) (enc:=Ab) (css:=[[Al 5,Al 0,rS ([]:Aw),Al 0]]) (xs:=[.tmp 34]) Bv BC GV rfl rfl rfl ⟨EA.agg ⟨Up.refl _,Up.refl _,Up.refl _,Up.refl _,trivial⟩,trivial⟩ rfl Bi rfl rfl rfl (λge=>?_)))))))))))))))))));refine ck g6 λg8 g9=>Exists.elim GR λinf hinf=>C1 (xs:=he) (ys:=([(Aa.mk 5 0 ([]:Aw) 0)]:List Aa)) (enc:=Ab) (i:=2) Bv hinf.1 hinf.2.1 hinf.2.2.1 hinf.2.2.2 rfl rfl rfl rfl rfl (Lz.w (i:=0) rfl rfl) Bi C0 g8 rfl (λv37=>?_);refine wv (A8 rfl) (vF B4 rfl Co (BF (i:=2) Co rfl rfl (CZ (i:=0) rfl) rfl rfl (cs':=[rS hl,Al hm,rv v37,rB hn]) rfl (H':=[.row v37 54 4 (A2 Ab (he++([(Aa.mk 5 0 ([]:Aw) 0)]:List Aa))),.row (.slice (some ⟨ge,0,none⟩) 1 1) 54 4 (A2 Ab ([(Aa.mk 5 0 ([]:Aw) 0)]:List Aa)),.blk hb [rS hl,Al hm,rv v37,rB hn] 106]) rfl (Am (An (Af (wm rfl (wm rfl (ob g9 λhy gA gB=>DP (Hr:=[.row (.slice (some ⟨ge,0,none⟩) 1 1) 54 4 (A2 Ab ([(Aa.mk 5 0 ([]:Aw) 0)]:List Aa))]) Gi (Ds hb v37 (A0.mk hl hm (he++([(Aa.mk 5 0 ([]:Aw) 0)]:List Aa)) hn) ([93]:Aw) hy gA) rfl ((A1 (i:=2) rfl).trans (Xx _ (Xv _))) rfl ?_))))))));rintro _ _ ⟨gf,rfl,rfl⟩;refine Am (cz gB rfl (λgC gD=>?_) (λgC gE=>?_))
    ·refine Af (wa rfl (Am (Aq (Ac ?_))));obtain rfl:=Ao gD;exact Ap (Bs MQ (A5 rfl)) (sC (sC (sS sN))) ⟨gf,rfl,rfl⟩
    ·refine At (AD (Af (wv (r:=rS ([]:Aw)) (AG rfl) (Bb (wa rfl (Am (A6 (ob gE λgF gG hN=>Bd (S:=Nat×(Int×Aw×Int×(List Aa)×Bool)×(Value)) (V:=(Unit)×(Unit)) 0 (λσ=>Cf (λσ=>HJ hj he σ.1 σ.2.1 σ.2.2.1 σ.2.2.2.1 σ.2.2.2.2) σ.1 σ.2.1=some gF) (λσ=>[(0,rP hb 0),(2,rB false),(3,rB r1.1),(5,rS ([93]:Aw)),(6,Al (he.length:Int)),(7,rS ([]:Aw)),(8,Al σ.2.1.1)]) (λσ=>[.blk hb [rS σ.2.1.2.1,Al σ.2.1.2.2.1,rv σ.2.2,rB σ.2.1.2.2.2.2] 106,.row σ.2.2 54 4 (A2 Ab σ.2.1.2.2.2.1)]) (λσ=>σ.1) (F,(1,hy.2.fS,hy.2.fAt,hy.2.fCells,hy.2.fGreat),gf) gG (Az.c rfl (Az.c rfl (Az.c5 rfl rfl rfl rfl rfl Az.nil))) (sC (sC (sS sN))) (λσ=>LW =some r) (λσ=>[]) (λσ=>[]) ?_ ?_))))))))
     ·rintro⟨xg,⟨hz,hO,hP,hQ,hR⟩,hS⟩ gH;refine B7 (l':=[(0,rP hb 0),(2,rB false),(3,rB r1.1),(5,rS ([93]:Aw)),(6,Al (he.length:Int)),(7,rS ([]:Aw)),(8,Al hz)]) (H':=[.blk hb [rS hO,Al hP,rv hS,rB hR] 106,.row hS 54 4 (A2 Ab hQ)]) rfl rfl ?_;obtain⟨gI,rfl,gJ,hB,hC⟩:=Ca gH;replace hB:HJ hj he hz hO hP hQ hR=some gJ:=hB;unfold HJ at hB;refine An (A6 (An (Af (wm rfl (wv (Bu rfl) (Am (GY rfl (Wy hL) (At (AD (An (Af (wm rfl (ob hB λhf gK gL=>DP (Hr:=[]) Tryz.call89 (gc hb hS (A0.mk hO hP hQ hR) hf gK) rfl (Xv _) rfl ?_)))))))))))));rintro _ _ ⟨hu,rfl,rfl⟩;refine wv (Bu rfl) (Am (cz gL rfl (λgM gN=>?_) (λgM gO=>?_)))
      ·refine Af (wa rfl (Am (Aq (Ac (Au (Ac (Ac (AP ?_))))))));have gP:=Bg gN hC hN;refine Au ?_;obtain rfl:=Ao gP;exact Ap (Bs MQ (A5 rfl)) (sC (sC sN)) ⟨hu,rfl,rfl⟩
      ·refine At (AD (Af (wm rfl (wv (A8 rfl) (vF B4 rfl Co (vL 0 CS rfl (wm rfl (wm rfl (ck gO λhT gQ=>wv (r:=rv (EN 4 hu (B0 (he.length:Int)) 0)) (K8 (i:=1) Bv BC rfl rfl rfl (Cg hT)) (wv (r:=rv (EN 4 hu (B0 (he.length:Int)) 3)) (Ex (k:=1) Bm rfl B3 rfl (Cg hT) rfl rfl rfl) (Ix (enc:=Ab) (ys:=hf.2.fCells) (y':=(Aa.mk ((Ax hf.2.fCells (he.length:Int)).fKind) ((Ax hf.2.fCells (he.length:Int)).fInt) ((Ax hf.2.fCells (he.length:Int)).fStr) hz)) (i:=1) (j:=(he.length:Int)) B3 rfl rfl (BQ rfl) rfl hT rfl rfl (H':=[.blk hb [rS hf.2.fS,Al hf.2.fAt,rv hu,rB hf.2.fGreat] 106,.row hu 54 4 (A2 Ab (List.set hf.2.fCells (B0 (he.length:Int)) (Aa.mk ((Ax hf.2.fCells (he.length:Int)).fKind) ((Ax hf.2.fCells (he.length:Int)).fInt) ((Ax hf.2.fCells (he.length:Int)).fStr) hz)))]) rfl (bd gQ λgR gS gT=>?_))))))))))));rw[← gS];refine Am (An (Af (wm rfl (wm rfl (ob gT λgg gU gV=>DP (Hr:=[]) Gi (Ds hb hu (A0.mk hf.2.fS hf.2.fAt gR hf.2.fGreat) ([93]:Aw) gg gU) rfl (Xv _) rfl ?_)))));rintro _ _ ⟨gh,rfl,rfl⟩;refine Am (cz gV rfl (λc167 gW=>?_) (λc167 gX=>?_))
       ·refine Af (wa rfl (Am (Aq (Ac (Au (Ac (Ac (AP ?_))))))));have gY:=Bg gW hC hN;refine Au ?_;obtain rfl:=Ao gY;exact Ap (Bs MQ (A5 rfl)) (sC (sC sN)) ⟨gh,rfl,rfl⟩
       ·refine At (AD (Af (wm rfl (ob gX λh0 gZ ca=>DP (Hr:=[]) Gi (Ds hb gh gg.2 ([44]:Aw) h0 gZ) rfl (Xv _) rfl ?_))));rintro _ _ ⟨gi,rfl,rfl⟩;refine wv (Bu rfl) (Am (cz ca rfl (λc175 cb=>?_) (λc175 cc=>?_)))
        ·refine Af (wa rfl (Am (Aq (Au (Ac (Ac (AP ?_)))))));have cd:=Bg cb hC hN;refine Au ?_;obtain rfl:=Ao cd;exact Ap (Bs MQ (A5 rfl)) (sC (sC sN)) ⟨gi,rfl,rfl⟩
        ·refine At (A4 (AD (Aj (wm rfl (ck cc λce cf=>wv (Be rfl rfl ce) (wa rfl (Ai ?_)))))));have cg:=AW cf hC;exact As (Ar (gI,(hz+1,h0.2.fS,h0.2.fAt,h0.2.fCells,h0.2.fGreat),gi) ⟨cg,X0 _⟩ (Az.c rfl (Az.c rfl (Az.c5 rfl rfl rfl rfl rfl Az.nil))) (sC (sC sN)))
     ·rintro⟨⟨⟩,⟨⟩⟩ ch
      cases ch
   ·refine At (AD (Af (wm rfl (wv (A8 rfl) (vF B4 rfl Co (vL 0 CS rfl (wv (DU (ys:=he) (enc:=Ab) (i:=1) Bv rfl rfl) (wa rfl (Bb (wm rfl (wm rfl (wv (A8 rfl) (vF B4 rfl Co (vL 0 CS rfl (wm rfl (wv (r:=Bt [Al 6,Al 0,rS ([]:Aw),Al 0]) (GB rfl rfl) (AZ (ys:=([(Aa.mk 6 0 ([]:Aw) 0)]:List Aa)) (enc:=Ab) (css:=[[Al 6,Al 0,rS ([]:Aw),Al 0]]) (xs:=[.tmp 34]) Bv BC GV rfl rfl rfl ⟨EA.agg ⟨Up.refl _,Up.refl _,Up.refl _,Up.refl _,trivial⟩,trivial⟩ rfl Bi rfl rfl rfl (λgj=>?_))))))))))))))))));refine ck g7 λci cj=>Exists.elim GR λinf hinf=>C1 (xs:=he) (ys:=([(Aa.mk 6 0 ([]:Aw) 0)]:List Aa)) (enc:=Ab) (i:=2) Bv hinf.1 hinf.2.1 hinf.2.2.1 hinf.2.2.2 rfl rfl rfl rfl rfl (Lz.w (i:=0) rfl rfl) Bi C0 ci rfl (λhD=>?_);refine wv (A8 rfl) (vF B4 rfl Co (BF (i:=2) Co rfl rfl (CZ (i:=0) rfl) rfl rfl (cs':=[rS hl,Al hm,rv hD,rB hn]) rfl (H':=[.row hD 54 4 (A2 Ab (he++([(Aa.mk 6 0 ([]:Aw) 0)]:List Aa))),.row (.slice (some ⟨gj,0,none⟩) 1 1) 54 4 (A2 Ab ([(Aa.mk 6 0 ([]:Aw) 0)]:List Aa)),.blk hb [rS hl,Al hm,rv hD,rB hn] 106]) rfl (Am (An (Af (wm rfl (wm rfl (ob cj λh1 cl cm=>DP (Hr:=[.row (.slice (some ⟨gj,0,none⟩) 1 1) 54 4 (A2 Ab ([(Aa.mk 6 0 ([]:Aw) 0)]:List Aa))]) Gi (Ds hb hD (A0.mk hl hm (he++([(Aa.mk 6 0 ([]:Aw) 0)]:List Aa)) hn) ([125]:Aw) h1 cl) rfl ((A1 (i:=2) rfl).trans (Xx _ (Xv _))) rfl ?_))))))));rintro _ _ ⟨gl,rfl,rfl⟩;refine Am (cz cm rfl (λcn co=>?_) (λcn cp=>?_))
    ·refine Af (wa rfl (Am (Aq (Ac ?_))));obtain rfl:=Ao co;exact Ap (Bs MQ (A5 rfl)) (sC (sC (sS sN))) ⟨gl,rfl,rfl⟩
    ·refine At (AD (Af (wv (r:=rS ([]:Aw)) (AG rfl) (Bb (wa rfl (Am (A6 (ob cp λcq cr hE=>Bd (S:=Nat×(Aw×Int×Aw×Int×(List Aa)×Bool)×(Value)) (V:=(Unit)×(Unit)) 0 (λσ=>Cf (λσ=>HI F hj he σ.1 σ.2.1 σ.2.2.1 σ.2.2.2.1 σ.2.2.2.2.1 σ.2.2.2.2.2) σ.1 σ.2.1=some cq) (λσ=>[(0,rP hb 0),(2,rB false),(3,rB r1.1),(5,rS ([125]:Aw)),(6,Al (he.length:Int)),(7,rS σ.2.1.1),(8,Al σ.2.1.2.1)]) (λσ=>[.blk hb [rS σ.2.1.2.2.1,Al σ.2.1.2.2.2.1,rv σ.2.2,rB σ.2.1.2.2.2.2.2] 106,.row σ.2.2 54 4 (A2 Ab σ.2.1.2.2.2.2.1)]) (λσ=>σ.1) (F,(([]:Aw),1,h1.2.fS,h1.2.fAt,h1.2.fCells,h1.2.fGreat),gl) cr (Az.c rfl (Az.c rfl (Az.c5 rfl rfl rfl rfl rfl Az.nil))) (sC (sC (sS sN))) (λσ=>LV =some r) (λσ=>[]) (λσ=>[]) ?_ ?_))))))))
     ·rintro⟨xh,⟨hi,ho,hU,hV,hW,hX⟩,hY⟩ cs;refine B7 (l':=[(0,rP hb 0),(2,rB false),(3,rB r1.1),(5,rS ([125]:Aw)),(6,Al (he.length:Int)),(7,rS hi),(8,Al ho)]) (H':=[.blk hb [rS hU,Al hV,rv hY,rB hX] 106,.row hY 54 4 (A2 Ab hW)]) rfl rfl ?_;obtain⟨ct,rfl,hZ,hG,h3⟩:=Ca cs;replace hG:HI F hj he hi ho hU hV hW hX=some hZ:=hG;unfold HI at hG;refine An (A6 (An (Af (wm rfl (wv (Bu rfl) (Am (DF rfl (Wz hL) (Af (wm rfl (ob hG λha cu cv=>DP (Hr:=[]) Tryz.call119 (QB F hb hY (A0.mk hU hV hW hX) ha cu) rfl (Xv _) rfl ?_))))))))));rintro _ _ ⟨hH,rfl,rfl⟩;refine wm rfl (wv (AC rfl rfl) (wv (AC rfl rfl) (wa rfl (wa rfl (Am (An (BX (S:=(Bool×Bool×Bool×Aw×Int×(List Aa)×Bool)×(Value)) (λσ=>Ee hj he ho ha σ.1.1 σ.1.2.1 σ.1.2.2.1 σ.1.2.2.2.1 σ.1.2.2.2.2.1 σ.1.2.2.2.2.2.1 σ.1.2.2.2.2.2.2=some hZ) (λσ=>[(0,rP hb 0),(2,rB false),(3,rB r1.1),(5,rS ([125]:Aw)),(6,Al (he.length:Int)),(7,rS hi),(8,Al ho),(9,rS ha.1),(10,rB ha.2.1),(44,rB r1.1),(45,rB (!r1.1)),(46,Dx [rS ha.1,rB ha.2.1]),(47,rP hb 0),(48,Dx [rS ha.1,rB ha.2.1]),(49,rS ha.1),(50,rB ha.2.1),(51,rB ha.2.1),(52,rB (!ha.2.1)),(53,rB (!ha.2.1)),(61,rB σ.1.1),(62,rB σ.1.2.1),(66,rB σ.1.2.2.1)]) (λσ=>[.blk hb [rS σ.1.2.2.2.1,Al σ.1.2.2.2.2.1,rv σ.2,rB σ.1.2.2.2.2.2.2] 106,.row σ.2 54 4 (A2 Ab σ.1.2.2.2.2.2.1)]) ?_ ?_)))))))
      ·refine Aj (wm rfl (wv (Bu rfl) (wm rfl (bz cv (λhh cw=>?_) (λhh cx=>?_)))))
       ·exact wf hh (wf hh (wf hh (wu (wu (wu (wf hh (wv (r:=rB true) (Av rfl hh rfl) (wm rfl (wz rfl rfl (wz rfl rfl (wz rfl rfl (wv (r:=rB true) (Av (b:=true) rfl rfl rfl) (Ai (As (Ar ((true,true,true,ha.2.2.fS,ha.2.2.fAt,ha.2.2.fCells,ha.2.2.fGreat),hH) cw (Az.c rfl (Az.c rfl (Az.c5 rfl rfl rfl rfl rfl (Az.c5 rfl rfl rfl rfl rfl (Az.c5 rfl rfl rfl rfl rfl (Az.c5 rfl rfl rfl rfl rfl Az.nil)))))) (sC (sC sN)))))))))))))))))
       ·refine wo hh (wm rfl (wo hh (wv (CB rfl rfl) (wo hh (wm rfl (bz cx (λhp cy=>?_) (λhp c0=>?_)))))))
        ·refine wo hp (wm rfl (wo hp (wm rfl (wo hp (wv (QN rfl rfl) (wo hh (BR rfl hp rfl (Cc rfl hh rfl (wm rfl (bz cy (λhq c1=>?_) (λhq c2=>?_)))))))))))
         ·exact wf hq (wf hq (wf hq (wv (r:=rB true) (Av rfl hq rfl) (Ai (As (Ar ((Di ha.1 hi||decide (ha.1=hi),Di ha.1 hi||decide (ha.1=hi),true,ha.2.2.fS,ha.2.2.fAt,ha.2.2.fCells,ha.2.2.fGreat),hH) c1 (Az.c rfl (Az.c rfl (Az.c5 rfl rfl rfl rfl rfl (Az.c5 rfl rfl rfl rfl rfl (Az.c5 rfl rfl rfl rfl rfl (Az.c5 rfl rfl rfl rfl rfl Az.nil)))))) (sC (sC sN))))))))
         ·refine wo hq (wm rfl (wo hq (ob c2 λhw c3 c4=>DP (Hr:=[]) Gi (Ds hb hH ha.2.2 ([58]:Aw) hw c3) rfl (Xv _) rfl ?_)));rintro _ _ ⟨c6,rfl,rfl⟩;exact wo hq (wv (Bu rfl) (Cc rfl hq rfl (Ai (As (Ar ((Di ha.1 hi||decide (ha.1=hi),Di ha.1 hi||decide (ha.1=hi),!hw.1,hw.2.fS,hw.2.fAt,hw.2.fCells,hw.2.fGreat),c6) c4 (Az.c rfl (Az.c rfl (Az.c5 rfl rfl rfl rfl rfl (Az.c5 rfl rfl rfl rfl rfl (Az.c5 rfl rfl rfl rfl rfl (Az.c5 rfl rfl rfl rfl rfl Az.nil)))))) (sC (sC sN)))))))
        ·refine wf hp (wf hp (wf hp (wo hh (wv (r:=rB false) (Ak rfl hp rfl) (Cc rfl hh rfl (wm rfl (AF (b:=false) rfl rfl rfl (wm rfl (AF (b:=false) rfl rfl rfl (ob c0 λhr c7 c8=>DP (Hr:=[]) Gi (Ds hb hH ha.2.2 ([58]:Aw) hr c7) rfl (Xv _) rfl ?_))))))))));rintro _ _ ⟨c9,rfl,rfl⟩;exact AF (b:=false) rfl rfl rfl (wv (Bu rfl) (wv (r:=rB (!hr.1)) (Ak (b:=false) rfl rfl rfl) (Ai (As (Ar ((false,false,!hr.1,hr.2.fS,hr.2.fAt,hr.2.fCells,hr.2.fGreat),c9) c8 (Az.c rfl (Az.c rfl (Az.c5 rfl rfl rfl rfl rfl (Az.c5 rfl rfl rfl rfl rfl (Az.c5 rfl rfl rfl rfl rfl (Az.c5 rfl rfl rfl rfl rfl Az.nil)))))) (sC (sC sN)))))))
      ·rintro⟨⟨gm,gp,gq,h4,h5,h6,h7⟩,ga⟩ hI;refine B7 (l':=[(0,rP hb 0),(2,rB false),(3,rB r1.1),(5,rS ([125]:Aw)),(6,Al (he.length:Int)),(7,rS hi),(8,Al ho),(9,rS ha.1),(10,rB ha.2.1),(44,rB r1.1),(45,rB (!r1.1)),(46,Dx [rS ha.1,rB ha.2.1]),(47,rP hb 0),(48,Dx [rS ha.1,rB ha.2.1]),(49,rS ha.1),(50,rB ha.2.1),(51,rB ha.2.1),(52,rB (!ha.2.1)),(53,rB (!ha.2.1)),(61,rB gm),(62,rB gp),(66,rB gq)]) (H':=[.blk hb [rS h4,Al h5,rv ga,rB h7] 106,.row ga 54 4 (A2 Ab h6)]) rfl rfl ?_;replace hI:Ee hj he ho ha gm gp gq h4 h5 h6 h7=some hZ:=hI;unfold Ee at hI;refine cz hI rfl (λcA cB=>?_) (λcA cC=>?_)
       ·refine Af (wa rfl (Am (Aq (Ac (Ac (Au (Ac (Ac (AP ?_)))))))));have cD:=Bg cB h3 hE;refine Au ?_;obtain rfl:=Ao cD;exact Ap (Bs MQ (A5 rfl)) (sC (sC sN)) ⟨ga,rfl,rfl⟩
       ·refine At (AD (Af (wm rfl (wa rfl (Am (Aj (wm rfl (wm rfl (wv (A8 rfl) (vF B4 rfl Co (vL 0 CS rfl (wm rfl (wv (r:=Bt [Al 4,Al 0,rS ha.1,Al 0]) (DV rfl rfl rfl rfl) (AZ (ys:=([(Aa.mk 4 0 ha.1 0)]:List Aa)) (enc:=Ab) (css:=[[Al 4,Al 0,rS ha.1,Al 0]]) (xs:=[.tmp 74]) Bv BC GV rfl rfl rfl ⟨EA.agg ⟨Up.refl _,Up.refl _,Up.refl _,Up.refl _,trivial⟩,trivial⟩ rfl Bi rfl rfl rfl (λh8=>?_)))))))))))))));refine ck cC λcE cF=>Exists.elim GR λinf hinf=>C1 (xs:=h6) (ys:=([(Aa.mk 4 0 ha.1 0)]:List Aa)) (enc:=Ab) (i:=2) Bv hinf.1 hinf.2.1 hinf.2.2.1 hinf.2.2.2 rfl rfl rfl rfl rfl (Lz.w (i:=0) rfl rfl) Bi C0 cE rfl (λhJ=>?_);refine wv (A8 rfl) (vF B4 rfl Co (BF (i:=2) Co rfl rfl (CZ (i:=0) rfl) rfl rfl (cs':=[rS h4,Al h5,rv hJ,rB h7]) rfl (H':=[.row hJ 54 4 (A2 Ab (h6++([(Aa.mk 4 0 ha.1 0)]:List Aa))),.row (.slice (some ⟨h8,0,none⟩) 1 1) 54 4 (A2 Ab ([(Aa.mk 4 0 ha.1 0)]:List Aa)),.blk hb [rS h4,Al h5,rv hJ,rB h7] 106]) rfl (Am (An (Af (wm rfl (ob cF λhg cG cH=>DP (Hr:=[.row (.slice (some ⟨h8,0,none⟩) 1 1) 54 4 (A2 Ab ([(Aa.mk 4 0 ha.1 0)]:List Aa))]) Tryz.call89 (gc hb hJ (A0.mk h4 h5 (h6++([(Aa.mk 4 0 ha.1 0)]:List Aa)) h7) hg cG) rfl ((A1 (i:=2) rfl).trans (Xx _ (Xv _))) rfl ?_)))))));rintro _ _ ⟨hx,rfl,rfl⟩;refine wv (Bu rfl) (Am (cz cH rfl (λcI cJ=>?_) (λcI cK=>?_)))
        ·refine Af (wa rfl (Am (Aq (Ac (Au (Ac (Ac (AP ?_))))))));have cL:=Bg cJ h3 hE;refine Au ?_;obtain rfl:=Ao cL;exact Ap (Bs MQ (A5 rfl)) (sC (sC (sS sN))) ⟨hx,rfl,rfl⟩
        ·refine At (AD (Af (wm rfl (wv (A8 rfl) (vF B4 rfl Co (vL 0 CS rfl (wm rfl (wm rfl (ck cK λgb cM=>wv (r:=rv (EN 4 hx (B0 (he.length:Int)) 0)) (K8 (i:=1) Bv BC rfl rfl rfl (Cg gb)) (wv (r:=rv (EN 4 hx (B0 (he.length:Int)) 3)) (Ex (k:=1) Bm rfl B3 rfl (Cg gb) rfl rfl rfl) (Ix (enc:=Ab) (ys:=hg.2.fCells) (y':=(Aa.mk ((Ax hg.2.fCells (he.length:Int)).fKind) ((Ax hg.2.fCells (he.length:Int)).fInt) ((Ax hg.2.fCells (he.length:Int)).fStr) ho)) (i:=1) (j:=(he.length:Int)) B3 rfl rfl (BQ rfl) rfl gb rfl rfl (H':=[.blk hb [rS hg.2.fS,Al hg.2.fAt,rv hx,rB hg.2.fGreat] 106,.row hx 54 4 (A2 Ab (List.set hg.2.fCells (B0 (he.length:Int)) (Aa.mk ((Ax hg.2.fCells (he.length:Int)).fKind) ((Ax hg.2.fCells (he.length:Int)).fInt) ((Ax hg.2.fCells (he.length:Int)).fStr) ho))),.row (.slice (some ⟨h8,0,none⟩) 1 1) 54 4 (A2 Ab ([(Aa.mk 4 0 ha.1 0)]:List Aa))]) rfl (bd cM λcN cO cP=>?_))))))))))));rw[← cO];refine Am (An (Af (wm rfl (wm rfl (ob cP λgr cQ cR=>DP (Hr:=[.row (.slice (some ⟨h8,0,none⟩) 1 1) 54 4 (A2 Ab ([(Aa.mk 4 0 ha.1 0)]:List Aa))]) Gi (Ds hb hx (A0.mk hg.2.fS hg.2.fAt cN hg.2.fGreat) ([125]:Aw) gr cQ) rfl (Xv _) rfl ?_)))));rintro _ _ ⟨gs,rfl,rfl⟩;refine Am (cz cR rfl (λcS cT=>?_) (λcS cU=>?_))
         ·refine Af (wa rfl (Am (Aq (Ac (Au (Ac (Ac (AP ?_))))))));have cV:=Bg cT h3 hE;refine Au ?_;obtain rfl:=Ao cV;exact Ap (Bs MQ (A5 rfl)) (sC (sC (sS sN))) ⟨gs,rfl,rfl⟩
         ·refine At (AD (Af (wm rfl (ob cU λh9 cW cX=>DP (Hr:=[.row (.slice (some ⟨h8,0,none⟩) 1 1) 54 4 (A2 Ab ([(Aa.mk 4 0 ha.1 0)]:List Aa))]) Gi (Ds hb gs gr.2 ([44]:Aw) h9 cW) rfl (Xv _) rfl ?_))));rintro _ _ ⟨gt,rfl,rfl⟩;refine wv (Bu rfl) (Am (cz cX rfl (λcY cZ=>?_) (λcY xa=>?_)))
          ·refine Af (wa rfl (Am (Aq (Au (Ac (Ac (AP ?_)))))));have xb:=Bg cZ h3 hE;refine Au ?_;obtain rfl:=Ao xb;exact Ap (Bs MQ (A5 rfl)) (sC (sC (sS sN))) ⟨gt,rfl,rfl⟩
          ·refine At (A4 (AD (Aj (wm rfl (ck xa λxc xd=>wv (Be rfl rfl xc) (wa rfl (Ai ?_)))))));have xe:=AW xd h3;exact As (Ar (ct,(ha.1,ho+1,h9.2.fS,h9.2.fAt,h9.2.fCells,h9.2.fGreat),gt) ⟨xe,X0 _⟩ (Az.c rfl (Az.c rfl (Az.c5 rfl rfl rfl rfl rfl Az.nil))) (sC (sC (sS sN))))
     ·rintro⟨⟨⟩,⟨⟩⟩ xf
      cases xf
theorem Lc:∀F:Nat,(∀(ha:Nat) (hb:Value) (q:A0) (r:Bool×A0),HK F q=some r→Fn Tryz.prog GE 89 [rP ha 0] [.blk ha [rS q.fS,Al q.fAt,rv hb,rB q.fGreat] 106,.row hb 54 4 (A2 Ab q.fCells)] (λR H=>∃w0_2:Value,R=rB r.1∧H=[.blk ha [rS r.2.fS,Al r.2.fAt,rv w0_2,rB r.2.fGreat] 106,.row w0_2 54 4 (A2 Ab r.2.fCells)]))
  | 0=>(λ_ _ _ _ h=>by simp[HK] at h)
  | nn+1=>(λha hb q r h=>PU nn (HK nn) (Lc nn) ha hb q r (by rw[HK] at h;exact h))
theorem Rz (F:Nat)(ha:Nat)(hb:Value)(q:A0)(r:Bool×A0)(h:HK F q=some r):Fn Tryz.prog GE 89 [rP ha 0] [.blk ha [rS q.fS,Al q.fAt,rv hb,rB q.fGreat] 106,.row hb 54 4 (A2 Ab q.fCells)] (λR H=>∃w0_2:Value,R=rB r.1∧H=[.blk ha [rS r.2.fS,Al r.2.fAt,rv w0_2,rB r.2.fGreat] 106,.row w0_2 54 4 (A2 Ab r.2.fCells)]):=(Lc F) ha hb q r h
theorem R3 (F:Nat)(s:Aw)(r:(List Aa)×Int)(h:NL F s=some r):Fn Tryz.prog GE 55 [rS s] [] (λR H=>R=Dx [AJ 4 (A2 Ab r.1),Al r.2]∧H=[]):=by
 refine enter (n:=34) Tryz.func55 rfl Tryz.ntmps55 rfl (λw Z=>?_);unfold NL at h;refine Af (wa rfl (wa rfl (Am (An (Af (wm rfl (wv (BP D4 rfl) (wv (CB rfl rfl) (Am (cz h rfl (λc1 h2=>?_) (λc1 h3=>?_)))))))))))
 ·refine Af (wa rfl (wa rfl (Am (Aq (Ac (WK.up (d:=2) (r:=AJ 4 (A2 Ab ([]:List Aa))) rfl (Up.le (Et.nil _)) ?_))))));obtain rfl:=Ao h2;exact Ap (Eb Ub (A5 rfl) (A5 rfl)) sN ⟨rfl,rfl⟩
 ·refine At (AD (Af (wm rfl (wv (r:=Bt [rS s,Al 0,rv (.slice none 0 0),rB false]) (NY rfl rfl) (Bq rfl rfl (λb4=>?_))))));refine wa rfl (Am (An (BX (S:=(Bool×Aw×Int×(List Aa)×Bool)×(Value)) (λσ=>Gm F σ.1.1 σ.1.2.1 σ.1.2.2.1 σ.1.2.2.2.1 σ.1.2.2.2.2=some r) (λσ=>[(2,rv (.slice none 0 0)),(3,Al 0),(4,rP b4 0),(22,rB σ.1.1)]) (λσ=>[.blk b4 [rS σ.1.2.1,Al σ.1.2.2.1,rv σ.2,rB σ.1.2.2.2.2] 106,.row σ.2 54 4 (A2 Ab σ.1.2.2.2.1)]) ?_ ?_)))
  ·refine Aj (wm rfl (WL.nilrow (e:=54) (sz:=4) (ob h3 λhb hl hm=>DP (Hr:=[]) Tryz.call89 (Rz F b4 (.slice none 0 0                                                      ) (A0.mk s 0 ([]:List Aa) false) hb hl) rfl ((A1 (i:=1) rfl).trans (Xx _ (Xv _))) rfl ?_)));rintro _ _ ⟨v21,rfl,rfl⟩;refine wv (Bu rfl) (wm rfl (bz hm (λha hn=>?_) (λha ho=>?_)))
   ·exact wf ha (wf ha (wf ha (wf ha (wf ha (wf ha (wf ha (wv (r:=rB true) (Av rfl ha rfl) (Ai (As (Ar ((true,hb.2.fS,hb.2.fAt,hb.2.fCells,hb.2.fGreat),v21) hn (Az.c rfl (Az.c rfl (Az.c rfl (Az.c rfl Az.nil)))) (sC (sC sN))))))))))))
   ·exact wo ha (wm rfl (wo ha (wv (A8 rfl) (wo ha (vF B4 rfl B3 (wo ha (vL 0 BG rfl (wo ha (wm rfl (wo ha (wv (BP D4 rfl) (wo ha (wv (Bo rfl rfl) (Cc rfl ha rfl (Ai (As (Ar ((!decide (hb.2.fAt=(s.length:Int)),hb.2.fS,hb.2.fAt,hb.2.fCells,hb.2.fGreat),v21) ho (Az.c rfl (Az.c rfl (Az.c rfl (Az.c rfl Az.nil)))) (sC (sC sN)))))))))))))))))))
  ·rintro⟨⟨hg,hh,hi,he,hj⟩,hk⟩ hf;refine B7 (l':=[(2,rv (.slice none 0 0)),(3,Al 0),(4,rP b4 0),(22,rB hg)]) (H':=[.blk b4 [rS hh,Al hi,rv hk,rB hj] 106,.row hk 54 4 (A2 Ab he)]) rfl rfl ?_;replace hf:Gm F hg hh hi he hj=some r:=hf;unfold Gm at hf;refine cz hf rfl (λhp hq=>?_) (λhp hr=>?_)
   ·refine Af (wa rfl (wa rfl (Am (Aq (Ac (WK.up (d:=2) (r:=AJ 4 (A2 Ab ([]:List Aa))) rfl (Up.le (Et.nil _)) ?_))))));obtain rfl:=Ao hq;exact Ap (Eb Ub (A5 rfl) (A5 rfl)) (sS (sS sN)) ⟨rfl,rfl⟩
   ·refine At (AD (An (Af (wm rfl (wv (A8 rfl) (vF B4 rfl HB (vL 0 Sw rfl (Am (cz hr rfl (λhs ht=>?_) (λhs hu=>?_))))))))))
    ·refine Af (wa rfl (wa rfl (Am (Aq (Ac (WK.up (d:=2) (r:=AJ 4 (A2 Ab ([]:List Aa))) rfl (Up.le (Et.nil _)) ?_))))));obtain rfl:=Ao ht;exact Ap (Eb Ub (A5 rfl) (A5 rfl)) (sS (sS sN)) ⟨rfl,rfl⟩
    ·refine At (AD (Af (wm rfl (wv (A8 rfl) (vF B4 rfl Co (vL 0 CS rfl (WL.freeze (i:=1) rfl (WL.up (d:=30) (r:=AJ 4 (A2 Ab he)) rfl (Up.fact (i:=0) rfl) (ob hu λhw hx hy=>BL Tryz.call71 (HO F he hw hx) rfl (wv (AC rfl rfl) (wv (AC rfl rfl) (wa rfl (wa rfl (Am (Aq ?_)))))))))))))));obtain rfl:=Ao hy;exact Ap (Eb Ub (A5 rfl) (A5 rfl)) (sS (sS sN)) ⟨rfl,rfl⟩
end Go.Proofs.YtghdglcmblpbeaaGreatDoor.Q
namespace Go.Proofs.YtghdglcmblpbeaaGreatDoor
open Go
set_option linter.unusedVariables false
def HR (a:(List Aa))(b:(List Aa))(ha:Int):Option (Stp (Int) (Out (Bool) (Unit))):=
 AO (decide (ha<(a.length:Int))) (AY (C3 ha (a.length:Int))<|AY (C3 ha (b.length:Int))<|AO (!(decide (((Ax a ha).fKind)=((Ax b ha).fKind))&&decide (((Ax a ha).fInt)=((Ax b ha).fInt))&&decide (((Ax a ha).fStr)=((Ax b ha).fStr))&&decide (((Ax a ha).fN)=((Ax b ha).fN)))) (some (.out (.ret false))) (AY (BN .i64 (ha+1))<|some (.next (ha+1)))) (some (.out (.go ())))
def HQ :Option (Bool):=
 some true
def L5 (F:Nat)(a:(List Aa))(b:(List Aa)):Option (Bool):=
 AO (!decide ((a.length:Int)=(b.length:Int))) (some false) (Bf (Cf (λσ=>HR a b σ) F 0) (BS λν=>HQ ))
def Ng (F:Nat)(a:(List Aa))(b:(List Aa)):Option (Bool):=
 Bf (L5 F a b) λr1=>some r1
def Ew (a:(List Aa))(b:(List Aa))(ha:Int):Option (Stp (Int) (Out (Bool) (Unit))):=
 AO (decide (ha<(a.length:Int))) (AY (C3 ha (a.length:Int))<|AY (C3 ha (b.length:Int))<|AO (!(decide (((Ax a ha).fKind)=((Ax b ha).fKind))&&decide (((Ax a ha).fInt)=((Ax b ha).fInt))&&decide (((Ax a ha).fStr)=((Ax b ha).fStr))&&decide (((Ax a ha).fN)=((Ax b ha).fN)))) (some (.out (.ret false))) (AY (BN .i64 (ha+1))<|some (.next (ha+1)))) (some (.out (.go ())))
def Iz :Option (Bool):=
 some true
def Lg (F:Nat)(a:(List Aa))(b:(List Aa)):Option (Bool):=
 AO (!decide ((a.length:Int)=(b.length:Int))) (some false) (Bf (Cf (λσ=>Ew a b σ) F 0) (BS λν=>Iz ))
end Go.Proofs.YtghdglcmblpbeaaGreatDoor
namespace Go.Proofs.YtghdglcmblpbeaaGreatDoor.Q
open Go Go.RowKit
set_option linter.unusedVariables false
set_option linter.unusedSimpArgs false
set_option maxRecDepth 100000
set_option maxHeartbeats 4000000
theorem TU {a0 b0:Int}{a1 b1:Int}{a2 b2:Aw}{a3 b3:Int}(w:World):(Op.equalIn 10000 54 (.agg #[.int .i64 a0,.int .i64 a1,.string (B a2),.int .i64 a3]) (.agg #[.int .i64 b0,.int .i64 b1,.string (B b2),.int .i64 b3])).run Tryz.prog w = .ok (decide (a0=b0)&&decide (a1=b1)&&decide (a2=b2)&&decide (a3=b3)) w:=by
  have hS:Tryz.prog.underlying 54=some (.struct (Tryz.prog.fieldsOf 54)):=by kernel_rfl
  have hp:Tryz.prog.stoodInHeld 54=false:=by kernel_rfl
  have u3:=Xa;have ia3:=BG;have so3:=B3;have u9:=D4;have ia9:=CG;have so9:=C6;have ha:=Tryz.underlying52;have hb:=CR;have he:=CF;rw[show(10000:Nat)=9999+1 from rfl,run_equalIn_agg w 9999 54 _ _ hS hp];simp only[Program.fieldsOf,Bm]
  go_simp
  simp only[E4]
  by_cases h0:a0=b0<;>by_cases h1:a1=b1<;>by_cases h2:a2=b2<;>by_cases h3:a3=b3<;>simp[h0,h1,h2,h3]
theorem I4 {n:Nat}{c:Cx}{l:Fr}{H:List Ent}{d:Option Nat}{ty rty:TypeId}{pos:String}{af:Array Edge}{g:Option (Nat×Bool)}{x y:Operand}{a0 b0:Int}{a1 b1:Int}{a2 b2:Aw}{a3 b3:Int}(hx:ev l x=some (Bt [Al a0,Al a1,rS a2,Al a3]))(hy:ev l y=some (Bt [Al b0,Al b1,rS b2,Al b3])):B2 Tryz.prog n c l H { dst:=d,op:=.binOp .neq 54 x y rty,type:=ty,pos:=pos,after:=af,guard:=g } (rB (!(decide (a0=b0)&&decide (a1=b1)&&decide (a2=b2)&&decide (a3=b3)))):=λa w Z ha hw=>by
  obtain⟨us,e1,q1⟩:=ha.ev hx;obtain⟨vs,e2,q2⟩:=ha.ev hy;have k1:=Bn.eq_rv (us:=[.int .i64 a0,.int .i64 a1,.string (B a2),.int .i64 a3]) q1;have k2:=Bn.eq_rv (us:=[.int .i64 b0,.int .i64 b1,.string (B b2),.int .i64 b3]) q2;subst k1;subst k2;have hm:Tryz.prog.eqGuardType Tryz.prog.depth 54=false:=by kernel_rfl
  have hb:=TU (a0:=a0) (a1:=a1) (a2:=a2) (a3:=a3) (b0:=b0) (b1:=b1) (b2:=b2) (b3:=b3) w;refine⟨.bool (!(decide (a0=b0)&&decide (a1=b1)&&decide (a2=b2)&&decide (a3=b3))),rfl,?_⟩;have hg:=run_eqGuard_agg (P:=Tryz.prog) w .neq 54 x y #[.int .i64 a0,.int .i64 a1,.string (B a2),.int .i64 a3] #[.int .i64 b0,.int .i64 b1,.string (B b2),.int .i64 b3] hm;simp only[execOp,e1,e2,Sem.run_bind,hg,Result.andThen_ok,run_neq_struct,hb,Sem.run_pure]
theorem R8 (F:Nat)(a:(List Aa))(b:(List Aa))(r:Bool)(h:L5 F a b=some r):Fn Tryz.prog GE 142 [AJ 4 (A2 Ab a),AJ 4 (A2 Ab b)] [] (λR H=>R=rB r∧H=[]):=by
 refine enter (n:=26) Tryz.func142 rfl Tryz.ntmps142 rfl (λw Z=>?_);unfold L5 at h;refine Af (wa rfl (Am (An (Af (wm rfl (wv (AK (ys:=a) (enc:=Ab) Bv rfl) (wm rfl (wv (AK (ys:=b) (enc:=Ab) Bv rfl) (wv (Bo rfl rfl) (Am (cz h rfl (λc1 h2=>?_) (λc1 h3=>?_))))))))))))
 ·refine Af (wa rfl (Am (Aq (Ac ?_))));obtain rfl:=Ao h2;exact Ap (Bs Tryz.results142 (A5 rfl)) sN ⟨rfl,rfl⟩
 ·refine At (AD (An (Af (wm rfl (wv (AK (ys:=a) (enc:=Ab) Bv rfl) (wv (r:=Al 0) (A3 rfl) (Am (A6 (ob h3 λhh hi hg=>Bd (S:=Nat×(Int)×(Unit)) (V:=(Unit)×(Unit)) 0 (λσ=>Cf (λσ=>HR a b σ) σ.1 σ.2.1=some hh) (λσ=>[(0,AJ 4 (A2 Ab a)),(1,AJ 4 (A2 Ab b)),(12,Al (a.length:Int)),(13,Al σ.2.1)]) (λσ=>[]) (λσ=>σ.1) (F,0,()) hi (Az.c rfl (Az.c rfl (Az.c rfl (Az.c rfl Az.nil)))) sN (λσ=>HQ =some r) (λσ=>[]) (λσ=>[]) ?_ ?_)))))))))
  ·rintro⟨h4,ha,⟨⟩⟩ hj;refine B7 (l':=[(0,AJ 4 (A2 Ab a)),(1,AJ 4 (A2 Ab b)),(12,Al (a.length:Int)),(13,Al ha)]) (H':=[]) rfl rfl ?_;obtain⟨hk,rfl,hl,hb,hf⟩:=Ca hj;replace hb:HR a b ha=some hl:=hb;unfold HR at hb;refine Af (wv (Cl rfl rfl) (Am (An (cz hb rfl (λhm hn=>?_) (λhm ho=>?_)))))
   ·refine At (AD (An (A6 (Af (wm rfl (wa rfl (Am (An (ck hn λhp hq=>ck hq λhr hs=>C7 [0,1,5,12,13] [⟨[],AJ 4 (A2 Ab a),0⟩,⟨[],Al ha,0⟩,⟨[0,1],J0 (Ab (Ax a ha)),0⟩,⟨[2],Bt (Ab (Ax a ha)),0⟩,⟨[],AJ 4 (A2 Ab b),0⟩,⟨[],Al ha,0⟩,⟨[4,5],J0 (Ab (Ax b ha)),0⟩,⟨[6],Bt (Ab (Ax b ha)),0⟩,⟨[3,7],rB (!(decide (((Ax a ha).fKind)=((Ax b ha).fKind))&&decide (((Ax a ha).fInt)=((Ax b ha).fInt))&&decide (((Ax a ha).fStr)=((Ax b ha).fStr))&&decide (((Ax a ha).fN)=((Ax b ha).fN)))),0⟩] [16,17,18,19,20,21,22,23,24,0,1,12,13] ?_ ?_)))))))))
    ·refine oq (A3 rfl) (oq (A3 rfl) (oq (AU (enc:=Ab) (ys:=a) Bv BC rfl rfl hp) (oq (CP Jn BC rfl rfl rfl) (oq (A3 rfl) (oq (A3 rfl) (oq (AU (enc:=Ab) (ys:=b) Bv BC rfl rfl hr) (oq (CP Jn BC rfl rfl rfl) (oq (I4 rfl rfl) ?_))))))));exact Cr
    refine AD (cz hs rfl (λht hu=>?_) (λht hw=>?_))
    ·refine Af (wa rfl (Am (Aq (Au (Ac (Ac (AP ?_)))))));have hx:=Bg hu hf hg;refine Au (Ac ?_);obtain rfl:=Ao hx;exact Ap (Bs Tryz.results142 (A5 rfl)) sN ⟨rfl,rfl⟩
    ·refine At (A4 (AD (Aj (ck hw λhy hz=>wv (Be rfl rfl hy) (wm rfl (Ai ?_))))));have h0:=AW hz hf;exact As (Ar (hk,ha+1,()) ⟨h0,X0 _⟩ (Az.c rfl (Az.c rfl (Az.c rfl (Az.c rfl Az.nil)))) sN)
   ·refine Bl (Ay ?_);have h1:=BB ho hf hg;exact Ay (AS (Ar ((),()) h1 Az.nil sN))
  ·rintro⟨⟨⟩,⟨⟩⟩ he;refine Ce (l':=[]) (H':=[]) rfl rfl ?_;replace he:HQ =some r:=he;unfold HQ at he;refine AV (AD (Af (wa rfl (Am (Aq ?_)))));obtain rfl:=Ao he;exact Ap (Bs Tryz.results142 (A5 rfl)) sN ⟨rfl,rfl⟩
theorem Uh (F:Nat)(a:(List Aa))(b:(List Aa))(r:Bool)(h:Ng F a b=some r):Fn Tryz.prog GE 110 [AJ 4 (A2 Ab a),AJ 4 (A2 Ab b)] [] (λR H=>R=rB r∧H=[]):=by
 refine enter (n:=8) Tryz.func110 rfl Tryz.ntmps110 rfl (λw Z=>?_);unfold Ng at h;refine Af (wa rfl (Bb (wm rfl (wm rfl (ob h λr1 e3 h2=>BL Tryz.call142 (R8 F a b r1 e3) rfl (wa rfl (Am (Aq ?_))))))));obtain rfl:=Ao h2;exact Ap (Bs Tryz.results110 (A5 rfl)) sN ⟨rfl,rfl⟩
theorem Us (F:Nat)(a:(List Aa))(b:(List Aa))(r:Bool)(h:Lg F a b=some r):Fn Tryz.prog GE 83 [AJ 4 (A2 Ab a),AJ 4 (A2 Ab b)] [] (λR H=>R=rB r∧H=[]):=by
 refine enter (n:=26) Tryz.func83 rfl Tryz.ntmps83 rfl (λw Z=>?_);unfold Lg at h;refine Af (wa rfl (Am (An (Af (wm rfl (wv (AK (ys:=a) (enc:=Ab) Bv rfl) (wm rfl (wv (AK (ys:=b) (enc:=Ab) Bv rfl) (wv (Bo rfl rfl) (Am (cz h rfl (λc1 h2=>?_) (λc1 h3=>?_))))))))))))
 ·refine Af (wa rfl (Am (Aq (Ac ?_))));obtain rfl:=Ao h2;exact Ap (Bs Tryz.results83 (A5 rfl)) sN ⟨rfl,rfl⟩
 ·refine At (AD (An (Af (wa rfl (Am (A6 (ob h3 λhh hi hg=>Bd (S:=Nat×(Int)×(Unit)) (V:=(Unit)×(Unit)) 0 (λσ=>Cf (λσ=>Ew a b σ) σ.1 σ.2.1=some hh) (λσ=>[(0,AJ 4 (A2 Ab a)),(1,AJ 4 (A2 Ab b)),(5,Al σ.2.1)]) (λσ=>[]) (λσ=>σ.1) (F,0,()) hi (Az.c rfl (Az.c rfl (Az.c rfl Az.nil))) sN (λσ=>Iz =some r) (λσ=>[]) (λσ=>[]) ?_ ?_)))))))
  ·rintro⟨h4,ha,⟨⟩⟩ hj;refine B7 (l':=[(0,AJ 4 (A2 Ab a)),(1,AJ 4 (A2 Ab b)),(5,Al ha)]) (H':=[]) rfl rfl ?_;obtain⟨hk,rfl,hl,hb,hf⟩:=Ca hj;replace hb:Ew a b ha=some hl:=hb;unfold Ew at hb;refine An (Af (wm rfl (wm rfl (wv (AK (ys:=a) (enc:=Ab) Bv rfl) (wv (Cl rfl rfl) (Am (cz hb rfl (λhm hn=>?_) (λhm ho=>?_))))))))
   ·refine At (AD (An (A6 (An (ck hn λhp hq=>ck hq λhr hs=>C7 [0,1,5] [⟨[],AJ 4 (A2 Ab a),0⟩,⟨[],Al ha,0⟩,⟨[0,1],J0 (Ab (Ax a ha)),0⟩,⟨[2],Bt (Ab (Ax a ha)),0⟩,⟨[],AJ 4 (A2 Ab b),0⟩,⟨[],Al ha,0⟩,⟨[4,5],J0 (Ab (Ax b ha)),0⟩,⟨[6],Bt (Ab (Ax b ha)),0⟩,⟨[3,7],rB (!(decide (((Ax a ha).fKind)=((Ax b ha).fKind))&&decide (((Ax a ha).fInt)=((Ax b ha).fInt))&&decide (((Ax a ha).fStr)=((Ax b ha).fStr))&&decide (((Ax a ha).fN)=((Ax b ha).fN)))),0⟩] [17,18,19,20,21,22,23,24,25,0,1,5] ?_ ?_)))))
    ·refine oq (A3 rfl) (oq (A3 rfl) (oq (AU (enc:=Ab) (ys:=a) Bv BC rfl rfl hp) (oq (CP Jn BC rfl rfl rfl) (oq (A3 rfl) (oq (A3 rfl) (oq (AU (enc:=Ab) (ys:=b) Bv BC rfl rfl hr) (oq (CP Jn BC rfl rfl rfl) (oq (I4 rfl rfl) ?_))))))));exact Cr
    refine AD (cz hs rfl (λht hu=>?_) (λht hw=>?_))
    ·refine Af (wa rfl (Am (Aq (Au (Ac (Ac (AP ?_)))))));have hx:=Bg hu hf hg;refine Au (Ac ?_);obtain rfl:=Ao hx;exact Ap (Bs Tryz.results83 (A5 rfl)) sN ⟨rfl,rfl⟩
    ·refine At (A4 (AD (Aj (wm rfl (ck hw λhy hz=>wv (Be rfl rfl hy) (wa rfl (Ai ?_)))))));have h0:=AW hz hf;exact As (Ar (hk,ha+1,()) ⟨h0,X0 _⟩ (Az.c rfl (Az.c rfl (Az.c rfl Az.nil))) sN)
   ·refine Bl (Ay ?_);have h1:=BB ho hf hg;exact Ay (AS (Ar ((),()) h1 Az.nil sN))
  ·rintro⟨⟨⟩,⟨⟩⟩ he;refine Ce (l':=[]) (H':=[]) rfl rfl ?_;replace he:Iz =some r:=he;unfold Iz at he;refine AV (AD (Af (wa rfl (Am (Aq ?_)))));obtain rfl:=Ao he;exact Ap (Bs Tryz.results83 (A5 rfl)) sN ⟨rfl,rfl⟩
end Go.Proofs.YtghdglcmblpbeaaGreatDoor.Q
namespace Go.Proofs.YtghdglcmblpbeaaGreatDoor
open Go
set_option linter.unusedVariables false
def I1 (F:Nat)(v:(List Aa)):Option ((List Aa)×Int):=
 Bf (K5 F v) λr1=>AO (!decide (r1=0)) (some (([]:List Aa),r1)) (some (v,0))
def Qc (F:Nat)(s:Aw):Option ((List Aa)×Int):=
 Bf (I1 F ([(Aa.mk 4 0 s 0)]:List Aa)) λr2=>some (r2.1,r2.2)
end Go.Proofs.YtghdglcmblpbeaaGreatDoor
namespace Go.Proofs.YtghdglcmblpbeaaGreatDoor.Q
open Go Go.RowKit
set_option linter.unusedVariables false
set_option linter.unusedSimpArgs false
set_option maxRecDepth 100000
set_option maxHeartbeats 4000000
theorem Qg (F:Nat)(v:(List Aa))(r:(List Aa)×Int)(h:I1 F v=some r):Fn Tryz.prog GE 73 [AJ 4 (A2 Ab v)] [] (λR H=>R=Dx [AJ 4 (A2 Ab r.1),Al r.2]∧H=[]):=by
 refine enter (n:=11) Tryz.func73 rfl Tryz.ntmps73 rfl (λw Z=>?_);unfold I1 at h;refine Af (wa rfl (wa rfl (Bb (wm rfl (ob h λr1 e3 h2=>BL Tryz.call34 (OV F v r1 e3) rfl (wa rfl (Am (An (Af (wm rfl (wv (Bo rfl rfl) (Am (cz h2 rfl (λc4 h5=>?_) (λc4 h6=>?_))))))))))))))
 ·refine Af (wm rfl (wa rfl (wa rfl (Am (Aq (Ac (WK.up (d:=2) (r:=AJ 4 (A2 Ab ([]:List Aa))) rfl (Up.le (Et.nil _)) ?_)))))));obtain rfl:=Ao h5;exact Ap (Eb Tryz.results73 (A5 rfl) (A5 rfl)) sN ⟨rfl,rfl⟩
 ·refine At (AD (Af (wm rfl (wa rfl (wa rfl (Am (Aq ?_)))))));obtain rfl:=Ao h6;exact Ap (Eb Tryz.results73 (A5 rfl) (A5 rfl)) sN ⟨rfl,rfl⟩
theorem Qb (F:Nat)(s:Aw)(r:(List Aa)×Int)(h:Qc F s=some r):Fn Tryz.prog GE 33 [rS s] [] (λR H=>R=Dx [AJ 4 (A2 Ab r.1),Al r.2]∧H=[]):=by
 refine enter (n:=10) Tryz.func33 rfl Tryz.ntmps33 rfl (λw Z=>?_);unfold Qc at h;refine Af (wa rfl (wa rfl (Bb (wm rfl (wv (r:=Bt [Al 4,Al 0,rS s,Al 0]) (DV rfl rfl rfl rfl) (AZ (ys:=([(Aa.mk 4 0 s 0)]:List Aa)) (enc:=Ab) (css:=[[Al 4,Al 0,rS s,Al 0]]) (xs:=[.tmp 5]) Bv BC GV rfl rfl rfl ⟨EA.agg ⟨Up.refl _,Up.refl _,Up.refl _,Up.refl _,trivial⟩,trivial⟩ rfl Bi rfl rfl rfl (λb1=>?_)))))));refine WL.freeze (i:=0) rfl (WL.up (d:=6) (r:=AJ 4 (A2 Ab ([(Aa.mk 4 0 s 0)]:List Aa))) rfl (Up.fact (i:=0) rfl) (ob h λr2 e4 h3=>BL Tryz.call73 (Qg F ([(Aa.mk 4 0 s 0)]:List Aa) r2 e4) rfl (wv (AC rfl rfl) (wv (AC rfl rfl) (wa rfl (wa rfl (Am (Aq ?_))))))));obtain rfl:=Ao h3;exact Ap (Eb Tryz.results33 (A5 rfl) (A5 rfl)) (sS sN) ⟨rfl,rfl⟩
end Go.Proofs.YtghdglcmblpbeaaGreatDoor.Q
namespace Go.Proofs.YtghdglcmblpbeaaGreatDoor
open Go
set_option linter.unusedVariables false
def MH (ys:(List Aa)):Option ((List Aa)):=
 AY (Ge 40 (([]:List Aa).length+ys.length))<|some (([]:List Aa)++ys)
def L4 (key:Aw)(x:(List Aa))(out:(List (List Aa))):Option (Bool×(List (List Aa))):=
 Bf (MH x) λr1=>AY (Ge 24 (out.length+([r1]:List (List Aa)).length))<|some (true,out++([r1]:List (List Aa)))
def HN (F:Nat)(v:(List Aa))(ha:Int)(hb:Int)(hg:(List (List Aa))):Option (Stp (Int×Int×(List (List Aa))) (Out ((List (List Aa))) ((List (List Aa))))):=
 AO (decide (hb<((Ax v 0).fN))) (AO (decide (((Ax v 0).fKind)=6)) (AY (C3 ha (v.length:Int))<|AY (BN .i64 (ha+1))<|AY (G0 (ha+1) (v.length:Int))<|Bf (Gl F (List.drop (Int.toNat (ha+1)) v)) λhe=>AY (BN .i64 ((ha+1)+he.1))<|AY (G0 (ha+1) ((ha+1)+he.1))<|AY (G0 ((ha+1)+he.1) (v.length:Int))<|Bf (L4 ((Ax v ha).fStr) (List.take (Int.toNat ((ha+1)+he.1)-Int.toNat (ha+1)) (List.drop (Int.toNat (ha+1)) v)) hg) λhh=>AO (!hh.1) (some (.out (.ret hh.2))) (AY (BN .i64 (hb+1))<|some (.next ((ha+1)+he.1,hb+1,hh.2)))) (AY (G0 ha (v.length:Int))<|Bf (Gl F (List.drop (Int.toNat ha) v)) λhf=>AY (BN .i64 (ha+hf.1))<|AY (G0 ha (ha+hf.1))<|AY (G0 (ha+hf.1) (v.length:Int))<|Bf (L4 ([]:Aw) (List.take (Int.toNat (ha+hf.1)-Int.toNat ha) (List.drop (Int.toNat ha) v)) hg) λhi=>AO (!hi.1) (some (.out (.ret hi.2))) (AY (BN .i64 (hb+1))<|some (.next (ha+hf.1,hb+1,hi.2))))) (some (.out (.go hg)))
def HM (ha:(List (List Aa))):Option ((List (List Aa))):=
 some ha
def NJ (F:Nat)(v:(List Aa))(out:(List (List Aa))):Option ((List (List Aa))):=
 AY (C3 0 (v.length:Int))<|Bf (Cf (λσ=>HN F v σ.1 σ.2.1 σ.2.2) F (1,0,out)) (BS λν=>HM ν)
def Kw (F:Nat)(v:(List Aa)):Option ((List (List Aa))×Int):=
 Bf (Dt F v) λr1=>AO (!decide (r1=0)) (some (([]:List (List Aa)),r1)) (AY (C3 0 (v.length:Int))<|AO (((!decide (((Ax v 0).fKind)=5))&&(!decide (((Ax v 0).fKind)=6)))) (some (([]:List (List Aa)),7)) (Bf (NJ F v ([]:List (List Aa))) λha=>some (ha,0)))
end Go.Proofs.YtghdglcmblpbeaaGreatDoor
namespace Go.Proofs.YtghdglcmblpbeaaGreatDoor.Q
open Go Go.RowKit
set_option linter.unusedVariables false
set_option linter.unusedSimpArgs false
def Qx (ops:List Oper)(N:Nat):Bool:=
 let cl:=MI ops []
 (List.range ops.length).all (λi=>(E9 (ops.getD i default)).all (·<i))&&
 (List.range ops.length).all (λi=>i<N||(List.range i).all (λj=>(cl.getD i 0).testBit j))
section
variable {P : Program} {Q : Exit → Act → World → Prop}
theorem P6 {listed:Array Bool}{len m:Nat}(hs:listed.size=len)(hm:m≤len)(h:∀j,j<len→(listed.getD j true=true↔j<m)):listed.toList.count false=len-m:=by
 have:listed.toList=List.replicate m true++List.replicate (len-m) false:=by
  apply List.ext_getElem
  ·simp[hs];omega
  ·intro j h1 h2;have hj:j<len:=by simpa[hs] using h1
   have:=h j hj;rw[Array.getD_eq_getD_getElem?,Array.getElem?_eq_getElem (by omega)] at this;simp only[XO] at this;rw[Array.getElem_toList,List.getElem_append]
   split
   ·rename_i h3
    simp at h3;simp[this.2 h3]
   ·rename_i h3
    simp at h3;simp only[List.getElem_replicate]
    cases hb:listed[j] with
    | false=>rfl
    | true=>have:=this.1 hb;omega
 rw[this];simp[List.count_append,List.count_replicate]
theorem Rb {listed:Array Bool}{j:Nat}(h:j<listed.size)(d d':Bool):listed.getD j d=listed.getD j d':=by
 simp[Array.getD_eq_getD_getElem?,Array.getElem?_eq_getElem h]
theorem ML {ops:List Oper}{listed:Array Bool}{i:Nat}{o:Oper}(ho:ops[i]? =some o)(hb:∀e∈E9 o,listed.getD e true=true)
  (hcl:∀j o,ops[j]? =some o→listed.getD j true=true→∀e∈E9 o,listed.getD e true=true) (j:Nat) (h:((MI ops []).getD i 0).testBit j=true):j=i∨listed.getD j true=true:=
 H9 ops (λk=>k=i∨listed.getD k true=true) ops [] (λt o' ht e he hF=>by
  rcases hF with hF | hF
  ·simp at hF;subst hF;rw[ho] at ht;simp at ht;subst ht;exact .inr (hb e he)
  ·exact .inr (hcl t o' ht (by simpa using hF) e he)) (λj i hb=>by simp at hb) i j h (.inl rfl)
theorem Js {ops:List Oper}{listed:Array Bool}{i:Nat}(hsz:listed.size=ops.length)(hlt:∀i,i<ops.length→∀e∈E9 (ops.getD i default),e<i)(h:i∈Region.ready .any ops.toArray listed) :
  listed.getD i true=false∧i<ops.length∧∃o,ops[i]? =some o∧∀e∈E9 o,listed.getD e true=true:=by
 obtain⟨h1,o,ho,h2⟩:=mem_ready.1 h;have ho':ops[i]? =some o:=by simpa using ho
 have hil:=(List.getElem?_eq_some_iff.1 ho').1;refine⟨h1,hil,o,ho',λe he=>?_⟩;have hei:=hlt i hil e (by rw[X6,ho'];exact he);simp only[E9,List.mem_map,List.mem_filter] at he;obtain⟨x,⟨hx1,hx2⟩,rfl⟩:=he;have h3:=h2 x (by simpa using hx1) hx2;rw[Rb (by omega) true false];exact h3
theorem Jk {ops:List Oper}{listed:Array Bool}(hsz:listed.size=ops.length)(hlt:∀i,i<ops.length→∀e∈E9 (ops.getD i default),e<i)(h:Region.ready .any ops.toArray listed=[]) :
  ∀j,j<ops.length→listed.getD j true=true:=by
 intro j
 induction j using Nat.strongRecOn with
 | ind j ih=>
  intro hj
  cases hb:listed.getD j true with
  | true=>rfl
  | false=>
   have:j∈Region.ready .any ops.toArray listed:=mem_ready.2 ⟨hb,ops[j],by simp[hj],λe he hbn=>by
    have hel:e.on<j:=hlt j hj e.on (by
     rw[X6,X5 hj];simp only[E9,XO,List.mem_map,List.mem_filter];exact⟨e,⟨by simpa using he,hbn⟩,rfl⟩)
    rw[Rb (by omega) false true];exact ih e.on hel (by omega)⟩
   rw[h] at this;cases this
theorem L7 {listed:Array Bool}{i j:Nat}(hi:i<listed.size):(listed.setIfInBounds i true).getD j true=true↔(j=i∨listed.getD j true=true):=by
 by_cases hj:i=j
 ·subst hj;simp[hi]
 ·rw[getD_set_ne true hj];exact⟨.inr,λh=>h.elim (λh=>absurd h.symm hj) id⟩
theorem R9 {listed:Array Bool}{i fuel:Nat}(hi:i<listed.size)(hun:listed.getD i true=false)(hc:listed.toList.count false=fuel+1):(listed.setIfInBounds i true).toList.count false=fuel:=by
 have hfi:listed.toList[i]? =some false:=by
  rw[Array.getD_eq_getD_getElem?,Array.getElem?_eq_getElem hi] at hun;simp at hun;simp[hi,hun]
 rw[Array.toList_setIfInBounds];have h1:=List.count_set (a:=true) (b:=false) (l:=listed.toList) (i:=i) (by simpa using hi);have h2:listed.toList[i]'(by simpa using hi)=false:=by
  have:=List.getElem?_eq_some_iff.1 hfi;exact this.2
 rw[h1,h2,hc];rfl
theorem KZ {ops:List Oper}{N:Nat}(hlt:∀i,i<ops.length→∀e∈E9 (ops.getD i default),e<i)
  (hch:∀i,N≤i→i<ops.length→∀j,j<i→((MI ops []).getD i 0).testBit j=true):∀(k m:Nat) (listed:Array Bool) (a:Act) (w:World),m+k=ops.length→N≤m→listed.size=ops.length→
   (∀j,j<ops.length→(listed.getD j true=true↔j<m))→(∀j o,ops[j]? =some o→listed.getD j true=true→∀e∈E9 o,listed.getD e true=true)→wpList P ops.toArray Q (ops.drop m) a w→wpAny P .any ops.toArray Q k listed a w
 | 0,m,listed,a,w,hk,hN,hsz,hl,hcl,h=>by
  refine⟨?_,?_⟩
  ·cases hr:Region.ready .any ops.toArray listed with
   | nil=>rfl
   | cons i r=>
    obtain⟨h1,h2,_⟩:=Js hsz hlt (i:=i) (by rw[hr];simp);rw[(hl i h2).2 (by omega)] at h1;cases h1
  ·rw[List.drop_of_length_le (by omega)] at h;exact h
 | k+1,m,listed,a,w,hk,hN,hsz,hl,hcl,h=>by
  refine⟨λhr=>?_,λi hi=>?_⟩
  ·have:=(hl m (by omega)).1 (Jk hsz hlt hr m (by omega));omega
  ·obtain⟨h1,h2,o,ho,hb⟩:=Js hsz hlt hi;have him:i=m:=by
    have hmi : ¬ i<m:=λh'=>by rw[(hl i h2).2 h'] at h1;cases h1
    by_cases e:i=m
    ·exact e
    ·rcases ML ho hb hcl m (hch i (by omega) h2 m (by omega)) with h3 | h3
     ·exact h3.symm
     ·have:=(hl m (by omega)).1 h3;omega
   subst him;have hd:ops.drop i=o::ops.drop (i+1):=by
    rw[List.drop_eq_getElem_cons h2]
    congr 1
    exact(List.getElem?_eq_some_iff.1 ho).2
   rw[hd] at h;have ih:∀a' w',wpList P ops.toArray Q (ops.drop (i+1)) a' w'→wpAny P .any ops.toArray Q k (listed.setIfInBounds i true) a' w':=λa' w' h'=>by
    refine KZ hlt hch k (i+1) _ a' w' (by omega) (by omega) (by simpa using hsz) (λj hj=>?_) (λj o' hj hlj e he=>?_) h'
    ·rw[L7 (by omega),hl j hj];omega
    ·rw[L7 (by omega)] at hlj ⊢;rcases hlj with rfl | hlj
     ·rw[ho] at hj;simp at hj;subst hj;exact .inr (hb e he)
     ·exact .inr (hcl j o' hj hlj e he)
   unfold wpOp;have hoA:ops.toArray[i]? =some o:=by simpa using ho
   simp only[hoA];simp only[wpList] at h
   split
   ·rename_i hw'
    rw[if_pos hw'] at h;exact h.imp (λh=>Oper.wp_mono ih h) (λh=>h)
   ·rename_i hw'
    rw[Yl hw'] at h;exact ih _ _ h
theorem Vu {id:Nat}{ops:List Oper}{N:Nat}(hm:P.follows .mixedOrders=true)(hB:Qx ops N=true)(hN:N≤ops.length)(I:(Nat→Bool)→Act→World→Prop)
  (hext:∀S S' a w,(∀j,j<N→S j=S' j)→I S a w→I S' a w) {a:Act} {w:World} (h0:I (λ_=>false) a { w with drawn:=w.drawn+1 })
  (step:∀S i o a w,i<N→S i=false→ops[i]? =some o→(∀e∈E9 o,e<i∧S e=true)→I S a w→∀K:Act→World→Prop,(∀a' w',I (λj=>j ==i||S j) a' w'→K a' w')→
   (Region.wanted o (yielded ops.toArray a.tmps)=true→o.wp P a w K Q)∧(Region.wanted o (yielded ops.toArray a.tmps)=false→K (a.put o.dst undef) w))
  (fin:∀a w,I (λ_=>true) a w→wpList P ops.toArray Q (ops.drop N) a w):(Code.region id ops.toArray true).wp P Q a w:=by
 simp only[Qx,X1,XU,List.mem_range,Xw,XY] at hB;obtain⟨hlt,hch0⟩:=hB;have hch:∀i,N≤i→i<ops.length→∀j,j<i→((MI ops []).getD i 0).testBit j=true:=λi h1 h2 j hj=>by
  rcases hch0 i h2 with h3 | h3
  ·omega
  ·exact h3 j hj
 refine wp_region_any hm ?_;have main:∀(fuel:Nat) (listed:Array Bool) (a:Act) (w:World),listed.size=ops.length→listed.toList.count false=fuel→I (λj=>listed.getD j true) a w→
   (∀j o,ops[j]? =some o→listed.getD j true=true→∀e∈E9 o,listed.getD e true=true)→(∀j,N≤j→j<ops.length→listed.getD j true=false)→wpAny P .any ops.toArray Q fuel listed a w:=by
  intro fuel;have allin:∀(fuel:Nat) (listed:Array Bool) (a:Act) (w:World),listed.size=ops.length→listed.toList.count false=fuel→I (λj=>listed.getD j true) a w→
   (∀j o,ops[j]? =some o→listed.getD j true=true→∀e∈E9 o,listed.getD e true=true)→(∀j,N≤j→j<ops.length→listed.getD j true=false)→(∀j,j<N→listed.getD j true=true)→wpAny P .any ops.toArray Q fuel listed a w:=by
   intro fuel listed a w hsz hc hI hcl hlast hall;have hl:∀j,j<ops.length→(listed.getD j true=true↔j<N):=λj hj=>by
    constructor
    ·intro h
     by_cases hjN:j<N
     ·exact hjN
     ·rw[hlast j (by omega) hj] at h;cases h
    ·exact hall j
   have:=P6 hsz hN hl;refine KZ hlt hch fuel N listed a w (by omega) (XG _) hsz hl hcl (fin a w (hext _ _ a w (λj hj=>hall j hj) hI))
  induction fuel with
  | zero=>
   intro listed a w hsz hc hI hcl hlast;refine allin 0 listed a w hsz hc hI hcl hlast (λj hj=>?_)
   cases hb:listed.getD j true with
   | true=>rfl
   | false=>
    have:false∈listed.toList:=by
     rw[Array.getD_eq_getD_getElem?,Array.getElem?_eq_getElem (by omega)] at hb;simp at hb;rw[← hb];simp
    have:=List.count_pos_iff.2 this;omega
  | succ fuel ih=>
   intro listed a w hsz hc hI hcl hlast
   by_cases hall:∀j,j<N→listed.getD j true=true
   ·exact allin (fuel+1) listed a w hsz hc hI hcl hlast hall
   ·refine⟨λhr=>absurd (λj hj=>Jk hsz hlt hr j (by omega)) hall,λi hi=>?_⟩;obtain⟨h1,h2,o,ho,hb⟩:=Js hsz hlt hi;have hiN:i<N:=by
     by_cases h:i<N
     ·exact h
     ·refine absurd (λj hj=>?_) hall;rcases ML ho hb hcl j (hch i (by omega) h2 j (by omega)) with h3 | h3
      ·omega
      ·exact h3
    have K':∀a' w',I (λj=>j ==i||listed.getD j true) a' w'→wpAny P .any ops.toArray Q fuel (listed.setIfInBounds i true) a' w':=λa' w' hI'=>by
     refine ih _ a' w' (by simpa using hsz) (R9 (by omega) h1 hc) (hext _ _ a' w' (λj hj=>?_) hI') (λj o' hj hlj e he=>?_) (λj h3 h4=>?_)
     ·have:=L7 (listed:=listed) (i:=i) (j:=j) (by omega)
      cases hq:(listed.setIfInBounds i true).getD j true with
      | true=>
       rw[hq] at this;rcases this.1 rfl with h | h
       ·simp[h]
       ·simp[h]
      | false=>
       rw[hq] at this;have h5 : ¬ (j=i∨listed.getD j true=true):=λh=>by have:=this.2 h;cases this
       cases hz:listed.getD j true with
       | true=>exact absurd (.inr hz) h5
       | false=>
        have:j≠i:=λh=>h5 (.inl h);simp[this]
     ·rw[L7 (by omega)] at hlj ⊢;rcases hlj with rfl | hlj
      ·rw[ho] at hj;simp at hj;subst hj;exact .inr (hb e he)
      ·exact .inr (hcl j o' hj hlj e he)
     ·rw[getD_set_ne true (by omega)];exact hlast j h3 h4
    obtain⟨k1,k2⟩:=step _ i o a w hiN h1 ho (λe he=>⟨hlt i h2 e (by rw[X6,ho];exact he),hb e he⟩) hI _ K';unfold wpOp;have hoA:ops.toArray[i]? =some o:=by simpa using ho
    simp only[hoA]
    split
    ·rename_i hw';exact .inl (k1 hw')
    ·rename_i hw';exact k2 (by simpa using hw')
 have e0:∀j,j<ops.length→(Array.replicate ops.length false).getD j true=false:=λj hj=>by simp[hj]
 have hsz0:ops.toArray.size=ops.length:=by simp
 rw[hsz0];refine main ops.length (Array.replicate ops.length false) a _ (by simp) (by simp) (hext _ _ _ _ (λj hj=>(e0 j (by omega)).symm) h0) (λj o hj hl=>?_) (λj _ h2=>e0 j h2);rw[e0 j (List.getElem?_eq_some_iff.1 hj).1] at hl;cases hl
end
structure Sa where
 deps:List Nat
 r:Rp
 al:Option (List Rp×TypeId):=none
 late:Option (Nat×List Rp):=none
 sto:Option Nat:=none
def EZ (sp:List Sa)(i:Nat):Sa:=sp.getD i { deps:=[],r:=rv undef }
def Um (sp:List Sa):List Sp:=sp.map λs=>⟨s.deps,s.r,0⟩
def Kx (β:Nat→Nat)(s:Sa)(i:Nat):Rp:=match s.al with
 | none=>s.r
 | some _=>rv (.pointer (some ⟨β i,0,none⟩))
def KL (S:Nat→Bool)(late:Option (Nat×List Rp))(cs:List Rp):List Rp:=match late with
 | none=>cs
 | some q=>if S q.1 then q.2 else cs
def EX (S:Nat→Bool)(β:Nat→Nat):List Sa→Nat→List Ent
 | [],_=>[]
 | s::r,t=>match s.al with
  | some p=>if S t then .blk (β t) (KL S s.late p.1) p.2::EX S β r (t+1) else EX S β r (t+1)
  | none=>EX S β r (t+1)
def Sk (β:Nat→Nat):List Sa→Nat→List Ent
 | [],_=>[]
 | s::r,t=>match s.al with
  | some p=>.blk (β t) (match s.late with | none=>p.1 | some q=>q.2) p.2::Sk β r (t+1)
  | none=>Sk β r (t+1)
def MP (β:Nat→Nat):List Oper→List Sa→Nat→Fr→Fr
 | o::os,s::sp,i,l=>match o.dst with
  | some d=>(d,Kx β s i)::MP β os sp (i+1) l
  | none=>MP β os sp (i+1) l
 | _,_,_,l=>l
theorem Jy {S S':Nat→Bool}{late:Option (Nat×List Rp)}{cs:List Rp}(h:∀q,late=some q→S q.1=S' q.1):KL S late cs=KL S' late cs:=by
 unfold KL
 cases late with
 | none=>rfl
 | some q=>simp only[];rw[h q rfl]
theorem Es (S:Nat→Bool)(β:Nat→Nat)(s:Sa)(r:List Sa)(t:Nat):EX S β (s::r) t=match s.al with
  | some p=>if S t then .blk (β t) (KL S s.late p.1) p.2::EX S β r (t+1) else EX S β r (t+1)
  | none=>EX S β r (t+1):=rfl
theorem Gw {S S':Nat→Bool}{β β':Nat→Nat}:∀(r:List Sa) (t0:Nat),(∀(t:Nat) (s:Sa),r[t]? =some s→s.al≠none→S (t0+t)=S' (t0+t)∧(S (t0+t)=true→β (t0+t)=β' (t0+t)∧∀q,s.late=some q→S q.1=S' q.1))→EX S β r t0=EX S' β' r t0
 | [],_,_=>rfl
 | s::r,t0,h=>by
  have ih:=Gw r (t0+1) (λt s hs hn=>by
   have:=h (t+1) s (by simpa using hs) hn;rw[show t0+1+t=t0+(t+1) from by omega];exact this)
  unfold EX;rw[ih]
  cases ha:s.al with
  | none=>rfl
  | some p=>
   obtain⟨h1,h2⟩:=h 0 s rfl (by rw[ha];exact nofun);simp only[Nat.add_zero] at h1 h2;simp only[];rw[← h1]
   split
   ·rename_i hS;rw[(h2 hS).1,Jy (h2 hS).2]
   ·rfl
theorem P5 (β:Nat→Nat):∀(r:List Sa) (t0:Nat),EX (λ_=>true) β r t0=Sk β r t0
 | [],_=>rfl
 | s::r,t0=>by
  unfold EX Sk;rw[P5 β r (t0+1)]
  cases s.al with
  | none=>rfl
  | some p=>cases hl:s.late<;>simp[KL,hl]
theorem N2 (β:Nat→Nat):∀(r:List Sa) (t0:Nat),EX (λ_=>false) β r t0=[]
 | [],_=>rfl
 | s::r,t0=>by
  unfold EX;rw[N2 β r (t0+1)]
  cases s.al<;>simp
theorem P4 {S:Nat→Bool}{β:Nat→Nat}{i b:Nat}{p:List Rp×TypeId}:∀(r:List Sa) (t0 k:Nat) (s:Sa),i=t0+k→r[k]? =some s→s.al=some p→S i=false→(∀(t:Nat) (s:Sa) (q:Nat×List Rp),r[t]? =some s→s.al≠none→s.late=some q→q.1≠i)→(∀q,s.late=some q→S q.1=false∧q.1≠i)→
  (EX (λj=>j ==i||S j) (λj=>if j=i then b else β j) r t0).Perm (.blk b p.1 p.2::EX S β r t0)
 | [],_,_,_,_,h,_,_,_,_=>by simp at h
 | s'::r,t0,0,s,hi,h,ha,hS,hne,hl=>by
  simp at h hi;subst h;subst hi;have e:=Gw (S:=λj=>j ==i||S j) (S':=S) (β:=λj=>if j=i then b else β j) (β':=β) r (i+1) (λt s hs hn=>by
   have:i+1+t≠i:=by omega
   refine⟨by simp[this],λ_=>⟨by simp[this],λq hq=>?_⟩⟩;have:=hne (t+1) s q (by simpa using hs) hn hq;simp[this])
  have ec:KL (λj=>j ==i||S j) s'.late p.1=p.1:=by
   unfold KL
   cases hq:s'.late with
   | none=>rfl
   | some q=>
    obtain⟨h1,h2⟩:=hl q hq;simp[h1,h2]
  unfold EX;rw[e,ha];simp only[hS,BEq.rfl,XP,if_true,ec];simp
 | s'::r,t0,k+1,s,hi,h,ha,hS,hne,hl=>by
  have ih:=P4 (S:=S) (β:=β) (i:=i) (b:=b) (p:=p) r (t0+1) k s (by omega) (by simpa using h) ha hS (λt s q hs=>hne (t+1) s q (by simpa using hs)) hl;have hne0:t0≠i:=by omega
  have hne':(t0 ==i)=false:=by simpa using hne0
  unfold EX
  cases ha':s'.al with
  | none=>exact ih
  | some q=>
   simp only[hne',XF,Yl hne0];rw[Jy (S:=λj=>j ==i||S j) (S':=S) (λq hq=>by
    have:=hne 0 s' q rfl (by rw[ha'];exact nofun) hq;simp[this])]
   cases hS':S t0 with
   | true=>simpa using(Xx _ ih).trans (List.Perm.swap _ _ _)
   | false=>simpa using ih
theorem P3 {S:Nat→Bool}{β:Nat→Nat}{i j:Nat}{p:List Rp×TypeId}{ncs:List Rp}:∀(r:List Sa) (t0 k:Nat) (s:Sa),j=t0+k→r[k]? =some s→s.al=some p→s.late=some (i,ncs)→S j=true→S i=false→(∀(t:Nat) (s:Sa) (q:Nat×List Rp),r[t]? =some s→s.al≠none→s.late=some q→t0+t≠j→q.1≠i)→(∀(t:Nat) (s:Sa),r[t]? =some s→s.al≠none→t0+t≠i)→
  ∃H',(EX S β r t0).Perm (.blk (β j) p.1 p.2::H')∧(EX (λj=>j ==i||S j) β r t0).Perm (.blk (β j) ncs p.2::H')
 | [],_,_,_,_,h,_,_,_,_,_,_=>by simp at h
 | s'::r,t0,0,s,hj,h,ha,hl,hSj,hSi,hne,hni=>by
  simp at h hj;subst h;subst hj;have e:=Gw (S:=λx=>x ==i||S x) (S':=S) (β:=β) (β':=β) r (j+1) (λt s hs hn=>by
   have h1:=hni (t+1) s (by simpa using hs) hn;have h1':j+1+t≠i:=by omega
   refine⟨by simp[h1'],λ_=>⟨rfl,λq hq=>?_⟩⟩;have:=hne (t+1) s q (by simpa using hs) hn hq (by omega);simp[this])
  refine⟨EX S β r (j+1),?_,?_⟩
  ·rw[Es];rw[ha];simp[hSj,KL,hl,hSi]
  ·rw[Es];rw[ha,e];simp[hSj,KL,hl]
 | s'::r,t0,k+1,s,hj,h,ha,hl,hSj,hSi,hne,hni=>by
  obtain⟨H',h1,h2⟩:=P3 (S:=S) (β:=β) (i:=i) (j:=j) (p:=p) (ncs:=ncs) r (t0+1) k s (by omega) (by simpa using h) ha hl hSj hSi (λt s q hs hn hq hx=>hne (t+1) s q (by simpa using hs) hn hq (by omega)) (λt s hs hn=>by
   have:=hni (t+1) s (by simpa using hs) hn;omega)
  cases ha':s'.al with
  | none=>exact⟨H',by rw[Es,ha'];exact h1,by rw[Es,ha'];exact h2⟩
  | some q=>
   have hi0:=hni 0 s' rfl (by rw[ha'];exact nofun);have hi0':(t0 ==i)=false:=by simpa using hi0
   have ec:KL (λx=>x ==i||S x) s'.late q.1=KL S s'.late q.1:=Jy (λq hq=>by
    have:=hne 0 s' q rfl (by rw[ha'];exact nofun) hq (by omega);simp[this])
   cases hS':S t0 with
   | true=>
    refine⟨.blk (β t0) (KL S s'.late q.1) q.2::H',?_,?_⟩
    ·rw[Es];rw[ha'];simpa[hS'] using(Xx _ h1).trans (List.Perm.swap _ _ _)
    ·rw[Es];rw[ha'];simp only[hi0',XF,hS',if_true,ec];exact(Xx _ h2).trans (List.Perm.swap _ _ _)
   | false=>
    refine⟨H',?_,?_⟩
    ·rw[Es];rw[ha'];simpa[hS'] using h1
    ·rw[Es];rw[ha'];simp only[hi0',XF,hS'];simpa using h2
def Xc (n:Nat)(ops:List Oper)(N:Nat)(keys:List Nat)(deps:List (List Nat))(als:List Bool)(lates stos:List (Option Nat)):Bool:=
 Qx ops N&&decide (N≤ops.length)&&
 (List.range N).all (λi=>match DM ops i with
  | some d=>decide (d<n)&&!keys.contains d&&(List.range N).all (λj=>j ==i||DM ops j !=some d)
  | none=>true)&&
 (List.range N).all (λi=>(deps.getD i []).all (λj=>decide (j<N)&&(E9 (ops.getD i default)).contains j&&!als.getD j true))&&
 (List.range N).all (λi=>match stos.getD i none with
  | some j=>decide (j<N)&&(E9 (ops.getD i default)).contains j&&als.getD j false&&!als.getD i true
  | none=>true)&&
 (List.range N).all (λj=>match lates.getD j none with
  | some k=>decide (k<N)&&als.getD j false&&stos.getD k none ==some j
  | none=>true)
def Xm (P:Program)(n:Nat)(c:Cx)(opsA:Array Oper)(Q:Exit→Act→World→Prop)(o:Oper)(p:List Rp×TypeId):Prop:=
 ∀H a w Z (K:Act→World→Prop),St c H Z w→(∀b w',St c (.blk b p.1 p.2::H) Z w'→K (a.put o.dst (.pointer (some ⟨b,0,none⟩))) w')→
  Region.wanted o (yielded opsA a.tmps)=true∧o.wp P a w K Q
def Wp (P:Program)(n:Nat)(c:Cx)(opsA:Array Oper)(Q:Exit→Act→World→Prop)(ops:List Oper)(sp:List Sa)(l0:Fr)(H:List Ent)(i:Nat)(o:Oper):Prop:=
 match (EZ sp i).sto with
 | some j=>o.dst=none∧∃d p ncs,DM ops j=some d∧(EZ sp j).al=some p∧(EZ sp j).late=some (i,ncs)∧
   ∀b H,E3 P n c opsA Q ((d,rv (.pointer (some ⟨b,0,none⟩)))::Cs ops (Um sp) (EZ sp i).deps l0) (.blk b p.1 p.2::H) o (rv undef) (.blk b ncs p.2::H)
 | none=>match (EZ sp i).al with
  | none=>∀E,E3 P n c opsA Q (Cs ops (Um sp) (EZ sp i).deps l0) (H++E) o (EZ sp i).r (H++E)
  | some p=>Xm P n c opsA Q o p
def KQ (P:Program)(n:Nat)(c:Cx)(opsA:Array Oper)(Q:Exit→Act→World→Prop)(ops:List Oper)(sp:List Sa)(l0:Fr)(H:List Ent):Nat→List Oper→Prop
 | i,o::rest=>Wp P n c opsA Q ops sp l0 H i o∧KQ P n c opsA Q ops sp l0 H (i+1) rest
 | _,[]=>True
section
variable {P : Program} {n : Nat} {c : Cx} {opsA : Array Oper} {Q : Exit → Act → World → Prop} {l l0 : Fr} {H : List Ent} {sp : List Sa}
theorem KQ.at {ops:List Oper}:∀{k:Nat} {rest:List Oper},KQ P n c opsA Q ops sp l0 H k rest→∀(t:Nat) o,rest[t]? =some o→Wp P n c opsA Q ops sp l0 H (k+t) o
 | k,o::rest,⟨h1,h2⟩,t,o',ht=>by
  cases t with
  | zero=>simp at ht;subst ht;exact h1
  | succ t=>
   have:=KQ.at h2 t o' (by simpa using ht);rw[show k+(t+1)=k+1+t from by omega];exact this
 | _,[],_,t,o,h=>by simp at h
theorem Rl {β:Nat→Nat}{a:Act}{Z:Fz}(h0:Dh n l0 a Z):∀(os:List Oper) (ss:List Sa) (k:Nat),(∀(t:Nat) o s d,os[t]? =some o→ss[t]? =some s→o.dst=some d→∃v,a.tmps[d]? =some v∧(Kx β s (k+t)).p Z v)→Dh n (MP β os ss k l0) a Z
 | [],_,_,_=>by unfold MP;exact h0
 | _::_,[],_,_=>by unfold MP;exact h0
 | o::os,s::ss,k,h=>by
  have ih:=Rl h0 os ss (k+1) (λt o' s' d h1 h2 h3=>by
   have:=h (t+1) o' s' d (by simpa using h1) (by simpa using h2) h3;rw[show k+1+t=k+(t+1) from by omega];exact this)
  unfold MP
  cases hd:o.dst with
  | none=>exact ih
  | some d=>
   refine⟨ih.size,ih.defers,λi r hi=>?_⟩;rw[C8] at hi
   split at hi
   ·rename_i e;subst e;simp at hi;subst hi;exact h 0 o s d rfl rfl hd
   ·exact ih.tm i r hi
theorem Vv {id:Nat}{ops:List Oper}(N:Nat)(sp:List Sa)(hm:P.follows .mixedOrders=true)(hB:Xc n ops N (Gu l0) (sp.map (·.deps)) (sp.map (·.al.isSome)) (sp.map (·.late.map (·.1))) (sp.map (·.sto))=true)(hl0:Vi l0 l)(hsp:sp.length=N)
  (hob:KQ P n c ops.toArray Q ops sp l0 H 0 (ops.take N)) (h:∀β,WL P n c ops.toArray Q (ops.drop N) (MP β (ops.take N) sp 0 l0) (H++Sk β sp 0)):WC P n c (.region id ops.toArray true) Q l H:=by
 intro a w Z ha hw;simp only[Xc,X1,XU,List.mem_range,Xw] at hB;obtain⟨⟨⟨⟨⟨b1,bN⟩,b2⟩,b3⟩,b4⟩,b5⟩:=hB;have hget:∀i,i<N→(ops.take N)[i]? =ops[i]?:=λi hi=>by rw[XX,if_pos hi]
 have hsa:∀i,i<N→sp[i]? =some (EZ sp i):=λi hi=>by
  simp[EZ,X6,X5 (show i<sp.length by omega)]
 have hspq:∀i,i<N→(D3 (Um sp) i)=⟨(EZ sp i).deps,(EZ sp i).r,0⟩:=λi hi=>by
  simp[D3,Um,X6,Yd,hsa i hi]
 have hals:∀j b,j<N→(sp.map (·.al.isSome)).getD j b=(EZ sp j).al.isSome:=λj b hj=>by simp[X6,Yd,hsa j hj]
 have hstos:∀j,j<N→(sp.map (·.sto)).getD j none=(EZ sp j).sto:=λj hj=>by simp[X6,Yd,hsa j hj]
 have hlates:∀j,j<N→(sp.map (·.late.map (·.1))).getD j none=(EZ sp j).late.map (·.1):=λj hj=>by simp[X6,Yd,hsa j hj]
 have S1:∀i o j,i<N→ops[i]? =some o→(EZ sp i).sto=some j→j<N∧j∈E9 o∧(EZ sp j).al≠none∧(EZ sp i).al=none:=λi o j hi ho hs=>by
  have h1:=b4 i hi;rw[hstos i hi,hs] at h1;simp only[X1,XD,Xw] at h1;obtain⟨⟨⟨h2,h3⟩,h4⟩,h5⟩:=h1;rw[hals j _ h2] at h4;rw[hals i _ hi] at h5;rw[X6,ho,XO,List.contains_iff_mem] at h3;exact⟨h2,h3,λe=>(by rw[e] at h4;cases h4),(by simpa using h5)⟩
 have L1:∀t q,t<N→(EZ sp t).late=some q→q.1<N∧(EZ sp q.1).sto=some t:=λt q ht hq=>by
  have h1:=b5 t ht;rw[hlates t ht,hq] at h1;simp only[Option.map_some,X1,Xw,beq_iff_eq] at h1;obtain⟨⟨h2,h3⟩,h4⟩:=h1;rw[hstos _ h2] at h4;exact⟨h2,h4⟩
 have hops:∀j,j<N→∃o,ops[j]? =some o:=λj hj=>⟨ops[j]'(by omega),X5 (by omega)⟩
 have lt_of:∀(t:Nat) (s:Sa),sp[t]? =some s→t<N∧s=EZ sp t:=λt s hs=>by
  have h1:t<N:=by have:=(List.getElem?_eq_some_iff.1 hs).1;omega
  refine⟨h1,?_⟩;rw[hsa t h1] at hs;simpa using hs.symm
 have hdst:∀i o d,i<N→ops[i]? =some o→o.dst=some d→(d<n∧d ∉ Gu l0)∧∀j,j<N→j≠i→DM ops j≠some d:=λi o d hi ho hd=>by
  have h3:=b2 i hi;have:DM ops i=some d:=by simp[DM,ho,hd]
  rw[this] at h3;simp only[X1,XD,XU,List.mem_range,Xw] at h3;refine⟨⟨h3.1.1,λhmem=>by rw[← List.contains_iff_mem] at hmem;rw[hmem] at h3;cases h3.1.2⟩,λj hj hne he=>?_⟩;have:=h3.2 j hj;simp[hne,he] at this
 refine Vu (N:=N) hm b1 bN (λS a w=>∃ (β:Nat→Nat) (Z:Fz),St c (H++EX S β sp 0) Z w∧Dh n l0 a Z∧(∀j o d,j<N→S j=true→ops[j]? =some o→o.dst=some d→∃v,a.tmps[d]? =some v∧(Kx β (EZ sp j) j).p Z v)∧
   ∀k j,k<N→(EZ sp k).sto=some j→S k=true→S j=true)
  (λS S' a w hS hI=>?_) ⟨λ_=>0,Z,?_,ha.subL hl0,λj o d _ hS=>(by cases hS),λk j _ _ hS=>(by cases hS)⟩ (λS i o a w hi hun ho hb hI K hK=>?_) (λa w hI=>?_)
 ·obtain⟨β,Z,h1,h2,h3,h4⟩:=hI;refine⟨β,Z,?_,h2,λj o d hj hS'=>h3 j o d hj (by rw[hS j hj];exact hS'),λk j hk hs hSk=>?_⟩
  ·rw[← Gw (S:=S) (β:=β) (β':=β) sp 0 (λt s hs _=>by
    obtain⟨ht,rfl⟩:=lt_of t s hs;exact⟨hS _ (by omega),λ_=>⟨rfl,λq hq=>hS _ (L1 t q ht hq).1⟩⟩)]
   exact h1
  ·obtain⟨o,ho⟩:=hops k hk;rw[← hS j (S1 k o j hk ho hs).1];exact h4 k j hk hs (by rw[hS k hk];exact hSk)
 ·rw[N2,Ya];exact hw.drawn _
 ·obtain⟨β,Z,h1,h2,h3,hx⟩:=hI;have hput:∀k u v,a.tmps[k]? =some u→o.dst≠some k→(a.put o.dst v).tmps[k]? =some u:=λk u v hk hne=>by
   cases hd:o.dst with
   | none=>simpa[Act.put] using hk
   | some d=>
    simp only[Act.put,Array.getElem?_setIfInBounds];rw[Yl (λe=>hne (by rw[hd,e]))];exact hk
  have hagr:∀v Z',Fz.le Z Z'→Dh n l0 (a.put o.dst v) Z':=λv Z' hz=>by
   refine⟨?_,?_,λk r hk=>?_⟩
   ·cases o.dst<;>simp[Act.put,h2.size]
   ·cases o.dst<;>simp[Act.put,h2.defers]
   ·obtain⟨u,hu,hpu⟩:=h2.tm k r hk;exact⟨u,hput k u v hu (λe=>((hdst i o k hi ho e).1).2 (Mp hk)),r.mono hz hpu⟩
  have hvals:∀(v:Value) (Z':Fz) (β':Nat→Nat),Fz.le Z Z'→(∀j,j≠i→β' j=β j)→(o.dst≠none→(Kx β' (EZ sp i) i).p Z' v)→∀j o' d,j<N→(j ==i||S j)=true→ops[j]? =some o'→o'.dst=some d→∃u,(a.put o.dst v).tmps[d]? =some u∧(Kx β' (EZ sp j) j).p Z' u:=by
   intro v Z' β' hz hβ hp j o' d hj hS' ho' hd
   by_cases hji:j=i
   ·subst hji;rw[ho] at ho';simp at ho';subst ho';refine⟨v,?_,hp (by simp[hd])⟩;have hdn:d<a.tmps.size:=by rw[h2.size];exact(hdst j o d hi ho hd).1.1
    simp[Act.put,hd,hdn]
   ·have hSj:S j=true:=by simpa[hji] using hS'
    obtain⟨u,hu,hpu⟩:=h3 j o' d hj hSj ho' hd;refine⟨u,hput d u v hu (λe=>(hdst i o d hi ho e).2 j hj hji (by simp[DM,ho',hd])),?_⟩;have:Kx β' (EZ sp j) j=Kx β (EZ sp j) j:=by unfold Kx;rw[hβ j hji]
    rw[this];exact(Kx β (EZ sp j) j).mono hz hpu
  have hx':∀k j,k<N→(EZ sp k).sto=some j→(k ==i||S k)=true→(j ==i||S j)=true:=λk j hk hs hSk=>by
   by_cases hki:k=i
   ·subst hki;have:=(hb j (S1 k o j hk ho hs).2.1).2;simp[this]
   ·have:S j=true:=hx k j hk hs (by simpa[hki] using hSk);simp[this]
  have hat:=hob.at i o (by rw[hget i hi];exact ho);rw[XV] at hat;unfold Wp at hat;have hag':Dh n (Cs ops (Um sp) (EZ sp i).deps l0) a Z:=LJ h2 (λj hj d hd=>by
    have h4:=b3 i hi j (by simpa[X6,Yd,hsa i hi] using hj);simp only[X1,XD,Xw] at h4;obtain⟨⟨h5,h6⟩,h7⟩:=h4;rw[X6,ho,XO,List.contains_iff_mem] at h6;have hjal:(EZ sp j).al=none:=by
     rw[hals j _ h5] at h7;simpa using h7
    obtain⟨o2,ho2⟩:=hops j h5;obtain⟨v,hv1,hv2⟩:=h3 j o2 d h5 (hb j h6).2 ho2 (by simpa[DM,ho2] using hd);refine⟨v,hv1,?_⟩;rw[hspq j h5];simpa[Kx,hjal] using hv2)
  cases hst:(EZ sp i).sto with
  | some j=>
   rw[hst] at hat;obtain⟨hod,d,p,ncs,hd,hal,hlate,hok⟩:=hat;obtain⟨hjN,hjb,_,hial⟩:=S1 i o j hi ho hst;have hSj:=(hb j hjb).2;obtain⟨H',p1,p2⟩:=P3 (S:=S) (β:=β) (i:=i) (j:=j) (p:=p) (ncs:=ncs) sp 0 j (EZ sp j) (by omega) (hsa j hjN) hal hlate hSj hun (λt s q hs _ hq hne he=>by
     obtain⟨ht,rfl⟩:=lt_of t s hs;have:=(L1 t q ht hq).2;rw[he,hst] at this;simp at this;omega) (λt s hs hn he=>by
     obtain⟨ht,rfl⟩:=lt_of t s hs;rw[XV] at he;subst he;exact hn hial)
   obtain⟨o2,ho2⟩:=hops j hjN;obtain⟨v,hv1,hv2⟩:=h3 j o2 d hjN hSj ho2 (by simpa[DM,ho2] using hd);have hag2:Dh n ((d,rv (.pointer (some ⟨β j,0,none⟩)))::Cs ops (Um sp) (EZ sp i).deps l0) a Z:=⟨hag'.size,hag'.defers,λk r hk=>by
    rw[C8] at hk
    split at hk
    ·rename_i e;subst e;simp at hk;subst hk
     exact⟨v,hv1,by simpa[Kx,hal] using hv2⟩
    ·exact hag'.tm k r hk⟩
   refine hok (β j) (H++H') a w Z K hag2 (h1.perm ((List.Perm.append_left H p1).trans List.perm_middle)) (λv w' Z' hz _ hs'=>hK _ _ ⟨β,Z',?_,hagr v Z' hz,hvals v Z' β hz (λ_ _=>rfl) (λhne=>absurd hod hne),hx'⟩);exact hs'.perm (List.perm_middle.symm.trans (List.Perm.append_left H p2.symm))
  | none=>
   rw[hst] at hat;have latene:∀t q,t<N→(EZ sp t).late=some q→q.1≠i:=λt q ht hq he=>by
    have:=(L1 t q ht hq).2;rw[he,hst] at this;cases this
   cases hal:(EZ sp i).al with
   | none=>
    rw[hal] at hat;refine hat _ a w Z K hag' h1 (λv w' Z' hz hp hst'=>hK _ _ ⟨β,Z',?_,hagr v Z' hz,hvals v Z' β hz (λ_ _=>rfl) (λ_=>by unfold Kx;rw[hal];exact hp),hx'⟩);rw[Gw (S':=S) (β':=β) sp 0 (λt s hs hn=>by
     obtain⟨ht,rfl⟩:=lt_of t s hs;have:t≠i:=λe=>by subst e;exact hn hal
     refine⟨by simp[this],λ_=>⟨rfl,λq hq=>?_⟩⟩;have:=latene t q ht hq;simp[this])]
    exact hst'
   | some p=>
    rw[hal] at hat;have key:=λK' hK'=>hat (H++EX S β sp 0) a w Z K' h1 hK';have h5:∀b w',St c (.blk b p.1 p.2::(H++EX S β sp 0)) Z w'→K (a.put o.dst (.pointer (some ⟨b,0,none⟩))) w':=λb w' hst'=>by
     refine hK _ _ ⟨λj=>if j=i then b else β j,Z,?_,hagr _ Z (Fz.le.refl _),hvals _ Z _ (Fz.le.refl _) (λj hj=>by simp[hj]) (λ_=>by simp[Kx,hal,rv]),hx'⟩;have hp:=P4 (S:=S) (β:=β) (i:=i) (b:=b) (p:=p) sp 0 i (EZ sp i) (by omega) (hsa i hi) hal hun (λt s q hs _ hq=>by
      obtain⟨ht,rfl⟩:=lt_of t s hs;exact latene t q ht hq) (λq hq=>by
       refine⟨?_,latene i q hi hq⟩
       cases hS:S q.1 with
       | false=>rfl
       | true=>
        obtain⟨h6,h7⟩:=L1 i q hi hq;have:=hx q.1 i h6 h7 hS;rw[this] at hun;cases hun)
     exact hst'.perm ((List.perm_middle.symm).trans (List.Perm.append_left H hp.symm))
    refine⟨λ_=>(key K h5).2,λhw'=>?_⟩;rw[(key K h5).1] at hw';cases hw'
 ·obtain⟨β,Z,h1,h2,h3,_⟩:=hI;refine h β a w Z (Rl h2 _ _ 0 (λt o s d ht hs hd=>?_)) (by rw[← P5];exact h1);obtain⟨htN,rfl⟩:=lt_of t s hs;rw[XV];exact h3 t o d htN rfl (by rw[← hget t htN];exact ht) hd
end
section
variable {P : Program} {n : Nat} {c : Cx} {opsA : Array Oper} {Q : Exit → Act → World → Prop} {l l0 : Fr} {H : List Ent} {sp : List Sa}
theorem L2 {id:Nat}{ops:List Oper}(N:Nat)(ks0:List Nat)(sp:List Sa)(hob:KQ P n c ops.toArray Q ops sp l0 H 0 (ops.take N))(h:∀β,WL P n c ops.toArray Q (ops.drop N) (MP β (ops.take N) sp 0 l0) (H++Sk β sp 0))
  (h0:Kp ks0 l l0:=by repeat (first | exact Pk | (apply Mt;rfl) | (apply MZ;rfl))) (hm:P.follows .mixedOrders=true:=by kernel_rfl) (hB:Xc n ops N (Gu l0) (sp.map (·.deps)) (sp.map (·.al.isSome)) (sp.map (·.late.map (·.1))) (sp.map (·.sto))=true:=by kernel_rfl)
  (hsp:sp.length=N:=by rfl):WC P n c (.region id ops.toArray true) Q l H:=Vv N sp hm hB h0.one hsp hob h
theorem Ns {all rest:List Oper}{d:Nat}{op:Op}{ty:TypeId}{pos:String}{af:Array Edge}{i:Nat}
  (hr:∀{H},B2 P n c (Cs all (Um sp) (EZ sp i).deps l0) H { dst:=some d,op:=op,type:=ty,pos:=pos,after:=af,guard:=none } (EZ sp i).r) (h:KQ P n c opsA Q all sp l0 H (i+1) rest) (ha:(EZ sp i).al=none:=by rfl) (hs:(EZ sp i).sto=none:=by rfl) :
  KQ P n c opsA Q all sp l0 H i ({ dst:=some d,op:=op,type:=ty,pos:=pos,after:=af,guard:=none }::rest):=by
 refine⟨?_,h⟩;unfold Wp;rw[hs,ha];exact λ_=>Uw hr
theorem WT {all rest:List Oper}{d:Nat}{op:Op}{ty:TypeId}{pos:String}{af:Array Edge}{i:Nat}
  (hr:∀{E},B2 P n c (Cs all (Um sp) (EZ sp i).deps l0) (H++E) { dst:=some d,op:=op,type:=ty,pos:=pos,after:=af,guard:=none } (EZ sp i).r) (h:KQ P n c opsA Q all sp l0 H (i+1) rest) (ha:(EZ sp i).al=none:=by rfl) (hs:(EZ sp i).sto=none:=by rfl) :
  KQ P n c opsA Q all sp l0 H i ({ dst:=some d,op:=op,type:=ty,pos:=pos,after:=af,guard:=none }::rest):=by
 refine⟨?_,h⟩;unfold Wp;rw[hs,ha];exact λ_=>Uw hr
theorem WU {all:List Oper}{i:Nat}:KQ P n c opsA Q all sp l0 H i []:=trivial
end
structure TZ (ks:List Nat) (β:Nat→Nat) (os:List Oper) (sp:List Sa) (i:Nat) (l0 l1:Fr):Prop where
 go:Kp ks (MP β os sp i l0) l1
section
variable {ks : List Nat} {β : Nat → Nat} {os : List Oper} {sp : List Sa} {i d : Nat} {l0 l1 : Fr} {ds : List Nat} {r : Rp} {p : List Rp × TypeId} {lt : Option (Nat × List Rp)} {so : Option Nat} {op : Op} {ty : TypeId} {pos : String} {af : Array Edge} {g : Option (Nat × Bool)}
theorem W2 (h:ks.contains d=true)(t:TZ ks β os sp (i+1) l0 l1):TZ ks β ({ dst:=some d,op:=op,type:=ty,pos:=pos,after:=af,guard:=g }::os) ({ deps:=ds,r:=r,sto:=so }::sp) i l0 ((d,r)::l1):=⟨Mt h t.go⟩
theorem W5 (h:ks.contains d=true)(t:TZ ks β os sp (i+1) l0 l1):TZ ks β ({ dst:=some d,op:=op,type:=ty,pos:=pos,after:=af,guard:=g }::os) ({ deps:=ds,r:=r,al:=some p,late:=lt,sto:=so }::sp) i l0 ((d,rv (.pointer (some ⟨β i,0,none⟩)))::l1):=⟨Mt h t.go⟩
theorem W4 {s:Sa}(h:ks.contains d=false)(t:TZ ks β os sp (i+1) l0 l1):TZ ks β ({ dst:=some d,op:=op,type:=ty,pos:=pos,after:=af,guard:=g }::os) (s::sp) i l0 l1:=⟨MZ h t.go⟩
theorem W3 {s:Sa}(t:TZ ks β os sp (i+1) l0 l1):TZ ks β ({ dst:=none,op:=op,type:=ty,pos:=pos,after:=af,guard:=g }::os) (s::sp) i l0 l1:=⟨t.go⟩
theorem W6 (t:Kp ks l0 l1):TZ ks β [] [] i l0 l1:=⟨t⟩
theorem NC {P:Program}{n:Nat}{c:Cx}{opsA:Array Oper}{Q:Exit→Act→World→Prop}{rest:List Oper}{H H1:List Ent}(ks:List Nat)(h:WL P n c opsA Q rest l1 H1)
  (hz:TZ ks β os sp i l0 l1:=by repeat (first | (apply W2;rfl) | (apply W5;rfl) | (apply W4;rfl) | apply W3 | apply W6 | exact Pk | (apply Mt;rfl) | (apply MZ;rfl))) (hH:H=H1:=by rfl) :
  WL P n c opsA Q rest (MP β os sp i l0) H:=λa w Z ha hw=>h a w Z (ha.subL hz.go.one) (hH▸hw)
end
section
variable {P : Program} {n : Nat} {c : Cx} {opsA : Array Oper} {Q : Exit → Act → World → Prop} {l l0 : Fr} {H : List Ent} {sp : List Sa}
theorem WV {all rest:List Oper}{o:Oper}{i:Nat}(hr:∀{E},E3 P n c opsA Q (Cs all (Um sp) (EZ sp i).deps l0) (H++E) o (EZ sp i).r (H++E))(h:KQ P n c opsA Q all sp l0 H (i+1) rest)(ha:(EZ sp i).al=none:=by rfl)(hs:(EZ sp i).sto=none:=by rfl):KQ P n c opsA Q all sp l0 H i (o::rest):=by
 refine⟨?_,h⟩;unfold Wp;rw[hs,ha];exact λ_=>hr
end
def Xo (p:Bool→Prop):Rp:=⟨λ_ v=>∃b,v = .bool b∧p b,λ_ h=>h,true,λ_ Z v ⟨b,e,_⟩=>by rw[e];rfl⟩
section
variable {P : Program} {n : Nat} {c : Cx} {ops : Array Oper} {Q : Exit → Act → World → Prop} {rest : List Oper} {l : Fr} {H : List Ent} {d : Option Nat} {ty rty t e : TypeId} {pos : String} {af : Array Edge} {g : Option (Nat × Bool)} {r : Rp} {x : Operand} {cx cy : Code} {sz : Nat} {xs : List (List Rp)}
theorem SJ {o:Operand}{p:Bool→Prop}(ho:ev l o=some (Xo p))(h1:p true→WC P n c cx Q l H)(h2:p false→WC P n c cy Q l H):WC P n c (.cond o cx cy) Q l H:=λa w Z ha hw=>by
 obtain⟨b,e,hp⟩:=ha.ev ho;exact wp_cond_split e (λe=>h1 (e▸hp) a w Z ha hw) (λe=>h2 (e▸hp) a w Z ha hw)
theorem RL (ht:P.underlying t=some (.slice e))(h:ev l x=some (AJ sz xs)):B2 P n c l H { dst:=d,op:=.binOp .eql t x (.const (.slice none 0 0)) rty,type:=ty,pos:=pos,after:=af,guard:=g } (Xo (λb=>b=true→xs=[])):=λa w Z ha hw=>by
 obtain⟨A,cap,e1,h1,h2,h3,h4⟩:=ha.ev h;refine⟨.bool A.isNone,⟨_,rfl,λhb=>?_⟩,?_⟩
 ·cases A with
  | some a=>cases hb
  | none=>
   have:=h3 rfl;exact List.length_eq_zero_iff.1 (by omega)
 ·have:=run_equal_slice_nil (P:=P) w t e A xs.length cap ht;have e2:a.eval (.const (.slice none 0 0)) = .slice none 0 0:=rfl;simp[execOp,e1,e2,binOp,this,eqGuard]
end
set_option maxRecDepth 100000
set_option maxHeartbeats 4000000
theorem Qn:∃inf,Tryz.prog.info? 28=some inf∧inf.zero=some (.slice none 0 0)∧inf.size=1∧inf.bytes=24:=by
  have key:(Tryz.prog.info? 28).map (λi=>(i.zero,i.size,i.bytes))=some (some (.slice none 0 0),1,24):=by kernel_rfl
  obtain⟨inf,h1,h2⟩:=Option.map_eq_some_iff.1 key;simp only[Prod.mk.injEq] at h2;exact⟨inf,h1,h2.1,h2.2.1,h2.2.2⟩
theorem MG (ys:(List Aa))(r:(List Aa))(h:MH ys=some r):Fn Tryz.prog GE 92 [AJ 4 (A2 Ab ys)] [] (λR H=>R=AJ 4 (A2 Ab r)∧H=[]):=by
 refine enter (n:=8) Tryz.func92 rfl Tryz.ntmps92 rfl (λw Z=>?_);unfold MH at h;refine Af (wa rfl (Am (An (Af (wm rfl (wv (RL Bv rfl) (Am (SJ rfl (λc1=>?_) (λc1=>?_)))))))))
 ·have e2:ys=[]:=List.map_eq_nil_iff.1 (c1 rfl);have h3:some ([]:List Aa)=some r:=by rw[e2] at h;exact(TJ h).2
  refine Af (wa rfl (Am (Aq (Ac (WK.up (d:=2) (r:=AJ 4 (A2 Ab ([]:List Aa))) rfl (Up.le (Et.nil _)) ?_)))));obtain rfl:=Ao h3;exact Ap (Bs Tryz.results92 (A5 rfl)) sN ⟨rfl,rfl⟩
 ·refine At (AD (Af (AZ (ys:=([]:List Aa)) (enc:=Ab) (css:=[]) (xs:=[]) Bv BC GV rfl rfl rfl trivial rfl Bi rfl rfl rfl (λb4=>?_))));refine wm rfl (ck h λg6 h7=>Exists.elim GR λinf hinf=>C1 (xs:=([]:List Aa)) (ys:=ys) (enc:=Ab) (i:=0) Bv hinf.1 hinf.2.1 hinf.2.2.1 hinf.2.2.2 rfl rfl rfl rfl rfl (Lz.z rfl rfl) Bi C0 g6 rfl (λv5=>?_));refine wa rfl (Am (Aq (WK.freeze (i:=0) rfl (WK.up (d:=2) (r:=AJ 4 (A2 Ab (([]:List Aa)++ys))) rfl (Up.fact (i:=0) rfl) ?_))));obtain rfl:=Ao h7;exact Ap (Bs Tryz.results92 (A5 rfl)) (sS sN) ⟨rfl,rfl⟩
theorem Nj (ha:Nat)(hb:Value)(key:Aw)(x:(List Aa))(out:(List (List Aa)))(r:Bool×(List (List Aa)))(h:L4 key x out=some r):Fn Tryz.prog GE 91 [rS key,AJ 4 (A2 Ab x),rP ha 0] [.blk ha [rv hb] 24,.row hb 28 1 (A2 Ae out)] (λR H=>∃w2_0:Value,R=rB r.1∧H=[.blk ha [rv w2_0] 24,.row w2_0 28 1 (A2 Ae r.2)]):=by
 refine enter (n:=11) Tryz.func91 rfl Tryz.ntmps91 rfl (λw Z=>?_);unfold L4 at h;refine Af (wa rfl (Am (An (ob h λr1 e3 h2=>L2 4 [1,2] [⟨[],rv hb,none,none,none⟩,⟨[],AJ 4 (A2 Ab x),none,none,none⟩,⟨[1],AJ 4 (A2 Ab r1),none,none,none⟩,⟨[2],AJ 1 (A2 Ae ([r1]:List (List Aa))),none,none,none⟩] ?_ (λβ=>?_)))))
 ·refine WT (Bp (i:=0) CI rfl rfl rfl) (Ns (A3 rfl) (WV (Dj Tryz.call92 (MG x r1 e3) rfl) (WV (GP (ys:=([r1]:List (List Aa))) (enc:=Ae) (css:=[[AJ 4 (A2 Ab r1)]]) (xs:=[.tmp 8]) Cd Co N9 rfl rfl rfl ⟨EA.one rfl (Up.refl _),trivial⟩ rfl BW rfl rfl) ?_)));exact WU
 refine NC (H1:=[.blk ha [rv hb] 24,.row hb 28 1 (A2 Ae out)]) [6,7,8,9,1,2] ?_;refine ck h2 λg5 h6=>Exists.elim Qn λinf hinf=>C1 (xs:=out) (ys:=([r1]:List (List Aa))) (enc:=Ae) (i:=1) Cd hinf.1 hinf.2.1 hinf.2.2.1 hinf.2.2.2 rfl rfl rfl rfl rfl (Lz.z rfl rfl) BW EP g5 rfl (λv4=>?_);refine BF (i:=1) C9 rfl rfl (CZ (i:=0) rfl) rfl rfl (cs':=[rv v4]) rfl (H':=[.row v4 28 1 (A2 Ae (out++([r1]:List (List Aa)))),.blk ha [rv v4] 24]) rfl (Bb (wa rfl (Am (Aq (CA (H2:=[.blk ha [rv v4] 24,.row v4 28 1 (A2 Ae (out++([r1]:List (List Aa))))]) ((A1 (i:=1) rfl).trans (Xx _ (Xv _))) ?_)))));obtain rfl:=Ao h6;exact Ap (Bs Tryz.results91 (A5 rfl)) (sC (sC sN)) ⟨v4,rfl,rfl⟩
theorem R1 (F:Nat)(hb:Nat)(hm:Value)(v:(List Aa))(out:(List (List Aa)))(r:(List (List Aa)))(h:NJ F v out=some r):Fn Tryz.prog GE 90 [AJ 4 (A2 Ab v),rv (.func (.func 91) #[] #[(.pointer (some ⟨hb,0,none⟩))])] [.blk hb [rv hm] 24,.row hm 28 1 (A2 Ae out)] (λR H=>∃w1_0_0:Value,R=rv (.tuple #[])∧H=[.blk hb [rv w1_0_0] 24,.row w1_0_0 28 1 (A2 Ae r)]):=by
 refine enter (n:=52) Tryz.func90 rfl Tryz.ntmps90 rfl (λw Z=>?_);unfold NJ at h;refine Af (wa rfl (Bb (wm rfl (ck h λg1 h2=>wv (AU (enc:=Ab) (ys:=v) Bv BC rfl rfl g1) (wv (AR Bm rfl B3 rfl rfl) (wv (AM BG rfl rfl) (wv (r:=Al 0) (A3 rfl) (Am (A6 (ob h2 λh0 h1 hn=>Bd (S:=Nat×(Int×Int×(List (List Aa)))×(Value)) (V:=((List (List Aa)))×(Value)) 0 (λσ=>Cf (λσ=>HN F v σ.1 σ.2.1 σ.2.2) σ.1 σ.2.1=some h0) (λσ=>[(0,AJ 4 (A2 Ab v)),(1,rv (.func (.func 91) #[] #[(.pointer (some ⟨hb,0,none⟩))])),(4,Al σ.2.1.1),(12,Al ((Ax v 0).fN)),(13,Al σ.2.1.2.1)]) (λσ=>[.blk hb [rv σ.2.2] 24,.row σ.2.2 28 1 (A2 Ae σ.2.1.2.2)]) (λσ=>σ.1) (F,(1,0,out),hm) h1 (Az.c5 rfl rfl rfl rfl rfl Az.nil) (sC (sC sN)) (λσ=>HM σ.1=some r) (λσ=>[]) (λσ=>[.blk hb [rv σ.2] 24,.row σ.2 28 1 (A2 Ae σ.1)]) ?_ ?_))))))))))
 ·rintro⟨n171,⟨ha,hj,hh⟩,he⟩ h3;refine B7 (l':=[(0,AJ 4 (A2 Ab v)),(1,rv (.func (.func 91) #[] #[(.pointer (some ⟨hb,0,none⟩))])),(4,Al ha),(12,Al ((Ax v 0).fN)),(13,Al hj)]) (H':=[.blk hb [rv he] 24,.row he 28 1 (A2 Ae hh)]) rfl rfl ?_;obtain⟨hr,rfl,h4,hk,hi⟩:=Ca h3;replace hk:HN F v ha hj hh=some h4:=hk;unfold HN at hk;refine Af (wv (Cl rfl rfl) (Am (An (cz hk rfl (λh5 h6=>?_) (λh5 h7=>?_)))))
  ·refine At (AD (An (A6 (Af (wv (r:=rS ([]:Aw)) (AG rfl) (Am (An (Af (wm rfl (wv (AU (enc:=Ab) (ys:=v) Bv BC rfl rfl g1) (wv (AR Bm rfl CF rfl rfl) (wv (AM CR rfl rfl) (wv (AX rfl rfl) (Am (cz h6 rfl (λh8 h9=>?_) (λh8 hA=>?_))))))))))))))))
   ·refine Af (wm rfl (wm rfl (ck h9 λhB hC=>wv (AU (enc:=Ab) (ys:=v) Bv BC rfl rfl hB) (wv (AR Bm rfl C6 rfl rfl) (wv (AM CG rfl rfl) (wa rfl (Am (Aj (wm rfl (ck hC λhD hE=>wv (Be rfl rfl hD) (wa rfl (Bb (wm rfl (wm rfl (ck hE λhG hH=>wv (r:=AJ 4 (A2 Ab (List.drop (B0 (ha+1)) v))) (Eg Bv BC rfl rfl hG) (ob hH λhf hI hJ=>BL PO (HL F (List.drop (B0 (ha+1)) v) hf hI) rfl (wm rfl (wv (AC rfl rfl) (wv (AC rfl rfl) ?_)))))))))))))))))));refine wv (AC rfl rfl) (Cm (cs:=[Al 0,Al 0,rB false,rB false]) N8 rfl rfl (λhs=>?_));refine wa rfl (Bh (i:=0) Gz rfl rfl rfl (BU.c rfl) rfl rfl (cs':=[Al hf.2.1.fDepth,Al hf.2.1.fBytes,rB hf.2.1.fOutside,rB hf.2.1.fLong]) rfl (H':=[.blk hs (AN hf.2.1) 86,.blk hb [rv he] 24,.row he 28 1 (A2 Ae hh)]) rfl (wa rfl (Am (An (Af (wm rfl (wm rfl (wm rfl (wm rfl (wm rfl (wm rfl (ck hJ λho hK=>wv (Be rfl rfl ho) (wm rfl (wm rfl (wv (Be rfl rfl ho) (ck hK λhL hN=>ck hN λhO hP=>wv (r:=AJ 4 (A2 Ab (List.take (B0 ((ha+1)+hf.1)-B0 (ha+1)) (List.drop (B0 (ha+1)) v)))) (E6 Bv BC rfl rfl rfl rfl hL hO) (ob hP λht hQ hR=>CX (rs:=[rS ((Ax v ha).fStr),AJ 4 (A2 Ab (List.take (B0 ((ha+1)+hf.1)-B0 (ha+1)) (List.drop (B0 (ha+1)) v)))]) (Hin:=[.blk hb [rv he] 24,.row he 28 1 (A2 Ae hh)]) (Hr:=[.blk hs (AN hf.2.1) 86]) Tryz.call91 rfl rfl ((A1 (i:=1) rfl).trans (Xx _ ((A1 (i:=1) rfl).trans (Xx _ (Xv _))))) (Nj hb he ((Ax v ha).fStr) (List.take (B0 ((ha+1)+hf.1)-B0 (ha+1)) (List.drop (B0 (ha+1)) v)) hh ht hQ) rfl ?_)))))))))))))))));rintro _ _ ⟨hu,rfl,rfl⟩;refine wv (Bu rfl) (Am (cz hR rfl (λhS hT=>?_) (λhS hU=>?_)))
    ·refine Aq (Ac (Au (Ac (Ac (AP ?_)))));have hV:=Bg hT hi hn;refine Au ?_;obtain rfl:=Ao hV;exact Ap (NP NA) (sC (sC (sS sN))) ⟨hu,rfl,rfl⟩
    ·refine At (AD (Aj (wm rfl (wm rfl (wv (Be rfl rfl ho) (wa rfl (Ai (A4 (AD (Aj (ck hU λhW hX=>wv (Be rfl rfl hW) (wm rfl (Ai ?_)))))))))))));have hY:=AW hX hi;exact As (Ar (hr,((ha+1)+hf.1,hj+1,ht.2),hu) ⟨hY,X0 _⟩ (Az.c5 rfl rfl rfl rfl rfl Az.nil) (sC (sC (sS sN))))
   ·refine At (AD (Af (wm rfl (wm rfl (ck hA λhZ ga=>wv (r:=AJ 4 (A2 Ab (List.drop (B0 ha) v))) (Eg Bv BC rfl rfl hZ) (ob ga λhg gb gc=>BL PO (HL F (List.drop (B0 ha) v) hg gb) rfl (wm rfl (wv (AC rfl rfl) (wv (AC rfl rfl) (wv (AC rfl rfl) (Cm (cs:=[Al 0,Al 0,rB false,rB false]) N8 rfl rfl (λhw=>?_))))))))))));refine wa rfl (Bh (i:=0) Gz rfl rfl rfl (BU.c rfl) rfl rfl (cs':=[Al hg.2.1.fDepth,Al hg.2.1.fBytes,rB hg.2.1.fOutside,rB hg.2.1.fLong]) rfl (H':=[.blk hw (AN hg.2.1) 86,.blk hb [rv he] 24,.row he 28 1 (A2 Ae hh)]) rfl (wa rfl (Am (An (Af (wm rfl (wm rfl (wm rfl (wm rfl (wm rfl (wm rfl (ck gc λhp gd=>wv (Be rfl rfl hp) (wm rfl (wm rfl (wv (Be rfl rfl hp) (ck gd λge gf=>ck gf λgg gh=>wv (r:=AJ 4 (A2 Ab (List.take (B0 (ha+hg.1)-B0 ha) (List.drop (B0 ha) v)))) (E6 Bv BC rfl rfl rfl rfl ge gg) (ob gh λhx gi gj=>CX (rs:=[rS ([]:Aw),AJ 4 (A2 Ab (List.take (B0 (ha+hg.1)-B0 ha) (List.drop (B0 ha) v)))]) (Hin:=[.blk hb [rv he] 24,.row he 28 1 (A2 Ae hh)]) (Hr:=[.blk hw (AN hg.2.1) 86]) Tryz.call91 rfl rfl ((A1 (i:=1) rfl).trans (Xx _ ((A1 (i:=1) rfl).trans (Xx _ (Xv _))))) (Nj hb he ([]:Aw) (List.take (B0 (ha+hg.1)-B0 ha) (List.drop (B0 ha) v)) hh hx gi) rfl ?_)))))))))))))))));rintro _ _ ⟨hy,rfl,rfl⟩;refine wv (Bu rfl) (Am (cz gj rfl (λgl gm=>?_) (λgl gp=>?_)))
    ·refine Aq (Ac (Au (Ac (Ac (AP ?_)))));have gq:=Bg gm hi hn;refine Au ?_;obtain rfl:=Ao gq;exact Ap (NP NA) (sC (sC (sS sN))) ⟨hy,rfl,rfl⟩
    ·refine At (AD (Aj (wm rfl (wm rfl (wv (Be rfl rfl hp) (wa rfl (Ai (A4 (AD (Aj (ck gp λgr gs=>wv (Be rfl rfl gr) (wm rfl (Ai ?_)))))))))))));have gt:=AW gs hi;exact As (Ar (hr,(ha+hg.1,hj+1,hx.2),hy) ⟨gt,X0 _⟩ (Az.c5 rfl rfl rfl rfl rfl Az.nil) (sC (sC (sS sN))))
  ·refine Bl (Ay ?_);have gu:=BB h7 hi hn;exact Ay (AS (Ar (hh,he) gu Az.nil (sC (sC sN))))
 ·rintro⟨hz,hq⟩ hl;refine Ce (l':=[]) (H':=[.blk hb [rv hq] 24,.row hq 28 1 (A2 Ae hz)]) rfl rfl ?_;replace hl:HM hz=some r:=hl;unfold HM at hl;refine AV ?_;obtain rfl:=Ao hl;exact E5 (NP NA) (sC (sC sN)) ⟨hq,rfl,rfl⟩
theorem JI (F:Nat)(v:(List Aa))(r:(List (List Aa))×Int)(h:Kw F v=some r):Fn Tryz.prog GE 56 [AJ 4 (A2 Ab v)] [] (λR H=>R=Dx [AJ 1 (A2 Ae r.1),Al r.2]∧H=[]):=by
 refine enter (n:=27) Tryz.func56 rfl Tryz.ntmps56 rfl (λw Z=>?_);unfold Kw at h;refine Af (wa rfl (wa rfl (Am (An (Af (wm rfl (ob h λr1 e3 h2=>BL MR (DR F v r1 e3) rfl (wa rfl (Bb (wm rfl (wv (Bo rfl rfl) (Am (cz h2 rfl (λc4 h5=>?_) (λc4 h6=>?_))))))))))))))
 ·refine Af (wm rfl (wa rfl (wa rfl (Am (Aq (Ac (WK.up (d:=2) (r:=AJ 1 (A2 Ae ([]:List (List Aa)))) rfl (Up.le (Et.nil _)) ?_)))))));obtain rfl:=Ao h5;exact Ap (Eb Tryz.results56 (A5 rfl) (A5 rfl)) sN ⟨rfl,rfl⟩
 ·refine At (AD (An (ck h6 λg7 h8=>AE [(0,AJ 4 (A2 Ab v)),(22,rB ((!decide (((Ax v 0).fKind)=5))&&(!decide (((Ax v 0).fKind)=6))))] [] ?_ ?_)))
  ·refine Aj (wm rfl (wv (AU (enc:=Ab) (ys:=v) Bv BC rfl rfl g7) (wv (AR Bm rfl CF rfl rfl) (wv (AM CR rfl rfl) (wv (Bo rfl rfl) (wm rfl (AH (!decide (((Ax v 0).fKind)=5)) (λc9=>?_) (λc9=>?_))))))))
   ·refine wo c9 (wm rfl (wo c9 (wv (AU (enc:=Ab) (ys:=v) Bv BC rfl rfl g7) (wo c9 (wv (AR Bm rfl CF rfl rfl) (wo c9 (wv (AM CR rfl rfl) (wo c9 (wv (Bo rfl rfl) (BR rfl c9 rfl (Ai ?_)))))))))));exact BD c9
   ·refine wf c9 (wf c9 (wf c9 (wf c9 (wf c9 (wv (r:=rB false) (Ak rfl c9 rfl) (Ai ?_))))));exact BD c9
  refine cz h8 rfl (λhe hf=>?_) (λhe hg=>?_)
  ·refine Af (wa rfl (wa rfl (Am (Aq (Ac (WK.up (d:=2) (r:=AJ 1 (A2 Ae ([]:List (List Aa)))) rfl (Up.le (Et.nil _)) ?_))))));obtain rfl:=Ao hf;exact Ap (Eb Tryz.results56 (A5 rfl) (A5 rfl)) sN ⟨rfl,rfl⟩
  ·refine At (AD (Af (Cm (cs:=[rv (.slice none 0 0)]) Tryz.zeroValue24 rfl rfl (λha=>?_))));refine Bb (wm rfl (wv (r:=rv (.func (.func 91) #[] #[(.pointer (some ⟨ha,0,none⟩))])) (Cb rfl) (WL.nilrow (e:=28) (sz:=1) (ob hg λhb hh hi=>DP (Hr:=[]) Tryz.call90 (R1 F ha (.slice none 0 0                            ) v ([]:List (List Aa)) hb hh) rfl ((A1 (i:=1) rfl).trans (Xx _ (Xv _))) rfl ?_))));rintro _ _ ⟨hj,rfl,rfl⟩;refine Bb (vL 0 CI rfl (wa rfl (wa rfl (Am (Aq (WK.freeze (i:=1) rfl (WK.up (d:=2) (r:=AJ 1 (A2 Ae hb)) rfl (Up.fact (i:=0) rfl) ?_)))))));obtain rfl:=Ao hi;exact Ap (Eb Tryz.results56 (A5 rfl) (A5 rfl)) (sS (sS sN)) ⟨rfl,rfl⟩
end Go.Proofs.YtghdglcmblpbeaaGreatDoor.Q
namespace Go.Proofs.YtghdglcmblpbeaaGreatDoor
open Go
set_option linter.unusedVariables false
def QE (k:Aw)(x:(List Aa))(key:Aw)(out:(List Aa)):Option (Bool×(List Aa)):=
 AO (decide (k=key)) (Bf (MH x) λr3=>AY (decide (0<r3.length))<|some (!decide (k=key),r3)) (some (!decide (k=key),out))
def JK (F:Nat)(v:(List Aa))(key:Aw)(ha:Int)(hb:Int)(hg:(List Aa)):Option (Stp (Int×Int×(List Aa)) (Out ((List Aa)) ((List Aa)))):=
 AO (decide (hb<((Ax v 0).fN))) (AO (decide (((Ax v 0).fKind)=6)) (AY (C3 ha (v.length:Int))<|AY (BN .i64 (ha+1))<|AY (G0 (ha+1) (v.length:Int))<|Bf (Gl F (List.drop (Int.toNat (ha+1)) v)) λhe=>AY (BN .i64 ((ha+1)+he.1))<|AY (G0 (ha+1) ((ha+1)+he.1))<|AY (G0 ((ha+1)+he.1) (v.length:Int))<|Bf (QE ((Ax v ha).fStr) (List.take (Int.toNat ((ha+1)+he.1)-Int.toNat (ha+1)) (List.drop (Int.toNat (ha+1)) v)) key hg) λhh=>AO (!hh.1) (some (.out (.ret hh.2))) (AY (BN .i64 (hb+1))<|some (.next ((ha+1)+he.1,hb+1,hh.2)))) (AY (G0 ha (v.length:Int))<|Bf (Gl F (List.drop (Int.toNat ha) v)) λhf=>AY (BN .i64 (ha+hf.1))<|AY (G0 ha (ha+hf.1))<|AY (G0 (ha+hf.1) (v.length:Int))<|Bf (QE ([]:Aw) (List.take (Int.toNat (ha+hf.1)-Int.toNat ha) (List.drop (Int.toNat ha) v)) key hg) λhi=>AO (!hi.1) (some (.out (.ret hi.2))) (AY (BN .i64 (hb+1))<|some (.next (ha+hf.1,hb+1,hi.2))))) (some (.out (.go hg)))
def JJ (ha:(List Aa)):Option ((List Aa)):=
 some ha
def SP (F:Nat)(v:(List Aa))(key:Aw)(out:(List Aa)):Option ((List Aa)):=
 AY (C3 0 (v.length:Int))<|Bf (Cf (λσ=>JK F v key σ.1 σ.2.1 σ.2.2) F (1,0,out)) (BS λν=>JJ ν)
def Vx (F:Nat)(v:(List Aa))(key:Aw):Option ((List Aa)×Int):=
 Bf (Dt F v) λr2=>AO (!decide (r2=0)) (some (([]:List Aa),r2)) (AY (C3 0 (v.length:Int))<|AO (!decide (((Ax v 0).fKind)=6)) (some (([]:List Aa),7)) (Bf (SP F v key ([]:List Aa)) λha=>AO (List.isEmpty ha) (some (([]:List Aa),5)) (some (ha,0))))
def JE (F:Nat)(path:(List Aw))(he:(List Aa))(ha:Int):Option (Stp ((List Aa)×Int) (Out ((List Aa)×Int) ((List Aa)))):=
 AO (decide (ha<(path.length:Int))) (AY (C3 ha (path.length:Int))<|Bf (Vx F he (Ax path ha)) λhb=>AO (!decide (hb.2=0)) (some (.out (.ret (([]:List Aa),hb.2)))) (AY (BN .i64 (ha+1))<|some (.next (hb.1,ha+1)))) (some (.out (.go he)))
def JD (ha:(List Aa)):Option ((List Aa)×Int):=
 some (ha,0)
def SN (F:Nat)(v:(List Aa))(path:(List Aw)):Option ((List Aa)×Int):=
 Bf (Dt F v) λr1=>AO (!decide (r1=0)) (some (([]:List Aa),r1)) (Bf (MH v) λr7=>Bf (Cf (λσ=>JE F path σ.1 σ.2) F (r7,0)) (BS λν=>JD ν))
end Go.Proofs.YtghdglcmblpbeaaGreatDoor
namespace Go.Proofs.YtghdglcmblpbeaaGreatDoor.Q
open Go Go.RowKit
set_option linter.unusedVariables false
def Np (sz:Nat)(xs:List (List Rp)):Rp:=⟨λZ v=>O1 sz xs Z v∧(xs=[]→v = .slice none 0 0),λh ⟨a,b⟩=>⟨O1.mono h a,b⟩,true,λ_ Z v ⟨⟨A,cap,e,_⟩,_⟩=>by rw[e];rfl⟩
theorem Et.sn {sz:Nat}{xs:List (List Rp)}:Et (Np sz xs) (AJ sz xs):=λ_ _ h=>h.1
theorem Et.niln (sz:Nat):Et (rv (.slice none 0 0)) (Np sz []):=λZ v h=>by rw[show v=_ from h];exact⟨O1.nil sz Z,λ_=>rfl⟩
theorem Et.upn {T:Type}{sz:Nat}{enc:T→List Rp}{ys:List T}(h:decide (0<ys.length)=true):Et (AJ sz (List.map enc ys)) (Np sz (List.map enc ys)):=λZ v hv=>⟨hv,λe=>by
 have:=XH h;rw[List.map_eq_nil_iff.1 e] at this;exact absurd this (by simp)⟩
section
variable {P : Program} {n : Nat} {c : Cx} {l : Fr} {H : List Ent} {d : Option Nat} {ty rty t e : TypeId} {pos : String} {af : Array Edge} {g : Option (Nat × Bool)} {x : Operand} {sz : Nat}
theorem Qh {T:Type}{enc:T→List Rp}{ys:List T}(ht:P.underlying t=some (.slice e))(h:ev l x=some (Np sz (List.map enc ys))):B2 P n c l H { dst:=d,op:=.binOp .eql t x (.const (.slice none 0 0)) rty,type:=ty,pos:=pos,after:=af,guard:=g } (rB (List.isEmpty ys)):=λa w Z ha hw=>by
 obtain⟨⟨A,cap,e1,h1,h2,h3,h4⟩,h5⟩:=ha.ev h;have e2:a.eval (.const (.slice none 0 0)) = .slice none 0 0:=rfl;refine⟨.bool A.isNone,?_,?_⟩
 ·show Value.bool A.isNone = .bool ys.isEmpty
  cases ys with
  | nil=>
   have:=h5 rfl;rw[e1] at this
   cases this;rfl
  | cons y r=>
   cases A with
   | some a=>rfl
   | none=>
    have:=h3 rfl;simp only[XA,X3] at h1;omega
 ·have:=run_equal_slice_nil (P:=P) w t e A (List.map enc ys).length cap ht;simp only[XA] at this;simp[execOp,e1,e2,binOp,this,eqGuard]
end
set_option linter.unusedSimpArgs false
set_option maxRecDepth 100000
set_option maxHeartbeats 4000000
theorem W8:∃inf,Tryz.prog.info? 9=some inf∧inf.zero=some (.string ⟨#[]⟩)∧inf.size=1∧inf.bytes=16:=by
  have key:(Tryz.prog.info? 9).map (λi=>(i.zero,i.size,i.bytes))=some (some (.string ⟨#[]⟩),1,16):=by kernel_rfl
  obtain⟨inf,h1,h2⟩:=Option.map_eq_some_iff.1 key;simp only[Prod.mk.injEq] at h2;exact⟨inf,h1,h2.1,h2.2.1,h2.2.2⟩
theorem QD (ha:Nat)(hb:Nat)(k:Aw)(x:(List Aa))(key:Aw)(out:(List Aa))(r:Bool×(List Aa))(h:QE k x key out=some r):Fn Tryz.prog GE 140 [rS k,AJ 4 (A2 Ab x),rP ha 0,rP hb 0] [.blk ha [rS key] 9,.blk hb [Np 4 (A2 Ab out)] 28] (λR H=>R=rB r.1∧H=[.blk ha [rS key] 9,.blk hb [Np 4 (A2 Ab r.2)] 28]):=by
 refine enter (n:=15) Tryz.func140 rfl Tryz.ntmps140 rfl (λw Z=>?_);unfold QE at h;refine Af (wa rfl (Am (An (Af (wm rfl (vL 0 CG rfl (wv (DT rfl rfl) (Am (cz h rfl (λc1 h2=>?_) (λc1 h8=>?_))))))))))
 ·refine Aj (wm rfl (ob h2 λr3 e5 h4=>BL Tryz.call92 (MG x r3 e5) rfl (ck h4 λg6 h7=>WL.up (d:=11) (r:=Np 4 (A2 Ab r3)) rfl (Up.le (Et.upn g6)) (BF (i:=1) Co rfl rfl (BQ rfl) rfl rfl (cs':=[Np 4 (A2 Ab r3)]) rfl (H':=[.blk ha [rS key] 9,.blk hb [Np 4 (A2 Ab r3)] 28]) rfl (Bb (wm rfl (vL 0 CG rfl (wv (EH rfl rfl) (wa rfl (Am (Aq ?_)))))))))));obtain rfl:=Ao h7;exact Ap (Bs Tryz.results140 (A5 rfl)) (sC (sC sN)) ⟨rfl,rfl⟩
 ·refine At (AD (Af (wm rfl (vL 0 CG rfl (wv (EH rfl rfl) (wa rfl (Am (Aq ?_))))))));obtain rfl:=Ao h8;exact Ap (Bs Tryz.results140 (A5 rfl)) (sC (sC sN)) ⟨rfl,rfl⟩
theorem Ul (F:Nat)(hb:Nat)(he:Nat)(v:(List Aa))(key:Aw)(out:(List Aa))(r:(List Aa))(h:SP F v key out=some r):Fn Tryz.prog GE 90 [AJ 4 (A2 Ab v),rv (.func (.func 140) #[] #[(.pointer (some ⟨hb,0,none⟩)),(.pointer (some ⟨he,0,none⟩))])] [.blk hb [rS key] 9,.blk he [Np 4 (A2 Ab out)] 28] (λR H=>R=rv (.tuple #[])∧H=[.blk hb [rS key] 9,.blk he [Np 4 (A2 Ab r)] 28]):=by
 refine enter (n:=52) Tryz.func90 rfl Tryz.ntmps90 rfl (λw Z=>?_);unfold SP at h;refine Af (wa rfl (Bb (wm rfl (ck h λg1 h2=>wv (AU (enc:=Ab) (ys:=v) Bv BC rfl rfl g1) (wv (AR Bm rfl B3 rfl rfl) (wv (AM BG rfl rfl) (wv (r:=Al 0) (A3 rfl) (Am (A6 (ob h2 λhw hx hm=>Bd (S:=Nat×(Int×Int×(List Aa))×(Unit)) (V:=((List Aa))×(Unit)) 0 (λσ=>Cf (λσ=>JK F v key σ.1 σ.2.1 σ.2.2) σ.1 σ.2.1=some hw) (λσ=>[(0,AJ 4 (A2 Ab v)),(1,rv (.func (.func 140) #[] #[(.pointer (some ⟨hb,0,none⟩)),(.pointer (some ⟨he,0,none⟩))])),(4,Al σ.2.1.1),(12,Al ((Ax v 0).fN)),(13,Al σ.2.1.2.1)]) (λσ=>[.blk hb [rS key] 9,.blk he [Np 4 (A2 Ab σ.2.1.2.2)] 28]) (λσ=>σ.1) (F,(1,0,out),()) hx (Az.c5 rfl rfl rfl rfl rfl Az.nil) (sC (sC sN)) (λσ=>JJ σ.1=some r) (λσ=>[]) (λσ=>[.blk hb [rS key] 9,.blk he [Np 4 (A2 Ab σ.1)] 28]) ?_ ?_))))))))))
 ·rintro⟨gr,⟨ha,hj,hh⟩,⟨⟩⟩ hy;refine B7 (l':=[(0,AJ 4 (A2 Ab v)),(1,rv (.func (.func 140) #[] #[(.pointer (some ⟨hb,0,none⟩)),(.pointer (some ⟨he,0,none⟩))])),(4,Al ha),(12,Al ((Ax v 0).fN)),(13,Al hj)]) (H':=[.blk hb [rS key] 9,.blk he [Np 4 (A2 Ab hh)] 28]) rfl rfl ?_;obtain⟨hp,rfl,hz,hk,hi⟩:=Ca hy;replace hk:JK F v key ha hj hh=some hz:=hk;unfold JK at hk;refine Af (wv (Cl rfl rfl) (Am (An (cz hk rfl (λh0 h1=>?_) (λh0 h3=>?_)))))
  ·refine At (AD (An (A6 (Af (wv (r:=rS ([]:Aw)) (AG rfl) (Am (An (Af (wm rfl (wv (AU (enc:=Ab) (ys:=v) Bv BC rfl rfl g1) (wv (AR Bm rfl CF rfl rfl) (wv (AM CR rfl rfl) (wv (AX rfl rfl) (Am (cz h1 rfl (λh4 h5=>?_) (λh4 h6=>?_))))))))))))))))
   ·refine Af (wm rfl (wm rfl (ck h5 λh7 h8=>wv (AU (enc:=Ab) (ys:=v) Bv BC rfl rfl h7) (wv (AR Bm rfl C6 rfl rfl) (wv (AM CG rfl rfl) (wa rfl (Am (Aj (wm rfl (ck h8 λh9 hA=>wv (Be rfl rfl h9) (wa rfl (Bb (wm rfl (wm rfl (ck hA λhB hC=>wv (r:=AJ 4 (A2 Ab (List.drop (B0 (ha+1)) v))) (Eg Bv BC rfl rfl hB) (ob hC λhf hD hE=>BL PO (HL F (List.drop (B0 (ha+1)) v) hf hD) rfl (wm rfl (wv (AC rfl rfl) (wv (AC rfl rfl) ?_)))))))))))))))))));refine wv (AC rfl rfl) (Cm (cs:=[Al 0,Al 0,rB false,rB false]) N8 rfl rfl (λhq=>?_));refine wa rfl (Bh (i:=0) Gz rfl rfl rfl (BU.c rfl) rfl rfl (cs':=[Al hf.2.1.fDepth,Al hf.2.1.fBytes,rB hf.2.1.fOutside,rB hf.2.1.fLong]) rfl (H':=[.blk hq (AN hf.2.1) 86,.blk hb [rS key] 9,.blk he [Np 4 (A2 Ab hh)] 28]) rfl (wa rfl (Am (An (Af (wm rfl (wm rfl (wm rfl (wm rfl (wm rfl (wm rfl (ck hE λhn hG=>wv (Be rfl rfl hn) (wm rfl (wm rfl (wv (Be rfl rfl hn) (ck hG λhH hI=>ck hI λhJ hK=>wv (r:=AJ 4 (A2 Ab (List.take (B0 ((ha+1)+hf.1)-B0 (ha+1)) (List.drop (B0 (ha+1)) v)))) (E6 Bv BC rfl rfl rfl rfl hH hJ) (ob hK λhr hL hN=>CX (rs:=[rS ((Ax v ha).fStr),AJ 4 (A2 Ab (List.take (B0 ((ha+1)+hf.1)-B0 (ha+1)) (List.drop (B0 (ha+1)) v)))]) (Hin:=[.blk hb [rS key] 9,.blk he [Np 4 (A2 Ab hh)] 28]) (Hr:=[.blk hq (AN hf.2.1) 86]) Tryz.call140 rfl rfl ((A1 (i:=1) rfl).trans (Xx _ ((A1 (i:=1) rfl).trans (Xx _ (Xv _))))) (QD hb he ((Ax v ha).fStr) (List.take (B0 ((ha+1)+hf.1)-B0 (ha+1)) (List.drop (B0 (ha+1)) v)) key hh hr hL) rfl ?_)))))))))))))))));rintro _ _ ⟨rfl,rfl⟩;refine wv (Bu rfl) (Am (cz hN rfl (λhO hP=>?_) (λhO hQ=>?_)))
    ·refine Aq (Ac (Au (Ac (Ac (AP ?_)))));have hR:=Bg hP hi hm;refine Au ?_;obtain rfl:=Ao hR;exact Ap (NP NA) (sC (sC (sS sN))) ⟨rfl,rfl⟩
    ·refine At (AD (Aj (wm rfl (wm rfl (wv (Be rfl rfl hn) (wa rfl (Ai (A4 (AD (Aj (ck hQ λhS hT=>wv (Be rfl rfl hS) (wm rfl (Ai ?_)))))))))))));have hU:=AW hT hi;exact As (Ar (hp,((ha+1)+hf.1,hj+1,hr.2),()) ⟨hU,X0 _⟩ (Az.c5 rfl rfl rfl rfl rfl Az.nil) (sC (sC (sS sN))))
   ·refine At (AD (Af (wm rfl (wm rfl (ck h6 λhV hW=>wv (r:=AJ 4 (A2 Ab (List.drop (B0 ha) v))) (Eg Bv BC rfl rfl hV) (ob hW λhg hX hY=>BL PO (HL F (List.drop (B0 ha) v) hg hX) rfl (wm rfl (wv (AC rfl rfl) (wv (AC rfl rfl) (wv (AC rfl rfl) (Cm (cs:=[Al 0,Al 0,rB false,rB false]) N8 rfl rfl (λhs=>?_))))))))))));refine wa rfl (Bh (i:=0) Gz rfl rfl rfl (BU.c rfl) rfl rfl (cs':=[Al hg.2.1.fDepth,Al hg.2.1.fBytes,rB hg.2.1.fOutside,rB hg.2.1.fLong]) rfl (H':=[.blk hs (AN hg.2.1) 86,.blk hb [rS key] 9,.blk he [Np 4 (A2 Ab hh)] 28]) rfl (wa rfl (Am (An (Af (wm rfl (wm rfl (wm rfl (wm rfl (wm rfl (wm rfl (ck hY λho hZ=>wv (Be rfl rfl ho) (wm rfl (wm rfl (wv (Be rfl rfl ho) (ck hZ λga gb=>ck gb λgc gd=>wv (r:=AJ 4 (A2 Ab (List.take (B0 (ha+hg.1)-B0 ha) (List.drop (B0 ha) v)))) (E6 Bv BC rfl rfl rfl rfl ga gc) (ob gd λht ge gf=>CX (rs:=[rS ([]:Aw),AJ 4 (A2 Ab (List.take (B0 (ha+hg.1)-B0 ha) (List.drop (B0 ha) v)))]) (Hin:=[.blk hb [rS key] 9,.blk he [Np 4 (A2 Ab hh)] 28]) (Hr:=[.blk hs (AN hg.2.1) 86]) Tryz.call140 rfl rfl ((A1 (i:=1) rfl).trans (Xx _ ((A1 (i:=1) rfl).trans (Xx _ (Xv _))))) (QD hb he ([]:Aw) (List.take (B0 (ha+hg.1)-B0 ha) (List.drop (B0 ha) v)) key hh ht ge) rfl ?_)))))))))))))))));rintro _ _ ⟨rfl,rfl⟩;refine wv (Bu rfl) (Am (cz gf rfl (λgg gh=>?_) (λgg gi=>?_)))
    ·refine Aq (Ac (Au (Ac (Ac (AP ?_)))));have gj:=Bg gh hi hm;refine Au ?_;obtain rfl:=Ao gj;exact Ap (NP NA) (sC (sC (sS sN))) ⟨rfl,rfl⟩
    ·refine At (AD (Aj (wm rfl (wm rfl (wv (Be rfl rfl ho) (wa rfl (Ai (A4 (AD (Aj (ck gi λgl gm=>wv (Be rfl rfl gl) (wm rfl (Ai ?_)))))))))))));have gp:=AW gm hi;exact As (Ar (hp,(ha+hg.1,hj+1,ht.2),()) ⟨gp,X0 _⟩ (Az.c5 rfl rfl rfl rfl rfl Az.nil) (sC (sC (sS sN))))
  ·refine Bl (Ay ?_);have gq:=BB h3 hi hm;exact Ay (AS (Ar (hh,()) gq Az.nil (sC (sC sN))))
 ·rintro⟨hu,⟨⟩⟩ hl;refine Ce (l':=[]) (H':=[.blk hb [rS key] 9,.blk he [Np 4 (A2 Ab hu)] 28]) rfl rfl ?_;replace hl:JJ hu=some r:=hl;unfold JJ at hl;refine AV ?_;obtain rfl:=Ao hl;exact E5 (NP NA) (sC (sC sN)) ⟨rfl,rfl⟩
theorem Vw (F:Nat)(v:(List Aa))(key:Aw)(r:(List Aa)×Int)(h:Vx F v key=some r):Fn Tryz.prog GE 107 [AJ 4 (A2 Ab v),rS key] [] (λR H=>R=Dx [AJ 4 (A2 Ab r.1),Al r.2]∧H=[]):=by
 refine enter (n:=24) Tryz.func107 rfl Tryz.ntmps107 rfl (λw Z=>?_);unfold Vx at h;refine Af (Lb rfl (BQ rfl) rfl (λb1=>?_));refine wa rfl (wa rfl (Am (An (Af (wm rfl (ob h λr2 e4 h3=>BL MR (DR F v r2 e4) rfl (wa rfl (Bb (wm rfl (wv (Bo rfl rfl) (Am (cz h3 rfl (λc5 h6=>?_) (λc5 h7=>?_)))))))))))))
 ·refine Af (wm rfl (wa rfl (wa rfl (Am (Aq (Ac (WK.up (d:=4) (r:=AJ 4 (A2 Ab ([]:List Aa))) rfl (Up.le (Et.nil _)) ?_)))))));obtain rfl:=Ao h6;exact Ap (Eb Q8 (A5 rfl) (A5 rfl)) (sS sN) ⟨rfl,rfl⟩
 ·refine At (AD (An (Af (wm rfl (ck h7 λg8 h9=>wv (AU (enc:=Ab) (ys:=v) Bv BC rfl rfl g8) (wv (AR Bm rfl CF rfl rfl) (wv (AM CR rfl rfl) (wv (Bo rfl rfl) (Am (cz h9 rfl (λhe hf=>?_) (λhe hg=>?_)))))))))))
  ·refine Af (wa rfl (wa rfl (Am (Aq (Ac (WK.up (d:=4) (r:=AJ 4 (A2 Ab ([]:List Aa))) rfl (Up.le (Et.nil _)) ?_))))));obtain rfl:=Ao hf;exact Ap (Eb Q8 (A5 rfl) (A5 rfl)) (sS sN) ⟨rfl,rfl⟩
  ·refine At (AD (Af (Cm (cs:=[rv (.slice none 0 0)]) N9 rfl rfl (λhb=>?_))));refine Bb (wm rfl (wv (r:=rv (.func (.func 140) #[] #[(.pointer (some ⟨b1,0,none⟩)),(.pointer (some ⟨hb,0,none⟩))])) (Cb rfl) (WL.upBlk (i:=0) (cs':=[Np 4 (A2 Ab ([]:List Aa))]) rfl ⟨Up.le (Et.niln _),trivial⟩ (ob hg λha hh hi=>DP (Hr:=[]) Tryz.call90 (Ul F b1 hb v key ([]:List Aa) ha hh) rfl ((A1 (i:=1) rfl).trans (Xx _ (Xv _))) rfl ?_))));rintro _ _ ⟨rfl,rfl⟩;refine Am (An (Af (vL 1 CS rfl (wv (r:=rB (List.isEmpty ha)) (Qh Bv rfl) (Am (cz hi rfl (λhj hk=>?_) (λhj hl=>?_)))))))
   ·refine Af (wa rfl (wa rfl (Am (Aq (Ac (WK.up (d:=4) (r:=AJ 4 (A2 Ab ([]:List Aa))) rfl (Up.le (Et.nil _)) ?_))))));obtain rfl:=Ao hk;exact Ap (Eb Q8 (A5 rfl) (A5 rfl)) (sS (sS sN)) ⟨rfl,rfl⟩
   ·refine At (AD (Af (vL 1 CS rfl (wa rfl (wa rfl (Am (Aq (WK.up (d:=4) (r:=AJ 4 (A2 Ab ha)) rfl (Up.le Et.sn) ?_))))))));obtain rfl:=Ao hl;exact Ap (Eb Q8 (A5 rfl) (A5 rfl)) (sS (sS sN)) ⟨rfl,rfl⟩
theorem Uj (F:Nat)(v:(List Aa))(path:(List Aw))(r:(List Aa)×Int)(h:SN F v path=some r):Fn Tryz.prog GE 77 [AJ 4 (A2 Ab v),AJ 1 (A2 eS path)] [] (λR H=>R=Dx [AJ 4 (A2 Ab r.1),Al r.2]∧H=[]):=by
 refine enter (n:=37) Tryz.func77 rfl Tryz.ntmps77 rfl (λw Z=>?_);unfold SN at h;refine Af (wa rfl (wa rfl (Am (An (Af (wm rfl (ob h λr1 e3 h2=>BL MR (DR F v r1 e3) rfl (wa rfl (Bb (wm rfl (wv (Bo rfl rfl) (Am (cz h2 rfl (λc4 h5=>?_) (λc4 h6=>?_))))))))))))))
 ·refine Af (wm rfl (wa rfl (wa rfl (Am (Aq (Ac (WK.up (d:=4) (r:=AJ 4 (A2 Ab ([]:List Aa))) rfl (Up.le (Et.nil _)) ?_)))))));obtain rfl:=Ao h5;exact Ap (Eb Tryz.results77 (A5 rfl) (A5 rfl)) sN ⟨rfl,rfl⟩
 ·refine At (AD (Af (wm rfl (ob h6 λr7 e9 h8=>BL Tryz.call92 (MG v r7 e9) rfl (wa rfl (Am (An (Af (wm rfl (wv (AK (ys:=path) (enc:=eS) Dc rfl) (wv (r:=Al 0) (A3 rfl) (Am (A6 (ob h8 λhk hl hh=>Bd (S:=Nat×((List Aa)×Int)×(Unit)) (V:=((List Aa))×(Unit)) 0 (λσ=>Cf (λσ=>JE F path σ.1 σ.2) σ.1 σ.2.1=some hk) (λσ=>[(4,rv (.slice none 0 0)),(5,Al 0),(7,AJ 4 (A2 Ab σ.2.1.1)),(19,AJ 1 (A2 eS path)),(20,Al (path.length:Int)),(21,Al σ.2.1.2)]) (λσ=>[]) (λσ=>σ.1) (F,(r7,0),()) hl (Az.c rfl (Az.c5 rfl rfl rfl rfl rfl Az.nil)) sN (λσ=>JD σ.1=some r) (λσ=>[(4,rv (.slice none 0 0)),(5,Al 0),(7,AJ 4 (A2 Ab σ.1))]) (λσ=>[]) ?_ ?_))))))))))))))
  ·rintro⟨h9,⟨ha,hb⟩,⟨⟩⟩ hm;refine B7 (l':=[(4,rv (.slice none 0 0)),(5,Al 0),(7,AJ 4 (A2 Ab ha)),(19,AJ 1 (A2 eS path)),(20,Al (path.length:Int)),(21,Al hb)]) (H':=[]) rfl rfl ?_;obtain⟨hn,rfl,ho,he,hg⟩:=Ca hm;replace he:JE F path ha hb=some ho:=he;unfold JE at he;refine Af (wv (Cl rfl rfl) (Am (An (cz he rfl (λhp hq=>?_) (λhp hr=>?_)))))
   ·refine At (AD (An (A6 (Af (ck hq λhs ht=>wv (AU (enc:=eS) (ys:=path) Dc C6 rfl rfl hs) (wv (AM CG rfl rfl) (wa rfl (Bb (wm rfl (wm rfl (ob ht λhi hu hw=>BL Tryz.call107 (Vw F ha (Ax path hb) hi hu) rfl (wm rfl (wv (AC rfl rfl) (wv (AC rfl rfl) (wa rfl (wa rfl (Am (An (Af (wm rfl (wv (Bo rfl rfl) ?_)))))))))))))))))))));refine Am (cz hw rfl (λhx hy=>?_) (λhx hz=>?_))
    ·refine Af (wm rfl (wa rfl (wa rfl (Am (Aq (Ac (Au (Ac (Ac (AP ?_))))))))));have h0:=Bg hy hg hh;refine Au (Ac (WK.up (d:=4) (r:=AJ 4 (A2 Ab ([]:List Aa))) rfl (Up.le (Et.nil _)) ?_));obtain rfl:=Ao h0;exact Ap (Eb Tryz.results77 (A5 rfl) (A5 rfl)) sN ⟨rfl,rfl⟩
    ·refine At (AD (Aj (wm rfl (wa rfl (Ai (A4 (AD (Aj (ck hz λh1 h3=>wv (Be rfl rfl h1) (wm rfl (Ai ?_)))))))))));have h4:=AW h3 hg;exact As (Ar (hn,(hi.1,hb+1),()) ⟨h4,X0 _⟩ (Az.c rfl (Az.c5 rfl rfl rfl rfl rfl Az.nil)) sN)
   ·refine Bl (Ay ?_);have h7:=BB hr hg hh;exact Ay (AS (Ar (ha,()) h7 (Az.c rfl (Az.c rfl (Az.c rfl Az.nil))) sN))
  ·rintro⟨hj,⟨⟩⟩ hf;refine Ce (l':=[(4,rv (.slice none 0 0)),(5,Al 0),(7,AJ 4 (A2 Ab hj))]) (H':=[]) rfl rfl ?_;replace hf:JD hj=some r:=hf;unfold JD at hf;refine AV (AD (Af (wm rfl (wa rfl (wa rfl (Am (Aq ?_)))))));obtain rfl:=Ao hf;exact Ap (Eb Tryz.results77 (A5 rfl) (A5 rfl)) sN ⟨rfl,rfl⟩
end Go.Proofs.YtghdglcmblpbeaaGreatDoor.Q
namespace Go.Proofs.YtghdglcmblpbeaaGreatDoor
open Go
set_option linter.unusedVariables false
structure Ah where
 fPath:(List Aw)
 fOp:Int
 fValues:(List (List Aa))
 fText:Aw
 fLow:Int
 fHigh:Int
 deriving DecidableEq,Inhabited
structure Wo where
 fID:Aw
 fTenant:Aw
 fSource:Aw
 fKey:Aw
 fAt:Int
 fCause:Aw
 fBody:(List Aa)
 deriving DecidableEq,Inhabited
def G4 (ys:(List Aw))(x:Aw)(ha:Int):Option (Stp (Int) (Out (Int) (Unit))):=
 AO (decide (ha<(ys.length:Int))) (AY (C3 ha (ys.length:Int))<|AO (decide (x=(Ax ys ha))) (some (.out (.ret ha))) (AY (BN .i64 (ha+1))<|some (.next (ha+1)))) (some (.out (.go ())))
def G3 :Option (Int):=
 some (-1)
def Md (F:Nat)(ys:(List Aw))(x:Aw):Option (Int):=
 Bf (Cf (λσ=>G4 ys x σ) F 0) (BS λν=>G3 )
def Dd (a:(List Aw))(b:(List Aw))(ha:Int):Option (Stp (Int) (Out (Bool) (Unit))):=
 AO (decide (ha<(a.length:Int))) (AY (C3 ha (a.length:Int))<|AY (C3 ha (b.length:Int))<|AO (!decide ((Ax a ha)=(Ax b ha))) (some (.out (.ret false))) (AY (BN .i64 (ha+1))<|some (.next (ha+1)))) (some (.out (.go ())))
def EG :Option (Bool):=
 some true
def Eu (F:Nat)(a:(List Aw))(b:(List Aw)):Option (Bool):=
 AO (!decide ((a.length:Int)=(b.length:Int))) (some false) (Bf (Cf (λσ=>Dd a b σ) F 0) (BS λν=>EG ))
def Of :Option ((List Aw)):=
 some ([([]:Aw),([101,120,105,115,116,115]:Aw),([109,105,115,115,105,110,103]:Aw),([101,113,117,97,108,115]:Aw),([111,116,104,101,114]:Aw),([112,114,101,102,105,120]:Aw),([114,97,110,103,101]:Aw)]:List Aw)
def EW (op:Int):Option (Bool):=
 some ((decide (op=3))||(decide (op=4)))
def Cy (ha:Bool):Option (Int):=
 AO (ha) (some 1) (some 0)
def E7 (F:Nat)(f:Ah)(ha:Int):Option (Stp (Int) (Out (Int) (Unit))):=
 AO (decide (ha<(f.fValues.length:Int))) (AY (C3 ha (f.fValues.length:Int))<|Bf (Dt F (Ax f.fValues ha)) λhb=>AO (!decide (hb=0)) (some (.out (.ret hb))) (AY (BN .i64 (ha+1))<|some (.next (ha+1)))) (some (.out (.go ())))
def H4 (f:Ah):Option (Int):=
 Bf (EW f.fOp) λha=>AO (!ha) (AO (decide (0<(f.fValues.length:Int))) (Cy true) (AO (!decide (f.fOp=5)) (AO (!decide (f.fText=([]:Aw))) (Cy true) (AO (!decide (f.fOp=6)) (AO (!decide (f.fLow=0)) (Cy true) (Cy (!decide (f.fHigh=0)))) (Cy false))) (AO (!decide (f.fOp=6)) (AO (!decide (f.fLow=0)) (Cy true) (Cy (!decide (f.fHigh=0)))) (Cy false)))) (AO (!decide (f.fOp=5)) (AO (!decide (f.fText=([]:Aw))) (Cy true) (AO (!decide (f.fOp=6)) (AO (!decide (f.fLow=0)) (Cy true) (Cy (!decide (f.fHigh=0)))) (Cy false))) (AO (!decide (f.fOp=6)) (AO (!decide (f.fLow=0)) (Cy true) (Cy (!decide (f.fHigh=0)))) (Cy false)))
def Cw (ha:Bool):Option (Int):=
 AO (ha) (some 1) (some 0)
def H6 (F:Nat)(f:Ah)(ha:Int):Option (Stp (Int) (Out (Int) (Unit))):=
 AO (decide (ha<(f.fValues.length:Int))) (AY (C3 ha (f.fValues.length:Int))<|Bf (Dt F (Ax f.fValues ha)) λhb=>AO (!decide (hb=0)) (some (.out (.ret hb))) (AY (BN .i64 (ha+1))<|some (.next (ha+1)))) (some (.out (.go ())))
def H3 (f:Ah):Option (Int):=
 Bf (EW f.fOp) λha=>AO (!ha) (AO (decide (0<(f.fValues.length:Int))) (Cw true) (AO (!decide (f.fOp=5)) (AO (!decide (f.fText=([]:Aw))) (Cw true) (AO (!decide (f.fOp=6)) (AO (!decide (f.fLow=0)) (Cw true) (Cw (!decide (f.fHigh=0)))) (Cw false))) (AO (!decide (f.fOp=6)) (AO (!decide (f.fLow=0)) (Cw true) (Cw (!decide (f.fHigh=0)))) (Cw false)))) (AO (!decide (f.fOp=5)) (AO (!decide (f.fText=([]:Aw))) (Cw true) (AO (!decide (f.fOp=6)) (AO (!decide (f.fLow=0)) (Cw true) (Cw (!decide (f.fHigh=0)))) (Cw false))) (AO (!decide (f.fOp=6)) (AO (!decide (f.fLow=0)) (Cw true) (Cw (!decide (f.fHigh=0)))) (Cw false)))
def Cv (ha:Bool):Option (Int):=
 AO (ha) (some 1) (some 0)
def Cu (ha:Bool):Option (Int):=
 AO (ha) (some 1) (some 0)
def Ct (ha:Bool):Option (Int):=
 AO (ha) (some 1) (some 0)
def E8 (F:Nat)(f:Ah)(ha:Int):Option (Stp (Int) (Out (Int) (Unit))):=
 AO (decide (ha<(f.fPath.length:Int))) (AY (C3 ha (f.fPath.length:Int))<|Bf (NI F (Ax f.fPath ha)) λhb=>AO (!decide (hb.2=0)) (some (.out (.ret hb.2))) (AY (BN .i64 (ha+1))<|some (.next (ha+1)))) (some (.out (.go ())))
def H5 (F:Nat)(f:Ah):Option (Int):=
 AO (((decide (f.fOp<1))||(decide (6<f.fOp)))) (some 7) (AO (decide (f.fOp=3)) (AO (((decide ((f.fValues.length:Int)<1))||(decide (8<(f.fValues.length:Int))))) (some 3) (Bf (Cf (λσ=>E7 F f σ) F 0) (BS λν=>H4 f ))) (AO (decide (f.fOp=4)) (AO (((decide ((f.fValues.length:Int)<1))||(decide (8<(f.fValues.length:Int))))) (some 3) (Bf (Cf (λσ=>H6 F f σ) F 0) (BS λν=>H3 f ))) (AO (decide (f.fOp=5)) (Bf (NI F f.fText) λha=>AO (!decide (ha.2=0)) (some ha.2) (Bf (EW f.fOp) λhb=>AO (!hb) (AO (decide (0<(f.fValues.length:Int))) (Cv true) (AO (!decide (f.fOp=5)) (AO (!decide (f.fText=([]:Aw))) (Cv true) (AO (!decide (f.fOp=6)) (AO (!decide (f.fLow=0)) (Cv true) (Cv (!decide (f.fHigh=0)))) (Cv false))) (AO (!decide (f.fOp=6)) (AO (!decide (f.fLow=0)) (Cv true) (Cv (!decide (f.fHigh=0)))) (Cv false)))) (AO (!decide (f.fOp=5)) (AO (!decide (f.fText=([]:Aw))) (Cv true) (AO (!decide (f.fOp=6)) (AO (!decide (f.fLow=0)) (Cv true) (Cv (!decide (f.fHigh=0)))) (Cv false))) (AO (!decide (f.fOp=6)) (AO (!decide (f.fLow=0)) (Cv true) (Cv (!decide (f.fHigh=0)))) (Cv false))))) (AO (decide (f.fOp=6)) (AY ((By f.fLow).isSome)<|AY (imp (!(!(ov (By f.fLow)))) ((By f.fHigh).isSome))<|AO (((!(ov (By f.fLow)))||((!(ov (By f.fHigh)))||(decide (f.fHigh<f.fLow))))) (some 2) (Bf (EW f.fOp) λhe=>AO (!he) (AO (decide (0<(f.fValues.length:Int))) (Cu true) (AO (!decide (f.fOp=5)) (AO (!decide (f.fText=([]:Aw))) (Cu true) (AO (!decide (f.fOp=6)) (AO (!decide (f.fLow=0)) (Cu true) (Cu (!decide (f.fHigh=0)))) (Cu false))) (AO (!decide (f.fOp=6)) (AO (!decide (f.fLow=0)) (Cu true) (Cu (!decide (f.fHigh=0)))) (Cu false)))) (AO (!decide (f.fOp=5)) (AO (!decide (f.fText=([]:Aw))) (Cu true) (AO (!decide (f.fOp=6)) (AO (!decide (f.fLow=0)) (Cu true) (Cu (!decide (f.fHigh=0)))) (Cu false))) (AO (!decide (f.fOp=6)) (AO (!decide (f.fLow=0)) (Cu true) (Cu (!decide (f.fHigh=0)))) (Cu false))))) (Bf (EW f.fOp) λhf=>AO (!hf) (AO (decide (0<(f.fValues.length:Int))) (Ct true) (AO (!decide (f.fOp=5)) (AO (!decide (f.fText=([]:Aw))) (Ct true) (AO (!decide (f.fOp=6)) (AO (!decide (f.fLow=0)) (Ct true) (Ct (!decide (f.fHigh=0)))) (Ct false))) (AO (!decide (f.fOp=6)) (AO (!decide (f.fLow=0)) (Ct true) (Ct (!decide (f.fHigh=0)))) (Ct false)))) (AO (!decide (f.fOp=5)) (AO (!decide (f.fText=([]:Aw))) (Ct true) (AO (!decide (f.fOp=6)) (AO (!decide (f.fLow=0)) (Ct true) (Ct (!decide (f.fHigh=0)))) (Ct false))) (AO (!decide (f.fOp=6)) (AO (!decide (f.fLow=0)) (Ct true) (Ct (!decide (f.fHigh=0)))) (Ct false))))))))
def BT (F:Nat)(f:Ah):Option (Int):=
 AO (decide (4<(f.fPath.length:Int))) (some 3) (Bf (Cf (λσ=>E8 F f σ) F 0) (BS λν=>H5 F f ))
def LF (F:Nat)(x:(List Aa))(v:(List Aa)):Option (Bool):=
 Bf (Ng F x v) λr1=>some r1
def IW (F:Nat)(ys:(List (List Aa)))(v:(List Aa))(ha:Int):Option (Stp (Int) (Out (Int) (Unit))):=
 AO (decide (ha<(ys.length:Int))) (AY (C3 ha (ys.length:Int))<|Bf (LF F (Ax ys ha) v) λhb=>AO (hb) (some (.out (.ret ha))) (AY (BN .i64 (ha+1))<|some (.next (ha+1)))) (some (.out (.go ())))
def LE :Option (Int):=
 some (-1)
def UC (F:Nat)(ys:(List (List Aa)))(v:(List Aa)):Option (Int):=
 Bf (Cf (λσ=>IW F ys v σ) F 0) (BS λν=>LE )
def TK (F:Nat)(ys:(List (List Aa)))(v:(List Aa)):Option (Bool):=
 Bf (UC F ys v) λr1=>some (decide (0≤r1))
def Id (F:Nat)(l:(List (List Aa)))(v:(List Aa)):Option (Bool):=
 Bf (TK F l v) λr2=>some r2
def Ic (v:(List Aa))(pre:Aw):Option (Bool):=
 AY (C3 0 (v.length:Int))<|AY (imp (decide (((Ax v 0).fKind)=4)) ((Dn ((Ax v 0).fStr) pre).isSome))<|some ((decide (((Ax v 0).fKind)=4))&&(ov (Dn ((Ax v 0).fStr) pre)))
def HZ (v:(List Aa))(low:Int)(high:Int):Option (Bool):=
 AY (C3 0 (v.length:Int))<|some ((decide (((Ax v 0).fKind)=3))&&((decide (low≤((Ax v 0).fInt)))&&(decide (((Ax v 0).fInt)≤high))))
def Ny (F:Nat)(f:Ah)(v:(List Aa)):Option (Bool):=
 Bf (SN F v f.fPath) λr2=>AO (!decide (r2.2=0)) (some (decide (f.fOp=2))) (AO (decide (f.fOp=1)) (some true) (AO (decide (f.fOp=3)) (Bf (Id F f.fValues r2.1) λha=>some (ha ==(decide (f.fOp=3)))) (AO (decide (f.fOp=4)) (Bf (Id F f.fValues r2.1) λhb=>some (hb ==(decide (f.fOp=3)))) (AO (decide (f.fOp=5)) (Bf (Ic r2.1 f.fText) λhe=>some he) (AO (decide (f.fOp=6)) (Bf (HZ r2.1 f.fLow f.fHigh) λhf=>some hf) (some false))))))
def T4 (F:Nat)(f:Ah)(v:(List Aa)):Option (Bool):=
 AY ((BT F f).isSome)<|AY (imp (decide ((ov (BT F f))=0)) ((Dt F v).isSome))<|AY (imp (decide ((ov (BT F f))=0)) (imp (decide ((ov (Dt F v))=0)) ((Ny F f v).isSome)))<|some ((decide ((ov (BT F f))=0))&&((decide ((ov (Dt F v))=0))&&(ov (Ny F f v))))
def Og (F:Nat)(f:Ah)(v:(List Aa)):Option (Bool):=
 Bf (T4 F f v) λr2=>some (!r2)
def Od (F:Nat)(ys:(List Ah))(v:(List Aa))(ha:Int):Option (Stp (Int) (Out (Int) (Unit))):=
 AO (decide (ha<(ys.length:Int))) (AY (C3 ha (ys.length:Int))<|Bf (Og F (Ax ys ha) v) λhb=>AO (hb) (some (.out (.ret ha))) (AY (BN .i64 (ha+1))<|some (.next (ha+1)))) (some (.out (.go ())))
def Oc :Option (Int):=
 some (-1)
def Xd (F:Nat)(ys:(List Ah))(v:(List Aa)):Option (Int):=
 Bf (Cf (λσ=>Od F ys v σ) F 0) (BS λν=>Oc )
def Xe (F:Nat)(ys:(List Ah))(v:(List Aa)):Option (Bool):=
 Bf (Xd F ys v) λr1=>some (decide (0≤r1))
def Gf (ha:Bool):Option (Bool):=
 some ha
def Qs (F:Nat)(l:(List Ah))(v:(List Aa)):Option (Bool):=
 AO (decide ((l.length:Int)≤32)) (Bf (Dt F v) λha=>AO (decide (ha=0)) (Bf (Xe F l v) λhb=>Gf (!hb)) (Gf false)) (Gf false)
def UQ (F:Nat)(v:(List Aa))(a:Ah):Option (Bool):=
 Bf (Id F a.fValues v) λr1=>some (!r1)
def Hu (F:Nat)(ys:(List (List Aa)))(a:Ah)(ha:Int):Option (Stp (Int) (Out (Int) (Unit))):=
 AO (decide (ha<(ys.length:Int))) (AY (C3 ha (ys.length:Int))<|Bf (UQ F (Ax ys ha) a) λhb=>AO (hb) (some (.out (.ret ha))) (AY (BN .i64 (ha+1))<|some (.next (ha+1)))) (some (.out (.go ())))
def Kh :Option (Int):=
 some (-1)
def QW (F:Nat)(ys:(List (List Aa)))(a:Ah):Option (Int):=
 Bf (Cf (λσ=>Hu F ys a σ) F 0) (BS λν=>Kh )
def PB (F:Nat)(ys:(List (List Aa)))(a:Ah):Option (Bool):=
 Bf (QW F ys a) λr1=>some (decide (0≤r1))
def M1 (F:Nat)(f:Ah)(a:Ah):Option (Bool):=
 Bf (PB F f.fValues a) λr2=>some (!r2)
def UP (F:Nat)(v:(List Aa))(b:Ah):Option (Bool):=
 Bf (Id F b.fValues v) λr1=>some r1
def Ht (F:Nat)(ys:(List (List Aa)))(b:Ah)(ha:Int):Option (Stp (Int) (Out (Int) (Unit))):=
 AO (decide (ha<(ys.length:Int))) (AY (C3 ha (ys.length:Int))<|Bf (UP F (Ax ys ha) b) λhb=>AO (hb) (some (.out (.ret ha))) (AY (BN .i64 (ha+1))<|some (.next (ha+1)))) (some (.out (.go ())))
def Kg :Option (Int):=
 some (-1)
def QV (F:Nat)(ys:(List (List Aa)))(b:Ah):Option (Int):=
 Bf (Cf (λσ=>Ht F ys b σ) F 0) (BS λν=>Kg )
def PA (F:Nat)(ys:(List (List Aa)))(b:Ah):Option (Bool):=
 Bf (QV F ys b) λr1=>some (decide (0≤r1))
def M0 (F:Nat)(f:Ah)(b:Ah):Option (Bool):=
 Bf (PA F f.fValues b) λr2=>some (!r2)
def UO (v:(List Aa))(a:Ah):Option (Bool):=
 Bf (Ic v a.fText) λr1=>some r1
def Hq (ys:(List (List Aa)))(a:Ah)(ha:Int):Option (Stp (Int) (Out (Int) (Unit))):=
 AO (decide (ha<(ys.length:Int))) (AY (C3 ha (ys.length:Int))<|Bf (UO (Ax ys ha) a) λhb=>AO (hb) (some (.out (.ret ha))) (AY (BN .i64 (ha+1))<|some (.next (ha+1)))) (some (.out (.go ())))
def Kf :Option (Int):=
 some (-1)
def QU (F:Nat)(ys:(List (List Aa)))(a:Ah):Option (Int):=
 Bf (Cf (λσ=>Hq ys a σ) F 0) (BS λν=>Kf )
def P9 (F:Nat)(ys:(List (List Aa)))(a:Ah):Option (Bool):=
 Bf (QU F ys a) λr1=>some (decide (0≤r1))
def Mz (F:Nat)(f:Ah)(a:Ah):Option (Bool):=
 Bf (P9 F f.fValues a) λr2=>some (!r2)
def UN (v:(List Aa))(a:Ah):Option (Bool):=
 Bf (HZ v a.fLow a.fHigh) λr1=>some r1
def Hp (ys:(List (List Aa)))(a:Ah)(ha:Int):Option (Stp (Int) (Out (Int) (Unit))):=
 AO (decide (ha<(ys.length:Int))) (AY (C3 ha (ys.length:Int))<|Bf (UN (Ax ys ha) a) λhb=>AO (hb) (some (.out (.ret ha))) (AY (BN .i64 (ha+1))<|some (.next (ha+1)))) (some (.out (.go ())))
def Ke :Option (Int):=
 some (-1)
def QT (F:Nat)(ys:(List (List Aa)))(a:Ah):Option (Int):=
 Bf (Cf (λσ=>Hp ys a σ) F 0) (BS λν=>Ke )
def P8 (F:Nat)(ys:(List (List Aa)))(a:Ah):Option (Bool):=
 Bf (QT F ys a) λr1=>some (decide (0≤r1))
def My (F:Nat)(f:Ah)(a:Ah):Option (Bool):=
 Bf (P8 F f.fValues a) λr2=>some (!r2)
def IZ (F:Nat)(a:Ah)(b:Ah):Option (Bool):=
 AO (decide (a.fOp=4)) (Bf (M1 F b a) λr5=>some r5) (AO (decide (a.fOp=3)) (Bf (M0 F a b) λha=>some ha) (AO (decide (a.fOp=5)) (Bf (Mz F b a) λhb=>some hb) (AO (decide (a.fOp=6)) (Bf (My F b a) λhe=>some he) (some false))))
def UM (F:Nat)(v:(List Aa))(b:Ah):Option (Bool):=
 Bf (Id F b.fValues v) λr1=>some r1
def UU (F:Nat)(v:(List Aa))(b:Ah):Option (Bool):=
 Bf (UM F v b) λr1=>some (!r1)
def Hx (F:Nat)(ys:(List (List Aa)))(b:Ah)(ha:Int):Option (Stp (Int) (Out (Int) (Unit))):=
 AO (decide (ha<(ys.length:Int))) (AY (C3 ha (ys.length:Int))<|Bf (UU F (Ax ys ha) b) λhb=>AO (hb) (some (.out (.ret ha))) (AY (BN .i64 (ha+1))<|some (.next (ha+1)))) (some (.out (.go ())))
def Kk :Option (Int):=
 some (-1)
def QZ (F:Nat)(ys:(List (List Aa)))(b:Ah):Option (Int):=
 Bf (Cf (λσ=>Hx F ys b σ) F 0) (BS λν=>Kk )
def PE (F:Nat)(ys:(List (List Aa)))(b:Ah):Option (Bool):=
 Bf (QZ F ys b) λr1=>some (decide (0≤r1))
def ID (ha:Bool):Option (Bool):=
 some ha
def Px (F:Nat)(f:Ah)(b:Ah):Option (Bool):=
 AO (decide (f.fOp=3)) (Bf (PE F f.fValues b) λha=>ID (!ha)) (ID false)
def UL (v:(List Aa))(b:Ah):Option (Bool):=
 Bf (Ic v b.fText) λr1=>some r1
def UT (v:(List Aa))(b:Ah):Option (Bool):=
 Bf (UL v b) λr1=>some (!r1)
def Hw (ys:(List (List Aa)))(b:Ah)(ha:Int):Option (Stp (Int) (Out (Int) (Unit))):=
 AO (decide (ha<(ys.length:Int))) (AY (C3 ha (ys.length:Int))<|Bf (UT (Ax ys ha) b) λhb=>AO (hb) (some (.out (.ret ha))) (AY (BN .i64 (ha+1))<|some (.next (ha+1)))) (some (.out (.go ())))
def Kj :Option (Int):=
 some (-1)
def QY (F:Nat)(ys:(List (List Aa)))(b:Ah):Option (Int):=
 Bf (Cf (λσ=>Hw ys b σ) F 0) (BS λν=>Kj )
def PD (F:Nat)(ys:(List (List Aa)))(b:Ah):Option (Bool):=
 Bf (QY F ys b) λr1=>some (decide (0≤r1))
def IC (ha:Bool):Option (Bool):=
 some ha
def N0 (F:Nat)(f:Ah)(b:Ah):Option (Bool):=
 AO (decide (f.fOp=3)) (Bf (PD F f.fValues b) λha=>IC (!ha)) (IC false)
def UK (v:(List Aa))(b:Ah):Option (Bool):=
 Bf (HZ v b.fLow b.fHigh) λr1=>some r1
def US (v:(List Aa))(b:Ah):Option (Bool):=
 Bf (UK v b) λr1=>some (!r1)
def Hv (ys:(List (List Aa)))(b:Ah)(ha:Int):Option (Stp (Int) (Out (Int) (Unit))):=
 AO (decide (ha<(ys.length:Int))) (AY (C3 ha (ys.length:Int))<|Bf (US (Ax ys ha) b) λhb=>AO (hb) (some (.out (.ret ha))) (AY (BN .i64 (ha+1))<|some (.next (ha+1)))) (some (.out (.go ())))
def Ki :Option (Int):=
 some (-1)
def QX (F:Nat)(ys:(List (List Aa)))(b:Ah):Option (Int):=
 Bf (Cf (λσ=>Hv ys b σ) F 0) (BS λν=>Ki )
def PC (F:Nat)(ys:(List (List Aa)))(b:Ah):Option (Bool):=
 Bf (QX F ys b) λr1=>some (decide (0≤r1))
def IB (ha:Bool):Option (Bool):=
 some ha
def M5 (F:Nat)(f:Ah)(b:Ah):Option (Bool):=
 AO (decide (f.fOp=3)) (Bf (PC F f.fValues b) λha=>IB (!ha)) (IB false)
def El (ha:Bool):Option (Bool):=
 some ha
def DC (ha:Bool):Option (Bool):=
 some ha
def I9 (F:Nat)(a:Ah)(b:Ah):Option (Bool):=
 AO (decide (b.fOp=1)) (some (!decide (a.fOp=2))) (AO (decide (b.fOp=2)) (some (decide (a.fOp=2))) (AO (decide (b.fOp=3)) (Bf (Px F a b) λha=>some ha) (AO (decide (b.fOp=4)) (Bf (IZ F a b) λhb=>some hb) (AO (decide (b.fOp=5)) (AO (decide (a.fOp=5)) (Bf (Dn a.fText b.fText) λhe=>AO (he) (El true) (Bf (N0 F a b) λhf=>El hf)) (Bf (N0 F a b) λhg=>El hg)) (AO (decide (a.fOp=6)) (AO (decide (b.fLow≤a.fLow)) (AO (decide (a.fHigh≤b.fHigh)) (DC true) (Bf (M5 F a b) λhh=>DC hh)) (Bf (M5 F a b) λhi=>DC hi)) (Bf (M5 F a b) λhj=>DC hj))))))
def H0 (F:Nat)(long:(List Aw))(short:(List Aw)):Option (Bool):=
 AY (imp (decide ((short.length:Int)<(long.length:Int))) (G0 (short.length:Int) (long.length:Int)))<|AY (imp (decide ((short.length:Int)<(long.length:Int))) ((Eu F (List.take (Int.toNat (short.length:Int)) long) short).isSome))<|some ((decide ((short.length:Int)<(long.length:Int)))&&(ov (Eu F (List.take (Int.toNat (short.length:Int)) long) short)))
def Bk (F:Nat)(a:Ah)(b:Ah):Option (Bool):=
 AY ((BT F a).isSome)<|AY (imp (!(!decide ((ov (BT F a))=0))) ((BT F b).isSome))<|AO (((!decide ((ov (BT F a))=0))||(!decide ((ov (BT F b))=0)))) (some false) (Bf (Eu F a.fPath b.fPath) λha=>AO (ha) (Bf (I9 F a b) λhb=>some hb) (Bf (H0 F a.fPath b.fPath) λhe=>AO (he) (some ((decide (b.fOp=1))&&(!decide (a.fOp=2)))) (Bf (H0 F b.fPath a.fPath) λhf=>AO (hf) (some ((decide (a.fOp=2))&&(decide (b.fOp=2)))) (some false))))
end Go.Proofs.YtghdglcmblpbeaaGreatDoor
namespace Go.Proofs.YtghdglcmblpbeaaGreatDoor.Q
open Go Go.RowKit
set_option linter.unusedVariables false
set_option linter.unusedSimpArgs false
section
variable {P : Program} {n : Nat} {c : Cx} {opsA : Array Oper} {Q : Exit → Act → World → Prop} {l : Fr} {H : List Ent} {d : Nat} {ty : TypeId} {pos : String} {af : Array Edge}
end
section
variable {P : Program} {n : Nat} {c : Cx} {ops : Array Oper} {Q : Exit → Act → World → Prop} {rest : List Oper} {l : Fr} {H H' : List Ent} {d : Nat} {d' : Option Nat} {x y z3 : Operand} {ty t t' e : TypeId} {pos : String} {af : Array Edge} {g : Option (Nat × Bool)} {v u : Value} {r : Rp} {sz : Nat}
theorem Qi {α:Type}{ys:List α}{enc:α→List Rp}{k':IntKind}{j:Int}(ht:P.underlying t=some (.slice e))(hz:∀w,(sizeOf e).run P w = .ok sz w)(h:ev l x=some (AJ sz (ys.map enc)))(hj:ev l z3=some (rI k' j))(hg2:G0 j (ys.length:Int)=true) :
  B2 P n c l H { dst:=d',op:=.slice t x none (some z3) none,type:=ty,pos:=pos,after:=af,guard:=g } (AJ sz ((ys.take j.toNat).map enc)):=λa w Z ha hw=>by
 obtain⟨A,cap,e1,hc1,hc2,hA,hc⟩:=ha.ev h;have h2:=(Dk hg2).2;have hj0:0≤j:=(Dk hg2).1;simp only[XA] at e1 hc1;have h3:j≤(cap:Int):=by omega
 refine⟨.slice (if cap=0 then A else A.map (·.add (0*sz))) j.toNat cap,⟨if cap=0 then A else A.map (·.add (0*sz)),cap,?_,?_,by omega,?_,λq cl hq=>?_⟩,by simp[execOp,e1,ha.eval hj,Instr.sliceAt,Instr.slice,run_underlying ht,Instr.sliceBounds,BI (m:=cap) _ _ hj0 h3,hz]⟩
 ·congr 1
  simp;omega
 ·simp;omega
 ·intro hn
  split at hn
  ·have:=hA hn;omega
  ·have:=hA (by simpa using hn);omega
 ·rw[Yd] at hq
  cases hq':(List.take j.toNat ys)[q]? with
  | none=>rw[hq'] at hq;cases hq
  | some yy=>
   rw[hq'] at hq;simp only[Option.map_some,Option.some.injEq] at hq;subst hq;rw[XX] at hq'
   split at hq'
   ·rename_i hlt
    obtain⟨hl,ad,rfl,hs,hcs⟩:=hc q (enc yy) (by simp[hq']);obtain⟨b,off,spot⟩:=ad;simp only at hs;subst hs;have hne : ¬ cap=0:=by omega
    refine⟨hl,⟨b,off+0*sz,none⟩,by simp[hne,Iu],rfl,λq' r' hr'=>?_⟩;obtain⟨u,hu,hp⟩:=hcs q' r' hr';refine⟨u,?_,hp⟩;have:off+0*sz+(q*sz+q')=off+(q*sz+q'):=by omega
    simp only;rw[this];exact hu
   ·cases hq'
end
end Go.Proofs.YtghdglcmblpbeaaGreatDoor.Q
namespace Go.Proofs.YtghdglcmblpbeaaGreatDoor
open Go
set_option linter.unusedVariables false
set_option linter.unusedSimpArgs false
section
variable {T S : Type}
def U3:List (Aw×T)→Aw→Option T
 | [],_=>none
 | p::r,k=>bif decide (p.1=k) then some p.2 else U3 r k
def V9 (xs:List (Aw×T))(k:Aw):Bool:=(U3 xs k).isSome
def W1 (k:Aw)(v:T):List (Aw×T)→List (Aw×T)
 | []=>[(k,v)]
 | p::r=>bif Di k p.1 then(k,v)::p::r else p::W1 k v r
def MY (xs:List (Aw×T))(k:Aw)(v:T):List (Aw×T):=xs.map λp=>bif decide (p.1=k) then(k,v) else p
def W0 (xs:List (Aw×T))(k:Aw)(v:T):List (Aw×T):=bif V9 xs k then MY xs k v else W1 k v xs
end
end Go.Proofs.YtghdglcmblpbeaaGreatDoor
namespace Go.Proofs.YtghdglcmblpbeaaGreatDoor.Q
open Go Go.RowKit
set_option linter.unusedVariables false
set_option linter.unusedSimpArgs false
theorem RT (s:ByteArray):MapKept.IsKey .string (.string s):=by simp[MapKept.IsKey]
theorem Nf.keys {Z:Fz}:∀{f:List (List UInt8×Rp)} {es:List MapEntry},Nf Z f es→∀x∈es,MapKept.IsKey .string x.key
 | [],[],_,x,hx=>by cases hx
 | p::f,e::es,⟨⟨h1,h2⟩,h3⟩,x,hx=>by
  rcases List.mem_cons.1 hx with rfl | hx
  ·rw[h1];exact RT _
  ·exact Nf.keys h3 x hx
theorem Nf.at {Z:Fz}:∀{f:List (List UInt8×Rp)} {es:List MapEntry},Nf Z f es→f.length=es.length∧∀(j:Nat) (e:MapEntry),es[j]? =some e→∃k r,f[j]? =some (k,r)∧e.key = .string (B k)∧r.p Z e.val
 | [],[],_=>⟨rfl,λj e h=>by simp at h⟩
 | p::f,e::es,⟨⟨h1,h2⟩,h3⟩=>by
  obtain⟨hl,ha⟩:=Nf.at h3;refine⟨by simp[hl],λj e' hj=>?_⟩
  cases j with
  | zero=>simp at hj;subst hj;exact⟨p.1,p.2,rfl,h1,h2⟩
  | succ j=>simp at hj;simpa using ha j e' hj
theorem Nf.of {Z:Fz}:∀{f:List (List UInt8×Rp)} {es:List MapEntry},f.length=es.length→(∀(j:Nat) (e:MapEntry),es[j]? =some e→∃k r,f[j]? =some (k,r)∧e.key = .string (B k)∧r.p Z e.val)→Nf Z f es
 | [],[],_,_=>trivial
 | p::f,e::es,hl,h=>by
  obtain⟨k,r,h1,h2,h3⟩:=h 0 e rfl;simp at h1;subst h1;exact⟨⟨h2,h3⟩,Nf.of (by simpa using hl) λj e' hj=>by simpa using h (j+1) e' (by simpa using hj)⟩
 | [],_::_,hl,_=>by simp at hl
 | _::_,[],hl,_=>by simp at hl
theorem Nf.filter {Z:Fz}(q:MapEntry→Bool):∀{f:List (List UInt8×Rp)} {es:List MapEntry},Nf Z f es→∃g,Nf Z g (es.filter q)∧g.Sublist f
 | [],[],_=>⟨[],trivial,List.Sublist.refl _⟩
 | p::f,e::es,⟨h,h3⟩=>by
  obtain⟨g,hg,hs⟩:=Nf.filter q h3
  cases hq:q e with
  | true=>exact⟨p::g,by rw[List.filter_cons_of_pos hq];exact⟨h,hg⟩,hs.cons_cons p⟩
  | false=>exact⟨g,by rw[List.filter_cons_of_neg (by simp[hq])];exact hg,hs.cons p⟩
theorem WM {a b:List UInt8}(h:B a=B b):a=b:=by
 have:=congrArg ByteArray.toList h
 rwa [E4,E4] at this
theorem ST {a b:List UInt8}(h:Value.string (B a) = .string (B b)):a=b:=WM (by cases h;rfl)
section
variable {P : Program} {n : Nat} {c : Cx} {ops : Array Oper} {Q : Exit → Act → World → Prop} {rest : List Oper} {l : Fr} {H : List Ent} {d : Nat} {d' : Option Nat} {ty t kt et rty : TypeId} {pos : String} {af : Array Edge} {g : Option (Nat × Bool)} {x y u : Operand} {K : Act → World → Prop} {cx : Code}
variable {T : Type} {enc : T → Rp} {xs : List (Aw × T)} {z : T} {k : Aw} {zv : Value} {i b : Nat}
theorem Jl.length {Z:Fz}{m:List (List UInt8×Rp)}{es:List MapEntry}{ck:Nat}(h:Jl Z m es ck):es.length=m.length:=by
 obtain⟨_,_,_,f,h4,h5⟩:=h;rw[← h5.at.1,h4.length_eq]
theorem Tg {m f:List (Aw×Rp)}(h:f.Perm m)(k:Aw)(r:Rp):(MY f k r).Perm (MY m k r):=h.map _
theorem QP {T:Type}:∀{f:List (Aw×T)} {j:Nat} {k:Aw} {r0:T} (r:T),(f.map (·.1)).Nodup→f[j]? =some (k,r0)→MY f k r=f.set j (k,r)
 | p::f,0,k,r0,r,hn,h=>by
  simp at h;subst h;rw[Ym,List.nodup_cons] at hn;have:MY f k r=f:=by
   unfold MY;rw[List.map_congr_left (g:=id) (λq hq=>?_),List.map_id];have hne : ¬ q.1=k:=λe=>hn.1 (by rw[← e];exact List.mem_map.2 ⟨q,hq,rfl⟩);rw[Xz hne];rfl
  show(bif decide (k=k) then(k,r) else(k,r0))::MY f k r=_;rw[X4 rfl,this];rfl
 | p::f,j+1,k,r0,r,hn,h=>by
  rw[Ym,List.nodup_cons] at hn;simp at h;have hne : ¬ p.1=k:=λe=>hn.1 (by rw[e];exact List.mem_map.2 ⟨(k,r0),X7 h,rfl⟩);show(bif decide (p.1=k) then(k,r) else p)::MY f k r=_;rw[Xz hne,QP r hn.2 h];rfl
theorem RP {T:Type}(m:List (Aw×T))(k:Aw)(r:T):(MY m k r).map (·.1)=m.map (·.1):=by
 unfold MY;rw[List.map_map];refine List.map_congr_left λp _=>?_;simp only[Function.comp]
 by_cases h:p.1=k
 ·rw[X4 h];exact h.symm
 ·rw[Xz h];rfl
theorem RQ {T:Type}{m:List (Aw×T)}{k:Aw}{r:T}(h:U3 m k=some r):V9 m k=true:=by unfold V9;rw[h];rfl
theorem Jl.put {Z:Fz}{m:List (Aw×Rp)}{es:List MapEntry}{ck j:Nat}{e:MapEntry}{k:Aw}{r0 r:Rp}{v:Value}(h:Jl Z m es ck)(he:es[j]? =some e)(hk:e.key = .string (B k))(hm:U3 m k=some r0)(hr:r.p Z v) :
  Jl Z (W0 m k r) (es.set j { e with key:=.string (B k),val:=v }) ck:=by
 obtain⟨h1,h2,h3,f,h4,h5⟩:=h;obtain⟨hl,ha⟩:=h5.at;have hjl:=(List.getElem?_eq_some_iff.1 he).1;unfold W0;rw[RQ hm,X8];obtain⟨k',r',e1,e2,_⟩:=ha j e he;rw[hk] at e2;obtain rfl:=ST e2;have hfn:(f.map (·.1)).Nodup:=(h4.map (·.1)).nodup_iff.2 h1;refine⟨by rw[RP];exact h1,?_,?_,f.set j (k,r),?_,Nf.of (by simp[hl]) λi x hx=>?_⟩
 ·rw[List.map_set];have:(es.map (·.born)).set j e.born=es.map (·.born):=by
   apply List.ext_getElem?;intro i;rw[List.getElem?_set]
   split
   ·rename_i hij;subst hij
    simp[hjl,List.getElem?_eq_some_iff.1 he |>.2]
   ·rfl
  show((es.map (·.born)).set j e.born).Nodup;rw[this];exact h2
 ·intro x hx;rcases List.mem_or_eq_of_mem_set hx with hx | rfl
  ·exact h3 x hx
  ·exact h3 e (X7 he)
 ·have:=Tg h4 k r
  rwa [QP r hfn e1] at this
 ·rw[List.getElem?_set] at hx ⊢
  split at hx
  ·rename_i hij;subst hij
   cases hx
   exact⟨k,r,by rw[if_pos rfl,if_pos (by rw[hl];exact hjl)],rfl,hr⟩
  ·rename_i hij
   rw[Yl hij];exact ha i x hx
end
theorem Bn.d1 {Z:Fz}{r0:Rp}{us:List Value}(h:Bn Z [r0] us):∃y0,us=[y0]∧Bn Z [r0] [y0]:=by
 match us,h.length with
 | [y0],_=>exact⟨_,rfl,h⟩
section
variable {P : Program} {n : Nat} {c : Cx} {ops : Array Oper} {Q : Exit → Act → World → Prop} {rest : List Oper} {l : Fr} {H H' : List Ent} {d : Nat} {d' : Option Nat} {ty t e rty : TypeId} {pos : String} {af : Array Edge} {g : Option (Nat × Bool)} {x y u : Operand} {v : Value} {sz m : Nat}
end
end Go.Proofs.YtghdglcmblpbeaaGreatDoor.Q
namespace Go.Proofs.YtghdglcmblpbeaaGreatDoor
open Go
end Go.Proofs.YtghdglcmblpbeaaGreatDoor
namespace Go.Proofs.YtghdglcmblpbeaaGreatDoor.Q
open Go Go.RowKit
set_option linter.unusedVariables false
set_option linter.unusedSimpArgs false
section
variable {P : Program} {n : Nat} {c : Cx} {Q : Exit → Act → World → Prop} {l : Fr} {H : List Ent} {x rest' : Code} {K : Act → World → Prop}
end
section
variable {P : Program} {n : Nat} {c : Cx} {ops : Array Oper} {Q : Exit → Act → World → Prop} {rest : List Oper} {l : Fr} {H H' : List Ent} {d : Nat} {d' : Option Nat} {x y z3 z4 : Operand} {ty t t' e : TypeId} {pos : String} {af : Array Edge} {g : Option (Nat × Bool)} {v u : Value} {r : Rp} {sz : Nat}
end
structure Sx (U:Type) where
 deps:List Nat
 r:U→Rp
 dyn:Bool:=false
 old:List Nat:=[]
def S0 {U:Type}(sp:List (Sx U))(i:Nat):Sx U:=sp.getD i { deps:=[],r:=λ_=>rv undef }
def WO {U:Type}(sp:List (Sx U))(u:U):List Sp:=sp.map λs=>⟨s.deps,s.r u,0⟩
def Vj {U:Type}:List (Sx U)→Prop
 | []=>True
 | s::r=>(s.dyn=false→∀u u',s.r u=s.r u')∧Vj r
theorem Vj.at {U:Type}:∀{sp:List (Sx U)},Vj sp→∀{i:Nat} {s:Sx U},sp[i]? =some s→s.dyn=false→∀u u',s.r u=s.r u'
 | [],_,i,s,h=>by simp at h
 | x::sp,⟨h1,h2⟩,0,s,h=>by simp at h;subst h;exact h1
 | x::sp,⟨h1,h2⟩,i+1,s,h=>Vj.at h2 (by simpa using h)
def JW (lw:Fr):List Nat→Fr→Fr
 | [],l=>l
 | d::r,l=>match look lw d with
  | some q=>(d,q)::JW lw r l
  | none=>JW lw r l
section
variable (P : Program) (n : Nat) (c : Cx) (opsA : Array Oper) (Q : Exit → Act → World → Prop)
def Xq {U:Type}(l:Fr)(H:List Ent)(o:Oper)(r:U→Rp)(H1:U→List Ent):Prop:=
 ∀a w Z (K:Act→World→Prop),Dh n l a Z→St c H Z w→(∀u v w' Z',Fz.le Z Z'→(r u).p Z' v→St c (H1 u) Z' w'→K (a.put o.dst v) w')→
  Region.wanted o (yielded opsA a.tmps)=true∧o.wp P a w K Q
def Vm {U:Type}(ops:List Oper)(sp:List (Sx U))(l0 lw:Fr)(i0:Nat)(H:List Ent)(H1:U→List Ent):Nat→List Oper→Prop
 | i,o::rest=>(if i=i0 then(∀u,Xq P n c opsA Q (JW lw (S0 sp i).old (Cs ops (WO sp u) (S0 sp i).deps l0)) H o (S0 sp i).r H1) else ∀u H,E3 P n c opsA Q (JW lw (S0 sp i).old (Cs ops (WO sp u) (S0 sp i).deps l0)) H o ((S0 sp i).r u) H)∧Vm ops sp l0 lw i0 H H1 (i+1) rest
 | _,[]=>True
end
section
variable {P : Program} {n : Nat} {c : Cx} {opsA : Array Oper} {Q : Exit → Act → World → Prop} {l l0 lw : Fr} {U : Type} {H : List Ent} {H1 : U → List Ent} {sp : List (Sx U)} {i0 : Nat}
theorem Vm.at {ops:List Oper}:∀{k:Nat} {rest:List Oper},Vm P n c opsA Q ops sp l0 lw i0 H H1 k rest→∀(t:Nat) o,rest[t]? =some o→
  (if k+t=i0 then(∀u,Xq P n c opsA Q (JW lw (S0 sp (k+t)).old (Cs ops (WO sp u) (S0 sp (k+t)).deps l0)) H o (S0 sp (k+t)).r H1) else ∀u H,E3 P n c opsA Q (JW lw (S0 sp (k+t)).old (Cs ops (WO sp u) (S0 sp (k+t)).deps l0)) H o ((S0 sp (k+t)).r u) H)
 | k,o::rest,⟨h1,h2⟩,t,o',ht=>by
  cases t with
  | zero=>simp at ht;subst ht;exact h1
  | succ t=>
   have:=Vm.at h2 t o' (by simpa using ht);rw[show k+(t+1)=k+1+t from by omega];exact this
 | _,[],_,t,o,h=>by simp at h
end
section
variable {P : Program} {n : Nat} {c : Cx} {opsA : Array Oper} {Q : Exit → Act → World → Prop} {l : Fr} {H : List Ent} {d : Nat} {x y : Operand} {ty t e : TypeId} {pos : String} {af : Array Edge} {v : Value} {sz : Nat}
end
abbrev Ux:=Nat→Nat→Value×Nat
def Ag (k:Nat)(u u':Ux):Prop:=∀j,j<k→u j=u' j
structure Sy where
 deps:List Nat
 r:Ux→Rp
 lv:Nat:=0
 fx:Bool:=false
 old:List Nat:=[]
def Sz (sp:List Sy)(i:Nat):Sy:=sp.getD i { deps:=[],r:=λ_=>rv undef }
def Xb (sp:List Sy)(u:Ux):List Sp:=sp.map λs=>⟨s.deps,s.r u,0⟩
def Rn:List Sy→Prop
 | []=>True
 | s::r=>(∀u u',Ag s.lv u u'→s.r u=s.r u')∧Rn r
theorem Rn.at:∀{sp:List Sy},Rn sp→∀{i:Nat} {s:Sy},sp[i]? =some s→∀u u',Ag s.lv u u'→s.r u=s.r u'
 | [],_,i,s,h=>by simp at h
 | x::sp,⟨h1,h2⟩,0,s,h=>by simp at h;subst h;exact h1
 | x::sp,⟨h1,h2⟩,i+1,s,h=>Rn.at h2 (by simpa using h)
def cnt (S:Nat→Bool)(is:List Nat):Nat:=(is.filter S).length
section
variable (P : Program) (n : Nat) (c : Cx) (opsA : Array Oper) (Q : Exit → Act → World → Prop)
def Xs (l:Fr)(H:List Ent)(o:Oper)(k:Nat)(u:Ux)(r:Ux→Rp)(H1:Ux→List Ent):Prop:=
 ∀a w Z (K:Act→World→Prop),Dh n l a Z→St c H Z w→(∀u' v w' Z',Ag k u u'→Fz.le Z Z'→(r u').p Z' v→St c (H1 u') Z' w'→K (a.put o.dst v) w')→
  Region.wanted o (yielded opsA a.tmps)=true∧o.wp P a w K Q
def Xr (ops:List Oper)(sp:List Sy)(l0 lw:Fr)(is:List Nat)(hs:List (Ux→List Ent))(i:Nat)(o:Oper):Prop:=
 match is.findIdx? (λx=>Nat.beq x i) with
 | some k=>∀u,Xs P n c opsA Q (JW lw (Sz sp i).old (Cs ops (Xb sp u) (Sz sp i).deps l0)) (hs.getD k (λ_=>[]) u) o k u (Sz sp i).r (hs.getD (k+1) (λ_=>[]))
 | none=>if (Sz sp i).fx=true then ∀u,E3 P n c opsA Q (JW lw (Sz sp i).old (Cs ops (Xb sp u) (Sz sp i).deps l0)) (hs.getD (Sz sp i).lv (λ_=>[]) u) o ((Sz sp i).r u) (hs.getD (Sz sp i).lv (λ_=>[]) u)
  else ∀u H,E3 P n c opsA Q (JW lw (Sz sp i).old (Cs ops (Xb sp u) (Sz sp i).deps l0)) H o ((Sz sp i).r u) H
def Vl (ops:List Oper)(sp:List Sy)(l0 lw:Fr)(is:List Nat)(hs:List (Ux→List Ent)):Nat→List Oper→Prop
 | i,o::rest=>Xr P n c opsA Q ops sp l0 lw is hs i o∧Vl ops sp l0 lw is hs (i+1) rest
 | _,[]=>True
end
section
variable {P : Program} {n : Nat} {c : Cx} {opsA : Array Oper} {Q : Exit → Act → World → Prop} {l l0 lw : Fr} {H : List Ent} {hs : List (Ux → List Ent)} {sp : List Sy} {is : List Nat}
theorem Vl.at {ops:List Oper}:∀{k:Nat} {rest:List Oper},Vl P n c opsA Q ops sp l0 lw is hs k rest→∀(t:Nat) o,rest[t]? =some o→Xr P n c opsA Q ops sp l0 lw is hs (k+t) o
 | k,o::rest,⟨h1,h2⟩,t,o',ht=>by
  cases t with
  | zero=>simp at ht;subst ht;exact h1
  | succ t=>
   have:=Vl.at h2 t o' (by simpa using ht);rw[show k+(t+1)=k+1+t from by omega];exact this
 | _,[],_,t,o,h=>by simp at h
end
section
variable {P : Program} {n : Nat} {c : Cx} {opsA : Array Oper} {Q : Exit → Act → World → Prop} {l : Fr} {H : List Ent} {d : Nat} {x y : Operand} {ty t e : TypeId} {pos : String} {af : Array Edge} {v : Value} {sz : Nat}
end
end Go.Proofs.YtghdglcmblpbeaaGreatDoor.Q
