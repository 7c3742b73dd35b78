/-
  Texts of the proof, put together: WVd, PVe, WVe, PVf, WVf, PM, QT, QN, QU, QM, QK, PKa, QI, QW, Iter, QKs, WKa, PKb, WKb, PKc, WKc, PH, PFr, QH, QY.
-/
import Derived.Test.YtjfnokmpfekniaaGreatDoorKS2
import Derived.Laws.StructEq
import Derived.Laws.Cover3
import Derived.MapKept
import Derived.Maps.RangeRun
import Derived.Sort.KeysCollected
import Derived.Shelf.SlIter.Nil
import Derived.Shelf.SortM.Plain
import Derived.Shelf.SortM.SortNone
import Derived.Test.YtjfnokmpfekniaaGreatDoorProg
import GoSem.Op.IntBits
import GoSem.Op.Shift
namespace Go.Proofs.YtjfnokmpfekniaaGreatDoor.Q
open Go Go.RowKit
set_option linter.unusedVariables false
set_option linter.unusedSimpArgs false
set_option maxRecDepth 100000
set_option maxHeartbeats 4000000
theorem Je:∃inf,Tryz.prog.info? 78=some inf∧inf.zero=some (.agg #[(.int .i64 0),(.int .i64 0),(.string ⟨#[]⟩),(.int .i64 0)])∧inf.size=4∧inf.bytes=40:=by
  have key:(Tryz.prog.info? 78).map (λi=>(i.zero,i.size,i.bytes))=some (some (.agg #[(.int .i64 0),(.int .i64 0),(.string ⟨#[]⟩),(.int .i64 0)]),4,40):=by kernel_rfl
  obtain⟨inf,h1,h2⟩:=Option.map_eq_some_iff.1 key;simp only[Prod.mk.injEq] at h2;exact⟨inf,h1,h2.1,h2.2.1,h2.2.2⟩
theorem QK (parts:List (Nat×Value)):Tryz.prog.built 78 parts=Instr.fill (λi=>(#[(0,1),(1,1),(2,1),(3,1)]:Array (Nat×Nat))[i]?) #[(.int .i64 0),(.int .i64 0),(.string ⟨#[]⟩),(.int .i64 0)] parts:=by kernel_rfl
theorem HQ {n:Nat}{c:Cx}{l:Fr}{H:List Ent}{d:Option Nat}{ty:TypeId}{pos:String}{af:Array Edge}{g:Option (Nat×Bool)}{x0:Operand}{r0:Rp}(h0:ev l x0=some r0)(u0:r0.one=true):Bn Tryz.prog n c l H { dst:=d,op:=.build 78 #[(0,x0)],type:=ty,pos:=pos,after:=af,guard:=g } (BK [r0,Ap 0,rS ([]:Af),Ap 0]):=λa w Z ha _=>by
  have p0:=ha.ev h0;have c0:=BA (r0.hone u0 Z _ p0);have hb:Tryz.prog.built 78 [(0,a.eval x0)]=some #[a.eval x0,(.int .i64 0),(.string ⟨#[]⟩),(.int .i64 0)]:=by
    rw[QK];generalize a.eval x0=v0 at *;simp[Instr.fill,c0]
  refine⟨.agg #[a.eval x0,(.int .i64 0),(.string ⟨#[]⟩),(.int .i64 0)],⟨[a.eval x0,(.int .i64 0),(.string ⟨#[]⟩),(.int .i64 0)],rfl,p0,rfl,rfl,rfl,trivial⟩,?_⟩;have:=run_build w 78 #[(0,a.eval x0)] _ (by simpa using hb);simp[execOp,this]
theorem Ie {n:Nat}{c:Cx}{l:Fr}{H:List Ent}{d:Option Nat}{ty:TypeId}{pos:String}{af:Array Edge}{g:Option (Nat×Bool)}{x0:Operand}{r0:Rp}(h0:ev l x0=some r0)(u0:r0.one=true){x1:Operand}{r1:Rp}(h1:ev l x1=some r1)(u1:r1.one=true):Bn Tryz.prog n c l H { dst:=d,op:=.build 78 #[(0,x0),(1,x1)],type:=ty,pos:=pos,after:=af,guard:=g } (BK [r0,r1,rS ([]:Af),Ap 0]):=λa w Z ha _=>by
  have p0:=ha.ev h0;have c0:=BA (r0.hone u0 Z _ p0);have p1:=ha.ev h1;have c1:=BA (r1.hone u1 Z _ p1);have hb:Tryz.prog.built 78 [(0,a.eval x0),(1,a.eval x1)]=some #[a.eval x0,a.eval x1,(.string ⟨#[]⟩),(.int .i64 0)]:=by
    rw[QK];generalize a.eval x0=v0 at *;generalize a.eval x1=v1 at *;simp[Instr.fill,c0,c1]
  refine⟨.agg #[a.eval x0,a.eval x1,(.string ⟨#[]⟩),(.int .i64 0)],⟨[a.eval x0,a.eval x1,(.string ⟨#[]⟩),(.int .i64 0)],rfl,p0,p1,rfl,rfl,trivial⟩,?_⟩;have:=run_build w 78 #[(0,a.eval x0),(1,a.eval x1)] _ (by simpa using hb);simp[execOp,this]
theorem KJ {n:Nat}{c:Cx}{l:Fr}{H:List Ent}{d:Option Nat}{ty:TypeId}{pos:String}{af:Array Edge}{g:Option (Nat×Bool)}{x0:Operand}{r0:Rp}(h0:ev l x0=some r0)(u0:r0.one=true){x2:Operand}{r2:Rp}(h2:ev l x2=some r2)(u2:r2.one=true):Bn Tryz.prog n c l H { dst:=d,op:=.build 78 #[(0,x0),(2,x2)],type:=ty,pos:=pos,after:=af,guard:=g } (BK [r0,Ap 0,r2,Ap 0]):=λa w Z ha _=>by
  have p0:=ha.ev h0;have c0:=BA (r0.hone u0 Z _ p0);have p2:=ha.ev h2;have c2:=BA (r2.hone u2 Z _ p2);have hb:Tryz.prog.built 78 [(0,a.eval x0),(2,a.eval x2)]=some #[a.eval x0,(.int .i64 0),a.eval x2,(.int .i64 0)]:=by
    rw[QK];generalize a.eval x0=v0 at *;generalize a.eval x2=v2 at *;simp[Instr.fill,c0,c2]
  refine⟨.agg #[a.eval x0,(.int .i64 0),a.eval x2,(.int .i64 0)],⟨[a.eval x0,(.int .i64 0),a.eval x2,(.int .i64 0)],rfl,p0,rfl,p2,rfl,trivial⟩,?_⟩;have:=run_build w 78 #[(0,a.eval x0),(2,a.eval x2)] _ (by simpa using hb);simp[execOp,this]
theorem YJ (parts:List (Nat×Value)):Tryz.prog.built 127 parts=Instr.fill (λi=>(#[(0,1),(1,1),(2,1),(3,1)]:Array (Nat×Nat))[i]?) #[(.string ⟨#[]⟩),(.int .i64 0),((.slice none 0 0)),(.bool false)] parts:=by kernel_rfl
theorem Q0 {n:Nat}{c:Cx}{l:Fr}{H:List Ent}{d:Option Nat}{ty:TypeId}{pos:String}{af:Array Edge}{g:Option (Nat×Bool)}{x0:Operand}{r0:Rp}(h0:ev l x0=some r0)(u0:r0.one=true):Bn Tryz.prog n c l H { dst:=d,op:=.build 127 #[(0,x0)],type:=ty,pos:=pos,after:=af,guard:=g } (BK [r0,Ap 0,rv (.slice none 0 0),rB false]):=λa w Z ha _=>by
  have p0:=ha.ev h0;have c0:=BA (r0.hone u0 Z _ p0);have hb:Tryz.prog.built 127 [(0,a.eval x0)]=some #[a.eval x0,(.int .i64 0),((.slice none 0 0)),(.bool false)]:=by
    rw[YJ];generalize a.eval x0=v0 at *;simp[Instr.fill,c0]
  refine⟨.agg #[a.eval x0,(.int .i64 0),((.slice none 0 0)),(.bool false)],⟨[a.eval x0,(.int .i64 0),((.slice none 0 0)),(.bool false)],rfl,p0,rfl,rfl,rfl,trivial⟩,?_⟩;have:=run_build w 127 #[(0,a.eval x0)] _ (by simpa using hb);simp[execOp,this]
theorem Pj (s:Af)(p:Af)(r:Bool)(h:HN s p=some r):Fn Tryz.prog GE 64 [rS s,rS p] [] (λR H=>R=rB r∧H=[]):=by
 refine enter (n:=18) Tryz.func64 rfl Tryz.ntmps64 rfl (λw Z=>?_);unfold HN at h;refine Ag (wa rfl (Am (ck h λg1 h2=>AK [(4,rB ((decide ((p.length:Int)≤(s.length:Int)))&&(decide ((List.take (B3 (p.length:Int)) s)=p))))] [] ?_ ?_)))
 ·refine Ah (wm rfl (wv (Bj Ce rfl) (wm rfl (wv (Bj Ce rfl) (wv (H5 rfl rfl) (wm rfl (AS (decide ((p.length:Int)≤(s.length:Int))) (λc3=>?_) (λc3=>?_))))))))
  ·refine wo c3 (wm rfl (wo c3 (wm rfl (wo c3 (wv (Bj Ce rfl) (wo c3 (wv (La Ce rfl rfl (DP g1 c3)) (wo c3 (wm rfl (wo c3 (wv (EC rfl rfl) (GC rfl c3 rfl (wa rfl (Ak ?_))))))))))))));exact Cm c3
  ·refine wf c3 (wf c3 (wf c3 (wf c3 (wf c3 (wf c3 (wv (r:=rB false) (AC rfl c3 rfl) (wa rfl (Ak ?_))))))));exact Cm c3
 refine Av ?_;obtain rfl:=Aw h2;exact Au (BQ Tryz.results64 (AG rfl)) sN ⟨rfl,rfl⟩
theorem Nc (s:Af)(p:Af)(r:Bool)(h:Hm s p=some r):Fn Tryz.prog GE 44 [rS s,rS p] [] (λR H=>R=rB r∧H=[]):=by
 refine enter (n:=8) Tryz.func44 rfl Tryz.ntmps44 rfl (λw Z=>?_);unfold Hm at h;refine Ag (wa rfl (Bv (wm rfl (wm rfl (ob h λr1 e3 h2=>CG Tryz.call64 (Pj s p r1 e3) rfl (wa rfl (Am (Av ?_))))))));obtain rfl:=Aw h2;exact Au (BQ Tryz.results44 (AG rfl)) sN ⟨rfl,rfl⟩
theorem DB (ha:Nat)(hb:Value)(q:At)(s:Af)(r:Bool×At)(h:Ec q s=some r):Fn Tryz.prog GE 133 [rP ha 0,rS s] [.blk ha [rS q.fS,Ap q.fAt,rv hb,rB q.fGreat] 127,.row hb 78 4 (A8 Ab q.fCells)] (λR H=>∃w0_2:Value,R=rB r.1∧H=[.blk ha [rS r.2.fS,Ap r.2.fAt,rv w0_2,rB r.2.fGreat] 127,.row w0_2 78 4 (A8 Ab r.2.fCells)]):=by
 refine enter (n:=26) Tryz.func133 rfl Tryz.ntmps133 rfl (λw Z=>?_);unfold Ec at h;refine Ag (wa rfl (Am (Ai (Ai (ck h λg1 h2=>ob h2 λr3 e5 h4=>C1 [0,1] [⟨[],rP ha 0,0⟩,⟨[0],rP ha 0,0⟩,⟨[1],rP ha 0,0⟩,⟨[2],rS q.fS,1⟩,⟨[],rP ha 0,0⟩,⟨[4],rP ha 0,0⟩,⟨[5],rP ha 1,0⟩,⟨[6],Ap q.fAt,1⟩,⟨[3,7],rS (List.drop (B3 q.fAt) q.fS),0⟩,⟨[],rS s,0⟩,⟨[8,9],rB r3,0⟩,⟨[10],rB (!r3),0⟩] [16,0,1] ?_ ?_)))))
 ·refine oq (Al rfl) (oq (A2 rfl) (oq (AH B2 rfl Cs rfl rfl) (of (Bi (i:=0) CU rfl rfl rfl) (oq (Al rfl) (oq (A2 rfl) (oq (AH B2 rfl Ct rfl rfl) (of (Bi (i:=0) CX rfl rfl rfl) (oq (DG Ce rfl rfl g1) (oq (Al rfl) (DN rfl (λH=>HP Tryz.call44 (Nc (List.drop (B3 q.fAt) q.fS) s r3 e5) rfl) ?_))))))))));refine oq (Ci rfl) ?_;exact Cd
 refine AJ (cz h4 rfl (λc6 h7=>?_) (λc6 h8=>?_))
 ·refine Ag (wa rfl (Am (Av (Ac ?_))));obtain rfl:=Aw h7;exact Au (BQ Tryz.results133 (AG rfl)) (sC (sC sN)) ⟨hb,rfl,rfl⟩
 ·refine Ar (AJ (Ag (wm rfl (wv (A2 rfl) (vF B2 rfl Ct (vL 0 CX rfl (wm rfl (wv (Bj Ce rfl) (ck h8 λg9 hd=>wv (Bk rfl rfl g9) (wv (A2 rfl) (vF B2 rfl Ct (BI (i:=0) Ct rfl rfl (C0 rfl) rfl rfl (cs':=[rS q.fS,Ap (q.fAt+(s.length:Int)),rv hb,rB q.fGreat]) rfl (H':=[.blk ha [rS q.fS,Ap (q.fAt+(s.length:Int)),rv hb,rB q.fGreat] 127,.row hb 78 4 (A8 Ab q.fCells)]) rfl (Bv (wa rfl (Am (Av ?_))))))))))))))));obtain rfl:=Aw hd;exact Au (BQ Tryz.results133 (AG rfl)) (sC (sC sN)) ⟨hb,rfl,rfl⟩
theorem T7 (F:Nat)(ha:Nat)(hp:Value)(q:At)(r:Af×Bool×At)(h:NT F q=some r):Fn Tryz.prog GE 135 [rP ha 0] [.blk ha [rS q.fS,Ap q.fAt,rv hp,rB q.fGreat] 127,.row hp 78 4 (A8 Ab q.fCells)] (λR H=>∃w0_2:Value,R=C2 [rS r.1,rB r.2.1]∧H=[.blk ha [rS r.2.2.fS,Ap r.2.2.fAt,rv w0_2,rB r.2.2.fGreat] 127,.row w0_2 78 4 (A8 Ab r.2.2.fCells)]):=by
 refine enter (n:=104) Tryz.func135 rfl Tryz.ntmps135 rfl (λw Z=>?_);unfold NT at h;refine Ag (wv (r:=rS ([]:Af)) (Ax rfl) (wa rfl (Am (Ai (Ag (wm rfl (ob h λr1 e3 h2=>Gt (Hr:=[]) Hq (DB ha hp q ([34]:Af) r1 e3) rfl (AcI _) rfl ?_)))))));rintro _ _ ⟨v4,rfl,rfl⟩;refine wv (Ci rfl) (Am (cz h2 rfl (λc5 h6=>?_) (λc5 h7=>?_)))
 ·refine Ag (wv (r:=rS ([]:Af)) (Ax rfl) (wa rfl (Am (Av (Ac ?_)))));obtain rfl:=Aw h6;exact Au (DC QX (AG rfl) (AG rfl)) (sC (sC sN)) ⟨v4,rfl,rfl⟩
 ·refine Ar (AJ (Ag (wa rfl (Am (Ai (A9 (WC.nilrow (e:=5) (sz:=1) (Qi (H2:=[.blk ha [rS r1.2.fS,Ap r1.2.fAt,rv v4,rB r1.2.fGreat] 127,.row v4 78 4 (A8 Ab r1.2.fCells),.row (.slice none 0 0     ) 5 1 (A8 Bc ([]:List Int))]) ((A4 (i:=1) rfl).trans (AcJ _ ((A4 (i:=1) rfl).trans (AcJ _ (AcI _))))) (ob h7 λhu hw hk=>Bg (S:=Nat×((List Int)×Int)×(Value)) (V:=(Int)×(Unit)) 0 (λσ=>B7 (λσ=>E9 r1 σ.1 σ.2) σ.1 σ.2.1=some hu) (λσ=>[(0,rP ha 0),(4,rv σ.2.2)]) (λσ=>[.blk ha [rS r1.2.fS,Ap σ.2.1.2,rv v4,rB r1.2.fGreat] 127,.row v4 78 4 (A8 Ab r1.2.fCells),.row σ.2.2 5 1 (A8 Bc σ.2.1.1)]) (λσ=>σ.1) (F,(([]:List Int),r1.2.fAt),(.slice none 0 0     )) hw (A6.c rfl (A6.c rfl A6.nil)) (sC (sC (sC sN))) (λσ=>Is r1 σ.1=some r) (λσ=>[]) (λσ=>[.blk ha [rS r1.2.fS,Ap σ.1,rv v4,rB r1.2.fGreat] 127,.row v4 78 4 (A8 Ab r1.2.fCells)]) ?_ ?_)))))))))
  ·rintro⟨ga,⟨hf,hb⟩,hg⟩ hx;refine BG (l':=[(0,rP ha 0),(4,rv hg)]) (H':=[.blk ha [rS r1.2.fS,Ap hb,rv v4,rB r1.2.fGreat] 127,.row v4 78 4 (A8 Ab r1.2.fCells),.row hg 5 1 (A8 Bc hf)]) rfl rfl ?_;obtain⟨hy,rfl,hq,hl,hj⟩:=BZ hx;replace hl:E9 r1 hf hb=some hq:=hl;unfold E9 at hl;refine Ai (Ai (C1 [0,4] [⟨[],rP ha 0,0⟩,⟨[0],rP ha 0,0⟩,⟨[1],rP ha 1,0⟩,⟨[2],Ap hb,1⟩,⟨[],rP ha 0,0⟩,⟨[4],rP ha 0,0⟩,⟨[5],rP ha 0,0⟩,⟨[6],rS r1.2.fS,1⟩,⟨[7],Ap (r1.2.fS.length:Int),0⟩,⟨[3,8],rB (decide (hb<(r1.2.fS.length:Int))),0⟩] [9,10,11,12,13,14,15,16,17,18,0,4] ?_ ?_))
   ·refine oq (Al rfl) (oq (A2 rfl) (oq (AH B2 rfl Ct rfl rfl) (of (Bi (i:=0) CX rfl rfl rfl) (oq (Al rfl) (oq (A2 rfl) (oq (AH B2 rfl Cs rfl rfl) (of (Bi (i:=0) CU rfl rfl rfl) (oq (Bj Ce rfl) (oq (Cj rfl rfl) ?_)))))))));exact Cd
   refine AJ (cz hl rfl (λhz h0=>?_) (λhz h1=>?_))
   ·refine Ar (AJ (A9 (Ai (ck h0 λh3 h4=>C1 [0,4,9,10,11,12,13,14,15,16,17] [⟨[],rP ha 0,0⟩,⟨[0],rP ha 0,0⟩,⟨[1],rP ha 0,0⟩,⟨[2],rS r1.2.fS,1⟩,⟨[],rP ha 0,0⟩,⟨[4],rP ha 0,0⟩,⟨[5],rP ha 1,0⟩,⟨[6],Ap hb,1⟩,⟨[3,7],rI .u8 (Bm r1.2.fS hb),0⟩,⟨[8],rI .u8 (Bm r1.2.fS hb),0⟩] [19,20,21,22,23,24,25,26,27,5,0,4,9,10,11,12,13,14,15,16,17] ?_ ?_))))
    ·refine oq (Al rfl) (oq (A2 rfl) (oq (AH B2 rfl Cs rfl rfl) (of (Bi (i:=0) CU rfl rfl rfl) (oq (Al rfl) (oq (A2 rfl) (oq (AH B2 rfl Ct rfl rfl) (of (Bi (i:=0) CX rfl rfl rfl) (oq (Bq Ce rfl rfl h3) (oq (Ax rfl) ?_)))))))));exact Cd
    refine AJ (Ag (wm rfl (wv (A2 rfl) (vF B2 rfl Ct (vL 0 CX rfl (ck h4 λh5 h8=>wv (Bk rfl rfl h5) (wv (A2 rfl) (vF B2 rfl Ct (BI (i:=0) Ct rfl rfl (C0 rfl) rfl rfl (cs':=[rS r1.2.fS,Ap (hb+1),rv v4,rB r1.2.fGreat]) rfl (H':=[.blk ha [rS r1.2.fS,Ap (hb+1),rv v4,rB r1.2.fGreat] 127,.row v4 78 4 (A8 Ab r1.2.fCells),.row hg 5 1 (A8 Bc hf)]) rfl (Am (De (S:=(Int×Int)×(Unit)) (λσ=>Gd hf σ.1.1 σ.1.2=some hq) (λσ=>[(0,rP ha 0),(4,rv hg),(5,rI .u8 σ.1.1),(9,rP ha 0),(10,rP ha 0),(11,rP ha 1),(12,Ap hb),(13,rP ha 0),(14,rP ha 0),(15,rP ha 0),(16,rS r1.2.fS),(17,Ap (r1.2.fS.length:Int)),(19,rP ha 0),(20,rP ha 0),(21,rP ha 0),(22,rS r1.2.fS),(23,rP ha 0),(24,rP ha 0),(25,rP ha 1),(26,Ap hb),(27,rI .u8 (Bm r1.2.fS hb))]) (λσ=>[.blk ha [rS r1.2.fS,Ap σ.1.2,rv v4,rB r1.2.fGreat] 127,.row v4 78 4 (A8 Ab r1.2.fCells),.row hg 5 1 (A8 Bc hf)]) ?_ ?_)))))))))))
    ·refine A9 (Ag (wm rfl (wv (B6 rfl rfl) (wa rfl (Am (cz h8 rfl (λh9 hA=>?_) (λh9 hB=>?_)))))))
     ·refine Ag (wm rfl (wv (r:=rS (Id hf)) (P9 (xs:=hf) (i:=2) E3 Ce KB rfl rfl) (wa rfl (wa rfl (Am (Av (Ay (Ac (Ay (Ac (AR ?_)))))))))));have hC:=Bo hA hj hk;refine Ay (Ac ?_);obtain rfl:=Aw hC;exact Au (DC QX (AG rfl) (AG rfl)) (sC (sC (sS sN))) ⟨v4,rfl,rfl⟩
     ·refine AK [(0,rP ha 0),(4,rv hg),(5,rI .u8 (Bm r1.2.fS hb)),(9,rP ha 0),(10,rP ha 0),(11,rP ha 1),(12,Ap hb),(13,rP ha 0),(14,rP ha 0),(15,rP ha 0),(16,rS r1.2.fS),(17,Ap (r1.2.fS.length:Int)),(19,rP ha 0),(20,rP ha 0),(21,rP ha 0),(22,rS r1.2.fS),(23,rP ha 0),(24,rP ha 0),(25,rP ha 1),(26,Ap hb),(27,rI .u8 (Bm r1.2.fS hb)),(40,rB ((decide ((Bm r1.2.fS hb)<32))||(decide (126<(Bm r1.2.fS hb)))))] [.blk ha [rS r1.2.fS,Ap (hb+1),rv v4,rB r1.2.fGreat] 127,.row v4 78 4 (A8 Ab r1.2.fCells),.row hg 5 1 (A8 Bc hf)] ?_ ?_
      ·refine Ah (wm rfl (wv (Cj rfl rfl) (wm rfl (AS (decide ((Bm r1.2.fS hb)<32)) (λhh=>?_) (λhh=>?_)))))
       ·refine wf hh (wf hh (wv (r:=rB true) (A1 rfl hh rfl) (wa rfl (Ak ?_))));exact Cm hh
       ·refine wo hh (wm rfl (wo hh (wv (C3 rfl rfl) (GK rfl hh rfl (wa rfl (Ak ?_))))));exact Cm hh
      refine cz hB rfl (λhD hE=>?_) (λhD hG=>?_)
      ·refine Ag (wv (r:=rS ([]:Af)) (Ax rfl) (wa rfl (Am (Av (Ay (Ac (Ay (Ac (AR ?_)))))))));have hH:=Bo hE hj hk;refine Ay (Ac ?_);obtain rfl:=Aw hH;exact Au (DC QX (AG rfl) (AG rfl)) (sC (sC (sS sN))) ⟨v4,rfl,rfl⟩
      ·refine Ag (wm rfl (wv (B6 rfl rfl) (wa rfl (Am (cz hG rfl (λhI hJ=>?_) (λhI hK=>?_))))))
       ·refine Ai (ck hJ λhr hL=>AK [(0,rP ha 0),(4,rv hg),(9,rP ha 0),(10,rP ha 0),(11,rP ha 1),(12,Ap hb),(13,rP ha 0),(14,rP ha 0),(15,rP ha 0),(16,rS r1.2.fS),(17,Ap (r1.2.fS.length:Int)),(19,rP ha 0),(20,rP ha 0),(21,rP ha 0),(22,rS r1.2.fS),(23,rP ha 0),(24,rP ha 0),(25,rP ha 1),(26,Ap hb),(27,rI .u8 (Bm r1.2.fS hb)),(50,rP ha 0),(51,rP ha 0),(52,rP ha 1),(53,Ap (hb+1)),(54,rP ha 0),(55,rP ha 0),(56,rP ha 0),(57,rS r1.2.fS),(58,Ap (r1.2.fS.length:Int)),(59,rB (decide ((r1.2.fS.length:Int)≤(hb+1)))),(60,rB (decide ((r1.2.fS.length:Int)≤(hb+1)))),(83,rB ((decide ((r1.2.fS.length:Int)≤(hb+1)))||((!decide ((Bm r1.2.fS (hb+1))=34))&&(!decide ((Bm r1.2.fS (hb+1))=92)))))] [.blk ha [rS r1.2.fS,Ap (hb+1),rv v4,rB r1.2.fGreat] 127,.row v4 78 4 (A8 Ab r1.2.fCells),.row hg 5 1 (A8 Bc hf)] ?_ ?_)
        ·refine AS (decide ((r1.2.fS.length:Int)≤(hb+1))) (λhd=>?_) (λhd=>?_)
         ·refine C1 [0,4,9,10,11,12,13,14,15,16,17,19,20,21,22,23,24,25,26,27] [⟨[],rP ha 0,0⟩,⟨[0],rP ha 0,0⟩,⟨[1],rP ha 1,0⟩,⟨[2],Ap (hb+1),1⟩,⟨[],rP ha 0,0⟩,⟨[4],rP ha 0,0⟩,⟨[5],rP ha 0,0⟩,⟨[6],rS r1.2.fS,1⟩,⟨[7],Ap (r1.2.fS.length:Int),0⟩,⟨[3,8],rB (decide ((r1.2.fS.length:Int)≤(hb+1))),0⟩,⟨[9],rB (decide ((r1.2.fS.length:Int)≤(hb+1))),0⟩,⟨[10],rv undef,0⟩,⟨[11,10],rv undef,0⟩,⟨[12,10],rv undef,0⟩,⟨[13,10],rv undef,0⟩,⟨[10],rv undef,0⟩,⟨[15,10],rv undef,0⟩,⟨[16,10],rv undef,0⟩,⟨[17,10],rv undef,0⟩,⟨[14,18,10],rv undef,0⟩,⟨[19,10],rv undef,0⟩,⟨[20,10],rv undef,0⟩,⟨[21],rv undef,0⟩,⟨[22,21],rv undef,0⟩,⟨[23,21],rv undef,0⟩,⟨[24,21],rv undef,0⟩,⟨[21],rv undef,0⟩,⟨[26,21],rv undef,0⟩,⟨[27,21],rv undef,0⟩,⟨[28,21],rv undef,0⟩,⟨[25,29,21],rv undef,0⟩,⟨[30,21],rv undef,0⟩,⟨[21,31,10],rv undef,0⟩,⟨[10,32],rB true,0⟩] [50,51,52,53,54,55,56,57,58,59,60,61,62,63,64,65,66,67,68,69,70,71,72,73,74,75,76,77,78,79,80,81,82,83,0,4,9,10,11,12,13,14,15,16,17,19,20,21,22,23,24,25,26,27] ?_ ?_
          ·refine oq (Al rfl) (oq (A2 rfl) (oq (AH B2 rfl Ct rfl rfl) (of (Bi (i:=0) CX rfl rfl rfl) (oq (Al rfl) (oq (A2 rfl) (oq (AH B2 rfl Cs rfl rfl) (of (Bi (i:=0) CU rfl rfl rfl) (oq (Bj Ce rfl) (oq (H5 rfl rfl) (oq (Al rfl) (oz hd (oz hd (oz hd (oz hd (oz hd (oz hd (oz hd (oz hd (oz hd (oz hd (oz hd (ou (ou ?_)))))))))))))))))))))));refine ou (ou (ou (ou (ou (ou (ou (ou (oz hd (oq (A1 (b:=decide ((r1.2.fS.length:Int)≤(hb+1))) rfl hd rfl) ?_)))))))));exact Cd
          exact Cm hd
         ·refine AS (!decide ((Bm r1.2.fS (hb+1))=34)) (λhe=>?_) (λhe=>?_)
          ·refine C1 [0,4,9,10,11,12,13,14,15,16,17,19,20,21,22,23,24,25,26,27] [⟨[],rP ha 0,0⟩,⟨[0],rP ha 0,0⟩,⟨[1],rP ha 1,0⟩,⟨[2],Ap (hb+1),1⟩,⟨[],rP ha 0,0⟩,⟨[4],rP ha 0,0⟩,⟨[5],rP ha 0,0⟩,⟨[6],rS r1.2.fS,1⟩,⟨[7],Ap (r1.2.fS.length:Int),0⟩,⟨[3,8],rB (decide ((r1.2.fS.length:Int)≤(hb+1))),0⟩,⟨[9],rB (decide ((r1.2.fS.length:Int)≤(hb+1))),0⟩,⟨[10],rP ha 0,0⟩,⟨[11,10],rP ha 0,0⟩,⟨[12,10],rP ha 0,0⟩,⟨[13,10],rS r1.2.fS,1⟩,⟨[10],rP ha 0,0⟩,⟨[15,10],rP ha 0,0⟩,⟨[16,10],rP ha 1,0⟩,⟨[17,10],Ap (hb+1),1⟩,⟨[14,18,10],rI .u8 (Bm r1.2.fS (hb+1)),0⟩,⟨[19,10],rB (!decide ((Bm r1.2.fS (hb+1))=34)),0⟩,⟨[20,10],rB (!decide ((Bm r1.2.fS (hb+1))=34)),0⟩,⟨[21],rP ha 0,0⟩,⟨[22,21],rP ha 0,0⟩,⟨[23,21],rP ha 0,0⟩,⟨[24,21],rS r1.2.fS,1⟩,⟨[21],rP ha 0,0⟩,⟨[26,21],rP ha 0,0⟩,⟨[27,21],rP ha 1,0⟩,⟨[28,21],Ap (hb+1),1⟩,⟨[25,29,21],rI .u8 (Bm r1.2.fS (hb+1)),0⟩,⟨[30,21],rB (!decide ((Bm r1.2.fS (hb+1))=92)),0⟩,⟨[21,31,10],rB (!decide ((Bm r1.2.fS (hb+1))=92)),0⟩,⟨[10,32],rB (!decide ((Bm r1.2.fS (hb+1))=92)),0⟩] [50,51,52,53,54,55,56,57,58,59,60,61,62,63,64,65,66,67,68,69,70,71,72,73,74,75,76,77,78,79,80,81,82,83,0,4,9,10,11,12,13,14,15,16,17,19,20,21,22,23,24,25,26,27] ?_ ?_
           ·refine oq (Al rfl) (oq (A2 rfl) (oq (AH B2 rfl Ct rfl rfl) (of (Bi (i:=0) CX rfl rfl rfl) (oq (Al rfl) (oq (A2 rfl) (oq (AH B2 rfl Cs rfl rfl) (of (Bi (i:=0) CU rfl rfl rfl) (oq (Bj Ce rfl) (oq (H5 rfl rfl) (oq (Al rfl) (on hd (oq (Al rfl) (on hd (oq (A2 rfl) (on hd (oq (AH B2 rfl Cs rfl rfl) (on hd (of (Bi (i:=0) CU rfl rfl rfl) (on hd (oq (Al rfl) (on hd (oq (A2 rfl) (on hd ?_)))))))))))))))))))))));refine oq (AH B2 rfl Ct rfl rfl) (on hd (of (Bi (i:=0) CX rfl rfl rfl) (on hd (oq (Bq Ce rfl rfl (D6 hr hd)) (on hd (oq (CQ rfl rfl) (on hd (oq (Al rfl) (on he (oq (Al rfl) (on he (oq (A2 rfl) (on he (oq (AH B2 rfl Cs rfl rfl) (on he (of (Bi (i:=0) CU rfl rfl rfl) (on he (oq (Al rfl) (on he (oq (A2 rfl) (on he (oq (AH B2 rfl Ct rfl rfl) (on he ?_)))))))))))))))))))))));refine of (Bi (i:=0) CX rfl rfl rfl) (on he (oq (Bq Ce rfl rfl (D6 hr hd)) (on he (oq (CQ rfl rfl) (on hd (oq (A1 rfl he rfl) (oq (AC rfl hd rfl) ?_)))))));exact Cd
           exact Cm (And.intro hd he)
          ·refine C1 [0,4,9,10,11,12,13,14,15,16,17,19,20,21,22,23,24,25,26,27] [⟨[],rP ha 0,0⟩,⟨[0],rP ha 0,0⟩,⟨[1],rP ha 1,0⟩,⟨[2],Ap (hb+1),1⟩,⟨[],rP ha 0,0⟩,⟨[4],rP ha 0,0⟩,⟨[5],rP ha 0,0⟩,⟨[6],rS r1.2.fS,1⟩,⟨[7],Ap (r1.2.fS.length:Int),0⟩,⟨[3,8],rB (decide ((r1.2.fS.length:Int)≤(hb+1))),0⟩,⟨[9],rB (decide ((r1.2.fS.length:Int)≤(hb+1))),0⟩,⟨[10],rP ha 0,0⟩,⟨[11,10],rP ha 0,0⟩,⟨[12,10],rP ha 0,0⟩,⟨[13,10],rS r1.2.fS,1⟩,⟨[10],rP ha 0,0⟩,⟨[15,10],rP ha 0,0⟩,⟨[16,10],rP ha 1,0⟩,⟨[17,10],Ap (hb+1),1⟩,⟨[14,18,10],rI .u8 (Bm r1.2.fS (hb+1)),0⟩,⟨[19,10],rB (!decide ((Bm r1.2.fS (hb+1))=34)),0⟩,⟨[20,10],rB (!decide ((Bm r1.2.fS (hb+1))=34)),0⟩,⟨[21],rv undef,0⟩,⟨[22,21],rv undef,0⟩,⟨[23,21],rv undef,0⟩,⟨[24,21],rv undef,0⟩,⟨[21],rv undef,0⟩,⟨[26,21],rv undef,0⟩,⟨[27,21],rv undef,0⟩,⟨[28,21],rv undef,0⟩,⟨[25,29,21],rv undef,0⟩,⟨[30,21],rv undef,0⟩,⟨[21,31,10],rB false,0⟩,⟨[10,32],rB false,0⟩] [50,51,52,53,54,55,56,57,58,59,60,61,62,63,64,65,66,67,68,69,70,71,72,73,74,75,76,77,78,79,80,81,82,83,0,4,9,10,11,12,13,14,15,16,17,19,20,21,22,23,24,25,26,27] ?_ ?_
           ·refine oq (Al rfl) (oq (A2 rfl) (oq (AH B2 rfl Ct rfl rfl) (of (Bi (i:=0) CX rfl rfl rfl) (oq (Al rfl) (oq (A2 rfl) (oq (AH B2 rfl Cs rfl rfl) (of (Bi (i:=0) CU rfl rfl rfl) (oq (Bj Ce rfl) (oq (H5 rfl rfl) (oq (Al rfl) (on hd (oq (Al rfl) (on hd (oq (A2 rfl) (on hd (oq (AH B2 rfl Cs rfl rfl) (on hd (of (Bi (i:=0) CU rfl rfl rfl) (on hd (oq (Al rfl) (on hd (oq (A2 rfl) (on hd ?_)))))))))))))))))))))));refine oq (AH B2 rfl Ct rfl rfl) (on hd (of (Bi (i:=0) CX rfl rfl rfl) (on hd (oq (Bq Ce rfl rfl (D6 hr hd)) (on hd (oq (CQ rfl rfl) (on hd (oq (Al rfl) (oz he (oz he (oz he (oz he (oz he (oz he (oz he (oz he (oz he (oz he (on hd (oq (AC (b:=!decide ((Bm r1.2.fS (hb+1))=34)) rfl he rfl) (oq (AC rfl hd rfl) ?_)))))))))))))))))))));exact Cd
           exact Cm (And.intro hd he)
        refine cz hL rfl (λhN hO=>?_) (λhN hP=>?_)
        ·refine Ag (wv (r:=rS ([]:Af)) (Ax rfl) (wa rfl (Am (Av (Ac (Ay (Ac (Ay (Ac (AR ?_))))))))));have hQ:=Bo hO hj hk;refine Ay (Ac ?_);obtain rfl:=Aw hQ;exact Au (DC QX (AG rfl) (AG rfl)) (sC (sC (sS sN))) ⟨v4,rfl,rfl⟩
        ·refine Ar (AJ (Ai (ck hP λhR hS=>C1 [0,4,9,10,11,12,13,14,15,16,17,19,20,21,22,23,24,25,26,27,50,51,52,53,54,55,56,57,58,59,60] [⟨[],rP ha 0,0⟩,⟨[0],rP ha 0,0⟩,⟨[1],rP ha 0,0⟩,⟨[2],rS r1.2.fS,1⟩,⟨[],rP ha 0,0⟩,⟨[4],rP ha 0,0⟩,⟨[5],rP ha 1,0⟩,⟨[6],Ap (hb+1),1⟩,⟨[3,7],rI .u8 (Bm r1.2.fS (hb+1)),0⟩,⟨[8],rI .u8 (Bm r1.2.fS (hb+1)),0⟩] [84,85,86,87,88,89,90,91,92,5,0,4,9,10,11,12,13,14,15,16,17,19,20,21,22,23,24,25,26,27,50,51,52,53,54,55,56,57,58,59,60] ?_ ?_)))
         ·refine oq (Al rfl) (oq (A2 rfl) (oq (AH B2 rfl Cs rfl rfl) (of (Bi (i:=0) CU rfl rfl rfl) (oq (Al rfl) (oq (A2 rfl) (oq (AH B2 rfl Ct rfl rfl) (of (Bi (i:=0) CX rfl rfl rfl) (oq (Bq Ce rfl rfl hR) (oq (Ax rfl) ?_)))))))));exact Cd
         exact AJ (Ah (wm rfl (wv (A2 rfl) (vF B2 rfl Ct (vL 0 CX rfl (ck hS λhT hU=>wv (Bk rfl rfl hT) (wv (A2 rfl) (vF B2 rfl Ct (BI (i:=0) Ct rfl rfl (C0 rfl) rfl rfl (cs':=[rS r1.2.fS,Ap ((hb+1)+1),rv v4,rB r1.2.fGreat]) rfl (H':=[.blk ha [rS r1.2.fS,Ap ((hb+1)+1),rv v4,rB r1.2.fGreat] 127,.row v4 78 4 (A8 Ab r1.2.fCells),.row hg 5 1 (A8 Bc hf)]) rfl (Ak (AA (Az (A3 ((Bm r1.2.fS (hb+1),(hb+1)+1),()) hU (A6.c rfl (A6.c5 rfl rfl rfl rfl rfl (A6.c5 rfl rfl rfl rfl rfl (A6.c5 rfl rfl rfl rfl rfl (A6.c5 rfl rfl rfl rfl rfl A6.nil))))) (sC (sC (sC sN))))))))))))))))
       ·exact Ar (AA (Az (A3 ((Bm r1.2.fS hb,hb+1),()) hK (A6.c rfl (A6.c5 rfl rfl rfl rfl rfl (A6.c5 rfl rfl rfl rfl rfl (A6.c5 rfl rfl rfl rfl rfl (A6.c5 rfl rfl rfl rfl rfl A6.nil))))) (sC (sC (sC sN))))))
    ·rintro⟨⟨hi,hm⟩,⟨⟩⟩ hn;refine BG (l':=[(0,rP ha 0),(4,rv hg),(5,rI .u8 hi),(9,rP ha 0),(10,rP ha 0),(11,rP ha 1),(12,Ap hb),(13,rP ha 0),(14,rP ha 0),(15,rP ha 0),(16,rS r1.2.fS),(17,Ap (r1.2.fS.length:Int)),(19,rP ha 0),(20,rP ha 0),(21,rP ha 0),(22,rS r1.2.fS),(23,rP ha 0),(24,rP ha 0),(25,rP ha 1),(26,Ap hb),(27,rI .u8 (Bm r1.2.fS hb))]) (H':=[.blk ha [rS r1.2.fS,Ap hm,rv v4,rB r1.2.fGreat] 127,.row v4 78 4 (A8 Ab r1.2.fCells),.row hg 5 1 (A8 Bc hf)]) rfl rfl ?_;replace hn:Gd hf hi hm=some hq:=hn;unfold Gd at hn;refine Ah (wm rfl (wm rfl (AZ (ys:=([hi]:List Int)) (enc:=Bc) (css:=[[rI .u8 hi]]) (xs:=[.tmp 101]) E3 Zb Za rfl rfl rfl ⟨EI.one rfl (Up.refl _),trivial⟩ rfl CN rfl rfl rfl (λhV=>?_))));refine ck hn λhW hX=>Exists.elim Js λinf hinf=>BY (xs:=hf) (ys:=([hi]:List Int)) (enc:=Bc) (i:=3) E3 hinf.1 hinf.2.1 hinf.2.2.1 hinf.2.2.2 rfl rfl rfl rfl rfl (KA.w (i:=0) rfl rfl) CN IL hW rfl (λhs=>?_);refine wa rfl (Ak (AA (Dh (H2:=[.blk ha [rS r1.2.fS,Ap hm,rv v4,rB r1.2.fGreat] 127,.row v4 78 4 (A8 Ab r1.2.fCells),.row hs 5 1 (A8 Bc (hf++([hi]:List Int))),.row (.slice (some ⟨hV,0,none⟩) 1 1) 5 1 (A8 Bc ([hi]:List Int))]) ((A4 (i:=2) rfl).trans (AcJ _ ((A4 (i:=2) rfl).trans (AcJ _ (AcI _))))) ?_)));have hY:=Ba hX hj;exact Az (A3 (hy,(hf++([hi]:List Int),hm),hs) ⟨hY,AcM _⟩ (A6.c rfl (A6.c rfl A6.nil)) (sC (sC (sC (sS sN)))))
   ·refine Bl (As ?_);have hZ:=BB h1 hj hk;exact As (AV (A3 (hb,()) hZ A6.nil (sC (sC (sS sN)))))
  ·rintro⟨ht,⟨⟩⟩ ho;refine Cb (l':=[]) (H':=[.blk ha [rS r1.2.fS,Ap ht,rv v4,rB r1.2.fGreat] 127,.row v4 78 4 (A8 Ab r1.2.fCells)]) rfl rfl ?_;replace ho:Is r1 ht=some r:=ho;unfold Is at ho;refine AW (AJ (Ag (wv (r:=rS ([]:Af)) (Ax rfl) (wa rfl (Am (Av ?_))))));obtain rfl:=Aw ho;exact Au (DC QX (AG rfl) (AG rfl)) (sC (sC sN)) ⟨v4,rfl,rfl⟩
theorem Zr (F:Nat)(ha:Nat)(hl:Value)(q:At)(r:Bool×At)(h:NU F q=some r):Fn Tryz.prog GE 162 [rP ha 0] [.blk ha [rS q.fS,Ap q.fAt,rv hl,rB q.fGreat] 127,.row hl 78 4 (A8 Ab q.fCells)] (λR H=>∃w0_2:Value,R=rB r.1∧H=[.blk ha [rS r.2.fS,Ap r.2.fAt,rv w0_2,rB r.2.fGreat] 127,.row w0_2 78 4 (A8 Ab r.2.fCells)]):=by
 refine enter (n:=104) Tryz.func162 rfl Tryz.ntmps162 rfl (λw Z=>?_);unfold NU at h;refine Ag (wa rfl (Bv (wm rfl (wv (A2 rfl) (vF B2 rfl Ct (vL 0 CX rfl (wa rfl (Bv (wm rfl (ob h λr1 e3 h2=>Gt (Hr:=[]) Hq (DB ha hl q ([45]:Af) r1 e3) rfl (AcI _) rfl ?_))))))))));rintro _ _ ⟨v4,rfl,rfl⟩;refine Bv (wm rfl (wv (A2 rfl) (vF B2 rfl Ct (vL 0 CX rfl (wa rfl (Am (Ai (A9 (ob h2 λhp hq hr=>Bg (S:=Nat×(Int)×(Unit)) (V:=(Int)×(Unit)) 0 (λσ=>B7 (λσ=>EA r1 σ) σ.1 σ.2.1=some hp) (λσ=>[(0,rP ha 0),(3,Ap q.fAt),(4,Ap r1.2.fAt)]) (λσ=>[.blk ha [rS r1.2.fS,Ap σ.2.1,rv v4,rB r1.2.fGreat] 127,.row v4 78 4 (A8 Ab r1.2.fCells)]) (λσ=>σ.1) (F,r1.2.fAt,()) hq (A6.c rfl (A6.c rfl (A6.c rfl A6.nil))) (sC (sC sN)) (λσ=>J6 q r1 σ.1=some r) (λσ=>[(0,rP ha 0),(3,Ap q.fAt),(4,Ap r1.2.fAt)]) (λσ=>[.blk ha [rS r1.2.fS,Ap σ.1,rv v4,rB r1.2.fGreat] 127,.row v4 78 4 (A8 Ab r1.2.fCells)]) ?_ ?_)))))))))
 ·rintro⟨hH,hd,⟨⟩⟩ hs;refine BG (l':=[(0,rP ha 0),(3,Ap q.fAt),(4,Ap r1.2.fAt)]) (H':=[.blk ha [rS r1.2.fS,Ap hd,rv v4,rB r1.2.fGreat] 127,.row v4 78 4 (A8 Ab r1.2.fCells)]) rfl rfl ?_;obtain⟨ht,rfl,hu,hj,hn⟩:=BZ hs;replace hj:EA r1 hd=some hu:=hj;unfold EA at hj;refine Ai (ck hj λhm hw=>AK [(0,rP ha 0),(3,Ap q.fAt),(4,Ap r1.2.fAt),(17,rP ha 0),(18,rP ha 0),(19,rP ha 1),(20,Ap hd),(21,rP ha 0),(22,rP ha 0),(23,rP ha 0),(24,rS r1.2.fS),(25,Ap (r1.2.fS.length:Int)),(26,rB (decide (hd<(r1.2.fS.length:Int)))),(27,rB (decide (hd<(r1.2.fS.length:Int)))),(38,rB ((decide (hd<(r1.2.fS.length:Int)))&&(decide (48≤(Bm r1.2.fS hd))))),(39,rB ((decide (hd<(r1.2.fS.length:Int)))&&(decide (48≤(Bm r1.2.fS hd))))),(50,rB ((decide (hd<(r1.2.fS.length:Int)))&&((decide (48≤(Bm r1.2.fS hd)))&&(decide ((Bm r1.2.fS hd)≤57)))))] [.blk ha [rS r1.2.fS,Ap hd,rv v4,rB r1.2.fGreat] 127,.row v4 78 4 (A8 Ab r1.2.fCells)] ?_ ?_)
  ·refine AS (decide (hd<(r1.2.fS.length:Int))) (λhe=>?_) (λhe=>?_)
   ·refine AS (decide (48≤(Bm r1.2.fS hd))) (λhf=>?_) (λhf=>?_)
    ·refine C1 [0,3,4] [⟨[],rP ha 0,0⟩,⟨[0],rP ha 0,0⟩,⟨[1],rP ha 1,0⟩,⟨[2],Ap hd,1⟩,⟨[],rP ha 0,0⟩,⟨[4],rP ha 0,0⟩,⟨[5],rP ha 0,0⟩,⟨[6],rS r1.2.fS,1⟩,⟨[7],Ap (r1.2.fS.length:Int),0⟩,⟨[3,8],rB (decide (hd<(r1.2.fS.length:Int))),0⟩,⟨[9],rB (decide (hd<(r1.2.fS.length:Int))),0⟩,⟨[10],rP ha 0,0⟩,⟨[11,10],rP ha 0,0⟩,⟨[12,10],rP ha 0,0⟩,⟨[13,10],rS r1.2.fS,1⟩,⟨[10],rP ha 0,0⟩,⟨[15,10],rP ha 0,0⟩,⟨[16,10],rP ha 1,0⟩,⟨[17,10],Ap hd,1⟩,⟨[14,18,10],rI .u8 (Bm r1.2.fS hd),0⟩,⟨[19,10],rB (decide (48≤(Bm r1.2.fS hd))),0⟩,⟨[10,20],rB (decide (48≤(Bm r1.2.fS hd))),0⟩,⟨[21],rB (decide (48≤(Bm r1.2.fS hd))),0⟩,⟨[22],rP ha 0,0⟩,⟨[23,22],rP ha 0,0⟩,⟨[24,22],rP ha 0,0⟩,⟨[25,22],rS r1.2.fS,1⟩,⟨[22],rP ha 0,0⟩,⟨[27,22],rP ha 0,0⟩,⟨[28,22],rP ha 1,0⟩,⟨[29,22],Ap hd,1⟩,⟨[26,30,22],rI .u8 (Bm r1.2.fS hd),0⟩,⟨[31,22],rB (decide ((Bm r1.2.fS hd)≤57)),0⟩,⟨[22,32],rB (decide ((Bm r1.2.fS hd)≤57)),0⟩] [17,18,19,20,21,22,23,24,25,26,27,28,29,30,31,32,33,34,35,36,37,38,39,40,41,42,43,44,45,46,47,48,49,50,0,3,4] ?_ ?_
     ·refine oq (Al rfl) (oq (A2 rfl) (oq (AH B2 rfl Ct rfl rfl) (of (Bi (i:=0) CX rfl rfl rfl) (oq (Al rfl) (oq (A2 rfl) (oq (AH B2 rfl Cs rfl rfl) (of (Bi (i:=0) CU rfl rfl rfl) (oq (Bj Ce rfl) (oq (Cj rfl rfl) (oq (Al rfl) (on he (oq (Al rfl) (on he (oq (A2 rfl) (on he (oq (AH B2 rfl Cs rfl rfl) (on he (of (Bi (i:=0) CU rfl rfl rfl) (on he (oq (Al rfl) (on he (oq (A2 rfl) (on he ?_)))))))))))))))))))))));refine oq (AH B2 rfl Ct rfl rfl) (on he (of (Bi (i:=0) CX rfl rfl rfl) (on he (oq (Bq Ce rfl rfl (DP hm he)) (on he (oq (H5 rfl rfl) (oq (A1 rfl he rfl) (oq (Al rfl) (on hf (oq (Al rfl) (on hf (oq (A2 rfl) (on hf (oq (AH B2 rfl Cs rfl rfl) (on hf (of (Bi (i:=0) CU rfl rfl rfl) (on hf (oq (Al rfl) (on hf (oq (A2 rfl) (on hf (oq (AH B2 rfl Ct rfl rfl) (on hf ?_)))))))))))))))))))))));refine of (Bi (i:=0) CX rfl rfl rfl) (on hf (oq (Bq Ce rfl rfl (DP hm he)) (on hf (oq (M0 rfl rfl) (oq (A1 rfl hf rfl) ?_)))));exact Cd
     exact Cm (And.intro he hf)
    ·refine C1 [0,3,4] [⟨[],rP ha 0,0⟩,⟨[0],rP ha 0,0⟩,⟨[1],rP ha 1,0⟩,⟨[2],Ap hd,1⟩,⟨[],rP ha 0,0⟩,⟨[4],rP ha 0,0⟩,⟨[5],rP ha 0,0⟩,⟨[6],rS r1.2.fS,1⟩,⟨[7],Ap (r1.2.fS.length:Int),0⟩,⟨[3,8],rB (decide (hd<(r1.2.fS.length:Int))),0⟩,⟨[9],rB (decide (hd<(r1.2.fS.length:Int))),0⟩,⟨[10],rP ha 0,0⟩,⟨[11,10],rP ha 0,0⟩,⟨[12,10],rP ha 0,0⟩,⟨[13,10],rS r1.2.fS,1⟩,⟨[10],rP ha 0,0⟩,⟨[15,10],rP ha 0,0⟩,⟨[16,10],rP ha 1,0⟩,⟨[17,10],Ap hd,1⟩,⟨[14,18,10],rI .u8 (Bm r1.2.fS hd),0⟩,⟨[19,10],rB (decide (48≤(Bm r1.2.fS hd))),0⟩,⟨[10,20],rB (decide (48≤(Bm r1.2.fS hd))),0⟩,⟨[21],rB (decide (48≤(Bm r1.2.fS hd))),0⟩,⟨[22],rv undef,0⟩,⟨[23,22],rv undef,0⟩,⟨[24,22],rv undef,0⟩,⟨[25,22],rv undef,0⟩,⟨[22],rv undef,0⟩,⟨[27,22],rv undef,0⟩,⟨[28,22],rv undef,0⟩,⟨[29,22],rv undef,0⟩,⟨[26,30,22],rv undef,0⟩,⟨[31,22],rv undef,0⟩,⟨[22,32],rB false,0⟩] [17,18,19,20,21,22,23,24,25,26,27,28,29,30,31,32,33,34,35,36,37,38,39,40,41,42,43,44,45,46,47,48,49,50,0,3,4] ?_ ?_
     ·refine oq (Al rfl) (oq (A2 rfl) (oq (AH B2 rfl Ct rfl rfl) (of (Bi (i:=0) CX rfl rfl rfl) (oq (Al rfl) (oq (A2 rfl) (oq (AH B2 rfl Cs rfl rfl) (of (Bi (i:=0) CU rfl rfl rfl) (oq (Bj Ce rfl) (oq (Cj rfl rfl) (oq (Al rfl) (on he (oq (Al rfl) (on he (oq (A2 rfl) (on he (oq (AH B2 rfl Cs rfl rfl) (on he (of (Bi (i:=0) CU rfl rfl rfl) (on he (oq (Al rfl) (on he (oq (A2 rfl) (on he ?_)))))))))))))))))))))));refine oq (AH B2 rfl Ct rfl rfl) (on he (of (Bi (i:=0) CX rfl rfl rfl) (on he (oq (Bq Ce rfl rfl (DP hm he)) (on he (oq (H5 rfl rfl) (oq (A1 rfl he rfl) (oq (Al rfl) (oz hf (oz hf (oz hf (oz hf (oz hf (oz hf (oz hf (oz hf (oz hf (oz hf (oq (AC (b:=decide (48≤(Bm r1.2.fS hd))) rfl hf rfl) ?_)))))))))))))))))));exact Cd
     exact Cm (And.intro he hf)
   ·refine C1 [0,3,4] [⟨[],rP ha 0,0⟩,⟨[0],rP ha 0,0⟩,⟨[1],rP ha 1,0⟩,⟨[2],Ap hd,1⟩,⟨[],rP ha 0,0⟩,⟨[4],rP ha 0,0⟩,⟨[5],rP ha 0,0⟩,⟨[6],rS r1.2.fS,1⟩,⟨[7],Ap (r1.2.fS.length:Int),0⟩,⟨[3,8],rB (decide (hd<(r1.2.fS.length:Int))),0⟩,⟨[9],rB (decide (hd<(r1.2.fS.length:Int))),0⟩,⟨[10],rv undef,0⟩,⟨[11,10],rv undef,0⟩,⟨[12,10],rv undef,0⟩,⟨[13,10],rv undef,0⟩,⟨[10],rv undef,0⟩,⟨[15,10],rv undef,0⟩,⟨[16,10],rv undef,0⟩,⟨[17,10],rv undef,0⟩,⟨[14,18,10],rv undef,0⟩,⟨[19,10],rv undef,0⟩,⟨[10,20],rB false,0⟩,⟨[21],rB false,0⟩,⟨[22],rv undef,0⟩,⟨[23,22],rv undef,0⟩,⟨[24,22],rv undef,0⟩,⟨[25,22],rv undef,0⟩,⟨[22],rv undef,0⟩,⟨[27,22],rv undef,0⟩,⟨[28,22],rv undef,0⟩,⟨[29,22],rv undef,0⟩,⟨[26,30,22],rv undef,0⟩,⟨[31,22],rv undef,0⟩,⟨[22,32],rB false,0⟩] [17,18,19,20,21,22,23,24,25,26,27,28,29,30,31,32,33,34,35,36,37,38,39,40,41,42,43,44,45,46,47,48,49,50,0,3,4] ?_ ?_
    ·refine oq (Al rfl) (oq (A2 rfl) (oq (AH B2 rfl Ct rfl rfl) (of (Bi (i:=0) CX rfl rfl rfl) (oq (Al rfl) (oq (A2 rfl) (oq (AH B2 rfl Cs rfl rfl) (of (Bi (i:=0) CU rfl rfl rfl) (oq (Bj Ce rfl) (oq (Cj rfl rfl) (oq (Al rfl) (oz he (oz he (oz he (oz he (oz he (oz he (oz he (oz he (oz he (oz he (oq (AC (b:=decide (hd<(r1.2.fS.length:Int))) rfl he rfl) (oq (Al rfl) (oz rfl ?_)))))))))))))))))))))));refine oz rfl (oz rfl (oz rfl (oz rfl (oz rfl (oz rfl (oz rfl (oz rfl (oz rfl (oq (AC (b:=false) rfl rfl rfl) ?_)))))))));exact Cd
    exact Cm he
  refine cz hw rfl (λhx hy=>?_) (λhx hz=>?_)
  ·refine Ar (AJ (A9 (Ah (wm rfl (wv (A2 rfl) (vF B2 rfl Ct (vL 0 CX rfl (ck hy λh0 h1=>wv (Bk rfl rfl h0) (wv (A2 rfl) (vF B2 rfl Ct (BI (i:=0) Ct rfl rfl (C0 rfl) rfl rfl (cs':=[rS r1.2.fS,Ap (hd+1),rv v4,rB r1.2.fGreat]) rfl (H':=[.blk ha [rS r1.2.fS,Ap (hd+1),rv v4,rB r1.2.fGreat] 127,.row v4 78 4 (A8 Ab r1.2.fCells)]) rfl (Ak (AA ?_)))))))))))));have h3:=Ba h1 hn;exact Az (A3 (ht,hd+1,()) ⟨h3,AcM _⟩ (A6.c rfl (A6.c rfl (A6.c rfl A6.nil))) (sC (sC sN)))
  ·refine Bl (As ?_);have h4:=BB hz hn hr;exact As (AV (A3 (hd,()) h4 (A6.c rfl (A6.c rfl (A6.c rfl A6.nil))) (sC (sC sN))))
 ·rintro⟨hb,⟨⟩⟩ hk;refine Cb (l':=[(0,rP ha 0),(3,Ap q.fAt),(4,Ap r1.2.fAt)]) (H':=[.blk ha [rS r1.2.fS,Ap hb,rv v4,rB r1.2.fGreat] 127,.row v4 78 4 (A8 Ab r1.2.fCells)]) rfl rfl ?_;replace hk:J6 q r1 hb=some r:=hk;unfold J6 at hk;refine AW (AJ (Ai (ck hk λh5 h6=>ck h6 λh7 h8=>ck h8 λh9 hA=>C1 [0,3,4] [⟨[],rP ha 0,0⟩,⟨[0],rP ha 0,0⟩,⟨[1],rP ha 0,0⟩,⟨[2],rS r1.2.fS,1⟩,⟨[],Ap q.fAt,0⟩,⟨[],rP ha 0,0⟩,⟨[5],rP ha 0,0⟩,⟨[6],rP ha 1,0⟩,⟨[7],Ap hb,1⟩,⟨[3,4,8],rS (List.take (B3 hb-B3 q.fAt) (List.drop (B3 q.fAt) r1.2.fS)),0⟩,⟨[9],C2 [Ap (By (List.take (B3 hb-B3 q.fAt) (List.drop (B3 q.fAt) r1.2.fS))),Ap (BP (List.take (B3 hb-B3 q.fAt) (List.drop (B3 q.fAt) r1.2.fS)))],0⟩,⟨[10],C2 [Ap (By (List.take (B3 hb-B3 q.fAt) (List.drop (B3 q.fAt) r1.2.fS))),Ap (BP (List.take (B3 hb-B3 q.fAt) (List.drop (B3 q.fAt) r1.2.fS)))],0⟩,⟨[11],Ap (By (List.take (B3 hb-B3 q.fAt) (List.drop (B3 q.fAt) r1.2.fS))),0⟩,⟨[11],Ap (BP (List.take (B3 hb-B3 q.fAt) (List.drop (B3 q.fAt) r1.2.fS))),0⟩,⟨[12],Ap (By (List.take (B3 hb-B3 q.fAt) (List.drop (B3 q.fAt) r1.2.fS))),0⟩,⟨[13],Ap (BP (List.take (B3 hb-B3 q.fAt) (List.drop (B3 q.fAt) r1.2.fS))),0⟩] [5,6,0,4] ?_ ?_)))
  ·refine oq (Al rfl) (oq (A2 rfl) (oq (AH B2 rfl Cs rfl rfl) (of (Bi (i:=0) CU rfl rfl rfl) (oq (Al rfl) (oq (Al rfl) (oq (A2 rfl) (oq (AH B2 rfl Ct rfl rfl) (of (Bi (i:=0) CX rfl rfl rfl) (oq (G3 Ce rfl rfl rfl h5 h7) (DN rfl (λH=>I8 (rs:=[rS (List.take (B3 hb-B3 q.fAt) (List.drop (B3 q.fAt) r1.2.fS))]) (r:=C2 [Ap (By (List.take (B3 hb-B3 q.fAt) (List.drop (B3 q.fAt) r1.2.fS))),Ap (BP (List.take (B3 hb-B3 q.fAt) (List.drop (B3 q.fAt) r1.2.fS)))]) Tryz.call73 rfl (TQ (List.take (B3 hb-B3 q.fAt) (List.drop (B3 q.fAt) r1.2.fS)) h9) rfl) ?_))))))))));refine oq (Al rfl) (oq (AE rfl rfl) (oq (AE rfl rfl) (oq (Ax rfl) (oq (Ax rfl) ?_))));exact Cd
  refine AJ (Ai (AK [(0,rP ha 0),(5,Ap (By (List.take (B3 hb-B3 q.fAt) (List.drop (B3 q.fAt) r1.2.fS)))),(6,Ap (BP (List.take (B3 hb-B3 q.fAt) (List.drop (B3 q.fAt) r1.2.fS)))),(81,rB ((decide ((BP (List.take (B3 hb-B3 q.fAt) (List.drop (B3 q.fAt) r1.2.fS)))=1))||(decide (r1.2.fAt=hb))))] [.blk ha [rS r1.2.fS,Ap hb,rv v4,rB r1.2.fGreat] 127,.row v4 78 4 (A8 Ab r1.2.fCells)] ?_ ?_))
  ·refine Ah (wm rfl (wv (B6 rfl rfl) (wm rfl (AS (decide ((BP (List.take (B3 hb-B3 q.fAt) (List.drop (B3 q.fAt) r1.2.fS)))=1)) (λhg=>?_) (λhg=>?_)))))
   ·refine wf hg (wf hg (wf hg (wf hg (wf hg (wf hg (wv (r:=rB true) (A1 rfl hg rfl) (Ak ?_)))))));exact Cm hg
   ·refine wo hg (wm rfl (wo hg (wm rfl (wo hg (wv (A2 rfl) (wo hg (vF B2 rfl Ct (wo hg (vL 0 CX rfl (wo hg (wv (B6 rfl rfl) (GK rfl hg rfl (Ak ?_)))))))))))));exact Cm hg
  refine cz hA rfl (λhB hC=>?_) (λhB hD=>?_)
  ·refine Ag (wa rfl (Am (Av (Ac ?_))));obtain rfl:=Aw hC;exact Au (BQ Tryz.results162 (AG rfl)) (sC (sC sN)) ⟨v4,rfl,rfl⟩
  ·refine Ar (AJ (AK [(0,rP ha 0),(5,Ap (By (List.take (B3 hb-B3 q.fAt) (List.drop (B3 q.fAt) r1.2.fS))))] [.blk ha [rS r1.2.fS,Ap hb,rv v4,rB (r1.2.fGreat||(!decide ((BP (List.take (B3 hb-B3 q.fAt) (List.drop (B3 q.fAt) r1.2.fS)))=0)))] 127,.row v4 78 4 (A8 Ab r1.2.fCells)] ?_ ?_))
   ·refine Ah (wm rfl (wm rfl (wv (A2 rfl) (vF B2 rfl HJ (vL 0 Qg rfl (wm rfl (AS (r1.2.fGreat) (λhh=>?_) (λhh=>?_))))))))
    ·refine wf hh (wf hh (wv (r:=rB true) (A1 rfl hh rfl) (wv (A2 rfl) (vF B2 rfl HJ (BI (i:=0) HJ rfl rfl (C0 rfl) rfl rfl (cs':=[rS r1.2.fS,Ap hb,rv v4,rB true]) rfl (H':=[.blk ha [rS r1.2.fS,Ap hb,rv v4,rB true] 127,.row v4 78 4 (A8 Ab r1.2.fCells)]) rfl (Ak (IT (H':=[.blk ha [rS r1.2.fS,Ap hb,rv v4,rB (r1.2.fGreat||(!decide ((BP (List.take (B3 hb-B3 q.fAt) (List.drop (B3 q.fAt) r1.2.fS)))=0)))] 127,.row v4 78 4 (A8 Ab r1.2.fCells)]) (by simp only[hh,AcQ,Adb,Adq,AcW,AcZ,Add,Adl,Adi,AcP,Ada,AcH,AcD]) ?_)))))));exact wt
    ·refine wo hh (wm rfl (wo hh (wv (CQ rfl rfl) (GK rfl hh rfl (wv (A2 rfl) (vF B2 rfl HJ (BI (i:=0) HJ rfl rfl (C0 rfl) rfl rfl (cs':=[rS r1.2.fS,Ap hb,rv v4,rB (!decide ((BP (List.take (B3 hb-B3 q.fAt) (List.drop (B3 q.fAt) r1.2.fS)))=0))]) rfl (H':=[.blk ha [rS r1.2.fS,Ap hb,rv v4,rB (!decide ((BP (List.take (B3 hb-B3 q.fAt) (List.drop (B3 q.fAt) r1.2.fS)))=0))] 127,.row v4 78 4 (A8 Ab r1.2.fCells)]) rfl (Ak (IT (H':=[.blk ha [rS r1.2.fS,Ap hb,rv v4,rB (r1.2.fGreat||(!decide ((BP (List.take (B3 hb-B3 q.fAt) (List.drop (B3 q.fAt) r1.2.fS)))=0)))] 127,.row v4 78 4 (A8 Ab r1.2.fCells)]) (by simp only[hh,AcQ,Adb,Adq,AcW,AcZ,Add,Adl,Adi,AcP,Ada,AcH,AcD]) ?_)))))))));exact wt
   refine Ag (wm rfl (wm rfl (wv (A2 rfl) (vF B2 rfl CO (vL 0 EL rfl (wm rfl (wv (r:=BK [Ap 3,Ap (By (List.take (B3 hb-B3 q.fAt) (List.drop (B3 q.fAt) r1.2.fS))),rS ([]:Af),Ap 0]) (Ie rfl rfl rfl rfl) (AZ (ys:=([(Aa.mk 3 (By (List.take (B3 hb-B3 q.fAt) (List.drop (B3 q.fAt) r1.2.fS))) ([]:Af) 0)]:List Aa)) (enc:=Ab) (css:=[[Ap 3,Ap (By (List.take (B3 hb-B3 q.fAt) (List.drop (B3 q.fAt) r1.2.fS))),rS ([]:Af),Ap 0]]) (xs:=[.tmp 99]) Cg CK KO rfl rfl rfl ⟨EI.agg ⟨Up.refl _,Up.refl _,Up.refl _,Up.refl _,trivial⟩,trivial⟩ rfl Bz rfl rfl rfl (λho=>?_)))))))));refine ck hD λhE hG=>Exists.elim Je λinf hinf=>BY (xs:=r1.2.fCells) (ys:=([(Aa.mk 3 (By (List.take (B3 hb-B3 q.fAt) (List.drop (B3 q.fAt) r1.2.fS))) ([]:Af) 0)]:List Aa)) (enc:=Ab) (i:=2) Cg hinf.1 hinf.2.1 hinf.2.2.1 hinf.2.2.2 rfl rfl rfl rfl rfl (KA.w (i:=0) rfl rfl) Bz CF hE rfl (λhi=>?_);refine wv (A2 rfl) (vF B2 rfl CO (BI (i:=2) CO rfl rfl (Ey (i:=0) rfl) rfl rfl (cs':=[rS r1.2.fS,Ap hb,rv hi,rB (r1.2.fGreat||(!decide ((BP (List.take (B3 hb-B3 q.fAt) (List.drop (B3 q.fAt) r1.2.fS)))=0)))]) rfl (H':=[.row hi 78 4 (A8 Ab (r1.2.fCells++([(Aa.mk 3 (By (List.take (B3 hb-B3 q.fAt) (List.drop (B3 q.fAt) r1.2.fS))) ([]:Af) 0)]:List Aa))),.row (.slice (some ⟨ho,0,none⟩) 1 1) 78 4 (A8 Ab ([(Aa.mk 3 (By (List.take (B3 hb-B3 q.fAt) (List.drop (B3 q.fAt) r1.2.fS))) ([]:Af) 0)]:List Aa)),.blk ha [rS r1.2.fS,Ap hb,rv hi,rB (r1.2.fGreat||(!decide ((BP (List.take (B3 hb-B3 q.fAt) (List.drop (B3 q.fAt) r1.2.fS)))=0)))] 127]) rfl (Bv (wa rfl (Am (Av (Dh (H2:=[.blk ha [rS r1.2.fS,Ap hb,rv hi,rB (r1.2.fGreat||(!decide ((BP (List.take (B3 hb-B3 q.fAt) (List.drop (B3 q.fAt) r1.2.fS)))=0)))] 127,.row hi 78 4 (A8 Ab (r1.2.fCells++([(Aa.mk 3 (By (List.take (B3 hb-B3 q.fAt) (List.drop (B3 q.fAt) r1.2.fS))) ([]:Af) 0)]:List Aa))),.row (.slice (some ⟨ho,0,none⟩) 1 1) 78 4 (A8 Ab ([(Aa.mk 3 (By (List.take (B3 hb-B3 q.fAt) (List.drop (B3 q.fAt) r1.2.fS))) ([]:Af) 0)]:List Aa))]) ((A4 (i:=2) rfl).trans (AcJ _ (AcI _))) ?_)))))));obtain rfl:=Aw hG;exact Au (BQ Tryz.results162 (AG rfl)) (sC (sC (sS sN))) ⟨hi,rfl,rfl⟩
theorem SL (F:Nat)(hd:Nat)(hk:Value)(q:At)(r:Bool×At)(h:It F q=some r):Fn Tryz.prog GE 134 [rP hd 0] [.blk hd [rS q.fS,Ap q.fAt,rv hk,rB q.fGreat] 127,.row hk 78 4 (A8 Ab q.fCells)] (λR H=>∃w0_2:Value,R=rB r.1∧H=[.blk hd [rS r.2.fS,Ap r.2.fAt,rv w0_2,rB r.2.fGreat] 127,.row w0_2 78 4 (A8 Ab r.2.fCells)]):=by
 refine enter (n:=75) Tryz.func134 rfl Tryz.ntmps134 rfl (λw Z=>?_);unfold It at h;refine Ag (wa rfl (Am (De (S:=(Af×Int×(List Aa)×Bool)×(Value)) (λσ=>Ee σ.1.1 σ.1.2.1 σ.1.2.2.1 σ.1.2.2.2=some r) (λσ=>[]) (λσ=>[.blk hd [rS σ.1.1,Ap σ.1.2.1,rv σ.2,rB σ.1.2.2.2] 127,.row σ.2 78 4 (A8 Ab σ.1.2.2.1)]) ?_ ?_)))
 ·refine A9 (Ag (wm rfl (ob h λhe hx hy=>Gt (Hr:=[]) Hq (DB hd hk q ([110,117,108,108]:Af) he hx) rfl (AcI _) rfl ?_)));rintro _ _ ⟨hz,rfl,rfl⟩;refine wa rfl (Am (cz hy rfl (λh0 h1=>?_) (λh0 h2=>?_)))
  ·refine Ah (wm rfl (wm rfl (wv (A2 rfl) (vF B2 rfl CO (vL 0 EL rfl (wv (r:=BK [Ap 1,Ap 0,rS ([]:Af),Ap 0]) (HQ rfl rfl) (AZ (ys:=([(Aa.mk 1 0 ([]:Af) 0)]:List Aa)) (enc:=Ab) (css:=[[Ap 1,Ap 0,rS ([]:Af),Ap 0]]) (xs:=[.tmp 15]) Cg CK KO rfl rfl rfl ⟨EI.agg ⟨Up.refl _,Up.refl _,Up.refl _,Up.refl _,trivial⟩,trivial⟩ rfl Bz rfl rfl rfl (λhn=>?_))))))));refine ck h1 λh3 h4=>Exists.elim Je λinf hinf=>BY (xs:=he.2.fCells) (ys:=([(Aa.mk 1 0 ([]:Af) 0)]:List Aa)) (enc:=Ab) (i:=2) Cg hinf.1 hinf.2.1 hinf.2.2.1 hinf.2.2.2 rfl rfl rfl rfl rfl (KA.w (i:=0) rfl rfl) Bz CF h3 rfl (λhg=>?_);exact wv (A2 rfl) (vF B2 rfl CO (BI (i:=2) CO rfl rfl (Ey (i:=0) rfl) rfl rfl (cs':=[rS he.2.fS,Ap he.2.fAt,rv hg,rB he.2.fGreat]) rfl (H':=[.row hg 78 4 (A8 Ab (he.2.fCells++([(Aa.mk 1 0 ([]:Af) 0)]:List Aa))),.row (.slice (some ⟨hn,0,none⟩) 1 1) 78 4 (A8 Ab ([(Aa.mk 1 0 ([]:Af) 0)]:List Aa)),.blk hd [rS he.2.fS,Ap he.2.fAt,rv hg,rB he.2.fGreat] 127]) rfl (Ak (AA (Dh (H2:=[.blk hd [rS he.2.fS,Ap he.2.fAt,rv hg,rB he.2.fGreat] 127,.row hg 78 4 (A8 Ab (he.2.fCells++([(Aa.mk 1 0 ([]:Af) 0)]:List Aa))),.row (.slice (some ⟨hn,0,none⟩) 1 1) 78 4 (A8 Ab ([(Aa.mk 1 0 ([]:Af) 0)]:List Aa))]) ((A4 (i:=2) rfl).trans (AcJ _ (AcI _))) (Az (A3 ((he.2.fS,he.2.fAt,he.2.fCells++([(Aa.mk 1 0 ([]:Af) 0)]:List Aa),he.2.fGreat),hg) h4 A6.nil (sC (sC (sS sN))))))))))
  ·refine Ag (wm rfl (ob h2 λhf h5 h6=>Gt (Hr:=[]) Hq (DB hd hz he.2 ([116,114,117,101]:Af) hf h5) rfl (AcI _) rfl ?_));rintro _ _ ⟨v76,rfl,rfl⟩;refine wa rfl (Am (cz h6 rfl (λh7 h8=>?_) (λh7 h9=>?_)))
   ·refine Ah (wm rfl (wm rfl (wv (A2 rfl) (vF B2 rfl CO (vL 0 EL rfl (wv (r:=BK [Ap 2,Ap 1,rS ([]:Af),Ap 0]) (Ie rfl rfl rfl rfl) (AZ (ys:=([(Aa.mk 2 1 ([]:Af) 0)]:List Aa)) (enc:=Ab) (css:=[[Ap 2,Ap 1,rS ([]:Af),Ap 0]]) (xs:=[.tmp 28]) Cg CK KO rfl rfl rfl ⟨EI.agg ⟨Up.refl _,Up.refl _,Up.refl _,Up.refl _,trivial⟩,trivial⟩ rfl Bz rfl rfl rfl (λho=>?_))))))));refine ck h8 λhA hB=>Exists.elim Je λinf hinf=>BY (xs:=hf.2.fCells) (ys:=([(Aa.mk 2 1 ([]:Af) 0)]:List Aa)) (enc:=Ab) (i:=2) Cg hinf.1 hinf.2.1 hinf.2.2.1 hinf.2.2.2 rfl rfl rfl rfl rfl (KA.w (i:=0) rfl rfl) Bz CF hA rfl (λv80=>?_);exact wv (A2 rfl) (vF B2 rfl CO (BI (i:=2) CO rfl rfl (Ey (i:=0) rfl) rfl rfl (cs':=[rS hf.2.fS,Ap hf.2.fAt,rv v80,rB hf.2.fGreat]) rfl (H':=[.row v80 78 4 (A8 Ab (hf.2.fCells++([(Aa.mk 2 1 ([]:Af) 0)]:List Aa))),.row (.slice (some ⟨ho,0,none⟩) 1 1) 78 4 (A8 Ab ([(Aa.mk 2 1 ([]:Af) 0)]:List Aa)),.blk hd [rS hf.2.fS,Ap hf.2.fAt,rv v80,rB hf.2.fGreat] 127]) rfl (Ak (AA (Dh (H2:=[.blk hd [rS hf.2.fS,Ap hf.2.fAt,rv v80,rB hf.2.fGreat] 127,.row v80 78 4 (A8 Ab (hf.2.fCells++([(Aa.mk 2 1 ([]:Af) 0)]:List Aa))),.row (.slice (some ⟨ho,0,none⟩) 1 1) 78 4 (A8 Ab ([(Aa.mk 2 1 ([]:Af) 0)]:List Aa))]) ((A4 (i:=2) rfl).trans (AcJ _ (AcI _))) (Az (A3 ((hf.2.fS,hf.2.fAt,hf.2.fCells++([(Aa.mk 2 1 ([]:Af) 0)]:List Aa),hf.2.fGreat),v80) hB A6.nil (sC (sC (sS sN))))))))))
   ·refine Ag (wm rfl (ob h9 λhb hC hD=>Gt (Hr:=[]) Hq (DB hd v76 hf.2 ([102,97,108,115,101]:Af) hb hC) rfl (AcI _) rfl ?_));rintro _ _ ⟨hp,rfl,rfl⟩;refine wa rfl (Am (cz hD rfl (λhE hG=>?_) (λhE hH=>?_)))
    ·refine Ah (wm rfl (wm rfl (wv (A2 rfl) (vF B2 rfl CO (vL 0 EL rfl (wv (r:=BK [Ap 2,Ap 0,rS ([]:Af),Ap 0]) (HQ rfl rfl) (AZ (ys:=([(Aa.mk 2 0 ([]:Af) 0)]:List Aa)) (enc:=Ab) (css:=[[Ap 2,Ap 0,rS ([]:Af),Ap 0]]) (xs:=[.tmp 41]) Cg CK KO rfl rfl rfl ⟨EI.agg ⟨Up.refl _,Up.refl _,Up.refl _,Up.refl _,trivial⟩,trivial⟩ rfl Bz rfl rfl rfl (λhq=>?_))))))));refine ck hG λhI hJ=>Exists.elim Je λinf hinf=>BY (xs:=hb.2.fCells) (ys:=([(Aa.mk 2 0 ([]:Af) 0)]:List Aa)) (enc:=Ab) (i:=2) Cg hinf.1 hinf.2.1 hinf.2.2.1 hinf.2.2.2 rfl rfl rfl rfl rfl (KA.w (i:=0) rfl rfl) Bz CF hI rfl (λhh=>?_);exact wv (A2 rfl) (vF B2 rfl CO (BI (i:=2) CO rfl rfl (Ey (i:=0) rfl) rfl rfl (cs':=[rS hb.2.fS,Ap hb.2.fAt,rv hh,rB hb.2.fGreat]) rfl (H':=[.row hh 78 4 (A8 Ab (hb.2.fCells++([(Aa.mk 2 0 ([]:Af) 0)]:List Aa))),.row (.slice (some ⟨hq,0,none⟩) 1 1) 78 4 (A8 Ab ([(Aa.mk 2 0 ([]:Af) 0)]:List Aa)),.blk hd [rS hb.2.fS,Ap hb.2.fAt,rv hh,rB hb.2.fGreat] 127]) rfl (Ak (AA (Dh (H2:=[.blk hd [rS hb.2.fS,Ap hb.2.fAt,rv hh,rB hb.2.fGreat] 127,.row hh 78 4 (A8 Ab (hb.2.fCells++([(Aa.mk 2 0 ([]:Af) 0)]:List Aa))),.row (.slice (some ⟨hq,0,none⟩) 1 1) 78 4 (A8 Ab ([(Aa.mk 2 0 ([]:Af) 0)]:List Aa))]) ((A4 (i:=2) rfl).trans (AcJ _ (AcI _))) (Az (A3 ((hb.2.fS,hb.2.fAt,hb.2.fCells++([(Aa.mk 2 0 ([]:Af) 0)]:List Aa),hb.2.fGreat),hh) hJ A6.nil (sC (sC (sS sN))))))))))
    ·refine Ai (ck hH λhK hL=>ob hL λhl hN hO=>C1 [0] [⟨[],rP hd 0,0⟩,⟨[0],rP hd 0,0⟩,⟨[1],rP hd 0,0⟩,⟨[2],rS hb.2.fS,1⟩,⟨[],rP hd 0,0⟩,⟨[4],rP hd 0,0⟩,⟨[5],rP hd 1,0⟩,⟨[6],Ap hb.2.fAt,1⟩,⟨[3,7],rS (List.drop (B3 hb.2.fAt) hb.2.fS),0⟩,⟨[8],rB hl,0⟩,⟨[9],rB hl,0⟩] [46,0] ?_ ?_)
     ·refine oq (Al rfl) (oq (A2 rfl) (oq (AH B2 rfl Cs rfl rfl) (of (Bi (i:=0) CU rfl rfl rfl) (oq (Al rfl) (oq (A2 rfl) (oq (AH B2 rfl Ct rfl rfl) (of (Bi (i:=0) CX rfl rfl rfl) (oq (DG Ce rfl rfl hK) (DN rfl (λH=>HP Tryz.call44 (Nc (List.drop (B3 hb.2.fAt) hb.2.fS) ([34]:Af) hl hN) rfl) ?_)))))))));refine oq (Ax rfl) ?_;exact Cd
     refine AJ (cz hO rfl (λhP hQ=>?_) (λhP hR=>?_))
     ·refine Ag (wm rfl (ob hQ λha hS hT=>Gt (Hr:=[]) Tryz.call135 (T7 F hd hp hb.2 ha hS) rfl (AcI _) rfl ?_));rintro _ _ ⟨hU,rfl,rfl⟩;refine wm rfl (wv (AE rfl rfl) (wv (AE rfl rfl) (wa rfl (wa rfl (Am (Ai (Ag (wm rfl (wv (Ci rfl) (Am (cz hT rfl (λhV hW=>?_) (λhV hX=>?_))))))))))))
      ·refine Ag (wa rfl (Am (Av (Ac (Ay (Ac ?_))))));obtain rfl:=Aw hW;exact Au (BQ Tryz.results134 (AG rfl)) (sC (sC sN)) ⟨hU,rfl,rfl⟩
      ·refine Ar (AJ (Ah (wm rfl (wm rfl (wv (A2 rfl) (vF B2 rfl CO (vL 0 EL rfl (wm rfl (wv (r:=BK [Ap 4,Ap 0,rS ha.1,Ap 0]) (KJ rfl rfl rfl rfl) (AZ (ys:=([(Aa.mk 4 0 ha.1 0)]:List Aa)) (enc:=Ab) (css:=[[Ap 4,Ap 0,rS ha.1,Ap 0]]) (xs:=[.tmp 70]) Cg CK KO rfl rfl rfl ⟨EI.agg ⟨Up.refl _,Up.refl _,Up.refl _,Up.refl _,trivial⟩,trivial⟩ rfl Bz rfl rfl rfl (λhr=>?_)))))))))));refine ck hX λhY hZ=>Exists.elim Je λinf hinf=>BY (xs:=ha.2.2.fCells) (ys:=([(Aa.mk 4 0 ha.1 0)]:List Aa)) (enc:=Ab) (i:=2) Cg hinf.1 hinf.2.1 hinf.2.2.1 hinf.2.2.2 rfl rfl rfl rfl rfl (KA.w (i:=0) rfl rfl) Bz CF hY rfl (λhi=>?_);exact wv (A2 rfl) (vF B2 rfl CO (BI (i:=2) CO rfl rfl (Ey (i:=0) rfl) rfl rfl (cs':=[rS ha.2.2.fS,Ap ha.2.2.fAt,rv hi,rB ha.2.2.fGreat]) rfl (H':=[.row hi 78 4 (A8 Ab (ha.2.2.fCells++([(Aa.mk 4 0 ha.1 0)]:List Aa))),.row (.slice (some ⟨hr,0,none⟩) 1 1) 78 4 (A8 Ab ([(Aa.mk 4 0 ha.1 0)]:List Aa)),.blk hd [rS ha.2.2.fS,Ap ha.2.2.fAt,rv hi,rB ha.2.2.fGreat] 127]) rfl (Ak (AA (Dh (H2:=[.blk hd [rS ha.2.2.fS,Ap ha.2.2.fAt,rv hi,rB ha.2.2.fGreat] 127,.row hi 78 4 (A8 Ab (ha.2.2.fCells++([(Aa.mk 4 0 ha.1 0)]:List Aa))),.row (.slice (some ⟨hr,0,none⟩) 1 1) 78 4 (A8 Ab ([(Aa.mk 4 0 ha.1 0)]:List Aa))]) ((A4 (i:=2) rfl).trans (AcJ _ (AcI _))) (Az (A3 ((ha.2.2.fS,ha.2.2.fAt,ha.2.2.fCells++([(Aa.mk 4 0 ha.1 0)]:List Aa),ha.2.2.fGreat),hi) hZ A6.nil (sC (sC (sS sN))))))))))
     ·refine Ag (wm rfl (ob hR λga gb gc=>Gt (Hr:=[]) Tryz.call162 (Zr F hd hp hb.2 ga gb) rfl (AcI _) rfl ?_));rintro _ _ ⟨gd,rfl,rfl⟩;refine wa rfl (Am (Av (Ay (Ac ?_))));obtain rfl:=Aw gc;exact Au (BQ Tryz.results134 (AG rfl)) (sC (sC sN)) ⟨gd,rfl,rfl⟩
 ·rintro⟨⟨hs,ht,hu,hw⟩,hm⟩ hj;refine BG (l':=[]) (H':=[.blk hd [rS hs,Ap ht,rv hm,rB hw] 127,.row hm 78 4 (A8 Ab hu)]) rfl rfl ?_;replace hj:Ee hs ht hu hw=some r:=hj;unfold Ee at hj;refine Ag (wa rfl (Am (Av ?_)));obtain rfl:=Aw hj;exact Au (BQ Tryz.results134 (AG rfl)) (sC (sC sN)) ⟨hm,rfl,rfl⟩
theorem SJ (F:Nat)(hh:At→Option (Bool×At))(ga:(∀(hb:Nat) (hq:Value) (q:At) (r:Bool×At),hh q=some r→Fn Tryz.prog GE 100 [rP hb 0] [.blk hb [rS q.fS,Ap q.fAt,rv hq,rB q.fGreat] 127,.row hq 78 4 (A8 Ab q.fCells)] (λR H=>∃w0_2:Value,R=rB r.1∧H=[.blk hb [rS r.2.fS,Ap r.2.fAt,rv w0_2,rB r.2.fGreat] 127,.row w0_2 78 4 (A8 Ab r.2.fCells)])))(hb:Nat)(hq:Value)(q:At)(r:Bool×At)(h:Ls F hh q=some r):Fn Tryz.prog GE 100 [rP hb 0] [.blk hb [rS q.fS,Ap q.fAt,rv hq,rB q.fGreat] 127,.row hq 78 4 (A8 Ab q.fCells)] (λR H=>∃w0_2:Value,R=rB r.1∧H=[.blk hb [rS r.2.fS,Ap r.2.fAt,rv w0_2,rB r.2.fGreat] 127,.row w0_2 78 4 (A8 Ab r.2.fCells)]):=by
 refine enter (n:=96) Tryz.func100 rfl Tryz.ntmps100 rfl (λw Z=>?_);unfold Ls at h;refine Ag (wa rfl (Bv (wm rfl (ob h λr1 e3 h2=>Gt (Hr:=[]) Hq (DB hb hq q ([91]:Af) r1 e3) rfl (AcI _) rfl ?_))));rintro _ _ ⟨v4,rfl,rfl⟩;refine wa rfl (Am (Ai (De (S:=(Bool×Af×Int×(List Aa)×Bool)×(Value)) (λσ=>Ed F hh r1 σ.1.1 σ.1.2.1 σ.1.2.2.1 σ.1.2.2.2.1 σ.1.2.2.2.2=some r) (λσ=>[(0,rP hb 0),(2,rB false),(3,rB r1.1),(19,rB σ.1.1)]) (λσ=>[.blk hb [rS σ.1.2.1,Ap σ.1.2.2.1,rv σ.2,rB σ.1.2.2.2.2] 127,.row σ.2 78 4 (A8 Ab σ.1.2.2.2.1)]) ?_ ?_)))
 ·refine Ah (wm rfl (wv (Ci rfl) (wm rfl (bz h2 (λhi gq=>?_) (λhi gr=>?_)))))
  ·refine wo hi (wm rfl (wo hi (ob gq λhr gs gt=>Gt (Hr:=[]) Hq (DB hb v4 r1.2 ([123]:Af) hr gs) rfl (AcI _) rfl ?_)));rintro _ _ ⟨gu,rfl,rfl⟩;exact wo hi (wv (Ci rfl) (GC rfl hi rfl (Ak (Az (A3 ((!hr.1,hr.2.fS,hr.2.fAt,hr.2.fCells,hr.2.fGreat),gu) gt (A6.c rfl (A6.c rfl (A6.c rfl (A6.c rfl A6.nil)))) (sC (sC sN)))))))
  ·exact wf hi (wf hi (wf hi (wv (r:=rB false) (AC rfl hi rfl) (Ak (Az (A3 ((false,r1.2.fS,r1.2.fAt,r1.2.fCells,r1.2.fGreat),v4) gr (A6.c rfl (A6.c rfl (A6.c rfl (A6.c rfl A6.nil)))) (sC (sC sN))))))))
 ·rintro⟨⟨gb,hj,hk,x16,hl⟩,hI⟩ h8;refine BG (l':=[(0,rP hb 0),(2,rB false),(3,rB r1.1),(19,rB gb)]) (H':=[.blk hb [rS hj,Ap hk,rv hI,rB hl] 127,.row hI 78 4 (A8 Ab x16)]) rfl rfl ?_;replace h8:Ed F hh r1 gb hj hk x16 hl=some r:=h8;unfold Ed at h8;refine cz h8 rfl (λgv gw=>?_) (λgv gx=>?_)
  ·refine Ag (wm rfl (ob gw λgy gz g0=>Gt (Hr:=[]) Tryz.call134 (SL F hb hI (At.mk hj hk x16 hl) gy gz) rfl (AcI _) rfl ?_));rintro _ _ ⟨g1,rfl,rfl⟩;refine wa rfl (Am (Av (Ac ?_)));obtain rfl:=Aw g0;exact Au (BQ KC (AG rfl)) (sC (sC sN)) ⟨g1,rfl,rfl⟩
  ·refine Ar (AJ (Ag (wa rfl (wv (r:=rS ([125]:Af)) (Ax rfl) (Am (Ai (Ag (wm rfl (Am (cz gx rfl (λhJ g2=>?_) (λhJ g3=>?_)))))))))))
   ·refine Ah (wa rfl (wv (r:=rS ([93]:Af)) (Ax rfl) (Bv (wm rfl (wv (A2 rfl) (vF B2 rfl CO (vL 0 EL rfl (wv (Dg (ys:=x16) (enc:=Ab) (i:=1) Cg rfl rfl) (wa rfl (Bv (wm rfl (wm rfl (wv (A2 rfl) (vF B2 rfl CO (vL 0 EL rfl (wm rfl (wv (r:=BK [Ap 5,Ap 0,rS ([]:Af),Ap 0]) (HQ rfl rfl) (AZ (ys:=([(Aa.mk 5 0 ([]:Af) 0)]:List Aa)) (enc:=Ab) (css:=[[Ap 5,Ap 0,rS ([]:Af),Ap 0]]) (xs:=[.tmp 34]) Cg CK KO rfl rfl rfl ⟨EI.agg ⟨Up.refl _,Up.refl _,Up.refl _,Up.refl _,trivial⟩,trivial⟩ rfl Bz rfl rfl rfl (λgc=>?_)))))))))))))))))));refine ck g2 λg4 g5=>Exists.elim Je λinf hinf=>BY (xs:=x16) (ys:=([(Aa.mk 5 0 ([]:Af) 0)]:List Aa)) (enc:=Ab) (i:=2) Cg hinf.1 hinf.2.1 hinf.2.2.1 hinf.2.2.2 rfl rfl rfl rfl rfl (KA.w (i:=0) rfl rfl) Bz CF g4 rfl (λv37=>?_);refine wv (A2 rfl) (vF B2 rfl CO (BI (i:=2) CO rfl rfl (Ey (i:=0) rfl) rfl rfl (cs':=[rS hj,Ap hk,rv v37,rB hl]) rfl (H':=[.row v37 78 4 (A8 Ab (x16++([(Aa.mk 5 0 ([]:Af) 0)]:List Aa))),.row (.slice (some ⟨gc,0,none⟩) 1 1) 78 4 (A8 Ab ([(Aa.mk 5 0 ([]:Af) 0)]:List Aa)),.blk hb [rS hj,Ap hk,rv v37,rB hl] 127]) rfl (Am (Ai (Ag (wm rfl (wm rfl (ob g5 λhw g6 g7=>Gt (Hr:=[.row (.slice (some ⟨gc,0,none⟩) 1 1) 78 4 (A8 Ab ([(Aa.mk 5 0 ([]:Af) 0)]:List Aa))]) Hq (DB hb v37 (At.mk hj hk (x16++([(Aa.mk 5 0 ([]:Af) 0)]:List Aa)) hl) ([93]:Af) hw g6) rfl ((A4 (i:=2) rfl).trans (AcJ _ (AcI _))) rfl ?_))))))));rintro _ _ ⟨gd,rfl,rfl⟩;refine Am (cz g7 rfl (λg8 g9=>?_) (λg8 gA=>?_))
    ·refine Ag (wa rfl (Am (Av (Ac ?_))));obtain rfl:=Aw g9;exact Au (BQ KC (AG rfl)) (sC (sC (sS sN))) ⟨gd,rfl,rfl⟩
    ·refine Ar (AJ (Ag (wv (r:=rS ([]:Af)) (Ax rfl) (Bv (wa rfl (Am (A9 (ob gA λgB gC hK=>Bg (S:=Nat×(Int×Af×Int×(List Aa)×Bool)×(Value)) (V:=(Unit)×(Unit)) 0 (λσ=>B7 (λσ=>EN hh x16 σ.1 σ.2.1 σ.2.2.1 σ.2.2.2.1 σ.2.2.2.2) σ.1 σ.2.1=some gB) (λσ=>[(0,rP hb 0),(2,rB false),(3,rB r1.1),(5,rS ([93]:Af)),(6,Ap (x16.length:Int)),(7,rS ([]:Af)),(8,Ap σ.2.1.1)]) (λσ=>[.blk hb [rS σ.2.1.2.1,Ap σ.2.1.2.2.1,rv σ.2.2,rB σ.2.1.2.2.2.2] 127,.row σ.2.2 78 4 (A8 Ab σ.2.1.2.2.2.1)]) (λσ=>σ.1) (F,(1,hw.2.fS,hw.2.fAt,hw.2.fCells,hw.2.fGreat),gd) gC (A6.c rfl (A6.c rfl (A6.c5 rfl rfl rfl rfl rfl A6.nil))) (sC (sC (sS sN))) (λσ=>Hy =some r) (λσ=>[]) (λσ=>[]) ?_ ?_))))))))
     ·rintro⟨xd,⟨hx,hL,hN,hO,hP⟩,hQ⟩ gD;refine BG (l':=[(0,rP hb 0),(2,rB false),(3,rB r1.1),(5,rS ([93]:Af)),(6,Ap (x16.length:Int)),(7,rS ([]:Af)),(8,Ap hx)]) (H':=[.blk hb [rS hL,Ap hN,rv hQ,rB hP] 127,.row hQ 78 4 (A8 Ab hO)]) rfl rfl ?_;obtain⟨gE,rfl,gF,h9,hA⟩:=BZ gD;replace h9:EN hh x16 hx hL hN hO hP=some gF:=h9;unfold EN at h9;refine Ai (A9 (Ai (Ag (wm rfl (wv (Ci rfl) (Am (DQ rfl (AbH hJ) (Ar (AJ (Ai (Ag (wm rfl (ob h9 λhd gG gH=>Gt (Hr:=[]) Tryz.call100 (ga hb hQ (At.mk hL hN hO hP) hd gG) rfl (AcI _) rfl ?_)))))))))))));rintro _ _ ⟨hs,rfl,rfl⟩;refine wv (Ci rfl) (Am (cz gH rfl (λgI gJ=>?_) (λgI gK=>?_)))
      ·refine Ag (wa rfl (Am (Av (Ac (Ay (Ac (Ac (AR ?_))))))));have gL:=Bo gJ hA hK;refine Ay ?_;obtain rfl:=Aw gL;exact Au (BQ KC (AG rfl)) (sC (sC sN)) ⟨hs,rfl,rfl⟩
      ·refine Ar (AJ (Ag (wm rfl (wv (A2 rfl) (vF B2 rfl CO (vL 0 EL rfl (wm rfl (wm rfl (ck gK λhR gM=>wv (r:=rv (GF 4 hs (B3 (x16.length:Int)) 0)) (JH (i:=1) Cg CK rfl rfl rfl (BO hR)) (wv (r:=rv (GF 4 hs (B3 (x16.length:Int)) 3)) (Gi (k:=1) B4 rfl Ct rfl (BO hR) rfl rfl rfl) (Ia (enc:=Ab) (ys:=hd.2.fCells) (y':=(Aa.mk ((Ao hd.2.fCells (x16.length:Int)).fKind) ((Ao hd.2.fCells (x16.length:Int)).fInt) ((Ao hd.2.fCells (x16.length:Int)).fStr) hx)) (i:=1) (j:=(x16.length:Int)) Ct rfl rfl (C0 rfl) rfl hR rfl rfl (H':=[.blk hb [rS hd.2.fS,Ap hd.2.fAt,rv hs,rB hd.2.fGreat] 127,.row hs 78 4 (A8 Ab (List.set hd.2.fCells (B3 (x16.length:Int)) (Aa.mk ((Ao hd.2.fCells (x16.length:Int)).fKind) ((Ao hd.2.fCells (x16.length:Int)).fInt) ((Ao hd.2.fCells (x16.length:Int)).fStr) hx)))]) rfl (bd gM λgN gO gP=>?_))))))))))));rw[← gO];refine Am (Ai (Ag (wm rfl (wm rfl (ob gP λge gQ gR=>Gt (Hr:=[]) Hq (DB hb hs (At.mk hd.2.fS hd.2.fAt gN hd.2.fGreat) ([93]:Af) ge gQ) rfl (AcI _) rfl ?_)))));rintro _ _ ⟨gf,rfl,rfl⟩;refine Am (cz gR rfl (λc167 gS=>?_) (λc167 gT=>?_))
       ·refine Ag (wa rfl (Am (Av (Ac (Ay (Ac (Ac (AR ?_))))))));have gU:=Bo gS hA hK;refine Ay ?_;obtain rfl:=Aw gU;exact Au (BQ KC (AG rfl)) (sC (sC sN)) ⟨gf,rfl,rfl⟩
       ·refine Ar (AJ (Ag (wm rfl (ob gT λhy gV gW=>Gt (Hr:=[]) Hq (DB hb gf ge.2 ([44]:Af) hy gV) rfl (AcI _) rfl ?_))));rintro _ _ ⟨gg,rfl,rfl⟩;refine wv (Ci rfl) (Am (cz gW rfl (λc175 gX=>?_) (λc175 gY=>?_)))
        ·refine Ag (wa rfl (Am (Av (Ay (Ac (Ac (AR ?_)))))));have gZ:=Bo gX hA hK;refine Ay ?_;obtain rfl:=Aw gZ;exact Au (BQ KC (AG rfl)) (sC (sC sN)) ⟨gg,rfl,rfl⟩
        ·refine Ar (AA (AJ (Ah (wm rfl (ck gY λca cb=>wv (Bk rfl rfl ca) (wa rfl (Ak ?_)))))));have cc:=Ba cb hA;exact Az (A3 (gE,(hx+1,hy.2.fS,hy.2.fAt,hy.2.fCells,hy.2.fGreat),gg) ⟨cc,AcM _⟩ (A6.c rfl (A6.c rfl (A6.c5 rfl rfl rfl rfl rfl A6.nil))) (sC (sC sN)))
     ·rintro⟨⟨⟩,⟨⟩⟩ cd
      cases cd
   ·refine Ar (AJ (Ag (wm rfl (wv (A2 rfl) (vF B2 rfl CO (vL 0 EL rfl (wv (Dg (ys:=x16) (enc:=Ab) (i:=1) Cg rfl rfl) (wa rfl (Bv (wm rfl (wm rfl (wv (A2 rfl) (vF B2 rfl CO (vL 0 EL rfl (wm rfl (wv (r:=BK [Ap 6,Ap 0,rS ([]:Af),Ap 0]) (HQ rfl rfl) (AZ (ys:=([(Aa.mk 6 0 ([]:Af) 0)]:List Aa)) (enc:=Ab) (css:=[[Ap 6,Ap 0,rS ([]:Af),Ap 0]]) (xs:=[.tmp 34]) Cg CK KO rfl rfl rfl ⟨EI.agg ⟨Up.refl _,Up.refl _,Up.refl _,Up.refl _,trivial⟩,trivial⟩ rfl Bz rfl rfl rfl (λgh=>?_))))))))))))))))));refine ck g3 λce cf=>Exists.elim Je λinf hinf=>BY (xs:=x16) (ys:=([(Aa.mk 6 0 ([]:Af) 0)]:List Aa)) (enc:=Ab) (i:=2) Cg hinf.1 hinf.2.1 hinf.2.2.1 hinf.2.2.2 rfl rfl rfl rfl rfl (KA.w (i:=0) rfl rfl) Bz CF ce rfl (λhB=>?_);refine wv (A2 rfl) (vF B2 rfl CO (BI (i:=2) CO rfl rfl (Ey (i:=0) rfl) rfl rfl (cs':=[rS hj,Ap hk,rv hB,rB hl]) rfl (H':=[.row hB 78 4 (A8 Ab (x16++([(Aa.mk 6 0 ([]:Af) 0)]:List Aa))),.row (.slice (some ⟨gh,0,none⟩) 1 1) 78 4 (A8 Ab ([(Aa.mk 6 0 ([]:Af) 0)]:List Aa)),.blk hb [rS hj,Ap hk,rv hB,rB hl] 127]) rfl (Am (Ai (Ag (wm rfl (wm rfl (ob cf λhz cg ci=>Gt (Hr:=[.row (.slice (some ⟨gh,0,none⟩) 1 1) 78 4 (A8 Ab ([(Aa.mk 6 0 ([]:Af) 0)]:List Aa))]) Hq (DB hb hB (At.mk hj hk (x16++([(Aa.mk 6 0 ([]:Af) 0)]:List Aa)) hl) ([125]:Af) hz cg) rfl ((A4 (i:=2) rfl).trans (AcJ _ (AcI _))) rfl ?_))))))));rintro _ _ ⟨gi,rfl,rfl⟩;refine Am (cz ci rfl (λcj cl=>?_) (λcj cm=>?_))
    ·refine Ag (wa rfl (Am (Av (Ac ?_))));obtain rfl:=Aw cl;exact Au (BQ KC (AG rfl)) (sC (sC (sS sN))) ⟨gi,rfl,rfl⟩
    ·refine Ar (AJ (Ag (wv (r:=rS ([]:Af)) (Ax rfl) (Bv (wa rfl (Am (A9 (ob cm λcn co hC=>Bg (S:=Nat×(Af×Int×Af×Int×(List Aa)×Bool)×(Value)) (V:=(Unit)×(Unit)) 0 (λσ=>B7 (λσ=>EM F hh x16 σ.1 σ.2.1 σ.2.2.1 σ.2.2.2.1 σ.2.2.2.2.1 σ.2.2.2.2.2) σ.1 σ.2.1=some cn) (λσ=>[(0,rP hb 0),(2,rB false),(3,rB r1.1),(5,rS ([125]:Af)),(6,Ap (x16.length:Int)),(7,rS σ.2.1.1),(8,Ap σ.2.1.2.1)]) (λσ=>[.blk hb [rS σ.2.1.2.2.1,Ap σ.2.1.2.2.2.1,rv σ.2.2,rB σ.2.1.2.2.2.2.2] 127,.row σ.2.2 78 4 (A8 Ab σ.2.1.2.2.2.2.1)]) (λσ=>σ.1) (F,(([]:Af),1,hz.2.fS,hz.2.fAt,hz.2.fCells,hz.2.fGreat),gi) co (A6.c rfl (A6.c rfl (A6.c5 rfl rfl rfl rfl rfl A6.nil))) (sC (sC (sS sN))) (λσ=>Hx =some r) (λσ=>[]) (λσ=>[]) ?_ ?_))))))))
     ·rintro⟨xe,⟨hg,hm,hS,hT,hU,hV⟩,hW⟩ cp;refine BG (l':=[(0,rP hb 0),(2,rB false),(3,rB r1.1),(5,rS ([125]:Af)),(6,Ap (x16.length:Int)),(7,rS hg),(8,Ap hm)]) (H':=[.blk hb [rS hS,Ap hT,rv hW,rB hV] 127,.row hW 78 4 (A8 Ab hU)]) rfl rfl ?_;obtain⟨cq,rfl,hX,hD,h0⟩:=BZ cp;replace hD:EM F hh x16 hg hm hS hT hU hV=some hX:=hD;unfold EM at hD;refine Ai (A9 (Ai (Ag (wm rfl (wv (Ci rfl) (Am (Gx rfl (AbI hJ) (Ag (wm rfl (ob hD λha cr cs=>Gt (Hr:=[]) Tryz.call135 (T7 F hb hW (At.mk hS hT hU hV) ha cr) rfl (AcI _) rfl ?_))))))))));rintro _ _ ⟨hE,rfl,rfl⟩;refine wm rfl (wv (AE rfl rfl) (wv (AE rfl rfl) (wa rfl (wa rfl (Am (Ai (De (S:=(Bool×Bool×Bool×Af×Int×(List Aa)×Bool)×(Value)) (λσ=>Cn hh x16 hm ha σ.1.1 σ.1.2.1 σ.1.2.2.1 σ.1.2.2.2.1 σ.1.2.2.2.2.1 σ.1.2.2.2.2.2.1 σ.1.2.2.2.2.2.2=some hX) (λσ=>[(0,rP hb 0),(2,rB false),(3,rB r1.1),(5,rS ([125]:Af)),(6,Ap (x16.length:Int)),(7,rS hg),(8,Ap hm),(9,rS ha.1),(10,rB ha.2.1),(44,rB r1.1),(45,rB (!r1.1)),(46,C2 [rS ha.1,rB ha.2.1]),(47,rP hb 0),(48,C2 [rS ha.1,rB ha.2.1]),(49,rS ha.1),(50,rB ha.2.1),(51,rB ha.2.1),(52,rB (!ha.2.1)),(53,rB (!ha.2.1)),(61,rB σ.1.1),(62,rB σ.1.2.1),(66,rB σ.1.2.2.1)]) (λσ=>[.blk hb [rS σ.1.2.2.2.1,Ap σ.1.2.2.2.2.1,rv σ.2,rB σ.1.2.2.2.2.2.2] 127,.row σ.2 78 4 (A8 Ab σ.1.2.2.2.2.2.1)]) ?_ ?_)))))))
      ·refine Ah (wm rfl (wv (Ci rfl) (wm rfl (bz cs (λhf ct=>?_) (λhf cu=>?_)))))
       ·exact wf hf (wf hf (wf hf (wu (wu (wu (wf hf (wv (r:=rB true) (A1 rfl hf rfl) (wm rfl (wz rfl rfl (wz rfl rfl (wz rfl rfl (wv (r:=rB true) (A1 (b:=true) rfl rfl rfl) (Ak (Az (A3 ((true,true,true,ha.2.2.fS,ha.2.2.fAt,ha.2.2.fCells,ha.2.2.fGreat),hE) ct (A6.c rfl (A6.c rfl (A6.c5 rfl rfl rfl rfl rfl (A6.c5 rfl rfl rfl rfl rfl (A6.c5 rfl rfl rfl rfl rfl (A6.c5 rfl rfl rfl rfl rfl A6.nil)))))) (sC (sC sN)))))))))))))))))
       ·refine wo hf (wm rfl (wo hf (wv (C3 rfl rfl) (wo hf (wm rfl (bz cu (λhn cv=>?_) (λhn cw=>?_)))))))
        ·refine wo hn (wm rfl (wo hn (wm rfl (wo hn (wv (TS rfl rfl) (wo hf (GC rfl hn rfl (GK rfl hf rfl (wm rfl (bz cv (λho cx=>?_) (λho cy=>?_)))))))))))
         ·exact wf ho (wf ho (wf ho (wv (r:=rB true) (A1 rfl ho rfl) (Ak (Az (A3 ((BE ha.1 hg||decide (ha.1=hg),BE ha.1 hg||decide (ha.1=hg),true,ha.2.2.fS,ha.2.2.fAt,ha.2.2.fCells,ha.2.2.fGreat),hE) cx (A6.c rfl (A6.c rfl (A6.c5 rfl rfl rfl rfl rfl (A6.c5 rfl rfl rfl rfl rfl (A6.c5 rfl rfl rfl rfl rfl (A6.c5 rfl rfl rfl rfl rfl A6.nil)))))) (sC (sC sN))))))))
         ·refine wo ho (wm rfl (wo ho (ob cy λht c0 c1=>Gt (Hr:=[]) Hq (DB hb hE ha.2.2 ([58]:Af) ht c0) rfl (AcI _) rfl ?_)));rintro _ _ ⟨c2,rfl,rfl⟩;exact wo ho (wv (Ci rfl) (GK rfl ho rfl (Ak (Az (A3 ((BE ha.1 hg||decide (ha.1=hg),BE ha.1 hg||decide (ha.1=hg),!ht.1,ht.2.fS,ht.2.fAt,ht.2.fCells,ht.2.fGreat),c2) c1 (A6.c rfl (A6.c rfl (A6.c5 rfl rfl rfl rfl rfl (A6.c5 rfl rfl rfl rfl rfl (A6.c5 rfl rfl rfl rfl rfl (A6.c5 rfl rfl rfl rfl rfl A6.nil)))))) (sC (sC sN)))))))
        ·refine wf hn (wf hn (wf hn (wo hf (wv (r:=rB false) (AC rfl hn rfl) (GK rfl hf rfl (wm rfl (Bt (b:=false) rfl rfl rfl (wm rfl (Bt (b:=false) rfl rfl rfl (ob cw λhp c3 c4=>Gt (Hr:=[]) Hq (DB hb hE ha.2.2 ([58]:Af) hp c3) rfl (AcI _) rfl ?_))))))))));rintro _ _ ⟨c6,rfl,rfl⟩;exact Bt (b:=false) rfl rfl rfl (wv (Ci rfl) (wv (r:=rB (!hp.1)) (AC (b:=false) rfl rfl rfl) (Ak (Az (A3 ((false,false,!hp.1,hp.2.fS,hp.2.fAt,hp.2.fCells,hp.2.fGreat),c6) c4 (A6.c rfl (A6.c rfl (A6.c5 rfl rfl rfl rfl rfl (A6.c5 rfl rfl rfl rfl rfl (A6.c5 rfl rfl rfl rfl rfl (A6.c5 rfl rfl rfl rfl rfl A6.nil)))))) (sC (sC sN)))))))
      ·rintro⟨⟨gj,gk,gl,h1,h3,h4,h5⟩,hY⟩ hG;refine BG (l':=[(0,rP hb 0),(2,rB false),(3,rB r1.1),(5,rS ([125]:Af)),(6,Ap (x16.length:Int)),(7,rS hg),(8,Ap hm),(9,rS ha.1),(10,rB ha.2.1),(44,rB r1.1),(45,rB (!r1.1)),(46,C2 [rS ha.1,rB ha.2.1]),(47,rP hb 0),(48,C2 [rS ha.1,rB ha.2.1]),(49,rS ha.1),(50,rB ha.2.1),(51,rB ha.2.1),(52,rB (!ha.2.1)),(53,rB (!ha.2.1)),(61,rB gj),(62,rB gk),(66,rB gl)]) (H':=[.blk hb [rS h1,Ap h3,rv hY,rB h5] 127,.row hY 78 4 (A8 Ab h4)]) rfl rfl ?_;replace hG:Cn hh x16 hm ha gj gk gl h1 h3 h4 h5=some hX:=hG;unfold Cn at hG;refine cz hG rfl (λc7 c8=>?_) (λc7 c9=>?_)
       ·refine Ag (wa rfl (Am (Av (Ac (Ac (Ay (Ac (Ac (AR ?_)))))))));have cA:=Bo c8 h0 hC;refine Ay ?_;obtain rfl:=Aw cA;exact Au (BQ KC (AG rfl)) (sC (sC sN)) ⟨hY,rfl,rfl⟩
       ·refine Ar (AJ (Ag (wm rfl (wa rfl (Am (Ah (wm rfl (wm rfl (wv (A2 rfl) (vF B2 rfl CO (vL 0 EL rfl (wm rfl (wv (r:=BK [Ap 4,Ap 0,rS ha.1,Ap 0]) (KJ rfl rfl rfl rfl) (AZ (ys:=([(Aa.mk 4 0 ha.1 0)]:List Aa)) (enc:=Ab) (css:=[[Ap 4,Ap 0,rS ha.1,Ap 0]]) (xs:=[.tmp 74]) Cg CK KO rfl rfl rfl ⟨EI.agg ⟨Up.refl _,Up.refl _,Up.refl _,Up.refl _,trivial⟩,trivial⟩ rfl Bz rfl rfl rfl (λh6=>?_)))))))))))))));refine ck c9 λcB cC=>Exists.elim Je λinf hinf=>BY (xs:=h4) (ys:=([(Aa.mk 4 0 ha.1 0)]:List Aa)) (enc:=Ab) (i:=2) Cg hinf.1 hinf.2.1 hinf.2.2.1 hinf.2.2.2 rfl rfl rfl rfl rfl (KA.w (i:=0) rfl rfl) Bz CF cB rfl (λhH=>?_);refine wv (A2 rfl) (vF B2 rfl CO (BI (i:=2) CO rfl rfl (Ey (i:=0) rfl) rfl rfl (cs':=[rS h1,Ap h3,rv hH,rB h5]) rfl (H':=[.row hH 78 4 (A8 Ab (h4++([(Aa.mk 4 0 ha.1 0)]:List Aa))),.row (.slice (some ⟨h6,0,none⟩) 1 1) 78 4 (A8 Ab ([(Aa.mk 4 0 ha.1 0)]:List Aa)),.blk hb [rS h1,Ap h3,rv hH,rB h5] 127]) rfl (Am (Ai (Ag (wm rfl (ob cC λhe cD cE=>Gt (Hr:=[.row (.slice (some ⟨h6,0,none⟩) 1 1) 78 4 (A8 Ab ([(Aa.mk 4 0 ha.1 0)]:List Aa))]) Tryz.call100 (ga hb hH (At.mk h1 h3 (h4++([(Aa.mk 4 0 ha.1 0)]:List Aa)) h5) he cD) rfl ((A4 (i:=2) rfl).trans (AcJ _ (AcI _))) rfl ?_)))))));rintro _ _ ⟨hu,rfl,rfl⟩;refine wv (Ci rfl) (Am (cz cE rfl (λcF cG=>?_) (λcF cH=>?_)))
        ·refine Ag (wa rfl (Am (Av (Ac (Ay (Ac (Ac (AR ?_))))))));have cI:=Bo cG h0 hC;refine Ay ?_;obtain rfl:=Aw cI;exact Au (BQ KC (AG rfl)) (sC (sC (sS sN))) ⟨hu,rfl,rfl⟩
        ·refine Ar (AJ (Ag (wm rfl (wv (A2 rfl) (vF B2 rfl CO (vL 0 EL rfl (wm rfl (wm rfl (ck cH λhZ cJ=>wv (r:=rv (GF 4 hu (B3 (x16.length:Int)) 0)) (JH (i:=1) Cg CK rfl rfl rfl (BO hZ)) (wv (r:=rv (GF 4 hu (B3 (x16.length:Int)) 3)) (Gi (k:=1) B4 rfl Ct rfl (BO hZ) rfl rfl rfl) (Ia (enc:=Ab) (ys:=he.2.fCells) (y':=(Aa.mk ((Ao he.2.fCells (x16.length:Int)).fKind) ((Ao he.2.fCells (x16.length:Int)).fInt) ((Ao he.2.fCells (x16.length:Int)).fStr) hm)) (i:=1) (j:=(x16.length:Int)) Ct rfl rfl (C0 rfl) rfl hZ rfl rfl (H':=[.blk hb [rS he.2.fS,Ap he.2.fAt,rv hu,rB he.2.fGreat] 127,.row hu 78 4 (A8 Ab (List.set he.2.fCells (B3 (x16.length:Int)) (Aa.mk ((Ao he.2.fCells (x16.length:Int)).fKind) ((Ao he.2.fCells (x16.length:Int)).fInt) ((Ao he.2.fCells (x16.length:Int)).fStr) hm))),.row (.slice (some ⟨h6,0,none⟩) 1 1) 78 4 (A8 Ab ([(Aa.mk 4 0 ha.1 0)]:List Aa))]) rfl (bd cJ λcK cL cM=>?_))))))))))));rw[← cL];refine Am (Ai (Ag (wm rfl (wm rfl (ob cM λgm cN cO=>Gt (Hr:=[.row (.slice (some ⟨h6,0,none⟩) 1 1) 78 4 (A8 Ab ([(Aa.mk 4 0 ha.1 0)]:List Aa))]) Hq (DB hb hu (At.mk he.2.fS he.2.fAt cK he.2.fGreat) ([125]:Af) gm cN) rfl (AcI _) rfl ?_)))));rintro _ _ ⟨gn,rfl,rfl⟩;refine Am (cz cO rfl (λcP cQ=>?_) (λcP cR=>?_))
         ·refine Ag (wa rfl (Am (Av (Ac (Ay (Ac (Ac (AR ?_))))))));have cS:=Bo cQ h0 hC;refine Ay ?_;obtain rfl:=Aw cS;exact Au (BQ KC (AG rfl)) (sC (sC (sS sN))) ⟨gn,rfl,rfl⟩
         ·refine Ar (AJ (Ag (wm rfl (ob cR λh7 cT cU=>Gt (Hr:=[.row (.slice (some ⟨h6,0,none⟩) 1 1) 78 4 (A8 Ab ([(Aa.mk 4 0 ha.1 0)]:List Aa))]) Hq (DB hb gn gm.2 ([44]:Af) h7 cT) rfl (AcI _) rfl ?_))));rintro _ _ ⟨gp,rfl,rfl⟩;refine wv (Ci rfl) (Am (cz cU rfl (λcV cW=>?_) (λcV cX=>?_)))
          ·refine Ag (wa rfl (Am (Av (Ay (Ac (Ac (AR ?_)))))));have cY:=Bo cW h0 hC;refine Ay ?_;obtain rfl:=Aw cY;exact Au (BQ KC (AG rfl)) (sC (sC (sS sN))) ⟨gp,rfl,rfl⟩
          ·refine Ar (AA (AJ (Ah (wm rfl (ck cX λcZ xa=>wv (Bk rfl rfl cZ) (wa rfl (Ak ?_)))))));have xb:=Ba xa h0;exact Az (A3 (cq,(ha.1,hm+1,h7.2.fS,h7.2.fAt,h7.2.fCells,h7.2.fGreat),gp) ⟨xb,AcM _⟩ (A6.c rfl (A6.c rfl (A6.c5 rfl rfl rfl rfl rfl A6.nil))) (sC (sC (sS sN))))
     ·rintro⟨⟨⟩,⟨⟩⟩ xc
      cases xc
theorem MQ:∀F:Nat,(∀(ha:Nat) (hb:Value) (q:At) (r:Bool×At),Cu F q=some r→Fn Tryz.prog GE 100 [rP ha 0] [.blk ha [rS q.fS,Ap q.fAt,rv hb,rB q.fGreat] 127,.row hb 78 4 (A8 Ab q.fCells)] (λR H=>∃w0_2:Value,R=rB r.1∧H=[.blk ha [rS r.2.fS,Ap r.2.fAt,rv w0_2,rB r.2.fGreat] 127,.row w0_2 78 4 (A8 Ab r.2.fCells)]))
  | 0=>(λ_ _ _ _ h=>by simp[Cu] at h)
  | nn+1=>(λha hb q r h=>SJ nn (Cu nn) (MQ nn) ha hb q r (by rw[Cu] at h;exact h))
theorem UD (F:Nat)(ha:Nat)(hb:Value)(q:At)(r:Bool×At)(h:Cu F q=some r):Fn Tryz.prog GE 100 [rP ha 0] [.blk ha [rS q.fS,Ap q.fAt,rv hb,rB q.fGreat] 127,.row hb 78 4 (A8 Ab q.fCells)] (λR H=>∃w0_2:Value,R=rB r.1∧H=[.blk ha [rS r.2.fS,Ap r.2.fAt,rv w0_2,rB r.2.fGreat] 127,.row w0_2 78 4 (A8 Ab r.2.fCells)]):=(MQ F) ha hb q r h
theorem UH (F:Nat)(s:Af)(r:(List Aa)×Int)(h:Lv F s=some r):Fn Tryz.prog GE 74 [rS s] [] (λR H=>R=C2 [AQ 4 (A8 Ab r.1),Ap r.2]∧H=[]):=by
 refine enter (n:=34) Tryz.func74 rfl Tryz.ntmps74 rfl (λw Z=>?_);unfold Lv at h;refine Ag (wa rfl (wa rfl (Am (Ai (Ag (wm rfl (wv (Bj Ce rfl) (wv (C3 rfl rfl) (Am (cz h rfl (λc1 h2=>?_) (λc1 h3=>?_)))))))))))
 ·refine Ag (wa rfl (wa rfl (Am (Av (Ac (WK.up (d:=2) (r:=AQ 4 (A8 Ab ([]:List Aa))) rfl (Up.le (HK.nil _)) ?_))))));obtain rfl:=Aw h2;exact Au (DC Zd (AG rfl) (AG rfl)) sN ⟨rfl,rfl⟩
 ·refine Ar (AJ (Ag (wm rfl (wv (r:=BK [rS s,Ap 0,rv (.slice none 0 0),rB false]) (Q0 rfl rfl) (DR rfl rfl (λb4=>?_))))));refine wa rfl (Am (Ai (De (S:=(Bool×Af×Int×(List Aa)×Bool)×(Value)) (λσ=>Gz F σ.1.1 σ.1.2.1 σ.1.2.2.1 σ.1.2.2.2.1 σ.1.2.2.2.2=some r) (λσ=>[(2,rv (.slice none 0 0)),(3,Ap 0),(4,rP b4 0),(22,rB σ.1.1)]) (λσ=>[.blk b4 [rS σ.1.2.1,Ap σ.1.2.2.1,rv σ.2,rB σ.1.2.2.2.2] 127,.row σ.2 78 4 (A8 Ab σ.1.2.2.2.1)]) ?_ ?_)))
  ·refine Ah (wm rfl (WL.nilrow (e:=78) (sz:=4) (ob h3 λhb hk hl=>Gt (Hr:=[]) Tryz.call100 (UD F b4 (.slice none 0 0                                                                              ) (At.mk s 0 ([]:List Aa) false) hb hk) rfl ((A4 (i:=1) rfl).trans (AcJ _ (AcI _))) rfl ?_)));rintro _ _ ⟨v21,rfl,rfl⟩;refine wv (Ci rfl) (wm rfl (bz hl (λha hm=>?_) (λha hn=>?_)))
   ·exact wf ha (wf ha (wf ha (wf ha (wf ha (wf ha (wf ha (wv (r:=rB true) (A1 rfl ha rfl) (Ak (Az (A3 ((true,hb.2.fS,hb.2.fAt,hb.2.fCells,hb.2.fGreat),v21) hm (A6.c rfl (A6.c rfl (A6.c rfl (A6.c rfl A6.nil)))) (sC (sC sN))))))))))))
   ·exact wo ha (wm rfl (wo ha (wv (A2 rfl) (wo ha (vF B2 rfl Ct (wo ha (vL 0 CX rfl (wo ha (wm rfl (wo ha (wv (Bj Ce rfl) (wo ha (wv (CQ rfl rfl) (GK rfl ha rfl (Ak (Az (A3 ((!decide (hb.2.fAt=(s.length:Int)),hb.2.fS,hb.2.fAt,hb.2.fCells,hb.2.fGreat),v21) hn (A6.c rfl (A6.c rfl (A6.c rfl (A6.c rfl A6.nil)))) (sC (sC sN)))))))))))))))))))
  ·rintro⟨⟨hf,hg,hh,hd,hi⟩,hj⟩ he;refine BG (l':=[(2,rv (.slice none 0 0)),(3,Ap 0),(4,rP b4 0),(22,rB hf)]) (H':=[.blk b4 [rS hg,Ap hh,rv hj,rB hi] 127,.row hj 78 4 (A8 Ab hd)]) rfl rfl ?_;replace he:Gz F hf hg hh hd hi=some r:=he;unfold Gz at he;refine cz he rfl (λho hp=>?_) (λho hq=>?_)
   ·refine Ag (wa rfl (wa rfl (Am (Av (Ac (WK.up (d:=2) (r:=AQ 4 (A8 Ab ([]:List Aa))) rfl (Up.le (HK.nil _)) ?_))))));obtain rfl:=Aw hp;exact Au (DC Zd (AG rfl) (AG rfl)) (sS (sS sN)) ⟨rfl,rfl⟩
   ·refine Ar (AJ (Ai (Ag (wm rfl (wv (A2 rfl) (vF B2 rfl HJ (vL 0 Qg rfl (Am (cz hq rfl (λhr hs=>?_) (λhr ht=>?_))))))))))
    ·refine Ag (wa rfl (wa rfl (Am (Av (Ac (WK.up (d:=2) (r:=AQ 4 (A8 Ab ([]:List Aa))) rfl (Up.le (HK.nil _)) ?_))))));obtain rfl:=Aw hs;exact Au (DC Zd (AG rfl) (AG rfl)) (sS (sS sN)) ⟨rfl,rfl⟩
    ·refine Ar (AJ (Ag (wm rfl (wv (A2 rfl) (vF B2 rfl CO (vL 0 EL rfl (WL.freeze (i:=1) rfl (WL.up (d:=30) (r:=AQ 4 (A8 Ab hd)) rfl (Up.fact (i:=0) rfl) (ob ht λhu hw hx=>CG Tryz.call101 (SN F hd hu hw) rfl (wv (AE rfl rfl) (wv (AE rfl rfl) (wa rfl (wa rfl (Am (Av ?_)))))))))))))));obtain rfl:=Aw hx;exact Au (DC Zd (AG rfl) (AG rfl)) (sS (sS sN)) ⟨rfl,rfl⟩
end Go.Proofs.YtjfnokmpfekniaaGreatDoor.Q
namespace Go.Proofs.YtjfnokmpfekniaaGreatDoor
open Go
set_option linter.unusedVariables false
end Go.Proofs.YtjfnokmpfekniaaGreatDoor
namespace Go.Proofs.YtjfnokmpfekniaaGreatDoor.Q
open Go Go.RowKit
set_option linter.unusedVariables false
set_option linter.unusedSimpArgs false
set_option maxRecDepth 100000
set_option maxHeartbeats 4000000
end Go.Proofs.YtjfnokmpfekniaaGreatDoor.Q
namespace Go.Proofs.YtjfnokmpfekniaaGreatDoor
open Go
set_option linter.unusedVariables false
end Go.Proofs.YtjfnokmpfekniaaGreatDoor
namespace Go.Proofs.YtjfnokmpfekniaaGreatDoor.Q
open Go Go.RowKit
set_option linter.unusedVariables false
set_option linter.unusedSimpArgs false
set_option maxRecDepth 100000
set_option maxHeartbeats 4000000
end Go.Proofs.YtjfnokmpfekniaaGreatDoor.Q
namespace Go.Proofs.YtjfnokmpfekniaaGreatDoor
open Go
set_option linter.unusedVariables false
set_option linter.unusedSimpArgs false
section
variable {T S : Type}
def Bs:List (Af×T)→Af→Option T
 | [],_=>none
 | p::r,k=>bif decide (p.1=k) then some p.2 else Bs r k
def Cw (xs:List (Af×T))(k:Af)(z:T):T:=(Bs xs k).getD z
def Cp (xs:List (Af×T))(k:Af):Bool:=(Bs xs k).isSome
def mins (k:Af)(v:T):List (Af×T)→List (Af×T)
 | []=>[(k,v)]
 | p::r=>bif BE k p.1 then(k,v)::p::r else p::mins k v r
def mput (xs:List (Af×T))(k:Af)(v:T):List (Af×T):=xs.map λp=>bif decide (p.1=k) then(k,v) else p
def mset (xs:List (Af×T))(k:Af)(v:T):List (Af×T):=bif Cp xs k then mput xs k v else mins k v xs
def mdel (xs:List (Af×T))(k:Af):List (Af×T):=xs.filter λp=>!decide (p.1=k)
def AY (f:T→S)(xs:List (Af×T)):List (Af×S):=xs.map λp=>(p.1,f p.2)
theorem LJ (f:T→S):∀(xs:List (Af×T)) (k:Af),Bs (AY f xs) k=(Bs xs k).map f
 | [],k=>rfl
 | p::r,k=>by
  show(bif decide (p.1=k) then some (f p.2) else Bs (AY f r) k)=_;rw[Bs,LJ f r k]
  cases decide (p.1=k)<;>rfl
theorem X8 (f:T→S)(xs:List (Af×T))(k:Af):Cp (AY f xs) k=Cp xs k:=by
 unfold Cp;rw[LJ];cases Bs xs k<;>rfl
theorem RO (f:T→S)(k:Af)(v:T):∀xs:List (Af×T),AY f (mins k v xs)=mins k (f v) (AY f xs)
 | []=>rfl
 | p::r=>by
  show AY f (bif BE k p.1 then(k,v)::p::r else p::mins k v r)=(bif BE k p.1 then(k,f v)::(p.1,f p.2)::AY f r else(p.1,f p.2)::mins k (f v) (AY f r));rw[← RO f k v r]
  cases BE k p.1<;>rfl
theorem X6 (f:T→S)(xs:List (Af×T))(k:Af)(v:T):AY f (mset xs k v)=mset (AY f xs) k (f v):=by
 unfold mset;rw[X8]
 cases Cp xs k with
 | false=>exact RO f k v xs
 | true=>
  show AY f (mput xs k v)=mput (AY f xs) k (f v);unfold AY mput;rw[AdB,AdB];refine List.map_congr_left λp _=>?_;show _=(bif decide (p.1=k) then(k,f v) else(p.1,f p.2));simp only[Function.comp]
  cases decide (p.1=k)<;>rfl
theorem X9 (f:T→S)(xs:List (Af×T))(k:Af):AY f (mdel xs k)=mdel (AY f xs) k:=by
 unfold AY mdel;rw[List.filter_map];rfl
theorem JK (f:T→S)(xs:List (Af×T)):(AY f xs).length=xs.length:=by simp[AY]
theorem M3 (k:Af)(v:T):∀xs:List (Af×T),(mins k v xs).Perm ((k,v)::xs)
 | []=>AcI _
 | p::r=>by
  rw[mins]
  cases BE k p.1 with
  | true=>exact AcI _
  | false=>exact((M3 k v r).cons p).trans (List.Perm.swap _ _ _)
def GX (x:T):List T→List (List T)
 | []=>[[x]]
 | y::r=>(x::y::r)::(GX x r).map (y::·)
def KI:List T→List (List T)
 | []=>[[]]
 | x::r=>(KI r).flatMap (GX x)
theorem Nb (x:T):∀(a b:List T),a++x::b∈GX x (a++b)
 | [],[]=>by simp[GX]
 | [],y::b=>by simp[GX]
 | y::a,b=>by
  simp only[Ads,GX,Ad6,List.mem_map];exact .inr ⟨_,Nb x a b,rfl⟩
theorem PD:∀(xs ys:List T),ys.Perm xs→ys∈KI xs
 | [],ys,h=>by rw[h.eq_nil];simp[KI]
 | x::r,ys,h=>by
  have hx:x∈ys:=h.symm.subset (List.mem_cons_self ..);obtain⟨a,b,rfl⟩:=List.append_of_mem hx;have h2:(a++b).Perm r:=(List.perm_middle.symm.trans h).cons_inv;simp only[KI,List.mem_flatMap];exact⟨a++b,PD r _ h2,Nb x a b⟩
def X7 {R:Type}[DecidableEq R](xs:List T)(K:List T→Option R):Option R:=match K xs with
 | none=>none
 | some r=>bif (KI xs).all (λp=>decide (K p=some r)) then some r else none
theorem AaX {R:Type}[DecidableEq R]{xs:List T}{K:List T→Option R}{r:R}(h:X7 xs K=some r):∀p:List T,p.Perm xs→K p=some r:=λp hp=>by
 unfold X7 at h
 cases hk:K xs with
 | none=>rw[hk] at h;cases h
 | some q=>
  rw[hk] at h;simp only at h
  cases ha:(KI xs).all (λp=>decide (K p=some q)) with
  | false=>rw[ha] at h;cases h
  | true=>
   rw[ha] at h;cases h;exact AcK (List.all_eq_true.1 ha p (PD xs p hp))
theorem IB (x:T):∀(xs ys:List T),ys∈GX x xs→ys.Perm (x::xs)
 | [],ys,h=>by simp[GX] at h;rw[h]
 | y::r,ys,h=>by
  simp only[GX,Ad6,List.mem_map] at h;rcases h with rfl | ⟨z,hz,rfl⟩
  ·exact AcI _
  ·exact((IB x r z hz).cons y).trans (List.Perm.swap _ _ _)
theorem Ot:∀(xs ys:List T),ys∈KI xs→ys.Perm xs
 | [],ys,h=>by simp[KI] at h;rw[h]
 | x::r,ys,h=>by
  simp only[KI,List.mem_flatMap] at h;obtain⟨z,hz,hy⟩:=h;exact(IB x z ys hy).trans ((Ot r z hz).cons x)
theorem AaW {R:Type}[DecidableEq R]{xs:List T}{K:List T→Option R}{r:R}(h:∀p:List T,p.Perm xs→K p=some r):X7 xs K=some r:=by
 unfold X7;rw[h xs (AcI _)];have:(KI xs).all (λp=>decide (K p=some r))=true:=List.all_eq_true.2 λp hp=>AcC (h p (Ot xs p hp));simp only[this];rfl
def V3 {St O:Type}(body:T→St→Option (Stp St (Out O St))):List T→St→Option (Out O St)
 | [],s=>some (.go s)
 | x::r,s=>match body x s with
  | none=>none
  | some (.next s')=>V3 body r s'
  | some (.out o)=>some o
def Ace {St R:Type}(body:T→St→Option (Stp St (Out R St)))(ys:List T)(K:St→Option R)(r:R):Stp St (Out R St)→Prop
 | .next s'=>∀q:List T,q.Perm ys→Br (V3 body q s') (B5 K)=some r
 | .out o=>B5 K o=some r
theorem AbJ {St R:Type}{body:T→St→Option (Stp St (Out R St))}{ys ys':List T}{p:T}{s:St}{K:St→Option R}{r:R}(h:∀q:List T,q.Perm ys→Br (V3 body q s) (B5 K)=some r)(hp:ys.Perm (p::ys')):∃t,body p s=some t∧Ace body ys' K r t:=by
 have h1:∀q:List T,q.Perm ys'→Br (V3 body (p::q) s) (B5 K)=some r:=λq hq=>h _ ((hq.cons p).trans hp.symm)
 cases hb:body p s with
 | none=>
  have:=h1 ys' (AcI _);rw[V3,hb] at this;cases this
 | some t=>
  refine⟨t,rfl,?_⟩
  cases t with
  | next s'=>
   intro q hq;have:=h1 q hq;rw[V3,hb] at this;exact this
  | out o=>
   have:=h1 ys' (AcI _);rw[V3,hb] at this;exact this
theorem ZH {St R:Type}{body:T→St→Option (Stp St (Out R St))}{ys:List T}{s:St}{K:St→Option R}{r:R}(h:∀q:List T,q.Perm ys→Br (V3 body q s) (B5 K)=some r)(hy:ys=[]):K s=some r:=by
 subst hy;exact h [] (AcI _)
theorem PF {St R:Type}{body:T→St→Option (Stp St (Out R St))}{ys:List T}{s':St}{K:St→Option R}{r:R}{t:Stp St (Out R St)}(h:some (Stp.next s')=some t)(ht:Ace body ys K r t):∀q:List T,q.Perm ys→Br (V3 body q s') (B5 K)=some r:=by cases h;exact ht
theorem TO {ys ys':List T}{p:T}(h:ys.Perm (p::ys')):ys'.length<ys.length:=by rw[h.length_eq];exact AcM _
end
end Go.Proofs.YtjfnokmpfekniaaGreatDoor
namespace Go.Proofs.YtjfnokmpfekniaaGreatDoor.Q
open Go Go.RowKit
set_option linter.unusedVariables false
set_option linter.unusedSimpArgs false
def rBx (p:Bool→Prop):Rp:=⟨λ_ v=>∃b,v = .bool b∧p b,λ_ h=>h,true,λ_ Z v ⟨b,e,_⟩=>by rw[e];rfl⟩
section
variable {P : Program} {n : Nat} {c : Cx} {ops : Array Oper} {Q : Exit → Act → World → Prop} {rest : List Oper} {l : Fr} {H : List Ent} {d : Option Nat} {ty rty t e : TypeId} {pos : String} {af : Array Edge} {g : Option (Nat × Bool)} {r : Rp} {x : Operand} {cx cy : Code} {sz : Nat} {xs : List (List Rp)}
theorem Wv {o:Operand}{p:Bool→Prop}(ho:ev l o=some (rBx p))(h1:p true→WC P n c cx Q l H)(h2:p false→WC P n c cy Q l H):WC P n c (.cond o cx cy) Q l H:=λa w Z ha hw=>by
 obtain⟨b,e,hp⟩:=ha.ev ho;exact wp_cond_split e (λe=>h1 (e▸hp) a w Z ha hw) (λe=>h2 (e▸hp) a w Z ha hw)
theorem Vm (ht:P.underlying t=some (.slice e))(h:ev l x=some (AQ sz xs)):Bn P n c l H { dst:=d,op:=.binOp .eql t x (.const (.slice none 0 0)) rty,type:=ty,pos:=pos,after:=af,guard:=g } (rBx (λb=>b=true→xs=[])):=λa w Z ha hw=>by
 obtain⟨A,cap,e1,h1,h2,h3,h4⟩:=ha.ev h;refine⟨.bool A.isNone,⟨_,rfl,λhb=>?_⟩,?_⟩
 ·cases A with
  | some a=>cases hb
  | none=>
   have:=h3 rfl;exact List.length_eq_zero_iff.1 (by omega)
 ·have:=run_equal_slice_nil (P:=P) w t e A xs.length cap ht;have e2:a.eval (.const (.slice none 0 0)) = .slice none 0 0:=rfl;simp[execOp,e1,e2,binOp,this,eqGuard]
end
section
variable {P : Program} {n : Nat} {c : Cx} {l : Fr} {H : List Ent} {d : Option Nat} {ty rty t e : TypeId} {pos : String} {af : Array Edge} {g : Option (Nat × Bool)} {x : Operand} {sz : Nat}
end
def QI (ops:List Oper)(N:Nat):Bool:=
 let cl:=OW ops []
 (List.range ops.length).all (λi=>(Gb (ops.getD i default)).all (·<i))&&
 (List.range ops.length).all (λi=>i<N||(List.range i).all (λj=>(cl.getD i 0).testBit j))
section
variable {P : Program} {Q : Exit → Act → World → Prop}
theorem S3 {listed:Array Bool}{len m:Nat}(hs:listed.size=len)(hm:m≤len)(h:∀j,j<len→(listed.getD j true=true↔j<m)):listed.toList.count false=len-m:=by
 have:listed.toList=List.replicate m true++List.replicate (len-m) false:=by
  apply List.ext_getElem
  ·simp[hs];omega
  ·intro j h1 h2;have hj:j<len:=by simpa[hs] using h1
   have:=h j hj;rw[Array.getD_eq_getD_getElem?,Array.getElem?_eq_getElem (by omega)] at this;simp only[Adj] at this;rw[Array.getElem_toList,List.getElem_append]
   split
   ·rename_i h3
    simp at h3;simp[this.2 h3]
   ·rename_i h3
    simp at h3;simp only[List.getElem_replicate]
    cases hb:listed[j] with
    | false=>rfl
    | true=>have:=this.1 hb;omega
 rw[this];simp[List.count_append,List.count_replicate]
theorem Ul {listed:Array Bool}{j:Nat}(h:j<listed.size)(d d':Bool):listed.getD j d=listed.getD j d':=by
 simp[Array.getD_eq_getD_getElem?,Array.getElem?_eq_getElem h]
theorem Pa {ops:List Oper}{listed:Array Bool}{i:Nat}{o:Oper}(ho:ops[i]? =some o)(hb:∀e∈Gb o,listed.getD e true=true)
  (hcl:∀j o,ops[j]? =some o→listed.getD j true=true→∀e∈Gb o,listed.getD e true=true) (j:Nat) (h:((OW ops []).getD i 0).testBit j=true):j=i∨listed.getD j true=true:=
 IN ops (λk=>k=i∨listed.getD k true=true) ops [] (λt o' ht e he hF=>by
  rcases hF with hF | hF
  ·simp at hF;subst hF;rw[ho] at ht;simp at ht;subst ht;exact .inr (hb e he)
  ·exact .inr (hcl t o' ht (by simpa using hF) e he)) (λj i hb=>by simp at hb) i j h (.inl rfl)
theorem KV {ops:List Oper}{listed:Array Bool}{i:Nat}(hsz:listed.size=ops.length)(hlt:∀i,i<ops.length→∀e∈Gb (ops.getD i default),e<i)(h:i∈Region.ready .any ops.toArray listed) :
  listed.getD i true=false∧i<ops.length∧∃o,ops[i]? =some o∧∀e∈Gb o,listed.getD e true=true:=by
 obtain⟨h1,o,ho,h2⟩:=mem_ready.1 h;have ho':ops[i]? =some o:=by simpa using ho
 have hil:=(List.getElem?_eq_some_iff.1 ho').1;refine⟨h1,hil,o,ho',λe he=>?_⟩;have hei:=hlt i hil e (by rw[AcN,ho'];exact he);simp only[Gb,List.mem_map,List.mem_filter] at he;obtain⟨x,⟨hx1,hx2⟩,rfl⟩:=he;have h3:=h2 x (by simpa using hx1) hx2;rw[Ul (by omega) true false];exact h3
theorem KK {ops:List Oper}{listed:Array Bool}(hsz:listed.size=ops.length)(hlt:∀i,i<ops.length→∀e∈Gb (ops.getD i default),e<i)(h:Region.ready .any ops.toArray listed=[]) :
  ∀j,j<ops.length→listed.getD j true=true:=by
 intro j
 induction j using Nat.strongRecOn with
 | ind j ih=>
  intro hj
  cases hb:listed.getD j true with
  | true=>rfl
  | false=>
   have:j∈Region.ready .any ops.toArray listed:=mem_ready.2 ⟨hb,ops[j],by simp[hj],λe he hbn=>by
    have hel:e.on<j:=hlt j hj e.on (by
     rw[AcN,AcL hj];simp only[Gb,Adj,List.mem_map,List.mem_filter];exact⟨e,⟨by simpa using he,hbn⟩,rfl⟩)
    rw[Ul (by omega) false true];exact ih e.on hel (by omega)⟩
   rw[h] at this;cases this
theorem Nz {listed:Array Bool}{i j:Nat}(hi:i<listed.size):(listed.setIfInBounds i true).getD j true=true↔(j=i∨listed.getD j true=true):=by
 by_cases hj:i=j
 ·subst hj;simp[hi]
 ·rw[getD_set_ne true hj];exact⟨.inr,λh=>h.elim (λh=>absurd h.symm hj) id⟩
theorem UQ {listed:Array Bool}{i fuel:Nat}(hi:i<listed.size)(hun:listed.getD i true=false)(hc:listed.toList.count false=fuel+1):(listed.setIfInBounds i true).toList.count false=fuel:=by
 have hfi:listed.toList[i]? =some false:=by
  rw[Array.getD_eq_getD_getElem?,Array.getElem?_eq_getElem hi] at hun;simp at hun;simp[hi,hun]
 rw[Array.toList_setIfInBounds];have h1:=List.count_set (a:=true) (b:=false) (l:=listed.toList) (i:=i) (by simpa using hi);have h2:listed.toList[i]'(by simpa using hi)=false:=by
  have:=List.getElem?_eq_some_iff.1 hfi;exact this.2
 rw[h1,h2,hc];rfl
theorem MM {ops:List Oper}{N:Nat}(hlt:∀i,i<ops.length→∀e∈Gb (ops.getD i default),e<i)
  (hch:∀i,N≤i→i<ops.length→∀j,j<i→((OW ops []).getD i 0).testBit j=true):∀(k m:Nat) (listed:Array Bool) (a:Act) (w:World),m+k=ops.length→N≤m→listed.size=ops.length→
   (∀j,j<ops.length→(listed.getD j true=true↔j<m))→(∀j o,ops[j]? =some o→listed.getD j true=true→∀e∈Gb o,listed.getD e true=true)→wpList P ops.toArray Q (ops.drop m) a w→wpAny P .any ops.toArray Q k listed a w
 | 0,m,listed,a,w,hk,hN,hsz,hl,hcl,h=>by
  refine⟨?_,?_⟩
  ·cases hr:Region.ready .any ops.toArray listed with
   | nil=>rfl
   | cons i r=>
    obtain⟨h1,h2,_⟩:=KV hsz hlt (i:=i) (by rw[hr];simp);rw[(hl i h2).2 (by omega)] at h1;cases h1
  ·rw[List.drop_of_length_le (by omega)] at h;exact h
 | k+1,m,listed,a,w,hk,hN,hsz,hl,hcl,h=>by
  refine⟨λhr=>?_,λi hi=>?_⟩
  ·have:=(hl m (by omega)).1 (KK hsz hlt hr m (by omega));omega
  ·obtain⟨h1,h2,o,ho,hb⟩:=KV hsz hlt hi;have him:i=m:=by
    have hmi : ¬ i<m:=λh'=>by rw[(hl i h2).2 h'] at h1;cases h1
    by_cases e:i=m
    ·exact e
    ·rcases Pa ho hb hcl m (hch i (by omega) h2 m (by omega)) with h3 | h3
     ·exact h3.symm
     ·have:=(hl m (by omega)).1 h3;omega
   subst him;have hd:ops.drop i=o::ops.drop (i+1):=by
    rw[List.drop_eq_getElem_cons h2]
    congr 1
    exact(List.getElem?_eq_some_iff.1 ho).2
   rw[hd] at h;have ih:∀a' w',wpList P ops.toArray Q (ops.drop (i+1)) a' w'→wpAny P .any ops.toArray Q k (listed.setIfInBounds i true) a' w':=λa' w' h'=>by
    refine MM hlt hch k (i+1) _ a' w' (by omega) (by omega) (by simpa using hsz) (λj hj=>?_) (λj o' hj hlj e he=>?_) h'
    ·rw[Nz (by omega),hl j hj];omega
    ·rw[Nz (by omega)] at hlj ⊢;rcases hlj with rfl | hlj
     ·rw[ho] at hj;simp at hj;subst hj;exact .inr (hb e he)
     ·exact .inr (hcl j o' hj hlj e he)
   unfold wpOp;have hoA:ops.toArray[i]? =some o:=by simpa using ho
   simp only[hoA];simp only[wpList] at h
   split
   ·rename_i hw'
    rw[Ad2 hw'] at h;exact h.imp (λh=>Oper.wp_mono ih h) (λh=>h)
   ·rename_i hw'
    rw[Adp hw'] at h;exact ih _ _ h
theorem Ws {id:Nat}{ops:List Oper}{N:Nat}(hm:P.follows .mixedOrders=true)(hB:QI ops N=true)(hN:N≤ops.length)(I:(Nat→Bool)→Act→World→Prop)
  (hext:∀S S' a w,(∀j,j<N→S j=S' j)→I S a w→I S' a w) {a:Act} {w:World} (h0:I (λ_=>false) a { w with drawn:=w.drawn+1 })
  (step:∀S i o a w,i<N→S i=false→ops[i]? =some o→(∀e∈Gb o,e<i∧S e=true)→I S a w→∀K:Act→World→Prop,(∀a' w',I (λj=>j ==i||S j) a' w'→K a' w')→
   (Region.wanted o (yielded ops.toArray a.tmps)=true→o.wp P a w K Q)∧(Region.wanted o (yielded ops.toArray a.tmps)=false→K (a.put o.dst undef) w))
  (fin:∀a w,I (λ_=>true) a w→wpList P ops.toArray Q (ops.drop N) a w):(Code.region id ops.toArray true).wp P Q a w:=by
 simp only[QI,AcG,Adn,List.mem_range,Ac9,Adu] at hB;obtain⟨hlt,hch0⟩:=hB;have hch:∀i,N≤i→i<ops.length→∀j,j<i→((OW ops []).getD i 0).testBit j=true:=λi h1 h2 j hj=>by
  rcases hch0 i h2 with h3 | h3
  ·omega
  ·exact h3 j hj
 refine wp_region_any hm ?_;have main:∀(fuel:Nat) (listed:Array Bool) (a:Act) (w:World),listed.size=ops.length→listed.toList.count false=fuel→I (λj=>listed.getD j true) a w→
   (∀j o,ops[j]? =some o→listed.getD j true=true→∀e∈Gb o,listed.getD e true=true)→(∀j,N≤j→j<ops.length→listed.getD j true=false)→wpAny P .any ops.toArray Q fuel listed a w:=by
  intro fuel;have allin:∀(fuel:Nat) (listed:Array Bool) (a:Act) (w:World),listed.size=ops.length→listed.toList.count false=fuel→I (λj=>listed.getD j true) a w→
   (∀j o,ops[j]? =some o→listed.getD j true=true→∀e∈Gb o,listed.getD e true=true)→(∀j,N≤j→j<ops.length→listed.getD j true=false)→(∀j,j<N→listed.getD j true=true)→wpAny P .any ops.toArray Q fuel listed a w:=by
   intro fuel listed a w hsz hc hI hcl hlast hall;have hl:∀j,j<ops.length→(listed.getD j true=true↔j<N):=λj hj=>by
    constructor
    ·intro h
     by_cases hjN:j<N
     ·exact hjN
     ·rw[hlast j (by omega) hj] at h;cases h
    ·exact hall j
   have:=S3 hsz hN hl;refine MM hlt hch fuel N listed a w (by omega) (AcY _) hsz hl hcl (fin a w (hext _ _ a w (λj hj=>hall j hj) hI))
  induction fuel with
  | zero=>
   intro listed a w hsz hc hI hcl hlast;refine allin 0 listed a w hsz hc hI hcl hlast (λj hj=>?_)
   cases hb:listed.getD j true with
   | true=>rfl
   | false=>
    have:false∈listed.toList:=by
     rw[Array.getD_eq_getD_getElem?,Array.getElem?_eq_getElem (by omega)] at hb;simp at hb;rw[← hb];simp
    have:=List.count_pos_iff.2 this;omega
  | succ fuel ih=>
   intro listed a w hsz hc hI hcl hlast
   by_cases hall:∀j,j<N→listed.getD j true=true
   ·exact allin (fuel+1) listed a w hsz hc hI hcl hlast hall
   ·refine⟨λhr=>absurd (λj hj=>KK hsz hlt hr j (by omega)) hall,λi hi=>?_⟩;obtain⟨h1,h2,o,ho,hb⟩:=KV hsz hlt hi;have hiN:i<N:=by
     by_cases h:i<N
     ·exact h
     ·refine absurd (λj hj=>?_) hall;rcases Pa ho hb hcl j (hch i (by omega) h2 j (by omega)) with h3 | h3
      ·omega
      ·exact h3
    have K':∀a' w',I (λj=>j ==i||listed.getD j true) a' w'→wpAny P .any ops.toArray Q fuel (listed.setIfInBounds i true) a' w':=λa' w' hI'=>by
     refine ih _ a' w' (by simpa using hsz) (UQ (by omega) h1 hc) (hext _ _ a' w' (λj hj=>?_) hI') (λj o' hj hlj e he=>?_) (λj h3 h4=>?_)
     ·have:=Nz (listed:=listed) (i:=i) (j:=j) (by omega)
      cases hq:(listed.setIfInBounds i true).getD j true with
      | true=>
       rw[hq] at this;rcases this.1 rfl with h | h
       ·simp[h]
       ·simp[h]
      | false=>
       rw[hq] at this;have h5 : ¬ (j=i∨listed.getD j true=true):=λh=>by have:=this.2 h;cases this
       cases hz:listed.getD j true with
       | true=>exact absurd (.inr hz) h5
       | false=>
        have:j≠i:=λh=>h5 (.inl h);simp[this]
     ·rw[Nz (by omega)] at hlj ⊢;rcases hlj with rfl | hlj
      ·rw[ho] at hj;simp at hj;subst hj;exact .inr (hb e he)
      ·exact .inr (hcl j o' hj hlj e he)
     ·rw[getD_set_ne true (by omega)];exact hlast j h3 h4
    obtain⟨k1,k2⟩:=step _ i o a w hiN h1 ho (λe he=>⟨hlt i h2 e (by rw[AcN,ho];exact he),hb e he⟩) hI _ K';unfold wpOp;have hoA:ops.toArray[i]? =some o:=by simpa using ho
    simp only[hoA]
    split
    ·rename_i hw';exact .inl (k1 hw')
    ·rename_i hw';exact k2 (by simpa using hw')
 have e0:∀j,j<ops.length→(Array.replicate ops.length false).getD j true=false:=λj hj=>by simp[hj]
 have hsz0:ops.toArray.size=ops.length:=by simp
 rw[hsz0];refine main ops.length (Array.replicate ops.length false) a _ (by simp) (by simp) (hext _ _ _ _ (λj hj=>(e0 j (by omega)).symm) h0) (λj o hj hl=>?_) (λj _ h2=>e0 j h2);rw[e0 j (List.getElem?_eq_some_iff.1 hj).1] at hl;cases hl
end
structure Sa where
 deps:List Nat
 r:Rp
 al:Option (List Rp×TypeId):=none
 late:Option (Nat×List Rp):=none
 sto:Option Nat:=none
def GQ (sp:List Sa)(i:Nat):Sa:=sp.getD i { deps:=[],r:=rv undef }
def Zw (sp:List Sa):List Sp:=sp.map λs=>⟨s.deps,s.r,0⟩
def Mq (β:Nat→Nat)(s:Sa)(i:Nat):Rp:=match s.al with
 | none=>s.r
 | some _=>rv (.pointer (some ⟨β i,0,none⟩))
def MF (S:Nat→Bool)(late:Option (Nat×List Rp))(cs:List Rp):List Rp:=match late with
 | none=>cs
 | some q=>if S q.1 then q.2 else cs
def Ha (S:Nat→Bool)(β:Nat→Nat):List Sa→Nat→List Ent
 | [],_=>[]
 | s::r,t=>match s.al with
  | some p=>if S t then .blk (β t) (MF S s.late p.1) p.2::Ha S β r (t+1) else Ha S β r (t+1)
  | none=>Ha S β r (t+1)
def VR (β:Nat→Nat):List Sa→Nat→List Ent
 | [],_=>[]
 | s::r,t=>match s.al with
  | some p=>.blk (β t) (match s.late with | none=>p.1 | some q=>q.2) p.2::VR β r (t+1)
  | none=>VR β r (t+1)
def Nn (β:Nat→Nat):List Oper→List Sa→Nat→Fr→Fr
 | o::os,s::sp,i,l=>match o.dst with
  | some d=>(d,Mq β s i)::Nn β os sp (i+1) l
  | none=>Nn β os sp (i+1) l
 | _,_,_,l=>l
theorem Lj {S S':Nat→Bool}{late:Option (Nat×List Rp)}{cs:List Rp}(h:∀q,late=some q→S q.1=S' q.1):MF S late cs=MF S' late cs:=by
 unfold MF
 cases late with
 | none=>rfl
 | some q=>simp only[];rw[h q rfl]
theorem EY (S:Nat→Bool)(β:Nat→Nat)(s:Sa)(r:List Sa)(t:Nat):Ha S β (s::r) t=match s.al with
  | some p=>if S t then .blk (β t) (MF S s.late p.1) p.2::Ha S β r (t+1) else Ha S β r (t+1)
  | none=>Ha S β r (t+1):=rfl
theorem HF {S S':Nat→Bool}{β β':Nat→Nat}:∀(r:List Sa) (t0:Nat),(∀(t:Nat) (s:Sa),r[t]? =some s→s.al≠none→S (t0+t)=S' (t0+t)∧(S (t0+t)=true→β (t0+t)=β' (t0+t)∧∀q,s.late=some q→S q.1=S' q.1))→Ha S β r t0=Ha S' β' r t0
 | [],_,_=>rfl
 | s::r,t0,h=>by
  have ih:=HF r (t0+1) (λt s hs hn=>by
   have:=h (t+1) s (by simpa using hs) hn;rw[show t0+1+t=t0+(t+1) from by omega];exact this)
  unfold Ha;rw[ih]
  cases ha:s.al with
  | none=>rfl
  | some p=>
   obtain⟨h1,h2⟩:=h 0 s rfl (by rw[ha];exact nofun);simp only[Nat.add_zero] at h1 h2;simp only[];rw[← h1]
   split
   ·rename_i hS;rw[(h2 hS).1,Lj (h2 hS).2]
   ·rfl
theorem Sz (β:Nat→Nat):∀(r:List Sa) (t0:Nat),Ha (λ_=>true) β r t0=VR β r t0
 | [],_=>rfl
 | s::r,t0=>by
  unfold Ha VR;rw[Sz β r (t0+1)]
  cases s.al with
  | none=>rfl
  | some p=>cases hl:s.late<;>simp[MF,hl]
theorem PW (β:Nat→Nat):∀(r:List Sa) (t0:Nat),Ha (λ_=>false) β r t0=[]
 | [],_=>rfl
 | s::r,t0=>by
  unfold Ha;rw[PW β r (t0+1)]
  cases s.al<;>simp
theorem Sy {S:Nat→Bool}{β:Nat→Nat}{i b:Nat}{p:List Rp×TypeId}:∀(r:List Sa) (t0 k:Nat) (s:Sa),i=t0+k→r[k]? =some s→s.al=some p→S i=false→(∀(t:Nat) (s:Sa) (q:Nat×List Rp),r[t]? =some s→s.al≠none→s.late=some q→q.1≠i)→(∀q,s.late=some q→S q.1=false∧q.1≠i)→
  (Ha (λj=>j ==i||S j) (λj=>if j=i then b else β j) r t0).Perm (.blk b p.1 p.2::Ha S β r t0)
 | [],_,_,_,_,h,_,_,_,_=>by simp at h
 | s'::r,t0,0,s,hi,h,ha,hS,hne,hl=>by
  simp at h hi;subst h;subst hi;have e:=HF (S:=λj=>j ==i||S j) (S':=S) (β:=λj=>if j=i then b else β j) (β':=β) r (i+1) (λt s hs hn=>by
   have:i+1+t≠i:=by omega
   refine⟨by simp[this],λ_=>⟨by simp[this],λq hq=>?_⟩⟩;have:=hne (t+1) s q (by simpa using hs) hn hq;simp[this])
  have ec:MF (λj=>j ==i||S j) s'.late p.1=p.1:=by
   unfold MF
   cases hq:s'.late with
   | none=>rfl
   | some q=>
    obtain⟨h1,h2⟩:=hl q hq;simp[h1,h2]
  unfold Ha;rw[e,ha];simp only[hS,BEq.rfl,Adq,Ad7,ec];simp
 | s'::r,t0,k+1,s,hi,h,ha,hS,hne,hl=>by
  have ih:=Sy (S:=S) (β:=β) (i:=i) (b:=b) (p:=p) r (t0+1) k s (by omega) (by simpa using h) ha hS (λt s q hs=>hne (t+1) s q (by simpa using hs)) hl;have hne0:t0≠i:=by omega
  have hne':(t0 ==i)=false:=by simpa using hne0
  unfold Ha
  cases ha':s'.al with
  | none=>exact ih
  | some q=>
   simp only[hne',AcW,Adp hne0];rw[Lj (S:=λj=>j ==i||S j) (S':=S) (λq hq=>by
    have:=hne 0 s' q rfl (by rw[ha'];exact nofun) hq;simp[this])]
   cases hS':S t0 with
   | true=>simpa using(AcJ _ ih).trans (List.Perm.swap _ _ _)
   | false=>simpa using ih
theorem Sw {S:Nat→Bool}{β:Nat→Nat}{i j:Nat}{p:List Rp×TypeId}{ncs:List Rp}:∀(r:List Sa) (t0 k:Nat) (s:Sa),j=t0+k→r[k]? =some s→s.al=some p→s.late=some (i,ncs)→S j=true→S i=false→(∀(t:Nat) (s:Sa) (q:Nat×List Rp),r[t]? =some s→s.al≠none→s.late=some q→t0+t≠j→q.1≠i)→(∀(t:Nat) (s:Sa),r[t]? =some s→s.al≠none→t0+t≠i)→
  ∃H',(Ha S β r t0).Perm (.blk (β j) p.1 p.2::H')∧(Ha (λj=>j ==i||S j) β r t0).Perm (.blk (β j) ncs p.2::H')
 | [],_,_,_,_,h,_,_,_,_,_,_=>by simp at h
 | s'::r,t0,0,s,hj,h,ha,hl,hSj,hSi,hne,hni=>by
  simp at h hj;subst h;subst hj;have e:=HF (S:=λx=>x ==i||S x) (S':=S) (β:=β) (β':=β) r (j+1) (λt s hs hn=>by
   have h1:=hni (t+1) s (by simpa using hs) hn;have h1':j+1+t≠i:=by omega
   refine⟨by simp[h1'],λ_=>⟨rfl,λq hq=>?_⟩⟩;have:=hne (t+1) s q (by simpa using hs) hn hq (by omega);simp[this])
  refine⟨Ha S β r (j+1),?_,?_⟩
  ·rw[EY];rw[ha];simp[hSj,MF,hl,hSi]
  ·rw[EY];rw[ha,e];simp[hSj,MF,hl]
 | s'::r,t0,k+1,s,hj,h,ha,hl,hSj,hSi,hne,hni=>by
  obtain⟨H',h1,h2⟩:=Sw (S:=S) (β:=β) (i:=i) (j:=j) (p:=p) (ncs:=ncs) r (t0+1) k s (by omega) (by simpa using h) ha hl hSj hSi (λt s q hs hn hq hx=>hne (t+1) s q (by simpa using hs) hn hq (by omega)) (λt s hs hn=>by
   have:=hni (t+1) s (by simpa using hs) hn;omega)
  cases ha':s'.al with
  | none=>exact⟨H',by rw[EY,ha'];exact h1,by rw[EY,ha'];exact h2⟩
  | some q=>
   have hi0:=hni 0 s' rfl (by rw[ha'];exact nofun);have hi0':(t0 ==i)=false:=by simpa using hi0
   have ec:MF (λx=>x ==i||S x) s'.late q.1=MF S s'.late q.1:=Lj (λq hq=>by
    have:=hne 0 s' q rfl (by rw[ha'];exact nofun) hq (by omega);simp[this])
   cases hS':S t0 with
   | true=>
    refine⟨.blk (β t0) (MF S s'.late q.1) q.2::H',?_,?_⟩
    ·rw[EY];rw[ha'];simpa[hS'] using(AcJ _ h1).trans (List.Perm.swap _ _ _)
    ·rw[EY];rw[ha'];simp only[hi0',AcW,hS',Ad7,ec];exact(AcJ _ h2).trans (List.Perm.swap _ _ _)
   | false=>
    refine⟨H',?_,?_⟩
    ·rw[EY];rw[ha'];simpa[hS'] using h1
    ·rw[EY];rw[ha'];simp only[hi0',AcW,hS'];simpa using h2
def okA (n:Nat)(ops:List Oper)(N:Nat)(keys:List Nat)(deps:List (List Nat))(als:List Bool)(lates stos:List (Option Nat)):Bool:=
 QI ops N&&decide (N≤ops.length)&&
 (List.range N).all (λi=>match CI ops i with
  | some d=>decide (d<n)&&!keys.contains d&&(List.range N).all (λj=>j ==i||CI ops j !=some d)
  | none=>true)&&
 (List.range N).all (λi=>(deps.getD i []).all (λj=>decide (j<N)&&(Gb (ops.getD i default)).contains j&&!als.getD j true))&&
 (List.range N).all (λi=>match stos.getD i none with
  | some j=>decide (j<N)&&(Gb (ops.getD i default)).contains j&&als.getD j false&&!als.getD i true
  | none=>true)&&
 (List.range N).all (λj=>match lates.getD j none with
  | some k=>decide (k<N)&&als.getD j false&&stos.getD k none ==some j
  | none=>true)
def Ab1 (P:Program)(n:Nat)(c:Cx)(opsA:Array Oper)(Q:Exit→Act→World→Prop)(o:Oper)(p:List Rp×TypeId):Prop:=
 ∀H a w Z (K:Act→World→Prop),St c H Z w→(∀b w',St c (.blk b p.1 p.2::H) Z w'→K (a.put o.dst (.pointer (some ⟨b,0,none⟩))) w')→
  Region.wanted o (yielded opsA a.tmps)=true∧o.wp P a w K Q
def ObA (P:Program)(n:Nat)(c:Cx)(opsA:Array Oper)(Q:Exit→Act→World→Prop)(ops:List Oper)(sp:List Sa)(l0:Fr)(H:List Ent)(i:Nat)(o:Oper):Prop:=
 match (GQ sp i).sto with
 | some j=>o.dst=none∧∃d p ncs,CI ops j=some d∧(GQ sp j).al=some p∧(GQ sp j).late=some (i,ncs)∧
   ∀b H,GA P n c opsA Q ((d,rv (.pointer (some ⟨b,0,none⟩)))::Cl ops (Zw sp) (GQ sp i).deps l0) (.blk b p.1 p.2::H) o (rv undef) (.blk b ncs p.2::H)
 | none=>match (GQ sp i).al with
  | none=>∀E,GA P n c opsA Q (Cl ops (Zw sp) (GQ sp i).deps l0) (H++E) o (GQ sp i).r (H++E)
  | some p=>Ab1 P n c opsA Q o p
def Lm (P:Program)(n:Nat)(c:Cx)(opsA:Array Oper)(Q:Exit→Act→World→Prop)(ops:List Oper)(sp:List Sa)(l0:Fr)(H:List Ent):Nat→List Oper→Prop
 | i,o::rest=>ObA P n c opsA Q ops sp l0 H i o∧Lm P n c opsA Q ops sp l0 H (i+1) rest
 | _,[]=>True
section
variable {P : Program} {n : Nat} {c : Cx} {opsA : Array Oper} {Q : Exit → Act → World → Prop} {l l0 : Fr} {H : List Ent} {sp : List Sa}
theorem Lm.at {ops:List Oper}:∀{k:Nat} {rest:List Oper},Lm P n c opsA Q ops sp l0 H k rest→∀(t:Nat) o,rest[t]? =some o→ObA P n c opsA Q ops sp l0 H (k+t) o
 | k,o::rest,⟨h1,h2⟩,t,o',ht=>by
  cases t with
  | zero=>simp at ht;subst ht;exact h1
  | succ t=>
   have:=Lm.at h2 t o' (by simpa using ht);rw[show k+(t+1)=k+1+t from by omega];exact this
 | _,[],_,t,o,h=>by simp at h
theorem QM {β:Nat→Nat}{a:Act}{Z:Fz}(h0:Dl n l0 a Z):∀(os:List Oper) (ss:List Sa) (k:Nat),(∀(t:Nat) o s d,os[t]? =some o→ss[t]? =some s→o.dst=some d→∃v,a.tmps[d]? =some v∧(Mq β s (k+t)).p Z v)→Dl n (Nn β os ss k l0) a Z
 | [],_,_,_=>by unfold Nn;exact h0
 | _::_,[],_,_=>by unfold Nn;exact h0
 | o::os,s::ss,k,h=>by
  have ih:=QM h0 os ss (k+1) (λt o' s' d h1 h2 h3=>by
   have:=h (t+1) o' s' d (by simpa using h1) (by simpa using h2) h3;rw[show k+1+t=k+(t+1) from by omega];exact this)
  unfold Nn
  cases hd:o.dst with
  | none=>exact ih
  | some d=>
   refine⟨ih.size,ih.defers,λi r hi=>?_⟩;rw[Cy] at hi
   split at hi
   ·rename_i e;subst e;simp at hi;subst hi;exact h 0 o s d rfl rfl hd
   ·exact ih.tm i r hi
theorem AaG {id:Nat}{ops:List Oper}(N:Nat)(sp:List Sa)(hm:P.follows .mixedOrders=true)(hB:okA n ops N (Gk l0) (sp.map (·.deps)) (sp.map (·.al.isSome)) (sp.map (·.late.map (·.1))) (sp.map (·.sto))=true)(hl0:Wd l0 l)(hsp:sp.length=N)
  (hob:Lm P n c ops.toArray Q ops sp l0 H 0 (ops.take N)) (h:∀β,WL P n c ops.toArray Q (ops.drop N) (Nn β (ops.take N) sp 0 l0) (H++VR β sp 0)):WC P n c (.region id ops.toArray true) Q l H:=by
 intro a w Z ha hw;simp only[okA,AcG,Adn,List.mem_range,Ac9] at hB;obtain⟨⟨⟨⟨⟨b1,bN⟩,b2⟩,b3⟩,b4⟩,b5⟩:=hB;have hget:∀i,i<N→(ops.take N)[i]? =ops[i]?:=λi hi=>by rw[Adw,Ad2 hi]
 have hsa:∀i,i<N→sp[i]? =some (GQ sp i):=λi hi=>by
  simp[GQ,AcN,AcL (show i<sp.length by omega)]
 have hspq:∀i,i<N→(Ep (Zw sp) i)=⟨(GQ sp i).deps,(GQ sp i).r,0⟩:=λi hi=>by
  simp[Ep,Zw,AcN,Adr,hsa i hi]
 have hals:∀j b,j<N→(sp.map (·.al.isSome)).getD j b=(GQ sp j).al.isSome:=λj b hj=>by simp[AcN,Adr,hsa j hj]
 have hstos:∀j,j<N→(sp.map (·.sto)).getD j none=(GQ sp j).sto:=λj hj=>by simp[AcN,Adr,hsa j hj]
 have hlates:∀j,j<N→(sp.map (·.late.map (·.1))).getD j none=(GQ sp j).late.map (·.1):=λj hj=>by simp[AcN,Adr,hsa j hj]
 have S1:∀i o j,i<N→ops[i]? =some o→(GQ sp i).sto=some j→j<N∧j∈Gb o∧(GQ sp j).al≠none∧(GQ sp i).al=none:=λi o j hi ho hs=>by
  have h1:=b4 i hi;rw[hstos i hi,hs] at h1;simp only[AcG,AcV,Ac9] at h1;obtain⟨⟨⟨h2,h3⟩,h4⟩,h5⟩:=h1;rw[hals j _ h2] at h4;rw[hals i _ hi] at h5;rw[AcN,ho,Adj,List.contains_iff_mem] at h3;exact⟨h2,h3,λe=>(by rw[e] at h4;cases h4),(by simpa using h5)⟩
 have L1:∀t q,t<N→(GQ sp t).late=some q→q.1<N∧(GQ sp q.1).sto=some t:=λt q ht hq=>by
  have h1:=b5 t ht;rw[hlates t ht,hq] at h1;simp only[Option.map_some,AcG,Ac9,beq_iff_eq] at h1;obtain⟨⟨h2,h3⟩,h4⟩:=h1;rw[hstos _ h2] at h4;exact⟨h2,h4⟩
 have hops:∀j,j<N→∃o,ops[j]? =some o:=λj hj=>⟨ops[j]'(by omega),AcL (by omega)⟩
 have lt_of:∀(t:Nat) (s:Sa),sp[t]? =some s→t<N∧s=GQ sp t:=λt s hs=>by
  have h1:t<N:=by have:=(List.getElem?_eq_some_iff.1 hs).1;omega
  refine⟨h1,?_⟩;rw[hsa t h1] at hs;simpa using hs.symm
 have hdst:∀i o d,i<N→ops[i]? =some o→o.dst=some d→(d<n∧d ∉ Gk l0)∧∀j,j<N→j≠i→CI ops j≠some d:=λi o d hi ho hd=>by
  have h3:=b2 i hi;have:CI ops i=some d:=by simp[CI,ho,hd]
  rw[this] at h3;simp only[AcG,AcV,Adn,List.mem_range,Ac9] at h3;refine⟨⟨h3.1.1,λhmem=>by rw[← List.contains_iff_mem] at hmem;rw[hmem] at h3;cases h3.1.2⟩,λj hj hne he=>?_⟩;have:=h3.2 j hj;simp[hne,he] at this
 refine Ws (N:=N) hm b1 bN (λS a w=>∃ (β:Nat→Nat) (Z:Fz),St c (H++Ha S β sp 0) Z w∧Dl n l0 a Z∧(∀j o d,j<N→S j=true→ops[j]? =some o→o.dst=some d→∃v,a.tmps[d]? =some v∧(Mq β (GQ sp j) j).p Z v)∧
   ∀k j,k<N→(GQ sp k).sto=some j→S k=true→S j=true)
  (λS S' a w hS hI=>?_) ⟨λ_=>0,Z,?_,ha.subL hl0,λj o d _ hS=>(by cases hS),λk j _ _ hS=>(by cases hS)⟩ (λS i o a w hi hun ho hb hI K hK=>?_) (λa w hI=>?_)
 ·obtain⟨β,Z,h1,h2,h3,h4⟩:=hI;refine⟨β,Z,?_,h2,λj o d hj hS'=>h3 j o d hj (by rw[hS j hj];exact hS'),λk j hk hs hSk=>?_⟩
  ·rw[← HF (S:=S) (β:=β) (β':=β) sp 0 (λt s hs _=>by
    obtain⟨ht,rfl⟩:=lt_of t s hs;exact⟨hS _ (by omega),λ_=>⟨rfl,λq hq=>hS _ (L1 t q ht hq).1⟩⟩)]
   exact h1
  ·obtain⟨o,ho⟩:=hops k hk;rw[← hS j (S1 k o j hk ho hs).1];exact h4 k j hk hs (by rw[hS k hk];exact hSk)
 ·rw[PW,Adk];exact hw.drawn _
 ·obtain⟨β,Z,h1,h2,h3,hx⟩:=hI;have hput:∀k u v,a.tmps[k]? =some u→o.dst≠some k→(a.put o.dst v).tmps[k]? =some u:=λk u v hk hne=>by
   cases hd:o.dst with
   | none=>simpa[Act.put] using hk
   | some d=>
    simp only[Act.put,Array.getElem?_setIfInBounds];rw[Adp (λe=>hne (by rw[hd,e]))];exact hk
  have hagr:∀v Z',Fz.le Z Z'→Dl n l0 (a.put o.dst v) Z':=λv Z' hz=>by
   refine⟨?_,?_,λk r hk=>?_⟩
   ·cases o.dst<;>simp[Act.put,h2.size]
   ·cases o.dst<;>simp[Act.put,h2.defers]
   ·obtain⟨u,hu,hpu⟩:=h2.tm k r hk;exact⟨u,hput k u v hu (λe=>((hdst i o k hi ho e).1).2 (LL hk)),r.mono hz hpu⟩
  have hvals:∀(v:Value) (Z':Fz) (β':Nat→Nat),Fz.le Z Z'→(∀j,j≠i→β' j=β j)→(o.dst≠none→(Mq β' (GQ sp i) i).p Z' v)→∀j o' d,j<N→(j ==i||S j)=true→ops[j]? =some o'→o'.dst=some d→∃u,(a.put o.dst v).tmps[d]? =some u∧(Mq β' (GQ sp j) j).p Z' u:=by
   intro v Z' β' hz hβ hp j o' d hj hS' ho' hd
   by_cases hji:j=i
   ·subst hji;rw[ho] at ho';simp at ho';subst ho';refine⟨v,?_,hp (by simp[hd])⟩;have hdn:d<a.tmps.size:=by rw[h2.size];exact(hdst j o d hi ho hd).1.1
    simp[Act.put,hd,hdn]
   ·have hSj:S j=true:=by simpa[hji] using hS'
    obtain⟨u,hu,hpu⟩:=h3 j o' d hj hSj ho' hd;refine⟨u,hput d u v hu (λe=>(hdst i o d hi ho e).2 j hj hji (by simp[CI,ho',hd])),?_⟩;have:Mq β' (GQ sp j) j=Mq β (GQ sp j) j:=by unfold Mq;rw[hβ j hji]
    rw[this];exact(Mq β (GQ sp j) j).mono hz hpu
  have hx':∀k j,k<N→(GQ sp k).sto=some j→(k ==i||S k)=true→(j ==i||S j)=true:=λk j hk hs hSk=>by
   by_cases hki:k=i
   ·subst hki;have:=(hb j (S1 k o j hk ho hs).2.1).2;simp[this]
   ·have:S j=true:=hx k j hk hs (by simpa[hki] using hSk);simp[this]
  have hat:=hob.at i o (by rw[hget i hi];exact ho);rw[Adv] at hat;unfold ObA at hat;have hag':Dl n (Cl ops (Zw sp) (GQ sp i).deps l0) a Z:=Me h2 (λj hj d hd=>by
    have h4:=b3 i hi j (by simpa[AcN,Adr,hsa i hi] using hj);simp only[AcG,AcV,Ac9] at h4;obtain⟨⟨h5,h6⟩,h7⟩:=h4;rw[AcN,ho,Adj,List.contains_iff_mem] at h6;have hjal:(GQ sp j).al=none:=by
     rw[hals j _ h5] at h7;simpa using h7
    obtain⟨o2,ho2⟩:=hops j h5;obtain⟨v,hv1,hv2⟩:=h3 j o2 d h5 (hb j h6).2 ho2 (by simpa[CI,ho2] using hd);refine⟨v,hv1,?_⟩;rw[hspq j h5];simpa[Mq,hjal] using hv2)
  cases hst:(GQ sp i).sto with
  | some j=>
   rw[hst] at hat;obtain⟨hod,d,p,ncs,hd,hal,hlate,hok⟩:=hat;obtain⟨hjN,hjb,_,hial⟩:=S1 i o j hi ho hst;have hSj:=(hb j hjb).2;obtain⟨H',p1,p2⟩:=Sw (S:=S) (β:=β) (i:=i) (j:=j) (p:=p) (ncs:=ncs) sp 0 j (GQ sp j) (by omega) (hsa j hjN) hal hlate hSj hun (λt s q hs _ hq hne he=>by
     obtain⟨ht,rfl⟩:=lt_of t s hs;have:=(L1 t q ht hq).2;rw[he,hst] at this;simp at this;omega) (λt s hs hn he=>by
     obtain⟨ht,rfl⟩:=lt_of t s hs;rw[Adv] at he;subst he;exact hn hial)
   obtain⟨o2,ho2⟩:=hops j hjN;obtain⟨v,hv1,hv2⟩:=h3 j o2 d hjN hSj ho2 (by simpa[CI,ho2] using hd);have hag2:Dl n ((d,rv (.pointer (some ⟨β j,0,none⟩)))::Cl ops (Zw sp) (GQ sp i).deps l0) a Z:=⟨hag'.size,hag'.defers,λk r hk=>by
    rw[Cy] at hk
    split at hk
    ·rename_i e;subst e;simp at hk;subst hk
     exact⟨v,hv1,by simpa[Mq,hal] using hv2⟩
    ·exact hag'.tm k r hk⟩
   refine hok (β j) (H++H') a w Z K hag2 (h1.perm ((List.Perm.append_left H p1).trans List.perm_middle)) (λv w' Z' hz _ hs'=>hK _ _ ⟨β,Z',?_,hagr v Z' hz,hvals v Z' β hz (λ_ _=>rfl) (λhne=>absurd hod hne),hx'⟩);exact hs'.perm (List.perm_middle.symm.trans (List.Perm.append_left H p2.symm))
  | none=>
   rw[hst] at hat;have latene:∀t q,t<N→(GQ sp t).late=some q→q.1≠i:=λt q ht hq he=>by
    have:=(L1 t q ht hq).2;rw[he,hst] at this;cases this
   cases hal:(GQ sp i).al with
   | none=>
    rw[hal] at hat;refine hat _ a w Z K hag' h1 (λv w' Z' hz hp hst'=>hK _ _ ⟨β,Z',?_,hagr v Z' hz,hvals v Z' β hz (λ_ _=>rfl) (λ_=>by unfold Mq;rw[hal];exact hp),hx'⟩);rw[HF (S':=S) (β':=β) sp 0 (λt s hs hn=>by
     obtain⟨ht,rfl⟩:=lt_of t s hs;have:t≠i:=λe=>by subst e;exact hn hal
     refine⟨by simp[this],λ_=>⟨rfl,λq hq=>?_⟩⟩;have:=latene t q ht hq;simp[this])]
    exact hst'
   | some p=>
    rw[hal] at hat;have key:=λK' hK'=>hat (H++Ha S β sp 0) a w Z K' h1 hK';have h5:∀b w',St c (.blk b p.1 p.2::(H++Ha S β sp 0)) Z w'→K (a.put o.dst (.pointer (some ⟨b,0,none⟩))) w':=λb w' hst'=>by
     refine hK _ _ ⟨λj=>if j=i then b else β j,Z,?_,hagr _ Z (Fz.le.refl _),hvals _ Z _ (Fz.le.refl _) (λj hj=>by simp[hj]) (λ_=>by simp[Mq,hal,rv]),hx'⟩;have hp:=Sy (S:=S) (β:=β) (i:=i) (b:=b) (p:=p) sp 0 i (GQ sp i) (by omega) (hsa i hi) hal hun (λt s q hs _ hq=>by
      obtain⟨ht,rfl⟩:=lt_of t s hs;exact latene t q ht hq) (λq hq=>by
       refine⟨?_,latene i q hi hq⟩
       cases hS:S q.1 with
       | false=>rfl
       | true=>
        obtain⟨h6,h7⟩:=L1 i q hi hq;have:=hx q.1 i h6 h7 hS;rw[this] at hun;cases hun)
     exact hst'.perm ((List.perm_middle.symm).trans (List.Perm.append_left H hp.symm))
    refine⟨λ_=>(key K h5).2,λhw'=>?_⟩;rw[(key K h5).1] at hw';cases hw'
 ·obtain⟨β,Z,h1,h2,h3,_⟩:=hI;refine h β a w Z (QM h2 _ _ 0 (λt o s d ht hs hd=>?_)) (by rw[← Sz];exact h1);obtain⟨htN,rfl⟩:=lt_of t s hs;rw[Adv];exact h3 t o d htN rfl (by rw[← hget t htN];exact ht) hd
end
theorem Acb {P:Program}{n:Nat}{c:Cx}{opsA:Array Oper}{Q:Exit→Act→World→Prop}{d:Nat}{e:TypeId}{ty:TypeId}{pos:String}{af:Array Edge}{z:Value}{cs:List Rp}(hz:∀w,(zeroValue e).run P w = .ok z w)(hcs:z.cells.toList.map rv=cs) :
  Ab1 P n c opsA Q { dst:=some d,op:=.alloc e,type:=ty,pos:=pos,after:=af,guard:=none } (cs,e):=λH a w Z K hw hK=>by
 refine⟨by simp[Region.wanted],?_⟩;unfold Oper.wp;rw[show(execOp a.eval { dst:=some d,op:=.alloc e,type:=ty,pos:=pos,after:=af,guard:=none }).run P w = .ok (.value (.pointer (some ⟨w.heap.size,0,none⟩))) (w.alloc (.cells z.cells e)) from by simp[execOp,Instr.alloc,hz,newVar,newRow,newObj,Sem.run,Sem.run_bind]];exact hK _ _ (hw.alloc _ (e:=.blk w.heap.size cs e) ⟨z.cells.toList,by simpa using heap_alloc_new w _,by subst hcs;exact Bp.rvs Z _⟩ rfl)
section
variable {P : Program} {n : Nat} {c : Cx} {opsA : Array Oper} {Q : Exit → Act → World → Prop} {l l0 : Fr} {H : List Ent} {sp : List Sa}
theorem Gc {id:Nat}{ops:List Oper}(N:Nat)(ks0:List Nat)(sp:List Sa)(hob:Lm P n c ops.toArray Q ops sp l0 H 0 (ops.take N))(h:∀β,WL P n c ops.toArray Q (ops.drop N) (Nn β (ops.take N) sp 0 l0) (H++VR β sp 0))
  (h0:Kp ks0 l l0:=by repeat (first | exact Pp | (apply M5;rfl) | (apply Nq;rfl))) (hm:P.follows .mixedOrders=true:=by kernel_rfl) (hB:okA n ops N (Gk l0) (sp.map (·.deps)) (sp.map (·.al.isSome)) (sp.map (·.late.map (·.1))) (sp.map (·.sto))=true:=by kernel_rfl)
  (hsp:sp.length=N:=by rfl):WC P n c (.region id ops.toArray true) Q l H:=AaG N sp hm hB h0.one hsp hob h
theorem Dq {all rest:List Oper}{d:Nat}{op:Op}{ty:TypeId}{pos:String}{af:Array Edge}{i:Nat}
  (hr:∀{H},Bn P n c (Cl all (Zw sp) (GQ sp i).deps l0) H { dst:=some d,op:=op,type:=ty,pos:=pos,after:=af,guard:=none } (GQ sp i).r) (h:Lm P n c opsA Q all sp l0 H (i+1) rest) (ha:(GQ sp i).al=none:=by rfl) (hs:(GQ sp i).sto=none:=by rfl) :
  Lm P n c opsA Q all sp l0 H i ({ dst:=some d,op:=op,type:=ty,pos:=pos,after:=af,guard:=none }::rest):=by
 refine⟨?_,h⟩;unfold ObA;rw[hs,ha];exact λ_=>Xl hr
theorem Xs {all rest:List Oper}{d:Nat}{op:Op}{ty:TypeId}{pos:String}{af:Array Edge}{i:Nat}
  (hr:∀{E},Bn P n c (Cl all (Zw sp) (GQ sp i).deps l0) (H++E) { dst:=some d,op:=op,type:=ty,pos:=pos,after:=af,guard:=none } (GQ sp i).r) (h:Lm P n c opsA Q all sp l0 H (i+1) rest) (ha:(GQ sp i).al=none:=by rfl) (hs:(GQ sp i).sto=none:=by rfl) :
  Lm P n c opsA Q all sp l0 H i ({ dst:=some d,op:=op,type:=ty,pos:=pos,after:=af,guard:=none }::rest):=by
 refine⟨?_,h⟩;unfold ObA;rw[hs,ha];exact λ_=>Xl hr
theorem oal {all rest:List Oper}{o:Oper}{p:List Rp×TypeId}{i:Nat}(hr:Ab1 P n c opsA Q o p)(h:Lm P n c opsA Q all sp l0 H (i+1) rest)(ha:(GQ sp i).al=some p:=by rfl)(hs:(GQ sp i).sto=none:=by rfl):Lm P n c opsA Q all sp l0 H i (o::rest):=by
 refine⟨?_,h⟩;unfold ObA;rw[hs,ha];exact hr
theorem Xt {all:List Oper}{i:Nat}:Lm P n c opsA Q all sp l0 H i []:=trivial
end
structure YY (ks:List Nat) (β:Nat→Nat) (os:List Oper) (sp:List Sa) (i:Nat) (l0 l1:Fr):Prop where
 go:Kp ks (Nn β os sp i l0) l1
section
variable {ks : List Nat} {β : Nat → Nat} {os : List Oper} {sp : List Sa} {i d : Nat} {l0 l1 : Fr} {ds : List Nat} {r : Rp} {p : List Rp × TypeId} {lt : Option (Nat × List Rp)} {so : Option Nat} {op : Op} {ty : TypeId} {pos : String} {af : Array Edge} {g : Option (Nat × Bool)}
theorem AbK (h:ks.contains d=true)(t:YY ks β os sp (i+1) l0 l1):YY ks β ({ dst:=some d,op:=op,type:=ty,pos:=pos,after:=af,guard:=g }::os) ({ deps:=ds,r:=r,sto:=so }::sp) i l0 ((d,r)::l1):=⟨M5 h t.go⟩
theorem AbN (h:ks.contains d=true)(t:YY ks β os sp (i+1) l0 l1):YY ks β ({ dst:=some d,op:=op,type:=ty,pos:=pos,after:=af,guard:=g }::os) ({ deps:=ds,r:=r,al:=some p,late:=lt,sto:=so }::sp) i l0 ((d,rv (.pointer (some ⟨β i,0,none⟩)))::l1):=⟨M5 h t.go⟩
theorem AbM {s:Sa}(h:ks.contains d=false)(t:YY ks β os sp (i+1) l0 l1):YY ks β ({ dst:=some d,op:=op,type:=ty,pos:=pos,after:=af,guard:=g }::os) (s::sp) i l0 l1:=⟨Nq h t.go⟩
theorem AbL {s:Sa}(t:YY ks β os sp (i+1) l0 l1):YY ks β ({ dst:=none,op:=op,type:=ty,pos:=pos,after:=af,guard:=g }::os) (s::sp) i l0 l1:=⟨t.go⟩
theorem AbO (t:Kp ks l0 l1):YY ks β [] [] i l0 l1:=⟨t⟩
theorem GL {P:Program}{n:Nat}{c:Cx}{opsA:Array Oper}{Q:Exit→Act→World→Prop}{rest:List Oper}{H H1:List Ent}(ks:List Nat)(h:WL P n c opsA Q rest l1 H1)
  (hz:YY ks β os sp i l0 l1:=by repeat (first | (apply AbK;rfl) | (apply AbN;rfl) | (apply AbM;rfl) | apply AbL | apply AbO | exact Pp | (apply M5;rfl) | (apply Nq;rfl))) (hH:H=H1:=by rfl) :
  WL P n c opsA Q rest (Nn β os sp i l0) H:=λa w Z ha hw=>h a w Z (ha.subL hz.go.one) (hH▸hw)
end
section
variable {P : Program} {n : Nat} {c : Cx} {opsA : Array Oper} {Q : Exit → Act → World → Prop} {l l0 : Fr} {H : List Ent} {sp : List Sa}
theorem oac {all rest:List Oper}{o:Oper}{i:Nat}(hr:∀{E},GA P n c opsA Q (Cl all (Zw sp) (GQ sp i).deps l0) (H++E) o (GQ sp i).r (H++E))(h:Lm P n c opsA Q all sp l0 H (i+1) rest)(ha:(GQ sp i).al=none:=by rfl)(hs:(GQ sp i).sto=none:=by rfl):Lm P n c opsA Q all sp l0 H i (o::rest):=by
 refine⟨?_,h⟩;unfold ObA;rw[hs,ha];exact λ_=>hr
end
theorem EX (s:ByteArray):MapKept.IsKey .string (.string s):=by simp[MapKept.IsKey]
theorem KM.keys {Z:Fz}:∀{f:List (List UInt8×Rp)} {es:List MapEntry},KM Z f es→∀x∈es,MapKept.IsKey .string x.key
 | [],[],_,x,hx=>by cases hx
 | p::f,e::es,⟨⟨h1,h2⟩,h3⟩,x,hx=>by
  rcases List.mem_cons.1 hx with rfl | hx
  ·rw[h1];exact EX _
  ·exact KM.keys h3 x hx
theorem KM.at {Z:Fz}:∀{f:List (List UInt8×Rp)} {es:List MapEntry},KM Z f es→f.length=es.length∧∀(j:Nat) (e:MapEntry),es[j]? =some e→∃k r,f[j]? =some (k,r)∧e.key = .string (B k)∧r.p Z e.val
 | [],[],_=>⟨rfl,λj e h=>by simp at h⟩
 | p::f,e::es,⟨⟨h1,h2⟩,h3⟩=>by
  obtain⟨hl,ha⟩:=KM.at h3;refine⟨by simp[hl],λj e' hj=>?_⟩
  cases j with
  | zero=>simp at hj;subst hj;exact⟨p.1,p.2,rfl,h1,h2⟩
  | succ j=>simp at hj;simpa using ha j e' hj
theorem KM.of {Z:Fz}:∀{f:List (List UInt8×Rp)} {es:List MapEntry},f.length=es.length→(∀(j:Nat) (e:MapEntry),es[j]? =some e→∃k r,f[j]? =some (k,r)∧e.key = .string (B k)∧r.p Z e.val)→KM Z f es
 | [],[],_,_=>trivial
 | p::f,e::es,hl,h=>by
  obtain⟨k,r,h1,h2,h3⟩:=h 0 e rfl;simp at h1;subst h1;exact⟨⟨h2,h3⟩,KM.of (by simpa using hl) λj e' hj=>by simpa using h (j+1) e' (by simpa using hj)⟩
 | [],_::_,hl,_=>by simp at hl
 | _::_,[],hl,_=>by simp at hl
theorem KM.snoc {Z:Fz}{k:List UInt8}{r:Rp}{e:MapEntry}(h1:e.key = .string (B k))(h2:r.p Z e.val):∀{f:List (List UInt8×Rp)} {es:List MapEntry},KM Z f es→KM Z (f++[(k,r)]) (es++[e])
 | [],[],_=>⟨⟨h1,h2⟩,trivial⟩
 | p::f,e'::es,⟨h,h3⟩=>⟨h,KM.snoc h1 h2 h3⟩
theorem KM.filter {Z:Fz}(q:MapEntry→Bool):∀{f:List (List UInt8×Rp)} {es:List MapEntry},KM Z f es→∃g,KM Z g (es.filter q)∧g.Sublist f
 | [],[],_=>⟨[],trivial,List.Sublist.refl _⟩
 | p::f,e::es,⟨h,h3⟩=>by
  obtain⟨g,hg,hs⟩:=KM.filter q h3
  cases hq:q e with
  | true=>exact⟨p::g,by rw[List.filter_cons_of_pos hq];exact⟨h,hg⟩,hs.cons_cons p⟩
  | false=>exact⟨g,by rw[List.filter_cons_of_neg (by simp[hq])];exact hg,hs.cons p⟩
theorem RP {T:Type}:∀{m:List (Af×T)} {k:Af} {r:T},(m.map (·.1)).Nodup→(k,r)∈m→Bs m k=some r
 | p::m,k,r,hn,h=>by
  rw[Adx,List.nodup_cons] at hn;rw[Bs];rcases List.mem_cons.1 h with h | h
  ·subst h;rw[AcC rfl];rfl
  ·have hne : ¬ p.1=k:=λe=>hn.1 (by rw[e];exact List.mem_map.2 ⟨(k,r),h,rfl⟩);rw[AcB hne];exact RP hn.2 h
theorem PC {T:Type}:∀{m:List (Af×T)} {k:Af},(∀p∈m,p.1≠k)→Bs m k=none
 | [],_,_=>rfl
 | p::m,k,h=>by
  rw[Bs,AcB (h p (by simp))];exact PC λq hq=>h q (by simp[hq])
theorem Acf {a b:List UInt8}(h:B a=B b):a=b:=by
 have:=congrArg ByteArray.toList h
 rwa [Gp,Gp] at this
theorem Od {a b:List UInt8}(h:Value.string (B a) = .string (B b)):a=b:=Acf (by cases h;rfl)
theorem QE {Z:Fz}{m:List (List UInt8×Rp)}{es:List MapEntry}{ck:Nat}(h:Gv Z m es ck)(k:List UInt8) :
  (Instr.findNow .string (.string (B k)) es 0=some none∧Bs m k=none∧∀p∈m,p.1≠k)∨∃j e r,Instr.findNow .string (.string (B k)) es 0=some (some (j,e.val))∧es[j]? =some e∧e.key = .string (B k)∧Bs m k=some r∧r.p Z e.val:=by
 obtain⟨h1,h2,h3,f,h4,h5⟩:=h;obtain⟨hl,ha⟩:=h5.at;rcases MapKept.findNow_spec (EX (B k)) es 0 h5.keys with⟨q1,q2⟩ | ⟨j,e,q1,q2,q3⟩
 ·have hne:∀p∈m,p.1≠k:=λp hp e=>by
   obtain⟨j,hj⟩:=List.mem_iff_getElem?.1 (h4.symm.subset hp);have hjl:j<es.length:=by rw[← hl];exact(List.getElem?_eq_some_iff.1 hj).1
   obtain⟨k',r',e1,e2,_⟩:=ha j es[j] (AcL hjl);rw[hj] at e1;cases e1;exact q2 es[j] (List.getElem_mem hjl) (by rw[e2,← e])
  exact .inl ⟨q1,PC hne,hne⟩
 ·obtain⟨k',r,e1,e2,e3⟩:=ha j e q2;rw[q3] at e2;obtain rfl:=Od e2;exact .inr ⟨j,e,r,by simpa using q1,q2,q3,RP h1 (h4.subset (AcO e1)),e3⟩
section
variable {P : Program} {n : Nat} {c : Cx} {ops : Array Oper} {Q : Exit → Act → World → Prop} {rest : List Oper} {l : Fr} {H : List Ent} {d : Nat} {d' : Option Nat} {ty t kt et rty : TypeId} {pos : String} {af : Array Edge} {g : Option (Nat × Bool)} {x y u : Operand} {K : Act → World → Prop} {cx : Code}
variable {T : Type} {enc : T → Rp} {xs : List (Af × T)} {z : T} {k : Af} {zv : Value} {i b : Nat}
theorem KG {Z:Fz}{w:World}{m:List (List UInt8×Rp)}{rz:Rp}(ht:P.underlying t=some (.map kt et))(hk:P.underlying kt=some .string)(hz:∀w,(zeroValue et).run P w = .ok zv w)(hzr:rz.p Z zv)(hm:(Ent.map b m).holds Z w)(ok:Bool) :
  ∃v,((Bs m k).getD rz).p Z v∧(Instr.lookup t (.map (some b)) (.string (B k)) ok).run P w = .ok (if ok then .tuple #[v,.bool (Bs m k).isSome] else v) w:=by
 obtain⟨es,ck,h1,h2⟩:=hm;rcases QE h2 k with⟨q1,q2,_⟩ | ⟨j,e,r,q1,_,_,q2,q3⟩
 ·exact⟨zv,by rw[q2];exact hzr,by simp[Instr.lookup,run_underlying ht,MapKept.run_getObj_map h1,MapKept.run_checkKey hk (EX _),MapKept.run_findKey hk q1,hz,q2]⟩
 ·exact⟨e.val,by rw[q2];exact q3,by simp[Instr.lookup,run_underlying ht,MapKept.run_getObj_map h1,MapKept.run_checkKey hk (EX _),MapKept.run_findKey hk q1,q2]⟩
theorem Sl (enc:T→Rp)(xs:List (Af×T))(k:Af)(z:T):(Bs (AY enc xs) k).getD (enc z)=enc (Cw xs k z):=by
 rw[LJ];unfold Cw;cases Bs xs k<;>rfl
theorem Tq (enc:T→Rp)(xs:List (Af×T))(k:Af):(Bs (AY enc xs) k).isSome=Cp xs k:=by
 rw[LJ];unfold Cp;cases Bs xs k<;>rfl
theorem TU (ht:P.underlying t=some (.map kt et))(hk:P.underlying kt=some .string)(hz:∀w,(zeroValue et).run P w = .ok zv w)(hzr:∀Z,(enc z).p Z zv)(hx:ev l x=some (rv (.map (some b))))(hi:H[i]? =some (.map b (AY enc xs)))(hy:ev l y=some (rS k)) :
  Bn P n c l H { dst:=d',op:=.lookup t x y true,type:=ty,pos:=pos,after:=af,guard:=g } (C2 [enc (Cw xs k z),rB (Cp xs k)]):=λa w Z ha hw=>by
 obtain⟨v,h1,h2⟩:=KG (k:=k) ht hk hz (hzr Z) (hw.ent hi) true;rw[Sl] at h1;refine⟨.tuple #[v,.bool (Cp xs k)],⟨[v,.bool (Cp xs k)],rfl,h1,rfl,trivial⟩,?_⟩;rw[Tq] at h2;simp[execOp,ha.eval hx,ha.eval hy,h2]
theorem Xz (ht:P.underlying t=some (.map kt et))(hk:P.underlying kt=some .string)(hz:∀w,(zeroValue et).run P w = .ok zv w)(hzr:∀Z,(enc z).p Z zv)(hx:ev l x=some (rv (.map (some b))))(hi:H[i]? =some (.map b (AY enc xs)))(hy:ev l y=some (rS k)) :
  Bn P n c l H { dst:=d',op:=.lookup t x y false,type:=ty,pos:=pos,after:=af,guard:=g } (enc (Cw xs k z)):=λa w Z ha hw=>by
 obtain⟨v,h1,h2⟩:=KG (k:=k) ht hk hz (hzr Z) (hw.ent hi) false;rw[Sl] at h1;simp only[Adh,Ad3] at h2;exact⟨v,h1,by simp[execOp,ha.eval hx,ha.eval hy,h2]⟩
theorem Gv.length {Z:Fz}{m:List (List UInt8×Rp)}{es:List MapEntry}{ck:Nat}(h:Gv Z m es ck):es.length=m.length:=by
 obtain⟨_,_,_,f,h4,h5⟩:=h;rw[← h5.at.1,h4.length_eq]
theorem Xy {m:List (List UInt8×Rp)}{N:Nat}(ht:P.underlying t=some (.map kt et))(hx:ev l x=some (rv (.map (some b))))(hi:H[i]? =some (.map b m))(hN:m.length=N) :
  Bn P n c l H { dst:=d',op:=.call { callee:=.builtin .len,args:=#[x],argTypes:=#[t] },type:=ty,pos:=pos,after:=af,guard:=g } (rI .i64 N):=λa w Z ha hw=>CL<|by
 obtain⟨es,ck,h1,h2⟩:=hw.ent hi;have hl:es.size=N:=by rw[← hN,← h2.length];simp
 simp[execOp,resolve,invoke,builtin,ha.eval hx,Builtin.len_,run_underlying ht,goInt,MapKept.run_getObj_map h1,hl]
theorem Vo {v:Option Nat}(ht:P.underlying t=some (.map kt et))(hx:ev l x=some (rv (.map v))):Bn P n c l H { dst:=d',op:=.binOp .neq t x (.const (.map none)) rty,type:=ty,pos:=pos,after:=af,guard:=g } (rB (!v.isNone)):=λa w Z ha hw=>CL<|by
 have e2:a.eval (.const (.map none)) = .map none:=rfl;have h:=run_equal_map_nil (P:=P) w t kt et v ht;simp[execOp,ha.eval hx,e2,eqGuard,binOp,h]
theorem Mm (hn:Nat.blt d n=true)(h:∀b,WL P n c ops Q rest ((d,rv (.map (some b)))::l) (.map b []::H)) :
  WL P n c ops Q ({ dst:=some d,op:=.makeMap t none,type:=ty,pos:=pos,after:=af,guard:=none }::rest) l H:=
 J4 (λa w Z ha hw=>⟨_,w.alloc (.map #[] 0),_,_,Z,by simp[execOp,run_makeMap],Fz.le.refl _,rfl,
  hw.alloc _ (e:=.map w.heap.size []) ⟨#[],0,by simpa using heap_alloc_new w _,by simp,by simp,by simp,[],AcI _,trivial⟩ rfl,h w.heap.size⟩) hn
theorem Xg {m f:List (Af×Rp)}(h:f.Perm m)(k:Af)(r:Rp):(mput f k r).Perm (mput m k r):=h.map _
theorem TZ {T:Type}:∀{f:List (Af×T)} {j:Nat} {k:Af} {r0:T} (r:T),(f.map (·.1)).Nodup→f[j]? =some (k,r0)→mput f k r=f.set j (k,r)
 | p::f,0,k,r0,r,hn,h=>by
  simp at h;subst h;rw[Adx,List.nodup_cons] at hn;have:mput f k r=f:=by
   unfold mput;rw[List.map_congr_left (g:=id) (λq hq=>?_),List.map_id];have hne : ¬ q.1=k:=λe=>hn.1 (by rw[← e];exact List.mem_map.2 ⟨q,hq,rfl⟩);rw[AcB hne];rfl
  show(bif decide (k=k) then(k,r) else(k,r0))::mput f k r=_;rw[AcC rfl,this];rfl
 | p::f,j+1,k,r0,r,hn,h=>by
  rw[Adx,List.nodup_cons] at hn;simp at h;have hne : ¬ p.1=k:=λe=>hn.1 (by rw[e];exact List.mem_map.2 ⟨(k,r0),AcO h,rfl⟩);show(bif decide (p.1=k) then(k,r) else p)::mput f k r=_;rw[AcB hne,TZ r hn.2 h];rfl
theorem Ua {T:Type}:∀{f:List (Af×T)} {j:Nat} {k:Af} {r0:T},(f.map (·.1)).Nodup→f[j]? =some (k,r0)→mdel f k=f.eraseIdx j
 | p::f,0,k,r0,hn,h=>by
  simp at h;subst h;rw[Adx,List.nodup_cons] at hn;have:f.filter (λq=>!decide (q.1=k))=f:=List.filter_eq_self.2 λq hq=>by
   have hne : ¬ q.1=k:=λe=>hn.1 (by rw[← e];exact List.mem_map.2 ⟨q,hq,rfl⟩);simp[hne]
  unfold mdel;rw[List.filter_cons_of_neg (by simp),this];rfl
 | p::f,j+1,k,r0,hn,h=>by
  rw[Adx,List.nodup_cons] at hn;simp at h;have hne : ¬ p.1=k:=λe=>hn.1 (by rw[e];exact List.mem_map.2 ⟨(k,r0),AcO h,rfl⟩);unfold mdel;rw[List.filter_cons_of_pos (by simp[hne])];show p::mdel f k=_;rw[Ua hn.2 h];rfl
theorem Vu {T:Type}(m:List (Af×T))(k:Af)(r:T):(mput m k r).map (·.1)=m.map (·.1):=by
 unfold mput;rw[AdB];refine List.map_congr_left λp _=>?_;simp only[Function.comp]
 by_cases h:p.1=k
 ·rw[AcC h];exact h.symm
 ·rw[AcB h];rfl
theorem Vv {T:Type}{m:List (Af×T)}{k:Af}{r:T}(h:Bs m k=some r):Cp m k=true:=by unfold Cp;rw[h];rfl
theorem Vw {T:Type}{m:List (Af×T)}{k:Af}(h:Bs m k=none):Cp m k=false:=by unfold Cp;rw[h];rfl
theorem Gv.put {Z:Fz}{m:List (Af×Rp)}{es:List MapEntry}{ck j:Nat}{e:MapEntry}{k:Af}{r0 r:Rp}{v:Value}(h:Gv Z m es ck)(he:es[j]? =some e)(hk:e.key = .string (B k))(hm:Bs m k=some r0)(hr:r.p Z v) :
  Gv Z (mset m k r) (es.set j { e with key:=.string (B k),val:=v }) ck:=by
 obtain⟨h1,h2,h3,f,h4,h5⟩:=h;obtain⟨hl,ha⟩:=h5.at;have hjl:=(List.getElem?_eq_some_iff.1 he).1;unfold mset;rw[Vv hm,AcH];obtain⟨k',r',e1,e2,_⟩:=ha j e he;rw[hk] at e2;obtain rfl:=Od e2;have hfn:(f.map (·.1)).Nodup:=(h4.map (·.1)).nodup_iff.2 h1;refine⟨by rw[Vu];exact h1,?_,?_,f.set j (k,r),?_,KM.of (by simp[hl]) λi x hx=>?_⟩
 ·rw[List.map_set];have:(es.map (·.born)).set j e.born=es.map (·.born):=by
   apply List.ext_getElem?;intro i;rw[List.getElem?_set]
   split
   ·rename_i hij;subst hij
    simp[hjl,List.getElem?_eq_some_iff.1 he |>.2]
   ·rfl
  show((es.map (·.born)).set j e.born).Nodup;rw[this];exact h2
 ·intro x hx;rcases List.mem_or_eq_of_mem_set hx with hx | rfl
  ·exact h3 x hx
  ·exact h3 e (AcO he)
 ·have:=Xg h4 k r
  rwa [TZ r hfn e1] at this
 ·rw[List.getElem?_set] at hx ⊢
  split at hx
  ·rename_i hij;subst hij
   cases hx
   exact⟨k,r,by rw[Ad2 rfl,Ad2 (by rw[hl];exact hjl)],rfl,hr⟩
  ·rename_i hij
   rw[Adp hij];exact ha i x hx
theorem Gv.ins {Z:Fz}{m:List (Af×Rp)}{es:List MapEntry}{ck:Nat}{k:Af}{r:Rp}{v:Value}(h:Gv Z m es ck)(hm:Bs m k=none)(hk:∀p∈m,p.1≠k)(hr:r.p Z v) :
  Gv Z (mset m k r) (es++[{ key:=.string (B k),val:=v,born:=ck }]) (ck+1):=by
 obtain⟨h1,h2,h3,f,h4,h5⟩:=h;unfold mset;rw[Vw hm,AcD];have hp:=M3 k r m;refine⟨?_,?_,?_,f++[(k,r)],?_,KM.snoc rfl hr h5⟩
 ·rw[(hp.map (·.1)).nodup_iff,Adx,List.nodup_cons];exact⟨λhx=>by obtain⟨p,hp,e⟩:=List.mem_map.1 hx;exact hk p hp e,h1⟩
 ·rw[AdA,List.nodup_append];refine⟨h2,by simp,λa ha b hb e=>?_⟩;simp at hb;subst hb;obtain⟨x,hx,e'⟩:=List.mem_map.1 ha;have:=h3 x hx;omega
 ·intro x hx;rcases List.mem_append.1 hx with hx | hx
  ·have:=h3 x hx;omega
  ·simp at hx;subst hx;exact AcM _
 ·exact(List.perm_append_comm (l₁:=f) (l₂:=[(k,r)])).trans ((h4.cons (k,r)).trans hp.symm)
theorem Gv.del {Z:Fz}{m:List (Af×Rp)}{es:List MapEntry}{ck j:Nat}{e:MapEntry}{k:Af}(h:Gv Z m es ck)(he:es[j]? =some e)(hk:e.key = .string (B k)):Gv Z (mdel m k) (es.eraseIdx j) ck:=by
 obtain⟨h1,h2,h3,f,h4,h5⟩:=h;obtain⟨hl,ha⟩:=h5.at;obtain⟨k',r',e1,e2,_⟩:=ha j e he;rw[hk] at e2;obtain rfl:=Od e2;have hfn:(f.map (·.1)).Nodup:=(h4.map (·.1)).nodup_iff.2 h1;have hs:=List.eraseIdx_sublist es j;refine⟨h1.sublist ((List.filter_sublist ..).map _),h2.sublist (hs.map _),λx hx=>h3 x (hs.subset hx),f.eraseIdx j,?_,KM.of (by rw[List.length_eraseIdx,List.length_eraseIdx,hl]) λi x hx=>?_⟩
 ·rw[← Ua hfn e1];exact h4.filter _
 ·rw[List.getElem?_eraseIdx] at hx ⊢
  split at hx
  ·rename_i hij;rw[Ad2 hij];exact ha i x hx
  ·rename_i hij;rw[Adp hij];exact ha (i+1) x hx
theorem V1 {m:List (Af×Rp)}{k:Af}(hk:∀p∈m,p.1≠k):mdel m k=m:=List.filter_eq_self.2 λp hp=>by simp[hk p hp]
theorem St.mapset {Z:Fz}{w:World}(h:St c H Z w){m m':List (Af×Rp)}(hi:H[i]? =some (.map b m)){es es':Array MapEntry}{ck ck':Nat}(h1:w.heap[b]? =some (.map es ck))(h2:Gv Z m' es'.toList ck') :
  St c (H.set i (.map b m')) Z { w with heap:=w.heap.setIfInBounds b (.map es' ck') }:=by
 obtain⟨q1,q2⟩:=MapKept.heap_set (o':=.map es' ck') h1;exact h.set hi rfl rfl rfl (by simp) (λk _ hk=>q2 k (by simpa[Ent.foot] using hk)) ⟨es',ck',q1,h2⟩ (by simp[Ent.foot])
theorem Qp (s:ByteArray):Instr.sameBits 10000 (.string s) (.string s)=true:=by
 show(s ==s)=true;exact(MapKept.bytes_beq s s).2 rfl |> λh=>by simpa using h
theorem AaJ {r:Rp}{m:List (Af×Rp)}(ht:P.underlying t=some (.map kt et))(hk:P.underlying kt=some .string)(hx:ev l x=some (rv (.map (some b))))(hi:H[i]? =some (.map b m))(hy:ev l y=some (rS k))(hu:ev l u=some r){H':List Ent}(hH:H.set i (.map b (mset m k r))=H')(h:WL P n c ops Q rest l H') :
  WL P n c ops Q ({ dst:=none,op:=.mapUpdate t x y u,type:=ty,pos:=pos,after:=af,guard:=none }::rest) l H:=
 Ra λa w Z ha hw=>by
  obtain⟨es,ck,h1,h2⟩:=hw.ent hi;have hv:=ha.ev hu;subst hH;rcases QE h2 k with⟨q1,q2,q3⟩ | ⟨j,e,r0,q1,q2,q3,q4,_⟩
  ·refine⟨_,_,?_,hw.mapset hi h1 (es':=es.push { key:=.string (B k),val:=a.eval u,born:=ck }) (by simpa using h2.ins q2 q3 hv),h⟩;simp[execOp,ha.eval hx,ha.eval hy,Instr.mapUpdate,run_underlying ht,MapKept.run_getObj_map h1,MapKept.run_checkKey hk (EX _),MapKept.run_findKey hk q1,MapKept.run_setObj_map _ h1]
  ·have hje:es[j]? =some e:=by simpa using q2
   refine⟨_,_,?_,hw.mapset hi h1 (es':=es.modify j λe=>{ e with key:=.string (B k),val:=a.eval u }) (ck':=ck) (by
    have:=h2.put q2 q3 q4 hv;have e1:(es.modify j λe=>{ e with key:=.string (B k),val:=a.eval u }).toList=es.toList.set j { e with key:=.string (B k),val:=a.eval u }:=by
     rw[Array.toList_modify];rw[List.modify_eq_set,q2];rfl
    rw[e1];exact this),h⟩
   have hkey:((es[j]?).map (·.key)).getD (.string (B k)) = .string (B k):=by rw[hje];exact q3
   simp[execOp,ha.eval hx,ha.eval hy,Instr.mapUpdate,run_underlying ht,MapKept.run_getObj_map h1,MapKept.run_checkKey hk (EX _),MapKept.run_findKey hk q1,MapKept.run_setObj_map _ h1,hkey,Instr.keyThatStays,Qp]
theorem Aaw {op:Op}{ty:TypeId}{pos:String}{af:Array Edge}
  (hr:∀a w Z,Dl n l a Z→St c H Z w→∃v w' H',(execOp a.eval { dst:=none,op:=op,type:=ty,pos:=pos,after:=af,guard:=none }).run P w = .ok (.value v) w'∧St c H' Z w'∧WL P n c ops Q rest l H') :
  WL P n c ops Q ({ dst:=none,op:=op,type:=ty,pos:=pos,after:=af,guard:=none }::rest) l H:=λa w Z ha hw=>
 wpList_plain rfl λK hK=>by
  obtain⟨v,w',H',h1,h2,h3⟩:=hr a w Z ha hw;unfold Oper.wp;rw[h1];exact hK _ _ (h3 _ w' Z (ha.put_none _) h2)
theorem AaK {m:List (Af×Rp)}(ht:P.underlying t=some (.map kt et))(hk:P.underlying kt=some .string){kt':TypeId}(hx:ev l x=some (rv (.map (some b))))(hi:H[i]? =some (.map b m))(hy:ev l y=some (rS k)){H':List Ent}(hH:H.set i (.map b (mdel m k))=H')(h:WL P n c ops Q rest l H') :
  WL P n c ops Q ({ dst:=none,op:=.call { callee:=.builtin .delete,args:=#[x,y],argTypes:=#[t,kt'] },type:=ty,pos:=pos,after:=af,guard:=none }::rest) l H:=
 Aaw (λa w Z ha hw=>by
  obtain⟨es,ck,h1,h2⟩:=hw.ent hi;subst hH;rcases QE h2 k with⟨q1,q2,q3⟩ | ⟨j,e,r0,q1,q2,q3,q4,_⟩
  ·refine⟨.tuple #[],_,_,?_,hw.mapset hi h1 (es':=es) (ck':=ck) (by rw[V1 q3];exact h2),h⟩;simp[execOp,resolve,invoke,builtin,ha.eval hx,ha.eval hy,Builtin.delete_,run_underlying ht,MapKept.run_getObj_map h1,MapKept.run_checkKey hk (EX _),MapKept.run_findKey hk q1,MapKept.run_setObj_map _ h1]
  ·refine⟨.tuple #[],_,_,?_,hw.mapset hi h1 (es':=es.eraseIdxIfInBounds j) (ck':=ck) (by
    have e1:(es.eraseIdxIfInBounds j).toList=es.toList.eraseIdx j:=by simp
    rw[e1];exact h2.del q2 q3),h⟩
   simp[execOp,resolve,invoke,builtin,ha.eval hx,ha.eval hy,Builtin.delete_,run_underlying ht,MapKept.run_getObj_map h1,MapKept.run_checkKey hk (EX _),MapKept.run_findKey hk q1,MapKept.run_setObj_map _ h1])
theorem W2 {m:List (Af×Rp)}(ht:P.underlying t=some (.map kt et))(hx:ev l x=some (rv (.map (some b))))(hi:H[i]? =some (.map b m)){H':List Ent}(hH:H.set i (.map b [])=H')(h:WL P n c ops Q rest l H') :
  WL P n c ops Q ({ dst:=none,op:=.call { callee:=.builtin .clear,args:=#[x],argTypes:=#[t] },type:=ty,pos:=pos,after:=af,guard:=none }::rest) l H:=
 Aaw (λa w Z ha hw=>by
  obtain⟨es,ck,h1,h2⟩:=hw.ent hi;subst hH;refine⟨.tuple #[],_,_,?_,hw.mapset hi h1 (es':=#[]) (ck':=ck) ⟨by simp,by simp,by simp,[],AcI _,trivial⟩,h⟩;simp[execOp,resolve,invoke,builtin,ha.eval hx,Builtin.clear_,run_underlying ht,MapKept.run_getObj_map h1,MapKept.run_setObj_map _ h1])
theorem Ly {v:T}(ht:P.underlying t=some (.map kt et))(hk:P.underlying kt=some .string)(hx:ev l x=some (rv (.map (some b))))(hi:H[i]? =some (.map b (AY enc xs)))(hy:ev l y=some (rS k))(hu:ev l u=some (enc v)){H':List Ent}(hH:H.set i (.map b (AY enc (mset xs k v)))=H')(h:WL P n c ops Q rest l H') :
  WL P n c ops Q ({ dst:=none,op:=.mapUpdate t x y u,type:=ty,pos:=pos,after:=af,guard:=none }::rest) l H:=AaJ ht hk hx hi hy hu (by rw[← X6];exact hH) h
theorem Zs (ht:P.underlying t=some (.map kt et))(hk:P.underlying kt=some .string){kt':TypeId}(hx:ev l x=some (rv (.map (some b))))(hi:H[i]? =some (.map b (AY enc xs)))(hy:ev l y=some (rS k)){H':List Ent}(hH:H.set i (.map b (AY enc (mdel xs k)))=H')(h:WL P n c ops Q rest l H') :
  WL P n c ops Q ({ dst:=none,op:=.call { callee:=.builtin .delete,args:=#[x,y],argTypes:=#[t,kt'] },type:=ty,pos:=pos,after:=af,guard:=none }::rest) l H:=AaK ht hk hx hi hy (by rw[← X9];exact hH) h
end
end Go.Proofs.YtjfnokmpfekniaaGreatDoor.Q
namespace Go.Proofs.YtjfnokmpfekniaaGreatDoor
open Go
end Go.Proofs.YtjfnokmpfekniaaGreatDoor
namespace Go.Proofs.YtjfnokmpfekniaaGreatDoor.Q
open Go Go.RowKit Go.ChangeMaps
set_option linter.unusedVariables false
set_option linter.unusedSimpArgs false
end Go.Proofs.YtjfnokmpfekniaaGreatDoor.Q
namespace Go.Proofs.YtjfnokmpfekniaaGreatDoor
open Go
set_option linter.unusedVariables false
structure Ad where
 fKey:Af
 fDelete:Bool
 fValue:(List Aa)
 fIfVersion:Int
 deriving DecidableEq,Inhabited
structure Ae where
 fKey:Af
 fValue:(List Aa)
 fVersion:Int
 deriving DecidableEq,Inhabited
structure AM where
 fItems:(List (Af×Ae))
 fChanged:(List (Af×Ae))
 deriving DecidableEq,Inhabited
def Lk (ys:(List Aa)):Option ((List Aa)):=
 AX (Dw 40 (([]:List Aa).length+ys.length))<|some (([]:List Aa)++ys)
def QA (c:Int):Option (Bool):=
 some ((decide (97≤c))&&(decide (c≤122)))
def NC (c:Int):Option (Bool):=
 some ((decide (48≤c))&&(decide (c≤57)))
def Co (ha:Bool):Option (Bool):=
 some ha
def QB (c:Int):Option (Bool):=
 Br (QA c) λha=>Bf (ha) (Co true) (Bf (decide (65≤c)) (Bf (decide (c≤90)) (Co true) (Br (NC c) λhb=>Bf (hb) (Co true) (Bf (decide (c=45)) (Co true) (Bf (decide (c=95)) (Co true) (Bf (decide (c=46)) (Co true) (Bf (decide (c=58)) (Co true) (Co (decide (c=47))))))))) (Br (NC c) λhd=>Bf (hd) (Co true) (Bf (decide (c=45)) (Co true) (Bf (decide (c=95)) (Co true) (Bf (decide (c=46)) (Co true) (Bf (decide (c=58)) (Co true) (Co (decide (c=47)))))))))
def GY (s:Af)(ha:Int):Option (Stp (Int) (Out (Bool) (Unit))):=
 Bf (decide (ha<(s.length:Int))) (AX (CJ ha (s.length:Int))<|Br (QB (Bm s ha)) λhb=>Bf (!hb) (some (.out (.ret false))) (AX (B9 .i64 (ha+1))<|some (.next (ha+1)))) (some (.out (.go ())))
def NB :Option (Bool):=
 some true
def VI (F:Nat)(s:Af):Option (Bool):=
 Bf (((decide ((s.length:Int)<1))||(decide (64<(s.length:Int))))) (some false) (Br (B7 (λσ=>GY s σ) F 0) (B5 λν=>NB ))
def HD (F:Nat)(c:Ad):Option (Int):=
 Bf (!(Pd c.fKey)) (some 4) (Bf (((decide (c.fIfVersion<(-1)))||(decide (1000000000000<c.fIfVersion)))) (some 2) (Bf ((c.fDelete&&(decide (0<(c.fValue.length:Int))))) (some 7) (Bf (c.fDelete) (some 0) (Br (KT F c.fValue) λha=>some ha))))
def Dd (F:Nat)(l:(List Ad))(ha:Int):Option (Stp (Int) (Out (Int) (Unit))):=
 Bf (decide (ha<(l.length:Int))) (AX (CJ ha (l.length:Int))<|Br (HD F (Ao l ha)) λhb=>Bf (!decide (hb=0)) (some (.out (.ret hb))) (AX (B9 .i64 (ha+1))<|some (.next (ha+1)))) (some (.out (.go ())))
def Ku :Option (Int):=
 some 0
def HA (F:Nat)(l:(List Ad)):Option (Int):=
 Bf (decide (256<(l.length:Int))) (some 3) (Br (B7 (λσ=>Dd F l σ) F 0) (B5 λν=>Ku ))
def XR :Option (AM):=
 some (AM.mk ([]:List (Af×Ae)) ([]:List (Af×Ae)))
def LQ (q:AM):Option (Bool×AM):=
 some (true,q)
def XP (q:AM)(key:Af):Option (Ae×AM):=
 Bf (Cp q.fChanged key) (some ((Cw q.fChanged key (Ae.mk ([]:Af) ([]:(List Aa)) 0)),q)) (some ((Cw q.fItems key (Ae.mk ([]:Af) ([]:(List Aa)) 0)),q))
def G4 (c:Ad)(r2:Ae×AM)(ha:Int):Option (Int×Int×AM):=
 Br (Lk c.fValue) λhb=>AX (B9 .i64 (r2.1.fVersion+1))<|some (ha,0,(AM.mk r2.2.fItems (mset r2.2.fChanged c.fKey (Ae.mk c.fKey hb (r2.1.fVersion+1)))))
def Kv (q:AM)(c:Ad)(size:Int):Option (Int×Int×AM):=
 Br (XP q c.fKey) λr2=>Bf (((decide (0≤c.fIfVersion))&&(!decide (c.fIfVersion=r2.1.fVersion)))) (some (0,19,r2.2)) (Bf (c.fDelete) (Bf (decide (0<r2.1.fVersion)) (AX (B9 .i64 (size-1))<|some (size-1,0,(AM.mk r2.2.fItems (mset r2.2.fChanged c.fKey (Ae.mk ([]:Af) ([]:List Aa) 0))))) (some (size,0,(AM.mk r2.2.fItems (mset r2.2.fChanged c.fKey (Ae.mk ([]:Af) ([]:List Aa) 0)))))) (Bf (((decide (r2.1.fVersion=0))&&(decide (256≤size)))) (some (0,3,r2.2)) (Bf (decide (1000000000000≤r2.1.fVersion)) (some (0,8,r2.2)) (Bf (decide (r2.1.fVersion=0)) (AX (B9 .i64 (size+1))<|G4 c r2 (size+1)) (G4 c r2 size)))))
def Hl (ha:Af)(hb:Ae)(hd:(List (Af×Ae))):Option (Stp ((List (Af×Ae))) (Out (Int×AM) ((List (Af×Ae))))):=
 Bf (decide (hb.fVersion=0)) (some (.next (mdel hd ha))) (some (.next (mset hd ha hb)))
def Hk (ha:(List (Af×Ae)))(hb:(List (Af×Ae))):Option (Int×AM):=
 some (0,(AM.mk hb ha))
def E0 (l:(List Ad))(hf:Int)(hb:Int)(hd:(List (Af×Ae)))(he:(List (Af×Ae))):Option (Stp (Int×Int×(List (Af×Ae))×(List (Af×Ae))) (Out (Int×AM) ((List (Af×Ae))×(List (Af×Ae))))):=
 Bf (decide (hb<(l.length:Int))) (AX (CJ hb (l.length:Int))<|Br (Kv (AM.mk hd he) (Ao l hb) hf) λha=>Bf (!decide (ha.2.1=0)) (some (.out (.ret (ha.2.1,ha.2.2)))) (AX (B9 .i64 (hb+1))<|some (.next (ha.1,hb+1,ha.2.2.fItems,ha.2.2.fChanged)))) (some (.out (.go (hd,he))))
def G5 (hb:(List (Af×Ae)))(ha:(List (Af×Ae))):Option (Int×AM):=
 X7 ha λord=>Br (V3 (λp τ=>Hl p.1 p.2 τ) ord hb) (B5 λν=>Hk ha ν)
def Ih (F:Nat)(q:AM)(l:(List Ad)):Option (Int×AM):=
 Br (LQ q) λr1=>Bf (!r1.1) (some (10,r1.2)) (Br (HA F l) λr7=>Bf (!decide (r7=0)) (some (r7,r1.2)) (Br (B7 (λσ=>E0 l σ.1 σ.2.1 σ.2.2.1 σ.2.2.2) F ((r1.2.fItems.length:Int),0,r1.2.fItems,([]:List (Af×Ae)))) (B5 λν=>G5 ν.1 ν.2)))
def ZN (x:Ae):Option (Ae):=
 Br (Lk x.fValue) λr3=>some (Ae.mk x.fKey r3 x.fVersion)
def V9 (q:AM)(key:Af):Option (Ae×Bool×AM):=
 Br (LQ q) λr2=>Bf (!r2.1) (some ((Ae.mk ([]:Af) ([]:List Aa) 0),false,r2.2)) (Br (ZN (Cw r2.2.fItems key (Ae.mk ([]:Af) ([]:(List Aa)) 0))) λr9=>some (r9,Cp r2.2.fItems key,r2.2))
def V8 (q:AM):Option (Int×AM):=
 Br (LQ q) λr1=>Bf (!r1.1) (some (0,r1.2)) (some ((r1.2.fItems.length:Int),r1.2))
end Go.Proofs.YtjfnokmpfekniaaGreatDoor
namespace Go.Proofs.YtjfnokmpfekniaaGreatDoor.Q
open Go Go.RowKit
set_option linter.unusedVariables false
set_option linter.unusedSimpArgs false
theorem LW {q:MapEntry→Bool}:∀{l:List MapEntry} {j:Nat} {e:MapEntry},(l.map (·.born)).Nodup→l[j]? =some e→l.filter (λx=>!(x.born ==e.born))=l.eraseIdx j
 | x::l,0,e,hn,h=>by
  simp at h;subst h;rw[Adx,List.nodup_cons] at hn;rw[List.filter_cons_of_neg (by simp),List.filter_eq_self.2 λy hy=>?_];rfl;have:y.born≠x.born:=λe=>hn.1 (by rw[← e];exact List.mem_map.2 ⟨y,hy,rfl⟩);simp[this]
 | x::l,j+1,e,hn,h=>by
  rw[Adx,List.nodup_cons] at hn;simp at h;have hne:x.born≠e.born:=λe'=>hn.1 (by rw[e'];exact List.mem_map.2 ⟨e,AcO h,rfl⟩);rw[List.filter_cons_of_pos (by simp[hne]),LW (q:=q) hn.2 h];rfl
theorem KM.erase {Z:Fz}:∀{f:List (List UInt8×Rp)} {es:List MapEntry} (j:Nat),KM Z f es→KM Z (f.eraseIdx j) (es.eraseIdx j)
 | [],[],j,_=>by simp[KM]
 | p::f,e::es,0,⟨_,h⟩=>h
 | p::f,e::es,j+1,⟨h,h3⟩=>⟨h,KM.erase j h3⟩
theorem TP {α:Type}:∀{l:List α} {j:Nat} {a:α},l[j]? =some a→l.Perm (a::l.eraseIdx j)
 | x::l,0,a,h=>by simp at h;subst h;exact AcI _
 | x::l,j+1,a,h=>by
  simp at h;exact((TP h).cons x).trans (List.Perm.swap a x _)
theorem Xh {T:Type}{enc:T→Rp}{ys:List (Af×T)}{f:List (Af×Rp)}{j:Nat}{k:Af}{r:Rp}(h:f.Perm (AY enc ys))(hj:f[j]? =some (k,r)):∃ (p:Af×T) (ys':List (Af×T)),ys.Perm (p::ys')∧p.1=k∧enc p.2=r∧(f.eraseIdx j).Perm (AY enc ys'):=by
 have hm:(k,r)∈AY enc ys:=h.subset (AcO hj);obtain⟨p,hp,e⟩:=List.mem_map.1 hm;simp only[Prod.mk.injEq] at e;obtain⟨a,b,rfl⟩:=List.append_of_mem hp;refine⟨p,a++b,List.perm_middle,e.1,e.2,?_⟩;have h1:f.Perm ((k,r)::f.eraseIdx j):=by
  exact TP hj
 have h2:(AY enc (a++p::b)).Perm ((k,r)::AY enc (a++b)):=by
  have:(AY enc (a++p::b)).Perm (AY enc (p::(a++b))):=List.perm_middle.map _;refine this.trans ?_;show((p.1,enc p.2)::AY enc (a++b)).Perm _;rw[e.1,e.2]
 exact((h1.symm.trans h).trans h2).cons_inv
section
variable {P : Program} {n : Nat} {c : Cx} {ops : Array Oper} {Q : Exit → Act → World → Prop} {rest : List Oper} {l : Fr} {H : List Ent} {d : Nat} {ty t kt et rty : TypeId} {pos : String} {af : Array Edge} {x y u : Operand} {K : Act → World → Prop} {cx : Code}
variable {T : Type} {enc : T → Rp} {xs ys : List (Af × T)} {i b it : Nat} {m lf : List (List UInt8 × Rp)} {cur : Option (List UInt8 × Rp)} {k : Af} {r : Rp}
theorem Zl (ht:P.underlying t=some (.map kt et))(hx:ev l x=some (rv (.map (some b))))(hi:H[i]? =some (.map b m))(hn:Nat.blt d n=true)(h:∀it,WL P n c ops Q rest ((d,rv (.pointer (some ⟨it,0,none⟩)))::l) (H.set i (.mit b it m m none))) :
  WL P n c ops Q ({ dst:=some d,op:=.range t x,type:=ty,pos:=pos,after:=af,guard:=none }::rest) l H:=
 J4 (λa w Z ha hw=>by
  obtain⟨es,ck,h1,h2⟩:=hw.ent hi;have hb:b<w.heap.size:=(Array.getElem?_eq_some_iff.1 h1).1;have hf:es.toList.filter (λe=>!(#[]:Array Nat).contains e.born)=es.toList:=List.filter_eq_self.2 λ_ _=>by simp
  obtain⟨f,h4,h5⟩:=h2.2.2.2;refine⟨.pointer (some ⟨w.heap.size,0,none⟩),w.alloc (.mapIter (some b) ck #[] ck),_,_,Z,?_,Fz.le.refl _,rfl,hw.set hi rfl rfl rfl (by simp) (λk hk _=>Below.heap_alloc w _ k hk) ?_ ?_,h w.heap.size⟩
  ·simp[execOp,ha.eval hx,run_range_map w t kt et b es ck ht h1]
  ·exact⟨es,ck,#[],ck,ck,(Below.heap_alloc w _ b hb).trans h1,by simpa using heap_alloc_new w _,h2,h2.2.2.1,AcY _,AcY _,Nat.ne_of_lt hb,⟨f,h4,by rw[hf];exact h5⟩,trivial⟩
  ·intro k hk;simp only[Ent.foot,Ad6,List.not_mem_nil,or_false] at hk;rcases hk with rfl | rfl
   ·exact .inl (by simp[Ent.foot])
   ·exact .inr (AcY _)) hn
theorem AaH (hx:ev l x=some (rv (.pointer (some ⟨it,0,none⟩))))(hi:H[i]? =some (.mit b it m (AY enc ys) cur))(hn:Nat.blt d n=true)
  (h0:ys=[]→WL P n c ops Q rest ((d,C2 [rB false])::l) H)
  (h1:∀p ys',ys.Perm (p::ys')→WL P n c ops Q rest ((d,C2 [rB true,rS p.1,enc p.2])::l) (H.set i (.mit b it m (AY enc ys') (some (p.1,enc p.2))))) :
  WL P n c ops Q ({ dst:=some d,op:=.next x false,type:=ty,pos:=pos,after:=af,guard:=none }::rest) l H:=
 J4 (λa w Z ha hw=>by
  obtain⟨es,ck,seen,since,c0,q1,q2,q3,q4,q5,q6,q7,⟨f,q8,q9⟩,_⟩:=hw.ent hi;have hlf:(leftOf es seen).toList=es.toList.filter λe=>!seen.contains e.born:=by simp[leftOf]
  rcases run_next_at (P:=P) w ty it b since c0 seen es ck q2 q1 q4 q5 with⟨r1,r2⟩ | ⟨e,r1,w1,r2,r3⟩
  ·have he:es.toList.filter (λe=>!seen.contains e.born)=[]:=by rw[← hlf];exact Adc (by simpa using r1)
   rw[he] at q9;have hf:f=[]:=by cases f with
    | nil=>rfl
    | cons _ _=>exact absurd q9 id
   subst hf;have hy:ys=[]:=by
    have:=q8.length_eq;rw[JK] at this;exact Adc this.symm
   exact⟨.tuple #[.bool false],w,C2 [rB false],H,Z,by simp[execOp,ha.eval hx,r2],Fz.le.refl _,⟨[.bool false],rfl,rfl,trivial⟩,hw,h0 hy⟩
  ·rw[hlf] at r1;obtain⟨j,hj⟩:=List.mem_iff_getElem?.1 r1;obtain⟨k,r,e1,e2,e3⟩:=q9.at.2 j e hj;obtain⟨p,ys',s1,s2,s3,s4⟩:=Xh q8 e1;have hnl:((es.toList.filter λe=>!seen.contains e.born).map (·.born)).Nodup:=q3.2.1.sublist ((List.filter_sublist ..).map _);have hleft:es.toList.filter (λx=>!(seen.push e.born).contains x.born)=(es.toList.filter λe=>!seen.contains e.born).eraseIdx j:=by
    rw[← LW (q:=λ_=>true) hnl hj,List.filter_filter];refine List.filter_congr λx _=>?_;simp only[Array.contains_push,Bool.not_or];rw[Bool.and_comm]
   have hd:St c H Z w1:=by
    rcases r2 with rfl | rfl
    ·exact hw
    ·exact hw.drawn _
   have q2':w1.heap[it]? =some (.mapIter (some b) since seen c0):=by rcases r2 with rfl | rfl<;>exact q2
   have q1':w1.heap[b]? =some (.map es ck):=by rcases r2 with rfl | rfl<;>exact q1
   obtain⟨t1,t2⟩:=MapKept.heap_set (o':=.mapIter (some b) since (seen.push e.born) ck) q2';refine⟨.tuple #[.bool true,e.key,e.val],ChangeMaps.setBlock w1 it (.mapIter (some b) since (seen.push e.born) ck),C2 [rB true,rS p.1,enc p.2],H.set i (.mit b it m (AY enc ys') (some (p.1,enc p.2))),Z,by simp[execOp,ha.eval hx,r3],Fz.le.refl _,⟨[.bool true,e.key,e.val],rfl,rfl,?_,?_,trivial⟩,hd.set hi rfl rfl rfl (by simp[ChangeMaps.setBlock]) (λk' _ hk'=>t2 k' (λe'=>hk' (by simp[Ent.foot,e']))) ?_ (λk' hk'=>.inl (by simpa[Ent.foot] using hk')),h1 p ys' s1⟩
   ·show e.key = .string (B p.1);rw[s2];exact e2
   ·rw[s3];exact e3
   ·exact⟨es,ck,seen.push e.born,since,ck,(t2 b q7).trans q1',t1,q3,q4,Nat.le_trans q5 q6,AcY _,q7,⟨f.eraseIdx j,s4,by rw[hleft];exact q9.erase j⟩,rfl,seen,e,rfl,(List.mem_filter.1 r1).1,by rw[s2];exact e2,by rw[s3];exact e3⟩) hn
theorem St.unmit {Z:Fz}{w:World}(h:St c H Z w)(hi:H[i]? =some (.mit b it m lf cur)):St c (H.set i (.map b m)) Z w:=by
 obtain⟨es,ck,seen,since,c0,q1,q2,q3,_⟩:=h.ent hi;exact h.set hi rfl rfl rfl (AcY _) (λ_ _ _=>rfl) ⟨es,ck,q1,q3⟩ (by simp[Ent.foot])
theorem WK.unmit (hi:H[i]? =some (.mit b it m lf cur))(h:WK n c K l (H.set i (.map b m))):WK n c K l H:=λa w Z ha hw=>h a w Z ha (hw.unmit hi)
theorem WC.unmit (hi:H[i]? =some (.mit b it m lf cur))(h:WC P n c cx Q l (H.set i (.map b m))):WC P n c cx Q l H:=λa w Z ha hw=>h a w Z ha (hw.unmit hi)
theorem WL.unmit (hi:H[i]? =some (.mit b it m lf cur))(h:WL P n c ops Q rest l (H.set i (.map b m))):WL P n c ops Q rest l H:=λa w Z ha hw=>h a w Z ha (hw.unmit hi)
theorem St.uncur {Z:Fz}{w:World}(h:St c H Z w)(hi:H[i]? =some (.mit b it m lf cur)):St c (H.set i (.mit b it m lf none)) Z w:=by
 obtain⟨es,ck,seen,since,c0,q1,q2,q3,q4,q5,q6,q7,q8,_⟩:=h.ent hi;exact h.set hi rfl rfl rfl (AcY _) (λ_ _ _=>rfl) ⟨es,ck,seen,since,c0,q1,q2,q3,q4,q5,q6,q7,q8,trivial⟩ (λk hk=>.inl (by simpa[Ent.foot] using hk))
theorem WK.uncur (hi:H[i]? =some (.mit b it m lf cur))(h:WK n c K l (H.set i (.mit b it m lf none))):WK n c K l H:=λa w Z ha hw=>h a w Z ha (hw.uncur hi)
theorem Z9 {dd:Option Nat}{g:Option (Nat×Bool)}(hx:ev l x=some (rv (.pointer (some ⟨it,0,none⟩))))(hi:H[i]? =some (.mit b it m lf (some (k,r)))) :
  Bn P n c l H { dst:=dd,op:=.entry x,type:=ty,pos:=pos,after:=af,guard:=g } (C2 [rS k,r]):=λa w Z ha hw=>by
 obtain⟨es,ck,seen,since,c0,q1,q2,q3,q4,q5,q6,q7,q8,rfl,s0,e,rfl,h1,h2,h3⟩:=hw.ent hi;exact⟨.tuple #[e.key,e.val],⟨[e.key,e.val],rfl,h2,h3,trivial⟩,by simp[execOp,ha.eval hx,run_entry_at w it b since s0 es c0 e q2 q1 h1 q3.2.1]⟩
end
section
variable {P : Program} {n : Nat} {c : Cx} {opsA : Array Oper} {Q : Exit → Act → World → Prop} {l : Fr} {H : List Ent} {d : Nat} {ty : TypeId} {pos : String} {af : Array Edge}
theorem Xn {f:FuncId}{args:List Operand}{ats:Array TypeId}{rs:List Rp}{r:Rp}{Hin Hout Hr:List Ent}(hcall:∀(as1:Array Value) (w:World),(callFunc f as1).run P w = .ok (.enter f as1) w)(hv:Pe l args=some rs)
  (hp:H.Perm (Hin++Hr)) (hc:Fn P c.E f rs Hin (λr' H'=>r'=r∧H'=Hout)) {H':List Ent} (hH:Hout++Hr=H'):GA P n c opsA Q l H { dst:=some d,op:=.call { callee:=.value (.func f),args:=args.toArray,argTypes:=ats },type:=ty,pos:=pos,after:=af,guard:=none } r H':=λa w Z K ha hw hK=>
 ⟨λ_=>by
  subst hH;unfold Oper.wp;rw[G0 rfl hcall w];refine(hc w Z _ (HV ha hv) (hw.perm hp).enter).mono ?_;rintro e w' ⟨r2,v,Ho,Z',rfl,⟨rfl,rfl⟩,hr2,hs⟩;exact hK v w' Z' hs.le hr2 ((hw.perm hp).call hs),λh=>by simp[Region.wanted] at h⟩
end
section
variable {P : Program} {n : Nat} {c : Cx} {ops : Array Oper} {Q : Exit → Act → World → Prop} {rest : List Oper} {l : Fr} {H H' : List Ent} {d : Nat} {d' : Option Nat} {x y z3 : Operand} {ty t t' e : TypeId} {pos : String} {af : Array Edge} {g : Option (Nat × Bool)} {v u : Value} {r : Rp} {sz : Nat}
theorem TX {xs:List Int}(hs:P.underlying t=some (.slice e))(hd:P.underlying t'=some .string)(he:P.underlying e=some (.int .u8))(hx:ev l x=some (AQ 1 (xs.map Bc))) :
  Bn P n c l H { dst:=d',op:=.convert t t' x,type:=ty,pos:=pos,after:=af,guard:=g } (rS (Id xs)):=λa w Z ha hw=>by
 obtain⟨us,h3,h4⟩:=KA.z (P:=P) (ys:=xs) (enc:=Bc) hx rfl a w Z ha hw;rw[S0] at h3;have e2:=Bp.eq_rv h3;subst e2;refine⟨.string (B (Id xs)),rfl,?_⟩;obtain⟨_,h2⟩:=h4;rcases h2 with⟨hv,hz⟩ | ⟨b,cap,hv,hcell⟩
 ·have hx0:xs=[]:=Adc hz;subst hx0;have:=run_convert_bytes_string w t t' e none 0 0 hs he hd;simp only[execOp,hv];have e3:(Conv.bytesToString (.slice none 0 0)).run P w = .ok (.string (B [])) w:=rfl;rw[e3] at this;simp[this,Id]
 ·have hld:=run_loadCells_list (P:=P) w b (xs.map λc=>Value.int .u8 c) hcell;rw[AcR] at hld;have h4:=run_bytesToString w b xs.length cap xs hld;have h5:=run_convert_bytes_string w t t' e (some b) xs.length cap hs he hd;have h6:=Ym xs [];rw[h4,show ByteArray.empty=B [] from rfl,h6] at h5;simp[execOp,hv,h5]
end
end Go.Proofs.YtjfnokmpfekniaaGreatDoor.Q
namespace Go.Proofs
open Go.Shelf
end Go.Proofs
namespace Go.Proofs.YtjfnokmpfekniaaGreatDoor.Q
open Go Go.RowKit Go.Maps Go.Sort Go.Shelf Go.Proofs
set_option linter.unusedVariables false
set_option maxHeartbeats 1000000
open Go Go.RowKit
set_option linter.unusedSimpArgs false
set_option maxRecDepth 100000
set_option maxHeartbeats 4000000
@[reducible] def Aj (x:Ad):List Rp:=[rS x.fKey,rB x.fDelete,AQ 4 (A8 Ab x.fValue),Ap x.fIfVersion]
theorem BV (x:Ad):(Aj x).length=4:=rfl
theorem Ju (x:Ad):(Aj x).all (·.one)=true:=rfl
@[reducible] def Aq (x:Ae):List Rp:=[rS x.fKey,AQ 4 (A8 Ab x.fValue),Ap x.fVersion]
theorem Ij (x:Ae):(Aq x).length=3:=rfl
@[reducible] def An (x:Ae):Rp:=BK (Aq x)
theorem Jb (Z:Fz):(An (Ae.mk ([]:Af) ([]:(List Aa)) 0)).p Z (.agg #[(.string ⟨#[]⟩),(.slice none 0 0),(.int .i64 0)]):=⟨[.string ⟨#[]⟩,.slice none 0 0,.int .i64 0],rfl,rfl,T1.nil _ _,rfl,trivial⟩
theorem Uw (parts:List (Nat×Value)):Tryz.prog.built 35 parts=Instr.fill (λi=>(#[(0,1),(1,1),(2,1)]:Array (Nat×Nat))[i]?) #[(.string ⟨#[]⟩),((.slice none 0 0)),(.int .i64 0)] parts:=by kernel_rfl
theorem Lb {n:Nat}{c:Cx}{l:Fr}{H:List Ent}{d:Option Nat}{ty:TypeId}{pos:String}{af:Array Edge}{g:Option (Nat×Bool)}:Bn Tryz.prog n c l H { dst:=d,op:=.build 35 #[],type:=ty,pos:=pos,after:=af,guard:=g } (BK [rS ([]:Af),rv (.slice none 0 0),Ap 0]):=λa w Z ha _=>by
  have hb:Tryz.prog.built 35 []=some #[(.string ⟨#[]⟩),((.slice none 0 0)),(.int .i64 0)]:=by
    rw[Uw];simp[Instr.fill,Value.cells]
  refine⟨.agg #[(.string ⟨#[]⟩),((.slice none 0 0)),(.int .i64 0)],⟨[(.string ⟨#[]⟩),((.slice none 0 0)),(.int .i64 0)],rfl,rfl,rfl,rfl,trivial⟩,?_⟩;have:=run_build w 35 #[] _ (by simpa using hb);simp[execOp,this]
theorem Jq {n:Nat}{c:Cx}{l:Fr}{H:List Ent}{d:Option Nat}{ty:TypeId}{pos:String}{af:Array Edge}{g:Option (Nat×Bool)}{x0:Operand}{r0:Rp}(h0:ev l x0=some r0)(u0:r0.one=true){x1:Operand}{r1:Rp}(h1:ev l x1=some r1)(u1:r1.one=true){x2:Operand}{r2:Rp}(h2:ev l x2=some r2)(u2:r2.one=true):Bn Tryz.prog n c l H { dst:=d,op:=.build 35 #[(0,x0),(1,x1),(2,x2)],type:=ty,pos:=pos,after:=af,guard:=g } (BK [r0,r1,r2]):=λa w Z ha _=>by
  have p0:=ha.ev h0;have c0:=BA (r0.hone u0 Z _ p0);have p1:=ha.ev h1;have c1:=BA (r1.hone u1 Z _ p1);have p2:=ha.ev h2;have c2:=BA (r2.hone u2 Z _ p2);have hb:Tryz.prog.built 35 [(0,a.eval x0),(1,a.eval x1),(2,a.eval x2)]=some #[a.eval x0,a.eval x1,a.eval x2]:=by
    rw[Uw];generalize a.eval x0=v0 at *;generalize a.eval x1=v1 at *;generalize a.eval x2=v2 at *;simp[Instr.fill,c0,c1,c2]
  refine⟨.agg #[a.eval x0,a.eval x1,a.eval x2],⟨[a.eval x0,a.eval x1,a.eval x2],rfl,p0,p1,p2,trivial⟩,?_⟩;have:=run_build w 35 #[(0,a.eval x0),(1,a.eval x1),(2,a.eval x2)] _ (by simpa using hb);simp[execOp,this]
theorem Aas (parts:List (Nat×Value)):Tryz.prog.built 59 parts=Instr.fill (λi=>(#[(0,1),(1,1)]:Array (Nat×Nat))[i]?) #[((.map none)),((.map none))] parts:=by kernel_rfl
theorem Pn {n:Nat}{c:Cx}{l:Fr}{H:List Ent}{d:Option Nat}{ty:TypeId}{pos:String}{af:Array Edge}{g:Option (Nat×Bool)}{x0:Operand}{r0:Rp}(h0:ev l x0=some r0)(u0:r0.one=true){x1:Operand}{r1:Rp}(h1:ev l x1=some r1)(u1:r1.one=true):Bn Tryz.prog n c l H { dst:=d,op:=.build 59 #[(0,x0),(1,x1)],type:=ty,pos:=pos,after:=af,guard:=g } (BK [r0,r1]):=λa w Z ha _=>by
  have p0:=ha.ev h0;have c0:=BA (r0.hone u0 Z _ p0);have p1:=ha.ev h1;have c1:=BA (r1.hone u1 Z _ p1);have hb:Tryz.prog.built 59 [(0,a.eval x0),(1,a.eval x1)]=some #[a.eval x0,a.eval x1]:=by
    rw[Aas];generalize a.eval x0=v0 at *;generalize a.eval x1=v1 at *;simp[Instr.fill,c0,c1]
  refine⟨.agg #[a.eval x0,a.eval x1],⟨[a.eval x0,a.eval x1],rfl,p0,p1,trivial⟩,?_⟩;have:=run_build w 59 #[(0,a.eval x0),(1,a.eval x1)] _ (by simpa using hb);simp[execOp,this]
theorem S4 (ys:(List Aa))(r:(List Aa))(h:Lk ys=some r):Fn Tryz.prog GE 59 [AQ 4 (A8 Ab ys)] [] (λR H=>R=AQ 4 (A8 Ab r)∧H=[]):=by
 refine enter (n:=8) Tryz.func59 rfl Tryz.ntmps59 rfl (λw Z=>?_);unfold Lk at h;refine Ag (wa rfl (Am (Ai (Ag (wm rfl (wv (Vm Cg rfl) (Am (Wv rfl (λc1=>?_) (λc1=>?_)))))))))
 ·have e2:ys=[]:=List.map_eq_nil_iff.1 (c1 rfl);have h3:some ([]:List Aa)=some r:=by rw[e2] at h;exact(YE h).2
  refine Ag (wa rfl (Am (Av (Ac (WK.up (d:=2) (r:=AQ 4 (A8 Ab ([]:List Aa))) rfl (Up.le (HK.nil _)) ?_)))));obtain rfl:=Aw h3;exact Au (BQ Tryz.results59 (AG rfl)) sN ⟨rfl,rfl⟩
 ·refine Ar (AJ (Ag (AZ (ys:=([]:List Aa)) (enc:=Ab) (css:=[]) (xs:=[]) Cg CK KO rfl rfl rfl trivial rfl Bz rfl rfl rfl (λb4=>?_))));refine wm rfl (ck h λg6 h7=>Exists.elim Je λinf hinf=>BY (xs:=([]:List Aa)) (ys:=ys) (enc:=Ab) (i:=0) Cg hinf.1 hinf.2.1 hinf.2.2.1 hinf.2.2.2 rfl rfl rfl rfl rfl (KA.z rfl rfl) Bz CF g6 rfl (λv5=>?_));refine wa rfl (Am (Av (WK.freeze (i:=0) rfl (WK.up (d:=2) (r:=AQ 4 (A8 Ab (([]:List Aa)++ys))) rfl (Up.fact (i:=0) rfl) ?_))));obtain rfl:=Aw h7;exact Au (BQ Tryz.results59 (AG rfl)) (sS sN) ⟨rfl,rfl⟩
theorem VG (c:Int)(r:Bool)(h:QA c=some r):Fn Tryz.prog GE 107 [rI .u8 c] [] (λR H=>R=rB r∧H=[]):=by
 refine enter (n:=9) Tryz.func107 rfl Tryz.ntmps107 rfl (λw Z=>?_);unfold QA at h;refine Ag (wa rfl (Am (AK [(2,rB ((decide (97≤c))&&(decide (c≤122))))] [] ?_ ?_)))
 ·refine Ah (wm rfl (wv (H5 rfl rfl) (wm rfl (AS (decide (97≤c)) (λc1=>?_) (λc1=>?_)))))
  ·refine wo c1 (wm rfl (wo c1 (wv (M0 rfl rfl) (GC rfl c1 rfl (wa rfl (Ak ?_))))));exact Cm c1
  ·refine wf c1 (wf c1 (wv (r:=rB false) (AC rfl c1 rfl) (wa rfl (Ak ?_))));exact Cm c1
 refine Av ?_;obtain rfl:=Aw h;exact Au (BQ Tryz.results107 (AG rfl)) sN ⟨rfl,rfl⟩
theorem PP (c:Int)(r:Bool)(h:NC c=some r):Fn Tryz.prog GE 108 [rI .u8 c] [] (λR H=>R=rB r∧H=[]):=by
 refine enter (n:=9) Tryz.func108 rfl Tryz.ntmps108 rfl (λw Z=>?_);unfold NC at h;refine Ag (wa rfl (Am (AK [(2,rB ((decide (48≤c))&&(decide (c≤57))))] [] ?_ ?_)))
 ·refine Ah (wm rfl (wv (H5 rfl rfl) (wm rfl (AS (decide (48≤c)) (λc1=>?_) (λc1=>?_)))))
  ·refine wo c1 (wm rfl (wo c1 (wv (M0 rfl rfl) (GC rfl c1 rfl (wa rfl (Ak ?_))))));exact Cm c1
  ·refine wf c1 (wf c1 (wv (r:=rB false) (AC rfl c1 rfl) (wa rfl (Ak ?_))));exact Cm c1
 refine Av ?_;obtain rfl:=Aw h;exact Au (BQ Tryz.results108 (AG rfl)) sN ⟨rfl,rfl⟩
theorem Yb (c:Int)(r:Bool)(h:QB c=some r):Fn Tryz.prog GE 81 [rI .u8 c] [] (λR H=>R=rB r∧H=[]):=by
 refine enter (n:=37) Tryz.func81 rfl Tryz.ntmps81 rfl (λw Z=>?_);unfold QB at h;refine Ag (wa rfl (Am (De (S:=(Bool)×(Unit)) (λσ=>Co σ.1=some r) (λσ=>[(2,rB σ.1)]) (λσ=>[]) ?_ ?_)))
 ·refine Ah (wm rfl (ob h λhp hq hr=>CG Tryz.call107 (VG c hp hq) rfl (wm rfl (bz hr (λc53 hs=>?_) (λc53 ht=>?_)))))
  ·refine wf c53 (wf c53 (wf c53 (wu (wu (wf c53 (wv (r:=rB true) (A1 rfl c53 rfl) (wm rfl (wz rfl rfl (wz rfl rfl (wv (r:=rB true) (A1 (b:=true) rfl rfl rfl) (wm rfl (wz rfl rfl (wz rfl rfl (wv (r:=rB true) (A1 (b:=true) rfl rfl rfl) (wm rfl (wz rfl rfl (wz rfl rfl (wv (r:=rB true) (A1 (b:=true) rfl rfl rfl) (wm rfl (wz rfl rfl (wz rfl rfl (wv (r:=rB true) (A1 (b:=true) rfl rfl rfl) (wm rfl ?_)))))))))))))))))))))));exact wz rfl rfl (wz rfl rfl (wv (r:=rB true) (A1 (b:=true) rfl rfl rfl) (wm rfl (wz rfl rfl (wz rfl rfl (wv (r:=rB true) (A1 (b:=true) rfl rfl rfl) (wa rfl (Ak (Az (A3 (true,()) hs (A6.c rfl A6.nil) sN))))))))))
  ·refine wo c53 (wm rfl (wo c53 (wv (H5 rfl rfl) (wo c53 (wm rfl (bz ht (λha hu=>?_) (λha hw=>?_)))))))
   ·refine wo ha (wm rfl (wo ha (wv (M0 rfl rfl) (wo c53 (GC rfl ha rfl (GK rfl c53 rfl (wm rfl (bz hu (λhb hx=>?_) (λhb hy=>?_)))))))))
    ·refine wf hb (wf hb (wv (r:=rB true) (A1 rfl hb rfl) (wm rfl (wz rfl rfl (wz rfl rfl (wv (r:=rB true) (A1 (b:=true) rfl rfl rfl) (wm rfl (wz rfl rfl (wz rfl rfl (wv (r:=rB true) (A1 (b:=true) rfl rfl rfl) (wm rfl (wz rfl rfl (wz rfl rfl (wv (r:=rB true) (A1 (b:=true) rfl rfl rfl) (wm rfl (wz rfl rfl (wz rfl rfl (wv (r:=rB true) (A1 (b:=true) rfl rfl rfl) (wm rfl (wz rfl rfl (wz rfl rfl (wv (r:=rB true) (A1 (b:=true) rfl rfl rfl) (wa rfl ?_)))))))))))))))))))))));exact Ak (Az (A3 (true,()) hx (A6.c rfl A6.nil) sN))
    ·refine wo hb (wm rfl (wo hb (ob hy λhz h0 h1=>CG Tryz.call108 (PP c hz h0) rfl (GK rfl hb rfl (wm rfl (bz h1 (λhd h2=>?_) (λhd h3=>?_)))))))
     ·exact wf hd (wf hd (wv (r:=rB true) (A1 rfl hd rfl) (wm rfl (wz rfl rfl (wz rfl rfl (wv (r:=rB true) (A1 (b:=true) rfl rfl rfl) (wm rfl (wz rfl rfl (wz rfl rfl (wv (r:=rB true) (A1 (b:=true) rfl rfl rfl) (wm rfl (wz rfl rfl (wz rfl rfl (wv (r:=rB true) (A1 (b:=true) rfl rfl rfl) (wm rfl (wz rfl rfl (wz rfl rfl (wv (r:=rB true) (A1 (b:=true) rfl rfl rfl) (wa rfl (Ak (Az (A3 (true,()) h2 (A6.c rfl A6.nil) sN))))))))))))))))))))))
     ·refine wo hd (wm rfl (wo hd (wv (B6 rfl rfl) (GK rfl hd rfl (wm rfl (bz h3 (λhe h4=>?_) (λhe h5=>?_)))))))
      ·exact wf he (wf he (wv (r:=rB true) (A1 rfl he rfl) (wm rfl (wz rfl rfl (wz rfl rfl (wv (r:=rB true) (A1 (b:=true) rfl rfl rfl) (wm rfl (wz rfl rfl (wz rfl rfl (wv (r:=rB true) (A1 (b:=true) rfl rfl rfl) (wm rfl (wz rfl rfl (wz rfl rfl (wv (r:=rB true) (A1 (b:=true) rfl rfl rfl) (wa rfl (Ak (Az (A3 (true,()) h4 (A6.c rfl A6.nil) sN))))))))))))))))))
      ·refine wo he (wm rfl (wo he (wv (B6 rfl rfl) (GK rfl he rfl (wm rfl (bz h5 (λhf h6=>?_) (λhf h7=>?_)))))))
       ·exact wf hf (wf hf (wv (r:=rB true) (A1 rfl hf rfl) (wm rfl (wz rfl rfl (wz rfl rfl (wv (r:=rB true) (A1 (b:=true) rfl rfl rfl) (wm rfl (wz rfl rfl (wz rfl rfl (wv (r:=rB true) (A1 (b:=true) rfl rfl rfl) (wa rfl (Ak (Az (A3 (true,()) h6 (A6.c rfl A6.nil) sN))))))))))))))
       ·refine wo hf (wm rfl (wo hf (wv (B6 rfl rfl) (GK rfl hf rfl (wm rfl (bz h7 (λhg h8=>?_) (λhg h9=>?_)))))))
        ·exact wf hg (wf hg (wv (r:=rB true) (A1 rfl hg rfl) (wm rfl (wz rfl rfl (wz rfl rfl (wv (r:=rB true) (A1 (b:=true) rfl rfl rfl) (wa rfl (Ak (Az (A3 (true,()) h8 (A6.c rfl A6.nil) sN))))))))))
        ·refine wo hg (wm rfl (wo hg (wv (B6 rfl rfl) (GK rfl hg rfl (wm rfl (bz h9 (λc76 hA=>?_) (λc76 hB=>?_)))))))
         ·exact wf c76 (wf c76 (wv (r:=rB true) (A1 rfl c76 rfl) (wa rfl (Ak (Az (A3 (true,()) hA (A6.c rfl A6.nil) sN))))))
         ·exact wo c76 (wm rfl (wo c76 (wv (B6 rfl rfl) (GK rfl c76 rfl (wa rfl (Ak (Az (A3 (decide (c=47),()) hB (A6.c rfl A6.nil) sN))))))))
   ·refine wf ha (wf ha (wo c53 (wv (r:=rB false) (AC rfl ha rfl) (GK rfl c53 rfl (wm rfl (Bt (b:=false) rfl rfl rfl (wm rfl (Bt (b:=false) rfl rfl rfl (ob hw λhn hC hD=>CG Tryz.call108 (PP c hn hC) rfl (wv (r:=rB hn) (AC (b:=false) rfl rfl rfl) (wm rfl (bz hD (λhh hE=>?_) (λhh hG=>?_)))))))))))))
    ·exact wf hh (wf hh (wv (r:=rB true) (A1 rfl hh rfl) (wm rfl (wz rfl rfl (wz rfl rfl (wv (r:=rB true) (A1 (b:=true) rfl rfl rfl) (wm rfl (wz rfl rfl (wz rfl rfl (wv (r:=rB true) (A1 (b:=true) rfl rfl rfl) (wm rfl (wz rfl rfl (wz rfl rfl (wv (r:=rB true) (A1 (b:=true) rfl rfl rfl) (wm rfl (wz rfl rfl (wz rfl rfl (wv (r:=rB true) (A1 (b:=true) rfl rfl rfl) (wa rfl (Ak (Az (A3 (true,()) hE (A6.c rfl A6.nil) sN))))))))))))))))))))))
    ·refine wo hh (wm rfl (wo hh (wv (B6 rfl rfl) (GK rfl hh rfl (wm rfl (bz hG (λhi hH=>?_) (λhi hI=>?_)))))))
     ·exact wf hi (wf hi (wv (r:=rB true) (A1 rfl hi rfl) (wm rfl (wz rfl rfl (wz rfl rfl (wv (r:=rB true) (A1 (b:=true) rfl rfl rfl) (wm rfl (wz rfl rfl (wz rfl rfl (wv (r:=rB true) (A1 (b:=true) rfl rfl rfl) (wm rfl (wz rfl rfl (wz rfl rfl (wv (r:=rB true) (A1 (b:=true) rfl rfl rfl) (wa rfl (Ak (Az (A3 (true,()) hH (A6.c rfl A6.nil) sN))))))))))))))))))
     ·refine wo hi (wm rfl (wo hi (wv (B6 rfl rfl) (GK rfl hi rfl (wm rfl (bz hI (λhj hJ=>?_) (λhj hK=>?_)))))))
      ·exact wf hj (wf hj (wv (r:=rB true) (A1 rfl hj rfl) (wm rfl (wz rfl rfl (wz rfl rfl (wv (r:=rB true) (A1 (b:=true) rfl rfl rfl) (wm rfl (wz rfl rfl (wz rfl rfl (wv (r:=rB true) (A1 (b:=true) rfl rfl rfl) (wa rfl (Ak (Az (A3 (true,()) hJ (A6.c rfl A6.nil) sN))))))))))))))
      ·refine wo hj (wm rfl (wo hj (wv (B6 rfl rfl) (GK rfl hj rfl (wm rfl (bz hK (λhk hL=>?_) (λhk hN=>?_)))))))
       ·exact wf hk (wf hk (wv (r:=rB true) (A1 rfl hk rfl) (wm rfl (wz rfl rfl (wz rfl rfl (wv (r:=rB true) (A1 (b:=true) rfl rfl rfl) (wa rfl (Ak (Az (A3 (true,()) hL (A6.c rfl A6.nil) sN))))))))))
       ·refine wo hk (wm rfl (wo hk (wv (B6 rfl rfl) (GK rfl hk rfl (wm rfl (bz hN (λhl hO=>?_) (λhl hP=>?_)))))))
        ·exact wf hl (wf hl (wv (r:=rB true) (A1 rfl hl rfl) (wa rfl (Ak (Az (A3 (true,()) hO (A6.c rfl A6.nil) sN))))))
        ·exact wo hl (wm rfl (wo hl (wv (B6 rfl rfl) (GK rfl hl rfl (wa rfl (Ak (Az (A3 (decide (c=47),()) hP (A6.c rfl A6.nil) sN))))))))
 ·rintro⟨ho,⟨⟩⟩ hm;refine BG (l':=[(2,rB ho)]) (H':=[]) rfl rfl ?_;replace hm:Co ho=some r:=hm;unfold Co at hm;refine Av ?_;obtain rfl:=Aw hm;exact Au (BQ Tryz.results81 (AG rfl)) sN ⟨rfl,rfl⟩
theorem Yc (F:Nat)(s:Af)(r:Bool)(h:VI F s=some r):Fn Tryz.prog GE 56 [rS s] [] (λR H=>R=rB r∧H=[]):=by
 refine enter (n:=23) Tryz.func56 rfl Tryz.ntmps56 rfl (λw Z=>?_);unfold VI at h;refine Ag (wa rfl (Am (Ai (AK [(0,rS s),(11,rB ((decide ((s.length:Int)<1))||(decide (64<(s.length:Int)))))] [] ?_ ?_))))
 ·refine Ah (wm rfl (wv (Bj Ce rfl) (wv (Cj rfl rfl) (wm rfl (AS (decide ((s.length:Int)<1)) (λc1=>?_) (λc1=>?_))))))
  ·refine wf c1 (wf c1 (wf c1 (wv (r:=rB true) (A1 rfl c1 rfl) (Ak ?_))));exact Cm c1
  ·refine wo c1 (wm rfl (wo c1 (wv (Bj Ce rfl) (wo c1 (wv (C3 rfl rfl) (GK rfl c1 rfl (Ak ?_)))))));exact Cm c1
 refine cz h rfl (λc2 h3=>?_) (λc2 h4=>?_)
 ·refine Ag (wa rfl (Am (Av (Ac ?_))));obtain rfl:=Aw h3;exact Au (BQ Tryz.results56 (AG rfl)) sN ⟨rfl,rfl⟩
 ·refine Ar (AJ (Ai (Ag (wa rfl (Am (A9 (ob h4 λhg hh hf=>Bg (S:=Nat×(Int)×(Unit)) (V:=(Unit)×(Unit)) 0 (λσ=>B7 (λσ=>GY s σ) σ.1 σ.2.1=some hg) (λσ=>[(0,rS s),(3,Ap σ.2.1)]) (λσ=>[]) (λσ=>σ.1) (F,0,()) hh (A6.c rfl (A6.c rfl A6.nil)) sN (λσ=>NB =some r) (λσ=>[]) (λσ=>[]) ?_ ?_)))))))
  ·rintro⟨h1,ha,⟨⟩⟩ hi;refine BG (l':=[(0,rS s),(3,Ap ha)]) (H':=[]) rfl rfl ?_;obtain⟨hj,rfl,hk,hb,he⟩:=BZ hi;replace hb:GY s ha=some hk:=hb;unfold GY at hb;refine Ai (Ag (wm rfl (wm rfl (wv (Bj Ce rfl) (wv (Cj rfl rfl) (Am (cz hb rfl (λc53 hl=>?_) (λc53 hm=>?_))))))))
   ·refine Ar (AJ (Ai (A9 (Ag (wm rfl (wm rfl (ck hl λhn ho=>wv (Bq Ce rfl rfl hn) (ob ho λhp hq hr=>CG Tryz.call81 (Yb (Bm s ha) hp hq) rfl (wv (Ci rfl) (Am (cz hr rfl (λhs ht=>?_) (λhs hu=>?_))))))))))))
    ·refine Ag (wa rfl (Am (Av (Ay (Ac (Ac (AR ?_)))))));have hw:=Bo ht he hf;refine Ay (Ac ?_);obtain rfl:=Aw hw;exact Au (BQ Tryz.results56 (AG rfl)) sN ⟨rfl,rfl⟩
    ·refine Ar (AA (AJ (Ah (wm rfl (ck hu λhx hy=>wv (Bk rfl rfl hx) (wa rfl (Ak ?_)))))));have hz:=Ba hy he;exact Az (A3 (hj,ha+1,()) ⟨hz,AcM _⟩ (A6.c rfl (A6.c rfl A6.nil)) sN)
   ·refine Bl (As ?_);have h0:=BB hm he hf;exact As (AV (A3 ((),()) h0 A6.nil sN))
  ·rintro⟨⟨⟩,⟨⟩⟩ hd;refine Cb (l':=[]) (H':=[]) rfl rfl ?_;replace hd:NB =some r:=hd;unfold NB at hd;refine AW (AJ (Ag (wa rfl (Am (Av ?_)))));obtain rfl:=Aw hd;exact Au (BQ Tryz.results56 (AG rfl)) sN ⟨rfl,rfl⟩
theorem Sf (F:Nat)(c:Ad)(r:Int)(h:HD F c=some r):Fn Tryz.prog GE 55 [BK (Aj c)] [] (λR H=>R=Ap r∧H=[]):=by
 refine enter (n:=32) Tryz.func55 rfl Tryz.ntmps55 rfl (λw Z=>?_);unfold HD at h;refine Ag (DR rfl rfl (λb1=>?_));refine wa rfl (Am (Ai (A9 (Ag (vF DK rfl Cs (vL 0 CU rfl (IU (rs:=[rS c.fKey]) (r:=rB (Pd c.fKey)) Tryz.call79 rfl (Acs c.fKey) rfl rfl (wv (Ci rfl) (wa rfl (Am (cz h rfl (λc2 h3=>?_) (λc2 h4=>?_))))))))))))
 ·refine Ag (wa rfl (Am (Av (Ay (Ac ?_)))));obtain rfl:=Aw h3;exact Au (BQ Wm (AG rfl)) (sS sN) ⟨rfl,rfl⟩
 ·refine AK [(1,rP b1 0),(8,rB ((decide (c.fIfVersion<(-1)))||(decide (1000000000000<c.fIfVersion))))] [.blk b1 (Aj c) 50] ?_ ?_
  ·refine Ah (vF DK rfl Ct (vL 0 CX rfl (wv (Cj rfl rfl) (wm rfl (AS (decide (c.fIfVersion<(-1))) (λc5=>?_) (λc5=>?_))))))
   ·refine wf c5 (wf c5 (wf c5 (wv (r:=rB true) (A1 rfl c5 rfl) (wa rfl (Ak ?_)))));exact Cm c5
   ·refine wo c5 (vF DK rfl Ct (wo c5 (vL 0 CX rfl (wo c5 (wv (C3 rfl rfl) (GK rfl c5 rfl (wa rfl (Ak ?_))))))));exact Cm c5
  refine cz h4 rfl (λc6 h7=>?_) (λc6 h8=>?_)
  ·refine Ag (wa rfl (Am (Av (Ay (Ac ?_)))));obtain rfl:=Aw h7;exact Au (BQ Wm (AG rfl)) (sS sN) ⟨rfl,rfl⟩
  ·refine AK [(1,rP b1 0),(17,rB (c.fDelete&&(decide (0<(c.fValue.length:Int)))))] [.blk b1 (Aj c) 50] ?_ ?_
   ·refine Ah (vF DK rfl HJ (vL 0 Qg rfl (wm rfl (AS (c.fDelete) (λc9=>?_) (λc9=>?_)))))
    ·refine wo c9 (vF DK rfl CO (wo c9 (vL 0 EL rfl (wo c9 (wv (Be (ys:=c.fValue) (enc:=Ab) Cg rfl) (wo c9 (wv (C3 rfl rfl) (GC rfl c9 rfl (wa rfl (Ak ?_))))))))));exact Cm c9
    ·refine wf c9 (wf c9 (wf c9 (wf c9 (wv (r:=rB false) (AC rfl c9 rfl) (wa rfl (Ak ?_))))));exact Cm c9
   refine cz h8 rfl (λha hb=>?_) (λha hd=>?_)
   ·refine Ag (wa rfl (Am (Av (Ay (Ac ?_)))));obtain rfl:=Aw hb;exact Au (BQ Wm (AG rfl)) (sS sN) ⟨rfl,rfl⟩
   ·refine Ag (vF DK rfl HJ (vL 0 Qg rfl (wa rfl (Am (cz hd rfl (λhe hf=>?_) (λhe hg=>?_))))))
    ·refine Ag (wa rfl (Am (Av (Ay (Ac ?_)))));obtain rfl:=Aw hf;exact Au (BQ Wm (AG rfl)) (sS sN) ⟨rfl,rfl⟩
    ·refine Ar (AA (AJ (Ag (vF DK rfl CO (vL 0 EL rfl (ob hg λhh hi hj=>CG Tryz.call80 (Oa F c.fValue hh hi) rfl (wa rfl (Am (Av ?_)))))))));obtain rfl:=Aw hj;exact Au (BQ Wm (AG rfl)) (sS sN) ⟨rfl,rfl⟩
theorem OB (F:Nat)(l:(List Ad))(r:Int)(h:HA F l=some r):Fn Tryz.prog GE 35 [AQ 4 (A8 Aj l)] [] (λR H=>R=Ap r∧H=[]):=by
 refine enter (n:=21) Tryz.func35 rfl Tryz.ntmps35 rfl (λw Z=>?_);unfold HA at h;refine Ag (wa rfl (Am (Ai (Ag (wm rfl (wv (Be (ys:=l) (enc:=Aj) E4 rfl) (wv (C3 rfl rfl) (Am (cz h rfl (λc1 h2=>?_) (λc1 h3=>?_))))))))))
 ·refine Ag (wa rfl (Am (Av (Ac ?_))));obtain rfl:=Aw h2;exact Au (BQ Tryz.results35 (AG rfl)) sN ⟨rfl,rfl⟩
 ·refine Ar (AJ (Ai (Ag (wm rfl (wv (Be (ys:=l) (enc:=Aj) E4 rfl) (wv (r:=Ap 0) (Al rfl) (Am (A9 (ob h3 λhg hh hf=>Bg (S:=Nat×(Int)×(Unit)) (V:=(Unit)×(Unit)) 0 (λσ=>B7 (λσ=>Dd F l σ) σ.1 σ.2.1=some hg) (λσ=>[(2,Ap 0),(9,AQ 4 (A8 Aj l)),(10,Ap (l.length:Int)),(11,Ap σ.2.1)]) (λσ=>[]) (λσ=>σ.1) (F,0,()) hh (A6.c rfl (A6.c rfl (A6.c rfl (A6.c rfl A6.nil)))) sN (λσ=>Ku =some r) (λσ=>[(2,Ap 0)]) (λσ=>[]) ?_ ?_)))))))))
  ·rintro⟨h5,ha,⟨⟩⟩ hi;refine BG (l':=[(2,Ap 0),(9,AQ 4 (A8 Aj l)),(10,Ap (l.length:Int)),(11,Ap ha)]) (H':=[]) rfl rfl ?_;obtain⟨hj,rfl,hk,hb,he⟩:=BZ hi;replace hb:Dd F l ha=some hk:=hb;unfold Dd at hb;refine Ag (wv (Cj rfl rfl) (Am (Ai (cz hb rfl (λhl hm=>?_) (λhl hn=>?_)))))
   ·refine Ar (AJ (Ai (A9 (Ag (ck hm λho hp=>wv (Bb (enc:=Aj) (ys:=l) E4 CV rfl rfl ho) (wv (Dc J3 CV rfl rfl rfl) (BM (cs:=[rS ([]:Af),rB false,rv (.slice none 0 0),Ap 0]) J1 rfl rfl (λhq=>?_))))))));refine Bh (i:=0) CV rfl rfl rfl (BJ.c rfl) rfl rfl (cs':=[rS ((Ao l ha).fKey),rB ((Ao l ha).fDelete),AQ 4 (A8 Ab ((Ao l ha).fValue)),Ap ((Ao l ha).fIfVersion)]) rfl (H':=[.blk hq (Aj (Ao l ha)) 50]) rfl (Bv (wv (BC (i:=0) J3 CV rfl rfl rfl rfl) (ob hp λhr hs ht=>CG Tryz.call55 (Sf F (Ao l ha) hr hs) rfl (wa rfl (Bv (wm rfl (wv (CQ rfl rfl) (Am (cz ht rfl (λhu hw=>?_) (λhu hx=>?_))))))))))
    ·refine Ag (wm rfl (wa rfl (Am (Av (Ay (Ac (Ac (AR ?_))))))));have hy:=Bo hw he hf;refine Ay (Ac ?_);obtain rfl:=Aw hy;exact Au (BQ Tryz.results35 (AG rfl)) (sS sN) ⟨rfl,rfl⟩
    ·refine Ar (AA (AJ (Ah (ck hx λhz h0=>wv (Bk rfl rfl hz) (wm rfl (Ak ?_))))));have h1:=Ba h0 he;exact Az (A3 (hj,ha+1,()) ⟨h1,AcM _⟩ (A6.c rfl (A6.c rfl (A6.c rfl (A6.c rfl A6.nil)))) (sS sN))
   ·refine Bl (As ?_);have h4:=BB hn he hf;exact As (AV (A3 ((),()) h4 (A6.c rfl A6.nil) sN))
  ·rintro⟨⟨⟩,⟨⟩⟩ hd;refine Cb (l':=[(2,Ap 0)]) (H':=[]) rfl rfl ?_;replace hd:Ku =some r:=hd;unfold Ku at hd;refine AW (AJ (Ag (wa rfl (Am (Av ?_)))));obtain rfl:=Aw hd;exact Au (BQ Tryz.results35 (AG rfl)) sN ⟨rfl,rfl⟩
theorem XQ  (r:AM)(h:XR=some r):Fn Tryz.prog GE 11 [] [] (λR H=>∃u0:Nat,∃u0_0:Nat,∃u0_1:Nat,R=rP u0 0∧H=[.blk u0 [rv (.map (some u0_0)),rv (.map (some u0_1))] 59,.map u0_0 (AY An r.fItems),.map u0_1 (AY An r.fChanged)]):=by
 refine enter (n:=5) Tryz.func11 rfl Tryz.ntmps11 rfl (λw Z=>?_);unfold XR at h;refine Ag (wa rfl (Bv (Mm rfl (λb1=>?_))));refine Mm rfl (λb2=>?_);refine wv (r:=BK [rv (.map (some b1)),rv (.map (some b2))]) (Pn rfl rfl rfl rfl) (DR rfl rfl (λb3=>?_));refine wa rfl (Am (Av (Dh (H2:=[.blk b3 [rv (.map (some b1)),rv (.map (some b2))] 59,.map b1 (AY An ([]:List (Af×Ae))),.map b2 (AY An ([]:List (Af×Ae)))]) ((A4 (i:=0) rfl).trans (AcJ _ ((A4 (i:=1) rfl).trans (AcJ _ (AcI _))))) ?_)));obtain rfl:=Aw h;exact Au (BQ Tryz.results11 (AG rfl)) (sC (sC (sC sN))) ⟨b3,b1,b2,rfl,rfl⟩
theorem N9 (hd:Nat)(ha:Nat)(hb:Nat)(q:AM)(r:Bool×AM)(h:LQ q=some r):Fn Tryz.prog GE 34 [rP hd 0] [.blk hd [rv (.map (some ha)),rv (.map (some hb))] 59,.map ha (AY An q.fItems),.map hb (AY An q.fChanged)] (λR H=>R=rB r.1∧H=[.blk hd [rv (.map (some ha)),rv (.map (some hb))] 59,.map ha (AY An r.2.fItems),.map hb (AY An r.2.fChanged)]):=by
 refine enter (n:=12) Tryz.func34 rfl Tryz.ntmps34 rfl (λw Z=>?_);unfold LQ at h;refine Ag (wa rfl (Am (AK [(2,rB true)] [.blk hd [rv (.map (some ha)),rv (.map (some hb))] 59,.map ha (AY An q.fItems),.map hb (AY An q.fChanged)] ?_ ?_)))
 ·refine Ah (wm rfl (wv (r:=rB true) (Vn ⟨_,AaC⟩ rfl) (wm rfl (Bt (b:=true) rfl rfl rfl (wm rfl (Bt (b:=true) rfl rfl rfl (wv (A2 rfl) (Bt (b:=true) rfl rfl rfl (vF Mi rfl Mk (Bt (b:=true) rfl rfl rfl (vL 0 Ml rfl (Bt (b:=true) rfl rfl rfl (wv (r:=rB true) (Vo (v:=some ha) Mj rfl) (wv (r:=rB true) (A1 (b:=true) rfl rfl rfl) (wa rfl (Ak ?_))))))))))))))));exact wt
 refine Av ?_;obtain rfl:=Aw h;exact Au (BQ Tryz.results34 (AG rfl)) (sC (sC (sC sN))) ⟨rfl,rfl⟩
theorem Abg (hd:Nat)(ha:Nat)(hb:Nat)(q:AM)(key:Af)(r:Ae×AM)(h:XP q key=some r):Fn Tryz.prog GE 58 [rP hd 0,rS key] [.blk hd [rv (.map (some ha)),rv (.map (some hb))] 59,.map ha (AY An q.fItems),.map hb (AY An q.fChanged)] (λR H=>R=BK (Aq r.1)∧H=[.blk hd [rv (.map (some ha)),rv (.map (some hb))] 59,.map ha (AY An r.2.fItems),.map hb (AY An r.2.fChanged)]):=by
 refine enter (n:=24) Tryz.func58 rfl Tryz.ntmps58 rfl (λw Z=>?_);unfold XP at h;refine Ag (BM (cs:=[rS ([]:Af),rv (.slice none 0 0),Ap 0]) KP rfl rfl (λb1=>?_));refine Am (Ai (Ag (wm rfl (wv (A2 rfl) (vF Mi rfl Mk (vL 1 Ml rfl (wm rfl (wv (r:=C2 [BK [rS ((Cw q.fChanged key (Ae.mk ([]:Af) ([]:(List Aa)) 0)).fKey),AQ 4 (A8 Ab ((Cw q.fChanged key (Ae.mk ([]:Af) ([]:(List Aa)) 0)).fValue)),Ap ((Cw q.fChanged key (Ae.mk ([]:Af) ([]:(List Aa)) 0)).fVersion)],rB (Cp q.fChanged key)]) (TU (enc:=An) (xs:=q.fChanged) (z:=Ae.mk ([]:Af) ([]:(List Aa)) 0) (i:=3) Mj Ce KP Jb rfl rfl rfl) (wm rfl (wv (AE rfl rfl) (wv (AE rfl rfl) (BM (cs:=[rS ([]:Af),rv (.slice none 0 0),Ap 0]) KP rfl rfl (λb2=>?_)))))))))))));refine Bh (i:=0) CW rfl rfl rfl (BJ.c rfl) rfl rfl (cs':=[rS ((Cw q.fChanged key (Ae.mk ([]:Af) ([]:(List Aa)) 0)).fKey),AQ 4 (A8 Ab ((Cw q.fChanged key (Ae.mk ([]:Af) ([]:(List Aa)) 0)).fValue)),Ap ((Cw q.fChanged key (Ae.mk ([]:Af) ([]:(List Aa)) 0)).fVersion)]) rfl (H':=[.blk b2 [rS ((Cw q.fChanged key (Ae.mk ([]:Af) ([]:(List Aa)) 0)).fKey),AQ 4 (A8 Ab ((Cw q.fChanged key (Ae.mk ([]:Af) ([]:(List Aa)) 0)).fValue)),Ap ((Cw q.fChanged key (Ae.mk ([]:Af) ([]:(List Aa)) 0)).fVersion)] 35,.blk b1 [rS ([]:Af),rv (.slice none 0 0),Ap 0] 35,.blk hd [rv (.map (some ha)),rv (.map (some hb))] 59,.map ha (AY An q.fItems),.map hb (AY An q.fChanged)]) rfl (wa rfl (Bv (wm rfl (Am (cz h rfl (λc3 h4=>?_) (λc3 h5=>?_))))))
 ·refine Ag (wv (BC (i:=0) NO CW rfl rfl rfl rfl) (Bh (i:=1) CW rfl rfl rfl (BJ.c rfl) rfl rfl (cs':=[rS ((Cw q.fChanged key (Ae.mk ([]:Af) ([]:(List Aa)) 0)).fKey),AQ 4 (A8 Ab ((Cw q.fChanged key (Ae.mk ([]:Af) ([]:(List Aa)) 0)).fValue)),Ap ((Cw q.fChanged key (Ae.mk ([]:Af) ([]:(List Aa)) 0)).fVersion)]) rfl (H':=[.blk b2 [rS ((Cw q.fChanged key (Ae.mk ([]:Af) ([]:(List Aa)) 0)).fKey),AQ 4 (A8 Ab ((Cw q.fChanged key (Ae.mk ([]:Af) ([]:(List Aa)) 0)).fValue)),Ap ((Cw q.fChanged key (Ae.mk ([]:Af) ([]:(List Aa)) 0)).fVersion)] 35,.blk b1 [rS ((Cw q.fChanged key (Ae.mk ([]:Af) ([]:(List Aa)) 0)).fKey),AQ 4 (A8 Ab ((Cw q.fChanged key (Ae.mk ([]:Af) ([]:(List Aa)) 0)).fValue)),Ap ((Cw q.fChanged key (Ae.mk ([]:Af) ([]:(List Aa)) 0)).fVersion)] 35,.blk hd [rv (.map (some ha)),rv (.map (some hb))] 59,.map ha (AY An q.fItems),.map hb (AY An q.fChanged)]) rfl (Am (Av (Ac ?_)))));obtain rfl:=Aw h4;exact Au (BQ Tryz.results58 (GR (i:=1) NO CW rfl rfl rfl)) (sS (sS (sC (sC (sC sN))))) ⟨rfl,rfl⟩
 ·refine Ar (AJ (Ag (wm rfl (wv (A2 rfl) (vF Mi rfl Mk (vL 2 Ml rfl (wm rfl (wv (r:=BK [rS ((Cw q.fItems key (Ae.mk ([]:Af) ([]:(List Aa)) 0)).fKey),AQ 4 (A8 Ab ((Cw q.fItems key (Ae.mk ([]:Af) ([]:(List Aa)) 0)).fValue)),Ap ((Cw q.fItems key (Ae.mk ([]:Af) ([]:(List Aa)) 0)).fVersion)]) (Xz (enc:=An) (xs:=q.fItems) (z:=Ae.mk ([]:Af) ([]:(List Aa)) 0) (i:=3) Mj Ce KP Jb rfl rfl rfl) (Bh (i:=1) CW rfl rfl rfl (BJ.c rfl) rfl rfl (cs':=[rS ((Cw q.fItems key (Ae.mk ([]:Af) ([]:(List Aa)) 0)).fKey),AQ 4 (A8 Ab ((Cw q.fItems key (Ae.mk ([]:Af) ([]:(List Aa)) 0)).fValue)),Ap ((Cw q.fItems key (Ae.mk ([]:Af) ([]:(List Aa)) 0)).fVersion)]) rfl (H':=[.blk b2 [rS ((Cw q.fChanged key (Ae.mk ([]:Af) ([]:(List Aa)) 0)).fKey),AQ 4 (A8 Ab ((Cw q.fChanged key (Ae.mk ([]:Af) ([]:(List Aa)) 0)).fValue)),Ap ((Cw q.fChanged key (Ae.mk ([]:Af) ([]:(List Aa)) 0)).fVersion)] 35,.blk b1 [rS ((Cw q.fItems key (Ae.mk ([]:Af) ([]:(List Aa)) 0)).fKey),AQ 4 (A8 Ab ((Cw q.fItems key (Ae.mk ([]:Af) ([]:(List Aa)) 0)).fValue)),Ap ((Cw q.fItems key (Ae.mk ([]:Af) ([]:(List Aa)) 0)).fVersion)] 35,.blk hd [rv (.map (some ha)),rv (.map (some hb))] 59,.map ha (AY An q.fItems),.map hb (AY An q.fChanged)]) rfl (Am (Av ?_)))))))))));obtain rfl:=Aw h5;exact Au (BQ Tryz.results58 (GR (i:=1) NO CW rfl rfl rfl)) (sS (sS (sC (sC (sC sN))))) ⟨rfl,rfl⟩
theorem VB (hb:Nat)(hd:Nat)(ha:Nat)(q:AM)(c:Ad)(size:Int)(r:Int×Int×AM)(h:Kv q c size=some r):Fn Tryz.prog GE 36 [rP hb 0,BK (Aj c),Ap size] [.blk hb [rv (.map (some hd)),rv (.map (some ha))] 59,.map hd (AY An q.fItems),.map ha (AY An q.fChanged)] (λR H=>R=C2 [Ap r.1,Ap r.2.1]∧H=[.blk hb [rv (.map (some hd)),rv (.map (some ha))] 59,.map hd (AY An r.2.2.fItems),.map ha (AY An r.2.2.fChanged)]):=by
 refine enter (n:=74) Tryz.func36 rfl Tryz.ntmps36 rfl (λw Z=>?_);unfold Kv at h;refine Ag (DR rfl rfl (λb1=>?_));refine wa rfl (wa rfl (Bv (wm rfl (vF DK rfl Cs (vL 0 CU rfl (ob h λr2 e4 h3=>Gt (Hr:=[.blk b1 (Aj c) 50]) Tryz.call58 (Abg hb hd ha q c.fKey r2 e4) rfl ((A4 (i:=1) rfl).trans (AcJ _ ((A4 (i:=1) rfl).trans (AcJ _ ((A4 (i:=1) rfl).trans (AcJ _ (AcI _))))))) rfl ?_))))));rintro _ _ ⟨rfl,rfl⟩;refine BM (cs:=[rS ([]:Af),rv (.slice none 0 0),Ap 0]) KP rfl rfl (λb5=>?_);refine Bh (i:=0) CW rfl rfl rfl (BJ.c rfl) rfl rfl (cs':=[rS r2.1.fKey,AQ 4 (A8 Ab r2.1.fValue),Ap r2.1.fVersion]) rfl (H':=[.blk b5 (Aq r2.1) 35,.blk hb [rv (.map (some hd)),rv (.map (some ha))] 59,.map hd (AY An r2.2.fItems),.map ha (AY An r2.2.fChanged),.blk b1 (Aj c) 50]) rfl (Am (De (S:=(Int)×(Unit)) (λσ=>G4 c r2 σ.1=some r) (λσ=>[(0,rP hb 0),(2,Ap σ.1),(4,rP b1 0),(8,rP b5 0)]) (λσ=>[.blk b5 (Aq r2.1) 35,.blk hb [rv (.map (some hd)),rv (.map (some ha))] 59,.map hd (AY An r2.2.fItems),.map ha (AY An r2.2.fChanged),.blk b1 (Aj c) 50]) ?_ ?_))
 ·refine A9 (AK [(0,rP hb 0),(2,Ap size),(4,rP b1 0),(8,rP b5 0),(13,rB ((decide (0≤c.fIfVersion))&&(!decide (c.fIfVersion=r2.1.fVersion))))] [.blk b5 (Aq r2.1) 35,.blk hb [rv (.map (some hd)),rv (.map (some ha))] 59,.map hd (AY An r2.2.fItems),.map ha (AY An r2.2.fChanged),.blk b1 (Aj c) 50] ?_ ?_)
  ·refine Ah (vF DK rfl Ct (vL 4 CX rfl (wv (H5 rfl rfl) (wm rfl (AS (decide (0≤c.fIfVersion)) (λhe=>?_) (λhe=>?_))))))
   ·refine wo he (vF DK rfl Ct (wo he (vL 4 CX rfl (wo he (vF DX rfl Ct (wo he (vL 0 CX rfl (wo he (wv (CQ rfl rfl) (GC rfl he rfl (wa rfl (Ak ?_))))))))))));exact Cm he
   ·refine wf he (wf he (wf he (wf he (wf he (wv (r:=rB false) (AC rfl he rfl) (wa rfl (Ak ?_)))))));exact Cm he
  refine cz h3 rfl (λhj hk=>?_) (λhj hl=>?_)
  ·refine Ag (wa rfl (wa rfl (Am (Av (Ay (Ac ?_))))));obtain rfl:=Aw hk;exact Au (DC U5 (AG rfl) (AG rfl)) (sS (sC (sC (sC (sS sN))))) ⟨rfl,rfl⟩
  ·refine Ag (vF DK rfl HJ (vL 4 Qg rfl (wa rfl (Am (cz hl rfl (λhm hn=>?_) (λhm ho=>?_))))))
   ·refine Ai (Ag (vF DX rfl Ct (vL 0 CX rfl (wv (C3 rfl rfl) (Am (cz hn rfl (λc37 hp=>?_) (λc37 hq=>?_)))))))
    ·refine Ah (wm rfl (ck hp λhr hs=>wv (MY rfl rfl hr) (wa rfl (Am (Ai (Gc 7 [0,2,4] [⟨[],rP hb 0,none,none,none⟩,⟨[0],rP hb 0,none,none,none⟩,⟨[1],rP hb 1,none,none,none⟩,⟨[2],rv (.map (some ha)),none,none,none⟩,⟨[],rP b1 0,none,none,none⟩,⟨[4],rS c.fKey,none,none,none⟩,⟨[],BK [rS ([]:Af),rv (.slice none 0 0),Ap 0],none,none,none⟩] ?_ (λβ=>?_)))))))
     ·refine Dq (Al rfl) (Dq (A2 rfl) (Dq (AH Mi rfl Mk rfl rfl) (Xs (Bi (i:=1) Ml rfl rfl rfl) (Dq (AH DK rfl Cs rfl rfl) (Xs (Bi (i:=4) CU rfl rfl rfl) (Dq (Lb ) ?_))))));exact Xt
     refine GL (H1:=[.blk b5 (Aq r2.1) 35,.blk hb [rv (.map (some hd)),rv (.map (some ha))] 59,.map hd (AY An r2.2.fItems),.map ha (AY An r2.2.fChanged),.blk b1 (Aj c) 50]) [32,33,34,35,36,37,38,0,2,4] ?_;refine WL.up (d:=38) (r:=BK [rS ([]:Af),AQ 4 (A8 Ab ([]:List Aa)),Ap 0]) rfl (Up.agg ⟨Up.refl _,Up.le (HK.nil _),Up.refl _,trivial⟩) (Ly (enc:=An) (xs:=r2.2.fChanged) (v:=(Ae.mk ([]:Af) ([]:List Aa) 0)) (i:=3) Mj Ce rfl rfl rfl rfl (H':=[.blk b5 (Aq r2.1) 35,.blk hb [rv (.map (some hd)),rv (.map (some ha))] 59,.map hd (AY An r2.2.fItems),.map ha (AY An (mset r2.2.fChanged c.fKey (Ae.mk ([]:Af) ([]:List Aa) 0))),.blk b1 (Aj c) 50]) rfl (Bv (wm rfl (wa rfl (wa rfl (Am (Av (Ay (Ac ?_)))))))));obtain rfl:=Aw hs;exact Au (DC U5 (AG rfl) (AG rfl)) (sS (sC (sC (sC (sS sN))))) ⟨rfl,rfl⟩
    ·refine Ar (AJ (Ai (Gc 7 [0,2,4] [⟨[],rP hb 0,none,none,none⟩,⟨[0],rP hb 0,none,none,none⟩,⟨[1],rP hb 1,none,none,none⟩,⟨[2],rv (.map (some ha)),none,none,none⟩,⟨[],rP b1 0,none,none,none⟩,⟨[4],rS c.fKey,none,none,none⟩,⟨[],BK [rS ([]:Af),rv (.slice none 0 0),Ap 0],none,none,none⟩] ?_ (λβ=>?_))))
     ·refine Dq (Al rfl) (Dq (A2 rfl) (Dq (AH Mi rfl Mk rfl rfl) (Xs (Bi (i:=1) Ml rfl rfl rfl) (Dq (AH DK rfl Cs rfl rfl) (Xs (Bi (i:=4) CU rfl rfl rfl) (Dq (Lb ) ?_))))));exact Xt
     refine GL (H1:=[.blk b5 (Aq r2.1) 35,.blk hb [rv (.map (some hd)),rv (.map (some ha))] 59,.map hd (AY An r2.2.fItems),.map ha (AY An r2.2.fChanged),.blk b1 (Aj c) 50]) [32,33,34,35,36,37,38,0,2,4] ?_;refine WL.up (d:=38) (r:=BK [rS ([]:Af),AQ 4 (A8 Ab ([]:List Aa)),Ap 0]) rfl (Up.agg ⟨Up.refl _,Up.le (HK.nil _),Up.refl _,trivial⟩) (Ly (enc:=An) (xs:=r2.2.fChanged) (v:=(Ae.mk ([]:Af) ([]:List Aa) 0)) (i:=3) Mj Ce rfl rfl rfl rfl (H':=[.blk b5 (Aq r2.1) 35,.blk hb [rv (.map (some hd)),rv (.map (some ha))] 59,.map hd (AY An r2.2.fItems),.map ha (AY An (mset r2.2.fChanged c.fKey (Ae.mk ([]:Af) ([]:List Aa) 0))),.blk b1 (Aj c) 50]) rfl (Bv (wm rfl (wa rfl (wa rfl (Am (Av (Ay (Ac ?_)))))))));obtain rfl:=Aw hq;exact Au (DC U5 (AG rfl) (AG rfl)) (sS (sC (sC (sC (sS sN))))) ⟨rfl,rfl⟩
   ·refine AK [(0,rP hb 0),(2,Ap size),(4,rP b1 0),(8,rP b5 0),(40,rB ((decide (r2.1.fVersion=0))&&(decide (256≤size))))] [.blk b5 (Aq r2.1) 35,.blk hb [rv (.map (some hd)),rv (.map (some ha))] 59,.map hd (AY An r2.2.fItems),.map ha (AY An r2.2.fChanged),.blk b1 (Aj c) 50] ?_ ?_
    ·refine Ah (vF DX rfl Ct (vL 0 CX rfl (wv (B6 rfl rfl) (wm rfl (AS (decide (r2.1.fVersion=0)) (λhf=>?_) (λhf=>?_))))))
     ·refine wo hf (wm rfl (wo hf (wv (H5 rfl rfl) (GC rfl hf rfl (wa rfl (Ak ?_))))));exact Cm hf
     ·refine wf hf (wf hf (wv (r:=rB false) (AC rfl hf rfl) (wa rfl (Ak ?_))));exact Cm hf
    refine cz ho rfl (λht hu=>?_) (λht hw=>?_)
    ·refine Ag (wa rfl (wa rfl (Am (Av (Ay (Ac ?_))))));obtain rfl:=Aw hu;exact Au (DC U5 (AG rfl) (AG rfl)) (sS (sC (sC (sC (sS sN))))) ⟨rfl,rfl⟩
    ·refine Ag (vF DX rfl Ct (vL 0 CX rfl (wv (H5 rfl rfl) (wa rfl (Am (cz hw rfl (λhx hy=>?_) (λhx hz=>?_)))))))
     ·refine Ag (wa rfl (wa rfl (Am (Av (Ay (Ac ?_))))));obtain rfl:=Aw hy;exact Au (DC U5 (AG rfl) (AG rfl)) (sS (sC (sC (sC (sS sN))))) ⟨rfl,rfl⟩
     ·refine Ag (vF DX rfl Ct (vL 0 CX rfl (wv (B6 rfl rfl) (wa rfl (Am (cz hz rfl (λh0 h1=>?_) (λh0 h2=>?_)))))))
      ·exact Ah (wm rfl (ck h1 λh4 h5=>wv (Bk rfl rfl h4) (wa rfl (Ak (AA (Az (A3 (size+1,()) h5 (A6.c rfl (A6.c rfl (A6.c rfl (A6.c rfl A6.nil)))) (sC (sC (sC (sC (sC sN))))))))))))
      ·exact Ar (AA (Az (A3 (size,()) h2 (A6.c rfl (A6.c rfl (A6.c rfl (A6.c rfl A6.nil)))) (sC (sC (sC (sC (sC sN))))))))
 ·rintro⟨hi,⟨⟩⟩ hh;refine BG (l':=[(0,rP hb 0),(2,Ap hi),(4,rP b1 0),(8,rP b5 0)]) (H':=[.blk b5 (Aq r2.1) 35,.blk hb [rv (.map (some hd)),rv (.map (some ha))] 59,.map hd (AY An r2.2.fItems),.map ha (AY An r2.2.fChanged),.blk b1 (Aj c) 50]) rfl rfl ?_;replace hh:G4 c r2 hi=some r:=hh;unfold G4 at hh;refine Ai (ob hh λhg h6 h7=>ck h7 λh8 h9=>Gc 15 [0,2,4,8] [⟨[],rP hb 0,none,none,none⟩,⟨[0],rP hb 0,none,none,none⟩,⟨[1],rP hb 1,none,none,none⟩,⟨[2],rv (.map (some ha)),none,none,none⟩,⟨[],rP b1 0,none,none,none⟩,⟨[4],rS c.fKey,none,none,none⟩,⟨[],rP b1 0,none,none,none⟩,⟨[6],rS c.fKey,none,none,none⟩,⟨[],rP b1 2,none,none,none⟩,⟨[8],AQ 4 (A8 Ab c.fValue),none,none,none⟩,⟨[9],AQ 4 (A8 Ab hg),none,none,none⟩,⟨[],rP b5 2,none,none,none⟩,⟨[11],Ap r2.1.fVersion,none,none,none⟩,⟨[12],Ap (r2.1.fVersion+1),none,none,none⟩,⟨[7,10,13],BK [rS c.fKey,AQ 4 (A8 Ab hg),Ap (r2.1.fVersion+1)],none,none,none⟩] ?_ (λβ=>?_))
  ·refine Dq (Al rfl) (Dq (A2 rfl) (Dq (AH Mi rfl Mk rfl rfl) (Xs (Bi (i:=1) Ml rfl rfl rfl) (Dq (AH DK rfl Cs rfl rfl) (Xs (Bi (i:=4) CU rfl rfl rfl) (Dq (AH DK rfl Cs rfl rfl) (Xs (Bi (i:=4) CU rfl rfl rfl) (Dq (AH DK rfl CO rfl rfl) (Xs (Bi (i:=4) EL rfl rfl rfl) (oac (HP Tryz.call59 (S4 c.fValue hg h6) rfl) (Dq (AH DX rfl Ct rfl rfl) (Xs (Bi (i:=0) CX rfl rfl rfl) (Dq (Bk rfl rfl h8) (Dq (Jq rfl rfl rfl rfl rfl rfl) ?_))))))))))))));exact Xt
  refine GL (H1:=[.blk b5 (Aq r2.1) 35,.blk hb [rv (.map (some hd)),rv (.map (some ha))] 59,.map hd (AY An r2.2.fItems),.map ha (AY An r2.2.fChanged),.blk b1 (Aj c) 50]) [58,59,60,61,62,63,64,65,66,67,68,69,70,71,72,0,2,4,8] ?_;refine Ly (enc:=An) (xs:=r2.2.fChanged) (v:=(Ae.mk c.fKey hg (r2.1.fVersion+1))) (i:=3) Mj Ce rfl rfl rfl rfl (H':=[.blk b5 (Aq r2.1) 35,.blk hb [rv (.map (some hd)),rv (.map (some ha))] 59,.map hd (AY An r2.2.fItems),.map ha (AY An (mset r2.2.fChanged c.fKey (Ae.mk c.fKey hg (r2.1.fVersion+1)))),.blk b1 (Aj c) 50]) rfl (Bv (wm rfl (wa rfl (wa rfl (Am (Av ?_))))));obtain rfl:=Aw h9;exact Au (DC U5 (AG rfl) (AG rfl)) (sS (sC (sC (sC (sS sN))))) ⟨rfl,rfl⟩
theorem IF (F:Nat)(hd:Nat)(ha:Nat)(hb:Nat)(q:AM)(l:(List Ad))(r:Int×AM)(h:Ih F q l=some r):Fn Tryz.prog GE 13 [rP hd 0,AQ 4 (A8 Aj l)] [.blk hd [rv (.map (some ha)),rv (.map (some hb))] 59,.map ha (AY An q.fItems),.map hb (AY An q.fChanged)] (λR H=>R=Ap r.1∧H=[.blk hd [rv (.map (some ha)),rv (.map (some hb))] 59,.map ha (AY An r.2.fItems),.map hb (AY An r.2.fChanged)]):=by
 refine enter (n:=72) Tryz.func13 rfl Tryz.ntmps13 rfl (λw Z=>?_);unfold Ih at h;refine Ag (wa rfl (Am (Ai (Ag (wm rfl (ob h λr1 e3 h2=>Gt (Hr:=[]) Tryz.call34 (N9 hd ha hb q r1 e3) rfl (AcI _) rfl ?_))))));rintro _ _ ⟨rfl,rfl⟩;refine wv (Ci rfl) (Am (cz h2 rfl (λc4 h5=>?_) (λc4 h6=>?_)))
 ·refine Ag (wa rfl (Am (Av (Ac ?_))));obtain rfl:=Aw h5;exact Au (BQ Zi (AG rfl)) (sC (sC (sC sN))) ⟨rfl,rfl⟩
 ·refine Ar (AJ (Ai (Ag (wm rfl (ob h6 λr7 e9 h8=>CG Tryz.call35 (OB F l r7 e9) rfl (wa rfl (Bv (wm rfl (wv (CQ rfl rfl) (Am (cz h8 rfl (λh9 hA=>?_) (λh9 hB=>?_))))))))))))
  ·refine Ag (wm rfl (wa rfl (Am (Av (Ac ?_)))));obtain rfl:=Aw hA;exact Au (BQ Zi (AG rfl)) (sC (sC (sC sN))) ⟨rfl,rfl⟩
  ·refine Ar (AJ (Ag (wm rfl (wv (A2 rfl) (vF Mi rfl Mk (vL 0 Ml rfl (W2 (i:=2) Mj rfl rfl (H':=[.blk hd [rv (.map (some ha)),rv (.map (some hb))] 59,.map ha (AY An r1.2.fItems),.map hb (AY An ([]:List (Af×Ae)))]) rfl (Bv (wm rfl (wv (A2 rfl) (vF Mi rfl Mk (vL 0 Ml rfl (wv (r:=Ap (r1.2.fItems.length:Int)) (Xy (N:=r1.2.fItems.length) (i:=1) Mj rfl rfl (JK _ _)) (wa rfl (Am (Ai (Ag (wm rfl (wv (Be (ys:=l) (enc:=Aj) E4 rfl) (wv (r:=Ap 0) (Al rfl) (Am (A9 (ob hB λhC hD hz=>?_)))))))))))))))))))))));refine Bg (S:=Nat×(Int×Int×(List (Af×Ae))×(List (Af×Ae)))×(Unit)) (V:=((List (Af×Ae))×(List (Af×Ae)))×(Unit)) 0 (λσ=>B7 (λσ=>E0 l σ.1 σ.2.1 σ.2.2.1 σ.2.2.2) σ.1 σ.2.1=some hC) (λσ=>[(0,rP hd 0),(4,Ap 0),(6,Ap σ.2.1.1),(30,AQ 4 (A8 Aj l)),(31,Ap (l.length:Int)),(32,Ap σ.2.1.2.1)]) (λσ=>[.blk hd [rv (.map (some ha)),rv (.map (some hb))] 59,.map ha (AY An σ.2.1.2.2.1),.map hb (AY An σ.2.1.2.2.2)]) (λσ=>σ.1) (F,((r1.2.fItems.length:Int),0,r1.2.fItems,([]:List (Af×Ae))),()) hD (A6.c rfl (A6.c5 rfl rfl rfl rfl rfl A6.nil)) (sC (sC (sC sN))) (λσ=>G5 σ.1.1 σ.1.2=some r) (λσ=>[(0,rP hd 0),(4,Ap 0)]) (λσ=>[.blk hd [rv (.map (some ha)),rv (.map (some hb))] 59,.map ha (AY An σ.1.1),.map hb (AY An σ.1.2)]) ?_ ?_
   ·rintro⟨gf,⟨ht,hj,hl,hm⟩,⟨⟩⟩ hE;refine BG (l':=[(0,rP hd 0),(4,Ap 0),(6,Ap ht),(30,AQ 4 (A8 Aj l)),(31,Ap (l.length:Int)),(32,Ap hj)]) (H':=[.blk hd [rv (.map (some ha)),rv (.map (some hb))] 59,.map ha (AY An hl),.map hb (AY An hm)]) rfl rfl ?_;obtain⟨hG,rfl,hH,hn,hu⟩:=BZ hE;replace hn:E0 l ht hj hl hm=some hH:=hn;unfold E0 at hn;refine Ag (wv (Cj rfl rfl) (Am (Ai (cz hn rfl (λhI hJ=>?_) (λhI hK=>?_)))))
    ·refine Ar (AJ (Ai (A9 (Ag (ck hJ λhL hN=>wv (Bb (enc:=Aj) (ys:=l) E4 CV rfl rfl hL) (wv (Dc J3 CV rfl rfl rfl) (BM (cs:=[rS ([]:Af),rB false,rv (.slice none 0 0),Ap 0]) J1 rfl rfl (λh0=>?_))))))));refine Bh (i:=0) CV rfl rfl rfl (BJ.c rfl) rfl rfl (cs':=[rS ((Ao l hj).fKey),rB ((Ao l hj).fDelete),AQ 4 (A8 Ab ((Ao l hj).fValue)),Ap ((Ao l hj).fIfVersion)]) rfl (H':=[.blk h0 (Aj (Ao l hj)) 50,.blk hd [rv (.map (some ha)),rv (.map (some hb))] 59,.map ha (AY An hl),.map hb (AY An hm)]) rfl (Bv (wm rfl (wv (BC (i:=0) J3 CV rfl rfl rfl rfl) (wm rfl (ob hN λho hO hP=>Gt (Hr:=[.blk h0 (Aj (Ao l hj)) 50]) Tryz.call36 (VB hd ha hb (AM.mk hl hm) (Ao l hj) ht ho hO) rfl ((A4 (i:=1) rfl).trans (AcJ _ ((A4 (i:=1) rfl).trans (AcJ _ ((A4 (i:=1) rfl).trans (AcJ _ (AcI _))))))) rfl ?_)))));rintro _ _ ⟨rfl,rfl⟩;refine wm rfl (wv (AE rfl rfl) (wv (AE rfl rfl) (wa rfl (wa rfl (Am (Ai (Ag (wm rfl (wv (CQ rfl rfl) (Am (cz hP rfl (λc80 hQ=>?_) (λc80 hR=>?_))))))))))))
     ·refine Ag (wm rfl (wa rfl (Am (Av (Ac (Ay (Ac (Ac (AR ?_)))))))));have hS:=Bo hQ hu hz;refine Ay (Ac ?_);obtain rfl:=Aw hS;exact Au (BQ Zi (AG rfl)) (sC (sC (sC (sS sN)))) ⟨rfl,rfl⟩
     ·refine Ar (AJ (Ah (wm rfl (wa rfl (Ak (AA (AJ (Ah (ck hR λhT hU=>wv (Bk rfl rfl hT) (wm rfl (Ak ?_)))))))))));have hV:=Ba hU hu;exact Az (A3 (hG,(ho.1,hj+1,ho.2.2.fItems,ho.2.2.fChanged),()) ⟨hV,AcM _⟩ (A6.c rfl (A6.c5 rfl rfl rfl rfl rfl A6.nil)) (sC (sC (sC (sS sN)))))
    ·refine Bl (As ?_);have hW:=BB hK hu hz;exact As (AV (A3 ((hl,hm),()) hW (A6.c rfl (A6.c rfl A6.nil)) (sC (sC (sC sN)))))
   ·rintro⟨⟨hw,hf⟩,⟨⟩⟩ hp;refine Cb (l':=[(0,rP hd 0),(4,Ap 0)]) (H':=[.blk hd [rv (.map (some ha)),rv (.map (some hb))] 59,.map ha (AY An hw),.map hb (AY An hf)]) rfl rfl ?_;replace hp:G5 hw hf=some r:=hp;unfold G5 at hp;refine AW (AJ (Ai (Ag (wm rfl (wv (A2 rfl) (vF Mi rfl Mk (vL 0 Ml rfl (Zl (i:=2) Mj rfl rfl rfl (λhi=>?_)))))))));refine Am (A9 ?_);have hX:=AaX hp;refine Bg (S:=(List (Af×Ae))×((List (Af×Ae)))×(Unit)) (V:=((List (Af×Ae)))×(Unit)) 2 (λσ=>∀q:List (Af×Ae),q.Perm σ.1→Br (V3 (λp τ=>Hl p.1 p.2 τ) q σ.2.1) (B5 λν=>Hk hf ν)=some r) (λσ=>[(0,rP hd 0),(52,rP hi 0)]) (λσ=>[.blk hd [rv (.map (some ha)),rv (.map (some hb))] 59,.map ha (AY An σ.2.1),.mit hb hi (AY An hf) (AY An σ.1) none]) (λσ=>σ.1.length) (hf,hw,()) hX (A6.c rfl (A6.c rfl A6.nil)) (sC (sC (sC sN))) (λσ=>Hk hf σ.1=some r) (λσ=>[(0,rP hd 0),(52,rP hi 0)]) (λσ=>[.blk hd [rv (.map (some ha)),rv (.map (some hb))] 59,.map ha (AY An σ.1),.map hb (AY An hf)]) ?_ ?_
    ·rintro⟨h1,hg,⟨⟩⟩ h3;refine BG (l':=[(0,rP hd 0),(52,rP hi 0)]) (H':=[.blk hd [rv (.map (some ha)),rv (.map (some hb))] 59,.map ha (AY An hg),.mit hb hi (AY An hf) (AY An h1) none]) rfl rfl (Ag (AaH (enc:=An) (ys:=h1) (i:=2) rfl rfl rfl (λhy=>?_) (λp hk hx=>?_)))
     ·have hY:Hk hf hg=some r:=ZH h3 hy;exact wv (AE rfl rfl) (Am (Ai (DQ rfl rfl (Bl (As (WK.unmit (i:=2) rfl (As (AV (A3 (hg,()) hY (A6.c rfl (A6.c rfl A6.nil)) (sC (sC (sC sN))))))))))))
     ·obtain⟨hh,he⟩:=p;obtain⟨hZ,hq,h4⟩:=AbJ h3 hx;replace hq:Hl hh he hg=some hZ:=hq;unfold Hl at hq;refine AaE (H':=[.blk hd [rv (.map (some ha)),rv (.map (some hb))] 59,.map ha (AY An hg),.mit hb hi (AY An hf) (AY An hk) (some (hh,An he))]) rfl (wv (AE rfl rfl) (Am (Ai (Gx rfl rfl (Ar (AJ (A9 (Ag (wv (r:=C2 [rS hh,BK (Aq he)]) (Z9 (i:=2) rfl rfl) (wv (AE rfl rfl) (wv (AE rfl rfl) (BM (cs:=[rS ([]:Af),rv (.slice none 0 0),Ap 0]) KP rfl rfl (λhr=>?_)))))))))))));refine wa rfl (Bh (i:=0) CW rfl rfl rfl (BJ.c rfl) rfl rfl (cs':=[rS he.fKey,AQ 4 (A8 Ab he.fValue),Ap he.fVersion]) rfl (H':=[.blk hr (Aq he) 35,.blk hd [rv (.map (some ha)),rv (.map (some hb))] 59,.map ha (AY An hg),.mit hb hi (AY An hf) (AY An hk) (some (hh,An he))]) rfl (Am (Ai (Ag (vF DX rfl Ct (vL 0 CX rfl (wv (B6 rfl rfl) (Am (cz hq rfl (λga gb=>?_) (λga gc=>?_))))))))))
      ·refine Ag (wm rfl (wv (A2 rfl) (vF Mi rfl Mk (vL 1 Ml rfl (wm rfl (Zs (enc:=An) (xs:=hg) (i:=2) Mj Ce rfl rfl rfl (H':=[.blk hr (Aq he) 35,.blk hd [rv (.map (some ha)),rv (.map (some hb))] 59,.map ha (AY An (mdel hg hh)),.mit hb hi (AY An hf) (AY An hk) (some (hh,An he))]) rfl (Am (Bl (As (AW (WK.uncur (i:=3) rfl ?_)))))))))));have gd:=PF gb h4;exact Az (A3 (hk,mdel hg hh,()) ⟨gd,TO hx⟩ (A6.c rfl (A6.c rfl A6.nil)) (sS (sC (sC (sC sN)))))
      ·refine Ar (AJ (Gc 6 [0,11,12,52] [⟨[],rP hd 0,none,none,none⟩,⟨[0],rP hd 0,none,none,none⟩,⟨[1],rP hd 0,none,none,none⟩,⟨[2],rv (.map (some ha)),none,none,none⟩,⟨[],rS hh,none,none,none⟩,⟨[],BK (Aq he),none,none,none⟩] ?_ (λβ=>?_)))
       ·refine Dq (Al rfl) (Dq (A2 rfl) (Dq (AH Mi rfl Mk rfl rfl) (Xs (Bi (i:=1) Ml rfl rfl rfl) (Dq (Al rfl) (Xs (BC (i:=0) NO CW rfl rfl rfl rfl) ?_)))));exact Xt
       refine GL (H1:=[.blk hr (Aq he) 35,.blk hd [rv (.map (some ha)),rv (.map (some hb))] 59,.map ha (AY An hg),.mit hb hi (AY An hf) (AY An hk) (some (hh,An he))]) [66,67,68,69,70,71,0,11,12,52] ?_;refine Ly (enc:=An) (xs:=hg) (v:=he) (i:=2) Mj Ce rfl rfl rfl rfl (H':=[.blk hr (Aq he) 35,.blk hd [rv (.map (some ha)),rv (.map (some hb))] 59,.map ha (AY An (mset hg hh he)),.mit hb hi (AY An hf) (AY An hk) (some (hh,An he))]) rfl (Ak (AA (WK.uncur (i:=3) rfl ?_)));have ge:=PF gc h4;exact Az (A3 (hk,mset hg hh he,()) ⟨ge,TO hx⟩ (A6.c rfl (A6.c rfl A6.nil)) (sS (sC (sC (sC sN)))))
    ·rintro⟨h7,⟨⟩⟩ hs;refine Cb (l':=[(0,rP hd 0),(52,rP hi 0)]) (H':=[.blk hd [rv (.map (some ha)),rv (.map (some hb))] 59,.map ha (AY An h7),.map hb (AY An hf)]) rfl rfl ?_;replace hs:Hk hf h7=some r:=hs;unfold Hk at hs;refine AW (AJ (Ag (wa rfl (Am (Av ?_)))));obtain rfl:=Aw hs;exact Au (BQ Zi (AG rfl)) (sC (sC (sC sN))) ⟨rfl,rfl⟩
theorem Abf (x:Ae)(r:Ae)(h:ZN x=some r):Fn Tryz.prog GE 39 [BK (Aq x)] [] (λR H=>R=BK (Aq r)∧H=[]):=by
 refine enter (n:=8) Tryz.func39 rfl Tryz.ntmps39 rfl (λw Z=>?_);unfold ZN at h;refine Ag (DR rfl rfl (λb1=>?_));refine BM (cs:=[rS ([]:Af),rv (.slice none 0 0),Ap 0]) KP rfl rfl (λb2=>?_);refine Bv (vF DX rfl CO (vL 1 EL rfl (ob h λr3 e5 h4=>CG Tryz.call59 (S4 x.fValue r3 e5) rfl (vF DX rfl CO (BI (i:=1) CO rfl rfl (C0 rfl) rfl rfl (cs':=[rS x.fKey,AQ 4 (A8 Ab r3),Ap x.fVersion]) rfl (H':=[.blk b2 [rS ([]:Af),rv (.slice none 0 0),Ap 0] 35,.blk b1 [rS x.fKey,AQ 4 (A8 Ab r3),Ap x.fVersion] 35]) rfl (Bv (wv (BC (i:=1) NO CW rfl rfl rfl rfl) (Bh (i:=0) CW rfl rfl rfl (BJ.c rfl) rfl rfl (cs':=[rS x.fKey,AQ 4 (A8 Ab r3),Ap x.fVersion]) rfl (H':=[.blk b2 [rS x.fKey,AQ 4 (A8 Ab r3),Ap x.fVersion] 35,.blk b1 [rS x.fKey,AQ 4 (A8 Ab r3),Ap x.fVersion] 35]) rfl (Am (Av ?_))))))))));obtain rfl:=Aw h4;exact Au (BQ Tryz.results39 (GR (i:=0) NO CW rfl rfl rfl)) (sS (sS sN)) ⟨rfl,rfl⟩
theorem XS (hd:Nat)(ha:Nat)(hb:Nat)(q:AM)(key:Af)(r:Ae×Bool×AM)(h:V9 q key=some r):Fn Tryz.prog GE 17 [rP hd 0,rS key] [.blk hd [rv (.map (some ha)),rv (.map (some hb))] 59,.map ha (AY An q.fItems),.map hb (AY An q.fChanged)] (λR H=>R=C2 [BK (Aq r.1),rB r.2.1]∧H=[.blk hd [rv (.map (some ha)),rv (.map (some hb))] 59,.map ha (AY An r.2.2.fItems),.map hb (AY An r.2.2.fChanged)]):=by
 refine enter (n:=24) Tryz.func17 rfl Tryz.ntmps17 rfl (λw Z=>?_);unfold V9 at h;refine Ag (BM (cs:=[rS ([]:Af),rv (.slice none 0 0),Ap 0]) KP rfl rfl (λb1=>?_));refine wa rfl (Am (Ai (Ag (wm rfl (ob h λr2 e4 h3=>Gt (Hr:=[.blk b1 [rS ([]:Af),rv (.slice none 0 0),Ap 0] 35]) Tryz.call34 (N9 hd ha hb q r2 e4) rfl ((A4 (i:=1) rfl).trans (AcJ _ ((A4 (i:=1) rfl).trans (AcJ _ ((A4 (i:=1) rfl).trans (AcJ _ (AcI _))))))) rfl ?_)))));rintro _ _ ⟨rfl,rfl⟩;refine wv (Ci rfl) (Am (cz h3 rfl (λc5 h6=>?_) (λc5 h7=>?_)))
 ·refine Ag (wv (r:=BK [rS ([]:Af),rv (.slice none 0 0),Ap 0]) (Lb ) (Bh (i:=3) CW rfl rfl rfl (BJ.c rfl) rfl rfl (cs':=[rS ([]:Af),rv (.slice none 0 0),Ap 0]) rfl (H':=[.blk hd [rv (.map (some ha)),rv (.map (some hb))] 59,.map ha (AY An r2.2.fItems),.map hb (AY An r2.2.fChanged),.blk b1 [rS ([]:Af),rv (.slice none 0 0),Ap 0] 35]) rfl (wa rfl (Am (Av (Ac (WK.upBlk (i:=3) (cs':=[rS ([]:Af),AQ 4 (A8 Ab ([]:List Aa)),Ap 0]) rfl ⟨Up.refl _,Up.le (HK.nil _),Up.refl _,trivial⟩ ?_)))))));obtain rfl:=Aw h6;exact Au (DC Tryz.results17 (GR (i:=3) NO CW rfl rfl rfl) (AG rfl)) (sC (sC (sC (sS sN)))) ⟨rfl,rfl⟩
 ·refine Ar (AJ (Ag (wm rfl (wv (A2 rfl) (vF Mi rfl Mk (vL 0 Ml rfl (wm rfl (wv (r:=C2 [BK [rS ((Cw r2.2.fItems key (Ae.mk ([]:Af) ([]:(List Aa)) 0)).fKey),AQ 4 (A8 Ab ((Cw r2.2.fItems key (Ae.mk ([]:Af) ([]:(List Aa)) 0)).fValue)),Ap ((Cw r2.2.fItems key (Ae.mk ([]:Af) ([]:(List Aa)) 0)).fVersion)],rB (Cp r2.2.fItems key)]) (TU (enc:=An) (xs:=r2.2.fItems) (z:=Ae.mk ([]:Af) ([]:(List Aa)) 0) (i:=1) Mj Ce KP Jb rfl rfl rfl) (wm rfl (wv (AE rfl rfl) (wv (AE rfl rfl) (BM (cs:=[rS ([]:Af),rv (.slice none 0 0),Ap 0]) KP rfl rfl (λb8=>?_)))))))))))));refine Bh (i:=0) CW rfl rfl rfl (BJ.c rfl) rfl rfl (cs':=[rS ((Cw r2.2.fItems key (Ae.mk ([]:Af) ([]:(List Aa)) 0)).fKey),AQ 4 (A8 Ab ((Cw r2.2.fItems key (Ae.mk ([]:Af) ([]:(List Aa)) 0)).fValue)),Ap ((Cw r2.2.fItems key (Ae.mk ([]:Af) ([]:(List Aa)) 0)).fVersion)]) rfl (H':=[.blk b8 [rS ((Cw r2.2.fItems key (Ae.mk ([]:Af) ([]:(List Aa)) 0)).fKey),AQ 4 (A8 Ab ((Cw r2.2.fItems key (Ae.mk ([]:Af) ([]:(List Aa)) 0)).fValue)),Ap ((Cw r2.2.fItems key (Ae.mk ([]:Af) ([]:(List Aa)) 0)).fVersion)] 35,.blk hd [rv (.map (some ha)),rv (.map (some hb))] 59,.map ha (AY An r2.2.fItems),.map hb (AY An r2.2.fChanged),.blk b1 [rS ([]:Af),rv (.slice none 0 0),Ap 0] 35]) rfl (wa rfl (Bv (wv (BC (i:=0) NO CW rfl rfl rfl rfl) (ob h7 λr9 he hf=>CG Tryz.call39 (Abf (Cw r2.2.fItems key (Ae.mk ([]:Af) ([]:(List Aa)) 0)) r9 he) rfl (wm rfl (Bh (i:=4) CW rfl rfl rfl (BJ.c rfl) rfl rfl (cs':=[rS r9.fKey,AQ 4 (A8 Ab r9.fValue),Ap r9.fVersion]) rfl (H':=[.blk b8 [rS ((Cw r2.2.fItems key (Ae.mk ([]:Af) ([]:(List Aa)) 0)).fKey),AQ 4 (A8 Ab ((Cw r2.2.fItems key (Ae.mk ([]:Af) ([]:(List Aa)) 0)).fValue)),Ap ((Cw r2.2.fItems key (Ae.mk ([]:Af) ([]:(List Aa)) 0)).fVersion)] 35,.blk hd [rv (.map (some ha)),rv (.map (some hb))] 59,.map ha (AY An r2.2.fItems),.map hb (AY An r2.2.fChanged),.blk b1 (Aq r9) 35]) rfl (wa rfl (Am (Av ?_)))))))));obtain rfl:=Aw hf;exact Au (DC Tryz.results17 (GR (i:=4) NO CW rfl rfl rfl) (AG rfl)) (sS (sC (sC (sC (sS sN))))) ⟨rfl,rfl⟩
theorem Tm (hd:Nat)(ha:Nat)(hb:Nat)(q:AM)(r:Int×AM)(h:V8 q=some r):Fn Tryz.prog GE 15 [rP hd 0] [.blk hd [rv (.map (some ha)),rv (.map (some hb))] 59,.map ha (AY An q.fItems),.map hb (AY An q.fChanged)] (λR H=>R=Ap r.1∧H=[.blk hd [rv (.map (some ha)),rv (.map (some hb))] 59,.map ha (AY An r.2.fItems),.map hb (AY An r.2.fChanged)]):=by
 refine enter (n:=11) Tryz.func15 rfl Tryz.ntmps15 rfl (λw Z=>?_);unfold V8 at h;refine Ag (wa rfl (Am (Ai (Ag (wm rfl (ob h λr1 e3 h2=>Gt (Hr:=[]) Tryz.call34 (N9 hd ha hb q r1 e3) rfl (AcI _) rfl ?_))))));rintro _ _ ⟨rfl,rfl⟩;refine wv (Ci rfl) (Am (cz h2 rfl (λc4 h5=>?_) (λc4 h6=>?_)))
 ·refine Ag (wa rfl (Am (Av (Ac ?_))));obtain rfl:=Aw h5;exact Au (BQ Tryz.results15 (AG rfl)) (sC (sC (sC sN))) ⟨rfl,rfl⟩
 ·refine Ar (AJ (Ag (wm rfl (wv (A2 rfl) (vF Mi rfl Mk (vL 0 Ml rfl (wv (r:=Ap (r1.2.fItems.length:Int)) (Xy (N:=r1.2.fItems.length) (i:=1) Mj rfl rfl (JK _ _)) (wa rfl (Am (Av ?_))))))))));obtain rfl:=Aw h6;exact Au (BQ Tryz.results15 (AG rfl)) (sC (sC (sC sN))) ⟨rfl,rfl⟩
end Go.Proofs.YtjfnokmpfekniaaGreatDoor.Q
namespace Go.Proofs.YtjfnokmpfekniaaGreatDoor
open Go
set_option linter.unusedVariables false
def D5 (l:(List Ad))(hb:Int)(ha:Int):Option (Stp (Int) (Out (Stp (Int) (Out (Bool) (Unit))) (Int×Bool))):=
 Bf (decide (ha<(((Ao l hb).fValue).length:Int))) (AX (CJ ha (((Ao l hb).fValue).length:Int))<|Bf (decide (5000<(((Ao ((Ao l hb).fValue) ha).fStr).length:Int))) (some (.out (.ret (.out (.ret false))))) (AX (B9 .i64 (ha+1))<|some (.next (ha+1)))) (some (.out (.go (ha,decide (ha<(((Ao l hb).fValue).length:Int))))))
def Hj (ha:Int)(hb:Int)(hd:Bool):Option (Stp (Int) (Out (Bool) (Unit))):=
 AX (B9 .i64 (ha+1))<|some (.next (ha+1))
def Dn (F:Nat)(l:(List Ad))(ha:Int):Option (Stp (Int) (Out (Bool) (Unit))):=
 Bf (decide (ha<(l.length:Int))) (AX (CJ ha (l.length:Int))<|Bf (((decide (300<(((Ao l ha).fKey).length:Int)))||(decide (300<(((Ao l ha).fValue).length:Int))))) (some (.out (.ret false))) (Br (B7 (λσ=>D5 l ha σ) F 0) (B5 λν=>Hj ha ν.1 ν.2))) (some (.out (.go ())))
def Kt :Option (Bool):=
 some true
def O7 (F:Nat)(l:(List Ad)):Option (Bool):=
 Bf (decide (300<(l.length:Int))) (some false) (Br (B7 (λσ=>Dn F l σ) F 0) (B5 λν=>Kt ))
def Tk (n:Int)(version:Int):Option (Ad):=
 some (Ad.mk ([107]:Af) false ([(Aa.mk 3 n ([]:Af) 0)]:List Aa) version)
def Ky :Option (Stp (Unit) (Out (Af×Int) (Unit))):=
 some (.out (.go ()))
def Kx :Option (Af×Int):=
 some (([]:Af),0)
def Tu (F:Nat) :Option (Af×Int):=
 Br (B7 (λσ=>Ky ) F ()) (B5 λν=>Kx )
def HT :Option (Stp (Unit) (Out (Af×Int) (Unit))):=
 some (.out (.go ()))
def HS (F:Nat):Option (Af×Int):=
 Br (Tu F) λha=>some (ha.1,ha.2)
def OE (F:Nat) :Option (Af×Int):=
 Br (HA F ([]:List Ad)) λr1=>Bf (!decide (r1=0)) (some (([]:Af),r1)) (Br (B7 (λσ=>HT ) F ()) (B5 λν=>HS F ))
def Lc (F:Nat) :Option (Bool):=
 Br (XR) λr1=>Br (Tk 1 0) λr7=>Br (Tk 2 0) λhj=>Br (Ih F r1 ([r7,hj]:List Ad)) λhb=>AX (!(!decide (hb.1=19)))<|Br (V8 hb.2) λhd=>AX (!(!decide (hd.1=0)))<|Br (Tk 5 0) λhk=>Br (Ih F hd.2 ([hk]:List Ad)) λhe=>Br (Tk 5 0) λhl=>Br (Ih F he.2 ([hl]:List Ad)) λhf=>Br (Tk 6 1) λhm=>Br (Ih F hf.2 ([hm]:List Ad)) λhg=>Br (V9 hg.2 ([107]:Af)) λha=>Br (Ih F ha.2.2 ([(Ad.mk ([107]:Af) true ([]:List Aa) 2)]:List Ad)) λhh=>Br (OE F) λhi=>AX (decide (he.1=0))<|AX (decide (hf.1=19))<|AX (decide (hg.1=0))<|AX (ha.2.1)<|AX (decide (ha.1.fVersion=2))<|AX (decide (hh.1=0))<|Br (V8 hh.2) λhn=>AX (decide (hn.1=0))<|AX (decide (hi.1=([]:Af)))<|some (decide (hi.2=0))
end Go.Proofs.YtjfnokmpfekniaaGreatDoor
namespace Go.Proofs.YtjfnokmpfekniaaGreatDoor.Q
open Go Go.RowKit
set_option linter.unusedVariables false
set_option linter.unusedSimpArgs false
set_option maxRecDepth 100000
set_option maxHeartbeats 4000000
theorem NF (parts:List (Nat×Value)):Tryz.prog.built 50 parts=Instr.fill (λi=>(#[(0,1),(1,1),(2,1),(3,1)]:Array (Nat×Nat))[i]?) #[(.string ⟨#[]⟩),(.bool false),((.slice none 0 0)),(.int .i64 0)] parts:=by kernel_rfl
theorem Jp {n:Nat}{c:Cx}{l:Fr}{H:List Ent}{d:Option Nat}{ty:TypeId}{pos:String}{af:Array Edge}{g:Option (Nat×Bool)}{x0:Operand}{r0:Rp}(h0:ev l x0=some r0)(u0:r0.one=true){x1:Operand}{r1:Rp}(h1:ev l x1=some r1)(u1:r1.one=true){x3:Operand}{r3:Rp}(h3:ev l x3=some r3)(u3:r3.one=true):Bn Tryz.prog n c l H { dst:=d,op:=.build 50 #[(0,x0),(1,x1),(3,x3)],type:=ty,pos:=pos,after:=af,guard:=g } (BK [r0,r1,rv (.slice none 0 0),r3]):=λa w Z ha _=>by
  have p0:=ha.ev h0;have c0:=BA (r0.hone u0 Z _ p0);have p1:=ha.ev h1;have c1:=BA (r1.hone u1 Z _ p1);have p3:=ha.ev h3;have c3:=BA (r3.hone u3 Z _ p3);have hb:Tryz.prog.built 50 [(0,a.eval x0),(1,a.eval x1),(3,a.eval x3)]=some #[a.eval x0,a.eval x1,((.slice none 0 0)),a.eval x3]:=by
    rw[NF];generalize a.eval x0=v0 at *;generalize a.eval x1=v1 at *;generalize a.eval x3=v3 at *;simp[Instr.fill,c0,c1,c3]
  refine⟨.agg #[a.eval x0,a.eval x1,((.slice none 0 0)),a.eval x3],⟨[a.eval x0,a.eval x1,((.slice none 0 0)),a.eval x3],rfl,p0,p1,rfl,p3,trivial⟩,?_⟩;have:=run_build w 50 #[(0,a.eval x0),(1,a.eval x1),(3,a.eval x3)] _ (by simpa using hb);simp[execOp,this]
theorem Np {n:Nat}{c:Cx}{l:Fr}{H:List Ent}{d:Option Nat}{ty:TypeId}{pos:String}{af:Array Edge}{g:Option (Nat×Bool)}{x0:Operand}{r0:Rp}(h0:ev l x0=some r0)(u0:r0.one=true){x2:Operand}{r2:Rp}(h2:ev l x2=some r2)(u2:r2.one=true){x3:Operand}{r3:Rp}(h3:ev l x3=some r3)(u3:r3.one=true):Bn Tryz.prog n c l H { dst:=d,op:=.build 50 #[(0,x0),(2,x2),(3,x3)],type:=ty,pos:=pos,after:=af,guard:=g } (BK [r0,rB false,r2,r3]):=λa w Z ha _=>by
  have p0:=ha.ev h0;have c0:=BA (r0.hone u0 Z _ p0);have p2:=ha.ev h2;have c2:=BA (r2.hone u2 Z _ p2);have p3:=ha.ev h3;have c3:=BA (r3.hone u3 Z _ p3);have hb:Tryz.prog.built 50 [(0,a.eval x0),(2,a.eval x2),(3,a.eval x3)]=some #[a.eval x0,(.bool false),a.eval x2,a.eval x3]:=by
    rw[NF];generalize a.eval x0=v0 at *;generalize a.eval x2=v2 at *;generalize a.eval x3=v3 at *;simp[Instr.fill,c0,c2,c3]
  refine⟨.agg #[a.eval x0,(.bool false),a.eval x2,a.eval x3],⟨[a.eval x0,(.bool false),a.eval x2,a.eval x3],rfl,p0,rfl,p2,p3,trivial⟩,?_⟩;have:=run_build w 50 #[(0,a.eval x0),(2,a.eval x2),(3,a.eval x3)] _ (by simpa using hb);simp[execOp,this]
theorem XJ (F:Nat)(l:(List Ad))(r:Bool)(h:O7 F l=some r):Fn Tryz.prog GE 22 [AQ 4 (A8 Aj l)] [] (λR H=>R=rB r∧H=[]):=by
 refine enter (n:=51) Tryz.func22 rfl Tryz.ntmps22 rfl (λw Z=>?_);unfold O7 at h;refine Ag (wa rfl (Am (Ai (Ag (wm rfl (wv (Be (ys:=l) (enc:=Aj) E4 rfl) (wv (C3 rfl rfl) (Am (cz h rfl (λc1 h2=>?_) (λc1 h3=>?_))))))))))
 ·refine Ag (wa rfl (Am (Av (Ac ?_))));obtain rfl:=Aw h2;exact Au (BQ Zh (AG rfl)) sN ⟨rfl,rfl⟩
 ·refine Ar (AJ (Ai (Ag (wm rfl (wv (Be (ys:=l) (enc:=Aj) E4 rfl) (wv (r:=Ap 0) (Al rfl) (Am (A9 (ob h3 λhq hr hk=>Bg (S:=Nat×(Int)×(Unit)) (V:=(Unit)×(Unit)) 0 (λσ=>B7 (λσ=>Dn F l σ) σ.1 σ.2.1=some hq) (λσ=>[(0,AQ 4 (A8 Aj l)),(9,Ap (l.length:Int)),(10,Ap σ.2.1)]) (λσ=>[]) (λσ=>σ.1) (F,0,()) hr (A6.c rfl (A6.c rfl (A6.c rfl A6.nil))) sN (λσ=>Kt =some r) (λσ=>[]) (λσ=>[]) ?_ ?_)))))))))
  ·rintro⟨hU,ha,⟨⟩⟩ hs;refine BG (l':=[(0,AQ 4 (A8 Aj l)),(9,Ap (l.length:Int)),(10,Ap ha)]) (H':=[]) rfl rfl ?_;obtain⟨ht,rfl,hl,he,hf⟩:=BZ hs;replace he:Dn F l ha=some hl:=he;unfold Dn at he;refine Ag (wv (Cj rfl rfl) (Am (Ai (cz he rfl (λhu hw=>?_) (λhu hx=>?_)))))
   ·refine Ar (AJ (Ai (A9 (Ag (wm rfl (wa rfl (Am (Ai (ck hw λhg hy=>AK [(0,AQ 4 (A8 Aj l)),(3,Ap ha),(9,Ap (l.length:Int)),(10,Ap ha),(28,rB ((decide (300<(((Ao l ha).fKey).length:Int)))||(decide (300<(((Ao l ha).fValue).length:Int)))))] [] ?_ ?_)))))))))
    ·refine Ah (wm rfl (wm rfl (wv (Bb (enc:=Aj) (ys:=l) E4 CV rfl rfl hg) (wv (AN DK rfl Cs rfl rfl) (wv (AU CU rfl rfl) (wv (Bj Ce rfl) (wv (C3 rfl rfl) (wm rfl (AS (decide (300<(((Ao l ha).fKey).length:Int))) (λhb=>?_) (λhb=>?_))))))))))
     ·refine wf hb (wf hb (wf hb (wf hb (wf hb (wf hb (wf hb (wv (r:=rB true) (A1 rfl hb rfl) (Ak ?_))))))));exact Cm hb
     ·refine wo hb (wm rfl (wo hb (wm rfl (wo hb (wv (Bb (enc:=Aj) (ys:=l) E4 CV rfl rfl hg) (wo hb (wv (AN DK rfl CO rfl rfl) (wo hb (wv (AU EL rfl rfl) (wo hb (wv (Be (ys:=(Ao l ha).fValue) (enc:=Ab) Cg rfl) (wo hb (wv (C3 rfl rfl) (GK rfl hb rfl (Ak ?_)))))))))))))));exact Cm hb
    refine cz hy rfl (λhz h0=>?_) (λhz h1=>?_)
    ·refine Ag (wa rfl (Am (Av (Ac (Ay (Ac (Ac (AR ?_))))))));have h4:=Bo h0 hf hk;refine Ay (Ac ?_);obtain rfl:=Aw h4;exact Au (BQ Zh (AG rfl)) sN ⟨rfl,rfl⟩
    ·refine Ar (AJ (Ag (wm rfl (wm rfl (wv (Bb (enc:=Aj) (ys:=l) E4 CV rfl rfl hg) (wv (AN DK rfl CO rfl rfl) (wv (AU EL rfl rfl) (wv (Be (ys:=(Ao l ha).fValue) (enc:=Ab) Cg rfl) (wv (r:=Ap 0) (Al rfl) (Am (A9 (ob h1 λh5 h6 hn=>Bg (S:=Nat×(Int)×(Unit)) (V:=(Int×Bool)×(Unit)) 2 (λσ=>B7 (λσ=>D5 l ha σ) σ.1 σ.2.1=some h5) (λσ=>[(0,AQ 4 (A8 Aj l)),(3,Ap ha),(9,Ap (l.length:Int)),(10,Ap ha),(28,rB ((decide (300<(((Ao l ha).fKey).length:Int)))||(decide (300<(((Ao l ha).fValue).length:Int))))),(29,AQ 4 (A8 Aj l)),(30,Ap ha),(33,AQ 4 (A8 Ab ((Ao l ha).fValue))),(34,Ap (((Ao l ha).fValue).length:Int)),(35,Ap σ.2.1)]) (λσ=>[]) (λσ=>σ.1) (F,0,()) h6 (A6.c5 rfl rfl rfl rfl rfl (A6.c5 rfl rfl rfl rfl rfl A6.nil)) sN (λσ=>Hj ha σ.1.1 σ.1.2=some hl) (λσ=>[(0,AQ 4 (A8 Aj l)),(3,Ap ha),(9,Ap (l.length:Int)),(10,Ap ha),(28,rB ((decide (300<(((Ao l ha).fKey).length:Int)))||(decide (300<(((Ao l ha).fValue).length:Int))))),(29,AQ 4 (A8 Aj l)),(30,Ap ha),(33,AQ 4 (A8 Ab ((Ao l ha).fValue))),(34,Ap (((Ao l ha).fValue).length:Int)),(35,Ap σ.1.1),(36,rB σ.1.2)]) (λσ=>[]) ?_ ?_))))))))))))
     ·rintro⟨hV,hd,⟨⟩⟩ h7;refine BG (l':=[(0,AQ 4 (A8 Aj l)),(3,Ap ha),(9,Ap (l.length:Int)),(10,Ap ha),(28,rB ((decide (300<(((Ao l ha).fKey).length:Int)))||(decide (300<(((Ao l ha).fValue).length:Int))))),(29,AQ 4 (A8 Aj l)),(30,Ap ha),(33,AQ 4 (A8 Ab ((Ao l ha).fValue))),(34,Ap (((Ao l ha).fValue).length:Int)),(35,Ap hd)]) (H':=[]) rfl rfl ?_;obtain⟨h8,rfl,h9,hh,hm⟩:=BZ h7;replace hh:D5 l ha hd=some h9:=hh;unfold D5 at hh;refine Ag (wv (Cj rfl rfl) (Am (Ai (cz hh rfl (λhA hB=>?_) (λhA hC=>?_)))))
      ·refine Ar (AJ (Ai (A9 (Ag (wm rfl (wa rfl (Bv (wm rfl (wm rfl (wv (Bb (enc:=Aj) (ys:=l) E4 CV rfl rfl hg) (wv (AN DK rfl CO rfl rfl) (wv (AU EL rfl rfl) (wm rfl (ck hB λhD hE=>wv (Bb (enc:=Ab) (ys:=(Ao l ha).fValue) Cg CK rfl rfl hD) (wv (AN B4 rfl Cs rfl rfl) (wv (AU CU rfl rfl) (wv (Bj Ce rfl) (wv (C3 rfl rfl) (Am (cz hE rfl (λhG hH=>?_) (λhG hI=>?_)))))))))))))))))))))
       ·refine Ag (wa rfl (Am (Av (Ay (Ac (Ac (AR ?_)))))));have hJ:=Bo hH hm hn;refine Ay (Ay (Ac (Ac (AR ?_))));have hK:=Bo hJ hf hk;refine Ay (Ac ?_);obtain rfl:=Aw hK;exact Au (BQ Zh (AG rfl)) sN ⟨rfl,rfl⟩
       ·refine Ar (AA (AJ (Ah (ck hI λhL hN=>wv (Bk rfl rfl hL) (wm rfl (Ak ?_))))));have hO:=Ba hN hm;exact Az (A3 (h8,hd+1,()) ⟨hO,AcM _⟩ (A6.c5 rfl rfl rfl rfl rfl (A6.c5 rfl rfl rfl rfl rfl A6.nil)) sN)
      ·refine Bl (As ?_);have hP:=BB hC hm hn;exact As (AV (A3 ((hd,decide (hd<(((Ao l ha).fValue).length:Int))),()) hP (A6.c rfl (A6.c5 rfl rfl rfl rfl rfl (A6.c5 rfl rfl rfl rfl rfl A6.nil))) sN))
     ·rintro⟨⟨ho,hp⟩,⟨⟩⟩ hi;refine Cb (l':=[(0,AQ 4 (A8 Aj l)),(3,Ap ha),(9,Ap (l.length:Int)),(10,Ap ha),(28,rB ((decide (300<(((Ao l ha).fKey).length:Int)))||(decide (300<(((Ao l ha).fValue).length:Int))))),(29,AQ 4 (A8 Aj l)),(30,Ap ha),(33,AQ 4 (A8 Ab ((Ao l ha).fValue))),(34,Ap (((Ao l ha).fValue).length:Int)),(35,Ap ho),(36,rB hp)]) (H':=[]) rfl rfl ?_;replace hi:Hj ha ho hp=some hl:=hi;unfold Hj at hi;refine AW (AA (AJ (Ah (ck hi λhQ hR=>wv (Bk rfl rfl hQ) (wm rfl (Ak ?_))))));have hS:=Ba hR hf;exact Az (A3 (ht,ha+1,()) ⟨hS,AcM _⟩ (A6.c rfl (A6.c rfl (A6.c rfl A6.nil))) sN)
   ·refine Bl (As ?_);have hT:=BB hx hf hk;exact As (AV (A3 ((),()) hT A6.nil sN))
  ·rintro⟨⟨⟩,⟨⟩⟩ hj;refine Cb (l':=[]) (H':=[]) rfl rfl ?_;replace hj:Kt =some r:=hj;unfold Kt at hj;refine AW (AJ (Ag (wa rfl (Am (Av ?_)))));obtain rfl:=Aw hj;exact Au (BQ Zh (AG rfl)) sN ⟨rfl,rfl⟩
theorem O8 (n:Int)(version:Int)(r:Ad)(h:Tk n version=some r):Fn Tryz.prog GE 33 [Ap n,Ap version] [] (λR H=>R=BK (Aj r)∧H=[]):=by
 refine enter (n:=10) Tryz.func33 rfl Tryz.ntmps33 rfl (λw Z=>?_);unfold Tk at h;refine Ag (BM (cs:=[rS ([]:Af),rB false,rv (.slice none 0 0),Ap 0]) J1 rfl rfl (λb1=>?_));refine Bv (wm rfl (wv (r:=BK [Ap 3,Ap n,rS ([]:Af),Ap 0]) (Ie rfl rfl rfl rfl) (AZ (ys:=([(Aa.mk 3 n ([]:Af) 0)]:List Aa)) (enc:=Ab) (css:=[[Ap 3,Ap n,rS ([]:Af),Ap 0]]) (xs:=[.tmp 6]) Cg CK KO rfl rfl rfl ⟨EI.agg ⟨Up.refl _,Up.refl _,Up.refl _,Up.refl _,trivial⟩,trivial⟩ rfl Bz rfl rfl rfl (λb2=>?_))));refine wm rfl (wv (r:=BK [rS ([107]:Af),rB false,rv (.slice (some ⟨b2,0,none⟩) 1 1),Ap version]) (Np rfl rfl rfl rfl rfl rfl) (Bh (i:=1) CV rfl rfl rfl ⟨(C0 rfl),(C0 rfl),(Ey (i:=0) rfl),(C0 rfl),trivial⟩ rfl rfl (cs':=[rS ([107]:Af),rB false,rv (.slice (some ⟨b2,0,none⟩) 1 1),Ap version]) rfl (H':=[.row (.slice (some ⟨b2,0,none⟩) 1 1) 78 4 (A8 Ab ([(Aa.mk 3 n ([]:Af) 0)]:List Aa)),.blk b1 [rS ([107]:Af),rB false,rv (.slice (some ⟨b2,0,none⟩) 1 1),Ap version] 50]) rfl (Am (Av (WK.freeze (i:=0) rfl (WK.upBlk (i:=1) (cs':=[rS ([107]:Af),rB false,AQ 4 (A8 Ab ([(Aa.mk 3 n ([]:Af) 0)]:List Aa)),Ap version]) rfl ⟨Up.refl _,Up.refl _,Up.fact (i:=0) rfl,Up.refl _,trivial⟩ ?_))))));obtain rfl:=Aw h;exact Au (BQ Tryz.results33 (GR (i:=1) J3 CV rfl rfl rfl)) (sS (sS sN)) ⟨rfl,rfl⟩
theorem Yu (F:Nat)  (r:Af×Int)(h:Tu F=some r):Fn Tryz.prog GE 46 [rv (.slice none 0 0)] [] (λR H=>R=C2 [rS r.1,Ap r.2]∧H=[]):=by
 refine enter (n:=36) Tryz.func46 rfl Tryz.ntmps46 rfl (λw Z=>?_);unfold Tu at h;refine Ag (wv (r:=rS ([]:Af)) (Ax rfl) (wa rfl (Bv (wa rfl (Am (Ai (Ag (wm rfl (wv (r:=Ap 0) (P8 Ch rfl) (wv (r:=Ap 0) (Al rfl) (Am (A9 (ob h λo1 eo2 hK3=>Bg (S:=Nat×(Unit)×(Unit)) (V:=(Unit)×(Unit)) 0 (λσ=>B7 (λσ=>Ky ) σ.1 σ.2.1=some o1) (λσ=>[(2,rS ([]:Af)),(3,Ap 0),(4,rv (.slice none 0 0)),(9,rv (.slice none 0 0)),(10,Ap 0),(11,Ap 0)]) (λσ=>[]) (λσ=>σ.1) (F,(),()) eo2 (A6.c rfl (A6.c5 rfl rfl rfl rfl rfl A6.nil)) sN (λσ=>Kx =some r) (λσ=>[(2,rS ([]:Af)),(3,Ap 0),(4,rv (.slice none 0 0))]) (λσ=>[]) ?_ ?_)))))))))))))
 ·rintro⟨n9,⟨⟩,⟨⟩⟩ hi7;refine BG (l':=[(2,rS ([]:Af)),(3,Ap 0),(4,rv (.slice none 0 0)),(9,rv (.slice none 0 0)),(10,Ap 0),(11,Ap 0)]) (H':=[]) rfl rfl ?_;obtain⟨m6,rfl,t4,h8,ht5⟩:=BZ hi7;replace h8:Ky =some t4:=h8;unfold Ky at h8;refine Ag (wv (Cj rfl rfl) (Am (Ai (DQ rfl (by decide) (Bl (As ?_))))));have hb:=BB h8 ht5 hK3;exact As (AV (A3 ((),()) hb (A6.c rfl (A6.c rfl (A6.c rfl A6.nil))) sN))
 ·rintro⟨⟨⟩,⟨⟩⟩ ha;refine Cb (l':=[(2,rS ([]:Af)),(3,Ap 0),(4,rv (.slice none 0 0))]) (H':=[]) rfl rfl ?_;replace ha:Kx =some r:=ha;unfold Kx at ha;refine AW (AJ (Ag (wm rfl (wv (r:=rS ([]:Af)) (Vq E3 Ce KB rfl) (wa rfl (wa rfl (Am (Av ?_))))))));obtain rfl:=Aw ha;exact Au (DC Tryz.results46 (AG rfl) (AG rfl)) sN ⟨rfl,rfl⟩
theorem Tn (F:Nat)  (r:Af×Int)(h:OE F=some r):Fn Tryz.prog GE 23 [rv (.slice none 0 0)] [] (λR H=>R=C2 [rS r.1,Ap r.2]∧H=[]):=by
 refine enter (n:=38) Tryz.func23 rfl Tryz.ntmps23 rfl (λw Z=>?_);unfold OE at h;refine Ag (wv (r:=rS ([]:Af)) (Ax rfl) (wa rfl (Am (Ai (Ag (wm rfl (WL.up (d:=10) (r:=AQ 4 (A8 Aj ([]:List Ad))) rfl (Up.le (HK.nil _)) (ob h λr1 e3 h2=>CG Tryz.call35 (OB F ([]:List Ad) r1 e3) rfl (wa rfl (Bv (wm rfl (wv (CQ rfl rfl) (Am (cz h2 rfl (λc4 h5=>?_) (λc4 h6=>?_)))))))))))))))
 ·refine Ag (wm rfl (wv (r:=rS ([]:Af)) (Ax rfl) (wa rfl (Am (Av (Ac ?_))))));obtain rfl:=Aw h5;exact Au (DC Wo (AG rfl) (AG rfl)) sN ⟨rfl,rfl⟩
 ·refine Ar (AJ (Ag (wa rfl (Am (Ai (Ag (wm rfl (wv (r:=Ap 0) (P8 E4 rfl) (wv (r:=Ap 0) (Al rfl) (Am (A9 (ob h6 λo7 eo8 hK9=>Bg (S:=Nat×(Unit)×(Unit)) (V:=(Unit)×(Unit)) 0 (λσ=>B7 (λσ=>HT ) σ.1 σ.2.1=some o7) (λσ=>[(2,rS ([]:Af)),(3,Ap 0),(5,rv (.slice none 0 0)),(15,rv (.slice none 0 0)),(16,Ap 0),(17,Ap 0)]) (λσ=>[]) (λσ=>σ.1) (F,(),()) eo8 (A6.c rfl (A6.c5 rfl rfl rfl rfl rfl A6.nil)) sN (λσ=>HS F =some r) (λσ=>[(2,rS ([]:Af)),(3,Ap 0),(5,rv (.slice none 0 0))]) (λσ=>[]) ?_ ?_))))))))))))
  ·rintro⟨hk,⟨⟩,⟨⟩⟩ hd;refine BG (l':=[(2,rS ([]:Af)),(3,Ap 0),(5,rv (.slice none 0 0)),(15,rv (.slice none 0 0)),(16,Ap 0),(17,Ap 0)]) (H':=[]) rfl rfl ?_;obtain⟨hl,rfl,he,ha,hf⟩:=BZ hd;replace ha:HT =some he:=ha;unfold HT at ha;refine Ag (wv (Cj rfl rfl) (Am (Ai (DQ rfl (by decide) (Bl (As ?_))))));have hg:=BB ha hf hK9;exact As (AV (A3 ((),()) hg (A6.c rfl (A6.c rfl (A6.c rfl A6.nil))) sN))
  ·rintro⟨⟨⟩,⟨⟩⟩ hb;refine Cb (l':=[(2,rS ([]:Af)),(3,Ap 0),(5,rv (.slice none 0 0))]) (H':=[]) rfl rfl ?_;replace hb:HS F =some r:=hb;unfold HS at hb;refine AW (AJ (Ag (wm rfl (ob hb λhh hi hj=>CG Tryz.call46 (Yu F hh hi) rfl (wv (AE rfl rfl) (wv (AE rfl rfl) (wa rfl (wa rfl (Am (Av ?_))))))))));obtain rfl:=Aw hj;exact Au (DC Wo (AG rfl) (AG rfl)) sN ⟨rfl,rfl⟩
theorem LN (F:Nat)  (r:Bool)(h:Lc F=some r):Fn Tryz.prog GE 10 [] [] (λR H=>R=rB r∧H=[]):=by
 refine enter (n:=86) Tryz.func10 rfl Tryz.ntmps10 rfl (λw Z=>?_);unfold Lc at h;refine Ag (wa rfl (Bv (ob h λr1 e3 h2=>Gt (Hr:=[]) Tryz.call11 (XQ r1 e3) rfl (AcI _) rfl ?_)));rintro _ _ ⟨b4,b5,b6,rfl,rfl⟩;refine wa rfl (Am (Ai (Ag (wm rfl (wv (r:=rB false) (Te ⟨_,AaC⟩ rfl) (wm rfl (Bt (b:=false) rfl rfl rfl (wm rfl (Bt (b:=false) rfl rfl rfl (ob h2 λr7 e9 h8=>CG Wq (O8 1 0 r7 e9) rfl (Bt (b:=false) rfl rfl rfl (ob h8 λha h1 h3=>CG Wq (O8 2 0 ha h1) rfl (Bt (b:=false) rfl rfl rfl (AZ (ys:=([r7,ha]:List Ad)) (enc:=Aj) (css:=[[rS r7.fKey,rB r7.fDelete,AQ 4 (A8 Ab r7.fValue),Ap r7.fIfVersion],[rS ha.fKey,rB ha.fDelete,AQ 4 (A8 Ab ha.fValue),Ap ha.fIfVersion]]) (xs:=[.tmp 15,.tmp 16]) E4 CV J1 rfl rfl rfl ⟨EI.agg ⟨Up.refl _,Up.refl _,Up.refl _,Up.refl _,trivial⟩,EI.agg ⟨Up.refl _,Up.refl _,Up.refl _,Up.refl _,trivial⟩,trivial⟩ rfl BV rfl rfl rfl (λhg=>?_)))))))))))))));refine Bt (b:=false) rfl rfl rfl (WL.freeze (i:=0) rfl (WL.up (d:=17) (r:=AQ 4 (A8 Aj ([r7,ha]:List Ad))) rfl (Up.fact (i:=0) rfl) (ob h3 λhh h4 h5=>Gt (Hr:=[.fact (.slice (some ⟨hg,0,none⟩) 2 2) (AQ 4 (A8 Aj ([r7,ha]:List Ad)))]) U8 (IF F b4 b5 b6 r1 ([r7,ha]:List Ad) hh h4) rfl ((A4 (i:=1) rfl).trans (AcJ _ ((A4 (i:=1) rfl).trans (AcJ _ ((A4 (i:=1) rfl).trans (AcJ _ (AcI _))))))) rfl ?_)));rintro _ _ ⟨rfl,rfl⟩;refine Bt (b:=false) rfl rfl rfl (wv (CQ rfl rfl) (wv (r:=rB (!decide (hh.1=19))) (AC (b:=false) rfl rfl rfl) (wm rfl (ck h5 λg17 h6=>Bt (b:=!decide (hh.1=19)) rfl rfl (Bool.not_eq_eq_eq_not.1 g17) (wm rfl (Bt (b:=!decide (hh.1=19)) rfl rfl (Bool.not_eq_eq_eq_not.1 g17) (ob h6 λhl h7 h9=>Gt (Hr:=[.fact (.slice (some ⟨hg,0,none⟩) 2 2) (AQ 4 (A8 Aj ([r7,ha]:List Ad)))]) Tryz.call15 (Tm b4 b5 b6 hh.2 hl h7) rfl (AcI _) rfl ?_)))))));rintro _ _ ⟨rfl,rfl⟩;refine Bt (b:=!decide (hh.1=19)) rfl rfl (Bool.not_eq_eq_eq_not.1 g17) (wv (CQ rfl rfl) (wv (r:=rB (!decide (hl.1=0))) (AC (b:=!decide (hh.1=19)) rfl (Bool.not_eq_eq_eq_not.1 g17) rfl) (Am (ck h9 λhA hB=>DQ (b:=!decide (hl.1=0)) rfl (Bool.not_eq_eq_eq_not.1 hA) (Ar (AJ (Ag (wm rfl (ob hB λhb hC hD=>CG Wq (O8 5 0 hb hC) rfl (AZ (ys:=([hb]:List Ad)) (enc:=Aj) (css:=[[rS hb.fKey,rB hb.fDelete,AQ 4 (A8 Ab hb.fValue),Ap hb.fIfVersion]]) (xs:=[.tmp 27]) E4 CV J1 rfl rfl rfl ⟨EI.agg ⟨Up.refl _,Up.refl _,Up.refl _,Up.refl _,trivial⟩,trivial⟩ rfl BV rfl rfl rfl (λhi=>?_)))))))))));refine WL.freeze (i:=0) rfl (WL.up (d:=28) (r:=AQ 4 (A8 Aj ([hb]:List Ad))) rfl (Up.fact (i:=0) rfl) (ob hD λhu hE hG=>Gt (Hr:=[.fact (.slice (some ⟨hi,0,none⟩) 1 1) (AQ 4 (A8 Aj ([hb]:List Ad))),.fact (.slice (some ⟨hg,0,none⟩) 2 2) (AQ 4 (A8 Aj ([r7,ha]:List Ad)))]) U8 (IF F b4 b5 b6 hl.2 ([hb]:List Ad) hu hE) rfl ((A4 (i:=1) rfl).trans (AcJ _ ((A4 (i:=1) rfl).trans (AcJ _ ((A4 (i:=1) rfl).trans (AcJ _ (AcI _))))))) rfl ?_));rintro _ _ ⟨rfl,rfl⟩;refine wa rfl (Bv (wm rfl (ob hG λhd hH hI=>CG Wq (O8 5 0 hd hH) rfl (AZ (ys:=([hd]:List Ad)) (enc:=Aj) (css:=[[rS hd.fKey,rB hd.fDelete,AQ 4 (A8 Ab hd.fValue),Ap hd.fIfVersion]]) (xs:=[.tmp 31]) E4 CV J1 rfl rfl rfl ⟨EI.agg ⟨Up.refl _,Up.refl _,Up.refl _,Up.refl _,trivial⟩,trivial⟩ rfl BV rfl rfl rfl (λhj=>?_)))));refine WL.freeze (i:=0) rfl (WL.up (d:=32) (r:=AQ 4 (A8 Aj ([hd]:List Ad))) rfl (Up.fact (i:=0) rfl) (ob hI λhw hJ hK=>Gt (Hr:=[.fact (.slice (some ⟨hj,0,none⟩) 1 1) (AQ 4 (A8 Aj ([hd]:List Ad))),.fact (.slice (some ⟨hi,0,none⟩) 1 1) (AQ 4 (A8 Aj ([hb]:List Ad))),.fact (.slice (some ⟨hg,0,none⟩) 2 2) (AQ 4 (A8 Aj ([r7,ha]:List Ad)))]) U8 (IF F b4 b5 b6 hu.2 ([hd]:List Ad) hw hJ) rfl ((A4 (i:=1) rfl).trans (AcJ _ ((A4 (i:=1) rfl).trans (AcJ _ ((A4 (i:=1) rfl).trans (AcJ _ (AcI _))))))) rfl ?_));rintro _ _ ⟨rfl,rfl⟩;refine wa rfl (Bv (wm rfl (ob hK λhe hL hN=>CG Wq (O8 6 1 he hL) rfl (AZ (ys:=([he]:List Ad)) (enc:=Aj) (css:=[[rS he.fKey,rB he.fDelete,AQ 4 (A8 Ab he.fValue),Ap he.fIfVersion]]) (xs:=[.tmp 35]) E4 CV J1 rfl rfl rfl ⟨EI.agg ⟨Up.refl _,Up.refl _,Up.refl _,Up.refl _,trivial⟩,trivial⟩ rfl BV rfl rfl rfl (λhk=>?_)))));refine WL.freeze (i:=0) rfl (WL.up (d:=36) (r:=AQ 4 (A8 Aj ([he]:List Ad))) rfl (Up.fact (i:=0) rfl) (ob hN λhx hO hP=>Gt (Hr:=[.fact (.slice (some ⟨hk,0,none⟩) 1 1) (AQ 4 (A8 Aj ([he]:List Ad))),.fact (.slice (some ⟨hj,0,none⟩) 1 1) (AQ 4 (A8 Aj ([hd]:List Ad))),.fact (.slice (some ⟨hi,0,none⟩) 1 1) (AQ 4 (A8 Aj ([hb]:List Ad))),.fact (.slice (some ⟨hg,0,none⟩) 2 2) (AQ 4 (A8 Aj ([r7,ha]:List Ad)))]) U8 (IF F b4 b5 b6 hw.2 ([he]:List Ad) hx hO) rfl ((A4 (i:=1) rfl).trans (AcJ _ ((A4 (i:=1) rfl).trans (AcJ _ ((A4 (i:=1) rfl).trans (AcJ _ (AcI _))))))) rfl ?_));rintro _ _ ⟨rfl,rfl⟩;refine wa rfl (Bv (wm rfl (ob hP λhf hQ hR=>Gt (Hr:=[.fact (.slice (some ⟨hk,0,none⟩) 1 1) (AQ 4 (A8 Aj ([he]:List Ad))),.fact (.slice (some ⟨hj,0,none⟩) 1 1) (AQ 4 (A8 Aj ([hd]:List Ad))),.fact (.slice (some ⟨hi,0,none⟩) 1 1) (AQ 4 (A8 Aj ([hb]:List Ad))),.fact (.slice (some ⟨hg,0,none⟩) 2 2) (AQ 4 (A8 Aj ([r7,ha]:List Ad)))]) Tryz.call17 (XS b4 b5 b6 hx.2 ([107]:Af) hf hQ) rfl (AcI _) rfl ?_)));rintro _ _ ⟨rfl,rfl⟩;refine wm rfl (wv (AE rfl rfl) (wv (AE rfl rfl) (BM (cs:=[rS ([]:Af),rv (.slice none 0 0),Ap 0]) KP rfl rfl (λho=>?_))));refine Bh (i:=0) CW rfl rfl rfl (BJ.c rfl) rfl rfl (cs':=[rS hf.1.fKey,AQ 4 (A8 Ab hf.1.fValue),Ap hf.1.fVersion]) rfl (H':=[.blk ho (Aq hf.1) 35,.blk b4 [rv (.map (some b5)),rv (.map (some b6))] 59,.map b5 (AY An hf.2.2.fItems),.map b6 (AY An hf.2.2.fChanged),.fact (.slice (some ⟨hk,0,none⟩) 1 1) (AQ 4 (A8 Aj ([he]:List Ad))),.fact (.slice (some ⟨hj,0,none⟩) 1 1) (AQ 4 (A8 Aj ([hd]:List Ad))),.fact (.slice (some ⟨hi,0,none⟩) 1 1) (AQ 4 (A8 Aj ([hb]:List Ad))),.fact (.slice (some ⟨hg,0,none⟩) 2 2) (AQ 4 (A8 Aj ([r7,ha]:List Ad)))]) rfl (wa rfl (Bv (wm rfl (wv (r:=BK [rS ([107]:Af),rB true,rv (.slice none 0 0),Ap 2]) (Jp rfl rfl rfl rfl rfl rfl) (AZ (ys:=([(Ad.mk ([107]:Af) true ([]:List Aa) 2)]:List Ad)) (enc:=Aj) (css:=[[rS ([107]:Af),rB true,AQ 4 (A8 Ab ([]:List Aa)),Ap 2]]) (xs:=[.tmp 44]) E4 CV J1 rfl rfl rfl ⟨EI.agg ⟨Up.refl _,Up.refl _,Up.le (HK.nil _),Up.refl _,trivial⟩,trivial⟩ rfl BV rfl rfl rfl (λhy=>?_))))));refine WL.freeze (i:=0) rfl (WL.up (d:=45) (r:=AQ 4 (A8 Aj ([(Ad.mk ([107]:Af) true ([]:List Aa) 2)]:List Ad))) rfl (Up.fact (i:=0) rfl) (ob hR λhz hS hT=>Gt (Hr:=[.fact (.slice (some ⟨hy,0,none⟩) 1 1) (AQ 4 (A8 Aj ([(Ad.mk ([107]:Af) true ([]:List Aa) 2)]:List Ad))),.blk ho (Aq hf.1) 35,.fact (.slice (some ⟨hk,0,none⟩) 1 1) (AQ 4 (A8 Aj ([he]:List Ad))),.fact (.slice (some ⟨hj,0,none⟩) 1 1) (AQ 4 (A8 Aj ([hd]:List Ad))),.fact (.slice (some ⟨hi,0,none⟩) 1 1) (AQ 4 (A8 Aj ([hb]:List Ad))),.fact (.slice (some ⟨hg,0,none⟩) 2 2) (AQ 4 (A8 Aj ([r7,ha]:List Ad)))]) U8 (IF F b4 b5 b6 hf.2.2 ([(Ad.mk ([107]:Af) true ([]:List Aa) 2)]:List Ad) hz hS) rfl ((A4 (i:=2) rfl).trans (AcJ _ ((A4 (i:=2) rfl).trans (AcJ _ ((A4 (i:=2) rfl).trans (AcJ _ (AcI _))))))) rfl ?_));rintro _ _ ⟨rfl,rfl⟩;refine wa rfl (Bv (ob hT λhU hV hW=>CG Tryz.call23 (Tn F hU hV) rfl (wm rfl (wv (AE rfl rfl) (wv (AE rfl rfl) (wa rfl (wa rfl (Bv (wm rfl (wv (B6 rfl rfl) (wm rfl (ck hW λhp hX=>wo hp (wm rfl (wo hp (wv (B6 rfl rfl) (GC rfl hp rfl (wm rfl (ck hX λhq hY=>wo hq (wm rfl (wo hq ?_))))))))))))))))))));refine wv (B6 rfl rfl) (GC rfl hq rfl (wm rfl (ck hY λh0 hZ=>wo h0 (wm rfl (GC rfl h0 rfl (wm rfl (ck hZ λhm ga=>wo hm (vF DX rfl Ct (wo hm (vL 4 CX rfl (wo hm (wv (B6 rfl rfl) (GC rfl hm rfl (wm rfl (ck ga λhr gb=>wo hr (wm rfl (wo hr (wv (B6 rfl rfl) (GC rfl hr rfl (wm rfl ?_))))))))))))))))))));refine ck gb λhn gc=>wo hn (wm rfl (wo hn (ob gc λgd ge gf=>Gt (Hr:=[.fact (.slice (some ⟨hy,0,none⟩) 1 1) (AQ 4 (A8 Aj ([(Ad.mk ([107]:Af) true ([]:List Aa) 2)]:List Ad))),.blk ho (Aq hf.1) 35,.fact (.slice (some ⟨hk,0,none⟩) 1 1) (AQ 4 (A8 Aj ([he]:List Ad))),.fact (.slice (some ⟨hj,0,none⟩) 1 1) (AQ 4 (A8 Aj ([hd]:List Ad))),.fact (.slice (some ⟨hi,0,none⟩) 1 1) (AQ 4 (A8 Aj ([hb]:List Ad))),.fact (.slice (some ⟨hg,0,none⟩) 2 2) (AQ 4 (A8 Aj ([r7,ha]:List Ad)))]) Tryz.call15 (Tm b4 b5 b6 hz.2 gd ge) rfl (AcI _) rfl ?_)));rintro _ _ ⟨rfl,rfl⟩;refine wo hn (wv (B6 rfl rfl) (GC rfl hn rfl (wm rfl (ck gf λhs gg=>wo hs (wm rfl (wo hs (wv (EC rfl rfl) (GC rfl hs rfl (wm rfl (ck gg λht gh=>wo ht (wm rfl (wo ht (wv (B6 rfl rfl) (GC rfl ht rfl (wa rfl (Am (Av ?_)))))))))))))))));obtain rfl:=Aw gh;exact Au (BQ Tryz.results10 (AG rfl)) (sS (sS (sS (sS (sS (sS (sS (sS (sS sN))))))))) ⟨rfl,rfl⟩
end Go.Proofs.YtjfnokmpfekniaaGreatDoor.Q
namespace Go.Proofs.YtjfnokmpfekniaaGreatDoor
open Go
set_option linter.unusedVariables false
structure Cc where
 fMade:Bool
 fItems:(List Ae)
 deriving DecidableEq,Inhabited
def He (l:(List Ae))(key:Af)(ha:Int):Option (Stp (Int) (Out (Int×Bool) (Int))):=
 AX (imp (decide (ha<(l.length:Int))) (CJ ha (l.length:Int)))<|Bf (((decide (ha<(l.length:Int)))&&(BE ((Ao l ha).fKey) key))) (AX (B9 .i64 (ha+1))<|some (.next (ha+1))) (some (.out (.go ha)))
def P2 (l:(List Ae))(key:Af)(ha:Int):Option (Int×Bool):=
 AX (imp (decide (ha<(l.length:Int))) (CJ ha (l.length:Int)))<|some (ha,((decide (ha<(l.length:Int)))&&(decide (((Ao l ha).fKey)=key))))
def ST (F:Nat)(l:(List Ae))(key:Af):Option (Int×Bool):=
 Br (B7 (λσ=>He l key σ) F 0) (B5 λν=>P2 l key ν)
def KW (F:Nat)(c:Ad):Option (Int):=
 Br (VI F c.fKey) λr2=>Bf (!r2) (some 4) (Bf (((decide (c.fIfVersion<(-1)))||(decide (1000000000000<c.fIfVersion)))) (some 2) (Bf (!c.fDelete) (Br (KY F c.fValue) λha=>some ha) (Bf (decide (0<(c.fValue.length:Int))) (some 7) (some 0))))
def DE (F:Nat)(l:(List Ad))(ha:Int):Option (Stp (Int) (Out (Int) (Unit))):=
 Bf (decide (ha<(l.length:Int))) (AX (CJ ha (l.length:Int))<|Br (KW F (Ao l ha)) λhb=>Bf (!decide (hb=0)) (some (.out (.ret hb))) (AX (B9 .i64 (ha+1))<|some (.next (ha+1)))) (some (.out (.go ())))
def N1 :Option (Int):=
 some 0
def R3 (F:Nat)(l:(List Ad)):Option (Int):=
 Bf (decide (256<(l.length:Int))) (some 3) (Br (B7 (λσ=>DE F l σ) F 0) (B5 λν=>N1 ))
def Om (F:Nat)(l:(List Ae))(c:Ad):Option ((List Ae)×Int):=
 Br (ST F l c.fKey) λr2=>Bf (r2.2) (AX (CJ r2.1 (l.length:Int))<|Bf (((decide (0≤c.fIfVersion))&&(!decide (c.fIfVersion=((Ao l r2.1).fVersion))))) (some (([]:List Ae),19)) (AX (HU r2.1 (l.length:Int))<|AX (Dw 48 (([]:List Ae).length+(List.take (Int.toNat r2.1) l).length))<|Bf (!c.fDelete) (Bf (decide (((Ao l r2.1).fVersion)=1000000000000)) (some (([]:List Ae),8)) (AX (B9 .i64 (((Ao l r2.1).fVersion)+1))<|AX (Dw 48 ((([]:List Ae)++(List.take (Int.toNat r2.1) l)).length+([(Ae.mk c.fKey c.fValue (((Ao l r2.1).fVersion)+1))]:List Ae).length))<|AX (B9 .i64 (r2.1+1))<|AX (HU (r2.1+1) (l.length:Int))<|AX (Dw 48 (((([]:List Ae)++(List.take (Int.toNat r2.1) l))++([(Ae.mk c.fKey c.fValue (((Ao l r2.1).fVersion)+1))]:List Ae)).length+(List.drop (Int.toNat (r2.1+1)) l).length))<|some (((([]:List Ae)++(List.take (Int.toNat r2.1) l))++([(Ae.mk c.fKey c.fValue (((Ao l r2.1).fVersion)+1))]:List Ae))++(List.drop (Int.toNat (r2.1+1)) l),0))) (AX (B9 .i64 (r2.1+1))<|AX (HU (r2.1+1) (l.length:Int))<|AX (Dw 48 ((([]:List Ae)++(List.take (Int.toNat r2.1) l)).length+(List.drop (Int.toNat (r2.1+1)) l).length))<|some ((([]:List Ae)++(List.take (Int.toNat r2.1) l))++(List.drop (Int.toNat (r2.1+1)) l),0)))) (Bf (((decide (0≤c.fIfVersion))&&(!decide (c.fIfVersion=0)))) (some (([]:List Ae),19)) (AX (HU r2.1 (l.length:Int))<|AX (Dw 48 (([]:List Ae).length+(List.take (Int.toNat r2.1) l).length))<|Bf (!c.fDelete) (Bf (decide ((l.length:Int)=256)) (some (([]:List Ae),3)) (AX (Dw 48 ((([]:List Ae)++(List.take (Int.toNat r2.1) l)).length+([(Ae.mk c.fKey c.fValue 1)]:List Ae).length))<|AX (Dw 48 (((([]:List Ae)++(List.take (Int.toNat r2.1) l))++([(Ae.mk c.fKey c.fValue 1)]:List Ae)).length+(List.drop (Int.toNat r2.1) l).length))<|some (((([]:List Ae)++(List.take (Int.toNat r2.1) l))++([(Ae.mk c.fKey c.fValue 1)]:List Ae))++(List.drop (Int.toNat r2.1) l),0))) (AX (Dw 48 ((([]:List Ae)++(List.take (Int.toNat r2.1) l)).length+(List.drop (Int.toNat r2.1) l).length))<|some ((([]:List Ae)++(List.take (Int.toNat r2.1) l))++(List.drop (Int.toNat r2.1) l),0))))
def G1 (F:Nat)(q:Cc)(l:(List Ad))(hd:(List Ae))(ha:Int):Option (Stp ((List Ae)×Int) (Out (Int×Cc) ((List Ae)))):=
 Bf (decide (ha<(l.length:Int))) (AX (CJ ha (l.length:Int))<|Br (Om F hd (Ao l ha)) λhb=>Bf (!decide (hb.2=0)) (some (.out (.ret (hb.2,q)))) (AX (B9 .i64 (ha+1))<|some (.next (hb.1,ha+1)))) (some (.out (.go hd)))
def Vd (q:Cc)(ha:(List Ae)):Option (Int×Cc):=
 some (0,(Cc.mk q.fMade ha))
def WX (F:Nat)(q:Cc)(l:(List Ad)):Option (Int×Cc):=
 Bf (!q.fMade) (some (10,q)) (Br (R3 F l) λr4=>Bf (!decide (r4=0)) (some (r4,q)) (Br (B7 (λσ=>G1 F q l σ.1 σ.2) F (q.fItems,0)) (B5 λν=>Vd q ν)))
def Ev (a:(List Aa))(b:(List Aa))(ha:Int):Option (Stp (Int) (Out (Bool) (Unit))):=
 Bf (decide (ha<(a.length:Int))) (AX (CJ ha (a.length:Int))<|AX (CJ ha (b.length:Int))<|Bf (!(decide (((Ao a ha).fKind)=((Ao b ha).fKind))&&decide (((Ao a ha).fInt)=((Ao b ha).fInt))&&decide (((Ao a ha).fStr)=((Ao b ha).fStr))&&decide (((Ao a ha).fN)=((Ao b ha).fN)))) (some (.out (.ret false))) (AX (B9 .i64 (ha+1))<|some (.next (ha+1)))) (some (.out (.go ())))
def Kg :Option (Bool):=
 some true
def H3 (F:Nat)(a:(List Aa))(b:(List Aa)):Option (Bool):=
 Bf (!decide ((a.length:Int)=(b.length:Int))) (some false) (Br (B7 (λσ=>Ev a b σ) F 0) (B5 λν=>Kg ))
def Er (F:Nat)(a:(List Ae))(b:(List Ae))(ha:Int):Option (Stp (Int) (Out (Bool) (Unit))):=
 Bf (decide (ha<(a.length:Int))) (AX (CJ ha (a.length:Int))<|AX (CJ ha (b.length:Int))<|AX (imp (!(!decide (((Ao a ha).fKey)=((Ao b ha).fKey)))) (imp (!(!decide (((Ao a ha).fVersion)=((Ao b ha).fVersion)))) ((H3 F ((Ao a ha).fValue) ((Ao b ha).fValue)).isSome)))<|Bf (((!decide (((Ao a ha).fKey)=((Ao b ha).fKey)))||((!decide (((Ao a ha).fVersion)=((Ao b ha).fVersion)))||(!(ov (H3 F ((Ao a ha).fValue) ((Ao b ha).fValue))))))) (some (.out (.ret false))) (AX (B9 .i64 (ha+1))<|some (.next (ha+1)))) (some (.out (.go ())))
def Kc :Option (Bool):=
 some true
def GN (F:Nat)(a:(List Ae))(b:(List Ae)):Option (Bool):=
 Bf (!decide ((a.length:Int)=(b.length:Int))) (some false) (Br (B7 (λσ=>Er F a b σ) F 0) (B5 λν=>Kc ))
end Go.Proofs.YtjfnokmpfekniaaGreatDoor
namespace Go.Proofs.YtjfnokmpfekniaaGreatDoor.Q
open Go Go.RowKit
set_option linter.unusedVariables false
set_option linter.unusedSimpArgs false
set_option maxRecDepth 100000
set_option maxHeartbeats 4000000
theorem YS {a0 b0:Int}{a1 b1:Int}{a2 b2:Af}{a3 b3:Int}(w:World):(Op.equalIn 10000 78 (.agg #[.int .i64 a0,.int .i64 a1,.string (B a2),.int .i64 a3]) (.agg #[.int .i64 b0,.int .i64 b1,.string (B b2),.int .i64 b3])).run Tryz.prog w = .ok (decide (a0=b0)&&decide (a1=b1)&&decide (a2=b2)&&decide (a3=b3)) w:=by
  have hS:Tryz.prog.underlying 78=some (.struct (Tryz.prog.fieldsOf 78)):=by kernel_rfl
  have hp:Tryz.prog.stoodInHeld 78=false:=by kernel_rfl
  have u3:=SD;have ia3:=CX;have so3:=Ct;have u9:=Ce;have ia9:=CU;have so9:=Cs;have ha:=Tryz.underlying76;have hb:=E8;have hd:=E7;rw[show(10000:Nat)=9999+1 from rfl,run_equalIn_agg w 9999 78 _ _ hS hp];simp only[Program.fieldsOf,B4]
  go_simp
  simp only[Gp]
  by_cases h0:a0=b0<;>by_cases h1:a1=b1<;>by_cases h2:a2=b2<;>by_cases h3:a3=b3<;>simp[h0,h1,h2,h3]
theorem RJ {n:Nat}{c:Cx}{l:Fr}{H:List Ent}{d:Option Nat}{ty rty:TypeId}{pos:String}{af:Array Edge}{g:Option (Nat×Bool)}{x y:Operand}{a0 b0:Int}{a1 b1:Int}{a2 b2:Af}{a3 b3:Int}(hx:ev l x=some (BK [Ap a0,Ap a1,rS a2,Ap a3]))(hy:ev l y=some (BK [Ap b0,Ap b1,rS b2,Ap b3])):Bn Tryz.prog n c l H { dst:=d,op:=.binOp .neq 78 x y rty,type:=ty,pos:=pos,after:=af,guard:=g } (rB (!(decide (a0=b0)&&decide (a1=b1)&&decide (a2=b2)&&decide (a3=b3)))):=λa w Z ha hw=>by
  obtain⟨us,e1,q1⟩:=ha.ev hx;obtain⟨vs,e2,q2⟩:=ha.ev hy;have k1:=Bp.eq_rv (us:=[.int .i64 a0,.int .i64 a1,.string (B a2),.int .i64 a3]) q1;have k2:=Bp.eq_rv (us:=[.int .i64 b0,.int .i64 b1,.string (B b2),.int .i64 b3]) q2;subst k1;subst k2;have hm:Tryz.prog.eqGuardType Tryz.prog.depth 78=false:=by kernel_rfl
  have hb:=YS (a0:=a0) (a1:=a1) (a2:=a2) (a3:=a3) (b0:=b0) (b1:=b1) (b2:=b2) (b3:=b3) w;refine⟨.bool (!(decide (a0=b0)&&decide (a1=b1)&&decide (a2=b2)&&decide (a3=b3))),rfl,?_⟩;have hg:=run_eqGuard_agg (P:=Tryz.prog) w .neq 78 x y #[.int .i64 a0,.int .i64 a1,.string (B a2),.int .i64 a3] #[.int .i64 b0,.int .i64 b1,.string (B b2),.int .i64 b3] hm;simp only[execOp,e1,e2,Sem.run_bind,hg,Result.andThen_ok,run_neq_struct,hb,Sem.run_pure]
theorem WO (F:Nat)(c:Ad)(r:Int)(h:KW F c=some r):Fn Tryz.prog GE 60 [BK (Aj c)] [] (λR H=>R=Ap r∧H=[]):=by
 refine enter (n:=25) Tryz.func60 rfl Tryz.ntmps60 rfl (λw Z=>?_);unfold KW at h;refine Ag (DR rfl rfl (λb1=>?_));refine wa rfl (Am (Ai (Ag (vF DK rfl Cs (vL 0 CU rfl (ob h λr2 e4 h3=>CG Tryz.call56 (Yc F c.fKey r2 e4) rfl (wv (Ci rfl) (Am (cz h3 rfl (λc5 h6=>?_) (λc5 h7=>?_))))))))))
 ·refine Ag (wa rfl (Am (Av (Ac ?_))));obtain rfl:=Aw h6;exact Au (BQ Wl (AG rfl)) (sS sN) ⟨rfl,rfl⟩
 ·refine Ar (AJ (Ai (AK [(1,rP b1 0),(14,rB ((decide (c.fIfVersion<(-1)))||(decide (1000000000000<c.fIfVersion))))] [.blk b1 (Aj c) 50] ?_ ?_)))
  ·refine Ah (vF DK rfl Ct (vL 0 CX rfl (wv (Cj rfl rfl) (wm rfl (AS (decide (c.fIfVersion<(-1))) (λc8=>?_) (λc8=>?_))))))
   ·refine wf c8 (wf c8 (wf c8 (wv (r:=rB true) (A1 rfl c8 rfl) (Ak ?_))));exact Cm c8
   ·refine wo c8 (vF DK rfl Ct (wo c8 (vL 0 CX rfl (wo c8 (wv (C3 rfl rfl) (GK rfl c8 rfl (Ak ?_)))))));exact Cm c8
  refine cz h7 rfl (λc9 ha=>?_) (λc9 hb=>?_)
  ·refine Ag (wa rfl (Am (Av (Ac ?_))));obtain rfl:=Aw ha;exact Au (BQ Wl (AG rfl)) (sS sN) ⟨rfl,rfl⟩
  ·refine Ar (AJ (Ai (Ag (vF DK rfl HJ (vL 0 Qg rfl (wv (Ci rfl) (Am (cz hb rfl (λhd he=>?_) (λhd hf=>?_)))))))))
   ·refine Ag (vF DK rfl CO (vL 0 EL rfl (ob he λhg hh hi=>CG Tryz.call57 (Ol F c.fValue hg hh) rfl (wa rfl (Am (Av (Ac ?_)))))));obtain rfl:=Aw hi;exact Au (BQ Wl (AG rfl)) (sS sN) ⟨rfl,rfl⟩
   ·refine Ar (AJ (Ai (Ag (vF DK rfl CO (vL 0 EL rfl (wv (Be (ys:=c.fValue) (enc:=Ab) Cg rfl) (wv (C3 rfl rfl) (Am (cz hf rfl (λhj hk=>?_) (λhj hl=>?_))))))))))
    ·refine Ag (wa rfl (Am (Av (Ac ?_))));obtain rfl:=Aw hk;exact Au (BQ Wl (AG rfl)) (sS sN) ⟨rfl,rfl⟩
    ·refine Ar (AJ (Ag (wa rfl (Am (Av ?_)))));obtain rfl:=Aw hl;exact Au (BQ Wl (AG rfl)) (sS sN) ⟨rfl,rfl⟩
theorem AaO (F:Nat)(l:(List Ad))(r:Int)(h:R3 F l=some r):Fn Tryz.prog GE 37 [AQ 4 (A8 Aj l)] [] (λR H=>R=Ap r∧H=[]):=by
 refine enter (n:=22) Tryz.func37 rfl Tryz.ntmps37 rfl (λw Z=>?_);unfold R3 at h;refine Ag (wa rfl (Am (Ai (Ag (wm rfl (wv (Be (ys:=l) (enc:=Aj) E4 rfl) (wv (C3 rfl rfl) (Am (cz h rfl (λc1 h2=>?_) (λc1 h3=>?_))))))))))
 ·refine Ag (wa rfl (Am (Av (Ac ?_))));obtain rfl:=Aw h2;exact Au (BQ Tryz.results37 (AG rfl)) sN ⟨rfl,rfl⟩
 ·refine Ar (AJ (Ai (Ag (wm rfl (wv (Be (ys:=l) (enc:=Aj) E4 rfl) (wv (r:=Ap 0) (Al rfl) (Am (A9 (ob h3 λhg hh hf=>Bg (S:=Nat×(Int)×(Unit)) (V:=(Unit)×(Unit)) 0 (λσ=>B7 (λσ=>DE F l σ) σ.1 σ.2.1=some hg) (λσ=>[(0,AQ 4 (A8 Aj l)),(2,Ap 0),(9,Ap (l.length:Int)),(10,Ap σ.2.1)]) (λσ=>[]) (λσ=>σ.1) (F,0,()) hh (A6.c rfl (A6.c rfl (A6.c rfl (A6.c rfl A6.nil)))) sN (λσ=>N1 =some r) (λσ=>[(2,Ap 0)]) (λσ=>[]) ?_ ?_)))))))))
  ·rintro⟨h1,ha,⟨⟩⟩ hi;refine BG (l':=[(0,AQ 4 (A8 Aj l)),(2,Ap 0),(9,Ap (l.length:Int)),(10,Ap ha)]) (H':=[]) rfl rfl ?_;obtain⟨hj,rfl,t46,hb,he⟩:=BZ hi;replace hb:DE F l ha=some t46:=hb;unfold DE at hb;refine Ag (wv (Cj rfl rfl) (Am (Ai (cz hb rfl (λhk hl=>?_) (λhk hm=>?_)))))
   ·refine Ar (AJ (Ai (A9 (Ag (wm rfl (wa rfl (Bv (wm rfl (wm rfl (ck hl λhn ho=>wv (Bb (enc:=Aj) (ys:=l) E4 CV rfl rfl hn) (wv (Dc J3 CV rfl rfl rfl) (ob ho λhp hq hr=>CG Tryz.call60 (WO F (Ao l ha) hp hq) rfl (wa rfl (Bv (wm rfl (wv (CQ rfl rfl) (Am (cz hr rfl (λhs ht=>?_) (λhs hu=>?_)))))))))))))))))))
    ·refine Ag (wm rfl (wa rfl (Am (Av (Ay (Ac (Ac (AR ?_))))))));have hw:=Bo ht he hf;refine Ay (Ac ?_);obtain rfl:=Aw hw;exact Au (BQ Tryz.results37 (AG rfl)) sN ⟨rfl,rfl⟩
    ·refine Ar (AA (AJ (Ah (ck hu λhx hy=>wv (Bk rfl rfl hx) (wm rfl (Ak ?_))))));have hz:=Ba hy he;exact Az (A3 (hj,ha+1,()) ⟨hz,AcM _⟩ (A6.c rfl (A6.c rfl (A6.c rfl (A6.c rfl A6.nil)))) sN)
   ·refine Bl (As ?_);have h0:=BB hm he hf;exact As (AV (A3 ((),()) h0 (A6.c rfl A6.nil) sN))
  ·rintro⟨⟨⟩,⟨⟩⟩ hd;refine Cb (l':=[(2,Ap 0)]) (H':=[]) rfl rfl ?_;replace hd:N1 =some r:=hd;unfold N1 at hd;refine AW (AJ (Ag (wa rfl (Am (Av ?_)))));obtain rfl:=Aw hd;exact Au (BQ Tryz.results37 (AG rfl)) sN ⟨rfl,rfl⟩
theorem WW (F:Nat)(a:(List Aa))(b:(List Aa))(r:Bool)(h:H3 F a b=some r):Fn Tryz.prog GE 41 [AQ 4 (A8 Ab a),AQ 4 (A8 Ab b)] [] (λR H=>R=rB r∧H=[]):=by
 refine enter (n:=26) Tryz.func41 rfl Tryz.ntmps41 rfl (λw Z=>?_);unfold H3 at h;refine Ag (wa rfl (Am (Ai (Ag (wm rfl (wv (Be (ys:=a) (enc:=Ab) Cg rfl) (wm rfl (wv (Be (ys:=b) (enc:=Ab) Cg rfl) (wv (CQ rfl rfl) (Am (cz h rfl (λc1 h2=>?_) (λc1 h3=>?_))))))))))))
 ·refine Ag (wa rfl (Am (Av (Ac ?_))));obtain rfl:=Aw h2;exact Au (BQ Tryz.results41 (AG rfl)) sN ⟨rfl,rfl⟩
 ·refine Ar (AJ (Ai (Ag (wm rfl (wv (Be (ys:=a) (enc:=Ab) Cg rfl) (wv (r:=Ap 0) (Al rfl) (Am (A9 (ob h3 λhg hh hf=>Bg (S:=Nat×(Int)×(Unit)) (V:=(Unit)×(Unit)) 0 (λσ=>B7 (λσ=>Ev a b σ) σ.1 σ.2.1=some hg) (λσ=>[(0,AQ 4 (A8 Ab a)),(1,AQ 4 (A8 Ab b)),(12,Ap (a.length:Int)),(13,Ap σ.2.1)]) (λσ=>[]) (λσ=>σ.1) (F,0,()) hh (A6.c rfl (A6.c rfl (A6.c rfl (A6.c rfl A6.nil)))) sN (λσ=>Kg =some r) (λσ=>[]) (λσ=>[]) ?_ ?_)))))))))
  ·rintro⟨h1,ha,⟨⟩⟩ hi;refine BG (l':=[(0,AQ 4 (A8 Ab a)),(1,AQ 4 (A8 Ab b)),(12,Ap (a.length:Int)),(13,Ap ha)]) (H':=[]) rfl rfl ?_;obtain⟨hj,rfl,hk,hb,he⟩:=BZ hi;replace hb:Ev a b ha=some hk:=hb;unfold Ev at hb;refine Ag (wv (Cj rfl rfl) (Am (Ai (cz hb rfl (λhl hm=>?_) (λhl hn=>?_)))))
   ·refine Ar (AJ (Ai (A9 (Ag (wm rfl (wa rfl (Am (Ai (ck hm λho hp=>ck hp λhq hr=>C1 [0,1,5,12,13] [⟨[],AQ 4 (A8 Ab a),0⟩,⟨[],Ap ha,0⟩,⟨[0,1],E6 (Ab (Ao a ha)),0⟩,⟨[2],BK (Ab (Ao a ha)),0⟩,⟨[],AQ 4 (A8 Ab b),0⟩,⟨[],Ap ha,0⟩,⟨[4,5],E6 (Ab (Ao b ha)),0⟩,⟨[6],BK (Ab (Ao b ha)),0⟩,⟨[3,7],rB (!(decide (((Ao a ha).fKind)=((Ao b ha).fKind))&&decide (((Ao a ha).fInt)=((Ao b ha).fInt))&&decide (((Ao a ha).fStr)=((Ao b ha).fStr))&&decide (((Ao a ha).fN)=((Ao b ha).fN)))),0⟩] [16,17,18,19,20,21,22,23,24,0,1,12,13] ?_ ?_)))))))))
    ·refine oq (Al rfl) (oq (Al rfl) (oq (Bb (enc:=Ab) (ys:=a) Cg CK rfl rfl ho) (oq (Dc NN CK rfl rfl rfl) (oq (Al rfl) (oq (Al rfl) (oq (Bb (enc:=Ab) (ys:=b) Cg CK rfl rfl hq) (oq (Dc NN CK rfl rfl rfl) (oq (RJ rfl rfl) ?_))))))));exact Cd
    refine AJ (cz hr rfl (λhs ht=>?_) (λhs hu=>?_))
    ·refine Ag (wa rfl (Am (Av (Ay (Ac (Ac (AR ?_)))))));have hw:=Bo ht he hf;refine Ay (Ac ?_);obtain rfl:=Aw hw;exact Au (BQ Tryz.results41 (AG rfl)) sN ⟨rfl,rfl⟩
    ·refine Ar (AA (AJ (Ah (ck hu λhx hy=>wv (Bk rfl rfl hx) (wm rfl (Ak ?_))))));have hz:=Ba hy he;exact Az (A3 (hj,ha+1,()) ⟨hz,AcM _⟩ (A6.c rfl (A6.c rfl (A6.c rfl (A6.c rfl A6.nil)))) sN)
   ·refine Bl (As ?_);have h0:=BB hn he hf;exact As (AV (A3 ((),()) h0 A6.nil sN))
  ·rintro⟨⟨⟩,⟨⟩⟩ hd;refine Cb (l':=[]) (H':=[]) rfl rfl ?_;replace hd:Kg =some r:=hd;unfold Kg at hd;refine AW (AJ (Ag (wa rfl (Am (Av ?_)))));obtain rfl:=Aw hd;exact Au (BQ Tryz.results41 (AG rfl)) sN ⟨rfl,rfl⟩
theorem WS (F:Nat)(a:(List Ae))(b:(List Ae))(r:Bool)(h:GN F a b=some r):Fn Tryz.prog GE 19 [AQ 3 (A8 Aq a),AQ 3 (A8 Aq b)] [] (λR H=>R=rB r∧H=[]):=by
 refine enter (n:=55) Tryz.func19 rfl Tryz.ntmps19 rfl (λw Z=>?_);unfold GN at h;refine Ag (wa rfl (Am (Ai (Ag (wm rfl (wv (Be (ys:=a) (enc:=Aq) DW rfl) (wm rfl (wv (Be (ys:=b) (enc:=Aq) DW rfl) (wv (CQ rfl rfl) (Am (cz h rfl (λc1 h2=>?_) (λc1 h3=>?_))))))))))))
 ·refine Ag (wa rfl (Am (Av (Ac ?_))));obtain rfl:=Aw h2;exact Au (BQ Tryz.results19 (AG rfl)) sN ⟨rfl,rfl⟩
 ·refine Ar (AJ (Ai (Ag (wm rfl (wv (Be (ys:=a) (enc:=Aq) DW rfl) (wv (r:=Ap 0) (Al rfl) (Am (A9 (ob h3 λhk hl hj=>Bg (S:=Nat×(Int)×(Unit)) (V:=(Unit)×(Unit)) 0 (λσ=>B7 (λσ=>Er F a b σ) σ.1 σ.2.1=some hk) (λσ=>[(0,AQ 3 (A8 Aq a)),(1,AQ 3 (A8 Aq b)),(12,Ap (a.length:Int)),(13,Ap σ.2.1)]) (λσ=>[]) (λσ=>σ.1) (F,0,()) hl (A6.c rfl (A6.c rfl (A6.c rfl (A6.c rfl A6.nil)))) sN (λσ=>Kc =some r) (λσ=>[]) (λσ=>[]) ?_ ?_)))))))))
  ·rintro⟨h7,ha,⟨⟩⟩ hm;refine BG (l':=[(0,AQ 3 (A8 Aq a)),(1,AQ 3 (A8 Aq b)),(12,Ap (a.length:Int)),(13,Ap ha)]) (H':=[]) rfl rfl ?_;obtain⟨hn,rfl,ho,hg,hi⟩:=BZ hm;replace hg:Er F a b ha=some ho:=hg;unfold Er at hg;refine Ag (wv (Cj rfl rfl) (Am (Ai (cz hg rfl (λhp hq=>?_) (λhp hr=>?_)))))
   ·refine Ar (AJ (Ai (A9 (Ag (wm rfl (wa rfl (Am (ck hq λhe hs=>ck hs λhf ht=>ck ht λhu hw=>AK [(0,AQ 3 (A8 Aq a)),(1,AQ 3 (A8 Aq b)),(12,Ap (a.length:Int)),(13,Ap ha),(16,AQ 3 (A8 Aq a)),(17,Ap ha),(18,E6 (Aq (Ao a ha))),(19,E6 (Aq (Ao a ha))),(20,rS ((Ao a ha).fKey)),(21,AQ 3 (A8 Aq b)),(22,Ap ha),(23,E6 (Aq (Ao b ha))),(24,E6 (Aq (Ao b ha))),(25,rS ((Ao b ha).fKey)),(26,rB (!decide (((Ao a ha).fKey)=((Ao b ha).fKey)))),(27,rB (!decide (((Ao a ha).fKey)=((Ao b ha).fKey)))),(39,rB ((!decide (((Ao a ha).fKey)=((Ao b ha).fKey)))||(!decide (((Ao a ha).fVersion)=((Ao b ha).fVersion))))),(40,rB ((!decide (((Ao a ha).fKey)=((Ao b ha).fKey)))||(!decide (((Ao a ha).fVersion)=((Ao b ha).fVersion))))),(53,rB ((!decide (((Ao a ha).fKey)=((Ao b ha).fKey)))||((!decide (((Ao a ha).fVersion)=((Ao b ha).fVersion)))||(!(ov (H3 F ((Ao a ha).fValue) ((Ao b ha).fValue)))))))] [] ?_ ?_))))))))
    ·refine AS (!decide (((Ao a ha).fKey)=((Ao b ha).fKey))) (λhb=>?_) (λhb=>?_)
     ·refine C1 [0,1,5,12,13] [⟨[],AQ 3 (A8 Aq a),0⟩,⟨[],Ap ha,0⟩,⟨[0,1],E6 (Aq (Ao a ha)),0⟩,⟨[2],E6 (Aq (Ao a ha)),0⟩,⟨[3],rS ((Ao a ha).fKey),0⟩,⟨[],AQ 3 (A8 Aq b),0⟩,⟨[],Ap ha,0⟩,⟨[5,6],E6 (Aq (Ao b ha)),0⟩,⟨[7],E6 (Aq (Ao b ha)),0⟩,⟨[8],rS ((Ao b ha).fKey),0⟩,⟨[4,9],rB (!decide (((Ao a ha).fKey)=((Ao b ha).fKey))),0⟩,⟨[10],rB (!decide (((Ao a ha).fKey)=((Ao b ha).fKey))),0⟩,⟨[11],rv undef,0⟩,⟨[11],rv undef,0⟩,⟨[12,13,11],rv undef,0⟩,⟨[14,11],rv undef,0⟩,⟨[15,11],rv undef,0⟩,⟨[11],rv undef,0⟩,⟨[11],rv undef,0⟩,⟨[17,18,11],rv undef,0⟩,⟨[19,11],rv undef,0⟩,⟨[20,11],rv undef,0⟩,⟨[16,21,11],rv undef,0⟩,⟨[11,22],rB true,0⟩,⟨[23],rB true,0⟩,⟨[24],rv undef,0⟩,⟨[24],rv undef,0⟩,⟨[25,26,24],rv undef,0⟩,⟨[27,24],rv undef,0⟩,⟨[28,24],rv undef,0⟩,⟨[24],rv undef,0⟩,⟨[24],rv undef,0⟩,⟨[30,31,24],rv undef,0⟩,⟨[32,24],rv undef,0⟩,⟨[33,24],rv undef,0⟩,⟨[29,34,24],rv undef,0⟩,⟨[35,24],rv undef,0⟩,⟨[24,36],rB true,0⟩] [16,17,18,19,20,21,22,23,24,25,26,27,28,29,30,31,32,33,34,35,36,37,38,39,40,41,42,43,44,45,46,47,48,49,50,51,52,53,0,1,12,13] ?_ ?_
      ·refine oq (Al rfl) (oq (Al rfl) (oq (Bb (enc:=Aq) (ys:=a) DW CW rfl rfl he) (oq (AN DX rfl Cs rfl rfl) (oq (AU CU rfl rfl) (oq (Al rfl) (oq (Al rfl) (oq (Bb (enc:=Aq) (ys:=b) DW CW rfl rfl hf) (oq (AN DX rfl Cs rfl rfl) (oq (AU CU rfl rfl) (oq (JE rfl rfl) (oq (Al rfl) (oz hb (oz hb (oz hb (oz hb (oz hb (oz hb (oz hb (oz hb (oz hb (oz hb (oz hb (oq (A1 (b:=!decide (((Ao a ha).fKey)=((Ao b ha).fKey))) rfl hb rfl) ?_)))))))))))))))))))))));refine oq (Al rfl) (oz rfl (oz rfl (oz rfl (oz rfl (oz rfl (oz rfl (oz rfl (oz rfl (oz rfl (oz rfl (oz rfl (oz rfl (oq (A1 (b:=true) rfl rfl rfl) ?_)))))))))))));exact Cd
      exact Cm hb
     ·refine AS (!decide (((Ao a ha).fVersion)=((Ao b ha).fVersion))) (λhd=>?_) (λhd=>?_)
      ·refine C1 [0,1,5,12,13] [⟨[],AQ 3 (A8 Aq a),0⟩,⟨[],Ap ha,0⟩,⟨[0,1],E6 (Aq (Ao a ha)),0⟩,⟨[2],E6 (Aq (Ao a ha)),0⟩,⟨[3],rS ((Ao a ha).fKey),0⟩,⟨[],AQ 3 (A8 Aq b),0⟩,⟨[],Ap ha,0⟩,⟨[5,6],E6 (Aq (Ao b ha)),0⟩,⟨[7],E6 (Aq (Ao b ha)),0⟩,⟨[8],rS ((Ao b ha).fKey),0⟩,⟨[4,9],rB (!decide (((Ao a ha).fKey)=((Ao b ha).fKey))),0⟩,⟨[10],rB (!decide (((Ao a ha).fKey)=((Ao b ha).fKey))),0⟩,⟨[11],AQ 3 (A8 Aq a),0⟩,⟨[11],Ap ha,0⟩,⟨[12,13,11],E6 (Aq (Ao a ha)),0⟩,⟨[14,11],E6 [Ap ((Ao a ha).fVersion)],0⟩,⟨[15,11],Ap ((Ao a ha).fVersion),0⟩,⟨[11],AQ 3 (A8 Aq b),0⟩,⟨[11],Ap ha,0⟩,⟨[17,18,11],E6 (Aq (Ao b ha)),0⟩,⟨[19,11],E6 [Ap ((Ao b ha).fVersion)],0⟩,⟨[20,11],Ap ((Ao b ha).fVersion),0⟩,⟨[16,21,11],rB (!decide (((Ao a ha).fVersion)=((Ao b ha).fVersion))),0⟩,⟨[11,22],rB (!decide (((Ao a ha).fVersion)=((Ao b ha).fVersion))),0⟩,⟨[23],rB (!decide (((Ao a ha).fVersion)=((Ao b ha).fVersion))),0⟩,⟨[24],rv undef,0⟩,⟨[24],rv undef,0⟩,⟨[25,26,24],rv undef,0⟩,⟨[27,24],rv undef,0⟩,⟨[28,24],rv undef,0⟩,⟨[24],rv undef,0⟩,⟨[24],rv undef,0⟩,⟨[30,31,24],rv undef,0⟩,⟨[32,24],rv undef,0⟩,⟨[33,24],rv undef,0⟩,⟨[29,34,24],rv undef,0⟩,⟨[35,24],rv undef,0⟩,⟨[24,36],rB true,0⟩] [16,17,18,19,20,21,22,23,24,25,26,27,28,29,30,31,32,33,34,35,36,37,38,39,40,41,42,43,44,45,46,47,48,49,50,51,52,53,0,1,12,13] ?_ ?_
       ·refine oq (Al rfl) (oq (Al rfl) (oq (Bb (enc:=Aq) (ys:=a) DW CW rfl rfl he) (oq (AN DX rfl Cs rfl rfl) (oq (AU CU rfl rfl) (oq (Al rfl) (oq (Al rfl) (oq (Bb (enc:=Aq) (ys:=b) DW CW rfl rfl hf) (oq (AN DX rfl Cs rfl rfl) (oq (AU CU rfl rfl) (oq (JE rfl rfl) (oq (Al rfl) (on hb (oq (Al rfl) (on hb (oq (Al rfl) (on hb (oq (Bb (enc:=Aq) (ys:=a) DW CW rfl rfl he) (on hb (oq (AN DX rfl Ct rfl rfl) (on hb (oq (AU CX rfl rfl) (on hb (oq (Al rfl) ?_)))))))))))))))))))))));refine on hb (oq (Al rfl) (on hb (oq (Bb (enc:=Aq) (ys:=b) DW CW rfl rfl hf) (on hb (oq (AN DX rfl Ct rfl rfl) (on hb (oq (AU CX rfl rfl) (on hb (oq (CQ rfl rfl) (oq (AC rfl hb rfl) (oq (Al rfl) (oz hd (oz hd (oz hd (oz hd (oz hd (oz hd (oz hd (oz hd (oz hd (oz hd (oz hd (oz hd ?_)))))))))))))))))))))));refine oq (A1 (b:=!decide (((Ao a ha).fVersion)=((Ao b ha).fVersion))) rfl hd rfl) ?_;exact Cd
       exact Cm (And.intro hb hd)
      ·refine C1 [0,1,5,12,13] [⟨[],AQ 3 (A8 Aq a),0⟩,⟨[],Ap ha,0⟩,⟨[0,1],E6 (Aq (Ao a ha)),0⟩,⟨[2],E6 (Aq (Ao a ha)),0⟩,⟨[3],rS ((Ao a ha).fKey),0⟩,⟨[],AQ 3 (A8 Aq b),0⟩,⟨[],Ap ha,0⟩,⟨[5,6],E6 (Aq (Ao b ha)),0⟩,⟨[7],E6 (Aq (Ao b ha)),0⟩,⟨[8],rS ((Ao b ha).fKey),0⟩,⟨[4,9],rB (!decide (((Ao a ha).fKey)=((Ao b ha).fKey))),0⟩,⟨[10],rB (!decide (((Ao a ha).fKey)=((Ao b ha).fKey))),0⟩,⟨[11],AQ 3 (A8 Aq a),0⟩,⟨[11],Ap ha,0⟩,⟨[12,13,11],E6 (Aq (Ao a ha)),0⟩,⟨[14,11],E6 [Ap ((Ao a ha).fVersion)],0⟩,⟨[15,11],Ap ((Ao a ha).fVersion),0⟩,⟨[11],AQ 3 (A8 Aq b),0⟩,⟨[11],Ap ha,0⟩,⟨[17,18,11],E6 (Aq (Ao b ha)),0⟩,⟨[19,11],E6 [Ap ((Ao b ha).fVersion)],0⟩,⟨[20,11],Ap ((Ao b ha).fVersion),0⟩,⟨[16,21,11],rB (!decide (((Ao a ha).fVersion)=((Ao b ha).fVersion))),0⟩,⟨[11,22],rB (!decide (((Ao a ha).fVersion)=((Ao b ha).fVersion))),0⟩,⟨[23],rB (!decide (((Ao a ha).fVersion)=((Ao b ha).fVersion))),0⟩,⟨[24],AQ 3 (A8 Aq a),0⟩,⟨[24],Ap ha,0⟩,⟨[25,26,24],E6 (Aq (Ao a ha)),0⟩,⟨[27,24],E6 [AQ 4 (A8 Ab ((Ao a ha).fValue)),Ap ((Ao a ha).fVersion)],0⟩,⟨[28,24],AQ 4 (A8 Ab ((Ao a ha).fValue)),0⟩,⟨[24],AQ 3 (A8 Aq b),0⟩,⟨[24],Ap ha,0⟩,⟨[30,31,24],E6 (Aq (Ao b ha)),0⟩,⟨[32,24],E6 [AQ 4 (A8 Ab ((Ao b ha).fValue)),Ap ((Ao b ha).fVersion)],0⟩,⟨[33,24],AQ 4 (A8 Ab ((Ao b ha).fValue)),0⟩,⟨[29,34,24],rB (ov (H3 F ((Ao a ha).fValue) ((Ao b ha).fValue))),0⟩,⟨[35,24],rB (!(ov (H3 F ((Ao a ha).fValue) ((Ao b ha).fValue)))),0⟩,⟨[24,36],rB (!(ov (H3 F ((Ao a ha).fValue) ((Ao b ha).fValue)))),0⟩] [16,17,18,19,20,21,22,23,24,25,26,27,28,29,30,31,32,33,34,35,36,37,38,39,40,41,42,43,44,45,46,47,48,49,50,51,52,53,0,1,12,13] ?_ ?_
       ·refine oq (Al rfl) (oq (Al rfl) (oq (Bb (enc:=Aq) (ys:=a) DW CW rfl rfl he) (oq (AN DX rfl Cs rfl rfl) (oq (AU CU rfl rfl) (oq (Al rfl) (oq (Al rfl) (oq (Bb (enc:=Aq) (ys:=b) DW CW rfl rfl hf) (oq (AN DX rfl Cs rfl rfl) (oq (AU CU rfl rfl) (oq (JE rfl rfl) (oq (Al rfl) (on hb (oq (Al rfl) (on hb (oq (Al rfl) (on hb (oq (Bb (enc:=Aq) (ys:=a) DW CW rfl rfl he) (on hb (oq (AN DX rfl Ct rfl rfl) (on hb (oq (AU CX rfl rfl) (on hb (oq (Al rfl) ?_)))))))))))))))))))))));refine on hb (oq (Al rfl) (on hb (oq (Bb (enc:=Aq) (ys:=b) DW CW rfl rfl hf) (on hb (oq (AN DX rfl Ct rfl rfl) (on hb (oq (AU CX rfl rfl) (on hb (oq (CQ rfl rfl) (oq (AC rfl hb rfl) (oq (Al rfl) (on hd (oq (Al rfl) (on hd (oq (Al rfl) (on hd (oq (Bb (enc:=Aq) (ys:=a) DW CW rfl rfl he) (on hd (oq (AN DX rfl CO rfl rfl) (on hd (oq (AU EL rfl rfl) (on hd (oq (Al rfl) ?_)))))))))))))))))))))));refine on hd (oq (Al rfl) (on hd (oq (Bb (enc:=Aq) (ys:=b) DW CW rfl rfl hf) (on hd (oq (AN DX rfl CO rfl rfl) (on hd (oq (AU EL rfl rfl) (DN rfl (λH=>MX (b:=!decide (((Ao a ha).fVersion)=((Ao b ha).fVersion))) rfl rfl hd (HP Tryz.call41 (WW F ((Ao a ha).fValue) ((Ao b ha).fValue) (ov (H3 F ((Ao a ha).fValue) ((Ao b ha).fValue))) (Jy (D6 (D6 hu hb) hd))) rfl)) ?_))))))));refine on hd (oq (Ci rfl) (oq (AC rfl hd rfl) ?_));exact Cd
       exact Cm (And.intro hb hd)
    refine cz hw rfl (λhx hy=>?_) (λhx hz=>?_)
    ·refine Ag (wa rfl (Am (Av (Ay (Ac (Ac (AR ?_)))))));have h0:=Bo hy hi hj;refine Ay (Ac ?_);obtain rfl:=Aw h0;exact Au (BQ Tryz.results19 (AG rfl)) sN ⟨rfl,rfl⟩
    ·refine Ar (AA (AJ (Ah (ck hz λh1 h4=>wv (Bk rfl rfl h1) (wm rfl (Ak ?_))))));have h5:=Ba h4 hi;exact Az (A3 (hn,ha+1,()) ⟨h5,AcM _⟩ (A6.c rfl (A6.c rfl (A6.c rfl (A6.c rfl A6.nil)))) sN)
   ·refine Bl (As ?_);have h6:=BB hr hi hj;exact As (AV (A3 ((),()) h6 A6.nil sN))
  ·rintro⟨⟨⟩,⟨⟩⟩ hh;refine Cb (l':=[]) (H':=[]) rfl rfl ?_;replace hh:Kc =some r:=hh;unfold Kc at hh;refine AW (AJ (Ag (wa rfl (Am (Av ?_)))));obtain rfl:=Aw hh;exact Au (BQ Tryz.results19 (AG rfl)) sN ⟨rfl,rfl⟩
end Go.Proofs.YtjfnokmpfekniaaGreatDoor.Q
namespace Go.Proofs.YtjfnokmpfekniaaGreatDoor
open Go
def Lf (k:IntKind)(x y:Int):Int:=k.wrap ((BitVec.ofInt k.bits x&&& BitVec.ofInt k.bits y).toNat:Int)
def IR (k:IntKind)(x y:Int):Int:=k.wrap ((BitVec.ofInt k.bits x||| BitVec.ofInt k.bits y).toNat:Int)
def E5 (k:IntKind)(x y:Int):Int:=k.wrap ((BitVec.ofInt k.bits x^^^BitVec.ofInt k.bits y).toNat:Int)
def Q9 (k:IntKind)(x:Int):Int:=E5 k (if k.signed then -1 else k.max) x
def CS (k:IntKind)(x n:Int):Int:=k.wrap (x*2 ^ (min n.toNat k.bits))
def BH (k:IntKind)(x n:Int):Int:=x.fdiv (2 ^ (min n.toNat k.bits))
set_option linter.unusedVariables false
def G6 (hb:Int)(ha:Int):Option (Stp (Int×Int) (Out (Stp (Int×(List Int)) (Out ((List Int)) ((List Int)))) (Int×Int×Bool))):=
 Bf (decide (ha<8)) (AX (B9 .i64 (ha+1))<|some (.next ((bif decide ((Lf .u32 hb 1)=1) then E5 .u32 (BH .u32 hb 1) 3988292384 else BH .u32 hb 1),ha+1))) (some (.out (.go (hb,ha,decide (ha<8)))))
def IH (ha:Int)(hb:(List Int))(hd:Int)(he:Int)(hf:Bool):Option (Stp (Int×(List Int)) (Out ((List Int)) ((List Int)))):=
 AX (CJ ha 256)<|AX (CJ ha (hb.length:Int))<|AX (B9 .i64 (ha+1))<|some (.next (ha+1,List.set hb (Int.toNat ha) hd))
def G7 (F:Nat)(ha:Int)(hb:(List Int)):Option (Stp (Int×(List Int)) (Out ((List Int)) ((List Int)))):=
 Bf (decide (ha<256)) (Br (B7 (λσ=>G6 σ.1 σ.2) F (IntKind.wrap .u32 ha,0)) (B5 λν=>IH ha hb ν.1 ν.2.1 ν.2.2)) (some (.out (.go hb)))
def II (ha:(List Int)):Option ((List Int)):=
 AX (decide (ha.length=256))<|AX (decide ((List.replicate 256 (0:Int)).length=256))<|some ha
def OH (F:Nat) :Option ((List Int)):=
 Br (B7 (λσ=>G7 F σ.1 σ.2) F (0,List.replicate 256 (0:Int))) (B5 λν=>II ν)
def GZ (s:Af)(r1:(List Int))(hb:Int)(ha:Int):Option (Stp (Int×Int) (Out (Int) (Int))):=
 Bf (decide (ha<(s.length:Int))) (AX (CJ ha (s.length:Int))<|AX (CJ (E5 .u8 (IntKind.wrap .u8 hb) (Bm s ha)) 256)<|AX (CJ (E5 .u8 (IntKind.wrap .u8 hb) (Bm s ha)) (r1.length:Int))<|AX (B9 .i64 (ha+1))<|some (.next (E5 .u32 (Ao r1 (E5 .u8 (IntKind.wrap .u8 hb) (Bm s ha))) (BH .u32 hb 8),ha+1))) (some (.out (.go hb)))
def ND (ha:Int):Option (Int):=
 some (Q9 .u32 ha)
def VK (F:Nat)(s:Af):Option (Int):=
 Br (OH F) λr1=>AX (decide ((List.replicate 256 (0:Int)).length=256))<|AX (decide (r1.length=256))<|Br (B7 (λσ=>GZ s r1 σ.1 σ.2) F (4294967295,0)) (B5 λν=>ND ν)
def K1 (n:Int):Option (Af):=
 some (Id ([IntKind.wrap .u8 (BH .u32 n 24),IntKind.wrap .u8 (BH .u32 n 16),IntKind.wrap .u8 (BH .u32 n 8),IntKind.wrap .u8 n]:List Int))
def Kw (s:Af):Option (Int):=
 AX (CJ 0 (s.length:Int))<|AX (CJ 1 (s.length:Int))<|AX (CJ 2 (s.length:Int))<|AX (CJ 3 (s.length:Int))<|some (IR .u32 (IR .u32 (IR .u32 (CS .u32 (IntKind.wrap .u32 (Bm s 0)) 24) (CS .u32 (IntKind.wrap .u32 (Bm s 1)) 16)) (CS .u32 (IntKind.wrap .u32 (Bm s 2)) 8)) (IntKind.wrap .u32 (Bm s 3)))
def GJ (fields:(List Af))(hb:(List Int))(ha:Int):Option (Stp ((List Int)×Int) (Out (Af×Int) ((List Int)))):=
 Bf (decide (ha<(fields.length:Int))) (AX (CJ ha (fields.length:Int))<|Bf (decide (4000<((Ao fields ha).length:Int))) (some (.out (.ret (([]:Af),3)))) (AX (Dw 1 (hb.length+([IntKind.wrap .u8 (BH .i64 ((Ao fields ha).length:Int) 8),IntKind.wrap .u8 ((Ao fields ha).length:Int)]:List Int).length))<|AX (Dw 1 ((hb++([IntKind.wrap .u8 (BH .i64 ((Ao fields ha).length:Int) 8),IntKind.wrap .u8 ((Ao fields ha).length:Int)]:List Int)).length+(Ao fields ha).length))<|AX (B9 .i64 (ha+1))<|some (.next ((hb++([IntKind.wrap .u8 (BH .i64 ((Ao fields ha).length:Int) 8),IntKind.wrap .u8 ((Ao fields ha).length:Int)]:List Int))++C8 (Ao fields ha),ha+1)))) (some (.out (.go hb)))
def LY (ha:(List Int)):Option (Af×Int):=
 some (Id ha,0)
def PT (F:Nat)(fields:(List Af)):Option (Af×Int):=
 Bf (decide (64<(fields.length:Int))) (some (([]:Af),3)) (Br (B7 (λσ=>GJ fields σ.1 σ.2) F (([IntKind.wrap .u8 (fields.length:Int)]:List Int),0)) (B5 λν=>LY ν))
def DJ (ha:Int):Option ((List Af)×Int):=
 some (([]:List Af),ha)
def C6 (s:Af)(ha:Af)(hb:(List Af))(hh:Int)(hd:Int):Option (Stp (Af×(List Af)×Int×Int) (Out ((List Af)×Int) (Af×(List Af)))):=
 Bf (decide (hd<(Bm s 0))) (Bf (decide ((ha.length:Int)<2)) (Br (DJ 14) λhe=>some (.out (.ret he))) (AX (CJ 0 (ha.length:Int))<|AX (B9 .i64 (Bm ha 0))<|AX (CJ 1 (ha.length:Int))<|AX (B9 .i64 (Bm ha 1))<|AX (HU 2 (ha.length:Int))<|Bf (decide (4000<(IR .i64 (CS .i64 (Bm ha 0) 8) (Bm ha 1)))) (Br (DJ 13) λhf=>some (.out (.ret hf))) (Bf (decide (((List.drop (Int.toNat 2) ha).length:Int)<(IR .i64 (CS .i64 (Bm ha 0) 8) (Bm ha 1)))) (Br (DJ 14) λhg=>some (.out (.ret hg))) (AX (HU (IR .i64 (CS .i64 (Bm ha 0) 8) (Bm ha 1)) ((List.drop (Int.toNat 2) ha).length:Int))<|AX (Dw 16 (hb.length+([List.take (Int.toNat (IR .i64 (CS .i64 (Bm ha 0) 8) (Bm ha 1))) (List.drop (Int.toNat 2) ha)]:List Af).length))<|AX (B9 .i64 (hd+1))<|some (.next (List.drop (Int.toNat (IR .i64 (CS .i64 (Bm ha 0) 8) (Bm ha 1))) (List.drop (Int.toNat 2) ha),hb++([List.take (Int.toNat (IR .i64 (CS .i64 (Bm ha 0) 8) (Bm ha 1))) (List.drop (Int.toNat 2) ha)]:List Af),IR .i64 (CS .i64 (Bm ha 0) 8) (Bm ha 1),hd+1)))))) (some (.out (.go (ha,hb))))
def EQ (hb:Af)(ha:(List Af)):Option ((List Af)×Int):=
 Bf (!decide (hb=([]:Af))) (DJ 13) (AX (HU (ha.length:Int) (ha.length:Int))<|some (List.take (Int.toNat (ha.length:Int)) ha,0))
def LX (F:Nat)(s:Af):Option ((List Af)×Int):=
 Bf (decide (s=([]:Af))) (DJ 14) (AX (CJ 0 (s.length:Int))<|AX (B9 .i64 (Bm s 0))<|AX (HU 1 (s.length:Int))<|Bf (decide (64<(Bm s 0))) (DJ 13) (Br (B7 (λσ=>C6 s σ.1 σ.2.1 σ.2.2.1 σ.2.2.2) F (List.drop (Int.toNat 1) s,([]:List Af),0,0)) (B5 λν=>EQ ν.1 ν.2)))
def OK (F:Nat)(body:Af):Option (Af×Int):=
 Bf (decide (262136<(body.length:Int))) (some (([]:Af),3)) (Br (K1 (IntKind.wrap .u32 (body.length:Int))) λr4=>Br (VK F body) λr7=>Br (K1 r7) λha=>AX (B9 .i64 ((r4.length:Int)+(ha.length:Int)))<|AX (B9 .i64 (((r4++ha).length:Int)+(body.length:Int)))<|some ((r4++ha)++body,0))
def Sr (F:Nat)(s:Af):Option (Af×Int×Int):=
 Bf (decide ((s.length:Int)<8)) (some (([]:Af),0,14)) (Br (Kw s) λr4=>Bf (decide (262136<(IntKind.wrap .i64 r4))) (some (([]:Af),0,13)) (AX (B9 .i64 ((s.length:Int)-8))<|Bf (decide (((s.length:Int)-8)<(IntKind.wrap .i64 r4))) (some (([]:Af),0,14)) (AX (B9 .i64 (8+(IntKind.wrap .i64 r4)))<|AX (HU 8 (8+(IntKind.wrap .i64 r4)))<|AX (HU (8+(IntKind.wrap .i64 r4)) (s.length:Int))<|Br (VK F (List.take (Int.toNat (8+(IntKind.wrap .i64 r4))-Int.toNat 8) (List.drop (Int.toNat 8) s))) λha=>AX (HU 4 (s.length:Int))<|Br (Kw (List.drop (Int.toNat 4) s)) λhb=>Bf (!decide (ha=hb)) (some (([]:Af),0,13)) (some (List.take (Int.toNat (8+(IntKind.wrap .i64 r4))-Int.toNat 8) (List.drop (Int.toNat 8) s),8+(IntKind.wrap .i64 r4),0)))))
def G8 (F:Nat)(s:Af)(hd:(List Af))(ha:Int):Option (Stp ((List Af)×Int) (Out ((List Af)×Int) ((List Af)×Int))):=
 Bf (decide (ha<(s.length:Int))) (AX (HU ha (s.length:Int))<|Br (Sr F (List.drop (Int.toNat ha) s)) λhb=>Bf (!decide (hb.2.2=0)) (some (.out (.go (hd,ha)))) (AX (Dw 16 (hd.length+([hb.1]:List Af).length))<|AX (B9 .i64 (ha+hb.2.1))<|some (.next (hd++([hb.1]:List Af),ha+hb.2.1)))) (some (.out (.go (hd,ha))))
def IK (ha:(List Af))(hb:Int):Option ((List Af)×Int):=
 AX (HU (ha.length:Int) (ha.length:Int))<|some (List.take (Int.toNat (ha.length:Int)) ha,hb)
def OJ (F:Nat)(s:Af):Option ((List Af)×Int):=
 Br (B7 (λσ=>G8 F s σ.1 σ.2) F (([]:List Af),0)) (B5 λν=>IK ν.1 ν.2)
def Gm (F:Nat)(bodies:(List Af))(hb:(List Int))(hd:Int):Option (Stp ((List Int)×Int) (Out (Af×Int) ((List Int)))):=
 Bf (decide (hd<(bodies.length:Int))) (AX (CJ hd (bodies.length:Int))<|Br (OK F (Ao bodies hd)) λha=>AX (imp (!(!decide (ha.2=0))) (B9 .i64 ((hb.length:Int)+(ha.1.length:Int))))<|Bf (((!decide (ha.2=0))||(decide (262144<((hb.length:Int)+(ha.1.length:Int)))))) (some (.out (.ret (([]:Af),3)))) (AX (Dw 1 (hb.length+ha.1.length))<|AX (B9 .i64 (hd+1))<|some (.next (hb++C8 ha.1,hd+1)))) (some (.out (.go hb)))
def JN (ha:(List Int)):Option (Af×Int):=
 some (Id ha,0)
def Ss (F:Nat)(bodies:(List Af)):Option (Af×Int):=
 Br (B7 (λσ=>Gm F bodies σ.1 σ.2) F (([]:List Int),0)) (B5 λν=>JN ν)
def H4 (hb:Int)(ha:Int):Option (Stp (Int×Int) (Out (Stp (Int×Int) (Out (Int) (Int))) (Int×Int×Int×Bool))):=
 Bf (decide (ha<8)) (AX (B9 .i64 (ha+1))<|some (.next ((bif decide ((Lf .u32 hb 1)=1) then E5 .u32 (BH .u32 hb 1) 3988292384 else BH .u32 hb 1),ha+1))) (some (.out (.go (hb,ha,ha,decide (ha<8)))))
def JC (ha:Int)(hb:Int)(hd:Int)(he:Int)(hf:Bool):Option (Stp (Int×Int) (Out (Int) (Int))):=
 AX (B9 .i64 (ha+1))<|some (.next (hb,ha+1))
def Gg (F:Nat)(s:Af)(hb:Int)(ha:Int):Option (Stp (Int×Int) (Out (Int) (Int))):=
 Bf (decide (ha<(s.length:Int))) (AX (CJ ha (s.length:Int))<|Br (B7 (λσ=>H4 σ.1 σ.2) F (E5 .u32 hb (IntKind.wrap .u32 (Bm s ha)),0)) (B5 λν=>JC ha ν.1 ν.2.1 ν.2.2.1 ν.2.2.2)) (some (.out (.go hb)))
def L9 (ha:Int):Option (Int):=
 some (Q9 .u32 ha)
def R6 (F:Nat)(s:Af):Option (Int):=
 Br (B7 (λσ=>Gg F s σ.1 σ.2) F (4294967295,0)) (B5 λν=>L9 ν)
def Mw (n:Int):Option ((List Int)):=
 some ([IntKind.wrap .u8 (BH .u32 n 24),IntKind.wrap .u8 (BH .u32 n 16),IntKind.wrap .u8 (BH .u32 n 8),IntKind.wrap .u8 n]:List Int)
def EV (fields:(List Af))(hb:(List Int))(ha:Int):Option (Stp ((List Int)×Int) (Out (Af×Int) ((List Int)))):=
 Bf (decide (ha<(fields.length:Int))) (AX (CJ ha (fields.length:Int))<|Bf (decide (4000<((Ao fields ha).length:Int))) (some (.out (.ret (([]:Af),3)))) (AX (B9 .i64 (Int.tdiv ((Ao fields ha).length:Int) 256))<|AX (Dw 1 (hb.length+([IntKind.wrap .u8 (Int.tdiv ((Ao fields ha).length:Int) 256),IntKind.wrap .u8 (Int.tmod ((Ao fields ha).length:Int) 256)]:List Int).length))<|AX (Dw 1 ((hb++([IntKind.wrap .u8 (Int.tdiv ((Ao fields ha).length:Int) 256),IntKind.wrap .u8 (Int.tmod ((Ao fields ha).length:Int) 256)]:List Int)).length+(Ao fields ha).length))<|AX (B9 .i64 (ha+1))<|some (.next ((hb++([IntKind.wrap .u8 (Int.tdiv ((Ao fields ha).length:Int) 256),IntKind.wrap .u8 (Int.tmod ((Ao fields ha).length:Int) 256)]:List Int))++C8 (Ao fields ha),ha+1)))) (some (.out (.go hb)))
def Kh (ha:(List Int)):Option (Af×Int):=
 some (Id ha,0)
def JB (F:Nat)(fields:(List Af)):Option (Af×Int):=
 Bf (decide (64<(fields.length:Int))) (some (([]:Af),3)) (Br (B7 (λσ=>EV fields σ.1 σ.2) F (([IntKind.wrap .u8 (fields.length:Int)]:List Int),0)) (B5 λν=>Kh ν))
def Mv (F:Nat)(body:Af):Option (Af×Int):=
 Bf (decide (262136<(body.length:Int))) (some (([]:Af),3)) (Br (Mw (IntKind.wrap .u32 (body.length:Int))) λr4=>Br (R6 F body) λr7=>Br (Mw r7) λha=>AX (B9 .i64 (((Id r4).length:Int)+((Id ha).length:Int)))<|AX (B9 .i64 ((((Id r4)++(Id ha)).length:Int)+(body.length:Int)))<|some (((Id r4)++(Id ha))++body,0))
def Ew (F:Nat)(bodies:(List Af))(hb:(List Int))(ha:Int):Option (Stp ((List Int)×Int) (Out (Af×Int) ((List Int)))):=
 Bf (decide (ha<(bodies.length:Int))) (AX (CJ ha (bodies.length:Int))<|Br (Mv F (Ao bodies ha)) λhd=>AX (Dw 1 (hb.length+hd.1.length))<|AX (B9 .i64 (ha+1))<|some (.next (hb++C8 hd.1,ha+1))) (some (.out (.go hb)))
def I3 (ha:(List Int)):Option (Af×Int):=
 some (Id ha,0)
def Ex (bodies:(List Af))(hb:Int)(ha:Int):Option (Stp (Int×Int) (Out (Af×Int) (Int))):=
 Bf (decide (ha<(bodies.length:Int))) (AX (CJ ha (bodies.length:Int))<|AX (imp (!(decide (262136<((Ao bodies ha).length:Int)))) (B9 .i64 (hb+8)))<|AX (imp (!(decide (262136<((Ao bodies ha).length:Int)))) (B9 .i64 ((hb+8)+((Ao bodies ha).length:Int))))<|Bf (((decide (262136<((Ao bodies ha).length:Int)))||(decide (262144<((hb+8)+((Ao bodies ha).length:Int)))))) (some (.out (.ret (([]:Af),3)))) (AX (B9 .i64 (hb+8))<|AX (B9 .i64 ((hb+8)+((Ao bodies ha).length:Int)))<|AX (B9 .i64 (ha+1))<|some (.next ((hb+8)+((Ao bodies ha).length:Int),ha+1)))) (some (.out (.go hb)))
def Hh (F:Nat)(bodies:(List Af))(ha:Int):Option (Af×Int):=
 AX (Dw 1 (Int.toNat ha))<|AX (decide (0≤ha))<|Br (B7 (λσ=>Ew F bodies σ.1 σ.2) F (([]:List Int),0)) (B5 λν=>I3 ν)
def On (F:Nat)(bodies:(List Af)):Option (Af×Int):=
 Br (B7 (λσ=>Ex bodies σ.1 σ.2) F (0,0)) (B5 λν=>Hh F bodies ν)
end Go.Proofs.YtjfnokmpfekniaaGreatDoor
namespace Go.Proofs.YtjfnokmpfekniaaGreatDoor.Q
open Go Go.RowKit
set_option linter.unusedVariables false
set_option linter.unusedSimpArgs false
section
variable {P : Program} {n : Nat} {c : Cx} {l : Fr} {H : List Ent} {d : Option Nat} {x y : Operand} {t t' ty : TypeId} {pos : String} {af : Array Edge} {g : Option (Nat × Bool)} {k k' : IntKind} {p q : Int}
theorem Aa2 (hx:ev l x=some (rI k p))(hy:ev l y=some (rI k q)):Bn P n c l H { dst:=d,op:=.binOp .and t x y t',type:=ty,pos:=pos,after:=af,guard:=g } (rI k (Lf k p q)):=λa w Z ha _=>CL<|by
 simp[execOp,ha.eval hx,ha.eval hy,Bw,binOp,Op.intBits,Lf]
theorem Z5 (hx:ev l x=some (rI k p))(hy:ev l y=some (rI k q)):Bn P n c l H { dst:=d,op:=.binOp .or t x y t',type:=ty,pos:=pos,after:=af,guard:=g } (rI k (IR k p q)):=λa w Z ha _=>CL<|by
 simp[execOp,ha.eval hx,ha.eval hy,Bw,binOp,Op.intBits,IR]
theorem RF (hx:ev l x=some (rI k p))(hy:ev l y=some (rI k q)):Bn P n c l H { dst:=d,op:=.binOp .xor t x y t',type:=ty,pos:=pos,after:=af,guard:=g } (rI k (E5 k p q)):=λa w Z ha _=>CL<|by
 simp[execOp,ha.eval hx,ha.eval hy,Bw,binOp,Op.intBits,E5]
theorem TT (hx:ev l x=some (rI k p))(hy:ev l y=some (rI k' q))(h0:decide (0≤q)=true):Bn P n c l H { dst:=d,op:=.binOp .shl t x y t',type:=ty,pos:=pos,after:=af,guard:=g } (rI k (CS k p q)):=λa w Z ha _=>CL<|by
 have h1 : ¬ q<0:=by have:=AcK h0;omega
 simp[execOp,ha.eval hx,ha.eval hy,Bw,binOp,Op.shift,CS,h1]
theorem JF (hx:ev l x=some (rI k p))(hy:ev l y=some (rI k' q))(h0:decide (0≤q)=true):Bn P n c l H { dst:=d,op:=.binOp .shr t x y t',type:=ty,pos:=pos,after:=af,guard:=g } (rI k (BH k p q)):=λa w Z ha _=>CL<|by
 have h1 : ¬ q<0:=by have:=AcK h0;omega
 simp[execOp,ha.eval hx,ha.eval hy,Bw,binOp,Op.shift,BH,h1]
theorem TW (hx:ev l x=some (rI k p)):Bn P n c l H { dst:=d,op:=.unOp .xor t x,type:=ty,pos:=pos,after:=af,guard:=g } (rI k (Q9 k p)):=λa w Z ha _=>CL<|by
 simp[execOp,ha.eval hx,Op.unary,Op.intBits,Q9,E5]
end
theorem AaY {α:Type}[Inhabited α]{enc:α→Rp}{ys:List α}{j:Int}(hg:CJ j (ys.length:Int)=true):(List.map enc ys)[j.toNat]? =some (enc (Ao ys j)):=by
 have h0:=(Db hg).1;have h1:=(Db hg).2;have hl:j.toNat<ys.length:=by omega
 simp[Ao,AcL hl]
theorem ZF {α:Type}{enc:α→Rp}{ys:List α}{j:Int}(hg:CJ j (ys.length:Int)=true):Nat.blt j.toNat (List.map enc ys).length=true:=by
 have h0:=(Db hg).1;have h1:=(Db hg).2;simp;omega
section
variable {P : Program} {n : Nat} {c : Cx} {ops : Array Oper} {Q : Exit → Act → World → Prop} {rest : List Oper} {l : Fr} {H H' : List Ent} {d : Nat} {d' : Option Nat} {x y : Operand} {t ty e : TypeId} {pos : String} {af : Array Edge} {g : Option (Nat × Bool)} {k : IntKind} {b i len : Nat} {j : Int}
theorem X1 (ht:P.underlying t=some (.array len e))(hz:∀w,(sizeOf e).run P w = .ok 1 w)(hx:ev l x=some (rv (.pointer (some ⟨b,0,none⟩))))(hy:ev l y=some (rI k j))(hg:CJ j (len:Int)=true) :
  Bn P n c l H { dst:=d',op:=.indexAddr t x y,type:=ty,pos:=pos,after:=af,guard:=g } (rv (.pointer (some ⟨b,j.toNat,none⟩))):=λa w Z ha hw=>CL<|by
 have h0:=(Db hg).1;have h1:=(Db hg).2;simp[execOp,ha.eval hx,ha.eval hy,Instr.indexAt,Instr.sureAddr,asIntOf,run_underlying ht,h0,h1,hz,J0]
theorem X0 {α:Type}[Inhabited α]{enc:α→Rp}{ys:List α}(hag:∀w,(isAgg t).run P w = .ok false w)(hx:ev l x=some (rv (.pointer (some ⟨b,j.toNat,none⟩))))(hi:H[i]? =some (.blk b (List.map enc ys) e))(hg:CJ j (ys.length:Int)=true) :
  Bn P n c l H { dst:=d',op:=.load t x,type:=ty,pos:=pos,after:=af,guard:=g } (enc (Ao ys j)):=Bi hag hx hi (AaY hg)
theorem UK {α:Type}[Inhabited α]{enc:α→Rp}{ys:List α}{v:α}(hag:∀w,(sizeOf t).run P w = .ok 1 w)(hx:ev l x=some (rv (.pointer (some ⟨b,j.toNat,none⟩))))(hy:ev l y=some (enc v))(hv:SB H (enc v))
  (hi:H[i]? =some (.blk b (List.map enc ys) e)) (hg:CJ j (ys.length:Int)=true) (hH:H.set i (.blk b (List.map enc (List.set ys j.toNat v)) e)=H')
  (h:WL P n c ops Q rest l H'):WL P n c ops Q ({ dst:=none,op:=.store t x y,type:=ty,pos:=pos,after:=af,guard:=none }::rest) l H:=
 BI hag hx hy hv hi (ZF hg) (cs':=List.map enc (List.set ys j.toNat v)) (by rw[List.map_set]) hH h
theorem Tf {α:Type}{enc:α→Rp}{ys:List α}{sz:Nat}(hag:∀w,(isAgg t).run P w = .ok true w)(hsz:∀w,(sizeOf t).run P w = .ok sz w)(hx:ev l x=some (rv (.pointer (some ⟨b,0,none⟩))))(hi:H[i]? =some (.blk b (List.map enc ys) e))(hl:decide (ys.length=sz)=true) :
  Bn P n c l H { dst:=d',op:=.load t x,type:=ty,pos:=pos,after:=af,guard:=g } (BK (List.map enc ys)):=BC hag hsz hx hi (by rw[List.drop_zero,List.take_of_length_le (by rw[AcR];have:=AcK hl;omega)]) (by rw[AcR];exact AcK hl)
theorem MS {α:Type}{enc:α→Rp}{ys zs:List α}{sz:Nat}(hsz:∀w,(sizeOf t).run P w = .ok sz w)(hx:ev l x=some (rv (.pointer (some ⟨b,0,none⟩))))(hy:ev l y=some (BK (List.map enc zs)))(h1:∀x,(enc x).one=true)
  (hi:H[i]? =some (.blk b (List.map enc ys) e)) (hl:decide (ys.length=sz)=true) (hl2:decide (zs.length=sz)=true) (hH:H.set i (.blk b (List.map enc zs) e)=H')
  (h:WL P n c ops Q rest l H'):WL P n c ops Q ({ dst:=none,op:=.store t x y,type:=ty,pos:=pos,after:=af,guard:=none }::rest) l H:=
 Bh hsz hx hy (by rw[AcR];exact AcK hl2) (BJ.c (by simp[List.all_map,h1])) hi (by have:=AcK hl;simp;omega)
  (cs':=List.map enc zs) (by have:=AcK hl;rw[List.take_zero,Adg,List.drop_of_length_le (by rw[AcR];omega),Adk]) hH h
theorem ZI {α:Type}{enc:α→Rp}{ys:List α}{sz:Nat}(hl:decide (ys.length=sz)=true):(List.map enc ys).length=sz:=by rw[AcR];exact AcK hl
end
end Go.Proofs.YtjfnokmpfekniaaGreatDoor.Q
