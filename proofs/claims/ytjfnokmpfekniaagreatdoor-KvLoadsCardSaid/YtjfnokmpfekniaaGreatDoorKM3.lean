/-
  Texts of the proof, put together: WVd, PVe, WVe, PVf, WVf, PM, QT, QN, QU, QM, QK, PKa, QI, QW, Iter, QKs.
-/
import Derived.Test.YtjfnokmpfekniaaGreatDoorKM2
import Derived.Laws.StructEq
import Derived.Laws.Cover3
import Derived.MapKept
import Derived.Maps.RangeRun
import Derived.Sort.KeysCollected
import Derived.Shelf.SlIter.Nil
import Derived.Shelf.SortM.Plain
import Derived.Shelf.SortM.SortNone
import Derived.Test.YtjfnokmpfekniaaGreatDoorProg
namespace Go.Proofs.YtjfnokmpfekniaaGreatDoor.Q
open Go Go.RowKit
set_option linter.unusedVariables false
set_option linter.unusedSimpArgs false
set_option maxRecDepth 100000
set_option maxHeartbeats 4000000
theorem EB:∃inf,Tryz.prog.info? 78=some inf∧inf.zero=some (.agg #[(.int .i64 0),(.int .i64 0),(.string ⟨#[]⟩),(.int .i64 0)])∧inf.size=4∧inf.bytes=40:=by
  have key:(Tryz.prog.info? 78).map (λi=>(i.zero,i.size,i.bytes))=some (some (.agg #[(.int .i64 0),(.int .i64 0),(.string ⟨#[]⟩),(.int .i64 0)]),4,40):=by kernel_rfl
  obtain⟨inf,h1,h2⟩:=Option.map_eq_some_iff.1 key;simp only[Prod.mk.injEq] at h2;exact⟨inf,h1,h2.1,h2.2.1,h2.2.2⟩
theorem R5 (parts:List (Nat×Value)):Tryz.prog.built 78 parts=Instr.fill (λi=>(#[(0,1),(1,1),(2,1),(3,1)]:Array (Nat×Nat))[i]?) #[(.int .i64 0),(.int .i64 0),(.string ⟨#[]⟩),(.int .i64 0)] parts:=by kernel_rfl
theorem E9 {n:Nat}{c:Cx}{l:Fr}{H:List Ent}{d:Option Nat}{ty:TypeId}{pos:String}{af:Array Edge}{g:Option (Nat×Bool)}{x0:Operand}{r0:Rp}(h0:ev l x0=some r0)(u0:r0.one=true):Bx Tryz.prog n c l H { dst:=d,op:=.build 78 #[(0,x0)],type:=ty,pos:=pos,after:=af,guard:=g } (BC [r0,Al 0,rS ([]:Af),Al 0]):=λa w Z ha _=>by
  have p0:=ha.ev h0;have c0:=BT (r0.hone u0 Z _ p0);have hb:Tryz.prog.built 78 [(0,a.eval x0)]=some #[a.eval x0,(.int .i64 0),(.string ⟨#[]⟩),(.int .i64 0)]:=by
    rw[R5];generalize a.eval x0=v0 at *;simp[Instr.fill,c0]
  refine⟨.agg #[a.eval x0,(.int .i64 0),(.string ⟨#[]⟩),(.int .i64 0)],⟨[a.eval x0,(.int .i64 0),(.string ⟨#[]⟩),(.int .i64 0)],rfl,p0,rfl,rfl,rfl,trivial⟩,?_⟩;have:=run_build w 78 #[(0,a.eval x0)] _ (by simpa using hb);simp[execOp,this]
theorem Cq {n:Nat}{c:Cx}{l:Fr}{H:List Ent}{d:Option Nat}{ty:TypeId}{pos:String}{af:Array Edge}{g:Option (Nat×Bool)}{x0:Operand}{r0:Rp}(h0:ev l x0=some r0)(u0:r0.one=true){x1:Operand}{r1:Rp}(h1:ev l x1=some r1)(u1:r1.one=true):Bx Tryz.prog n c l H { dst:=d,op:=.build 78 #[(0,x0),(1,x1)],type:=ty,pos:=pos,after:=af,guard:=g } (BC [r0,r1,rS ([]:Af),Al 0]):=λa w Z ha _=>by
  have p0:=ha.ev h0;have c0:=BT (r0.hone u0 Z _ p0);have p1:=ha.ev h1;have c1:=BT (r1.hone u1 Z _ p1);have hb:Tryz.prog.built 78 [(0,a.eval x0),(1,a.eval x1)]=some #[a.eval x0,a.eval x1,(.string ⟨#[]⟩),(.int .i64 0)]:=by
    rw[R5];generalize a.eval x0=v0 at *;generalize a.eval x1=v1 at *;simp[Instr.fill,c0,c1]
  refine⟨.agg #[a.eval x0,a.eval x1,(.string ⟨#[]⟩),(.int .i64 0)],⟨[a.eval x0,a.eval x1,(.string ⟨#[]⟩),(.int .i64 0)],rfl,p0,p1,rfl,rfl,trivial⟩,?_⟩;have:=run_build w 78 #[(0,a.eval x0),(1,a.eval x1)] _ (by simpa using hb);simp[execOp,this]
theorem Gb {n:Nat}{c:Cx}{l:Fr}{H:List Ent}{d:Option Nat}{ty:TypeId}{pos:String}{af:Array Edge}{g:Option (Nat×Bool)}{x0:Operand}{r0:Rp}(h0:ev l x0=some r0)(u0:r0.one=true){x2:Operand}{r2:Rp}(h2:ev l x2=some r2)(u2:r2.one=true):Bx Tryz.prog n c l H { dst:=d,op:=.build 78 #[(0,x0),(2,x2)],type:=ty,pos:=pos,after:=af,guard:=g } (BC [r0,Al 0,r2,Al 0]):=λa w Z ha _=>by
  have p0:=ha.ev h0;have c0:=BT (r0.hone u0 Z _ p0);have p2:=ha.ev h2;have c2:=BT (r2.hone u2 Z _ p2);have hb:Tryz.prog.built 78 [(0,a.eval x0),(2,a.eval x2)]=some #[a.eval x0,(.int .i64 0),a.eval x2,(.int .i64 0)]:=by
    rw[R5];generalize a.eval x0=v0 at *;generalize a.eval x2=v2 at *;simp[Instr.fill,c0,c2]
  refine⟨.agg #[a.eval x0,(.int .i64 0),a.eval x2,(.int .i64 0)],⟨[a.eval x0,(.int .i64 0),a.eval x2,(.int .i64 0)],rfl,p0,rfl,p2,rfl,trivial⟩,?_⟩;have:=run_build w 78 #[(0,a.eval x0),(2,a.eval x2)] _ (by simpa using hb);simp[execOp,this]
theorem Aad (parts:List (Nat×Value)):Tryz.prog.built 127 parts=Instr.fill (λi=>(#[(0,1),(1,1),(2,1),(3,1)]:Array (Nat×Nat))[i]?) #[(.string ⟨#[]⟩),(.int .i64 0),((.slice none 0 0)),(.bool false)] parts:=by kernel_rfl
theorem Ri {n:Nat}{c:Cx}{l:Fr}{H:List Ent}{d:Option Nat}{ty:TypeId}{pos:String}{af:Array Edge}{g:Option (Nat×Bool)}{x0:Operand}{r0:Rp}(h0:ev l x0=some r0)(u0:r0.one=true):Bx Tryz.prog n c l H { dst:=d,op:=.build 127 #[(0,x0)],type:=ty,pos:=pos,after:=af,guard:=g } (BC [r0,Al 0,rv (.slice none 0 0),rB false]):=λa w Z ha _=>by
  have p0:=ha.ev h0;have c0:=BT (r0.hone u0 Z _ p0);have hb:Tryz.prog.built 127 [(0,a.eval x0)]=some #[a.eval x0,(.int .i64 0),((.slice none 0 0)),(.bool false)]:=by
    rw[Aad];generalize a.eval x0=v0 at *;simp[Instr.fill,c0]
  refine⟨.agg #[a.eval x0,(.int .i64 0),((.slice none 0 0)),(.bool false)],⟨[a.eval x0,(.int .i64 0),((.slice none 0 0)),(.bool false)],rfl,p0,rfl,rfl,rfl,trivial⟩,?_⟩;have:=run_build w 127 #[(0,a.eval x0)] _ (by simpa using hb);simp[execOp,this]
theorem PS (s:Af)(p:Af)(r:Bool)(h:Hh s p=some r):Fn Tryz.prog GE 64 [rS s,rS p] [] (λR H=>R=rB r∧H=[]):=by
 refine enter (n:=18) Tryz.func64 rfl Tryz.ntmps64 rfl (λw Z=>?_);unfold Hh at h;refine Ad (wa rfl (Ak (ck h λg1 h2=>A8 [(4,rB ((decide ((p.length:Int)≤(s.length:Int)))&&(decide ((List.take (Bw (p.length:Int)) s)=p))))] [] ?_ ?_)))
 ·refine Ag (wm rfl (wv (Bg BQ rfl) (wm rfl (wv (Bg BQ rfl) (wv (Ga rfl rfl) (wm rfl (AN (decide ((p.length:Int)≤(s.length:Int))) (λc3=>?_) (λc3=>?_))))))))
  ·refine wo c3 (wm rfl (wo c3 (wm rfl (wo c3 (wv (Bg BQ rfl) (wo c3 (wv (JC BQ rfl rfl (Cz g1 c3)) (wo c3 (wm rfl (wo c3 (wv (El rfl rfl) (Es rfl c3 rfl (wa rfl (Aj ?_))))))))))))));exact Ca c3
  ·refine wf c3 (wf c3 (wf c3 (wf c3 (wf c3 (wf c3 (wv (r:=rB false) (A6 rfl c3 rfl) (wa rfl (Aj ?_))))))));exact Ca c3
 refine As ?_;obtain rfl:=Au h2;exact Ar (Cb Tryz.results64 (A7 rfl)) sN ⟨rfl,rfl⟩
theorem Kv (s:Af)(p:Af)(r:Bool)(h:ER s p=some r):Fn Tryz.prog GE 44 [rS s,rS p] [] (λR H=>R=rB r∧H=[]):=by
 refine enter (n:=8) Tryz.func44 rfl Tryz.ntmps44 rfl (λw Z=>?_);unfold ER at h;refine Ad (wa rfl (Bm (wm rfl (wm rfl (ob h λr1 e3 h2=>Cu Tryz.call64 (PS s p r1 e3) rfl (wa rfl (Ak (As ?_))))))));obtain rfl:=Au h2;exact Ar (Cb Tryz.results44 (A7 rfl)) sN ⟨rfl,rfl⟩
theorem Ee (ha:Nat)(hb:Value)(q:Az)(s:Af)(r:Bool×Az)(h:Ew q s=some r):Fn Tryz.prog GE 133 [rP ha 0,rS s] [.blk ha [rS q.fS,Al q.fAt,rv hb,rB q.fGreat] 127,.row hb 78 4 (AE Ab q.fCells)] (λR H=>∃w0_2:Value,R=rB r.1∧H=[.blk ha [rS r.2.fS,Al r.2.fAt,rv w0_2,rB r.2.fGreat] 127,.row w0_2 78 4 (AE Ab r.2.fCells)]):=by
 refine enter (n:=26) Tryz.func133 rfl Tryz.ntmps133 rfl (λw Z=>?_);unfold Ew at h;refine Ad (wa rfl (Ak (Ai (Ai (ck h λg1 h2=>ob h2 λr3 e5 h4=>CN [0,1] [⟨[],rP ha 0,0⟩,⟨[0],rP ha 0,0⟩,⟨[1],rP ha 0,0⟩,⟨[2],rS q.fS,1⟩,⟨[],rP ha 0,0⟩,⟨[4],rP ha 0,0⟩,⟨[5],rP ha 1,0⟩,⟨[6],Al q.fAt,1⟩,⟨[3,7],rS (List.drop (Bw q.fAt) q.fS),0⟩,⟨[],rS s,0⟩,⟨[8,9],rB r3,0⟩,⟨[10],rB (!r3),0⟩] [16,0,1] ?_ ?_)))))
 ·refine oq (Ap rfl) (oq (A3 rfl) (oq (AK BD rfl Da rfl rfl) (of (Bu (i:=0) DE rfl rfl rfl) (oq (Ap rfl) (oq (A3 rfl) (oq (AK BD rfl Cs rfl rfl) (of (Bu (i:=0) CR rfl rfl rfl) (oq (D7 BQ rfl rfl g1) (oq (Ap rfl) (EY rfl (λH=>JR Tryz.call44 (Kv (List.drop (Bw q.fAt) q.fS) s r3 e5) rfl) ?_))))))))));refine oq (Cc rfl) ?_;exact Cp
 refine AJ (cz h4 rfl (λc6 h7=>?_) (λc6 h8=>?_))
 ·refine Ad (wa rfl (Ak (As (Ac ?_))));obtain rfl:=Au h7;exact Ar (Cb Tryz.results133 (A7 rfl)) (sC (sC sN)) ⟨hb,rfl,rfl⟩
 ·refine Am (AJ (Ad (wm rfl (wv (A3 rfl) (vF BD rfl Cs (vL 0 CR rfl (wm rfl (wv (Bg BQ rfl) (ck h8 λg9 hd=>wv (Bb rfl rfl g9) (wv (A3 rfl) (vF BD rfl Cs (BH (i:=0) Cs rfl rfl (Cy rfl) rfl rfl (cs':=[rS q.fS,Al (q.fAt+(s.length:Int)),rv hb,rB q.fGreat]) rfl (H':=[.blk ha [rS q.fS,Al (q.fAt+(s.length:Int)),rv hb,rB q.fGreat] 127,.row hb 78 4 (AE Ab q.fCells)]) rfl (Bm (wa rfl (Ak (As ?_))))))))))))))));obtain rfl:=Au hd;exact Ar (Cb Tryz.results133 (A7 rfl)) (sC (sC sN)) ⟨hb,rfl,rfl⟩
theorem UJ (F:Nat)(ha:Nat)(hp:Value)(q:Az)(r:Af×Bool×Az)(h:OC F q=some r):Fn Tryz.prog GE 135 [rP ha 0] [.blk ha [rS q.fS,Al q.fAt,rv hp,rB q.fGreat] 127,.row hp 78 4 (AE Ab q.fCells)] (λR H=>∃w0_2:Value,R=Ct [rS r.1,rB r.2.1]∧H=[.blk ha [rS r.2.2.fS,Al r.2.2.fAt,rv w0_2,rB r.2.2.fGreat] 127,.row w0_2 78 4 (AE Ab r.2.2.fCells)]):=by
 refine enter (n:=104) Tryz.func135 rfl Tryz.ntmps135 rfl (λw Z=>?_);unfold OC at h;refine Ad (wv (r:=rS ([]:Af)) (Aw rfl) (wa rfl (Ak (Ai (Ad (wm rfl (ob h λr1 e3 h2=>Gj (Hr:=[]) Ig (Ee ha hp q ([34]:Af) r1 e3) rfl (Ael _) rfl ?_)))))));rintro _ _ ⟨v4,rfl,rfl⟩;refine wv (Cc rfl) (Ak (cz h2 rfl (λc5 h6=>?_) (λc5 h7=>?_)))
 ·refine Ad (wv (r:=rS ([]:Af)) (Aw rfl) (wa rfl (Ak (As (Ac ?_)))));obtain rfl:=Au h6;exact Ar (C6 RM (A7 rfl) (A7 rfl)) (sC (sC sN)) ⟨v4,rfl,rfl⟩
 ·refine Am (AJ (Ad (wa rfl (Ak (Ai (AF (WC.nilrow (e:=5) (sz:=1) (KA (H2:=[.blk ha [rS r1.2.fS,Al r1.2.fAt,rv v4,rB r1.2.fGreat] 127,.row v4 78 4 (AE Ab r1.2.fCells),.row (.slice none 0 0     ) 5 1 (AE Bz ([]:List Int))]) ((A0 (i:=1) rfl).trans (Aem _ ((A0 (i:=1) rfl).trans (Aem _ (Ael _))))) (ob h7 λhu hw hk=>Bo (S:=Nat×((List Int)×Int)×(Value)) (V:=(Int)×(Unit)) 0 (λσ=>BJ (λσ=>EV r1 σ.1 σ.2) σ.1 σ.2.1=some hu) (λσ=>[(0,rP ha 0),(4,rv σ.2.2)]) (λσ=>[.blk ha [rS r1.2.fS,Al σ.2.1.2,rv v4,rB r1.2.fGreat] 127,.row v4 78 4 (AE Ab r1.2.fCells),.row σ.2.2 5 1 (AE Bz σ.2.1.1)]) (λσ=>σ.1) (F,(([]:List Int),r1.2.fAt),(.slice none 0 0     )) hw (AD.c rfl (AD.c rfl AD.nil)) (sC (sC (sC sN))) (λσ=>IT r1 σ.1=some r) (λσ=>[]) (λσ=>[.blk ha [rS r1.2.fS,Al σ.1,rv v4,rB r1.2.fGreat] 127,.row v4 78 4 (AE Ab r1.2.fCells)]) ?_ ?_)))))))))
  ·rintro⟨ga,⟨hf,hb⟩,hg⟩ hx;refine BO (l':=[(0,rP ha 0),(4,rv hg)]) (H':=[.blk ha [rS r1.2.fS,Al hb,rv v4,rB r1.2.fGreat] 127,.row v4 78 4 (AE Ab r1.2.fCells),.row hg 5 1 (AE Bz hf)]) rfl rfl ?_;obtain⟨hy,rfl,hq,hl,hj⟩:=Ck hx;replace hl:EV r1 hf hb=some hq:=hl;unfold EV at hl;refine Ai (Ai (CN [0,4] [⟨[],rP ha 0,0⟩,⟨[0],rP ha 0,0⟩,⟨[1],rP ha 1,0⟩,⟨[2],Al hb,1⟩,⟨[],rP ha 0,0⟩,⟨[4],rP ha 0,0⟩,⟨[5],rP ha 0,0⟩,⟨[6],rS r1.2.fS,1⟩,⟨[7],Al (r1.2.fS.length:Int),0⟩,⟨[3,8],rB (decide (hb<(r1.2.fS.length:Int))),0⟩] [9,10,11,12,13,14,15,16,17,18,0,4] ?_ ?_))
   ·refine oq (Ap rfl) (oq (A3 rfl) (oq (AK BD rfl Cs rfl rfl) (of (Bu (i:=0) CR rfl rfl rfl) (oq (Ap rfl) (oq (A3 rfl) (oq (AK BD rfl Da rfl rfl) (of (Bu (i:=0) DE rfl rfl rfl) (oq (Bg BQ rfl) (oq (Cf rfl rfl) ?_)))))))));exact Cp
   refine AJ (cz hl rfl (λhz h0=>?_) (λhz h1=>?_))
   ·refine Am (AJ (AF (Ai (ck h0 λh3 h4=>CN [0,4,9,10,11,12,13,14,15,16,17] [⟨[],rP ha 0,0⟩,⟨[0],rP ha 0,0⟩,⟨[1],rP ha 0,0⟩,⟨[2],rS r1.2.fS,1⟩,⟨[],rP ha 0,0⟩,⟨[4],rP ha 0,0⟩,⟨[5],rP ha 1,0⟩,⟨[6],Al hb,1⟩,⟨[3,7],rI .u8 (AM r1.2.fS hb),0⟩,⟨[8],rI .u8 (AM r1.2.fS hb),0⟩] [19,20,21,22,23,24,25,26,27,5,0,4,9,10,11,12,13,14,15,16,17] ?_ ?_))))
    ·refine oq (Ap rfl) (oq (A3 rfl) (oq (AK BD rfl Da rfl rfl) (of (Bu (i:=0) DE rfl rfl rfl) (oq (Ap rfl) (oq (A3 rfl) (oq (AK BD rfl Cs rfl rfl) (of (Bu (i:=0) CR rfl rfl rfl) (oq (AS BQ rfl rfl h3) (oq (Aw rfl) ?_)))))))));exact Cp
    refine AJ (Ad (wm rfl (wv (A3 rfl) (vF BD rfl Cs (vL 0 CR rfl (ck h4 λh5 h8=>wv (Bb rfl rfl h5) (wv (A3 rfl) (vF BD rfl Cs (BH (i:=0) Cs rfl rfl (Cy rfl) rfl rfl (cs':=[rS r1.2.fS,Al (hb+1),rv v4,rB r1.2.fGreat]) rfl (H':=[.blk ha [rS r1.2.fS,Al (hb+1),rv v4,rB r1.2.fGreat] 127,.row v4 78 4 (AE Ab r1.2.fCells),.row hg 5 1 (AE Bz hf)]) rfl (Ak (Df (S:=(Int×Int)×(Unit)) (λσ=>G7 hf σ.1.1 σ.1.2=some hq) (λσ=>[(0,rP ha 0),(4,rv hg),(5,rI .u8 σ.1.1),(9,rP ha 0),(10,rP ha 0),(11,rP ha 1),(12,Al hb),(13,rP ha 0),(14,rP ha 0),(15,rP ha 0),(16,rS r1.2.fS),(17,Al (r1.2.fS.length:Int)),(19,rP ha 0),(20,rP ha 0),(21,rP ha 0),(22,rS r1.2.fS),(23,rP ha 0),(24,rP ha 0),(25,rP ha 1),(26,Al hb),(27,rI .u8 (AM r1.2.fS hb))]) (λσ=>[.blk ha [rS r1.2.fS,Al σ.1.2,rv v4,rB r1.2.fGreat] 127,.row v4 78 4 (AE Ab r1.2.fCells),.row hg 5 1 (AE Bz hf)]) ?_ ?_)))))))))))
    ·refine AF (Ad (wm rfl (wv (B3 rfl rfl) (wa rfl (Ak (cz h8 rfl (λh9 hA=>?_) (λh9 hB=>?_)))))))
     ·refine Ad (wm rfl (wv (r:=rS (Nd hf)) (Vi (xs:=hf) (i:=2) H8 BQ Kc rfl rfl) (wa rfl (wa rfl (Ak (As (Ay (Ac (Ay (Ac (AY ?_)))))))))));have hC:=Bt hA hj hk;refine Ay (Ac ?_);obtain rfl:=Au hC;exact Ar (C6 RM (A7 rfl) (A7 rfl)) (sC (sC (sS sN))) ⟨v4,rfl,rfl⟩
     ·refine A8 [(0,rP ha 0),(4,rv hg),(5,rI .u8 (AM r1.2.fS hb)),(9,rP ha 0),(10,rP ha 0),(11,rP ha 1),(12,Al hb),(13,rP ha 0),(14,rP ha 0),(15,rP ha 0),(16,rS r1.2.fS),(17,Al (r1.2.fS.length:Int)),(19,rP ha 0),(20,rP ha 0),(21,rP ha 0),(22,rS r1.2.fS),(23,rP ha 0),(24,rP ha 0),(25,rP ha 1),(26,Al hb),(27,rI .u8 (AM r1.2.fS hb)),(40,rB ((decide ((AM r1.2.fS hb)<32))||(decide (126<(AM r1.2.fS hb)))))] [.blk ha [rS r1.2.fS,Al (hb+1),rv v4,rB r1.2.fGreat] 127,.row v4 78 4 (AE Ab r1.2.fCells),.row hg 5 1 (AE Bz hf)] ?_ ?_
      ·refine Ag (wm rfl (wv (Cf rfl rfl) (wm rfl (AN (decide ((AM r1.2.fS hb)<32)) (λhh=>?_) (λhh=>?_)))))
       ·refine wf hh (wf hh (wv (r:=rB true) (A1 rfl hh rfl) (wa rfl (Aj ?_))));exact Ca hh
       ·refine wo hh (wm rfl (wo hh (wv (Cm rfl rfl) (Et rfl hh rfl (wa rfl (Aj ?_))))));exact Ca hh
      refine cz hB rfl (λhD hE=>?_) (λhD hG=>?_)
      ·refine Ad (wv (r:=rS ([]:Af)) (Aw rfl) (wa rfl (Ak (As (Ay (Ac (Ay (Ac (AY ?_)))))))));have hH:=Bt hE hj hk;refine Ay (Ac ?_);obtain rfl:=Au hH;exact Ar (C6 RM (A7 rfl) (A7 rfl)) (sC (sC (sS sN))) ⟨v4,rfl,rfl⟩
      ·refine Ad (wm rfl (wv (B3 rfl rfl) (wa rfl (Ak (cz hG rfl (λhI hJ=>?_) (λhI hK=>?_))))))
       ·refine Ai (ck hJ λhr hL=>A8 [(0,rP ha 0),(4,rv hg),(9,rP ha 0),(10,rP ha 0),(11,rP ha 1),(12,Al hb),(13,rP ha 0),(14,rP ha 0),(15,rP ha 0),(16,rS r1.2.fS),(17,Al (r1.2.fS.length:Int)),(19,rP ha 0),(20,rP ha 0),(21,rP ha 0),(22,rS r1.2.fS),(23,rP ha 0),(24,rP ha 0),(25,rP ha 1),(26,Al hb),(27,rI .u8 (AM r1.2.fS hb)),(50,rP ha 0),(51,rP ha 0),(52,rP ha 1),(53,Al (hb+1)),(54,rP ha 0),(55,rP ha 0),(56,rP ha 0),(57,rS r1.2.fS),(58,Al (r1.2.fS.length:Int)),(59,rB (decide ((r1.2.fS.length:Int)≤(hb+1)))),(60,rB (decide ((r1.2.fS.length:Int)≤(hb+1)))),(83,rB ((decide ((r1.2.fS.length:Int)≤(hb+1)))||((!decide ((AM r1.2.fS (hb+1))=34))&&(!decide ((AM r1.2.fS (hb+1))=92)))))] [.blk ha [rS r1.2.fS,Al (hb+1),rv v4,rB r1.2.fGreat] 127,.row v4 78 4 (AE Ab r1.2.fCells),.row hg 5 1 (AE Bz hf)] ?_ ?_)
        ·refine AN (decide ((r1.2.fS.length:Int)≤(hb+1))) (λhd=>?_) (λhd=>?_)
         ·refine CN [0,4,9,10,11,12,13,14,15,16,17,19,20,21,22,23,24,25,26,27] [⟨[],rP ha 0,0⟩,⟨[0],rP ha 0,0⟩,⟨[1],rP ha 1,0⟩,⟨[2],Al (hb+1),1⟩,⟨[],rP ha 0,0⟩,⟨[4],rP ha 0,0⟩,⟨[5],rP ha 0,0⟩,⟨[6],rS r1.2.fS,1⟩,⟨[7],Al (r1.2.fS.length:Int),0⟩,⟨[3,8],rB (decide ((r1.2.fS.length:Int)≤(hb+1))),0⟩,⟨[9],rB (decide ((r1.2.fS.length:Int)≤(hb+1))),0⟩,⟨[10],rv undef,0⟩,⟨[11,10],rv undef,0⟩,⟨[12,10],rv undef,0⟩,⟨[13,10],rv undef,0⟩,⟨[10],rv undef,0⟩,⟨[15,10],rv undef,0⟩,⟨[16,10],rv undef,0⟩,⟨[17,10],rv undef,0⟩,⟨[14,18,10],rv undef,0⟩,⟨[19,10],rv undef,0⟩,⟨[20,10],rv undef,0⟩,⟨[21],rv undef,0⟩,⟨[22,21],rv undef,0⟩,⟨[23,21],rv undef,0⟩,⟨[24,21],rv undef,0⟩,⟨[21],rv undef,0⟩,⟨[26,21],rv undef,0⟩,⟨[27,21],rv undef,0⟩,⟨[28,21],rv undef,0⟩,⟨[25,29,21],rv undef,0⟩,⟨[30,21],rv undef,0⟩,⟨[21,31,10],rv undef,0⟩,⟨[10,32],rB true,0⟩] [50,51,52,53,54,55,56,57,58,59,60,61,62,63,64,65,66,67,68,69,70,71,72,73,74,75,76,77,78,79,80,81,82,83,0,4,9,10,11,12,13,14,15,16,17,19,20,21,22,23,24,25,26,27] ?_ ?_
          ·refine oq (Ap rfl) (oq (A3 rfl) (oq (AK BD rfl Cs rfl rfl) (of (Bu (i:=0) CR rfl rfl rfl) (oq (Ap rfl) (oq (A3 rfl) (oq (AK BD rfl Da rfl rfl) (of (Bu (i:=0) DE rfl rfl rfl) (oq (Bg BQ rfl) (oq (Ga rfl rfl) (oq (Ap rfl) (oz hd (oz hd (oz hd (oz hd (oz hd (oz hd (oz hd (oz hd (oz hd (oz hd (oz hd (ou (ou ?_)))))))))))))))))))))));refine ou (ou (ou (ou (ou (ou (ou (ou (oz hd (oq (A1 (b:=decide ((r1.2.fS.length:Int)≤(hb+1))) rfl hd rfl) ?_)))))))));exact Cp
          exact Ca hd
         ·refine AN (!decide ((AM r1.2.fS (hb+1))=34)) (λhe=>?_) (λhe=>?_)
          ·refine CN [0,4,9,10,11,12,13,14,15,16,17,19,20,21,22,23,24,25,26,27] [⟨[],rP ha 0,0⟩,⟨[0],rP ha 0,0⟩,⟨[1],rP ha 1,0⟩,⟨[2],Al (hb+1),1⟩,⟨[],rP ha 0,0⟩,⟨[4],rP ha 0,0⟩,⟨[5],rP ha 0,0⟩,⟨[6],rS r1.2.fS,1⟩,⟨[7],Al (r1.2.fS.length:Int),0⟩,⟨[3,8],rB (decide ((r1.2.fS.length:Int)≤(hb+1))),0⟩,⟨[9],rB (decide ((r1.2.fS.length:Int)≤(hb+1))),0⟩,⟨[10],rP ha 0,0⟩,⟨[11,10],rP ha 0,0⟩,⟨[12,10],rP ha 0,0⟩,⟨[13,10],rS r1.2.fS,1⟩,⟨[10],rP ha 0,0⟩,⟨[15,10],rP ha 0,0⟩,⟨[16,10],rP ha 1,0⟩,⟨[17,10],Al (hb+1),1⟩,⟨[14,18,10],rI .u8 (AM r1.2.fS (hb+1)),0⟩,⟨[19,10],rB (!decide ((AM r1.2.fS (hb+1))=34)),0⟩,⟨[20,10],rB (!decide ((AM r1.2.fS (hb+1))=34)),0⟩,⟨[21],rP ha 0,0⟩,⟨[22,21],rP ha 0,0⟩,⟨[23,21],rP ha 0,0⟩,⟨[24,21],rS r1.2.fS,1⟩,⟨[21],rP ha 0,0⟩,⟨[26,21],rP ha 0,0⟩,⟨[27,21],rP ha 1,0⟩,⟨[28,21],Al (hb+1),1⟩,⟨[25,29,21],rI .u8 (AM r1.2.fS (hb+1)),0⟩,⟨[30,21],rB (!decide ((AM r1.2.fS (hb+1))=92)),0⟩,⟨[21,31,10],rB (!decide ((AM r1.2.fS (hb+1))=92)),0⟩,⟨[10,32],rB (!decide ((AM r1.2.fS (hb+1))=92)),0⟩] [50,51,52,53,54,55,56,57,58,59,60,61,62,63,64,65,66,67,68,69,70,71,72,73,74,75,76,77,78,79,80,81,82,83,0,4,9,10,11,12,13,14,15,16,17,19,20,21,22,23,24,25,26,27] ?_ ?_
           ·refine oq (Ap rfl) (oq (A3 rfl) (oq (AK BD rfl Cs rfl rfl) (of (Bu (i:=0) CR rfl rfl rfl) (oq (Ap rfl) (oq (A3 rfl) (oq (AK BD rfl Da rfl rfl) (of (Bu (i:=0) DE rfl rfl rfl) (oq (Bg BQ rfl) (oq (Ga rfl rfl) (oq (Ap rfl) (on hd (oq (Ap rfl) (on hd (oq (A3 rfl) (on hd (oq (AK BD rfl Da rfl rfl) (on hd (of (Bu (i:=0) DE rfl rfl rfl) (on hd (oq (Ap rfl) (on hd (oq (A3 rfl) (on hd ?_)))))))))))))))))))))));refine oq (AK BD rfl Cs rfl rfl) (on hd (of (Bu (i:=0) CR rfl rfl rfl) (on hd (oq (AS BQ rfl rfl (CQ hr hd)) (on hd (oq (CV rfl rfl) (on hd (oq (Ap rfl) (on he (oq (Ap rfl) (on he (oq (A3 rfl) (on he (oq (AK BD rfl Da rfl rfl) (on he (of (Bu (i:=0) DE rfl rfl rfl) (on he (oq (Ap rfl) (on he (oq (A3 rfl) (on he (oq (AK BD rfl Cs rfl rfl) (on he ?_)))))))))))))))))))))));refine of (Bu (i:=0) CR rfl rfl rfl) (on he (oq (AS BQ rfl rfl (CQ hr hd)) (on he (oq (CV rfl rfl) (on hd (oq (A1 rfl he rfl) (oq (A6 rfl hd rfl) ?_)))))));exact Cp
           exact Ca (And.intro hd he)
          ·refine CN [0,4,9,10,11,12,13,14,15,16,17,19,20,21,22,23,24,25,26,27] [⟨[],rP ha 0,0⟩,⟨[0],rP ha 0,0⟩,⟨[1],rP ha 1,0⟩,⟨[2],Al (hb+1),1⟩,⟨[],rP ha 0,0⟩,⟨[4],rP ha 0,0⟩,⟨[5],rP ha 0,0⟩,⟨[6],rS r1.2.fS,1⟩,⟨[7],Al (r1.2.fS.length:Int),0⟩,⟨[3,8],rB (decide ((r1.2.fS.length:Int)≤(hb+1))),0⟩,⟨[9],rB (decide ((r1.2.fS.length:Int)≤(hb+1))),0⟩,⟨[10],rP ha 0,0⟩,⟨[11,10],rP ha 0,0⟩,⟨[12,10],rP ha 0,0⟩,⟨[13,10],rS r1.2.fS,1⟩,⟨[10],rP ha 0,0⟩,⟨[15,10],rP ha 0,0⟩,⟨[16,10],rP ha 1,0⟩,⟨[17,10],Al (hb+1),1⟩,⟨[14,18,10],rI .u8 (AM r1.2.fS (hb+1)),0⟩,⟨[19,10],rB (!decide ((AM r1.2.fS (hb+1))=34)),0⟩,⟨[20,10],rB (!decide ((AM r1.2.fS (hb+1))=34)),0⟩,⟨[21],rv undef,0⟩,⟨[22,21],rv undef,0⟩,⟨[23,21],rv undef,0⟩,⟨[24,21],rv undef,0⟩,⟨[21],rv undef,0⟩,⟨[26,21],rv undef,0⟩,⟨[27,21],rv undef,0⟩,⟨[28,21],rv undef,0⟩,⟨[25,29,21],rv undef,0⟩,⟨[30,21],rv undef,0⟩,⟨[21,31,10],rB false,0⟩,⟨[10,32],rB false,0⟩] [50,51,52,53,54,55,56,57,58,59,60,61,62,63,64,65,66,67,68,69,70,71,72,73,74,75,76,77,78,79,80,81,82,83,0,4,9,10,11,12,13,14,15,16,17,19,20,21,22,23,24,25,26,27] ?_ ?_
           ·refine oq (Ap rfl) (oq (A3 rfl) (oq (AK BD rfl Cs rfl rfl) (of (Bu (i:=0) CR rfl rfl rfl) (oq (Ap rfl) (oq (A3 rfl) (oq (AK BD rfl Da rfl rfl) (of (Bu (i:=0) DE rfl rfl rfl) (oq (Bg BQ rfl) (oq (Ga rfl rfl) (oq (Ap rfl) (on hd (oq (Ap rfl) (on hd (oq (A3 rfl) (on hd (oq (AK BD rfl Da rfl rfl) (on hd (of (Bu (i:=0) DE rfl rfl rfl) (on hd (oq (Ap rfl) (on hd (oq (A3 rfl) (on hd ?_)))))))))))))))))))))));refine oq (AK BD rfl Cs rfl rfl) (on hd (of (Bu (i:=0) CR rfl rfl rfl) (on hd (oq (AS BQ rfl rfl (CQ hr hd)) (on hd (oq (CV rfl rfl) (on hd (oq (Ap rfl) (oz he (oz he (oz he (oz he (oz he (oz he (oz he (oz he (oz he (oz he (on hd (oq (A6 (b:=!decide ((AM r1.2.fS (hb+1))=34)) rfl he rfl) (oq (A6 rfl hd rfl) ?_)))))))))))))))))))));exact Cp
           exact Ca (And.intro hd he)
        refine cz hL rfl (λhN hO=>?_) (λhN hP=>?_)
        ·refine Ad (wv (r:=rS ([]:Af)) (Aw rfl) (wa rfl (Ak (As (Ac (Ay (Ac (Ay (Ac (AY ?_))))))))));have hQ:=Bt hO hj hk;refine Ay (Ac ?_);obtain rfl:=Au hQ;exact Ar (C6 RM (A7 rfl) (A7 rfl)) (sC (sC (sS sN))) ⟨v4,rfl,rfl⟩
        ·refine Am (AJ (Ai (ck hP λhR hS=>CN [0,4,9,10,11,12,13,14,15,16,17,19,20,21,22,23,24,25,26,27,50,51,52,53,54,55,56,57,58,59,60] [⟨[],rP ha 0,0⟩,⟨[0],rP ha 0,0⟩,⟨[1],rP ha 0,0⟩,⟨[2],rS r1.2.fS,1⟩,⟨[],rP ha 0,0⟩,⟨[4],rP ha 0,0⟩,⟨[5],rP ha 1,0⟩,⟨[6],Al (hb+1),1⟩,⟨[3,7],rI .u8 (AM r1.2.fS (hb+1)),0⟩,⟨[8],rI .u8 (AM r1.2.fS (hb+1)),0⟩] [84,85,86,87,88,89,90,91,92,5,0,4,9,10,11,12,13,14,15,16,17,19,20,21,22,23,24,25,26,27,50,51,52,53,54,55,56,57,58,59,60] ?_ ?_)))
         ·refine oq (Ap rfl) (oq (A3 rfl) (oq (AK BD rfl Da rfl rfl) (of (Bu (i:=0) DE rfl rfl rfl) (oq (Ap rfl) (oq (A3 rfl) (oq (AK BD rfl Cs rfl rfl) (of (Bu (i:=0) CR rfl rfl rfl) (oq (AS BQ rfl rfl hR) (oq (Aw rfl) ?_)))))))));exact Cp
         exact AJ (Ag (wm rfl (wv (A3 rfl) (vF BD rfl Cs (vL 0 CR rfl (ck hS λhT hU=>wv (Bb rfl rfl hT) (wv (A3 rfl) (vF BD rfl Cs (BH (i:=0) Cs rfl rfl (Cy rfl) rfl rfl (cs':=[rS r1.2.fS,Al ((hb+1)+1),rv v4,rB r1.2.fGreat]) rfl (H':=[.blk ha [rS r1.2.fS,Al ((hb+1)+1),rv v4,rB r1.2.fGreat] 127,.row v4 78 4 (AE Ab r1.2.fCells),.row hg 5 1 (AE Bz hf)]) rfl (Aj (AA (Av (A5 ((AM r1.2.fS (hb+1),(hb+1)+1),()) hU (AD.c rfl (AD.c5 rfl rfl rfl rfl rfl (AD.c5 rfl rfl rfl rfl rfl (AD.c5 rfl rfl rfl rfl rfl (AD.c5 rfl rfl rfl rfl rfl AD.nil))))) (sC (sC (sC sN))))))))))))))))
       ·exact Am (AA (Av (A5 ((AM r1.2.fS hb,hb+1),()) hK (AD.c rfl (AD.c5 rfl rfl rfl rfl rfl (AD.c5 rfl rfl rfl rfl rfl (AD.c5 rfl rfl rfl rfl rfl (AD.c5 rfl rfl rfl rfl rfl AD.nil))))) (sC (sC (sC sN))))))
    ·rintro⟨⟨hi,hm⟩,⟨⟩⟩ hn;refine BO (l':=[(0,rP ha 0),(4,rv hg),(5,rI .u8 hi),(9,rP ha 0),(10,rP ha 0),(11,rP ha 1),(12,Al hb),(13,rP ha 0),(14,rP ha 0),(15,rP ha 0),(16,rS r1.2.fS),(17,Al (r1.2.fS.length:Int)),(19,rP ha 0),(20,rP ha 0),(21,rP ha 0),(22,rS r1.2.fS),(23,rP ha 0),(24,rP ha 0),(25,rP ha 1),(26,Al hb),(27,rI .u8 (AM r1.2.fS hb))]) (H':=[.blk ha [rS r1.2.fS,Al hm,rv v4,rB r1.2.fGreat] 127,.row v4 78 4 (AE Ab r1.2.fCells),.row hg 5 1 (AE Bz hf)]) rfl rfl ?_;replace hn:G7 hf hi hm=some hq:=hn;unfold G7 at hn;refine Ag (wm rfl (wm rfl (AT (ys:=([hi]:List Int)) (enc:=Bz) (css:=[[rI .u8 hi]]) (xs:=[.tmp 101]) H8 ys5 yz5 rfl rfl rfl ⟨Eu.one rfl (Up.refl _),trivial⟩ rfl DZ rfl rfl rfl (λhV=>?_))));refine ck hn λhW hX=>Exists.elim NG λinf hinf=>B9 (xs:=hf) (ys:=([hi]:List Int)) (enc:=Bz) (i:=3) H8 hinf.1 hinf.2.1 hinf.2.2.1 hinf.2.2.2 rfl rfl rfl rfl rfl (Id.w (i:=0) rfl rfl) DZ La hW rfl (λhs=>?_);refine wa rfl (Aj (AA (Cn (H2:=[.blk ha [rS r1.2.fS,Al hm,rv v4,rB r1.2.fGreat] 127,.row v4 78 4 (AE Ab r1.2.fCells),.row hs 5 1 (AE Bz (hf++([hi]:List Int))),.row (.slice (some ⟨hV,0,none⟩) 1 1) 5 1 (AE Bz ([hi]:List Int))]) ((A0 (i:=2) rfl).trans (Aem _ ((A0 (i:=2) rfl).trans (Aem _ (Ael _))))) ?_)));have hY:=Be hX hj;exact Av (A5 (hy,(hf++([hi]:List Int),hm),hs) ⟨hY,Aeo _⟩ (AD.c rfl (AD.c rfl AD.nil)) (sC (sC (sC (sS sN)))))
   ·refine Bq (Ax ?_);have hZ:=BL h1 hj hk;exact Ax (Bd (A5 (hb,()) hZ AD.nil (sC (sC (sS sN)))))
  ·rintro⟨ht,⟨⟩⟩ ho;refine Cl (l':=[]) (H':=[.blk ha [rS r1.2.fS,Al ht,rv v4,rB r1.2.fGreat] 127,.row v4 78 4 (AE Ab r1.2.fCells)]) rfl rfl ?_;replace ho:IT r1 ht=some r:=ho;unfold IT at ho;refine Bc (AJ (Ad (wv (r:=rS ([]:Af)) (Aw rfl) (wa rfl (Ak (As ?_))))));obtain rfl:=Au ho;exact Ar (C6 RM (A7 rfl) (A7 rfl)) (sC (sC sN)) ⟨v4,rfl,rfl⟩
theorem AaA (F:Nat)(ha:Nat)(hl:Value)(q:Az)(r:Bool×Az)(h:OD F q=some r):Fn Tryz.prog GE 162 [rP ha 0] [.blk ha [rS q.fS,Al q.fAt,rv hl,rB q.fGreat] 127,.row hl 78 4 (AE Ab q.fCells)] (λR H=>∃w0_2:Value,R=rB r.1∧H=[.blk ha [rS r.2.fS,Al r.2.fAt,rv w0_2,rB r.2.fGreat] 127,.row w0_2 78 4 (AE Ab r.2.fCells)]):=by
 refine enter (n:=104) Tryz.func162 rfl Tryz.ntmps162 rfl (λw Z=>?_);unfold OD at h;refine Ad (wa rfl (Bm (wm rfl (wv (A3 rfl) (vF BD rfl Cs (vL 0 CR rfl (wa rfl (Bm (wm rfl (ob h λr1 e3 h2=>Gj (Hr:=[]) Ig (Ee ha hl q ([45]:Af) r1 e3) rfl (Ael _) rfl ?_))))))))));rintro _ _ ⟨v4,rfl,rfl⟩;refine Bm (wm rfl (wv (A3 rfl) (vF BD rfl Cs (vL 0 CR rfl (wa rfl (Ak (Ai (AF (ob h2 λhp hq hr=>Bo (S:=Nat×(Int)×(Unit)) (V:=(Int)×(Unit)) 0 (λσ=>BJ (λσ=>EW r1 σ) σ.1 σ.2.1=some hp) (λσ=>[(0,rP ha 0),(3,Al q.fAt),(4,Al r1.2.fAt)]) (λσ=>[.blk ha [rS r1.2.fS,Al σ.2.1,rv v4,rB r1.2.fGreat] 127,.row v4 78 4 (AE Ab r1.2.fCells)]) (λσ=>σ.1) (F,r1.2.fAt,()) hq (AD.c rfl (AD.c rfl (AD.c rfl AD.nil))) (sC (sC sN)) (λσ=>Kh q r1 σ.1=some r) (λσ=>[(0,rP ha 0),(3,Al q.fAt),(4,Al r1.2.fAt)]) (λσ=>[.blk ha [rS r1.2.fS,Al σ.1,rv v4,rB r1.2.fGreat] 127,.row v4 78 4 (AE Ab r1.2.fCells)]) ?_ ?_)))))))))
 ·rintro⟨hH,hd,⟨⟩⟩ hs;refine BO (l':=[(0,rP ha 0),(3,Al q.fAt),(4,Al r1.2.fAt)]) (H':=[.blk ha [rS r1.2.fS,Al hd,rv v4,rB r1.2.fGreat] 127,.row v4 78 4 (AE Ab r1.2.fCells)]) rfl rfl ?_;obtain⟨ht,rfl,hu,hj,hn⟩:=Ck hs;replace hj:EW r1 hd=some hu:=hj;unfold EW at hj;refine Ai (ck hj λhm hw=>A8 [(0,rP ha 0),(3,Al q.fAt),(4,Al r1.2.fAt),(17,rP ha 0),(18,rP ha 0),(19,rP ha 1),(20,Al hd),(21,rP ha 0),(22,rP ha 0),(23,rP ha 0),(24,rS r1.2.fS),(25,Al (r1.2.fS.length:Int)),(26,rB (decide (hd<(r1.2.fS.length:Int)))),(27,rB (decide (hd<(r1.2.fS.length:Int)))),(38,rB ((decide (hd<(r1.2.fS.length:Int)))&&(decide (48≤(AM r1.2.fS hd))))),(39,rB ((decide (hd<(r1.2.fS.length:Int)))&&(decide (48≤(AM r1.2.fS hd))))),(50,rB ((decide (hd<(r1.2.fS.length:Int)))&&((decide (48≤(AM r1.2.fS hd)))&&(decide ((AM r1.2.fS hd)≤57)))))] [.blk ha [rS r1.2.fS,Al hd,rv v4,rB r1.2.fGreat] 127,.row v4 78 4 (AE Ab r1.2.fCells)] ?_ ?_)
  ·refine AN (decide (hd<(r1.2.fS.length:Int))) (λhe=>?_) (λhe=>?_)
   ·refine AN (decide (48≤(AM r1.2.fS hd))) (λhf=>?_) (λhf=>?_)
    ·refine CN [0,3,4] [⟨[],rP ha 0,0⟩,⟨[0],rP ha 0,0⟩,⟨[1],rP ha 1,0⟩,⟨[2],Al hd,1⟩,⟨[],rP ha 0,0⟩,⟨[4],rP ha 0,0⟩,⟨[5],rP ha 0,0⟩,⟨[6],rS r1.2.fS,1⟩,⟨[7],Al (r1.2.fS.length:Int),0⟩,⟨[3,8],rB (decide (hd<(r1.2.fS.length:Int))),0⟩,⟨[9],rB (decide (hd<(r1.2.fS.length:Int))),0⟩,⟨[10],rP ha 0,0⟩,⟨[11,10],rP ha 0,0⟩,⟨[12,10],rP ha 0,0⟩,⟨[13,10],rS r1.2.fS,1⟩,⟨[10],rP ha 0,0⟩,⟨[15,10],rP ha 0,0⟩,⟨[16,10],rP ha 1,0⟩,⟨[17,10],Al hd,1⟩,⟨[14,18,10],rI .u8 (AM r1.2.fS hd),0⟩,⟨[19,10],rB (decide (48≤(AM r1.2.fS hd))),0⟩,⟨[10,20],rB (decide (48≤(AM r1.2.fS hd))),0⟩,⟨[21],rB (decide (48≤(AM r1.2.fS hd))),0⟩,⟨[22],rP ha 0,0⟩,⟨[23,22],rP ha 0,0⟩,⟨[24,22],rP ha 0,0⟩,⟨[25,22],rS r1.2.fS,1⟩,⟨[22],rP ha 0,0⟩,⟨[27,22],rP ha 0,0⟩,⟨[28,22],rP ha 1,0⟩,⟨[29,22],Al hd,1⟩,⟨[26,30,22],rI .u8 (AM r1.2.fS hd),0⟩,⟨[31,22],rB (decide ((AM r1.2.fS hd)≤57)),0⟩,⟨[22,32],rB (decide ((AM r1.2.fS hd)≤57)),0⟩] [17,18,19,20,21,22,23,24,25,26,27,28,29,30,31,32,33,34,35,36,37,38,39,40,41,42,43,44,45,46,47,48,49,50,0,3,4] ?_ ?_
     ·refine oq (Ap rfl) (oq (A3 rfl) (oq (AK BD rfl Cs rfl rfl) (of (Bu (i:=0) CR rfl rfl rfl) (oq (Ap rfl) (oq (A3 rfl) (oq (AK BD rfl Da rfl rfl) (of (Bu (i:=0) DE rfl rfl rfl) (oq (Bg BQ rfl) (oq (Cf rfl rfl) (oq (Ap rfl) (on he (oq (Ap rfl) (on he (oq (A3 rfl) (on he (oq (AK BD rfl Da rfl rfl) (on he (of (Bu (i:=0) DE rfl rfl rfl) (on he (oq (Ap rfl) (on he (oq (A3 rfl) (on he ?_)))))))))))))))))))))));refine oq (AK BD rfl Cs rfl rfl) (on he (of (Bu (i:=0) CR rfl rfl rfl) (on he (oq (AS BQ rfl rfl (Cz hm he)) (on he (oq (Ga rfl rfl) (oq (A1 rfl he rfl) (oq (Ap rfl) (on hf (oq (Ap rfl) (on hf (oq (A3 rfl) (on hf (oq (AK BD rfl Da rfl rfl) (on hf (of (Bu (i:=0) DE rfl rfl rfl) (on hf (oq (Ap rfl) (on hf (oq (A3 rfl) (on hf (oq (AK BD rfl Cs rfl rfl) (on hf ?_)))))))))))))))))))))));refine of (Bu (i:=0) CR rfl rfl rfl) (on hf (oq (AS BQ rfl rfl (Cz hm he)) (on hf (oq (Lh rfl rfl) (oq (A1 rfl hf rfl) ?_)))));exact Cp
     exact Ca (And.intro he hf)
    ·refine CN [0,3,4] [⟨[],rP ha 0,0⟩,⟨[0],rP ha 0,0⟩,⟨[1],rP ha 1,0⟩,⟨[2],Al hd,1⟩,⟨[],rP ha 0,0⟩,⟨[4],rP ha 0,0⟩,⟨[5],rP ha 0,0⟩,⟨[6],rS r1.2.fS,1⟩,⟨[7],Al (r1.2.fS.length:Int),0⟩,⟨[3,8],rB (decide (hd<(r1.2.fS.length:Int))),0⟩,⟨[9],rB (decide (hd<(r1.2.fS.length:Int))),0⟩,⟨[10],rP ha 0,0⟩,⟨[11,10],rP ha 0,0⟩,⟨[12,10],rP ha 0,0⟩,⟨[13,10],rS r1.2.fS,1⟩,⟨[10],rP ha 0,0⟩,⟨[15,10],rP ha 0,0⟩,⟨[16,10],rP ha 1,0⟩,⟨[17,10],Al hd,1⟩,⟨[14,18,10],rI .u8 (AM r1.2.fS hd),0⟩,⟨[19,10],rB (decide (48≤(AM r1.2.fS hd))),0⟩,⟨[10,20],rB (decide (48≤(AM r1.2.fS hd))),0⟩,⟨[21],rB (decide (48≤(AM r1.2.fS hd))),0⟩,⟨[22],rv undef,0⟩,⟨[23,22],rv undef,0⟩,⟨[24,22],rv undef,0⟩,⟨[25,22],rv undef,0⟩,⟨[22],rv undef,0⟩,⟨[27,22],rv undef,0⟩,⟨[28,22],rv undef,0⟩,⟨[29,22],rv undef,0⟩,⟨[26,30,22],rv undef,0⟩,⟨[31,22],rv undef,0⟩,⟨[22,32],rB false,0⟩] [17,18,19,20,21,22,23,24,25,26,27,28,29,30,31,32,33,34,35,36,37,38,39,40,41,42,43,44,45,46,47,48,49,50,0,3,4] ?_ ?_
     ·refine oq (Ap rfl) (oq (A3 rfl) (oq (AK BD rfl Cs rfl rfl) (of (Bu (i:=0) CR rfl rfl rfl) (oq (Ap rfl) (oq (A3 rfl) (oq (AK BD rfl Da rfl rfl) (of (Bu (i:=0) DE rfl rfl rfl) (oq (Bg BQ rfl) (oq (Cf rfl rfl) (oq (Ap rfl) (on he (oq (Ap rfl) (on he (oq (A3 rfl) (on he (oq (AK BD rfl Da rfl rfl) (on he (of (Bu (i:=0) DE rfl rfl rfl) (on he (oq (Ap rfl) (on he (oq (A3 rfl) (on he ?_)))))))))))))))))))))));refine oq (AK BD rfl Cs rfl rfl) (on he (of (Bu (i:=0) CR rfl rfl rfl) (on he (oq (AS BQ rfl rfl (Cz hm he)) (on he (oq (Ga rfl rfl) (oq (A1 rfl he rfl) (oq (Ap rfl) (oz hf (oz hf (oz hf (oz hf (oz hf (oz hf (oz hf (oz hf (oz hf (oz hf (oq (A6 (b:=decide (48≤(AM r1.2.fS hd))) rfl hf rfl) ?_)))))))))))))))))));exact Cp
     exact Ca (And.intro he hf)
   ·refine CN [0,3,4] [⟨[],rP ha 0,0⟩,⟨[0],rP ha 0,0⟩,⟨[1],rP ha 1,0⟩,⟨[2],Al hd,1⟩,⟨[],rP ha 0,0⟩,⟨[4],rP ha 0,0⟩,⟨[5],rP ha 0,0⟩,⟨[6],rS r1.2.fS,1⟩,⟨[7],Al (r1.2.fS.length:Int),0⟩,⟨[3,8],rB (decide (hd<(r1.2.fS.length:Int))),0⟩,⟨[9],rB (decide (hd<(r1.2.fS.length:Int))),0⟩,⟨[10],rv undef,0⟩,⟨[11,10],rv undef,0⟩,⟨[12,10],rv undef,0⟩,⟨[13,10],rv undef,0⟩,⟨[10],rv undef,0⟩,⟨[15,10],rv undef,0⟩,⟨[16,10],rv undef,0⟩,⟨[17,10],rv undef,0⟩,⟨[14,18,10],rv undef,0⟩,⟨[19,10],rv undef,0⟩,⟨[10,20],rB false,0⟩,⟨[21],rB false,0⟩,⟨[22],rv undef,0⟩,⟨[23,22],rv undef,0⟩,⟨[24,22],rv undef,0⟩,⟨[25,22],rv undef,0⟩,⟨[22],rv undef,0⟩,⟨[27,22],rv undef,0⟩,⟨[28,22],rv undef,0⟩,⟨[29,22],rv undef,0⟩,⟨[26,30,22],rv undef,0⟩,⟨[31,22],rv undef,0⟩,⟨[22,32],rB false,0⟩] [17,18,19,20,21,22,23,24,25,26,27,28,29,30,31,32,33,34,35,36,37,38,39,40,41,42,43,44,45,46,47,48,49,50,0,3,4] ?_ ?_
    ·refine oq (Ap rfl) (oq (A3 rfl) (oq (AK BD rfl Cs rfl rfl) (of (Bu (i:=0) CR rfl rfl rfl) (oq (Ap rfl) (oq (A3 rfl) (oq (AK BD rfl Da rfl rfl) (of (Bu (i:=0) DE rfl rfl rfl) (oq (Bg BQ rfl) (oq (Cf rfl rfl) (oq (Ap rfl) (oz he (oz he (oz he (oz he (oz he (oz he (oz he (oz he (oz he (oz he (oq (A6 (b:=decide (hd<(r1.2.fS.length:Int))) rfl he rfl) (oq (Ap rfl) (oz rfl ?_)))))))))))))))))))))));refine oz rfl (oz rfl (oz rfl (oz rfl (oz rfl (oz rfl (oz rfl (oz rfl (oz rfl (oq (A6 (b:=false) rfl rfl rfl) ?_)))))))));exact Cp
    exact Ca he
  refine cz hw rfl (λhx hy=>?_) (λhx hz=>?_)
  ·refine Am (AJ (AF (Ag (wm rfl (wv (A3 rfl) (vF BD rfl Cs (vL 0 CR rfl (ck hy λh0 h1=>wv (Bb rfl rfl h0) (wv (A3 rfl) (vF BD rfl Cs (BH (i:=0) Cs rfl rfl (Cy rfl) rfl rfl (cs':=[rS r1.2.fS,Al (hd+1),rv v4,rB r1.2.fGreat]) rfl (H':=[.blk ha [rS r1.2.fS,Al (hd+1),rv v4,rB r1.2.fGreat] 127,.row v4 78 4 (AE Ab r1.2.fCells)]) rfl (Aj (AA ?_)))))))))))));have h3:=Be h1 hn;exact Av (A5 (ht,hd+1,()) ⟨h3,Aeo _⟩ (AD.c rfl (AD.c rfl (AD.c rfl AD.nil))) (sC (sC sN)))
  ·refine Bq (Ax ?_);have h4:=BL hz hn hr;exact Ax (Bd (A5 (hd,()) h4 (AD.c rfl (AD.c rfl (AD.c rfl AD.nil))) (sC (sC sN))))
 ·rintro⟨hb,⟨⟩⟩ hk;refine Cl (l':=[(0,rP ha 0),(3,Al q.fAt),(4,Al r1.2.fAt)]) (H':=[.blk ha [rS r1.2.fS,Al hb,rv v4,rB r1.2.fGreat] 127,.row v4 78 4 (AE Ab r1.2.fCells)]) rfl rfl ?_;replace hk:Kh q r1 hb=some r:=hk;unfold Kh at hk;refine Bc (AJ (Ai (ck hk λh5 h6=>ck h6 λh7 h8=>ck h8 λh9 hA=>CN [0,3,4] [⟨[],rP ha 0,0⟩,⟨[0],rP ha 0,0⟩,⟨[1],rP ha 0,0⟩,⟨[2],rS r1.2.fS,1⟩,⟨[],Al q.fAt,0⟩,⟨[],rP ha 0,0⟩,⟨[5],rP ha 0,0⟩,⟨[6],rP ha 1,0⟩,⟨[7],Al hb,1⟩,⟨[3,4,8],rS (List.take (Bw hb-Bw q.fAt) (List.drop (Bw q.fAt) r1.2.fS)),0⟩,⟨[9],Ct [Al (AL (List.take (Bw hb-Bw q.fAt) (List.drop (Bw q.fAt) r1.2.fS))),Al (BI (List.take (Bw hb-Bw q.fAt) (List.drop (Bw q.fAt) r1.2.fS)))],0⟩,⟨[10],Ct [Al (AL (List.take (Bw hb-Bw q.fAt) (List.drop (Bw q.fAt) r1.2.fS))),Al (BI (List.take (Bw hb-Bw q.fAt) (List.drop (Bw q.fAt) r1.2.fS)))],0⟩,⟨[11],Al (AL (List.take (Bw hb-Bw q.fAt) (List.drop (Bw q.fAt) r1.2.fS))),0⟩,⟨[11],Al (BI (List.take (Bw hb-Bw q.fAt) (List.drop (Bw q.fAt) r1.2.fS))),0⟩,⟨[12],Al (AL (List.take (Bw hb-Bw q.fAt) (List.drop (Bw q.fAt) r1.2.fS))),0⟩,⟨[13],Al (BI (List.take (Bw hb-Bw q.fAt) (List.drop (Bw q.fAt) r1.2.fS))),0⟩] [5,6,0,4] ?_ ?_)))
  ·refine oq (Ap rfl) (oq (A3 rfl) (oq (AK BD rfl Da rfl rfl) (of (Bu (i:=0) DE rfl rfl rfl) (oq (Ap rfl) (oq (Ap rfl) (oq (A3 rfl) (oq (AK BD rfl Cs rfl rfl) (of (Bu (i:=0) CR rfl rfl rfl) (oq (Di BQ rfl rfl rfl h5 h7) (EY rfl (λH=>Jj (rs:=[rS (List.take (Bw hb-Bw q.fAt) (List.drop (Bw q.fAt) r1.2.fS))]) (r:=Ct [Al (AL (List.take (Bw hb-Bw q.fAt) (List.drop (Bw q.fAt) r1.2.fS))),Al (BI (List.take (Bw hb-Bw q.fAt) (List.drop (Bw q.fAt) r1.2.fS)))]) Tryz.call73 rfl (Vc (List.take (Bw hb-Bw q.fAt) (List.drop (Bw q.fAt) r1.2.fS)) h9) rfl) ?_))))))))));refine oq (Ap rfl) (oq (AB rfl rfl) (oq (AB rfl rfl) (oq (Aw rfl) (oq (Aw rfl) ?_))));exact Cp
  refine AJ (Ai (A8 [(0,rP ha 0),(5,Al (AL (List.take (Bw hb-Bw q.fAt) (List.drop (Bw q.fAt) r1.2.fS)))),(6,Al (BI (List.take (Bw hb-Bw q.fAt) (List.drop (Bw q.fAt) r1.2.fS)))),(81,rB ((decide ((BI (List.take (Bw hb-Bw q.fAt) (List.drop (Bw q.fAt) r1.2.fS)))=1))||(decide (r1.2.fAt=hb))))] [.blk ha [rS r1.2.fS,Al hb,rv v4,rB r1.2.fGreat] 127,.row v4 78 4 (AE Ab r1.2.fCells)] ?_ ?_))
  ·refine Ag (wm rfl (wv (B3 rfl rfl) (wm rfl (AN (decide ((BI (List.take (Bw hb-Bw q.fAt) (List.drop (Bw q.fAt) r1.2.fS)))=1)) (λhg=>?_) (λhg=>?_)))))
   ·refine wf hg (wf hg (wf hg (wf hg (wf hg (wf hg (wv (r:=rB true) (A1 rfl hg rfl) (Aj ?_)))))));exact Ca hg
   ·refine wo hg (wm rfl (wo hg (wm rfl (wo hg (wv (A3 rfl) (wo hg (vF BD rfl Cs (wo hg (vL 0 CR rfl (wo hg (wv (B3 rfl rfl) (Et rfl hg rfl (Aj ?_)))))))))))));exact Ca hg
  refine cz hA rfl (λhB hC=>?_) (λhB hD=>?_)
  ·refine Ad (wa rfl (Ak (As (Ac ?_))));obtain rfl:=Au hC;exact Ar (Cb Tryz.results162 (A7 rfl)) (sC (sC sN)) ⟨v4,rfl,rfl⟩
  ·refine Am (AJ (A8 [(0,rP ha 0),(5,Al (AL (List.take (Bw hb-Bw q.fAt) (List.drop (Bw q.fAt) r1.2.fS))))] [.blk ha [rS r1.2.fS,Al hb,rv v4,rB (r1.2.fGreat||(!decide ((BI (List.take (Bw hb-Bw q.fAt) (List.drop (Bw q.fAt) r1.2.fS)))=0)))] 127,.row v4 78 4 (AE Ab r1.2.fCells)] ?_ ?_))
   ·refine Ag (wm rfl (wm rfl (wv (A3 rfl) (vF BD rfl Hu (vL 0 NZ rfl (wm rfl (AN (r1.2.fGreat) (λhh=>?_) (λhh=>?_))))))))
    ·refine wf hh (wf hh (wv (r:=rB true) (A1 rfl hh rfl) (wv (A3 rfl) (vF BD rfl Hu (BH (i:=0) Hu rfl rfl (Cy rfl) rfl rfl (cs':=[rS r1.2.fS,Al hb,rv v4,rB true]) rfl (H':=[.blk ha [rS r1.2.fS,Al hb,rv v4,rB true] 127,.row v4 78 4 (AE Ab r1.2.fCells)]) rfl (Aj (J4 (H':=[.blk ha [rS r1.2.fS,Al hb,rv v4,rB (r1.2.fGreat||(!decide ((BI (List.take (Bw hb-Bw q.fAt) (List.drop (Bw q.fAt) r1.2.fS)))=0)))] 127,.row v4 78 4 (AE Ab r1.2.fCells)]) (by simp only[hh,Aer,Ae1,Ae9,Aew,Ae2,Ae3,Ae7,Ae6,Aes,Ae0,Aek,Aeh]) ?_)))))));exact wt
    ·refine wo hh (wm rfl (wo hh (wv (CV rfl rfl) (Et rfl hh rfl (wv (A3 rfl) (vF BD rfl Hu (BH (i:=0) Hu rfl rfl (Cy rfl) rfl rfl (cs':=[rS r1.2.fS,Al hb,rv v4,rB (!decide ((BI (List.take (Bw hb-Bw q.fAt) (List.drop (Bw q.fAt) r1.2.fS)))=0))]) rfl (H':=[.blk ha [rS r1.2.fS,Al hb,rv v4,rB (!decide ((BI (List.take (Bw hb-Bw q.fAt) (List.drop (Bw q.fAt) r1.2.fS)))=0))] 127,.row v4 78 4 (AE Ab r1.2.fCells)]) rfl (Aj (J4 (H':=[.blk ha [rS r1.2.fS,Al hb,rv v4,rB (r1.2.fGreat||(!decide ((BI (List.take (Bw hb-Bw q.fAt) (List.drop (Bw q.fAt) r1.2.fS)))=0)))] 127,.row v4 78 4 (AE Ab r1.2.fCells)]) (by simp only[hh,Aer,Ae1,Ae9,Aew,Ae2,Ae3,Ae7,Ae6,Aes,Ae0,Aek,Aeh]) ?_)))))))));exact wt
   refine Ad (wm rfl (wm rfl (wv (A3 rfl) (vF BD rfl Dp (vL 0 GO rfl (wm rfl (wv (r:=BC [Al 3,Al (AL (List.take (Bw hb-Bw q.fAt) (List.drop (Bw q.fAt) r1.2.fS))),rS ([]:Af),Al 0]) (Cq rfl rfl rfl rfl) (AT (ys:=([(Aa.mk 3 (AL (List.take (Bw hb-Bw q.fAt) (List.drop (Bw q.fAt) r1.2.fS))) ([]:Af) 0)]:List Aa)) (enc:=Ab) (css:=[[Al 3,Al (AL (List.take (Bw hb-Bw q.fAt) (List.drop (Bw q.fAt) r1.2.fS))),rS ([]:Af),Al 0]]) (xs:=[.tmp 99]) BY Co EU rfl rfl rfl ⟨Eu.agg ⟨Up.refl _,Up.refl _,Up.refl _,Up.refl _,trivial⟩,trivial⟩ rfl AU rfl rfl rfl (λho=>?_)))))))));refine ck hD λhE hG=>Exists.elim EB λinf hinf=>B9 (xs:=r1.2.fCells) (ys:=([(Aa.mk 3 (AL (List.take (Bw hb-Bw q.fAt) (List.drop (Bw q.fAt) r1.2.fS))) ([]:Af) 0)]:List Aa)) (enc:=Ab) (i:=2) BY hinf.1 hinf.2.1 hinf.2.2.1 hinf.2.2.2 rfl rfl rfl rfl rfl (Id.w (i:=0) rfl rfl) AU BP hE rfl (λhi=>?_);refine wv (A3 rfl) (vF BD rfl Dp (BH (i:=2) Dp rfl rfl (EO (i:=0) rfl) rfl rfl (cs':=[rS r1.2.fS,Al hb,rv hi,rB (r1.2.fGreat||(!decide ((BI (List.take (Bw hb-Bw q.fAt) (List.drop (Bw q.fAt) r1.2.fS)))=0)))]) rfl (H':=[.row hi 78 4 (AE Ab (r1.2.fCells++([(Aa.mk 3 (AL (List.take (Bw hb-Bw q.fAt) (List.drop (Bw q.fAt) r1.2.fS))) ([]:Af) 0)]:List Aa))),.row (.slice (some ⟨ho,0,none⟩) 1 1) 78 4 (AE Ab ([(Aa.mk 3 (AL (List.take (Bw hb-Bw q.fAt) (List.drop (Bw q.fAt) r1.2.fS))) ([]:Af) 0)]:List Aa)),.blk ha [rS r1.2.fS,Al hb,rv hi,rB (r1.2.fGreat||(!decide ((BI (List.take (Bw hb-Bw q.fAt) (List.drop (Bw q.fAt) r1.2.fS)))=0)))] 127]) rfl (Bm (wa rfl (Ak (As (Cn (H2:=[.blk ha [rS r1.2.fS,Al hb,rv hi,rB (r1.2.fGreat||(!decide ((BI (List.take (Bw hb-Bw q.fAt) (List.drop (Bw q.fAt) r1.2.fS)))=0)))] 127,.row hi 78 4 (AE Ab (r1.2.fCells++([(Aa.mk 3 (AL (List.take (Bw hb-Bw q.fAt) (List.drop (Bw q.fAt) r1.2.fS))) ([]:Af) 0)]:List Aa))),.row (.slice (some ⟨ho,0,none⟩) 1 1) 78 4 (AE Ab ([(Aa.mk 3 (AL (List.take (Bw hb-Bw q.fAt) (List.drop (Bw q.fAt) r1.2.fS))) ([]:Af) 0)]:List Aa))]) ((A0 (i:=2) rfl).trans (Aem _ (Ael _))) ?_)))))));obtain rfl:=Au hG;exact Ar (Cb Tryz.results162 (A7 rfl)) (sC (sC (sS sN))) ⟨hi,rfl,rfl⟩
theorem TN (F:Nat)(hd:Nat)(hk:Value)(q:Az)(r:Bool×Az)(h:IU F q=some r):Fn Tryz.prog GE 134 [rP hd 0] [.blk hd [rS q.fS,Al q.fAt,rv hk,rB q.fGreat] 127,.row hk 78 4 (AE Ab q.fCells)] (λR H=>∃w0_2:Value,R=rB r.1∧H=[.blk hd [rS r.2.fS,Al r.2.fAt,rv w0_2,rB r.2.fGreat] 127,.row w0_2 78 4 (AE Ab r.2.fCells)]):=by
 refine enter (n:=75) Tryz.func134 rfl Tryz.ntmps134 rfl (λw Z=>?_);unfold IU at h;refine Ad (wa rfl (Ak (Df (S:=(Af×Int×(List Aa)×Bool)×(Value)) (λσ=>Ey σ.1.1 σ.1.2.1 σ.1.2.2.1 σ.1.2.2.2=some r) (λσ=>[]) (λσ=>[.blk hd [rS σ.1.1,Al σ.1.2.1,rv σ.2,rB σ.1.2.2.2] 127,.row σ.2 78 4 (AE Ab σ.1.2.2.1)]) ?_ ?_)))
 ·refine AF (Ad (wm rfl (ob h λhe hx hy=>Gj (Hr:=[]) Ig (Ee hd hk q ([110,117,108,108]:Af) he hx) rfl (Ael _) rfl ?_)));rintro _ _ ⟨hz,rfl,rfl⟩;refine wa rfl (Ak (cz hy rfl (λh0 h1=>?_) (λh0 h2=>?_)))
  ·refine Ag (wm rfl (wm rfl (wv (A3 rfl) (vF BD rfl Dp (vL 0 GO rfl (wv (r:=BC [Al 1,Al 0,rS ([]:Af),Al 0]) (E9 rfl rfl) (AT (ys:=([(Aa.mk 1 0 ([]:Af) 0)]:List Aa)) (enc:=Ab) (css:=[[Al 1,Al 0,rS ([]:Af),Al 0]]) (xs:=[.tmp 15]) BY Co EU rfl rfl rfl ⟨Eu.agg ⟨Up.refl _,Up.refl _,Up.refl _,Up.refl _,trivial⟩,trivial⟩ rfl AU rfl rfl rfl (λhn=>?_))))))));refine ck h1 λh3 h4=>Exists.elim EB λinf hinf=>B9 (xs:=he.2.fCells) (ys:=([(Aa.mk 1 0 ([]:Af) 0)]:List Aa)) (enc:=Ab) (i:=2) BY hinf.1 hinf.2.1 hinf.2.2.1 hinf.2.2.2 rfl rfl rfl rfl rfl (Id.w (i:=0) rfl rfl) AU BP h3 rfl (λhg=>?_);exact wv (A3 rfl) (vF BD rfl Dp (BH (i:=2) Dp rfl rfl (EO (i:=0) rfl) rfl rfl (cs':=[rS he.2.fS,Al he.2.fAt,rv hg,rB he.2.fGreat]) rfl (H':=[.row hg 78 4 (AE Ab (he.2.fCells++([(Aa.mk 1 0 ([]:Af) 0)]:List Aa))),.row (.slice (some ⟨hn,0,none⟩) 1 1) 78 4 (AE Ab ([(Aa.mk 1 0 ([]:Af) 0)]:List Aa)),.blk hd [rS he.2.fS,Al he.2.fAt,rv hg,rB he.2.fGreat] 127]) rfl (Aj (AA (Cn (H2:=[.blk hd [rS he.2.fS,Al he.2.fAt,rv hg,rB he.2.fGreat] 127,.row hg 78 4 (AE Ab (he.2.fCells++([(Aa.mk 1 0 ([]:Af) 0)]:List Aa))),.row (.slice (some ⟨hn,0,none⟩) 1 1) 78 4 (AE Ab ([(Aa.mk 1 0 ([]:Af) 0)]:List Aa))]) ((A0 (i:=2) rfl).trans (Aem _ (Ael _))) (Av (A5 ((he.2.fS,he.2.fAt,he.2.fCells++([(Aa.mk 1 0 ([]:Af) 0)]:List Aa),he.2.fGreat),hg) h4 AD.nil (sC (sC (sS sN))))))))))
  ·refine Ad (wm rfl (ob h2 λhf h5 h6=>Gj (Hr:=[]) Ig (Ee hd hz he.2 ([116,114,117,101]:Af) hf h5) rfl (Ael _) rfl ?_));rintro _ _ ⟨v76,rfl,rfl⟩;refine wa rfl (Ak (cz h6 rfl (λh7 h8=>?_) (λh7 h9=>?_)))
   ·refine Ag (wm rfl (wm rfl (wv (A3 rfl) (vF BD rfl Dp (vL 0 GO rfl (wv (r:=BC [Al 2,Al 1,rS ([]:Af),Al 0]) (Cq rfl rfl rfl rfl) (AT (ys:=([(Aa.mk 2 1 ([]:Af) 0)]:List Aa)) (enc:=Ab) (css:=[[Al 2,Al 1,rS ([]:Af),Al 0]]) (xs:=[.tmp 28]) BY Co EU rfl rfl rfl ⟨Eu.agg ⟨Up.refl _,Up.refl _,Up.refl _,Up.refl _,trivial⟩,trivial⟩ rfl AU rfl rfl rfl (λho=>?_))))))));refine ck h8 λhA hB=>Exists.elim EB λinf hinf=>B9 (xs:=hf.2.fCells) (ys:=([(Aa.mk 2 1 ([]:Af) 0)]:List Aa)) (enc:=Ab) (i:=2) BY hinf.1 hinf.2.1 hinf.2.2.1 hinf.2.2.2 rfl rfl rfl rfl rfl (Id.w (i:=0) rfl rfl) AU BP hA rfl (λv80=>?_);exact wv (A3 rfl) (vF BD rfl Dp (BH (i:=2) Dp rfl rfl (EO (i:=0) rfl) rfl rfl (cs':=[rS hf.2.fS,Al hf.2.fAt,rv v80,rB hf.2.fGreat]) rfl (H':=[.row v80 78 4 (AE Ab (hf.2.fCells++([(Aa.mk 2 1 ([]:Af) 0)]:List Aa))),.row (.slice (some ⟨ho,0,none⟩) 1 1) 78 4 (AE Ab ([(Aa.mk 2 1 ([]:Af) 0)]:List Aa)),.blk hd [rS hf.2.fS,Al hf.2.fAt,rv v80,rB hf.2.fGreat] 127]) rfl (Aj (AA (Cn (H2:=[.blk hd [rS hf.2.fS,Al hf.2.fAt,rv v80,rB hf.2.fGreat] 127,.row v80 78 4 (AE Ab (hf.2.fCells++([(Aa.mk 2 1 ([]:Af) 0)]:List Aa))),.row (.slice (some ⟨ho,0,none⟩) 1 1) 78 4 (AE Ab ([(Aa.mk 2 1 ([]:Af) 0)]:List Aa))]) ((A0 (i:=2) rfl).trans (Aem _ (Ael _))) (Av (A5 ((hf.2.fS,hf.2.fAt,hf.2.fCells++([(Aa.mk 2 1 ([]:Af) 0)]:List Aa),hf.2.fGreat),v80) hB AD.nil (sC (sC (sS sN))))))))))
   ·refine Ad (wm rfl (ob h9 λhb hC hD=>Gj (Hr:=[]) Ig (Ee hd v76 hf.2 ([102,97,108,115,101]:Af) hb hC) rfl (Ael _) rfl ?_));rintro _ _ ⟨hp,rfl,rfl⟩;refine wa rfl (Ak (cz hD rfl (λhE hG=>?_) (λhE hH=>?_)))
    ·refine Ag (wm rfl (wm rfl (wv (A3 rfl) (vF BD rfl Dp (vL 0 GO rfl (wv (r:=BC [Al 2,Al 0,rS ([]:Af),Al 0]) (E9 rfl rfl) (AT (ys:=([(Aa.mk 2 0 ([]:Af) 0)]:List Aa)) (enc:=Ab) (css:=[[Al 2,Al 0,rS ([]:Af),Al 0]]) (xs:=[.tmp 41]) BY Co EU rfl rfl rfl ⟨Eu.agg ⟨Up.refl _,Up.refl _,Up.refl _,Up.refl _,trivial⟩,trivial⟩ rfl AU rfl rfl rfl (λhq=>?_))))))));refine ck hG λhI hJ=>Exists.elim EB λinf hinf=>B9 (xs:=hb.2.fCells) (ys:=([(Aa.mk 2 0 ([]:Af) 0)]:List Aa)) (enc:=Ab) (i:=2) BY hinf.1 hinf.2.1 hinf.2.2.1 hinf.2.2.2 rfl rfl rfl rfl rfl (Id.w (i:=0) rfl rfl) AU BP hI rfl (λhh=>?_);exact wv (A3 rfl) (vF BD rfl Dp (BH (i:=2) Dp rfl rfl (EO (i:=0) rfl) rfl rfl (cs':=[rS hb.2.fS,Al hb.2.fAt,rv hh,rB hb.2.fGreat]) rfl (H':=[.row hh 78 4 (AE Ab (hb.2.fCells++([(Aa.mk 2 0 ([]:Af) 0)]:List Aa))),.row (.slice (some ⟨hq,0,none⟩) 1 1) 78 4 (AE Ab ([(Aa.mk 2 0 ([]:Af) 0)]:List Aa)),.blk hd [rS hb.2.fS,Al hb.2.fAt,rv hh,rB hb.2.fGreat] 127]) rfl (Aj (AA (Cn (H2:=[.blk hd [rS hb.2.fS,Al hb.2.fAt,rv hh,rB hb.2.fGreat] 127,.row hh 78 4 (AE Ab (hb.2.fCells++([(Aa.mk 2 0 ([]:Af) 0)]:List Aa))),.row (.slice (some ⟨hq,0,none⟩) 1 1) 78 4 (AE Ab ([(Aa.mk 2 0 ([]:Af) 0)]:List Aa))]) ((A0 (i:=2) rfl).trans (Aem _ (Ael _))) (Av (A5 ((hb.2.fS,hb.2.fAt,hb.2.fCells++([(Aa.mk 2 0 ([]:Af) 0)]:List Aa),hb.2.fGreat),hh) hJ AD.nil (sC (sC (sS sN))))))))))
    ·refine Ai (ck hH λhK hL=>ob hL λhl hN hO=>CN [0] [⟨[],rP hd 0,0⟩,⟨[0],rP hd 0,0⟩,⟨[1],rP hd 0,0⟩,⟨[2],rS hb.2.fS,1⟩,⟨[],rP hd 0,0⟩,⟨[4],rP hd 0,0⟩,⟨[5],rP hd 1,0⟩,⟨[6],Al hb.2.fAt,1⟩,⟨[3,7],rS (List.drop (Bw hb.2.fAt) hb.2.fS),0⟩,⟨[8],rB hl,0⟩,⟨[9],rB hl,0⟩] [46,0] ?_ ?_)
     ·refine oq (Ap rfl) (oq (A3 rfl) (oq (AK BD rfl Da rfl rfl) (of (Bu (i:=0) DE rfl rfl rfl) (oq (Ap rfl) (oq (A3 rfl) (oq (AK BD rfl Cs rfl rfl) (of (Bu (i:=0) CR rfl rfl rfl) (oq (D7 BQ rfl rfl hK) (EY rfl (λH=>JR Tryz.call44 (Kv (List.drop (Bw hb.2.fAt) hb.2.fS) ([34]:Af) hl hN) rfl) ?_)))))))));refine oq (Aw rfl) ?_;exact Cp
     refine AJ (cz hO rfl (λhP hQ=>?_) (λhP hR=>?_))
     ·refine Ad (wm rfl (ob hQ λha hS hT=>Gj (Hr:=[]) Tryz.call135 (UJ F hd hp hb.2 ha hS) rfl (Ael _) rfl ?_));rintro _ _ ⟨hU,rfl,rfl⟩;refine wm rfl (wv (AB rfl rfl) (wv (AB rfl rfl) (wa rfl (wa rfl (Ak (Ai (Ad (wm rfl (wv (Cc rfl) (Ak (cz hT rfl (λhV hW=>?_) (λhV hX=>?_))))))))))))
      ·refine Ad (wa rfl (Ak (As (Ac (Ay (Ac ?_))))));obtain rfl:=Au hW;exact Ar (Cb Tryz.results134 (A7 rfl)) (sC (sC sN)) ⟨hU,rfl,rfl⟩
      ·refine Am (AJ (Ag (wm rfl (wm rfl (wv (A3 rfl) (vF BD rfl Dp (vL 0 GO rfl (wm rfl (wv (r:=BC [Al 4,Al 0,rS ha.1,Al 0]) (Gb rfl rfl rfl rfl) (AT (ys:=([(Aa.mk 4 0 ha.1 0)]:List Aa)) (enc:=Ab) (css:=[[Al 4,Al 0,rS ha.1,Al 0]]) (xs:=[.tmp 70]) BY Co EU rfl rfl rfl ⟨Eu.agg ⟨Up.refl _,Up.refl _,Up.refl _,Up.refl _,trivial⟩,trivial⟩ rfl AU rfl rfl rfl (λhr=>?_)))))))))));refine ck hX λhY hZ=>Exists.elim EB λinf hinf=>B9 (xs:=ha.2.2.fCells) (ys:=([(Aa.mk 4 0 ha.1 0)]:List Aa)) (enc:=Ab) (i:=2) BY hinf.1 hinf.2.1 hinf.2.2.1 hinf.2.2.2 rfl rfl rfl rfl rfl (Id.w (i:=0) rfl rfl) AU BP hY rfl (λhi=>?_);exact wv (A3 rfl) (vF BD rfl Dp (BH (i:=2) Dp rfl rfl (EO (i:=0) rfl) rfl rfl (cs':=[rS ha.2.2.fS,Al ha.2.2.fAt,rv hi,rB ha.2.2.fGreat]) rfl (H':=[.row hi 78 4 (AE Ab (ha.2.2.fCells++([(Aa.mk 4 0 ha.1 0)]:List Aa))),.row (.slice (some ⟨hr,0,none⟩) 1 1) 78 4 (AE Ab ([(Aa.mk 4 0 ha.1 0)]:List Aa)),.blk hd [rS ha.2.2.fS,Al ha.2.2.fAt,rv hi,rB ha.2.2.fGreat] 127]) rfl (Aj (AA (Cn (H2:=[.blk hd [rS ha.2.2.fS,Al ha.2.2.fAt,rv hi,rB ha.2.2.fGreat] 127,.row hi 78 4 (AE Ab (ha.2.2.fCells++([(Aa.mk 4 0 ha.1 0)]:List Aa))),.row (.slice (some ⟨hr,0,none⟩) 1 1) 78 4 (AE Ab ([(Aa.mk 4 0 ha.1 0)]:List Aa))]) ((A0 (i:=2) rfl).trans (Aem _ (Ael _))) (Av (A5 ((ha.2.2.fS,ha.2.2.fAt,ha.2.2.fCells++([(Aa.mk 4 0 ha.1 0)]:List Aa),ha.2.2.fGreat),hi) hZ AD.nil (sC (sC (sS sN))))))))))
     ·refine Ad (wm rfl (ob hR λga gb gc=>Gj (Hr:=[]) Tryz.call162 (AaA F hd hp hb.2 ga gb) rfl (Ael _) rfl ?_));rintro _ _ ⟨gd,rfl,rfl⟩;refine wa rfl (Ak (As (Ay (Ac ?_))));obtain rfl:=Au gc;exact Ar (Cb Tryz.results134 (A7 rfl)) (sC (sC sN)) ⟨gd,rfl,rfl⟩
 ·rintro⟨⟨hs,ht,hu,hw⟩,hm⟩ hj;refine BO (l':=[]) (H':=[.blk hd [rS hs,Al ht,rv hm,rB hw] 127,.row hm 78 4 (AE Ab hu)]) rfl rfl ?_;replace hj:Ey hs ht hu hw=some r:=hj;unfold Ey at hj;refine Ad (wa rfl (Ak (As ?_)));obtain rfl:=Au hj;exact Ar (Cb Tryz.results134 (A7 rfl)) (sC (sC sN)) ⟨hm,rfl,rfl⟩
theorem TL (F:Nat)(hh:Az→Option (Bool×Az))(ga:(∀(hb:Nat) (hq:Value) (q:Az) (r:Bool×Az),hh q=some r→Fn Tryz.prog GE 100 [rP hb 0] [.blk hb [rS q.fS,Al q.fAt,rv hq,rB q.fGreat] 127,.row hq 78 4 (AE Ab q.fCells)] (λR H=>∃w0_2:Value,R=rB r.1∧H=[.blk hb [rS r.2.fS,Al r.2.fAt,rv w0_2,rB r.2.fGreat] 127,.row w0_2 78 4 (AE Ab r.2.fCells)])))(hb:Nat)(hq:Value)(q:Az)(r:Bool×Az)(h:LR F hh q=some r):Fn Tryz.prog GE 100 [rP hb 0] [.blk hb [rS q.fS,Al q.fAt,rv hq,rB q.fGreat] 127,.row hq 78 4 (AE Ab q.fCells)] (λR H=>∃w0_2:Value,R=rB r.1∧H=[.blk hb [rS r.2.fS,Al r.2.fAt,rv w0_2,rB r.2.fGreat] 127,.row w0_2 78 4 (AE Ab r.2.fCells)]):=by
 refine enter (n:=96) Tryz.func100 rfl Tryz.ntmps100 rfl (λw Z=>?_);unfold LR at h;refine Ad (wa rfl (Bm (wm rfl (ob h λr1 e3 h2=>Gj (Hr:=[]) Ig (Ee hb hq q ([91]:Af) r1 e3) rfl (Ael _) rfl ?_))));rintro _ _ ⟨v4,rfl,rfl⟩;refine wa rfl (Ak (Ai (Df (S:=(Bool×Af×Int×(List Aa)×Bool)×(Value)) (λσ=>Ex F hh r1 σ.1.1 σ.1.2.1 σ.1.2.2.1 σ.1.2.2.2.1 σ.1.2.2.2.2=some r) (λσ=>[(0,rP hb 0),(2,rB false),(3,rB r1.1),(19,rB σ.1.1)]) (λσ=>[.blk hb [rS σ.1.2.1,Al σ.1.2.2.1,rv σ.2,rB σ.1.2.2.2.2] 127,.row σ.2 78 4 (AE Ab σ.1.2.2.2.1)]) ?_ ?_)))
 ·refine Ag (wm rfl (wv (Cc rfl) (wm rfl (bz h2 (λhi gq=>?_) (λhi gr=>?_)))))
  ·refine wo hi (wm rfl (wo hi (ob gq λhr gs gt=>Gj (Hr:=[]) Ig (Ee hb v4 r1.2 ([123]:Af) hr gs) rfl (Ael _) rfl ?_)));rintro _ _ ⟨v24,rfl,rfl⟩;exact wo hi (wv (Cc rfl) (Es rfl hi rfl (Aj (Av (A5 ((!hr.1,hr.2.fS,hr.2.fAt,hr.2.fCells,hr.2.fGreat),v24) gt (AD.c rfl (AD.c rfl (AD.c rfl (AD.c rfl AD.nil)))) (sC (sC sN)))))))
  ·exact wf hi (wf hi (wf hi (wv (r:=rB false) (A6 rfl hi rfl) (Aj (Av (A5 ((false,r1.2.fS,r1.2.fAt,r1.2.fCells,r1.2.fGreat),v4) gr (AD.c rfl (AD.c rfl (AD.c rfl (AD.c rfl AD.nil)))) (sC (sC sN))))))))
 ·rintro⟨⟨gb,hj,hk,x16,hl⟩,hI⟩ h8;refine BO (l':=[(0,rP hb 0),(2,rB false),(3,rB r1.1),(19,rB gb)]) (H':=[.blk hb [rS hj,Al hk,rv hI,rB hl] 127,.row hI 78 4 (AE Ab x16)]) rfl rfl ?_;replace h8:Ex F hh r1 gb hj hk x16 hl=some r:=h8;unfold Ex at h8;refine cz h8 rfl (λgu gv=>?_) (λgu gw=>?_)
  ·refine Ad (wm rfl (ob gv λgx gy gz=>Gj (Hr:=[]) Tryz.call134 (TN F hb hI (Az.mk hj hk x16 hl) gx gy) rfl (Ael _) rfl ?_));rintro _ _ ⟨v32,rfl,rfl⟩;refine wa rfl (Ak (As (Ac ?_)));obtain rfl:=Au gz;exact Ar (Cb Ll (A7 rfl)) (sC (sC sN)) ⟨v32,rfl,rfl⟩
  ·refine Am (AJ (Ad (wa rfl (wv (r:=rS ([125]:Af)) (Aw rfl) (Ak (Ai (Ad (wm rfl (Ak (cz gw rfl (λhJ g0=>?_) (λhJ g1=>?_)))))))))))
   ·refine Ag (wa rfl (wv (r:=rS ([93]:Af)) (Aw rfl) (Bm (wm rfl (wv (A3 rfl) (vF BD rfl Dp (vL 0 GO rfl (wv (Dl (ys:=x16) (enc:=Ab) (i:=1) BY rfl rfl) (wa rfl (Bm (wm rfl (wm rfl (wv (A3 rfl) (vF BD rfl Dp (vL 0 GO rfl (wm rfl (wv (r:=BC [Al 5,Al 0,rS ([]:Af),Al 0]) (E9 rfl rfl) (AT (ys:=([(Aa.mk 5 0 ([]:Af) 0)]:List Aa)) (enc:=Ab) (css:=[[Al 5,Al 0,rS ([]:Af),Al 0]]) (xs:=[.tmp 34]) BY Co EU rfl rfl rfl ⟨Eu.agg ⟨Up.refl _,Up.refl _,Up.refl _,Up.refl _,trivial⟩,trivial⟩ rfl AU rfl rfl rfl (λgc=>?_)))))))))))))))))));refine ck g0 λg2 g3=>Exists.elim EB λinf hinf=>B9 (xs:=x16) (ys:=([(Aa.mk 5 0 ([]:Af) 0)]:List Aa)) (enc:=Ab) (i:=2) BY hinf.1 hinf.2.1 hinf.2.2.1 hinf.2.2.2 rfl rfl rfl rfl rfl (Id.w (i:=0) rfl rfl) AU BP g2 rfl (λv37=>?_);refine wv (A3 rfl) (vF BD rfl Dp (BH (i:=2) Dp rfl rfl (EO (i:=0) rfl) rfl rfl (cs':=[rS hj,Al hk,rv v37,rB hl]) rfl (H':=[.row v37 78 4 (AE Ab (x16++([(Aa.mk 5 0 ([]:Af) 0)]:List Aa))),.row (.slice (some ⟨gc,0,none⟩) 1 1) 78 4 (AE Ab ([(Aa.mk 5 0 ([]:Af) 0)]:List Aa)),.blk hb [rS hj,Al hk,rv v37,rB hl] 127]) rfl (Ak (Ai (Ad (wm rfl (wm rfl (ob g3 λhw g4 g5=>Gj (Hr:=[.row (.slice (some ⟨gc,0,none⟩) 1 1) 78 4 (AE Ab ([(Aa.mk 5 0 ([]:Af) 0)]:List Aa))]) Ig (Ee hb v37 (Az.mk hj hk (x16++([(Aa.mk 5 0 ([]:Af) 0)]:List Aa)) hl) ([93]:Af) hw g4) rfl ((A0 (i:=2) rfl).trans (Aem _ (Ael _))) rfl ?_))))))));rintro _ _ ⟨gd,rfl,rfl⟩;refine Ak (cz g5 rfl (λg6 g7=>?_) (λg6 g8=>?_))
    ·refine Ad (wa rfl (Ak (As (Ac ?_))));obtain rfl:=Au g7;exact Ar (Cb Ll (A7 rfl)) (sC (sC (sS sN))) ⟨gd,rfl,rfl⟩
    ·refine Am (AJ (Ad (wv (r:=rS ([]:Af)) (Aw rfl) (Bm (wa rfl (Ak (AF (ob g8 λg9 gA hK=>Bo (S:=Nat×(Int×Af×Int×(List Aa)×Bool)×(Value)) (V:=(Unit)×(Unit)) 0 (λσ=>BJ (λσ=>Gm hh x16 σ.1 σ.2.1 σ.2.2.1 σ.2.2.2.1 σ.2.2.2.2) σ.1 σ.2.1=some g9) (λσ=>[(0,rP hb 0),(2,rB false),(3,rB r1.1),(5,rS ([93]:Af)),(6,Al (x16.length:Int)),(7,rS ([]:Af)),(8,Al σ.2.1.1)]) (λσ=>[.blk hb [rS σ.2.1.2.1,Al σ.2.1.2.2.1,rv σ.2.2,rB σ.2.1.2.2.2.2] 127,.row σ.2.2 78 4 (AE Ab σ.2.1.2.2.2.1)]) (λσ=>σ.1) (F,(1,hw.2.fS,hw.2.fAt,hw.2.fCells,hw.2.fGreat),gd) gA (AD.c rfl (AD.c rfl (AD.c5 rfl rfl rfl rfl rfl AD.nil))) (sC (sC (sS sN))) (λσ=>Il =some r) (λσ=>[]) (λσ=>[]) ?_ ?_))))))))
     ·rintro⟨xb,⟨hx,hL,hN,hO,hP⟩,hQ⟩ gB;refine BO (l':=[(0,rP hb 0),(2,rB false),(3,rB r1.1),(5,rS ([93]:Af)),(6,Al (x16.length:Int)),(7,rS ([]:Af)),(8,Al hx)]) (H':=[.blk hb [rS hL,Al hN,rv hQ,rB hP] 127,.row hQ 78 4 (AE Ab hO)]) rfl rfl ?_;obtain⟨gC,rfl,gD,h9,hA⟩:=Ck gB;replace h9:Gm hh x16 hx hL hN hO hP=some gD:=h9;unfold Gm at h9;refine Ai (AF (Ai (Ad (wm rfl (wv (Cc rfl) (Ak (Db rfl (SP hJ) (Am (AJ (Ai (Ad (wm rfl (ob h9 λhd gE gF=>Gj (Hr:=[]) Tryz.call100 (ga hb hQ (Az.mk hL hN hO hP) hd gE) rfl (Ael _) rfl ?_)))))))))))));rintro _ _ ⟨hs,rfl,rfl⟩;refine wv (Cc rfl) (Ak (cz gF rfl (λgG gH=>?_) (λgG gI=>?_)))
      ·refine Ad (wa rfl (Ak (As (Ac (Ay (Ac (Ac (AY ?_))))))));have gJ:=Bt gH hA hK;refine Ay ?_;obtain rfl:=Au gJ;exact Ar (Cb Ll (A7 rfl)) (sC (sC sN)) ⟨hs,rfl,rfl⟩
      ·refine Am (AJ (Ad (wm rfl (wv (A3 rfl) (vF BD rfl Dp (vL 0 GO rfl (wm rfl (wm rfl (ck gI λhR gK=>wv (r:=rv (Hq 4 hs (Bw (x16.length:Int)) 0)) (L9 (i:=1) BY Co rfl rfl rfl (Cj hR)) (wv (r:=rv (Hq 4 hs (Bw (x16.length:Int)) 3)) (GB (k:=1) B8 rfl Cs rfl (Cj hR) rfl rfl rfl) (Ki (enc:=Ab) (ys:=hd.2.fCells) (y':=(Aa.mk ((Aq hd.2.fCells (x16.length:Int)).fKind) ((Aq hd.2.fCells (x16.length:Int)).fInt) ((Aq hd.2.fCells (x16.length:Int)).fStr) hx)) (i:=1) (j:=(x16.length:Int)) Cs rfl rfl (Cy rfl) rfl hR rfl rfl (H':=[.blk hb [rS hd.2.fS,Al hd.2.fAt,rv hs,rB hd.2.fGreat] 127,.row hs 78 4 (AE Ab (List.set hd.2.fCells (Bw (x16.length:Int)) (Aa.mk ((Aq hd.2.fCells (x16.length:Int)).fKind) ((Aq hd.2.fCells (x16.length:Int)).fInt) ((Aq hd.2.fCells (x16.length:Int)).fStr) hx)))]) rfl (bd gK λgL gM gN=>?_))))))))))));rw[← gM];refine Ak (Ai (Ad (wm rfl (wm rfl (ob gN λge gO gP=>Gj (Hr:=[]) Ig (Ee hb hs (Az.mk hd.2.fS hd.2.fAt gL hd.2.fGreat) ([93]:Af) ge gO) rfl (Ael _) rfl ?_)))));rintro _ _ ⟨gf,rfl,rfl⟩;refine Ak (cz gP rfl (λc167 gQ=>?_) (λc167 gR=>?_))
       ·refine Ad (wa rfl (Ak (As (Ac (Ay (Ac (Ac (AY ?_))))))));have gS:=Bt gQ hA hK;refine Ay ?_;obtain rfl:=Au gS;exact Ar (Cb Ll (A7 rfl)) (sC (sC sN)) ⟨gf,rfl,rfl⟩
       ·refine Am (AJ (Ad (wm rfl (ob gR λhy gT gU=>Gj (Hr:=[]) Ig (Ee hb gf ge.2 ([44]:Af) hy gT) rfl (Ael _) rfl ?_))));rintro _ _ ⟨gg,rfl,rfl⟩;refine wv (Cc rfl) (Ak (cz gU rfl (λc175 gV=>?_) (λc175 gW=>?_)))
        ·refine Ad (wa rfl (Ak (As (Ay (Ac (Ac (AY ?_)))))));have gX:=Bt gV hA hK;refine Ay ?_;obtain rfl:=Au gX;exact Ar (Cb Ll (A7 rfl)) (sC (sC sN)) ⟨gg,rfl,rfl⟩
        ·refine Am (AA (AJ (Ag (wm rfl (ck gW λgY gZ=>wv (Bb rfl rfl gY) (wa rfl (Aj ?_)))))));have ca:=Be gZ hA;exact Av (A5 (gC,(hx+1,hy.2.fS,hy.2.fAt,hy.2.fCells,hy.2.fGreat),gg) ⟨ca,Aeo _⟩ (AD.c rfl (AD.c rfl (AD.c5 rfl rfl rfl rfl rfl AD.nil))) (sC (sC sN)))
     ·rintro⟨⟨⟩,⟨⟩⟩ cb
      cases cb
   ·refine Am (AJ (Ad (wm rfl (wv (A3 rfl) (vF BD rfl Dp (vL 0 GO rfl (wv (Dl (ys:=x16) (enc:=Ab) (i:=1) BY rfl rfl) (wa rfl (Bm (wm rfl (wm rfl (wv (A3 rfl) (vF BD rfl Dp (vL 0 GO rfl (wm rfl (wv (r:=BC [Al 6,Al 0,rS ([]:Af),Al 0]) (E9 rfl rfl) (AT (ys:=([(Aa.mk 6 0 ([]:Af) 0)]:List Aa)) (enc:=Ab) (css:=[[Al 6,Al 0,rS ([]:Af),Al 0]]) (xs:=[.tmp 34]) BY Co EU rfl rfl rfl ⟨Eu.agg ⟨Up.refl _,Up.refl _,Up.refl _,Up.refl _,trivial⟩,trivial⟩ rfl AU rfl rfl rfl (λgh=>?_))))))))))))))))));refine ck g1 λcc cd=>Exists.elim EB λinf hinf=>B9 (xs:=x16) (ys:=([(Aa.mk 6 0 ([]:Af) 0)]:List Aa)) (enc:=Ab) (i:=2) BY hinf.1 hinf.2.1 hinf.2.2.1 hinf.2.2.2 rfl rfl rfl rfl rfl (Id.w (i:=0) rfl rfl) AU BP cc rfl (λhB=>?_);refine wv (A3 rfl) (vF BD rfl Dp (BH (i:=2) Dp rfl rfl (EO (i:=0) rfl) rfl rfl (cs':=[rS hj,Al hk,rv hB,rB hl]) rfl (H':=[.row hB 78 4 (AE Ab (x16++([(Aa.mk 6 0 ([]:Af) 0)]:List Aa))),.row (.slice (some ⟨gh,0,none⟩) 1 1) 78 4 (AE Ab ([(Aa.mk 6 0 ([]:Af) 0)]:List Aa)),.blk hb [rS hj,Al hk,rv hB,rB hl] 127]) rfl (Ak (Ai (Ad (wm rfl (wm rfl (ob cd λhz ce cf=>Gj (Hr:=[.row (.slice (some ⟨gh,0,none⟩) 1 1) 78 4 (AE Ab ([(Aa.mk 6 0 ([]:Af) 0)]:List Aa))]) Ig (Ee hb hB (Az.mk hj hk (x16++([(Aa.mk 6 0 ([]:Af) 0)]:List Aa)) hl) ([125]:Af) hz ce) rfl ((A0 (i:=2) rfl).trans (Aem _ (Ael _))) rfl ?_))))))));rintro _ _ ⟨gi,rfl,rfl⟩;refine Ak (cz cf rfl (λcg ci=>?_) (λcg cj=>?_))
    ·refine Ad (wa rfl (Ak (As (Ac ?_))));obtain rfl:=Au ci;exact Ar (Cb Ll (A7 rfl)) (sC (sC (sS sN))) ⟨gi,rfl,rfl⟩
    ·refine Am (AJ (Ad (wv (r:=rS ([]:Af)) (Aw rfl) (Bm (wa rfl (Ak (AF (ob cj λcl cm hC=>Bo (S:=Nat×(Af×Int×Af×Int×(List Aa)×Bool)×(Value)) (V:=(Unit)×(Unit)) 0 (λσ=>BJ (λσ=>Gl F hh x16 σ.1 σ.2.1 σ.2.2.1 σ.2.2.2.1 σ.2.2.2.2.1 σ.2.2.2.2.2) σ.1 σ.2.1=some cl) (λσ=>[(0,rP hb 0),(2,rB false),(3,rB r1.1),(5,rS ([125]:Af)),(6,Al (x16.length:Int)),(7,rS σ.2.1.1),(8,Al σ.2.1.2.1)]) (λσ=>[.blk hb [rS σ.2.1.2.2.1,Al σ.2.1.2.2.2.1,rv σ.2.2,rB σ.2.1.2.2.2.2.2] 127,.row σ.2.2 78 4 (AE Ab σ.2.1.2.2.2.2.1)]) (λσ=>σ.1) (F,(([]:Af),1,hz.2.fS,hz.2.fAt,hz.2.fCells,hz.2.fGreat),gi) cm (AD.c rfl (AD.c rfl (AD.c5 rfl rfl rfl rfl rfl AD.nil))) (sC (sC (sS sN))) (λσ=>Ik =some r) (λσ=>[]) (λσ=>[]) ?_ ?_))))))))
     ·rintro⟨xc,⟨hg,hm,hS,hT,hU,hV⟩,hW⟩ cn;refine BO (l':=[(0,rP hb 0),(2,rB false),(3,rB r1.1),(5,rS ([125]:Af)),(6,Al (x16.length:Int)),(7,rS hg),(8,Al hm)]) (H':=[.blk hb [rS hS,Al hT,rv hW,rB hV] 127,.row hW 78 4 (AE Ab hU)]) rfl rfl ?_;obtain⟨co,rfl,hX,hD,h0⟩:=Ck cn;replace hD:Gl F hh x16 hg hm hS hT hU hV=some hX:=hD;unfold Gl at hD;refine Ai (AF (Ai (Ad (wm rfl (wv (Cc rfl) (Ak (EF rfl (SQ hJ) (Ad (wm rfl (ob hD λha cp cq=>Gj (Hr:=[]) Tryz.call135 (UJ F hb hW (Az.mk hS hT hU hV) ha cp) rfl (Ael _) rfl ?_))))))))));rintro _ _ ⟨hE,rfl,rfl⟩;refine wm rfl (wv (AB rfl rfl) (wv (AB rfl rfl) (wa rfl (wa rfl (Ak (Ai (Df (S:=(Bool×Bool×Bool×Af×Int×(List Aa)×Bool)×(Value)) (λσ=>C2 hh x16 hm ha σ.1.1 σ.1.2.1 σ.1.2.2.1 σ.1.2.2.2.1 σ.1.2.2.2.2.1 σ.1.2.2.2.2.2.1 σ.1.2.2.2.2.2.2=some hX) (λσ=>[(0,rP hb 0),(2,rB false),(3,rB r1.1),(5,rS ([125]:Af)),(6,Al (x16.length:Int)),(7,rS hg),(8,Al hm),(9,rS ha.1),(10,rB ha.2.1),(44,rB r1.1),(45,rB (!r1.1)),(46,Ct [rS ha.1,rB ha.2.1]),(47,rP hb 0),(48,Ct [rS ha.1,rB ha.2.1]),(49,rS ha.1),(50,rB ha.2.1),(51,rB ha.2.1),(52,rB (!ha.2.1)),(53,rB (!ha.2.1)),(61,rB σ.1.1),(62,rB σ.1.2.1),(66,rB σ.1.2.2.1)]) (λσ=>[.blk hb [rS σ.1.2.2.2.1,Al σ.1.2.2.2.2.1,rv σ.2,rB σ.1.2.2.2.2.2.2] 127,.row σ.2 78 4 (AE Ab σ.1.2.2.2.2.2.1)]) ?_ ?_)))))))
      ·refine Ag (wm rfl (wv (Cc rfl) (wm rfl (bz cq (λhf cr=>?_) (λhf cs=>?_)))))
       ·exact wf hf (wf hf (wf hf (wu (wu (wu (wf hf (wv (r:=rB true) (A1 rfl hf rfl) (wm rfl (wz rfl rfl (wz rfl rfl (wz rfl rfl (wv (r:=rB true) (A1 (b:=true) rfl rfl rfl) (Aj (Av (A5 ((true,true,true,ha.2.2.fS,ha.2.2.fAt,ha.2.2.fCells,ha.2.2.fGreat),hE) cr (AD.c rfl (AD.c rfl (AD.c5 rfl rfl rfl rfl rfl (AD.c5 rfl rfl rfl rfl rfl (AD.c5 rfl rfl rfl rfl rfl (AD.c5 rfl rfl rfl rfl rfl AD.nil)))))) (sC (sC sN)))))))))))))))))
       ·refine wo hf (wm rfl (wo hf (wv (Cm rfl rfl) (wo hf (wm rfl (bz cs (λhn ct=>?_) (λhn cu=>?_)))))))
        ·refine wo hn (wm rfl (wo hn (wm rfl (wo hn (wv (Vd rfl rfl) (wo hf (Es rfl hn rfl (Et rfl hf rfl (wm rfl (bz ct (λho cv=>?_) (λho cw=>?_)))))))))))
         ·exact wf ho (wf ho (wf ho (wv (r:=rB true) (A1 rfl ho rfl) (Aj (Av (A5 ((BR ha.1 hg||decide (ha.1=hg),BR ha.1 hg||decide (ha.1=hg),true,ha.2.2.fS,ha.2.2.fAt,ha.2.2.fCells,ha.2.2.fGreat),hE) cv (AD.c rfl (AD.c rfl (AD.c5 rfl rfl rfl rfl rfl (AD.c5 rfl rfl rfl rfl rfl (AD.c5 rfl rfl rfl rfl rfl (AD.c5 rfl rfl rfl rfl rfl AD.nil)))))) (sC (sC sN))))))))
         ·refine wo ho (wm rfl (wo ho (ob cw λht cx cy=>Gj (Hr:=[]) Ig (Ee hb hE ha.2.2 ([58]:Af) ht cx) rfl (Ael _) rfl ?_)));rintro _ _ ⟨c0,rfl,rfl⟩;exact wo ho (wv (Cc rfl) (Et rfl ho rfl (Aj (Av (A5 ((BR ha.1 hg||decide (ha.1=hg),BR ha.1 hg||decide (ha.1=hg),!ht.1,ht.2.fS,ht.2.fAt,ht.2.fCells,ht.2.fGreat),c0) cy (AD.c rfl (AD.c rfl (AD.c5 rfl rfl rfl rfl rfl (AD.c5 rfl rfl rfl rfl rfl (AD.c5 rfl rfl rfl rfl rfl (AD.c5 rfl rfl rfl rfl rfl AD.nil)))))) (sC (sC sN)))))))
        ·refine wf hn (wf hn (wf hn (wo hf (wv (r:=rB false) (A6 rfl hn rfl) (Et rfl hf rfl (wm rfl (Bj (b:=false) rfl rfl rfl (wm rfl (Bj (b:=false) rfl rfl rfl (ob cu λhp c1 c2=>Gj (Hr:=[]) Ig (Ee hb hE ha.2.2 ([58]:Af) hp c1) rfl (Ael _) rfl ?_))))))))));rintro _ _ ⟨c3,rfl,rfl⟩;exact Bj (b:=false) rfl rfl rfl (wv (Cc rfl) (wv (r:=rB (!hp.1)) (A6 (b:=false) rfl rfl rfl) (Aj (Av (A5 ((false,false,!hp.1,hp.2.fS,hp.2.fAt,hp.2.fCells,hp.2.fGreat),c3) c2 (AD.c rfl (AD.c rfl (AD.c5 rfl rfl rfl rfl rfl (AD.c5 rfl rfl rfl rfl rfl (AD.c5 rfl rfl rfl rfl rfl (AD.c5 rfl rfl rfl rfl rfl AD.nil)))))) (sC (sC sN)))))))
      ·rintro⟨⟨gj,gk,gl,h1,h3,h4,h5⟩,hY⟩ hG;refine BO (l':=[(0,rP hb 0),(2,rB false),(3,rB r1.1),(5,rS ([125]:Af)),(6,Al (x16.length:Int)),(7,rS hg),(8,Al hm),(9,rS ha.1),(10,rB ha.2.1),(44,rB r1.1),(45,rB (!r1.1)),(46,Ct [rS ha.1,rB ha.2.1]),(47,rP hb 0),(48,Ct [rS ha.1,rB ha.2.1]),(49,rS ha.1),(50,rB ha.2.1),(51,rB ha.2.1),(52,rB (!ha.2.1)),(53,rB (!ha.2.1)),(61,rB gj),(62,rB gk),(66,rB gl)]) (H':=[.blk hb [rS h1,Al h3,rv hY,rB h5] 127,.row hY 78 4 (AE Ab h4)]) rfl rfl ?_;replace hG:C2 hh x16 hm ha gj gk gl h1 h3 h4 h5=some hX:=hG;unfold C2 at hG;refine cz hG rfl (λc4 c6=>?_) (λc4 c7=>?_)
       ·refine Ad (wa rfl (Ak (As (Ac (Ac (Ay (Ac (Ac (AY ?_)))))))));have c8:=Bt c6 h0 hC;refine Ay ?_;obtain rfl:=Au c8;exact Ar (Cb Ll (A7 rfl)) (sC (sC sN)) ⟨hY,rfl,rfl⟩
       ·refine Am (AJ (Ad (wm rfl (wa rfl (Ak (Ag (wm rfl (wm rfl (wv (A3 rfl) (vF BD rfl Dp (vL 0 GO rfl (wm rfl (wv (r:=BC [Al 4,Al 0,rS ha.1,Al 0]) (Gb rfl rfl rfl rfl) (AT (ys:=([(Aa.mk 4 0 ha.1 0)]:List Aa)) (enc:=Ab) (css:=[[Al 4,Al 0,rS ha.1,Al 0]]) (xs:=[.tmp 74]) BY Co EU rfl rfl rfl ⟨Eu.agg ⟨Up.refl _,Up.refl _,Up.refl _,Up.refl _,trivial⟩,trivial⟩ rfl AU rfl rfl rfl (λh6=>?_)))))))))))))));refine ck c7 λc9 cA=>Exists.elim EB λinf hinf=>B9 (xs:=h4) (ys:=([(Aa.mk 4 0 ha.1 0)]:List Aa)) (enc:=Ab) (i:=2) BY hinf.1 hinf.2.1 hinf.2.2.1 hinf.2.2.2 rfl rfl rfl rfl rfl (Id.w (i:=0) rfl rfl) AU BP c9 rfl (λhH=>?_);refine wv (A3 rfl) (vF BD rfl Dp (BH (i:=2) Dp rfl rfl (EO (i:=0) rfl) rfl rfl (cs':=[rS h1,Al h3,rv hH,rB h5]) rfl (H':=[.row hH 78 4 (AE Ab (h4++([(Aa.mk 4 0 ha.1 0)]:List Aa))),.row (.slice (some ⟨h6,0,none⟩) 1 1) 78 4 (AE Ab ([(Aa.mk 4 0 ha.1 0)]:List Aa)),.blk hb [rS h1,Al h3,rv hH,rB h5] 127]) rfl (Ak (Ai (Ad (wm rfl (ob cA λhe cB cC=>Gj (Hr:=[.row (.slice (some ⟨h6,0,none⟩) 1 1) 78 4 (AE Ab ([(Aa.mk 4 0 ha.1 0)]:List Aa))]) Tryz.call100 (ga hb hH (Az.mk h1 h3 (h4++([(Aa.mk 4 0 ha.1 0)]:List Aa)) h5) he cB) rfl ((A0 (i:=2) rfl).trans (Aem _ (Ael _))) rfl ?_)))))));rintro _ _ ⟨hu,rfl,rfl⟩;refine wv (Cc rfl) (Ak (cz cC rfl (λcD cE=>?_) (λcD cF=>?_)))
        ·refine Ad (wa rfl (Ak (As (Ac (Ay (Ac (Ac (AY ?_))))))));have cG:=Bt cE h0 hC;refine Ay ?_;obtain rfl:=Au cG;exact Ar (Cb Ll (A7 rfl)) (sC (sC (sS sN))) ⟨hu,rfl,rfl⟩
        ·refine Am (AJ (Ad (wm rfl (wv (A3 rfl) (vF BD rfl Dp (vL 0 GO rfl (wm rfl (wm rfl (ck cF λhZ cH=>wv (r:=rv (Hq 4 hu (Bw (x16.length:Int)) 0)) (L9 (i:=1) BY Co rfl rfl rfl (Cj hZ)) (wv (r:=rv (Hq 4 hu (Bw (x16.length:Int)) 3)) (GB (k:=1) B8 rfl Cs rfl (Cj hZ) rfl rfl rfl) (Ki (enc:=Ab) (ys:=he.2.fCells) (y':=(Aa.mk ((Aq he.2.fCells (x16.length:Int)).fKind) ((Aq he.2.fCells (x16.length:Int)).fInt) ((Aq he.2.fCells (x16.length:Int)).fStr) hm)) (i:=1) (j:=(x16.length:Int)) Cs rfl rfl (Cy rfl) rfl hZ rfl rfl (H':=[.blk hb [rS he.2.fS,Al he.2.fAt,rv hu,rB he.2.fGreat] 127,.row hu 78 4 (AE Ab (List.set he.2.fCells (Bw (x16.length:Int)) (Aa.mk ((Aq he.2.fCells (x16.length:Int)).fKind) ((Aq he.2.fCells (x16.length:Int)).fInt) ((Aq he.2.fCells (x16.length:Int)).fStr) hm))),.row (.slice (some ⟨h6,0,none⟩) 1 1) 78 4 (AE Ab ([(Aa.mk 4 0 ha.1 0)]:List Aa))]) rfl (bd cH λcI cJ cK=>?_))))))))))));rw[← cJ];refine Ak (Ai (Ad (wm rfl (wm rfl (ob cK λgm cL cM=>Gj (Hr:=[.row (.slice (some ⟨h6,0,none⟩) 1 1) 78 4 (AE Ab ([(Aa.mk 4 0 ha.1 0)]:List Aa))]) Ig (Ee hb hu (Az.mk he.2.fS he.2.fAt cI he.2.fGreat) ([125]:Af) gm cL) rfl (Ael _) rfl ?_)))));rintro _ _ ⟨gn,rfl,rfl⟩;refine Ak (cz cM rfl (λcN cO=>?_) (λcN cP=>?_))
         ·refine Ad (wa rfl (Ak (As (Ac (Ay (Ac (Ac (AY ?_))))))));have cQ:=Bt cO h0 hC;refine Ay ?_;obtain rfl:=Au cQ;exact Ar (Cb Ll (A7 rfl)) (sC (sC (sS sN))) ⟨gn,rfl,rfl⟩
         ·refine Am (AJ (Ad (wm rfl (ob cP λh7 cR cS=>Gj (Hr:=[.row (.slice (some ⟨h6,0,none⟩) 1 1) 78 4 (AE Ab ([(Aa.mk 4 0 ha.1 0)]:List Aa))]) Ig (Ee hb gn gm.2 ([44]:Af) h7 cR) rfl (Ael _) rfl ?_))));rintro _ _ ⟨gp,rfl,rfl⟩;refine wv (Cc rfl) (Ak (cz cS rfl (λcT cU=>?_) (λcT cV=>?_)))
          ·refine Ad (wa rfl (Ak (As (Ay (Ac (Ac (AY ?_)))))));have cW:=Bt cU h0 hC;refine Ay ?_;obtain rfl:=Au cW;exact Ar (Cb Ll (A7 rfl)) (sC (sC (sS sN))) ⟨gp,rfl,rfl⟩
          ·refine Am (AA (AJ (Ag (wm rfl (ck cV λcX cY=>wv (Bb rfl rfl cX) (wa rfl (Aj ?_)))))));have cZ:=Be cY h0;exact Av (A5 (co,(ha.1,hm+1,h7.2.fS,h7.2.fAt,h7.2.fCells,h7.2.fGreat),gp) ⟨cZ,Aeo _⟩ (AD.c rfl (AD.c rfl (AD.c5 rfl rfl rfl rfl rfl AD.nil))) (sC (sC (sS sN))))
     ·rintro⟨⟨⟩,⟨⟩⟩ xa
      cases xa
theorem N4:∀F:Nat,(∀(ha:Nat) (hb:Value) (q:Az) (r:Bool×Az),CB F q=some r→Fn Tryz.prog GE 100 [rP ha 0] [.blk ha [rS q.fS,Al q.fAt,rv hb,rB q.fGreat] 127,.row hb 78 4 (AE Ab q.fCells)] (λR H=>∃w0_2:Value,R=rB r.1∧H=[.blk ha [rS r.2.fS,Al r.2.fAt,rv w0_2,rB r.2.fGreat] 127,.row w0_2 78 4 (AE Ab r.2.fCells)]))
  | 0=>(λ_ _ _ _ h=>by simp[CB] at h)
  | nn+1=>(λha hb q r h=>TL nn (CB nn) (N4 nn) ha hb q r (by rw[CB] at h;exact h))
theorem VQ (F:Nat)(ha:Nat)(hb:Value)(q:Az)(r:Bool×Az)(h:CB F q=some r):Fn Tryz.prog GE 100 [rP ha 0] [.blk ha [rS q.fS,Al q.fAt,rv hb,rB q.fGreat] 127,.row hb 78 4 (AE Ab q.fCells)] (λR H=>∃w0_2:Value,R=rB r.1∧H=[.blk ha [rS r.2.fS,Al r.2.fAt,rv w0_2,rB r.2.fGreat] 127,.row w0_2 78 4 (AE Ab r.2.fCells)]):=(N4 F) ha hb q r h
theorem VU (F:Nat)(s:Af)(r:(List Aa)×Int)(h:LU F s=some r):Fn Tryz.prog GE 74 [rS s] [] (λR H=>R=Ct [AX 4 (AE Ab r.1),Al r.2]∧H=[]):=by
 refine enter (n:=34) Tryz.func74 rfl Tryz.ntmps74 rfl (λw Z=>?_);unfold LU at h;refine Ad (wa rfl (wa rfl (Ak (Ai (Ad (wm rfl (wv (Bg BQ rfl) (wv (Cm rfl rfl) (Ak (cz h rfl (λc1 h2=>?_) (λc1 h3=>?_)))))))))))
 ·refine Ad (wa rfl (wa rfl (Ak (As (Ac (WK.up (d:=2) (r:=AX 4 (AE Ab ([]:List Aa))) rfl (Up.le (Ek.nil _)) ?_))))));obtain rfl:=Au h2;exact Ar (C6 Aau (A7 rfl) (A7 rfl)) sN ⟨rfl,rfl⟩
 ·refine Am (AJ (Ad (wm rfl (wv (r:=BC [rS s,Al 0,rv (.slice none 0 0),rB false]) (Ri rfl rfl) (DI rfl rfl (λb4=>?_))))));refine wa rfl (Ak (Ai (Df (S:=(Bool×Af×Int×(List Aa)×Bool)×(Value)) (λσ=>GR F σ.1.1 σ.1.2.1 σ.1.2.2.1 σ.1.2.2.2.1 σ.1.2.2.2.2=some r) (λσ=>[(2,rv (.slice none 0 0)),(3,Al 0),(4,rP b4 0),(22,rB σ.1.1)]) (λσ=>[.blk b4 [rS σ.1.2.1,Al σ.1.2.2.1,rv σ.2,rB σ.1.2.2.2.2] 127,.row σ.2 78 4 (AE Ab σ.1.2.2.2.1)]) ?_ ?_)))
  ·refine Ag (wm rfl (WL.nilrow (e:=78) (sz:=4) (ob h3 λhb hk hl=>Gj (Hr:=[]) Tryz.call100 (VQ F b4 (.slice none 0 0                                                                              ) (Az.mk s 0 ([]:List Aa) false) hb hk) rfl ((A0 (i:=1) rfl).trans (Aem _ (Ael _))) rfl ?_)));rintro _ _ ⟨v21,rfl,rfl⟩;refine wv (Cc rfl) (wm rfl (bz hl (λha hm=>?_) (λha hn=>?_)))
   ·exact wf ha (wf ha (wf ha (wf ha (wf ha (wf ha (wf ha (wv (r:=rB true) (A1 rfl ha rfl) (Aj (Av (A5 ((true,hb.2.fS,hb.2.fAt,hb.2.fCells,hb.2.fGreat),v21) hm (AD.c rfl (AD.c rfl (AD.c rfl (AD.c rfl AD.nil)))) (sC (sC sN))))))))))))
   ·exact wo ha (wm rfl (wo ha (wv (A3 rfl) (wo ha (vF BD rfl Cs (wo ha (vL 0 CR rfl (wo ha (wm rfl (wo ha (wv (Bg BQ rfl) (wo ha (wv (CV rfl rfl) (Et rfl ha rfl (Aj (Av (A5 ((!decide (hb.2.fAt=(s.length:Int)),hb.2.fS,hb.2.fAt,hb.2.fCells,hb.2.fGreat),v21) hn (AD.c rfl (AD.c rfl (AD.c rfl (AD.c rfl AD.nil)))) (sC (sC sN)))))))))))))))))))
  ·rintro⟨⟨hf,hg,hh,hd,hi⟩,hj⟩ he;refine BO (l':=[(2,rv (.slice none 0 0)),(3,Al 0),(4,rP b4 0),(22,rB hf)]) (H':=[.blk b4 [rS hg,Al hh,rv hj,rB hi] 127,.row hj 78 4 (AE Ab hd)]) rfl rfl ?_;replace he:GR F hf hg hh hd hi=some r:=he;unfold GR at he;refine cz he rfl (λho hp=>?_) (λho hq=>?_)
   ·refine Ad (wa rfl (wa rfl (Ak (As (Ac (WK.up (d:=2) (r:=AX 4 (AE Ab ([]:List Aa))) rfl (Up.le (Ek.nil _)) ?_))))));obtain rfl:=Au hp;exact Ar (C6 Aau (A7 rfl) (A7 rfl)) (sS (sS sN)) ⟨rfl,rfl⟩
   ·refine Am (AJ (Ai (Ad (wm rfl (wv (A3 rfl) (vF BD rfl Hu (vL 0 NZ rfl (Ak (cz hq rfl (λhr hs=>?_) (λhr ht=>?_))))))))))
    ·refine Ad (wa rfl (wa rfl (Ak (As (Ac (WK.up (d:=2) (r:=AX 4 (AE Ab ([]:List Aa))) rfl (Up.le (Ek.nil _)) ?_))))));obtain rfl:=Au hs;exact Ar (C6 Aau (A7 rfl) (A7 rfl)) (sS (sS sN)) ⟨rfl,rfl⟩
    ·refine Am (AJ (Ad (wm rfl (wv (A3 rfl) (vF BD rfl Dp (vL 0 GO rfl (WL.freeze (i:=1) rfl (WL.up (d:=30) (r:=AX 4 (AE Ab hd)) rfl (Up.fact (i:=0) rfl) (ob ht λhu hw hx=>Cu Tryz.call101 (TP F hd hu hw) rfl (wv (AB rfl rfl) (wv (AB rfl rfl) (wa rfl (wa rfl (Ak (As ?_)))))))))))))));obtain rfl:=Au hx;exact Ar (C6 Aau (A7 rfl) (A7 rfl)) (sS (sS sN)) ⟨rfl,rfl⟩
end Go.Proofs.YtjfnokmpfekniaaGreatDoor.Q
namespace Go.Proofs.YtjfnokmpfekniaaGreatDoor
open Go
set_option linter.unusedVariables false
end Go.Proofs.YtjfnokmpfekniaaGreatDoor
namespace Go.Proofs.YtjfnokmpfekniaaGreatDoor.Q
open Go Go.RowKit
set_option linter.unusedVariables false
set_option linter.unusedSimpArgs false
set_option maxRecDepth 100000
set_option maxHeartbeats 4000000
end Go.Proofs.YtjfnokmpfekniaaGreatDoor.Q
namespace Go.Proofs.YtjfnokmpfekniaaGreatDoor
open Go
set_option linter.unusedVariables false
def Mf (F:Nat)(v:(List Aa)):Option ((List Aa)×Int):=
 Br (MZ F v) λr1=>Bi (!decide (r1=0)) (some (([]:List Aa),r1)) (some (v,0))
def Su :Option ((List Aa)):=
 some ([(Aa.mk 1 0 ([]:Af) 0)]:List Aa)
def NA (b:Bool):Option ((List Aa)):=
 Bi (b) (some ([(Aa.mk 2 1 ([]:Af) 0)]:List Aa)) (some ([(Aa.mk 2 0 ([]:Af) 0)]:List Aa))
def B2 (s:Af)(at_:Int)(word:Af):Option (Bool):=
 AQ (Bs .i64 (at_+(word.length:Int)))<|AQ (imp (decide ((at_+(word.length:Int))≤(s.length:Int))) (Gr at_ (at_+(word.length:Int))))<|AQ (imp (decide ((at_+(word.length:Int))≤(s.length:Int))) (Gr (at_+(word.length:Int)) (s.length:Int)))<|some ((decide ((at_+(word.length:Int))≤(s.length:Int)))&&(decide ((List.take (Int.toNat (at_+(word.length:Int))-Int.toNat at_) (List.drop (Int.toNat at_) s))=word)))
def CD (s:Af)(hb:Af)(ha:Int):Option (Stp (Af×Int) (Out (Af×Int) (Af×Int))):=
 AQ (imp (decide (ha<(s.length:Int))) (Cw ha (s.length:Int)))<|Bi (((decide (ha<(s.length:Int)))&&(!decide ((AM s ha)=34)))) (AQ (Cw ha (s.length:Int))<|Bi (decide ((AM s ha)=92)) (AQ (Bs .i64 (ha+1))<|AQ (imp (!(decide ((s.length:Int)≤(ha+1)))) (Cw (ha+1) (s.length:Int)))<|Bi (((decide ((s.length:Int)≤(ha+1)))||((!decide ((AM s (ha+1))=34))&&(!decide ((AM s (ha+1))=92))))) (some (.out (.ret (([]:Af),(-1))))) (AQ (Bs .i64 ((ha+1)+1))<|AQ (Gr (ha+1) ((ha+1)+1))<|AQ (Gr ((ha+1)+1) (s.length:Int))<|AQ (Bs .i64 ((hb.length:Int)+((List.take (Int.toNat ((ha+1)+1)-Int.toNat (ha+1)) (List.drop (Int.toNat (ha+1)) s)).length:Int)))<|some (.next (hb++(List.take (Int.toNat ((ha+1)+1)-Int.toNat (ha+1)) (List.drop (Int.toNat (ha+1)) s)),(ha+1)+1)))) (AQ (Bs .i64 (ha+1))<|AQ (Gr ha (ha+1))<|AQ (Gr (ha+1) (s.length:Int))<|AQ (Bs .i64 ((hb.length:Int)+((List.take (Int.toNat (ha+1)-Int.toNat ha) (List.drop (Int.toNat ha) s)).length:Int)))<|some (.next (hb++(List.take (Int.toNat (ha+1)-Int.toNat ha) (List.drop (Int.toNat ha) s)),ha+1)))) (some (.out (.go (hb,ha))))
def CW (s:Af)(hb:Af)(ha:Int):Option (Af×Int):=
 Bi (decide ((s.length:Int)≤ha)) (some (([]:Af),(-1))) (AQ (Bs .i64 (ha+1))<|some (hb,ha+1))
def Dv (F:Nat)(s:Af)(at_:Int):Option (Af×Int):=
 AQ (imp (!(decide ((s.length:Int)≤at_))) (Cw at_ (s.length:Int)))<|Bi (((decide ((s.length:Int)≤at_))||(!decide ((AM s at_)=34)))) (some (([]:Af),(-1))) (AQ (Bs .i64 (at_+1))<|Br (BJ (λσ=>CD s σ.1 σ.2) F (([]:Af),at_+1)) (BE λν=>CW s ν.1 ν.2))
def G1 (s:Af)(at_:Int)(ha:Int)(hb:Int):Option (Stp (Int×Int) (Out ((List Aa)×Int) (Int×Int))):=
 AQ (imp (decide (ha<(s.length:Int))) (Cw ha (s.length:Int)))<|Bi (((decide (ha<(s.length:Int)))&&((decide (48≤(AM s ha)))&&(decide ((AM s ha)≤57))))) (AQ (Bs .i64 (ha-(at_+1)))<|Bi (decide ((ha-(at_+1))<18)) (AQ (Bs .i64 (10*hb))<|AQ (Cw ha (s.length:Int))<|AQ (Bs .u8 ((AM s ha)-48))<|AQ (Bs .i64 ((AM s ha)-48))<|AQ (Bs .i64 ((10*hb)+((AM s ha)-48)))<|AQ (Bs .i64 (ha+1))<|some (.next (ha+1,(10*hb)+((AM s ha)-48)))) (AQ (Bs .i64 (ha+1))<|some (.next (ha+1,hb)))) (some (.out (.go (ha,hb))))
def Gz (s:Af)(at_:Int)(ha:Int)(hb:Int):Option ((List Aa)×Int):=
 AQ (imp (!(decide (ha=(at_+1)))) (Cw (at_+1) (s.length:Int)))<|AQ (imp (!(decide (ha=(at_+1)))) (imp (decide ((AM s (at_+1))=48)) (Bs .i64 ((at_+1)+1))))<|Bi (((decide (ha=(at_+1)))||((decide ((AM s (at_+1))=48))&&((decide (((at_+1)+1)<ha))||(decide (at_<(at_+1))))))) (some (([]:List Aa),(-1))) (AQ (Bs .i64 (ha-(at_+1)))<|Bi (decide (18<(ha-(at_+1)))) (Bi (decide (at_<(at_+1))) (AQ (Bs .i64 (-2000000000000))<|some (([(Aa.mk 3 (-2000000000000) ([]:Af) 0)]:List Aa),ha)) (some (([(Aa.mk 3 2000000000000 ([]:Af) 0)]:List Aa),ha))) (Bi (decide (at_<(at_+1))) (AQ (Bs .i64 (-hb))<|some (([(Aa.mk 3 (-hb) ([]:Af) 0)]:List Aa),ha)) (some (([(Aa.mk 3 hb ([]:Af) 0)]:List Aa),ha))))
def G0 (s:Af)(at_:Int)(ha:Int)(hb:Int):Option (Stp (Int×Int) (Out ((List Aa)×Int) (Int×Int))):=
 AQ (imp (decide (ha<(s.length:Int))) (Cw ha (s.length:Int)))<|Bi (((decide (ha<(s.length:Int)))&&((decide (48≤(AM s ha)))&&(decide ((AM s ha)≤57))))) (AQ (Bs .i64 (ha-at_))<|Bi (decide ((ha-at_)<18)) (AQ (Bs .i64 (10*hb))<|AQ (Cw ha (s.length:Int))<|AQ (Bs .u8 ((AM s ha)-48))<|AQ (Bs .i64 ((AM s ha)-48))<|AQ (Bs .i64 ((10*hb)+((AM s ha)-48)))<|AQ (Bs .i64 (ha+1))<|some (.next (ha+1,(10*hb)+((AM s ha)-48)))) (AQ (Bs .i64 (ha+1))<|some (.next (ha+1,hb)))) (some (.out (.go (ha,hb))))
def Gy (s:Af)(at_:Int)(ha:Int)(hb:Int):Option ((List Aa)×Int):=
 AQ (imp (!(decide (ha=at_))) (imp (decide ((AM s at_)=48)) (Bs .i64 (at_+1))))<|Bi (((decide (ha=at_))||((decide ((AM s at_)=48))&&((decide ((at_+1)<ha))||(decide (at_<at_)))))) (some (([]:List Aa),(-1))) (AQ (Bs .i64 (ha-at_))<|Bi (decide (18<(ha-at_))) (Bi (decide (at_<at_)) (AQ (Bs .i64 (-2000000000000))<|some (([(Aa.mk 3 (-2000000000000) ([]:Af) 0)]:List Aa),ha)) (some (([(Aa.mk 3 2000000000000 ([]:Af) 0)]:List Aa),ha))) (Bi (decide (at_<at_)) (AQ (Bs .i64 (-hb))<|some (([(Aa.mk 3 (-hb) ([]:Af) 0)]:List Aa),ha)) (some (([(Aa.mk 3 hb ([]:Af) 0)]:List Aa),ha))))
def Jb (F:Nat)(s:Af)(at_:Int):Option ((List Aa)×Int):=
 AQ (Cw at_ (s.length:Int))<|Bi (decide ((AM s at_)=45)) (AQ (Bs .i64 (at_+1))<|Br (BJ (λσ=>G1 s at_ σ.1 σ.2) F (at_+1,0)) (BE λν=>Gz s at_ ν.1 ν.2)) (Br (BJ (λσ=>G0 s at_ σ.1 σ.2) F (at_,0)) (BE λν=>Gy s at_ ν.1 ν.2))
def QX (F:Nat)(he:Af→Int→Option ((List Aa)×Int))(s:Af)(at_:Int):Option ((List Aa)×Int):=
 Bi (decide ((s.length:Int)≤at_)) (some (([]:List Aa),(-1))) (Br (B2 s at_ ([110,117,108,108]:Af)) λr4=>Bi (r4) (Br (Su) λr9=>AQ (Bs .i64 (at_+4))<|some (r9,at_+4)) (Br (B2 s at_ ([116,114,117,101]:Af)) λhf=>Bi (hf) (Br (NA true) λhg=>AQ (Bs .i64 (at_+4))<|some (hg,at_+4)) (Br (B2 s at_ ([102,97,108,115,101]:Af)) λhh=>Bi (hh) (Br (NA false) λhi=>AQ (Bs .i64 (at_+5))<|some (hi,at_+5)) (AQ (Cw at_ (s.length:Int))<|Bi (decide ((AM s at_)=34)) (Br (Dv F s at_) λha=>some (([(Aa.mk 4 0 ha.1 0)]:List Aa),ha.2)) (Bi (((decide ((AM s at_)=91))||(decide ((AM s at_)=123)))) (Br (he s at_) λhb=>some (hb.1,hb.2)) (Br (Jb F s at_) λhd=>some (hd.1,hd.2)))))))
def HG (F:Nat)(s:Af)(hh:Af→Int→Option ((List Aa)×Int))(hg:(List Aa))(hb:Int)(ha:Aa):Option (Stp ((List Aa)×Int×Aa) (Out ((List Aa)×Int) ((List Aa)×Int×Aa))):=
 AQ ((B2 s hb ([125]:Af)).isSome)<|AQ (imp (!(!(ov (B2 s hb ([125]:Af))))) (imp (decide (0<ha.fN)) (Bs .i64 (hb-1))))<|AQ (imp (!(!(ov (B2 s hb ([125]:Af))))) (imp (decide (0<ha.fN)) (Cw (hb-1) (s.length:Int))))<|Bi (((!(ov (B2 s hb ([125]:Af))))||((decide (0<ha.fN))&&(decide ((AM s (hb-1))=44))))) (Bi (decide (ha.fKind=6)) (Br (Dv F s hb) λhd=>AQ (imp (!(decide (hd.2<0))) ((B2 s hd.2 ([58]:Af)).isSome))<|Bi (((decide (hd.2<0))||(!(ov (B2 s hd.2 ([58]:Af)))))) (some (.out (.ret (([]:List Aa),(-1))))) (AQ (Dw 40 (hg.length+([(Aa.mk 4 0 hd.1 0)]:List Aa).length))<|AQ (Bs .i64 (hd.2+1))<|Br (hh s (hd.2+1)) λhe=>Bi (decide (he.2<0)) (some (.out (.ret (([]:List Aa),(-1))))) (AQ (Dw 40 ((hg++([(Aa.mk 4 0 hd.1 0)]:List Aa)).length+he.1.length))<|AQ (Bs .i64 (ha.fN+1))<|Br (B2 s he.2 ([44]:Af)) λhi=>Bi (hi) (AQ (Bs .i64 (he.2+1))<|some (.next ((hg++([(Aa.mk 4 0 hd.1 0)]:List Aa))++he.1,he.2+1,(Aa.mk ha.fKind ha.fInt ha.fStr (ha.fN+1))))) (Br (B2 s he.2 ([125]:Af)) λhj=>Bi (!hj) (some (.out (.ret (([]:List Aa),(-1))))) (some (.next ((hg++([(Aa.mk 4 0 hd.1 0)]:List Aa))++he.1,he.2,(Aa.mk ha.fKind ha.fInt ha.fStr (ha.fN+1))))))))) (Br (hh s hb) λhf=>Bi (decide (hf.2<0)) (some (.out (.ret (([]:List Aa),(-1))))) (AQ (Dw 40 (hg.length+hf.1.length))<|AQ (Bs .i64 (ha.fN+1))<|Br (B2 s hf.2 ([44]:Af)) λhk=>Bi (hk) (AQ (Bs .i64 (hf.2+1))<|some (.next (hg++hf.1,hf.2+1,(Aa.mk ha.fKind ha.fInt ha.fStr (ha.fN+1))))) (Br (B2 s hf.2 ([125]:Af)) λhl=>Bi (!hl) (some (.out (.ret (([]:List Aa),(-1))))) (some (.next (hg++hf.1,hf.2,(Aa.mk ha.fKind ha.fInt ha.fStr (ha.fN+1))))))))) (some (.out (.go (hg,hb,ha))))
def HE (ha:(List Aa))(hb:Int)(hd:Aa):Option ((List Aa)×Int):=
 AQ (Dw 40 (([hd]:List Aa).length+ha.length))<|AQ (Bs .i64 (hb+1))<|some (([hd]:List Aa)++ha,hb+1)
def HF (F:Nat)(s:Af)(hh:Af→Int→Option ((List Aa)×Int))(hg:(List Aa))(hb:Int)(ha:Aa):Option (Stp ((List Aa)×Int×Aa) (Out ((List Aa)×Int) ((List Aa)×Int×Aa))):=
 AQ ((B2 s hb ([93]:Af)).isSome)<|AQ (imp (!(!(ov (B2 s hb ([93]:Af))))) (imp (decide (0<ha.fN)) (Bs .i64 (hb-1))))<|AQ (imp (!(!(ov (B2 s hb ([93]:Af))))) (imp (decide (0<ha.fN)) (Cw (hb-1) (s.length:Int))))<|Bi (((!(ov (B2 s hb ([93]:Af))))||((decide (0<ha.fN))&&(decide ((AM s (hb-1))=44))))) (Bi (decide (ha.fKind=6)) (Br (Dv F s hb) λhd=>AQ (imp (!(decide (hd.2<0))) ((B2 s hd.2 ([58]:Af)).isSome))<|Bi (((decide (hd.2<0))||(!(ov (B2 s hd.2 ([58]:Af)))))) (some (.out (.ret (([]:List Aa),(-1))))) (AQ (Dw 40 (hg.length+([(Aa.mk 4 0 hd.1 0)]:List Aa).length))<|AQ (Bs .i64 (hd.2+1))<|Br (hh s (hd.2+1)) λhe=>Bi (decide (he.2<0)) (some (.out (.ret (([]:List Aa),(-1))))) (AQ (Dw 40 ((hg++([(Aa.mk 4 0 hd.1 0)]:List Aa)).length+he.1.length))<|AQ (Bs .i64 (ha.fN+1))<|Br (B2 s he.2 ([44]:Af)) λhi=>Bi (hi) (AQ (Bs .i64 (he.2+1))<|some (.next ((hg++([(Aa.mk 4 0 hd.1 0)]:List Aa))++he.1,he.2+1,(Aa.mk ha.fKind ha.fInt ha.fStr (ha.fN+1))))) (Br (B2 s he.2 ([93]:Af)) λhj=>Bi (!hj) (some (.out (.ret (([]:List Aa),(-1))))) (some (.next ((hg++([(Aa.mk 4 0 hd.1 0)]:List Aa))++he.1,he.2,(Aa.mk ha.fKind ha.fInt ha.fStr (ha.fN+1))))))))) (Br (hh s hb) λhf=>Bi (decide (hf.2<0)) (some (.out (.ret (([]:List Aa),(-1))))) (AQ (Dw 40 (hg.length+hf.1.length))<|AQ (Bs .i64 (ha.fN+1))<|Br (B2 s hf.2 ([44]:Af)) λhk=>Bi (hk) (AQ (Bs .i64 (hf.2+1))<|some (.next (hg++hf.1,hf.2+1,(Aa.mk ha.fKind ha.fInt ha.fStr (ha.fN+1))))) (Br (B2 s hf.2 ([93]:Af)) λhl=>Bi (!hl) (some (.out (.ret (([]:List Aa),(-1))))) (some (.next (hg++hf.1,hf.2,(Aa.mk ha.fKind ha.fInt ha.fStr (ha.fN+1))))))))) (some (.out (.go (hg,hb,ha))))
def HD (ha:(List Aa))(hb:Int)(hd:Aa):Option ((List Aa)×Int):=
 AQ (Dw 40 (([hd]:List Aa).length+ha.length))<|AQ (Bs .i64 (hb+1))<|some (([hd]:List Aa)++ha,hb+1)
def J8 (F:Nat)(ha:Af→Int→Option ((List Aa)×Int))(s:Af)(at_:Int):Option ((List Aa)×Int):=
 AQ (Cw at_ (s.length:Int))<|Bi (decide ((AM s at_)=123)) (AQ (Bs .i64 (at_+1))<|Br (BJ (λσ=>HG F s ha σ.1 σ.2.1 σ.2.2) F (([]:List Aa),at_+1,(Aa.mk 6 0 ([]:Af) 0))) (BE λν=>HE ν.1 ν.2.1 ν.2.2)) (AQ (Bs .i64 (at_+1))<|Br (BJ (λσ=>HF F s ha σ.1 σ.2.1 σ.2.2) F (([]:List Aa),at_+1,(Aa.mk 5 0 ([]:Af) 0))) (BE λν=>HD ν.1 ν.2.1 ν.2.2))
mutual
def H4:Nat→Af→Int→Option ((List Aa)×Int)
 | 0,_,_=>none
 | nn+1,s,at_=>QX nn (DU nn) s at_
def DU:Nat→Af→Int→Option ((List Aa)×Int)
 | 0,_,_=>none
 | nn+1,s,at_=>J8 nn (H4 nn) s at_
end
def Me (F:Nat)(s:Af):Option ((List Aa)×Int):=
 Bi (decide (4000<(s.length:Int))) (some (([]:List Aa),3)) (Br (H4 F s 0) λr4=>Bi (!decide (r4.2=(s.length:Int))) (some (([]:List Aa),1)) (Br (Mf F r4.1) λha=>some (ha.1,ha.2)))
end Go.Proofs.YtjfnokmpfekniaaGreatDoor
namespace Go.Proofs.YtjfnokmpfekniaaGreatDoor.Q
open Go Go.RowKit
set_option linter.unusedVariables false
set_option linter.unusedSimpArgs false
set_option maxRecDepth 100000
set_option maxHeartbeats 4000000
theorem Ua (F:Nat)(v:(List Aa))(r:(List Aa)×Int)(h:Mf F v=some r):Fn Tryz.prog GE 104 [AX 4 (AE Ab v)] [] (λR H=>R=Ct [AX 4 (AE Ab r.1),Al r.2]∧H=[]):=by
 refine enter (n:=11) Tryz.func104 rfl Tryz.ntmps104 rfl (λw Z=>?_);unfold Mf at h;refine Ad (wa rfl (wa rfl (Bm (wm rfl (ob h λr1 e3 h2=>Cu Tryz.call57 (S2 F v r1 e3) rfl (wa rfl (Ak (Ai (Ad (wm rfl (wv (CV rfl rfl) (Ak (cz h2 rfl (λc4 h5=>?_) (λc4 h6=>?_))))))))))))))
 ·refine Ad (wm rfl (wa rfl (wa rfl (Ak (As (Ac (WK.up (d:=2) (r:=AX 4 (AE Ab ([]:List Aa))) rfl (Up.le (Ek.nil _)) ?_)))))));obtain rfl:=Au h5;exact Ar (C6 Tryz.results104 (A7 rfl) (A7 rfl)) sN ⟨rfl,rfl⟩
 ·refine Am (AJ (Ad (wm rfl (wa rfl (wa rfl (Ak (As ?_)))))));obtain rfl:=Au h6;exact Ar (C6 Tryz.results104 (A7 rfl) (A7 rfl)) sN ⟨rfl,rfl⟩
theorem AaL  (r:(List Aa))(h:Su=some r):Fn Tryz.prog GE 137 [] [] (λR H=>R=AX 4 (AE Ab r)∧H=[]):=by
 refine enter (n:=3) Tryz.func137 rfl Tryz.ntmps137 rfl (λw Z=>?_);unfold Su at h;refine Ad (wa rfl (Bm (wv (r:=BC [Al 1,Al 0,rS ([]:Af),Al 0]) (E9 rfl rfl) (AT (ys:=([(Aa.mk 1 0 ([]:Af) 0)]:List Aa)) (enc:=Ab) (css:=[[Al 1,Al 0,rS ([]:Af),Al 0]]) (xs:=[.tmp 1]) BY Co EU rfl rfl rfl ⟨Eu.agg ⟨Up.refl _,Up.refl _,Up.refl _,Up.refl _,trivial⟩,trivial⟩ rfl AU rfl rfl rfl (λb1=>?_)))));refine wa rfl (Ak (As (WK.freeze (i:=0) rfl (WK.up (d:=0) (r:=AX 4 (AE Ab ([(Aa.mk 1 0 ([]:Af) 0)]:List Aa))) rfl (Up.fact (i:=0) rfl) ?_))));obtain rfl:=Au h;exact Ar (Cb Tryz.results137 (A7 rfl)) (sS sN) ⟨rfl,rfl⟩
theorem UU (b:Bool)(r:(List Aa))(h:NA b=some r):Fn Tryz.prog GE 138 [rB b] [] (λR H=>R=AX 4 (AE Ab r)∧H=[]):=by
 refine enter (n:=8) Tryz.func138 rfl Tryz.ntmps138 rfl (λw Z=>?_);unfold NA at h;refine Ad (wa rfl (Ak (Ai (Ad (wm rfl (Ak (cz h rfl (λc1 h2=>?_) (λc1 h4=>?_))))))))
 ·refine Ad (wv (r:=BC [Al 2,Al 1,rS ([]:Af),Al 0]) (Cq rfl rfl rfl rfl) (AT (ys:=([(Aa.mk 2 1 ([]:Af) 0)]:List Aa)) (enc:=Ab) (css:=[[Al 2,Al 1,rS ([]:Af),Al 0]]) (xs:=[.tmp 4]) BY Co EU rfl rfl rfl ⟨Eu.agg ⟨Up.refl _,Up.refl _,Up.refl _,Up.refl _,trivial⟩,trivial⟩ rfl AU rfl rfl rfl (λb3=>?_)));refine wa rfl (Ak (As (Ac (WK.freeze (i:=0) rfl (WK.up (d:=2) (r:=AX 4 (AE Ab ([(Aa.mk 2 1 ([]:Af) 0)]:List Aa))) rfl (Up.fact (i:=0) rfl) ?_)))));obtain rfl:=Au h2;exact Ar (Cb Tryz.results138 (A7 rfl)) (sS sN) ⟨rfl,rfl⟩
 ·refine Am (AJ (Ad (wv (r:=BC [Al 2,Al 0,rS ([]:Af),Al 0]) (E9 rfl rfl) (AT (ys:=([(Aa.mk 2 0 ([]:Af) 0)]:List Aa)) (enc:=Ab) (css:=[[Al 2,Al 0,rS ([]:Af),Al 0]]) (xs:=[.tmp 6]) BY Co EU rfl rfl rfl ⟨Eu.agg ⟨Up.refl _,Up.refl _,Up.refl _,Up.refl _,trivial⟩,trivial⟩ rfl AU rfl rfl rfl (λb5=>?_)))));refine wa rfl (Ak (As (WK.freeze (i:=0) rfl (WK.up (d:=2) (r:=AX 4 (AE Ab ([(Aa.mk 2 0 ([]:Af) 0)]:List Aa))) rfl (Up.fact (i:=0) rfl) ?_))));obtain rfl:=Au h4;exact Ar (Cb Tryz.results138 (A7 rfl)) (sS sN) ⟨rfl,rfl⟩
theorem CO (s:Af)(at_:Int)(word:Af)(r:Bool)(h:B2 s at_ word=some r):Fn Tryz.prog GE 136 [rS s,Al at_,rS word] [] (λR H=>R=rB r∧H=[]):=by
 refine enter (n:=25) Tryz.func136 rfl Tryz.ntmps136 rfl (λw Z=>?_);unfold B2 at h;refine Ad (wa rfl (Ak (ck h λg1 h2=>ck h2 λg3 h4=>ck h4 λg5 h6=>A8 [(6,rB ((decide ((at_+(word.length:Int))≤(s.length:Int)))&&(decide ((List.take (Bw (at_+(word.length:Int))-Bw at_) (List.drop (Bw at_) s))=word))))] [] ?_ ?_)))
 ·refine Ag (wm rfl (wm rfl (wv (Bg BQ rfl) (wv (Bb rfl rfl g1) (wm rfl (wv (Bg BQ rfl) (wv (Lh rfl rfl) (wm rfl (AN (decide ((at_+(word.length:Int))≤(s.length:Int))) (λc7=>?_) (λc7=>?_))))))))))
  ·refine wo c7 (wm rfl (wo c7 (wm rfl (wo c7 (wm rfl (wo c7 (wm rfl (wo c7 (wv (Bg BQ rfl) (wo c7 (wv (Bb rfl rfl g1) (wo c7 (wv (Di BQ rfl rfl rfl (Cz g3 c7) (Cz g5 c7)) (wo c7 (wm rfl (wo c7 (wv (El rfl rfl) (Es rfl c7 rfl (wa rfl (Aj ?_))))))))))))))))))));exact Ca c7
  ·refine wf c7 (wf c7 (wf c7 (wf c7 (wf c7 (wf c7 (wf c7 (wf c7 (wf c7 (wv (r:=rB false) (A6 rfl c7 rfl) (wa rfl (Aj ?_)))))))))));exact Ca c7
 refine As ?_;obtain rfl:=Au h6;exact Ar (Cb Tryz.results136 (A7 rfl)) sN ⟨rfl,rfl⟩
theorem II (F:Nat)(s:Af)(at_:Int)(r:Af×Int)(h:Dv F s at_=some r):Fn Tryz.prog GE 139 [rS s,Al at_] [] (λR H=>R=Ct [rS r.1,Al r.2]∧H=[]):=by
 refine enter (n:=68) Tryz.func139 rfl Tryz.ntmps139 rfl (λw Z=>?_);unfold Dv at h;refine Ad (wv (r:=rS ([]:Af)) (Aw rfl) (wa rfl (Ak (Ai (ck h λg1 h2=>A8 [(0,rS s),(1,Al at_),(17,rB ((decide ((s.length:Int)≤at_))||(!decide ((AM s at_)=34))))] [] ?_ ?_)))))
 ·refine Ag (wm rfl (wm rfl (wv (Bg BQ rfl) (wv (Ga rfl rfl) (wm rfl (AN (decide ((s.length:Int)≤at_)) (λc3=>?_) (λc3=>?_)))))))
  ·refine wf c3 (wf c3 (wf c3 (wf c3 (wv (r:=rB true) (A1 rfl c3 rfl) (Aj ?_)))));exact Ca c3
  ·refine wo c3 (wm rfl (wo c3 (wm rfl (wo c3 (wv (AS BQ rfl rfl (CQ g1 c3)) (wo c3 (wv (CV rfl rfl) (Et rfl c3 rfl (Aj ?_)))))))));exact Ca c3
 refine cz h2 rfl (λc4 h5=>?_) (λc4 h6=>?_)
 ·refine Ad (wv (r:=rS ([]:Af)) (Aw rfl) (wv (r:=Al (-1)) (Aw rfl) (Ak (As (Ac ?_)))));obtain rfl:=Au h5;exact Ar (C6 UG (A7 rfl) (A7 rfl)) sN ⟨rfl,rfl⟩
 ·refine Am (AJ (Ad (wv (r:=rS ([]:Af)) (Aw rfl) (Bm (wm rfl (ck h6 λg7 h8=>wv (Bb rfl rfl g7) (wa rfl (Ak (Ai (AF (ob h8 λhq hr hj=>Bo (S:=Nat×(Af×Int)×(Unit)) (V:=(Af×Int)×(Unit)) 0 (λσ=>BJ (λσ=>CD s σ.1 σ.2) σ.1 σ.2.1=some hq) (λσ=>[(0,rS s),(6,rS σ.2.1.1),(7,Al σ.2.1.2)]) (λσ=>[]) (λσ=>σ.1) (F,(([]:Af),at_+1),()) hr (AD.c rfl (AD.c rfl (AD.c rfl AD.nil))) sN (λσ=>CW s σ.1.1 σ.1.2=some r) (λσ=>[(0,rS s),(6,rS σ.1.1),(7,Al σ.1.2)]) (λσ=>[]) ?_ ?_)))))))))))
  ·rintro⟨ge,⟨hf,hb⟩,⟨⟩⟩ hs;refine BO (l':=[(0,rS s),(6,rS hf),(7,Al hb)]) (H':=[]) rfl rfl ?_;obtain⟨hk,rfl,ht,hg,hh⟩:=Ck hs;replace hg:CD s hf hb=some ht:=hg;unfold CD at hg;refine Ai (ck hg λhu hw=>A8 [(0,rS s),(6,rS hf),(7,Al hb),(29,rB ((decide (hb<(s.length:Int)))&&(!decide ((AM s hb)=34))))] [] ?_ ?_)
   ·refine Ag (wm rfl (wm rfl (wv (Bg BQ rfl) (wv (Cf rfl rfl) (wm rfl (AN (decide (hb<(s.length:Int))) (λhd=>?_) (λhd=>?_)))))))
    ·refine wo hd (wm rfl (wo hd (wm rfl (wo hd (wv (AS BQ rfl rfl (Cz hu hd)) (wo hd (wv (CV rfl rfl) (Es rfl hd rfl (Aj ?_)))))))));exact Ca hd
    ·refine wf hd (wf hd (wf hd (wf hd (wv (r:=rB false) (A6 rfl hd rfl) (Aj ?_)))));exact Ca hd
   refine cz hw rfl (λhx hy=>?_) (λhx hz=>?_)
   ·refine Am (AJ (AF (Ai (Ad (wm rfl (wm rfl (ck hy λh0 h1=>wv (AS BQ rfl rfl h0) (wv (B3 rfl rfl) (Ak (cz h1 rfl (λh3 h4=>?_) (λh3 h7=>?_)))))))))))
    ·refine Ad (wm rfl (ck h4 λh9 hA=>wv (Bb rfl rfl h9) (wa rfl (Ak (ck hA λhl hB=>A8 [(0,rS s),(6,rS hf),(7,Al (hb+1)),(51,rB ((decide ((s.length:Int)≤(hb+1)))||((!decide ((AM s (hb+1))=34))&&(!decide ((AM s (hb+1))=92)))))] [] ?_ ?_)))))
     ·refine Ag (wm rfl (wm rfl (wv (Bg BQ rfl) (wv (Ga rfl rfl) (wm rfl (AN (decide ((s.length:Int)≤(hb+1))) (λha=>?_) (λha=>?_)))))))
      ·refine wf ha (wf ha (wf ha (wf ha (wf ha (wu (wu (wu (wu (wf ha (wv (r:=rB true) (A1 rfl ha rfl) (Aj ?_)))))))))));exact Ca ha
      ·refine wo ha (wm rfl (wo ha (wm rfl (wo ha (wv (AS BQ rfl rfl (CQ hl ha)) (wo ha (wv (CV rfl rfl) (wo ha (wm rfl (AN (!decide ((AM s (hb+1))=34)) (λhe=>?_) (λhe=>?_)))))))))))
       ·refine wo he (wm rfl (wo he (wm rfl (wo he (wv (AS BQ rfl rfl (CQ hl ha)) (wo he (wv (CV rfl rfl) (wo ha (Es rfl he rfl (Et rfl ha rfl (Aj ?_)))))))))));exact Ca (And.intro ha he)
       ·refine wf he (wf he (wf he (wf he (wo ha (wv (r:=rB false) (A6 rfl he rfl) (Et rfl ha rfl (Aj ?_)))))));exact Ca (And.intro ha he)
     refine cz hB rfl (λhC hD=>?_) (λhC hE=>?_)
     ·refine Ad (wv (r:=rS ([]:Af)) (Aw rfl) (wv (r:=Al (-1)) (Aw rfl) (Ak (As (Ac (Ay (Ac (AY ?_))))))));have hG:=Bt hD hh hj;refine Ay (Ac ?_);obtain rfl:=Au hG;exact Ar (C6 UG (A7 rfl) (A7 rfl)) sN ⟨rfl,rfl⟩
     ·refine Am (AJ (Ad (wm rfl (wm rfl (wm rfl (wm rfl (ck hE λhm hH=>wv (Bb rfl rfl hm) (ck hH λhI hJ=>ck hJ λhK hL=>wv (Di BQ rfl rfl rfl hI hK) (ck hL λhN hO=>wv (DG rfl rfl hN) (wa rfl (Ak (Ag (wm rfl (wv (Bb rfl rfl hm) (wa rfl (Aj (AA ?_)))))))))))))))));have hP:=Be hO hh;exact Av (A5 (hk,(hf++(List.take (Bw ((hb+1)+1)-Bw (hb+1)) (List.drop (Bw (hb+1)) s)),(hb+1)+1),()) ⟨hP,Aeo _⟩ (AD.c rfl (AD.c rfl (AD.c rfl AD.nil))) sN)
    ·refine Am (AJ (Ad (wm rfl (wm rfl (wm rfl (wm rfl (ck h7 λhn hQ=>wv (Bb rfl rfl hn) (ck hQ λhR hS=>ck hS λhT hU=>wv (Di BQ rfl rfl rfl hR hT) (ck hU λhV hW=>wv (DG rfl rfl hV) (wa rfl (Ak (Ag (wm rfl (wv (Bb rfl rfl hn) (wa rfl (Aj (AA ?_)))))))))))))))));have hX:=Be hW hh;exact Av (A5 (hk,(hf++(List.take (Bw (hb+1)-Bw hb) (List.drop (Bw hb) s)),hb+1),()) ⟨hX,Aeo _⟩ (AD.c rfl (AD.c rfl (AD.c rfl AD.nil))) sN)
   ·refine Bq (Ax ?_);have hY:=BL hz hh hj;exact Ax (Bd (A5 ((hf,hb),()) hY (AD.c rfl (AD.c rfl (AD.c rfl AD.nil))) sN))
  ·rintro⟨⟨ho,hp⟩,⟨⟩⟩ hi;refine Cl (l':=[(0,rS s),(6,rS ho),(7,Al hp)]) (H':=[]) rfl rfl ?_;replace hi:CW s ho hp=some r:=hi;unfold CW at hi;refine Bc (AJ (Ai (Ad (wm rfl (wm rfl (wv (Bg BQ rfl) (wv (Ga rfl rfl) (Ak (cz hi rfl (λhZ ga=>?_) (λhZ gb=>?_))))))))))
   ·refine Ad (wv (r:=rS ([]:Af)) (Aw rfl) (wv (r:=Al (-1)) (Aw rfl) (Ak (As (Ac ?_)))));obtain rfl:=Au ga;exact Ar (C6 UG (A7 rfl) (A7 rfl)) sN ⟨rfl,rfl⟩
   ·refine Am (AJ (Ad (wm rfl (wm rfl (ck gb λgc gd=>wv (Bb rfl rfl gc) (wa rfl (wa rfl (Ak (As ?_)))))))));obtain rfl:=Au gd;exact Ar (C6 UG (A7 rfl) (A7 rfl)) sN ⟨rfl,rfl⟩
theorem TV (F:Nat)(s:Af)(at_:Int)(r:(List Aa)×Int)(h:Jb F s at_=some r):Fn Tryz.prog GE 141 [rS s,Al at_] [] (λR H=>R=Ct [AX 4 (AE Ab r.1),Al r.2]∧H=[]):=by
 refine enter (n:=80) Tryz.func141 rfl Tryz.ntmps141 rfl (λw Z=>?_);unfold Jb at h;refine Ad (wa rfl (wa rfl (Bm (wm rfl (wa rfl (Ak (Ai (Ad (wm rfl (wm rfl (ck h λg1 h2=>wv (AS BQ rfl rfl g1) (wv (B3 rfl rfl) (Ak (cz h2 rfl (λc3 h4=>?_) (λc3 h7=>?_)))))))))))))))
 ·refine Ag (wm rfl (ck h4 λg5 h6=>wv (Bb rfl rfl g5) (wa rfl (Bm (wm rfl (wa rfl (Bm (wa rfl (Ak (Ai (AF (ob h6 λh8 h9 hA=>Bo (S:=Nat×(Int×Int)×(Unit)) (V:=(Int×Int)×(Unit)) 0 (λσ=>BJ (λσ=>G1 s at_ σ.1 σ.2) σ.1 σ.2.1=some h8) (λσ=>[(0,rS s),(1,Al at_),(6,Al σ.2.1.1),(7,Al (at_+1)),(8,Al σ.2.1.2)]) (λσ=>[]) (λσ=>σ.1) (F,(at_+1,0),()) h9 (AD.c5 rfl rfl rfl rfl rfl AD.nil) sN (λσ=>Gz s at_ σ.1.1 σ.1.2=some r) (λσ=>[(0,rS s),(1,Al at_),(6,Al σ.1.1),(7,Al (at_+1)),(8,Al σ.1.2)]) (λσ=>[]) ?_ ?_))))))))))))
  ·rintro⟨cu,⟨hj,hr⟩,⟨⟩⟩ hB;refine BO (l':=[(0,rS s),(1,Al at_),(6,Al hj),(7,Al (at_+1)),(8,Al hr)]) (H':=[]) rfl rfl ?_;obtain⟨h0,rfl,t213,ht,hy⟩:=Ck hB;replace ht:G1 s at_ hj hr=some t213:=ht;unfold G1 at ht;refine Ai (ck ht λh1 hC=>A8 [(0,rS s),(1,Al at_),(6,Al hj),(7,Al (at_+1)),(8,Al hr),(32,rB ((decide (hj<(s.length:Int)))&&((decide (48≤(AM s hj)))&&(decide ((AM s hj)≤57)))))] [] ?_ ?_)
   ·refine Ag (wm rfl (wm rfl (wv (Bg BQ rfl) (wv (Cf rfl rfl) (wm rfl (AN (decide (hj<(s.length:Int))) (λhf=>?_) (λhf=>?_)))))))
    ·refine wo hf (wm rfl (wo hf (wm rfl (wo hf (wv (AS BQ rfl rfl (Cz h1 hf)) (wo hf (wv (Ga rfl rfl) (Es rfl hf rfl (wm rfl (AN (decide (48≤(AM s hj))) (λhh=>?_) (λhh=>?_)))))))))))
     ·refine wo hh (wm rfl (wo hh (wm rfl (wo hh (wv (AS BQ rfl rfl (Cz h1 hf)) (wo hh (wv (Lh rfl rfl) (Es rfl hh rfl (Aj ?_)))))))));exact Ca (And.intro hf hh)
     ·refine wf hh (wf hh (wf hh (wf hh (wv (r:=rB false) (A6 rfl hh rfl) (Aj ?_)))));exact Ca (And.intro hf hh)
    ·refine wf hf (wf hf (wf hf (wf hf (wv (r:=rB false) (A6 rfl hf rfl) (wm rfl (wz rfl rfl (wz rfl rfl (wz rfl rfl (wz rfl rfl (wv (r:=rB false) (A6 (b:=false) rfl rfl rfl) (Aj ?_)))))))))));exact Ca hf
   refine cz hC rfl (λhD hE=>?_) (λhD hG=>?_)
   ·refine Am (AJ (AF (Ai (Ad (wm rfl (wm rfl (ck hE λhH hI=>wv (EZ rfl rfl hH) (wv (Cf rfl rfl) (Ak (cz hI rfl (λhJ hK=>?_) (λhJ hL=>?_)))))))))))
    ·refine Ag (wm rfl (ck hK λhN hO=>wv (ND rfl rfl hN) (wm rfl (wm rfl (ck hO λhP hQ=>wv (AS BQ rfl rfl hP) (ck hQ λhR hS=>wv (EZ rfl rfl hR) (ck hS λhT hU=>wv (CF ⟨_,Kc⟩ PM rfl hT) (ck hU λhV hW=>wv (Bb rfl rfl hV) (wa rfl (Ak (Ag (wm rfl (ck hW λhX hY=>wv (Bb rfl rfl hX) (wa rfl (Aj (AA ?_))))))))))))))));have hZ:=Be hY hy;exact Av (A5 (h0,(hj+1,(10*hr)+((AM s hj)-48)),()) ⟨hZ,Aeo _⟩ (AD.c5 rfl rfl rfl rfl rfl AD.nil) sN)
    ·refine Am (AJ (Ag (wm rfl (ck hL λga gb=>wv (Bb rfl rfl ga) (wa rfl (Aj (AA ?_)))))));have gc:=Be gb hy;exact Av (A5 (h0,(hj+1,hr),()) ⟨gc,Aeo _⟩ (AD.c5 rfl rfl rfl rfl rfl AD.nil) sN)
   ·refine Bq (Ax ?_);have gd:=BL hG hy hA;exact Ax (Bd (A5 ((hj,hr),()) gd (AD.c5 rfl rfl rfl rfl rfl AD.nil) sN))
  ·rintro⟨⟨hp,hl⟩,⟨⟩⟩ hu;refine Cl (l':=[(0,rS s),(1,Al at_),(6,Al hp),(7,Al (at_+1)),(8,Al hl)]) (H':=[]) rfl rfl ?_;replace hu:Gz s at_ hp hl=some r:=hu;unfold Gz at hu;refine Bc (AJ (Ai (ck hu λge gf=>ck gf λgg gh=>A8 [(1,Al at_),(6,Al hp),(7,Al (at_+1)),(8,Al hl),(66,rB ((decide (hp=(at_+1)))||((decide ((AM s (at_+1))=48))&&((decide (((at_+1)+1)<hp))||(decide (at_<(at_+1)))))))] [] ?_ ?_)))
   ·refine Ag (wm rfl (wm rfl (wv (B3 rfl rfl) (wm rfl (AN (decide (hp=(at_+1))) (λha=>?_) (λha=>?_))))))
    ·refine wf ha (wf ha (wf ha (wf ha (wf ha (wu (wu (wu (wu (wu (wu (wu (wu (wu (wf ha (wv (r:=rB true) (A1 rfl ha rfl) (Aj ?_))))))))))))))));exact Ca ha
    ·refine wo ha (wm rfl (wo ha (wm rfl (wo ha (wv (AS BQ rfl rfl (CQ ge ha)) (wo ha (wv (B3 rfl rfl) (wo ha (wm rfl (AN (decide ((AM s (at_+1))=48)) (λhd=>?_) (λhd=>?_)))))))))))
     ·refine wo hd (wm rfl (wo hd (wm rfl (wo hd (wv (Bb rfl rfl (Cz (CQ gg ha) hd)) (wo hd (wv (Cm rfl rfl) (wo hd (wm rfl (AN (decide (((at_+1)+1)<hp)) (λhm=>?_) (λhm=>?_)))))))))))
      ·refine wf hm (wf hm (wf hm (wo hd (wv (r:=rB true) (A1 rfl hm rfl) (wo ha (Es rfl hd rfl (Et rfl ha rfl (Aj ?_))))))));exact Ca (And.intro ha (And.intro hd hm))
      ·refine wo hm (wm rfl (wo hm (wm rfl (wo hm (wv (Cm rfl rfl) (wo hd (Et rfl hm rfl (wo ha (Es rfl hd rfl (Et rfl ha rfl (Aj ?_)))))))))));exact Ca (And.intro ha (And.intro hd hm))
     ·refine wf hd (wf hd (wf hd (wf hd (wf hd (wu (wu (wu (wf hd (wo ha (wv (r:=rB false) (A6 rfl hd rfl) (Et rfl ha rfl (Aj ?_))))))))))));exact Ca (And.intro ha hd)
   refine cz gh rfl (λgi gj=>?_) (λgi gk=>?_)
   ·refine Ad (wa rfl (wv (r:=Al (-1)) (Aw rfl) (Ak (As (Ac (WK.up (d:=4) (r:=AX 4 (AE Ab ([]:List Aa))) rfl (Up.le (Ek.nil _)) ?_))))));obtain rfl:=Au gj;exact Ar (C6 Lk (A7 rfl) (A7 rfl)) sN ⟨rfl,rfl⟩
   ·refine Am (AJ (Ai (Ad (wm rfl (wm rfl (ck gk λgl gm=>wv (EZ rfl rfl gl) (wv (Cm rfl rfl) (Ak (cz gm rfl (λgn gp=>?_) (λgn gq=>?_))))))))))
    ·refine Ag (wa rfl (Ak (Ai (Ad (wm rfl (wm rfl (wv (Cm rfl rfl) (Ak (cz gp rfl (λgr gs=>?_) (λgr gt=>?_))))))))))
     ·refine Ag (wm rfl (ck gs λgu gv=>wv (Qu rfl gu) (wa rfl (Bm (wm rfl (wv (r:=BC [Al 3,Al (-2000000000000),rS ([]:Af),Al 0]) (Cq rfl rfl rfl rfl) (AT (ys:=([(Aa.mk 3 (-2000000000000) ([]:Af) 0)]:List Aa)) (enc:=Ab) (css:=[[Al 3,Al (-2000000000000),rS ([]:Af),Al 0]]) (xs:=[.tmp 77]) BY Co EU rfl rfl rfl ⟨Eu.agg ⟨Up.refl _,Up.refl _,Up.refl _,Up.refl _,trivial⟩,trivial⟩ rfl AU rfl rfl rfl (λcv=>?_))))))));refine wm rfl (wa rfl (wa rfl (Ak (As (WK.freeze (i:=0) rfl (WK.up (d:=4) (r:=AX 4 (AE Ab ([(Aa.mk 3 (-2000000000000) ([]:Af) 0)]:List Aa))) rfl (Up.fact (i:=0) rfl) ?_))))));obtain rfl:=Au gv;exact Ar (C6 Lk (A7 rfl) (A7 rfl)) (sS sN) ⟨rfl,rfl⟩
     ·refine Am (AJ (Ad (wm rfl (wv (r:=BC [Al 3,Al 2000000000000,rS ([]:Af),Al 0]) (Cq rfl rfl rfl rfl) (AT (ys:=([(Aa.mk 3 2000000000000 ([]:Af) 0)]:List Aa)) (enc:=Ab) (css:=[[Al 3,Al 2000000000000,rS ([]:Af),Al 0]]) (xs:=[.tmp 77]) BY Co EU rfl rfl rfl ⟨Eu.agg ⟨Up.refl _,Up.refl _,Up.refl _,Up.refl _,trivial⟩,trivial⟩ rfl AU rfl rfl rfl (λcw=>?_))))));refine wm rfl (wa rfl (wa rfl (Ak (As (WK.freeze (i:=0) rfl (WK.up (d:=4) (r:=AX 4 (AE Ab ([(Aa.mk 3 2000000000000 ([]:Af) 0)]:List Aa))) rfl (Up.fact (i:=0) rfl) ?_))))));obtain rfl:=Au gt;exact Ar (C6 Lk (A7 rfl) (A7 rfl)) (sS sN) ⟨rfl,rfl⟩
    ·refine Am (AJ (Ai (Ad (wm rfl (wm rfl (wv (Cm rfl rfl) (Ak (cz gq rfl (λgw gx=>?_) (λgw gy=>?_)))))))))
     ·refine Ag (wm rfl (ck gx λgz g0=>wv (Qu rfl gz) (wa rfl (Bm (wm rfl (wv (r:=BC [Al 3,Al (-hl),rS ([]:Af),Al 0]) (Cq rfl rfl rfl rfl) (AT (ys:=([(Aa.mk 3 (-hl) ([]:Af) 0)]:List Aa)) (enc:=Ab) (css:=[[Al 3,Al (-hl),rS ([]:Af),Al 0]]) (xs:=[.tmp 77]) BY Co EU rfl rfl rfl ⟨Eu.agg ⟨Up.refl _,Up.refl _,Up.refl _,Up.refl _,trivial⟩,trivial⟩ rfl AU rfl rfl rfl (λcx=>?_))))))));refine wm rfl (wa rfl (wa rfl (Ak (As (WK.freeze (i:=0) rfl (WK.up (d:=4) (r:=AX 4 (AE Ab ([(Aa.mk 3 (-hl) ([]:Af) 0)]:List Aa))) rfl (Up.fact (i:=0) rfl) ?_))))));obtain rfl:=Au g0;exact Ar (C6 Lk (A7 rfl) (A7 rfl)) (sS sN) ⟨rfl,rfl⟩
     ·refine Am (AJ (Ad (wm rfl (wv (r:=BC [Al 3,Al hl,rS ([]:Af),Al 0]) (Cq rfl rfl rfl rfl) (AT (ys:=([(Aa.mk 3 hl ([]:Af) 0)]:List Aa)) (enc:=Ab) (css:=[[Al 3,Al hl,rS ([]:Af),Al 0]]) (xs:=[.tmp 77]) BY Co EU rfl rfl rfl ⟨Eu.agg ⟨Up.refl _,Up.refl _,Up.refl _,Up.refl _,trivial⟩,trivial⟩ rfl AU rfl rfl rfl (λcy=>?_))))));refine wm rfl (wa rfl (wa rfl (Ak (As (WK.freeze (i:=0) rfl (WK.up (d:=4) (r:=AX 4 (AE Ab ([(Aa.mk 3 hl ([]:Af) 0)]:List Aa))) rfl (Up.fact (i:=0) rfl) ?_))))));obtain rfl:=Au gy;exact Ar (C6 Lk (A7 rfl) (A7 rfl)) (sS sN) ⟨rfl,rfl⟩
 ·refine Am (AJ (Ad (wm rfl (wa rfl (Bm (wa rfl (Ak (Ai (AF (ob h7 λg2 g3 g4=>Bo (S:=Nat×(Int×Int)×(Unit)) (V:=(Int×Int)×(Unit)) 0 (λσ=>BJ (λσ=>G0 s at_ σ.1 σ.2) σ.1 σ.2.1=some g2) (λσ=>[(0,rS s),(1,Al at_),(6,Al σ.2.1.1),(7,Al at_),(8,Al σ.2.1.2)]) (λσ=>[]) (λσ=>σ.1) (F,(at_,0),()) g3 (AD.c5 rfl rfl rfl rfl rfl AD.nil) sN (λσ=>Gy s at_ σ.1.1 σ.1.2=some r) (λσ=>[(0,rS s),(1,Al at_),(6,Al σ.1.1),(7,Al at_),(8,Al σ.1.2)]) (λσ=>[]) ?_ ?_))))))))))
  ·rintro⟨c0,⟨hk,hs⟩,⟨⟩⟩ g6;refine BO (l':=[(0,rS s),(1,Al at_),(6,Al hk),(7,Al at_),(8,Al hs)]) (H':=[]) rfl rfl ?_;obtain⟨h3,rfl,g7,hw,hz⟩:=Ck g6;replace hw:G0 s at_ hk hs=some g7:=hw;unfold G0 at hw;refine Ai (ck hw λh5 g8=>A8 [(0,rS s),(1,Al at_),(6,Al hk),(7,Al at_),(8,Al hs),(32,rB ((decide (hk<(s.length:Int)))&&((decide (48≤(AM s hk)))&&(decide ((AM s hk)≤57)))))] [] ?_ ?_)
   ·refine Ag (wm rfl (wm rfl (wv (Bg BQ rfl) (wv (Cf rfl rfl) (wm rfl (AN (decide (hk<(s.length:Int))) (λhg=>?_) (λhg=>?_)))))))
    ·refine wo hg (wm rfl (wo hg (wm rfl (wo hg (wv (AS BQ rfl rfl (Cz h5 hg)) (wo hg (wv (Ga rfl rfl) (Es rfl hg rfl (wm rfl (AN (decide (48≤(AM s hk))) (λhi=>?_) (λhi=>?_)))))))))))
     ·refine wo hi (wm rfl (wo hi (wm rfl (wo hi (wv (AS BQ rfl rfl (Cz h5 hg)) (wo hi (wv (Lh rfl rfl) (Es rfl hi rfl (Aj ?_)))))))));exact Ca (And.intro hg hi)
     ·refine wf hi (wf hi (wf hi (wf hi (wv (r:=rB false) (A6 rfl hi rfl) (Aj ?_)))));exact Ca (And.intro hg hi)
    ·refine wf hg (wf hg (wf hg (wf hg (wv (r:=rB false) (A6 rfl hg rfl) (wm rfl (wz rfl rfl (wz rfl rfl (wz rfl rfl (wz rfl rfl (wv (r:=rB false) (A6 (b:=false) rfl rfl rfl) (Aj ?_)))))))))));exact Ca hg
   refine cz g8 rfl (λg9 gA=>?_) (λg9 gB=>?_)
   ·refine Am (AJ (AF (Ai (Ad (wm rfl (wm rfl (ck gA λgC gD=>wv (EZ rfl rfl gC) (wv (Cf rfl rfl) (Ak (cz gD rfl (λgE gF=>?_) (λgE gG=>?_)))))))))))
    ·refine Ag (wm rfl (ck gF λgH gI=>wv (ND rfl rfl gH) (wm rfl (wm rfl (ck gI λgJ gK=>wv (AS BQ rfl rfl gJ) (ck gK λgL gM=>wv (EZ rfl rfl gL) (ck gM λgN gO=>wv (CF ⟨_,Kc⟩ PM rfl gN) (ck gO λgP gQ=>wv (Bb rfl rfl gP) (wa rfl (Ak (Ag (wm rfl (ck gQ λgR gS=>wv (Bb rfl rfl gR) (wa rfl (Aj (AA ?_))))))))))))))));have gT:=Be gS hz;exact Av (A5 (h3,(hk+1,(10*hs)+((AM s hk)-48)),()) ⟨gT,Aeo _⟩ (AD.c5 rfl rfl rfl rfl rfl AD.nil) sN)
    ·refine Am (AJ (Ag (wm rfl (ck gG λgU gV=>wv (Bb rfl rfl gU) (wa rfl (Aj (AA ?_)))))));have gW:=Be gV hz;exact Av (A5 (h3,(hk+1,hs),()) ⟨gW,Aeo _⟩ (AD.c5 rfl rfl rfl rfl rfl AD.nil) sN)
   ·refine Bq (Ax ?_);have gX:=BL gB hz g4;exact Ax (Bd (A5 ((hk,hs),()) gX (AD.c5 rfl rfl rfl rfl rfl AD.nil) sN))
  ·rintro⟨⟨hq,hn⟩,⟨⟩⟩ hx;refine Cl (l':=[(0,rS s),(1,Al at_),(6,Al hq),(7,Al at_),(8,Al hn)]) (H':=[]) rfl rfl ?_;replace hx:Gy s at_ hq hn=some r:=hx;unfold Gy at hx;refine Bc (AJ (Ai (ck hx λgY gZ=>A8 [(1,Al at_),(6,Al hq),(7,Al at_),(8,Al hn),(66,rB ((decide (hq=at_))||((decide ((AM s at_)=48))&&((decide ((at_+1)<hq))||(decide (at_<at_))))))] [] ?_ ?_)))
   ·refine Ag (wm rfl (wm rfl (wv (B3 rfl rfl) (wm rfl (AN (decide (hq=at_)) (λhb=>?_) (λhb=>?_))))))
    ·refine wf hb (wf hb (wf hb (wf hb (wf hb (wu (wu (wu (wu (wu (wu (wu (wu (wu (wf hb (wv (r:=rB true) (A1 rfl hb rfl) (Aj ?_))))))))))))))));exact Ca hb
    ·refine wo hb (wm rfl (wo hb (wm rfl (wo hb (wv (AS BQ rfl rfl g1) (wo hb (wv (B3 rfl rfl) (wo hb (wm rfl (AN (decide ((AM s at_)=48)) (λhe=>?_) (λhe=>?_)))))))))))
     ·refine wo he (wm rfl (wo he (wm rfl (wo he (wv (Bb rfl rfl (Cz (CQ gY hb) he)) (wo he (wv (Cm rfl rfl) (wo he (wm rfl (AN (decide ((at_+1)<hq)) (λho=>?_) (λho=>?_)))))))))))
      ·refine wf ho (wf ho (wf ho (wo he (wv (r:=rB true) (A1 rfl ho rfl) (wo hb (Es rfl he rfl (Et rfl hb rfl (Aj ?_))))))));exact Ca (And.intro hb (And.intro he ho))
      ·refine wo ho (wm rfl (wo ho (wm rfl (wo ho (wv (Cm rfl rfl) (wo he (Et rfl ho rfl (wo hb (Es rfl he rfl (Et rfl hb rfl (Aj ?_)))))))))));exact Ca (And.intro hb (And.intro he ho))
     ·refine wf he (wf he (wf he (wf he (wf he (wu (wu (wu (wf he (wo hb (wv (r:=rB false) (A6 rfl he rfl) (Et rfl hb rfl (Aj ?_))))))))))));exact Ca (And.intro hb he)
   refine cz gZ rfl (λca cb=>?_) (λca cc=>?_)
   ·refine Ad (wa rfl (wv (r:=Al (-1)) (Aw rfl) (Ak (As (Ac (WK.up (d:=4) (r:=AX 4 (AE Ab ([]:List Aa))) rfl (Up.le (Ek.nil _)) ?_))))));obtain rfl:=Au cb;exact Ar (C6 Lk (A7 rfl) (A7 rfl)) sN ⟨rfl,rfl⟩
   ·refine Am (AJ (Ai (Ad (wm rfl (wm rfl (ck cc λcd ce=>wv (EZ rfl rfl cd) (wv (Cm rfl rfl) (Ak (cz ce rfl (λcf cg=>?_) (λcf ci=>?_))))))))))
    ·refine Ag (wa rfl (Ak (Ai (Ad (wm rfl (wm rfl (wv (Cm rfl rfl) (Ak (cz cg rfl (λcj cl=>?_) (λcj cm=>?_))))))))))
     ·refine Ag (wm rfl (ck cl λcn co=>wv (Qu rfl cn) (wa rfl (Bm (wm rfl (wv (r:=BC [Al 3,Al (-2000000000000),rS ([]:Af),Al 0]) (Cq rfl rfl rfl rfl) (AT (ys:=([(Aa.mk 3 (-2000000000000) ([]:Af) 0)]:List Aa)) (enc:=Ab) (css:=[[Al 3,Al (-2000000000000),rS ([]:Af),Al 0]]) (xs:=[.tmp 77]) BY Co EU rfl rfl rfl ⟨Eu.agg ⟨Up.refl _,Up.refl _,Up.refl _,Up.refl _,trivial⟩,trivial⟩ rfl AU rfl rfl rfl (λc1=>?_))))))));refine wm rfl (wa rfl (wa rfl (Ak (As (WK.freeze (i:=0) rfl (WK.up (d:=4) (r:=AX 4 (AE Ab ([(Aa.mk 3 (-2000000000000) ([]:Af) 0)]:List Aa))) rfl (Up.fact (i:=0) rfl) ?_))))));obtain rfl:=Au co;exact Ar (C6 Lk (A7 rfl) (A7 rfl)) (sS sN) ⟨rfl,rfl⟩
     ·refine Am (AJ (Ad (wm rfl (wv (r:=BC [Al 3,Al 2000000000000,rS ([]:Af),Al 0]) (Cq rfl rfl rfl rfl) (AT (ys:=([(Aa.mk 3 2000000000000 ([]:Af) 0)]:List Aa)) (enc:=Ab) (css:=[[Al 3,Al 2000000000000,rS ([]:Af),Al 0]]) (xs:=[.tmp 77]) BY Co EU rfl rfl rfl ⟨Eu.agg ⟨Up.refl _,Up.refl _,Up.refl _,Up.refl _,trivial⟩,trivial⟩ rfl AU rfl rfl rfl (λc2=>?_))))));refine wm rfl (wa rfl (wa rfl (Ak (As (WK.freeze (i:=0) rfl (WK.up (d:=4) (r:=AX 4 (AE Ab ([(Aa.mk 3 2000000000000 ([]:Af) 0)]:List Aa))) rfl (Up.fact (i:=0) rfl) ?_))))));obtain rfl:=Au cm;exact Ar (C6 Lk (A7 rfl) (A7 rfl)) (sS sN) ⟨rfl,rfl⟩
    ·refine Am (AJ (Ai (Ad (wm rfl (wm rfl (wv (Cm rfl rfl) (Ak (cz ci rfl (λcp cq=>?_) (λcp cr=>?_)))))))))
     ·refine Ag (wm rfl (ck cq λcs ct=>wv (Qu rfl cs) (wa rfl (Bm (wm rfl (wv (r:=BC [Al 3,Al (-hn),rS ([]:Af),Al 0]) (Cq rfl rfl rfl rfl) (AT (ys:=([(Aa.mk 3 (-hn) ([]:Af) 0)]:List Aa)) (enc:=Ab) (css:=[[Al 3,Al (-hn),rS ([]:Af),Al 0]]) (xs:=[.tmp 77]) BY Co EU rfl rfl rfl ⟨Eu.agg ⟨Up.refl _,Up.refl _,Up.refl _,Up.refl _,trivial⟩,trivial⟩ rfl AU rfl rfl rfl (λc4=>?_))))))));refine wm rfl (wa rfl (wa rfl (Ak (As (WK.freeze (i:=0) rfl (WK.up (d:=4) (r:=AX 4 (AE Ab ([(Aa.mk 3 (-hn) ([]:Af) 0)]:List Aa))) rfl (Up.fact (i:=0) rfl) ?_))))));obtain rfl:=Au ct;exact Ar (C6 Lk (A7 rfl) (A7 rfl)) (sS sN) ⟨rfl,rfl⟩
     ·refine Am (AJ (Ad (wm rfl (wv (r:=BC [Al 3,Al hn,rS ([]:Af),Al 0]) (Cq rfl rfl rfl rfl) (AT (ys:=([(Aa.mk 3 hn ([]:Af) 0)]:List Aa)) (enc:=Ab) (css:=[[Al 3,Al hn,rS ([]:Af),Al 0]]) (xs:=[.tmp 77]) BY Co EU rfl rfl rfl ⟨Eu.agg ⟨Up.refl _,Up.refl _,Up.refl _,Up.refl _,trivial⟩,trivial⟩ rfl AU rfl rfl rfl (λc6=>?_))))));refine wm rfl (wa rfl (wa rfl (Ak (As (WK.freeze (i:=0) rfl (WK.up (d:=4) (r:=AX 4 (AE Ab ([(Aa.mk 3 hn ([]:Af) 0)]:List Aa))) rfl (Up.fact (i:=0) rfl) ?_))))));obtain rfl:=Au cr;exact Ar (C6 Lk (A7 rfl) (A7 rfl)) (sS sN) ⟨rfl,rfl⟩
theorem Yj (F:Nat)(hd:Af→Int→Option ((List Aa)×Int))(he:(∀(s:Af) (at_:Int) (r:(List Aa)×Int),hd s at_=some r→Fn Tryz.prog GE 140 [rS s,Al at_] [] (λR H=>R=Ct [AX 4 (AE Ab r.1),Al r.2]∧H=[])))(s:Af)(at_:Int)(r:(List Aa)×Int)(h:QX F hd s at_=some r):Fn Tryz.prog GE 103 [rS s,Al at_] [] (λR H=>R=Ct [AX 4 (AE Ab r.1),Al r.2]∧H=[]):=by
 refine enter (n:=64) Tryz.func103 rfl Tryz.ntmps103 rfl (λw Z=>?_);unfold QX at h;refine Ad (wa rfl (wa rfl (Ak (Ai (Ad (wm rfl (wm rfl (wv (Bg BQ rfl) (wv (Ga rfl rfl) (Ak (cz h rfl (λc1 h2=>?_) (λc1 h3=>?_))))))))))))
 ·refine Ad (wa rfl (wv (r:=Al (-1)) (Aw rfl) (Ak (As (Ac (WK.up (d:=4) (r:=AX 4 (AE Ab ([]:List Aa))) rfl (Up.le (Ek.nil _)) ?_))))));obtain rfl:=Au h2;exact Ar (C6 O5 (A7 rfl) (A7 rfl)) sN ⟨rfl,rfl⟩
 ·refine Am (AJ (Ai (Ad (wm rfl (wm rfl (ob h3 λr4 e6 h5=>Cu If (CO s at_ ([110,117,108,108]:Af) r4 e6) rfl (Ak (cz h5 rfl (λc7 h8=>?_) (λc7 hf=>?_)))))))))
  ·refine Ad (ob h8 λr9 hg hh=>Cu Tryz.call137 (AaL r9 hg) rfl (wm rfl (ck hh λhi hj=>wv (Bb rfl rfl hi) (wa rfl (wa rfl (Ak (As (Ac ?_))))))));obtain rfl:=Au hj;exact Ar (C6 O5 (A7 rfl) (A7 rfl)) sN ⟨rfl,rfl⟩
  ·refine Am (AJ (Ai (Ad (wm rfl (wm rfl (ob hf λhk hl hm=>Cu If (CO s at_ ([116,114,117,101]:Af) hk hl) rfl (Ak (cz hm rfl (λhn ho=>?_) (λhn hp=>?_)))))))))
   ·refine Ad (ob ho λhq hr hs=>Cu Tryz.call138 (UU true hq hr) rfl (wm rfl (ck hs λht hu=>wv (Bb rfl rfl ht) (wa rfl (wa rfl (Ak (As (Ac ?_))))))));obtain rfl:=Au hu;exact Ar (C6 O5 (A7 rfl) (A7 rfl)) sN ⟨rfl,rfl⟩
   ·refine Am (AJ (Ai (Ad (wm rfl (wm rfl (ob hp λhw hx hy=>Cu If (CO s at_ ([102,97,108,115,101]:Af) hw hx) rfl (Ak (cz hy rfl (λhz h0=>?_) (λhz h1=>?_)))))))))
    ·refine Ad (ob h0 λh4 h6 h7=>Cu Tryz.call138 (UU false h4 h6) rfl (wm rfl (ck h7 λh9 hA=>wv (Bb rfl rfl h9) (wa rfl (wa rfl (Ak (As (Ac ?_))))))));obtain rfl:=Au hA;exact Ar (C6 O5 (A7 rfl) (A7 rfl)) sN ⟨rfl,rfl⟩
    ·refine Am (AJ (Ai (Ad (wm rfl (wm rfl (ck h1 λhb hB=>wv (AS BQ rfl rfl hb) (wv (B3 rfl rfl) (Ak (cz hB rfl (λhC hD=>?_) (λhC hE=>?_))))))))))
     ·refine Ad (wm rfl (wm rfl (ob hD λha hG hH=>Cu Tryz.call139 (II F s at_ ha hG) rfl (wm rfl (wv (AB rfl rfl) (wv (AB rfl rfl) (wa rfl (wa rfl (Bm (wm rfl (wv (r:=BC [Al 4,Al 0,rS ha.1,Al 0]) (Gb rfl rfl rfl rfl) (AT (ys:=([(Aa.mk 4 0 ha.1 0)]:List Aa)) (enc:=Ab) (css:=[[Al 4,Al 0,rS ha.1,Al 0]]) (xs:=[.tmp 41]) BY Co EU rfl rfl rfl ⟨Eu.agg ⟨Up.refl _,Up.refl _,Up.refl _,Up.refl _,trivial⟩,trivial⟩ rfl AU rfl rfl rfl (λhS=>?_)))))))))))));refine wm rfl (wa rfl (wa rfl (Ak (As (Ac (WK.freeze (i:=0) rfl (WK.up (d:=4) (r:=AX 4 (AE Ab ([(Aa.mk 4 0 ha.1 0)]:List Aa))) rfl (Up.fact (i:=0) rfl) ?_)))))));obtain rfl:=Au hH;exact Ar (C6 O5 (A7 rfl) (A7 rfl)) (sS sN) ⟨rfl,rfl⟩
     ·refine Am (AJ (Ai (A8 [(0,rS s),(1,Al at_),(53,rB ((decide ((AM s at_)=91))||(decide ((AM s at_)=123))))] [] ?_ ?_)))
      ·refine Ag (wm rfl (wm rfl (wv (AS BQ rfl rfl hb) (wv (B3 rfl rfl) (wm rfl (AN (decide ((AM s at_)=91)) (λc46=>?_) (λc46=>?_)))))))
       ·refine wf c46 (wf c46 (wf c46 (wf c46 (wv (r:=rB true) (A1 rfl c46 rfl) (Aj ?_)))));exact Ca c46
       ·refine wo c46 (wm rfl (wo c46 (wm rfl (wo c46 (wv (AS BQ rfl rfl hb) (wo c46 (wv (B3 rfl rfl) (Et rfl c46 rfl (Aj ?_)))))))));exact Ca c46
      refine cz hE rfl (λhI hJ=>?_) (λhI hK=>?_)
      ·refine Ad (wm rfl (wm rfl (ob hJ λhL hN hO=>Cu Tryz.call140 (he s at_ hL hN) rfl (wv (AB rfl rfl) (wv (AB rfl rfl) (wa rfl (wa rfl (Ak (As (Ac ?_))))))))));obtain rfl:=Au hO;exact Ar (C6 O5 (A7 rfl) (A7 rfl)) sN ⟨rfl,rfl⟩
      ·refine Am (AJ (Ad (wm rfl (wm rfl (ob hK λhP hQ hR=>Cu Tryz.call141 (TV F s at_ hP hQ) rfl (wv (AB rfl rfl) (wv (AB rfl rfl) (wa rfl (wa rfl (Ak (As ?_)))))))))));obtain rfl:=Au hR;exact Ar (C6 O5 (A7 rfl) (A7 rfl)) sN ⟨rfl,rfl⟩
theorem QY (F:Nat)(h0:Af→Int→Option ((List Aa)×Int))(hA:(∀(s:Af) (at_:Int) (r:(List Aa)×Int),h0 s at_=some r→Fn Tryz.prog GE 103 [rS s,Al at_] [] (λR H=>R=Ct [AX 4 (AE Ab r.1),Al r.2]∧H=[])))(s:Af)(at_:Int)(r:(List Aa)×Int)(h:J8 F h0 s at_=some r):Fn Tryz.prog GE 140 [rS s,Al at_] [] (λR H=>R=Ct [AX 4 (AE Ab r.1),Al r.2]∧H=[]):=by
 refine enter (n:=98) Tryz.func140 rfl Tryz.ntmps140 rfl (λw Z=>?_);unfold J8 at h;refine Ad (wa rfl (wa rfl (Bm (wv (r:=BC [Al 5,Al 0,rS ([]:Af),Al 0]) (E9 rfl rfl) (Cd (cs:=[Al 0,Al 0,rS ([]:Af),Al 0]) EU rfl rfl (λb1=>?_))))));refine Bp (i:=0) Co rfl rfl rfl (BM.c rfl) rfl rfl (cs':=[Al 5,Al 0,rS ([]:Af),Al 0]) rfl (H':=[.blk b1 [Al 5,Al 0,rS ([]:Af),Al 0] 78]) rfl (Bm (wv (r:=rS ([93]:Af)) (Aw rfl) (Ak (Ai (Ad (wm rfl (wm rfl (ck h λg2 h3=>wv (AS BQ rfl rfl g2) (wv (B3 rfl rfl) (Ak (cz h3 rfl (λc4 h5=>?_) (λc4 hR=>?_))))))))))))
 ·refine Ad (vF B8 rfl Er (BH (i:=0) Er rfl rfl (Cy rfl) rfl rfl (cs':=[Al 6,Al 0,rS ([]:Af),Al 0]) rfl (H':=[.blk b1 [Al 6,Al 0,rS ([]:Af),Al 0] 78]) rfl (Ak (Ag (wv (r:=rS ([125]:Af)) (Aw rfl) (Bm (wa rfl (Bm (wm rfl (ck h5 λg6 h7=>wv (Bb rfl rfl g6) (wa rfl (Ak (Ai (AF (WC.nilrow (e:=78) (sz:=4) (KA (H2:=[.blk b1 [Al 6,Al 0,rS ([]:Af),Al 0] 78,.row (.slice none 0 0                                                                              ) 78 4 (AE Ab ([]:List Aa))]) ((A0 (i:=1) rfl).trans (Aem _ (Ael _))) (ob h7 λhS hT h1=>Bo (S:=Nat×((List Aa)×Int×Aa)×(Value)) (V:=((List Aa)×Int×Aa)×(Value)) 0 (λσ=>BJ (λσ=>HG F s h0 σ.1 σ.2.1 σ.2.2) σ.1 σ.2.1=some hS) (λσ=>[(0,rS s),(6,rP b1 0),(7,rS ([125]:Af)),(8,rv σ.2.2),(9,Al σ.2.1.2.1)]) (λσ=>[.blk b1 (Ab σ.2.1.2.2) 78,.row σ.2.2 78 4 (AE Ab σ.2.1.1)]) (λσ=>σ.1) (F,(([]:List Aa),at_+1,(Aa.mk 6 0 ([]:Af) 0)),(.slice none 0 0                                                                              )) hT (AD.c5 rfl rfl rfl rfl rfl AD.nil) (sC (sC sN)) (λσ=>HE σ.1.1 σ.1.2.1 σ.1.2.2=some r) (λσ=>[(6,rP b1 0),(8,rv σ.2),(9,Al σ.1.2.1)]) (λσ=>[.blk b1 (Ab σ.1.2.2) 78,.row σ.2 78 4 (AE Ab σ.1.1)]) ?_ ?_)))))))))))))))))
  ·rintro⟨xS,⟨hh,hn,ha⟩,hy⟩ hU;refine BO (l':=[(0,rS s),(6,rP b1 0),(7,rS ([125]:Af)),(8,rv hy),(9,Al hn)]) (H':=[.blk b1 (Ab ha) 78,.row hy 78 4 (AE Ab hh)]) rfl rfl ?_;obtain⟨hB,rfl,hV,hC,ht⟩:=Ck hU;replace hC:HG F s h0 hh hn ha=some hV:=hC;unfold HG at hC;refine Ai (ck hC λhW hX=>ck hX λhY hZ=>ck hZ λga gb=>A8 [(0,rS s),(6,rP b1 0),(7,rS ([125]:Af)),(8,rv hy),(9,Al hn),(39,rB ((!(ov (B2 s hn ([125]:Af))))||((decide (0<ha.fN))&&(decide ((AM s (hn-1))=44)))))] [.blk b1 (Ab ha) 78,.row hy 78 4 (AE Ab hh)] ?_ ?_)
   ·refine Ag (wm rfl (wm rfl (wm rfl (Cu If (CO s hn ([125]:Af) (ov (B2 s hn ([125]:Af))) (HI hW)) rfl (wv (Cc rfl) (wm rfl (AN (!(ov (B2 s hn ([125]:Af)))) (λhf=>?_) (λhf=>?_))))))))
    ·refine wf hf (wf hf (wf hf (wf hf (wu (wu (wu (wu (wu (wf hf (wv (r:=rB true) (A1 rfl hf rfl) (Aj ?_)))))))))));exact Ca hf
    ·refine wo hf (vF B8 rfl Cs (wo hf (vL 0 CR rfl (wo hf (wv (Cm rfl rfl) (wo hf (wm rfl (AN (decide (0<ha.fN)) (λhj=>?_) (λhj=>?_)))))))))
     ·refine wo hj (wm rfl (wo hj (wm rfl (wo hj (wv (EZ rfl rfl (Cz (CQ hY hf) hj)) (wo hj (wv (AS BQ rfl rfl (Cz (CQ ga hf) hj)) (wo hj (wv (B3 rfl rfl) (wo hf (Es rfl hj rfl (Et rfl hf rfl (Aj ?_)))))))))))));exact Ca (And.intro hf hj)
     ·refine wf hj (wf hj (wf hj (wf hj (wf hj (wo hf (wv (r:=rB false) (A6 rfl hj rfl) (Et rfl hf rfl (Aj ?_))))))));exact Ca (And.intro hf hj)
   refine cz gb rfl (λgc gd=>?_) (λgc ge=>?_)
   ·refine Am (AJ (AF (Ai (Ad (vF B8 rfl Er (vL 0 EE rfl (wv (B3 rfl rfl) (Ak (cz gd rfl (λgf gg=>?_) (λgf gh=>?_))))))))))
    ·refine Ad (wm rfl (wm rfl (ob gg λhd gi gj=>Cu Tryz.call139 (II F s hn hd gi) rfl (wm rfl (wv (AB rfl rfl) (wv (AB rfl rfl) (wa rfl (wa rfl (Ak (Ai (ck gj λgk gl=>A8 [(0,rS s),(6,rP b1 0),(7,rS ([125]:Af)),(8,rv hy),(10,rS hd.1),(11,Al hd.2),(56,rB ((decide (hd.2<0))||(!(ov (B2 s hd.2 ([58]:Af))))))] [.blk b1 (Ab ha) 78,.row hy 78 4 (AE Ab hh)] ?_ ?_)))))))))))
     ·refine Ag (wm rfl (wv (Cf rfl rfl) (wm rfl (AN (decide (hd.2<0)) (λhl=>?_) (λhl=>?_)))))
      ·refine wf hl (wf hl (wf hl (wf hl (wv (r:=rB true) (A1 rfl hl rfl) (Aj ?_)))));exact Ca hl
      ·refine wo hl (wm rfl (wo hl (wm rfl (wo hl (Cu If (CO s hd.2 ([58]:Af) (ov (B2 s hd.2 ([58]:Af))) (HI (CQ gk hl))) rfl (wo hl (wv (Cc rfl) (Et rfl hl rfl (Aj ?_)))))))));exact Ca hl
     refine cz gl rfl (λgm gn=>?_) (λgm gp=>?_)
     ·refine Ad (wa rfl (wv (r:=Al (-1)) (Aw rfl) (Ak (As (Ac (Ac (Ay (Ac (AY ?_)))))))));have gq:=Bt gn ht h1;refine Ay (Ac (WK.up (d:=4) (r:=AX 4 (AE Ab ([]:List Aa))) rfl (Up.le (Ek.nil _)) ?_));obtain rfl:=Au gq;exact Ar (C6 JN (A7 rfl) (A7 rfl)) (sS (sS sN)) ⟨rfl,rfl⟩
     ·refine Am (AJ (Ad (wm rfl (wm rfl (wv (r:=BC [Al 4,Al 0,rS hd.1,Al 0]) (Gb rfl rfl rfl rfl) (AT (ys:=([(Aa.mk 4 0 hd.1 0)]:List Aa)) (enc:=Ab) (css:=[[Al 4,Al 0,rS hd.1,Al 0]]) (xs:=[.tmp 59]) BY Co EU rfl rfl rfl ⟨Eu.agg ⟨Up.refl _,Up.refl _,Up.refl _,Up.refl _,trivial⟩,trivial⟩ rfl AU rfl rfl rfl (λhK=>?_)))))));refine ck gp λgr gs=>Exists.elim EB λinf hinf=>B9 (xs:=hh) (ys:=([(Aa.mk 4 0 hd.1 0)]:List Aa)) (enc:=Ab) (i:=2) BY hinf.1 hinf.2.1 hinf.2.2.1 hinf.2.2.2 rfl rfl rfl rfl rfl (Id.w (i:=0) rfl rfl) AU BP gr rfl (λxT=>?_);refine wa rfl (Ak (Ag (wm rfl (ck gs λgt gu=>wv (Bb rfl rfl gt) (wa rfl (Bm (wm rfl (wm rfl (ob gu λho gv gw=>Cu RO (hA s (hd.2+1) ho gv) rfl (wm rfl (wv (AB rfl rfl) (wv (AB rfl rfl) (wa rfl (wa rfl (Ak (Ai (Ad (wm rfl (wv (Cf rfl rfl) (Ak (cz gw rfl (λgx gy=>?_) (λgx gz=>?_))))))))))))))))))))))
      ·refine Ad (wa rfl (wv (r:=Al (-1)) (Aw rfl) (Ak (As (Ac (Ay (Ac (AY ?_))))))));have g0:=Bt gy ht h1;refine Ay (Ac (WK.up (d:=4) (r:=AX 4 (AE Ab ([]:List Aa))) rfl (Up.le (Ek.nil _)) ?_));obtain rfl:=Au g0;exact Ar (C6 JN (A7 rfl) (A7 rfl)) (sS (sS (sS sN))) ⟨rfl,rfl⟩
      ·refine Am (AJ (Ad (wm rfl (wm rfl (ck gz λg1 g3=>Exists.elim EB λinf hinf=>B9 (xs:=hh++([(Aa.mk 4 0 hd.1 0)]:List Aa)) (ys:=ho.1) (enc:=Ab) (i:=0) BY hinf.1 hinf.2.1 hinf.2.2.1 hinf.2.2.2 rfl rfl rfl rfl rfl (Id.z rfl rfl) AU BP g1 rfl (λh4=>?_))))));refine wa rfl (Bm (vF B8 rfl Cs (vL 2 CR rfl (ck g3 λg4 g5=>wv (Bb rfl rfl g4) (vF B8 rfl Cs (BH (i:=2) Cs rfl rfl (Cy rfl) rfl rfl (cs':=[Al ha.fKind,Al ha.fInt,rS ha.fStr,Al (ha.fN+1)]) rfl (H':=[.row h4 78 4 (AE Ab ((hh++([(Aa.mk 4 0 hd.1 0)]:List Aa))++ho.1)),.row (.slice (some ⟨hK,0,none⟩) 1 1) 78 4 (AE Ab ([(Aa.mk 4 0 hd.1 0)]:List Aa)),.blk b1 [Al ha.fKind,Al ha.fInt,rS ha.fStr,Al (ha.fN+1)] 78]) rfl (Bm (wm rfl (wa rfl (Bm (wm rfl (wm rfl (ob g5 λg7 g8 g9=>Cu If (CO s ho.2 ([44]:Af) g7 g8) rfl (Ak (cz g9 rfl (λgA gB=>?_) (λgA gC=>?_))))))))))))))))
       ·refine Ag (wm rfl (ck gB λgD gE=>wv (Bb rfl rfl gD) (wa rfl (Aj (AA (Cn (H2:=[.blk b1 [Al ha.fKind,Al ha.fInt,rS ha.fStr,Al (ha.fN+1)] 78,.row h4 78 4 (AE Ab ((hh++([(Aa.mk 4 0 hd.1 0)]:List Aa))++ho.1)),.row (.slice (some ⟨hK,0,none⟩) 1 1) 78 4 (AE Ab ([(Aa.mk 4 0 hd.1 0)]:List Aa))]) ((A0 (i:=2) rfl).trans (Aem _ (Ael _))) ?_))))));have gF:=Be gE ht;exact Av (A5 (hB,((hh++([(Aa.mk 4 0 hd.1 0)]:List Aa))++ho.1,ho.2+1,(Aa.mk ha.fKind ha.fInt ha.fStr (ha.fN+1))),h4) ⟨gF,Aeo _⟩ (AD.c5 rfl rfl rfl rfl rfl AD.nil) (sC (sC (sS sN))))
       ·refine Ad (wm rfl (wm rfl (wm rfl (ob gC λgG gH gI=>Cu If (CO s ho.2 ([125]:Af) gG gH) rfl (wv (Cc rfl) (Ak (cz gI rfl (λgJ gK=>?_) (λgJ gL=>?_))))))))
        ·refine Ad (wa rfl (wv (r:=Al (-1)) (Aw rfl) (Ak (As (Ay (Ac (AY ?_)))))));have gM:=Bt gK ht h1;refine Ay (Ac (WK.up (d:=4) (r:=AX 4 (AE Ab ([]:List Aa))) rfl (Up.le (Ek.nil _)) ?_));obtain rfl:=Au gM;exact Ar (C6 JN (A7 rfl) (A7 rfl)) (sS (sS (sS sN))) ⟨rfl,rfl⟩
        ·refine Am (AA (Cn (H2:=[.blk b1 [Al ha.fKind,Al ha.fInt,rS ha.fStr,Al (ha.fN+1)] 78,.row h4 78 4 (AE Ab ((hh++([(Aa.mk 4 0 hd.1 0)]:List Aa))++ho.1)),.row (.slice (some ⟨hK,0,none⟩) 1 1) 78 4 (AE Ab ([(Aa.mk 4 0 hd.1 0)]:List Aa))]) ((A0 (i:=2) rfl).trans (Aem _ (Ael _))) ?_));have gN:=Be gL ht;exact Av (A5 (hB,((hh++([(Aa.mk 4 0 hd.1 0)]:List Aa))++ho.1,ho.2,(Aa.mk ha.fKind ha.fInt ha.fStr (ha.fN+1))),h4) ⟨gN,Aeo _⟩ (AD.c5 rfl rfl rfl rfl rfl AD.nil) (sC (sC (sS sN))))
    ·refine Am (AJ (Ad (wm rfl (wm rfl (ob gh λhp gO gP=>Cu RO (hA s hn hp gO) rfl (wm rfl (wv (AB rfl rfl) (wv (AB rfl rfl) (wa rfl (wa rfl (Ak (Ai (Ad (wm rfl (wv (Cf rfl rfl) (Ak (cz gP rfl (λgQ gR=>?_) (λgQ gS=>?_))))))))))))))))))
     ·refine Ad (wa rfl (wv (r:=Al (-1)) (Aw rfl) (Ak (As (Ac (Ay (Ac (AY ?_))))))));have gT:=Bt gR ht h1;refine Ay (Ac (WK.up (d:=4) (r:=AX 4 (AE Ab ([]:List Aa))) rfl (Up.le (Ek.nil _)) ?_));obtain rfl:=Au gT;exact Ar (C6 JN (A7 rfl) (A7 rfl)) (sS (sS sN)) ⟨rfl,rfl⟩
     ·refine Am (AJ (Ad (wm rfl (wm rfl (ck gS λgU gV=>Exists.elim EB λinf hinf=>B9 (xs:=hh) (ys:=hp.1) (enc:=Ab) (i:=1) BY hinf.1 hinf.2.1 hinf.2.2.1 hinf.2.2.2 rfl rfl rfl rfl rfl (Id.z rfl rfl) AU BP gU rfl (λh6=>?_))))));refine wa rfl (Bm (vF B8 rfl Cs (vL 1 CR rfl (ck gV λgW gX=>wv (Bb rfl rfl gW) (vF B8 rfl Cs (BH (i:=1) Cs rfl rfl (Cy rfl) rfl rfl (cs':=[Al ha.fKind,Al ha.fInt,rS ha.fStr,Al (ha.fN+1)]) rfl (H':=[.row h6 78 4 (AE Ab (hh++hp.1)),.blk b1 [Al ha.fKind,Al ha.fInt,rS ha.fStr,Al (ha.fN+1)] 78]) rfl (Bm (wm rfl (wa rfl (Bm (wm rfl (wm rfl (ob gX λgY gZ ca=>Cu If (CO s hp.2 ([44]:Af) gY gZ) rfl (Ak (cz ca rfl (λcb cc=>?_) (λcb cd=>?_))))))))))))))))
      ·refine Ag (wm rfl (ck cc λce cf=>wv (Bb rfl rfl ce) (wa rfl (Aj (AA (Cn (H2:=[.blk b1 [Al ha.fKind,Al ha.fInt,rS ha.fStr,Al (ha.fN+1)] 78,.row h6 78 4 (AE Ab (hh++hp.1))]) ((A0 (i:=1) rfl).trans (Aem _ (Ael _))) ?_))))));have cg:=Be cf ht;exact Av (A5 (hB,(hh++hp.1,hp.2+1,(Aa.mk ha.fKind ha.fInt ha.fStr (ha.fN+1))),h6) ⟨cg,Aeo _⟩ (AD.c5 rfl rfl rfl rfl rfl AD.nil) (sC (sC sN)))
      ·refine Ad (wm rfl (wm rfl (wm rfl (ob cd λci cj cl=>Cu If (CO s hp.2 ([125]:Af) ci cj) rfl (wv (Cc rfl) (Ak (cz cl rfl (λcm cn=>?_) (λcm co=>?_))))))))
       ·refine Ad (wa rfl (wv (r:=Al (-1)) (Aw rfl) (Ak (As (Ay (Ac (AY ?_)))))));have cp:=Bt cn ht h1;refine Ay (Ac (WK.up (d:=4) (r:=AX 4 (AE Ab ([]:List Aa))) rfl (Up.le (Ek.nil _)) ?_));obtain rfl:=Au cp;exact Ar (C6 JN (A7 rfl) (A7 rfl)) (sS (sS sN)) ⟨rfl,rfl⟩
       ·refine Am (AA (Cn (H2:=[.blk b1 [Al ha.fKind,Al ha.fInt,rS ha.fStr,Al (ha.fN+1)] 78,.row h6 78 4 (AE Ab (hh++hp.1))]) ((A0 (i:=1) rfl).trans (Aem _ (Ael _))) ?_));have cq:=Be co ht;exact Av (A5 (hB,(hh++hp.1,hp.2,(Aa.mk ha.fKind ha.fInt ha.fStr (ha.fN+1))),h6) ⟨cq,Aeo _⟩ (AD.c5 rfl rfl rfl rfl rfl AD.nil) (sC (sC sN)))
   ·refine Bq (Ax ?_);have cr:=BL ge ht h1;exact Ax (Bd (A5 ((hh,hn,ha),hy) cr (AD.c rfl (AD.c rfl (AD.c rfl AD.nil))) (sC (sC sN))))
  ·rintro⟨⟨hD,hN,hw⟩,hO⟩ hE;refine Cl (l':=[(6,rP b1 0),(8,rv hO),(9,Al hN)]) (H':=[.blk b1 (Ab hw) 78,.row hO 78 4 (AE Ab hD)]) rfl rfl ?_;replace hE:HE hD hN hw=some r:=hE;unfold HE at hE;refine Bc (AJ (Ad (wv (B5 (i:=0) MP Co rfl rfl rfl rfl) (AT (ys:=([hw]:List Aa)) (enc:=Ab) (css:=[[Al hw.fKind,Al hw.fInt,rS hw.fStr,Al hw.fN]]) (xs:=[.tmp 90]) BY Co EU rfl rfl rfl ⟨Eu.agg ⟨Up.refl _,Up.refl _,Up.refl _,Up.refl _,trivial⟩,trivial⟩ rfl AU rfl rfl rfl (λxU=>?_)))));refine wa rfl (Bm (wm rfl (wm rfl (ck hE λct cu=>Exists.elim EB λinf hinf=>B9 (xs:=([hw]:List Aa)) (ys:=hD) (enc:=Ab) (i:=0) BY hinf.1 hinf.2.1 hinf.2.2.1 hinf.2.2.2 rfl rfl rfl rfl rfl (Id.w (i:=2) rfl rfl) AU BP ct rfl (λxV=>?_)))));refine wa rfl (Bm (wm rfl (wm rfl (ck cu λcv cw=>wv (Bb rfl rfl cv) (wa rfl (wa rfl (Ak (As (WK.freeze (i:=0) rfl (WK.up (d:=4) (r:=AX 4 (AE Ab (([hw]:List Aa)++hD))) rfl (Up.fact (i:=0) rfl) ?_))))))))));obtain rfl:=Au cw;exact Ar (C6 JN (A7 rfl) (A7 rfl)) (sS (sS (sS sN))) ⟨rfl,rfl⟩
 ·refine Am (AJ (Ad (wa rfl (Bm (wm rfl (ck hR λcx cy=>wv (Bb rfl rfl cx) (wa rfl (Ak (Ai (AF (WC.nilrow (e:=78) (sz:=4) (KA (H2:=[.blk b1 [Al 5,Al 0,rS ([]:Af),Al 0] 78,.row (.slice none 0 0                                                                              ) 78 4 (AE Ab ([]:List Aa))]) ((A0 (i:=1) rfl).trans (Aem _ (Ael _))) (ob cy λc0 c1 h2=>Bo (S:=Nat×((List Aa)×Int×Aa)×(Value)) (V:=((List Aa)×Int×Aa)×(Value)) 0 (λσ=>BJ (λσ=>HF F s h0 σ.1 σ.2.1 σ.2.2) σ.1 σ.2.1=some c0) (λσ=>[(0,rS s),(6,rP b1 0),(7,rS ([93]:Af)),(8,rv σ.2.2),(9,Al σ.2.1.2.1)]) (λσ=>[.blk b1 (Ab σ.2.1.2.2) 78,.row σ.2.2 78 4 (AE Ab σ.2.1.1)]) (λσ=>σ.1) (F,(([]:List Aa),at_+1,(Aa.mk 5 0 ([]:Af) 0)),(.slice none 0 0                                                                              )) c1 (AD.c5 rfl rfl rfl rfl rfl AD.nil) (sC (sC sN)) (λσ=>HD σ.1.1 σ.1.2.1 σ.1.2.2=some r) (λσ=>[(6,rP b1 0),(8,rv σ.2),(9,Al σ.1.2.1)]) (λσ=>[.blk b1 (Ab σ.1.2.2) 78,.row σ.2 78 4 (AE Ab σ.1.1)]) ?_ ?_)))))))))))))
  ·rintro⟨xW,⟨hi,hq,hb⟩,hz⟩ c2;refine BO (l':=[(0,rS s),(6,rP b1 0),(7,rS ([93]:Af)),(8,rv hz),(9,Al hq)]) (H':=[.blk b1 (Ab hb) 78,.row hz 78 4 (AE Ab hi)]) rfl rfl ?_;obtain⟨hG,rfl,c3,hH,hu⟩:=Ck c2;replace hH:HF F s h0 hi hq hb=some c3:=hH;unfold HF at hH;refine Ai (ck hH λc6 c7=>ck c7 λc8 c9=>ck c9 λcA cB=>A8 [(0,rS s),(6,rP b1 0),(7,rS ([93]:Af)),(8,rv hz),(9,Al hq),(39,rB ((!(ov (B2 s hq ([93]:Af))))||((decide (0<hb.fN))&&(decide ((AM s (hq-1))=44)))))] [.blk b1 (Ab hb) 78,.row hz 78 4 (AE Ab hi)] ?_ ?_)
   ·refine Ag (wm rfl (wm rfl (wm rfl (Cu If (CO s hq ([93]:Af) (ov (B2 s hq ([93]:Af))) (HI c6)) rfl (wv (Cc rfl) (wm rfl (AN (!(ov (B2 s hq ([93]:Af)))) (λhg=>?_) (λhg=>?_))))))))
    ·refine wf hg (wf hg (wf hg (wf hg (wu (wu (wu (wu (wu (wf hg (wv (r:=rB true) (A1 rfl hg rfl) (Aj ?_)))))))))));exact Ca hg
    ·refine wo hg (vF B8 rfl Cs (wo hg (vL 0 CR rfl (wo hg (wv (Cm rfl rfl) (wo hg (wm rfl (AN (decide (0<hb.fN)) (λhk=>?_) (λhk=>?_)))))))))
     ·refine wo hk (wm rfl (wo hk (wm rfl (wo hk (wv (EZ rfl rfl (Cz (CQ c8 hg) hk)) (wo hk (wv (AS BQ rfl rfl (Cz (CQ cA hg) hk)) (wo hk (wv (B3 rfl rfl) (wo hg (Es rfl hk rfl (Et rfl hg rfl (Aj ?_)))))))))))));exact Ca (And.intro hg hk)
     ·refine wf hk (wf hk (wf hk (wf hk (wf hk (wo hg (wv (r:=rB false) (A6 rfl hk rfl) (Et rfl hg rfl (Aj ?_))))))));exact Ca (And.intro hg hk)
   refine cz cB rfl (λcC cD=>?_) (λcC cE=>?_)
   ·refine Am (AJ (AF (Ai (Ad (vF B8 rfl Er (vL 0 EE rfl (wv (B3 rfl rfl) (Ak (cz cD rfl (λcF cG=>?_) (λcF cH=>?_))))))))))
    ·refine Ad (wm rfl (wm rfl (ob cG λhe cI cJ=>Cu Tryz.call139 (II F s hq he cI) rfl (wm rfl (wv (AB rfl rfl) (wv (AB rfl rfl) (wa rfl (wa rfl (Ak (Ai (ck cJ λcK cL=>A8 [(0,rS s),(6,rP b1 0),(7,rS ([93]:Af)),(8,rv hz),(10,rS he.1),(11,Al he.2),(56,rB ((decide (he.2<0))||(!(ov (B2 s he.2 ([58]:Af))))))] [.blk b1 (Ab hb) 78,.row hz 78 4 (AE Ab hi)] ?_ ?_)))))))))))
     ·refine Ag (wm rfl (wv (Cf rfl rfl) (wm rfl (AN (decide (he.2<0)) (λhm=>?_) (λhm=>?_)))))
      ·refine wf hm (wf hm (wf hm (wf hm (wv (r:=rB true) (A1 rfl hm rfl) (Aj ?_)))));exact Ca hm
      ·refine wo hm (wm rfl (wo hm (wm rfl (wo hm (Cu If (CO s he.2 ([58]:Af) (ov (B2 s he.2 ([58]:Af))) (HI (CQ cK hm))) rfl (wo hm (wv (Cc rfl) (Et rfl hm rfl (Aj ?_)))))))));exact Ca hm
     refine cz cL rfl (λcM cN=>?_) (λcM cO=>?_)
     ·refine Ad (wa rfl (wv (r:=Al (-1)) (Aw rfl) (Ak (As (Ac (Ac (Ay (Ac (AY ?_)))))))));have cP:=Bt cN hu h2;refine Ay (Ac (WK.up (d:=4) (r:=AX 4 (AE Ab ([]:List Aa))) rfl (Up.le (Ek.nil _)) ?_));obtain rfl:=Au cP;exact Ar (C6 JN (A7 rfl) (A7 rfl)) (sS (sS sN)) ⟨rfl,rfl⟩
     ·refine Am (AJ (Ad (wm rfl (wm rfl (wv (r:=BC [Al 4,Al 0,rS he.1,Al 0]) (Gb rfl rfl rfl rfl) (AT (ys:=([(Aa.mk 4 0 he.1 0)]:List Aa)) (enc:=Ab) (css:=[[Al 4,Al 0,rS he.1,Al 0]]) (xs:=[.tmp 59]) BY Co EU rfl rfl rfl ⟨Eu.agg ⟨Up.refl _,Up.refl _,Up.refl _,Up.refl _,trivial⟩,trivial⟩ rfl AU rfl rfl rfl (λhL=>?_)))))));refine ck cO λcQ cR=>Exists.elim EB λinf hinf=>B9 (xs:=hi) (ys:=([(Aa.mk 4 0 he.1 0)]:List Aa)) (enc:=Ab) (i:=2) BY hinf.1 hinf.2.1 hinf.2.2.1 hinf.2.2.2 rfl rfl rfl rfl rfl (Id.w (i:=0) rfl rfl) AU BP cQ rfl (λxX=>?_);refine wa rfl (Ak (Ag (wm rfl (ck cR λcS cT=>wv (Bb rfl rfl cS) (wa rfl (Bm (wm rfl (wm rfl (ob cT λhr cU cV=>Cu RO (hA s (he.2+1) hr cU) rfl (wm rfl (wv (AB rfl rfl) (wv (AB rfl rfl) (wa rfl (wa rfl (Ak (Ai (Ad (wm rfl (wv (Cf rfl rfl) (Ak (cz cV rfl (λcW cX=>?_) (λcW cY=>?_))))))))))))))))))))))
      ·refine Ad (wa rfl (wv (r:=Al (-1)) (Aw rfl) (Ak (As (Ac (Ay (Ac (AY ?_))))))));have cZ:=Bt cX hu h2;refine Ay (Ac (WK.up (d:=4) (r:=AX 4 (AE Ab ([]:List Aa))) rfl (Up.le (Ek.nil _)) ?_));obtain rfl:=Au cZ;exact Ar (C6 JN (A7 rfl) (A7 rfl)) (sS (sS (sS sN))) ⟨rfl,rfl⟩
      ·refine Am (AJ (Ad (wm rfl (wm rfl (ck cY λxa xb=>Exists.elim EB λinf hinf=>B9 (xs:=hi++([(Aa.mk 4 0 he.1 0)]:List Aa)) (ys:=hr.1) (enc:=Ab) (i:=0) BY hinf.1 hinf.2.1 hinf.2.2.1 hinf.2.2.2 rfl rfl rfl rfl rfl (Id.z rfl rfl) AU BP xa rfl (λh8=>?_))))));refine wa rfl (Bm (vF B8 rfl Cs (vL 2 CR rfl (ck xb λxc xd=>wv (Bb rfl rfl xc) (vF B8 rfl Cs (BH (i:=2) Cs rfl rfl (Cy rfl) rfl rfl (cs':=[Al hb.fKind,Al hb.fInt,rS hb.fStr,Al (hb.fN+1)]) rfl (H':=[.row h8 78 4 (AE Ab ((hi++([(Aa.mk 4 0 he.1 0)]:List Aa))++hr.1)),.row (.slice (some ⟨hL,0,none⟩) 1 1) 78 4 (AE Ab ([(Aa.mk 4 0 he.1 0)]:List Aa)),.blk b1 [Al hb.fKind,Al hb.fInt,rS hb.fStr,Al (hb.fN+1)] 78]) rfl (Bm (wm rfl (wa rfl (Bm (wm rfl (wm rfl (ob xd λxe xf xg=>Cu If (CO s hr.2 ([44]:Af) xe xf) rfl (Ak (cz xg rfl (λxh xi=>?_) (λxh xj=>?_))))))))))))))))
       ·refine Ag (wm rfl (ck xi λxk xl=>wv (Bb rfl rfl xk) (wa rfl (Aj (AA (Cn (H2:=[.blk b1 [Al hb.fKind,Al hb.fInt,rS hb.fStr,Al (hb.fN+1)] 78,.row h8 78 4 (AE Ab ((hi++([(Aa.mk 4 0 he.1 0)]:List Aa))++hr.1)),.row (.slice (some ⟨hL,0,none⟩) 1 1) 78 4 (AE Ab ([(Aa.mk 4 0 he.1 0)]:List Aa))]) ((A0 (i:=2) rfl).trans (Aem _ (Ael _))) ?_))))));have xm:=Be xl hu;exact Av (A5 (hG,((hi++([(Aa.mk 4 0 he.1 0)]:List Aa))++hr.1,hr.2+1,(Aa.mk hb.fKind hb.fInt hb.fStr (hb.fN+1))),h8) ⟨xm,Aeo _⟩ (AD.c5 rfl rfl rfl rfl rfl AD.nil) (sC (sC (sS sN))))
       ·refine Ad (wm rfl (wm rfl (wm rfl (ob xj λxn xo xp=>Cu If (CO s hr.2 ([93]:Af) xn xo) rfl (wv (Cc rfl) (Ak (cz xp rfl (λxq xr=>?_) (λxq xt=>?_))))))))
        ·refine Ad (wa rfl (wv (r:=Al (-1)) (Aw rfl) (Ak (As (Ay (Ac (AY ?_)))))));have xu:=Bt xr hu h2;refine Ay (Ac (WK.up (d:=4) (r:=AX 4 (AE Ab ([]:List Aa))) rfl (Up.le (Ek.nil _)) ?_));obtain rfl:=Au xu;exact Ar (C6 JN (A7 rfl) (A7 rfl)) (sS (sS (sS sN))) ⟨rfl,rfl⟩
        ·refine Am (AA (Cn (H2:=[.blk b1 [Al hb.fKind,Al hb.fInt,rS hb.fStr,Al (hb.fN+1)] 78,.row h8 78 4 (AE Ab ((hi++([(Aa.mk 4 0 he.1 0)]:List Aa))++hr.1)),.row (.slice (some ⟨hL,0,none⟩) 1 1) 78 4 (AE Ab ([(Aa.mk 4 0 he.1 0)]:List Aa))]) ((A0 (i:=2) rfl).trans (Aem _ (Ael _))) ?_));have xv:=Be xt hu;exact Av (A5 (hG,((hi++([(Aa.mk 4 0 he.1 0)]:List Aa))++hr.1,hr.2,(Aa.mk hb.fKind hb.fInt hb.fStr (hb.fN+1))),h8) ⟨xv,Aeo _⟩ (AD.c5 rfl rfl rfl rfl rfl AD.nil) (sC (sC (sS sN))))
    ·refine Am (AJ (Ad (wm rfl (wm rfl (ob cH λhs xw xx=>Cu RO (hA s hq hs xw) rfl (wm rfl (wv (AB rfl rfl) (wv (AB rfl rfl) (wa rfl (wa rfl (Ak (Ai (Ad (wm rfl (wv (Cf rfl rfl) (Ak (cz xx rfl (λxy xz=>?_) (λxy x0=>?_))))))))))))))))))
     ·refine Ad (wa rfl (wv (r:=Al (-1)) (Aw rfl) (Ak (As (Ac (Ay (Ac (AY ?_))))))));have x1:=Bt xz hu h2;refine Ay (Ac (WK.up (d:=4) (r:=AX 4 (AE Ab ([]:List Aa))) rfl (Up.le (Ek.nil _)) ?_));obtain rfl:=Au x1;exact Ar (C6 JN (A7 rfl) (A7 rfl)) (sS (sS sN)) ⟨rfl,rfl⟩
     ·refine Am (AJ (Ad (wm rfl (wm rfl (ck x0 λx2 x3=>Exists.elim EB λinf hinf=>B9 (xs:=hi) (ys:=hs.1) (enc:=Ab) (i:=1) BY hinf.1 hinf.2.1 hinf.2.2.1 hinf.2.2.2 rfl rfl rfl rfl rfl (Id.z rfl rfl) AU BP x2 rfl (λh9=>?_))))));refine wa rfl (Bm (vF B8 rfl Cs (vL 1 CR rfl (ck x3 λx4 x5=>wv (Bb rfl rfl x4) (vF B8 rfl Cs (BH (i:=1) Cs rfl rfl (Cy rfl) rfl rfl (cs':=[Al hb.fKind,Al hb.fInt,rS hb.fStr,Al (hb.fN+1)]) rfl (H':=[.row h9 78 4 (AE Ab (hi++hs.1)),.blk b1 [Al hb.fKind,Al hb.fInt,rS hb.fStr,Al (hb.fN+1)] 78]) rfl (Bm (wm rfl (wa rfl (Bm (wm rfl (wm rfl (ob x5 λx6 x7 x8=>Cu If (CO s hs.2 ([44]:Af) x6 x7) rfl (Ak (cz x8 rfl (λx9 xA=>?_) (λx9 xB=>?_))))))))))))))))
      ·refine Ag (wm rfl (ck xA λxC xD=>wv (Bb rfl rfl xC) (wa rfl (Aj (AA (Cn (H2:=[.blk b1 [Al hb.fKind,Al hb.fInt,rS hb.fStr,Al (hb.fN+1)] 78,.row h9 78 4 (AE Ab (hi++hs.1))]) ((A0 (i:=1) rfl).trans (Aem _ (Ael _))) ?_))))));have xE:=Be xD hu;exact Av (A5 (hG,(hi++hs.1,hs.2+1,(Aa.mk hb.fKind hb.fInt hb.fStr (hb.fN+1))),h9) ⟨xE,Aeo _⟩ (AD.c5 rfl rfl rfl rfl rfl AD.nil) (sC (sC sN)))
      ·refine Ad (wm rfl (wm rfl (wm rfl (ob xB λxF xG xH=>Cu If (CO s hs.2 ([93]:Af) xF xG) rfl (wv (Cc rfl) (Ak (cz xH rfl (λxI xJ=>?_) (λxI xK=>?_))))))))
       ·refine Ad (wa rfl (wv (r:=Al (-1)) (Aw rfl) (Ak (As (Ay (Ac (AY ?_)))))));have xL:=Bt xJ hu h2;refine Ay (Ac (WK.up (d:=4) (r:=AX 4 (AE Ab ([]:List Aa))) rfl (Up.le (Ek.nil _)) ?_));obtain rfl:=Au xL;exact Ar (C6 JN (A7 rfl) (A7 rfl)) (sS (sS sN)) ⟨rfl,rfl⟩
       ·refine Am (AA (Cn (H2:=[.blk b1 [Al hb.fKind,Al hb.fInt,rS hb.fStr,Al (hb.fN+1)] 78,.row h9 78 4 (AE Ab (hi++hs.1))]) ((A0 (i:=1) rfl).trans (Aem _ (Ael _))) ?_));have xM:=Be xK hu;exact Av (A5 (hG,(hi++hs.1,hs.2,(Aa.mk hb.fKind hb.fInt hb.fStr (hb.fN+1))),h9) ⟨xM,Aeo _⟩ (AD.c5 rfl rfl rfl rfl rfl AD.nil) (sC (sC sN)))
   ·refine Bq (Ax ?_);have xN:=BL cE hu h2;exact Ax (Bd (A5 ((hi,hq,hb),hz) xN (AD.c rfl (AD.c rfl (AD.c rfl AD.nil))) (sC (sC sN))))
  ·rintro⟨⟨hI,hP,hx⟩,hQ⟩ hJ;refine Cl (l':=[(6,rP b1 0),(8,rv hQ),(9,Al hP)]) (H':=[.blk b1 (Ab hx) 78,.row hQ 78 4 (AE Ab hI)]) rfl rfl ?_;replace hJ:HD hI hP hx=some r:=hJ;unfold HD at hJ;refine Bc (AJ (Ad (wv (B5 (i:=0) MP Co rfl rfl rfl rfl) (AT (ys:=([hx]:List Aa)) (enc:=Ab) (css:=[[Al hx.fKind,Al hx.fInt,rS hx.fStr,Al hx.fN]]) (xs:=[.tmp 90]) BY Co EU rfl rfl rfl ⟨Eu.agg ⟨Up.refl _,Up.refl _,Up.refl _,Up.refl _,trivial⟩,trivial⟩ rfl AU rfl rfl rfl (λxY=>?_)))));refine wa rfl (Bm (wm rfl (wm rfl (ck hJ λxO xP=>Exists.elim EB λinf hinf=>B9 (xs:=([hx]:List Aa)) (ys:=hI) (enc:=Ab) (i:=0) BY hinf.1 hinf.2.1 hinf.2.2.1 hinf.2.2.2 rfl rfl rfl rfl rfl (Id.w (i:=2) rfl rfl) AU BP xO rfl (λxZ=>?_)))));refine wa rfl (Bm (wm rfl (wm rfl (ck xP λxQ xR=>wv (Bb rfl rfl xQ) (wa rfl (wa rfl (Ak (As (WK.freeze (i:=0) rfl (WK.up (d:=4) (r:=AX 4 (AE Ab (([hx]:List Aa)++hI))) rfl (Up.fact (i:=0) rfl) ?_))))))))));obtain rfl:=Au xR;exact Ar (C6 JN (A7 rfl) (A7 rfl)) (sS (sS (sS sN))) ⟨rfl,rfl⟩
theorem MV:∀F:Nat,(∀(s:Af) (at_:Int) (r:(List Aa)×Int),H4 F s at_=some r→Fn Tryz.prog GE 103 [rS s,Al at_] [] (λR H=>R=Ct [AX 4 (AE Ab r.1),Al r.2]∧H=[]))∧(∀(s:Af) (at_:Int) (r:(List Aa)×Int),DU F s at_=some r→Fn Tryz.prog GE 140 [rS s,Al at_] [] (λR H=>R=Ct [AX 4 (AE Ab r.1),Al r.2]∧H=[]))
  | 0=>⟨(λ_ _ _ h=>by simp[H4] at h),(λ_ _ _ h=>by simp[DU] at h)⟩
  | nn+1=>⟨(λs at_ r h=>Yj nn (DU nn) (MV nn).2 s at_ r (by rw[H4] at h;exact h)),(λs at_ r h=>QY nn (H4 nn) (MV nn).1 s at_ r (by rw[DU] at h;exact h))⟩
theorem AaK (F:Nat)(s:Af)(at_:Int)(r:(List Aa)×Int)(h:H4 F s at_=some r):Fn Tryz.prog GE 103 [rS s,Al at_] [] (λR H=>R=Ct [AX 4 (AE Ab r.1),Al r.2]∧H=[]):=(MV F).1 s at_ r h
theorem Wm (F:Nat)(s:Af)(r:(List Aa)×Int)(h:Me F s=some r):Fn Tryz.prog GE 78 [rS s] [] (λR H=>R=Ct [AX 4 (AE Ab r.1),Al r.2]∧H=[]):=by
 refine enter (n:=22) Tryz.func78 rfl Tryz.ntmps78 rfl (λw Z=>?_);unfold Me at h;refine Ad (wa rfl (wa rfl (Ak (Ai (Ad (wm rfl (wv (Bg BQ rfl) (wv (Cm rfl rfl) (Ak (cz h rfl (λc1 h2=>?_) (λc1 h3=>?_)))))))))))
 ·refine Ad (wa rfl (wa rfl (Ak (As (Ac (WK.up (d:=2) (r:=AX 4 (AE Ab ([]:List Aa))) rfl (Up.le (Ek.nil _)) ?_))))));obtain rfl:=Au h2;exact Ar (C6 Tryz.results78 (A7 rfl) (A7 rfl)) sN ⟨rfl,rfl⟩
 ·refine Am (AJ (Ad (wm rfl (ob h3 λr4 e6 h5=>Cu RO (AaK F s 0 r4 e6) rfl (wm rfl (wv (AB rfl rfl) (wv (AB rfl rfl) (wa rfl (wa rfl (Ak (Ai (Ad (wm rfl (wm rfl (wv (Bg BQ rfl) (wv (CV rfl rfl) (Ak (cz h5 rfl (λc7 h8=>?_) (λc7 h9=>?_)))))))))))))))))))
  ·refine Ad (wa rfl (wa rfl (Ak (As (Ac (WK.up (d:=2) (r:=AX 4 (AE Ab ([]:List Aa))) rfl (Up.le (Ek.nil _)) ?_))))));obtain rfl:=Au h8;exact Ar (C6 Tryz.results78 (A7 rfl) (A7 rfl)) sN ⟨rfl,rfl⟩
  ·refine Am (AJ (Ad (wm rfl (ob h9 λha hb hd=>Cu Tryz.call104 (Ua F r4.1 ha hb) rfl (wv (AB rfl rfl) (wv (AB rfl rfl) (wa rfl (wa rfl (Ak (As ?_))))))))));obtain rfl:=Au hd;exact Ar (C6 Tryz.results78 (A7 rfl) (A7 rfl)) sN ⟨rfl,rfl⟩
end Go.Proofs.YtjfnokmpfekniaaGreatDoor.Q
namespace Go.Proofs.YtjfnokmpfekniaaGreatDoor
open Go
set_option linter.unusedVariables false
set_option linter.unusedSimpArgs false
section
variable {T S : Type}
def BA:List (Af×T)→Af→Option T
 | [],_=>none
 | p::r,k=>bif decide (p.1=k) then some p.2 else BA r k
def CL (xs:List (Af×T))(k:Af)(z:T):T:=(BA xs k).getD z
def CG (xs:List (Af×T))(k:Af):Bool:=(BA xs k).isSome
def mins (k:Af)(v:T):List (Af×T)→List (Af×T)
 | []=>[(k,v)]
 | p::r=>bif BR k p.1 then(k,v)::p::r else p::mins k v r
def mput (xs:List (Af×T))(k:Af)(v:T):List (Af×T):=xs.map λp=>bif decide (p.1=k) then(k,v) else p
def mset (xs:List (Af×T))(k:Af)(v:T):List (Af×T):=bif CG xs k then mput xs k v else mins k v xs
def mdel (xs:List (Af×T))(k:Af):List (Af×T):=xs.filter λp=>!decide (p.1=k)
def Bh (f:T→S)(xs:List (Af×T)):List (Af×S):=xs.map λp=>(p.1,f p.2)
theorem Mv (f:T→S):∀(xs:List (Af×T)) (k:Af),BA (Bh f xs) k=(BA xs k).map f
 | [],k=>rfl
 | p::r,k=>by
  show(bif decide (p.1=k) then some (f p.2) else BA (Bh f r) k)=_;rw[BA,Mv f r k]
  cases decide (p.1=k)<;>rfl
theorem YO (f:T→S)(xs:List (Af×T))(k:Af):CG (Bh f xs) k=CG xs k:=by
 unfold CG;rw[Mv];cases BA xs k<;>rfl
theorem SU (f:T→S)(k:Af)(v:T):∀xs:List (Af×T),Bh f (mins k v xs)=mins k (f v) (Bh f xs)
 | []=>rfl
 | p::r=>by
  show Bh f (bif BR k p.1 then(k,v)::p::r else p::mins k v r)=(bif BR k p.1 then(k,f v)::(p.1,f p.2)::Bh f r else(p.1,f p.2)::mins k (f v) (Bh f r));rw[← SU f k v r]
  cases BR k p.1<;>rfl
theorem YM (f:T→S)(xs:List (Af×T))(k:Af)(v:T):Bh f (mset xs k v)=mset (Bh f xs) k (f v):=by
 unfold mset;rw[YO]
 cases CG xs k with
 | false=>exact SU f k v xs
 | true=>
  show Bh f (mput xs k v)=mput (Bh f xs) k (f v);unfold Bh mput;rw[Aff,Aff];refine List.map_congr_left λp _=>?_;show _=(bif decide (p.1=k) then(k,f v) else(p.1,f p.2));simp only[Function.comp]
  cases decide (p.1=k)<;>rfl
theorem YP (f:T→S)(xs:List (Af×T))(k:Af):Bh f (mdel xs k)=mdel (Bh f xs) k:=by
 unfold Bh mdel;rw[List.filter_map];rfl
theorem I5 (f:T→S)(xs:List (Af×T)):(Bh f xs).length=xs.length:=by simp[Bh]
theorem Nh (k:Af)(v:T):∀xs:List (Af×T),(mins k v xs).Perm ((k,v)::xs)
 | []=>Ael _
 | p::r=>by
  rw[mins]
  cases BR k p.1 with
  | true=>exact Ael _
  | false=>exact((Nh k v r).cons p).trans (List.Perm.swap _ _ _)
def HN (x:T):List T→List (List T)
 | []=>[[x]]
 | y::r=>(x::y::r)::(HN x r).map (y::·)
def Lq:List T→List (List T)
 | []=>[[]]
 | x::r=>(Lq r).flatMap (HN x)
theorem NF (x:T):∀(a b:List T),a++x::b∈HN x (a++b)
 | [],[]=>by simp[HN]
 | [],y::b=>by simp[HN]
 | y::a,b=>by
  simp only[AeO,HN,Afe,List.mem_map];exact .inr ⟨_,NF x a b,rfl⟩
theorem Q0:∀(xs ys:List T),ys.Perm xs→ys∈Lq xs
 | [],ys,h=>by rw[h.eq_nil];simp[Lq]
 | x::r,ys,h=>by
  have hx:x∈ys:=h.symm.subset (List.mem_cons_self ..);obtain⟨a,b,rfl⟩:=List.append_of_mem hx;have h2:(a++b).Perm r:=(List.perm_middle.symm.trans h).cons_inv;simp only[Lq,List.mem_flatMap];exact⟨a++b,Q0 r _ h2,NF x a b⟩
def YN {R:Type}[DecidableEq R](xs:List T)(K:List T→Option R):Option R:=match K xs with
 | none=>none
 | some r=>bif (Lq xs).all (λp=>decide (K p=some r)) then some r else none
theorem Ac1 {R:Type}[DecidableEq R]{xs:List T}{K:List T→Option R}{r:R}(h:YN xs K=some r):∀p:List T,p.Perm xs→K p=some r:=λp hp=>by
 unfold YN at h
 cases hk:K xs with
 | none=>rw[hk] at h;cases h
 | some q=>
  rw[hk] at h;simp only at h
  cases ha:(Lq xs).all (λp=>decide (K p=some q)) with
  | false=>rw[ha] at h;cases h
  | true=>
   rw[ha] at h;cases h;exact Aep (List.all_eq_true.1 ha p (Q0 xs p hp))
theorem Jm (x:T):∀(xs ys:List T),ys∈HN x xs→ys.Perm (x::xs)
 | [],ys,h=>by simp[HN] at h;rw[h]
 | y::r,ys,h=>by
  simp only[HN,Afe,List.mem_map] at h;rcases h with rfl | ⟨z,hz,rfl⟩
  ·exact Ael _
  ·exact((Jm x r z hz).cons y).trans (List.Perm.swap _ _ _)
theorem Pb:∀(xs ys:List T),ys∈Lq xs→ys.Perm xs
 | [],ys,h=>by simp[Lq] at h;rw[h]
 | x::r,ys,h=>by
  simp only[Lq,List.mem_flatMap] at h;obtain⟨z,hz,hy⟩:=h;exact(Jm x z ys hy).trans ((Pb r z hz).cons x)
theorem Ac0 {R:Type}[DecidableEq R]{xs:List T}{K:List T→Option R}{r:R}(h:∀p:List T,p.Perm xs→K p=some r):YN xs K=some r:=by
 unfold YN;rw[h xs (Ael _)];have:(Lq xs).all (λp=>decide (K p=some r))=true:=List.all_eq_true.2 λp hp=>Aei (h p (Pb xs p hp));simp only[this];rfl
def WJ {St O:Type}(body:T→St→Option (Stp St (Out O St))):List T→St→Option (Out O St)
 | [],s=>some (.go s)
 | x::r,s=>match body x s with
  | none=>none
  | some (.next s')=>WJ body r s'
  | some (.out o)=>some o
def Ad8 {St R:Type}(body:T→St→Option (Stp St (Out R St)))(ys:List T)(K:St→Option R)(r:R):Stp St (Out R St)→Prop
 | .next s'=>∀q:List T,q.Perm ys→Br (WJ body q s') (BE K)=some r
 | .out o=>BE K o=some r
theorem Adq {St R:Type}{body:T→St→Option (Stp St (Out R St))}{ys ys':List T}{p:T}{s:St}{K:St→Option R}{r:R}(h:∀q:List T,q.Perm ys→Br (WJ body q s) (BE K)=some r)(hp:ys.Perm (p::ys')):∃t,body p s=some t∧Ad8 body ys' K r t:=by
 have h1:∀q:List T,q.Perm ys'→Br (WJ body (p::q) s) (BE K)=some r:=λq hq=>h _ ((hq.cons p).trans hp.symm)
 cases hb:body p s with
 | none=>
  have:=h1 ys' (Ael _);rw[WJ,hb] at this;cases this
 | some t=>
  refine⟨t,rfl,?_⟩
  cases t with
  | next s'=>
   intro q hq;have:=h1 q hq;rw[WJ,hb] at this;exact this
  | out o=>
   have:=h1 ys' (Ael _);rw[WJ,hb] at this;exact this
theorem Abi {St R:Type}{body:T→St→Option (Stp St (Out R St))}{ys:List T}{s:St}{K:St→Option R}{r:R}(h:∀q:List T,q.Perm ys→Br (WJ body q s) (BE K)=some r)(hy:ys=[]):K s=some r:=by
 subst hy;exact h [] (Ael _)
theorem Q2 {St R:Type}{body:T→St→Option (Stp St (Out R St))}{ys:List T}{s':St}{K:St→Option R}{r:R}{t:Stp St (Out R St)}(h:some (Stp.next s')=some t)(ht:Ad8 body ys K r t):∀q:List T,q.Perm ys→Br (WJ body q s') (BE K)=some r:=by cases h;exact ht
theorem Va {ys ys':List T}{p:T}(h:ys.Perm (p::ys')):ys'.length<ys.length:=by rw[h.length_eq];exact Aeo _
end
end Go.Proofs.YtjfnokmpfekniaaGreatDoor
namespace Go.Proofs.YtjfnokmpfekniaaGreatDoor.Q
open Go Go.RowKit
set_option linter.unusedVariables false
set_option linter.unusedSimpArgs false
def rBx (p:Bool→Prop):Rp:=⟨λ_ v=>∃b,v = .bool b∧p b,λ_ h=>h,true,λ_ Z v ⟨b,e,_⟩=>by rw[e];rfl⟩
section
variable {P : Program} {n : Nat} {c : Cx} {ops : Array Oper} {Q : Exit → Act → World → Prop} {rest : List Oper} {l : Fr} {H : List Ent} {d : Option Nat} {ty rty t e : TypeId} {pos : String} {af : Array Edge} {g : Option (Nat × Bool)} {r : Rp} {x : Operand} {cx cy : Code} {sz : Nat} {xs : List (List Rp)}
theorem XC {o:Operand}{p:Bool→Prop}(ho:ev l o=some (rBx p))(h1:p true→WC P n c cx Q l H)(h2:p false→WC P n c cy Q l H):WC P n c (.cond o cx cy) Q l H:=λa w Z ha hw=>by
 obtain⟨b,e,hp⟩:=ha.ev ho;exact wp_cond_split e (λe=>h1 (e▸hp) a w Z ha hw) (λe=>h2 (e▸hp) a w Z ha hw)
theorem Wz (ht:P.underlying t=some (.slice e))(h:ev l x=some (AX sz xs)):Bx P n c l H { dst:=d,op:=.binOp .eql t x (.const (.slice none 0 0)) rty,type:=ty,pos:=pos,after:=af,guard:=g } (rBx (λb=>b=true→xs=[])):=λa w Z ha hw=>by
 obtain⟨A,cap,e1,h1,h2,h3,h4⟩:=ha.ev h;refine⟨.bool A.isNone,⟨_,rfl,λhb=>?_⟩,?_⟩
 ·cases A with
  | some a=>cases hb
  | none=>
   have:=h3 rfl;exact List.length_eq_zero_iff.1 (by omega)
 ·have:=run_equal_slice_nil (P:=P) w t e A xs.length cap ht;have e2:a.eval (.const (.slice none 0 0)) = .slice none 0 0:=rfl;simp[execOp,e1,e2,binOp,this,eqGuard]
end
section
variable {P : Program} {n : Nat} {c : Cx} {l : Fr} {H : List Ent} {d : Option Nat} {ty rty t e : TypeId} {pos : String} {af : Array Edge} {g : Option (Nat × Bool)} {x : Operand} {sz : Nat}
end
def R3 (ops:List Oper)(N:Nat):Bool:=
 let cl:=PC ops []
 (List.range ops.length).all (λi=>(G6 (ops.getD i default)).all (·<i))&&
 (List.range ops.length).all (λi=>i<N||(List.range i).all (λj=>(cl.getD i 0).testBit j))
section
variable {P : Program} {Q : Exit → Act → World → Prop}
theorem T5 {listed:Array Bool}{len m:Nat}(hs:listed.size=len)(hm:m≤len)(h:∀j,j<len→(listed.getD j true=true↔j<m)):listed.toList.count false=len-m:=by
 have:listed.toList=List.replicate m true++List.replicate (len-m) false:=by
  apply List.ext_getElem
  ·simp[hs];omega
  ·intro j h1 h2;have hj:j<len:=by simpa[hs] using h1
   have:=h j hj;rw[Array.getD_eq_getD_getElem?,Array.getElem?_eq_getElem (by omega)] at this;simp only[AeH] at this;rw[Array.getElem_toList,List.getElem_append]
   split
   ·rename_i h3
    simp at h3;simp[this.2 h3]
   ·rename_i h3
    simp at h3;simp only[List.getElem_replicate]
    cases hb:listed[j] with
    | false=>rfl
    | true=>have:=this.1 hb;omega
 rw[this];simp[List.count_append,List.count_replicate]
theorem Vz {listed:Array Bool}{j:Nat}(h:j<listed.size)(d d':Bool):listed.getD j d=listed.getD j d':=by
 simp[Array.getD_eq_getD_getElem?,Array.getElem?_eq_getElem h]
theorem PJ {ops:List Oper}{listed:Array Bool}{i:Nat}{o:Oper}(ho:ops[i]? =some o)(hb:∀e∈G6 o,listed.getD e true=true)
  (hcl:∀j o,ops[j]? =some o→listed.getD j true=true→∀e∈G6 o,listed.getD e true=true) (j:Nat) (h:((PC ops []).getD i 0).testBit j=true):j=i∨listed.getD j true=true:=
 Jx ops (λk=>k=i∨listed.getD k true=true) ops [] (λt o' ht e he hF=>by
  rcases hF with hF | hF
  ·simp at hF;subst hF;rw[ho] at ht;simp at ht;subst ht;exact .inr (hb e he)
  ·exact .inr (hcl t o' ht (by simpa using hF) e he)) (λj i hb=>by simp at hb) i j h (.inl rfl)
theorem L5 {ops:List Oper}{listed:Array Bool}{i:Nat}(hsz:listed.size=ops.length)(hlt:∀i,i<ops.length→∀e∈G6 (ops.getD i default),e<i)(h:i∈Region.ready .any ops.toArray listed) :
  listed.getD i true=false∧i<ops.length∧∃o,ops[i]? =some o∧∀e∈G6 o,listed.getD e true=true:=by
 obtain⟨h1,o,ho,h2⟩:=mem_ready.1 h;have ho':ops[i]? =some o:=by simpa using ho
 have hil:=(List.getElem?_eq_some_iff.1 ho').1;refine⟨h1,hil,o,ho',λe he=>?_⟩;have hei:=hlt i hil e (by rw[Aeu,ho'];exact he);simp only[G6,List.mem_map,List.mem_filter] at he;obtain⟨x,⟨hx1,hx2⟩,rfl⟩:=he;have h3:=h2 x (by simpa using hx1) hx2;rw[Vz (by omega) true false];exact h3
theorem Lr {ops:List Oper}{listed:Array Bool}(hsz:listed.size=ops.length)(hlt:∀i,i<ops.length→∀e∈G6 (ops.getD i default),e<i)(h:Region.ready .any ops.toArray listed=[]) :
  ∀j,j<ops.length→listed.getD j true=true:=by
 intro j
 induction j using Nat.strongRecOn with
 | ind j ih=>
  intro hj
  cases hb:listed.getD j true with
  | true=>rfl
  | false=>
   have:j∈Region.ready .any ops.toArray listed:=mem_ready.2 ⟨hb,ops[j],by simp[hj],λe he hbn=>by
    have hel:e.on<j:=hlt j hj e.on (by
     rw[Aeu,Aeq hj];simp only[G6,AeH,List.mem_map,List.mem_filter];exact⟨e,⟨by simpa using he,hbn⟩,rfl⟩)
    rw[Vz (by omega) false true];exact ih e.on hel (by omega)⟩
   rw[h] at this;cases this
theorem Oe {listed:Array Bool}{i j:Nat}(hi:i<listed.size):(listed.setIfInBounds i true).getD j true=true↔(j=i∨listed.getD j true=true):=by
 by_cases hj:i=j
 ·subst hj;simp[hi]
 ·rw[getD_set_ne true hj];exact⟨.inr,λh=>h.elim (λh=>absurd h.symm hj) id⟩
theorem Wa {listed:Array Bool}{i fuel:Nat}(hi:i<listed.size)(hun:listed.getD i true=false)(hc:listed.toList.count false=fuel+1):(listed.setIfInBounds i true).toList.count false=fuel:=by
 have hfi:listed.toList[i]? =some false:=by
  rw[Array.getD_eq_getD_getElem?,Array.getElem?_eq_getElem hi] at hun;simp at hun;simp[hi,hun]
 rw[Array.toList_setIfInBounds];have h1:=List.count_set (a:=true) (b:=false) (l:=listed.toList) (i:=i) (by simpa using hi);have h2:listed.toList[i]'(by simpa using hi)=false:=by
  have:=List.getElem?_eq_some_iff.1 hfi;exact this.2
 rw[h1,h2,hc];rfl
theorem N0 {ops:List Oper}{N:Nat}(hlt:∀i,i<ops.length→∀e∈G6 (ops.getD i default),e<i)
  (hch:∀i,N≤i→i<ops.length→∀j,j<i→((PC ops []).getD i 0).testBit j=true):∀(k m:Nat) (listed:Array Bool) (a:Act) (w:World),m+k=ops.length→N≤m→listed.size=ops.length→
   (∀j,j<ops.length→(listed.getD j true=true↔j<m))→(∀j o,ops[j]? =some o→listed.getD j true=true→∀e∈G6 o,listed.getD e true=true)→wpList P ops.toArray Q (ops.drop m) a w→wpAny P .any ops.toArray Q k listed a w
 | 0,m,listed,a,w,hk,hN,hsz,hl,hcl,h=>by
  refine⟨?_,?_⟩
  ·cases hr:Region.ready .any ops.toArray listed with
   | nil=>rfl
   | cons i r=>
    obtain⟨h1,h2,_⟩:=L5 hsz hlt (i:=i) (by rw[hr];simp);rw[(hl i h2).2 (by omega)] at h1;cases h1
  ·rw[List.drop_of_length_le (by omega)] at h;exact h
 | k+1,m,listed,a,w,hk,hN,hsz,hl,hcl,h=>by
  refine⟨λhr=>?_,λi hi=>?_⟩
  ·have:=(hl m (by omega)).1 (Lr hsz hlt hr m (by omega));omega
  ·obtain⟨h1,h2,o,ho,hb⟩:=L5 hsz hlt hi;have him:i=m:=by
    have hmi : ¬ i<m:=λh'=>by rw[(hl i h2).2 h'] at h1;cases h1
    by_cases e:i=m
    ·exact e
    ·rcases PJ ho hb hcl m (hch i (by omega) h2 m (by omega)) with h3 | h3
     ·exact h3.symm
     ·have:=(hl m (by omega)).1 h3;omega
   subst him;have hd:ops.drop i=o::ops.drop (i+1):=by
    rw[List.drop_eq_getElem_cons h2]
    congr 1
    exact(List.getElem?_eq_some_iff.1 ho).2
   rw[hd] at h;have ih:∀a' w',wpList P ops.toArray Q (ops.drop (i+1)) a' w'→wpAny P .any ops.toArray Q k (listed.setIfInBounds i true) a' w':=λa' w' h'=>by
    refine N0 hlt hch k (i+1) _ a' w' (by omega) (by omega) (by simpa using hsz) (λj hj=>?_) (λj o' hj hlj e he=>?_) h'
    ·rw[Oe (by omega),hl j hj];omega
    ·rw[Oe (by omega)] at hlj ⊢;rcases hlj with rfl | hlj
     ·rw[ho] at hj;simp at hj;subst hj;exact .inr (hb e he)
     ·exact .inr (hcl j o' hj hlj e he)
   unfold wpOp;have hoA:ops.toArray[i]? =some o:=by simpa using ho
   simp only[hoA];simp only[wpList] at h
   split
   ·rename_i hw'
    rw[AeY hw'] at h;exact h.imp (λh=>Oper.wp_mono ih h) (λh=>h)
   ·rename_i hw'
    rw[AeK hw'] at h;exact ih _ _ h
theorem X9 {id:Nat}{ops:List Oper}{N:Nat}(hm:P.follows .mixedOrders=true)(hB:R3 ops N=true)(hN:N≤ops.length)(I:(Nat→Bool)→Act→World→Prop)
  (hext:∀S S' a w,(∀j,j<N→S j=S' j)→I S a w→I S' a w) {a:Act} {w:World} (h0:I (λ_=>false) a { w with drawn:=w.drawn+1 })
  (step:∀S i o a w,i<N→S i=false→ops[i]? =some o→(∀e∈G6 o,e<i∧S e=true)→I S a w→∀K:Act→World→Prop,(∀a' w',I (λj=>j ==i||S j) a' w'→K a' w')→
   (Region.wanted o (yielded ops.toArray a.tmps)=true→o.wp P a w K Q)∧(Region.wanted o (yielded ops.toArray a.tmps)=false→K (a.put o.dst undef) w))
  (fin:∀a w,I (λ_=>true) a w→wpList P ops.toArray Q (ops.drop N) a w):(Code.region id ops.toArray true).wp P Q a w:=by
 simp only[R3,Aej,AeI,List.mem_range,Aed,AeG] at hB;obtain⟨hlt,hch0⟩:=hB;have hch:∀i,N≤i→i<ops.length→∀j,j<i→((PC ops []).getD i 0).testBit j=true:=λi h1 h2 j hj=>by
  rcases hch0 i h2 with h3 | h3
  ·omega
  ·exact h3 j hj
 refine wp_region_any hm ?_;have main:∀(fuel:Nat) (listed:Array Bool) (a:Act) (w:World),listed.size=ops.length→listed.toList.count false=fuel→I (λj=>listed.getD j true) a w→
   (∀j o,ops[j]? =some o→listed.getD j true=true→∀e∈G6 o,listed.getD e true=true)→(∀j,N≤j→j<ops.length→listed.getD j true=false)→wpAny P .any ops.toArray Q fuel listed a w:=by
  intro fuel;have allin:∀(fuel:Nat) (listed:Array Bool) (a:Act) (w:World),listed.size=ops.length→listed.toList.count false=fuel→I (λj=>listed.getD j true) a w→
   (∀j o,ops[j]? =some o→listed.getD j true=true→∀e∈G6 o,listed.getD e true=true)→(∀j,N≤j→j<ops.length→listed.getD j true=false)→(∀j,j<N→listed.getD j true=true)→wpAny P .any ops.toArray Q fuel listed a w:=by
   intro fuel listed a w hsz hc hI hcl hlast hall;have hl:∀j,j<ops.length→(listed.getD j true=true↔j<N):=λj hj=>by
    constructor
    ·intro h
     by_cases hjN:j<N
     ·exact hjN
     ·rw[hlast j (by omega) hj] at h;cases h
    ·exact hall j
   have:=T5 hsz hN hl;refine N0 hlt hch fuel N listed a w (by omega) (AeA _) hsz hl hcl (fin a w (hext _ _ a w (λj hj=>hall j hj) hI))
  induction fuel with
  | zero=>
   intro listed a w hsz hc hI hcl hlast;refine allin 0 listed a w hsz hc hI hcl hlast (λj hj=>?_)
   cases hb:listed.getD j true with
   | true=>rfl
   | false=>
    have:false∈listed.toList:=by
     rw[Array.getD_eq_getD_getElem?,Array.getElem?_eq_getElem (by omega)] at hb;simp at hb;rw[← hb];simp
    have:=List.count_pos_iff.2 this;omega
  | succ fuel ih=>
   intro listed a w hsz hc hI hcl hlast
   by_cases hall:∀j,j<N→listed.getD j true=true
   ·exact allin (fuel+1) listed a w hsz hc hI hcl hlast hall
   ·refine⟨λhr=>absurd (λj hj=>Lr hsz hlt hr j (by omega)) hall,λi hi=>?_⟩;obtain⟨h1,h2,o,ho,hb⟩:=L5 hsz hlt hi;have hiN:i<N:=by
     by_cases h:i<N
     ·exact h
     ·refine absurd (λj hj=>?_) hall;rcases PJ ho hb hcl j (hch i (by omega) h2 j (by omega)) with h3 | h3
      ·omega
      ·exact h3
    have K':∀a' w',I (λj=>j ==i||listed.getD j true) a' w'→wpAny P .any ops.toArray Q fuel (listed.setIfInBounds i true) a' w':=λa' w' hI'=>by
     refine ih _ a' w' (by simpa using hsz) (Wa (by omega) h1 hc) (hext _ _ a' w' (λj hj=>?_) hI') (λj o' hj hlj e he=>?_) (λj h3 h4=>?_)
     ·have:=Oe (listed:=listed) (i:=i) (j:=j) (by omega)
      cases hq:(listed.setIfInBounds i true).getD j true with
      | true=>
       rw[hq] at this;rcases this.1 rfl with h | h
       ·simp[h]
       ·simp[h]
      | false=>
       rw[hq] at this;have h5 : ¬ (j=i∨listed.getD j true=true):=λh=>by have:=this.2 h;cases this
       cases hz:listed.getD j true with
       | true=>exact absurd (.inr hz) h5
       | false=>
        have:j≠i:=λh=>h5 (.inl h);simp[this]
     ·rw[Oe (by omega)] at hlj ⊢;rcases hlj with rfl | hlj
      ·rw[ho] at hj;simp at hj;subst hj;exact .inr (hb e he)
      ·exact .inr (hcl j o' hj hlj e he)
     ·rw[getD_set_ne true (by omega)];exact hlast j h3 h4
    obtain⟨k1,k2⟩:=step _ i o a w hiN h1 ho (λe he=>⟨hlt i h2 e (by rw[Aeu,ho];exact he),hb e he⟩) hI _ K';unfold wpOp;have hoA:ops.toArray[i]? =some o:=by simpa using ho
    simp only[hoA]
    split
    ·rename_i hw';exact .inl (k1 hw')
    ·rename_i hw';exact k2 (by simpa using hw')
 have e0:∀j,j<ops.length→(Array.replicate ops.length false).getD j true=false:=λj hj=>by simp[hj]
 have hsz0:ops.toArray.size=ops.length:=by simp
 rw[hsz0];refine main ops.length (Array.replicate ops.length false) a _ (by simp) (by simp) (hext _ _ _ _ (λj hj=>(e0 j (by omega)).symm) h0) (λj o hj hl=>?_) (λj _ h2=>e0 j h2);rw[e0 j (List.getElem?_eq_some_iff.1 hj).1] at hl;cases hl
end
structure Sa where
 deps:List Nat
 r:Rp
 al:Option (List Rp×TypeId):=none
 late:Option (Nat×List Rp):=none
 sto:Option Nat:=none
def H0 (sp:List Sa)(i:Nat):Sa:=sp.getD i { deps:=[],r:=rv undef }
def spq (sp:List Sa):List Sp:=sp.map λs=>⟨s.deps,s.r,0⟩
def MS (β:Nat→Nat)(s:Sa)(i:Nat):Rp:=match s.al with
 | none=>s.r
 | some _=>rv (.pointer (some ⟨β i,0,none⟩))
def Nq (S:Nat→Bool)(late:Option (Nat×List Rp))(cs:List Rp):List Rp:=match late with
 | none=>cs
 | some q=>if S q.1 then q.2 else cs
def HS (S:Nat→Bool)(β:Nat→Nat):List Sa→Nat→List Ent
 | [],_=>[]
 | s::r,t=>match s.al with
  | some p=>if S t then .blk (β t) (Nq S s.late p.1) p.2::HS S β r (t+1) else HS S β r (t+1)
  | none=>HS S β r (t+1)
def Xj (β:Nat→Nat):List Sa→Nat→List Ent
 | [],_=>[]
 | s::r,t=>match s.al with
  | some p=>.blk (β t) (match s.late with | none=>p.1 | some q=>q.2) p.2::Xj β r (t+1)
  | none=>Xj β r (t+1)
def NM (β:Nat→Nat):List Oper→List Sa→Nat→Fr→Fr
 | o::os,s::sp,i,l=>match o.dst with
  | some d=>(d,MS β s i)::NM β os sp (i+1) l
  | none=>NM β os sp (i+1) l
 | _,_,_,l=>l
theorem LG {S S':Nat→Bool}{late:Option (Nat×List Rp)}{cs:List Rp}(h:∀q,late=some q→S q.1=S' q.1):Nq S late cs=Nq S' late cs:=by
 unfold Nq
 cases late with
 | none=>rfl
 | some q=>simp only[];rw[h q rfl]
theorem G4 (S:Nat→Bool)(β:Nat→Nat)(s:Sa)(r:List Sa)(t:Nat):HS S β (s::r) t=match s.al with
  | some p=>if S t then .blk (β t) (Nq S s.late p.1) p.2::HS S β r (t+1) else HS S β r (t+1)
  | none=>HS S β r (t+1):=rfl
theorem Ix {S S':Nat→Bool}{β β':Nat→Nat}:∀(r:List Sa) (t0:Nat),(∀(t:Nat) (s:Sa),r[t]? =some s→s.al≠none→S (t0+t)=S' (t0+t)∧(S (t0+t)=true→β (t0+t)=β' (t0+t)∧∀q,s.late=some q→S q.1=S' q.1))→HS S β r t0=HS S' β' r t0
 | [],_,_=>rfl
 | s::r,t0,h=>by
  have ih:=Ix r (t0+1) (λt s hs hn=>by
   have:=h (t+1) s (by simpa using hs) hn;rw[show t0+1+t=t0+(t+1) from by omega];exact this)
  unfold HS;rw[ih]
  cases ha:s.al with
  | none=>rfl
  | some p=>
   obtain⟨h1,h2⟩:=h 0 s rfl (by rw[ha];exact nofun);simp only[Nat.add_zero] at h1 h2;simp only[];rw[← h1]
   split
   ·rename_i hS;rw[(h2 hS).1,LG (h2 hS).2]
   ·rfl
theorem Tz (β:Nat→Nat):∀(r:List Sa) (t0:Nat),HS (λ_=>true) β r t0=Xj β r t0
 | [],_=>rfl
 | s::r,t0=>by
  unfold HS Xj;rw[Tz β r (t0+1)]
  cases s.al with
  | none=>rfl
  | some p=>cases hl:s.late<;>simp[Nq,hl]
theorem QG (β:Nat→Nat):∀(r:List Sa) (t0:Nat),HS (λ_=>false) β r t0=[]
 | [],_=>rfl
 | s::r,t0=>by
  unfold HS;rw[QG β r (t0+1)]
  cases s.al<;>simp
theorem Ty {S:Nat→Bool}{β:Nat→Nat}{i b:Nat}{p:List Rp×TypeId}:∀(r:List Sa) (t0 k:Nat) (s:Sa),i=t0+k→r[k]? =some s→s.al=some p→S i=false→(∀(t:Nat) (s:Sa) (q:Nat×List Rp),r[t]? =some s→s.al≠none→s.late=some q→q.1≠i)→(∀q,s.late=some q→S q.1=false∧q.1≠i)→
  (HS (λj=>j ==i||S j) (λj=>if j=i then b else β j) r t0).Perm (.blk b p.1 p.2::HS S β r t0)
 | [],_,_,_,_,h,_,_,_,_=>by simp at h
 | s'::r,t0,0,s,hi,h,ha,hS,hne,hl=>by
  simp at h hi;subst h;subst hi;have e:=Ix (S:=λj=>j ==i||S j) (S':=S) (β:=λj=>if j=i then b else β j) (β':=β) r (i+1) (λt s hs hn=>by
   have:i+1+t≠i:=by omega
   refine⟨by simp[this],λ_=>⟨by simp[this],λq hq=>?_⟩⟩;have:=hne (t+1) s q (by simpa using hs) hn hq;simp[this])
  have ec:Nq (λj=>j ==i||S j) s'.late p.1=p.1:=by
   unfold Nq
   cases hq:s'.late with
   | none=>rfl
   | some q=>
    obtain⟨h1,h2⟩:=hl q hq;simp[h1,h2]
  unfold HS;rw[e,ha];simp only[hS,BEq.rfl,Ae9,AeT,ec];simp
 | s'::r,t0,k+1,s,hi,h,ha,hS,hne,hl=>by
  have ih:=Ty (S:=S) (β:=β) (i:=i) (b:=b) (p:=p) r (t0+1) k s (by omega) (by simpa using h) ha hS (λt s q hs=>hne (t+1) s q (by simpa using hs)) hl;have hne0:t0≠i:=by omega
  have hne':(t0 ==i)=false:=by simpa using hne0
  unfold HS
  cases ha':s'.al with
  | none=>exact ih
  | some q=>
   simp only[hne',Aew,AeK hne0];rw[LG (S:=λj=>j ==i||S j) (S':=S) (λq hq=>by
    have:=hne 0 s' q rfl (by rw[ha'];exact nofun) hq;simp[this])]
   cases hS':S t0 with
   | true=>simpa using(Aem _ ih).trans (List.Perm.swap _ _ _)
   | false=>simpa using ih
theorem Tx {S:Nat→Bool}{β:Nat→Nat}{i j:Nat}{p:List Rp×TypeId}{ncs:List Rp}:∀(r:List Sa) (t0 k:Nat) (s:Sa),j=t0+k→r[k]? =some s→s.al=some p→s.late=some (i,ncs)→S j=true→S i=false→(∀(t:Nat) (s:Sa) (q:Nat×List Rp),r[t]? =some s→s.al≠none→s.late=some q→t0+t≠j→q.1≠i)→(∀(t:Nat) (s:Sa),r[t]? =some s→s.al≠none→t0+t≠i)→
  ∃H',(HS S β r t0).Perm (.blk (β j) p.1 p.2::H')∧(HS (λj=>j ==i||S j) β r t0).Perm (.blk (β j) ncs p.2::H')
 | [],_,_,_,_,h,_,_,_,_,_,_=>by simp at h
 | s'::r,t0,0,s,hj,h,ha,hl,hSj,hSi,hne,hni=>by
  simp at h hj;subst h;subst hj;have e:=Ix (S:=λx=>x ==i||S x) (S':=S) (β:=β) (β':=β) r (j+1) (λt s hs hn=>by
   have h1:=hni (t+1) s (by simpa using hs) hn;have h1':j+1+t≠i:=by omega
   refine⟨by simp[h1'],λ_=>⟨rfl,λq hq=>?_⟩⟩;have:=hne (t+1) s q (by simpa using hs) hn hq (by omega);simp[this])
  refine⟨HS S β r (j+1),?_,?_⟩
  ·rw[G4];rw[ha];simp[hSj,Nq,hl,hSi]
  ·rw[G4];rw[ha,e];simp[hSj,Nq,hl]
 | s'::r,t0,k+1,s,hj,h,ha,hl,hSj,hSi,hne,hni=>by
  obtain⟨H',h1,h2⟩:=Tx (S:=S) (β:=β) (i:=i) (j:=j) (p:=p) (ncs:=ncs) r (t0+1) k s (by omega) (by simpa using h) ha hl hSj hSi (λt s q hs hn hq hx=>hne (t+1) s q (by simpa using hs) hn hq (by omega)) (λt s hs hn=>by
   have:=hni (t+1) s (by simpa using hs) hn;omega)
  cases ha':s'.al with
  | none=>exact⟨H',by rw[G4,ha'];exact h1,by rw[G4,ha'];exact h2⟩
  | some q=>
   have hi0:=hni 0 s' rfl (by rw[ha'];exact nofun);have hi0':(t0 ==i)=false:=by simpa using hi0
   have ec:Nq (λx=>x ==i||S x) s'.late q.1=Nq S s'.late q.1:=LG (λq hq=>by
    have:=hne 0 s' q rfl (by rw[ha'];exact nofun) hq (by omega);simp[this])
   cases hS':S t0 with
   | true=>
    refine⟨.blk (β t0) (Nq S s'.late q.1) q.2::H',?_,?_⟩
    ·rw[G4];rw[ha'];simpa[hS'] using(Aem _ h1).trans (List.Perm.swap _ _ _)
    ·rw[G4];rw[ha'];simp only[hi0',Aew,hS',AeT,ec];exact(Aem _ h2).trans (List.Perm.swap _ _ _)
   | false=>
    refine⟨H',?_,?_⟩
    ·rw[G4];rw[ha'];simpa[hS'] using h1
    ·rw[G4];rw[ha'];simp only[hi0',Aew,hS'];simpa using h2
def okA (n:Nat)(ops:List Oper)(N:Nat)(keys:List Nat)(deps:List (List Nat))(als:List Bool)(lates stos:List (Option Nat)):Bool:=
 R3 ops N&&decide (N≤ops.length)&&
 (List.range N).all (λi=>match CX ops i with
  | some d=>decide (d<n)&&!keys.contains d&&(List.range N).all (λj=>j ==i||CX ops j !=some d)
  | none=>true)&&
 (List.range N).all (λi=>(deps.getD i []).all (λj=>decide (j<N)&&(G6 (ops.getD i default)).contains j&&!als.getD j true))&&
 (List.range N).all (λi=>match stos.getD i none with
  | some j=>decide (j<N)&&(G6 (ops.getD i default)).contains j&&als.getD j false&&!als.getD i true
  | none=>true)&&
 (List.range N).all (λj=>match lates.getD j none with
  | some k=>decide (k<N)&&als.getD j false&&stos.getD k none ==some j
  | none=>true)
def Add (P:Program)(n:Nat)(c:Cx)(opsA:Array Oper)(Q:Exit→Act→World→Prop)(o:Oper)(p:List Rp×TypeId):Prop:=
 ∀H a w Z (K:Act→World→Prop),St c H Z w→(∀b w',St c (.blk b p.1 p.2::H) Z w'→K (a.put o.dst (.pointer (some ⟨b,0,none⟩))) w')→
  Region.wanted o (yielded opsA a.tmps)=true∧o.wp P a w K Q
def ObA (P:Program)(n:Nat)(c:Cx)(opsA:Array Oper)(Q:Exit→Act→World→Prop)(ops:List Oper)(sp:List Sa)(l0:Fr)(H:List Ent)(i:Nat)(o:Oper):Prop:=
 match (H0 sp i).sto with
 | some j=>o.dst=none∧∃d p ncs,CX ops j=some d∧(H0 sp j).al=some p∧(H0 sp j).late=some (i,ncs)∧
   ∀b H,Ht P n c opsA Q ((d,rv (.pointer (some ⟨b,0,none⟩)))::C1 ops (spq sp) (H0 sp i).deps l0) (.blk b p.1 p.2::H) o (rv undef) (.blk b ncs p.2::H)
 | none=>match (H0 sp i).al with
  | none=>∀E,Ht P n c opsA Q (C1 ops (spq sp) (H0 sp i).deps l0) (H++E) o (H0 sp i).r (H++E)
  | some p=>Add P n c opsA Q o p
def LJ (P:Program)(n:Nat)(c:Cx)(opsA:Array Oper)(Q:Exit→Act→World→Prop)(ops:List Oper)(sp:List Sa)(l0:Fr)(H:List Ent):Nat→List Oper→Prop
 | i,o::rest=>ObA P n c opsA Q ops sp l0 H i o∧LJ P n c opsA Q ops sp l0 H (i+1) rest
 | _,[]=>True
section
variable {P : Program} {n : Nat} {c : Cx} {opsA : Array Oper} {Q : Exit → Act → World → Prop} {l l0 : Fr} {H : List Ent} {sp : List Sa}
theorem LJ.at {ops:List Oper}:∀{k:Nat} {rest:List Oper},LJ P n c opsA Q ops sp l0 H k rest→∀(t:Nat) o,rest[t]? =some o→ObA P n c opsA Q ops sp l0 H (k+t) o
 | k,o::rest,⟨h1,h2⟩,t,o',ht=>by
  cases t with
  | zero=>simp at ht;subst ht;exact h1
  | succ t=>
   have:=LJ.at h2 t o' (by simpa using ht);rw[show k+(t+1)=k+1+t from by omega];exact this
 | _,[],_,t,o,h=>by simp at h
theorem R9 {β:Nat→Nat}{a:Act}{Z:Fz}(h0:DD n l0 a Z):∀(os:List Oper) (ss:List Sa) (k:Nat),(∀(t:Nat) o s d,os[t]? =some o→ss[t]? =some s→o.dst=some d→∃v,a.tmps[d]? =some v∧(MS β s (k+t)).p Z v)→DD n (NM β os ss k l0) a Z
 | [],_,_,_=>by unfold NM;exact h0
 | _::_,[],_,_=>by unfold NM;exact h0
 | o::os,s::ss,k,h=>by
  have ih:=R9 h0 os ss (k+1) (λt o' s' d h1 h2 h3=>by
   have:=h (t+1) o' s' d (by simpa using h1) (by simpa using h2) h3;rw[show k+1+t=k+(t+1) from by omega];exact this)
  unfold NM
  cases hd:o.dst with
  | none=>exact ih
  | some d=>
   refine⟨ih.size,ih.defers,λi r hi=>?_⟩;rw[CH] at hi
   split at hi
   ·rename_i e;subst e;simp at hi;subst hi;exact h 0 o s d rfl rfl hd
   ·exact ih.tm i r hi
theorem Acg {id:Nat}{ops:List Oper}(N:Nat)(sp:List Sa)(hm:P.follows .mixedOrders=true)(hB:okA n ops N (GC l0) (sp.map (·.deps)) (sp.map (·.al.isSome)) (sp.map (·.late.map (·.1))) (sp.map (·.sto))=true)(hl0:Xt l0 l)(hsp:sp.length=N)
  (hob:LJ P n c ops.toArray Q ops sp l0 H 0 (ops.take N)) (h:∀β,WL P n c ops.toArray Q (ops.drop N) (NM β (ops.take N) sp 0 l0) (H++Xj β sp 0)):WC P n c (.region id ops.toArray true) Q l H:=by
 intro a w Z ha hw;simp only[okA,Aej,AeI,List.mem_range,Aed] at hB;obtain⟨⟨⟨⟨⟨b1,bN⟩,b2⟩,b3⟩,b4⟩,b5⟩:=hB;have hget:∀i,i<N→(ops.take N)[i]? =ops[i]?:=λi hi=>by rw[AeV,AeY hi]
 have hsa:∀i,i<N→sp[i]? =some (H0 sp i):=λi hi=>by
  simp[H0,Aeu,Aeq (show i<sp.length by omega)]
 have hspq:∀i,i<N→(EG (spq sp) i)=⟨(H0 sp i).deps,(H0 sp i).r,0⟩:=λi hi=>by
  simp[EG,spq,Aeu,AeQ,hsa i hi]
 have hals:∀j b,j<N→(sp.map (·.al.isSome)).getD j b=(H0 sp j).al.isSome:=λj b hj=>by simp[Aeu,AeQ,hsa j hj]
 have hstos:∀j,j<N→(sp.map (·.sto)).getD j none=(H0 sp j).sto:=λj hj=>by simp[Aeu,AeQ,hsa j hj]
 have hlates:∀j,j<N→(sp.map (·.late.map (·.1))).getD j none=(H0 sp j).late.map (·.1):=λj hj=>by simp[Aeu,AeQ,hsa j hj]
 have S1:∀i o j,i<N→ops[i]? =some o→(H0 sp i).sto=some j→j<N∧j∈G6 o∧(H0 sp j).al≠none∧(H0 sp i).al=none:=λi o j hi ho hs=>by
  have h1:=b4 i hi;rw[hstos i hi,hs] at h1;simp only[Aej,Aex,Aed] at h1;obtain⟨⟨⟨h2,h3⟩,h4⟩,h5⟩:=h1;rw[hals j _ h2] at h4;rw[hals i _ hi] at h5;rw[Aeu,ho,AeH,List.contains_iff_mem] at h3;exact⟨h2,h3,λe=>(by rw[e] at h4;cases h4),(by simpa using h5)⟩
 have L1:∀t q,t<N→(H0 sp t).late=some q→q.1<N∧(H0 sp q.1).sto=some t:=λt q ht hq=>by
  have h1:=b5 t ht;rw[hlates t ht,hq] at h1;simp only[Option.map_some,Aej,Aed,beq_iff_eq] at h1;obtain⟨⟨h2,h3⟩,h4⟩:=h1;rw[hstos _ h2] at h4;exact⟨h2,h4⟩
 have hops:∀j,j<N→∃o,ops[j]? =some o:=λj hj=>⟨ops[j]'(by omega),Aeq (by omega)⟩
 have lt_of:∀(t:Nat) (s:Sa),sp[t]? =some s→t<N∧s=H0 sp t:=λt s hs=>by
  have h1:t<N:=by have:=(List.getElem?_eq_some_iff.1 hs).1;omega
  refine⟨h1,?_⟩;rw[hsa t h1] at hs;simpa using hs.symm
 have hdst:∀i o d,i<N→ops[i]? =some o→o.dst=some d→(d<n∧d ∉ GC l0)∧∀j,j<N→j≠i→CX ops j≠some d:=λi o d hi ho hd=>by
  have h3:=b2 i hi;have:CX ops i=some d:=by simp[CX,ho,hd]
  rw[this] at h3;simp only[Aej,Aex,AeI,List.mem_range,Aed] at h3;refine⟨⟨h3.1.1,λhmem=>by rw[← List.contains_iff_mem] at hmem;rw[hmem] at h3;cases h3.1.2⟩,λj hj hne he=>?_⟩;have:=h3.2 j hj;simp[hne,he] at this
 refine X9 (N:=N) hm b1 bN (λS a w=>∃ (β:Nat→Nat) (Z:Fz),St c (H++HS S β sp 0) Z w∧DD n l0 a Z∧(∀j o d,j<N→S j=true→ops[j]? =some o→o.dst=some d→∃v,a.tmps[d]? =some v∧(MS β (H0 sp j) j).p Z v)∧
   ∀k j,k<N→(H0 sp k).sto=some j→S k=true→S j=true)
  (λS S' a w hS hI=>?_) ⟨λ_=>0,Z,?_,ha.subL hl0,λj o d _ hS=>(by cases hS),λk j _ _ hS=>(by cases hS)⟩ (λS i o a w hi hun ho hb hI K hK=>?_) (λa w hI=>?_)
 ·obtain⟨β,Z,h1,h2,h3,h4⟩:=hI;refine⟨β,Z,?_,h2,λj o d hj hS'=>h3 j o d hj (by rw[hS j hj];exact hS'),λk j hk hs hSk=>?_⟩
  ·rw[← Ix (S:=S) (β:=β) (β':=β) sp 0 (λt s hs _=>by
    obtain⟨ht,rfl⟩:=lt_of t s hs;exact⟨hS _ (by omega),λ_=>⟨rfl,λq hq=>hS _ (L1 t q ht hq).1⟩⟩)]
   exact h1
  ·obtain⟨o,ho⟩:=hops k hk;rw[← hS j (S1 k o j hk ho hs).1];exact h4 k j hk hs (by rw[hS k hk];exact hSk)
 ·rw[QG,AeF];exact hw.drawn _
 ·obtain⟨β,Z,h1,h2,h3,hx⟩:=hI;have hput:∀k u v,a.tmps[k]? =some u→o.dst≠some k→(a.put o.dst v).tmps[k]? =some u:=λk u v hk hne=>by
   cases hd:o.dst with
   | none=>simpa[Act.put] using hk
   | some d=>
    simp only[Act.put,Array.getElem?_setIfInBounds];rw[AeK (λe=>hne (by rw[hd,e]))];exact hk
  have hagr:∀v Z',Fz.le Z Z'→DD n l0 (a.put o.dst v) Z':=λv Z' hz=>by
   refine⟨?_,?_,λk r hk=>?_⟩
   ·cases o.dst<;>simp[Act.put,h2.size]
   ·cases o.dst<;>simp[Act.put,h2.defers]
   ·obtain⟨u,hu,hpu⟩:=h2.tm k r hk;exact⟨u,hput k u v hu (λe=>((hdst i o k hi ho e).1).2 (Mx hk)),r.mono hz hpu⟩
  have hvals:∀(v:Value) (Z':Fz) (β':Nat→Nat),Fz.le Z Z'→(∀j,j≠i→β' j=β j)→(o.dst≠none→(MS β' (H0 sp i) i).p Z' v)→∀j o' d,j<N→(j ==i||S j)=true→ops[j]? =some o'→o'.dst=some d→∃u,(a.put o.dst v).tmps[d]? =some u∧(MS β' (H0 sp j) j).p Z' u:=by
   intro v Z' β' hz hβ hp j o' d hj hS' ho' hd
   by_cases hji:j=i
   ·subst hji;rw[ho] at ho';simp at ho';subst ho';refine⟨v,?_,hp (by simp[hd])⟩;have hdn:d<a.tmps.size:=by rw[h2.size];exact(hdst j o d hi ho hd).1.1
    simp[Act.put,hd,hdn]
   ·have hSj:S j=true:=by simpa[hji] using hS'
    obtain⟨u,hu,hpu⟩:=h3 j o' d hj hSj ho' hd;refine⟨u,hput d u v hu (λe=>(hdst i o d hi ho e).2 j hj hji (by simp[CX,ho',hd])),?_⟩;have:MS β' (H0 sp j) j=MS β (H0 sp j) j:=by unfold MS;rw[hβ j hji]
    rw[this];exact(MS β (H0 sp j) j).mono hz hpu
  have hx':∀k j,k<N→(H0 sp k).sto=some j→(k ==i||S k)=true→(j ==i||S j)=true:=λk j hk hs hSk=>by
   by_cases hki:k=i
   ·subst hki;have:=(hb j (S1 k o j hk ho hs).2.1).2;simp[this]
   ·have:S j=true:=hx k j hk hs (by simpa[hki] using hSk);simp[this]
  have hat:=hob.at i o (by rw[hget i hi];exact ho);rw[AeU] at hat;unfold ObA at hat;have hag':DD n (C1 ops (spq sp) (H0 sp i).deps l0) a Z:=MM h2 (λj hj d hd=>by
    have h4:=b3 i hi j (by simpa[Aeu,AeQ,hsa i hi] using hj);simp only[Aej,Aex,Aed] at h4;obtain⟨⟨h5,h6⟩,h7⟩:=h4;rw[Aeu,ho,AeH,List.contains_iff_mem] at h6;have hjal:(H0 sp j).al=none:=by
     rw[hals j _ h5] at h7;simpa using h7
    obtain⟨o2,ho2⟩:=hops j h5;obtain⟨v,hv1,hv2⟩:=h3 j o2 d h5 (hb j h6).2 ho2 (by simpa[CX,ho2] using hd);refine⟨v,hv1,?_⟩;rw[hspq j h5];simpa[MS,hjal] using hv2)
  cases hst:(H0 sp i).sto with
  | some j=>
   rw[hst] at hat;obtain⟨hod,d,p,ncs,hd,hal,hlate,hok⟩:=hat;obtain⟨hjN,hjb,_,hial⟩:=S1 i o j hi ho hst;have hSj:=(hb j hjb).2;obtain⟨H',p1,p2⟩:=Tx (S:=S) (β:=β) (i:=i) (j:=j) (p:=p) (ncs:=ncs) sp 0 j (H0 sp j) (by omega) (hsa j hjN) hal hlate hSj hun (λt s q hs _ hq hne he=>by
     obtain⟨ht,rfl⟩:=lt_of t s hs;have:=(L1 t q ht hq).2;rw[he,hst] at this;simp at this;omega) (λt s hs hn he=>by
     obtain⟨ht,rfl⟩:=lt_of t s hs;rw[AeU] at he;subst he;exact hn hial)
   obtain⟨o2,ho2⟩:=hops j hjN;obtain⟨v,hv1,hv2⟩:=h3 j o2 d hjN hSj ho2 (by simpa[CX,ho2] using hd);have hag2:DD n ((d,rv (.pointer (some ⟨β j,0,none⟩)))::C1 ops (spq sp) (H0 sp i).deps l0) a Z:=⟨hag'.size,hag'.defers,λk r hk=>by
    rw[CH] at hk
    split at hk
    ·rename_i e;subst e;simp at hk;subst hk
     exact⟨v,hv1,by simpa[MS,hal] using hv2⟩
    ·exact hag'.tm k r hk⟩
   refine hok (β j) (H++H') a w Z K hag2 (h1.perm ((List.Perm.append_left H p1).trans List.perm_middle)) (λv w' Z' hz _ hs'=>hK _ _ ⟨β,Z',?_,hagr v Z' hz,hvals v Z' β hz (λ_ _=>rfl) (λhne=>absurd hod hne),hx'⟩);exact hs'.perm (List.perm_middle.symm.trans (List.Perm.append_left H p2.symm))
  | none=>
   rw[hst] at hat;have latene:∀t q,t<N→(H0 sp t).late=some q→q.1≠i:=λt q ht hq he=>by
    have:=(L1 t q ht hq).2;rw[he,hst] at this;cases this
   cases hal:(H0 sp i).al with
   | none=>
    rw[hal] at hat;refine hat _ a w Z K hag' h1 (λv w' Z' hz hp hst'=>hK _ _ ⟨β,Z',?_,hagr v Z' hz,hvals v Z' β hz (λ_ _=>rfl) (λ_=>by unfold MS;rw[hal];exact hp),hx'⟩);rw[Ix (S':=S) (β':=β) sp 0 (λt s hs hn=>by
     obtain⟨ht,rfl⟩:=lt_of t s hs;have:t≠i:=λe=>by subst e;exact hn hal
     refine⟨by simp[this],λ_=>⟨rfl,λq hq=>?_⟩⟩;have:=latene t q ht hq;simp[this])]
    exact hst'
   | some p=>
    rw[hal] at hat;have key:=λK' hK'=>hat (H++HS S β sp 0) a w Z K' h1 hK';have h5:∀b w',St c (.blk b p.1 p.2::(H++HS S β sp 0)) Z w'→K (a.put o.dst (.pointer (some ⟨b,0,none⟩))) w':=λb w' hst'=>by
     refine hK _ _ ⟨λj=>if j=i then b else β j,Z,?_,hagr _ Z (Fz.le.refl _),hvals _ Z _ (Fz.le.refl _) (λj hj=>by simp[hj]) (λ_=>by simp[MS,hal,rv]),hx'⟩;have hp:=Ty (S:=S) (β:=β) (i:=i) (b:=b) (p:=p) sp 0 i (H0 sp i) (by omega) (hsa i hi) hal hun (λt s q hs _ hq=>by
      obtain⟨ht,rfl⟩:=lt_of t s hs;exact latene t q ht hq) (λq hq=>by
       refine⟨?_,latene i q hi hq⟩
       cases hS:S q.1 with
       | false=>rfl
       | true=>
        obtain⟨h6,h7⟩:=L1 i q hi hq;have:=hx q.1 i h6 h7 hS;rw[this] at hun;cases hun)
     exact hst'.perm ((List.perm_middle.symm).trans (List.Perm.append_left H hp.symm))
    refine⟨λ_=>(key K h5).2,λhw'=>?_⟩;rw[(key K h5).1] at hw';cases hw'
 ·obtain⟨β,Z,h1,h2,h3,_⟩:=hI;refine h β a w Z (R9 h2 _ _ 0 (λt o s d ht hs hd=>?_)) (by rw[← Tz];exact h1);obtain⟨htN,rfl⟩:=lt_of t s hs;rw[AeU];exact h3 t o d htN rfl (by rw[← hget t htN];exact ht) hd
end
theorem AbV {P:Program}{n:Nat}{c:Cx}{opsA:Array Oper}{Q:Exit→Act→World→Prop}{d:Nat}{e:TypeId}{ty:TypeId}{pos:String}{af:Array Edge}{z:Value}{cs:List Rp}(hz:∀w,(zeroValue e).run P w = .ok z w)(hcs:z.cells.toList.map rv=cs) :
  Add P n c opsA Q { dst:=some d,op:=.alloc e,type:=ty,pos:=pos,after:=af,guard:=none } (cs,e):=λH a w Z K hw hK=>by
 refine⟨by simp[Region.wanted],?_⟩;unfold Oper.wp;rw[show(execOp a.eval { dst:=some d,op:=.alloc e,type:=ty,pos:=pos,after:=af,guard:=none }).run P w = .ok (.value (.pointer (some ⟨w.heap.size,0,none⟩))) (w.alloc (.cells z.cells e)) from by simp[execOp,Instr.alloc,hz,newVar,newRow,newObj,Sem.run,Sem.run_bind]];exact hK _ _ (hw.alloc _ (e:=.blk w.heap.size cs e) ⟨z.cells.toList,by simpa using heap_alloc_new w _,by subst hcs;exact B1.rvs Z _⟩ rfl)
section
variable {P : Program} {n : Nat} {c : Cx} {opsA : Array Oper} {Q : Exit → Act → World → Prop} {l l0 : Fr} {H : List Ent} {sp : List Sa}
theorem H9 {id:Nat}{ops:List Oper}(N:Nat)(ks0:List Nat)(sp:List Sa)(hob:LJ P n c ops.toArray Q ops sp l0 H 0 (ops.take N))(h:∀β,WL P n c ops.toArray Q (ops.drop N) (NM β (ops.take N) sp 0 l0) (H++Xj β sp 0))
  (h0:Kp ks0 l l0:=by repeat (first | exact PW | (apply Nj;rfl) | (apply NS;rfl))) (hm:P.follows .mixedOrders=true:=by kernel_rfl) (hB:okA n ops N (GC l0) (sp.map (·.deps)) (sp.map (·.al.isSome)) (sp.map (·.late.map (·.1))) (sp.map (·.sto))=true:=by kernel_rfl)
  (hsp:sp.length=N:=by rfl):WC P n c (.region id ops.toArray true) Q l H:=Acg N sp hm hB h0.one hsp hob h
theorem G5 {all rest:List Oper}{d:Nat}{op:Op}{ty:TypeId}{pos:String}{af:Array Edge}{i:Nat}
  (hr:∀{H},Bx P n c (C1 all (spq sp) (H0 sp i).deps l0) H { dst:=some d,op:=op,type:=ty,pos:=pos,after:=af,guard:=none } (H0 sp i).r) (h:LJ P n c opsA Q all sp l0 H (i+1) rest) (ha:(H0 sp i).al=none:=by rfl) (hs:(H0 sp i).sto=none:=by rfl) :
  LJ P n c opsA Q all sp l0 H i ({ dst:=some d,op:=op,type:=ty,pos:=pos,after:=af,guard:=none }::rest):=by
 refine⟨?_,h⟩;unfold ObA;rw[hs,ha];exact λ_=>Y6 hr
theorem YB {all rest:List Oper}{d:Nat}{op:Op}{ty:TypeId}{pos:String}{af:Array Edge}{i:Nat}
  (hr:∀{E},Bx P n c (C1 all (spq sp) (H0 sp i).deps l0) (H++E) { dst:=some d,op:=op,type:=ty,pos:=pos,after:=af,guard:=none } (H0 sp i).r) (h:LJ P n c opsA Q all sp l0 H (i+1) rest) (ha:(H0 sp i).al=none:=by rfl) (hs:(H0 sp i).sto=none:=by rfl) :
  LJ P n c opsA Q all sp l0 H i ({ dst:=some d,op:=op,type:=ty,pos:=pos,after:=af,guard:=none }::rest):=by
 refine⟨?_,h⟩;unfold ObA;rw[hs,ha];exact λ_=>Y6 hr
theorem oal {all rest:List Oper}{o:Oper}{p:List Rp×TypeId}{i:Nat}(hr:Add P n c opsA Q o p)(h:LJ P n c opsA Q all sp l0 H (i+1) rest)(ha:(H0 sp i).al=some p:=by rfl)(hs:(H0 sp i).sto=none:=by rfl):LJ P n c opsA Q all sp l0 H i (o::rest):=by
 refine⟨?_,h⟩;unfold ObA;rw[hs,ha];exact hr
theorem oae {all:List Oper}{i:Nat}:LJ P n c opsA Q all sp l0 H i []:=trivial
end
structure Kza (ks:List Nat) (β:Nat→Nat) (os:List Oper) (sp:List Sa) (i:Nat) (l0 l1:Fr):Prop where
 go:Kp ks (NM β os sp i l0) l1
section
variable {ks : List Nat} {β : Nat → Nat} {os : List Oper} {sp : List Sa} {i d : Nat} {l0 l1 : Fr} {ds : List Nat} {r : Rp} {p : List Rp × TypeId} {lt : Option (Nat × List Rp)} {so : Option Nat} {op : Op} {ty : TypeId} {pos : String} {af : Array Edge} {g : Option (Nat × Bool)}
theorem Adr (h:ks.contains d=true)(t:Kza ks β os sp (i+1) l0 l1):Kza ks β ({ dst:=some d,op:=op,type:=ty,pos:=pos,after:=af,guard:=g }::os) ({ deps:=ds,r:=r,sto:=so }::sp) i l0 ((d,r)::l1):=⟨Nj h t.go⟩
theorem Adu (h:ks.contains d=true)(t:Kza ks β os sp (i+1) l0 l1):Kza ks β ({ dst:=some d,op:=op,type:=ty,pos:=pos,after:=af,guard:=g }::os) ({ deps:=ds,r:=r,al:=some p,late:=lt,sto:=so }::sp) i l0 ((d,rv (.pointer (some ⟨β i,0,none⟩)))::l1):=⟨Nj h t.go⟩
theorem Adt {s:Sa}(h:ks.contains d=false)(t:Kza ks β os sp (i+1) l0 l1):Kza ks β ({ dst:=some d,op:=op,type:=ty,pos:=pos,after:=af,guard:=g }::os) (s::sp) i l0 l1:=⟨NS h t.go⟩
theorem Ads {s:Sa}(t:Kza ks β os sp (i+1) l0 l1):Kza ks β ({ dst:=none,op:=op,type:=ty,pos:=pos,after:=af,guard:=g }::os) (s::sp) i l0 l1:=⟨t.go⟩
theorem Adv (t:Kp ks l0 l1):Kza ks β [] [] i l0 l1:=⟨t⟩
theorem IG {P:Program}{n:Nat}{c:Cx}{opsA:Array Oper}{Q:Exit→Act→World→Prop}{rest:List Oper}{H H1:List Ent}(ks:List Nat)(h:WL P n c opsA Q rest l1 H1)
  (hz:Kza ks β os sp i l0 l1:=by repeat (first | (apply Adr;rfl) | (apply Adu;rfl) | (apply Adt;rfl) | apply Ads | apply Adv | exact PW | (apply Nj;rfl) | (apply NS;rfl))) (hH:H=H1:=by rfl) :
  WL P n c opsA Q rest (NM β os sp i l0) H:=λa w Z ha hw=>h a w Z (ha.subL hz.go.one) (hH▸hw)
end
section
variable {P : Program} {n : Nat} {c : Cx} {opsA : Array Oper} {Q : Exit → Act → World → Prop} {l l0 : Fr} {H : List Ent} {sp : List Sa}
theorem oac {all rest:List Oper}{o:Oper}{i:Nat}(hr:∀{E},Ht P n c opsA Q (C1 all (spq sp) (H0 sp i).deps l0) (H++E) o (H0 sp i).r (H++E))(h:LJ P n c opsA Q all sp l0 H (i+1) rest)(ha:(H0 sp i).al=none:=by rfl)(hs:(H0 sp i).sto=none:=by rfl):LJ P n c opsA Q all sp l0 H i (o::rest):=by
 refine⟨?_,h⟩;unfold ObA;rw[hs,ha];exact λ_=>hr
end
theorem G3 (s:ByteArray):MapKept.IsKey .string (.string s):=by simp[MapKept.IsKey]
theorem Kd.keys {Z:Fz}:∀{f:List (List UInt8×Rp)} {es:List MapEntry},Kd Z f es→∀x∈es,MapKept.IsKey .string x.key
 | [],[],_,x,hx=>by cases hx
 | p::f,e::es,⟨⟨h1,h2⟩,h3⟩,x,hx=>by
  rcases List.mem_cons.1 hx with rfl | hx
  ·rw[h1];exact G3 _
  ·exact Kd.keys h3 x hx
theorem Kd.at {Z:Fz}:∀{f:List (List UInt8×Rp)} {es:List MapEntry},Kd Z f es→f.length=es.length∧∀(j:Nat) (e:MapEntry),es[j]? =some e→∃k r,f[j]? =some (k,r)∧e.key = .string (B k)∧r.p Z e.val
 | [],[],_=>⟨rfl,λj e h=>by simp at h⟩
 | p::f,e::es,⟨⟨h1,h2⟩,h3⟩=>by
  obtain⟨hl,ha⟩:=Kd.at h3;refine⟨by simp[hl],λj e' hj=>?_⟩
  cases j with
  | zero=>simp at hj;subst hj;exact⟨p.1,p.2,rfl,h1,h2⟩
  | succ j=>simp at hj;simpa using ha j e' hj
theorem Kd.of {Z:Fz}:∀{f:List (List UInt8×Rp)} {es:List MapEntry},f.length=es.length→(∀(j:Nat) (e:MapEntry),es[j]? =some e→∃k r,f[j]? =some (k,r)∧e.key = .string (B k)∧r.p Z e.val)→Kd Z f es
 | [],[],_,_=>trivial
 | p::f,e::es,hl,h=>by
  obtain⟨k,r,h1,h2,h3⟩:=h 0 e rfl;simp at h1;subst h1;exact⟨⟨h2,h3⟩,Kd.of (by simpa using hl) λj e' hj=>by simpa using h (j+1) e' (by simpa using hj)⟩
 | [],_::_,hl,_=>by simp at hl
 | _::_,[],hl,_=>by simp at hl
theorem Kd.snoc {Z:Fz}{k:List UInt8}{r:Rp}{e:MapEntry}(h1:e.key = .string (B k))(h2:r.p Z e.val):∀{f:List (List UInt8×Rp)} {es:List MapEntry},Kd Z f es→Kd Z (f++[(k,r)]) (es++[e])
 | [],[],_=>⟨⟨h1,h2⟩,trivial⟩
 | p::f,e'::es,⟨h,h3⟩=>⟨h,Kd.snoc h1 h2 h3⟩
theorem Kd.filter {Z:Fz}(q:MapEntry→Bool):∀{f:List (List UInt8×Rp)} {es:List MapEntry},Kd Z f es→∃g,Kd Z g (es.filter q)∧g.Sublist f
 | [],[],_=>⟨[],trivial,List.Sublist.refl _⟩
 | p::f,e::es,⟨h,h3⟩=>by
  obtain⟨g,hg,hs⟩:=Kd.filter q h3
  cases hq:q e with
  | true=>exact⟨p::g,by rw[List.filter_cons_of_pos hq];exact⟨h,hg⟩,hs.cons_cons p⟩
  | false=>exact⟨g,by rw[List.filter_cons_of_neg (by simp[hq])];exact hg,hs.cons p⟩
theorem SV {T:Type}:∀{m:List (Af×T)} {k:Af} {r:T},(m.map (·.1)).Nodup→(k,r)∈m→BA m k=some r
 | p::m,k,r,hn,h=>by
  rw[AeR,List.nodup_cons] at hn;rw[BA];rcases List.mem_cons.1 h with h | h
  ·subst h;rw[Aei rfl];rfl
  ·have hne : ¬ p.1=k:=λe=>hn.1 (by rw[e];exact List.mem_map.2 ⟨(k,r),h,rfl⟩);rw[Aeg hne];exact SV hn.2 h
theorem Qy {T:Type}:∀{m:List (Af×T)} {k:Af},(∀p∈m,p.1≠k)→BA m k=none
 | [],_,_=>rfl
 | p::m,k,h=>by
  rw[BA,Aeg (h p (by simp))];exact Qy λq hq=>h q (by simp[hq])
theorem Ad9 {a b:List UInt8}(h:B a=B b):a=b:=by
 have:=congrArg ByteArray.toList h
 rwa [ED,ED] at this
theorem OL {a b:List UInt8}(h:Value.string (B a) = .string (B b)):a=b:=Ad9 (by cases h;rfl)
theorem Rx {Z:Fz}{m:List (List UInt8×Rp)}{es:List MapEntry}{ck:Nat}(h:GG Z m es ck)(k:List UInt8) :
  (Instr.findNow .string (.string (B k)) es 0=some none∧BA m k=none∧∀p∈m,p.1≠k)∨∃j e r,Instr.findNow .string (.string (B k)) es 0=some (some (j,e.val))∧es[j]? =some e∧e.key = .string (B k)∧BA m k=some r∧r.p Z e.val:=by
 obtain⟨h1,h2,h3,f,h4,h5⟩:=h;obtain⟨hl,ha⟩:=h5.at;rcases MapKept.findNow_spec (G3 (B k)) es 0 h5.keys with⟨q1,q2⟩ | ⟨j,e,q1,q2,q3⟩
 ·have hne:∀p∈m,p.1≠k:=λp hp e=>by
   obtain⟨j,hj⟩:=List.mem_iff_getElem?.1 (h4.symm.subset hp);have hjl:j<es.length:=by rw[← hl];exact(List.getElem?_eq_some_iff.1 hj).1
   obtain⟨k',r',e1,e2,_⟩:=ha j es[j] (Aeq hjl);rw[hj] at e1;cases e1;exact q2 es[j] (List.getElem_mem hjl) (by rw[e2,← e])
  exact .inl ⟨q1,Qy hne,hne⟩
 ·obtain⟨k',r,e1,e2,e3⟩:=ha j e q2;rw[q3] at e2;obtain rfl:=OL e2;exact .inr ⟨j,e,r,by simpa using q1,q2,q3,SV h1 (h4.subset (Aet e1)),e3⟩
section
variable {P : Program} {n : Nat} {c : Cx} {ops : Array Oper} {Q : Exit → Act → World → Prop} {rest : List Oper} {l : Fr} {H : List Ent} {d : Nat} {d' : Option Nat} {ty t kt et rty : TypeId} {pos : String} {af : Array Edge} {g : Option (Nat × Bool)} {x y u : Operand} {K : Act → World → Prop} {cx : Code}
variable {T : Type} {enc : T → Rp} {xs : List (Af × T)} {z : T} {k : Af} {zv : Value} {i b : Nat}
theorem Lo {Z:Fz}{w:World}{m:List (List UInt8×Rp)}{rz:Rp}(ht:P.underlying t=some (.map kt et))(hk:P.underlying kt=some .string)(hz:∀w,(zeroValue et).run P w = .ok zv w)(hzr:rz.p Z zv)(hm:(Ent.map b m).holds Z w)(ok:Bool) :
  ∃v,((BA m k).getD rz).p Z v∧(Instr.lookup t (.map (some b)) (.string (B k)) ok).run P w = .ok (if ok then .tuple #[v,.bool (BA m k).isSome] else v) w:=by
 obtain⟨es,ck,h1,h2⟩:=hm;rcases Rx h2 k with⟨q1,q2,_⟩ | ⟨j,e,r,q1,_,_,q2,q3⟩
 ·exact⟨zv,by rw[q2];exact hzr,by simp[Instr.lookup,run_underlying ht,MapKept.run_getObj_map h1,MapKept.run_checkKey hk (G3 _),MapKept.run_findKey hk q1,hz,q2]⟩
 ·exact⟨e.val,by rw[q2];exact q3,by simp[Instr.lookup,run_underlying ht,MapKept.run_getObj_map h1,MapKept.run_checkKey hk (G3 _),MapKept.run_findKey hk q1,q2]⟩
theorem Tq (enc:T→Rp)(xs:List (Af×T))(k:Af)(z:T):(BA (Bh enc xs) k).getD (enc z)=enc (CL xs k z):=by
 rw[Mv];unfold CL;cases BA xs k<;>rfl
theorem U1 (enc:T→Rp)(xs:List (Af×T))(k:Af):(BA (Bh enc xs) k).isSome=CG xs k:=by
 rw[Mv];unfold CG;cases BA xs k<;>rfl
theorem Vf (ht:P.underlying t=some (.map kt et))(hk:P.underlying kt=some .string)(hz:∀w,(zeroValue et).run P w = .ok zv w)(hzr:∀Z,(enc z).p Z zv)(hx:ev l x=some (rv (.map (some b))))(hi:H[i]? =some (.map b (Bh enc xs)))(hy:ev l y=some (rS k)) :
  Bx P n c l H { dst:=d',op:=.lookup t x y true,type:=ty,pos:=pos,after:=af,guard:=g } (Ct [enc (CL xs k z),rB (CG xs k)]):=λa w Z ha hw=>by
 obtain⟨v,h1,h2⟩:=Lo (k:=k) ht hk hz (hzr Z) (hw.ent hi) true;rw[Tq] at h1;refine⟨.tuple #[v,.bool (CG xs k)],⟨[v,.bool (CG xs k)],rfl,h1,rfl,trivial⟩,?_⟩;rw[U1] at h2;simp[execOp,ha.eval hx,ha.eval hy,h2]
theorem YF (ht:P.underlying t=some (.map kt et))(hk:P.underlying kt=some .string)(hz:∀w,(zeroValue et).run P w = .ok zv w)(hzr:∀Z,(enc z).p Z zv)(hx:ev l x=some (rv (.map (some b))))(hi:H[i]? =some (.map b (Bh enc xs)))(hy:ev l y=some (rS k)) :
  Bx P n c l H { dst:=d',op:=.lookup t x y false,type:=ty,pos:=pos,after:=af,guard:=g } (enc (CL xs k z)):=λa w Z ha hw=>by
 obtain⟨v,h1,h2⟩:=Lo (k:=k) ht hk hz (hzr Z) (hw.ent hi) false;rw[Tq] at h1;simp only[Aez,AeP] at h2;exact⟨v,h1,by simp[execOp,ha.eval hx,ha.eval hy,h2]⟩
theorem GG.length {Z:Fz}{m:List (List UInt8×Rp)}{es:List MapEntry}{ck:Nat}(h:GG Z m es ck):es.length=m.length:=by
 obtain⟨_,_,_,f,h4,h5⟩:=h;rw[← h5.at.1,h4.length_eq]
theorem YE {m:List (List UInt8×Rp)}{N:Nat}(ht:P.underlying t=some (.map kt et))(hx:ev l x=some (rv (.map (some b))))(hi:H[i]? =some (.map b m))(hN:m.length=N) :
  Bx P n c l H { dst:=d',op:=.call { callee:=.builtin .len,args:=#[x],argTypes:=#[t] },type:=ty,pos:=pos,after:=af,guard:=g } (rI .i64 N):=λa w Z ha hw=>CY<|by
 obtain⟨es,ck,h1,h2⟩:=hw.ent hi;have hl:es.size=N:=by rw[← hN,← h2.length];simp
 simp[execOp,resolve,invoke,builtin,ha.eval hx,Builtin.len_,run_underlying ht,goInt,MapKept.run_getObj_map h1,hl]
theorem W1 {v:Option Nat}(ht:P.underlying t=some (.map kt et))(hx:ev l x=some (rv (.map v))):Bx P n c l H { dst:=d',op:=.binOp .neq t x (.const (.map none)) rty,type:=ty,pos:=pos,after:=af,guard:=g } (rB (!v.isNone)):=λa w Z ha hw=>CY<|by
 have e2:a.eval (.const (.map none)) = .map none:=rfl;have h:=run_equal_map_nil (P:=P) w t kt et v ht;simp[execOp,ha.eval hx,e2,eqGuard,binOp,h]
theorem Qc (hn:Nat.blt d n=true)(h:∀b,WL P n c ops Q rest ((d,rv (.map (some b)))::l) (.map b []::H)) :
  WL P n c ops Q ({ dst:=some d,op:=.makeMap t none,type:=ty,pos:=pos,after:=af,guard:=none }::rest) l H:=
 Lg (λa w Z ha hw=>⟨_,w.alloc (.map #[] 0),_,_,Z,by simp[execOp,run_makeMap],Fz.le.refl _,rfl,
  hw.alloc _ (e:=.map w.heap.size []) ⟨#[],0,by simpa using heap_alloc_new w _,by simp,by simp,by simp,[],Ael _,trivial⟩ rfl,h w.heap.size⟩) hn
theorem Y0 {m f:List (Af×Rp)}(h:f.Perm m)(k:Af)(r:Rp):(mput f k r).Perm (mput m k r):=h.map _
theorem Vl {T:Type}:∀{f:List (Af×T)} {j:Nat} {k:Af} {r0:T} (r:T),(f.map (·.1)).Nodup→f[j]? =some (k,r0)→mput f k r=f.set j (k,r)
 | p::f,0,k,r0,r,hn,h=>by
  simp at h;subst h;rw[AeR,List.nodup_cons] at hn;have:mput f k r=f:=by
   unfold mput;rw[List.map_congr_left (g:=id) (λq hq=>?_),List.map_id];have hne : ¬ q.1=k:=λe=>hn.1 (by rw[← e];exact List.mem_map.2 ⟨q,hq,rfl⟩);rw[Aeg hne];rfl
  show(bif decide (k=k) then(k,r) else(k,r0))::mput f k r=_;rw[Aei rfl,this];rfl
 | p::f,j+1,k,r0,r,hn,h=>by
  rw[AeR,List.nodup_cons] at hn;simp at h;have hne : ¬ p.1=k:=λe=>hn.1 (by rw[e];exact List.mem_map.2 ⟨(k,r0),Aet h,rfl⟩);show(bif decide (p.1=k) then(k,r) else p)::mput f k r=_;rw[Aeg hne,Vl r hn.2 h];rfl
theorem Vm {T:Type}:∀{f:List (Af×T)} {j:Nat} {k:Af} {r0:T},(f.map (·.1)).Nodup→f[j]? =some (k,r0)→mdel f k=f.eraseIdx j
 | p::f,0,k,r0,hn,h=>by
  simp at h;subst h;rw[AeR,List.nodup_cons] at hn;have:f.filter (λq=>!decide (q.1=k))=f:=List.filter_eq_self.2 λq hq=>by
   have hne : ¬ q.1=k:=λe=>hn.1 (by rw[← e];exact List.mem_map.2 ⟨q,hq,rfl⟩);simp[hne]
  unfold mdel;rw[List.filter_cons_of_neg (by simp),this];rfl
 | p::f,j+1,k,r0,hn,h=>by
  rw[AeR,List.nodup_cons] at hn;simp at h;have hne : ¬ p.1=k:=λe=>hn.1 (by rw[e];exact List.mem_map.2 ⟨(k,r0),Aet h,rfl⟩);unfold mdel;rw[List.filter_cons_of_pos (by simp[hne])];show p::mdel f k=_;rw[Vm hn.2 h];rfl
theorem W7 {T:Type}(m:List (Af×T))(k:Af)(r:T):(mput m k r).map (·.1)=m.map (·.1):=by
 unfold mput;rw[Aff];refine List.map_congr_left λp _=>?_;simp only[Function.comp]
 by_cases h:p.1=k
 ·rw[Aei h];exact h.symm
 ·rw[Aeg h];rfl
theorem W8 {T:Type}{m:List (Af×T)}{k:Af}{r:T}(h:BA m k=some r):CG m k=true:=by unfold CG;rw[h];rfl
theorem W9 {T:Type}{m:List (Af×T)}{k:Af}(h:BA m k=none):CG m k=false:=by unfold CG;rw[h];rfl
theorem GG.put {Z:Fz}{m:List (Af×Rp)}{es:List MapEntry}{ck j:Nat}{e:MapEntry}{k:Af}{r0 r:Rp}{v:Value}(h:GG Z m es ck)(he:es[j]? =some e)(hk:e.key = .string (B k))(hm:BA m k=some r0)(hr:r.p Z v) :
  GG Z (mset m k r) (es.set j { e with key:=.string (B k),val:=v }) ck:=by
 obtain⟨h1,h2,h3,f,h4,h5⟩:=h;obtain⟨hl,ha⟩:=h5.at;have hjl:=(List.getElem?_eq_some_iff.1 he).1;unfold mset;rw[W8 hm,Aek];obtain⟨k',r',e1,e2,_⟩:=ha j e he;rw[hk] at e2;obtain rfl:=OL e2;have hfn:(f.map (·.1)).Nodup:=(h4.map (·.1)).nodup_iff.2 h1;refine⟨by rw[W7];exact h1,?_,?_,f.set j (k,r),?_,Kd.of (by simp[hl]) λi x hx=>?_⟩
 ·rw[List.map_set];have:(es.map (·.born)).set j e.born=es.map (·.born):=by
   apply List.ext_getElem?;intro i;rw[List.getElem?_set]
   split
   ·rename_i hij;subst hij
    simp[hjl,List.getElem?_eq_some_iff.1 he |>.2]
   ·rfl
  show((es.map (·.born)).set j e.born).Nodup;rw[this];exact h2
 ·intro x hx;rcases List.mem_or_eq_of_mem_set hx with hx | rfl
  ·exact h3 x hx
  ·exact h3 e (Aet he)
 ·have:=Y0 h4 k r
  rwa [Vl r hfn e1] at this
 ·rw[List.getElem?_set] at hx ⊢
  split at hx
  ·rename_i hij;subst hij
   cases hx
   exact⟨k,r,by rw[AeY rfl,AeY (by rw[hl];exact hjl)],rfl,hr⟩
  ·rename_i hij
   rw[AeK hij];exact ha i x hx
theorem GG.ins {Z:Fz}{m:List (Af×Rp)}{es:List MapEntry}{ck:Nat}{k:Af}{r:Rp}{v:Value}(h:GG Z m es ck)(hm:BA m k=none)(hk:∀p∈m,p.1≠k)(hr:r.p Z v) :
  GG Z (mset m k r) (es++[{ key:=.string (B k),val:=v,born:=ck }]) (ck+1):=by
 obtain⟨h1,h2,h3,f,h4,h5⟩:=h;unfold mset;rw[W9 hm,Aeh];have hp:=Nh k r m;refine⟨?_,?_,?_,f++[(k,r)],?_,Kd.snoc rfl hr h5⟩
 ·rw[(hp.map (·.1)).nodup_iff,AeR,List.nodup_cons];exact⟨λhx=>by obtain⟨p,hp,e⟩:=List.mem_map.1 hx;exact hk p hp e,h1⟩
 ·rw[Afj,List.nodup_append];refine⟨h2,by simp,λa ha b hb e=>?_⟩;simp at hb;subst hb;obtain⟨x,hx,e'⟩:=List.mem_map.1 ha;have:=h3 x hx;omega
 ·intro x hx;rcases List.mem_append.1 hx with hx | hx
  ·have:=h3 x hx;omega
  ·simp at hx;subst hx;exact Aeo _
 ·exact(List.perm_append_comm (l₁:=f) (l₂:=[(k,r)])).trans ((h4.cons (k,r)).trans hp.symm)
theorem GG.del {Z:Fz}{m:List (Af×Rp)}{es:List MapEntry}{ck j:Nat}{e:MapEntry}{k:Af}(h:GG Z m es ck)(he:es[j]? =some e)(hk:e.key = .string (B k)):GG Z (mdel m k) (es.eraseIdx j) ck:=by
 obtain⟨h1,h2,h3,f,h4,h5⟩:=h;obtain⟨hl,ha⟩:=h5.at;obtain⟨k',r',e1,e2,_⟩:=ha j e he;rw[hk] at e2;obtain rfl:=OL e2;have hfn:(f.map (·.1)).Nodup:=(h4.map (·.1)).nodup_iff.2 h1;have hs:=List.eraseIdx_sublist es j;refine⟨h1.sublist ((List.filter_sublist ..).map _),h2.sublist (hs.map _),λx hx=>h3 x (hs.subset hx),f.eraseIdx j,?_,Kd.of (by rw[List.length_eraseIdx,List.length_eraseIdx,hl]) λi x hx=>?_⟩
 ·rw[← Vm hfn e1];exact h4.filter _
 ·rw[List.getElem?_eraseIdx] at hx ⊢
  split at hx
  ·rename_i hij;rw[AeY hij];exact ha i x hx
  ·rename_i hij;rw[AeK hij];exact ha (i+1) x hx
theorem WG {m:List (Af×Rp)}{k:Af}(hk:∀p∈m,p.1≠k):mdel m k=m:=List.filter_eq_self.2 λp hp=>by simp[hk p hp]
theorem St.mapset {Z:Fz}{w:World}(h:St c H Z w){m m':List (Af×Rp)}(hi:H[i]? =some (.map b m)){es es':Array MapEntry}{ck ck':Nat}(h1:w.heap[b]? =some (.map es ck))(h2:GG Z m' es'.toList ck') :
  St c (H.set i (.map b m')) Z { w with heap:=w.heap.setIfInBounds b (.map es' ck') }:=by
 obtain⟨q1,q2⟩:=MapKept.heap_set (o':=.map es' ck') h1;exact h.set hi rfl rfl rfl (by simp) (λk _ hk=>q2 k (by simpa[Ent.foot] using hk)) ⟨es',ck',q1,h2⟩ (by simp[Ent.foot])
theorem QW (s:ByteArray):Instr.sameBits 10000 (.string s) (.string s)=true:=by
 show(s ==s)=true;exact(MapKept.bytes_beq s s).2 rfl |> λh=>by simpa using h
theorem Aci {r:Rp}{m:List (Af×Rp)}(ht:P.underlying t=some (.map kt et))(hk:P.underlying kt=some .string)(hx:ev l x=some (rv (.map (some b))))(hi:H[i]? =some (.map b m))(hy:ev l y=some (rS k))(hu:ev l u=some r){H':List Ent}(hH:H.set i (.map b (mset m k r))=H')(h:WL P n c ops Q rest l H') :
  WL P n c ops Q ({ dst:=none,op:=.mapUpdate t x y u,type:=ty,pos:=pos,after:=af,guard:=none }::rest) l H:=
 RQ λa w Z ha hw=>by
  obtain⟨es,ck,h1,h2⟩:=hw.ent hi;have hv:=ha.ev hu;subst hH;rcases Rx h2 k with⟨q1,q2,q3⟩ | ⟨j,e,r0,q1,q2,q3,q4,_⟩
  ·refine⟨_,_,?_,hw.mapset hi h1 (es':=es.push { key:=.string (B k),val:=a.eval u,born:=ck }) (by simpa using h2.ins q2 q3 hv),h⟩;simp[execOp,ha.eval hx,ha.eval hy,Instr.mapUpdate,run_underlying ht,MapKept.run_getObj_map h1,MapKept.run_checkKey hk (G3 _),MapKept.run_findKey hk q1,MapKept.run_setObj_map _ h1]
  ·have hje:es[j]? =some e:=by simpa using q2
   refine⟨_,_,?_,hw.mapset hi h1 (es':=es.modify j λe=>{ e with key:=.string (B k),val:=a.eval u }) (ck':=ck) (by
    have:=h2.put q2 q3 q4 hv;have e1:(es.modify j λe=>{ e with key:=.string (B k),val:=a.eval u }).toList=es.toList.set j { e with key:=.string (B k),val:=a.eval u }:=by
     rw[Array.toList_modify];rw[List.modify_eq_set,q2];rfl
    rw[e1];exact this),h⟩
   have hkey:((es[j]?).map (·.key)).getD (.string (B k)) = .string (B k):=by rw[hje];exact q3
   simp[execOp,ha.eval hx,ha.eval hy,Instr.mapUpdate,run_underlying ht,MapKept.run_getObj_map h1,MapKept.run_checkKey hk (G3 _),MapKept.run_findKey hk q1,MapKept.run_setObj_map _ h1,hkey,Instr.keyThatStays,QW]
theorem AbI {op:Op}{ty:TypeId}{pos:String}{af:Array Edge}
  (hr:∀a w Z,DD n l a Z→St c H Z w→∃v w' H',(execOp a.eval { dst:=none,op:=op,type:=ty,pos:=pos,after:=af,guard:=none }).run P w = .ok (.value v) w'∧St c H' Z w'∧WL P n c ops Q rest l H') :
  WL P n c ops Q ({ dst:=none,op:=op,type:=ty,pos:=pos,after:=af,guard:=none }::rest) l H:=λa w Z ha hw=>
 wpList_plain rfl λK hK=>by
  obtain⟨v,w',H',h1,h2,h3⟩:=hr a w Z ha hw;unfold Oper.wp;rw[h1];exact hK _ _ (h3 _ w' Z (ha.put_none _) h2)
theorem Acj {m:List (Af×Rp)}(ht:P.underlying t=some (.map kt et))(hk:P.underlying kt=some .string){kt':TypeId}(hx:ev l x=some (rv (.map (some b))))(hi:H[i]? =some (.map b m))(hy:ev l y=some (rS k)){H':List Ent}(hH:H.set i (.map b (mdel m k))=H')(h:WL P n c ops Q rest l H') :
  WL P n c ops Q ({ dst:=none,op:=.call { callee:=.builtin .delete,args:=#[x,y],argTypes:=#[t,kt'] },type:=ty,pos:=pos,after:=af,guard:=none }::rest) l H:=
 AbI (λa w Z ha hw=>by
  obtain⟨es,ck,h1,h2⟩:=hw.ent hi;subst hH;rcases Rx h2 k with⟨q1,q2,q3⟩ | ⟨j,e,r0,q1,q2,q3,q4,_⟩
  ·refine⟨.tuple #[],_,_,?_,hw.mapset hi h1 (es':=es) (ck':=ck) (by rw[WG q3];exact h2),h⟩;simp[execOp,resolve,invoke,builtin,ha.eval hx,ha.eval hy,Builtin.delete_,run_underlying ht,MapKept.run_getObj_map h1,MapKept.run_checkKey hk (G3 _),MapKept.run_findKey hk q1,MapKept.run_setObj_map _ h1]
  ·refine⟨.tuple #[],_,_,?_,hw.mapset hi h1 (es':=es.eraseIdxIfInBounds j) (ck':=ck) (by
    have e1:(es.eraseIdxIfInBounds j).toList=es.toList.eraseIdx j:=by simp
    rw[e1];exact h2.del q2 q3),h⟩
   simp[execOp,resolve,invoke,builtin,ha.eval hx,ha.eval hy,Builtin.delete_,run_underlying ht,MapKept.run_getObj_map h1,MapKept.run_checkKey hk (G3 _),MapKept.run_findKey hk q1,MapKept.run_setObj_map _ h1])
theorem XJ {m:List (Af×Rp)}(ht:P.underlying t=some (.map kt et))(hx:ev l x=some (rv (.map (some b))))(hi:H[i]? =some (.map b m)){H':List Ent}(hH:H.set i (.map b [])=H')(h:WL P n c ops Q rest l H') :
  WL P n c ops Q ({ dst:=none,op:=.call { callee:=.builtin .clear,args:=#[x],argTypes:=#[t] },type:=ty,pos:=pos,after:=af,guard:=none }::rest) l H:=
 AbI (λa w Z ha hw=>by
  obtain⟨es,ck,h1,h2⟩:=hw.ent hi;subst hH;refine⟨.tuple #[],_,_,?_,hw.mapset hi h1 (es':=#[]) (ck':=ck) ⟨by simp,by simp,by simp,[],Ael _,trivial⟩,h⟩;simp[execOp,resolve,invoke,builtin,ha.eval hx,Builtin.clear_,run_underlying ht,MapKept.run_getObj_map h1,MapKept.run_setObj_map _ h1])
theorem Oc {v:T}(ht:P.underlying t=some (.map kt et))(hk:P.underlying kt=some .string)(hx:ev l x=some (rv (.map (some b))))(hi:H[i]? =some (.map b (Bh enc xs)))(hy:ev l y=some (rS k))(hu:ev l u=some (enc v)){H':List Ent}(hH:H.set i (.map b (Bh enc (mset xs k v)))=H')(h:WL P n c ops Q rest l H') :
  WL P n c ops Q ({ dst:=none,op:=.mapUpdate t x y u,type:=ty,pos:=pos,after:=af,guard:=none }::rest) l H:=Aci ht hk hx hi hy hu (by rw[← YM];exact hH) h
theorem AaB (ht:P.underlying t=some (.map kt et))(hk:P.underlying kt=some .string){kt':TypeId}(hx:ev l x=some (rv (.map (some b))))(hi:H[i]? =some (.map b (Bh enc xs)))(hy:ev l y=some (rS k)){H':List Ent}(hH:H.set i (.map b (Bh enc (mdel xs k)))=H')(h:WL P n c ops Q rest l H') :
  WL P n c ops Q ({ dst:=none,op:=.call { callee:=.builtin .delete,args:=#[x,y],argTypes:=#[t,kt'] },type:=ty,pos:=pos,after:=af,guard:=none }::rest) l H:=Acj ht hk hx hi hy (by rw[← YP];exact hH) h
end
end Go.Proofs.YtjfnokmpfekniaaGreatDoor.Q
namespace Go.Proofs.YtjfnokmpfekniaaGreatDoor
open Go
def Pq {T:Type}(xs:List (Af×T)):Bool:=decide (xs.length*16≤140737488355328)&&xs.all λp=>okS p.1
def Dm {T:Type}(xs:List (Af×T)):List Af:=(xs.map (·.1)).mergeSort λx y=>decide (x≤y)
end Go.Proofs.YtjfnokmpfekniaaGreatDoor
namespace Go.Proofs.YtjfnokmpfekniaaGreatDoor.Q
open Go Go.RowKit Go.ChangeMaps
set_option linter.unusedVariables false
set_option linter.unusedSimpArgs false
def RU:Value→Option (DataW Unit×List MemPlace):=λ_=>some (.nil,[])
theorem Aco {P:Program}{k:TypeId}(hkt:P.underlying k=some .string){e:MapEntry}{s:Af}(he:e.key = .string (B s))(hs:s.length≤maxLen):WideElems.rd P k RU e=some (.string s,.nil):=by
 obtain⟨key,val,born⟩:=e;simp only at he;subst he;exact WideElems.rd_mk (yv:=(.nil,[])) (by simp[keyOf,hkt,mapKey,B];exact hs) rfl
theorem Kd.rgs {P:Program}{k:TypeId}(hkt:P.underlying k=some .string){Z:Fz}:∀{f:List (Af×Rp)} {es:List MapEntry},Kd Z f es→(∀p∈f,p.1.length≤maxLen)→es.map (WideElems.rg P k RU)=f.map (λp=>(Lit.string p.1,(.nil:DataW Unit)))∧(∀x∈es,∃y,WideElems.rd P k RU x=some y)∧es.map (·.key)=f.map λp=>Value.string (B p.1)
 | [],[],_,_=>⟨rfl,(λ_ h=>by cases h),rfl⟩
 | p::f,e::es,⟨⟨h1,_⟩,h2⟩,hk=>by
  obtain⟨a1,a2,a3⟩:=Kd.rgs hkt h2 λq hq=>hk q (List.mem_cons_of_mem _ hq);have hr:=Aco hkt h1 (hk p (List.mem_cons_self ..));refine⟨?_,λx hx=>?_,?_⟩
  ·rw[AeR,AeR,a1,WideElems.rg_of hr]
  ·rcases List.mem_cons.1 hx with rfl | hx
   ·exact⟨_,hr⟩
   ·exact a2 x hx
  ·rw[AeR,AeR,a3,h1]
theorem AaU {P:Program}{k:TypeId}(hkt:P.underlying k=some .string){w:World}{Z:Fz}{b:Nat}{m:List (Af×Rp)}{es:Array MapEntry}{ck:Nat}(hb:w.heap[b]? =some (.map es ck))(hm:GG Z m es.toList ck)(hk:∀p∈m,p.1.length≤maxLen)(hsz:m.length≤maxLen) :
  ∃D0:DataW Unit,w.ownsMap P k RU b es.size D0∧(strKeys D0).Perm (m.map (·.1))∧Maps.size D0=m.length:=by
 obtain⟨h1,h2,h3,f,h4,h5⟩:=hm;obtain⟨a1,a2,a3⟩:=Kd.rgs hkt h5 λp hp=>hk p (h4.subset hp);have hlen:es.size=m.length:=by
  have e:=congrArg List.length a3;simp only[Aey,Array.length_toList] at e;rw[e];exact h4.length_eq
 have hkey:es.toList.Pairwise (λx y=>x.key≠y.key):=by
  have e:(es.toList.map (·.key)).Nodup:=by
   rw[a3];have hf:(f.map (·.1)).Nodup:=(h4.map _).nodup_iff.2 h1;have:f.map (λp=>Value.string (B p.1))=(f.map (·.1)).map λs=>Value.string (B s):=by rw[Aff];rfl
   rw[this];refine List.Pairwise.map _ (λx y hxy e=>hxy ?_) hf;simp[B] at e;exact e
  exact List.pairwise_map.1 e
 refine⟨.map ((es.toList.map (WideElems.rg P k RU)).foldr DataW.insert []),⟨es,ck,hb,⟨by rw[hlen];exact hsz,(MapKept.stamped_iff es ck).2 ⟨h3,h2,hkey⟩,a2⟩,AeA _,rfl⟩,?_,?_⟩
 ·show(((es.toList.map (WideElems.rg P k RU)).foldr DataW.insert []).map λp=>strOf p.1).Perm _;rw[a1];refine((WideShapes.sorted_perm _).map _).trans ?_;rw[Aff];exact h4.map _
 ·show((es.toList.map (WideElems.rg P k RU)).foldr DataW.insert []).length=_;rw[length_sorted,Aey,Array.length_toList,hlen]
theorem Uk {w:World}{a b:Nat}{e:TypeId}{sz n:Nat}{v:Value}{us:List Value}(h:w.ownsRow a e sz v n us)(hb:b≤a):w.ownsRow b e sz v n us:=by
 refine⟨h.1,?_⟩;rcases h.2 with hn | ⟨g,cap,cur,rfl,hg,rest⟩
 ·exact .inl hn
 ·exact .inr ⟨g,cap,cur,rfl,Nat.le_trans hb hg,rest⟩
theorem SF {w:World}{a:Nat}{e:TypeId}{sz n:Nat}{v:Value}{us:List Value}(h:w.ownsRow a e sz v n us):∀k∈v.ownBlock.toList,a≤k:=by
 rcases h.2 with⟨rfl,_⟩ | ⟨g,cap,cur,rfl,hg,rest⟩
 ·intro k hk;simp[Value.ownBlock] at hk
 ·intro k hk;simp[Value.ownBlock] at hk;omega
theorem St.newrow {c:Cx}{H:List Ent}{Z:Fz}{w w':World}(h:St c H Z w)(hb:Below w.heap.size w w'){v:Value}{e:TypeId}{ys:List Af}(hr:w'.ownsRow w.heap.size e 1 v ys.length (ys.map Go.Proofs.encStr)):St c (.row v e 1 (ys.map eS)::H) Z w':=by
 refine h.add hb.os hb.tape hb.output hb.size (λk hk=>hb.block k hk) ⟨λc hc=>?_,ys.map Go.Proofs.encStr,?_,?_⟩ (λk hk=>SF hr k hk)
 ·obtain⟨y,_,rfl⟩:=List.mem_map.1 hc;rfl
 ·rw[Aey];exact Uk hr (AeL _)
 ·clear hr
  induction ys with
  | nil=>exact trivial
  | cons y r ih=>exact⟨by show Go.Proofs.encStr y=Value.string (B y);rfl,ih⟩
end Go.Proofs.YtjfnokmpfekniaaGreatDoor.Q
namespace Go.Proofs.YtjfnokmpfekniaaGreatDoor
open Go
set_option linter.unusedVariables false
structure Ae where
 fKey:Af
 fDelete:Bool
 fValue:(List Aa)
 fIfVersion:Int
 deriving DecidableEq,Inhabited
structure Ah where
 fKey:Af
 fValue:(List Aa)
 fVersion:Int
 deriving DecidableEq,Inhabited
structure AR where
 fItems:(List (Af×Ah))
 fChanged:(List (Af×Ah))
 deriving DecidableEq,Inhabited
def Nr (ys:(List Aa)):Option ((List Aa)):=
 AQ (Dw 40 (([]:List Aa).length+ys.length))<|some (([]:List Aa)++ys)
def Ru (c:Int):Option (Bool):=
 some ((decide (97≤c))&&(decide (c≤122)))
def Oy (c:Int):Option (Bool):=
 some ((decide (48≤c))&&(decide (c≤57)))
def C5 (ha:Bool):Option (Bool):=
 some ha
def Rv (c:Int):Option (Bool):=
 Br (Ru c) λha=>Bi (ha) (C5 true) (Bi (decide (65≤c)) (Bi (decide (c≤90)) (C5 true) (Br (Oy c) λhb=>Bi (hb) (C5 true) (Bi (decide (c=45)) (C5 true) (Bi (decide (c=95)) (C5 true) (Bi (decide (c=46)) (C5 true) (Bi (decide (c=58)) (C5 true) (C5 (decide (c=47))))))))) (Br (Oy c) λhd=>Bi (hd) (C5 true) (Bi (decide (c=45)) (C5 true) (Bi (decide (c=95)) (C5 true) (Bi (decide (c=46)) (C5 true) (Bi (decide (c=58)) (C5 true) (C5 (decide (c=47)))))))))
def HP (s:Af)(ha:Int):Option (Stp (Int) (Out (Bool) (Unit))):=
 Bi (decide (ha<(s.length:Int))) (AQ (Cw ha (s.length:Int))<|Br (Rv (AM s ha)) λhb=>Bi (!hb) (some (.out (.ret false))) (AQ (Bs .i64 (ha+1))<|some (.next (ha+1)))) (some (.out (.go ())))
def Ox :Option (Bool):=
 some true
def Zv (F:Nat)(s:Af):Option (Bool):=
 Bi (((decide ((s.length:Int)<1))||(decide (64<(s.length:Int))))) (some false) (Br (BJ (λσ=>HP s σ) F 0) (BE λν=>Ox ))
def JF (F:Nat)(c:Ae):Option (Int):=
 Bi (!(Rr c.fKey)) (some 4) (Bi (((decide (c.fIfVersion<(-1)))||(decide (1000000000000<c.fIfVersion)))) (some 2) (Bi ((c.fDelete&&(decide (0<(c.fValue.length:Int))))) (some 7) (Bi (c.fDelete) (some 0) (Br (L0 F c.fValue) λha=>some ha))))
def D1 (F:Nat)(l:(List Ae))(ha:Int):Option (Stp (Int) (Out (Int) (Unit))):=
 Bi (decide (ha<(l.length:Int))) (AQ (Cw ha (l.length:Int))<|Br (JF F (Aq l ha)) λhb=>Bi (!decide (hb=0)) (some (.out (.ret hb))) (AQ (Bs .i64 (ha+1))<|some (.next (ha+1)))) (some (.out (.go ())))
def KU :Option (Int):=
 some 0
def It (F:Nat)(l:(List Ae)):Option (Int):=
 Bi (decide (256<(l.length:Int))) (some 3) (Br (BJ (λσ=>D1 F l σ) F 0) (BE λν=>KU ))
def Zi :Option (AR):=
 some (AR.mk ([]:List (Af×Ah)) ([]:List (Af×Ah)))
def Ls (q:AR):Option (Bool×AR):=
 some (true,q)
def Zg (q:AR)(key:Af):Option (Ah×AR):=
 Bi (CG q.fChanged key) (some ((CL q.fChanged key (Ah.mk ([]:Af) ([]:(List Aa)) 0)),q)) (some ((CL q.fItems key (Ah.mk ([]:Af) ([]:(List Aa)) 0)),q))
def GW (c:Ae)(r2:Ah×AR)(ha:Int):Option (Int×Int×AR):=
 Br (Nr c.fValue) λhb=>AQ (Bs .i64 (r2.1.fVersion+1))<|some (ha,0,(AR.mk r2.2.fItems (mset r2.2.fChanged c.fKey (Ah.mk c.fKey hb (r2.1.fVersion+1)))))
def KV (q:AR)(c:Ae)(size:Int):Option (Int×Int×AR):=
 Br (Zg q c.fKey) λr2=>Bi (((decide (0≤c.fIfVersion))&&(!decide (c.fIfVersion=r2.1.fVersion)))) (some (0,19,r2.2)) (Bi (c.fDelete) (Bi (decide (0<r2.1.fVersion)) (AQ (Bs .i64 (size-1))<|some (size-1,0,(AR.mk r2.2.fItems (mset r2.2.fChanged c.fKey (Ah.mk ([]:Af) ([]:List Aa) 0))))) (some (size,0,(AR.mk r2.2.fItems (mset r2.2.fChanged c.fKey (Ah.mk ([]:Af) ([]:List Aa) 0)))))) (Bi (((decide (r2.1.fVersion=0))&&(decide (256≤size)))) (some (0,3,r2.2)) (Bi (decide (1000000000000≤r2.1.fVersion)) (some (0,8,r2.2)) (Bi (decide (r2.1.fVersion=0)) (AQ (Bs .i64 (size+1))<|GW c r2 (size+1)) (GW c r2 size)))))
def Ia (ha:Af)(hb:Ah)(hd:(List (Af×Ah))):Option (Stp ((List (Af×Ah))) (Out (Int×AR) ((List (Af×Ah))))):=
 Bi (decide (hb.fVersion=0)) (some (.next (mdel hd ha))) (some (.next (mset hd ha hb)))
def HZ (ha:(List (Af×Ah)))(hb:(List (Af×Ah))):Option (Int×AR):=
 some (0,(AR.mk hb ha))
def EQ (l:(List Ae))(hf:Int)(hb:Int)(hd:(List (Af×Ah)))(he:(List (Af×Ah))):Option (Stp (Int×Int×(List (Af×Ah))×(List (Af×Ah))) (Out (Int×AR) ((List (Af×Ah))×(List (Af×Ah))))):=
 Bi (decide (hb<(l.length:Int))) (AQ (Cw hb (l.length:Int))<|Br (KV (AR.mk hd he) (Aq l hb) hf) λha=>Bi (!decide (ha.2.1=0)) (some (.out (.ret (ha.2.1,ha.2.2)))) (AQ (Bs .i64 (hb+1))<|some (.next (ha.1,hb+1,ha.2.2.fItems,ha.2.2.fChanged)))) (some (.out (.go (hd,he))))
def GX (hb:(List (Af×Ah)))(ha:(List (Af×Ah))):Option (Int×AR):=
 YN ha λord=>Br (WJ (λp τ=>Ia p.1 p.2 τ) ord hb) (BE λν=>HZ ha ν)
def Hx (F:Nat)(q:AR)(l:(List Ae)):Option (Int×AR):=
 Br (Ls q) λr1=>Bi (!r1.1) (some (10,r1.2)) (Br (It F l) λr7=>Bi (!decide (r7=0)) (some (r7,r1.2)) (Br (BJ (λσ=>EQ l σ.1 σ.2.1 σ.2.2.1 σ.2.2.2) F ((r1.2.fItems.length:Int),0,r1.2.fItems,([]:List (Af×Ah)))) (BE λν=>GX ν.1 ν.2)))
def WS (x:Ah):Option (Ah):=
 Br (Nr x.fValue) λr3=>some (Ah.mk x.fKey r3 x.fVersion)
def AcD (q:AR)(key:Af):Option (Ah×Bool×AR):=
 Br (Ls q) λr2=>Bi (!r2.1) (some ((Ah.mk ([]:Af) ([]:List Aa) 0),false,r2.2)) (Br (WS (CL r2.2.fItems key (Ah.mk ([]:Af) ([]:(List Aa)) 0))) λr9=>some (r9,CG r2.2.fItems key,r2.2))
def Abq (q:AR):Option (Int×AR):=
 Br (Ls q) λr1=>Bi (!r1.1) (some (0,r1.2)) (some ((r1.2.fItems.length:Int),r1.2))
def Jp (ha:Int)(hb:(List Ah))(hd:Bool):Option (Stp ((List Ah)×Int) (Out ((List Ah)×AR) ((List Ah)))):=
 AQ (Bs .i64 (ha+1))<|some (.next (hb,ha+1))
def Hl (pre:Af)(r1:Bool×AR)(hb:(List Ah))(ha:Int):Option (Stp ((List Ah)×Int) (Out ((List Ah)×AR) ((List Ah)))):=
 Bi (decide (ha<((Dm r1.2.fItems).length:Int))) (AQ (Cw ha ((Dm r1.2.fItems).length:Int))<|Br (ER (Aq (Dm r1.2.fItems) ha) pre) λhd=>Bi (hd) (Br (WS (CL r1.2.fItems (Aq (Dm r1.2.fItems) ha) (Ah.mk ([]:Af) ([]:(List Aa)) 0))) λhe=>AQ (Dw 48 (hb.length+([he]:List Ah).length))<|Jp ha (hb++([he]:List Ah)) hd) (Jp ha hb hd)) (some (.out (.go hb)))
def M3 (r1:Bool×AR)(ha:(List Ah)):Option ((List Ah)×AR):=
 some (ha,r1.2)
def Ti (F:Nat)(q:AR)(pre:Af):Option ((List Ah)×AR):=
 Br (Ls q) λr1=>Bi (!r1.1) (some (([]:List Ah),r1.2)) (AQ (Pq r1.2.fItems)<|Br (BJ (λσ=>Hl pre r1 σ.1 σ.2) F (([]:List Ah),0)) (BE λν=>M3 r1 ν))
end Go.Proofs.YtjfnokmpfekniaaGreatDoor
namespace Go.Proofs.YtjfnokmpfekniaaGreatDoor.Q
open Go Go.RowKit
set_option linter.unusedVariables false
set_option linter.unusedSimpArgs false
theorem MB {q:MapEntry→Bool}:∀{l:List MapEntry} {j:Nat} {e:MapEntry},(l.map (·.born)).Nodup→l[j]? =some e→l.filter (λx=>!(x.born ==e.born))=l.eraseIdx j
 | x::l,0,e,hn,h=>by
  simp at h;subst h;rw[AeR,List.nodup_cons] at hn;rw[List.filter_cons_of_neg (by simp),List.filter_eq_self.2 λy hy=>?_];rfl;have:y.born≠x.born:=λe=>hn.1 (by rw[← e];exact List.mem_map.2 ⟨y,hy,rfl⟩);simp[this]
 | x::l,j+1,e,hn,h=>by
  rw[AeR,List.nodup_cons] at hn;simp at h;have hne:x.born≠e.born:=λe'=>hn.1 (by rw[e'];exact List.mem_map.2 ⟨e,Aet h,rfl⟩);rw[List.filter_cons_of_pos (by simp[hne]),MB (q:=q) hn.2 h];rfl
theorem Kd.erase {Z:Fz}:∀{f:List (List UInt8×Rp)} {es:List MapEntry} (j:Nat),Kd Z f es→Kd Z (f.eraseIdx j) (es.eraseIdx j)
 | [],[],j,_=>by simp[Kd]
 | p::f,e::es,0,⟨_,h⟩=>h
 | p::f,e::es,j+1,⟨h,h3⟩=>⟨h,Kd.erase j h3⟩
theorem Vb {α:Type}:∀{l:List α} {j:Nat} {a:α},l[j]? =some a→l.Perm (a::l.eraseIdx j)
 | x::l,0,a,h=>by simp at h;subst h;exact Ael _
 | x::l,j+1,a,h=>by
  simp at h;exact((Vb h).cons x).trans (List.Perm.swap a x _)
theorem Y1 {T:Type}{enc:T→Rp}{ys:List (Af×T)}{f:List (Af×Rp)}{j:Nat}{k:Af}{r:Rp}(h:f.Perm (Bh enc ys))(hj:f[j]? =some (k,r)):∃ (p:Af×T) (ys':List (Af×T)),ys.Perm (p::ys')∧p.1=k∧enc p.2=r∧(f.eraseIdx j).Perm (Bh enc ys'):=by
 have hm:(k,r)∈Bh enc ys:=h.subset (Aet hj);obtain⟨p,hp,e⟩:=List.mem_map.1 hm;simp only[Prod.mk.injEq] at e;obtain⟨a,b,rfl⟩:=List.append_of_mem hp;refine⟨p,a++b,List.perm_middle,e.1,e.2,?_⟩;have h1:f.Perm ((k,r)::f.eraseIdx j):=by
  exact Vb hj
 have h2:(Bh enc (a++p::b)).Perm ((k,r)::Bh enc (a++b)):=by
  have:(Bh enc (a++p::b)).Perm (Bh enc (p::(a++b))):=List.perm_middle.map _;refine this.trans ?_;show((p.1,enc p.2)::Bh enc (a++b)).Perm _;rw[e.1,e.2]
 exact((h1.symm.trans h).trans h2).cons_inv
section
variable {P : Program} {n : Nat} {c : Cx} {ops : Array Oper} {Q : Exit → Act → World → Prop} {rest : List Oper} {l : Fr} {H : List Ent} {d : Nat} {ty t kt et rty : TypeId} {pos : String} {af : Array Edge} {x y u : Operand} {K : Act → World → Prop} {cx : Code}
variable {T : Type} {enc : T → Rp} {xs ys : List (Af × T)} {i b it : Nat} {m lf : List (List UInt8 × Rp)} {cur : Option (List UInt8 × Rp)} {k : Af} {r : Rp}
theorem Aa5 (ht:P.underlying t=some (.map kt et))(hx:ev l x=some (rv (.map (some b))))(hi:H[i]? =some (.map b m))(hn:Nat.blt d n=true)(h:∀it,WL P n c ops Q rest ((d,rv (.pointer (some ⟨it,0,none⟩)))::l) (H.set i (.mit b it m m none))) :
  WL P n c ops Q ({ dst:=some d,op:=.range t x,type:=ty,pos:=pos,after:=af,guard:=none }::rest) l H:=
 Lg (λa w Z ha hw=>by
  obtain⟨es,ck,h1,h2⟩:=hw.ent hi;have hb:b<w.heap.size:=(Array.getElem?_eq_some_iff.1 h1).1;have hf:es.toList.filter (λe=>!(#[]:Array Nat).contains e.born)=es.toList:=List.filter_eq_self.2 λ_ _=>by simp
  obtain⟨f,h4,h5⟩:=h2.2.2.2;refine⟨.pointer (some ⟨w.heap.size,0,none⟩),w.alloc (.mapIter (some b) ck #[] ck),_,_,Z,?_,Fz.le.refl _,rfl,hw.set hi rfl rfl rfl (by simp) (λk hk _=>Below.heap_alloc w _ k hk) ?_ ?_,h w.heap.size⟩
  ·simp[execOp,ha.eval hx,run_range_map w t kt et b es ck ht h1]
  ·exact⟨es,ck,#[],ck,ck,(Below.heap_alloc w _ b hb).trans h1,by simpa using heap_alloc_new w _,h2,h2.2.2.1,AeA _,AeA _,Nat.ne_of_lt hb,⟨f,h4,by rw[hf];exact h5⟩,trivial⟩
  ·intro k hk;simp only[Ent.foot,Afe,List.not_mem_nil,or_false] at hk;rcases hk with rfl | rfl
   ·exact .inl (by simp[Ent.foot])
   ·exact .inr (AeA _)) hn
theorem Ach (hx:ev l x=some (rv (.pointer (some ⟨it,0,none⟩))))(hi:H[i]? =some (.mit b it m (Bh enc ys) cur))(hn:Nat.blt d n=true)
  (h0:ys=[]→WL P n c ops Q rest ((d,Ct [rB false])::l) H)
  (h1:∀p ys',ys.Perm (p::ys')→WL P n c ops Q rest ((d,Ct [rB true,rS p.1,enc p.2])::l) (H.set i (.mit b it m (Bh enc ys') (some (p.1,enc p.2))))) :
  WL P n c ops Q ({ dst:=some d,op:=.next x false,type:=ty,pos:=pos,after:=af,guard:=none }::rest) l H:=
 Lg (λa w Z ha hw=>by
  obtain⟨es,ck,seen,since,c0,q1,q2,q3,q4,q5,q6,q7,⟨f,q8,q9⟩,_⟩:=hw.ent hi;have hlf:(leftOf es seen).toList=es.toList.filter λe=>!seen.contains e.born:=by simp[leftOf]
  rcases run_next_at (P:=P) w ty it b since c0 seen es ck q2 q1 q4 q5 with⟨r1,r2⟩ | ⟨e,r1,w1,r2,r3⟩
  ·have he:es.toList.filter (λe=>!seen.contains e.born)=[]:=by rw[← hlf];exact AeD (by simpa using r1)
   rw[he] at q9;have hf:f=[]:=by cases f with
    | nil=>rfl
    | cons _ _=>exact absurd q9 id
   subst hf;have hy:ys=[]:=by
    have:=q8.length_eq;rw[I5] at this;exact AeD this.symm
   exact⟨.tuple #[.bool false],w,Ct [rB false],H,Z,by simp[execOp,ha.eval hx,r2],Fz.le.refl _,⟨[.bool false],rfl,rfl,trivial⟩,hw,h0 hy⟩
  ·rw[hlf] at r1;obtain⟨j,hj⟩:=List.mem_iff_getElem?.1 r1;obtain⟨k,r,e1,e2,e3⟩:=q9.at.2 j e hj;obtain⟨p,ys',s1,s2,s3,s4⟩:=Y1 q8 e1;have hnl:((es.toList.filter λe=>!seen.contains e.born).map (·.born)).Nodup:=q3.2.1.sublist ((List.filter_sublist ..).map _);have hleft:es.toList.filter (λx=>!(seen.push e.born).contains x.born)=(es.toList.filter λe=>!seen.contains e.born).eraseIdx j:=by
    rw[← MB (q:=λ_=>true) hnl hj,List.filter_filter];refine List.filter_congr λx _=>?_;simp only[Array.contains_push,Bool.not_or];rw[Bool.and_comm]
   have hd:St c H Z w1:=by
    rcases r2 with rfl | rfl
    ·exact hw
    ·exact hw.drawn _
   have q2':w1.heap[it]? =some (.mapIter (some b) since seen c0):=by rcases r2 with rfl | rfl<;>exact q2
   have q1':w1.heap[b]? =some (.map es ck):=by rcases r2 with rfl | rfl<;>exact q1
   obtain⟨t1,t2⟩:=MapKept.heap_set (o':=.mapIter (some b) since (seen.push e.born) ck) q2';refine⟨.tuple #[.bool true,e.key,e.val],ChangeMaps.setBlock w1 it (.mapIter (some b) since (seen.push e.born) ck),Ct [rB true,rS p.1,enc p.2],H.set i (.mit b it m (Bh enc ys') (some (p.1,enc p.2))),Z,by simp[execOp,ha.eval hx,r3],Fz.le.refl _,⟨[.bool true,e.key,e.val],rfl,rfl,?_,?_,trivial⟩,hd.set hi rfl rfl rfl (by simp[ChangeMaps.setBlock]) (λk' _ hk'=>t2 k' (λe'=>hk' (by simp[Ent.foot,e']))) ?_ (λk' hk'=>.inl (by simpa[Ent.foot] using hk')),h1 p ys' s1⟩
   ·show e.key = .string (B p.1);rw[s2];exact e2
   ·rw[s3];exact e3
   ·exact⟨es,ck,seen.push e.born,since,ck,(t2 b q7).trans q1',t1,q3,q4,Nat.le_trans q5 q6,AeA _,q7,⟨f.eraseIdx j,s4,by rw[hleft];exact q9.erase j⟩,rfl,seen,e,rfl,(List.mem_filter.1 r1).1,by rw[s2];exact e2,by rw[s3];exact e3⟩) hn
theorem St.unmit {Z:Fz}{w:World}(h:St c H Z w)(hi:H[i]? =some (.mit b it m lf cur)):St c (H.set i (.map b m)) Z w:=by
 obtain⟨es,ck,seen,since,c0,q1,q2,q3,_⟩:=h.ent hi;exact h.set hi rfl rfl rfl (AeA _) (λ_ _ _=>rfl) ⟨es,ck,q1,q3⟩ (by simp[Ent.foot])
theorem WK.unmit (hi:H[i]? =some (.mit b it m lf cur))(h:WK n c K l (H.set i (.map b m))):WK n c K l H:=λa w Z ha hw=>h a w Z ha (hw.unmit hi)
theorem WC.unmit (hi:H[i]? =some (.mit b it m lf cur))(h:WC P n c cx Q l (H.set i (.map b m))):WC P n c cx Q l H:=λa w Z ha hw=>h a w Z ha (hw.unmit hi)
theorem WL.unmit (hi:H[i]? =some (.mit b it m lf cur))(h:WL P n c ops Q rest l (H.set i (.map b m))):WL P n c ops Q rest l H:=λa w Z ha hw=>h a w Z ha (hw.unmit hi)
theorem St.uncur {Z:Fz}{w:World}(h:St c H Z w)(hi:H[i]? =some (.mit b it m lf cur)):St c (H.set i (.mit b it m lf none)) Z w:=by
 obtain⟨es,ck,seen,since,c0,q1,q2,q3,q4,q5,q6,q7,q8,_⟩:=h.ent hi;exact h.set hi rfl rfl rfl (AeA _) (λ_ _ _=>rfl) ⟨es,ck,seen,since,c0,q1,q2,q3,q4,q5,q6,q7,q8,trivial⟩ (λk hk=>.inl (by simpa[Ent.foot] using hk))
theorem WK.uncur (hi:H[i]? =some (.mit b it m lf cur))(h:WK n c K l (H.set i (.mit b it m lf none))):WK n c K l H:=λa w Z ha hw=>h a w Z ha (hw.uncur hi)
theorem Abc {dd:Option Nat}{g:Option (Nat×Bool)}(hx:ev l x=some (rv (.pointer (some ⟨it,0,none⟩))))(hi:H[i]? =some (.mit b it m lf (some (k,r)))) :
  Bx P n c l H { dst:=dd,op:=.entry x,type:=ty,pos:=pos,after:=af,guard:=g } (Ct [rS k,r]):=λa w Z ha hw=>by
 obtain⟨es,ck,seen,since,c0,q1,q2,q3,q4,q5,q6,q7,q8,rfl,s0,e,rfl,h1,h2,h3⟩:=hw.ent hi;exact⟨.tuple #[e.key,e.val],⟨[e.key,e.val],rfl,h2,h3,trivial⟩,by simp[execOp,ha.eval hx,run_entry_at w it b since s0 es c0 e q2 q1 h1 q3.2.1]⟩
end
section
variable {P : Program} {n : Nat} {c : Cx} {opsA : Array Oper} {Q : Exit → Act → World → Prop} {l : Fr} {H : List Ent} {d : Nat} {ty : TypeId} {pos : String} {af : Array Edge}
end
section
variable {P : Program} {n : Nat} {c : Cx} {ops : Array Oper} {Q : Exit → Act → World → Prop} {rest : List Oper} {l : Fr} {H H' : List Ent} {d : Nat} {d' : Option Nat} {x y z3 : Operand} {ty t t' e : TypeId} {pos : String} {af : Array Edge} {g : Option (Nat × Bool)} {v u : Value} {r : Rp} {sz : Nat}
theorem Pe {α:Type}{ys:List α}{enc:α→List Rp}{k':IntKind}{j:Int}(ht:P.underlying t=some (.slice e))(hz:∀w,(sizeOf e).run P w = .ok sz w)(h:ev l x=some (AX sz (ys.map enc)))(hj:ev l z3=some (rI k' j))(hg2:Gr j (ys.length:Int)=true) :
  Bx P n c l H { dst:=d',op:=.slice t x none (some z3) none,type:=ty,pos:=pos,after:=af,guard:=g } (AX sz ((ys.take j.toNat).map enc)):=λa w Z ha hw=>by
 obtain⟨A,cap,e1,hc1,hc2,hA,hc⟩:=ha.ev h;have h2:=(DA hg2).2;have hj0:0≤j:=(DA hg2).1;simp only[Aey] at e1 hc1;have h3:j≤(cap:Int):=by omega
 refine⟨.slice (if cap=0 then A else A.map (·.add (0*sz))) j.toNat cap,⟨if cap=0 then A else A.map (·.add (0*sz)),cap,?_,?_,by omega,?_,λq cl hq=>?_⟩,by simp[execOp,e1,ha.eval hj,Instr.sliceAt,Instr.slice,run_underlying ht,Instr.sliceBounds,BG (m:=cap) _ _ hj0 h3,hz]⟩
 ·congr 1
  simp;omega
 ·simp;omega
 ·intro hn
  split at hn
  ·have:=hA hn;omega
  ·have:=hA (by simpa using hn);omega
 ·rw[AeQ] at hq
  cases hq':(List.take j.toNat ys)[q]? with
  | none=>rw[hq'] at hq;cases hq
  | some yy=>
   rw[hq'] at hq;simp only[Option.map_some,Option.some.injEq] at hq;subst hq;rw[AeV] at hq'
   split at hq'
   ·rename_i hlt
    obtain⟨hl,ad,rfl,hs,hcs⟩:=hc q (enc yy) (by simp[hq']);obtain⟨b,off,spot⟩:=ad;simp only at hs;subst hs;have hne : ¬ cap=0:=by omega
    refine⟨hl,⟨b,off+0*sz,none⟩,by simp[hne,JJ],rfl,λq' r' hr'=>?_⟩;obtain⟨u,hu,hp⟩:=hcs q' r' hr';refine⟨u,?_,hp⟩;have:off+0*sz+(q*sz+q')=off+(q*sz+q'):=by omega
    simp only;rw[this];exact hu
   ·cases hq'
theorem Abd {xs:List Int}(hs:P.underlying t=some (.slice e))(hd:P.underlying t'=some .string)(he:P.underlying e=some (.int .u8))(hx:ev l x=some (AX 1 (xs.map Bz))) :
  Bx P n c l H { dst:=d',op:=.convert t t' x,type:=ty,pos:=pos,after:=af,guard:=g } (rS (Nd xs)):=λa w Z ha hw=>by
 obtain⟨us,h3,h4⟩:=Id.z (P:=P) (ys:=xs) (enc:=Bz) hx rfl a w Z ha hw;rw[T1] at h3;have e2:=B1.eq_rv h3;subst e2;refine⟨.string (B (Nd xs)),rfl,?_⟩;obtain⟨_,h2⟩:=h4;rcases h2 with⟨hv,hz⟩ | ⟨b,cap,hv,hcell⟩
 ·have hx0:xs=[]:=AeD hz;subst hx0;have:=run_convert_bytes_string w t t' e none 0 0 hs he hd;simp only[execOp,hv];have e3:(Conv.bytesToString (.slice none 0 0)).run P w = .ok (.string (B [])) w:=rfl;rw[e3] at this;simp[this,Nd]
 ·have hld:=run_loadCells_list (P:=P) w b (xs.map λc=>Value.int .u8 c) hcell;rw[Aey] at hld;have h4:=run_bytesToString w b xs.length cap xs hld;have h5:=run_convert_bytes_string w t t' e (some b) xs.length cap hs he hd;have h6:=Z8 xs [];rw[h4,show ByteArray.empty=B [] from rfl,h6] at h5;simp[execOp,hv,h5]
end
end Go.Proofs.YtjfnokmpfekniaaGreatDoor.Q
namespace Go.Proofs
open Go.Shelf
def Tryz.sort62_ren:Go.Shelf.Ren:=⟨fun | 6=>62 | 8=>86 | 9=>85 | 19=>118 | 20=>119 | 21=>109 | 22=>110 | 23=>111 | 24=>112 | 25=>113 | 26=>114 | 27=>115 | 28=>116 | 29=>117 | 36=>148 | 31=>149 | 32=>150 | 37=>151 | 38=>152 | 39=>153 | 41=>165 | n=>n,fun | 27=>51 | 29=>9 | 3=>3 | 32=>109 | 26=>51 | 0=>0 | 44=>116 | 46=>145 | 4=>4 | 36=>138 | 35=>137 | 41=>68 | 5=>5 | 9=>9 | 53=>171 | 57=>175 | 63=>185 | 64=>186 | n=>n,fun | n=>n⟩
theorem Tryz.sort62:Go.Proofs.SlLaysM.n6 Tryz.prog Tryz.sort62_ren:={
 mixed:=by kernel_rfl
 f6:=⟨Tryz.f62.name,by decide,Tryz.func62.trans (congrArg some (by kernel_rfl))⟩
 f8:=Tryz.func86.trans (congrArg some (by kernel_rfl))
 f9:=⟨Tryz.f85.name,by decide,Tryz.func85.trans (congrArg some (by kernel_rfl))⟩
 f19:=Tryz.func118.trans (congrArg some (by kernel_rfl))
 f20:=Tryz.func119.trans (congrArg some (by kernel_rfl))
 f21:=⟨Tryz.f109.name,by decide,Tryz.func109.trans (congrArg some (by kernel_rfl))⟩
 f22:=⟨Tryz.f110.name,by decide,Tryz.func110.trans (congrArg some (by kernel_rfl))⟩
 f23:=⟨Tryz.f111.name,by decide,Tryz.func111.trans (congrArg some (by kernel_rfl))⟩
 f24:=⟨Tryz.f112.name,by decide,Tryz.func112.trans (congrArg some (by kernel_rfl))⟩
 f25:=⟨Tryz.f113.name,by decide,Tryz.func113.trans (congrArg some (by kernel_rfl))⟩
 f26:=⟨Tryz.f114.name,by decide,Tryz.func114.trans (congrArg some (by kernel_rfl))⟩
 f27:=⟨Tryz.f115.name,by decide,Tryz.func115.trans (congrArg some (by kernel_rfl))⟩
 f28:=⟨Tryz.f116.name,by decide,Tryz.func116.trans (congrArg some (by kernel_rfl))⟩
 f29:=⟨Tryz.f117.name,by decide,Tryz.func117.trans (congrArg some (by kernel_rfl))⟩
 f31:=Tryz.func149.trans (congrArg some (by kernel_rfl))
 f32:=Tryz.func150.trans (congrArg some (by kernel_rfl))
 f36:=⟨Tryz.f148.name,by decide,Tryz.func148.trans (congrArg some (by kernel_rfl))⟩
 f37:=⟨Tryz.f151.name,by decide,Tryz.func151.trans (congrArg some (by kernel_rfl))⟩
 f38:=⟨Tryz.f152.name,by decide,Tryz.func152.trans (congrArg some (by kernel_rfl))⟩
 f39:=⟨Tryz.f153.name,by decide,Tryz.func153.trans (congrArg some (by kernel_rfl))⟩
 f41:=⟨Tryz.f165.name,by decide,Tryz.func165.trans (congrArg some (by kernel_rfl))⟩
 t0:=Tryz.underlying0
 a0:=Tryz.isAgg0
 z0:=Tryz.sizeOf0
 v0:=Tryz.zeroValue0
 t3:=Tryz.underlying3
 a3:=Tryz.isAgg3
 z3:=Tryz.sizeOf3
 v3:=Tryz.zeroValue3
 t4:=Tryz.underlying4
 a4:=Tryz.isAgg4
 z4:=Tryz.sizeOf4
 v4:=Tryz.zeroValue4
 t5:=Tryz.underlying5
 a5:=Tryz.isAgg5
 z5:=Tryz.sizeOf5
 v5:=Tryz.zeroValue5
 t9:=Tryz.underlying9
 a9:=Tryz.isAgg9
 z9:=Tryz.sizeOf9
 v9:=Tryz.zeroValue9
 t26:=Tryz.underlying51
 a26:=Tryz.isAgg51
 z26:=Tryz.sizeOf51
 v26:=Tryz.zeroValue51
 t27:=Tryz.underlying51
 a27:=Tryz.isAgg51
 z27:=Tryz.sizeOf51
 v27:=Tryz.zeroValue51
 t29:=Tryz.underlying9
 a29:=Tryz.isAgg9
 z29:=Tryz.sizeOf9
 v29:=Tryz.zeroValue9
 t32:=Tryz.underlying109
 a32:=Tryz.isAgg109
 z32:=Tryz.sizeOf109
 v32:=Tryz.zeroValue109
 t35:=Tryz.underlying137
 a35:=Tryz.isAgg137
 z35:=Tryz.sizeOf137
 v35:=Tryz.zeroValue137
 t36:=Tryz.underlying138
 a36:=Tryz.isAgg138
 z36:=Tryz.sizeOf138
 v36:=Tryz.zeroValue138
 t41:=Tryz.underlying68
 a41:=Tryz.isAgg68
 z41:=Tryz.sizeOf68
 v41:=Tryz.zeroValue68
 t44:=Tryz.underlying116
 a44:=Tryz.isAgg116
 z44:=Tryz.sizeOf116
 v44:=Tryz.zeroValue116
 t46:=Tryz.underlying145
 a46:=Tryz.isAgg145
 z46:=Tryz.sizeOf145
 v46:=Tryz.zeroValue145
 t53:=Tryz.underlying171
 a53:=Tryz.isAgg171
 z53:=Tryz.sizeOf171
 v53:=Tryz.zeroValue171
 t57:=Tryz.underlying175
 a57:=Tryz.isAgg175
 z57:=Tryz.sizeOf175
 v57:=Tryz.zeroValue175
 t63:=Tryz.underlying185
 a63:=Tryz.isAgg185
 z63:=Tryz.sizeOf185
 v63:=Tryz.zeroValue185
 t64:=Tryz.underlying186
 a64:=Tryz.isAgg186
 z64:=Tryz.sizeOf186
 v64:=Tryz.zeroValue186 }
def Tryz.sorted42_ren:Go.Shelf.Ren:=⟨fun | 6=>42 | 8=>61 | 9=>62 | 11=>84 | 13=>86 | 12=>85 | 23=>118 | 24=>119 | 14=>109 | 15=>110 | 16=>111 | 17=>112 | 18=>113 | 19=>114 | 20=>115 | 21=>116 | 22=>117 | 25=>148 | 26=>149 | 27=>150 | 28=>151 | 29=>152 | 30=>153 | 31=>165 | n=>n,fun | 26=>9 | 28=>73 | 24=>51 | 0=>0 | 3=>3 | 37=>109 | 48=>116 | 50=>145 | 4=>4 | 40=>138 | 39=>137 | 45=>68 | 5=>5 | 9=>9 | 51=>171 | 55=>175 | 57=>185 | 58=>186 | 33=>89 | n=>n,fun | n=>n⟩
theorem Tryz.sorted42:Go.Proofs.SlLaysZ.n6 Tryz.prog Tryz.sorted42_ren:={
 mixed:=by kernel_rfl
 f6:=⟨Tryz.f42.name,by decide,Tryz.func42.trans (congrArg some (by kernel_rfl))⟩
 f8:=⟨Tryz.f61.name,by decide,Tryz.func61.trans (congrArg some (by kernel_rfl))⟩
 f11:=⟨Tryz.f84.name,by decide,Tryz.func84.trans (congrArg some (by kernel_rfl))⟩
 t0:=Tryz.underlying0
 a0:=Tryz.isAgg0
 z0:=Tryz.sizeOf0
 v0:=Tryz.zeroValue0
 t24:=Tryz.underlying51
 a24:=Tryz.isAgg51
 z24:=Tryz.sizeOf51
 v24:=Tryz.zeroValue51
 t26:=Tryz.underlying9
 a26:=Tryz.isAgg9
 z26:=Tryz.sizeOf9
 v26:=Tryz.zeroValue9
 t28:=Tryz.underlying73
 a28:=Tryz.isAgg73
 z28:=Tryz.sizeOf73
 v28:=Tryz.zeroValue73
 i26:=by kernel_rfl }
def Tryz.keys43_ren:Go.Shelf.Ren:=⟨fun | 7=>43 | 10=>63 | n=>n,fun | 23=>57 | 26=>9 | 3=>35 | 28=>73 | 0=>0 | 27=>72 | 33=>89 | 4=>4 | n=>n,fun | n=>n⟩
theorem Tryz.keys43:Go.Proofs.SlLaysZ.n7 Tryz.prog Tryz.keys43_ren:={
 mixed:=by kernel_rfl
 f7:=⟨Tryz.f43.name,by decide,Tryz.func43.trans (congrArg some (by kernel_rfl))⟩
 f10:=⟨Tryz.f63.name,by decide,Tryz.func63.trans (congrArg some (by kernel_rfl))⟩
 t0:=Tryz.underlying0
 a0:=Tryz.isAgg0
 z0:=Tryz.sizeOf0
 v0:=Tryz.zeroValue0
 t4:=Tryz.underlying4
 a4:=Tryz.isAgg4
 z4:=Tryz.sizeOf4
 v4:=Tryz.zeroValue4
 t23:=Tryz.underlying57
 a23:=Tryz.isAgg57
 z23:=Tryz.sizeOf57
 v23:=Tryz.zeroValue57
 t26:=Tryz.underlying9
 a26:=Tryz.isAgg9
 z26:=Tryz.sizeOf9
 v26:=Tryz.zeroValue9
 t27:=Tryz.underlying72
 a27:=Tryz.isAgg72
 z27:=Tryz.sizeOf72
 v27:=Tryz.zeroValue72
 t28:=Tryz.underlying73
 a28:=Tryz.isAgg73
 z28:=Tryz.sizeOf73
 v28:=Tryz.zeroValue73
 t33:=Tryz.underlying89
 a33:=Tryz.isAgg89
 z33:=Tryz.sizeOf89
 v33:=Tryz.zeroValue89 }
end Go.Proofs
namespace Go.Proofs.YtjfnokmpfekniaaGreatDoor.Q
open Go Go.RowKit Go.Maps Go.Sort Go.Shelf Go.Proofs
set_option linter.unusedVariables false
set_option maxHeartbeats 1000000
theorem TU {Z:Fz}{v:Value}{vs:List Value}(h:B1 Z [rv v] vs):vs=[v]:=B1.eq_rv (us:=[v]) h
theorem WF {T:Type}(enc:T→Rp)(xs:List (Af×T)):(Bh enc xs).map (·.1)=xs.map (·.1):=by simp[Bh]
theorem Uq (b:Nat):Fn Tryz.prog GE 43 [rv (.map (some b))] [] (λR H=>∃k:Nat,R=rv (.func (.func 63) #[] #[.pointer (some ⟨k,0,none⟩)])∧H=[.blk k [rv (.map (some b))] 57]):=λw Z vs hv hs=>by
 have e:=TU hv;subst e;have hc:Calls Tryz.prog 43 #[.map (some b)] w (λe w'=>e = .returned (.func (.func 63) #[] #[.pointer (some ⟨w.heap.size,0,none⟩)])∧w'=w.alloc (.cells #[.map (some b)] 57)):=callsIn_wide.1 (AnyZ.keys_in Tryz.keys43 Fence.wide 5 trivial rfl (some b) w);refine hc.mono ?_;rintro e w' ⟨rfl,rfl⟩;exact⟨_,_,_,Z,rfl,⟨w.heap.size,rfl,rfl⟩,rfl,hs.alloc _ ⟨[.map (some b)],by simpa using heap_alloc_new w _,rfl,trivial⟩ rfl⟩
theorem TS (m:Nat):AnyZ.SortsIn Tryz.prog Tryz.sorted42_ren Fence.wide m:=
  ⟨λblk off cap ss W hH hblk hsz=>callsIn_wide.2 (AnyM.slices_Sort_string Tryz.sort62 blk off cap ss W hH hblk hsz),
   λp cap W=>callsIn_wide.2 (AnyM.slices_Sort_string_none Tryz.sort62 p cap W)⟩
theorem Sg {T:Type}(enc:T→Rp)(xs:List (Af×T))(k b:Nat)(hk:Pq xs=true):Fn Tryz.prog GE 42 [rv (.func (.func 63) #[] #[.pointer (some ⟨k,0,none⟩)])] [.blk k [rv (.map (some b))] 57,.map b (Bh enc xs)] (λR H=>∃v:Value,R=rv v∧H=[.row v 9 1 ((Dm xs).map eS),.blk k [rv (.map (some b))] 57,.map b (Bh enc xs)]):=λw Z vs hv hs=>by
 have e:=TU hv;subst e;obtain⟨us,h1,h2⟩:=hs.ent (i:=0) rfl;have e2:=TU h2;subst e2;obtain⟨es,ck,h3,h4⟩:=hs.ent (i:=1) rfl;unfold Pq at hk;simp only[Aej,Aed,AeI] at hk;have hlen:(Bh enc xs).length=xs.length:=I5 enc xs;have hkl:∀p∈Bh enc xs,p.1.length≤maxLen:=λp hp=>by
  obtain⟨y,hy,rfl⟩:=List.mem_map.1 hp;have:=hk.2 y hy;have e:maxLen=9223372036854775807:=rfl;rw[e];simpa[okS] using this
 obtain⟨D0,d1,d2,d3⟩:=AaU (k:=9) Tryz.underlying9 h3 h4 hkl (by rw[hlen];have:=hk.1;have e:maxLen=9223372036854775807:=rfl;omega);have hkb:k<w.heap.size:=(Array.getElem?_eq_some_iff.1 h1).1;have hcell:w.cell? ⟨k,0,none⟩=some (.map (some b)):=by simp[World.cell?,h1]
 have hseq:SeqGives Fence.wide 2 Tryz.prog 63 #[.pointer (some ⟨k,0,none⟩)] encStr (λss=>ss.Perm (strKeys D0)) (Maps.size D0) w:=
  AnyZ.keys_gives (ρ:=Tryz.keys43_ren) { Tryz.keys43 with } Fence.wide _ trivial rfl (by omega) k b es.size D0 w hkb hcell d1
 have hc:=AnyZ.sorted_in Tryz.sorted42 Fence.wide 5 trivial trivial trivial trivial rfl (by omega) (TS _) (enters_of Tryz.func62 (by kernel_rfl) rfl) 63 #[.pointer (some ⟨k,0,none⟩)] trivial (enters_of Tryz.func63 (by kernel_rfl) rfl) _ (Maps.size D0) (by rw[d3,hlen];have:=hk.1;have e:maxLen=9223372036854775807:=rfl;omega) (by rw[d3,hlen];exact hk.1) w hseq;refine(callsIn_wide.1 hc).mono ?_;rintro e w' ⟨v,ss,rfl,hS,hrow,hnil,hb⟩;have hp:ss.Perm (xs.map (·.1)):=hS.trans (by rw[← WF enc xs];exact d2);have e1:ss.mergeSort (λx y=>decide (x≤y))=Dm xs:=mergeSort_of_perm hp;have e3:ss.length=(Dm xs).length:=by rw[← e1,List.length_mergeSort]
 rw[e1,e3] at hrow;exact⟨_,v,_,Z,rfl,⟨v,rfl,rfl⟩,rfl,hs.newrow hb hrow⟩
end Go.Proofs.YtjfnokmpfekniaaGreatDoor.Q
