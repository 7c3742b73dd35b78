/-
  Texts of the proof, put together: WVb, PVc, WVc, PVd, WVd, PVe, WVe, PVf, WVf, PM, PH, PHa, QH, QY, Q7, QU, QT, QN, QM, QI, QW, QV, QJ, QX, QL, PI, QF, Q6, Q9, Qg.
-/
import Derived.Test.YtmjlemhondjfhaaGreatDoorHA2
import Derived.Laws.StructEq
import GoSem.Op.IntBits
import GoSem.Op.Shift
import Derived.Laws.Cover3
import Derived.MapKept
import Derived.Maps.RangeRun
import Derived.ScopeJumps
import Derived.Laws.CopyRow
import Derived.Laws.IdiomCopy
import Derived.Laws.OwnMore
import Derived.Laws.IdiomStrings
namespace Go.Proofs.YtmjlemhondjfhaaGreatDoor.Q
open Go Go.RowKit
set_option linter.unusedVariables false
set_option linter.unusedSimpArgs false
set_option maxRecDepth 100000
set_option maxHeartbeats 4000000
@[reducible] def AN (x:AF):List Rp:=[rB x.fPairs,A4 x.fLeft,rB x.fKey,rS x.fLast,rB x.fStarted]
theorem JX (x:AF):(AN x).length=5:=rfl
theorem Ok (x:AF):(AN x).all (·.one)=true:=rfl
@[reducible] def Bu (x:AR):List Rp:=[A4 x.fDepth,A4 x.fBytes,rB x.fOutside,rB x.fLong]
theorem Abu:∃inf,Tryz.prog.info? 190=some inf∧inf.zero=some (.agg #[(.bool false),(.int .i64 0),(.bool false),(.string ⟨#[]⟩),(.bool false)])∧inf.size=5∧inf.bytes=48:=by
  have key:(Tryz.prog.info? 190).map (λi=>(i.zero,i.size,i.bytes))=some (some (.agg #[(.bool false),(.int .i64 0),(.bool false),(.string ⟨#[]⟩),(.bool false)]),5,48):=by kernel_rfl
  obtain⟨inf,h1,h2⟩:=Option.map_eq_some_iff.1 key;simp only[Prod.mk.injEq] at h2;exact⟨inf,h1,h2.1,h2.2.1,h2.2.2⟩
theorem S2 (parts:List (Nat×Value)):Tryz.prog.built 70 parts=Instr.fill (λi=>(#[(0,1),(1,1),(2,1),(3,1)]:Array (Nat×Nat))[i]?) #[(.int .i64 0),(.int .i64 0),(.string ⟨#[]⟩),(.int .i64 0)] parts:=by kernel_rfl
theorem T8 {n:Nat}{c:Cx}{l:Fr}{H:List Ent}{d:Option Nat}{ty:TypeId}{pos:String}{af:Array Edge}{g:Option (Nat×Bool)}{x0:Operand}{r0:Rp}(h0:ev l x0=some r0)(u0:r0.one=true):B4 Tryz.prog n c l H { dst:=d,op:=.build 70 #[(0,x0)],type:=ty,pos:=pos,after:=af,guard:=g } (B9 [r0,A4 0,rS ([]:Ai),A4 0]):=λa w Z ha _=>by
  have p0:=ha.ev h0;have c0:=B1 (r0.hone u0 Z _ p0);have hb:Tryz.prog.built 70 [(0,a.eval x0)]=some #[a.eval x0,(.int .i64 0),(.string ⟨#[]⟩),(.int .i64 0)]:=by
    rw[S2];generalize a.eval x0=v0 at *;simp[Instr.fill,c0]
  refine⟨.agg #[a.eval x0,(.int .i64 0),(.string ⟨#[]⟩),(.int .i64 0)],⟨[a.eval x0,(.int .i64 0),(.string ⟨#[]⟩),(.int .i64 0)],rfl,p0,rfl,rfl,rfl,trivial⟩,?_⟩;have:=run_build w 70 #[(0,a.eval x0)] _ (by simpa using hb);simp[execOp,this]
theorem L6 {n:Nat}{c:Cx}{l:Fr}{H:List Ent}{d:Option Nat}{ty:TypeId}{pos:String}{af:Array Edge}{g:Option (Nat×Bool)}{x0:Operand}{r0:Rp}(h0:ev l x0=some r0)(u0:r0.one=true){x1:Operand}{r1:Rp}(h1:ev l x1=some r1)(u1:r1.one=true):B4 Tryz.prog n c l H { dst:=d,op:=.build 70 #[(0,x0),(1,x1)],type:=ty,pos:=pos,after:=af,guard:=g } (B9 [r0,r1,rS ([]:Ai),A4 0]):=λa w Z ha _=>by
  have p0:=ha.ev h0;have c0:=B1 (r0.hone u0 Z _ p0);have p1:=ha.ev h1;have c1:=B1 (r1.hone u1 Z _ p1);have hb:Tryz.prog.built 70 [(0,a.eval x0),(1,a.eval x1)]=some #[a.eval x0,a.eval x1,(.string ⟨#[]⟩),(.int .i64 0)]:=by
    rw[S2];generalize a.eval x0=v0 at *;generalize a.eval x1=v1 at *;simp[Instr.fill,c0,c1]
  refine⟨.agg #[a.eval x0,a.eval x1,(.string ⟨#[]⟩),(.int .i64 0)],⟨[a.eval x0,a.eval x1,(.string ⟨#[]⟩),(.int .i64 0)],rfl,p0,p1,rfl,rfl,trivial⟩,?_⟩;have:=run_build w 70 #[(0,a.eval x0),(1,a.eval x1)] _ (by simpa using hb);simp[execOp,this]
theorem L5 {n:Nat}{c:Cx}{l:Fr}{H:List Ent}{d:Option Nat}{ty:TypeId}{pos:String}{af:Array Edge}{g:Option (Nat×Bool)}{x0:Operand}{r0:Rp}(h0:ev l x0=some r0)(u0:r0.one=true){x2:Operand}{r2:Rp}(h2:ev l x2=some r2)(u2:r2.one=true):B4 Tryz.prog n c l H { dst:=d,op:=.build 70 #[(0,x0),(2,x2)],type:=ty,pos:=pos,after:=af,guard:=g } (B9 [r0,A4 0,r2,A4 0]):=λa w Z ha _=>by
  have p0:=ha.ev h0;have c0:=B1 (r0.hone u0 Z _ p0);have p2:=ha.ev h2;have c2:=B1 (r2.hone u2 Z _ p2);have hb:Tryz.prog.built 70 [(0,a.eval x0),(2,a.eval x2)]=some #[a.eval x0,(.int .i64 0),a.eval x2,(.int .i64 0)]:=by
    rw[S2];generalize a.eval x0=v0 at *;generalize a.eval x2=v2 at *;simp[Instr.fill,c0,c2]
  refine⟨.agg #[a.eval x0,(.int .i64 0),a.eval x2,(.int .i64 0)],⟨[a.eval x0,(.int .i64 0),a.eval x2,(.int .i64 0)],rfl,p0,rfl,p2,rfl,trivial⟩,?_⟩;have:=run_build w 70 #[(0,a.eval x0),(2,a.eval x2)] _ (by simpa using hb);simp[execOp,this]
theorem Aaf (parts:List (Nat×Value)):Tryz.prog.built 190 parts=Instr.fill (λi=>(#[(0,1),(1,1),(2,1),(3,1),(4,1)]:Array (Nat×Nat))[i]?) #[(.bool false),(.int .i64 0),(.bool false),(.string ⟨#[]⟩),(.bool false)] parts:=by kernel_rfl
theorem Nr {n:Nat}{c:Cx}{l:Fr}{H:List Ent}{d:Option Nat}{ty:TypeId}{pos:String}{af:Array Edge}{g:Option (Nat×Bool)}{x0:Operand}{r0:Rp}(h0:ev l x0=some r0)(u0:r0.one=true){x1:Operand}{r1:Rp}(h1:ev l x1=some r1)(u1:r1.one=true){x2:Operand}{r2:Rp}(h2:ev l x2=some r2)(u2:r2.one=true):B4 Tryz.prog n c l H { dst:=d,op:=.build 190 #[(0,x0),(1,x1),(2,x2)],type:=ty,pos:=pos,after:=af,guard:=g } (B9 [r0,r1,r2,rS ([]:Ai),rB false]):=λa w Z ha _=>by
  have p0:=ha.ev h0;have c0:=B1 (r0.hone u0 Z _ p0);have p1:=ha.ev h1;have c1:=B1 (r1.hone u1 Z _ p1);have p2:=ha.ev h2;have c2:=B1 (r2.hone u2 Z _ p2);have hb:Tryz.prog.built 190 [(0,a.eval x0),(1,a.eval x1),(2,a.eval x2)]=some #[a.eval x0,a.eval x1,a.eval x2,(.string ⟨#[]⟩),(.bool false)]:=by
    rw[Aaf];generalize a.eval x0=v0 at *;generalize a.eval x1=v1 at *;generalize a.eval x2=v2 at *;simp[Instr.fill,c0,c1,c2]
  refine⟨.agg #[a.eval x0,a.eval x1,a.eval x2,(.string ⟨#[]⟩),(.bool false)],⟨[a.eval x0,a.eval x1,a.eval x2,(.string ⟨#[]⟩),(.bool false)],rfl,p0,p1,p2,rfl,rfl,trivial⟩,?_⟩;have:=run_build w 190 #[(0,a.eval x0),(1,a.eval x1),(2,a.eval x2)] _ (by simpa using hb);simp[execOp,this]
theorem Zu (n:Int)(r:Bool)(h:Cs n=some r):Fn Tryz.prog GE 142 [A4 n] [] (λR H=>R=rB r∧H=[]):=by
 refine enter (n:=9) Tryz.func142 Aa Tryz.ntmps142 Aa (λw Z=>?_);unfold Cs at h;refine Ad (wa Aa (Ao (A5 [(2,rB ((decide ((-1000000000000)≤n))&&(decide (n≤1000000000000))))] [] ?_ ?_)))
 ·refine Af (wm Aa (wv (Hf Aa Aa) (wm Aa (AA (decide ((-1000000000000)≤n)) (λc1=>?_) (λc1=>?_)))))
  ·refine wo c1 (wm Aa (wo c1 (wv (Hf Aa Aa) (E0 Aa c1 Aa (wa Aa (Ah ?_))))));exact BH c1
  refine wf c1 (wf c1 (wv (r:=rB false) (Ay Aa c1 Aa) (wa Aa (Ah ?_))));exact BH c1
 refine Ap ?_;obtain rfl:=Au h;exact Aq (B2 Tryz.results142 (AD Aa)) sN ⟨Aa,Aa⟩
theorem Aa8 (F:Nat)(s:Ai)(r:Bool)(h:Mf F s=some r):Fn Tryz.prog GE 178 [rS s] [] (λR H=>R=rB r∧H=[]):=by
 refine enter (n:=20) Tryz.func178 Aa Tryz.ntmps178 Aa (λw Z=>?_);unfold Mf at h;refine Ad (wa Aa (Ao (Ak (Ad (wm Aa (wv (B0 C4 Aa) (wv (r:=A4 0) (Am Aa) (Ao (A6 (ob h λhi hj hg=>Br (S:=Nat×(Int)×(Unit)) (V:=(Unit)×(Unit)) 0 (λσ=>BX (λσ=>IV s σ) σ.1 σ.2.1=some hi) (λσ=>[(0,rS s),(5,A4 (s.length:Int)),(6,A4 σ.2.1)]) (λσ=>[]) (λσ=>σ.1) (F,0,()) hj (AH.c Aa (AH.c Aa (AH.c Aa AH.nil))) sN (λσ=>IU =some r) (λσ=>[]) (λσ=>[]) ?_ ?_))))))))))
 ·rintro⟨hz,hb,⟨⟩⟩ hk;refine GI ?_;obtain⟨hl,rfl,t37,hd,hf⟩:=Cc hk;replace hd:IV s hb=some t37:=hd;unfold IV at hd;refine Ad (wv (Ci Aa Aa) (Ao (Ak (cz hd Aa (λhm hn=>?_) (λhm ho=>?_)))))
  ·refine Aw (AE (Ak (A6 (Ad (wm Aa (wa Aa (Ao (ck hn λhh hp=>A5 [(0,rS s),(5,A4 (s.length:Int)),(6,A4 hb),(18,rB ((decide ((BK s hb)<32))||(decide (126<(BK s hb)))))] [] ?_ ?_))))))))
   ·refine Af (wm Aa (wm Aa (wv (B3 C4 Aa Aa hh) (wv (Ci Aa Aa) (wm Aa (AA (decide ((BK s hb)<32)) (λha=>?_) (λha=>?_)))))))
    ·refine wf ha (wf ha (wf ha (wf ha (wv (r:=rB true) (An Aa ha Aa) (Ah ?_)))));exact BH ha
    refine wo ha (wm Aa (wo ha (wm Aa (wo ha (wv (B3 C4 Aa Aa hh) (wo ha (wv (Dc Aa Aa) (Ep Aa ha Aa (Ah ?_)))))))));exact BH ha
   refine cz hp Aa (λhq hr=>?_) (λhq hs=>?_)
   ·refine Ad (wa Aa (Ao (Ap (A3 (Ab (Ab (Bg ?_)))))));have ht:=BC hr hf hg;refine A3 (Ab ?_);obtain rfl:=Au ht;exact Aq (B2 Tryz.results178 (AD Aa)) sN ⟨Aa,Aa⟩
   refine Aw (AB (AE (Af (ck hs λhu hw=>wv (By Aa Aa hu) (wm Aa (Ah ?_))))));have hx:=Bi hw hf;exact Ar (AC (hl,hb+1,()) ⟨hx,AeR _⟩ (AH.c Aa (AH.c Aa (AH.c Aa AH.nil))) sN)
  refine Bn (Av ?_);have hy:=BE ho hf hg;exact Av (AY (AC ((),()) hy AH.nil sN))
 rintro⟨⟨⟩,⟨⟩⟩ he;refine GX ?_;replace he:IU =some r:=he;unfold IU at he;refine AW (AE (Ad (wa Aa (Ao (Ap ?_)))));obtain rfl:=Au he;exact Aq (B2 Tryz.results178 (AD Aa)) sN ⟨Aa,Aa⟩
theorem QB (s:Ai)(r:Int)(h:KQ s=some r):Fn Tryz.prog GE 140 [rS s] [] (λR H=>R=A4 r∧H=[]):=by
 refine enter (n:=12) Tryz.func140 Aa Tryz.ntmps140 Aa (λw Z=>?_);unfold KQ at h;refine Ad (wa Aa (Bp (wm Aa (wv (B0 C4 Aa) (ck h λg1 h2=>wv (By Aa Aa g1) (wm Aa (Ck (rs:=[rS s,rS ([34]:Ai)]) (r:=A4 (Lib.countByte s 34:Int)) Tryz.call179 Aa (Sv s 34) Aa Aa (ck h2 λg3 h4=>wv (By Aa Aa g3) (wm Aa (Ck (rs:=[rS s,rS ([92]:Ai)]) (r:=A4 (Lib.countByte s 92:Int)) Tryz.call179 Aa (Sv s 92) Aa Aa (ck h4 λg5 h6=>wv (By Aa Aa g5) (wa Aa (Ao (Ap ?_))))))))))))));obtain rfl:=Au h6;exact Aq (B2 Tryz.results140 (AD Aa)) sN ⟨Aa,Aa⟩
theorem Y2 (F:Nat)(c:Ac)(r:Bool)(h:OW F c=some r):Fn Tryz.prog GE 139 [B9 (Ae c)] [] (λR H=>R=rB r∧H=[]):=by
 refine enter (n:=81) Tryz.func139 Aa Tryz.ntmps139 Aa (λw Z=>?_);unfold OW at h;refine Ad (BM Aa Aa (λb1=>?_));refine wa Aa (Ao (Ak (Ad (vF BD Aa DU (vL 0 DV Aa (Ao (A6 (Ad (wv (B7 Aa Aa) (wa Aa (Ao (cz h Aa (λc2 h3=>?_) (λc2 h6=>?_)))))))))))))
 ·refine A5 [(2,rB ((decide (c.fInt=0))&&((decide (c.fStr=([]:Ai)))&&(decide (c.fN=0)))))] [] ?_ ?_
  ·refine Af (vF BD Aa CK (vL 0 Df Aa (wv (B7 Aa Aa) (wm Aa (AA (decide (c.fInt=0)) (λc4=>?_) (λc4=>?_))))))
   ·refine wo c4 (vF BD Aa CE (wo c4 (vL 0 Dp Aa (wo c4 (wv (BQ Aa Aa) (E0 Aa c4 Aa (wm Aa (AA (decide (c.fStr=([]:Ai))) (λc5=>?_) (λc5=>?_)))))))))
    ·refine wo c5 (vF BD Aa CK (wo c5 (vL 0 Df Aa (wo c5 (wv (B7 Aa Aa) (E0 Aa c5 Aa (wa Aa (Ah ?_))))))));exact BH (And.intro c4 c5)
    refine wf c5 (wf c5 (wf c5 (wv (r:=rB false) (Ay Aa c5 Aa) (wa Aa (Ah ?_)))));exact BH (And.intro c4 c5)
   refine wf c4 (wf c4 (wf c4 (wv (r:=rB false) (Ay Aa c4 Aa) (wm Aa (wz Aa Aa (wz Aa Aa (wz Aa Aa (wv (r:=rB false) (Ay (b:=false) Aa Aa Aa) (wa Aa (Ah ?_))))))))));exact BH c4
  refine Ap (A3 (Ab ?_));obtain rfl:=Au h3;exact Aq (B2 OJ (AD Aa)) sN ⟨Aa,Aa⟩
 refine Ad (wv (B7 Aa Aa) (wa Aa (Ao (cz h6 Aa (λc7 h8=>?_) (λc7 hm=>?_)))))
 ·refine A5 [(2,rB (bif decide (c.fInt=0) then((decide (c.fStr=([]:Ai)))&&(decide (c.fN=0))) else((decide (c.fInt=1))&&((decide (c.fStr=([]:Ai)))&&(decide (c.fN=0))))))] [] ?_ ?_
  ·refine Af (vF BD Aa CK (vL 0 Df Aa (wv (B7 Aa Aa) (wm Aa (AA (decide (c.fInt=0)) (λc9=>?_) (λc9=>?_))))))
   ·refine wf c9 (wf c9 (wf c9 (wv (r:=rB true) (An Aa c9 Aa) (wm Aa (AL (b:=true) Aa Aa Aa (vF BD Aa CE (AL (b:=true) Aa Aa Aa (vL 0 Dp Aa (AL (b:=true) Aa Aa Aa (wv (BQ Aa Aa) (wv (r:=rB (decide (c.fStr=([]:Ai)))) (An (b:=true) Aa Aa Aa) (wm Aa (AA (decide (c.fStr=([]:Ai))) (λhg=>?_) (λhg=>?_))))))))))))))
    ·refine wo hg (vF BD Aa CK (wo hg (vL 0 Df Aa (wo hg (wv (B7 Aa Aa) (E0 Aa hg Aa (wa Aa (Ah ?_))))))));exact BH (And.intro c9 hg)
    refine wf hg (wf hg (wf hg (wv (r:=rB false) (Ay Aa hg Aa) (wa Aa (Ah ?_)))));exact BH (And.intro c9 hg)
   refine wo c9 (vF BD Aa CK (wo c9 (vL 0 Df Aa (wo c9 (wv (B7 Aa Aa) (Ep Aa c9 Aa (wm Aa (AA (decide (c.fInt=1)) (λhb=>?_) (λhb=>?_)))))))))
   ·refine wo hb (vF BD Aa CE (wo hb (vL 0 Dp Aa (wo hb (wv (BQ Aa Aa) (E0 Aa hb Aa (wm Aa (AA (decide (c.fStr=([]:Ai))) (λhh=>?_) (λhh=>?_)))))))))
    ·refine wo hh (vF BD Aa CK (wo hh (vL 0 Df Aa (wo hh (wv (B7 Aa Aa) (E0 Aa hh Aa (wa Aa (Ah ?_))))))));exact BH (And.intro c9 (And.intro hb hh))
    refine wf hh (wf hh (wf hh (wv (r:=rB false) (Ay Aa hh Aa) (wa Aa (Ah ?_)))));exact BH (And.intro c9 (And.intro hb hh))
   refine wf hb (wf hb (wf hb (wv (r:=rB false) (Ay Aa hb Aa) (wm Aa (wz Aa Aa (wz Aa Aa (wz Aa Aa (wv (r:=rB false) (Ay (b:=false) Aa Aa Aa) (wa Aa (Ah ?_))))))))));exact BH (And.intro c9 hb)
  refine Ap (A3 (Ab ?_));obtain rfl:=Au h8;exact Aq (B2 OJ (AD Aa)) sN ⟨Aa,Aa⟩
 refine Ad (wv (B7 Aa Aa) (wa Aa (Ao (cz hm Aa (λhn ho=>?_) (λhn hp=>?_)))))
 ·refine A5 [(2,rB ((decide (c.fStr=([]:Ai)))&&(decide (c.fN=0))))] [] ?_ ?_
  ·refine Af (vF BD Aa CE (vL 0 Dp Aa (wv (BQ Aa Aa) (wm Aa (AA (decide (c.fStr=([]:Ai))) (λhi=>?_) (λhi=>?_))))))
   ·refine wo hi (vF BD Aa CK (wo hi (vL 0 Df Aa (wo hi (wv (B7 Aa Aa) (E0 Aa hi Aa (wa Aa (Ah ?_))))))));exact BH hi
   refine wf hi (wf hi (wf hi (wv (r:=rB false) (Ay Aa hi Aa) (wa Aa (Ah ?_)))));exact BH hi
  refine Ap (A3 (Ab ?_));obtain rfl:=Au ho;exact Aq (B2 OJ (AD Aa)) sN ⟨Aa,Aa⟩
 refine Ad (wv (B7 Aa Aa) (wa Aa (Ao (cz hp Aa (λhq hr=>?_) (λhq hs=>?_)))))
 ·refine ck hr λht hu=>A5 [(2,rB ((decide (c.fInt=0))&&((decide (c.fN=0))&&(ov (Mf F c.fStr)))))] [] ?_ ?_
  ·refine Af (vF BD Aa CK (vL 0 Df Aa (wv (B7 Aa Aa) (wm Aa (AA (decide (c.fInt=0)) (λha=>?_) (λha=>?_))))))
   ·refine wo ha (vF BD Aa CK (wo ha (vL 0 Df Aa (wo ha (wv (B7 Aa Aa) (E0 Aa ha Aa (wm Aa (AA (decide (c.fN=0)) (λhd=>?_) (λhd=>?_)))))))))
    ·refine wo hd (vF BD Aa CE (wo hd (vL 0 Dp Aa (wo hd (BP Tryz.call178 (Aa8 F c.fStr (ov (Mf F c.fStr)) (Cr (BF (BF ht ha) hd))) Aa (E0 Aa hd Aa (wa Aa (Ah ?_))))))));exact BH (And.intro ha hd)
    refine wf hd (wf hd (wf hd (wv (r:=rB false) (Ay Aa hd Aa) (wa Aa (Ah ?_)))));exact BH (And.intro ha hd)
   refine wf ha (wf ha (wf ha (wv (r:=rB false) (Ay Aa ha Aa) (wm Aa (wz Aa Aa (wz Aa Aa (wz Aa Aa (wv (r:=rB false) (Ay (b:=false) Aa Aa Aa) (wa Aa (Ah ?_))))))))));exact BH ha
  refine Ap (A3 (Ab ?_));obtain rfl:=Au hu;exact Aq (B2 OJ (AD Aa)) sN ⟨Aa,Aa⟩
 refine Ak (Ad (wv (B7 Aa Aa) (wa Aa (Ao (cz hs Aa (λhl hw=>?_) (λhl hx=>?_))))))
 ·refine Aw (AE (D7 Aa hl (A5 [(2,rB ((decide (c.fInt=0))&&((decide (c.fStr=([]:Ai)))&&(decide (0≤c.fN)))))] [] ?_ ?_)))
  ·refine Af (vF BD Aa CK (vL 0 Df Aa (wv (B7 Aa Aa) (wm Aa (AA (decide (c.fInt=0)) (λhe=>?_) (λhe=>?_))))))
   ·refine wo he (vF BD Aa CE (wo he (vL 0 Dp Aa (wo he (wv (BQ Aa Aa) (E0 Aa he Aa (wm Aa (AA (decide (c.fStr=([]:Ai))) (λhj=>?_) (λhj=>?_)))))))))
    ·refine wo hj (vF BD Aa CK (wo hj (vL 0 Df Aa (wo hj (wv (DP Aa Aa) (E0 Aa hj Aa (wa Aa (Ah ?_))))))));exact BH (And.intro he hj)
    refine wf hj (wf hj (wf hj (wv (r:=rB false) (Ay Aa hj Aa) (wa Aa (Ah ?_)))));exact BH (And.intro he hj)
   refine wf he (wf he (wf he (wv (r:=rB false) (Ay Aa he Aa) (wm Aa (wz Aa Aa (wz Aa Aa (wz Aa Aa (wv (r:=rB false) (Ay (b:=false) Aa Aa Aa) (wa Aa (Ah ?_))))))))));exact BH he
  refine Ap (A3 (Ab ?_));obtain rfl:=Au hw;exact Aq (B2 OJ (AD Aa)) sN ⟨Aa,Aa⟩
 refine Af (wv (B7 Aa Aa) (wa Aa (Ao (cz hx Aa (λhy hz=>?_) (λhy h0=>?_)))))
 ·refine A5 [(2,rB ((decide (c.fInt=0))&&((decide (c.fStr=([]:Ai)))&&(decide (0≤c.fN)))))] [] ?_ ?_
  ·refine Af (vF BD Aa CK (vL 0 Df Aa (wv (B7 Aa Aa) (wm Aa (AA (decide (c.fInt=0)) (λhf=>?_) (λhf=>?_))))))
   ·refine wo hf (vF BD Aa CE (wo hf (vL 0 Dp Aa (wo hf (wv (BQ Aa Aa) (E0 Aa hf Aa (wm Aa (AA (decide (c.fStr=([]:Ai))) (λhk=>?_) (λhk=>?_)))))))))
    ·refine wo hk (vF BD Aa CK (wo hk (vL 0 Df Aa (wo hk (wv (DP Aa Aa) (E0 Aa hk Aa (wa Aa (Ah ?_))))))));exact BH (And.intro hf hk)
    refine wf hk (wf hk (wf hk (wv (r:=rB false) (Ay Aa hk Aa) (wa Aa (Ah ?_)))));exact BH (And.intro hf hk)
   refine wf hf (wf hf (wf hf (wv (r:=rB false) (Ay Aa hf Aa) (wm Aa (wz Aa Aa (wz Aa Aa (wz Aa Aa (wv (r:=rB false) (Ay (b:=false) Aa Aa Aa) (wa Aa (Ah ?_))))))))));exact BH hf
  refine Ap (A3 (Ab ?_));obtain rfl:=Au hz;exact Aq (B2 OJ (AD Aa)) sN ⟨Aa,Aa⟩
 refine Aw (AB (AE (Ad (wa Aa (Ao (Ap ?_))))));obtain rfl:=Au h0;exact Aq (B2 OJ (AD Aa)) (sS sN) ⟨Aa,Aa⟩
theorem Aa9 (c:Ac)(r:Int)(h:SZ c=some r):Fn Tryz.prog GE 141 [B9 (Ae c)] [] (λR H=>R=A4 r∧H=[]):=by
 refine enter (n:=28) Tryz.func141 Aa Tryz.ntmps141 Aa (λw Z=>?_);unfold SZ at h;refine Ad (BM Aa Aa (λb1=>?_));refine wa Aa (Ao (Ak (Ad (vF BD Aa DU (vL 0 DV Aa (Ao (A6 (Ad (wv (B7 Aa Aa) (wa Aa (Ao (cz h Aa (λc2 h3=>?_) (λc2 h4=>?_)))))))))))))
 ·refine Ad (wa Aa (Ao (Ap (A3 (Ab ?_)))));obtain rfl:=Au h3;exact Aq (B2 SP (AD Aa)) (sS sN) ⟨Aa,Aa⟩
 refine Ad (wv (B7 Aa Aa) (wa Aa (Ao (cz h4 Aa (λc5 h6=>?_) (λc5 h7=>?_)))))
 ·refine Ad (vF BD Aa CK (vL 0 Df Aa (wv (r:=A4 (IntKind.wrap .i64 (5-c.fInt))) (Zk Aa Aa) (wa Aa (Ao (Ap (A3 (Ab ?_))))))));obtain rfl:=Au h6;exact Aq (B2 SP (AD Aa)) (sS sN) ⟨Aa,Aa⟩
 refine Ad (wv (B7 Aa Aa) (wa Aa (Ao (cz h7 Aa (λc8 h9=>?_) (λc8 ha=>?_)))))
 ·refine Ad (vF BD Aa CK (vL 0 Df Aa (ck h9 λhb hd=>Ck (rs:=[A4 c.fInt]) (r:=rS (Lib.itoa c.fInt)) Tryz.call163 Aa (Um c.fInt hb) Aa Aa (wv (B0 C4 Aa) (wa Aa (Ao (Ap (A3 (Ab ?_)))))))));obtain rfl:=Au hd;exact Aq (B2 SP (AD Aa)) (sS sN) ⟨Aa,Aa⟩
 refine Ad (wv (B7 Aa Aa) (wa Aa (Ao (cz ha Aa (λhe hf=>?_) (λhe hg=>?_)))))
 ·refine Ad (vF BD Aa CE (vL 0 Dp Aa (ob hf λhh hi hj=>BP Tryz.call140 (QB c.fStr hh hi) Aa (wa Aa (Ao (Ap (A3 (Ab ?_))))))));obtain rfl:=Au hj;exact Aq (B2 SP (AD Aa)) (sS sN) ⟨Aa,Aa⟩
 refine Aw (AB (AE (Ad (vF BD Aa CK (vL 0 Df Aa (wv (r:=A4 (IntKind.wrap .i64 (c.fN-1))) (Zk Aa Aa) (wv (Zo yu3 Aa Aa) (wv (r:=A4 (IntKind.wrap .i64 (2+(max 0 (IntKind.wrap .i64 (c.fN-1)))))) (Vj Aa Aa) (wa Aa (Ao (Ap ?_)))))))))));obtain rfl:=Au hg;exact Aq (B2 SP (AD Aa)) (sS sN) ⟨Aa,Aa⟩
theorem Xf (F:Nat)(hi:Value)(stack:(List AF))(r:(List AF))(h:Mh F stack=some r):Fn Tryz.prog GE 143 [rv hi] [.row hi 190 5 (A8 AN stack)] (λR H=>∃u0:Value,R=rv u0∧H=[.row u0 190 5 (A8 AN r)]):=by
 refine enter (n:=38) Tryz.func143 Aa Tryz.ntmps143 Aa (λw Z=>?_);unfold Mh at h;refine Ad (wa Aa (Ao (Ak (A6 (ob h λhl hm hk=>Br (S:=Nat×((List AF))×(Value)) (V:=((List AF))×(Value)) 0 (λσ=>BX (λσ=>E7 σ) σ.1 σ.2.1=some hl) (λσ=>[(0,rv σ.2.2),(2,rv (.slice none 0 0))]) (λσ=>[.row σ.2.2 190 5 (A8 AN σ.2.1)]) (λσ=>σ.1) (F,stack,hi) hm (AH.c Aa (AH.c Aa AH.nil)) (sC sN) (λσ=>Gz σ.1=some r) (λσ=>[(0,rv σ.2),(2,rv (.slice none 0 0))]) (λσ=>[.row σ.2 190 5 (A8 AN σ.1)]) ?_ ?_)))))
 ·rintro⟨n194,ha,he⟩ hn;refine GI ?_;obtain⟨ho,rfl,hp,hg,hj⟩:=Cc hn;replace hg:E7 ha=some hp:=hg;unfold E7 at hg;refine Ak (Ad (wm Aa (wv (D3 (ys:=ha) (enc:=AN) (i:=0) JS Aa Aa) (wv (Dc Aa Aa) (Ao (cz hg Aa (λhq hr=>?_) (λhq hs=>?_)))))))
  ·refine Aw (AE (A6 (Ad (wm Aa (wm Aa (wv (D3 (ys:=ha) (enc:=AN) (i:=0) JS Aa Aa) (ck hr λht hu=>wv (Gi Aa Aa ht) (ck hu λhd hw=>wv (r:=rv (Gl 5 he (Ca ((ha.length:Int)-1)) 0)) (EM (i:=0) JS SL Aa Aa Aa (BI hd)) (wa Aa (Bp (wm Aa (wv (r:=rv (Gl 5 he (Ca ((ha.length:Int)-1)) 0)) (CR (k:=0) Aa (BI hd) Aa Aa) (wv (r:=rv (Gl 5 he (Ca ((ha.length:Int)-1)) 1)) (Gj (k:=0) JR Aa CK Aa (BI hd) Aa Aa Aa) (wv (r:=A4 ((Ax ha ((ha.length:Int)-1)).fLeft)) (Ip (enc:=AN) (ys:=ha) (i:=0) (j:=(ha.length:Int)-1) Df Aa Aa hd Aa) (ck hw λhx hy=>wv (Gi Aa Aa hx) (wv (r:=rv (Gl 5 he (Ca ((ha.length:Int)-1)) 0)) (CR (k:=0) Aa (BI hd) Aa Aa) (wv (r:=rv (Gl 5 he (Ca ((ha.length:Int)-1)) 1)) (Gj (k:=0) JR Aa CK Aa (BI hd) Aa Aa Aa) (Ko (enc:=AN) (ys:=ha) (y':=(AF.mk ((Ax ha ((ha.length:Int)-1)).fPairs) (((Ax ha ((ha.length:Int)-1)).fLeft)-1) ((Ax ha ((ha.length:Int)-1)).fKey) ((Ax ha ((ha.length:Int)-1)).fLast) ((Ax ha ((ha.length:Int)-1)).fStarted))) (i:=0) (j:=(ha.length:Int)-1) CK Aa Aa (BR Aa) Aa hd Aa Aa (H':=[.row he 190 5 (A8 AN (List.set ha (Ca ((ha.length:Int)-1)) (AF.mk ((Ax ha ((ha.length:Int)-1)).fPairs) (((Ax ha ((ha.length:Int)-1)).fLeft)-1) ((Ax ha ((ha.length:Int)-1)).fKey) ((Ax ha ((ha.length:Int)-1)).fLast) ((Ax ha ((ha.length:Int)-1)).fStarted))))]) Aa (bd hy λhb hf hz=>?_)))))))))))))))))));rw[← hf];refine Ao (Ak (Ad (wm Aa (wv (r:=rv (Gl 5 he (Ca ((ha.length:Int)-1)) 0)) (CR (k:=0) Aa (BI (D6 hd hf)) Aa Aa) (wv (r:=rv (Gl 5 he (Ca ((ha.length:Int)-1)) 1)) (Gj (k:=0) JR Aa CK Aa (BI (D6 hd hf)) Aa Aa Aa) (wv (r:=A4 ((Ax hb ((ha.length:Int)-1)).fLeft)) (Ip (enc:=AN) (ys:=hb) (i:=0) (j:=(ha.length:Int)-1) Df Aa Aa (D6 hd hf) Aa) (wv (Dc Aa Aa) (Ao (cz hz Aa (λh0 h1=>?_) (λh0 h2=>?_))))))))))
   ·refine Ad (wm Aa (wm Aa (wv (r:=rv (Gl 5 he (Ca ((ha.length:Int)-1)) 0)) (CR (k:=0) Aa (BI (D6 hd hf)) Aa Aa) (wv (r:=rv (Gl 5 he (Ca ((ha.length:Int)-1)) 0)) (Gj (k:=0) JR Aa Jz Aa (BI (D6 hd hf)) Aa Aa Aa) (wv (r:=rB ((Ax hb ((ha.length:Int)-1)).fPairs)) (Ip (enc:=AN) (ys:=hb) (i:=0) (j:=(ha.length:Int)-1) Qg Aa Aa (D6 hd hf) Aa) (wv (r:=rv (Gl 5 he (Ca ((ha.length:Int)-1)) 0)) (CR (k:=0) Aa (BI (D6 hd hf)) Aa Aa) (wv (r:=rv (Gl 5 he (Ca ((ha.length:Int)-1)) 2)) (Gj (k:=0) JR Aa Jz Aa (BI (D6 hd hf)) Aa Aa Aa) (Ko (enc:=AN) (ys:=hb) (y':=(AF.mk ((Ax hb ((ha.length:Int)-1)).fPairs) ((Ax hb ((ha.length:Int)-1)).fLeft) ((Ax hb ((ha.length:Int)-1)).fPairs) ((Ax hb ((ha.length:Int)-1)).fLast) ((Ax hb ((ha.length:Int)-1)).fStarted))) (i:=0) (j:=(ha.length:Int)-1) Jz Aa Aa (BR Aa) Aa (D6 hd hf) Aa Aa (H':=[.row he 190 5 (A8 AN (List.set hb (Ca ((ha.length:Int)-1)) (AF.mk ((Ax hb ((ha.length:Int)-1)).fPairs) ((Ax hb ((ha.length:Int)-1)).fLeft) ((Ax hb ((ha.length:Int)-1)).fPairs) ((Ax hb ((ha.length:Int)-1)).fLast) ((Ax hb ((ha.length:Int)-1)).fStarted))))]) Aa (bd h1 λhG h3 h4=>?_)))))))));rw[← h3];refine Bp (wm Aa (wa Aa (Ao (Ap (Ab (A3 (Ab (Bg ?_))))))));have h5:=BC h4 hj hk;refine A3 (Ab ?_);obtain rfl:=Au h5;exact Aq (B2 Tryz.results143 (AD Aa)) (sC sN) ⟨he,Aa,Aa⟩
   refine Aw (AE (Af (wm Aa (wm Aa (wv (D3 (ys:=hb) (enc:=AN) (i:=0) JS Aa Aa) (ck h2 λh6 h7=>wv (Gi Aa Aa h6) (ck h7 λh8 h9=>AbP (i:=0) JS SL Aa Aa Aa h8 Aa (λhA=>?_))))))));refine wa Aa (Ah (AB ?_));have hB:=Bi h9 hj;exact Ar (AC (ho,List.take (Ca ((hb.length:Int)-1)) hb,hA) ⟨hB,AeR _⟩ (AH.c Aa (AH.c Aa AH.nil)) (sC sN))
  refine Bn (Av ?_);have hC:=BE hs hj hk;exact Av (AY (AC (ha,he) hC (AH.c Aa (AH.c Aa AH.nil)) (sC sN)))
 rintro⟨hD,hE⟩ hh;refine GX ?_;replace hh:Gz hD=some r:=hh;unfold Gz at hh;refine AW (AE (Ad (wm Aa (wa Aa (Ao (Ap ?_))))));obtain rfl:=Au hh;exact Aq (B2 Tryz.results143 (AD Aa)) (sC sN) ⟨hE,Aa,Aa⟩
theorem R0 (F:Nat)(v:(List Ac))(r:Int×AR×Bool)(h:Kn F v=some r):Fn Tryz.prog GE 95 [AO 4 (A8 Ae v)] [] (λR H=>R=Dy [A4 r.1,B9 (Bu r.2.1),rB r.2.2]∧H=[]):=by
 refine enter (n:=152) Tryz.func95 Aa Tryz.ntmps95 Aa (λw Z=>?_);unfold Kn at h;refine Ad (wa Aa (BL (cs:=[A4 0,A4 0,rB false,rB false]) SG Aa Aa (λb1=>?_)));refine wa Aa (Ao (Yx (Ad (BL (cs:=[A4 0,A4 0,rB false,rB false]) SG Aa Aa (λb2=>?_)))));refine Bp (wa Aa (Ao (Ak (Yz (AE (Ak (Ad (wm Aa (wv (Bj (ys:=v) (enc:=Ae) CL Aa) (wv (r:=A4 0) (Am Aa) (Ao (A6 (WC.nilrow (e:=190) (sz:=5) (VQ (H2:=[.blk b2 [A4 0,A4 0,rB false,rB false] 143,.blk b1 [A4 0,A4 0,rB false,rB false] 143,.row (.slice none 0 0                                                                                                                                                                                              ) 190 5 (A8 AN ([]:List AF))]) ((AZ (i:=1) Aa).trans (Aff _ ((AZ (i:=1) Aa).trans (Aff _ (Afd _))))) (ob h λh8 h9 hy=>Br (S:=Nat×((List AF)×Int×AR)×(Value)) (V:=(AR)×(Unit)) 0 (λσ=>BX (λσ=>E6 F v σ.1 σ.2.1 σ.2.2) σ.1 σ.2.1=some h8) (λσ=>[(0,AO 4 (A8 Ae v)),(3,rP b1 0),(5,rP b2 0),(6,rv σ.2.2),(11,AO 4 (A8 Ae v)),(12,A4 (v.length:Int)),(13,A4 σ.2.1.2.1)]) (λσ=>[.blk b2 (Bu σ.2.1.2.2) 143,.blk b1 [A4 0,A4 0,rB false,rB false] 143,.row σ.2.2 190 5 (A8 AN σ.2.1.1)]) (λσ=>σ.1) (F,(([]:List AF),0,(AR.mk 0 0 false false)),(.slice none 0 0                                                                                                                                                                                              )) h9 (AH.c Aa (AH.c Aa (AH.c5 Aa Aa Aa Aa Aa AH.nil))) (sC (sC (sC sN))) (λσ=>Mg σ.1=some r) (λσ=>[(3,rP b1 0),(5,rP b2 0)]) (λσ=>[.blk b2 (Bu σ.1) 143,.blk b1 [A4 0,A4 0,rB false,rB false] 143]) ?_ ?_)))))))))))))))
 ·rintro⟨gJ,⟨hd,hb,ha⟩,he⟩ hA;refine GI ?_;obtain⟨hB,rfl,h4,hz,hw⟩:=Cc hA;replace hz:E6 F v hd hb ha=some h4:=hz;unfold E6 at hz;refine Ad (wv (Ci Aa Aa) (Ao (Ak (cz hz Aa (λhC hD=>?_) (λhC hE=>?_)))))
  ·refine Aw (AE (If (S:=((List AF)×AR)×(Value)) (λσ=>Gm hb σ.1.1 σ.1.2=some h4) (λσ=>[(0,AO 4 (A8 Ae v)),(3,rP b1 0),(5,rP b2 0),(6,rv σ.2),(11,AO 4 (A8 Ae v)),(12,A4 (v.length:Int)),(13,A4 hb)]) (λσ=>[.blk b2 (Bu σ.1.2) 143,.blk b1 [A4 0,A4 0,rB false,rB false] 143,.row σ.2 190 5 (A8 AN σ.1.1)]) ?_ ?_))
   ·refine A6 (Ad (wm Aa (ck hD λhG hH=>wv (Bk (enc:=Ae) (ys:=v) CL CJ Aa Aa hG) (wv (Cu Od CJ Aa Aa Aa) (BL (cs:=[A4 0,A4 0,rS ([]:Ai),A4 0]) Oc Aa Aa (λhf=>?_))))));refine wa Aa (GU (i:=0) CJ Aa Aa Aa (B8.c Aa) Aa Aa ?_);refine Ao (Ak (Ad (wv (Be (i:=0) Od CJ Aa Aa Aa Aa) (ob hH λhI hJ hK=>BP Tryz.call139 (Y2 F (Ax v hb) hI hJ) Aa (wv (BO Aa) (Ao (cz hK Aa (λhL hN=>?_) (λhL hO=>?_))))))))
    ·refine Ak (Ex (H1:=[.blk hf (Ae (Ax v hb)) 70,.blk b2 (Bu ha) 143,.blk b1 (Bu ha) 143,.row he 190 5 (A8 AN hd)]) [3,5] [⟨[],B9 (Bu ha),1⟩,⟨[],A4 0,0⟩,⟨[0],rv undef,2⟩,⟨[],rB false,0⟩] (rle [(3,_),(2,[.blk hf (Ae (Ax v hb)) 70,.blk b2 (Bu ha) 143,.blk b1 (Bu ha) 143,.row he 190 5 (A8 AN hd)])]) [2,4,3] ?_ ?_)
     ·refine of (Be (i:=1) Lv GV Aa Aa Aa Aa) (oq (A0 Aa) (DZ Aa (HO (Gu (i:=2) GV Aa Aa Aa (B8.c Aa) Aa Aa (cs':=[A4 ha.fDepth,A4 ha.fBytes,rB ha.fOutside,rB ha.fLong]) Aa (H':=[.blk hf (Ae (Ax v hb)) 70,.blk b2 (Bu ha) 143,.blk b1 (Bu ha) 143,.row he 190 5 (A8 AN hd)]) Aa)) ?_));refine oq (A0 Aa) ?_;exact EK
     refine AE (Ap (Ab (A3 (Ab (Ab (Bg ?_))))));have hP:=BC hN hw hy;refine A3 (Ab (Ma ?_));obtain rfl:=Au hP;exact Aq (U7 Yr (AD Aa) (Dv (i:=2) Lv GV Aa Aa Aa) (AD Aa)) (sS (sS (sS (sS sN)))) ⟨Aa,Aa⟩
    refine Aw (AE (Ak (Ad (wm Aa (wv (D3 (ys:=hd) (enc:=AN) (i:=3) JS Aa Aa) (wa Aa (Ao (ck hO λhQ hR=>ck hR λh5 hS=>A5 [(0,AO 4 (A8 Ae v)),(3,rP b1 0),(5,rP b2 0),(6,rv he),(7,A4 hb),(8,rP hf 0),(9,A4 (hd.length:Int)),(11,AO 4 (A8 Ae v)),(12,A4 (v.length:Int)),(13,A4 hb),(33,rB ((decide (0<(hd.length:Int)))&&((Ax hd ((hd.length:Int)-1)).fKey)))] [.blk hf (Ae (Ax v hb)) 70,.blk b2 (Bu ha) 143,.blk b1 [A4 0,A4 0,rB false,rB false] 143,.row he 190 5 (A8 AN hd)] ?_ ?_))))))))
    ·refine Af (wm Aa (wv (Dc Aa Aa) (wm Aa (AA (decide (0<(hd.length:Int))) (λhi=>?_) (λhi=>?_)))))
     ·refine wo hi (wm Aa (wo hi (wm Aa (wo hi (wv (Gi Aa Aa (BF hQ hi)) (wo hi (wv (r:=rv (Gl 5 he (Ca ((hd.length:Int)-1)) 0)) (EM (i:=3) JS SL Aa Aa Aa (BI (BF h5 hi))) (wo hi (wv (r:=rv (Gl 5 he (Ca ((hd.length:Int)-1)) 2)) (Gj (k:=3) JR Aa Jz Aa (BI (BF h5 hi)) Aa Aa Aa) (wo hi (wv (r:=rB ((Ax hd ((hd.length:Int)-1)).fKey)) (Ip (enc:=AN) (ys:=hd) (i:=3) (j:=(hd.length:Int)-1) Qg Aa Aa (BF h5 hi) Aa) (E0 Aa hi Aa (Ah ?_)))))))))))));exact BH hi
     refine wf hi (wf hi (wf hi (wf hi (wf hi (wf hi (wv (r:=rB false) (Ay Aa hi Aa) (Ah ?_)))))));exact BH hi
    refine cz hS Aa (λhT hU=>?_) (λhT hV=>?_)
    ·refine Ad (wm Aa (wm Aa (ck hU λhW hX=>wv (Gi Aa Aa hW) (ck hX λhj hY=>wv (r:=rv (Gl 5 he (Ca ((hd.length:Int)-1)) 0)) (EM (i:=3) JS SL Aa Aa Aa (BI hj)) (wa Aa (Ao (Ak (A5 [(0,AO 4 (A8 Ae v)),(3,rP b1 0),(5,rP b2 0),(6,rv he),(8,rP hf 0),(10,rv (Gl 5 he (Ca ((hd.length:Int)-1)) 0)),(11,AO 4 (A8 Ae v)),(12,A4 (v.length:Int)),(13,A4 hb),(38,rP hf 0),(39,A4 ((Ax v hb).fKind)),(40,rB (!decide (((Ax v hb).fKind)=4))),(41,rB (!decide (((Ax v hb).fKind)=4))),(55,rB ((!decide (((Ax v hb).fKind)=4))||(((Ax hd ((hd.length:Int)-1)).fStarted)&&(DX ((Ax v hb).fStr) ((Ax hd ((hd.length:Int)-1)).fLast)||decide (((Ax v hb).fStr)=((Ax hd ((hd.length:Int)-1)).fLast))))))] [.blk hf (Ae (Ax v hb)) 70,.blk b2 (Bu ha) 143,.blk b1 [A4 0,A4 0,rB false,rB false] 143,.row he 190 5 (A8 AN hd)] ?_ ?_))))))))
     ·refine AA (!decide (((Ax v hb).fKind)=4)) (λhh=>?_) (λhh=>?_)
      ·refine Du [0,3,5,6,8,10,11,12,13] ?_;refine rq (Az BD Aa DU Aa Aa) (rq (AT (i:=0) DV Aa Aa Aa) (rq (CH Aa Aa) (rq (Am Aa) (rz hh (rz hh (rz hh (rz hh (rz hh (ru (ru (ru (ru (ru (ru (ru (rz hh (rq (r:=rB true) (An (b:=!decide (((Ax v hb).fKind)=4)) Aa hh Aa) (re [38,39,40,41,42,43,44,45,46,47,48,49,50,51,52,53,54,55,0,3,5,6,8,10,11,12,13] ?_))))))))))))))))));exact BH hh
      refine AA ((Ax hd ((hd.length:Int)-1)).fStarted) (λhk=>?_) (λhk=>?_)
      ·refine Du [0,3,5,6,8,10,11,12,13] ?_;refine rq (Az BD Aa DU Aa Aa) (rq (AT (i:=0) DV Aa Aa Aa) (rq (CH Aa Aa) (rq (Am Aa) (rg hh (Am Aa) (rg hh (r:=rv (Gl 5 he (Ca ((hd.length:Int)-1)) 0)) (CR (k:=3) Aa (BI hj) Aa Aa) (rg hh (r:=rv (Gl 5 he (Ca ((hd.length:Int)-1)) 4)) (Gj (k:=3) JR Aa Jz Aa (BI hj) Aa Aa Aa) (rg hh (r:=rB ((Ax hd ((hd.length:Int)-1)).fStarted)) (Ip (enc:=AN) (ys:=hd) (i:=3) (j:=(hd.length:Int)-1) Qg Aa Aa hj Aa) (rg hh (Am Aa) (rg hk (Az BD Aa CE Aa Aa) (rg hk (AT (i:=0) Dp Aa Aa Aa) (rg hk (Am Aa) (rg hk (r:=rv (Gl 5 he (Ca ((hd.length:Int)-1)) 0)) (CR (k:=3) Aa (BI hj) Aa Aa) (rg hk (r:=rv (Gl 5 he (Ca ((hd.length:Int)-1)) 3)) (Gj (k:=3) JR Aa CE Aa (BI hj) Aa Aa Aa) (rg hk (r:=rS ((Ax hd ((hd.length:Int)-1)).fLast)) (Ip (enc:=AN) (ys:=hd) (i:=3) (j:=(hd.length:Int)-1) Dp Aa Aa hj Aa) (rg hk (QQ Aa Aa) (rg hh (An Aa hk Aa) (rq (Ay Aa hh Aa) (re [38,39,40,41,42,43,44,45,46,47,48,49,50,51,52,53,54,55,0,3,5,6,8,10,11,12,13] ?_))))))))))))))))));exact BH (And.intro hh hk)
      refine Du [0,3,5,6,8,10,11,12,13] ?_;refine rq (Az BD Aa DU Aa Aa) (rq (AT (i:=0) DV Aa Aa Aa) (rq (CH Aa Aa) (rq (Am Aa) (rg hh (Am Aa) (rg hh (r:=rv (Gl 5 he (Ca ((hd.length:Int)-1)) 0)) (CR (k:=3) Aa (BI hj) Aa Aa) (rg hh (r:=rv (Gl 5 he (Ca ((hd.length:Int)-1)) 4)) (Gj (k:=3) JR Aa Jz Aa (BI hj) Aa Aa Aa) (rg hh (r:=rB ((Ax hd ((hd.length:Int)-1)).fStarted)) (Ip (enc:=AN) (ys:=hd) (i:=3) (j:=(hd.length:Int)-1) Qg Aa Aa hj Aa) (rg hh (Am Aa) (rz hk (rz hk (rz hk (rz hk (rz hk (rz hk (rz hk (rg hh (r:=rB false) (Ay (b:=(Ax hd ((hd.length:Int)-1)).fStarted) Aa hk Aa) (rq (Ay Aa hh Aa) (re [38,39,40,41,42,43,44,45,46,47,48,49,50,51,52,53,54,55,0,3,5,6,8,10,11,12,13] ?_))))))))))))))))));exact BH (And.intro hh hk)
     refine cz hY Aa (λhZ ga=>?_) (λhZ gb=>?_)
     ·refine Ak (Ex (H1:=[.blk hf (Ae (Ax v hb)) 70,.blk b2 (Bu ha) 143,.blk b1 (Bu ha) 143,.row he 190 5 (A8 AN hd)]) [3,5] [⟨[],B9 (Bu ha),1⟩,⟨[],A4 0,0⟩,⟨[0],rv undef,2⟩,⟨[],rB false,0⟩] (rle [(3,_),(2,[.blk hf (Ae (Ax v hb)) 70,.blk b2 (Bu ha) 143,.blk b1 (Bu ha) 143,.row he 190 5 (A8 AN hd)])]) [2,4,3] ?_ ?_)
      ·refine of (Be (i:=1) Lv GV Aa Aa Aa Aa) (oq (A0 Aa) (DZ Aa (HO (Gu (i:=2) GV Aa Aa Aa (B8.c Aa) Aa Aa (cs':=[A4 ha.fDepth,A4 ha.fBytes,rB ha.fOutside,rB ha.fLong]) Aa (H':=[.blk hf (Ae (Ax v hb)) 70,.blk b2 (Bu ha) 143,.blk b1 (Bu ha) 143,.row he 190 5 (A8 AN hd)]) Aa)) ?_));refine oq (A0 Aa) ?_;exact EK
      refine AE (Ap (Ab (Ab (A3 (Ab (Ab (Bg ?_)))))));have gc:=BC ga hw hy;refine A3 (Ab (Ma ?_));obtain rfl:=Au gc;exact Aq (U7 Yr (AD Aa) (Dv (i:=2) Lv GV Aa Aa Aa) (AD Aa)) (sS (sS (sS (sS sN)))) ⟨Aa,Aa⟩
     refine Aw (AE (Ad (wm Aa (wm Aa (wm Aa (vF BD Aa CE (vL 0 Dp Aa (wv (r:=rv (Gl 5 he (Ca ((hd.length:Int)-1)) 0)) (CR (k:=3) Aa (BI hj) Aa Aa) (wv (r:=rv (Gl 5 he (Ca ((hd.length:Int)-1)) 3)) (Gj (k:=3) JR Aa CE Aa (BI hj) Aa Aa Aa) (Ko (enc:=AN) (ys:=hd) (y':=(AF.mk ((Ax hd ((hd.length:Int)-1)).fPairs) ((Ax hd ((hd.length:Int)-1)).fLeft) ((Ax hd ((hd.length:Int)-1)).fKey) ((Ax v hb).fStr) ((Ax hd ((hd.length:Int)-1)).fStarted))) (i:=3) (j:=(hd.length:Int)-1) CE Aa Aa (BR Aa) Aa hj Aa Aa (H':=[.blk hf (Ae (Ax v hb)) 70,.blk b2 (Bu ha) 143,.blk b1 [A4 0,A4 0,rB false,rB false] 143,.row he 190 5 (A8 AN (List.set hd (Ca ((hd.length:Int)-1)) (AF.mk ((Ax hd ((hd.length:Int)-1)).fPairs) ((Ax hd ((hd.length:Int)-1)).fLeft) ((Ax hd ((hd.length:Int)-1)).fKey) ((Ax v hb).fStr) ((Ax hd ((hd.length:Int)-1)).fStarted))))]) Aa (bd gb λhr ht gd=>?_)))))))))));rw[← ht];refine wv (r:=rv (Gl 5 he (Ca ((hd.length:Int)-1)) 0)) (CR (k:=3) Aa (BI (D6 hj ht)) Aa Aa) (wv (r:=rv (Gl 5 he (Ca ((hd.length:Int)-1)) 4)) (Gj (k:=3) JR Aa Jz Aa (BI (D6 hj ht)) Aa Aa Aa) (Ko (enc:=AN) (ys:=hr) (y':=(AF.mk ((Ax hr ((hd.length:Int)-1)).fPairs) ((Ax hr ((hd.length:Int)-1)).fLeft) ((Ax hr ((hd.length:Int)-1)).fKey) ((Ax hr ((hd.length:Int)-1)).fLast) true)) (i:=3) (j:=(hd.length:Int)-1) Jz Aa Aa (BR Aa) Aa (D6 hj ht) Aa Aa (H':=[.blk hf (Ae (Ax v hb)) 70,.blk b2 (Bu ha) 143,.blk b1 [A4 0,A4 0,rB false,rB false] 143,.row he 190 5 (A8 AN (List.set hr (Ca ((hd.length:Int)-1)) (AF.mk ((Ax hr ((hd.length:Int)-1)).fPairs) ((Ax hr ((hd.length:Int)-1)).fLeft) ((Ax hr ((hd.length:Int)-1)).fKey) ((Ax hr ((hd.length:Int)-1)).fLast) true)))]) Aa (bd gd λhs h0 gf=>?_)));rw[← h0];refine wv (r:=rv (Gl 5 he (Ca ((hd.length:Int)-1)) 0)) (CR (k:=3) Aa (BI (D6 (D6 hj ht) h0)) Aa Aa) (wv (r:=rv (Gl 5 he (Ca ((hd.length:Int)-1)) 2)) (Gj (k:=3) JR Aa Jz Aa (BI (D6 (D6 hj ht) h0)) Aa Aa Aa) (Ko (enc:=AN) (ys:=hs) (y':=(AF.mk ((Ax hs ((hd.length:Int)-1)).fPairs) ((Ax hs ((hd.length:Int)-1)).fLeft) false ((Ax hs ((hd.length:Int)-1)).fLast) ((Ax hs ((hd.length:Int)-1)).fStarted))) (i:=3) (j:=(hd.length:Int)-1) Jz Aa Aa (BR Aa) Aa (D6 (D6 hj ht) h0) Aa Aa (H':=[.blk hf (Ae (Ax v hb)) 70,.blk b2 (Bu ha) 143,.blk b1 [A4 0,A4 0,rB false,rB false] 143,.row he 190 5 (A8 AN (List.set hs (Ca ((hd.length:Int)-1)) (AF.mk ((Ax hs ((hd.length:Int)-1)).fPairs) ((Ax hs ((hd.length:Int)-1)).fLeft) false ((Ax hs ((hd.length:Int)-1)).fLast) ((Ax hs ((hd.length:Int)-1)).fStarted))))]) Aa (bd gf λhu gg gh=>?_)));rw[← gg];refine Ao (Ak (ob gh λhm gi gj=>ck gj λgl gm=>Ex (H1:=[.blk hf (Ae (Ax v hb)) 70,.blk b2 [A4 ha.fDepth,A4 (IntKind.wrap .i64 (ha.fBytes+(hm+1))),rB ha.fOutside,rB ha.fLong] 143,.blk b1 [A4 0,A4 0,rB false,rB false] 143,.row he 190 5 (A8 AN hu)]) [0,3,5,6,8,11,12,13,38,39,40,41] [⟨[],rP b2 1,0⟩,⟨[0],A4 ha.fBytes,1⟩,⟨[],rP hf 2,0⟩,⟨[2],rS ((Ax v hb).fStr),1⟩,⟨[3],A4 hm,0⟩,⟨[4],A4 (hm+1),0⟩,⟨[1,5],A4 (IntKind.wrap .i64 (ha.fBytes+(hm+1))),0⟩,⟨[],rP b2 1,0⟩,⟨[7,6],rv undef,2⟩] (rle [(9,_),(1,[.blk hf (Ae (Ax v hb)) 70,.blk b2 [A4 ha.fDepth,A4 (IntKind.wrap .i64 (ha.fBytes+(hm+1))),rB ha.fOutside,rB ha.fLong] 143,.blk b1 [A4 0,A4 0,rB false,rB false] 143,.row he 190 5 (A8 AN hu)])]) [68,69,70,71,72,73,74,75,0,3,5,6,8,11,12,13,38,39,40,41] ?_ ?_))
     ·refine oq (Az G7 Aa CK Aa Aa) (of (AT (i:=1) Df Aa Aa Aa) (oq (Az BD Aa CE Aa Aa) (of (AT (i:=0) Dp Aa Aa Aa) (Jk Aa (λH=>Cm Tryz.call140 (QB ((Ax v hb).fStr) hm gi) Aa) ?_))));refine oq (By Aa Aa gl) (oq (Vj Aa Aa) (oq (Az G7 Aa CK Aa Aa) (DZ Aa (HO (Da (i:=1) CK Aa Aa (BR Aa) Aa Aa (cs':=[A4 ha.fDepth,A4 (IntKind.wrap .i64 (ha.fBytes+(hm+1))),rB ha.fOutside,rB ha.fLong]) Aa (H':=[.blk hf (Ae (Ax v hb)) 70,.blk b2 [A4 ha.fDepth,A4 (IntKind.wrap .i64 (ha.fBytes+(hm+1))),rB ha.fOutside,rB ha.fLong] 143,.blk b1 [A4 0,A4 0,rB false,rB false] 143,.row he 190 5 (A8 AN hu)]) Aa)) ?_)));exact EK
     refine AE (A5 [(0,AO 4 (A8 Ae v)),(3,rP b1 0),(5,rP b2 0),(6,rv he),(11,AO 4 (A8 Ae v)),(12,A4 (v.length:Int)),(13,A4 hb),(38,rP hf 0),(39,A4 ((Ax v hb).fKind)),(40,rB (!decide (((Ax v hb).fKind)=4))),(41,rB (!decide (((Ax v hb).fKind)=4))),(68,rP b2 1),(69,A4 ha.fBytes),(70,rP hf 2),(71,rS ((Ax v hb).fStr)),(72,A4 hm),(73,A4 (hm+1)),(74,A4 (IntKind.wrap .i64 (ha.fBytes+(hm+1)))),(75,rP b2 1)] [.blk hf (Ae (Ax v hb)) 70,.blk b2 [A4 ha.fDepth,A4 (IntKind.wrap .i64 (ha.fBytes+(hm+1))),rB ha.fOutside,rB (ha.fLong||(decide (200<(((Ax v hb).fStr).length:Int))))] 143,.blk b1 [A4 0,A4 0,rB false,rB false] 143,.row he 190 5 (A8 AN hu)] ?_ ?_)
     ·refine Af (vF G7 Aa Jz (vL 1 Qg Aa (wm Aa (AA (ha.fLong) (λho=>?_) (λho=>?_)))))
      ·refine wf ho (wf ho (wf ho (wf ho (wv (r:=rB true) (An Aa ho Aa) (vF G7 Aa Jz (us (i:=1) Jz Aa Aa (BR Aa) Aa Aa ?_))))));refine Ah (LF (H':=[.blk hf (Ae (Ax v hb)) 70,.blk b2 [A4 ha.fDepth,A4 (IntKind.wrap .i64 (ha.fBytes+(hm+1))),rB ha.fOutside,rB (ha.fLong||(decide (200<(((Ax v hb).fStr).length:Int))))] 143,.blk b1 [A4 0,A4 0,rB false,rB false] 143,.row he 190 5 (A8 AN hu)]) (by simp only[ho,AeP,AeT,Afb,AeS,AeX,AeV,Afa,AeY,AeL,AeU,AeW,AeM]) ?_);exact wt
      refine wo ho (vF BD Aa CE (wo ho (vL 0 Dp Aa (wo ho (wv (B0 C4 Aa) (wo ho (wv (Dc Aa Aa) (Ep Aa ho Aa (vF G7 Aa Jz (us (i:=1) Jz Aa Aa (BR Aa) Aa Aa ?_))))))))));refine Ah (LF (H':=[.blk hf (Ae (Ax v hb)) 70,.blk b2 [A4 ha.fDepth,A4 (IntKind.wrap .i64 (ha.fBytes+(hm+1))),rB ha.fOutside,rB (ha.fLong||(decide (200<(((Ax v hb).fStr).length:Int))))] 143,.blk b1 [A4 0,A4 0,rB false,rB false] 143,.row he 190 5 (A8 AN hu)]) (by simp only[ho,AeP,AeT,Afb,AeS,AeX,AeV,Afa,AeY,AeL,AeU,AeW,AeM]) ?_);exact wt
     exact Bn (Av (AW (Ar (AC ((hu,(AR.mk ha.fDepth (IntKind.wrap .i64 (ha.fBytes+(hm+1))) ha.fOutside (ha.fLong||(decide (200<(((Ax v hb).fStr).length:Int)))))),he) gm (AH.c Aa (AH.c Aa (AH.c5 Aa Aa Aa Aa Aa AH.nil))) (sS (sC (sC (sC sN))))))))
    refine Aw (AE (Ad (vF G7 Aa CK (vL 1 Df Aa (wm Aa (wv (D3 (ys:=hd) (enc:=AN) (i:=3) JS Aa Aa) (ck hV λgp gq=>wv (By Aa Aa gp) (wv (Zo yu3 Aa Aa) (vF G7 Aa CK (us (i:=1) CK Aa Aa (BR Aa) Aa Aa ?_))))))))));refine Ao (Ak (ob gq λhg gr gs=>Ex (H1:=[.blk hf (Ae (Ax v hb)) 70,.blk b2 [A4 (max ha.fDepth ((hd.length:Int)+1)),A4 (IntKind.wrap .i64 (ha.fBytes+hg)),rB ha.fOutside,rB ha.fLong] 143,.blk b1 [A4 0,A4 0,rB false,rB false] 143,.row he 190 5 (A8 AN hd)]) [0,3,5,6,7,8,11,12,13] [⟨[],rP b2 1,0⟩,⟨[0],A4 ha.fBytes,1⟩,⟨[],B9 (Ae (Ax v hb)),1⟩,⟨[2],A4 hg,0⟩,⟨[1,3],A4 (IntKind.wrap .i64 (ha.fBytes+hg)),0⟩,⟨[],rP b2 1,0⟩,⟨[5,4],rv undef,2⟩] (rle [(7,_),(1,[.blk hf (Ae (Ax v hb)) 70,.blk b2 [A4 (max ha.fDepth ((hd.length:Int)+1)),A4 (IntKind.wrap .i64 (ha.fBytes+hg)),rB ha.fOutside,rB ha.fLong] 143,.blk b1 [A4 0,A4 0,rB false,rB false] 143,.row he 190 5 (A8 AN hd)])]) [92,93,94,95,96,97,0,3,5,6,7,8,11,12,13] ?_ ?_))
    ·refine oq (Az G7 Aa CK Aa Aa) (of (AT (i:=1) Df Aa Aa Aa) (of (Be (i:=0) Od CJ Aa Aa Aa Aa) (Jk Aa (λH=>Cm Tryz.call141 (Aa9 (Ax v hb) hg gr) Aa) ?_)));refine oq (Vj Aa Aa) (oq (Az G7 Aa CK Aa Aa) (DZ Aa (HO (Da (i:=1) CK Aa Aa (BR Aa) Aa Aa (cs':=[A4 (max ha.fDepth ((hd.length:Int)+1)),A4 (IntKind.wrap .i64 (ha.fBytes+hg)),rB ha.fOutside,rB ha.fLong]) Aa (H':=[.blk hf (Ae (Ax v hb)) 70,.blk b2 [A4 (max ha.fDepth ((hd.length:Int)+1)),A4 (IntKind.wrap .i64 (ha.fBytes+hg)),rB ha.fOutside,rB ha.fLong] 143,.blk b1 [A4 0,A4 0,rB false,rB false] 143,.row he 190 5 (A8 AN hd)]) Aa)) ?_));exact EK
    refine AE (ck gs λgu gv=>A5 [(0,AO 4 (A8 Ae v)),(3,rP b1 0),(5,rP b2 0),(6,rv he),(7,A4 hb),(8,rP hf 0),(11,AO 4 (A8 Ae v)),(12,A4 (v.length:Int)),(13,A4 hb),(92,rP b2 1),(93,A4 ha.fBytes),(94,B9 (Ae (Ax v hb))),(95,A4 hg),(96,A4 (IntKind.wrap .i64 (ha.fBytes+hg))),(97,rP b2 1)] [.blk hf (Ae (Ax v hb)) 70,.blk b2 [A4 (max ha.fDepth ((hd.length:Int)+1)),A4 (IntKind.wrap .i64 (ha.fBytes+hg)),rB (ha.fOutside||((decide (((Ax v hb).fKind)=3))&&(!(ov (Cs ((Ax v hb).fInt)))))),rB ha.fLong] 143,.blk b1 [A4 0,A4 0,rB false,rB false] 143,.row he 190 5 (A8 AN hd)] ?_ ?_)
    ·refine Af (vF G7 Aa Jz (vL 1 Qg Aa (wm Aa (AA (ha.fOutside) (λhl=>?_) (λhl=>?_)))))
     ·refine wf hl (wf hl (wf hl (wf hl (wu (wu (wu (wu (wf hl (wv (r:=rB true) (An Aa hl Aa) (vF G7 Aa Jz (us (i:=1) Jz Aa Aa (BR Aa) Aa Aa ?_)))))))))));refine Ah (LF (H':=[.blk hf (Ae (Ax v hb)) 70,.blk b2 [A4 (max ha.fDepth ((hd.length:Int)+1)),A4 (IntKind.wrap .i64 (ha.fBytes+hg)),rB (ha.fOutside||((decide (((Ax v hb).fKind)=3))&&(!(ov (Cs ((Ax v hb).fInt)))))),rB ha.fLong] 143,.blk b1 [A4 0,A4 0,rB false,rB false] 143,.row he 190 5 (A8 AN hd)]) (by simp only[hl,AeP,AeT,Afb,AeS,AeX,AeV,Afa,AeY,AeL,AeU,AeW,AeM]) ?_);exact wt
     refine wo hl (vF BD Aa DU (wo hl (vL 0 DV Aa (wo hl (wv (B7 Aa Aa) (wo hl (wm Aa (AA (decide (((Ax v hb).fKind)=3)) (λhn=>?_) (λhn=>?_)))))))))
     ·refine wo hn (vF BD Aa CK (wo hn (vL 0 Df Aa (wo hn (BP Tryz.call142 (Zu ((Ax v hb).fInt) (ov (Cs ((Ax v hb).fInt))) (Cr (BF (C3 gu hl) hn))) Aa (wo hn (wv (BO Aa) (wo hl (E0 Aa hn Aa (Ep Aa hl Aa (vF G7 Aa Jz (us (i:=1) Jz Aa Aa (BR Aa) Aa Aa ?_))))))))))));refine Ah (LF (H':=[.blk hf (Ae (Ax v hb)) 70,.blk b2 [A4 (max ha.fDepth ((hd.length:Int)+1)),A4 (IntKind.wrap .i64 (ha.fBytes+hg)),rB (ha.fOutside||((decide (((Ax v hb).fKind)=3))&&(!(ov (Cs ((Ax v hb).fInt)))))),rB ha.fLong] 143,.blk b1 [A4 0,A4 0,rB false,rB false] 143,.row he 190 5 (A8 AN hd)]) (by simp only[hl,hn,AeP,AeT,Afb,AeS,AeX,AeV,Afa,AeY,AeL,AeU,AeW,AeM]) ?_);exact wt
     refine wf hn (wf hn (wf hn (wf hn (wo hl (wv (r:=rB false) (Ay Aa hn Aa) (Ep Aa hl Aa (vF G7 Aa Jz (us (i:=1) Jz Aa Aa (BR Aa) Aa Aa ?_))))))));refine Ah (LF (H':=[.blk hf (Ae (Ax v hb)) 70,.blk b2 [A4 (max ha.fDepth ((hd.length:Int)+1)),A4 (IntKind.wrap .i64 (ha.fBytes+hg)),rB (ha.fOutside||((decide (((Ax v hb).fKind)=3))&&(!(ov (Cs ((Ax v hb).fInt)))))),rB ha.fLong] 143,.blk b1 [A4 0,A4 0,rB false,rB false] 143,.row he 190 5 (A8 AN hd)]) (by simp only[hl,hn,AeP,AeT,Afb,AeS,AeX,AeV,Afa,AeY,AeL,AeU,AeW,AeM]) ?_);exact wt
    refine A5 [(0,AO 4 (A8 Ae v)),(3,rP b1 0),(5,rP b2 0),(6,rv he),(7,A4 hb),(8,rP hf 0),(11,AO 4 (A8 Ae v)),(12,A4 (v.length:Int)),(13,A4 hb),(92,rP b2 1),(93,A4 ha.fBytes),(94,B9 (Ae (Ax v hb))),(95,A4 hg),(96,A4 (IntKind.wrap .i64 (ha.fBytes+hg))),(97,rP b2 1)] [.blk hf (Ae (Ax v hb)) 70,.blk b2 [A4 (max ha.fDepth ((hd.length:Int)+1)),A4 (IntKind.wrap .i64 (ha.fBytes+hg)),rB (ha.fOutside||((decide (((Ax v hb).fKind)=3))&&(!(ov (Cs ((Ax v hb).fInt)))))),rB (ha.fLong||(decide (200<(((Ax v hb).fStr).length:Int))))] 143,.blk b1 [A4 0,A4 0,rB false,rB false] 143,.row he 190 5 (A8 AN hd)] ?_ ?_
    ·refine Af (vF G7 Aa Jz (vL 1 Qg Aa (wm Aa (AA (ha.fLong) (λhp=>?_) (λhp=>?_)))))
     ·refine wf hp (wf hp (wf hp (wf hp (wv (r:=rB true) (An Aa hp Aa) (vF G7 Aa Jz (us (i:=1) Jz Aa Aa (BR Aa) Aa Aa ?_))))));refine Ah (LF (H':=[.blk hf (Ae (Ax v hb)) 70,.blk b2 [A4 (max ha.fDepth ((hd.length:Int)+1)),A4 (IntKind.wrap .i64 (ha.fBytes+hg)),rB (ha.fOutside||((decide (((Ax v hb).fKind)=3))&&(!(ov (Cs ((Ax v hb).fInt)))))),rB (ha.fLong||(decide (200<(((Ax v hb).fStr).length:Int))))] 143,.blk b1 [A4 0,A4 0,rB false,rB false] 143,.row he 190 5 (A8 AN hd)]) (by simp only[hp,AeP,AeT,Afb,AeS,AeX,AeV,Afa,AeY,AeL,AeU,AeW,AeM]) ?_);exact wt
     refine wo hp (vF BD Aa CE (wo hp (vL 0 Dp Aa (wo hp (wv (B0 C4 Aa) (wo hp (wv (Dc Aa Aa) (Ep Aa hp Aa (vF G7 Aa Jz (us (i:=1) Jz Aa Aa (BR Aa) Aa Aa ?_))))))))));refine Ah (LF (H':=[.blk hf (Ae (Ax v hb)) 70,.blk b2 [A4 (max ha.fDepth ((hd.length:Int)+1)),A4 (IntKind.wrap .i64 (ha.fBytes+hg)),rB (ha.fOutside||((decide (((Ax v hb).fKind)=3))&&(!(ov (Cs ((Ax v hb).fInt)))))),rB (ha.fLong||(decide (200<(((Ax v hb).fStr).length:Int))))] 143,.blk b1 [A4 0,A4 0,rB false,rB false] 143,.row he 190 5 (A8 AN hd)]) (by simp only[hp,AeP,AeT,Afb,AeS,AeX,AeV,Afa,AeY,AeL,AeU,AeW,AeM]) ?_);exact wt
    refine Ak (Ad (vF BD Aa CK (vL 0 Df Aa (wv (Dc Aa Aa) (Ao (cz gv Aa (λgw gx=>?_) (λgw gy=>?_)))))))
    ·refine Ak (Ad (vF BD Aa CK (vL 0 Df Aa (wm Aa (wv (Bj (ys:=v) (enc:=Ae) CL Aa) (wv (Dc Aa Aa) (Ao (cz gx Aa (λgz g0=>?_) (λgz g1=>?_)))))))))
     ·refine Ak (Ex (H1:=[.blk hf (Ae (Ax v hb)) 70,.blk b2 [A4 (max ha.fDepth ((hd.length:Int)+1)),A4 (IntKind.wrap .i64 (ha.fBytes+hg)),rB (ha.fOutside||((decide (((Ax v hb).fKind)=3))&&(!(ov (Cs ((Ax v hb).fInt)))))),rB (ha.fLong||(decide (200<(((Ax v hb).fStr).length:Int))))] 143,.blk b1 [A4 (max ha.fDepth ((hd.length:Int)+1)),A4 (IntKind.wrap .i64 (ha.fBytes+hg)),rB (ha.fOutside||((decide (((Ax v hb).fKind)=3))&&(!(ov (Cs ((Ax v hb).fInt)))))),rB (ha.fLong||(decide (200<(((Ax v hb).fStr).length:Int))))] 143,.row he 190 5 (A8 AN hd)]) [3,5] [⟨[],B9 [A4 (max ha.fDepth ((hd.length:Int)+1)),A4 (IntKind.wrap .i64 (ha.fBytes+hg)),rB (ha.fOutside||((decide (((Ax v hb).fKind)=3))&&(!(ov (Cs ((Ax v hb).fInt)))))),rB (ha.fLong||(decide (200<(((Ax v hb).fStr).length:Int))))],1⟩,⟨[],A4 0,0⟩,⟨[0],rv undef,2⟩,⟨[],rB false,0⟩] (rle [(3,_),(2,[.blk hf (Ae (Ax v hb)) 70,.blk b2 [A4 (max ha.fDepth ((hd.length:Int)+1)),A4 (IntKind.wrap .i64 (ha.fBytes+hg)),rB (ha.fOutside||((decide (((Ax v hb).fKind)=3))&&(!(ov (Cs ((Ax v hb).fInt)))))),rB (ha.fLong||(decide (200<(((Ax v hb).fStr).length:Int))))] 143,.blk b1 [A4 (max ha.fDepth ((hd.length:Int)+1)),A4 (IntKind.wrap .i64 (ha.fBytes+hg)),rB (ha.fOutside||((decide (((Ax v hb).fKind)=3))&&(!(ov (Cs ((Ax v hb).fInt)))))),rB (ha.fLong||(decide (200<(((Ax v hb).fStr).length:Int))))] 143,.row he 190 5 (A8 AN hd)])]) [2,4,3] ?_ ?_)
      ·refine of (Be (i:=1) Lv GV Aa Aa Aa Aa) (oq (A0 Aa) (DZ Aa (HO (Gu (i:=2) GV Aa Aa Aa (B8.c Aa) Aa Aa (cs':=[A4 (max ha.fDepth ((hd.length:Int)+1)),A4 (IntKind.wrap .i64 (ha.fBytes+hg)),rB (ha.fOutside||((decide (((Ax v hb).fKind)=3))&&(!(ov (Cs ((Ax v hb).fInt)))))),rB (ha.fLong||(decide (200<(((Ax v hb).fStr).length:Int))))]) Aa (H':=[.blk hf (Ae (Ax v hb)) 70,.blk b2 [A4 (max ha.fDepth ((hd.length:Int)+1)),A4 (IntKind.wrap .i64 (ha.fBytes+hg)),rB (ha.fOutside||((decide (((Ax v hb).fKind)=3))&&(!(ov (Cs ((Ax v hb).fInt)))))),rB (ha.fLong||(decide (200<(((Ax v hb).fStr).length:Int))))] 143,.blk b1 [A4 (max ha.fDepth ((hd.length:Int)+1)),A4 (IntKind.wrap .i64 (ha.fBytes+hg)),rB (ha.fOutside||((decide (((Ax v hb).fKind)=3))&&(!(ov (Cs ((Ax v hb).fInt)))))),rB (ha.fLong||(decide (200<(((Ax v hb).fStr).length:Int))))] 143,.row he 190 5 (A8 AN hd)]) Aa)) ?_));refine oq (A0 Aa) ?_;exact EK
      refine AE (Ap (Ab (Ab (A3 (Ab (Ab (Bg ?_)))))));have g2:=BC g0 hw hy;refine A3 (Ab (Ma ?_));obtain rfl:=Au g2;exact Aq (U7 Yr (AD Aa) (Dv (i:=2) Lv GV Aa Aa Aa) (AD Aa)) (sS (sS (sS (sS sN)))) ⟨Aa,Aa⟩
     refine Aw (AE (Ad (wm Aa (vF BD Aa DU (vL 0 DV Aa (wv (B7 Aa Aa) (vF BD Aa CK (vL 0 Df Aa (vF BD Aa DU (vL 0 DV Aa (wv (B7 Aa Aa) (wv (r:=B9 [rB (decide (((Ax v hb).fKind)=6)),A4 ((Ax v hb).fN),rB (decide (((Ax v hb).fKind)=6)),rS ([]:Ai),rB false]) (Nr Aa Aa Aa Aa Aa Aa) (Bc (ys:=([(AF.mk (decide (((Ax v hb).fKind)=6)) ((Ax v hb).fN) (decide (((Ax v hb).fKind)=6)) ([]:Ai) false)]:List AF)) (enc:=AN) (css:=[[rB (decide (((Ax v hb).fKind)=6)),A4 ((Ax v hb).fN),rB (decide (((Ax v hb).fKind)=6)),rS ([]:Ai),rB false]]) (xs:=[.tmp 139]) JS SL Tryz.zeroValue190 Aa Aa Aa ⟨Ez.agg ⟨Up.refl _,Up.refl _,Up.refl _,Up.refl _,Up.refl _,trivial⟩,trivial⟩ Aa JX Aa Aa Aa (λgK=>?_))))))))))))));refine ck g1 λg3 g4=>Exists.elim Abu λinf hinf=>Er (xs:=hd) (ys:=([(AF.mk (decide (((Ax v hb).fKind)=6)) ((Ax v hb).fN) (decide (((Ax v hb).fKind)=6)) ([]:Ai) false)]:List AF)) (enc:=AN) (i:=4) JS hinf.1 hinf.2.1 hinf.2.2.1 hinf.2.2.2 Aa Aa Aa Aa Aa (Q3.w (i:=0) Aa Aa) JX Ok g3 Aa (λg5=>?_);refine wa Aa (Ao (Bn (Av (AW (NH [3,3] ?_)))));exact Ar (AC ((hd++([(AF.mk (decide (((Ax v hb).fKind)=6)) ((Ax v hb).fN) (decide (((Ax v hb).fKind)=6)) ([]:Ai) false)]:List AF),(AR.mk (max ha.fDepth ((hd.length:Int)+1)) (IntKind.wrap .i64 (ha.fBytes+hg)) (ha.fOutside||((decide (((Ax v hb).fKind)=3))&&(!(ov (Cs ((Ax v hb).fInt)))))) (ha.fLong||(decide (200<(((Ax v hb).fStr).length:Int)))))),g5) g4 (AH.c Aa (AH.c Aa (AH.c5 Aa Aa Aa Aa Aa AH.nil))) (sC (sC (sC (sS (sS sN))))))
    refine Aw (AE (Ad (wm Aa (ob gy λhx g6 g7=>J3 [3] Tryz.call143 (Xf F he hd hx g6) ?_))));rintro _ _ ⟨h1,rfl,rfl⟩;refine wa Aa (Bp (wm Aa (wv (D3 (ys:=hx) (enc:=AN) (i:=0) JS Aa Aa) (wv (B7 Aa Aa) (Ao (cz g7 Aa (λg8 g9=>?_) (λg8 gA=>?_)))))))
    ·refine Ak (ck g9 λgB gC=>Ex (H1:=[.row h1 190 5 (A8 AN hx),.blk hf (Ae (Ax v hb)) 70,.blk b2 [A4 (max ha.fDepth ((hd.length:Int)+1)),A4 (IntKind.wrap .i64 (ha.fBytes+hg)),rB (ha.fOutside||((decide (((Ax v hb).fKind)=3))&&(!(ov (Cs ((Ax v hb).fInt)))))),rB (ha.fLong||(decide (200<(((Ax v hb).fStr).length:Int))))] 143,.blk b1 [A4 (max ha.fDepth ((hd.length:Int)+1)),A4 (IntKind.wrap .i64 (ha.fBytes+hg)),rB (ha.fOutside||((decide (((Ax v hb).fKind)=3))&&(!(ov (Cs ((Ax v hb).fInt)))))),rB (ha.fLong||(decide (200<(((Ax v hb).fStr).length:Int))))] 143]) [3,5,7] [⟨[],A4 hb,0⟩,⟨[0],A4 (hb+1),0⟩,⟨[],B9 [A4 (max ha.fDepth ((hd.length:Int)+1)),A4 (IntKind.wrap .i64 (ha.fBytes+hg)),rB (ha.fOutside||((decide (((Ax v hb).fKind)=3))&&(!(ov (Cs ((Ax v hb).fInt)))))),rB (ha.fLong||(decide (200<(((Ax v hb).fStr).length:Int))))],1⟩,⟨[1],A4 (hb+1),0⟩,⟨[2],rv undef,2⟩,⟨[],rB true,0⟩] (rle [(5,_),(2,[.row h1 190 5 (A8 AN hx),.blk hf (Ae (Ax v hb)) 70,.blk b2 [A4 (max ha.fDepth ((hd.length:Int)+1)),A4 (IntKind.wrap .i64 (ha.fBytes+hg)),rB (ha.fOutside||((decide (((Ax v hb).fKind)=3))&&(!(ov (Cs ((Ax v hb).fInt)))))),rB (ha.fLong||(decide (200<(((Ax v hb).fStr).length:Int))))] 143,.blk b1 [A4 (max ha.fDepth ((hd.length:Int)+1)),A4 (IntKind.wrap .i64 (ha.fBytes+hg)),rB (ha.fOutside||((decide (((Ax v hb).fKind)=3))&&(!(ov (Cs ((Ax v hb).fInt)))))),rB (ha.fLong||(decide (200<(((Ax v hb).fStr).length:Int))))] 143])]) [2,4,3] ?_ ?_)
     ·refine oq (Am Aa) (oq (By Aa Aa gB) (of (Be (i:=2) Lv GV Aa Aa Aa Aa) (oq (A0 Aa) (DZ Aa (HO (Gu (i:=3) GV Aa Aa Aa (B8.c Aa) Aa Aa (cs':=[A4 (max ha.fDepth ((hd.length:Int)+1)),A4 (IntKind.wrap .i64 (ha.fBytes+hg)),rB (ha.fOutside||((decide (((Ax v hb).fKind)=3))&&(!(ov (Cs ((Ax v hb).fInt)))))),rB (ha.fLong||(decide (200<(((Ax v hb).fStr).length:Int))))]) Aa (H':=[.row h1 190 5 (A8 AN hx),.blk hf (Ae (Ax v hb)) 70,.blk b2 [A4 (max ha.fDepth ((hd.length:Int)+1)),A4 (IntKind.wrap .i64 (ha.fBytes+hg)),rB (ha.fOutside||((decide (((Ax v hb).fKind)=3))&&(!(ov (Cs ((Ax v hb).fInt)))))),rB (ha.fLong||(decide (200<(((Ax v hb).fStr).length:Int))))] 143,.blk b1 [A4 (max ha.fDepth ((hd.length:Int)+1)),A4 (IntKind.wrap .i64 (ha.fBytes+hg)),rB (ha.fOutside||((decide (((Ax v hb).fKind)=3))&&(!(ov (Cs ((Ax v hb).fInt)))))),rB (ha.fLong||(decide (200<(((Ax v hb).fStr).length:Int))))] 143]) Aa)) ?_))));refine oq (A0 Aa) ?_;exact EK
     refine AE (Ap (A3 (Ab (Ab (Bg ?_)))));have gD:=BC gC hw hy;refine A3 (Ab (Ma ?_));obtain rfl:=Au gD;exact Aq (U7 Yr (AD Aa) (Dv (i:=3) Lv GV Aa Aa Aa) (AD Aa)) (sS (sS (sS (sS sN)))) ⟨Aa,Aa⟩
    refine Aw (AB (NH [2,2] ?_));exact Ar (AC ((hx,(AR.mk (max ha.fDepth ((hd.length:Int)+1)) (IntKind.wrap .i64 (ha.fBytes+hg)) (ha.fOutside||((decide (((Ax v hb).fKind)=3))&&(!(ov (Cs ((Ax v hb).fInt)))))) (ha.fLong||(decide (200<(((Ax v hb).fStr).length:Int)))))),h1) gA (AH.c Aa (AH.c Aa (AH.c5 Aa Aa Aa Aa Aa AH.nil))) (sC (sC (sC (sS sN)))))
   rintro⟨⟨h6,h7⟩,gE⟩ h2;refine GI ?_;replace h2:Gm hb h6 h7=some h4:=h2;unfold Gm at h2;refine Af (ck h2 λgF gG=>wv (By Aa Aa gF) (wm Aa (Ah ?_)));have gH:=Bi gG hw;exact Ar (AC (hB,(h6,hb+1,h7),gE) ⟨gH,AeR _⟩ (AH.c Aa (AH.c Aa (AH.c5 Aa Aa Aa Aa Aa AH.nil))) (sC (sC (sC sN))))
  refine Bn (Av ?_);have gI:=BE hE hw hy;exact Av (AY (AC (ha,()) gI (AH.c Aa (AH.c Aa AH.nil)) (sC (sC (sS sN)))))
 rintro⟨hq,⟨⟩⟩ h3;refine GX ?_;replace h3:Mg hq=some r:=h3;unfold Mg at h3;refine AW (AE (Ak (Ex (H1:=[.blk b2 (Bu hq) 143,.blk b1 (Bu hq) 143]) [3,5] [⟨[],B9 (Bu hq),1⟩,⟨[],A4 0,0⟩,⟨[0],rv undef,2⟩,⟨[],rB false,0⟩] (rle [(3,_),(2,[.blk b2 (Bu hq) 143,.blk b1 (Bu hq) 143])]) [2,4,3] ?_ ?_)))
 ·refine of (Be (i:=0) Lv GV Aa Aa Aa Aa) (oq (A0 Aa) (DZ Aa (HO (Gu (i:=1) GV Aa Aa Aa (B8.c Aa) Aa Aa (cs':=[A4 hq.fDepth,A4 hq.fBytes,rB hq.fOutside,rB hq.fLong]) Aa (H':=[.blk b2 (Bu hq) 143,.blk b1 (Bu hq) 143]) Aa)) ?_));refine oq (A0 Aa) ?_;exact EK
 refine AE (Ap (Ma ?_));obtain rfl:=Au h3;exact Aq (U7 Yr (AD Aa) (Dv (i:=1) Lv GV Aa Aa Aa) (AD Aa)) (sS (sS sN)) ⟨Aa,Aa⟩
theorem Mj (F:Nat)(v:(List Ac))(r:Int)(h:J7 F v=some r):Fn Tryz.prog GE 36 [AO 4 (A8 Ae v)] [] (λR H=>R=A4 r∧H=[]):=by
 refine enter (n:=42) Tryz.func36 Aa Tryz.ntmps36 Aa (λw Z=>?_);unfold J7 at h;refine Ad (wa Aa (Bp (wm Aa (ob h λr1 e3 h2=>BP Tryz.call95 (R0 F v r1 e3) Aa (wm Aa (wv (A7 Aa Aa) (wv (A7 Aa Aa) (wv (A7 Aa Aa) (BL (cs:=[A4 0,A4 0,rB false,rB false]) SG Aa Aa (λb4=>?_))))))))));refine wa Aa (GU (i:=0) GV Aa Aa Aa (B8.c Aa) Aa Aa ?_);refine wa Aa (Ao (Ak (A6 (A5 [(0,AO 4 (A8 Ae v)),(4,rP b4 0),(12,rB ((!r1.2.2)||(!decide (r1.1=(v.length:Int)))))] [.blk b4 (Bu r1.2.1) 143] ?_ ?_))))
 ·refine Af (wm Aa (wv (BO Aa) (wm Aa (AA (!r1.2.2) (λc5=>?_) (λc5=>?_)))))
  ·refine wf c5 (wf c5 (wf c5 (wf c5 (wv (r:=rB true) (An Aa c5 Aa) (wa Aa (Ah ?_))))));exact BH c5
  refine wo c5 (wm Aa (wo c5 (wm Aa (wo c5 (wv (Bj (ys:=v) (enc:=Ae) CL Aa) (wo c5 (wv (CH Aa Aa) (Ep Aa c5 Aa (wa Aa (Ah ?_))))))))));exact BH c5
 refine cz h2 Aa (λc6 h7=>?_) (λc6 h8=>?_)
 ·refine Ad (wa Aa (Ao (Ap (A3 (Ab ?_)))));obtain rfl:=Au h7;exact Aq (B2 Aa1 (AD Aa)) (sS sN) ⟨Aa,Aa⟩
 refine Ad (vF G7 Aa Jz (vL 0 Qg Aa (wa Aa (Ao (cz h8 Aa (λc9 he=>?_) (λc9 hf=>?_))))))
 ·refine Ad (wa Aa (Ao (Ap (A3 (Ab ?_)))));obtain rfl:=Au he;exact Aq (B2 Aa1 (AD Aa)) (sS sN) ⟨Aa,Aa⟩
 refine A5 [(24,rB (r1.2.1.fLong||((decide (200<(v.length:Int)))||((decide (8<r1.2.1.fDepth))||(decide (4000<r1.2.1.fBytes))))))] [] ?_ ?_
 ·refine Af (vF G7 Aa Jz (vL 0 Qg Aa (wm Aa (AA (r1.2.1.fLong) (λha=>?_) (λha=>?_)))))
  ·refine wf ha (wf ha (wf ha (wv (r:=rB true) (An Aa ha Aa) (wm Aa (wz Aa Aa (wz Aa Aa (wz Aa Aa (wv (r:=rB true) (An (b:=true) Aa Aa Aa) (wm Aa (wz Aa Aa (wz Aa Aa (wz Aa Aa (wv (r:=rB true) (An (b:=true) Aa Aa Aa) (wa Aa (Ah ?_)))))))))))))));exact BH ha
  refine wo ha (wm Aa (wo ha (wv (Bj (ys:=v) (enc:=Ae) CL Aa) (wo ha (wv (Dc Aa Aa) (Ep Aa ha Aa (wm Aa (AA (decide (200<(v.length:Int))) (λhb=>?_) (λhb=>?_)))))))))
  ·refine wf hb (wf hb (wf hb (wv (r:=rB true) (An Aa hb Aa) (wm Aa (wz Aa Aa (wz Aa Aa (wz Aa Aa (wv (r:=rB true) (An (b:=true) Aa Aa Aa) (wa Aa (Ah ?_))))))))));exact BH (And.intro ha hb)
  refine wo hb (vF G7 Aa CK (wo hb (vL 0 Df Aa (wo hb (wv (Dc Aa Aa) (Ep Aa hb Aa (wm Aa (AA (decide (8<r1.2.1.fDepth)) (λhd=>?_) (λhd=>?_)))))))))
  ·refine wf hd (wf hd (wf hd (wv (r:=rB true) (An Aa hd Aa) (wa Aa (Ah ?_)))));exact BH (And.intro ha (And.intro hb hd))
  refine wo hd (vF G7 Aa CK (wo hd (vL 0 Df Aa (wo hd (wv (Dc Aa Aa) (Ep Aa hd Aa (wa Aa (Ah ?_))))))));exact BH (And.intro ha (And.intro hb hd))
 refine cz hf Aa (λhg hh=>?_) (λhg hi=>?_)
 ·refine Ad (wa Aa (Ao (Ap (A3 (Ab ?_)))));obtain rfl:=Au hh;exact Aq (B2 Aa1 (AD Aa)) sN ⟨Aa,Aa⟩
 refine Aw (AB (AE (Ad (wa Aa (Ao (Ap ?_))))));obtain rfl:=Au hi;exact Aq (B2 Aa1 (AD Aa)) sN ⟨Aa,Aa⟩
theorem OY (F:Nat)(v:(List Ac))(r:(List Ac)×Int)(h:Mi F v=some r):Fn Tryz.prog GE 118 [AO 4 (A8 Ae v)] [] (λR H=>R=Dy [AO 4 (A8 Ae r.1),A4 r.2]∧H=[]):=by
 refine enter (n:=11) Tryz.func118 Aa Tryz.ntmps118 Aa (λw Z=>?_);unfold Mi at h;refine Ad (wa Aa (wa Aa (Ao (Ak (Ad (wm Aa (ob h λr1 e3 h2=>BP Tryz.call36 (Mj F v r1 e3) Aa (wa Aa (Bp (wm Aa (wv (CH Aa Aa) (Ao (cz h2 Aa (λc4 h5=>?_) (λc4 h6=>?_))))))))))))))
 ·refine Ad (wm Aa (wa Aa (wa Aa (Ao (Ap (Ab (WK.up (d:=2) (r:=AO 4 (A8 Ae ([]:List Ac))) Aa (Up.le (HS.nil _)) ?_)))))));obtain rfl:=Au h5;exact Aq (HW Tryz.results118 (AD Aa) (AD Aa)) sN ⟨Aa,Aa⟩
 refine Aw (AE (Ad (wm Aa (wa Aa (wa Aa (Ao (Ap ?_)))))));obtain rfl:=Au h6;exact Aq (HW Tryz.results118 (AD Aa) (AD Aa)) sN ⟨Aa,Aa⟩
theorem Oo  (r:(List Ac))(h:QC=some r):Fn Tryz.prog GE 63 [] [] (λR H=>R=AO 4 (A8 Ae r)∧H=[]):=by
 refine enter (n:=3) Tryz.func63 Aa Tryz.ntmps63 Aa (λw Z=>?_);unfold QC at h;refine Ad (wa Aa (Bp (wv (r:=B9 [A4 1,A4 0,rS ([]:Ai),A4 0]) (T8 Aa Aa) (Bc (ys:=([(Ac.mk 1 0 ([]:Ai) 0)]:List Ac)) (enc:=Ae) (css:=[[A4 1,A4 0,rS ([]:Ai),A4 0]]) (xs:=[.tmp 1]) CL CJ Oc Aa Aa Aa ⟨Ez.agg ⟨Up.refl _,Up.refl _,Up.refl _,Up.refl _,trivial⟩,trivial⟩ Aa Dx Aa Aa Aa (λb1=>?_)))));refine wa Aa (Ao (Ap (WK.freeze (i:=0) Aa (WK.up (d:=0) (r:=AO 4 (A8 Ae ([(Ac.mk 1 0 ([]:Ai) 0)]:List Ac))) Aa (Up.fact (i:=0) Aa) ?_))));obtain rfl:=Au h;exact Aq (B2 Tryz.results63 (AD Aa)) (sS sN) ⟨Aa,Aa⟩
theorem Aco (F:Nat)(n:Int)(r:(List Ac)×Int)(h:Acp F n=some r):Fn Tryz.prog GE 66 [A4 n] [] (λR H=>R=Dy [AO 4 (A8 Ae r.1),A4 r.2]∧H=[]):=by
 refine enter (n:=10) Tryz.func66 Aa Tryz.ntmps66 Aa (λw Z=>?_);unfold Acp at h;refine Ad (wa Aa (wa Aa (Bp (wm Aa (wv (r:=B9 [A4 3,A4 n,rS ([]:Ai),A4 0]) (L6 Aa Aa Aa Aa) (Bc (ys:=([(Ac.mk 3 n ([]:Ai) 0)]:List Ac)) (enc:=Ae) (css:=[[A4 3,A4 n,rS ([]:Ai),A4 0]]) (xs:=[.tmp 5]) CL CJ Oc Aa Aa Aa ⟨Ez.agg ⟨Up.refl _,Up.refl _,Up.refl _,Up.refl _,trivial⟩,trivial⟩ Aa Dx Aa Aa Aa (λb1=>?_)))))));refine WL.freeze (i:=0) Aa (WL.up (d:=6) (r:=AO 4 (A8 Ae ([(Ac.mk 3 n ([]:Ai) 0)]:List Ac))) Aa (Up.fact (i:=0) Aa) (ob h λr2 e4 h3=>BP Tryz.call118 (OY F ([(Ac.mk 3 n ([]:Ai) 0)]:List Ac) r2 e4) Aa (wv (A7 Aa Aa) (wv (A7 Aa Aa) (wa Aa (wa Aa (Ao (Ap ?_))))))));obtain rfl:=Au h3;exact Aq (HW Tryz.results66 (AD Aa) (AD Aa)) (sS sN) ⟨Aa,Aa⟩
theorem Acm (F:Nat)(s:Ai)(r:(List Ac)×Int)(h:Acn F s=some r):Fn Tryz.prog GE 65 [rS s] [] (λR H=>R=Dy [AO 4 (A8 Ae r.1),A4 r.2]∧H=[]):=by
 refine enter (n:=10) Tryz.func65 Aa Tryz.ntmps65 Aa (λw Z=>?_);unfold Acn at h;refine Ad (wa Aa (wa Aa (Bp (wm Aa (wv (r:=B9 [A4 4,A4 0,rS s,A4 0]) (L5 Aa Aa Aa Aa) (Bc (ys:=([(Ac.mk 4 0 s 0)]:List Ac)) (enc:=Ae) (css:=[[A4 4,A4 0,rS s,A4 0]]) (xs:=[.tmp 5]) CL CJ Oc Aa Aa Aa ⟨Ez.agg ⟨Up.refl _,Up.refl _,Up.refl _,Up.refl _,trivial⟩,trivial⟩ Aa Dx Aa Aa Aa (λb1=>?_)))))));refine WL.freeze (i:=0) Aa (WL.up (d:=6) (r:=AO 4 (A8 Ae ([(Ac.mk 4 0 s 0)]:List Ac))) Aa (Up.fact (i:=0) Aa) (ob h λr2 e4 h3=>BP Tryz.call118 (OY F ([(Ac.mk 4 0 s 0)]:List Ac) r2 e4) Aa (wv (A7 Aa Aa) (wv (A7 Aa Aa) (wa Aa (wa Aa (Ao (Ap ?_))))))));obtain rfl:=Au h3;exact Aq (HW Tryz.results65 (AD Aa) (AD Aa)) (sS sN) ⟨Aa,Aa⟩
end Go.Proofs.YtmjlemhondjfhaaGreatDoor.Q
namespace Go.Proofs.YtmjlemhondjfhaaGreatDoor
open Go
set_option linter.unusedVariables false
def KS (s:Ai)(ha:Int)(hb:Ai):Option (Stp (Int×Ai) (Out (Ai) (Ai))):=
 Bz (decide (ha<(s.length:Int))) (AX (Ch ha (s.length:Int))<|Bz (((decide ((BK s ha)=34))||(decide ((BK s ha)=92)))) (AX (Eh 1 (hb.length+1))<|AX (BG .u8 92)<|Ln (hb++[UInt8.ofNat (Int.toNat 92)]) λhd=>AX (Eh 1 (hd.length+1))<|AX (BG .u8 (BK s ha))<|Ln (hd++[UInt8.ofNat (Int.toNat (BK s ha))]) λhe=>AX (BG .i64 (ha+1))<|some (.next (ha+1,he))) (AX (Eh 1 (hb.length+1))<|AX (BG .u8 (BK s ha))<|Ln (hb++[UInt8.ofNat (Int.toNat (BK s ha))]) λhf=>AX (BG .i64 (ha+1))<|some (.next (ha+1,hf)))) (some (.out (.go hb)))
def KR (ha:Ai):Option (Ai):=
 AX (Eh 1 (ha.length+1))<|Ln (ha++[UInt8.ofNat (Int.toNat 34)]) λhb=>some hb
def OV (F:Nat)(l:Ai)(s:Ai):Option (Ai):=
 AX (Eh 1 (l.length+1))<|AX (BG .u8 34)<|Ln (l++[UInt8.ofNat (Int.toNat 34)]) λr6=>Bv (BX (λσ=>KS s σ.1 σ.2) F (0,r6)) (BT λν=>KR ν)
def Rz (F:Nat)(hm:Ai→(List Ac)→Bool→Ai→Ac→Option (Bool×Bool×Ai))(ha:(List Ac)→Bool→Ai→Ac→Option (Bool×Ai))(l:Ai)(v:(List Ac)):Option (Ai):=
 AX (Ch 0 (v.length:Int))<|Bz (decide (((Ax v 0).fKind)=1)) (AX (Eh 1 (l.length+([110,117,108,108]:Ai).length))<|Ln (l++([110,117,108,108]:Ai)) λhe=>some he) (Bz (decide (((Ax v 0).fKind)=2)) (AX (Ch ((Ax v 0).fInt) (([([102,97,108,115,101]:Ai),([116,114,117,101]:Ai)]:List Ai).length:Int))<|AX (Eh 1 (l.length+(Ax ([([102,97,108,115,101]:Ai),([116,114,117,101]:Ai)]:List Ai) ((Ax v 0).fInt)).length))<|Ln (l++(Ax ([([102,97,108,115,101]:Ai),([116,114,117,101]:Ai)]:List Ai) ((Ax v 0).fInt))) λhf=>some hf) (Bz (decide (((Ax v 0).fKind)=3)) (AX (BG .i64 ((Ax v 0).fInt))<|AX (Eh 1 (l.length+(Lib.itoa ((Ax v 0).fInt)).length))<|Ln (l++(Lib.itoa ((Ax v 0).fInt))) λhg=>some hg) (Bz (decide (((Ax v 0).fKind)=4)) (Bv (OV F l ((Ax v 0).fStr)) λhh=>some hh) (Bz (decide (((Ax v 0).fKind)=6)) (AX (Ch 0 (([123,125]:Ai).length:Int))<|AX (Eh 1 (l.length+1))<|AX (BG .u8 (BK ([123,125]:Ai) 0))<|Ln (l++[UInt8.ofNat (Int.toNat (BK ([123,125]:Ai) 0))]) λhi=>Bv (ha v true hi (Ax v 0)) λhb=>AX (Ch 1 (([123,125]:Ai).length:Int))<|AX (Eh 1 (hb.2.length+1))<|AX (BG .u8 (BK ([123,125]:Ai) 1))<|Ln (hb.2++[UInt8.ofNat (Int.toNat (BK ([123,125]:Ai) 1))]) λhj=>some hj) (AX (Ch 0 (([91,93]:Ai).length:Int))<|AX (Eh 1 (l.length+1))<|AX (BG .u8 (BK ([91,93]:Ai) 0))<|Ln (l++[UInt8.ofNat (Int.toNat (BK ([91,93]:Ai) 0))]) λhk=>Bv (ha v true hk (Ax v 0)) λhd=>AX (Ch 1 (([91,93]:Ai).length:Int))<|AX (Eh 1 (hd.2.length+1))<|AX (BG .u8 (BK ([91,93]:Ai) 1))<|Ln (hd.2++[UInt8.ofNat (Int.toNat (BK ([91,93]:Ai) 1))]) λhl=>some hl)))))
def OS (F:Nat)(ha:Ai→(List Ac)→Option (Ai))(key:Ai)(x:(List Ac))(first:Bool)(l:Ai)(c:Ac):Option (Bool×Bool×Ai):=
 Bz (!first) (AX (Eh 1 (l.length+1))<|AX (BG .u8 44)<|Ln (l++[UInt8.ofNat (Int.toNat 44)]) λr8=>Bz (decide (c.fKind=6)) (Bv (OV F r8 key) λhb=>AX (Eh 1 (hb.length+1))<|AX (BG .u8 58)<|Ln (hb++[UInt8.ofNat (Int.toNat 58)]) λhe=>Bv (ha he x) λhf=>some (true,false,hf)) (Bv (ha r8 x) λhg=>some (true,false,hg))) (Bz (decide (c.fKind=6)) (Bv (OV F l key) λhd=>AX (Eh 1 (hd.length+1))<|AX (BG .u8 58)<|Ln (hd++[UInt8.ofNat (Int.toNat 58)]) λhh=>Bv (ha hh x) λhi=>some (true,false,hi)) (Bv (ha l x) λhj=>some (true,false,hj)))
def J5 (F:Nat)(v:(List Ac))(c:Ac)(hj:Ai→(List Ac)→Bool→Ai→Ac→Option (Bool×Bool×Ai))(ha:Int)(hb:Int)(hh:Bool)(hi:Ai):Option (Stp (Int×Int×Bool×Ai) (Out (Bool×Ai) (Bool×Ai))):=
 Bz (decide (hb<((Ax v 0).fN))) (Bz (decide (((Ax v 0).fKind)=6)) (AX (Ch ha (v.length:Int))<|AX (BG .i64 (ha+1))<|AX (IR (ha+1) (v.length:Int))<|Bv (Kn F (List.drop (Int.toNat (ha+1)) v)) λhd=>AX (BG .i64 ((ha+1)+hd.1))<|AX (IR (ha+1) ((ha+1)+hd.1))<|AX (IR ((ha+1)+hd.1) (v.length:Int))<|Bv (hj ((Ax v ha).fStr) (List.take (Int.toNat ((ha+1)+hd.1)-Int.toNat (ha+1)) (List.drop (Int.toNat (ha+1)) v)) hh hi c) λhe=>Bz (!he.1) (some (.out (.ret (he.2.1,he.2.2)))) (AX (BG .i64 (hb+1))<|some (.next ((ha+1)+hd.1,hb+1,he.2.1,he.2.2)))) (AX (IR ha (v.length:Int))<|Bv (Kn F (List.drop (Int.toNat ha) v)) λhf=>AX (BG .i64 (ha+hf.1))<|AX (IR ha (ha+hf.1))<|AX (IR (ha+hf.1) (v.length:Int))<|Bv (hj ([]:Ai) (List.take (Int.toNat (ha+hf.1)-Int.toNat ha) (List.drop (Int.toNat ha) v)) hh hi c) λhg=>Bz (!hg.1) (some (.out (.ret (hg.2.1,hg.2.2)))) (AX (BG .i64 (hb+1))<|some (.next (ha+hf.1,hb+1,hg.2.1,hg.2.2))))) (some (.out (.go (hh,hi))))
def J4 (ha:Bool)(hb:Ai):Option (Bool×Ai):=
 some (ha,hb)
def OR (F:Nat)(ha:Ai→(List Ac)→Bool→Ai→Ac→Option (Bool×Bool×Ai))(v:(List Ac))(first:Bool)(l:Ai)(c:Ac):Option (Bool×Ai):=
 AX (Ch 0 (v.length:Int))<|Bv (BX (λσ=>J5 F v c ha σ.1 σ.2.1 σ.2.2.1 σ.2.2.2) F (1,0,first,l)) (BT λν=>J4 ν.1 ν.2)
mutual
def LG:Nat→Ai→(List Ac)→Option (Ai)
 | 0,_,_=>none
 | nn+1,l,v=>Rz nn (J6 nn) (Me nn) l v
def J6:Nat→Ai→(List Ac)→Bool→Ai→Ac→Option (Bool×Bool×Ai)
 | 0,_,_,_,_,_=>none
 | nn+1,key,x,first,l,c=>OS nn (LG nn) key x first l c
def Me:Nat→(List Ac)→Bool→Ai→Ac→Option (Bool×Ai)
 | 0,_,_,_,_=>none
 | nn+1,v,first,l,c=>OR nn (J6 nn) v first l c
end
def R1 (F:Nat)(v:(List Ac)):Option (Ai×Int):=
 Bv (J7 F v) λr1=>Bz (!decide (r1=0)) (some (([]:Ai),r1)) (Bv (LG F ([]:Ai) v) λr8=>AX (decide (0<r8.length))<|some (r8,0))
end Go.Proofs.YtmjlemhondjfhaaGreatDoor
namespace Go.Proofs.YtmjlemhondjfhaaGreatDoor.Q
open Go Go.RowKit
set_option linter.unusedVariables false
set_option linter.unusedSimpArgs false
set_option maxRecDepth 100000
set_option maxHeartbeats 4000000
theorem OU (F:Nat)(ha:Nat)(hj:Value)(l:Ai)(s:Ai)(r:Ai)(h:OV F l s=some r):Fn Tryz.prog GE 164 [rP ha 0,rS s] [.bld 177 5 ha hj l] (λR H=>∃w0b:Value,R=rv (.tuple #[])∧H=[.bld 177 5 ha w0b r]):=by
 refine enter (n:=32) Tryz.func164 Aa Tryz.ntmps164 Aa (λw Z=>?_);unfold OV at h;refine Ad (wm Aa (ck h λg1 h2=>ck h2 λg3 h4=>Cf (rs:=[rP ha 0,rI .u8 34]) (Hin:=[.bld 177 5 ha hj l]) (Hr:=[]) IT Aa (Afd _) (CF ha hj l 34 g1 g3) Aa ?_));rintro _ _ ⟨v5,rfl,rfl⟩;refine bd h4 λr6 e8 h7=>?_;rw[← e8];refine Ao (Ak (Ad (wm Aa (wv (B0 C4 Aa) (wv (r:=A4 0) (Am Aa) (Ao (A6 (ob h7 λhq hr hs=>Br (S:=Nat×(Int×Ai)×(Value)) (V:=(Ai)×(Value)) 0 (λσ=>BX (λσ=>KS s σ.1 σ.2) σ.1 σ.2.1=some hq) (λσ=>[(0,rP ha 0),(1,rS s),(8,A4 (s.length:Int)),(9,A4 σ.2.1.1)]) (λσ=>[.bld 177 5 ha σ.2.2 σ.2.1.2]) (λσ=>σ.1) (F,(0,r6),v5) hr (AH.c Aa (AH.c Aa (AH.c Aa (AH.c Aa AH.nil)))) (sC sN) (λσ=>KR σ.1=some r) (λσ=>[(0,rP ha 0)]) (λσ=>[.bld 177 5 ha σ.2 σ.1]) ?_ ?_))))))))
 ·rintro⟨gg,⟨hd,he⟩,hf⟩ ht;refine GI ?_;obtain⟨hm,rfl,t127,hg,hk⟩:=Cc ht;replace hg:KS s hd he=some t127:=hg;unfold KS at hg;refine Ad (wv (Ci Aa Aa) (Ao (Ak (cz hg Aa (λhu hw=>?_) (λhu hx=>?_)))))
  ·refine Aw (AE (Ak (A6 (Ad (wm Aa (wa Aa (Ao (Ak (ck hw λhh hy=>A5 [(0,rP ha 0),(1,rS s),(4,A4 hd),(8,A4 (s.length:Int)),(9,A4 hd),(21,rB ((decide ((BK s hd)=34))||(decide ((BK s hd)=92))))] [.bld 177 5 ha hf he] ?_ ?_)))))))))
   ·refine Af (wm Aa (wm Aa (wv (B3 C4 Aa Aa hh) (wv (B7 Aa Aa) (wm Aa (AA (decide ((BK s hd)=34)) (λhb=>?_) (λhb=>?_)))))))
    ·refine wf hb (wf hb (wf hb (wf hb (wv (r:=rB true) (An Aa hb Aa) (Ah ?_)))));exact BH hb
    refine wo hb (wm Aa (wo hb (wm Aa (wo hb (wv (B3 C4 Aa Aa hh) (wo hb (wv (B7 Aa Aa) (Ep Aa hb Aa (Ah ?_)))))))));exact BH hb
   refine cz hy Aa (λhz h0=>?_) (λhz h1=>?_)
   ·refine Af (wm Aa (ck h0 λh3 h5=>ck h5 λh6 h8=>Cf (rs:=[rP ha 0,rI .u8 92]) (Hin:=[.bld 177 5 ha hf he]) (Hr:=[]) IT Aa (Afd _) (CF ha hf he 92 h3 h6) Aa ?_));rintro _ _ ⟨hn,rfl,rfl⟩;refine bd h8 λho h9 hA=>?_;rw[← h9];refine Ao (Af (wm Aa (wm Aa (wm Aa (wv (B3 C4 Aa Aa hh) (ck hA λhB hC=>ck hC λhD hE=>Cf (rs:=[rP ha 0,rI .u8 (BK s hd)]) (Hin:=[.bld 177 5 ha hn ho]) (Hr:=[]) IT Aa (Afd _) (CF ha hn ho (BK s hd) hB hD) Aa ?_))))));rintro _ _ ⟨hG,rfl,rfl⟩;refine bd hE λhH hI hJ=>?_;rw[← hI];refine Ah (AB (AE (Af (ck hJ λhK hL=>wv (By Aa Aa hK) (wm Aa (Ah ?_))))));have hN:=Bi hL hk;exact Ar (AC (hm,(hd+1,hH),hG) ⟨hN,AeR _⟩ (AH.c Aa (AH.c Aa (AH.c Aa (AH.c Aa AH.nil)))) (sC sN))
   refine Aw (AE (Af (wm Aa (wm Aa (wm Aa (wv (B3 C4 Aa Aa hh) (ck h1 λhO hP=>ck hP λhQ hR=>Cf (rs:=[rP ha 0,rI .u8 (BK s hd)]) (Hin:=[.bld 177 5 ha hf he]) (Hr:=[]) IT Aa (Afd _) (CF ha hf he (BK s hd) hO hQ) Aa ?_)))))));rintro _ _ ⟨hS,rfl,rfl⟩;refine bd hR λhT hU hV=>?_;rw[← hU];refine Ah (AB (AE (Af (ck hV λhW hX=>wv (By Aa Aa hW) (wm Aa (Ah ?_))))));have hY:=Bi hX hk;exact Ar (AC (hm,(hd+1,hT),hS) ⟨hY,AeR _⟩ (AH.c Aa (AH.c Aa (AH.c Aa (AH.c Aa AH.nil)))) (sC sN))
  refine Bn (Av ?_);have hZ:=BE hx hk hs;exact Av (AY (AC (he,hf) hZ (AH.c Aa AH.nil) (sC sN)))
 rintro⟨hl,hp⟩ hi;refine GX ?_;replace hi:KR hl=some r:=hi;unfold KR at hi;refine AW (AE (Af (wm Aa (ck hi λga gb=>Cf (rs:=[rP ha 0,rI .u8 34]) (Hin:=[.bld 177 5 ha hp hl]) (Hr:=[]) IT Aa (Afd _) (CF ha hp hl 34 ga g3) Aa ?_))));rintro _ _ ⟨gc,rfl,rfl⟩;refine bd gb λgh gd gf=>?_;rw[← gd];refine Ah ?_;obtain rfl:=Au gf;exact Ie (Xp Tryz.results164) (sC sN) ⟨gc,Aa,Aa⟩
theorem Xc (F:Nat)(hl:Ai→(List Ac)→Bool→Ai→Ac→Option (Bool×Bool×Ai))(hm:(List Ac)→Bool→Ai→Ac→Option (Bool×Ai))(g9:(∀(hd:Nat) (he:Nat) (ha:Nat) (hb:Value) (hf:Nat) (key:Ai) (x:(List Ac)) (first:Bool) (l:Ai) (c:Ac) (r:Bool×Bool×Ai),hl key x first l c=some r→Fn Tryz.prog GE 167 [rS key,AO 4 (A8 Ae x),rP hd 0,rP he 0,rP hf 0] [.blk hd [rB first] 4,.blk he [rP ha 0] 174,.bld 177 5 ha hb l,.blk hf (Ae c) 70] (λR H=>∃w3b:Value,R=rB r.1∧H=[.blk hd [rB r.2.1] 4,.blk he [rP ha 0] 174,.bld 177 5 ha w3b r.2.2,.blk hf (Ae c) 70])))(hn:(∀(hd:Nat) (he:Nat) (ha:Nat) (hb:Value) (hf:Nat) (v:(List Ac)) (first:Bool) (l:Ai) (c:Ac) (r:Bool×Ai),hm v first l c=some r→Fn Tryz.prog GE 166 [AO 4 (A8 Ae v),rv (.func (.func 167) #[] #[(.pointer (some ⟨hd,0,none⟩)),(.pointer (some ⟨he,0,none⟩)),(.pointer (some ⟨hf,0,none⟩))])] [.blk hd [rB first] 4,.blk he [rP ha 0] 174,.bld 177 5 ha hb l,.blk hf (Ae c) 70] (λR H=>∃w1_1b:Value,R=rv (.tuple #[])∧H=[.blk hd [rB r.1] 4,.blk he [rP ha 0] 174,.bld 177 5 ha w1_1b r.2,.blk hf (Ae c) 70])))(ha:Nat)(hb:Value)(l:Ai)(v:(List Ac))(r:Ai)(h:Rz F hl hm l v=some r):Fn Tryz.prog GE 119 [rP ha 0,AO 4 (A8 Ae v)] [.bld 177 5 ha hb l] (λR H=>∃w0b:Value,R=rv (.tuple #[])∧H=[.bld 177 5 ha w0b r]):=by
 refine enter (n:=52) Tryz.func119 Aa Tryz.ntmps119 Aa (λw Z=>?_);unfold Rz at h;refine Ad (OQ Aa (BR Aa) Aa (λb1=>?_));refine Bp (wm Aa (ck h λg2 h3=>wv (Bk (enc:=Ae) (ys:=v) CL CJ Aa Aa g2) (wv (Cu Od CJ Aa Aa Aa) (BL (cs:=[A4 0,A4 0,rS ([]:Ai),A4 0]) Oc Aa Aa (λb4=>?_)))));refine GU (i:=0) CJ Aa Aa Aa (B8.c Aa) Aa Aa ?_;refine Bp (vF BD Aa DU (vL 0 DV Aa (Ao (A6 (Ad (wv (B7 Aa Aa) (wa Aa (Ao (cz h3 Aa (λc5 h6=>?_) (λc5 ho=>?_))))))))))
 ·refine Af (vL 1 G8 Aa (ck h6 λg7 h8=>Cf (rs:=[rP ha 0,rS ([110,117,108,108]:Ai)]) (Hin:=[.bld 177 5 ha hb l]) (Hr:=[.blk b4 (Ae (Ax v 0)) 70,.blk b1 [rP ha 0] 174]) Tryz.call162 Aa ((AZ (i:=2) Aa).trans (Aff _ (Afd _))) (Hv ha hb l ([110,117,108,108]:Ai) g7) Aa ?_));rintro _ _ ⟨v9,rfl,rfl⟩;refine bd h8 λgA hp hq=>?_;rw[← hp];refine Ah (AB ?_);obtain rfl:=Au hq;exact Ie (Xp Q8) (sC (sS (sS sN))) ⟨v9,Aa,Aa⟩
 refine Ad (wv (B7 Aa Aa) (wa Aa (Ao (cz ho Aa (λhr hs=>?_) (λhr ht=>?_)))))
 ·refine ck hs λg16 hu=>KP (H1:=[.blk b4 (Ae (Ax v 0)) 70,.blk b1 [rP ha 0] 174,.bld 177 5 ha hb l]) 6 [2,4] [⟨[],rP ha 0,1⟩,⟨[],AO 1 (A8 eS ([([102,97,108,115,101]:Ai),([116,114,117,101]:Ai)]:List Ai)),0⟩,⟨[],rP b4 1,0⟩,⟨[2],A4 ((Ax v 0).fInt),1⟩,⟨[1,3],Xz [rS (Ax ([([102,97,108,115,101]:Ai),([116,114,117,101]:Ai)]:List Ai) ((Ax v 0).fInt))],0⟩,⟨[4],rS (Ax ([([102,97,108,115,101]:Ai),([116,114,117,101]:Ai)]:List Ai) ((Ax v 0).fInt)),0⟩] (rle [(7,_)]) [32,33,34,35,36,37,2,4] ?_ ?_
  ·refine of (AT (i:=1) G8 Aa Aa Aa) (Jk Aa (λH=>Gp (ys:=([([102,97,108,115,101]:Ai),([116,114,117,101]:Ai)]:List Ai)) (enc:=eS) (css:=[[rS ([102,97,108,115,101]:Ai)],[rS ([116,114,117,101]:Ai)]]) (xs:=[.const (.string ⟨#[102,97,108,115,101]⟩),.const (.string ⟨#[116,114,117,101]⟩)]) C7 CE VH Aa Aa Aa ⟨Ez.one Aa (Up.refl _),Ez.one Aa (Up.refl _),trivial⟩ Aa DS Aa Aa) ?_);refine oq (Az BD Aa CK Aa Aa) (of (AT (i:=0) Df Aa Aa Aa) (oq (Bk (enc:=eS) (ys:=([([102,97,108,115,101]:Ai),([116,114,117,101]:Ai)]:List Ai)) C7 CE Aa Aa g16) (oq (Bb Dp Aa Aa) ?_)));exact EK
  refine ck hu λg18 hw=>Cf (rs:=[rP ha 0,rS (Ax ([([102,97,108,115,101]:Ai),([116,114,117,101]:Ai)]:List Ai) ((Ax v 0).fInt))]) (Hin:=[.bld 177 5 ha hb l]) (Hr:=[.blk b4 (Ae (Ax v 0)) 70,.blk b1 [rP ha 0] 174]) Tryz.call162 Aa ((AZ (i:=2) Aa).trans (Aff _ (Afd _))) (Hv ha hb l (Ax ([([102,97,108,115,101]:Ai),([116,114,117,101]:Ai)]:List Ai) ((Ax v 0).fInt)) g18) Aa ?_;rintro _ _ ⟨v20,rfl,rfl⟩;refine bd hw λgB hx hy=>?_;rw[← hx];refine Ah (AB ?_);obtain rfl:=Au hy;exact Ie (Xp Q8) (sC (sS (sS sN))) ⟨v20,Aa,Aa⟩
 refine Ad (wv (B7 Aa Aa) (wa Aa (Ao (cz ht Aa (λhz h0=>?_) (λhz h1=>?_)))))
 ·refine ck h0 λh2 h4=>KP (H1:=[.blk b4 (Ae (Ax v 0)) 70,.blk b1 [rP ha 0] 174,.bld 177 5 ha hb l]) 4 [2,4] [⟨[],rP ha 0,1⟩,⟨[],rP b4 1,0⟩,⟨[1],A4 ((Ax v 0).fInt),1⟩,⟨[2],rS (Lib.itoa ((Ax v 0).fInt)),0⟩] (rle [(5,_)]) [41,42,43,44,2,4] ?_ ?_
  ·refine of (AT (i:=1) G8 Aa Aa Aa) (oq (Az BD Aa CK Aa Aa) (of (AT (i:=0) Df Aa Aa Aa) (Jk Aa (λH=>T2 (rs:=[A4 ((Ax v 0).fInt)]) (r:=rS (Lib.itoa ((Ax v 0).fInt))) Tryz.call163 Aa (Um ((Ax v 0).fInt) h2) Aa) ?_)));exact EK
  refine ck h4 λh5 h7=>Cf (rs:=[rP ha 0,rS (Lib.itoa ((Ax v 0).fInt))]) (Hin:=[.bld 177 5 ha hb l]) (Hr:=[.blk b4 (Ae (Ax v 0)) 70,.blk b1 [rP ha 0] 174]) Tryz.call162 Aa ((AZ (i:=2) Aa).trans (Aff _ (Afd _))) (Hv ha hb l (Lib.itoa ((Ax v 0).fInt)) h5) Aa ?_;rintro _ _ ⟨v31,rfl,rfl⟩;refine bd h7 λgC h9 hA=>?_;rw[← h9];refine Ah (AB ?_);obtain rfl:=Au hA;exact Ie (Xp Q8) (sC (sS (sS sN))) ⟨v31,Aa,Aa⟩
 refine Ad (wv (B7 Aa Aa) (wa Aa (Ao (cz h1 Aa (λhB hC=>?_) (λhB hD=>?_)))))
 ·refine Af (vL 1 G8 Aa (vF BD Aa CE (vL 0 Dp Aa (ob hC λhE hG hH=>J3 [2] Tryz.call164 (OU F ha hb l ((Ax v 0).fStr) hE hG) ?_))));rintro _ _ ⟨hI,rfl,rfl⟩;refine Ah (AB ?_);obtain rfl:=Au hH;exact Ie (Xp Q8) (sC (sS (sS sN))) ⟨hI,Aa,Aa⟩
 refine Ad (wv (r:=rS ([91,93]:Ai)) (A0 Aa) (Ao (Ak (Ad (vF BD Aa DU (vL 0 DV Aa (wv (B7 Aa Aa) (Ao (cz hD Aa (λhJ hK=>?_) (λhJ hL=>?_))))))))))
 ·refine Af (wv (r:=rS ([123,125]:Ai)) (A0 Aa) (Ao (Ak (ck hK λhN hO=>KP (H1:=[.blk b4 (Ae (Ax v 0)) 70,.blk b1 [rP ha 0] 174,.bld 177 5 ha hb l]) 3 [1,2,4,5] [⟨[],rP ha 0,1⟩,⟨[],rS ([123,125]:Ai),0⟩,⟨[1],rI .u8 (BK ([123,125]:Ai) 0),0⟩] (rle [(4,_)]) [15,16,17,1,2,4,5] ?_ ?_))))
  ·refine of (AT (i:=1) G8 Aa Aa Aa) (oq (Am Aa) (oq (B3 C4 Aa Aa hN) ?_));exact EK
  refine ck hO λhP hQ=>ck hQ λhR hS=>Cf (rs:=[rP ha 0,rI .u8 (BK ([123,125]:Ai) 0)]) (Hin:=[.bld 177 5 ha hb l]) (Hr:=[.blk b4 (Ae (Ax v 0)) 70,.blk b1 [rP ha 0] 174]) IT Aa ((AZ (i:=2) Aa).trans (Aff _ (Afd _))) (CF ha hb l (BK ([123,125]:Ai) 0) hP hR) Aa ?_;rintro _ _ ⟨v51,rfl,rfl⟩;refine bd hS λhT hU hV=>?_;rw[← hU];refine Bp (BL (cs:=[rB false]) yz4 Aa Aa (λhi=>?_));refine us (i:=0) Jz Aa Aa (BR Aa) Aa Aa ?_;refine Bp (wm Aa (wv (r:=rv (.func (.func 167) #[] #[(.pointer (some ⟨hi,0,none⟩)),(.pointer (some ⟨b1,0,none⟩)),(.pointer (some ⟨b4,0,none⟩))])) (Io Aa) (ob hV λhg hW hX=>J3 [0,2,0,0] Tryz.call166 (hn hi b1 ha v51 b4 v true hT (Ax v 0) hg hW) ?_)));rintro _ _ ⟨hk,rfl,rfl⟩;refine Ao (ck hX λhY hZ=>KP (H1:=[.blk hi [rB hg.1] 4,.blk b1 [rP ha 0] 174,.bld 177 5 ha hk hg.2,.blk b4 (Ae (Ax v 0)) 70]) 3 [2,5] [⟨[],rP ha 0,1⟩,⟨[],rS ([123,125]:Ai),0⟩,⟨[1],rI .u8 (BK ([123,125]:Ai) 1),0⟩] (rle [(4,_)]) [22,23,24,2,5] ?_ ?_)
  ·refine of (AT (i:=1) G8 Aa Aa Aa) (oq (Am Aa) (oq (B3 C4 Aa Aa hY) ?_));exact EK
  refine ck hZ λga gb=>ck gb λgc gd=>Cf (rs:=[rP ha 0,rI .u8 (BK ([123,125]:Ai) 1)]) (Hin:=[.bld 177 5 ha hk hg.2]) (Hr:=[.blk hi [rB hg.1] 4,.blk b1 [rP ha 0] 174,.blk b4 (Ae (Ax v 0)) 70]) IT Aa ((AZ (i:=2) Aa).trans (Aff _ (Afd _))) (CF ha hk hg.2 (BK ([123,125]:Ai) 1) ga gc) Aa ?_;rintro _ _ ⟨gf,rfl,rfl⟩;refine bd gd λgD gg gh=>?_;rw[← gg];refine Ah (AB ?_);obtain rfl:=Au gh;exact Ie (Xp Q8) (sC (sS (sS (sS sN)))) ⟨gf,Aa,Aa⟩
 refine Aw (AE (Ak (ck hL λgi gj=>KP (H1:=[.blk b4 (Ae (Ax v 0)) 70,.blk b1 [rP ha 0] 174,.bld 177 5 ha hb l]) 3 [1,2,4,5] [⟨[],rP ha 0,1⟩,⟨[],rS ([91,93]:Ai),0⟩,⟨[1],rI .u8 (BK ([91,93]:Ai) 0),0⟩] (rle [(4,_)]) [15,16,17,1,2,4,5] ?_ ?_)))
 ·refine of (AT (i:=1) G8 Aa Aa Aa) (oq (Am Aa) (oq (B3 C4 Aa Aa gi) ?_));exact EK
 refine ck gj λgl gm=>ck gm λgp gq=>Cf (rs:=[rP ha 0,rI .u8 (BK ([91,93]:Ai) 0)]) (Hin:=[.bld 177 5 ha hb l]) (Hr:=[.blk b4 (Ae (Ax v 0)) 70,.blk b1 [rP ha 0] 174]) IT Aa ((AZ (i:=2) Aa).trans (Aff _ (Afd _))) (CF ha hb l (BK ([91,93]:Ai) 0) gl gp) Aa ?_;rintro _ _ ⟨gr,rfl,rfl⟩;refine bd gq λgs gu gv=>?_;rw[← gu];refine Bp (BL (cs:=[rB false]) yz4 Aa Aa (λhj=>?_));refine us (i:=0) Jz Aa Aa (BR Aa) Aa Aa ?_;refine Bp (wm Aa (wv (r:=rv (.func (.func 167) #[] #[(.pointer (some ⟨hj,0,none⟩)),(.pointer (some ⟨b1,0,none⟩)),(.pointer (some ⟨b4,0,none⟩))])) (Io Aa) (ob gv λhh gw gx=>J3 [0,2,0,0] Tryz.call166 (hn hj b1 ha gr b4 v true gs (Ax v 0) hh gw) ?_)));rintro _ _ ⟨v85,rfl,rfl⟩;refine Ao (ck gx λgy gz=>KP (H1:=[.blk hj [rB hh.1] 4,.blk b1 [rP ha 0] 174,.bld 177 5 ha v85 hh.2,.blk b4 (Ae (Ax v 0)) 70]) 3 [2,5] [⟨[],rP ha 0,1⟩,⟨[],rS ([91,93]:Ai),0⟩,⟨[1],rI .u8 (BK ([91,93]:Ai) 1),0⟩] (rle [(4,_)]) [22,23,24,2,5] ?_ ?_)
 ·refine of (AT (i:=1) G8 Aa Aa Aa) (oq (Am Aa) (oq (B3 C4 Aa Aa gy) ?_));exact EK
 refine ck gz λg0 g1=>ck g1 λg3 g4=>Cf (rs:=[rP ha 0,rI .u8 (BK ([91,93]:Ai) 1)]) (Hin:=[.bld 177 5 ha v85 hh.2]) (Hr:=[.blk hj [rB hh.1] 4,.blk b1 [rP ha 0] 174,.blk b4 (Ae (Ax v 0)) 70]) IT Aa ((AZ (i:=2) Aa).trans (Aff _ (Afd _))) (CF ha v85 hh.2 (BK ([91,93]:Ai) 1) g0 g3) Aa ?_;rintro _ _ ⟨g5,rfl,rfl⟩;refine bd g4 λgE g6 g8=>?_;rw[← g6];refine Ah (AB ?_);obtain rfl:=Au g8;exact Ie (Xp Q8) (sC (sS (sS (sS sN)))) ⟨g5,Aa,Aa⟩
theorem UK (F:Nat)(hj:Ai→(List Ac)→Option (Ai))(hg:(∀(ha:Nat) (hb:Value) (l:Ai) (v:(List Ac)) (r:Ai),hj l v=some r→Fn Tryz.prog GE 119 [rP ha 0,AO 4 (A8 Ae v)] [.bld 177 5 ha hb l] (λR H=>∃w0b:Value,R=rv (.tuple #[])∧H=[.bld 177 5 ha w0b r])))(hd:Nat)(he:Nat)(ha:Nat)(hb:Value)(hf:Nat)(key:Ai)(x:(List Ac))(first:Bool)(l:Ai)(c:Ac)(r:Bool×Bool×Ai)(h:OS F hj key x first l c=some r):Fn Tryz.prog GE 167 [rS key,AO 4 (A8 Ae x),rP hd 0,rP he 0,rP hf 0] [.blk hd [rB first] 4,.blk he [rP ha 0] 174,.bld 177 5 ha hb l,.blk hf (Ae c) 70] (λR H=>∃w3b:Value,R=rB r.1∧H=[.blk hd [rB r.2.1] 4,.blk he [rP ha 0] 174,.bld 177 5 ha w3b r.2.2,.blk hf (Ae c) 70]):=by
 refine enter (n:=23) Tryz.func167 Aa Tryz.ntmps167 Aa (λw Z=>?_);unfold OS at h;refine Ad (wa Aa (Ao (Ak (Ad (vL 0 Qg Aa (wv (BO Aa) (Ao (cz h Aa (λc1 h2=>?_) (λc1 hm=>?_)))))))))
 ·refine Af (vL 1 G8 Aa (ck h2 λg3 h4=>ck h4 λg5 h6=>Cf (rs:=[rP ha 0,rI .u8 44]) (Hin:=[.bld 177 5 ha hb l]) (Hr:=[.blk hd [rB first] 4,.blk he [rP ha 0] 174,.blk hf (Ae c) 70]) IT Aa ((AZ (i:=2) Aa).trans (Aff _ (Afd _))) (CF ha hb l 44 g3 g5) Aa ?_));rintro _ _ ⟨v7,rfl,rfl⟩;refine bd h6 λr8 hn h9=>?_;rw[← hn];refine Bp (us (i:=1) Jz Aa Aa (BR Aa) Aa Aa ?_);refine Ao (Ak (Ad (vF BD Aa DU (vL 3 DV Aa (wv (B7 Aa Aa) (Ao (cz h9 Aa (λho hp=>?_) (λho hq=>?_))))))))
  ·refine Ad (vL 2 G8 Aa (wm Aa (ob hp λhh hr hs=>J3 [0] Tryz.call164 (OU F ha v7 r8 key hh hr) ?_)));rintro _ _ ⟨hk,rfl,rfl⟩;refine Ao (Af (vL 2 G8 Aa (ck hs λg17 ht=>ck ht λg19 hu=>Cf (rs:=[rP ha 0,rI .u8 58]) (Hin:=[.bld 177 5 ha hk hh]) (Hr:=[.blk hd [rB false] 4,.blk he [rP ha 0] 174,.blk hf (Ae c) 70]) IT Aa (Afd _) (CF ha hk hh 58 g17 g19) Aa ?_)));rintro _ _ ⟨v21,rfl,rfl⟩;refine bd hu λhw hx hy=>?_;rw[← hx];refine Bp (vL 2 G8 Aa (wm Aa (ob hy λhz h0 h1=>J3 [0] SS (hg ha v21 hw x hz h0) ?_)));rintro _ _ ⟨h3,rfl,rfl⟩;refine Bp (wa Aa (Ao (Ap (NH [1,1] ?_))));obtain rfl:=Au h1;exact Aq (B2 VM (AD Aa)) (sC (sC (sC (sC sN)))) ⟨h3,Aa,Aa⟩
  refine Aw (AE (Ad (vL 2 G8 Aa (wm Aa (ob hq λh5 h7 h8=>J3 [0] SS (hg ha v7 r8 x h5 h7) ?_)))));rintro _ _ ⟨hA,rfl,rfl⟩;refine Bp (wa Aa (Ao (Ap (NH [1,1] ?_))));obtain rfl:=Au h8;exact Aq (B2 VM (AD Aa)) (sC (sC (sC (sC sN)))) ⟨hA,Aa,Aa⟩
 refine Aw (AE (Ad (us (i:=0) Jz Aa Aa (BR Aa) Aa Aa ?_)));refine Ao (Ak (Ad (vF BD Aa DU (vL 3 DV Aa (wv (B7 Aa Aa) (Ao (cz hm Aa (λhB hC=>?_) (λhB hD=>?_))))))))
 ·refine Ad (vL 1 G8 Aa (wm Aa (ob hC λhi hE hG=>J3 [2] Tryz.call164 (OU F ha hb l key hi hE) ?_)));rintro _ _ ⟨hl,rfl,rfl⟩;refine Ao (Af (vL 2 G8 Aa (ck hG λhH hI=>ck hI λhJ hK=>Cf (rs:=[rP ha 0,rI .u8 58]) (Hin:=[.bld 177 5 ha hl hi]) (Hr:=[.blk hd [rB false] 4,.blk he [rP ha 0] 174,.blk hf (Ae c) 70]) IT Aa (Afd _) (CF ha hl hi 58 hH hJ) Aa ?_)));rintro _ _ ⟨hL,rfl,rfl⟩;refine bd hK λhN hO hP=>?_;rw[← hO];refine Bp (vL 2 G8 Aa (wm Aa (ob hP λhQ hR hS=>J3 [0] SS (hg ha hL hN x hQ hR) ?_)));rintro _ _ ⟨hT,rfl,rfl⟩;refine Bp (wa Aa (Ao (Ap (NH [1,1] ?_))));obtain rfl:=Au hS;exact Aq (B2 VM (AD Aa)) (sC (sC (sC (sC sN)))) ⟨hT,Aa,Aa⟩
 refine Aw (AE (Ad (vL 1 G8 Aa (wm Aa (ob hD λhU hV hW=>J3 [2] SS (hg ha hb l x hU hV) ?_)))));rintro _ _ ⟨hX,rfl,rfl⟩;refine Bp (wa Aa (Ao (Ap (NH [1,1] ?_))));obtain rfl:=Au hW;exact Aq (B2 VM (AD Aa)) (sC (sC (sC (sC sN)))) ⟨hX,Aa,Aa⟩
theorem UJ (F:Nat)(hm:Ai→(List Ac)→Bool→Ai→Ac→Option (Bool×Bool×Ai))(hx:(∀(hd:Nat) (he:Nat) (hb:Nat) (hn:Value) (hf:Nat) (key:Ai) (x:(List Ac)) (first:Bool) (l:Ai) (c:Ac) (r:Bool×Bool×Ai),hm key x first l c=some r→Fn Tryz.prog GE 167 [rS key,AO 4 (A8 Ae x),rP hd 0,rP he 0,rP hf 0] [.blk hd [rB first] 4,.blk he [rP hb 0] 174,.bld 177 5 hb hn l,.blk hf (Ae c) 70] (λR H=>∃w3b:Value,R=rB r.1∧H=[.blk hd [rB r.2.1] 4,.blk he [rP hb 0] 174,.bld 177 5 hb w3b r.2.2,.blk hf (Ae c) 70])))(hd:Nat)(he:Nat)(hb:Nat)(hn:Value)(hf:Nat)(v:(List Ac))(first:Bool)(l:Ai)(c:Ac)(r:Bool×Ai)(h:OR F hm v first l c=some r):Fn Tryz.prog GE 166 [AO 4 (A8 Ae v),rv (.func (.func 167) #[] #[(.pointer (some ⟨hd,0,none⟩)),(.pointer (some ⟨he,0,none⟩)),(.pointer (some ⟨hf,0,none⟩))])] [.blk hd [rB first] 4,.blk he [rP hb 0] 174,.bld 177 5 hb hn l,.blk hf (Ae c) 70] (λR H=>∃w1_1b:Value,R=rv (.tuple #[])∧H=[.blk hd [rB r.1] 4,.blk he [rP hb 0] 174,.bld 177 5 hb w1_1b r.2,.blk hf (Ae c) 70]):=by
 refine enter (n:=52) Tryz.func166 Aa Tryz.ntmps166 Aa (λw Z=>?_);unfold OR at h;refine Ad (wa Aa (Bp (wm Aa (ck h λg1 h2=>wv (Bk (enc:=Ae) (ys:=v) CL CJ Aa Aa g1) (wv (Bs BD Aa CK Aa Aa) (wv (Bb Df Aa Aa) (wv (r:=A4 0) (Am Aa) (Ao (A6 (ob h2 λh0 h1 hq=>Br (S:=Nat×(Int×Int×Bool×Ai)×(Value)) (V:=(Bool×Ai)×(Value)) 0 (λσ=>BX (λσ=>J5 F v c hm σ.1 σ.2.1 σ.2.2.1 σ.2.2.2) σ.1 σ.2.1=some h0) (λσ=>[(0,AO 4 (A8 Ae v)),(1,rv (.func (.func 167) #[] #[(.pointer (some ⟨hd,0,none⟩)),(.pointer (some ⟨he,0,none⟩)),(.pointer (some ⟨hf,0,none⟩))])),(4,A4 σ.2.1.1),(12,A4 ((Ax v 0).fN)),(13,A4 σ.2.1.2.1)]) (λσ=>[.blk hd [rB σ.2.1.2.2.1] 4,.blk he [rP hb 0] 174,.bld 177 5 hb σ.2.2 σ.2.1.2.2.2,.blk hf (Ae c) 70]) (λσ=>σ.1) (F,(1,0,first,l),hn) h1 (AH.c5 Aa Aa Aa Aa Aa AH.nil) (sC (sC (sC (sC sN)))) (λσ=>J4 σ.1.1 σ.1.2=some r) (λσ=>[]) (λσ=>[.blk hd [rB σ.1.1] 4,.blk he [rP hb 0] 174,.bld 177 5 hb σ.2 σ.1.2,.blk hf (Ae c) 70]) ?_ ?_))))))))))
 ·rintro⟨g2,⟨ha,hr,hg,hh⟩,hk⟩ h3;refine GI ?_;obtain⟨hy,rfl,h4,ho,hl⟩:=Cc h3;replace ho:J5 F v c hm ha hr hg hh=some h4:=ho;unfold J5 at ho;refine Ad (wv (Ci Aa Aa) (Ao (Ak (cz ho Aa (λc175 h5=>?_) (λc175 h6=>?_)))))
  ·refine Aw (AE (Ak (A6 (Ad (wv (r:=rS ([]:Ai)) (A0 Aa) (Ao (Ak (Ad (wm Aa (wv (Bk (enc:=Ae) (ys:=v) CL CJ Aa Aa g1) (wv (Bs BD Aa DU Aa Aa) (wv (Bb DV Aa Aa) (wv (B7 Aa Aa) (Ao (cz h5 Aa (λh7 h8=>?_) (λh7 h9=>?_))))))))))))))))
   ·refine Ad (wm Aa (wm Aa (ck h8 λhA hB=>wv (Bk (enc:=Ae) (ys:=v) CL CJ Aa Aa hA) (wv (Bs BD Aa CE Aa Aa) (wv (Bb Dp Aa Aa) (wa Aa (Ao (Af (wm Aa (ck hB λhC hD=>wv (By Aa Aa hC) (wa Aa (Bp (wm Aa (wm Aa (ck hD λhE hG=>wv (r:=AO 4 (A8 Ae (List.drop (Ca (ha+1)) v))) (Pz CL CJ Aa Aa hE) (ob hG λhi hH hI=>BP Tryz.call95 (R0 F (List.drop (Ca (ha+1)) v) hi hH) Aa (wm Aa (wv (A7 Aa Aa) (wv (A7 Aa Aa) ?_)))))))))))))))))));refine wv (A7 Aa Aa) (BL (cs:=[A4 0,A4 0,rB false,rB false]) SG Aa Aa (λhJ=>?_));refine wa Aa (GU (i:=0) GV Aa Aa Aa (B8.c Aa) Aa Aa ?_);refine wa Aa (Ao (Ak (Ad (wm Aa (wm Aa (wm Aa (wm Aa (wm Aa (wm Aa (ck hI λhs hK=>wv (By Aa Aa hs) (wm Aa (wm Aa (wv (By Aa Aa hs) (ck hK λhL hN=>ck hN λhO hP=>wv (r:=AO 4 (A8 Ae (List.take (Ca ((ha+1)+hi.1)-Ca (ha+1)) (List.drop (Ca (ha+1)) v)))) (Py CL CJ Aa Aa Aa Aa hL hO) (ob hP λht hQ hR=>Hw (rs:=[rS ((Ax v ha).fStr),AO 4 (A8 Ae (List.take (Ca ((ha+1)+hi.1)-Ca (ha+1)) (List.drop (Ca (ha+1)) v)))]) (Hin:=[.blk hd [rB hg] 4,.blk he [rP hb 0] 174,.bld 177 5 hb hk hh,.blk hf (Ae c) 70]) (Hr:=[.blk hJ (Bu hi.2.1) 143]) Tryz.call167 Aa Aa ((AZ (i:=1) Aa).trans (Aff _ ((AZ (i:=1) Aa).trans (Aff _ ((AZ (i:=1) Aa).trans (Aff _ ((AZ (i:=1) Aa).trans (Aff _ (Afd _))))))))) (hx hd he hb hk hf ((Ax v ha).fStr) (List.take (Ca ((ha+1)+hi.1)-Ca (ha+1)) (List.drop (Ca (ha+1)) v)) hg hh c ht hQ) Aa ?_)))))))))))))));rintro _ _ ⟨hz,rfl,rfl⟩;refine wv (BO Aa) (Ao (cz hR Aa (λhS hT=>?_) (λhS hU=>?_)))
    ·refine Ap (Ab (A3 (Ab (Ab (Bg ?_)))));have hV:=BC hT hl hq;refine A3 ?_;obtain rfl:=Au hV;exact Aq (Xp Tryz.results166) (sC (sC (sC (sC (sS sN))))) ⟨hz,Aa,Aa⟩
    refine Aw (AE (Af (wm Aa (wm Aa (wv (By Aa Aa hs) (wa Aa (Ah (AB (AE (Af (ck hU λhW hX=>wv (By Aa Aa hW) (wm Aa (Ah ?_)))))))))))));have hY:=Bi hX hl;exact Ar (AC (hy,((ha+1)+hi.1,hr+1,ht.2.1,ht.2.2),hz) ⟨hY,AeR _⟩ (AH.c5 Aa Aa Aa Aa Aa AH.nil) (sC (sC (sC (sC (sS sN))))))
   refine Aw (AE (Ad (wm Aa (wm Aa (ck h9 λhZ ga=>wv (r:=AO 4 (A8 Ae (List.drop (Ca ha) v))) (Pz CL CJ Aa Aa hZ) (ob ga λhj gb gc=>BP Tryz.call95 (R0 F (List.drop (Ca ha) v) hj gb) Aa (wm Aa (wv (A7 Aa Aa) (wv (A7 Aa Aa) (wv (A7 Aa Aa) (BL (cs:=[A4 0,A4 0,rB false,rB false]) SG Aa Aa (λgd=>?_))))))))))));refine wa Aa (GU (i:=0) GV Aa Aa Aa (B8.c Aa) Aa Aa ?_);refine wa Aa (Ao (Ak (Ad (wm Aa (wm Aa (wm Aa (wm Aa (wm Aa (wm Aa (ck gc λhu gf=>wv (By Aa Aa hu) (wm Aa (wm Aa (wv (By Aa Aa hu) (ck gf λgg gh=>ck gh λgi gj=>wv (r:=AO 4 (A8 Ae (List.take (Ca (ha+hj.1)-Ca ha) (List.drop (Ca ha) v)))) (Py CL CJ Aa Aa Aa Aa gg gi) (ob gj λhw gl gm=>Hw (rs:=[rS ([]:Ai),AO 4 (A8 Ae (List.take (Ca (ha+hj.1)-Ca ha) (List.drop (Ca ha) v)))]) (Hin:=[.blk hd [rB hg] 4,.blk he [rP hb 0] 174,.bld 177 5 hb hk hh,.blk hf (Ae c) 70]) (Hr:=[.blk gd (Bu hj.2.1) 143]) Tryz.call167 Aa Aa ((AZ (i:=1) Aa).trans (Aff _ ((AZ (i:=1) Aa).trans (Aff _ ((AZ (i:=1) Aa).trans (Aff _ ((AZ (i:=1) Aa).trans (Aff _ (Afd _))))))))) (hx hd he hb hk hf ([]:Ai) (List.take (Ca (ha+hj.1)-Ca ha) (List.drop (Ca ha) v)) hg hh c hw gl) Aa ?_)))))))))))))));rintro _ _ ⟨v222,rfl,rfl⟩;refine wv (BO Aa) (Ao (cz gm Aa (λgp gq=>?_) (λgp gr=>?_)))
   ·refine Ap (Ab (A3 (Ab (Ab (Bg ?_)))));have gs:=BC gq hl hq;refine A3 ?_;obtain rfl:=Au gs;exact Aq (Xp Tryz.results166) (sC (sC (sC (sC (sS sN))))) ⟨v222,Aa,Aa⟩
   refine Aw (AE (Af (wm Aa (wm Aa (wv (By Aa Aa hu) (wa Aa (Ah (AB (AE (Af (ck gr λgu gv=>wv (By Aa Aa gu) (wm Aa (Ah ?_)))))))))))));have gw:=Bi gv hl;exact Ar (AC (hy,(ha+hj.1,hr+1,hw.2.1,hw.2.2),v222) ⟨gw,AeR _⟩ (AH.c5 Aa Aa Aa Aa Aa AH.nil) (sC (sC (sC (sC (sS sN))))))
  refine Bn (Av ?_);have gx:=BE h6 hl hq;exact Av (AY (AC ((hg,hh),hk) gx AH.nil (sC (sC (sC (sC sN))))))
 rintro⟨⟨gy,gz⟩,g0⟩ hp;refine GX ?_;replace hp:J4 gy gz=some r:=hp;unfold J4 at hp;refine AW ?_;obtain rfl:=Au hp;exact Ie (Xp Tryz.results166) (sC (sC (sC (sC sN)))) ⟨g0,Aa,Aa⟩
theorem Ih:∀F:Nat,(∀(ha:Nat) (hb:Value) (l:Ai) (v:(List Ac)) (r:Ai),LG F l v=some r→Fn Tryz.prog GE 119 [rP ha 0,AO 4 (A8 Ae v)] [.bld 177 5 ha hb l] (λR H=>∃w0b:Value,R=rv (.tuple #[])∧H=[.bld 177 5 ha w0b r]))∧(∀(hd:Nat) (he:Nat) (ha:Nat) (hb:Value) (hf:Nat) (key:Ai) (x:(List Ac)) (first:Bool) (l:Ai) (c:Ac) (r:Bool×Bool×Ai),J6 F key x first l c=some r→Fn Tryz.prog GE 167 [rS key,AO 4 (A8 Ae x),rP hd 0,rP he 0,rP hf 0] [.blk hd [rB first] 4,.blk he [rP ha 0] 174,.bld 177 5 ha hb l,.blk hf (Ae c) 70] (λR H=>∃w3b:Value,R=rB r.1∧H=[.blk hd [rB r.2.1] 4,.blk he [rP ha 0] 174,.bld 177 5 ha w3b r.2.2,.blk hf (Ae c) 70]))∧(∀(hd:Nat) (he:Nat) (ha:Nat) (hb:Value) (hf:Nat) (v:(List Ac)) (first:Bool) (l:Ai) (c:Ac) (r:Bool×Ai),Me F v first l c=some r→Fn Tryz.prog GE 166 [AO 4 (A8 Ae v),rv (.func (.func 167) #[] #[(.pointer (some ⟨hd,0,none⟩)),(.pointer (some ⟨he,0,none⟩)),(.pointer (some ⟨hf,0,none⟩))])] [.blk hd [rB first] 4,.blk he [rP ha 0] 174,.bld 177 5 ha hb l,.blk hf (Ae c) 70] (λR H=>∃w1_1b:Value,R=rv (.tuple #[])∧H=[.blk hd [rB r.1] 4,.blk he [rP ha 0] 174,.bld 177 5 ha w1_1b r.2,.blk hf (Ae c) 70]))
  | 0=>⟨(λ_ _ _ _ _ h=>by simp[LG] at h),(λ_ _ _ _ _ _ _ _ _ _ _ h=>by simp[J6] at h),(λ_ _ _ _ _ _ _ _ _ _ h=>by simp[Me] at h)⟩
  | nn+1=>⟨(λha hb l v r h=>Xc nn (J6 nn) (Me nn) (Ih nn).2.1 (Ih nn).2.2 ha hb l v r (by rw[LG] at h;exact h)),(λhd he ha hb hf key x first l c r h=>UK nn (LG nn) (Ih nn).1 hd he ha hb hf key x first l c r (by rw[J6] at h;exact h)),(λhd he ha hb hf v first l c r h=>UJ nn (J6 nn) (Ih nn).2.1 hd he ha hb hf v first l c r (by rw[Me] at h;exact h))⟩
theorem Y1 (F:Nat)(ha:Nat)(hb:Value)(l:Ai)(v:(List Ac))(r:Ai)(h:LG F l v=some r):Fn Tryz.prog GE 119 [rP ha 0,AO 4 (A8 Ae v)] [.bld 177 5 ha hb l] (λR H=>∃w0b:Value,R=rv (.tuple #[])∧H=[.bld 177 5 ha w0b r]):=(Ih F).1 ha hb l v r h
theorem Xe (F:Nat)(v:(List Ac))(r:Ai×Int)(h:R1 F v=some r):Fn Tryz.prog GE 67 [AO 4 (A8 Ae v)] [] (λR H=>R=Dy [rS r.1,A4 r.2]∧H=[]):=by
 refine enter (n:=14) Tryz.func67 Aa Tryz.ntmps67 Aa (λw Z=>?_);unfold R1 at h;refine Ad (wv (r:=rS ([]:Ai)) (A0 Aa) (wa Aa (Ao (Ak (Ad (wm Aa (ob h λr1 e3 h2=>BP Tryz.call36 (Mj F v r1 e3) Aa (wa Aa (Bp (wm Aa (wv (CH Aa Aa) (Ao (cz h2 Aa (λc4 h5=>?_) (λc4 h6=>?_))))))))))))))
 ·refine Ad (wm Aa (wv (r:=rS ([]:Ai)) (A0 Aa) (wa Aa (Ao (Ap (Ab ?_))))));obtain rfl:=Au h5;exact Aq (HW Tryz.results67 (AD Aa) (AD Aa)) sN ⟨Aa,Aa⟩
 refine Aw (AE (Ad (BL (cs:=[rv (.pointer none),rv (.slice none 0 0)]) Tryz.zeroValue177 Aa Aa (λb7=>?_))));refine Bp (wm Aa (WL.tobld (te:=5) (i:=0) Aa (ob h6 λr8 hb h9=>J3 [0] SS (Y1 F b7 (.slice none 0 0) ([]:Ai) v r8 hb) ?_)));rintro _ _ ⟨ha,rfl,rfl⟩;refine Bp (ck h9 λhd he=>Cf (rs:=[rP b7 0]) (Hin:=[.bld 177 5 b7 ha r8]) (Hr:=[]) Tryz.call120 Aa (Afd _) (Rr b7 ha r8  hd) Aa ?_);rintro _ _ ⟨rfl,rfl⟩;refine wa Aa (wa Aa (Ao (Ap ?_)));obtain rfl:=Au he;exact Aq (HW Tryz.results67 (AD Aa) (AD Aa)) sN ⟨Aa,Aa⟩
end Go.Proofs.YtmjlemhondjfhaaGreatDoor.Q
namespace Go.Proofs.YtmjlemhondjfhaaGreatDoor
open Go
set_option linter.unusedVariables false
def I6 (s:Ai)(p:Ai):Option (Bool):=
 AX (imp (decide ((p.length:Int)≤(s.length:Int))) (IR (p.length:Int) (s.length:Int)))<|some ((decide ((p.length:Int)≤(s.length:Int)))&&(decide ((List.take (Int.toNat (p.length:Int)) s)=p)))
def DQ (s:Ai)(p:Ai):Option (Bool):=
 Bv (I6 s p) λr1=>some r1
end Go.Proofs.YtmjlemhondjfhaaGreatDoor
namespace Go.Proofs.YtmjlemhondjfhaaGreatDoor.Q
open Go Go.RowKit
set_option linter.unusedVariables false
set_option linter.unusedSimpArgs false
set_option maxRecDepth 100000
set_option maxHeartbeats 4000000
theorem Qj (s:Ai)(p:Ai)(r:Bool)(h:I6 s p=some r):Fn Tryz.prog GE 203 [rS s,rS p] [] (λR H=>R=rB r∧H=[]):=by
 refine enter (n:=18) Tryz.func203 Aa Tryz.ntmps203 Aa (λw Z=>?_);unfold I6 at h;refine Ad (wa Aa (Ao (ck h λg1 h2=>A5 [(4,rB ((decide ((p.length:Int)≤(s.length:Int)))&&(decide ((List.take (Ca (p.length:Int)) s)=p))))] [] ?_ ?_)))
 ·refine Af (wm Aa (wv (B0 C4 Aa) (wm Aa (wv (B0 C4 Aa) (wv (DP Aa Aa) (wm Aa (AA (decide ((p.length:Int)≤(s.length:Int))) (λc3=>?_) (λc3=>?_))))))))
  ·refine wo c3 (wm Aa (wo c3 (wm Aa (wo c3 (wv (B0 C4 Aa) (wo c3 (wv (EL C4 Aa Aa (BF g1 c3)) (wo c3 (wm Aa (wo c3 (wv (BQ Aa Aa) (E0 Aa c3 Aa (wa Aa (Ah ?_))))))))))))));exact BH c3
  refine wf c3 (wf c3 (wf c3 (wf c3 (wf c3 (wf c3 (wv (r:=rB false) (Ay Aa c3 Aa) (wa Aa (Ah ?_))))))));exact BH c3
 refine Ap ?_;obtain rfl:=Au h2;exact Aq (B2 Tryz.results203 (AD Aa)) sN ⟨Aa,Aa⟩
theorem NW (s:Ai)(p:Ai)(r:Bool)(h:DQ s p=some r):Fn Tryz.prog GE 176 [rS s,rS p] [] (λR H=>R=rB r∧H=[]):=by
 refine enter (n:=8) Tryz.func176 Aa Tryz.ntmps176 Aa (λw Z=>?_);unfold DQ at h;refine Ad (wa Aa (Bp (wm Aa (wm Aa (ob h λr1 e3 h2=>BP Tryz.call203 (Qj s p r1 e3) Aa (wa Aa (Ao (Ap ?_))))))));obtain rfl:=Au h2;exact Aq (B2 Tryz.results176 (AD Aa)) sN ⟨Aa,Aa⟩
end Go.Proofs.YtmjlemhondjfhaaGreatDoor.Q
namespace Go.Proofs.YtmjlemhondjfhaaGreatDoor
open Go
set_option linter.unusedVariables false
def Mu (a:(List Ac))(b:(List Ac))(ha:Int):Option (Stp (Int) (Out (Bool) (Unit))):=
 Bz (decide (ha<(a.length:Int))) (AX (Ch ha (a.length:Int))<|AX (Ch ha (b.length:Int))<|Bz (!(decide (((Ax a ha).fKind)=((Ax b ha).fKind))&&decide (((Ax a ha).fInt)=((Ax b ha).fInt))&&decide (((Ax a ha).fStr)=((Ax b ha).fStr))&&decide (((Ax a ha).fN)=((Ax b ha).fN)))) (some (.out (.ret false))) (AX (BG .i64 (ha+1))<|some (.next (ha+1)))) (some (.out (.go ())))
def Mt :Option (Bool):=
 some true
def QI (F:Nat)(a:(List Ac))(b:(List Ac)):Option (Bool):=
 Bz (!decide ((a.length:Int)=(b.length:Int))) (some false) (Bv (BX (λσ=>Mu a b σ) F 0) (BT λν=>Mt ))
end Go.Proofs.YtmjlemhondjfhaaGreatDoor
namespace Go.Proofs.YtmjlemhondjfhaaGreatDoor.Q
open Go Go.RowKit
set_option linter.unusedVariables false
set_option linter.unusedSimpArgs false
set_option maxRecDepth 100000
set_option maxHeartbeats 4000000
theorem Aao {a0 b0:Int}{a1 b1:Int}{a2 b2:Ai}{a3 b3:Int}(w:World):(Op.equalIn 10000 70 (.agg #[.int .i64 a0,.int .i64 a1,.string (B a2),.int .i64 a3]) (.agg #[.int .i64 b0,.int .i64 b1,.string (B b2),.int .i64 b3])).run Tryz.prog w = .ok (decide (a0=b0)&&decide (a1=b1)&&decide (a2=b2)&&decide (a3=b3)) w:=by
  have hS:Tryz.prog.underlying 70=some (.struct (Tryz.prog.fieldsOf 70)):=by kernel_rfl
  have hp:Tryz.prog.stoodInHeld 70=false:=by kernel_rfl
  have u3:=yu3;have ia3:=Df;have so3:=CK;have u9:=C4;have ia9:=Dp;have so9:=CE;have ha:=Tryz.underlying68;have hb:=DV;have hd:=DU;rw[show(10000:Nat)=9999+1 from rfl,run_equalIn_agg w 9999 70 _ _ hS hp];simp only[Program.fieldsOf,BD]
  go_simp
  simp only[GT]
  by_cases h0:a0=b0<;>by_cases h1:a1=b1<;>by_cases h2:a2=b2<;>by_cases h3:a3=b3<;>simp[h0,h1,h2,h3]
theorem TB {n:Nat}{c:Cx}{l:Fr}{H:List Ent}{d:Option Nat}{ty rty:TypeId}{pos:String}{af:Array Edge}{g:Option (Nat×Bool)}{x y:Operand}{a0 b0:Int}{a1 b1:Int}{a2 b2:Ai}{a3 b3:Int}(hx:ev l x=some (B9 [A4 a0,A4 a1,rS a2,A4 a3]))(hy:ev l y=some (B9 [A4 b0,A4 b1,rS b2,A4 b3])):B4 Tryz.prog n c l H { dst:=d,op:=.binOp .neq 70 x y rty,type:=ty,pos:=pos,after:=af,guard:=g } (rB (!(decide (a0=b0)&&decide (a1=b1)&&decide (a2=b2)&&decide (a3=b3)))):=λa w Z ha hw=>by
  obtain⟨us,e1,q1⟩:=ha.ev hx;obtain⟨vs,e2,q2⟩:=ha.ev hy;have k1:=Bw.eq_rv (us:=[.int .i64 a0,.int .i64 a1,.string (B a2),.int .i64 a3]) q1;have k2:=Bw.eq_rv (us:=[.int .i64 b0,.int .i64 b1,.string (B b2),.int .i64 b3]) q2;subst k1;subst k2;have hm:Tryz.prog.eqGuardType Tryz.prog.depth 70=false:=by kernel_rfl
  have hb:=Aao (a0:=a0) (a1:=a1) (a2:=a2) (a3:=a3) (b0:=b0) (b1:=b1) (b2:=b2) (b3:=b3) w;refine⟨.bool (!(decide (a0=b0)&&decide (a1=b1)&&decide (a2=b2)&&decide (a3=b3))),rfl,?_⟩;have hg:=run_eqGuard_agg (P:=Tryz.prog) w .neq 70 x y #[.int .i64 a0,.int .i64 a1,.string (B a2),.int .i64 a3] #[.int .i64 b0,.int .i64 b1,.string (B b2),.int .i64 b3] hm;simp only[execOp,e1,e2,Sem.run_bind,hg,Result.andThen_ok,run_neq_struct,hb,Sem.run_pure]
theorem Ow (F:Nat)(a:(List Ac))(b:(List Ac))(r:Bool)(h:QI F a b=some r):Fn Tryz.prog GE 24 [AO 4 (A8 Ae a),AO 4 (A8 Ae b)] [] (λR H=>R=rB r∧H=[]):=by
 refine enter (n:=26) Tryz.func24 Aa Tryz.ntmps24 Aa (λw Z=>?_);unfold QI at h;refine Ad (wa Aa (Ao (Ak (Ad (wm Aa (wv (Bj (ys:=a) (enc:=Ae) CL Aa) (wm Aa (wv (Bj (ys:=b) (enc:=Ae) CL Aa) (wv (CH Aa Aa) (Ao (cz h Aa (λc1 h2=>?_) (λc1 h3=>?_))))))))))))
 ·refine Ad (wa Aa (Ao (Ap (Ab ?_))));obtain rfl:=Au h2;exact Aq (B2 Tryz.results24 (AD Aa)) sN ⟨Aa,Aa⟩
 refine Aw (AE (Ak (Ad (wa Aa (Ao (A6 (ob h3 λhg hh hf=>Br (S:=Nat×(Int)×(Unit)) (V:=(Unit)×(Unit)) 0 (λσ=>BX (λσ=>Mu a b σ) σ.1 σ.2.1=some hg) (λσ=>[(0,AO 4 (A8 Ae a)),(1,AO 4 (A8 Ae b)),(5,A4 σ.2.1)]) (λσ=>[]) (λσ=>σ.1) (F,0,()) hh (AH.c Aa (AH.c Aa (AH.c Aa AH.nil))) sN (λσ=>Mt =some r) (λσ=>[]) (λσ=>[]) ?_ ?_)))))))
 ·rintro⟨h1,ha,⟨⟩⟩ hi;refine GI ?_;obtain⟨hj,rfl,hk,hb,he⟩:=Cc hi;replace hb:Mu a b ha=some hk:=hb;unfold Mu at hb;refine Ak (Ad (wm Aa (wm Aa (wv (Bj (ys:=a) (enc:=Ae) CL Aa) (wv (Ci Aa Aa) (Ao (cz hb Aa (λhl hm=>?_) (λhl hn=>?_))))))))
  ·refine Aw (AE (Ak (A6 (Ak (ck hm λho hp=>ck hp λhq hr=>Du [0,1,5] ?_)))));refine rq (Am Aa) (rq (Am Aa) (rq (Bk (enc:=Ae) (ys:=a) CL CJ Aa Aa ho) (rq (Cu Od CJ Aa Aa Aa) (rq (Am Aa) (rq (Am Aa) (rq (Bk (enc:=Ae) (ys:=b) CL CJ Aa Aa hq) (rq (Cu Od CJ Aa Aa Aa) (rq (r:=rB (!(decide (((Ax a ha).fKind)=((Ax b ha).fKind))&&decide (((Ax a ha).fInt)=((Ax b ha).fInt))&&decide (((Ax a ha).fStr)=((Ax b ha).fStr))&&decide (((Ax a ha).fN)=((Ax b ha).fN))))) (TB Aa Aa) (re [17,18,19,20,21,22,23,24,25,0,1,5] ?_)))))))));refine AE (cz hr Aa (λhs ht=>?_) (λhs hu=>?_))
   ·refine Ad (wa Aa (Ao (Ap (A3 (Ab (Ab (Bg ?_)))))));have hw:=BC ht he hf;refine A3 (Ab ?_);obtain rfl:=Au hw;exact Aq (B2 Tryz.results24 (AD Aa)) sN ⟨Aa,Aa⟩
   refine Aw (AB (AE (Af (wm Aa (ck hu λhx hy=>wv (By Aa Aa hx) (wa Aa (Ah ?_)))))));have hz:=Bi hy he;exact Ar (AC (hj,ha+1,()) ⟨hz,AeR _⟩ (AH.c Aa (AH.c Aa (AH.c Aa AH.nil))) sN)
  refine Bn (Av ?_);have h0:=BE hn he hf;exact Av (AY (AC ((),()) h0 AH.nil sN))
 rintro⟨⟨⟩,⟨⟩⟩ hd;refine GX ?_;replace hd:Mt =some r:=hd;unfold Mt at hd;refine AW (AE (Ad (wa Aa (Ao (Ap ?_)))));obtain rfl:=Au hd;exact Aq (B2 Tryz.results24 (AD Aa)) sN ⟨Aa,Aa⟩
end Go.Proofs.YtmjlemhondjfhaaGreatDoor.Q
namespace Go.Proofs.YtmjlemhondjfhaaGreatDoor
open Go
set_option linter.unusedVariables false
end Go.Proofs.YtmjlemhondjfhaaGreatDoor
namespace Go.Proofs.YtmjlemhondjfhaaGreatDoor.Q
open Go Go.RowKit
set_option linter.unusedVariables false
set_option linter.unusedSimpArgs false
set_option maxRecDepth 100000
set_option maxHeartbeats 4000000
end Go.Proofs.YtmjlemhondjfhaaGreatDoor.Q
namespace Go.Proofs.YtmjlemhondjfhaaGreatDoor
open Go
set_option linter.unusedVariables false
set_option linter.unusedSimpArgs false
section
variable {T S : Type}
def HQ:List (Ai×T)→Ai→Option T
 | [],_=>none
 | p::r,k=>bif decide (p.1=k) then some p.2 else HQ r k
def Nu (xs:List (Ai×T))(k:Ai)(z:T):T:=(HQ xs k).getD z
def Kf (xs:List (Ai×T))(k:Ai):Bool:=(HQ xs k).isSome
def TH (k:Ai)(v:T):List (Ai×T)→List (Ai×T)
 | []=>[(k,v)]
 | p::r=>bif DX k p.1 then(k,v)::p::r else p::TH k v r
def Nv (xs:List (Ai×T))(k:Ai)(v:T):List (Ai×T):=xs.map λp=>bif decide (p.1=k) then(k,v) else p
def Jo (xs:List (Ai×T))(k:Ai)(v:T):List (Ai×T):=bif Kf xs k then Nv xs k v else TH k v xs
def Bx (f:T→S)(xs:List (Ai×T)):List (Ai×S):=xs.map λp=>(p.1,f p.2)
theorem M7 (f:T→S):∀(xs:List (Ai×T)) (k:Ai),HQ (Bx f xs) k=(HQ xs k).map f
 | [],k=>rfl
 | p::r,k=>by
  show(bif decide (p.1=k) then some (f p.2) else HQ (Bx f r) k)=_;rw[HQ,M7 f r k]
  cases decide (p.1=k)<;>rfl
theorem Zx (f:T→S)(xs:List (Ai×T))(k:Ai):Kf (Bx f xs) k=Kf xs k:=by
 unfold Kf;rw[M7];cases HQ xs k<;>rfl
theorem TG (f:T→S)(k:Ai)(v:T):∀xs:List (Ai×T),Bx f (TH k v xs)=TH k (f v) (Bx f xs)
 | []=>rfl
 | p::r=>by
  show Bx f (bif DX k p.1 then(k,v)::p::r else p::TH k v r)=(bif DX k p.1 then(k,f v)::(p.1,f p.2)::Bx f r else(p.1,f p.2)::TH k (f v) (Bx f r));rw[← TG f k v r]
  cases DX k p.1<;>rfl
theorem Zw (f:T→S)(xs:List (Ai×T))(k:Ai)(v:T):Bx f (Jo xs k v)=Jo (Bx f xs) k (f v):=by
 unfold Jo;rw[Zx]
 cases Kf xs k with
 | false=>exact TG f k v xs
 | true=>
  show Bx f (Nv xs k v)=Nv (Bx f xs) k (f v);unfold Bx Nv;rw[AfC,AfC];refine List.map_congr_left λp _=>?_;show _=(bif decide (p.1=k) then(k,f v) else(p.1,f p.2));simp only[Function.comp]
  cases decide (p.1=k)<;>rfl
theorem K4 (f:T→S)(xs:List (Ai×T)):(Bx f xs).length=xs.length:=by simp[Bx]
theorem QU (k:Ai)(v:T):∀xs:List (Ai×T),(TH k v xs).Perm ((k,v)::xs)
 | []=>Afd _
 | p::r=>by
  rw[TH]
  cases DX k p.1 with
  | true=>exact Afd _
  | false=>exact((QU k v r).cons p).trans (List.Perm.swap _ _ _)
def Ld (x:T):List T→List (List T)
 | []=>[[x]]
 | y::r=>(x::y::r)::(Ld x r).map (y::·)
def QO:List T→List (List T)
 | []=>[[]]
 | x::r=>(QO r).flatMap (Ld x)
theorem NS (x:T):∀(a b:List T),a++x::b∈Ld x (a++b)
 | [],[]=>by simp[Ld]
 | [],y::b=>by simp[Ld]
 | y::a,b=>by
  simp only[Af3,Ld,Af4,List.mem_map];exact .inr ⟨_,NS x a b,rfl⟩
theorem QW:∀(xs ys:List T),ys.Perm xs→ys∈QO xs
 | [],ys,h=>by rw[h.eq_nil];simp[QO]
 | x::r,ys,h=>by
  have hx:x∈ys:=h.symm.subset (List.mem_cons_self ..);obtain⟨a,b,rfl⟩:=List.append_of_mem hx;have h2:(a++b).Perm r:=(List.perm_middle.symm.trans h).cons_inv;simp only[QO,List.mem_flatMap];exact⟨a++b,QW r _ h2,NS x a b⟩
def AcB {R:Type}[DecidableEq R](xs:List T)(K:List T→Option R):Option R:=match K xs with
 | none=>none
 | some r=>bif (QO xs).all (λp=>decide (K p=some r)) then some r else none
theorem Ac9 {R:Type}[DecidableEq R]{xs:List T}{K:List T→Option R}{r:R}(h:AcB xs K=some r):∀p:List T,p.Perm xs→K p=some r:=λp hp=>by
 unfold AcB at h
 cases hk:K xs with
 | none=>rw[hk] at h;cases h
 | some q=>
  rw[hk] at h;simp only at h
  cases ha:(QO xs).all (λp=>decide (K p=some q)) with
  | false=>rw[ha] at h;cases h
  | true=>
   rw[ha] at h;cases h;exact Afy (List.all_eq_true.1 ha p (QW xs p hp))
def Z4 {St O:Type}(body:T→St→Option (Stp St (Out O St))):List T→St→Option (Out O St)
 | [],s=>some (.go s)
 | x::r,s=>match body x s with
  | none=>none
  | some (.next s')=>Z4 body r s'
  | some (.out o)=>some o
def AdW {St R:Type}(body:T→St→Option (Stp St (Out R St)))(ys:List T)(K:St→Option R)(r:R):Stp St (Out R St)→Prop
 | .next s'=>∀q:List T,q.Perm ys→Bv (Z4 body q s') (BT K)=some r
 | .out o=>BT K o=some r
theorem Ad9 {St R:Type}{body:T→St→Option (Stp St (Out R St))}{ys ys':List T}{p:T}{s:St}{K:St→Option R}{r:R}(h:∀q:List T,q.Perm ys→Bv (Z4 body q s) (BT K)=some r)(hp:ys.Perm (p::ys')):∃t,body p s=some t∧AdW body ys' K r t:=by
 have h1:∀q:List T,q.Perm ys'→Bv (Z4 body (p::q) s) (BT K)=some r:=λq hq=>h _ ((hq.cons p).trans hp.symm)
 cases hb:body p s with
 | none=>
  have:=h1 ys' (Afd _);rw[Z4,hb] at this;cases this
 | some t=>
  refine⟨t,rfl,?_⟩
  cases t with
  | next s'=>
   intro q hq;have:=h1 q hq;rw[Z4,hb] at this;exact this
  | out o=>
   have:=h1 ys' (Afd _);rw[Z4,hb] at this;exact this
theorem Abm {St R:Type}{body:T→St→Option (Stp St (Out R St))}{ys:List T}{s:St}{K:St→Option R}{r:R}(h:∀q:List T,q.Perm ys→Bv (Z4 body q s) (BT K)=some r)(hy:ys=[]):K s=some r:=by
 subst hy;exact h [] (Afd _)
theorem XJ {St R:Type}{body:T→St→Option (Stp St (Out R St))}{ys:List T}{s':St}{K:St→Option R}{r:R}{t:Stp St (Out R St)}(h:some (Stp.next s')=some t)(ht:AdW body ys K r t):∀q:List T,q.Perm ys→Bv (Z4 body q s') (BT K)=some r:=by cases h;exact ht
theorem AaR {ys ys':List T}{p:T}(h:ys.Perm (p::ys')):ys'.length<ys.length:=by rw[h.length_eq];exact AeR _
end
def Sg (k:IntKind)(x y:Int):Int:=k.wrap ((BitVec.ofInt k.bits x&&& BitVec.ofInt k.bits y).toNat:Int)
def UA (k:IntKind)(x y:Int):Int:=k.wrap ((BitVec.ofInt k.bits x||| BitVec.ofInt k.bits y).toNat:Int)
def HE (k:IntKind)(x n:Int):Int:=k.wrap (x*2 ^ (min n.toNat k.bits))
structure Aj where
 fAllow:Bool
 fActions:(List Ai)
 fResources:(List Ai)
 deriving DecidableEq,Inhabited
structure BA where
 fAllowed:Bool
 fIndex:Int
 deriving DecidableEq,Inhabited
structure AI where
 fAllow:Bool
 fAddr:Int
 fBits:Int
 fLow:Int
 fHigh:Int
 deriving DecidableEq,Inhabited
def G9 (s:Ai)(x:Ai):Option (Bool):=
 AX (imp (decide ((x.length:Int)≤(s.length:Int))) (BG .i64 ((s.length:Int)-(x.length:Int))))<|AX (imp (decide ((x.length:Int)≤(s.length:Int))) (IR ((s.length:Int)-(x.length:Int)) (s.length:Int)))<|some ((decide ((x.length:Int)≤(s.length:Int)))&&(decide ((List.drop (Int.toNat ((s.length:Int)-(x.length:Int))) s)=x)))
def HL (s:Ai)(x:Ai):Option (Ai):=
 Bv (G9 s x) λr1=>Bz (r1) (AX (BG .i64 ((s.length:Int)-(x.length:Int)))<|AX (IR ((s.length:Int)-(x.length:Int)) (s.length:Int))<|some (List.take (Int.toNat ((s.length:Int)-(x.length:Int))) s)) (some s)
def Lg (s:Ai)(x:Ai):Option (Bool):=
 Bv (G9 s x) λr1=>some r1
def J8 (s:Ai)(x:Ai):Option (Ai):=
 Bv (HL s x) λr1=>some r1
def E3 (s:Ai):Option (Ai):=
 Bv (J8 s ([42]:Ai)) λr1=>some r1
def LA (s:Ai):Option (Bool):=
 Bv (Lg s ([42]:Ai)) λr1=>some r1
def Js (s:Ai):Option (Bool):=
 AX (imp (!(Jq s)) (imp (!(decide (s=([42]:Ai)))) ((E3 s).isSome)))<|AX (imp (!(Jq s)) (imp (!(decide (s=([42]:Ai)))) (imp (Jq (ov (E3 s))) ((LA s).isSome))))<|some ((Jq s)||((decide (s=([42]:Ai)))||((Jq (ov (E3 s)))&&((ov (LA s))&&(decide ((s.length:Int)≤64))))))
def KB (q:Ai)(s:Ai):Option (Bool):=
 Bv (Js q) λr1=>Bz (!r1) (some false) (Bv (LA q) λr7=>Bz (r7) (Bv (E3 q) λha=>Bv (DQ s ha) λhb=>some hb) (some (decide (q=s))))
def O8 (c:Int):Option (Bool):=
 some ((decide (97≤c))&&(decide (c≤122)))
def MC (c:Int):Option (Bool):=
 some ((decide (48≤c))&&(decide (c≤57)))
def C6 (ha:Bool):Option (Bool):=
 some ha
def IM (c:Int):Option (Bool):=
 Bv (O8 c) λha=>Bz (ha) (C6 true) (Bz (decide (65≤c)) (Bz (decide (c≤90)) (C6 true) (Bv (MC c) λhb=>Bz (hb) (C6 true) (Bz (decide (c=45)) (C6 true) (Bz (decide (c=95)) (C6 true) (Bz (decide (c=46)) (C6 true) (Bz (decide (c=58)) (C6 true) (C6 (decide (c=47))))))))) (Bv (MC c) λhd=>Bz (hd) (C6 true) (Bz (decide (c=45)) (C6 true) (Bz (decide (c=95)) (C6 true) (Bz (decide (c=46)) (C6 true) (Bz (decide (c=58)) (C6 true) (C6 (decide (c=47)))))))))
def Sh (s:Ai):Option (Bool):=
 AX (BG .i64 ((s.length:Int)-1))<|AX (Ch ((s.length:Int)-1) (s.length:Int))<|some (decide ((BK s ((s.length:Int)-1))=42))
def MD (s:Ai)(q:Ai):Option (Bool):=
 AX (imp (decide ((q.length:Int)≤(s.length:Int))) (IR (q.length:Int) (s.length:Int)))<|some ((decide ((q.length:Int)≤(s.length:Int)))&&(decide ((List.take (Int.toNat (q.length:Int)) s)=q)))
def Ei (s:Ai)(ha:Int):Option (Stp (Int) (Out (Bool) (Unit))):=
 AX (BG .i64 ((s.length:Int)-1))<|Bz (decide (ha<((s.length:Int)-1))) (AX (Ch ha (s.length:Int))<|Bv (IM (BK s ha)) λhb=>Bz (!hb) (some (.out (.ret false))) (AX (BG .i64 (ha+1))<|some (.next (ha+1)))) (some (.out (.go ())))
def GQ (s:Ai):Option (Bool):=
 AX (BG .i64 ((s.length:Int)-1))<|AX (Ch ((s.length:Int)-1) (s.length:Int))<|AX ((IM (BK s ((s.length:Int)-1))).isSome)<|some ((ov (IM (BK s ((s.length:Int)-1))))||(decide ((BK s ((s.length:Int)-1))=42)))
def Ib (F:Nat)(s:Ai):Option (Bool):=
 Bz (((decide ((s.length:Int)<1))||(decide (64<(s.length:Int))))) (some false) (Bv (BX (λσ=>Ei s σ) F 0) (BT λν=>GQ s ))
def Jt (F:Nat)(q:Ai)(s:Ai):Option (Bool):=
 Bv (Ib F q) λr1=>Bz (!r1) (some false) (Bv (Sh q) λr7=>Bz (r7) (AX (BG .i64 ((q.length:Int)-1))<|AX (IR ((q.length:Int)-1) (q.length:Int))<|Bv (MD s (List.take (Int.toNat ((q.length:Int)-1)) q)) λha=>some ha) (some (decide (s=q))))
def Iv (l:(List Ai))(s:Ai)(ha:Int):Option (Stp (Int) (Out (Bool) (Unit))):=
 Bz (decide (ha<(l.length:Int))) (AX (Ch ha (l.length:Int))<|Bz (decide ((Ax l ha)=s)) (some (.out (.ret true))) (AX (BG .i64 (ha+1))<|some (.next (ha+1)))) (some (.out (.go ())))
def KC :Option (Bool):=
 some false
def Re (F:Nat)(l:(List Ai))(s:Ai):Option (Bool):=
 Bv (BX (λσ=>Iv l s σ) F 0) (BT λν=>KC )
def Lf (a:(List Ai))(b:(List Ai))(ha:Int):Option (Stp (Int) (Out (Bool) (Unit))):=
 Bz (decide (ha<(a.length:Int))) (AX (Ch ha (a.length:Int))<|AX (Ch ha (b.length:Int))<|Bz (!decide ((Ax a ha)=(Ax b ha))) (some (.out (.ret false))) (AX (BG .i64 (ha+1))<|some (.next (ha+1)))) (some (.out (.go ())))
def Le :Option (Bool):=
 some true
def Vu (F:Nat)(a:(List Ai))(b:(List Ai)):Option (Bool):=
 Bz (!decide ((a.length:Int)=(b.length:Int))) (some false) (Bv (BX (λσ=>Lf a b σ) F 0) (BT λν=>Le ))
def M0 (x:Ai):Option (Bool):=
 Bv (Js x) λr1=>some (!r1)
def O2 (x:Ai)(s:Ai):Option (Bool):=
 Bv (KB x s) λr1=>some r1
def It (ys:(List Ai))(ha:Int):Option (Stp (Int) (Out (Int) (Unit))):=
 Bz (decide (ha<(ys.length:Int))) (AX (Ch ha (ys.length:Int))<|Bv (M0 (Ax ys ha)) λhb=>Bz (hb) (some (.out (.ret ha))) (AX (BG .i64 (ha+1))<|some (.next (ha+1)))) (some (.out (.go ())))
def K9 :Option (Int):=
 some (-1)
def Wx (F:Nat)(ys:(List Ai)):Option (Int):=
 Bv (BX (λσ=>It ys σ) F 0) (BT λν=>K9 )
def N3 (F:Nat)(ys:(List Ai)):Option (Bool):=
 Bv (Wx F ys) λr1=>some (decide (0≤r1))
def Hg (ys:(List Ai))(s:Ai)(ha:Int):Option (Stp (Int) (Out (Int) (Unit))):=
 Bz (decide (ha<(ys.length:Int))) (AX (Ch ha (ys.length:Int))<|Bv (O2 (Ax ys ha) s) λhb=>Bz (hb) (some (.out (.ret ha))) (AX (BG .i64 (ha+1))<|some (.next (ha+1)))) (some (.out (.go ())))
def Jp :Option (Int):=
 some (-1)
def Sc (F:Nat)(ys:(List Ai))(s:Ai):Option (Int):=
 Bv (BX (λσ=>Hg ys s σ) F 0) (BT λν=>Jp )
def ME (F:Nat)(ys:(List Ai))(s:Ai):Option (Bool):=
 Bv (Sc F ys s) λr1=>some (decide (0≤r1))
def G0 (F:Nat)(s:Aj)(ha:Int):Option (Stp (Int) (Out (Int) (Unit))):=
 Bz (decide (ha<(([s.fActions,s.fResources]:List (List Ai)).length:Int))) (AX (Ch ha (([s.fActions,s.fResources]:List (List Ai)).length:Int))<|Bv (N3 F (Ax ([s.fActions,s.fResources]:List (List Ai)) ha)) λhb=>Bz (hb) (some (.out (.ret 4))) (AX (BG .i64 (ha+1))<|some (.next (ha+1)))) (some (.out (.go ())))
def Ik :Option (Int):=
 some 0
def G1 (s:Aj)(ha:Int):Option (Stp (Int) (Out (Int) (Unit))):=
 Bz (decide (ha<(([s.fActions,s.fResources]:List (List Ai)).length:Int))) (AX (Ch ha (([s.fActions,s.fResources]:List (List Ai)).length:Int))<|Bz (((decide (((Ax ([s.fActions,s.fResources]:List (List Ai)) ha).length:Int)<1))||(decide (8<((Ax ([s.fActions,s.fResources]:List (List Ai)) ha).length:Int))))) (some (.out (.ret 3))) (AX (BG .i64 (ha+1))<|some (.next (ha+1)))) (some (.out (.go ())))
def Il (F:Nat)(s:Aj):Option (Int):=
 Bv (BX (λσ=>G0 F s σ) F 0) (BT λν=>Ik )
def Gw (F:Nat)(s:Aj):Option (Int):=
 Bv (BX (λσ=>G1 s σ) F 0) (BT λν=>Il F s )
def GM (F:Nat)(l:(List Ai))(s:Ai):Option (Bool):=
 Bv (ME F l s) λr2=>some r2
def Mz (F:Nat)(x:Aj)(allow:Bool)(action:Ai)(resource:Ai):Option (Bool):=
 AX (imp (x.fAllow ==allow) ((Gw F x).isSome))<|AX (imp (x.fAllow ==allow) (imp (decide ((ov (Gw F x))=0)) ((GM F x.fActions action).isSome)))<|AX (imp (x.fAllow ==allow) (imp (decide ((ov (Gw F x))=0)) (imp ((ov (GM F x.fActions action))) ((GM F x.fResources resource).isSome))))<|some ((x.fAllow ==allow)&&((decide ((ov (Gw F x))=0))&&((ov (GM F x.fActions action))&&(ov (GM F x.fResources resource)))))
def Is (F:Nat)(ys:(List Aj))(allow:Bool)(action:Ai)(resource:Ai)(ha:Int):Option (Stp (Int) (Out (Int) (Unit))):=
 Bz (decide (ha<(ys.length:Int))) (AX (Ch ha (ys.length:Int))<|Bv (Mz F (Ax ys ha) allow action resource) λhb=>Bz (hb) (some (.out (.ret ha))) (AX (BG .i64 (ha+1))<|some (.next (ha+1)))) (some (.out (.go ())))
def K8 :Option (Int):=
 some (-1)
def TR (F:Nat)(ys:(List Aj))(allow:Bool)(action:Ai)(resource:Ai):Option (Int):=
 Bv (BX (λσ=>Is F ys allow action resource σ) F 0) (BT λν=>K8 )
def Pv (F:Nat)(allow:Bool)(l:(List Aj))(action:Ai)(resource:Ai):Option (Int):=
 Bv (TR F l allow action resource) λr2=>some r2
def Kw (F:Nat)(l:(List Aj))(action:Ai)(resource:Ai):Option (BA):=
 Bv (Pv F false l action resource) λr5=>Bz (decide (0≤r5)) (some (BA.mk false r5)) (Bv (Pv F true l action resource) λha=>some (BA.mk (decide (0≤ha)) ha))
def D9 (n:Int)(low:Int)(high:Int):Option (Bool):=
 some ((decide (low≤n))&&(decide (n≤high)))
def Eg (bits:Int):Option (Int):=
 AX (BG .i64 (32-bits))<|AX (decide (0≤(32-bits)))<|AX (BG .i64 ((HE .i64 1 (32-bits))-1))<|some ((HE .i64 1 (32-bits))-1)
def DA (q:AI):Option (Int):=
 AX ((D9 q.fAddr 0 4294967295).isSome)<|AX (imp (!(!(ov (D9 q.fAddr 0 4294967295)))) ((D9 q.fBits 0 32).isSome))<|AX (imp (!(!(ov (D9 q.fAddr 0 4294967295)))) (imp (!(!(ov (D9 q.fBits 0 32)))) ((D9 q.fLow 1 65535).isSome)))<|AX (imp (!(!(ov (D9 q.fAddr 0 4294967295)))) (imp (!(!(ov (D9 q.fBits 0 32)))) (imp (!(!(ov (D9 q.fLow 1 65535)))) ((D9 q.fHigh q.fLow 65535).isSome))))<|Bz (((!(ov (D9 q.fAddr 0 4294967295)))||((!(ov (D9 q.fBits 0 32)))||((!(ov (D9 q.fLow 1 65535)))||(!(ov (D9 q.fHigh q.fLow 65535))))))) (some 2) (Bv (Eg q.fBits) λha=>Bz (!decide ((Sg .i64 q.fAddr ha)=0)) (some 1) (some 0))
def Ww (s:Ai):Option (Int):=
 Bz (decide (([46]:Ai)=s)) (some 0) (AX (Ch 0 (([46]:Ai).length:Int))<|some (Lib.indexByte s (Int.toNat (BK ([46]:Ai) 0)).toUInt8))
def TS (s:Ai):Option (Int):=
 Bz (decide (([58]:Ai)=s)) (some 0) (AX (Ch 0 (([58]:Ai).length:Int))<|some (Lib.indexByte s (Int.toNat (BK ([58]:Ai) 0)).toUInt8))
def Ph (s:Ai):Option (Int):=
 Bv (Ww s) λr1=>some r1
def CU (s:Ai)(ha:Ai)(hb:Int)(he:(List Ai)):Option (Stp (Ai×Int×(List Ai)) (Out ((List Ai)) (Ai×Int×(List Ai)))):=
 Bz (decide (hb<((min ((Lib.countByte s 46:Int)+1) ((s.length:Int)+1))-1))) (Bv (Ph ha) λhd=>Bz (decide (hd<0)) (some (.out (.go (ha,hb,he)))) (AX (BG .i64 (hd+0))<|AX (IR (hd+0) (ha.length:Int))<|AX (Ch hb (he.length:Int))<|Ln (List.set he (Int.toNat hb) (List.take (Int.toNat (hd+0)) ha)) λhf=>AX (BG .i64 (hd+1))<|AX (IR (hd+1) (ha.length:Int))<|AX (BG .i64 (hb+1))<|some (.next (List.drop (Int.toNat (hd+1)) ha,hb+1,hf)))) (some (.out (.go (ha,hb,he))))
def Eb (he:Ai)(ha:Int)(hb:(List Ai)):Option ((List Ai)):=
 AX (Ch ha (hb.length:Int))<|Ln (List.set hb (Int.toNat ha) he) λhd=>AX (BG .i64 (ha+1))<|AX (IR (ha+1) (hd.length:Int))<|some (List.take (Int.toNat (ha+1)) hd)
def MP (F:Nat)(s:Ai):Option ((List Ai)):=
 AX (BG .i64 ((Lib.countByte s 46:Int)+1))<|AX (BG .i64 ((s.length:Int)+1))<|AX (Eh 16 (Int.toNat (min ((Lib.countByte s 46:Int)+1) ((s.length:Int)+1))))<|AX (decide (0≤(min ((Lib.countByte s 46:Int)+1) ((s.length:Int)+1))))<|AX (BG .i64 ((min ((Lib.countByte s 46:Int)+1) ((s.length:Int)+1))-1))<|Bv (BX (λσ=>CU s σ.1 σ.2.1 σ.2.2) F (s,0,List.replicate (Int.toNat (min ((Lib.countByte s 46:Int)+1) ((s.length:Int)+1))) ([]:Ai))) (BT λν=>Eb ν.1 ν.2.1 ν.2.2)
def Pg (F:Nat)(s:Ai):Option ((List Ai)):=
 Bv (MP F s) λr1=>some r1
def VX (s:Ai):Option (Ai×Ai×Bool):=
 Bv (TS s) λr1=>Bz (decide (0≤r1)) (AX (IR r1 (s.length:Int))<|AX (BG .i64 (r1+1))<|AX (IR (r1+1) (s.length:Int))<|some (List.take (Int.toNat r1) s,List.drop (Int.toNat (r1+1)) s,true)) (some (s,([]:Ai),false))
def YI (s:Ai):Option (Ai×Ai×Bool):=
 Bv (VX s) λr1=>some (r1.1,r1.2.1,r1.2.2)
def DB (r1:(List Ai))(ha:Int)(hb:(List Int)):Option (Stp (Int×(List Int)) (Out (Int×Int) ((List Int)))):=
 Bz (decide (ha<4)) (AX (Ch ha (r1.length:Int))<|AX (Eh 1 (Ax r1 ha).length)<|AX (imp (!(!decide ((Cq (Ax r1 ha))=0))) ((D9 (B6 (Ax r1 ha)) 0 255).isSome))<|Bz (((!decide ((Cq (Ax r1 ha))=0))||(!(ov (D9 (B6 (Ax r1 ha)) 0 255))))) (some (.out (.ret (0,1)))) (AX (Ch ha 4)<|AX (Ch ha (hb.length:Int))<|AX (BG .i64 (ha+1))<|some (.next (ha+1,List.set hb (Int.toNat ha) (B6 (Ax r1 ha)))))) (some (.out (.go hb)))
def Gd (ha:(List Int)):Option (Int×Int):=
 AX (Ch 0 4)<|AX (Ch 0 (ha.length:Int))<|AX (Ch 1 4)<|AX (Ch 1 (ha.length:Int))<|AX (Ch 2 4)<|AX (Ch 2 (ha.length:Int))<|AX (Ch 3 4)<|AX (Ch 3 (ha.length:Int))<|some (UA .i64 (UA .i64 (UA .i64 (HE .i64 (Ax ha 0) 24) (HE .i64 (Ax ha 1) 16)) (HE .i64 (Ax ha 2) 8)) (Ax ha 3),0)
def Jm (F:Nat)(s:Ai):Option (Int×Int):=
 Bv (Pg F s) λr1=>Bz (!decide ((r1.length:Int)=4)) (some (0,1)) (Bv (BX (λσ=>DB r1 σ.1 σ.2) F (0,List.replicate 4 (0:Int))) (BT λν=>Gd ν))
def Jl (q:AI)(addr:Int)(port:Int):Option (Bool):=
 AX ((DA q).isSome)<|AX (imp (decide ((ov (DA q))=0)) ((Eg q.fBits).isSome))<|AX (imp (decide ((ov (DA q))=0)) (BG .i64 (q.fAddr+(ov (Eg q.fBits)))))<|AX (imp (decide ((ov (DA q))=0)) ((D9 addr q.fAddr (q.fAddr+(ov (Eg q.fBits)))).isSome))<|AX (imp (decide ((ov (DA q))=0)) (imp ((ov (D9 addr q.fAddr (q.fAddr+(ov (Eg q.fBits)))))) ((D9 port q.fLow q.fHigh).isSome)))<|some ((decide ((ov (DA q))=0))&&((ov (D9 addr q.fAddr (q.fAddr+(ov (Eg q.fBits)))))&&(ov (D9 port q.fLow q.fHigh))))
def EN (l:(List AI))(addr:Int)(port:Int)(ha:Int):Option (Stp (Int) (Out (BA) (Unit))):=
 Bz (decide (ha<(l.length:Int))) (AX (Ch ha (l.length:Int))<|Bv (Jl (Ax l ha) addr port) λhb=>Bz (hb) (some (.out (.ret (BA.mk ((Ax l ha).fAllow) ha)))) (AX (BG .i64 (ha+1))<|some (.next (ha+1)))) (some (.out (.go ())))
def IE :Option (BA):=
 some (BA.mk false (-1))
def H8 (F:Nat)(l:(List AI))(addr:Int)(port:Int):Option (BA):=
 Bv (BX (λσ=>EN l addr port σ) F 0) (BT λν=>IE )
end Go.Proofs.YtmjlemhondjfhaaGreatDoor
namespace Go.Proofs.YtmjlemhondjfhaaGreatDoor.Q
open Go Go.RowKit
set_option linter.unusedVariables false
set_option linter.unusedSimpArgs false
section
variable {P : Program} {n : Nat} {c : Cx} {l : Fr} {H : List Ent} {d : Option Nat} {x y : Operand} {t t' ty : TypeId} {pos : String} {af : Array Edge} {g : Option (Nat × Bool)} {k k' : IntKind} {p q : Int}
theorem Ad5 (hx:ev l x=some (rI k p))(hy:ev l y=some (rI k q)):B4 P n c l H { dst:=d,op:=.binOp .and t x y t',type:=ty,pos:=pos,after:=af,guard:=g } (rI k (Sg k p q)):=λa w Z ha _=>Ds<|by
 simp[execOp,ha.eval hx,ha.eval hy,BB,binOp,Op.intBits,Sg]
theorem Ac6 (hx:ev l x=some (rI k p))(hy:ev l y=some (rI k q)):B4 P n c l H { dst:=d,op:=.binOp .or t x y t',type:=ty,pos:=pos,after:=af,guard:=g } (rI k (UA k p q)):=λa w Z ha _=>Ds<|by
 simp[execOp,ha.eval hx,ha.eval hy,BB,binOp,Op.intBits,UA]
theorem Wl (hx:ev l x=some (rI k p))(hy:ev l y=some (rI k' q))(h0:decide (0≤q)=true):B4 P n c l H { dst:=d,op:=.binOp .shl t x y t',type:=ty,pos:=pos,after:=af,guard:=g } (rI k (HE k p q)):=λa w Z ha _=>Ds<|by
 have h1 : ¬ q<0:=by have:=Afy h0;omega
 simp[execOp,ha.eval hx,ha.eval hy,BB,binOp,Op.shift,HE,h1]
end
theorem AcD {α:Type}[Inhabited α]{enc:α→Rp}{ys:List α}{j:Int}(hg:Ch j (ys.length:Int)=true):(List.map enc ys)[j.toNat]? =some (enc (Ax ys j)):=by
 have h0:=(Ce hg).1;have h1:=(Ce hg).2;have hl:j.toNat<ys.length:=by omega
 simp[Ax,AeN hl]
theorem Abj {α:Type}{enc:α→Rp}{ys:List α}{j:Int}(hg:Ch j (ys.length:Int)=true):Nat.blt j.toNat (List.map enc ys).length=true:=by
 have h0:=(Ce hg).1;have h1:=(Ce hg).2;simp;omega
section
variable {P : Program} {n : Nat} {c : Cx} {ops : Array Oper} {Q : Exit → Act → World → Prop} {rest : List Oper} {l : Fr} {H H' : List Ent} {d : Nat} {d' : Option Nat} {x y : Operand} {t ty e : TypeId} {pos : String} {af : Array Edge} {g : Option (Nat × Bool)} {k : IntKind} {b i len : Nat} {j : Int}
theorem P1 (ht:P.underlying t=some (.array len e))(hz:∀w,(sizeOf e).run P w = .ok 1 w)(hx:ev l x=some (rv (.pointer (some ⟨b,0,none⟩))))(hy:ev l y=some (rI k j))(hg:Ch j (len:Int)=true) :
  B4 P n c l H { dst:=d',op:=.indexAddr t x y,type:=ty,pos:=pos,after:=af,guard:=g } (rv (.pointer (some ⟨b,j.toNat,none⟩))):=λa w Z ha hw=>Ds<|by
 have h0:=(Ce hg).1;have h1:=(Ce hg).2;simp[execOp,ha.eval hx,ha.eval hy,Instr.indexAt,Instr.sureAddr,asIntOf,run_underlying ht,h0,h1,hz,Kg]
theorem M5 {α:Type}[Inhabited α]{enc:α→Rp}{ys:List α}(hag:∀w,(isAgg t).run P w = .ok false w)(hx:ev l x=some (rv (.pointer (some ⟨b,j.toNat,none⟩))))(hi:H[i]? =some (.blk b (List.map enc ys) e))(hg:Ch j (ys.length:Int)=true) :
  B4 P n c l H { dst:=d',op:=.load t x,type:=ty,pos:=pos,after:=af,guard:=g } (enc (Ax ys j)):=AT hag hx hi (AcD hg)
theorem Xh {α:Type}[Inhabited α]{enc:α→Rp}{ys:List α}{v:α}(hag:∀w,(sizeOf t).run P w = .ok 1 w)(hx:ev l x=some (rv (.pointer (some ⟨b,j.toNat,none⟩))))(hy:ev l y=some (enc v))(hv:Q4 H (enc v))
  (hi:H[i]? =some (.blk b (List.map enc ys) e)) (hg:Ch j (ys.length:Int)=true) (hH:H.set i (.blk b (List.map enc (List.set ys j.toNat v)) e)=H')
  (h:WL P n c ops Q rest l H'):WL P n c ops Q ({ dst:=none,op:=.store t x y,type:=ty,pos:=pos,after:=af,guard:=none }::rest) l H:=
 R2 hag hx hy hv hi (Abj hg) (cs':=List.map enc (List.set ys j.toNat v)) (by rw[List.map_set]) hH h
end
section
variable {P : Program} {n : Nat} {c : Cx} {l : Fr} {H : List Ent} {d' : Option Nat} {x y : Operand} {t t' ty e te : TypeId} {pos : String} {af : Array Edge} {g : Option (Nat × Bool)} {k : IntKind} {b i len : Nat} {j : Int}
end
def PT (ops:List Oper)(N:Nat):Bool:=
 let cl:=LQ ops []
 (List.range ops.length).all (λi=>(De (ops.getD i default)).all (·<i))&&
 (List.range ops.length).all (λi=>i<N||(List.range i).all (λj=>(cl.getD i 0).testBit j))
section
variable {P : Program} {Q : Exit → Act → World → Prop}
theorem Uv {listed:Array Bool}{len m:Nat}(hs:listed.size=len)(hm:m≤len)(h:∀j,j<len→(listed.getD j true=true↔j<m)):listed.toList.count false=len-m:=by
 have:listed.toList=List.replicate m true++List.replicate (len-m) false:=by
  apply List.ext_getElem
  ·simp[hs];omega
  ·intro j h1 h2;have hj:j<len:=by simpa[hs] using h1
   have:=h j hj;rw[Array.getD_eq_getD_getElem?,Array.getElem?_eq_getElem (by omega)] at this;simp only[Afq] at this;rw[Array.getElem_toList,List.getElem_append]
   split
   ·rename_i h3
    simp at h3;simp[this.2 h3]
   ·rename_i h3
    simp at h3;simp only[List.getElem_replicate]
    cases hb:listed[j] with
    | false=>rfl
    | true=>have:=this.1 hb;omega
 rw[this];simp[List.count_append,List.count_replicate]
theorem W3 {listed:Array Bool}{j:Nat}(h:j<listed.size)(d d':Bool):listed.getD j d=listed.getD j d':=by
 simp[Array.getD_eq_getD_getElem?,Array.getElem?_eq_getElem h]
theorem PW {ops:List Oper}{listed:Array Bool}{i:Nat}{o:Oper}(ho:ops[i]? =some o)(hb:∀e∈De o,listed.getD e true=true)
  (hcl:∀j o,ops[j]? =some o→listed.getD j true=true→∀e∈De o,listed.getD e true=true) (j:Nat) (h:((LQ ops []).getD i 0).testBit j=true):j=i∨listed.getD j true=true:=
 Ht ops (λk=>k=i∨listed.getD k true=true) ops [] (λt o' ht e he hF=>by
  rcases hF with hF | hF
  ·simp at hF;subst hF;rw[ho] at ht;simp at ht;subst ht;exact .inr (hb e he)
  ·exact .inr (hcl t o' ht (by simpa using hF) e he)) (λj i hb=>by simp at hb) i j h (.inl rfl)
theorem LI {ops:List Oper}{listed:Array Bool}{i:Nat}(hsz:listed.size=ops.length)(hlt:∀i,i<ops.length→∀e∈De (ops.getD i default),e<i)(h:i∈Region.ready .any ops.toArray listed) :
  listed.getD i true=false∧i<ops.length∧∃o,ops[i]? =some o∧∀e∈De o,listed.getD e true=true:=by
 obtain⟨h1,o,ho,h2⟩:=mem_ready.1 h;have ho':ops[i]? =some o:=by simpa using ho
 have hil:=(List.getElem?_eq_some_iff.1 ho').1;refine⟨h1,hil,o,ho',λe he=>?_⟩;have hei:=hlt i hil e (by rw[AeO,ho'];exact he);simp only[De,List.mem_map,List.mem_filter] at he;obtain⟨x,⟨hx1,hx2⟩,rfl⟩:=he;have h3:=h2 x (by simpa using hx1) hx2;rw[W3 (by omega) true false];exact h3
theorem L7 {ops:List Oper}{listed:Array Bool}(hsz:listed.size=ops.length)(hlt:∀i,i<ops.length→∀e∈De (ops.getD i default),e<i)(h:Region.ready .any ops.toArray listed=[]) :
  ∀j,j<ops.length→listed.getD j true=true:=by
 intro j
 induction j using Nat.strongRecOn with
 | ind j ih=>
  intro hj
  cases hb:listed.getD j true with
  | true=>rfl
  | false=>
   have:j∈Region.ready .any ops.toArray listed:=mem_ready.2 ⟨hb,ops[j],by simp[hj],λe he hbn=>by
    have hel:e.on<j:=hlt j hj e.on (by
     rw[AeO,AeN hj];simp only[De,Afq,List.mem_map,List.mem_filter];exact⟨e,⟨by simpa using he,hbn⟩,rfl⟩)
    rw[W3 (by omega) false true];exact ih e.on hel (by omega)⟩
   rw[h] at this;cases this
theorem Ov {listed:Array Bool}{i j:Nat}(hi:i<listed.size):(listed.setIfInBounds i true).getD j true=true↔(j=i∨listed.getD j true=true):=by
 by_cases hj:i=j
 ·subst hj;simp[hi]
 ·rw[getD_set_ne true hj];exact⟨.inr,λh=>h.elim (λh=>absurd h.symm hj) id⟩
theorem Xl {listed:Array Bool}{i fuel:Nat}(hi:i<listed.size)(hun:listed.getD i true=false)(hc:listed.toList.count false=fuel+1):(listed.setIfInBounds i true).toList.count false=fuel:=by
 have hfi:listed.toList[i]? =some false:=by
  rw[Array.getD_eq_getD_getElem?,Array.getElem?_eq_getElem hi] at hun;simp at hun;simp[hi,hun]
 rw[Array.toList_setIfInBounds];have h1:=List.count_set (a:=true) (b:=false) (l:=listed.toList) (i:=i) (by simpa using hi);have h2:listed.toList[i]'(by simpa using hi)=false:=by
  have:=List.getElem?_eq_some_iff.1 hfi;exact this.2
 rw[h1,h2,hc];rfl
theorem NG {ops:List Oper}{N:Nat}(hlt:∀i,i<ops.length→∀e∈De (ops.getD i default),e<i)
  (hch:∀i,N≤i→i<ops.length→∀j,j<i→((LQ ops []).getD i 0).testBit j=true):∀(k m:Nat) (listed:Array Bool) (a:Act) (w:World),m+k=ops.length→N≤m→listed.size=ops.length→
   (∀j,j<ops.length→(listed.getD j true=true↔j<m))→(∀j o,ops[j]? =some o→listed.getD j true=true→∀e∈De o,listed.getD e true=true)→wpList P ops.toArray Q (ops.drop m) a w→wpAny P .any ops.toArray Q k listed a w
 | 0,m,listed,a,w,hk,hN,hsz,hl,hcl,h=>by
  refine⟨?_,?_⟩
  ·cases hr:Region.ready .any ops.toArray listed with
   | nil=>rfl
   | cons i r=>
    obtain⟨h1,h2,_⟩:=LI hsz hlt (i:=i) (by rw[hr];simp);rw[(hl i h2).2 (by omega)] at h1;cases h1
  ·rw[List.drop_of_length_le (by omega)] at h;exact h
 | k+1,m,listed,a,w,hk,hN,hsz,hl,hcl,h=>by
  refine⟨λhr=>?_,λi hi=>?_⟩
  ·have:=(hl m (by omega)).1 (L7 hsz hlt hr m (by omega));omega
  ·obtain⟨h1,h2,o,ho,hb⟩:=LI hsz hlt hi;have him:i=m:=by
    have hmi : ¬ i<m:=λh'=>by rw[(hl i h2).2 h'] at h1;cases h1
    by_cases e:i=m
    ·exact e
    ·rcases PW ho hb hcl m (hch i (by omega) h2 m (by omega)) with h3 | h3
     ·exact h3.symm
     ·have:=(hl m (by omega)).1 h3;omega
   subst him;have hd:ops.drop i=o::ops.drop (i+1):=by
    rw[List.drop_eq_getElem_cons h2]
    congr 1
    exact(List.getElem?_eq_some_iff.1 ho).2
   rw[hd] at h;have ih:∀a' w',wpList P ops.toArray Q (ops.drop (i+1)) a' w'→wpAny P .any ops.toArray Q k (listed.setIfInBounds i true) a' w':=λa' w' h'=>by
    refine NG hlt hch k (i+1) _ a' w' (by omega) (by omega) (by simpa using hsz) (λj hj=>?_) (λj o' hj hlj e he=>?_) h'
    ·rw[Ov (by omega),hl j hj];omega
    ·rw[Ov (by omega)] at hlj ⊢;rcases hlj with rfl | hlj
     ·rw[ho] at hj;simp at hj;subst hj;exact .inr (hb e he)
     ·exact .inr (hcl j o' hj hlj e he)
   unfold wpOp;have hoA:ops.toArray[i]? =some o:=by simpa using ho
   simp only[hoA];simp only[wpList] at h
   split
   ·rename_i hw'
    rw[Af6 hw'] at h;exact h.imp (λh=>Oper.wp_mono ih h) (λh=>h)
   ·rename_i hw'
    rw[Afz hw'] at h;exact ih _ _ h
theorem UH {id:Nat}{ops:List Oper}{N:Nat}(hm:P.follows .mixedOrders=true)(hB:PT ops N=true)(hN:N≤ops.length)(I:(Nat→Bool)→Act→World→Prop)
  (hext:∀S S' a w,(∀j,j<N→S j=S' j)→I S a w→I S' a w) {a:Act} {w:World} (h0:I (λ_=>false) a { w with drawn:=w.drawn+1 })
  (step:∀S i o a w,i<N→S i=false→ops[i]? =some o→(∀e∈De o,e<i∧S e=true)→I S a w→∀K:Act→World→Prop,(∀a' w',I (λj=>j ==i||S j) a' w'→K a' w')→
   (Region.wanted o (yielded ops.toArray a.tmps)=true→o.wp P a w K Q)∧(Region.wanted o (yielded ops.toArray a.tmps)=false→K (a.put o.dst undef) w))
  (fin:∀a w,I (λ_=>true) a w→wpList P ops.toArray Q (ops.drop N) a w):(Code.region id ops.toArray true).wp P Q a w:=by
 simp only[PT,AeI,Afw,List.mem_range,AeH,Afj] at hB;obtain⟨hlt,hch0⟩:=hB;have hch:∀i,N≤i→i<ops.length→∀j,j<i→((LQ ops []).getD i 0).testBit j=true:=λi h1 h2 j hj=>by
  rcases hch0 i h2 with h3 | h3
  ·omega
  ·exact h3 j hj
 refine wp_region_any hm ?_;have main:∀(fuel:Nat) (listed:Array Bool) (a:Act) (w:World),listed.size=ops.length→listed.toList.count false=fuel→I (λj=>listed.getD j true) a w→
   (∀j o,ops[j]? =some o→listed.getD j true=true→∀e∈De o,listed.getD e true=true)→(∀j,N≤j→j<ops.length→listed.getD j true=false)→wpAny P .any ops.toArray Q fuel listed a w:=by
  intro fuel;have allin:∀(fuel:Nat) (listed:Array Bool) (a:Act) (w:World),listed.size=ops.length→listed.toList.count false=fuel→I (λj=>listed.getD j true) a w→
   (∀j o,ops[j]? =some o→listed.getD j true=true→∀e∈De o,listed.getD e true=true)→(∀j,N≤j→j<ops.length→listed.getD j true=false)→(∀j,j<N→listed.getD j true=true)→wpAny P .any ops.toArray Q fuel listed a w:=by
   intro fuel listed a w hsz hc hI hcl hlast hall;have hl:∀j,j<ops.length→(listed.getD j true=true↔j<N):=λj hj=>by
    constructor
    ·intro h
     by_cases hjN:j<N
     ·exact hjN
     ·rw[hlast j (by omega) hj] at h;cases h
    ·exact hall j
   have:=Uv hsz hN hl;refine NG hlt hch fuel N listed a w (by omega) (Afm _) hsz hl hcl (fin a w (hext _ _ a w (λj hj=>hall j hj) hI))
  induction fuel with
  | zero=>
   intro listed a w hsz hc hI hcl hlast;refine allin 0 listed a w hsz hc hI hcl hlast (λj hj=>?_)
   cases hb:listed.getD j true with
   | true=>rfl
   | false=>
    have:false∈listed.toList:=by
     rw[Array.getD_eq_getD_getElem?,Array.getElem?_eq_getElem (by omega)] at hb;simp at hb;rw[← hb];simp
    have:=List.count_pos_iff.2 this;omega
  | succ fuel ih=>
   intro listed a w hsz hc hI hcl hlast
   by_cases hall:∀j,j<N→listed.getD j true=true
   ·exact allin (fuel+1) listed a w hsz hc hI hcl hlast hall
   ·refine⟨λhr=>absurd (λj hj=>L7 hsz hlt hr j (by omega)) hall,λi hi=>?_⟩;obtain⟨h1,h2,o,ho,hb⟩:=LI hsz hlt hi;have hiN:i<N:=by
     by_cases h:i<N
     ·exact h
     ·refine absurd (λj hj=>?_) hall;rcases PW ho hb hcl j (hch i (by omega) h2 j (by omega)) with h3 | h3
      ·omega
      ·exact h3
    have K':∀a' w',I (λj=>j ==i||listed.getD j true) a' w'→wpAny P .any ops.toArray Q fuel (listed.setIfInBounds i true) a' w':=λa' w' hI'=>by
     refine ih _ a' w' (by simpa using hsz) (Xl (by omega) h1 hc) (hext _ _ a' w' (λj hj=>?_) hI') (λj o' hj hlj e he=>?_) (λj h3 h4=>?_)
     ·have:=Ov (listed:=listed) (i:=i) (j:=j) (by omega)
      cases hq:(listed.setIfInBounds i true).getD j true with
      | true=>
       rw[hq] at this;rcases this.1 rfl with h | h
       ·simp[h]
       ·simp[h]
      | false=>
       rw[hq] at this;have h5 : ¬ (j=i∨listed.getD j true=true):=λh=>by have:=this.2 h;cases this
       cases hz:listed.getD j true with
       | true=>exact absurd (.inr hz) h5
       | false=>
        have:j≠i:=λh=>h5 (.inl h);simp[this]
     ·rw[Ov (by omega)] at hlj ⊢;rcases hlj with rfl | hlj
      ·rw[ho] at hj;simp at hj;subst hj;exact .inr (hb e he)
      ·exact .inr (hcl j o' hj hlj e he)
     ·rw[getD_set_ne true (by omega)];exact hlast j h3 h4
    obtain⟨k1,k2⟩:=step _ i o a w hiN h1 ho (λe he=>⟨hlt i h2 e (by rw[AeO,ho];exact he),hb e he⟩) hI _ K';unfold wpOp;have hoA:ops.toArray[i]? =some o:=by simpa using ho
    simp only[hoA]
    split
    ·rename_i hw';exact .inl (k1 hw')
    ·rename_i hw';exact k2 (by simpa using hw')
 have e0:∀j,j<ops.length→(Array.replicate ops.length false).getD j true=false:=λj hj=>by simp[hj]
 have hsz0:ops.toArray.size=ops.length:=by simp
 rw[hsz0];refine main ops.length (Array.replicate ops.length false) a _ (by simp) (by simp) (hext _ _ _ _ (λj hj=>(e0 j (by omega)).symm) h0) (λj o hj hl=>?_) (λj _ h2=>e0 j h2);rw[e0 j (List.getElem?_eq_some_iff.1 hj).1] at hl;cases hl
end
structure Sa where
 deps:List Nat
 r:Rp
 al:Option (List Rp×TypeId):=none
 late:Option (Nat×List Rp):=none
 sto:Option Nat:=none
def HA (sp:List Sa)(i:Nat):Sa:=sp.getD i { deps:=[],r:=rv undef }
def Y8 (sp:List Sa):List Sp:=sp.map λs=>⟨s.deps,s.r,0⟩
def Nf (β:Nat→Nat)(s:Sa)(i:Nat):Rp:=match s.al with
 | none=>s.r
 | some _=>rv (.pointer (some ⟨β i,0,none⟩))
def N6 (S:Nat→Bool)(late:Option (Nat×List Rp))(cs:List Rp):List Rp:=match late with
 | none=>cs
 | some q=>if S q.1 then q.2 else cs
def HR (S:Nat→Bool)(β:Nat→Nat):List Sa→Nat→List Ent
 | [],_=>[]
 | s::r,t=>match s.al with
  | some p=>if S t then .blk (β t) (N6 S s.late p.1) p.2::HR S β r (t+1) else HR S β r (t+1)
  | none=>HR S β r (t+1)
def XY (β:Nat→Nat):List Sa→Nat→List Ent
 | [],_=>[]
 | s::r,t=>match s.al with
  | some p=>.blk (β t) (match s.late with | none=>p.1 | some q=>q.2) p.2::XY β r (t+1)
  | none=>XY β r (t+1)
def LW (β:Nat→Nat):List Oper→List Sa→Nat→Fr→Fr
 | o::os,s::sp,i,l=>match o.dst with
  | some d=>(d,Nf β s i)::LW β os sp (i+1) l
  | none=>LW β os sp (i+1) l
 | _,_,_,l=>l
theorem LP {S S':Nat→Bool}{late:Option (Nat×List Rp)}{cs:List Rp}(h:∀q,late=some q→S q.1=S' q.1):N6 S late cs=N6 S' late cs:=by
 unfold N6
 cases late with
 | none=>rfl
 | some q=>simp only[];rw[h q rfl]
theorem GD (S:Nat→Bool)(β:Nat→Nat)(s:Sa)(r:List Sa)(t:Nat):HR S β (s::r) t=match s.al with
  | some p=>if S t then .blk (β t) (N6 S s.late p.1) p.2::HR S β r (t+1) else HR S β r (t+1)
  | none=>HR S β r (t+1):=rfl
theorem I1 {S S':Nat→Bool}{β β':Nat→Nat}:∀(r:List Sa) (t0:Nat),(∀(t:Nat) (s:Sa),r[t]? =some s→s.al≠none→S (t0+t)=S' (t0+t)∧(S (t0+t)=true→β (t0+t)=β' (t0+t)∧∀q,s.late=some q→S q.1=S' q.1))→HR S β r t0=HR S' β' r t0
 | [],_,_=>rfl
 | s::r,t0,h=>by
  have ih:=I1 r (t0+1) (λt s hs hn=>by
   have:=h (t+1) s (by simpa using hs) hn;rw[show t0+1+t=t0+(t+1) from by omega];exact this)
  unfold HR;rw[ih]
  cases ha:s.al with
  | none=>rfl
  | some p=>
   obtain⟨h1,h2⟩:=h 0 s rfl (by rw[ha];exact nofun);simp only[Nat.add_zero] at h1 h2;simp only[];rw[← h1]
   split
   ·rename_i hS;rw[(h2 hS).1,LP (h2 hS).2]
   ·rfl
theorem Us (β:Nat→Nat):∀(r:List Sa) (t0:Nat),HR (λ_=>true) β r t0=XY β r t0
 | [],_=>rfl
 | s::r,t0=>by
  unfold HR XY;rw[Us β r (t0+1)]
  cases s.al with
  | none=>rfl
  | some p=>cases hl:s.late<;>simp[N6,hl]
theorem Ri (β:Nat→Nat):∀(r:List Sa) (t0:Nat),HR (λ_=>false) β r t0=[]
 | [],_=>rfl
 | s::r,t0=>by
  unfold HR;rw[Ri β r (t0+1)]
  cases s.al<;>simp
theorem Ur {S:Nat→Bool}{β:Nat→Nat}{i b:Nat}{p:List Rp×TypeId}:∀(r:List Sa) (t0 k:Nat) (s:Sa),i=t0+k→r[k]? =some s→s.al=some p→S i=false→(∀(t:Nat) (s:Sa) (q:Nat×List Rp),r[t]? =some s→s.al≠none→s.late=some q→q.1≠i)→(∀q,s.late=some q→S q.1=false∧q.1≠i)→
  (HR (λj=>j ==i||S j) (λj=>if j=i then b else β j) r t0).Perm (.blk b p.1 p.2::HR S β r t0)
 | [],_,_,_,_,h,_,_,_,_=>by simp at h
 | s'::r,t0,0,s,hi,h,ha,hS,hne,hl=>by
  simp at h hi;subst h;subst hi;have e:=I1 (S:=λj=>j ==i||S j) (S':=S) (β:=λj=>if j=i then b else β j) (β':=β) r (i+1) (λt s hs hn=>by
   have:i+1+t≠i:=by omega
   refine⟨by simp[this],λ_=>⟨by simp[this],λq hq=>?_⟩⟩;have:=hne (t+1) s q (by simpa using hs) hn hq;simp[this])
  have ec:N6 (λj=>j ==i||S j) s'.late p.1=p.1:=by
   unfold N6
   cases hq:s'.late with
   | none=>rfl
   | some q=>
    obtain⟨h1,h2⟩:=hl q hq;simp[h1,h2]
  unfold HR;rw[e,ha];simp only[hS,BEq.rfl,Afb,Afn,ec];simp
 | s'::r,t0,k+1,s,hi,h,ha,hS,hne,hl=>by
  have ih:=Ur (S:=S) (β:=β) (i:=i) (b:=b) (p:=p) r (t0+1) k s (by omega) (by simpa using h) ha hS (λt s q hs=>hne (t+1) s q (by simpa using hs)) hl;have hne0:t0≠i:=by omega
  have hne':(t0 ==i)=false:=by simpa using hne0
  unfold HR
  cases ha':s'.al with
  | none=>exact ih
  | some q=>
   simp only[hne',AeS,Afz hne0];rw[LP (S:=λj=>j ==i||S j) (S':=S) (λq hq=>by
    have:=hne 0 s' q rfl (by rw[ha'];exact nofun) hq;simp[this])]
   cases hS':S t0 with
   | true=>simpa using(Aff _ ih).trans (List.Perm.swap _ _ _)
   | false=>simpa using ih
theorem Uq {S:Nat→Bool}{β:Nat→Nat}{i j:Nat}{p:List Rp×TypeId}{ncs:List Rp}:∀(r:List Sa) (t0 k:Nat) (s:Sa),j=t0+k→r[k]? =some s→s.al=some p→s.late=some (i,ncs)→S j=true→S i=false→(∀(t:Nat) (s:Sa) (q:Nat×List Rp),r[t]? =some s→s.al≠none→s.late=some q→t0+t≠j→q.1≠i)→(∀(t:Nat) (s:Sa),r[t]? =some s→s.al≠none→t0+t≠i)→
  ∃H',(HR S β r t0).Perm (.blk (β j) p.1 p.2::H')∧(HR (λj=>j ==i||S j) β r t0).Perm (.blk (β j) ncs p.2::H')
 | [],_,_,_,_,h,_,_,_,_,_,_=>by simp at h
 | s'::r,t0,0,s,hj,h,ha,hl,hSj,hSi,hne,hni=>by
  simp at h hj;subst h;subst hj;have e:=I1 (S:=λx=>x ==i||S x) (S':=S) (β:=β) (β':=β) r (j+1) (λt s hs hn=>by
   have h1:=hni (t+1) s (by simpa using hs) hn;have h1':j+1+t≠i:=by omega
   refine⟨by simp[h1'],λ_=>⟨rfl,λq hq=>?_⟩⟩;have:=hne (t+1) s q (by simpa using hs) hn hq (by omega);simp[this])
  refine⟨HR S β r (j+1),?_,?_⟩
  ·rw[GD];rw[ha];simp[hSj,N6,hl,hSi]
  ·rw[GD];rw[ha,e];simp[hSj,N6,hl]
 | s'::r,t0,k+1,s,hj,h,ha,hl,hSj,hSi,hne,hni=>by
  obtain⟨H',h1,h2⟩:=Uq (S:=S) (β:=β) (i:=i) (j:=j) (p:=p) (ncs:=ncs) r (t0+1) k s (by omega) (by simpa using h) ha hl hSj hSi (λt s q hs hn hq hx=>hne (t+1) s q (by simpa using hs) hn hq (by omega)) (λt s hs hn=>by
   have:=hni (t+1) s (by simpa using hs) hn;omega)
  cases ha':s'.al with
  | none=>exact⟨H',by rw[GD,ha'];exact h1,by rw[GD,ha'];exact h2⟩
  | some q=>
   have hi0:=hni 0 s' rfl (by rw[ha'];exact nofun);have hi0':(t0 ==i)=false:=by simpa using hi0
   have ec:N6 (λx=>x ==i||S x) s'.late q.1=N6 S s'.late q.1:=LP (λq hq=>by
    have:=hne 0 s' q rfl (by rw[ha'];exact nofun) hq (by omega);simp[this])
   cases hS':S t0 with
   | true=>
    refine⟨.blk (β t0) (N6 S s'.late q.1) q.2::H',?_,?_⟩
    ·rw[GD];rw[ha'];simpa[hS'] using(Aff _ h1).trans (List.Perm.swap _ _ _)
    ·rw[GD];rw[ha'];simp only[hi0',AeS,hS',Afn,ec];exact(Aff _ h2).trans (List.Perm.swap _ _ _)
   | false=>
    refine⟨H',?_,?_⟩
    ·rw[GD];rw[ha'];simpa[hS'] using h1
    ·rw[GD];rw[ha'];simp only[hi0',AeS,hS'];simpa using h2
def okA (n:Nat)(ops:List Oper)(N:Nat)(keys:List Nat)(deps:List (List Nat))(als:List Bool)(lates stos:List (Option Nat)):Bool:=
 PT ops N&&decide (N≤ops.length)&&
 (List.range N).all (λi=>match Co ops i with
  | some d=>decide (d<n)&&!keys.contains d&&(List.range N).all (λj=>j ==i||Co ops j !=some d)
  | none=>true)&&
 (List.range N).all (λi=>(deps.getD i []).all (λj=>decide (j<N)&&(De (ops.getD i default)).contains j&&!als.getD j true))&&
 (List.range N).all (λi=>match stos.getD i none with
  | some j=>decide (j<N)&&(De (ops.getD i default)).contains j&&als.getD j false&&!als.getD i true
  | none=>true)&&
 (List.range N).all (λj=>match lates.getD j none with
  | some k=>decide (k<N)&&als.getD j false&&stos.getD k none ==some j
  | none=>true)
def Add (P:Program)(n:Nat)(c:Cx)(opsA:Array Oper)(Q:Exit→Act→World→Prop)(l:Fr)(o:Oper)(p:List Rp×TypeId):Prop:=
 ∀H a w Z (K:Act→World→Prop),Dg n l a Z→St c H Z w→(∀b w',St c (.blk b p.1 p.2::H) Z w'→K (a.put o.dst (.pointer (some ⟨b,0,none⟩))) w')→
  Region.wanted o (yielded opsA a.tmps)=true∧o.wp P a w K Q
def ObA (P:Program)(n:Nat)(c:Cx)(opsA:Array Oper)(Q:Exit→Act→World→Prop)(ops:List Oper)(sp:List Sa)(l0:Fr)(H:List Ent)(i:Nat)(o:Oper):Prop:=
 match (HA sp i).sto with
 | some j=>o.dst=none∧∃d p ncs,Co ops j=some d∧(HA sp j).al=some p∧(HA sp j).late=some (i,ncs)∧
   ∀b H,DJ P n c opsA Q ((d,rv (.pointer (some ⟨b,0,none⟩)))::BZ ops (Y8 sp) (HA sp i).deps l0) (.blk b p.1 p.2::H) o (rv undef) (.blk b ncs p.2::H)
 | none=>match (HA sp i).al with
  | none=>∀E,DJ P n c opsA Q (BZ ops (Y8 sp) (HA sp i).deps l0) (H++E) o (HA sp i).r (H++E)
  | some p=>Add P n c opsA Q (BZ ops (Y8 sp) (HA sp i).deps l0) o p
def LT (P:Program)(n:Nat)(c:Cx)(opsA:Array Oper)(Q:Exit→Act→World→Prop)(ops:List Oper)(sp:List Sa)(l0:Fr)(H:List Ent):Nat→List Oper→Prop
 | i,o::rest=>ObA P n c opsA Q ops sp l0 H i o∧LT P n c opsA Q ops sp l0 H (i+1) rest
 | _,[]=>True
section
variable {P : Program} {n : Nat} {c : Cx} {opsA : Array Oper} {Q : Exit → Act → World → Prop} {l l0 : Fr} {H : List Ent} {sp : List Sa}
theorem LT.at {ops:List Oper}:∀{k:Nat} {rest:List Oper},LT P n c opsA Q ops sp l0 H k rest→∀(t:Nat) o,rest[t]? =some o→ObA P n c opsA Q ops sp l0 H (k+t) o
 | k,o::rest,⟨h1,h2⟩,t,o',ht=>by
  cases t with
  | zero=>simp at ht;subst ht;exact h1
  | succ t=>
   have:=LT.at h2 t o' (by simpa using ht);rw[show k+(t+1)=k+1+t from by omega];exact this
 | _,[],_,t,o,h=>by simp at h
theorem OD {β:Nat→Nat}{a:Act}{Z:Fz}(h0:Dg n l0 a Z):∀(os:List Oper) (ss:List Sa) (k:Nat),(∀(t:Nat) o s d,os[t]? =some o→ss[t]? =some s→o.dst=some d→∃v,a.tmps[d]? =some v∧(Nf β s (k+t)).p Z v)→Dg n (LW β os ss k l0) a Z
 | [],_,_,_=>by unfold LW;exact h0
 | _::_,[],_,_=>by unfold LW;exact h0
 | o::os,s::ss,k,h=>by
  have ih:=OD h0 os ss (k+1) (λt o' s' d h1 h2 h3=>by
   have:=h (t+1) o' s' d (by simpa using h1) (by simpa using h2) h3;rw[show k+1+t=k+(t+1) from by omega];exact this)
  unfold LW
  cases hd:o.dst with
  | none=>exact ih
  | some d=>
   refine⟨ih.size,ih.defers,λi r hi=>?_⟩;rw[Cw] at hi
   split at hi
   ·rename_i e;subst e;simp at hi;subst hi;exact h 0 o s d rfl rfl hd
   ·exact ih.tm i r hi
theorem Acj {id:Nat}{ops:List Oper}(N:Nat)(sp:List Sa)(hm:P.follows .mixedOrders=true)(hB:okA n ops N (EQ l0) (sp.map (·.deps)) (sp.map (·.al.isSome)) (sp.map (·.late.map (·.1))) (sp.map (·.sto))=true)(hl0:U4 l0 l)(hsp:sp.length=N)
  (hob:LT P n c ops.toArray Q ops sp l0 H 0 (ops.take N)) (h:∀β,WL P n c ops.toArray Q (ops.drop N) (LW β (ops.take N) sp 0 l0) (H++XY β sp 0)):WC P n c (.region id ops.toArray true) Q l H:=by
 intro a w Z ha hw;simp only[okA,AeI,Afw,List.mem_range,AeH] at hB;obtain⟨⟨⟨⟨⟨b1,bN⟩,b2⟩,b3⟩,b4⟩,b5⟩:=hB;have hget:∀i,i<N→(ops.take N)[i]? =ops[i]?:=λi hi=>by rw[Af0,Af6 hi]
 have hsa:∀i,i<N→sp[i]? =some (HA sp i):=λi hi=>by
  simp[HA,AeO,AeN (show i<sp.length by omega)]
 have hspq:∀i,i<N→(Es (Y8 sp) i)=⟨(HA sp i).deps,(HA sp i).r,0⟩:=λi hi=>by
  simp[Es,Y8,AeO,Afr,hsa i hi]
 have hals:∀j b,j<N→(sp.map (·.al.isSome)).getD j b=(HA sp j).al.isSome:=λj b hj=>by simp[AeO,Afr,hsa j hj]
 have hstos:∀j,j<N→(sp.map (·.sto)).getD j none=(HA sp j).sto:=λj hj=>by simp[AeO,Afr,hsa j hj]
 have hlates:∀j,j<N→(sp.map (·.late.map (·.1))).getD j none=(HA sp j).late.map (·.1):=λj hj=>by simp[AeO,Afr,hsa j hj]
 have S1:∀i o j,i<N→ops[i]? =some o→(HA sp i).sto=some j→j<N∧j∈De o∧(HA sp j).al≠none∧(HA sp i).al=none:=λi o j hi ho hs=>by
  have h1:=b4 i hi;rw[hstos i hi,hs] at h1;simp only[AeI,Afe,AeH] at h1;obtain⟨⟨⟨h2,h3⟩,h4⟩,h5⟩:=h1;rw[hals j _ h2] at h4;rw[hals i _ hi] at h5;rw[AeO,ho,Afq,List.contains_iff_mem] at h3;exact⟨h2,h3,λe=>(by rw[e] at h4;cases h4),(by simpa using h5)⟩
 have L1:∀t q,t<N→(HA sp t).late=some q→q.1<N∧(HA sp q.1).sto=some t:=λt q ht hq=>by
  have h1:=b5 t ht;rw[hlates t ht,hq] at h1;simp only[Option.map_some,AeI,AeH,beq_iff_eq] at h1;obtain⟨⟨h2,h3⟩,h4⟩:=h1;rw[hstos _ h2] at h4;exact⟨h2,h4⟩
 have hops:∀j,j<N→∃o,ops[j]? =some o:=λj hj=>⟨ops[j]'(by omega),AeN (by omega)⟩
 have lt_of:∀(t:Nat) (s:Sa),sp[t]? =some s→t<N∧s=HA sp t:=λt s hs=>by
  have h1:t<N:=by have:=(List.getElem?_eq_some_iff.1 hs).1;omega
  refine⟨h1,?_⟩;rw[hsa t h1] at hs;simpa using hs.symm
 have hdst:∀i o d,i<N→ops[i]? =some o→o.dst=some d→(d<n∧d ∉ EQ l0)∧∀j,j<N→j≠i→Co ops j≠some d:=λi o d hi ho hd=>by
  have h3:=b2 i hi;have:Co ops i=some d:=by simp[Co,ho,hd]
  rw[this] at h3;simp only[AeI,Afe,Afw,List.mem_range,AeH] at h3;refine⟨⟨h3.1.1,λhmem=>by rw[← List.contains_iff_mem] at hmem;rw[hmem] at h3;cases h3.1.2⟩,λj hj hne he=>?_⟩;have:=h3.2 j hj;simp[hne,he] at this
 refine UH (N:=N) hm b1 bN (λS a w=>∃ (β:Nat→Nat) (Z:Fz),St c (H++HR S β sp 0) Z w∧Dg n l0 a Z∧(∀j o d,j<N→S j=true→ops[j]? =some o→o.dst=some d→∃v,a.tmps[d]? =some v∧(Nf β (HA sp j) j).p Z v)∧
   ∀k j,k<N→(HA sp k).sto=some j→S k=true→S j=true)
  (λS S' a w hS hI=>?_) ⟨λ_=>0,Z,?_,ha.subL hl0,λj o d _ hS=>(by cases hS),λk j _ _ hS=>(by cases hS)⟩ (λS i o a w hi hun ho hb hI K hK=>?_) (λa w hI=>?_)
 ·obtain⟨β,Z,h1,h2,h3,h4⟩:=hI;refine⟨β,Z,?_,h2,λj o d hj hS'=>h3 j o d hj (by rw[hS j hj];exact hS'),λk j hk hs hSk=>?_⟩
  ·rw[← I1 (S:=S) (β:=β) (β':=β) sp 0 (λt s hs _=>by
    obtain⟨ht,rfl⟩:=lt_of t s hs;exact⟨hS _ (by omega),λ_=>⟨rfl,λq hq=>hS _ (L1 t q ht hq).1⟩⟩)]
   exact h1
  ·obtain⟨o,ho⟩:=hops k hk;rw[← hS j (S1 k o j hk ho hs).1];exact h4 k j hk hs (by rw[hS k hk];exact hSk)
 ·rw[Ri,AfD];exact hw.drawn _
 ·obtain⟨β,Z,h1,h2,h3,hx⟩:=hI;have hput:∀k u v,a.tmps[k]? =some u→o.dst≠some k→(a.put o.dst v).tmps[k]? =some u:=λk u v hk hne=>by
   cases hd:o.dst with
   | none=>simpa[Act.put] using hk
   | some d=>
    simp only[Act.put,Array.getElem?_setIfInBounds];rw[Afz (λe=>hne (by rw[hd,e]))];exact hk
  have hagr:∀v Z',Fz.le Z Z'→Dg n l0 (a.put o.dst v) Z':=λv Z' hz=>by
   refine⟨?_,?_,λk r hk=>?_⟩
   ·cases o.dst<;>simp[Act.put,h2.size]
   ·cases o.dst<;>simp[Act.put,h2.defers]
   ·obtain⟨u,hu,hpu⟩:=h2.tm k r hk;exact⟨u,hput k u v hu (λe=>((hdst i o k hi ho e).1).2 (K5 hk)),r.mono hz hpu⟩
  have hvals:∀(v:Value) (Z':Fz) (β':Nat→Nat),Fz.le Z Z'→(∀j,j≠i→β' j=β j)→(o.dst≠none→(Nf β' (HA sp i) i).p Z' v)→∀j o' d,j<N→(j ==i||S j)=true→ops[j]? =some o'→o'.dst=some d→∃u,(a.put o.dst v).tmps[d]? =some u∧(Nf β' (HA sp j) j).p Z' u:=by
   intro v Z' β' hz hβ hp j o' d hj hS' ho' hd
   by_cases hji:j=i
   ·subst hji;rw[ho] at ho';simp at ho';subst ho';refine⟨v,?_,hp (by simp[hd])⟩;have hdn:d<a.tmps.size:=by rw[h2.size];exact(hdst j o d hi ho hd).1.1
    simp[Act.put,hd,hdn]
   ·have hSj:S j=true:=by simpa[hji] using hS'
    obtain⟨u,hu,hpu⟩:=h3 j o' d hj hSj ho' hd;refine⟨u,hput d u v hu (λe=>(hdst i o d hi ho e).2 j hj hji (by simp[Co,ho',hd])),?_⟩;have:Nf β' (HA sp j) j=Nf β (HA sp j) j:=by unfold Nf;rw[hβ j hji]
    rw[this];exact(Nf β (HA sp j) j).mono hz hpu
  have hx':∀k j,k<N→(HA sp k).sto=some j→(k ==i||S k)=true→(j ==i||S j)=true:=λk j hk hs hSk=>by
   by_cases hki:k=i
   ·subst hki;have:=(hb j (S1 k o j hk ho hs).2.1).2;simp[this]
   ·have:S j=true:=hx k j hk hs (by simpa[hki] using hSk);simp[this]
  have hat:=hob.at i o (by rw[hget i hi];exact ho);rw[Afu] at hat;unfold ObA at hat;have hag':Dg n (BZ ops (Y8 sp) (HA sp i).deps l0) a Z:=Lo h2 (λj hj d hd=>by
    have h4:=b3 i hi j (by simpa[AeO,Afr,hsa i hi] using hj);simp only[AeI,Afe,AeH] at h4;obtain⟨⟨h5,h6⟩,h7⟩:=h4;rw[AeO,ho,Afq,List.contains_iff_mem] at h6;have hjal:(HA sp j).al=none:=by
     rw[hals j _ h5] at h7;simpa using h7
    obtain⟨o2,ho2⟩:=hops j h5;obtain⟨v,hv1,hv2⟩:=h3 j o2 d h5 (hb j h6).2 ho2 (by simpa[Co,ho2] using hd);refine⟨v,hv1,?_⟩;rw[hspq j h5];simpa[Nf,hjal] using hv2)
  cases hst:(HA sp i).sto with
  | some j=>
   rw[hst] at hat;obtain⟨hod,d,p,ncs,hd,hal,hlate,hok⟩:=hat;obtain⟨hjN,hjb,_,hial⟩:=S1 i o j hi ho hst;have hSj:=(hb j hjb).2;obtain⟨H',p1,p2⟩:=Uq (S:=S) (β:=β) (i:=i) (j:=j) (p:=p) (ncs:=ncs) sp 0 j (HA sp j) (by omega) (hsa j hjN) hal hlate hSj hun (λt s q hs _ hq hne he=>by
     obtain⟨ht,rfl⟩:=lt_of t s hs;have:=(L1 t q ht hq).2;rw[he,hst] at this;simp at this;omega) (λt s hs hn he=>by
     obtain⟨ht,rfl⟩:=lt_of t s hs;rw[Afu] at he;subst he;exact hn hial)
   obtain⟨o2,ho2⟩:=hops j hjN;obtain⟨v,hv1,hv2⟩:=h3 j o2 d hjN hSj ho2 (by simpa[Co,ho2] using hd);have hag2:Dg n ((d,rv (.pointer (some ⟨β j,0,none⟩)))::BZ ops (Y8 sp) (HA sp i).deps l0) a Z:=⟨hag'.size,hag'.defers,λk r hk=>by
    rw[Cw] at hk
    split at hk
    ·rename_i e;subst e;simp at hk;subst hk
     exact⟨v,hv1,by simpa[Nf,hal] using hv2⟩
    ·exact hag'.tm k r hk⟩
   refine hok (β j) (H++H') a w Z K hag2 (h1.perm ((List.Perm.append_left H p1).trans List.perm_middle)) (λv w' Z' hz _ hs'=>hK _ _ ⟨β,Z',?_,hagr v Z' hz,hvals v Z' β hz (λ_ _=>rfl) (λhne=>absurd hod hne),hx'⟩);exact hs'.perm (List.perm_middle.symm.trans (List.Perm.append_left H p2.symm))
  | none=>
   rw[hst] at hat;have latene:∀t q,t<N→(HA sp t).late=some q→q.1≠i:=λt q ht hq he=>by
    have:=(L1 t q ht hq).2;rw[he,hst] at this;cases this
   cases hal:(HA sp i).al with
   | none=>
    rw[hal] at hat;refine hat _ a w Z K hag' h1 (λv w' Z' hz hp hst'=>hK _ _ ⟨β,Z',?_,hagr v Z' hz,hvals v Z' β hz (λ_ _=>rfl) (λ_=>by unfold Nf;rw[hal];exact hp),hx'⟩);rw[I1 (S':=S) (β':=β) sp 0 (λt s hs hn=>by
     obtain⟨ht,rfl⟩:=lt_of t s hs;have:t≠i:=λe=>by subst e;exact hn hal
     refine⟨by simp[this],λ_=>⟨rfl,λq hq=>?_⟩⟩;have:=latene t q ht hq;simp[this])]
    exact hst'
   | some p=>
    rw[hal] at hat;have key:=λK' hK'=>hat (H++HR S β sp 0) a w Z K' hag' h1 hK';have h5:∀b w',St c (.blk b p.1 p.2::(H++HR S β sp 0)) Z w'→K (a.put o.dst (.pointer (some ⟨b,0,none⟩))) w':=λb w' hst'=>by
     refine hK _ _ ⟨λj=>if j=i then b else β j,Z,?_,hagr _ Z (Fz.le.refl _),hvals _ Z _ (Fz.le.refl _) (λj hj=>by simp[hj]) (λ_=>by simp[Nf,hal,rv]),hx'⟩;have hp:=Ur (S:=S) (β:=β) (i:=i) (b:=b) (p:=p) sp 0 i (HA sp i) (by omega) (hsa i hi) hal hun (λt s q hs _ hq=>by
      obtain⟨ht,rfl⟩:=lt_of t s hs;exact latene t q ht hq) (λq hq=>by
       refine⟨?_,latene i q hi hq⟩
       cases hS:S q.1 with
       | false=>rfl
       | true=>
        obtain⟨h6,h7⟩:=L1 i q hi hq;have:=hx q.1 i h6 h7 hS;rw[this] at hun;cases hun)
     exact hst'.perm ((List.perm_middle.symm).trans (List.Perm.append_left H hp.symm))
    refine⟨λ_=>(key K h5).2,λhw'=>?_⟩;rw[(key K h5).1] at hw';cases hw'
 ·obtain⟨β,Z,h1,h2,h3,_⟩:=hI;refine h β a w Z (OD h2 _ _ 0 (λt o s d ht hs hd=>?_)) (by rw[← Us];exact h1);obtain⟨htN,rfl⟩:=lt_of t s hs;rw[Afu];exact h3 t o d htN rfl (by rw[← hget t htN];exact ht) hd
end
theorem AdR {l:Fr}{P:Program}{n:Nat}{c:Cx}{opsA:Array Oper}{Q:Exit→Act→World→Prop}{d:Nat}{e:TypeId}{ty:TypeId}{pos:String}{af:Array Edge}{z:Value}{cs:List Rp}(hz:∀w,(zeroValue e).run P w = .ok z w)(hcs:z.cells.toList.map rv=cs) :
  Add P n c opsA Q l { dst:=some d,op:=.alloc e,type:=ty,pos:=pos,after:=af,guard:=none } (cs,e):=λH a w Z K _ hw hK=>by
 refine⟨by simp[Region.wanted],?_⟩;unfold Oper.wp;rw[show(execOp a.eval { dst:=some d,op:=.alloc e,type:=ty,pos:=pos,after:=af,guard:=none }).run P w = .ok (.value (.pointer (some ⟨w.heap.size,0,none⟩))) (w.alloc (.cells z.cells e)) from by simp[execOp,Instr.alloc,hz,newVar,newRow,newObj,Sem.run,Sem.run_bind]];exact hK _ _ (hw.alloc _ (e:=.blk w.heap.size cs e) ⟨z.cells.toList,by simpa using heap_alloc_new w _,by subst hcs;exact Bw.rvs Z _⟩ rfl)
section
variable {P : Program} {n : Nat} {c : Cx} {opsA : Array Oper} {Q : Exit → Act → World → Prop} {l l0 : Fr} {H : List Ent} {sp : List Sa}
theorem Mb {id:Nat}{ops:List Oper}(N:Nat)(ks0:List Nat)(sp:List Sa)(hob:LT P n c ops.toArray Q ops sp l0 H 0 (ops.take N))(h:∀β,WL P n c ops.toArray Q (ops.drop N) (LW β (ops.take N) sp 0 l0) (H++XY β sp 0))
  (h0:Kp ks0 l l0:=by repeat (first | exact Oi | (apply LL;rfl) | (apply M9;rfl))) (hm:P.follows .mixedOrders=true:=by kernel_rfl) (hB:okA n ops N (EQ l0) (sp.map (·.deps)) (sp.map (·.al.isSome)) (sp.map (·.late.map (·.1))) (sp.map (·.sto))=true:=by kernel_rfl)
  (hsp:sp.length=N:=by rfl):WC P n c (.region id ops.toArray true) Q l H:=Acj N sp hm hB h0.one hsp hob h
theorem Px {all rest:List Oper}{d:Nat}{op:Op}{ty:TypeId}{pos:String}{af:Array Edge}{i:Nat}
  (hr:∀{H},B4 P n c (BZ all (Y8 sp) (HA sp i).deps l0) H { dst:=some d,op:=op,type:=ty,pos:=pos,after:=af,guard:=none } (HA sp i).r) (h:LT P n c opsA Q all sp l0 H (i+1) rest) (ha:(HA sp i).al=none:=by rfl) (hs:(HA sp i).sto=none:=by rfl) :
  LT P n c opsA Q all sp l0 H i ({ dst:=some d,op:=op,type:=ty,pos:=pos,after:=af,guard:=none }::rest):=by
 refine⟨?_,h⟩;unfold ObA;rw[hs,ha];exact λ_=>Ef hr
theorem U8 {all rest:List Oper}{d:Nat}{op:Op}{ty:TypeId}{pos:String}{af:Array Edge}{i:Nat}
  (hr:∀{E},B4 P n c (BZ all (Y8 sp) (HA sp i).deps l0) (H++E) { dst:=some d,op:=op,type:=ty,pos:=pos,after:=af,guard:=none } (HA sp i).r) (h:LT P n c opsA Q all sp l0 H (i+1) rest) (ha:(HA sp i).al=none:=by rfl) (hs:(HA sp i).sto=none:=by rfl) :
  LT P n c opsA Q all sp l0 H i ({ dst:=some d,op:=op,type:=ty,pos:=pos,after:=af,guard:=none }::rest):=by
 refine⟨?_,h⟩;unfold ObA;rw[hs,ha];exact λ_=>Ef hr
theorem oal {all rest:List Oper}{o:Oper}{p:List Rp×TypeId}{i:Nat}(hr:Add P n c opsA Q (BZ all (Y8 sp) (HA sp i).deps l0) o p)(h:LT P n c opsA Q all sp l0 H (i+1) rest)(ha:(HA sp i).al=some p:=by rfl)(hs:(HA sp i).sto=none:=by rfl):LT P n c opsA Q all sp l0 H i (o::rest):=by
 refine⟨?_,h⟩;unfold ObA;rw[hs,ha];exact hr
theorem oae {all:List Oper}{i:Nat}:LT P n c opsA Q all sp l0 H i []:=trivial
end
structure Kza (ks:List Nat) (β:Nat→Nat) (os:List Oper) (sp:List Sa) (i:Nat) (l0 l1:Fr):Prop where
 go:Kp ks (LW β os sp i l0) l1
section
variable {ks : List Nat} {β : Nat → Nat} {os : List Oper} {sp : List Sa} {i d : Nat} {l0 l1 : Fr} {ds : List Nat} {r : Rp} {p : List Rp × TypeId} {lt : Option (Nat × List Rp)} {so : Option Nat} {op : Op} {ty : TypeId} {pos : String} {af : Array Edge} {g : Option (Nat × Bool)}
theorem AdA (h:ks.contains d=true)(t:Kza ks β os sp (i+1) l0 l1):Kza ks β ({ dst:=some d,op:=op,type:=ty,pos:=pos,after:=af,guard:=g }::os) ({ deps:=ds,r:=r,sto:=so }::sp) i l0 ((d,r)::l1):=⟨LL h t.go⟩
theorem AdD (h:ks.contains d=true)(t:Kza ks β os sp (i+1) l0 l1):Kza ks β ({ dst:=some d,op:=op,type:=ty,pos:=pos,after:=af,guard:=g }::os) ({ deps:=ds,r:=r,al:=some p,late:=lt,sto:=so }::sp) i l0 ((d,rv (.pointer (some ⟨β i,0,none⟩)))::l1):=⟨LL h t.go⟩
theorem AdC {s:Sa}(h:ks.contains d=false)(t:Kza ks β os sp (i+1) l0 l1):Kza ks β ({ dst:=some d,op:=op,type:=ty,pos:=pos,after:=af,guard:=g }::os) (s::sp) i l0 l1:=⟨M9 h t.go⟩
theorem AdB {s:Sa}(t:Kza ks β os sp (i+1) l0 l1):Kza ks β ({ dst:=none,op:=op,type:=ty,pos:=pos,after:=af,guard:=g }::os) (s::sp) i l0 l1:=⟨t.go⟩
theorem AdE (t:Kp ks l0 l1):Kza ks β [] [] i l0 l1:=⟨t⟩
theorem Km {P:Program}{n:Nat}{c:Cx}{opsA:Array Oper}{Q:Exit→Act→World→Prop}{rest:List Oper}{H H1:List Ent}(ks:List Nat)(h:WL P n c opsA Q rest l1 H1)
  (hz:Kza ks β os sp i l0 l1:=by repeat (first | (apply AdA;rfl) | (apply AdD;rfl) | (apply AdC;rfl) | apply AdB | apply AdE | exact Oi | (apply LL;rfl) | (apply M9;rfl))) (hH:H=H1:=by rfl) :
  WL P n c opsA Q rest (LW β os sp i l0) H:=λa w Z ha hw=>h a w Z (ha.subL hz.go.one) (hH▸hw)
end
section
variable {P : Program} {n : Nat} {c : Cx} {opsA : Array Oper} {Q : Exit → Act → World → Prop} {l l0 : Fr} {H : List Ent} {sp : List Sa}
theorem oac {all rest:List Oper}{o:Oper}{i:Nat}(hr:∀{E},DJ P n c opsA Q (BZ all (Y8 sp) (HA sp i).deps l0) (H++E) o (HA sp i).r (H++E))(h:LT P n c opsA Q all sp l0 H (i+1) rest)(ha:(HA sp i).al=none:=by rfl)(hs:(HA sp i).sto=none:=by rfl):LT P n c opsA Q all sp l0 H i (o::rest):=by
 refine⟨?_,h⟩;unfold ObA;rw[hs,ha];exact λ_=>hr
end
def rBx (p:Bool→Prop):Rp:=⟨λ_ v=>∃b,v = .bool b∧p b,λ_ h=>h,true,λ_ Z v ⟨b,e,_⟩=>by rw[e];rfl⟩
section
variable {P : Program} {n : Nat} {c : Cx} {ops : Array Oper} {Q : Exit → Act → World → Prop} {rest : List Oper} {l : Fr} {H : List Ent} {d : Option Nat} {ty rty t e : TypeId} {pos : String} {af : Array Edge} {g : Option (Nat × Bool)} {r : Rp} {x : Operand} {cx cy : Code} {sz : Nat} {xs : List (List Rp)}
theorem Mc {o:Operand}{p:Bool→Prop}(ho:ev l o=some (rBx p))(h1:p true→WC P n c cx Q l H)(h2:p false→WC P n c cy Q l H):WC P n c (.cond o cx cy) Q l H:=λa w Z ha hw=>by
 obtain⟨b,e,hp⟩:=ha.ev ho;exact wp_cond_split e (λe=>h1 (e▸hp) a w Z ha hw) (λe=>h2 (e▸hp) a w Z ha hw)
theorem KW (ht:P.underlying t=some (.slice e))(h:ev l x=some (AO sz xs)):B4 P n c l H { dst:=d,op:=.binOp .eql t x (.const (.slice none 0 0)) rty,type:=ty,pos:=pos,after:=af,guard:=g } (rBx (λb=>b=true→xs=[])):=λa w Z ha hw=>by
 obtain⟨A,cap,e1,h1,h2,h3,h4⟩:=ha.ev h;refine⟨.bool A.isNone,⟨_,rfl,λhb=>?_⟩,?_⟩
 ·cases A with
  | some a=>cases hb
  | none=>
   have:=h3 rfl;exact List.length_eq_zero_iff.1 (by omega)
 ·have:=run_equal_slice_nil (P:=P) w t e A xs.length cap ht;have e2:a.eval (.const (.slice none 0 0)) = .slice none 0 0:=rfl;simp[execOp,e1,e2,binOp,this,eqGuard]
end
section
variable {P : Program} {n : Nat} {c : Cx} {l : Fr} {H : List Ent} {d : Option Nat} {ty rty t e : TypeId} {pos : String} {af : Array Edge} {g : Option (Nat × Bool)} {x : Operand} {sz : Nat}
end
theorem Ia (s:ByteArray):MapKept.IsKey .string (.string s):=by simp[MapKept.IsKey]
theorem LU.keys {Z:Fz}:∀{f:List (List UInt8×Rp)} {es:List MapEntry},LU Z f es→∀x∈es,MapKept.IsKey .string x.key
 | [],[],_,x,hx=>by cases hx
 | p::f,e::es,⟨⟨h1,h2⟩,h3⟩,x,hx=>by
  rcases List.mem_cons.1 hx with rfl | hx
  ·rw[h1];exact Ia _
  ·exact LU.keys h3 x hx
theorem LU.at {Z:Fz}:∀{f:List (List UInt8×Rp)} {es:List MapEntry},LU Z f es→f.length=es.length∧∀(j:Nat) (e:MapEntry),es[j]? =some e→∃k r,f[j]? =some (k,r)∧e.key = .string (B k)∧r.p Z e.val
 | [],[],_=>⟨rfl,λj e h=>by simp at h⟩
 | p::f,e::es,⟨⟨h1,h2⟩,h3⟩=>by
  obtain⟨hl,ha⟩:=LU.at h3;refine⟨by simp[hl],λj e' hj=>?_⟩
  cases j with
  | zero=>simp at hj;subst hj;exact⟨p.1,p.2,rfl,h1,h2⟩
  | succ j=>simp at hj;simpa using ha j e' hj
theorem LU.of {Z:Fz}:∀{f:List (List UInt8×Rp)} {es:List MapEntry},f.length=es.length→(∀(j:Nat) (e:MapEntry),es[j]? =some e→∃k r,f[j]? =some (k,r)∧e.key = .string (B k)∧r.p Z e.val)→LU Z f es
 | [],[],_,_=>trivial
 | p::f,e::es,hl,h=>by
  obtain⟨k,r,h1,h2,h3⟩:=h 0 e rfl;simp at h1;subst h1;exact⟨⟨h2,h3⟩,LU.of (by simpa using hl) λj e' hj=>by simpa using h (j+1) e' (by simpa using hj)⟩
 | [],_::_,hl,_=>by simp at hl
 | _::_,[],hl,_=>by simp at hl
theorem LU.snoc {Z:Fz}{k:List UInt8}{r:Rp}{e:MapEntry}(h1:e.key = .string (B k))(h2:r.p Z e.val):∀{f:List (List UInt8×Rp)} {es:List MapEntry},LU Z f es→LU Z (f++[(k,r)]) (es++[e])
 | [],[],_=>⟨⟨h1,h2⟩,trivial⟩
 | p::f,e'::es,⟨h,h3⟩=>⟨h,LU.snoc h1 h2 h3⟩
theorem LU.filter {Z:Fz}(q:MapEntry→Bool):∀{f:List (List UInt8×Rp)} {es:List MapEntry},LU Z f es→∃g,LU Z g (es.filter q)∧g.Sublist f
 | [],[],_=>⟨[],trivial,List.Sublist.refl _⟩
 | p::f,e::es,⟨h,h3⟩=>by
  obtain⟨g,hg,hs⟩:=LU.filter q h3
  cases hq:q e with
  | true=>exact⟨p::g,by rw[List.filter_cons_of_pos hq];exact⟨h,hg⟩,hs.cons_cons p⟩
  | false=>exact⟨g,by rw[List.filter_cons_of_neg (by simp[hq])];exact hg,hs.cons p⟩
theorem TI {T:Type}:∀{m:List (Ai×T)} {k:Ai} {r:T},(m.map (·.1)).Nodup→(k,r)∈m→HQ m k=some r
 | p::m,k,r,hn,h=>by
  rw[AfA,List.nodup_cons] at hn;rw[HQ];rcases List.mem_cons.1 h with h | h
  ·subst h;rw[AeQ rfl];rfl
  ·have hne : ¬ p.1=k:=λe=>hn.1 (by rw[e];exact List.mem_map.2 ⟨(k,r),h,rfl⟩);rw[AeJ hne];exact TI hn.2 h
theorem QV {T:Type}:∀{m:List (Ai×T)} {k:Ai},(∀p∈m,p.1≠k)→HQ m k=none
 | [],_,_=>rfl
 | p::m,k,h=>by
  rw[HQ,AeJ (h p (by simp))];exact QV λq hq=>h q (by simp[hq])
theorem AdZ {a b:List UInt8}(h:B a=B b):a=b:=by
 have:=congrArg ByteArray.toList h
 rwa [GT,GT] at this
theorem Te {a b:List UInt8}(h:Value.string (B a) = .string (B b)):a=b:=AdZ (by cases h;rfl)
theorem W9 {Z:Fz}{m:List (List UInt8×Rp)}{es:List MapEntry}{ck:Nat}(h:GY Z m es ck)(k:List UInt8) :
  (Instr.findNow .string (.string (B k)) es 0=some none∧HQ m k=none∧∀p∈m,p.1≠k)∨∃j e r,Instr.findNow .string (.string (B k)) es 0=some (some (j,e.val))∧es[j]? =some e∧e.key = .string (B k)∧HQ m k=some r∧r.p Z e.val:=by
 obtain⟨h1,h2,h3,f,h4,h5⟩:=h;obtain⟨hl,ha⟩:=h5.at;rcases MapKept.findNow_spec (Ia (B k)) es 0 h5.keys with⟨q1,q2⟩ | ⟨j,e,q1,q2,q3⟩
 ·have hne:∀p∈m,p.1≠k:=λp hp e=>by
   obtain⟨j,hj⟩:=List.mem_iff_getElem?.1 (h4.symm.subset hp);have hjl:j<es.length:=by rw[← hl];exact(List.getElem?_eq_some_iff.1 hj).1
   obtain⟨k',r',e1,e2,_⟩:=ha j es[j] (AeN hjl);rw[hj] at e1;cases e1;exact q2 es[j] (List.getElem_mem hjl) (by rw[e2,← e])
  exact .inl ⟨q1,QV hne,hne⟩
 ·obtain⟨k',r,e1,e2,e3⟩:=ha j e q2;rw[q3] at e2;obtain rfl:=Te e2;exact .inr ⟨j,e,r,by simpa using q1,q2,q3,TI h1 (h4.subset (Afc e1)),e3⟩
section
variable {P : Program} {n : Nat} {c : Cx} {ops : Array Oper} {Q : Exit → Act → World → Prop} {rest : List Oper} {l : Fr} {H : List Ent} {d : Nat} {d' : Option Nat} {ty t kt et rty : TypeId} {pos : String} {af : Array Edge} {g : Option (Nat × Bool)} {x y u : Operand} {K : Act → World → Prop} {cx : Code}
variable {T : Type} {enc : T → Rp} {xs : List (Ai × T)} {z : T} {k : Ai} {zv : Value} {i b : Nat}
theorem Lz {Z:Fz}{w:World}{m:List (List UInt8×Rp)}{rz:Rp}(ht:P.underlying t=some (.map kt et))(hk:P.underlying kt=some .string)(hz:∀w,(zeroValue et).run P w = .ok zv w)(hzr:rz.p Z zv)(hm:(Ent.map b m).holds Z w)(ok:Bool) :
  ∃v,((HQ m k).getD rz).p Z v∧(Instr.lookup t (.map (some b)) (.string (B k)) ok).run P w = .ok (if ok then .tuple #[v,.bool (HQ m k).isSome] else v) w:=by
 obtain⟨es,ck,h1,h2⟩:=hm;rcases W9 h2 k with⟨q1,q2,_⟩ | ⟨j,e,r,q1,_,_,q2,q3⟩
 ·exact⟨zv,by rw[q2];exact hzr,by simp[Instr.lookup,run_underlying ht,MapKept.run_getObj_map h1,MapKept.run_checkKey hk (Ia _),MapKept.run_findKey hk q1,hz,q2]⟩
 ·exact⟨e.val,by rw[q2];exact q3,by simp[Instr.lookup,run_underlying ht,MapKept.run_getObj_map h1,MapKept.run_checkKey hk (Ia _),MapKept.run_findKey hk q1,q2]⟩
theorem Uk (enc:T→Rp)(xs:List (Ai×T))(k:Ai)(z:T):(HQ (Bx enc xs) k).getD (enc z)=enc (Nu xs k z):=by
 rw[M7];unfold Nu;cases HQ xs k<;>rfl
theorem Vs (enc:T→Rp)(xs:List (Ai×T))(k:Ai):(HQ (Bx enc xs) k).isSome=Kf xs k:=by
 rw[M7];unfold Kf;cases HQ xs k<;>rfl
theorem Wn (ht:P.underlying t=some (.map kt et))(hk:P.underlying kt=some .string)(hz:∀w,(zeroValue et).run P w = .ok zv w)(hzr:∀Z,(enc z).p Z zv)(hx:ev l x=some (rv (.map (some b))))(hi:H[i]? =some (.map b (Bx enc xs)))(hy:ev l y=some (rS k)) :
  B4 P n c l H { dst:=d',op:=.lookup t x y true,type:=ty,pos:=pos,after:=af,guard:=g } (Dy [enc (Nu xs k z),rB (Kf xs k)]):=λa w Z ha hw=>by
 obtain⟨v,h1,h2⟩:=Lz (k:=k) ht hk hz (hzr Z) (hw.ent hi) true;rw[Uk] at h1;refine⟨.tuple #[v,.bool (Kf xs k)],⟨[v,.bool (Kf xs k)],rfl,h1,rfl,trivial⟩,?_⟩;rw[Vs] at h2;simp[execOp,ha.eval hx,ha.eval hy,h2]
theorem Zn (ht:P.underlying t=some (.map kt et))(hk:P.underlying kt=some .string)(hz:∀w,(zeroValue et).run P w = .ok zv w)(hzr:∀Z,(enc z).p Z zv)(hx:ev l x=some (rv (.map (some b))))(hi:H[i]? =some (.map b (Bx enc xs)))(hy:ev l y=some (rS k)) :
  B4 P n c l H { dst:=d',op:=.lookup t x y false,type:=ty,pos:=pos,after:=af,guard:=g } (enc (Nu xs k z)):=λa w Z ha hw=>by
 obtain⟨v,h1,h2⟩:=Lz (k:=k) ht hk hz (hzr Z) (hw.ent hi) false;rw[Uk] at h1;simp only[AeK,Afh] at h2;exact⟨v,h1,by simp[execOp,ha.eval hx,ha.eval hy,h2]⟩
theorem GY.length {Z:Fz}{m:List (List UInt8×Rp)}{es:List MapEntry}{ck:Nat}(h:GY Z m es ck):es.length=m.length:=by
 obtain⟨_,_,_,f,h4,h5⟩:=h;rw[← h5.at.1,h4.length_eq]
theorem Zm {m:List (List UInt8×Rp)}{N:Nat}(ht:P.underlying t=some (.map kt et))(hx:ev l x=some (rv (.map (some b))))(hi:H[i]? =some (.map b m))(hN:m.length=N) :
  B4 P n c l H { dst:=d',op:=.call { callee:=.builtin .len,args:=#[x],argTypes:=#[t] },type:=ty,pos:=pos,after:=af,guard:=g } (rI .i64 N):=λa w Z ha hw=>Ds<|by
 obtain⟨es,ck,h1,h2⟩:=hw.ent hi;have hl:es.size=N:=by rw[← hN,← h2.length];simp
 simp[execOp,resolve,invoke,builtin,ha.eval hx,Builtin.len_,run_underlying ht,goInt,MapKept.run_getObj_map h1,hl]
theorem Zl {v:Option Nat}(ht:P.underlying t=some (.map kt et))(hx:ev l x=some (rv (.map v))):B4 P n c l H { dst:=d',op:=.binOp .eql t x (.const (.map none)) rty,type:=ty,pos:=pos,after:=af,guard:=g } (rB v.isNone):=λa w Z ha hw=>Ds<|by
 have e2:a.eval (.const (.map none)) = .map none:=rfl;have h:=run_equal_map_nil (P:=P) w t kt et v ht;simp[execOp,ha.eval hx,e2,eqGuard,binOp,h]
theorem Nc (hn:Nat.blt d n=true)(h:∀b,WL P n c ops Q rest ((d,rv (.map (some b)))::l) (.map b []::H)) :
  WL P n c ops Q ({ dst:=some d,op:=.makeMap t none,type:=ty,pos:=pos,after:=af,guard:=none }::rest) l H:=
 J2 (λa w Z ha hw=>⟨_,w.alloc (.map #[] 0),_,_,Z,by simp[execOp,run_makeMap],Fz.le.refl _,rfl,
  hw.alloc _ (e:=.map w.heap.size []) ⟨#[],0,by simpa using heap_alloc_new w _,by simp,by simp,by simp,[],Afd _,trivial⟩ rfl,h w.heap.size⟩) hn
theorem YZ {m f:List (Ai×Rp)}(h:f.Perm m)(k:Ai)(r:Rp):(Nv f k r).Perm (Nv m k r):=h.map _
theorem Wr {T:Type}:∀{f:List (Ai×T)} {j:Nat} {k:Ai} {r0:T} (r:T),(f.map (·.1)).Nodup→f[j]? =some (k,r0)→Nv f k r=f.set j (k,r)
 | p::f,0,k,r0,r,hn,h=>by
  simp at h;subst h;rw[AfA,List.nodup_cons] at hn;have:Nv f k r=f:=by
   unfold Nv;rw[List.map_congr_left (g:=id) (λq hq=>?_),List.map_id];have hne : ¬ q.1=k:=λe=>hn.1 (by rw[← e];exact List.mem_map.2 ⟨q,hq,rfl⟩);rw[AeJ hne];rfl
  show(bif decide (k=k) then(k,r) else(k,r0))::Nv f k r=_;rw[AeQ rfl,this];rfl
 | p::f,j+1,k,r0,r,hn,h=>by
  rw[AfA,List.nodup_cons] at hn;simp at h;have hne : ¬ p.1=k:=λe=>hn.1 (by rw[e];exact List.mem_map.2 ⟨(k,r0),Afc h,rfl⟩);show(bif decide (p.1=k) then(k,r) else p)::Nv f k r=_;rw[AeJ hne,Wr r hn.2 h];rfl
theorem XE {T:Type}(m:List (Ai×T))(k:Ai)(r:T):(Nv m k r).map (·.1)=m.map (·.1):=by
 unfold Nv;rw[AfC];refine List.map_congr_left λp _=>?_;simp only[Function.comp]
 by_cases h:p.1=k
 ·rw[AeQ h];exact h.symm
 ·rw[AeJ h];rfl
theorem XF {T:Type}{m:List (Ai×T)}{k:Ai}{r:T}(h:HQ m k=some r):Kf m k=true:=by unfold Kf;rw[h];rfl
theorem XG {T:Type}{m:List (Ai×T)}{k:Ai}(h:HQ m k=none):Kf m k=false:=by unfold Kf;rw[h];rfl
theorem GY.put {Z:Fz}{m:List (Ai×Rp)}{es:List MapEntry}{ck j:Nat}{e:MapEntry}{k:Ai}{r0 r:Rp}{v:Value}(h:GY Z m es ck)(he:es[j]? =some e)(hk:e.key = .string (B k))(hm:HQ m k=some r0)(hr:r.p Z v) :
  GY Z (Jo m k r) (es.set j { e with key:=.string (B k),val:=v }) ck:=by
 obtain⟨h1,h2,h3,f,h4,h5⟩:=h;obtain⟨hl,ha⟩:=h5.at;have hjl:=(List.getElem?_eq_some_iff.1 he).1;unfold Jo;rw[XF hm,AeW];obtain⟨k',r',e1,e2,_⟩:=ha j e he;rw[hk] at e2;obtain rfl:=Te e2;have hfn:(f.map (·.1)).Nodup:=(h4.map (·.1)).nodup_iff.2 h1;refine⟨by rw[XE];exact h1,?_,?_,f.set j (k,r),?_,LU.of (by simp[hl]) λi x hx=>?_⟩
 ·rw[List.map_set];have:(es.map (·.born)).set j e.born=es.map (·.born):=by
   apply List.ext_getElem?;intro i;rw[List.getElem?_set]
   split
   ·rename_i hij;subst hij
    simp[hjl,List.getElem?_eq_some_iff.1 he |>.2]
   ·rfl
  show((es.map (·.born)).set j e.born).Nodup;rw[this];exact h2
 ·intro x hx;rcases List.mem_or_eq_of_mem_set hx with hx | rfl
  ·exact h3 x hx
  ·exact h3 e (Afc he)
 ·have:=YZ h4 k r
  rwa [Wr r hfn e1] at this
 ·rw[List.getElem?_set] at hx ⊢
  split at hx
  ·rename_i hij;subst hij
   cases hx
   exact⟨k,r,by rw[Af6 rfl,Af6 (by rw[hl];exact hjl)],rfl,hr⟩
  ·rename_i hij
   rw[Afz hij];exact ha i x hx
theorem GY.ins {Z:Fz}{m:List (Ai×Rp)}{es:List MapEntry}{ck:Nat}{k:Ai}{r:Rp}{v:Value}(h:GY Z m es ck)(hm:HQ m k=none)(hk:∀p∈m,p.1≠k)(hr:r.p Z v) :
  GY Z (Jo m k r) (es++[{ key:=.string (B k),val:=v,born:=ck }]) (ck+1):=by
 obtain⟨h1,h2,h3,f,h4,h5⟩:=h;unfold Jo;rw[XG hm,AeM];have hp:=QU k r m;refine⟨?_,?_,?_,f++[(k,r)],?_,LU.snoc rfl hr h5⟩
 ·rw[(hp.map (·.1)).nodup_iff,AfA,List.nodup_cons];exact⟨λhx=>by obtain⟨p,hp,e⟩:=List.mem_map.1 hx;exact hk p hp e,h1⟩
 ·rw[List.map_append,List.nodup_append];refine⟨h2,by simp,λa ha b hb e=>?_⟩;simp at hb;subst hb;obtain⟨x,hx,e'⟩:=List.mem_map.1 ha;have:=h3 x hx;omega
 ·intro x hx;rcases List.mem_append.1 hx with hx | hx
  ·have:=h3 x hx;omega
  ·simp at hx;subst hx;exact AeR _
 ·exact(List.perm_append_comm (l₁:=f) (l₂:=[(k,r)])).trans ((h4.cons (k,r)).trans hp.symm)
theorem St.mapset {Z:Fz}{w:World}(h:St c H Z w){m m':List (Ai×Rp)}(hi:H[i]? =some (.map b m)){es es':Array MapEntry}{ck ck':Nat}(h1:w.heap[b]? =some (.map es ck))(h2:GY Z m' es'.toList ck') :
  St c (H.set i (.map b m')) Z { w with heap:=w.heap.setIfInBounds b (.map es' ck') }:=by
 obtain⟨q1,q2⟩:=MapKept.heap_set (o':=.map es' ck') h1;exact h.set hi rfl rfl rfl (by simp) (λk _ hk=>q2 k (by simpa[Ent.foot] using hk)) ⟨es',ck',q1,h2⟩ (by simp[Ent.foot])
theorem R8 (s:ByteArray):Instr.sameBits 10000 (.string s) (.string s)=true:=by
 show(s ==s)=true;exact(MapKept.bytes_beq s s).2 rfl |> λh=>by simpa using h
theorem Acq {r:Rp}{m:List (Ai×Rp)}(ht:P.underlying t=some (.map kt et))(hk:P.underlying kt=some .string)(hx:ev l x=some (rv (.map (some b))))(hi:H[i]? =some (.map b m))(hy:ev l y=some (rS k))(hu:ev l u=some r){H':List Ent}(hH:H.set i (.map b (Jo m k r))=H')(h:WL P n c ops Q rest l H') :
  WL P n c ops Q ({ dst:=none,op:=.mapUpdate t x y u,type:=ty,pos:=pos,after:=af,guard:=none }::rest) l H:=
 SV λa w Z ha hw=>by
  obtain⟨es,ck,h1,h2⟩:=hw.ent hi;have hv:=ha.ev hu;subst hH;rcases W9 h2 k with⟨q1,q2,q3⟩ | ⟨j,e,r0,q1,q2,q3,q4,_⟩
  ·refine⟨_,_,?_,hw.mapset hi h1 (es':=es.push { key:=.string (B k),val:=a.eval u,born:=ck }) (by simpa using h2.ins q2 q3 hv),h⟩;simp[execOp,ha.eval hx,ha.eval hy,Instr.mapUpdate,run_underlying ht,MapKept.run_getObj_map h1,MapKept.run_checkKey hk (Ia _),MapKept.run_findKey hk q1,MapKept.run_setObj_map _ h1]
  ·have hje:es[j]? =some e:=by simpa using q2
   refine⟨_,_,?_,hw.mapset hi h1 (es':=es.modify j λe=>{ e with key:=.string (B k),val:=a.eval u }) (ck':=ck) (by
    have:=h2.put q2 q3 q4 hv;have e1:(es.modify j λe=>{ e with key:=.string (B k),val:=a.eval u }).toList=es.toList.set j { e with key:=.string (B k),val:=a.eval u }:=by
     rw[Array.toList_modify];rw[List.modify_eq_set,q2];rfl
    rw[e1];exact this),h⟩
   have hkey:((es[j]?).map (·.key)).getD (.string (B k)) = .string (B k):=by rw[hje];exact q3
   simp[execOp,ha.eval hx,ha.eval hy,Instr.mapUpdate,run_underlying ht,MapKept.run_getObj_map h1,MapKept.run_checkKey hk (Ia _),MapKept.run_findKey hk q1,MapKept.run_setObj_map _ h1,hkey,Instr.keyThatStays,R8]
theorem Oq {v:T}(ht:P.underlying t=some (.map kt et))(hk:P.underlying kt=some .string)(hx:ev l x=some (rv (.map (some b))))(hi:H[i]? =some (.map b (Bx enc xs)))(hy:ev l y=some (rS k))(hu:ev l u=some (enc v)){H':List Ent}(hH:H.set i (.map b (Bx enc (Jo xs k v)))=H')(h:WL P n c ops Q rest l H') :
  WL P n c ops Q ({ dst:=none,op:=.mapUpdate t x y u,type:=ty,pos:=pos,after:=af,guard:=none }::rest) l H:=Acq ht hk hx hi hy hu (by rw[← Zw];exact hH) h
end
theorem MR {q:MapEntry→Bool}:∀{l:List MapEntry} {j:Nat} {e:MapEntry},(l.map (·.born)).Nodup→l[j]? =some e→l.filter (λx=>!(x.born ==e.born))=l.eraseIdx j
 | x::l,0,e,hn,h=>by
  simp at h;subst h;rw[AfA,List.nodup_cons] at hn;rw[List.filter_cons_of_neg (by simp),List.filter_eq_self.2 λy hy=>?_];rfl;have:y.born≠x.born:=λe=>hn.1 (by rw[← e];exact List.mem_map.2 ⟨y,hy,rfl⟩);simp[this]
 | x::l,j+1,e,hn,h=>by
  rw[AfA,List.nodup_cons] at hn;simp at h;have hne:x.born≠e.born:=λe'=>hn.1 (by rw[e'];exact List.mem_map.2 ⟨e,Afc h,rfl⟩);rw[List.filter_cons_of_pos (by simp[hne]),MR (q:=q) hn.2 h];rfl
theorem LU.erase {Z:Fz}:∀{f:List (List UInt8×Rp)} {es:List MapEntry} (j:Nat),LU Z f es→LU Z (f.eraseIdx j) (es.eraseIdx j)
 | [],[],j,_=>by simp[LU]
 | p::f,e::es,0,⟨_,h⟩=>h
 | p::f,e::es,j+1,⟨h,h3⟩=>⟨h,LU.erase j h3⟩
theorem Wf {α:Type}:∀{l:List α} {j:Nat} {a:α},l[j]? =some a→l.Perm (a::l.eraseIdx j)
 | x::l,0,a,h=>by simp at h;subst h;exact Afd _
 | x::l,j+1,a,h=>by
  simp at h;exact((Wf h).cons x).trans (List.Perm.swap a x _)
theorem Za {T:Type}{enc:T→Rp}{ys:List (Ai×T)}{f:List (Ai×Rp)}{j:Nat}{k:Ai}{r:Rp}(h:f.Perm (Bx enc ys))(hj:f[j]? =some (k,r)):∃ (p:Ai×T) (ys':List (Ai×T)),ys.Perm (p::ys')∧p.1=k∧enc p.2=r∧(f.eraseIdx j).Perm (Bx enc ys'):=by
 have hm:(k,r)∈Bx enc ys:=h.subset (Afc hj);obtain⟨p,hp,e⟩:=List.mem_map.1 hm;simp only[Prod.mk.injEq] at e;obtain⟨a,b,rfl⟩:=List.append_of_mem hp;refine⟨p,a++b,List.perm_middle,e.1,e.2,?_⟩;have h1:f.Perm ((k,r)::f.eraseIdx j):=by
  exact Wf hj
 have h2:(Bx enc (a++p::b)).Perm ((k,r)::Bx enc (a++b)):=by
  have:(Bx enc (a++p::b)).Perm (Bx enc (p::(a++b))):=List.perm_middle.map _;refine this.trans ?_;show((p.1,enc p.2)::Bx enc (a++b)).Perm _;rw[e.1,e.2]
 exact((h1.symm.trans h).trans h2).cons_inv
section
variable {P : Program} {n : Nat} {c : Cx} {ops : Array Oper} {Q : Exit → Act → World → Prop} {rest : List Oper} {l : Fr} {H : List Ent} {d : Nat} {ty t kt et rty : TypeId} {pos : String} {af : Array Edge} {x y u : Operand} {K : Act → World → Prop} {cx : Code}
variable {T : Type} {enc : T → Rp} {xs ys : List (Ai × T)} {i b it : Nat} {m lf : List (List UInt8 × Rp)} {cur : Option (List UInt8 × Rp)} {k : Ai} {r : Rp}
theorem Aa5 (ht:P.underlying t=some (.map kt et))(hx:ev l x=some (rv (.map (some b))))(hi:H[i]? =some (.map b m))(hn:Nat.blt d n=true)(h:∀it,WL P n c ops Q rest ((d,rv (.pointer (some ⟨it,0,none⟩)))::l) (H.set i (.mit b it m m none))) :
  WL P n c ops Q ({ dst:=some d,op:=.range t x,type:=ty,pos:=pos,after:=af,guard:=none }::rest) l H:=
 J2 (λa w Z ha hw=>by
  obtain⟨es,ck,h1,h2⟩:=hw.ent hi;have hb:b<w.heap.size:=(Array.getElem?_eq_some_iff.1 h1).1;have hf:es.toList.filter (λe=>!(#[]:Array Nat).contains e.born)=es.toList:=List.filter_eq_self.2 λ_ _=>by simp
  obtain⟨f,h4,h5⟩:=h2.2.2.2;refine⟨.pointer (some ⟨w.heap.size,0,none⟩),w.alloc (.mapIter (some b) ck #[] ck),_,_,Z,?_,Fz.le.refl _,rfl,hw.set hi rfl rfl rfl (by simp) (λk hk _=>Below.heap_alloc w _ k hk) ?_ ?_,h w.heap.size⟩
  ·simp[execOp,ha.eval hx,run_range_map w t kt et b es ck ht h1]
  ·exact⟨es,ck,#[],ck,ck,(Below.heap_alloc w _ b hb).trans h1,by simpa using heap_alloc_new w _,h2,h2.2.2.1,Afm _,Afm _,Nat.ne_of_lt hb,⟨f,h4,by rw[hf];exact h5⟩,trivial⟩
  ·intro k hk;simp only[Ent.foot,Af4,List.not_mem_nil,or_false] at hk;rcases hk with rfl | rfl
   ·exact .inl (by simp[Ent.foot])
   ·exact .inr (Afm _)) hn
theorem Ack (hx:ev l x=some (rv (.pointer (some ⟨it,0,none⟩))))(hi:H[i]? =some (.mit b it m (Bx enc ys) cur))(hn:Nat.blt d n=true)
  (h0:ys=[]→WL P n c ops Q rest ((d,Dy [rB false])::l) H)
  (h1:∀p ys',ys.Perm (p::ys')→WL P n c ops Q rest ((d,Dy [rB true,rS p.1,enc p.2])::l) (H.set i (.mit b it m (Bx enc ys') (some (p.1,enc p.2))))) :
  WL P n c ops Q ({ dst:=some d,op:=.next x false,type:=ty,pos:=pos,after:=af,guard:=none }::rest) l H:=
 J2 (λa w Z ha hw=>by
  obtain⟨es,ck,seen,since,c0,q1,q2,q3,q4,q5,q6,q7,⟨f,q8,q9⟩,_⟩:=hw.ent hi;have hlf:(leftOf es seen).toList=es.toList.filter λe=>!seen.contains e.born:=by simp[leftOf]
  rcases run_next_at (P:=P) w ty it b since c0 seen es ck q2 q1 q4 q5 with⟨r1,r2⟩ | ⟨e,r1,w1,r2,r3⟩
  ·have he:es.toList.filter (λe=>!seen.contains e.born)=[]:=by rw[← hlf];exact Afp (by simpa using r1)
   rw[he] at q9;have hf:f=[]:=by cases f with
    | nil=>rfl
    | cons _ _=>exact absurd q9 id
   subst hf;have hy:ys=[]:=by
    have:=q8.length_eq;rw[K4] at this;exact Afp this.symm
   exact⟨.tuple #[.bool false],w,Dy [rB false],H,Z,by simp[execOp,ha.eval hx,r2],Fz.le.refl _,⟨[.bool false],rfl,rfl,trivial⟩,hw,h0 hy⟩
  ·rw[hlf] at r1;obtain⟨j,hj⟩:=List.mem_iff_getElem?.1 r1;obtain⟨k,r,e1,e2,e3⟩:=q9.at.2 j e hj;obtain⟨p,ys',s1,s2,s3,s4⟩:=Za q8 e1;have hnl:((es.toList.filter λe=>!seen.contains e.born).map (·.born)).Nodup:=q3.2.1.sublist ((List.filter_sublist ..).map _);have hleft:es.toList.filter (λx=>!(seen.push e.born).contains x.born)=(es.toList.filter λe=>!seen.contains e.born).eraseIdx j:=by
    rw[← MR (q:=λ_=>true) hnl hj,List.filter_filter];refine List.filter_congr λx _=>?_;simp only[Array.contains_push,Bool.not_or];rw[Bool.and_comm]
   have hd:St c H Z w1:=by
    rcases r2 with rfl | rfl
    ·exact hw
    ·exact hw.drawn _
   have q2':w1.heap[it]? =some (.mapIter (some b) since seen c0):=by rcases r2 with rfl | rfl<;>exact q2
   have q1':w1.heap[b]? =some (.map es ck):=by rcases r2 with rfl | rfl<;>exact q1
   obtain⟨t1,t2⟩:=MapKept.heap_set (o':=.mapIter (some b) since (seen.push e.born) ck) q2';refine⟨.tuple #[.bool true,e.key,e.val],ChangeMaps.setBlock w1 it (.mapIter (some b) since (seen.push e.born) ck),Dy [rB true,rS p.1,enc p.2],H.set i (.mit b it m (Bx enc ys') (some (p.1,enc p.2))),Z,by simp[execOp,ha.eval hx,r3],Fz.le.refl _,⟨[.bool true,e.key,e.val],rfl,rfl,?_,?_,trivial⟩,hd.set hi rfl rfl rfl (by simp[ChangeMaps.setBlock]) (λk' _ hk'=>t2 k' (λe'=>hk' (by simp[Ent.foot,e']))) ?_ (λk' hk'=>.inl (by simpa[Ent.foot] using hk')),h1 p ys' s1⟩
   ·show e.key = .string (B p.1);rw[s2];exact e2
   ·rw[s3];exact e3
   ·exact⟨es,ck,seen.push e.born,since,ck,(t2 b q7).trans q1',t1,q3,q4,Nat.le_trans q5 q6,Afm _,q7,⟨f.eraseIdx j,s4,by rw[hleft];exact q9.erase j⟩,rfl,seen,e,rfl,(List.mem_filter.1 r1).1,by rw[s2];exact e2,by rw[s3];exact e3⟩) hn
theorem St.unmit {Z:Fz}{w:World}(h:St c H Z w)(hi:H[i]? =some (.mit b it m lf cur)):St c (H.set i (.map b m)) Z w:=by
 obtain⟨es,ck,seen,since,c0,q1,q2,q3,_⟩:=h.ent hi;exact h.set hi rfl rfl rfl (Afm _) (λ_ _ _=>rfl) ⟨es,ck,q1,q3⟩ (by simp[Ent.foot])
theorem WK.unmit (hi:H[i]? =some (.mit b it m lf cur))(h:WK n c K l (H.set i (.map b m))):WK n c K l H:=λa w Z ha hw=>h a w Z ha (hw.unmit hi)
theorem WC.unmit (hi:H[i]? =some (.mit b it m lf cur))(h:WC P n c cx Q l (H.set i (.map b m))):WC P n c cx Q l H:=λa w Z ha hw=>h a w Z ha (hw.unmit hi)
theorem WL.unmit (hi:H[i]? =some (.mit b it m lf cur))(h:WL P n c ops Q rest l (H.set i (.map b m))):WL P n c ops Q rest l H:=λa w Z ha hw=>h a w Z ha (hw.unmit hi)
theorem St.uncur {Z:Fz}{w:World}(h:St c H Z w)(hi:H[i]? =some (.mit b it m lf cur)):St c (H.set i (.mit b it m lf none)) Z w:=by
 obtain⟨es,ck,seen,since,c0,q1,q2,q3,q4,q5,q6,q7,q8,_⟩:=h.ent hi;exact h.set hi rfl rfl rfl (Afm _) (λ_ _ _=>rfl) ⟨es,ck,seen,since,c0,q1,q2,q3,q4,q5,q6,q7,q8,trivial⟩ (λk hk=>.inl (by simpa[Ent.foot] using hk))
theorem WK.uncur (hi:H[i]? =some (.mit b it m lf cur))(h:WK n c K l (H.set i (.mit b it m lf none))):WK n c K l H:=λa w Z ha hw=>h a w Z ha (hw.uncur hi)
theorem Abb {dd:Option Nat}{g:Option (Nat×Bool)}(hx:ev l x=some (rv (.pointer (some ⟨it,0,none⟩))))(hi:H[i]? =some (.mit b it m lf (some (k,r)))) :
  B4 P n c l H { dst:=dd,op:=.entry x,type:=ty,pos:=pos,after:=af,guard:=g } (Dy [rS k,r]):=λa w Z ha hw=>by
 obtain⟨es,ck,seen,since,c0,q1,q2,q3,q4,q5,q6,q7,q8,rfl,s0,e,rfl,h1,h2,h3⟩:=hw.ent hi;exact⟨.tuple #[e.key,e.val],⟨[e.key,e.val],rfl,h2,h3,trivial⟩,by simp[execOp,ha.eval hx,run_entry_at w it b since s0 es c0 e q2 q1 h1 q3.2.1]⟩
end
section
variable {P : Program} {n : Nat} {c : Cx} {opsA : Array Oper} {Q : Exit → Act → World → Prop} {l : Fr} {H : List Ent} {d : Nat} {ty : TypeId} {pos : String} {af : Array Edge}
theorem Zh {f:FuncId}{args:List Operand}{ats:Array TypeId}{rs:List Rp}{r:Rp}{Hin Hout Hr:List Ent}(hcall:∀(as1:Array Value) (w:World),(callFunc f as1).run P w = .ok (.enter f as1) w)(hv:MT l args=some rs)
  (hp:H.Perm (Hin++Hr)) (hc:Fn P c.E f rs Hin (λr' H'=>r'=r∧H'=Hout)) {H':List Ent} (hH:Hout++Hr=H'):DJ P n c opsA Q l H { dst:=some d,op:=.call { callee:=.value (.func f),args:=args.toArray,argTypes:=ats },type:=ty,pos:=pos,after:=af,guard:=none } r H':=λa w Z K ha hw hK=>
 ⟨λ_=>by
  subst hH;unfold Oper.wp;rw[E9 rfl hcall w];refine(hc w Z _ (GS ha hv) (hw.perm hp).enter).mono ?_;rintro e w' ⟨r2,v,Ho,Z',rfl,⟨rfl,rfl⟩,hr2,hs⟩;exact hK v w' Z' hs.le hr2 ((hw.perm hp).call hs),λh=>by simp[Region.wanted] at h⟩
theorem Zg {f:FuncId}{args:List Operand}{ats:Array TypeId}{rs:List Rp}{r:Rp}{Hin Hr:List Ent}(hcall:∀(as1:Array Value) (w:World),(callFunc f as1).run P w = .ok (.enter f as1) w)(hv:MT l args=some rs)
  (hp:H.Perm (Hin++Hr)) (hc:Fn P c.E f rs Hin (λr' H'=>r'=r∧H'=Hin)):DJ P n c opsA Q l H { dst:=some d,op:=.call { callee:=.value (.func f),args:=args.toArray,argTypes:=ats },type:=ty,pos:=pos,after:=af,guard:=none } r H:=λa w Z K ha hw hK=>
 Zh (Hout:=Hin) hcall hv hp hc rfl a w Z K ha hw (λv w' Z' hz hr hs=>hK v w' Z' hz hr (hs.perm hp.symm))
end
section
variable {P : Program} {n : Nat} {c : Cx} {ops : Array Oper} {Q : Exit → Act → World → Prop} {rest : List Oper} {l : Fr} {H H' : List Ent} {d : Nat} {d' : Option Nat} {x y z3 : Operand} {ty t t' e : TypeId} {pos : String} {af : Array Edge} {g : Option (Nat × Bool)} {v u : Value} {r : Rp} {sz : Nat}
end
theorem Bw.d1 {Z:Fz}{r0:Rp}{us:List Value}(h:Bw Z [r0] us):∃y0,us=[y0]∧Bw Z [r0] [y0]:=by
 match us,h.length with
 | [y0],_=>exact⟨_,rfl,h⟩
theorem Bw.d2 {Z:Fz}{r0 r1:Rp}{us:List Value}(h:Bw Z [r0,r1] us):∃y0 y1,us=[y0,y1]∧Bw Z [r0,r1] [y0,y1]:=by
 match us,h.length with
 | [y0,y1],_=>exact⟨_,_,rfl,h⟩
theorem Bw.d6 {Z:Fz}{r0 r1 r2 r3 r4 r5:Rp}{us:List Value}(h:Bw Z [r0,r1,r2,r3,r4,r5] us):∃y0 y1 y2 y3 y4 y5,us=[y0,y1,y2,y3,y4,y5]∧Bw Z [r0,r1,r2,r3,r4,r5] [y0,y1,y2,y3,y4,y5]:=by
 match us,h.length with
 | [y0,y1,y2,y3,y4,y5],_=>exact⟨_,_,_,_,_,_,rfl,h⟩
theorem Un {α:Type}{sz:Nat}:∀{xs:List (List α)} (hs:∀c∈xs,c.length=sz) {k:Nat} {cl:List α},xs[k]? =some cl→∀(off m:Nat),off+m≤sz→((xs.flatten).drop (k*sz+off)).take m=(cl.drop off).take m
 | [],_,k,cl,h,_,_,_=>by simp at h
 | x::r,hs,0,cl,h,off,m,hm=>by
  simp at h;subst h;have hx:=hs x (by simp);simp only[List.flatten_cons,Nat.zero_mul,Afu];rw[List.drop_append_of_le_length (by omega),List.take_append_of_le_length (by simp;omega)]
 | x::r,hs,k+1,cl,h,off,m,hm=>by
  have hx:=hs x (by simp);simp only[List.flatten_cons];have e:(k+1)*sz+off=x.length+(k*sz+off):=by rw[hx,Nat.succ_mul];omega
  rw[e,List.drop_length_add_append];exact Un (λc hc=>hs c (by simp[hc])) (by simpa using h) off m hm
section
variable {P : Program} {n : Nat} {c : Cx} {ops : Array Oper} {Q : Exit → Act → World → Prop} {rest : List Oper} {l : Fr} {H H' : List Ent} {d : Nat} {d' : Option Nat} {ty t e rty : TypeId} {pos : String} {af : Array Edge} {g : Option (Nat × Bool)} {x y u : Operand} {v : Value} {sz m : Nat}
theorem O4 {α:Type}[Inhabited α]{ys:List α}{enc:α→List Rp}{i off:Nat}{j:Int}{rs:List Rp}(hag:∀w,(isAgg t).run P w = .ok true w)(hsz:∀w,(sizeOf t).run P w = .ok m w)(hx:ev l x=some (rv (Gl sz v j.toNat off)))(hi:H[i]? =some (.row v e sz (ys.map enc)))(hg:Ch j (ys.length:Int)=true)
  (hle:Nat.ble (off+m) sz=true) (hr:((enc (Ax ys j)).drop off).take m=rs) :
  B4 P n c l H { dst:=d',op:=.load t x,type:=ty,pos:=pos,after:=af,guard:=g } (B9 rs):=λa w Z ha hw=>by
 obtain⟨hs,us,⟨h1,h2⟩,h3⟩:=hw.ent hi;have h0:=(Ce hg).1;have hlt:j.toNat<ys.length:=by have:=(Ce hg).2;omega
 have eat:Ax ys j=ys[j.toNat]:=by simp[Ax,hlt]
 have hle':off+m≤sz:=by simpa using hle
 have hcl:(ys.map enc)[j.toNat]? =some (enc ys[j.toNat]):=by simp[hlt]
 have hcz:(enc ys[j.toNat]).length=sz:=hs _ (Afc hcl);have hseg:=Un hs hcl off m hle';rw[← eat,hr] at hseg;have h4:=(h3.drop (j.toNat*sz+off)).take m;rw[hseg] at h4;have hrl:rs.length=m:=by rw[← hr,eat];simp;omega
 rcases h2 with⟨rfl,hz⟩ | ⟨b,cap,cur,rfl,_,hg',hcap,hm,hcs,htk⟩
 ·simp at hz;subst hz;simp at hlt
 ·have h5:=run_loadCells_list (P:=P) w ⟨b,j.toNat*sz+off,none⟩ ((us.drop (j.toNat*sz+off)).take m) (λq w' hq=>by
   rw[Kg,cell_of_row w b _ cur e (0,0) hg'];rw[Af0] at hq
   split at hq
   ·rw[List.getElem?_drop,← htk,Af0] at hq
    split at hq
    ·simpa using hq
    ·cases hq
   ·cases hq)
  rw[h4.length,hrl] at h5;exact⟨.agg ((us.drop (j.toNat*sz+off)).take m).toArray,⟨_,rfl,h4⟩,by simp[execOp,ha.eval hx,Gl,Instr.loadAt,Instr.sureAddr,loadVar,hag,hsz,h5]⟩
end
section
variable {P : Program} {n : Nat} {c : Cx} {Q : Exit → Act → World → Prop} {l : Fr} {H : List Ent} {x rest' : Code} {K : Act → World → Prop}
end
section
variable {P : Program} {n : Nat} {c : Cx} {ops : Array Oper} {Q : Exit → Act → World → Prop} {rest : List Oper} {l : Fr} {H H' : List Ent} {d : Nat} {d' : Option Nat} {x y z3 z4 : Operand} {ty t t' e : TypeId} {pos : String} {af : Array Edge} {g : Option (Nat × Bool)} {v u : Value} {r : Rp} {sz : Nat}
theorem O5 {i:Nat}{rs:List Rp}{fs:Array Field}{f:Field}(hu:P.underlying t=some (.struct fs))(hf:fs[i]? =some f)(hag:∀w,(isAgg f.type).run P w = .ok false w)(hx:ev l x=some (B9 rs))(hr:rs[f.offset]? =some r) :
  B4 P n c l H { dst:=d',op:=.field t x i,type:=ty,pos:=pos,after:=af,guard:=g } r:=λa w Z ha hw=>by
 obtain⟨us,e1,hus⟩:=ha.ev hx;obtain⟨v,hv,hp⟩:=hus.at hr;exact⟨v,hp,by simp[execOp,e1,Instr.field,run_underlying hu,hf,asAgg,part,hag,hv]⟩
theorem Acl {α:Type}{enc:α→List Rp}{inf:TypeInfo}{z:Value}{zα:α}{rz:Rp}{kl kc:IntKind}{m:Nat}{bytes:Nat}(ht:P.underlying t=some (.slice e))(hinf:P.info? e=some inf)(hz:inf.zero=some z)(hsize:inf.size=1)(hby:inf.bytes=bytes)(hbp:Nat.blt 0 bytes=true)
  (hzc:z.cells = #[z]) (henc:enc zα=[rz]) (hrz:∀Z,rz.p Z z)
  (hx:ev l x=some (rI kl m)) (hy:ev l y=some (rI kc m)) (hg:Eh bytes m=true) (hn:Nat.blt d n=true)
  (h:∀v',WL P n c ops Q rest ((d,rv v')::l) (.row v' e 1 ((List.replicate m zα).map enc)::H)) :
  WL P n c ops Q ({ dst:=some d,op:=.makeSlice t x y,type:=ty,pos:=pos,after:=af,guard:=none }::rest) l H:=
 J2 (λa w Z ha hw=>by
  have hb:m*bytes≤140737488355328:=by simpa[Eh] using hg
  have hbp':0<bytes:=by simpa using hbp
  have hle:m≤m*bytes:=Nat.le_mul_of_pos_right _ hbp';obtain⟨w',e1,e2,e3⟩:=run_make_full (P:=P) w 0 t e inf z 1 ht hinf hz hsize kl kc m (by rw[hby,Nat.mul_comm];omega) (by simp only[maxLen];omega) (Afv _);rw[hzc,toList_madeCells_one,Nat.mul_one] at e2;have hall:Bw Z ((List.replicate m zα).map enc).flatten (List.replicate m z):=by
   clear e2 hle hb hg hx hy h e1
   induction m with
   | zero=>trivial
   | succ m ih=>rw[List.replicate_succ,List.replicate_succ,AfA,List.flatten_cons,henc];exact⟨hrz Z,ih⟩
  have hlen:∀cl∈(List.replicate m zα).map enc,cl.length=1:=λcl hcl=>by
   obtain⟨q,hq,rfl⟩:=List.mem_map.1 hcl;rw[(List.mem_replicate.1 hq).2,henc];rfl
  have hent:(Ent.row (.slice (some ⟨w.heap.size,0,none⟩) m m) e 1 ((List.replicate m zα).map enc)).holds Z w':=⟨hlen,List.replicate m z,by simpa using e2,hall⟩
  exact⟨.slice (some ⟨w.heap.size,0,none⟩) m m,w',rv (.slice (some ⟨w.heap.size,0,none⟩) m m),_,Z,by simp[execOp,ha.eval hx,ha.eval hy,e1],Fz.le.refl _,rfl,hw.add e3.os e3.tape e3.output e3.size (λk hk=>e3.block k hk (by simp)) hent (by simp[Ent.foot,Value.ownBlock]),h _⟩) hn
end
structure Sx (U:Type) where
 deps:List Nat
 r:U→Rp
 dyn:Bool:=false
 old:List Nat:=[]
def HT {U:Type}(sp:List (Sx U))(i:Nat):Sx U:=sp.getD i { deps:=[],r:=λ_=>rv undef }
def Yj {U:Type}(sp:List (Sx U))(u:U):List Sp:=sp.map λs=>⟨s.deps,s.r u,0⟩
def saU {U:Type}(sp:List (Sx U))(u:U):List Sa:=sp.map λs=>{ deps:=s.deps,r:=s.r u }
def PY {U:Type}:List (Sx U)→Prop
 | []=>True
 | s::r=>(s.dyn=false→∀u u',s.r u=s.r u')∧PY r
theorem PY.at {U:Type}:∀{sp:List (Sx U)},PY sp→∀{i:Nat} {s:Sx U},sp[i]? =some s→s.dyn=false→∀u u',s.r u=s.r u'
 | [],_,i,s,h=>by simp at h
 | x::sp,⟨h1,h2⟩,0,s,h=>by simp at h;subst h;exact h1
 | x::sp,⟨h1,h2⟩,i+1,s,h=>PY.at h2 (by simpa using h)
theorem Aei {U:Type}{ds os:List Nat}{r:Rp}{sp:List (Sx U)}(h:PY sp):PY ({ deps:=ds,r:=λ_=>r,old:=os }::sp):=⟨λ_ _ _=>rfl,h⟩
theorem Aeh {U:Type}{ds os:List Nat}{r:U→Rp}{sp:List (Sx U)}(h:PY sp):PY ({ deps:=ds,r:=r,dyn:=true,old:=os }::sp):=⟨λh'=>(by cases h'),h⟩
def Gn (lw:Fr):List Nat→Fr→Fr
 | [],l=>l
 | d::r,l=>match look lw d with
  | some q=>(d,q)::Gn lw r l
  | none=>Gn lw r l
theorem S7 {n:Nat}{lw l:Fr}{a:Act}{Z:Fz}(h0:Dg n l a Z):∀{ds:List Nat},(∀d∈ds,∀q,look lw d=some q→∃v,a.tmps[d]? =some v∧q.p Z v)→Dg n (Gn lw ds l) a Z
 | [],_=>h0
 | d::ds,h=>by
  have ih:=S7 h0 (ds:=ds) (λd' hd'=>h d' (by simp[hd']));unfold Gn
  cases hd:look lw d with
  | none=>exact ih
  | some q=>
   refine⟨ih.size,ih.defers,λi r hi=>?_⟩;rw[Cw] at hi
   split at hi
   ·rename_i e;subst e;simp at hi;subst hi;exact h d (by simp) q hd
   ·exact ih.tm i r hi
theorem Aeg {U:Type}:PY ([]:List (Sx U)):=trivial
def okX (n:Nat)(ops:List Oper)(N i0:Nat)(keys:List Nat)(deps:List (List Nat))(dyns:List Bool)(olds:List (List Nat)):Bool:=
 PT ops N&&decide (N≤ops.length)&&decide (i0<N)&&
 (List.range N).all (λi=>match Co ops i with
  | some d=>decide (d<n)&&!keys.contains d&&(List.range N).all (λj=>j ==i||Co ops j !=some d)
  | none=>true)&&
 (List.range N).all (λi=>(deps.getD i []).all (λj=>decide (j<N)&&(De (ops.getD i default)).contains j))&&
 (List.range N).all (λi=>!dyns.getD i false||i ==i0||(De (ops.getD i default)).any (λe=>decide (e<N)&&(e ==i0||dyns.getD e false)))&&
 (List.range N).all (λi=>(olds.getD i []).all (λd=>(List.range N).all (λw=>Co ops w !=some d||(De (ops.getD w default)).contains i)))
section
variable (P : Program) (n : Nat) (c : Cx) (opsA : Array Oper) (Q : Exit → Act → World → Prop)
def OpX {U:Type}(l:Fr)(H:List Ent)(o:Oper)(r:U→Rp)(H1:U→List Ent):Prop:=
 ∀a w Z (K:Act→World→Prop),Dg n l a Z→St c H Z w→(∀u v w' Z',Fz.le Z Z'→(r u).p Z' v→St c (H1 u) Z' w'→K (a.put o.dst v) w')→
  Region.wanted o (yielded opsA a.tmps)=true∧o.wp P a w K Q
def LS {U:Type}(ops:List Oper)(sp:List (Sx U))(l0 lw:Fr)(i0:Nat)(H:List Ent)(H1:U→List Ent):Nat→List Oper→Prop
 | i,o::rest=>(if i=i0 then(∀u,OpX P n c opsA Q (Gn lw (HT sp i).old (BZ ops (Yj sp u) (HT sp i).deps l0)) H o (HT sp i).r H1) else ∀u H',(H'=H∨H'=H1 u)→DJ P n c opsA Q (Gn lw (HT sp i).old (BZ ops (Yj sp u) (HT sp i).deps l0)) H' o ((HT sp i).r u) H')∧LS ops sp l0 lw i0 H H1 (i+1) rest
 | _,[]=>True
end
section
variable {P : Program} {n : Nat} {c : Cx} {opsA : Array Oper} {Q : Exit → Act → World → Prop} {l l0 lw : Fr} {U : Type} {H : List Ent} {H1 : U → List Ent} {sp : List (Sx U)} {i0 : Nat}
theorem LS.at {ops:List Oper}:∀{k:Nat} {rest:List Oper},LS P n c opsA Q ops sp l0 lw i0 H H1 k rest→∀(t:Nat) o,rest[t]? =some o→
  (if k+t=i0 then(∀u,OpX P n c opsA Q (Gn lw (HT sp (k+t)).old (BZ ops (Yj sp u) (HT sp (k+t)).deps l0)) H o (HT sp (k+t)).r H1) else ∀u H',(H'=H∨H'=H1 u)→DJ P n c opsA Q (Gn lw (HT sp (k+t)).old (BZ ops (Yj sp u) (HT sp (k+t)).deps l0)) H' o ((HT sp (k+t)).r u) H')
 | k,o::rest,⟨h1,h2⟩,t,o',ht=>by
  cases t with
  | zero=>simp at ht;subst ht;exact h1
  | succ t=>
   have:=LS.at h2 t o' (by simpa using ht);rw[show k+(t+1)=k+1+t from by omega];exact this
 | _,[],_,t,o,h=>by simp at h
theorem Aa4 {id:Nat}{ops:List Oper}[Inhabited U](N i0:Nat)(sp:List (Sx U))(hm:P.follows .mixedOrders=true)(hB:okX n ops N i0 (EQ l0) (sp.map (·.deps)) (sp.map (·.dyn)) (sp.map (·.old))=true)(hl0:U4 l0 l)(hlw:U4 lw l)(hsp:sp.length=N)(hst:PY sp)
  (hob:LS P n c ops.toArray Q ops sp l0 lw i0 H H1 0 (ops.take N)) (h:∀u,WL P n c ops.toArray Q (ops.drop N) (LW (λ_=>0) (ops.take N) (saU sp u) 0 l0) (H1 u)):WC P n c (.region id ops.toArray true) Q l H:=by
 intro a w Z ha hw;simp only[okX,AeI,Afw,List.mem_range,AeH] at hB;obtain⟨⟨⟨⟨⟨⟨b1,bN⟩,b0⟩,b2⟩,b3⟩,b4⟩,b5⟩:=hB;have hget:∀i,i<N→(ops.take N)[i]? =ops[i]?:=λi hi=>by rw[Af0,Af6 hi]
 have hsa:∀i,i<N→sp[i]? =some (HT sp i):=λi hi=>by
  simp[HT,AeO,AeN (show i<sp.length by omega)]
 have hspq:∀u i,i<N→(Es (Yj sp u) i)=⟨(HT sp i).deps,(HT sp i).r u,0⟩:=λu i hi=>by
  simp[Es,Yj,AeO,Afr,hsa i hi]
 have hdyn:∀j,j<N→(sp.map (·.dyn)).getD j false=(HT sp j).dyn:=λj hj=>by simp[AeO,Afr,hsa j hj]
 have hdep:∀j,j<N→(sp.map (·.deps)).getD j []=(HT sp j).deps:=λj hj=>by simp[AeO,Afr,hsa j hj]
 have hops:∀j,j<N→∃o,ops[j]? =some o:=λj hj=>⟨ops[j]'(by omega),AeN (by omega)⟩
 have hdst:∀i o d,i<N→ops[i]? =some o→o.dst=some d→(d<n∧d ∉ EQ l0)∧∀j,j<N→j≠i→Co ops j≠some d:=λi o d hi ho hd=>by
  have h3:=b2 i hi;have:Co ops i=some d:=by simp[Co,ho,hd]
  rw[this] at h3;simp only[AeI,Afe,Afw,List.mem_range,AeH] at h3;refine⟨⟨h3.1.1,λhmem=>by rw[← List.contains_iff_mem] at hmem;rw[hmem] at h3;cases h3.1.2⟩,λj hj hne he=>?_⟩;have:=h3.2 j hj;simp[hne,he] at this
 refine UH (N:=N) hm b1 bN (λS a w=>∃ (u:U) (Z:Fz),St c (if S i0=true then H1 u else H) Z w∧Dg n l0 a Z∧(∀j o d,j<N→S j=true→ops[j]? =some o→o.dst=some d→∃v,a.tmps[d]? =some v∧((HT sp j).r u).p Z v)∧
   (∀j,j<N→(HT sp j).dyn=true→S j=true→S i0=true)∧
   (∀d q,look lw d=some q→(∀wr,wr<N→Co ops wr=some d→S wr=false)→∃v,a.tmps[d]? =some v∧q.p Z v)∧
   ∀wr i d,wr<N→i<N→Co ops wr=some d→d∈(HT sp i).old→S wr=true→S i=true)
  (λS S' a w hS hI=>?_) ⟨default,Z,?_,ha.subL hl0,λj o d _ hS=>(by cases hS),λj _ _ hS=>(by cases hS),λd q hd _=>(ha.subL hlw).tm d q hd,λwr i d _ _ _ _ hS=>(by cases hS)⟩ (λS i o a w hi hun ho hb hI K hK=>?_) (λa w hI=>?_)
 ·obtain⟨u,Z,h1,h2,h3,h4,h5,h6⟩:=hI;refine⟨u,Z,?_,h2,λj o d hj hS'=>h3 j o d hj (by rw[hS j hj];exact hS'),λj hj hd hSj=>?_,λd q hd hw'=>h5 d q hd (λwr hwr hdw=>by rw[hS wr hwr];exact hw' wr hwr hdw),λwr i d hwr hi hdw hold hSw=>by rw[← hS i hi];exact h6 wr i d hwr hi hdw hold (by rw[hS wr hwr];exact hSw)⟩
  ·rw[← hS i0 b0];exact h1
  ·rw[← hS i0 b0];exact h4 j hj hd (by rw[hS j hj];exact hSj)
 ·exact hw.drawn _
 ·obtain⟨u,Z,h1,h2,h3,hx,ho5,ho6⟩:=hI;have hput:∀k u v,a.tmps[k]? =some u→o.dst≠some k→(a.put o.dst v).tmps[k]? =some u:=λk u v hk hne=>by
   cases hd:o.dst with
   | none=>simpa[Act.put] using hk
   | some d=>
    simp only[Act.put,Array.getElem?_setIfInBounds];rw[Afz (λe=>hne (by rw[hd,e]))];exact hk
  have hagr:∀v Z',Fz.le Z Z'→Dg n l0 (a.put o.dst v) Z':=λv Z' hz=>by
   refine⟨?_,?_,λk r hk=>?_⟩
   ·cases o.dst<;>simp[Act.put,h2.size]
   ·cases o.dst<;>simp[Act.put,h2.defers]
   ·obtain⟨u,hu,hpu⟩:=h2.tm k r hk;exact⟨u,hput k u v hu (λe=>((hdst i o k hi ho e).1).2 (K5 hk)),r.mono hz hpu⟩
  have hvals:∀(v:Value) (Z':Fz) (u':U),Fz.le Z Z'→(∀j,j<N→j≠i→S j=true→(HT sp j).r u'=(HT sp j).r u)→(o.dst≠none→((HT sp i).r u').p Z' v)→∀j o' d,j<N→(j ==i||S j)=true→ops[j]? =some o'→o'.dst=some d→∃q,(a.put o.dst v).tmps[d]? =some q∧((HT sp j).r u').p Z' q:=by
   intro v Z' u' hz hβ hp j o' d hj hS' ho' hd
   by_cases hji:j=i
   ·subst hji;rw[ho] at ho';simp at ho';subst ho';refine⟨v,?_,hp (by simp[hd])⟩;have hdn:d<a.tmps.size:=by rw[h2.size];exact(hdst j o d hi ho hd).1.1
    simp[Act.put,hd,hdn]
   ·have hSj:S j=true:=by simpa[hji] using hS'
    obtain⟨q,hu,hpu⟩:=h3 j o' d hj hSj ho' hd;refine⟨q,hput d q v hu (λe=>(hdst i o d hi ho e).2 j hj hji (by simp[Co,ho',hd])),?_⟩;rw[hβ j hj hji hSj];exact((HT sp j).r u).mono hz hpu
  have hat:=hob.at i o (by rw[hget i hi];exact ho);rw[Afu] at hat;have hold':∀Z',Fz.le Z Z'→∀v d q,look lw d=some q→(∀wr,wr<N→Co ops wr=some d→(wr ==i||S wr)=false)→∃v',(a.put o.dst v).tmps[d]? =some v'∧q.p Z' v':=λZ' hz v d q hd hw'=>by
   obtain⟨v',e1,e2⟩:=ho5 d q hd (λwr hwr hdw=>by have:=hw' wr hwr hdw;simp only[Afg] at this;exact this.2);refine⟨v',hput d v' v e1 (λe=>?_),q.mono hz e2⟩;have:=hw' i hi (by simp[Co,ho,e]);simp at this
  have hord:∀wr k d,wr<N→k<N→Co ops wr=some d→d∈(HT sp k).old→(wr ==i||S wr)=true→(k ==i||S k)=true:=λwr k d hwr hk hdw hmem hSw=>by
   by_cases hwi:wr=i
   ·subst hwi;have h7:=b5 k hk d (by simpa[AeO,Afr,hsa k hk] using hmem) wr hwr;simp only[Afj,bne_iff_ne,ne_eq,hdw,not_true_eq_false,false_or] at h7;rw[AeO,ho,Afq,List.contains_iff_mem] at h7;simp[(hb k h7).2]
   ·have:S k=true:=ho6 wr k d hwr hk hdw hmem (by simpa[hwi] using hSw);simp[this]
  have hag':Dg n (Gn lw (HT sp i).old (BZ ops (Yj sp u) (HT sp i).deps l0)) a Z:=S7 (Lo h2 (λj hj d hd=>by
    obtain⟨h5,h6⟩:=b3 i hi j (by rw[hdep i hi];exact hj);rw[AeO,ho,Afq,List.contains_iff_mem] at h6;obtain⟨o2,ho2⟩:=hops j h5;obtain⟨v,hv1,hv2⟩:=h3 j o2 d h5 (hb j h6).2 ho2 (by simpa[Co,ho2] using hd);refine⟨v,hv1,?_⟩;rw[hspq u j h5];exact hv2)) (λd hd q hq=>ho5 d q hq (λwr hwr hdw=>by
     cases hS:S wr with
     | false=>rfl
     | true=>have:=ho6 wr i d hwr hi hdw hd hS;rw[this] at hun;cases hun))
  by_cases hi0:i=i0
  ·subst hi0;rw[Af6 rfl] at hat;rw[hun] at h1;have h1':St c H Z w:=by simpa using h1
   have key:=λK' hK'=>hat u a w Z K' hag' h1' hK';have h5:∀u' v w' Z',Fz.le Z Z'→((HT sp i).r u').p Z' v→St c (H1 u') Z' w'→K (a.put o.dst v) w':=λu' v w' Z' hz hpv hs'=>by
    refine hK _ _ ⟨u',Z',by simpa using hs',hagr v Z' hz,hvals v Z' u' hz (λj hj hji hSj=>?_) (λ_=>hpv),λj _ _ _=>by simp,hold' Z' hz v,hord⟩;refine hst.at (hsa j hj) ?_ u' u
    cases hd:(HT sp j).dyn with
    | false=>rfl
    | true=>have:=hx j hj hd hSj;rw[this] at hun;cases hun
   refine⟨λ_=>(key K h5).2,λhw'=>?_⟩;rw[(key K h5).1] at hw';cases hw'
  ·rw[Afz hi0] at hat;refine hat u _ (by split;exact .inr rfl;exact .inl rfl) a w Z K hag' h1 (λv w' Z' hz hp hst'=>hK _ _ ⟨u,Z',?_,hagr v Z' hz,hvals v Z' u hz (λ_ _ _ _=>rfl) (λ_=>hp),λj hj hd hSj=>?_,hold' Z' hz v,hord⟩)
   ·have hiS:(i0 ==i||S i0)=S i0:=by
     have:(i0 ==i)=false:=by simpa using λe=>hi0 e.symm
     rw[this];rfl
    show St c (if (i0 ==i||S i0)=true then H1 u else H) Z' w';rw[hiS];exact hst'
   ·have hii:(i0 ==i)=false:=by simpa using λe=>hi0 e.symm
    show(i0 ==i||S i0)=true;rw[hii,AeS]
    by_cases hji:j=i
    ·subst hji;have h7:=b4 j hj;rw[hdyn j hj,hd] at h7;simp only[AeL,AeS,Afj,beq_iff_eq,hi0,false_or,List.any_eq_true,AeI,AeH] at h7;obtain⟨e,he,heN,h8⟩:=h7;rw[AeO,ho,Afq] at he;have hSe:=(hb e he).2;rcases h8 with h8 | h8
     ·subst h8;exact hSe
     ·rw[hdyn e heN] at h8;exact hx e heN h8 hSe
    ·exact hx j hj hd (by simpa[hji] using hSj)
 ·obtain⟨u,Z,h1,h2,h3,_,_,_⟩:=hI;have hsl:(saU sp u).length=N:=by simp[saU,hsp]
  refine h u a w Z (OD h2 _ _ 0 (λt o s d ht hs hd=>?_)) (by simpa using h1);have htN:t<N:=by have:=(List.getElem?_eq_some_iff.1 hs).1;omega
  have hs':s = { deps:=(HT sp t).deps,r:=(HT sp t).r u }:=by
   simp only[saU,Afr,hsa t htN,Option.map_some,Option.some.injEq] at hs;exact hs.symm
  subst hs';rw[Afu];exact h3 t o d htN rfl (by rw[← hget t htN];exact ht) hd
theorem Yy [Inhabited U]{id:Nat}{ops:List Oper}(N i0:Nat)(ks0 ksw:List Nat)(sp:List (Sx U))(H1:U→List Ent)(hob:LS P n c ops.toArray Q ops sp l0 lw i0 H H1 0 (ops.take N))(h:∀u,WL P n c ops.toArray Q (ops.drop N) (LW (λ_=>0) (ops.take N) (saU sp u) 0 l0) (H1 u))
  (h0:Kp ks0 l l0:=by repeat (first | exact Oi | (apply LL;rfl) | (apply M9;rfl))) (hw:Kp ksw l lw:=by repeat (first | exact Oi | (apply LL;rfl) | (apply M9;rfl))) (hm:P.follows .mixedOrders=true:=by kernel_rfl) (hB:okX n ops N i0 (EQ l0) (sp.map (·.deps)) (sp.map (·.dyn)) (sp.map (·.old))=true:=by kernel_rfl)
  (hsp:sp.length=N:=by rfl) (hst:PY sp:=by repeat (first | exact Aeg | apply Aei | apply Aeh)):WC P n c (.region id ops.toArray true) Q l H:=Aa4 N i0 sp hm hB h0.one hw.one hsp hst hob h
theorem Yk {all rest:List Oper}{d:Nat}{op:Op}{ty:TypeId}{pos:String}{af:Array Edge}{i:Nat}(hr:∀{u H},B4 P n c (Gn lw (HT sp i).old (BZ all (Yj sp u) (HT sp i).deps l0)) H { dst:=some d,op:=op,type:=ty,pos:=pos,after:=af,guard:=none } ((HT sp i).r u))(h:LS P n c opsA Q all sp l0 lw i0 H H1 (i+1) rest)(hne:Nat.beq i i0=false:=by rfl) :
  LS P n c opsA Q all sp l0 lw i0 H H1 i ({ dst:=some d,op:=op,type:=ty,pos:=pos,after:=af,guard:=none }::rest):=by
 refine⟨?_,h⟩;rw[Afz (λe=>by subst e;simp at hne)];exact λu H _=>Ef hr
theorem oxc {all rest:List Oper}{o:Oper}{i:Nat}(hr:∀{u H},DJ P n c opsA Q (Gn lw (HT sp i).old (BZ all (Yj sp u) (HT sp i).deps l0)) H o ((HT sp i).r u) H)(h:LS P n c opsA Q all sp l0 lw i0 H H1 (i+1) rest)(hne:Nat.beq i i0=false:=by rfl):LS P n c opsA Q all sp l0 lw i0 H H1 i (o::rest):=by
 refine⟨?_,h⟩;rw[Afz (λe=>by subst e;simp at hne)];exact λu H _=>hr
theorem oxr {all rest:List Oper}{o:Oper}{i:Nat}(hr:∀{u},DJ P n c opsA Q (Gn lw (HT sp i).old (BZ all (Yj sp u) (HT sp i).deps l0)) H o ((HT sp i).r u) H)(hr1:∀{u},DJ P n c opsA Q (Gn lw (HT sp i).old (BZ all (Yj sp u) (HT sp i).deps l0)) (H1 u) o ((HT sp i).r u) (H1 u))(h:LS P n c opsA Q all sp l0 lw i0 H H1 (i+1) rest)(hne:Nat.beq i i0=false:=by rfl):LS P n c opsA Q all sp l0 lw i0 H H1 i (o::rest):=by
 refine⟨?_,h⟩;rw[Afz (λe=>by subst e;simp at hne)];intro u H' hH';rcases hH' with e | e
 ·subst e;exact hr
 ·subst e;exact hr1
theorem oxx {all rest:List Oper}{o:Oper}(hr:∀{u},OpX P n c opsA Q (Gn lw (HT sp i0).old (BZ all (Yj sp u) (HT sp i0).deps l0)) H o (HT sp i0).r H1)(h:LS P n c opsA Q all sp l0 lw i0 H H1 (i0+1) rest):LS P n c opsA Q all sp l0 lw i0 H H1 i0 (o::rest):=by
 refine⟨?_,h⟩;rw[Af6 rfl];exact λu=>hr
theorem oxe {all:List Oper}{i:Nat}:LS P n c opsA Q all sp l0 lw i0 H H1 i []:=trivial
end
section
variable {P : Program} {n : Nat} {c : Cx} {opsA : Array Oper} {Q : Exit → Act → World → Prop} {l : Fr} {H : List Ent} {d : Nat} {x y : Operand} {ty t e : TypeId} {pos : String} {af : Array Edge} {v : Value} {sz : Nat}
theorem SU {α:Type}{xs ys:List α}{enc:α→List Rp}{i:Nat}{inf:TypeInfo}{z:Value}{bytes:Nat}(ht:P.underlying t=some (.slice e))(hinf:P.info? e=some inf)(hz:inf.zero=some z)(hsize:inf.size=sz)(hby:inf.bytes=bytes)(hzs:z.cells.size=sz)(hsz:Nat.blt 0 sz=true)(hbp:Nat.blt 0 bytes=true)
  (hx:ev l x=some (rv v)) (hi:H[i]? =some (.row v e sz (xs.map enc))) (hy:Q3 P n c l H y sz ys.length (ys.map enc).flatten) (henc:∀z,(enc z).length=sz) (hone:∀z,(enc z).all (·.one)=true) (hg:Eh bytes (xs.length+ys.length)=true) :
  OpX P n c opsA Q l H { dst:=some d,op:=.call { callee:=.builtin .append,args:=#[x,y],argTypes:=#[t,t] },type:=ty,pos:=pos,after:=af,guard:=none } (λv'=>rv v') (λv'=>.row v' e sz ((xs++ys).map enc)::H.eraseIdx i):=λa w Z K ha hw hK=>by
  obtain⟨h0,us,h1,h2⟩:=hw.ent hi;obtain⟨ws,h3,h4⟩:=hy a w Z ha hw;have hsz':0<sz:=by simpa using hsz
  have hbp':0<bytes:=by simpa using hbp
  have hb:(xs.length+ys.length)*bytes≤140737488355328:=by simpa[Eh] using hg
  have hle:xs.length+ys.length≤(xs.length+ys.length)*bytes:=Nat.le_mul_of_pos_right _ hbp';have hws:∀y∈ws,y.oneCell'=true:=Bw.one (rs:=(ys.map enc).flatten) (by
   rw[Afw];intro r hr;obtain⟨cl,hcl,hrc⟩:=List.mem_flatten.1 hr;obtain⟨z',_,rfl⟩:=List.mem_map.1 hcl;exact List.all_eq_true.1 (hone z') r hrc) h3
  have hxl:(xs.map enc).length=xs.length:=Afi ..;rw[hxl] at h1;obtain⟨v',w',e1,e2,e3,e4⟩:=IJ (P:=P) ty ht hinf hz hsize hby hzs hsz' h1 h4 hws hb (by simp only[maxLen];omega);have hent:(Ent.row v' e sz ((xs++ys).map enc)).holds Z w':=⟨λcl hcl=>by obtain⟨z',_,rfl⟩:=List.mem_map.1 hcl;exact henc z',us++ws,by simpa using e2,by rw[List.map_append,List.flatten_append];exact h2.append h3⟩
  have hst:=hw.callF hi (St.one (e':=.row v' e sz ((xs++ys).map enc)) (M:=(Ent.row v e sz (xs.map enc)).foot) hw.frz hw.env hw.emono e3.os e3.tape e3.output e3.size (λk hk hne=>e3.block k hk (λe1=>hne (by simp[Ent.foot,← e1])))
   (hw.zdis _ (Afc hi)) hent (λk hk=>by
    simp only[Ent.foot,Option.mem_toList] at hk ⊢;rcases e4 with e4 | e4
    ·exact .inl (e4▸hk)
    ·exact .inr (e4 k hk)))
  refine⟨by simp[Region.wanted],?_⟩;unfold Oper.wp;rw[show(execOp a.eval { dst:=some d,op:=.call { callee:=.builtin .append,args:=#[x,y],argTypes:=#[t,t] },type:=ty,pos:=pos,after:=af,guard:=none }).run P w = .ok (.value v') w' from by simp[execOp,resolve,invoke,builtin,ha.eval hx,e1]];exact hK v' v' w' Z (Fz.le.refl _) rfl hst
end
abbrev Ux:=Nat→Nat→Value×Nat
def Ag (k:Nat)(u u':Ux):Prop:=∀j,j<k→u j=u' j
def ux (u:Ux)(k:Nat)(f:List (Value×Nat)):Ux:=λj=>bif Nat.beq j k then λq=>f.getD q (undef,0) else u j
theorem AdS {u:Ux}{k:Nat}{f:List (Value×Nat)}:Ag k u (ux u k f):=λj hj=>by
 unfold ux;have:Nat.beq j k=false:=by
  cases h:Nat.beq j k with
  | false=>rfl
  | true=>have:=Nat.eq_of_beq_eq_true h;omega
 rw[this];rfl
structure Sy where
 deps:List Nat
 r:Ux→Rp
 lv:Nat:=0
 fx:Bool:=false
 old:List Nat:=[]
def Hx (sp:List Sy)(i:Nat):Sy:=sp.getD i { deps:=[],r:=λ_=>rv undef }
def syu (sp:List Sy)(u:Ux):List Sp:=sp.map λs=>⟨s.deps,s.r u,0⟩
def saY (sp:List Sy)(u:Ux):List Sa:=sp.map λs=>{ deps:=s.deps,r:=s.r u }
def Rs:List Sy→Prop
 | []=>True
 | s::r=>(∀u u',Ag s.lv u u'→s.r u=s.r u')∧Rs r
theorem Rs.at:∀{sp:List Sy},Rs sp→∀{i:Nat} {s:Sy},sp[i]? =some s→∀u u',Ag s.lv u u'→s.r u=s.r u'
 | [],_,i,s,h=>by simp at h
 | x::sp,⟨h1,h2⟩,0,s,h=>by simp at h;subst h;exact h1
 | x::sp,⟨h1,h2⟩,i+1,s,h=>Rs.at h2 (by simpa using h)
theorem syc {r:Rp}{m:Nat}:∀u u':Ux,Ag m u u'→(λ_:Ux=>r) u=(λ_:Ux=>r) u':=λ_ _ _=>rfl
def okY (n:Nat)(ops:List Oper)(N:Nat)(is:List Nat)(keys:List Nat)(deps:List (List Nat))(lvs:List Nat)(fxs:List Bool)(olds:List (List Nat)):Bool:=
 let cl:=LQ ops []
 PT ops N&&decide (N≤ops.length)&&is.all (λi=>decide (i<N))&&decide is.Nodup&&
 (List.range is.length).all (λk=>k ==0||(cl.getD (is.getD k 0) 0).testBit (is.getD (k-1) 0))&&
 (List.range N).all (λi=>match Co ops i with
  | some d=>decide (d<n)&&!keys.contains d&&(List.range N).all (λj=>j ==i||Co ops j !=some d)
  | none=>true)&&
 (List.range N).all (λi=>(deps.getD i []).all (λj=>decide (j<N)&&(De (ops.getD i default)).contains j))&&
 (List.range N).all (λi=>decide (lvs.getD i 0≤is.length)&&(lvs.getD i 0 ==0||i ==is.getD (lvs.getD i 0-1) 0||(cl.getD i 0).testBit (is.getD (lvs.getD i 0-1) 0)))&&
 (List.range N).all (λi=>!fxs.getD i false||lvs.getD i 0 ==is.length||(cl.getD (is.getD (lvs.getD i 0) 0) 0).testBit i)&&
 (List.range N).all (λi=>(olds.getD i []).all (λd=>(List.range N).all (λw=>Co ops w !=some d||(De (ops.getD w default)).contains i)))
def cnt (S:Nat→Bool)(is:List Nat):Nat:=(is.filter S).length
theorem PR {S:Nat→Bool}{is:List Nat}{k:Nat}(hk:k≤is.length)(h1:∀j (h:j<is.length),j<k→S is[j]=true)(h2:∀j (h:j<is.length),k≤j→S is[j]=false):cnt S is=k:=by
 unfold cnt;rw[← AfB k is,List.filter_append,List.filter_eq_self.2 (λx hx=>?_),List.filter_eq_nil_iff.2 (λx hx=>?_)]
 ·simp;omega
 ·obtain⟨j,hj⟩:=List.mem_iff_getElem?.1 hx;rw[List.getElem?_drop] at hj;obtain⟨h3,h4⟩:=List.getElem?_eq_some_iff.1 hj;have:=h2 (k+j) h3 (by omega);rw[h4] at this;simp[this]
 ·obtain⟨j,hj⟩:=List.mem_iff_getElem?.1 hx;rw[Af0] at hj
  split at hj
  ·rename_i hjk
   obtain⟨h3,h4⟩:=List.getElem?_eq_some_iff.1 hj;have:=h1 j h3 hjk;rw[h4] at this;exact this
  ·cases hj
theorem Rm {S S':Nat→Bool}{is:List Nat}(h:∀i∈is,S i=S' i):cnt S is=cnt S' is:=by
 unfold cnt;rw[List.filter_congr h]
section
variable (P : Program) (n : Nat) (c : Cx) (opsA : Array Oper) (Q : Exit → Act → World → Prop)
def OpY (l:Fr)(H:List Ent)(o:Oper)(k:Nat)(u:Ux)(r:Ux→Rp)(H1:Ux→List Ent):Prop:=
 ∀a w Z (K:Act→World→Prop),Dg n l a Z→St c H Z w→(∀u' v w' Z',Ag k u u'→Fz.le Z Z'→(r u').p Z' v→St c (H1 u') Z' w'→K (a.put o.dst v) w')→
  Region.wanted o (yielded opsA a.tmps)=true∧o.wp P a w K Q
def ObY (ops:List Oper)(sp:List Sy)(l0 lw:Fr)(is:List Nat)(hs:List (Ux→List Ent))(i:Nat)(o:Oper):Prop:=
 match is.findIdx? (λx=>Nat.beq x i) with
 | some k=>∀u,OpY P n c opsA Q (Gn lw (Hx sp i).old (BZ ops (syu sp u) (Hx sp i).deps l0)) (hs.getD k (λ_=>[]) u) o k u (Hx sp i).r (hs.getD (k+1) (λ_=>[]))
 | none=>if (Hx sp i).fx=true then ∀u,DJ P n c opsA Q (Gn lw (Hx sp i).old (BZ ops (syu sp u) (Hx sp i).deps l0)) (hs.getD (Hx sp i).lv (λ_=>[]) u) o ((Hx sp i).r u) (hs.getD (Hx sp i).lv (λ_=>[]) u)
  else ∀u k,k≤is.length→DJ P n c opsA Q (Gn lw (Hx sp i).old (BZ ops (syu sp u) (Hx sp i).deps l0)) (hs.getD k (λ_=>[]) u) o ((Hx sp i).r u) (hs.getD k (λ_=>[]) u)
def NA (ops:List Oper)(sp:List Sy)(l0 lw:Fr)(is:List Nat)(hs:List (Ux→List Ent)):Nat→List Oper→Prop
 | i,o::rest=>ObY P n c opsA Q ops sp l0 lw is hs i o∧NA ops sp l0 lw is hs (i+1) rest
 | _,[]=>True
end
section
variable {P : Program} {n : Nat} {c : Cx} {opsA : Array Oper} {Q : Exit → Act → World → Prop} {l l0 lw : Fr} {H : List Ent} {hs : List (Ux → List Ent)} {sp : List Sy} {is : List Nat}
theorem NA.at {ops:List Oper}:∀{k:Nat} {rest:List Oper},NA P n c opsA Q ops sp l0 lw is hs k rest→∀(t:Nat) o,rest[t]? =some o→ObY P n c opsA Q ops sp l0 lw is hs (k+t) o
 | k,o::rest,⟨h1,h2⟩,t,o',ht=>by
  cases t with
  | zero=>simp at ht;subst ht;exact h1
  | succ t=>
   have:=NA.at h2 t o' (by simpa using ht);rw[show k+(t+1)=k+1+t from by omega];exact this
 | _,[],_,t,o,h=>by simp at h
theorem Aa3 {id:Nat}{ops:List Oper}(N:Nat)(is:List Nat)(sp:List Sy)(hs:List (Ux→List Ent))(hm:P.follows .mixedOrders=true)(hB:okY n ops N is (EQ l0) (sp.map (·.deps)) (sp.map (·.lv)) (sp.map (·.fx)) (sp.map (·.old))=true)(hl0:U4 l0 l)(hlw:U4 lw l)(hsp:sp.length=N)(hst:Rs sp)
    (hH:∀u,hs.getD 0 (λ_=>[]) u=H) (hob:NA P n c ops.toArray Q ops sp l0 lw is hs 0 (ops.take N)) (h:∀u,WL P n c ops.toArray Q (ops.drop N) (LW (λ_=>0) (ops.take N) (saY sp u) 0 l0) (hs.getD is.length (λ_=>[]) u)):WC P n c (.region id ops.toArray true) Q l H:=by
  intro a w Z ha hw;simp only[okY,AeI,Afw,List.mem_range,AeH] at hB;obtain⟨⟨⟨⟨⟨⟨⟨⟨⟨b1,bN⟩,bis⟩,Ln⟩,bch⟩,b2⟩,b3⟩,b4⟩,b6⟩,b5⟩:=hB;have hget:∀i,i<N→(ops.take N)[i]? =ops[i]?:=λi hi=>by rw[Af0,Af6 hi]
  have hsa:∀i,i<N→sp[i]? =some (Hx sp i):=λi hi=>by
    simp[Hx,AeO,AeN (show i<sp.length by omega)]
  have hspq:∀u i,i<N→(Es (syu sp u) i)=⟨(Hx sp i).deps,(Hx sp i).r u,0⟩:=λu i hi=>by
    simp[Es,syu,AeO,Afr,hsa i hi]
  have hlv:∀j,j<N→(sp.map (·.lv)).getD j 0=(Hx sp j).lv:=λj hj=>by simp[AeO,Afr,hsa j hj]
  have hfx:∀j,j<N→(sp.map (·.fx)).getD j false=(Hx sp j).fx:=λj hj=>by simp[AeO,Afr,hsa j hj]
  have hdep:∀j,j<N→(sp.map (·.deps)).getD j []=(Hx sp j).deps:=λj hj=>by simp[AeO,Afr,hsa j hj]
  have hops:∀j,j<N→∃o,ops[j]? =some o:=λj hj=>⟨ops[j]'(by omega),AeN (by omega)⟩
  have hisN:∀k (hk:k<is.length),is[k]<N:=λk hk=>bis _ (List.getElem_mem hk);have hisD:∀k (hk:k<is.length),is.getD k 0=is[k]:=λk hk=>by rw[AeO,AeN hk];rfl
  have hdst:∀i o d,i<N→ops[i]? =some o→o.dst=some d→(d<n∧d ∉ EQ l0)∧∀j,j<N→j≠i→Co ops j≠some d:=λi o d hi ho hd=>by
    have h3:=b2 i hi;have:Co ops i=some d:=by simp[Co,ho,hd]
    rw[this] at h3;simp only[AeI,Afe,Afw,List.mem_range,AeH] at h3;refine⟨⟨h3.1.1,λhmem=>by rw[← List.contains_iff_mem] at hmem;rw[hmem] at h3;cases h3.1.2⟩,λj hj hne he=>?_⟩;have:=h3.2 j hj;simp[hne,he] at this
  have clo:∀S:Nat→Bool,(∀t o,ops[t]? =some o→S t=true→∀e∈De o,S e=true)→∀j i,((LQ ops []).getD j 0).testBit i=true→S j=true→S i=true:=λS hc j i hb hj=>
    Ht ops (λk=>S k=true) ops [] (λt o ht e he hF=>hc t o ht (by simpa using hF) e he) (λj i hb=>by simp at hb) j i hb hj
  have pre1:∀S:Nat→Bool,(∀t o,ops[t]? =some o→S t=true→∀e∈De o,S e=true)→∀k (hk:k<is.length),S is[k]=true→∀j (hj:j<is.length),j≤k→S is[j]=true:=by
    intro S hc k
    induction k with
    | zero=>
              intro hk h0 j hj hle;have:j=0:=by omega
              subst this;exact h0
    | succ k ih=>
      intro hk h0 j hj hle
      by_cases e:j=k+1
      · subst e;exact h0
      · have h3:=bch (k+1) hk
        rw[hisD (k+1) hk] at h3;simp only[Afj,beq_iff_eq,Nat.succ_ne_zero,false_or,Nat.add_sub_cancel] at h3;rw[hisD k (by omega)] at h3;exact ih (by omega) (clo S hc _ _ h3 h0) j hj (by omega)
  refine UH (N:=N) hm b1 bN (λS a w=>∃ (u:Ux) (Z:Fz),St c (hs.getD (cnt S is) (λ_=>[]) u) Z w∧Dg n l0 a Z∧(∀j o d,j<N→S j=true→ops[j]? =some o→o.dst=some d→∃v,a.tmps[d]? =some v∧((Hx sp j).r u).p Z v)∧
      (∀t o,t<N→ops[t]? =some o→S t=true→∀e∈De o,e<t∧S e=true)∧
      (∀d q,look lw d=some q→(∀wr,wr<N→Co ops wr=some d→S wr=false)→∃v,a.tmps[d]? =some v∧q.p Z v)∧
      ∀wr i d,wr<N→i<N→Co ops wr=some d→d∈(Hx sp i).old→S wr=true→S i=true)
    (λS S' a w hS hI=>?_) ⟨default,Z,?_,ha.subL hl0,λj o d _ hS=>(by cases hS),λt o _ _ hS=>(by cases hS),λd q hd _=>(ha.subL hlw).tm d q hd,λwr i d _ _ _ _ hS=>(by cases hS)⟩ (λS i o a w hi hun ho hb hI K hK=>?_) (λa w hI=>?_)
  · obtain⟨u,Z,h1,h2,h3,h4,h5,h6⟩:=hI
    refine⟨u,Z,?_,h2,λj o d hj hS'=>h3 j o d hj (by rw[hS j hj];exact hS'),λt o ht hto hSt e he=>?_,λd q hd hw'=>h5 d q hd (λwr hwr hdw=>by rw[hS wr hwr];exact hw' wr hwr hdw),λwr i d hwr hi hdw hold hSw=>by rw[← hS i hi];exact h6 wr i d hwr hi hdw hold (by rw[hS wr hwr];exact hSw)⟩
    · rw[← Rm (S:=S) (S':=S') λi hi=>hS i (bis i hi)];exact h1
    · obtain⟨h7,h8⟩:=h4 t o ht hto (by rw[hS t ht];exact hSt) e he
      exact⟨h7,by rw[← hS e (by omega)];exact h8⟩
  · have:cnt (λ_=>false) is=0:=PR (Afv _) (λj _ h=>absurd h (Nat.not_lt_zero _)) (λ_ _ _=>rfl)
    rw[this,hH];exact hw.drawn _
  · obtain⟨u,Z,h1,h2,h3,hc,ho5,ho6⟩:=hI
    have hcl:∀t o,ops[t]? =some o→(decide (t<N)&&S t)=true→∀e∈De o,(decide (e<N)&&S e)=true:=λt o hto hSt e he=>by
      simp only[AeI,AeH] at hSt ⊢;obtain⟨h7,h8⟩:=hc t o hSt.1 hto hSt.2 e he;exact⟨by omega,h8⟩
    have hcl2:∀k q,((LQ ops []).getD k 0).testBit q=true→(k=i∨(decide (k<N)&&S k)=true)→(q=i∨(decide (q<N)&&S q)=true):=
      Ht ops (λk=>k=i∨(decide (k<N)&&S k)=true) ops [] (λt o' ht e he hF=>by
        rcases hF with hF | hF
        · simp at hF;subst hF
          rw[ho] at ht;simp at ht;subst ht;obtain⟨h7,h8⟩:=hb e he;exact .inr (by simp only[AeI,AeH];exact⟨by omega,h8⟩)
        · exact .inr (hcl t o' ht (by simpa using hF) e he)) (λj i hb=>by simp at hb)
    have hanc:∀q,((LQ ops []).getD i 0).testBit q=true→q≠i→S q=true:=λq hq hne=>by
      rcases hcl2 i q hq (.inl rfl) with h7 | h7
      · exact absurd h7 hne
      · simp only[AeI] at h7;exact h7.2
    have hSis:∀k (hk:k<is.length),(decide (is[k]<N)&&S is[k])=S is[k]:=λk hk=>by simp[hisN k hk]
    have hpre:∀k (hk:k<is.length),S is[k]=true→∀j (hj:j<is.length),j≤k→S is[j]=true:=λk hk hSk j hj hle=>by
      have:=pre1 (λk=>decide (k<N)&&S k) hcl k hk (by show(decide (is[k]<N)&&S is[k])=true;rw[hSis k hk];exact hSk) j hj hle
      rwa [show(decide (is[j]<N)&&S is[j])=S is[j] from hSis j hj] at this
    have hput:∀k u v,a.tmps[k]? =some u→o.dst≠some k→(a.put o.dst v).tmps[k]? =some u:=λk u v hk hne=>by
      cases hd:o.dst with
      | none=>simpa[Act.put] using hk
      | some d=>
        simp only[Act.put,Array.getElem?_setIfInBounds];rw[Afz (λe=>hne (by rw[hd,e]))];exact hk
    have hagr:∀v Z',Fz.le Z Z'→Dg n l0 (a.put o.dst v) Z':=λv Z' hz=>by
      refine⟨?_,?_,λk r hk=>?_⟩
      · cases o.dst<;>simp[Act.put,h2.size]
      · cases o.dst<;>simp[Act.put,h2.defers]
      · obtain⟨u,hu,hpu⟩:=h2.tm k r hk
        exact⟨u,hput k u v hu (λe=>((hdst i o k hi ho e).1).2 (K5 hk)),r.mono hz hpu⟩
    have hvals:∀(v:Value) (Z':Fz) (u':Ux),Fz.le Z Z'→(∀j,j<N→j≠i→S j=true→(Hx sp j).r u'=(Hx sp j).r u)→(o.dst≠none→((Hx sp i).r u').p Z' v)→∀j o' d,j<N→(j ==i||S j)=true→ops[j]? =some o'→o'.dst=some d→∃q,(a.put o.dst v).tmps[d]? =some q∧((Hx sp j).r u').p Z' q:=by
      intro v Z' u' hz hβ hp j o' d hj hS' ho' hd
      by_cases hji:j=i
      · subst hji
        rw[ho] at ho';simp at ho';subst ho';refine⟨v,?_,hp (by simp[hd])⟩;have hdn:d<a.tmps.size:=by rw[h2.size];exact(hdst j o d hi ho hd).1.1
        simp[Act.put,hd,hdn]
      · have hSj:S j=true:=by simpa[hji] using hS'
        obtain⟨q,hu,hpu⟩:=h3 j o' d hj hSj ho' hd;refine⟨q,hput d q v hu (λe=>(hdst i o d hi ho e).2 j hj hji (by simp[Co,ho',hd])),?_⟩;rw[hβ j hj hji hSj];exact((Hx sp j).r u).mono hz hpu
    have hat:=hob.at i o (by rw[hget i hi];exact ho);rw[Afu] at hat;have hold':∀Z',Fz.le Z Z'→∀v d q,look lw d=some q→(∀wr,wr<N→Co ops wr=some d→(wr ==i||S wr)=false)→∃v',(a.put o.dst v).tmps[d]? =some v'∧q.p Z' v':=λZ' hz v d q hd hw'=>by
      obtain⟨v',e1,e2⟩:=ho5 d q hd (λwr hwr hdw=>by have:=hw' wr hwr hdw;simp only[Afg] at this;exact this.2);refine⟨v',hput d v' v e1 (λe=>?_),q.mono hz e2⟩;have:=hw' i hi (by simp[Co,ho,e]);simp at this
    have hord:∀wr k d,wr<N→k<N→Co ops wr=some d→d∈(Hx sp k).old→(wr ==i||S wr)=true→(k ==i||S k)=true:=λwr k d hwr hk hdw hmem hSw=>by
      by_cases hwi:wr=i
      · subst hwi
        have h7:=b5 k hk d (by simpa[AeO,Afr,hsa k hk] using hmem) wr hwr;simp only[Afj,bne_iff_ne,ne_eq,hdw,not_true_eq_false,false_or] at h7;rw[AeO,ho,Afq,List.contains_iff_mem] at h7;simp[(hb k h7).2]
      · have:S k=true:=ho6 wr k d hwr hk hdw hmem (by simpa[hwi] using hSw)
        simp[this]
    have hcl':∀t o',t<N→ops[t]? =some o'→(t ==i||S t)=true→∀e∈De o',e<t∧(e ==i||S e)=true:=λt o' ht hto hSt e he=>by
      by_cases hti:t=i
      · subst hti
        rw[ho] at hto;simp at hto;subst hto;obtain⟨h7,h8⟩:=hb e he;exact⟨h7,by simp[h8]⟩
      · obtain⟨h7,h8⟩:=hc t o' ht hto (by simpa[hti] using hSt) e he
        exact⟨h7,by simp[h8]⟩
    have hag':Dg n (Gn lw (Hx sp i).old (BZ ops (syu sp u) (Hx sp i).deps l0)) a Z:=S7 (Lo h2 (λj hj d hd=>by
        obtain⟨h5,h6⟩:=b3 i hi j (by rw[hdep i hi];exact hj);rw[AeO,ho,Afq,List.contains_iff_mem] at h6;obtain⟨o2,ho2⟩:=hops j h5;obtain⟨v,hv1,hv2⟩:=h3 j o2 d h5 (hb j h6).2 ho2 (by simpa[Co,ho2] using hd);refine⟨v,hv1,?_⟩;rw[hspq u j h5];exact hv2)) (λd hd q hq=>ho5 d q hq (λwr hwr hdw=>by
          cases hS:S wr with
          | false=>rfl
          | true=>have:=ho6 wr i d hwr hi hdw hd hS;rw[this] at hun;cases hun))
    have hlev:∀j,j<N→S j=true→∀m (hm:m<is.length),m<(Hx sp j).lv→S is[m]=true:=λj hj hSj m hm hlt=>by
      have h7:=b4 j hj;rw[hlv j hj] at h7;have h8:=h7.1;have hm1:(Hx sp j).lv-1<is.length:=by omega
      rw[hisD _ hm1] at h7;have h9:S is[(Hx sp j).lv-1]=true:=by
        have hg:=h7.2;simp only[Afj,beq_iff_eq] at hg;rcases hg with(hg | hg) | hg
        · omega
        · rw[← hg];exact hSj
        · have:=clo (λk=>decide (k<N)&&S k) hcl j _ hg (by simp[hj,hSj])
          simp only[AeI] at this;exact this.2
      exact hpre _ hm1 h9 m hm (by omega)
    unfold ObY at hat
    cases hf:is.findIdx? (λx=>Nat.beq x i) with
    | some k=>
      rw[hf] at hat;obtain⟨hk,hki,_⟩:=List.findIdx?_eq_some_iff_getElem.1 hf;have hik:is[k]=i:=Nat.eq_of_beq_eq_true hki;have hlow:∀j (hj:j<is.length),j<k→S is[j]=true:=λj hj hjk=>by
        obtain⟨k',rfl⟩:∃k',k=k'+1:=⟨k-1,by omega⟩
        have h7:=bch (k'+1) hk;rw[hisD _ hk] at h7;simp only[Afj,beq_iff_eq,Nat.succ_ne_zero,false_or,Nat.add_sub_cancel] at h7;have hk':k'<is.length:=by omega
        rw[hisD k' hk',hik] at h7;have hne:is[k']≠i:=λe=>by
          have:=(List.getElem_inj Ln).1 (e.trans hik.symm);omega
        exact hpre k' hk' (hanc _ h7 hne) j hj (by omega)
      have hhigh:∀j (hj:j<is.length),k≤j→S is[j]=false:=λj hj hle=>by
        cases hS:S is[j] with
        | false=>rfl
        | true=>have:=hpre j hj hS k hk hle;rw[hik,hun] at this;cases this
      have hcnt:cnt S is=k:=PR (by omega) (λj hj h=>hlow j hj h) (λj hj h=>hhigh j hj h);have hcnt':cnt (λj=>j ==i||S j) is=k+1:=PR (by omega) (λj hj h=>by
        by_cases e:j=k
        · subst e;simp[hik]
        · simp[hlow j hj (by omega)]) (λj hj h=>by
        have hne:is[j]≠i:=λe=>by have:=(List.getElem_inj Ln).1 (e.trans hik.symm);omega
        simp[hne,hhigh j hj (by omega)])
      rw[hcnt] at h1;have key:=λK' hK'=>hat u a w Z K' hag' h1 hK';have h5:∀u' v w' Z',Ag k u u'→Fz.le Z Z'→((Hx sp i).r u').p Z' v→St c (hs.getD (k+1) (λ_=>[]) u') Z' w'→K (a.put o.dst v) w':=λu' v w' Z' hag hz hpv hs'=>by
        refine hK _ _ ⟨u',Z',by rw[hcnt'];exact hs',hagr v Z' hz,hvals v Z' u' hz (λj hj hji hSj=>?_) (λ_=>hpv),hcl',hold' Z' hz v,hord⟩;refine(hst.at (hsa j hj) u u' (λm hm=>hag m ?_)).symm;have hlj:=(b4 j hj).1;rw[hlv j hj] at hlj;have hml:m<is.length:=by omega
        cases Nat.lt_or_ge m k with
        | inl h7=>exact h7
        | inr h7=>have:=hlev j hj hSj m hml hm;rw[hhigh m hml h7] at this;cases this
      refine⟨λ_=>(key K h5).2,λhw'=>?_⟩;rw[(key K h5).1] at hw';cases hw'
    | none=>
      rw[hf] at hat;have hni:∀x∈is,x≠i:=λx hx e=>by
        have:=List.findIdx?_eq_none_iff.1 hf x hx;subst e;simp at this
      have hcnt':cnt (λj=>j ==i||S j) is=cnt S is:=Rm λx hx=>by simp[hni x hx]
      by_cases hfi:(Hx sp i).fx=true
      · simp only[hfi,Afn] at hat
        have hli:=b4 i hi;rw[hlv i hi] at hli;have hcnt:cnt S is=(Hx sp i).lv:=PR hli.1 (λj hj h=>?_) (λj hj h=>?_)
        · rw[hcnt] at h1
          refine hat u a w Z K hag' h1 (λv w' Z' hz hp hst'=>hK _ _ ⟨u,Z',?_,hagr v Z' hz,hvals v Z' u hz (λ_ _ _ _=>rfl) (λ_=>hp),hcl',hold' Z' hz v,hord⟩);rw[hcnt',hcnt];exact hst'
        · have h7:=hli.2
          have hm1:(Hx sp i).lv-1<is.length:=by omega
          rw[hisD _ hm1] at h7;simp only[Afj,beq_iff_eq] at h7;rcases h7 with(h7 | h7) | h7
          · omega
          · exact absurd h7.symm (hni _ (List.getElem_mem hm1))
          · exact hpre _ hm1 (hanc _ h7 (hni _ (List.getElem_mem hm1))) j hj (by omega)
        · have h7:=b6 i hi
          rw[hfx i hi,hfi,hlv i hi] at h7;simp only[AeL,AeS,Afj,beq_iff_eq] at h7;rcases h7 with h7 | h7
          · omega
          · have hm1:(Hx sp i).lv<is.length:=by omega
            rw[hisD _ hm1] at h7
            cases hS:S is[j] with
            | false=>rfl
            | true=>
              have h8:=hpre j hj hS _ hm1 h;have:=clo (λk=>decide (k<N)&&S k) hcl _ _ h7 (by show(decide (is[(Hx sp i).lv]<N)&&S is[(Hx sp i).lv])=true;rw[hSis _ hm1];exact h8);simp only[AeI,hun] at this;exact absurd this.2 (by simp)
      · simp only[hfi,Afh] at hat
        refine hat u (cnt S is) (List.length_filter_le _ _) a w Z K hag' h1 (λv w' Z' hz hp hst'=>hK _ _ ⟨u,Z',?_,hagr v Z' hz,hvals v Z' u hz (λ_ _ _ _=>rfl) (λ_=>hp),hcl',hold' Z' hz v,hord⟩);rw[hcnt'];exact hst'
  · obtain⟨u,Z,h1,h2,h3,_,_,_⟩:=hI
    have hsl:(saY sp u).length=N:=by simp[saY,hsp]
    have hcnt:cnt (λ_=>true) is=is.length:=PR (Afm _) (λ_ _ _=>rfl) (λj hj h=>by omega);rw[hcnt] at h1;refine h u a w Z (OD h2 _ _ 0 (λt o s d ht hs hd=>?_)) h1;have htN:t<N:=by have:=(List.getElem?_eq_some_iff.1 hs).1;omega
    have hs':s = { deps:=(Hx sp t).deps,r:=(Hx sp t).r u }:=by
      simp only[saY,Afr,hsa t htN,Option.map_some,Option.some.injEq] at hs;exact hs.symm
    subst hs';rw[Afu];exact h3 t o d htN rfl (by rw[← hget t htN];exact ht) hd
theorem Aci {id:Nat}{ops:List Oper}(N:Nat)(is ks0 ksw:List Nat)(sp:List Sy)(hs:List (Ux→List Ent))(hst:Rs sp)(hob:NA P n c ops.toArray Q ops sp l0 lw is hs 0 (ops.take N))(h:∀u,WL P n c ops.toArray Q (ops.drop N) (LW (λ_=>0) (ops.take N) (saY sp u) 0 l0) (hs.getD is.length (λ_=>[]) u))
  (h0:Kp ks0 l l0:=by repeat (first | exact Oi | (apply LL;rfl) | (apply M9;rfl))) (hw:Kp ksw l lw:=by repeat (first | exact Oi | (apply LL;rfl) | (apply M9;rfl))) (hm:P.follows .mixedOrders=true:=by kernel_rfl) (hB:okY n ops N is (EQ l0) (sp.map (·.deps)) (sp.map (·.lv)) (sp.map (·.fx)) (sp.map (·.old))=true:=by kernel_rfl)
  (hsp:sp.length=N:=by rfl) (hH:∀u,hs.getD 0 (λ_=>[]) u=H:=by exact λ_=>rfl):WC P n c (.region id ops.toArray true) Q l H:=Aa3 N is sp hs hm hB h0.one hw.one hsp hst hH hob h
theorem oyc {all rest:List Oper}{o:Oper}{i:Nat}(hr:∀{u H},DJ P n c opsA Q (Gn lw (Hx sp i).old (BZ all (syu sp u) (Hx sp i).deps l0)) H o ((Hx sp i).r u) H)(h:NA P n c opsA Q all sp l0 lw is hs (i+1) rest)(hne:is.findIdx? (λx=>Nat.beq x i)=none:=by rfl)(hf:(Hx sp i).fx=false:=by rfl):NA P n c opsA Q all sp l0 lw is hs i (o::rest):=by
 refine⟨?_,h⟩;unfold ObY;rw[hne];simp only[hf,AeK,Afh];exact λu _ _=>hr
def AbN (p:List Ent→Prop)(u:Ux):List (Ux→List Ent)→Prop
 | []=>True
 | f::r=>p (f u)∧AbN p u r
theorem AbN.at {p:List Ent→Prop}{u:Ux}:∀{hs:List (Ux→List Ent)},AbN p u hs→∀k,k<hs.length→p (hs.getD k (λ_=>[]) u)
 | [],_,k,h=>absurd h (Nat.not_lt_zero _)
 | f::r,⟨h1,h2⟩,0,_=>h1
 | f::r,⟨h1,h2⟩,k+1,h=>AbN.at h2 k (by simpa using h)
theorem oyf {all rest:List Oper}{o:Oper}{i:Nat}(hr:∀{u},DJ P n c opsA Q (Gn lw (Hx sp i).old (BZ all (syu sp u) (Hx sp i).deps l0)) (hs.getD (Hx sp i).lv (λ_=>[]) u) o ((Hx sp i).r u) (hs.getD (Hx sp i).lv (λ_=>[]) u))(h:NA P n c opsA Q all sp l0 lw is hs (i+1) rest)(hne:is.findIdx? (λx=>Nat.beq x i)=none:=by rfl)(hf:(Hx sp i).fx=true:=by rfl):NA P n c opsA Q all sp l0 lw is hs i (o::rest):=by
 refine⟨?_,h⟩;unfold ObY;rw[hne];simp only[hf,Afn];exact λu=>hr
theorem oyx {all rest:List Oper}{o:Oper}{i:Nat}(k:Nat)(hr:∀{u},OpY P n c opsA Q (Gn lw (Hx sp i).old (BZ all (syu sp u) (Hx sp i).deps l0)) (hs.getD k (λ_=>[]) u) o k u (Hx sp i).r (hs.getD (k+1) (λ_=>[])))(h:NA P n c opsA Q all sp l0 lw is hs (i+1) rest)(hne:is.findIdx? (λx=>Nat.beq x i)=some k:=by rfl):NA P n c opsA Q all sp l0 lw is hs i (o::rest):=by
 refine⟨?_,h⟩;unfold ObY;rw[hne];exact λu=>hr
theorem oye {all:List Oper}{i:Nat}:NA P n c opsA Q all sp l0 lw is hs i []:=trivial
end
section
variable {P : Program} {n : Nat} {c : Cx} {opsA : Array Oper} {Q : Exit → Act → World → Prop} {l : Fr} {H : List Ent} {d : Nat} {x y : Operand} {ty t e : TypeId} {pos : String} {af : Array Edge} {v : Value} {sz : Nat}
theorem Ach {k:Nat}{u:Ux}{f:FuncId}{args:List Operand}{ats:Array TypeId}{rs:List Rp}{r:Ux→Rp}{H1:Ux→List Ent}{Hin Hr:List Ent}{Φ:Rp→List Ent→Prop}(hcall:∀(as1:Array Value) (w:World),(callFunc f as1).run P w = .ok (.enter f as1) w)(hv:MT l args=some rs)
  (hp:H.Perm (Hin++Hr)) (hc:Fn P c.E f rs Hin Φ) (hΦ:∀r' H',Φ r' H'→∃u',Ag k u u'∧r'=r u'∧H'++Hr=H1 u'):OpY P n c opsA Q l H { dst:=some d,op:=.call { callee:=.value (.func f),args:=args.toArray,argTypes:=ats },type:=ty,pos:=pos,after:=af,guard:=none } k u r H1:=λa w Z K ha hw hK=>by
 refine⟨by simp[Region.wanted],?_⟩;unfold Oper.wp;rw[E9 rfl hcall w];refine(hc w Z _ (GS ha hv) (hw.perm hp).enter).mono ?_;rintro e w' ⟨r',v,H',Z',rfl,hΦ',hr,hs⟩;obtain⟨u',h1,h2,h3⟩:=hΦ r' H' hΦ';subst h2;exact hK u' v w' Z' h1 hs.le hr (h3▸(hw.perm hp).call hs)
end
end Go.Proofs.YtmjlemhondjfhaaGreatDoor.Q
namespace Go.Proofs.YtmjlemhondjfhaaGreatDoor
open Go
end Go.Proofs.YtmjlemhondjfhaaGreatDoor
namespace Go.Proofs.YtmjlemhondjfhaaGreatDoor.Q
open Go Go.RowKit
set_option linter.unusedVariables false
section
variable {P : Program} {n : Nat} {c : Cx} {ops : Array Oper} {Q : Exit → Act → World → Prop} {rest : List Oper} {l : Fr} {H : List Ent} {d : Nat} {d' : Option Nat} {t kt et ty : TypeId} {pos : String} {af : Array Edge} {g : Option (Nat × Bool)} {x y u : Operand} {b i : Nat} {T : Type} {enc : T → Rp} {xs : List (Int × T)} {z : T} {zv : Value}
theorem SA.push {Z:Fz}{k:Int}{r:Rp}{v:Value}(hv:r.p Z v)(ck:Nat):∀{m:List (Int×Rp)} {es:List MapEntry},SA Z m es→SA Z (m++[(k,r)]) (es++[⟨.int .i64 k,v,ck⟩])
 | [],[],_=>⟨⟨rfl,hv⟩,trivial⟩
 | p::m,e::es,⟨h1,h2⟩=>⟨h1,h2.push hv ck⟩
end
set_option linter.unusedSimpArgs false
def Yn (k:Nat)(i:Int)(off:Nat)(Z:Fz)(v:Value):Prop:=if i<0 then v = .pointer none else ∃b,Z.nm k i.toNat=some b∧v = .pointer (some ⟨b,off,none⟩)
def rPt (k:Nat)(i:Int)(off:Nat):Rp:=⟨Yn k i off,fun {Z Z' v} h hp=>by
 unfold Yn at *
 split
 ·rename_i h0;rwa [Af6 h0] at hp
 ·rename_i h0;rw[Afz h0] at hp;obtain⟨b,h1,h2⟩:=hp;exact⟨b,h.nm k _ b h1,h2⟩,true,λ_ Z v hp=>by
 change Yn k i off Z v at hp
 unfold Yn at hp
 split at hp
 ·rw[hp];rfl
 ·obtain⟨b,_,h2⟩:=hp;rw[h2];rfl⟩
@[reducible] def mP (k:Nat) (i:Int):Rp:=rPt k i 0
theorem Aer (k:Nat)(Z:Fz):(mP k (-1)).p Z (.pointer none):=rfl
theorem HS.pnil (k:Nat):HS (rv (.pointer none)) (rPt k (-1) 0):=λZ v h=>h
section
variable {P : Program} {n : Nat} {c : Cx} {ops : Array Oper} {Q : Exit → Act → World → Prop} {rest : List Oper} {l : Fr} {H H' : List Ent} {d : Nat} {d' : Option Nat} {x y : Operand} {ty t t' e : TypeId} {pos : String} {af : Array Edge} {g : Option (Nat × Bool)} {v u : Value} {r : Rp} {sz k : Nat} {pv : Value} {α : Type} [Inhabited α] {xs : List α} {enc : α → List Rp}
theorem Dg.re {a:Act}{Z:Fz}{d:Nat}{q r:Rp}(h:Dg n l a Z)(hl:look l d=some q)(hq:∀v,q.p Z v→r.p Z v):Dg n ((d,r)::l) a Z:=⟨h.size,h.defers,λi u hi=>by
 rw[Cw] at hi
 split at hi
 ·rename_i e;subst e;simp at hi;subst hi
  obtain⟨v,h1,h2⟩:=h.tm d q hl;exact⟨v,h1,hq v h2⟩
 ·exact h.tm i u hi⟩
theorem Yn.of {Z:Fz}{b N:Nat}(h:Z.nm k N=some b):∀v,(rv (.pointer (some ⟨b,0,none⟩))).p Z v→(rPt k (N:Int) 0).p Z v:=λv hv=>by
 show Yn k N 0 Z v;unfold Yn;rw[Afz (by omega)];exact⟨b,by simpa using h,hv⟩
def Qa (l:Fr)(b:Nat):List Nat→Prop
 | []=>True
 | d::ds=>look l d=some (rv (.pointer (some ⟨b,0,none⟩)))∧Qa l b ds
def asP (k N:Nat):List Nat→Fr→Fr
 | [],l=>l
 | d::ds,l=>(d,rPt k (N:Int) 0)::asP k N ds l
theorem VC {Z:Fz}{a:Act}{b N:Nat}{l:Fr}(ha:Dg n l a Z)(hn:Z.nm k N=some b):∀{ds:List Nat},Qa l b ds→Dg n (asP k N ds l) a Z
 | [],_=>ha
 | d::ds,⟨h1,h2⟩=>by
  have h3:=VC ha hn h2;refine⟨h3.size,h3.defers,λi u hi=>?_⟩;rw[asP,Cw] at hi
  split at hi
  ·rename_i e;subst e;simp at hi;subst hi
   obtain⟨v,h4,h5⟩:=ha.tm d _ h1;exact⟨v,h4,Yn.of hn v h5⟩
  ·exact h3.tm i u hi
end
def MpZ (m:List (List UInt8×Rp))(Z:Fz)(v:Value):Prop:=(v = .map none∧m=[])∨∃b es ck,v = .map (some b)∧Z b=some (.map es ck)∧GY Z m es.toList ck
def rMz (m:List (List UInt8×Rp)):Rp:=⟨MpZ m,λh h0=>h0.imp id λ⟨b,es,ck,h1,h2,h3⟩=>⟨b,es,ck,h1,h.f b _ h2,h3.mono h⟩,true,λ_ Z v h0=>by rcases h0 with⟨h1,_⟩ | ⟨b,es,ck,h1,_⟩<;>(rw[h1];rfl)⟩
section
variable {P : Program} {n : Nat} {c : Cx} {ops opsA : Array Oper} {Q : Exit → Act → World → Prop} {rest : List Oper} {l : Fr} {H : List Ent} {d : Nat} {d' : Option Nat} {ty t kt et rty : TypeId} {pos : String} {af : Array Edge} {g : Option (Nat × Bool)} {x y u : Operand} {K : Act → World → Prop} {cx : Code} {r : Rp}
variable {T : Type} {enc : T → Rp} {xs : List (Ai × T)} {z : T} {k : Ai} {zv : Value} {i b : Nat}
theorem MpZ.heap {Z:Fz}{w:World}(hf:WT Z w){m:List (List UInt8×Rp)}{v:Value}(h:(rMz m).p Z v):(v = .map none∧m=[])∨∃b,v = .map (some b)∧(Ent.map b m).holds Z w:=by
 rcases h with h | ⟨b,es,ck,h1,h2,h3⟩
 ·exact .inl h
 ·exact .inr ⟨b,h1,es,ck,hf b _ h2,h3⟩
end
def fnv:Nat→Value
 | 0=>.nilFunc
 | k+1=>.func (.func (k+1)) #[] #[]
def SB (k:Nat):Rp:=⟨λ_ v=>v=fnv k,λ_ h=>h,true,λ_ Z v h=>by rw[h];cases k<;>rfl⟩
@[reducible] def LV (k:Nat):List Rp:=[SB k]
theorem H0 (k:Nat):(LV k).length=1:=rfl
def Lq {α:Type}(t:TypeId)(f:α→Rp):Option α→Rp
 | none=>rv .nilIface
 | some a=>DE t (f a)
def Ad7:TypeDesc→Bool
 | .interface _=>false
 | _=>true
section
variable {P : Program} {n : Nat} {c : Cx} {ops opsA : Array Oper} {Q : Exit → Act → World → Prop} {rest : List Oper} {l : Fr} {H Hr : List Ent} {d : Nat} {d' : Option Nat} {ty t kt et rty : TypeId} {pos : String} {af : Array Edge} {g : Option (Nat × Bool)} {x y : Operand} {r q : Rp}
theorem Ad3 {k:Nat}(hu:∃a b e,P.underlying t=some (.func a b e))(hx:ev l x=some (SB k)):B4 P n c l H { dst:=d',op:=.binOp .neq t x (.const .nilFunc) rty,type:=ty,pos:=pos,after:=af,guard:=g } (rB (!decide (k=0))):=λa w Z ha hw=>by
 obtain⟨a1,a2,a3,hu⟩:=hu;have h:a.eval x=fnv k:=ha.ev hx;have hy:a.eval (.const .nilFunc) = .nilFunc:=rfl;refine⟨_,rfl,?_⟩
 cases k with
 | zero=>
  have h1:∀dd:Nat,(Op.equalIn (dd+1) t .nilFunc .nilFunc).run P w = .ok true w:=λdd=>by simp[Op.equalIn,run_underlying hu]
  have h2:(Op.equal t .nilFunc .nilFunc).run P w = .ok true w:=h1 9999;simp[execOp,h,hy,fnv,eqGuard,binOp,h2]
 | succ k=>
  have h1:∀dd:Nat,(Op.equalIn (dd+1) t (.func (.func (k+1)) #[] #[]) .nilFunc).run P w = .ok false w:=λdd=>by simp[Op.equalIn,run_underlying hu]
  have h2:(Op.equal t (.func (.func (k+1)) #[] #[]) .nilFunc).run P w = .ok false w:=h1 9999;simp[execOp,h,hy,fnv,eqGuard,binOp,h2]
theorem HD {u:TypeDesc}(hu:P.underlying t=some u)(hni:Ad7 u=true)(hx:ev l x=some r):B4 P n c l H { dst:=d',op:=.makeInterface t x,type:=ty,pos:=pos,after:=af,guard:=g } (DE t r):=λa w Z ha hw=>⟨.iface t (a.eval x),⟨_,rfl,ha.ev hx⟩,by
 cases u<;>first | (cases hni;done) | simp[execOp,Instr.makeInterface,run_underlying hu]⟩
theorem Up.ifo {α:Type}{f:α→Rp}{a:α}(h:Up H r (f a)):Up H (DE t r) (Lq t f (some a)):=λc Z w v hw ⟨u,e,hu⟩=>⟨u,e,h c Z w u hw hu⟩
theorem Wp {α:Type}{f:α→Rp}{o:Option α}(hu:∃ms,P.underlying kt=some (.interface ms))(hx:ev l x=some (Lq t f o)):B4 P n c l H { dst:=d',op:=.binOp .eql kt x (.const .nilIface) rty,type:=ty,pos:=pos,after:=af,guard:=g } (rB o.isNone):=λa w Z ha hw=>by
 obtain⟨ms,hu⟩:=hu;have h:=ha.ev hx;have hy:a.eval (.const .nilIface) = .nilIface:=rfl;refine⟨_,rfl,?_⟩
 cases o with
 | none=>
  have h:a.eval x = .nilIface:=h;have h1:∀dd:Nat,(Op.equalIn (dd+1) kt .nilIface .nilIface).run P w = .ok true w:=λdd=>by simp[Op.equalIn,run_underlying hu]
  have h2:(Op.equal kt .nilIface .nilIface).run P w = .ok true w:=h1 9999;have h3:(eqGuard .eql kt x (.const .nilIface) .nilIface .nilIface).run P w = .ok () w:=by unfold eqGuard;simp
  simp[execOp,h,hy,h3,binOp,h2]
 | some b=>
  obtain⟨u,e,_⟩:=h;have h1:∀dd:Nat,(Op.equalIn (dd+1) kt (.iface t u) .nilIface).run P w = .ok false w:=λdd=>by simp[Op.equalIn,run_underlying hu]
  have h2:(Op.equal kt (.iface t u) .nilIface).run P w = .ok false w:=h1 9999;have h3:(eqGuard .eql kt x (.const .nilIface) (.iface t u) .nilIface).run P w = .ok () w:=by unfold eqGuard;simp
  simp[execOp,e,hy,h3,binOp,h2]
theorem Xu {α:Type}{f:α→Rp}{o:Option α}{d0:α}(h:o.isSome=true):HS (Lq t f o) (DE t (f (Option.getD o d0))):=λZ v hv=>by
 cases o with
 | none=>cases h
 | some b=>exact hv
theorem VY {f:FuncId}{name:String}{args:List Operand}{ats:Array TypeId}{o:Oper}{a:Act}{u:Value}(ho:o.op = .call { callee:=.invoke x name,args:=args.toArray,argTypes:=ats })(hx:a.eval x = .iface t u)
  (hm:∀v w,(method (P.types.size+Made.depth) t v name).run P w = .ok (f,v) w) (hcall:∀(as1:Array Value) (w:World),(callFunc f as1).run P w = .ok (.enter f as1) w) (w:World):(execOp a.eval o).run P w = .ok (.enter f (u::args.map a.eval).toArray) w:=by
 have h2:=hm u w;simp only[execOp,ho,resolve,hx];simp[invoke,callMethod,h2,hcall,List.take_of_length_le]
theorem RM {f:FuncId}{name:String}{args:List Operand}{ats:Array TypeId}{rs:List Rp}{Hin Hr:List Ent}(hm:∀v w,(method (P.types.size+Made.depth) t v name).run P w = .ok (f,v) w)(hcall:∀(as1:Array Value) (w:World),(callFunc f as1).run P w = .ok (.enter f as1) w)
  (hx:ev l x=some (DE t q)) (hp:H.Perm (Hin++Hr)) (hc:Fn P c.E f (q::rs) Hin (λr' H'=>r'=r∧H'=Hin)) (hv:MT l args=some rs) :
  DJ P n c opsA Q l H { dst:=some d,op:=.call { callee:=.invoke x name,args:=args.toArray,argTypes:=ats },type:=ty,pos:=pos,after:=af,guard:=none } r H:=λa w Z K ha hw hK=>
 ⟨λ_=>by
  obtain⟨u,e,hu⟩:=ha.ev hx;unfold Oper.wp;rw[VY rfl e hm hcall w];have hw2:=hw.perm hp;refine(hc w Z (u::args.map a.eval) ⟨hu,GS ha hv⟩ hw2.enter).mono ?_;rintro e w' ⟨r2,v,Ho,Z',rfl,⟨rfl,rfl⟩,hr2,hs⟩;exact hK v w' Z' hs.le hr2 ((hw2.call hs).perm hp.symm),λh=>by simp[Region.wanted] at h⟩
theorem O3 {α:Type}{ff:α→Rp}{o:Option α}{d0:α}{f:FuncId}{name:String}{args:List Operand}{ats:Array TypeId}{rs:List Rp}(hm:∀v w,(method (P.types.size+Made.depth) t v name).run P w = .ok (f,v) w)(hcall:∀(as1:Array Value) (w:World),(callFunc f as1).run P w = .ok (.enter f as1) w)
  (hx:ev l x=some (Lq t ff o)) (hs:o.isSome=true) (hc:KL P c.E f (ff (Option.getD o d0)::rs) r) (hv:MT l args=some rs) :
  DJ P n c opsA Q l H { dst:=some d,op:=.call { callee:=.invoke x name,args:=args.toArray,argTypes:=ats },type:=ty,pos:=pos,after:=af,guard:=none } r H:=λa w Z K ha hw hK=>
 ⟨λ_=>by
  obtain⟨u,e,hu⟩:=Xu (d0:=d0) hs Z _ (ha.ev hx);unfold Oper.wp;rw[VY rfl e hm hcall w];refine(hc w Z (u::args.map a.eval) ⟨hu,GS ha hv⟩ (St.enter (Hin:=[]) (Hr:=H) hw)).mono ?_;rintro e w' ⟨r2,v,Ho,Z',rfl,⟨rfl,rfl⟩,hr2,hs⟩;exact hK v w' Z' hs.le hr2 (by simpa using hw.call0 hs),λh=>by simp[Region.wanted] at h⟩
theorem Aef {k:Nat}{args:List Operand}{ats:Array TypeId}{rs:List Rp}(hk:(!decide (k=0))=true)(hc:(∀(as1:Array Value) (w:World),(callFunc k as1).run P w = .ok (.enter k as1) w)∧KL P c.E k rs r)(hx:ev l x=some (SB k))(hv:MT l args=some rs)(h:WL P n c ops Q rest ((d,r)::l) H)(hn:Nat.blt d n=true:=by rfl) :
  WL P n c ops Q ({ dst:=some d,op:=.call { callee:=.value x,args:=args.toArray,argTypes:=ats },type:=ty,pos:=pos,after:=af,guard:=none }::rest) l H:=by
 cases k with
 | zero=>cases hk
 | succ k=>
  have hk':(if k+1=0 then Value.nilFunc else .func (.func (k+1)) #[] #[]) = .func (.func (k+1)) #[] #[]:=by simp
  exact Hw (caps:=[]) (Hin:=[]) (Hr:=H) hc.1 (show ev l x=some (rv (.func (.func (k+1)) #[] ([]:List Value).toArray)) from hx) hv (Afd _) (by simpa using hc.2) hn (by rintro _ _ ⟨rfl,rfl⟩;exact h)
theorem Aa6 {α:Type}{enc:α→List Rp}{inf:TypeInfo}{z:Value}{zα:α}{rz:Rp}{kl kc:IntKind}{m:Int}{bytes:Nat}{e:TypeId}(ht:P.underlying t=some (.slice e))(hinf:P.info? e=some inf)(hz:inf.zero=some z)(hsize:inf.size=1)(hby:inf.bytes=bytes)(hbp:Nat.blt 0 bytes=true)
  (hzc:z.cells = #[z]) (henc:enc zα=[rz]) (hrz:∀Z,rz.p Z z)
  (hx:ev l x=some (rI kl m)) (hy:ev l y=some (rI kc m)) (hg:Eh bytes m.toNat=true) (hg0:decide (0≤m)=true) (hn:Nat.blt d n=true)
  (h:∀v',WL P n c ops Q rest ((d,rv v')::l) (.row v' e 1 ((List.replicate m.toNat zα).map enc)::H)) :
  WL P n c ops Q ({ dst:=some d,op:=.makeSlice t x y,type:=ty,pos:=pos,after:=af,guard:=none }::rest) l H:=by
 have em:((m.toNat:Nat):Int)=m:=Int.toNat_of_nonneg (Afy hg0);exact Acl (m:=m.toNat) ht hinf hz hsize hby hbp hzc henc hrz (by rw[em];exact hx) (by rw[em];exact hy) hg hn h
theorem Qt {r:Rp}(hx:ev l x=some (DE t r)):B4 P n c l H { dst:=d',op:=.nilCheck x,type:=ty,pos:=pos,after:=af,guard:=g } (DE t r):=λa w Z ha hw=>by
 have h:=ha.ev hx;obtain⟨u,e1,hu⟩:=h;exact⟨a.eval x,⟨u,e1,hu⟩,by simp[execOp,e1]⟩
theorem AaB (s:List UInt8)(i:Nat){c:List Rp}(h:((GJ s).map Cn)[i]? =some c):∃u,s[i]? =some u∧c=[rI .u8 (u.toNat:Int)]:=by
 simp only[GJ,AfC,Afr,Option.map_eq_some_iff] at h;obtain⟨u,h1,h2⟩:=h;exact⟨u,h1,h2.symm⟩
theorem St.s2b {Z:Fz}{w:World}(hw:St c H Z w)(s:List UInt8)(e:TypeId)(cap:Nat)(h1:s.length≤cap)(h2:cap≤maxLen)(mk:Nat×Nat) :
  ∃Z',Fz.le Z Z'∧St c H Z' (w.drew.alloc (.cells (bytesRow (B s) cap) e mk))∧(AO 1 ((GJ s).map Cn)).p Z' (.slice (some ⟨w.heap.size,0,none⟩) s.length cap):=by
 let o:Obj:=.cells (bytesRow (B s) cap) e mk
 let w':World:=w.drew.alloc o
 let Z':Fz:=⟨λb=>if b=w.heap.size then some o else Z b,Z.nm⟩
 have hs:St c H Z w':=(hw.add (w':=w') (e':=.fact (.bool true) (rv (.bool true))) rfl rfl rfl (by show w.heap.size≤(w.heap.push o).size;simp) (λk hk=>Below.heap_alloc w.drew o k hk) rfl (by simp[Ent.foot])).sub (List.sublist_cons_self _ _);have ho:w'.heap[w.heap.size]? =some o:=by show(w.heap.push o)[w.heap.size]? =some o;simp
 have hgz:Z w.heap.size=none:=by
  cases hz:Z w.heap.size with
  | none=>rfl
  | some q=>have:=hw.frz.lt hz;omega
 have hle:Fz.le Z Z':=⟨λb q hb=>by
  have:b≠w.heap.size:=λe=>by subst e;rw[hgz] at hb;cases hb
  simpa[Z',this] using hb,λ_ _ _ h=>h⟩
 refine⟨Z',hle,?_,?_⟩
 ·refine { hs with has:=λen he=>Ent.keep (hs.has en he) hle λ_ _=>rfl,frz:=⟨λb q hb=>?_,hs.frz.nm⟩,gst:=hs.gst.names rfl,le:=hs.le.trans hle,new:=λb q hb=>?_,zdis:=λen he k hk=>?_,env:=hs.emono hle hs.env }
  ·by_cases hbg:b=w.heap.size
   ·subst hbg;simp[Z'] at hb;rw[← hb];exact ho
   ·simp[Z',hbg] at hb;exact hs.frz b q hb
  ·by_cases hbg:b=w.heap.size
   ·subst hbg;exact .inr (.inl hw.size)
   ·simp[Z',hbg] at hb;exact hs.new b q hb
  ·have:=hw.mem_lt he hk;have hkg:k≠w.heap.size:=by omega
   simp only[Z',hkg,Afh];exact hs.zdis en he k hk
 ·refine⟨some ⟨w.heap.size,0,none⟩,cap,by simp[GJ],by simpa[GJ] using h1,h2,(λh=>by cases h),λi cl hi=>?_⟩;obtain⟨u,hu,rfl⟩:=AaB s i hi;refine⟨rfl,⟨w.heap.size,0,none⟩,rfl,rfl,λj r hj=>?_⟩
  cases j with
  | succ j=>simp at hj
  | zero=>
   simp at hj;subst hj;refine⟨.int .u8 (u.toNat:Int),?_,rfl⟩;have hi':i<s.length:=(List.getElem?_eq_some_iff.1 hu).1;have he:s[i]=u:=(List.getElem?_eq_some_iff.1 hu).2;simp only[IS,Z',Afn,o,bytesRow,B];rw[Array.getElem?_append_left (by simpa using hi')];simp[hi',he]
theorem Adm {s:List UInt8}{e t':TypeId}(hs:P.underlying t=some .string)(hd:P.underlying t'=some (.slice e))(he:P.underlying e=some (.int .u8))(hx:ev l x=some (rS s))(hg:Eh 1 s.length=true)(hn:Nat.blt d n=true)
  (h:WL P n c ops Q rest ((d,AO 1 ((GJ s).map Cn))::l) H) :
  WL P n c ops Q ({ dst:=some d,op:=.convert t t' x,type:=ty,pos:=pos,after:=af,guard:=none }::rest) l H:=
 J2 (λa w Z ha hw=>by
  have hb:s.length≤140737488355328:=by simpa[Eh] using hg
  have e1:=run_bytes_of_string (P:=P) w t t' e (B s) hs hd he;have hsz:(B s).size=s.length:=rfl;rw[hsz] at e1;obtain⟨Z',hz,h1,h2⟩:=St.s2b hw s e (grownCap w s.length 0 e) (grownCap_ge w s.length 0 e) (grownCap_le_maxLen w s.length 0 e (by have:maxLen=9223372036854775807:=rfl;omega)) ((bytesRow (B s) (grownCap w s.length 0 e)).size,(bytesRow (B s) (grownCap w s.length 0 e)).size+1);exact⟨_,_,_,_,Z',by simp[execOp,ha.eval hx,e1],hz,h2,h1,h⟩) hn
end
end Go.Proofs.YtmjlemhondjfhaaGreatDoor.Q
