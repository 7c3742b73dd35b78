/-
  Texts of the proof, put together: WHd, ShelfS, FwI, PHe, Qy, Qd, Qi, IdS, Qs, WHe, PHf, WHf, PHg, WHg, OkHostAllows, LvA, LvB, LvC, LvD, LvE, LvF, LvG.
-/
import Derived.Test.YtmjlemhondjfhaaGreatDoorHA4
import Derived.Shelf.Sort.Plain
import Derived.Shelf.Slices.CompactS
import Derived.Shelf.Slices.Clone
import Derived.Shelf.Slices.Turned
import Derived.Shelf.Slices.In.SortNone
import Derived.Test.YtmjlemhondjfhaaGreatDoorProg
import Derived.Sort.OwnSorted
import Derived.Lib.OwnBridge
import Derived.Lib.RowBridge
import Derived.LoopN
import GoSem.ClaimData
namespace Go.Proofs.YtmjlemhondjfhaaGreatDoor.Q
open Go Go.RowKit
set_option linter.unusedVariables false
set_option linter.unusedSimpArgs false
set_option maxRecDepth 100000
set_option maxHeartbeats 4000000
@[reducible] def AP (x:Bo):List Rp:=[A4 x.fKind,rS x.fKey,AO 4 (A8 Ae x.fValue),A4 x.fDelay]
theorem Gx (x:Bo):(AP x).length=4:=rfl
theorem JY (x:Bo):(AP x).all (·.one)=true:=rfl
@[reducible] def CV (x:Em):List Rp:=[A4 x.fErr,AO 4 (A8 Ae x.fValue)]
theorem K3 (v : Value) (w : World) : (method (Tryz.prog.types.size + Made.depth) 139 v "faas/host.count").run Tryz.prog w = .ok (266, v) w := by kernel_rfl
theorem TJ (v : Value) (w : World) : (method (Tryz.prog.types.size + Made.depth) 139 v "faas/host.right").run Tryz.prog w = .ok (267, v) w := by kernel_rfl
theorem WH (parts:List (Nat×Value)):Tryz.prog.built 52 parts=Instr.fill (λi=>(#[(0,1),(1,1)]:Array (Nat×Nat))[i]?) #[(.int .i64 0),((.slice none 0 0))] parts:=by kernel_rfl
theorem TA {n:Nat}{c:Cx}{l:Fr}{H:List Ent}{d:Option Nat}{ty:TypeId}{pos:String}{af:Array Edge}{g:Option (Nat×Bool)}{x0:Operand}{r0:Rp}(h0:ev l x0=some r0)(u0:r0.one=true):B4 Tryz.prog n c l H { dst:=d,op:=.build 52 #[(0,x0)],type:=ty,pos:=pos,after:=af,guard:=g } (B9 [r0,rv (.slice none 0 0)]):=λa w Z ha _=>by
  have p0:=ha.ev h0;have c0:=B1 (r0.hone u0 Z _ p0);have hb:Tryz.prog.built 52 [(0,a.eval x0)]=some #[a.eval x0,((.slice none 0 0))]:=by
    rw[WH];generalize a.eval x0=v0 at *;simp[Instr.fill,c0]
  refine⟨.agg #[a.eval x0,((.slice none 0 0))],⟨[a.eval x0,((.slice none 0 0))],rfl,p0,rfl,trivial⟩,?_⟩;have:=run_build w 52 #[(0,a.eval x0)] _ (by simpa using hb);simp[execOp,this]
theorem T9 {n:Nat}{c:Cx}{l:Fr}{H:List Ent}{d:Option Nat}{ty:TypeId}{pos:String}{af:Array Edge}{g:Option (Nat×Bool)}{x1:Operand}{r1:Rp}(h1:ev l x1=some r1)(u1:r1.one=true):B4 Tryz.prog n c l H { dst:=d,op:=.build 52 #[(1,x1)],type:=ty,pos:=pos,after:=af,guard:=g } (B9 [A4 0,r1]):=λa w Z ha _=>by
  have p1:=ha.ev h1;have c1:=B1 (r1.hone u1 Z _ p1);have hb:Tryz.prog.built 52 [(1,a.eval x1)]=some #[(.int .i64 0),a.eval x1]:=by
    rw[WH];generalize a.eval x1=v1 at *;simp[Instr.fill,c1]
  refine⟨.agg #[(.int .i64 0),a.eval x1],⟨[(.int .i64 0),a.eval x1],rfl,rfl,p1,trivial⟩,?_⟩;have:=run_build w 52 #[(1,a.eval x1)] _ (by simpa using hb);simp[execOp,this]
theorem Iw (v:(List Ac))(r:Ai×Bool)(h:Lu v=some r):Fn Tryz.prog GE 37 [AO 4 (A8 Ae v)] [] (λR H=>R=Dy [rS r.1,rB r.2]∧H=[]):=by
 refine enter (n:=13) Tryz.func37 Aa Tryz.ntmps37 Aa (λw Z=>?_);unfold Lu at h;refine Ad (wv (r:=rS ([]:Ai)) (A0 Aa) (wa Aa (Ao (Ak (ck h λg1 h2=>Du [0] ?_)))));refine rq (Am Aa) (rq (Bk (enc:=Ae) (ys:=v) CL CJ Aa Aa g1) (rq (Bs BD Aa CE Aa Aa) (rq (Bb Dp Aa Aa) (rq (Am Aa) (rq (Bk (enc:=Ae) (ys:=v) CL CJ Aa Aa g1) (rq (Bs BD Aa DU Aa Aa) (rq (Bb DV Aa Aa) (rq (B7 Aa Aa) (rq (A0 Aa) (rq (A0 Aa) (re [2,3] ?_)))))))))));refine AE (Ap ?_);obtain rfl:=Au h2;exact Aq (HW Tryz.results37 (AD Aa) (AD Aa)) sN ⟨Aa,Aa⟩
theorem AcP (v:(List Ac))(r:Bool)(h:ZK v=some r):Fn Tryz.prog GE 88 [AO 4 (A8 Ae v)] [] (λR H=>R=rB r∧H=[]):=by
 refine enter (n:=15) Tryz.func88 Aa Tryz.ntmps88 Aa (λw Z=>?_);unfold ZK at h;refine Ad (wa Aa (Bp (wm Aa (ob h λr1 e3 h2=>BP OM (Iw v r1 e3) Aa (wm Aa (wv (A7 Aa Aa) (wv (A7 Aa Aa) (wa Aa (wa Aa (Ao (A5 [(2,rB (r1.2&&(Jq r1.1)))] [] ?_ ?_)))))))))))
 ·refine Af (wm Aa (wm Aa (AA (r1.2) (λc4=>?_) (λc4=>?_))))
  ·refine wo c4 (wm Aa (wo c4 (Ck (rs:=[rS r1.1]) (r:=rB (Jq r1.1)) Tryz.call115 Aa (Aby r1.1) Aa Aa (E0 Aa c4 Aa (wa Aa (Ah ?_))))));exact BH c4
  refine wf c4 (wf c4 (wv (r:=rB false) (Ay Aa c4 Aa) (wa Aa (Ah ?_))));exact BH c4
 refine Ap ?_;obtain rfl:=Au h2;exact Aq (B2 Tryz.results88 (AD Aa)) sN ⟨Aa,Aa⟩
theorem Ab2 (v:(List Ac))(r:Bool)(h:Uf v=some r):Fn Tryz.prog GE 89 [AO 4 (A8 Ae v)] [] (λR H=>R=rB r∧H=[]):=by
 refine enter (n:=15) Tryz.func89 Aa Tryz.ntmps89 Aa (λw Z=>?_);unfold Uf at h;refine Ad (wa Aa (Bp (wm Aa (ob h λr1 e3 h2=>BP OM (Iw v r1 e3) Aa (wm Aa (wv (A7 Aa Aa) (wv (A7 Aa Aa) (wa Aa (wa Aa (Ao (A5 [(2,rB (r1.2&&(Cv r1.1)))] [] ?_ ?_)))))))))))
 ·refine Af (wm Aa (wm Aa (AA (r1.2) (λc4=>?_) (λc4=>?_))))
  ·refine wo c4 (wm Aa (wo c4 (Ck (rs:=[rS r1.1]) (r:=rB (Cv r1.1)) Yu Aa (P6 r1.1) Aa Aa (E0 Aa c4 Aa (wa Aa (Ah ?_))))));exact BH c4
  refine wf c4 (wf c4 (wv (r:=rB false) (Ay Aa c4 Aa) (wa Aa (Ah ?_))));exact BH c4
 refine Ap ?_;obtain rfl:=Au h2;exact Aq (B2 Tryz.results89 (AD Aa)) sN ⟨Aa,Aa⟩
theorem PI (n:Int)(r:Bool)(h:GR n=some r):Fn Tryz.prog GE 87 [A4 n] [] (λR H=>R=rB r∧H=[]):=by
 refine enter (n:=9) Tryz.func87 Aa Tryz.ntmps87 Aa (λw Z=>?_);unfold GR at h;refine Ad (wa Aa (Ao (A5 [(2,rB ((decide (0≤n))&&(decide (n≤1073741824))))] [] ?_ ?_)))
 ·refine Af (wm Aa (wv (DP Aa Aa) (wm Aa (AA (decide (0≤n)) (λc1=>?_) (λc1=>?_)))))
  ·refine wo c1 (wm Aa (wo c1 (wv (Hf Aa Aa) (E0 Aa c1 Aa (wa Aa (Ah ?_))))));exact BH c1
  refine wf c1 (wf c1 (wv (r:=rB false) (Ay Aa c1 Aa) (wa Aa (Ah ?_))));exact BH c1
 refine Ap ?_;obtain rfl:=Au h;exact Aq (B2 Tryz.results87 (AD Aa)) sN ⟨Aa,Aa⟩
theorem ZM (v:(List Ac))(r:Bool)(h:PK v=some r):Fn Tryz.prog GE 90 [AO 4 (A8 Ae v)] [] (λR H=>R=rB r∧H=[]):=by
 refine enter (n:=15) Tryz.func90 Aa Tryz.ntmps90 Aa (λw Z=>?_);unfold PK at h;refine Ad (wa Aa (Ao (ck h λg1 h2=>ck h2 λg3 h4=>A5 [(2,rB ((decide (((Ax v 0).fKind)=3))&&(ov (GR ((Ax v 0).fInt)))))] [] ?_ ?_)))
 ·refine Af (wm Aa (wv (Bk (enc:=Ae) (ys:=v) CL CJ Aa Aa g1) (wv (Bs BD Aa DU Aa Aa) (wv (Bb DV Aa Aa) (wv (B7 Aa Aa) (wm Aa (AA (decide (((Ax v 0).fKind)=3)) (λc5=>?_) (λc5=>?_))))))))
  ·refine wo c5 (wm Aa (wo c5 (wv (Bk (enc:=Ae) (ys:=v) CL CJ Aa Aa g1) (wo c5 (wv (Bs BD Aa CK Aa Aa) (wo c5 (wv (Bb Df Aa Aa) (wo c5 (BP Tryz.call87 (PI ((Ax v 0).fInt) (ov (GR ((Ax v 0).fInt))) (Cr (BF g3 c5))) Aa (E0 Aa c5 Aa (wa Aa (Ah ?_))))))))))));exact BH c5
  refine wf c5 (wf c5 (wf c5 (wf c5 (wf c5 (wv (r:=rB false) (Ay Aa c5 Aa) (wa Aa (Ah ?_)))))));exact BH c5
 refine Ap ?_;obtain rfl:=Au h4;exact Aq (B2 Tryz.results90 (AD Aa)) sN ⟨Aa,Aa⟩
theorem Sm (v:(List Ac))(r:Bool)(h:Iy v=some r):Fn Tryz.prog GE 91 [AO 4 (A8 Ae v)] [] (λR H=>R=rB r∧H=[]):=by
 refine enter (n:=20) Tryz.func91 Aa Tryz.ntmps91 Aa (λw Z=>?_);unfold Iy at h;refine Ad (wa Aa (Ao (ck h λg1 h2=>ck h2 λg3 h4=>A5 [(2,rB ((decide (1<(v.length:Int)))&&((decide (((Ax v 0).fKind)=5))&&(decide (((Ax v 1).fKind)=4)))))] [] ?_ ?_)))
 ·refine Af (wm Aa (wv (Bj (ys:=v) (enc:=Ae) CL Aa) (wv (Dc Aa Aa) (wm Aa (AA (decide (1<(v.length:Int))) (λc5=>?_) (λc5=>?_))))))
  ·refine wo c5 (wm Aa (wo c5 (wv (Bk (enc:=Ae) (ys:=v) CL CJ Aa Aa (BF g1 c5)) (wo c5 (wv (Bs BD Aa DU Aa Aa) (wo c5 (wv (Bb DV Aa Aa) (wo c5 (wv (B7 Aa Aa) (E0 Aa c5 Aa (wm Aa (AA (decide (((Ax v 0).fKind)=5)) (λc6=>?_) (λc6=>?_)))))))))))))
   ·refine wo c6 (wm Aa (wo c6 (wv (Bk (enc:=Ae) (ys:=v) CL CJ Aa Aa (BF (BF g3 c5) c6)) (wo c6 (wv (Bs BD Aa DU Aa Aa) (wo c6 (wv (Bb DV Aa Aa) (wo c6 (wv (B7 Aa Aa) (E0 Aa c6 Aa (wa Aa (Ah ?_))))))))))));exact BH (And.intro c5 c6)
   refine wf c6 (wf c6 (wf c6 (wf c6 (wf c6 (wv (r:=rB false) (Ay Aa c6 Aa) (wa Aa (Ah ?_)))))));exact BH (And.intro c5 c6)
  refine wf c5 (wf c5 (wf c5 (wf c5 (wf c5 (wv (r:=rB false) (Ay Aa c5 Aa) (wm Aa (wz Aa Aa (wz Aa Aa (wz Aa Aa (wz Aa Aa (wz Aa Aa (wv (r:=rB false) (Ay (b:=false) Aa Aa Aa) (wa Aa (Ah ?_))))))))))))));exact BH c5
 refine Ap ?_;obtain rfl:=Au h4;exact Aq (B2 Tryz.results91 (AD Aa)) sN ⟨Aa,Aa⟩
theorem KE (F:Nat)(v:(List Ac))(r:Int×Int×Bool)(h:Gg F v=some r):Fn Tryz.prog GE 38 [AO 4 (A8 Ae v)] [] (λR H=>R=Dy [A4 r.1,A4 r.2.1,rB r.2.2]∧H=[]):=by
 refine enter (n:=57) Tryz.func38 Aa Tryz.ntmps38 Aa (λw Z=>?_);unfold Gg at h;refine Ad (wa Aa (wa Aa (wa Aa (Bp (wm Aa (ob h λr1 e3 h2=>BP OM (Iw v r1 e3) Aa (wm Aa (wv (A7 Aa Aa) (wv (A7 Aa Aa) (wa Aa (wa Aa (Bp (wm Aa (ob h2 λr4 e6 h5=>BP Tryz.call96 (Acw r1.1 r4 e6) Aa (wm Aa (wv (A7 Aa Aa) (wv (A7 Aa Aa) (wv (A7 Aa Aa) (wa Aa (wa Aa (wa Aa ?_)))))))))))))))))))));refine Bp (wm Aa (ob h5 λr7 e9 h8=>BP Tryz.call97 (TF F r4.1 r7 e9) Aa (wm Aa (wv (A7 Aa Aa) (wv (A7 Aa Aa) (wa Aa (wa Aa (Bp (wm Aa (ck h8 λhg hh=>Ck (rs:=[rS r4.2.1]) (r:=Dy [A4 (B6 r4.2.1),A4 (Cq r4.2.1)]) Tryz.call98 Aa (Wh r4.2.1 hg) Aa Aa (wm Aa (wv (A7 Aa Aa) (wv (A7 Aa Aa) (wa Aa (wa Aa (Ao (A5 [(2,A4 r7.1),(3,A4 (B6 r4.2.1)),(4,rB (r1.2&&(r4.2.2&&((decide (r7.2=0))&&((decide ((Cq r4.2.1)=0))&&((decide (1≤(B6 r4.2.1)))&&(decide ((B6 r4.2.1)≤65535))))))))] [] ?_ ?_)))))))))))))))))
 ·refine Af (wm Aa (wm Aa (wm Aa (wm Aa (AA (r1.2) (λhb=>?_) (λhb=>?_))))))
  ·refine wo hb (wm Aa (E0 Aa hb Aa (wm Aa (AA (r4.2.2) (λha=>?_) (λha=>?_)))))
   ·refine wo ha (wm Aa (wo ha (wv (B7 Aa Aa) (E0 Aa ha Aa (wm Aa (AA (decide (r7.2=0)) (λhd=>?_) (λhd=>?_)))))))
    ·refine wo hd (wm Aa (wo hd (wv (B7 Aa Aa) (E0 Aa hd Aa (wm Aa (AA (decide ((Cq r4.2.1)=0)) (λhe=>?_) (λhe=>?_)))))))
     ·refine wo he (wm Aa (wo he (wv (DP Aa Aa) (E0 Aa he Aa (wm Aa (AA (decide (1≤(B6 r4.2.1))) (λhf=>?_) (λhf=>?_)))))))
      ·refine wo hf (wm Aa (wo hf (wv (Hf Aa Aa) (E0 Aa hf Aa (wa Aa (wa Aa (wa Aa (Ah ?_))))))));exact BH (And.intro hb (And.intro ha (And.intro hd (And.intro he hf))))
      refine wf hf (wf hf (wv (r:=rB false) (Ay Aa hf Aa) (wa Aa (wa Aa (wa Aa (Ah ?_))))));exact BH (And.intro hb (And.intro ha (And.intro hd (And.intro he hf))))
     refine wf he (wf he (wv (r:=rB false) (Ay Aa he Aa) (wm Aa (wz Aa Aa (wz Aa Aa (wv (r:=rB false) (Ay (b:=false) Aa Aa Aa) (wa Aa (wa Aa (wa Aa (Ah ?_))))))))));exact BH (And.intro hb (And.intro ha (And.intro hd he)))
    refine wf hd (wf hd (wv (r:=rB false) (Ay Aa hd Aa) (wm Aa (wz Aa Aa (wz Aa Aa (wv (r:=rB false) (Ay (b:=false) Aa Aa Aa) (wm Aa (wz Aa Aa (wz Aa Aa (wv (r:=rB false) (Ay (b:=false) Aa Aa Aa) (wa Aa (wa Aa (wa Aa (Ah ?_))))))))))))));exact BH (And.intro hb (And.intro ha hd))
   refine wf ha (wf ha (wv (r:=rB false) (Ay Aa ha Aa) (wm Aa (wz Aa Aa (wz Aa Aa (wv (r:=rB false) (Ay (b:=false) Aa Aa Aa) (wm Aa (wz Aa Aa (wz Aa Aa (wv (r:=rB false) (Ay (b:=false) Aa Aa Aa) (wm Aa (wz Aa Aa (wz Aa Aa (wv (r:=rB false) (Ay (b:=false) Aa Aa Aa) (wa Aa (wa Aa (wa Aa (Ah ?_))))))))))))))))));exact BH (And.intro hb ha)
  refine wf hb (wv (r:=rB false) (Ay Aa hb Aa) (wm Aa (wz Aa Aa (wz Aa Aa (wv (r:=rB false) (Ay (b:=false) Aa Aa Aa) (wm Aa (wz Aa Aa (wz Aa Aa (wv (r:=rB false) (Ay (b:=false) Aa Aa Aa) (wm Aa (wz Aa Aa (wz Aa Aa (wv (r:=rB false) (Ay (b:=false) Aa Aa Aa) (wm Aa (wz Aa Aa (wz Aa Aa (wv (r:=rB false) (Ay (b:=false) Aa Aa Aa) (wa Aa (wa Aa (wa Aa (Ah ?_)))))))))))))))))))));exact BH hb
 refine Ap ?_;obtain rfl:=Au hh;exact Aq (U7 Tryz.results38 (AD Aa) (AD Aa) (AD Aa)) sN ⟨Aa,Aa⟩
theorem Sl (F:Nat)(v:(List Ac))(r:Bool)(h:Ix F v=some r):Fn Tryz.prog GE 92 [AO 4 (A8 Ae v)] [] (λR H=>R=rB r∧H=[]):=by
 refine enter (n:=13) Tryz.func92 Aa Tryz.ntmps92 Aa (λw Z=>?_);unfold Ix at h;refine Ad (wa Aa (Bp (wm Aa (ob h λr1 e3 h2=>BP Tryz.call38 (KE F v r1 e3) Aa (wm Aa (wv (A7 Aa Aa) (wv (A7 Aa Aa) (wv (A7 Aa Aa) (wa Aa (wa Aa (wa Aa (Bp (wm Aa (wa Aa (Ao (Ap ?_))))))))))))))));obtain rfl:=Au h2;exact Aq (B2 Tryz.results92 (AD Aa)) sN ⟨Aa,Aa⟩
theorem AcS (F:Nat)(k:Nat)(a0:(List Ac))(r:Bool)(h:Uh F k a0=some r):(∀(as1:Array Value) (w:World),(callFunc k as1).run Tryz.prog w = .ok (.enter k as1) w)∧KL Tryz.prog GE k [AO 4 (A8 Ae a0)] (rB r):=by
  unfold Uh at h
  by_cases h0:k=88
  · subst h0;exact⟨Tryz.call88,AcP a0 r (by rwa [Bl (AeQ rfl)] at h)⟩
  rw[Bd (AeJ h0)] at h
  by_cases h1:k=89
  · subst h1;exact⟨Tryz.call89,Ab2 a0 r (by rwa [Bl (AeQ rfl)] at h)⟩
  rw[Bd (AeJ h1)] at h
  by_cases h2:k=90
  · subst h2;exact⟨Tryz.call90,ZM a0 r (by rwa [Bl (AeQ rfl)] at h)⟩
  rw[Bd (AeJ h2)] at h
  by_cases h3:k=91
  · subst h3;exact⟨Tryz.call91,Sm a0 r (by rwa [Bl (AeQ rfl)] at h)⟩
  rw[Bd (AeJ h3)] at h
  by_cases h4:k=92
  · subst h4;exact⟨Tryz.call92,Sl F a0 r (by rwa [Bl (AeQ rfl)] at h)⟩
  rw[Bd (AeJ h4)] at h
  cases h
theorem PL (s:(List Nat))(r:Int)(h:Hi s=some r):Fn Tryz.prog GE 266 [AO 1 (A8 LV s)] [] (λR H=>R=A4 r∧H=[]):=by
 refine enter (n:=5) Tryz.func266 Aa Tryz.ntmps266 Aa (λw Z=>?_);unfold Hi at h;refine Ad (wa Aa (Bp (wm Aa (wv (Bj (ys:=s) (enc:=LV) E4 Aa) (wa Aa (Ao (Ap ?_)))))));obtain rfl:=Au h;exact Aq (B2 Tryz.results266 (AD Aa)) sN ⟨Aa,Aa⟩
theorem ZI (F:Nat)(s:(List Nat))(l:(List (List Ac)))(r:Bool)(h:KD F s l=some r):Fn Tryz.prog GE 267 [AO 1 (A8 LV s),AO 1 (A8 AM l)] [] (λR H=>R=rB r∧H=[]):=by
 refine enter (n:=26) Tryz.func267 Aa Tryz.ntmps267 Aa (λw Z=>?_);unfold KD at h;refine Ad (wa Aa (Ao (Ak (Ad (wm Aa (wv (Bj (ys:=s) (enc:=LV) E4 Aa) (wv (r:=A4 0) (Am Aa) (Ao (A6 (ob h λhh hi hg=>Br (S:=Nat×(Int)×(Unit)) (V:=(Unit)×(Unit)) 0 (λσ=>BX (λσ=>Hh F s l σ) σ.1 σ.2.1=some hh) (λσ=>[(1,AO 1 (A8 AM l)),(7,AO 1 (A8 LV s)),(8,A4 (s.length:Int)),(9,A4 σ.2.1)]) (λσ=>[]) (λσ=>σ.1) (F,0,()) hi (AH.c Aa (AH.c Aa (AH.c Aa (AH.c Aa AH.nil)))) sN (λσ=>Jv =some r) (λσ=>[]) (λσ=>[]) ?_ ?_))))))))))
 ·rintro⟨h4,hb,⟨⟩⟩ hj;refine GI ?_;obtain⟨hk,rfl,hl,hd,hf⟩:=Cc hj;replace hd:Hh F s l hb=some hl:=hd;unfold Hh at hd;refine Ad (wv (Ci Aa Aa) (Ao (Ak (cz hd Aa (λhm hn=>?_) (λhm ho=>?_)))))
  ·refine Aw (AE (Ak (A6 (Ad (wm Aa (ck hn λhp hq=>wv (Bk (enc:=LV) (ys:=s) E4 OF Aa Aa hp) (wv (Bb Tryz.isAgg90 Aa Aa) (wa Aa (wa Aa (Ao (ck hq λhr hs=>ck hs λht hu=>A5 [(1,AO 1 (A8 AM l)),(7,AO 1 (A8 LV s)),(8,A4 (s.length:Int)),(9,A4 hb),(24,rB ((!decide ((Ax s hb)=0))&&(!(ov (Uh F (Ax s hb) (Ax l hb))))))] [] ?_ ?_)))))))))))
   ·refine Af (wm Aa (wv (r:=rB (!decide ((Ax s hb)=0))) (Ad3 ⟨_,_,_,Tryz.underlying90⟩ Aa) (wm Aa (AA (!decide ((Ax s hb)=0)) (λha=>?_) (λha=>?_)))))
    ·refine wo ha (wm Aa (wo ha (wm Aa (wo ha (wm Aa (wo ha (wv (Bk (enc:=AM) (ys:=l) Ew C8 Aa Aa (BF hr ha)) (wo ha (wv (Bb Eo Aa Aa) (wo ha (Aef ha (AcS F (Ax s hb) (Ax l hb) (ov (Uh F (Ax s hb) (Ax l hb))) (Cr (BF ht ha))) Aa Aa (wo ha (wv (BO Aa) (E0 Aa ha Aa (Ah ?_)))))))))))))));exact BH ha
    refine wf ha (wf ha (wf ha (wf ha (wf ha (wf ha (wf ha (wv (r:=rB false) (Ay Aa ha Aa) (Ah ?_))))))));exact BH ha
   refine cz hu Aa (λhw hx=>?_) (λhw hy=>?_)
   ·refine Ad (wa Aa (Ao (Ap (A3 (Ab (Ab (Bg ?_)))))));have hz:=BC hx hf hg;refine A3 (Ab ?_);obtain rfl:=Au hz;exact Aq (B2 Tryz.results267 (AD Aa)) sN ⟨Aa,Aa⟩
   refine Aw (AB (AE (Af (ck hy λh0 h1=>wv (By Aa Aa h0) (wm Aa (Ah ?_))))));have h2:=Bi h1 hf;exact Ar (AC (hk,hb+1,()) ⟨h2,AeR _⟩ (AH.c Aa (AH.c Aa (AH.c Aa (AH.c Aa AH.nil)))) sN)
  refine Bn (Av ?_);have h3:=BE ho hf hg;exact Av (AY (AC ((),()) h3 AH.nil sN))
 rintro⟨⟨⟩,⟨⟩⟩ he;refine GX ?_;replace he:Jv =some r:=he;unfold Jv at he;refine AW (AE (Ad (wa Aa (Ao (Ap ?_)))));obtain rfl:=Au he;exact Aq (B2 Tryz.results267 (AD Aa)) sN ⟨Aa,Aa⟩
theorem PH (op:Ai)(r:(Option (List Nat))×Bool)(h:Ju op=some r):Fn Tryz.prog GE 32 [rS op] [] (λR H=>R=Dy [Lq 139 (λq=>AO 1 (A8 LV q)) r.1,rB r.2]∧H=[]):=by
 refine enter (n:=42) Tryz.func32 Aa Tryz.ntmps32 Aa (λw Z=>?_);unfold Ju at h;refine Ad (wa Aa (wa Aa (Ao (Ak (Ad (wm Aa (Ao (A6 (Ak (Ad (wv (BQ Aa Aa) (wa Aa (Ao (cz h Aa (λc1 h2=>?_) (λc1 h4=>?_)))))))))))))))
 ·refine Aw (AE (D7 Aa c1 (Ad (Bc (ys:=([88]:List Nat)) (enc:=LV) (css:=[[SB 88]]) (xs:=[.func 88]) E4 OF Qe Aa Aa Aa ⟨Ez.one Aa (Up.refl _),trivial⟩ Aa H0 Aa Aa Aa (λb3=>?_)))));refine wv (r:=DE 139 (rv (.slice (some ⟨b3,0,none⟩) 1 1))) (HD E4 Aa Aa) (wa Aa (wa Aa (Ao (Ap (A3 (Ab (WK.freeze (i:=0) Aa (WK.up (d:=2) (r:=Lq 139 (λq=>AO 1 (A8 LV q)) (some ([88]:List Nat))) Aa (Up.ifo (Up.fact (i:=0) Aa)) ?_))))))));obtain rfl:=Au h2;exact Aq (HW OH (AD Aa) (AD Aa)) (sS sN) ⟨Aa,Aa⟩
 refine Af (wv (BQ Aa Aa) (wa Aa (Ao (cz h4 Aa (λc5 h6=>?_) (λc5 h8=>?_)))))
 ·refine Ad (Bc (ys:=([88]:List Nat)) (enc:=LV) (css:=[[SB 88]]) (xs:=[.func 88]) E4 OF Qe Aa Aa Aa ⟨Ez.one Aa (Up.refl _),trivial⟩ Aa H0 Aa Aa Aa (λb7=>?_));refine wv (r:=DE 139 (rv (.slice (some ⟨b7,0,none⟩) 1 1))) (HD E4 Aa Aa) (wa Aa (wa Aa (Ao (Ap (A3 (Ab (WK.freeze (i:=0) Aa (WK.up (d:=2) (r:=Lq 139 (λq=>AO 1 (A8 LV q)) (some ([88]:List Nat))) Aa (Up.ifo (Up.fact (i:=0) Aa)) ?_))))))));obtain rfl:=Au h6;exact Aq (HW OH (AD Aa) (AD Aa)) (sS sN) ⟨Aa,Aa⟩
 refine Ad (wv (BQ Aa Aa) (wa Aa (Ao (cz h8 Aa (λc9 ha=>?_) (λc9 hb=>?_)))))
 ·refine Ad (Bc (ys:=([88,0]:List Nat)) (enc:=LV) (css:=[[SB 88],[SB 0]]) (xs:=[.func 88,.const .nilFunc]) E4 OF Qe Aa Aa Aa ⟨Ez.one Aa (Up.refl _),Ez.one Aa (Up.refl _),trivial⟩ Aa H0 Aa Aa Aa (λhd=>?_));refine wv (r:=DE 139 (rv (.slice (some ⟨hd,0,none⟩) 2 2))) (HD E4 Aa Aa) (wa Aa (wa Aa (Ao (Ap (A3 (Ab (WK.freeze (i:=0) Aa (WK.up (d:=2) (r:=Lq 139 (λq=>AO 1 (A8 LV q)) (some ([88,0]:List Nat))) Aa (Up.ifo (Up.fact (i:=0) Aa)) ?_))))))));obtain rfl:=Au ha;exact Aq (HW OH (AD Aa) (AD Aa)) (sS sN) ⟨Aa,Aa⟩
 refine Ad (wv (BQ Aa Aa) (wa Aa (Ao (cz hb Aa (λhe hf=>?_) (λhe hg=>?_)))))
 ·refine Ad (Bc (ys:=([89,0]:List Nat)) (enc:=LV) (css:=[[SB 89],[SB 0]]) (xs:=[.func 89,.const .nilFunc]) E4 OF Qe Aa Aa Aa ⟨Ez.one Aa (Up.refl _),Ez.one Aa (Up.refl _),trivial⟩ Aa H0 Aa Aa Aa (λhh=>?_));refine wv (r:=DE 139 (rv (.slice (some ⟨hh,0,none⟩) 2 2))) (HD E4 Aa Aa) (wa Aa (wa Aa (Ao (Ap (A3 (Ab (WK.freeze (i:=0) Aa (WK.up (d:=2) (r:=Lq 139 (λq=>AO 1 (A8 LV q)) (some ([89,0]:List Nat))) Aa (Up.ifo (Up.fact (i:=0) Aa)) ?_))))))));obtain rfl:=Au hf;exact Aq (HW OH (AD Aa) (AD Aa)) (sS sN) ⟨Aa,Aa⟩
 refine Ad (wv (BQ Aa Aa) (wa Aa (Ao (cz hg Aa (λhi hj=>?_) (λhi hk=>?_)))))
 ·refine Ad (Bc (ys:=([89,90,0]:List Nat)) (enc:=LV) (css:=[[SB 89],[SB 90],[SB 0]]) (xs:=[.func 89,.func 90,.const .nilFunc]) E4 OF Qe Aa Aa Aa ⟨Ez.one Aa (Up.refl _),Ez.one Aa (Up.refl _),Ez.one Aa (Up.refl _),trivial⟩ Aa H0 Aa Aa Aa (λhl=>?_));refine wv (r:=DE 139 (rv (.slice (some ⟨hl,0,none⟩) 3 3))) (HD E4 Aa Aa) (wa Aa (wa Aa (Ao (Ap (A3 (Ab (WK.freeze (i:=0) Aa (WK.up (d:=2) (r:=Lq 139 (λq=>AO 1 (A8 LV q)) (some ([89,90,0]:List Nat))) Aa (Up.ifo (Up.fact (i:=0) Aa)) ?_))))))));obtain rfl:=Au hj;exact Aq (HW OH (AD Aa) (AD Aa)) (sS sN) ⟨Aa,Aa⟩
 refine Ad (wv (BQ Aa Aa) (wa Aa (Ao (cz hk Aa (λc21 hm=>?_) (λc21 hn=>?_)))))
 ·refine Ad (Bc (ys:=([88,91]:List Nat)) (enc:=LV) (css:=[[SB 88],[SB 91]]) (xs:=[.func 88,.func 91]) E4 OF Qe Aa Aa Aa ⟨Ez.one Aa (Up.refl _),Ez.one Aa (Up.refl _),trivial⟩ Aa H0 Aa Aa Aa (λho=>?_));refine wv (r:=DE 139 (rv (.slice (some ⟨ho,0,none⟩) 2 2))) (HD E4 Aa Aa) (wa Aa (wa Aa (Ao (Ap (A3 (Ab (WK.freeze (i:=0) Aa (WK.up (d:=2) (r:=Lq 139 (λq=>AO 1 (A8 LV q)) (some ([88,91]:List Nat))) Aa (Up.ifo (Up.fact (i:=0) Aa)) ?_))))))));obtain rfl:=Au hm;exact Aq (HW OH (AD Aa) (AD Aa)) (sS sN) ⟨Aa,Aa⟩
 refine Ad (wv (BQ Aa Aa) (wa Aa (Ao (cz hn Aa (λhp hq=>?_) (λhp hr=>?_)))))
 ·refine Ad (Bc (ys:=([89]:List Nat)) (enc:=LV) (css:=[[SB 89]]) (xs:=[.func 89]) E4 OF Qe Aa Aa Aa ⟨Ez.one Aa (Up.refl _),trivial⟩ Aa H0 Aa Aa Aa (λhs=>?_));refine wv (r:=DE 139 (rv (.slice (some ⟨hs,0,none⟩) 1 1))) (HD E4 Aa Aa) (wa Aa (wa Aa (Ao (Ap (A3 (Ab (WK.freeze (i:=0) Aa (WK.up (d:=2) (r:=Lq 139 (λq=>AO 1 (A8 LV q)) (some ([89]:List Nat))) Aa (Up.ifo (Up.fact (i:=0) Aa)) ?_))))))));obtain rfl:=Au hq;exact Aq (HW OH (AD Aa) (AD Aa)) (sS sN) ⟨Aa,Aa⟩
 refine Ad (wv (BQ Aa Aa) (wa Aa (Ao (cz hr Aa (λht hu=>?_) (λht hw=>?_)))))
 ·refine Ad (Bc (ys:=([92,0]:List Nat)) (enc:=LV) (css:=[[SB 92],[SB 0]]) (xs:=[.func 92,.const .nilFunc]) E4 OF Qe Aa Aa Aa ⟨Ez.one Aa (Up.refl _),Ez.one Aa (Up.refl _),trivial⟩ Aa H0 Aa Aa Aa (λhx=>?_));refine wv (r:=DE 139 (rv (.slice (some ⟨hx,0,none⟩) 2 2))) (HD E4 Aa Aa) (wa Aa (wa Aa (Ao (Ap (A3 (Ab (WK.freeze (i:=0) Aa (WK.up (d:=2) (r:=Lq 139 (λq=>AO 1 (A8 LV q)) (some ([92,0]:List Nat))) Aa (Up.ifo (Up.fact (i:=0) Aa)) ?_))))))));obtain rfl:=Au hu;exact Aq (HW OH (AD Aa) (AD Aa)) (sS sN) ⟨Aa,Aa⟩
 refine Ad (wv (BQ Aa Aa) (wa Aa (Ao (cz hw Aa (λhy hz=>?_) (λhy h0=>?_)))))
 ·refine Ad (Bc (ys:=([]:List Nat)) (enc:=LV) (css:=[]) (xs:=[]) E4 OF Qe Aa Aa Aa trivial Aa H0 Aa Aa Aa (λh1=>?_));refine wv (r:=DE 139 (rv (.slice (some ⟨h1,0,none⟩) 0 0))) (HD E4 Aa Aa) (wa Aa (wa Aa (Ao (Ap (A3 (Ab (WK.freeze (i:=0) Aa (WK.up (d:=2) (r:=Lq 139 (λq=>AO 1 (A8 LV q)) (some ([]:List Nat))) Aa (Up.ifo (Up.fact (i:=0) Aa)) ?_))))))));obtain rfl:=Au hz;exact Aq (HW OH (AD Aa) (AD Aa)) (sS sN) ⟨Aa,Aa⟩
 refine Ad (wv (BQ Aa Aa) (wa Aa (Ao (cz h0 Aa (λc37 h3=>?_) (λc37 h5=>?_)))))
 ·refine Ad (Bc (ys:=([0]:List Nat)) (enc:=LV) (css:=[[SB 0]]) (xs:=[.const .nilFunc]) E4 OF Qe Aa Aa Aa ⟨Ez.one Aa (Up.refl _),trivial⟩ Aa H0 Aa Aa Aa (λh7=>?_));refine wv (r:=DE 139 (rv (.slice (some ⟨h7,0,none⟩) 1 1))) (HD E4 Aa Aa) (wa Aa (wa Aa (Ao (Ap (A3 (Ab (WK.freeze (i:=0) Aa (WK.up (d:=2) (r:=Lq 139 (λq=>AO 1 (A8 LV q)) (some ([0]:List Nat))) Aa (Up.ifo (Up.fact (i:=0) Aa)) ?_))))))));obtain rfl:=Au h3;exact Aq (HW OH (AD Aa) (AD Aa)) (sS sN) ⟨Aa,Aa⟩
 refine Aw (AB (AE (Ad (wa Aa (wa Aa (Ao (Ap (WK.up (d:=2) (r:=Lq 139 (λq=>AO 1 (A8 LV q)) none) Aa (Up.refl _) ?_))))))));obtain rfl:=Au h5;exact Aq (HW OH (AD Aa) (AD Aa)) sN ⟨Aa,Aa⟩
theorem N4 (F:Nat)(a:AV)(r:Int)(h:JN F a=some r):Fn Tryz.prog GE 31 [B9 (Bf a)] [] (λR H=>R=A4 r∧H=[]):=by
 refine enter (n:=102) Tryz.func31 Aa Tryz.ntmps31 Aa (λw Z=>?_);unfold JN at h;refine Ad (BM Aa Aa (λb1=>?_));refine wa Aa (Ao (Ak (A5 [(1,rP b1 0),(23,rB ((!(Cv a.fTenant))||(!(Cv a.fFunction))))] [.blk b1 (Bf a) 26] ?_ ?_)))
 ·refine Af (vF CM Aa CE (vL 0 Dp Aa (Ck (rs:=[rS a.fTenant]) (r:=rB (Cv a.fTenant)) Yu Aa (P6 a.fTenant) Aa Aa (wv (BO Aa) (wm Aa (AA (!(Cv a.fTenant)) (λc2=>?_) (λc2=>?_)))))))
  ·refine wf c2 (wf c2 (wf c2 (wf c2 (wv (r:=rB true) (An Aa c2 Aa) (Ah ?_)))));exact BH c2
  refine wo c2 (vF CM Aa CE (wo c2 (vL 0 Dp Aa (wo c2 (Ck (rs:=[rS a.fFunction]) (r:=rB (Cv a.fFunction)) Yu Aa (P6 a.fFunction) Aa Aa (wo c2 (wv (BO Aa) (Ep Aa c2 Aa (Ah ?_)))))))));exact BH c2
 refine cz h Aa (λc3 h4=>?_) (λc3 h5=>?_)
 ·refine Ad (wa Aa (Ao (Ap (Ab ?_))));obtain rfl:=Au h4;exact Aq (B2 SO (AD Aa)) (sS sN) ⟨Aa,Aa⟩
 refine Aw (AE (Ak (Ad (vF CM Aa Dn (vL 0 E5 Aa (wv (Bj (ys:=a.fOps) (enc:=eS) C7 Aa) (wv (r:=A4 0) (Am Aa) (Ao (A6 (ob h5 λhz h0 ht=>Br (S:=Nat×(Int)×(Unit)) (V:=(Unit)×(Unit)) 0 (λσ=>BX (λσ=>Hm a σ) σ.1 σ.2.1=some hz) (λσ=>[(1,rP b1 0),(25,AO 1 (A8 eS a.fOps)),(26,A4 (a.fOps.length:Int)),(27,A4 σ.2.1)]) (λσ=>[.blk b1 (Bf a) 26]) (λσ=>σ.1) (F,0,()) h0 (AH.c Aa (AH.c Aa (AH.c Aa (AH.c Aa AH.nil)))) (sC sN) (λσ=>G6 F a =some r) (λσ=>[(1,rP b1 0)]) (λσ=>[.blk b1 (Bf a) 26]) ?_ ?_))))))))))
 ·rintro⟨cc,hm,⟨⟩⟩ h1;refine GI ?_;obtain⟨h2,rfl,h3,he,hn⟩:=Cc h1;replace he:Hm a hm=some h3:=he;unfold Hm at he;refine Ad (wv (Ci Aa Aa) (Ao (Ak (cz he Aa (λh6 h7=>?_) (λh6 h8=>?_)))))
  ·refine Aw (AE (Ak (A6 (Ad (ck h7 λh9 hA=>wv (Bk (enc:=eS) (ys:=a.fOps) C7 CE Aa Aa h9) (wv (Bb Dp Aa Aa) (wa Aa (Bp (wm Aa (ob hA λhu hB hC=>BP Tryz.call32 (PH (Ax a.fOps hm) hu hB) Aa (wm Aa (wv (A7 Aa Aa) (wv (A7 Aa Aa) (wa Aa (wa Aa (Bp (wm Aa (wv (r:=rB (Option.isNone hu.1)) (Wp ⟨_,Tryz.underlying85⟩ Aa) (Ao (cz hC Aa (λhD hE=>?_) (λhD hG=>?_)))))))))))))))))))))
   ·refine Ad (wa Aa (Ao (Ap (A3 (Ab (Ab (Bg ?_)))))));have hH:=BC hE hn ht;refine A3 (Ab ?_);obtain rfl:=Au hH;exact Aq (B2 SO (AD Aa)) (sS sN) ⟨Aa,Aa⟩
   refine Aw (AB (AE (Af (ck hG λhI hJ=>wv (By Aa Aa hI) (wm Aa (Ah ?_))))));have hK:=Bi hJ hn;exact Ar (AC (h2,hm+1,()) ⟨hK,AeR _⟩ (AH.c Aa (AH.c Aa (AH.c Aa (AH.c Aa AH.nil)))) (sC sN))
  refine Bn (Av ?_);have hL:=BE h8 hn ht;exact Av (AY (AC ((),()) hL (AH.c Aa AH.nil) (sC sN)))
 rintro⟨⟨⟩,⟨⟩⟩ hf;refine GX ?_;replace hf:G6 F a =some r:=hf;unfold G6 at hf;refine AW (AE (Ak (Ad (vF CM Aa Dn (vL 0 E5 Aa (wv (Bj (ys:=a.fOps) (enc:=eS) C7 Aa) (wv (r:=A4 0) (Am Aa) (Ao (A6 (ob hf λhN hO hw=>Br (S:=Nat×(Int)×(Unit)) (V:=(Unit)×(Unit)) 2 (λσ=>BX (λσ=>Hl a σ) σ.1 σ.2.1=some hN) (λσ=>[(1,rP b1 0),(41,A4 (a.fOps.length:Int)),(42,A4 σ.2.1)]) (λσ=>[.blk b1 (Bf a) 26]) (λσ=>σ.1) (F,0,()) hO (AH.c Aa (AH.c Aa (AH.c Aa AH.nil))) (sC sN) (λσ=>G5 F a =some r) (λσ=>[(1,rP b1 0)]) (λσ=>[.blk b1 (Bf a) 26]) ?_ ?_))))))))))
 ·rintro⟨cd,hd,⟨⟩⟩ hP;refine GI ?_;obtain⟨hQ,rfl,hR,hg,ho⟩:=Cc hP;replace hg:Hl a hd=some hR:=hg;unfold Hl at hg;refine Ad (wv (Ci Aa Aa) (Ao (Ak (cz hg Aa (λhS hT=>?_) (λhS hU=>?_)))))
  ·refine Aw (AE (Ak (A6 (Ad (wm Aa (wa Aa (Ao (ck hT λhV hW=>ck hW λhX hY=>ck hY λhZ ga=>A5 [(1,rP b1 0),(41,A4 (a.fOps.length:Int)),(42,A4 hd),(60,rB ((decide (0<hd))&&(DX (Ax a.fOps hd) (Ax a.fOps (hd-1))||decide ((Ax a.fOps hd)=(Ax a.fOps (hd-1))))))] [.blk b1 (Bf a) 26] ?_ ?_))))))))
   ·refine AA (decide (0<hd)) (λha=>?_) (λha=>?_)
    ·refine Du [1,7,41,42] ?_;refine rq (Am Aa) (rq (Dc Aa Aa) (rq (Am Aa) (rg ha (Az CM Aa Dn Aa Aa) (rg ha (AT (i:=0) E5 Aa Aa Aa) (rg ha (Am Aa) (rg ha (Bk (enc:=eS) (ys:=a.fOps) C7 CE Aa Aa (BF hV ha)) (rg ha (Bb Dp Aa Aa) (rg ha (Az CM Aa Dn Aa Aa) (rg ha (AT (i:=0) E5 Aa Aa Aa) (rg ha (Am Aa) (rg ha (Gi Aa Aa (BF hX ha)) (rg ha (Bk (enc:=eS) (ys:=a.fOps) C7 CE Aa Aa (BF hZ ha)) (rg ha (Bb Dp Aa Aa) (rg ha (QQ Aa Aa) (rq (An Aa ha Aa) (re [60,1,41,42] ?_))))))))))))))));exact BH ha
    refine Du [1,7,41,42] ?_;refine rq (Am Aa) (rq (Dc Aa Aa) (rq (Am Aa) (rz ha (rz ha (rz ha (rz ha (rz ha (rz ha (rz ha (rz ha (rz ha (rz ha (rz ha (rz ha (rq (r:=rB false) (Ay (b:=decide (0<hd)) Aa ha Aa) (re [60,1,41,42] ?_))))))))))))))));exact BH ha
   refine cz ga Aa (λgb gc=>?_) (λgb gd=>?_)
   ·refine Ad (wa Aa (Ao (Ap (A3 (Ab (Ab (Bg ?_)))))));have gf:=BC gc ho hw;refine A3 (Ab ?_);obtain rfl:=Au gf;exact Aq (B2 SO (AD Aa)) (sS sN) ⟨Aa,Aa⟩
   refine Aw (AB (AE (Af (ck gd λgg gh=>wv (By Aa Aa gg) (wm Aa (Ah ?_))))));have gi:=Bi gh ho;exact Ar (AC (hQ,hd+1,()) ⟨gi,AeR _⟩ (AH.c Aa (AH.c Aa (AH.c Aa AH.nil))) (sC sN))
  refine Bn (Av ?_);have gj:=BE hU ho hw;exact Av (AY (AC ((),()) gj (AH.c Aa AH.nil) (sC sN)))
 rintro⟨⟨⟩,⟨⟩⟩ hh;refine GX ?_;replace hh:G5 F a =some r:=hh;unfold G5 at hh;refine AW (AE (Ak (A5 [(1,rP b1 0),(71,rB ((decide (32<(a.fPolicy.length:Int)))||(decide (32<(a.fNet.length:Int)))))] [.blk b1 (Bf a) 26] ?_ ?_)))
 ·refine Af (vF CM Aa J1 (vL 0 Lp Aa (wv (Bj (ys:=a.fPolicy) (enc:=Al) Id Aa) (wv (Dc Aa Aa) (wm Aa (AA (decide (32<(a.fPolicy.length:Int))) (λhb=>?_) (λhb=>?_)))))))
  ·refine wf hb (wf hb (wf hb (wf hb (wv (r:=rB true) (An Aa hb Aa) (Ah ?_)))));exact BH hb
  refine wo hb (vF CM Aa LY (wo hb (vL 0 Qh Aa (wo hb (wv (Bj (ys:=a.fNet) (enc:=A1) LX Aa) (wo hb (wv (Dc Aa Aa) (Ep Aa hb Aa (Ah ?_)))))))));exact BH hb
 refine cz hh Aa (λgl gm=>?_) (λgl gp=>?_)
 ·refine Ad (wa Aa (Ao (Ap (Ab ?_))));obtain rfl:=Au gm;exact Aq (B2 SO (AD Aa)) (sS sN) ⟨Aa,Aa⟩
 refine Aw (AE (Ak (Ad (vF CM Aa J1 (vL 0 Lp Aa (wv (Bj (ys:=a.fPolicy) (enc:=Al) Id Aa) (wv (r:=A4 0) (Am Aa) (Ao (A6 (ob gp λgq gr hx=>Br (S:=Nat×(Int)×(Unit)) (V:=(Unit)×(Unit)) 4 (λσ=>BX (λσ=>Hk F a σ) σ.1 σ.2.1=some gq) (λσ=>[(1,rP b1 0),(73,AO 3 (A8 Al a.fPolicy)),(74,A4 (a.fPolicy.length:Int)),(75,A4 σ.2.1)]) (λσ=>[.blk b1 (Bf a) 26]) (λσ=>σ.1) (F,0,()) gr (AH.c Aa (AH.c Aa (AH.c Aa (AH.c Aa AH.nil)))) (sC sN) (λσ=>G4 F a =some r) (λσ=>[(1,rP b1 0)]) (λσ=>[.blk b1 (Bf a) 26]) ?_ ?_))))))))))
 ·rintro⟨ce,hp,⟨⟩⟩ gs;refine GI ?_;obtain⟨gu,rfl,t183,hi,hq⟩:=Cc gs;replace hi:Hk F a hp=some t183:=hi;unfold Hk at hi;refine Ad (wv (Ci Aa Aa) (Ao (Ak (cz hi Aa (λgv gw=>?_) (λgv gx=>?_)))))
  ·refine Aw (AE (Ak (A6 (Ad (ck gw λgy gz=>wv (Bk (enc:=Al) (ys:=a.fPolicy) Id En Aa Aa gy) (wv (Cu LZ En Aa Aa Aa) (BL (cs:=[rB false,rv (.slice none 0 0),rv (.slice none 0 0)]) SH Aa Aa (λcf=>?_))))))));refine GU (i:=0) En Aa Aa Aa (B8.c Aa) Aa Aa ?_;refine Bp (wv (Be (i:=0) LZ En Aa Aa Aa Aa) (ob gz λg0 g1 g2=>BP Tryz.call74 (QN F (Ax a.fPolicy hp) g0 g1) Aa (wa Aa (Bp (wm Aa (wv (CH Aa Aa) (Ao (cz g2 Aa (λg3 g4=>?_) (λg3 g5=>?_)))))))))
   ·refine Ad (wm Aa (wa Aa (Ao (Ap (A3 (Ab (Ab (Bg ?_))))))));have g6:=BC g4 hq hx;refine A3 (Ab ?_);obtain rfl:=Au g6;exact Aq (B2 SO (AD Aa)) (sS (sS sN)) ⟨Aa,Aa⟩
   refine Aw (AB (AE (Af (ck g5 λg7 g8=>wv (By Aa Aa g7) (wm Aa (Ah ?_))))));have g9:=Bi g8 hq;exact Ar (AC (gu,hp+1,()) ⟨g9,AeR _⟩ (AH.c Aa (AH.c Aa (AH.c Aa (AH.c Aa AH.nil)))) (sS (sC sN)))
  refine Bn (Av ?_);have gA:=BE gx hq hx;exact Av (AY (AC ((),()) gA (AH.c Aa AH.nil) (sC sN)))
 rintro⟨⟨⟩,⟨⟩⟩ hj;refine GX ?_;replace hj:G4 F a =some r:=hj;unfold G4 at hj;refine AW (AE (Ak (Ad (vF CM Aa LY (vL 0 Qh Aa (wv (Bj (ys:=a.fNet) (enc:=A1) LX Aa) (wv (r:=A4 0) (Am Aa) (Ao (A6 (ob hj λgB gC hy=>Br (S:=Nat×(Int)×(Unit)) (V:=(Unit)×(Unit)) 6 (λσ=>BX (λσ=>Hj a σ) σ.1 σ.2.1=some gB) (λσ=>[(1,rP b1 0),(86,AO 5 (A8 A1 a.fNet)),(87,A4 (a.fNet.length:Int)),(88,A4 σ.2.1)]) (λσ=>[.blk b1 (Bf a) 26]) (λσ=>σ.1) (F,0,()) gC (AH.c Aa (AH.c Aa (AH.c Aa (AH.c Aa AH.nil)))) (sC sN) (λσ=>G3 a =some r) (λσ=>[(1,rP b1 0)]) (λσ=>[.blk b1 (Bf a) 26]) ?_ ?_))))))))))
 ·rintro⟨cg,hr,⟨⟩⟩ gD;refine GI ?_;obtain⟨gE,rfl,gF,hk,hs⟩:=Cc gD;replace hk:Hj a hr=some gF:=hk;unfold Hj at hk;refine Ad (wv (Ci Aa Aa) (Ao (Ak (cz hk Aa (λgG gH=>?_) (λgG gI=>?_)))))
  ·refine Aw (AE (Ak (A6 (Ad (ck gH λgJ gK=>wv (Bk (enc:=A1) (ys:=a.fNet) LX GW Aa Aa gJ) (wv (Cu Lw GW Aa Aa Aa) (BL (cs:=[rB false,A4 0,A4 0,A4 0,A4 0]) Tryz.zeroValue111 Aa Aa (λch=>?_))))))));refine GU (i:=0) GW Aa Aa Aa (B8.c Aa) Aa Aa ?_;refine Bp (wv (Be (i:=0) Lw GW Aa Aa Aa Aa) (ob gK λgL gM gN=>BP Tryz.call86 (KY (Ax a.fNet hr) gL gM) Aa (wa Aa (Bp (wm Aa (wv (CH Aa Aa) (Ao (cz gN Aa (λgO gP=>?_) (λgO gQ=>?_)))))))))
   ·refine Ad (wm Aa (wa Aa (Ao (Ap (A3 (Ab (Ab (Bg ?_))))))));have gR:=BC gP hs hy;refine A3 (Ab ?_);obtain rfl:=Au gR;exact Aq (B2 SO (AD Aa)) (sS (sS sN)) ⟨Aa,Aa⟩
   refine Aw (AB (AE (Af (ck gQ λgS gT=>wv (By Aa Aa gS) (wm Aa (Ah ?_))))));have gU:=Bi gT hs;exact Ar (AC (gE,hr+1,()) ⟨gU,AeR _⟩ (AH.c Aa (AH.c Aa (AH.c Aa (AH.c Aa AH.nil)))) (sS (sC sN)))
  refine Bn (Av ?_);have gV:=BE gI hs hy;exact Av (AY (AC ((),()) gV (AH.c Aa AH.nil) (sC sN)))
 rintro⟨⟨⟩,⟨⟩⟩ hl;refine GX ?_;replace hl:G3 a =some r:=hl;unfold G3 at hl;refine AW (AE (Ak (Ad (vF CM Aa CK (vL 0 Df Aa (ob hl λgW gX gY=>BP Tryz.call87 (PI a.fNow gW gX) Aa (wv (BO Aa) (Ao (cz gY Aa (λgZ ca=>?_) (λgZ cb=>?_))))))))))
 ·refine Ad (wa Aa (Ao (Ap (Ab ?_))));obtain rfl:=Au ca;exact Aq (B2 SO (AD Aa)) (sS sN) ⟨Aa,Aa⟩
 refine Aw (AE (Ad (wa Aa (Ao (Ap ?_)))));obtain rfl:=Au cb;exact Aq (B2 SO (AD Aa)) (sS sN) ⟨Aa,Aa⟩
theorem IG (tenant:Ai)(op:Ai)(name:Ai)(r:Ai)(h:Dm tenant op name=some r):Fn Tryz.prog GE 10 [rS tenant,rS op,rS name] [] (λR H=>R=rS r∧H=[]):=by
 refine enter (n:=14) Tryz.func10 Aa Tryz.ntmps10 Aa (λw Z=>?_);unfold Dm at h;refine Ad (wv (r:=rS ([]:Ai)) (A0 Aa) (Bp (wm Aa (ck h λg1 h2=>wv (C2 Aa Aa g1) (wm Aa (ck h2 λg3 h4=>wv (C2 Aa Aa g3) (ck h4 λg5 h6=>wv (C2 Aa Aa g5) (wm Aa (ck h6 λg7 h8=>wv (C2 Aa Aa g7) (wa Aa (Ao (Ap ?_))))))))))));obtain rfl:=Au h8;exact Aq (B2 Tryz.results10 (AD Aa)) sN ⟨Aa,Aa⟩
theorem Uj (F:Nat)(v:(List Ac))(r:Bool)(h:Lk F v=some r):Fn Tryz.prog GE 35 [AO 4 (A8 Ae v)] [] (λR H=>R=rB r∧H=[]):=by
 refine enter (n:=6) Tryz.func35 Aa Tryz.ntmps35 Aa (λw Z=>?_);unfold Lk at h;refine Ad (wa Aa (Bp (wm Aa (ob h λr1 e3 h2=>BP Tryz.call36 (Mj F v r1 e3) Aa (wv (CH Aa Aa) (wa Aa (Ao (Ap ?_))))))));obtain rfl:=Au h2;exact Aq (B2 Tryz.results35 (AD Aa)) sN ⟨Aa,Aa⟩
theorem Abt (F:Nat)(ys:(List (List Ac)))(r:Int)(h:Wy F ys=some r):Fn Tryz.prog GE 94 [AO 1 (A8 AM ys),rv (.func (.func 35) #[] #[])] [] (λR H=>R=A4 r∧H=[]):=by
 refine enter (n:=19) Tryz.func94 Aa Tryz.ntmps94 Aa (λw Z=>?_);unfold Wy at h;refine Ad (wa Aa (Ao (Ak (Ad (wm Aa (wv (Bj (ys:=ys) (enc:=AM) Ew Aa) (wv (r:=A4 0) (Am Aa) (Ao (A6 (ob h λhg hh hf=>Br (S:=Nat×(Int)×(Unit)) (V:=(Unit)×(Unit)) 0 (λσ=>BX (λσ=>Iu F ys σ) σ.1 σ.2.1=some hg) (λσ=>[(0,AO 1 (A8 AM ys)),(1,rv (.func (.func 35) #[] #[])),(7,A4 (ys.length:Int)),(8,A4 σ.2.1)]) (λσ=>[]) (λσ=>σ.1) (F,0,()) hh (AH.c Aa (AH.c Aa (AH.c Aa (AH.c Aa AH.nil)))) sN (λσ=>KA =some r) (λσ=>[]) (λσ=>[]) ?_ ?_))))))))))
 ·rintro⟨h2,ha,⟨⟩⟩ hi;refine GI ?_;obtain⟨hj,rfl,hk,hb,he⟩:=Cc hi;replace hb:Iu F ys ha=some hk:=hb;unfold Iu at hb;refine Ad (wv (Ci Aa Aa) (Ao (Ak (cz hb Aa (λhl hm=>?_) (λhl hn=>?_)))))
  ·refine Aw (AE (Ak (A6 (Ad (wm Aa (wa Aa (Bp (wm Aa (wm Aa (wm Aa (ck hm λho hp=>wv (Bk (enc:=AM) (ys:=ys) Ew C8 Aa Aa ho) (wv (Bb Eo Aa Aa) (ob hp λhq hr hs=>Hw (rs:=[AO 4 (A8 Ae (Ax ys ha))]) (Hin:=[]) (Hr:=[]) Tryz.call35 Aa Aa (Afd _) (Uj F (Ax ys ha) hq hr) Aa ?_)))))))))))));rintro _ _ ⟨rfl,rfl⟩;refine Ao (cz hs Aa (λht hu=>?_) (λht hw=>?_))
   ·refine Ad (wm Aa (wa Aa (Ao (Ap (A3 (Ab (Ab (Bg ?_))))))));have hx:=BC hu he hf;refine A3 (Ab ?_);obtain rfl:=Au hx;exact Aq (B2 Tryz.results94 (AD Aa)) sN ⟨Aa,Aa⟩
   refine Aw (AB (AE (Af (ck hw λhy hz=>wv (By Aa Aa hy) (wm Aa (Ah ?_))))));have h0:=Bi hz he;exact Ar (AC (hj,ha+1,()) ⟨h0,AeR _⟩ (AH.c Aa (AH.c Aa (AH.c Aa (AH.c Aa AH.nil)))) sN)
  refine Bn (Av ?_);have h1:=BE hn he hf;exact Av (AY (AC ((),()) h1 AH.nil sN))
 rintro⟨⟨⟩,⟨⟩⟩ hd;refine GX ?_;replace hd:KA =some r:=hd;unfold KA at hd;refine AW (AE (Ad (wv (r:=A4 (-1)) (A0 Aa) (Ao (Ap ?_)))));obtain rfl:=Au hd;exact Aq (B2 Tryz.results94 (AD Aa)) sN ⟨Aa,Aa⟩
theorem Uc (F:Nat)(ys:(List (List Ac)))(r:Bool)(h:HF F ys=some r):Fn Tryz.prog GE 34 [AO 1 (A8 AM ys),rv (.func (.func 35) #[] #[])] [] (λR H=>R=rB r∧H=[]):=by
 refine enter (n:=9) Tryz.func34 Aa Tryz.ntmps34 Aa (λw Z=>?_);unfold HF at h;refine Ad (wa Aa (Bp (wm Aa (wm Aa (ob h λr1 e3 h2=>BP Tryz.call94 (Abt F ys r1 e3) Aa (wv (DP Aa Aa) (wa Aa (Ao (Ap ?_)))))))));obtain rfl:=Au h2;exact Aq (B2 Tryz.results34 (AD Aa)) sN ⟨Aa,Aa⟩
theorem UR (F:Nat)(ys:(List Ai))(x:Ai)(r:Int)(h:Mm F ys x=some r):Fn Tryz.prog GE 93 [AO 1 (A8 eS ys),rS x] [] (λR H=>R=A4 r∧H=[]):=by
 refine enter (n:=19) Tryz.func93 Aa Tryz.ntmps93 Aa (λw Z=>?_);unfold Mm at h;refine Ad (wa Aa (Ao (Ak (Ad (wm Aa (wv (Bj (ys:=ys) (enc:=eS) C7 Aa) (wv (r:=A4 0) (Am Aa) (Ao (A6 (ob h λhg hh he=>Br (S:=Nat×(Int)×(Unit)) (V:=(Unit)×(Unit)) 0 (λσ=>BX (λσ=>E8 ys x σ) σ.1 σ.2.1=some hg) (λσ=>[(0,AO 1 (A8 eS ys)),(1,rS x),(7,A4 (ys.length:Int)),(8,A4 σ.2.1)]) (λσ=>[]) (λσ=>σ.1) (F,0,()) hh (AH.c Aa (AH.c Aa (AH.c Aa (AH.c Aa AH.nil)))) sN (λσ=>H3 =some r) (λσ=>[]) (λσ=>[]) ?_ ?_))))))))))
 ·rintro⟨hz,hf,⟨⟩⟩ hi;refine GI ?_;obtain⟨hj,rfl,hk,ha,hd⟩:=Cc hi;replace ha:E8 ys x hf=some hk:=ha;unfold E8 at ha;refine Ad (wv (Ci Aa Aa) (Ao (Ak (cz ha Aa (λhl hm=>?_) (λhl hn=>?_)))))
  ·refine Aw (AE (Ak (A6 (Ad (wm Aa (wa Aa (Bp (wm Aa (wm Aa (wm Aa (ck hm λho hp=>wv (Bk (enc:=eS) (ys:=ys) C7 CE Aa Aa ho) (wv (Bb Dp Aa Aa) (wv (BQ Aa Aa) (Ao (cz hp Aa (λhq hr=>?_) (λhq hs=>?_))))))))))))))))
   ·refine Ad (wm Aa (wa Aa (Ao (Ap (A3 (Ab (Ab (Bg ?_))))))));have ht:=BC hr hd he;refine A3 (Ab ?_);obtain rfl:=Au ht;exact Aq (B2 Tryz.results93 (AD Aa)) sN ⟨Aa,Aa⟩
   refine Aw (AB (AE (Af (ck hs λhu hw=>wv (By Aa Aa hu) (wm Aa (Ah ?_))))));have hx:=Bi hw hd;exact Ar (AC (hj,hf+1,()) ⟨hx,AeR _⟩ (AH.c Aa (AH.c Aa (AH.c Aa (AH.c Aa AH.nil)))) sN)
  refine Bn (Av ?_);have hy:=BE hn hd he;exact Av (AY (AC ((),()) hy AH.nil sN))
 rintro⟨⟨⟩,⟨⟩⟩ hb;refine GX ?_;replace hb:H3 =some r:=hb;unfold H3 at hb;refine AW (AE (Ad (wv (r:=A4 (-1)) (A0 Aa) (Ao (Ap ?_)))));obtain rfl:=Au hb;exact Aq (B2 Tryz.results93 (AD Aa)) sN ⟨Aa,Aa⟩
theorem Xk (F:Nat)(ys:(List Ai))(x:Ai)(r:Bool)(h:Mn F ys x=some r):Fn Tryz.prog GE 33 [AO 1 (A8 eS ys),rS x] [] (λR H=>R=rB r∧H=[]):=by
 refine enter (n:=9) Tryz.func33 Aa Tryz.ntmps33 Aa (λw Z=>?_);unfold Mn at h;refine Ad (wa Aa (Bp (wm Aa (wm Aa (ob h λr1 e3 h2=>BP Tryz.call93 (UR F ys x r1 e3) Aa (wv (DP Aa Aa) (wa Aa (Ao (Ap ?_)))))))));obtain rfl:=Au h2;exact Aq (B2 Tryz.results33 (AD Aa)) sN ⟨Aa,Aa⟩
theorem Iz (F:Nat)(a:AV)(q:AQ)(r:Int)(h:CI F a q=some r):Fn Tryz.prog GE 8 [B9 (Bf a),B9 (AU q)] [] (λR H=>R=A4 r∧H=[]):=by
 refine enter (n:=91) Tryz.func8 Aa Tryz.ntmps8 Aa (λw Z=>?_);unfold CI at h;refine Ad (BM Aa Aa (λb1=>?_));refine BM Aa Aa (λb2=>?_);refine wa Aa (Ao (Ak (Ad (wv (Be (i:=1) LE Gy Aa Aa Aa Aa) (ob h λr3 e5 h4=>BP Tryz.call31 (N4 F a r3 e5) Aa (wa Aa (Bp (wm Aa (wv (CH Aa Aa) (Ao (cz h4 Aa (λc6 h7=>?_) (λc6 h8=>?_))))))))))))
 ·refine Ad (wm Aa (wa Aa (Ao (Ap (Ab ?_)))));obtain rfl:=Au h7;exact Aq (B2 Ys (AD Aa)) (sS (sS sN)) ⟨Aa,Aa⟩
 refine Aw (AE (Ad (vF CZ Aa CE (vL 0 Dp Aa (ob h8 λr9 ho hp=>BP Tryz.call32 (PH q.fOp r9 ho) Aa (wm Aa (wv (A7 Aa Aa) (wv (A7 Aa Aa) (wa Aa (wa Aa (Ao (Ak (Ad (wm Aa (wv (r:=rB (Option.isNone r9.1)) (Wp ⟨_,Tryz.underlying85⟩ Aa) (Ao (cz hp Aa (λhq hr=>?_) (λhq hs=>?_))))))))))))))))))
 ·refine Ad (wa Aa (Ao (Ap (Ab ?_))));obtain rfl:=Au hr;exact Aq (B2 Ys (AD Aa)) (sS (sS sN)) ⟨Aa,Aa⟩
 refine Aw (AE (Ak (Ad (vF CM Aa Dn (vL 1 E5 Aa (vF CZ Aa CE (vL 0 Dp Aa (ob hs λht hu hw=>BP Tryz.call33 (Xk F a.fOps q.fOp ht hu) Aa (wv (BO Aa) (Ao (cz hw Aa (λhx hy=>?_) (λhx hz=>?_))))))))))))
 ·refine Ad (wa Aa (Ao (Ap (Ab ?_))));obtain rfl:=Au hy;exact Aq (B2 Ys (AD Aa)) (sS (sS sN)) ⟨Aa,Aa⟩
 refine Aw (AE (Ak (ck hz λhd h0=>ck h0 λhe h1=>ck h1 λhj h2=>ck h2 λh3 h5=>A5 [(2,rP b1 0),(3,rP b2 0),(7,rB r9.2),(49,rB ((!decide ((q.fArgs.length:Int)=(ov (Hi (Option.getD r9.1 ([]:(List Nat)))))))||((ov (HF F q.fArgs))||(!(ov (KD F (Option.getD r9.1 ([]:(List Nat))) q.fArgs))))))] [.blk b2 (AU q) 29,.blk b1 (Bf a) 26] ?_ ?_)))
 ·refine AA (!decide ((q.fArgs.length:Int)=(ov (Hi (Option.getD r9.1 ([]:(List Nat))))))) (λha=>?_) (λha=>?_)
  ·refine Du [2,3,6,7] ?_;refine rq (Az CZ Aa GF Aa Aa) (rq (AT (i:=0) DL Aa Aa Aa) (rq (Bj (ys:=q.fArgs) (enc:=AM) Ew Aa) (rq (Am Aa) (GG (O3 (d0:=([]:(List Nat))) K3 Tryz.call266 Aa hd (PL (Option.getD r9.1 ([]:(List Nat))) (ov (Hi (Option.getD r9.1 ([]:(List Nat))))) (Cr he)) Aa) (rq (CH Aa Aa) (rq (Am Aa) (rz ha (rz ha (rz ha (rq (r:=rB true) (An (b:=!decide ((q.fArgs.length:Int)=(ov (Hi (Option.getD r9.1 ([]:(List Nat))))))) Aa ha Aa) (rq (Am Aa) (rz Aa (rz Aa (rz Aa (rz Aa (rz Aa (rq (r:=rB true) (An (b:=true) Aa Aa Aa) (re [49,2,3,7] ?_))))))))))))))))));exact BH ha
  refine AA ((ov (HF F q.fArgs))) (λhb=>?_) (λhb=>?_)
  ·refine Du [2,3,6,7] ?_;refine rq (Az CZ Aa GF Aa Aa) (rq (AT (i:=0) DL Aa Aa Aa) (rq (Bj (ys:=q.fArgs) (enc:=AM) Ew Aa) (rq (Am Aa) (GG (O3 (d0:=([]:(List Nat))) K3 Tryz.call266 Aa hd (PL (Option.getD r9.1 ([]:(List Nat))) (ov (Hi (Option.getD r9.1 ([]:(List Nat))))) (Cr he)) Aa) (rq (CH Aa Aa) (rq (Am Aa) (rg ha (Az CZ Aa GF Aa Aa) (rg ha (AT (i:=0) DL Aa Aa Aa) (ro ha (Cm Tryz.call34 (Uc F q.fArgs (ov (HF F q.fArgs)) (Cr (C3 hj ha))) Aa) (rq (Ay Aa ha Aa) (rq (Am Aa) (rz hb (rz hb (rz hb (rz hb (rz hb (rq (r:=rB true) (An (b:=(ov (HF F q.fArgs))) Aa hb Aa) (re [49,2,3,7] ?_))))))))))))))))));exact BH (And.intro ha hb)
  refine Du [2,3,6,7] ?_;refine rq (Az CZ Aa GF Aa Aa) (rq (AT (i:=0) DL Aa Aa Aa) (rq (Bj (ys:=q.fArgs) (enc:=AM) Ew Aa) (rq (Am Aa) (GG (O3 (d0:=([]:(List Nat))) K3 Tryz.call266 Aa hd (PL (Option.getD r9.1 ([]:(List Nat))) (ov (Hi (Option.getD r9.1 ([]:(List Nat))))) (Cr he)) Aa) (rq (CH Aa Aa) (rq (Am Aa) (rg ha (Az CZ Aa GF Aa Aa) (rg ha (AT (i:=0) DL Aa Aa Aa) (ro ha (Cm Tryz.call34 (Uc F q.fArgs (ov (HF F q.fArgs)) (Cr (C3 hj ha))) Aa) (rq (Ay Aa ha Aa) (rq (Am Aa) (rg hb (Am Aa) (rg hb (Az CZ Aa GF Aa Aa) (rg hb (AT (i:=0) DL Aa Aa Aa) (ro hb (O3 (d0:=([]:(List Nat))) TJ Tryz.call267 Aa hd (ZI F (Option.getD r9.1 ([]:(List Nat))) q.fArgs (ov (KD F (Option.getD r9.1 ([]:(List Nat))) q.fArgs)) (Cr (C3 (C3 h3 ha) hb))) Aa) (rg hb (BO Aa) (rq (Ay Aa hb Aa) (re [49,2,3,7] ?_))))))))))))))))));exact BH (And.intro ha hb)
 refine cz h5 Aa (λh6 h9=>?_) (λh6 hA=>?_)
 ·refine Ad (wa Aa (Ao (Ap (Ab ?_))));obtain rfl:=Au h9;exact Aq (B2 Ys (AD Aa)) (sS (sS sN)) ⟨Aa,Aa⟩
 refine Aw (AE (Ak (Ad (wm Aa (Ao (cz hA Aa (λhB hC=>?_) (λhB hD=>?_)))))))
 ·refine Ad (vF CZ Aa GF (vL 0 DL Aa (ck hC λhk hE=>wv (Bk (enc:=AM) (ys:=q.fArgs) Ew C8 Aa Aa hk) (wv (Bb Eo Aa Aa) (ob hE λhf hG hH=>BP OM (Iw (Ax q.fArgs 0) hf hG) Aa (wm Aa (wv (A7 Aa Aa) (wv (A7 Aa Aa) (wa Aa (wa Aa (Ao (Ak (ob hH λhg hI hJ=>Mb 10 [2,3,8] [⟨[],rP b1 3,none,none,none⟩,⟨[0],AO 3 (A8 Al a.fPolicy),none,none,none⟩,⟨[],rP b2 0,none,none,none⟩,⟨[2],rS q.fOp,none,none,none⟩,⟨[],rP b1 0,none,none,none⟩,⟨[4],rS a.fTenant,none,none,none⟩,⟨[],rP b2 0,none,none,none⟩,⟨[6],rS q.fOp,none,none,none⟩,⟨[],rS hf.1,none,none,none⟩,⟨[5,7,8],rS hg,none,none,none⟩] ?_ (λβ=>?_))))))))))))))
  ·refine Px (Az CM Aa J1 Aa Aa) (U8 (AT (i:=1) Lp Aa Aa Aa) (Px (Az CZ Aa CE Aa Aa) (U8 (AT (i:=0) Dp Aa Aa Aa) (Px (Az CM Aa CE Aa Aa) (U8 (AT (i:=1) Dp Aa Aa Aa) (Px (Az CZ Aa CE Aa Aa) (U8 (AT (i:=0) Dp Aa Aa Aa) (Px (Am Aa) (oac (Cm Tryz.call10 (IG a.fTenant q.fOp hf.1 hg hI) Aa) ?_)))))))));exact oae
  refine Km (H1:=[.blk b2 (AU q) 29,.blk b1 (Bf a) 26]) [59,60,61,62,63,64,65,66,67,68,2,3,8] ?_;refine ob hJ λhl hK hL=>BP Tryz.call22 (Vd F a.fPolicy q.fOp hg hl hK) Aa (wv (r:=rB hl.fAllowed) (O5 Yp Aa Qg Aa Aa) (wv (BO Aa) (Ao (cz hL Aa (λhN hO=>?_) (λhN hP=>?_)))))
  ·refine Ad (wa Aa (Ao (Ap (Ab ?_))));obtain rfl:=Au hO;exact Aq (B2 Ys (AD Aa)) (sS (sS sN)) ⟨Aa,Aa⟩
  refine Aw (AE (Ak (Ad (vF CZ Aa CE (vL 0 Dp Aa (wv (BQ Aa Aa) (Ao (cz hP Aa (λhQ hR=>?_) (λhQ hS=>?_)))))))))
  ·refine Ad (vF CZ Aa GF (vL 0 DL Aa (wv (Bk (enc:=AM) (ys:=q.fArgs) Ew C8 Aa Aa hk) (wv (Bb Eo Aa Aa) (ob hR λhh hT hU=>BP Tryz.call38 (KE F (Ax q.fArgs 0) hh hT) Aa (wm Aa (wv (A7 Aa Aa) (wv (A7 Aa Aa) (wv (A7 Aa Aa) (wa Aa (wa Aa (wa Aa (Bp (vF CM Aa LY (vL 1 Qh Aa (wm Aa (wm Aa (ob hU λhm hV hW=>BP Tryz.call39 (P4 F a.fNet hh.1 hh.2.1 hm hV) Aa (wv (r:=rB hm.fAllowed) (O5 Yp Aa Qg Aa Aa) (wv (BO Aa) (Ao ?_)))))))))))))))))))));refine cz hW Aa (λhX hY=>?_) (λhX hZ=>?_)
   ·refine Ad (wa Aa (Ao (Ap (Ab ?_))));obtain rfl:=Au hY;exact Aq (B2 Ys (AD Aa)) (sS (sS sN)) ⟨Aa,Aa⟩
   refine Aw (AE (Ad (wa Aa (Ao (Ap ?_)))));obtain rfl:=Au hZ;exact Aq (B2 Ys (AD Aa)) (sS (sS sN)) ⟨Aa,Aa⟩
  refine Aw (AE (Ad (wa Aa (Ao (Ap ?_)))));obtain rfl:=Au hS;exact Aq (B2 Ys (AD Aa)) (sS (sS sN)) ⟨Aa,Aa⟩
 refine Aw (AE (Ak (Ad (vF CZ Aa CE (vL 0 Dp Aa (wv (BQ Aa Aa) (Ao (cz hD Aa (λga gb=>?_) (λga gc=>?_)))))))))
 ·refine Ad (vF CZ Aa GF (vL 0 DL Aa (ck gb λgd gf=>wv (Bk (enc:=AM) (ys:=q.fArgs) Ew C8 Aa Aa gd) (wv (Bb Eo Aa Aa) (ob gf λhi gg gh=>BP Tryz.call38 (KE F (Ax q.fArgs 0) hi gg) Aa (wm Aa (wv (A7 Aa Aa) (wv (A7 Aa Aa) (wv (A7 Aa Aa) (wa Aa (wa Aa (wa Aa (Bp (vF CM Aa LY (vL 1 Qh Aa (wm Aa (wm Aa (ob gh λhn gi gj=>BP Tryz.call39 (P4 F a.fNet hi.1 hi.2.1 hn gi) Aa (wv (r:=rB hn.fAllowed) (O5 Yp Aa Qg Aa Aa) (wv (BO Aa) ?_))))))))))))))))))));refine Ao (cz gj Aa (λgl gm=>?_) (λgl gp=>?_))
  ·refine Ad (wa Aa (Ao (Ap (Ab ?_))));obtain rfl:=Au gm;exact Aq (B2 Ys (AD Aa)) (sS (sS sN)) ⟨Aa,Aa⟩
  refine Aw (AE (Ad (wa Aa (Ao (Ap ?_)))));obtain rfl:=Au gp;exact Aq (B2 Ys (AD Aa)) (sS (sS sN)) ⟨Aa,Aa⟩
 refine Aw (AE (Ad (wa Aa (Ao (Ap ?_)))));obtain rfl:=Au gc;exact Aq (B2 Ys (AD Aa)) (sS (sS sN)) ⟨Aa,Aa⟩
theorem XT (q:AQ)(r:Bo×Bool)(h:So q=some r):Fn Tryz.prog GE 62 [B9 (AU q)] [] (λR H=>R=Dy [B9 (AP r.1),rB r.2]∧H=[]):=by
 refine enter (n:=65) Tryz.func62 Aa Tryz.ntmps62 Aa (λw Z=>?_);unfold So at h;refine Ad (BM Aa Aa (λb1=>?_));refine BL (cs:=[A4 0,rS ([]:Ai),rv (.slice none 0 0),A4 0]) UC Aa Aa (λb2=>?_);refine wa Aa (Bp (BL (cs:=[A4 0,rS ([]:Ai),rv (.slice none 0 0),A4 0]) UC Aa Aa (λb3=>?_)));refine Ao (Ak (Ad (vF CZ Aa CE (vL 2 Dp Aa (Ao (A6 (Ad (wv (BQ Aa Aa) (wa Aa (Ao (cz h Aa (λc4 h5=>?_) (λc4 ha=>?_))))))))))))
 ·refine ck h5 λg6 h7=>Ex (H1:=[.blk b3 [A4 1,rS ([]:Ai),AO 4 (A8 Ae (Ax q.fArgs 1)),A4 0] 60,.blk b2 [A4 0,rS ([]:Ai),rv (.slice none 0 0),A4 0] 60,.blk b1 (AU q) 29]) [1,2,4] [⟨[],rP b1 1,0⟩,⟨[0],AO 1 (A8 AM q.fArgs),3⟩,⟨[1],Xz [AO 4 (A8 Ae (Ax q.fArgs 1))],0⟩,⟨[2],AO 4 (A8 Ae (Ax q.fArgs 1)),0⟩,⟨[],rP b3 0,0⟩,⟨[4],rv undef,2⟩,⟨[],rP b3 2,0⟩,⟨[6,3],rv undef,2⟩] (rle [(6,_),(2,[.blk b3 [A4 1,rS ([]:Ai),rv (.slice none 0 0),A4 0] 60,.blk b2 [A4 0,rS ([]:Ai),rv (.slice none 0 0),A4 0] 60,.blk b1 (AU q) 29]),(1,[.blk b3 [A4 1,rS ([]:Ai),AO 4 (A8 Ae (Ax q.fArgs 1)),A4 0] 60,.blk b2 [A4 0,rS ([]:Ai),rv (.slice none 0 0),A4 0] 60,.blk b1 (AU q) 29])]) [1,2,4] ?_ ?_
  ·refine oq (Az CZ Aa GF Aa Aa) (T3 Aa (all_cons (Ef (AT (i:=2) DL Aa Aa Aa)) (all_cons (Ef (AT (i:=2) DL Aa Aa Aa)) (all_cons (Ef (AT (i:=2) DL Aa Aa Aa)) all_nil))) ?_);refine oq (Bk (enc:=AM) (ys:=q.fArgs) Ew C8 Aa Aa g6) (oq (Bb Eo Aa Aa) (oq (Az EV Aa Na Aa Aa) (DZ Aa (HO (Da (i:=0) Na Aa Aa (BR Aa) Aa Aa (cs':=[A4 1,rS ([]:Ai),rv (.slice none 0 0),A4 0]) Aa (H':=[.blk b3 [A4 1,rS ([]:Ai),rv (.slice none 0 0),A4 0] 60,.blk b2 [A4 0,rS ([]:Ai),rv (.slice none 0 0),A4 0] 60,.blk b1 (AU q) 29]) Aa)) ?_)));refine oq (Az EV Aa C8 Aa Aa) (DZ Aa (HO (Da (i:=0) C8 Aa Aa (BR Aa) Aa Aa (cs':=[A4 1,rS ([]:Ai),AO 4 (A8 Ae (Ax q.fArgs 1)),A4 0]) Aa (H':=[.blk b3 [A4 1,rS ([]:Ai),AO 4 (A8 Ae (Ax q.fArgs 1)),A4 0] 60,.blk b2 [A4 0,rS ([]:Ai),rv (.slice none 0 0),A4 0] 60,.blk b1 (AU q) 29]) Aa)) ?_);exact EK
  refine AB (AE (Ad (vF CZ Aa GF (vL 2 DL Aa (ck h7 λg8 h9=>wv (Bk (enc:=AM) (ys:=q.fArgs) Ew C8 Aa Aa g8) (wv (Bb Eo Aa Aa) (ob h9 λhb hd he=>BP OM (Iw (Ax q.fArgs 0) hb hd) Aa (wm Aa (wv (A7 Aa Aa) (wv (A7 Aa Aa) (vF EV Aa CE (us (i:=0) CE Aa Aa (BR Aa) Aa Aa ?_))))))))))));refine Bp (vF EV Aa C8 (vL 0 Eo Aa (ob he λhf hg hh=>BP OL (ET (Ax q.fArgs 1) hf hg) Aa (vF EV Aa C8 (us (i:=0) C8 Aa Aa (BR Aa) Aa Aa ?_)))));refine Bp (wv (Be (i:=0) Kl EW Aa Aa Aa Aa) (GU (i:=1) EW Aa Aa Aa (B8.c Aa) Aa Aa ?_));refine wa Aa (Ao (Ap ?_));obtain rfl:=Au hh;exact Aq (HW WW (Dv (i:=1) Kl EW Aa Aa Aa) (AD Aa)) (sS (sS (sS sN))) ⟨Aa,Aa⟩
 refine Ad (wv (BQ Aa Aa) (wa Aa (Ao (cz ha Aa (λhi hj=>?_) (λhi hk=>?_)))))
 ·refine Af (vF EV Aa Na (us (i:=0) Na Aa Aa (BR Aa) Aa Aa ?_));refine Ah (AB (AE (Ad (vF CZ Aa GF (vL 2 DL Aa (ck hj λg19 hl=>wv (Bk (enc:=AM) (ys:=q.fArgs) Ew C8 Aa Aa g19) (wv (Bb Eo Aa Aa) (ob hl λhm hn ho=>BP OM (Iw (Ax q.fArgs 0) hm hn) Aa (wm Aa (wv (A7 Aa Aa) (wv (A7 Aa Aa) (vF EV Aa CE (us (i:=0) CE Aa Aa (BR Aa) Aa Aa ?_)))))))))))));refine Bp (vF EV Aa C8 (vL 0 Eo Aa (WL.up (d:=61) (r:=AO 4 (A8 Ae ([]:List Ac))) Aa (Up.le (HS.nil _)) (ob ho λhp hq hr=>BP OL (ET ([]:List Ac) hp hq) Aa (vF EV Aa C8 (us (i:=0) C8 Aa Aa (BR Aa) Aa Aa ?_))))));refine Bp (wv (Be (i:=0) Kl EW Aa Aa Aa Aa) (GU (i:=1) EW Aa Aa Aa (B8.c Aa) Aa Aa ?_));refine wa Aa (Ao (Ap ?_));obtain rfl:=Au hr;exact Aq (HW WW (Dv (i:=1) Kl EW Aa Aa Aa) (AD Aa)) (sS (sS (sS sN))) ⟨Aa,Aa⟩
 refine Ad (wv (BQ Aa Aa) (wa Aa (Ao (cz hk Aa (λhs ht=>?_) (λhs hu=>?_)))))
 ·refine ck ht λhw hx=>Ex (H1:=[.blk b3 [A4 3,rS ([]:Ai),AO 4 (A8 Ae (Ax q.fArgs 1)),A4 0] 60,.blk b2 [A4 0,rS ([]:Ai),rv (.slice none 0 0),A4 0] 60,.blk b1 (AU q) 29]) [1,2,4] [⟨[],rP b1 1,0⟩,⟨[0],AO 1 (A8 AM q.fArgs),3⟩,⟨[1],Xz [AO 4 (A8 Ae (Ax q.fArgs 1))],0⟩,⟨[2],AO 4 (A8 Ae (Ax q.fArgs 1)),0⟩,⟨[],rP b3 0,0⟩,⟨[4],rv undef,2⟩,⟨[],rP b3 2,0⟩,⟨[6,3],rv undef,2⟩] (rle [(6,_),(2,[.blk b3 [A4 3,rS ([]:Ai),rv (.slice none 0 0),A4 0] 60,.blk b2 [A4 0,rS ([]:Ai),rv (.slice none 0 0),A4 0] 60,.blk b1 (AU q) 29]),(1,[.blk b3 [A4 3,rS ([]:Ai),AO 4 (A8 Ae (Ax q.fArgs 1)),A4 0] 60,.blk b2 [A4 0,rS ([]:Ai),rv (.slice none 0 0),A4 0] 60,.blk b1 (AU q) 29])]) [1,2,4] ?_ ?_
  ·refine oq (Az CZ Aa GF Aa Aa) (T3 Aa (all_cons (Ef (AT (i:=2) DL Aa Aa Aa)) (all_cons (Ef (AT (i:=2) DL Aa Aa Aa)) (all_cons (Ef (AT (i:=2) DL Aa Aa Aa)) all_nil))) ?_);refine oq (Bk (enc:=AM) (ys:=q.fArgs) Ew C8 Aa Aa hw) (oq (Bb Eo Aa Aa) (oq (Az EV Aa Na Aa Aa) (DZ Aa (HO (Da (i:=0) Na Aa Aa (BR Aa) Aa Aa (cs':=[A4 3,rS ([]:Ai),rv (.slice none 0 0),A4 0]) Aa (H':=[.blk b3 [A4 3,rS ([]:Ai),rv (.slice none 0 0),A4 0] 60,.blk b2 [A4 0,rS ([]:Ai),rv (.slice none 0 0),A4 0] 60,.blk b1 (AU q) 29]) Aa)) ?_)));refine oq (Az EV Aa C8 Aa Aa) (DZ Aa (HO (Da (i:=0) C8 Aa Aa (BR Aa) Aa Aa (cs':=[A4 3,rS ([]:Ai),AO 4 (A8 Ae (Ax q.fArgs 1)),A4 0]) Aa (H':=[.blk b3 [A4 3,rS ([]:Ai),AO 4 (A8 Ae (Ax q.fArgs 1)),A4 0] 60,.blk b2 [A4 0,rS ([]:Ai),rv (.slice none 0 0),A4 0] 60,.blk b1 (AU q) 29]) Aa)) ?_);exact EK
  refine AB (AE (Ad (vF CZ Aa GF (vL 2 DL Aa (ck hx λhy hz=>wv (Bk (enc:=AM) (ys:=q.fArgs) Ew C8 Aa Aa hy) (wv (Bb Eo Aa Aa) (ob hz λh0 h1 h2=>BP OM (Iw (Ax q.fArgs 0) h0 h1) Aa (wm Aa (wv (A7 Aa Aa) (wv (A7 Aa Aa) (vF EV Aa CE (us (i:=0) CE Aa Aa (BR Aa) Aa Aa ?_))))))))))));refine Bp (vF EV Aa C8 (vL 0 Eo Aa (ob h2 λh3 h4 h6=>BP OL (ET (Ax q.fArgs 1) h3 h4) Aa (vF EV Aa C8 (us (i:=0) C8 Aa Aa (BR Aa) Aa Aa ?_)))));refine Bp (wv (Be (i:=0) Kl EW Aa Aa Aa Aa) (GU (i:=1) EW Aa Aa Aa (B8.c Aa) Aa Aa ?_));refine wa Aa (Ao (Ap ?_));obtain rfl:=Au h6;exact Aq (HW WW (Dv (i:=1) Kl EW Aa Aa Aa) (AD Aa)) (sS (sS (sS sN))) ⟨Aa,Aa⟩
 refine Ad (wv (BQ Aa Aa) (wa Aa (Ao (cz hu Aa (λh8 hA=>?_) (λh8 hB=>?_)))))
 ·refine ck hA λhC hD=>ck hD λhE hG=>ck hG λhH hI=>Ex (H1:=[.blk b3 [A4 4,rS ([]:Ai),AO 4 (A8 Ae (Ax q.fArgs 2)),A4 ((Ax (Ax q.fArgs 1) 0).fInt)] 60,.blk b2 [A4 0,rS ([]:Ai),rv (.slice none 0 0),A4 0] 60,.blk b1 (AU q) 29]) [1,2,4] [⟨[],rP b1 1,0⟩,⟨[0],AO 1 (A8 AM q.fArgs),3⟩,⟨[1],Xz [AO 4 (A8 Ae (Ax q.fArgs 2))],0⟩,⟨[2],AO 4 (A8 Ae (Ax q.fArgs 2)),0⟩,⟨[],rP b1 1,0⟩,⟨[4],AO 1 (A8 AM q.fArgs),3⟩,⟨[5],Xz [AO 4 (A8 Ae (Ax q.fArgs 1))],0⟩,⟨[6],AO 4 (A8 Ae (Ax q.fArgs 1)),0⟩,⟨[7],Xz (Ae (Ax (Ax q.fArgs 1) 0)),0⟩,⟨[8],Xz [A4 ((Ax (Ax q.fArgs 1) 0).fInt),rS ((Ax (Ax q.fArgs 1) 0).fStr),A4 ((Ax (Ax q.fArgs 1) 0).fN)],0⟩,⟨[9],A4 ((Ax (Ax q.fArgs 1) 0).fInt),0⟩,⟨[],rP b3 0,0⟩,⟨[11],rv undef,2⟩,⟨[],rP b3 2,0⟩,⟨[13,3],rv undef,2⟩,⟨[],rP b3 3,0⟩,⟨[15,10],rv undef,2⟩] (rle [(13,_),(2,[.blk b3 [A4 4,rS ([]:Ai),rv (.slice none 0 0),A4 0] 60,.blk b2 [A4 0,rS ([]:Ai),rv (.slice none 0 0),A4 0] 60,.blk b1 (AU q) 29]),(2,[.blk b3 [A4 4,rS ([]:Ai),AO 4 (A8 Ae (Ax q.fArgs 2)),A4 0] 60,.blk b2 [A4 0,rS ([]:Ai),rv (.slice none 0 0),A4 0] 60,.blk b1 (AU q) 29]),(1,[.blk b3 [A4 4,rS ([]:Ai),AO 4 (A8 Ae (Ax q.fArgs 2)),A4 ((Ax (Ax q.fArgs 1) 0).fInt)] 60,.blk b2 [A4 0,rS ([]:Ai),rv (.slice none 0 0),A4 0] 60,.blk b1 (AU q) 29])]) [1,2,4] ?_ ?_
  ·refine oq (Az CZ Aa GF Aa Aa) (T3 Aa (all_cons (Ef (AT (i:=2) DL Aa Aa Aa)) (all_cons (Ef (AT (i:=2) DL Aa Aa Aa)) (all_cons (Ef (AT (i:=2) DL Aa Aa Aa)) (all_cons (Ef (AT (i:=2) DL Aa Aa Aa)) all_nil)))) ?_);refine oq (Bk (enc:=AM) (ys:=q.fArgs) Ew C8 Aa Aa hC) (oq (Bb Eo Aa Aa) (oq (Az CZ Aa GF Aa Aa) (T3 Aa (all_cons (Ef (AT (i:=2) DL Aa Aa Aa)) (all_cons (Ef (AT (i:=2) DL Aa Aa Aa)) (all_cons (Ef (AT (i:=2) DL Aa Aa Aa)) (all_cons (Ef (AT (i:=2) DL Aa Aa Aa)) all_nil)))) ?_)));refine oq (Bk (enc:=AM) (ys:=q.fArgs) Ew C8 Aa Aa hE) (oq (Bb Eo Aa Aa) (oq (Bk (enc:=Ae) (ys:=Ax q.fArgs 1) CL CJ Aa Aa hH) (oq (Bs BD Aa CK Aa Aa) (oq (Bb Df Aa Aa) (oq (Az EV Aa Na Aa Aa) (DZ Aa (HO (Da (i:=0) Na Aa Aa (BR Aa) Aa Aa (cs':=[A4 4,rS ([]:Ai),rv (.slice none 0 0),A4 0]) Aa (H':=[.blk b3 [A4 4,rS ([]:Ai),rv (.slice none 0 0),A4 0] 60,.blk b2 [A4 0,rS ([]:Ai),rv (.slice none 0 0),A4 0] 60,.blk b1 (AU q) 29]) Aa)) ?_))))));refine oq (Az EV Aa C8 Aa Aa) (DZ Aa (HO (Da (i:=0) C8 Aa Aa (BR Aa) Aa Aa (cs':=[A4 4,rS ([]:Ai),AO 4 (A8 Ae (Ax q.fArgs 2)),A4 0]) Aa (H':=[.blk b3 [A4 4,rS ([]:Ai),AO 4 (A8 Ae (Ax q.fArgs 2)),A4 0] 60,.blk b2 [A4 0,rS ([]:Ai),rv (.slice none 0 0),A4 0] 60,.blk b1 (AU q) 29]) Aa)) ?_);refine oq (Az EV Aa CK Aa Aa) (DZ Aa (HO (Da (i:=0) CK Aa Aa (BR Aa) Aa Aa (cs':=[A4 4,rS ([]:Ai),AO 4 (A8 Ae (Ax q.fArgs 2)),A4 ((Ax (Ax q.fArgs 1) 0).fInt)]) Aa (H':=[.blk b3 [A4 4,rS ([]:Ai),AO 4 (A8 Ae (Ax q.fArgs 2)),A4 ((Ax (Ax q.fArgs 1) 0).fInt)] 60,.blk b2 [A4 0,rS ([]:Ai),rv (.slice none 0 0),A4 0] 60,.blk b1 (AU q) 29]) Aa)) ?_);exact EK
  refine AB (AE (Ad (vF CZ Aa GF (vL 2 DL Aa (ck hI λhJ hK=>wv (Bk (enc:=AM) (ys:=q.fArgs) Ew C8 Aa Aa hJ) (wv (Bb Eo Aa Aa) (ob hK λhL hN hO=>BP OM (Iw (Ax q.fArgs 0) hL hN) Aa (wm Aa (wv (A7 Aa Aa) (wv (A7 Aa Aa) (vF EV Aa CE (us (i:=0) CE Aa Aa (BR Aa) Aa Aa ?_))))))))))));refine Bp (vF EV Aa C8 (vL 0 Eo Aa (ob hO λhP hQ hR=>BP OL (ET (Ax q.fArgs 2) hP hQ) Aa (vF EV Aa C8 (us (i:=0) C8 Aa Aa (BR Aa) Aa Aa ?_)))));refine Bp (wv (Be (i:=0) Kl EW Aa Aa Aa Aa) (GU (i:=1) EW Aa Aa Aa (B8.c Aa) Aa Aa ?_));refine wa Aa (Ao (Ap ?_));obtain rfl:=Au hR;exact Aq (HW WW (Dv (i:=1) Kl EW Aa Aa Aa) (AD Aa)) (sS (sS (sS sN))) ⟨Aa,Aa⟩
 refine Ad (wv (BQ Aa Aa) (wa Aa (Ao (cz hB Aa (λhS hT=>?_) (λhS hU=>?_)))))
 ·refine ck hT λhV hW=>Ex (H1:=[.blk b3 [A4 5,rS ([]:Ai),AO 4 (A8 Ae (Ax q.fArgs 1)),A4 0] 60,.blk b2 [A4 0,rS ([]:Ai),rv (.slice none 0 0),A4 0] 60,.blk b1 (AU q) 29]) [1,2,4] [⟨[],rP b1 1,0⟩,⟨[0],AO 1 (A8 AM q.fArgs),3⟩,⟨[1],Xz [AO 4 (A8 Ae (Ax q.fArgs 1))],0⟩,⟨[2],AO 4 (A8 Ae (Ax q.fArgs 1)),0⟩,⟨[],rP b3 0,0⟩,⟨[4],rv undef,2⟩,⟨[],rP b3 2,0⟩,⟨[6,3],rv undef,2⟩] (rle [(6,_),(2,[.blk b3 [A4 5,rS ([]:Ai),rv (.slice none 0 0),A4 0] 60,.blk b2 [A4 0,rS ([]:Ai),rv (.slice none 0 0),A4 0] 60,.blk b1 (AU q) 29]),(1,[.blk b3 [A4 5,rS ([]:Ai),AO 4 (A8 Ae (Ax q.fArgs 1)),A4 0] 60,.blk b2 [A4 0,rS ([]:Ai),rv (.slice none 0 0),A4 0] 60,.blk b1 (AU q) 29])]) [1,2,4] ?_ ?_
  ·refine oq (Az CZ Aa GF Aa Aa) (T3 Aa (all_cons (Ef (AT (i:=2) DL Aa Aa Aa)) (all_cons (Ef (AT (i:=2) DL Aa Aa Aa)) (all_cons (Ef (AT (i:=2) DL Aa Aa Aa)) all_nil))) ?_);refine oq (Bk (enc:=AM) (ys:=q.fArgs) Ew C8 Aa Aa hV) (oq (Bb Eo Aa Aa) (oq (Az EV Aa Na Aa Aa) (DZ Aa (HO (Da (i:=0) Na Aa Aa (BR Aa) Aa Aa (cs':=[A4 5,rS ([]:Ai),rv (.slice none 0 0),A4 0]) Aa (H':=[.blk b3 [A4 5,rS ([]:Ai),rv (.slice none 0 0),A4 0] 60,.blk b2 [A4 0,rS ([]:Ai),rv (.slice none 0 0),A4 0] 60,.blk b1 (AU q) 29]) Aa)) ?_)));refine oq (Az EV Aa C8 Aa Aa) (DZ Aa (HO (Da (i:=0) C8 Aa Aa (BR Aa) Aa Aa (cs':=[A4 5,rS ([]:Ai),AO 4 (A8 Ae (Ax q.fArgs 1)),A4 0]) Aa (H':=[.blk b3 [A4 5,rS ([]:Ai),AO 4 (A8 Ae (Ax q.fArgs 1)),A4 0] 60,.blk b2 [A4 0,rS ([]:Ai),rv (.slice none 0 0),A4 0] 60,.blk b1 (AU q) 29]) Aa)) ?_);exact EK
  refine AB (AE (Ad (vF CZ Aa GF (vL 2 DL Aa (ck hW λhX hY=>wv (Bk (enc:=AM) (ys:=q.fArgs) Ew C8 Aa Aa hX) (wv (Bb Eo Aa Aa) (ob hY λhZ ga gb=>BP OM (Iw (Ax q.fArgs 0) hZ ga) Aa (wm Aa (wv (A7 Aa Aa) (wv (A7 Aa Aa) (vF EV Aa CE (us (i:=0) CE Aa Aa (BR Aa) Aa Aa ?_))))))))))));refine Bp (vF EV Aa C8 (vL 0 Eo Aa (ob gb λgc gd gf=>BP OL (ET (Ax q.fArgs 1) gc gd) Aa (vF EV Aa C8 (us (i:=0) C8 Aa Aa (BR Aa) Aa Aa ?_)))));refine Bp (wv (Be (i:=0) Kl EW Aa Aa Aa Aa) (GU (i:=1) EW Aa Aa Aa (B8.c Aa) Aa Aa ?_));refine wa Aa (Ao (Ap ?_));obtain rfl:=Au gf;exact Aq (HW WW (Dv (i:=1) Kl EW Aa Aa Aa) (AD Aa)) (sS (sS (sS sN))) ⟨Aa,Aa⟩
 refine Ad (wv (Be (i:=0) Kl EW Aa Aa Aa Aa) (GU (i:=1) EW Aa Aa Aa (B8.c Aa) Aa Aa ?_));refine wa Aa (Ao (Ap (A3 (Ab (WK.upBlk (i:=1) (cs':=[A4 0,rS ([]:Ai),AO 4 (A8 Ae ([]:List Ac)),A4 0]) Aa ⟨Up.refl _,Up.refl _,Up.le (HS.nil _),Up.refl _,trivial⟩ ?_)))));obtain rfl:=Au hU;exact Aq (HW WW (Dv (i:=1) Kl EW Aa Aa Aa) (AD Aa)) (sS (sS (sS sN))) ⟨Aa,Aa⟩
theorem DR (v:(List Ac))(e:Int)(r:Em)(h:Gf v e=some r):Fn Tryz.prog GE 61 [AO 4 (A8 Ae v),A4 e] [] (λR H=>R=B9 (CV r)∧H=[]):=by
 refine enter (n:=11) Tryz.func61 Aa Tryz.ntmps61 Aa (λw Z=>?_);unfold Gf at h;refine Ad (BL (cs:=[A4 0,rv (.slice none 0 0)]) UD Aa Aa (λb1=>?_));refine Ao (Ak (Ad (wm Aa (wv (CH Aa Aa) (Ao (cz h Aa (λc2 h3=>?_) (λc2 h4=>?_)))))))
 ·refine Ad (wm Aa (wv (r:=B9 [A4 e,rv (.slice none 0 0)]) (TA Aa Aa) (GU (i:=0) EX Aa Aa Aa (B8.c Aa) Aa Aa ?_)));refine Ao (Ap (Ab (WK.upBlk (i:=0) (cs':=[A4 e,AO 4 (A8 Ae ([]:List Ac))]) Aa ⟨Up.refl _,Up.le (HS.nil _),trivial⟩ ?_)));obtain rfl:=Au h3;exact Aq (B2 Tryz.results61 (Dv (i:=0) Nb EX Aa Aa Aa)) (sS sN) ⟨Aa,Aa⟩
 refine Aw (AE (Ad (wm Aa (wv (r:=B9 [A4 0,AO 4 (A8 Ae v)]) (T9 Aa Aa) (GU (i:=0) EX Aa Aa Aa (B8.c Aa) Aa Aa ?_)))));refine Ao (Ap ?_);obtain rfl:=Au h4;exact Aq (B2 Tryz.results61 (Dv (i:=0) Nb EX Aa Aa Aa)) (sS sN) ⟨Aa,Aa⟩
theorem Ug (F:Nat)(l:(List BS))(r:Int)(h:Sn F l=some r):Fn Tryz.prog GE 55 [AO 3 (A8 BN l)] [] (λR H=>R=A4 r∧H=[]):=by
 refine enter (n:=43) Tryz.func55 Aa Tryz.ntmps55 Aa (λw Z=>?_);unfold Sn at h;refine Ad (wa Aa (Ao (Ak (Ad (wm Aa (wv (Bj (ys:=l) (enc:=BN) Ru Aa) (wv (Dc Aa Aa) (Ao (cz h Aa (λc1 h2=>?_) (λc1 h3=>?_))))))))))
 ·refine Ad (wa Aa (Ao (Ap (Ab ?_))));obtain rfl:=Au h2;exact Aq (B2 WX (AD Aa)) sN ⟨Aa,Aa⟩
 refine Aw (AE (Ak (Ad (wm Aa (wv (Bj (ys:=l) (enc:=BN) Ru Aa) (wv (r:=A4 0) (Am Aa) (Ao (A6 (ob h3 λhh hi he=>Br (S:=Nat×(Int)×(Unit)) (V:=(Unit)×(Unit)) 0 (λσ=>BX (λσ=>Lj F l σ) σ.1 σ.2.1=some hh) (λσ=>[(0,AO 3 (A8 BN l)),(9,AO 3 (A8 BN l)),(10,A4 (l.length:Int)),(11,A4 σ.2.1)]) (λσ=>[]) (λσ=>σ.1) (F,0,()) hi (AH.c Aa (AH.c Aa (AH.c Aa (AH.c Aa AH.nil)))) sN (λσ=>Li =some r) (λσ=>[]) (λσ=>[]) ?_ ?_)))))))))
 ·rintro⟨hN,hb,⟨⟩⟩ hj;refine GI ?_;obtain⟨hk,rfl,hl,hf,hd⟩:=Cc hj;replace hf:Lj F l hb=some hl:=hf;unfold Lj at hf;refine Ad (wv (Ci Aa Aa) (Ao (Ak (cz hf Aa (λhm hn=>?_) (λhm ho=>?_)))))
  ·refine Aw (AE (Ak (A6 (Ad (wm Aa (ck hn λhp hq=>wv (Bk (enc:=BN) (ys:=l) Ru OG Aa Aa hp) (wv (Cu Tryz.isAgg72 OG Aa Aa Aa) (BL (cs:=[rS ([]:Ai),rv (.slice none 0 0),A4 0]) Aaw Aa Aa (λhO=>?_)))))))));refine wa Aa (GU (i:=0) OG Aa Aa Aa (B8.c Aa) Aa Aa ?_);refine Ao (Ak (Ad (vF Rt Aa CE (vL 0 Dp Aa (Ck (rs:=[rS ((Ax l hb).fKey)]) (r:=rB (Jq ((Ax l hb).fKey))) Tryz.call115 Aa (Aby ((Ax l hb).fKey)) Aa Aa (wv (BO Aa) (Ao (cz hq Aa (λhr hs=>?_) (λhr ht=>?_)))))))))
   ·refine Ad (wa Aa (Ao (Ap (Ab (A3 (Ab (Ab (Bg ?_))))))));have hu:=BC hs hd he;refine A3 (Ab ?_);obtain rfl:=Au hu;exact Aq (B2 WX (AD Aa)) (sS sN) ⟨Aa,Aa⟩
   refine Aw (AE (Ak (Ad (vF Rt Aa C8 (vL 0 Eo Aa (ob ht λhw hx hy=>BP Tryz.call36 (Mj F ((Ax l hb).fValue) hw hx) Aa (wa Aa (Bp (wm Aa (wv (CH Aa Aa) (Ao (cz hy Aa (λhz h0=>?_) (λhz h1=>?_)))))))))))))
   ·refine Ad (wm Aa (wa Aa (Ao (Ap (Ab (A3 (Ab (Ab (Bg ?_)))))))));have h4:=BC h0 hd he;refine A3 (Ab ?_);obtain rfl:=Au h4;exact Aq (B2 WX (AD Aa)) (sS sN) ⟨Aa,Aa⟩
   refine Aw (AE (Ak (Ad (vF Rt Aa CK (vL 0 Df Aa (wv (Ci Aa Aa) (Ao (cz h1 Aa (λh5 h6=>?_) (λh5 h7=>?_)))))))))
   ·refine Ad (wa Aa (Ao (Ap (Ab (A3 (Ab (Ab (Bg ?_))))))));have h8:=BC h6 hd he;refine A3 (Ab ?_);obtain rfl:=Au h8;exact Aq (B2 WX (AD Aa)) (sS sN) ⟨Aa,Aa⟩
   refine Aw (AE (ck h7 λh9 hA=>ck hA λhB hC=>A5 [(0,AO 3 (A8 BN l)),(9,AO 3 (A8 BN l)),(10,A4 (l.length:Int)),(11,A4 hb),(41,rB ((decide (0<hb))&&(DX ((Ax l hb).fKey) ((Ax l (hb-1)).fKey)||decide (((Ax l hb).fKey)=((Ax l (hb-1)).fKey)))))] [] ?_ ?_))
   ·refine AA (decide (0<hb)) (λha=>?_) (λha=>?_)
    ·refine Du [0,3,4,9,10,11] ?_;refine rq (Am Aa) (rq (Dc Aa Aa) (rq (Am Aa) (rg ha (Az Rt Aa CE Aa Aa) (rg ha (AT (i:=0) Dp Aa Aa Aa) (rg ha (Am Aa) (rg ha (Am Aa) (rg ha (Gi Aa Aa (BF h9 ha)) (rg ha (Bk (enc:=BN) (ys:=l) Ru OG Aa Aa (BF hB ha)) (rg ha (Bs Rt Aa CE Aa Aa) (rg ha (Bb Dp Aa Aa) (rg ha (QQ Aa Aa) (rq (An Aa ha Aa) (re [41,0,9,10,11] ?_)))))))))))));exact BH ha
    refine Du [0,3,4,9,10,11] ?_;refine rq (Am Aa) (rq (Dc Aa Aa) (rq (Am Aa) (rz ha (rz ha (rz ha (rz ha (rz ha (rz ha (rz ha (rz ha (rz ha (rq (r:=rB false) (Ay (b:=decide (0<hb)) Aa ha Aa) (re [41,0,9,10,11] ?_)))))))))))));exact BH ha
   refine cz hC Aa (λhD hE=>?_) (λhD hG=>?_)
   ·refine Ad (wa Aa (Ao (Ap (A3 (Ab (Ab (Bg ?_)))))));have hH:=BC hE hd he;refine A3 (Ab ?_);obtain rfl:=Au hH;exact Aq (B2 WX (AD Aa)) sN ⟨Aa,Aa⟩
   refine Aw (AB (AE (Af (ck hG λhI hJ=>wv (By Aa Aa hI) (wm Aa (Ah ?_))))));have hK:=Bi hJ hd;exact Ar (AC (hk,hb+1,()) ⟨hK,AeR _⟩ (AH.c Aa (AH.c Aa (AH.c Aa (AH.c Aa AH.nil)))) sN)
  refine Bn (Av ?_);have hL:=BE ho hd he;exact Av (AY (AC ((),()) hL AH.nil sN))
 rintro⟨⟨⟩,⟨⟩⟩ hg;refine GX ?_;replace hg:Li =some r:=hg;unfold Li at hg;refine AW (AE (Ad (wa Aa (Ao (Ap ?_)))));obtain rfl:=Au hg;exact Aq (B2 WX (AD Aa)) sN ⟨Aa,Aa⟩
end Go.Proofs.YtmjlemhondjfhaaGreatDoor.Q
namespace Go.Proofs
open Go.Shelf
def Tryz.lays190_ren:Go.Shelf.Ren:=⟨fun | 190=>116 | 125=>161 | 258=>160 | 128=>196 | 129=>197 | 302=>187 | 303=>188 | 304=>189 | 305=>190 | 306=>191 | 307=>192 | 308=>193 | 309=>194 | 310=>195 | 333=>218 | 329=>219 | 330=>220 | 334=>221 | 335=>222 | 336=>223 | 344=>239 | n=>n,fun | 31=>22 | 9=>9 | 3=>3 | 46=>196 | 0=>0 | 51=>229 | 53=>231 | 4=>4 | 183=>223 | 182=>222 | 131=>166 | 5=>5 | 218=>242 | 222=>246 | 228=>263 | 229=>264 | n=>n,fun | n=>n⟩
theorem Tryz.lays190:Go.Proofs.Lays.n190 Tryz.prog Tryz.lays190_ren:={
 mixed:=by kernel_rfl
 f125:=Tryz.func161.trans (congrArg some (by kernel_rfl))
 f128:=Tryz.func196.trans (congrArg some (by kernel_rfl))
 f129:=Tryz.func197.trans (congrArg some (by kernel_rfl))
 f190:=Tryz.func116.trans (congrArg some (by kernel_rfl))
 f258:=Tryz.func160.trans (congrArg some (by kernel_rfl))
 f302:=Tryz.func187.trans (congrArg some (by kernel_rfl))
 f303:=Tryz.func188.trans (congrArg some (by kernel_rfl))
 f304:=Tryz.func189.trans (congrArg some (by kernel_rfl))
 f305:=Tryz.func190.trans (congrArg some (by kernel_rfl))
 f306:=Tryz.func191.trans (congrArg some (by kernel_rfl))
 f307:=Tryz.func192.trans (congrArg some (by kernel_rfl))
 f308:=Tryz.func193.trans (congrArg some (by kernel_rfl))
 f309:=Tryz.func194.trans (congrArg some (by kernel_rfl))
 f310:=Tryz.func195.trans (congrArg some (by kernel_rfl))
 f329:=Tryz.func219.trans (congrArg some (by kernel_rfl))
 f330:=Tryz.func220.trans (congrArg some (by kernel_rfl))
 f333:=Tryz.func218.trans (congrArg some (by kernel_rfl))
 f334:=Tryz.func221.trans (congrArg some (by kernel_rfl))
 f335:=Tryz.func222.trans (congrArg some (by kernel_rfl))
 f336:=Tryz.func223.trans (congrArg some (by kernel_rfl))
 f344:=Tryz.func239.trans (congrArg some (by kernel_rfl))
 t0:=Tryz.underlying0
 a0:=Tryz.isAgg0
 z0:=Tryz.sizeOf0
 v0:=Tryz.zeroValue0
 t3:=Tryz.underlying3
 a3:=Tryz.isAgg3
 z3:=Tryz.sizeOf3
 v3:=Tryz.zeroValue3
 t4:=Tryz.underlying4
 a4:=Tryz.isAgg4
 z4:=Tryz.sizeOf4
 v4:=Tryz.zeroValue4
 t5:=Tryz.underlying5
 a5:=Tryz.isAgg5
 z5:=Tryz.sizeOf5
 v5:=Tryz.zeroValue5
 t9:=Tryz.underlying9
 a9:=Tryz.isAgg9
 z9:=Tryz.sizeOf9
 v9:=Tryz.zeroValue9
 t31:=Tryz.underlying22
 a31:=Tryz.isAgg22
 z31:=Tryz.sizeOf22
 v31:=Tryz.zeroValue22
 t46:=Tryz.underlying196
 a46:=Tryz.isAgg196
 z46:=Tryz.sizeOf196
 v46:=Tryz.zeroValue196
 t51:=Tryz.underlying229
 a51:=Tryz.isAgg229
 z51:=Tryz.sizeOf229
 v51:=Tryz.zeroValue229
 t53:=Tryz.underlying231
 a53:=Tryz.isAgg231
 z53:=Tryz.sizeOf231
 v53:=Tryz.zeroValue231
 t131:=Tryz.underlying166
 a131:=Tryz.isAgg166
 z131:=Tryz.sizeOf166
 v131:=Tryz.zeroValue166
 t182:=Tryz.underlying222
 a182:=Tryz.isAgg222
 z182:=Tryz.sizeOf222
 v182:=Tryz.zeroValue222
 t183:=Tryz.underlying223
 a183:=Tryz.isAgg223
 z183:=Tryz.sizeOf223
 v183:=Tryz.zeroValue223
 t218:=Tryz.underlying242
 a218:=Tryz.isAgg242
 z218:=Tryz.sizeOf242
 v218:=Tryz.zeroValue242
 t222:=Tryz.underlying246
 a222:=Tryz.isAgg246
 z222:=Tryz.sizeOf246
 v222:=Tryz.zeroValue246
 t228:=Tryz.underlying263
 a228:=Tryz.isAgg263
 z228:=Tryz.sizeOf263
 v228:=Tryz.zeroValue263
 t229:=Tryz.underlying264
 a229:=Tryz.isAgg264
 z229:=Tryz.sizeOf264
 v229:=Tryz.zeroValue264 }
open Go.Sort Go.RowKit in
theorem Tryz.slices_Sort_string (blk off cap:Nat)(ss:List (List UInt8))(w:World)(hH:Holds encStr w blk off ss.toArray)(hblk:blk<w.heap.size)(hsz:ss.length<4611686018427387904) :
  Calls Tryz.prog 116 #[.slice (some ⟨blk,off,none⟩) ss.length cap] w λe w'=>
   e = .returned (.tuple #[])∧∃n os,w'=grow (putRow encStr (Sort.ahead w n) blk off (ss.mergeSort λx y=>decide (x≤y)).toArray) os:=Any.slices_Sort_string Tryz.lays190 blk off cap ss w hH hblk hsz
def Tryz.lays110_ren:Go.Shelf.Ren:=⟨fun | 110=>33 | 109=>93 | n=>n,fun | 31=>22 | 9=>9 | 4=>4 | 3=>3 | 0=>0 | n=>n,fun | n=>n⟩
theorem Tryz.lays110:Go.Proofs.Lays.n110 Tryz.prog Tryz.lays110_ren:={
 mixed:=by kernel_rfl
 f109:=Tryz.func93.trans (congrArg some (by kernel_rfl))
 f110:=Tryz.func33.trans (congrArg some (by kernel_rfl))
 t0:=Tryz.underlying0
 a0:=Tryz.isAgg0
 z0:=Tryz.sizeOf0
 v0:=Tryz.zeroValue0
 t3:=Tryz.underlying3
 a3:=Tryz.isAgg3
 z3:=Tryz.sizeOf3
 v3:=Tryz.zeroValue3
 t4:=Tryz.underlying4
 a4:=Tryz.isAgg4
 z4:=Tryz.sizeOf4
 v4:=Tryz.zeroValue4
 t9:=Tryz.underlying9
 a9:=Tryz.isAgg9
 z9:=Tryz.sizeOf9
 v9:=Tryz.zeroValue9
 t31:=Tryz.underlying22
 a31:=Tryz.isAgg22
 z31:=Tryz.sizeOf22
 v31:=Tryz.zeroValue22 }
open Go.Lib in
theorem Tryz.slices_Contains_string (b off n c:Nat)(zs:List ByteArray)(x:ByteArray)(w:World)(hz:n≤zs.length)(hbig:n≤9223372036854775807)(hc:∀j,j<zs.length→w.cell? ⟨b,off+j,none⟩=some (.string (zs.getD j ByteArray.empty))) :
  Calls Tryz.prog 33 #[.slice (some ⟨b,off,none⟩) n c,.string x] w λe w'=>e = .returned (.bool (Lib.containsS (zs.take n) x))∧w'=w:=Any.slices_Contains_string Tryz.lays110 b off n c zs x w hz hbig hc
open Go.Lib in
theorem Tryz.slices_Contains_string_empty (a:Option Addr)(c:Nat)(x:ByteArray)(w:World) :
  Calls Tryz.prog 33 #[.slice a 0 c,.string x] w λe w'=>e = .returned (.bool false)∧w'=w:=Any.slices_Contains_string_empty Tryz.lays110 a c x w
def Tryz.laysNm216_ren:Go.Shelf.Ren:=⟨fun | 16=>56 | n=>n,fun | 24=>22 | 9=>9 | 4=>4 | n=>n,fun | n=>n⟩
theorem Tryz.laysNm216:Go.Proofs.Lays2.n16 Tryz.prog Tryz.laysNm216_ren:={
 mixed:=by kernel_rfl
 f16:=Tryz.func56.trans (congrArg some (by kernel_rfl))
 t4:=Tryz.underlying4
 a4:=Tryz.isAgg4
 z4:=Tryz.sizeOf4
 v4:=Tryz.zeroValue4
 t9:=Tryz.underlying9
 a9:=Tryz.isAgg9
 z9:=Tryz.sizeOf9
 v9:=Tryz.zeroValue9
 t24:=Tryz.underlying22
 a24:=Tryz.isAgg22
 z24:=Tryz.sizeOf22
 v24:=Tryz.zeroValue22
 i9:=by kernel_rfl }
open Go.RowKit Go.Lib in
theorem Tryz.slices_Clone_string (b off n c:Nat)(zs:List ByteArray)(w:World)(hz:n≤zs.length)(hbig:n*16≤140737488355328)(hc:∀j,j<zs.length→w.cell? ⟨b,off+j,none⟩=some (.string (zs.getD j ByteArray.empty))) :
  Calls Tryz.prog 56 #[.slice (some ⟨b,off,none⟩) n c] w λe w'=>∃v',e = .returned v'∧w'.ownsRow w.heap.size 9 1 v' n ((zs.take n).map (Value.string))∧v'≠.slice none 0 0∧Below w.heap.size w w':=Any.slices_Clone_string Tryz.laysNm216 b off n c zs w hz hbig hc
open Go.RowKit Go.Lib in
theorem Tryz.slices_Clone_string_nil (n c:Nat)(w:World) :
  Calls Tryz.prog 56 #[.slice none n c] w λe w'=>e = .returned (.slice none 0 0)∧w'=w:=Any.slices_Clone_string_nil Tryz.laysNm216 n c w
open Go.RowKit Go.Lib in
theorem Tryz.slices_Clone_string_zero (a:Addr)(c:Nat)(w:World) :
  Calls Tryz.prog 56 #[.slice (some a) 0 c] w λe w'=>∃v',e = .returned v'∧w'.ownsRow w.heap.size 9 1 v' 0 []∧v'≠.slice none 0 0∧Below w.heap.size w w':=Any.slices_Clone_string_zero Tryz.laysNm216 a c w
def Tryz.lays194_ren:Go.Shelf.Ren:=⟨fun | 194=>117 | n=>n,fun | 31=>22 | 9=>9 | 3=>3 | 4=>4 | 0=>0 | n=>n,fun | n=>n⟩
theorem Tryz.lays194:Go.Proofs.Lays.n194 Tryz.prog Tryz.lays194_ren:={
 mixed:=by kernel_rfl
 f194:=Tryz.func117.trans (congrArg some (by kernel_rfl))
 t0:=Tryz.underlying0
 a0:=Tryz.isAgg0
 z0:=Tryz.sizeOf0
 v0:=Tryz.zeroValue0
 t3:=Tryz.underlying3
 a3:=Tryz.isAgg3
 z3:=Tryz.sizeOf3
 v3:=Tryz.zeroValue3
 t4:=Tryz.underlying4
 a4:=Tryz.isAgg4
 z4:=Tryz.sizeOf4
 v4:=Tryz.zeroValue4
 t9:=Tryz.underlying9
 a9:=Tryz.isAgg9
 z9:=Tryz.sizeOf9
 v9:=Tryz.zeroValue9
 t31:=Tryz.underlying22
 a31:=Tryz.isAgg22
 z31:=Tryz.sizeOf22
 v31:=Tryz.zeroValue22 }
open Go.RowKit Go.Lib Go.Sort in
theorem Tryz.slices_Compact_string (blk off cap:Nat)(zs:List (List UInt8))(w:World)(hH:Holds encStr w blk off zs.toArray)(hsz:zs.length≤9223372036854775807)(hcap:zs.length≤cap) :
  Calls Tryz.prog 117 #[.slice (some ⟨blk,off,none⟩) zs.length cap] w λe w'=>e = .returned (.slice (some ⟨blk,off,none⟩) (Lib.compact zs).length cap)∧∃q,w'=putRow encStr (Sort.ahead w q) blk off (Lib.compact zs++List.replicate (zs.length-(Lib.compact zs).length) []).toArray:=Any.slices_Compact_string Tryz.lays194 blk off cap zs w hH hsz hcap
open Go.RowKit Go.Lib Go.Sort in
theorem Tryz.slices_Compact_string_empty (a:Option Addr)(cap:Nat)(w:World) :
  Calls Tryz.prog 117 #[.slice a 0 cap] w λe w'=>e = .returned (.slice a 0 cap)∧w'=w:=Any.slices_Compact_string_empty Tryz.lays194 a cap w
open Go.RowKit Go.Sort in
theorem Tryz.slices_Sort_string_none (p:Option Addr)(cap:Nat)(w:World) :
  Calls Tryz.prog 116 #[.slice p 0 cap] w λe w'=>e = .returned (.tuple #[])∧w'=w:=Any.slices_Sort_string_none Tryz.lays190 p cap w
end Go.Proofs
namespace Go.Proofs.YtmjlemhondjfhaaGreatDoor
open Go Go.RowKit Go.Sort
set_option linter.unusedVariables false
set_option linter.unusedSimpArgs false
theorem XV (ss:List (List UInt8)):flat (ss.map Td)=ss.map encStr:=by
 induction ss with
 | nil=>rfl
 | cons s r ih=>simp[flat,Td,B,encStr] at ih ⊢;exact ih
theorem Y5 (ss:List (List UInt8)):∀c∈ss.map Td,c.length=1:=by
 intro c hc;obtain⟨s,_,rfl⟩:=List.mem_map.1 hc;rfl
theorem St.of_row {w w':World}{e:TypeId}{sz n:Nat}{v:Value}{xs:List Value}(hb:Below w.heap.size w w')(h:w'.ownsRow w.heap.size e sz v n xs):St w [] [.row v e sz n xs] w':=by
 have h0:=St.of_below hb;refine⟨h0.os,h0.tape,h0.output,h0.size,h0.old,?_,?_,by simp⟩
 ·intro en he;simp only[Afo] at he;subst he;refine⟨h.1,?_⟩;rcases h.2 with hn | ⟨g,cap,cur,rfl,hb,rest⟩
  ·exact .inl hn
  ·exact .inr ⟨g,cap,cur,rfl,Afv _,rest⟩
 ·intro en he k hk;simp only[Afo] at he;subst he;simp[Ent.foot,Option.mem_toList] at hk;exact .inl (h.lt k hk).1
theorem PX.of_row {w:World}{v:Value}{ss:List (List UInt8)}(h:(Ent.row v 9 1 ss.length (ss.map encStr)).holds w):PX w v ss:=by
 have h2:=Yf.of_row (sz:=1) (e:=9) (vs:=ss.map Td) (w:=w) (v:=v) (by rw[XV];simpa using h) (Y5 ss);exact h2
theorem PX.cells {w:World}{v:Value}{ss:List (List UInt8)}(h:PX w v ss):(∃cap,v = .slice none 0 cap∧ss=[])∨(∃a cap,v = .slice (some a) ss.length cap∧ss=[])∨
  (∃b off cap,v = .slice (some ⟨b,off,none⟩) ss.length cap∧∀j,j<ss.length→w.cell? ⟨b,off+j,none⟩=some (.string ((ss.map B).getD j ByteArray.empty))):=by
 obtain⟨A,cap,rfl,hc,hm,hi⟩:=h
 cases A with
 | none=>
  have:ss=[]:=by
   cases ss with
   | nil=>rfl
   | cons s r=>obtain⟨_,a,h,_⟩:=hi 0 (Td s) (by simp);cases h
  subst this;exact .inl ⟨cap,rfl,rfl⟩
 | some a=>
  cases hs:ss with
  | nil=>subst hs;exact .inr (.inl ⟨a,cap,rfl,rfl⟩)
  | cons s r=>
   obtain⟨_,a',h,hsp,_,_⟩:=hi 0 (Td s) (by simp[hs]);simp at h;subst h;obtain⟨b,off,spot⟩:=a;simp only at hsp;subst hsp;refine .inr (.inr ⟨b,off,cap,by simp[hs],λj hj=>?_⟩);rw[← hs] at hj ⊢;obtain⟨_,a',h,_,_,hcell⟩:=hi j (Td ss[j]) (by simp[hj]);simp at h;subst h;have:=hcell 0 _ rfl;simpa[hj] using this
theorem AbC (v:Value)(ss:List (List UInt8))(hl:ss.length≤8796093022208)(w:World)(h:PX w v ss) :
  Calls Tryz.prog 56 [v].toArray w (Ym w [] (λu H=>H=[.row u 9 1 ss.length (ss.map encStr)])):=by
 rcases h.cells with⟨cap,rfl,rfl⟩ | ⟨a,cap,rfl,rfl⟩ | ⟨b,off,cap,rfl,hc⟩
 ·refine(Tryz.slices_Clone_string_nil 0 cap w).mono λe w' ⟨he,hw⟩=>?_;subst hw;exact⟨_,_,he,St.of_row (Below.refl _ _) ⟨rfl,.inl ⟨rfl,rfl⟩⟩,rfl⟩
 ·refine(Tryz.slices_Clone_string_zero a cap w).mono λe w' ⟨v',he,ho,_,hb⟩=>?_;exact⟨_,_,he,St.of_row hb ho,rfl⟩
 ·refine(Tryz.slices_Clone_string b off ss.length cap (ss.map B) w (by simp) (by omega) (λj hj=>hc j (by simpa using hj))).mono λe w' ⟨v',he,ho,_,hb⟩=>?_;refine⟨_,_,he,St.of_row hb ho,?_⟩;simp[List.take_of_length_le,B]
theorem Acv (v:Value)(ss:List (List UInt8))(hl:ss.length≤8796093022208)(w:World)(h:(Ent.row v 9 1 ss.length (ss.map encStr)).holds w) :
  Calls Tryz.prog 116 [v].toArray w (Ym w (Ent.row v 9 1 ss.length (ss.map encStr)).foot (λu H=>u = .tuple #[]∧H=[.row v 9 1 (ss.mergeSort λx y=>decide (x≤y)).length ((ss.mergeSort λx y=>decide (x≤y)).map encStr)])):=by
 obtain⟨h1,h2⟩:=h;rcases h2 with⟨rfl,hn⟩ | ⟨g,cap,cur,rfl,_,hg,hc,hm,hsz,ht⟩
 ·have:ss=[]:=Afp hn;subst this;refine(Tryz.slices_Sort_string_none none 0 w).mono λe w' ⟨he,hw⟩=>?_;subst hw;exact⟨_,_,he,St.of_row (e:=9) (sz:=1) (n:=0) (xs:=[]) (Below.refl _ _) ⟨rfl,.inl ⟨rfl,rfl⟩⟩,rfl,by simp⟩
 ·have hb:=(Array.getElem?_eq_some_iff.1 hg).1;refine(Tryz.slices_Sort_string g 0 cap ss w (holds_of_block hg (by simpa using ht)) hb (by omega)).mono λe w' ⟨he,n,os,hw⟩=>?_;subst hw;have hgb:=grownBy_sorted (w:=w) (g:=g) (n:=n) (os:=os) (ss.mergeSort λx y=>decide (x≤y)).toArray;have ho:=ownsRow_sorted (w:=w) (base:=0) (g:=g) (cap:=cap) (n:=n) (e:=9) (os:=os) (cur:=cur) (ss:=ss) (ts:=ss.mergeSort λx y=>decide (x≤y)) (by simp) (Afv _) hg hc hm hsz;refine⟨_,_,he,⟨hgb.os,hgb.tape,hgb.output,hgb.size,λk hk hne=>hgb.block k hk (λe=>hne ?_),?_,?_,by simp⟩,rfl,rfl⟩
  ·simp only[Option.some.injEq] at e;simp[Ent.foot,Value.ownBlock,e]
  ·intro en he;simp only[Afo] at he;subst he;rw[List.length_mergeSort];exact ho
  ·intro en he k hk;simp only[Afo] at he;subst he;exact .inr hk
theorem Ya (v:Value)(ss:List (List UInt8))(hl:ss.length≤8796093022208)(w:World)(h:(Ent.row v 9 1 ss.length (ss.map encStr)).holds w) :
  Calls Tryz.prog 117 [v].toArray w (Ym w (Ent.row v 9 1 ss.length (ss.map encStr)).foot (λu H=>H=[.row u 9 1 (Lib.compact ss).length ((Lib.compact ss).map encStr)])):=by
 obtain⟨h1,h2⟩:=h;rcases h2 with⟨rfl,hn⟩ | ⟨g,cap,cur,rfl,_,hg,hc,hm,hsz,ht⟩
 ·have:ss=[]:=Afp hn;subst this;refine(Tryz.slices_Compact_string_empty none 0 w).mono λe w' ⟨he,hw⟩=>?_;subst hw;exact⟨_,_,he,St.of_row (Below.refl _ _) ⟨rfl,.inl ⟨rfl,rfl⟩⟩,rfl⟩
 ·have hb:=(Array.getElem?_eq_some_iff.1 hg).1;have hcl:(Lib.compact ss).length≤ss.length:=Lib.compact_length_le ss;refine(Tryz.slices_Compact_string g 0 cap ss w (holds_of_block hg (by simpa using ht)) (by omega) hc).mono λe w' ⟨he,q,hw⟩=>?_;subst hw;have ho:=Lib.ownsRow_putRow (enc:=encStr) (w:=w) (base:=0) (e:=9) (g:=g) (n:=ss.length) (cap:=cap) (q:=q) (k:=(Lib.compact ss).length) (zs:=ss) (ys:=Lib.compact ss++List.replicate (ss.length-(Lib.compact ss).length) [])
   ⟨h1,.inr ⟨g,cap,cur,rfl,Afv _,hg,hc,hm,hsz,ht⟩⟩ (by simp;omega) hcl
  rw[List.take_left] at ho;refine⟨_,_,he,⟨rfl,rfl,rfl,by simp[Sort.ahead],λk hk hne=>?_,?_,?_,by simp⟩,rfl⟩
  ·have:g≠k:=λe=>hne (by simp[Ent.foot,Value.ownBlock,e]);simp[putRow,mapBlock,Sort.ahead,Array.getElem?_modify,this]
  ·intro en he;simp only[Afo] at he;subst he;exact ho
  ·intro en he k hk;simp only[Afo] at he;subst he;exact .inr (by simpa[Ent.foot,Value.ownBlock] using hk)
section
variable {P : Program} {n : Nat} {w0 : World} {M : List Nat} {l : Fr} {H : List Ent} {d : Option Nat} {x y : Operand} {ty t e : TypeId} {pos : String} {af : Array Edge} {g : Option (Nat × Bool)} {v : Value} {ss : List (List UInt8)} {i : Int}
end
def Ml (ss:List (List UInt8)):List (List UInt8):=Lib.compact (ss.mergeSort λx y=>decide (x≤y))
open Go
structure Ba where
 fMade:Bool
 fA:AV
 fItems:(List (Ai×(List Ac)))
 fVault:Unit
 fCalls:Int
 fEffects:(List Bo)
 fReads:(List Ai)
 fLog:(List Ai)
 deriving DecidableEq,Inhabited
def KH (ys:(List Ai)):Option ((List Ai)):=
 AX (Eh 16 (([]:List Ai).length+ys.length))<|some (([]:List Ai)++ys)
def Sw (ys:(List AI)):Option ((List AI)):=
 AX (Eh 40 (([]:List AI).length+ys.length))<|some (([]:List AI)++ys)
def Sz (ys:(List Aj)):Option ((List Aj)):=
 AX (Eh 56 (([]:List Aj).length+ys.length))<|some (([]:List Aj)++ys)
def MH (l:(List BS))(ha:Int)(hb:(List (Ai×(List Ac)))):Option (Stp (Int×(List (Ai×(List Ac)))) (Out (Ba×Unit) ((List (Ai×(List Ac)))))):=
 Bz (decide (ha<(l.length:Int))) (AX (Ch ha (l.length:Int))<|Bv (Hq ((Ax l ha).fValue)) λhd=>AX (BG .i64 (ha+1))<|some (.next (ha+1,Jo hb ((Ax l ha).fKey) hd))) (some (.out (.go hb)))
def MF (a:AV)(ha:(List Ai))(hb:(List AI))(hd:(List Aj))(he:(List (Ai×(List Ac)))):Option (Ba×Unit):=
 some ((Ba.mk true (AV.mk a.fTenant a.fFunction ha hd hb a.fNow) he () 0 ([]:List Bo) ([]:List Ai) ([]:List Ai)),())
def MI (he:(List Aj))(ha:Int)(hb:(List Aj)):Option (Stp (Int×(List Aj)) (Out (Ba×Unit) ((List Aj)))):=
 Bz (decide (ha<(he.length:Int))) (AX (Ch ha (hb.length:Int))<|Bv (KH ((Ax hb ha).fActions)) λhd=>Bv (KH ((Ax hb ha).fResources)) λhf=>AX (Ch ha ((List.set hb (Int.toNat ha) (Aj.mk ((Ax hb ha).fAllow) hd ((Ax hb ha).fResources))).length:Int))<|AX (BG .i64 (ha+1))<|some (.next (ha+1,List.set (List.set hb (Int.toNat ha) (Aj.mk ((Ax hb ha).fAllow) hd ((Ax hb ha).fResources))) (Int.toNat ha) (Aj.mk ((Ax (List.set hb (Int.toNat ha) (Aj.mk ((Ax hb ha).fAllow) hd ((Ax hb ha).fResources))) ha).fAllow) ((Ax (List.set hb (Int.toNat ha) (Aj.mk ((Ax hb ha).fAllow) hd ((Ax hb ha).fResources))) ha).fActions) hf)))) (some (.out (.go hb)))
def MG (F:Nat)(a:AV)(l:(List BS))(ha:(List Ai))(hb:(List AI))(hd:(List Aj)):Option (Ba×Unit):=
 Bv (BX (λσ=>MH l σ.1 σ.2) F (0,([]:List (Ai×(List Ac))))) (BT λν=>MF a ha hb hd ν)
def Ue (F:Nat)(a:AV)(l:(List BS)):Option (Ba×Unit):=
 Bv (JN F a) λr2=>Bz (!decide (r2=0)) (none) (Bv (Sn F l) λr8=>Bz (!decide (r8=0)) (none) (Bv (KH a.fOps) λhb=>Bv (Sw a.fNet) λhd=>Bv (Sz a.fPolicy) λha=>Bv (BX (λσ=>MI ha σ.1 σ.2) F (0,ha)) (BT λν=>MG F a l hb hd ν)))
def ML (l:(List BS))(ha:Int)(hb:(List (Ai×(List Ac)))):Option (Stp (Int×(List (Ai×(List Ac)))) (Out (Unit×Int) ((List (Ai×(List Ac)))))):=
 Bz (decide (ha<(l.length:Int))) (AX (Ch ha (l.length:Int))<|Bv (Hq ((Ax l ha).fValue)) λhd=>AX (BG .i64 (ha+1))<|some (.next (ha+1,Jo hb ((Ax l ha).fKey) hd))) (some (.out (.go hb)))
def MJ (ha:(List (Ai×(List Ac)))):Option (Unit×Int):=
 none
def MM (he:(List Aj))(ha:Int)(hb:(List Aj)):Option (Stp (Int×(List Aj)) (Out (Unit×Int) ((List Aj)))):=
 Bz (decide (ha<(he.length:Int))) (AX (Ch ha (hb.length:Int))<|Bv (KH ((Ax hb ha).fActions)) λhd=>Bv (KH ((Ax hb ha).fResources)) λhf=>AX (Ch ha ((List.set hb (Int.toNat ha) (Aj.mk ((Ax hb ha).fAllow) hd ((Ax hb ha).fResources))).length:Int))<|AX (BG .i64 (ha+1))<|some (.next (ha+1,List.set (List.set hb (Int.toNat ha) (Aj.mk ((Ax hb ha).fAllow) hd ((Ax hb ha).fResources))) (Int.toNat ha) (Aj.mk ((Ax (List.set hb (Int.toNat ha) (Aj.mk ((Ax hb ha).fAllow) hd ((Ax hb ha).fResources))) ha).fAllow) ((Ax (List.set hb (Int.toNat ha) (Aj.mk ((Ax hb ha).fAllow) hd ((Ax hb ha).fResources))) ha).fActions) hf)))) (some (.out (.go hb)))
def MK (F:Nat)(l:(List BS))(ha:(List Aj)):Option (Unit×Int):=
 Bv (BX (λσ=>ML l σ.1 σ.2) F (0,([]:List (Ai×(List Ac))))) (BT λν=>MJ ν)
def ZJ (F:Nat)(a:AV)(l:(List BS)):Option (Unit×Int):=
 Bv (JN F a) λr2=>Bz (!decide (r2=0)) (some ((),r2)) (Bv (Sn F l) λr8=>Bz (!decide (r8=0)) (some ((),r8)) (Bv (KH a.fOps) λhb=>Bv (Sw a.fNet) λhd=>Bv (Sz a.fPolicy) λha=>Bv (BX (λσ=>MM ha σ.1 σ.2) F (0,ha)) (BT λν=>MK F l ν)))
def MN (ha:Int):Option (Stp (Int) (Out ((List Ac)×Ba) (Unit))):=
 AX (BG .i64 (ha-1))<|some (.next (ha-1))
def OA (o:Ba)(key:Ai)(ha:Int):Option (Stp (Int) (Out ((List Ac)×Ba) (Unit))):=
 Bz (decide (0≤ha)) (AX (Ch ha (o.fEffects.length:Int))<|Bz (!decide (((Ax o.fEffects ha).fKey)=key)) (MN ha ) (Bz (decide (((Ax o.fEffects ha).fKind)=1)) (Bv (Hq ((Ax o.fEffects ha).fValue)) λhb=>some (.out (.ret (hb,(Ba.mk o.fMade o.fA o.fItems () o.fCalls o.fEffects o.fReads o.fLog))))) (Bz (decide (((Ax o.fEffects ha).fKind)=2)) (Bv (QC) λhd=>some (.out (.ret (hd,(Ba.mk o.fMade o.fA o.fItems () o.fCalls o.fEffects o.fReads o.fLog))))) (MN ha )))) (some (.out (.go ())))
def O9 (o:Ba)(key:Ai):Option ((List Ac)×Ba):=
 AX (Eh 16 (o.fReads.length+([key]:List Ai).length))<|Bz (Kf o.fItems key) (Bv (Hq (Nu o.fItems key ([]:(List Ac)))) λha=>some (ha,(Ba.mk o.fMade o.fA o.fItems () o.fCalls o.fEffects (o.fReads++([key]:List Ai)) o.fLog))) (Bv (QC) λhb=>some (hb,(Ba.mk o.fMade o.fA o.fItems () o.fCalls o.fEffects (o.fReads++([key]:List Ai)) o.fLog)))
def AcR (F:Nat)(o:Ba)(key:Ai):Option ((List Ac)×Ba):=
 AX (BG .i64 ((o.fEffects.length:Int)-1))<|Bv (BX (λσ=>OA o key σ) F ((o.fEffects.length:Int)-1)) (BT λν=>O9 o key )
def Qx (F:Nat)(o:Ba)(v:BJ)(he:(List B5))(q:AQ):Option (Em×Ba):=
 Bz (!o.fMade) (Bv (Gf ([]:List Ac) 10) λr5=>some (r5,(Ba.mk o.fMade o.fA o.fItems () o.fCalls o.fEffects o.fReads o.fLog))) (Bz (decide (32≤o.fCalls)) (Bv (Gf ([]:List Ac) 3) λhj=>some (hj,(Ba.mk o.fMade o.fA o.fItems () o.fCalls o.fEffects o.fReads o.fLog))) (AX (BG .i64 (o.fCalls+1))<|Bv (CI F o.fA q) λhf=>Bz (!decide (hf=0)) (Bv (Gf ([]:List Ac) hf) λhk=>some (hk,(Ba.mk o.fMade o.fA o.fItems () (o.fCalls+1) o.fEffects o.fReads o.fLog))) (Bv (So q) λhb=>Bz (hb.2) (AX (Eh 56 (o.fEffects.length+([hb.1]:List Bo).length))<|Bv (QC) λhl=>Bv (Gf hl 0) λhm=>some (hm,(Ba.mk o.fMade o.fA o.fItems () (o.fCalls+1) (o.fEffects++([hb.1]:List Bo)) o.fReads o.fLog))) (Bz (decide (q.fOp=([103,101,116]:Ai))) (AX (Ch 0 (q.fArgs.length:Int))<|Bv (Lu (Ax q.fArgs 0)) λhn=>Bv (AcR F (Ba.mk o.fMade o.fA o.fItems () (o.fCalls+1) o.fEffects o.fReads o.fLog) hn.1) λha=>Bv (Gf ha.1 0) λho=>some (ho,(Ba.mk ha.2.fMade ha.2.fA ha.2.fItems () ha.2.fCalls ha.2.fEffects ha.2.fReads ha.2.fLog))) (Bz (decide (q.fOp=([115,101,99,114,101,116]:Ai))) (AX (Ch 0 (q.fArgs.length:Int))<|Bv (Lu (Ax q.fArgs 0)) λhp=>Bv (UV v he hp.1 o.fA.fFunction) λhd=>Bz (!decide (hd.2.2=0)) (Bv (Gf ([]:List Ac) hd.2.2) λhq=>some (hq,(Ba.mk o.fMade o.fA o.fItems () (o.fCalls+1) o.fEffects o.fReads o.fLog))) (Bv (Acn F hd.1) λhg=>Bv (Gf hg.1 hg.2) λhr=>some (hr,(Ba.mk o.fMade o.fA o.fItems () (o.fCalls+1) o.fEffects o.fReads o.fLog)))) (Bz (decide (q.fOp=([102,101,116,99,104]:Ai))) (AX (Ch 1 (q.fArgs.length:Int))<|Bv (Hq (Ax q.fArgs 1)) λhs=>Bv (Gf hs 0) λht=>some (ht,(Ba.mk o.fMade o.fA o.fItems () (o.fCalls+1) o.fEffects o.fReads o.fLog))) (Bz (decide (q.fOp=([110,111,119]:Ai))) (Bv (Acp F o.fA.fNow) λhh=>Bv (Gf hh.1 hh.2) λhu=>some (hu,(Ba.mk o.fMade o.fA o.fItems () (o.fCalls+1) o.fEffects o.fReads o.fLog))) (AX (Ch 0 (q.fArgs.length:Int))<|Bv (R1 F (Ax q.fArgs 0)) λhw=>Bv (Pd F v he hw.1) λhi=>AX (Eh 16 (o.fLog.length+([hi]:List Ai).length))<|Bv (QC) λhx=>Bv (Gf hx 0) λhy=>some (hy,(Ba.mk o.fMade o.fA o.fItems () (o.fCalls+1) o.fEffects o.fReads (o.fLog++([hi]:List Ai))))))))))))
def II (o:Ba)(hb:(List Bo))(ha:Int):Option (Stp ((List Bo)×Int) (Out ((List Bo)) ((List Bo)))):=
 Bz (decide (ha<(o.fEffects.length:Int))) (AX (Ch ha (o.fEffects.length:Int))<|Bv (Hq ((Ax o.fEffects ha).fValue)) λhd=>AX (Eh 56 (hb.length+([(Bo.mk ((Ax o.fEffects ha).fKind) ((Ax o.fEffects ha).fKey) hd ((Ax o.fEffects ha).fDelay))]:List Bo).length))<|AX (BG .i64 (ha+1))<|some (.next (hb++([(Bo.mk ((Ax o.fEffects ha).fKind) ((Ax o.fEffects ha).fKey) hd ((Ax o.fEffects ha).fDelay))]:List Bo),ha+1))) (some (.out (.go hb)))
def IH (ha:(List Bo)):Option ((List Bo)):=
 some ha
def PJ (F:Nat)(o:Ba):Option ((List Bo)):=
 Bv (BX (λσ=>II o σ.1 σ.2) F (([]:List Bo),0)) (BT λν=>IH ν)
def Sk (o:Ba):Option ((List Ai)):=
 AX (Eh 16 o.fReads.length)<|some (Ml o.fReads)
end Go.Proofs.YtmjlemhondjfhaaGreatDoor
namespace Go.Proofs.YtmjlemhondjfhaaGreatDoor.Q
open Go Go.RowKit
set_option linter.unusedVariables false
section
variable {P : Program} {n : Nat} {c : Cx} {x : Code} {Q : Exit → Act → World → Prop} {l : Fr} {H : List Ent}
end
section
variable {P : Program} {n : Nat} {c : Cx} {opsA : Array Oper} {Q : Exit → Act → World → Prop} {l : Fr} {H : List Ent} {d : Nat} {ty : TypeId} {pos : String} {af : Array Edge}
end
section
variable {P : Program} {n : Nat} {c : Cx} {l : Fr} {H : List Ent} {d : Option Nat} {ty rty t e e' : TypeId} {pos : String} {af : Array Edge} {g : Option (Nat × Bool)} {x : Operand} {sz : Nat} {xs : List (List Rp)} {v : Value}
end
set_option linter.unusedSimpArgs false
def YB (v:Value)(i:Nat):Value:=match v with
 | .slice A _ cap=>.slice A i cap
 | v=>v
section
variable {P : Program} {n : Nat} {c : Cx} {ops : Array Oper} {Q : Exit → Act → World → Prop} {K : Act → World → Prop} {rest : List Oper} {l : Fr} {H : List Ent} {d : Nat} {d' : Option Nat} {x y z3 z4 : Operand} {ty t e : TypeId} {pos : String} {af : Array Edge} {g : Option (Nat × Bool)} {v : Value} {sz : Nat}
theorem Xj:∀(zs:List (List Rp)) (k:Nat),(∀c∈zs,c.length=sz)→(zs.take k).flatten=zs.flatten.take (k*sz):=by
 intro zs
 induction zs with
 | nil=>intro k _;simp
 | cons z zs ih=>
  intro k hk
  cases k with
  | zero=>simp
  | succ k=>
   have hzl:=hk z (by simp);simp only[List.take_succ_cons,List.flatten_cons];rw[ih k (λc hc=>hk c (by simp[hc]))];have e1:(k+1)*sz=z.length+k*sz:=by rw[hzl,Nat.succ_mul];omega
   rw[e1,List.take_length_add_append]
theorem St.cut {Z:Fz}{w:World}{α:Type}{ys:List α}{enc:α→List Rp}{i k:Nat}(hw:St c H Z w)(hi:H[i]? =some (.row v e sz (ys.map enc)))(hk:k≤ys.length):St c (H.set i (.row (YB v k) e sz ((ys.take k).map enc))) Z w:=by
 obtain⟨h0,us,⟨h1,h2⟩,h3⟩:=hw.ent hi;rcases h2 with⟨rfl,hz0⟩ | ⟨b,cap,cur,rfl,_,hb,hcap,hm,hcs,htk⟩
 ·simp at hz0;subst hz0;obtain rfl:k=0:=by simpa using hk
  exact hw.set hi rfl rfl rfl (Afm _) (λ_ _ _=>rfl) ⟨by simp,[],⟨by simp,.inl ⟨rfl,by simp⟩⟩,trivial⟩ (by simp[Ent.foot,Value.ownBlock,YB])
 ·simp only[Afi] at h1 hcap htk;refine hw.set hi rfl rfl rfl (Afm _) (λ_ _ _=>rfl) ⟨λcl hcl=>?_,us.take (k*sz),⟨?_,.inr ⟨b,cap,cur,?_,Afv _,hb,?_,hm,hcs,?_⟩⟩,?_⟩ (by simp[Ent.foot,Value.ownBlock,YB])
  ·rw[List.map_take] at hcl;exact h0 cl (List.mem_of_mem_take hcl)
  ·rw[Af8,h1,Afi,Af8,Nat.min_eq_left hk];exact Nat.min_eq_left (Nat.mul_le_mul_right _ hk)
  ·simp[Nat.min_eq_left hk,YB]
  ·simp;omega
  ·rw[Afi,Af8,Nat.min_eq_left hk,← htk,List.take_take,Nat.min_eq_left (Nat.mul_le_mul_right _ hk)]
  ·rw[List.map_take,Xj _ _ h0];exact h3.take _
theorem WK.cut {α:Type}{ys:List α}{enc:α→List Rp}(i k:Nat)(hi:H[i]? =some (.row v e sz (ys.map enc)))(hk:k≤ys.length)(h:WK n c K l (H.set i (.row (YB v k) e sz ((ys.take k).map enc)))):WK n c K l H:=λa w Z ha hw=>h a w Z ha (hw.cut hi hk)
end
section
variable {P : Program} {n : Nat} {c : Cx} {ops : Array Oper} {Q : Exit → Act → World → Prop} {rest : List Oper} {l : Fr} {H : List Ent} {d : Nat} {ty t kt et rty : TypeId} {pos : String} {af : Array Edge} {x y u : Operand} {K : Act → World → Prop} {cx : Code}
variable {T : Type} {enc : T → Rp} {xs ys : List (Ai × T)} {i b it : Nat} {m lf : List (List UInt8 × Rp)} {cur : Option (List UInt8 × Rp)} {k : Ai} {r : Rp}
end
end Go.Proofs.YtmjlemhondjfhaaGreatDoor.Q
namespace Go.Proofs.YtmjlemhondjfhaaGreatDoor
open Go Go.RowKit
set_option linter.unusedVariables false
set_option linter.unusedSimpArgs false
set_option maxRecDepth 100000
theorem Y9 (v:Value)(ss:List (List UInt8))(hl:ss.length≤8796093022208)(w:World)(hv:PX w v ss):Calls Tryz.prog 60 [v].toArray w (Ym w [] (λu H=>H=[.row u 9 1 (Ml ss).length ((Ml ss).map encStr)])):=by
 refine Ey (n:=10) Tryz.func60 rfl Tryz.ntmps60 rfl (Ak (Af (As (A0 rfl) rfl (Ah (Ar (AG ?_))))));refine Ak (Af (As (Am rfl) rfl (VR UF rfl (λw hw=>AbC v ss (by first | assumption | (simp;assumption)) w (hv.st0 hw)) rfl ?_)));rintro ha _ rfl;refine As (A0 rfl) rfl (Ah (Ar (AG ?_)));refine Ak (Af (As (Am rfl) rfl (VS (i:=0) Tryz.call116 rfl rfl (λw hw he=>Acv ha ss (by first | assumption | (simp;assumption)) w he) rfl ?_)));rintro _ _ ⟨rfl,rfl⟩;refine Ah (Ar (AG ?_));refine Ak (Af (As (Am rfl) rfl (VS (i:=0) Tryz.call117 rfl rfl (λw hw he=>Ya ha (ss.mergeSort λx y=>decide (x≤y)) (by first | assumption | (simp;assumption)) w he) rfl ?_)));rintro hb _ rfl;refine As (A0 rfl) rfl (Ah (Ar (AG ?_)));exact Ap (Aq (B2 rfl rfl) (λw hw=>⟨_,_,rfl,hw,rfl⟩))
end Go.Proofs.YtmjlemhondjfhaaGreatDoor
namespace Go.Proofs.YtmjlemhondjfhaaGreatDoor.Q
open Go Go.RowKit Go.Proofs
set_option linter.unusedVariables false
theorem AaH {Z:Fz}{v:Value}{vs:List Value}(h:Bw Z [rv v] vs):vs=[v]:=Bw.eq_rv (us:=[v]) h
theorem VU {Z:Fz}:∀{ss:List Ai} {us:List Value},Bw Z (ss.map eS).flatten us→us=ss.map encStr
 | [],[],_=>rfl
 | s::r,u::us,⟨h1,h2⟩=>by
  rw[show u=Value.string (B s) from h1,VU (ss:=r) (us:=us) h2];rfl
theorem Wa {Z:Fz}:∀ss:List Ai,Bw Z (ss.map eS).flatten (ss.map encStr)
 | []=>trivial
 | s::r=>⟨rfl,Wa r⟩
theorem AaJ {Z:Fz}{w:World}{v:Value}{e:TypeId}{ss:List Ai}(h:(Ent.row v e 1 (ss.map eS)).holds Z w):(Proofs.YtmjlemhondjfhaaGreatDoor.Ent.row v e 1 ss.length (ss.map encStr)).holds w:=by
 obtain⟨_,us,h1,h2⟩:=h;rw[VU h2,Afi] at h1;exact h1
theorem AaK {Z:Fz}{w:World}{v:Value}{e:TypeId}{ss:List Ai}(h:(Proofs.YtmjlemhondjfhaaGreatDoor.Ent.row v e 1 ss.length (ss.map encStr)).holds w):(Ent.row v e 1 (ss.map eS)).holds Z w:=
 ⟨λc hc=>by obtain⟨y,_,rfl⟩:=List.mem_map.1 hc;rfl,ss.map encStr,by rw[Afi];exact h,Wa ss⟩
theorem XN (v:Value)(ss:List Ai)(g:Eh 16 ss.length=true):Fn Tryz.prog GE 60 [rv v] [.row v 9 1 (ss.map eS)] (λR H=>∃u:Value,R=rv u∧H=[.row u 9 1 ((Ml ss).map eS),.row v 9 1 (ss.map eS)]):=λw Z vs hv hs=>by
 have e:=AaH hv;subst e;have hl:ss.length≤8796093022208:=by have:=Afy g;omega
 have hc:=Y9 v ss hl w (PX.of_row (AaJ (hs.ent (i:=0) rfl)));refine hc.mono ?_;rintro e w' ⟨u,H,rfl,ht,rfl⟩;refine⟨_,u,_,Z,rfl,⟨u,rfl,rfl⟩,rfl,hs.add ht.os ht.tape ht.output ht.size (λk hk=>ht.old k hk (by simp)) (AaK (ht.has _ (List.mem_cons_self ..))) (λk hk=>?_)⟩;rcases ht.own _ (List.mem_cons_self ..) k hk with h | h
 ·exact h
 ·cases h
open Go Go.RowKit
set_option linter.unusedSimpArgs false
set_option maxRecDepth 100000
set_option maxHeartbeats 4000000
@[reducible] def A9 (x:(List Ac)):Rp:=AO 4 (A8 Ae x)
theorem Nw (Z:Fz):(A9 ([]:(List Ac))).p Z (.slice none 0 0):=UB.nil _ _
theorem ZD:∃inf,Tryz.prog.info? 60=some inf∧inf.zero=some (.agg #[(.int .i64 0),(.string ⟨#[]⟩),(.slice none 0 0),(.int .i64 0)])∧inf.size=4∧inf.bytes=56:=by
  have key:(Tryz.prog.info? 60).map (λi=>(i.zero,i.size,i.bytes))=some (some (.agg #[(.int .i64 0),(.string ⟨#[]⟩),(.slice none 0 0),(.int .i64 0)]),4,56):=by kernel_rfl
  obtain⟨inf,h1,h2⟩:=Option.map_eq_some_iff.1 key;simp only[Prod.mk.injEq] at h2;exact⟨inf,h1,h2.1,h2.2.1,h2.2.2⟩
theorem Abw:∃inf,Tryz.prog.info? 100=some inf∧inf.zero=some (.agg #[(.bool false),(.slice none 0 0),(.slice none 0 0)])∧inf.size=3∧inf.bytes=56:=by
  have key:(Tryz.prog.info? 100).map (λi=>(i.zero,i.size,i.bytes))=some (some (.agg #[(.bool false),(.slice none 0 0),(.slice none 0 0)]),3,56):=by kernel_rfl
  obtain⟨inf,h1,h2⟩:=Option.map_eq_some_iff.1 key;simp only[Prod.mk.injEq] at h2;exact⟨inf,h1,h2.1,h2.2.1,h2.2.2⟩
theorem Abv:∃inf,Tryz.prog.info? 111=some inf∧inf.zero=some (.agg #[(.bool false),(.int .i64 0),(.int .i64 0),(.int .i64 0),(.int .i64 0)])∧inf.size=5∧inf.bytes=40:=by
  have key:(Tryz.prog.info? 111).map (λi=>(i.zero,i.size,i.bytes))=some (some (.agg #[(.bool false),(.int .i64 0),(.int .i64 0),(.int .i64 0),(.int .i64 0)]),5,40):=by kernel_rfl
  obtain⟨inf,h1,h2⟩:=Option.map_eq_some_iff.1 key;simp only[Prod.mk.injEq] at h2;exact⟨inf,h1,h2.1,h2.2.1,h2.2.2⟩
theorem Vm (v : Value) (w : World) : (method (Tryz.prog.types.size + Made.depth) 40 v "Read").run Tryz.prog w = .ok (264, v) w := by kernel_rfl
theorem P9 (v : Value) (w : World) : (method (Tryz.prog.types.size + Made.depth) 40 v "Redact").run Tryz.prog w = .ok (265, v) w := by kernel_rfl
theorem AbD (parts:List (Nat×Value)):Tryz.prog.built 81 parts=Instr.fill (λi=>(#[(0,1),(1,6),(7,1),(8,1),(9,1),(10,1),(11,1),(12,1)]:Array (Nat×Nat))[i]?) #[(.bool false),(.string ⟨#[]⟩),(.string ⟨#[]⟩),((.slice none 0 0)),((.slice none 0 0)),((.slice none 0 0)),(.int .i64 0),((.map none)),((.nilIface)),(.int .i64 0),((.slice none 0 0)),((.slice none 0 0)),((.slice none 0 0))] parts:=by kernel_rfl
theorem ID {n:Nat}{c:Cx}{l:Fr}{H:List Ent}{d:Option Nat}{ty:TypeId}{pos:String}{af:Array Edge}{g:Option (Nat×Bool)}{x0:Operand}{r0:Rp}(h0:ev l x0=some r0)(u0:r0.one=true){x1:Operand}{r1_0 r1_1 r1_2 r1_3 r1_4 r1_5:Rp}(h1:ev l x1=some (B9 [r1_0,r1_1,r1_2,r1_3,r1_4,r1_5])){x2:Operand}{r2:Rp}(h2:ev l x2=some r2)(u2:r2.one=true){x3:Operand}{r3:Rp}(h3:ev l x3=some r3)(u3:r3.one=true):B4 Tryz.prog n c l H { dst:=d,op:=.build 81 #[(0,x0),(1,x1),(2,x2),(3,x3)],type:=ty,pos:=pos,after:=af,guard:=g } (B9 [r0,r1_0,r1_1,r1_2,r1_3,r1_4,r1_5,r2,r3,A4 0,rv (.slice none 0 0),rv (.slice none 0 0),rv (.slice none 0 0)]):=λa w Z ha _=>by
  have p0:=ha.ev h0;have c0:=B1 (r0.hone u0 Z _ p0);obtain⟨us1,e1,q1⟩:=ha.ev h1;obtain⟨y1_0,y1_1,y1_2,y1_3,y1_4,y1_5,rfl,q1⟩:=Bw.d6 q1;have p2:=ha.ev h2;have c2:=B1 (r2.hone u2 Z _ p2);have p3:=ha.ev h3;have c3:=B1 (r3.hone u3 Z _ p3);have cg:∀cs:Array Value,(Value.agg cs).cells=cs:=λ_=>rfl;have hb:Tryz.prog.built 81 [(0,a.eval x0),(1,a.eval x1),(2,a.eval x2),(3,a.eval x3)]=some #[a.eval x0,y1_0,y1_1,y1_2,y1_3,y1_4,y1_5,a.eval x2,a.eval x3,(.int .i64 0),((.slice none 0 0)),((.slice none 0 0)),((.slice none 0 0))]:=by
    rw[AbD];generalize a.eval x0=v0 at *;generalize a.eval x2=v2 at *;generalize a.eval x3=v3 at *;simp[Instr.fill,c0,e1,c2,c3,cg]
  refine⟨.agg #[a.eval x0,y1_0,y1_1,y1_2,y1_3,y1_4,y1_5,a.eval x2,a.eval x3,(.int .i64 0),((.slice none 0 0)),((.slice none 0 0)),((.slice none 0 0))],⟨[a.eval x0,y1_0,y1_1,y1_2,y1_3,y1_4,y1_5,a.eval x2,a.eval x3,(.int .i64 0),((.slice none 0 0)),((.slice none 0 0)),((.slice none 0 0))],rfl,p0,q1.1,q1.2.1,q1.2.2.1,q1.2.2.2.1,q1.2.2.2.2.1,q1.2.2.2.2.2.1,p2,p3,rfl,rfl,rfl,rfl,trivial⟩,?_⟩;have:=run_build w 81 #[(0,a.eval x0),(1,a.eval x1),(2,a.eval x2),(3,a.eval x3)] _ (by simpa using hb);simp[execOp,this]
theorem Jx (ys:(List Ai))(r:(List Ai))(h:KH ys=some r):Fn Tryz.prog GE 56 [AO 1 (A8 eS ys)] [] (λR H=>R=AO 1 (A8 eS r)∧H=[]):=by
 refine enter (n:=8) Tryz.func56 Aa Tryz.ntmps56 Aa (λw Z=>?_);unfold KH at h;refine Ad (wa Aa (Ao (Ak (Ad (wm Aa (wv (KW C7 Aa) (Ao (Mc Aa (λc1=>?_) (λc1=>?_)))))))))
 ·have e2:ys=[]:=List.map_eq_nil_iff.1 (c1 rfl);have h3:some ([]:List Ai)=some r:=by rw[e2] at h;exact(Ro h).2
  refine Ad (wa Aa (Ao (Ap (Ab (WK.up (d:=2) (r:=AO 1 (A8 eS ([]:List Ai))) Aa (Up.le (HS.nil _)) ?_)))));obtain rfl:=Au h3;exact Aq (B2 Tryz.results56 (AD Aa)) sN ⟨Aa,Aa⟩
 refine Aw (AE (Ad (Bc (ys:=([]:List Ai)) (enc:=eS) (css:=[]) (xs:=[]) C7 CE VH Aa Aa Aa trivial Aa DS Aa Aa Aa (λb4=>?_))));refine wm Aa (ck h λg6 h7=>Exists.elim Ra λinf hinf=>Er (xs:=([]:List Ai)) (ys:=ys) (enc:=eS) (i:=0) C7 hinf.1 hinf.2.1 hinf.2.2.1 hinf.2.2.2 Aa Aa Aa Aa Aa (Q3.z Aa Aa) DS PO g6 Aa (λv5=>?_));refine wa Aa (Ao (Ap (WK.freeze (i:=0) Aa (WK.up (d:=2) (r:=AO 1 (A8 eS (([]:List Ai)++ys))) Aa (Up.fact (i:=0) Aa) ?_))));obtain rfl:=Au h7;exact Aq (B2 Tryz.results56 (AD Aa)) (sS sN) ⟨Aa,Aa⟩
theorem Uw (ys:(List AI))(r:(List AI))(h:Sw ys=some r):Fn Tryz.prog GE 57 [AO 5 (A8 A1 ys)] [] (λR H=>R=AO 5 (A8 A1 r)∧H=[]):=by
 refine enter (n:=8) Tryz.func57 Aa Tryz.ntmps57 Aa (λw Z=>?_);unfold Sw at h;refine Ad (wa Aa (Ao (Ak (Ad (wm Aa (wv (KW LX Aa) (Ao (Mc Aa (λc1=>?_) (λc1=>?_)))))))))
 ·have e2:ys=[]:=List.map_eq_nil_iff.1 (c1 rfl);have h3:some ([]:List AI)=some r:=by rw[e2] at h;exact(Ro h).2
  refine Ad (wa Aa (Ao (Ap (Ab (WK.up (d:=2) (r:=AO 5 (A8 A1 ([]:List AI))) Aa (Up.le (HS.nil _)) ?_)))));obtain rfl:=Au h3;exact Aq (B2 Tryz.results57 (AD Aa)) sN ⟨Aa,Aa⟩
 refine Aw (AE (Ad (Bc (ys:=([]:List AI)) (enc:=A1) (css:=[]) (xs:=[]) LX GW Tryz.zeroValue111 Aa Aa Aa trivial Aa Hn Aa Aa Aa (λb4=>?_))));refine wm Aa (ck h λg6 h7=>Exists.elim Abv λinf hinf=>Er (xs:=([]:List AI)) (ys:=ys) (enc:=A1) (i:=0) LX hinf.1 hinf.2.1 hinf.2.2.1 hinf.2.2.2 Aa Aa Aa Aa Aa (Q3.z Aa Aa) Hn N5 g6 Aa (λv5=>?_));refine wa Aa (Ao (Ap (WK.freeze (i:=0) Aa (WK.up (d:=2) (r:=AO 5 (A8 A1 (([]:List AI)++ys))) Aa (Up.fact (i:=0) Aa) ?_))));obtain rfl:=Au h7;exact Aq (B2 Tryz.results57 (AD Aa)) (sS sN) ⟨Aa,Aa⟩
theorem Uy (ys:(List Aj))(r:(List Aj))(h:Sz ys=some r):Fn Tryz.prog GE 58 [AO 3 (A8 Al ys)] [] (λR H=>∃u0:Value,R=rv u0∧H=[.row u0 100 3 (A8 Al r)]):=by
 refine enter (n:=8) Tryz.func58 Aa Tryz.ntmps58 Aa (λw Z=>?_);unfold Sz at h;refine Ad (wa Aa (Ao (Ak (Ad (wm Aa (wv (KW Id Aa) (Ao (Mc Aa (λc1=>?_) (λc1=>?_)))))))))
 ·have e2:ys=[]:=List.map_eq_nil_iff.1 (c1 rfl);have h3:some ([]:List Aj)=some r:=by rw[e2] at h;exact(Ro h).2
  refine Ad (wa Aa (Ao (Ap (Ab (WK.nilrow (e:=100) (sz:=3) ?_)))));obtain rfl:=Au h3;exact Aq (B2 Tryz.results58 (AD Aa)) (sC sN) ⟨(.slice none 0 0                                                                                                    ),Aa,Aa⟩
 refine Aw (AE (Ad (Bc (ys:=([]:List Aj)) (enc:=Al) (css:=[]) (xs:=[]) Id En SH Aa Aa Aa trivial Aa Ej Aa Aa Aa (λb4=>?_))));refine wm Aa (ck h λg6 h7=>Exists.elim Abw λinf hinf=>Er (xs:=([]:List Aj)) (ys:=ys) (enc:=Al) (i:=0) Id hinf.1 hinf.2.1 hinf.2.2.1 hinf.2.2.2 Aa Aa Aa Aa Aa (Q3.z Aa Aa) Ej LO g6 Aa (λv5=>?_));refine wa Aa (Ao (Ap ?_));obtain rfl:=Au h7;exact Aq (B2 Tryz.results58 (AD Aa)) (sC sN) ⟨v5,Aa,Aa⟩
theorem Ab0 (F:Nat)(pv_v:Option Addr)(a:AV)(l:(List BS))(r:Ba×Unit)(h:Ue F a l=some r):Fn Tryz.prog GE 13 [B9 (Bf a),AO 3 (A8 BN l),rv (.pointer pv_v)] [] (λR H=>∃u0:Nat,∃u0_7:Nat,∃u0_10:Value,∃u0_11:Value,∃u0_12:Value,R=Dy [rP u0 0,A4 0]∧H=[.blk u0 [rB r.1.fMade,rS r.1.fA.fTenant,rS r.1.fA.fFunction,AO 1 (A8 eS r.1.fA.fOps),AO 3 (A8 Al r.1.fA.fPolicy),AO 5 (A8 A1 r.1.fA.fNet),A4 r.1.fA.fNow,rv (.map (some u0_7)),DE 40 (rv (.pointer pv_v)),A4 r.1.fCalls,rv u0_10,rv u0_11,rv u0_12] 81,.map u0_7 (Bx A9 r.1.fItems),.row u0_10 60 4 (A8 AP r.1.fEffects),.row u0_11 9 1 (A8 eS r.1.fReads),.row u0_12 9 1 (A8 eS r.1.fLog)]):=by
 refine enter (n:=103) Tryz.func13 Aa Tryz.ntmps13 Aa (λw Z=>?_);unfold Ue at h;refine Ad (BM Aa Aa (λb1=>?_));refine wa Aa (wa Aa (Ao (Ak (Ad (wv (Be (i:=0) LE Gy Aa Aa Aa Aa) (ob h λr2 e4 h3=>BP Tryz.call31 (N4 F a r2 e4) Aa (wa Aa (Bp (wm Aa (wv (CH Aa Aa) (Ao (cz h3 Aa (λc5 h6=>?_) (λc5 h7=>?_)))))))))))))
 ·exact Ad (wm rfl (wa rfl (wa rfl (Ao (Ap (Ab (nomatch h6)))))))
 refine Aw (AE (Ak (Ad (wm Aa (ob h7 λr8 h0 h9=>BP Tryz.call55 (Ug F l r8 h0) Aa (wa Aa (Bp (wm Aa (wv (CH Aa Aa) (Ao (cz h9 Aa (λh1 h2=>?_) (λh1 h4=>?_))))))))))))
 ·exact Ad (wm rfl (wa rfl (wa rfl (Ao (Ap (Ab (nomatch h2)))))))
 refine Aw (AE (Ad (wv (Be (i:=0) LE Gy Aa Aa Aa Aa) (Nc Aa (λhe=>?_)))));refine wm Aa (wv (r:=DE 40 (rv (.pointer pv_v))) (HD Aay Aa Aa) (wv (r:=B9 [rB true,rS a.fTenant,rS a.fFunction,AO 1 (A8 eS a.fOps),AO 3 (A8 Al a.fPolicy),AO 5 (A8 A1 a.fNet),A4 a.fNow,rv (.map (some he)),DE 40 (rv (.pointer pv_v)),A4 0,rv (.slice none 0 0),rv (.slice none 0 0),rv (.slice none 0 0)]) (ID Aa Aa Aa Aa Aa Aa Aa) (BM Aa Aa (λhd=>?_))));refine wa Aa (Ao (Ak (ob h4 λhg h5 h8=>ob h8 λhh hA hB=>Ex (H1:=[.blk hd [rB true,rS a.fTenant,rS a.fFunction,AO 1 (A8 eS hg),AO 3 (A8 Al a.fPolicy),AO 5 (A8 A1 hh),A4 a.fNow,rv (.map (some he)),DE 40 (rv (.pointer pv_v)),A4 0,rv (.slice none 0 0),rv (.slice none 0 0),rv (.slice none 0 0)] 81,.map he (Bx A9 ([]:List (Ai×(List Ac)))),.blk b1 (Bf a) 26]) [1,3,10] [⟨[],rP hd 0,0⟩,⟨[],rP hd 0,0⟩,⟨[],rP b1 2,0⟩,⟨[2],AO 1 (A8 eS a.fOps),1⟩,⟨[3],AO 1 (A8 eS hg),0⟩,⟨[],rP b1 4,0⟩,⟨[5],AO 5 (A8 A1 a.fNet),1⟩,⟨[6],AO 5 (A8 A1 hh),0⟩,⟨[0],rP hd 0,0⟩,⟨[8],rP hd 1,0⟩,⟨[9],rP hd 3,0⟩,⟨[10,4],rv undef,2⟩,⟨[1],rP hd 0,0⟩,⟨[12],rP hd 1,0⟩,⟨[13],rP hd 5,0⟩,⟨[14,7],rv undef,2⟩] (rle [(12,_),(4,[.blk hd [rB true,rS a.fTenant,rS a.fFunction,AO 1 (A8 eS hg),AO 3 (A8 Al a.fPolicy),AO 5 (A8 A1 a.fNet),A4 a.fNow,rv (.map (some he)),DE 40 (rv (.pointer pv_v)),A4 0,rv (.slice none 0 0),rv (.slice none 0 0),rv (.slice none 0 0)] 81,.map he (Bx A9 ([]:List (Ai×(List Ac)))),.blk b1 (Bf a) 26]),(1,[.blk hd [rB true,rS a.fTenant,rS a.fFunction,AO 1 (A8 eS hg),AO 3 (A8 Al a.fPolicy),AO 5 (A8 A1 hh),A4 a.fNow,rv (.map (some he)),DE 40 (rv (.pointer pv_v)),A4 0,rv (.slice none 0 0),rv (.slice none 0 0),rv (.slice none 0 0)] 81,.map he (Bx A9 ([]:List (Ai×(List Ac)))),.blk b1 (Bf a) 26])]) [1,3,10] ?_ ?_)))
 ·refine oq (Am Aa) (oq (Am Aa) (oq (Az CM Aa Dn Aa Aa) (of (AT (i:=2) E5 Aa Aa Aa) (Jk Aa (λH=>Cm UF (Jx a.fOps hg h5) Aa) ?_))));refine oq (Az CM Aa LY Aa Aa) (of (AT (i:=2) Qh Aa Aa Aa) (Jk Aa (λH=>Cm Tryz.call57 (Uw a.fNet hh hA) Aa) ?_));refine oq (AS Aa) (oq (Az EU Aa Gy Aa Aa) (oq (Az CM Aa Dn Aa Aa) (DZ Aa (HO (Da (i:=0) Dn Aa Aa (BR Aa) Aa Aa (cs':=[rB true,rS a.fTenant,rS a.fFunction,AO 1 (A8 eS hg),AO 3 (A8 Al a.fPolicy),AO 5 (A8 A1 a.fNet),A4 a.fNow,rv (.map (some he)),DE 40 (rv (.pointer pv_v)),A4 0,rv (.slice none 0 0),rv (.slice none 0 0),rv (.slice none 0 0)]) Aa (H':=[.blk hd [rB true,rS a.fTenant,rS a.fFunction,AO 1 (A8 eS hg),AO 3 (A8 Al a.fPolicy),AO 5 (A8 A1 a.fNet),A4 a.fNow,rv (.map (some he)),DE 40 (rv (.pointer pv_v)),A4 0,rv (.slice none 0 0),rv (.slice none 0 0),rv (.slice none 0 0)] 81,.map he (Bx A9 ([]:List (Ai×(List Ac)))),.blk b1 (Bf a) 26]) Aa)) ?_)));refine oq (AS Aa) (oq (Az EU Aa Gy Aa Aa) (oq (Az CM Aa LY Aa Aa) (DZ Aa (HO (Da (i:=0) LY Aa Aa (BR Aa) Aa Aa (cs':=[rB true,rS a.fTenant,rS a.fFunction,AO 1 (A8 eS hg),AO 3 (A8 Al a.fPolicy),AO 5 (A8 A1 hh),A4 a.fNow,rv (.map (some he)),DE 40 (rv (.pointer pv_v)),A4 0,rv (.slice none 0 0),rv (.slice none 0 0),rv (.slice none 0 0)]) Aa (H':=[.blk hd [rB true,rS a.fTenant,rS a.fFunction,AO 1 (A8 eS hg),AO 3 (A8 Al a.fPolicy),AO 5 (A8 A1 hh),A4 a.fNow,rv (.map (some he)),DE 40 (rv (.pointer pv_v)),A4 0,rv (.slice none 0 0),rv (.slice none 0 0),rv (.slice none 0 0)] 81,.map he (Bx A9 ([]:List (Ai×(List Ac)))),.blk b1 (Bf a) 26]) Aa)) ?_)));exact EK
 refine AE (Ad (wm Aa (vF CM Aa J1 (vL 2 Lp Aa (ob hB λhn hC hD=>J3 [] Tryz.call58 (Uy a.fPolicy hn hC) ?_)))));rintro _ _ ⟨hf,rfl,rfl⟩;refine wv (AS Aa) (vF EU Aa Gy (vF CM Aa J1 (us (i:=1) J1 Aa Aa (GN (i:=0) Aa) Aa Aa ?_)));refine Ao (Ak (Ad (wm Aa (wv (AS Aa) (vF EU Aa Gy (vF CM Aa J1 (vL 1 Lp Aa (wv (D3 (ys:=hn) (enc:=Al) (i:=0) Id Aa Aa) (wv (r:=A4 0) (Am Aa) (Ao (A6 (ob hD λhE hG hH=>Br (S:=Nat×(Int×(List Aj))×(Unit)) (V:=((List Aj))×(Unit)) 0 (λσ=>BX (λσ=>MI hn σ.1 σ.2) σ.1 σ.2.1=some hE) (λσ=>[(1,AO 3 (A8 BN l)),(10,rP hd 0),(56,rv hf),(57,A4 (hn.length:Int)),(58,A4 σ.2.1.1)]) (λσ=>[.row hf 100 3 (A8 Al σ.2.1.2),.blk hd [rB true,rS a.fTenant,rS a.fFunction,AO 1 (A8 eS hg),rv hf,AO 5 (A8 A1 hh),A4 a.fNow,rv (.map (some he)),DE 40 (rv (.pointer pv_v)),A4 0,rv (.slice none 0 0),rv (.slice none 0 0),rv (.slice none 0 0)] 81,.map he (Bx A9 ([]:List (Ai×(List Ac))))]) (λσ=>σ.1) (F,(0,hn),()) hG (AH.c5 Aa Aa Aa Aa Aa AH.nil) (sC (sC (sC (sS sN)))) (λσ=>MG F a l hg hh σ.1=some r) (λσ=>[(1,AO 3 (A8 BN l)),(10,rP hd 0)]) (λσ=>[.row hf 100 3 (A8 Al σ.1),.blk hd [rB true,rS a.fTenant,rS a.fFunction,AO 1 (A8 eS hg),rv hf,AO 5 (A8 A1 hh),A4 a.fNow,rv (.map (some he)),DE 40 (rv (.pointer pv_v)),A4 0,rv (.slice none 0 0),rv (.slice none 0 0),rv (.slice none 0 0)] 81,.map he (Bx A9 ([]:List (Ai×(List Ac))))]) ?_ ?_))))))))))))
 ·rintro⟨gv,⟨ha,hb⟩,⟨⟩⟩ hI;refine GI ?_;obtain⟨hJ,rfl,t80,hr,hy⟩:=Cc hI;replace hr:MI hn ha hb=some t80:=hr;unfold MI at hr;refine Ad (wv (Ci Aa Aa) (Ao (Ak (cz hr Aa (λhK hL=>?_) (λhK hN=>?_)))))
  ·refine Aw (AE (Ak (A6 (Ad (wm Aa (ck hL λhp hO=>wv (r:=rv (Gl 3 hf (Ca ha) 0)) (EM (i:=0) Id En Aa Aa Aa (BI hp)) (wv (r:=B9 (Al (Ax hb ha))) (O4 (enc:=Al) (ys:=hb) (i:=0) (j:=ha) LZ En Aa Aa hp Aa Aa) (BL (cs:=[rB false,rv (.slice none 0 0),rv (.slice none 0 0)]) SH Aa Aa (λhl=>?_)))))))));refine wa Aa (GU (i:=0) En Aa Aa Aa (B8.c Aa) Aa Aa ?_);refine Ao (ob hO λhi hP hQ=>ob hQ λhm hR hS=>ck hS λhx hT=>Ex (H1:=[.blk hl (Al (Ax hb ha)) 100,.row hf 100 3 (A8 Al (List.set (List.set hb (Ca ha) (Aj.mk ((Ax hb ha).fAllow) hi ((Ax hb ha).fResources))) (Ca ha) (Aj.mk ((Ax (List.set hb (Ca ha) (Aj.mk ((Ax hb ha).fAllow) hi ((Ax hb ha).fResources))) ha).fAllow) ((Ax (List.set hb (Ca ha) (Aj.mk ((Ax hb ha).fAllow) hi ((Ax hb ha).fResources))) ha).fActions) hm))),.blk hd [rB true,rS a.fTenant,rS a.fFunction,AO 1 (A8 eS hg),rv hf,AO 5 (A8 A1 hh),A4 a.fNow,rv (.map (some he)),DE 40 (rv (.pointer pv_v)),A4 0,rv (.slice none 0 0),rv (.slice none 0 0),rv (.slice none 0 0)] 81,.map he (Bx A9 ([]:List (Ai×(List Ac))))]) [1,10,11,12,56,57,58] [⟨[],rP hd 0,0⟩,⟨[0],rP hd 0,0⟩,⟨[1],rP hd 1,0⟩,⟨[2],rP hd 4,0⟩,⟨[3],rv hf,1⟩,⟨[],A4 ha,0⟩,⟨[],rP hd 0,0⟩,⟨[6],rP hd 0,0⟩,⟨[7],rP hd 1,0⟩,⟨[8],rP hd 4,0⟩,⟨[9],rv hf,1⟩,⟨[],A4 ha,0⟩,⟨[],rP hl 1,0⟩,⟨[12],AO 1 (A8 eS ((Ax hb ha).fActions)),1⟩,⟨[13],AO 1 (A8 eS hi),0⟩,⟨[],rP hl 2,0⟩,⟨[15],AO 1 (A8 eS ((Ax hb ha).fResources)),1⟩,⟨[16],AO 1 (A8 eS hm),0⟩,⟨[4,5],rv (Gl 3 hf (Ca ha) 0),1⟩,⟨[18],rv (Gl 3 hf (Ca ha) 1),1⟩,⟨[19,14],rv undef,2⟩,⟨[10,11],rv (Gl 3 hf (Ca ha) 0),1⟩,⟨[21],rv (Gl 3 hf (Ca ha) 2),1⟩,⟨[22,17],rv undef,2⟩] (rle [(21,_),(3,[.blk hl (Al (Ax hb ha)) 100,.row hf 100 3 (A8 Al (List.set hb (Ca ha) (Aj.mk ((Ax hb ha).fAllow) hi ((Ax hb ha).fResources)))),.blk hd [rB true,rS a.fTenant,rS a.fFunction,AO 1 (A8 eS hg),rv hf,AO 5 (A8 A1 hh),A4 a.fNow,rv (.map (some he)),DE 40 (rv (.pointer pv_v)),A4 0,rv (.slice none 0 0),rv (.slice none 0 0),rv (.slice none 0 0)] 81,.map he (Bx A9 ([]:List (Ai×(List Ac))))]),(1,[.blk hl (Al (Ax hb ha)) 100,.row hf 100 3 (A8 Al (List.set (List.set hb (Ca ha) (Aj.mk ((Ax hb ha).fAllow) hi ((Ax hb ha).fResources))) (Ca ha) (Aj.mk ((Ax (List.set hb (Ca ha) (Aj.mk ((Ax hb ha).fAllow) hi ((Ax hb ha).fResources))) ha).fAllow) ((Ax (List.set hb (Ca ha) (Aj.mk ((Ax hb ha).fAllow) hi ((Ax hb ha).fResources))) ha).fActions) hm))),.blk hd [rB true,rS a.fTenant,rS a.fFunction,AO 1 (A8 eS hg),rv hf,AO 5 (A8 A1 hh),A4 a.fNow,rv (.map (some he)),DE 40 (rv (.pointer pv_v)),A4 0,rv (.slice none 0 0),rv (.slice none 0 0),rv (.slice none 0 0)] 81,.map he (Bx A9 ([]:List (Ai×(List Ac))))])]) [1,10,56,57,58] ?_ ?_)
   ·refine oq (Am Aa) (oq (AS Aa) (oq (Az EU Aa Gy Aa Aa) (oq (Az CM Aa J1 Aa Aa) (of (AT (i:=2) Lp Aa Aa Aa) (oq (Am Aa) (oq (Am Aa) (oq (AS Aa) (oq (Az EU Aa Gy Aa Aa) (oq (Az CM Aa J1 Aa Aa) (of (AT (i:=2) Lp Aa Aa Aa) (oq (Am Aa) (oq (Az Gh Aa Dn Aa Aa) (of (AT (i:=0) E5 Aa Aa Aa) (Jk Aa (λH=>Cm UF (Jx ((Ax hb ha).fActions) hi hP) Aa) ?_))))))))))))));refine oq (Az Gh Aa Dn Aa Aa) (of (AT (i:=0) E5 Aa Aa Aa) (Jk Aa (λH=>Cm UF (Jx ((Ax hb ha).fResources) hm hR) Aa) ?_));refine of (EM (i:=1) Id En Aa Aa Aa (BI hp)) (of (Gj (k:=1) Gh Aa Dn Aa (BI hp) Aa Aa Aa) (DZ Aa (HO (MW (enc:=Al) (ys:=hb) (y':=(Aj.mk ((Ax hb ha).fAllow) hi ((Ax hb ha).fResources))) (i:=1) (j:=ha) Dn Aa Aa (BR Aa) Aa hp Aa Aa (H':=[.blk hl (Al (Ax hb ha)) 100,.row hf 100 3 (A8 Al (List.set hb (Ca ha) (Aj.mk ((Ax hb ha).fAllow) hi ((Ax hb ha).fResources)))),.blk hd [rB true,rS a.fTenant,rS a.fFunction,AO 1 (A8 eS hg),rv hf,AO 5 (A8 A1 hh),A4 a.fNow,rv (.map (some he)),DE 40 (rv (.pointer pv_v)),A4 0,rv (.slice none 0 0),rv (.slice none 0 0),rv (.slice none 0 0)] 81,.map he (Bx A9 ([]:List (Ai×(List Ac))))]) Aa)) ?_));refine of (EM (i:=1) Id En Aa Aa Aa (BI hx)) (of (Gj (k:=1) Gh Aa Dn Aa (BI hx) Aa Aa Aa) (DZ Aa (HO (MW (enc:=Al) (ys:=List.set hb (Ca ha) (Aj.mk ((Ax hb ha).fAllow) hi ((Ax hb ha).fResources))) (y':=(Aj.mk ((Ax (List.set hb (Ca ha) (Aj.mk ((Ax hb ha).fAllow) hi ((Ax hb ha).fResources))) ha).fAllow) ((Ax (List.set hb (Ca ha) (Aj.mk ((Ax hb ha).fAllow) hi ((Ax hb ha).fResources))) ha).fActions) hm)) (i:=1) (j:=ha) Dn Aa Aa (BR Aa) Aa hx Aa Aa (H':=[.blk hl (Al (Ax hb ha)) 100,.row hf 100 3 (A8 Al (List.set (List.set hb (Ca ha) (Aj.mk ((Ax hb ha).fAllow) hi ((Ax hb ha).fResources))) (Ca ha) (Aj.mk ((Ax (List.set hb (Ca ha) (Aj.mk ((Ax hb ha).fAllow) hi ((Ax hb ha).fResources))) ha).fAllow) ((Ax (List.set hb (Ca ha) (Aj.mk ((Ax hb ha).fAllow) hi ((Ax hb ha).fResources))) ha).fActions) hm))),.blk hd [rB true,rS a.fTenant,rS a.fFunction,AO 1 (A8 eS hg),rv hf,AO 5 (A8 A1 hh),A4 a.fNow,rv (.map (some he)),DE 40 (rv (.pointer pv_v)),A4 0,rv (.slice none 0 0),rv (.slice none 0 0),rv (.slice none 0 0)] 81,.map he (Bx A9 ([]:List (Ai×(List Ac))))]) Aa)) ?_));exact EK
   refine AB (AE (Af (ck hT λhU hV=>wv (By Aa Aa hU) (wm Aa (Ah ?_)))));have hW:=Bi hV hy;exact Ar (AC (hJ,(ha+1,List.set (List.set hb (Ca ha) (Aj.mk ((Ax hb ha).fAllow) hi ((Ax hb ha).fResources))) (Ca ha) (Aj.mk ((Ax (List.set hb (Ca ha) (Aj.mk ((Ax hb ha).fAllow) hi ((Ax hb ha).fResources))) ha).fAllow) ((Ax (List.set hb (Ca ha) (Aj.mk ((Ax hb ha).fAllow) hi ((Ax hb ha).fResources))) ha).fActions) hm)),()) ⟨hW,AeR _⟩ (AH.c5 Aa Aa Aa Aa Aa AH.nil) (sS (sC (sC (sC sN)))))
  refine Bn (Av ?_);have hX:=BE hN hy hH;exact Av (AY (AC (hb,()) hX (AH.c Aa (AH.c Aa AH.nil)) (sC (sC (sC sN)))))
 rintro⟨hk,⟨⟩⟩ hs;refine GX ?_;replace hs:MG F a l hg hh hk=some r:=hs;unfold MG at hs;refine AW (AE (Ak (Ad (wm Aa (wv (Bj (ys:=l) (enc:=BN) Ru Aa) (wv (r:=A4 0) (Am Aa) (Ao (A6 (ob hs λhY hZ ga=>Br (S:=Nat×(Int×(List (Ai×(List Ac))))×(Unit)) (V:=((List (Ai×(List Ac))))×(Unit)) 2 (λσ=>BX (λσ=>MH l σ.1 σ.2) σ.1 σ.2.1=some hY) (λσ=>[(10,rP hd 0),(86,AO 3 (A8 BN l)),(87,A4 (l.length:Int)),(88,A4 σ.2.1.1)]) (λσ=>[.row hf 100 3 (A8 Al hk),.blk hd [rB true,rS a.fTenant,rS a.fFunction,AO 1 (A8 eS hg),rv hf,AO 5 (A8 A1 hh),A4 a.fNow,rv (.map (some he)),DE 40 (rv (.pointer pv_v)),A4 0,rv (.slice none 0 0),rv (.slice none 0 0),rv (.slice none 0 0)] 81,.map he (Bx A9 σ.2.1.2)]) (λσ=>σ.1) (F,(0,([]:List (Ai×(List Ac)))),()) hZ (AH.c Aa (AH.c Aa (AH.c Aa (AH.c Aa AH.nil)))) (sC (sC (sC sN))) (λσ=>MF a hg hh hk σ.1=some r) (λσ=>[(10,rP hd 0)]) (λσ=>[.row hf 100 3 (A8 Al hk),.blk hd [rB true,rS a.fTenant,rS a.fFunction,AO 1 (A8 eS hg),rv hf,AO 5 (A8 A1 hh),A4 a.fNow,rv (.map (some he)),DE 40 (rv (.pointer pv_v)),A4 0,rv (.slice none 0 0),rv (.slice none 0 0),rv (.slice none 0 0)] 81,.map he (Bx A9 σ.1)]) ?_ ?_)))))))))
 ·rintro⟨gw,⟨hj,ho⟩,⟨⟩⟩ gb;refine GI ?_;obtain⟨gc,rfl,gd,ht,hz⟩:=Cc gb;replace ht:MH l hj ho=some gd:=ht;unfold MH at ht;refine Ad (wv (Ci Aa Aa) (Ao (Ak (cz ht Aa (λgf gg=>?_) (λgf gh=>?_)))))
  ·refine Aw (AE (Ak (A6 (Ad (ck gg λgi gj=>wv (Bk (enc:=BN) (ys:=l) Ru OG Aa Aa gi) (wv (Cu Tryz.isAgg72 OG Aa Aa Aa) (BL (cs:=[rS ([]:Ai),rv (.slice none 0 0),A4 0]) Aaw Aa Aa (λhu=>?_))))))));refine GU (i:=0) OG Aa Aa Aa (B8.c Aa) Aa Aa ?_;refine Ao (ob gj λhq gl gm=>Mb 9 [10,14,86,87,88] [⟨[],rP hd 0,none,none,none⟩,⟨[0],rP hd 0,none,none,none⟩,⟨[1],rP hd 7,none,none,none⟩,⟨[2],rv (.map (some he)),none,none,none⟩,⟨[],rP hu 0,none,none,none⟩,⟨[4],rS ((Ax l hj).fKey),none,none,none⟩,⟨[],rP hu 1,none,none,none⟩,⟨[6],AO 4 (A8 Ae ((Ax l hj).fValue)),none,none,none⟩,⟨[7],AO 4 (A8 Ae hq),none,none,none⟩] ?_ (λβ=>?_))
   ·refine Px (Am Aa) (Px (AS Aa) (Px (Az EU Aa Tryz.sizeOf77 Aa Aa) (U8 (AT (i:=2) Tryz.isAgg77 Aa Aa Aa) (Px (Az Rt Aa CE Aa Aa) (U8 (AT (i:=0) Dp Aa Aa Aa) (Px (Az Rt Aa C8 Aa Aa) (U8 (AT (i:=0) Eo Aa Aa Aa) (oac (Cm OL (ET ((Ax l hj).fValue) hq gl) Aa) ?_))))))));exact oae
   refine Km (H1:=[.blk hu (BN (Ax l hj)) 72,.row hf 100 3 (A8 Al hk),.blk hd [rB true,rS a.fTenant,rS a.fFunction,AO 1 (A8 eS hg),rv hf,AO 5 (A8 A1 hh),A4 a.fNow,rv (.map (some he)),DE 40 (rv (.pointer pv_v)),A4 0,rv (.slice none 0 0),rv (.slice none 0 0),rv (.slice none 0 0)] 81,.map he (Bx A9 ho)]) [92,93,94,95,96,97,98,99,100,10,14,86,87,88] ?_;refine Oq (enc:=A9) (xs:=ho) (v:=hq) (i:=3) Acg C4 Aa Aa Aa Aa (H':=[.blk hu (BN (Ax l hj)) 72,.row hf 100 3 (A8 Al hk),.blk hd [rB true,rS a.fTenant,rS a.fFunction,AO 1 (A8 eS hg),rv hf,AO 5 (A8 A1 hh),A4 a.fNow,rv (.map (some he)),DE 40 (rv (.pointer pv_v)),A4 0,rv (.slice none 0 0),rv (.slice none 0 0),rv (.slice none 0 0)] 81,.map he (Bx A9 (Jo ho ((Ax l hj).fKey) hq))]) Aa (Ah (AB (AE (Af (ck gm λgp gq=>wv (By Aa Aa gp) (wm Aa (Ah ?_)))))));have gr:=Bi gq hz;exact Ar (AC (gc,(hj+1,Jo ho ((Ax l hj).fKey) hq),()) ⟨gr,AeR _⟩ (AH.c Aa (AH.c Aa (AH.c Aa (AH.c Aa AH.nil)))) (sS (sC (sC (sC sN)))))
  refine Bn (Av ?_);have gs:=BE gh hz ga;exact Av (AY (AC (ho,()) gs (AH.c Aa AH.nil) (sC (sC (sC sN)))))
 rintro⟨gu,⟨⟩⟩ hw;refine GX ?_;replace hw:MF a hg hh hk gu=some r:=hw;unfold MF at hw;refine AW (AE (Ad (wm Aa (wa Aa (wa Aa (Ao (Ap (WK.freeze (i:=0) Aa (WK.upBlk (i:=1) (cs':=[rB true,rS a.fTenant,rS a.fFunction,AO 1 (A8 eS hg),AO 3 (A8 Al hk),AO 5 (A8 A1 hh),A4 a.fNow,rv (.map (some he)),DE 40 (rv (.pointer pv_v)),A4 0,rv (.slice none 0 0),rv (.slice none 0 0),rv (.slice none 0 0)]) Aa ⟨Up.refl _,Up.refl _,Up.refl _,Up.refl _,Up.fact (i:=0) Aa,Up.refl _,Up.refl _,Up.refl _,Up.refl _,Up.refl _,Up.refl _,Up.refl _,Up.refl _,trivial⟩ (WK.nilrow (e:=60) (sz:=4) (WK.nilrow (e:=9) (sz:=1) (WK.nilrow (e:=9) (sz:=1) (NH [4,4,2,1] ?_)))))))))))));obtain rfl:=Au hw;exact Aq (HW Tryz.results13 (AD Aa) (AD Aa)) (sC (sC (sC (sC (sC (sS sN)))))) ⟨hd,he,(.slice none 0 0                                                            ),(.slice none 0 0         ),(.slice none 0 0         ),Aa,Aa⟩
theorem Ab1 (F:Nat)(pv_v:Option Addr)(a:AV)(l:(List BS))(r:Unit×Int)(h:ZJ F a l=some r):Fn Tryz.prog GE 13 [B9 (Bf a),AO 3 (A8 BN l),rv (.pointer pv_v)] [] (λR H=>R=Dy [rv (.pointer none),A4 r.2]∧H=[]):=by
 refine enter (n:=103) Tryz.func13 Aa Tryz.ntmps13 Aa (λw Z=>?_);unfold ZJ at h;refine Ad (BM Aa Aa (λb1=>?_));refine wa Aa (wa Aa (Ao (Ak (Ad (wv (Be (i:=0) LE Gy Aa Aa Aa Aa) (ob h λr2 e4 h3=>BP Tryz.call31 (N4 F a r2 e4) Aa (wa Aa (Bp (wm Aa (wv (CH Aa Aa) (Ao (cz h3 Aa (λc5 h6=>?_) (λc5 h7=>?_)))))))))))))
 ·refine Ad (wm Aa (wa Aa (wa Aa (Ao (Ap (Ab ?_))))));obtain rfl:=Au h6;exact Aq (HW Tryz.results13 (AD Aa) (AD Aa)) (sS sN) ⟨Aa,Aa⟩
 refine Aw (AE (Ak (Ad (wm Aa (ob h7 λr8 h0 h9=>BP Tryz.call55 (Ug F l r8 h0) Aa (wa Aa (Bp (wm Aa (wv (CH Aa Aa) (Ao (cz h9 Aa (λh1 h2=>?_) (λh1 h4=>?_))))))))))))
 ·refine Ad (wm Aa (wa Aa (wa Aa (Ao (Ap (Ab ?_))))));obtain rfl:=Au h2;exact Aq (HW Tryz.results13 (AD Aa) (AD Aa)) (sS sN) ⟨Aa,Aa⟩
 refine Aw (AE (Ad (wv (Be (i:=0) LE Gy Aa Aa Aa Aa) (Nc Aa (λhe=>?_)))));refine wm Aa (wv (r:=DE 40 (rv (.pointer pv_v))) (HD Aay Aa Aa) (wv (r:=B9 [rB true,rS a.fTenant,rS a.fFunction,AO 1 (A8 eS a.fOps),AO 3 (A8 Al a.fPolicy),AO 5 (A8 A1 a.fNet),A4 a.fNow,rv (.map (some he)),DE 40 (rv (.pointer pv_v)),A4 0,rv (.slice none 0 0),rv (.slice none 0 0),rv (.slice none 0 0)]) (ID Aa Aa Aa Aa Aa Aa Aa) (BM Aa Aa (λhd=>?_))));refine wa Aa (Ao (Ak (ob h4 λhg h5 h8=>ob h8 λhi hA hB=>Ex (H1:=[.blk hd [rB true,rS a.fTenant,rS a.fFunction,AO 1 (A8 eS hg),AO 3 (A8 Al a.fPolicy),AO 5 (A8 A1 hi),A4 a.fNow,rv (.map (some he)),DE 40 (rv (.pointer pv_v)),A4 0,rv (.slice none 0 0),rv (.slice none 0 0),rv (.slice none 0 0)] 81,.map he (Bx A9 ([]:List (Ai×(List Ac)))),.blk b1 (Bf a) 26]) [1,3,10] [⟨[],rP hd 0,0⟩,⟨[],rP hd 0,0⟩,⟨[],rP b1 2,0⟩,⟨[2],AO 1 (A8 eS a.fOps),1⟩,⟨[3],AO 1 (A8 eS hg),0⟩,⟨[],rP b1 4,0⟩,⟨[5],AO 5 (A8 A1 a.fNet),1⟩,⟨[6],AO 5 (A8 A1 hi),0⟩,⟨[0],rP hd 0,0⟩,⟨[8],rP hd 1,0⟩,⟨[9],rP hd 3,0⟩,⟨[10,4],rv undef,2⟩,⟨[1],rP hd 0,0⟩,⟨[12],rP hd 1,0⟩,⟨[13],rP hd 5,0⟩,⟨[14,7],rv undef,2⟩] (rle [(12,_),(4,[.blk hd [rB true,rS a.fTenant,rS a.fFunction,AO 1 (A8 eS hg),AO 3 (A8 Al a.fPolicy),AO 5 (A8 A1 a.fNet),A4 a.fNow,rv (.map (some he)),DE 40 (rv (.pointer pv_v)),A4 0,rv (.slice none 0 0),rv (.slice none 0 0),rv (.slice none 0 0)] 81,.map he (Bx A9 ([]:List (Ai×(List Ac)))),.blk b1 (Bf a) 26]),(1,[.blk hd [rB true,rS a.fTenant,rS a.fFunction,AO 1 (A8 eS hg),AO 3 (A8 Al a.fPolicy),AO 5 (A8 A1 hi),A4 a.fNow,rv (.map (some he)),DE 40 (rv (.pointer pv_v)),A4 0,rv (.slice none 0 0),rv (.slice none 0 0),rv (.slice none 0 0)] 81,.map he (Bx A9 ([]:List (Ai×(List Ac)))),.blk b1 (Bf a) 26])]) [1,3,10] ?_ ?_)))
 ·refine oq (Am Aa) (oq (Am Aa) (oq (Az CM Aa Dn Aa Aa) (of (AT (i:=2) E5 Aa Aa Aa) (Jk Aa (λH=>Cm UF (Jx a.fOps hg h5) Aa) ?_))));refine oq (Az CM Aa LY Aa Aa) (of (AT (i:=2) Qh Aa Aa Aa) (Jk Aa (λH=>Cm Tryz.call57 (Uw a.fNet hi hA) Aa) ?_));refine oq (AS Aa) (oq (Az EU Aa Gy Aa Aa) (oq (Az CM Aa Dn Aa Aa) (DZ Aa (HO (Da (i:=0) Dn Aa Aa (BR Aa) Aa Aa (cs':=[rB true,rS a.fTenant,rS a.fFunction,AO 1 (A8 eS hg),AO 3 (A8 Al a.fPolicy),AO 5 (A8 A1 a.fNet),A4 a.fNow,rv (.map (some he)),DE 40 (rv (.pointer pv_v)),A4 0,rv (.slice none 0 0),rv (.slice none 0 0),rv (.slice none 0 0)]) Aa (H':=[.blk hd [rB true,rS a.fTenant,rS a.fFunction,AO 1 (A8 eS hg),AO 3 (A8 Al a.fPolicy),AO 5 (A8 A1 a.fNet),A4 a.fNow,rv (.map (some he)),DE 40 (rv (.pointer pv_v)),A4 0,rv (.slice none 0 0),rv (.slice none 0 0),rv (.slice none 0 0)] 81,.map he (Bx A9 ([]:List (Ai×(List Ac)))),.blk b1 (Bf a) 26]) Aa)) ?_)));refine oq (AS Aa) (oq (Az EU Aa Gy Aa Aa) (oq (Az CM Aa LY Aa Aa) (DZ Aa (HO (Da (i:=0) LY Aa Aa (BR Aa) Aa Aa (cs':=[rB true,rS a.fTenant,rS a.fFunction,AO 1 (A8 eS hg),AO 3 (A8 Al a.fPolicy),AO 5 (A8 A1 hi),A4 a.fNow,rv (.map (some he)),DE 40 (rv (.pointer pv_v)),A4 0,rv (.slice none 0 0),rv (.slice none 0 0),rv (.slice none 0 0)]) Aa (H':=[.blk hd [rB true,rS a.fTenant,rS a.fFunction,AO 1 (A8 eS hg),AO 3 (A8 Al a.fPolicy),AO 5 (A8 A1 hi),A4 a.fNow,rv (.map (some he)),DE 40 (rv (.pointer pv_v)),A4 0,rv (.slice none 0 0),rv (.slice none 0 0),rv (.slice none 0 0)] 81,.map he (Bx A9 ([]:List (Ai×(List Ac)))),.blk b1 (Bf a) 26]) Aa)) ?_)));exact EK
 refine AE (Ad (wm Aa (vF CM Aa J1 (vL 2 Lp Aa (ob hB λhm hC hD=>J3 [] Tryz.call58 (Uy a.fPolicy hm hC) ?_)))));rintro _ _ ⟨hf,rfl,rfl⟩;refine wv (AS Aa) (vF EU Aa Gy (vF CM Aa J1 (us (i:=1) J1 Aa Aa (GN (i:=0) Aa) Aa Aa ?_)));refine Ao (Ak (Ad (wm Aa (wv (AS Aa) (vF EU Aa Gy (vF CM Aa J1 (vL 1 Lp Aa (wv (D3 (ys:=hm) (enc:=Al) (i:=0) Id Aa Aa) (wv (r:=A4 0) (Am Aa) (Ao (A6 (ob hD λhE hG hH=>Br (S:=Nat×(Int×(List Aj))×(Unit)) (V:=((List Aj))×(Unit)) 0 (λσ=>BX (λσ=>MM hm σ.1 σ.2) σ.1 σ.2.1=some hE) (λσ=>[(1,AO 3 (A8 BN l)),(10,rP hd 0),(56,rv hf),(57,A4 (hm.length:Int)),(58,A4 σ.2.1.1)]) (λσ=>[.row hf 100 3 (A8 Al σ.2.1.2),.blk hd [rB true,rS a.fTenant,rS a.fFunction,AO 1 (A8 eS hg),rv hf,AO 5 (A8 A1 hi),A4 a.fNow,rv (.map (some he)),DE 40 (rv (.pointer pv_v)),A4 0,rv (.slice none 0 0),rv (.slice none 0 0),rv (.slice none 0 0)] 81,.map he (Bx A9 ([]:List (Ai×(List Ac))))]) (λσ=>σ.1) (F,(0,hm),()) hG (AH.c5 Aa Aa Aa Aa Aa AH.nil) (sC (sC (sC (sS sN)))) (λσ=>MK F l σ.1=some r) (λσ=>[(1,AO 3 (A8 BN l)),(10,rP hd 0)]) (λσ=>[.row hf 100 3 (A8 Al σ.1),.blk hd [rB true,rS a.fTenant,rS a.fFunction,AO 1 (A8 eS hg),rv hf,AO 5 (A8 A1 hi),A4 a.fNow,rv (.map (some he)),DE 40 (rv (.pointer pv_v)),A4 0,rv (.slice none 0 0),rv (.slice none 0 0),rv (.slice none 0 0)] 81,.map he (Bx A9 ([]:List (Ai×(List Ac))))]) ?_ ?_))))))))))))
 ·rintro⟨gv,⟨ha,hb⟩,⟨⟩⟩ hI;refine GI ?_;obtain⟨hJ,rfl,t80,hr,hy⟩:=Cc hI;replace hr:MM hm ha hb=some t80:=hr;unfold MM at hr;refine Ad (wv (Ci Aa Aa) (Ao (Ak (cz hr Aa (λhK hL=>?_) (λhK hN=>?_)))))
  ·refine Aw (AE (Ak (A6 (Ad (wm Aa (ck hL λho hO=>wv (r:=rv (Gl 3 hf (Ca ha) 0)) (EM (i:=0) Id En Aa Aa Aa (BI ho)) (wv (r:=B9 (Al (Ax hb ha))) (O4 (enc:=Al) (ys:=hb) (i:=0) (j:=ha) LZ En Aa Aa ho Aa Aa) (BL (cs:=[rB false,rv (.slice none 0 0),rv (.slice none 0 0)]) SH Aa Aa (λhk=>?_)))))))));refine wa Aa (GU (i:=0) En Aa Aa Aa (B8.c Aa) Aa Aa ?_);refine Ao (ob hO λhh hP hQ=>ob hQ λhl hR hS=>ck hS λhx hT=>Ex (H1:=[.blk hk (Al (Ax hb ha)) 100,.row hf 100 3 (A8 Al (List.set (List.set hb (Ca ha) (Aj.mk ((Ax hb ha).fAllow) hh ((Ax hb ha).fResources))) (Ca ha) (Aj.mk ((Ax (List.set hb (Ca ha) (Aj.mk ((Ax hb ha).fAllow) hh ((Ax hb ha).fResources))) ha).fAllow) ((Ax (List.set hb (Ca ha) (Aj.mk ((Ax hb ha).fAllow) hh ((Ax hb ha).fResources))) ha).fActions) hl))),.blk hd [rB true,rS a.fTenant,rS a.fFunction,AO 1 (A8 eS hg),rv hf,AO 5 (A8 A1 hi),A4 a.fNow,rv (.map (some he)),DE 40 (rv (.pointer pv_v)),A4 0,rv (.slice none 0 0),rv (.slice none 0 0),rv (.slice none 0 0)] 81,.map he (Bx A9 ([]:List (Ai×(List Ac))))]) [1,10,11,12,56,57,58] [⟨[],rP hd 0,0⟩,⟨[0],rP hd 0,0⟩,⟨[1],rP hd 1,0⟩,⟨[2],rP hd 4,0⟩,⟨[3],rv hf,1⟩,⟨[],A4 ha,0⟩,⟨[],rP hd 0,0⟩,⟨[6],rP hd 0,0⟩,⟨[7],rP hd 1,0⟩,⟨[8],rP hd 4,0⟩,⟨[9],rv hf,1⟩,⟨[],A4 ha,0⟩,⟨[],rP hk 1,0⟩,⟨[12],AO 1 (A8 eS ((Ax hb ha).fActions)),1⟩,⟨[13],AO 1 (A8 eS hh),0⟩,⟨[],rP hk 2,0⟩,⟨[15],AO 1 (A8 eS ((Ax hb ha).fResources)),1⟩,⟨[16],AO 1 (A8 eS hl),0⟩,⟨[4,5],rv (Gl 3 hf (Ca ha) 0),1⟩,⟨[18],rv (Gl 3 hf (Ca ha) 1),1⟩,⟨[19,14],rv undef,2⟩,⟨[10,11],rv (Gl 3 hf (Ca ha) 0),1⟩,⟨[21],rv (Gl 3 hf (Ca ha) 2),1⟩,⟨[22,17],rv undef,2⟩] (rle [(21,_),(3,[.blk hk (Al (Ax hb ha)) 100,.row hf 100 3 (A8 Al (List.set hb (Ca ha) (Aj.mk ((Ax hb ha).fAllow) hh ((Ax hb ha).fResources)))),.blk hd [rB true,rS a.fTenant,rS a.fFunction,AO 1 (A8 eS hg),rv hf,AO 5 (A8 A1 hi),A4 a.fNow,rv (.map (some he)),DE 40 (rv (.pointer pv_v)),A4 0,rv (.slice none 0 0),rv (.slice none 0 0),rv (.slice none 0 0)] 81,.map he (Bx A9 ([]:List (Ai×(List Ac))))]),(1,[.blk hk (Al (Ax hb ha)) 100,.row hf 100 3 (A8 Al (List.set (List.set hb (Ca ha) (Aj.mk ((Ax hb ha).fAllow) hh ((Ax hb ha).fResources))) (Ca ha) (Aj.mk ((Ax (List.set hb (Ca ha) (Aj.mk ((Ax hb ha).fAllow) hh ((Ax hb ha).fResources))) ha).fAllow) ((Ax (List.set hb (Ca ha) (Aj.mk ((Ax hb ha).fAllow) hh ((Ax hb ha).fResources))) ha).fActions) hl))),.blk hd [rB true,rS a.fTenant,rS a.fFunction,AO 1 (A8 eS hg),rv hf,AO 5 (A8 A1 hi),A4 a.fNow,rv (.map (some he)),DE 40 (rv (.pointer pv_v)),A4 0,rv (.slice none 0 0),rv (.slice none 0 0),rv (.slice none 0 0)] 81,.map he (Bx A9 ([]:List (Ai×(List Ac))))])]) [1,10,56,57,58] ?_ ?_)
   ·refine oq (Am Aa) (oq (AS Aa) (oq (Az EU Aa Gy Aa Aa) (oq (Az CM Aa J1 Aa Aa) (of (AT (i:=2) Lp Aa Aa Aa) (oq (Am Aa) (oq (Am Aa) (oq (AS Aa) (oq (Az EU Aa Gy Aa Aa) (oq (Az CM Aa J1 Aa Aa) (of (AT (i:=2) Lp Aa Aa Aa) (oq (Am Aa) (oq (Az Gh Aa Dn Aa Aa) (of (AT (i:=0) E5 Aa Aa Aa) (Jk Aa (λH=>Cm UF (Jx ((Ax hb ha).fActions) hh hP) Aa) ?_))))))))))))));refine oq (Az Gh Aa Dn Aa Aa) (of (AT (i:=0) E5 Aa Aa Aa) (Jk Aa (λH=>Cm UF (Jx ((Ax hb ha).fResources) hl hR) Aa) ?_));refine of (EM (i:=1) Id En Aa Aa Aa (BI ho)) (of (Gj (k:=1) Gh Aa Dn Aa (BI ho) Aa Aa Aa) (DZ Aa (HO (MW (enc:=Al) (ys:=hb) (y':=(Aj.mk ((Ax hb ha).fAllow) hh ((Ax hb ha).fResources))) (i:=1) (j:=ha) Dn Aa Aa (BR Aa) Aa ho Aa Aa (H':=[.blk hk (Al (Ax hb ha)) 100,.row hf 100 3 (A8 Al (List.set hb (Ca ha) (Aj.mk ((Ax hb ha).fAllow) hh ((Ax hb ha).fResources)))),.blk hd [rB true,rS a.fTenant,rS a.fFunction,AO 1 (A8 eS hg),rv hf,AO 5 (A8 A1 hi),A4 a.fNow,rv (.map (some he)),DE 40 (rv (.pointer pv_v)),A4 0,rv (.slice none 0 0),rv (.slice none 0 0),rv (.slice none 0 0)] 81,.map he (Bx A9 ([]:List (Ai×(List Ac))))]) Aa)) ?_));refine of (EM (i:=1) Id En Aa Aa Aa (BI hx)) (of (Gj (k:=1) Gh Aa Dn Aa (BI hx) Aa Aa Aa) (DZ Aa (HO (MW (enc:=Al) (ys:=List.set hb (Ca ha) (Aj.mk ((Ax hb ha).fAllow) hh ((Ax hb ha).fResources))) (y':=(Aj.mk ((Ax (List.set hb (Ca ha) (Aj.mk ((Ax hb ha).fAllow) hh ((Ax hb ha).fResources))) ha).fAllow) ((Ax (List.set hb (Ca ha) (Aj.mk ((Ax hb ha).fAllow) hh ((Ax hb ha).fResources))) ha).fActions) hl)) (i:=1) (j:=ha) Dn Aa Aa (BR Aa) Aa hx Aa Aa (H':=[.blk hk (Al (Ax hb ha)) 100,.row hf 100 3 (A8 Al (List.set (List.set hb (Ca ha) (Aj.mk ((Ax hb ha).fAllow) hh ((Ax hb ha).fResources))) (Ca ha) (Aj.mk ((Ax (List.set hb (Ca ha) (Aj.mk ((Ax hb ha).fAllow) hh ((Ax hb ha).fResources))) ha).fAllow) ((Ax (List.set hb (Ca ha) (Aj.mk ((Ax hb ha).fAllow) hh ((Ax hb ha).fResources))) ha).fActions) hl))),.blk hd [rB true,rS a.fTenant,rS a.fFunction,AO 1 (A8 eS hg),rv hf,AO 5 (A8 A1 hi),A4 a.fNow,rv (.map (some he)),DE 40 (rv (.pointer pv_v)),A4 0,rv (.slice none 0 0),rv (.slice none 0 0),rv (.slice none 0 0)] 81,.map he (Bx A9 ([]:List (Ai×(List Ac))))]) Aa)) ?_));exact EK
   refine AB (AE (Af (ck hT λhU hV=>wv (By Aa Aa hU) (wm Aa (Ah ?_)))));have hW:=Bi hV hy;exact Ar (AC (hJ,(ha+1,List.set (List.set hb (Ca ha) (Aj.mk ((Ax hb ha).fAllow) hh ((Ax hb ha).fResources))) (Ca ha) (Aj.mk ((Ax (List.set hb (Ca ha) (Aj.mk ((Ax hb ha).fAllow) hh ((Ax hb ha).fResources))) ha).fAllow) ((Ax (List.set hb (Ca ha) (Aj.mk ((Ax hb ha).fAllow) hh ((Ax hb ha).fResources))) ha).fActions) hl)),()) ⟨hW,AeR _⟩ (AH.c5 Aa Aa Aa Aa Aa AH.nil) (sS (sC (sC (sC sN)))))
  refine Bn (Av ?_);have hX:=BE hN hy hH;exact Av (AY (AC (hb,()) hX (AH.c Aa (AH.c Aa AH.nil)) (sC (sC (sC sN)))))
 rintro⟨hp,⟨⟩⟩ hs;refine GX ?_;replace hs:MK F l hp=some r:=hs;unfold MK at hs;refine AW (AE (Ak (Ad (wm Aa (wv (Bj (ys:=l) (enc:=BN) Ru Aa) (wv (r:=A4 0) (Am Aa) (Ao (A6 (ob hs λhY hZ ga=>Br (S:=Nat×(Int×(List (Ai×(List Ac))))×(Unit)) (V:=((List (Ai×(List Ac))))×(Unit)) 2 (λσ=>BX (λσ=>ML l σ.1 σ.2) σ.1 σ.2.1=some hY) (λσ=>[(10,rP hd 0),(86,AO 3 (A8 BN l)),(87,A4 (l.length:Int)),(88,A4 σ.2.1.1)]) (λσ=>[.row hf 100 3 (A8 Al hp),.blk hd [rB true,rS a.fTenant,rS a.fFunction,AO 1 (A8 eS hg),rv hf,AO 5 (A8 A1 hi),A4 a.fNow,rv (.map (some he)),DE 40 (rv (.pointer pv_v)),A4 0,rv (.slice none 0 0),rv (.slice none 0 0),rv (.slice none 0 0)] 81,.map he (Bx A9 σ.2.1.2)]) (λσ=>σ.1) (F,(0,([]:List (Ai×(List Ac)))),()) hZ (AH.c Aa (AH.c Aa (AH.c Aa (AH.c Aa AH.nil)))) (sC (sC (sC sN))) (λσ=>MJ σ.1=some r) (λσ=>[(10,rP hd 0)]) (λσ=>[.row hf 100 3 (A8 Al hp),.blk hd [rB true,rS a.fTenant,rS a.fFunction,AO 1 (A8 eS hg),rv hf,AO 5 (A8 A1 hi),A4 a.fNow,rv (.map (some he)),DE 40 (rv (.pointer pv_v)),A4 0,rv (.slice none 0 0),rv (.slice none 0 0),rv (.slice none 0 0)] 81,.map he (Bx A9 σ.1)]) ?_ ?_)))))))))
 ·rintro⟨gw,⟨hj,hn⟩,⟨⟩⟩ gb;refine GI ?_;obtain⟨gc,rfl,gd,ht,hz⟩:=Cc gb;replace ht:ML l hj hn=some gd:=ht;unfold ML at ht;refine Ad (wv (Ci Aa Aa) (Ao (Ak (cz ht Aa (λgf gg=>?_) (λgf gh=>?_)))))
  ·refine Aw (AE (Ak (A6 (Ad (ck gg λgi gj=>wv (Bk (enc:=BN) (ys:=l) Ru OG Aa Aa gi) (wv (Cu Tryz.isAgg72 OG Aa Aa Aa) (BL (cs:=[rS ([]:Ai),rv (.slice none 0 0),A4 0]) Aaw Aa Aa (λhu=>?_))))))));refine GU (i:=0) OG Aa Aa Aa (B8.c Aa) Aa Aa ?_;refine Ao (ob gj λhq gl gm=>Mb 9 [10,14,86,87,88] [⟨[],rP hd 0,none,none,none⟩,⟨[0],rP hd 0,none,none,none⟩,⟨[1],rP hd 7,none,none,none⟩,⟨[2],rv (.map (some he)),none,none,none⟩,⟨[],rP hu 0,none,none,none⟩,⟨[4],rS ((Ax l hj).fKey),none,none,none⟩,⟨[],rP hu 1,none,none,none⟩,⟨[6],AO 4 (A8 Ae ((Ax l hj).fValue)),none,none,none⟩,⟨[7],AO 4 (A8 Ae hq),none,none,none⟩] ?_ (λβ=>?_))
   ·refine Px (Am Aa) (Px (AS Aa) (Px (Az EU Aa Tryz.sizeOf77 Aa Aa) (U8 (AT (i:=2) Tryz.isAgg77 Aa Aa Aa) (Px (Az Rt Aa CE Aa Aa) (U8 (AT (i:=0) Dp Aa Aa Aa) (Px (Az Rt Aa C8 Aa Aa) (U8 (AT (i:=0) Eo Aa Aa Aa) (oac (Cm OL (ET ((Ax l hj).fValue) hq gl) Aa) ?_))))))));exact oae
   refine Km (H1:=[.blk hu (BN (Ax l hj)) 72,.row hf 100 3 (A8 Al hp),.blk hd [rB true,rS a.fTenant,rS a.fFunction,AO 1 (A8 eS hg),rv hf,AO 5 (A8 A1 hi),A4 a.fNow,rv (.map (some he)),DE 40 (rv (.pointer pv_v)),A4 0,rv (.slice none 0 0),rv (.slice none 0 0),rv (.slice none 0 0)] 81,.map he (Bx A9 hn)]) [92,93,94,95,96,97,98,99,100,10,14,86,87,88] ?_;refine Oq (enc:=A9) (xs:=hn) (v:=hq) (i:=3) Acg C4 Aa Aa Aa Aa (H':=[.blk hu (BN (Ax l hj)) 72,.row hf 100 3 (A8 Al hp),.blk hd [rB true,rS a.fTenant,rS a.fFunction,AO 1 (A8 eS hg),rv hf,AO 5 (A8 A1 hi),A4 a.fNow,rv (.map (some he)),DE 40 (rv (.pointer pv_v)),A4 0,rv (.slice none 0 0),rv (.slice none 0 0),rv (.slice none 0 0)] 81,.map he (Bx A9 (Jo hn ((Ax l hj).fKey) hq))]) Aa (Ah (AB (AE (Af (ck gm λgp gq=>wv (By Aa Aa gp) (wm Aa (Ah ?_)))))));have gr:=Bi gq hz;exact Ar (AC (gc,(hj+1,Jo hn ((Ax l hj).fKey) hq),()) ⟨gr,AeR _⟩ (AH.c Aa (AH.c Aa (AH.c Aa (AH.c Aa AH.nil)))) (sS (sC (sC (sC sN)))))
  refine Bn (Av ?_);have gs:=BE gh hz ga;exact Av (AY (AC (hn,()) gs (AH.c Aa AH.nil) (sC (sC (sC sN)))))
 rintro⟨gu,⟨⟩⟩ hw;refine GX ?_;replace hw:MJ gu=some r:=hw;unfold MJ at hw;exact AW (AE (Ad (wm rfl (wa rfl (wa rfl (Ao (Ap (nomatch hw))))))))
theorem AcQ (F:Nat)(hf:Nat)(hd:Nat)(ha:Value)(he:Value)(hb:Value)(pv_v:Option Addr)(o:Ba)(key:Ai)(r:(List Ac)×Ba)(h:AcR F o key=some r):Fn Tryz.prog GE 64 [rP hf 0,rS key] [.blk hf [rB o.fMade,rS o.fA.fTenant,rS o.fA.fFunction,AO 1 (A8 eS o.fA.fOps),AO 3 (A8 Al o.fA.fPolicy),AO 5 (A8 A1 o.fA.fNet),A4 o.fA.fNow,rv (.map (some hd)),DE 40 (rv (.pointer pv_v)),A4 o.fCalls,rv ha,rv he,rv hb] 81,.map hd (Bx A9 o.fItems),.row ha 60 4 (A8 AP o.fEffects),.row he 9 1 (A8 eS o.fReads),.row hb 9 1 (A8 eS o.fLog)] (λR H=>∃w0_10:Value,∃w0_11:Value,∃w0_12:Value,R=AO 4 (A8 Ae r.1)∧H=[.blk hf [rB r.2.fMade,rS r.2.fA.fTenant,rS r.2.fA.fFunction,AO 1 (A8 eS r.2.fA.fOps),AO 3 (A8 Al r.2.fA.fPolicy),AO 5 (A8 A1 r.2.fA.fNet),A4 r.2.fA.fNow,rv (.map (some hd)),DE 40 (rv (.pointer pv_v)),A4 r.2.fCalls,rv w0_10,rv w0_11,rv w0_12] 81,.map hd (Bx A9 r.2.fItems),.row w0_10 60 4 (A8 AP r.2.fEffects),.row w0_11 9 1 (A8 eS r.2.fReads),.row w0_12 9 1 (A8 eS r.2.fLog)]):=by
 refine enter (n:=63) Tryz.func64 Aa Tryz.ntmps64 Aa (λw Z=>?_);unfold AcR at h;refine Ad (wa Aa (Ao (Ak (Ad (wm Aa (wv (AS Aa) (vF EU Aa WV (vL 0 Yw Aa (wv (D3 (ys:=o.fEffects) (enc:=AP) (i:=2) MZ Aa Aa) (ck h λg1 h2=>wv (Gi Aa Aa g1) (wa Aa (Ao (A6 (ob h2 λhp hq hl=>Br (S:=Nat×(Int)×(Unit)) (V:=(Unit)×(Unit)) 0 (λσ=>BX (λσ=>OA o key σ) σ.1 σ.2.1=some hp) (λσ=>[(0,rP hf 0),(1,rS key),(5,A4 σ.2.1)]) (λσ=>[.blk hf [rB o.fMade,rS o.fA.fTenant,rS o.fA.fFunction,AO 1 (A8 eS o.fA.fOps),AO 3 (A8 Al o.fA.fPolicy),AO 5 (A8 A1 o.fA.fNet),A4 o.fA.fNow,rv (.map (some hd)),DE 40 (rv (.pointer pv_v)),A4 o.fCalls,rv ha,rv he,rv hb] 81,.map hd (Bx A9 o.fItems),.row ha 60 4 (A8 AP o.fEffects),.row he 9 1 (A8 eS o.fReads),.row hb 9 1 (A8 eS o.fLog)]) (λσ=>σ.1) (F,(o.fEffects.length:Int)-1,()) hq (AH.c Aa (AH.c Aa (AH.c Aa AH.nil))) (sC (sC (sC (sC (sC sN))))) (λσ=>O9 o key =some r) (λσ=>[(0,rP hf 0),(1,rS key)]) (λσ=>[.blk hf [rB o.fMade,rS o.fA.fTenant,rS o.fA.fFunction,AO 1 (A8 eS o.fA.fOps),AO 3 (A8 Al o.fA.fPolicy),AO 5 (A8 A1 o.fA.fNet),A4 o.fA.fNow,rv (.map (some hd)),DE 40 (rv (.pointer pv_v)),A4 o.fCalls,rv ha,rv he,rv hb] 81,.map hd (Bx A9 o.fItems),.row ha 60 4 (A8 AP o.fEffects),.row he 9 1 (A8 eS o.fReads),.row hb 9 1 (A8 eS o.fLog)]) ?_ ?_))))))))))))))
 ·rintro⟨hW,hg,⟨⟩⟩ hr;refine GI ?_;obtain⟨hs,rfl,hm,hh,hi⟩:=Cc hr;replace hh:OA o key hg=some hm:=hh;unfold OA at hh;refine Ak (Ad (wm Aa (wv (DP Aa Aa) (Ao (cz hh Aa (λht hu=>?_) (λht hw=>?_))))))
  ·refine Aw (AE (If (S:=(Unit)×(Unit)) (λσ=>MN hg =some hm) (λσ=>[(0,rP hf 0),(1,rS key),(5,A4 hg)]) (λσ=>[.blk hf [rB o.fMade,rS o.fA.fTenant,rS o.fA.fFunction,AO 1 (A8 eS o.fA.fOps),AO 3 (A8 Al o.fA.fPolicy),AO 5 (A8 A1 o.fA.fNet),A4 o.fA.fNow,rv (.map (some hd)),DE 40 (rv (.pointer pv_v)),A4 o.fCalls,rv ha,rv he,rv hb] 81,.map hd (Bx A9 o.fItems),.row ha 60 4 (A8 AP o.fEffects),.row he 9 1 (A8 eS o.fReads),.row hb 9 1 (A8 eS o.fLog)]) ?_ ?_))
   ·refine A6 (Ad (wm Aa (wv (AS Aa) (vF EU Aa WV (vL 0 Yw Aa (wm Aa (ck hu λhn hx=>wv (r:=rv (Gl 4 ha (Ca hg) 0)) (EM (i:=2) MZ EW Aa Aa Aa (BI hn)) (wv (r:=B9 (AP (Ax o.fEffects hg))) (O4 (enc:=AP) (ys:=o.fEffects) (i:=2) (j:=hg) Kl EW Aa Aa hn Aa Aa) (BL (cs:=[A4 0,rS ([]:Ai),rv (.slice none 0 0),A4 0]) UC Aa Aa (λhX=>?_))))))))));refine GU (i:=0) EW Aa Aa Aa (B8.c Aa) Aa Aa ?_;refine Ao (Ak (Ad (vF EV Aa CE (vL 0 Dp Aa (wm Aa (wv (M4 Aa Aa) (Ao (cz hx Aa (λhy hz=>?_) (λhy h0=>?_)))))))))
    ·exact Bn (Av (AW (Ar (AC ((),()) hz (AH.c Aa (AH.c Aa (AH.c Aa AH.nil))) (sS (sC (sC (sC (sC (sC sN))))))))))
    refine Aw (AE (Ad (vF EV Aa Na (vL 0 Tryz.isAgg58 Aa (Ao (A6 (Ad (wv (B7 Aa Aa) (wa Aa (Ao (cz h0 Aa (λh1 h3=>?_) (λh1 h4=>?_))))))))))))
    ·refine Ad (vF EV Aa C8 (vL 0 Eo Aa (ob h3 λh5 h6 h7=>BP OL (ET ((Ax o.fEffects hg).fValue) h5 h6) Aa (wa Aa (Ao (Ap (A3 (A3 (Ab (Ab (Bg ?_)))))))))));have h8:=BC h7 hi hl;refine A3 (Ab ?_);obtain rfl:=Au h8;exact Aq (B2 Aa0 (AD Aa)) (sS (sC (sC (sC (sC (sC sN)))))) ⟨ha,he,hb,Aa,Aa⟩
    refine Ad (wv (B7 Aa Aa) (wa Aa (Ao (cz h4 Aa (λc173 h9=>?_) (λc173 hA=>?_)))))
    ·refine Ad (ob h9 λhB hC hD=>BP Tryz.call63 (Oo hB hC) Aa (wa Aa (Ao (Ap (A3 (A3 (Ab (Ab (Bg ?_)))))))));have hE:=BC hD hi hl;refine A3 (Ab ?_);obtain rfl:=Au hE;exact Aq (B2 Aa0 (AD Aa)) (sS (sC (sC (sC (sC (sC sN)))))) ⟨ha,he,hb,Aa,Aa⟩
    exact Aw (AB (AB (Ar (AC ((),()) hA (AH.c Aa (AH.c Aa (AH.c Aa AH.nil))) (sS (sC (sC (sC (sC (sC sN))))))))))
   rintro⟨⟨⟩,⟨⟩⟩ hj;refine GI ?_;replace hj:MN hg =some hm:=hj;unfold MN at hj;refine Af (wm Aa (ck hj λhG hH=>wv (Gi Aa Aa hG) (wa Aa (Ah ?_))));have hI:=Bi hH hi;exact Ar (AC (hs,hg-1,()) ⟨hI,AeR _⟩ (AH.c Aa (AH.c Aa (AH.c Aa AH.nil))) (sC (sC (sC (sC (sC sN))))))
  refine Bn (Av ?_);have hJ:=BE hw hi hl;exact Av (AY (AC ((),()) hJ (AH.c Aa (AH.c Aa AH.nil)) (sC (sC (sC (sC (sC sN)))))))
 rintro⟨⟨⟩,⟨⟩⟩ hk;refine GX ?_;replace hk:O9 o key =some r:=hk;unfold O9 at hk;refine AW (AE (Ad (wm Aa (wm Aa (wv (AS Aa) (vF EU Aa Dn (vL 0 E5 Aa (wm Aa (Bc (ys:=([key]:List Ai)) (enc:=eS) (css:=[[rS key]]) (xs:=[.tmp 45]) C7 CE VH Aa Aa Aa ⟨Ez.one Aa (Up.refl _),trivial⟩ Aa DS Aa Aa Aa (λhY=>?_))))))))));refine ck hk λhK hL=>Exists.elim Ra λinf hinf=>Er (xs:=o.fReads) (ys:=([key]:List Ai)) (enc:=eS) (i:=4) C7 hinf.1 hinf.2.1 hinf.2.2.1 hinf.2.2.2 Aa Aa Aa Aa Aa (Q3.w (i:=0) Aa Aa) DS PO hK Aa (λho=>?_);refine wv (AS Aa) (vF EU Aa Dn (us (i:=2) Dn Aa Aa (GN (i:=0) Aa) Aa Aa ?_));refine Ao (Ak (Ad (wm Aa (wv (AS Aa) (vF EU Aa Tryz.sizeOf77 (vL 2 Tryz.isAgg77 Aa (wm Aa (wv (r:=Dy [AO 4 (A8 Ae (Nu o.fItems key ([]:(List Ac)))),rB (Kf o.fItems key)]) (Wn (enc:=A9) (xs:=o.fItems) (z:=([]:(List Ac))) (i:=3) Acg C4 SF Nw Aa Aa Aa) (wm Aa (wv (A7 Aa Aa) (wv (A7 Aa Aa) (wa Aa (wa Aa (Bp (wm Aa (Ao (cz hL Aa (λhN hO=>?_) (λhN hP=>?_))))))))))))))))))
 ·refine Ad (wm Aa (ob hO λhQ hR hS=>BP OL (ET (Nu o.fItems key ([]:(List Ac))) hQ hR) Aa (wa Aa (Ao (Ap (Ab (NH [2,2,2,0,1] ?_)))))));obtain rfl:=Au hS;exact Aq (B2 Aa0 (AD Aa)) (sC (sC (sC (sC (sC (sS sN)))))) ⟨ha,ho,hb,Aa,Aa⟩
 refine Aw (AE (Ad (ob hP λhT hU hV=>BP Tryz.call63 (Oo hT hU) Aa (wa Aa (Ao (Ap (NH [2,2,2,0,1] ?_)))))));obtain rfl:=Au hV;exact Aq (B2 Aa0 (AD Aa)) (sC (sC (sC (sC (sC (sS sN)))))) ⟨ha,ho,hb,Aa,Aa⟩
theorem KF (F:Nat)(hd:Nat)(hh:Nat)(he:Value)(hb:Value)(hg:Value)(hf:Nat)(ha:Nat)(hk:Value)(o:Ba)(v:BJ)(hj:(List B5))(q:AQ)(r:Em×Ba)(h:Qx F o v hj q=some r):Fn Tryz.prog GE 16 [rP hd 0,B9 (AU q)] [.blk hd [rB o.fMade,rS o.fA.fTenant,rS o.fA.fFunction,AO 1 (A8 eS o.fA.fOps),AO 3 (A8 Al o.fA.fPolicy),AO 5 (A8 A1 o.fA.fNet),A4 o.fA.fNow,rv (.map (some hh)),DE 40 (rP hf 0),A4 o.fCalls,rv he,rv hb,rv hg] 81,.map hh (Bx A9 o.fItems),.row he 60 4 (A8 AP o.fEffects),.row hb 9 1 (A8 eS o.fReads),.row hg 9 1 (A8 eS o.fLog),.blk hf [rv (.map (some ha))] 156,.map ha (Bx (mP ha) v.fSecrets),.poolm ha hk 162 (A8 AJ hj) none] (λR H=>∃w0_10:Value,∃w0_11:Value,∃w0_12:Value,R=B9 (CV r.1)∧H=[.blk hd [rB r.2.fMade,rS r.2.fA.fTenant,rS r.2.fA.fFunction,AO 1 (A8 eS r.2.fA.fOps),AO 3 (A8 Al r.2.fA.fPolicy),AO 5 (A8 A1 r.2.fA.fNet),A4 r.2.fA.fNow,rv (.map (some hh)),DE 40 (rP hf 0),A4 r.2.fCalls,rv w0_10,rv w0_11,rv w0_12] 81,.map hh (Bx A9 r.2.fItems),.row w0_10 60 4 (A8 AP r.2.fEffects),.row w0_11 9 1 (A8 eS r.2.fReads),.row w0_12 9 1 (A8 eS r.2.fLog),.blk hf [rv (.map (some ha))] 156,.map ha (Bx (mP ha) v.fSecrets),.poolm ha hk 162 (A8 AJ hj) none]):=by
 refine enter (n:=164) Tryz.func16 Aa Tryz.ntmps16 Aa (λw Z=>?_);unfold Qx at h;refine Ad (BM Aa Aa (λb1=>?_));refine BL (cs:=[A4 0,rv (.slice none 0 0)]) UD Aa Aa (λb2=>?_);refine Ao (Ak (A5 [(0,rP hd 0),(3,rP b1 0),(4,rP b2 0),(25,rB (!o.fMade))] [.blk b2 [A4 0,rv (.slice none 0 0)] 52,.blk b1 (AU q) 29,.blk hd [rB o.fMade,rS o.fA.fTenant,rS o.fA.fFunction,AO 1 (A8 eS o.fA.fOps),AO 3 (A8 Al o.fA.fPolicy),AO 5 (A8 A1 o.fA.fNet),A4 o.fA.fNow,rv (.map (some hh)),DE 40 (rP hf 0),A4 o.fCalls,rv he,rv hb,rv hg] 81,.map hh (Bx A9 o.fItems),.row he 60 4 (A8 AP o.fEffects),.row hb 9 1 (A8 eS o.fReads),.row hg 9 1 (A8 eS o.fLog),.blk hf [rv (.map (some ha))] 156,.map ha (Bx (mP ha) v.fSecrets),.poolm ha hk 162 (A8 AJ hj) none] ?_ ?_))
 ·refine Af (wm Aa (wv (r:=rB false) (Nq ⟨_,Aax⟩ Aa) (wm Aa (AL (b:=false) Aa Aa Aa (wm Aa (AL (b:=false) Aa Aa Aa (wv (AS Aa) (AL (b:=false) Aa Aa Aa (vF EU Aa Jz (AL (b:=false) Aa Aa Aa (vL 2 Qg Aa (AL (b:=false) Aa Aa Aa (wv (BO Aa) (wv (r:=rB (!o.fMade)) (Ay (b:=false) Aa Aa Aa) (Ah ?_)))))))))))))));exact wt
 refine cz h Aa (λc3 h4=>?_) (λc3 h8=>?_)
 ·refine Ad (ob h4 λr5 e7 h6=>Ck (rs:=[rv (.slice none 0 0),A4 10]) (r:=B9 (CV r5)) OK Aa (Fn.args (DR ([]:List Ac) 10 r5 e7) ⟨HS.nil _,HS.refl _,trivial⟩) Aa Aa (GU (i:=0) EX Aa Aa Aa (B8.c Aa) Aa Aa ?_));refine Ao (Ap (Ab ?_));obtain rfl:=Au h6;exact Aq (B2 OI (Dv (i:=0) Nb EX Aa Aa Aa)) (sS (sS (sC (sC (sC (sC (sC (sC (sC (sC sN)))))))))) ⟨he,hb,hg,Aa,Aa⟩
 refine Aw (AE (Ak (Ad (wm Aa (wv (AS Aa) (vF EU Aa CK (vL 2 Df Aa (wv (DP Aa Aa) (Ao (cz h8 Aa (λc9 h7=>?_) (λc9 h9=>?_)))))))))))
 ·refine Ad (ob h7 λhu hA hB=>Ck (rs:=[rv (.slice none 0 0),A4 3]) (r:=B9 (CV hu)) OK Aa (Fn.args (DR ([]:List Ac) 3 hu hA) ⟨HS.nil _,HS.refl _,trivial⟩) Aa Aa (GU (i:=0) EX Aa Aa Aa (B8.c Aa) Aa Aa ?_));refine Ao (Ap (Ab ?_));obtain rfl:=Au hB;exact Aq (B2 OI (Dv (i:=0) Nb EX Aa Aa Aa)) (sS (sS (sC (sC (sC (sC (sC (sC (sC (sC sN)))))))))) ⟨he,hb,hg,Aa,Aa⟩
 refine Aw (AE (Ad (wm Aa (wv (AS Aa) (vF EU Aa CK (vL 2 Df Aa (ck h9 λg15 hC=>wv (By Aa Aa g15) (wv (AS Aa) (vF EU Aa CK (us (i:=2) CK Aa Aa (BR Aa) Aa Aa ?_))))))))));refine Ao (Ak (Ak (Mb 5 [0,3,4] [⟨[],rP hd 0,none,none,none⟩,⟨[0],rP hd 0,none,none,none⟩,⟨[1],rP hd 1,none,none,none⟩,⟨[2],B9 (Bf o.fA),none,none,none⟩,⟨[],B9 (AU q),none,none,none⟩] ?_ (λβ=>?_))))
 ·refine Px (Am Aa) (Px (AS Aa) (Px (Az EU Aa Gy Aa Aa) (U8 (Be (i:=2) LE Gy Aa Aa Aa Aa) (U8 (Be (i:=1) Rx Rv Aa Aa Aa Aa) ?_))));exact oae
 refine Km (H1:=[.blk b2 [A4 0,rv (.slice none 0 0)] 52,.blk b1 (AU q) 29,.blk hd [rB o.fMade,rS o.fA.fTenant,rS o.fA.fFunction,AO 1 (A8 eS o.fA.fOps),AO 3 (A8 Al o.fA.fPolicy),AO 5 (A8 A1 o.fA.fNet),A4 o.fA.fNow,rv (.map (some hh)),DE 40 (rP hf 0),A4 (o.fCalls+1),rv he,rv hb,rv hg] 81,.map hh (Bx A9 o.fItems),.row he 60 4 (A8 AP o.fEffects),.row hb 9 1 (A8 eS o.fReads),.row hg 9 1 (A8 eS o.fLog),.blk hf [rv (.map (some ha))] 156,.map ha (Bx (mP ha) v.fSecrets),.poolm ha hk 162 (A8 AJ hj) none]) [40,41,42,43,44,0,3,4] ?_;refine ob hC λhr hD hE=>BP yk8 (Iz F o.fA q hr hD) Aa (wa Aa (Bp (wm Aa (wv (CH Aa Aa) (Ao (cz hE Aa (λc20 hG=>?_) (λc20 hH=>?_)))))))
 ·refine Ad (wm Aa (ob hG λhw hI hJ=>Ck (rs:=[rv (.slice none 0 0),A4 hr]) (r:=B9 (CV hw)) OK Aa (Fn.args (DR ([]:List Ac) hr hw hI) ⟨HS.nil _,HS.refl _,trivial⟩) Aa Aa (GU (i:=0) EX Aa Aa Aa (B8.c Aa) Aa Aa ?_)));refine Ao (Ap (Ab ?_));obtain rfl:=Au hJ;exact Aq (B2 OI (Dv (i:=0) Nb EX Aa Aa Aa)) (sS (sS (sC (sC (sC (sC (sC (sC (sC (sC sN)))))))))) ⟨he,hb,hg,Aa,Aa⟩
 refine Aw (AE (Ak (Ad (wv (Be (i:=1) Rx Rv Aa Aa Aa Aa) (ob hH λhi hK hL=>BP Tryz.call62 (XT q hi hK) Aa (wm Aa (wv (A7 Aa Aa) (wv (A7 Aa Aa) (BL (cs:=[A4 0,rS ([]:Ai),rv (.slice none 0 0),A4 0]) UC Aa Aa (λho=>?_))))))))));refine GU (i:=0) EW Aa Aa Aa (B8.c Aa) Aa Aa ?_;refine wa Aa (Bp (wm Aa (Ao (cz hL Aa (λhN hO=>?_) (λhN hP=>?_)))))
 ·refine Ak (ck hO λhQ hR=>Exists.elim ZD λinf hinf=>Yy 8 7 [0,4,6] [] [{ deps:=[],r:=λ_=>rP hd 0 },{ deps:=[],r:=λ_=>rP hd 0 },{ deps:=[1],r:=λ_=>rP hd 0 },{ deps:=[2],r:=λ_=>rP hd 10 },{ deps:=[3],r:=λ_=>rv he },{ deps:=[],r:=λ_=>B9 (AP hi.1) },{ deps:=[5],r:=λ_=>AO 4 (A8 AP ([hi.1]:List Bo)) },{ deps:=[4,6],r:=λhm=>rv hm,dyn:=true }] (λhm=>[.row hm 60 4 (A8 AP (o.fEffects++([hi.1]:List Bo))),.blk ho (AP hi.1) 60,.blk b2 [A4 0,rv (.slice none 0 0)] 52,.blk b1 (AU q) 29,.blk hd [rB o.fMade,rS o.fA.fTenant,rS o.fA.fFunction,AO 1 (A8 eS o.fA.fOps),AO 3 (A8 Al o.fA.fPolicy),AO 5 (A8 A1 o.fA.fNet),A4 o.fA.fNow,rv (.map (some hh)),DE 40 (rP hf 0),A4 (o.fCalls+1),rv he,rv hb,rv hg] 81,.map hh (Bx A9 o.fItems),.row hb 9 1 (A8 eS o.fReads),.row hg 9 1 (A8 eS o.fLog),.blk hf [rv (.map (some ha))] 156,.map ha (Bx (mP ha) v.fSecrets),.poolm ha hk 162 (A8 AJ hj) none]) ?_ (λhm=>?_))
  ·refine Yk (Am Aa) (Yk (Am Aa) (Yk (AS Aa) (Yk (Az EU Aa WV Aa Aa) (oxr (fun {hm}=>Ef (AT (i:=3) Yw Aa Aa Aa)) (fun {hm}=>Ef (AT (i:=4) Yw Aa Aa Aa)) (oxr (fun {hm}=>Ef (Be (i:=0) Kl EW Aa Aa Aa Aa)) (fun {hm}=>Ef (Be (i:=1) Kl EW Aa Aa Aa Aa)) (oxc (Gp (ys:=([hi.1]:List Bo)) (enc:=AP) (css:=[[A4 hi.1.fKind,rS hi.1.fKey,AO 4 (A8 Ae hi.1.fValue),A4 hi.1.fDelay]]) (xs:=[.tmp 61]) MZ EW UC Aa Aa Aa ⟨Ez.agg ⟨Up.refl _,Up.refl _,Up.refl _,Up.refl _,trivial⟩,trivial⟩ Aa Gx Aa Aa) (oxx (SU (xs:=o.fEffects) (ys:=([hi.1]:List Bo)) (enc:=AP) (i:=5) MZ hinf.1 hinf.2.1 hinf.2.2.1 hinf.2.2.2 Aa Aa Aa Aa Aa (Q3.z Aa Aa) Gx JY hQ) ?_)))))));exact oxe
  refine Km (H1:=[.row hm 60 4 (A8 AP (o.fEffects++([hi.1]:List Bo))),.blk ho (AP hi.1) 60,.blk b2 [A4 0,rv (.slice none 0 0)] 52,.blk b1 (AU q) 29,.blk hd [rB o.fMade,rS o.fA.fTenant,rS o.fA.fFunction,AO 1 (A8 eS o.fA.fOps),AO 3 (A8 Al o.fA.fPolicy),AO 5 (A8 A1 o.fA.fNet),A4 o.fA.fNow,rv (.map (some hh)),DE 40 (rP hf 0),A4 (o.fCalls+1),rv he,rv hb,rv hg] 81,.map hh (Bx A9 o.fItems),.row hb 9 1 (A8 eS o.fReads),.row hg 9 1 (A8 eS o.fLog),.blk hf [rv (.map (some ha))] 156,.map ha (Bx (mP ha) v.fSecrets),.poolm ha hk 162 (A8 AJ hj) none]) [56,57,58,59,60,61,62,63,0,4,6] ?_;refine wv (AS Aa) (vF EU Aa WV (us (i:=4) WV Aa Aa (GN (i:=0) Aa) Aa Aa ?_));refine Bp (ob hR λhx hS hT=>BP Tryz.call63 (Oo hx hS) Aa (ob hT λhU hV hW=>BP OK (DR hx 0 hU hV) Aa (GU (i:=2) EX Aa Aa Aa (B8.c Aa) Aa Aa ?_)));refine Ao (Ap (Ab (NH [4,4,0,3,3,3,3,3] ?_)));obtain rfl:=Au hW;exact Aq (B2 OI (Dv (i:=9) Nb EX Aa Aa Aa)) (sC (sC (sC (sC (sC (sC (sC (sC (sS (sS (sS sN))))))))))) ⟨hm,hb,hg,Aa,Aa⟩
 refine Aw (AE (Ak (Ad (vF CZ Aa CE (vL 2 Dp Aa (Ao (A6 (Ad (wv (BQ Aa Aa) (wa Aa (Ao (cz hP Aa (λhX hY=>?_) (λhX hZ=>?_)))))))))))))
 ·refine Ad (vF CZ Aa GF (vL 2 DL Aa (ck hY λga gb=>wv (Bk (enc:=AM) (ys:=q.fArgs) Ew C8 Aa Aa ga) (wv (Bb Eo Aa Aa) (ob gb λhy gc gd=>BP OM (Iw (Ax q.fArgs 0) hy gc) Aa (wm Aa (wv (A7 Aa Aa) (wv (A7 Aa Aa) (wa Aa (wa Aa (Bp (wm Aa (wm Aa (ob gd λhz gf gg=>J3 [3,3,3,3,3] Tryz.call64 (AcQ F hd hh he hb hg (some ⟨hf,0,none⟩) (Ba.mk o.fMade o.fA o.fItems () (o.fCalls+1) o.fEffects o.fReads o.fLog) hy.1 hz gf) ?_))))))))))))));rintro _ _ ⟨gh,v53,gi,rfl,rfl⟩;refine ob gg λgj gl gm=>BP OK (DR hz.1 0 gj gl) Aa (GU (i:=6) EX Aa Aa Aa (B8.c Aa) Aa Aa ?_);refine Ao (Ap (A3 (Ab ?_)));obtain rfl:=Au gm;exact Aq (B2 OI (Dv (i:=6) Nb EX Aa Aa Aa)) (sC (sC (sC (sC (sC (sS (sS (sS (sC (sC (sC sN))))))))))) ⟨gh,v53,gi,Aa,Aa⟩
 refine Ad (wv (BQ Aa Aa) (wa Aa (Ao (cz hZ Aa (λgp gq=>?_) (λgp gr=>?_)))))
 ·refine Ad (vF CZ Aa GF (vL 2 DL Aa (ck gq λgs gu=>wv (Bk (enc:=AM) (ys:=q.fArgs) Ew C8 Aa Aa gs) (wv (Bb Eo Aa Aa) (ob gu λh0 gv gw=>BP OM (Iw (Ax q.fArgs 0) h0 gv) Aa (wm Aa (wv (A7 Aa Aa) (wv (A7 Aa Aa) (wa Aa (wa Aa (Ao (Ak (ob gw λhp gx gy=>Du [0,4,10] ?_)))))))))))));refine rq (Am Aa) (rq (AS Aa) (rq (Az EU Aa Tryz.sizeOf79 Aa Aa) (rq (AT (i:=3) Tryz.isAgg79 Aa Aa Aa) (rq (Am Aa) (rq (Am Aa) (rq (AS Aa) (rq (Az EU Aa Gy Aa Aa) (rq (Az CM Aa CE Aa Aa) (rq (AT (i:=3) Dp Aa Aa Aa) (rq (r:=DE 40 (rP hf 0)) (Qt Aa) (rq (Am Aa) (GG (RM (Hin:=[.blk hf [rv (.map (some ha))] 156,.map ha (Bx (mP ha) v.fSecrets),.poolm ha hk 162 (A8 AJ hj) none]) (Hr:=[.blk ho (AP hi.1) 60,.blk b2 [A4 0,rv (.slice none 0 0)] 52,.blk b1 (AU q) 29,.blk hd [rB o.fMade,rS o.fA.fTenant,rS o.fA.fFunction,AO 1 (A8 eS o.fA.fOps),AO 3 (A8 Al o.fA.fPolicy),AO 5 (A8 A1 o.fA.fNet),A4 o.fA.fNow,rv (.map (some hh)),DE 40 (rP hf 0),A4 (o.fCalls+1),rv he,rv hb,rv hg] 81,.map hh (Bx A9 o.fItems),.row he 60 4 (A8 AP o.fEffects),.row hb 9 1 (A8 eS o.fReads),.row hg 9 1 (A8 eS o.fLog)]) Vm Tryz.call264 Aa ((AZ (i:=8) Aa).trans (Aff _ ((AZ (i:=8) Aa).trans (Aff _ ((AZ (i:=8) Aa).trans (Aff _ (Afd _))))))) (YC hf ha hk v hj h0.1 o.fA.fFunction hp gx) Aa) (rq (Am Aa) (rq (A7 Aa Aa) (rq (A7 Aa Aa) (rq (A7 Aa Aa) (rq (A0 Aa) (rq (A0 Aa) (rq (A0 Aa) (re [12,14,4] ?_))))))))))))))))))));refine AE (Ak (Ad (wm Aa (wv (CH Aa Aa) (Ao (cz gy Aa (λgz g0=>?_) (λgz g1=>?_)))))))
  ·refine Ad (wm Aa (ob g0 λh1 g2 g3=>Ck (rs:=[rv (.slice none 0 0),A4 hp.2.2]) (r:=B9 (CV h1)) OK Aa (Fn.args (DR ([]:List Ac) hp.2.2 h1 g2) ⟨HS.nil _,HS.refl _,trivial⟩) Aa Aa (GU (i:=1) EX Aa Aa Aa (B8.c Aa) Aa Aa ?_)));refine Ao (Ap (Ab (A3 (Ab ?_))));obtain rfl:=Au g3;exact Aq (B2 OI (Dv (i:=1) Nb EX Aa Aa Aa)) (sS (sS (sS (sC (sC (sC (sC (sC (sC (sC (sC sN))))))))))) ⟨he,hb,hg,Aa,Aa⟩
  refine Aw (AE (Ad (wm Aa (ob g1 λhs g4 g5=>BP Tryz.call65 (Acm F hp.1 hs g4) Aa (wv (A7 Aa Aa) (wv (A7 Aa Aa) (ob g5 λg6 g7 g8=>BP OK (DR hs.1 hs.2 g6 g7) Aa (GU (i:=1) EX Aa Aa Aa (B8.c Aa) Aa Aa ?_))))))));refine Ao (Ap (A3 (Ab ?_)));obtain rfl:=Au g8;exact Aq (B2 OI (Dv (i:=1) Nb EX Aa Aa Aa)) (sS (sS (sS (sC (sC (sC (sC (sC (sC (sC (sC sN))))))))))) ⟨he,hb,hg,Aa,Aa⟩
 refine Ad (wv (BQ Aa Aa) (wa Aa (Ao (cz gr Aa (λg9 gA=>?_) (λg9 gB=>?_)))))
 ·refine Ad (vF CZ Aa GF (vL 2 DL Aa (ck gA λgC gD=>wv (Bk (enc:=AM) (ys:=q.fArgs) Ew C8 Aa Aa gC) (wv (Bb Eo Aa Aa) (ob gD λh2 gE gF=>BP OL (ET (Ax q.fArgs 1) h2 gE) Aa (ob gF λgG gH gI=>BP OK (DR h2 0 gG gH) Aa (GU (i:=1) EX Aa Aa Aa (B8.c Aa) Aa Aa ?_)))))));refine Ao (Ap (A3 (Ab ?_)));obtain rfl:=Au gI;exact Aq (B2 OI (Dv (i:=1) Nb EX Aa Aa Aa)) (sS (sS (sS (sC (sC (sC (sC (sC (sC (sC (sC sN))))))))))) ⟨he,hb,hg,Aa,Aa⟩
 refine Ad (wv (BQ Aa Aa) (wa Aa (Ao (cz gB Aa (λgJ gK=>?_) (λgJ gL=>?_)))))
 ·refine Ad (wm Aa (wv (AS Aa) (vF EU Aa Gy (vF CM Aa CK (vL 3 Df Aa (ob gK λht gM gN=>BP Tryz.call66 (Aco F o.fA.fNow ht gM) Aa (wv (A7 Aa Aa) (wv (A7 Aa Aa) (ob gN λgO gP gQ=>BP OK (DR ht.1 ht.2 gO gP) Aa (GU (i:=1) EX Aa Aa Aa (B8.c Aa) Aa Aa ?_))))))))));refine Ao (Ap (A3 (Ab ?_)));obtain rfl:=Au gQ;exact Aq (B2 OI (Dv (i:=1) Nb EX Aa Aa Aa)) (sS (sS (sS (sC (sC (sC (sC (sC (sC (sC (sC sN))))))))))) ⟨he,hb,hg,Aa,Aa⟩
 refine Aw (AB (AE (Ad (vF CZ Aa GF (vL 2 DL Aa (ck gL λgR gS=>wv (Bk (enc:=AM) (ys:=q.fArgs) Ew C8 Aa Aa gR) (wv (Bb Eo Aa Aa) (ob gS λhq gT gU=>BP Tryz.call67 (Xe F (Ax q.fArgs 0) hq gT) Aa (wm Aa (wv (A7 Aa Aa) (wv (A7 Aa Aa) (wa Aa (wa Aa (Ao (Ak (ob gU λhn h3 gV=>ck gV λgW gX=>Exists.elim Ra λinf hinf=>Yy 13 12 [0,4,15] [] [{ deps:=[],r:=λ_=>rP hd 0 },{ deps:=[],r:=λ_=>rP hd 0 },{ deps:=[1],r:=λ_=>rP hd 0 },{ deps:=[2],r:=λ_=>rP hd 12 },{ deps:=[3],r:=λ_=>rv hg },{ deps:=[],r:=λ_=>rP hd 0 },{ deps:=[5],r:=λ_=>rP hd 0 },{ deps:=[6],r:=λ_=>rP hd 8 },{ deps:=[7],r:=λ_=>DE 40 (rP hf 0) },{ deps:=[],r:=λ_=>rS hq.1 },{ deps:=[8,9],r:=λ_=>rS hn },{ deps:=[10],r:=λ_=>AO 1 (A8 eS ([hn]:List Ai)) },{ deps:=[4,11],r:=λhl=>rv hl,dyn:=true }] (λhl=>[.row hl 9 1 (A8 eS (o.fLog++([hn]:List Ai))),.blk ho (AP hi.1) 60,.blk b2 [A4 0,rv (.slice none 0 0)] 52,.blk b1 (AU q) 29,.blk hd [rB o.fMade,rS o.fA.fTenant,rS o.fA.fFunction,AO 1 (A8 eS o.fA.fOps),AO 3 (A8 Al o.fA.fPolicy),AO 5 (A8 A1 o.fA.fNet),A4 o.fA.fNow,rv (.map (some hh)),DE 40 (rP hf 0),A4 (o.fCalls+1),rv he,rv hb,rv hg] 81,.map hh (Bx A9 o.fItems),.row he 60 4 (A8 AP o.fEffects),.row hb 9 1 (A8 eS o.fReads),.blk hf [rv (.map (some ha))] 156,.map ha (Bx (mP ha) v.fSecrets),.poolm ha hk 162 (A8 AJ hj) none]) ?_ (λhl=>?_)))))))))))))))))
 ·refine Yk (Am Aa) (Yk (Am Aa) (Yk (AS Aa) (Yk (Az EU Aa Dn Aa Aa) (oxr (fun {hl}=>Ef (AT (i:=3) E5 Aa Aa Aa)) (fun {hl}=>Ef (AT (i:=4) E5 Aa Aa Aa)) (Yk (Am Aa) (Yk (AS Aa) (Yk (Az EU Aa Tryz.sizeOf79 Aa Aa) (oxr (fun {hl}=>Ef (AT (i:=3) Tryz.isAgg79 Aa Aa Aa)) (fun {hl}=>Ef (AT (i:=4) Tryz.isAgg79 Aa Aa Aa)) (Yk (Am Aa) (oxr (fun {hl}=>RM (Hin:=[.blk hf [rv (.map (some ha))] 156,.map ha (Bx (mP ha) v.fSecrets),.poolm ha hk 162 (A8 AJ hj) none]) (Hr:=[.blk ho (AP hi.1) 60,.blk b2 [A4 0,rv (.slice none 0 0)] 52,.blk b1 (AU q) 29,.blk hd [rB o.fMade,rS o.fA.fTenant,rS o.fA.fFunction,AO 1 (A8 eS o.fA.fOps),AO 3 (A8 Al o.fA.fPolicy),AO 5 (A8 A1 o.fA.fNet),A4 o.fA.fNow,rv (.map (some hh)),DE 40 (rP hf 0),A4 (o.fCalls+1),rv he,rv hb,rv hg] 81,.map hh (Bx A9 o.fItems),.row he 60 4 (A8 AP o.fEffects),.row hb 9 1 (A8 eS o.fReads),.row hg 9 1 (A8 eS o.fLog)]) P9 Tryz.call265 Aa ((AZ (i:=8) Aa).trans (Aff _ ((AZ (i:=8) Aa).trans (Aff _ ((AZ (i:=8) Aa).trans (Aff _ (Afd _))))))) (Pc F hf ha hk v hj hq.1 hn h3) Aa) (fun {hl}=>RM (Hin:=[.blk hf [rv (.map (some ha))] 156,.map ha (Bx (mP ha) v.fSecrets),.poolm ha hk 162 (A8 AJ hj) none]) (Hr:=[.row hl 9 1 (A8 eS (o.fLog++([hn]:List Ai))),.blk ho (AP hi.1) 60,.blk b2 [A4 0,rv (.slice none 0 0)] 52,.blk b1 (AU q) 29,.blk hd [rB o.fMade,rS o.fA.fTenant,rS o.fA.fFunction,AO 1 (A8 eS o.fA.fOps),AO 3 (A8 Al o.fA.fPolicy),AO 5 (A8 A1 o.fA.fNet),A4 o.fA.fNow,rv (.map (some hh)),DE 40 (rP hf 0),A4 (o.fCalls+1),rv he,rv hb,rv hg] 81,.map hh (Bx A9 o.fItems),.row he 60 4 (A8 AP o.fEffects),.row hb 9 1 (A8 eS o.fReads)]) P9 Tryz.call265 Aa ((AZ (i:=8) Aa).trans (Aff _ ((AZ (i:=8) Aa).trans (Aff _ ((AZ (i:=8) Aa).trans (Aff _ (Afd _))))))) (Pc F hf ha hk v hj hq.1 hn h3) Aa) (oxc (Gp (ys:=([hn]:List Ai)) (enc:=eS) (css:=[[rS hn]]) (xs:=[.tmp 157]) C7 CE VH Aa Aa Aa ⟨Ez.one Aa (Up.refl _),trivial⟩ Aa DS Aa Aa) (oxx (SU (xs:=o.fLog) (ys:=([hn]:List Ai)) (enc:=eS) (i:=7) C7 hinf.1 hinf.2.1 hinf.2.2.1 hinf.2.2.2 Aa Aa Aa Aa Aa (Q3.z Aa Aa) DS PO gW) ?_))))))))))));exact oxe
 refine Km (H1:=[.row hl 9 1 (A8 eS (o.fLog++([hn]:List Ai))),.blk ho (AP hi.1) 60,.blk b2 [A4 0,rv (.slice none 0 0)] 52,.blk b1 (AU q) 29,.blk hd [rB o.fMade,rS o.fA.fTenant,rS o.fA.fFunction,AO 1 (A8 eS o.fA.fOps),AO 3 (A8 Al o.fA.fPolicy),AO 5 (A8 A1 o.fA.fNet),A4 o.fA.fNow,rv (.map (some hh)),DE 40 (rP hf 0),A4 (o.fCalls+1),rv he,rv hb,rv hg] 81,.map hh (Bx A9 o.fItems),.row he 60 4 (A8 AP o.fEffects),.row hb 9 1 (A8 eS o.fReads),.blk hf [rv (.map (some ha))] 156,.map ha (Bx (mP ha) v.fSecrets),.poolm ha hk 162 (A8 AJ hj) none]) [147,148,149,150,151,152,153,154,155,156,157,158,159,0,4,15] ?_;refine wv (AS Aa) (vF EU Aa Dn (us (i:=4) Dn Aa Aa (GN (i:=0) Aa) Aa Aa ?_));refine Bp (ob gX λh5 gY gZ=>BP Tryz.call63 (Oo h5 gY) Aa (ob gZ λca cb cc=>BP OK (DR h5 0 ca cb) Aa (GU (i:=2) EX Aa Aa Aa (B8.c Aa) Aa Aa ?_)));refine Ao (Ap (NH [4,4,4,4,0,3,3,3] ?_));obtain rfl:=Au cc;exact Aq (B2 OI (Dv (i:=9) Nb EX Aa Aa Aa)) (sC (sC (sC (sC (sC (sC (sC (sC (sS (sS (sS sN))))))))))) ⟨he,hb,hl,Aa,Aa⟩
theorem Vz (F:Nat)(hg:Nat)(hd:Nat)(hb:Value)(he:Value)(hf:Value)(pv_v:Option Addr)(o:Ba)(r:(List Bo))(h:PJ F o=some r):Fn Tryz.prog GE 14 [rP hg 0] [.blk hg [rB o.fMade,rS o.fA.fTenant,rS o.fA.fFunction,AO 1 (A8 eS o.fA.fOps),AO 3 (A8 Al o.fA.fPolicy),AO 5 (A8 A1 o.fA.fNet),A4 o.fA.fNow,rv (.map (some hd)),DE 40 (rv (.pointer pv_v)),A4 o.fCalls,rv hb,rv he,rv hf] 81,.map hd (Bx A9 o.fItems),.row hb 60 4 (A8 AP o.fEffects),.row he 9 1 (A8 eS o.fReads),.row hf 9 1 (A8 eS o.fLog)] (λR H=>R=AO 4 (A8 AP r)∧H=[.blk hg [rB o.fMade,rS o.fA.fTenant,rS o.fA.fFunction,AO 1 (A8 eS o.fA.fOps),AO 3 (A8 Al o.fA.fPolicy),AO 5 (A8 A1 o.fA.fNet),A4 o.fA.fNow,rv (.map (some hd)),DE 40 (rv (.pointer pv_v)),A4 o.fCalls,rv hb,rv he,rv hf] 81,.map hd (Bx A9 o.fItems),.row hb 60 4 (A8 AP o.fEffects),.row he 9 1 (A8 eS o.fReads),.row hf 9 1 (A8 eS o.fLog)]):=by
 refine enter (n:=27) Tryz.func14 Aa Tryz.ntmps14 Aa (λw Z=>?_);unfold PJ at h;refine Ad (wa Aa (Ao (Ak (Ad (wm Aa (wv (r:=rB false) (Nq ⟨_,Aax⟩ Aa) (Ao (CS Aa Aa (Aw (AE (Ad (wa Aa (Ao (Ak (Ad (wm Aa (wv (AS Aa) (vF EU Aa WV (vL 0 Yw Aa (wv (D3 (ys:=o.fEffects) (enc:=AP) (i:=2) MZ Aa Aa) (wv (r:=A4 0) (Am Aa) (Ao (A6 ?_)))))))))))))))))))))));refine WC.nilrow (e:=60) (sz:=4) (VQ (H2:=[.blk hg [rB o.fMade,rS o.fA.fTenant,rS o.fA.fFunction,AO 1 (A8 eS o.fA.fOps),AO 3 (A8 Al o.fA.fPolicy),AO 5 (A8 A1 o.fA.fNet),A4 o.fA.fNow,rv (.map (some hd)),DE 40 (rv (.pointer pv_v)),A4 o.fCalls,rv hb,rv he,rv hf] 81,.map hd (Bx A9 o.fItems),.row hb 60 4 (A8 AP o.fEffects),.row he 9 1 (A8 eS o.fReads),.row hf 9 1 (A8 eS o.fLog),.row (.slice none 0 0                                                            ) 60 4 (A8 AP ([]:List Bo))]) ((AZ (i:=1) Aa).trans (Aff _ ((AZ (i:=1) Aa).trans (Aff _ ((AZ (i:=1) Aa).trans (Aff _ ((AZ (i:=1) Aa).trans (Aff _ ((AZ (i:=1) Aa).trans (Aff _ (Afd _))))))))))) (ob h λho hp hq=>Br (S:=Nat×((List Bo)×Int)×(Value)) (V:=((List Bo))×(Value)) 0 (λσ=>BX (λσ=>II o σ.1 σ.2) σ.1 σ.2.1=some ho) (λσ=>[(3,rv σ.2.2),(11,rv hb),(12,A4 (o.fEffects.length:Int)),(13,A4 σ.2.1.2)]) (λσ=>[.blk hg [rB o.fMade,rS o.fA.fTenant,rS o.fA.fFunction,AO 1 (A8 eS o.fA.fOps),AO 3 (A8 Al o.fA.fPolicy),AO 5 (A8 A1 o.fA.fNet),A4 o.fA.fNow,rv (.map (some hd)),DE 40 (rv (.pointer pv_v)),A4 o.fCalls,rv hb,rv he,rv hf] 81,.map hd (Bx A9 o.fItems),.row hb 60 4 (A8 AP o.fEffects),.row he 9 1 (A8 eS o.fReads),.row hf 9 1 (A8 eS o.fLog),.row σ.2.2 60 4 (A8 AP σ.2.1.1)]) (λσ=>σ.1) (F,(([]:List Bo),0),(.slice none 0 0                                                            )) hp (AH.c Aa (AH.c Aa (AH.c Aa (AH.c Aa AH.nil)))) (sC (sC (sC (sC (sC (sC sN)))))) (λσ=>IH σ.1=some r) (λσ=>[(3,rv σ.2)]) (λσ=>[.blk hg [rB o.fMade,rS o.fA.fTenant,rS o.fA.fFunction,AO 1 (A8 eS o.fA.fOps),AO 3 (A8 Al o.fA.fPolicy),AO 5 (A8 A1 o.fA.fNet),A4 o.fA.fNow,rv (.map (some hd)),DE 40 (rv (.pointer pv_v)),A4 o.fCalls,rv hb,rv he,rv hf] 81,.map hd (Bx A9 o.fItems),.row hb 60 4 (A8 AP o.fEffects),.row he 9 1 (A8 eS o.fReads),.row hf 9 1 (A8 eS o.fLog),.row σ.2 60 4 (A8 AP σ.1)]) ?_ ?_))
 ·rintro⟨h8,⟨hi,ha⟩,hr⟩ hs;refine GI ?_;obtain⟨ht,rfl,hu,hj,hl⟩:=Cc hs;replace hj:II o hi ha=some hu:=hj;unfold II at hj;refine Ad (wv (Ci Aa Aa) (Ao (Ak (cz hj Aa (λhw hx=>?_) (λhw hy=>?_)))))
  ·refine Aw (AE (Ak (A6 (Ad (ck hx λhm hz=>wv (r:=rv (Gl 4 hb (Ca ha) 0)) (EM (i:=2) MZ EW Aa Aa Aa (BI hm)) (wv (r:=B9 (AP (Ax o.fEffects ha))) (O4 (enc:=AP) (ys:=o.fEffects) (i:=2) (j:=ha) Kl EW Aa Aa hm Aa Aa) (BL (cs:=[A4 0,rS ([]:Ai),rv (.slice none 0 0),A4 0]) UC Aa Aa (λh9=>?_))))))));refine GU (i:=0) EW Aa Aa Aa (B8.c Aa) Aa Aa ?_;refine Bp (vF EV Aa C8 (vL 0 Eo Aa (ob hz λhh h0 h1=>BP OL (ET ((Ax o.fEffects ha).fValue) hh h0) Aa (vF EV Aa C8 (us (i:=0) C8 Aa Aa (BR Aa) Aa Aa ?_)))));refine Ao (Af (wm Aa (wv (Be (i:=0) Kl EW Aa Aa Aa Aa) (Bc (ys:=([(Bo.mk ((Ax o.fEffects ha).fKind) ((Ax o.fEffects ha).fKey) hh ((Ax o.fEffects ha).fDelay))]:List Bo)) (enc:=AP) (css:=[[A4 ((Ax o.fEffects ha).fKind),rS ((Ax o.fEffects ha).fKey),AO 4 (A8 Ae hh),A4 ((Ax o.fEffects ha).fDelay)]]) (xs:=[.tmp 22]) MZ EW UC Aa Aa Aa ⟨Ez.agg ⟨Up.refl _,Up.refl _,Up.refl _,Up.refl _,trivial⟩,trivial⟩ Aa Gx Aa Aa Aa (λhA=>?_)))));refine ck h1 λh2 h3=>Exists.elim ZD λinf hinf=>Er (xs:=hi) (ys:=([(Bo.mk ((Ax o.fEffects ha).fKind) ((Ax o.fEffects ha).fKey) hh ((Ax o.fEffects ha).fDelay))]:List Bo)) (enc:=AP) (i:=7) MZ hinf.1 hinf.2.1 hinf.2.2.1 hinf.2.2.2 Aa Aa Aa Aa Aa (Q3.w (i:=0) Aa Aa) Gx JY h2 Aa (λv70=>?_);refine wa Aa (Ah (AB (AE (Af (ck h3 λh4 h5=>wv (By Aa Aa h4) (wm Aa (Ah (NH [3,3,3,3,3] ?_))))))));have h6:=Bi h5 hl;exact Ar (AC (ht,(hi++([(Bo.mk ((Ax o.fEffects ha).fKind) ((Ax o.fEffects ha).fKey) hh ((Ax o.fEffects ha).fDelay))]:List Bo),ha+1),v70) ⟨h6,AeR _⟩ (AH.c Aa (AH.c Aa (AH.c Aa (AH.c Aa AH.nil)))) (sC (sC (sC (sC (sC (sC (sS (sS sN)))))))))
  refine Bn (Av ?_);have h7:=BE hy hl hq;exact Av (AY (AC (hi,hr) h7 (AH.c Aa AH.nil) (sC (sC (sC (sC (sC (sC sN))))))))
 rintro⟨hn,v51⟩ hk;refine GX ?_;replace hk:IH hn=some r:=hk;unfold IH at hk;refine AW (AE (Ad (wm Aa (wa Aa (Ao (Ap (WK.freeze (i:=5) Aa (WK.up (d:=2) (r:=AO 4 (A8 AP hn)) Aa (Up.fact (i:=0) Aa) ?_))))))));obtain rfl:=Au hk;exact Aq (B2 Tryz.results14 (AD Aa)) (sS (sC (sC (sC (sC (sC sN)))))) ⟨Aa,Aa⟩
theorem Ud (hf:Nat)(hb:Nat)(hd:Value)(ha:Value)(he:Value)(pv_v:Option Addr)(o:Ba)(r:(List Ai))(h:Sk o=some r):Fn Tryz.prog GE 15 [rP hf 0] [.blk hf [rB o.fMade,rS o.fA.fTenant,rS o.fA.fFunction,AO 1 (A8 eS o.fA.fOps),AO 3 (A8 Al o.fA.fPolicy),AO 5 (A8 A1 o.fA.fNet),A4 o.fA.fNow,rv (.map (some hb)),DE 40 (rv (.pointer pv_v)),A4 o.fCalls,rv hd,rv ha,rv he] 81,.map hb (Bx A9 o.fItems),.row hd 60 4 (A8 AP o.fEffects),.row ha 9 1 (A8 eS o.fReads),.row he 9 1 (A8 eS o.fLog)] (λR H=>R=AO 1 (A8 eS r)∧H=[.blk hf [rB o.fMade,rS o.fA.fTenant,rS o.fA.fFunction,AO 1 (A8 eS o.fA.fOps),AO 3 (A8 Al o.fA.fPolicy),AO 5 (A8 A1 o.fA.fNet),A4 o.fA.fNow,rv (.map (some hb)),DE 40 (rv (.pointer pv_v)),A4 o.fCalls,rv hd,rv ha,rv he] 81,.map hb (Bx A9 o.fItems),.row hd 60 4 (A8 AP o.fEffects),.row ha 9 1 (A8 eS o.fReads),.row he 9 1 (A8 eS o.fLog)]):=by
 refine enter (n:=10) Tryz.func15 Aa Tryz.ntmps15 Aa (λw Z=>?_);unfold Sk at h;refine Ad (wa Aa (Ao (Ak (Ad (wm Aa (wv (r:=rB false) (Nq ⟨_,Aax⟩ Aa) (Ao (CS Aa Aa (Aw (AE (Ad (wm Aa (wv (AS Aa) (vF EU Aa Dn (vL 0 E5 Aa (ck h λg1 h2=>Cf (rs:=[rv ha]) (Hin:=[.row ha 9 1 (A8 eS o.fReads)]) (Hr:=[.blk hf [rB o.fMade,rS o.fA.fTenant,rS o.fA.fFunction,AO 1 (A8 eS o.fA.fOps),AO 3 (A8 Al o.fA.fPolicy),AO 5 (A8 A1 o.fA.fNet),A4 o.fA.fNow,rv (.map (some hb)),DE 40 (rv (.pointer pv_v)),A4 o.fCalls,rv hd,rv ha,rv he] 81,.map hb (Bx A9 o.fItems),.row hd 60 4 (A8 AP o.fEffects),.row he 9 1 (A8 eS o.fLog)]) Tryz.call60 Aa ((AZ (i:=3) Aa).trans (Aff _ (Afd _))) (XN ha o.fReads g1) Aa ?_))))))))))))))));rintro _ _ ⟨v3,rfl,rfl⟩;refine wa Aa (Ao (Ap (WK.freeze (i:=0) Aa (WK.up (d:=2) (r:=AO 1 (A8 eS (Ml o.fReads))) Aa (Up.fact (i:=0) Aa) (NH [2,2,2,1,1] ?_)))));obtain rfl:=Au h2;exact Aq (B2 Tryz.results15 (AD Aa)) (sC (sC (sC (sC (sC (sS sN)))))) ⟨Aa,Aa⟩
end Go.Proofs.YtmjlemhondjfhaaGreatDoor.Q
namespace Go.Proofs.YtmjlemhondjfhaaGreatDoor
open Go
set_option linter.unusedVariables false
def V0 (q:AQ):Option (Em):=
 Bv (Gf ([]:List Ac) 10) λr3=>some r3
def Hz (s:Ai):Option ((List Ac)):=
 some ([(Ac.mk 4 0 s 0)]:List Ac)
def Ge (n:Int):Option ((List Ac)):=
 some ([(Ac.mk 3 n ([]:Ai) 0)]:List Ac)
def Ir (F:Nat) :Option (Bool):=
 Bv (YE) λr6=>Bv (YD F r6.1 r6.2 ([107]:Ai) ([97,98,99]:Ai)) λhm=>AX (!(!decide (hm.1=0)))<|Bv (UW hm.2.1 hm.2.2 ([107]:Ai) ([102]:Ai)) λha=>AX (!(!decide (ha.1=0)))<|Bv (Ge 3) λhn=>AX ((Ue F (AV.mk ([116]:Ai) ([102]:Ai) ([([103,101,116]:Ai),([110,111,119]:Ai),([112,117,116]:Ai),([115,101,99,114,101,116]:Ai),([116,105,109,101,114]:Ai)]:List Ai) ([(Aj.mk true ([([103,101,116]:Ai),([112,117,116]:Ai),([115,101,99,114,101,116]:Ai),([116,105,109,101,114]:Ai)]:List Ai) ([([116,47,42]:Ai)]:List Ai))]:List Aj) ([]:List AI) 7) ([(BS.mk ([120]:Ai) hn 1)]:List BS)).isSome)<|Bv (Ue F (AV.mk ([116]:Ai) ([102]:Ai) ([([103,101,116]:Ai),([110,111,119]:Ai),([112,117,116]:Ai),([115,101,99,114,101,116]:Ai),([116,105,109,101,114]:Ai)]:List Ai) ([(Aj.mk true ([([103,101,116]:Ai),([112,117,116]:Ai),([115,101,99,114,101,116]:Ai),([116,105,109,101,114]:Ai)]:List Ai) ([([116,47,42]:Ai)]:List Ai))]:List Aj) ([]:List AI) 7) ([(BS.mk ([120]:Ai) hn 1)]:List BS)) λhk=>Bv (Dm ([116]:Ai) ([112,117,116]:Ai) ([107]:Ai)) λho=>AX (!(!decide (ho=([116,47,112,117,116,47,107]:Ai))))<|Bv (Hz ([107]:Ai)) λhp=>Bv (Ge 1) λhq=>Bv (Qx F (Ba.mk hk.1.fMade hk.1.fA hk.1.fItems () hk.1.fCalls hk.1.fEffects hk.1.fReads hk.1.fLog) ha.2.1 ha.2.2 (AQ.mk ([112,117,116]:Ai) ([hp,hq]:List (List Ac)))) λhf=>Bv (Hz ([107]:Ai)) λhr=>Bv (Qx F (Ba.mk hf.2.fMade hf.2.fA hf.2.fItems () hf.2.fCalls hf.2.fEffects hf.2.fReads hf.2.fLog) ha.2.1 ha.2.2 (AQ.mk ([103,101,116]:Ai) ([hr]:List (List Ac)))) λhe=>Bv (Hz ([107]:Ai)) λhs=>Bv (Qx F (Ba.mk he.2.fMade he.2.fA he.2.fItems () he.2.fCalls he.2.fEffects he.2.fReads he.2.fLog) ha.2.1 ha.2.2 (AQ.mk ([100,101,108,101,116,101]:Ai) ([hs]:List (List Ac)))) λhg=>Bv (Hz ([97,32,98]:Ai)) λht=>Bv (Qx F (Ba.mk hg.2.fMade hg.2.fA hg.2.fItems () hg.2.fCalls hg.2.fEffects hg.2.fReads hg.2.fLog) ha.2.1 ha.2.2 (AQ.mk ([103,101,116]:Ai) ([ht]:List (List Ac)))) λhb=>AX (!(!decide (hf.1.fErr=0)))<|AX (!(!decide (he.1.fErr=0)))<|Bv (Ge 1) λhu=>Bv (QI F he.1.fValue hu) λhw=>AX (!(!hw))<|AX (!(!decide (hg.1.fErr=12)))<|AX (!(!decide (hb.1.fErr=7)))<|Bv (Sk (Ba.mk hb.2.fMade hb.2.fA hb.2.fItems () hb.2.fCalls hb.2.fEffects hb.2.fReads hb.2.fLog)) λhx=>AX (!(!decide ((hx.length:Int)=0)))<|Bv (Hz ([120]:Ai)) λhy=>Bv (Qx F (Ba.mk hb.2.fMade hb.2.fA hb.2.fItems () hb.2.fCalls hb.2.fEffects hb.2.fReads hb.2.fLog) ha.2.1 ha.2.2 (AQ.mk ([103,101,116]:Ai) ([hy]:List (List Ac)))) λhh=>Bv (Hz ([107]:Ai)) λhz=>Bv (Qx F (Ba.mk hh.2.fMade hh.2.fA hh.2.fItems () hh.2.fCalls hh.2.fEffects hh.2.fReads hh.2.fLog) ha.2.1 ha.2.2 (AQ.mk ([115,101,99,114,101,116]:Ai) ([hz]:List (List Ac)))) λhi=>Bv (Hz ([115]:Ai)) λh0=>Bv (Ge 5) λh1=>Bv (Ge 6) λh2=>Bv (Qx F (Ba.mk hi.2.fMade hi.2.fA hi.2.fItems () hi.2.fCalls hi.2.fEffects hi.2.fReads hi.2.fLog) ha.2.1 ha.2.2 (AQ.mk ([116,105,109,101,114]:Ai) ([h0,h1,h2]:List (List Ac)))) λhj=>Bv (Qx F (Ba.mk hj.2.fMade hj.2.fA hj.2.fItems () hj.2.fCalls hj.2.fEffects hj.2.fReads hj.2.fLog) ha.2.1 ha.2.2 (AQ.mk ([110,111,119]:Ai) ([]:List (List Ac)))) λhd=>Bv (PJ F (Ba.mk hd.2.fMade hd.2.fA hd.2.fItems () hd.2.fCalls hd.2.fEffects hd.2.fReads hd.2.fLog)) λhl=>Bv (Ge 3) λh3=>Bv (QI F hh.1.fValue h3) λh4=>AX (!(!h4))<|Bv (Hz ([97,98,99]:Ai)) λh5=>Bv (QI F hi.1.fValue h5) λh6=>AX (!(!h6))<|AX (!(!decide (hj.1.fErr=0)))<|Bv (Ge 7) λh7=>Bv (QI F hd.1.fValue h7) λh8=>AX (!(!h8))<|AX (!(!decide ((hl.length:Int)=2)))<|AX (Ch 0 (hl.length:Int))<|AX (!(!decide (((Ax hl 0).fKind)=1)))<|AX (Ch 1 (hl.length:Int))<|AX (!(!decide (((Ax hl 1).fKind)=4)))<|AX (!(!decide (((Ax hl 1).fDelay)=5)))<|AX (!(!decide (((Ax hl 1).fKey)=([115]:Ai))))<|AX (!((Ue F (AV.mk ([116]:Ai) ([102]:Ai) ([([112,117,116]:Ai),([103,101,116]:Ai)]:List Ai) ([]:List Aj) ([]:List AI) 0) ([]:(List BS))).isSome))<|Bv (ZJ F (AV.mk ([116]:Ai) ([102]:Ai) ([([112,117,116]:Ai),([103,101,116]:Ai)]:List Ai) ([]:List Aj) ([]:List AI) 0) ([]:List BS)) λh9=>Bv (Sk (Ba.mk hd.2.fMade hd.2.fA hd.2.fItems () hd.2.fCalls hd.2.fEffects hd.2.fReads hd.2.fLog)) λhA=>Bv (Vu F hA ([([120]:Ai)]:List Ai)) λhB=>AX (hB)<|AX (decide (h9.2=11))<|Bv (V0 (AQ.mk ([110,111,119]:Ai) ([]:List (List Ac)))) λhC=>AX (decide (hC.fErr=10))<|Bv (CI F (AV.mk ([116]:Ai) ([102]:Ai) ([([103,101,116]:Ai),([110,111,119]:Ai),([112,117,116]:Ai),([115,101,99,114,101,116]:Ai),([116,105,109,101,114]:Ai)]:List Ai) ([(Aj.mk true ([([103,101,116]:Ai),([112,117,116]:Ai),([115,101,99,114,101,116]:Ai),([116,105,109,101,114]:Ai)]:List Ai) ([([116,47,42]:Ai)]:List Ai))]:List Aj) ([]:List AI) 7) (AQ.mk ([122,97,112]:Ai) ([]:List (List Ac)))) λhD=>some (decide (hD=4))
end Go.Proofs.YtmjlemhondjfhaaGreatDoor
namespace Go.Proofs.YtmjlemhondjfhaaGreatDoor.Q
open Go Go.RowKit
set_option linter.unusedVariables false
set_option linter.unusedSimpArgs false
set_option maxRecDepth 100000
set_option maxHeartbeats 4000000
theorem WJ (parts:List (Nat×Value)):Tryz.prog.built 26 parts=Instr.fill (λi=>(#[(0,1),(1,1),(2,1),(3,1),(4,1),(5,1)]:Array (Nat×Nat))[i]?) #[(.string ⟨#[]⟩),(.string ⟨#[]⟩),((.slice none 0 0)),((.slice none 0 0)),((.slice none 0 0)),(.int .i64 0)] parts:=by kernel_rfl
theorem Oh {n:Nat}{c:Cx}{l:Fr}{H:List Ent}{d:Option Nat}{ty:TypeId}{pos:String}{af:Array Edge}{g:Option (Nat×Bool)}{x0:Operand}{r0:Rp}(h0:ev l x0=some r0)(u0:r0.one=true){x1:Operand}{r1:Rp}(h1:ev l x1=some r1)(u1:r1.one=true){x2:Operand}{r2:Rp}(h2:ev l x2=some r2)(u2:r2.one=true):B4 Tryz.prog n c l H { dst:=d,op:=.build 26 #[(0,x0),(1,x1),(2,x2)],type:=ty,pos:=pos,after:=af,guard:=g } (B9 [r0,r1,r2,rv (.slice none 0 0),rv (.slice none 0 0),A4 0]):=λa w Z ha _=>by
  have p0:=ha.ev h0;have c0:=B1 (r0.hone u0 Z _ p0);have p1:=ha.ev h1;have c1:=B1 (r1.hone u1 Z _ p1);have p2:=ha.ev h2;have c2:=B1 (r2.hone u2 Z _ p2);have hb:Tryz.prog.built 26 [(0,a.eval x0),(1,a.eval x1),(2,a.eval x2)]=some #[a.eval x0,a.eval x1,a.eval x2,((.slice none 0 0)),((.slice none 0 0)),(.int .i64 0)]:=by
    rw[WJ];generalize a.eval x0=v0 at *;generalize a.eval x1=v1 at *;generalize a.eval x2=v2 at *;simp[Instr.fill,c0,c1,c2]
  refine⟨.agg #[a.eval x0,a.eval x1,a.eval x2,((.slice none 0 0)),((.slice none 0 0)),(.int .i64 0)],⟨[a.eval x0,a.eval x1,a.eval x2,((.slice none 0 0)),((.slice none 0 0)),(.int .i64 0)],rfl,p0,p1,p2,rfl,rfl,rfl,trivial⟩,?_⟩;have:=run_build w 26 #[(0,a.eval x0),(1,a.eval x1),(2,a.eval x2)] _ (by simpa using hb);simp[execOp,this]
theorem Ls {n:Nat}{c:Cx}{l:Fr}{H:List Ent}{d:Option Nat}{ty:TypeId}{pos:String}{af:Array Edge}{g:Option (Nat×Bool)}{x0:Operand}{r0:Rp}(h0:ev l x0=some r0)(u0:r0.one=true){x1:Operand}{r1:Rp}(h1:ev l x1=some r1)(u1:r1.one=true){x2:Operand}{r2:Rp}(h2:ev l x2=some r2)(u2:r2.one=true){x3:Operand}{r3:Rp}(h3:ev l x3=some r3)(u3:r3.one=true){x5:Operand}{r5:Rp}(h5:ev l x5=some r5)(u5:r5.one=true):B4 Tryz.prog n c l H { dst:=d,op:=.build 26 #[(0,x0),(1,x1),(2,x2),(3,x3),(5,x5)],type:=ty,pos:=pos,after:=af,guard:=g } (B9 [r0,r1,r2,r3,rv (.slice none 0 0),r5]):=λa w Z ha _=>by
  have p0:=ha.ev h0;have c0:=B1 (r0.hone u0 Z _ p0);have p1:=ha.ev h1;have c1:=B1 (r1.hone u1 Z _ p1);have p2:=ha.ev h2;have c2:=B1 (r2.hone u2 Z _ p2);have p3:=ha.ev h3;have c3:=B1 (r3.hone u3 Z _ p3);have p5:=ha.ev h5;have c5:=B1 (r5.hone u5 Z _ p5);have hb:Tryz.prog.built 26 [(0,a.eval x0),(1,a.eval x1),(2,a.eval x2),(3,a.eval x3),(5,a.eval x5)]=some #[a.eval x0,a.eval x1,a.eval x2,a.eval x3,((.slice none 0 0)),a.eval x5]:=by
    rw[WJ];generalize a.eval x0=v0 at *;generalize a.eval x1=v1 at *;generalize a.eval x2=v2 at *;generalize a.eval x3=v3 at *;generalize a.eval x5=v5 at *;simp[Instr.fill,c0,c1,c2,c3,c5]
  refine⟨.agg #[a.eval x0,a.eval x1,a.eval x2,a.eval x3,((.slice none 0 0)),a.eval x5],⟨[a.eval x0,a.eval x1,a.eval x2,a.eval x3,((.slice none 0 0)),a.eval x5],rfl,p0,p1,p2,p3,rfl,p5,trivial⟩,?_⟩;have:=run_build w 26 #[(0,a.eval x0),(1,a.eval x1),(2,a.eval x2),(3,a.eval x3),(5,a.eval x5)] _ (by simpa using hb);simp[execOp,this]
theorem WI (parts:List (Nat×Value)):Tryz.prog.built 29 parts=Instr.fill (λi=>(#[(0,1),(1,1)]:Array (Nat×Nat))[i]?) #[(.string ⟨#[]⟩),((.slice none 0 0))] parts:=by kernel_rfl
theorem Ky {n:Nat}{c:Cx}{l:Fr}{H:List Ent}{d:Option Nat}{ty:TypeId}{pos:String}{af:Array Edge}{g:Option (Nat×Bool)}{x0:Operand}{r0:Rp}(h0:ev l x0=some r0)(u0:r0.one=true):B4 Tryz.prog n c l H { dst:=d,op:=.build 29 #[(0,x0)],type:=ty,pos:=pos,after:=af,guard:=g } (B9 [r0,rv (.slice none 0 0)]):=λa w Z ha _=>by
  have p0:=ha.ev h0;have c0:=B1 (r0.hone u0 Z _ p0);have hb:Tryz.prog.built 29 [(0,a.eval x0)]=some #[a.eval x0,((.slice none 0 0))]:=by
    rw[WI];generalize a.eval x0=v0 at *;simp[Instr.fill,c0]
  refine⟨.agg #[a.eval x0,((.slice none 0 0))],⟨[a.eval x0,((.slice none 0 0))],rfl,p0,rfl,trivial⟩,?_⟩;have:=run_build w 29 #[(0,a.eval x0)] _ (by simpa using hb);simp[execOp,this]
theorem DH {n:Nat}{c:Cx}{l:Fr}{H:List Ent}{d:Option Nat}{ty:TypeId}{pos:String}{af:Array Edge}{g:Option (Nat×Bool)}{x0:Operand}{r0:Rp}(h0:ev l x0=some r0)(u0:r0.one=true){x1:Operand}{r1:Rp}(h1:ev l x1=some r1)(u1:r1.one=true):B4 Tryz.prog n c l H { dst:=d,op:=.build 29 #[(0,x0),(1,x1)],type:=ty,pos:=pos,after:=af,guard:=g } (B9 [r0,r1]):=λa w Z ha _=>by
  have p0:=ha.ev h0;have c0:=B1 (r0.hone u0 Z _ p0);have p1:=ha.ev h1;have c1:=B1 (r1.hone u1 Z _ p1);have hb:Tryz.prog.built 29 [(0,a.eval x0),(1,a.eval x1)]=some #[a.eval x0,a.eval x1]:=by
    rw[WI];generalize a.eval x0=v0 at *;generalize a.eval x1=v1 at *;simp[Instr.fill,c0,c1]
  refine⟨.agg #[a.eval x0,a.eval x1],⟨[a.eval x0,a.eval x1],rfl,p0,p1,trivial⟩,?_⟩;have:=run_build w 29 #[(0,a.eval x0),(1,a.eval x1)] _ (by simpa using hb);simp[execOp,this]
theorem AbE (parts:List (Nat×Value)):Tryz.prog.built 72 parts=Instr.fill (λi=>(#[(0,1),(1,1),(2,1)]:Array (Nat×Nat))[i]?) #[(.string ⟨#[]⟩),((.slice none 0 0)),(.int .i64 0)] parts:=by kernel_rfl
theorem Og {n:Nat}{c:Cx}{l:Fr}{H:List Ent}{d:Option Nat}{ty:TypeId}{pos:String}{af:Array Edge}{g:Option (Nat×Bool)}{x0:Operand}{r0:Rp}(h0:ev l x0=some r0)(u0:r0.one=true){x1:Operand}{r1:Rp}(h1:ev l x1=some r1)(u1:r1.one=true){x2:Operand}{r2:Rp}(h2:ev l x2=some r2)(u2:r2.one=true):B4 Tryz.prog n c l H { dst:=d,op:=.build 72 #[(0,x0),(1,x1),(2,x2)],type:=ty,pos:=pos,after:=af,guard:=g } (B9 [r0,r1,r2]):=λa w Z ha _=>by
  have p0:=ha.ev h0;have c0:=B1 (r0.hone u0 Z _ p0);have p1:=ha.ev h1;have c1:=B1 (r1.hone u1 Z _ p1);have p2:=ha.ev h2;have c2:=B1 (r2.hone u2 Z _ p2);have hb:Tryz.prog.built 72 [(0,a.eval x0),(1,a.eval x1),(2,a.eval x2)]=some #[a.eval x0,a.eval x1,a.eval x2]:=by
    rw[AbE];generalize a.eval x0=v0 at *;generalize a.eval x1=v1 at *;generalize a.eval x2=v2 at *;simp[Instr.fill,c0,c1,c2]
  refine⟨.agg #[a.eval x0,a.eval x1,a.eval x2],⟨[a.eval x0,a.eval x1,a.eval x2],rfl,p0,p1,p2,trivial⟩,?_⟩;have:=run_build w 72 #[(0,a.eval x0),(1,a.eval x1),(2,a.eval x2)] _ (by simpa using hb);simp[execOp,this]
theorem Aai (parts:List (Nat×Value)):Tryz.prog.built 100 parts=Instr.fill (λi=>(#[(0,1),(1,1),(2,1)]:Array (Nat×Nat))[i]?) #[(.bool false),((.slice none 0 0)),((.slice none 0 0))] parts:=by kernel_rfl
theorem Nt {n:Nat}{c:Cx}{l:Fr}{H:List Ent}{d:Option Nat}{ty:TypeId}{pos:String}{af:Array Edge}{g:Option (Nat×Bool)}{x0:Operand}{r0:Rp}(h0:ev l x0=some r0)(u0:r0.one=true){x1:Operand}{r1:Rp}(h1:ev l x1=some r1)(u1:r1.one=true){x2:Operand}{r2:Rp}(h2:ev l x2=some r2)(u2:r2.one=true):B4 Tryz.prog n c l H { dst:=d,op:=.build 100 #[(0,x0),(1,x1),(2,x2)],type:=ty,pos:=pos,after:=af,guard:=g } (B9 [r0,r1,r2]):=λa w Z ha _=>by
  have p0:=ha.ev h0;have c0:=B1 (r0.hone u0 Z _ p0);have p1:=ha.ev h1;have c1:=B1 (r1.hone u1 Z _ p1);have p2:=ha.ev h2;have c2:=B1 (r2.hone u2 Z _ p2);have hb:Tryz.prog.built 100 [(0,a.eval x0),(1,a.eval x1),(2,a.eval x2)]=some #[a.eval x0,a.eval x1,a.eval x2]:=by
    rw[Aai];generalize a.eval x0=v0 at *;generalize a.eval x1=v1 at *;generalize a.eval x2=v2 at *;simp[Instr.fill,c0,c1,c2]
  refine⟨.agg #[a.eval x0,a.eval x1,a.eval x2],⟨[a.eval x0,a.eval x1,a.eval x2],rfl,p0,p1,p2,trivial⟩,?_⟩;have:=run_build w 100 #[(0,a.eval x0),(1,a.eval x1),(2,a.eval x2)] _ (by simpa using hb);simp[execOp,this]
theorem ZL (q:AQ)(r:Em)(h:V0 q=some r):Fn Tryz.prog GE 16 [rv (.pointer none),B9 (AU q)] [] (λR H=>R=B9 (CV r)∧H=[]):=by
 refine enter (n:=164) Tryz.func16 Aa Tryz.ntmps16 Aa (λw Z=>?_);unfold V0 at h;refine Ad (BM Aa Aa (λb1=>?_));refine BL (cs:=[A4 0,rv (.slice none 0 0)]) UD Aa Aa (λb2=>?_);refine Ao (Ak (A5 [(0,rv (.pointer none)),(3,rP b1 0),(4,rP b2 0),(25,rB true)] [.blk b2 [A4 0,rv (.slice none 0 0)] 52,.blk b1 (AU q) 29] ?_ ?_))
 ·refine Af (wm Aa (wv (r:=rB true) (T5 ⟨_,Aax⟩ Aa) (wm Aa (wz Aa Aa (wz Aa Aa (wz Aa Aa (wz Aa Aa (wz Aa Aa (wv (r:=rB true) (An (b:=true) Aa Aa Aa) (Ah ?_))))))))));exact wt
 refine D7 Aa Aa (Ad (ob h λr3 e5 h4=>Ck (rs:=[rv (.slice none 0 0),A4 10]) (r:=B9 (CV r3)) OK Aa (Fn.args (DR ([]:List Ac) 10 r3 e5) ⟨HS.nil _,HS.refl _,trivial⟩) Aa Aa (GU (i:=0) EX Aa Aa Aa (B8.c Aa) Aa Aa ?_)));refine Ao (Ap (Ab ?_));obtain rfl:=Au h4;exact Aq (B2 OI (Dv (i:=0) Nb EX Aa Aa Aa)) (sS (sS sN)) ⟨Aa,Aa⟩
theorem GB (s:Ai)(r:(List Ac))(h:Hz s=some r):Fn Tryz.prog GE 23 [rS s] [] (λR H=>R=AO 4 (A8 Ae r)∧H=[]):=by
 refine enter (n:=6) Tryz.func23 Aa Tryz.ntmps23 Aa (λw Z=>?_);unfold Hz at h;refine Ad (wa Aa (Bp (wm Aa (wv (r:=B9 [A4 4,A4 0,rS s,A4 0]) (L5 Aa Aa Aa Aa) (Bc (ys:=([(Ac.mk 4 0 s 0)]:List Ac)) (enc:=Ae) (css:=[[A4 4,A4 0,rS s,A4 0]]) (xs:=[.tmp 4]) CL CJ Oc Aa Aa Aa ⟨Ez.agg ⟨Up.refl _,Up.refl _,Up.refl _,Up.refl _,trivial⟩,trivial⟩ Aa Dx Aa Aa Aa (λb1=>?_))))));refine wa Aa (Ao (Ap (WK.freeze (i:=0) Aa (WK.up (d:=2) (r:=AO 4 (A8 Ae ([(Ac.mk 4 0 s 0)]:List Ac))) Aa (Up.fact (i:=0) Aa) ?_))));obtain rfl:=Au h;exact Aq (B2 Tryz.results23 (AD Aa)) (sS sN) ⟨Aa,Aa⟩
theorem EP (n:Int)(r:(List Ac))(h:Ge n=some r):Fn Tryz.prog GE 51 [A4 n] [] (λR H=>R=AO 4 (A8 Ae r)∧H=[]):=by
 refine enter (n:=6) Tryz.func51 Aa Tryz.ntmps51 Aa (λw Z=>?_);unfold Ge at h;refine Ad (wa Aa (Bp (wm Aa (wv (r:=B9 [A4 3,A4 n,rS ([]:Ai),A4 0]) (L6 Aa Aa Aa Aa) (Bc (ys:=([(Ac.mk 3 n ([]:Ai) 0)]:List Ac)) (enc:=Ae) (css:=[[A4 3,A4 n,rS ([]:Ai),A4 0]]) (xs:=[.tmp 4]) CL CJ Oc Aa Aa Aa ⟨Ez.agg ⟨Up.refl _,Up.refl _,Up.refl _,Up.refl _,trivial⟩,trivial⟩ Aa Dx Aa Aa Aa (λb1=>?_))))));refine wa Aa (Ao (Ap (WK.freeze (i:=0) Aa (WK.up (d:=2) (r:=AO 4 (A8 Ae ([(Ac.mk 3 n ([]:Ai) 0)]:List Ac))) Aa (Up.fact (i:=0) Aa) ?_))));obtain rfl:=Au h;exact Aq (B2 Tryz.results51 (AD Aa)) (sS sN) ⟨Aa,Aa⟩
theorem Vq (F:Nat)  (r:Bool)(h:Ir F=some r):Fn Tryz.prog GE 11 [] [] (λR H=>R=rB r∧H=[]):=by
 refine enter (n:=199) Tryz.func11 Aa Tryz.ntmps11 Aa (λw Z=>?_);unfold Ir at h;refine Ad (wa Aa (Bp (Bc (ys:=([([103,101,116]:Ai),([110,111,119]:Ai),([112,117,116]:Ai),([115,101,99,114,101,116]:Ai),([116,105,109,101,114]:Ai)]:List Ai)) (enc:=eS) (css:=[[rS ([103,101,116]:Ai)],[rS ([110,111,119]:Ai)],[rS ([112,117,116]:Ai)],[rS ([115,101,99,114,101,116]:Ai)],[rS ([116,105,109,101,114]:Ai)]]) (xs:=[.const (.string ⟨#[103,101,116]⟩),.const (.string ⟨#[110,111,119]⟩),.const (.string ⟨#[112,117,116]⟩),.const (.string ⟨#[115,101,99,114,101,116]⟩),.const (.string ⟨#[116,105,109,101,114]⟩)]) C7 CE VH Aa Aa Aa ⟨Ez.one Aa (Up.refl _),Ez.one Aa (Up.refl _),Ez.one Aa (Up.refl _),Ez.one Aa (Up.refl _),Ez.one Aa (Up.refl _),trivial⟩ Aa DS Aa Aa Aa (λb1=>?_))));refine Bc (ys:=([([103,101,116]:Ai),([112,117,116]:Ai),([115,101,99,114,101,116]:Ai),([116,105,109,101,114]:Ai)]:List Ai)) (enc:=eS) (css:=[[rS ([103,101,116]:Ai)],[rS ([112,117,116]:Ai)],[rS ([115,101,99,114,101,116]:Ai)],[rS ([116,105,109,101,114]:Ai)]]) (xs:=[.const (.string ⟨#[103,101,116]⟩),.const (.string ⟨#[112,117,116]⟩),.const (.string ⟨#[115,101,99,114,101,116]⟩),.const (.string ⟨#[116,105,109,101,114]⟩)]) C7 CE VH Aa Aa Aa ⟨Ez.one Aa (Up.refl _),Ez.one Aa (Up.refl _),Ez.one Aa (Up.refl _),Ez.one Aa (Up.refl _),trivial⟩ Aa DS Aa Aa Aa (λb2=>?_);refine Bc (ys:=([([116,47,42]:Ai)]:List Ai)) (enc:=eS) (css:=[[rS ([116,47,42]:Ai)]]) (xs:=[.const (.string ⟨#[116,47,42]⟩)]) C7 CE VH Aa Aa Aa ⟨Ez.one Aa (Up.refl _),trivial⟩ Aa DS Aa Aa Aa (λb3=>?_);refine wv (r:=B9 [rB true,rv (.slice (some ⟨b2,0,none⟩) 4 4),rv (.slice (some ⟨b3,0,none⟩) 1 1)]) (Nt Aa Aa Aa Aa Aa Aa) (WL.freeze (i:=1) Aa (WL.freeze (i:=1) Aa (Bc (ys:=([(Aj.mk true ([([103,101,116]:Ai),([112,117,116]:Ai),([115,101,99,114,101,116]:Ai),([116,105,109,101,114]:Ai)]:List Ai) ([([116,47,42]:Ai)]:List Ai))]:List Aj)) (enc:=Al) (css:=[[rB true,AO 1 (A8 eS ([([103,101,116]:Ai),([112,117,116]:Ai),([115,101,99,114,101,116]:Ai),([116,105,109,101,114]:Ai)]:List Ai)),AO 1 (A8 eS ([([116,47,42]:Ai)]:List Ai))]]) (xs:=[.tmp 14]) Id En SH Aa Aa Aa ⟨Ez.agg ⟨Up.refl _,Up.fact (i:=1) Aa,Up.fact (i:=0) Aa,trivial⟩,trivial⟩ Aa Ej Aa Aa Aa (λb4=>?_))));refine wv (r:=B9 [rS ([116]:Ai),rS ([102]:Ai),rv (.slice (some ⟨b1,0,none⟩) 5 5),rv (.slice (some ⟨b4,0,none⟩) 1 1),rv (.slice none 0 0),A4 7]) (Ls Aa Aa Aa Aa Aa Aa Aa Aa Aa Aa) (BL (cs:=[rS ([]:Ai),rS ([]:Ai),rv (.slice none 0 0),rv (.slice none 0 0),rv (.slice none 0 0),A4 0]) Tryz.zeroValue26 Aa Aa (λb5=>?_));refine GU (i:=0) Gy Aa Aa Aa ⟨(BR Aa),(BR Aa),(GN (i:=4) Aa),(GN (i:=1) Aa),(BR Aa),(BR Aa),trivial⟩ Aa Aa ?_;refine Bp (ob h λr6 e8 h7=>J3 [] Tryz.call48 (AaF r6 e8) ?_);rintro _ _ ⟨b9,hb,gp,rfl,rfl⟩;refine wa Aa (Ao (Ak (Ad (wm Aa (ob h7 λhq gq gr=>J3 [0,0,0] Tryz.call49 (AaE F b9 hb gp r6.1 r6.2 ([107]:Ai) ([97,98,99]:Ai) hq gq) ?_)))));rintro _ _ ⟨gs,rfl,rfl⟩;refine wv (CH Aa Aa) (wm Aa (ck gr λg16 gu=>AL (b:=!decide (hq.1=0)) Aa Aa (Bool.not_eq_eq_eq_not.1 g16) (wm Aa (AL (b:=!decide (hq.1=0)) Aa Aa (Bool.not_eq_eq_eq_not.1 g16) (ob gu λhe gv gw=>J3 [0,0,0] Tryz.call50 (YF b9 hb gs hq.2.1 hq.2.2 ([107]:Ai) ([102]:Ai) he gv) ?_)))));rintro _ _ ⟨v21,rfl,rfl⟩;refine AL (b:=!decide (hq.1=0)) rfl rfl (Bool.not_eq_eq_eq_not.1 g16) (wv (CH rfl rfl) (wv (r:=rB (!decide (he.1=0))) (Ay (b:=!decide (hq.1=0)) rfl (Bool.not_eq_eq_eq_not.1 g16) rfl) (Ao (ck gw λgx gy=>CS (b:=!decide (he.1=0)) rfl (Bool.not_eq_eq_eq_not.1 gx) (Aw (AE (Ak (WC.freeze (i:=7) rfl (WC.freeze (i:=5) rfl (WC.upBlk (i:=5) (cs':=[rS ([116]:Ai),rS ([102]:Ai),AO 1 (A8 eS ([([103,101,116]:Ai),([110,111,119]:Ai),([112,117,116]:Ai),([115,101,99,114,101,116]:Ai),([116,105,109,101,114]:Ai)]:List Ai)),AO 3 (A8 Al ([(Aj.mk true ([([103,101,116]:Ai),([112,117,116]:Ai),([115,101,99,114,101,116]:Ai),([116,105,109,101,114]:Ai)]:List Ai) ([([116,47,42]:Ai)]:List Ai))]:List Aj)),AO 5 (A8 A1 ([]:List AI)),A4 7]) rfl ⟨Up.refl _,Up.refl _,Up.fact (i:=1) rfl,Up.fact (i:=0) rfl,Up.le (HS.nil _),Up.refl _,trivial⟩ (ob gy λhk gz g0=>ck g0 λx0 g1=>ob g1 λha g2 g3=>Aci 10 [5] [1,2] [] [{ deps:=[],r:=λ_=>B9 [rS ([116]:Ai),rS ([102]:Ai),AO 1 (A8 eS ([([103,101,116]:Ai),([110,111,119]:Ai),([112,117,116]:Ai),([115,101,99,114,101,116]:Ai),([116,105,109,101,114]:Ai)]:List Ai)),AO 3 (A8 Al ([(Aj.mk true ([([103,101,116]:Ai),([112,117,116]:Ai),([115,101,99,114,101,116]:Ai),([116,105,109,101,114]:Ai)]:List Ai) ([([116,47,42]:Ai)]:List Ai))]:List Aj)),AO 5 (A8 A1 ([]:List AI)),A4 7],fx:=true },{ deps:=[],r:=λ_=>AO 4 (A8 Ae hk) },{ deps:=[1],r:=λ_=>B9 [rS ([120]:Ai),AO 4 (A8 Ae hk),A4 1] },{ deps:=[2],r:=λ_=>AO 3 (A8 BN ([(BS.mk ([120]:Ai) hk 1)]:List BS)) },{ deps:=[],r:=λ_=>rP b9 0 },{ deps:=[0,3,4],r:=λu=>Dy [rv (.pointer (some ⟨(u 0 0).2,0,none⟩)),A4 0],lv:=1 },{ deps:=[5],r:=λu=>Dy [rv (.pointer (some ⟨(u 0 0).2,0,none⟩)),A4 0],lv:=1 },{ deps:=[6],r:=λu=>rv (.pointer (some ⟨(u 0 0).2,0,none⟩)),lv:=1 },{ deps:=[6],r:=λ_=>A4 0 },{ deps:=[7],r:=λu=>rv (.pointer (some ⟨(u 0 0).2,0,none⟩)),lv:=1 }] [λ_=>[.fact (.slice (some ⟨b4,0,none⟩) 1 1) (AO 3 (A8 Al ([(Aj.mk true ([([103,101,116]:Ai),([112,117,116]:Ai),([115,101,99,114,101,116]:Ai),([116,105,109,101,114]:Ai)]:List Ai) ([([116,47,42]:Ai)]:List Ai))]:List Aj))),.fact (.slice (some ⟨b1,0,none⟩) 5 5) (AO 1 (A8 eS ([([103,101,116]:Ai),([110,111,119]:Ai),([112,117,116]:Ai),([115,101,99,114,101,116]:Ai),([116,105,109,101,114]:Ai)]:List Ai))),.blk b9 [rv (.map (some hb))] 156,.map hb (Bx (mP hb) he.2.1.fSecrets),.poolm hb v21 162 (A8 AJ he.2.2) none,.blk b5 [rS ([116]:Ai),rS ([102]:Ai),AO 1 (A8 eS ([([103,101,116]:Ai),([110,111,119]:Ai),([112,117,116]:Ai),([115,101,99,114,101,116]:Ai),([116,105,109,101,114]:Ai)]:List Ai)),AO 3 (A8 Al ([(Aj.mk true ([([103,101,116]:Ai),([112,117,116]:Ai),([115,101,99,114,101,116]:Ai),([116,105,109,101,114]:Ai)]:List Ai) ([([116,47,42]:Ai)]:List Ai))]:List Aj)),AO 5 (A8 A1 ([]:List AI)),A4 7] 26,.fact (.slice (some ⟨b3,0,none⟩) 1 1) (AO 1 (A8 eS ([([116,47,42]:Ai)]:List Ai))),.fact (.slice (some ⟨b2,0,none⟩) 4 4) (AO 1 (A8 eS ([([103,101,116]:Ai),([112,117,116]:Ai),([115,101,99,114,101,116]:Ai),([116,105,109,101,114]:Ai)]:List Ai)))],λu=>[.blk (u 0 0).2 [rB ha.1.fMade,rS ha.1.fA.fTenant,rS ha.1.fA.fFunction,AO 1 (A8 eS ha.1.fA.fOps),AO 3 (A8 Al ha.1.fA.fPolicy),AO 5 (A8 A1 ha.1.fA.fNet),A4 ha.1.fA.fNow,rv (.map (some (u 0 1).2)),DE 40 (rP b9 0),A4 ha.1.fCalls,rv (u 0 2).1,rv (u 0 3).1,rv (u 0 4).1] 81,.map (u 0 1).2 (Bx A9 ha.1.fItems),.row (u 0 2).1 60 4 (A8 AP ha.1.fEffects),.row (u 0 3).1 9 1 (A8 eS ha.1.fReads),.row (u 0 4).1 9 1 (A8 eS ha.1.fLog),.fact (.slice (some ⟨b4,0,none⟩) 1 1) (AO 3 (A8 Al ([(Aj.mk true ([([103,101,116]:Ai),([112,117,116]:Ai),([115,101,99,114,101,116]:Ai),([116,105,109,101,114]:Ai)]:List Ai) ([([116,47,42]:Ai)]:List Ai))]:List Aj))),.fact (.slice (some ⟨b1,0,none⟩) 5 5) (AO 1 (A8 eS ([([103,101,116]:Ai),([110,111,119]:Ai),([112,117,116]:Ai),([115,101,99,114,101,116]:Ai),([116,105,109,101,114]:Ai)]:List Ai))),.blk b9 [rv (.map (some hb))] 156,.map hb (Bx (mP hb) he.2.1.fSecrets),.poolm hb v21 162 (A8 AJ he.2.2) none,.blk b5 [rS ([116]:Ai),rS ([102]:Ai),AO 1 (A8 eS ([([103,101,116]:Ai),([110,111,119]:Ai),([112,117,116]:Ai),([115,101,99,114,101,116]:Ai),([116,105,109,101,114]:Ai)]:List Ai)),AO 3 (A8 Al ([(Aj.mk true ([([103,101,116]:Ai),([112,117,116]:Ai),([115,101,99,114,101,116]:Ai),([116,105,109,101,114]:Ai)]:List Ai) ([([116,47,42]:Ai)]:List Ai))]:List Aj)),AO 5 (A8 A1 ([]:List AI)),A4 7] 26,.fact (.slice (some ⟨b3,0,none⟩) 1 1) (AO 1 (A8 eS ([([116,47,42]:Ai)]:List Ai))),.fact (.slice (some ⟨b2,0,none⟩) 4 4) (AO 1 (A8 eS ([([103,101,116]:Ai),([112,117,116]:Ai),([115,101,99,114,101,116]:Ai),([116,105,109,101,114]:Ai)]:List Ai)))]] ⟨syc,syc,syc,syc,syc,(λu u' h=>by simp only[h 0 (by decide)]),(λu u' h=>by simp only[h 0 (by decide)]),(λu u' h=>by simp only[h 0 (by decide)]),syc,(λu u' h=>by simp only[h 0 (by decide)]),trivial⟩ ?_ (λu=>?_))))))))))))
 ·refine oyf (fun {u}=>Ef (Be (i:=5) LE Gy rfl rfl rfl rfl)) (oyc (fun {u _}=>Cm UG (EP 3 hk gz) rfl) (oyc (fun {u _}=>Ef (r:=B9 [rS ([120]:Ai),AO 4 (A8 Ae hk),A4 1]) (Og rfl rfl rfl rfl rfl rfl)) (oyc (fun {u _}=>Gp (ys:=([(BS.mk ([120]:Ai) hk 1)]:List BS)) (enc:=BN) (css:=[[rS ([120]:Ai),AO 4 (A8 Ae hk),A4 1]]) (xs:=[.tmp 29]) Ru OG Aaw rfl rfl rfl ⟨Ez.agg ⟨Up.refl _,Up.refl _,Up.refl _,trivial⟩,trivial⟩ rfl Qy rfl rfl) (oyc (fun {u _}=>Ef (Am rfl)) (oyx 0 (fun {u}=>Ach (Hin:=[]) (Hr:=[.fact (.slice (some ⟨b4,0,none⟩) 1 1) (AO 3 (A8 Al ([(Aj.mk true ([([103,101,116]:Ai),([112,117,116]:Ai),([115,101,99,114,101,116]:Ai),([116,105,109,101,114]:Ai)]:List Ai) ([([116,47,42]:Ai)]:List Ai))]:List Aj))),.fact (.slice (some ⟨b1,0,none⟩) 5 5) (AO 1 (A8 eS ([([103,101,116]:Ai),([110,111,119]:Ai),([112,117,116]:Ai),([115,101,99,114,101,116]:Ai),([116,105,109,101,114]:Ai)]:List Ai))),.blk b9 [rv (.map (some hb))] 156,.map hb (Bx (mP hb) he.2.1.fSecrets),.poolm hb v21 162 (A8 AJ he.2.2) none,.blk b5 [rS ([116]:Ai),rS ([102]:Ai),AO 1 (A8 eS ([([103,101,116]:Ai),([110,111,119]:Ai),([112,117,116]:Ai),([115,101,99,114,101,116]:Ai),([116,105,109,101,114]:Ai)]:List Ai)),AO 3 (A8 Al ([(Aj.mk true ([([103,101,116]:Ai),([112,117,116]:Ai),([115,101,99,114,101,116]:Ai),([116,105,109,101,114]:Ai)]:List Ai) ([([116,47,42]:Ai)]:List Ai))]:List Aj)),AO 5 (A8 A1 ([]:List AI)),A4 7] 26,.fact (.slice (some ⟨b3,0,none⟩) 1 1) (AO 1 (A8 eS ([([116,47,42]:Ai)]:List Ai))),.fact (.slice (some ⟨b2,0,none⟩) 4 4) (AO 1 (A8 eS ([([103,101,116]:Ai),([112,117,116]:Ai),([115,101,99,114,101,116]:Ai),([116,105,109,101,114]:Ai)]:List Ai)))]) Tryz.call13 rfl (Afd _) (Ab0 F (some ⟨b9,0,none⟩) (AV.mk ([116]:Ai) ([102]:Ai) ([([103,101,116]:Ai),([110,111,119]:Ai),([112,117,116]:Ai),([115,101,99,114,101,116]:Ai),([116,105,109,101,114]:Ai)]:List Ai) ([(Aj.mk true ([([103,101,116]:Ai),([112,117,116]:Ai),([115,101,99,114,101,116]:Ai),([116,105,109,101,114]:Ai)]:List Ai) ([([116,47,42]:Ai)]:List Ai))]:List Aj) ([]:List AI) 7) ([(BS.mk ([120]:Ai) hk 1)]:List BS) ha g2) (by rintro _ _ ⟨hi,hh,hN,hO,hP,rfl,rfl⟩;exact⟨ux u 0 [(undef,hi),(undef,hh),(hN,0),(hO,0),(hP,0)],AdS,rfl,rfl⟩)) (oyc (fun {u _}=>Ef (Am rfl)) ?_))))));exact oyc (fun {u _}=>Ef (A7 Aa Aa)) (oyc (fun {u _}=>Ef (A7 Aa Aa)) (oyc (fun {u _}=>Ef (A0 Aa)) (oye)))
 refine Km (H1:=[.blk (u 0 0).2 [rB ha.1.fMade,rS ha.1.fA.fTenant,rS ha.1.fA.fFunction,AO 1 (A8 eS ha.1.fA.fOps),AO 3 (A8 Al ha.1.fA.fPolicy),AO 5 (A8 A1 ha.1.fA.fNet),A4 ha.1.fA.fNow,rv (.map (some (u 0 1).2)),DE 40 (rP b9 0),A4 ha.1.fCalls,rv (u 0 2).1,rv (u 0 3).1,rv (u 0 4).1] 81,.map (u 0 1).2 (Bx A9 ha.1.fItems),.row (u 0 2).1 60 4 (A8 AP ha.1.fEffects),.row (u 0 3).1 9 1 (A8 eS ha.1.fReads),.row (u 0 4).1 9 1 (A8 eS ha.1.fLog),.fact (.slice (some ⟨b4,0,none⟩) 1 1) (AO 3 (A8 Al ([(Aj.mk true ([([103,101,116]:Ai),([112,117,116]:Ai),([115,101,99,114,101,116]:Ai),([116,105,109,101,114]:Ai)]:List Ai) ([([116,47,42]:Ai)]:List Ai))]:List Aj))),.fact (.slice (some ⟨b1,0,none⟩) 5 5) (AO 1 (A8 eS ([([103,101,116]:Ai),([110,111,119]:Ai),([112,117,116]:Ai),([115,101,99,114,101,116]:Ai),([116,105,109,101,114]:Ai)]:List Ai))),.blk b9 [rv (.map (some hb))] 156,.map hb (Bx (mP hb) he.2.1.fSecrets),.poolm hb v21 162 (A8 AJ he.2.2) none,.blk b5 [rS ([116]:Ai),rS ([102]:Ai),AO 1 (A8 eS ([([103,101,116]:Ai),([110,111,119]:Ai),([112,117,116]:Ai),([115,101,99,114,101,116]:Ai),([116,105,109,101,114]:Ai)]:List Ai)),AO 3 (A8 Al ([(Aj.mk true ([([103,101,116]:Ai),([112,117,116]:Ai),([115,101,99,114,101,116]:Ai),([116,105,109,101,114]:Ai)]:List Ai) ([([116,47,42]:Ai)]:List Ai))]:List Aj)),AO 5 (A8 A1 ([]:List AI)),A4 7] 26,.fact (.slice (some ⟨b3,0,none⟩) 1 1) (AO 1 (A8 eS ([([116,47,42]:Ai)]:List Ai))),.fact (.slice (some ⟨b2,0,none⟩) 4 4) (AO 1 (A8 eS ([([103,101,116]:Ai),([112,117,116]:Ai),([115,101,99,114,101,116]:Ai),([116,105,109,101,114]:Ai)]:List Ai)))]) [27,28,29,30,31,32,26,33,34,3,1,2] ?_;refine WL.sub (l':=[(27,B9 [rS ([116]:Ai),rS ([102]:Ai),AO 1 (A8 eS ([([103,101,116]:Ai),([110,111,119]:Ai),([112,117,116]:Ai),([115,101,99,114,101,116]:Ai),([116,105,109,101,114]:Ai)]:List Ai)),AO 3 (A8 Al ([(Aj.mk true ([([103,101,116]:Ai),([112,117,116]:Ai),([115,101,99,114,101,116]:Ai),([116,105,109,101,114]:Ai)]:List Ai) ([([116,47,42]:Ai)]:List Ai))]:List Aj)),AO 5 (A8 A1 ([]:List AI)),A4 7]),(28,AO 4 (A8 Ae hk)),(29,B9 [rS ([120]:Ai),AO 4 (A8 Ae hk),A4 1]),(30,AO 3 (A8 BN ([(BS.mk ([120]:Ai) hk 1)]:List BS))),(31,rP b9 0),(32,Dy [rv (.pointer (some ⟨(u 0 0).2,0,none⟩)),A4 0]),(26,Dy [rv (.pointer (some ⟨(u 0 0).2,0,none⟩)),A4 0]),(33,rv (.pointer (some ⟨(u 0 0).2,0,none⟩))),(34,A4 0),(3,rv (.pointer (some ⟨(u 0 0).2,0,none⟩))),(1,rP b5 0),(2,rP b9 0)]) (AH.c Aa (AH.c Aa (AH.c5 Aa Aa Aa Aa Aa (AH.c5 Aa Aa Aa Aa Aa AH.nil)))) (List.Sublist.refl _) ?_;generalize(u 0 0).2=hi;generalize(u 0 1).2=hh;generalize(u 0 2).1=hN;generalize(u 0 3).1=hO;generalize(u 0 4).1=hP;refine wa Aa (Ao (Ak (Ad (wm Aa (wv (CH Aa Aa) (wm Aa (AL (b:=!decide (0=0)) Aa Aa (Zq (by decide)) (ob g3 λhQ g4 g5=>BP Tryz.call10 (IG ([116]:Ai) ([112,117,116]:Ai) ([107]:Ai) hQ g4) Aa (AL (b:=!decide (0=0)) Aa Aa (Zq (by decide)) (wv (M4 Aa Aa) (wv (r:=rB (!decide (hQ=([116,47,112,117,116,47,107]:Ai)))) (Ay (b:=!decide (0=0)) Aa (Zq (by decide)) Aa) (Ao (ck g5 λg6 g7=>CS (b:=!decide (hQ=([116,47,112,117,116,47,107]:Ai))) Aa (Bool.not_eq_eq_eq_not.1 g6) (Aw (AE (Ad (wm Aa (ob g7 λhr g8 g9=>BP SQ (GB ([107]:Ai) hr g8) Aa (ob g9 λhs gA gB=>BP UG (EP 1 hs gA) Aa ?_)))))))))))))))))));refine Bc (ys:=([hr,hs]:List (List Ac))) (enc:=AM) (css:=[[AO 4 (A8 Ae hr)],[AO 4 (A8 Ae hs)]]) (xs:=[.tmp 42,.tmp 43]) Ew C8 SF Aa Aa Aa ⟨Ez.one Aa (Up.refl _),Ez.one Aa (Up.refl _),trivial⟩ Aa CW Aa Aa Aa (λhW=>?_);refine wv (r:=B9 [rS ([112,117,116]:Ai),rv (.slice (some ⟨hW,0,none⟩) 2 2)]) (DH Aa Aa Aa Aa) (WL.freeze (i:=0) Aa (WL.up (d:=45) (r:=B9 [rS ([112,117,116]:Ai),AO 1 (A8 AM ([hr,hs]:List (List Ac)))]) Aa (Up.agg ⟨Up.refl _,Up.fact (i:=0) Aa,trivial⟩) (ob gB λhm gC gD=>J3 [1,1,1,1,1,3,3,3] Rw (KF F hi hh hN hO hP b9 hb v21 (Ba.mk ha.1.fMade ha.1.fA ha.1.fItems () ha.1.fCalls ha.1.fEffects ha.1.fReads ha.1.fLog) he.2.1 he.2.2 (AQ.mk ([112,117,116]:Ai) ([hr,hs]:List (List Ac))) hm gC) ?_)));rintro _ _ ⟨gE,v53,gF,rfl,rfl⟩;refine BL (cs:=[A4 0,rv (.slice none 0 0)]) UD Aa Aa (λgG=>?_);refine GU (i:=0) EX Aa Aa Aa (B8.c Aa) Aa Aa ?_;refine Bp (wm Aa (ob gD λht gH gI=>BP SQ (GB ([107]:Ai) ht gH) Aa (Bc (ys:=([ht]:List (List Ac))) (enc:=AM) (css:=[[AO 4 (A8 Ae ht)]]) (xs:=[.tmp 48]) Ew C8 SF Aa Aa Aa ⟨Ez.one Aa (Up.refl _),trivial⟩ Aa CW Aa Aa Aa (λhX=>?_))));refine wv (r:=B9 [rS ([103,101,116]:Ai),rv (.slice (some ⟨hX,0,none⟩) 1 1)]) (DH Aa Aa Aa Aa) (WL.freeze (i:=0) Aa (WL.up (d:=50) (r:=B9 [rS ([103,101,116]:Ai),AO 1 (A8 AM ([ht]:List (List Ac)))]) Aa (Up.agg ⟨Up.refl _,Up.fact (i:=0) Aa,trivial⟩) (ob gI λhj gJ gK=>J3 [2,2,2,2,2,2,2,2] Rw (KF F hi hh gE v53 gF b9 hb v21 (Ba.mk hm.2.fMade hm.2.fA hm.2.fItems () hm.2.fCalls hm.2.fEffects hm.2.fReads hm.2.fLog) he.2.1 he.2.2 (AQ.mk ([103,101,116]:Ai) ([ht]:List (List Ac))) hj gJ) ?_)));rintro _ _ ⟨gL,gM,gN,rfl,rfl⟩;refine BL (cs:=[A4 0,rv (.slice none 0 0)]) UD Aa Aa (λgO=>?_);refine GU (i:=0) EX Aa Aa Aa (B8.c Aa) Aa Aa ?_;refine Bp (wm Aa (ob gK λhu gP gQ=>BP SQ (GB ([107]:Ai) hu gP) Aa (Bc (ys:=([hu]:List (List Ac))) (enc:=AM) (css:=[[AO 4 (A8 Ae hu)]]) (xs:=[.tmp 53]) Ew C8 SF Aa Aa Aa ⟨Ez.one Aa (Up.refl _),trivial⟩ Aa CW Aa Aa Aa (λhY=>?_))));refine wv (r:=B9 [rS ([100,101,108,101,116,101]:Ai),rv (.slice (some ⟨hY,0,none⟩) 1 1)]) (DH Aa Aa Aa Aa) (WL.freeze (i:=0) Aa (WL.up (d:=55) (r:=B9 [rS ([100,101,108,101,116,101]:Ai),AO 1 (A8 AM ([hu]:List (List Ac)))]) Aa (Up.agg ⟨Up.refl _,Up.fact (i:=0) Aa,trivial⟩) (ob gQ λhl gR gS=>J3 [2,2,2,2,2,2,2,2] Rw (KF F hi hh gL gM gN b9 hb v21 (Ba.mk hj.2.fMade hj.2.fA hj.2.fItems () hj.2.fCalls hj.2.fEffects hj.2.fReads hj.2.fLog) he.2.1 he.2.2 (AQ.mk ([100,101,108,101,116,101]:Ai) ([hu]:List (List Ac))) hl gR) ?_)));rintro _ _ ⟨gT,v75,v76,rfl,rfl⟩;refine BL (cs:=[A4 0,rv (.slice none 0 0)]) UD Aa Aa (λgU=>?_);refine GU (i:=0) EX Aa Aa Aa (B8.c Aa) Aa Aa ?_;refine Bp (wm Aa (ob gS λhw gV gW=>BP SQ (GB ([97,32,98]:Ai) hw gV) Aa (Bc (ys:=([hw]:List (List Ac))) (enc:=AM) (css:=[[AO 4 (A8 Ae hw)]]) (xs:=[.tmp 58]) Ew C8 SF Aa Aa Aa ⟨Ez.one Aa (Up.refl _),trivial⟩ Aa CW Aa Aa Aa (λhZ=>?_))));refine wv (r:=B9 [rS ([103,101,116]:Ai),rv (.slice (some ⟨hZ,0,none⟩) 1 1)]) (DH Aa Aa Aa Aa) (WL.freeze (i:=0) Aa (WL.up (d:=60) (r:=B9 [rS ([103,101,116]:Ai),AO 1 (A8 AM ([hw]:List (List Ac)))]) Aa (Up.agg ⟨Up.refl _,Up.fact (i:=0) Aa,trivial⟩) (ob gW λhd gX gY=>J3 [2,2,2,2,2,2,2,2] Rw (KF F hi hh gT v75 v76 b9 hb v21 (Ba.mk hl.2.fMade hl.2.fA hl.2.fItems () hl.2.fCalls hl.2.fEffects hl.2.fReads hl.2.fLog) he.2.1 he.2.2 (AQ.mk ([103,101,116]:Ai) ([hw]:List (List Ac))) hd gX) ?_)));rintro _ _ ⟨v85,hD,hE,rfl,rfl⟩;refine BL (cs:=[A4 0,rv (.slice none 0 0)]) UD Aa Aa (λgZ=>?_);refine GU (i:=0) EX Aa Aa Aa (B8.c Aa) Aa Aa ?_;refine Ao (Ak (Ak (ck gY λhG ca=>ck ca λhx cb=>ob cb λga cc cd=>ob cd λhR ce cf=>ck cf λhH cg=>ck cg λhI ch=>ck ch λh5 ci=>ob ci λhJ cj cl=>Du [1,3,5,6,7,8] ?_)));refine rq (Az Qf Aa Yq Aa Aa) (rq (AT (i:=14) Xb Aa Aa Aa) (rq (CH Aa Aa) (rq (Am Aa) (rg (Bool.not_eq_eq_eq_not.1 hG) (Az Qf Aa Yq Aa Aa) (rg (Bool.not_eq_eq_eq_not.1 hG) (AT (i:=12) Xb Aa Aa Aa) (rg (Bool.not_eq_eq_eq_not.1 hG) (CH Aa Aa) (rq (r:=rB (!decide (hj.1.fErr=0))) (Ay (b:=!decide (hm.1.fErr=0)) Aa (Bool.not_eq_eq_eq_not.1 hG) Aa) (rq (Am Aa) (rg (Bool.not_eq_eq_eq_not.1 hx) (Az Qf Aa C8 Aa Aa) (rg (Bool.not_eq_eq_eq_not.1 hx) (AT (i:=12) Eo Aa Aa Aa) (ro (Bool.not_eq_eq_eq_not.1 hx) (Cm UG (EP 1 ga cc) Aa) (ro (Bool.not_eq_eq_eq_not.1 hx) (Cm Tryz.call24 (Ow F hj.1.fValue ga hR ce) Aa) (rg (Bool.not_eq_eq_eq_not.1 hx) (BO Aa) (rq (r:=rB (!hR)) (Ay (b:=!decide (hj.1.fErr=0)) Aa (Bool.not_eq_eq_eq_not.1 hx) Aa) (rq (Am Aa) (rg (Bool.not_eq_eq_eq_not.1 hH) (Az Qf Aa Yq Aa Aa) (rg (Bool.not_eq_eq_eq_not.1 hH) (AT (i:=10) Xb Aa Aa Aa) (rg (Bool.not_eq_eq_eq_not.1 hH) (CH Aa Aa) (rq (r:=rB (!decide (hl.1.fErr=12))) (Ay (b:=!hR) Aa (Bool.not_eq_eq_eq_not.1 hH) Aa) (rq (Am Aa) (rg (Bool.not_eq_eq_eq_not.1 hI) (Az Qf Aa Yq Aa Aa) (rg (Bool.not_eq_eq_eq_not.1 hI) (AT (i:=0) Xb Aa Aa Aa) (rg (Bool.not_eq_eq_eq_not.1 hI) (CH Aa Aa) ?_)))))))))))))))))))))));refine rq (r:=rB (!decide (hd.1.fErr=7))) (Ay (b:=!decide (hl.1.fErr=12)) Aa (Bool.not_eq_eq_eq_not.1 hI) Aa) (rq (Am Aa) (rg (Bool.not_eq_eq_eq_not.1 h5) (Am Aa) (ro (Bool.not_eq_eq_eq_not.1 h5) (Zg (Hin:=[.blk hi [rB hd.2.fMade,rS hd.2.fA.fTenant,rS hd.2.fA.fFunction,AO 1 (A8 eS hd.2.fA.fOps),AO 3 (A8 Al hd.2.fA.fPolicy),AO 5 (A8 A1 hd.2.fA.fNet),A4 hd.2.fA.fNow,rv (.map (some hh)),DE 40 (rP b9 0),A4 hd.2.fCalls,rv v85,rv hD,rv hE] 81,.map hh (Bx A9 hd.2.fItems),.row v85 60 4 (A8 AP hd.2.fEffects),.row hD 9 1 (A8 eS hd.2.fReads),.row hE 9 1 (A8 eS hd.2.fLog)]) (Hr:=[.blk gZ (CV hd.1) 52,.blk b9 [rv (.map (some hb))] 156,.map hb (Bx (mP hb) he.2.1.fSecrets),.poolm hb v21 162 (A8 AJ he.2.2) none,.fact (.slice (some ⟨hZ,0,none⟩) 1 1) (AO 1 (A8 AM ([hw]:List (List Ac)))),.blk gU (CV hl.1) 52,.fact (.slice (some ⟨hY,0,none⟩) 1 1) (AO 1 (A8 AM ([hu]:List (List Ac)))),.blk gO (CV hj.1) 52,.fact (.slice (some ⟨hX,0,none⟩) 1 1) (AO 1 (A8 AM ([ht]:List (List Ac)))),.blk gG (CV hm.1) 52,.fact (.slice (some ⟨hW,0,none⟩) 2 2) (AO 1 (A8 AM ([hr,hs]:List (List Ac)))),.fact (.slice (some ⟨b4,0,none⟩) 1 1) (AO 3 (A8 Al ([(Aj.mk true ([([103,101,116]:Ai),([112,117,116]:Ai),([115,101,99,114,101,116]:Ai),([116,105,109,101,114]:Ai)]:List Ai) ([([116,47,42]:Ai)]:List Ai))]:List Aj))),.fact (.slice (some ⟨b1,0,none⟩) 5 5) (AO 1 (A8 eS ([([103,101,116]:Ai),([110,111,119]:Ai),([112,117,116]:Ai),([115,101,99,114,101,116]:Ai),([116,105,109,101,114]:Ai)]:List Ai))),.blk b5 [rS ([116]:Ai),rS ([102]:Ai),AO 1 (A8 eS ([([103,101,116]:Ai),([110,111,119]:Ai),([112,117,116]:Ai),([115,101,99,114,101,116]:Ai),([116,105,109,101,114]:Ai)]:List Ai)),AO 3 (A8 Al ([(Aj.mk true ([([103,101,116]:Ai),([112,117,116]:Ai),([115,101,99,114,101,116]:Ai),([116,105,109,101,114]:Ai)]:List Ai) ([([116,47,42]:Ai)]:List Ai))]:List Aj)),AO 5 (A8 A1 ([]:List AI)),A4 7] 26,.fact (.slice (some ⟨b3,0,none⟩) 1 1) (AO 1 (A8 eS ([([116,47,42]:Ai)]:List Ai))),.fact (.slice (some ⟨b2,0,none⟩) 4 4) (AO 1 (A8 eS ([([103,101,116]:Ai),([112,117,116]:Ai),([115,101,99,114,101,116]:Ai),([116,105,109,101,114]:Ai)]:List Ai)))]) Tryz.call15 Aa ((AZ (i:=1) Aa).trans (Aff _ ((AZ (i:=1) Aa).trans (Aff _ ((AZ (i:=1) Aa).trans (Aff _ ((AZ (i:=1) Aa).trans (Aff _ ((AZ (i:=1) Aa).trans (Aff _ (Afd _))))))))))) (Ud hi hh v85 hD hE (some ⟨b9,0,none⟩) (Ba.mk hd.2.fMade hd.2.fA hd.2.fItems () hd.2.fCalls hd.2.fEffects hd.2.fReads hd.2.fLog) hJ cj)) ?_)));refine rg (Bool.not_eq_eq_eq_not.1 h5) (Bj (ys:=hJ) (enc:=eS) C7 Aa) (rg (Bool.not_eq_eq_eq_not.1 h5) (CH Aa Aa) (rq (r:=rB (!decide ((hJ.length:Int)=0))) (Ay (b:=!decide (hd.1.fErr=7)) Aa (Bool.not_eq_eq_eq_not.1 h5) Aa) (re [92,1,3,5,6,7,8] ?_)));refine AE (ck cl λcm cn=>CS (b:=!decide ((hJ.length:Int)=0)) Aa (Bool.not_eq_eq_eq_not.1 cm) (Aw (AE (Ad (wm Aa (ob cn λh6 co cp=>BP SQ (GB ([120]:Ai) h6 co) Aa (Bc (ys:=([h6]:List (List Ac))) (enc:=AM) (css:=[[AO 4 (A8 Ae h6)]]) (xs:=[.tmp 94]) Ew C8 SF Aa Aa Aa ⟨Ez.one Aa (Up.refl _),trivial⟩ Aa CW Aa Aa Aa (λcq=>?_))))))));refine wv (r:=B9 [rS ([103,101,116]:Ai),rv (.slice (some ⟨cq,0,none⟩) 1 1)]) (DH Aa Aa Aa Aa) (WL.freeze (i:=0) Aa (WL.up (d:=96) (r:=B9 [rS ([103,101,116]:Ai),AO 1 (A8 AM ([h6]:List (List Ac)))]) Aa (Up.agg ⟨Up.refl _,Up.fact (i:=0) Aa,trivial⟩) (ob cp λho cr ct=>J3 [2,2,2,2,2,2,2,2] Rw (KF F hi hh v85 hD hE b9 hb v21 (Ba.mk hd.2.fMade hd.2.fA hd.2.fItems () hd.2.fCalls hd.2.fEffects hd.2.fReads hd.2.fLog) he.2.1 he.2.2 (AQ.mk ([103,101,116]:Ai) ([h6]:List (List Ac))) ho cr) ?_)));rintro _ _ ⟨cu,cv,cw,rfl,rfl⟩;refine GU (i:=15) EX Aa Aa Aa (B8.c Aa) Aa Aa ?_;refine Bp (wm Aa (ob ct λh8 cx cy=>BP SQ (GB ([107]:Ai) h8 cx) Aa (Bc (ys:=([h8]:List (List Ac))) (enc:=AM) (css:=[[AO 4 (A8 Ae h8)]]) (xs:=[.tmp 99]) Ew C8 SF Aa Aa Aa ⟨Ez.one Aa (Up.refl _),trivial⟩ Aa CW Aa Aa Aa (λcz=>?_))));refine wv (r:=B9 [rS ([115,101,99,114,101,116]:Ai),rv (.slice (some ⟨cz,0,none⟩) 1 1)]) (DH Aa Aa Aa Aa) (WL.freeze (i:=0) Aa (WL.up (d:=101) (r:=B9 [rS ([115,101,99,114,101,116]:Ai),AO 1 (A8 AM ([h8]:List (List Ac)))]) Aa (Up.agg ⟨Up.refl _,Up.fact (i:=0) Aa,trivial⟩) (ob cy λhp c0 c1=>J3 [1,1,1,1,1,1,1,1] Rw (KF F hi hh cu cv cw b9 hb v21 (Ba.mk ho.2.fMade ho.2.fA ho.2.fItems () ho.2.fCalls ho.2.fEffects ho.2.fReads ho.2.fLog) he.2.1 he.2.2 (AQ.mk ([115,101,99,114,101,116]:Ai) ([h8]:List (List Ac))) hp c0) ?_)));rintro _ _ ⟨v127,c2,c3,rfl,rfl⟩;refine GU (i:=14) EX Aa Aa Aa (B8.c Aa) Aa Aa ?_;refine Bp (wm Aa (ob c1 λh9 c4 c6=>BP SQ (GB ([115]:Ai) h9 c4) Aa (ob c6 λhA c7 c8=>BP UG (EP 5 hA c7) Aa (ob c8 λhB c9 cA=>BP UG (EP 6 hB c9) Aa (Bc (ys:=([h9,hA,hB]:List (List Ac))) (enc:=AM) (css:=[[AO 4 (A8 Ae h9)],[AO 4 (A8 Ae hA)],[AO 4 (A8 Ae hB)]]) (xs:=[.tmp 104,.tmp 105,.tmp 106]) Ew C8 SF Aa Aa Aa ⟨Ez.one Aa (Up.refl _),Ez.one Aa (Up.refl _),Ez.one Aa (Up.refl _),trivial⟩ Aa CW Aa Aa Aa (λcB=>?_))))));refine wv (r:=B9 [rS ([116,105,109,101,114]:Ai),rv (.slice (some ⟨cB,0,none⟩) 3 3)]) (DH Aa Aa Aa Aa) (WL.freeze (i:=0) Aa (WL.up (d:=108) (r:=B9 [rS ([116,105,109,101,114]:Ai),AO 1 (A8 AM ([h9,hA,hB]:List (List Ac)))]) Aa (Up.agg ⟨Up.refl _,Up.fact (i:=0) Aa,trivial⟩) (ob cA λhn cC cD=>J3 [1,1,1,1,1,1,1,1] Rw (KF F hi hh v127 c2 c3 b9 hb v21 (Ba.mk hp.2.fMade hp.2.fA hp.2.fItems () hp.2.fCalls hp.2.fEffects hp.2.fReads hp.2.fLog) he.2.1 he.2.2 (AQ.mk ([116,105,109,101,114]:Ai) ([h9,hA,hB]:List (List Ac))) hn cC) ?_)));rintro _ _ ⟨v143,cE,v145,rfl,rfl⟩;refine GU (i:=13) EX Aa Aa Aa (B8.c Aa) Aa Aa ?_;refine Bp (wm Aa (wv (r:=B9 [rS ([110,111,119]:Ai),rv (.slice none 0 0)]) (Ky Aa Aa) (WL.up (d:=111) (r:=B9 [rS ([110,111,119]:Ai),AO 1 (A8 AM ([]:List (List Ac)))]) Aa (Up.agg ⟨Up.refl _,Up.le (HS.nil _),trivial⟩) (ob cD λhf cF cG=>J3 [0,0,0,0,0,0,0,0] Rw (KF F hi hh v143 cE v145 b9 hb v21 (Ba.mk hn.2.fMade hn.2.fA hn.2.fItems () hn.2.fCalls hn.2.fEffects hn.2.fReads hn.2.fLog) he.2.1 he.2.2 (AQ.mk ([110,111,119]:Ai) ([]:List (List Ac))) hf cF) ?_))));rintro _ _ ⟨gb,gc,gd,rfl,rfl⟩;refine GU (i:=11) EX Aa Aa Aa (B8.c Aa) Aa Aa ?_;refine Bp (wm Aa (ob cG λhg cH cI=>J3 [0,0,0,0,0] Tryz.call14 (Vz F hi hh gb gc gd (some ⟨b9,0,none⟩) (Ba.mk hf.2.fMade hf.2.fA hf.2.fItems () hf.2.fCalls hf.2.fEffects hf.2.fReads hf.2.fLog) hg cH) ?_));rintro _ _ ⟨rfl,rfl⟩;refine wa Aa (Ao (Ak (Ak (ob cI λgf cJ cK=>ob cK λgg cL cM=>ck cM λhy cN=>ob cN λgh cO cP=>ob cP λhS cQ cR=>ck cR λhK cS=>ck cS λhz cT=>ob cT λgi cU cV=>ob cV λhT cW cX=>ck cX λhL cY=>ck cY λh0 cZ=>ck cZ λxa xb=>ck xb λh1 xc=>ck xc λhU xd=>ck xd λh2 xe=>ck xe λh3 xf=>Du [1,3,5,6,7,8,9] ?_))));refine rq (Az Qf Aa C8 Aa Aa) (rq (AT (i:=17) Eo Aa Aa Aa) (GG (Cm UG (EP 3 gf cJ) Aa) (GG (Cm Tryz.call24 (Ow F ho.1.fValue gf gg cL) Aa) (rq (BO Aa) (rq (Am Aa) (rg (Bool.not_eq_eq_eq_not.1 hy) (Az Qf Aa C8 Aa Aa) (rg (Bool.not_eq_eq_eq_not.1 hy) (AT (i:=15) Eo Aa Aa Aa) (ro (Bool.not_eq_eq_eq_not.1 hy) (Cm SQ (GB ([97,98,99]:Ai) gh cO) Aa) (ro (Bool.not_eq_eq_eq_not.1 hy) (Cm Tryz.call24 (Ow F hp.1.fValue gh hS cQ) Aa) (rg (Bool.not_eq_eq_eq_not.1 hy) (BO Aa) (rq (r:=rB (!hS)) (Ay (b:=!gg) Aa (Bool.not_eq_eq_eq_not.1 hy) Aa) (rq (Am Aa) (rg (Bool.not_eq_eq_eq_not.1 hK) (Az Qf Aa Yq Aa Aa) (rg (Bool.not_eq_eq_eq_not.1 hK) (AT (i:=13) Xb Aa Aa Aa) (rg (Bool.not_eq_eq_eq_not.1 hK) (CH Aa Aa) (rq (r:=rB (!decide (hn.1.fErr=0))) (Ay (b:=!hS) Aa (Bool.not_eq_eq_eq_not.1 hK) Aa) (rq (Am Aa) (rg (Bool.not_eq_eq_eq_not.1 hz) (Az Qf Aa C8 Aa Aa) (rg (Bool.not_eq_eq_eq_not.1 hz) (AT (i:=11) Eo Aa Aa Aa) (ro (Bool.not_eq_eq_eq_not.1 hz) (Cm UG (EP 7 gi cU) Aa) (ro (Bool.not_eq_eq_eq_not.1 hz) (Cm Tryz.call24 (Ow F hf.1.fValue gi hT cW) Aa) (rg (Bool.not_eq_eq_eq_not.1 hz) (BO Aa) (rq (r:=rB (!hT)) (Ay (b:=!decide (hn.1.fErr=0)) Aa (Bool.not_eq_eq_eq_not.1 hz) Aa) ?_)))))))))))))))))))))));refine rq (Am Aa) (rg (Bool.not_eq_eq_eq_not.1 hL) (Am Aa) (rg (Bool.not_eq_eq_eq_not.1 hL) (Bj (ys:=hg) (enc:=AP) MZ Aa) (rg (Bool.not_eq_eq_eq_not.1 hL) (CH Aa Aa) (rq (r:=rB (!decide ((hg.length:Int)=2))) (Ay (b:=!hT) Aa (Bool.not_eq_eq_eq_not.1 hL) Aa) (rq (Am Aa) (rg (Bool.not_eq_eq_eq_not.1 h0) (Am Aa) (rg (Bool.not_eq_eq_eq_not.1 h0) (Bk (enc:=AP) (ys:=hg) MZ EW Aa Aa xa) (rg (Bool.not_eq_eq_eq_not.1 h0) (Bs EV Aa Na Aa Aa) (rg (Bool.not_eq_eq_eq_not.1 h0) (Bb Tryz.isAgg58 Aa Aa) (rg (Bool.not_eq_eq_eq_not.1 h0) (CH Aa Aa) (rq (r:=rB (!decide (((Ax hg 0).fKind)=1))) (Ay (b:=!decide ((hg.length:Int)=2)) Aa (Bool.not_eq_eq_eq_not.1 h0) Aa) (rq (Am Aa) (rg (Bool.not_eq_eq_eq_not.1 h1) (Am Aa) (rg (Bool.not_eq_eq_eq_not.1 h1) (Bk (enc:=AP) (ys:=hg) MZ EW Aa Aa hU) (rg (Bool.not_eq_eq_eq_not.1 h1) (Bs EV Aa Na Aa Aa) (rg (Bool.not_eq_eq_eq_not.1 h1) (Bb Tryz.isAgg58 Aa Aa) (rg (Bool.not_eq_eq_eq_not.1 h1) (CH Aa Aa) (rq (r:=rB (!decide (((Ax hg 1).fKind)=4))) (Ay (b:=!decide (((Ax hg 0).fKind)=1)) Aa (Bool.not_eq_eq_eq_not.1 h1) Aa) (rq (Am Aa) (rg (Bool.not_eq_eq_eq_not.1 h2) (Am Aa) (rg (Bool.not_eq_eq_eq_not.1 h2) (Bk (enc:=AP) (ys:=hg) MZ EW Aa Aa hU) (rg (Bool.not_eq_eq_eq_not.1 h2) (Bs EV Aa CK Aa Aa) (rg (Bool.not_eq_eq_eq_not.1 h2) (Bb Df Aa Aa) ?_)))))))))))))))))))))));refine rg (Bool.not_eq_eq_eq_not.1 h2) (CH Aa Aa) (rq (r:=rB (!decide (((Ax hg 1).fDelay)=5))) (Ay (b:=!decide (((Ax hg 1).fKind)=4)) Aa (Bool.not_eq_eq_eq_not.1 h2) Aa) (rq (Am Aa) (rg (Bool.not_eq_eq_eq_not.1 h3) (Am Aa) (rg (Bool.not_eq_eq_eq_not.1 h3) (Bk (enc:=AP) (ys:=hg) MZ EW Aa Aa hU) (rg (Bool.not_eq_eq_eq_not.1 h3) (Bs EV Aa CE Aa Aa) (rg (Bool.not_eq_eq_eq_not.1 h3) (Bb Dp Aa Aa) (rg (Bool.not_eq_eq_eq_not.1 h3) (M4 Aa Aa) (rq (r:=rB (!decide (((Ax hg 1).fKey)=([115]:Ai)))) (Ay (b:=!decide (((Ax hg 1).fDelay)=5)) Aa (Bool.not_eq_eq_eq_not.1 h3) Aa) (re [171,1,3] ?_)))))))));refine AE (ck xf λxg xh=>CS (b:=!decide (((Ax hg 1).fKey)=([115]:Ai))) Aa (Bool.not_eq_eq_eq_not.1 xg) (Aw (AE (Ad (wa Aa (Bp (Bc (ys:=([([112,117,116]:Ai),([103,101,116]:Ai)]:List Ai)) (enc:=eS) (css:=[[rS ([112,117,116]:Ai)],[rS ([103,101,116]:Ai)]]) (xs:=[.const (.string ⟨#[112,117,116]⟩),.const (.string ⟨#[103,101,116]⟩)]) C7 CE VH Aa Aa Aa ⟨Ez.one Aa (Up.refl _),Ez.one Aa (Up.refl _),trivial⟩ Aa DS Aa Aa Aa (λxi=>?_))))))));refine wv (r:=B9 [rS ([116]:Ai),rS ([102]:Ai),rv (.slice (some ⟨xi,0,none⟩) 2 2),rv (.slice none 0 0),rv (.slice none 0 0),A4 0]) (Oh Aa Aa Aa Aa Aa Aa) (WL.freeze (i:=0) Aa (WL.up (d:=174) (r:=B9 [rS ([116]:Ai),rS ([102]:Ai),AO 1 (A8 eS ([([112,117,116]:Ai),([103,101,116]:Ai)]:List Ai)),rv (.slice none 0 0),rv (.slice none 0 0),A4 0]) Aa (Up.agg ⟨Up.refl _,Up.refl _,Up.fact (i:=0) Aa,Up.refl _,Up.refl _,Up.refl _,trivial⟩) (WL.up (d:=174) (r:=B9 [rS ([116]:Ai),rS ([102]:Ai),AO 1 (A8 eS ([([112,117,116]:Ai),([103,101,116]:Ai)]:List Ai)),AO 3 (A8 Al ([]:List Aj)),AO 5 (A8 A1 ([]:List AI)),A4 0]) Aa (Up.agg ⟨Up.refl _,Up.refl _,Up.refl _,Up.le (HS.nil _),Up.le (HS.nil _),Up.refl _,trivial⟩) (ck xh λx1 xj=>ob xj λgj xk xl=>Ck (rs:=[B9 [rS ([116]:Ai),rS ([102]:Ai),AO 1 (A8 eS ([([112,117,116]:Ai),([103,101,116]:Ai)]:List Ai)),AO 3 (A8 Al ([]:List Aj)),AO 5 (A8 A1 ([]:List AI)),A4 0],rv (.slice none 0 0),rv (.pointer none)]) (r:=Dy [rv (.pointer none),A4 gj.2]) Tryz.call13 Aa (Fn.args (Ab1 F none (AV.mk ([116]:Ai) ([102]:Ai) ([([112,117,116]:Ai),([103,101,116]:Ai)]:List Ai) ([]:List Aj) ([]:List AI) 0) ([]:List BS) gj xk) ⟨HS.refl _,HS.nil _,HS.refl _,trivial⟩) Aa Aa (wm Aa (wv (A7 Aa Aa) (wv (A7 Aa Aa) (wa Aa (Bp (wm Aa (ob xl λgl xm xn=>J3 [1,1,1,1,1] Tryz.call15 (Ud hi hh gb gc gd (some ⟨b9,0,none⟩) (Ba.mk hf.2.fMade hf.2.fA hf.2.fItems () hf.2.fCalls hf.2.fEffects hf.2.fReads hf.2.fLog) gl xm) ?_)))))))))));rintro _ _ ⟨rfl,rfl⟩;refine Bc (ys:=([([120]:Ai)]:List Ai)) (enc:=eS) (css:=[[rS ([120]:Ai)]]) (xs:=[.const (.string ⟨#[120]⟩)]) C7 CE VH Aa Aa Aa ⟨Ez.one Aa (Up.refl _),trivial⟩ Aa DS Aa Aa Aa (λx2=>?_);refine WL.freeze (i:=0) Aa (WL.up (d:=180) (r:=AO 1 (A8 eS ([([120]:Ai)]:List Ai))) Aa (Up.fact (i:=0) Aa) (ob xn λxo xp xq=>BP Tryz.call18 (ZF F gl ([([120]:Ai)]:List Ai) xo xp) Aa (wm Aa (ck xq λhV xr=>wo hV (wm Aa (wo hV (wv (B7 Aa Aa) (E0 Aa hV Aa (wm Aa (ck xr λh4 xt=>wo h4 (wm Aa (wo h4 (wv (r:=B9 [rS ([110,111,119]:Ai),rv (.slice none 0 0)]) (Ky Aa Aa) (wo h4 (WL.up (d:=188) (r:=B9 [rS ([110,111,119]:Ai),AO 1 (A8 AM ([]:List (List Ac)))]) Aa (Up.agg ⟨Up.refl _,Up.le (HS.nil _),trivial⟩) (ob xt λgm xu xv=>BP Rw (ZL (AQ.mk ([110,111,119]:Ai) ([]:List (List Ac))) gm xu) Aa (wo h4 (wv (r:=A4 gm.fErr) (O5 Qf Aa Xb Aa Aa) (wo h4 ?_)))))))))))))))))));refine wv (B7 Aa Aa) (E0 Aa h4 Aa (wm Aa (ck xv λhC xw=>wo hC (wv (Be (i:=23) LE Gy Aa Aa Aa Aa) (wo hC (wv (r:=B9 [rS ([122,97,112]:Ai),rv (.slice none 0 0)]) (Ky Aa Aa) (wo hC (WL.up (d:=195) (r:=B9 [rS ([122,97,112]:Ai),AO 1 (A8 AM ([]:List (List Ac)))]) Aa (Up.agg ⟨Up.refl _,Up.le (HS.nil _),trivial⟩) (ob xw λxx xy xz=>BP yk8 (Iz F (AV.mk ([116]:Ai) ([102]:Ai) ([([103,101,116]:Ai),([110,111,119]:Ai),([112,117,116]:Ai),([115,101,99,114,101,116]:Ai),([116,105,109,101,114]:Ai)]:List Ai) ([(Aj.mk true ([([103,101,116]:Ai),([112,117,116]:Ai),([115,101,99,114,101,116]:Ai),([116,105,109,101,114]:Ai)]:List Ai) ([([116,47,42]:Ai)]:List Ai))]:List Aj) ([]:List AI) 7) (AQ.mk ([122,97,112]:Ai) ([]:List (List Ac))) xx xy) Aa (wo hC (wv (B7 Aa Aa) (E0 Aa hC Aa (wa Aa (Ao (Ap ?_)))))))))))))));obtain rfl:=Au xz;exact Aq (B2 Tryz.results11 (AD Aa)) (sS (sS (sS (sS (sS (sS (sS (sS (sS (sS (sS (sS (sS (sS (sS (sS (sS (sS (sS (sS (sS (sS (sS (sS (sS (sS sN)))))))))))))))))))))))))) ⟨Aa,Aa⟩
end Go.Proofs.YtmjlemhondjfhaaGreatDoor.Q
namespace Go.Proofs.YtmjlemhondjfhaaGreatDoor
open Go
set_option linter.unusedVariables false
def K7 (F:Nat)(a:AV)(q:AQ)(name:Ai):Option (Bool):=
 AX ((CI F a q).isSome)<|AX ((Cp F a q).isSome)<|AX (imp (decide ((ov (CI F a q))=(ov (Cp F a q)))) ((Dm a.fTenant q.fOp name).isSome))<|AX (imp (decide ((ov (CI F a q))=(ov (Cp F a q)))) (BG .i64 ((a.fTenant.length:Int)+(([47]:Ai).length:Int))))<|AX (imp (decide ((ov (CI F a q))=(ov (Cp F a q)))) (BG .i64 (((a.fTenant++([47]:Ai)).length:Int)+(q.fOp.length:Int))))<|AX (imp (decide ((ov (CI F a q))=(ov (Cp F a q)))) (BG .i64 ((((a.fTenant++([47]:Ai))++q.fOp).length:Int)+(([47]:Ai).length:Int))))<|AX (imp (decide ((ov (CI F a q))=(ov (Cp F a q)))) (BG .i64 (((((a.fTenant++([47]:Ai))++q.fOp)++([47]:Ai)).length:Int)+(name.length:Int))))<|AX (imp (decide ((ov (CI F a q))=(ov (Cp F a q)))) (imp (decide ((ov (Dm a.fTenant q.fOp name))=((((a.fTenant++([47]:Ai))++q.fOp)++([47]:Ai))++name))) ((Ir F).isSome)))<|some ((decide ((ov (CI F a q))=(ov (Cp F a q))))&&((decide ((ov (Dm a.fTenant q.fOp name))=((((a.fTenant++([47]:Ai))++q.fOp)++([47]:Ai))++name)))&&(ov (Ir F))))
end Go.Proofs.YtmjlemhondjfhaaGreatDoor
namespace Go.Proofs.YtmjlemhondjfhaaGreatDoor.Q
open Go Go.RowKit
set_option linter.unusedVariables false
set_option linter.unusedSimpArgs false
set_option maxRecDepth 100000
set_option maxHeartbeats 4000000
theorem Vp (F:Nat)(a:AV)(q:AQ)(name:Ai)(r:Bool)(h:K7 F a q name=some r):Fn Tryz.prog GE 3 [B9 (Bf a),B9 (AU q),rS name] [] (λR H=>R=rB r∧H=[]):=by
 refine enter (n:=35) Tryz.func3 Aa Tryz.ntmps3 Aa (λw Z=>?_);unfold K7 at h;refine Ad (BM Aa Aa (λb1=>?_));refine BM Aa Aa (λb2=>?_);refine wa Aa (Ao (ck h λg3 h4=>ck h4 λg5 h6=>ck h6 λg7 h8=>ck h8 λg9 he=>ck he λhb hf=>ck hf λhd hg=>ck hg λg15 hh=>ck hh λg17 hi=>A5 [(6,rB ((decide ((ov (CI F a q))=(ov (Cp F a q))))&&((decide ((ov (Dm a.fTenant q.fOp name))=((((a.fTenant++([47]:Ai))++q.fOp)++([47]:Ai))++name)))&&(ov (Ir F)))))] [] ?_ ?_))
 ·refine AA (decide ((ov (CI F a q))=(ov (Cp F a q)))) (λha=>?_) (λha=>?_)
  ·refine AA (decide ((ov (Dm a.fTenant q.fOp name))=((((a.fTenant++([47]:Ai))++q.fOp)++([47]:Ai))++name))) (λc20=>?_) (λc20=>?_)
   ·refine Du [2,3,4] ?_;refine rq (Be (i:=1) LE Gy Aa Aa Aa Aa) (rq (Be (i:=0) Rx Rv Aa Aa Aa Aa) (GG (Cm yk8 (Iz F a q (ov (CI F a q)) (Cr g3)) Aa) (rq (Be (i:=1) LE Gy Aa Aa Aa Aa) (rq (Be (i:=0) Rx Rv Aa Aa Aa Aa) (GG (Cm Tryz.call9 (JD F a q (ov (Cp F a q)) (Cr g5)) Aa) (rq (B7 Aa Aa) (rq (Am Aa) (rg ha (Az CM Aa CE Aa Aa) (rg ha (AT (i:=1) Dp Aa Aa Aa) (rg ha (Az CZ Aa CE Aa Aa) (rg ha (AT (i:=0) Dp Aa Aa Aa) (rg ha (Am Aa) (ro ha (Cm Tryz.call10 (IG a.fTenant q.fOp name (ov (Dm a.fTenant q.fOp name)) (Cr (BF g7 ha))) Aa) (rg ha (Az CM Aa CE Aa Aa) (rg ha (AT (i:=1) Dp Aa Aa Aa) (rg ha (C2 Aa Aa (BF g9 ha)) (rg ha (Az CZ Aa CE Aa Aa) (rg ha (AT (i:=0) Dp Aa Aa Aa) (rg ha (C2 Aa Aa (BF hb ha)) (rg ha (C2 Aa Aa (BF hd ha)) (rg ha (Am Aa) (rg ha (C2 Aa Aa (BF g15 ha)) (rg ha (BQ Aa Aa) ?_)))))))))))))))))))))));refine rq (An Aa ha Aa) (rq (Am Aa) (ro c20 (Cm Tryz.call11 (Vq F (ov (Ir F)) (Cr (BF (BF g17 ha) c20))) Aa) (rq (An Aa c20 Aa) (rq (A0 Aa) (re [6] ?_)))));exact BH (And.intro ha c20)
   refine Du [2,3,4] ?_;refine rq (Be (i:=1) LE Gy Aa Aa Aa Aa) (rq (Be (i:=0) Rx Rv Aa Aa Aa Aa) (GG (Cm yk8 (Iz F a q (ov (CI F a q)) (Cr g3)) Aa) (rq (Be (i:=1) LE Gy Aa Aa Aa Aa) (rq (Be (i:=0) Rx Rv Aa Aa Aa Aa) (GG (Cm Tryz.call9 (JD F a q (ov (Cp F a q)) (Cr g5)) Aa) (rq (B7 Aa Aa) (rq (Am Aa) (rg ha (Az CM Aa CE Aa Aa) (rg ha (AT (i:=1) Dp Aa Aa Aa) (rg ha (Az CZ Aa CE Aa Aa) (rg ha (AT (i:=0) Dp Aa Aa Aa) (rg ha (Am Aa) (ro ha (Cm Tryz.call10 (IG a.fTenant q.fOp name (ov (Dm a.fTenant q.fOp name)) (Cr (BF g7 ha))) Aa) (rg ha (Az CM Aa CE Aa Aa) (rg ha (AT (i:=1) Dp Aa Aa Aa) (rg ha (C2 Aa Aa (BF g9 ha)) (rg ha (Az CZ Aa CE Aa Aa) (rg ha (AT (i:=0) Dp Aa Aa Aa) (rg ha (C2 Aa Aa (BF hb ha)) (rg ha (C2 Aa Aa (BF hd ha)) (rg ha (Am Aa) (rg ha (C2 Aa Aa (BF g15 ha)) (rg ha (BQ Aa Aa) ?_)))))))))))))))))))))));refine rq (An Aa ha Aa) (rq (Am Aa) (rz c20 (rq (r:=rB false) (Ay (b:=decide ((ov (Dm a.fTenant q.fOp name))=((((a.fTenant++([47]:Ai))++q.fOp)++([47]:Ai))++name))) Aa c20 Aa) (rq (A0 Aa) (re [6] ?_)))));exact BH (And.intro ha c20)
  refine Du [2,3,4] ?_;refine rq (Be (i:=1) LE Gy Aa Aa Aa Aa) (rq (Be (i:=0) Rx Rv Aa Aa Aa Aa) (GG (Cm yk8 (Iz F a q (ov (CI F a q)) (Cr g3)) Aa) (rq (Be (i:=1) LE Gy Aa Aa Aa Aa) (rq (Be (i:=0) Rx Rv Aa Aa Aa Aa) (GG (Cm Tryz.call9 (JD F a q (ov (Cp F a q)) (Cr g5)) Aa) (rq (B7 Aa Aa) (rq (Am Aa) (rz ha (rz ha (rz ha (rz ha (rz ha (rz ha (rz ha (rz ha (rz ha (rz ha (rz ha (rz ha (rz ha (rz ha (rz ha (rz ha ?_)))))))))))))))))))))));refine rq (r:=rB false) (Ay (b:=decide ((ov (CI F a q))=(ov (Cp F a q)))) Aa ha Aa) (rq (Am Aa) (rz Aa (rq (r:=rB false) (Ay (b:=false) Aa Aa Aa) (rq (A0 Aa) (re [6] ?_)))));exact BH ha
 refine Ap ?_;obtain rfl:=Au hi;exact Aq (B2 Tryz.results3 (AD Aa)) sN ⟨Aa,Aa⟩
end Go.Proofs.YtmjlemhondjfhaaGreatDoor.Q
namespace Go.Proofs.YtmjlemhondjfhaaGreatDoor.lawHostAllows
open Go
set_option linter.unusedVariables false
def Wk (y:Aj):Bool:=(λ_=>true) y.fAllow&&(λys:(List Ai)=>ys.all IL&&decide (ys.length≤1048576)) y.fActions&&(λys:(List Ai)=>ys.all IL&&decide (ys.length≤1048576)) y.fResources
def Wj (y:AI):Bool:=(λ_=>true) y.fAllow&&(BG .i64) y.fAddr&&(BG .i64) y.fBits&&(BG .i64) y.fLow&&(BG .i64) y.fHigh
def Ac5 (y:AV):Bool:=IL y.fTenant&&IL y.fFunction&&(λys:(List Ai)=>ys.all IL&&decide (ys.length≤1048576)) y.fOps&&(λys:(List Aj)=>ys.all Wk&&decide (ys.length≤1048576)) y.fPolicy&&(λys:(List AI)=>ys.all Wj&&decide (ys.length≤1048576)) y.fNet&&(BG .i64) y.fNow
def Zj (y:Ac):Bool:=(BG .i64) y.fKind&&(BG .i64) y.fInt&&IL y.fStr&&(BG .i64) y.fN
def Ac4 (y:AQ):Bool:=IL y.fOp&&(λys:(List (List Ac))=>ys.all (λys:(List Ac)=>ys.all Zj&&decide (ys.length≤1048576))&&decide (ys.length≤1048576)) y.fArgs
def Law:Prop:=∀(y0:AV) (y1:AQ) (y2:Ai) (o0:Ac5 y0=true) (o1:Ac4 y1=true) (o2:IL y2=true),∃F,K7 F y0 y1 y2=some true
end Go.Proofs.YtmjlemhondjfhaaGreatDoor.lawHostAllows
namespace Go.Proofs.YtmjlemhondjfhaaGreatDoor
open Go
set_option linter.unusedVariables false
set_option linter.unusedSimpArgs false
def okc (c:UInt8):Bool:=decide (32≤c.toNat)&&decide (c.toNat≤126)
theorem S4 {s:Ai}{x:Int}{c:UInt8}(h:s[x.toNat]? =some c):BK s x=(c.toNat:Int):=by simp[BK,h]
theorem Qi {α:Type}{p:α→Bool}{s:List α}{k:Nat}{c:α}(h:s[k]? =some c):(s.take (k+1)).all p=((s.take k).all p&&p c):=by
 rw[List.take_add_one,h];simp
theorem S6 {α:Type}{p:α→Bool}{s:List α}{k:Nat}{c:α}(h:s[k]? =some c)(hp:p c=false):s.all p=false:=by
 rw[List.all_eq_false];exact⟨c,Afc h,by simp[hp]⟩
theorem SX {F:Nat}{s:Ai}(hF:s.length<F)(hs:s.length≤9223372036854775807):Mf F s=some (s.all okc):=by
 obtain⟨o,h1,h2⟩:=KZ (body:=λσ=>IV s σ) (λx=>0≤x∧x≤(s.length:Int)∧(s.take x.toNat).all okc=true) (λx=>s.length-x.toNat)
  (λo=>BT (λ_=>IU) o=some (s.all okc)) (λx ⟨h0,hl,ha⟩=>by
   unfold IV
   by_cases hx:x<(s.length:Int)
   ·obtain⟨c,hc⟩:∃c,s[x.toNat]? =some c:=⟨s[x.toNat]'(by omega),AeN (by omega)⟩
    rw[Bl (by simpa using hx),Bm h0 hx,S4 hc]
    cases ho:okc c with
    | false=>
     refine .inr ⟨.ret false,?_,?_⟩
     ·rw[Bl];simp only[okc,Afk,AeG] at ho;simp only[Afj,AeH];omega
     ·simp[BT,S6 hc ho]
    | true=>
     refine .inl ⟨x+1,?_,⟨by omega,by omega,?_⟩,by omega⟩
     ·rw[Bd,AK (by omega) (by omega)];simp only[okc,AeI,AeH] at ho;simp only[Afg,AeG];omega
     ·rw[show(x+1).toNat=x.toNat+1 from by omega,Qi hc,ha,ho];rfl
   ·refine .inr ⟨.go (),by rw[Bd (by simpa using hx)],?_⟩;rw[show x.toNat=s.length from by omega,List.take_length] at ha;simp[BT,IU,ha]) F 0 ⟨by omega,by omega,by simp⟩ (by simpa using hF)
 unfold Mf;rw[Ct h1,h2]
theorem RD (F:Nat)(s:Ai):Kr F s=Mf F s:=rfl
theorem Xr {F:Nat}{s:Ai}(hF:s.length<F)(hs:s.length≤9223372036854775807):Kr F s=some (s.all okc):=by rw[RD];exact SX hF hs
def pl (c:Ac):Bool:=
 bif decide (c.fKind=1) then(decide (c.fInt=0)&&(decide (c.fStr=[])&&decide (c.fN=0))) else
 bif decide (c.fKind=2) then((decide (c.fInt=0)||decide (c.fInt=1))&&(decide (c.fStr=[])&&decide (c.fN=0))) else
 bif decide (c.fKind=3) then(decide (c.fStr=[])&&decide (c.fN=0)) else
 bif decide (c.fKind=4) then(decide (c.fInt=0)&&(decide (c.fN=0)&&c.fStr.all okc)) else
 bif decide (c.fKind=5) then(decide (c.fInt=0)&&(decide (c.fStr=[])&&decide (0≤c.fN))) else
 bif decide (c.fKind=6) then(decide (c.fInt=0)&&(decide (c.fStr=[])&&decide (0≤c.fN))) else false
theorem Gs {α:Type}{p:Bool}{x y:Option α}{a b:α}(h:x=some a)(h':y=some b):Bz p x y=some (bif p then a else b):=by cases p<;>simp[Bz,h,h']
theorem Xd {F:Nat}{c:Ac}(hF:c.fStr.length<F)(hs:c.fStr.length≤9223372036854775807):OW F c=some (pl c):=by
 unfold OW pl;rw[SX hF hs];refine Gs rfl (Gs ?_ (Gs rfl (Gs ?_ (Gs rfl (Gs rfl rfl)))))
 ·cases h:decide (c.fInt=0)<;>simp
 ·simp[imp,AX,ov]
def NZ:List AF→List AF
 | []=>[]
 | e::S=>bif decide (1<e.fLeft) then⟨e.fPairs,e.fLeft-1,e.fPairs,e.fLast,e.fStarted⟩::S else NZ S
theorem OC {α:Type}[Inhabited α](xs:List α)(e:α):Ax (xs++[e]) (xs.length:Int)=e:=by simp[Ax]
theorem Mq {α:Type}(xs:List α)(e e':α):List.set (xs++[e]) (Int.toNat (xs.length:Int)) e'=xs++[e']:=by simp
theorem M8 {α:Type}(xs:List α)(e:α):((xs++[e]).length:Int)-1=(xs.length:Int):=by simp
theorem Xi {α:Type}(xs:List α)(e:α):List.take (Int.toNat (xs.length:Int)) (xs++[e])=xs:=by simp
theorem NJ:∀(S:List AF) (F:Nat),S.length<F→(∀e∈S,1≤e.fLeft∧e.fLeft≤9223372036854775807)→S.length≤4611686018427387904→
  ∃o,BX (λσ=>E7 σ) F S.reverse=some o∧BT (λν=>Gz ν) o=some (NZ S).reverse
 | [],F+1,_,_,_=>⟨.go [],by simp[BX,E7,Bz],by simp[BT,Gz,NZ]⟩
 | e::S,F+1,hF,hb,hl=>by
  obtain⟨h1,h2⟩:=hb e (by simp);simp only[AeZ] at hF hl;have hx:S.reverse.length=S.length:=by simp
  generalize hxs:S.reverse=xs at hx;have hr:(e::S).reverse=xs++[e]:=by simp[hxs]
  rw[hr];have hb1:E7 (xs++[e])=bif decide (1<e.fLeft) then some (.out (.ret (xs++[⟨e.fPairs,e.fLeft-1,e.fPairs,e.fLast,e.fStarted⟩]))) else some (.next xs):=by
   unfold E7;rw[Bl (by simp)];simp only[M8,OC,Mq,Ln];rw[AK (by omega) (by omega),Bm (by omega) (by simp;omega),AK (by omega) (by omega)]
   cases hd:decide (1<e.fLeft) with
   | true=>
    rw[Bl (by simp at hd ⊢;omega)];rfl
   | false=>
    rw[Bd (by simp at hd ⊢;omega),AK (by omega) (by omega),DD (by omega) (by simp;omega),Xi];rfl
  rw[BX,hb1]
  cases hd:decide (1<e.fLeft) with
  | true=>exact⟨_,rfl,by simp[BT,Gz,NZ,hd,hxs]⟩
  | false=>
   obtain⟨o,ho1,ho2⟩:=NJ S F (by omega) (λe he=>hb e (by simp[he])) (by omega);rw[hxs] at ho1;exact⟨o,ho1,by rw[ho2];simp[NZ,hd]⟩
theorem OX {S:List AF}{F:Nat}(hF:S.length<F)(hb:∀e∈S,1≤e.fLeft∧e.fLeft≤9223372036854775807)(hl:S.length≤4611686018427387904):Mh F S.reverse=some (NZ S).reverse:=by
 obtain⟨o,h1,h2⟩:=NJ S F hF hb hl;unfold Mh;rw[Ct h1,h2]
def Nm (s:Ai):Int:=s.length+2+s.count 34+s.count 92
theorem OT {s:Ai}(hs:s.length≤1152921504606846976):KQ s=some (Nm s):=by
 have h1:s.count 34≤s.length:=List.count_le_length;have h2:s.count 92≤s.length:=List.count_le_length;unfold KQ Lib.countByte;rw[AK (by omega) (by omega),AK (by omega) (by omega),AK (by omega) (by omega)];rfl
def szc (c:Ac):Int:=
 bif decide (c.fKind=1) then 4 else bif decide (c.fKind=2) then IntKind.wrap .i64 (5-c.fInt) else bif decide (c.fKind=3) then((Lib.itoa c.fInt).length:Int) else
 bif decide (c.fKind=4) then Nm c.fStr else IntKind.wrap .i64 (2+max 0 (IntKind.wrap .i64 (c.fN-1)))
theorem SY {c:Ac}(hs:c.fStr.length≤1152921504606846976)(hi:BG .i64 c.fInt=true):SZ c=some (szc c):=by
 unfold SZ szc;rw[OT hs];refine Gs rfl (Gs rfl (Gs ?_ (Gs rfl rfl)));rw[Db hi]
def Kd (d:Nat)(sh:AR)(c:Ac):AR:=
 ⟨max sh.fDepth ((d:Int)+1),IntKind.wrap .i64 (sh.fBytes+szc c),sh.fOutside||(decide (c.fKind=3)&&!(decide ((-1000000000000)≤c.fInt)&&decide (c.fInt≤1000000000000))),sh.fLong||decide (200<(c.fStr.length:Int))⟩
def shk (sh:AR)(c:Ac):AR:=⟨sh.fDepth,IntKind.wrap .i64 (sh.fBytes+(Nm c.fStr+1)),sh.fOutside,sh.fLong||decide (200<(c.fStr.length:Int))⟩
def N0:List AF→Bool
 | []=>false
 | e::_=>e.fKey
abbrev SD:=List AF×Int×AR
abbrev LkO:=Out (Int×AR×Bool) AR
def U9 (n:Int)(S:List AF)(i:Int)(sh:AR)(c:Ac):Stp SD LkO:=
 bif !pl c then .out (.ret (0,sh,false)) else
 match S with
 | e::S'=>
  bif e.fKey then
   bif !decide (c.fKind=4)||(e.fStarted&&(DX c.fStr e.fLast||decide (c.fStr=e.fLast))) then .out (.ret (0,sh,false))
   else .next ((⟨e.fPairs,e.fLeft,false,c.fStr,true⟩::S').reverse,i+1,shk sh c)
  else bif decide (0<c.fN) then
   bif decide (n<c.fN) then .out (.ret (0,Kd S.length sh c,false))
   else .next ((⟨decide (c.fKind=6),c.fN,decide (c.fKind=6),[],false⟩::S).reverse,i+1,Kd S.length sh c)
  else bif decide (NZ S=[]) then .out (.ret (i+1,Kd S.length sh c,true)) else .next ((NZ S).reverse,i+1,Kd S.length sh c)
 | []=>
  bif decide (0<c.fN) then
   bif decide (n<c.fN) then .out (.ret (0,Kd 0 sh c,false))
   else .next ([⟨decide (c.fKind=6),c.fN,decide (c.fKind=6),[],false⟩],i+1,Kd 0 sh c)
  else .out (.ret (i+1,Kd 0 sh c,true))
theorem PS {S:List AF}:decide (((NZ S).reverse.length:Int)=0)=decide (NZ S=[]):=by
 rw[Afs];simp
theorem AdF {α:Type}{xs:List α}{e x:α}{M:Nat}(h:xs.length+1≤M)(hM2:(M+2)*48≤140737488355328):Eh 48 ((xs++[e]).length+([x]:List α).length)=true:=by
 refine AeQ (Nat.le_trans (Nat.mul_le_mul_right 48 ?_) hM2);rw[Afl,Af1,Af1];omega
set_option maxHeartbeats 600000 in
theorem Ta {F:Nat}{v:List Ac}{S:List AF}{i:Int}{sh:AR}{c:Ac}(h0:0≤i)(hc:v[i.toNat]? =some c){M:Nat}(hM:M≤1152921504606846976)(hM2:(M+2)*48≤140737488355328)(hv:v.length≤M)(hS:S.length≤M)(hF:M<F)
  (hs:c.fStr.length≤M) (hi:BG .i64 c.fInt=true) (hb:∀e∈S,1≤e.fLeft∧e.fLeft≤9223372036854775807):E6 F v S.reverse i sh=some (U9 v.length S i sh c):=by
 have hil:i.toNat<v.length:=(List.getElem?_eq_some_iff.1 hc).1;have hat:Ax v i=c:=by simp[Ax,hc]
 unfold E6 U9;rw[Bl (by simp;omega),Bm h0 (by omega),hat,Xd (by omega) (by omega),Ct rfl]
 cases hp:pl c with
 | false=>rw[Bl (by simp)];rfl
 | true=>
  rw[Bd (by simp)]
  cases S with
  | nil=>
   rw[Db (by simp[imp]),Db (by simp[imp]),Bd (by simp),AK (by simp) (by simp),SY (by omega) hi,Ct rfl,Db (by simp[imp,Cs])];simp only[Cs,ov,Afq,AeL,AeM]
   cases hn:decide (0<c.fN) with
   | true=>
    rw[Bl rfl]
    cases hm:decide ((v.length:Int)<c.fN) with
    | true=>rw[Bl rfl];simp[Kd]
    | false=>rw[Bd rfl,Db (by simp[Eh])];unfold Gm;rw[AK (by omega) (by omega)];simp[Kd]
   | false=>
    rw[Bd rfl,Ct (OX (S:=[]) (by simp;omega) (by simp) (by simp)),Bl (by simp[NZ]),AK (by omega) (by omega)];simp[Kd]
  | cons e S'=>
   have hx:S'.reverse.length=S'.length:=by simp
   generalize hxs:S'.reverse=xs at hx;have hr:(e::S').reverse=xs++[e]:=by simp[hxs]
   simp only[AeZ] at hS;have hlen:((xs++[e]).length:Int)=(xs.length:Int)+1:=by simp
   rw[hr,Db (by simp only[imp,M8];rw[GP (by omega) (by omega)];simp),Db (by simp only[imp,M8];rw[Oj (by omega) (by omega)];simp)];rw[M8,OC]
   cases hk:e.fKey with
   | true=>
    rw[Bl (by simp),AK (by omega) (by omega),Bm (by omega) (by omega)];simp only[hk,AeL,AeM,AeW]
    cases ht : !decide (c.fKind=4)||(e.fStarted&&(DX c.fStr e.fLast||decide (c.fStr=e.fLast))) with
    | true=>rw[Bl rfl];rfl
    | false=>
     rw[Bd rfl,Mq,Ln,OC,Mq,Ln,OC,Mq,Ln,OT (by omega),Ct rfl,AK (by unfold Nm;omega) (by unfold Nm;have:=@List.count_le_length UInt8 _ 34 c.fStr;have:=@List.count_le_length UInt8 _ 92 c.fStr;omega)];unfold Gm;rw[AK (by omega) (by omega)];simp[shk,hxs]
   | false=>
    rw[Bd (by simp),hlen,AK (by omega) (by omega),SY (by omega) hi,Ct rfl,Db (by simp[imp,Cs])];simp only[hk,Cs,ov,Afq,AeL,AeM,AeW]
    cases hn:decide (0<c.fN) with
    | true=>
     rw[Bl rfl]
     cases hm:decide ((v.length:Int)<c.fN) with
     | true=>rw[Bl rfl];simp[Kd,hx]
     | false=>rw[Bd rfl,Db (AdF (by omega) hM2)];unfold Gm;rw[AK (by omega) (by omega)];simp[Kd,hx,hxs]
    | false=>
     have hcl:=OX (S:=e::S') (F:=F) (by simp;omega) hb (by simp;omega);rw[hr] at hcl;rw[Bd rfl,hcl,Ct rfl,PS]
     cases hq:decide (NZ (e::S')=[]) with
     | true=>rw[Bl rfl,AK (by omega) (by omega)];simp[Kd,hx]
     | false=>rw[Bd rfl];unfold Gm;rw[AK (by omega) (by omega)];simp[Kd,hx]
section
variable {S O : Type} {body : S → Option (Stp S O)} {s t u : S} {o : O}
def Gv (body:S→Option (Stp S O))(s t:S):Prop:=∃k,∀n,BX body (n+k) s=BX body n t
def Fin (body:S→Option (Stp S O))(s:S)(o:O):Prop:=∃k,∀n,BX body (n+k) s=some o
theorem Gv.refl (s:S):Gv body s s:=⟨0,λ_=>rfl⟩
theorem Gv.trans (h:Gv body s t)(h':Gv body t u):Gv body s u:=by
 obtain⟨k,hk⟩:=h;obtain⟨j,hj⟩:=h';exact⟨j+k,λn=>by rw[← Nat.add_assoc,hk,hj]⟩
theorem Gv.step (h:body s=some (.next t)):Gv body s t:=⟨1,λn=>by rw[BX,h]⟩
theorem Fin.step (h:body s=some (.out o)):Fin body s o:=⟨1,λn=>by rw[BX,h]⟩
theorem Gv.fin (h:Gv body s t)(h':Fin body t o):Fin body s o:=by
 obtain⟨k,hk⟩:=h;obtain⟨j,hj⟩:=h';exact⟨j+k,λn=>by rw[← Nat.add_assoc,hk,hj]⟩
end
inductive Fo where
 | nil
 | cell (k:Option Ai) (c:Ac) (r:Fo)
 | node (k:Option Ai) (c:Ac) (kids r:Fo)
def Cj:Option Ai→List Ac
 | none=>[]
 | some s=>[⟨4,0,s,0⟩]
def Fo.flat:Fo→List Ac
 | .nil=>[]
 | .cell k c r=>Cj k++c::r.flat
 | .node k c kids r=>Cj k++c::(kids.flat++r.flat)
def Fo.cnt:Fo→Nat
 | .nil=>0
 | .cell _ _ r=>r.cnt+1
 | .node _ _ _ r=>r.cnt+1
def Dw (m:Bool)(last:Option Ai):Option Ai→Bool
 | none=>!m
 | some s=>m&&s.all okc&&(match last with
  | none=>true
  | some p=>!(DX s p||decide (s=p)))
def Fo.wf:Bool→Option Ai→Fo→Bool
 | _,_,.nil=>true
 | m,last,.cell k c r=>Dw m last k&&pl c&&!decide (0<c.fN)&&r.wf m k
 | m,last,.node k c kids r=>Dw m last k&&pl c&&decide (0<c.fN)&&decide (c.fN=kids.cnt)&&kids.wf (decide (c.fKind=6)) none&&r.wf m k
def NL (k:Option Ai)(sh:AR):AR:=match k with
 | none=>sh
 | some s=>shk sh ⟨4,0,s,0⟩
def Fo.sh (d:Nat):AR→Fo→AR
 | s,.nil=>s
 | s,.cell k c r=>r.sh d (Kd d (NL k s) c)
 | s,.node k c kids r=>r.sh d (kids.sh (d+1) (Kd d (NL k s) c))
def IQ (body:SD→Option (Stp SD LkO))(s:SD)(S:List AF)(i:Int)(sh:AR):Prop:=
 if NZ S=[] then Fin body s (.ret (i,sh,true)) else Gv body s ((NZ S).reverse,i,sh)
theorem IQ.of {body:SD→Option (Stp SD LkO)}{s t:SD}{S:List AF}{i:Int}{sh:AR}(h:Gv body s t)(h':IQ body t S i sh):IQ body s S i sh:=by
 unfold IQ at *
 split
 ·rename_i e;rw[Af6 e] at h';exact h.fin h'
 ·rename_i e;rw[Afz e] at h';exact h.trans h'
theorem IQ.pop {body:SD→Option (Stp SD LkO)}{s:SD}{e:AF}{S:List AF}{i:Int}{sh:AR}(h:IQ body s (e::S) i sh)(h1:e.fLeft=1):IQ body s S i sh:=by
 have:NZ (e::S)=NZ S:=by simp[NZ,h1]
 unfold IQ at *;rw[this] at h;exact h
theorem IQ.more {body:SD→Option (Stp SD LkO)}{s:SD}{e:AF}{S:List AF}{i:Int}{sh:AR}(h:IQ body s (e::S) i sh)(h1:1<e.fLeft):Gv body s ((⟨e.fPairs,e.fLeft-1,e.fPairs,e.fLast,e.fStarted⟩::S).reverse,i,sh):=by
 have:NZ (e::S)=⟨e.fPairs,e.fLeft-1,e.fPairs,e.fLast,e.fStarted⟩::S:=by simp[NZ,h1]
 unfold IQ at *;rw[this,Afz (by simp)] at h;exact h
structure WS (F M:Nat) (v:List Ac):Prop where
 hM:M≤1152921504606846976
 hM2:(M+2)*48≤140737488355328
 hv:v.length≤M
 hF:M<F
 hc:∀c∈v,c.fStr.length≤M∧BG .i64 c.fInt=true∧c.fN≤9223372036854775807
abbrev TM (F:Nat)(v:List Ac):SD→Option (Stp SD LkO):=λσ=>E6 F v σ.1 σ.2.1 σ.2.2
def EO (S:List AF):Prop:=∀e∈S,1≤e.fLeft∧e.fLeft≤9223372036854775807
section
variable {F M : Nat} {v : List Ac} {S : List AF} {i : Int} {sh : AR} {c : Ac} {r : List Ac} {e : AF}
theorem CB (h0:0≤i)(h:v.drop i.toNat=c::r):v[i.toNat]? =some c∧v.drop (i+1).toNat=r∧i<v.length:=by
 have h1:(v.drop i.toNat)[0]? =some c:=by rw[h];rfl
 have h2:v[i.toNat]? =some c:=by simpa using h1
 have h3:=(List.getElem?_eq_some_iff.1 h2).1;refine⟨h2,?_,by omega⟩;rw[show(i+1).toNat=i.toNat+1 from by omega,← List.drop_drop,h];rfl
theorem round (hA:WS F M v)(h0:0≤i)(h:v.drop i.toNat=c::r)(hS:(S.length:Int)≤i)(hb:EO S):TM F v (S.reverse,i,sh)=some (U9 v.length S i sh c):=by
 obtain⟨h1,_,h3⟩:=CB h0 h;obtain⟨a,b,_⟩:=hA.hc c (Afc h1);have:=hA.hv;exact Ta h0 h1 hA.hM hA.hM2 hA.hv (by omega) hA.hF a b hb
def HJ (e:AF):Option Ai→AF
 | none=>e
 | some s=>⟨e.fPairs,e.fLeft,false,s,true⟩
def K6 (e:AF):Option Ai→Prop
 | none=>e.fStarted=false
 | some p=>e.fStarted=true∧e.fLast=p
theorem PC (hA:WS F M v)(h0:0≤i){k last:Option Ai}(h:v.drop i.toNat=Cj k++r)(hS:(S.length:Int)+1≤i)(hb:EO (e::S))(hk:Dw e.fKey last k=true)(hl:K6 e last) :
  Gv (TM F v) ((e::S).reverse,i,sh) ((HJ e k::S).reverse,i+(Cj k).length,NL k sh):=by
 cases k with
 | none=>simpa[HJ,Cj,NL] using Gv.refl _
 | some s=>
  simp only[Dw,AeI] at hk;obtain⟨⟨hm,hok⟩,hcmp⟩:=hk;refine Gv.step ?_;rw[round hA h0 (by simpa[Cj] using h) (by simpa using hS) hb];have hp:pl ⟨4,0,s,0⟩=true:=by simp[pl,hok]
  have ht:(e.fStarted&&(DX s e.fLast||decide (s=e.fLast)))=false:=by
   cases last with
   | none=>simp only[K6] at hl;rw[hl];rfl
   | some p=>obtain⟨h1,h2⟩:=hl;rw[h1,h2];simpa using hcmp
  simp only[U9,hp,hm,ht,AeL,AeM,AeW,decide_true,AeY,Bool.or_self];rfl
theorem Nz {k last:Option Ai}(hk:Dw e.fKey last k=true):(HJ e k).fKey=false:=by
 cases k with
 | none=>simpa[HJ,Dw] using hk
 | some s=>rfl
theorem LM (k:Option Ai):(HJ e k).fLeft=e.fLeft∧(HJ e k).fPairs=e.fPairs:=by cases k<;>exact⟨rfl,rfl⟩
theorem Ny (hA:WS F M v)(h0:0≤i)(h:v.drop i.toNat=c::r)(hS:(S.length:Int)≤i)(hb:EO S)(hk:N0 S=false)(hp:pl c=true)(hn:decide (0<c.fN)=false) :
  IQ (TM F v) (S.reverse,i,sh) S (i+1) (Kd S.length sh c):=by
 have hr:=round (sh:=sh) hA h0 h hS hb;unfold IQ
 cases S with
 | nil=>
  rw[Af6 (by simp[NZ])];refine Fin.step ?_;rw[hr];simp[U9,hp,hn]
 | cons e S=>
  simp only[N0] at hk
  split
  ·rename_i hc
   refine Fin.step ?_;rw[hr];simp[U9,hp,hn,hk,hc]
  ·rename_i hc
   refine Gv.step ?_;rw[hr];simp[U9,hp,hn,hk,hc]
theorem KX (hA:WS F M v)(h0:0≤i)(h:v.drop i.toNat=c::r)(hS:(S.length:Int)≤i)(hb:EO S)(hk:N0 S=false)(hp:pl c=true)(hn:decide (0<c.fN)=true)(hv:c.fN≤v.length) :
  Gv (TM F v) (S.reverse,i,sh) ((⟨decide (c.fKind=6),c.fN,decide (c.fKind=6),[],false⟩::S).reverse,i+1,Kd S.length sh c):=by
 have hr:=round (sh:=sh) hA h0 h hS hb;have hv':decide ((v.length:Int)<c.fN)=false:=by simpa using hv
 refine Gv.step ?_;rw[hr]
 cases S with
 | nil=>simp only[U9,hp,hn,hv',AeL,AeM,AeW];rfl
 | cons e S=>
  simp only[N0] at hk;simp only[U9,hp,hn,hv',hk,AeL,AeM,AeW]
theorem CX:∀f:Fo,f.cnt≤f.flat.length
 | .nil=>Afm _
 | .cell k c r=>by have:=CX r;simp[Fo.cnt,Fo.flat];omega
 | .node k c kids r=>by have:=CX r;simp[Fo.cnt,Fo.flat];omega
theorem DT {α:Type}{v xs r:List α}{i:Int}(h0:0≤i)(h:v.drop i.toNat=xs++r):v.drop (i+xs.length).toNat=r:=by
 rw[show(i+(xs.length:Int)).toNat=i.toNat+xs.length from by omega,← List.drop_drop,h,List.drop_left]
theorem Tj (hA:WS F M v){e':AF}{s:SD}{k:Option Ai}{r':Fo}
  (ih:∀(e:AF) (S:List AF) (i:Int) (sh:AR) (last:Option Ai) (r:List Ac),1≤r'.cnt→r'.wf e.fPairs last=true→e.fKey=e.fPairs→e.fLeft=r'.cnt→K6 e last→(e.fPairs=false→last=none)→v.drop i.toNat=r'.flat++r→0≤i→(S.length:Int)+1≤i→EO S→
   IQ (TM F v) ((e::S).reverse,i,sh) S (i+r'.flat.length) (r'.sh (S.length+1) sh))
  (hd:IQ (TM F v) s (e'::S) i sh) (hl:e'.fLeft=r'.cnt+1) (hw:r'.wf e'.fPairs k=true) (hk:K6 e' k) (hm:e'.fPairs=false→k=none) (hv:v.drop i.toNat=r'.flat++r) (h0:0≤i) (hS:(S.length:Int)+1≤i) (hb:EO S) :
  IQ (TM F v) s S (i+r'.flat.length) (r'.sh (S.length+1) sh):=by
 by_cases h1:r'.cnt=0
 ·cases r' with
  | nil=>simpa[Fo.flat,Fo.sh] using hd.pop (by rw[hl];rfl)
  | cell _ _ _=>simp[Fo.cnt] at h1
  | node _ _ _ _=>simp[Fo.cnt] at h1
 ·have:=hd.more (by omega);refine IQ.of this (ih _ S i sh k r (by omega) hw rfl (by simp only;omega) ?_ hm hv h0 hS hb)
  cases k with
  | none=>exact hk
  | some p=>exact hk
theorem LN {k last:Option Ai}(hl:K6 e last)(hm:e.fPairs=false→last=none)(hk:Dw e.fPairs last k=true):K6 (HJ e k) k∧((HJ e k).fPairs=false→k=none):=by
 cases k with
 | none=>
  have:e.fPairs=false:=by simpa[Dw] using hk
  rw[hm this] at hl;exact⟨hl,λ_=>rfl⟩
 | some s=>
  refine⟨⟨rfl,rfl⟩,λh=>?_⟩;have h:e.fPairs=false:=h;simp[Dw,h] at hk
theorem NY (hA:WS F M v):∀(f:Fo) (e:AF) (S:List AF) (i:Int) (sh:AR) (last:Option Ai) (r:List Ac),1≤f.cnt→f.wf e.fPairs last=true→e.fKey=e.fPairs→e.fLeft=f.cnt→K6 e last→(e.fPairs=false→last=none)→v.drop i.toNat=f.flat++r→0≤i→(S.length:Int)+1≤i→EO S→
   IQ (TM F v) ((e::S).reverse,i,sh) S (i+f.flat.length) (f.sh (S.length+1) sh):=by
 have hmax:∀(i:Int) (xs:List Ac),0≤i→v.drop i.toNat=xs→xs.length≤v.length:=λi xs _ h=>by rw[← h,Af9];omega
 intro f
 induction f with
 | nil=>intro e S i sh last r h1;simp[Fo.cnt] at h1
 | cell k c r' ih=>
  intro e S i sh last r h1 hw hk hl hlo hm hv h0 hS hb;simp only[Fo.wf,AeI,Afe] at hw;obtain⟨⟨⟨w1,w2⟩,w3⟩,w4⟩:=hw;simp only[Fo.flat,Af2,Af3] at hv;have hcnt:=hmax i _ h0 hv;have hcf:=CX r';simp only[Afl,AeZ] at hcnt;have hvM:=hA.hv;have hMM:=hA.hM;simp only[Fo.cnt] at hl;have hb':EO (e::S):=λx hx=>by
   rcases List.mem_cons.1 hx with rfl | hx
   ·constructor<;>omega
   ·exact hb x hx
  have hkr:=PC (sh:=sh) hA h0 hv hS hb' (by rw[hk];exact w1) hlo;have hv1:=DT h0 hv;obtain⟨kl,kp⟩:=LM (e:=e) k;have hbk:EO (HJ e k::S):=λx hx=>by
   rcases List.mem_cons.1 hx with rfl | hx
   ·rw[kl];exact hb' e (by simp)
   ·exact hb x hx
  have hd:=Ny (sh:=NL k sh) hA (by omega) hv1 (by simp only[AeZ];omega) hbk (Nz (by rw[hk];exact w1)) w2 w3;obtain⟨q1,q2⟩:=LN hlo hm w1;have hv2:=(CB (by omega) hv1).2.1;have:=Tj hA ih (hd.of hkr) (by rw[kl,hl];rfl) (by rw[kp];exact w4) q1 q2 hv2 (by omega) (by omega) hb;simp only[Fo.flat,Fo.sh,Afl,AeZ];rw[show i+((((Cj k).length+(r'.flat.length+1):Nat)):Int)=i+(Cj k).length+1+r'.flat.length from by omega];exact this
 | node k c kids r' ihk ih=>
  intro e S i sh last r h1 hw hk hl hlo hm hv h0 hS hb;simp only[Fo.wf,AeI,AeH] at hw;obtain⟨⟨⟨⟨⟨w1,w2⟩,w3⟩,w5⟩,w6⟩,w4⟩:=hw;simp only[Fo.flat,Af2,Af3] at hv;have hcnt:=hmax i _ h0 hv;have hcf:=CX r';have hck:=CX kids;simp only[Afl,AeZ] at hcnt;have hvM:=hA.hv;have hMM:=hA.hM;simp only[Fo.cnt] at hl;have hb':EO (e::S):=λx hx=>by
   rcases List.mem_cons.1 hx with rfl | hx
   ·constructor<;>omega
   ·exact hb x hx
  have hkr:=PC (sh:=sh) hA h0 hv hS hb' (by rw[hk];exact w1) hlo;have hv1:=DT h0 hv;obtain⟨kl,kp⟩:=LM (e:=e) k;have hbk:EO (HJ e k::S):=λx hx=>by
   rcases List.mem_cons.1 hx with rfl | hx
   ·rw[kl];exact hb' e (by simp)
   ·exact hb x hx
  have hn:=KX (sh:=NL k sh) hA (by omega) hv1 (by simp only[AeZ];omega) hbk (Nz (by rw[hk];exact w1)) w2 (by simpa using w3) (by omega);have hv2:=(CB (by omega) hv1).2.1;have hd:=ihk ⟨decide (c.fKind=6),c.fN,decide (c.fKind=6),[],false⟩ (HJ e k::S) (i+(Cj k).length+1) (Kd (S.length+1) (NL k sh) c) none _ (by omega) w6 rfl w5 rfl (λ_=>rfl) hv2 (by omega) (by simp only[AeZ];omega) hbk;obtain⟨q1,q2⟩:=LN hlo hm w1;have hv3:=DT (by omega) hv2;have:=Tj hA ih ((hd.of hn).of hkr) (by rw[kl,hl];rfl) (by rw[kp];exact w4) q1 q2 hv3 (by omega) (by omega) hb;simp only[Fo.flat,Fo.sh,Afl,AeZ];rw[show i+((((Cj k).length+(kids.flat.length+r'.flat.length+1):Nat)):Int)=i+(Cj k).length+1+kids.flat.length+r'.flat.length from by omega];exact this
end
theorem TL {S O:Type}{body:S→Option (Stp S O)}{o:O}:∀{n:Nat} {s:S} (k:Nat),BX body n s=some o→BX body (n+k) s=some o
 | 0,s,k,h=>by cases h
 | n+1,s,k,h=>by
  rw[show n+1+k=n+k+1 from by omega,BX];rw[BX] at h
  cases hb:body s with
  | none=>rw[hb] at h;cases h
  | some t=>
   rw[hb] at h
   cases t with
   | next s'=>exact TL k h
   | out o'=>exact h
theorem Fin.eq {S O:Type}{body:S→Option (Stp S O)}{s:S}{o o':O}{n:Nat}(h:Fin body s o)(h':BX body n s=some o'):o'=o:=by
 obtain⟨k,hk⟩:=h;have:=TL k h';rw[hk n] at this;exact(Au this).symm
theorem Rn:∀{S:List AF},EO S→EO (NZ S)∧(NZ S).length≤S.length
 | [],h=>⟨h,Afm _⟩
 | e::S,h=>by
  have hS:EO S:=λx hx=>h x (by simp[hx]);have he:=h e (by simp);unfold NZ
  cases hd:decide (1<e.fLeft) with
  | true=>
   simp only[AeH] at hd;refine⟨λx hx=>?_,by simp⟩;rcases List.mem_cons.1 hx with rfl | hx
   ·simp only;omega
   ·exact hS x hx
  | false=>
   obtain⟨h1,h2⟩:=Rn hS;exact⟨h1,by simp only[AeM,AeZ];omega⟩
theorem Z3 {n:Int}{S:List AF}{i:Int}{sh:AR}{c:Ac}{σ:SD}(hb:EO S)(hS:(S.length:Int)≤i)(hN:c.fN≤9223372036854775807)(h:U9 n S i sh c = .next σ):∃S' sh',σ=(S'.reverse,i+1,sh')∧EO S'∧(S'.length:Int)≤i+1:=by
 unfold U9 at h
 cases hp:pl c with
 | false=>simp[hp] at h
 | true=>
  simp only[hp,AeL,AeM] at h
  cases S with
  | nil=>
   simp only at h
   cases hn:decide (0<c.fN) with
   | false=>simp[hn] at h
   | true=>
    simp only[hn,AeW] at h
    cases hm:decide (n<c.fN) with
    | true=>simp[hm] at h
    | false=>
     simp only[hm,AeM,Stp.next.injEq] at h;refine⟨[_],_,h.symm,λx hx=>?_,by simp at hS ⊢;omega⟩;simp only[Afo] at hx;subst hx;simp only[AeH] at hn;exact⟨by simp only;omega,hN⟩
  | cons e S=>
   have he:=hb e (by simp);have hbS:EO S:=λx hx=>hb x (by simp[hx]);simp only[AeZ] at hS
   cases hk:e.fKey with
   | true=>
    simp only[hk,AeW] at h
    cases hq:(!decide (c.fKind=4)||(e.fStarted&&(DX c.fStr e.fLast||decide (c.fStr=e.fLast)))) with
    | true=>rw[hq] at h;simp at h
    | false=>
     rw[hq] at h;simp only[AeM,Stp.next.injEq] at h;refine⟨_::S,_,h.symm,λx hx=>?_,by simp only[AeZ];omega⟩;rcases List.mem_cons.1 hx with rfl | hx
     ·exact he
     ·exact hbS x hx
   | false=>
    simp only[hk,AeM] at h
    cases hn:decide (0<c.fN) with
    | true=>
     simp only[hn,AeW] at h
     cases hm:decide (n<c.fN) with
     | true=>simp[hm] at h
     | false=>
      simp only[hm,AeM,Stp.next.injEq] at h;refine⟨_::e::S,_,h.symm,λx hx=>?_,by simp only[AeZ];omega⟩;rcases List.mem_cons.1 hx with rfl | hx
      ·simp only[AeH] at hn;exact⟨by simp only;omega,hN⟩
      ·exact hb x hx
    | false=>
     simp only[hn,AeM] at h
     cases hq:decide (NZ (e::S)=[]) with
     | true=>rw[hq] at h;simp at h
     | false=>
      rw[hq] at h;simp only[AeM,Stp.next.injEq] at h;obtain⟨h1,h2⟩:=Rn hb;simp only[AeZ] at h2;exact⟨_,_,h.symm,h1,by omega⟩
theorem PA {F M:Nat}{v:List Ac}(hA:WS F M v):∃o,BX (TM F v) F (([]:List AF),0,(⟨0,0,false,false⟩:AR))=some o∧True:=by
 refine KZ (λσ=>∃S i sh,σ=(S.reverse,i,sh)∧EO S∧(S.length:Int)≤i∧0≤i∧i≤v.length) (λσ=>v.length-σ.2.1.toNat) (λ_=>True) (λσ hI=>?_) F _ ⟨[],0,_,rfl,(λx hx=>by cases hx),Afx _,Afx _,by omega⟩ (by have:=hA.hv;have:=hA.hF;simp;omega);obtain⟨S,i,sh,rfl,hb,hS,h0,hi⟩:=hI
 by_cases hx:i<v.length
 ·obtain⟨c,hc⟩:∃c,v[i.toNat]? =some c:=⟨v[i.toNat]'(by omega),AeN (by omega)⟩
  have hdr:v.drop i.toNat=c::v.drop (i.toNat+1):=by rw[List.drop_eq_getElem_cons (by omega)];congr 1;exact(List.getElem?_eq_some_iff.1 hc).2
  have hr:=round (sh:=sh) hA h0 hdr hS hb
  cases hl:U9 v.length S i sh c with
  | next τ=>
   obtain⟨S',sh',rfl,h1,h2⟩:=Z3 hb hS (hA.hc c (Afc hc)).2.2 hl;exact .inl ⟨_,by rw[hr,hl],⟨S',i+1,sh',rfl,h1,h2,by omega,by omega⟩,by simp only;omega⟩
  | out o=>exact .inr ⟨o,by rw[hr,hl],trivial⟩
 ·refine .inr ⟨.go sh,?_,trivial⟩;show E6 F v S.reverse i sh=_;unfold E6;rw[Bd (by simpa using hx)]
def Fo.one:Fo→Bool
 | .cell none _ .nil=>true
 | .node none _ _ .nil=>true
 | _=>false
def Qc:AR:=⟨0,0,false,false⟩
theorem Z2 {F M:Nat}{v:List Ac}(hA:WS F M v){f:Fo}(h1:f.one=true)(hw:f.wf false none=true){r:List Ac}(hv:v=f.flat++r):Fin (TM F v) ([],0,Qc) (.ret (f.flat.length,f.sh 0 Qc,true)):=by
 have h0:v.drop (0:Int).toNat=f.flat++r:=by rw[hv];rfl
 have hlen:f.flat.length≤v.length:=by rw[hv];simp
 cases f with
 | nil=>cases h1
 | cell k c r'=>
  cases k with
  | some s=>cases h1
  | none=>
   cases r' with
   | nil=>
    simp only[Fo.wf,AeI,Afe] at hw;have:=Ny (S:=[]) (sh:=Qc) hA (Afx 0) h0 (by simp) (λx hx=>by cases hx) rfl hw.1.1.2 hw.1.2;unfold IQ at this;rw[Af6 (show NZ []=[] from rfl)] at this;simpa[Fo.flat,Fo.sh,Cj,NL] using this
   | cell _ _ _=>cases h1
   | node _ _ _ _=>cases h1
 | node k c kids r'=>
  cases k with
  | some s=>cases h1
  | none=>
   cases r' with
   | nil=>
    simp only[Fo.wf,AeI,AeH] at hw;obtain⟨⟨⟨⟨⟨w1,w2⟩,w3⟩,w5⟩,w6⟩,w4⟩:=hw;have hck:=CX kids;simp only[Fo.flat,Cj,AfF,AfD,AeZ] at hlen;have hvM:=hA.hv;have hMM:=hA.hM;have hn:=KX (S:=[]) (sh:=Qc) hA (Afx 0) h0 (by simp) (λx hx=>by cases hx) rfl w2 (by simpa using w3) (by omega);have hv2:=(CB (Afx 0) h0).2.1;have hd:=NY hA kids ⟨decide (c.fKind=6),c.fN,decide (c.fKind=6),[],false⟩ [] (0+1) (Kd 0 Qc c) none r (by omega) w6 rfl w5 rfl (λ_=>rfl) (by rw[hv2];simp[Fo.flat]) (by omega) (by simp) (λx hx=>by cases hx);unfold IQ at hd;rw[Af6 (show NZ []=[] from rfl)] at hd;have:=hn.fin hd;have e:((0:Int)+1+kids.flat.length)=((Fo.node none c kids .nil).flat.length:Int):=by simp[Fo.flat,Cj];omega
    rw[e] at this;exact this
   | cell _ _ _=>cases h1
   | node _ _ _ _=>cases h1
theorem Z1 {F M:Nat}{v:List Ac}(hA:WS F M v){f:Fo}(h1:f.one=true)(hw:f.wf false none=true){r:List Ac}(hv:v=f.flat++r):Kn F v=some ((f.flat.length:Int),f.sh 0 Qc,true):=by
 obtain⟨o,ho,_⟩:=PA hA;have e:=(Z2 hA h1 hw hv).eq ho;subst e;unfold Kn;rw[Ct ho];rfl
def JH (m:Bool)(last:Option Ai)(xs:List Ac):Option (Option Ai×List Ac):=
 bif m then match xs with
  | []=>none
  | c::r=>bif pl c&&decide (c.fKind=4)&&Dw true last (some c.fStr) then some (some c.fStr,r) else none
 else some (none,xs)
def J0:Nat→Bool→Option Ai→Nat→List Ac→Option (Fo×List Ac)
 | 0,_,_,_,_=>none
 | _+1,_,_,0,xs=>some (.nil,xs)
 | F+1,m,last,k+1,xs=>
  match JH m last xs with
  | none=>none
  | some (_,[])=>none
  | some (key,c::xs')=>
   bif !pl c then none else
   bif decide (0<c.fN) then
    match J0 F (decide (c.fKind=6)) none c.fN.toNat xs' with
    | none=>none
    | some (kids,ys)=>match J0 F m key k ys with
     | none=>none
     | some (r,zs)=>some (.node key c kids r,zs)
   else match J0 F m key k xs' with
    | none=>none
    | some (r,zs)=>some (.cell key c r,zs)
theorem RK {c:Ac}(hp:pl c=true)(hk:c.fKind=4):c=⟨4,0,c.fStr,0⟩∧c.fStr.all okc=true:=by
 cases c
 simp only at hk;subst hk;simp[pl] at hp;obtain⟨h1,h2,h3⟩:=hp;subst h1;subst h2;exact⟨rfl,by simpa using h3⟩
theorem Oz {m:Bool}{last key:Option Ai}{xs r:List Ac}(h:JH m last xs=some (key,r)):xs=Cj key++r∧Dw m last key=true:=by
 unfold JH at h
 cases m with
 | false=>cases h;exact⟨rfl,rfl⟩
 | true=>
  simp only[AeW] at h
  cases xs with
  | nil=>cases h
  | cons c r'=>
   simp only at h
   cases hb:(pl c&&decide (c.fKind=4)&&Dw true last (some c.fStr)) with
   | false=>rw[hb] at h;cases h
   | true=>
    rw[hb] at h;simp only[AeI,AeH] at hb
    cases h
    exact⟨by rw[(RK hb.1.1 hb.1.2).1];rfl,hb.2⟩
theorem IK:∀(F:Nat) (m:Bool) (last:Option Ai) (k:Nat) (xs:List Ac) (f:Fo) (ys:List Ac),J0 F m last k xs=some (f,ys)→xs=f.flat++ys∧f.wf m last=true∧f.cnt=k
 | 0,_,_,_,_,_,_,h=>by cases h
 | F+1,m,last,0,xs,f,ys,h=>by cases h;exact⟨rfl,rfl,rfl⟩
 | F+1,m,last,k+1,xs,f,ys,h=>by
  rw[J0] at h
  cases hk:JH m last xs with
  | none=>rw[hk] at h;cases h
  | some p=>
   obtain⟨key,r⟩:=p;obtain⟨h1,h2⟩:=Oz hk;rw[hk] at h
   cases r with
   | nil=>cases h
   | cons c xs'=>
    simp only at h
    cases hp:pl c with
    | false=>rw[hp] at h;cases h
    | true=>
     rw[hp] at h;simp only[AeL,AeM] at h
     cases hn:decide (0<c.fN) with
     | true=>
      rw[hn] at h;simp only[AeW] at h
      cases hq:J0 F (decide (c.fKind=6)) none c.fN.toNat xs' with
      | none=>rw[hq] at h;cases h
      | some q=>
       obtain⟨kids,zs⟩:=q;rw[hq] at h;simp only at h
       cases hr:J0 F m key k zs with
       | none=>rw[hr] at h;cases h
       | some q2=>
        obtain⟨r2,us⟩:=q2;rw[hr] at h;cases h;obtain⟨a1,a2,a3⟩:=IK F _ _ _ _ _ _ hq;obtain⟨b1,b2,b3⟩:=IK F _ _ _ _ _ _ hr;refine⟨by rw[h1,a1,b1];simp[Fo.flat],?_,by simp[Fo.cnt,b3]⟩;simp only[AeH] at hn;simp only[Fo.wf,h2,hp,a2,b2,AeX,AeP,AeI,AeH];omega
     | false=>
      rw[hn] at h;simp only[AeM] at h
      cases hr:J0 F m key k xs' with
      | none=>rw[hr] at h;cases h
      | some q2=>
       obtain⟨r2,us⟩:=q2;rw[hr] at h;cases h;obtain⟨b1,b2,b3⟩:=IK F _ _ _ _ _ _ hr;exact⟨by rw[h1,b1];simp[Fo.flat],by simp[Fo.wf,h2,hp,b2,hn],by simp[Fo.cnt,b3]⟩
theorem Jg:∀(F F':Nat) (m:Bool) (last:Option Ai) (k:Nat) (xs:List Ac),xs.length<F→xs.length<F'→J0 F m last k xs=J0 F' m last k xs
 | 0,_,_,_,_,_,h,_=>by omega
 | _+1,0,_,_,_,_,_,h=>by omega
 | F+1,F'+1,m,last,0,xs,_,_=>rfl
 | F+1,F'+1,m,last,k+1,xs,h,h'=>by
  rw[J0,J0]
  cases hk:JH m last xs with
  | none=>rfl
  | some p=>
   obtain⟨key,r⟩:=p;obtain⟨h1,h2⟩:=Oz hk
   cases r with
   | nil=>rfl
   | cons c xs'=>
    have hl:xs'.length<xs.length:=by rw[h1];simp;omega
    simp only
    cases hp:pl c with
    | false=>rfl
    | true=>
     simp only[AeL,AeM]
     cases hn:decide (0<c.fN) with
     | true=>
      simp only[AeW];rw[Jg F F' _ _ _ xs' (by omega) (by omega)]
      cases hq:J0 F' (decide (c.fKind=6)) none c.fN.toNat xs' with
      | none=>rfl
      | some q=>
       obtain⟨kids,zs⟩:=q;have:=(IK _ _ _ _ _ _ _ hq).1;have hz:zs.length≤xs'.length:=by rw[this];simp
       simp only;rw[Jg F F' m key k zs (by omega) (by omega)]
     | false=>
      simp only[AeM];rw[Jg F F' m key k xs' (by omega) (by omega)]
def VF {S:Type}(body:S→Option (Stp S LkO))(s:S):Prop:=∃sh',Fin body s (.ret (0,sh',false))∨Fin body s (.go sh')
theorem Gv.bad {S:Type}{body:S→Option (Stp S LkO)}{s t:S}(h:Gv body s t)(h':VF body t):VF body s:=by
 obtain⟨sh',h' | h'⟩:=h'
 ·exact⟨sh',.inl (h.fin h')⟩
 ·exact⟨sh',.inr (h.fin h')⟩
section
variable {F M : Nat} {v : List Ac}
theorem VF.end_ {S:List AF}{i:Int}{sh:AR}(h0:0≤i)(h:v.drop i.toNat=[]):VF (TM F v) (S.reverse,i,sh):=by
 refine⟨sh,.inr (Fin.step ?_)⟩;show E6 F v S.reverse i sh=_;unfold E6;rw[Bd];have:v.length≤i.toNat:=by simpa using h
 simp;omega
theorem VF.pl_ (hA:WS F M v){S:List AF}{i:Int}{sh:AR}{c:Ac}{r:List Ac}(h0:0≤i)(h:v.drop i.toNat=c::r)(hS:(S.length:Int)≤i)(hb:EO S)(hp:pl c=false):VF (TM F v) (S.reverse,i,sh):=by
 refine⟨sh,.inl (Fin.step ?_)⟩;rw[round hA h0 h hS hb];simp[U9,hp]
theorem V3 (hA:WS F M v):∀(P:Nat) (k:Nat) (e:AF) (S:List AF) (i:Int) (sh:AR) (last:Option Ai) (xs:List Ac),xs.length<P→J0 P e.fPairs last (k+1) xs=none→e.fKey=e.fPairs→e.fLeft=(k:Int)+1→(k:Int)+1≤9223372036854775807→K6 e last→(e.fPairs=false→last=none)→v.drop i.toNat=xs→0≤i→(S.length:Int)+1≤i→EO S→
  VF (TM F v) ((e::S).reverse,i,sh):=by
 intro P
 induction P with
 | zero=>intro k e S i sh last xs h;omega
 | succ P ih=>
  intro k e S i sh last xs hP hn hk hl hkm hlo hm hv h0 hS hb;have hb':EO (e::S):=λx hx=>by
   rcases List.mem_cons.1 hx with rfl | hx
   ·constructor<;>omega
   ·exact hb x hx
  rw[J0] at hn
  cases hq:JH e.fPairs last xs with
  | none=>
   unfold JH at hq
   cases hpr:e.fPairs with
   | false=>rw[hpr] at hq;cases hq
   | true=>
    rw[hpr] at hq hk;simp only[AeW] at hq
    cases xs with
    | nil=>exact VF.end_ h0 hv
    | cons c r=>
     simp only at hq
     cases hp:pl c with
     | false=>exact VF.pl_ hA h0 hv (by simpa using hS) hb' hp
     | true=>
      refine⟨sh,.inl (Fin.step ?_)⟩;rw[round hA h0 hv (by simpa using hS) hb'];have ht:(!decide (c.fKind=4)||(e.fStarted&&(DX c.fStr e.fLast||decide (c.fStr=e.fLast))))=true:=by
       rw[hp] at hq
       cases h4:decide (c.fKind=4) with
       | false=>rfl
       | true=>
        rw[h4] at hq;simp only[Bool.and_self,AeP] at hq;have hok:=(RK hp (by simpa using h4)).2
        cases last with
        | none=>simp[Dw,hok] at hq
        | some p=>
         obtain⟨q1,q2⟩:=hlo;rw[q1,q2]
         cases hc:(DX c.fStr p||decide (c.fStr=p)) with
         | true=>rfl
         | false=>simp[Dw,hok,hc] at hq
      simp only[U9,hp,hk,ht,AeL,AeM,AeW]
  | some q=>
   obtain⟨key,r⟩:=q;obtain⟨h1,h2⟩:=Oz hq;rw[hq] at hn;have hkr:=PC (sh:=sh) hA h0 (by rw[hv];exact h1) hS hb' (by rw[hk];exact h2) hlo;have hv1:=DT h0 (hv.trans h1);obtain⟨kl,kp⟩:=LM (e:=e) key;obtain⟨q1,q2⟩:=LN hlo hm h2;have hbk:EO (HJ e key::S):=λx hx=>by
    rcases List.mem_cons.1 hx with rfl | hx
    ·rw[kl];exact hb' e (by simp)
    ·exact hb x hx
   refine hkr.bad ?_
   cases r with
   | nil=>exact VF.end_ (by omega) hv1
   | cons c xs'=>
    have hlen:xs'.length+1≤xs.length:=by rw[h1];simp
    have hvl:xs.length≤v.length:=by rw[← hv,Af9];omega
    have hvM:=hA.hv;have hMM:=hA.hM;have hkk:=Nz (e:=e) (last:=last) (k:=key) (by rw[hk];exact h2);simp only at hn;have hSk:(((HJ e key::S).length:Nat):Int)≤i+(Cj key).length:=by simp only[AeZ];omega
    cases hp:pl c with
    | false=>exact VF.pl_ hA (by omega) hv1 hSk hbk hp
    | true=>
     rw[hp] at hn;simp only[AeL,AeM] at hn;obtain⟨g1,g2,g3⟩:=CB (by omega) hv1;have hcN:=(hA.hc c (Afc g1)).2.2;have more:∀(s:SD) (j:Int) (sh':AR) (zs:List Ac),IQ (TM F v) s (HJ e key::S) j sh'→v.drop j.toNat=zs→zs.length<P→0≤j→(S.length:Int)+1≤j→J0 P e.fPairs key k zs=none→VF (TM F v) s:=λs j sh' zs hd hz hzl hj hSj hnone=>by
      cases k with
      | zero=>
       cases P with
       | zero=>omega
       | succ P=>cases hnone
      | succ k=>
       have:=hd.more (by rw[kl];omega);refine this.bad (ih k _ S j sh' key zs hzl (by rw[kp];exact hnone) rfl (by simp only[kl];omega) (by omega) ?_ (by simpa using q2) hz hj hSj hb)
       cases key with
       | none=>exact q1
       | some p=>exact q1
     cases hN:decide (0<c.fN) with
     | true=>
      rw[hN] at hn;simp only[AeW] at hn;simp only[AeH] at hN
      by_cases hbig:c.fN≤v.length
      ·have hnd:=KX (sh:=NL key sh) hA (by omega) hv1 hSk hbk (by simpa[N0] using hkk) hp (by simpa using hN) hbig;refine hnd.bad ?_
       cases hks:J0 P (decide (c.fKind=6)) none c.fN.toNat xs' with
       | none=>
        obtain⟨n',hn'⟩:∃n',c.fN.toNat=n'+1:=⟨c.fN.toNat-1,by omega⟩
        rw[hn'] at hks;exact ih n' _ _ _ _ none xs' (by omega) hks rfl (by simp only;omega) (by omega) rfl (λ_=>rfl) g2 (by omega) (by simp only[AeZ];omega) hbk
       | some q=>
        obtain⟨kids,zs⟩:=q;rw[hks] at hn;simp only at hn;have hn2:J0 P e.fPairs key k zs=none:=by
         cases hz:J0 P e.fPairs key k zs with
         | none=>rfl
         | some q=>rw[hz] at hn;cases hn
        obtain⟨a1,a2,a3⟩:=IK _ _ _ _ _ _ _ hks;have hd:=NY hA kids ⟨decide (c.fKind=6),c.fN,decide (c.fKind=6),[],false⟩ (HJ e key::S) (i+(Cj key).length+1) (Kd (S.length+1) (NL key sh) c) none zs (by omega) a2 rfl (by simp only;omega) rfl (λ_=>rfl) (by rw[g2];exact a1) (by omega) (by simp only[AeZ];omega) hbk;have hz:v.drop (i+(Cj key).length+1+kids.flat.length).toNat=zs:=DT (by omega) (g2.trans a1);have hzl:zs.length≤xs'.length:=by rw[a1];simp
        exact more _ _ _ zs hd hz (by omega) (by omega) (by omega) hn2
      ·refine⟨Kd (HJ e key::S).length (NL key sh) c,.inl (Fin.step ?_)⟩;rw[round hA (by omega) hv1 hSk hbk];have hbig':decide ((v.length:Int)<c.fN)=true:=by simpa using hbig
       simp only[U9,hp,hkk,hbig',hN,AeL,AeM,AeW,decide_true]
     | false=>
      rw[hN] at hn;simp only[AeM] at hn;have hn2:J0 P e.fPairs key k xs'=none:=by
       cases hz:J0 P e.fPairs key k xs' with
       | none=>rfl
       | some q=>rw[hz] at hn;cases hn
      have hd:=Ny (sh:=NL key sh) hA (by omega) hv1 hSk hbk (by simpa[N0] using hkk) hp hN;exact more _ _ _ xs' hd g2 (by omega) (by omega) (by omega) hn2
def Ji (xs:List Ac):Option (Fo×List Ac):=J0 (xs.length+1) false none 1 xs
theorem Wd {P:Nat}{xs ys:List Ac}{f:Fo}(h:J0 P false none 1 xs=some (f,ys)):f.one=true:=by
 obtain⟨h1,h2,h3⟩:=IK _ _ _ _ _ _ _ h
 cases f with
 | nil=>cases h3
 | cell k c r=>
  cases r with
  | nil=>
   cases k with
   | none=>rfl
   | some s=>simp[Fo.wf,Dw] at h2
  | cell _ _ _=>simp[Fo.cnt] at h3
  | node _ _ _ _=>simp[Fo.cnt] at h3
 | node k c kids r=>
  cases r with
  | nil=>
   cases k with
   | none=>rfl
   | some s=>simp[Fo.wf,Dw] at h2
  | cell _ _ _=>simp[Fo.cnt] at h3
  | node _ _ _ _=>simp[Fo.cnt] at h3
theorem XK (hA:WS F M v)(h:Ji v=none):VF (TM F v) ([],0,Qc):=by
 have hlf:EO []:=λx hx=>by cases hx
 unfold Ji at h;rw[J0] at h;simp only[JH,AeM] at h
 cases v with
 | nil=>exact VF.end_ (S:=[]) (Afx 0) rfl
 | cons c xs'=>
  have hv1:(c::xs').drop (0:Int).toNat=c::xs':=rfl;have hvM:=hA.hv;have hMM:=hA.hM;simp only at h
  cases hp:pl c with
  | false=>exact VF.pl_ (S:=[]) hA (Afx 0) hv1 (by simp) hlf hp
  | true=>
   rw[hp] at h;simp only[AeL,AeM] at h;have hcN:=(hA.hc c (by simp)).2.2
   cases hN:decide (0<c.fN) with
   | true=>
    rw[hN] at h;simp only[AeW] at h;simp only[AeH] at hN
    by_cases hbig:c.fN≤(c::xs').length
    ·have hnd:=KX (S:=[]) (sh:=Qc) hA (Afx 0) hv1 (by simp) hlf rfl hp (by simpa using hN) hbig;refine hnd.bad ?_
     cases hks:J0 (c::xs').length (decide (c.fKind=6)) none c.fN.toNat xs' with
     | none=>
      obtain⟨n',hn'⟩:∃n',c.fN.toNat=n'+1:=⟨c.fN.toNat-1,by omega⟩
      rw[hn'] at hks;exact V3 hA (c::xs').length n' ⟨decide (c.fKind=6),c.fN,decide (c.fKind=6),[],false⟩ [] (0+1) _ none xs' (by simp) hks rfl (by simp only;omega) (by omega) rfl (λ_=>rfl) rfl (by omega) (by simp) hlf
     | some q=>rw[hks] at h;cases h
    ·refine⟨Kd 0 Qc c,.inl (Fin.step ?_)⟩;rw[show TM F (c::xs') (([]:List AF),0,Qc)=_ from round (S:=[]) hA (Afx 0) hv1 (by simp) hlf];have hbig':decide (((c::xs').length:Int)<c.fN)=true:=by simpa using hbig
     simp only[U9,hp,hbig',hN,AeL,AeM,AeW,decide_true]
   | false=>rw[hN] at h;cases h
theorem Abl (hA:WS F M v):(∃f ys,Ji v=some (f,ys)∧Kn F v=some ((f.flat.length:Int),f.sh 0 Qc,true))∨(Ji v=none∧∃sh',Kn F v=some (0,sh',false)):=by
 cases h:Ji v with
 | some q=>
  obtain⟨f,ys⟩:=q;obtain⟨h1,h2,h3⟩:=IK _ _ _ _ _ _ _ h;exact .inl ⟨f,ys,rfl,Z1 hA (Wd h) h2 h1⟩
 | none=>
  refine .inr ⟨rfl,?_⟩;obtain⟨o,ho,_⟩:=PA hA;obtain⟨sh',hb | hb⟩:=XK hA h
  ·have e:=hb.eq ho;subst e;exact⟨sh',by unfold Kn;rw[Ct ho];rfl⟩
  ·have e:=hb.eq ho;subst e;exact⟨sh',by unfold Kn;rw[Ct ho];rfl⟩
end
theorem KN {x:Int}(h : -9223372036854775808≤x)(h':x≤9223372036854775807):IntKind.wrap .i64 x=x:=by
 simp only[IntKind.wrap,IntKind.bits,IntKind.signed];simp;omega
def Fo.dep:Fo→Nat
 | .nil=>0
 | .cell _ _ r=>max 1 r.dep
 | .node _ _ kids r=>max (kids.dep+1) r.dep
theorem HU (k:Option Ai)(s:AR):(NL k s).fDepth=s.fDepth∧(NL k s).fOutside=s.fOutside∧(NL k s).fLong=(s.fLong||(Cj k).any λc=>decide (200<(c.fStr.length:Int))):=by
 cases k with
 | none=>simp[NL,Cj]
 | some x=>simp[NL,shk,Cj]
theorem Mo:∀(f:Fo) (d:Nat) (s:AR),(d:Int)≤s.fDepth→(f.sh d s).fDepth=max s.fDepth ((d:Int)+f.dep)
 | .nil,d,s,h=>by simp only[Fo.sh,Fo.dep];omega
 | .cell k c r,d,s,h=>by
  have hk:=(HU k s).1;have e:(Kd d (NL k s) c).fDepth=max s.fDepth ((d:Int)+1):=by rw[Kd,hk]
  rw[Fo.sh,Mo r d _ (by rw[e];omega),e,Fo.dep];omega
 | .node k c kids r,d,s,h=>by
  have hk:=(HU k s).1;have e:(Kd d (NL k s) c).fDepth=max s.fDepth ((d:Int)+1):=by rw[Kd,hk]
  have e2:=Mo kids (d+1) (Kd d (NL k s) c) (by rw[e];omega);rw[e] at e2;rw[Fo.sh,Mo r d _ (by rw[e2];omega),e2,Fo.dep];omega
def Lr (c:Ac):Bool:=decide (c.fKind=3)&&!(decide ((-1000000000000)≤c.fInt)&&decide (c.fInt≤1000000000000))
def JV (c:Ac):Bool:=decide (200<(c.fStr.length:Int))
theorem TO (k:Option Ai):(Cj k).any Lr=false:=by cases k<;>simp[Cj,Lr]
theorem R6:∀(f:Fo) (d:Nat) (s:AR),(f.sh d s).fOutside=(s.fOutside||f.flat.any Lr)
 | .nil,d,s=>by simp[Fo.sh,Fo.flat]
 | .cell k c r,d,s=>by
  rw[Fo.sh,R6 r,Kd,(HU k s).2.1];simp only[Fo.flat,List.any_append,List.any_cons,TO,AeS,Bool.or_assoc];rfl
 | .node k c kids r,d,s=>by
  rw[Fo.sh,R6 r,R6 kids,Kd,(HU k s).2.1];simp only[Fo.flat,List.any_append,List.any_cons,TO,AeS,Bool.or_assoc];rfl
theorem Ou:∀(f:Fo) (d:Nat) (s:AR),(f.sh d s).fLong=(s.fLong||f.flat.any JV)
 | .nil,d,s=>by simp[Fo.sh,Fo.flat]
 | .cell k c r,d,s=>by
  rw[Fo.sh,Ou r,Kd,(HU k s).2.2];simp only[Fo.flat,List.any_append,List.any_cons,Bool.or_assoc];rfl
 | .node k c kids r,d,s=>by
  rw[Fo.sh,Ou r,Ou kids,Kd,(HU k s).2.2];simp only[Fo.flat,List.any_append,List.any_cons,Bool.or_assoc];rfl
def lsz (c:Ac):Int:=
 bif decide (c.fKind=1) then 4 else bif decide (c.fKind=2) then 5-c.fInt else bif decide (c.fKind=3) then((Lib.itoa c.fInt).length:Int) else
 bif decide (c.fKind=4) then Nm c.fStr else 2
def Sb:Option Ai→Int
 | none=>0
 | some s=>Nm s+1
def Fo.byt:Fo→Int
 | .nil=>0
 | .cell k c r=>Sb k+lsz c+r.byt
 | .node k c kids r=>Sb k+(c.fN+1)+kids.byt+r.byt
theorem Pt (s:Ai):2≤Nm s:=by unfold Nm;omega
theorem O7 (k:Option Ai):0≤Sb k:=by
 cases k with
 | none=>exact Afx 0
 | some s=>have:=Pt s;simp only[Sb];omega
theorem Wt {c:Ac}(hp:pl c=true):0≤lsz c:=by
 unfold lsz
 cases h1:decide (c.fKind=1) with
 | true=>simp
 | false=>
  cases h2:decide (c.fKind=2) with
  | true=>
   simp[pl,h1,h2] at hp;simp only[AeM,AeW];omega
  | false=>
   cases h3:decide (c.fKind=3) with
   | true=>simp
   | false=>
    cases h4:decide (c.fKind=4) with
    | true=>have:=Pt c.fStr;simp only[AeM,AeW];omega
    | false=>simp
theorem AaQ {c:Ac}(hp:pl c=true):0≤c.fN:=by
 simp only[pl,← Bool.decide_or] at hp
 cases h1:decide (c.fKind=1)<;>cases h2:decide (c.fKind=2)<;>cases h3:decide (c.fKind=3)<;>cases h4:decide (c.fKind=4)<;>cases h5:decide (c.fKind=5)<;>cases h6:decide (c.fKind=6)<;>simp[h1,h2,h3,h4,h5,h6] at hp<;>omega
theorem M1 {c:Ac}(hp:pl c=true)(hn:0<c.fN):(c.fKind=5∨c.fKind=6)∧c.fInt=0∧c.fStr=[]:=by
 cases h1:decide (c.fKind=1)<;>cases h2:decide (c.fKind=2)<;>cases h3:decide (c.fKind=3)<;>cases h4:decide (c.fKind=4)<;>cases h5:decide (c.fKind=5)<;>cases h6:decide (c.fKind=6)<;>simp[pl,h1,h2,h3,h4,h5,h6] at hp<;>(simp only[AeH,AeG] at *;first | omega | exact⟨by omega,hp.1,hp.2.1⟩)
theorem Y4 {c:Ac}(hp:pl c=true)(hn:decide (0<c.fN)=false):szc c=lsz c:=by
 have hN:=AaQ hp;have h0:c.fN=0:=by simp only[AeG] at hn;omega
 unfold szc lsz;rw[h0]
 cases h1:decide (c.fKind=1) with
 | true=>rfl
 | false=>
  cases h2:decide (c.fKind=2) with
  | true=>
   simp[pl,h1,h2] at hp;simp only[AeM,AeW];exact KN (by omega) (by omega)
  | false=>rfl
theorem Y3 {c:Ac}(hp:pl c=true)(hn:0<c.fN)(hm:c.fN≤9223372036854775000):szc c=c.fN+1:=by
 obtain⟨hk,_,_⟩:=M1 hp hn;unfold szc;rw[AeJ (by omega),AeJ (by omega),AeJ (by omega),AeJ (by omega)];simp only[AeM];rw[KN (x:=c.fN-1) (by omega) (by omega),KN (by omega) (by omega)];omega
theorem JP:∀{f:Fo} {m:Bool} {l:Option Ai},f.wf m l=true→0≤f.byt
 | .nil,_,_,_=>Afx 0
 | .cell k c r,m,l,h=>by
  simp only[Fo.wf,AeI] at h;have h1:=JP h.2;have h2:=Wt h.1.1.2;have h3:=O7 k;simp only[Fo.byt];omega
 | .node k c kids r,m,l,h=>by
  simp only[Fo.wf,AeI,AeH] at h;have h1:=JP h.2;have h2:=JP h.1.2;have h3:=O7 k;simp only[Fo.byt];omega
theorem QF (k:Option Ai)(s:AR)(h0:0≤s.fBytes)(h:s.fBytes+Sb k≤9223372036854775807):(NL k s).fBytes=s.fBytes+Sb k:=by
 cases k with
 | none=>simp[NL,Sb]
 | some x=>
  have:=Pt x;simp only[Sb] at h;simp only[NL,shk,Sb];exact KN (by omega) (by omega)
theorem Mp:∀(f:Fo) (m:Bool) (l:Option Ai) (d:Nat) (s:AR),f.wf m l=true→0≤s.fBytes→s.fBytes+f.byt≤9223372036854775000→(f.sh d s).fBytes=s.fBytes+f.byt
 | .nil,_,_,d,s,_,_,_=>by simp[Fo.sh,Fo.byt]
 | .cell k c r,m,l,d,s,hw,h0,h=>by
  simp only[Fo.wf,AeI,Afe] at hw;obtain⟨⟨⟨w1,w2⟩,w3⟩,w4⟩:=hw;have h1:=JP w4;have h2:=Wt w2;have h3:=O7 k;simp only[Fo.byt] at h;have e1:=QF k s h0 (by omega);have e:(Kd d (NL k s) c).fBytes=s.fBytes+Sb k+lsz c:=by
   rw[Kd,e1,Y4 w2 w3];exact KN (by omega) (by omega)
  rw[Fo.sh,Mp r _ _ d _ w4 (by rw[e];omega) (by rw[e];omega),e,Fo.byt];omega
 | .node k c kids r,m,l,d,s,hw,h0,h=>by
  simp only[Fo.wf,AeI,AeH] at hw;obtain⟨⟨⟨⟨⟨w1,w2⟩,w3⟩,w5⟩,w6⟩,w4⟩:=hw;have h1:=JP w4;have h2:=JP w6;have h3:=O7 k;simp only[Fo.byt] at h;have e1:=QF k s h0 (by omega);have e:(Kd d (NL k s) c).fBytes=s.fBytes+Sb k+(c.fN+1):=by
   rw[Kd,e1,Y3 w2 w3 (by omega)];exact KN (by omega) (by omega)
  have e2:=Mp kids _ _ (d+1) (Kd d (NL k s) c) w6 (by rw[e];omega) (by rw[e];omega);rw[Fo.sh,Mp r _ _ d _ w4 (by rw[e2,e];omega) (by rw[e2,e];omega),e2,e,Fo.byt];omega
def PN (s:Ai):Ai:=s.flatMap λc=>bif (decide (c=34)||decide (c=92)) then[92,c] else[c]
def LK (s:Ai):Ai:=34::(PN s++[34])
theorem PM:∀s:Ai,(PN s).length=s.length+s.count 34+s.count 92
 | []=>rfl
 | c::s=>by
  have ih:=PM s;unfold PN at ih ⊢;rw[List.flatMap_cons,Afl,ih]
  by_cases h1:c=34
  ·subst h1;simp;omega
  ·by_cases h2:c=92
   ·subst h2;simp;omega
   ·simp[h1,h2,List.count_cons];omega
theorem Tu (s:Ai):((LK s).length:Int)=Nm s:=by
 simp only[LK,AeZ,Afl,PM,Af7,Nm];omega
def NT (c:Ac):Ai:=
 bif decide (c.fKind=1) then[110,117,108,108] else
 bif decide (c.fKind=2) then(bif decide (c.fInt=1) then[116,114,117,101] else[102,97,108,115,101]) else
 bif decide (c.fKind=3) then Lib.itoa c.fInt else
 bif decide (c.fKind=4) then LK c.fStr else
 bif decide (c.fKind=6) then[123,125] else[91,93]
def QY:Option Ai→Ai
 | none=>[]
 | some s=>LK s++[58]
def Yl (c:Ac)(s:Ai):Ai:=bif decide (c.fKind=6) then 123::(s++[125]) else 91::(s++[93])
def IY (first:Bool):Ai:=bif first then[] else[44]
def Fo.txt:Bool→Fo→Ai
 | _,.nil=>[]
 | b,.cell k c r=>IY b++QY k++NT c++r.txt false
 | b,.node k c kids r=>IY b++QY k++Yl c (kids.txt true)++r.txt false
theorem Wv (k:Option Ai):((QY k).length:Int)=Sb k:=by
 cases k with
 | none=>rfl
 | some s=>simp only[QY,Afl,Sb,Af1];have:=Tu s;omega
theorem XM {c:Ac}(hp:pl c=true):((NT c).length:Int)=lsz c:=by
  unfold NT lsz
  cases h1:decide (c.fKind=1) with
  | true=>rfl
  | false=>
    cases h2:decide (c.fKind=2) with
    | true=>
      simp[pl,h1,h2] at hp;simp only[AeM,AeW]
      cases h7:decide (c.fInt=1) with
      | true=>simp only[AeH] at h7;simp[h7]
      | false=>
                 simp only[AeG] at h7;have:c.fInt=0:=by omega
                 simp[this]
    | false=>
      cases h3:decide (c.fKind=3) with
      | true=>rfl
      | false=>
        cases h4:decide (c.fKind=4) with
        | true=>simpa using Tu c.fStr
        | false=>cases h6:decide (c.fKind=6)<;>rfl
theorem S3 (c:Ac)(s:Ai):(Yl c s).length=s.length+2:=by
 unfold Yl
 cases decide (c.fKind=6)<;>simp
theorem Mk:∀(f:Fo) (m:Bool) (l:Option Ai) (b:Bool),f.wf m l=true→((f.txt b).length:Int)=f.byt+(bif b then((f.cnt-1:Nat):Int) else(f.cnt:Int))
 | .nil,m,l,b,_=>by cases b<;>rfl
 | .cell k c r,m,l,b,hw=>by
  simp only[Fo.wf,AeI,Afe] at hw;obtain⟨⟨⟨w1,w2⟩,w3⟩,w4⟩:=hw;have ih:=Mk r _ _ false w4;have a:=Wv k;have d:=XM w2;simp only[AeM] at ih
  cases b<;>simp only[Fo.txt,Fo.byt,Fo.cnt,IY,AeW,AeM,Afl,Af7,Af1]<;>omega
 | .node k c kids r,m,l,b,hw=>by
  simp only[Fo.wf,AeI,AeH] at hw;obtain⟨⟨⟨⟨⟨w1,w2⟩,w3⟩,w5⟩,w6⟩,w4⟩:=hw;have ih:=Mk r _ _ false w4;have ih2:=Mk kids _ _ true w6;have a:=Wv k;have d:=S3 c (kids.txt true);simp only[AeM,AeW] at ih ih2
  cases b<;>simp only[Fo.txt,Fo.byt,Fo.cnt,IY,AeW,AeM,Afl,Af7,Af1]<;>omega
def Fo.put (k:Option Ai):Fo→Fo→Fo
 | .cell _ c _,r=>.cell k c r
 | .node _ c kids _,r=>.node k c kids r
 | .nil,_=>.nil
theorem YW (P:Nat)(m:Bool)(last:Option Ai)(k:Nat)(xs:List Ac):J0 (P+2) m last (k+1) xs =
  match JH m last xs with
  | none=>none
  | some (key,ys)=>match J0 (P+2) false none 1 ys with
   | none=>none
   | some (f,zs)=>match J0 (P+1) m key k zs with
    | none=>none
    | some (r,us)=>some (f.put key r,us):=by
 rw[J0]
 cases hk:JH m last xs with
 | none=>rfl
 | some p=>
  obtain⟨key,ys⟩:=p;simp only;rw[J0];simp only[JH,AeM]
  cases ys with
  | nil=>rfl
  | cons c ys=>
   simp only
   cases hp:pl c with
   | false=>rfl
   | true=>
    simp only[AeL,AeM]
    cases hn:decide (0<c.fN) with
    | true=>
     simp only[AeW]
     cases hq:J0 (P+1) (decide (c.fKind=6)) none c.fN.toNat ys with
     | none=>rfl
     | some q=>
      obtain⟨kids,zs⟩:=q;simp only[J0]
      cases hr:J0 (P+1) m key k zs with
      | none=>rfl
      | some q=>obtain⟨a,b⟩:=q;rfl
    | false=>
     simp only[AeM,J0]
     cases hr:J0 (P+1) m key k ys with
     | none=>rfl
     | some q=>obtain⟨a,b⟩:=q;rfl
end Go.Proofs.YtmjlemhondjfhaaGreatDoor
