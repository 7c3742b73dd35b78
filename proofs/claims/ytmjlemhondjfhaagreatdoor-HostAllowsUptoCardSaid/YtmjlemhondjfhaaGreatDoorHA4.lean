/-
  Texts of the proof, put together: WHa, PHb, WHb, PHc, Qw, Qv, QK, WHc, PHd.
-/
import Derived.Test.YtmjlemhondjfhaaGreatDoorHA3
import Derived.Sort.KeysCollected
namespace Go.Proofs.YtmjlemhondjfhaaGreatDoor.Q
open Go Go.RowKit
set_option linter.unusedVariables false
set_option linter.unusedSimpArgs false
set_option maxRecDepth 100000
set_option maxHeartbeats 4000000
@[reducible] def IN (x:(List Ai)):List Rp:=[AO 1 (A8 eS x)]
theorem V5 (x:(List Ai)):(IN x).length=1:=rfl
@[reducible] def Al (x:Aj):List Rp:=[rB x.fAllow,AO 1 (A8 eS x.fActions),AO 1 (A8 eS x.fResources)]
theorem Ej (x:Aj):(Al x).length=3:=rfl
theorem LO (x:Aj):(Al x).all (·.one)=true:=rfl
@[reducible] def Gr (x:BA):List Rp:=[rB x.fAllowed,A4 x.fIndex]
@[reducible] def A1 (x:AI):List Rp:=[rB x.fAllow,A4 x.fAddr,A4 x.fBits,A4 x.fLow,A4 x.fHigh]
theorem Hn (x:AI):(A1 x).length=5:=rfl
theorem N5 (x:AI):(A1 x).all (·.one)=true:=rfl
theorem Ra:∃inf,Tryz.prog.info? 9=some inf∧inf.zero=some (.string ⟨#[]⟩)∧inf.size=1∧inf.bytes=16:=by
  have key:(Tryz.prog.info? 9).map (λi=>(i.zero,i.size,i.bytes))=some (some (.string ⟨#[]⟩),1,16):=by kernel_rfl
  obtain⟨inf,h1,h2⟩:=Option.map_eq_some_iff.1 key;simp only[Prod.mk.injEq] at h2;exact⟨inf,h1,h2.1,h2.2.1,h2.2.2⟩
theorem WG (parts:List (Nat×Value)):Tryz.prog.built 63 parts=Instr.fill (λi=>(#[(0,1),(1,1)]:Array (Nat×Nat))[i]?) #[(.bool false),(.int .i64 0)] parts:=by kernel_rfl
theorem Gq {n:Nat}{c:Cx}{l:Fr}{H:List Ent}{d:Option Nat}{ty:TypeId}{pos:String}{af:Array Edge}{g:Option (Nat×Bool)}{x0:Operand}{r0:Rp}(h0:ev l x0=some r0)(u0:r0.one=true){x1:Operand}{r1:Rp}(h1:ev l x1=some r1)(u1:r1.one=true):B4 Tryz.prog n c l H { dst:=d,op:=.build 63 #[(0,x0),(1,x1)],type:=ty,pos:=pos,after:=af,guard:=g } (B9 [r0,r1]):=λa w Z ha _=>by
  have p0:=ha.ev h0;have c0:=B1 (r0.hone u0 Z _ p0);have p1:=ha.ev h1;have c1:=B1 (r1.hone u1 Z _ p1);have hb:Tryz.prog.built 63 [(0,a.eval x0),(1,a.eval x1)]=some #[a.eval x0,a.eval x1]:=by
    rw[WG];generalize a.eval x0=v0 at *;generalize a.eval x1=v1 at *;simp[Instr.fill,c0,c1]
  refine⟨.agg #[a.eval x0,a.eval x1],⟨[a.eval x0,a.eval x1],rfl,p0,p1,trivial⟩,?_⟩;have:=run_build w 63 #[(0,a.eval x0),(1,a.eval x1)] _ (by simpa using hb);simp[execOp,this]
theorem Kx {n:Nat}{c:Cx}{l:Fr}{H:List Ent}{d:Option Nat}{ty:TypeId}{pos:String}{af:Array Edge}{g:Option (Nat×Bool)}{x1:Operand}{r1:Rp}(h1:ev l x1=some r1)(u1:r1.one=true):B4 Tryz.prog n c l H { dst:=d,op:=.build 63 #[(1,x1)],type:=ty,pos:=pos,after:=af,guard:=g } (B9 [rB false,r1]):=λa w Z ha _=>by
  have p1:=ha.ev h1;have c1:=B1 (r1.hone u1 Z _ p1);have hb:Tryz.prog.built 63 [(1,a.eval x1)]=some #[(.bool false),a.eval x1]:=by
    rw[WG];generalize a.eval x1=v1 at *;simp[Instr.fill,c1]
  refine⟨.agg #[(.bool false),a.eval x1],⟨[(.bool false),a.eval x1],rfl,rfl,p1,trivial⟩,?_⟩;have:=run_build w 63 #[(1,a.eval x1)] _ (by simpa using hb);simp[execOp,this]
theorem Ly (s:Ai)(x:Ai)(r:Bool)(h:G9 s x=some r):Fn Tryz.prog GE 230 [rS s,rS x] [] (λR H=>R=rB r∧H=[]):=by
 refine enter (n:=21) Tryz.func230 Aa Tryz.ntmps230 Aa (λw Z=>?_);unfold G9 at h;refine Ad (wa Aa (Ao (ck h λg1 h2=>ck h2 λg3 h4=>A5 [(4,rB ((decide ((x.length:Int)≤(s.length:Int)))&&(decide ((List.drop (Ca ((s.length:Int)-(x.length:Int))) s)=x))))] [] ?_ ?_)))
 ·refine Af (wm Aa (wv (B0 C4 Aa) (wm Aa (wv (B0 C4 Aa) (wv (DP Aa Aa) (wm Aa (AA (decide ((x.length:Int)≤(s.length:Int))) (λc5=>?_) (λc5=>?_))))))))
  ·refine wo c5 (wm Aa (wo c5 (wm Aa (wo c5 (wv (B0 C4 Aa) (wo c5 (wm Aa (wo c5 (wv (B0 C4 Aa) (wo c5 (wv (Gi Aa Aa (BF g1 c5)) (wo c5 (wv (DG C4 Aa Aa (BF g3 c5)) (wo c5 (wm Aa (wo c5 (wv (BQ Aa Aa) (E0 Aa c5 Aa (wa Aa (Ah ?_))))))))))))))))))));exact BH c5
  refine wf c5 (wf c5 (wf c5 (wf c5 (wf c5 (wf c5 (wf c5 (wf c5 (wf c5 (wv (r:=rB false) (Ay Aa c5 Aa) (wa Aa (Ah ?_)))))))))));exact BH c5
 refine Ap ?_;obtain rfl:=Au h4;exact Aq (B2 Tryz.results230 (AD Aa)) sN ⟨Aa,Aa⟩
theorem Pa (s:Ai)(x:Ai)(r:Ai)(h:HL s x=some r):Fn Tryz.prog GE 229 [rS s,rS x] [] (λR H=>R=rS r∧H=[]):=by
 refine enter (n:=16) Tryz.func229 Aa Tryz.ntmps229 Aa (λw Z=>?_);unfold HL at h;refine Ad (wv (r:=rS ([]:Ai)) (A0 Aa) (Ao (Ak (Ad (wm Aa (wm Aa (ob h λr1 e3 h2=>BP Tryz.call230 (Ly s x r1 e3) Aa (Ao (cz h2 Aa (λc4 h5=>?_) (λc4 ha=>?_))))))))))
 ·refine Ad (wm Aa (wm Aa (wv (B0 C4 Aa) (wm Aa (wv (B0 C4 Aa) (ck h5 λg6 h7=>wv (Gi Aa Aa g6) (ck h7 λg8 h9=>wv (EL C4 Aa Aa g8) (wa Aa (Ao (Ap (Ab ?_)))))))))));obtain rfl:=Au h9;exact Aq (B2 Tryz.results229 (AD Aa)) sN ⟨Aa,Aa⟩
 refine Aw (AE (Ad (wm Aa (wa Aa (Ao (Ap ?_))))));obtain rfl:=Au ha;exact Aq (B2 Tryz.results229 (AD Aa)) sN ⟨Aa,Aa⟩
theorem Ub (s:Ai)(x:Ai)(r:Bool)(h:Lg s x=some r):Fn Tryz.prog GE 202 [rS s,rS x] [] (λR H=>R=rB r∧H=[]):=by
 refine enter (n:=8) Tryz.func202 Aa Tryz.ntmps202 Aa (λw Z=>?_);unfold Lg at h;refine Ad (wa Aa (Bp (wm Aa (wm Aa (ob h λr1 e3 h2=>BP Tryz.call230 (Ly s x r1 e3) Aa (wa Aa (Ao (Ap ?_))))))));obtain rfl:=Au h2;exact Aq (B2 Tryz.results202 (AD Aa)) sN ⟨Aa,Aa⟩
theorem R3 (s:Ai)(x:Ai)(r:Ai)(h:J8 s x=some r):Fn Tryz.prog GE 201 [rS s,rS x] [] (λR H=>R=rS r∧H=[]):=by
 refine enter (n:=8) Tryz.func201 Aa Tryz.ntmps201 Aa (λw Z=>?_);unfold J8 at h;refine Ad (wv (r:=rS ([]:Ai)) (A0 Aa) (Bp (wm Aa (wm Aa (ob h λr1 e3 h2=>BP Tryz.call229 (Pa s x r1 e3) Aa (wa Aa (Ao (Ap ?_))))))));obtain rfl:=Au h2;exact Aq (B2 Tryz.results201 (AD Aa)) sN ⟨Aa,Aa⟩
theorem Rb (s:Ai)(r:Ai)(h:E3 s=some r):Fn Tryz.prog GE 174 [rS s] [] (λR H=>R=rS r∧H=[]):=by
 refine enter (n:=5) Tryz.func174 Aa Tryz.ntmps174 Aa (λw Z=>?_);unfold E3 at h;refine Ad (wv (r:=rS ([]:Ai)) (A0 Aa) (Bp (wm Aa (ob h λr1 e3 h2=>BP Tryz.call201 (R3 s ([42]:Ai) r1 e3) Aa (wa Aa (Ao (Ap ?_)))))));obtain rfl:=Au h2;exact Aq (B2 Tryz.results174 (AD Aa)) sN ⟨Aa,Aa⟩
theorem W1 (s:Ai)(r:Bool)(h:LA s=some r):Fn Tryz.prog GE 175 [rS s] [] (λR H=>R=rB r∧H=[]):=by
 refine enter (n:=5) Tryz.func175 Aa Tryz.ntmps175 Aa (λw Z=>?_);unfold LA at h;refine Ad (wa Aa (Bp (wm Aa (ob h λr1 e3 h2=>BP Tryz.call202 (Ub s ([42]:Ai) r1 e3) Aa (wa Aa (Ao (Ap ?_)))))));obtain rfl:=Au h2;exact Aq (B2 Tryz.results175 (AD Aa)) sN ⟨Aa,Aa⟩
theorem PG (s:Ai)(r:Bool)(h:Js s=some r):Fn Tryz.prog GE 126 [rS s] [] (λR H=>R=rB r∧H=[]):=by
 refine enter (n:=23) Tryz.func126 Aa Tryz.ntmps126 Aa (λw Z=>?_);unfold Js at h;refine Ad (wa Aa (Ao (ck h λg1 h2=>ck h2 λg3 h4=>A5 [(2,rB ((Jq s)||((decide (s=([42]:Ai)))||((Jq (ov (E3 s)))&&((ov (LA s))&&(decide ((s.length:Int)≤64)))))))] [] ?_ ?_)))
 ·refine Af (wm Aa (Ck (rs:=[rS s]) (r:=rB (Jq s)) Tryz.call115 Aa (Aby s) Aa Aa (wm Aa (AA (Jq s) (λc5=>?_) (λc5=>?_)))))
  ·refine wf c5 (wf c5 (wv (r:=rB true) (An Aa c5 Aa) (wm Aa (wz Aa Aa (wz Aa Aa (wz Aa Aa (wz Aa Aa (wu (wu (wz Aa Aa (wz Aa Aa (wu (wu (wu (wz Aa Aa (wv (r:=rB true) (An (b:=true) Aa Aa Aa) (wa Aa (Ah ?_))))))))))))))))));exact BH c5
  refine wo c5 (wm Aa (wo c5 (wv (BQ Aa Aa) (Ep Aa c5 Aa (wm Aa (AA (decide (s=([42]:Ai))) (λc6=>?_) (λc6=>?_)))))))
  ·refine wf c6 (wf c6 (wf c6 (wf c6 (wu (wu (wf c6 (wf c6 (wu (wu (wu (wf c6 (wv (r:=rB true) (An Aa c6 Aa) (wa Aa (Ah ?_))))))))))))));exact BH (And.intro c5 c6)
  refine wo c6 (wm Aa (wo c6 (BP Tryz.call174 (Rb s (ov (E3 s)) (Cr (C3 (C3 g1 c5) c6))) Aa (wo c6 (Ck (rs:=[rS (ov (E3 s))]) (r:=rB (Jq (ov (E3 s)))) Tryz.call115 Aa (Aby (ov (E3 s))) Aa Aa (wo c6 (wm Aa (AA (Jq (ov (E3 s))) (λc7=>?_) (λc7=>?_)))))))))
  ·refine wo c7 (wm Aa (wo c7 (BP Tryz.call175 (W1 s (ov (LA s)) (Cr (BF (C3 (C3 g3 c5) c6) c7))) Aa (wo c6 (E0 Aa c7 Aa (wo c6 (wm Aa (AA ((ov (LA s))) (λc8=>?_) (λc8=>?_)))))))))
   ·refine wo c8 (wm Aa (wo c8 (wv (B0 C4 Aa) (wo c8 (wv (Hf Aa Aa) (wo c6 (E0 Aa c8 Aa (Ep Aa c6 Aa (wa Aa (Ah ?_))))))))));exact BH (And.intro c5 (And.intro c6 (And.intro c7 c8)))
   refine wf c8 (wf c8 (wf c8 (wo c6 (wv (r:=rB false) (Ay Aa c8 Aa) (Ep Aa c6 Aa (wa Aa (Ah ?_)))))));exact BH (And.intro c5 (And.intro c6 (And.intro c7 c8)))
  refine wf c7 (wf c7 (wo c6 (wv (r:=rB false) (Ay Aa c7 Aa) (wo c6 (wm Aa (wz Aa Aa (wz Aa Aa (wz Aa Aa (wo c6 (wv (r:=rB false) (Ay (b:=false) Aa Aa Aa) (Ep Aa c6 Aa (wa Aa (Ah ?_)))))))))))));exact BH (And.intro c5 (And.intro c6 c7))
 refine Ap ?_;obtain rfl:=Au h4;exact Aq (B2 Tryz.results126 (AD Aa)) sN ⟨Aa,Aa⟩
theorem Vt (q:Ai)(s:Ai)(r:Bool)(h:KB q s=some r):Fn Tryz.prog GE 128 [rS q,rS s] [] (λR H=>R=rB r∧H=[]):=by
 refine enter (n:=17) Tryz.func128 Aa Tryz.ntmps128 Aa (λw Z=>?_);unfold KB at h;refine Ad (wa Aa (Ao (Ak (Ad (wm Aa (ob h λr1 e3 h2=>BP Tryz.call126 (PG q r1 e3) Aa (wv (BO Aa) (Ao (cz h2 Aa (λc4 h5=>?_) (λc4 h6=>?_))))))))))
 ·refine Ad (wa Aa (Ao (Ap (Ab ?_))));obtain rfl:=Au h5;exact Aq (B2 Tryz.results128 (AD Aa)) sN ⟨Aa,Aa⟩
 refine Aw (AE (Ak (Ad (wm Aa (ob h6 λr7 e9 h8=>BP Tryz.call175 (W1 q r7 e9) Aa (Ao (cz h8 Aa (λhb hd=>?_) (λhb he=>?_))))))))
 ·refine Ad (wm Aa (wm Aa (ob hd λha hf hg=>BP Tryz.call174 (Rb q ha hf) Aa (ob hg λhh hi hj=>BP Tryz.call176 (NW s ha hh hi) Aa (wa Aa (Ao (Ap (Ab ?_))))))));obtain rfl:=Au hj;exact Aq (B2 Tryz.results128 (AD Aa)) sN ⟨Aa,Aa⟩
 refine Aw (AE (Ad (wm Aa (wm Aa (wv (BQ Aa Aa) (wa Aa (Ao (Ap ?_))))))));obtain rfl:=Au he;exact Aq (B2 Tryz.results128 (AD Aa)) sN ⟨Aa,Aa⟩
theorem XO (c:Int)(r:Bool)(h:O8 c=some r):Fn Tryz.prog GE 148 [rI .u8 c] [] (λR H=>R=rB r∧H=[]):=by
 refine enter (n:=9) Tryz.func148 Aa Tryz.ntmps148 Aa (λw Z=>?_);unfold O8 at h;refine Ad (wa Aa (Ao (A5 [(2,rB ((decide (97≤c))&&(decide (c≤122))))] [] ?_ ?_)))
 ·refine Af (wm Aa (wv (DP Aa Aa) (wm Aa (AA (decide (97≤c)) (λc1=>?_) (λc1=>?_)))))
  ·refine wo c1 (wm Aa (wo c1 (wv (Hf Aa Aa) (E0 Aa c1 Aa (wa Aa (Ah ?_))))));exact BH c1
  refine wf c1 (wf c1 (wv (r:=rB false) (Ay Aa c1 Aa) (wa Aa (Ah ?_))));exact BH c1
 refine Ap ?_;obtain rfl:=Au h;exact Aq (B2 Tryz.results148 (AD Aa)) sN ⟨Aa,Aa⟩
theorem Rf (c:Int)(r:Bool)(h:MC c=some r):Fn Tryz.prog GE 149 [rI .u8 c] [] (λR H=>R=rB r∧H=[]):=by
 refine enter (n:=9) Tryz.func149 Aa Tryz.ntmps149 Aa (λw Z=>?_);unfold MC at h;refine Ad (wa Aa (Ao (A5 [(2,rB ((decide (48≤c))&&(decide (c≤57))))] [] ?_ ?_)))
 ·refine Af (wm Aa (wv (DP Aa Aa) (wm Aa (AA (decide (48≤c)) (λc1=>?_) (λc1=>?_)))))
  ·refine wo c1 (wm Aa (wo c1 (wv (Hf Aa Aa) (E0 Aa c1 Aa (wa Aa (Ah ?_))))));exact BH c1
  refine wf c1 (wf c1 (wv (r:=rB false) (Ay Aa c1 Aa) (wa Aa (Ah ?_))));exact BH c1
 refine Ap ?_;obtain rfl:=Au h;exact Aq (B2 Tryz.results149 (AD Aa)) sN ⟨Aa,Aa⟩
theorem TZ (c:Int)(r:Bool)(h:IM c=some r):Fn Tryz.prog GE 177 [rI .u8 c] [] (λR H=>R=rB r∧H=[]):=by
 refine enter (n:=37) Tryz.func177 Aa Tryz.ntmps177 Aa (λw Z=>?_);unfold IM at h;refine Ad (wa Aa (Ao (If (S:=(Bool)×(Unit)) (λσ=>C6 σ.1=some r) (λσ=>[(2,rB σ.1)]) (λσ=>[]) ?_ ?_)))
 ·refine Af (wm Aa (ob h λho hp hq=>BP Tryz.call148 (XO c ho hp) Aa (wm Aa (bz hq (λc53 hr=>?_) (λc53 hs=>?_)))))
  ·refine wf c53 (wf c53 (wf c53 (wu (wu (wf c53 (wv (r:=rB true) (An Aa c53 Aa) (wm Aa (wz Aa Aa (wz Aa Aa (wv (r:=rB true) (An (b:=true) Aa Aa Aa) (wm Aa (wz Aa Aa (wz Aa Aa (wv (r:=rB true) (An (b:=true) Aa Aa Aa) (wm Aa (wz Aa Aa (wz Aa Aa (wv (r:=rB true) (An (b:=true) Aa Aa Aa) (wm Aa (wz Aa Aa (wz Aa Aa (wv (r:=rB true) (An (b:=true) Aa Aa Aa) (wm Aa ?_)))))))))))))))))))))));exact wz Aa Aa (wz Aa Aa (wv (r:=rB true) (An (b:=true) Aa Aa Aa) (wm Aa (wz Aa Aa (wz Aa Aa (wv (r:=rB true) (An (b:=true) Aa Aa Aa) (wa Aa (Ah (Ar (AC (true,()) hr (AH.c Aa AH.nil) sN))))))))))
  refine wo c53 (wm Aa (wo c53 (wv (DP Aa Aa) (wo c53 (wm Aa (bz hs (λha ht=>?_) (λha hu=>?_)))))))
  ·refine wo ha (wm Aa (wo ha (wv (Hf Aa Aa) (wo c53 (E0 Aa ha Aa (Ep Aa c53 Aa (wm Aa (bz ht (λhb hw=>?_) (λhb hx=>?_)))))))))
   ·refine wf hb (wf hb (wv (r:=rB true) (An Aa hb Aa) (wm Aa (wz Aa Aa (wz Aa Aa (wv (r:=rB true) (An (b:=true) Aa Aa Aa) (wm Aa (wz Aa Aa (wz Aa Aa (wv (r:=rB true) (An (b:=true) Aa Aa Aa) (wm Aa (wz Aa Aa (wz Aa Aa (wv (r:=rB true) (An (b:=true) Aa Aa Aa) (wm Aa (wz Aa Aa (wz Aa Aa (wv (r:=rB true) (An (b:=true) Aa Aa Aa) (wm Aa (wz Aa Aa (wz Aa Aa (wv (r:=rB true) (An (b:=true) Aa Aa Aa) (wa Aa ?_)))))))))))))))))))))));exact Ah (Ar (AC (true,()) hw (AH.c Aa AH.nil) sN))
   refine wo hb (wm Aa (wo hb (ob hx λhy hz h0=>BP SR (Rf c hy hz) Aa (Ep Aa hb Aa (wm Aa (bz h0 (λhd h1=>?_) (λhd h2=>?_)))))))
   ·exact wf hd (wf hd (wv (r:=rB true) (An Aa hd Aa) (wm Aa (wz Aa Aa (wz Aa Aa (wv (r:=rB true) (An (b:=true) Aa Aa Aa) (wm Aa (wz Aa Aa (wz Aa Aa (wv (r:=rB true) (An (b:=true) Aa Aa Aa) (wm Aa (wz Aa Aa (wz Aa Aa (wv (r:=rB true) (An (b:=true) Aa Aa Aa) (wm Aa (wz Aa Aa (wz Aa Aa (wv (r:=rB true) (An (b:=true) Aa Aa Aa) (wa Aa (Ah (Ar (AC (true,()) h1 (AH.c Aa AH.nil) sN))))))))))))))))))))))
   refine wo hd (wm Aa (wo hd (wv (B7 Aa Aa) (Ep Aa hd Aa (wm Aa (bz h2 (λhe h3=>?_) (λhe h4=>?_)))))))
   ·exact wf he (wf he (wv (r:=rB true) (An Aa he Aa) (wm Aa (wz Aa Aa (wz Aa Aa (wv (r:=rB true) (An (b:=true) Aa Aa Aa) (wm Aa (wz Aa Aa (wz Aa Aa (wv (r:=rB true) (An (b:=true) Aa Aa Aa) (wm Aa (wz Aa Aa (wz Aa Aa (wv (r:=rB true) (An (b:=true) Aa Aa Aa) (wa Aa (Ah (Ar (AC (true,()) h3 (AH.c Aa AH.nil) sN))))))))))))))))))
   refine wo he (wm Aa (wo he (wv (B7 Aa Aa) (Ep Aa he Aa (wm Aa (bz h4 (λhf h5=>?_) (λhf h6=>?_)))))))
   ·exact wf hf (wf hf (wv (r:=rB true) (An Aa hf Aa) (wm Aa (wz Aa Aa (wz Aa Aa (wv (r:=rB true) (An (b:=true) Aa Aa Aa) (wm Aa (wz Aa Aa (wz Aa Aa (wv (r:=rB true) (An (b:=true) Aa Aa Aa) (wa Aa (Ah (Ar (AC (true,()) h5 (AH.c Aa AH.nil) sN))))))))))))))
   refine wo hf (wm Aa (wo hf (wv (B7 Aa Aa) (Ep Aa hf Aa (wm Aa (bz h6 (λhg h7=>?_) (λhg h8=>?_)))))))
   ·exact wf hg (wf hg (wv (r:=rB true) (An Aa hg Aa) (wm Aa (wz Aa Aa (wz Aa Aa (wv (r:=rB true) (An (b:=true) Aa Aa Aa) (wa Aa (Ah (Ar (AC (true,()) h7 (AH.c Aa AH.nil) sN))))))))))
   refine wo hg (wm Aa (wo hg (wv (B7 Aa Aa) (Ep Aa hg Aa (wm Aa (bz h8 (λc76 h9=>?_) (λc76 hA=>?_)))))))
   ·exact wf c76 (wf c76 (wv (r:=rB true) (An Aa c76 Aa) (wa Aa (Ah (Ar (AC (true,()) h9 (AH.c Aa AH.nil) sN))))))
   exact wo c76 (wm Aa (wo c76 (wv (B7 Aa Aa) (Ep Aa c76 Aa (wa Aa (Ah (Ar (AC (decide (c=47),()) hA (AH.c Aa AH.nil) sN))))))))
  refine wf ha (wf ha (wo c53 (wv (r:=rB false) (Ay Aa ha Aa) (Ep Aa c53 Aa (wm Aa (AL (b:=false) Aa Aa Aa (wm Aa (AL (b:=false) Aa Aa Aa (ob hu λhn hB hC=>BP SR (Rf c hn hB) Aa (wv (r:=rB hn) (Ay (b:=false) Aa Aa Aa) (wm Aa (bz hC (λhh hD=>?_) (λhh hE=>?_)))))))))))))
  ·exact wf hh (wf hh (wv (r:=rB true) (An Aa hh Aa) (wm Aa (wz Aa Aa (wz Aa Aa (wv (r:=rB true) (An (b:=true) Aa Aa Aa) (wm Aa (wz Aa Aa (wz Aa Aa (wv (r:=rB true) (An (b:=true) Aa Aa Aa) (wm Aa (wz Aa Aa (wz Aa Aa (wv (r:=rB true) (An (b:=true) Aa Aa Aa) (wm Aa (wz Aa Aa (wz Aa Aa (wv (r:=rB true) (An (b:=true) Aa Aa Aa) (wa Aa (Ah (Ar (AC (true,()) hD (AH.c Aa AH.nil) sN))))))))))))))))))))))
  refine wo hh (wm Aa (wo hh (wv (B7 Aa Aa) (Ep Aa hh Aa (wm Aa (bz hE (λhi hG=>?_) (λhi hH=>?_)))))))
  ·exact wf hi (wf hi (wv (r:=rB true) (An Aa hi Aa) (wm Aa (wz Aa Aa (wz Aa Aa (wv (r:=rB true) (An (b:=true) Aa Aa Aa) (wm Aa (wz Aa Aa (wz Aa Aa (wv (r:=rB true) (An (b:=true) Aa Aa Aa) (wm Aa (wz Aa Aa (wz Aa Aa (wv (r:=rB true) (An (b:=true) Aa Aa Aa) (wa Aa (Ah (Ar (AC (true,()) hG (AH.c Aa AH.nil) sN))))))))))))))))))
  refine wo hi (wm Aa (wo hi (wv (B7 Aa Aa) (Ep Aa hi Aa (wm Aa (bz hH (λhj hI=>?_) (λhj hJ=>?_)))))))
  ·exact wf hj (wf hj (wv (r:=rB true) (An Aa hj Aa) (wm Aa (wz Aa Aa (wz Aa Aa (wv (r:=rB true) (An (b:=true) Aa Aa Aa) (wm Aa (wz Aa Aa (wz Aa Aa (wv (r:=rB true) (An (b:=true) Aa Aa Aa) (wa Aa (Ah (Ar (AC (true,()) hI (AH.c Aa AH.nil) sN))))))))))))))
  refine wo hj (wm Aa (wo hj (wv (B7 Aa Aa) (Ep Aa hj Aa (wm Aa (bz hJ (λhk hK=>?_) (λhk hL=>?_)))))))
  ·exact wf hk (wf hk (wv (r:=rB true) (An Aa hk Aa) (wm Aa (wz Aa Aa (wz Aa Aa (wv (r:=rB true) (An (b:=true) Aa Aa Aa) (wa Aa (Ah (Ar (AC (true,()) hK (AH.c Aa AH.nil) sN))))))))))
  refine wo hk (wm Aa (wo hk (wv (B7 Aa Aa) (Ep Aa hk Aa (wm Aa (bz hL (λhl hN=>?_) (λhl hO=>?_)))))))
  ·exact wf hl (wf hl (wv (r:=rB true) (An Aa hl Aa) (wa Aa (Ah (Ar (AC (true,()) hN (AH.c Aa AH.nil) sN))))))
  exact wo hl (wm Aa (wo hl (wv (B7 Aa Aa) (Ep Aa hl Aa (wa Aa (Ah (Ar (AC (decide (c=47),()) hO (AH.c Aa AH.nil) sN))))))))
 rintro⟨hP,⟨⟩⟩ hm;refine GI ?_;replace hm:C6 hP=some r:=hm;unfold C6 at hm;refine Ap ?_;obtain rfl:=Au hm;exact Aq (B2 Tryz.results177 (AD Aa)) sN ⟨Aa,Aa⟩
theorem ZG (s:Ai)(r:Bool)(h:Sh s=some r):Fn Tryz.prog GE 237 [rS s] [] (λR H=>R=rB r∧H=[]):=by
 refine enter (n:=9) Tryz.func237 Aa Tryz.ntmps237 Aa (λw Z=>?_);unfold Sh at h;refine Ad (wa Aa (Bp (wm Aa (wm Aa (wv (B0 C4 Aa) (ck h λg1 h2=>wv (Gi Aa Aa g1) (ck h2 λg3 h4=>wv (B3 C4 Aa Aa g3) (wv (B7 Aa Aa) (wa Aa (Ao (Ap ?_)))))))))));obtain rfl:=Au h4;exact Aq (B2 Tryz.results237 (AD Aa)) sN ⟨Aa,Aa⟩
theorem Vv (s:Ai)(q:Ai)(r:Bool)(h:MD s q=some r):Fn Tryz.prog GE 238 [rS s,rS q] [] (λR H=>R=rB r∧H=[]):=by
 refine enter (n:=18) Tryz.func238 Aa Tryz.ntmps238 Aa (λw Z=>?_);unfold MD at h;refine Ad (wa Aa (Ao (ck h λg1 h2=>A5 [(4,rB ((decide ((q.length:Int)≤(s.length:Int)))&&(decide ((List.take (Ca (q.length:Int)) s)=q))))] [] ?_ ?_)))
 ·refine Af (wm Aa (wv (B0 C4 Aa) (wm Aa (wv (B0 C4 Aa) (wv (DP Aa Aa) (wm Aa (AA (decide ((q.length:Int)≤(s.length:Int))) (λc3=>?_) (λc3=>?_))))))))
  ·refine wo c3 (wm Aa (wo c3 (wm Aa (wo c3 (wv (B0 C4 Aa) (wo c3 (wv (EL C4 Aa Aa (BF g1 c3)) (wo c3 (wm Aa (wo c3 (wv (BQ Aa Aa) (E0 Aa c3 Aa (wa Aa (Ah ?_))))))))))))));exact BH c3
  refine wf c3 (wf c3 (wf c3 (wf c3 (wf c3 (wf c3 (wv (r:=rB false) (Ay Aa c3 Aa) (wa Aa (Ah ?_))))))));exact BH c3
 refine Ap ?_;obtain rfl:=Au h2;exact Aq (B2 Tryz.results238 (AD Aa)) sN ⟨Aa,Aa⟩
theorem NV (F:Nat)(s:Ai)(r:Bool)(h:Ib F s=some r):Fn Tryz.prog GE 184 [rS s] [] (λR H=>R=rB r∧H=[]):=by
 refine enter (n:=38) Tryz.func184 Aa Tryz.ntmps184 Aa (λw Z=>?_);unfold Ib at h;refine Ad (wa Aa (Ao (Ak (A5 [(0,rS s),(11,rB ((decide ((s.length:Int)<1))||(decide (64<(s.length:Int)))))] [] ?_ ?_))))
 ·refine Af (wm Aa (wv (B0 C4 Aa) (wv (Ci Aa Aa) (wm Aa (AA (decide ((s.length:Int)<1)) (λc1=>?_) (λc1=>?_))))))
  ·refine wf c1 (wf c1 (wf c1 (wv (r:=rB true) (An Aa c1 Aa) (Ah ?_))));exact BH c1
  refine wo c1 (wm Aa (wo c1 (wv (B0 C4 Aa) (wo c1 (wv (Dc Aa Aa) (Ep Aa c1 Aa (Ah ?_)))))));exact BH c1
 refine cz h Aa (λc2 h3=>?_) (λc2 h4=>?_)
 ·refine Ad (wa Aa (Ao (Ap (Ab ?_))));obtain rfl:=Au h3;exact Aq (B2 Tryz.results184 (AD Aa)) sN ⟨Aa,Aa⟩
 refine Aw (AE (Ak (Ad (wa Aa (Ao (A6 (ob h4 λhj hk hg=>Br (S:=Nat×(Int)×(Unit)) (V:=(Unit)×(Unit)) 0 (λσ=>BX (λσ=>Ei s σ) σ.1 σ.2.1=some hj) (λσ=>[(0,rS s),(3,A4 σ.2.1)]) (λσ=>[]) (λσ=>σ.1) (F,0,()) hk (AH.c Aa (AH.c Aa AH.nil)) sN (λσ=>GQ s =some r) (λσ=>[(0,rS s)]) (λσ=>[]) ?_ ?_)))))))
 ·rintro⟨hC,he,⟨⟩⟩ hl;refine GI ?_;obtain⟨hm,rfl,t53,hb,hf⟩:=Cc hl;replace hb:Ei s he=some t53:=hb;unfold Ei at hb;refine Ak (Ad (wm Aa (wm Aa (wv (B0 C4 Aa) (ck hb λhn ho=>wv (Gi Aa Aa hn) (wv (Ci Aa Aa) (Ao (cz ho Aa (λhp hq=>?_) (λhp hr=>?_)))))))))
  ·refine Aw (AE (Ak (A6 (Ad (wm Aa (wm Aa (ck hq λhs ht=>wv (B3 C4 Aa Aa hs) (ob ht λhu hw hx=>BP Tryz.call177 (TZ (BK s he) hu hw) Aa (wv (BO Aa) (Ao (cz hx Aa (λhy hz=>?_) (λhy h0=>?_))))))))))))
   ·refine Ad (wa Aa (Ao (Ap (A3 (Ab (Ab (Bg ?_)))))));have h1:=BC hz hf hg;refine A3 (Ab ?_);obtain rfl:=Au h1;exact Aq (B2 Tryz.results184 (AD Aa)) sN ⟨Aa,Aa⟩
   refine Aw (AB (AE (Af (wm Aa (ck h0 λh2 h5=>wv (By Aa Aa h2) (wa Aa (Ah ?_)))))));have h6:=Bi h5 hf;exact Ar (AC (hm,he+1,()) ⟨h6,AeR _⟩ (AH.c Aa (AH.c Aa AH.nil)) sN)
  refine Bn (Av ?_);have h7:=BE hr hf hg;exact Av (AY (AC ((),()) h7 (AH.c Aa AH.nil) sN))
 rintro⟨⟨⟩,⟨⟩⟩ hd;refine GX ?_;replace hd:GQ s =some r:=hd;unfold GQ at hd;refine AW (AE (ck hd λhh h8=>ck h8 λhi h9=>ck h9 λhA hB=>A5 [(2,rB ((ov (IM (BK s ((s.length:Int)-1))))||(decide ((BK s ((s.length:Int)-1))=42))))] [] ?_ ?_))
 ·refine Af (wm Aa (wm Aa (wv (B0 C4 Aa) (wv (Gi Aa Aa hh) (wv (B3 C4 Aa Aa hi) (BP Tryz.call177 (TZ (BK s ((s.length:Int)-1)) (ov (IM (BK s ((s.length:Int)-1)))) (Cr hA)) Aa (wm Aa (AA ((ov (IM (BK s ((s.length:Int)-1))))) (λha=>?_) (λha=>?_)))))))))
  ·refine wf ha (wf ha (wf ha (wf ha (wf ha (wf ha (wv (r:=rB true) (An Aa ha Aa) (wa Aa (Ah ?_))))))));exact BH ha
  refine wo ha (wm Aa (wo ha (wm Aa (wo ha (wv (B0 C4 Aa) (wo ha (wv (Gi Aa Aa hh) (wo ha (wv (B3 C4 Aa Aa hi) (wo ha (wv (B7 Aa Aa) (Ep Aa ha Aa (wa Aa (Ah ?_))))))))))))));exact BH ha
 refine Ap ?_;obtain rfl:=Au hB;exact Aq (B2 Tryz.results184 (AD Aa)) sN ⟨Aa,Aa⟩
theorem Ua (F:Nat)(q:Ai)(s:Ai)(r:Bool)(h:Jt F q s=some r):Fn Tryz.prog GE 217 [rS q,rS s] [] (λR H=>R=rB r∧H=[]):=by
 refine enter (n:=20) Tryz.func217 Aa Tryz.ntmps217 Aa (λw Z=>?_);unfold Jt at h;refine Ad (wa Aa (Ao (Ak (Ad (wm Aa (ob h λr1 e3 h2=>BP Tryz.call184 (NV F q r1 e3) Aa (wv (BO Aa) (Ao (cz h2 Aa (λc4 h5=>?_) (λc4 h6=>?_))))))))))
 ·refine Ad (wa Aa (Ao (Ap (Ab ?_))));obtain rfl:=Au h5;exact Aq (B2 Tryz.results217 (AD Aa)) sN ⟨Aa,Aa⟩
 refine Aw (AE (Ak (Ad (wm Aa (ob h6 λr7 e9 h8=>BP Tryz.call237 (ZG q r7 e9) Aa (Ao (cz h8 Aa (λha hb=>?_) (λha hd=>?_))))))))
 ·refine Ad (wm Aa (wm Aa (wm Aa (wv (B0 C4 Aa) (ck hb λhe hf=>wv (Gi Aa Aa he) (ck hf λhg hh=>wv (EL C4 Aa Aa hg) (ob hh λhi hj hk=>BP Tryz.call238 (Vv s (List.take (Ca ((q.length:Int)-1)) q) hi hj) Aa (wa Aa (Ao (Ap (Ab ?_)))))))))));obtain rfl:=Au hk;exact Aq (B2 Tryz.results217 (AD Aa)) sN ⟨Aa,Aa⟩
 refine Aw (AE (Ad (wm Aa (wm Aa (wv (BQ Aa Aa) (wa Aa (Ao (Ap ?_))))))));obtain rfl:=Au hd;exact Aq (B2 Tryz.results217 (AD Aa)) sN ⟨Aa,Aa⟩
theorem W2 (F:Nat)(l:(List Ai))(s:Ai)(r:Bool)(h:Re F l s=some r):Fn Tryz.prog GE 21 [AO 1 (A8 eS l),rS s] [] (λR H=>R=rB r∧H=[]):=by
 refine enter (n:=18) Tryz.func21 Aa Tryz.ntmps21 Aa (λw Z=>?_);unfold Re at h;refine Ad (wa Aa (Ao (Ak (Ad (wa Aa (Ao (A6 (ob h λhg hh he=>Br (S:=Nat×(Int)×(Unit)) (V:=(Unit)×(Unit)) 0 (λσ=>BX (λσ=>Iv l s σ) σ.1 σ.2.1=some hg) (λσ=>[(0,AO 1 (A8 eS l)),(1,rS s),(5,A4 σ.2.1)]) (λσ=>[]) (λσ=>σ.1) (F,0,()) hh (AH.c Aa (AH.c Aa (AH.c Aa AH.nil))) sN (λσ=>KC =some r) (λσ=>[]) (λσ=>[]) ?_ ?_))))))))
 ·rintro⟨hz,hf,⟨⟩⟩ hi;refine GI ?_;obtain⟨hj,rfl,hk,ha,hd⟩:=Cc hi;replace ha:Iv l s hf=some hk:=ha;unfold Iv at ha;refine Ak (Ad (wm Aa (wm Aa (wv (Bj (ys:=l) (enc:=eS) C7 Aa) (wv (Ci Aa Aa) (Ao (cz ha Aa (λhl hm=>?_) (λhl hn=>?_))))))))
  ·refine Aw (AE (Ak (A6 (Ad (wm Aa (wm Aa (ck hm λho hp=>wv (Bk (enc:=eS) (ys:=l) C7 CE Aa Aa ho) (wv (Bb Dp Aa Aa) (wm Aa (wv (BQ Aa Aa) (Ao (cz hp Aa (λhq hr=>?_) (λhq hs=>?_)))))))))))))
   ·refine Ad (wa Aa (Ao (Ap (A3 (Ab (Ab (Bg ?_)))))));have ht:=BC hr hd he;refine A3 (Ab ?_);obtain rfl:=Au ht;exact Aq (B2 Tryz.results21 (AD Aa)) sN ⟨Aa,Aa⟩
   refine Aw (AB (AE (Af (wm Aa (ck hs λhu hw=>wv (By Aa Aa hu) (wa Aa (Ah ?_)))))));have hx:=Bi hw hd;exact Ar (AC (hj,hf+1,()) ⟨hx,AeR _⟩ (AH.c Aa (AH.c Aa (AH.c Aa AH.nil))) sN)
  refine Bn (Av ?_);have hy:=BE hn hd he;exact Av (AY (AC ((),()) hy AH.nil sN))
 rintro⟨⟨⟩,⟨⟩⟩ hb;refine GX ?_;replace hb:KC =some r:=hb;unfold KC at hb;refine AW (AE (Ad (wa Aa (Ao (Ap ?_)))));obtain rfl:=Au hb;exact Aq (B2 Tryz.results21 (AD Aa)) sN ⟨Aa,Aa⟩
theorem ZF (F:Nat)(a:(List Ai))(b:(List Ai))(r:Bool)(h:Vu F a b=some r):Fn Tryz.prog GE 18 [AO 1 (A8 eS a),AO 1 (A8 eS b)] [] (λR H=>R=rB r∧H=[]):=by
 refine enter (n:=26) Tryz.func18 Aa Tryz.ntmps18 Aa (λw Z=>?_);unfold Vu at h;refine Ad (wa Aa (Ao (Ak (Ad (wm Aa (wv (Bj (ys:=a) (enc:=eS) C7 Aa) (wm Aa (wv (Bj (ys:=b) (enc:=eS) C7 Aa) (wv (CH Aa Aa) (Ao (cz h Aa (λc1 h2=>?_) (λc1 h3=>?_))))))))))))
 ·refine Ad (wa Aa (Ao (Ap (Ab ?_))));obtain rfl:=Au h2;exact Aq (B2 Tryz.results18 (AD Aa)) sN ⟨Aa,Aa⟩
 refine Aw (AE (Ak (Ad (wa Aa (Ao (A6 (ob h3 λhg hh he=>Br (S:=Nat×(Int)×(Unit)) (V:=(Unit)×(Unit)) 0 (λσ=>BX (λσ=>Lf a b σ) σ.1 σ.2.1=some hg) (λσ=>[(0,AO 1 (A8 eS a)),(1,AO 1 (A8 eS b)),(5,A4 σ.2.1)]) (λσ=>[]) (λσ=>σ.1) (F,0,()) hh (AH.c Aa (AH.c Aa (AH.c Aa AH.nil))) sN (λσ=>Le =some r) (λσ=>[]) (λσ=>[]) ?_ ?_)))))))
 ·rintro⟨h1,hf,⟨⟩⟩ hi;refine GI ?_;obtain⟨hj,rfl,hk,ha,hd⟩:=Cc hi;replace ha:Lf a b hf=some hk:=ha;unfold Lf at ha;refine Ak (Ad (wm Aa (wm Aa (wv (Bj (ys:=a) (enc:=eS) C7 Aa) (wv (Ci Aa Aa) (Ao (cz ha Aa (λhl hm=>?_) (λhl hn=>?_))))))))
  ·refine Aw (AE (Ak (A6 (Ak (ck hm λho hp=>ck hp λhq hr=>Du [0,1,5] ?_)))));refine rq (Am Aa) (rq (Am Aa) (rq (Bk (enc:=eS) (ys:=a) C7 CE Aa Aa ho) (rq (Bb Dp Aa Aa) (rq (Am Aa) (rq (Am Aa) (rq (Bk (enc:=eS) (ys:=b) C7 CE Aa Aa hq) (rq (Bb Dp Aa Aa) (rq (M4 Aa Aa) (re [25,0,1,5] ?_)))))))));refine AE (cz hr Aa (λhs ht=>?_) (λhs hu=>?_))
   ·refine Ad (wa Aa (Ao (Ap (A3 (Ab (Ab (Bg ?_)))))));have hw:=BC ht hd he;refine A3 (Ab ?_);obtain rfl:=Au hw;exact Aq (B2 Tryz.results18 (AD Aa)) sN ⟨Aa,Aa⟩
   refine Aw (AB (AE (Af (wm Aa (ck hu λhx hy=>wv (By Aa Aa hx) (wa Aa (Ah ?_)))))));have hz:=Bi hy hd;exact Ar (AC (hj,hf+1,()) ⟨hz,AeR _⟩ (AH.c Aa (AH.c Aa (AH.c Aa AH.nil))) sN)
  refine Bn (Av ?_);have h0:=BE hn hd he;exact Av (AY (AC ((),()) h0 AH.nil sN))
 rintro⟨⟨⟩,⟨⟩⟩ hb;refine GX ?_;replace hb:Le =some r:=hb;unfold Le at hb;refine AW (AE (Ad (wa Aa (Ao (Ap ?_)))));obtain rfl:=Au hb;exact Aq (B2 Tryz.results18 (AD Aa)) sN ⟨Aa,Aa⟩
theorem Vf (x:Ai)(r:Bool)(h:M0 x=some r):Fn Tryz.prog GE 125 [rS x] [] (λR H=>R=rB r∧H=[]):=by
 refine enter (n:=6) Tryz.func125 Aa Tryz.ntmps125 Aa (λw Z=>?_);unfold M0 at h;refine Ad (wa Aa (Bp (wm Aa (ob h λr1 e3 h2=>BP Tryz.call126 (PG x r1 e3) Aa (wv (BO Aa) (wa Aa (Ao (Ap ?_))))))));obtain rfl:=Au h2;exact Aq (B2 Tryz.results125 (AD Aa)) sN ⟨Aa,Aa⟩
theorem X6 (ha:Nat)(x:Ai)(s:Ai)(r:Bool)(h:O2 x s=some r):Fn Tryz.prog GE 127 [rS x,rP ha 0] [.blk ha [rS s] 9] (λR H=>R=rB r∧H=[.blk ha [rS s] 9]):=by
 refine enter (n:=7) Tryz.func127 Aa Tryz.ntmps127 Aa (λw Z=>?_);unfold O2 at h;refine Ad (wa Aa (Bp (wm Aa (vL 0 Dp Aa (ob h λr1 e3 h2=>BP Tryz.call128 (Vt x s r1 e3) Aa (wa Aa (Ao (Ap ?_))))))));obtain rfl:=Au h2;exact Aq (B2 Tryz.results127 (AD Aa)) (sC sN) ⟨Aa,Aa⟩
theorem Abs (F:Nat)(ys:(List Ai))(r:Int)(h:Wx F ys=some r):Fn Tryz.prog GE 173 [AO 1 (A8 eS ys),rv (.func (.func 125) #[] #[])] [] (λR H=>R=A4 r∧H=[]):=by
 refine enter (n:=19) Tryz.func173 Aa Tryz.ntmps173 Aa (λw Z=>?_);unfold Wx at h;refine Ad (wa Aa (Ao (Ak (Ad (wm Aa (wv (Bj (ys:=ys) (enc:=eS) C7 Aa) (wv (r:=A4 0) (Am Aa) (Ao (A6 (ob h λhg hh hf=>Br (S:=Nat×(Int)×(Unit)) (V:=(Unit)×(Unit)) 0 (λσ=>BX (λσ=>It ys σ) σ.1 σ.2.1=some hg) (λσ=>[(0,AO 1 (A8 eS ys)),(1,rv (.func (.func 125) #[] #[])),(7,A4 (ys.length:Int)),(8,A4 σ.2.1)]) (λσ=>[]) (λσ=>σ.1) (F,0,()) hh (AH.c Aa (AH.c Aa (AH.c Aa (AH.c Aa AH.nil)))) sN (λσ=>K9 =some r) (λσ=>[]) (λσ=>[]) ?_ ?_))))))))))
 ·rintro⟨h2,ha,⟨⟩⟩ hi;refine GI ?_;obtain⟨hj,rfl,hk,hb,he⟩:=Cc hi;replace hb:It ys ha=some hk:=hb;unfold It at hb;refine Ad (wv (Ci Aa Aa) (Ao (Ak (cz hb Aa (λhl hm=>?_) (λhl hn=>?_)))))
  ·refine Aw (AE (Ak (A6 (Ad (wm Aa (wa Aa (Bp (wm Aa (wm Aa (wm Aa (ck hm λho hp=>wv (Bk (enc:=eS) (ys:=ys) C7 CE Aa Aa ho) (wv (Bb Dp Aa Aa) (ob hp λhq hr hs=>Hw (rs:=[rS (Ax ys ha)]) (Hin:=[]) (Hr:=[]) Tryz.call125 Aa Aa (Afd _) (Vf (Ax ys ha) hq hr) Aa ?_)))))))))))));rintro _ _ ⟨rfl,rfl⟩;refine Ao (cz hs Aa (λht hu=>?_) (λht hw=>?_))
   ·refine Ad (wm Aa (wa Aa (Ao (Ap (A3 (Ab (Ab (Bg ?_))))))));have hx:=BC hu he hf;refine A3 (Ab ?_);obtain rfl:=Au hx;exact Aq (B2 VL (AD Aa)) sN ⟨Aa,Aa⟩
   refine Aw (AB (AE (Af (ck hw λhy hz=>wv (By Aa Aa hy) (wm Aa (Ah ?_))))));have h0:=Bi hz he;exact Ar (AC (hj,ha+1,()) ⟨h0,AeR _⟩ (AH.c Aa (AH.c Aa (AH.c Aa (AH.c Aa AH.nil)))) sN)
  refine Bn (Av ?_);have h1:=BE hn he hf;exact Av (AY (AC ((),()) h1 AH.nil sN))
 rintro⟨⟨⟩,⟨⟩⟩ hd;refine GX ?_;replace hd:K9 =some r:=hd;unfold K9 at hd;refine AW (AE (Ad (wv (r:=A4 (-1)) (A0 Aa) (Ao (Ap ?_)))));obtain rfl:=Au hd;exact Aq (B2 VL (AD Aa)) sN ⟨Aa,Aa⟩
theorem ZH (F:Nat)(ys:(List Ai))(r:Bool)(h:N3 F ys=some r):Fn Tryz.prog GE 124 [AO 1 (A8 eS ys),rv (.func (.func 125) #[] #[])] [] (λR H=>R=rB r∧H=[]):=by
 refine enter (n:=9) Tryz.func124 Aa Tryz.ntmps124 Aa (λw Z=>?_);unfold N3 at h;refine Ad (wa Aa (Bp (wm Aa (wm Aa (ob h λr1 e3 h2=>BP Tryz.call173 (Abs F ys r1 e3) Aa (wv (DP Aa Aa) (wa Aa (Ao (Ap ?_)))))))));obtain rfl:=Au h2;exact Aq (B2 Tryz.results124 (AD Aa)) sN ⟨Aa,Aa⟩
theorem Z8 (F:Nat)(ha:Nat)(ys:(List Ai))(s:Ai)(r:Int)(h:Sc F ys s=some r):Fn Tryz.prog GE 173 [AO 1 (A8 eS ys),rv (.func (.func 127) #[] #[(.pointer (some ⟨ha,0,none⟩))])] [.blk ha [rS s] 9] (λR H=>R=A4 r∧H=[.blk ha [rS s] 9]):=by
 refine enter (n:=19) Tryz.func173 Aa Tryz.ntmps173 Aa (λw Z=>?_);unfold Sc at h;refine Ad (wa Aa (Ao (Ak (Ad (wm Aa (wv (Bj (ys:=ys) (enc:=eS) C7 Aa) (wv (r:=A4 0) (Am Aa) (Ao (A6 (ob h λhh hi hg=>Br (S:=Nat×(Int)×(Unit)) (V:=(Unit)×(Unit)) 0 (λσ=>BX (λσ=>Hg ys s σ) σ.1 σ.2.1=some hh) (λσ=>[(0,AO 1 (A8 eS ys)),(1,rv (.func (.func 127) #[] #[(.pointer (some ⟨ha,0,none⟩))])),(7,A4 (ys.length:Int)),(8,A4 σ.2.1)]) (λσ=>[.blk ha [rS s] 9]) (λσ=>σ.1) (F,0,()) hi (AH.c Aa (AH.c Aa (AH.c Aa (AH.c Aa AH.nil)))) (sC sN) (λσ=>Jp =some r) (λσ=>[]) (λσ=>[.blk ha [rS s] 9]) ?_ ?_))))))))))
 ·rintro⟨h3,hb,⟨⟩⟩ hj;refine GI ?_;obtain⟨hk,rfl,hl,hd,hf⟩:=Cc hj;replace hd:Hg ys s hb=some hl:=hd;unfold Hg at hd;refine Ad (wv (Ci Aa Aa) (Ao (Ak (cz hd Aa (λhm hn=>?_) (λhm ho=>?_)))))
  ·refine Aw (AE (Ak (A6 (Ad (wm Aa (wa Aa (Bp (wm Aa (wm Aa (wm Aa (ck hn λhp hq=>wv (Bk (enc:=eS) (ys:=ys) C7 CE Aa Aa hp) (wv (Bb Dp Aa Aa) (ob hq λhr hs ht=>Hw (rs:=[rS (Ax ys hb)]) (Hin:=[.blk ha [rS s] 9]) (Hr:=[]) Tryz.call127 Aa Aa (Afd _) (X6 ha (Ax ys hb) s hr hs) Aa ?_)))))))))))));rintro _ _ ⟨rfl,rfl⟩;refine Ao (cz ht Aa (λhu hw=>?_) (λhu hx=>?_))
   ·refine Ad (wm Aa (wa Aa (Ao (Ap (A3 (Ab (Ab (Bg ?_))))))));have hy:=BC hw hf hg;refine A3 (Ab ?_);obtain rfl:=Au hy;exact Aq (B2 VL (AD Aa)) (sC sN) ⟨Aa,Aa⟩
   refine Aw (AB (AE (Af (ck hx λhz h0=>wv (By Aa Aa hz) (wm Aa (Ah ?_))))));have h1:=Bi h0 hf;exact Ar (AC (hk,hb+1,()) ⟨h1,AeR _⟩ (AH.c Aa (AH.c Aa (AH.c Aa (AH.c Aa AH.nil)))) (sC sN))
  refine Bn (Av ?_);have h2:=BE ho hf hg;exact Av (AY (AC ((),()) h2 AH.nil (sC sN)))
 rintro⟨⟨⟩,⟨⟩⟩ he;refine GX ?_;replace he:Jp =some r:=he;unfold Jp at he;refine AW (AE (Ad (wv (r:=A4 (-1)) (A0 Aa) (Ao (Ap ?_)))));obtain rfl:=Au he;exact Aq (B2 VL (AD Aa)) (sC sN) ⟨Aa,Aa⟩
theorem XP (F:Nat)(ha:Nat)(ys:(List Ai))(s:Ai)(r:Bool)(h:ME F ys s=some r):Fn Tryz.prog GE 124 [AO 1 (A8 eS ys),rv (.func (.func 127) #[] #[(.pointer (some ⟨ha,0,none⟩))])] [.blk ha [rS s] 9] (λR H=>R=rB r∧H=[.blk ha [rS s] 9]):=by
 refine enter (n:=9) Tryz.func124 Aa Tryz.ntmps124 Aa (λw Z=>?_);unfold ME at h;refine Ad (wa Aa (Bp (wm Aa (wm Aa (ob h λr1 e3 h2=>J3 [0] Tryz.call173 (Z8 F ha ys s r1 e3) ?_)))));rintro _ _ ⟨rfl,rfl⟩;refine wv (DP Aa Aa) (wa Aa (Ao (Ap ?_)));obtain rfl:=Au h2;exact Aq (B2 Tryz.results124 (AD Aa)) (sC sN) ⟨Aa,Aa⟩
theorem QN (F:Nat)(s:Aj)(r:Int)(h:Gw F s=some r):Fn Tryz.prog GE 74 [B9 (Al s)] [] (λR H=>R=A4 r∧H=[]):=by
 refine enter (n:=37) Tryz.func74 Aa Tryz.ntmps74 Aa (λw Z=>?_);unfold Gw at h;refine Ad (BM Aa Aa (λb1=>?_));refine wa Aa (Bp (vF Gh Aa Dn (vL 0 E5 Aa (vF Gh Aa Dn (vL 0 E5 Aa (Bc (ys:=([s.fActions,s.fResources]:List (List Ai))) (enc:=IN) (css:=[[AO 1 (A8 eS s.fActions)],[AO 1 (A8 eS s.fResources)]]) (xs:=[.tmp 9,.tmp 11]) SJ Dn Tryz.zeroValue22 Aa Aa Aa ⟨Ez.one Aa (Up.refl _),Ez.one Aa (Up.refl _),trivial⟩ Aa V5 Aa Aa Aa (λb2=>?_)))))));refine wa Aa (Ao (Ak (Ad (wm Aa (wv (D3 (ys:=([s.fActions,s.fResources]:List (List Ai))) (enc:=IN) (i:=0) SJ Aa Aa) (wv (r:=A4 0) (Am Aa) (Ao (A6 (ob h λho hp hk=>Br (S:=Nat×(Int)×(Unit)) (V:=(Unit)×(Unit)) 0 (λσ=>BX (λσ=>G1 s σ) σ.1 σ.2.1=some ho) (λσ=>[(3,rv (.slice (some ⟨b2,0,none⟩) 2 2)),(13,rv (.slice (some ⟨b2,0,none⟩) 2 2)),(14,A4 (([s.fActions,s.fResources]:List (List Ai)).length:Int)),(15,A4 σ.2.1)]) (λσ=>[.row (.slice (some ⟨b2,0,none⟩) 2 2) 22 1 (A8 IN ([s.fActions,s.fResources]:List (List Ai)))]) (λσ=>σ.1) (F,0,()) hp (AH.c Aa (AH.c Aa (AH.c Aa (AH.c Aa AH.nil)))) (sC (sS sN)) (λσ=>Il F s =some r) (λσ=>[(3,rv (.slice (some ⟨b2,0,none⟩) 2 2))]) (λσ=>[.row (.slice (some ⟨b2,0,none⟩) 2 2) 22 1 (A8 IN ([s.fActions,s.fResources]:List (List Ai)))]) ?_ ?_)))))))))
 ·rintro⟨hS,ha,⟨⟩⟩ hq;refine GI ?_;obtain⟨hr,rfl,hs,he,hi⟩:=Cc hq;replace he:G1 s ha=some hs:=he;unfold G1 at he;refine Ad (wv (Ci Aa Aa) (Ao (Ak (cz he Aa (λht hu=>?_) (λht hw=>?_)))))
  ·refine Aw (AE (Ak (A6 (Ad (ck hu λhl hx=>wv (r:=rv (Gl 1 (.slice (some ⟨b2,0,none⟩) 2 2) (Ca ha) 0)) (EM (i:=0) SJ Dn Aa Aa Aa (BI hl)) (wv (r:=AO 1 (A8 eS (Ax ([s.fActions,s.fResources]:List (List Ai)) ha))) (Ip (enc:=IN) (ys:=([s.fActions,s.fResources]:List (List Ai))) (i:=0) (j:=ha) E5 Aa Aa hl Aa) (wa Aa (Ao (A5 [(3,rv (.slice (some ⟨b2,0,none⟩) 2 2)),(13,rv (.slice (some ⟨b2,0,none⟩) 2 2)),(14,A4 (([s.fActions,s.fResources]:List (List Ai)).length:Int)),(15,A4 ha),(26,rB ((decide (((Ax ([s.fActions,s.fResources]:List (List Ai)) ha).length:Int)<1))||(decide (8<((Ax ([s.fActions,s.fResources]:List (List Ai)) ha).length:Int)))))] [.row (.slice (some ⟨b2,0,none⟩) 2 2) 22 1 (A8 IN ([s.fActions,s.fResources]:List (List Ai)))] ?_ ?_)))))))))
   ·refine Af (wm Aa (wv (Bj (ys:=Ax ([s.fActions,s.fResources]:List (List Ai)) ha) (enc:=eS) C7 Aa) (wv (Ci Aa Aa) (wm Aa (AA (decide (((Ax ([s.fActions,s.fResources]:List (List Ai)) ha).length:Int)<1)) (λhb=>?_) (λhb=>?_))))))
    ·refine wf hb (wf hb (wf hb (wv (r:=rB true) (An Aa hb Aa) (Ah ?_))));exact BH hb
    refine wo hb (wm Aa (wo hb (wv (Bj (ys:=Ax ([s.fActions,s.fResources]:List (List Ai)) ha) (enc:=eS) C7 Aa) (wo hb (wv (Dc Aa Aa) (Ep Aa hb Aa (Ah ?_)))))));exact BH hb
   refine cz hx Aa (λhy hz=>?_) (λhy h0=>?_)
   ·refine Ad (wa Aa (Ao (Ap (A3 (Ab (Ab (Bg ?_)))))));have h1:=BC hz hi hk;refine A3 (Ab ?_);obtain rfl:=Au h1;exact Aq (B2 Tryz.results74 (AD Aa)) (sS sN) ⟨Aa,Aa⟩
   refine Aw (AB (AE (Af (ck h0 λh2 h3=>wv (By Aa Aa h2) (wm Aa (Ah ?_))))));have h4:=Bi h3 hi;exact Ar (AC (hr,ha+1,()) ⟨h4,AeR _⟩ (AH.c Aa (AH.c Aa (AH.c Aa (AH.c Aa AH.nil)))) (sC sN))
  refine Bn (Av ?_);have h5:=BE hw hi hk;exact Av (AY (AC ((),()) h5 (AH.c Aa AH.nil) (sC sN)))
 rintro⟨⟨⟩,⟨⟩⟩ hf;refine GX ?_;replace hf:Il F s =some r:=hf;unfold Il at hf;refine AW (AE (Ak (Ad (wm Aa (wv (D3 (ys:=([s.fActions,s.fResources]:List (List Ai))) (enc:=IN) (i:=0) SJ Aa Aa) (wv (r:=A4 0) (Am Aa) (Ao (A6 (ob hf λh6 h7 hm=>Br (S:=Nat×(Int)×(Unit)) (V:=(Unit)×(Unit)) 2 (λσ=>BX (λσ=>G0 F s σ) σ.1 σ.2.1=some h6) (λσ=>[(28,rv (.slice (some ⟨b2,0,none⟩) 2 2)),(29,A4 (([s.fActions,s.fResources]:List (List Ai)).length:Int)),(30,A4 σ.2.1)]) (λσ=>[.row (.slice (some ⟨b2,0,none⟩) 2 2) 22 1 (A8 IN ([s.fActions,s.fResources]:List (List Ai)))]) (λσ=>σ.1) (F,0,()) h7 (AH.c Aa (AH.c Aa (AH.c Aa AH.nil))) (sC sN) (λσ=>Ik =some r) (λσ=>[]) (λσ=>[]) ?_ ?_)))))))))
 ·rintro⟨hT,hd,⟨⟩⟩ h8;refine GI ?_;obtain⟨h9,rfl,hA,hg,hj⟩:=Cc h8;replace hg:G0 F s hd=some hA:=hg;unfold G0 at hg;refine Ad (wv (Ci Aa Aa) (Ao (Ak (cz hg Aa (λhB hC=>?_) (λhB hD=>?_)))))
  ·refine Aw (AE (Ak (A6 (Ad (ck hC λhn hE=>wv (r:=rv (Gl 1 (.slice (some ⟨b2,0,none⟩) 2 2) (Ca hd) 0)) (EM (i:=0) SJ Dn Aa Aa Aa (BI hn)) (wv (r:=AO 1 (A8 eS (Ax ([s.fActions,s.fResources]:List (List Ai)) hd))) (Ip (enc:=IN) (ys:=([s.fActions,s.fResources]:List (List Ai))) (i:=0) (j:=hd) E5 Aa Aa hn Aa) (wa Aa (Bp (wm Aa (ob hE λhG hH hI=>BP Tryz.call124 (ZH F (Ax ([s.fActions,s.fResources]:List (List Ai)) hd) hG hH) Aa (Ao (cz hI Aa (λhJ hK=>?_) (λhJ hL=>?_)))))))))))))
   ·refine Ad (wa Aa (Ao (Ap (A3 (Ab (Ab (Bg ?_)))))));have hN:=BC hK hj hm;refine A3 (Ab ?_);obtain rfl:=Au hN;exact Aq (B2 Tryz.results74 (AD Aa)) (sS sN) ⟨Aa,Aa⟩
   refine Aw (AB (AE (Af (ck hL λhO hP=>wv (By Aa Aa hO) (wm Aa (Ah ?_))))));have hQ:=Bi hP hj;exact Ar (AC (h9,hd+1,()) ⟨hQ,AeR _⟩ (AH.c Aa (AH.c Aa (AH.c Aa AH.nil))) (sC sN))
  refine Bn (Av ?_);have hR:=BE hD hj hm;exact Av (AY (AC ((),()) hR AH.nil (sS sN)))
 rintro⟨⟨⟩,⟨⟩⟩ hh;refine GX ?_;replace hh:Ik =some r:=hh;unfold Ik at hh;refine AW (AE (Ad (wa Aa (Ao (Ap ?_)))));obtain rfl:=Au hh;exact Aq (B2 Tryz.results74 (AD Aa)) sN ⟨Aa,Aa⟩
theorem Tx (F:Nat)(l:(List Ai))(s:Ai)(r:Bool)(h:GM F l s=some r):Fn Tryz.prog GE 75 [AO 1 (A8 eS l),rS s] [] (λR H=>R=rB r∧H=[]):=by
 refine enter (n:=8) Tryz.func75 Aa Tryz.ntmps75 Aa (λw Z=>?_);unfold GM at h;refine Ad (OQ Aa (BR Aa) Aa (λb1=>?_));refine wa Aa (Bp (wm Aa (wv (r:=rv (.func (.func 127) #[] #[(.pointer (some ⟨b1,0,none⟩))])) (Io Aa) (ob h λr2 e4 h3=>J3 [0] Tryz.call124 (XP F b1 l s r2 e4) ?_))));rintro _ _ ⟨rfl,rfl⟩;refine wa Aa (Ao (Ap ?_));obtain rfl:=Au h3;exact Aq (B2 Tryz.results75 (AD Aa)) (sS sN) ⟨Aa,Aa⟩
theorem X7 (F:Nat)(hb:Nat)(hd:Nat)(he:Nat)(x:Aj)(allow:Bool)(action:Ai)(resource:Ai)(r:Bool)(h:Mz F x allow action resource=some r):Fn Tryz.prog GE 73 [B9 (Al x),rP hb 0,rP hd 0,rP he 0] [.blk hb [rB allow] 4,.blk hd [rS action] 9,.blk he [rS resource] 9] (λR H=>R=rB r∧H=[.blk hb [rB allow] 4,.blk hd [rS action] 9,.blk he [rS resource] 9]):=by
 refine enter (n:=27) Tryz.func73 Aa Tryz.ntmps73 Aa (λw Z=>?_);unfold Mz at h;refine Ad (BM Aa Aa (λb1=>?_));refine wa Aa (Ao (ck h λg2 h3=>ck h3 λg4 h5=>ck h5 λg6 h7=>A5 [(5,rB ((x.fAllow ==allow)&&((decide ((ov (Gw F x))=0))&&((ov (GM F x.fActions action))&&(ov (GM F x.fResources resource))))))] [.blk hb [rB allow] 4,.blk hd [rS action] 9,.blk he [rS resource] 9] ?_ ?_))
 ·refine Af (vF Gh Aa Jz (vL 0 Qg Aa (vL 1 Qg Aa (wv (r:=rB (x.fAllow ==allow)) (Zp Tryz.underlying4 Aa Aa) (wm Aa (AA (x.fAllow ==allow) (λc8=>?_) (λc8=>?_)))))))
  ·refine wo c8 (wv (Be (i:=0) LZ En Aa Aa Aa Aa) (wo c8 (BP Tryz.call74 (QN F x (ov (Gw F x)) (Cr (BF g2 c8))) Aa (wo c8 (wv (B7 Aa Aa) (E0 Aa c8 Aa (wm Aa (AA (decide ((ov (Gw F x))=0)) (λc9=>?_) (λc9=>?_)))))))))
   ·refine wo c9 (vF Gh Aa Dn (wo c9 (vL 0 E5 Aa (wo c9 (vL 2 Dp Aa (wo c9 (BP Tryz.call75 (Tx F x.fActions action (ov (GM F x.fActions action)) (Cr (BF (BF g4 c8) c9))) Aa (E0 Aa c9 Aa (wm Aa (AA ((ov (GM F x.fActions action))) (λha=>?_) (λha=>?_)))))))))))
    ·refine wo ha (vF Gh Aa Dn (wo ha (vL 0 E5 Aa (wo ha (vL 3 Dp Aa (wo ha (BP Tryz.call75 (Tx F x.fResources resource (ov (GM F x.fResources resource)) (Cr (BF (BF (BF g6 c8) c9) ha))) Aa (E0 Aa ha Aa (wa Aa (Ah ?_))))))))));exact BH (And.intro c8 (And.intro c9 ha))
    refine wf ha (wf ha (wf ha (wf ha (wv (r:=rB false) (Ay Aa ha Aa) (wa Aa (Ah ?_))))));exact BH (And.intro c8 (And.intro c9 ha))
   refine wf c9 (wf c9 (wf c9 (wf c9 (wv (r:=rB false) (Ay Aa c9 Aa) (wm Aa (wz Aa Aa (wz Aa Aa (wz Aa Aa (wz Aa Aa (wv (r:=rB false) (Ay (b:=false) Aa Aa Aa) (wa Aa (Ah ?_))))))))))));exact BH (And.intro c8 c9)
  refine wf c8 (wf c8 (wf c8 (wv (r:=rB false) (Ay Aa c8 Aa) (wm Aa (wz Aa Aa (wz Aa Aa (wz Aa Aa (wz Aa Aa (wv (r:=rB false) (Ay (b:=false) Aa Aa Aa) (wm Aa (wz Aa Aa (wz Aa Aa (wz Aa Aa (wz Aa Aa (wv (r:=rB false) (Ay (b:=false) Aa Aa Aa) (wa Aa (Ah ?_)))))))))))))))));exact BH c8
 refine Ap ?_;obtain rfl:=Au h7;exact Aq (B2 Tryz.results73 (AD Aa)) (sC (sC (sC sN))) ⟨Aa,Aa⟩
theorem Abq (F:Nat)(ha:Nat)(hb:Nat)(hd:Nat)(ys:(List Aj))(allow:Bool)(action:Ai)(resource:Ai)(r:Int)(h:TR F ys allow action resource=some r):Fn Tryz.prog GE 72 [AO 3 (A8 Al ys),rv (.func (.func 73) #[] #[(.pointer (some ⟨ha,0,none⟩)),(.pointer (some ⟨hb,0,none⟩)),(.pointer (some ⟨hd,0,none⟩))])] [.blk ha [rB allow] 4,.blk hb [rS action] 9,.blk hd [rS resource] 9] (λR H=>R=A4 r∧H=[.blk ha [rB allow] 4,.blk hb [rS action] 9,.blk hd [rS resource] 9]):=by
 refine enter (n:=19) Tryz.func72 Aa Tryz.ntmps72 Aa (λw Z=>?_);unfold TR at h;refine Ad (wa Aa (Ao (Ak (Ad (wm Aa (wv (Bj (ys:=ys) (enc:=Al) Id Aa) (wv (r:=A4 0) (Am Aa) (Ao (A6 (ob h λhj hk hi=>Br (S:=Nat×(Int)×(Unit)) (V:=(Unit)×(Unit)) 0 (λσ=>BX (λσ=>Is F ys allow action resource σ) σ.1 σ.2.1=some hj) (λσ=>[(0,AO 3 (A8 Al ys)),(1,rv (.func (.func 73) #[] #[(.pointer (some ⟨ha,0,none⟩)),(.pointer (some ⟨hb,0,none⟩)),(.pointer (some ⟨hd,0,none⟩))])),(7,A4 (ys.length:Int)),(8,A4 σ.2.1)]) (λσ=>[.blk ha [rB allow] 4,.blk hb [rS action] 9,.blk hd [rS resource] 9]) (λσ=>σ.1) (F,0,()) hk (AH.c Aa (AH.c Aa (AH.c Aa (AH.c Aa AH.nil)))) (sC (sC (sC sN))) (λσ=>K8 =some r) (λσ=>[]) (λσ=>[.blk ha [rB allow] 4,.blk hb [rS action] 9,.blk hd [rS resource] 9]) ?_ ?_))))))))))
 ·rintro⟨h5,he,⟨⟩⟩ hl;refine GI ?_;obtain⟨hm,rfl,hn,hf,hh⟩:=Cc hl;replace hf:Is F ys allow action resource he=some hn:=hf;unfold Is at hf;refine Ad (wv (Ci Aa Aa) (Ao (Ak (cz hf Aa (λho hp=>?_) (λho hq=>?_)))))
  ·refine Aw (AE (Ak (A6 (Ad (wm Aa (wa Aa (Bp (wm Aa (wm Aa (wm Aa (ck hp λhr hs=>wv (Bk (enc:=Al) (ys:=ys) Id En Aa Aa hr) (wv (Cu LZ En Aa Aa Aa) (ob hs λht hu hw=>Hw (rs:=[B9 (Al (Ax ys he))]) (Hin:=[.blk ha [rB allow] 4,.blk hb [rS action] 9,.blk hd [rS resource] 9]) (Hr:=[]) Tryz.call73 Aa Aa (Afd _) (X7 F ha hb hd (Ax ys he) allow action resource ht hu) Aa ?_)))))))))))));rintro _ _ ⟨rfl,rfl⟩;refine Ao (cz hw Aa (λhx hy=>?_) (λhx hz=>?_))
   ·refine Ad (wm Aa (wa Aa (Ao (Ap (A3 (Ab (Ab (Bg ?_))))))));have h0:=BC hy hh hi;refine A3 (Ab ?_);obtain rfl:=Au h0;exact Aq (B2 Tryz.results72 (AD Aa)) (sC (sC (sC sN))) ⟨Aa,Aa⟩
   refine Aw (AB (AE (Af (ck hz λh1 h2=>wv (By Aa Aa h1) (wm Aa (Ah ?_))))));have h3:=Bi h2 hh;exact Ar (AC (hm,he+1,()) ⟨h3,AeR _⟩ (AH.c Aa (AH.c Aa (AH.c Aa (AH.c Aa AH.nil)))) (sC (sC (sC sN))))
  refine Bn (Av ?_);have h4:=BE hq hh hi;exact Av (AY (AC ((),()) h4 AH.nil (sC (sC (sC sN)))))
 rintro⟨⟨⟩,⟨⟩⟩ hg;refine GX ?_;replace hg:K8 =some r:=hg;unfold K8 at hg;refine AW (AE (Ad (wv (r:=A4 (-1)) (A0 Aa) (Ao (Ap ?_)))));obtain rfl:=Au hg;exact Aq (B2 Tryz.results72 (AD Aa)) (sC (sC (sC sN))) ⟨Aa,Aa⟩
theorem Tz (F:Nat)(hd:Nat)(ha:Nat)(hb:Nat)(allow:Bool)(l:(List Aj))(action:Ai)(resource:Ai)(r:Int)(h:Pv F allow l action resource=some r):Fn Tryz.prog GE 71 [rB allow,rP hd 0,rP ha 0,rP hb 0] [.blk hd [AO 3 (A8 Al l)] 23,.blk ha [rS action] 9,.blk hb [rS resource] 9] (λR H=>R=A4 r∧H=[.blk hd [AO 3 (A8 Al l)] 23,.blk ha [rS action] 9,.blk hb [rS resource] 9]):=by
 refine enter (n:=9) Tryz.func71 Aa Tryz.ntmps71 Aa (λw Z=>?_);unfold Pv at h;refine Ad (OQ Aa (BR Aa) Aa (λb1=>?_));refine wa Aa (Bp (vL 1 Lp Aa (wv (r:=rv (.func (.func 73) #[] #[(.pointer (some ⟨b1,0,none⟩)),(.pointer (some ⟨ha,0,none⟩)),(.pointer (some ⟨hb,0,none⟩))])) (Io Aa) (ob h λr2 e4 h3=>J3 [0,1,1] Tryz.call72 (Abq F b1 ha hb l allow action resource r2 e4) ?_))));rintro _ _ ⟨rfl,rfl⟩;refine wa Aa (Ao (Ap (NH [3,1,1] ?_)));obtain rfl:=Au h3;exact Aq (B2 Tryz.results71 (AD Aa)) (sC (sC (sC (sS sN)))) ⟨Aa,Aa⟩
theorem Vd (F:Nat)(l:(List Aj))(action:Ai)(resource:Ai)(r:BA)(h:Kw F l action resource=some r):Fn Tryz.prog GE 22 [AO 3 (A8 Al l),rS action,rS resource] [] (λR H=>R=B9 (Gr r)∧H=[]):=by
 refine enter (n:=23) Tryz.func22 Aa Tryz.ntmps22 Aa (λw Z=>?_);unfold Kw at h;refine Ad (OQ Aa (BR Aa) Aa (λb1=>?_));refine OQ Aa (BR Aa) Aa (λb2=>?_);refine OQ Aa (BR Aa) Aa (λb3=>?_);refine BL (cs:=[rB false,A4 0]) Yo Aa Aa (λb4=>?_);refine Bp (wv (r:=rv (.func (.func 71) #[] #[(.pointer (some ⟨b1,0,none⟩)),(.pointer (some ⟨b2,0,none⟩)),(.pointer (some ⟨b3,0,none⟩))])) (Io Aa) (wa Aa (Ao (Ak (Ad (wm Aa (ob h λr5 e7 h6=>Hw (rs:=[rB false]) (Hin:=[.blk b1 [AO 3 (A8 Al l)] 23,.blk b2 [rS action] 9,.blk b3 [rS resource] 9]) (Hr:=[.blk b4 [rB false,A4 0] 63]) Tryz.call71 Aa Aa ((AZ (i:=3) Aa).trans (Aff _ ((AZ (i:=2) Aa).trans (Aff _ ((AZ (i:=1) Aa).trans (Aff _ (Afd _))))))) (Tz F b1 b2 b3 false l action resource r5 e7) Aa ?_)))))));rintro _ _ ⟨rfl,rfl⟩;refine wa Aa (Bp (wm Aa (wv (DP Aa Aa) (Ao (cz h6 Aa (λc8 h9=>?_) (λc8 hb=>?_))))))
 ·refine Ad (wm Aa (wv (r:=B9 [rB false,A4 r5]) (Kx Aa Aa) (GU (i:=3) Kb Aa Aa Aa (B8.c Aa) Aa Aa ?_)));refine Ao (Ap (Ab ?_));obtain rfl:=Au h9;exact Aq (B2 Tryz.results22 (Dv (i:=3) ST Kb Aa Aa Aa)) (sS (sS (sS (sS sN)))) ⟨Aa,Aa⟩
 refine Aw (AE (Ad (wm Aa (ob hb λha hd he=>Hw (rs:=[rB true]) (Hin:=[.blk b1 [AO 3 (A8 Al l)] 23,.blk b2 [rS action] 9,.blk b3 [rS resource] 9]) (Hr:=[.blk b4 [rB false,A4 0] 63]) Tryz.call71 Aa Aa (Afd _) (Tz F b1 b2 b3 true l action resource ha hd) Aa ?_))));rintro _ _ ⟨rfl,rfl⟩;refine wa Aa (Bp (wm Aa (wv (DP Aa Aa) (wm Aa (wv (r:=B9 [rB (decide (0≤ha)),A4 ha]) (Gq Aa Aa Aa Aa) (GU (i:=3) Kb Aa Aa Aa (B8.c Aa) Aa Aa ?_))))));refine Ao (Ap ?_);obtain rfl:=Au he;exact Aq (B2 Tryz.results22 (Dv (i:=3) ST Kb Aa Aa Aa)) (sS (sS (sS (sS sN)))) ⟨Aa,Aa⟩
theorem K1 (n:Int)(low:Int)(high:Int)(r:Bool)(h:D9 n low high=some r):Fn Tryz.prog GE 137 [A4 n,A4 low,A4 high] [] (λR H=>R=rB r∧H=[]):=by
 refine enter (n:=15) Tryz.func137 Aa Tryz.ntmps137 Aa (λw Z=>?_);unfold D9 at h;refine Ad (wa Aa (Ao (A5 [(6,rB ((decide (low≤n))&&(decide (n≤high))))] [] ?_ ?_)))
 ·refine Af (wm Aa (wm Aa (wv (DP Aa Aa) (wm Aa (AA (decide (low≤n)) (λc1=>?_) (λc1=>?_))))))
  ·refine wo c1 (wm Aa (wo c1 (wm Aa (wo c1 (wv (Hf Aa Aa) (E0 Aa c1 Aa (wa Aa (Ah ?_))))))));exact BH c1
  refine wf c1 (wf c1 (wf c1 (wv (r:=rB false) (Ay Aa c1 Aa) (wa Aa (Ah ?_)))));exact BH c1
 refine Ap ?_;obtain rfl:=Au h;exact Aq (B2 Tryz.results137 (AD Aa)) sN ⟨Aa,Aa⟩
theorem P3 (bits:Int)(r:Int)(h:Eg bits=some r):Fn Tryz.prog GE 138 [A4 bits] [] (λR H=>R=A4 r∧H=[]):=by
 refine enter (n:=7) Tryz.func138 Aa Tryz.ntmps138 Aa (λw Z=>?_);unfold Eg at h;refine Ad (wa Aa (Bp (wm Aa (ck h λg1 h2=>wv (Gi Aa Aa g1) (ck h2 λg3 h4=>wv (r:=A4 (HE .i64 1 (32-bits))) (Wl Aa Aa g3) (ck h4 λg5 h6=>wv (Gi Aa Aa g5) (wa Aa (Ao (Ap ?_)))))))));obtain rfl:=Au h6;exact Aq (B2 Tryz.results138 (AD Aa)) sN ⟨Aa,Aa⟩
theorem KY (q:AI)(r:Int)(h:DA q=some r):Fn Tryz.prog GE 86 [B9 (A1 q)] [] (λR H=>R=A4 r∧H=[]):=by
 refine enter (n:=34) Tryz.func86 Aa Tryz.ntmps86 Aa (λw Z=>?_);unfold DA at h;refine Ad (BM Aa Aa (λb1=>?_));refine wa Aa (Ao (Ak (ck h λg2 h3=>ck h3 λg4 h5=>ck h5 λg6 h7=>ck h7 λg8 h9=>A5 [(1,rP b1 0),(26,rB ((!(ov (D9 q.fAddr 0 4294967295)))||((!(ov (D9 q.fBits 0 32)))||((!(ov (D9 q.fLow 1 65535)))||(!(ov (D9 q.fHigh q.fLow 65535)))))))] [.blk b1 (A1 q) 111] ?_ ?_)))
 ·refine Af (vF CT Aa CK (vL 0 Df Aa (BP NE (K1 q.fAddr 0 4294967295 (ov (D9 q.fAddr 0 4294967295)) (Cr g2)) Aa (wv (BO Aa) (wm Aa (AA (!(ov (D9 q.fAddr 0 4294967295))) (λha=>?_) (λha=>?_)))))))
  ·refine wf ha (wf ha (wf ha (wf ha (wv (r:=rB true) (An Aa ha Aa) (wm Aa (wz Aa Aa (wz Aa Aa (wz Aa Aa (wz Aa Aa (wv (r:=rB true) (An (b:=true) Aa Aa Aa) (wm Aa (wz Aa Aa (wz Aa Aa (wz Aa Aa (wz Aa Aa (wz Aa Aa (wz Aa Aa (wv (r:=rB true) (An (b:=true) Aa Aa Aa) (Ah ?_)))))))))))))))))));exact BH ha
  refine wo ha (vF CT Aa CK (wo ha (vL 0 Df Aa (wo ha (BP NE (K1 q.fBits 0 32 (ov (D9 q.fBits 0 32)) (Cr (C3 g4 ha))) Aa (wo ha (wv (BO Aa) (Ep Aa ha Aa (wm Aa (AA (!(ov (D9 q.fBits 0 32))) (λhd=>?_) (λhd=>?_)))))))))))
  ·refine wf hd (wf hd (wf hd (wf hd (wv (r:=rB true) (An Aa hd Aa) (wm Aa (wz Aa Aa (wz Aa Aa (wz Aa Aa (wz Aa Aa (wz Aa Aa (wz Aa Aa (wv (r:=rB true) (An (b:=true) Aa Aa Aa) (Ah ?_)))))))))))));exact BH (And.intro ha hd)
  refine wo hd (vF CT Aa CK (wo hd (vL 0 Df Aa (wo hd (BP NE (K1 q.fLow 1 65535 (ov (D9 q.fLow 1 65535)) (Cr (C3 (C3 g6 ha) hd))) Aa (wo hd (wv (BO Aa) (Ep Aa hd Aa (wm Aa (AA (!(ov (D9 q.fLow 1 65535))) (λhb=>?_) (λhb=>?_)))))))))))
  ·refine wf hb (wf hb (wf hb (wf hb (wf hb (wf hb (wv (r:=rB true) (An Aa hb Aa) (Ah ?_)))))));exact BH (And.intro ha (And.intro hd hb))
  refine wo hb (vF CT Aa CK (wo hb (vL 0 Df Aa (wo hb (vF CT Aa CK (wo hb (vL 0 Df Aa (wo hb (BP NE (K1 q.fHigh q.fLow 65535 (ov (D9 q.fHigh q.fLow 65535)) (Cr (C3 (C3 (C3 g8 ha) hd) hb))) Aa (wo hb (wv (BO Aa) (Ep Aa hb Aa (Ah ?_)))))))))))));exact BH (And.intro ha (And.intro hd hb))
 refine cz h9 Aa (λhf hg=>?_) (λhf hh=>?_)
 ·refine Ad (wa Aa (Ao (Ap (Ab ?_))));obtain rfl:=Au hg;exact Aq (B2 Tryz.results86 (AD Aa)) (sS sN) ⟨Aa,Aa⟩
 refine Aw (AE (Ak (Ak (ob hh λhe hi hj=>Du [1] ?_))));refine rq (Az CT Aa CK Aa Aa) (rq (AT (i:=0) Df Aa Aa Aa) (rq (Az CT Aa CK Aa Aa) (rq (AT (i:=0) Df Aa Aa Aa) (GG (Cm Tryz.call138 (P3 q.fBits he hi) Aa) (rq (r:=A4 (Sg .i64 q.fAddr he)) (Ad5 Aa Aa) (rq (CH Aa Aa) (re [33] ?_)))))));refine AE (cz hj Aa (λhk hl=>?_) (λhk hm=>?_))
 ·refine Ad (wa Aa (Ao (Ap (Ab ?_))));obtain rfl:=Au hl;exact Aq (B2 Tryz.results86 (AD Aa)) (sS sN) ⟨Aa,Aa⟩
 refine Aw (AE (Ad (wa Aa (Ao (Ap ?_)))));obtain rfl:=Au hm;exact Aq (B2 Tryz.results86 (AD Aa)) (sS sN) ⟨Aa,Aa⟩
theorem Abp (s:Ai)(r:Int)(h:Ww s=some r):Fn Tryz.prog GE 180 [rS s,rS ([46]:Ai)] [] (λR H=>R=A4 r∧H=[]):=by
 refine enter (n:=143) Tryz.func180 Aa Tryz.ntmps180 Aa (λw Z=>?_);unfold Ww at h;refine Ad (wa Aa (Bp (wm Aa (wv (B0 (p:=([46]:Ai)) C4 Aa) (wa Aa (Ao (Ak (A6 (A5 [(0,rS s),(1,rS ([46]:Ai)),(5,A4 1),(16,rB (decide (([46]:Ai)=s)))] [] ?_ ?_)))))))))
 ·refine Af (wm Aa (wv (B7 Aa Aa) (wm Aa (AL (b:=decide (1=0)) Aa Aa (by decide) (wm Aa (AL (b:=decide (1=0)) Aa Aa (by decide) (wm Aa (AL (b:=decide (1=0)) Aa Aa (by decide) (wv (BQ Aa Aa) (wv (r:=rB (decide (([46]:Ai)=s))) (Ay (b:=decide (1=0)) Aa (by decide) Aa) (wa Aa (Ah ?_))))))))))));exact wt
 refine cz h Aa (λc1 h2=>?_) (λc1 h3=>?_)
 ·refine Ad (wa Aa (Ao (Ap (A3 (Ab ?_)))));obtain rfl:=Au h2;exact Aq (B2 VK (AD Aa)) sN ⟨Aa,Aa⟩
 refine Ad (wm Aa (wv (B7 Aa Aa) (wa Aa (Ao (D7 Aa (by decide) (Ad (wm Aa (wm Aa (ck h3 λg4 h5=>wv (B3 C4 Aa Aa g4) (Ck (rs:=[rS s,rI .u8 (BK ([46]:Ai) 0)]) (r:=A4 (Lib.indexByte s (Ca (BK ([46]:Ai) 0)).toUInt8)) Tryz.call207 Aa (AbX s (BK ([46]:Ai) 0)) Aa Aa (wa Aa (Ao (Ap (A3 (Ab ?_)))))))))))))));obtain rfl:=Au h5;exact Aq (B2 VK (AD Aa)) sN ⟨Aa,Aa⟩
theorem Abr (s:Ai)(r:Int)(h:TS s=some r):Fn Tryz.prog GE 180 [rS s,rS ([58]:Ai)] [] (λR H=>R=A4 r∧H=[]):=by
 refine enter (n:=143) Tryz.func180 Aa Tryz.ntmps180 Aa (λw Z=>?_);unfold TS at h;refine Ad (wa Aa (Bp (wm Aa (wv (B0 (p:=([58]:Ai)) C4 Aa) (wa Aa (Ao (Ak (A6 (A5 [(0,rS s),(1,rS ([58]:Ai)),(5,A4 1),(16,rB (decide (([58]:Ai)=s)))] [] ?_ ?_)))))))))
 ·refine Af (wm Aa (wv (B7 Aa Aa) (wm Aa (AL (b:=decide (1=0)) Aa Aa (by decide) (wm Aa (AL (b:=decide (1=0)) Aa Aa (by decide) (wm Aa (AL (b:=decide (1=0)) Aa Aa (by decide) (wv (BQ Aa Aa) (wv (r:=rB (decide (([58]:Ai)=s))) (Ay (b:=decide (1=0)) Aa (by decide) Aa) (wa Aa (Ah ?_))))))))))));exact wt
 refine cz h Aa (λc1 h2=>?_) (λc1 h3=>?_)
 ·refine Ad (wa Aa (Ao (Ap (A3 (Ab ?_)))));obtain rfl:=Au h2;exact Aq (B2 VK (AD Aa)) sN ⟨Aa,Aa⟩
 refine Ad (wm Aa (wv (B7 Aa Aa) (wa Aa (Ao (D7 Aa (by decide) (Ad (wm Aa (wm Aa (ck h3 λg4 h5=>wv (B3 C4 Aa Aa g4) (Ck (rs:=[rS s,rI .u8 (BK ([58]:Ai) 0)]) (r:=A4 (Lib.indexByte s (Ca (BK ([58]:Ai) 0)).toUInt8)) Tryz.call207 Aa (AbX s (BK ([58]:Ai) 0)) Aa Aa (wa Aa (Ao (Ap (A3 (Ab ?_)))))))))))))));obtain rfl:=Au h5;exact Aq (B2 VK (AD Aa)) sN ⟨Aa,Aa⟩
theorem YH (s:Ai)(r:Int)(h:Ph s=some r):Fn Tryz.prog GE 206 [rS s,rS ([46]:Ai)] [] (λR H=>R=A4 r∧H=[]):=by
 refine enter (n:=8) Tryz.func206 Aa Tryz.ntmps206 Aa (λw Z=>?_);unfold Ph at h;refine Ad (wa Aa (Bp (wm Aa (wm Aa (ob h λr1 e3 h2=>BP Tryz.call180 (Abp s r1 e3) Aa (wa Aa (Ao (Ap ?_))))))));obtain rfl:=Au h2;exact Aq (B2 Tryz.results206 (AD Aa)) sN ⟨Aa,Aa⟩
theorem V2 (F:Nat)(s:Ai)(r:(List Ai))(h:MP F s=some r):Fn Tryz.prog GE 181 [rS s,rS ([46]:Ai),A4 0,A4 (-1)] [] (λR H=>∃u0:Value,R=rv u0∧H=[.row u0 9 1 (A8 eS r)]):=by
 refine enter (n:=66) Tryz.func181 Aa Tryz.ntmps181 Aa (λw Z=>?_);unfold MP at h;refine Ad (wa Aa (Ao (Ak (Ad (wm Aa (wv (B7 Aa Aa) (Ao (CS Aa (by decide) (Aw (AE (Ak (Ad (wm Aa (wv (BQ Aa Aa) (Ao (CS Aa (by decide) (Aw (AE (Ak (Ad (wm Aa (wv (Ci Aa Aa) (Ao ?_)))))))))))))))))))))));refine D7 Aa (by decide) (Af (wm Aa (wm Aa (Ck (rs:=[rS s,rS ([46]:Ai)]) (r:=A4 (Lib.countByte s 46:Int)) Tryz.call179 Aa (Sv s 46) Aa Aa (ck h λg1 h2=>wv (By Aa Aa g1) (wa Aa (Bp (wm Aa (wm Aa (wv (B0 C4 Aa) (ck h2 λg3 h4=>wv (By Aa Aa g3) (wv (r:=A4 (min ((Lib.countByte s 46:Int)+1) ((s.length:Int)+1))) (Ad2 yu3 Aa Aa) (wa Aa (Bp (wm Aa (ck h4 λg6 h7=>ck h7 λg8 h9=>Exists.elim Ra λinf hinf=>Aa6 (enc:=eS) (zα:=([]:Ai)) (m:=min ((Lib.countByte s 46:Int)+1) ((s.length:Int)+1)) C7 hinf.1 hinf.2.1 hinf.2.2.1 hinf.2.2.2 Aa Aa Aa (λ_=>Aa) Aa Aa g6 g8 Aa (λv5=>?_)))))))))))))))));refine wa Aa (Bp (wm Aa (ck h9 λho hp=>wv (Gi Aa Aa ho) (wa Aa (Bp (wa Aa (Ao (Ak (A6 (ob hp λhq hr hl=>Br (S:=Nat×(Ai×Int×(List Ai))×(Unit)) (V:=(Ai×Int×(List Ai))×(Unit)) 0 (λσ=>BX (λσ=>CU s σ.1 σ.2.1 σ.2.2) σ.1 σ.2.1=some hq) (λσ=>[(0,rS σ.2.1.1),(1,rS ([46]:Ai)),(2,A4 0),(3,A4 ((min ((Lib.countByte s 46:Int)+1) ((s.length:Int)+1))-1)),(9,rv v5),(10,A4 σ.2.1.2.1)]) (λσ=>[.row v5 9 1 (A8 eS σ.2.1.2.2)]) (λσ=>σ.1) (F,(s,0,List.replicate (Ca (min ((Lib.countByte s 46:Int)+1) ((s.length:Int)+1))) ([]:Ai)),()) hr (AH.c Aa (AH.c5 Aa Aa Aa Aa Aa AH.nil)) (sC sN) (λσ=>Eb σ.1.1 σ.1.2.1 σ.1.2.2=some r) (λσ=>[(0,rS σ.1.1),(9,rv v5),(10,A4 σ.1.2.1)]) (λσ=>[.row v5 9 1 (A8 eS σ.1.2.2)]) ?_ ?_))))))))))
 ·rintro⟨hY,⟨ha,hb,hd⟩,⟨⟩⟩ hs;refine GI ?_;obtain⟨ht,rfl,t210,he,hi⟩:=Cc hs;replace he:CU s ha hb hd=some t210:=he;unfold CU at he;refine Ak (Ad (wm Aa (wm Aa (wv (Ci Aa Aa) (Ao (cz he Aa (λhu hw=>?_) (λhu hx=>?_)))))))
  ·refine Aw (AE (A6 (Ad (wm Aa (wm Aa (ob hw λhf hy hz=>BP Tryz.call206 (YH ha hf hy) Aa (wa Aa (Ao (Ak (Ad (wm Aa (wv (Ci Aa Aa) (Ao (cz hz Aa (λh0 h1=>?_) (λh0 h3=>?_)))))))))))))))
   ·refine Bn (Av (OO Aa ?_));have h5:=BE h1 hi hl;exact Av (AY (AC ((ha,hb,hd),()) h5 (AH.c Aa (AH.c Aa (AH.c Aa AH.nil))) (sC sN)))
   refine Aw (AE (Ad (wm Aa (wm Aa (wm Aa (wm Aa (wm Aa (ck h3 λh6 h8=>wv (By Aa Aa h6) (ck h8 λhA hB=>wv (EL C4 Aa Aa hA) (ck hB λhm hC=>wv (r:=rv (Gl 1 v5 (Ca hb) 0)) (EM (i:=0) C7 CE Aa Aa Aa (BI hm)) (Ko (enc:=eS) (ys:=hd) (y':=List.take (Ca (hf+0)) ha) (i:=0) (j:=hb) CE Aa Aa (BR Aa) Aa hm Aa Aa (H':=[.row v5 9 1 (A8 eS (List.set hd (Ca hb) (List.take (Ca (hf+0)) ha)))]) Aa (bd hC λhD hE hG=>?_))))))))))));rw[← hE];refine Bp (wm Aa (wm Aa (wm Aa (wv (B0 (p:=([46]:Ai)) C4 Aa) (ck hG λhH hI=>wv (By Aa Aa hH) (ck hI λhJ hK=>wv (DG C4 Aa Aa hJ) (wa Aa (Ao (Af (wm Aa (ck hK λhL hN=>wv (By Aa Aa hL) (wa Aa (Ah (AB ?_))))))))))))));have hO:=Bi hN hi;exact Ar (AC (ht,(List.drop (Ca (hf+1)) ha,hb+1,hD),()) ⟨hO,AeR _⟩ (AH.c Aa (AH.c5 Aa Aa Aa Aa Aa AH.nil)) (sC sN))
  refine Bn (Av ?_);have hP:=BE hx hi hl;exact Av (AY (AC ((ha,hb,hd),()) hP (AH.c Aa (AH.c Aa (AH.c Aa AH.nil))) (sC sN)))
 rintro⟨⟨hj,hg,hk⟩,⟨⟩⟩ hh;refine GX ?_;replace hh:Eb hj hg hk=some r:=hh;unfold Eb at hh;refine AW (AE (Ad (wm Aa (wm Aa (wm Aa (ck hh λhn hQ=>wv (r:=rv (Gl 1 v5 (Ca hg) 0)) (EM (i:=0) C7 CE Aa Aa Aa (BI hn)) (Ko (enc:=eS) (ys:=hk) (y':=hj) (i:=0) (j:=hg) CE Aa Aa (BR Aa) Aa hn Aa Aa (H':=[.row v5 9 1 (A8 eS (List.set hk (Ca hg) hj))]) Aa (bd hQ λhZ hR hS=>?_))))))));rw[← hR];refine Bp (wm Aa (wm Aa (ck hS λhT hU=>wv (By Aa Aa hT) (ck hU λhV hW=>AbP (i:=0) C7 CE Aa Aa Aa hV Aa (λhX=>?_)))));refine wa Aa (Ao (Ap ?_));obtain rfl:=Au hW;exact Aq (B2 Tryz.results181 (AD Aa)) (sC sN) ⟨hX,Aa,Aa⟩
theorem YG (F:Nat)(s:Ai)(r:(List Ai))(h:Pg F s=some r):Fn Tryz.prog GE 145 [rS s,rS ([46]:Ai)] [] (λR H=>∃u0:Value,R=rv u0∧H=[.row u0 9 1 (A8 eS r)]):=by
 refine enter (n:=8) Tryz.func145 Aa Tryz.ntmps145 Aa (λw Z=>?_);unfold Pg at h;refine Ad (wa Aa (Bp (wm Aa (wm Aa (ob h λr1 e3 h2=>J3 [] Tryz.call181 (V2 F s r1 e3) ?_)))));rintro _ _ ⟨v4,rfl,rfl⟩;refine wa Aa (Ao (Ap ?_));obtain rfl:=Au h2;exact Aq (B2 Tryz.results145 (AD Aa)) (sC sN) ⟨v4,Aa,Aa⟩
theorem AaD (s:Ai)(r:Ai×Ai×Bool)(h:VX s=some r):Fn Tryz.prog GE 144 [rS s,rS ([58]:Ai)] [] (λR H=>R=Dy [rS r.1,rS r.2.1,rB r.2.2]∧H=[]):=by
 refine enter (n:=23) Tryz.func144 Aa Tryz.ntmps144 Aa (λw Z=>?_);unfold VX at h;refine Ad (wv (r:=rS ([]:Ai)) (A0 Aa) (wv (r:=rS ([]:Ai)) (A0 Aa) (wa Aa (Ao (Ak (Ad (wm Aa (wm Aa (ob h λr1 e3 h2=>BP Tryz.call180 (Abr s r1 e3) Aa (wa Aa (Bp (wm Aa (wv (DP Aa Aa) (Ao (cz h2 Aa (λc4 h5=>?_) (λc4 ha=>?_))))))))))))))))
 ·refine Ak (ck h5 λg6 h7=>ck h7 λg8 h9=>ck h9 λhb hd=>Du [0,1,7] ?_);refine rq (Am Aa) (rq (Am Aa) (rq (EL C4 Aa Aa g6) (rq (Am Aa) (rq (Am Aa) (rq (Am Aa) (rq (B0 (p:=([58]:Ai)) C4 Aa) (rq (By Aa Aa g8) (rq (DG C4 Aa Aa hb) (rq (A0 Aa) (rq (A0 Aa) (rq (r:=rB true) (A0 Aa) (re [4,5,6] ?_))))))))))));refine AE (Ap (Ab ?_));obtain rfl:=Au hd;exact Aq (U7 Tryz.results144 (AD Aa) (AD Aa) (AD Aa)) sN ⟨Aa,Aa⟩
 refine Aw (AE (Ad (wm Aa (wa Aa (wv (r:=rS ([]:Ai)) (A0 Aa) (wa Aa (Ao (Ap ?_))))))));obtain rfl:=Au ha;exact Aq (U7 Tryz.results144 (AD Aa) (AD Aa) (AD Aa)) sN ⟨Aa,Aa⟩
theorem Acw (s:Ai)(r:Ai×Ai×Bool)(h:YI s=some r):Fn Tryz.prog GE 96 [rS s,rS ([58]:Ai)] [] (λR H=>R=Dy [rS r.1,rS r.2.1,rB r.2.2]∧H=[]):=by
 refine enter (n:=13) Tryz.func96 Aa Tryz.ntmps96 Aa (λw Z=>?_);unfold YI at h;refine Ad (wv (r:=rS ([]:Ai)) (A0 Aa) (wv (r:=rS ([]:Ai)) (A0 Aa) (wa Aa (Bp (wm Aa (wm Aa (ob h λr1 e3 h2=>BP Tryz.call144 (AaD s r1 e3) Aa (wv (A7 Aa Aa) (wv (A7 Aa Aa) (wv (A7 Aa Aa) (wa Aa (wa Aa (wa Aa (Ao (Ap ?_)))))))))))))));obtain rfl:=Au h2;exact Aq (U7 Tryz.results96 (AD Aa) (AD Aa) (AD Aa)) sN ⟨Aa,Aa⟩
theorem TF (F:Nat)(s:Ai)(r:Int×Int)(h:Jm F s=some r):Fn Tryz.prog GE 97 [rS s] [] (λR H=>R=Dy [A4 r.1,A4 r.2]∧H=[]):=by
 refine enter (n:=50) Tryz.func97 Aa Tryz.ntmps97 Aa (λw Z=>?_);unfold Jm at h;refine Ad (wa Aa (wa Aa (Bp (wm Aa (ob h λr1 e3 h2=>J3 [] Tryz.call145 (YG F s r1 e3) ?_)))));rintro _ _ ⟨v4,rfl,rfl⟩;refine wa Aa (Ao (Ak (Ad (wm Aa (wv (D3 (ys:=r1) (enc:=eS) (i:=0) C7 Aa Aa) (wv (CH Aa Aa) (Ao (cz h2 Aa (λc5 h6=>?_) (λc5 h7=>?_)))))))))
 ·refine Ad (wa Aa (wa Aa (Ao (Ap (Ab ?_)))));obtain rfl:=Au h6;exact Aq (HW Tryz.results97 (AD Aa) (AD Aa)) (sS sN) ⟨Aa,Aa⟩
 refine Aw (AE (Ad (BL (cs:=A8 (rI .i64) (List.replicate 4 (0:Int))) Tryz.zeroValue195 (by kernel_rfl) Aa (λb8=>?_))));refine Ao (Ak (Ad (wv (r:=A4 0) (Am Aa) (Ao (A6 (ob h7 λhk hl hi=>Br (S:=Nat×(Int×(List Int))×(Unit)) (V:=((List Int))×(Unit)) 0 (λσ=>BX (λσ=>DB r1 σ.1 σ.2) σ.1 σ.2.1=some hk) (λσ=>[(4,rv v4),(5,rP b8 0),(14,A4 σ.2.1.1)]) (λσ=>[.blk b8 (A8 (rI .i64) σ.2.1.2) 195,.row v4 9 1 (A8 eS r1)]) (λσ=>σ.1) (F,(0,List.replicate 4 (0:Int)),()) hl (AH.c Aa (AH.c Aa (AH.c Aa AH.nil))) (sC (sC sN)) (λσ=>Gd σ.1=some r) (λσ=>[(5,rP b8 0)]) (λσ=>[.blk b8 (A8 (rI .i64) σ.1) 195]) ?_ ?_))))))
 ·rintro⟨hU,⟨ha,he⟩,⟨⟩⟩ hm;refine GI ?_;obtain⟨hn,rfl,ho,hf,hh⟩:=Cc hm;replace hf:DB r1 ha he=some ho:=hf;unfold DB at hf;refine Ad (wv (Ci Aa Aa) (Ao (Ak (cz hf Aa (λc75 hp=>?_) (λc75 hq=>?_)))))
  ·refine Aw (AE (Ak (A6 (Ad (wm Aa (wa Aa (Bp (wm Aa (wm Aa (ck hp λhj hr=>wv (r:=rv (Gl 1 v4 (Ca ha) 0)) (EM (i:=1) C7 CE Aa Aa Aa (BI hj)) (wv (r:=rS (Ax r1 ha)) (Ip (enc:=eS) (ys:=r1) (i:=1) (j:=ha) Dp Aa Aa hj Aa) (ck hr λhs ht=>Ck (rs:=[rS (Ax r1 ha)]) (r:=Dy [A4 (B6 (Ax r1 ha)),A4 (Cq (Ax r1 ha))]) Tryz.call98 Aa (Wh (Ax r1 ha) hs) Aa Aa (wm Aa (wv (A7 Aa Aa) (wv (A7 Aa Aa) (wa Aa (wa Aa (Ao (Ak (ck ht λhu hw=>A5 [(4,rv v4),(5,rP b8 0),(6,A4 ha),(7,A4 (B6 (Ax r1 ha))),(14,A4 ha),(31,rB ((!decide ((Cq (Ax r1 ha))=0))||(!(ov (D9 (B6 (Ax r1 ha)) 0 255)))))] [.blk b8 (A8 (rI .i64) he) 195,.row v4 9 1 (A8 eS r1)] ?_ ?_))))))))))))))))))))
   ·refine Af (wm Aa (wv (CH Aa Aa) (wm Aa (AA (!decide ((Cq (Ax r1 ha))=0)) (λhd=>?_) (λhd=>?_)))))
    ·refine wf hd (wf hd (wf hd (wv (r:=rB true) (An Aa hd Aa) (Ah ?_))));exact BH hd
    refine wo hd (wm Aa (wo hd (BP NE (K1 (B6 (Ax r1 ha)) 0 255 (ov (D9 (B6 (Ax r1 ha)) 0 255)) (Cr (C3 hu hd))) Aa (wo hd (wv (BO Aa) (Ep Aa hd Aa (Ah ?_)))))));exact BH hd
   refine cz hw Aa (λhx hy=>?_) (λhx hz=>?_)
   ·refine Ad (wa Aa (wa Aa (Ao (Ap (Ab (A3 (Ab (Ab (Bg ?_)))))))));have h0:=BC hy hh hi;refine A3 (Ab ?_);obtain rfl:=Au h0;exact Aq (HW Tryz.results97 (AD Aa) (AD Aa)) (sS (sS sN)) ⟨Aa,Aa⟩
   refine Aw (AE (Af (wm Aa (wm Aa (ck hz λh1 h3=>wv (r:=rv (.pointer (some ⟨b8,Ca ha,none⟩))) (P1 SI CK Aa Aa h1) (ck h3 λh4 h5=>Xh (enc:=(rI .i64)) (ys:=he) (v:=B6 (Ax r1 ha)) (i:=0) CK Aa Aa (BR Aa) Aa h4 (H':=[.blk b8 (A8 (rI .i64) (List.set he (Ca ha) (B6 (Ax r1 ha)))) 195,.row v4 9 1 (A8 eS r1)]) Aa (Ah (AB (AE (Af (ck h5 λh8 h9=>wv (By Aa Aa h8) (wm Aa (Ah ?_)))))))))))));have hA:=Bi h9 hh;exact Ar (AC (hn,(ha+1,List.set he (Ca ha) (B6 (Ax r1 ha))),()) ⟨hA,AeR _⟩ (AH.c Aa (AH.c Aa (AH.c Aa AH.nil))) (sC (sC sN)))
  refine Bn (Av ?_);have hB:=BE hq hh hi;exact Av (AY (AC (he,()) hB (AH.c Aa AH.nil) (sC (sS sN))))
 rintro⟨hb,⟨⟩⟩ hg;refine GX ?_;replace hg:Gd hb=some r:=hg;unfold Gd at hg;refine AW (AE (Ad (ck hg λhC hD=>wv (r:=rv (.pointer (some ⟨b8,Ca 0,none⟩))) (P1 SI CK Aa Aa hC) (ck hD λhE hG=>wv (r:=A4 (Ax hb 0)) (M5 (enc:=(rI .i64)) (ys:=hb) (i:=0) Df Aa Aa hE) (wv (r:=A4 (HE .i64 (Ax hb 0) 24)) (Wl Aa Aa (by decide)) (ck hG λhH hI=>wv (r:=rv (.pointer (some ⟨b8,Ca 1,none⟩))) (P1 SI CK Aa Aa hH) (ck hI λhJ hK=>wv (r:=A4 (Ax hb 1)) (M5 (enc:=(rI .i64)) (ys:=hb) (i:=0) Df Aa Aa hJ) (wv (r:=A4 (HE .i64 (Ax hb 1) 16)) (Wl Aa Aa (by decide)) (wv (r:=A4 (UA .i64 (HE .i64 (Ax hb 0) 24) (HE .i64 (Ax hb 1) 16))) (Ac6 Aa Aa) (ck hK λhL hN=>wv (r:=rv (.pointer (some ⟨b8,Ca 2,none⟩))) (P1 SI CK Aa Aa hL) (ck hN λhO hP=>wv (r:=A4 (Ax hb 2)) (M5 (enc:=(rI .i64)) (ys:=hb) (i:=0) Df Aa Aa hO) (wv (r:=A4 (HE .i64 (Ax hb 2) 8)) (Wl Aa Aa (by decide)) (wv (r:=A4 (UA .i64 (UA .i64 (HE .i64 (Ax hb 0) 24) (HE .i64 (Ax hb 1) 16)) (HE .i64 (Ax hb 2) 8))) (Ac6 Aa Aa) (ck hP λhQ hR=>wv (r:=rv (.pointer (some ⟨b8,Ca 3,none⟩))) (P1 SI CK Aa Aa hQ) (ck hR λhS hT=>wv (r:=A4 (Ax hb 3)) (M5 (enc:=(rI .i64)) (ys:=hb) (i:=0) Df Aa Aa hS) ?_)))))))))))))));refine wv (r:=A4 (UA .i64 (UA .i64 (UA .i64 (HE .i64 (Ax hb 0) 24) (HE .i64 (Ax hb 1) 16)) (HE .i64 (Ax hb 2) 8)) (Ax hb 3))) (Ac6 Aa Aa) (wa Aa (wa Aa (Ao (Ap ?_))));obtain rfl:=Au hT;exact Aq (HW Tryz.results97 (AD Aa) (AD Aa)) (sS sN) ⟨Aa,Aa⟩
theorem TD (q:AI)(addr:Int)(port:Int)(r:Bool)(h:Jl q addr port=some r):Fn Tryz.prog GE 99 [B9 (A1 q),A4 addr,A4 port] [] (λR H=>R=rB r∧H=[]):=by
 refine enter (n:=30) Tryz.func99 Aa Tryz.ntmps99 Aa (λw Z=>?_);unfold Jl at h;refine Ad (BM Aa Aa (λb1=>?_));refine wa Aa (Ao (ck h λg2 h3=>ck h3 λg4 h5=>ck h5 λg6 h7=>ck h7 λg8 h9=>ck h9 λhd he=>A5 [(6,rB ((decide ((ov (DA q))=0))&&((ov (D9 addr q.fAddr (q.fAddr+(ov (Eg q.fBits)))))&&(ov (D9 port q.fLow q.fHigh)))))] [] ?_ ?_))
 ·refine AA (decide ((ov (DA q))=0)) (λha=>?_) (λha=>?_)
  ·refine AA ((ov (D9 addr q.fAddr (q.fAddr+(ov (Eg q.fBits)))))) (λhb=>?_) (λhb=>?_)
   ·refine Du [1,2,3] ?_;refine rq (Be (i:=0) Lw GW Aa Aa Aa Aa) (GG (Cm Tryz.call86 (KY q (ov (DA q)) (Cr g2)) Aa) (rq (B7 Aa Aa) (rq (Am Aa) (rg ha (Am Aa) (rg ha (Az CT Aa CK Aa Aa) (rg ha (AT (i:=0) Df Aa Aa Aa) (rg ha (Az CT Aa CK Aa Aa) (rg ha (AT (i:=0) Df Aa Aa Aa) (rg ha (Az CT Aa CK Aa Aa) (rg ha (AT (i:=0) Df Aa Aa Aa) (ro ha (Cm Tryz.call138 (P3 q.fBits (ov (Eg q.fBits)) (Cr (BF g4 ha))) Aa) (rg ha (By Aa Aa (BF g6 ha)) (ro ha (Cm NE (K1 addr q.fAddr (q.fAddr+(ov (Eg q.fBits))) (ov (D9 addr q.fAddr (q.fAddr+(ov (Eg q.fBits))))) (Cr (BF g8 ha))) Aa) (rq (An Aa ha Aa) (rq (Am Aa) (rg hb (Am Aa) (rg hb (Az CT Aa CK Aa Aa) (rg hb (AT (i:=0) Df Aa Aa Aa) (rg hb (Az CT Aa CK Aa Aa) (rg hb (AT (i:=0) Df Aa Aa Aa) (ro hb (Cm NE (K1 port q.fLow q.fHigh (ov (D9 port q.fLow q.fHigh)) (Cr (BF (BF hd ha) hb))) Aa) (rq (An Aa hb Aa) (rq (A0 Aa) ?_)))))))))))))))))))))));refine re [6] ?_;exact BH (And.intro ha hb)
   refine Du [1,2,3] ?_;refine rq (Be (i:=0) Lw GW Aa Aa Aa Aa) (GG (Cm Tryz.call86 (KY q (ov (DA q)) (Cr g2)) Aa) (rq (B7 Aa Aa) (rq (Am Aa) (rg ha (Am Aa) (rg ha (Az CT Aa CK Aa Aa) (rg ha (AT (i:=0) Df Aa Aa Aa) (rg ha (Az CT Aa CK Aa Aa) (rg ha (AT (i:=0) Df Aa Aa Aa) (rg ha (Az CT Aa CK Aa Aa) (rg ha (AT (i:=0) Df Aa Aa Aa) (ro ha (Cm Tryz.call138 (P3 q.fBits (ov (Eg q.fBits)) (Cr (BF g4 ha))) Aa) (rg ha (By Aa Aa (BF g6 ha)) (ro ha (Cm NE (K1 addr q.fAddr (q.fAddr+(ov (Eg q.fBits))) (ov (D9 addr q.fAddr (q.fAddr+(ov (Eg q.fBits))))) (Cr (BF g8 ha))) Aa) (rq (An Aa ha Aa) (rq (Am Aa) (rz hb (rz hb (rz hb (rz hb (rz hb (rz hb (rq (r:=rB false) (Ay (b:=(ov (D9 addr q.fAddr (q.fAddr+(ov (Eg q.fBits)))))) Aa hb Aa) (rq (A0 Aa) ?_)))))))))))))))))))))));refine re [6] ?_;exact BH (And.intro ha hb)
  refine Du [1,2,3] ?_;refine rq (Be (i:=0) Lw GW Aa Aa Aa Aa) (GG (Cm Tryz.call86 (KY q (ov (DA q)) (Cr g2)) Aa) (rq (B7 Aa Aa) (rq (Am Aa) (rz ha (rz ha (rz ha (rz ha (rz ha (rz ha (rz ha (rz ha (rz ha (rz ha (rq (r:=rB false) (Ay (b:=decide ((ov (DA q))=0)) Aa ha Aa) (rq (Am Aa) (rz Aa (rz Aa (rz Aa (rz Aa (rz Aa (rz Aa (rq (r:=rB false) (Ay (b:=false) Aa Aa Aa) (rq (A0 Aa) ?_)))))))))))))))))))))));refine re [6] ?_;exact BH ha
 refine Ap ?_;obtain rfl:=Au he;exact Aq (B2 Tryz.results99 (AD Aa)) sN ⟨Aa,Aa⟩
theorem P4 (F:Nat)(l:(List AI))(addr:Int)(port:Int)(r:BA)(h:H8 F l addr port=some r):Fn Tryz.prog GE 39 [AO 5 (A8 A1 l),A4 addr,A4 port] [] (λR H=>R=B9 (Gr r)∧H=[]):=by
 refine enter (n:=26) Tryz.func39 Aa Tryz.ntmps39 Aa (λw Z=>?_);unfold H8 at h;refine Ad (BL (cs:=[rB false,A4 0]) Yo Aa Aa (λb1=>?_));refine Ao (Ak (Ad (wm Aa (wv (Bj (ys:=l) (enc:=A1) LX Aa) (wv (r:=A4 0) (Am Aa) (Ao (A6 (ob h λhg hh hf=>Br (S:=Nat×(Int)×(Unit)) (V:=(Unit)×(Unit)) 0 (λσ=>BX (λσ=>EN l addr port σ) σ.1 σ.2.1=some hg) (λσ=>[(1,A4 addr),(2,A4 port),(6,rP b1 0),(9,AO 5 (A8 A1 l)),(10,A4 (l.length:Int)),(11,A4 σ.2.1)]) (λσ=>[.blk b1 [rB false,A4 0] 63]) (λσ=>σ.1) (F,0,()) hh (AH.c Aa (AH.c5 Aa Aa Aa Aa Aa AH.nil)) (sC sN) (λσ=>IE =some r) (λσ=>[(6,rP b1 0)]) (λσ=>[.blk b1 [rB false,A4 0] 63]) ?_ ?_))))))))
 ·rintro⟨h1,ha,⟨⟩⟩ hi;refine GI ?_;obtain⟨hj,rfl,hk,hb,he⟩:=Cc hi;replace hb:EN l addr port ha=some hk:=hb;unfold EN at hb;refine Ad (wv (Ci Aa Aa) (Ao (Ak (cz hb Aa (λc53 hl=>?_) (λc53 hm=>?_)))))
  ·refine Aw (AE (Ak (A6 (Ad (wm Aa (ck hl λhn ho=>wv (Bk (enc:=A1) (ys:=l) LX GW Aa Aa hn) (wv (Cu Lw GW Aa Aa Aa) (BL (cs:=[rB false,A4 0,A4 0,A4 0,A4 0]) Tryz.zeroValue111 Aa Aa (λh2=>?_)))))))));refine wa Aa (GU (i:=0) GW Aa Aa Aa (B8.c Aa) Aa Aa ?_);refine Bp (wv (Be (i:=0) Lw GW Aa Aa Aa Aa) (wm Aa (wm Aa (ob ho λhp hq hr=>BP Tryz.call99 (TD (Ax l ha) addr port hp hq) Aa (Ao (cz hr Aa (λhs ht=>?_) (λhs hu=>?_)))))))
   ·refine Ad (vF CT Aa Jz (vL 0 Qg Aa (wm Aa (wv (r:=B9 [rB ((Ax l ha).fAllow),A4 ha]) (Gq Aa Aa Aa Aa) (GU (i:=1) Kb Aa Aa Aa (B8.c Aa) Aa Aa ?_)))));refine Ao (Ap (A3 (Ab (Ab (Bg ?_)))));have hw:=BC ht he hf;refine A3 (Ab ?_);obtain rfl:=Au hw;exact Aq (B2 Tryz.results39 (Dv (i:=1) ST Kb Aa Aa Aa)) (sS (sS sN)) ⟨Aa,Aa⟩
   refine Aw (AB (AE (Af (ck hu λhx hy=>wv (By Aa Aa hx) (wm Aa (Ah ?_))))));have hz:=Bi hy he;exact Ar (AC (hj,ha+1,()) ⟨hz,AeR _⟩ (AH.c Aa (AH.c5 Aa Aa Aa Aa Aa AH.nil)) (sS (sC sN)))
  refine Bn (Av ?_);have h0:=BE hm he hf;exact Av (AY (AC ((),()) h0 (AH.c Aa AH.nil) (sC sN)))
 rintro⟨⟨⟩,⟨⟩⟩ hd;refine GX ?_;replace hd:IE =some r:=hd;unfold IE at hd;refine AW (AE (Ad (wv (r:=B9 [rB false,A4 (-1)]) (Kx Aa Aa) (GU (i:=0) Kb Aa Aa Aa (B8.c Aa) Aa Aa ?_))));refine Ao (Ap ?_);obtain rfl:=Au hd;exact Aq (B2 Tryz.results39 (Dv (i:=0) ST Kb Aa Aa Aa)) (sS sN) ⟨Aa,Aa⟩
end Go.Proofs.YtmjlemhondjfhaaGreatDoor.Q
namespace Go.Proofs.YtmjlemhondjfhaaGreatDoor
open Go
set_option linter.unusedVariables false
structure AQ where
 fOp:Ai
 fArgs:(List (List Ac))
 deriving DecidableEq,Inhabited
structure AV where
 fTenant:Ai
 fFunction:Ai
 fOps:(List Ai)
 fPolicy:(List Aj)
 fNet:(List AI)
 fNow:Int
 deriving DecidableEq,Inhabited
structure BS where
 fKey:Ai
 fValue:(List Ac)
 fVersion:Int
 deriving DecidableEq,Inhabited
def D2 (F:Nat)(l:(List Ai))(ha:Int):Option (Stp (Int) (Out (Bool) (Unit))):=
 Bz (decide (ha<(l.length:Int))) (AX (Ch ha (l.length:Int))<|Bv (Ib F (Ax l ha)) λhb=>Bz (!hb) (some (.out (.ret false))) (AX (BG .i64 (ha+1))<|some (.next (ha+1)))) (some (.out (.go ())))
def EH :Option (Bool):=
 some true
def C5 (F:Nat)(l:(List Ai)):Option (Bool):=
 Bv (BX (λσ=>D2 F l σ) F 0) (BT λν=>EH )
def He (F:Nat)(l:(List Ai))(s:Ai)(ha:Int):Option (Stp (Int) (Out (Bool) (Unit))):=
 Bz (decide (ha<(l.length:Int))) (AX (Ch ha (l.length:Int))<|Bv (Jt F (Ax l ha) s) λhb=>Bz (hb) (some (.out (.ret true))) (AX (BG .i64 (ha+1))<|some (.next (ha+1)))) (some (.out (.go ())))
def Jd :Option (Bool):=
 some false
def GL (F:Nat)(l:(List Ai))(s:Ai):Option (Bool):=
 Bv (BX (λσ=>He F l s σ) F 0) (BT λν=>Jd )
def Et (F:Nat)(s:Aj):Option (Int):=
 Bz (((decide ((s.fActions.length:Int)<1))||((decide (8<(s.fActions.length:Int)))||((decide ((s.fResources.length:Int)<1))||(decide (8<(s.fResources.length:Int))))))) (some 3) (AX ((C5 F s.fActions).isSome)<|AX (imp (!(!(ov (C5 F s.fActions)))) ((C5 F s.fResources).isSome))<|Bz (((!(ov (C5 F s.fActions)))||(!(ov (C5 F s.fResources))))) (some 4) (some 0))
def EI (F:Nat)(s:Aj)(action:Ai)(resource:Ai):Option (Bool):=
 AX ((Et F s).isSome)<|AX (imp (decide ((ov (Et F s))=0)) ((GL F s.fActions action).isSome))<|AX (imp (decide ((ov (Et F s))=0)) (imp ((ov (GL F s.fActions action))) ((GL F s.fResources resource).isSome)))<|some ((decide ((ov (Et F s))=0))&&((ov (GL F s.fActions action))&&(ov (GL F s.fResources resource))))
def EJ (F:Nat)(l:(List Aj))(allow:Bool)(action:Ai)(resource:Ai)(ha:Int):Option (Stp (Int) (Out (Int) (Unit))):=
 Bz (decide (ha<(l.length:Int))) (AX (Ch ha (l.length:Int))<|AX (imp (((Ax l ha).fAllow) ==allow) ((EI F (Ax l ha) action resource).isSome))<|Bz (((((Ax l ha).fAllow) ==allow)&&(ov (EI F (Ax l ha) action resource)))) (some (.out (.ret ha))) (AX (BG .i64 (ha+1))<|some (.next (ha+1)))) (some (.out (.go ())))
def H7 :Option (Int):=
 some (-1)
def Je (F:Nat)(l:(List Aj))(allow:Bool)(action:Ai)(resource:Ai):Option (Int):=
 Bv (BX (λσ=>EJ F l allow action resource σ) F 0) (BT λν=>H7 )
def Jf (F:Nat)(l:(List Aj))(action:Ai)(resource:Ai):Option (BA):=
 Bv (Je F l false action resource) λr2=>Bz (decide (0≤r2)) (some (BA.mk false r2)) (Bv (Je F l true action resource) λr8=>some (BA.mk (decide (0≤r8)) r8))
def C0 (n:Int):Option (Bool):=
 some ((decide (0≤n))&&(decide (n≤4294967295)))
def Dr (n:Int):Option (Bool):=
 some ((decide (1≤n))&&(decide (n≤65535)))
def JG (ha:Int)(hb:Int):Option (Stp (Int×Int) (Out (Int) (Int))):=
 Bz (decide (hb<32)) (AX (BG .i64 (2*ha))<|AX (BG .i64 (hb+1))<|some (.next (2*ha,hb+1))) (some (.out (.go ha)))
def JF (ha:Int):Option (Int):=
 some ha
def Cz (F:Nat)(bits:Int):Option (Int):=
 Bv (BX (λσ=>JG σ.1 σ.2) F (1,bits)) (BT λν=>JF ν)
def D8 (F:Nat)(q:AI):Option (Int):=
 AX ((C0 q.fAddr).isSome)<|AX (imp (!(!(ov (C0 q.fAddr)))) (imp (!(decide (q.fBits<0))) (imp (!(decide (32<q.fBits))) ((Dr q.fLow).isSome))))<|AX (imp (!(!(ov (C0 q.fAddr)))) (imp (!(decide (q.fBits<0))) (imp (!(decide (32<q.fBits))) (imp (!(!(ov (Dr q.fLow)))) ((Dr q.fHigh).isSome)))))<|Bz (((!(ov (C0 q.fAddr)))||((decide (q.fBits<0))||((decide (32<q.fBits))||((!(ov (Dr q.fLow)))||((!(ov (Dr q.fHigh)))||(decide (q.fHigh<q.fLow)))))))) (some 2) (Bv (Cz F q.fBits) λha=>AX (!decide (ha=0))<|Bz (!decide ((Int.tmod q.fAddr ha)=0)) (some 1) (some 0))
def Hd (ha:Int)(hb:(List Ai))(hd:Int):Option (Stp ((List Ai)×Int×Int) (Out ((List Ai)) ((List Ai)×Int))):=
 AX (BG .i64 (ha+1))<|some (.next (hb,hd,ha+1))
def Dk (s:Ai)(c:Int)(hd:(List Ai))(hb:Int)(ha:Int):Option (Stp ((List Ai)×Int×Int) (Out ((List Ai)) ((List Ai)×Int))):=
 Bz (decide (ha<(s.length:Int))) (AX (Ch ha (s.length:Int))<|Bz (decide ((BK s ha)=c)) (AX (IR hb ha)<|AX (IR ha (s.length:Int))<|AX (Eh 16 (hd.length+([List.take (Int.toNat ha-Int.toNat hb) (List.drop (Int.toNat hb) s)]:List Ai).length))<|AX (BG .i64 (ha+1))<|Hd ha (hd++([List.take (Int.toNat ha-Int.toNat hb) (List.drop (Int.toNat hb) s)]:List Ai)) (ha+1)) (Hd ha hd hb)) (some (.out (.go (hd,hb))))
def Hc (s:Ai)(hb:(List Ai))(ha:Int):Option ((List Ai)):=
 AX (IR ha (s.length:Int))<|AX (Eh 16 (hb.length+([List.drop (Int.toNat ha) s]:List Ai).length))<|some (hb++([List.drop (Int.toNat ha) s]:List Ai))
def Pq (F:Nat)(s:Ai)(c:Int):Option ((List Ai)):=
 Bv (BX (λσ=>Dk s c σ.1 σ.2.1 σ.2.2) F (([]:List Ai),0,0)) (BT λν=>Hc s ν.1 ν.2)
def Dd (r1:(List Ai))(hb:Int)(ha:Int):Option (Stp (Int×Int) (Out (Int×Int) (Int))):=
 Bz (decide (ha<4)) (AX (Ch ha (r1.length:Int))<|AX (Eh 1 (Ax r1 ha).length)<|Bz (((!decide ((Cq (Ax r1 ha))=0))||((decide ((B6 (Ax r1 ha))<0))||(decide (255<(B6 (Ax r1 ha))))))) (some (.out (.ret (0,1)))) (AX (BG .i64 (256*hb))<|AX (BG .i64 ((256*hb)+(B6 (Ax r1 ha))))<|AX (BG .i64 (ha+1))<|some (.next ((256*hb)+(B6 (Ax r1 ha)),ha+1)))) (some (.out (.go hb)))
def GK (ha:Int):Option (Int×Int):=
 some (ha,0)
def H6 (F:Nat)(s:Ai):Option (Int×Int):=
 Bv (Pq F s 46) λr1=>Bz (!decide ((r1.length:Int)=4)) (some (0,1)) (Bv (BX (λσ=>Dd r1 σ.1 σ.2) F (0,0)) (BT λν=>GK ν))
def H5 (F:Nat)(q:AI)(addr:Int)(port:Int):Option (Bool):=
 AX ((D8 F q).isSome)<|AX (imp (!(!decide ((ov (D8 F q))=0))) ((C0 addr).isSome))<|AX (imp (!(!decide ((ov (D8 F q))=0))) (imp (!(!(ov (C0 addr)))) ((Dr port).isSome)))<|Bz (((!decide ((ov (D8 F q))=0))||((!(ov (C0 addr)))||(!(ov (Dr port)))))) (some false) (AX ((Cz F q.fBits).isSome)<|AX (!decide ((ov (Cz F q.fBits))=0))<|AX (BG .i64 (Int.tdiv addr (ov (Cz F q.fBits))))<|AX (BG .i64 (Int.tdiv q.fAddr (ov (Cz F q.fBits))))<|some ((decide ((Int.tdiv addr (ov (Cz F q.fBits)))=(Int.tdiv q.fAddr (ov (Cz F q.fBits)))))&&((decide (q.fLow≤port))&&(decide (port≤q.fHigh)))))
def DF (F:Nat)(l:(List AI))(addr:Int)(port:Int)(ha:Int):Option (Stp (Int) (Out (BA) (Unit))):=
 Bz (decide (ha<(l.length:Int))) (AX (Ch ha (l.length:Int))<|Bv (H5 F (Ax l ha) addr port) λhb=>Bz (hb) (some (.out (.ret (BA.mk ((Ax l ha).fAllow) ha)))) (AX (BG .i64 (ha+1))<|some (.next (ha+1)))) (some (.out (.go ())))
def Hy :Option (BA):=
 some (BA.mk false (-1))
def Ha (F:Nat)(l:(List AI))(addr:Int)(port:Int):Option (BA):=
 Bv (BX (λσ=>DF F l addr port σ) F 0) (BT λν=>Hy )
def Gc (F:Nat)(op:Ai):Option (Bool):=
 Bv (Re F ([([103,101,116]:Ai),([112,117,116]:Ai),([100,101,108,101,116,101]:Ai),([115,101,110,100]:Ai),([116,105,109,101,114]:Ai),([115,105,103,110,97,108]:Ai),([115,101,99,114,101,116]:Ai),([102,101,116,99,104]:Ai),([110,111,119]:Ai),([108,111,103]:Ai)]:List Ai) op) λr2=>some r2
def Nj (F:Nat)(v:(List Ac)):Option (Ai×Bool):=
 AX ((HC F v).isSome)<|AX (imp (!(!decide ((ov (HC F v))=0))) (Ch 0 (v.length:Int)))<|Bz (((!decide ((ov (HC F v))=0))||(!decide (((Ax v 0).fKind)=4)))) (some (([]:Ai),false)) (AX (Ch 0 (v.length:Int))<|some ((Ax v 0).fStr,true))
def D1 (s:Ai)(ha:Int):Option (Stp (Int) (Out (Int×Int×Bool) (Int))):=
 AX (imp (decide (ha<(s.length:Int))) (Ch ha (s.length:Int)))<|Bz (((decide (ha<(s.length:Int)))&&(!decide ((BK s ha)=58)))) (AX (BG .i64 (ha+1))<|some (.next (ha+1))) (some (.out (.go ha)))
def DO (F:Nat)(s:Ai)(ha:Int):Option (Int×Int×Bool):=
 Bz (decide (ha=(s.length:Int))) (some (0,0,false)) (AX (IR ha (s.length:Int))<|Bv (H6 F (List.take (Int.toNat ha) s)) λhb=>AX (BG .i64 (ha+1))<|AX (IR (ha+1) (s.length:Int))<|AX (Eh 1 (List.drop (Int.toNat (ha+1)) s).length)<|Bz (((!decide (hb.2=0))||((!decide ((Cq (List.drop (Int.toNat (ha+1)) s))=0))||((decide ((B6 (List.drop (Int.toNat (ha+1)) s))<1))||(decide (65535<(B6 (List.drop (Int.toNat (ha+1)) s)))))))) (some (0,0,false)) (some (hb.1,B6 (List.drop (Int.toNat (ha+1)) s),true)))
def EF (F:Nat)(s:Ai):Option (Int×Int×Bool):=
 Bv (BX (λσ=>D1 s σ) F 0) (BT λν=>DO F s ν)
def H4 (F:Nat)(op:Ai)(s:Ai):Option (Bool):=
 Bz (((decide (op=([103,101,116]:Ai)))||((decide (op=([112,117,116]:Ai)))||((decide (op=([100,101,108,101,116,101]:Ai)))||(decide (op=([115,105,103,110,97,108]:Ai))))))) (AX (Eh 1 s.length)<|some (Jq s)) (Bz (decide (op=([102,101,116,99,104]:Ai))) (Bv (EF F s) λha=>some ha.2.2) (AX (Eh 1 s.length)<|some (Cv s)))
def Oy (op:Ai):Option (Int):=
 Bz (decide (op=([110,111,119]:Ai))) (some 0) (Bz (((decide (op=([103,101,116]:Ai)))||((decide (op=([100,101,108,101,116,101]:Ai)))||((decide (op=([115,101,99,114,101,116]:Ai)))||(decide (op=([108,111,103]:Ai))))))) (some 1) (Bz (decide (op=([116,105,109,101,114]:Ai))) (some 3) (some 2)))
def Ev (v:(List Ac)):Option (Bool):=
 AX (Ch 0 (v.length:Int))<|AX (imp (decide (((Ax v 0).fKind)=5)) (imp (decide (0<((Ax v 0).fN))) (Ch 1 (v.length:Int))))<|some ((decide (((Ax v 0).fKind)=5))&&((decide (0<((Ax v 0).fN)))&&(decide (((Ax v 1).fKind)=4))))
def EE (F:Nat)(q:AQ)(ha:Int):Option (Stp (Int) (Out (Bool) (Unit))):=
 Bz (decide (ha<(q.fArgs.length:Int))) (AX (Ch ha (q.fArgs.length:Int))<|Bv (HC F (Ax q.fArgs ha)) λhb=>Bz (!decide (hb=0)) (some (.out (.ret false))) (AX (BG .i64 (ha+1))<|some (.next (ha+1)))) (some (.out (.go ())))
def D0 (F:Nat)(q:AQ):Option (Bool):=
 Bz (((decide (q.fOp=([110,111,119]:Ai)))||(decide (q.fOp=([108,111,103]:Ai))))) (some true) (AX (Ch 0 (q.fArgs.length:Int))<|Bv (Nj F (Ax q.fArgs 0)) λha=>AX (imp (!(!ha.2)) ((H4 F q.fOp ha.1).isSome))<|Bz (((!ha.2)||(!(ov (H4 F q.fOp ha.1))))) (some false) (Bz (decide (q.fOp=([116,105,109,101,114]:Ai))) (AX (Ch 1 (q.fArgs.length:Int))<|AX (Ch 0 ((Ax q.fArgs 1).length:Int))<|some ((decide (((Ax (Ax q.fArgs 1) 0).fKind)=3))&&((decide (0≤((Ax (Ax q.fArgs 1) 0).fInt)))&&(decide (((Ax (Ax q.fArgs 1) 0).fInt)≤1073741824))))) (AX (imp (!(!decide (q.fOp=([115,105,103,110,97,108]:Ai)))) (Ch 1 (q.fArgs.length:Int)))<|AX (imp (!(!decide (q.fOp=([115,105,103,110,97,108]:Ai)))) ((Ev (Ax q.fArgs 1)).isSome))<|some ((!decide (q.fOp=([115,105,103,110,97,108]:Ai)))||(ov (Ev (Ax q.fArgs 1)))))))
def Mx (F:Nat)(q:AQ):Option (Bool):=
 Bv (Oy q.fOp) λr2=>Bz (!decide ((q.fArgs.length:Int)=r2)) (some false) (Bv (BX (λσ=>EE F q σ) F 0) (BT λν=>D0 F q ))
def Di (F:Nat)(a:AV)(ha:Int):Option (Stp (Int) (Out (Int) (Unit))):=
 Bz (decide (ha<(a.fNet.length:Int))) (AX (Ch ha (a.fNet.length:Int))<|Bv (D8 F (Ax a.fNet ha)) λhb=>Bz (!decide (hb=0)) (some (.out (.ret hb))) (AX (BG .i64 (ha+1))<|some (.next (ha+1)))) (some (.out (.go ())))
def CN (a:AV):Option (Int):=
 Bz (((decide (a.fNow<0))||(decide (1073741824<a.fNow)))) (some 2) (some 0)
def Dj (F:Nat)(a:AV)(ha:Int):Option (Stp (Int) (Out (Int) (Unit))):=
 Bz (decide (ha<(a.fPolicy.length:Int))) (AX (Ch ha (a.fPolicy.length:Int))<|Bv (Et F (Ax a.fPolicy ha)) λhb=>Bz (!decide (hb=0)) (some (.out (.ret hb))) (AX (BG .i64 (ha+1))<|some (.next (ha+1)))) (some (.out (.go ())))
def CO (F:Nat)(a:AV):Option (Int):=
 Bv (BX (λσ=>Di F a σ) F 0) (BT λν=>CN a )
def BW (a:AV)(ha:Int):Option (Stp (Int) (Out (Int) (Unit))):=
 Bz (decide (ha<(a.fOps.length:Int))) (AX (Ch ha (a.fOps.length:Int))<|AX (BG .i64 (ha-1))<|AX (Ch (ha-1) (a.fOps.length:Int))<|Bz (DX (Ax a.fOps ha) (Ax a.fOps (ha-1))||decide ((Ax a.fOps ha)=(Ax a.fOps (ha-1)))) (some (.out (.ret 11))) (AX (BG .i64 (ha+1))<|some (.next (ha+1)))) (some (.out (.go ())))
def Dh (F:Nat)(a:AV):Option (Int):=
 Bz (((decide (32<(a.fPolicy.length:Int)))||(decide (32<(a.fNet.length:Int))))) (some 3) (Bv (BX (λσ=>Dj F a σ) F 0) (BT λν=>CO F a ))
def CQ (F:Nat)(a:AV)(ha:Int):Option (Stp (Int) (Out (Int) (Unit))):=
 Bz (decide (ha<(a.fOps.length:Int))) (AX (Ch ha (a.fOps.length:Int))<|Bv (Gc F (Ax a.fOps ha)) λhb=>Bz (!hb) (some (.out (.ret 4))) (AX (BG .i64 (ha+1))<|some (.next (ha+1)))) (some (.out (.go ())))
def CP (F:Nat)(a:AV):Option (Int):=
 Bv (BX (λσ=>BW a σ) F 1) (BT λν=>Dh F a )
def EG (F:Nat)(a:AV):Option (Int):=
 AX (Eh 1 a.fTenant.length)<|AX (imp (!(!(Cv a.fTenant))) (Eh 1 a.fFunction.length))<|Bz (((!(Cv a.fTenant))||(!(Cv a.fFunction)))) (some 4) (Bv (BX (λσ=>CQ F a σ) F 0) (BT λν=>CP F a ))
def IC (tenant:Ai)(op:Ai)(name:Ai):Option (Ai):=
 AX (BG .i64 ((tenant.length:Int)+(([47]:Ai).length:Int)))<|AX (BG .i64 (((tenant++([47]:Ai)).length:Int)+(op.length:Int)))<|AX (BG .i64 ((((tenant++([47]:Ai))++op).length:Int)+(([47]:Ai).length:Int)))<|AX (BG .i64 (((((tenant++([47]:Ai))++op)++([47]:Ai)).length:Int)+(name.length:Int)))<|some ((((tenant++([47]:Ai))++op)++([47]:Ai))++name)
def Cp (F:Nat)(a:AV)(q:AQ):Option (Int):=
 Bv (EG F a) λr3=>Bz (!decide (r3=0)) (some r3) (Bv (Gc F q.fOp) λr9=>Bz (!r9) (some 4) (Bv (Re F a.fOps q.fOp) λhd=>Bz (!hd) (some 12) (Bv (Mx F q) λhe=>Bz (!he) (some 7) (Bz (((decide (q.fOp=([110,111,119]:Ai)))||(decide (q.fOp=([108,111,103]:Ai))))) (some 0) (AX (Ch 0 (q.fArgs.length:Int))<|Bv (Nj F (Ax q.fArgs 0)) λha=>Bv (IC a.fTenant q.fOp ha.1) λhf=>Bv (Jf F a.fPolicy q.fOp hf) λhg=>Bz (!hg.fAllowed) (some 12) (Bz (decide (q.fOp=([102,101,116,99,104]:Ai))) (Bv (EF F ha.1) λhb=>Bv (Ha F a.fNet hb.1 hb.2.1) λhh=>Bz (!hh.fAllowed) (some 12) (some 0)) (some 0)))))))
end Go.Proofs.YtmjlemhondjfhaaGreatDoor
namespace Go.Proofs.YtmjlemhondjfhaaGreatDoor.Q
open Go Go.RowKit
set_option linter.unusedVariables false
set_option linter.unusedSimpArgs false
set_option maxRecDepth 100000
set_option maxHeartbeats 4000000
@[reducible] def AM (x:(List Ac)):List Rp:=[AO 4 (A8 Ae x)]
theorem CW (x:(List Ac)):(AM x).length=1:=rfl
@[reducible] def AU (x:AQ):List Rp:=[rS x.fOp,AO 1 (A8 AM x.fArgs)]
@[reducible] def Bf (x:AV):List Rp:=[rS x.fTenant,rS x.fFunction,AO 1 (A8 eS x.fOps),AO 3 (A8 Al x.fPolicy),AO 5 (A8 A1 x.fNet),A4 x.fNow]
@[reducible] def BN (x:BS):List Rp:=[rS x.fKey,AO 4 (A8 Ae x.fValue),A4 x.fVersion]
theorem Qy (x:BS):(BN x).length=3:=rfl
theorem AcN:∃inf,Tryz.prog.info? 70=some inf∧inf.zero=some (.agg #[(.int .i64 0),(.int .i64 0),(.string ⟨#[]⟩),(.int .i64 0)])∧inf.size=4∧inf.bytes=40:=by
  have key:(Tryz.prog.info? 70).map (λi=>(i.zero,i.size,i.bytes))=some (some (.agg #[(.int .i64 0),(.int .i64 0),(.string ⟨#[]⟩),(.int .i64 0)]),4,40):=by kernel_rfl
  obtain⟨inf,h1,h2⟩:=Option.map_eq_some_iff.1 key;simp only[Prod.mk.injEq] at h2;exact⟨inf,h1,h2.1,h2.2.1,h2.2.2⟩
theorem L4 (F:Nat)(l:(List Ai))(r:Bool)(h:C5 F l=some r):Fn Tryz.prog GE 150 [AO 1 (A8 eS l)] [] (λR H=>R=rB r∧H=[]):=by
 refine enter (n:=16) Tryz.func150 Aa Tryz.ntmps150 Aa (λw Z=>?_);unfold C5 at h;refine Ad (wa Aa (Ao (Ak (Ad (wa Aa (Ao (A6 (ob h λhg hh hf=>Br (S:=Nat×(Int)×(Unit)) (V:=(Unit)×(Unit)) 0 (λσ=>BX (λσ=>D2 F l σ) σ.1 σ.2.1=some hg) (λσ=>[(0,AO 1 (A8 eS l)),(3,A4 σ.2.1)]) (λσ=>[]) (λσ=>σ.1) (F,0,()) hh (AH.c Aa (AH.c Aa AH.nil)) sN (λσ=>EH =some r) (λσ=>[]) (λσ=>[]) ?_ ?_))))))))
 ·rintro⟨h2,hd,⟨⟩⟩ hi;refine GI ?_;obtain⟨hj,rfl,hk,ha,he⟩:=Cc hi;replace ha:D2 F l hd=some hk:=ha;unfold D2 at ha;refine Ak (Ad (wm Aa (wm Aa (wv (Bj (ys:=l) (enc:=eS) C7 Aa) (wv (Ci Aa Aa) (Ao (cz ha Aa (λhl hm=>?_) (λhl hn=>?_))))))))
  ·refine Aw (AE (Ak (A6 (Ad (wm Aa (wm Aa (ck hm λho hp=>wv (Bk (enc:=eS) (ys:=l) C7 CE Aa Aa ho) (wv (Bb Dp Aa Aa) (ob hp λhq hr hs=>BP Tryz.call184 (NV F (Ax l hd) hq hr) Aa (wv (BO Aa) (Ao (cz hs Aa (λht hu=>?_) (λht hw=>?_)))))))))))))
   ·refine Ad (wa Aa (Ao (Ap (A3 (Ab (Ab (Bg ?_)))))));have hx:=BC hu he hf;refine A3 (Ab ?_);obtain rfl:=Au hx;exact Aq (B2 Tryz.results150 (AD Aa)) sN ⟨Aa,Aa⟩
   refine Aw (AB (AE (Af (wm Aa (ck hw λhy hz=>wv (By Aa Aa hy) (wa Aa (Ah ?_)))))));have h0:=Bi hz he;exact Ar (AC (hj,hd+1,()) ⟨h0,AeR _⟩ (AH.c Aa (AH.c Aa AH.nil)) sN)
  refine Bn (Av ?_);have h1:=BE hn he hf;exact Av (AY (AC ((),()) h1 AH.nil sN))
 rintro⟨⟨⟩,⟨⟩⟩ hb;refine GX ?_;replace hb:EH =some r:=hb;unfold EH at hb;refine AW (AE (Ad (wa Aa (Ao (Ap ?_)))));obtain rfl:=Au hb;exact Aq (B2 Tryz.results150 (AD Aa)) sN ⟨Aa,Aa⟩
theorem Ts (F:Nat)(l:(List Ai))(s:Ai)(r:Bool)(h:GL F l s=some r):Fn Tryz.prog GE 185 [AO 1 (A8 eS l),rS s] [] (λR H=>R=rB r∧H=[]):=by
 refine enter (n:=18) Tryz.func185 Aa Tryz.ntmps185 Aa (λw Z=>?_);unfold GL at h;refine Ad (wa Aa (Ao (Ak (Ad (wa Aa (Ao (A6 (ob h λhg hh hf=>Br (S:=Nat×(Int)×(Unit)) (V:=(Unit)×(Unit)) 0 (λσ=>BX (λσ=>He F l s σ) σ.1 σ.2.1=some hg) (λσ=>[(0,AO 1 (A8 eS l)),(1,rS s),(5,A4 σ.2.1)]) (λσ=>[]) (λσ=>σ.1) (F,0,()) hh (AH.c Aa (AH.c Aa (AH.c Aa AH.nil))) sN (λσ=>Jd =some r) (λσ=>[]) (λσ=>[]) ?_ ?_))))))))
 ·rintro⟨h2,hd,⟨⟩⟩ hi;refine GI ?_;obtain⟨hj,rfl,hk,ha,he⟩:=Cc hi;replace ha:He F l s hd=some hk:=ha;unfold He at ha;refine Ak (Ad (wm Aa (wm Aa (wv (Bj (ys:=l) (enc:=eS) C7 Aa) (wv (Ci Aa Aa) (Ao (cz ha Aa (λhl hm=>?_) (λhl hn=>?_))))))))
  ·refine Aw (AE (Ak (A6 (Ad (wm Aa (wm Aa (ck hm λho hp=>wv (Bk (enc:=eS) (ys:=l) C7 CE Aa Aa ho) (wv (Bb Dp Aa Aa) (wm Aa (ob hp λhq hr hs=>BP Tryz.call217 (Ua F (Ax l hd) s hq hr) Aa (Ao (cz hs Aa (λht hu=>?_) (λht hw=>?_)))))))))))))
   ·refine Ad (wa Aa (Ao (Ap (A3 (Ab (Ab (Bg ?_)))))));have hx:=BC hu he hf;refine A3 (Ab ?_);obtain rfl:=Au hx;exact Aq (B2 Tryz.results185 (AD Aa)) sN ⟨Aa,Aa⟩
   refine Aw (AB (AE (Af (wm Aa (ck hw λhy hz=>wv (By Aa Aa hy) (wa Aa (Ah ?_)))))));have h0:=Bi hz he;exact Ar (AC (hj,hd+1,()) ⟨h0,AeR _⟩ (AH.c Aa (AH.c Aa (AH.c Aa AH.nil))) sN)
  refine Bn (Av ?_);have h1:=BE hn he hf;exact Av (AY (AC ((),()) h1 AH.nil sN))
 rintro⟨⟨⟩,⟨⟩⟩ hb;refine GX ?_;replace hb:Jd =some r:=hb;unfold Jd at hb;refine AW (AE (Ad (wa Aa (Ao (Ap ?_)))));obtain rfl:=Au hb;exact Aq (B2 Tryz.results185 (AD Aa)) sN ⟨Aa,Aa⟩
theorem Ps (F:Nat)(s:Aj)(r:Int)(h:Et F s=some r):Fn Tryz.prog GE 101 [B9 (Al s)] [] (λR H=>R=A4 r∧H=[]):=by
 refine enter (n:=35) Tryz.func101 Aa Tryz.ntmps101 Aa (λw Z=>?_);unfold Et at h;refine Ad (BM Aa Aa (λb1=>?_));refine wa Aa (Ao (Ak (A5 [(1,rP b1 0),(24,rB ((decide ((s.fActions.length:Int)<1))||((decide (8<(s.fActions.length:Int)))||((decide ((s.fResources.length:Int)<1))||(decide (8<(s.fResources.length:Int)))))))] [.blk b1 (Al s) 100] ?_ ?_)))
 ·refine Af (vF Gh Aa Dn (vL 0 E5 Aa (wv (Bj (ys:=s.fActions) (enc:=eS) C7 Aa) (wv (Ci Aa Aa) (wm Aa (AA (decide ((s.fActions.length:Int)<1)) (λc2=>?_) (λc2=>?_)))))))
  ·refine wf c2 (wf c2 (wf c2 (wf c2 (wv (r:=rB true) (An Aa c2 Aa) (wm Aa (wz Aa Aa (wz Aa Aa (wz Aa Aa (wz Aa Aa (wv (r:=rB true) (An (b:=true) Aa Aa Aa) (wm Aa (wz Aa Aa (wz Aa Aa (wz Aa Aa (wz Aa Aa (wv (r:=rB true) (An (b:=true) Aa Aa Aa) (Ah ?_)))))))))))))))));exact BH c2
  refine wo c2 (vF Gh Aa Dn (wo c2 (vL 0 E5 Aa (wo c2 (wv (Bj (ys:=s.fActions) (enc:=eS) C7 Aa) (wo c2 (wv (Dc Aa Aa) (Ep Aa c2 Aa (wm Aa (AA (decide (8<(s.fActions.length:Int))) (λc3=>?_) (λc3=>?_)))))))))))
  ·refine wf c3 (wf c3 (wf c3 (wf c3 (wv (r:=rB true) (An Aa c3 Aa) (wm Aa (wz Aa Aa (wz Aa Aa (wz Aa Aa (wz Aa Aa (wv (r:=rB true) (An (b:=true) Aa Aa Aa) (Ah ?_)))))))))));exact BH (And.intro c2 c3)
  refine wo c3 (vF Gh Aa Dn (wo c3 (vL 0 E5 Aa (wo c3 (wv (Bj (ys:=s.fResources) (enc:=eS) C7 Aa) (wo c3 (wv (Ci Aa Aa) (Ep Aa c3 Aa (wm Aa (AA (decide ((s.fResources.length:Int)<1)) (λc4=>?_) (λc4=>?_)))))))))))
  ·refine wf c4 (wf c4 (wf c4 (wf c4 (wv (r:=rB true) (An Aa c4 Aa) (Ah ?_)))));exact BH (And.intro c2 (And.intro c3 c4))
  refine wo c4 (vF Gh Aa Dn (wo c4 (vL 0 E5 Aa (wo c4 (wv (Bj (ys:=s.fResources) (enc:=eS) C7 Aa) (wo c4 (wv (Dc Aa Aa) (Ep Aa c4 Aa (Ah ?_)))))))));exact BH (And.intro c2 (And.intro c3 c4))
 refine cz h Aa (λc5 h6=>?_) (λc5 h7=>?_)
 ·refine Ad (wa Aa (Ao (Ap (Ab ?_))));obtain rfl:=Au h6;exact Aq (B2 Tryz.results101 (AD Aa)) (sS sN) ⟨Aa,Aa⟩
 refine Aw (AE (Ak (ck h7 λg8 h9=>ck h9 λhb hd=>A5 [(34,rB ((!(ov (C5 F s.fActions)))||(!(ov (C5 F s.fResources)))))] [] ?_ ?_)))
 ·refine Af (vF Gh Aa Dn (vL 0 E5 Aa (BP Tryz.call150 (L4 F s.fActions (ov (C5 F s.fActions)) (Cr g8)) Aa (wv (BO Aa) (wm Aa (AA (!(ov (C5 F s.fActions))) (λha=>?_) (λha=>?_)))))))
  ·refine wf ha (wf ha (wf ha (wf ha (wv (r:=rB true) (An Aa ha Aa) (Ah ?_)))));exact BH ha
  refine wo ha (vF Gh Aa Dn (wo ha (vL 0 E5 Aa (wo ha (BP Tryz.call150 (L4 F s.fResources (ov (C5 F s.fResources)) (Cr (C3 hb ha))) Aa (wo ha (wv (BO Aa) (Ep Aa ha Aa (Ah ?_)))))))));exact BH ha
 refine cz hd Aa (λhe hf=>?_) (λhe hg=>?_)
 ·refine Ad (wa Aa (Ao (Ap (Ab ?_))));obtain rfl:=Au hf;exact Aq (B2 Tryz.results101 (AD Aa)) sN ⟨Aa,Aa⟩
 refine Aw (AE (Ad (wa Aa (Ao (Ap ?_)))));obtain rfl:=Au hg;exact Aq (B2 Tryz.results101 (AD Aa)) sN ⟨Aa,Aa⟩
theorem RH (F:Nat)(s:Aj)(action:Ai)(resource:Ai)(r:Bool)(h:EI F s action resource=some r):Fn Tryz.prog GE 154 [B9 (Al s),rS action,rS resource] [] (λR H=>R=rB r∧H=[]):=by
 refine enter (n:=22) Tryz.func154 Aa Tryz.ntmps154 Aa (λw Z=>?_);unfold EI at h;refine Ad (BM Aa Aa (λb1=>?_));refine wa Aa (Ao (ck h λg2 h3=>ck h3 λg4 h5=>ck h5 λg6 h7=>A5 [(6,rB ((decide ((ov (Et F s))=0))&&((ov (GL F s.fActions action))&&(ov (GL F s.fResources resource)))))] [] ?_ ?_))
 ·refine Af (wv (Be (i:=0) LZ En Aa Aa Aa Aa) (BP Tryz.call101 (Ps F s (ov (Et F s)) (Cr g2)) Aa (wv (B7 Aa Aa) (wm Aa (AA (decide ((ov (Et F s))=0)) (λc8=>?_) (λc8=>?_))))))
  ·refine wo c8 (vF Gh Aa Dn (wo c8 (vL 0 E5 Aa (wo c8 (wm Aa (wo c8 (BP Tryz.call185 (Ts F s.fActions action (ov (GL F s.fActions action)) (Cr (BF g4 c8))) Aa (E0 Aa c8 Aa (wm Aa (AA ((ov (GL F s.fActions action))) (λc9=>?_) (λc9=>?_)))))))))))
   ·refine wo c9 (vF Gh Aa Dn (wo c9 (vL 0 E5 Aa (wo c9 (wm Aa (wo c9 (BP Tryz.call185 (Ts F s.fResources resource (ov (GL F s.fResources resource)) (Cr (BF (BF g6 c8) c9))) Aa (E0 Aa c9 Aa (wa Aa (Ah ?_))))))))));exact BH (And.intro c8 c9)
   refine wf c9 (wf c9 (wf c9 (wf c9 (wv (r:=rB false) (Ay Aa c9 Aa) (wa Aa (Ah ?_))))));exact BH (And.intro c8 c9)
  refine wf c8 (wf c8 (wf c8 (wf c8 (wv (r:=rB false) (Ay Aa c8 Aa) (wm Aa (wz Aa Aa (wz Aa Aa (wz Aa Aa (wz Aa Aa (wv (r:=rB false) (Ay (b:=false) Aa Aa Aa) (wa Aa (Ah ?_))))))))))));exact BH c8
 refine Ap ?_;obtain rfl:=Au h7;exact Aq (B2 Tryz.results154 (AD Aa)) sN ⟨Aa,Aa⟩
theorem Pr (F:Nat)(l:(List Aj))(allow:Bool)(action:Ai)(resource:Ai)(r:Int)(h:Je F l allow action resource=some r):Fn Tryz.prog GE 106 [AO 3 (A8 Al l),rB allow,rS action,rS resource] [] (λR H=>R=A4 r∧H=[]):=by
 refine enter (n:=33) Tryz.func106 Aa Tryz.ntmps106 Aa (λw Z=>?_);unfold Je at h;refine Ad (wa Aa (Ao (Ak (Ad (wa Aa (Ao (A6 (ob h λhi hj hg=>Br (S:=Nat×(Int)×(Unit)) (V:=(Unit)×(Unit)) 0 (λσ=>BX (λσ=>EJ F l allow action resource σ) σ.1 σ.2.1=some hi) (λσ=>[(0,AO 3 (A8 Al l)),(1,rB allow),(2,rS action),(3,rS resource),(9,A4 σ.2.1)]) (λσ=>[]) (λσ=>σ.1) (F,0,()) hj (AH.c5 Aa Aa Aa Aa Aa AH.nil) sN (λσ=>H7 =some r) (λσ=>[]) (λσ=>[]) ?_ ?_))))))))
 ·rintro⟨h2,hb,⟨⟩⟩ hk;refine GI ?_;obtain⟨hl,rfl,hm,hd,hf⟩:=Cc hk;replace hd:EJ F l allow action resource hb=some hm:=hd;unfold EJ at hd;refine Ak (Ad (wm Aa (wm Aa (wv (Bj (ys:=l) (enc:=Al) Id Aa) (wv (Ci Aa Aa) (Ao (cz hd Aa (λhn ho=>?_) (λhn hp=>?_))))))))
  ·refine Aw (AE (Ak (A6 (ck ho λhh hq=>ck hq λhr hs=>A5 [(0,AO 3 (A8 Al l)),(1,rB allow),(2,rS action),(3,rS resource),(9,A4 hb),(31,rB ((((Ax l hb).fAllow) ==allow)&&(ov (EI F (Ax l hb) action resource))))] [] ?_ ?_))))
   ·refine Af (wm Aa (wm Aa (wv (Bk (enc:=Al) (ys:=l) Id En Aa Aa hh) (wv (Bs Gh Aa Jz Aa Aa) (wv (Bb Qg Aa Aa) (wm Aa (wv (r:=rB (((Ax l hb).fAllow) ==allow)) (Zp Tryz.underlying4 Aa Aa) (wm Aa (AA (((Ax l hb).fAllow) ==allow) (λha=>?_) (λha=>?_))))))))))
    ·refine wo ha (wm Aa (wo ha (wm Aa (wo ha (wv (Bk (enc:=Al) (ys:=l) Id En Aa Aa hh) (wo ha (wv (Cu LZ En Aa Aa Aa) (wo ha (wm Aa (wo ha (wm Aa (wo ha (BP Tryz.call154 (RH F (Ax l hb) action resource (ov (EI F (Ax l hb) action resource)) (Cr (BF hr ha))) Aa (E0 Aa ha Aa (Ah ?_)))))))))))))));exact BH ha
    refine wf ha (wf ha (wf ha (wf ha (wf ha (wf ha (wf ha (wv (r:=rB false) (Ay Aa ha Aa) (Ah ?_))))))));exact BH ha
   refine cz hs Aa (λht hu=>?_) (λht hw=>?_)
   ·refine Ad (wm Aa (wa Aa (Ao (Ap (A3 (Ab (Ab (Bg ?_))))))));have hx:=BC hu hf hg;refine A3 (Ab ?_);obtain rfl:=Au hx;exact Aq (B2 Tryz.results106 (AD Aa)) sN ⟨Aa,Aa⟩
   refine Aw (AB (AE (Af (wm Aa (ck hw λhy hz=>wv (By Aa Aa hy) (wa Aa (Ah ?_)))))));have h0:=Bi hz hf;exact Ar (AC (hl,hb+1,()) ⟨h0,AeR _⟩ (AH.c5 Aa Aa Aa Aa Aa AH.nil) sN)
  refine Bn (Av ?_);have h1:=BE hp hf hg;exact Av (AY (AC ((),()) h1 AH.nil sN))
 rintro⟨⟨⟩,⟨⟩⟩ he;refine GX ?_;replace he:H7 =some r:=he;unfold H7 at he;refine AW (AE (Ad (wv (r:=A4 (-1)) (A0 Aa) (Ao (Ap ?_)))));obtain rfl:=Au he;exact Aq (B2 Tryz.results106 (AD Aa)) sN ⟨Aa,Aa⟩
theorem Tt (F:Nat)(l:(List Aj))(action:Ai)(resource:Ai)(r:BA)(h:Jf F l action resource=some r):Fn Tryz.prog GE 44 [AO 3 (A8 Al l),rS action,rS resource] [] (λR H=>R=B9 (Gr r)∧H=[]):=by
 refine enter (n:=24) Tryz.func44 Aa Tryz.ntmps44 Aa (λw Z=>?_);unfold Jf at h;refine Ad (BL (cs:=[rB false,A4 0]) Yo Aa Aa (λb1=>?_));refine Bp (wm Aa (wm Aa (wm Aa (ob h λr2 e4 h3=>BP Tryz.call106 (Pr F l false action resource r2 e4) Aa (wa Aa (Ao (Ak (Ad (wm Aa (wv (DP Aa Aa) (Ao (cz h3 Aa (λc5 h6=>?_) (λc5 h7=>?_)))))))))))))
 ·refine Ad (wm Aa (wv (r:=B9 [rB false,A4 r2]) (Kx Aa Aa) (GU (i:=0) Kb Aa Aa Aa (B8.c Aa) Aa Aa ?_)));refine Ao (Ap (Ab ?_));obtain rfl:=Au h6;exact Aq (B2 Tryz.results44 (Dv (i:=0) ST Kb Aa Aa Aa)) (sS sN) ⟨Aa,Aa⟩
 refine Aw (AE (Ad (wm Aa (wm Aa (wm Aa (ob h7 λr8 ha h9=>BP Tryz.call106 (Pr F l true action resource r8 ha) Aa (wa Aa (Bp (wm Aa (wv (DP Aa Aa) (wm Aa (wv (r:=B9 [rB (decide (0≤r8)),A4 r8]) (Gq Aa Aa Aa Aa) (GU (i:=0) Kb Aa Aa Aa (B8.c Aa) Aa Aa ?_)))))))))))));refine Ao (Ap ?_);obtain rfl:=Au h9;exact Aq (B2 Tryz.results44 (Dv (i:=0) ST Kb Aa Aa Aa)) (sS sN) ⟨Aa,Aa⟩
theorem My (n:Int)(r:Bool)(h:C0 n=some r):Fn Tryz.prog GE 151 [A4 n] [] (λR H=>R=rB r∧H=[]):=by
 refine enter (n:=9) Tryz.func151 Aa Tryz.ntmps151 Aa (λw Z=>?_);unfold C0 at h;refine Ad (wa Aa (Ao (A5 [(2,rB ((decide (0≤n))&&(decide (n≤4294967295))))] [] ?_ ?_)))
 ·refine Af (wm Aa (wv (DP Aa Aa) (wm Aa (AA (decide (0≤n)) (λc1=>?_) (λc1=>?_)))))
  ·refine wo c1 (wm Aa (wo c1 (wv (Hf Aa Aa) (E0 Aa c1 Aa (wa Aa (Ah ?_))))));exact BH c1
  refine wf c1 (wf c1 (wv (r:=rB false) (Ay Aa c1 Aa) (wa Aa (Ah ?_))));exact BH c1
 refine Ap ?_;obtain rfl:=Au h;exact Aq (B2 Tryz.results151 (AD Aa)) sN ⟨Aa,Aa⟩
theorem Nl (n:Int)(r:Bool)(h:Dr n=some r):Fn Tryz.prog GE 152 [A4 n] [] (λR H=>R=rB r∧H=[]):=by
 refine enter (n:=9) Tryz.func152 Aa Tryz.ntmps152 Aa (λw Z=>?_);unfold Dr at h;refine Ad (wa Aa (Ao (A5 [(2,rB ((decide (1≤n))&&(decide (n≤65535))))] [] ?_ ?_)))
 ·refine Af (wm Aa (wv (DP Aa Aa) (wm Aa (AA (decide (1≤n)) (λc1=>?_) (λc1=>?_)))))
  ·refine wo c1 (wm Aa (wo c1 (wv (Hf Aa Aa) (E0 Aa c1 Aa (wa Aa (Ah ?_))))));exact BH c1
  refine wf c1 (wf c1 (wv (r:=rB false) (Ay Aa c1 Aa) (wa Aa (Ah ?_))));exact BH c1
 refine Ap ?_;obtain rfl:=Au h;exact Aq (B2 Tryz.results152 (AD Aa)) sN ⟨Aa,Aa⟩
theorem Hb (F:Nat)(bits:Int)(r:Int)(h:Cz F bits=some r):Fn Tryz.prog GE 153 [A4 bits] [] (λR H=>R=A4 r∧H=[]):=by
 refine enter (n:=13) Tryz.func153 Aa Tryz.ntmps153 Aa (λw Z=>?_);unfold Cz at h;refine Ad (wa Aa (Bp (wa Aa (Ao (Ak (Ad (wm Aa (wa Aa (Ao (A6 (ob h λhg hh hi=>Br (S:=Nat×(Int×Int)×(Unit)) (V:=(Int)×(Unit)) 0 (λσ=>BX (λσ=>JG σ.1 σ.2) σ.1 σ.2.1=some hg) (λσ=>[(3,A4 σ.2.1.1),(4,A4 σ.2.1.2)]) (λσ=>[]) (λσ=>σ.1) (F,(1,bits),()) hh (AH.c Aa (AH.c Aa AH.nil)) sN (λσ=>JF σ.1=some r) (λσ=>[(3,A4 σ.1)]) (λσ=>[]) ?_ ?_)))))))))))
 ·rintro⟨hx,⟨hd,he⟩,⟨⟩⟩ hj;refine GI ?_;obtain⟨hk,rfl,hl,ha,hf⟩:=Cc hj;replace ha:JG hd he=some hl:=ha;unfold JG at ha;refine Ak (Ad (wm Aa (wv (Ci Aa Aa) (Ao (cz ha Aa (λhm hn=>?_) (λhm ho=>?_))))))
  ·refine Aw (AE (Ak (A6 (Af (wm Aa (ck hn λhp hq=>wv (Wm Aa Aa hp) (wa Aa (Ah (AB (AE (Af (wm Aa (ck hq λhr hs=>wv (By Aa Aa hr) (wa Aa (Ah ?_)))))))))))))));have ht:=Bi hs hf;exact Ar (AC (hk,(2*hd,he+1),()) ⟨ht,AeR _⟩ (AH.c Aa (AH.c Aa AH.nil)) sN)
  refine Bn (Av ?_);have hu:=BE ho hf hi;exact Av (AY (AC (hd,()) hu (AH.c Aa AH.nil) sN))
 rintro⟨hw,⟨⟩⟩ hb;refine GX ?_;replace hb:JF hw=some r:=hb;unfold JF at hb;refine AW (AE (Ad (wm Aa (wa Aa (Ao (Ap ?_))))));obtain rfl:=Au hb;exact Aq (B2 Tryz.results153 (AD Aa)) sN ⟨Aa,Aa⟩
theorem NO (F:Nat)(q:AI)(r:Int)(h:D8 F q=some r):Fn Tryz.prog GE 102 [B9 (A1 q)] [] (λR H=>R=A4 r∧H=[]):=by
 refine enter (n:=43) Tryz.func102 Aa Tryz.ntmps102 Aa (λw Z=>?_);unfold D8 at h;refine Ad (BM Aa Aa (λb1=>?_));refine wa Aa (Ao (Ak (ck h λg2 h3=>ck h3 λg4 h5=>ck h5 λg6 h7=>A5 [(1,rP b1 0),(35,rB ((!(ov (C0 q.fAddr)))||((decide (q.fBits<0))||((decide (32<q.fBits))||((!(ov (Dr q.fLow)))||((!(ov (Dr q.fHigh)))||(decide (q.fHigh<q.fLow))))))))] [.blk b1 (A1 q) 111] ?_ ?_)))
 ·refine Af (vF CT Aa CK (vL 0 Df Aa (BP Tryz.call151 (My q.fAddr (ov (C0 q.fAddr)) (Cr g2)) Aa (wv (BO Aa) (wm Aa (AA (!(ov (C0 q.fAddr))) (λc8=>?_) (λc8=>?_)))))))
  ·refine wf c8 (wf c8 (wf c8 (wv (r:=rB true) (An Aa c8 Aa) (wm Aa (wz Aa Aa (wz Aa Aa (wz Aa Aa (wv (r:=rB true) (An (b:=true) Aa Aa Aa) (wm Aa (wz Aa Aa (wz Aa Aa (wz Aa Aa (wz Aa Aa (wv (r:=rB true) (An (b:=true) Aa Aa Aa) (wm Aa (wz Aa Aa (wz Aa Aa (wz Aa Aa (wz Aa Aa (wv (r:=rB true) (An (b:=true) Aa Aa Aa) (wm Aa (wz Aa Aa (wz Aa Aa ?_)))))))))))))))))))))));refine wz Aa Aa (wz Aa Aa (wz Aa Aa (wv (r:=rB true) (An (b:=true) Aa Aa Aa) (Ah ?_))));exact BH c8
  refine wo c8 (vF CT Aa CK (wo c8 (vL 0 Df Aa (wo c8 (wv (Ci Aa Aa) (Ep Aa c8 Aa (wm Aa (AA (decide (q.fBits<0)) (λc9=>?_) (λc9=>?_)))))))))
  ·refine wf c9 (wf c9 (wf c9 (wv (r:=rB true) (An Aa c9 Aa) (wm Aa (wz Aa Aa (wz Aa Aa (wz Aa Aa (wz Aa Aa (wv (r:=rB true) (An (b:=true) Aa Aa Aa) (wm Aa (wz Aa Aa (wz Aa Aa (wz Aa Aa (wz Aa Aa (wv (r:=rB true) (An (b:=true) Aa Aa Aa) (wm Aa (wz Aa Aa (wz Aa Aa (wz Aa Aa (wz Aa Aa (wz Aa Aa (wv (r:=rB true) (An (b:=true) Aa Aa Aa) (Ah ?_)))))))))))))))))))))));exact BH (And.intro c8 c9)
  refine wo c9 (vF CT Aa CK (wo c9 (vL 0 Df Aa (wo c9 (wv (Dc Aa Aa) (Ep Aa c9 Aa (wm Aa (AA (decide (32<q.fBits)) (λha=>?_) (λha=>?_)))))))))
  ·refine wf ha (wf ha (wf ha (wf ha (wv (r:=rB true) (An Aa ha Aa) (wm Aa (wz Aa Aa (wz Aa Aa (wz Aa Aa (wz Aa Aa (wv (r:=rB true) (An (b:=true) Aa Aa Aa) (wm Aa (wz Aa Aa (wz Aa Aa (wz Aa Aa (wz Aa Aa (wz Aa Aa (wv (r:=rB true) (An (b:=true) Aa Aa Aa) (Ah ?_))))))))))))))))));exact BH (And.intro c8 (And.intro c9 ha))
  refine wo ha (vF CT Aa CK (wo ha (vL 0 Df Aa (wo ha (BP Tryz.call152 (Nl q.fLow (ov (Dr q.fLow)) (Cr (C3 (C3 (C3 g4 c8) c9) ha))) Aa (wo ha (wv (BO Aa) (Ep Aa ha Aa (wm Aa (AA (!(ov (Dr q.fLow))) (λhb=>?_) (λhb=>?_)))))))))))
  ·refine wf hb (wf hb (wf hb (wf hb (wv (r:=rB true) (An Aa hb Aa) (wm Aa (wz Aa Aa (wz Aa Aa (wz Aa Aa (wz Aa Aa (wz Aa Aa (wv (r:=rB true) (An (b:=true) Aa Aa Aa) (Ah ?_))))))))))));exact BH (And.intro c8 (And.intro c9 (And.intro ha hb)))
  refine wo hb (vF CT Aa CK (wo hb (vL 0 Df Aa (wo hb (BP Tryz.call152 (Nl q.fHigh (ov (Dr q.fHigh)) (Cr (C3 (C3 (C3 (C3 g6 c8) c9) ha) hb))) Aa (wo hb (wv (BO Aa) (Ep Aa hb Aa (wm Aa (AA (!(ov (Dr q.fHigh))) (λhd=>?_) (λhd=>?_)))))))))))
  ·refine wf hd (wf hd (wf hd (wf hd (wf hd (wv (r:=rB true) (An Aa hd Aa) (Ah ?_))))));exact BH (And.intro c8 (And.intro c9 (And.intro ha (And.intro hb hd))))
  refine wo hd (vF CT Aa CK (wo hd (vL 0 Df Aa (wo hd (vF CT Aa CK (wo hd (vL 0 Df Aa (wo hd (wv (Dc Aa Aa) (Ep Aa hd Aa (Ah ?_)))))))))));exact BH (And.intro c8 (And.intro c9 (And.intro ha (And.intro hb hd))))
 refine cz h7 Aa (λhf hg=>?_) (λhf hh=>?_)
 ·refine Ad (wa Aa (Ao (Ap (Ab ?_))));obtain rfl:=Au hg;exact Aq (B2 Tryz.results102 (AD Aa)) (sS sN) ⟨Aa,Aa⟩
 refine Aw (AE (Ak (Ak (ob hh λhe hi hj=>ck hj λg19 hk=>Du [1] ?_))));refine rq (Az CT Aa CK Aa Aa) (rq (AT (i:=0) Df Aa Aa Aa) (rq (Az CT Aa CK Aa Aa) (rq (AT (i:=0) Df Aa Aa Aa) (GG (Cm ON (Hb F q.fBits he hi) Aa) (rq (r:=A4 (Int.tmod q.fAddr he)) (AbV Aa Aa (AfE (Bool.not_eq_eq_eq_not.1 g19))) (rq (CH Aa Aa) (re [42] ?_)))))));refine AE (cz hk Aa (λc21 hl=>?_) (λc21 hm=>?_))
 ·refine Ad (wa Aa (Ao (Ap (Ab ?_))));obtain rfl:=Au hl;exact Aq (B2 Tryz.results102 (AD Aa)) (sS sN) ⟨Aa,Aa⟩
 refine Aw (AE (Ad (wa Aa (Ao (Ap ?_)))));obtain rfl:=Au hm;exact Aq (B2 Tryz.results102 (AD Aa)) (sS sN) ⟨Aa,Aa⟩
theorem YT (F:Nat)(s:Ai)(c:Int)(r:(List Ai))(h:Pq F s c=some r):Fn Tryz.prog GE 155 [rS s,rI .u8 c] [] (λR H=>R=AO 1 (A8 eS r)∧H=[]):=by
 refine enter (n:=35) Tryz.func155 Aa Tryz.ntmps155 Aa (λw Z=>?_);unfold Pq at h;refine Ad (wa Aa (Bp (Bc (ys:=([]:List Ai)) (enc:=eS) (css:=[]) (xs:=[]) C7 CE VH Aa Aa Aa trivial Aa DS Aa Aa Aa (λb1=>?_))));refine wa Aa (Bp (wa Aa (Ao (Ak (Ad (wa Aa (Ao (A6 (ob h λho hp hq=>Br (S:=Nat×((List Ai)×Int×Int)×(Value)) (V:=((List Ai)×Int)×(Value)) 0 (λσ=>BX (λσ=>Dk s c σ.1 σ.2.1 σ.2.2) σ.1 σ.2.1=some ho) (λσ=>[(0,rS s),(1,rI .u8 c),(5,rv σ.2.2),(6,A4 σ.2.1.2.1),(7,A4 σ.2.1.2.2)]) (λσ=>[.row σ.2.2 9 1 (A8 eS σ.2.1.1)]) (λσ=>σ.1) (F,(([]:List Ai),0,0),(.slice (some ⟨b1,0,none⟩) 0 0)) hp (AH.c5 Aa Aa Aa Aa Aa AH.nil) (sC sN) (λσ=>Hc s σ.1.1 σ.1.2=some r) (λσ=>[(0,rS s),(5,rv σ.2),(6,A4 σ.1.2)]) (λσ=>[.row σ.2 9 1 (A8 eS σ.1.1)]) ?_ ?_)))))))))
 ·rintro⟨n169,⟨hd,ha,hb⟩,hk⟩ hr;refine GI ?_;obtain⟨hs,rfl,hi,hf,hl⟩:=Cc hr;replace hf:Dk s c hd ha hb=some hi:=hf;unfold Dk at hf;refine Ak (Ad (wm Aa (wm Aa (wv (B0 C4 Aa) (wv (Ci Aa Aa) (Ao (cz hf Aa (λht hu=>?_) (λht hw=>?_))))))))
  ·refine Aw (AE (If (S:=((List Ai)×Int)×(Value)) (λσ=>Hd hb σ.1.1 σ.1.2=some hi) (λσ=>[(0,rS s),(1,rI .u8 c),(5,rv σ.2),(6,A4 σ.1.2),(7,A4 hb)]) (λσ=>[.row σ.2 9 1 (A8 eS σ.1.1)]) ?_ ?_))
   ·refine A6 (Ad (wm Aa (wm Aa (ck hu λhx hy=>wv (B3 C4 Aa Aa hx) (wm Aa (wv (B7 Aa Aa) (Ao (cz hy Aa (λhz h0=>?_) (λhz h1=>?_)))))))))
    ·refine Ad (wm Aa (wm Aa (wm Aa (wm Aa (ck h0 λh2 h3=>ck h3 λh4 h5=>wv (JJ C4 Aa Aa Aa h2 h4) (Bc (ys:=([List.take (Ca hb-Ca ha) (List.drop (Ca ha) s)]:List Ai)) (enc:=eS) (css:=[[rS (List.take (Ca hb-Ca ha) (List.drop (Ca ha) s))]]) (xs:=[.tmp 24]) C7 CE VH Aa Aa Aa ⟨Ez.one Aa (Up.refl _),trivial⟩ Aa DS Aa Aa Aa (λhK=>?_)))))));refine ck h5 λh6 h7=>Exists.elim Ra λinf hinf=>Er (xs:=hd) (ys:=([List.take (Ca hb-Ca ha) (List.drop (Ca ha) s)]:List Ai)) (enc:=eS) (i:=1) C7 hinf.1 hinf.2.1 hinf.2.2.1 hinf.2.2.2 Aa Aa Aa Aa Aa (Q3.w (i:=0) Aa Aa) DS PO h6 Aa (λv212=>?_);exact wa Aa (Ao (Af (wm Aa (ck h7 λh8 h9=>wv (By Aa Aa h8) (wa Aa (Ah (AB (Ar (AC ((hd++([List.take (Ca hb-Ca ha) (List.drop (Ca ha) s)]:List Ai),hb+1),v212) h9 (AH.c5 Aa Aa Aa Aa Aa AH.nil) (sC (sS sN)))))))))))
    exact Aw (AB (Ar (AC ((hd,ha),hk) h1 (AH.c5 Aa Aa Aa Aa Aa AH.nil) (sC sN))))
   rintro⟨⟨hm,hn⟩,hA⟩ hg;refine GI ?_;replace hg:Hd hb hm hn=some hi:=hg;unfold Hd at hg;refine Af (wm Aa (ck hg λhB hC=>wv (By Aa Aa hB) (wa Aa (Ah ?_))));have hD:=Bi hC hl;exact Ar (AC (hs,(hm,hn,hb+1),hA) ⟨hD,AeR _⟩ (AH.c5 Aa Aa Aa Aa Aa AH.nil) (sC sN))
  refine Bn (Av ?_);have hE:=BE hw hl hq;exact Av (AY (AC ((hd,ha),hk) hE (AH.c Aa (AH.c Aa (AH.c Aa AH.nil))) (sC sN)))
 rintro⟨⟨hj,he⟩,hL⟩ hh;refine GX ?_;replace hh:Hc s hj he=some r:=hh;unfold Hc at hh;refine AW (AE (Ad (wm Aa (wm Aa (wm Aa (ck hh λhG hH=>wv (DG C4 Aa Aa hG) (Bc (ys:=([List.drop (Ca he) s]:List Ai)) (enc:=eS) (css:=[[rS (List.drop (Ca he) s)]]) (xs:=[.tmp 32]) C7 CE VH Aa Aa Aa ⟨Ez.one Aa (Up.refl _),trivial⟩ Aa DS Aa Aa Aa (λhN=>?_))))))));refine ck hH λhI hJ=>Exists.elim Ra λinf hinf=>Er (xs:=hj) (ys:=([List.drop (Ca he) s]:List Ai)) (enc:=eS) (i:=1) C7 hinf.1 hinf.2.1 hinf.2.2.1 hinf.2.2.2 Aa Aa Aa Aa Aa (Q3.w (i:=0) Aa Aa) DS PO hI Aa (λv228=>?_);refine wa Aa (Ao (Ap (WK.freeze (i:=0) Aa (WK.up (d:=4) (r:=AO 1 (A8 eS (hj++([List.drop (Ca he) s]:List Ai)))) Aa (Up.fact (i:=0) Aa) ?_))));obtain rfl:=Au hJ;exact Aq (B2 Tryz.results155 (AD Aa)) (sS (sS sN)) ⟨Aa,Aa⟩
theorem Qq (F:Nat)(s:Ai)(r:Int×Int)(h:H6 F s=some r):Fn Tryz.prog GE 107 [rS s] [] (λR H=>R=Dy [A4 r.1,A4 r.2]∧H=[]):=by
 refine enter (n:=41) Tryz.func107 Aa Tryz.ntmps107 Aa (λw Z=>?_);unfold H6 at h;refine Ad (wa Aa (wa Aa (Bp (wm Aa (ob h λr1 e3 h2=>BP Tryz.call155 (YT F s 46 r1 e3) Aa (wa Aa (Ao (Ak (Ad (wm Aa (wv (Bj (ys:=r1) (enc:=eS) C7 Aa) (wv (CH Aa Aa) (Ao (cz h2 Aa (λc4 h5=>?_) (λc4 h6=>?_)))))))))))))))
 ·refine Ad (wa Aa (wa Aa (Ao (Ap (Ab ?_)))));obtain rfl:=Au h5;exact Aq (HW Tryz.results107 (AD Aa) (AD Aa)) sN ⟨Aa,Aa⟩
 refine Aw (AE (Ad (wa Aa (Ao (Ak (Ad (wa Aa (Ao (A6 (ob h6 λhi hj hh=>Br (S:=Nat×(Int×Int)×(Unit)) (V:=(Int)×(Unit)) 0 (λσ=>BX (λσ=>Dd r1 σ.1 σ.2) σ.1 σ.2.1=some hi) (λσ=>[(4,AO 1 (A8 eS r1)),(5,A4 σ.2.1.1),(6,A4 σ.2.1.2)]) (λσ=>[]) (λσ=>σ.1) (F,(0,0),()) hj (AH.c Aa (AH.c Aa (AH.c Aa AH.nil))) sN (λσ=>GK σ.1=some r) (λσ=>[(5,A4 σ.1)]) (λσ=>[]) ?_ ?_))))))))))
 ·rintro⟨hA,⟨hd,ha⟩,⟨⟩⟩ hk;refine GI ?_;obtain⟨hl,rfl,hm,he,hg⟩:=Cc hk;replace he:Dd r1 hd ha=some hm:=he;unfold Dd at he;refine Ak (Ad (wm Aa (wv (Ci Aa Aa) (Ao (cz he Aa (λhn ho=>?_) (λhn hp=>?_))))))
  ·refine Aw (AE (Ak (A6 (Ad (wm Aa (wm Aa (ck ho λhq hr=>wv (Bk (enc:=eS) (ys:=r1) C7 CE Aa Aa hq) (wv (Bb Dp Aa Aa) (ck hr λhs ht=>Ck (rs:=[rS (Ax r1 ha)]) (r:=Dy [A4 (B6 (Ax r1 ha)),A4 (Cq (Ax r1 ha))]) Tryz.call108 Aa (T0 (Ax r1 ha) hs) Aa Aa (wm Aa (wv (A7 Aa Aa) (wv (A7 Aa Aa) (wa Aa (wa Aa (Ao (Ak (A5 [(4,AO 1 (A8 eS r1)),(5,A4 hd),(6,A4 ha),(7,A4 (B6 (Ax r1 ha))),(35,rB ((!decide ((Cq (Ax r1 ha))=0))||((decide ((B6 (Ax r1 ha))<0))||(decide (255<(B6 (Ax r1 ha)))))))] [] ?_ ?_)))))))))))))))))
   ·refine Af (wm Aa (wv (CH Aa Aa) (wm Aa (AA (!decide ((Cq (Ax r1 ha))=0)) (λhb=>?_) (λhb=>?_)))))
    ·refine wf hb (wf hb (wv (r:=rB true) (An Aa hb Aa) (wm Aa (wz Aa Aa (wz Aa Aa (wv (r:=rB true) (An (b:=true) Aa Aa Aa) (Ah ?_)))))));exact BH hb
    refine wo hb (wm Aa (wo hb (wv (Ci Aa Aa) (Ep Aa hb Aa (wm Aa (AA (decide ((B6 (Ax r1 ha))<0)) (λc75=>?_) (λc75=>?_)))))))
    ·refine wf c75 (wf c75 (wv (r:=rB true) (An Aa c75 Aa) (Ah ?_)));exact BH (And.intro hb c75)
    refine wo c75 (wm Aa (wo c75 (wv (Dc Aa Aa) (Ep Aa c75 Aa (Ah ?_)))));exact BH (And.intro hb c75)
   refine cz ht Aa (λc76 hu=>?_) (λc76 hw=>?_)
   ·refine Ad (wa Aa (wa Aa (Ao (Ap (Ab (A3 (Ab (Ab (Bg ?_)))))))));have hx:=BC hu hg hh;refine A3 (Ab ?_);obtain rfl:=Au hx;exact Aq (HW Tryz.results107 (AD Aa) (AD Aa)) sN ⟨Aa,Aa⟩
   refine Aw (AE (Af (wm Aa (ck hw λhy hz=>wv (Wm Aa Aa hy) (wm Aa (ck hz λh0 h1=>wv (By Aa Aa h0) (wa Aa (Ah (AB (AE (Af (wm Aa (ck h1 λh3 h4=>wv (By Aa Aa h3) (wa Aa (Ah ?_)))))))))))))));have h7:=Bi h4 hg;exact Ar (AC (hl,((256*hd)+(B6 (Ax r1 ha)),ha+1),()) ⟨h7,AeR _⟩ (AH.c Aa (AH.c Aa (AH.c Aa AH.nil))) sN)
  refine Bn (Av ?_);have h8:=BE hp hg hh;exact Av (AY (AC (hd,()) h8 (AH.c Aa AH.nil) sN))
 rintro⟨h9,⟨⟩⟩ hf;refine GX ?_;replace hf:GK h9=some r:=hf;unfold GK at hf;refine AW (AE (Ad (wm Aa (wa Aa (wa Aa (Ao (Ap ?_)))))));obtain rfl:=Au hf;exact Aq (HW Tryz.results107 (AD Aa) (AD Aa)) sN ⟨Aa,Aa⟩
theorem Qn (F:Nat)(q:AI)(addr:Int)(port:Int)(r:Bool)(h:H5 F q addr port=some r):Fn Tryz.prog GE 109 [B9 (A1 q),A4 addr,A4 port] [] (λR H=>R=rB r∧H=[]):=by
 refine enter (n:=44) Tryz.func109 Aa Tryz.ntmps109 Aa (λw Z=>?_);unfold H5 at h;refine Ad (BM Aa Aa (λb1=>?_));refine wa Aa (Ao (Ak (ck h λg2 h3=>ck h3 λg4 h5=>ck h5 λg6 h7=>A5 [(1,A4 addr),(2,A4 port),(3,rP b1 0),(19,rB ((!decide ((ov (D8 F q))=0))||((!(ov (C0 addr)))||(!(ov (Dr port))))))] [.blk b1 (A1 q) 111] ?_ ?_)))
 ·refine Af (wv (Be (i:=0) Lw GW Aa Aa Aa Aa) (BP Tryz.call102 (NO F q (ov (D8 F q)) (Cr g2)) Aa (wv (CH Aa Aa) (wm Aa (AA (!decide ((ov (D8 F q))=0)) (λc8=>?_) (λc8=>?_))))))
  ·refine wf c8 (wf c8 (wf c8 (wv (r:=rB true) (An Aa c8 Aa) (wm Aa (wz Aa Aa (wz Aa Aa (wz Aa Aa (wv (r:=rB true) (An (b:=true) Aa Aa Aa) (Ah ?_)))))))));exact BH c8
  refine wo c8 (wm Aa (wo c8 (BP Tryz.call151 (My addr (ov (C0 addr)) (Cr (C3 g4 c8))) Aa (wo c8 (wv (BO Aa) (Ep Aa c8 Aa (wm Aa (AA (!(ov (C0 addr))) (λc9=>?_) (λc9=>?_)))))))))
  ·refine wf c9 (wf c9 (wf c9 (wv (r:=rB true) (An Aa c9 Aa) (Ah ?_))));exact BH (And.intro c8 c9)
  refine wo c9 (wm Aa (wo c9 (BP Tryz.call152 (Nl port (ov (Dr port)) (Cr (C3 (C3 g6 c8) c9))) Aa (wo c9 (wv (BO Aa) (Ep Aa c9 Aa (Ah ?_)))))));exact BH (And.intro c8 c9)
 refine cz h7 Aa (λhd he=>?_) (λhd hf=>?_)
 ·refine Ad (wa Aa (Ao (Ap (Ab ?_))));obtain rfl:=Au he;exact Aq (B2 Tryz.results109 (AD Aa)) (sS sN) ⟨Aa,Aa⟩
 refine Aw (AE (ck hf λhb hg=>ck hg λg15 hh=>ck hh λg17 hi=>ck hi λg19 hj=>A5 [(6,rB ((decide ((Int.tdiv addr (ov (Cz F q.fBits)))=(Int.tdiv q.fAddr (ov (Cz F q.fBits)))))&&((decide (q.fLow≤port))&&(decide (port≤q.fHigh)))))] [] ?_ ?_))
 ·refine AA (decide ((Int.tdiv addr (ov (Cz F q.fBits)))=(Int.tdiv q.fAddr (ov (Cz F q.fBits))))) (λc21=>?_) (λc21=>?_)
  ·refine AA (decide (q.fLow≤port)) (λha=>?_) (λha=>?_)
   ·refine Du [1,2,3] ?_;refine rq (Am Aa) (rq (Az CT Aa CK Aa Aa) (rq (AT (i:=0) Df Aa Aa Aa) (GG (Cm ON (Hb F q.fBits (ov (Cz F q.fBits)) (Cr hb)) Aa) (rq (r:=A4 (Int.tdiv addr (ov (Cz F q.fBits)))) (P0 Aa Aa (AfE (Bool.not_eq_eq_eq_not.1 g15)) g17) (rq (Az CT Aa CK Aa Aa) (rq (AT (i:=0) Df Aa Aa Aa) (rq (Az CT Aa CK Aa Aa) (rq (AT (i:=0) Df Aa Aa Aa) (GG (Cm ON (Hb F q.fBits (ov (Cz F q.fBits)) (Cr hb)) Aa) (rq (r:=A4 (Int.tdiv q.fAddr (ov (Cz F q.fBits)))) (P0 Aa Aa (AfE (Bool.not_eq_eq_eq_not.1 g15)) g19) (rq (B7 Aa Aa) (rq (Am Aa) (rg c21 (Az CT Aa CK Aa Aa) (rg c21 (AT (i:=0) Df Aa Aa Aa) (rg c21 (Am Aa) (rg c21 (Hf Aa Aa) (rq (An Aa c21 Aa) (rq (Am Aa) (rg ha (Am Aa) (rg ha (Az CT Aa CK Aa Aa) (rg ha (AT (i:=0) Df Aa Aa Aa) (rg ha (Hf Aa Aa) (rq (An Aa ha Aa) ?_)))))))))))))))))))))));refine rq (A0 Aa) (re [6] ?_);exact BH (And.intro c21 ha)
   refine Du [1,2,3] ?_;refine rq (Am Aa) (rq (Az CT Aa CK Aa Aa) (rq (AT (i:=0) Df Aa Aa Aa) (GG (Cm ON (Hb F q.fBits (ov (Cz F q.fBits)) (Cr hb)) Aa) (rq (r:=A4 (Int.tdiv addr (ov (Cz F q.fBits)))) (P0 Aa Aa (AfE (Bool.not_eq_eq_eq_not.1 g15)) g17) (rq (Az CT Aa CK Aa Aa) (rq (AT (i:=0) Df Aa Aa Aa) (rq (Az CT Aa CK Aa Aa) (rq (AT (i:=0) Df Aa Aa Aa) (GG (Cm ON (Hb F q.fBits (ov (Cz F q.fBits)) (Cr hb)) Aa) (rq (r:=A4 (Int.tdiv q.fAddr (ov (Cz F q.fBits)))) (P0 Aa Aa (AfE (Bool.not_eq_eq_eq_not.1 g15)) g19) (rq (B7 Aa Aa) (rq (Am Aa) (rg c21 (Az CT Aa CK Aa Aa) (rg c21 (AT (i:=0) Df Aa Aa Aa) (rg c21 (Am Aa) (rg c21 (Hf Aa Aa) (rq (An Aa c21 Aa) (rq (Am Aa) (rz ha (rz ha (rz ha (rz ha (rq (r:=rB false) (Ay (b:=decide (q.fLow≤port)) Aa ha Aa) ?_)))))))))))))))))))))));refine rq (A0 Aa) (re [6] ?_);exact BH (And.intro c21 ha)
  refine Du [1,2,3] ?_;refine rq (Am Aa) (rq (Az CT Aa CK Aa Aa) (rq (AT (i:=0) Df Aa Aa Aa) (GG (Cm ON (Hb F q.fBits (ov (Cz F q.fBits)) (Cr hb)) Aa) (rq (r:=A4 (Int.tdiv addr (ov (Cz F q.fBits)))) (P0 Aa Aa (AfE (Bool.not_eq_eq_eq_not.1 g15)) g17) (rq (Az CT Aa CK Aa Aa) (rq (AT (i:=0) Df Aa Aa Aa) (rq (Az CT Aa CK Aa Aa) (rq (AT (i:=0) Df Aa Aa Aa) (GG (Cm ON (Hb F q.fBits (ov (Cz F q.fBits)) (Cr hb)) Aa) (rq (r:=A4 (Int.tdiv q.fAddr (ov (Cz F q.fBits)))) (P0 Aa Aa (AfE (Bool.not_eq_eq_eq_not.1 g15)) g19) (rq (B7 Aa Aa) (rq (Am Aa) (rz c21 (rz c21 (rz c21 (rz c21 (rq (r:=rB false) (Ay (b:=decide ((Int.tdiv addr (ov (Cz F q.fBits)))=(Int.tdiv q.fAddr (ov (Cz F q.fBits))))) Aa c21 Aa) (rq (Am Aa) (rz Aa (rz Aa (rz Aa (rz Aa (rq (r:=rB false) (Ay (b:=false) Aa Aa Aa) ?_)))))))))))))))))))))));refine rq (A0 Aa) (re [6] ?_);exact BH c21
 refine Ap ?_;obtain rfl:=Au hj;exact Aq (B2 Tryz.results109 (AD Aa)) sN ⟨Aa,Aa⟩
theorem RG (F:Nat)(l:(List AI))(addr:Int)(port:Int)(r:BA)(h:Ha F l addr port=some r):Fn Tryz.prog GE 47 [AO 5 (A8 A1 l),A4 addr,A4 port] [] (λR H=>R=B9 (Gr r)∧H=[]):=by
 refine enter (n:=29) Tryz.func47 Aa Tryz.ntmps47 Aa (λw Z=>?_);unfold Ha at h;refine Ad (BL (cs:=[rB false,A4 0]) Yo Aa Aa (λb1=>?_));refine Ao (Ak (Ad (wa Aa (Ao (A6 (ob h λhh hi hf=>Br (S:=Nat×(Int)×(Unit)) (V:=(Unit)×(Unit)) 0 (λσ=>BX (λσ=>DF F l addr port σ) σ.1 σ.2.1=some hh) (λσ=>[(0,AO 5 (A8 A1 l)),(1,A4 addr),(2,A4 port),(6,rP b1 0),(7,A4 σ.2.1)]) (λσ=>[.blk b1 [rB false,A4 0] 63]) (λσ=>σ.1) (F,0,()) hi (AH.c5 Aa Aa Aa Aa Aa AH.nil) (sC sN) (λσ=>Hy =some r) (λσ=>[(6,rP b1 0)]) (λσ=>[.blk b1 [rB false,A4 0] 63]) ?_ ?_))))))
 ·rintro⟨h2,ha,⟨⟩⟩ hj;refine GI ?_;obtain⟨hk,rfl,hl,hb,he⟩:=Cc hj;replace hb:DF F l addr port ha=some hl:=hb;unfold DF at hb;refine Ak (Ad (wm Aa (wm Aa (wv (Bj (ys:=l) (enc:=A1) LX Aa) (wv (Ci Aa Aa) (Ao (cz hb Aa (λhm hn=>?_) (λhm ho=>?_))))))))
  ·refine Aw (AE (Ak (A6 (Ad (wm Aa (wm Aa (ck hn λhg hp=>wv (Bk (enc:=A1) (ys:=l) LX GW Aa Aa hg) (wv (Cu Lw GW Aa Aa Aa) (wm Aa (wm Aa (ob hp λhq hr hs=>BP Tryz.call109 (Qn F (Ax l ha) addr port hq hr) Aa (Ao (cz hs Aa (λht hu=>?_) (λht hw=>?_))))))))))))))
   ·refine Ad (wm Aa (wm Aa (wv (Bk (enc:=A1) (ys:=l) LX GW Aa Aa hg) (wv (Bs CT Aa Jz Aa Aa) (wv (Bb Qg Aa Aa) (wm Aa (wv (r:=B9 [rB ((Ax l ha).fAllow),A4 ha]) (Gq Aa Aa Aa Aa) (GU (i:=0) Kb Aa Aa Aa (B8.c Aa) Aa Aa ?_))))))));refine Ao (Ap (A3 (Ab (Ab (Bg ?_)))));have hx:=BC hu he hf;refine A3 (Ab ?_);obtain rfl:=Au hx;exact Aq (B2 Tryz.results47 (Dv (i:=0) ST Kb Aa Aa Aa)) (sS sN) ⟨Aa,Aa⟩
   refine Aw (AB (AE (Af (wm Aa (ck hw λhy hz=>wv (By Aa Aa hy) (wa Aa (Ah ?_)))))));have h0:=Bi hz he;exact Ar (AC (hk,ha+1,()) ⟨h0,AeR _⟩ (AH.c5 Aa Aa Aa Aa Aa AH.nil) (sC sN))
  refine Bn (Av ?_);have h1:=BE ho he hf;exact Av (AY (AC ((),()) h1 (AH.c Aa AH.nil) (sC sN)))
 rintro⟨⟨⟩,⟨⟩⟩ hd;refine GX ?_;replace hd:Hy =some r:=hd;unfold Hy at hd;refine AW (AE (Ad (wv (r:=B9 [rB false,A4 (-1)]) (Gq Aa Aa Aa Aa) (GU (i:=0) Kb Aa Aa Aa (B8.c Aa) Aa Aa ?_))));refine Ao (Ap ?_);obtain rfl:=Au hd;exact Aq (B2 Tryz.results47 (Dv (i:=0) ST Kb Aa Aa Aa)) (sS sN) ⟨Aa,Aa⟩
theorem Ks (F:Nat)(op:Ai)(r:Bool)(h:Gc F op=some r):Fn Tryz.prog GE 41 [rS op] [] (λR H=>R=rB r∧H=[]):=by
 refine enter (n:=6) Tryz.func41 Aa Tryz.ntmps41 Aa (λw Z=>?_);unfold Gc at h;refine Ad (wa Aa (Bp (Bc (ys:=([([103,101,116]:Ai),([112,117,116]:Ai),([100,101,108,101,116,101]:Ai),([115,101,110,100]:Ai),([116,105,109,101,114]:Ai),([115,105,103,110,97,108]:Ai),([115,101,99,114,101,116]:Ai),([102,101,116,99,104]:Ai),([110,111,119]:Ai),([108,111,103]:Ai)]:List Ai)) (enc:=eS) (css:=[[rS ([103,101,116]:Ai)],[rS ([112,117,116]:Ai)],[rS ([100,101,108,101,116,101]:Ai)],[rS ([115,101,110,100]:Ai)],[rS ([116,105,109,101,114]:Ai)],[rS ([115,105,103,110,97,108]:Ai)],[rS ([115,101,99,114,101,116]:Ai)],[rS ([102,101,116,99,104]:Ai)],[rS ([110,111,119]:Ai)],[rS ([108,111,103]:Ai)]]) (xs:=[.const (.string ⟨#[103,101,116]⟩),.const (.string ⟨#[112,117,116]⟩),.const (.string ⟨#[100,101,108,101,116,101]⟩),.const (.string ⟨#[115,101,110,100]⟩),.const (.string ⟨#[116,105,109,101,114]⟩),.const (.string ⟨#[115,105,103,110,97,108]⟩),.const (.string ⟨#[115,101,99,114,101,116]⟩),.const (.string ⟨#[102,101,116,99,104]⟩),.const (.string ⟨#[110,111,119]⟩),.const (.string ⟨#[108,111,103]⟩)]) C7 CE VH Aa Aa Aa ⟨Ez.one Aa (Up.refl _),Ez.one Aa (Up.refl _),Ez.one Aa (Up.refl _),Ez.one Aa (Up.refl _),Ez.one Aa (Up.refl _),Ez.one Aa (Up.refl _),Ez.one Aa (Up.refl _),Ez.one Aa (Up.refl _),Ez.one Aa (Up.refl _),Ez.one Aa (Up.refl _),trivial⟩ Aa DS Aa Aa Aa (λb1=>?_))));refine wm Aa (WL.freeze (i:=0) Aa (WL.up (d:=3) (r:=AO 1 (A8 eS ([([103,101,116]:Ai),([112,117,116]:Ai),([100,101,108,101,116,101]:Ai),([115,101,110,100]:Ai),([116,105,109,101,114]:Ai),([115,105,103,110,97,108]:Ai),([115,101,99,114,101,116]:Ai),([102,101,116,99,104]:Ai),([110,111,119]:Ai),([108,111,103]:Ai)]:List Ai))) Aa (Up.fact (i:=0) Aa) (ob h λr2 e4 h3=>BP Tryz.call21 (W2 F ([([103,101,116]:Ai),([112,117,116]:Ai),([100,101,108,101,116,101]:Ai),([115,101,110,100]:Ai),([116,105,109,101,114]:Ai),([115,105,103,110,97,108]:Ai),([115,101,99,114,101,116]:Ai),([102,101,116,99,104]:Ai),([110,111,119]:Ai),([108,111,103]:Ai)]:List Ai) op r2 e4) Aa (wa Aa (Ao (Ap ?_))))));obtain rfl:=Au h3;exact Aq (B2 Tryz.results41 (AD Aa)) (sS sN) ⟨Aa,Aa⟩
theorem Tp (F:Nat)(v:(List Ac))(r:Ai×Bool)(h:Nj F v=some r):Fn Tryz.prog GE 43 [AO 4 (A8 Ae v)] [] (λR H=>R=Dy [rS r.1,rB r.2]∧H=[]):=by
 refine enter (n:=18) Tryz.func43 Aa Tryz.ntmps43 Aa (λw Z=>?_);unfold Nj at h;refine Ad (wv (r:=rS ([]:Ai)) (A0 Aa) (wa Aa (Ao (Ak (ck h λg1 h2=>ck h2 λg3 h4=>A5 [(0,AO 4 (A8 Ae v)),(13,rB ((!decide ((ov (HC F v))=0))||(!decide (((Ax v 0).fKind)=4))))] [] ?_ ?_)))))
 ·refine Af (wm Aa (BP Tryz.call19 (To F v (ov (HC F v)) (Cr g1)) Aa (wv (CH Aa Aa) (wm Aa (AA (!decide ((ov (HC F v))=0)) (λc5=>?_) (λc5=>?_))))))
  ·refine wf c5 (wf c5 (wf c5 (wf c5 (wf c5 (wv (r:=rB true) (An Aa c5 Aa) (Ah ?_))))));exact BH c5
  refine wo c5 (wm Aa (wo c5 (wv (Bk (enc:=Ae) (ys:=v) CL CJ Aa Aa (C3 g3 c5)) (wo c5 (wv (Bs BD Aa DU Aa Aa) (wo c5 (wv (Bb DV Aa Aa) (wo c5 (wv (CH Aa Aa) (Ep Aa c5 Aa (Ah ?_)))))))))));exact BH c5
 refine cz h4 Aa (λc6 h7=>?_) (λc6 h8=>?_)
 ·refine Ad (wv (r:=rS ([]:Ai)) (A0 Aa) (wa Aa (Ao (Ap (Ab ?_)))));obtain rfl:=Au h7;exact Aq (HW Tryz.results43 (AD Aa) (AD Aa)) sN ⟨Aa,Aa⟩
 refine Aw (AE (Ad (wm Aa (ck h8 λg9 ha=>wv (Bk (enc:=Ae) (ys:=v) CL CJ Aa Aa g9) (wv (Bs BD Aa CE Aa Aa) (wv (Bb Dp Aa Aa) (wa Aa (wa Aa (Ao (Ap ?_))))))))));obtain rfl:=Au ha;exact Aq (HW Tryz.results43 (AD Aa) (AD Aa)) sN ⟨Aa,Aa⟩
theorem L3 (F:Nat)(s:Ai)(r:Int×Int×Bool)(h:EF F s=some r):Fn Tryz.prog GE 46 [rS s] [] (λR H=>R=Dy [A4 r.1,A4 r.2.1,rB r.2.2]∧H=[]):=by
 refine enter (n:=57) Tryz.func46 Aa Tryz.ntmps46 Aa (λw Z=>?_);unfold EF at h;refine Ad (wa Aa (wa Aa (wa Aa (Bp (wa Aa (Ao (Ak (A6 (ob h λhl hm hn=>Br (S:=Nat×(Int)×(Unit)) (V:=(Int)×(Unit)) 0 (λσ=>BX (λσ=>D1 s σ) σ.1 σ.2.1=some hl) (λσ=>[(0,rS s),(5,A4 σ.2.1)]) (λσ=>[]) (λσ=>σ.1) (F,0,()) hm (AH.c Aa (AH.c Aa AH.nil)) sN (λσ=>DO F s σ.1=some r) (λσ=>[(0,rS s),(5,A4 σ.1)]) (λσ=>[]) ?_ ?_)))))))))
 ·rintro⟨hI,hg,⟨⟩⟩ ho;refine GI ?_;obtain⟨hp,rfl,hq,hh,hk⟩:=Cc ho;replace hh:D1 s hg=some hq:=hh;unfold D1 at hh;refine Ak (ck hh λhr hs=>A5 [(0,rS s),(5,A4 hg),(19,rB ((decide (hg<(s.length:Int)))&&(!decide ((BK s hg)=58))))] [] ?_ ?_)
  ·refine Af (wm Aa (wm Aa (wv (B0 C4 Aa) (wv (Ci Aa Aa) (wm Aa (AA (decide (hg<(s.length:Int))) (λha=>?_) (λha=>?_)))))))
   ·refine wo ha (wm Aa (wo ha (wm Aa (wo ha (wv (B3 C4 Aa Aa (BF hr ha)) (wo ha (wv (CH Aa Aa) (E0 Aa ha Aa (Ah ?_)))))))));exact BH ha
   refine wf ha (wf ha (wf ha (wf ha (wv (r:=rB false) (Ay Aa ha Aa) (Ah ?_)))));exact BH ha
  refine cz hs Aa (λht hu=>?_) (λht hw=>?_)
  ·refine Aw (AE (A6 (Af (wm Aa (ck hu λhx hy=>wv (By Aa Aa hx) (wa Aa (Ah (AB ?_))))))));have hz:=Bi hy hk;exact Ar (AC (hp,hg+1,()) ⟨hz,AeR _⟩ (AH.c Aa (AH.c Aa AH.nil)) sN)
  refine Bn (Av ?_);have h0:=BE hw hk hn;exact Av (AY (AC (hg,()) h0 (AH.c Aa (AH.c Aa AH.nil)) sN))
 rintro⟨hb,⟨⟩⟩ hi;refine GX ?_;replace hi:DO F s hb=some r:=hi;unfold DO at hi;refine AW (AE (Ak (Ad (wm Aa (wm Aa (wv (B0 C4 Aa) (wv (B7 Aa Aa) (Ao (cz hi Aa (λh1 h2=>?_) (λh1 h3=>?_))))))))))
 ·refine Ad (wa Aa (wa Aa (wa Aa (Ao (Ap (Ab ?_))))));obtain rfl:=Au h2;exact Aq (U7 Tryz.results46 (AD Aa) (AD Aa) (AD Aa)) sN ⟨Aa,Aa⟩
 refine Aw (AE (Ad (wm Aa (wm Aa (ck h3 λh4 h5=>wv (EL C4 Aa Aa h4) (ob h5 λhj h6 h7=>BP Tryz.call107 (Qq F (List.take (Ca hb) s) hj h6) Aa (wm Aa (wv (A7 Aa Aa) (wv (A7 Aa Aa) (wa Aa (wa Aa (Bp (wm Aa (wm Aa (ck h7 λh8 h9=>wv (By Aa Aa h8) (ck h9 λhA hB=>wv (DG C4 Aa Aa hA) (ck hB λhC hD=>Ck (rs:=[rS (List.drop (Ca (hb+1)) s)]) (r:=Dy [A4 (B6 (List.drop (Ca (hb+1)) s)),A4 (Cq (List.drop (Ca (hb+1)) s))]) Tryz.call108 Aa (T0 (List.drop (Ca (hb+1)) s) hC) Aa Aa (wm Aa ?_))))))))))))))))));refine wv (A7 Aa Aa) (wv (A7 Aa Aa) (wa Aa (wa Aa (Ao (Ak (A5 [(6,A4 hj.1),(8,A4 (B6 (List.drop (Ca (hb+1)) s))),(54,rB ((!decide (hj.2=0))||((!decide ((Cq (List.drop (Ca (hb+1)) s))=0))||((decide ((B6 (List.drop (Ca (hb+1)) s))<1))||(decide (65535<(B6 (List.drop (Ca (hb+1)) s))))))))] [] ?_ ?_))))))
 ·refine Af (wm Aa (wv (CH Aa Aa) (wm Aa (AA (!decide (hj.2=0)) (λhd=>?_) (λhd=>?_)))))
  ·refine wf hd (wf hd (wv (r:=rB true) (An Aa hd Aa) (wm Aa (wz Aa Aa (wz Aa Aa (wv (r:=rB true) (An (b:=true) Aa Aa Aa) (wm Aa (wz Aa Aa (wz Aa Aa (wv (r:=rB true) (An (b:=true) Aa Aa Aa) (Ah ?_)))))))))));exact BH hd
  refine wo hd (wm Aa (wo hd (wv (CH Aa Aa) (Ep Aa hd Aa (wm Aa (AA (!decide ((Cq (List.drop (Ca (hb+1)) s))=0)) (λhe=>?_) (λhe=>?_)))))))
  ·refine wf he (wf he (wv (r:=rB true) (An Aa he Aa) (wm Aa (wz Aa Aa (wz Aa Aa (wv (r:=rB true) (An (b:=true) Aa Aa Aa) (Ah ?_)))))));exact BH (And.intro hd he)
  refine wo he (wm Aa (wo he (wv (Ci Aa Aa) (Ep Aa he Aa (wm Aa (AA (decide ((B6 (List.drop (Ca (hb+1)) s))<1)) (λhf=>?_) (λhf=>?_)))))))
  ·refine wf hf (wf hf (wv (r:=rB true) (An Aa hf Aa) (Ah ?_)));exact BH (And.intro hd (And.intro he hf))
  refine wo hf (wm Aa (wo hf (wv (Dc Aa Aa) (Ep Aa hf Aa (Ah ?_)))));exact BH (And.intro hd (And.intro he hf))
 refine cz hD Aa (λhE hG=>?_) (λhE hH=>?_)
 ·refine Ad (wa Aa (wa Aa (wa Aa (Ao (Ap (Ab ?_))))));obtain rfl:=Au hG;exact Aq (U7 Tryz.results46 (AD Aa) (AD Aa) (AD Aa)) sN ⟨Aa,Aa⟩
 refine Aw (AE (Ad (wm Aa (wm Aa (wa Aa (wa Aa (wa Aa (Ao (Ap ?_)))))))));obtain rfl:=Au hH;exact Aq (U7 Tryz.results46 (AD Aa) (AD Aa) (AD Aa)) sN ⟨Aa,Aa⟩
theorem Vb (F:Nat)(op:Ai)(s:Ai)(r:Bool)(h:H4 F op s=some r):Fn Tryz.prog GE 104 [rS op,rS s] [] (λR H=>R=rB r∧H=[]):=by
 refine enter (n:=35) Tryz.func104 Aa Tryz.ntmps104 Aa (λw Z=>?_);unfold H4 at h;refine Ad (wa Aa (Ao (Ak (A5 [(0,rS op),(1,rS s),(21,rB ((decide (op=([103,101,116]:Ai)))||((decide (op=([112,117,116]:Ai)))||((decide (op=([100,101,108,101,116,101]:Ai)))||(decide (op=([115,105,103,110,97,108]:Ai)))))))] [] ?_ ?_))))
 ·refine Af (wm Aa (wv (BQ Aa Aa) (wm Aa (AA (decide (op=([103,101,116]:Ai))) (λc1=>?_) (λc1=>?_)))))
  ·refine wf c1 (wf c1 (wv (r:=rB true) (An Aa c1 Aa) (wm Aa (wz Aa Aa (wz Aa Aa (wv (r:=rB true) (An (b:=true) Aa Aa Aa) (wm Aa (wz Aa Aa (wz Aa Aa (wv (r:=rB true) (An (b:=true) Aa Aa Aa) (Ah ?_)))))))))));exact BH c1
  refine wo c1 (wm Aa (wo c1 (wv (BQ Aa Aa) (Ep Aa c1 Aa (wm Aa (AA (decide (op=([112,117,116]:Ai))) (λc2=>?_) (λc2=>?_)))))))
  ·refine wf c2 (wf c2 (wv (r:=rB true) (An Aa c2 Aa) (wm Aa (wz Aa Aa (wz Aa Aa (wv (r:=rB true) (An (b:=true) Aa Aa Aa) (Ah ?_)))))));exact BH (And.intro c1 c2)
  refine wo c2 (wm Aa (wo c2 (wv (BQ Aa Aa) (Ep Aa c2 Aa (wm Aa (AA (decide (op=([100,101,108,101,116,101]:Ai))) (λc3=>?_) (λc3=>?_)))))))
  ·refine wf c3 (wf c3 (wv (r:=rB true) (An Aa c3 Aa) (Ah ?_)));exact BH (And.intro c1 (And.intro c2 c3))
  refine wo c3 (wm Aa (wo c3 (wv (BQ Aa Aa) (Ep Aa c3 Aa (Ah ?_)))));exact BH (And.intro c1 (And.intro c2 c3))
 refine cz h Aa (λc4 h5=>?_) (λc4 h8=>?_)
 ·refine Ad (wm Aa (ck h5 λg6 h7=>Ck (rs:=[rS s]) (r:=rB (Jq s)) Tryz.call129 Aa (AdG s g6) Aa Aa (wa Aa (Ao (Ap (Ab ?_))))));obtain rfl:=Au h7;exact Aq (B2 Tryz.results104 (AD Aa)) sN ⟨Aa,Aa⟩
 refine Aw (AE (Ak (Ad (wm Aa (wv (BQ Aa Aa) (Ao (cz h8 Aa (λc9 ha=>?_) (λc9 hb=>?_))))))))
 ·refine Ad (wm Aa (ob ha λhd he hf=>BP Tryz.call46 (L3 F s hd he) Aa (wm Aa (wv (A7 Aa Aa) (wv (A7 Aa Aa) (wv (A7 Aa Aa) (wa Aa (wa Aa (wa Aa (Bp (wm Aa (wa Aa (Ao (Ap (Ab ?_)))))))))))))));obtain rfl:=Au hf;exact Aq (B2 Tryz.results104 (AD Aa)) sN ⟨Aa,Aa⟩
 refine Aw (AE (Ad (wm Aa (ck hb λg15 hg=>Ck (rs:=[rS s]) (r:=rB (Cv s)) Tryz.call100 Aa (RT s g15) Aa Aa (wa Aa (Ao (Ap ?_)))))));obtain rfl:=Au hg;exact Aq (B2 Tryz.results104 (AD Aa)) sN ⟨Aa,Aa⟩
theorem X1 (op:Ai)(r:Int)(h:Oy op=some r):Fn Tryz.prog GE 103 [rS op] [] (λR H=>R=A4 r∧H=[]):=by
 refine enter (n:=21) Tryz.func103 Aa Tryz.ntmps103 Aa (λw Z=>?_);unfold Oy at h;refine Ad (wa Aa (Ao (Ak (Ad (wm Aa (wv (BQ Aa Aa) (Ao (cz h Aa (λc1 h2=>?_) (λc1 h3=>?_)))))))))
 ·refine Ad (wa Aa (Ao (Ap (Ab ?_))));obtain rfl:=Au h2;exact Aq (B2 VN (AD Aa)) sN ⟨Aa,Aa⟩
 refine Aw (AE (Ak (A5 [(0,rS op),(18,rB ((decide (op=([103,101,116]:Ai)))||((decide (op=([100,101,108,101,116,101]:Ai)))||((decide (op=([115,101,99,114,101,116]:Ai)))||(decide (op=([108,111,103]:Ai)))))))] [] ?_ ?_)))
 ·refine Af (wm Aa (wv (BQ Aa Aa) (wm Aa (AA (decide (op=([103,101,116]:Ai))) (λc4=>?_) (λc4=>?_)))))
  ·refine wf c4 (wf c4 (wv (r:=rB true) (An Aa c4 Aa) (wm Aa (wz Aa Aa (wz Aa Aa (wv (r:=rB true) (An (b:=true) Aa Aa Aa) (wm Aa (wz Aa Aa (wz Aa Aa (wv (r:=rB true) (An (b:=true) Aa Aa Aa) (Ah ?_)))))))))));exact BH c4
  refine wo c4 (wm Aa (wo c4 (wv (BQ Aa Aa) (Ep Aa c4 Aa (wm Aa (AA (decide (op=([100,101,108,101,116,101]:Ai))) (λc5=>?_) (λc5=>?_)))))))
  ·refine wf c5 (wf c5 (wv (r:=rB true) (An Aa c5 Aa) (wm Aa (wz Aa Aa (wz Aa Aa (wv (r:=rB true) (An (b:=true) Aa Aa Aa) (Ah ?_)))))));exact BH (And.intro c4 c5)
  refine wo c5 (wm Aa (wo c5 (wv (BQ Aa Aa) (Ep Aa c5 Aa (wm Aa (AA (decide (op=([115,101,99,114,101,116]:Ai))) (λc6=>?_) (λc6=>?_)))))))
  ·refine wf c6 (wf c6 (wv (r:=rB true) (An Aa c6 Aa) (Ah ?_)));exact BH (And.intro c4 (And.intro c5 c6))
  refine wo c6 (wm Aa (wo c6 (wv (BQ Aa Aa) (Ep Aa c6 Aa (Ah ?_)))));exact BH (And.intro c4 (And.intro c5 c6))
 refine cz h3 Aa (λc7 h8=>?_) (λc7 h9=>?_)
 ·refine Ad (wa Aa (Ao (Ap (Ab ?_))));obtain rfl:=Au h8;exact Aq (B2 VN (AD Aa)) sN ⟨Aa,Aa⟩
 refine Aw (AE (Ak (Ad (wm Aa (wv (BQ Aa Aa) (Ao (cz h9 Aa (λha hb=>?_) (λha hd=>?_))))))))
 ·refine Ad (wa Aa (Ao (Ap (Ab ?_))));obtain rfl:=Au hb;exact Aq (B2 VN (AD Aa)) sN ⟨Aa,Aa⟩
 refine Aw (AE (Ad (wa Aa (Ao (Ap ?_)))));obtain rfl:=Au hd;exact Aq (B2 VN (AD Aa)) sN ⟨Aa,Aa⟩
theorem Tr (v:(List Ac))(r:Bool)(h:Ev v=some r):Fn Tryz.prog GE 105 [AO 4 (A8 Ae v)] [] (λR H=>R=rB r∧H=[]):=by
 refine enter (n:=22) Tryz.func105 Aa Tryz.ntmps105 Aa (λw Z=>?_);unfold Ev at h;refine Ad (wa Aa (Ao (ck h λg1 h2=>ck h2 λg3 h4=>A5 [(2,rB ((decide (((Ax v 0).fKind)=5))&&((decide (0<((Ax v 0).fN)))&&(decide (((Ax v 1).fKind)=4)))))] [] ?_ ?_)))
 ·refine Af (wm Aa (wv (Bk (enc:=Ae) (ys:=v) CL CJ Aa Aa g1) (wv (Bs BD Aa DU Aa Aa) (wv (Bb DV Aa Aa) (wv (B7 Aa Aa) (wm Aa (AA (decide (((Ax v 0).fKind)=5)) (λc5=>?_) (λc5=>?_))))))))
  ·refine wo c5 (wm Aa (wo c5 (wv (Bk (enc:=Ae) (ys:=v) CL CJ Aa Aa g1) (wo c5 (wv (Bs BD Aa CK Aa Aa) (wo c5 (wv (Bb Df Aa Aa) (wo c5 (wv (Dc Aa Aa) (E0 Aa c5 Aa (wm Aa (AA (decide (0<((Ax v 0).fN))) (λc6=>?_) (λc6=>?_)))))))))))))
   ·refine wo c6 (wm Aa (wo c6 (wv (Bk (enc:=Ae) (ys:=v) CL CJ Aa Aa (BF (BF g3 c5) c6)) (wo c6 (wv (Bs BD Aa DU Aa Aa) (wo c6 (wv (Bb DV Aa Aa) (wo c6 (wv (B7 Aa Aa) (E0 Aa c6 Aa (wa Aa (Ah ?_))))))))))));exact BH (And.intro c5 c6)
   refine wf c6 (wf c6 (wf c6 (wf c6 (wf c6 (wv (r:=rB false) (Ay Aa c6 Aa) (wa Aa (Ah ?_)))))));exact BH (And.intro c5 c6)
  refine wf c5 (wf c5 (wf c5 (wf c5 (wf c5 (wv (r:=rB false) (Ay Aa c5 Aa) (wm Aa (wz Aa Aa (wz Aa Aa (wz Aa Aa (wz Aa Aa (wz Aa Aa (wv (r:=rB false) (Ay (b:=false) Aa Aa Aa) (wa Aa (Ah ?_))))))))))))));exact BH c5
 refine Ap ?_;obtain rfl:=Au h4;exact Aq (B2 Tryz.results105 (AD Aa)) sN ⟨Aa,Aa⟩
theorem X2 (F:Nat)(q:AQ)(r:Bool)(h:Mx F q=some r):Fn Tryz.prog GE 42 [B9 (AU q)] [] (λR H=>R=rB r∧H=[]):=by
 refine enter (n:=85) Tryz.func42 Aa Tryz.ntmps42 Aa (λw Z=>?_);unfold Mx at h;refine Ad (BM Aa Aa (λb1=>?_));refine wa Aa (Ao (Ak (Ak (ob h λr2 e4 h3=>Du [1] ?_))));refine rq (Az CZ Aa GF Aa Aa) (rq (AT (i:=0) DL Aa Aa Aa) (rq (Bj (ys:=q.fArgs) (enc:=AM) Ew Aa) (rq (Az CZ Aa CE Aa Aa) (rq (AT (i:=0) Dp Aa Aa Aa) (GG (Cm Tryz.call103 (X1 q.fOp r2 e4) Aa) (rq (CH Aa Aa) (re [13,1] ?_)))))));refine AE (cz h3 Aa (λc5 h6=>?_) (λc5 h7=>?_))
 ·refine Ad (wa Aa (Ao (Ap (Ab ?_))));obtain rfl:=Au h6;exact Aq (B2 WZ (AD Aa)) (sS sN) ⟨Aa,Aa⟩
 refine Aw (AE (Ak (Ad (wa Aa (Ao (A6 (ob h7 λhm hn hl=>Br (S:=Nat×(Int)×(Unit)) (V:=(Unit)×(Unit)) 0 (λσ=>BX (λσ=>EE F q σ) σ.1 σ.2.1=some hm) (λσ=>[(1,rP b1 0),(3,A4 σ.2.1)]) (λσ=>[.blk b1 (AU q) 29]) (λσ=>σ.1) (F,0,()) hn (AH.c Aa (AH.c Aa AH.nil)) (sC sN) (λσ=>D0 F q =some r) (λσ=>[(1,rP b1 0)]) (λσ=>[.blk b1 (AU q) 29]) ?_ ?_)))))))
 ·rintro⟨hZ,hj,⟨⟩⟩ ho;refine GI ?_;obtain⟨hp,rfl,hq,hh,hk⟩:=Cc ho;replace hh:EE F q hj=some hq:=hh;unfold EE at hh;refine Ak (Ad (wm Aa (vF CZ Aa GF (vL 0 DL Aa (wv (Bj (ys:=q.fArgs) (enc:=AM) Ew Aa) (wv (Ci Aa Aa) (Ao (cz hh Aa (λhr hs=>?_) (λhr ht=>?_)))))))))
  ·refine Aw (AE (Ak (A6 (Ad (vF CZ Aa GF (vL 0 DL Aa (wm Aa (ck hs λhu hw=>wv (Bk (enc:=AM) (ys:=q.fArgs) Ew C8 Aa Aa hu) (wv (Bb Eo Aa Aa) (ob hw λhx hy hz=>BP Tryz.call19 (To F (Ax q.fArgs hj) hx hy) Aa (wv (CH Aa Aa) (Ao (cz hz Aa (λh0 h1=>?_) (λh0 h2=>?_))))))))))))))
   ·refine Ad (wa Aa (Ao (Ap (A3 (Ab (Ab (Bg ?_)))))));have h4:=BC h1 hk hl;refine A3 (Ab ?_);obtain rfl:=Au h4;exact Aq (B2 WZ (AD Aa)) (sS sN) ⟨Aa,Aa⟩
   refine Aw (AB (AE (Af (wm Aa (ck h2 λh5 h8=>wv (By Aa Aa h5) (wa Aa (Ah ?_)))))));have h9:=Bi h8 hk;exact Ar (AC (hp,hj+1,()) ⟨h9,AeR _⟩ (AH.c Aa (AH.c Aa AH.nil)) (sC sN))
  refine Bn (Av ?_);have hA:=BE ht hk hl;exact Av (AY (AC ((),()) hA (AH.c Aa AH.nil) (sC sN)))
 rintro⟨⟨⟩,⟨⟩⟩ hi;refine GX ?_;replace hi:D0 F q =some r:=hi;unfold D0 at hi;refine AW (AE (Ak (A5 [(1,rP b1 0),(35,rB ((decide (q.fOp=([110,111,119]:Ai)))||(decide (q.fOp=([108,111,103]:Ai)))))] [.blk b1 (AU q) 29] ?_ ?_)))
 ·refine Af (vF CZ Aa CE (vL 0 Dp Aa (wv (BQ Aa Aa) (wm Aa (AA (decide (q.fOp=([110,111,119]:Ai))) (λhe=>?_) (λhe=>?_))))))
  ·refine wf he (wf he (wf he (wv (r:=rB true) (An Aa he Aa) (Ah ?_))));exact BH he
  refine wo he (vF CZ Aa CE (wo he (vL 0 Dp Aa (wo he (wv (BQ Aa Aa) (Ep Aa he Aa (Ah ?_)))))));exact BH he
 refine cz hi Aa (λhB hC=>?_) (λhB hD=>?_)
 ·refine Ad (wa Aa (Ao (Ap (Ab ?_))));obtain rfl:=Au hC;exact Aq (B2 WZ (AD Aa)) (sS sN) ⟨Aa,Aa⟩
 refine Aw (AE (Ad (vF CZ Aa GF (vL 0 DL Aa (ck hD λhE hG=>wv (Bk (enc:=AM) (ys:=q.fArgs) Ew C8 Aa Aa hE) (wv (Bb Eo Aa Aa) (ob hG λhg hH hI=>BP Tryz.call43 (Tp F (Ax q.fArgs 0) hg hH) Aa (wm Aa (wv (A7 Aa Aa) (wv (A7 Aa Aa) (wa Aa (wa Aa (Ao (Ak (ck hI λhJ hK=>A5 [(1,rP b1 0),(52,rB ((!hg.2)||(!(ov (H4 F q.fOp hg.1)))))] [.blk b1 (AU q) 29] ?_ ?_)))))))))))))))
 ·refine Af (wm Aa (wv (BO Aa) (wm Aa (AA (!hg.2) (λhb=>?_) (λhb=>?_)))))
  ·refine wf hb (wf hb (wf hb (wf hb (wf hb (wv (r:=rB true) (An Aa hb Aa) (Ah ?_))))));exact BH hb
  refine wo hb (vF CZ Aa CE (wo hb (vL 0 Dp Aa (wo hb (wm Aa (wo hb (BP Tryz.call104 (Vb F q.fOp hg.1 (ov (H4 F q.fOp hg.1)) (Cr (C3 hJ hb))) Aa (wo hb (wv (BO Aa) (Ep Aa hb Aa (Ah ?_)))))))))));exact BH hb
 refine cz hK Aa (λc85 hL=>?_) (λc85 hN=>?_)
 ·refine Ad (wa Aa (Ao (Ap (Ab ?_))));obtain rfl:=Au hL;exact Aq (B2 WZ (AD Aa)) (sS sN) ⟨Aa,Aa⟩
 refine Aw (AE (Ak (Ad (vF CZ Aa CE (vL 0 Dp Aa (wv (BQ Aa Aa) (Ao (cz hN Aa (λhO hP=>?_) (λhO hQ=>?_)))))))))
 ·refine Ad (vF CZ Aa GF (vL 0 DL Aa (ck hP λhR hS=>wv (Bk (enc:=AM) (ys:=q.fArgs) Ew C8 Aa Aa hR) (wv (Bb Eo Aa Aa) (ck hS λhT hU=>wv (Bk (enc:=Ae) (ys:=Ax q.fArgs 1) CL CJ Aa Aa hT) (wv (Cu Od CJ Aa Aa Aa) (BL (cs:=[A4 0,A4 0,rS ([]:Ai),A4 0]) Oc Aa Aa (λga=>?_))))))));refine GU (i:=0) CJ Aa Aa Aa (B8.c Aa) Aa Aa ?_;refine Ao (A5 [(2,rB ((decide (((Ax (Ax q.fArgs 1) 0).fKind)=3))&&((decide (0≤((Ax (Ax q.fArgs 1) 0).fInt)))&&(decide (((Ax (Ax q.fArgs 1) 0).fInt)≤1073741824)))))] [] ?_ ?_)
  ·refine Af (vF BD Aa DU (vL 0 DV Aa (wv (B7 Aa Aa) (wm Aa (AA (decide (((Ax (Ax q.fArgs 1) 0).fKind)=3)) (λhd=>?_) (λhd=>?_))))))
   ·refine wo hd (vF BD Aa CK (wo hd (vL 0 Df Aa (wo hd (wv (DP Aa Aa) (E0 Aa hd Aa (wm Aa (AA (decide (0≤((Ax (Ax q.fArgs 1) 0).fInt))) (λhf=>?_) (λhf=>?_)))))))))
    ·refine wo hf (vF BD Aa CK (wo hf (vL 0 Df Aa (wo hf (wv (Hf Aa Aa) (E0 Aa hf Aa (wa Aa (Ah ?_))))))));exact BH (And.intro hd hf)
    refine wf hf (wf hf (wf hf (wv (r:=rB false) (Ay Aa hf Aa) (wa Aa (Ah ?_)))));exact BH (And.intro hd hf)
   refine wf hd (wf hd (wf hd (wv (r:=rB false) (Ay Aa hd Aa) (wm Aa (wz Aa Aa (wz Aa Aa (wz Aa Aa (wv (r:=rB false) (Ay (b:=false) Aa Aa Aa) (wa Aa (Ah ?_))))))))));exact BH hd
  refine Ap (Ab ?_);obtain rfl:=Au hU;exact Aq (B2 WZ (AD Aa)) sN ⟨Aa,Aa⟩
 refine Aw (AE (ck hQ λhV hW=>ck hW λhX hY=>A5 [(2,rB ((!decide (q.fOp=([115,105,103,110,97,108]:Ai)))||(ov (Ev (Ax q.fArgs 1)))))] [] ?_ ?_))
 ·refine Af (vF CZ Aa CE (vL 0 Dp Aa (wv (M4 Aa Aa) (wm Aa (AA (!decide (q.fOp=([115,105,103,110,97,108]:Ai))) (λha=>?_) (λha=>?_))))))
  ·refine wf ha (wf ha (wf ha (wf ha (wf ha (wv (r:=rB true) (An Aa ha Aa) (wa Aa (Ah ?_)))))));exact BH ha
  refine wo ha (vF CZ Aa GF (wo ha (vL 0 DL Aa (wo ha (wv (Bk (enc:=AM) (ys:=q.fArgs) Ew C8 Aa Aa (C3 hV ha)) (wo ha (wv (Bb Eo Aa Aa) (wo ha (BP Tryz.call105 (Tr (Ax q.fArgs 1) (ov (Ev (Ax q.fArgs 1))) (Cr (C3 hX ha))) Aa (Ep Aa ha Aa (wa Aa (Ah ?_))))))))))));exact BH ha
 refine Ap ?_;obtain rfl:=Au hY;exact Aq (B2 WZ (AD Aa)) sN ⟨Aa,Aa⟩
theorem Nk (F:Nat)(a:AV)(r:Int)(h:EG F a=some r):Fn Tryz.prog GE 40 [B9 (Bf a)] [] (λR H=>R=A4 r∧H=[]):=by
 refine enter (n:=102) Tryz.func40 Aa Tryz.ntmps40 Aa (λw Z=>?_);unfold EG at h;refine Ad (BM Aa Aa (λb1=>?_));refine wa Aa (Ao (Ak (ck h λg2 h3=>ck h3 λg4 h5=>A5 [(1,rP b1 0),(18,rB ((!(Cv a.fTenant))||(!(Cv a.fFunction))))] [.blk b1 (Bf a) 26] ?_ ?_)))
 ·refine Af (vF CM Aa CE (vL 0 Dp Aa (Ck (rs:=[rS a.fTenant]) (r:=rB (Cv a.fTenant)) Tryz.call100 Aa (RT a.fTenant g2) Aa Aa (wv (BO Aa) (wm Aa (AA (!(Cv a.fTenant)) (λc6=>?_) (λc6=>?_)))))))
  ·refine wf c6 (wf c6 (wf c6 (wf c6 (wv (r:=rB true) (An Aa c6 Aa) (Ah ?_)))));exact BH c6
  refine wo c6 (vF CM Aa CE (wo c6 (vL 0 Dp Aa (wo c6 (Ck (rs:=[rS a.fFunction]) (r:=rB (Cv a.fFunction)) Tryz.call100 Aa (RT a.fFunction (C3 g4 c6)) Aa Aa (wo c6 (wv (BO Aa) (Ep Aa c6 Aa (Ah ?_)))))))));exact BH c6
 refine cz h5 Aa (λc7 h8=>?_) (λc7 h9=>?_)
 ·refine Ad (wa Aa (Ao (Ap (Ab ?_))));obtain rfl:=Au h8;exact Aq (B2 SN (AD Aa)) (sS sN) ⟨Aa,Aa⟩
 refine Aw (AE (Ak (Ad (wa Aa (Ao (A6 (ob h9 λhy hz hs=>Br (S:=Nat×(Int)×(Unit)) (V:=(Unit)×(Unit)) 0 (λσ=>BX (λσ=>CQ F a σ) σ.1 σ.2.1=some hy) (λσ=>[(1,rP b1 0),(3,A4 σ.2.1)]) (λσ=>[.blk b1 (Bf a) 26]) (λσ=>σ.1) (F,0,()) hz (AH.c Aa (AH.c Aa AH.nil)) (sC sN) (λσ=>CP F a =some r) (λσ=>[(1,rP b1 0)]) (λσ=>[.blk b1 (Bf a) 26]) ?_ ?_)))))))
 ·rintro⟨cd,hl,⟨⟩⟩ h0;refine GI ?_;obtain⟨h1,rfl,h2,hd,hm⟩:=Cc h0;replace hd:CQ F a hl=some h2:=hd;unfold CQ at hd;refine Ak (Ad (wm Aa (vF CM Aa Dn (vL 0 E5 Aa (wv (Bj (ys:=a.fOps) (enc:=eS) C7 Aa) (wv (Ci Aa Aa) (Ao (cz hd Aa (λh4 h6=>?_) (λh4 h7=>?_)))))))))
  ·refine Aw (AE (Ak (A6 (Ad (vF CM Aa Dn (vL 0 E5 Aa (wm Aa (ck h6 λhA hB=>wv (Bk (enc:=eS) (ys:=a.fOps) C7 CE Aa Aa hA) (wv (Bb Dp Aa Aa) (ob hB λhC hD hE=>BP Tryz.call41 (Ks F (Ax a.fOps hl) hC hD) Aa (wv (BO Aa) (Ao (cz hE Aa (λhG hH=>?_) (λhG hI=>?_))))))))))))))
   ·refine Ad (wa Aa (Ao (Ap (A3 (Ab (Ab (Bg ?_)))))));have hJ:=BC hH hm hs;refine A3 (Ab ?_);obtain rfl:=Au hJ;exact Aq (B2 SN (AD Aa)) (sS sN) ⟨Aa,Aa⟩
   refine Aw (AB (AE (Af (wm Aa (ck hI λhK hL=>wv (By Aa Aa hK) (wa Aa (Ah ?_)))))));have hN:=Bi hL hm;exact Ar (AC (h1,hl+1,()) ⟨hN,AeR _⟩ (AH.c Aa (AH.c Aa AH.nil)) (sC sN))
  refine Bn (Av ?_);have hO:=BE h7 hm hs;exact Av (AY (AC ((),()) hO (AH.c Aa AH.nil) (sC sN)))
 rintro⟨⟨⟩,⟨⟩⟩ he;refine GX ?_;replace he:CP F a =some r:=he;unfold CP at he;refine AW (AE (Ak (Ad (wa Aa (Ao (A6 (ob he λhP hQ ht=>Br (S:=Nat×(Int)×(Unit)) (V:=(Unit)×(Unit)) 2 (λσ=>BX (λσ=>BW a σ) σ.1 σ.2.1=some hP) (λσ=>[(1,rP b1 0),(4,A4 σ.2.1)]) (λσ=>[.blk b1 (Bf a) 26]) (λσ=>σ.1) (F,1,()) hQ (AH.c Aa (AH.c Aa AH.nil)) (sC sN) (λσ=>Dh F a =some r) (λσ=>[(1,rP b1 0)]) (λσ=>[.blk b1 (Bf a) 26]) ?_ ?_)))))))
 ·rintro⟨ce,hu,⟨⟩⟩ hR;refine GI ?_;obtain⟨hS,rfl,hT,hf,hn⟩:=Cc hR;replace hf:BW a hu=some hT:=hf;unfold BW at hf;refine Ak (Ad (wm Aa (vF CM Aa Dn (vL 0 E5 Aa (wv (Bj (ys:=a.fOps) (enc:=eS) C7 Aa) (wv (Ci Aa Aa) (Ao (cz hf Aa (λhU hV=>?_) (λhU hW=>?_)))))))))
  ·refine Aw (AE (Ak (A6 (Ak (ck hV λhX hY=>ck hY λhZ ga=>ck ga λgb gc=>Du [1,4] ?_)))));refine rq (Az CM Aa Dn Aa Aa) (rq (AT (i:=0) E5 Aa Aa Aa) (rq (Am Aa) (rq (Bk (enc:=eS) (ys:=a.fOps) C7 CE Aa Aa hX) (rq (Bb Dp Aa Aa) (rq (Az CM Aa Dn Aa Aa) (rq (AT (i:=0) E5 Aa Aa Aa) (rq (Am Aa) (rq (Gi Aa Aa hZ) (rq (Bk (enc:=eS) (ys:=a.fOps) C7 CE Aa Aa gb) (rq (Bb Dp Aa Aa) (rq (QQ Aa Aa) (re [51,1,4] ?_))))))))))));refine AE (cz gc Aa (λgd gf=>?_) (λgd gg=>?_))
   ·refine Ad (wa Aa (Ao (Ap (A3 (Ab (Ab (Bg ?_)))))));have gh:=BC gf hn ht;refine A3 (Ab ?_);obtain rfl:=Au gh;exact Aq (B2 SN (AD Aa)) (sS sN) ⟨Aa,Aa⟩
   refine Aw (AB (AE (Af (wm Aa (ck gg λgi gj=>wv (By Aa Aa gi) (wa Aa (Ah ?_)))))));have gl:=Bi gj hn;exact Ar (AC (hS,hu+1,()) ⟨gl,AeR _⟩ (AH.c Aa (AH.c Aa AH.nil)) (sC sN))
  refine Bn (Av ?_);have gm:=BE hW hn ht;exact Av (AY (AC ((),()) gm (AH.c Aa AH.nil) (sC sN)))
 rintro⟨⟨⟩,⟨⟩⟩ hg;refine GX ?_;replace hg:Dh F a =some r:=hg;unfold Dh at hg;refine AW (AE (Ak (A5 [(1,rP b1 0),(61,rB ((decide (32<(a.fPolicy.length:Int)))||(decide (32<(a.fNet.length:Int)))))] [.blk b1 (Bf a) 26] ?_ ?_)))
 ·refine Af (vF CM Aa J1 (vL 0 Lp Aa (wv (Bj (ys:=a.fPolicy) (enc:=Al) Id Aa) (wv (Dc Aa Aa) (wm Aa (AA (decide (32<(a.fPolicy.length:Int))) (λha=>?_) (λha=>?_)))))))
  ·refine wf ha (wf ha (wf ha (wf ha (wv (r:=rB true) (An Aa ha Aa) (Ah ?_)))));exact BH ha
  refine wo ha (vF CM Aa LY (wo ha (vL 0 Qh Aa (wo ha (wv (Bj (ys:=a.fNet) (enc:=A1) LX Aa) (wo ha (wv (Dc Aa Aa) (Ep Aa ha Aa (Ah ?_)))))))));exact BH ha
 refine cz hg Aa (λc143 gp=>?_) (λc143 gq=>?_)
 ·refine Ad (wa Aa (Ao (Ap (Ab ?_))));obtain rfl:=Au gp;exact Aq (B2 SN (AD Aa)) (sS sN) ⟨Aa,Aa⟩
 refine Aw (AE (Ak (Ad (wa Aa (Ao (A6 (ob gq λgr gs hw=>Br (S:=Nat×(Int)×(Unit)) (V:=(Unit)×(Unit)) 4 (λσ=>BX (λσ=>Dj F a σ) σ.1 σ.2.1=some gr) (λσ=>[(1,rP b1 0),(5,A4 σ.2.1)]) (λσ=>[.blk b1 (Bf a) 26]) (λσ=>σ.1) (F,0,()) gs (AH.c Aa (AH.c Aa AH.nil)) (sC sN) (λσ=>CO F a =some r) (λσ=>[(1,rP b1 0)]) (λσ=>[.blk b1 (Bf a) 26]) ?_ ?_)))))))
 ·rintro⟨cf,ho,⟨⟩⟩ gu;refine GI ?_;obtain⟨gv,rfl,gw,hh,hp⟩:=Cc gu;replace hh:Dj F a ho=some gw:=hh;unfold Dj at hh;refine Ak (Ad (wm Aa (vF CM Aa J1 (vL 0 Lp Aa (wv (Bj (ys:=a.fPolicy) (enc:=Al) Id Aa) (wv (Ci Aa Aa) (Ao (cz hh Aa (λgx gy=>?_) (λgx gz=>?_)))))))))
  ·refine Aw (AE (Ak (A6 (Ad (vF CM Aa J1 (vL 0 Lp Aa (wm Aa (ck gy λg0 g1=>wv (Bk (enc:=Al) (ys:=a.fPolicy) Id En Aa Aa g0) (wv (Cu LZ En Aa Aa Aa) (ob g1 λg3 g5 g6=>BP Tryz.call101 (Ps F (Ax a.fPolicy ho) g3 g5) Aa (wa Aa (Bp (wm Aa (wv (CH Aa Aa) (Ao (cz g6 Aa (λg7 g8=>?_) (λg7 g9=>?_)))))))))))))))))
   ·refine Ad (wm Aa (wa Aa (Ao (Ap (A3 (Ab (Ab (Bg ?_))))))));have gA:=BC g8 hp hw;refine A3 (Ab ?_);obtain rfl:=Au gA;exact Aq (B2 SN (AD Aa)) (sS sN) ⟨Aa,Aa⟩
   refine Aw (AB (AE (Af (wm Aa (ck g9 λgB gC=>wv (By Aa Aa gB) (wa Aa (Ah ?_)))))));have gD:=Bi gC hp;exact Ar (AC (gv,ho+1,()) ⟨gD,AeR _⟩ (AH.c Aa (AH.c Aa AH.nil)) (sC sN))
  refine Bn (Av ?_);have gE:=BE gz hp hw;exact Av (AY (AC ((),()) gE (AH.c Aa AH.nil) (sC sN)))
 rintro⟨⟨⟩,⟨⟩⟩ hi;refine GX ?_;replace hi:CO F a =some r:=hi;unfold CO at hi;refine AW (AE (Ak (Ad (wa Aa (Ao (A6 (ob hi λgF gG hx=>Br (S:=Nat×(Int)×(Unit)) (V:=(Unit)×(Unit)) 6 (λσ=>BX (λσ=>Di F a σ) σ.1 σ.2.1=some gF) (λσ=>[(1,rP b1 0),(7,A4 σ.2.1)]) (λσ=>[.blk b1 (Bf a) 26]) (λσ=>σ.1) (F,0,()) gG (AH.c Aa (AH.c Aa AH.nil)) (sC sN) (λσ=>CN a =some r) (λσ=>[(1,rP b1 0)]) (λσ=>[.blk b1 (Bf a) 26]) ?_ ?_)))))))
 ·rintro⟨cg,hq,⟨⟩⟩ gH;refine GI ?_;obtain⟨gI,rfl,gJ,hj,hr⟩:=Cc gH;replace hj:Di F a hq=some gJ:=hj;unfold Di at hj;refine Ak (Ad (wm Aa (vF CM Aa LY (vL 0 Qh Aa (wv (Bj (ys:=a.fNet) (enc:=A1) LX Aa) (wv (Ci Aa Aa) (Ao (cz hj Aa (λgK gL=>?_) (λgK gM=>?_)))))))))
  ·refine Aw (AE (Ak (A6 (Ad (vF CM Aa LY (vL 0 Qh Aa (wm Aa (ck gL λgN gO=>wv (Bk (enc:=A1) (ys:=a.fNet) LX GW Aa Aa gN) (wv (Cu Lw GW Aa Aa Aa) (ob gO λgP gQ gR=>BP Tryz.call102 (NO F (Ax a.fNet hq) gP gQ) Aa (wa Aa (Bp (wm Aa (wv (CH Aa Aa) (Ao (cz gR Aa (λgS gT=>?_) (λgS gU=>?_)))))))))))))))))
   ·refine Ad (wm Aa (wa Aa (Ao (Ap (A3 (Ab (Ab (Bg ?_))))))));have gV:=BC gT hr hx;refine A3 (Ab ?_);obtain rfl:=Au gV;exact Aq (B2 SN (AD Aa)) (sS sN) ⟨Aa,Aa⟩
   refine Aw (AB (AE (Af (wm Aa (ck gU λgW gX=>wv (By Aa Aa gW) (wa Aa (Ah ?_)))))));have gY:=Bi gX hr;exact Ar (AC (gI,hq+1,()) ⟨gY,AeR _⟩ (AH.c Aa (AH.c Aa AH.nil)) (sC sN))
  refine Bn (Av ?_);have gZ:=BE gM hr hx;exact Av (AY (AC ((),()) gZ (AH.c Aa AH.nil) (sC sN)))
 rintro⟨⟨⟩,⟨⟩⟩ hk;refine GX ?_;replace hk:CN a =some r:=hk;unfold CN at hk;refine AW (AE (Ak (A5 [(101,rB ((decide (a.fNow<0))||(decide (1073741824<a.fNow))))] [] ?_ ?_)))
 ·refine Af (vF CM Aa CK (vL 0 Df Aa (wv (Ci Aa Aa) (wm Aa (AA (decide (a.fNow<0)) (λhb=>?_) (λhb=>?_))))))
  ·refine wf hb (wf hb (wf hb (wv (r:=rB true) (An Aa hb Aa) (Ah ?_))));exact BH hb
  refine wo hb (vF CM Aa CK (wo hb (vL 0 Df Aa (wo hb (wv (Dc Aa Aa) (Ep Aa hb Aa (Ah ?_)))))));exact BH hb
 refine cz hk Aa (λca cb=>?_) (λca cc=>?_)
 ·refine Ad (wa Aa (Ao (Ap (Ab ?_))));obtain rfl:=Au cb;exact Aq (B2 SN (AD Aa)) sN ⟨Aa,Aa⟩
 refine Aw (AE (Ad (wa Aa (Ao (Ap ?_)))));obtain rfl:=Au cc;exact Aq (B2 SN (AD Aa)) sN ⟨Aa,Aa⟩
theorem Ql (tenant:Ai)(op:Ai)(name:Ai)(r:Ai)(h:IC tenant op name=some r):Fn Tryz.prog GE 45 [rS tenant,rS op,rS name] [] (λR H=>R=rS r∧H=[]):=by
 refine enter (n:=14) Tryz.func45 Aa Tryz.ntmps45 Aa (λw Z=>?_);unfold IC at h;refine Ad (wv (r:=rS ([]:Ai)) (A0 Aa) (Bp (wm Aa (ck h λg1 h2=>wv (C2 Aa Aa g1) (wm Aa (ck h2 λg3 h4=>wv (C2 Aa Aa g3) (ck h4 λg5 h6=>wv (C2 Aa Aa g5) (wm Aa (ck h6 λg7 h8=>wv (C2 Aa Aa g7) (wa Aa (Ao (Ap ?_))))))))))));obtain rfl:=Au h8;exact Aq (B2 Tryz.results45 (AD Aa)) sN ⟨Aa,Aa⟩
theorem JD (F:Nat)(a:AV)(q:AQ)(r:Int)(h:Cp F a q=some r):Fn Tryz.prog GE 9 [B9 (Bf a),B9 (AU q)] [] (λR H=>R=A4 r∧H=[]):=by
 refine enter (n:=77) Tryz.func9 Aa Tryz.ntmps9 Aa (λw Z=>?_);unfold Cp at h;refine Ad (BM Aa Aa (λb1=>?_));refine BM Aa Aa (λb2=>?_);refine wa Aa (Bp (wv (Be (i:=1) LE Gy Aa Aa Aa Aa) (ob h λr3 e5 h4=>BP Tryz.call40 (Nk F a r3 e5) Aa (wa Aa (Ao (Ak (Ad (wm Aa (wv (CH Aa Aa) (Ao (cz h4 Aa (λc6 h7=>?_) (λc6 h8=>?_))))))))))))
 ·refine Ad (wm Aa (wa Aa (Ao (Ap (Ab ?_)))));obtain rfl:=Au h7;exact Aq (B2 yr9 (AD Aa)) (sS (sS sN)) ⟨Aa,Aa⟩
 refine Aw (AE (Ak (Ad (vF CZ Aa CE (vL 0 Dp Aa (ob h8 λr9 hg hh=>BP Tryz.call41 (Ks F q.fOp r9 hg) Aa (wv (BO Aa) (Ao (cz hh Aa (λhi hj=>?_) (λhi hk=>?_))))))))))
 ·refine Ad (wa Aa (Ao (Ap (Ab ?_))));obtain rfl:=Au hj;exact Aq (B2 yr9 (AD Aa)) (sS (sS sN)) ⟨Aa,Aa⟩
 refine Aw (AE (Ak (Ad (vF CM Aa Dn (vL 1 E5 Aa (vF CZ Aa CE (vL 0 Dp Aa (ob hk λhl hm hn=>BP Tryz.call21 (W2 F a.fOps q.fOp hl hm) Aa (wv (BO Aa) (Ao (cz hn Aa (λho hp=>?_) (λho hq=>?_))))))))))))
 ·refine Ad (wa Aa (Ao (Ap (Ab ?_))));obtain rfl:=Au hp;exact Aq (B2 yr9 (AD Aa)) (sS (sS sN)) ⟨Aa,Aa⟩
 refine Aw (AE (Ak (Ad (wv (Be (i:=0) Rx Rv Aa Aa Aa Aa) (ob hq λhr hs ht=>BP Tryz.call42 (X2 F q hr hs) Aa (wv (BO Aa) (Ao (cz ht Aa (λhu hw=>?_) (λhu hx=>?_)))))))))
 ·refine Ad (wa Aa (Ao (Ap (Ab ?_))));obtain rfl:=Au hw;exact Aq (B2 yr9 (AD Aa)) (sS (sS sN)) ⟨Aa,Aa⟩
 refine Aw (AE (Ak (A5 [(2,rP b1 0),(3,rP b2 0),(37,rB ((decide (q.fOp=([110,111,119]:Ai)))||(decide (q.fOp=([108,111,103]:Ai)))))] [.blk b2 (AU q) 29,.blk b1 (Bf a) 26] ?_ ?_)))
 ·refine Af (vF CZ Aa CE (vL 0 Dp Aa (wv (BQ Aa Aa) (wm Aa (AA (decide (q.fOp=([110,111,119]:Ai))) (λha=>?_) (λha=>?_))))))
  ·refine wf ha (wf ha (wf ha (wv (r:=rB true) (An Aa ha Aa) (Ah ?_))));exact BH ha
  refine wo ha (vF CZ Aa CE (wo ha (vL 0 Dp Aa (wo ha (wv (BQ Aa Aa) (Ep Aa ha Aa (Ah ?_)))))));exact BH ha
 refine cz hx Aa (λhy hz=>?_) (λhy h0=>?_)
 ·refine Ad (wa Aa (Ao (Ap (Ab ?_))));obtain rfl:=Au hz;exact Aq (B2 yr9 (AD Aa)) (sS (sS sN)) ⟨Aa,Aa⟩
 refine Aw (AE (Ad (vF CZ Aa GF (vL 0 DL Aa (ck h0 λh1 h2=>wv (Bk (enc:=AM) (ys:=q.fArgs) Ew C8 Aa Aa h1) (wv (Bb Eo Aa Aa) (ob h2 λhb h3 h5=>BP Tryz.call43 (Tp F (Ax q.fArgs 0) hb h3) Aa (wm Aa (wv (A7 Aa Aa) (wv (A7 Aa Aa) (wa Aa (wa Aa (Ao (Ak (ob h5 λhd h6 h9=>ob h9 λhf hA hB=>Mb 12 [2,3,6] [⟨[],rP b1 3,none,none,none⟩,⟨[0],AO 3 (A8 Al a.fPolicy),none,none,none⟩,⟨[],rP b2 0,none,none,none⟩,⟨[2],rS q.fOp,none,none,none⟩,⟨[],rP b1 0,none,none,none⟩,⟨[4],rS a.fTenant,none,none,none⟩,⟨[],rP b2 0,none,none,none⟩,⟨[6],rS q.fOp,none,none,none⟩,⟨[],rS hb.1,none,none,none⟩,⟨[5,7,8],rS hd,none,none,none⟩,⟨[1,3,9],B9 (Gr hf),none,none,none⟩,⟨[],rv undef,some ([rB false,A4 0],63),none,none⟩] ?_ (λβ=>?_))))))))))))))))
 ·refine Px (Az CM Aa J1 Aa Aa) (U8 (AT (i:=1) Lp Aa Aa Aa) (Px (Az CZ Aa CE Aa Aa) (U8 (AT (i:=0) Dp Aa Aa Aa) (Px (Az CM Aa CE Aa Aa) (U8 (AT (i:=1) Dp Aa Aa Aa) (Px (Az CZ Aa CE Aa Aa) (U8 (AT (i:=0) Dp Aa Aa Aa) (Px (Am Aa) (oac (Cm Tryz.call45 (Ql a.fTenant q.fOp hb.1 hd h6) Aa) (oac (Cm Tryz.call44 (Tt F a.fPolicy q.fOp hd hf hA) Aa) (oal (AdR (cs:=[rB false,A4 0]) Yo Aa) ?_)))))))))));exact oae
 refine Km (H1:=[.blk b2 (AU q) 29,.blk b1 (Bf a) 26,.blk (β 11) [rB false,A4 0] 63]) [46,47,48,49,50,51,52,53,54,55,56,8,2,3,6] ?_;generalize β 11=hR;refine GU (i:=2) Kb Aa Aa Aa (B8.c Aa) Aa Aa ?_;refine Ao (Ak (Ad (vF Yp Aa Jz (vL 2 Qg Aa (wv (BO Aa) (Ao (cz hB Aa (λhC hD=>?_) (λhC hE=>?_))))))))
 ·refine Ad (wa Aa (Ao (Ap (Ab ?_))));obtain rfl:=Au hD;exact Aq (B2 yr9 (AD Aa)) (sS (sS (sS sN))) ⟨Aa,Aa⟩
 refine Aw (AE (Ak (Ad (vF CZ Aa CE (vL 0 Dp Aa (wv (BQ Aa Aa) (Ao (cz hE Aa (λc46 hG=>?_) (λc46 hH=>?_)))))))))
 ·refine Ad (wm Aa (ob hG λhe hI hJ=>BP Tryz.call46 (L3 F hb.1 he hI) Aa (wm Aa (wv (A7 Aa Aa) (wv (A7 Aa Aa) (wv (A7 Aa Aa) (wa Aa (wa Aa (wa Aa (Bp (vF CM Aa LY (vL 1 Qh Aa (wm Aa (wm Aa (ob hJ λhK hL hN=>BP Tryz.call47 (RG F a.fNet he.1 he.2.1 hK hL) Aa (GU (i:=2) Kb Aa Aa Aa (B8.c Aa) Aa Aa ?_))))))))))))))));refine Bp (vF Yp Aa Jz (vL 2 Qg Aa (wv (BO Aa) (Ao (cz hN Aa (λhO hP=>?_) (λhO hQ=>?_))))))
  ·refine Ad (wa Aa (Ao (Ap (Ab ?_))));obtain rfl:=Au hP;exact Aq (B2 yr9 (AD Aa)) (sS (sS (sS sN))) ⟨Aa,Aa⟩
  refine Aw (AE (Ad (wa Aa (Ao (Ap ?_)))));obtain rfl:=Au hQ;exact Aq (B2 yr9 (AD Aa)) (sS (sS (sS sN))) ⟨Aa,Aa⟩
 refine Aw (AE (Ad (wa Aa (Ao (Ap ?_)))));obtain rfl:=Au hH;exact Aq (B2 yr9 (AD Aa)) (sS (sS (sS sN))) ⟨Aa,Aa⟩
end Go.Proofs.YtmjlemhondjfhaaGreatDoor.Q
namespace Go.Proofs.YtmjlemhondjfhaaGreatDoor
open Go
set_option linter.unusedVariables false
structure BJ where
 fSecrets:(List (Ai×Int))
 deriving DecidableEq,Inhabited
structure B5 where
 fText:Ai
 fBefore:Ai
 fVersion:Int
 fUntil:Int
 fNow:Int
 fBound:(List (Ai×Bool))
 deriving DecidableEq,Inhabited
def Hq (ys:(List Ac)):Option ((List Ac)):=
 AX (Eh 40 (([]:List Ac).length+ys.length))<|some (([]:List Ac)++ys)
def Pb (c:Int):Option (Bool):=
 some ((decide (c<33))||(decide (126<c)))
def Lc (ys:(List Int))(ha:Int):Option (Stp (Int) (Out (Int) (Unit))):=
 Bz (decide (ha<(ys.length:Int))) (AX (Ch ha (ys.length:Int))<|Bv (Pb (Ax ys ha)) λhb=>Bz (hb) (some (.out (.ret ha))) (AX (BG .i64 (ha+1))<|some (.next (ha+1)))) (some (.out (.go ())))
def Lb :Option (Int):=
 some (-1)
def Vr (F:Nat)(ys:(List Int)):Option (Int):=
 Bv (BX (λσ=>Lc ys σ) F 0) (BT λν=>Lb )
def Lh (F:Nat)(ys:(List Int)):Option (Bool):=
 Bv (Vr F ys) λr1=>some (decide (0≤r1))
def R7 (F:Nat)(s:Ai):Option (Bool):=
 AX (imp (!decide (s=([]:Ai))) (imp (decide ((s.length:Int)≤200)) (Eh 1 s.length)))<|AX (imp (!decide (s=([]:Ai))) (imp (decide ((s.length:Int)≤200)) ((Lh F (GJ s)).isSome)))<|some ((!decide (s=([]:Ai)))&&((decide ((s.length:Int)≤200))&&(!(ov (Lh F (GJ s))))))
def YE :Option ((BJ×(List B5))):=
 some ((BJ.mk ([]:List (Ai×Int))),([]:List B5))
def Pf (v:BJ)(ha:(List B5))(name:Ai):Option (Int×Int):=
 Bz (!(Kf v.fSecrets name)) (some ((-1),5)) (some (Nu v.fSecrets name (-1),0))
def YD (F:Nat)(v:BJ)(ha:(List B5))(name:Ai)(text:Ai):Option (Int×BJ×(List B5)):=
 Bv (Pf v ha name) λr1=>Bz (decide (r1.2=10)) (some (r1.2,v,ha)) (Bz (!(Cv name)) (some (4,v,ha)) (Bv (R7 F text) λhb=>Bz (!hb) (some (1,v,ha)) (Bz (decide (r1.2=0)) (some (6,v,ha)) (Bz (decide (256≤(v.fSecrets.length:Int))) (some (3,v,ha)) (some (0,(BJ.mk (Jo v.fSecrets name (ha.length:Int))),ha++[(B5.mk text ([]:Ai) 1 0 0 ([]:List (Ai×Bool)))]))))))
def UW (v:BJ)(ha:(List B5))(name:Ai)(function:Ai):Option (Int×BJ×(List B5)):=
 Bv (Pf v ha name) λr1=>Bz (!decide (r1.2=0)) (some (r1.2,v,ha)) (Bz (!(Cv function)) (some (4,v,ha)) (AX (Ch r1.1 (ha.length:Int))<|Bz (Nu ((Ax ha r1.1).fBound) function false) (some (6,v,ha)) (Bz (decide (32≤(((Ax ha r1.1).fBound).length:Int))) (some (3,v,ha)) (some (0,v,List.set ha (Int.toNat r1.1) (B5.mk ((Ax ha r1.1).fText) ((Ax ha r1.1).fBefore) ((Ax ha r1.1).fVersion) ((Ax ha r1.1).fUntil) ((Ax ha r1.1).fNow) (Jo ((Ax ha r1.1).fBound) function true)))))))
def UV (v:BJ)(ha:(List B5))(name:Ai)(function:Ai):Option (Ai×Int×Int):=
 Bv (Pf v ha name) λr1=>Bz (!decide (r1.2=0)) (some (([]:Ai),0,r1.2)) (AX (Ch r1.1 (ha.length:Int))<|Bz (!(Nu ((Ax ha r1.1).fBound) function false)) (some (([]:Ai),0,12)) (some ((Ax ha r1.1).fText,(Ax ha r1.1).fVersion,0)))
def I9 (ha:(List B5))(hf:Ai)(hb:Int)(he:Int)(hd:Int):Option (Stp (Int×Int) (Out (Stp (Int) (Out (Stp (Ai×Ai) (Out (Ai) (Ai))) (Int))) (Int×Int×Bool))):=
 Bz (decide (hd<(([(Ax ha hb).fText,(Ax ha hb).fBefore]:List Ai).length:Int))) (AX (Ch hd (([(Ax ha hb).fText,(Ax ha hb).fBefore]:List Ai).length:Int))<|AX ((DQ hf (Ax ([(Ax ha hb).fText,(Ax ha hb).fBefore]:List Ai) hd)).isSome)<|AX (BG .i64 (hd+1))<|some (.next ((bif (ov (DQ hf (Ax ([(Ax ha hb).fText,(Ax ha hb).fBefore]:List Ai) hd))) then max he ((Ax ([(Ax ha hb).fText,(Ax ha hb).fBefore]:List Ai) hd).length:Int) else he),hd+1))) (some (.out (.go (he,hd,decide (hd<(([(Ax ha hb).fText,(Ax ha hb).fBefore]:List Ai).length:Int))))))
def I7 (ha:Int)(hb:Int)(hd:Bool):Option (Stp (Int) (Out (Stp (Ai×Ai) (Out (Ai) (Ai))) (Int))):=
 some (.next ha)
def IA (F:Nat)(ha:(List B5))(hd:Ai)(hf:Ai)(hb:Int)(he:Int):Option (Stp (Int) (Out (Stp (Ai×Ai) (Out (Ai) (Ai))) (Int))):=
 AX (Ch hb (ha.length:Int))<|Bv (BX (λσ=>I9 ha hd hb σ.1 σ.2) F (he,0)) (BT λν=>I7 ν.1 ν.2.1 ν.2.2)
def GA (ha:Ai)(hb:Ai)(hd:Int):Option (Stp (Ai×Ai) (Out (Ai) (Ai))):=
 Bz (decide (hd=0)) (AX (Ch 0 (ha.length:Int))<|AX (Eh 1 (hb.length+1))<|AX (BG .u8 (BK ha 0))<|Ln (hb++[UInt8.ofNat (Int.toNat (BK ha 0))]) λhe=>AX (IR 1 (ha.length:Int))<|some (.next (List.drop (Int.toNat 1) ha,he))) (AX (Eh 1 (hb.length+([42,42,42]:Ai).length))<|Ln (hb++([42,42,42]:Ai)) λhf=>AX (IR hd (ha.length:Int))<|some (.next (List.drop (Int.toNat hd) ha,hf)))
def IB (F:Nat)(v:BJ)(hd:(List B5))(ha:Ai)(hb:Ai):Option (Stp (Ai×Ai) (Out (Ai) (Ai))):=
 Bz (!decide (ha=([]:Ai))) (AcB v.fSecrets λord=>Bv (Z4 (λpe τ=>IA F hd ha pe.1 pe.2 τ) ord 0) (BT λν=>GA ha hb ν)) (some (.out (.go hb)))
def I8 (ha:Ai):Option (Ai):=
 AX (decide (0<ha.length))<|some ha
def Pd (F:Nat)(v:BJ)(ha:(List B5))(s:Ai):Option (Ai):=
 Bv (BX (λσ=>IB F v ha σ.1 σ.2) F (s,([]:Ai))) (BT λν=>I8 ν)
end Go.Proofs.YtmjlemhondjfhaaGreatDoor
namespace Go.Proofs.YtmjlemhondjfhaaGreatDoor.Q
open Go Go.RowKit
set_option linter.unusedVariables false
set_option linter.unusedSimpArgs false
set_option linter.unusedSectionVars false
section
variable {P : Program} {n : Nat} {c : Cx} {ops : Array Oper} {Q : Exit → Act → World → Prop} {rest : List Oper} {l : Fr} {H H' Hr : List Ent} {d k b rz : Nat} {ty t e re : TypeId} {pos : String} {af : Array Edge} {pv r : Value} {cs : List Rp} {ys : List (List Rp)} {K : Act → World → Prop} {cx : Code}
section
variable {Z : Fz} {w : World} {xs : List ((Value → List Rp) × List (List Rp))}
end
def AbM (l:Fr)(k:Nat)(i:Int):List Nat→Prop
 | []=>True
 | d::ds=>look l d=some (rPt k i 0)∧AbM l k i ds
def asB (b:Nat):List Nat→Fr→Fr
 | [],l=>l
 | d::ds,l=>(d,rv (.pointer (some ⟨b,0,none⟩)))::asB b ds l
def asI (k:Nat)(i:Int):List Nat→Fr→Fr
 | [],l=>l
 | d::ds,l=>(d,rPt k i 0)::asI k i ds l
theorem VD {Z:Fz}{a:Act}{i:Int}{l:Fr}(ha:Dg n l a Z)(h0:0≤i)(hn:Z.nm k i.toNat=some b):∀{ds:List Nat},AbM l k i ds→Dg n (asB b ds l) a Z
 | [],_=>ha
 | d::ds,⟨h1,h2⟩=>by
  have h3:=VD ha h0 hn h2;refine⟨h3.size,h3.defers,λj u hj=>?_⟩;rw[asB,Cw] at hj
  split at hj
  ·rename_i e;subst e;simp at hj;subst hj
   obtain⟨v,h4,h5⟩:=ha.tm d _ h1
   change Yn k i 0 Z v at h5
   unfold Yn at h5;rw[Afz (by omega)] at h5;obtain⟨b',g1,g2⟩:=h5;rw[hn] at g1;obtain rfl:=Option.some.inj g1;exact⟨v,h4,g2⟩
  ·exact h3.tm j u hj
theorem LR {Z:Fz}{a:Act}{i:Int}{l:Fr}(ha:Dg n l a Z)(h0:0≤i)(hn:Z.nm k i.toNat=some b):∀{ds:List Nat},Qa l b ds→Dg n (asI k i ds l) a Z
 | [],_=>ha
 | d::ds,⟨h1,h2⟩=>by
  have h3:=LR ha h0 hn h2;refine⟨h3.size,h3.defers,λj u hj=>?_⟩;rw[asI,Cw] at hj
  split at hj
  ·rename_i e;subst e;simp at hj;subst hj
   obtain⟨v,h4,h5⟩:=ha.tm d _ h1;refine⟨v,h4,?_⟩;show Yn k i 0 Z v;unfold Yn;rw[Afz (by omega)];exact⟨b,hn,h5⟩
  ·exact h3.tm j u hj
section
variable {β : Type} [Inhabited β] {xs : List β} {encw : β → (Value → List Rp) × List (List Rp)} {i : Int} {y : β}
end
end
section
variable {P : Program} {n : Nat} {c : Cx} {ops : Array Oper} {Q : Exit → Act → World → Prop} {rest : List Oper} {l : Fr} {H H' Hr : List Ent} {d k b r : Nat} {ty t e : TypeId} {pos : String} {af : Array Edge} {pv : Value} {cs : List Rp} {ys : List (List UInt8 × Rp)} {K : Act → World → Prop} {cx : Code}
theorem Ul {ps:List (Nat×Nat)}{i:Nat}{p:Nat×Nat}(h:ps[i]? =some p):(Rh ps).Perm (([p.1,p.2])++Rh (ps.eraseIdx i)):=by
 have:ps.Perm (p::ps.eraseIdx i):=by
  induction ps generalizing i with
  | nil=>cases h
  | cons x r ih=>
   cases i with
   | zero=>simp at h;subst h;exact Afd _
   | succ i=>
    simp at h;exact((ih h).cons x).trans (List.Perm.swap p x _)
 exact this.flatMap_right _
theorem Ab5 {ps:List (Nat×Nat)}{i:Nat}{p q:Nat×Nat}(h:ps[i]? =some p):(Rh (ps.set i q)).Perm (([q.1,q.2])++Rh (ps.eraseIdx i)):=by
 have hi:=(List.getElem?_eq_some_iff.1 h).1;have h1:=Ul (ps:=ps.set i q) (i:=i) (p:=q) (by simp[hi]);have h2:(ps.set i q).eraseIdx i=ps.eraseIdx i:=by
  refine List.ext_getElem? λj=>?_;rw[List.getElem?_eraseIdx,List.getElem?_eraseIdx]
  split
  ·rw[List.getElem?_set_ne (by omega)]
  ·rw[List.getElem?_set_ne (by omega)]
 rw[h2] at h1;exact h1
theorem W6 (ps:List (Nat×Nat))(q:Nat×Nat):Rh (ps++[q])=Rh ps++([q.1,q.2]):=by
 unfold Rh;rw[List.flatMap_append];simp
section
variable {Z : Fz} {w : World} {xs : List ((Nat → List Rp) × List (List UInt8 × Rp))}
theorem St.mtakeout (h:St c (.poolm k pv e xs none::Hr) Z w){i:Nat}(hi:i<xs.length) :
  ∃b r,Z.nm k i=some b∧St c (.blk b (xs[i].1 r) e::.map r xs[i].2::.poolm k pv e xs (some (i,(b,r)))::Hr) Z w:=by
 obtain⟨hl,hn,hm,_,hx⟩:=h.has (.poolm k pv e xs none) (by simp);have hp:(Gk pv)[i]? =some (Gk pv)[i]:=AeN (by omega);generalize(Gk pv)[i]=p at hp;obtain⟨b,r⟩:=p;have hperm:=Ul hp;have hnd:=hperm.nodup hn;have hd:=List.pairwise_cons.1 h.dis;have gd:=List.pairwise_cons.1 h.gst.dis;obtain⟨⟨us,h1,h2⟩,es,ck,h4,h5⟩:=hx i (b,r) xs[i] hp (AeN hi) (λo ho=>by cases ho);rw[List.nodup_append] at hnd;have hin:∀q,q∈[b,r]∨q∈Rh ((Gk pv).eraseIdx i)→q∈(Ent.poolm k pv e xs none).foot:=λq hq=>hperm.symm.subset (List.mem_append.2 hq);have fb:∀q∈(Ent.blk b (xs[i].1 r) e).foot,q∈(Ent.poolm k pv e xs none).foot:=λq hq=>hin q (.inl (by simp[Ent.foot] at hq;simp[hq]));have fr:∀q∈(Ent.map r xs[i].2).foot,q∈(Ent.poolm k pv e xs none).foot:=λq hq=>hin q (.inl (List.mem_cons_of_mem _ hq));have fo:∀q∈(Ent.poolm k pv e xs (some (i,(b,r)))).foot,q∈(Ent.poolm k pv e xs none).foot:=λq hq=>hin q (.inr hq);have hmem:∀en∈(.blk b (xs[i].1 r) e::.map r xs[i].2::.poolm k pv e xs (some (i,(b,r)))::Hr:List Ent),(∀q∈en.foot,q∈(Ent.poolm k pv e xs none).foot)∨en∈Hr:=λen he=>by
  simp only[Af4] at he;rcases he with rfl | rfl | rfl | he
  ·exact .inl fb
  ·exact .inl fr
  ·exact .inl fo
  ·exact .inr he
 have hgk:∀en∈(.blk b (xs[i].1 r) e::.map r xs[i].2::.poolm k pv e xs (some (i,(b,r)))::Hr:List Ent),∀q∈en.gk,∃en'∈(.poolm k pv e xs none::Hr:List Ent),q∈en'.gk∧en'.gn=en.gn:=λen he q hq=>by
  simp only[Af4] at he;rcases he with rfl | rfl | rfl | he
  ·cases hq
  ·cases hq
  ·exact⟨_,List.mem_cons_self ..,hq,rfl⟩
  ·exact⟨en,List.mem_cons_of_mem _ he,hq,rfl⟩
 refine⟨b,r,hm i _ hp,{ h with has:=λen he=>?_,own:=λen he q hq=>?_,dis:=?_,zdis:=λen he q hq=>?_,gst:=⟨λen he q hq=>?_,λen he q hq=>?_,?_,h.gst.new,λen he q hq j hj=>?_⟩ }⟩
 ·simp only[Af4] at he;rcases he with rfl | rfl | rfl | he
  ·exact⟨us,h1,h2⟩
  ·exact⟨es,ck,h4,h5⟩
  ·exact⟨hl,hnd.2.1,hm,λo ho=>by cases ho;exact hp,λj p x hj hxj hne=>hx j p x hj hxj (λo ho=>by cases ho)⟩
  ·exact h.has en (List.mem_cons_of_mem _ he)
 ·rcases hmem en he with h6 | h6
  ·exact h.own _ (List.mem_cons_self ..) q (h6 q hq)
  ·exact h.own en (List.mem_cons_of_mem _ h6) q hq
 ·have hbr:=List.nodup_cons.1 hnd.1;refine List.pairwise_cons.2 ⟨λen he q hq hq'=>?_,List.pairwise_cons.2 ⟨λen he q hq hq'=>?_,List.pairwise_cons.2 ⟨λen he q hq hq'=>hd.1 en he q (fo q hq) hq',hd.2⟩⟩⟩
  ·have e1:q=b:=by simpa[Ent.foot] using hq
   subst e1;simp only[Af4] at he;rcases he with rfl | rfl | he
   ·exact hbr.1 hq'
   ·exact hnd.2.2 q (List.mem_cons_self ..) q hq' rfl
   ·exact hd.1 en he q (fb q hq) hq'
  ·simp only[Af4] at he;rcases he with rfl | he
   ·exact hnd.2.2 q (List.mem_cons_of_mem _ hq) q hq' rfl
   ·exact hd.1 en he q (fr q hq) hq'
 ·rcases hmem en he with h6 | h6
  ·exact h.zdis _ (List.mem_cons_self ..) q (h6 q hq)
  ·exact h.zdis en (List.mem_cons_of_mem _ h6) q hq
 ·obtain⟨en',h6,h7,_⟩:=hgk en he q hq;exact h.gst.own en' h6 q h7
 ·obtain⟨en',h6,h7,_⟩:=hgk en he q hq;exact h.gst.sz en' h6 q h7
 ·exact List.pairwise_cons.2 ⟨λ_ _ _ hq=>(by cases hq),List.pairwise_cons.2 ⟨λ_ _ _ hq=>(by cases hq),List.pairwise_cons.2 ⟨gd.1,gd.2⟩⟩⟩
 ·obtain⟨en',h6,h7,h8⟩:=hgk en he q hq;exact h.gst.cap en' h6 q h7 j (by rw[h8];exact hj)
theorem St.mputback {i:Nat}{r0:Nat}{y:(Nat→List Rp)×List (List UInt8×Rp)}(h:St c (.blk b cs e::.map r ys::.poolm k pv e xs (some (i,(b,r0)))::Hr) Z w)(hcs:y.1 r=cs)(hys:y.2=ys){pv':Value}(hpv:Gk pv'=(Gk pv).set i (b,r)) :
  Z.nm k i=some b∧St c (.poolm k pv' e (xs.set i y) none::Hr) Z w:=by
 obtain⟨us,h1,h2⟩:=h.has (.blk b cs e) (by simp);obtain⟨es,ck,h4,h5⟩:=h.has (.map r ys) (by simp);obtain⟨hl,hn,hm,ho,hx⟩:=h.has (.poolm k pv e xs (some (i,(b,r0)))) (by simp);have hp:(Gk pv)[i]? =some (b,r0):=ho _ rfl;have hi:i<(Gk pv).length:=(List.getElem?_eq_some_iff.1 hp).1;have hd:=List.pairwise_cons.1 h.dis;have hd2:=List.pairwise_cons.1 hd.2;have hd3:=List.pairwise_cons.1 hd2.2;have gd:=List.pairwise_cons.1 (List.pairwise_cons.1 (List.pairwise_cons.1 h.gst.dis).2).2;have hperm:=Ab5 (q:=(b,r)) hp;have hback:∀q∈(Ent.poolm k pv' e (xs.set i y) none).foot,q=b∨q∈[r]∨q∈(Ent.poolm k pv e xs (some (i,(b,r0)))).foot:=λq hq=>by
  have h6:q∈Rh ((Gk pv).set i (b,r)):=by rw[← hpv];exact hq
  rcases List.mem_append.1 (hperm.subset h6) with h7 | h7
  ·rcases List.mem_cons.1 h7 with h8 | h8
   ·exact .inl h8
   ·exact .inr (.inl h8)
  ·exact .inr (.inr h7)
 have hbr:b ∉ [r]:=λhb=>hd.1 (.map r ys) (by simp) b (by simp[Ent.foot]) hb;have hbo:b ∉ (Ent.poolm k pv e xs (some (i,(b,r0)))).foot:=λhb=>hd.1 (.poolm k pv e xs (some (i,(b,r0)))) (by simp) b (by simp[Ent.foot]) hb;have hro:∀q∈[r],q ∉ (Ent.poolm k pv e xs (some (i,(b,r0)))).foot:=λq hq hq'=>hd2.1 (.poolm k pv e xs (some (i,(b,r0)))) (by simp) q hq hq';have hrn:([r]).Nodup:=by simp
 refine⟨hm i _ hp,{ h with has:=λen he=>?_,own:=λen he q hq=>?_,dis:=List.pairwise_cons.2 ⟨λen he q hq hq'=>?_,hd3.2⟩,zdis:=λen he q hq=>?_,gst:=⟨λen he q hq=>?_,λen he q hq=>?_,List.pairwise_cons.2 ⟨gd.1,gd.2⟩,h.gst.new,λen he q hq j hj=>?_⟩ }⟩
 ·rcases List.mem_cons.1 he with rfl | he
  ·refine⟨by rw[hpv];simpa using hl,?_,λj p hj=>?_,λo ho=>(by cases ho),λj p x hj hxj _=>?_⟩
   ·show(Rh (Gk pv')).Nodup;rw[hpv];refine hperm.symm.nodup ?_;rw[List.nodup_append];exact⟨List.nodup_cons.2 ⟨hbr,hrn⟩,hn,λq hq q' hq' e=>by
     subst e;rcases List.mem_cons.1 hq with rfl | hq
     ·exact hbo hq'
     ·exact hro q hq hq'⟩
   ·rw[hpv,List.getElem?_set] at hj
    split at hj
    ·rename_i e1;subst e1;simp[hi] at hj;subst hj;exact(hm i _ hp:Z.nm k i=some b)
    ·exact hm j p hj
   ·rw[hpv,List.getElem?_set] at hj;rw[List.getElem?_set] at hxj
    by_cases e1:i=j
    ·subst e1;rw[Af6 rfl,Af6 hi] at hj;rw[Af6 rfl,Af6 (by omega)] at hxj
     cases hj;cases hxj
     subst hcs;subst hys;exact⟨⟨us,h1,h2⟩,es,ck,h4,h5⟩
    ·rw[Afz e1] at hj hxj;exact hx j p x hj hxj (λo ho=>by cases ho;exact e1)
  ·exact h.has en (by simp[he])
 ·rcases List.mem_cons.1 he with rfl | he
  ·rcases hback q hq with rfl | h6 | h6
   ·exact h.own (.blk q cs e) (by simp) q (by simp[Ent.foot])
   ·exact h.own (.map r ys) (by simp) q h6
   ·exact h.own (.poolm k pv e xs (some (i,(b,r0)))) (by simp) q h6
  ·exact h.own en (by simp[he]) q hq
 ·rcases hback q hq with rfl | h6 | h6
  ·exact hd.1 en (by simp[he]) q (by simp[Ent.foot]) hq'
  ·exact hd2.1 en (by simp[he]) q h6 hq'
  ·exact hd3.1 en he q h6 hq'
 ·rcases List.mem_cons.1 he with rfl | he
  ·rcases hback q hq with rfl | h6 | h6
   ·exact h.zdis (.blk q cs e) (by simp) q (by simp[Ent.foot])
   ·exact h.zdis (.map r ys) (by simp) q h6
   ·exact h.zdis (.poolm k pv e xs (some (i,(b,r0)))) (by simp) q h6
  ·exact h.zdis en (by simp[he]) q hq
 ·rcases List.mem_cons.1 he with rfl | he
  ·exact h.gst.own (.poolm k pv e xs (some (i,(b,r0)))) (by simp) q hq
  ·exact h.gst.own en (by simp[he]) q hq
 ·rcases List.mem_cons.1 he with rfl | he
  ·exact h.gst.sz (.poolm k pv e xs (some (i,(b,r0)))) (by simp) q hq
  ·exact h.gst.sz en (by simp[he]) q hq
 ·rcases List.mem_cons.1 he with rfl | he
  ·refine h.gst.cap (.poolm k pv e xs (some (i,(b,r0)))) (by simp) q hq j ?_;have:(Gk pv').length≤j:=hj;rw[hpv,List.length_set] at this;exact this
  ·exact h.gst.cap en (by simp[he]) q hq j hj
theorem St.mputsame {i:Nat}(hi:i<xs.length)(h:St c (.blk b (xs[i].1 r) e::.map r xs[i].2::.poolm k pv e xs (some (i,(b,r)))::Hr) Z w):Z.nm k i=some b∧St c (.poolm k pv e xs none::Hr) Z w:=by
 obtain⟨hl,hn,hm,ho,hx⟩:=h.has (.poolm k pv e xs (some (i,(b,r)))) (by simp);have hp:(Gk pv)[i]? =some (b,r):=ho _ rfl;have h1:=St.mputback (y:=xs[i]) (pv':=pv) h rfl rfl (by
  refine(List.ext_getElem? λj=>?_);rw[List.getElem?_set]
  split
  ·rename_i e1;subst e1
   have:=(List.getElem?_eq_some_iff.1 hp).1;rw[Af6 this,hp]
  ·rfl)
 rw[List.set_getElem_self] at h1;exact h1
theorem St.adoptM {y:(Nat→List Rp)×List (List UInt8×Rp)}(h:St c (.blk b cs e::.map r ys::.poolm k pv e xs none::Hr) Z w)(hcs:y.1 r=cs)(hys:y.2=ys){pv':Value}(hpv:Gk pv'=Gk pv++[(b,r)]) :
  ∃Z',Fz.le Z Z'∧Z'.nm k xs.length=some b∧St c (.poolm k pv' e (xs++[y]) none::Hr) Z' w:=by
 obtain⟨us,h1,h2⟩:=h.has (.blk b cs e) (by simp);obtain⟨es,ck,h4,h5⟩:=h.has (.map r ys) (by simp);obtain⟨hl,hn,hm,ho,hx⟩:=h.has (.poolm k pv e xs none) (by simp);have hd:=List.pairwise_cons.1 h.dis;have hd2:=List.pairwise_cons.1 hd.2;have hd3:=List.pairwise_cons.1 hd2.2;have gd:=List.pairwise_cons.1 (List.pairwise_cons.1 (List.pairwise_cons.1 h.gst.dis).2).2;have hcap:=h.gst.cap (.poolm k pv e xs none) (by simp) k (by simp[Ent.gk]);have hksz:=h.gst.sz (.poolm k pv e xs none) (by simp) k (by simp[Ent.gk]);have hkown:=h.gst.own (.poolm k pv e xs none) (by simp) k (by simp[Ent.gk])
 let Z':Fz:=⟨Z.f,λq i=>if q=k∧i=xs.length then some b else Z.nm q i⟩
 have hnew:Z'.nm k xs.length=some b:=by simp[Z']
 have hle:Fz.le Z Z':=⟨λ_ _ h=>h,λq i b' hq=>by
  by_cases hqi:q=k∧i=xs.length
  ·obtain⟨rfl,rfl⟩:=hqi;rw[hcap _ (by simp[Ent.gn,hl])] at hq;cases hq
  ·simpa[Z',hqi] using hq⟩
 have hbr:b ∉ [r]:=λhb=>hd.1 (.map r ys) (by simp) b (by simp[Ent.foot]) hb;have hbo:b ∉ (Ent.poolm k pv e xs none).foot:=λhb=>hd.1 (.poolm k pv e xs none) (by simp) b (by simp[Ent.foot]) hb;have hro:∀q∈[r],q ∉ (Ent.poolm k pv e xs none).foot:=λq hq hq'=>hd2.1 (.poolm k pv e xs none) (by simp) q hq hq';have hrn:([r]).Nodup:=by simp
 have hback:∀q∈(Ent.poolm k pv' e (xs++[y]) none).foot,q=b∨q∈[r]∨q∈(Ent.poolm k pv e xs none).foot:=λq hq=>by
  have h6:q∈Rh (Gk pv++[(b,r)]):=by rw[← hpv];exact hq
  rw[W6] at h6;rcases List.mem_append.1 h6 with h7 | h7
  ·exact .inr (.inr h7)
  ·rcases List.mem_cons.1 h7 with h8 | h8
   ·exact .inl h8
   ·exact .inr (.inl h8)
 refine⟨Z',hle,hnew,{ h with has:=λen he=>?_,own:=λen he q hq=>?_,dis:=List.pairwise_cons.2 ⟨λen he q hq hq'=>?_,hd3.2⟩,frz:=⟨λb o hb=>h.frz.f b o hb,λq i b' hq=>?_⟩,le:=h.le.trans hle,new:=λb o hb=>h.new b o hb,zdis:=λen he q hq=>?_,env:=h.emono hle h.env,gst:=⟨λen he q hq=>?_,λen he q hq=>?_,List.pairwise_cons.2 ⟨gd.1,gd.2⟩,λq i b' hq=>?_,λen he q hq i hi=>?_⟩ }⟩
 ·rcases List.mem_cons.1 he with rfl | he
  ·refine⟨by rw[hpv];simp[hl],?_,λj p hj=>?_,λo ho=>(by cases ho),λj p x hj hxj _=>?_⟩
   ·show(Rh (Gk pv')).Nodup;rw[hpv,W6,List.nodup_append];exact⟨hn,List.nodup_cons.2 ⟨hbr,hrn⟩,λq hq q' hq' e=>by
     subst e;rcases List.mem_cons.1 hq' with rfl | hq'
     ·exact hbo hq
     ·exact hro q hq' hq⟩
   ·rw[hpv] at hj
    by_cases hjl:j<(Gk pv).length
    ·rw[Af5 hjl] at hj;exact hle.nm k j _ (hm j p hj)
    ·have hj2:j=(Gk pv).length:=by have:=(List.getElem?_eq_some_iff.1 hj).1;simp at this;omega
     subst hj2;simp at hj;subst hj;rw[hl];exact hnew
   ·rw[hpv] at hj
    by_cases hjl:j<(Gk pv).length
    ·rw[Af5 hjl] at hj;rw[Af5 (by omega)] at hxj;obtain⟨⟨us',g1,g2⟩,es',ck',g4,g5⟩:=hx j p x hj hxj (λo ho=>by cases ho);exact⟨⟨us',g1,g2.mono hle⟩,es',ck',g4,g5.mono hle⟩
    ·have hj2:j=(Gk pv).length:=by have:=(List.getElem?_eq_some_iff.1 hj).1;simp at this;omega
     subst hj2;simp at hj;subst hj;rw[hl] at hxj;simp at hxj;subst hxj;subst hcs;subst hys;exact⟨⟨us,h1,h2.mono hle⟩,es,ck,h4,h5.mono hle⟩
  ·exact Ent.keep (h.has en (by simp[he])) hle λ_ _=>rfl
 ·rcases List.mem_cons.1 he with rfl | he
  ·rcases hback q hq with rfl | h6 | h6
   ·exact h.own (.blk q cs e) (by simp) q (by simp[Ent.foot])
   ·exact h.own (.map r ys) (by simp) q h6
   ·exact h.own (.poolm k pv e xs none) (by simp) q h6
  ·exact h.own en (by simp[he]) q hq
 ·rcases hback q hq with rfl | h6 | h6
  ·exact hd.1 en (by simp[he]) q (by simp[Ent.foot]) hq'
  ·exact hd2.1 en (by simp[he]) q h6 hq'
  ·exact hd3.1 en he q h6 hq'
 ·by_cases hqi:q=k∧i=xs.length
  ·rw[hqi.1];exact hksz
  ·exact h.frz.nm q i b' (by simpa[Z',hqi] using hq)
 ·rcases List.mem_cons.1 he with rfl | he
  ·rcases hback q hq with rfl | h6 | h6
   ·exact h.zdis (.blk q cs e) (by simp) q (by simp[Ent.foot])
   ·exact h.zdis (.map r ys) (by simp) q h6
   ·exact h.zdis (.poolm k pv e xs none) (by simp) q h6
  ·exact h.zdis en (by simp[he]) q hq
 ·rcases List.mem_cons.1 he with rfl | he
  ·simp[Ent.gk] at hq;subst hq;exact hkown
  ·exact h.gst.own en (by simp[he]) q hq
 ·rcases List.mem_cons.1 he with rfl | he
  ·simp[Ent.gk] at hq;subst hq;exact hksz
  ·exact h.gst.sz en (by simp[he]) q hq
 ·by_cases hqi:q=k∧i=xs.length
  ·rw[hqi.1];exact .inr hkown
  ·exact h.gst.new q i b' (by simpa[Z',hqi] using hq)
 ·rcases List.mem_cons.1 he with rfl | he
  ·simp[Ent.gk] at hq;subst hq;have hi':(Gk pv').length≤i:=hi;rw[hpv,Afl] at hi';simp at hi';have hne : ¬ i=xs.length:=by omega
   simp only[Z',hne,and_false,Afh];exact hcap i (by simp[Ent.gn];omega)
  ·have hqk:q≠k:=λe1=>gd.1 en he k (by simp[Ent.gk]) (e1▸hq);simp only[Z',hqk,false_and,Afh];exact h.gst.cap en (by simp[he]) q hq i hi
end
section
variable {β : Type} [Inhabited β] {xs : List β} {encw : β → (Nat → List Rp) × List (List UInt8 × Rp)} {i : Int} {y : β}
theorem St.mtakeoutE {Z:Fz}{w:World}(hw:St c H Z w)(hp:H.Perm (.poolm k pv e (xs.map encw) none::Hr))(hg:Ch i (xs.length:Int)=true) :
  ∃b r,0≤i∧Z.nm k i.toNat=some b∧St c (.blk b ((encw (Ax xs i)).1 r) e::.map r (encw (Ax xs i)).2::.poolm k pv e (xs.map encw) (some (i.toNat,(b,r)))::Hr) Z w:=by
 have h0:=(Ce hg).1;have h1:i.toNat<xs.length:=by have:=(Ce hg).2;omega
 obtain⟨b,r,h2,h3⟩:=(hw.perm hp).mtakeout (i:=i.toNat) (by simpa using h1);have e1:(xs.map encw)[i.toNat]'(by simpa using h1)=encw (Ax xs i):=by simp[Ax,h1]
 rw[e1] at h3;exact⟨b,r,h0,h2,h3⟩
theorem WL.mtakeout (hp:H.Perm (.poolm k pv e (xs.map encw) none::Hr))(hg:Ch i (xs.length:Int)=true)(ds:List Nat)(hd:AbM l k i ds)
  (h:∀b r,WL P n c ops Q rest (asB b ds l) (.blk b ((encw (Ax xs i)).1 r) e::.map r (encw (Ax xs i)).2::.poolm k pv e (xs.map encw) (some (i.toNat,(b,r)))::Hr)):WL P n c ops Q rest l H:=λa w Z ha hw=>by
 obtain⟨b,r,h0,h1,h2⟩:=St.mtakeoutE hw hp hg;exact h b r a w Z (VD ha h0 h1 hd) h2
theorem WC.mtakeout (hp:H.Perm (.poolm k pv e (xs.map encw) none::Hr))(hg:Ch i (xs.length:Int)=true)(ds:List Nat)(hd:AbM l k i ds)
  (h:∀b r,WC P n c cx Q (asB b ds l) (.blk b ((encw (Ax xs i)).1 r) e::.map r (encw (Ax xs i)).2::.poolm k pv e (xs.map encw) (some (i.toNat,(b,r)))::Hr)):WC P n c cx Q l H:=λa w Z ha hw=>by
 obtain⟨b,r,h0,h1,h2⟩:=St.mtakeoutE hw hp hg;exact h b r a w Z (VD ha h0 h1 hd) h2
theorem St.mputbackE {Z:Fz}{w:World}{r0:Nat}(hw:St c H Z w)(hp:H.Perm (.blk b cs e::.map r ys::.poolm k pv e (xs.map encw) (some (i.toNat,(b,r0)))::Hr))(hcs:(encw y).1 r=cs)(hys:(encw y).2=ys) :
  ∃pv',Z.nm k i.toNat=some b∧St c (.poolm k pv' e ((xs.set i.toNat y).map encw) none::Hr) Z w:=by
 obtain⟨h1,h2⟩:=(hw.perm hp).mputback (y:=encw y) (pv':=Abf ((Gk pv).set i.toNat (b,r))) hcs hys (Wq _);rw[← List.map_set] at h2;exact⟨_,h1,h2⟩
theorem WL.mputback {r0:Nat}(hp:H.Perm (.blk b cs e::.map r ys::.poolm k pv e (xs.map encw) (some (i.toNat,(b,r0)))::Hr))(hg:Ch i (xs.length:Int)=true)(ds:List Nat)(hd:Qa l b ds)(hcs:(encw y).1 r=cs)(hys:(encw y).2=ys)
  (h:∀pv',WL P n c ops Q rest (asI k i ds l) (.poolm k pv' e ((xs.set i.toNat y).map encw) none::Hr)):WL P n c ops Q rest l H:=λa w Z ha hw=>by
 obtain⟨pv',h1,h2⟩:=St.mputbackE hw hp hcs hys;exact h pv' a w Z (LR ha (Ce hg).1 h1 hd) h2
theorem WC.mputback {r0:Nat}(hp:H.Perm (.blk b cs e::.map r ys::.poolm k pv e (xs.map encw) (some (i.toNat,(b,r0)))::Hr))(hg:Ch i (xs.length:Int)=true)(ds:List Nat)(hd:Qa l b ds)(hcs:(encw y).1 r=cs)(hys:(encw y).2=ys)
  (h:∀pv',WC P n c cx Q (asI k i ds l) (.poolm k pv' e ((xs.set i.toNat y).map encw) none::Hr)):WC P n c cx Q l H:=λa w Z ha hw=>by
 obtain⟨pv',h1,h2⟩:=St.mputbackE hw hp hcs hys;exact h pv' a w Z (LR ha (Ce hg).1 h1 hd) h2
theorem WK.mputback {r0:Nat}(hp:H.Perm (.blk b cs e::.map r ys::.poolm k pv e (xs.map encw) (some (i.toNat,(b,r0)))::Hr))(hg:Ch i (xs.length:Int)=true)(ds:List Nat)(hd:Qa l b ds)(hcs:(encw y).1 r=cs)(hys:(encw y).2=ys)
  (h:∀pv',WK n c K (asI k i ds l) (.poolm k pv' e ((xs.set i.toNat y).map encw) none::Hr)):WK n c K l H:=λa w Z ha hw=>by
 obtain⟨pv',h1,h2⟩:=St.mputbackE hw hp hcs hys;exact h pv' a w Z (LR ha (Ce hg).1 h1 hd) h2
theorem St.mputsameE {Z:Fz}{w:World}(hw:St c H Z w)(hp:H.Perm (.blk b cs e::.map r ys::.poolm k pv e (xs.map encw) (some (i.toNat,(b,r)))::Hr))(hg:Ch i (xs.length:Int)=true)(hcs:(encw (Ax xs i)).1 r=cs)(hys:(encw (Ax xs i)).2=ys) :
  Z.nm k i.toNat=some b∧St c (.poolm k pv e (xs.map encw) none::Hr) Z w:=by
 have h1:i.toNat<xs.length:=by have:=Ce hg;omega
 have e1:(xs.map encw)[i.toNat]'(by simpa using h1)=encw (Ax xs i):=by simp[Ax,h1]
 subst hcs;subst hys;have h2:=hw.perm hp;rw[← e1] at h2;exact St.mputsame (by simpa using h1) h2
theorem WL.mputsame (hp:H.Perm (.blk b cs e::.map r ys::.poolm k pv e (xs.map encw) (some (i.toNat,(b,r)))::Hr))(hg:Ch i (xs.length:Int)=true)(ds:List Nat)(hd:Qa l b ds)(hcs:(encw (Ax xs i)).1 r=cs)(hys:(encw (Ax xs i)).2=ys)
  (h:WL P n c ops Q rest (asI k i ds l) (.poolm k pv e (xs.map encw) none::Hr)):WL P n c ops Q rest l H:=λa w Z ha hw=>by
 obtain⟨h1,h2⟩:=St.mputsameE hw hp hg hcs hys;exact h a w Z (LR ha (Ce hg).1 h1 hd) h2
theorem WC.mputsame (hp:H.Perm (.blk b cs e::.map r ys::.poolm k pv e (xs.map encw) (some (i.toNat,(b,r)))::Hr))(hg:Ch i (xs.length:Int)=true)(ds:List Nat)(hd:Qa l b ds)(hcs:(encw (Ax xs i)).1 r=cs)(hys:(encw (Ax xs i)).2=ys)
  (h:WC P n c cx Q (asI k i ds l) (.poolm k pv e (xs.map encw) none::Hr)):WC P n c cx Q l H:=λa w Z ha hw=>by
 obtain⟨h1,h2⟩:=St.mputsameE hw hp hg hcs hys;exact h a w Z (LR ha (Ce hg).1 h1 hd) h2
theorem WK.mputsame (hp:H.Perm (.blk b cs e::.map r ys::.poolm k pv e (xs.map encw) (some (i.toNat,(b,r)))::Hr))(hg:Ch i (xs.length:Int)=true)(ds:List Nat)(hd:Qa l b ds)(hcs:(encw (Ax xs i)).1 r=cs)(hys:(encw (Ax xs i)).2=ys)
  (h:WK n c K (asI k i ds l) (.poolm k pv e (xs.map encw) none::Hr)):WK n c K l H:=λa w Z ha hw=>by
 obtain⟨h1,h2⟩:=St.mputsameE hw hp hg hcs hys;exact h a w Z (LR ha (Ce hg).1 h1 hd) h2
theorem WC.uncur {it i:Nat}{m lf:List (List UInt8×Rp)}{cur:Option (List UInt8×Rp)}(hi:H[i]? =some (.mit b it m lf cur))(h:WC P n c cx Q l (H.set i (.mit b it m lf none))):WC P n c cx Q l H:=λa w Z ha hw=>h a w Z ha (hw.uncur hi)
theorem St.adoptME {Z:Fz}{w:World}(hw:St c H Z w)(hp:H.Perm (.blk b cs e::.map r ys::.poolm k pv e (xs.map encw) none::Hr))(hcs:(encw y).1 r=cs)(hys:(encw y).2=ys) :
  ∃Z' pv',Fz.le Z Z'∧Z'.nm k xs.length=some b∧St c (.poolm k pv' e ((xs++[y]).map encw) none::Hr) Z' w:=by
 obtain⟨Z',h1,h2,h3⟩:=(hw.perm hp).adoptM (y:=encw y) (pv':=Abf (Gk pv++[(b,r)])) hcs hys (Wq _);rw[Afi] at h2;exact⟨Z',_,h1,h2,by rw[List.map_append];exact h3⟩
theorem WL.adoptM (hp:H.Perm (.blk b cs e::.map r ys::.poolm k pv e (xs.map encw) none::Hr))(ds:List Nat)(hd:Qa l b ds)(hcs:(encw y).1 r=cs)(hys:(encw y).2=ys)
  (h:∀pv',WL P n c ops Q rest (asP k xs.length ds l) (.poolm k pv' e ((xs++[y]).map encw) none::Hr)):WL P n c ops Q rest l H:=λa w Z ha hw=>by
 obtain⟨Z',pv',h1,h2,h3⟩:=St.adoptME hw hp hcs hys;exact h pv' a w Z' (VC (ha.mono h1) h2 hd) h3
theorem WC.adoptM (hp:H.Perm (.blk b cs e::.map r ys::.poolm k pv e (xs.map encw) none::Hr))(ds:List Nat)(hd:Qa l b ds)(hcs:(encw y).1 r=cs)(hys:(encw y).2=ys)
  (h:∀pv',WC P n c cx Q (asP k xs.length ds l) (.poolm k pv' e ((xs++[y]).map encw) none::Hr)):WC P n c cx Q l H:=λa w Z ha hw=>by
 obtain⟨Z',pv',h1,h2,h3⟩:=St.adoptME hw hp hcs hys;exact h pv' a w Z' (VC (ha.mono h1) h2 hd) h3
end
theorem K2:Gk (.tuple #[])=[]:=rfl
theorem Oe (hn:Nat.blt d n=true)(h:∀b,WL P n c ops Q rest ((d,rv (.map (some b)))::l) (.poolm b (.tuple #[]) e [] none::.map b []::H)) :
  WL P n c ops Q ({ dst:=some d,op:=.makeMap t none,type:=ty,pos:=pos,after:=af,guard:=none }::rest) l H:=
 J2 (λa w Z ha hw=>by
  have h1:=hw.alloc (.map #[] 0) (e:=.map w.heap.size []) ⟨#[],0,by simpa using heap_alloc_new w _,by simp,by simp,by simp,[],Afd _,trivial⟩ rfl;refine⟨_,w.alloc (.map #[] 0),_,_,Z,by simp[execOp,run_makeMap],Fz.le.refl _,rfl,?_,h w.heap.size⟩;have hz:∀i,Z.nm w.heap.size i=none:=λi=>by
   cases hq:Z.nm w.heap.size i with
   | none=>rfl
   | some b=>have:=hw.frz.nm _ _ _ hq;omega
  have hold:∀en∈(Ent.map w.heap.size []::H),∀q∈en.gk,q<w.heap.size:=λen he q hq=>by
   rcases List.mem_cons.1 he with rfl | he
   ·simp[Ent.gk] at hq
   ·exact hw.gst.sz en he q hq
  have hf:∀q,q ∉ (Ent.poolm w.heap.size (.tuple #[]) e [] none).foot:=λq hq=>by simp[Ent.foot,K2,Vg,Rh] at hq
  refine { h1 with has:=λen he=>?_,own:=λen he q hq=>?_,dis:=List.pairwise_cons.2 ⟨λen he q hq=>absurd hq (hf q),h1.dis⟩,zdis:=λen he q hq=>?_,gst:=⟨λen he q hq=>?_,λen he q hq=>?_,List.pairwise_cons.2 ⟨λen he q hq hq'=>?_,h1.gst.dis⟩,h1.gst.new,λen he q hq i hi=>?_⟩ }
  ·rcases List.mem_cons.1 he with rfl | he
   ·exact⟨by simp[K2],by simp[K2,Vg,Rh],by simp[K2],λo ho=>(by cases ho),by simp[K2]⟩
   ·exact h1.has en he
  ·rcases List.mem_cons.1 he with rfl | he
   ·exact absurd hq (hf q)
   ·exact h1.own en he q hq
  ·rcases List.mem_cons.1 he with rfl | he
   ·exact absurd hq (hf q)
   ·exact h1.zdis en he q hq
  ·rcases List.mem_cons.1 he with rfl | he
   ·simp[Ent.gk] at hq;subst hq;exact .inl hw.size
   ·exact h1.gst.own en he q hq
  ·rcases List.mem_cons.1 he with rfl | he
   ·simp[Ent.gk] at hq;subst hq;simp
   ·exact h1.gst.sz en he q hq
  ·simp[Ent.gk] at hq;subst hq;have:=hold en he _ hq';omega
  ·rcases List.mem_cons.1 he with rfl | he
   ·simp[Ent.gk] at hq;subst hq;exact hz i
   ·exact h1.gst.cap en he q hq i hi) hn
end
end Go.Proofs.YtmjlemhondjfhaaGreatDoor.Q
namespace Go.Proofs.YtmjlemhondjfhaaGreatDoor
open Go
end Go.Proofs.YtmjlemhondjfhaaGreatDoor
namespace Go.Proofs.YtmjlemhondjfhaaGreatDoor.Q
open Go Go.RowKit Go.ChangeMaps
set_option linter.unusedVariables false
set_option linter.unusedSimpArgs false
end Go.Proofs.YtmjlemhondjfhaaGreatDoor.Q
namespace Go.Proofs.YtmjlemhondjfhaaGreatDoor.Q
open Go Go.RowKit
set_option linter.unusedVariables false
set_option linter.unusedSimpArgs false
set_option maxRecDepth 100000
set_option maxHeartbeats 4000000
@[reducible] def JL (x:Bool):Rp:=rB x
theorem TK (Z:Fz):(JL false).p Z (.bool false):=rfl
@[reducible] def AJ (x:B5):(Nat→List Rp)×List (List UInt8×Rp):=(λr=>[rS x.fText,rS x.fBefore,A4 x.fVersion,A4 x.fUntil,A4 x.fNow,rv (.map (some r))],Bx JL x.fBound)
theorem Aah (parts:List (Nat×Value)):Tryz.prog.built 156 parts=Instr.fill (λi=>(#[(0,1)]:Array (Nat×Nat))[i]?) #[((.map none))] parts:=by kernel_rfl
theorem RN {n:Nat}{c:Cx}{l:Fr}{H:List Ent}{d:Option Nat}{ty:TypeId}{pos:String}{af:Array Edge}{g:Option (Nat×Bool)}{x0:Operand}{r0:Rp}(h0:ev l x0=some r0)(u0:r0.one=true):B4 Tryz.prog n c l H { dst:=d,op:=.build 156 #[(0,x0)],type:=ty,pos:=pos,after:=af,guard:=g } (B9 [r0]):=λa w Z ha _=>by
  have p0:=ha.ev h0;have c0:=B1 (r0.hone u0 Z _ p0);have hb:Tryz.prog.built 156 [(0,a.eval x0)]=some #[a.eval x0]:=by
    rw[Aah];generalize a.eval x0=v0 at *;simp[Instr.fill,c0]
  refine⟨.agg #[a.eval x0],⟨[a.eval x0],rfl,p0,trivial⟩,?_⟩;have:=run_build w 156 #[(0,a.eval x0)] _ (by simpa using hb);simp[execOp,this]
theorem Aag (parts:List (Nat×Value)):Tryz.prog.built 162 parts=Instr.fill (λi=>(#[(0,1),(1,1),(2,1),(3,1),(4,1),(5,1)]:Array (Nat×Nat))[i]?) #[(.string ⟨#[]⟩),(.string ⟨#[]⟩),(.int .i64 0),(.int .i64 0),(.int .i64 0),((.map none))] parts:=by kernel_rfl
theorem Ns {n:Nat}{c:Cx}{l:Fr}{H:List Ent}{d:Option Nat}{ty:TypeId}{pos:String}{af:Array Edge}{g:Option (Nat×Bool)}{x0:Operand}{r0:Rp}(h0:ev l x0=some r0)(u0:r0.one=true){x2:Operand}{r2:Rp}(h2:ev l x2=some r2)(u2:r2.one=true){x5:Operand}{r5:Rp}(h5:ev l x5=some r5)(u5:r5.one=true):B4 Tryz.prog n c l H { dst:=d,op:=.build 162 #[(0,x0),(2,x2),(5,x5)],type:=ty,pos:=pos,after:=af,guard:=g } (B9 [r0,rS ([]:Ai),r2,A4 0,A4 0,r5]):=λa w Z ha _=>by
  have p0:=ha.ev h0;have c0:=B1 (r0.hone u0 Z _ p0);have p2:=ha.ev h2;have c2:=B1 (r2.hone u2 Z _ p2);have p5:=ha.ev h5;have c5:=B1 (r5.hone u5 Z _ p5);have hb:Tryz.prog.built 162 [(0,a.eval x0),(2,a.eval x2),(5,a.eval x5)]=some #[a.eval x0,(.string ⟨#[]⟩),a.eval x2,(.int .i64 0),(.int .i64 0),a.eval x5]:=by
    rw[Aag];generalize a.eval x0=v0 at *;generalize a.eval x2=v2 at *;generalize a.eval x5=v5 at *;simp[Instr.fill,c0,c2,c5]
  refine⟨.agg #[a.eval x0,(.string ⟨#[]⟩),a.eval x2,(.int .i64 0),(.int .i64 0),a.eval x5],⟨[a.eval x0,(.string ⟨#[]⟩),a.eval x2,(.int .i64 0),(.int .i64 0),a.eval x5],rfl,p0,rfl,p2,rfl,rfl,p5,trivial⟩,?_⟩;have:=run_build w 162 #[(0,a.eval x0),(2,a.eval x2),(5,a.eval x5)] _ (by simpa using hb);simp[execOp,this]
theorem ET (ys:(List Ac))(r:(List Ac))(h:Hq ys=some r):Fn Tryz.prog GE 59 [AO 4 (A8 Ae ys)] [] (λR H=>R=AO 4 (A8 Ae r)∧H=[]):=by
 refine enter (n:=8) Tryz.func59 Aa Tryz.ntmps59 Aa (λw Z=>?_);unfold Hq at h;refine Ad (wa Aa (Ao (Ak (Ad (wm Aa (wv (KW CL Aa) (Ao (Mc Aa (λc1=>?_) (λc1=>?_)))))))))
 ·have e2:ys=[]:=List.map_eq_nil_iff.1 (c1 rfl);have h3:some ([]:List Ac)=some r:=by rw[e2] at h;exact(Ro h).2
  refine Ad (wa Aa (Ao (Ap (Ab (WK.up (d:=2) (r:=AO 4 (A8 Ae ([]:List Ac))) Aa (Up.le (HS.nil _)) ?_)))));obtain rfl:=Au h3;exact Aq (B2 Tryz.results59 (AD Aa)) sN ⟨Aa,Aa⟩
 refine Aw (AE (Ad (Bc (ys:=([]:List Ac)) (enc:=Ae) (css:=[]) (xs:=[]) CL CJ Oc Aa Aa Aa trivial Aa Dx Aa Aa Aa (λb4=>?_))));refine wm Aa (ck h λg6 h7=>Exists.elim AcN λinf hinf=>Er (xs:=([]:List Ac)) (ys:=ys) (enc:=Ae) (i:=0) CL hinf.1 hinf.2.1 hinf.2.2.1 hinf.2.2.2 Aa Aa Aa Aa Aa (Q3.z Aa Aa) Dx Qz g6 Aa (λv5=>?_));refine wa Aa (Ao (Ap (WK.freeze (i:=0) Aa (WK.up (d:=2) (r:=AO 4 (A8 Ae (([]:List Ac)++ys))) Aa (Up.fact (i:=0) Aa) ?_))));obtain rfl:=Au h7;exact Aq (B2 Tryz.results59 (AD Aa)) (sS sN) ⟨Aa,Aa⟩
theorem UU (c:Int)(r:Bool)(h:Pb c=some r):Fn Tryz.prog GE 158 [rI .u8 c] [] (λR H=>R=rB r∧H=[]):=by
 refine enter (n:=9) Tryz.func158 Aa Tryz.ntmps158 Aa (λw Z=>?_);unfold Pb at h;refine Ad (wa Aa (Ao (A5 [(2,rB ((decide (c<33))||(decide (126<c))))] [] ?_ ?_)))
 ·refine Af (wm Aa (wv (Ci Aa Aa) (wm Aa (AA (decide (c<33)) (λc1=>?_) (λc1=>?_)))))
  ·refine wf c1 (wf c1 (wv (r:=rB true) (An Aa c1 Aa) (wa Aa (Ah ?_))));exact BH c1
  refine wo c1 (wm Aa (wo c1 (wv (Dc Aa Aa) (Ep Aa c1 Aa (wa Aa (Ah ?_))))));exact BH c1
 refine Ap ?_;obtain rfl:=Au h;exact Aq (B2 Tryz.results158 (AD Aa)) sN ⟨Aa,Aa⟩
theorem ZB (F:Nat)(ys:(List Int))(r:Int)(h:Vr F ys=some r):Fn Tryz.prog GE 186 [AO 1 (A8 Cn ys),rv (.func (.func 158) #[] #[])] [] (λR H=>R=A4 r∧H=[]):=by
 refine enter (n:=19) Tryz.func186 Aa Tryz.ntmps186 Aa (λw Z=>?_);unfold Vr at h;refine Ad (wa Aa (Ao (Ak (Ad (wm Aa (wv (Bj (ys:=ys) (enc:=Cn) Ki Aa) (wv (r:=A4 0) (Am Aa) (Ao (A6 (ob h λhg hh hf=>Br (S:=Nat×(Int)×(Unit)) (V:=(Unit)×(Unit)) 0 (λσ=>BX (λσ=>Lc ys σ) σ.1 σ.2.1=some hg) (λσ=>[(0,AO 1 (A8 Cn ys)),(1,rv (.func (.func 158) #[] #[])),(7,A4 (ys.length:Int)),(8,A4 σ.2.1)]) (λσ=>[]) (λσ=>σ.1) (F,0,()) hh (AH.c Aa (AH.c Aa (AH.c Aa (AH.c Aa AH.nil)))) sN (λσ=>Lb =some r) (λσ=>[]) (λσ=>[]) ?_ ?_))))))))))
 ·rintro⟨h2,ha,⟨⟩⟩ hi;refine GI ?_;obtain⟨hj,rfl,hk,hb,he⟩:=Cc hi;replace hb:Lc ys ha=some hk:=hb;unfold Lc at hb;refine Ad (wv (Ci Aa Aa) (Ao (Ak (cz hb Aa (λhl hm=>?_) (λhl hn=>?_)))))
  ·refine Aw (AE (Ak (A6 (Ad (wm Aa (wa Aa (Bp (wm Aa (wm Aa (wm Aa (ck hm λho hp=>wv (Bk (enc:=Cn) (ys:=ys) Ki Tryz.sizeOf5 Aa Aa ho) (wv (Bb Tryz.isAgg5 Aa Aa) (ob hp λhq hr hs=>Hw (rs:=[rI .u8 (Ax ys ha)]) (Hin:=[]) (Hr:=[]) Tryz.call158 Aa Aa (Afd _) (UU (Ax ys ha) hq hr) Aa ?_)))))))))))));rintro _ _ ⟨rfl,rfl⟩;refine Ao (cz hs Aa (λht hu=>?_) (λht hw=>?_))
   ·refine Ad (wm Aa (wa Aa (Ao (Ap (A3 (Ab (Ab (Bg ?_))))))));have hx:=BC hu he hf;refine A3 (Ab ?_);obtain rfl:=Au hx;exact Aq (B2 Tryz.results186 (AD Aa)) sN ⟨Aa,Aa⟩
   refine Aw (AB (AE (Af (ck hw λhy hz=>wv (By Aa Aa hy) (wm Aa (Ah ?_))))));have h0:=Bi hz he;exact Ar (AC (hj,ha+1,()) ⟨h0,AeR _⟩ (AH.c Aa (AH.c Aa (AH.c Aa (AH.c Aa AH.nil)))) sN)
  refine Bn (Av ?_);have h1:=BE hn he hf;exact Av (AY (AC ((),()) h1 AH.nil sN))
 rintro⟨⟨⟩,⟨⟩⟩ hd;refine GX ?_;replace hd:Lb =some r:=hd;unfold Lb at hd;refine AW (AE (Ad (wv (r:=A4 (-1)) (A0 Aa) (Ao (Ap ?_)))));obtain rfl:=Au hd;exact Aq (B2 Tryz.results186 (AD Aa)) sN ⟨Aa,Aa⟩
theorem XQ (F:Nat)(ys:(List Int))(r:Bool)(h:Lh F ys=some r):Fn Tryz.prog GE 157 [AO 1 (A8 Cn ys),rv (.func (.func 158) #[] #[])] [] (λR H=>R=rB r∧H=[]):=by
 refine enter (n:=9) Tryz.func157 Aa Tryz.ntmps157 Aa (λw Z=>?_);unfold Lh at h;refine Ad (wa Aa (Bp (wm Aa (wm Aa (ob h λr1 e3 h2=>BP Tryz.call186 (ZB F ys r1 e3) Aa (wv (DP Aa Aa) (wa Aa (Ao (Ap ?_)))))))));obtain rfl:=Au h2;exact Aq (B2 Tryz.results157 (AD Aa)) sN ⟨Aa,Aa⟩
theorem Xm (F:Nat)(s:Ai)(r:Bool)(h:R7 F s=some r):Fn Tryz.prog GE 111 [rS s] [] (λR H=>R=rB r∧H=[]):=by
 refine enter (n:=16) Tryz.func111 Aa Tryz.ntmps111 Aa (λw Z=>?_);unfold R7 at h;refine Ad (wa Aa (Ao (ck h λg1 h2=>ck h2 λg3 h4=>A5 [(2,rB ((!decide (s=([]:Ai)))&&((decide ((s.length:Int)≤200))&&(!(ov (Lh F (GJ s)))))))] [] ?_ ?_)))
 ·refine Af (wm Aa (wv (M4 Aa Aa) (wm Aa (AA (!decide (s=([]:Ai))) (λc5=>?_) (λc5=>?_)))))
  ·refine wo c5 (wm Aa (wo c5 (wv (B0 C4 Aa) (wo c5 (wv (Hf Aa Aa) (E0 Aa c5 Aa (wm Aa (AA (decide ((s.length:Int)≤200)) (λc6=>?_) (λc6=>?_)))))))))
   ·refine wo c6 (wm Aa (wo c6 (Adm C4 Ki Tryz.underlying5 Aa (BF (BF g1 c5) c6) Aa (wo c6 (BP Tryz.call157 (XQ F (GJ s) (ov (Lh F (GJ s))) (Cr (BF (BF g3 c5) c6))) Aa (wo c6 (wv (BO Aa) (E0 Aa c6 Aa (wa Aa (Ah ?_))))))))));exact BH (And.intro c5 c6)
   refine wf c6 (wf c6 (wf c6 (wf c6 (wv (r:=rB false) (Ay Aa c6 Aa) (wa Aa (Ah ?_))))));exact BH (And.intro c5 c6)
  refine wf c5 (wf c5 (wf c5 (wv (r:=rB false) (Ay Aa c5 Aa) (wm Aa (wz Aa Aa (wz Aa Aa (wz Aa Aa (wz Aa Aa (wv (r:=rB false) (Ay (b:=false) Aa Aa Aa) (wa Aa (Ah ?_)))))))))));exact BH c5
 refine Ap ?_;obtain rfl:=Au h4;exact Aq (B2 Tryz.results111 (AD Aa)) sN ⟨Aa,Aa⟩
theorem AaF  (r:(BJ×(List B5)))(h:YE=some r):Fn Tryz.prog GE 48 [] [] (λR H=>∃u0:Nat,∃u0_0:Nat,∃u0_p0:Value,R=rP u0 0∧H=[.blk u0 [rv (.map (some u0_0))] 156,.map u0_0 (Bx (mP u0_0) r.1.fSecrets),.poolm u0_0 u0_p0 162 (A8 AJ r.2) none]):=by
 refine enter (n:=4) Tryz.func48 Aa Tryz.ntmps48 Aa (λw Z=>?_);unfold YE at h;refine Ad (wa Aa (Bp (Oe (e:=162) Aa (λb1=>?_))));refine wv (r:=B9 [rv (.map (some b1))]) (RN Aa Aa) (BM Aa Aa (λb2=>?_));refine wa Aa (Ao (Ap (NH [0,1] ?_)));obtain rfl:=Au h;exact Aq (B2 Tryz.results48 (AD Aa)) (sC (sC (sC sN))) ⟨b2,b1,(.tuple #[]),Aa,Aa⟩
theorem Pe (hb:Nat)(ha:Nat)(he:Value)(v:BJ)(hd:(List B5))(name:Ai)(r:Int×Int)(h:Pf v hd name=some r):Fn Tryz.prog GE 110 [rP hb 0,rS name] [.blk hb [rv (.map (some ha))] 156,.map ha (Bx (mP ha) v.fSecrets),.poolm ha he 162 (A8 AJ hd) none] (λR H=>R=Dy [rPt ha r.1 0,A4 r.2]∧H=[.blk hb [rv (.map (some ha))] 156,.map ha (Bx (mP ha) v.fSecrets),.poolm ha he 162 (A8 AJ hd) none]):=by
 refine enter (n:=29) Tryz.func110 Aa Tryz.ntmps110 Aa (λw Z=>?_);unfold Pf at h;refine Ad (wa Aa (wa Aa (Ao (Ak (A5 [(0,rP hb 0),(1,rS name),(16,rB false)] [.blk hb [rv (.map (some ha))] 156,.map ha (Bx (mP ha) v.fSecrets),.poolm ha he 162 (A8 AJ hd) none] ?_ ?_)))))
 ·refine Af (wm Aa (wv (r:=rB false) (Nq ⟨_,Aay⟩ Aa) (wm Aa (AL (b:=false) Aa Aa Aa (wm Aa (AL (b:=false) Aa Aa Aa (wv (AS Aa) (AL (b:=false) Aa Aa Aa (vF Q5 Aa Q7 (AL (b:=false) Aa Aa Aa (vL 0 Q9 Aa (AL (b:=false) Aa Aa Aa (wv (r:=rB false) (Zl (v:=some ha) Q6 Aa) (wv (r:=rB false) (Ay (b:=false) Aa Aa Aa) (Ah ?_)))))))))))))));exact wt
 refine CS Aa Aa (Aw (AE (Ad (wm Aa (wv (AS Aa) (vF Q5 Aa Q7 (vL 0 Q9 Aa (wm Aa (wv (r:=Dy [rPt ha (Nu v.fSecrets name (-1)) 0,rB (Kf v.fSecrets name)]) (Wn (enc:=(mP ha)) (xs:=v.fSecrets) (z:=(-1)) (i:=1) Q6 C4 Tryz.zeroValue157 (Aer ha) Aa Aa Aa) (wm Aa (wv (A7 Aa Aa) (wv (A7 Aa Aa) (wa Aa (wa Aa (Ao (Ak (Ad (wm Aa (wv (BO Aa) (Ao (cz h Aa (λc1 h2=>?_) (λc1 h3=>?_))))))))))))))))))))))
 ·refine Ad (wa Aa (wa Aa (Ao (Ap (Ab (WK.up (d:=4) (r:=rPt ha (-1) 0) Aa (Up.le (HS.pnil _)) ?_))))));obtain rfl:=Au h2;exact Aq (HW Tryz.results110 (AD Aa) (AD Aa)) (sC (sC (sC sN))) ⟨Aa,Aa⟩
 refine Aw (AE (Ad (wm Aa (wa Aa (wa Aa (Ao (Ap ?_)))))));obtain rfl:=Au h3;exact Aq (HW Tryz.results110 (AD Aa) (AD Aa)) (sC (sC (sC sN))) ⟨Aa,Aa⟩
theorem AaE (F:Nat)(he:Nat)(ha:Nat)(hb:Value)(v:BJ)(hd:(List B5))(name:Ai)(text:Ai)(r:Int×BJ×(List B5))(h:YD F v hd name text=some r):Fn Tryz.prog GE 49 [rP he 0,rS name,rS text] [.blk he [rv (.map (some ha))] 156,.map ha (Bx (mP ha) v.fSecrets),.poolm ha hb 162 (A8 AJ hd) none] (λR H=>∃w0_p0:Value,R=A4 r.1∧H=[.blk he [rv (.map (some ha))] 156,.map ha (Bx (mP ha) r.2.1.fSecrets),.poolm ha w0_p0 162 (A8 AJ r.2.2) none]):=by
 refine enter (n:=46) Tryz.func49 Aa Tryz.ntmps49 Aa (λw Z=>?_);unfold YD at h;refine Ad (wa Aa (Bp (wm Aa (wm Aa (ob h λr1 e3 h2=>J3 [0,0,0] Tryz.call110 (Pe he ha hb v hd name r1 e3) ?_)))));rintro _ _ ⟨rfl,rfl⟩;refine wm Aa (wv (A7 Aa Aa) (wv (A7 Aa Aa) (wa Aa (wa Aa (Ao (Ak (A6 (Ad (wm Aa (wv (B7 Aa Aa) (wa Aa (Ao (cz h2 Aa (λc4 h5=>?_) (λc4 h6=>?_))))))))))))))
 ·refine Ad (wm Aa (wa Aa (Ao (Ap (A3 (Ab ?_))))));obtain rfl:=Au h5;exact Aq (B2 WY (AD Aa)) (sC (sC (sC sN))) ⟨hb,Aa,Aa⟩
 refine Ad (wm Aa (Ck (rs:=[rS name]) (r:=rB (Cv name)) Yu Aa (P6 name) Aa Aa (wv (BO Aa) (wa Aa (Ao (cz h6 Aa (λc7 h8=>?_) (λc7 h9=>?_)))))))
 ·refine Ad (wa Aa (Ao (Ap (A3 (Ab ?_)))));obtain rfl:=Au h8;exact Aq (B2 WY (AD Aa)) (sC (sC (sC sN))) ⟨hb,Aa,Aa⟩
 refine Ad (wm Aa (ob h9 λhf hg hh=>BP Tryz.call111 (Xm F text hf hg) Aa (wv (BO Aa) (wa Aa (Ao (cz hh Aa (λhi hj=>?_) (λhi hk=>?_)))))))
 ·refine Ad (wa Aa (Ao (Ap (A3 (Ab ?_)))));obtain rfl:=Au hj;exact Aq (B2 WY (AD Aa)) (sC (sC (sC sN))) ⟨hb,Aa,Aa⟩
 refine Ad (wm Aa (wv (B7 Aa Aa) (wa Aa (Ao (cz hk Aa (λhl hm=>?_) (λhl hn=>?_))))))
 ·refine Ad (wa Aa (Ao (Ap (A3 (Ab ?_)))));obtain rfl:=Au hm;exact Aq (B2 WY (AD Aa)) (sC (sC (sC sN))) ⟨hb,Aa,Aa⟩
 refine Ad (wm Aa (wv (AS Aa) (vF Q5 Aa Q7 (vL 0 Q9 Aa (wv (r:=A4 (v.fSecrets.length:Int)) (Zm (N:=v.fSecrets.length) (i:=1) Q6 Aa Aa (K4 _ _)) (wv (DP Aa Aa) (wa Aa (Ao (cz hn Aa (λho hp=>?_) (λho hq=>?_))))))))))
 ·refine Ad (wa Aa (Ao (Ap (A3 (Ab ?_)))));obtain rfl:=Au hp;exact Aq (B2 WY (AD Aa)) (sC (sC (sC sN))) ⟨hb,Aa,Aa⟩
 refine Aw (AB (AE (Ad (wm Aa (wv (AS Aa) (vF Q5 Aa Q7 (vL 0 Q9 Aa (wm Aa (wm Aa (Nc Aa (λhr=>?_)))))))))));refine wv (r:=B9 [rS text,rS ([]:Ai),A4 1,A4 0,A4 0,rv (.map (some hr))]) (Ns Aa Aa Aa Aa Aa Aa) (BM Aa Aa (λhs=>?_));refine WL.adoptM (encw:=AJ) (xs:=hd) (y:=(B5.mk text ([]:Ai) 1 0 0 ([]:List (Ai×Bool)))) (Hr:=[.blk he [rv (.map (some ha))] 156,.map ha (Bx (mP ha) v.fSecrets)]) ((AZ (i:=0) Aa).trans (Aff _ ((AZ (i:=0) Aa).trans (Aff _ ((AZ (i:=2) Aa).trans (Aff _ (Afd _))))))) [45] ⟨Aa,trivial⟩ Aa Aa (λv24=>?_);refine Oq (enc:=(mP ha)) (xs:=v.fSecrets) (v:=(hd.length:Int)) (i:=2) Q6 C4 Aa Aa Aa Aa (H':=[.poolm ha v24 162 (A8 AJ (hd++[(B5.mk text ([]:Ai) 1 0 0 ([]:List (Ai×Bool)))])) none,.blk he [rv (.map (some ha))] 156,.map ha (Bx (mP ha) (Jo v.fSecrets name (hd.length:Int)))]) Aa (Bp (wa Aa (Ao (Ap (NH [1,1] ?_)))));obtain rfl:=Au hq;exact Aq (B2 WY (AD Aa)) (sC (sC (sC sN))) ⟨v24,Aa,Aa⟩
theorem YF (hd:Nat)(hb:Nat)(he:Value)(v:BJ)(ha:(List B5))(name:Ai)(function:Ai)(r:Int×BJ×(List B5))(h:UW v ha name function=some r):Fn Tryz.prog GE 50 [rP hd 0,rS name,rS function] [.blk hd [rv (.map (some hb))] 156,.map hb (Bx (mP hb) v.fSecrets),.poolm hb he 162 (A8 AJ ha) none] (λR H=>∃w0_p0:Value,R=A4 r.1∧H=[.blk hd [rv (.map (some hb))] 156,.map hb (Bx (mP hb) r.2.1.fSecrets),.poolm hb w0_p0 162 (A8 AJ r.2.2) none]):=by
 refine enter (n:=42) Tryz.func50 Aa Tryz.ntmps50 Aa (λw Z=>?_);unfold UW at h;refine Ad (wa Aa (Bp (wm Aa (wm Aa (ob h λr1 e3 h2=>J3 [0,0,0] Tryz.call110 (Pe hd hb he v ha name r1 e3) ?_)))));rintro _ _ ⟨rfl,rfl⟩;refine wm Aa (wv (A7 Aa Aa) (wv (A7 Aa Aa) (wa Aa (wa Aa (Ao (Ak (A6 (Ad (wm Aa (wv (CH Aa Aa) (wa Aa (Ao (cz h2 Aa (λc4 h5=>?_) (λc4 h6=>?_))))))))))))))
 ·refine Ad (wm Aa (wa Aa (Ao (Ap (A3 (Ab ?_))))));obtain rfl:=Au h5;exact Aq (B2 Yt (AD Aa)) (sC (sC (sC sN))) ⟨he,Aa,Aa⟩
 refine Ad (wm Aa (Ck (rs:=[rS function]) (r:=rB (Cv function)) Yu Aa (P6 function) Aa Aa (wv (BO Aa) (wa Aa (Ao (cz h6 Aa (λc7 h8=>?_) (λc7 h9=>?_)))))))
 ·refine Ad (wa Aa (Ao (Ap (A3 (Ab ?_)))));obtain rfl:=Au h8;exact Aq (B2 Yt (AD Aa)) (sC (sC (sC sN))) ⟨he,Aa,Aa⟩
 refine Ad (wm Aa (ck h9 λhg hi=>WL.mtakeout (encw:=AJ) (xs:=ha) (i:=r1.1) (Hr:=[.blk hd [rv (.map (some hb))] 156,.map hb (Bx (mP hb) v.fSecrets)]) ((AZ (i:=2) Aa).trans (Aff _ (Afd _))) hg [7,13,24] ⟨Aa,Aa,Aa,trivial⟩ (λhh hf=>?_)));refine UI (H':=[.blk hh [rS ((Ax ha r1.1).fText),rS ((Ax ha r1.1).fBefore),A4 ((Ax ha r1.1).fVersion),A4 ((Ax ha r1.1).fUntil),A4 ((Ax ha r1.1).fNow),rv (.map (some hf))] 162,.map hf (Bx JL ((Ax ha r1.1).fBound)),.poolm hb he 162 (A8 AJ ha) (some (Ca r1.1,(hh,hf))),.blk hd [rv (.map (some hb))] 156,.map hb (Bx (mP hb) v.fSecrets)]) Aa (wv (AS Aa) (vF NC Aa VJ (vL 0 Tryz.isAgg160 Aa (wm Aa (wv (r:=rB (Nu ((Ax ha r1.1).fBound) function false)) (Zn (enc:=JL) (xs:=(Ax ha r1.1).fBound) (z:=false) (i:=1) VI C4 yz4 TK Aa Aa Aa) (wa Aa (Ao (cz hi Aa (λhj hk=>?_) (λhj hl=>?_)))))))))
 ·refine Ad (wa Aa (Ao (Ap (A3 (Ab (WK.mputsame (encw:=AJ) (xs:=ha) (i:=r1.1) (Hr:=[.blk hd [rv (.map (some hb))] 156,.map hb (Bx (mP hb) v.fSecrets)]) (Afd _) hg [7,13,24,25] ⟨Aa,Aa,Aa,Aa,trivial⟩ Aa Aa (NH [1,1] ?_)))))));obtain rfl:=Au hk;exact Aq (B2 Yt (AD Aa)) (sC (sC (sC sN))) ⟨he,Aa,Aa⟩
 refine Ad (wm Aa (wv (AS Aa) (vF NC Aa VJ (vL 0 Tryz.isAgg160 Aa (wv (r:=A4 (((Ax ha r1.1).fBound).length:Int)) (Zm (N:=((Ax ha r1.1).fBound).length) (i:=1) VI Aa Aa (K4 _ _)) (wv (DP Aa Aa) (wa Aa (Ao (cz hl Aa (λhm hn=>?_) (λhm ho=>?_))))))))))
 ·refine Ad (wa Aa (Ao (Ap (A3 (Ab (WK.mputsame (encw:=AJ) (xs:=ha) (i:=r1.1) (Hr:=[.blk hd [rv (.map (some hb))] 156,.map hb (Bx (mP hb) v.fSecrets)]) (Afd _) hg [7,13,24,25,31,32] ⟨Aa,Aa,Aa,Aa,Aa,Aa,trivial⟩ Aa Aa (NH [1,1] ?_)))))));obtain rfl:=Au hn;exact Aq (B2 Yt (AD Aa)) (sC (sC (sC sN))) ⟨he,Aa,Aa⟩
 refine Aw (AB (AE (Ad (wm Aa (wv (AS Aa) (vF NC Aa VJ (vL 0 Tryz.isAgg160 Aa (wm Aa (Oq (enc:=JL) (xs:=(Ax ha r1.1).fBound) (v:=true) (i:=1) VI C4 Aa Aa Aa Aa (H':=[.blk hh [rS ((Ax ha r1.1).fText),rS ((Ax ha r1.1).fBefore),A4 ((Ax ha r1.1).fVersion),A4 ((Ax ha r1.1).fUntil),A4 ((Ax ha r1.1).fNow),rv (.map (some hf))] 162,.map hf (Bx JL (Jo ((Ax ha r1.1).fBound) function true)),.poolm hb he 162 (A8 AJ ha) (some (Ca r1.1,(hh,hf))),.blk hd [rv (.map (some hb))] 156,.map hb (Bx (mP hb) v.fSecrets)]) Aa (Bp (wa Aa (Ao (Ap (WK.mputback (y:=(B5.mk ((Ax ha r1.1).fText) ((Ax ha r1.1).fBefore) ((Ax ha r1.1).fVersion) ((Ax ha r1.1).fUntil) ((Ax ha r1.1).fNow) (Jo ((Ax ha r1.1).fBound) function true))) (encw:=AJ) (xs:=ha) (i:=r1.1) (Hr:=[.blk hd [rv (.map (some hb))] 156,.map hb (Bx (mP hb) v.fSecrets)]) (Afd _) hg [7,13,24,25,31,32,37,38] ⟨Aa,Aa,Aa,Aa,Aa,Aa,Aa,Aa,trivial⟩ Aa Aa (λv20=>?_)))))))))))))));refine NH [1,1] ?_;obtain rfl:=Au ho;exact Aq (B2 Yt (AD Aa)) (sC (sC (sC sN))) ⟨v20,Aa,Aa⟩
theorem YC (hd:Nat)(ha:Nat)(he:Value)(v:BJ)(hb:(List B5))(name:Ai)(function:Ai)(r:Ai×Int×Int)(h:UV v hb name function=some r):Fn Tryz.prog GE 264 [rP hd 0,rS name,rS function] [.blk hd [rv (.map (some ha))] 156,.map ha (Bx (mP ha) v.fSecrets),.poolm ha he 162 (A8 AJ hb) none] (λR H=>R=Dy [rS r.1,A4 r.2.1,A4 r.2.2]∧H=[.blk hd [rv (.map (some ha))] 156,.map ha (Bx (mP ha) v.fSecrets),.poolm ha he 162 (A8 AJ hb) none]):=by
 refine enter (n:=37) Tryz.func264 Aa Tryz.ntmps264 Aa (λw Z=>?_);unfold UV at h;refine Ad (wv (r:=rS ([]:Ai)) (A0 Aa) (wa Aa (wa Aa (Bp (wm Aa (wm Aa (ob h λr1 e3 h2=>J3 [0,0,0] Tryz.call110 (Pe hd ha he v hb name r1 e3) ?_)))))));rintro _ _ ⟨rfl,rfl⟩;refine wm Aa (wv (A7 Aa Aa) (wv (A7 Aa Aa) (wa Aa (wa Aa (Ao (Ak (A6 (Ad (wm Aa (wv (CH Aa Aa) (wa Aa (Ao (cz h2 Aa (λc4 h5=>?_) (λc4 h6=>?_))))))))))))))
 ·refine Ad (wm Aa (wv (r:=rS ([]:Ai)) (A0 Aa) (wa Aa (wa Aa (Ao (Ap (A3 (Ab ?_))))))));obtain rfl:=Au h5;exact Aq (U7 Tryz.results264 (AD Aa) (AD Aa) (AD Aa)) (sC (sC (sC sN))) ⟨Aa,Aa⟩
 refine Ad (wm Aa (ck h6 λg7 h8=>WL.mtakeout (encw:=AJ) (xs:=hb) (i:=r1.1) (Hr:=[.blk hd [rv (.map (some ha))] 156,.map ha (Bx (mP ha) v.fSecrets)]) ((AZ (i:=2) Aa).trans (Aff _ (Afd _))) g7 [9,15,22] ⟨Aa,Aa,Aa,trivial⟩ (λb9 hf=>?_)));refine UI (H':=[.blk b9 [rS ((Ax hb r1.1).fText),rS ((Ax hb r1.1).fBefore),A4 ((Ax hb r1.1).fVersion),A4 ((Ax hb r1.1).fUntil),A4 ((Ax hb r1.1).fNow),rv (.map (some hf))] 162,.map hf (Bx JL ((Ax hb r1.1).fBound)),.poolm ha he 162 (A8 AJ hb) (some (Ca r1.1,(b9,hf))),.blk hd [rv (.map (some ha))] 156,.map ha (Bx (mP ha) v.fSecrets)]) Aa (wv (AS Aa) (vF NC Aa VJ (vL 0 Tryz.isAgg160 Aa (wm Aa (wv (r:=rB (Nu ((Ax hb r1.1).fBound) function false)) (Zn (enc:=JL) (xs:=(Ax hb r1.1).fBound) (z:=false) (i:=1) VI C4 yz4 TK Aa Aa Aa) (wv (BO Aa) (wa Aa (Ao (cz h8 Aa (λhg hh=>?_) (λhg hi=>?_))))))))))
 ·refine Ad (wv (r:=rS ([]:Ai)) (A0 Aa) (wa Aa (wa Aa (Ao (Ap (A3 (Ab (WK.mputsame (encw:=AJ) (xs:=hb) (i:=r1.1) (Hr:=[.blk hd [rv (.map (some ha))] 156,.map ha (Bx (mP ha) v.fSecrets)]) (Afd _) g7 [9,15,22,23] ⟨Aa,Aa,Aa,Aa,trivial⟩ Aa Aa (NH [1,1] ?_)))))))));obtain rfl:=Au hh;exact Aq (U7 Tryz.results264 (AD Aa) (AD Aa) (AD Aa)) (sC (sC (sC sN))) ⟨Aa,Aa⟩
 refine Aw (AB (AE (Ak (Du [9] ?_))));refine rq (Am Aa) (rq (AS Aa) (rq (Az NC Aa CE Aa Aa) (rq (AT (i:=0) Dp Aa Aa Aa) (rq (Am Aa) (rq (AS Aa) (rq (Az NC Aa CK Aa Aa) (rq (AT (i:=0) Df Aa Aa Aa) (rq (A0 Aa) (rq (A0 Aa) (rq (r:=A4 0) (A0 Aa) (re [6,7,8] ?_)))))))))));refine AE (Ap (WK.mputsame (encw:=AJ) (xs:=hb) (i:=r1.1) (Hr:=[.blk hd [rv (.map (some ha))] 156,.map ha (Bx (mP ha) v.fSecrets)]) (Afd _) g7 [] trivial Aa Aa (NH [1,1] ?_)));obtain rfl:=Au hi;exact Aq (U7 Tryz.results264 (AD Aa) (AD Aa) (AD Aa)) (sC (sC (sC sN))) ⟨Aa,Aa⟩
theorem Pc (F:Nat)(he:Nat)(ha:Nat)(hh:Value)(v:BJ)(hb:(List B5))(s:Ai)(r:Ai)(h:Pd F v hb s=some r):Fn Tryz.prog GE 265 [rP he 0,rS s] [.blk he [rv (.map (some ha))] 156,.map ha (Bx (mP ha) v.fSecrets),.poolm ha hh 162 (A8 AJ hb) none] (λR H=>R=rS r∧H=[.blk he [rv (.map (some ha))] 156,.map ha (Bx (mP ha) v.fSecrets),.poolm ha hh 162 (A8 AJ hb) none]):=by
 refine enter (n:=66) Tryz.func265 Aa Tryz.ntmps265 Aa (λw Z=>?_);unfold Pd at h;refine Ad (wv (r:=rS ([]:Ai)) (A0 Aa) (Ao (Ak (A5 [(0,rP he 0),(1,rS s),(19,rB false)] [.blk he [rv (.map (some ha))] 156,.map ha (Bx (mP ha) v.fSecrets),.poolm ha hh 162 (A8 AJ hb) none] ?_ ?_))))
 ·refine Af (wm Aa (wv (r:=rB false) (Nq ⟨_,Aay⟩ Aa) (wm Aa (AL (b:=false) Aa Aa Aa (wm Aa (AL (b:=false) Aa Aa Aa (wv (AS Aa) (AL (b:=false) Aa Aa Aa (vF Q5 Aa Q7 (AL (b:=false) Aa Aa Aa (vL 0 Q9 Aa (AL (b:=false) Aa Aa Aa (wv (r:=rB false) (Zl (v:=some ha) Q6 Aa) (wv (r:=rB false) (Ay (b:=false) Aa Aa Aa) (Ah ?_)))))))))))))));exact wt
 refine CS Aa Aa (Aw (AE (Ad (BL (cs:=[rv (.pointer none),rv (.slice none 0 0)]) Tryz.zeroValue177 Aa Aa (λb1=>?_)))));refine Ao (Ak (A6 (WK.tobld (te:=5) (i:=0) Aa (ob h λhC hD hE=>Br (S:=Nat×(Ai×Ai)×(Value)) (V:=(Ai)×(Value)) 0 (λσ=>BX (λσ=>IB F v hb σ.1 σ.2) σ.1 σ.2.1=some hC) (λσ=>[(0,rP he 0),(1,rS σ.2.1.1),(5,rP b1 0)]) (λσ=>[.bld 177 5 b1 σ.2.2 σ.2.1.2,.blk he [rv (.map (some ha))] 156,.map ha (Bx (mP ha) v.fSecrets),.poolm ha hh 162 (A8 AJ hb) none]) (λσ=>σ.1) (F,(s,([]:Ai)),(.slice none 0 0)) hD (AH.c Aa (AH.c Aa (AH.c Aa AH.nil))) (sC (sC (sC (sC sN)))) (λσ=>I8 σ.1=some r) (λσ=>[(5,rP b1 0)]) (λσ=>[.bld 177 5 b1 σ.2 σ.1,.blk he [rv (.map (some ha))] 156,.map ha (Bx (mP ha) v.fSecrets),.poolm ha hh 162 (A8 AJ hb) none]) ?_ ?_))))
 ·rintro⟨gH,⟨hf,hg⟩,hi⟩ hG;refine GI ?_;obtain⟨h3,rfl,ho,hp,hx⟩:=Cc hG;replace hp:IB F v hb hf hg=some ho:=hp;unfold IB at hp;refine Ak (Ad (wm Aa (wv (M4 Aa Aa) (Ao (cz hp Aa (λhH hI=>?_) (λhH hJ=>?_))))))
  ·refine Aw (AE (A6 (Ad (wa Aa (Ao (Ak (Ad (wm Aa (wv (AS Aa) (vF Q5 Aa Q7 (vL 1 Q9 Aa (Aa5 (i:=2) Q6 Aa Aa Aa (λhj=>?_)))))))))))));refine Ao (A6 ?_);have hK:=Ac9 hI;refine Br (S:=(List (Ai×Int))×(Int)×(Unit)) (V:=(Int)×(Unit)) 2 (λσ=>∀qo:List (Ai×Int),qo.Perm σ.1→Bv (Z4 (λpe τ=>IA F hb hf pe.1 pe.2 τ) qo σ.2.1) (BT λν=>GA hf hg ν)=some ho) (λσ=>[(0,rP he 0),(1,rS hf),(5,rP b1 0),(6,A4 σ.2.1),(27,rP hj 0)]) (λσ=>[.bld 177 5 b1 hi hg,.blk he [rv (.map (some ha))] 156,.mit ha hj (Bx (mP ha) v.fSecrets) (Bx (mP ha) σ.1) none,.poolm ha hh 162 (A8 AJ hb) none]) (λσ=>σ.1.length) (v.fSecrets,0,()) hK (AH.c5 Aa Aa Aa Aa Aa AH.nil) (sC (sC (sC (sC sN)))) (λσ=>GA hf hg σ.1=some ho) (λσ=>[(0,rP he 0),(1,rS hf),(5,rP b1 0),(6,A4 σ.1),(27,rP hj 0)]) (λσ=>[.bld 177 5 b1 hi hg,.blk he [rv (.map (some ha))] 156,.map ha (Bx (mP ha) v.fSecrets),.poolm ha hh 162 (A8 AJ hb) none]) ?_ ?_
   ·rintro⟨hL,hq,⟨⟩⟩ h4;refine GI ?_;refine Ad (Ack (enc:=(mP ha)) (ys:=hL) (i:=2) Aa Aa Aa (λhy=>?_) (λp hl h5=>?_))
    ·have hN:GA hf hg hq=some ho:=Abm h4 hy;exact wv (A7 Aa Aa) (Ao (Ak (CS Aa Aa (Bn (Av (WK.unmit (i:=2) Aa (Av (AY (AC (hq,()) hN (AH.c5 Aa Aa Aa Aa Aa AH.nil) (sC (sC (sC (sC sN)))))))))))))
    obtain⟨hm,hd⟩:=p;obtain⟨hz,hr,hO⟩:=Ad9 h4 h5;replace hr:IA F hb hf hm hd hq=some hz:=hr;unfold IA at hr;refine UI (H':=[.bld 177 5 b1 hi hg,.blk he [rv (.map (some ha))] 156,.mit ha hj (Bx (mP ha) v.fSecrets) (Bx (mP ha) hl) (some (hm,(mP ha) hd)),.poolm ha hh 162 (A8 AJ hb) none]) Aa (wv (A7 Aa Aa) (Ao (Ak (D7 Aa Aa (Aw (AE (A6 (Ad (wv (r:=Dy [rS hm,rPt ha hd 0]) (Abb (i:=2) Aa Aa) (wv (A7 Aa Aa) (wa Aa (Ao (Ak (ck hr λh6 hP=>WC.mtakeout (encw:=AJ) (xs:=hb) (i:=hd) (Hr:=[.bld 177 5 b1 hi hg,.blk he [rv (.map (some ha))] 156,.mit ha hj (Bx (mP ha) v.fSecrets) (Bx (mP ha) hl) (some (hm,(mP ha) hd))]) ((AZ (i:=3) Aa).trans (Aff _ (Afd _))) h6 [8,31] ⟨Aa,Aa,trivial⟩ (λh7 h0=>?_)))))))))))))));refine AbO (l':=_) (H':=[.blk h7 [rS ((Ax hb hd).fText),rS ((Ax hb hd).fBefore),A4 ((Ax hb hd).fVersion),A4 ((Ax hb hd).fUntil),A4 ((Ax hb hd).fNow),rv (.map (some h0))] 162,.map h0 (Bx JL ((Ax hb hd).fBound)),.poolm ha hh 162 (A8 AJ hb) (some (Ca hd,(h7,h0))),.bld 177 5 b1 hi hg,.blk he [rv (.map (some ha))] 156,.mit ha hj (Bx (mP ha) v.fSecrets) (Bx (mP ha) hl) (some (hm,(mP ha) hd))]) Aa Aa (Du [0,1,5,6,8,27] ?_);refine rq (Am Aa) (rq (AS Aa) (rq (Az NC Aa CE Aa Aa) (rq (AT (i:=0) Dp Aa Aa Aa) (rq (Am Aa) (rq (AS Aa) (rq (Az NC Aa CE Aa Aa) (rq (AT (i:=0) Dp Aa Aa Aa) (GG (Gp (ys:=([(Ax hb hd).fText,(Ax hb hd).fBefore]:List Ai)) (enc:=eS) (css:=[[rS ((Ax hb hd).fText)],[rS ((Ax hb hd).fBefore)]]) (xs:=[.tmp 35,.tmp 39]) C7 CE VH Aa Aa Aa ⟨Ez.one Aa (Up.refl _),Ez.one Aa (Up.refl _),trivial⟩ Aa DS Aa Aa) (rq (Bj (ys:=([(Ax hb hd).fText,(Ax hb hd).fBefore]:List Ai)) (enc:=eS) C7 Aa) (rq (r:=A4 0) (Am Aa) (re [40,41,42,0,1,5,6,27] ?_)))))))))));refine AE (A6 (WC.mputsame (encw:=AJ) (xs:=hb) (i:=hd) (Hr:=[.bld 177 5 b1 hi hg,.blk he [rv (.map (some ha))] 156,.mit ha hj (Bx (mP ha) v.fSecrets) (Bx (mP ha) hl) (some (hm,(mP ha) hd))]) (Afd _) h6 [] trivial Aa Aa (WC.uncur (i:=3) Aa (ob hP λhQ hR hS=>Br (S:=Nat×(Int×Int)×(Unit)) (V:=(Int×Int×Bool)×(Unit)) 4 (λσ=>BX (λσ=>I9 hb hf hd σ.1 σ.2) σ.1 σ.2.1=some hQ) (λσ=>[(0,rP he 0),(1,rS hf),(5,rP b1 0),(6,A4 σ.2.1.1),(27,rP hj 0),(40,AO 1 (A8 eS ([(Ax hb hd).fText,(Ax hb hd).fBefore]:List Ai))),(41,A4 (([(Ax hb hd).fText,(Ax hb hd).fBefore]:List Ai).length:Int)),(42,A4 σ.2.1.2)]) (λσ=>[.poolm ha hh 162 (A8 AJ hb) none,.bld 177 5 b1 hi hg,.blk he [rv (.map (some ha))] 156,.mit ha hj (Bx (mP ha) v.fSecrets) (Bx (mP ha) hl) none]) (λσ=>σ.1) (F,(hq,0),()) hR (AH.c Aa (AH.c Aa (AH.c Aa (AH.c5 Aa Aa Aa Aa Aa AH.nil)))) (sC (sC (sC (sC sN)))) (λσ=>I7 σ.1.1 σ.1.2.1 σ.1.2.2=some hz) (λσ=>[(0,rP he 0),(1,rS hf),(5,rP b1 0),(6,A4 σ.1.1),(27,rP hj 0),(40,AO 1 (A8 eS ([(Ax hb hd).fText,(Ax hb hd).fBefore]:List Ai))),(41,A4 (([(Ax hb hd).fText,(Ax hb hd).fBefore]:List Ai).length:Int)),(42,A4 σ.1.2.1),(43,rB σ.1.2.2)]) (λσ=>[.poolm ha hh 162 (A8 AJ hb) none,.bld 177 5 b1 hi hg,.blk he [rv (.map (some ha))] 156,.mit ha hj (Bx (mP ha) v.fSecrets) (Bx (mP ha) hl) none]) ?_ ?_))))
    ·rintro⟨gI,⟨hn,hk⟩,⟨⟩⟩ hT;refine GI ?_;obtain⟨hU,rfl,hV,hs,h8⟩:=Cc hT;replace hs:I9 hb hf hd hn hk=some hV:=hs;unfold I9 at hs;refine Ad (wv (Ci Aa Aa) (Ao (Ak (cz hs Aa (λhW hX=>?_) (λhW hY=>?_)))))
     ·refine Aw (AE (ck hX λhZ ga=>ck ga λgb gc=>A5 [(0,rP he 0),(1,rS hf),(5,rP b1 0),(6,A4 (bif (ov (DQ hf (Ax ([(Ax hb hd).fText,(Ax hb hd).fBefore]:List Ai) hk))) then max hn ((Ax ([(Ax hb hd).fText,(Ax hb hd).fBefore]:List Ai) hk).length:Int) else hn)),(27,rP hj 0),(40,AO 1 (A8 eS ([(Ax hb hd).fText,(Ax hb hd).fBefore]:List Ai))),(41,A4 (([(Ax hb hd).fText,(Ax hb hd).fBefore]:List Ai).length:Int)),(42,A4 hk)] [.poolm ha hh 162 (A8 AJ hb) none,.bld 177 5 b1 hi hg,.blk he [rv (.map (some ha))] 156,.mit ha hj (Bx (mP ha) v.fSecrets) (Bx (mP ha) hl) none] ?_ ?_))
      ·refine A6 (Ad (wv (Bk (enc:=eS) (ys:=([(Ax hb hd).fText,(Ax hb hd).fBefore]:List Ai)) C7 CE Aa Aa hZ) (wv (Bb Dp Aa Aa) (wa Aa (Bp (wm Aa (wm Aa (BP Tryz.call176 (NW hf (Ax ([(Ax hb hd).fText,(Ax hb hd).fBefore]:List Ai) hk) (ov (DQ hf (Ax ([(Ax hb hd).fText,(Ax hb hd).fBefore]:List Ai) hk))) (Cr gb)) Aa (Ao (C1 (b:=(ov (DQ hf (Ax ([(Ax hb hd).fText,(Ax hb hd).fBefore]:List Ai) hk)))) Aa (λh1=>?_) (λh1=>?_)))))))))))
       ·refine Af (wm Aa (wm Aa (wv (B0 C4 Aa) (wv (Zo yu3 Aa Aa) (wa Aa (Ah (AB ?_)))))));exact BH h1
       refine Aw (AB ?_);exact BH h1
      refine Af (ck gc λgd gf=>wv (By Aa Aa gd) (wm Aa (Ah ?_)));have gg:=Bi gf h8;exact Ar (AC (hU,((bif (ov (DQ hf (Ax ([(Ax hb hd).fText,(Ax hb hd).fBefore]:List Ai) hk))) then max hn ((Ax ([(Ax hb hd).fText,(Ax hb hd).fBefore]:List Ai) hk).length:Int) else hn),hk+1),()) ⟨gg,AeR _⟩ (AH.c Aa (AH.c Aa (AH.c Aa (AH.c5 Aa Aa Aa Aa Aa AH.nil)))) (sC (sC (sC (sC sN)))))
     refine Bn (Av ?_);have gh:=BE hY h8 hS;exact Av (AY (AC ((hn,hk,decide (hk<(([(Ax hb hd).fText,(Ax hb hd).fBefore]:List Ai).length:Int))),()) gh (AH.c Aa (AH.c Aa (AH.c Aa (AH.c Aa (AH.c5 Aa Aa Aa Aa Aa AH.nil))))) (sC (sC (sC (sC sN))))))
    rintro⟨⟨h9,gi,gj⟩,⟨⟩⟩ ht;refine GX ?_;replace ht:I7 h9 gi gj=some hz:=ht;unfold I7 at ht;refine AW (AB (NH [1,1,1] ?_));have gl:=XJ ht hO;exact Ar (AC (hl,h9,()) ⟨gl,AaR h5⟩ (AH.c5 Aa Aa Aa Aa Aa AH.nil) (sC (sC (sC (sC sN)))))
   rintro⟨hA,⟨⟩⟩ hu;refine GX ?_;replace hu:GA hf hg hA=some ho:=hu;unfold GA at hu;refine AW (AE (Ak (Ad (wm Aa (wv (B7 Aa Aa) (Ao (cz hu Aa (λgm gp=>?_) (λgm gq=>?_))))))))
   ·refine Ad (wm Aa (ck gp λgr gs=>wv (B3 C4 Aa Aa gr) (ck gs λgu gv=>ck gv λgw gx=>Cf (rs:=[rP b1 0,rI .u8 (BK hf 0)]) (Hin:=[.bld 177 5 b1 hi hg]) (Hr:=[.blk he [rv (.map (some ha))] 156,.map ha (Bx (mP ha) v.fSecrets),.poolm ha hh 162 (A8 AJ hb) none]) IT Aa (Afd _) (CF b1 hi hg (BK hf 0) gu gw) Aa ?_)));rintro _ _ ⟨gy,rfl,rfl⟩;refine bd gx λgz g0 g1=>?_;rw[← g0];refine Bp (wm Aa (ck g1 λg2 g3=>wv (DG C4 Aa Aa g2) (wa Aa (Ao (Bn (Av (AW ?_)))))));have g4:=Bi g3 hx;exact Ar (AC (h3,(List.drop (Ca 1) hf,gz),gy) ⟨g4,AeR _⟩ (AH.c Aa (AH.c Aa (AH.c Aa AH.nil))) (sC (sC (sC (sC sN)))))
   refine Aw (AE (Ad (ck gq λg5 g6=>Cf (rs:=[rP b1 0,rS ([42,42,42]:Ai)]) (Hin:=[.bld 177 5 b1 hi hg]) (Hr:=[.blk he [rv (.map (some ha))] 156,.map ha (Bx (mP ha) v.fSecrets),.poolm ha hh 162 (A8 AJ hb) none]) Tryz.call162 Aa (Afd _) (Hv b1 hi hg ([42,42,42]:Ai) g5) Aa ?_)));rintro _ _ ⟨g7,rfl,rfl⟩;refine bd g6 λg8 g9 gA=>?_;rw[← g9];refine Ao (Af (wm Aa (wm Aa (ck gA λgB gC=>wv (DG C4 Aa Aa gB) (wa Aa (Ah (AB ?_)))))));have gD:=Bi gC hx;exact Ar (AC (h3,(List.drop (Ca hA) hf,g8),g7) ⟨gD,AeR _⟩ (AH.c Aa (AH.c Aa (AH.c Aa AH.nil))) (sC (sC (sC (sC sN)))))
  refine Bn (Av ?_);have gE:=BE hJ hx hE;exact Av (AY (AC (hg,hi) gE (AH.c Aa AH.nil) (sC (sC (sC (sC sN))))))
 rintro⟨h2,hB⟩ hw;refine GX ?_;replace hw:I8 h2=some r:=hw;unfold I8 at hw;refine AW (AE (Ad (ck hw λgF gG=>Cf (rs:=[rP b1 0]) (Hin:=[.bld 177 5 b1 hB h2]) (Hr:=[.blk he [rv (.map (some ha))] 156,.map ha (Bx (mP ha) v.fSecrets),.poolm ha hh 162 (A8 AJ hb) none]) Tryz.call120 Aa (Afd _) (Rr b1 hB h2  gF) Aa ?_)));rintro _ _ ⟨rfl,rfl⟩;refine wa Aa (Ao (Ap ?_));obtain rfl:=Au gG;exact Aq (B2 Tryz.results265 (AD Aa)) (sC (sC (sC sN))) ⟨Aa,Aa⟩
end Go.Proofs.YtmjlemhondjfhaaGreatDoor.Q
namespace Go.Proofs.YtmjlemhondjfhaaGreatDoor
open Go
set_option linter.unusedVariables false
structure Bo where
 fKind:Int
 fKey:Ai
 fValue:(List Ac)
 fDelay:Int
 deriving DecidableEq,Inhabited
structure Em where
 fErr:Int
 fValue:(List Ac)
 deriving DecidableEq,Inhabited
def Lu (v:(List Ac)):Option (Ai×Bool):=
 AX (Ch 0 (v.length:Int))<|some ((Ax v 0).fStr,decide (((Ax v 0).fKind)=4))
def ZK (v:(List Ac)):Option (Bool):=
 Bv (Lu v) λr1=>some (r1.2&&(Jq r1.1))
def Uf (v:(List Ac)):Option (Bool):=
 Bv (Lu v) λr1=>some (r1.2&&(Cv r1.1))
def GR (n:Int):Option (Bool):=
 some ((decide (0≤n))&&(decide (n≤1073741824)))
def PK (v:(List Ac)):Option (Bool):=
 AX (Ch 0 (v.length:Int))<|AX (imp (decide (((Ax v 0).fKind)=3)) ((GR ((Ax v 0).fInt)).isSome))<|some ((decide (((Ax v 0).fKind)=3))&&(ov (GR ((Ax v 0).fInt))))
def Iy (v:(List Ac)):Option (Bool):=
 AX (imp (decide (1<(v.length:Int))) (Ch 0 (v.length:Int)))<|AX (imp (decide (1<(v.length:Int))) (imp (decide (((Ax v 0).fKind)=5)) (Ch 1 (v.length:Int))))<|some ((decide (1<(v.length:Int)))&&((decide (((Ax v 0).fKind)=5))&&(decide (((Ax v 1).fKind)=4))))
def Gg (F:Nat)(v:(List Ac)):Option (Int×Int×Bool):=
 Bv (Lu v) λr1=>Bv (YI r1.1) λr4=>Bv (Jm F r4.1) λr7=>AX (Eh 1 r4.2.1.length)<|some (r7.1,B6 r4.2.1,(r1.2&&(r4.2.2&&((decide (r7.2=0))&&((decide ((Cq r4.2.1)=0))&&((decide (1≤(B6 r4.2.1)))&&(decide ((B6 r4.2.1)≤65535))))))))
def Ix (F:Nat)(v:(List Ac)):Option (Bool):=
 Bv (Gg F v) λr1=>some r1.2.2
def Uh (F:Nat)(k:Nat)(a0:(List Ac)):Option (Bool):=
 Bz (decide (k=88)) (ZK a0) (Bz (decide (k=89)) (Uf a0) (Bz (decide (k=90)) (PK a0) (Bz (decide (k=91)) (Iy a0) (Bz (decide (k=92)) (Ix F a0) (none)))))
def Hi (s:(List Nat)):Option (Int):=
 some (s.length:Int)
def Hh (F:Nat)(s:(List Nat))(l:(List (List Ac)))(ha:Int):Option (Stp (Int) (Out (Bool) (Unit))):=
 Bz (decide (ha<(s.length:Int))) (AX (Ch ha (s.length:Int))<|AX (imp (!decide ((Ax s ha)=0)) (Ch ha (l.length:Int)))<|AX (imp (!decide ((Ax s ha)=0)) ((Uh F (Ax s ha) (Ax l ha)).isSome))<|Bz (((!decide ((Ax s ha)=0))&&(!(ov (Uh F (Ax s ha) (Ax l ha)))))) (some (.out (.ret false))) (AX (BG .i64 (ha+1))<|some (.next (ha+1)))) (some (.out (.go ())))
def Jv :Option (Bool):=
 some true
def KD (F:Nat)(s:(List Nat))(l:(List (List Ac))):Option (Bool):=
 Bv (BX (λσ=>Hh F s l σ) F 0) (BT λν=>Jv )
def Ju (op:Ai):Option ((Option (List Nat))×Bool):=
 Bz (decide (op=([103,101,116]:Ai))) (some (some ([88]:List Nat),true)) (Bz (decide (op=([100,101,108,101,116,101]:Ai))) (some (some ([88]:List Nat),true)) (Bz (decide (op=([112,117,116]:Ai))) (some (some ([88,0]:List Nat),true)) (Bz (decide (op=([115,101,110,100]:Ai))) (some (some ([89,0]:List Nat),true)) (Bz (decide (op=([116,105,109,101,114]:Ai))) (some (some ([89,90,0]:List Nat),true)) (Bz (decide (op=([115,105,103,110,97,108]:Ai))) (some (some ([88,91]:List Nat),true)) (Bz (decide (op=([115,101,99,114,101,116]:Ai))) (some (some ([89]:List Nat),true)) (Bz (decide (op=([102,101,116,99,104]:Ai))) (some (some ([92,0]:List Nat),true)) (Bz (decide (op=([110,111,119]:Ai))) (some (some ([]:List Nat),false)) (Bz (decide (op=([108,111,103]:Ai))) (some (some ([0]:List Nat),false)) (some (none,false)))))))))))
def Hj (a:AV)(ha:Int):Option (Stp (Int) (Out (Int) (Unit))):=
 Bz (decide (ha<(a.fNet.length:Int))) (AX (Ch ha (a.fNet.length:Int))<|Bv (DA (Ax a.fNet ha)) λhb=>Bz (!decide (hb=0)) (some (.out (.ret hb))) (AX (BG .i64 (ha+1))<|some (.next (ha+1)))) (some (.out (.go ())))
def G3 (a:AV):Option (Int):=
 Bv (GR a.fNow) λha=>Bz (!ha) (some 2) (some 0)
def Hk (F:Nat)(a:AV)(ha:Int):Option (Stp (Int) (Out (Int) (Unit))):=
 Bz (decide (ha<(a.fPolicy.length:Int))) (AX (Ch ha (a.fPolicy.length:Int))<|Bv (Gw F (Ax a.fPolicy ha)) λhb=>Bz (!decide (hb=0)) (some (.out (.ret hb))) (AX (BG .i64 (ha+1))<|some (.next (ha+1)))) (some (.out (.go ())))
def G4 (F:Nat)(a:AV):Option (Int):=
 Bv (BX (λσ=>Hj a σ) F 0) (BT λν=>G3 a )
def Hl (a:AV)(ha:Int):Option (Stp (Int) (Out (Int) (Unit))):=
 Bz (decide (ha<(a.fOps.length:Int))) (AX (imp (decide (0<ha)) (Ch ha (a.fOps.length:Int)))<|AX (imp (decide (0<ha)) (BG .i64 (ha-1)))<|AX (imp (decide (0<ha)) (Ch (ha-1) (a.fOps.length:Int)))<|Bz (((decide (0<ha))&&(DX (Ax a.fOps ha) (Ax a.fOps (ha-1))||decide ((Ax a.fOps ha)=(Ax a.fOps (ha-1)))))) (some (.out (.ret 11))) (AX (BG .i64 (ha+1))<|some (.next (ha+1)))) (some (.out (.go ())))
def G5 (F:Nat)(a:AV):Option (Int):=
 Bz (((decide (32<(a.fPolicy.length:Int)))||(decide (32<(a.fNet.length:Int))))) (some 3) (Bv (BX (λσ=>Hk F a σ) F 0) (BT λν=>G4 F a ))
def Hm (a:AV)(ha:Int):Option (Stp (Int) (Out (Int) (Unit))):=
 Bz (decide (ha<(a.fOps.length:Int))) (AX (Ch ha (a.fOps.length:Int))<|Bv (Ju (Ax a.fOps ha)) λhb=>Bz (Option.isNone hb.1) (some (.out (.ret 4))) (AX (BG .i64 (ha+1))<|some (.next (ha+1)))) (some (.out (.go ())))
def G6 (F:Nat)(a:AV):Option (Int):=
 Bv (BX (λσ=>Hl a σ) F 0) (BT λν=>G5 F a )
def JN (F:Nat)(a:AV):Option (Int):=
 Bz (((!(Cv a.fTenant))||(!(Cv a.fFunction)))) (some 4) (Bv (BX (λσ=>Hm a σ) F 0) (BT λν=>G6 F a ))
def Dm (tenant:Ai)(op:Ai)(name:Ai):Option (Ai):=
 AX (BG .i64 ((tenant.length:Int)+(([47]:Ai).length:Int)))<|AX (BG .i64 (((tenant++([47]:Ai)).length:Int)+(op.length:Int)))<|AX (BG .i64 ((((tenant++([47]:Ai))++op).length:Int)+(([47]:Ai).length:Int)))<|AX (BG .i64 (((((tenant++([47]:Ai))++op)++([47]:Ai)).length:Int)+(name.length:Int)))<|some ((((tenant++([47]:Ai))++op)++([47]:Ai))++name)
def Lk (F:Nat)(v:(List Ac)):Option (Bool):=
 Bv (J7 F v) λr1=>some (!decide (r1=0))
def Iu (F:Nat)(ys:(List (List Ac)))(ha:Int):Option (Stp (Int) (Out (Int) (Unit))):=
 Bz (decide (ha<(ys.length:Int))) (AX (Ch ha (ys.length:Int))<|Bv (Lk F (Ax ys ha)) λhb=>Bz (hb) (some (.out (.ret ha))) (AX (BG .i64 (ha+1))<|some (.next (ha+1)))) (some (.out (.go ())))
def KA :Option (Int):=
 some (-1)
def Wy (F:Nat)(ys:(List (List Ac))):Option (Int):=
 Bv (BX (λσ=>Iu F ys σ) F 0) (BT λν=>KA )
def HF (F:Nat)(ys:(List (List Ac))):Option (Bool):=
 Bv (Wy F ys) λr1=>some (decide (0≤r1))
def E8 (ys:(List Ai))(x:Ai)(ha:Int):Option (Stp (Int) (Out (Int) (Unit))):=
 Bz (decide (ha<(ys.length:Int))) (AX (Ch ha (ys.length:Int))<|Bz (decide (x=(Ax ys ha))) (some (.out (.ret ha))) (AX (BG .i64 (ha+1))<|some (.next (ha+1)))) (some (.out (.go ())))
def H3 :Option (Int):=
 some (-1)
def Mm (F:Nat)(ys:(List Ai))(x:Ai):Option (Int):=
 Bv (BX (λσ=>E8 ys x σ) F 0) (BT λν=>H3 )
def Mn (F:Nat)(ys:(List Ai))(x:Ai):Option (Bool):=
 Bv (Mm F ys x) λr1=>some (decide (0≤r1))
def CI (F:Nat)(a:AV)(q:AQ):Option (Int):=
 Bv (JN F a) λr3=>Bz (!decide (r3=0)) (some r3) (Bv (Ju q.fOp) λr9=>Bz (Option.isNone r9.1) (some 4) (Bv (Mn F a.fOps q.fOp) λhd=>Bz (!hd) (some 12) (AX (Option.isSome r9.1)<|AX ((Hi (Option.getD r9.1 ([]:(List Nat)))).isSome)<|AX (imp (!(!decide ((q.fArgs.length:Int)=(ov (Hi (Option.getD r9.1 ([]:(List Nat)))))))) ((HF F q.fArgs).isSome))<|AX (imp (!(!decide ((q.fArgs.length:Int)=(ov (Hi (Option.getD r9.1 ([]:(List Nat)))))))) (imp (!(ov (HF F q.fArgs))) ((KD F (Option.getD r9.1 ([]:(List Nat))) q.fArgs).isSome)))<|Bz (((!decide ((q.fArgs.length:Int)=(ov (Hi (Option.getD r9.1 ([]:(List Nat)))))))||((ov (HF F q.fArgs))||(!(ov (KD F (Option.getD r9.1 ([]:(List Nat))) q.fArgs)))))) (some 7) (Bz (r9.2) (AX (Ch 0 (q.fArgs.length:Int))<|Bv (Lu (Ax q.fArgs 0)) λhe=>Bv (Dm a.fTenant q.fOp he.1) λhf=>Bv (Kw F a.fPolicy q.fOp hf) λhg=>Bz (!hg.fAllowed) (some 12) (Bz (decide (q.fOp=([102,101,116,99,104]:Ai))) (Bv (Gg F (Ax q.fArgs 0)) λha=>Bv (H8 F a.fNet ha.1 ha.2.1) λhh=>Bz (!hh.fAllowed) (some 12) (some 0)) (some 0))) (Bz (decide (q.fOp=([102,101,116,99,104]:Ai))) (AX (Ch 0 (q.fArgs.length:Int))<|Bv (Gg F (Ax q.fArgs 0)) λhb=>Bv (H8 F a.fNet hb.1 hb.2.1) λhi=>Bz (!hi.fAllowed) (some 12) (some 0)) (some 0))))))
def So (q:AQ):Option (Bo×Bool):=
 Bz (decide (q.fOp=([112,117,116]:Ai))) (AX (Ch 1 (q.fArgs.length:Int))<|AX (Ch 0 (q.fArgs.length:Int))<|Bv (Lu (Ax q.fArgs 0)) λha=>Bv (Hq (Ax q.fArgs 1)) λhb=>some ((Bo.mk 1 ha.1 hb 0),true)) (Bz (decide (q.fOp=([100,101,108,101,116,101]:Ai))) (AX (Ch 0 (q.fArgs.length:Int))<|Bv (Lu (Ax q.fArgs 0)) λhd=>Bv (Hq ([]:List Ac)) λhe=>some ((Bo.mk 2 hd.1 he 0),true)) (Bz (decide (q.fOp=([115,101,110,100]:Ai))) (AX (Ch 1 (q.fArgs.length:Int))<|AX (Ch 0 (q.fArgs.length:Int))<|Bv (Lu (Ax q.fArgs 0)) λhf=>Bv (Hq (Ax q.fArgs 1)) λhg=>some ((Bo.mk 3 hf.1 hg 0),true)) (Bz (decide (q.fOp=([116,105,109,101,114]:Ai))) (AX (Ch 2 (q.fArgs.length:Int))<|AX (Ch 1 (q.fArgs.length:Int))<|AX (Ch 0 ((Ax q.fArgs 1).length:Int))<|AX (Ch 0 (q.fArgs.length:Int))<|Bv (Lu (Ax q.fArgs 0)) λhh=>Bv (Hq (Ax q.fArgs 2)) λhi=>some ((Bo.mk 4 hh.1 hi ((Ax (Ax q.fArgs 1) 0).fInt)),true)) (Bz (decide (q.fOp=([115,105,103,110,97,108]:Ai))) (AX (Ch 1 (q.fArgs.length:Int))<|AX (Ch 0 (q.fArgs.length:Int))<|Bv (Lu (Ax q.fArgs 0)) λhj=>Bv (Hq (Ax q.fArgs 1)) λhk=>some ((Bo.mk 5 hj.1 hk 0),true)) (some ((Bo.mk 0 ([]:Ai) ([]:List Ac) 0),false))))))
def Gf (v:(List Ac))(e:Int):Option (Em):=
 Bz (!decide (e=0)) (some (Em.mk e ([]:List Ac))) (some (Em.mk 0 v))
def Lj (F:Nat)(l:(List BS))(ha:Int):Option (Stp (Int) (Out (Int) (Unit))):=
 Bz (decide (ha<(l.length:Int))) (AX (Ch ha (l.length:Int))<|Bz (!(Jq ((Ax l ha).fKey))) (some (.out (.ret 4))) (Bv (J7 F ((Ax l ha).fValue)) λhb=>Bz (!decide (hb=0)) (some (.out (.ret hb))) (Bz (decide (((Ax l ha).fVersion)<1)) (some (.out (.ret 2))) (AX (imp (decide (0<ha)) (BG .i64 (ha-1)))<|AX (imp (decide (0<ha)) (Ch (ha-1) (l.length:Int)))<|Bz (((decide (0<ha))&&(DX ((Ax l ha).fKey) ((Ax l (ha-1)).fKey)||decide (((Ax l ha).fKey)=((Ax l (ha-1)).fKey))))) (some (.out (.ret 11))) (AX (BG .i64 (ha+1))<|some (.next (ha+1))))))) (some (.out (.go ())))
def Li :Option (Int):=
 some 0
def Sn (F:Nat)(l:(List BS)):Option (Int):=
 Bz (decide (256<(l.length:Int))) (some 3) (Bv (BX (λσ=>Lj F l σ) F 0) (BT λν=>Li ))
end Go.Proofs.YtmjlemhondjfhaaGreatDoor
