/-
  Texts of the proof, put together: WKa, PKb, WKb, PKc, WKc, PH, PFr, QH, QY, QJ, QX, WFr, PKd, WKd, PKe.
-/
import Derived.Test.YtjfnokmpfekniaaGreatDoorKR3
import GoSem.Op.IntBits
import GoSem.Op.Shift
import Derived.ScopeJumps
import Derived.Laws.CopyRow
import Derived.Laws.IdiomCopy
import Derived.Laws.OwnMore
namespace Go.Proofs.YtjfnokmpfekniaaGreatDoor.Q
open Go Go.RowKit
set_option linter.unusedVariables false
set_option linter.unusedSimpArgs false
set_option maxRecDepth 100000
set_option maxHeartbeats 4000000
@[reducible] def Ad (x:Ah):List Rp:=[rS x.fKey,rB x.fDelete,AV 4 (List.map Ab x.fValue),rI .i64 x.fIfVersion]
theorem Cl (x:Ah):(Ad x).length=4:=rfl
theorem J3 (x:Ah):(Ad x).all (·.one)=true:=rfl
@[reducible] def BJ (x:AE):List Rp:=[rS x.fKey,AV 4 (List.map Ab x.fValue),rI .i64 x.fVersion]
@[reducible] def Ax (x:AE):Rp:=B9 (BJ x)
theorem Jp (Z:Fz):(Ax (AE.mk ([]:Ag) ([]:(List Aa)) 0)).p Z (.agg #[(.string ⟨#[]⟩),(.slice none 0 0),(.int .i64 0)]):=⟨[.string ⟨#[]⟩,.slice none 0 0,.int .i64 0],rfl,rfl,TD.nil _ _,rfl,trivial⟩
theorem U9 (parts:List (Nat×Value)):Tryz.prog.built 35 parts=Instr.fill (λi=>(#[(0,1),(1,1),(2,1)]:Array (Nat×Nat))[i]?) #[(.string ⟨#[]⟩),((.slice none 0 0)),(.int .i64 0)] parts:=by kernel_rfl
theorem Li {n:Nat} {c:Cx} {l:Fr} {H:List Ent} {d:Option Nat} {ty:TypeId} {pos:String} {af:Array Edge} {g:Option (Nat×Bool)}:Bq Tryz.prog n c l H { dst:=d,op:=.build 35 #[],type:=ty,pos:=pos,after:=af,guard:=g } (B9 [rS ([]:Ag),rv (.slice none 0 0),rI .i64 0]):=λa w Z ha _=>by
  have hb:Tryz.prog.built 35 []=some #[(.string ⟨#[]⟩),((.slice none 0 0)),(.int .i64 0)]:=by
    rw[U9]
    simp[Instr.fill,Value.cells]
  refine⟨.agg #[(.string ⟨#[]⟩),((.slice none 0 0)),(.int .i64 0)],⟨[(.string ⟨#[]⟩),((.slice none 0 0)),(.int .i64 0)],rfl,rfl,rfl,rfl,trivial⟩,?_⟩
  have:=run_build w 35 #[] _ (by simpa using hb)
  simp[execOp,this]
theorem N5 {n:Nat} {c:Cx} {l:Fr} {H:List Ent} {d:Option Nat} {ty:TypeId} {pos:String} {af:Array Edge} {g:Option (Nat×Bool)} {x0:Operand} {r0:Rp} (h0:ev l x0=some r0) (u0:r0.one=true) {x1:Operand} {r1:Rp} (h1:ev l x1=some r1) (u1:r1.one=true) {x2:Operand} {r2:Rp} (h2:ev l x2=some r2) (u2:r2.one=true):Bq Tryz.prog n c l H { dst:=d,op:=.build 35 #[(0,x0),(1,x1),(2,x2)],type:=ty,pos:=pos,after:=af,guard:=g } (B9 [r0,r1,r2]):=λa w Z ha _=>by
  have p0:=ha.ev h0
  have c0:=BR (r0.hone u0 Z _ p0)
  have p1:=ha.ev h1
  have c1:=BR (r1.hone u1 Z _ p1)
  have p2:=ha.ev h2
  have c2:=BR (r2.hone u2 Z _ p2)
  have hb:Tryz.prog.built 35 [(0,a.eval x0),(1,a.eval x1),(2,a.eval x2)]=some #[a.eval x0,a.eval x1,a.eval x2]:=by
    rw[U9]
    generalize a.eval x0=v0 at *
    generalize a.eval x1=v1 at *
    generalize a.eval x2=v2 at *
    simp[Instr.fill,c0,c1,c2]
  refine⟨.agg #[a.eval x0,a.eval x1,a.eval x2],⟨[a.eval x0,a.eval x1,a.eval x2],rfl,p0,p1,p2,trivial⟩,?_⟩
  have:=run_build w 35 #[(0,a.eval x0),(1,a.eval x1),(2,a.eval x2)] _ (by simpa using hb)
  simp[execOp,this]
theorem Aaj (parts:List (Nat×Value)):Tryz.prog.built 59 parts=Instr.fill (λi=>(#[(0,1),(1,1)]:Array (Nat×Nat))[i]?) #[((.map none)),((.map none))] parts:=by kernel_rfl
theorem Pz {n:Nat} {c:Cx} {l:Fr} {H:List Ent} {d:Option Nat} {ty:TypeId} {pos:String} {af:Array Edge} {g:Option (Nat×Bool)} {x0:Operand} {r0:Rp} (h0:ev l x0=some r0) (u0:r0.one=true) {x1:Operand} {r1:Rp} (h1:ev l x1=some r1) (u1:r1.one=true):Bq Tryz.prog n c l H { dst:=d,op:=.build 59 #[(0,x0),(1,x1)],type:=ty,pos:=pos,after:=af,guard:=g } (B9 [r0,r1]):=λa w Z ha _=>by
  have p0:=ha.ev h0
  have c0:=BR (r0.hone u0 Z _ p0)
  have p1:=ha.ev h1
  have c1:=BR (r1.hone u1 Z _ p1)
  have hb:Tryz.prog.built 59 [(0,a.eval x0),(1,a.eval x1)]=some #[a.eval x0,a.eval x1]:=by
    rw[Aaj]
    generalize a.eval x0=v0 at *
    generalize a.eval x1=v1 at *
    simp[Instr.fill,c0,c1]
  refine⟨.agg #[a.eval x0,a.eval x1],⟨[a.eval x0,a.eval x1],rfl,p0,p1,trivial⟩,?_⟩
  have:=run_build w 59 #[(0,a.eval x0),(1,a.eval x1)] _ (by simpa using hb)
  simp[execOp,this]
theorem SJ (ys:(List Aa)) (r:(List Aa)) (h:QX ys=some r):Fn Tryz.prog GE 59 [AV 4 (List.map Ab ys)] [] (λR H=>R=AV 4 (List.map Ab r)∧H=[]):=by
 refine enter (n:=8) Tryz.func59 rfl Tryz.ntmps59 rfl (λw Z=>?_)
 unfold QX at h
 refine Ae (wa rfl (Ak (Ai (Ae (wm rfl (wv (Vx BP rfl) (Ak (Wy rfl (λc1=>?_) (λc1=>?_)))))))))
 ·have e2:ys=[]:=List.map_eq_nil_iff.1 (c1 rfl)
  have h3:some ([]:List Aa)=some r:=by rw[e2] at h;exact(YC h).2
  refine Ae (wa rfl (Ak (Aq (Ac (WK.up (d:=2) (r:=AV 4 (List.map Ab ([]:List Aa))) rfl (Up.le (E1.nil _)) ?_)))))
  obtain rfl:=As h3
  exact Ap (BW Tryz.results59 (A4 rfl)) sN ⟨rfl,rfl⟩
 ·refine An (AF (Ae (AQ (ys:=([]:List Aa)) (enc:=Ab) (css:=[]) (xs:=[]) BP Ch EH rfl rfl rfl trivial rfl AR rfl rfl rfl (λb4=>?_))))
  refine wm rfl (ck h λg6 h7=>Exists.elim Ez λinf hinf=>BG (xs:=([]:List Aa)) (ys:=ys) (enc:=Ab) (i:=0) BP hinf.1 hinf.2.1 hinf.2.2.1 hinf.2.2.2 rfl rfl rfl rfl rfl (Ja.z rfl rfl) AR BH g6 rfl (λv5=>?_))
  refine wa rfl (Ak (Aq (WK.freeze (i:=0) rfl (WK.up (d:=2) (r:=AV 4 (List.map Ab (([]:List Aa)++ys))) rfl (Up.fact (i:=0) rfl) ?_))))
  obtain rfl:=As h7
  exact Ap (BW Tryz.results59 (A4 rfl)) (sS sN) ⟨rfl,rfl⟩
theorem VL (c:Int) (r:Bool) (h:QQ c=some r):Fn Tryz.prog GE 107 [rI .u8 c] [] (λR H=>R=rB r∧H=[]):=by
 refine enter (n:=9) Tryz.func107 rfl Tryz.ntmps107 rfl (λw Z=>?_)
 unfold QQ at h
 refine Ae (wa rfl (Ak (A6 [(2,rB ((decide (97≤c))&&(decide (c≤122))))] [] ?_ ?_)))
 ·refine Af (wm rfl (wv (G0 rfl rfl) (wm rfl (AI (decide (97≤c)) (λc1=>?_) (λc1=>?_)))))
  ·refine wo c1 (wm rfl (wo c1 (wv (KG rfl rfl) (EF rfl c1 rfl (wa rfl (Aj ?_))))))
   exact BM c1
  ·refine wf c1 (wf c1 (wv (r:=rB false) (A7 rfl c1 rfl) (wa rfl (Aj ?_))))
   exact BM c1
 refine Aq ?_
 obtain rfl:=As h
 exact Ap (BW Tryz.results107 (A4 rfl)) sN ⟨rfl,rfl⟩
theorem Qf (c:Int) (r:Bool) (h:NV c=some r):Fn Tryz.prog GE 108 [rI .u8 c] [] (λR H=>R=rB r∧H=[]):=by
 refine enter (n:=9) Tryz.func108 rfl Tryz.ntmps108 rfl (λw Z=>?_)
 unfold NV at h
 refine Ae (wa rfl (Ak (A6 [(2,rB ((decide (48≤c))&&(decide (c≤57))))] [] ?_ ?_)))
 ·refine Af (wm rfl (wv (G0 rfl rfl) (wm rfl (AI (decide (48≤c)) (λc1=>?_) (λc1=>?_)))))
  ·refine wo c1 (wm rfl (wo c1 (wv (KG rfl rfl) (EF rfl c1 rfl (wa rfl (Aj ?_))))))
   exact BM c1
  ·refine wf c1 (wf c1 (wv (r:=rB false) (A7 rfl c1 rfl) (wa rfl (Aj ?_))))
   exact BM c1
 refine Aq ?_
 obtain rfl:=As h
 exact Ap (BW Tryz.results108 (A4 rfl)) sN ⟨rfl,rfl⟩
theorem Ya (c:Int) (r:Bool) (h:QR c=some r):Fn Tryz.prog GE 81 [rI .u8 c] [] (λR H=>R=rB r∧H=[]):=by
 refine enter (n:=37) Tryz.func81 rfl Tryz.ntmps81 rfl (λw Z=>?_)
 unfold QR at h
 refine Ae (wa rfl (Ak (DS (S:=(Bool)×(Unit)) (λσ=>C0 σ.1=some r) (λσ=>[(2,rB σ.1)]) (λσ=>[]) ?_ ?_)))
 ·refine Af (wm rfl (ob h λhp hq hr=>Cg Tryz.call107 (VL c hp hq) rfl (wm rfl (bz hr (λc53 hs=>?_) (λc53 ht=>?_)))))
  ·refine wf c53 (wf c53 (wf c53 (wu (wu (wf c53 (wv (r:=rB true) (Au rfl c53 rfl) (wm rfl (wz rfl rfl (wz rfl rfl (wv (r:=rB true) (Au (b:=true) rfl rfl rfl) (wm rfl (wz rfl rfl (wz rfl rfl (wv (r:=rB true) (Au (b:=true) rfl rfl rfl) (wm rfl (wz rfl rfl (wz rfl rfl (wv (r:=rB true) (Au (b:=true) rfl rfl rfl) (wm rfl (wz rfl rfl (wz rfl rfl (wv (r:=rB true) (Au (b:=true) rfl rfl rfl) (wm rfl ?_)))))))))))))))))))))))
   exact wz rfl rfl (wz rfl rfl (wv (r:=rB true) (Au (b:=true) rfl rfl rfl) (wm rfl (wz rfl rfl (wz rfl rfl (wv (r:=rB true) (Au (b:=true) rfl rfl rfl) (wa rfl (Aj (Ar (A3 (true,()) hs (AC.c rfl AC.nil) sN))))))))))
  ·refine wo c53 (wm rfl (wo c53 (wv (G0 rfl rfl) (wo c53 (wm rfl (bz ht (λha hu=>?_) (λha hw=>?_)))))))
   ·refine wo ha (wm rfl (wo ha (wv (KG rfl rfl) (wo c53 (EF rfl ha rfl (DR rfl c53 rfl (wm rfl (bz hu (λhb hx=>?_) (λhb hy=>?_)))))))))
    ·refine wf hb (wf hb (wv (r:=rB true) (Au rfl hb rfl) (wm rfl (wz rfl rfl (wz rfl rfl (wv (r:=rB true) (Au (b:=true) rfl rfl rfl) (wm rfl (wz rfl rfl (wz rfl rfl (wv (r:=rB true) (Au (b:=true) rfl rfl rfl) (wm rfl (wz rfl rfl (wz rfl rfl (wv (r:=rB true) (Au (b:=true) rfl rfl rfl) (wm rfl (wz rfl rfl (wz rfl rfl (wv (r:=rB true) (Au (b:=true) rfl rfl rfl) (wm rfl (wz rfl rfl (wz rfl rfl (wv (r:=rB true) (Au (b:=true) rfl rfl rfl) (wa rfl ?_)))))))))))))))))))))))
     exact Aj (Ar (A3 (true,()) hx (AC.c rfl AC.nil) sN))
    ·refine wo hb (wm rfl (wo hb (ob hy λhz h0 h1=>Cg Tryz.call108 (Qf c hz h0) rfl (DR rfl hb rfl (wm rfl (bz h1 (λhd h2=>?_) (λhd h3=>?_)))))))
     ·exact wf hd (wf hd (wv (r:=rB true) (Au rfl hd rfl) (wm rfl (wz rfl rfl (wz rfl rfl (wv (r:=rB true) (Au (b:=true) rfl rfl rfl) (wm rfl (wz rfl rfl (wz rfl rfl (wv (r:=rB true) (Au (b:=true) rfl rfl rfl) (wm rfl (wz rfl rfl (wz rfl rfl (wv (r:=rB true) (Au (b:=true) rfl rfl rfl) (wm rfl (wz rfl rfl (wz rfl rfl (wv (r:=rB true) (Au (b:=true) rfl rfl rfl) (wa rfl (Aj (Ar (A3 (true,()) h2 (AC.c rfl AC.nil) sN))))))))))))))))))))))
     ·refine wo hd (wm rfl (wo hd (wv (Bx rfl rfl) (DR rfl hd rfl (wm rfl (bz h3 (λhe h4=>?_) (λhe h5=>?_)))))))
      ·exact wf he (wf he (wv (r:=rB true) (Au rfl he rfl) (wm rfl (wz rfl rfl (wz rfl rfl (wv (r:=rB true) (Au (b:=true) rfl rfl rfl) (wm rfl (wz rfl rfl (wz rfl rfl (wv (r:=rB true) (Au (b:=true) rfl rfl rfl) (wm rfl (wz rfl rfl (wz rfl rfl (wv (r:=rB true) (Au (b:=true) rfl rfl rfl) (wa rfl (Aj (Ar (A3 (true,()) h4 (AC.c rfl AC.nil) sN))))))))))))))))))
      ·refine wo he (wm rfl (wo he (wv (Bx rfl rfl) (DR rfl he rfl (wm rfl (bz h5 (λhf h6=>?_) (λhf h7=>?_)))))))
       ·exact wf hf (wf hf (wv (r:=rB true) (Au rfl hf rfl) (wm rfl (wz rfl rfl (wz rfl rfl (wv (r:=rB true) (Au (b:=true) rfl rfl rfl) (wm rfl (wz rfl rfl (wz rfl rfl (wv (r:=rB true) (Au (b:=true) rfl rfl rfl) (wa rfl (Aj (Ar (A3 (true,()) h6 (AC.c rfl AC.nil) sN))))))))))))))
       ·refine wo hf (wm rfl (wo hf (wv (Bx rfl rfl) (DR rfl hf rfl (wm rfl (bz h7 (λhg h8=>?_) (λhg h9=>?_)))))))
        ·exact wf hg (wf hg (wv (r:=rB true) (Au rfl hg rfl) (wm rfl (wz rfl rfl (wz rfl rfl (wv (r:=rB true) (Au (b:=true) rfl rfl rfl) (wa rfl (Aj (Ar (A3 (true,()) h8 (AC.c rfl AC.nil) sN))))))))))
        ·refine wo hg (wm rfl (wo hg (wv (Bx rfl rfl) (DR rfl hg rfl (wm rfl (bz h9 (λc76 hA=>?_) (λc76 hB=>?_)))))))
         ·exact wf c76 (wf c76 (wv (r:=rB true) (Au rfl c76 rfl) (wa rfl (Aj (Ar (A3 (true,()) hA (AC.c rfl AC.nil) sN))))))
         ·exact wo c76 (wm rfl (wo c76 (wv (Bx rfl rfl) (DR rfl c76 rfl (wa rfl (Aj (Ar (A3 (decide (c=47),()) hB (AC.c rfl AC.nil) sN))))))))
   ·refine wf ha (wf ha (wo c53 (wv (r:=rB false) (A7 rfl ha rfl) (DR rfl c53 rfl (wm rfl (Bg (b:=false) rfl rfl rfl (wm rfl (Bg (b:=false) rfl rfl rfl (ob hw λhn hC hD=>Cg Tryz.call108 (Qf c hn hC) rfl (wv (r:=rB hn) (A7 (b:=false) rfl rfl rfl) (wm rfl (bz hD (λhh hE=>?_) (λhh hG=>?_)))))))))))))
    ·exact wf hh (wf hh (wv (r:=rB true) (Au rfl hh rfl) (wm rfl (wz rfl rfl (wz rfl rfl (wv (r:=rB true) (Au (b:=true) rfl rfl rfl) (wm rfl (wz rfl rfl (wz rfl rfl (wv (r:=rB true) (Au (b:=true) rfl rfl rfl) (wm rfl (wz rfl rfl (wz rfl rfl (wv (r:=rB true) (Au (b:=true) rfl rfl rfl) (wm rfl (wz rfl rfl (wz rfl rfl (wv (r:=rB true) (Au (b:=true) rfl rfl rfl) (wa rfl (Aj (Ar (A3 (true,()) hE (AC.c rfl AC.nil) sN))))))))))))))))))))))
    ·refine wo hh (wm rfl (wo hh (wv (Bx rfl rfl) (DR rfl hh rfl (wm rfl (bz hG (λhi hH=>?_) (λhi hI=>?_)))))))
     ·exact wf hi (wf hi (wv (r:=rB true) (Au rfl hi rfl) (wm rfl (wz rfl rfl (wz rfl rfl (wv (r:=rB true) (Au (b:=true) rfl rfl rfl) (wm rfl (wz rfl rfl (wz rfl rfl (wv (r:=rB true) (Au (b:=true) rfl rfl rfl) (wm rfl (wz rfl rfl (wz rfl rfl (wv (r:=rB true) (Au (b:=true) rfl rfl rfl) (wa rfl (Aj (Ar (A3 (true,()) hH (AC.c rfl AC.nil) sN))))))))))))))))))
     ·refine wo hi (wm rfl (wo hi (wv (Bx rfl rfl) (DR rfl hi rfl (wm rfl (bz hI (λhj hJ=>?_) (λhj hK=>?_)))))))
      ·exact wf hj (wf hj (wv (r:=rB true) (Au rfl hj rfl) (wm rfl (wz rfl rfl (wz rfl rfl (wv (r:=rB true) (Au (b:=true) rfl rfl rfl) (wm rfl (wz rfl rfl (wz rfl rfl (wv (r:=rB true) (Au (b:=true) rfl rfl rfl) (wa rfl (Aj (Ar (A3 (true,()) hJ (AC.c rfl AC.nil) sN))))))))))))))
      ·refine wo hj (wm rfl (wo hj (wv (Bx rfl rfl) (DR rfl hj rfl (wm rfl (bz hK (λhk hL=>?_) (λhk hN=>?_)))))))
       ·exact wf hk (wf hk (wv (r:=rB true) (Au rfl hk rfl) (wm rfl (wz rfl rfl (wz rfl rfl (wv (r:=rB true) (Au (b:=true) rfl rfl rfl) (wa rfl (Aj (Ar (A3 (true,()) hL (AC.c rfl AC.nil) sN))))))))))
       ·refine wo hk (wm rfl (wo hk (wv (Bx rfl rfl) (DR rfl hk rfl (wm rfl (bz hN (λhl hO=>?_) (λhl hP=>?_)))))))
        ·exact wf hl (wf hl (wv (r:=rB true) (Au rfl hl rfl) (wa rfl (Aj (Ar (A3 (true,()) hO (AC.c rfl AC.nil) sN))))))
        ·exact wo hl (wm rfl (wo hl (wv (Bx rfl rfl) (DR rfl hl rfl (wa rfl (Aj (Ar (A3 (decide (c=47),()) hP (AC.c rfl AC.nil) sN))))))))
 ·rintro⟨ho,⟨⟩⟩ hm
  refine BO (l':=[(2,rB ho)]) (H':=[]) rfl rfl ?_
  replace hm:C0 ho=some r:=hm
  unfold C0 at hm
  refine Aq ?_
  obtain rfl:=As hm
  exact Ap (BW Tryz.results81 (A4 rfl)) sN ⟨rfl,rfl⟩
theorem Abg (F:Nat) (s:Ag) (r:Bool) (h:Yb F s=some r):Fn Tryz.prog GE 56 [rS s] [] (λR H=>R=rB r∧H=[]):=by
 refine enter (n:=23) Tryz.func56 rfl Tryz.ntmps56 rfl (λw Z=>?_)
 unfold Yb at h
 refine Ae (wa rfl (Ak (Ai (A6 [(0,rS s),(11,rB ((decide ((s.length:Int)<1))||(decide (64<(s.length:Int)))))] [] ?_ ?_))))
 ·refine Af (wm rfl (wv (AW BC rfl) (wv (BY rfl rfl) (wm rfl (AI (decide ((s.length:Int)<1)) (λc1=>?_) (λc1=>?_))))))
  ·refine wf c1 (wf c1 (wf c1 (wv (r:=rB true) (Au rfl c1 rfl) (Aj ?_))))
   exact BM c1
  ·refine wo c1 (wm rfl (wo c1 (wv (AW BC rfl) (wo c1 (wv (Cb rfl rfl) (DR rfl c1 rfl (Aj ?_)))))))
   exact BM c1
 refine cz h rfl (λc2 h3=>?_) (λc2 h4=>?_)
 ·refine Ae (wa rfl (Ak (Aq (Ac ?_))))
  obtain rfl:=As h3
  exact Ap (BW Tryz.results56 (A4 rfl)) sN ⟨rfl,rfl⟩
 ·refine An (AF (Ai (Ae (wa rfl (Ak (AB (ob h4 λhg hh hf=>Bk (S:=Nat×(Int)×(Unit)) (V:=(Unit)×(Unit)) 0 (λσ=>BF (λσ=>H0 s σ) σ.1 σ.2.1=some hg) (λσ=>[(0,rS s),(3,rI .i64 σ.2.1)]) (λσ=>[]) (λσ=>σ.1) (F,0,()) hh (AC.c rfl (AC.c rfl AC.nil)) sN (λσ=>NU =some r) (λσ=>[]) (λσ=>[]) ?_ ?_)))))))
  ·rintro⟨h1,ha,⟨⟩⟩ hi
   refine BO (l':=[(0,rS s),(3,rI .i64 ha)]) (H':=[]) rfl rfl ?_
   obtain⟨hj,rfl,hk,hb,he⟩:=Ce hi
   replace hb:H0 s ha=some hk:=hb
   unfold H0 at hb
   refine Ai (Ae (wm rfl (wm rfl (wv (AW BC rfl) (wv (BY rfl rfl) (Ak (cz hb rfl (λc53 hl=>?_) (λc53 hm=>?_))))))))
   ·refine An (AF (Ai (AB (Ae (wm rfl (wm rfl (ck hl λhn ho=>wv (AO BC rfl rfl hn) (ob ho λhp hq hr=>Cg Tryz.call81 (Ya (AK s ha) hp hq) rfl (wv (Cd rfl) (Ak (cz hr rfl (λhs ht=>?_) (λhs hu=>?_))))))))))))
    ·refine Ae (wa rfl (Ak (Aq (Av (Ac (Ac (AS ?_)))))))
     have hw:=Bm ht he hf
     refine Av (Ac ?_)
     obtain rfl:=As hw
     exact Ap (BW Tryz.results56 (A4 rfl)) sN ⟨rfl,rfl⟩
    ·refine An (A8 (AF (Af (wm rfl (ck hu λhx hy=>wv (AX rfl rfl hx) (wa rfl (Aj ?_)))))))
     have hz:=Bb hy he
     exact Ar (A3 (hj,ha+1,()) ⟨hz,AcL _⟩ (AC.c rfl (AC.c rfl AC.nil)) sN)
   ·refine Bo (At ?_)
    have h0:=BI hm he hf
    exact At (Bc (A3 ((),()) h0 AC.nil sN))
  ·rintro⟨⟨⟩,⟨⟩⟩ hd
   refine Cf (l':=[]) (H':=[]) rfl rfl ?_
   replace hd:NU =some r:=hd
   unfold NU at hd
   refine AZ (AF (Ae (wa rfl (Ak (Aq ?_)))))
   obtain rfl:=As hd
   exact Ap (BW Tryz.results56 (A4 rfl)) sN ⟨rfl,rfl⟩
theorem XU (F:Nat) (c:Ah) (r:Int) (h:OM F c=some r):Fn Tryz.prog GE 55 [B9 (Ad c)] [] (λR H=>R=rI .i64 r∧H=[]):=by
 refine enter (n:=32) Tryz.func55 rfl Tryz.ntmps55 rfl (λw Z=>?_)
 unfold OM at h
 refine Ae (Ec rfl rfl (λb1=>?_))
 refine wa rfl (Ak (Ai (AB (Ae (vF C3 rfl CD (vL 0 Dm rfl (Ie (rs:=[rS c.fKey]) (r:=rB (S0 c.fKey)) Tryz.call79 rfl (Acq c.fKey) rfl rfl (wv (Cd rfl) (wa rfl (Ak (cz h rfl (λc2 h3=>?_) (λc2 h4=>?_))))))))))))
 ·refine Ae (wa rfl (Ak (Aq (Av (Ac ?_)))))
  obtain rfl:=As h3
  exact Ap (BW Wn (A4 rfl)) (sS sN) ⟨rfl,rfl⟩
 ·refine A6 [(1,rP b1 0),(8,rB ((decide (c.fIfVersion<(-1)))||(decide (1000000000000<c.fIfVersion))))] [.blk b1 (Ad c) 50] ?_ ?_
  ·refine Af (vF C3 rfl Cq (vL 0 CU rfl (wv (BY rfl rfl) (wm rfl (AI (decide (c.fIfVersion<(-1))) (λc5=>?_) (λc5=>?_))))))
   ·refine wf c5 (wf c5 (wf c5 (wv (r:=rB true) (Au rfl c5 rfl) (wa rfl (Aj ?_)))))
    exact BM c5
   ·refine wo c5 (vF C3 rfl Cq (wo c5 (vL 0 CU rfl (wo c5 (wv (Cb rfl rfl) (DR rfl c5 rfl (wa rfl (Aj ?_))))))))
    exact BM c5
  refine cz h4 rfl (λc6 h7=>?_) (λc6 h8=>?_)
  ·refine Ae (wa rfl (Ak (Aq (Av (Ac ?_)))))
   obtain rfl:=As h7
   exact Ap (BW Wn (A4 rfl)) (sS sN) ⟨rfl,rfl⟩
  ·refine A6 [(1,rP b1 0),(17,rB (c.fDelete&&(decide (0<(c.fValue.length:Int)))))] [.blk b1 (Ad c) 50] ?_ ?_
   ·refine Af (vF C3 rfl GR (vL 0 MZ rfl (wm rfl (AI (c.fDelete) (λc9=>?_) (λc9=>?_)))))
    ·refine wo c9 (vF C3 rfl Dk (wo c9 (vL 0 GS rfl (wo c9 (wv (Bv (ys:=c.fValue) (enc:=Ab) BP rfl) (wo c9 (wv (Cb rfl rfl) (EF rfl c9 rfl (wa rfl (Aj ?_))))))))))
     exact BM c9
    ·refine wf c9 (wf c9 (wf c9 (wf c9 (wv (r:=rB false) (A7 rfl c9 rfl) (wa rfl (Aj ?_))))))
     exact BM c9
   refine cz h8 rfl (λha hb=>?_) (λha hd=>?_)
   ·refine Ae (wa rfl (Ak (Aq (Av (Ac ?_)))))
    obtain rfl:=As hb
    exact Ap (BW Wn (A4 rfl)) (sS sN) ⟨rfl,rfl⟩
   ·refine Ae (vF C3 rfl GR (vL 0 MZ rfl (wa rfl (Ak (cz hd rfl (λhe hf=>?_) (λhe hg=>?_))))))
    ·refine Ae (wa rfl (Ak (Aq (Av (Ac ?_)))))
     obtain rfl:=As hf
     exact Ap (BW Wn (A4 rfl)) (sS sN) ⟨rfl,rfl⟩
    ·refine An (A8 (AF (Ae (vF C3 rfl Dk (vL 0 GS rfl (ob hg λhh hi hj=>Cg Tryz.call80 (On F c.fValue hh hi) rfl (wa rfl (Ak (Aq ?_)))))))))
     obtain rfl:=As hj
     exact Ap (BW Wn (A4 rfl)) (sS sN) ⟨rfl,rfl⟩
theorem OJ (F:Nat) (l:(List Ah)) (r:Int) (h:Ll F l=some r):Fn Tryz.prog GE 35 [AV 4 (List.map Ad l)] [] (λR H=>R=rI .i64 r∧H=[]):=by
 refine enter (n:=21) Tryz.func35 rfl Tryz.ntmps35 rfl (λw Z=>?_)
 unfold Ll at h
 refine Ae (wa rfl (Ak (Ai (Ae (wm rfl (wv (Bv (ys:=l) (enc:=Ad) CN rfl) (wv (Cb rfl rfl) (Ak (cz h rfl (λc1 h2=>?_) (λc1 h3=>?_))))))))))
 ·refine Ae (wa rfl (Ak (Aq (Ac ?_))))
  obtain rfl:=As h2
  exact Ap (BW Tryz.results35 (A4 rfl)) sN ⟨rfl,rfl⟩
 ·refine An (AF (Ai (Ae (wm rfl (wv (Bv (ys:=l) (enc:=Ad) CN rfl) (wv (r:=rI .i64 0) (Al rfl) (Ak (AB (ob h3 λhg hh hf=>Bk (S:=Nat×(Int)×(Unit)) (V:=(Unit)×(Unit)) 0 (λσ=>BF (λσ=>Gr F l σ) σ.1 σ.2.1=some hg) (λσ=>[(2,rI .i64 0),(9,AV 4 (List.map Ad l)),(10,rI .i64 (l.length:Int)),(11,rI .i64 σ.2.1)]) (λσ=>[]) (λσ=>σ.1) (F,0,()) hh (AC.c rfl (AC.c rfl (AC.c rfl (AC.c rfl AC.nil)))) sN (λσ=>K1 =some r) (λσ=>[(2,rI .i64 0)]) (λσ=>[]) ?_ ?_)))))))))
  ·rintro⟨h5,ha,⟨⟩⟩ hi
   refine BO (l':=[(2,rI .i64 0),(9,AV 4 (List.map Ad l)),(10,rI .i64 (l.length:Int)),(11,rI .i64 ha)]) (H':=[]) rfl rfl ?_
   obtain⟨hj,rfl,hk,hb,he⟩:=Ce hi
   replace hb:Gr F l ha=some hk:=hb
   unfold Gr at hb
   refine Ae (wv (BY rfl rfl) (Ak (Ai (cz hb rfl (λhl hm=>?_) (λhl hn=>?_)))))
   ·refine An (AF (Ai (AB (Ae (ck hm λho hp=>wv (Bh (enc:=Ad) (ys:=l) CN BV rfl rfl ho) (wv (D1 GB BV rfl rfl rfl) (BT (cs:=[rS ([]:Ag),rB false,rv (.slice none 0 0),rI .i64 0]) JA rfl rfl (λhq=>?_))))))))
    refine Bj (i:=0) BV rfl rfl rfl (BE.c rfl) rfl rfl (cs':=[rS ((Am l ha).fKey),rB ((Am l ha).fDelete),AV 4 (List.map Ab ((Am l ha).fValue)),rI .i64 ((Am l ha).fIfVersion)]) rfl (H':=[.blk hq (Ad (Am l ha)) 50]) rfl (Bf (wv (B0 (i:=0) GB BV rfl rfl rfl rfl) (ob hp λhr hs ht=>Cg Tryz.call55 (XU F (Am l ha) hr hs) rfl (wa rfl (Bf (wm rfl (wv (CB rfl rfl) (Ak (cz ht rfl (λhu hw=>?_) (λhu hx=>?_))))))))))
    ·refine Ae (wm rfl (wa rfl (Ak (Aq (Av (Ac (Ac (AS ?_))))))))
     have hy:=Bm hw he hf
     refine Av (Ac ?_)
     obtain rfl:=As hy
     exact Ap (BW Tryz.results35 (A4 rfl)) (sS sN) ⟨rfl,rfl⟩
    ·refine An (A8 (AF (Af (ck hx λhz h0=>wv (AX rfl rfl hz) (wm rfl (Aj ?_))))))
     have h1:=Bb h0 he
     exact Ar (A3 (hj,ha+1,()) ⟨h1,AcL _⟩ (AC.c rfl (AC.c rfl (AC.c rfl (AC.c rfl AC.nil)))) (sS sN))
   ·refine Bo (At ?_)
    have h4:=BI hn he hf
    exact At (Bc (A3 ((),()) h4 (AC.c rfl AC.nil) sN))
  ·rintro⟨⟨⟩,⟨⟩⟩ hd
   refine Cf (l':=[(2,rI .i64 0)]) (H':=[]) rfl rfl ?_
   replace hd:K1 =some r:=hd
   unfold K1 at hd
   refine AZ (AF (Ae (wa rfl (Ak (Aq ?_)))))
   obtain rfl:=As hd
   exact Ap (BW Tryz.results35 (A4 rfl)) sN ⟨rfl,rfl⟩
theorem AaZ  (r:Bs) (h:Aba=some r):Fn Tryz.prog GE 11 [] [] (λR H=>∃u0:Nat,∃u0_0:Nat,∃u0_1:Nat,R=rP u0 0∧H=[.blk u0 [rv (.map (some u0_0)),rv (.map (some u0_1))] 59,.map u0_0 (Br Ax r.fItems),.map u0_1 (Br Ax r.fChanged)]):=by
 refine enter (n:=5) Tryz.func11 rfl Tryz.ntmps11 rfl (λw Z=>?_)
 unfold Aba at h
 refine Ae (wa rfl (Bf (P4 rfl (λb1=>?_))))
 refine P4 rfl (λb2=>?_)
 refine wv (r:=B9 [rv (.map (some b1)),rv (.map (some b2))]) (Pz rfl rfl rfl rfl) (Ec rfl rfl (λb3=>?_))
 refine wa rfl (Ak (Aq (Cv (H2:=[.blk b3 [rv (.map (some b1)),rv (.map (some b2))] 59,.map b1 (Br Ax ([]:List (Ag×AE))),.map b2 (Br Ax ([]:List (Ag×AE)))]) ((A5 (i:=0) rfl).trans (List.Perm.cons _ ((A5 (i:=1) rfl).trans (List.Perm.cons _ (List.Perm.refl _))))) ?_)))
 obtain rfl:=As h
 exact Ap (BW Tryz.results11 (A4 rfl)) (sC (sC (sC sN))) ⟨b3,b1,b2,rfl,rfl⟩
theorem QM (b_q:Nat) (v_q_0:Nat) (v_q_1:Nat) (q:Bs) (r:Bool×Bs) (h:Sv q=some r):Fn Tryz.prog GE 34 [rP b_q 0] [.blk b_q [rv (.map (some v_q_0)),rv (.map (some v_q_1))] 59,.map v_q_0 (Br Ax q.fItems),.map v_q_1 (Br Ax q.fChanged)] (λR H=>R=rB r.1∧H=[.blk b_q [rv (.map (some v_q_0)),rv (.map (some v_q_1))] 59,.map v_q_0 (Br Ax r.2.fItems),.map v_q_1 (Br Ax r.2.fChanged)]):=by
 refine enter (n:=12) Tryz.func34 rfl Tryz.ntmps34 rfl (λw Z=>?_)
 unfold Sv at h
 refine Ae (wa rfl (Ak (A6 [(2,rB true)] [.blk b_q [rv (.map (some v_q_0)),rv (.map (some v_q_1))] 59,.map v_q_0 (Br Ax q.fItems),.map v_q_1 (Br Ax q.fChanged)] ?_ ?_)))
 ·refine Af (wm rfl (wv (r:=rB true) (Vy ⟨_,Tryz.underlying25⟩ rfl) (wm rfl (Bg (b:=true) rfl rfl rfl (wm rfl (Bg (b:=true) rfl rfl rfl (wv (A2 rfl) (Bg (b:=true) rfl rfl rfl (vF Mu rfl Mw (Bg (b:=true) rfl rfl rfl (vL 0 My rfl (Bg (b:=true) rfl rfl rfl (wv (r:=rB true) (Vz (v:=some v_q_0) Mv rfl) (wv (r:=rB true) (Au (b:=true) rfl rfl rfl) (wa rfl (Aj ?_))))))))))))))))
  exact wt
 refine Aq ?_
 obtain rfl:=As h
 exact Ap (BW Tryz.results34 (A4 rfl)) (sC (sC (sC sN))) ⟨rfl,rfl⟩
theorem AaX (b_q:Nat) (v_q_0:Nat) (v_q_1:Nat) (q:Bs) (key:Ag) (r:AE×Bs) (h:AaY q key=some r):Fn Tryz.prog GE 58 [rP b_q 0,rS key] [.blk b_q [rv (.map (some v_q_0)),rv (.map (some v_q_1))] 59,.map v_q_0 (Br Ax q.fItems),.map v_q_1 (Br Ax q.fChanged)] (λR H=>R=B9 (BJ r.1)∧H=[.blk b_q [rv (.map (some v_q_0)),rv (.map (some v_q_1))] 59,.map v_q_0 (Br Ax r.2.fItems),.map v_q_1 (Br Ax r.2.fChanged)]):=by
 refine enter (n:=24) Tryz.func58 rfl Tryz.ntmps58 rfl (λw Z=>?_)
 unfold AaY at h
 refine Ae (BT (cs:=[rS ([]:Ag),rv (.slice none 0 0),rI .i64 0]) NZ rfl rfl (λb1=>?_))
 refine Ak (Ai (Ae (wm rfl (wv (A2 rfl) (vF Mu rfl Mw (vL 1 My rfl (wm rfl (wv (r:=Cm [B9 [rS ((Dc q.fChanged key (AE.mk ([]:Ag) ([]:(List Aa)) 0)).fKey),AV 4 (List.map Ab ((Dc q.fChanged key (AE.mk ([]:Ag) ([]:(List Aa)) 0)).fValue)),rI .i64 ((Dc q.fChanged key (AE.mk ([]:Ag) ([]:(List Aa)) 0)).fVersion)],rB (IR q.fChanged key)]) (Uh (enc:=Ax) (xs:=q.fChanged) (z:=AE.mk ([]:Ag) ([]:(List Aa)) 0) (i:=3) Mv BC NZ Jp rfl rfl rfl) (wm rfl (wv (Az rfl rfl) (wv (Az rfl rfl) (BT (cs:=[rS ([]:Ag),rv (.slice none 0 0),rI .i64 0]) NZ rfl rfl (λb2=>?_)))))))))))))
 refine Bj (i:=0) Je rfl rfl rfl (BE.c rfl) rfl rfl (cs':=[rS ((Dc q.fChanged key (AE.mk ([]:Ag) ([]:(List Aa)) 0)).fKey),AV 4 (List.map Ab ((Dc q.fChanged key (AE.mk ([]:Ag) ([]:(List Aa)) 0)).fValue)),rI .i64 ((Dc q.fChanged key (AE.mk ([]:Ag) ([]:(List Aa)) 0)).fVersion)]) rfl (H':=[.blk b2 [rS ((Dc q.fChanged key (AE.mk ([]:Ag) ([]:(List Aa)) 0)).fKey),AV 4 (List.map Ab ((Dc q.fChanged key (AE.mk ([]:Ag) ([]:(List Aa)) 0)).fValue)),rI .i64 ((Dc q.fChanged key (AE.mk ([]:Ag) ([]:(List Aa)) 0)).fVersion)] 35,.blk b1 [rS ([]:Ag),rv (.slice none 0 0),rI .i64 0] 35,.blk b_q [rv (.map (some v_q_0)),rv (.map (some v_q_1))] 59,.map v_q_0 (Br Ax q.fItems),.map v_q_1 (Br Ax q.fChanged)]) rfl (wa rfl (Bf (wm rfl (Ak (cz h rfl (λc3 h4=>?_) (λc3 h5=>?_))))))
 ·refine Ae (wv (B0 (i:=0) Qu Je rfl rfl rfl rfl) (Bj (i:=1) Je rfl rfl rfl (BE.c rfl) rfl rfl (cs':=[rS ((Dc q.fChanged key (AE.mk ([]:Ag) ([]:(List Aa)) 0)).fKey),AV 4 (List.map Ab ((Dc q.fChanged key (AE.mk ([]:Ag) ([]:(List Aa)) 0)).fValue)),rI .i64 ((Dc q.fChanged key (AE.mk ([]:Ag) ([]:(List Aa)) 0)).fVersion)]) rfl (H':=[.blk b2 [rS ((Dc q.fChanged key (AE.mk ([]:Ag) ([]:(List Aa)) 0)).fKey),AV 4 (List.map Ab ((Dc q.fChanged key (AE.mk ([]:Ag) ([]:(List Aa)) 0)).fValue)),rI .i64 ((Dc q.fChanged key (AE.mk ([]:Ag) ([]:(List Aa)) 0)).fVersion)] 35,.blk b1 [rS ((Dc q.fChanged key (AE.mk ([]:Ag) ([]:(List Aa)) 0)).fKey),AV 4 (List.map Ab ((Dc q.fChanged key (AE.mk ([]:Ag) ([]:(List Aa)) 0)).fValue)),rI .i64 ((Dc q.fChanged key (AE.mk ([]:Ag) ([]:(List Aa)) 0)).fVersion)] 35,.blk b_q [rv (.map (some v_q_0)),rv (.map (some v_q_1))] 59,.map v_q_0 (Br Ax q.fItems),.map v_q_1 (Br Ax q.fChanged)]) rfl (Ak (Aq (Ac ?_)))))
  obtain rfl:=As h4
  exact Ap (BW Tryz.results58 (Gi (i:=1) Qu Je rfl rfl rfl)) (sS (sS (sC (sC (sC sN))))) ⟨rfl,rfl⟩
 ·refine An (AF (Ae (wm rfl (wv (A2 rfl) (vF Mu rfl Mw (vL 2 My rfl (wm rfl (wv (r:=B9 [rS ((Dc q.fItems key (AE.mk ([]:Ag) ([]:(List Aa)) 0)).fKey),AV 4 (List.map Ab ((Dc q.fItems key (AE.mk ([]:Ag) ([]:(List Aa)) 0)).fValue)),rI .i64 ((Dc q.fItems key (AE.mk ([]:Ag) ([]:(List Aa)) 0)).fVersion)]) (AaL (enc:=Ax) (xs:=q.fItems) (z:=AE.mk ([]:Ag) ([]:(List Aa)) 0) (i:=3) Mv BC NZ Jp rfl rfl rfl) (Bj (i:=1) Je rfl rfl rfl (BE.c rfl) rfl rfl (cs':=[rS ((Dc q.fItems key (AE.mk ([]:Ag) ([]:(List Aa)) 0)).fKey),AV 4 (List.map Ab ((Dc q.fItems key (AE.mk ([]:Ag) ([]:(List Aa)) 0)).fValue)),rI .i64 ((Dc q.fItems key (AE.mk ([]:Ag) ([]:(List Aa)) 0)).fVersion)]) rfl (H':=[.blk b2 [rS ((Dc q.fChanged key (AE.mk ([]:Ag) ([]:(List Aa)) 0)).fKey),AV 4 (List.map Ab ((Dc q.fChanged key (AE.mk ([]:Ag) ([]:(List Aa)) 0)).fValue)),rI .i64 ((Dc q.fChanged key (AE.mk ([]:Ag) ([]:(List Aa)) 0)).fVersion)] 35,.blk b1 [rS ((Dc q.fItems key (AE.mk ([]:Ag) ([]:(List Aa)) 0)).fKey),AV 4 (List.map Ab ((Dc q.fItems key (AE.mk ([]:Ag) ([]:(List Aa)) 0)).fValue)),rI .i64 ((Dc q.fItems key (AE.mk ([]:Ag) ([]:(List Aa)) 0)).fVersion)] 35,.blk b_q [rv (.map (some v_q_0)),rv (.map (some v_q_1))] 59,.map v_q_0 (Br Ax q.fItems),.map v_q_1 (Br Ax q.fChanged)]) rfl (Ak (Aq ?_)))))))))))
  obtain rfl:=As h5
  exact Ap (BW Tryz.results58 (Gi (i:=1) Qu Je rfl rfl rfl)) (sS (sS (sC (sC (sC sN))))) ⟨rfl,rfl⟩
theorem VG (b_q:Nat) (v_q_0:Nat) (v_q_1:Nat) (q:Bs) (c:Ah) (size:Int) (r:Int×Int×Bs) (h:QN q c size=some r):Fn Tryz.prog GE 36 [rP b_q 0,B9 (Ad c),rI .i64 size] [.blk b_q [rv (.map (some v_q_0)),rv (.map (some v_q_1))] 59,.map v_q_0 (Br Ax q.fItems),.map v_q_1 (Br Ax q.fChanged)] (λR H=>R=Cm [rI .i64 r.1,rI .i64 r.2.1]∧H=[.blk b_q [rv (.map (some v_q_0)),rv (.map (some v_q_1))] 59,.map v_q_0 (Br Ax r.2.2.fItems),.map v_q_1 (Br Ax r.2.2.fChanged)]):=by
 refine enter (n:=74) Tryz.func36 rfl Tryz.ntmps36 rfl (λw Z=>?_)
 unfold QN at h
 refine Ae (Ec rfl rfl (λb1=>?_))
 refine wa rfl (wa rfl (Bf (wm rfl (vF C3 rfl CD (vL 0 Dm rfl (ob h λr2 e4 h3=>Hb (Hr:=[.blk b1 (Ad c) 50]) Tryz.call58 (AaX b_q v_q_0 v_q_1 q c.fKey r2 e4) rfl ((A5 (i:=1) rfl).trans (List.Perm.cons _ ((A5 (i:=1) rfl).trans (List.Perm.cons _ ((A5 (i:=1) rfl).trans (List.Perm.cons _ (List.Perm.refl _))))))) rfl ?_))))))
 rintro _ _ ⟨rfl,rfl⟩
 refine BT (cs:=[rS ([]:Ag),rv (.slice none 0 0),rI .i64 0]) NZ rfl rfl (λb5=>?_)
 refine Bj (i:=0) Je rfl rfl rfl (BE.c rfl) rfl rfl (cs':=[rS r2.1.fKey,AV 4 (List.map Ab r2.1.fValue),rI .i64 r2.1.fVersion]) rfl (H':=[.blk b5 (BJ r2.1) 35,.blk b_q [rv (.map (some v_q_0)),rv (.map (some v_q_1))] 59,.map v_q_0 (Br Ax r2.2.fItems),.map v_q_1 (Br Ax r2.2.fChanged),.blk b1 (Ad c) 50]) rfl (Ak (DS (S:=(Int)×(Unit)) (λσ=>HV c r2 σ.1=some r) (λσ=>[(0,rP b_q 0),(2,rI .i64 σ.1),(4,rP b1 0),(8,rP b5 0)]) (λσ=>[.blk b5 (BJ r2.1) 35,.blk b_q [rv (.map (some v_q_0)),rv (.map (some v_q_1))] 59,.map v_q_0 (Br Ax r2.2.fItems),.map v_q_1 (Br Ax r2.2.fChanged),.blk b1 (Ad c) 50]) ?_ ?_))
 ·refine AB (A6 [(0,rP b_q 0),(2,rI .i64 size),(4,rP b1 0),(8,rP b5 0),(13,rB ((decide (0≤c.fIfVersion))&&(!decide (c.fIfVersion=r2.1.fVersion))))] [.blk b5 (BJ r2.1) 35,.blk b_q [rv (.map (some v_q_0)),rv (.map (some v_q_1))] 59,.map v_q_0 (Br Ax r2.2.fItems),.map v_q_1 (Br Ax r2.2.fChanged),.blk b1 (Ad c) 50] ?_ ?_)
  ·refine Af (vF C3 rfl Cq (vL 4 CU rfl (wv (G0 rfl rfl) (wm rfl (AI (decide (0≤c.fIfVersion)) (λha=>?_) (λha=>?_))))))
   ·refine wo ha (vF C3 rfl Cq (wo ha (vL 4 CU rfl (wo ha (vF Pr rfl Cq (wo ha (vL 0 CU rfl (wo ha (wv (CB rfl rfl) (EF rfl ha rfl (wa rfl (Aj ?_))))))))))))
    exact BM ha
   ·refine wf ha (wf ha (wf ha (wf ha (wf ha (wv (r:=rB false) (A7 rfl ha rfl) (wa rfl (Aj ?_)))))))
    exact BM ha
  refine cz h3 rfl (λhg hh=>?_) (λhg hi=>?_)
  ·refine Ae (wa rfl (wa rfl (Ak (Aq (Av (Ac ?_))))))
   obtain rfl:=As hh
   exact Ap (Cy UH (A4 rfl) (A4 rfl)) (sS (sC (sC (sC (sS sN))))) ⟨rfl,rfl⟩
  ·refine Ae (vF C3 rfl GR (vL 4 MZ rfl (wa rfl (Ak (cz hi rfl (λhj hk=>?_) (λhj hl=>?_))))))
   ·refine Ai (Ae (vF Pr rfl Cq (vL 0 CU rfl (wv (Cb rfl rfl) (Ak (cz hk rfl (λc37 hm=>?_) (λc37 hn=>?_)))))))
    ·refine Af (wm rfl (ck hm λho hp=>wv (EN rfl rfl ho) (wa rfl (Ak (Ai (Gw 7 [0,2,4] [⟨[],rP b_q 0,none,none,none⟩,⟨[0],rP b_q 0,none,none,none⟩,⟨[1],rP b_q 1,none,none,none⟩,⟨[2],rv (.map (some v_q_1)),none,none,none⟩,⟨[],rP b1 0,none,none,none⟩,⟨[4],rS c.fKey,none,none,none⟩,⟨[],B9 [rS ([]:Ag),rv (.slice none 0 0),rI .i64 0],none,none,none⟩] ?_ (λβ=>?_)))))))
     ·refine DB (Al rfl) (DB (A2 rfl) (DB (AH Mu rfl Mw rfl rfl) (Xx (Bp (i:=1) My rfl rfl rfl) (DB (AH C3 rfl CD rfl rfl) (Xx (Bp (i:=4) Dm rfl rfl rfl) (DB (Li ) ?_))))))
      exact Xy
     refine Ha (H1:=[.blk b5 (BJ r2.1) 35,.blk b_q [rv (.map (some v_q_0)),rv (.map (some v_q_1))] 59,.map v_q_0 (Br Ax r2.2.fItems),.map v_q_1 (Br Ax r2.2.fChanged),.blk b1 (Ad c) 50]) [32,33,34,35,36,37,38,0,2,4] ?_
     refine WL.up (d:=38) (r:=B9 [rS ([]:Ag),AV 4 (List.map Ab ([]:List Aa)),rI .i64 0]) rfl (Up.agg ⟨Up.refl _,Up.le (E1.nil _),Up.refl _,trivial⟩) (NF (enc:=Ax) (xs:=r2.2.fChanged) (v:=(AE.mk ([]:Ag) ([]:List Aa) 0)) (i:=3) Mv BC rfl rfl rfl rfl (H':=[.blk b5 (BJ r2.1) 35,.blk b_q [rv (.map (some v_q_0)),rv (.map (some v_q_1))] 59,.map v_q_0 (Br Ax r2.2.fItems),.map v_q_1 (Br Ax (mset r2.2.fChanged c.fKey (AE.mk ([]:Ag) ([]:List Aa) 0))),.blk b1 (Ad c) 50]) rfl (Bf (wm rfl (wa rfl (wa rfl (Ak (Aq (Av (Ac ?_)))))))))
     obtain rfl:=As hp
     exact Ap (Cy UH (A4 rfl) (A4 rfl)) (sS (sC (sC (sC (sS sN))))) ⟨rfl,rfl⟩
    ·refine An (AF (Ai (Gw 7 [0,2,4] [⟨[],rP b_q 0,none,none,none⟩,⟨[0],rP b_q 0,none,none,none⟩,⟨[1],rP b_q 1,none,none,none⟩,⟨[2],rv (.map (some v_q_1)),none,none,none⟩,⟨[],rP b1 0,none,none,none⟩,⟨[4],rS c.fKey,none,none,none⟩,⟨[],B9 [rS ([]:Ag),rv (.slice none 0 0),rI .i64 0],none,none,none⟩] ?_ (λβ=>?_))))
     ·refine DB (Al rfl) (DB (A2 rfl) (DB (AH Mu rfl Mw rfl rfl) (Xx (Bp (i:=1) My rfl rfl rfl) (DB (AH C3 rfl CD rfl rfl) (Xx (Bp (i:=4) Dm rfl rfl rfl) (DB (Li ) ?_))))))
      exact Xy
     refine Ha (H1:=[.blk b5 (BJ r2.1) 35,.blk b_q [rv (.map (some v_q_0)),rv (.map (some v_q_1))] 59,.map v_q_0 (Br Ax r2.2.fItems),.map v_q_1 (Br Ax r2.2.fChanged),.blk b1 (Ad c) 50]) [32,33,34,35,36,37,38,0,2,4] ?_
     refine WL.up (d:=38) (r:=B9 [rS ([]:Ag),AV 4 (List.map Ab ([]:List Aa)),rI .i64 0]) rfl (Up.agg ⟨Up.refl _,Up.le (E1.nil _),Up.refl _,trivial⟩) (NF (enc:=Ax) (xs:=r2.2.fChanged) (v:=(AE.mk ([]:Ag) ([]:List Aa) 0)) (i:=3) Mv BC rfl rfl rfl rfl (H':=[.blk b5 (BJ r2.1) 35,.blk b_q [rv (.map (some v_q_0)),rv (.map (some v_q_1))] 59,.map v_q_0 (Br Ax r2.2.fItems),.map v_q_1 (Br Ax (mset r2.2.fChanged c.fKey (AE.mk ([]:Ag) ([]:List Aa) 0))),.blk b1 (Ad c) 50]) rfl (Bf (wm rfl (wa rfl (wa rfl (Ak (Aq (Av (Ac ?_)))))))))
     obtain rfl:=As hn
     exact Ap (Cy UH (A4 rfl) (A4 rfl)) (sS (sC (sC (sC (sS sN))))) ⟨rfl,rfl⟩
   ·refine A6 [(0,rP b_q 0),(2,rI .i64 size),(4,rP b1 0),(8,rP b5 0),(40,rB ((decide (r2.1.fVersion=0))&&(decide (256≤size))))] [.blk b5 (BJ r2.1) 35,.blk b_q [rv (.map (some v_q_0)),rv (.map (some v_q_1))] 59,.map v_q_0 (Br Ax r2.2.fItems),.map v_q_1 (Br Ax r2.2.fChanged),.blk b1 (Ad c) 50] ?_ ?_
    ·refine Af (vF Pr rfl Cq (vL 0 CU rfl (wv (Bx rfl rfl) (wm rfl (AI (decide (r2.1.fVersion=0)) (λhb=>?_) (λhb=>?_))))))
     ·refine wo hb (wm rfl (wo hb (wv (G0 rfl rfl) (EF rfl hb rfl (wa rfl (Aj ?_))))))
      exact BM hb
     ·refine wf hb (wf hb (wv (r:=rB false) (A7 rfl hb rfl) (wa rfl (Aj ?_))))
      exact BM hb
    refine cz hl rfl (λhq hr=>?_) (λhq hs=>?_)
    ·refine Ae (wa rfl (wa rfl (Ak (Aq (Av (Ac ?_))))))
     obtain rfl:=As hr
     exact Ap (Cy UH (A4 rfl) (A4 rfl)) (sS (sC (sC (sC (sS sN))))) ⟨rfl,rfl⟩
    ·refine Ae (vF Pr rfl Cq (vL 0 CU rfl (wv (G0 rfl rfl) (wa rfl (Ak (cz hs rfl (λht hu=>?_) (λht hw=>?_)))))))
     ·refine Ae (wa rfl (wa rfl (Ak (Aq (Av (Ac ?_))))))
      obtain rfl:=As hu
      exact Ap (Cy UH (A4 rfl) (A4 rfl)) (sS (sC (sC (sC (sS sN))))) ⟨rfl,rfl⟩
     ·refine Ae (vF Pr rfl Cq (vL 0 CU rfl (wv (Bx rfl rfl) (wa rfl (Ak (cz hw rfl (λhx hy=>?_) (λhx hz=>?_)))))))
      ·exact Af (wm rfl (ck hy λh0 h1=>wv (AX rfl rfl h0) (wa rfl (Aj (A8 (Ar (A3 (size+1,()) h1 (AC.c rfl (AC.c rfl (AC.c rfl (AC.c rfl AC.nil)))) (sC (sC (sC (sC (sC sN))))))))))))
      ·exact An (A8 (Ar (A3 (size,()) hz (AC.c rfl (AC.c rfl (AC.c rfl (AC.c rfl AC.nil)))) (sC (sC (sC (sC (sC sN))))))))
 ·rintro⟨hf,⟨⟩⟩ he
  refine BO (l':=[(0,rP b_q 0),(2,rI .i64 hf),(4,rP b1 0),(8,rP b5 0)]) (H':=[.blk b5 (BJ r2.1) 35,.blk b_q [rv (.map (some v_q_0)),rv (.map (some v_q_1))] 59,.map v_q_0 (Br Ax r2.2.fItems),.map v_q_1 (Br Ax r2.2.fChanged),.blk b1 (Ad c) 50]) rfl rfl ?_
  replace he:HV c r2 hf=some r:=he
  unfold HV at he
  refine Ai (ob he λhd h2 h4=>ck h4 λh5 h6=>Gw 15 [0,2,4,8] [⟨[],rP b_q 0,none,none,none⟩,⟨[0],rP b_q 0,none,none,none⟩,⟨[1],rP b_q 1,none,none,none⟩,⟨[2],rv (.map (some v_q_1)),none,none,none⟩,⟨[],rP b1 0,none,none,none⟩,⟨[4],rS c.fKey,none,none,none⟩,⟨[],rP b1 0,none,none,none⟩,⟨[6],rS c.fKey,none,none,none⟩,⟨[],rP b1 2,none,none,none⟩,⟨[8],AV 4 (List.map Ab c.fValue),none,none,none⟩,⟨[9],AV 4 (List.map Ab hd),none,none,none⟩,⟨[],rP b5 2,none,none,none⟩,⟨[11],rI .i64 r2.1.fVersion,none,none,none⟩,⟨[12],rI .i64 (r2.1.fVersion+1),none,none,none⟩,⟨[7,10,13],B9 [rS c.fKey,AV 4 (List.map Ab hd),rI .i64 (r2.1.fVersion+1)],none,none,none⟩] ?_ (λβ=>?_))
  ·refine DB (Al rfl) (DB (A2 rfl) (DB (AH Mu rfl Mw rfl rfl) (Xx (Bp (i:=1) My rfl rfl rfl) (DB (AH C3 rfl CD rfl rfl) (Xx (Bp (i:=4) Dm rfl rfl rfl) (DB (AH C3 rfl CD rfl rfl) (Xx (Bp (i:=4) Dm rfl rfl rfl) (DB (AH C3 rfl Dk rfl rfl) (Xx (Bp (i:=4) GS rfl rfl rfl) (oac (HR Tryz.call59 (SJ c.fValue hd h2) rfl) (DB (AH Pr rfl Cq rfl rfl) (Xx (Bp (i:=0) CU rfl rfl rfl) (DB (AX rfl rfl h5) (DB (N5 rfl rfl rfl rfl rfl rfl) ?_))))))))))))))
   exact Xy
  refine Ha (H1:=[.blk b5 (BJ r2.1) 35,.blk b_q [rv (.map (some v_q_0)),rv (.map (some v_q_1))] 59,.map v_q_0 (Br Ax r2.2.fItems),.map v_q_1 (Br Ax r2.2.fChanged),.blk b1 (Ad c) 50]) [58,59,60,61,62,63,64,65,66,67,68,69,70,71,72,0,2,4,8] ?_
  refine NF (enc:=Ax) (xs:=r2.2.fChanged) (v:=(AE.mk c.fKey hd (r2.1.fVersion+1))) (i:=3) Mv BC rfl rfl rfl rfl (H':=[.blk b5 (BJ r2.1) 35,.blk b_q [rv (.map (some v_q_0)),rv (.map (some v_q_1))] 59,.map v_q_0 (Br Ax r2.2.fItems),.map v_q_1 (Br Ax (mset r2.2.fChanged c.fKey (AE.mk c.fKey hd (r2.1.fVersion+1)))),.blk b1 (Ad c) 50]) rfl (Bf (wm rfl (wa rfl (wa rfl (Ak (Aq ?_))))))
  obtain rfl:=As h6
  exact Ap (Cy UH (A4 rfl) (A4 rfl)) (sS (sC (sC (sC (sS sN))))) ⟨rfl,rfl⟩
theorem JV (F:Nat) (b_q:Nat) (v_q_0:Nat) (v_q_1:Nat) (q:Bs) (l:(List Ah)) (r:Int×Bs) (h:Ln F q l=some r):Fn Tryz.prog GE 13 [rP b_q 0,AV 4 (List.map Ad l)] [.blk b_q [rv (.map (some v_q_0)),rv (.map (some v_q_1))] 59,.map v_q_0 (Br Ax q.fItems),.map v_q_1 (Br Ax q.fChanged)] (λR H=>R=rI .i64 r.1∧H=[.blk b_q [rv (.map (some v_q_0)),rv (.map (some v_q_1))] 59,.map v_q_0 (Br Ax r.2.fItems),.map v_q_1 (Br Ax r.2.fChanged)]):=by
 refine enter (n:=72) Tryz.func13 rfl Tryz.ntmps13 rfl (λw Z=>?_)
 unfold Ln at h
 refine Ae (wa rfl (Ak (Ai (Ae (wm rfl (ob h λr1 e3 h2=>Hb (Hr:=[]) Tryz.call34 (QM b_q v_q_0 v_q_1 q r1 e3) rfl (List.Perm.refl _) rfl ?_))))))
 rintro _ _ ⟨rfl,rfl⟩
 refine wv (Cd rfl) (Ak (cz h2 rfl (λc4 h5=>?_) (λc4 h6=>?_)))
 ·refine Ae (wa rfl (Ak (Aq (Ac ?_))))
  obtain rfl:=As h5
  exact Ap (BW Zg (A4 rfl)) (sC (sC (sC sN))) ⟨rfl,rfl⟩
 ·refine An (AF (Ai (Ae (wm rfl (ob h6 λr7 e9 h8=>Cg Tryz.call35 (OJ F l r7 e9) rfl (wa rfl (Bf (wm rfl (wv (CB rfl rfl) (Ak (cz h8 rfl (λh3 h4=>?_) (λh3 h7=>?_))))))))))))
  ·refine Ae (wm rfl (wa rfl (Ak (Aq (Ac ?_)))))
   obtain rfl:=As h4
   exact Ap (BW Zg (A4 rfl)) (sC (sC (sC sN))) ⟨rfl,rfl⟩
  ·refine An (AF (Ae (wm rfl (wv (A2 rfl) (vF Mu rfl Mw (vL 0 My rfl (W5 (i:=2) Mv rfl rfl (H':=[.blk b_q [rv (.map (some v_q_0)),rv (.map (some v_q_1))] 59,.map v_q_0 (Br Ax r1.2.fItems),.map v_q_1 (Br Ax ([]:List (Ag×AE)))]) rfl (Bf (wm rfl (wv (A2 rfl) (vF Mu rfl Mw (vL 0 My rfl (wv (r:=rI .i64 (r1.2.fItems.length:Int)) (X4 (N:=r1.2.fItems.length) (i:=1) Mv rfl rfl (JQ _ _)) (wa rfl (Ak (Ai (Ae (wm rfl (wv (Bv (ys:=l) (enc:=Ad) CN rfl) (wv (r:=rI .i64 0) (Al rfl) (Ak (AB (ob h7 λh9 hA hu=>?_)))))))))))))))))))))))
   refine Bk (S:=Nat×(Int×Int×(List (Ag×AE))×(List (Ag×AE)))×(Unit)) (V:=((List (Ag×AE))×(List (Ag×AE)))×(Unit)) 0 (λσ=>BF (λσ=>K6 l σ.1 σ.2.1 σ.2.2.1 σ.2.2.2) σ.1 σ.2.1=some h9) (λσ=>[(0,rP b_q 0),(4,rI .i64 0),(6,rI .i64 σ.2.1.1),(30,AV 4 (List.map Ad l)),(31,rI .i64 (l.length:Int)),(32,rI .i64 σ.2.1.2.1)]) (λσ=>[.blk b_q [rv (.map (some v_q_0)),rv (.map (some v_q_1))] 59,.map v_q_0 (Br Ax σ.2.1.2.2.1),.map v_q_1 (Br Ax σ.2.1.2.2.2)]) (λσ=>σ.1) (F,((r1.2.fItems.length:Int),0,r1.2.fItems,([]:List (Ag×AE))),()) hA (AC.c rfl (AC.c5 rfl rfl rfl rfl rfl AC.nil)) (sC (sC (sC sN))) (λσ=>K4 σ.1.1 σ.1.2=some r) (λσ=>[(0,rP b_q 0),(4,rI .i64 0)]) (λσ=>[.blk b_q [rv (.map (some v_q_0)),rv (.map (some v_q_1))] 59,.map v_q_0 (Br Ax σ.1.1),.map v_q_1 (Br Ax σ.1.2)]) ?_ ?_
   ·rintro⟨gc,⟨hq,hg,hi,hj⟩,⟨⟩⟩ hB
    refine BO (l':=[(0,rP b_q 0),(4,rI .i64 0),(6,rI .i64 hq),(30,AV 4 (List.map Ad l)),(31,rI .i64 (l.length:Int)),(32,rI .i64 hg)]) (H':=[.blk b_q [rv (.map (some v_q_0)),rv (.map (some v_q_1))] 59,.map v_q_0 (Br Ax hi),.map v_q_1 (Br Ax hj)]) rfl rfl ?_
    obtain⟨hC,rfl,hD,hk,hr⟩:=Ce hB
    replace hk:K6 l hq hg hi hj=some hD:=hk
    unfold K6 at hk
    refine Ae (wv (BY rfl rfl) (Ak (Ai (cz hk rfl (λhE hG=>?_) (λhE hH=>?_)))))
    ·refine An (AF (Ai (AB (Ae (ck hG λhI hJ=>wv (Bh (enc:=Ad) (ys:=l) CN BV rfl rfl hI) (wv (D1 GB BV rfl rfl rfl) (BT (cs:=[rS ([]:Ag),rB false,rv (.slice none 0 0),rI .i64 0]) JA rfl rfl (λhw=>?_))))))))
     refine Bj (i:=0) BV rfl rfl rfl (BE.c rfl) rfl rfl (cs':=[rS ((Am l hg).fKey),rB ((Am l hg).fDelete),AV 4 (List.map Ab ((Am l hg).fValue)),rI .i64 ((Am l hg).fIfVersion)]) rfl (H':=[.blk hw (Ad (Am l hg)) 50,.blk b_q [rv (.map (some v_q_0)),rv (.map (some v_q_1))] 59,.map v_q_0 (Br Ax hi),.map v_q_1 (Br Ax hj)]) rfl (Bf (wm rfl (wv (B0 (i:=0) GB BV rfl rfl rfl rfl) (wm rfl (ob hJ λhl hK hL=>Hb (Hr:=[.blk hw (Ad (Am l hg)) 50]) Tryz.call36 (VG b_q v_q_0 v_q_1 (Bs.mk hi hj) (Am l hg) hq hl hK) rfl ((A5 (i:=1) rfl).trans (List.Perm.cons _ ((A5 (i:=1) rfl).trans (List.Perm.cons _ ((A5 (i:=1) rfl).trans (List.Perm.cons _ (List.Perm.refl _))))))) rfl ?_)))))
     rintro _ _ ⟨rfl,rfl⟩
     refine wm rfl (wv (Az rfl rfl) (wv (Az rfl rfl) (wa rfl (wa rfl (Ak (Ai (Ae (wm rfl (wv (CB rfl rfl) (Ak (cz hL rfl (λc80 hN=>?_) (λc80 hO=>?_))))))))))))
     ·refine Ae (wm rfl (wa rfl (Ak (Aq (Ac (Av (Ac (Ac (AS ?_)))))))))
      have hP:=Bm hN hr hu
      refine Av (Ac ?_)
      obtain rfl:=As hP
      exact Ap (BW Zg (A4 rfl)) (sC (sC (sC (sS sN)))) ⟨rfl,rfl⟩
     ·refine An (AF (Af (wm rfl (wa rfl (Aj (A8 (AF (Af (ck hO λhQ hR=>wv (AX rfl rfl hQ) (wm rfl (Aj ?_)))))))))))
      have hS:=Bb hR hr
      exact Ar (A3 (hC,(hl.1,hg+1,hl.2.2.fItems,hl.2.2.fChanged),()) ⟨hS,AcL _⟩ (AC.c rfl (AC.c5 rfl rfl rfl rfl rfl AC.nil)) (sC (sC (sC (sS sN)))))
    ·refine Bo (At ?_)
     have hT:=BI hH hr hu
     exact At (Bc (A3 ((hi,hj),()) hT (AC.c rfl (AC.c rfl AC.nil)) (sC (sC (sC sN)))))
   ·rintro⟨⟨hs,hb⟩,⟨⟩⟩ hm
    refine Cf (l':=[(0,rP b_q 0),(4,rI .i64 0)]) (H':=[.blk b_q [rv (.map (some v_q_0)),rv (.map (some v_q_1))] 59,.map v_q_0 (Br Ax hs),.map v_q_1 (Br Ax hb)]) rfl rfl ?_
    replace hm:K4 hs hb=some r:=hm
    unfold K4 at hm
    refine AZ (AF (Ai (Ae (wm rfl (wv (A2 rfl) (vF Mu rfl Mw (vL 0 My rfl (Zj (i:=2) Mv rfl rfl rfl (λhf=>?_)))))))))
    refine Ak (AB ?_)
    have hU:=AaM hm
    refine Bk (S:=(List (Ag×AE))×((List (Ag×AE)))×(Unit)) (V:=((List (Ag×AE)))×(Unit)) 2 (λσ=>∀q:List (Ag×AE),q.Perm σ.1→Bn (XK (λp τ=>K5 p.1 p.2 τ) q σ.2.1) (B6 λν=>HB hb ν)=some r) (λσ=>[(0,rP b_q 0),(52,rP hf 0)]) (λσ=>[.blk b_q [rv (.map (some v_q_0)),rv (.map (some v_q_1))] 59,.map v_q_0 (Br Ax σ.2.1),.mit v_q_1 hf (Br Ax hb) (Br Ax σ.1) none]) (λσ=>σ.1.length) (hb,hs,()) hU (AC.c rfl (AC.c rfl AC.nil)) (sC (sC (sC sN))) (λσ=>HB hb σ.1=some r) (λσ=>[(0,rP b_q 0),(52,rP hf 0)]) (λσ=>[.blk b_q [rv (.map (some v_q_0)),rv (.map (some v_q_1))] 59,.map v_q_0 (Br Ax σ.1),.map v_q_1 (Br Ax hb)]) ?_ ?_
    ·rintro⟨hx,hd,⟨⟩⟩ hz
     refine BO (l':=[(0,rP b_q 0),(52,rP hf 0)]) (H':=[.blk b_q [rv (.map (some v_q_0)),rv (.map (some v_q_1))] 59,.map v_q_0 (Br Ax hd),.mit v_q_1 hf (Br Ax hb) (Br Ax hx) none]) rfl rfl (Ae (Aa7 (enc:=Ax) (ys:=hx) (i:=2) rfl rfl rfl (λhy=>?_) (λp hh ht=>?_)))
     ·have hV:HB hb hd=some r:=ZE hz hy
      exact wv (Az rfl rfl) (Ak (Ai (E4 rfl rfl (Bo (At (WK.unmit (i:=2) rfl (At (Bc (A3 (hd,()) hV (AC.c rfl (AC.c rfl AC.nil)) (sC (sC (sC sN))))))))))))
     ·obtain⟨he,ha⟩:=p
      obtain⟨hW,hn,h0⟩:=AbJ hz ht
      replace hn:K5 he ha hd=some hW:=hn
      unfold K5 at hn
      refine Aa4 (H':=[.blk b_q [rv (.map (some v_q_0)),rv (.map (some v_q_1))] 59,.map v_q_0 (Br Ax hd),.mit v_q_1 hf (Br Ax hb) (Br Ax hh) (some (he,Ax ha))]) rfl (wv (Az rfl rfl) (Ak (Ai (GD rfl rfl (An (AF (AB (Ae (wv (r:=Cm [rS he,B9 (BJ ha)]) (Z9 (i:=2) rfl rfl) (wv (Az rfl rfl) (wv (Az rfl rfl) (BT (cs:=[rS ([]:Ag),rv (.slice none 0 0),rI .i64 0]) NZ rfl rfl (λho=>?_)))))))))))))
      refine wa rfl (Bj (i:=0) Je rfl rfl rfl (BE.c rfl) rfl rfl (cs':=[rS ha.fKey,AV 4 (List.map Ab ha.fValue),rI .i64 ha.fVersion]) rfl (H':=[.blk ho (BJ ha) 35,.blk b_q [rv (.map (some v_q_0)),rv (.map (some v_q_1))] 59,.map v_q_0 (Br Ax hd),.mit v_q_1 hf (Br Ax hb) (Br Ax hh) (some (he,Ax ha))]) rfl (Ak (Ai (Ae (vF Pr rfl Cq (vL 0 CU rfl (wv (Bx rfl rfl) (Ak (cz hn rfl (λhX hY=>?_) (λhX hZ=>?_))))))))))
      ·refine Ae (wm rfl (wv (A2 rfl) (vF Mu rfl Mw (vL 1 My rfl (wm rfl (Zq (enc:=Ax) (xs:=hd) (i:=2) Mv BC rfl rfl rfl (H':=[.blk ho (BJ ha) 35,.blk b_q [rv (.map (some v_q_0)),rv (.map (some v_q_1))] 59,.map v_q_0 (Br Ax (mdel hd he)),.mit v_q_1 hf (Br Ax hb) (Br Ax hh) (some (he,Ax ha))]) rfl (Ak (Bo (At (AZ (WK.uncur (i:=3) rfl ?_)))))))))))
       have ga:=PW hY h0
       exact Ar (A3 (hh,mdel hd he,()) ⟨ga,Uc ht⟩ (AC.c rfl (AC.c rfl AC.nil)) (sS (sC (sC (sC sN)))))
      ·refine An (AF (Gw 6 [0,11,12,52] [⟨[],rP b_q 0,none,none,none⟩,⟨[0],rP b_q 0,none,none,none⟩,⟨[1],rP b_q 0,none,none,none⟩,⟨[2],rv (.map (some v_q_0)),none,none,none⟩,⟨[],rS he,none,none,none⟩,⟨[],B9 (BJ ha),none,none,none⟩] ?_ (λβ=>?_)))
       ·refine DB (Al rfl) (DB (A2 rfl) (DB (AH Mu rfl Mw rfl rfl) (Xx (Bp (i:=1) My rfl rfl rfl) (DB (Al rfl) (Xx (B0 (i:=0) Qu Je rfl rfl rfl rfl) ?_)))))
        exact Xy
       refine Ha (H1:=[.blk ho (BJ ha) 35,.blk b_q [rv (.map (some v_q_0)),rv (.map (some v_q_1))] 59,.map v_q_0 (Br Ax hd),.mit v_q_1 hf (Br Ax hb) (Br Ax hh) (some (he,Ax ha))]) [66,67,68,69,70,71,0,11,12,52] ?_
       refine NF (enc:=Ax) (xs:=hd) (v:=ha) (i:=2) Mv BC rfl rfl rfl rfl (H':=[.blk ho (BJ ha) 35,.blk b_q [rv (.map (some v_q_0)),rv (.map (some v_q_1))] 59,.map v_q_0 (Br Ax (mset hd he ha)),.mit v_q_1 hf (Br Ax hb) (Br Ax hh) (some (he,Ax ha))]) rfl (Aj (A8 (WK.uncur (i:=3) rfl ?_)))
       have gb:=PW hZ h0
       exact Ar (A3 (hh,mset hd he ha,()) ⟨gb,Uc ht⟩ (AC.c rfl (AC.c rfl AC.nil)) (sS (sC (sC (sC sN)))))
    ·rintro⟨h1,⟨⟩⟩ hp
     refine Cf (l':=[(0,rP b_q 0),(52,rP hf 0)]) (H':=[.blk b_q [rv (.map (some v_q_0)),rv (.map (some v_q_1))] 59,.map v_q_0 (Br Ax h1),.map v_q_1 (Br Ax hb)]) rfl rfl ?_
     replace hp:HB hb h1=some r:=hp
     unfold HB at hp
     refine AZ (AF (Ae (wa rfl (Ak (Aq ?_)))))
     obtain rfl:=As hp
     exact Ap (BW Zg (A4 rfl)) (sC (sC (sC sN))) ⟨rfl,rfl⟩
theorem AaV (x:AE) (r:AE) (h:AaW x=some r):Fn Tryz.prog GE 39 [B9 (BJ x)] [] (λR H=>R=B9 (BJ r)∧H=[]):=by
 refine enter (n:=8) Tryz.func39 rfl Tryz.ntmps39 rfl (λw Z=>?_)
 unfold AaW at h
 refine Ae (Ec rfl rfl (λb1=>?_))
 refine BT (cs:=[rS ([]:Ag),rv (.slice none 0 0),rI .i64 0]) NZ rfl rfl (λb2=>?_)
 refine Bf (vF Pr rfl Dk (vL 1 GS rfl (ob h λr3 e5 h4=>Cg Tryz.call59 (SJ x.fValue r3 e5) rfl (vF Pr rfl Dk (BB (i:=1) Dk rfl rfl (Co rfl) rfl rfl (cs':=[rS x.fKey,AV 4 (List.map Ab r3),rI .i64 x.fVersion]) rfl (H':=[.blk b2 [rS ([]:Ag),rv (.slice none 0 0),rI .i64 0] 35,.blk b1 [rS x.fKey,AV 4 (List.map Ab r3),rI .i64 x.fVersion] 35]) rfl (Bf (wv (B0 (i:=1) Qu Je rfl rfl rfl rfl) (Bj (i:=0) Je rfl rfl rfl (BE.c rfl) rfl rfl (cs':=[rS x.fKey,AV 4 (List.map Ab r3),rI .i64 x.fVersion]) rfl (H':=[.blk b2 [rS x.fKey,AV 4 (List.map Ab r3),rI .i64 x.fVersion] 35,.blk b1 [rS x.fKey,AV 4 (List.map Ab r3),rI .i64 x.fVersion] 35]) rfl (Ak (Aq ?_))))))))))
 obtain rfl:=As h4
 exact Ap (BW Tryz.results39 (Gi (i:=0) Qu Je rfl rfl rfl)) (sS (sS sN)) ⟨rfl,rfl⟩
theorem Abb (b_q:Nat) (v_q_0:Nat) (v_q_1:Nat) (q:Bs) (key:Ag) (r:AE×Bool×Bs) (h:Abc q key=some r):Fn Tryz.prog GE 17 [rP b_q 0,rS key] [.blk b_q [rv (.map (some v_q_0)),rv (.map (some v_q_1))] 59,.map v_q_0 (Br Ax q.fItems),.map v_q_1 (Br Ax q.fChanged)] (λR H=>R=Cm [B9 (BJ r.1),rB r.2.1]∧H=[.blk b_q [rv (.map (some v_q_0)),rv (.map (some v_q_1))] 59,.map v_q_0 (Br Ax r.2.2.fItems),.map v_q_1 (Br Ax r.2.2.fChanged)]):=by
 refine enter (n:=24) Tryz.func17 rfl Tryz.ntmps17 rfl (λw Z=>?_)
 unfold Abc at h
 refine Ae (BT (cs:=[rS ([]:Ag),rv (.slice none 0 0),rI .i64 0]) NZ rfl rfl (λb1=>?_))
 refine wa rfl (Ak (Ai (Ae (wm rfl (ob h λr2 e4 h3=>Hb (Hr:=[.blk b1 [rS ([]:Ag),rv (.slice none 0 0),rI .i64 0] 35]) Tryz.call34 (QM b_q v_q_0 v_q_1 q r2 e4) rfl ((A5 (i:=1) rfl).trans (List.Perm.cons _ ((A5 (i:=1) rfl).trans (List.Perm.cons _ ((A5 (i:=1) rfl).trans (List.Perm.cons _ (List.Perm.refl _))))))) rfl ?_)))))
 rintro _ _ ⟨rfl,rfl⟩
 refine wv (Cd rfl) (Ak (cz h3 rfl (λc5 h6=>?_) (λc5 h7=>?_)))
 ·refine Ae (wv (r:=B9 [rS ([]:Ag),rv (.slice none 0 0),rI .i64 0]) (Li ) (Bj (i:=3) Je rfl rfl rfl (BE.c rfl) rfl rfl (cs':=[rS ([]:Ag),rv (.slice none 0 0),rI .i64 0]) rfl (H':=[.blk b_q [rv (.map (some v_q_0)),rv (.map (some v_q_1))] 59,.map v_q_0 (Br Ax r2.2.fItems),.map v_q_1 (Br Ax r2.2.fChanged),.blk b1 [rS ([]:Ag),rv (.slice none 0 0),rI .i64 0] 35]) rfl (wa rfl (Ak (Aq (Ac (WK.upBlk (i:=3) (cs':=[rS ([]:Ag),AV 4 (List.map Ab ([]:List Aa)),rI .i64 0]) rfl ⟨Up.refl _,Up.le (E1.nil _),Up.refl _,trivial⟩ ?_)))))))
  obtain rfl:=As h6
  exact Ap (Cy Tryz.results17 (Gi (i:=3) Qu Je rfl rfl rfl) (A4 rfl)) (sC (sC (sC (sS sN)))) ⟨rfl,rfl⟩
 ·refine An (AF (Ae (wm rfl (wv (A2 rfl) (vF Mu rfl Mw (vL 0 My rfl (wm rfl (wv (r:=Cm [B9 [rS ((Dc r2.2.fItems key (AE.mk ([]:Ag) ([]:(List Aa)) 0)).fKey),AV 4 (List.map Ab ((Dc r2.2.fItems key (AE.mk ([]:Ag) ([]:(List Aa)) 0)).fValue)),rI .i64 ((Dc r2.2.fItems key (AE.mk ([]:Ag) ([]:(List Aa)) 0)).fVersion)],rB (IR r2.2.fItems key)]) (Uh (enc:=Ax) (xs:=r2.2.fItems) (z:=AE.mk ([]:Ag) ([]:(List Aa)) 0) (i:=1) Mv BC NZ Jp rfl rfl rfl) (wm rfl (wv (Az rfl rfl) (wv (Az rfl rfl) (BT (cs:=[rS ([]:Ag),rv (.slice none 0 0),rI .i64 0]) NZ rfl rfl (λb8=>?_)))))))))))))
  refine Bj (i:=0) Je rfl rfl rfl (BE.c rfl) rfl rfl (cs':=[rS ((Dc r2.2.fItems key (AE.mk ([]:Ag) ([]:(List Aa)) 0)).fKey),AV 4 (List.map Ab ((Dc r2.2.fItems key (AE.mk ([]:Ag) ([]:(List Aa)) 0)).fValue)),rI .i64 ((Dc r2.2.fItems key (AE.mk ([]:Ag) ([]:(List Aa)) 0)).fVersion)]) rfl (H':=[.blk b8 [rS ((Dc r2.2.fItems key (AE.mk ([]:Ag) ([]:(List Aa)) 0)).fKey),AV 4 (List.map Ab ((Dc r2.2.fItems key (AE.mk ([]:Ag) ([]:(List Aa)) 0)).fValue)),rI .i64 ((Dc r2.2.fItems key (AE.mk ([]:Ag) ([]:(List Aa)) 0)).fVersion)] 35,.blk b_q [rv (.map (some v_q_0)),rv (.map (some v_q_1))] 59,.map v_q_0 (Br Ax r2.2.fItems),.map v_q_1 (Br Ax r2.2.fChanged),.blk b1 [rS ([]:Ag),rv (.slice none 0 0),rI .i64 0] 35]) rfl (wa rfl (Bf (wv (B0 (i:=0) Qu Je rfl rfl rfl rfl) (ob h7 λr9 ha hb=>Cg Tryz.call39 (AaV (Dc r2.2.fItems key (AE.mk ([]:Ag) ([]:(List Aa)) 0)) r9 ha) rfl (wm rfl (Bj (i:=4) Je rfl rfl rfl (BE.c rfl) rfl rfl (cs':=[rS r9.fKey,AV 4 (List.map Ab r9.fValue),rI .i64 r9.fVersion]) rfl (H':=[.blk b8 [rS ((Dc r2.2.fItems key (AE.mk ([]:Ag) ([]:(List Aa)) 0)).fKey),AV 4 (List.map Ab ((Dc r2.2.fItems key (AE.mk ([]:Ag) ([]:(List Aa)) 0)).fValue)),rI .i64 ((Dc r2.2.fItems key (AE.mk ([]:Ag) ([]:(List Aa)) 0)).fVersion)] 35,.blk b_q [rv (.map (some v_q_0)),rv (.map (some v_q_1))] 59,.map v_q_0 (Br Ax r2.2.fItems),.map v_q_1 (Br Ax r2.2.fChanged),.blk b1 (BJ r9) 35]) rfl (wa rfl (Ak (Aq ?_)))))))))
  obtain rfl:=As hb
  exact Ap (Cy Tryz.results17 (Gi (i:=4) Qu Je rfl rfl rfl) (A4 rfl)) (sS (sC (sC (sC (sS sN))))) ⟨rfl,rfl⟩
theorem XT (b_q:Nat) (v_q_0:Nat) (v_q_1:Nat) (q:Bs) (r:Int×Bs) (h:ZJ q=some r):Fn Tryz.prog GE 15 [rP b_q 0] [.blk b_q [rv (.map (some v_q_0)),rv (.map (some v_q_1))] 59,.map v_q_0 (Br Ax q.fItems),.map v_q_1 (Br Ax q.fChanged)] (λR H=>R=rI .i64 r.1∧H=[.blk b_q [rv (.map (some v_q_0)),rv (.map (some v_q_1))] 59,.map v_q_0 (Br Ax r.2.fItems),.map v_q_1 (Br Ax r.2.fChanged)]):=by
 refine enter (n:=11) Tryz.func15 rfl Tryz.ntmps15 rfl (λw Z=>?_)
 unfold ZJ at h
 refine Ae (wa rfl (Ak (Ai (Ae (wm rfl (ob h λr1 e3 h2=>Hb (Hr:=[]) Tryz.call34 (QM b_q v_q_0 v_q_1 q r1 e3) rfl (List.Perm.refl _) rfl ?_))))))
 rintro _ _ ⟨rfl,rfl⟩
 refine wv (Cd rfl) (Ak (cz h2 rfl (λc4 h5=>?_) (λc4 h6=>?_)))
 ·refine Ae (wa rfl (Ak (Aq (Ac ?_))))
  obtain rfl:=As h5
  exact Ap (BW Tryz.results15 (A4 rfl)) (sC (sC (sC sN))) ⟨rfl,rfl⟩
 ·refine An (AF (Ae (wm rfl (wv (A2 rfl) (vF Mu rfl Mw (vL 0 My rfl (wv (r:=rI .i64 (r1.2.fItems.length:Int)) (X4 (N:=r1.2.fItems.length) (i:=1) Mv rfl rfl (JQ _ _)) (wa rfl (Ak (Aq ?_))))))))))
  obtain rfl:=As h6
  exact Ap (BW Tryz.results15 (A4 rfl)) (sC (sC (sC sN))) ⟨rfl,rfl⟩
end Go.Proofs.YtjfnokmpfekniaaGreatDoor.Q
namespace Go.Proofs.YtjfnokmpfekniaaGreatDoor
open Go
set_option linter.unusedVariables false
def DM (l:(List Ah)) (hb:Int) (ha:Int):Option (Stp (Int) (Out (Stp (Int) (Out (Bool) (Unit))) (Int×Bool))):=
 Bd (decide (ha<(((Am l hb).fValue).length:Int))) (AN (Cu ha (((Am l hb).fValue).length:Int))<|Bd (decide (5000<(((Am ((Am l hb).fValue) ha).fStr).length:Int))) (some (.out (.ret (.out (.ret false))))) (AN (Bl .i64 (ha+1))<|some (.next (ha+1)))) (some (.out (.go (ha,decide (ha<(((Am l hb).fValue).length:Int))))))
def HA (ha:Int) (hb:Int) (hd:Bool):Option (Stp (Int) (Out (Bool) (Unit))):=
 AN (Bl .i64 (ha+1))<|some (.next (ha+1))
def D2 (F:Nat) (l:(List Ah)) (ha:Int):Option (Stp (Int) (Out (Bool) (Unit))):=
 Bd (decide (ha<(l.length:Int))) (AN (Cu ha (l.length:Int))<|Bd (((decide (300<(((Am l ha).fKey).length:Int)))||(decide (300<(((Am l ha).fValue).length:Int))))) (some (.out (.ret false))) (Bn (BF (λσ=>DM l ha σ) F 0) (B6 λν=>HA ha ν.1 ν.2))) (some (.out (.go ())))
def Ky :Option (Bool):=
 some true
def Jq (F:Nat) (l:(List Ah)):Option (Bool):=
 Bd (decide (300<(l.length:Int))) (some false) (Bn (BF (λσ=>D2 F l σ) F 0) (B6 λν=>Ky ))
def Tz (n:Int) (version:Int):Option (Ah):=
 some (Ah.mk ([107]:Ag) false ([(Aa.mk 3 n ([]:Ag) 0)]:List Aa) version)
def KA :Option (Stp (Unit) (Out (Ag×Int) (Unit))):=
 some (.out (.go ()))
def K9 :Option (Ag×Int):=
 some (([]:Ag),0)
def T6 (F:Nat) :Option (Ag×Int):=
 Bn (BF (λσ=>KA ) F ()) (B6 λν=>K9 )
def In :Option (Stp (Unit) (Out (Ag×Int) (Unit))):=
 some (.out (.go ()))
def Im (F:Nat):Option (Ag×Int):=
 Bn (T6 F) λha=>some (ha.1,ha.2)
def OK (F:Nat) :Option (Ag×Int):=
 Bn (Ll F ([]:List Ah)) λr1=>Bd (!decide (r1=0)) (some (([]:Ag),r1)) (Bn (BF (λσ=>In ) F ()) (B6 λν=>Im F ))
def I1 (F:Nat) :Option (Bool):=
 Bn (Aba) λr1=>Bn (Tz 1 0) λr7=>Bn (Tz 2 0) λhj=>Bn (Ln F r1 ([r7,hj]:List Ah)) λhb=>AN (!(!decide (hb.1=19)))<|Bn (ZJ hb.2) λhd=>AN (!(!decide (hd.1=0)))<|Bn (Tz 5 0) λhk=>Bn (Ln F hd.2 ([hk]:List Ah)) λhe=>Bn (Tz 5 0) λhl=>Bn (Ln F he.2 ([hl]:List Ah)) λhf=>Bn (Tz 6 1) λhm=>Bn (Ln F hf.2 ([hm]:List Ah)) λhg=>Bn (Abc hg.2 ([107]:Ag)) λha=>Bn (Ln F ha.2.2 ([(Ah.mk ([107]:Ag) true ([]:List Aa) 2)]:List Ah)) λhh=>Bn (OK F) λhi=>AN (decide (he.1=0))<|AN (decide (hf.1=19))<|AN (decide (hg.1=0))<|AN (ha.2.1)<|AN (decide (ha.1.fVersion=2))<|AN (decide (hh.1=0))<|Bn (ZJ hh.2) λhn=>AN (decide (hn.1=0))<|AN (decide (hi.1=([]:Ag)))<|some (decide (hi.2=0))
end Go.Proofs.YtjfnokmpfekniaaGreatDoor
namespace Go.Proofs.YtjfnokmpfekniaaGreatDoor.Q
open Go Go.RowKit
set_option linter.unusedVariables false
set_option linter.unusedSimpArgs false
set_option maxRecDepth 100000
set_option maxHeartbeats 4000000
theorem Rb (parts:List (Nat×Value)):Tryz.prog.built 50 parts=Instr.fill (λi=>(#[(0,1),(1,1),(2,1),(3,1)]:Array (Nat×Nat))[i]?) #[(.string ⟨#[]⟩),(.bool false),((.slice none 0 0)),(.int .i64 0)] parts:=by kernel_rfl
theorem He {n:Nat} {c:Cx} {l:Fr} {H:List Ent} {d:Option Nat} {ty:TypeId} {pos:String} {af:Array Edge} {g:Option (Nat×Bool)} {x0:Operand} {r0:Rp} (h0:ev l x0=some r0) (u0:r0.one=true) {x1:Operand} {r1:Rp} (h1:ev l x1=some r1) (u1:r1.one=true) {x3:Operand} {r3:Rp} (h3:ev l x3=some r3) (u3:r3.one=true):Bq Tryz.prog n c l H { dst:=d,op:=.build 50 #[(0,x0),(1,x1),(3,x3)],type:=ty,pos:=pos,after:=af,guard:=g } (B9 [r0,r1,rv (.slice none 0 0),r3]):=λa w Z ha _=>by
  have p0:=ha.ev h0
  have c0:=BR (r0.hone u0 Z _ p0)
  have p1:=ha.ev h1
  have c1:=BR (r1.hone u1 Z _ p1)
  have p3:=ha.ev h3
  have c3:=BR (r3.hone u3 Z _ p3)
  have hb:Tryz.prog.built 50 [(0,a.eval x0),(1,a.eval x1),(3,a.eval x3)]=some #[a.eval x0,a.eval x1,((.slice none 0 0)),a.eval x3]:=by
    rw[Rb]
    generalize a.eval x0=v0 at *
    generalize a.eval x1=v1 at *
    generalize a.eval x3=v3 at *
    simp[Instr.fill,c0,c1,c3]
  refine⟨.agg #[a.eval x0,a.eval x1,((.slice none 0 0)),a.eval x3],⟨[a.eval x0,a.eval x1,((.slice none 0 0)),a.eval x3],rfl,p0,p1,rfl,p3,trivial⟩,?_⟩
  have:=run_build w 50 #[(0,a.eval x0),(1,a.eval x1),(3,a.eval x3)] _ (by simpa using hb)
  simp[execOp,this]
theorem N4 {n:Nat} {c:Cx} {l:Fr} {H:List Ent} {d:Option Nat} {ty:TypeId} {pos:String} {af:Array Edge} {g:Option (Nat×Bool)} {x0:Operand} {r0:Rp} (h0:ev l x0=some r0) (u0:r0.one=true) {x2:Operand} {r2:Rp} (h2:ev l x2=some r2) (u2:r2.one=true) {x3:Operand} {r3:Rp} (h3:ev l x3=some r3) (u3:r3.one=true):Bq Tryz.prog n c l H { dst:=d,op:=.build 50 #[(0,x0),(2,x2),(3,x3)],type:=ty,pos:=pos,after:=af,guard:=g } (B9 [r0,rB false,r2,r3]):=λa w Z ha _=>by
  have p0:=ha.ev h0
  have c0:=BR (r0.hone u0 Z _ p0)
  have p2:=ha.ev h2
  have c2:=BR (r2.hone u2 Z _ p2)
  have p3:=ha.ev h3
  have c3:=BR (r3.hone u3 Z _ p3)
  have hb:Tryz.prog.built 50 [(0,a.eval x0),(2,a.eval x2),(3,a.eval x3)]=some #[a.eval x0,(.bool false),a.eval x2,a.eval x3]:=by
    rw[Rb]
    generalize a.eval x0=v0 at *
    generalize a.eval x2=v2 at *
    generalize a.eval x3=v3 at *
    simp[Instr.fill,c0,c2,c3]
  refine⟨.agg #[a.eval x0,(.bool false),a.eval x2,a.eval x3],⟨[a.eval x0,(.bool false),a.eval x2,a.eval x3],rfl,p0,rfl,p2,p3,trivial⟩,?_⟩
  have:=run_build w 50 #[(0,a.eval x0),(2,a.eval x2),(3,a.eval x3)] _ (by simpa using hb)
  simp[execOp,this]
theorem XN (F:Nat) (l:(List Ah)) (r:Bool) (h:Jq F l=some r):Fn Tryz.prog GE 22 [AV 4 (List.map Ad l)] [] (λR H=>R=rB r∧H=[]):=by
 refine enter (n:=51) Tryz.func22 rfl Tryz.ntmps22 rfl (λw Z=>?_)
 unfold Jq at h
 refine Ae (wa rfl (Ak (Ai (Ae (wm rfl (wv (Bv (ys:=l) (enc:=Ad) CN rfl) (wv (Cb rfl rfl) (Ak (cz h rfl (λc1 h2=>?_) (λc1 h3=>?_))))))))))
 ·refine Ae (wa rfl (Ak (Aq (Ac ?_))))
  obtain rfl:=As h2
  exact Ap (BW Zf (A4 rfl)) sN ⟨rfl,rfl⟩
 ·refine An (AF (Ai (Ae (wm rfl (wv (Bv (ys:=l) (enc:=Ad) CN rfl) (wv (r:=rI .i64 0) (Al rfl) (Ak (AB (ob h3 λhq hr hk=>Bk (S:=Nat×(Int)×(Unit)) (V:=(Unit)×(Unit)) 0 (λσ=>BF (λσ=>D2 F l σ) σ.1 σ.2.1=some hq) (λσ=>[(0,AV 4 (List.map Ad l)),(9,rI .i64 (l.length:Int)),(10,rI .i64 σ.2.1)]) (λσ=>[]) (λσ=>σ.1) (F,0,()) hr (AC.c rfl (AC.c rfl (AC.c rfl AC.nil))) sN (λσ=>Ky =some r) (λσ=>[]) (λσ=>[]) ?_ ?_)))))))))
  ·rintro⟨hU,ha,⟨⟩⟩ hs
   refine BO (l':=[(0,AV 4 (List.map Ad l)),(9,rI .i64 (l.length:Int)),(10,rI .i64 ha)]) (H':=[]) rfl rfl ?_
   obtain⟨ht,rfl,hl,he,hf⟩:=Ce hs
   replace he:D2 F l ha=some hl:=he
   unfold D2 at he
   refine Ae (wv (BY rfl rfl) (Ak (Ai (cz he rfl (λhu hw=>?_) (λhu hx=>?_)))))
   ·refine An (AF (Ai (AB (Ae (wm rfl (wa rfl (Ak (Ai (ck hw λhg hy=>A6 [(0,AV 4 (List.map Ad l)),(3,rI .i64 ha),(9,rI .i64 (l.length:Int)),(10,rI .i64 ha),(28,rB ((decide (300<(((Am l ha).fKey).length:Int)))||(decide (300<(((Am l ha).fValue).length:Int)))))] [] ?_ ?_)))))))))
    ·refine Af (wm rfl (wm rfl (wv (Bh (enc:=Ad) (ys:=l) CN BV rfl rfl hg) (wv (AU C3 rfl CD rfl rfl) (wv (AY Dm rfl rfl) (wv (AW BC rfl) (wv (Cb rfl rfl) (wm rfl (AI (decide (300<(((Am l ha).fKey).length:Int))) (λhb=>?_) (λhb=>?_))))))))))
     ·refine wf hb (wf hb (wf hb (wf hb (wf hb (wf hb (wf hb (wv (r:=rB true) (Au rfl hb rfl) (Aj ?_))))))))
      exact BM hb
     ·refine wo hb (wm rfl (wo hb (wm rfl (wo hb (wv (Bh (enc:=Ad) (ys:=l) CN BV rfl rfl hg) (wo hb (wv (AU C3 rfl Dk rfl rfl) (wo hb (wv (AY GS rfl rfl) (wo hb (wv (Bv (ys:=(Am l ha).fValue) (enc:=Ab) BP rfl) (wo hb (wv (Cb rfl rfl) (DR rfl hb rfl (Aj ?_)))))))))))))))
      exact BM hb
    refine cz hy rfl (λhz h0=>?_) (λhz h1=>?_)
    ·refine Ae (wa rfl (Ak (Aq (Ac (Av (Ac (Ac (AS ?_))))))))
     have h4:=Bm h0 hf hk
     refine Av (Ac ?_)
     obtain rfl:=As h4
     exact Ap (BW Zf (A4 rfl)) sN ⟨rfl,rfl⟩
    ·refine An (AF (Ae (wm rfl (wm rfl (wv (Bh (enc:=Ad) (ys:=l) CN BV rfl rfl hg) (wv (AU C3 rfl Dk rfl rfl) (wv (AY GS rfl rfl) (wv (Bv (ys:=(Am l ha).fValue) (enc:=Ab) BP rfl) (wv (r:=rI .i64 0) (Al rfl) (Ak (AB (ob h1 λh5 h6 hn=>Bk (S:=Nat×(Int)×(Unit)) (V:=(Int×Bool)×(Unit)) 2 (λσ=>BF (λσ=>DM l ha σ) σ.1 σ.2.1=some h5) (λσ=>[(0,AV 4 (List.map Ad l)),(3,rI .i64 ha),(9,rI .i64 (l.length:Int)),(10,rI .i64 ha),(28,rB ((decide (300<(((Am l ha).fKey).length:Int)))||(decide (300<(((Am l ha).fValue).length:Int))))),(29,AV 4 (List.map Ad l)),(30,rI .i64 ha),(33,AV 4 (List.map Ab ((Am l ha).fValue))),(34,rI .i64 (((Am l ha).fValue).length:Int)),(35,rI .i64 σ.2.1)]) (λσ=>[]) (λσ=>σ.1) (F,0,()) h6 (AC.c5 rfl rfl rfl rfl rfl (AC.c5 rfl rfl rfl rfl rfl AC.nil)) sN (λσ=>HA ha σ.1.1 σ.1.2=some hl) (λσ=>[(0,AV 4 (List.map Ad l)),(3,rI .i64 ha),(9,rI .i64 (l.length:Int)),(10,rI .i64 ha),(28,rB ((decide (300<(((Am l ha).fKey).length:Int)))||(decide (300<(((Am l ha).fValue).length:Int))))),(29,AV 4 (List.map Ad l)),(30,rI .i64 ha),(33,AV 4 (List.map Ab ((Am l ha).fValue))),(34,rI .i64 (((Am l ha).fValue).length:Int)),(35,rI .i64 σ.1.1),(36,rB σ.1.2)]) (λσ=>[]) ?_ ?_))))))))))))
     ·rintro⟨hV,hd,⟨⟩⟩ h7
      refine BO (l':=[(0,AV 4 (List.map Ad l)),(3,rI .i64 ha),(9,rI .i64 (l.length:Int)),(10,rI .i64 ha),(28,rB ((decide (300<(((Am l ha).fKey).length:Int)))||(decide (300<(((Am l ha).fValue).length:Int))))),(29,AV 4 (List.map Ad l)),(30,rI .i64 ha),(33,AV 4 (List.map Ab ((Am l ha).fValue))),(34,rI .i64 (((Am l ha).fValue).length:Int)),(35,rI .i64 hd)]) (H':=[]) rfl rfl ?_
      obtain⟨h8,rfl,h9,hh,hm⟩:=Ce h7
      replace hh:DM l ha hd=some h9:=hh
      unfold DM at hh
      refine Ae (wv (BY rfl rfl) (Ak (Ai (cz hh rfl (λhA hB=>?_) (λhA hC=>?_)))))
      ·refine An (AF (Ai (AB (Ae (wm rfl (wa rfl (Bf (wm rfl (wm rfl (wv (Bh (enc:=Ad) (ys:=l) CN BV rfl rfl hg) (wv (AU C3 rfl Dk rfl rfl) (wv (AY GS rfl rfl) (wm rfl (ck hB λhD hE=>wv (Bh (enc:=Ab) (ys:=(Am l ha).fValue) BP Ch rfl rfl hD) (wv (AU B2 rfl CD rfl rfl) (wv (AY Dm rfl rfl) (wv (AW BC rfl) (wv (Cb rfl rfl) (Ak (cz hE rfl (λhG hH=>?_) (λhG hI=>?_)))))))))))))))))))))
       ·refine Ae (wa rfl (Ak (Aq (Av (Ac (Ac (AS ?_)))))))
        have hJ:=Bm hH hm hn
        refine Av (Av (Ac (Ac (AS ?_))))
        have hK:=Bm hJ hf hk
        refine Av (Ac ?_)
        obtain rfl:=As hK
        exact Ap (BW Zf (A4 rfl)) sN ⟨rfl,rfl⟩
       ·refine An (A8 (AF (Af (ck hI λhL hN=>wv (AX rfl rfl hL) (wm rfl (Aj ?_))))))
        have hO:=Bb hN hm
        exact Ar (A3 (h8,hd+1,()) ⟨hO,AcL _⟩ (AC.c5 rfl rfl rfl rfl rfl (AC.c5 rfl rfl rfl rfl rfl AC.nil)) sN)
      ·refine Bo (At ?_)
       have hP:=BI hC hm hn
       exact At (Bc (A3 ((hd,decide (hd<(((Am l ha).fValue).length:Int))),()) hP (AC.c rfl (AC.c5 rfl rfl rfl rfl rfl (AC.c5 rfl rfl rfl rfl rfl AC.nil))) sN))
     ·rintro⟨⟨ho,hp⟩,⟨⟩⟩ hi
      refine Cf (l':=[(0,AV 4 (List.map Ad l)),(3,rI .i64 ha),(9,rI .i64 (l.length:Int)),(10,rI .i64 ha),(28,rB ((decide (300<(((Am l ha).fKey).length:Int)))||(decide (300<(((Am l ha).fValue).length:Int))))),(29,AV 4 (List.map Ad l)),(30,rI .i64 ha),(33,AV 4 (List.map Ab ((Am l ha).fValue))),(34,rI .i64 (((Am l ha).fValue).length:Int)),(35,rI .i64 ho),(36,rB hp)]) (H':=[]) rfl rfl ?_
      replace hi:HA ha ho hp=some hl:=hi
      unfold HA at hi
      refine AZ (A8 (AF (Af (ck hi λhQ hR=>wv (AX rfl rfl hQ) (wm rfl (Aj ?_))))))
      have hS:=Bb hR hf
      exact Ar (A3 (ht,ha+1,()) ⟨hS,AcL _⟩ (AC.c rfl (AC.c rfl (AC.c rfl AC.nil))) sN)
   ·refine Bo (At ?_)
    have hT:=BI hx hf hk
    exact At (Bc (A3 ((),()) hT AC.nil sN))
  ·rintro⟨⟨⟩,⟨⟩⟩ hj
   refine Cf (l':=[]) (H':=[]) rfl rfl ?_
   replace hj:Ky =some r:=hj
   unfold Ky at hj
   refine AZ (AF (Ae (wa rfl (Ak (Aq ?_)))))
   obtain rfl:=As hj
   exact Ap (BW Zf (A4 rfl)) sN ⟨rfl,rfl⟩
theorem OF (n:Int) (version:Int) (r:Ah) (h:Tz n version=some r):Fn Tryz.prog GE 33 [rI .i64 n,rI .i64 version] [] (λR H=>R=B9 (Ad r)∧H=[]):=by
 refine enter (n:=10) Tryz.func33 rfl Tryz.ntmps33 rfl (λw Z=>?_)
 unfold Tz at h
 refine Ae (BT (cs:=[rS ([]:Ag),rB false,rv (.slice none 0 0),rI .i64 0]) JA rfl rfl (λb1=>?_))
 refine Bf (wm rfl (wv (r:=B9 [rI .i64 3,rI .i64 n,rS ([]:Ag),rI .i64 0]) (Ck rfl rfl rfl rfl) (AQ (ys:=([(Aa.mk 3 n ([]:Ag) 0)]:List Aa)) (enc:=Ab) (css:=[[rI .i64 3,rI .i64 n,rS ([]:Ag),rI .i64 0]]) (xs:=[.tmp 6]) BP Ch EH rfl rfl rfl ⟨Eb.agg ⟨Up.refl _,Up.refl _,Up.refl _,Up.refl _,trivial⟩,trivial⟩ rfl AR rfl rfl rfl (λb2=>?_))))
 refine wm rfl (wv (r:=B9 [rS ([107]:Ag),rB false,rv (.slice (some ⟨b2,0,none⟩) 1 1),rI .i64 version]) (N4 rfl rfl rfl rfl rfl rfl) (Bj (i:=1) BV rfl rfl rfl ⟨(Co rfl),(Co rfl),(EE (i:=0) rfl),(Co rfl),trivial⟩ rfl rfl (cs':=[rS ([107]:Ag),rB false,rv (.slice (some ⟨b2,0,none⟩) 1 1),rI .i64 version]) rfl (H':=[.row (.slice (some ⟨b2,0,none⟩) 1 1) 78 4 (List.map Ab ([(Aa.mk 3 n ([]:Ag) 0)]:List Aa)),.blk b1 [rS ([107]:Ag),rB false,rv (.slice (some ⟨b2,0,none⟩) 1 1),rI .i64 version] 50]) rfl (Ak (Aq (WK.freeze (i:=0) rfl (WK.upBlk (i:=1) (cs':=[rS ([107]:Ag),rB false,AV 4 (List.map Ab ([(Aa.mk 3 n ([]:Ag) 0)]:List Aa)),rI .i64 version]) rfl ⟨Up.refl _,Up.refl _,Up.fact (i:=0) rfl,Up.refl _,trivial⟩ ?_))))))
 obtain rfl:=As h
 exact Ap (BW Tryz.results33 (Gi (i:=1) GB BV rfl rfl rfl)) (sS (sS sN)) ⟨rfl,rfl⟩
theorem Yw (F:Nat)  (r:Ag×Int) (h:T6 F=some r):Fn Tryz.prog GE 46 [rv (.slice none 0 0)] [] (λR H=>R=Cm [rS r.1,rI .i64 r.2]∧H=[]):=by
 refine enter (n:=36) Tryz.func46 rfl Tryz.ntmps46 rfl (λw Z=>?_)
 unfold T6 at h
 refine Ae (wv (r:=rS ([]:Ag)) (Ao rfl) (wa rfl (Bf (wa rfl (Ak (Ai (Ae (wm rfl (wv (r:=rI .i64 0) (PO Cn rfl) (wv (r:=rI .i64 0) (Al rfl) (Ak (AB (ob h λo1 eo2 hK3=>Bk (S:=Nat×(Unit)×(Unit)) (V:=(Unit)×(Unit)) 0 (λσ=>BF (λσ=>KA ) σ.1 σ.2.1=some o1) (λσ=>[(2,rS ([]:Ag)),(3,rI .i64 0),(4,rv (.slice none 0 0)),(9,rv (.slice none 0 0)),(10,rI .i64 0),(11,rI .i64 0)]) (λσ=>[]) (λσ=>σ.1) (F,(),()) eo2 (AC.c rfl (AC.c5 rfl rfl rfl rfl rfl AC.nil)) sN (λσ=>K9 =some r) (λσ=>[(2,rS ([]:Ag)),(3,rI .i64 0),(4,rv (.slice none 0 0))]) (λσ=>[]) ?_ ?_)))))))))))))
 ·rintro⟨n9,⟨⟩,⟨⟩⟩ hi7
  refine BO (l':=[(2,rS ([]:Ag)),(3,rI .i64 0),(4,rv (.slice none 0 0)),(9,rv (.slice none 0 0)),(10,rI .i64 0),(11,rI .i64 0)]) (H':=[]) rfl rfl ?_
  obtain⟨m6,rfl,t4,h8,ht5⟩:=Ce hi7
  replace h8:KA =some t4:=h8
  unfold KA at h8
  refine Ae (wv (BY rfl rfl) (Ak (Ai (E4 rfl (by decide) (Bo (At ?_))))))
  have hb:=BI h8 ht5 hK3
  exact At (Bc (A3 ((),()) hb (AC.c rfl (AC.c rfl (AC.c rfl AC.nil))) sN))
 ·rintro⟨⟨⟩,⟨⟩⟩ ha
  refine Cf (l':=[(2,rS ([]:Ag)),(3,rI .i64 0),(4,rv (.slice none 0 0))]) (H':=[]) rfl rfl ?_
  replace ha:K9 =some r:=ha
  unfold K9 at ha
  refine AZ (AF (Ae (wm rfl (wv (r:=rS ([]:Ag)) (V1 E2 BC It rfl) (wa rfl (wa rfl (Ak (Aq ?_))))))))
  obtain rfl:=As ha
  exact Ap (Cy Tryz.results46 (A4 rfl) (A4 rfl)) sN ⟨rfl,rfl⟩
theorem T1 (F:Nat)  (r:Ag×Int) (h:OK F=some r):Fn Tryz.prog GE 23 [rv (.slice none 0 0)] [] (λR H=>R=Cm [rS r.1,rI .i64 r.2]∧H=[]):=by
 refine enter (n:=38) Tryz.func23 rfl Tryz.ntmps23 rfl (λw Z=>?_)
 unfold OK at h
 refine Ae (wv (r:=rS ([]:Ag)) (Ao rfl) (wa rfl (Ak (Ai (Ae (wm rfl (WL.up (d:=10) (r:=AV 4 (List.map Ad ([]:List Ah))) rfl (Up.le (E1.nil _)) (ob h λr1 e3 h2=>Cg Tryz.call35 (OJ F ([]:List Ah) r1 e3) rfl (wa rfl (Bf (wm rfl (wv (CB rfl rfl) (Ak (cz h2 rfl (λc4 h5=>?_) (λc4 h6=>?_)))))))))))))))
 ·refine Ae (wm rfl (wv (r:=rS ([]:Ag)) (Ao rfl) (wa rfl (Ak (Aq (Ac ?_))))))
  obtain rfl:=As h5
  exact Ap (Cy Wo (A4 rfl) (A4 rfl)) sN ⟨rfl,rfl⟩
 ·refine An (AF (Ae (wa rfl (Ak (Ai (Ae (wm rfl (wv (r:=rI .i64 0) (PO CN rfl) (wv (r:=rI .i64 0) (Al rfl) (Ak (AB (ob h6 λo7 eo8 hK9=>Bk (S:=Nat×(Unit)×(Unit)) (V:=(Unit)×(Unit)) 0 (λσ=>BF (λσ=>In ) σ.1 σ.2.1=some o7) (λσ=>[(2,rS ([]:Ag)),(3,rI .i64 0),(5,rv (.slice none 0 0)),(15,rv (.slice none 0 0)),(16,rI .i64 0),(17,rI .i64 0)]) (λσ=>[]) (λσ=>σ.1) (F,(),()) eo8 (AC.c rfl (AC.c5 rfl rfl rfl rfl rfl AC.nil)) sN (λσ=>Im F =some r) (λσ=>[(2,rS ([]:Ag)),(3,rI .i64 0),(5,rv (.slice none 0 0))]) (λσ=>[]) ?_ ?_))))))))))))
  ·rintro⟨hk,⟨⟩,⟨⟩⟩ hd
   refine BO (l':=[(2,rS ([]:Ag)),(3,rI .i64 0),(5,rv (.slice none 0 0)),(15,rv (.slice none 0 0)),(16,rI .i64 0),(17,rI .i64 0)]) (H':=[]) rfl rfl ?_
   obtain⟨hl,rfl,he,ha,hf⟩:=Ce hd
   replace ha:In =some he:=ha
   unfold In at ha
   refine Ae (wv (BY rfl rfl) (Ak (Ai (E4 rfl (by decide) (Bo (At ?_))))))
   have hg:=BI ha hf hK9
   exact At (Bc (A3 ((),()) hg (AC.c rfl (AC.c rfl (AC.c rfl AC.nil))) sN))
  ·rintro⟨⟨⟩,⟨⟩⟩ hb
   refine Cf (l':=[(2,rS ([]:Ag)),(3,rI .i64 0),(5,rv (.slice none 0 0))]) (H':=[]) rfl rfl ?_
   replace hb:Im F =some r:=hb
   unfold Im at hb
   refine AZ (AF (Ae (wm rfl (ob hb λhh hi hj=>Cg Tryz.call46 (Yw F hh hi) rfl (wv (Az rfl rfl) (wv (Az rfl rfl) (wa rfl (wa rfl (Ak (Aq ?_))))))))))
   obtain rfl:=As hj
   exact Ap (Cy Wo (A4 rfl) (A4 rfl)) sN ⟨rfl,rfl⟩
theorem JU (F:Nat)  (r:Bool) (h:I1 F=some r):Fn Tryz.prog GE 10 [] [] (λR H=>R=rB r∧H=[]):=by
 refine enter (n:=86) Tryz.func10 rfl Tryz.ntmps10 rfl (λw Z=>?_)
 unfold I1 at h
 refine Ae (wa rfl (Bf (ob h λr1 e3 h2=>Hb (Hr:=[]) Tryz.call11 (AaZ r1 e3) rfl (List.Perm.refl _) rfl ?_)))
 rintro _ _ ⟨b4,b5,b6,rfl,rfl⟩
 refine wa rfl (Ak (Ai (Ae (wm rfl (wv (r:=rB false) (X3 ⟨_,Tryz.underlying25⟩ rfl) (wm rfl (Bg (b:=false) rfl rfl rfl (wm rfl (Bg (b:=false) rfl rfl rfl (ob h2 λr7 e9 h8=>Cg Wq (OF 1 0 r7 e9) rfl (Bg (b:=false) rfl rfl rfl (ob h8 λha h1 h3=>Cg Wq (OF 2 0 ha h1) rfl (Bg (b:=false) rfl rfl rfl (AQ (ys:=([r7,ha]:List Ah)) (enc:=Ad) (css:=[[rS r7.fKey,rB r7.fDelete,AV 4 (List.map Ab r7.fValue),rI .i64 r7.fIfVersion],[rS ha.fKey,rB ha.fDelete,AV 4 (List.map Ab ha.fValue),rI .i64 ha.fIfVersion]]) (xs:=[.tmp 15,.tmp 16]) CN BV JA rfl rfl rfl ⟨Eb.agg ⟨Up.refl _,Up.refl _,Up.refl _,Up.refl _,trivial⟩,Eb.agg ⟨Up.refl _,Up.refl _,Up.refl _,Up.refl _,trivial⟩,trivial⟩ rfl Cl rfl rfl rfl (λhg=>?_)))))))))))))))
 refine Bg (b:=false) rfl rfl rfl (WL.freeze (i:=0) rfl (WL.up (d:=17) (r:=AV 4 (List.map Ad ([r7,ha]:List Ah))) rfl (Up.fact (i:=0) rfl) (ob h3 λhh h4 h5=>Hb (Hr:=[.fact (.slice (some ⟨hg,0,none⟩) 2 2) (AV 4 (List.map Ad ([r7,ha]:List Ah)))]) Ws (JV F b4 b5 b6 r1 ([r7,ha]:List Ah) hh h4) rfl ((A5 (i:=1) rfl).trans (List.Perm.cons _ ((A5 (i:=1) rfl).trans (List.Perm.cons _ ((A5 (i:=1) rfl).trans (List.Perm.cons _ (List.Perm.refl _))))))) rfl ?_)))
 rintro _ _ ⟨rfl,rfl⟩
 refine Bg (b:=false) rfl rfl rfl (wv (CB rfl rfl) (wv (r:=rB (!decide (hh.1=19))) (A7 (b:=false) rfl rfl rfl) (wm rfl (ck h5 λg17 h6=>Bg (b:=!decide (hh.1=19)) rfl rfl (Bool.not_eq_eq_eq_not.1 g17) (wm rfl (Bg (b:=!decide (hh.1=19)) rfl rfl (Bool.not_eq_eq_eq_not.1 g17) (ob h6 λhl h7 h9=>Hb (Hr:=[.fact (.slice (some ⟨hg,0,none⟩) 2 2) (AV 4 (List.map Ad ([r7,ha]:List Ah)))]) Tryz.call15 (XT b4 b5 b6 hh.2 hl h7) rfl (List.Perm.refl _) rfl ?_)))))))
 rintro _ _ ⟨rfl,rfl⟩
 refine Bg (b:=!decide (hh.1=19)) rfl rfl (Bool.not_eq_eq_eq_not.1 g17) (wv (CB rfl rfl) (wv (r:=rB (!decide (hl.1=0))) (A7 (b:=!decide (hh.1=19)) rfl (Bool.not_eq_eq_eq_not.1 g17) rfl) (Ak (ck h9 λhA hB=>E4 (b:=!decide (hl.1=0)) rfl (Bool.not_eq_eq_eq_not.1 hA) (An (AF (Ae (wm rfl (ob hB λhb hC hD=>Cg Wq (OF 5 0 hb hC) rfl (AQ (ys:=([hb]:List Ah)) (enc:=Ad) (css:=[[rS hb.fKey,rB hb.fDelete,AV 4 (List.map Ab hb.fValue),rI .i64 hb.fIfVersion]]) (xs:=[.tmp 27]) CN BV JA rfl rfl rfl ⟨Eb.agg ⟨Up.refl _,Up.refl _,Up.refl _,Up.refl _,trivial⟩,trivial⟩ rfl Cl rfl rfl rfl (λhi=>?_)))))))))))
 refine WL.freeze (i:=0) rfl (WL.up (d:=28) (r:=AV 4 (List.map Ad ([hb]:List Ah))) rfl (Up.fact (i:=0) rfl) (ob hD λhu hE hG=>Hb (Hr:=[.fact (.slice (some ⟨hi,0,none⟩) 1 1) (AV 4 (List.map Ad ([hb]:List Ah))),.fact (.slice (some ⟨hg,0,none⟩) 2 2) (AV 4 (List.map Ad ([r7,ha]:List Ah)))]) Ws (JV F b4 b5 b6 hl.2 ([hb]:List Ah) hu hE) rfl ((A5 (i:=1) rfl).trans (List.Perm.cons _ ((A5 (i:=1) rfl).trans (List.Perm.cons _ ((A5 (i:=1) rfl).trans (List.Perm.cons _ (List.Perm.refl _))))))) rfl ?_))
 rintro _ _ ⟨rfl,rfl⟩
 refine wa rfl (Bf (wm rfl (ob hG λhd hH hI=>Cg Wq (OF 5 0 hd hH) rfl (AQ (ys:=([hd]:List Ah)) (enc:=Ad) (css:=[[rS hd.fKey,rB hd.fDelete,AV 4 (List.map Ab hd.fValue),rI .i64 hd.fIfVersion]]) (xs:=[.tmp 31]) CN BV JA rfl rfl rfl ⟨Eb.agg ⟨Up.refl _,Up.refl _,Up.refl _,Up.refl _,trivial⟩,trivial⟩ rfl Cl rfl rfl rfl (λhj=>?_)))))
 refine WL.freeze (i:=0) rfl (WL.up (d:=32) (r:=AV 4 (List.map Ad ([hd]:List Ah))) rfl (Up.fact (i:=0) rfl) (ob hI λhw hJ hK=>Hb (Hr:=[.fact (.slice (some ⟨hj,0,none⟩) 1 1) (AV 4 (List.map Ad ([hd]:List Ah))),.fact (.slice (some ⟨hi,0,none⟩) 1 1) (AV 4 (List.map Ad ([hb]:List Ah))),.fact (.slice (some ⟨hg,0,none⟩) 2 2) (AV 4 (List.map Ad ([r7,ha]:List Ah)))]) Ws (JV F b4 b5 b6 hu.2 ([hd]:List Ah) hw hJ) rfl ((A5 (i:=1) rfl).trans (List.Perm.cons _ ((A5 (i:=1) rfl).trans (List.Perm.cons _ ((A5 (i:=1) rfl).trans (List.Perm.cons _ (List.Perm.refl _))))))) rfl ?_))
 rintro _ _ ⟨rfl,rfl⟩
 refine wa rfl (Bf (wm rfl (ob hK λhe hL hN=>Cg Wq (OF 6 1 he hL) rfl (AQ (ys:=([he]:List Ah)) (enc:=Ad) (css:=[[rS he.fKey,rB he.fDelete,AV 4 (List.map Ab he.fValue),rI .i64 he.fIfVersion]]) (xs:=[.tmp 35]) CN BV JA rfl rfl rfl ⟨Eb.agg ⟨Up.refl _,Up.refl _,Up.refl _,Up.refl _,trivial⟩,trivial⟩ rfl Cl rfl rfl rfl (λhk=>?_)))))
 refine WL.freeze (i:=0) rfl (WL.up (d:=36) (r:=AV 4 (List.map Ad ([he]:List Ah))) rfl (Up.fact (i:=0) rfl) (ob hN λhx hO hP=>Hb (Hr:=[.fact (.slice (some ⟨hk,0,none⟩) 1 1) (AV 4 (List.map Ad ([he]:List Ah))),.fact (.slice (some ⟨hj,0,none⟩) 1 1) (AV 4 (List.map Ad ([hd]:List Ah))),.fact (.slice (some ⟨hi,0,none⟩) 1 1) (AV 4 (List.map Ad ([hb]:List Ah))),.fact (.slice (some ⟨hg,0,none⟩) 2 2) (AV 4 (List.map Ad ([r7,ha]:List Ah)))]) Ws (JV F b4 b5 b6 hw.2 ([he]:List Ah) hx hO) rfl ((A5 (i:=1) rfl).trans (List.Perm.cons _ ((A5 (i:=1) rfl).trans (List.Perm.cons _ ((A5 (i:=1) rfl).trans (List.Perm.cons _ (List.Perm.refl _))))))) rfl ?_))
 rintro _ _ ⟨rfl,rfl⟩
 refine wa rfl (Bf (wm rfl (ob hP λhf hQ hR=>Hb (Hr:=[.fact (.slice (some ⟨hk,0,none⟩) 1 1) (AV 4 (List.map Ad ([he]:List Ah))),.fact (.slice (some ⟨hj,0,none⟩) 1 1) (AV 4 (List.map Ad ([hd]:List Ah))),.fact (.slice (some ⟨hi,0,none⟩) 1 1) (AV 4 (List.map Ad ([hb]:List Ah))),.fact (.slice (some ⟨hg,0,none⟩) 2 2) (AV 4 (List.map Ad ([r7,ha]:List Ah)))]) Tryz.call17 (Abb b4 b5 b6 hx.2 ([107]:Ag) hf hQ) rfl (List.Perm.refl _) rfl ?_)))
 rintro _ _ ⟨rfl,rfl⟩
 refine wm rfl (wv (Az rfl rfl) (wv (Az rfl rfl) (BT (cs:=[rS ([]:Ag),rv (.slice none 0 0),rI .i64 0]) NZ rfl rfl (λho=>?_))))
 refine Bj (i:=0) Je rfl rfl rfl (BE.c rfl) rfl rfl (cs':=[rS hf.1.fKey,AV 4 (List.map Ab hf.1.fValue),rI .i64 hf.1.fVersion]) rfl (H':=[.blk ho (BJ hf.1) 35,.blk b4 [rv (.map (some b5)),rv (.map (some b6))] 59,.map b5 (Br Ax hf.2.2.fItems),.map b6 (Br Ax hf.2.2.fChanged),.fact (.slice (some ⟨hk,0,none⟩) 1 1) (AV 4 (List.map Ad ([he]:List Ah))),.fact (.slice (some ⟨hj,0,none⟩) 1 1) (AV 4 (List.map Ad ([hd]:List Ah))),.fact (.slice (some ⟨hi,0,none⟩) 1 1) (AV 4 (List.map Ad ([hb]:List Ah))),.fact (.slice (some ⟨hg,0,none⟩) 2 2) (AV 4 (List.map Ad ([r7,ha]:List Ah)))]) rfl (wa rfl (Bf (wm rfl (wv (r:=B9 [rS ([107]:Ag),rB true,rv (.slice none 0 0),rI .i64 2]) (He rfl rfl rfl rfl rfl rfl) (AQ (ys:=([(Ah.mk ([107]:Ag) true ([]:List Aa) 2)]:List Ah)) (enc:=Ad) (css:=[[rS ([107]:Ag),rB true,AV 4 (List.map Ab ([]:List Aa)),rI .i64 2]]) (xs:=[.tmp 44]) CN BV JA rfl rfl rfl ⟨Eb.agg ⟨Up.refl _,Up.refl _,Up.le (E1.nil _),Up.refl _,trivial⟩,trivial⟩ rfl Cl rfl rfl rfl (λhy=>?_))))))
 refine WL.freeze (i:=0) rfl (WL.up (d:=45) (r:=AV 4 (List.map Ad ([(Ah.mk ([107]:Ag) true ([]:List Aa) 2)]:List Ah))) rfl (Up.fact (i:=0) rfl) (ob hR λhz hS hT=>Hb (Hr:=[.fact (.slice (some ⟨hy,0,none⟩) 1 1) (AV 4 (List.map Ad ([(Ah.mk ([107]:Ag) true ([]:List Aa) 2)]:List Ah))),.blk ho (BJ hf.1) 35,.fact (.slice (some ⟨hk,0,none⟩) 1 1) (AV 4 (List.map Ad ([he]:List Ah))),.fact (.slice (some ⟨hj,0,none⟩) 1 1) (AV 4 (List.map Ad ([hd]:List Ah))),.fact (.slice (some ⟨hi,0,none⟩) 1 1) (AV 4 (List.map Ad ([hb]:List Ah))),.fact (.slice (some ⟨hg,0,none⟩) 2 2) (AV 4 (List.map Ad ([r7,ha]:List Ah)))]) Ws (JV F b4 b5 b6 hf.2.2 ([(Ah.mk ([107]:Ag) true ([]:List Aa) 2)]:List Ah) hz hS) rfl ((A5 (i:=2) rfl).trans (List.Perm.cons _ ((A5 (i:=2) rfl).trans (List.Perm.cons _ ((A5 (i:=2) rfl).trans (List.Perm.cons _ (List.Perm.refl _))))))) rfl ?_))
 rintro _ _ ⟨rfl,rfl⟩
 refine wa rfl (Bf (ob hT λhU hV hW=>Cg Wr (T1 F hU hV) rfl (wm rfl (wv (Az rfl rfl) (wv (Az rfl rfl) (wa rfl (wa rfl (Bf (wm rfl (wv (Bx rfl rfl) (wm rfl (ck hW λhp hX=>wo hp (wm rfl (wo hp (wv (Bx rfl rfl) (EF rfl hp rfl (wm rfl (ck hX λhq hY=>wo hq (wm rfl (wo hq ?_))))))))))))))))))))
 refine wv (Bx rfl rfl) (EF rfl hq rfl (wm rfl (ck hY λh0 hZ=>wo h0 (wm rfl (EF rfl h0 rfl (wm rfl (ck hZ λhm ga=>wo hm (vF Pr rfl Cq (wo hm (vL 4 CU rfl (wo hm (wv (Bx rfl rfl) (EF rfl hm rfl (wm rfl (ck ga λhr gb=>wo hr (wm rfl (wo hr (wv (Bx rfl rfl) (EF rfl hr rfl (wm rfl ?_))))))))))))))))))))
 refine ck gb λhn gc=>wo hn (wm rfl (wo hn (ob gc λgd ge gf=>Hb (Hr:=[.fact (.slice (some ⟨hy,0,none⟩) 1 1) (AV 4 (List.map Ad ([(Ah.mk ([107]:Ag) true ([]:List Aa) 2)]:List Ah))),.blk ho (BJ hf.1) 35,.fact (.slice (some ⟨hk,0,none⟩) 1 1) (AV 4 (List.map Ad ([he]:List Ah))),.fact (.slice (some ⟨hj,0,none⟩) 1 1) (AV 4 (List.map Ad ([hd]:List Ah))),.fact (.slice (some ⟨hi,0,none⟩) 1 1) (AV 4 (List.map Ad ([hb]:List Ah))),.fact (.slice (some ⟨hg,0,none⟩) 2 2) (AV 4 (List.map Ad ([r7,ha]:List Ah)))]) Tryz.call15 (XT b4 b5 b6 hz.2 gd ge) rfl (List.Perm.refl _) rfl ?_)))
 rintro _ _ ⟨rfl,rfl⟩
 refine wo hn (wv (Bx rfl rfl) (EF rfl hn rfl (wm rfl (ck gf λhs gg=>wo hs (wm rfl (wo hs (wv (Ef rfl rfl) (EF rfl hs rfl (wm rfl (ck gg λht gh=>wo ht (wm rfl (wo ht (wv (Bx rfl rfl) (EF rfl ht rfl (wa rfl (Ak (Aq ?_)))))))))))))))))
 obtain rfl:=As gh
 exact Ap (BW Tryz.results10 (A4 rfl)) (sS (sS (sS (sS (sS (sS (sS (sS (sS sN))))))))) ⟨rfl,rfl⟩
end Go.Proofs.YtjfnokmpfekniaaGreatDoor.Q
namespace Go.Proofs.YtjfnokmpfekniaaGreatDoor
open Go
set_option linter.unusedVariables false
structure Wi where
 fMade:Bool
 fItems:(List AE)
 deriving DecidableEq,Inhabited
def Dy (F:Nat) (c:Ah):Option (Int):=
 Bn (Yb F c.fKey) λr2=>Bd (!r2) (some 4) (Bd (((decide (c.fIfVersion<(-1)))||(decide (1000000000000<c.fIfVersion)))) (some 2) (Bd (!c.fDelete) (Bn (Ld F c.fValue) λha=>some ha) (Bd (decide (0<(c.fValue.length:Int))) (some 7) (some 0))))
def Ih (F:Nat) (l:(List Ah)) (ha:Int):Option (Stp (Int) (Out (Int) (Unit))):=
 Bd (decide (ha<(l.length:Int))) (AN (Cu ha (l.length:Int))<|Bn (Dy F (Am l ha)) λhb=>Bd (!decide (hb=0)) (some (.out (.ret hb))) (AN (Bl .i64 (ha+1))<|some (.next (ha+1)))) (some (.out (.go ())))
def NJ :Option (Int):=
 some 0
def Xb (F:Nat) (l:(List Ah)):Option (Int):=
 Bd (decide (256<(l.length:Int))) (some 3) (Bn (BF (λσ=>Ih F l σ) F 0) (B6 λν=>NJ ))
def EB (a:(List Aa)) (b:(List Aa)) (ha:Int):Option (Stp (Int) (Out (Bool) (Unit))):=
 Bd (decide (ha<(a.length:Int))) (AN (Cu ha (a.length:Int))<|AN (Cu ha (b.length:Int))<|Bd (!(decide (((Am a ha).fKind)=((Am b ha).fKind))&&decide (((Am a ha).fInt)=((Am b ha).fInt))&&decide (((Am a ha).fStr)=((Am b ha).fStr))&&decide (((Am a ha).fN)=((Am b ha).fN)))) (some (.out (.ret false))) (AN (Bl .i64 (ha+1))<|some (.next (ha+1)))) (some (.out (.go ())))
def Kn :Option (Bool):=
 some true
def Hd (F:Nat) (a:(List Aa)) (b:(List Aa)):Option (Bool):=
 Bd (!decide ((a.length:Int)=(b.length:Int))) (some false) (Bn (BF (λσ=>EB a b σ) F 0) (B6 λν=>Kn ))
end Go.Proofs.YtjfnokmpfekniaaGreatDoor
namespace Go.Proofs.YtjfnokmpfekniaaGreatDoor.Q
open Go Go.RowKit
set_option linter.unusedVariables false
set_option linter.unusedSimpArgs false
set_option maxRecDepth 100000
set_option maxHeartbeats 4000000
theorem YM {a0 b0:Int} {a1 b1:Int} {a2 b2:Ag} {a3 b3:Int} (w:World):(Op.equalIn 10000 78 (.agg #[.int .i64 a0,.int .i64 a1,.string (B a2),.int .i64 a3]) (.agg #[.int .i64 b0,.int .i64 b1,.string (B b2),.int .i64 b3])).run Tryz.prog w = .ok (decide (a0=b0)&&decide (a1=b1)&&decide (a2=b2)&&decide (a3=b3)) w:=by
  have hS:Tryz.prog.underlying 78=some (.struct (Tryz.prog.fieldsOf 78)):=by kernel_rfl
  have hp:Tryz.prog.stoodInHeld 78=false:=by kernel_rfl
  have u3:=MY
  have ia3:=CU
  have so3:=Cq
  have u9:=BC
  have ia9:=Dm
  have so9:=CD
  have ha:=Tryz.underlying76
  have hb:=E3
  have hd:=Eh
  rw[show(10000:Nat)=9999+1 from rfl,run_equalIn_agg w 9999 78 _ _ hS hp]
  simp only[Program.fieldsOf,B2]
  go_simp
  simp only[G5]
  by_cases h0:a0=b0<;>by_cases h1:a1=b1<;>by_cases h2:a2=b2<;>by_cases h3:a3=b3<;>simp[h0,h1,h2,h3]
theorem Sg {n:Nat} {c:Cx} {l:Fr} {H:List Ent} {d:Option Nat} {ty rty:TypeId} {pos:String} {af:Array Edge} {g:Option (Nat×Bool)} {x y:Operand} {a0 b0:Int} {a1 b1:Int} {a2 b2:Ag} {a3 b3:Int} (hx:ev l x=some (B9 [rI .i64 a0,rI .i64 a1,rS a2,rI .i64 a3])) (hy:ev l y=some (B9 [rI .i64 b0,rI .i64 b1,rS b2,rI .i64 b3])):Bq Tryz.prog n c l H { dst:=d,op:=.binOp .neq 78 x y rty,type:=ty,pos:=pos,after:=af,guard:=g } (rB (!(decide (a0=b0)&&decide (a1=b1)&&decide (a2=b2)&&decide (a3=b3)))):=λa w Z ha hw=>by
  obtain⟨us,e1,q1⟩:=ha.ev hx
  obtain⟨vs,e2,q2⟩:=ha.ev hy
  have k1:=Bz.eq_rv (us:=[.int .i64 a0,.int .i64 a1,.string (B a2),.int .i64 a3]) q1
  have k2:=Bz.eq_rv (us:=[.int .i64 b0,.int .i64 b1,.string (B b2),.int .i64 b3]) q2
  subst k1;subst k2
  have hm:Tryz.prog.eqGuardType Tryz.prog.depth 78=false:=by kernel_rfl
  have hb:=YM (a0:=a0) (a1:=a1) (a2:=a2) (a3:=a3) (b0:=b0) (b1:=b1) (b2:=b2) (b3:=b3) w
  refine⟨.bool (!(decide (a0=b0)&&decide (a1=b1)&&decide (a2=b2)&&decide (a3=b3))),rfl,?_⟩
  have hg:=run_eqGuard_agg (P:=Tryz.prog) w .neq 78 x y #[.int .i64 a0,.int .i64 a1,.string (B a2),.int .i64 a3] #[.int .i64 b0,.int .i64 b1,.string (B b2),.int .i64 b3] hm
  simp only[execOp,e1,e2,Sem.run_bind,hg,Result.andThen_ok,run_neq_struct,hb,Sem.run_pure]
theorem Ow (F:Nat) (c:Ah) (r:Int) (h:Dy F c=some r):Fn Tryz.prog GE 60 [B9 (Ad c)] [] (λR H=>R=rI .i64 r∧H=[]):=by
 refine enter (n:=25) Tryz.func60 rfl Tryz.ntmps60 rfl (λw Z=>?_)
 unfold Dy at h
 refine Ae (Ec rfl rfl (λb1=>?_))
 refine wa rfl (Ak (Ai (Ae (vF C3 rfl CD (vL 0 Dm rfl (ob h λr2 e4 h3=>Cg Tryz.call56 (Abg F c.fKey r2 e4) rfl (wv (Cd rfl) (Ak (cz h3 rfl (λc5 h6=>?_) (λc5 h7=>?_))))))))))
 ·refine Ae (wa rfl (Ak (Aq (Ac ?_))))
  obtain rfl:=As h6
  exact Ap (BW Wm (A4 rfl)) (sS sN) ⟨rfl,rfl⟩
 ·refine An (AF (Ai (A6 [(1,rP b1 0),(14,rB ((decide (c.fIfVersion<(-1)))||(decide (1000000000000<c.fIfVersion))))] [.blk b1 (Ad c) 50] ?_ ?_)))
  ·refine Af (vF C3 rfl Cq (vL 0 CU rfl (wv (BY rfl rfl) (wm rfl (AI (decide (c.fIfVersion<(-1))) (λc8=>?_) (λc8=>?_))))))
   ·refine wf c8 (wf c8 (wf c8 (wv (r:=rB true) (Au rfl c8 rfl) (Aj ?_))))
    exact BM c8
   ·refine wo c8 (vF C3 rfl Cq (wo c8 (vL 0 CU rfl (wo c8 (wv (Cb rfl rfl) (DR rfl c8 rfl (Aj ?_)))))))
    exact BM c8
  refine cz h7 rfl (λc9 ha=>?_) (λc9 hb=>?_)
  ·refine Ae (wa rfl (Ak (Aq (Ac ?_))))
   obtain rfl:=As ha
   exact Ap (BW Wm (A4 rfl)) (sS sN) ⟨rfl,rfl⟩
  ·refine An (AF (Ai (Ae (vF C3 rfl GR (vL 0 MZ rfl (wv (Cd rfl) (Ak (cz hb rfl (λhd he=>?_) (λhd hf=>?_)))))))))
   ·refine Ae (vF C3 rfl Dk (vL 0 GS rfl (ob he λhg hh hi=>Cg Tryz.call57 (O0 F c.fValue hg hh) rfl (wa rfl (Ak (Aq (Ac ?_)))))))
    obtain rfl:=As hi
    exact Ap (BW Wm (A4 rfl)) (sS sN) ⟨rfl,rfl⟩
   ·refine An (AF (Ai (Ae (vF C3 rfl Dk (vL 0 GS rfl (wv (Bv (ys:=c.fValue) (enc:=Ab) BP rfl) (wv (Cb rfl rfl) (Ak (cz hf rfl (λhj hk=>?_) (λhj hl=>?_))))))))))
    ·refine Ae (wa rfl (Ak (Aq (Ac ?_))))
     obtain rfl:=As hk
     exact Ap (BW Wm (A4 rfl)) (sS sN) ⟨rfl,rfl⟩
    ·refine An (AF (Ae (wa rfl (Ak (Aq ?_)))))
     obtain rfl:=As hl
     exact Ap (BW Wm (A4 rfl)) (sS sN) ⟨rfl,rfl⟩
theorem AaE (F:Nat) (l:(List Ah)) (r:Int) (h:Xb F l=some r):Fn Tryz.prog GE 37 [AV 4 (List.map Ad l)] [] (λR H=>R=rI .i64 r∧H=[]):=by
 refine enter (n:=22) Tryz.func37 rfl Tryz.ntmps37 rfl (λw Z=>?_)
 unfold Xb at h
 refine Ae (wa rfl (Ak (Ai (Ae (wm rfl (wv (Bv (ys:=l) (enc:=Ad) CN rfl) (wv (Cb rfl rfl) (Ak (cz h rfl (λc1 h2=>?_) (λc1 h3=>?_))))))))))
 ·refine Ae (wa rfl (Ak (Aq (Ac ?_))))
  obtain rfl:=As h2
  exact Ap (BW Tryz.results37 (A4 rfl)) sN ⟨rfl,rfl⟩
 ·refine An (AF (Ai (Ae (wm rfl (wv (Bv (ys:=l) (enc:=Ad) CN rfl) (wv (r:=rI .i64 0) (Al rfl) (Ak (AB (ob h3 λhg hh hf=>Bk (S:=Nat×(Int)×(Unit)) (V:=(Unit)×(Unit)) 0 (λσ=>BF (λσ=>Ih F l σ) σ.1 σ.2.1=some hg) (λσ=>[(0,AV 4 (List.map Ad l)),(2,rI .i64 0),(9,rI .i64 (l.length:Int)),(10,rI .i64 σ.2.1)]) (λσ=>[]) (λσ=>σ.1) (F,0,()) hh (AC.c rfl (AC.c rfl (AC.c rfl (AC.c rfl AC.nil)))) sN (λσ=>NJ =some r) (λσ=>[(2,rI .i64 0)]) (λσ=>[]) ?_ ?_)))))))))
  ·rintro⟨h1,ha,⟨⟩⟩ hi
   refine BO (l':=[(0,AV 4 (List.map Ad l)),(2,rI .i64 0),(9,rI .i64 (l.length:Int)),(10,rI .i64 ha)]) (H':=[]) rfl rfl ?_
   obtain⟨hj,rfl,t46,hb,he⟩:=Ce hi
   replace hb:Ih F l ha=some t46:=hb
   unfold Ih at hb
   refine Ae (wv (BY rfl rfl) (Ak (Ai (cz hb rfl (λhk hl=>?_) (λhk hm=>?_)))))
   ·refine An (AF (Ai (AB (Ae (wm rfl (wa rfl (Bf (wm rfl (wm rfl (ck hl λhn ho=>wv (Bh (enc:=Ad) (ys:=l) CN BV rfl rfl hn) (wv (D1 GB BV rfl rfl rfl) (ob ho λhp hq hr=>Cg Tryz.call60 (Ow F (Am l ha) hp hq) rfl (wa rfl (Bf (wm rfl (wv (CB rfl rfl) (Ak (cz hr rfl (λhs ht=>?_) (λhs hu=>?_)))))))))))))))))))
    ·refine Ae (wm rfl (wa rfl (Ak (Aq (Av (Ac (Ac (AS ?_))))))))
     have hw:=Bm ht he hf
     refine Av (Ac ?_)
     obtain rfl:=As hw
     exact Ap (BW Tryz.results37 (A4 rfl)) sN ⟨rfl,rfl⟩
    ·refine An (A8 (AF (Af (ck hu λhx hy=>wv (AX rfl rfl hx) (wm rfl (Aj ?_))))))
     have hz:=Bb hy he
     exact Ar (A3 (hj,ha+1,()) ⟨hz,AcL _⟩ (AC.c rfl (AC.c rfl (AC.c rfl (AC.c rfl AC.nil)))) sN)
   ·refine Bo (At ?_)
    have h0:=BI hm he hf
    exact At (Bc (A3 ((),()) h0 (AC.c rfl AC.nil) sN))
  ·rintro⟨⟨⟩,⟨⟩⟩ hd
   refine Cf (l':=[(2,rI .i64 0)]) (H':=[]) rfl rfl ?_
   replace hd:NJ =some r:=hd
   unfold NJ at hd
   refine AZ (AF (Ae (wa rfl (Ak (Aq ?_)))))
   obtain rfl:=As hd
   exact Ap (BW Tryz.results37 (A4 rfl)) sN ⟨rfl,rfl⟩
theorem WZ (F:Nat) (a:(List Aa)) (b:(List Aa)) (r:Bool) (h:Hd F a b=some r):Fn Tryz.prog GE 41 [AV 4 (List.map Ab a),AV 4 (List.map Ab b)] [] (λR H=>R=rB r∧H=[]):=by
 refine enter (n:=26) Tryz.func41 rfl Tryz.ntmps41 rfl (λw Z=>?_)
 unfold Hd at h
 refine Ae (wa rfl (Ak (Ai (Ae (wm rfl (wv (Bv (ys:=a) (enc:=Ab) BP rfl) (wm rfl (wv (Bv (ys:=b) (enc:=Ab) BP rfl) (wv (CB rfl rfl) (Ak (cz h rfl (λc1 h2=>?_) (λc1 h3=>?_))))))))))))
 ·refine Ae (wa rfl (Ak (Aq (Ac ?_))))
  obtain rfl:=As h2
  exact Ap (BW Tryz.results41 (A4 rfl)) sN ⟨rfl,rfl⟩
 ·refine An (AF (Ai (Ae (wm rfl (wv (Bv (ys:=a) (enc:=Ab) BP rfl) (wv (r:=rI .i64 0) (Al rfl) (Ak (AB (ob h3 λhg hh hf=>Bk (S:=Nat×(Int)×(Unit)) (V:=(Unit)×(Unit)) 0 (λσ=>BF (λσ=>EB a b σ) σ.1 σ.2.1=some hg) (λσ=>[(0,AV 4 (List.map Ab a)),(1,AV 4 (List.map Ab b)),(12,rI .i64 (a.length:Int)),(13,rI .i64 σ.2.1)]) (λσ=>[]) (λσ=>σ.1) (F,0,()) hh (AC.c rfl (AC.c rfl (AC.c rfl (AC.c rfl AC.nil)))) sN (λσ=>Kn =some r) (λσ=>[]) (λσ=>[]) ?_ ?_)))))))))
  ·rintro⟨h1,ha,⟨⟩⟩ hi
   refine BO (l':=[(0,AV 4 (List.map Ab a)),(1,AV 4 (List.map Ab b)),(12,rI .i64 (a.length:Int)),(13,rI .i64 ha)]) (H':=[]) rfl rfl ?_
   obtain⟨hj,rfl,hk,hb,he⟩:=Ce hi
   replace hb:EB a b ha=some hk:=hb
   unfold EB at hb
   refine Ae (wv (BY rfl rfl) (Ak (Ai (cz hb rfl (λhl hm=>?_) (λhl hn=>?_)))))
   ·refine An (AF (Ai (AB (Ae (wm rfl (wa rfl (Ak (Ai (ck hm λho hp=>ck hp λhq hr=>CH [0,1,5,12,13] [⟨[],AV 4 (List.map Ab a),0⟩,⟨[],rI .i64 ha,0⟩,⟨[0,1],EL (Ab (Am a ha)),0⟩,⟨[2],B9 (Ab (Am a ha)),0⟩,⟨[],AV 4 (List.map Ab b),0⟩,⟨[],rI .i64 ha,0⟩,⟨[4,5],EL (Ab (Am b ha)),0⟩,⟨[6],B9 (Ab (Am b ha)),0⟩,⟨[3,7],rB (!(decide (((Am a ha).fKind)=((Am b ha).fKind))&&decide (((Am a ha).fInt)=((Am b ha).fInt))&&decide (((Am a ha).fStr)=((Am b ha).fStr))&&decide (((Am a ha).fN)=((Am b ha).fN)))),0⟩] [16,17,18,19,20,21,22,23,24,0,1,12,13] ?_ ?_)))))))))
    ·refine oq (Al rfl) (oq (Al rfl) (oq (Bh (enc:=Ab) (ys:=a) BP Ch rfl rfl ho) (oq (D1 Mx Ch rfl rfl rfl) (oq (Al rfl) (oq (Al rfl) (oq (Bh (enc:=Ab) (ys:=b) BP Ch rfl rfl hq) (oq (D1 Mx Ch rfl rfl rfl) (oq (Sg rfl rfl) ?_))))))))
     exact Cj
    refine AF (cz hr rfl (λhs ht=>?_) (λhs hu=>?_))
    ·refine Ae (wa rfl (Ak (Aq (Av (Ac (Ac (AS ?_)))))))
     have hw:=Bm ht he hf
     refine Av (Ac ?_)
     obtain rfl:=As hw
     exact Ap (BW Tryz.results41 (A4 rfl)) sN ⟨rfl,rfl⟩
    ·refine An (A8 (AF (Af (ck hu λhx hy=>wv (AX rfl rfl hx) (wm rfl (Aj ?_))))))
     have hz:=Bb hy he
     exact Ar (A3 (hj,ha+1,()) ⟨hz,AcL _⟩ (AC.c rfl (AC.c rfl (AC.c rfl (AC.c rfl AC.nil)))) sN)
   ·refine Bo (At ?_)
    have h0:=BI hn he hf
    exact At (Bc (A3 ((),()) h0 AC.nil sN))
  ·rintro⟨⟨⟩,⟨⟩⟩ hd
   refine Cf (l':=[]) (H':=[]) rfl rfl ?_
   replace hd:Kn =some r:=hd
   unfold Kn at hd
   refine AZ (AF (Ae (wa rfl (Ak (Aq ?_)))))
   obtain rfl:=As hd
   exact Ap (BW Tryz.results41 (A4 rfl)) sN ⟨rfl,rfl⟩
end Go.Proofs.YtjfnokmpfekniaaGreatDoor.Q
namespace Go.Proofs.YtjfnokmpfekniaaGreatDoor
open Go
def Lo (k:IntKind) (x y:Int):Int:=k.wrap ((BitVec.ofInt k.bits x&&& BitVec.ofInt k.bits y).toNat:Int)
def Jd (k:IntKind) (x y:Int):Int:=k.wrap ((BitVec.ofInt k.bits x||| BitVec.ofInt k.bits y).toNat:Int)
def EG (k:IntKind) (x y:Int):Int:=k.wrap ((BitVec.ofInt k.bits x^^^BitVec.ofInt k.bits y).toNat:Int)
def QP (k:IntKind) (x:Int):Int:=EG k (if k.signed then -1 else k.max) x
def De (k:IntKind) (x n:Int):Int:=k.wrap (x*2 ^ (min n.toNat k.bits))
def BQ (k:IntKind) (x n:Int):Int:=x.fdiv (2 ^ (min n.toNat k.bits))
set_option linter.unusedVariables false
def GK (hb:Int) (ha:Int):Option (Stp (Int×Int) (Out (Stp (Int×(List Int)) (Out ((List Int)) ((List Int)))) (Int×Int×Bool))):=
 Bd (decide (ha<8)) (AN (Bl .i64 (ha+1))<|some (.next ((bif decide ((Lo .u32 hb 1)=1) then EG .u32 (BQ .u32 hb 1) 3988292384 else BQ .u32 hb 1),ha+1))) (some (.out (.go (hb,ha,decide (ha<8)))))
def IS (ha:Int) (hb:(List Int)) (hd:Int) (he:Int) (hf:Bool):Option (Stp (Int×(List Int)) (Out ((List Int)) ((List Int)))):=
 AN (Cu ha 256)<|AN (Cu ha (hb.length:Int))<|AN (Bl .i64 (ha+1))<|some (.next (ha+1,List.set hb (Int.toNat ha) hd))
def GL (F:Nat) (ha:Int) (hb:(List Int)):Option (Stp (Int×(List Int)) (Out ((List Int)) ((List Int)))):=
 Bd (decide (ha<256)) (Bn (BF (λσ=>GK σ.1 σ.2) F (IntKind.wrap .u32 ha,0)) (B6 λν=>IS ha hb ν.1 ν.2.1 ν.2.2)) (some (.out (.go hb)))
def IT (ha:(List Int)):Option ((List Int)):=
 AN (decide (ha.length=256))<|AN (decide ((List.replicate 256 (0:Int)).length=256))<|some ha
def OP (F:Nat) :Option ((List Int)):=
 Bn (BF (λσ=>GL F σ.1 σ.2) F (0,List.replicate 256 (0:Int))) (B6 λν=>IT ν)
def H3 (s:Ag) (r1:(List Int)) (hb:Int) (ha:Int):Option (Stp (Int×Int) (Out (Int) (Int))):=
 Bd (decide (ha<(s.length:Int))) (AN (Cu ha (s.length:Int))<|AN (Cu (EG .u8 (IntKind.wrap .u8 hb) (AK s ha)) 256)<|AN (Cu (EG .u8 (IntKind.wrap .u8 hb) (AK s ha)) (r1.length:Int))<|AN (Bl .i64 (ha+1))<|some (.next (EG .u32 (Am r1 (EG .u8 (IntKind.wrap .u8 hb) (AK s ha))) (BQ .u32 hb 8),ha+1))) (some (.out (.go hb)))
def NW (ha:Int):Option (Int):=
 some (QP .u32 ha)
def VO (F:Nat) (s:Ag):Option (Int):=
 Bn (OP F) λr1=>AN (decide ((List.replicate 256 (0:Int)).length=256))<|AN (decide (r1.length=256))<|Bn (BF (λσ=>H3 s r1 σ.1 σ.2) F (4294967295,0)) (B6 λν=>NW ν)
def KB (n:Int):Option (Ag):=
 some (Id ([IntKind.wrap .u8 (BQ .u32 n 24),IntKind.wrap .u8 (BQ .u32 n 16),IntKind.wrap .u8 (BQ .u32 n 8),IntKind.wrap .u8 n]:List Int))
def K8 (s:Ag):Option (Int):=
 AN (Cu 0 (s.length:Int))<|AN (Cu 1 (s.length:Int))<|AN (Cu 2 (s.length:Int))<|AN (Cu 3 (s.length:Int))<|some (Jd .u32 (Jd .u32 (Jd .u32 (De .u32 (IntKind.wrap .u32 (AK s 0)) 24) (De .u32 (IntKind.wrap .u32 (AK s 1)) 16)) (De .u32 (IntKind.wrap .u32 (AK s 2)) 8)) (IntKind.wrap .u32 (AK s 3)))
def GY (fields:(List Ag)) (hb:(List Int)) (ha:Int):Option (Stp ((List Int)×Int) (Out (Ag×Int) ((List Int)))):=
 Bd (decide (ha<(fields.length:Int))) (AN (Cu ha (fields.length:Int))<|Bd (decide (4000<((Am fields ha).length:Int))) (some (.out (.ret (([]:Ag),3)))) (AN (Dw 1 (hb.length+([IntKind.wrap .u8 (BQ .i64 ((Am fields ha).length:Int) 8),IntKind.wrap .u8 ((Am fields ha).length:Int)]:List Int).length))<|AN (Dw 1 ((hb++([IntKind.wrap .u8 (BQ .i64 ((Am fields ha).length:Int) 8),IntKind.wrap .u8 ((Am fields ha).length:Int)]:List Int)).length+(Am fields ha).length))<|AN (Bl .i64 (ha+1))<|some (.next ((hb++([IntKind.wrap .u8 (BQ .i64 ((Am fields ha).length:Int) 8),IntKind.wrap .u8 ((Am fields ha).length:Int)]:List Int))++CM (Am fields ha),ha+1)))) (some (.out (.go hb)))
def Mk (ha:(List Int)):Option (Ag×Int):=
 some (Id ha,0)
def Qi (F:Nat) (fields:(List Ag)):Option (Ag×Int):=
 Bd (decide (64<(fields.length:Int))) (some (([]:Ag),3)) (Bn (BF (λσ=>GY fields σ.1 σ.2) F (([IntKind.wrap .u8 (fields.length:Int)]:List Int),0)) (B6 λν=>Mk ν))
def DZ (ha:Int):Option ((List Ag)×Int):=
 some (([]:List Ag),ha)
def CL (s:Ag) (ha:Ag) (hb:(List Ag)) (hh:Int) (hd:Int):Option (Stp (Ag×(List Ag)×Int×Int) (Out ((List Ag)×Int) (Ag×(List Ag)))):=
 Bd (decide (hd<(AK s 0))) (Bd (decide ((ha.length:Int)<2)) (Bn (DZ 14) λhe=>some (.out (.ret he))) (AN (Cu 0 (ha.length:Int))<|AN (Bl .i64 (AK ha 0))<|AN (Cu 1 (ha.length:Int))<|AN (Bl .i64 (AK ha 1))<|AN (GJ 2 (ha.length:Int))<|Bd (decide (4000<(Jd .i64 (De .i64 (AK ha 0) 8) (AK ha 1)))) (Bn (DZ 13) λhf=>some (.out (.ret hf))) (Bd (decide (((List.drop (Int.toNat 2) ha).length:Int)<(Jd .i64 (De .i64 (AK ha 0) 8) (AK ha 1)))) (Bn (DZ 14) λhg=>some (.out (.ret hg))) (AN (GJ (Jd .i64 (De .i64 (AK ha 0) 8) (AK ha 1)) ((List.drop (Int.toNat 2) ha).length:Int))<|AN (Dw 16 (hb.length+([List.take (Int.toNat (Jd .i64 (De .i64 (AK ha 0) 8) (AK ha 1))) (List.drop (Int.toNat 2) ha)]:List Ag).length))<|AN (Bl .i64 (hd+1))<|some (.next (List.drop (Int.toNat (Jd .i64 (De .i64 (AK ha 0) 8) (AK ha 1))) (List.drop (Int.toNat 2) ha),hb++([List.take (Int.toNat (Jd .i64 (De .i64 (AK ha 0) 8) (AK ha 1))) (List.drop (Int.toNat 2) ha)]:List Ag),Jd .i64 (De .i64 (AK ha 0) 8) (AK ha 1),hd+1)))))) (some (.out (.go (ha,hb))))
def Gc (hb:Ag) (ha:(List Ag)):Option ((List Ag)×Int):=
 Bd (!decide (hb=([]:Ag))) (DZ 13) (AN (GJ (ha.length:Int) (ha.length:Int))<|some (List.take (Int.toNat (ha.length:Int)) ha,0))
def Mj (F:Nat) (s:Ag):Option ((List Ag)×Int):=
 Bd (decide (s=([]:Ag))) (DZ 14) (AN (Cu 0 (s.length:Int))<|AN (Bl .i64 (AK s 0))<|AN (GJ 1 (s.length:Int))<|Bd (decide (64<(AK s 0))) (DZ 13) (Bn (BF (λσ=>CL s σ.1 σ.2.1 σ.2.2.1 σ.2.2.2) F (List.drop (Int.toNat 1) s,([]:List Ag),0,0)) (B6 λν=>Gc ν.1 ν.2)))
def OU (F:Nat) (body:Ag):Option (Ag×Int):=
 Bd (decide (262136<(body.length:Int))) (some (([]:Ag),3)) (Bn (KB (IntKind.wrap .u32 (body.length:Int))) λr4=>Bn (VO F body) λr7=>Bn (KB r7) λha=>AN (Bl .i64 ((r4.length:Int)+(ha.length:Int)))<|AN (Bl .i64 (((r4++ha).length:Int)+(body.length:Int)))<|some ((r4++ha)++body,0))
def S7 (F:Nat) (s:Ag):Option (Ag×Int×Int):=
 Bd (decide ((s.length:Int)<8)) (some (([]:Ag),0,14)) (Bn (K8 s) λr4=>Bd (decide (262136<(IntKind.wrap .i64 r4))) (some (([]:Ag),0,13)) (AN (Bl .i64 ((s.length:Int)-8))<|Bd (decide (((s.length:Int)-8)<(IntKind.wrap .i64 r4))) (some (([]:Ag),0,14)) (AN (Bl .i64 (8+(IntKind.wrap .i64 r4)))<|AN (GJ 8 (8+(IntKind.wrap .i64 r4)))<|AN (GJ (8+(IntKind.wrap .i64 r4)) (s.length:Int))<|Bn (VO F (List.take (Int.toNat (8+(IntKind.wrap .i64 r4))-Int.toNat 8) (List.drop (Int.toNat 8) s))) λha=>AN (GJ 4 (s.length:Int))<|Bn (K8 (List.drop (Int.toNat 4) s)) λhb=>Bd (!decide (ha=hb)) (some (([]:Ag),0,13)) (some (List.take (Int.toNat (8+(IntKind.wrap .i64 r4))-Int.toNat 8) (List.drop (Int.toNat 8) s),8+(IntKind.wrap .i64 r4),0)))))
def GM (F:Nat) (s:Ag) (hd:(List Ag)) (ha:Int):Option (Stp ((List Ag)×Int) (Out ((List Ag)×Int) ((List Ag)×Int))):=
 Bd (decide (ha<(s.length:Int))) (AN (GJ ha (s.length:Int))<|Bn (S7 F (List.drop (Int.toNat ha) s)) λhb=>Bd (!decide (hb.2.2=0)) (some (.out (.go (hd,ha)))) (AN (Dw 16 (hd.length+([hb.1]:List Ag).length))<|AN (Bl .i64 (ha+hb.2.1))<|some (.next (hd++([hb.1]:List Ag),ha+hb.2.1)))) (some (.out (.go (hd,ha))))
def IV (ha:(List Ag)) (hb:Int):Option ((List Ag)×Int):=
 AN (GJ (ha.length:Int) (ha.length:Int))<|some (List.take (Int.toNat (ha.length:Int)) ha,hb)
def OT (F:Nat) (s:Ag):Option ((List Ag)×Int):=
 Bn (BF (λσ=>GM F s σ.1 σ.2) F (([]:List Ag),0)) (B6 λν=>IV ν.1 ν.2)
def G4 (F:Nat) (bodies:(List Ag)) (hb:(List Int)) (hd:Int):Option (Stp ((List Int)×Int) (Out (Ag×Int) ((List Int)))):=
 Bd (decide (hd<(bodies.length:Int))) (AN (Cu hd (bodies.length:Int))<|Bn (OU F (Am bodies hd)) λha=>AN (imp (!(!decide (ha.2=0))) (Bl .i64 ((hb.length:Int)+(ha.1.length:Int))))<|Bd (((!decide (ha.2=0))||(decide (262144<((hb.length:Int)+(ha.1.length:Int)))))) (some (.out (.ret (([]:Ag),3)))) (AN (Dw 1 (hb.length+ha.1.length))<|AN (Bl .i64 (hd+1))<|some (.next (hb++CM ha.1,hd+1)))) (some (.out (.go hb)))
def JX (ha:(List Int)):Option (Ag×Int):=
 some (Id ha,0)
def S8 (F:Nat) (bodies:(List Ag)):Option (Ag×Int):=
 Bn (BF (λσ=>G4 F bodies σ.1 σ.2) F (([]:List Int),0)) (B6 λν=>JX ν)
def HP (hb:Int) (ha:Int):Option (Stp (Int×Int) (Out (Stp (Int×Int) (Out (Int) (Int))) (Int×Int×Int×Bool))):=
 Bd (decide (ha<8)) (AN (Bl .i64 (ha+1))<|some (.next ((bif decide ((Lo .u32 hb 1)=1) then EG .u32 (BQ .u32 hb 1) 3988292384 else BQ .u32 hb 1),ha+1))) (some (.out (.go (hb,ha,ha,decide (ha<8)))))
def JM (ha:Int) (hb:Int) (hd:Int) (he:Int) (hf:Bool):Option (Stp (Int×Int) (Out (Int) (Int))):=
 AN (Bl .i64 (ha+1))<|some (.next (hb,ha+1))
def Gz (F:Nat) (s:Ag) (hb:Int) (ha:Int):Option (Stp (Int×Int) (Out (Int) (Int))):=
 Bd (decide (ha<(s.length:Int))) (AN (Cu ha (s.length:Int))<|Bn (BF (λσ=>HP σ.1 σ.2) F (EG .u32 hb (IntKind.wrap .u32 (AK s ha)),0)) (B6 λν=>JM ha ν.1 ν.2.1 ν.2.2.1 ν.2.2.2)) (some (.out (.go hb)))
def LJ (ha:Int):Option (Int):=
 some (QP .u32 ha)
def PJ (F:Nat) (s:Ag):Option (Int):=
 Bn (BF (λσ=>Gz F s σ.1 σ.2) F (4294967295,0)) (B6 λν=>LJ ν)
def Le (n:Int):Option ((List Int)):=
 some ([IntKind.wrap .u8 (BQ .u32 n 24),IntKind.wrap .u8 (BQ .u32 n 16),IntKind.wrap .u8 (BQ .u32 n 8),IntKind.wrap .u8 n]:List Int)
def Gn (fields:(List Ag)) (hb:(List Int)) (ha:Int):Option (Stp ((List Int)×Int) (Out (Ag×Int) ((List Int)))):=
 Bd (decide (ha<(fields.length:Int))) (AN (Cu ha (fields.length:Int))<|Bd (decide (4000<((Am fields ha).length:Int))) (some (.out (.ret (([]:Ag),3)))) (AN (Bl .i64 (Int.tdiv ((Am fields ha).length:Int) 256))<|AN (Dw 1 (hb.length+([IntKind.wrap .u8 (Int.tdiv ((Am fields ha).length:Int) 256),IntKind.wrap .u8 (Int.tmod ((Am fields ha).length:Int) 256)]:List Int).length))<|AN (Dw 1 ((hb++([IntKind.wrap .u8 (Int.tdiv ((Am fields ha).length:Int) 256),IntKind.wrap .u8 (Int.tmod ((Am fields ha).length:Int) 256)]:List Int)).length+(Am fields ha).length))<|AN (Bl .i64 (ha+1))<|some (.next ((hb++([IntKind.wrap .u8 (Int.tdiv ((Am fields ha).length:Int) 256),IntKind.wrap .u8 (Int.tmod ((Am fields ha).length:Int) 256)]:List Int))++CM (Am fields ha),ha+1)))) (some (.out (.go hb)))
def Ko (ha:(List Int)):Option (Ag×Int):=
 some (Id ha,0)
def JL (F:Nat) (fields:(List Ag)):Option (Ag×Int):=
 Bd (decide (64<(fields.length:Int))) (some (([]:Ag),3)) (Bn (BF (λσ=>Gn fields σ.1 σ.2) F (([IntKind.wrap .u8 (fields.length:Int)]:List Int),0)) (B6 λν=>Ko ν))
def Cz (s:Ag) (hb:(List Ag)) (ha:Int) (hd:Int):Option (Stp ((List Ag)×Int×Int) (Out ((List Ag)×Int) ((List Ag)×Int))):=
 Bd (decide (hd<(AK s 0))) (AN (Bl .i64 ((s.length:Int)-ha))<|Bd (decide (((s.length:Int)-ha)<2)) (some (.out (.ret (([]:List Ag),14)))) (AN (Cu ha (s.length:Int))<|AN (Bl .i64 (AK s ha))<|AN (Bl .i64 ((AK s ha)*256))<|AN (Bl .i64 (ha+1))<|AN (Cu (ha+1) (s.length:Int))<|AN (Bl .i64 (AK s (ha+1)))<|AN (Bl .i64 (((AK s ha)*256)+(AK s (ha+1))))<|Bd (decide (4000<(((AK s ha)*256)+(AK s (ha+1))))) (some (.out (.ret (([]:List Ag),13)))) (AN (Bl .i64 (((s.length:Int)-ha)-2))<|Bd (decide ((((s.length:Int)-ha)-2)<(((AK s ha)*256)+(AK s (ha+1))))) (some (.out (.ret (([]:List Ag),14)))) (AN (Bl .i64 (ha+2))<|AN (Bl .i64 ((ha+2)+(((AK s ha)*256)+(AK s (ha+1)))))<|AN (GJ (ha+2) ((ha+2)+(((AK s ha)*256)+(AK s (ha+1)))))<|AN (GJ ((ha+2)+(((AK s ha)*256)+(AK s (ha+1)))) (s.length:Int))<|AN (Dw 16 (hb.length+([List.take (Int.toNat ((ha+2)+(((AK s ha)*256)+(AK s (ha+1))))-Int.toNat (ha+2)) (List.drop (Int.toNat (ha+2)) s)]:List Ag).length))<|AN (Bl .i64 (hd+1))<|some (.next (hb++([List.take (Int.toNat ((ha+2)+(((AK s ha)*256)+(AK s (ha+1))))-Int.toNat (ha+2)) (List.drop (Int.toNat (ha+2)) s)]:List Ag),(ha+2)+(((AK s ha)*256)+(AK s (ha+1))),hd+1)))))) (some (.out (.go (hb,ha))))
def Et (s:Ag) (ha:(List Ag)) (hb:Int):Option ((List Ag)×Int):=
 Bd (decide (hb<(s.length:Int))) (some (([]:List Ag),13)) (some (ha,0))
def JK (F:Nat) (s:Ag):Option ((List Ag)×Int):=
 Bd (decide ((s.length:Int)<1)) (some (([]:List Ag),14)) (AN (Cu 0 (s.length:Int))<|Bd (decide (64<(AK s 0))) (some (([]:List Ag),13)) (AN (Bl .i64 (AK s 0))<|Bn (BF (λσ=>Cz s σ.1 σ.2.1 σ.2.2) F (([]:List Ag),1,0)) (B6 λν=>Et s ν.1 ν.2)))
def M9 (F:Nat) (body:Ag):Option (Ag×Int):=
 Bd (decide (262136<(body.length:Int))) (some (([]:Ag),3)) (Bn (Le (IntKind.wrap .u32 (body.length:Int))) λr4=>Bn (PJ F body) λr7=>Bn (Le r7) λha=>AN (Bl .i64 (((Id r4).length:Int)+((Id ha).length:Int)))<|AN (Bl .i64 ((((Id r4)++(Id ha)).length:Int)+(body.length:Int)))<|some (((Id r4)++(Id ha))++body,0))
def O2 (F:Nat) (s:Ag):Option (Ag×Int×Int):=
 Bd (decide ((s.length:Int)<8)) (some (([]:Ag),0,14)) (AN (Cu 0 (s.length:Int))<|AN (Bl .i64 (AK s 0))<|AN (Bl .i64 ((AK s 0)*256))<|AN (Cu 1 (s.length:Int))<|AN (Bl .i64 (AK s 1))<|AN (Bl .i64 (((AK s 0)*256)+(AK s 1)))<|AN (Bl .i64 ((((AK s 0)*256)+(AK s 1))*256))<|AN (Cu 2 (s.length:Int))<|AN (Bl .i64 (AK s 2))<|AN (Bl .i64 (((((AK s 0)*256)+(AK s 1))*256)+(AK s 2)))<|AN (Bl .i64 ((((((AK s 0)*256)+(AK s 1))*256)+(AK s 2))*256))<|AN (Cu 3 (s.length:Int))<|AN (Bl .i64 (AK s 3))<|AN (Bl .i64 (((((((AK s 0)*256)+(AK s 1))*256)+(AK s 2))*256)+(AK s 3)))<|Bd (decide (262136<(((((((AK s 0)*256)+(AK s 1))*256)+(AK s 2))*256)+(AK s 3)))) (some (([]:Ag),0,13)) (AN (Bl .i64 ((s.length:Int)-8))<|Bd (decide (((s.length:Int)-8)<(((((((AK s 0)*256)+(AK s 1))*256)+(AK s 2))*256)+(AK s 3)))) (some (([]:Ag),0,14)) (AN (Bl .i64 (8+(((((((AK s 0)*256)+(AK s 1))*256)+(AK s 2))*256)+(AK s 3))))<|AN (GJ 8 (8+(((((((AK s 0)*256)+(AK s 1))*256)+(AK s 2))*256)+(AK s 3))))<|AN (GJ (8+(((((((AK s 0)*256)+(AK s 1))*256)+(AK s 2))*256)+(AK s 3))) (s.length:Int))<|Bn (PJ F (List.take (Int.toNat (8+(((((((AK s 0)*256)+(AK s 1))*256)+(AK s 2))*256)+(AK s 3)))-Int.toNat 8) (List.drop (Int.toNat 8) s))) λha=>Bn (Le ha) λhb=>AN (GJ 4 8)<|AN (GJ 8 (s.length:Int))<|Bd (!decide ((Id hb)=(List.take (Int.toNat 8-Int.toNat 4) (List.drop (Int.toNat 4) s)))) (some (([]:Ag),0,13)) (some (List.take (Int.toNat (8+(((((((AK s 0)*256)+(AK s 1))*256)+(AK s 2))*256)+(AK s 3)))-Int.toNat 8) (List.drop (Int.toNat 8) s),8+(((((((AK s 0)*256)+(AK s 1))*256)+(AK s 2))*256)+(AK s 3)),0)))))
def Ga (F:Nat) (s:Ag) (hd:(List Ag)) (ha:Int):Option (Stp ((List Ag)×Int) (Out ((List Ag)×Int) (Unit))):=
 AN (GJ ha (s.length:Int))<|Bn (O2 F (List.drop (Int.toNat ha) s)) λhb=>Bd (!decide (hb.2.2=0)) (some (.out (.ret (hd,ha)))) (AN (Dw 16 (hd.length+([hb.1]:List Ag).length))<|AN (Bl .i64 (ha+hb.2.1))<|some (.next (hd++([hb.1]:List Ag),ha+hb.2.1)))
def O1 :Option ((List Ag)×Int):=
 none
def LG (F:Nat) (s:Ag):Option ((List Ag)×Int):=
 Bn (BF (λσ=>Ga F s σ.1 σ.2) F (([]:List Ag),0)) (B6 λν=>O1 )
def EC (F:Nat) (bodies:(List Ag)) (hb:(List Int)) (ha:Int):Option (Stp ((List Int)×Int) (Out (Ag×Int) ((List Int)))):=
 Bd (decide (ha<(bodies.length:Int))) (AN (Cu ha (bodies.length:Int))<|Bn (M9 F (Am bodies ha)) λhd=>AN (Dw 1 (hb.length+hd.1.length))<|AN (Bl .i64 (ha+1))<|some (.next (hb++CM hd.1,ha+1))) (some (.out (.go hb)))
def IM (ha:(List Int)):Option (Ag×Int):=
 some (Id ha,0)
def ED (bodies:(List Ag)) (hb:Int) (ha:Int):Option (Stp (Int×Int) (Out (Ag×Int) (Int))):=
 Bd (decide (ha<(bodies.length:Int))) (AN (Cu ha (bodies.length:Int))<|AN (imp (!(decide (262136<((Am bodies ha).length:Int)))) (Bl .i64 (hb+8)))<|AN (imp (!(decide (262136<((Am bodies ha).length:Int)))) (Bl .i64 ((hb+8)+((Am bodies ha).length:Int))))<|Bd (((decide (262136<((Am bodies ha).length:Int)))||(decide (262144<((hb+8)+((Am bodies ha).length:Int)))))) (some (.out (.ret (([]:Ag),3)))) (AN (Bl .i64 (hb+8))<|AN (Bl .i64 ((hb+8)+((Am bodies ha).length:Int)))<|AN (Bl .i64 (ha+1))<|some (.next ((hb+8)+((Am bodies ha).length:Int),ha+1)))) (some (.out (.go hb)))
def H9 (F:Nat) (bodies:(List Ag)) (ha:Int):Option (Ag×Int):=
 AN (Dw 1 (Int.toNat ha))<|AN (decide (0≤ha))<|Bn (BF (λσ=>EC F bodies σ.1 σ.2) F (([]:List Int),0)) (B6 λν=>IM ν)
def O3 (F:Nat) (bodies:(List Ag)):Option (Ag×Int):=
 Bn (BF (λσ=>ED bodies σ.1 σ.2) F (0,0)) (B6 λν=>H9 F bodies ν)
end Go.Proofs.YtjfnokmpfekniaaGreatDoor
namespace Go.Proofs.YtjfnokmpfekniaaGreatDoor.Q
open Go Go.RowKit
set_option linter.unusedVariables false
set_option linter.unusedSimpArgs false
section
variable {P : Program} {n : Nat} {c : Cx} {l : Fr} {H : List Ent} {d : Option Nat} {x y : Operand} {t t' ty : TypeId} {pos : String} {af : Array Edge} {g : Option (Nat × Bool)} {k k' : IntKind} {p q : Int}
theorem Aas (hx:ev l x=some (rI k p)) (hy:ev l y=some (rI k q)):Bq P n c l H { dst:=d,op:=.binOp .and t x y t',type:=ty,pos:=pos,after:=af,guard:=g } (rI k (Lo k p q)):=λa w Z ha _=>CQ<|by
 simp[execOp,ha.eval hx,ha.eval hy,Bw,binOp,Op.intBits,Lo]
theorem Z5 (hx:ev l x=some (rI k p)) (hy:ev l y=some (rI k q)):Bq P n c l H { dst:=d,op:=.binOp .or t x y t',type:=ty,pos:=pos,after:=af,guard:=g } (rI k (Jd k p q)):=λa w Z ha _=>CQ<|by
 simp[execOp,ha.eval hx,ha.eval hy,Bw,binOp,Op.intBits,Jd]
theorem Sc (hx:ev l x=some (rI k p)) (hy:ev l y=some (rI k q)):Bq P n c l H { dst:=d,op:=.binOp .xor t x y t',type:=ty,pos:=pos,after:=af,guard:=g } (rI k (EG k p q)):=λa w Z ha _=>CQ<|by
 simp[execOp,ha.eval hx,ha.eval hy,Bw,binOp,Op.intBits,EG]
theorem Ug (hx:ev l x=some (rI k p)) (hy:ev l y=some (rI k' q)) (h0:decide (0≤q)=true):Bq P n c l H { dst:=d,op:=.binOp .shl t x y t',type:=ty,pos:=pos,after:=af,guard:=g } (rI k (De k p q)):=λa w Z ha _=>CQ<|by
 have h1 : ¬ q<0:=by have:=AcM h0;omega
 simp[execOp,ha.eval hx,ha.eval hy,Bw,binOp,Op.shift,De,h1]
theorem JN (hx:ev l x=some (rI k p)) (hy:ev l y=some (rI k' q)) (h0:decide (0≤q)=true):Bq P n c l H { dst:=d,op:=.binOp .shr t x y t',type:=ty,pos:=pos,after:=af,guard:=g } (rI k (BQ k p q)):=λa w Z ha _=>CQ<|by
 have h1 : ¬ q<0:=by have:=AcM h0;omega
 simp[execOp,ha.eval hx,ha.eval hy,Bw,binOp,Op.shift,BQ,h1]
theorem Uj (hx:ev l x=some (rI k p)):Bq P n c l H { dst:=d,op:=.unOp .xor t x,type:=ty,pos:=pos,after:=af,guard:=g } (rI k (QP k p)):=λa w Z ha _=>CQ<|by
 simp[execOp,ha.eval hx,Op.unary,Op.intBits,QP,EG]
end
theorem AaO {α:Type} [Inhabited α] {enc:α→Rp} {ys:List α} {j:Int} (hg:Cu j (ys.length:Int)=true):(List.map enc ys)[j.toNat]? =some (enc (Am ys j)):=by
 have h0:=(Di hg).1
 have h1:=(Di hg).2
 have hl:j.toNat<ys.length:=by omega
 simp[Am,List.getElem?_eq_getElem hl]
theorem ZC {α:Type} {enc:α→Rp} {ys:List α} {j:Int} (hg:Cu j (ys.length:Int)=true):Nat.blt j.toNat (List.map enc ys).length=true:=by
 have h0:=(Di hg).1
 have h1:=(Di hg).2
 simp;omega
section
variable {P : Program} {n : Nat} {c : Cx} {ops : Array Oper} {Q : Exit → Act → World → Prop} {rest : List Oper} {l : Fr} {H H' : List Ent} {d : Nat} {d' : Option Nat} {x y : Operand} {t ty e : TypeId} {pos : String} {af : Array Edge} {g : Option (Nat × Bool)} {k : IntKind} {b i len : Nat} {j : Int}
theorem X6 (ht:P.underlying t=some (.array len e)) (hz:∀w,(sizeOf e).run P w = .ok 1 w) (hx:ev l x=some (rv (.pointer (some ⟨b,0,none⟩)))) (hy:ev l y=some (rI k j)) (hg:Cu j (len:Int)=true) :
  Bq P n c l H { dst:=d',op:=.indexAddr t x y,type:=ty,pos:=pos,after:=af,guard:=g } (rv (.pointer (some ⟨b,j.toNat,none⟩))):=λa w Z ha hw=>CQ<|by
 have h0:=(Di hg).1
 have h1:=(Di hg).2
 simp[execOp,ha.eval hx,ha.eval hy,Instr.indexAt,Instr.sureAddr,asIntOf,run_underlying ht,h0,h1,hz,J9]
theorem X5 {α:Type} [Inhabited α] {enc:α→Rp} {ys:List α} (hag:∀w,(isAgg t).run P w = .ok false w) (hx:ev l x=some (rv (.pointer (some ⟨b,j.toNat,none⟩)))) (hi:H[i]? =some (.blk b (List.map enc ys) e)) (hg:Cu j (ys.length:Int)=true) :
  Bq P n c l H { dst:=d',op:=.load t x,type:=ty,pos:=pos,after:=af,guard:=g } (enc (Am ys j)):=Bp hag hx hi (AaO hg)
theorem UU {α:Type} [Inhabited α] {enc:α→Rp} {ys:List α} {v:α} (hag:∀w,(sizeOf t).run P w = .ok 1 w) (hx:ev l x=some (rv (.pointer (some ⟨b,j.toNat,none⟩)))) (hy:ev l y=some (enc v)) (hv:SO H (enc v))
  (hi:H[i]? =some (.blk b (List.map enc ys) e)) (hg:Cu j (ys.length:Int)=true) (hH:H.set i (.blk b (List.map enc (List.set ys j.toNat v)) e)=H')
  (h:WL P n c ops Q rest l H'):WL P n c ops Q ({ dst:=none,op:=.store t x y,type:=ty,pos:=pos,after:=af,guard:=none }::rest) l H:=
 BB hag hx hy hv hi (ZC hg) (cs':=List.map enc (List.set ys j.toNat v)) (by rw[List.map_set]) hH h
theorem Tu {α:Type} {enc:α→Rp} {ys:List α} {sz:Nat} (hag:∀w,(isAgg t).run P w = .ok true w) (hsz:∀w,(sizeOf t).run P w = .ok sz w) (hx:ev l x=some (rv (.pointer (some ⟨b,0,none⟩)))) (hi:H[i]? =some (.blk b (List.map enc ys) e)) (hl:decide (ys.length=sz)=true) :
  Bq P n c l H { dst:=d',op:=.load t x,type:=ty,pos:=pos,after:=af,guard:=g } (B9 (List.map enc ys)):=B0 hag hsz hx hi (by rw[List.drop_zero,List.take_of_length_le (by rw[AcY];have:=AcM hl;omega)]) (by rw[AcY];exact AcM hl)
theorem Nh {α:Type} {enc:α→Rp} {ys zs:List α} {sz:Nat} (hsz:∀w,(sizeOf t).run P w = .ok sz w) (hx:ev l x=some (rv (.pointer (some ⟨b,0,none⟩)))) (hy:ev l y=some (B9 (List.map enc zs))) (h1:∀x,(enc x).one=true)
  (hi:H[i]? =some (.blk b (List.map enc ys) e)) (hl:decide (ys.length=sz)=true) (hl2:decide (zs.length=sz)=true) (hH:H.set i (.blk b (List.map enc zs) e)=H')
  (h:WL P n c ops Q rest l H'):WL P n c ops Q ({ dst:=none,op:=.store t x y,type:=ty,pos:=pos,after:=af,guard:=none }::rest) l H:=
 Bj hsz hx hy (by rw[AcY];exact AcM hl2) (BE.c (by simp[List.all_map,h1])) hi (by have:=AcM hl;simp;omega)
  (cs':=List.map enc zs) (by have:=AcM hl;rw[List.take_zero,Adh,List.drop_of_length_le (by rw[AcY];omega),Adg]) hH h
theorem ZF {α:Type} {enc:α→Rp} {ys:List α} {sz:Nat} (hl:decide (ys.length=sz)=true):(List.map enc ys).length=sz:=by rw[AcY];exact AcM hl
end
section
variable {P : Program} {n : Nat} {c : Cx} {Q : Exit → Act → World → Prop} {l : Fr} {H : List Ent} {x rest' : Code} {K : Act → World → Prop}
theorem Kh {lb:Nat} (h:WK n c (Q (.goto lb)) l H):WC P n c (.goto lb) Q l H:=λa w Z ha hw=>wp_goto (h a w Z ha hw)
theorem BZ {lb:Nat} (h:WK n c (Q (.goto lb)) l H):WK n c (Exit.then K Q (.goto lb)) l H:=h
theorem GC {id lb:Nat} (h:WK n c (Q (.goto lb)) l H):WK n c (Exit.inBlock id Q (.goto lb)) l H:=h
theorem JD {id lb:Nat} (h:WK n c (Q (.goto lb)) l H):WK n c (YA id K Q (.goto lb)) l H:=h
theorem Zh {lb:Nat} (h:WK n c (Q .ret) l H):WK n c (Exit.jump lb K Q .ret) l H:=h
theorem Kf {lb:Nat} (h:WK n c K l H):WK n c (Exit.jump lb K Q (.goto lb)) l H:=λa w Z ha hw=>⟨rfl,h a w Z ha hw⟩
theorem Ps {S:Type} (lb:Nat) (inv:S→Prop) (fr:S→Fr) (hp:S→List Ent) (hf:findLabel x lb=some rest')
  (h1:WC P n c x (Exit.jump lb (Is n c inv fr hp) Q) l H) (h2:∀s,inv s→WC P n c rest' (Exit.noGoto Q) (fr s) (hp s)):WC P n c (.scope x) Q l H:=λa w Z ha hw=>
 wp_scope_jumps lb (Is n c inv fr hp) (λ_ _=>0) hf (h1 a w Z ha hw) (by
  rintro a w ⟨s,Z,hi,ha,hw⟩
  refine wp_mono (h2 s hi a w Z ha hw) λe a w q=>?_
  cases e with
  | goto _=>exact q.elim
  | _=>exact q)
end
section
variable {P : Program} {n : Nat} {c : Cx} {ops : Array Oper} {Q : Exit → Act → World → Prop} {rest : List Oper} {l : Fr} {H H' : List Ent} {d : Nat} {d' : Option Nat} {x y z3 z4 : Operand} {ty t t' e : TypeId} {pos : String} {af : Array Edge} {g : Option (Nat × Bool)} {v u : Value} {r : Rp} {sz : Nat}
theorem No {α:Type} {ys:List α} {enc:α→List Rp} {k' k'':IntKind} {j:Int} (ht:P.underlying t=some (.slice e)) (hz:∀w,(sizeOf e).run P w = .ok sz w) (h:ev l x=some (AV sz (ys.map enc))) (hj:ev l z3=some (rI k' j)) (hm:ev l z4=some (rI k'' j)) (hg2:GJ j (ys.length:Int)=true) :
  Bq P n c l H { dst:=d',op:=.slice t x none (some z3) (some z4),type:=ty,pos:=pos,after:=af,guard:=g } (AV sz ((ys.take j.toNat).map enc)):=λa w Z ha hw=>by
 obtain⟨A,cap,e1,hc1,hc2,hA,hc⟩:=ha.ev h
 have h0:=(DE hg2).1
 have h2:=(DE hg2).2
 simp only[AcY] at e1 hc1
 have h3:j≤(cap:Int):=by omega
 refine⟨.slice A j.toNat j.toNat,⟨A,j.toNat,?_,?_,by omega,?_,λq cl hq=>?_⟩,?_⟩
 ·congr 1
  simp;omega
 ·simp;omega
 ·intro hn;have:=hA hn;omega
 ·rw[List.getElem?_map,List.getElem?_take] at hq
  split at hq
  ·exact hc q cl (by rw[List.getElem?_map];exact hq)
  ·cases hq
 ·have hA':A.map (λb=>b.add 0)=A:=by
   cases A with
   | none=>rfl
   | some ad=>obtain⟨b,o,sp⟩:=ad;cases sp<;>rfl
  simp[execOp,e1,ha.eval hj,ha.eval hm,Instr.sliceAt,Instr.slice,run_underlying ht,Instr.sliceBounds,BD (m:=cap) _ _ h0 h3,BD (m:=j.toNat) _ _ h0 (by omega),hz]
  try (intro _;cases A<;>rfl)
theorem Zk {α:Type} {enc:α→List Rp} {inf:TypeInfo} {z:Value} {kl kc:IntKind} {m:Int} {bytes:Nat} (ht:P.underlying t=some (.slice e)) (hinf:P.info? e=some inf) (hz:inf.zero=some z) (hsize:inf.size=sz) (hby:inf.bytes=bytes) (hbp:Nat.blt 0 bytes=true)
  (hx:ev l x=some (rI kl 0)) (hy:ev l y=some (rI kc m)) (hg:Dw bytes m.toNat=true) (hg0:decide (0≤m)=true) (hn:Nat.blt d n=true)
  (h:∀v',WL P n c ops Q rest ((d,rv v')::l) (.row v' e sz (([]:List α).map enc)::H)) :
  WL P n c ops Q ({ dst:=some d,op:=.makeSlice t x y,type:=ty,pos:=pos,after:=af,guard:=none }::rest) l H:=
 JC (λa w Z ha hw=>by
  have hm0:0≤m:=by simpa using hg0
  have hb:m.toNat*bytes≤140737488355328:=by simpa[Dw] using hg
  have hbp':0<bytes:=by simpa using hbp
  have hle:m.toNat≤m.toNat*bytes:=Nat.le_mul_of_pos_right _ hbp'
  obtain⟨w',e1,e2,e3⟩:=run_make_own (P:=P) w 0 t e inf z sz ht hinf hz hsize kl kc m.toNat (by rw[hby,Nat.mul_comm];omega) (by simp only[maxLen];omega) (Adn _)
  have em:(m.toNat:Int)=m:=Int.toNat_of_nonneg hm0
  rw[em] at e1
  refine⟨_,w',_,_,Z,by simp[execOp,ha.eval hx,ha.eval hy,e1],Fz.le.refl _,rfl,hw.add e3.os e3.tape e3.output e3.size (λk hk=>e3.block k hk (by simp)) (e':=.row _ e sz (([]:List α).map enc)) ⟨by simp,[],e2,trivial⟩ (by simp[Ent.foot,Value.ownBlock]),h _⟩) hn
end
structure Sx where
 deps:List Nat
 r:Value→Rp
 dyn:Bool:=false
 old:List Nat:=[]
def Jb (sp:List Sx) (i:Nat):Sx:=sp.getD i { deps:=[],r:=λ_=>rv undef }
def YS (sp:List Sx) (u:Value):List Sp:=sp.map λs=>⟨s.deps,s.r u,0⟩
def saU (sp:List Sx) (u:Value):List Sa:=sp.map λs=>{ deps:=s.deps,r:=s.r u }
def Pp:List Sx→Prop
 | []=>True
 | s::r=>(s.dyn=false→∀u u',s.r u=s.r u')∧Pp r
theorem Pp.at:∀{sp:List Sx},Pp sp→∀{i:Nat} {s:Sx},sp[i]? =some s→s.dyn=false→∀u u',s.r u=s.r u'
 | [],_,i,s,h=>by simp at h
 | x::sp,⟨h1,h2⟩,0,s,h=>by simp at h;subst h;exact h1
 | x::sp,⟨h1,h2⟩,i+1,s,h=>Pp.at h2 (by simpa using h)
theorem Acm {ds os:List Nat} {r:Rp} {sp:List Sx} (h:Pp sp):Pp ({ deps:=ds,r:=λ_=>r,old:=os }::sp):=⟨λ_ _ _=>rfl,h⟩
theorem Acl {ds os:List Nat} {r:Value→Rp} {sp:List Sx} (h:Pp sp):Pp ({ deps:=ds,r:=r,dyn:=true,old:=os }::sp):=⟨λh'=>(by cases h'),h⟩
def Jz (lw:Fr):List Nat→Fr→Fr
 | [],l=>l
 | d::r,l=>match look lw d with
  | some q=>(d,q)::Jz lw r l
  | none=>Jz lw r l
theorem UB {n:Nat} {lw l:Fr} {a:Act} {Z:Fz} (h0:Dx n l a Z):∀{ds:List Nat},(∀d∈ds,∀q,look lw d=some q→∃v,a.tmps[d]? =some v∧q.p Z v)→Dx n (Jz lw ds l) a Z
 | [],_=>h0
 | d::ds,h=>by
  have ih:=UB h0 (ds:=ds) (λd' hd'=>h d' (by simp[hd']))
  unfold Jz
  cases hd:look lw d with
  | none=>exact ih
  | some q=>
   refine⟨ih.size,ih.defers,λi r hi=>?_⟩
   rw[CA] at hi
   split at hi
   ·rename_i e;subst e;simp at hi;subst hi;exact h d (by simp) q hd
   ·exact ih.tm i r hi
theorem Ack:Pp []:=trivial
def okX (n:Nat) (ops:List Oper) (N i0:Nat) (keys:List Nat) (deps:List (List Nat)) (dyns:List Bool) (olds:List (List Nat)):Bool:=
 QY ops N&&decide (N≤ops.length)&&decide (i0<N)&&
 (List.range N).all (λi=>match CT ops i with
  | some d=>decide (d<n)&&!keys.contains d&&(List.range N).all (λj=>j ==i||CT ops j !=some d)
  | none=>true)&&
 (List.range N).all (λi=>(deps.getD i []).all (λj=>decide (j<N)&&(Gv (ops.getD i default)).contains j))&&
 (List.range N).all (λi=>!dyns.getD i false||i ==i0||(Gv (ops.getD i default)).any (λe=>decide (e<N)&&(e ==i0||dyns.getD e false)))&&
 (List.range N).all (λi=>(olds.getD i []).all (λd=>(List.range N).all (λw=>CT ops w !=some d||(Gv (ops.getD w default)).contains i)))
section
variable (P : Program) (n : Nat) (c : Cx) (opsA : Array Oper) (Q : Exit → Act → World → Prop)
def OpX (l:Fr) (H:List Ent) (o:Oper) (H1:Value→List Ent):Prop:=
 ∀a w Z (K:Act→World→Prop),Dx n l a Z→St c H Z w→(∀v w' Z',Fz.le Z Z'→St c (H1 v) Z' w'→K (a.put o.dst v) w')→
  Region.wanted o (yielded opsA a.tmps)=true∧o.wp P a w K Q
def MW (ops:List Oper) (sp:List Sx) (l0 lw:Fr) (i0:Nat) (H:List Ent) (H1:Value→List Ent):Nat→List Oper→Prop
 | i,o::rest=>(if i=i0 then(∀u,OpX P n c opsA Q (Jz lw (Jb sp i).old (Ct ops (YS sp u) (Jb sp i).deps l0)) H o H1) else ∀u H,GZ P n c opsA Q (Jz lw (Jb sp i).old (Ct ops (YS sp u) (Jb sp i).deps l0)) H o ((Jb sp i).r u) H)∧MW ops sp l0 lw i0 H H1 (i+1) rest
 | _,[]=>True
end
section
variable {P : Program} {n : Nat} {c : Cx} {opsA : Array Oper} {Q : Exit → Act → World → Prop} {l l0 lw : Fr} {H : List Ent} {H1 : Value → List Ent} {sp : List Sx} {i0 : Nat}
theorem MW.at {ops:List Oper}:∀{k:Nat} {rest:List Oper},MW P n c opsA Q ops sp l0 lw i0 H H1 k rest→∀(t:Nat) o,rest[t]? =some o→
  (if k+t=i0 then(∀u,OpX P n c opsA Q (Jz lw (Jb sp (k+t)).old (Ct ops (YS sp u) (Jb sp (k+t)).deps l0)) H o H1) else ∀u H,GZ P n c opsA Q (Jz lw (Jb sp (k+t)).old (Ct ops (YS sp u) (Jb sp (k+t)).deps l0)) H o ((Jb sp (k+t)).r u) H)
 | k,o::rest,⟨h1,h2⟩,t,o',ht=>by
  cases t with
  | zero=>simp at ht;subst ht;exact h1
  | succ t=>
   have:=MW.at h2 t o' (by simpa using ht)
   rw[show k+(t+1)=k+1+t from by omega]
   exact this
 | _,[],_,t,o,h=>by simp at h
theorem Zi {id:Nat} {ops:List Oper} (N i0:Nat) (sp:List Sx) (hm:P.follows .mixedOrders=true) (hB:okX n ops N i0 (G2 l0) (sp.map (·.deps)) (sp.map (·.dyn)) (sp.map (·.old))=true) (hl0:We l0 l) (hlw:We lw l) (hsp:sp.length=N) (hst:Pp sp) (hri:∀u,(Jb sp i0).r u=rv u)
  (hob:MW P n c ops.toArray Q ops sp l0 lw i0 H H1 0 (ops.take N)) (h:∀u,WL P n c ops.toArray Q (ops.drop N) (N0 (λ_=>0) (ops.take N) (saU sp u) 0 l0) (H1 u)):WC P n c (.region id ops.toArray true) Q l H:=by
 intro a w Z ha hw
 simp only[okX,AcH,Adl,List.mem_range,AcC] at hB
 obtain⟨⟨⟨⟨⟨⟨b1,bN⟩,b0⟩,b2⟩,b3⟩,b4⟩,b5⟩:=hB
 have hget:∀i,i<N→(ops.take N)[i]? =ops[i]?:=λi hi=>by rw[List.getElem?_take,Adq hi]
 have hsa:∀i,i<N→sp[i]? =some (Jb sp i):=λi hi=>by
  simp[Jb,AcP,List.getElem?_eq_getElem (show i<sp.length by omega)]
 have hspq:∀u i,i<N→(E6 (YS sp u) i)=⟨(Jb sp i).deps,(Jb sp i).r u,0⟩:=λu i hi=>by
  simp[E6,YS,AcP,List.getElem?_map,hsa i hi]
 have hdyn:∀j,j<N→(sp.map (·.dyn)).getD j false=(Jb sp j).dyn:=λj hj=>by simp[AcP,List.getElem?_map,hsa j hj]
 have hdep:∀j,j<N→(sp.map (·.deps)).getD j []=(Jb sp j).deps:=λj hj=>by simp[AcP,List.getElem?_map,hsa j hj]
 have hops:∀j,j<N→∃o,ops[j]? =some o:=λj hj=>⟨ops[j]'(by omega),List.getElem?_eq_getElem (by omega)⟩
 have hdst:∀i o d,i<N→ops[i]? =some o→o.dst=some d→(d<n∧d ∉ G2 l0)∧∀j,j<N→j≠i→CT ops j≠some d:=λi o d hi ho hd=>by
  have h3:=b2 i hi
  have:CT ops i=some d:=by simp[CT,ho,hd]
  rw[this] at h3
  simp only[AcH,AcS,Adl,List.mem_range,AcC] at h3
  refine⟨⟨h3.1.1,λhmem=>by rw[← List.contains_iff_mem] at hmem;rw[hmem] at h3;cases h3.1.2⟩,λj hj hne he=>?_⟩
  have:=h3.2 j hj
  simp[hne,he] at this
 refine Wv (N:=N) hm b1 bN (λS a w=>∃ (u:Value) (Z:Fz),St c (if S i0=true then H1 u else H) Z w∧Dx n l0 a Z∧(∀j o d,j<N→S j=true→ops[j]? =some o→o.dst=some d→∃v,a.tmps[d]? =some v∧((Jb sp j).r u).p Z v)∧
   (∀j,j<N→(Jb sp j).dyn=true→S j=true→S i0=true)∧
   (∀d q,look lw d=some q→(∀wr,wr<N→CT ops wr=some d→S wr=false)→∃v,a.tmps[d]? =some v∧q.p Z v)∧
   ∀wr i d,wr<N→i<N→CT ops wr=some d→d∈(Jb sp i).old→S wr=true→S i=true)
  (λS S' a w hS hI=>?_) ⟨undef,Z,?_,ha.subL hl0,λj o d _ hS=>(by cases hS),λj _ _ hS=>(by cases hS),λd q hd _=>(ha.subL hlw).tm d q hd,λwr i d _ _ _ _ hS=>(by cases hS)⟩ (λS i o a w hi hun ho hb hI K hK=>?_) (λa w hI=>?_)
 ·obtain⟨u,Z,h1,h2,h3,h4,h5,h6⟩:=hI
  refine⟨u,Z,?_,h2,λj o d hj hS'=>h3 j o d hj (by rw[hS j hj];exact hS'),λj hj hd hSj=>?_,λd q hd hw'=>h5 d q hd (λwr hwr hdw=>by rw[hS wr hwr];exact hw' wr hwr hdw),λwr i d hwr hi hdw hold hSw=>by rw[← hS i hi];exact h6 wr i d hwr hi hdw hold (by rw[hS wr hwr];exact hSw)⟩
  ·rw[← hS i0 b0];exact h1
  ·rw[← hS i0 b0];exact h4 j hj hd (by rw[hS j hj];exact hSj)
 ·exact hw.drawn _
 ·obtain⟨u,Z,h1,h2,h3,hx,ho5,ho6⟩:=hI
  have hput:∀k u v,a.tmps[k]? =some u→o.dst≠some k→(a.put o.dst v).tmps[k]? =some u:=λk u v hk hne=>by
   cases hd:o.dst with
   | none=>simpa[Act.put] using hk
   | some d=>
    simp only[Act.put,Array.getElem?_setIfInBounds]
    rw[Adj (λe=>hne (by rw[hd,e]))];exact hk
  have hagr:∀v Z',Fz.le Z Z'→Dx n l0 (a.put o.dst v) Z':=λv Z' hz=>by
   refine⟨?_,?_,λk r hk=>?_⟩
   ·cases o.dst<;>simp[Act.put,h2.size]
   ·cases o.dst<;>simp[Act.put,h2.defers]
   ·obtain⟨u,hu,hpu⟩:=h2.tm k r hk
    exact⟨u,hput k u v hu (λe=>((hdst i o k hi ho e).1).2 (LY hk)),r.mono hz hpu⟩
  have hvals:∀(v:Value) (Z':Fz) (u':Value),Fz.le Z Z'→(∀j,j<N→j≠i→S j=true→(Jb sp j).r u'=(Jb sp j).r u)→(o.dst≠none→((Jb sp i).r u').p Z' v)→∀j o' d,j<N→(j ==i||S j)=true→ops[j]? =some o'→o'.dst=some d→∃q,(a.put o.dst v).tmps[d]? =some q∧((Jb sp j).r u').p Z' q:=by
   intro v Z' u' hz hβ hp j o' d hj hS' ho' hd
   by_cases hji:j=i
   ·subst hji
    rw[ho] at ho';simp at ho';subst ho'
    refine⟨v,?_,hp (by simp[hd])⟩
    have hdn:d<a.tmps.size:=by rw[h2.size];exact(hdst j o d hi ho hd).1.1
    simp[Act.put,hd,hdn]
   ·have hSj:S j=true:=by simpa[hji] using hS'
    obtain⟨q,hu,hpu⟩:=h3 j o' d hj hSj ho' hd
    refine⟨q,hput d q v hu (λe=>(hdst i o d hi ho e).2 j hj hji (by simp[CT,ho',hd])),?_⟩
    rw[hβ j hj hji hSj];exact((Jb sp j).r u).mono hz hpu
  have hat:=hob.at i o (by rw[hget i hi];exact ho)
  rw[Nat.zero_add] at hat
  have hold':∀Z',Fz.le Z Z'→∀v d q,look lw d=some q→(∀wr,wr<N→CT ops wr=some d→(wr ==i||S wr)=false)→∃v',(a.put o.dst v).tmps[d]? =some v'∧q.p Z' v':=λZ' hz v d q hd hw'=>by
   obtain⟨v',e1,e2⟩:=ho5 d q hd (λwr hwr hdw=>by have:=hw' wr hwr hdw;simp only[AcZ] at this;exact this.2)
   refine⟨v',hput d v' v e1 (λe=>?_),q.mono hz e2⟩
   have:=hw' i hi (by simp[CT,ho,e])
   simp at this
  have hord:∀wr k d,wr<N→k<N→CT ops wr=some d→d∈(Jb sp k).old→(wr ==i||S wr)=true→(k ==i||S k)=true:=λwr k d hwr hk hdw hmem hSw=>by
   by_cases hwi:wr=i
   ·subst hwi
    have h7:=b5 k hk d (by simpa[AcP,List.getElem?_map,hsa k hk] using hmem) wr hwr
    simp only[Adi,bne_iff_ne,ne_eq,hdw,not_true_eq_false,false_or] at h7
    rw[AcP,ho,Option.getD_some,List.contains_iff_mem] at h7
    simp[(hb k h7).2]
   ·have:S k=true:=ho6 wr k d hwr hk hdw hmem (by simpa[hwi] using hSw)
    simp[this]
  have hag':Dx n (Jz lw (Jb sp i).old (Ct ops (YS sp u) (Jb sp i).deps l0)) a Z:=UB (Mt h2 (λj hj d hd=>by
    obtain⟨h5,h6⟩:=b3 i hi j (by rw[hdep i hi];exact hj)
    rw[AcP,ho,Option.getD_some,List.contains_iff_mem] at h6
    obtain⟨o2,ho2⟩:=hops j h5
    obtain⟨v,hv1,hv2⟩:=h3 j o2 d h5 (hb j h6).2 ho2 (by simpa[CT,ho2] using hd)
    refine⟨v,hv1,?_⟩
    rw[hspq u j h5]
    exact hv2)) (λd hd q hq=>ho5 d q hq (λwr hwr hdw=>by
     cases hS:S wr with
     | false=>rfl
     | true=>have:=ho6 wr i d hwr hi hdw hd hS;rw[this] at hun;cases hun))
  by_cases hi0:i=i0
  ·subst hi0
   rw[Adq rfl] at hat
   rw[hun] at h1
   have h1':St c H Z w:=by simpa using h1
   have key:=λK' hK'=>hat u a w Z K' hag' h1' hK'
   have h5:∀v w' Z',Fz.le Z Z'→St c (H1 v) Z' w'→K (a.put o.dst v) w':=λv w' Z' hz hs'=>by
    refine hK _ _ ⟨v,Z',by simpa using hs',hagr v Z' hz,hvals v Z' v hz (λj hj hji hSj=>?_) (λ_=>by rw[hri v];rfl),λj _ _ _=>by simp,hold' Z' hz v,hord⟩
    refine hst.at (hsa j hj) ?_ v u
    cases hd:(Jb sp j).dyn with
    | false=>rfl
    | true=>have:=hx j hj hd hSj;rw[this] at hun;cases hun
   refine⟨λ_=>(key K h5).2,λhw'=>?_⟩
   rw[(key K h5).1] at hw';cases hw'
  ·rw[Adj hi0] at hat
   refine hat u _ a w Z K hag' h1 (λv w' Z' hz hp hst'=>hK _ _ ⟨u,Z',?_,hagr v Z' hz,hvals v Z' u hz (λ_ _ _ _=>rfl) (λ_=>hp),λj hj hd hSj=>?_,hold' Z' hz v,hord⟩)
   ·have hiS:(i0 ==i||S i0)=S i0:=by
     have:(i0 ==i)=false:=by simpa using λe=>hi0 e.symm
     rw[this];rfl
    show St c (if (i0 ==i||S i0)=true then H1 u else H) Z' w'
    rw[hiS];exact hst'
   ·have hii:(i0 ==i)=false:=by simpa using λe=>hi0 e.symm
    show(i0 ==i||S i0)=true
    rw[hii,AcQ]
    by_cases hji:j=i
    ·subst hji
     have h7:=b4 j hj
     rw[hdyn j hj,hd] at h7
     simp only[AcO,AcQ,Adi,beq_iff_eq,hi0,false_or,List.any_eq_true,AcH,AcC] at h7
     obtain⟨e,he,heN,h8⟩:=h7
     rw[AcP,ho,Option.getD_some] at he
     have hSe:=(hb e he).2
     rcases h8 with h8 | h8
     ·subst h8;exact hSe
     ·rw[hdyn e heN] at h8;exact hx e heN h8 hSe
    ·exact hx j hj hd (by simpa[hji] using hSj)
 ·obtain⟨u,Z,h1,h2,h3,_,_,_⟩:=hI
  have hsl:(saU sp u).length=N:=by simp[saU,hsp]
  refine h u a w Z (Re h2 _ _ 0 (λt o s d ht hs hd=>?_)) (by simpa using h1)
  have htN:t<N:=by have:=(List.getElem?_eq_some_iff.1 hs).1;omega
  have hs':s = { deps:=(Jb sp t).deps,r:=(Jb sp t).r u }:=by
   simp only[saU,List.getElem?_map,hsa t htN,Option.map_some,Option.some.injEq] at hs;exact hs.symm
  subst hs'
  rw[Nat.zero_add]
  exact h3 t o d htN rfl (by rw[← hget t htN];exact ht) hd
theorem Aa5 {id:Nat} {ops:List Oper} (N i0:Nat) (ks0 ksw:List Nat) (sp:List Sx) (H1:Value→List Ent) (hob:MW P n c ops.toArray Q ops sp l0 lw i0 H H1 0 (ops.take N)) (h:∀u,WL P n c ops.toArray Q (ops.drop N) (N0 (λ_=>0) (ops.take N) (saU sp u) 0 l0) (H1 u))
  (h0:Kp ks0 l l0:=by repeat (first | exact P0 | (apply MG;rfl) | (apply N6;rfl))) (hw:Kp ksw l lw:=by repeat (first | exact P0 | (apply MG;rfl) | (apply N6;rfl))) (hm:P.follows .mixedOrders=true:=by kernel_rfl) (hB:okX n ops N i0 (G2 l0) (sp.map (·.deps)) (sp.map (·.dyn)) (sp.map (·.old))=true:=by kernel_rfl)
  (hsp:sp.length=N:=by rfl) (hst:Pp sp:=by repeat (first | exact Ack | apply Acm | apply Acl)) (hri:∀u,(Jb sp i0).r u=rv u:=by exact λ_=>rfl):WC P n c (.region id ops.toArray true) Q l H:=Zi N i0 sp hm hB h0.one hw.one hsp hst hri hob h
theorem oxq {all rest:List Oper} {d:Nat} {op:Op} {ty:TypeId} {pos:String} {af:Array Edge} {i:Nat} (hr:∀{u H},Bq P n c (Jz lw (Jb sp i).old (Ct all (YS sp u) (Jb sp i).deps l0)) H { dst:=some d,op:=op,type:=ty,pos:=pos,after:=af,guard:=none } ((Jb sp i).r u)) (h:MW P n c opsA Q all sp l0 lw i0 H H1 (i+1) rest) (hne:Nat.beq i i0=false:=by rfl) :
  MW P n c opsA Q all sp l0 lw i0 H H1 i ({ dst:=some d,op:=op,type:=ty,pos:=pos,after:=af,guard:=none }::rest):=by
 refine⟨?_,h⟩
 rw[Adj (λe=>by subst e;simp at hne)];exact λu H=>Xr hr
theorem oxc {all rest:List Oper} {o:Oper} {i:Nat} (hr:∀{u H},GZ P n c opsA Q (Jz lw (Jb sp i).old (Ct all (YS sp u) (Jb sp i).deps l0)) H o ((Jb sp i).r u) H) (h:MW P n c opsA Q all sp l0 lw i0 H H1 (i+1) rest) (hne:Nat.beq i i0=false:=by rfl):MW P n c opsA Q all sp l0 lw i0 H H1 i (o::rest):=by
 refine⟨?_,h⟩
 rw[Adj (λe=>by subst e;simp at hne)];exact λu H=>hr
theorem oxx {all rest:List Oper} {o:Oper} (hr:∀{u},OpX P n c opsA Q (Jz lw (Jb sp i0).old (Ct all (YS sp u) (Jb sp i0).deps l0)) H o H1) (h:MW P n c opsA Q all sp l0 lw i0 H H1 (i0+1) rest):MW P n c opsA Q all sp l0 lw i0 H H1 i0 (o::rest):=by
 refine⟨?_,h⟩
 rw[Adq rfl];exact λu=>hr
theorem oxe {all:List Oper} {i:Nat}:MW P n c opsA Q all sp l0 lw i0 H H1 i []:=trivial
end
section
variable {P : Program} {n : Nat} {c : Cx} {opsA : Array Oper} {Q : Exit → Act → World → Prop} {l : Fr} {H : List Ent} {d : Nat} {x y : Operand} {ty t e : TypeId} {pos : String} {af : Array Edge} {v : Value} {sz : Nat}
theorem Wu {α:Type} {xs ys:List α} {enc:α→List Rp} {i:Nat} {inf:TypeInfo} {z:Value} {bytes:Nat} (ht:P.underlying t=some (.slice e)) (hinf:P.info? e=some inf) (hz:inf.zero=some z) (hsize:inf.size=sz) (hby:inf.bytes=bytes) (hzs:z.cells.size=sz) (hsz:Nat.blt 0 sz=true) (hbp:Nat.blt 0 bytes=true)
  (hx:ev l x=some (rv v)) (hi:H[i]? =some (.row v e sz (xs.map enc))) (hy:Ja P n c l H y sz ys.length (ys.map enc).flatten) (henc:∀z,(enc z).length=sz) (hone:∀z,(enc z).all (·.one)=true) (hg:Dw bytes (xs.length+ys.length)=true) :
  OpX P n c opsA Q l H { dst:=some d,op:=.call { callee:=.builtin .append,args:=#[x,y],argTypes:=#[t,t] },type:=ty,pos:=pos,after:=af,guard:=none } (λv'=>.row v' e sz ((xs++ys).map enc)::H.eraseIdx i):=λa w Z K ha hw hK=>by
  obtain⟨h0,us,h1,h2⟩:=hw.ent hi
  obtain⟨ws,h3,h4⟩:=hy a w Z ha hw
  have hsz':0<sz:=by simpa using hsz
  have hbp':0<bytes:=by simpa using hbp
  have hb:(xs.length+ys.length)*bytes≤140737488355328:=by simpa[Dw] using hg
  have hle:xs.length+ys.length≤(xs.length+ys.length)*bytes:=Nat.le_mul_of_pos_right _ hbp'
  have hws:∀y∈ws,y.oneCell'=true:=Bz.one (rs:=(ys.map enc).flatten) (by
   rw[Adl]
   intro r hr
   obtain⟨cl,hcl,hrc⟩:=List.mem_flatten.1 hr
   obtain⟨z',_,rfl⟩:=List.mem_map.1 hcl
   exact List.all_eq_true.1 (hone z') r hrc) h3
  have hxl:(xs.map enc).length=xs.length:=AcY ..
  rw[hxl] at h1
  obtain⟨v',w',e1,e2,e3,e4⟩:=Iw (P:=P) ty ht hinf hz hsize hby hzs hsz' h1 h4 hws hb (by simp only[maxLen];omega)
  have hent:(Ent.row v' e sz ((xs++ys).map enc)).holds Z w':=⟨λcl hcl=>by obtain⟨z',_,rfl⟩:=List.mem_map.1 hcl;exact henc z',us++ws,by simpa using e2,by rw[List.map_append,List.flatten_append];exact h2.append h3⟩
  have hst:=hw.callF hi (St.one (e':=.row v' e sz ((xs++ys).map enc)) (M:=(Ent.row v e sz (xs.map enc)).foot) hw.frz hw.env hw.emono e3.os e3.tape e3.output e3.size (λk hk hne=>e3.block k hk (λe1=>hne (by simp[Ent.foot,← e1])))
   (hw.zdis _ (AcU hi)) hent (λk hk=>by
    simp only[Ent.foot,Option.mem_toList] at hk ⊢
    rcases e4 with e4 | e4
    ·exact .inl (e4▸hk)
    ·exact .inr (e4 k hk)))
  refine⟨by simp[Region.wanted],?_⟩
  unfold Oper.wp
  rw[show(execOp a.eval { dst:=some d,op:=.call { callee:=.builtin .append,args:=#[x,y],argTypes:=#[t,t] },type:=ty,pos:=pos,after:=af,guard:=none }).run P w = .ok (.value v') w' from by simp[execOp,resolve,invoke,builtin,ha.eval hx,e1]]
  exact hK v' w' Z (Fz.le.refl _) hst
end
set_option maxRecDepth 100000
set_option maxHeartbeats 4000000
theorem OO:∃inf,Tryz.prog.info? 9=some inf∧inf.zero=some (.string ⟨#[]⟩)∧inf.size=1∧inf.bytes=16:=by
  have key:(Tryz.prog.info? 9).map (λi=>(i.zero,i.size,i.bytes))=some (some (.string ⟨#[]⟩),1,16):=by kernel_rfl
  obtain⟨inf,h1,h2⟩:=Option.map_eq_some_iff.1 key
  simp only[Prod.mk.injEq] at h2
  exact⟨inf,h1,h2.1,h2.2.1,h2.2.2⟩
theorem Ye (F:Nat)  (r:(List Int)) (h:OP F=some r):Fn Tryz.prog GE 126 [] [] (λR H=>R=B9 (List.map (rI .u32) r)∧H=[]):=by
 refine enter (n:=26) Tryz.func126 rfl Tryz.ntmps126 rfl (λw Z=>?_)
 unfold OP at h
 refine Ae (BT (cs:=List.map (rI .u32) (List.replicate 256 (0:Int))) Tryz.zeroValue151 (by kernel_rfl) rfl (λb1=>?_))
 refine Bf (BT (cs:=List.map (rI .u32) (List.replicate 256 (0:Int))) Tryz.zeroValue151 (by kernel_rfl) rfl (λb2=>?_))
 refine Ak (Ai (Ae (wv (r:=rI .i64 0) (Al rfl) (Ak (AB (ob h λhs ht hu=>Bk (S:=Nat×(Int×(List Int))×(Unit)) (V:=((List Int))×(Unit)) 0 (λσ=>BF (λσ=>GL F σ.1 σ.2) σ.1 σ.2.1=some hs) (λσ=>[(0,rP b1 0),(1,rP b2 0),(5,rI .i64 σ.2.1.1)]) (λσ=>[.blk b2 (List.map (rI .u32) σ.2.1.2) 151,.blk b1 (List.map (rI .u32) (List.replicate 256 (0:Int))) 151]) (λσ=>σ.1) (F,(0,List.replicate 256 (0:Int)),()) ht (AC.c rfl (AC.c rfl (AC.c rfl AC.nil))) (sC (sC sN)) (λσ=>IT σ.1=some r) (λσ=>[(0,rP b1 0),(1,rP b2 0)]) (λσ=>[.blk b2 (List.map (rI .u32) σ.1) 151,.blk b1 (List.map (rI .u32) (List.replicate 256 (0:Int))) 151]) ?_ ?_))))))
 ·rintro⟨hR,⟨ha,hb⟩,⟨⟩⟩ hw
  refine BO (l':=[(0,rP b1 0),(1,rP b2 0),(5,rI .i64 ha)]) (H':=[.blk b2 (List.map (rI .u32) hb) 151,.blk b1 (List.map (rI .u32) (List.replicate 256 (0:Int))) 151]) rfl rfl ?_
  obtain⟨hx,rfl,hl,hh,ho⟩:=Ce hw
  replace hh:GL F ha hb=some hl:=hh
  unfold GL at hh
  refine Ae (wv (BY rfl rfl) (Ak (Ai (cz hh rfl (λhy hz=>?_) (λhy h0=>?_)))))
  ·refine An (AF (Ai (AB (Ae (wm rfl (wa rfl (Bf (wm rfl (wv (r:=rI .u32 (IntKind.wrap .u32 ha)) (B4 ⟨_,MY⟩ G6 rfl) (wa rfl (Ak (Ai (Ae (wv (r:=rI .i64 0) (Al rfl) (Ak (AB (ob hz λh1 h2 h3=>Bk (S:=Nat×(Int×Int)×(Unit)) (V:=(Int×Int×Bool)×(Unit)) 2 (λσ=>BF (λσ=>GK σ.1 σ.2) σ.1 σ.2.1=some h1) (λσ=>[(0,rP b1 0),(1,rP b2 0),(2,rI .i64 ha),(3,rI .u32 σ.2.1.1),(5,rI .i64 ha),(10,rI .i64 σ.2.1.2)]) (λσ=>[.blk b2 (List.map (rI .u32) hb) 151,.blk b1 (List.map (rI .u32) (List.replicate 256 (0:Int))) 151]) (λσ=>σ.1) (F,(IntKind.wrap .u32 ha,0),()) h2 (AC.c rfl (AC.c5 rfl rfl rfl rfl rfl AC.nil)) (sC (sC sN)) (λσ=>IS ha hb σ.1.1 σ.1.2.1 σ.1.2.2=some hl) (λσ=>[(0,rP b1 0),(1,rP b2 0),(2,rI .i64 ha),(3,rI .u32 σ.1.1),(5,rI .i64 ha),(10,rI .i64 σ.1.2.1),(11,rB σ.1.2.2)]) (λσ=>[.blk b2 (List.map (rI .u32) hb) 151,.blk b1 (List.map (rI .u32) (List.replicate 256 (0:Int))) 151]) ?_ ?_)))))))))))))))))
   ·rintro⟨hS,⟨hd,hf⟩,⟨⟩⟩ h4
    refine BO (l':=[(0,rP b1 0),(1,rP b2 0),(2,rI .i64 ha),(3,rI .u32 hd),(5,rI .i64 ha),(10,rI .i64 hf)]) (H':=[.blk b2 (List.map (rI .u32) hb) 151,.blk b1 (List.map (rI .u32) (List.replicate 256 (0:Int))) 151]) rfl rfl ?_
    obtain⟨h5,rfl,h6,hi,hp⟩:=Ce h4
    replace hi:GK hd hf=some h6:=hi
    unfold GK at hi
    refine Ae (wv (BY rfl rfl) (Ak (Ai (cz hi rfl (λh7 h8=>?_) (λh7 h9=>?_)))))
    ·refine An (AF (A6 [(0,rP b1 0),(1,rP b2 0),(2,rI .i64 ha),(3,rI .u32 (bif decide ((Lo .u32 hd 1)=1) then EG .u32 (BQ .u32 hd 1) 3988292384 else BQ .u32 hd 1)),(5,rI .i64 ha),(10,rI .i64 hf)] [.blk b2 (List.map (rI .u32) hb) 151,.blk b1 (List.map (rI .u32) (List.replicate 256 (0:Int))) 151] ?_ ?_))
     ·refine AB (Ae (wm rfl (wv (r:=rI .u32 (Lo .u32 hd 1)) (Aas rfl rfl) (wa rfl (Bf (wm rfl (wv (r:=rI .u32 (BQ .u32 hd 1)) (JN rfl rfl (by decide)) (wa rfl (Bf (wm rfl (wv (Bx rfl rfl) (Ak (C1 (b:=decide ((Lo .u32 hd 1)=1)) rfl (λhm=>?_) (λhm=>?_))))))))))))))
      ·refine Af (wm rfl (wv (r:=rI .u32 (EG .u32 (BQ .u32 hd 1) 3988292384)) (Sc rfl rfl) (wa rfl (Aj (A8 ?_)))))
       exact BM hm
      ·refine An (A8 ?_)
       exact BM hm
     refine Af (ck h8 λhA hB=>wv (AX rfl rfl hA) (wm rfl (Aj ?_)))
     have hC:=Bb hB hp
     exact Ar (A3 (h5,((bif decide ((Lo .u32 hd 1)=1) then EG .u32 (BQ .u32 hd 1) 3988292384 else BQ .u32 hd 1),hf+1),()) ⟨hC,AcL _⟩ (AC.c rfl (AC.c5 rfl rfl rfl rfl rfl AC.nil)) (sC (sC sN)))
    ·refine Bo (At ?_)
     have hD:=BI h9 hp h3
     exact At (Bc (A3 ((hd,hf,decide (hf<8)),()) hD (AC.c rfl (AC.c rfl (AC.c5 rfl rfl rfl rfl rfl AC.nil))) (sC (sC sN))))
   ·rintro⟨⟨hg,hq,hr⟩,⟨⟩⟩ hj
    refine Cf (l':=[(0,rP b1 0),(1,rP b2 0),(2,rI .i64 ha),(3,rI .u32 hg),(5,rI .i64 ha),(10,rI .i64 hq),(11,rB hr)]) (H':=[.blk b2 (List.map (rI .u32) hb) 151,.blk b1 (List.map (rI .u32) (List.replicate 256 (0:Int))) 151]) rfl rfl ?_
    replace hj:IS ha hb hg hq hr=some hl:=hj
    unfold IS at hj
    refine AZ (AF (Af (wm rfl (wm rfl (ck hj λhE hG=>wv (r:=rv (.pointer (some ⟨b2,Int.toNat ha,none⟩))) (X6 Tryz.underlying151 Tryz.sizeOf116 rfl rfl hE) (ck hG λhH hI=>UU (enc:=(rI .u32)) (ys:=hb) (v:=hg) (i:=0) Tryz.sizeOf116 rfl rfl (Co rfl) rfl hH (H':=[.blk b2 (List.map (rI .u32) (List.set hb (Int.toNat ha) hg)) 151,.blk b1 (List.map (rI .u32) (List.replicate 256 (0:Int))) 151]) rfl (Aj (A8 (AF (Af (ck hI λhJ hK=>wv (AX rfl rfl hJ) (wm rfl (Aj ?_)))))))))))))
    have hL:=Bb hK ho
    exact Ar (A3 (hx,(ha+1,List.set hb (Int.toNat ha) hg),()) ⟨hL,AcL _⟩ (AC.c rfl (AC.c rfl (AC.c rfl AC.nil))) (sC (sC sN)))
  ·refine Bo (At ?_)
   have hN:=BI h0 ho hu
   exact At (Bc (A3 (hb,()) hN (AC.c rfl (AC.c rfl AC.nil)) (sC (sC sN))))
 ·rintro⟨he,⟨⟩⟩ hk
  refine Cf (l':=[(0,rP b1 0),(1,rP b2 0)]) (H':=[.blk b2 (List.map (rI .u32) he) 151,.blk b1 (List.map (rI .u32) (List.replicate 256 (0:Int))) 151]) rfl rfl ?_
  replace hk:IT he=some r:=hk
  unfold IT at hk
  refine AZ (AF (Ae (ck hk λhn hO=>wv (r:=B9 (List.map (rI .u32) he)) (Tu (enc:=(rI .u32)) (ys:=he) (i:=0) Tryz.isAgg151 TG rfl rfl hn) (ck hO λhP hQ=>Nh (enc:=(rI .u32)) (ys:=List.replicate 256 (0:Int)) (zs:=he) (i:=1) TG rfl rfl (λ_=>rfl) rfl hP hn (H':=[.blk b2 (List.map (rI .u32) he) 151,.blk b1 (List.map (rI .u32) he) 151]) rfl (Ak (Aq ?_))))))
  obtain rfl:=As hQ
  exact Ap (BW Tryz.results126 (Gi (i:=1) Tryz.isAgg151 TG rfl rfl (ZF hn))) (sS (sS sN)) ⟨rfl,rfl⟩
theorem Yf (F:Nat) (s:Ag) (r:Int) (h:VO F s=some r):Fn Tryz.prog GE 91 [rS s] [] (λR H=>R=rI .u32 r∧H=[]):=by
 refine enter (n:=26) Tryz.func91 rfl Tryz.ntmps91 rfl (λw Z=>?_)
 unfold VO at h
 refine Ae (wa rfl (Bf (ob h λr1 e3 h2=>Cg Tryz.call126 (Ye F r1 e3) rfl (BT (cs:=List.map (rI .u32) (List.replicate 256 (0:Int))) Tryz.zeroValue151 (by kernel_rfl) rfl (λb4=>?_)))))
 refine ck h2 λg5 h6=>ck h6 λg7 h8=>Nh (enc:=(rI .u32)) (ys:=List.replicate 256 (0:Int)) (zs:=r1) (i:=0) TG rfl rfl (λ_=>rfl) rfl g5 g7 (H':=[.blk b4 (List.map (rI .u32) r1) 151]) rfl (Bf (wa rfl (Ak (Ai (Ae (wm rfl (wv (AW BC rfl) (wv (r:=rI .i64 0) (Al rfl) (Ak (AB (ob h8 λhh hi hj=>Bk (S:=Nat×(Int×Int)×(Unit)) (V:=(Int)×(Unit)) 0 (λσ=>BF (λσ=>H3 s r1 σ.1 σ.2) σ.1 σ.2.1=some hh) (λσ=>[(0,rS s),(2,rI .u32 0),(3,rP b4 0),(4,rI .u32 σ.2.1.1),(8,rI .i64 (s.length:Int)),(9,rI .i64 σ.2.1.2)]) (λσ=>[.blk b4 (List.map (rI .u32) r1) 151]) (λσ=>σ.1) (F,(4294967295,0),()) hi (AC.c rfl (AC.c5 rfl rfl rfl rfl rfl AC.nil)) (sC sN) (λσ=>NW σ.1=some r) (λσ=>[(2,rI .u32 0),(4,rI .u32 σ.1)]) (λσ=>[]) ?_ ?_)))))))))))
 ·rintro⟨h1,⟨ha,hb⟩,⟨⟩⟩ hk
  refine BO (l':=[(0,rS s),(2,rI .u32 0),(3,rP b4 0),(4,rI .u32 ha),(8,rI .i64 (s.length:Int)),(9,rI .i64 hb)]) (H':=[.blk b4 (List.map (rI .u32) r1) 151]) rfl rfl ?_
  obtain⟨hl,rfl,hm,hd,hg⟩:=Ce hk
  replace hd:H3 s r1 ha hb=some hm:=hd
  unfold H3 at hd
  refine Ae (wv (BY rfl rfl) (Ak (Ai (cz hd rfl (λhn ho=>?_) (λhn hp=>?_)))))
  ·refine An (AF (Ai (AB (Ae (wm rfl (wa rfl (Ak (Af (wm rfl (wv (r:=rI .u8 (IntKind.wrap .u8 ha)) (B4 ⟨_,G6⟩ It rfl) (wm rfl (wm rfl (ck ho λhq hr=>wv (AO BC rfl rfl hq) (wv (r:=rI .u8 (EG .u8 (IntKind.wrap .u8 ha) (AK s hb))) (Sc rfl rfl) (ck hr λhs ht=>wv (r:=rv (.pointer (some ⟨b4,Int.toNat (EG .u8 (IntKind.wrap .u8 ha) (AK s hb)),none⟩))) (X6 Tryz.underlying151 Tryz.sizeOf116 rfl rfl hs) (ck ht λhu hw=>wv (r:=rI .u32 (Am r1 (EG .u8 (IntKind.wrap .u8 ha) (AK s hb)))) (X5 (enc:=(rI .u32)) (ys:=r1) (i:=0) Tryz.isAgg116 rfl rfl hu) (wm rfl (wv (r:=rI .u32 (BQ .u32 ha 8)) (JN rfl rfl (by decide)) (wv (r:=rI .u32 (EG .u32 (Am r1 (EG .u8 (IntKind.wrap .u8 ha) (AK s hb))) (BQ .u32 ha 8))) (Sc rfl rfl) (wa rfl ?_))))))))))))))))))))
   refine Aj (A8 (AF (Af (ck hw λhx hy=>wv (AX rfl rfl hx) (wm rfl (Aj ?_))))))
   have hz:=Bb hy hg
   exact Ar (A3 (hl,(EG .u32 (Am r1 (EG .u8 (IntKind.wrap .u8 ha) (AK s hb))) (BQ .u32 ha 8),hb+1),()) ⟨hz,AcL _⟩ (AC.c rfl (AC.c5 rfl rfl rfl rfl rfl AC.nil)) (sC sN))
  ·refine Bo (At ?_)
   have h0:=BI hp hg hj
   exact At (Bc (A3 (ha,()) h0 (AC.c rfl (AC.c rfl AC.nil)) (sS sN)))
 ·rintro⟨hf,⟨⟩⟩ he
  refine Cf (l':=[(2,rI .u32 0),(4,rI .u32 hf)]) (H':=[]) rfl rfl ?_
  replace he:NW hf=some r:=he
  unfold NW at he
  refine AZ (AF (Ae (wm rfl (wv (r:=rI .u32 (QP .u32 hf)) (Uj rfl) (wa rfl (Ak (Aq ?_)))))))
  obtain rfl:=As he
  exact Ap (BW Tryz.results91 (A4 rfl)) sN ⟨rfl,rfl⟩
theorem Qk (n:Int) (r:Ag) (h:KB n=some r):Fn Tryz.prog GE 90 [rI .u32 n] [] (λR H=>R=rS r∧H=[]):=by
 refine enter (n:=16) Tryz.func90 rfl Tryz.ntmps90 rfl (λw Z=>?_)
 unfold KB at h
 refine Ae (wv (r:=rS ([]:Ag)) (Ao rfl) (Bf (wm rfl (wv (r:=rI .u32 (BQ .u32 n 24)) (JN rfl rfl (by decide)) (wv (r:=rI .u8 (IntKind.wrap .u8 (BQ .u32 n 24))) (B4 ⟨_,G6⟩ It rfl) (wm rfl (wv (r:=rI .u32 (BQ .u32 n 16)) (JN rfl rfl (by decide)) (wv (r:=rI .u8 (IntKind.wrap .u8 (BQ .u32 n 16))) (B4 ⟨_,G6⟩ It rfl) (wm rfl (wv (r:=rI .u32 (BQ .u32 n 8)) (JN rfl rfl (by decide)) (wv (r:=rI .u8 (IntKind.wrap .u8 (BQ .u32 n 8))) (B4 ⟨_,G6⟩ It rfl) (wm rfl (wv (r:=rI .u8 (IntKind.wrap .u8 n)) (B4 ⟨_,G6⟩ It rfl) (AQ (ys:=([IntKind.wrap .u8 (BQ .u32 n 24),IntKind.wrap .u8 (BQ .u32 n 16),IntKind.wrap .u8 (BQ .u32 n 8),IntKind.wrap .u8 n]:List Int)) (enc:=Bi) (css:=[[rI .u8 (IntKind.wrap .u8 (BQ .u32 n 24))],[rI .u8 (IntKind.wrap .u8 (BQ .u32 n 16))],[rI .u8 (IntKind.wrap .u8 (BQ .u32 n 8))],[rI .u8 (IntKind.wrap .u8 n)]]) (xs:=[.tmp 5,.tmp 8,.tmp 11,.tmp 13]) E2 YW YV rfl rfl rfl ⟨Eb.one rfl (Up.refl _),Eb.one rfl (Up.refl _),Eb.one rfl (Up.refl _),Eb.one rfl (Up.refl _),trivial⟩ rfl CW rfl rfl rfl (λb1=>?_)))))))))))))))
 refine wv (r:=rS (Id ([IntKind.wrap .u8 (BQ .u32 n 24),IntKind.wrap .u8 (BQ .u32 n 16),IntKind.wrap .u8 (BQ .u32 n 8),IntKind.wrap .u8 n]:List Int))) (PP (xs:=([IntKind.wrap .u8 (BQ .u32 n 24),IntKind.wrap .u8 (BQ .u32 n 16),IntKind.wrap .u8 (BQ .u32 n 8),IntKind.wrap .u8 n]:List Int)) (i:=0) E2 BC It rfl rfl) (wa rfl (Ak (Aq ?_)))
 obtain rfl:=As h
 exact Ap (BW Tryz.results90 (A4 rfl)) (sS sN) ⟨rfl,rfl⟩
theorem Qj (s:Ag) (r:Int) (h:K8 s=some r):Fn Tryz.prog GE 96 [rS s] [] (λR H=>R=rI .u32 r∧H=[]):=by
 refine enter (n:=21) Tryz.func96 rfl Tryz.ntmps96 rfl (λw Z=>?_)
 unfold K8 at h
 refine Ae (wa rfl (Ak (Ai (ck h λg1 h2=>ck h2 λg3 h4=>ck h4 λg5 h6=>ck h6 λg7 h8=>CH [0] [⟨[],rS s,0⟩,⟨[0],rI .u8 (AK s 0),0⟩,⟨[1],rI .u32 (IntKind.wrap .u32 (AK s 0)),0⟩,⟨[2],rI .u32 (De .u32 (IntKind.wrap .u32 (AK s 0)) 24),0⟩,⟨[],rS s,0⟩,⟨[4],rI .u8 (AK s 1),0⟩,⟨[5],rI .u32 (IntKind.wrap .u32 (AK s 1)),0⟩,⟨[6],rI .u32 (De .u32 (IntKind.wrap .u32 (AK s 1)) 16),0⟩,⟨[3,7],rI .u32 (Jd .u32 (De .u32 (IntKind.wrap .u32 (AK s 0)) 24) (De .u32 (IntKind.wrap .u32 (AK s 1)) 16)),0⟩,⟨[],rS s,0⟩,⟨[9],rI .u8 (AK s 2),0⟩,⟨[10],rI .u32 (IntKind.wrap .u32 (AK s 2)),0⟩,⟨[11],rI .u32 (De .u32 (IntKind.wrap .u32 (AK s 2)) 8),0⟩,⟨[8,12],rI .u32 (Jd .u32 (Jd .u32 (De .u32 (IntKind.wrap .u32 (AK s 0)) 24) (De .u32 (IntKind.wrap .u32 (AK s 1)) 16)) (De .u32 (IntKind.wrap .u32 (AK s 2)) 8)),0⟩,⟨[],rS s,0⟩,⟨[14],rI .u8 (AK s 3),0⟩,⟨[15],rI .u32 (IntKind.wrap .u32 (AK s 3)),0⟩,⟨[13,16],rI .u32 (Jd .u32 (Jd .u32 (Jd .u32 (De .u32 (IntKind.wrap .u32 (AK s 0)) 24) (De .u32 (IntKind.wrap .u32 (AK s 1)) 16)) (De .u32 (IntKind.wrap .u32 (AK s 2)) 8)) (IntKind.wrap .u32 (AK s 3))),0⟩,⟨[17],rI .u32 (Jd .u32 (Jd .u32 (Jd .u32 (De .u32 (IntKind.wrap .u32 (AK s 0)) 24) (De .u32 (IntKind.wrap .u32 (AK s 1)) 16)) (De .u32 (IntKind.wrap .u32 (AK s 2)) 8)) (IntKind.wrap .u32 (AK s 3))),0⟩] [2] ?_ ?_))))
 ·refine oq (Al rfl) (oq (AO BC rfl rfl g1) (oq (B4 ⟨_,It⟩ G6 rfl) (oq (Ug rfl rfl (by decide)) (oq (Al rfl) (oq (AO BC rfl rfl g3) (oq (B4 ⟨_,It⟩ G6 rfl) (oq (Ug rfl rfl (by decide)) (oq (Z5 rfl rfl) (oq (Al rfl) (oq (AO BC rfl rfl g5) (oq (B4 ⟨_,It⟩ G6 rfl) (oq (Ug rfl rfl (by decide)) (oq (Z5 rfl rfl) (oq (Al rfl) (oq (AO BC rfl rfl g7) (oq (B4 ⟨_,It⟩ G6 rfl) (oq (Z5 rfl rfl) (oq (Ao rfl) ?_))))))))))))))))))
  exact Cj
 refine AF (Aq ?_)
 obtain rfl:=As h8
 exact Ap (BW Tryz.results96 (A4 rfl)) sN ⟨rfl,rfl⟩
theorem U2 (F:Nat) (fields:(List Ag)) (r:Ag×Int) (h:Qi F fields=some r):Fn Tryz.prog GE 66 [AV 1 (List.map eS fields)] [] (λR H=>R=Cm [rS r.1,rI .i64 r.2]∧H=[]):=by
 refine enter (n:=39) Tryz.func66 rfl Tryz.ntmps66 rfl (λw Z=>?_)
 unfold Qi at h
 refine Ae (wv (r:=rS ([]:Ag)) (Ao rfl) (wa rfl (Ak (Ai (Ae (wm rfl (wv (Bv (ys:=fields) (enc:=eS) Cn rfl) (wv (Cb rfl rfl) (Ak (cz h rfl (λc1 h2=>?_) (λc1 h3=>?_)))))))))))
 ·refine Ae (wv (r:=rS ([]:Ag)) (Ao rfl) (wa rfl (Ak (Aq (Ac ?_)))))
  obtain rfl:=As h2
  exact Ap (Cy Tryz.results66 (A4 rfl) (A4 rfl)) sN ⟨rfl,rfl⟩
 ·refine An (AF (Ae (wm rfl (wv (Bv (ys:=fields) (enc:=eS) Cn rfl) (wv (r:=rI .u8 (IntKind.wrap .u8 (fields.length:Int))) (B4 ⟨_,MY⟩ It rfl) (AQ (ys:=([IntKind.wrap .u8 (fields.length:Int)]:List Int)) (enc:=Bi) (css:=[[rI .u8 (IntKind.wrap .u8 (fields.length:Int))]]) (xs:=[.tmp 12]) E2 YW YV rfl rfl rfl ⟨Eb.one rfl (Up.refl _),trivial⟩ rfl CW rfl rfl rfl (λb4=>?_)))))))
  refine wa rfl (Ak (Ai (Ae (wm rfl (wv (Bv (ys:=fields) (enc:=eS) Cn rfl) (wv (r:=rI .i64 0) (Al rfl) (Ak (AB (ob h3 λhk hl hi=>Bk (S:=Nat×((List Int)×Int)×(Value)) (V:=((List Int))×(Value)) 0 (λσ=>BF (λσ=>GY fields σ.1 σ.2) σ.1 σ.2.1=some hk) (λσ=>[(2,rS ([]:Ag)),(3,rI .i64 0),(4,rv σ.2.2),(14,AV 1 (List.map eS fields)),(15,rI .i64 (fields.length:Int)),(16,rI .i64 σ.2.1.2)]) (λσ=>[.row σ.2.2 5 1 (List.map Bi σ.2.1.1)]) (λσ=>σ.1) (F,(([IntKind.wrap .u8 (fields.length:Int)]:List Int),0),(.slice (some ⟨b4,0,none⟩) 1 1)) hl (AC.c rfl (AC.c5 rfl rfl rfl rfl rfl AC.nil)) (sC sN) (λσ=>Mk σ.1=some r) (λσ=>[(2,rS ([]:Ag)),(3,rI .i64 0),(4,rv σ.2)]) (λσ=>[.row σ.2 5 1 (List.map Bi σ.1)]) ?_ ?_)))))))))
  ·rintro⟨h9,⟨hb,ha⟩,hg⟩ hm
   refine BO (l':=[(2,rS ([]:Ag)),(3,rI .i64 0),(4,rv hg),(14,AV 1 (List.map eS fields)),(15,rI .i64 (fields.length:Int)),(16,rI .i64 ha)]) (H':=[.row hg 5 1 (List.map Bi hb)]) rfl rfl ?_
   obtain⟨hn,rfl,ho,hd,hh⟩:=Ce hm
   replace hd:GY fields hb ha=some ho:=hd
   unfold GY at hd
   refine Ae (wv (BY rfl rfl) (Ak (Ai (cz hd rfl (λhp hq=>?_) (λhp hr=>?_)))))
   ·refine An (AF (Ai (AB (Ae (ck hq λhs ht=>wv (Bh (enc:=eS) (ys:=fields) Cn CD rfl rfl hs) (wv (AY Dm rfl rfl) (wa rfl (Ak (Ai (Ae (wm rfl (wv (AW BC rfl) (wv (Cb rfl rfl) (Ak (cz ht rfl (λc75 hu=>?_) (λc75 hw=>?_))))))))))))))))
    ·refine Ae (wv (r:=rS ([]:Ag)) (Ao rfl) (wa rfl (Ak (Aq (Ac (Av (Ac (Ac (AS ?_)))))))))
     have hx:=Bm hu hh hi
     refine Av (Ac ?_)
     obtain rfl:=As hx
     exact Ap (Cy Tryz.results66 (A4 rfl) (A4 rfl)) (sS sN) ⟨rfl,rfl⟩
    ·refine An (AF (Ae (wm rfl (wm rfl (wv (AW BC rfl) (wv (r:=rI .i64 (BQ .i64 ((Am fields ha).length:Int) 8)) (JN rfl rfl (by decide)) (wv (r:=rI .u8 (IntKind.wrap .u8 (BQ .i64 ((Am fields ha).length:Int) 8))) (B4 ⟨_,MY⟩ It rfl) (wm rfl (wv (AW BC rfl) (wv (r:=rI .u8 (IntKind.wrap .u8 ((Am fields ha).length:Int))) (B4 ⟨_,MY⟩ It rfl) (AQ (ys:=([IntKind.wrap .u8 (BQ .i64 ((Am fields ha).length:Int) 8),IntKind.wrap .u8 ((Am fields ha).length:Int)]:List Int)) (enc:=Bi) (css:=[[rI .u8 (IntKind.wrap .u8 (BQ .i64 ((Am fields ha).length:Int) 8))],[rI .u8 (IntKind.wrap .u8 ((Am fields ha).length:Int))]]) (xs:=[.tmp 27,.tmp 30]) E2 YW YV rfl rfl rfl ⟨Eb.one rfl (Up.refl _),Eb.one rfl (Up.refl _),trivial⟩ rfl CW rfl rfl rfl (λhA=>?_))))))))))))
     refine ck hw λhy hz=>Exists.elim J1 λinf hinf=>BG (xs:=hb) (ys:=([IntKind.wrap .u8 (BQ .i64 ((Am fields ha).length:Int) 8),IntKind.wrap .u8 ((Am fields ha).length:Int)]:List Int)) (enc:=Bi) (i:=1) E2 hinf.1 hinf.2.1 hinf.2.2.1 hinf.2.2.2 rfl rfl rfl rfl rfl (Ja.w (i:=0) rfl rfl) CW IW hy rfl (λv80=>?_)
     refine wa rfl (Ak (Af (wm rfl (wm rfl (ck hz λh0 h1=>Exists.elim J1 λinf hinf=>E5 (xs:=hb++([IntKind.wrap .u8 (BQ .i64 ((Am fields ha).length:Int) 8),IntKind.wrap .u8 ((Am fields ha).length:Int)]:List Int)) (i:=0) E2 BC hinf.1 hinf.2.1 hinf.2.2.1 hinf.2.2.2 rfl rfl rfl h0 rfl (λh4=>?_))))))
     refine wa rfl (Aj (A8 (AF (Af (ck h1 λh5 h6=>wv (AX rfl rfl h5) (wm rfl (Aj ?_)))))))
     have h7:=Bb h6 hh
     exact Ar (A3 (hn,((hb++([IntKind.wrap .u8 (BQ .i64 ((Am fields ha).length:Int) 8),IntKind.wrap .u8 ((Am fields ha).length:Int)]:List Int))++CM (Am fields ha),ha+1),h4) ⟨h7,AcL _⟩ (AC.c rfl (AC.c5 rfl rfl rfl rfl rfl AC.nil)) (sC (sS sN)))
   ·refine Bo (At ?_)
    have h8:=BI hr hh hi
    exact At (Bc (A3 (hb,hg) h8 (AC.c rfl (AC.c rfl (AC.c rfl AC.nil))) (sC sN)))
  ·rintro⟨he,hj⟩ hf
   refine Cf (l':=[(2,rS ([]:Ag)),(3,rI .i64 0),(4,rv hj)]) (H':=[.row hj 5 1 (List.map Bi he)]) rfl rfl ?_
   replace hf:Mk he=some r:=hf
   unfold Mk at hf
   refine AZ (AF (Ae (wm rfl (wv (r:=rS (Id he)) (PP (xs:=he) (i:=0) E2 BC It rfl rfl) (wa rfl (wa rfl (Ak (Aq ?_))))))))
   obtain rfl:=As hf
   exact Ap (Cy Tryz.results66 (A4 rfl) (A4 rfl)) (sS sN) ⟨rfl,rfl⟩
theorem VT (F:Nat) (s:Ag) (r:(List Ag)×Int) (h:Mj F s=some r):Fn Tryz.prog GE 72 [rS s] [] (λR H=>R=Cm [AV 1 (List.map eS r.1),rI .i64 r.2]∧H=[]):=by
 refine enter (n:=58) Tryz.func72 rfl Tryz.ntmps72 rfl (λw Z=>?_)
 unfold Mj at h
 refine Ae (wa rfl (wa rfl (Ak (Ps (S:=(Int)×(Unit)) 0 (λσ=>DZ σ.1=some r) (λσ=>[(2,rv (.slice none 0 0)),(3,rI .i64 0),(7,rI .i64 σ.1)]) (λσ=>[]) rfl ?_ ?_))))
 ·refine Ae (wa rfl (Bf (wa rfl (wa rfl (Bf (wa rfl (Ak (Ai (Ae (wm rfl (wv (Ef rfl rfl) (Ak (cz h rfl (λhq hr=>?_) (λhq hs=>?_))))))))))))))
  ·exact Kh (BZ (Kf (A3 (14,()) hr (AC.c rfl (AC.c rfl (AC.c rfl AC.nil))) sN)))
  ·refine An (AF (Ai (ck hs λht hu=>ck hu λhw hx=>ck hx λhy hz=>Gw 6 [0,2,3,4,6,7] [⟨[],rS s,none,none,none⟩,⟨[0],rI .u8 (AK s 0),none,none,none⟩,⟨[1],rI .i64 (AK s 0),none,none,none⟩,⟨[],rS s,none,none,none⟩,⟨[3],rS (List.drop (Int.toNat 1) s),none,none,none⟩,⟨[2],rI .i64 (AK s 0),none,none,none⟩] ?_ (λβ=>?_))))
   ·refine DB (Al rfl) (DB (AO BC rfl rfl ht) (DB (C9 ⟨_,It⟩ MY rfl hw) (DB (Al rfl) (DB (Dq BC rfl rfl hy) (DB (Ao rfl) ?_)))))
    exact Xy
   refine Ha (H1:=[]) [10,11,12,13,14,5,0,2,3,4,6,7] ?_
   refine wa rfl (Ak (Ai (Ae (wm rfl (wv (Cb rfl rfl) (Ak (cz hz rfl (λc167 h0=>?_) (λc167 h1=>?_))))))))
   ·exact Ae (wa rfl (Ak (Kh (BZ (Kf (A3 (13,()) h0 (AC.c rfl (AC.c rfl (AC.c rfl AC.nil))) sN))))))
   ·refine An (AF (Ai (Ae (wm rfl (wv (r:=rI .i64 0) (Al rfl) (Ak (AB (WC.nilrow (e:=9) (sz:=1) (ob h1 λh2 h3 hg=>Bk (S:=Nat×(Ag×(List Ag)×Int×Int)×(Value)) (V:=(Ag×(List Ag))×(Value)) 0 (λσ=>BF (λσ=>CL s σ.1 σ.2.1 σ.2.2.1 σ.2.2.2) σ.1 σ.2.1=some h2) (λσ=>[(0,rS σ.2.1.1),(2,rv (.slice none 0 0)),(3,rI .i64 0),(4,rv σ.2.2),(6,rI .i64 σ.2.1.2.2.1),(7,rI .i64 14),(17,rI .i64 (AK s 0)),(18,rI .i64 σ.2.1.2.2.2)]) (λσ=>[.row σ.2.2 9 1 (List.map eS σ.2.1.2.1)]) (λσ=>σ.1) (F,(List.drop (Int.toNat 1) s,([]:List Ag),0,0),(.slice none 0 0         )) h3 (AC.c rfl (AC.c rfl (AC.c rfl (AC.c5 rfl rfl rfl rfl rfl AC.nil)))) (sC sN) (λσ=>Gc σ.1.1 σ.1.2=some r) (λσ=>[(0,rS σ.1.1),(2,rv (.slice none 0 0)),(3,rI .i64 0),(4,rv σ.2),(7,rI .i64 14)]) (λσ=>[.row σ.2 9 1 (List.map eS σ.1.2)]) ?_ ?_)))))))))
    ·rintro⟨gr,⟨ha,hd,hl,hk⟩,v233⟩ h4
     refine BO (l':=[(0,rS ha),(2,rv (.slice none 0 0)),(3,rI .i64 0),(4,rv v233),(6,rI .i64 hl),(7,rI .i64 14),(17,rI .i64 (AK s 0)),(18,rI .i64 hk)]) (H':=[.row v233 9 1 (List.map eS hd)]) rfl rfl ?_
     obtain⟨h5,rfl,h6,hh,hf⟩:=Ce h4
     replace hh:CL s ha hd hl hk=some h6:=hh
     unfold CL at hh
     refine Ae (wv (BY rfl rfl) (Ak (Ai (cz hh rfl (λh7 h8=>?_) (λh7 h9=>?_)))))
     ·refine An (AF (Ai (AB (Ai (Ae (wm rfl (wv (AW BC rfl) (wv (BY rfl rfl) (Ak (cz h8 rfl (λhA hB=>?_) (λhA hC=>?_)))))))))))
      ·refine Kh (BZ (GC (BZ (BZ (JD (GC (BZ (Kf (ob hB λgs hD hE=>?_)))))))))
       have hG:=Bm hE hf hg
       obtain rfl:=As hG
       exact A3 (14,()) hD (AC.c rfl (AC.c rfl (AC.c rfl AC.nil))) (sS sN)
      ·refine An (AF (Ai (ck hC λhH hI=>ck hI λhJ hK=>ck hK λhL hN=>ck hN λhO hP=>ck hP λhQ hR=>Gw 11 [0,2,3,4,7,17,18,19,20,21,22] [⟨[],rS ha,none,none,none⟩,⟨[0],rI .u8 (AK ha 0),none,none,none⟩,⟨[1],rI .i64 (AK ha 0),none,none,none⟩,⟨[2],rI .i64 (De .i64 (AK ha 0) 8),none,none,none⟩,⟨[],rS ha,none,none,none⟩,⟨[4],rI .u8 (AK ha 1),none,none,none⟩,⟨[5],rI .i64 (AK ha 1),none,none,none⟩,⟨[3,6],rI .i64 (Jd .i64 (De .i64 (AK ha 0) 8) (AK ha 1)),none,none,none⟩,⟨[],rS ha,none,none,none⟩,⟨[8],rS (List.drop (Int.toNat 2) ha),none,none,none⟩,⟨[7],rI .i64 (Jd .i64 (De .i64 (AK ha 0) 8) (AK ha 1)),none,none,none⟩] ?_ (λβ=>?_))))
       ·refine DB (Al rfl) (DB (AO BC rfl rfl hH) (DB (C9 ⟨_,It⟩ MY rfl hJ) (DB (Ug rfl rfl (by decide)) (DB (Al rfl) (DB (AO BC rfl rfl hL) (DB (C9 ⟨_,It⟩ MY rfl hO) (DB (Z5 rfl rfl) (DB (Al rfl) (DB (Dq BC rfl rfl hQ) (DB (Ao rfl) ?_))))))))))
        exact Xy
       refine Ha (H1:=[.row v233 9 1 (List.map eS hd)]) [23,24,25,26,27,28,29,30,31,32,6,0,2,3,4,7,17,18,19,20,21,22] ?_
       refine wa rfl (Ak (Ai (Ae (wm rfl (wv (Cb rfl rfl) (Ak (cz hR rfl (λhS hT=>?_) (λhS hU=>?_))))))))
       ·refine Ae (wa rfl (Ak (Kh (BZ (GC (BZ (BZ (JD (GC (BZ (Kf (ob hT λgt hV hW=>?_))))))))))))
        have hX:=Bm hW hf hg
        obtain rfl:=As hX
        exact A3 (13,()) hV (AC.c rfl (AC.c rfl (AC.c rfl AC.nil))) (sS sN)
       ·refine An (AF (Ai (Ae (wm rfl (wv (AW BC rfl) (wm rfl (wv (BY rfl rfl) (Ak (cz hU rfl (λhY hZ=>?_) (λhY ga=>?_))))))))))
        ·refine Kh (BZ (GC (BZ (BZ (JD (GC (BZ (Kf (ob hZ λgu gb gc=>?_)))))))))
         have gd:=Bm gc hf hg
         obtain rfl:=As gd
         exact A3 (14,()) gb (AC.c rfl (AC.c rfl (AC.c rfl AC.nil))) (sS sN)
        ·refine An (AF (ck ga λhm ge=>ck ge λgf gg=>Exists.elim OO λinf hinf=>Aa5 10 5 [0,2,3,6,7,17,18,20,21,22,23,24,25,26,27,28,29,30,31,32,33,34,35,36,37,38] [4] [{ deps:=[],r:=λ_=>rv v233,old:=[4] },{ deps:=[],r:=λ_=>rS (List.drop (Int.toNat 2) ha) },{ deps:=[],r:=λ_=>rI .i64 (Jd .i64 (De .i64 (AK ha 0) 8) (AK ha 1)) },{ deps:=[1,2],r:=λ_=>rS (List.take (Int.toNat (Jd .i64 (De .i64 (AK ha 0) 8) (AK ha 1))) (List.drop (Int.toNat 2) ha)) },{ deps:=[3],r:=λ_=>AV 1 (List.map eS ([List.take (Int.toNat (Jd .i64 (De .i64 (AK ha 0) 8) (AK ha 1))) (List.drop (Int.toNat 2) ha)]:List Ag)) },{ deps:=[0,4],r:=λhb=>rv hb,dyn:=true },{ deps:=[],r:=λ_=>rS (List.drop (Int.toNat 2) ha) },{ deps:=[],r:=λ_=>rI .i64 (Jd .i64 (De .i64 (AK ha 0) 8) (AK ha 1)) },{ deps:=[6,7],r:=λ_=>rS (List.drop (Int.toNat (Jd .i64 (De .i64 (AK ha 0) 8) (AK ha 1))) (List.drop (Int.toNat 2) ha)) },{ deps:=[5],r:=λhb=>rv hb,dyn:=true }] (λhb=>[.row hb 9 1 (List.map eS (hd++([List.take (Int.toNat (Jd .i64 (De .i64 (AK ha 0) 8) (AK ha 1))) (List.drop (Int.toNat 2) ha)]:List Ag)))]) ?_ (λhb=>?_)))
         ·refine oxq (Al rfl) (oxq (Al rfl) (oxq (Al rfl) (oxq (Lg BC rfl rfl hm) (oxc (EM (ys:=([List.take (Int.toNat (Jd .i64 (De .i64 (AK ha 0) 8) (AK ha 1))) (List.drop (Int.toNat 2) ha)]:List Ag)) (enc:=eS) (css:=[[rS (List.take (Int.toNat (Jd .i64 (De .i64 (AK ha 0) 8) (AK ha 1))) (List.drop (Int.toNat 2) ha))]]) (xs:=[.tmp 42]) Cn CD Wj rfl rfl rfl ⟨Eb.one rfl (Up.refl _),trivial⟩ rfl Ed rfl rfl) (oxx (Wu (xs:=hd) (ys:=([List.take (Int.toNat (Jd .i64 (De .i64 (AK ha 0) 8) (AK ha 1))) (List.drop (Int.toNat 2) ha)]:List Ag)) (enc:=eS) (i:=0) Cn hinf.1 hinf.2.1 hinf.2.2.1 hinf.2.2.2 rfl rfl rfl rfl rfl (Ja.z rfl rfl) Ed Lp gf) (oxq (Al rfl) (oxq (Al rfl) (oxq (Dq BC rfl rfl hm) (oxq (fun {hb _}=>(Ao rfl)) ?_)))))))))
          exact oxe
         refine Ha (H1:=[.row hb 9 1 (List.map eS (hd++([List.take (Int.toNat (Jd .i64 (De .i64 (AK ha 0) 8) (AK ha 1))) (List.drop (Int.toNat 2) ha)]:List Ag)))]) [39,40,41,42,43,44,45,46,47,4,0,2,3,6,7,17,18,20,21,22,23,24,25,26,27,28,29,30,31,32,33,34,35,36,37,38] ?_
         refine wa rfl (Aj (A8 (AF (Af (ck gg λgh gi=>wv (AX rfl rfl gh) (wm rfl (Aj ?_)))))))
         have gj:=Bb gi hf
         exact Ar (A3 (h5,(List.drop (Int.toNat (Jd .i64 (De .i64 (AK ha 0) 8) (AK ha 1))) (List.drop (Int.toNat 2) ha),hd++([List.take (Int.toNat (Jd .i64 (De .i64 (AK ha 0) 8) (AK ha 1))) (List.drop (Int.toNat 2) ha)]:List Ag),Jd .i64 (De .i64 (AK ha 0) 8) (AK ha 1),hk+1),hb) ⟨gj,AcL _⟩ (AC.c rfl (AC.c rfl (AC.c rfl (AC.c5 rfl rfl rfl rfl rfl AC.nil)))) (sC sN))
     ·refine Bo (At ?_)
      have gk:=BI h9 hf hg
      exact At (Bc (A3 ((ha,hd),v233) gk (AC.c5 rfl rfl rfl rfl rfl AC.nil) (sC sN)))
    ·rintro⟨⟨hn,he⟩,ho⟩ hi
     refine Cf (l':=[(0,rS hn),(2,rv (.slice none 0 0)),(3,rI .i64 0),(4,rv ho),(7,rI .i64 14)]) (H':=[.row ho 9 1 (List.map eS he)]) rfl rfl ?_
     replace hi:Gc hn he=some r:=hi
     unfold Gc at hi
     refine AZ (AF (Ai (Ae (wm rfl (wv (Hj rfl rfl) (Ak (cz hi rfl (λgl gm=>?_) (λgl gn=>?_))))))))
     ·exact Ae (wa rfl (Ak (Kh (BZ (Kf (A3 (13,()) gm (AC.c rfl (AC.c rfl (AC.c rfl AC.nil))) (sS sN)))))))
     ·refine An (AF (Ai (Ae (wm rfl (wm rfl (wv (Dr (ys:=he) (enc:=eS) (i:=0) Cn rfl rfl) (wm rfl (wv (Dr (ys:=he) (enc:=eS) (i:=0) Cn rfl rfl) (WL.freeze (i:=0) rfl (WL.up (d:=51) (r:=AV 1 (List.map eS he)) rfl (Up.fact (i:=0) rfl) (ck gn λgp gq=>wv (r:=AV 1 (List.map eS (List.take (Int.toNat (he.length:Int)) he))) (No Cn CD rfl rfl rfl gp) (wa rfl (wa rfl (Ak (Aq (Ac (Zh ?_)))))))))))))))))
      obtain rfl:=As gq
      exact Ap (Cy Tryz.results72 (A4 rfl) (A4 rfl)) (sS sN) ⟨rfl,rfl⟩
 ·rintro⟨hp,⟨⟩⟩ hj
  refine BO (l':=[(2,rv (.slice none 0 0)),(3,rI .i64 0),(7,rI .i64 hp)]) (H':=[]) rfl rfl ?_
  replace hj:DZ hp=some r:=hj
  unfold DZ at hj
  refine Ai (An (AF (Ae (wm rfl (wa rfl (wa rfl (Ak (Aq (Ke (WK.up (d:=2) (r:=AV 1 (List.map eS ([]:List Ag))) rfl (Up.le (E1.nil _)) ?_))))))))))
  obtain rfl:=As hj
  exact Ap (Cy Tryz.results72 (A4 rfl) (A4 rfl)) sN ⟨rfl,rfl⟩
theorem ZX (F:Nat) (body:Ag) (r:Ag×Int) (h:OU F body=some r):Fn Tryz.prog GE 68 [rS body] [] (λR H=>R=Cm [rS r.1,rI .i64 r.2]∧H=[]):=by
 refine enter (n:=17) Tryz.func68 rfl Tryz.ntmps68 rfl (λw Z=>?_)
 unfold OU at h
 refine Ae (wv (r:=rS ([]:Ag)) (Ao rfl) (wa rfl (Ak (Ai (Ae (wm rfl (wv (AW BC rfl) (wv (Cb rfl rfl) (Ak (cz h rfl (λc1 h2=>?_) (λc1 h3=>?_)))))))))))
 ·refine Ae (wv (r:=rS ([]:Ag)) (Ao rfl) (wa rfl (Ak (Aq (Ac ?_)))))
  obtain rfl:=As h2
  exact Ap (Cy Tryz.results68 (A4 rfl) (A4 rfl)) sN ⟨rfl,rfl⟩
 ·refine An (AF (Ae (wm rfl (wv (AW BC rfl) (wv (r:=rI .u32 (IntKind.wrap .u32 (body.length:Int))) (B4 ⟨_,MY⟩ G6 rfl) (ob h3 λr4 e6 h5=>Cg Tryz.call90 (Qk (IntKind.wrap .u32 (body.length:Int)) r4 e6) rfl (wm rfl (ob h5 λr7 e9 h8=>Cg Tryz.call91 (Yf F body r7 e9) rfl (ob h8 λha hb hd=>Cg Tryz.call90 (Qk r7 ha hb) rfl (ck hd λhe hf=>wv (CS rfl rfl he) (wm rfl (ck hf λg15 hg=>wv (CS rfl rfl g15) (wa rfl (wa rfl (Ak (Aq ?_))))))))))))))))
  obtain rfl:=As hg
  exact Ap (Cy Tryz.results68 (A4 rfl) (A4 rfl)) sN ⟨rfl,rfl⟩
theorem ZY (F:Nat) (s:Ag) (r:Ag×Int×Int) (h:S7 F s=some r):Fn Tryz.prog GE 71 [rS s] [] (λR H=>R=Cm [rS r.1,rI .i64 r.2.1,rI .i64 r.2.2]∧H=[]):=by
 refine enter (n:=35) Tryz.func71 rfl Tryz.ntmps71 rfl (λw Z=>?_)
 unfold S7 at h
 refine Ae (wv (r:=rS ([]:Ag)) (Ao rfl) (wa rfl (wa rfl (Ak (Ai (Ae (wm rfl (wv (AW BC rfl) (wv (BY rfl rfl) (Ak (cz h rfl (λc1 h2=>?_) (λc1 h3=>?_))))))))))))
 ·refine Ae (wv (r:=rS ([]:Ag)) (Ao rfl) (wa rfl (wa rfl (Ak (Aq (Ac ?_))))))
  obtain rfl:=As h2
  exact Ap (SQ Wl (A4 rfl) (A4 rfl) (A4 rfl)) sN ⟨rfl,rfl⟩
 ·refine An (AF (Ae (wm rfl (ob h3 λr4 e6 h5=>Cg Tryz.call96 (Qj s r4 e6) rfl (wv (r:=rI .i64 (IntKind.wrap .i64 r4)) (B4 ⟨_,G6⟩ MY rfl) (wa rfl (Ak (Ai (AB (Ae (wm rfl (wv (Cb rfl rfl) (wa rfl (Ak (cz h5 rfl (λc7 h8=>?_) (λc7 h9=>?_))))))))))))))))
  ·refine Ae (wv (r:=rS ([]:Ag)) (Ao rfl) (wa rfl (wa rfl (Ak (Aq (Av (Ac ?_)))))))
   obtain rfl:=As h8
   exact Ap (SQ Wl (A4 rfl) (A4 rfl) (A4 rfl)) sN ⟨rfl,rfl⟩
  ·refine Ae (wm rfl (wm rfl (wv (AW BC rfl) (ck h9 λhb hd=>wv (EN rfl rfl hb) (wv (Cb rfl rfl) (wa rfl (Ak (cz hd rfl (λhe hf=>?_) (λhe hg=>?_)))))))))
   ·refine Ae (wv (r:=rS ([]:Ag)) (Ao rfl) (wa rfl (wa rfl (Ak (Aq (Av (Ac ?_)))))))
    obtain rfl:=As hf
    exact Ap (SQ Wl (A4 rfl) (A4 rfl) (A4 rfl)) sN ⟨rfl,rfl⟩
   ·refine An (A8 (AF (Ae (wm rfl (wm rfl (ck hg λg15 hh=>wv (AX rfl rfl g15) (ck hh λg17 hi=>ck hi λg19 hj=>wv (CK BC rfl rfl rfl g17 g19) (wa rfl (Ak (Ai (Ai (ob hj λha hk hl=>ck hl λhm hn=>Gw 4 [0,5,6] [⟨[],rS (List.take (Int.toNat (8+(IntKind.wrap .i64 r4))-Int.toNat 8) (List.drop (Int.toNat 8) s)),none,none,none⟩,⟨[0],rI .u32 ha,none,none,none⟩,⟨[],rS s,none,none,none⟩,⟨[2],rS (List.drop (Int.toNat 4) s),none,none,none⟩] ?_ (λβ=>?_)))))))))))))
    ·refine DB (Al rfl) (oac (HR Tryz.call91 (Yf F (List.take (Int.toNat (8+(IntKind.wrap .i64 r4))-Int.toNat 8) (List.drop (Int.toNat 8) s)) ha hk) rfl) (DB (Al rfl) (DB (Dq BC rfl rfl hm) ?_)))
     exact Xy
    refine Ha (H1:=[]) [26,27,28,29,0,5,6] ?_
    refine ob hn λho hp hq=>Cg Tryz.call96 (Qj (List.drop (Int.toNat 4) s) ho hp) rfl (wv (CB rfl rfl) (Ak (cz hq rfl (λhr hs=>?_) (λhr ht=>?_))))
    ·refine Ae (wv (r:=rS ([]:Ag)) (Ao rfl) (wa rfl (wa rfl (Ak (Aq (Ac ?_))))))
     obtain rfl:=As hs
     exact Ap (SQ Wl (A4 rfl) (A4 rfl) (A4 rfl)) sN ⟨rfl,rfl⟩
    ·refine An (AF (Ae (wm rfl (wm rfl (wv (AX rfl rfl g15) (wa rfl (wa rfl (wa rfl (Ak (Aq ?_))))))))))
     obtain rfl:=As ht
     exact Ap (SQ Wl (A4 rfl) (A4 rfl) (A4 rfl)) sN ⟨rfl,rfl⟩
theorem Yt (F:Nat) (s:Ag) (r:(List Ag)×Int) (h:OT F s=some r):Fn Tryz.prog GE 51 [rS s] [] (λR H=>R=Cm [AV 1 (List.map eS r.1),rI .i64 r.2]∧H=[]):=by
 refine enter (n:=37) Tryz.func51 rfl Tryz.ntmps51 rfl (λw Z=>?_)
 unfold OT at h
 refine Ae (wa rfl (wa rfl (Bf (wa rfl (Bf (wa rfl (Ak (Ai (AB (WC.nilrow (e:=9) (sz:=1) (ob h λhm hn hj=>Bk (S:=Nat×((List Ag)×Int)×(Value)) (V:=((List Ag)×Int)×(Value)) 0 (λσ=>BF (λσ=>GM F s σ.1 σ.2) σ.1 σ.2.1=some hm) (λσ=>[(0,rS s),(2,rv (.slice none 0 0)),(3,rI .i64 0),(4,rv σ.2.2),(5,rI .i64 σ.2.1.2)]) (λσ=>[.row σ.2.2 9 1 (List.map eS σ.2.1.1)]) (λσ=>σ.1) (F,(([]:List Ag),0),(.slice none 0 0         )) hn (AC.c5 rfl rfl rfl rfl rfl AC.nil) (sC sN) (λσ=>IV σ.1.1 σ.1.2=some r) (λσ=>[(2,rv (.slice none 0 0)),(3,rI .i64 0),(4,rv σ.2),(5,rI .i64 σ.1.2)]) (λσ=>[.row σ.2 9 1 (List.map eS σ.1.1)]) ?_ ?_)))))))))))
 ·rintro⟨hB,⟨hb,hd⟩,hf⟩ ho
  refine BO (l':=[(0,rS s),(2,rv (.slice none 0 0)),(3,rI .i64 0),(4,rv hf),(5,rI .i64 hd)]) (H':=[.row hf 9 1 (List.map eS hb)]) rfl rfl ?_
  obtain⟨hp,rfl,hq,hg,hi⟩:=Ce ho
  replace hg:GM F s hb hd=some hq:=hg
  unfold GM at hg
  refine Ai (Ae (wm rfl (wm rfl (wv (AW BC rfl) (wv (BY rfl rfl) (Ak (cz hg rfl (λhr hs=>?_) (λhr ht=>?_))))))))
  ·refine An (AF (AB (Ae (wm rfl (wm rfl (ck hs λhu hw=>wv (Dq BC rfl rfl hu) (ob hw λhe hx hy=>Cg Tryz.call71 (ZY F (List.drop (Int.toNat hd) s) he hx) rfl (wm rfl (wv (Az rfl rfl) (wv (Az rfl rfl) (wv (Az rfl rfl) (wa rfl (wa rfl (wa rfl (Ak (Ai (Ae (wm rfl (wv (CB rfl rfl) (Ak (cz hy rfl (λc167 hz=>?_) (λc167 h0=>?_))))))))))))))))))))))
   ·refine Bo (At (Oe rfl ?_))
    have h1:=BI hz hi hj
    exact At (Bc (A3 ((hb,hd),hf) h1 (AC.c rfl (AC.c rfl (AC.c rfl (AC.c rfl AC.nil)))) (sC sN)))
   ·refine An (AF (Af (wm rfl (wm rfl (AQ (ys:=([he.1]:List Ag)) (enc:=eS) (css:=[[rS he.1]]) (xs:=[.tmp 24]) Cn CD Wj rfl rfl rfl ⟨Eb.one rfl (Up.refl _),trivial⟩ rfl Ed rfl rfl rfl (λhC=>?_))))))
    refine ck h0 λh2 h3=>Exists.elim OO λinf hinf=>BG (xs:=hb) (ys:=([he.1]:List Ag)) (enc:=eS) (i:=1) Cn hinf.1 hinf.2.1 hinf.2.2.1 hinf.2.2.2 rfl rfl rfl rfl rfl (Ja.w (i:=0) rfl rfl) Ed Lp h2 rfl (λh4=>?_)
    refine wm rfl (wm rfl (ck h3 λh5 h6=>wv (AX rfl rfl h5) (wa rfl (wa rfl (Aj (A8 ?_))))))
    have h7:=Bb h6 hi
    exact Ar (A3 (hp,(hb++([he.1]:List Ag),hd+he.2.1),h4) ⟨h7,AcL _⟩ (AC.c5 rfl rfl rfl rfl rfl AC.nil) (sC (sS sN)))
  ·refine Bo (At ?_)
   have h8:=BI ht hi hj
   exact At (Bc (A3 ((hb,hd),hf) h8 (AC.c rfl (AC.c rfl (AC.c rfl (AC.c rfl AC.nil)))) (sC sN)))
 ·rintro⟨⟨ha,hk⟩,hl⟩ hh
  refine Cf (l':=[(2,rv (.slice none 0 0)),(3,rI .i64 0),(4,rv hl),(5,rI .i64 hk)]) (H':=[.row hl 9 1 (List.map eS ha)]) rfl rfl ?_
  replace hh:IV ha hk=some r:=hh
  unfold IV at hh
  refine AZ (AF (Ae (wm rfl (wm rfl (wv (Dr (ys:=ha) (enc:=eS) (i:=0) Cn rfl rfl) (wm rfl (wv (Dr (ys:=ha) (enc:=eS) (i:=0) Cn rfl rfl) (WL.freeze (i:=0) rfl (WL.up (d:=30) (r:=AV 1 (List.map eS ha)) rfl (Up.fact (i:=0) rfl) (ck hh λh9 hA=>wv (r:=AV 1 (List.map eS (List.take (Int.toNat (ha.length:Int)) ha))) (No Cn CD rfl rfl rfl h9) (wm rfl (wa rfl (wa rfl (Ak (Aq ?_)))))))))))))))
  obtain rfl:=As hA
  exact Ap (Cy Tryz.results51 (A4 rfl) (A4 rfl)) (sS sN) ⟨rfl,rfl⟩
theorem ZZ (F:Nat) (bodies:(List Ag)) (r:Ag×Int) (h:S8 F bodies=some r):Fn Tryz.prog GE 46 [AV 1 (List.map eS bodies)] [] (λR H=>R=Cm [rS r.1,rI .i64 r.2]∧H=[]):=by
 refine enter (n:=36) Tryz.func46 rfl Tryz.ntmps46 rfl (λw Z=>?_)
 unfold S8 at h
 refine Ae (wv (r:=rS ([]:Ag)) (Ao rfl) (wa rfl (Bf (wa rfl (Ak (Ai (Ae (wm rfl (wv (Bv (ys:=bodies) (enc:=eS) Cn rfl) (wv (r:=rI .i64 0) (Al rfl) (Ak (AB (WC.nilrow (e:=5) (sz:=1) (ob h λhm hn hk=>Bk (S:=Nat×((List Int)×Int)×(Value)) (V:=((List Int))×(Value)) 0 (λσ=>BF (λσ=>G4 F bodies σ.1 σ.2) σ.1 σ.2.1=some hm) (λσ=>[(4,rv σ.2.2),(9,AV 1 (List.map eS bodies)),(10,rI .i64 (bodies.length:Int)),(11,rI .i64 σ.2.1.2)]) (λσ=>[.row σ.2.2 5 1 (List.map Bi σ.2.1.1)]) (λσ=>σ.1) (F,(([]:List Int),0),(.slice none 0 0     )) hn (AC.c rfl (AC.c rfl (AC.c rfl (AC.c rfl AC.nil)))) (sC sN) (λσ=>JX σ.1=some r) (λσ=>[(4,rv σ.2)]) (λσ=>[.row σ.2 5 1 (List.map Bi σ.1)]) ?_ ?_))))))))))))))
 ·rintro⟨hC,⟨hb,he⟩,hf⟩ ho
  refine BO (l':=[(4,rv hf),(9,AV 1 (List.map eS bodies)),(10,rI .i64 (bodies.length:Int)),(11,rI .i64 he)]) (H':=[.row hf 5 1 (List.map Bi hb)]) rfl rfl ?_
  obtain⟨hp,rfl,hq,hg,hj⟩:=Ce ho
  replace hg:G4 F bodies hb he=some hq:=hg
  unfold G4 at hg
  refine Ae (wv (BY rfl rfl) (Ak (Ai (cz hg rfl (λhr hs=>?_) (λhr ht=>?_)))))
  ·refine An (AF (Ai (AB (Ae (ck hs λhu hw=>wv (Bh (enc:=eS) (ys:=bodies) Cn CD rfl rfl hu) (wv (AY Dm rfl rfl) (wa rfl (Bf (wm rfl (ob hw λhd hx hy=>Cg Tryz.call68 (ZX F (Am bodies he) hd hx) rfl (wm rfl (wv (Az rfl rfl) (wv (Az rfl rfl) (wa rfl (wa rfl (Ak (Ai (ck hy λhz h0=>A6 [(4,rv hf),(7,rS hd.1),(9,AV 1 (List.map eS bodies)),(10,rI .i64 (bodies.length:Int)),(11,rI .i64 he),(29,rB ((!decide (hd.2=0))||(decide (262144<((hb.length:Int)+(hd.1.length:Int))))))] [.row hf 5 1 (List.map Bi hb)] ?_ ?_))))))))))))))))))
   ·refine Af (wm rfl (wv (CB rfl rfl) (wm rfl (AI (!decide (hd.2=0)) (λha=>?_) (λha=>?_)))))
    ·refine wf ha (wf ha (wf ha (wf ha (wf ha (wf ha (wv (r:=rB true) (Au rfl ha rfl) (Aj ?_)))))))
     exact BM ha
    ·refine wo ha (wm rfl (wo ha (wv (Dr (ys:=hb) (enc:=Bi) (i:=0) E2 rfl rfl) (wo ha (wm rfl (wo ha (wv (AW BC rfl) (wo ha (wv (AX rfl rfl (Cr hz ha)) (wo ha (wv (Cb rfl rfl) (DR rfl ha rfl (Aj ?_)))))))))))))
     exact BM ha
   refine cz h0 rfl (λh1 h2=>?_) (λh1 h3=>?_)
   ·refine Ae (wv (r:=rS ([]:Ag)) (Ao rfl) (wa rfl (Ak (Aq (Ac (Av (Ac (Ac (AS ?_)))))))))
    have h4:=Bm h2 hj hk
    refine Av (Ac ?_)
    obtain rfl:=As h4
    exact Ap (Cy Tryz.results46 (A4 rfl) (A4 rfl)) (sS sN) ⟨rfl,rfl⟩
   ·refine An (AF (Af (wm rfl (wm rfl (ck h3 λh5 h6=>Exists.elim J1 λinf hinf=>E5 (xs:=hb) (i:=0) E2 BC hinf.1 hinf.2.1 hinf.2.2.1 hinf.2.2.2 rfl rfl rfl h5 rfl (λh7=>?_))))))
    refine wa rfl (Aj (A8 (AF (Af (ck h6 λh8 h9=>wv (AX rfl rfl h8) (wm rfl (Aj ?_)))))))
    have hA:=Bb h9 hj
    exact Ar (A3 (hp,(hb++CM hd.1,he+1),h7) ⟨hA,AcL _⟩ (AC.c rfl (AC.c rfl (AC.c rfl (AC.c rfl AC.nil)))) (sC sN))
  ·refine Bo (At ?_)
   have hB:=BI ht hj hk
   exact At (Bc (A3 (hb,hf) hB (AC.c rfl AC.nil) (sC sN)))
 ·rintro⟨hh,hl⟩ hi
  refine Cf (l':=[(4,rv hl)]) (H':=[.row hl 5 1 (List.map Bi hh)]) rfl rfl ?_
  replace hi:JX hh=some r:=hi
  unfold JX at hi
  refine AZ (AF (Ae (wm rfl (wv (r:=rS (Id hh)) (PP (xs:=hh) (i:=0) E2 BC It rfl rfl) (wa rfl (wa rfl (Ak (Aq ?_))))))))
  obtain rfl:=As hi
  exact Ap (Cy Tryz.results46 (A4 rfl) (A4 rfl)) (sS sN) ⟨rfl,rfl⟩
theorem TW (F:Nat) (s:Ag) (r:Int) (h:PJ F s=some r):Fn Tryz.prog GE 95 [rS s] [] (λR H=>R=rI .u32 r∧H=[]):=by
 refine enter (n:=32) Tryz.func95 rfl Tryz.ntmps95 rfl (λw Z=>?_)
 unfold PJ at h
 refine Ae (wa rfl (Bf (wa rfl (Ak (Ai (Ae (wa rfl (Ak (AB (ob h λhs ht hu=>Bk (S:=Nat×(Int×Int)×(Unit)) (V:=(Int)×(Unit)) 0 (λσ=>BF (λσ=>Gz F s σ.1 σ.2) σ.1 σ.2.1=some hs) (λσ=>[(0,rS s),(3,rI .u32 σ.2.1.1),(4,rI .i64 σ.2.1.2)]) (λσ=>[]) (λσ=>σ.1) (F,(4294967295,0),()) ht (AC.c rfl (AC.c rfl (AC.c rfl AC.nil))) sN (λσ=>LJ σ.1=some r) (λσ=>[(3,rI .u32 σ.1)]) (λσ=>[]) ?_ ?_))))))))))
 ·rintro⟨hL,⟨he,hb⟩,⟨⟩⟩ hw
  refine BO (l':=[(0,rS s),(3,rI .u32 he),(4,rI .i64 hb)]) (H':=[]) rfl rfl ?_
  obtain⟨hx,rfl,hj,hf,hn⟩:=Ce hw
  replace hf:Gz F s he hb=some hj:=hf
  unfold Gz at hf
  refine Ai (Ae (wm rfl (wm rfl (wv (AW BC rfl) (wv (BY rfl rfl) (Ak (cz hf rfl (λhy hz=>?_) (λhy h0=>?_))))))))
  ·refine An (AF (Ai (AB (Ae (wm rfl (wm rfl (wm rfl (ck hz λh1 h2=>wv (AO BC rfl rfl h1) (wv (r:=rI .u32 (IntKind.wrap .u32 (AK s hb))) (B4 ⟨_,It⟩ G6 rfl) (wv (r:=rI .u32 (EG .u32 he (IntKind.wrap .u32 (AK s hb)))) (Sc rfl rfl) (wa rfl (Bf (wa rfl (Ak (AB (ob h2 λh3 h4 h5=>Bk (S:=Nat×(Int×Int)×(Unit)) (V:=(Int×Int×Int×Bool)×(Unit)) 2 (λσ=>BF (λσ=>HP σ.1 σ.2) σ.1 σ.2.1=some h3) (λσ=>[(0,rS s),(3,rI .u32 σ.2.1.1),(4,rI .i64 hb),(5,rI .i64 σ.2.1.2)]) (λσ=>[]) (λσ=>σ.1) (F,(EG .u32 he (IntKind.wrap .u32 (AK s hb)),0),()) h4 (AC.c rfl (AC.c rfl (AC.c rfl (AC.c rfl AC.nil)))) sN (λσ=>JM hb σ.1.1 σ.1.2.1 σ.1.2.2.1 σ.1.2.2.2=some hj) (λσ=>[(0,rS s),(3,rI .u32 σ.1.1),(4,rI .i64 hb),(5,rI .i64 σ.1.2.1),(18,rI .i64 σ.1.2.2.1),(19,rB σ.1.2.2.2)]) (λσ=>[]) ?_ ?_))))))))))))))))
   ·rintro⟨hN,⟨ha,hd⟩,⟨⟩⟩ h6
    refine BO (l':=[(0,rS s),(3,rI .u32 ha),(4,rI .i64 hb),(5,rI .i64 hd)]) (H':=[]) rfl rfl ?_
    obtain⟨h7,rfl,h8,hg,ho⟩:=Ce h6
    replace hg:HP ha hd=some h8:=hg
    unfold HP at hg
    refine Ai (Ae (wm rfl (wv (BY rfl rfl) (Ak (cz hg rfl (λh9 hA=>?_) (λh9 hB=>?_))))))
    ·refine An (AF (A6 [(0,rS s),(3,rI .u32 (bif decide ((Lo .u32 ha 1)=1) then EG .u32 (BQ .u32 ha 1) 3988292384 else BQ .u32 ha 1)),(4,rI .i64 hb),(5,rI .i64 hd)] [] ?_ ?_))
     ·refine AB (Ae (wm rfl (wv (r:=rI .u32 (Lo .u32 ha 1)) (Aas rfl rfl) (wv (Bx rfl rfl) (Ak (C1 (b:=decide ((Lo .u32 ha 1)=1)) rfl (λhk=>?_) (λhk=>?_)))))))
      ·refine Af (wm rfl (wv (r:=rI .u32 (BQ .u32 ha 1)) (JN rfl rfl (by decide)) (wv (r:=rI .u32 (EG .u32 (BQ .u32 ha 1) 3988292384)) (Sc rfl rfl) (wa rfl (Aj (A8 ?_))))))
       exact BM hk
      ·refine Af (wm rfl (wv (r:=rI .u32 (BQ .u32 ha 1)) (JN rfl rfl (by decide)) (wa rfl (Aj (A8 ?_)))))
       exact BM hk
     refine Af (wm rfl (ck hA λhC hD=>wv (AX rfl rfl hC) (wa rfl (Aj ?_))))
     have hE:=Bb hD ho
     exact Ar (A3 (h7,((bif decide ((Lo .u32 ha 1)=1) then EG .u32 (BQ .u32 ha 1) 3988292384 else BQ .u32 ha 1),hd+1),()) ⟨hE,AcL _⟩ (AC.c rfl (AC.c rfl (AC.c rfl (AC.c rfl AC.nil)))) sN)
    ·refine Bo (At ?_)
     have hG:=BI hB ho h5
     exact At (Bc (A3 ((ha,hd,hd,decide (hd<8)),()) hG (AC.c rfl (AC.c5 rfl rfl rfl rfl rfl AC.nil)) sN))
   ·rintro⟨⟨hl,hp,hq,hr⟩,⟨⟩⟩ hh
    refine Cf (l':=[(0,rS s),(3,rI .u32 hl),(4,rI .i64 hb),(5,rI .i64 hp),(18,rI .i64 hq),(19,rB hr)]) (H':=[]) rfl rfl ?_
    replace hh:JM hb hl hp hq hr=some hj:=hh
    unfold JM at hh
    refine AZ (A8 (AF (Af (wm rfl (ck hh λhH hI=>wv (AX rfl rfl hH) (wa rfl (Aj ?_)))))))
    have hJ:=Bb hI hn
    exact Ar (A3 (hx,(hl,hb+1),()) ⟨hJ,AcL _⟩ (AC.c rfl (AC.c rfl (AC.c rfl AC.nil))) sN)
  ·refine Bo (At ?_)
   have hK:=BI h0 hn hu
   exact At (Bc (A3 (he,()) hK (AC.c rfl AC.nil) sN))
 ·rintro⟨hm,⟨⟩⟩ hi
  refine Cf (l':=[(3,rI .u32 hm)]) (H':=[]) rfl rfl ?_
  replace hi:LJ hm=some r:=hi
  unfold LJ at hi
  refine AZ (AF (Ae (wm rfl (wv (r:=rI .u32 (QP .u32 hm)) (Uj rfl) (wa rfl (Ak (Aq ?_)))))))
  obtain rfl:=As hi
  exact Ap (BW Tryz.results95 (A4 rfl)) sN ⟨rfl,rfl⟩
theorem O4 (n:Int) (r:(List Int)) (h:Le n=some r):Fn Tryz.prog GE 94 [rI .u32 n] [] (λR H=>R=AV 1 (List.map Bi r)∧H=[]):=by
 refine enter (n:=15) Tryz.func94 rfl Tryz.ntmps94 rfl (λw Z=>?_)
 unfold Le at h
 refine Ae (wa rfl (Bf (wm rfl (wv (r:=rI .u32 (BQ .u32 n 24)) (JN rfl rfl (by decide)) (wv (r:=rI .u8 (IntKind.wrap .u8 (BQ .u32 n 24))) (B4 ⟨_,G6⟩ It rfl) (wm rfl (wv (r:=rI .u32 (BQ .u32 n 16)) (JN rfl rfl (by decide)) (wv (r:=rI .u8 (IntKind.wrap .u8 (BQ .u32 n 16))) (B4 ⟨_,G6⟩ It rfl) (wm rfl (wv (r:=rI .u32 (BQ .u32 n 8)) (JN rfl rfl (by decide)) (wv (r:=rI .u8 (IntKind.wrap .u8 (BQ .u32 n 8))) (B4 ⟨_,G6⟩ It rfl) (wm rfl (wv (r:=rI .u8 (IntKind.wrap .u8 n)) (B4 ⟨_,G6⟩ It rfl) (AQ (ys:=([IntKind.wrap .u8 (BQ .u32 n 24),IntKind.wrap .u8 (BQ .u32 n 16),IntKind.wrap .u8 (BQ .u32 n 8),IntKind.wrap .u8 n]:List Int)) (enc:=Bi) (css:=[[rI .u8 (IntKind.wrap .u8 (BQ .u32 n 24))],[rI .u8 (IntKind.wrap .u8 (BQ .u32 n 16))],[rI .u8 (IntKind.wrap .u8 (BQ .u32 n 8))],[rI .u8 (IntKind.wrap .u8 n)]]) (xs:=[.tmp 5,.tmp 8,.tmp 11,.tmp 13]) E2 YW YV rfl rfl rfl ⟨Eb.one rfl (Up.refl _),Eb.one rfl (Up.refl _),Eb.one rfl (Up.refl _),Eb.one rfl (Up.refl _),trivial⟩ rfl CW rfl rfl rfl (λb1=>?_)))))))))))))))
 refine wa rfl (Ak (Aq (WK.freeze (i:=0) rfl (WK.up (d:=2) (r:=AV 1 (List.map Bi ([IntKind.wrap .u8 (BQ .u32 n 24),IntKind.wrap .u8 (BQ .u32 n 16),IntKind.wrap .u8 (BQ .u32 n 8),IntKind.wrap .u8 n]:List Int))) rfl (Up.fact (i:=0) rfl) ?_))))
 obtain rfl:=As h
 exact Ap (BW Tryz.results94 (A4 rfl)) (sS sN) ⟨rfl,rfl⟩
theorem RQ (F:Nat) (fields:(List Ag)) (r:Ag×Int) (h:JL F fields=some r):Fn Tryz.prog GE 49 [AV 1 (List.map eS fields)] [] (λR H=>R=Cm [rS r.1,rI .i64 r.2]∧H=[]):=by
 refine enter (n:=50) Tryz.func49 rfl Tryz.ntmps49 rfl (λw Z=>?_)
 unfold JL at h
 refine Ae (wv (r:=rS ([]:Ag)) (Ao rfl) (wa rfl (Ak (Ai (Ae (wm rfl (wv (Bv (ys:=fields) (enc:=eS) Cn rfl) (wv (Cb rfl rfl) (Ak (cz h rfl (λc1 h2=>?_) (λc1 h3=>?_)))))))))))
 ·refine Ae (wv (r:=rS ([]:Ag)) (Ao rfl) (wa rfl (Ak (Aq (Ac ?_)))))
  obtain rfl:=As h2
  exact Ap (Cy Tryz.results49 (A4 rfl) (A4 rfl)) sN ⟨rfl,rfl⟩
 ·refine An (AF (Ae (wm rfl (wv (Bv (ys:=fields) (enc:=eS) Cn rfl) (wv (r:=rI .u8 (IntKind.wrap .u8 (fields.length:Int))) (B4 ⟨_,MY⟩ It rfl) (AQ (ys:=([IntKind.wrap .u8 (fields.length:Int)]:List Int)) (enc:=Bi) (css:=[[rI .u8 (IntKind.wrap .u8 (fields.length:Int))]]) (xs:=[.tmp 11]) E2 YW YV rfl rfl rfl ⟨Eb.one rfl (Up.refl _),trivial⟩ rfl CW rfl rfl rfl (λb4=>?_)))))))
  refine wa rfl (Ak (Ai (Ae (wm rfl (wv (Bv (ys:=fields) (enc:=eS) Cn rfl) (wv (r:=rI .i64 0) (Al rfl) (Ak (AB (ob h3 λhl hm hj=>Bk (S:=Nat×((List Int)×Int)×(Value)) (V:=((List Int))×(Value)) 0 (λσ=>BF (λσ=>Gn fields σ.1 σ.2) σ.1 σ.2.1=some hl) (λσ=>[(0,AV 1 (List.map eS fields)),(4,rv σ.2.2),(14,rI .i64 (fields.length:Int)),(15,rI .i64 σ.2.1.2)]) (λσ=>[.row σ.2.2 5 1 (List.map Bi σ.2.1.1)]) (λσ=>σ.1) (F,(([IntKind.wrap .u8 (fields.length:Int)]:List Int),0),(.slice (some ⟨b4,0,none⟩) 1 1)) hm (AC.c rfl (AC.c rfl (AC.c rfl (AC.c rfl AC.nil)))) (sC sN) (λσ=>Ko σ.1=some r) (λσ=>[(4,rv σ.2)]) (λσ=>[.row σ.2 5 1 (List.map Bi σ.1)]) ?_ ?_)))))))))
  ·rintro⟨hC,⟨hb,ha⟩,hd⟩ hn
   refine BO (l':=[(0,AV 1 (List.map eS fields)),(4,rv hd),(14,rI .i64 (fields.length:Int)),(15,rI .i64 ha)]) (H':=[.row hd 5 1 (List.map Bi hb)]) rfl rfl ?_
   obtain⟨ho,rfl,hp,he,hi⟩:=Ce hn
   replace he:Gn fields hb ha=some hp:=he
   unfold Gn at he
   refine Ae (wv (BY rfl rfl) (Ak (Ai (cz he rfl (λhq hr=>?_) (λhq hs=>?_)))))
   ·refine An (AF (Ai (AB (Ae (wm rfl (wa rfl (Ak (Ai (Ae (wm rfl (wm rfl (ck hr λhf ht=>wv (Bh (enc:=eS) (ys:=fields) Cn CD rfl rfl hf) (wv (AY Dm rfl rfl) (wv (AW BC rfl) (wv (Cb rfl rfl) (Ak (cz ht rfl (λhu hw=>?_) (λhu hx=>?_))))))))))))))))))
    ·refine Ae (wv (r:=rS ([]:Ag)) (Ao rfl) (wa rfl (Ak (Aq (Ac (Av (Ac (Ac (AS ?_)))))))))
     have hy:=Bm hw hi hj
     refine Av (Ac ?_)
     obtain rfl:=As hy
     exact Ap (Cy Tryz.results49 (A4 rfl) (A4 rfl)) (sS sN) ⟨rfl,rfl⟩
    ·refine An (AF (Ai (ck hx λhz h0=>Gw 16 [0,4,5,14,15] [⟨[],rv hd,none,none,none⟩,⟨[],AV 1 (List.map eS fields),none,none,none⟩,⟨[],rI .i64 ha,none,none,none⟩,⟨[1,2],EL [rS (Am fields ha)],none,none,none⟩,⟨[3],rS (Am fields ha),none,none,none⟩,⟨[4],rI .i64 ((Am fields ha).length:Int),none,none,none⟩,⟨[5],rI .i64 (Int.tdiv ((Am fields ha).length:Int) 256),none,none,none⟩,⟨[6],rI .u8 (IntKind.wrap .u8 (Int.tdiv ((Am fields ha).length:Int) 256)),none,none,none⟩,⟨[],AV 1 (List.map eS fields),none,none,none⟩,⟨[],rI .i64 ha,none,none,none⟩,⟨[8,9],EL [rS (Am fields ha)],none,none,none⟩,⟨[10],rS (Am fields ha),none,none,none⟩,⟨[11],rI .i64 ((Am fields ha).length:Int),none,none,none⟩,⟨[12],rI .i64 (Int.tmod ((Am fields ha).length:Int) 256),none,none,none⟩,⟨[13],rI .u8 (IntKind.wrap .u8 (Int.tmod ((Am fields ha).length:Int) 256)),none,none,none⟩,⟨[7,14],AV 1 (List.map Bi ([IntKind.wrap .u8 (Int.tdiv ((Am fields ha).length:Int) 256),IntKind.wrap .u8 (Int.tmod ((Am fields ha).length:Int) 256)]:List Int)),none,none,none⟩] ?_ (λβ=>?_))))
     ·refine DB (Al rfl) (DB (Al rfl) (DB (Al rfl) (DB (Bh (enc:=eS) (ys:=fields) Cn CD rfl rfl hf) (DB (AY Dm rfl rfl) (DB (AW BC rfl) (DB (X1 rfl rfl (by decide) hz) (DB (B4 ⟨_,MY⟩ It rfl) (DB (Al rfl) (DB (Al rfl) (DB (Bh (enc:=eS) (ys:=fields) Cn CD rfl rfl hf) (DB (AY Dm rfl rfl) (DB (AW BC rfl) (DB (X0 rfl rfl (by decide)) (DB (B4 ⟨_,MY⟩ It rfl) (oac (EM (ys:=([IntKind.wrap .u8 (Int.tdiv ((Am fields ha).length:Int) 256),IntKind.wrap .u8 (Int.tmod ((Am fields ha).length:Int) 256)]:List Int)) (enc:=Bi) (css:=[[rI .u8 (IntKind.wrap .u8 (Int.tdiv ((Am fields ha).length:Int) 256))],[rI .u8 (IntKind.wrap .u8 (Int.tmod ((Am fields ha).length:Int) 256))]]) (xs:=[.tmp 31,.tmp 38]) E2 YW YV rfl rfl rfl ⟨Eb.one rfl (Up.refl _),Eb.one rfl (Up.refl _),trivial⟩ rfl CW rfl rfl) ?_)))))))))))))))
      exact Xy
     refine Ha (H1:=[.row hd 5 1 (List.map Bi hb)]) [24,25,26,27,28,29,30,31,32,33,34,35,36,37,38,39,0,4,5,14,15] ?_
     refine ck h0 λh1 h4=>Exists.elim J1 λinf hinf=>BG (xs:=hb) (ys:=([IntKind.wrap .u8 (Int.tdiv ((Am fields ha).length:Int) 256),IntKind.wrap .u8 (Int.tmod ((Am fields ha).length:Int) 256)]:List Int)) (enc:=Bi) (i:=0) E2 hinf.1 hinf.2.1 hinf.2.2.1 hinf.2.2.2 rfl rfl rfl rfl rfl (Ja.z rfl rfl) CW IW h1 rfl (λhD=>?_)
     refine wa rfl (Ak (Af (wm rfl (wm rfl (wm rfl (wv (Bh (enc:=eS) (ys:=fields) Cn CD rfl rfl hf) (wv (AY Dm rfl rfl) (ck h4 λh5 h6=>Exists.elim J1 λinf hinf=>E5 (xs:=hb++([IntKind.wrap .u8 (Int.tdiv ((Am fields ha).length:Int) 256),IntKind.wrap .u8 (Int.tmod ((Am fields ha).length:Int) 256)]:List Int)) (i:=0) E2 BC hinf.1 hinf.2.1 hinf.2.2.1 hinf.2.2.2 rfl rfl rfl h5 rfl (λh7=>?_)))))))))
     refine wa rfl (Aj (A8 (AF (Af (ck h6 λh8 h9=>wv (AX rfl rfl h8) (wm rfl (Aj ?_)))))))
     have hA:=Bb h9 hi
     exact Ar (A3 (ho,((hb++([IntKind.wrap .u8 (Int.tdiv ((Am fields ha).length:Int) 256),IntKind.wrap .u8 (Int.tmod ((Am fields ha).length:Int) 256)]:List Int))++CM (Am fields ha),ha+1),h7) ⟨hA,AcL _⟩ (AC.c rfl (AC.c rfl (AC.c rfl (AC.c rfl AC.nil)))) (sC sN))
   ·refine Bo (At ?_)
    have hB:=BI hs hi hj
    exact At (Bc (A3 (hb,hd) hB (AC.c rfl AC.nil) (sC sN)))
  ·rintro⟨hg,hk⟩ hh
   refine Cf (l':=[(4,rv hk)]) (H':=[.row hk 5 1 (List.map Bi hg)]) rfl rfl ?_
   replace hh:Ko hg=some r:=hh
   unfold Ko at hh
   refine AZ (AF (Ae (wm rfl (wv (r:=rS (Id hg)) (PP (xs:=hg) (i:=0) E2 BC It rfl rfl) (wa rfl (wa rfl (Ak (Aq ?_))))))))
   obtain rfl:=As hh
   exact Ap (Cy Tryz.results49 (A4 rfl) (A4 rfl)) (sS sN) ⟨rfl,rfl⟩
theorem To (F:Nat) (s:Ag) (r:(List Ag)×Int) (h:JK F s=some r):Fn Tryz.prog GE 76 [rS s] [] (λR H=>R=Cm [AV 1 (List.map eS r.1),rI .i64 r.2]∧H=[]):=by
 refine enter (n:=64) Tryz.func76 rfl Tryz.ntmps76 rfl (λw Z=>?_)
 unfold JK at h
 refine Ae (wa rfl (wa rfl (Ak (Ai (Ae (wm rfl (wv (AW BC rfl) (wv (BY rfl rfl) (Ak (cz h rfl (λc1 h2=>?_) (λc1 h3=>?_)))))))))))
 ·refine Ae (wa rfl (wa rfl (Ak (Aq (Ac (WK.up (d:=2) (r:=AV 1 (List.map eS ([]:List Ag))) rfl (Up.le (E1.nil _)) ?_))))))
  obtain rfl:=As h2
  exact Ap (Cy SS (A4 rfl) (A4 rfl)) sN ⟨rfl,rfl⟩
 ·refine An (AF (Ai (Ae (wm rfl (ck h3 λg4 h5=>wv (AO BC rfl rfl g4) (wv (Cb rfl rfl) (Ak (cz h5 rfl (λc6 h7=>?_) (λc6 h8=>?_)))))))))
  ·refine Ae (wa rfl (wa rfl (Ak (Aq (Ac (WK.up (d:=2) (r:=AV 1 (List.map eS ([]:List Ag))) rfl (Up.le (E1.nil _)) ?_))))))
   obtain rfl:=As h7
   exact Ap (Cy SS (A4 rfl) (A4 rfl)) sN ⟨rfl,rfl⟩
  ·refine An (AF (Ae (wa rfl (Bf (wa rfl (Ak (Ai (Ae (wm rfl (wv (AO BC rfl rfl g4) (ck h8 λg9 ho=>wv (C9 ⟨_,It⟩ MY rfl g9) (wv (r:=rI .i64 0) (Al rfl) (Ak (AB (WC.nilrow (e:=9) (sz:=1) (ob ho λhp hq he=>Bk (S:=Nat×((List Ag)×Int×Int)×(Value)) (V:=((List Ag)×Int)×(Value)) 0 (λσ=>BF (λσ=>Cz s σ.1 σ.2.1 σ.2.2) σ.1 σ.2.1=some hp) (λσ=>[(0,rS s),(4,rv σ.2.2),(5,rI .i64 σ.2.1.2.1),(15,rI .i64 (AK s 0)),(16,rI .i64 σ.2.1.2.2)]) (λσ=>[.row σ.2.2 9 1 (List.map eS σ.2.1.1)]) (λσ=>σ.1) (F,(([]:List Ag),1,0),(.slice none 0 0         )) hq (AC.c5 rfl rfl rfl rfl rfl AC.nil) (sC sN) (λσ=>Et s σ.1.1 σ.1.2=some r) (λσ=>[(0,rS s),(4,rv σ.2),(5,rI .i64 σ.1.2)]) (λσ=>[.row σ.2 9 1 (List.map eS σ.1.1)]) ?_ ?_))))))))))))))))
   ·rintro⟨gp,⟨hb,ha,hh⟩,hi⟩ hr
    refine BO (l':=[(0,rS s),(4,rv hi),(5,rI .i64 ha),(15,rI .i64 (AK s 0)),(16,rI .i64 hh)]) (H':=[.row hi 9 1 (List.map eS hb)]) rfl rfl ?_
    obtain⟨hs,rfl,ht,hf,hd⟩:=Ce hr
    replace hf:Cz s hb ha hh=some ht:=hf
    unfold Cz at hf
    refine Ae (wv (BY rfl rfl) (Ak (Ai (cz hf rfl (λhu hw=>?_) (λhu hx=>?_)))))
    ·refine An (AF (Ai (AB (Ai (Ae (wm rfl (wv (AW BC rfl) (wm rfl (ck hw λhl hy=>wv (EN rfl rfl hl) (wv (BY rfl rfl) (Ak (cz hy rfl (λhz h0=>?_) (λhz h1=>?_)))))))))))))
     ·refine Ae (wa rfl (wa rfl (Ak (Aq (Ac (Av (Ac (Ac (AS ?_)))))))))
      have h4:=Bm h0 hd he
      refine Av (Ac (WK.up (d:=2) (r:=AV 1 (List.map eS ([]:List Ag))) rfl (Up.le (E1.nil _)) ?_))
      obtain rfl:=As h4
      exact Ap (Cy SS (A4 rfl) (A4 rfl)) (sS sN) ⟨rfl,rfl⟩
     ·refine An (AF (Ai (ck h1 λh6 h9=>ck h9 λhA hB=>ck hB λhC hD=>ck hD λhE hG=>ck hG λhH hI=>ck hI λhJ hK=>ck hK λhL hN=>CH [0,4,5,15,16] [⟨[],rS s,0⟩,⟨[],rI .i64 ha,0⟩,⟨[0,1],rI .u8 (AK s ha),0⟩,⟨[2],rI .i64 (AK s ha),0⟩,⟨[3],rI .i64 ((AK s ha)*256),0⟩,⟨[],rS s,0⟩,⟨[],rI .i64 ha,0⟩,⟨[6],rI .i64 (ha+1),0⟩,⟨[5,7],rI .u8 (AK s (ha+1)),0⟩,⟨[8],rI .i64 (AK s (ha+1)),0⟩,⟨[4,9],rI .i64 (((AK s ha)*256)+(AK s (ha+1))),0⟩,⟨[10],rI .i64 (((AK s ha)*256)+(AK s (ha+1))),0⟩] [23,24,25,26,27,28,29,30,31,32,33,6,0,4,5,15,16] ?_ ?_)))
      ·refine oq (Al rfl) (oq (Al rfl) (oq (AO BC rfl rfl h6) (oq (C9 ⟨_,It⟩ MY rfl hA) (oq (Nq rfl rfl hC) (oq (Al rfl) (oq (Al rfl) (oq (AX rfl rfl hE) (oq (AO BC rfl rfl hH) (oq (C9 ⟨_,It⟩ MY rfl hJ) (oq (AX rfl rfl hL) (oq (Ao rfl) ?_)))))))))))
       exact Cj
      refine AF (Ai (Ae (wm rfl (wv (Cb rfl rfl) (Ak (cz hN rfl (λhO hP=>?_) (λhO hQ=>?_)))))))
      ·refine Ae (wa rfl (wa rfl (Ak (Aq (Ac (Av (Ac (Ac (AS ?_)))))))))
       have hR:=Bm hP hd he
       refine Av (Ac (WK.up (d:=2) (r:=AV 1 (List.map eS ([]:List Ag))) rfl (Up.le (E1.nil _)) ?_))
       obtain rfl:=As hR
       exact Ap (Cy SS (A4 rfl) (A4 rfl)) (sS sN) ⟨rfl,rfl⟩
      ·refine An (AF (Ai (Ae (wm rfl (wv (AW BC rfl) (wm rfl (wv (EN rfl rfl hl) (ck hQ λhS hT=>wv (EN rfl rfl hS) (wm rfl (wv (BY rfl rfl) (Ak (cz hT rfl (λhU hV=>?_) (λhU hW=>?_)))))))))))))
       ·refine Ae (wa rfl (wa rfl (Ak (Aq (Ac (Av (Ac (Ac (AS ?_)))))))))
        have hX:=Bm hV hd he
        refine Av (Ac (WK.up (d:=2) (r:=AV 1 (List.map eS ([]:List Ag))) rfl (Up.le (E1.nil _)) ?_))
        obtain rfl:=As hX
        exact Ap (Cy SS (A4 rfl) (A4 rfl)) (sS sN) ⟨rfl,rfl⟩
       ·refine An (AF (Ae (wm rfl (wm rfl (wm rfl (ck hW λhj hY=>wv (AX rfl rfl hj) (wm rfl (wv (AX rfl rfl hj) (wm rfl (ck hY λhm hZ=>wv (AX rfl rfl hm) (ck hZ λga gb=>ck gb λgc gd=>wv (CK BC rfl rfl rfl ga gc) (AQ (ys:=([List.take (Int.toNat ((ha+2)+(((AK s ha)*256)+(AK s (ha+1))))-Int.toNat (ha+2)) (List.drop (Int.toNat (ha+2)) s)]:List Ag)) (enc:=eS) (css:=[[rS (List.take (Int.toNat ((ha+2)+(((AK s ha)*256)+(AK s (ha+1))))-Int.toNat (ha+2)) (List.drop (Int.toNat (ha+2)) s))]]) (xs:=[.tmp 51]) Cn CD Wj rfl rfl rfl ⟨Eb.one rfl (Up.refl _),trivial⟩ rfl Ed rfl rfl rfl (λgq=>?_)))))))))))))
        refine ck gd λge gf=>Exists.elim OO λinf hinf=>BG (xs:=hb) (ys:=([List.take (Int.toNat ((ha+2)+(((AK s ha)*256)+(AK s (ha+1))))-Int.toNat (ha+2)) (List.drop (Int.toNat (ha+2)) s)]:List Ag)) (enc:=eS) (i:=1) Cn hinf.1 hinf.2.1 hinf.2.2.1 hinf.2.2.2 rfl rfl rfl rfl rfl (Ja.w (i:=0) rfl rfl) Ed Lp ge rfl (λgg=>?_)
        refine wa rfl (Ak (Af (wm rfl (wv (AX rfl rfl hj) (wm rfl (wv (AX rfl rfl hm) (wa rfl (Aj (A8 (AF (Af (ck gf λgh gi=>wv (AX rfl rfl gh) (wm rfl (Aj ?_))))))))))))))
        have gj:=Bb gi hd
        exact Ar (A3 (hs,(hb++([List.take (Int.toNat ((ha+2)+(((AK s ha)*256)+(AK s (ha+1))))-Int.toNat (ha+2)) (List.drop (Int.toNat (ha+2)) s)]:List Ag),(ha+2)+(((AK s ha)*256)+(AK s (ha+1))),hh+1),gg) ⟨gj,AcL _⟩ (AC.c5 rfl rfl rfl rfl rfl AC.nil) (sC (sS sN)))
    ·refine Bo (At ?_)
     have gk:=BI hx hd he
     exact At (Bc (A3 ((hb,ha),hi) gk (AC.c rfl (AC.c rfl (AC.c rfl AC.nil))) (sC sN)))
   ·rintro⟨⟨hk,hn⟩,v146⟩ hg
    refine Cf (l':=[(0,rS s),(4,rv v146),(5,rI .i64 hn)]) (H':=[.row v146 9 1 (List.map eS hk)]) rfl rfl ?_
    replace hg:Et s hk hn=some r:=hg
    unfold Et at hg
    refine AZ (AF (Ai (Ae (wm rfl (wm rfl (wv (AW BC rfl) (wv (BY rfl rfl) (Ak (cz hg rfl (λgl gm=>?_) (λgl gn=>?_))))))))))
    ·refine Ae (wa rfl (wa rfl (Ak (Aq (Ac (WK.up (d:=2) (r:=AV 1 (List.map eS ([]:List Ag))) rfl (Up.le (E1.nil _)) ?_))))))
     obtain rfl:=As gm
     exact Ap (Cy SS (A4 rfl) (A4 rfl)) (sS sN) ⟨rfl,rfl⟩
    ·refine An (AF (Ae (wm rfl (wa rfl (wa rfl (Ak (Aq (WK.freeze (i:=0) rfl (WK.up (d:=2) (r:=AV 1 (List.map eS hk)) rfl (Up.fact (i:=0) rfl) ?_)))))))))
     obtain rfl:=As gn
     exact Ap (Cy SS (A4 rfl) (A4 rfl)) (sS sN) ⟨rfl,rfl⟩
theorem Xc (F:Nat) (body:Ag) (r:Ag×Int) (h:M9 F body=some r):Fn Tryz.prog GE 70 [rS body] [] (λR H=>R=Cm [rS r.1,rI .i64 r.2]∧H=[]):=by
 refine enter (n:=19) Tryz.func70 rfl Tryz.ntmps70 rfl (λw Z=>?_)
 unfold M9 at h
 refine Ae (wv (r:=rS ([]:Ag)) (Ao rfl) (wa rfl (Ak (Ai (Ae (wm rfl (wv (AW BC rfl) (wv (Cb rfl rfl) (Ak (cz h rfl (λc1 h2=>?_) (λc1 h3=>?_)))))))))))
 ·refine Ae (wv (r:=rS ([]:Ag)) (Ao rfl) (wa rfl (Ak (Aq (Ac ?_)))))
  obtain rfl:=As h2
  exact Ap (Cy Tryz.results70 (A4 rfl) (A4 rfl)) sN ⟨rfl,rfl⟩
 ·refine An (AF (Ai (ob h3 λr4 e6 h5=>ob h5 λr7 e9 h8=>ob h8 λha hb hd=>ck hd λhe hf=>ck hf λg15 hg=>CH [0] [⟨[],rS body,0⟩,⟨[0],rI .i64 (body.length:Int),0⟩,⟨[1],rI .u32 (IntKind.wrap .u32 (body.length:Int)),0⟩,⟨[2],AV 1 (List.map Bi r4),0⟩,⟨[3],rS (Id r4),0⟩,⟨[],rS body,0⟩,⟨[5],rI .u32 r7,0⟩,⟨[6],AV 1 (List.map Bi ha),0⟩,⟨[7],rS (Id ha),0⟩,⟨[4,8],rS ((Id r4)++(Id ha)),0⟩,⟨[],rS body,0⟩,⟨[9,10],rS (((Id r4)++(Id ha))++body),0⟩,⟨[11],rS (((Id r4)++(Id ha))++body),0⟩,⟨[],rI .i64 0,0⟩] [2,3] ?_ ?_)))
  ·refine oq (Al rfl) (oq (AW BC rfl) (oq (B4 ⟨_,MY⟩ G6 rfl) (Ee rfl (λH=>HR Tryz.call94 (O4 (IntKind.wrap .u32 (body.length:Int)) r4 e6) rfl) ?_)))
   refine oq (QG (xs:=r4) E2 BC It rfl) (oq (Al rfl) (Ee rfl (λH=>HR Tryz.call95 (TW F body r7 e9) rfl) ?_))
   refine Ee rfl (λH=>HR Tryz.call94 (O4 r7 ha hb) rfl) ?_
   refine oq (QG (xs:=ha) E2 BC It rfl) (oq (CS rfl rfl he) (oq (Al rfl) (oq (CS rfl rfl g15) (oq (Ao rfl) (oq (Ao rfl) ?_)))))
   exact Cj
  refine AF (Aq ?_)
  obtain rfl:=As hg
  exact Ap (Cy Tryz.results70 (A4 rfl) (A4 rfl)) sN ⟨rfl,rfl⟩
theorem Xd (F:Nat) (s:Ag) (r:Ag×Int×Int) (h:O2 F s=some r):Fn Tryz.prog GE 75 [rS s] [] (λR H=>R=Cm [rS r.1,rI .i64 r.2.1,rI .i64 r.2.2]∧H=[]):=by
 refine enter (n:=50) Tryz.func75 rfl Tryz.ntmps75 rfl (λw Z=>?_)
 unfold O2 at h
 refine Ae (wv (r:=rS ([]:Ag)) (Ao rfl) (wa rfl (wa rfl (Ak (Ai (Ae (wm rfl (wv (AW BC rfl) (wv (BY rfl rfl) (Ak (cz h rfl (λc1 h2=>?_) (λc1 h3=>?_))))))))))))
 ·refine Ae (wv (r:=rS ([]:Ag)) (Ao rfl) (wa rfl (wa rfl (Ak (Aq (Ac ?_))))))
  obtain rfl:=As h2
  exact Ap (SQ Wk (A4 rfl) (A4 rfl) (A4 rfl)) sN ⟨rfl,rfl⟩
 ·refine An (AF (Ai (ck h3 λg4 h5=>ck h5 λg6 h7=>ck h7 λg8 h9=>ck h9 λhg hh=>ck hh λhi hj=>ck hj λhk hl=>ck hl λg16 hm=>ck hm λg18 hn=>ck hn λho hp=>ck hp λhq hr=>ck hr λhs ht=>ck ht λhu hw=>ck hw λhx hy=>ck hy λhz h0=>CH [0] [⟨[],rS s,0⟩,⟨[0],rI .u8 (AK s 0),0⟩,⟨[1],rI .i64 (AK s 0),0⟩,⟨[2],rI .i64 ((AK s 0)*256),0⟩,⟨[],rS s,0⟩,⟨[4],rI .u8 (AK s 1),0⟩,⟨[5],rI .i64 (AK s 1),0⟩,⟨[3,6],rI .i64 (((AK s 0)*256)+(AK s 1)),0⟩,⟨[7],rI .i64 ((((AK s 0)*256)+(AK s 1))*256),0⟩,⟨[],rS s,0⟩,⟨[9],rI .u8 (AK s 2),0⟩,⟨[10],rI .i64 (AK s 2),0⟩,⟨[8,11],rI .i64 (((((AK s 0)*256)+(AK s 1))*256)+(AK s 2)),0⟩,⟨[12],rI .i64 ((((((AK s 0)*256)+(AK s 1))*256)+(AK s 2))*256),0⟩,⟨[],rS s,0⟩,⟨[14],rI .u8 (AK s 3),0⟩,⟨[15],rI .i64 (AK s 3),0⟩,⟨[13,16],rI .i64 (((((((AK s 0)*256)+(AK s 1))*256)+(AK s 2))*256)+(AK s 3)),0⟩,⟨[17],rI .i64 (((((((AK s 0)*256)+(AK s 1))*256)+(AK s 2))*256)+(AK s 3)),0⟩] [5,0] ?_ ?_)))
  ·refine oq (Al rfl) (oq (AO BC rfl rfl g4) (oq (C9 ⟨_,It⟩ MY rfl g6) (oq (Nq rfl rfl g8) (oq (Al rfl) (oq (AO BC rfl rfl hg) (oq (C9 ⟨_,It⟩ MY rfl hi) (oq (AX rfl rfl hk) (oq (Nq rfl rfl g16) (oq (Al rfl) (oq (AO BC rfl rfl g18) (oq (C9 ⟨_,It⟩ MY rfl ho) (oq (AX rfl rfl hq) (oq (Nq rfl rfl hs) (oq (Al rfl) (oq (AO BC rfl rfl hu) (oq (C9 ⟨_,It⟩ MY rfl hx) (oq (AX rfl rfl hz) (oq (Ao rfl) ?_))))))))))))))))))
   exact Cj
  refine AF (Ai (Ae (wm rfl (wv (Cb rfl rfl) (Ak (cz h0 rfl (λh1 h4=>?_) (λh1 h6=>?_)))))))
  ·refine Ae (wv (r:=rS ([]:Ag)) (Ao rfl) (wa rfl (wa rfl (Ak (Aq (Ac ?_))))))
   obtain rfl:=As h4
   exact Ap (SQ Wk (A4 rfl) (A4 rfl) (A4 rfl)) sN ⟨rfl,rfl⟩
  ·refine An (AF (Ai (Ae (wm rfl (wv (AW BC rfl) (ck h6 λh8 hA=>wv (EN rfl rfl h8) (wm rfl (wv (BY rfl rfl) (Ak (cz hA rfl (λc37 hB=>?_) (λc37 hC=>?_)))))))))))
   ·refine Ae (wv (r:=rS ([]:Ag)) (Ao rfl) (wa rfl (wa rfl (Ak (Aq (Ac ?_))))))
    obtain rfl:=As hB
    exact Ap (SQ Wk (A4 rfl) (A4 rfl) (A4 rfl)) sN ⟨rfl,rfl⟩
   ·refine An (AF (Ai (Ai (ck hC λhb hD=>ck hD λhe hE=>ck hE λhf hG=>ob hG λhd hH hI=>ob hI λha hJ hK=>ck hK λhL hN=>ck hN λhO hP=>CH [0,5] [⟨[],rS s,0⟩,⟨[],rI .i64 (((((((AK s 0)*256)+(AK s 1))*256)+(AK s 2))*256)+(AK s 3)),0⟩,⟨[1],rI .i64 (8+(((((((AK s 0)*256)+(AK s 1))*256)+(AK s 2))*256)+(AK s 3))),0⟩,⟨[0,2],rS (List.take (Int.toNat (8+(((((((AK s 0)*256)+(AK s 1))*256)+(AK s 2))*256)+(AK s 3)))-Int.toNat 8) (List.drop (Int.toNat 8) s)),0⟩,⟨[3],rI .u32 hd,0⟩,⟨[4],AV 1 (List.map Bi ha),0⟩,⟨[5],rS (Id ha),0⟩,⟨[],rS s,0⟩,⟨[7],rS (List.take (Int.toNat 8-Int.toNat 4) (List.drop (Int.toNat 4) s)),0⟩,⟨[6,8],rB (!decide ((Id ha)=(List.take (Int.toNat 8-Int.toNat 4) (List.drop (Int.toNat 4) s)))),0⟩] [43,0,5] ?_ ?_))))
    ·refine oq (Al rfl) (oq (Al rfl) (oq (AX rfl rfl hb) (oq (CK BC rfl rfl rfl he hf) (Ee rfl (λH=>HR Tryz.call95 (TW F (List.take (Int.toNat (8+(((((((AK s 0)*256)+(AK s 1))*256)+(AK s 2))*256)+(AK s 3)))-Int.toNat 8) (List.drop (Int.toNat 8) s)) hd hH) rfl) ?_))))
     refine Ee rfl (λH=>HR Tryz.call94 (O4 hd ha hJ) rfl) ?_
     refine oq (QG (xs:=ha) E2 BC It rfl) (oq (Al rfl) (oq (CK BC rfl rfl rfl hL hO) (oq (Hj rfl rfl) ?_)))
     exact Cj
    refine AF (cz hP rfl (λhQ hR=>?_) (λhQ hS=>?_))
    ·refine Ae (wv (r:=rS ([]:Ag)) (Ao rfl) (wa rfl (wa rfl (Ak (Aq (Ac ?_))))))
     obtain rfl:=As hR
     exact Ap (SQ Wk (A4 rfl) (A4 rfl) (A4 rfl)) sN ⟨rfl,rfl⟩
    ·refine An (AF (Ae (wm rfl (wm rfl (wv (AX rfl rfl hb) (wv (CK BC rfl rfl rfl he hf) (wm rfl (wv (AX rfl rfl hb) (wa rfl (wa rfl (wa rfl (Ak (Aq ?_)))))))))))))
     obtain rfl:=As hS
     exact Ap (SQ Wk (A4 rfl) (A4 rfl) (A4 rfl)) sN ⟨rfl,rfl⟩
theorem Vp (F:Nat) (s:Ag) (r:(List Ag)×Int) (h:LG F s=some r):Fn Tryz.prog GE 53 [rS s] [] (λR H=>R=Cm [AV 1 (List.map eS r.1),rI .i64 r.2]∧H=[]):=by
 refine enter (n:=28) Tryz.func53 rfl Tryz.ntmps53 rfl (λw Z=>?_)
 unfold LG at h
 refine Ae (wa rfl (wa rfl (Bf (wa rfl (Bf (wa rfl (Ak (AB (WC.nilrow (e:=9) (sz:=1) (ob h λhh hi hj=>Bk (S:=Nat×((List Ag)×Int)×(Value)) (V:=(Unit)×(Unit)) 0 (λσ=>BF (λσ=>Ga F s σ.1 σ.2) σ.1 σ.2.1=some hh) (λσ=>[(0,rS s),(2,rv (.slice none 0 0)),(3,rI .i64 0),(4,rv σ.2.2),(5,rI .i64 σ.2.1.2)]) (λσ=>[.row σ.2.2 9 1 (List.map eS σ.2.1.1)]) (λσ=>σ.1) (F,(([]:List Ag),0),(.slice none 0 0         )) hi (AC.c5 rfl rfl rfl rfl rfl AC.nil) (sC sN) (λσ=>O1 =some r) (λσ=>[]) (λσ=>[]) ?_ ?_))))))))))
 ·rintro⟨h3,⟨hb,hd⟩,hf⟩ hk
  refine BO (l':=[(0,rS s),(2,rv (.slice none 0 0)),(3,rI .i64 0),(4,rv hf),(5,rI .i64 hd)]) (H':=[.row hf 9 1 (List.map eS hb)]) rfl rfl ?_
  obtain⟨hl,rfl,hm,he,hg⟩:=Ce hk
  replace he:Ga F s hb hd=some hm:=he
  unfold Ga at he
  refine AB (Ae (wm rfl (wm rfl (ck he λhn ho=>wv (Dq BC rfl rfl hn) (ob ho λha hp hq=>Cg Tryz.call75 (Xd F (List.drop (Int.toNat hd) s) ha hp) rfl (wm rfl (wv (Az rfl rfl) (wv (Az rfl rfl) (wv (Az rfl rfl) (wa rfl (wa rfl (wa rfl (Ak (Ai (Ae (wm rfl (wv (CB rfl rfl) (Ak (cz hq rfl (λhr hs=>?_) (λhr ht=>?_))))))))))))))))))))
  ·refine Ae (wm rfl (wm rfl (wa rfl (wa rfl (Ak (Aq (Ac (Av (Ac (AS ?_))))))))))
   have hu:=Bm hs hg hj
   refine Av (WK.freeze (i:=0) rfl (WK.up (d:=2) (r:=AV 1 (List.map eS hb)) rfl (Up.fact (i:=0) rfl) ?_))
   obtain rfl:=As hu
   exact Ap (Cy Tryz.results53 (A4 rfl) (A4 rfl)) (sS sN) ⟨rfl,rfl⟩
  ·refine An (AF (Ae (wm rfl (wm rfl (AQ (ys:=([ha.1]:List Ag)) (enc:=eS) (css:=[[rS ha.1]]) (xs:=[.tmp 22]) Cn CD Wj rfl rfl rfl ⟨Eb.one rfl (Up.refl _),trivial⟩ rfl Ed rfl rfl rfl (λh4=>?_))))))
   refine ck ht λhw hx=>Exists.elim OO λinf hinf=>BG (xs:=hb) (ys:=([ha.1]:List Ag)) (enc:=eS) (i:=1) Cn hinf.1 hinf.2.1 hinf.2.2.1 hinf.2.2.2 rfl rfl rfl rfl rfl (Ja.w (i:=0) rfl rfl) Ed Lp hw rfl (λhy=>?_)
   refine wa rfl (Ak (Af (wm rfl (wm rfl (ck hx λhz h0=>wv (AX rfl rfl hz) (wa rfl (Aj (A8 ?_))))))))
   have h1:=Bb h0 hg
   exact Ar (A3 (hl,(hb++([ha.1]:List Ag),hd+ha.2.1),hy) ⟨h1,AcL _⟩ (AC.c5 rfl rfl rfl rfl rfl AC.nil) (sC (sS sN)))
 ·rintro⟨⟨⟩,⟨⟩⟩ h2
  cases h2
theorem Xe (F:Nat) (bodies:(List Ag)) (r:Ag×Int) (h:O3 F bodies=some r):Fn Tryz.prog GE 50 [AV 1 (List.map eS bodies)] [] (λR H=>R=Cm [rS r.1,rI .i64 r.2]∧H=[]):=by
 refine enter (n:=62) Tryz.func50 rfl Tryz.ntmps50 rfl (λw Z=>?_)
 unfold O3 at h
 refine Ae (wv (r:=rS ([]:Ag)) (Ao rfl) (wa rfl (Bf (wa rfl (Ak (Ai (Ae (wm rfl (wv (Bv (ys:=bodies) (enc:=eS) Cn rfl) (wv (r:=rI .i64 0) (Al rfl) (Ak (AB (ob h λht hu ho=>Bk (S:=Nat×(Int×Int)×(Unit)) (V:=(Int)×(Unit)) 0 (λσ=>BF (λσ=>ED bodies σ.1 σ.2) σ.1 σ.2.1=some ht) (λσ=>[(0,AV 1 (List.map eS bodies)),(4,rI .i64 σ.2.1.1),(11,rI .i64 (bodies.length:Int)),(12,rI .i64 σ.2.1.2)]) (λσ=>[]) (λσ=>σ.1) (F,(0,0),()) hu (AC.c rfl (AC.c rfl (AC.c rfl (AC.c rfl AC.nil)))) sN (λσ=>H9 F bodies σ.1=some r) (λσ=>[(0,AV 1 (List.map eS bodies)),(4,rI .i64 σ.1)]) (λσ=>[]) ?_ ?_)))))))))))))
 ·rintro⟨gj,⟨hd,hb⟩,⟨⟩⟩ hw
  refine BO (l':=[(0,AV 1 (List.map eS bodies)),(4,rI .i64 hd),(11,rI .i64 (bodies.length:Int)),(12,rI .i64 hb)]) (H':=[]) rfl rfl ?_
  obtain⟨hx,rfl,hy,hf,hl⟩:=Ce hw
  replace hf:ED bodies hd hb=some hy:=hf
  unfold ED at hf
  refine Ae (wv (BY rfl rfl) (Ak (Ai (cz hf rfl (λhz h0=>?_) (λhz h1=>?_)))))
  ·refine An (AF (Ai (AB (Ae (wm rfl (wa rfl (Ak (Ai (ck h0 λhm h2=>ck h2 λh3 h4=>ck h4 λh5 h6=>A6 [(0,AV 1 (List.map eS bodies)),(4,rI .i64 hd),(5,rI .i64 hb),(11,rI .i64 (bodies.length:Int)),(12,rI .i64 hb),(31,rB ((decide (262136<((Am bodies hb).length:Int)))||(decide (262144<((hd+8)+((Am bodies hb).length:Int))))))] [] ?_ ?_)))))))))
   ·refine Af (wm rfl (wm rfl (wv (Bh (enc:=eS) (ys:=bodies) Cn CD rfl rfl hm) (wv (AY Dm rfl rfl) (wv (AW BC rfl) (wv (Cb rfl rfl) (wm rfl (AI (decide (262136<((Am bodies hb).length:Int))) (λha=>?_) (λha=>?_)))))))))
    ·refine wf ha (wf ha (wf ha (wf ha (wf ha (wf ha (wf ha (wf ha (wf ha (wv (r:=rB true) (Au rfl ha rfl) (Aj ?_))))))))))
     exact BM ha
    ·refine wo ha (wm rfl (wo ha (wv (AX rfl rfl (Cr h3 ha)) (wo ha (wm rfl (wo ha (wm rfl (wo ha (wv (Bh (enc:=eS) (ys:=bodies) Cn CD rfl rfl hm) (wo ha (wv (AY Dm rfl rfl) (wo ha (wv (AW BC rfl) (wo ha (wv (AX rfl rfl (Cr h5 ha)) (wo ha (wv (Cb rfl rfl) (DR rfl ha rfl (Aj ?_)))))))))))))))))))
     exact BM ha
   refine cz h6 rfl (λc75 h7=>?_) (λc75 h8=>?_)
   ·refine Ae (wv (r:=rS ([]:Ag)) (Ao rfl) (wa rfl (Ak (Aq (Ac (Av (Ac (Ac (AS ?_)))))))))
    have h9:=Bm h7 hl ho
    refine Av (Ac ?_)
    obtain rfl:=As h9
    exact Ap (Cy Tryz.results50 (A4 rfl) (A4 rfl)) sN ⟨rfl,rfl⟩
   ·refine An (AF (Af (wm rfl (ck h8 λhA hB=>wv (AX rfl rfl hA) (wm rfl (wm rfl (wv (Bh (enc:=eS) (ys:=bodies) Cn CD rfl rfl hm) (wv (AY Dm rfl rfl) (wv (AW BC rfl) (ck hB λhC hD=>wv (AX rfl rfl hC) (wa rfl (Aj (A8 (AF (Af (ck hD λhE hG=>wv (AX rfl rfl hE) (wm rfl (Aj ?_))))))))))))))))))
    have hH:=Bb hG hl
    exact Ar (A3 (hx,((hd+8)+((Am bodies hb).length:Int),hb+1),()) ⟨hH,AcL _⟩ (AC.c rfl (AC.c rfl (AC.c rfl (AC.c rfl AC.nil)))) sN)
  ·refine Bo (At ?_)
   have hI:=BI h1 hl ho
   exact At (Bc (A3 (hd,()) hI (AC.c rfl (AC.c rfl AC.nil)) sN))
 ·rintro⟨hp,⟨⟩⟩ hg
  refine Cf (l':=[(0,AV 1 (List.map eS bodies)),(4,rI .i64 hp)]) (H':=[]) rfl rfl ?_
  replace hg:H9 F bodies hp=some r:=hg
  unfold H9 at hg
  refine AZ (AF (Ae (wm rfl (ck hg λhJ hK=>ck hK λhL hN=>Exists.elim J1 λinf hinf=>Zk (α:=Int) (enc:=Bi) E2 hinf.1 hinf.2.1 hinf.2.2.1 hinf.2.2.2 rfl rfl rfl hJ hL rfl (λhO=>?_)))))
  refine wa rfl (Ak (Ai (Ae (wm rfl (wv (Bv (ys:=bodies) (enc:=eS) Cn rfl) (wv (r:=rI .i64 0) (Al rfl) (Ak (AB (ob hN λhP hQ hR=>Bk (S:=Nat×((List Int)×Int)×(Value)) (V:=((List Int))×(Value)) 2 (λσ=>BF (λσ=>EC F bodies σ.1 σ.2) σ.1 σ.2.1=some hP) (λσ=>[(0,AV 1 (List.map eS bodies)),(6,rv σ.2.2),(44,rI .i64 (bodies.length:Int)),(45,rI .i64 σ.2.1.2)]) (λσ=>[.row σ.2.2 5 1 (List.map Bi σ.2.1.1)]) (λσ=>σ.1) (F,(([]:List Int),0),hO) hQ (AC.c rfl (AC.c rfl (AC.c rfl (AC.c rfl AC.nil)))) (sC sN) (λσ=>IM σ.1=some r) (λσ=>[(6,rv σ.2)]) (λσ=>[.row σ.2 5 1 (List.map Bi σ.1)]) ?_ ?_)))))))))
  ·rintro⟨gk,⟨he,hh⟩,hn⟩ hS
   refine BO (l':=[(0,AV 1 (List.map eS bodies)),(6,rv hn),(44,rI .i64 (bodies.length:Int)),(45,rI .i64 hh)]) (H':=[.row hn 5 1 (List.map Bi he)]) rfl rfl ?_
   obtain⟨hT,rfl,hU,hi,hq⟩:=Ce hS
   replace hi:EC F bodies he hh=some hU:=hi
   unfold EC at hi
   refine Ae (wv (BY rfl rfl) (Ak (Ai (cz hi rfl (λhV hW=>?_) (λhV hX=>?_)))))
   ·refine An (AF (Ai (AB (Ae (wm rfl (wa rfl (Bf (wm rfl (wm rfl (ck hW λhY hZ=>wv (Bh (enc:=eS) (ys:=bodies) Cn CD rfl rfl hY) (wv (AY Dm rfl rfl) (ob hZ λhr ga gb=>Cg Tryz.call70 (Xc F (Am bodies hh) hr ga) rfl (wm rfl (wv (Az rfl rfl) (wv (Az rfl rfl) (wa rfl (wa rfl (Ak (Af (wm rfl (wm rfl ?_)))))))))))))))))))))
    refine ck gb λgc gd=>Exists.elim J1 λinf hinf=>E5 (xs:=he) (i:=0) E2 BC hinf.1 hinf.2.1 hinf.2.2.1 hinf.2.2.2 rfl rfl rfl gc rfl (λge=>?_)
    refine wa rfl (Aj (A8 (AF (Af (ck gd λgf gg=>wv (AX rfl rfl gf) (wm rfl (Aj ?_)))))))
    have gh:=Bb gg hq
    exact Ar (A3 (hT,(he++CM hr.1,hh+1),ge) ⟨gh,AcL _⟩ (AC.c rfl (AC.c rfl (AC.c rfl (AC.c rfl AC.nil)))) (sC sN))
   ·refine Bo (At ?_)
    have gi:=BI hX hq hR
    exact At (Bc (A3 (he,hn) gi (AC.c rfl AC.nil) (sC sN)))
  ·rintro⟨hj,hs⟩ hk
   refine Cf (l':=[(6,rv hs)]) (H':=[.row hs 5 1 (List.map Bi hj)]) rfl rfl ?_
   replace hk:IM hj=some r:=hk
   unfold IM at hk
   refine AZ (AF (Ae (wm rfl (wv (r:=rS (Id hj)) (PP (xs:=hj) (i:=0) E2 BC It rfl rfl) (wa rfl (wa rfl (Ak (Aq ?_))))))))
   obtain rfl:=As hk
   exact Ap (Cy Tryz.results50 (A4 rfl) (A4 rfl)) (sS sN) ⟨rfl,rfl⟩
end Go.Proofs.YtjfnokmpfekniaaGreatDoor.Q
namespace Go.Proofs.YtjfnokmpfekniaaGreatDoor
open Go
set_option linter.unusedVariables false
def Su (F:Nat) (c:Ah):Option (Ag×Int):=
 Bd (!c.fDelete) (Bn (L2 F c.fValue) λr4=>Bd (!decide (r4.2=0)) (some (([]:Ag),r4.2)) (AN (Bl .i64 c.fIfVersion)<|Bn (Qi F ([c.fKey,([48]:Ag),r4.1,Lib.itoa c.fIfVersion]:List Ag)) λha=>some (ha.1,ha.2))) (AN (Bl .i64 c.fIfVersion)<|Bn (Qi F ([c.fKey,([49]:Ag),([]:Ag),Lib.itoa c.fIfVersion]:List Ag)) λhb=>some (hb.1,hb.2))
def DX (F:Nat) (l:(List Ah)) (hd:(List Ag)) (ha:Int):Option (Stp ((List Ag)×Int) (Out (Ag×Int) ((List Ag)))):=
 Bd (decide (ha<(l.length:Int))) (AN (Cu ha (l.length:Int))<|Bn (Su F (Am l ha)) λhb=>Bd (!decide (hb.2=0)) (some (.out (.ret (([]:Ag),hb.2)))) (AN (Dw 16 (hd.length+([hb.1]:List Ag).length))<|AN (Bl .i64 (ha+1))<|some (.next (hd++([hb.1]:List Ag),ha+1)))) (some (.out (.go hd)))
def HT (F:Nat) (hb:(List Ag)):Option (Ag×Int):=
 Bn (S8 F hb) λha=>some (ha.1,ha.2)
def Hy (F:Nat) (l:(List Ah)):Option (Ag×Int):=
 Bn (Ll F l) λr1=>Bd (!decide (r1=0)) (some (([]:Ag),r1)) (Bn (BF (λσ=>DX F l σ.1 σ.2) F (([]:List Ag),0)) (B6 λν=>HT F ν))
def Mc (F:Nat) (s:Ag):Option (Ah×Bool):=
 Bn (Mj F s) λr2=>AN (imp (!(!decide (r2.2=0))) (imp (!(!decide ((r2.1.length:Int)=4))) (Cu 1 (r2.1.length:Int))))<|Bd (((!decide (r2.2=0))||((!decide ((r2.1.length:Int)=4))||((!decide ((Am r2.1 1)=([48]:Ag)))&&(!decide ((Am r2.1 1)=([49]:Ag))))))) (some ((Ah.mk ([]:Ag) false ([]:List Aa) 0),false)) (AN (Cu 3 (r2.1.length:Int))<|AN (Dw 1 (Am r2.1 3).length)<|Bd (!decide ((BA (Am r2.1 3))=0)) (some ((Ah.mk ([]:Ag) false ([]:List Aa) 0),false)) (AN (Cu 0 (r2.1.length:Int))<|AN (Cu 1 (r2.1.length:Int))<|Bd (decide ((Am r2.1 1)=([49]:Ag))) (AN (Cu 2 (r2.1.length:Int))<|some ((Ah.mk (Am r2.1 0) (decide ((Am r2.1 1)=([49]:Ag))) ([]:List Aa) (AJ (Am r2.1 3))),decide ((Am r2.1 2)=([]:Ag)))) (AN (Cu 2 (r2.1.length:Int))<|Bn (L3 F (Am r2.1 2)) λha=>some ((Ah.mk (Am r2.1 0) (decide ((Am r2.1 1)=([49]:Ag))) ha.1 (AJ (Am r2.1 3))),decide (ha.2=0)))))
def DY (F:Nat) (r1:(List Ag)×Int) (hb:(List Ah)) (ha:Int):Option (Stp ((List Ah)×Int) (Out ((List Ah)×Int) ((List Ah)))):=
 Bd (decide (ha<(r1.1.length:Int))) (AN (Cu ha (r1.1.length:Int))<|Bn (Mc F (Am r1.1 ha)) λhd=>Bd (!hd.2) (some (.out (.ret (([]:List Ah),13)))) (AN (Dw 56 (hb.length+([hd.1]:List Ah).length))<|AN (Bl .i64 (ha+1))<|some (.next (hb++([hd.1]:List Ah),ha+1)))) (some (.out (.go hb)))
def HU (F:Nat) (rc:Ag) (ha:(List Ah)):Option ((List Ah)×Int):=
 Bn (Hy F ha) λhb=>Bd (((!decide (hb.2=0))||(!decide (hb.1=rc)))) (some (([]:List Ah),13)) (some (ha,0))
def K3 (F:Nat) (rc:Ag):Option ((List Ah)×Int):=
 Bn (OT F rc) λr1=>Bd (!decide (r1.2=(rc.length:Int))) (some (([]:List Ah),13)) (Bn (BF (λσ=>DY F r1 σ.1 σ.2) F (([]:List Ah),0)) (B6 λν=>HU F rc ν))
end Go.Proofs.YtjfnokmpfekniaaGreatDoor
namespace Go.Proofs.YtjfnokmpfekniaaGreatDoor.Q
open Go Go.RowKit
set_option linter.unusedVariables false
set_option linter.unusedSimpArgs false
set_option maxRecDepth 100000
set_option maxHeartbeats 4000000
theorem XZ:∃inf,Tryz.prog.info? 50=some inf∧inf.zero=some (.agg #[(.string ⟨#[]⟩),(.bool false),(.slice none 0 0),(.int .i64 0)])∧inf.size=4∧inf.bytes=56:=by
  have key:(Tryz.prog.info? 50).map (λi=>(i.zero,i.size,i.bytes))=some (some (.agg #[(.string ⟨#[]⟩),(.bool false),(.slice none 0 0),(.int .i64 0)]),4,56):=by kernel_rfl
  obtain⟨inf,h1,h2⟩:=Option.map_eq_some_iff.1 key
  simp only[Prod.mk.injEq] at h2
  exact⟨inf,h1,h2.1,h2.2.1,h2.2.2⟩
theorem Lh {n:Nat} {c:Cx} {l:Fr} {H:List Ent} {d:Option Nat} {ty:TypeId} {pos:String} {af:Array Edge} {g:Option (Nat×Bool)}:Bq Tryz.prog n c l H { dst:=d,op:=.build 50 #[],type:=ty,pos:=pos,after:=af,guard:=g } (B9 [rS ([]:Ag),rB false,rv (.slice none 0 0),rI .i64 0]):=λa w Z ha _=>by
  have hb:Tryz.prog.built 50 []=some #[(.string ⟨#[]⟩),(.bool false),((.slice none 0 0)),(.int .i64 0)]:=by
    rw[Rb]
    simp[Instr.fill,Value.cells]
  refine⟨.agg #[(.string ⟨#[]⟩),(.bool false),((.slice none 0 0)),(.int .i64 0)],⟨[(.string ⟨#[]⟩),(.bool false),((.slice none 0 0)),(.int .i64 0)],rfl,rfl,rfl,rfl,rfl,trivial⟩,?_⟩
  have:=run_build w 50 #[] _ (by simpa using hb)
  simp[execOp,this]
theorem ZI (F:Nat) (c:Ah) (r:Ag×Int) (h:Su F c=some r):Fn Tryz.prog GE 45 [B9 (Ad c)] [] (λR H=>R=Cm [rS r.1,rI .i64 r.2]∧H=[]):=by
 refine enter (n:=32) Tryz.func45 rfl Tryz.ntmps45 rfl (λw Z=>?_)
 unfold Su at h
 refine Ae (Ec rfl rfl (λb1=>?_))
 refine wv (r:=rS ([]:Ag)) (Ao rfl) (wa rfl (Bf (wv (r:=rS ([49]:Ag)) (Ao rfl) (wv (r:=rS ([]:Ag)) (Ao rfl) (Ak (Ai (Ae (vF C3 rfl GR (vL 0 MZ rfl (wv (Cd rfl) (Ak (cz h rfl (λc2 h3=>?_) (λc2 hd=>?_)))))))))))))
 ·refine Ae (vF C3 rfl Dk (vL 0 GS rfl (ob h3 λr4 e6 h5=>Cg Tryz.call65 (UQ F c.fValue r4 e6) rfl (wm rfl (wv (Az rfl rfl) (wv (Az rfl rfl) (wa rfl (wa rfl (Ak (Ai (Ae (wm rfl (wv (CB rfl rfl) (Ak (cz h5 rfl (λc7 h8=>?_) (λc7 h9=>?_))))))))))))))))
  ·refine Ae (wm rfl (wv (r:=rS ([]:Ag)) (Ao rfl) (wa rfl (Ak (Aq (Ac (Ac ?_)))))))
   obtain rfl:=As h8
   exact Ap (Cy Tryz.results45 (A4 rfl) (A4 rfl)) (sS sN) ⟨rfl,rfl⟩
  ·refine An (AF (Af (wm rfl (wv (r:=rS ([48]:Ag)) (Ao rfl) (wa rfl (Ak (Ai (ck h9 λhe hf=>ob hf λha hg hh=>CH [1,4,5] [⟨[],rP b1 0,0⟩,⟨[0],rS c.fKey,1⟩,⟨[],rS ([48]:Ag),0⟩,⟨[],rS r4.1,0⟩,⟨[],rP b1 3,0⟩,⟨[4],rI .i64 c.fIfVersion,1⟩,⟨[5],rS (Lib.itoa c.fIfVersion),0⟩,⟨[1,2,3,6],AV 1 (List.map eS ([c.fKey,([48]:Ag),r4.1,Lib.itoa c.fIfVersion]:List Ag)),0⟩,⟨[7],Cm [rS ha.1,rI .i64 ha.2],0⟩,⟨[8],rS ha.1,0⟩,⟨[8],rI .i64 ha.2,0⟩,⟨[9],rS ha.1,0⟩,⟨[10],rI .i64 ha.2,0⟩] [2,3] ?_ ?_))))))))
   ·refine oq (AH C3 rfl CD rfl rfl) (of (Bp (i:=0) Dm rfl rfl rfl) (oq (Al rfl) (oq (Al rfl) (oq (AH C3 rfl Cq rfl rfl) (of (Bp (i:=0) CU rfl rfl rfl) (Ee rfl (λH=>HQ (rs:=[rI .i64 c.fIfVersion]) (r:=rS (Lib.itoa c.fIfVersion)) Tryz.call67 rfl (Mf c.fIfVersion he) rfl) ?_))))))
    refine Ee rfl (λH=>EM (ys:=([c.fKey,([48]:Ag),r4.1,Lib.itoa c.fIfVersion]:List Ag)) (enc:=eS) (css:=[[rS c.fKey],[rS ([48]:Ag)],[rS r4.1],[rS (Lib.itoa c.fIfVersion)]]) (xs:=[.tmp 22,.tmp 23,.tmp 24,.tmp 27]) Cn CD Wj rfl rfl rfl ⟨Eb.one rfl (Up.refl _),Eb.one rfl (Up.refl _),Eb.one rfl (Up.refl _),Eb.one rfl (Up.refl _),trivial⟩ rfl Ed rfl rfl) ?_
    refine Ee rfl (λH=>HR Tryz.call66 (U2 F ([c.fKey,([48]:Ag),r4.1,Lib.itoa c.fIfVersion]:List Ag) ha hg) rfl) ?_
    refine oq (Az rfl rfl) (oq (Az rfl rfl) (oq (Ao rfl) (oq (Ao rfl) ?_)))
    exact Cj
   refine AF (Aq ?_)
   obtain rfl:=As hh
   exact Ap (Cy Tryz.results45 (A4 rfl) (A4 rfl)) (sS sN) ⟨rfl,rfl⟩
 ·refine An (AF (Ai (ck hd λg16 hi=>ob hi λhb hj hk=>CH [1,4,5] [⟨[],rP b1 0,0⟩,⟨[0],rS c.fKey,1⟩,⟨[],rS ([49]:Ag),0⟩,⟨[],rS ([]:Ag),0⟩,⟨[],rP b1 3,0⟩,⟨[4],rI .i64 c.fIfVersion,1⟩,⟨[5],rS (Lib.itoa c.fIfVersion),0⟩,⟨[1,2,3,6],AV 1 (List.map eS ([c.fKey,([49]:Ag),([]:Ag),Lib.itoa c.fIfVersion]:List Ag)),0⟩,⟨[7],Cm [rS hb.1,rI .i64 hb.2],0⟩,⟨[8],rS hb.1,0⟩,⟨[8],rI .i64 hb.2,0⟩,⟨[9],rS hb.1,0⟩,⟨[10],rI .i64 hb.2,0⟩] [2,3] ?_ ?_)))
  ·refine oq (AH C3 rfl CD rfl rfl) (of (Bp (i:=0) Dm rfl rfl rfl) (oq (Al rfl) (oq (Al rfl) (oq (AH C3 rfl Cq rfl rfl) (of (Bp (i:=0) CU rfl rfl rfl) (Ee rfl (λH=>HQ (rs:=[rI .i64 c.fIfVersion]) (r:=rS (Lib.itoa c.fIfVersion)) Tryz.call67 rfl (Mf c.fIfVersion g16) rfl) ?_))))))
   refine Ee rfl (λH=>EM (ys:=([c.fKey,([49]:Ag),([]:Ag),Lib.itoa c.fIfVersion]:List Ag)) (enc:=eS) (css:=[[rS c.fKey],[rS ([49]:Ag)],[rS ([]:Ag)],[rS (Lib.itoa c.fIfVersion)]]) (xs:=[.tmp 22,.tmp 23,.tmp 24,.tmp 27]) Cn CD Wj rfl rfl rfl ⟨Eb.one rfl (Up.refl _),Eb.one rfl (Up.refl _),Eb.one rfl (Up.refl _),Eb.one rfl (Up.refl _),trivial⟩ rfl Ed rfl rfl) ?_
   refine Ee rfl (λH=>HR Tryz.call66 (U2 F ([c.fKey,([49]:Ag),([]:Ag),Lib.itoa c.fIfVersion]:List Ag) hb hj) rfl) ?_
   refine oq (Az rfl rfl) (oq (Az rfl rfl) (oq (Ao rfl) (oq (Ao rfl) ?_)))
   exact Cj
  refine AF (Aq ?_)
  obtain rfl:=As hk
  exact Ap (Cy Tryz.results45 (A4 rfl) (A4 rfl)) (sS sN) ⟨rfl,rfl⟩
theorem K2 (F:Nat) (l:(List Ah)) (r:Ag×Int) (h:Hy F l=some r):Fn Tryz.prog GE 23 [AV 4 (List.map Ad l)] [] (λR H=>R=Cm [rS r.1,rI .i64 r.2]∧H=[]):=by
 refine enter (n:=38) Tryz.func23 rfl Tryz.ntmps23 rfl (λw Z=>?_)
 unfold Hy at h
 refine Ae (wv (r:=rS ([]:Ag)) (Ao rfl) (wa rfl (Ak (Ai (Ae (wm rfl (ob h λr1 e3 h2=>Cg Tryz.call35 (OJ F l r1 e3) rfl (wa rfl (Bf (wm rfl (wv (CB rfl rfl) (Ak (cz h2 rfl (λc4 h5=>?_) (λc4 h6=>?_))))))))))))))
 ·refine Ae (wm rfl (wv (r:=rS ([]:Ag)) (Ao rfl) (wa rfl (Ak (Aq (Ac ?_))))))
  obtain rfl:=As h5
  exact Ap (Cy Wo (A4 rfl) (A4 rfl)) sN ⟨rfl,rfl⟩
 ·refine An (AF (Ae (wa rfl (Ak (Ai (Ae (wm rfl (wv (Bv (ys:=l) (enc:=Ad) CN rfl) (wv (r:=rI .i64 0) (Al rfl) (Ak (AB (WC.nilrow (e:=9) (sz:=1) (ob h6 λhl hm hj=>Bk (S:=Nat×((List Ag)×Int)×(Value)) (V:=((List Ag))×(Value)) 0 (λσ=>BF (λσ=>DX F l σ.1 σ.2) σ.1 σ.2.1=some hl) (λσ=>[(2,rS ([]:Ag)),(3,rI .i64 0),(5,rv σ.2.2),(15,AV 4 (List.map Ad l)),(16,rI .i64 (l.length:Int)),(17,rI .i64 σ.2.1.2)]) (λσ=>[.row σ.2.2 9 1 (List.map eS σ.2.1.1)]) (λσ=>σ.1) (F,(([]:List Ag),0),(.slice none 0 0         )) hm (AC.c rfl (AC.c5 rfl rfl rfl rfl rfl AC.nil)) (sC sN) (λσ=>HT F σ.1=some r) (λσ=>[(2,rS ([]:Ag)),(3,rI .i64 0),(5,rv σ.2)]) (λσ=>[.row σ.2 9 1 (List.map eS σ.1)]) ?_ ?_)))))))))))))
  ·rintro⟨hE,⟨hb,ha⟩,he⟩ hn
   refine BO (l':=[(2,rS ([]:Ag)),(3,rI .i64 0),(5,rv he),(15,AV 4 (List.map Ad l)),(16,rI .i64 (l.length:Int)),(17,rI .i64 ha)]) (H':=[.row he 9 1 (List.map eS hb)]) rfl rfl ?_
   obtain⟨ho,rfl,t70,hf,hi⟩:=Ce hn
   replace hf:DX F l hb ha=some t70:=hf
   unfold DX at hf
   refine Ae (wv (BY rfl rfl) (Ak (Ai (cz hf rfl (λc76 hp=>?_) (λc76 hq=>?_)))))
   ·refine An (AF (Ai (AB (Ae (ck hp λhr hs=>wv (Bh (enc:=Ad) (ys:=l) CN BV rfl rfl hr) (wv (D1 GB BV rfl rfl rfl) (BT (cs:=[rS ([]:Ag),rB false,rv (.slice none 0 0),rI .i64 0]) JA rfl rfl (λht=>?_))))))))
    refine Bj (i:=0) BV rfl rfl rfl (BE.c rfl) rfl rfl (cs':=[rS ((Am l ha).fKey),rB ((Am l ha).fDelete),AV 4 (List.map Ab ((Am l ha).fValue)),rI .i64 ((Am l ha).fIfVersion)]) rfl (H':=[.blk ht (Ad (Am l ha)) 50,.row he 9 1 (List.map eS hb)]) rfl (Bf (wv (B0 (i:=0) GB BV rfl rfl rfl rfl) (ob hs λhd hu hw=>Cg Tryz.call45 (ZI F (Am l ha) hd hu) rfl (wm rfl (wv (Az rfl rfl) (wv (Az rfl rfl) (wa rfl (wa rfl (Ak (Ai (Ae (wm rfl (wv (CB rfl rfl) (Ak (cz hw rfl (λhx hy=>?_) (λhx hz=>?_))))))))))))))))
    ·refine Ae (wm rfl (wv (r:=rS ([]:Ag)) (Ao rfl) (wa rfl (Ak (Aq (Ac (Av (Ac (Ac (AS ?_))))))))))
     have h0:=Bm hy hi hj
     refine Av (Ac ?_)
     obtain rfl:=As h0
     exact Ap (Cy Wo (A4 rfl) (A4 rfl)) (sS (sS sN)) ⟨rfl,rfl⟩
    ·refine An (AF (Af (wm rfl (wm rfl (AQ (ys:=([hd.1]:List Ag)) (enc:=eS) (css:=[[rS hd.1]]) (xs:=[.tmp 30]) Cn CD Wj rfl rfl rfl ⟨Eb.one rfl (Up.refl _),trivial⟩ rfl Ed rfl rfl rfl (λhG=>?_))))))
     refine ck hz λh1 h3=>Exists.elim OO λinf hinf=>BG (xs:=hb) (ys:=([hd.1]:List Ag)) (enc:=eS) (i:=2) Cn hinf.1 hinf.2.1 hinf.2.2.1 hinf.2.2.2 rfl rfl rfl rfl rfl (Ja.w (i:=0) rfl rfl) Ed Lp h1 rfl (λh4=>?_)
     refine wa rfl (Aj (A8 (AF (Af (ck h3 λh7 h8=>wv (AX rfl rfl h7) (wm rfl (Aj ?_)))))))
     have h9:=Bb h8 hi
     exact Ar (A3 (ho,(hb++([hd.1]:List Ag),ha+1),h4) ⟨h9,AcL _⟩ (AC.c rfl (AC.c5 rfl rfl rfl rfl rfl AC.nil)) (sC (sS (sS sN))))
   ·refine Bo (At ?_)
    have hA:=BI hq hi hj
    exact At (Bc (A3 (hb,he) hA (AC.c rfl (AC.c rfl (AC.c rfl AC.nil))) (sC sN)))
  ·rintro⟨hg,hk⟩ hh
   refine Cf (l':=[(2,rS ([]:Ag)),(3,rI .i64 0),(5,rv hk)]) (H':=[.row hk 9 1 (List.map eS hg)]) rfl rfl ?_
   replace hh:HT F hg=some r:=hh
   unfold HT at hh
   refine AZ (AF (Ae (wm rfl (WL.freeze (i:=0) rfl (WL.up (d:=34) (r:=AV 1 (List.map eS hg)) rfl (Up.fact (i:=0) rfl) (ob hh λhB hC hD=>Cg Tryz.call46 (ZZ F hg hB hC) rfl (wv (Az rfl rfl) (wv (Az rfl rfl) (wa rfl (wa rfl (Ak (Aq ?_))))))))))))
   obtain rfl:=As hD
   exact Ap (Cy Wo (A4 rfl) (A4 rfl)) (sS sN) ⟨rfl,rfl⟩
theorem VE (F:Nat) (s:Ag) (r:Ah×Bool) (h:Mc F s=some r):Fn Tryz.prog GE 52 [rS s] [] (λR H=>R=Cm [B9 (Ad r.1),rB r.2]∧H=[]):=by
 refine enter (n:=72) Tryz.func52 rfl Tryz.ntmps52 rfl (λw Z=>?_)
 unfold Mc at h
 refine Ae (BT (cs:=[rS ([]:Ag),rB false,rv (.slice none 0 0),rI .i64 0]) JA rfl rfl (λb1=>?_))
 refine wa rfl (Bf (wm rfl (ob h λr2 e4 h3=>Cg Tryz.call72 (VT F s r2 e4) rfl (wm rfl (wv (Az rfl rfl) (wv (Az rfl rfl) (wa rfl (wa rfl (Ak (Ai (ck h3 λg5 h6=>A6 [(2,rP b1 0),(4,AV 1 (List.map eS r2.1)),(32,rB ((!decide (r2.2=0))||((!decide ((r2.1.length:Int)=4))||((!decide ((Am r2.1 1)=([48]:Ag)))&&(!decide ((Am r2.1 1)=([49]:Ag)))))))] [.blk b1 [rS ([]:Ag),rB false,rv (.slice none 0 0),rI .i64 0] 50] ?_ ?_)))))))))))
 ·refine Af (wm rfl (wv (CB rfl rfl) (wm rfl (AI (!decide (r2.2=0)) (λc7=>?_) (λc7=>?_)))))
  ·refine wf c7 (wf c7 (wf c7 (wv (r:=rB true) (Au rfl c7 rfl) (wm rfl (wz rfl rfl (wz rfl rfl (wz rfl rfl (wz rfl rfl (wz rfl rfl (wu (wu (wu (wu (wz rfl rfl (wv (r:=rB true) (Au (b:=true) rfl rfl rfl) (Aj ?_))))))))))))))))
   exact BM c7
  ·refine wo c7 (wm rfl (wo c7 (wv (Bv (ys:=r2.1) (enc:=eS) Cn rfl) (wo c7 (wv (CB rfl rfl) (DR rfl c7 rfl (wm rfl (AI (!decide ((r2.1.length:Int)=4)) (λc8=>?_) (λc8=>?_)))))))))
   ·refine wf c8 (wf c8 (wf c8 (wf c8 (wf c8 (wu (wu (wu (wu (wf c8 (wv (r:=rB true) (Au rfl c8 rfl) (Aj ?_)))))))))))
    exact BM (And.intro c7 c8)
   ·refine wo c8 (wm rfl (wo c8 (wv (Bh (enc:=eS) (ys:=r2.1) Cn CD rfl rfl (Cr (Cr g5 c7) c8)) (wo c8 (wv (AY Dm rfl rfl) (wo c8 (wv (Hj rfl rfl) (wo c8 (wm rfl (AI (!decide ((Am r2.1 1)=([48]:Ag))) (λc9=>?_) (λc9=>?_)))))))))))
    ·refine wo c9 (wm rfl (wo c9 (wv (Bh (enc:=eS) (ys:=r2.1) Cn CD rfl rfl (Cr (Cr g5 c7) c8)) (wo c9 (wv (AY Dm rfl rfl) (wo c9 (wv (Hj rfl rfl) (wo c8 (EF rfl c9 rfl (DR rfl c8 rfl (Aj ?_)))))))))))
     exact BM (And.intro c7 (And.intro c8 c9))
    ·refine wf c9 (wf c9 (wf c9 (wf c9 (wo c8 (wv (r:=rB false) (A7 rfl c9 rfl) (DR rfl c8 rfl (Aj ?_)))))))
     exact BM (And.intro c7 (And.intro c8 c9))
 refine cz h6 rfl (λhd he=>?_) (λhd hf=>?_)
 ·refine Ae (wv (r:=B9 [rS ([]:Ag),rB false,rv (.slice none 0 0),rI .i64 0]) (Lh ) (Bj (i:=0) BV rfl rfl rfl (BE.c rfl) rfl rfl (cs':=[rS ([]:Ag),rB false,rv (.slice none 0 0),rI .i64 0]) rfl (H':=[.blk b1 [rS ([]:Ag),rB false,rv (.slice none 0 0),rI .i64 0] 50]) rfl (wa rfl (Ak (Aq (Ac (WK.upBlk (i:=0) (cs':=[rS ([]:Ag),rB false,AV 4 (List.map Ab ([]:List Aa)),rI .i64 0]) rfl ⟨Up.refl _,Up.refl _,Up.le (E1.nil _),Up.refl _,trivial⟩ ?_)))))))
  obtain rfl:=As he
  exact Ap (Cy Za (Gi (i:=0) GB BV rfl rfl rfl) (A4 rfl)) (sS sN) ⟨rfl,rfl⟩
 ·refine An (AF (Ae (wm rfl (ck hf λhg hh=>wv (Bh (enc:=eS) (ys:=r2.1) Cn CD rfl rfl hg) (wv (AY Dm rfl rfl) (ck hh λg15 hi=>Ie (rs:=[rS (Am r2.1 3)]) (r:=Cm [rI .i64 (AJ (Am r2.1 3)),rI .i64 (BA (Am r2.1 3))]) Tryz.call73 rfl (Ue (Am r2.1 3) g15) rfl rfl (wm rfl (wv (Az rfl rfl) (wv (Az rfl rfl) (wa rfl (wa rfl (Ak (Ai (Ae (wm rfl (wv (CB rfl rfl) (Ak (cz hi rfl (λhj hk=>?_) (λhj hl=>?_)))))))))))))))))))
  ·refine Ae (wv (r:=B9 [rS ([]:Ag),rB false,rv (.slice none 0 0),rI .i64 0]) (Lh ) (Bj (i:=0) BV rfl rfl rfl (BE.c rfl) rfl rfl (cs':=[rS ([]:Ag),rB false,rv (.slice none 0 0),rI .i64 0]) rfl (H':=[.blk b1 [rS ([]:Ag),rB false,rv (.slice none 0 0),rI .i64 0] 50]) rfl (wa rfl (Ak (Aq (Ac (WK.upBlk (i:=0) (cs':=[rS ([]:Ag),rB false,AV 4 (List.map Ab ([]:List Aa)),rI .i64 0]) rfl ⟨Up.refl _,Up.refl _,Up.le (E1.nil _),Up.refl _,trivial⟩ ?_)))))))
   obtain rfl:=As hk
   exact Ap (Cy Za (Gi (i:=0) GB BV rfl rfl rfl) (A4 rfl)) (sS sN) ⟨rfl,rfl⟩
  ·refine An (AF (Ai (ck hl λhm hn=>ck hn λho hp=>Gw 10 [2,4,6] [⟨[],AV 1 (List.map eS r2.1),none,none,none⟩,⟨[0],EL [rS (Am r2.1 0)],none,none,none⟩,⟨[1],rS (Am r2.1 0),none,none,none⟩,⟨[],AV 1 (List.map eS r2.1),none,none,none⟩,⟨[3],EL [rS (Am r2.1 1)],none,none,none⟩,⟨[4],rS (Am r2.1 1),none,none,none⟩,⟨[5],rB (decide ((Am r2.1 1)=([49]:Ag))),none,none,none⟩,⟨[],rI .i64 (AJ (Am r2.1 3)),none,none,none⟩,⟨[2,6,7],B9 [rS (Am r2.1 0),rB (decide ((Am r2.1 1)=([49]:Ag))),rv (.slice none 0 0),rI .i64 (AJ (Am r2.1 3))],none,none,none⟩,⟨[],rv undef,some ([rS ([]:Ag),rB false,rv (.slice none 0 0),rI .i64 0],50),none,none⟩] ?_ (λβ=>?_))))
   ·refine DB (Al rfl) (DB (Bh (enc:=eS) (ys:=r2.1) Cn CD rfl rfl hm) (DB (AY Dm rfl rfl) (DB (Al rfl) (DB (Bh (enc:=eS) (ys:=r2.1) Cn CD rfl rfl ho) (DB (AY Dm rfl rfl) (DB (Ef rfl rfl) (DB (Al rfl) (DB (He rfl rfl rfl rfl rfl rfl) (oal (Aax (cs:=[rS ([]:Ag),rB false,rv (.slice none 0 0),rI .i64 0]) JA rfl) ?_)))))))))
    exact Xy
   refine Ha (H1:=[.blk b1 [rS ([]:Ag),rB false,rv (.slice none 0 0),rI .i64 0] 50,.blk (β 9) [rS ([]:Ag),rB false,rv (.slice none 0 0),rI .i64 0] 50]) [44,45,46,47,48,49,50,51,52,7,2,4,6] ?_
   generalize β 9=ha
   refine Bj (i:=1) BV rfl rfl rfl (BE.c rfl) rfl rfl (cs':=[rS (Am r2.1 0),rB (decide ((Am r2.1 1)=([49]:Ag))),rv (.slice none 0 0),rI .i64 (AJ (Am r2.1 3))]) rfl (H':=[.blk b1 [rS ([]:Ag),rB false,rv (.slice none 0 0),rI .i64 0] 50,.blk ha [rS (Am r2.1 0),rB (decide ((Am r2.1 1)=([49]:Ag))),rv (.slice none 0 0),rI .i64 (AJ (Am r2.1 3))] 50]) rfl (Ak (Ai (Ae (vF C3 rfl GR (vL 1 MZ rfl (Ak (cz hp rfl (λhq hr=>?_) (λhq hs=>?_))))))))
   ·refine Ai (ck hr λht hu=>EW (H1:=[.blk b1 [rS (Am r2.1 0),rB (decide ((Am r2.1 1)=([49]:Ag))),rv (.slice none 0 0),rI .i64 (AJ (Am r2.1 3))] 50,.blk ha [rS (Am r2.1 0),rB (decide ((Am r2.1 1)=([49]:Ag))),rv (.slice none 0 0),rI .i64 (AJ (Am r2.1 3))] 50]) [2,4,7] [⟨[],B9 [rS (Am r2.1 0),rB (decide ((Am r2.1 1)=([49]:Ag))),rv (.slice none 0 0),rI .i64 (AJ (Am r2.1 3))],1⟩,⟨[],AV 1 (List.map eS r2.1),0⟩,⟨[1],EL [rS (Am r2.1 2)],0⟩,⟨[2],rS (Am r2.1 2),0⟩,⟨[3],rB (decide ((Am r2.1 2)=([]:Ag))),0⟩,⟨[0],rv undef,2⟩,⟨[4],rB (decide ((Am r2.1 2)=([]:Ag))),0⟩] (rle [(6,_),(2,[.blk b1 [rS (Am r2.1 0),rB (decide ((Am r2.1 1)=([49]:Ag))),rv (.slice none 0 0),rI .i64 (AJ (Am r2.1 3))] 50,.blk ha [rS (Am r2.1 0),rB (decide ((Am r2.1 1)=([49]:Ag))),rv (.slice none 0 0),rI .i64 (AJ (Am r2.1 3))] 50])]) [3,2] ?_ ?_)
    ·refine of (B0 (i:=1) GB BV rfl rfl rfl rfl) (oq (Al rfl) (oq (Bh (enc:=eS) (ys:=r2.1) Cn CD rfl rfl ht) (oq (AY Dm rfl rfl) (oq (Ef rfl rfl) (Ij rfl (N3 (C4 (i:=0) BV rfl rfl rfl (BE.c rfl) rfl rfl (cs':=[rS (Am r2.1 0),rB (decide ((Am r2.1 1)=([49]:Ag))),rv (.slice none 0 0),rI .i64 (AJ (Am r2.1 3))]) rfl (H':=[.blk b1 [rS (Am r2.1 0),rB (decide ((Am r2.1 1)=([49]:Ag))),rv (.slice none 0 0),rI .i64 (AJ (Am r2.1 3))] 50,.blk ha [rS (Am r2.1 0),rB (decide ((Am r2.1 1)=([49]:Ag))),rv (.slice none 0 0),rI .i64 (AJ (Am r2.1 3))] 50]) rfl)) ?_)))))
     refine oq (Ao rfl) ?_
     exact Cj
    refine AF (Aq (Ac (WK.upBlk (i:=0) (cs':=[rS (Am r2.1 0),rB (decide ((Am r2.1 1)=([49]:Ag))),AV 4 (List.map Ab ([]:List Aa)),rI .i64 (AJ (Am r2.1 3))]) rfl ⟨Up.refl _,Up.refl _,Up.le (E1.nil _),Up.refl _,trivial⟩ ?_)))
    obtain rfl:=As hu
    exact Ap (Cy Za (Gi (i:=0) GB BV rfl rfl rfl) (A4 rfl)) (sS (sS sN)) ⟨rfl,rfl⟩
   ·refine An (AF (Ae (wm rfl (ck hs λhw hx=>wv (Bh (enc:=eS) (ys:=r2.1) Cn CD rfl rfl hw) (wv (AY Dm rfl rfl) (ob hx λhb hy hz=>Cg Tryz.call74 (UR F (Am r2.1 2) hb hy) rfl (wm rfl (wv (Az rfl rfl) (wv (Az rfl rfl) (wa rfl (wa rfl (Bf (wm rfl (vF C3 rfl Dk (BB (i:=1) Dk rfl rfl (Co rfl) rfl rfl (cs':=[rS (Am r2.1 0),rB (decide ((Am r2.1 1)=([49]:Ag))),AV 4 (List.map Ab hb.1),rI .i64 (AJ (Am r2.1 3))]) rfl (H':=[.blk b1 [rS ([]:Ag),rB false,rv (.slice none 0 0),rI .i64 0] 50,.blk ha [rS (Am r2.1 0),rB (decide ((Am r2.1 1)=([49]:Ag))),AV 4 (List.map Ab hb.1),rI .i64 (AJ (Am r2.1 3))] 50]) rfl (Bf (wv (B0 (i:=1) GB BV rfl rfl rfl rfl) (wm rfl (wv (Bx rfl rfl) (Bj (i:=0) BV rfl rfl rfl (BE.c rfl) rfl rfl (cs':=[rS (Am r2.1 0),rB (decide ((Am r2.1 1)=([49]:Ag))),AV 4 (List.map Ab hb.1),rI .i64 (AJ (Am r2.1 3))]) rfl (H':=[.blk b1 [rS (Am r2.1 0),rB (decide ((Am r2.1 1)=([49]:Ag))),AV 4 (List.map Ab hb.1),rI .i64 (AJ (Am r2.1 3))] 50,.blk ha [rS (Am r2.1 0),rB (decide ((Am r2.1 1)=([49]:Ag))),AV 4 (List.map Ab hb.1),rI .i64 (AJ (Am r2.1 3))] 50]) rfl (wa rfl ?_)))))))))))))))))))))
    refine Ak (Aq ?_)
    obtain rfl:=As hz
    exact Ap (Cy Za (Gi (i:=0) GB BV rfl rfl rfl) (A4 rfl)) (sS (sS sN)) ⟨rfl,rfl⟩
theorem Qa (F:Nat) (rc:Ag) (r:(List Ah)×Int) (h:K3 F rc=some r):Fn Tryz.prog GE 25 [rS rc] [] (λR H=>R=Cm [AV 4 (List.map Ad r.1),rI .i64 r.2]∧H=[]):=by
 refine enter (n:=53) Tryz.func25 rfl Tryz.ntmps25 rfl (λw Z=>?_)
 unfold K3 at h
 refine Ae (wa rfl (wa rfl (Bf (wm rfl (ob h λr1 e3 h2=>Cg Tryz.call51 (Yt F rc r1 e3) rfl (wm rfl (wv (Az rfl rfl) (wv (Az rfl rfl) (wa rfl (wa rfl (Ak (Ai (Ae (wm rfl (wm rfl (wv (AW BC rfl) (wv (CB rfl rfl) (Ak (cz h2 rfl (λc4 h5=>?_) (λc4 h6=>?_))))))))))))))))))))
 ·refine Ae (wa rfl (wa rfl (Ak (Aq (Ac (WK.up (d:=2) (r:=AV 4 (List.map Ad ([]:List Ah))) rfl (Up.le (E1.nil _)) ?_))))))
  obtain rfl:=As h5
  exact Ap (Cy Zd (A4 rfl) (A4 rfl)) sN ⟨rfl,rfl⟩
 ·refine An (AF (Ae (wa rfl (Ak (Ai (Ae (wm rfl (wv (Bv (ys:=r1.1) (enc:=eS) Cn rfl) (wv (r:=rI .i64 0) (Al rfl) (Ak (AB (WC.nilrow (e:=50) (sz:=4) (ob h6 λhn ho hm=>Bk (S:=Nat×((List Ah)×Int)×(Value)) (V:=((List Ah))×(Value)) 0 (λσ=>BF (λσ=>DY F r1 σ.1 σ.2) σ.1 σ.2.1=some hn) (λσ=>[(0,rS rc),(2,rv (.slice none 0 0)),(3,rI .i64 0),(6,rv σ.2.2),(22,AV 1 (List.map eS r1.1)),(23,rI .i64 (r1.1.length:Int)),(24,rI .i64 σ.2.1.2)]) (λσ=>[.row σ.2.2 50 4 (List.map Ad σ.2.1.1)]) (λσ=>σ.1) (F,(([]:List Ah),0),(.slice none 0 0                                                  )) ho (AC.c rfl (AC.c rfl (AC.c5 rfl rfl rfl rfl rfl AC.nil))) (sC sN) (λσ=>HU F rc σ.1=some r) (λσ=>[(0,rS rc),(2,rv (.slice none 0 0)),(3,rI .i64 0),(6,rv σ.2)]) (λσ=>[.row σ.2 50 4 (List.map Ad σ.1)]) ?_ ?_)))))))))))))
  ·rintro⟨hJ,⟨hd,hf⟩,hg⟩ hp
   refine BO (l':=[(0,rS rc),(2,rv (.slice none 0 0)),(3,rI .i64 0),(6,rv hg),(22,AV 1 (List.map eS r1.1)),(23,rI .i64 (r1.1.length:Int)),(24,rI .i64 hf)]) (H':=[.row hg 50 4 (List.map Ad hd)]) rfl rfl ?_
   obtain⟨hq,rfl,t70,hh,hl⟩:=Ce hp
   replace hh:DY F r1 hd hf=some t70:=hh
   unfold DY at hh
   refine Ae (wv (BY rfl rfl) (Ak (Ai (cz hh rfl (λc76 hr=>?_) (λc76 hs=>?_)))))
   ·refine An (AF (Ai (AB (Ae (ck hr λht hu=>wv (Bh (enc:=eS) (ys:=r1.1) Cn CD rfl rfl ht) (wv (AY Dm rfl rfl) (wa rfl (Bf (wm rfl (ob hu λha hw hx=>Cg Tryz.call52 (VE F (Am r1.1 hf) ha hw) rfl (wm rfl (wv (Az rfl rfl) (wv (Az rfl rfl) (BT (cs:=[rS ([]:Ag),rB false,rv (.slice none 0 0),rI .i64 0]) JA rfl rfl (λhy=>?_)))))))))))))))
    refine Bj (i:=0) BV rfl rfl rfl (BE.c rfl) rfl rfl (cs':=[rS ha.1.fKey,rB ha.1.fDelete,AV 4 (List.map Ab ha.1.fValue),rI .i64 ha.1.fIfVersion]) rfl (H':=[.blk hy (Ad ha.1) 50,.row hg 50 4 (List.map Ad hd)]) rfl (wa rfl (Ak (Ai (Ae (wm rfl (wv (Cd rfl) (Ak (cz hx rfl (λhz h0=>?_) (λhz h1=>?_)))))))))
    ·refine Ae (wa rfl (wa rfl (Ak (Aq (Ac (Av (Ac (Ac (AS ?_)))))))))
     have h3:=Bm h0 hl hm
     refine Av (Ac (WK.up (d:=2) (r:=AV 4 (List.map Ad ([]:List Ah))) rfl (Up.le (E1.nil _)) ?_))
     obtain rfl:=As h3
     exact Ap (Cy Zd (A4 rfl) (A4 rfl)) (sS (sS sN)) ⟨rfl,rfl⟩
    ·refine An (AF (Af (wm rfl (wv (B0 (i:=0) GB BV rfl rfl rfl rfl) (AQ (ys:=([ha.1]:List Ah)) (enc:=Ad) (css:=[[rS ha.1.fKey,rB ha.1.fDelete,AV 4 (List.map Ab ha.1.fValue),rI .i64 ha.1.fIfVersion]]) (xs:=[.tmp 36]) CN BV JA rfl rfl rfl ⟨Eb.agg ⟨Up.refl _,Up.refl _,Up.refl _,Up.refl _,trivial⟩,trivial⟩ rfl Cl rfl rfl rfl (λhK=>?_))))))
     refine ck h1 λh4 h7=>Exists.elim XZ λinf hinf=>BG (xs:=hd) (ys:=([ha.1]:List Ah)) (enc:=Ad) (i:=2) CN hinf.1 hinf.2.1 hinf.2.2.1 hinf.2.2.2 rfl rfl rfl rfl rfl (Ja.w (i:=0) rfl rfl) Cl J3 h4 rfl (λh8=>?_)
     refine wa rfl (Aj (A8 (AF (Af (ck h7 λh9 hA=>wv (AX rfl rfl h9) (wm rfl (Aj ?_)))))))
     have hB:=Bb hA hl
     exact Ar (A3 (hq,(hd++([ha.1]:List Ah),hf+1),h8) ⟨hB,AcL _⟩ (AC.c rfl (AC.c rfl (AC.c5 rfl rfl rfl rfl rfl AC.nil))) (sC (sS (sS sN))))
   ·refine Bo (At ?_)
    have hC:=BI hs hl hm
    exact At (Bc (A3 (hd,hg) hC (AC.c rfl (AC.c rfl (AC.c rfl (AC.c rfl AC.nil)))) (sC sN)))
  ·rintro⟨he,hi⟩ hj
   refine Cf (l':=[(0,rS rc),(2,rv (.slice none 0 0)),(3,rI .i64 0),(6,rv hi)]) (H':=[.row hi 50 4 (List.map Ad he)]) rfl rfl ?_
   replace hj:HU F rc he=some r:=hj
   unfold HU at hj
   refine AZ (AF (Ai (Ae (wm rfl (WL.freeze (i:=0) rfl (WL.up (d:=41) (r:=AV 4 (List.map Ad he)) rfl (Up.fact (i:=0) rfl) (ob hj λhk hD hE=>Cg Wr (K2 F he hk hD) rfl (wm rfl (wv (Az rfl rfl) (wv (Az rfl rfl) (wa rfl (wa rfl (Ak (A6 [(6,rv hi),(51,rB ((!decide (hk.2=0))||(!decide (hk.1=rc))))] [.fact hi (AV 4 (List.map Ad he))] ?_ ?_))))))))))))))
   ·refine Af (wm rfl (wv (CB rfl rfl) (wm rfl (AI (!decide (hk.2=0)) (λhb=>?_) (λhb=>?_)))))
    ·refine wf hb (wf hb (wf hb (wv (r:=rB true) (Au rfl hb rfl) (Aj ?_))))
     exact BM hb
    ·refine wo hb (wm rfl (wo hb (wm rfl (wo hb (wv (Hj rfl rfl) (DR rfl hb rfl (Aj ?_)))))))
     exact BM hb
   refine cz hE rfl (λhG hH=>?_) (λhG hI=>?_)
   ·refine Ae (wa rfl (wa rfl (Ak (Aq (Ac (WK.up (d:=2) (r:=AV 4 (List.map Ad ([]:List Ah))) rfl (Up.le (E1.nil _)) ?_))))))
    obtain rfl:=As hH
    exact Ap (Cy Zd (A4 rfl) (A4 rfl)) (sS sN) ⟨rfl,rfl⟩
   ·refine An (AF (Ae (wm rfl (wa rfl (wa rfl (Ak (Aq (WK.up (d:=2) (r:=AV 4 (List.map Ad he)) rfl (Up.fact (i:=0) rfl) ?_))))))))
    obtain rfl:=As hI
    exact Ap (Cy Zd (A4 rfl) (A4 rfl)) (sS sN) ⟨rfl,rfl⟩
end Go.Proofs.YtjfnokmpfekniaaGreatDoor.Q
namespace Go.Proofs.YtjfnokmpfekniaaGreatDoor
open Go
set_option linter.unusedVariables false
def D3 (F:Nat) (l:(List Ah)) (hb:(List Ag)) (ha:Int):Option (Stp ((List Ag)×Int) (Out (Ag×Int) ((List Ag)))):=
 Bd (decide (ha<(l.length:Int))) (AN (Cu ha (l.length:Int))<|AN (Bl .i64 ((Am l ha).fIfVersion))<|Bd ((Am l ha).fDelete) (AN (Cu 1 (([(Am l ha).fKey,([48]:Ag),([]:Ag),Lib.itoa ((Am l ha).fIfVersion)]:List Ag).length:Int))<|Ls (List.set ([(Am l ha).fKey,([48]:Ag),([]:Ag),Lib.itoa ((Am l ha).fIfVersion)]:List Ag) (Int.toNat 1) ([49]:Ag)) λhf=>Bn (JL F hf) λhd=>Bd (!decide (hd.2=0)) (some (.out (.ret (([]:Ag),hd.2)))) (AN (Dw 16 (hb.length+([hd.1]:List Ag).length))<|AN (Bl .i64 (ha+1))<|some (.next (hb++([hd.1]:List Ag),ha+1)))) (Bn (LC F ((Am l ha).fValue)) λhg=>AN (Cu 2 (([(Am l ha).fKey,([48]:Ag),([]:Ag),Lib.itoa ((Am l ha).fIfVersion)]:List Ag).length:Int))<|Ls (List.set ([(Am l ha).fKey,([48]:Ag),([]:Ag),Lib.itoa ((Am l ha).fIfVersion)]:List Ag) (Int.toNat 2) hg.1) λhh=>Bn (JL F hh) λhe=>Bd (!decide (he.2=0)) (some (.out (.ret (([]:Ag),he.2)))) (AN (Dw 16 (hb.length+([he.1]:List Ag).length))<|AN (Bl .i64 (ha+1))<|some (.next (hb++([he.1]:List Ag),ha+1))))) (some (.out (.go hb)))
def GV (F:Nat) (hb:(List Ag)):Option (Ag×Int):=
 Bn (O3 F hb) λha=>some (ha.1,ha.2)
def JI (F:Nat) (l:(List Ah)):Option (Ag×Int):=
 Bn (Xb F l) λr1=>Bd (!decide (r1=0)) (some (([]:Ag),r1)) (Bn (BF (λσ=>D3 F l σ.1 σ.2) F (([]:List Ag),0)) (B6 λν=>GV F ν))
def LF (F:Nat) (body:Ag):Option (Ah×Bool):=
 Bn (JK F body) λr2=>Bd (((!decide (r2.2=0))||(!decide ((r2.1.length:Int)=4)))) (some ((Ah.mk ([]:Ag) false ([]:List Aa) 0),false)) (AN (Cu 3 (r2.1.length:Int))<|AN (Dw 1 (Am r2.1 3).length)<|AN (Cu 0 (r2.1.length:Int))<|AN (Cu 1 (r2.1.length:Int))<|Bd (((!decide ((BA (Am r2.1 3))=0))||((!decide ((Am r2.1 1)=([48]:Ag)))&&(!decide ((Am r2.1 1)=([49]:Ag)))))) (some ((Ah.mk (Am r2.1 0) (decide ((Am r2.1 1)=([49]:Ag))) ([]:List Aa) (AJ (Am r2.1 3))),false)) (Bd (decide ((Am r2.1 1)=([49]:Ag))) (AN (Cu 2 (r2.1.length:Int))<|AN (imp (decide ((Am r2.1 2)=([]:Ag))) ((Dy F (Ah.mk (Am r2.1 0) (decide ((Am r2.1 1)=([49]:Ag))) ([]:(List Aa)) (AJ (Am r2.1 3)))).isSome))<|some ((Ah.mk (Am r2.1 0) (decide ((Am r2.1 1)=([49]:Ag))) ([]:List Aa) (AJ (Am r2.1 3))),((decide ((Am r2.1 2)=([]:Ag)))&&(decide ((ov (Dy F (Ah.mk (Am r2.1 0) (decide ((Am r2.1 1)=([49]:Ag))) ([]:(List Aa)) (AJ (Am r2.1 3)))))=0))))) (AN (Cu 2 (r2.1.length:Int))<|Bn (LD F (Am r2.1 2)) λha=>AN (imp (decide (ha.2=0)) ((Dy F (Ah.mk (Am r2.1 0) (decide ((Am r2.1 1)=([49]:Ag))) ha.1 (AJ (Am r2.1 3)))).isSome))<|some ((Ah.mk (Am r2.1 0) (decide ((Am r2.1 1)=([49]:Ag))) ha.1 (AJ (Am r2.1 3))),((decide (ha.2=0))&&(decide ((ov (Dy F (Ah.mk (Am r2.1 0) (decide ((Am r2.1 1)=([49]:Ag))) ha.1 (AJ (Am r2.1 3)))))=0)))))))
def D4 (F:Nat) (r1:(List Ag)×Int) (hb:(List Ah)) (ha:Int):Option (Stp ((List Ah)×Int) (Out ((List Ah)×Int) ((List Ah)))):=
 Bd (decide (ha<(r1.1.length:Int))) (AN (Cu ha (r1.1.length:Int))<|Bn (LF F (Am r1.1 ha)) λhd=>Bd (!hd.2) (some (.out (.ret (([]:List Ah),13)))) (AN (Dw 56 (hb.length+([hd.1]:List Ah).length))<|AN (Bl .i64 (ha+1))<|some (.next (hb++([hd.1]:List Ah),ha+1)))) (some (.out (.go hb)))
def GW (rc:Ag) (ha:(List Ah)):Option ((List Ah)×Int):=
 Bd (decide (262144<(rc.length:Int))) (some (([]:List Ah),13)) (some (ha,0))
def JJ (F:Nat) (rc:Ag):Option ((List Ah)×Int):=
 Bn (LG F rc) λr1=>Bd (((!decide (r1.2=(rc.length:Int)))||(decide (256<(r1.1.length:Int))))) (some (([]:List Ah),13)) (Bn (BF (λσ=>D4 F r1 σ.1 σ.2) F (([]:List Ah),0)) (B6 λν=>GW rc ν))
def E7 (F:Nat) (a:(List Ah)) (b:(List Ah)) (ha:Int):Option (Stp (Int) (Out (Bool) (Unit))):=
 Bd (decide (ha<(a.length:Int))) (AN (Cu ha (a.length:Int))<|AN (Cu ha (b.length:Int))<|AN (imp (!(!decide (((Am a ha).fKey)=((Am b ha).fKey)))) (imp (!(!(((Am a ha).fDelete) ==((Am b ha).fDelete)))) (imp (!(!decide (((Am a ha).fIfVersion)=((Am b ha).fIfVersion)))) ((Hd F ((Am a ha).fValue) ((Am b ha).fValue)).isSome))))<|Bd (((!decide (((Am a ha).fKey)=((Am b ha).fKey)))||((!(((Am a ha).fDelete) ==((Am b ha).fDelete)))||((!decide (((Am a ha).fIfVersion)=((Am b ha).fIfVersion)))||(!(ov (Hd F ((Am a ha).fValue) ((Am b ha).fValue)))))))) (some (.out (.ret false))) (AN (Bl .i64 (ha+1))<|some (.next (ha+1)))) (some (.out (.go ())))
def Kk :Option (Bool):=
 some true
def Hc (F:Nat) (a:(List Ah)) (b:(List Ah)):Option (Bool):=
 Bd (!decide ((a.length:Int)=(b.length:Int))) (some false) (Bn (BF (λσ=>E7 F a b σ) F 0) (B6 λν=>Kk ))
end Go.Proofs.YtjfnokmpfekniaaGreatDoor
