/-
  Texts of the proof, put together: WEa, PEb, WEb, PEc, WEc, OkEventChecks, LvA, LvB, LvC, LvD, LvE, LvF, LvG, LvH, LvI, LvJ, LvK, LvL, LvM, LvN, LvO, LvP, LrA, LdA, LdB, LdC, LdD, LdE, LdF, LdG, LdH, LdI, LdJ, LdK, LtA, LrB, LtB, LtD, LeA, LeB, LeC, LeD, LwEvChecks.
-/
import Derived.Test.YtailcjmjkmjelaaGreatDoorEK3
import GoSem.ClaimData
namespace Go.Proofs.YtailcjmjkmjelaaGreatDoor.Q
open Go Go.RowKit
set_option linter.unusedVariables false
set_option linter.unusedSimpArgs false
set_option maxRecDepth 100000
set_option maxHeartbeats 4000000
@[reducible] def A9 (x:AA):List Rp:=[rS x.fID,rS x.fTenant,rS x.fSource,rS x.fKey,rI .i64 x.fAt,rS x.fCause,Bl 4 (List.map Ab x.fBody)]
theorem Mh (parts:List (Nat×Value)):Tryz.prog.built 24 parts=Instr.fill (λi=>(#[(0,1),(1,1),(2,1),(3,1),(4,1),(5,1),(6,1)]:Array (Nat×Nat))[i]?) #[(.string ⟨#[]⟩),(.string ⟨#[]⟩),(.string ⟨#[]⟩),(.string ⟨#[]⟩),(.int .i64 0),(.string ⟨#[]⟩),((.slice none 0 0))] parts:=by kernel_rfl
theorem Ds {n:Nat}{c:Cx}{l:Fr}{H:List Ent}{d:Option Nat}{ty:TypeId}{pos:String}{af:Array Edge}{g:Option (Nat×Bool)}:Bd Tryz.prog n c l H { dst:=d,op:=.build 24 #[],type:=ty,pos:=pos,after:=af,guard:=g } (Bo [rS ([]:Ak),rS ([]:Ak),rS ([]:Ak),rS ([]:Ak),rI .i64 0,rS ([]:Ak),rv (.slice none 0 0)]):=λa w Z ha _=>by
  have hb:Tryz.prog.built 24 []=some #[(.string ⟨#[]⟩),(.string ⟨#[]⟩),(.string ⟨#[]⟩),(.string ⟨#[]⟩),(.int .i64 0),(.string ⟨#[]⟩),((.slice none 0 0))]:=by
    rw[Mh];simp[Instr.fill,Value.cells]
  refine⟨.agg #[(.string ⟨#[]⟩),(.string ⟨#[]⟩),(.string ⟨#[]⟩),(.string ⟨#[]⟩),(.int .i64 0),(.string ⟨#[]⟩),((.slice none 0 0))],⟨[(.string ⟨#[]⟩),(.string ⟨#[]⟩),(.string ⟨#[]⟩),(.string ⟨#[]⟩),(.int .i64 0),(.string ⟨#[]⟩),((.slice none 0 0))],rfl,rfl,rfl,rfl,rfl,rfl,rfl,rfl,trivial⟩,?_⟩;have:=run_build w 24 #[] _ (by simpa using hb);simp[execOp,this]
theorem DO {n:Nat}{c:Cx}{l:Fr}{H:List Ent}{d:Option Nat}{ty:TypeId}{pos:String}{af:Array Edge}{g:Option (Nat×Bool)}{x0:Operand}{r0:Rp}(h0:ev l x0=some r0)(u0:r0.one=true){x1:Operand}{r1:Rp}(h1:ev l x1=some r1)(u1:r1.one=true){x2:Operand}{r2:Rp}(h2:ev l x2=some r2)(u2:r2.one=true){x3:Operand}{r3:Rp}(h3:ev l x3=some r3)(u3:r3.one=true){x4:Operand}{r4:Rp}(h4:ev l x4=some r4)(u4:r4.one=true){x5:Operand}{r5:Rp}(h5:ev l x5=some r5)(u5:r5.one=true){x6:Operand}{r6:Rp}(h6:ev l x6=some r6)(u6:r6.one=true):Bd Tryz.prog n c l H { dst:=d,op:=.build 24 #[(0,x0),(1,x1),(2,x2),(3,x3),(4,x4),(5,x5),(6,x6)],type:=ty,pos:=pos,after:=af,guard:=g } (Bo [r0,r1,r2,r3,r4,r5,r6]):=λa w Z ha _=>by
  have p0:=ha.ev h0;have c0:=Bw (r0.hone u0 Z _ p0);have p1:=ha.ev h1;have c1:=Bw (r1.hone u1 Z _ p1);have p2:=ha.ev h2;have c2:=Bw (r2.hone u2 Z _ p2);have p3:=ha.ev h3;have c3:=Bw (r3.hone u3 Z _ p3);have p4:=ha.ev h4;have c4:=Bw (r4.hone u4 Z _ p4);have p5:=ha.ev h5;have c5:=Bw (r5.hone u5 Z _ p5);have p6:=ha.ev h6;have c6:=Bw (r6.hone u6 Z _ p6);have hb:Tryz.prog.built 24 [(0,a.eval x0),(1,a.eval x1),(2,a.eval x2),(3,a.eval x3),(4,a.eval x4),(5,a.eval x5),(6,a.eval x6)]=some #[a.eval x0,a.eval x1,a.eval x2,a.eval x3,a.eval x4,a.eval x5,a.eval x6]:=by
    rw[Mh];generalize a.eval x0=v0 at *;generalize a.eval x1=v1 at *;generalize a.eval x2=v2 at *;generalize a.eval x3=v3 at *;generalize a.eval x4=v4 at *;generalize a.eval x5=v5 at *;generalize a.eval x6=v6 at *;simp[Instr.fill,c0,c1,c2,c3,c4,c5,c6]
  refine⟨.agg #[a.eval x0,a.eval x1,a.eval x2,a.eval x3,a.eval x4,a.eval x5,a.eval x6],⟨[a.eval x0,a.eval x1,a.eval x2,a.eval x3,a.eval x4,a.eval x5,a.eval x6],rfl,p0,p1,p2,p3,p4,p5,p6,trivial⟩,?_⟩;have:=run_build w 24 #[(0,a.eval x0),(1,a.eval x1),(2,a.eval x2),(3,a.eval x3),(4,a.eval x4),(5,a.eval x5),(6,a.eval x6)] _ (by simpa using hb);simp[execOp,this]
theorem QZ (ys:(List Ac))(r:(List Ac))(h:NK ys=some r):Fn Tryz.prog GE 38 [Bl 4 (List.map Ab ys)] [] (λR H=>R=Bl 4 (List.map Ab r)∧H=[]):=by
 refine enter (n:=8) Tryz.func38 Aa Tryz.ntmps38 Aa (λw Z=>?_);refine AR (l':=[(0,Bl 4 (List.map Ab ys))]) (H':=[]) Aa Aa ?_;unfold NK at h;refine Al (wv (r:=rv (.slice none 0 0)) (Ae Aa) (As (Am (Al (wm Aa (wv (Pe BN Aa) (As (PS Aa (λc1=>?_) (λc1=>?_)))))))))
 ·have e2:ys=[]:=List.map_eq_nil_iff.1 (c1 rfl);have h3:some ([]:List Ac)=some r:=by rw[e2] at h;exact(Az h).2
  refine Al (wv (r:=rv (.slice none 0 0)) (Ae Aa) (As (Ay (Af (WK.up (d:=2) (r:=Bl 4 (List.map Ab ([]:List Ac))) Aa (Up.le (Hi.nil _)) ?_)))));obtain rfl:=A0 h3;exact Ax (BG Tryz.results38 (AM Aa)) sN ⟨Aa,Aa⟩
 ·refine Aw (AP (Al (Bp (ys:=([]:List Ac)) (enc:=Ab) (css:=[]) (xs:=[]) BN Cm Ia Aa Aa Aa trivial Aa Bj Aa Aa Aa (λb4=>?_))));refine wm Aa ?_;obtain⟨g6,h7⟩:=Az h;obtain⟨inf,hinf⟩:=GQ;refine Ck (xs:=([]:List Ac)) (ys:=ys) (enc:=Ab) (i:=0) BN hinf.1 hinf.2.1 hinf.2.2.1 hinf.2.2.2 Aa Aa Aa Aa Aa (Jw.z Aa Aa) Bj Cj g6 Aa (λv5=>?_);refine wa Aa (As (Ay (WK.freeze (i:=0) Aa (WK.up (d:=2) (r:=Bl 4 (List.map Ab (([]:List Ac)++ys))) Aa (Up.fact (i:=0) Aa) ?_))));obtain rfl:=A0 h7;exact Ax (BG Tryz.results38 (AM Aa)) (sS sN) ⟨Aa,Aa⟩
theorem Dw (F:Nat)(e:AA)(r:Int)(h:BA F e=some r):Fn Tryz.prog GE 10 [Bo (A9 e)] [] (λR H=>R=rI .i64 r∧H=[]):=by
 refine enter (n:=52) Tryz.func10 Aa Tryz.ntmps10 Aa (λw Z=>?_);refine AR (l':=[(0,Bo (A9 e))]) (H':=[]) Aa Aa ?_;unfold BA at h;refine Al (BP Aa Aa (λb1=>?_));refine wv (r:=rI .i64 0) (Ae Aa) (As (Am (AB [(1,rv (.pointer (some ⟨b1,0,none⟩))),(40,rB ((!(Cs e.fID))||((!(Cs e.fTenant))||((!(Cs e.fSource))||(bif !decide (e.fKey=([]:Ak)) then((!(Cs e.fKey))||((!decide (e.fCause=([]:Ak)))&&(!(Cs e.fCause)))) else((!decide (e.fCause=([]:Ak)))&&(!(Cs e.fCause))))))))] [.blk b1 (A9 e) 24] ?_ ?_)))
 ·refine Ai (wv (Ad BI Aa BU Aa Aa) (wv (Aq (i:=0) Cg Aa Aa Aa) (Ca (rs:=[rS e.fID]) (r:=rB (Cs e.fID)) Mq Aa (NB e.fID) Aa Aa (wv (BL Aa) (wm Aa (A7 (!(Cs e.fID)) (λc2=>?_) (λc2=>?_)))))))
  ·refine wf c2 (wf c2 (wf c2 (wf c2 (wv (r:=rB true) (Ao (b:=!(Cs e.fID)) Aa c2 Aa) (wm Aa (Ag (b:=true) Aa Aa Aa Aa (Ag (b:=true) Aa Aa Aa Aa (Ag (b:=true) Aa Aa Aa Aa (Ag (b:=true) Aa Aa Aa Aa (wv (r:=rB true) (Ao (b:=true) Aa Aa Aa) (wm Aa (Ag (b:=true) Aa Aa Aa Aa (Ag (b:=true) Aa Aa Aa Aa (Ag (b:=true) Aa Aa Aa Aa (Ag (b:=true) Aa Aa Aa Aa (wu (wu (wu (wu (Ag (b:=true) Aa Aa Aa Aa (wv (r:=rB true) (Ao (b:=true) Aa Aa Aa) (wm Aa (Ag (b:=true) Aa Aa Aa Aa ?_)))))))))))))))))))))));refine Ag (b:=true) Aa Aa Aa Aa (Ag (b:=true) Aa Aa Aa Aa (Ag (b:=true) Aa Aa Aa Aa (wu (wu (wu (wu (Ag (b:=true) Aa Aa Aa Aa (wv (r:=rB true) (Ao (b:=true) Aa Aa Aa) (Aj ?_)))))))));exact BO c2
  ·refine wo c2 (wv (Ad BI Aa BU Aa Aa) (wo c2 (wv (Aq (i:=0) Cg Aa Aa Aa) (wo c2 (Ca (rs:=[rS e.fTenant]) (r:=rB (Cs e.fTenant)) Mq Aa (NB e.fTenant) Aa Aa (wo c2 (wv (BL Aa) (ET Aa c2 Aa (wm Aa (A7 (!(Cs e.fTenant)) (λc3=>?_) (λc3=>?_)))))))))))
   ·refine wf c3 (wf c3 (wf c3 (wf c3 (wv (r:=rB true) (Ao (b:=!(Cs e.fTenant)) Aa c3 Aa) (wm Aa (Ag (b:=true) Aa Aa Aa Aa (Ag (b:=true) Aa Aa Aa Aa (Ag (b:=true) Aa Aa Aa Aa (Ag (b:=true) Aa Aa Aa Aa (wu (wu (wu (wu (Ag (b:=true) Aa Aa Aa Aa (wv (r:=rB true) (Ao (b:=true) Aa Aa Aa) (wm Aa (Ag (b:=true) Aa Aa Aa Aa (Ag (b:=true) Aa Aa Aa Aa (Ag (b:=true) Aa Aa Aa Aa (Ag (b:=true) Aa Aa Aa Aa (wu (wu (wu ?_)))))))))))))))))))))));refine wu (Ag (b:=true) Aa Aa Aa Aa (wv (r:=rB true) (Ao (b:=true) Aa Aa Aa) (Aj ?_)));exact BO (And.intro c2 c3)
   ·refine wo c3 (wv (Ad BI Aa BU Aa Aa) (wo c3 (wv (Aq (i:=0) Cg Aa Aa Aa) (wo c3 (Ca (rs:=[rS e.fSource]) (r:=rB (Cs e.fSource)) Mq Aa (NB e.fSource) Aa Aa (wo c3 (wv (BL Aa) (ET Aa c3 Aa (wm Aa (A7 (!(Cs e.fSource)) (λc4=>?_) (λc4=>?_)))))))))))
    ·refine wf c4 (wf c4 (wf c4 (wf c4 (wu (wu (wu (wu (wf c4 (wv (r:=rB true) (Ao (b:=!(Cs e.fSource)) Aa c4 Aa) (wm Aa (Ag (b:=true) Aa Aa Aa Aa (Ag (b:=true) Aa Aa Aa Aa (Ag (b:=true) Aa Aa Aa Aa (Ag (b:=true) Aa Aa Aa Aa (wu (wu (wu (wu (Ag (b:=true) Aa Aa Aa Aa (wv (r:=rB true) (Ao (b:=true) Aa Aa Aa) (Aj ?_)))))))))))))))))))));exact BO (And.intro c2 (And.intro c3 c4))
    ·refine wo c4 (wv (Ad BI Aa BU Aa Aa) (wo c4 (wv (Aq (i:=0) Cg Aa Aa Aa) (wo c4 (wv (KF Aa Aa) (wo c4 (wm Aa (A7 (!decide (e.fKey=([]:Ak))) (λc5=>?_) (λc5=>?_)))))))))
     ·refine wo c5 (wv (Ad BI Aa BU Aa Aa) (wo c5 (wv (Aq (i:=0) Cg Aa Aa Aa) (wo c5 (Ca (rs:=[rS e.fKey]) (r:=rB (Cs e.fKey)) Mq Aa (NB e.fKey) Aa Aa (wo c5 (wv (BL Aa) (wo c4 (EA Aa c5 Aa (ET Aa c4 Aa (wm Aa (A7 (!(Cs e.fKey)) (λc6=>?_) (λc6=>?_)))))))))))))
      ·refine wf c6 (wf c6 (wf c6 (wf c6 (wu (wu (wu (wu (wf c6 (wv (r:=rB true) (Ao (b:=!(Cs e.fKey)) Aa c6 Aa) (Aj ?_))))))))));exact BO (And.intro c2 (And.intro c3 (And.intro c4 (And.intro c5 c6))))
      ·refine wo c6 (wv (Ad BI Aa BU Aa Aa) (wo c6 (wv (Aq (i:=0) Cg Aa Aa Aa) (wo c6 (wv (KF Aa Aa) (wo c6 (wm Aa (A7 (!decide (e.fCause=([]:Ak))) (λc7=>?_) (λc7=>?_)))))))))
       ·refine wo c7 (wv (Ad BI Aa BU Aa Aa) (wo c7 (wv (Aq (i:=0) Cg Aa Aa Aa) (wo c7 (Ca (rs:=[rS e.fCause]) (r:=rB (Cs e.fCause)) Mq Aa (NB e.fCause) Aa Aa (wo c7 (wv (BL Aa) (wo c6 (EA Aa c7 Aa (ET Aa c6 Aa (Aj ?_)))))))))));exact BO (And.intro c2 (And.intro c3 (And.intro c4 (And.intro c5 (And.intro c6 c7)))))
       ·refine wf c7 (wf c7 (wf c7 (wf c7 (wo c6 (wv (r:=rB false) (Ar (b:=!decide (e.fCause=([]:Ak))) Aa c7 Aa) (ET Aa c6 Aa (Aj ?_)))))));exact BO (And.intro c2 (And.intro c3 (And.intro c4 (And.intro c5 (And.intro c6 c7)))))
     ·refine wf c5 (wf c5 (wf c5 (wf c5 (wo c4 (wv (r:=rB false) (Ar (b:=!decide (e.fKey=([]:Ak))) Aa c5 Aa) (ET Aa c4 Aa (wm Aa (AQ (b:=false) Aa Aa Aa (wv (Ad BI Aa BU Aa Aa) (AQ (b:=false) Aa Aa Aa (wv (Aq (i:=0) Cg Aa Aa Aa) (AQ (b:=false) Aa Aa Aa (wv (KF Aa Aa) (AQ (b:=false) Aa Aa Aa (wm Aa (A7 (!decide (e.fCause=([]:Ak))) (λc8=>?_) (λc8=>?_)))))))))))))))))
      ·refine wo c8 (wv (Ad BI Aa BU Aa Aa) (wo c8 (wv (Aq (i:=0) Cg Aa Aa Aa) (wo c8 (Ca (rs:=[rS e.fCause]) (r:=rB (Cs e.fCause)) Mq Aa (NB e.fCause) Aa Aa (wo c8 (wv (BL Aa) (AQ (b:=false) Aa Aa Aa (EA Aa c8 Aa (wv (r:=rB (!(Cs e.fCause))) (Ar (b:=false) Aa Aa Aa) (Aj ?_)))))))))));exact BO (And.intro c2 (And.intro c3 (And.intro c4 (And.intro c5 c8))))
      ·refine wf c8 (wf c8 (wf c8 (wf c8 (AQ (b:=false) Aa Aa Aa (wv (r:=rB false) (Ar (b:=!decide (e.fCause=([]:Ak))) Aa c8 Aa) (wv (r:=rB false) (Ar (b:=false) Aa Aa Aa) (Aj ?_)))))));exact BO (And.intro c2 (And.intro c3 (And.intro c4 (And.intro c5 c8))))
 refine Au (b:=((!(Cs e.fID))||((!(Cs e.fTenant))||((!(Cs e.fSource))||(bif !decide (e.fKey=([]:Ak)) then((!(Cs e.fKey))||((!decide (e.fCause=([]:Ak)))&&(!(Cs e.fCause)))) else((!decide (e.fCause=([]:Ak)))&&(!(Cs e.fCause)))))))) Aa (λc9=>?_) (λc9=>?_)
 ·have hf:=AE c9 h;refine Al (wv (r:=rI .i64 4) (Ae Aa) (As (Ay (Af ?_))));obtain rfl:=A0 hf;exact Ax (BG Tryz.results10 (AM Aa)) (sS sN) ⟨Aa,Aa⟩
 ·have he:=AF c9 h;refine Aw (AP (Am (AB [(1,rv (.pointer (some ⟨b1,0,none⟩))),(48,rB ((decide (e.fAt<0))||(decide (1073741824<e.fAt))))] [.blk b1 (A9 e) 24] ?_ ?_)))
  ·refine Ai (wv (Ad BI Aa Cf Aa Aa) (wv (Aq (i:=0) CC Aa Aa Aa) (wv (C8 Aa Aa) (wm Aa (A7 (decide (e.fAt<0)) (λha=>?_) (λha=>?_))))))
   ·refine wf ha (wf ha (wf ha (wv (r:=rB true) (Ao (b:=decide (e.fAt<0)) Aa ha Aa) (Aj ?_))));exact BO ha
   ·refine wo ha (wv (Ad BI Aa Cf Aa Aa) (wo ha (wv (Aq (i:=0) CC Aa Aa Aa) (wo ha (wv (C1 Aa Aa) (ET Aa ha Aa (Aj ?_)))))));exact BO ha
  refine Au (b:=((decide (e.fAt<0))||(decide (1073741824<e.fAt)))) Aa (λhd=>?_) (λhd=>?_)
  ·have hg:=AE hd he;refine Al (wv (r:=rI .i64 2) (Ae Aa) (As (Ay (Af ?_))));obtain rfl:=A0 hg;exact Ax (BG Tryz.results10 (AM Aa)) (sS sN) ⟨Aa,Aa⟩
  ·have hh:=AF hd he;refine Aw (AP (Al (wv (Ad BI Aa Di Aa Aa) (wv (Aq (i:=0) Gb Aa Aa Aa) ?_))));obtain⟨hi,hj,hk⟩:=AH hh;refine C9 Tryz.call30 (K2 F e.fBody hi hj) Aa (wa Aa (As (Ay ?_)));obtain rfl:=A0 hk;exact Ax (BG Tryz.results10 (AM Aa)) (sS sN) ⟨Aa,Aa⟩
theorem Jr (F:Nat)(e:AA)(r:Ak×Int)(h:GV F e=some r):Fn Tryz.prog GE 6 [Bo (A9 e)] [] (λR H=>R=CV [rS r.1,rI .i64 r.2]∧H=[]):=by
 refine enter (n:=44) Tryz.func6 Aa Tryz.ntmps6 Aa (λw Z=>?_);refine AR (l':=[(0,Bo (A9 e))]) (H':=[]) Aa Aa ?_;unfold GV at h;refine Al (BP Aa Aa (λb1=>?_));refine wv (r:=rS ([]:Ak)) (Ae Aa) (wv (r:=rI .i64 0) (Ae Aa) (As (Am (Al (wv (AS (i:=0) CP Cb Aa Aa Aa Aa) ?_)))));obtain⟨r2,e4,h3⟩:=AH h;refine C9 Km (Dw F e r2 e4) Aa (wa Aa (Bv (wm Aa (wv (DB Aa Aa) (As (Au (b:=!decide (r2=0)) Aa (λc5=>?_) (λc5=>?_)))))))
 ·have h6:=AE c5 h3;refine Al (wm Aa (wv (r:=rS ([]:Ak)) (Ae Aa) (wa Aa (As (Ay (Af ?_))))));obtain rfl:=A0 h6;exact Ax (El Tryz.results6 (AM Aa) (AM Aa)) (sS sN) ⟨Aa,Aa⟩
 ·have h7:=AF c5 h3;refine Aw (AP (Al (wv (Ad BI Aa Di Aa Aa) (wv (Aq (i:=0) Gb Aa Aa Aa) ?_))));obtain⟨r8,he,h9⟩:=AH h7;refine C9 Tryz.call19 (OJ F e.fBody r8 he) Aa (wm Aa (wv (AD Aa Aa) (wv (AD Aa Aa) (wa Aa (wa Aa (As (Am (Al (wm Aa (wv (DB Aa Aa) (As (Au (b:=!decide (r8.2=0)) Aa (λha=>?_) (λha=>?_)))))))))))))
  ·have hf:=AE ha h9;refine Al (wm Aa (wv (r:=rS ([]:Ak)) (Ae Aa) (wa Aa (As (Ay (Af ?_))))));obtain rfl:=A0 hf;exact Ax (El Tryz.results6 (AM Aa) (AM Aa)) (sS sN) ⟨Aa,Aa⟩
  ·have hg:=AF ha h9;refine Aw (AP (Al ?_));obtain⟨inf,hinf⟩:=Or;refine S9 (enc:=eS) (zα:=([]:Ak)) (m:=7) Dc hinf.1 hinf.2.1 hinf.2.2.1 hinf.2.2.2 Aa Aa Aa (λ_=>Aa) Aa Aa (by decide) Aa (λhd=>?_);refine wa Aa (As (Am ?_));obtain⟨g15,hh⟩:=Az hg;refine GB (H1:=[.row hd 9 1 (List.map eS (List.replicate 7 ([]:Ak))),.blk b1 (A9 e) 24]) 16 [1,5,7] [⟨[],rv hd,0⟩,⟨[],rv (.pointer (some ⟨b1,0,none⟩)),0⟩,⟨[1],rS e.fID,1⟩,⟨[],rv (.pointer (some ⟨b1,1,none⟩)),0⟩,⟨[3],rS e.fTenant,1⟩,⟨[],rv (.pointer (some ⟨b1,2,none⟩)),0⟩,⟨[5],rS e.fSource,1⟩,⟨[],rv (.pointer (some ⟨b1,3,none⟩)),0⟩,⟨[7],rS e.fKey,1⟩,⟨[],rv (.pointer (some ⟨b1,4,none⟩)),0⟩,⟨[9],rI .i64 e.fAt,1⟩,⟨[10],rS (Lib.itoa e.fAt),0⟩,⟨[],rv (.pointer (some ⟨b1,5,none⟩)),0⟩,⟨[12],rS e.fCause,1⟩,⟨[],rS r8.1,0⟩,⟨[2,4,6,8,11,13,14],Bl 1 (List.map eS ([e.fID,e.fTenant,e.fSource,e.fKey,Lib.itoa e.fAt,e.fCause,r8.1]:List Ak)),0⟩] (rle [(17,_)]) [23,24,25,26,27,28,29,30,31,32,33,34,35,36,37,38,1,5,7] ?_ ?_
   ·refine oq (Ah Aa) (oq (Ad BI Aa BU Aa Aa) (of (Aq (i:=1) Cg Aa Aa Aa) (oq (Ad BI Aa BU Aa Aa) (of (Aq (i:=1) Cg Aa Aa Aa) (oq (Ad BI Aa BU Aa Aa) (of (Aq (i:=1) Cg Aa Aa Aa) (oq (Ad BI Aa BU Aa Aa) (of (Aq (i:=1) Cg Aa Aa Aa) (oq (Ad BI Aa Cf Aa Aa) (of (Aq (i:=1) CC Aa Aa Aa) (Ct Aa (λH=>Hx (rs:=[rI .i64 e.fAt]) (r:=rS (Lib.itoa e.fAt)) Tryz.call20 Aa (KM e.fAt g15) Aa) ?_)))))))))));refine oq (Ad BI Aa BU Aa Aa) (of (Aq (i:=1) Cg Aa Aa Aa) (oq (Ah Aa) (Ct Aa (λH=>DA (ys:=([e.fID,e.fTenant,e.fSource,e.fKey,Lib.itoa e.fAt,e.fCause,r8.1]:List Ak)) (enc:=eS) (css:=[[rS e.fID],[rS e.fTenant],[rS e.fSource],[rS e.fKey],[rS (Lib.itoa e.fAt)],[rS e.fCause],[rS r8.1]]) (xs:=[.tmp 25,.tmp 27,.tmp 29,.tmp 31,.tmp 34,.tmp 36,.tmp 37]) Dc BU Tl Aa Aa Aa ⟨Gk.one Aa (Up.refl _),Gk.one Aa (Up.refl _),Gk.one Aa (Up.refl _),Gk.one Aa (Up.refl _),Gk.one Aa (Up.refl _),Gk.one Aa (Up.refl _),Gk.one Aa (Up.refl _),trivial⟩ Aa GU Aa Aa) ?_)));exact BS
   refine SA (xs:=List.replicate 7 ([]:Ak)) (ys:=([e.fID,e.fTenant,e.fSource,e.fKey,Lib.itoa e.fAt,e.fCause,r8.1]:List Ak)) (enc:=eS) (i:=0) Dc (by obtain⟨inf,hinf⟩:=Or;simp[hinf.1,hinf.2.2.1]) rfl rfl (Jw.z rfl rfl) GU NH rfl (S6 (H':=[.row hd 9 1 (List.map eS (Nb (List.replicate 7 ([]:Ak)) ([e.fID,e.fTenant,e.fSource,e.fKey,Lib.itoa e.fAt,e.fCause,r8.1]:List Ak))),.blk b1 (A9 e) 24]) rfl (Bv (wm rfl (WL.freeze (i:=0) rfl (WL.up (d:=40) (r:=Bl 1 (List.map eS (Nb (List.replicate 7 ([]:Ak)) ([e.fID,e.fTenant,e.fSource,e.fKey,Lib.itoa e.fAt,e.fCause,r8.1]:List Ak)))) rfl (Up.fact (i:=0) rfl) ?_)))));obtain⟨hi,hj,hk⟩:=AH hh;refine C9 Tryz.call21 (RZ F (Nb (List.replicate 7 ([]:Ak)) ([e.fID,e.fTenant,e.fSource,e.fKey,Lib.itoa e.fAt,e.fCause,r8.1]:List Ak)) hi hj) Aa (wv (AD Aa Aa) (wv (AD Aa Aa) (wa Aa (wa Aa (As (Ay ?_))))));obtain rfl:=A0 hk;exact Ax (El Tryz.results6 (AM Aa) (AM Aa)) (sS (sS sN)) ⟨Aa,Aa⟩
theorem P0 (F:Nat)(s:Ak)(r:AA×Int)(h:Mc F s=some r):Fn Tryz.prog GE 14 [rS s] [] (λR H=>R=CV [Bo (A9 r.1),rI .i64 r.2]∧H=[]):=by
 refine enter (n:=70) Tryz.func14 Aa Tryz.ntmps14 Aa (λw Z=>?_);refine AR (l':=[(0,rS s)]) (H':=[]) Aa Aa ?_;unfold Mc at h;refine Al (Ci (cs:=[rS ([]:Ak),rS ([]:Ak),rS ([]:Ak),rS ([]:Ak),rI .i64 0,rS ([]:Ak),rv (.slice none 0 0)]) Mn Aa Aa (λb1=>?_));refine wv (r:=rI .i64 0) (Ae Aa) (Bv (wm Aa ?_));obtain⟨r2,e4,h3⟩:=AH h;refine C9 Tryz.call34 (Pv F s r2 e4) Aa (wm Aa (wv (AD Aa Aa) (wv (AD Aa Aa) (wa Aa (wa Aa (As (Am (Al (wm Aa (wv (DB Aa Aa) (As (Au (b:=!decide (r2.2=0)) Aa (λc5=>?_) (λc5=>?_)))))))))))))
 ·have h6:=AE c5 h3;refine Al (wv (r:=Bo [rS ([]:Ak),rS ([]:Ak),rS ([]:Ak),rS ([]:Ak),rI .i64 0,rS ([]:Ak),rv (.slice none 0 0)]) (Ds ) (wm Aa (Bg (i:=0) Cb Aa Aa Aa (BE.c Aa) Aa Aa (cs':=[rS ([]:Ak),rS ([]:Ak),rS ([]:Ak),rS ([]:Ak),rI .i64 0,rS ([]:Ak),rv (.slice none 0 0)]) Aa (H':=[.blk b1 [rS ([]:Ak),rS ([]:Ak),rS ([]:Ak),rS ([]:Ak),rI .i64 0,rS ([]:Ak),rv (.slice none 0 0)] 24]) Aa (wa Aa (As (Ay (Af (WK.upBlk (i:=0) (cs':=[rS ([]:Ak),rS ([]:Ak),rS ([]:Ak),rS ([]:Ak),rI .i64 0,rS ([]:Ak),Bl 4 (List.map Ab ([]:List Ac))]) Aa ⟨Up.refl _,Up.refl _,Up.refl _,Up.refl _,Up.refl _,Up.refl _,Up.le (Hi.nil _),trivial⟩ ?_))))))));obtain rfl:=A0 h6;exact Ax (El OB (Ev (i:=0) CP Cb Aa Aa Aa) (AM Aa)) (sS sN) ⟨Aa,Aa⟩
 ·have h7:=AF c5 h3;refine Aw (AP (Am (Al (wm Aa (wv (BB (ys:=r2.1) (enc:=eS) Dc Aa) (wv (DB Aa Aa) (As (Au (b:=!decide ((r2.1.length:Int)=7)) Aa (λc8=>?_) (λc8=>?_)))))))))
  ·have h9:=AE c8 h7;refine Al (wv (r:=Bo [rS ([]:Ak),rS ([]:Ak),rS ([]:Ak),rS ([]:Ak),rI .i64 0,rS ([]:Ak),rv (.slice none 0 0)]) (Ds ) (Bg (i:=0) Cb Aa Aa Aa (BE.c Aa) Aa Aa (cs':=[rS ([]:Ak),rS ([]:Ak),rS ([]:Ak),rS ([]:Ak),rI .i64 0,rS ([]:Ak),rv (.slice none 0 0)]) Aa (H':=[.blk b1 [rS ([]:Ak),rS ([]:Ak),rS ([]:Ak),rS ([]:Ak),rI .i64 0,rS ([]:Ak),rv (.slice none 0 0)] 24]) Aa (wv (r:=rI .i64 13) (Ae Aa) (As (Ay (Af (WK.upBlk (i:=0) (cs':=[rS ([]:Ak),rS ([]:Ak),rS ([]:Ak),rS ([]:Ak),rI .i64 0,rS ([]:Ak),Bl 4 (List.map Ab ([]:List Ac))]) Aa ⟨Up.refl _,Up.refl _,Up.refl _,Up.refl _,Up.refl _,Up.refl _,Up.le (Hi.nil _),trivial⟩ ?_)))))));obtain rfl:=A0 h9;exact Ax (El OB (Ev (i:=0) CP Cb Aa Aa Aa) (AM Aa)) (sS sN) ⟨Aa,Aa⟩
  ·have hl:=AF c8 h7;refine Aw (AP (Al (wm Aa ?_)));obtain⟨hm,hn⟩:=Az hl;refine wv (BH (enc:=eS) (ys:=r2.1) Dc BU Aa Aa hm) (wv (B7 Cg Aa Aa) ?_);obtain⟨ho,hh⟩:=Az hn;refine Ca (rs:=[rS (At r2.1 4)]) (r:=CV [rI .i64 (Bs (At r2.1 4)),rI .i64 (BK (At r2.1 4))]) Tryz.call35 Aa (Oe (At r2.1 4) ho) Aa Aa (wm Aa (wv (AD Aa Aa) (wv (AD Aa Aa) (wa Aa (wa Aa (As (Am (Al (wm Aa (wv (DB Aa Aa) (As (Au (b:=!decide ((BK (At r2.1 4))=0)) Aa (λhd=>?_) (λhd=>?_)))))))))))))
   ·have hp:=AE hd hh;refine Al (wv (r:=Bo [rS ([]:Ak),rS ([]:Ak),rS ([]:Ak),rS ([]:Ak),rI .i64 0,rS ([]:Ak),rv (.slice none 0 0)]) (Ds ) (wm Aa (Bg (i:=0) Cb Aa Aa Aa (BE.c Aa) Aa Aa (cs':=[rS ([]:Ak),rS ([]:Ak),rS ([]:Ak),rS ([]:Ak),rI .i64 0,rS ([]:Ak),rv (.slice none 0 0)]) Aa (H':=[.blk b1 [rS ([]:Ak),rS ([]:Ak),rS ([]:Ak),rS ([]:Ak),rI .i64 0,rS ([]:Ak),rv (.slice none 0 0)] 24]) Aa (wa Aa (As (Ay (Af (WK.upBlk (i:=0) (cs':=[rS ([]:Ak),rS ([]:Ak),rS ([]:Ak),rS ([]:Ak),rI .i64 0,rS ([]:Ak),Bl 4 (List.map Ab ([]:List Ac))]) Aa ⟨Up.refl _,Up.refl _,Up.refl _,Up.refl _,Up.refl _,Up.refl _,Up.le (Hi.nil _),trivial⟩ ?_))))))));obtain rfl:=A0 hp;exact Ax (El OB (Ev (i:=0) CP Cb Aa Aa Aa) (AM Aa)) (sS sN) ⟨Aa,Aa⟩
   ·have hq:=AF hd hh;refine Aw (AP (Al (wm Aa ?_)));obtain⟨g18,hr⟩:=Az hq;refine wv (BH (enc:=eS) (ys:=r2.1) Dc BU Aa Aa g18) (wv (B7 Cg Aa Aa) ?_);obtain⟨ha,hs,hi⟩:=AH hr;refine C9 Tryz.call36 (OK F (At r2.1 6) ha hs) Aa (wm Aa (wv (AD Aa Aa) (wv (AD Aa Aa) (wa Aa (wa Aa (As (Am (Al (wm Aa (wv (DB Aa Aa) (As (Au (b:=!decide (ha.2=0)) Aa (λhe=>?_) (λhe=>?_)))))))))))))
    ·have ht:=AE he hi;refine Al (wv (r:=Bo [rS ([]:Ak),rS ([]:Ak),rS ([]:Ak),rS ([]:Ak),rI .i64 0,rS ([]:Ak),rv (.slice none 0 0)]) (Ds ) (wm Aa (Bg (i:=0) Cb Aa Aa Aa (BE.c Aa) Aa Aa (cs':=[rS ([]:Ak),rS ([]:Ak),rS ([]:Ak),rS ([]:Ak),rI .i64 0,rS ([]:Ak),rv (.slice none 0 0)]) Aa (H':=[.blk b1 [rS ([]:Ak),rS ([]:Ak),rS ([]:Ak),rS ([]:Ak),rI .i64 0,rS ([]:Ak),rv (.slice none 0 0)] 24]) Aa (wa Aa (As (Ay (Af (WK.upBlk (i:=0) (cs':=[rS ([]:Ak),rS ([]:Ak),rS ([]:Ak),rS ([]:Ak),rI .i64 0,rS ([]:Ak),Bl 4 (List.map Ab ([]:List Ac))]) Aa ⟨Up.refl _,Up.refl _,Up.refl _,Up.refl _,Up.refl _,Up.refl _,Up.le (Hi.nil _),trivial⟩ ?_))))))));obtain rfl:=A0 ht;exact Ax (El OB (Ev (i:=0) CP Cb Aa Aa Aa) (AM Aa)) (sS sN) ⟨Aa,Aa⟩
    ·have hu:=AF he hi;refine Aw (AP (Am ?_));obtain⟨hw,hx⟩:=Az hu;obtain⟨hy,hz⟩:=Az hx;obtain⟨h0,h8⟩:=Az hz;obtain⟨hA,hB⟩:=Az h8;obtain⟨hC,hD⟩:=Az hB;refine It 19 [2,4,6,7] [⟨[],Bl 1 (List.map eS r2.1),none,none,none⟩,⟨[0],Nl [rS (At r2.1 0)],none,none,none⟩,⟨[1],rS (At r2.1 0),none,none,none⟩,⟨[],Bl 1 (List.map eS r2.1),none,none,none⟩,⟨[3],Nl [rS (At r2.1 1)],none,none,none⟩,⟨[4],rS (At r2.1 1),none,none,none⟩,⟨[],Bl 1 (List.map eS r2.1),none,none,none⟩,⟨[6],Nl [rS (At r2.1 2)],none,none,none⟩,⟨[7],rS (At r2.1 2),none,none,none⟩,⟨[],Bl 1 (List.map eS r2.1),none,none,none⟩,⟨[9],Nl [rS (At r2.1 3)],none,none,none⟩,⟨[10],rS (At r2.1 3),none,none,none⟩,⟨[],rI .i64 (Bs (At r2.1 4)),none,none,none⟩,⟨[],Bl 1 (List.map eS r2.1),none,none,none⟩,⟨[13],Nl [rS (At r2.1 5)],none,none,none⟩,⟨[14],rS (At r2.1 5),none,none,none⟩,⟨[],Bl 4 (List.map Ab ha.1),none,none,none⟩,⟨[2,5,8,11,12,15,16],Bo [rS (At r2.1 0),rS (At r2.1 1),rS (At r2.1 2),rS (At r2.1 3),rI .i64 (Bs (At r2.1 4)),rS (At r2.1 5),Bl 4 (List.map Ab ha.1)],none,none,none⟩,⟨[],rv undef,some ([rS ([]:Ak),rS ([]:Ak),rS ([]:Ak),rS ([]:Ak),rI .i64 0,rS ([]:Ak),rv (.slice none 0 0)],24),none,none⟩] ?_ (λβ=>?_)
     ·refine Ea (Ah Aa) (Ea (BH (enc:=eS) (ys:=r2.1) Dc BU Aa Aa hw) (Ea (B7 Cg Aa Aa) (Ea (Ah Aa) (Ea (BH (enc:=eS) (ys:=r2.1) Dc BU Aa Aa hy) (Ea (B7 Cg Aa Aa) (Ea (Ah Aa) (Ea (BH (enc:=eS) (ys:=r2.1) Dc BU Aa Aa h0) (Ea (B7 Cg Aa Aa) (Ea (Ah Aa) (Ea (BH (enc:=eS) (ys:=r2.1) Dc BU Aa Aa hA) (Ea (B7 Cg Aa Aa) (Ea (Ah Aa) (Ea (Ah Aa) (Ea (BH (enc:=eS) (ys:=r2.1) Dc BU Aa Aa hC) (Ea (B7 Cg Aa Aa) (Ea (Ah Aa) (Ea (DO Aa Aa Aa Aa Aa Aa Aa Aa Aa Aa Aa Aa Aa Aa) (Ue (Sy (cs:=[rS ([]:Ak),rS ([]:Ak),rS ([]:Ak),rS ([]:Ak),rI .i64 0,rS ([]:Ak),rv (.slice none 0 0)]) Mn Aa) ?_))))))))))))))))));exact Tw
     refine IZ (H1:=[.blk b1 [rS ([]:Ak),rS ([]:Ak),rS ([]:Ak),rS ([]:Ak),rI .i64 0,rS ([]:Ak),rv (.slice none 0 0)] 24,.blk (β 18) [rS ([]:Ak),rS ([]:Ak),rS ([]:Ak),rS ([]:Ak),rI .i64 0,rS ([]:Ak),rv (.slice none 0 0)] 24]) [45,46,47,48,49,50,51,52,53,54,55,56,57,58,59,60,61,62,8,2,4,6,7] ?_;generalize β 18=hf;refine Bg (i:=1) Cb Aa Aa Aa (BE.c Aa) Aa Aa (cs':=[rS (At r2.1 0),rS (At r2.1 1),rS (At r2.1 2),rS (At r2.1 3),rI .i64 (Bs (At r2.1 4)),rS (At r2.1 5),Bl 4 (List.map Ab ha.1)]) Aa (H':=[.blk b1 [rS ([]:Ak),rS ([]:Ak),rS ([]:Ak),rS ([]:Ak),rI .i64 0,rS ([]:Ak),rv (.slice none 0 0)] 24,.blk hf [rS (At r2.1 0),rS (At r2.1 1),rS (At r2.1 2),rS (At r2.1 3),rI .i64 (Bs (At r2.1 4)),rS (At r2.1 5),Bl 4 (List.map Ab ha.1)] 24]) Aa (As (Am (Al (wv (AS (i:=1) CP Cb Aa Aa Aa Aa) ?_))));obtain⟨hj,hE,hk⟩:=AH hD;refine C9 Km (Dw F (AA.mk (At r2.1 0) (At r2.1 1) (At r2.1 2) (At r2.1 3) (Bs (At r2.1 4)) (At r2.1 5) ha.1) hj hE) Aa (wa Aa (Bv (wm Aa (wv (DB Aa Aa) (As (Au (b:=!decide (hj=0)) Aa (λhg=>?_) (λhg=>?_)))))))
     ·have hG:=AE hg hk;refine Al (wv (r:=Bo [rS ([]:Ak),rS ([]:Ak),rS ([]:Ak),rS ([]:Ak),rI .i64 0,rS ([]:Ak),rv (.slice none 0 0)]) (Ds ) (wm Aa (Bg (i:=0) Cb Aa Aa Aa (BE.c Aa) Aa Aa (cs':=[rS ([]:Ak),rS ([]:Ak),rS ([]:Ak),rS ([]:Ak),rI .i64 0,rS ([]:Ak),rv (.slice none 0 0)]) Aa (H':=[.blk b1 [rS ([]:Ak),rS ([]:Ak),rS ([]:Ak),rS ([]:Ak),rI .i64 0,rS ([]:Ak),rv (.slice none 0 0)] 24,.blk hf [rS (At r2.1 0),rS (At r2.1 1),rS (At r2.1 2),rS (At r2.1 3),rI .i64 (Bs (At r2.1 4)),rS (At r2.1 5),Bl 4 (List.map Ab ha.1)] 24]) Aa (wa Aa (As (Ay (Af (WK.upBlk (i:=0) (cs':=[rS ([]:Ak),rS ([]:Ak),rS ([]:Ak),rS ([]:Ak),rI .i64 0,rS ([]:Ak),Bl 4 (List.map Ab ([]:List Ac))]) Aa ⟨Up.refl _,Up.refl _,Up.refl _,Up.refl _,Up.refl _,Up.refl _,Up.le (Hi.nil _),trivial⟩ ?_))))))));obtain rfl:=A0 hG;exact Ax (El OB (Ev (i:=0) CP Cb Aa Aa Aa) (AM Aa)) (sS (sS sN)) ⟨Aa,Aa⟩
     ·have hH:=AF hg hk;refine Aw (AP (Al (wv (AS (i:=1) CP Cb Aa Aa Aa Aa) (Bg (i:=0) Cb Aa Aa Aa (BE.c Aa) Aa Aa (cs':=[rS (At r2.1 0),rS (At r2.1 1),rS (At r2.1 2),rS (At r2.1 3),rI .i64 (Bs (At r2.1 4)),rS (At r2.1 5),Bl 4 (List.map Ab ha.1)]) Aa (H':=[.blk b1 [rS (At r2.1 0),rS (At r2.1 1),rS (At r2.1 2),rS (At r2.1 3),rI .i64 (Bs (At r2.1 4)),rS (At r2.1 5),Bl 4 (List.map Ab ha.1)] 24,.blk hf [rS (At r2.1 0),rS (At r2.1 1),rS (At r2.1 2),rS (At r2.1 3),rI .i64 (Bs (At r2.1 4)),rS (At r2.1 5),Bl 4 (List.map Ab ha.1)] 24]) Aa (wv (r:=rI .i64 0) (Ae Aa) (As (Ay ?_)))))));obtain rfl:=A0 hH;exact Ax (El OB (Ev (i:=0) CP Cb Aa Aa Aa) (AM Aa)) (sS (sS sN)) ⟨Aa,Aa⟩
theorem SR (F:Nat)(s:Ak)(r:Int)(h:Po F s=some r):Fn Tryz.prog GE 26 [rS s] [] (λR H=>R=rI .u64 r∧H=[]):=by
 refine enter (n:=20) Tryz.func26 Aa Tryz.ntmps26 Aa (λw Z=>?_);refine AR (l':=[(0,rS s)]) (H':=[]) Aa Aa ?_;unfold Po at h;refine Al (wv (r:=rI .u64 0) (Ae Aa) (Bv (wv (r:=rI .u64 14695981039346656037) (Ae Aa) (As (Am (Al (wm Aa (wv (AZ Ce Aa) (wv (r:=rI .i64 0) (Ah Aa) (As (AJ ?_)))))))))));obtain⟨hj,hk,hl⟩:=AH h;refine B2 (S:=Nat×(Int×Int)×(Unit)) (V:=(Int)×(Unit)) 0 (λσ=>Cn (λσ=>E1 s σ.1 σ.2) σ.1 σ.2.1=some hj) (λσ=>[(0,rS s),(2,rI .u64 0),(3,rI .u64 σ.2.1.1),(6,rI .i64 (s.length:Int)),(7,rI .i64 σ.2.1.2)]) (λσ=>[]) (λσ=>σ.1) (F,(14695981039346656037,0),()) hk (AK.c5 Aa Aa Aa Aa Aa AK.nil) sN (λσ=>Kd σ.1=some r) (λσ=>[(2,rI .u64 0),(3,rI .u64 σ.1)]) (λσ=>[]) ?_ ?_
 ·rintro⟨hy,⟨hd,ha⟩,⟨⟩⟩ hm;refine AR (l':=[(0,rS s),(2,rI .u64 0),(3,rI .u64 hd),(6,rI .i64 (s.length:Int)),(7,rI .i64 ha)]) (H':=[]) Aa Aa ?_;obtain⟨hn,rfl,ho,he,hh⟩:=CM hm;replace he:E1 s hd ha=some ho:=he;unfold E1 at he;refine Al (wv (C8 Aa Aa) (As (Am (Au (b:=decide (ha<(s.length:Int))) Aa (λhg=>?_) (λhg=>?_)))))
  ·have hp:=AE hg he;refine Aw (AP (Am (AJ (Al (wm Aa (wa Aa (Bv (wm Aa (wm Aa (wm Aa ?_))))))))));obtain⟨hq,hr⟩:=Az hp;refine wv (Bb Ce Aa Aa hq) (wv (r:=rI .u64 (IntKind.wrap .u64 (AY s ha))) (CE ⟨_,No⟩ S5 Aa) (wv (r:=rI .u64 (Lm .u64 hd (IntKind.wrap .u64 (AY s ha)))) (So Aa Aa) (wa Aa (As (Ai (wm Aa (wv (r:=rI .u64 (IntKind.wrap .u64 ((Lm .u64 hd (IntKind.wrap .u64 (AY s ha)))*1099511628211))) (Qy Aa Aa) (wa Aa (Aj (AG (AP (Ai ?_))))))))))));obtain⟨hs,ht⟩:=Az hr;refine wv (Bu Aa Aa hs) (wm Aa (Aj ?_));have hu:=Bk ht hh;exact Ap (AI (hn,(IntKind.wrap .u64 ((Lm .u64 hd (IntKind.wrap .u64 (AY s ha)))*1099511628211),ha+1),()) ⟨hu,U0 _⟩ (AK.c5 Aa Aa Aa Aa Aa AK.nil) sN)
  ·have hw:=AF hg he;refine B4 (A4 ?_);have hx:=Cv hw hh hl;exact A4 (Bt (AI (hd,()) hx (AK.c Aa (AK.c Aa AK.nil)) sN))
 ·rintro⟨hi,⟨⟩⟩ hf;refine Dd (l':=[(2,rI .u64 0),(3,rI .u64 hi)]) (H':=[]) Aa Aa ?_;replace hf:Kd hi=some r:=hf;unfold Kd at hf;refine Bi (AP (Al (wm Aa (wa Aa (As (Ay ?_))))));obtain rfl:=A0 hf;exact Ax (BG Tryz.results26 (AM Aa)) sN ⟨Aa,Aa⟩
theorem RN (x:Int)(r:Bool)(h:QD x=some r):Fn Tryz.prog GE 115 [rI .i64 x] [] (λR H=>R=rB r∧H=[]):=by
 refine enter (n:=8) Tryz.func115 Aa Tryz.ntmps115 Aa (λw Z=>?_);refine AR (l':=[(0,rI .i64 x)]) (H':=[]) Aa Aa ?_;unfold QD at h;refine Al (wv (r:=rB false) (Ae Aa) (Bv (wm Aa (wm Aa ?_))));obtain⟨g1,h2⟩:=Az h;refine wv (EV Aa Aa g1) (wv (r:=rI .i64 (Ej .i64 x (x-1))) (Ok Aa Aa) (wv (Bh Aa Aa) (wa Aa (As (Ay ?_)))));obtain rfl:=A0 h2;exact Ax (BG Tryz.results115 (AM Aa)) sN ⟨Aa,Aa⟩
theorem Pu (F:Nat)(u:Int)(r:(List Int)×Ak)(h:IN F u=some r):Fn Tryz.prog GE 97 [rv (.slice none 0 0),rI .u64 u,rI .i64 16,rB false,rB false] [] (λR H=>R=CV [Bl 1 (List.map AU r.1),rS r.2]∧H=[]):=by
 refine enter (n:=102) Tryz.func97 Aa Tryz.ntmps97 Aa (λw Z=>?_);refine AR (l':=[(0,rv (.slice none 0 0)),(1,rI .u64 u),(2,rI .i64 16),(3,rB false),(4,rB false)]) (H':=[]) Aa Aa ?_;unfold IN at h;refine Al (wv (r:=rv (.slice none 0 0)) (Ae Aa) (wv (r:=rS ([]:Ak)) (Ae Aa) (As (Am (AB [(0,rv (.slice none 0 0)),(1,rI .u64 u),(2,rI .i64 16),(3,rB false),(4,rB false),(10,rv (.slice none 0 0)),(11,rS ([]:Ak)),(28,rB (decide (36<16)))] [] ?_ ?_)))))
 ·refine Ai (wm Aa (wv (C8 Aa Aa) (wm Aa (AQ (b:=decide (16<2)) Aa Aa (by decide) (wm Aa (AQ (b:=decide (16<2)) Aa Aa (by decide) (wv (Bh Aa Aa) (wv (r:=rB (decide (16=10))) (Ar (b:=decide (16<2)) Aa (by decide) Aa) (wm Aa (AQ (b:=decide (16=10)) Aa Aa (by decide) (wm Aa (AQ (b:=decide (16=10)) Aa Aa (by decide) (wv (C1 Aa Aa) (wv (r:=rB (decide (36<16))) (Ar (b:=decide (16=10)) Aa (by decide) Aa) (Aj ?_)))))))))))))));exact wt
 refine Db Aa (by decide) (Aw (AP (Al (Ci (cs:=List.map (rI .u8) (List.replicate 65 (0:Int))) Tryz.zeroValue136 (by kernel_rfl) Aa (λb1=>?_)))));refine Bv (wv (r:=rI .i64 65) (Ae Aa) (As (Am (Al (wm Aa (As (Db Aa Aa (Aw (AP (Am (Al (wm Aa ?_))))))))))));obtain⟨r2,e4,h3⟩:=AH h;refine C9 Tryz.call115 (RN 16 r2 e4) Aa (As ?_);obtain⟨g5,h6⟩:=Az h3;refine Ed (b:=r2) Aa g5 (Al (wm Aa (wv (DK ⟨_,Nk⟩ S4 Aa (by decide)) ?_)));obtain⟨g7,h8⟩:=Az h6;refine Ca (rs:=[rI .u64 16]) (r:=rI .i64 ((Lib.ctz 64 (Int.toNat 16):Nat):Int)) Tryz.call116 Aa (TN 16 g7) Aa Aa (wv (r:=rI .u64 (IntKind.wrap .u64 ((Lib.ctz 64 (Int.toNat 16):Nat):Int))) (CE ⟨_,Nk⟩ S4 Aa) (wa Aa (Bv (wm Aa (wv (DK ⟨_,Nk⟩ S5 Aa (by decide)) (wa Aa (Bv (wm Aa (wv (DK ⟨_,Nk⟩ S4 Aa (by decide)) (wv (EV Aa Aa (by decide)) (wa Aa (As (Am (AJ ?_))))))))))))));obtain⟨hm,hn,ho⟩:=AH h8;refine B2 (S:=Nat×(Int×Int×(List Int))×(Unit)) (V:=(Int×Int×(List Int))×(Unit)) 0 (λσ=>Cn (λσ=>Cr σ.1 σ.2.1 σ.2.2) σ.1 σ.2.1=some hm) (λσ=>[(0,rv (.slice none 0 0)),(1,rI .u64 σ.2.1.1),(3,rB false),(4,rB false),(10,rv (.slice none 0 0)),(11,rS ([]:Ak)),(12,rv (.pointer (some ⟨b1,0,none⟩))),(13,rI .i64 σ.2.1.2.1),(14,rI .u64 (IntKind.wrap .u64 ((Lib.ctz 64 (Int.toNat 16):Nat):Int))),(15,rI .u64 16),(16,rI .u64 15)]) (λσ=>[.blk b1 (List.map (rI .u8) σ.2.1.2.2) 136]) (λσ=>σ.1) (F,(u,65,List.replicate 65 (0:Int)),()) hn (AK.c Aa (AK.c5 Aa Aa Aa Aa Aa (AK.c5 Aa Aa Aa Aa Aa AK.nil))) (sC sN) (λσ=>EK σ.1.1 σ.1.2.1 σ.1.2.2=some r) (λσ=>[(0,rv (.slice none 0 0)),(1,rI .u64 σ.1.1),(3,rB false),(4,rB false),(10,rv (.slice none 0 0)),(11,rS ([]:Ak)),(12,rv (.pointer (some ⟨b1,0,none⟩))),(13,rI .i64 σ.1.2.1)]) (λσ=>[.blk b1 (List.map (rI .u8) σ.1.2.2) 136]) ?_ ?_
 ·rintro⟨hS,⟨ha,he,hf⟩,⟨⟩⟩ hp;refine AR (l':=[(0,rv (.slice none 0 0)),(1,rI .u64 ha),(3,rB false),(4,rB false),(10,rv (.slice none 0 0)),(11,rS ([]:Ak)),(12,rv (.pointer (some ⟨b1,0,none⟩))),(13,rI .i64 he),(14,rI .u64 (IntKind.wrap .u64 ((Lib.ctz 64 (Int.toNat 16):Nat):Int))),(15,rI .u64 16),(16,rI .u64 15)]) (H':=[.blk b1 (List.map (rI .u8) hf) 136]) Aa Aa ?_;obtain⟨hq,rfl,hr,hi,hl⟩:=CM hp;replace hi:Cr ha he hf=some hr:=hi;unfold Cr at hi;refine Am (Al (wm Aa (wm Aa (wv (ER Aa Aa) (As (Au (b:=decide (16≤ha)) Aa (λhk=>?_) (λhk=>?_)))))))
  ·have hs:=AE hk hi;refine Aw (AP (AJ (Al (wm Aa ?_))));obtain⟨ht,hu⟩:=Az hs;refine wv (EV Aa Aa ht) (wa Aa (Bv (wm Aa (wm Aa (wm Aa (wv (r:=rI .u64 (Ej .u64 ha 15)) (Ok Aa Aa) ?_))))));obtain⟨hw,hx⟩:=Az hu;refine wv (Bb Ce Aa Aa hw) ?_;obtain⟨hy,hz⟩:=Az hx;refine wv (r:=rv (.pointer (some ⟨b1,Int.toNat (he-1),none⟩))) (Qz PH PC Aa Aa hy) ?_;obtain⟨h0,h7⟩:=Az hz;refine Lu (enc:=(rI .u8)) (ys:=hf) (v:=AY ([48,49,50,51,52,53,54,55,56,57,97,98,99,100,101,102,103,104,105,106,107,108,109,110,111,112,113,114,115,116,117,118,119,120,121,122]:Ak) (Ej .u64 ha 15)) (i:=0) PC Aa Aa (BV Aa) Aa h0 (H':=[.blk b1 (List.map (rI .u8) (List.set hf (Int.toNat (he-1)) (AY ([48,49,50,51,52,53,54,55,56,57,97,98,99,100,101,102,103,104,105,106,107,108,109,110,111,112,113,114,115,116,117,118,119,120,121,122]:Ak) (Ej .u64 ha 15)))) 136]) Aa (As (Ai (wm Aa (wm Aa ?_))));obtain⟨h9,hA⟩:=Az h7;refine wv (r:=rI .u64 (ES .u64 ha (IntKind.wrap .u64 ((Lib.ctz 64 (Int.toNat 16):Nat):Int)))) (Qu Aa Aa h9) (wa Aa (Aj (AG ?_)));have hB:=Bk hA hl;exact Ap (AI (hq,(ES .u64 ha (IntKind.wrap .u64 ((Lib.ctz 64 (Int.toNat 16):Nat):Int)),he-1,List.set hf (Int.toNat (he-1)) (AY ([48,49,50,51,52,53,54,55,56,57,97,98,99,100,101,102,103,104,105,106,107,108,109,110,111,112,113,114,115,116,117,118,119,120,121,122]:Ak) (Ej .u64 ha 15))),()) ⟨hB,U0 _⟩ (AK.c Aa (AK.c5 Aa Aa Aa Aa Aa (AK.c5 Aa Aa Aa Aa Aa AK.nil))) (sC sN))
  ·have hC:=AF hk hi;refine B4 (A4 ?_);have hD:=Cv hC hl ho;exact A4 (Bt (AI ((ha,he,hf),()) hD (AK.c Aa (AK.c Aa (AK.c Aa (AK.c5 Aa Aa Aa Aa Aa AK.nil)))) (sC sN)))
 ·rintro⟨⟨hg,hd,hh⟩,⟨⟩⟩ hj;refine Dd (l':=[(0,rv (.slice none 0 0)),(1,rI .u64 hg),(3,rB false),(4,rB false),(10,rv (.slice none 0 0)),(11,rS ([]:Ak)),(12,rv (.pointer (some ⟨b1,0,none⟩))),(13,rI .i64 hd)]) (H':=[.blk b1 (List.map (rI .u8) hh) 136]) Aa Aa ?_;replace hj:EK hg hd hh=some r:=hj;unfold EK at hj;refine Bi (AP (Al (wm Aa ?_)));obtain⟨hE,hG⟩:=Az hj;refine wv (EV Aa Aa hE) (wa Aa (As (Ai (wm Aa (wm Aa ?_)))));obtain⟨hH,hI⟩:=Az hG;refine wv (Bb Ce Aa Aa hH) ?_;obtain⟨hJ,hK⟩:=Az hI;refine wv (r:=rv (.pointer (some ⟨b1,Int.toNat (hd-1),none⟩))) (Qz PH PC Aa Aa hJ) ?_;obtain⟨hL,hN⟩:=Az hK;refine Lu (enc:=(rI .u8)) (ys:=hh) (v:=AY ([48,49,50,51,52,53,54,55,56,57,97,98,99,100,101,102,103,104,105,106,107,108,109,110,111,112,113,114,115,116,117,118,119,120,121,122]:Ak) hg) (i:=0) PC Aa Aa (BV Aa) Aa hL (H':=[.blk b1 (List.map (rI .u8) (List.set hh (Int.toNat (hd-1)) (AY ([48,49,50,51,52,53,54,55,56,57,97,98,99,100,101,102,103,104,105,106,107,108,109,110,111,112,113,114,115,116,117,118,119,120,121,122]:Ak) hg))) 136]) Aa (As (Am (Al (wm Aa (As (Db Aa Aa (Aw (AP (Am (Al (wm Aa (As (Db Aa Aa (Aw (AP (Al (wm Aa ?_)))))))))))))))));obtain⟨hO,hP⟩:=Az hN;refine wv (r:=rv (Tn b1 65 (Int.toNat (hd-1)))) (Ty PH PC Aa Aa hO) ?_;obtain⟨hQ,hR⟩:=Az hP;refine wv (r:=rS (Li (List.drop (Int.toNat (hd-1)) (List.set hh (Int.toNat (hd-1)) (AY ([48,49,50,51,52,53,54,55,56,57,97,98,99,100,101,102,103,104,105,106,107,108,109,110,111,112,113,114,115,116,117,118,119,120,121,122]:Ak) hg))))) (Pg (xs:=List.set hh (Int.toNat (hd-1)) (AY ([48,49,50,51,52,53,54,55,56,57,97,98,99,100,101,102,103,104,105,106,107,108,109,110,111,112,113,114,115,116,117,118,119,120,121,122]:Ak) hg)) (i:=0) (j:=hd-1) EQ Ce No Aa Aa hQ) (wa Aa (As (Ay (WK.up (d:=10) (r:=Bl 1 (List.map AU ([]:List Int))) Aa (Up.le (Hi.nil _)) ?_))));obtain rfl:=A0 hR;exact Ax (El Tryz.results97 (AM Aa) (AM Aa)) (sS sN) ⟨Aa,Aa⟩
theorem RY (F:Nat)(i:Int)(r:Ak)(h:Oy F i=some r):Fn Tryz.prog GE 68 [rI .u64 i,rI .i64 16] [] (λR H=>R=rS r∧H=[]):=by
 refine enter (n:=32) Tryz.func68 Aa Tryz.ntmps68 Aa (λw Z=>?_);refine AR (l':=[(0,rI .u64 i),(1,rI .i64 16)]) (H':=[]) Aa Aa ?_;unfold Oy at h;refine Al (wv (r:=rS ([]:Ak)) (Ae Aa) (As (Am (Al (wm Aa (wv (Bh Aa Aa) (As (Db Aa (by decide) (Aw (AP (Al (wm Aa (wm Aa ?_)))))))))))));obtain⟨r1,e3,h2⟩:=AH h;refine C9 Tryz.call97 (Pu F i r1 e3) Aa (wm Aa (wv (AD Aa Aa) (wv (AD Aa Aa) (wa Aa (wa Aa (Bv (wm Aa (wa Aa (As (Ay ?_))))))))));obtain rfl:=A0 h2;exact Ax (BG Tryz.results68 (AM Aa)) sN ⟨Aa,Aa⟩
theorem Pt (F:Nat)(i:Int)(r:Ak)(h:Ke F i=some r):Fn Tryz.prog GE 46 [rI .u64 i,rI .i64 16] [] (λR H=>R=rS r∧H=[]):=by
 refine enter (n:=8) Tryz.func46 Aa Tryz.ntmps46 Aa (λw Z=>?_);refine AR (l':=[(0,rI .u64 i),(1,rI .i64 16)]) (H':=[]) Aa Aa ?_;unfold Ke at h;refine Al (wv (r:=rS ([]:Ak)) (Ae Aa) (Bv (wm Aa (wm Aa ?_))));obtain⟨r1,e3,h2⟩:=AH h;refine C9 Tryz.call68 (RY F i r1 e3) Aa (wa Aa (As (Ay ?_)));obtain rfl:=A0 h2;exact Ax (BG Tryz.results46 (AM Aa)) sN ⟨Aa,Aa⟩
theorem SS (F:Nat)(n:Int)(r:Ak)(h:QG F n=some r):Fn Tryz.prog GE 25 [rI .u64 n] [] (λR H=>R=rS r∧H=[]):=by
 refine enter (n:=12) Tryz.func25 Aa Tryz.ntmps25 Aa (λw Z=>?_);refine AR (l':=[(0,rI .u64 n)]) (H':=[]) Aa Aa ?_;unfold QG at h;refine Al (wv (r:=rS ([]:Ak)) (Ae Aa) (Bv (wm Aa ?_)));obtain⟨r1,e3,h2⟩:=AH h;refine C9 Tryz.call46 (Pt F n r1 e3) Aa (wa Aa (Bv (wm Aa (wv (AZ Ce Aa) ?_))));obtain⟨g4,h5⟩:=Az h2;refine wv (EV Aa Aa g4) ?_;obtain⟨g6,h7⟩:=Az h5;obtain⟨g8,h9⟩:=Az h7;refine Ca (rs:=[rS ([48]:Ak),rI .i64 (16-(r1.length:Int))]) (r:=rS (Lib.repeatL ([48]:Ak) (Int.toNat (16-(r1.length:Int))))) Tryz.call47 Aa (Qf ([48]:Ak) (16-(r1.length:Int)) g6 g8) Aa Aa (wm Aa ?_);obtain⟨ha,hd⟩:=Az h9;refine wv (Cz Aa Aa ha) (wa Aa (As (Ay ?_)));obtain rfl:=A0 hd;exact Ax (BG Tryz.results25 (AM Aa)) sN ⟨Aa,Aa⟩
theorem Pz (F:Nat)(e:AA)(r:Ak×Int)(h:IS F e=some r):Fn Tryz.prog GE 8 [Bo (A9 e)] [] (λR H=>R=CV [rS r.1,rI .i64 r.2]∧H=[]):=by
 refine enter (n:=17) Tryz.func8 Aa Tryz.ntmps8 Aa (λw Z=>?_);refine AR (l':=[(0,Bo (A9 e))]) (H':=[]) Aa Aa ?_;unfold IS at h;refine Al (BP Aa Aa (λb1=>?_));refine wv (r:=rS ([]:Ak)) (Ae Aa) (wv (r:=rI .i64 0) (Ae Aa) (Bv (wv (AS (i:=0) CP Cb Aa Aa Aa Aa) ?_)));obtain⟨r2,e4,h3⟩:=AH h;refine C9 Tryz.call6 (Jr F e r2 e4) Aa (wm Aa (wv (AD Aa Aa) (wv (AD Aa Aa) (wa Aa (wa Aa (As (Am (Al (wm Aa (wv (DB Aa Aa) (As (Au (b:=!decide (r2.2=0)) Aa (λc5=>?_) (λc5=>?_)))))))))))))
 ·have h6:=AE c5 h3;refine Al (wm Aa (wv (r:=rS ([]:Ak)) (Ae Aa) (wa Aa (As (Ay (Af ?_))))));obtain rfl:=A0 h6;exact Ax (El Tryz.results8 (AM Aa) (AM Aa)) (sS sN) ⟨Aa,Aa⟩
 ·have h7:=AF c5 h3;refine Aw (AP (Al (wm Aa ?_)));obtain⟨r8,ha,h9⟩:=AH h7;refine C9 Tryz.call26 (SR F r2.1 r8 ha) Aa ?_;obtain⟨hd,he,hf⟩:=AH h9;refine C9 Tryz.call25 (SS F r8 hd he) Aa (wa Aa (wv (r:=rI .i64 0) (Ae Aa) (As (Ay ?_))));obtain rfl:=A0 hf;exact Ax (El Tryz.results8 (AM Aa) (AM Aa)) (sS sN) ⟨Aa,Aa⟩
theorem Sc (F:Nat)(a:AA)(b:AA)(r:Bool)(h:QS F a b=some r):Fn Tryz.prog GE 17 [Bo (A9 a),Bo (A9 b)] [] (λR H=>R=rB r∧H=[]):=by
 refine enter (n:=52) Tryz.func17 Aa Tryz.ntmps17 Aa (λw Z=>?_);refine AR (l':=[(0,Bo (A9 a)),(1,Bo (A9 b))]) (H':=[]) Aa Aa ?_;unfold QS at h;refine Al (BP Aa Aa (λb1=>?_));refine BP Aa Aa (λb2=>?_);refine wv (r:=rB false) (Ae Aa) (As ?_);obtain⟨g3,h4⟩:=Az h;refine AB [(4,rB ((decide (a.fID=b.fID))&&((decide (a.fTenant=b.fTenant))&&((decide (a.fSource=b.fSource))&&((decide (a.fKey=b.fKey))&&((decide (a.fAt=b.fAt))&&((decide (a.fCause=b.fCause))&&(ov (HA F a.fBody b.fBody)))))))))] [] ?_ ?_
 ·refine Ai (wv (Ad BI Aa BU Aa Aa) (wv (Aq (i:=1) Cg Aa Aa Aa) (wv (Ad BI Aa BU Aa Aa) (wv (Aq (i:=0) Cg Aa Aa Aa) (wv (Co Aa Aa) (wm Aa (A7 (decide (a.fID=b.fID)) (λc5=>?_) (λc5=>?_))))))))
  ·refine wo c5 (wv (Ad BI Aa BU Aa Aa) (wo c5 (wv (Aq (i:=1) Cg Aa Aa Aa) (wo c5 (wv (Ad BI Aa BU Aa Aa) (wo c5 (wv (Aq (i:=0) Cg Aa Aa Aa) (wo c5 (wv (Co Aa Aa) (EA Aa c5 Aa (wm Aa (A7 (decide (a.fTenant=b.fTenant)) (λc6=>?_) (λc6=>?_)))))))))))))
   ·refine wo c6 (wv (Ad BI Aa BU Aa Aa) (wo c6 (wv (Aq (i:=1) Cg Aa Aa Aa) (wo c6 (wv (Ad BI Aa BU Aa Aa) (wo c6 (wv (Aq (i:=0) Cg Aa Aa Aa) (wo c6 (wv (Co Aa Aa) (EA Aa c6 Aa (wm Aa (A7 (decide (a.fSource=b.fSource)) (λc7=>?_) (λc7=>?_)))))))))))))
    ·refine wo c7 (wv (Ad BI Aa BU Aa Aa) (wo c7 (wv (Aq (i:=1) Cg Aa Aa Aa) (wo c7 (wv (Ad BI Aa BU Aa Aa) (wo c7 (wv (Aq (i:=0) Cg Aa Aa Aa) (wo c7 (wv (Co Aa Aa) (EA Aa c7 Aa (wm Aa (A7 (decide (a.fKey=b.fKey)) (λc8=>?_) (λc8=>?_)))))))))))))
     ·refine wo c8 (wv (Ad BI Aa Cf Aa Aa) (wo c8 (wv (Aq (i:=1) CC Aa Aa Aa) (wo c8 (wv (Ad BI Aa Cf Aa Aa) (wo c8 (wv (Aq (i:=0) CC Aa Aa Aa) (wo c8 (wv (Bh Aa Aa) (EA Aa c8 Aa (wm Aa (A7 (decide (a.fAt=b.fAt)) (λc9=>?_) (λc9=>?_)))))))))))))
      ·refine wo c9 (wv (Ad BI Aa BU Aa Aa) (wo c9 (wv (Aq (i:=1) Cg Aa Aa Aa) (wo c9 (wv (Ad BI Aa BU Aa Aa) (wo c9 (wv (Aq (i:=0) Cg Aa Aa Aa) (wo c9 (wv (Co Aa Aa) (EA Aa c9 Aa (wm Aa (A7 (decide (a.fCause=b.fCause)) (λha=>?_) (λha=>?_)))))))))))))
       ·refine wo ha (wv (Ad BI Aa Di Aa Aa) (wo ha (wv (Aq (i:=1) Gb Aa Aa Aa) (wo ha (wv (Ad BI Aa Di Aa Aa) (wo ha (wv (Aq (i:=0) Gb Aa Aa Aa) (wo ha (C9 Tryz.call40 (OP F a.fBody b.fBody (ov (HA F a.fBody b.fBody)) (D9 (Ch (Ch (Ch (Ch (Ch (Ch g3 c5) c6) c7) c8) c9) ha))) Aa (EA Aa ha Aa (wa Aa (Aj ?_))))))))))));exact BO (And.intro c5 (And.intro c6 (And.intro c7 (And.intro c8 (And.intro c9 ha)))))
       ·refine wf ha (wf ha (wf ha (wf ha (wf ha (wv (r:=rB false) (Ar (b:=decide (a.fCause=b.fCause)) Aa ha Aa) (wa Aa (Aj ?_)))))));exact BO (And.intro c5 (And.intro c6 (And.intro c7 (And.intro c8 (And.intro c9 ha)))))
      ·refine wf c9 (wf c9 (wf c9 (wf c9 (wf c9 (wv (r:=rB false) (Ar (b:=decide (a.fAt=b.fAt)) Aa c9 Aa) (wm Aa (Ag (b:=false) Aa Aa Aa Aa (Ag (b:=false) Aa Aa Aa Aa (Ag (b:=false) Aa Aa Aa Aa (Ag (b:=false) Aa Aa Aa Aa (Ag (b:=false) Aa Aa Aa Aa (wv (r:=rB false) (Ar (b:=false) Aa Aa Aa) (wa Aa (Aj ?_))))))))))))));exact BO (And.intro c5 (And.intro c6 (And.intro c7 (And.intro c8 c9))))
     ·refine wf c8 (wf c8 (wf c8 (wf c8 (wf c8 (wv (r:=rB false) (Ar (b:=decide (a.fKey=b.fKey)) Aa c8 Aa) (wm Aa (Ag (b:=false) Aa Aa Aa Aa (Ag (b:=false) Aa Aa Aa Aa (Ag (b:=false) Aa Aa Aa Aa (Ag (b:=false) Aa Aa Aa Aa (Ag (b:=false) Aa Aa Aa Aa (wv (r:=rB false) (Ar (b:=false) Aa Aa Aa) (wm Aa (Ag (b:=false) Aa Aa Aa Aa (Ag (b:=false) Aa Aa Aa Aa (Ag (b:=false) Aa Aa Aa Aa (Ag (b:=false) Aa Aa Aa Aa (Ag (b:=false) Aa Aa Aa Aa (wv (r:=rB false) (Ar (b:=false) Aa Aa Aa) (wa Aa (Aj ?_)))))))))))))))))))));exact BO (And.intro c5 (And.intro c6 (And.intro c7 c8)))
    ·refine wf c7 (wf c7 (wf c7 (wf c7 (wf c7 (wv (r:=rB false) (Ar (b:=decide (a.fSource=b.fSource)) Aa c7 Aa) (wm Aa (Ag (b:=false) Aa Aa Aa Aa (Ag (b:=false) Aa Aa Aa Aa (Ag (b:=false) Aa Aa Aa Aa (Ag (b:=false) Aa Aa Aa Aa (Ag (b:=false) Aa Aa Aa Aa (wv (r:=rB false) (Ar (b:=false) Aa Aa Aa) (wm Aa (Ag (b:=false) Aa Aa Aa Aa (Ag (b:=false) Aa Aa Aa Aa (Ag (b:=false) Aa Aa Aa Aa (Ag (b:=false) Aa Aa Aa Aa (Ag (b:=false) Aa Aa Aa Aa (wv (r:=rB false) (Ar (b:=false) Aa Aa Aa) (wm Aa (Ag (b:=false) Aa Aa Aa Aa (Ag (b:=false) Aa Aa Aa Aa (Ag (b:=false) Aa Aa Aa Aa ?_)))))))))))))))))))))));refine Ag (b:=false) Aa Aa Aa Aa (Ag (b:=false) Aa Aa Aa Aa (wv (r:=rB false) (Ar (b:=false) Aa Aa Aa) (wa Aa (Aj ?_))));exact BO (And.intro c5 (And.intro c6 c7))
   ·refine wf c6 (wf c6 (wf c6 (wf c6 (wf c6 (wv (r:=rB false) (Ar (b:=decide (a.fTenant=b.fTenant)) Aa c6 Aa) (wm Aa (Ag (b:=false) Aa Aa Aa Aa (Ag (b:=false) Aa Aa Aa Aa (Ag (b:=false) Aa Aa Aa Aa (Ag (b:=false) Aa Aa Aa Aa (Ag (b:=false) Aa Aa Aa Aa (wv (r:=rB false) (Ar (b:=false) Aa Aa Aa) (wm Aa (Ag (b:=false) Aa Aa Aa Aa (Ag (b:=false) Aa Aa Aa Aa (Ag (b:=false) Aa Aa Aa Aa (Ag (b:=false) Aa Aa Aa Aa (Ag (b:=false) Aa Aa Aa Aa (wv (r:=rB false) (Ar (b:=false) Aa Aa Aa) (wm Aa (Ag (b:=false) Aa Aa Aa Aa (Ag (b:=false) Aa Aa Aa Aa (Ag (b:=false) Aa Aa Aa Aa ?_)))))))))))))))))))))));refine Ag (b:=false) Aa Aa Aa Aa (Ag (b:=false) Aa Aa Aa Aa (wv (r:=rB false) (Ar (b:=false) Aa Aa Aa) (wm Aa (Ag (b:=false) Aa Aa Aa Aa (Ag (b:=false) Aa Aa Aa Aa (Ag (b:=false) Aa Aa Aa Aa (Ag (b:=false) Aa Aa Aa Aa (Ag (b:=false) Aa Aa Aa Aa (wv (r:=rB false) (Ar (b:=false) Aa Aa Aa) (wa Aa (Aj ?_)))))))))));exact BO (And.intro c5 c6)
  ·refine wf c5 (wf c5 (wf c5 (wf c5 (wf c5 (wv (r:=rB false) (Ar (b:=decide (a.fID=b.fID)) Aa c5 Aa) (wm Aa (Ag (b:=false) Aa Aa Aa Aa (Ag (b:=false) Aa Aa Aa Aa (Ag (b:=false) Aa Aa Aa Aa (Ag (b:=false) Aa Aa Aa Aa (Ag (b:=false) Aa Aa Aa Aa (wv (r:=rB false) (Ar (b:=false) Aa Aa Aa) (wm Aa (Ag (b:=false) Aa Aa Aa Aa (Ag (b:=false) Aa Aa Aa Aa (Ag (b:=false) Aa Aa Aa Aa (Ag (b:=false) Aa Aa Aa Aa (Ag (b:=false) Aa Aa Aa Aa (wv (r:=rB false) (Ar (b:=false) Aa Aa Aa) (wm Aa (Ag (b:=false) Aa Aa Aa Aa (Ag (b:=false) Aa Aa Aa Aa (Ag (b:=false) Aa Aa Aa Aa ?_)))))))))))))))))))))));refine Ag (b:=false) Aa Aa Aa Aa (Ag (b:=false) Aa Aa Aa Aa (wv (r:=rB false) (Ar (b:=false) Aa Aa Aa) (wm Aa (Ag (b:=false) Aa Aa Aa Aa (Ag (b:=false) Aa Aa Aa Aa (Ag (b:=false) Aa Aa Aa Aa (Ag (b:=false) Aa Aa Aa Aa (Ag (b:=false) Aa Aa Aa Aa (wv (r:=rB false) (Ar (b:=false) Aa Aa Aa) (wm Aa (Ag (b:=false) Aa Aa Aa Aa (Ag (b:=false) Aa Aa Aa Aa (Ag (b:=false) Aa Aa Aa Aa (Ag (b:=false) Aa Aa Aa Aa (Ag (b:=false) Aa Aa Aa Aa (wv (r:=rB false) (Ar (b:=false) Aa Aa Aa) (wa Aa (Aj ?_))))))))))))))))));exact BO c5
 refine Ay ?_;obtain rfl:=A0 h4;exact Ax (BG Tryz.results17 (AM Aa)) sN ⟨Aa,Aa⟩
theorem SY (a:AA)(b:AA)(r:Int)(h:SZ a b=some r):Fn Tryz.prog GE 18 [Bo (A9 a),Bo (A9 b)] [] (λR H=>R=rI .i64 r∧H=[]):=by
 refine enter (n:=22) Tryz.func18 Aa Tryz.ntmps18 Aa (λw Z=>?_);refine AR (l':=[(0,Bo (A9 a)),(1,Bo (A9 b))]) (H':=[]) Aa Aa ?_;unfold SZ at h;refine Al (BP Aa Aa (λb1=>?_));refine BP Aa Aa (λb2=>?_);refine wv (r:=rI .i64 0) (Ae Aa) (As (Am (AJ (Al (wv (Ad BI Aa Cf Aa Aa) (wv (Aq (i:=1) CC Aa Aa Aa) (wv (Ad BI Aa Cf Aa Aa) (wv (Aq (i:=0) CC Aa Aa Aa) (wv (C8 Aa Aa) (wa Aa (As (Au (b:=decide (a.fAt<b.fAt)) Aa (λc3=>?_) (λc3=>?_)))))))))))))
 ·have h4:=AE c3 h;refine Al (wv (r:=rI .i64 (-1)) (Ae Aa) (As (Ay (A5 (Af ?_)))));obtain rfl:=A0 h4;exact Ax (BG Tryz.results18 (AM Aa)) (sS (sS sN)) ⟨Aa,Aa⟩
 ·have h5:=AF c3 h;refine Al (wv (Ad BI Aa Cf Aa Aa) (wv (Aq (i:=1) CC Aa Aa Aa) (wv (Ad BI Aa Cf Aa Aa) (wv (Aq (i:=0) CC Aa Aa Aa) (wv (C1 Aa Aa) (wa Aa (As (Au (b:=decide (b.fAt<a.fAt)) Aa (λc6=>?_) (λc6=>?_)))))))))
  ·have h7:=AE c6 h5;refine Al (wv (r:=rI .i64 1) (Ae Aa) (As (Ay (A5 (Af ?_)))));obtain rfl:=A0 h7;exact Ax (BG Tryz.results18 (AM Aa)) (sS (sS sN)) ⟨Aa,Aa⟩
  ·have h8:=AF c6 h5;refine Aw (AG (AP (Al (wv (Ad BI Aa BU Aa Aa) (wv (Aq (i:=1) Cg Aa Aa Aa) (wv (Ad BI Aa BU Aa Aa) (wv (Aq (i:=0) Cg Aa Aa Aa) (Ca (rs:=[rS a.fID,rS b.fID]) (r:=rI .i64 (Lib.compareBytes a.fID b.fID)) Tryz.call41 Aa (P3 a.fID b.fID) Aa Aa (wa Aa (As (Ay ?_)))))))))));obtain rfl:=A0 h8;exact Ax (BG Tryz.results18 (AM Aa)) (sS (sS sN)) ⟨Aa,Aa⟩
theorem QV (F:Nat)(e:AA)(n:Int)(source:Ak)(body:(List Ac))(at_:Int)(r:AA×Int)(h:NJ F e n source body at_=some r):Fn Tryz.prog GE 15 [Bo (A9 e),rI .i64 n,rS source,Bl 4 (List.map Ab body),rI .i64 at_] [] (λR H=>R=CV [Bo (A9 r.1),rI .i64 r.2]∧H=[]):=by
 refine enter (n:=53) Tryz.func15 Aa Tryz.ntmps15 Aa (λw Z=>?_);refine AR (l':=[(0,Bo (A9 e)),(1,rI .i64 n),(2,rS source),(3,Bl 4 (List.map Ab body)),(4,rI .i64 at_)]) (H':=[]) Aa Aa ?_;unfold NJ at h;refine Al (BP Aa Aa (λb1=>?_));refine Ci (cs:=[rS ([]:Ak),rS ([]:Ak),rS ([]:Ak),rS ([]:Ak),rI .i64 0,rS ([]:Ak),rv (.slice none 0 0)]) Mn Aa Aa (λb2=>?_);refine wv (r:=rI .i64 0) (Ae Aa) (As (Am (Al (wv (AS (i:=1) CP Cb Aa Aa Aa Aa) ?_))));obtain⟨r3,e5,h4⟩:=AH h;refine C9 Km (Dw F e r3 e5) Aa (wa Aa (Bv (wm Aa (wv (DB Aa Aa) (As (Au (b:=!decide (r3=0)) Aa (λc6=>?_) (λc6=>?_)))))))
 ·have h7:=AE c6 h4;refine Al (wv (r:=Bo [rS ([]:Ak),rS ([]:Ak),rS ([]:Ak),rS ([]:Ak),rI .i64 0,rS ([]:Ak),rv (.slice none 0 0)]) (Ds ) (wm Aa (Bg (i:=0) Cb Aa Aa Aa (BE.c Aa) Aa Aa (cs':=[rS ([]:Ak),rS ([]:Ak),rS ([]:Ak),rS ([]:Ak),rI .i64 0,rS ([]:Ak),rv (.slice none 0 0)]) Aa (H':=[.blk b2 [rS ([]:Ak),rS ([]:Ak),rS ([]:Ak),rS ([]:Ak),rI .i64 0,rS ([]:Ak),rv (.slice none 0 0)] 24,.blk b1 (A9 e) 24]) Aa (wa Aa (As (Ay (Af (WK.upBlk (i:=0) (cs':=[rS ([]:Ak),rS ([]:Ak),rS ([]:Ak),rS ([]:Ak),rI .i64 0,rS ([]:Ak),Bl 4 (List.map Ab ([]:List Ac))]) Aa ⟨Up.refl _,Up.refl _,Up.refl _,Up.refl _,Up.refl _,Up.refl _,Up.le (Hi.nil _),trivial⟩ ?_))))))));obtain rfl:=A0 h7;exact Ax (El Rs (Ev (i:=0) CP Cb Aa Aa Aa) (AM Aa)) (sS (sS sN)) ⟨Aa,Aa⟩
 ·have h8:=AF c6 h4;refine Aw (AP (Al (wv (Ad BI Aa BU Aa Aa) (wv (Aq (i:=1) Cg Aa Aa Aa) (wm Aa ?_)))));obtain⟨g9,hj⟩:=Az h8;obtain⟨hk,hg⟩:=Az hj;refine Ca (rs:=[rS e.fID,rI .i64 n]) (r:=CV [rS (C4 e.fID n),rI .i64 (CN e.fID n)]) Tryz.call37 Aa (Sf e.fID n g9 hk) Aa Aa (wm Aa (wv (AD Aa Aa) (wv (AD Aa Aa) (wa Aa (wa Aa (As (Am (Al (wm Aa (wv (DB Aa Aa) (As (Au (b:=!decide ((CN e.fID n)=0)) Aa (λhd=>?_) (λhd=>?_)))))))))))))
  ·have hl:=AE hd hg;refine Al (wv (r:=Bo [rS ([]:Ak),rS ([]:Ak),rS ([]:Ak),rS ([]:Ak),rI .i64 0,rS ([]:Ak),rv (.slice none 0 0)]) (Ds ) (wm Aa (Bg (i:=0) Cb Aa Aa Aa (BE.c Aa) Aa Aa (cs':=[rS ([]:Ak),rS ([]:Ak),rS ([]:Ak),rS ([]:Ak),rI .i64 0,rS ([]:Ak),rv (.slice none 0 0)]) Aa (H':=[.blk b2 [rS ([]:Ak),rS ([]:Ak),rS ([]:Ak),rS ([]:Ak),rI .i64 0,rS ([]:Ak),rv (.slice none 0 0)] 24,.blk b1 (A9 e) 24]) Aa (wa Aa (As (Ay (Af (WK.upBlk (i:=0) (cs':=[rS ([]:Ak),rS ([]:Ak),rS ([]:Ak),rS ([]:Ak),rI .i64 0,rS ([]:Ak),Bl 4 (List.map Ab ([]:List Ac))]) Aa ⟨Up.refl _,Up.refl _,Up.refl _,Up.refl _,Up.refl _,Up.refl _,Up.le (Hi.nil _),trivial⟩ ?_))))))));obtain rfl:=A0 hl;exact Ax (El Rs (Ev (i:=0) CP Cb Aa Aa Aa) (AM Aa)) (sS (sS sN)) ⟨Aa,Aa⟩
  ·have hm:=AF hd hg;refine Aw (AP (Am ?_));obtain⟨ha,hn,ho⟩:=AH hm;refine It 13 [2,3,4,5,10,13] [⟨[],rS (C4 e.fID n),none,none,none⟩,⟨[],rv (.pointer (some ⟨b1,1,none⟩)),none,none,none⟩,⟨[1],rS e.fTenant,none,none,none⟩,⟨[],rS source,none,none,none⟩,⟨[],rv (.pointer (some ⟨b1,3,none⟩)),none,none,none⟩,⟨[4],rS e.fKey,none,none,none⟩,⟨[],rI .i64 at_,none,none,none⟩,⟨[],rv (.pointer (some ⟨b1,0,none⟩)),none,none,none⟩,⟨[7],rS e.fID,none,none,none⟩,⟨[],Bl 4 (List.map Ab body),none,none,none⟩,⟨[9],Bl 4 (List.map Ab ha),none,none,none⟩,⟨[0,2,3,5,6,8,10],Bo [rS (C4 e.fID n),rS e.fTenant,rS source,rS e.fKey,rI .i64 at_,rS e.fID,Bl 4 (List.map Ab ha)],none,none,none⟩,⟨[],rv undef,some ([rS ([]:Ak),rS ([]:Ak),rS ([]:Ak),rS ([]:Ak),rI .i64 0,rS ([]:Ak),rv (.slice none 0 0)],24),none,none⟩] ?_ (λβ=>?_)
   ·refine Ea (Ah Aa) (Ea (Ad BI Aa BU Aa Aa) (TU (Aq (i:=1) Cg Aa Aa Aa) (Ea (Ah Aa) (Ea (Ad BI Aa BU Aa Aa) (TU (Aq (i:=1) Cg Aa Aa Aa) (Ea (Ah Aa) (Ea (Ad BI Aa BU Aa Aa) (TU (Aq (i:=1) Cg Aa Aa Aa) (Ea (Ah Aa) (Uf (Dg Tryz.call38 (QZ body ha hn) Aa) (Ea (DO Aa Aa Aa Aa Aa Aa Aa Aa Aa Aa Aa Aa Aa Aa) (Ue (Sy (cs:=[rS ([]:Ak),rS ([]:Ak),rS ([]:Ak),rS ([]:Ak),rI .i64 0,rS ([]:Ak),rv (.slice none 0 0)]) Mn Aa) ?_))))))))))));exact Tw
   refine IZ (H1:=[.blk b2 [rS ([]:Ak),rS ([]:Ak),rS ([]:Ak),rS ([]:Ak),rI .i64 0,rS ([]:Ak),rv (.slice none 0 0)] 24,.blk b1 (A9 e) 24,.blk (β 12) [rS ([]:Ak),rS ([]:Ak),rS ([]:Ak),rS ([]:Ak),rI .i64 0,rS ([]:Ak),rv (.slice none 0 0)] 24]) [34,35,36,37,38,39,40,41,42,43,44,45,15,2,3,4,5,10,13] ?_;generalize β 12=he;refine Bg (i:=2) Cb Aa Aa Aa (BE.c Aa) Aa Aa (cs':=[rS (C4 e.fID n),rS e.fTenant,rS source,rS e.fKey,rI .i64 at_,rS e.fID,Bl 4 (List.map Ab ha)]) Aa (H':=[.blk b2 [rS ([]:Ak),rS ([]:Ak),rS ([]:Ak),rS ([]:Ak),rI .i64 0,rS ([]:Ak),rv (.slice none 0 0)] 24,.blk b1 (A9 e) 24,.blk he [rS (C4 e.fID n),rS e.fTenant,rS source,rS e.fKey,rI .i64 at_,rS e.fID,Bl 4 (List.map Ab ha)] 24]) Aa (As (Am (Al (wv (AS (i:=2) CP Cb Aa Aa Aa Aa) ?_))));obtain⟨hh,hp,hi⟩:=AH ho;refine C9 Km (Dw F (AA.mk (C4 e.fID n) e.fTenant source e.fKey at_ e.fID ha) hh hp) Aa (wa Aa (Bv (wm Aa (wv (DB Aa Aa) (As (Au (b:=!decide (hh=0)) Aa (λhf=>?_) (λhf=>?_)))))))
   ·have hq:=AE hf hi;refine Al (wv (r:=Bo [rS ([]:Ak),rS ([]:Ak),rS ([]:Ak),rS ([]:Ak),rI .i64 0,rS ([]:Ak),rv (.slice none 0 0)]) (Ds ) (wm Aa (Bg (i:=0) Cb Aa Aa Aa (BE.c Aa) Aa Aa (cs':=[rS ([]:Ak),rS ([]:Ak),rS ([]:Ak),rS ([]:Ak),rI .i64 0,rS ([]:Ak),rv (.slice none 0 0)]) Aa (H':=[.blk b2 [rS ([]:Ak),rS ([]:Ak),rS ([]:Ak),rS ([]:Ak),rI .i64 0,rS ([]:Ak),rv (.slice none 0 0)] 24,.blk b1 (A9 e) 24,.blk he [rS (C4 e.fID n),rS e.fTenant,rS source,rS e.fKey,rI .i64 at_,rS e.fID,Bl 4 (List.map Ab ha)] 24]) Aa (wa Aa (As (Ay (Af (WK.upBlk (i:=0) (cs':=[rS ([]:Ak),rS ([]:Ak),rS ([]:Ak),rS ([]:Ak),rI .i64 0,rS ([]:Ak),Bl 4 (List.map Ab ([]:List Ac))]) Aa ⟨Up.refl _,Up.refl _,Up.refl _,Up.refl _,Up.refl _,Up.refl _,Up.le (Hi.nil _),trivial⟩ ?_))))))));obtain rfl:=A0 hq;exact Ax (El Rs (Ev (i:=0) CP Cb Aa Aa Aa) (AM Aa)) (sS (sS (sS sN))) ⟨Aa,Aa⟩
   ·have hr:=AF hf hi;refine Aw (AP (Al (wv (AS (i:=2) CP Cb Aa Aa Aa Aa) (Bg (i:=0) Cb Aa Aa Aa (BE.c Aa) Aa Aa (cs':=[rS (C4 e.fID n),rS e.fTenant,rS source,rS e.fKey,rI .i64 at_,rS e.fID,Bl 4 (List.map Ab ha)]) Aa (H':=[.blk b2 [rS (C4 e.fID n),rS e.fTenant,rS source,rS e.fKey,rI .i64 at_,rS e.fID,Bl 4 (List.map Ab ha)] 24,.blk b1 (A9 e) 24,.blk he [rS (C4 e.fID n),rS e.fTenant,rS source,rS e.fKey,rI .i64 at_,rS e.fID,Bl 4 (List.map Ab ha)] 24]) Aa (wv (r:=rI .i64 0) (Ae Aa) (As (Ay ?_)))))));obtain rfl:=A0 hr;exact Ax (El Rs (Ev (i:=0) CP Cb Aa Aa Aa) (AM Aa)) (sS (sS (sS sN))) ⟨Aa,Aa⟩
theorem NI (F:Nat)(id:Ak)(r:(List Ak))(h:KQ F id=some r):Fn Tryz.prog GE 16 [rS id] [] (λR H=>R=Bl 1 (List.map eS r)∧H=[]):=by
 refine enter (n:=30) Tryz.func16 Aa Tryz.ntmps16 Aa (λw Z=>?_);refine AR (l':=[(0,rS id)]) (H':=[]) Aa Aa ?_;unfold KQ at h;refine Al (wv (r:=rv (.slice none 0 0)) (Ae Aa) (As (Am (Al (wm Aa (Ca (rs:=[rS id]) (r:=rB (Cs id)) Mq Aa (NB id) Aa Aa (wv (BL Aa) (As (Au (b:=!(Cs id)) Aa (λc1=>?_) (λc1=>?_))))))))))
 ·have h2:=AE c1 h;refine Al (wv (r:=rv (.slice none 0 0)) (Ae Aa) (As (Ay (Af (WK.up (d:=2) (r:=Bl 1 (List.map eS ([]:List Ak))) Aa (Up.le (Hi.nil _)) ?_)))));obtain rfl:=A0 h2;exact Ax (BG Tryz.results16 (AM Aa)) sN ⟨Aa,Aa⟩
 ·have h3:=AF c1 h;refine Aw (AP (Al (wm Aa (Bp (ys:=([id]:List Ak)) (enc:=eS) (css:=[[rS id]]) (xs:=[.tmp 10]) Dc BU Tl Aa Aa Aa ⟨Gk.one Aa (Up.refl _),trivial⟩ Aa GU Aa Aa Aa (λb4=>?_)))));refine wa Aa (As (AJ ?_));obtain⟨hj,hk,hl⟩:=AH h3;refine B2 (S:=Nat×((List Ak))×(Value)) (V:=(Unit)×(Unit)) 0 (λσ=>Cn (λσ=>EY σ) σ.1 σ.2.1=some hj) (λσ=>[(2,rv (.slice none 0 0)),(3,rv σ.2.2)]) (λσ=>[.row σ.2.2 9 1 (List.map eS σ.2.1)]) (λσ=>σ.1) (F,([id]:List Ak),(.slice (some ⟨b4,0,none⟩) 1 1)) hk (AK.c Aa (AK.c Aa AK.nil)) (sC sN) (λσ=>JG =some r) (λσ=>[]) (λσ=>[]) ?_ ?_
  ·rintro⟨h6,ha,he⟩ hm;refine AR (l':=[(2,rv (.slice none 0 0)),(3,rv he)]) (H':=[.row he 9 1 (List.map eS ha)]) Aa Aa ?_;obtain⟨hn,rfl,t51,hd,hg⟩:=CM hm;replace hd:EY ha=some t51:=hd;unfold EY at hd;refine AJ (Al (wm Aa (wm Aa (wv (CL (ys:=ha) (enc:=eS) (i:=0) Dc Aa Aa) ?_))));obtain⟨ho,hp⟩:=Az hd;refine wv (EV Aa Aa ho) ?_;obtain⟨hh,hq⟩:=Az hp;refine wv (r:=rv (Et 1 he (Int.toNat ((ha.length:Int)-1)) 0)) (Ik (i:=0) Dc BU Aa Aa Aa (B9 hh)) (wv (r:=rS (At ha ((ha.length:Int)-1))) (GP (enc:=eS) (ys:=ha) (i:=0) (j:=(ha.length:Int)-1) Cg Aa Aa hh Aa) ?_);obtain⟨hr,hi⟩:=Az hq;refine Ca (rs:=[rS (At ha ((ha.length:Int)-1))]) (r:=CV [rS (Jp (CZ (At ha ((ha.length:Int)-1))) (GO (At ha ((ha.length:Int)-1)))),rI .i64 (if CZ (At ha ((ha.length:Int)-1))=true then Bs (IF (At ha ((ha.length:Int)-1))) else(0:Int)),rB (CZ (At ha ((ha.length:Int)-1)))]) Tryz.call39 Aa (Qp (At ha ((ha.length:Int)-1)) hr) Aa Aa (wm Aa (wv (AD Aa Aa) (wv (AD Aa Aa) (wv (AD Aa Aa) (wa Aa (wa Aa (wa Aa (As (Am (Al (wm Aa (wv (BL Aa) (As (Au (b:=!(CZ (At ha ((ha.length:Int)-1)))) Aa (λhf=>?_) (λhf=>?_)))))))))))))))
   ·have hs:=AE hf hi;refine Al (wm Aa (wa Aa (As (Ay (Af (A5 (Af (Bf ?_))))))));have ht:=B5 hs hg hl;refine A5 (WK.freeze (i:=0) Aa (WK.up (d:=2) (r:=Bl 1 (List.map eS ha)) Aa (Up.fact (i:=0) Aa) ?_));obtain rfl:=A0 ht;exact Ax (BG Tryz.results16 (AM Aa)) (sS sN) ⟨Aa,Aa⟩
   ·have hu:=AF hf hi;refine Aw (AP (Ai (wm Aa (wm Aa (Bp (ys:=([Jp (CZ (At ha ((ha.length:Int)-1))) (GO (At ha ((ha.length:Int)-1)))]:List Ak)) (enc:=eS) (css:=[[rS (Jp (CZ (At ha ((ha.length:Int)-1))) (GO (At ha ((ha.length:Int)-1))))]]) (xs:=[.tmp 27]) Dc BU Tl Aa Aa Aa ⟨Gk.one Aa (Up.refl _),trivial⟩ Aa GU Aa Aa Aa (λh7=>?_))))));obtain⟨hw,hx⟩:=Az hu;obtain⟨inf,hinf⟩:=Or;refine Ck (xs:=ha) (ys:=([Jp (CZ (At ha ((ha.length:Int)-1))) (GO (At ha ((ha.length:Int)-1)))]:List Ak)) (enc:=eS) (i:=1) Dc hinf.1 hinf.2.1 hinf.2.2.1 hinf.2.2.2 Aa Aa Aa Aa Aa (Jw.w (i:=0) Aa Aa) GU NH hw Aa (λhy=>?_);refine wa Aa (Aj (AG ?_));have hz:=Bk hx hg;exact Ap (AI (hn,ha++([Jp (CZ (At ha ((ha.length:Int)-1))) (GO (At ha ((ha.length:Int)-1)))]:List Ak),hy) ⟨hz,U0 _⟩ (AK.c Aa (AK.c Aa AK.nil)) (sC (sS sN)))
  ·rintro⟨⟨⟩,⟨⟩⟩ h0
   cases h0
end Go.Proofs.YtailcjmjkmjelaaGreatDoor.Q
namespace Go.Proofs.YtailcjmjkmjelaaGreatDoor
open Go
set_option linter.unusedVariables false
def BQ (s:Ak):Option (Bool):=
 AW (imp (!(decide (s=([]:Ak)))) (D1 1 s.length))<|some ((decide (s=([]:Ak)))||(Cs s))
def Bz (F:Nat)(e:AA):Option (Int):=
 AW (D1 1 e.fID.length)<|AW (imp (!(!(Cs e.fID))) (D1 1 e.fTenant.length))<|AW (imp (!(!(Cs e.fID))) (imp (!(!(Cs e.fTenant))) (D1 1 e.fSource.length)))<|AW (imp (!(!(Cs e.fID))) (imp (!(!(Cs e.fTenant))) (imp (!(!(Cs e.fSource))) ((BQ e.fKey).isSome))))<|AW (imp (!(!(Cs e.fID))) (imp (!(!(Cs e.fTenant))) (imp (!(!(Cs e.fSource))) (imp (!(!(ov (BQ e.fKey)))) ((BQ e.fCause).isSome)))))<|B1 (((!(Cs e.fID))||((!(Cs e.fTenant))||((!(Cs e.fSource))||((!(ov (BQ e.fKey)))||(!(ov (BQ e.fCause)))))))) (some 4) (B1 (((decide (e.fAt<0))||(decide (1073741824<e.fAt)))) (some 2) (B3 (Jg F e.fBody) λha=>some ha))
def Gw (F:Nat)(e:AA):Option (Ak×Int):=
 B3 (Bz F e) λr2=>B1 (!decide (r2=0)) (some (([]:Ak),r2)) (B3 (IA F e.fBody) λr8=>AW (B6 .i64 e.fAt)<|B3 (KB F ([e.fID,e.fTenant,e.fSource,e.fKey,Lib.itoa e.fAt,e.fCause,r8.1]:List Ak)) λha=>some (ha.1,ha.2))
def IC (s:Ak)(hd:Int)(ha:Int):Option (Stp (Int×Int) (Out (Int) (Int))):=
 B1 (decide (ha<(s.length:Int))) (AW (Da ha (s.length:Int))<|AW (B6 .i64 (ha+1))<|some (.next (IntKind.wrap .u64 ((Lm .u64 hd (IntKind.wrap .u64 (AY s ha)))*1099511628211),ha+1))) (some (.out (.go hd)))
def IB (ha:Int):Option (Int):=
 some ha
def Ob (F:Nat)(s:Ak):Option (Int):=
 B3 (Cn (λσ=>IC s σ.1 σ.2) F (14695981039346656037,0)) (BY λν=>IB ν)
def D8 (ha:Int)(hd:Ak)(he:Int):Option (Stp (Int×Ak×Int) (Out (Ak) (Ak))):=
 B1 (decide (he<16)) (AW (Hf (Ej .u64 ha 15) (IntKind.wrap .u64 ((Ej .u64 ha 15)+1)))<|AW (Hf (IntKind.wrap .u64 ((Ej .u64 ha 15)+1)) (([48,49,50,51,52,53,54,55,56,57,97,98,99,100,101,102]:Ak).length:Int))<|AW (B6 .i64 (((List.take (Int.toNat (IntKind.wrap .u64 ((Ej .u64 ha 15)+1))-Int.toNat (Ej .u64 ha 15)) (List.drop (Int.toNat (Ej .u64 ha 15)) ([48,49,50,51,52,53,54,55,56,57,97,98,99,100,101,102]:Ak))).length:Int)+(hd.length:Int)))<|AW (B6 .i64 (he+1))<|some (.next (ES .u64 ha 4,(List.take (Int.toNat (IntKind.wrap .u64 ((Ej .u64 ha 15)+1))-Int.toNat (Ej .u64 ha 15)) (List.drop (Int.toNat (Ej .u64 ha 15)) ([48,49,50,51,52,53,54,55,56,57,97,98,99,100,101,102]:Ak)))++hd,he+1))) (some (.out (.go hd)))
def ID (ha:Ak):Option (Ak):=
 some ha
def M9 (F:Nat)(n:Int):Option (Ak):=
 B3 (Cn (λσ=>D8 σ.1 σ.2.1 σ.2.2) F (n,([]:Ak),0)) (BY λν=>ID ν)
def Hw (F:Nat)(e:AA):Option (Ak×Int):=
 B3 (Gw F e) λr2=>B1 (!decide (r2.2=0)) (some (([]:Ak),r2.2)) (B3 (Ob F r2.1) λr8=>B3 (M9 F r8) λha=>some (ha,0))
def DQ :Option (AA):=
 some (AA.mk ([101,49]:Ak) ([116]:Ak) ([115]:Ak) ([]:Ak) 5 ([]:Ak) ([(Ac.mk 1 0 ([]:Ak) 0)]:List Ac))
def DR (v:(List Ac))(ha:Int):Option (Stp (Int) (Out (Bool) (Unit))):=
 B1 (decide (ha<(v.length:Int))) (AW (Da ha (v.length:Int))<|B1 (decide (250<(((At v ha).fStr).length:Int))) (some (.out (.ret false))) (AW (B6 .i64 (ha+1))<|some (.next (ha+1)))) (some (.out (.go ())))
def G4 :Option (Bool):=
 some true
def KN (F:Nat)(v:(List Ac)):Option (Bool):=
 B1 (decide (250<(v.length:Int))) (some false) (B3 (Cn (λσ=>DR v σ) F 0) (BY λν=>G4 ))
def IQ (F:Nat)(e:AA):Option (Bool):=
 B1 (((decide (100<(e.fID.length:Int)))||((decide (100<(e.fTenant.length:Int)))||((decide (100<(e.fSource.length:Int)))||((decide (100<(e.fKey.length:Int)))||(decide (100<(e.fCause.length:Int)))))))) (some false) (B3 (KN F e.fBody) λr9=>some r9)
def DY (F:Nat) :Option (Bool):=
 B3 (DQ) λr1=>B3 (GV F r1) λr4=>B3 (Mc F r4.1) λr7=>B3 (DQ) λhf=>B3 (DQ) λhg=>B3 (NJ F hf 0 ([117]:Ak) hg.fBody 6) λhd=>B3 (KQ F ([97,46,48,46,49,50]:Ak)) λhe=>B3 (DQ) λha=>AW (decide (r4.2=0))<|AW (decide (r7.2=0))<|B3 (DQ) λhh=>B3 (QS F r7.1 hh) λhi=>AW (hi)<|AW (decide (hd.2=0))<|AW (decide (hd.1.fID=([101,49,46,48]:Ak)))<|AW (decide (hd.1.fCause=([101,49]:Ak)))<|AW (decide ((he.length:Int)=3))<|AW (Da 2 (he.length:Int))<|AW (decide ((At he 2)=([97]:Ak)))<|B3 (BA F (AA.mk ha.fID ha.fTenant ha.fSource ha.fKey (-1) ha.fCause ha.fBody)) λhj=>AW (decide (hj=2))<|B3 (DQ) λhk=>B3 (SZ (AA.mk ha.fID ha.fTenant ha.fSource ha.fKey (-1) ha.fCause ha.fBody) hk) λhl=>some (decide (hl=(-1)))
end Go.Proofs.YtailcjmjkmjelaaGreatDoor
namespace Go.Proofs.YtailcjmjkmjelaaGreatDoor.Q
open Go Go.RowKit
set_option linter.unusedVariables false
set_option linter.unusedSimpArgs false
set_option maxRecDepth 100000
set_option maxHeartbeats 4000000
theorem HP {n:Nat}{c:Cx}{l:Fr}{H:List Ent}{d:Option Nat}{ty:TypeId}{pos:String}{af:Array Edge}{g:Option (Nat×Bool)}{x0:Operand}{r0:Rp}(h0:ev l x0=some r0)(u0:r0.one=true){x1:Operand}{r1:Rp}(h1:ev l x1=some r1)(u1:r1.one=true){x2:Operand}{r2:Rp}(h2:ev l x2=some r2)(u2:r2.one=true){x4:Operand}{r4:Rp}(h4:ev l x4=some r4)(u4:r4.one=true){x6:Operand}{r6:Rp}(h6:ev l x6=some r6)(u6:r6.one=true):Bd Tryz.prog n c l H { dst:=d,op:=.build 24 #[(0,x0),(1,x1),(2,x2),(4,x4),(6,x6)],type:=ty,pos:=pos,after:=af,guard:=g } (Bo [r0,r1,r2,rS ([]:Ak),r4,rS ([]:Ak),r6]):=λa w Z ha _=>by
  have p0:=ha.ev h0;have c0:=Bw (r0.hone u0 Z _ p0);have p1:=ha.ev h1;have c1:=Bw (r1.hone u1 Z _ p1);have p2:=ha.ev h2;have c2:=Bw (r2.hone u2 Z _ p2);have p4:=ha.ev h4;have c4:=Bw (r4.hone u4 Z _ p4);have p6:=ha.ev h6;have c6:=Bw (r6.hone u6 Z _ p6);have hb:Tryz.prog.built 24 [(0,a.eval x0),(1,a.eval x1),(2,a.eval x2),(4,a.eval x4),(6,a.eval x6)]=some #[a.eval x0,a.eval x1,a.eval x2,(.string ⟨#[]⟩),a.eval x4,(.string ⟨#[]⟩),a.eval x6]:=by
    rw[Mh];generalize a.eval x0=v0 at *;generalize a.eval x1=v1 at *;generalize a.eval x2=v2 at *;generalize a.eval x4=v4 at *;generalize a.eval x6=v6 at *;simp[Instr.fill,c0,c1,c2,c4,c6]
  refine⟨.agg #[a.eval x0,a.eval x1,a.eval x2,(.string ⟨#[]⟩),a.eval x4,(.string ⟨#[]⟩),a.eval x6],⟨[a.eval x0,a.eval x1,a.eval x2,(.string ⟨#[]⟩),a.eval x4,(.string ⟨#[]⟩),a.eval x6],rfl,p0,p1,p2,rfl,p4,rfl,p6,trivial⟩,?_⟩;have:=run_build w 24 #[(0,a.eval x0),(1,a.eval x1),(2,a.eval x2),(4,a.eval x4),(6,a.eval x6)] _ (by simpa using hb);simp[execOp,this]
theorem J7 (s:Ak)(r:Bool)(h:BQ s=some r):Fn Tryz.prog GE 32 [rS s] [] (λR H=>R=rB r∧H=[]):=by
 refine enter (n:=9) Tryz.func32 Aa Tryz.ntmps32 Aa (λw Z=>?_);refine AR (l':=[(0,rS s)]) (H':=[]) Aa Aa ?_;unfold BQ at h;refine Al (wv (r:=rB false) (Ae Aa) (As ?_));obtain⟨g1,h2⟩:=Az h;refine AB [(2,rB ((decide (s=([]:Ak)))||(Cs s)))] [] ?_ ?_
 ·refine Ai (wm Aa (wv (Co Aa Aa) (wm Aa (A7 (decide (s=([]:Ak))) (λc3=>?_) (λc3=>?_)))))
  ·refine wf c3 (wf c3 (wv (r:=rB true) (Ao (b:=decide (s=([]:Ak))) Aa c3 Aa) (wa Aa (Aj ?_))));exact BO c3
  ·refine wo c3 (wm Aa (wo c3 (Ca (rs:=[rS s]) (r:=rB (Cs s)) Tryz.call31 Aa (Ou s (CG g1 c3)) Aa Aa (ET Aa c3 Aa (wa Aa (Aj ?_))))));exact BO c3
 refine Ay ?_;obtain rfl:=A0 h2;exact Ax (BG Tryz.results32 (AM Aa)) sN ⟨Aa,Aa⟩
theorem Ef (F:Nat)(e:AA)(r:Int)(h:Bz F e=some r):Fn Tryz.prog GE 11 [Bo (A9 e)] [] (λR H=>R=rI .i64 r∧H=[]):=by
 refine enter (n:=42) Tryz.func11 Aa Tryz.ntmps11 Aa (λw Z=>?_);refine AR (l':=[(0,Bo (A9 e))]) (H':=[]) Aa Aa ?_;unfold Bz at h;refine Al (BP Aa Aa (λb1=>?_));refine wv (r:=rI .i64 0) (Ae Aa) (As (Am ?_));obtain⟨g2,h3⟩:=Az h;obtain⟨g4,h5⟩:=Az h3;obtain⟨g6,h7⟩:=Az h5;obtain⟨g8,h9⟩:=Az h7;obtain⟨hk,hi⟩:=Az h9;refine AB [(1,rv (.pointer (some ⟨b1,0,none⟩))),(30,rB ((!(Cs e.fID))||((!(Cs e.fTenant))||((!(Cs e.fSource))||((!(ov (BQ e.fKey)))||(!(ov (BQ e.fCause))))))))] [.blk b1 (A9 e) 24] ?_ ?_
 ·refine Ai (wv (Ad BI Aa BU Aa Aa) (wv (Aq (i:=0) Cg Aa Aa Aa) (Ca (rs:=[rS e.fID]) (r:=rB (Cs e.fID)) Tryz.call31 Aa (Ou e.fID g2) Aa Aa (wv (BL Aa) (wm Aa (A7 (!(Cs e.fID)) (λha=>?_) (λha=>?_)))))))
  ·refine wf ha (wf ha (wf ha (wf ha (wv (r:=rB true) (Ao (b:=!(Cs e.fID)) Aa ha Aa) (wm Aa (Ag (b:=true) Aa Aa Aa Aa (Ag (b:=true) Aa Aa Aa Aa (Ag (b:=true) Aa Aa Aa Aa (Ag (b:=true) Aa Aa Aa Aa (wv (r:=rB true) (Ao (b:=true) Aa Aa Aa) (wm Aa (Ag (b:=true) Aa Aa Aa Aa (Ag (b:=true) Aa Aa Aa Aa (Ag (b:=true) Aa Aa Aa Aa (Ag (b:=true) Aa Aa Aa Aa (wv (r:=rB true) (Ao (b:=true) Aa Aa Aa) (wm Aa (Ag (b:=true) Aa Aa Aa Aa (Ag (b:=true) Aa Aa Aa Aa (Ag (b:=true) Aa Aa Aa Aa (Ag (b:=true) Aa Aa Aa Aa (wv (r:=rB true) (Ao (b:=true) Aa Aa Aa) (Aj ?_)))))))))))))))))))))));exact BO ha
  ·refine wo ha (wv (Ad BI Aa BU Aa Aa) (wo ha (wv (Aq (i:=0) Cg Aa Aa Aa) (wo ha (Ca (rs:=[rS e.fTenant]) (r:=rB (Cs e.fTenant)) Tryz.call31 Aa (Ou e.fTenant (CG g4 ha)) Aa Aa (wo ha (wv (BL Aa) (ET Aa ha Aa (wm Aa (A7 (!(Cs e.fTenant)) (λhd=>?_) (λhd=>?_)))))))))))
   ·refine wf hd (wf hd (wf hd (wf hd (wv (r:=rB true) (Ao (b:=!(Cs e.fTenant)) Aa hd Aa) (wm Aa (Ag (b:=true) Aa Aa Aa Aa (Ag (b:=true) Aa Aa Aa Aa (Ag (b:=true) Aa Aa Aa Aa (Ag (b:=true) Aa Aa Aa Aa (wv (r:=rB true) (Ao (b:=true) Aa Aa Aa) (wm Aa (Ag (b:=true) Aa Aa Aa Aa (Ag (b:=true) Aa Aa Aa Aa (Ag (b:=true) Aa Aa Aa Aa (Ag (b:=true) Aa Aa Aa Aa (wv (r:=rB true) (Ao (b:=true) Aa Aa Aa) (Aj ?_)))))))))))))))));exact BO (And.intro ha hd)
   ·refine wo hd (wv (Ad BI Aa BU Aa Aa) (wo hd (wv (Aq (i:=0) Cg Aa Aa Aa) (wo hd (Ca (rs:=[rS e.fSource]) (r:=rB (Cs e.fSource)) Tryz.call31 Aa (Ou e.fSource (CG (CG g6 ha) hd)) Aa Aa (wo hd (wv (BL Aa) (ET Aa hd Aa (wm Aa (A7 (!(Cs e.fSource)) (λhe=>?_) (λhe=>?_)))))))))))
    ·refine wf he (wf he (wf he (wf he (wv (r:=rB true) (Ao (b:=!(Cs e.fSource)) Aa he Aa) (wm Aa (Ag (b:=true) Aa Aa Aa Aa (Ag (b:=true) Aa Aa Aa Aa (Ag (b:=true) Aa Aa Aa Aa (Ag (b:=true) Aa Aa Aa Aa (wv (r:=rB true) (Ao (b:=true) Aa Aa Aa) (Aj ?_)))))))))));exact BO (And.intro ha (And.intro hd he))
    ·refine wo he (wv (Ad BI Aa BU Aa Aa) (wo he (wv (Aq (i:=0) Cg Aa Aa Aa) (wo he (C9 Tryz.call32 (J7 e.fKey (ov (BQ e.fKey)) (D9 (CG (CG (CG g8 ha) hd) he))) Aa (wo he (wv (BL Aa) (ET Aa he Aa (wm Aa (A7 (!(ov (BQ e.fKey))) (λhf=>?_) (λhf=>?_)))))))))))
     ·refine wf hf (wf hf (wf hf (wf hf (wv (r:=rB true) (Ao (b:=!(ov (BQ e.fKey))) Aa hf Aa) (Aj ?_)))));exact BO (And.intro ha (And.intro hd (And.intro he hf)))
     ·refine wo hf (wv (Ad BI Aa BU Aa Aa) (wo hf (wv (Aq (i:=0) Cg Aa Aa Aa) (wo hf (C9 Tryz.call32 (J7 e.fCause (ov (BQ e.fCause)) (D9 (CG (CG (CG (CG hk ha) hd) he) hf))) Aa (wo hf (wv (BL Aa) (ET Aa hf Aa (Aj ?_)))))))));exact BO (And.intro ha (And.intro hd (And.intro he hf)))
 refine Au (b:=((!(Cs e.fID))||((!(Cs e.fTenant))||((!(Cs e.fSource))||((!(ov (BQ e.fKey)))||(!(ov (BQ e.fCause)))))))) Aa (λhh=>?_) (λhh=>?_)
 ·have hl:=AE hh hi;refine Al (wv (r:=rI .i64 4) (Ae Aa) (As (Ay (Af ?_))));obtain rfl:=A0 hl;exact Ax (BG Tryz.results11 (AM Aa)) (sS sN) ⟨Aa,Aa⟩
 ·have hj:=AF hh hi;refine Aw (AP (Am (AB [(1,rv (.pointer (some ⟨b1,0,none⟩))),(38,rB ((decide (e.fAt<0))||(decide (1073741824<e.fAt))))] [.blk b1 (A9 e) 24] ?_ ?_)))
  ·refine Ai (wv (Ad BI Aa Cf Aa Aa) (wv (Aq (i:=0) CC Aa Aa Aa) (wv (C8 Aa Aa) (wm Aa (A7 (decide (e.fAt<0)) (λhg=>?_) (λhg=>?_))))))
   ·refine wf hg (wf hg (wf hg (wv (r:=rB true) (Ao (b:=decide (e.fAt<0)) Aa hg Aa) (Aj ?_))));exact BO hg
   ·refine wo hg (wv (Ad BI Aa Cf Aa Aa) (wo hg (wv (Aq (i:=0) CC Aa Aa Aa) (wo hg (wv (C1 Aa Aa) (ET Aa hg Aa (Aj ?_)))))));exact BO hg
  refine Au (b:=((decide (e.fAt<0))||(decide (1073741824<e.fAt)))) Aa (λc20=>?_) (λc20=>?_)
  ·have hm:=AE c20 hj;refine Al (wv (r:=rI .i64 2) (Ae Aa) (As (Ay (Af ?_))));obtain rfl:=A0 hm;exact Ax (BG Tryz.results11 (AM Aa)) (sS sN) ⟨Aa,Aa⟩
  ·have hn:=AF c20 hj;refine Aw (AP (Al (wv (Ad BI Aa Di Aa Aa) (wv (Aq (i:=0) Gb Aa Aa Aa) ?_))));obtain⟨ho,hp,hq⟩:=AH hn;refine C9 Tryz.call33 (M8 F e.fBody ho hp) Aa (wa Aa (As (Ay ?_)));obtain rfl:=A0 hq;exact Ax (BG Tryz.results11 (AM Aa)) (sS sN) ⟨Aa,Aa⟩
theorem K9 (F:Nat)(e:AA)(r:Ak×Int)(h:Gw F e=some r):Fn Tryz.prog GE 7 [Bo (A9 e)] [] (λR H=>R=CV [rS r.1,rI .i64 r.2]∧H=[]):=by
 refine enter (n:=36) Tryz.func7 Aa Tryz.ntmps7 Aa (λw Z=>?_);refine AR (l':=[(0,Bo (A9 e))]) (H':=[]) Aa Aa ?_;unfold Gw at h;refine Al (BP Aa Aa (λb1=>?_));refine wv (r:=rS ([]:Ak)) (Ae Aa) (wv (r:=rI .i64 0) (Ae Aa) (Bv (wv (AS (i:=0) CP Cb Aa Aa Aa Aa) ?_)));obtain⟨r2,e4,h3⟩:=AH h;refine C9 Nr (Ef F e r2 e4) Aa (wa Aa (As (Am (Al (wm Aa (wv (DB Aa Aa) (As (Au (b:=!decide (r2=0)) Aa (λc5=>?_) (λc5=>?_)))))))))
 ·have h6:=AE c5 h3;refine Al (wm Aa (wv (r:=rS ([]:Ak)) (Ae Aa) (wa Aa (As (Ay (Af ?_))))));obtain rfl:=A0 h6;exact Ax (El Tryz.results7 (AM Aa) (AM Aa)) (sS sN) ⟨Aa,Aa⟩
 ·have h7:=AF c5 h3;refine Aw (AP (Al (wv (Ad BI Aa Di Aa Aa) (wv (Aq (i:=0) Gb Aa Aa Aa) ?_))));obtain⟨r8,hd,h9⟩:=AH h7;refine C9 Tryz.call22 (OX F e.fBody r8 hd) Aa (wm Aa (wv (AD Aa Aa) (wv (AD Aa Aa) (wa Aa (wa Aa (As (Am ?_)))))));obtain⟨he,hf⟩:=Az h9;obtain⟨ha,hg,hh⟩:=AH hf;refine Cu [1,5] [⟨[],rv (.pointer (some ⟨b1,0,none⟩)),0⟩,⟨[0],rS e.fID,1⟩,⟨[],rv (.pointer (some ⟨b1,1,none⟩)),0⟩,⟨[2],rS e.fTenant,1⟩,⟨[],rv (.pointer (some ⟨b1,2,none⟩)),0⟩,⟨[4],rS e.fSource,1⟩,⟨[],rv (.pointer (some ⟨b1,3,none⟩)),0⟩,⟨[6],rS e.fKey,1⟩,⟨[],rv (.pointer (some ⟨b1,4,none⟩)),0⟩,⟨[8],rI .i64 e.fAt,1⟩,⟨[9],rS (Lib.itoa e.fAt),0⟩,⟨[],rv (.pointer (some ⟨b1,5,none⟩)),0⟩,⟨[11],rS e.fCause,1⟩,⟨[],rS r8.1,0⟩,⟨[1,3,5,7,10,12,13],Bl 1 (List.map eS ([e.fID,e.fTenant,e.fSource,e.fKey,Lib.itoa e.fAt,e.fCause,r8.1]:List Ak)),0⟩,⟨[14],CV [rS ha.1,rI .i64 ha.2],0⟩,⟨[15],rS ha.1,0⟩,⟨[15],rI .i64 ha.2,0⟩,⟨[16],rS ha.1,0⟩,⟨[17],rI .i64 ha.2,0⟩] [2,3] ?_ ?_
  ·refine oq (Ad BI Aa BU Aa Aa) (of (Aq (i:=0) Cg Aa Aa Aa) (oq (Ad BI Aa BU Aa Aa) (of (Aq (i:=0) Cg Aa Aa Aa) (oq (Ad BI Aa BU Aa Aa) (of (Aq (i:=0) Cg Aa Aa Aa) (oq (Ad BI Aa BU Aa Aa) (of (Aq (i:=0) Cg Aa Aa Aa) (oq (Ad BI Aa Cf Aa Aa) (of (Aq (i:=0) CC Aa Aa Aa) (Ct Aa (λH=>Hx (rs:=[rI .i64 e.fAt]) (r:=rS (Lib.itoa e.fAt)) Tryz.call24 Aa (Pq e.fAt he) Aa) ?_))))))))));refine oq (Ad BI Aa BU Aa Aa) (of (Aq (i:=0) Cg Aa Aa Aa) (oq (Ah Aa) (Ct Aa (λH=>DA (ys:=([e.fID,e.fTenant,e.fSource,e.fKey,Lib.itoa e.fAt,e.fCause,r8.1]:List Ak)) (enc:=eS) (css:=[[rS e.fID],[rS e.fTenant],[rS e.fSource],[rS e.fKey],[rS (Lib.itoa e.fAt)],[rS e.fCause],[rS r8.1]]) (xs:=[.tmp 19,.tmp 21,.tmp 23,.tmp 25,.tmp 28,.tmp 30,.tmp 31]) Dc BU Tl Aa Aa Aa ⟨Gk.one Aa (Up.refl _),Gk.one Aa (Up.refl _),Gk.one Aa (Up.refl _),Gk.one Aa (Up.refl _),Gk.one Aa (Up.refl _),Gk.one Aa (Up.refl _),Gk.one Aa (Up.refl _),trivial⟩ Aa GU Aa Aa) ?_)));refine Ct Aa (λH=>Dg Tryz.call23 (Qk F ([e.fID,e.fTenant,e.fSource,e.fKey,Lib.itoa e.fAt,e.fCause,r8.1]:List Ak) ha hg) Aa) ?_;refine oq (AD Aa Aa) (oq (AD Aa Aa) (oq (Ae Aa) (oq (Ae Aa) ?_)));exact BS
  refine AP (Ay ?_);obtain rfl:=A0 hh;exact Ax (El Tryz.results7 (AM Aa) (AM Aa)) (sS sN) ⟨Aa,Aa⟩
theorem R8 (F:Nat)(s:Ak)(r:Int)(h:Ob F s=some r):Fn Tryz.prog GE 28 [rS s] [] (λR H=>R=rI .u64 r∧H=[]):=by
 refine enter (n:=19) Tryz.func28 Aa Tryz.ntmps28 Aa (λw Z=>?_);refine AR (l':=[(0,rS s)]) (H':=[]) Aa Aa ?_;unfold Ob at h;refine Al (wv (r:=rI .u64 0) (Ae Aa) (Bv (wv (r:=rI .u64 14695981039346656037) (Ae Aa) (As (Am (Al (wv (r:=rI .i64 0) (Ae Aa) (As (AJ ?_)))))))));obtain⟨hj,hk,hl⟩:=AH h;refine B2 (S:=Nat×(Int×Int)×(Unit)) (V:=(Int)×(Unit)) 0 (λσ=>Cn (λσ=>IC s σ.1 σ.2) σ.1 σ.2.1=some hj) (λσ=>[(0,rS s),(2,rI .u64 0),(3,rI .u64 σ.2.1.1),(4,rI .i64 σ.2.1.2)]) (λσ=>[]) (λσ=>σ.1) (F,(14695981039346656037,0),()) hk (AK.c Aa (AK.c Aa (AK.c Aa (AK.c Aa AK.nil)))) sN (λσ=>IB σ.1=some r) (λσ=>[(2,rI .u64 0),(3,rI .u64 σ.1)]) (λσ=>[]) ?_ ?_
 ·rintro⟨hy,⟨hd,ha⟩,⟨⟩⟩ hm;refine AR (l':=[(0,rS s),(2,rI .u64 0),(3,rI .u64 hd),(4,rI .i64 ha)]) (H':=[]) Aa Aa ?_;obtain⟨hn,rfl,ho,he,hh⟩:=CM hm;replace he:IC s hd ha=some ho:=he;unfold IC at he;refine Am (Al (wm Aa (wm Aa (wv (AZ Ce Aa) (wv (C8 Aa Aa) (As (Au (b:=decide (ha<(s.length:Int))) Aa (λhg=>?_) (λhg=>?_))))))))
  ·have hp:=AE hg he;refine Aw (AP (Am (AJ (Ai (wm Aa (wm Aa (wm Aa ?_)))))));obtain⟨hq,hr⟩:=Az hp;refine wv (Bb Ce Aa Aa hq) (wv (r:=rI .u64 (IntKind.wrap .u64 (AY s ha))) (CE ⟨_,No⟩ S5 Aa) (wv (r:=rI .u64 (Lm .u64 hd (IntKind.wrap .u64 (AY s ha)))) (So Aa Aa) (wv (r:=rI .u64 (IntKind.wrap .u64 ((Lm .u64 hd (IntKind.wrap .u64 (AY s ha)))*1099511628211))) (Qy Aa Aa) (wa Aa (Aj (AG (AP (Ai (wm Aa ?_)))))))));obtain⟨hs,ht⟩:=Az hr;refine wv (Bu Aa Aa hs) (wa Aa (Aj ?_));have hu:=Bk ht hh;exact Ap (AI (hn,(IntKind.wrap .u64 ((Lm .u64 hd (IntKind.wrap .u64 (AY s ha)))*1099511628211),ha+1),()) ⟨hu,U0 _⟩ (AK.c Aa (AK.c Aa (AK.c Aa (AK.c Aa AK.nil)))) sN)
  ·have hw:=AF hg he;refine B4 (A4 ?_);have hx:=Cv hw hh hl;exact A4 (Bt (AI (hd,()) hx (AK.c Aa (AK.c Aa AK.nil)) sN))
 ·rintro⟨hi,⟨⟩⟩ hf;refine Dd (l':=[(2,rI .u64 0),(3,rI .u64 hi)]) (H':=[]) Aa Aa ?_;replace hf:IB hi=some r:=hf;unfold IB at hf;refine Bi (AP (Al (wm Aa (wa Aa (As (Ay ?_))))));obtain rfl:=A0 hf;exact Ax (BG Tryz.results28 (AM Aa)) sN ⟨Aa,Aa⟩
theorem R9 (F:Nat)(n:Int)(r:Ak)(h:M9 F n=some r):Fn Tryz.prog GE 27 [rI .u64 n] [] (λR H=>R=rS r∧H=[]):=by
 refine enter (n:=20) Tryz.func27 Aa Tryz.ntmps27 Aa (λw Z=>?_);refine AR (l':=[(0,rI .u64 n)]) (H':=[]) Aa Aa ?_;unfold M9 at h;refine Al (wv (r:=rS ([]:Ak)) (Ae Aa) (Bv (wv (r:=rS ([]:Ak)) (Ae Aa) (As (Am (Al (wv (r:=rI .i64 0) (Ae Aa) (As (AJ ?_)))))))));obtain⟨hk,hl,hm⟩:=AH h;refine B2 (S:=Nat×(Int×Ak×Int)×(Unit)) (V:=(Ak)×(Unit)) 0 (λσ=>Cn (λσ=>D8 σ.1 σ.2.1 σ.2.2) σ.1 σ.2.1=some hk) (λσ=>[(0,rI .u64 σ.2.1.1),(2,rS ([]:Ak)),(3,rS σ.2.1.2.1),(4,rI .i64 σ.2.1.2.2)]) (λσ=>[]) (λσ=>σ.1) (F,(n,([]:Ak),0),()) hl (AK.c Aa (AK.c Aa (AK.c Aa (AK.c Aa AK.nil)))) sN (λσ=>ID σ.1=some r) (λσ=>[(2,rS ([]:Ak)),(3,rS σ.1)]) (λσ=>[]) ?_ ?_
 ·rintro⟨h8,⟨ha,he,hf⟩,⟨⟩⟩ hn;refine AR (l':=[(0,rI .u64 ha),(2,rS ([]:Ak)),(3,rS he),(4,rI .i64 hf)]) (H':=[]) Aa Aa ?_;obtain⟨ho,rfl,hp,hd,hi⟩:=CM hn;replace hd:D8 ha he hf=some hp:=hd;unfold D8 at hd;refine Am (Al (wm Aa (wv (C8 Aa Aa) (As (Au (b:=decide (hf<16)) Aa (λhh=>?_) (λhh=>?_))))))
  ·have hq:=AE hh hd;refine Aw (AP (Am (AJ (Al (wm Aa (wv (r:=rI .u64 (Ej .u64 ha 15)) (Ok Aa Aa) (wm Aa (wv (r:=rI .u64 (Ej .u64 ha 15)) (Ok Aa Aa) (wv (r:=rI .u64 (IntKind.wrap .u64 ((Ej .u64 ha 15)+1))) (LT Aa Aa) ?_)))))))));obtain⟨hr,hs⟩:=Az hq;obtain⟨ht,hu⟩:=Az hs;refine wv (Eg Ce Aa Aa Aa hr ht) (wm Aa ?_);obtain⟨hw,hx⟩:=Az hu;refine wv (Cz Aa Aa hw) (wa Aa (As (Ai (wm Aa (wv (r:=rI .u64 (ES .u64 ha 4)) (Qu Aa Aa (by decide)) (wa Aa (Aj (AG (AP (Ai (wm Aa ?_)))))))))));obtain⟨hy,hz⟩:=Az hx;refine wv (Bu Aa Aa hy) (wa Aa (Aj ?_));have h0:=Bk hz hi;exact Ap (AI (ho,(ES .u64 ha 4,(List.take (Int.toNat (IntKind.wrap .u64 ((Ej .u64 ha 15)+1))-Int.toNat (Ej .u64 ha 15)) (List.drop (Int.toNat (Ej .u64 ha 15)) ([48,49,50,51,52,53,54,55,56,57,97,98,99,100,101,102]:Ak)))++he,hf+1),()) ⟨h0,U0 _⟩ (AK.c Aa (AK.c Aa (AK.c Aa (AK.c Aa AK.nil)))) sN)
  ·have h6:=AF hh hd;refine B4 (A4 ?_);have h7:=Cv h6 hi hm;exact A4 (Bt (AI (he,()) h7 (AK.c Aa (AK.c Aa AK.nil)) sN))
 ·rintro⟨hj,⟨⟩⟩ hg;refine Dd (l':=[(2,rS ([]:Ak)),(3,rS hj)]) (H':=[]) Aa Aa ?_;replace hg:ID hj=some r:=hg;unfold ID at hg;refine Bi (AP (Al (wm Aa (wa Aa (As (Ay ?_))))));obtain rfl:=A0 hg;exact Ax (BG Tryz.results27 (AM Aa)) sN ⟨Aa,Aa⟩
theorem N7 (F:Nat)(e:AA)(r:Ak×Int)(h:Hw F e=some r):Fn Tryz.prog GE 9 [Bo (A9 e)] [] (λR H=>R=CV [rS r.1,rI .i64 r.2]∧H=[]):=by
 refine enter (n:=17) Tryz.func9 Aa Tryz.ntmps9 Aa (λw Z=>?_);refine AR (l':=[(0,Bo (A9 e))]) (H':=[]) Aa Aa ?_;unfold Hw at h;refine Al (BP Aa Aa (λb1=>?_));refine wv (r:=rS ([]:Ak)) (Ae Aa) (wv (r:=rI .i64 0) (Ae Aa) (Bv (wv (AS (i:=0) CP Cb Aa Aa Aa Aa) ?_)));obtain⟨r2,e4,h3⟩:=AH h;refine C9 Tryz.call7 (K9 F e r2 e4) Aa (wm Aa (wv (AD Aa Aa) (wv (AD Aa Aa) (wa Aa (wa Aa (As (Am (Al (wm Aa (wv (DB Aa Aa) (As (Au (b:=!decide (r2.2=0)) Aa (λc5=>?_) (λc5=>?_)))))))))))))
 ·have h6:=AE c5 h3;refine Al (wm Aa (wv (r:=rS ([]:Ak)) (Ae Aa) (wa Aa (As (Ay (Af ?_))))));obtain rfl:=A0 h6;exact Ax (El Tryz.results9 (AM Aa) (AM Aa)) (sS sN) ⟨Aa,Aa⟩
 ·have h7:=AF c5 h3;refine Aw (AP (Al (wm Aa ?_)));obtain⟨r8,ha,h9⟩:=AH h7;refine C9 Tryz.call28 (R8 F r2.1 r8 ha) Aa ?_;obtain⟨hd,he,hf⟩:=AH h9;refine C9 Tryz.call27 (R9 F r8 hd he) Aa (wa Aa (wv (r:=rI .i64 0) (Ae Aa) (As (Ay ?_))));obtain rfl:=A0 hf;exact Ax (El Tryz.results9 (AM Aa) (AM Aa)) (sS sN) ⟨Aa,Aa⟩
theorem DP  (r:AA)(h:DQ=some r):Fn Tryz.prog GE 13 [] [] (λR H=>R=Bo (A9 r)∧H=[]):=by
 refine enter (n:=4) Tryz.func13 Aa Tryz.ntmps13 Aa (λw Z=>?_);refine AR (l':=[]) (H':=[]) Aa Aa ?_;unfold DQ at h;refine Al (Ci (cs:=[rS ([]:Ak),rS ([]:Ak),rS ([]:Ak),rS ([]:Ak),rI .i64 0,rS ([]:Ak),rv (.slice none 0 0)]) Mn Aa Aa (λb1=>?_));refine Bv (wv (r:=Bo [rI .i64 1,rI .i64 0,rS ([]:Ak),rI .i64 0]) (Ep Aa Aa) (Bp (ys:=([(Ac.mk 1 0 ([]:Ak) 0)]:List Ac)) (enc:=Ab) (css:=[[rI .i64 1,rI .i64 0,rS ([]:Ak),rI .i64 0]]) (xs:=[.tmp 1]) BN Cm Ia Aa Aa Aa ⟨Gk.agg ⟨Up.refl _,Up.refl _,Up.refl _,Up.refl _,trivial⟩,trivial⟩ Aa Bj Aa Aa Aa (λb2=>?_)));refine wv (r:=Bo [rS ([101,49]:Ak),rS ([116]:Ak),rS ([115]:Ak),rS ([]:Ak),rI .i64 5,rS ([]:Ak),rv (.slice (some ⟨b2,0,none⟩) 1 1)]) (HP Aa Aa Aa Aa Aa Aa Aa Aa Aa Aa) (Bg (i:=1) Cb Aa Aa Aa ⟨(BV Aa),(BV Aa),(BV Aa),(BV Aa),(BV Aa),(BV Aa),(D0 (i:=0) Aa),trivial⟩ Aa Aa (cs':=[rS ([101,49]:Ak),rS ([116]:Ak),rS ([115]:Ak),rS ([]:Ak),rI .i64 5,rS ([]:Ak),rv (.slice (some ⟨b2,0,none⟩) 1 1)]) Aa (H':=[.row (.slice (some ⟨b2,0,none⟩) 1 1) 50 4 (List.map Ab ([(Ac.mk 1 0 ([]:Ak) 0)]:List Ac)),.blk b1 [rS ([101,49]:Ak),rS ([116]:Ak),rS ([115]:Ak),rS ([]:Ak),rI .i64 5,rS ([]:Ak),rv (.slice (some ⟨b2,0,none⟩) 1 1)] 24]) Aa (As (Ay (WK.freeze (i:=0) Aa (WK.upBlk (i:=1) (cs':=[rS ([101,49]:Ak),rS ([116]:Ak),rS ([115]:Ak),rS ([]:Ak),rI .i64 5,rS ([]:Ak),Bl 4 (List.map Ab ([(Ac.mk 1 0 ([]:Ak) 0)]:List Ac))]) Aa ⟨Up.refl _,Up.refl _,Up.refl _,Up.refl _,Up.refl _,Up.refl _,Up.fact (i:=0) Aa,trivial⟩ ?_)))));obtain rfl:=A0 h;exact Ax (BG Tryz.results13 (Ev (i:=1) CP Cb Aa Aa Aa)) (sS (sS sN)) ⟨Aa,Aa⟩
theorem QP (F:Nat)(v:(List Ac))(r:Bool)(h:KN F v=some r):Fn Tryz.prog GE 12 [Bl 4 (List.map Ab v)] [] (λR H=>R=rB r∧H=[]):=by
 refine enter (n:=20) Tryz.func12 Aa Tryz.ntmps12 Aa (λw Z=>?_);refine AR (l':=[(0,Bl 4 (List.map Ab v))]) (H':=[]) Aa Aa ?_;unfold KN at h;refine Al (wv (r:=rB false) (Ae Aa) (As (Am (Al (wm Aa (wv (BB (ys:=v) (enc:=Ab) BN Aa) (wv (C1 Aa Aa) (As (Au (b:=decide (250<(v.length:Int))) Aa (λc1=>?_) (λc1=>?_))))))))))
 ·have h2:=AE c1 h;refine Al (wv (r:=rB false) (Ae Aa) (As (Ay (Af ?_))));obtain rfl:=A0 h2;exact Ax (BG Tryz.results12 (AM Aa)) sN ⟨Aa,Aa⟩
 ·have h3:=AF c1 h;refine Aw (AP (Am (Al (wm Aa (wv (BB (ys:=v) (enc:=Ab) BN Aa) (wv (r:=rI .i64 0) (Ah Aa) (As (AJ ?_))))))));obtain⟨hk,hl,hi⟩:=AH h3;refine B2 (S:=Nat×(Int)×(Unit)) (V:=(Unit)×(Unit)) 0 (λσ=>Cn (λσ=>DR v σ) σ.1 σ.2.1=some hk) (λσ=>[(0,Bl 4 (List.map Ab v)),(2,rB false),(8,rI .i64 (v.length:Int)),(9,rI .i64 σ.2.1)]) (λσ=>[]) (λσ=>σ.1) (F,0,()) hl (AK.c Aa (AK.c Aa (AK.c Aa (AK.c Aa AK.nil)))) sN (λσ=>G4 =some r) (λσ=>[(2,rB false)]) (λσ=>[]) ?_ ?_
  ·rintro⟨hz,ha,⟨⟩⟩ hm;refine AR (l':=[(0,Bl 4 (List.map Ab v)),(2,rB false),(8,rI .i64 (v.length:Int)),(9,rI .i64 ha)]) (H':=[]) Aa Aa ?_;obtain⟨hn,rfl,t37,hd,hf⟩:=CM hm;replace hd:DR v ha=some t37:=hd;unfold DR at hd;refine Al (wv (C8 Aa Aa) (As (Am (Au (b:=decide (ha<(v.length:Int))) Aa (λhg=>?_) (λhg=>?_)))))
   ·have ho:=AE hg hd;refine Aw (AP (Am (AJ (Al (wm Aa (wa Aa (Bv (wm Aa (wm Aa ?_)))))))));obtain⟨hp,hj⟩:=Az ho;refine wv (BH (enc:=Ab) (ys:=v) BN Cm Aa Aa hp) (wv (BF Bm Aa BU Aa Aa) (wv (B7 Cg Aa Aa) (wv (AZ Ce Aa) (wv (C1 Aa Aa) (As (Au (b:=decide (250<(((At v ha).fStr).length:Int))) Aa (λhh=>?_) (λhh=>?_)))))))
    ·have hq:=AE hh hj;refine Al (wv (r:=rB false) (Ae Aa) (As (Ay (A5 (Af (Af (Bf ?_)))))));have hr:=B5 hq hf hi;refine A5 (Af ?_);obtain rfl:=A0 hr;exact Ax (BG Tryz.results12 (AM Aa)) sN ⟨Aa,Aa⟩
    ·have hs:=AF hh hj;refine Aw (AG (AP (Ai ?_)));obtain⟨ht,hu⟩:=Az hs;refine wv (Bu Aa Aa ht) (wm Aa (Aj ?_));have hw:=Bk hu hf;exact Ap (AI (hn,ha+1,()) ⟨hw,U0 _⟩ (AK.c Aa (AK.c Aa (AK.c Aa (AK.c Aa AK.nil)))) sN)
   ·have hx:=AF hg hd;refine B4 (A4 ?_);have hy:=Cv hx hf hi;exact A4 (Bt (AI ((),()) hy (AK.c Aa AK.nil) sN))
  ·rintro⟨⟨⟩,⟨⟩⟩ he;refine Dd (l':=[(2,rB false)]) (H':=[]) Aa Aa ?_;replace he:G4 =some r:=he;unfold G4 at he;refine Bi (AP (Al (wv (r:=rB true) (Ae Aa) (As (Ay ?_)))));obtain rfl:=A0 he;exact Ax (BG Tryz.results12 (AM Aa)) sN ⟨Aa,Aa⟩
theorem Pw (F:Nat)(e:AA)(r:Bool)(h:IQ F e=some r):Fn Tryz.prog GE 4 [Bo (A9 e)] [] (λR H=>R=rB r∧H=[]):=by
 refine enter (n:=34) Tryz.func4 Aa Tryz.ntmps4 Aa (λw Z=>?_);refine AR (l':=[(0,Bo (A9 e))]) (H':=[]) Aa Aa ?_;unfold IQ at h;refine Al (BP Aa Aa (λb1=>?_));refine wv (r:=rB false) (Ae Aa) (As (Am (AB [(1,rv (.pointer (some ⟨b1,0,none⟩))),(30,rB ((decide (100<(e.fID.length:Int)))||((decide (100<(e.fTenant.length:Int)))||((decide (100<(e.fSource.length:Int)))||((decide (100<(e.fKey.length:Int)))||(decide (100<(e.fCause.length:Int))))))))] [.blk b1 (A9 e) 24] ?_ ?_)))
 ·refine Ai (wv (Ad BI Aa BU Aa Aa) (wv (Aq (i:=0) Cg Aa Aa Aa) (wv (AZ Ce Aa) (wv (C1 Aa Aa) (wm Aa (A7 (decide (100<(e.fID.length:Int))) (λc2=>?_) (λc2=>?_)))))))
  ·refine wf c2 (wf c2 (wf c2 (wf c2 (wv (r:=rB true) (Ao (b:=decide (100<(e.fID.length:Int))) Aa c2 Aa) (wm Aa (Ag (b:=true) Aa Aa Aa Aa (Ag (b:=true) Aa Aa Aa Aa (Ag (b:=true) Aa Aa Aa Aa (Ag (b:=true) Aa Aa Aa Aa (wv (r:=rB true) (Ao (b:=true) Aa Aa Aa) (wm Aa (Ag (b:=true) Aa Aa Aa Aa (Ag (b:=true) Aa Aa Aa Aa (Ag (b:=true) Aa Aa Aa Aa (Ag (b:=true) Aa Aa Aa Aa (wv (r:=rB true) (Ao (b:=true) Aa Aa Aa) (wm Aa (Ag (b:=true) Aa Aa Aa Aa (Ag (b:=true) Aa Aa Aa Aa (Ag (b:=true) Aa Aa Aa Aa (Ag (b:=true) Aa Aa Aa Aa (wv (r:=rB true) (Ao (b:=true) Aa Aa Aa) (Aj ?_)))))))))))))))))))))));exact BO c2
  ·refine wo c2 (wv (Ad BI Aa BU Aa Aa) (wo c2 (wv (Aq (i:=0) Cg Aa Aa Aa) (wo c2 (wv (AZ Ce Aa) (wo c2 (wv (C1 Aa Aa) (ET Aa c2 Aa (wm Aa (A7 (decide (100<(e.fTenant.length:Int))) (λc3=>?_) (λc3=>?_)))))))))))
   ·refine wf c3 (wf c3 (wf c3 (wf c3 (wv (r:=rB true) (Ao (b:=decide (100<(e.fTenant.length:Int))) Aa c3 Aa) (wm Aa (Ag (b:=true) Aa Aa Aa Aa (Ag (b:=true) Aa Aa Aa Aa (Ag (b:=true) Aa Aa Aa Aa (Ag (b:=true) Aa Aa Aa Aa (wv (r:=rB true) (Ao (b:=true) Aa Aa Aa) (wm Aa (Ag (b:=true) Aa Aa Aa Aa (Ag (b:=true) Aa Aa Aa Aa (Ag (b:=true) Aa Aa Aa Aa (Ag (b:=true) Aa Aa Aa Aa (wv (r:=rB true) (Ao (b:=true) Aa Aa Aa) (Aj ?_)))))))))))))))));exact BO (And.intro c2 c3)
   ·refine wo c3 (wv (Ad BI Aa BU Aa Aa) (wo c3 (wv (Aq (i:=0) Cg Aa Aa Aa) (wo c3 (wv (AZ Ce Aa) (wo c3 (wv (C1 Aa Aa) (ET Aa c3 Aa (wm Aa (A7 (decide (100<(e.fSource.length:Int))) (λc4=>?_) (λc4=>?_)))))))))))
    ·refine wf c4 (wf c4 (wf c4 (wf c4 (wv (r:=rB true) (Ao (b:=decide (100<(e.fSource.length:Int))) Aa c4 Aa) (wm Aa (Ag (b:=true) Aa Aa Aa Aa (Ag (b:=true) Aa Aa Aa Aa (Ag (b:=true) Aa Aa Aa Aa (Ag (b:=true) Aa Aa Aa Aa (wv (r:=rB true) (Ao (b:=true) Aa Aa Aa) (Aj ?_)))))))))));exact BO (And.intro c2 (And.intro c3 c4))
    ·refine wo c4 (wv (Ad BI Aa BU Aa Aa) (wo c4 (wv (Aq (i:=0) Cg Aa Aa Aa) (wo c4 (wv (AZ Ce Aa) (wo c4 (wv (C1 Aa Aa) (ET Aa c4 Aa (wm Aa (A7 (decide (100<(e.fKey.length:Int))) (λc5=>?_) (λc5=>?_)))))))))))
     ·refine wf c5 (wf c5 (wf c5 (wf c5 (wv (r:=rB true) (Ao (b:=decide (100<(e.fKey.length:Int))) Aa c5 Aa) (Aj ?_)))));exact BO (And.intro c2 (And.intro c3 (And.intro c4 c5)))
     ·refine wo c5 (wv (Ad BI Aa BU Aa Aa) (wo c5 (wv (Aq (i:=0) Cg Aa Aa Aa) (wo c5 (wv (AZ Ce Aa) (wo c5 (wv (C1 Aa Aa) (ET Aa c5 Aa (Aj ?_)))))))));exact BO (And.intro c2 (And.intro c3 (And.intro c4 c5)))
 refine Au (b:=((decide (100<(e.fID.length:Int)))||((decide (100<(e.fTenant.length:Int)))||((decide (100<(e.fSource.length:Int)))||((decide (100<(e.fKey.length:Int)))||(decide (100<(e.fCause.length:Int)))))))) Aa (λc6=>?_) (λc6=>?_)
 ·have h7:=AE c6 h;refine Al (wv (r:=rB false) (Ae Aa) (As (Ay (Af ?_))));obtain rfl:=A0 h7;exact Ax (BG Tryz.results4 (AM Aa)) (sS sN) ⟨Aa,Aa⟩
 ·have h8:=AF c6 h;refine Aw (AP (Al (wv (Ad BI Aa Di Aa Aa) (wv (Aq (i:=0) Gb Aa Aa Aa) ?_))));obtain⟨r9,ha,hd⟩:=AH h8;refine C9 Tryz.call12 (QP F e.fBody r9 ha) Aa (wa Aa (As (Ay ?_)));obtain rfl:=A0 hd;exact Ax (BG Tryz.results4 (AM Aa)) (sS sN) ⟨Aa,Aa⟩
theorem L7 (F:Nat)  (r:Bool)(h:DY F=some r):Fn Tryz.prog GE 5 [] [] (λR H=>R=rB r∧H=[]):=by
 refine enter (n:=76) Tryz.func5 Aa Tryz.ntmps5 Aa (λw Z=>?_);refine AR (l':=[]) (H':=[]) Aa Aa ?_;unfold DY at h;refine Al (wv (r:=rB false) (Ae Aa) (Bv ?_));obtain⟨r1,e3,h2⟩:=AH h;refine C9 OD (DP r1 e3) Aa ?_;obtain⟨r4,e6,h5⟩:=AH h2;refine C9 Tryz.call6 (Jr F r1 r4 e6) Aa (wm Aa (wv (AD Aa Aa) (wv (AD Aa Aa) (wa Aa (wa Aa (Bv (wm Aa ?_)))))));obtain⟨r7,e9,h8⟩:=AH h5;refine C9 Tryz.call14 (P0 F r4.1 r7 e9) Aa (wm Aa (wv (AD Aa Aa) (wv (AD Aa Aa) (Ci (cs:=[rS ([]:Ak),rS ([]:Ak),rS ([]:Ak),rS ([]:Ak),rI .i64 0,rS ([]:Ak),rv (.slice none 0 0)]) Mn Aa Aa (λhk=>?_)))));refine Bg (i:=0) Cb Aa Aa Aa (BE.c Aa) Aa Aa (cs':=[rS r7.1.fID,rS r7.1.fTenant,rS r7.1.fSource,rS r7.1.fKey,rI .i64 r7.1.fAt,rS r7.1.fCause,Bl 4 (List.map Ab r7.1.fBody)]) Aa (H':=[.blk hk (A9 r7.1) 24]) Aa (wa Aa (Bv ?_));obtain⟨hx,hz,h0⟩:=AH h8;refine C9 OD (DP hx hz) Aa ?_;obtain⟨hr,h6,h7⟩:=AH h0;refine C9 OD (DP hr h6) Aa (wv (r:=Bl 4 (List.map Ab hr.fBody)) (RG BI Aa Gb Aa Aa) ?_);obtain⟨hd,h9,hA⟩:=AH h7;refine C9 Tryz.call15 (QV F hx 0 ([117]:Ak) hr.fBody 6 hd h9) Aa (wm Aa (wv (AD Aa Aa) (wv (AD Aa Aa) (Ci (cs:=[rS ([]:Ak),rS ([]:Ak),rS ([]:Ak),rS ([]:Ak),rI .i64 0,rS ([]:Ak),rv (.slice none 0 0)]) Mn Aa Aa (λhg=>?_)))));refine Bg (i:=0) Cb Aa Aa Aa (BE.c Aa) Aa Aa (cs':=[rS hd.1.fID,rS hd.1.fTenant,rS hd.1.fSource,rS hd.1.fKey,rI .i64 hd.1.fAt,rS hd.1.fCause,Bl 4 (List.map Ab hd.1.fBody)]) Aa (H':=[.blk hg (A9 hd.1) 24,.blk hk (A9 r7.1) 24]) Aa (wa Aa (Bv ?_));obtain⟨he,hB,hC⟩:=AH hA;refine C9 Tryz.call16 (NI F ([97,46,48,46,49,50]:Ak) he hB) Aa (wa Aa (Bv ?_));obtain⟨ha,hD,hE⟩:=AH hC;refine C9 OD (DP ha hD) Aa (Ci (cs:=[rS ([]:Ak),rS ([]:Ak),rS ([]:Ak),rS ([]:Ak),rI .i64 0,rS ([]:Ak),rv (.slice none 0 0)]) Mn Aa Aa (λhy=>?_));refine Bg (i:=0) Cb Aa Aa Aa (BE.c Aa) Aa Aa (cs':=[rS ha.fID,rS ha.fTenant,rS ha.fSource,rS ha.fKey,rI .i64 ha.fAt,rS ha.fCause,Bl 4 (List.map Ab ha.fBody)]) Aa (H':=[.blk hy (A9 ha) 24,.blk hg (A9 hd.1) 24,.blk hk (A9 r7.1) 24]) Aa (Bv (wv (Ad BI Aa Cf Aa Aa) (B0 (i:=0) Cf Aa Aa (BV Aa) Aa Aa (cs':=[rS ha.fID,rS ha.fTenant,rS ha.fSource,rS ha.fKey,rI .i64 (-1),rS ha.fCause,Bl 4 (List.map Ab ha.fBody)]) Aa (H':=[.blk hy [rS ha.fID,rS ha.fTenant,rS ha.fSource,rS ha.fKey,rI .i64 (-1),rS ha.fCause,Bl 4 (List.map Ab ha.fBody)] 24,.blk hg (A9 hd.1) 24,.blk hk (A9 r7.1) 24]) Aa (As (Am ?_)))));obtain⟨hs,hG⟩:=Az hE;obtain⟨hl,hH⟩:=Az hG;obtain⟨ht,hI,hJ⟩:=AH hH;obtain⟨hm,hK,hL⟩:=AH hJ;obtain⟨hu,hN⟩:=Az hL;obtain⟨hn,hO⟩:=Az hN;obtain⟨ho,hP⟩:=Az hO;obtain⟨hp,hQ⟩:=Az hP;obtain⟨hh,hR⟩:=Az hQ;obtain⟨hS,hT⟩:=Az hR;obtain⟨hq,hU⟩:=Az hT;obtain⟨hf,hV,hW⟩:=AH hU;obtain⟨hi,hX⟩:=Az hW;obtain⟨hw,hY,hZ⟩:=AH hX;obtain⟨hj,ga,gb⟩:=AH hZ;refine Cu [2,3,4,5,6,7,8] [⟨[],rI .i64 r4.2,0⟩,⟨[0],rB (decide (r4.2=0)),0⟩,⟨[1],rB (decide (r4.2=0)),0⟩,⟨[2],rI .i64 r7.2,0⟩,⟨[3,2],rB (decide (r7.2=0)),0⟩,⟨[2,4],rB (decide (r7.2=0)),0⟩,⟨[5],rB (decide (r7.2=0)),0⟩,⟨[6],Bo (A9 r7.1),1⟩,⟨[6],Bo (A9 ht),0⟩,⟨[7,8,6],rB hm,0⟩,⟨[6,9],rB hm,0⟩,⟨[10],rB hm,0⟩,⟨[11],rI .i64 hd.2,0⟩,⟨[12,11],rB (decide (hd.2=0)),0⟩,⟨[11,13],rB (decide (hd.2=0)),0⟩,⟨[14],rB (decide (hd.2=0)),0⟩,⟨[15],rv (.pointer (some ⟨hg,0,none⟩)),0⟩,⟨[16,15],rS hd.1.fID,1⟩,⟨[17,15],rB (decide (hd.1.fID=([101,49,46,48]:Ak))),0⟩,⟨[15,18],rB (decide (hd.1.fID=([101,49,46,48]:Ak))),0⟩,⟨[19],rB (decide (hd.1.fID=([101,49,46,48]:Ak))),0⟩,⟨[20],rv (.pointer (some ⟨hg,5,none⟩)),0⟩,⟨[21,20],rS hd.1.fCause,1⟩,⟨[22,20],rB (decide (hd.1.fCause=([101,49]:Ak))),0⟩,⟨[20,23],rB (decide (hd.1.fCause=([101,49]:Ak))),0⟩,⟨[24],rB (decide (hd.1.fCause=([101,49]:Ak))),0⟩,⟨[25],Bl 1 (List.map eS he),0⟩,⟨[26,25],rI .i64 (he.length:Int),0⟩,⟨[27,25],rB (decide ((he.length:Int)=3)),0⟩,⟨[25,28],rB (decide ((he.length:Int)=3)),0⟩,⟨[29],rB (decide ((he.length:Int)=3)),0⟩,⟨[30],Bl 1 (List.map eS he),0⟩,⟨[31,30],Nl [rS (At he 2)],0⟩,⟨[32,30],rS (At he 2),0⟩,⟨[33,30],rB (decide ((At he 2)=([97]:Ak))),0⟩,⟨[30,34],rB (decide ((At he 2)=([97]:Ak))),0⟩,⟨[35],rB (decide ((At he 2)=([97]:Ak))),0⟩,⟨[36],Bo [rS ha.fID,rS ha.fTenant,rS ha.fSource,rS ha.fKey,rI .i64 (-1),rS ha.fCause,Bl 4 (List.map Ab ha.fBody)],1⟩,⟨[37,36],rI .i64 hf,0⟩,⟨[38,36],rB (decide (hf=2)),0⟩,⟨[36,39],rB (decide (hf=2)),0⟩,⟨[40],rB (decide (hf=2)),0⟩,⟨[41],Bo [rS ha.fID,rS ha.fTenant,rS ha.fSource,rS ha.fKey,rI .i64 (-1),rS ha.fCause,Bl 4 (List.map Ab ha.fBody)],1⟩,⟨[41],Bo (A9 hw),0⟩,⟨[42,43,41],rI .i64 hj,0⟩,⟨[44,41],rB (decide (hj=(-1))),0⟩,⟨[41,45],rB (decide (hj=(-1))),0⟩,⟨[46],rB (decide (hj=(-1))),0⟩] [0] ?_ ?_
 ·refine oq (Ah Aa) (oq (Bh Aa Aa) (oq (Ah Aa) (on hs (oq (Ah Aa) (on hs (oq (Bh Aa Aa) (oq (Ao Aa hs Aa) (oq (Ah Aa) (on hl (of (AS (i:=2) CP Cb Aa Aa Aa Aa) (Ct Aa (λH=>HT (b:=decide (r7.2=0)) Aa Aa hl (Dg OD (DP ht hI) Aa)) ?_)))))))))));refine Ct Aa (λH=>HT (b:=decide (r7.2=0)) Aa Aa hl (Dg Tryz.call17 (Sc F r7.1 ht hm hK) Aa)) ?_;refine oq (Ao Aa hl Aa) (oq (Ah Aa) (on hu (oq (Ah Aa) (on hu (oq (Bh Aa Aa) (oq (Ao Aa hu Aa) (oq (Ah Aa) (on hn (oq (Ad BI Aa BU Aa Aa) (on hn (of (Aq (i:=1) Cg Aa Aa Aa) (on hn (oq (Co Aa Aa) (oq (Ao Aa hn Aa) (oq (Ah Aa) (on ho (oq (Ad BI Aa BU Aa Aa) (on ho (of (Aq (i:=1) Cg Aa Aa Aa) (on ho (oq (Co Aa Aa) (oq (Ao Aa ho Aa) (oq (Ah Aa) ?_)))))))))))))))))))))));refine on hp (oq (Ah Aa) (on hp (oq (BB (ys:=he) (enc:=eS) Dc Aa) (on hp (oq (Bh Aa Aa) (oq (Ao Aa hp Aa) (oq (Ah Aa) (on hh (oq (Ah Aa) (on hh (oq (BH (enc:=eS) (ys:=he) Dc BU Aa Aa hS) (on hh (oq (B7 Cg Aa Aa) (on hh (oq (Co Aa Aa) (oq (Ao Aa hh Aa) (oq (Ah Aa) (on hq (of (AS (i:=0) CP Cb Aa Aa Aa Aa) (Ct Aa (λH=>HT (b:=decide ((At he 2)=([97]:Ak))) Aa Aa hq (Dg Km (Dw F (AA.mk ha.fID ha.fTenant ha.fSource ha.fKey (-1) ha.fCause ha.fBody) hf hV) Aa)) ?_))))))))))))))))))));refine on hq (oq (Bh Aa Aa) (oq (Ao Aa hq Aa) (oq (Ah Aa) (on hi (of (AS (i:=0) CP Cb Aa Aa Aa Aa) (Ct Aa (λH=>HT (b:=decide (hf=2)) Aa Aa hi (Dg OD (DP hw hY) Aa)) ?_))))));refine Ct Aa (λH=>HT (b:=decide (hf=2)) Aa Aa hi (Dg Tryz.call18 (SY (AA.mk ha.fID ha.fTenant ha.fSource ha.fKey (-1) ha.fCause ha.fBody) hw hj ga) Aa)) ?_;refine on hi (oq (Bh Aa Aa) (oq (Ao Aa hi Aa) (oq (Ae Aa) ?_)));exact BS
 refine AP (Ay ?_);obtain rfl:=A0 gb;exact Ax (BG Tryz.results5 (AM Aa)) (sS (sS (sS sN))) ⟨Aa,Aa⟩
end Go.Proofs.YtailcjmjkmjelaaGreatDoor.Q
namespace Go.Proofs.YtailcjmjkmjelaaGreatDoor
open Go
set_option linter.unusedVariables false
def G2 (F:Nat)(e:AA):Option (Bool):=
 B3 (IQ F e) λr2=>B1 (!r2) (B3 (DY F) λr7=>some r7) (B3 (GV F e) λha=>B3 (Gw F e) λhd=>B3 (IS F e) λhe=>B3 (Hw F e) λhf=>AW ((BA F e).isSome)<|AW ((Bz F e).isSome)<|AW (imp (decide ((ov (BA F e))=(ov (Bz F e)))) (imp (decide (ha.1=hd.1)) (imp (decide (ha.2=hd.2)) (imp (decide (he.1=hf.1)) (imp (decide (he.2=hf.2)) ((DY F).isSome))))))<|some ((decide ((ov (BA F e))=(ov (Bz F e))))&&((decide (ha.1=hd.1))&&((decide (ha.2=hd.2))&&((decide (he.1=hf.1))&&((decide (he.2=hf.2))&&(ov (DY F))))))))
end Go.Proofs.YtailcjmjkmjelaaGreatDoor
namespace Go.Proofs.YtailcjmjkmjelaaGreatDoor.Q
open Go Go.RowKit
set_option linter.unusedVariables false
set_option linter.unusedSimpArgs false
set_option maxRecDepth 100000
set_option maxHeartbeats 4000000
theorem MQ (F:Nat)(e:AA)(r:Bool)(h:G2 F e=some r):Fn Tryz.prog GE 3 [Bo (A9 e)] [] (λR H=>R=rB r∧H=[]):=by
 refine enter (n:=63) Tryz.func3 Aa Tryz.ntmps3 Aa (λw Z=>?_);refine AR (l':=[(0,Bo (A9 e))]) (H':=[]) Aa Aa ?_;unfold G2 at h;refine Al (BP Aa Aa (λb1=>?_));refine wv (r:=rB false) (Ae Aa) (As (Am (Al (wv (AS (i:=0) CP Cb Aa Aa Aa Aa) ?_))));obtain⟨r2,e4,h3⟩:=AH h;refine C9 Tryz.call4 (Pw F e r2 e4) Aa (wv (BL Aa) (As (Au (b:=!r2) Aa (λc5=>?_) (λc5=>?_))))
 ·have h6:=AE c5 h3;refine Al ?_;obtain⟨r7,e9,h8⟩:=AH h6;refine C9 Tryz.call5 (L7 F r7 e9) Aa (wa Aa (As (Ay (Af ?_))));obtain rfl:=A0 h8;exact Ax (BG Tryz.results3 (AM Aa)) (sS sN) ⟨Aa,Aa⟩
 ·have hn:=AF c5 h3;refine Aw (AP (Al (wv (AS (i:=0) CP Cb Aa Aa Aa Aa) ?_)));obtain⟨ha,ho,hp⟩:=AH hn;refine C9 Tryz.call6 (Jr F e ha ho) Aa (wm Aa (wv (AD Aa Aa) (wv (AD Aa Aa) (wa Aa (wa Aa (Bv (wv (AS (i:=0) CP Cb Aa Aa Aa Aa) ?_)))))));obtain⟨hd,hq,hr⟩:=AH hp;refine C9 Tryz.call7 (K9 F e hd hq) Aa (wm Aa (wv (AD Aa Aa) (wv (AD Aa Aa) (wa Aa (wa Aa (Bv (wv (AS (i:=0) CP Cb Aa Aa Aa Aa) ?_)))))));obtain⟨hf,hs,ht⟩:=AH hr;refine C9 Tryz.call8 (Pz F e hf hs) Aa (wm Aa (wv (AD Aa Aa) (wv (AD Aa Aa) (wa Aa (wa Aa (Bv (wv (AS (i:=0) CP Cb Aa Aa Aa Aa) ?_)))))));obtain⟨hg,hu,hw⟩:=AH ht;refine C9 Tryz.call9 (N7 F e hg hu) Aa (wm Aa (wv (AD Aa Aa) (wv (AD Aa Aa) (wa Aa (wa Aa (As ?_))))));obtain⟨hl,hx⟩:=Az hw;obtain⟨hm,hy⟩:=Az hx;obtain⟨hz,h0⟩:=Az hy;refine AB [(2,rB ((decide ((ov (BA F e))=(ov (Bz F e))))&&((decide (ha.1=hd.1))&&((decide (ha.2=hd.2))&&((decide (hf.1=hg.1))&&((decide (hf.2=hg.2))&&(ov (DY F))))))))] [] ?_ ?_
  ·refine A7 (decide ((ov (BA F e))=(ov (Bz F e)))) (λhe=>?_) (λhe=>?_)
   ·refine A7 (decide (ha.1=hd.1)) (λhh=>?_) (λhh=>?_)
    ·refine A7 (decide (ha.2=hd.2)) (λhi=>?_) (λhi=>?_)
     ·refine A7 (decide (hf.1=hg.1)) (λhj=>?_) (λhj=>?_)
      ·refine A7 (decide (hf.2=hg.2)) (λhk=>?_) (λhk=>?_)
       ·refine Cu [1,3,4,5,6,7,8,9,10] [⟨[],Bo (A9 e),1⟩,⟨[0],rI .i64 (ov (BA F e)),0⟩,⟨[],Bo (A9 e),1⟩,⟨[2],rI .i64 (ov (Bz F e)),0⟩,⟨[1,3],rB (decide ((ov (BA F e))=(ov (Bz F e)))),0⟩,⟨[4],rB (decide ((ov (BA F e))=(ov (Bz F e)))),0⟩,⟨[5],rS ha.1,0⟩,⟨[5],rS hd.1,0⟩,⟨[6,7,5],rB (decide (ha.1=hd.1)),0⟩,⟨[5,8],rB (decide (ha.1=hd.1)),0⟩,⟨[9],rB (decide (ha.1=hd.1)),0⟩,⟨[10],rI .i64 ha.2,0⟩,⟨[10],rI .i64 hd.2,0⟩,⟨[11,12,10],rB (decide (ha.2=hd.2)),0⟩,⟨[10,13],rB (decide (ha.2=hd.2)),0⟩,⟨[14],rB (decide (ha.2=hd.2)),0⟩,⟨[15],rS hf.1,0⟩,⟨[15],rS hg.1,0⟩,⟨[16,17,15],rB (decide (hf.1=hg.1)),0⟩,⟨[15,18],rB (decide (hf.1=hg.1)),0⟩,⟨[19],rB (decide (hf.1=hg.1)),0⟩,⟨[20],rI .i64 hf.2,0⟩,⟨[20],rI .i64 hg.2,0⟩,⟨[21,22,20],rB (decide (hf.2=hg.2)),0⟩,⟨[20,23],rB (decide (hf.2=hg.2)),0⟩,⟨[24],rB (decide (hf.2=hg.2)),0⟩,⟨[25],rB (ov (DY F)),0⟩,⟨[25,26],rB (ov (DY F)),0⟩,⟨[27],rB (ov (DY F)),0⟩] [2] ?_ ?_
        ·refine of (AS (i:=0) CP Cb Aa Aa Aa Aa) (Ct Aa (λH=>Dg Km (Dw F e (ov (BA F e)) (D9 hl)) Aa) ?_);refine of (AS (i:=0) CP Cb Aa Aa Aa Aa) (Ct Aa (λH=>Dg Nr (Ef F e (ov (Bz F e)) (D9 hm)) Aa) ?_);refine oq (Bh Aa Aa) (oq (Ah Aa) (on he (oq (Ah Aa) (on he (oq (Ah Aa) (on he (oq (Co Aa Aa) (oq (Ao Aa he Aa) (oq (Ah Aa) (on hh (oq (Ah Aa) (on hh (oq (Ah Aa) (on hh (oq (Bh Aa Aa) (oq (Ao Aa hh Aa) (oq (Ah Aa) (on hi (oq (Ah Aa) (on hi (oq (Ah Aa) (on hi (oq (Co Aa Aa) ?_)))))))))))))))))))))));refine oq (Ao Aa hi Aa) (oq (Ah Aa) (on hj (oq (Ah Aa) (on hj (oq (Ah Aa) (on hj (oq (Bh Aa Aa) (oq (Ao Aa hj Aa) (oq (Ah Aa) (Ct Aa (λH=>HT (b:=decide (hf.2=hg.2)) Aa Aa hk (Dg Tryz.call5 (L7 F (ov (DY F)) (D9 (Ch (Ch (Ch (Ch (Ch hz he) hh) hi) hj) hk))) Aa)) ?_))))))))));refine oq (Ao Aa hk Aa) (oq (Ae Aa) ?_);exact BS
        exact BO (And.intro he (And.intro hh (And.intro hi (And.intro hj hk))))
       ·refine Cu [1,3,4,5,6,7,8,9,10] [⟨[],Bo (A9 e),1⟩,⟨[0],rI .i64 (ov (BA F e)),0⟩,⟨[],Bo (A9 e),1⟩,⟨[2],rI .i64 (ov (Bz F e)),0⟩,⟨[1,3],rB (decide ((ov (BA F e))=(ov (Bz F e)))),0⟩,⟨[4],rB (decide ((ov (BA F e))=(ov (Bz F e)))),0⟩,⟨[5],rS ha.1,0⟩,⟨[5],rS hd.1,0⟩,⟨[6,7,5],rB (decide (ha.1=hd.1)),0⟩,⟨[5,8],rB (decide (ha.1=hd.1)),0⟩,⟨[9],rB (decide (ha.1=hd.1)),0⟩,⟨[10],rI .i64 ha.2,0⟩,⟨[10],rI .i64 hd.2,0⟩,⟨[11,12,10],rB (decide (ha.2=hd.2)),0⟩,⟨[10,13],rB (decide (ha.2=hd.2)),0⟩,⟨[14],rB (decide (ha.2=hd.2)),0⟩,⟨[15],rS hf.1,0⟩,⟨[15],rS hg.1,0⟩,⟨[16,17,15],rB (decide (hf.1=hg.1)),0⟩,⟨[15,18],rB (decide (hf.1=hg.1)),0⟩,⟨[19],rB (decide (hf.1=hg.1)),0⟩,⟨[20],rI .i64 hf.2,0⟩,⟨[20],rI .i64 hg.2,0⟩,⟨[21,22,20],rB (decide (hf.2=hg.2)),0⟩,⟨[20,23],rB (decide (hf.2=hg.2)),0⟩,⟨[24],rB (decide (hf.2=hg.2)),0⟩,⟨[25],rv undef,0⟩,⟨[25,26],rB false,0⟩,⟨[27],rB false,0⟩] [2] ?_ ?_
        ·refine of (AS (i:=0) CP Cb Aa Aa Aa Aa) (Ct Aa (λH=>Dg Km (Dw F e (ov (BA F e)) (D9 hl)) Aa) ?_);refine of (AS (i:=0) CP Cb Aa Aa Aa Aa) (Ct Aa (λH=>Dg Nr (Ef F e (ov (Bz F e)) (D9 hm)) Aa) ?_);refine oq (Bh Aa Aa) (oq (Ah Aa) (on he (oq (Ah Aa) (on he (oq (Ah Aa) (on he (oq (Co Aa Aa) (oq (Ao Aa he Aa) (oq (Ah Aa) (on hh (oq (Ah Aa) (on hh (oq (Ah Aa) (on hh (oq (Bh Aa Aa) (oq (Ao Aa hh Aa) (oq (Ah Aa) (on hi (oq (Ah Aa) (on hi (oq (Ah Aa) (on hi (oq (Co Aa Aa) ?_)))))))))))))))))))))));refine oq (Ao Aa hi Aa) (oq (Ah Aa) (on hj (oq (Ah Aa) (on hj (oq (Ah Aa) (on hj (oq (Bh Aa Aa) (oq (Ao Aa hj Aa) (oq (Ah Aa) (oz hk (oq (Ar (b:=decide (hf.2=hg.2)) Aa hk Aa) (oq (Ae Aa) ?_))))))))))));exact BS
        exact BO (And.intro he (And.intro hh (And.intro hi (And.intro hj hk))))
      ·refine Cu [1,3,4,5,6,7,8,9,10] [⟨[],Bo (A9 e),1⟩,⟨[0],rI .i64 (ov (BA F e)),0⟩,⟨[],Bo (A9 e),1⟩,⟨[2],rI .i64 (ov (Bz F e)),0⟩,⟨[1,3],rB (decide ((ov (BA F e))=(ov (Bz F e)))),0⟩,⟨[4],rB (decide ((ov (BA F e))=(ov (Bz F e)))),0⟩,⟨[5],rS ha.1,0⟩,⟨[5],rS hd.1,0⟩,⟨[6,7,5],rB (decide (ha.1=hd.1)),0⟩,⟨[5,8],rB (decide (ha.1=hd.1)),0⟩,⟨[9],rB (decide (ha.1=hd.1)),0⟩,⟨[10],rI .i64 ha.2,0⟩,⟨[10],rI .i64 hd.2,0⟩,⟨[11,12,10],rB (decide (ha.2=hd.2)),0⟩,⟨[10,13],rB (decide (ha.2=hd.2)),0⟩,⟨[14],rB (decide (ha.2=hd.2)),0⟩,⟨[15],rS hf.1,0⟩,⟨[15],rS hg.1,0⟩,⟨[16,17,15],rB (decide (hf.1=hg.1)),0⟩,⟨[15,18],rB (decide (hf.1=hg.1)),0⟩,⟨[19],rB (decide (hf.1=hg.1)),0⟩,⟨[20],rv undef,0⟩,⟨[20],rv undef,0⟩,⟨[21,22,20],rv undef,0⟩,⟨[20,23],rB false,0⟩,⟨[24],rB false,0⟩,⟨[25],rv undef,0⟩,⟨[25,26],rB false,0⟩,⟨[27],rB false,0⟩] [2] ?_ ?_
       ·refine of (AS (i:=0) CP Cb Aa Aa Aa Aa) (Ct Aa (λH=>Dg Km (Dw F e (ov (BA F e)) (D9 hl)) Aa) ?_);refine of (AS (i:=0) CP Cb Aa Aa Aa Aa) (Ct Aa (λH=>Dg Nr (Ef F e (ov (Bz F e)) (D9 hm)) Aa) ?_);refine oq (Bh Aa Aa) (oq (Ah Aa) (on he (oq (Ah Aa) (on he (oq (Ah Aa) (on he (oq (Co Aa Aa) (oq (Ao Aa he Aa) (oq (Ah Aa) (on hh (oq (Ah Aa) (on hh (oq (Ah Aa) (on hh (oq (Bh Aa Aa) (oq (Ao Aa hh Aa) (oq (Ah Aa) (on hi (oq (Ah Aa) (on hi (oq (Ah Aa) (on hi (oq (Co Aa Aa) ?_)))))))))))))))))))))));refine oq (Ao Aa hi Aa) (oq (Ah Aa) (oz hj (oz hj (oz hj (oq (Ar (b:=decide (hf.1=hg.1)) Aa hj Aa) (oq (Ah Aa) (oz Aa (oq (Ar (b:=false) Aa Aa Aa) (oq (Ae Aa) ?_)))))))));exact BS
       exact BO (And.intro he (And.intro hh (And.intro hi hj)))
     ·refine Cu [1,3,4,5,6,7,8,9,10] [⟨[],Bo (A9 e),1⟩,⟨[0],rI .i64 (ov (BA F e)),0⟩,⟨[],Bo (A9 e),1⟩,⟨[2],rI .i64 (ov (Bz F e)),0⟩,⟨[1,3],rB (decide ((ov (BA F e))=(ov (Bz F e)))),0⟩,⟨[4],rB (decide ((ov (BA F e))=(ov (Bz F e)))),0⟩,⟨[5],rS ha.1,0⟩,⟨[5],rS hd.1,0⟩,⟨[6,7,5],rB (decide (ha.1=hd.1)),0⟩,⟨[5,8],rB (decide (ha.1=hd.1)),0⟩,⟨[9],rB (decide (ha.1=hd.1)),0⟩,⟨[10],rI .i64 ha.2,0⟩,⟨[10],rI .i64 hd.2,0⟩,⟨[11,12,10],rB (decide (ha.2=hd.2)),0⟩,⟨[10,13],rB (decide (ha.2=hd.2)),0⟩,⟨[14],rB (decide (ha.2=hd.2)),0⟩,⟨[15],rv undef,0⟩,⟨[15],rv undef,0⟩,⟨[16,17,15],rv undef,0⟩,⟨[15,18],rB false,0⟩,⟨[19],rB false,0⟩,⟨[20],rv undef,0⟩,⟨[20],rv undef,0⟩,⟨[21,22,20],rv undef,0⟩,⟨[20,23],rB false,0⟩,⟨[24],rB false,0⟩,⟨[25],rv undef,0⟩,⟨[25,26],rB false,0⟩,⟨[27],rB false,0⟩] [2] ?_ ?_
      ·refine of (AS (i:=0) CP Cb Aa Aa Aa Aa) (Ct Aa (λH=>Dg Km (Dw F e (ov (BA F e)) (D9 hl)) Aa) ?_);refine of (AS (i:=0) CP Cb Aa Aa Aa Aa) (Ct Aa (λH=>Dg Nr (Ef F e (ov (Bz F e)) (D9 hm)) Aa) ?_);refine oq (Bh Aa Aa) (oq (Ah Aa) (on he (oq (Ah Aa) (on he (oq (Ah Aa) (on he (oq (Co Aa Aa) (oq (Ao Aa he Aa) (oq (Ah Aa) (on hh (oq (Ah Aa) (on hh (oq (Ah Aa) (on hh (oq (Bh Aa Aa) (oq (Ao Aa hh Aa) (oq (Ah Aa) (oz hi (oz hi (oz hi (oq (Ar (b:=decide (ha.2=hd.2)) Aa hi Aa) (oq (Ah Aa) (oz Aa ?_)))))))))))))))))))))));refine oz Aa (oz Aa (oq (Ar (b:=false) Aa Aa Aa) (oq (Ah Aa) (oz Aa (oq (Ar (b:=false) Aa Aa Aa) (oq (Ae Aa) ?_))))));exact BS
      exact BO (And.intro he (And.intro hh hi))
    ·refine Cu [1,3,4,5,6,7,8,9,10] [⟨[],Bo (A9 e),1⟩,⟨[0],rI .i64 (ov (BA F e)),0⟩,⟨[],Bo (A9 e),1⟩,⟨[2],rI .i64 (ov (Bz F e)),0⟩,⟨[1,3],rB (decide ((ov (BA F e))=(ov (Bz F e)))),0⟩,⟨[4],rB (decide ((ov (BA F e))=(ov (Bz F e)))),0⟩,⟨[5],rS ha.1,0⟩,⟨[5],rS hd.1,0⟩,⟨[6,7,5],rB (decide (ha.1=hd.1)),0⟩,⟨[5,8],rB (decide (ha.1=hd.1)),0⟩,⟨[9],rB (decide (ha.1=hd.1)),0⟩,⟨[10],rv undef,0⟩,⟨[10],rv undef,0⟩,⟨[11,12,10],rv undef,0⟩,⟨[10,13],rB false,0⟩,⟨[14],rB false,0⟩,⟨[15],rv undef,0⟩,⟨[15],rv undef,0⟩,⟨[16,17,15],rv undef,0⟩,⟨[15,18],rB false,0⟩,⟨[19],rB false,0⟩,⟨[20],rv undef,0⟩,⟨[20],rv undef,0⟩,⟨[21,22,20],rv undef,0⟩,⟨[20,23],rB false,0⟩,⟨[24],rB false,0⟩,⟨[25],rv undef,0⟩,⟨[25,26],rB false,0⟩,⟨[27],rB false,0⟩] [2] ?_ ?_
     ·refine of (AS (i:=0) CP Cb Aa Aa Aa Aa) (Ct Aa (λH=>Dg Km (Dw F e (ov (BA F e)) (D9 hl)) Aa) ?_);refine of (AS (i:=0) CP Cb Aa Aa Aa Aa) (Ct Aa (λH=>Dg Nr (Ef F e (ov (Bz F e)) (D9 hm)) Aa) ?_);refine oq (Bh Aa Aa) (oq (Ah Aa) (on he (oq (Ah Aa) (on he (oq (Ah Aa) (on he (oq (Co Aa Aa) (oq (Ao Aa he Aa) (oq (Ah Aa) (oz hh (oz hh (oz hh (oq (Ar (b:=decide (ha.1=hd.1)) Aa hh Aa) (oq (Ah Aa) (oz Aa (oz Aa (oz Aa (oq (Ar (b:=false) Aa Aa Aa) (oq (Ah Aa) (oz Aa (oz Aa (oz Aa (oq (Ar (b:=false) Aa Aa Aa) ?_)))))))))))))))))))))));refine oq (Ah Aa) (oz Aa (oq (Ar (b:=false) Aa Aa Aa) (oq (Ae Aa) ?_)));exact BS
     exact BO (And.intro he hh)
   ·refine Cu [1,3,4,5,6,7,8,9,10] [⟨[],Bo (A9 e),1⟩,⟨[0],rI .i64 (ov (BA F e)),0⟩,⟨[],Bo (A9 e),1⟩,⟨[2],rI .i64 (ov (Bz F e)),0⟩,⟨[1,3],rB (decide ((ov (BA F e))=(ov (Bz F e)))),0⟩,⟨[4],rB (decide ((ov (BA F e))=(ov (Bz F e)))),0⟩,⟨[5],rv undef,0⟩,⟨[5],rv undef,0⟩,⟨[6,7,5],rv undef,0⟩,⟨[5,8],rB false,0⟩,⟨[9],rB false,0⟩,⟨[10],rv undef,0⟩,⟨[10],rv undef,0⟩,⟨[11,12,10],rv undef,0⟩,⟨[10,13],rB false,0⟩,⟨[14],rB false,0⟩,⟨[15],rv undef,0⟩,⟨[15],rv undef,0⟩,⟨[16,17,15],rv undef,0⟩,⟨[15,18],rB false,0⟩,⟨[19],rB false,0⟩,⟨[20],rv undef,0⟩,⟨[20],rv undef,0⟩,⟨[21,22,20],rv undef,0⟩,⟨[20,23],rB false,0⟩,⟨[24],rB false,0⟩,⟨[25],rv undef,0⟩,⟨[25,26],rB false,0⟩,⟨[27],rB false,0⟩] [2] ?_ ?_
    ·refine of (AS (i:=0) CP Cb Aa Aa Aa Aa) (Ct Aa (λH=>Dg Km (Dw F e (ov (BA F e)) (D9 hl)) Aa) ?_);refine of (AS (i:=0) CP Cb Aa Aa Aa Aa) (Ct Aa (λH=>Dg Nr (Ef F e (ov (Bz F e)) (D9 hm)) Aa) ?_);refine oq (Bh Aa Aa) (oq (Ah Aa) (oz he (oz he (oz he (oq (Ar (b:=decide ((ov (BA F e))=(ov (Bz F e)))) Aa he Aa) (oq (Ah Aa) (oz Aa (oz Aa (oz Aa (oq (Ar (b:=false) Aa Aa Aa) (oq (Ah Aa) (oz Aa (oz Aa (oz Aa (oq (Ar (b:=false) Aa Aa Aa) (oq (Ah Aa) (oz Aa (oz Aa (oz Aa (oq (Ar (b:=false) Aa Aa Aa) (oq (Ah Aa) (oz Aa (oq (Ar (b:=false) Aa Aa Aa) ?_)))))))))))))))))))))));refine oq (Ae Aa) ?_;exact BS
    exact BO he
  refine Ay ?_;obtain rfl:=A0 h0;exact Ax (BG Tryz.results3 (AM Aa)) sN ⟨Aa,Aa⟩
end Go.Proofs.YtailcjmjkmjelaaGreatDoor.Q
namespace Go.Proofs.YtailcjmjkmjelaaGreatDoor.lawEventChecks
open Go
set_option linter.unusedVariables false
def RC (y:Ac):Bool:=(B6 .i64) y.fKind&&(B6 .i64) y.fInt&&Og y.fStr&&(B6 .i64) y.fN
def SF (y:AA):Bool:=Og y.fID&&Og y.fTenant&&Og y.fSource&&Og y.fKey&&(B6 .i64) y.fAt&&Og y.fCause&&(λys:(List Ac)=>ys.all RC&&decide (ys.length≤9223372036854775807)) y.fBody
def Uk:Prop:=∀(y0:AA) (o0:SF y0=true),∃F,G2 F y0=some true
end Go.Proofs.YtailcjmjkmjelaaGreatDoor.lawEventChecks
namespace Go.Proofs.YtailcjmjkmjelaaGreatDoor
open Go
set_option linter.unusedVariables false
set_option linter.unusedSimpArgs false
def Rm (c:UInt8):Bool:=decide (32≤c.toNat)&&decide (c.toNat≤126)
theorem Kg {s:Ak}{x:Int}{c:UInt8}(h:s[x.toNat]? =some c):AY s x=(c.toNat:Int):=by simp[AY,h]
theorem HR {α:Type}{p:α→Bool}{s:List α}{k:Nat}{c:α}(h:s[k]? =some c):(s.take (k+1)).all p=((s.take k).all p&&p c):=by
 rw[List.take_add_one,h];simp
theorem IV {α:Type}{p:α→Bool}{s:List α}{k:Nat}{c:α}(h:s[k]? =some c)(hp:p c=false):s.all p=false:=by
 rw[List.all_eq_false];exact⟨c,U1 h,by simp[hp]⟩
theorem Ms {F:Nat}{s:Ak}(hF:s.length<F)(hs:s.length≤9223372036854775807):Iv F s=some (s.all Rm):=by
 obtain⟨o,h1,h2⟩:=EW (body:=λσ=>Gr s σ) (λx=>0≤x∧x≤(s.length:Int)∧(s.take x.toNat).all Rm=true) (λx=>s.length-x.toNat)
  (λo=>BY (λ_=>Gq) o=some (s.all Rm)) (λx ⟨h0,hl,ha⟩=>by
   unfold Gr
   by_cases hx:x<(s.length:Int)
   ·obtain⟨c,hc⟩:∃c,s[x.toNat]? =some c:=⟨s[x.toNat]'(by omega),Us (by omega)⟩
    rw[AT (by simpa using hx),Br h0 hx,Kg hc]
    cases ho:Rm c with
    | false=>
     refine .inr ⟨.ret false,?_,?_⟩
     ·rw[AT];simp only[Rm,UX,Um] at ho;simp only[UR,Un];omega
     ·simp[BY,IV hc ho]
    | true=>
     refine .inl ⟨x+1,?_,⟨by omega,by omega,?_⟩,by omega⟩
     ·rw[AL,AO (by omega) (by omega)];simp only[Rm,Uq,Un] at ho;simp only[UO,Um];omega
     ·rw[show(x+1).toNat=x.toNat+1 from by omega,HR hc,ha,ho];rfl
   ·refine .inr ⟨.go (),by rw[AL (by simpa using hx)],?_⟩;rw[show x.toNat=s.length from by omega,Vb] at ha;simp[BY,Gq,ha]) F 0 ⟨by omega,by omega,by simp⟩ (by simpa using hF)
 unfold Iv;rw[AV h1,h2]
theorem LN (F:Nat)(s:Ak):Hv F s=Iv F s:=rfl
theorem OT {F:Nat}{s:Ak}(hF:s.length<F)(hs:s.length≤9223372036854775807):Hv F s=some (s.all Rm):=by rw[LN];exact Ms hF hs
def pl (c:Ac):Bool:=
 bif decide (c.fKind=1) then(decide (c.fInt=0)&&(decide (c.fStr=[])&&decide (c.fN=0))) else
 bif decide (c.fKind=2) then((decide (c.fInt=0)||decide (c.fInt=1))&&(decide (c.fStr=[])&&decide (c.fN=0))) else
 bif decide (c.fKind=3) then(decide (c.fStr=[])&&decide (c.fN=0)) else
 bif decide (c.fKind=4) then(decide (c.fInt=0)&&(decide (c.fN=0)&&c.fStr.all Rm)) else
 bif decide (c.fKind=5) then(decide (c.fInt=0)&&(decide (c.fStr=[])&&decide (0≤c.fN))) else
 bif decide (c.fKind=6) then(decide (c.fInt=0)&&(decide (c.fStr=[])&&decide (0≤c.fN))) else false
theorem DC {α:Type}{p:Bool}{x y:Option α}{a b:α}(h:x=some a)(h':y=some b):B1 p x y=some (bif p then a else b):=by cases p<;>simp[B1,h,h']
theorem OI {F:Nat}{c:Ac}(hF:c.fStr.length<F)(hs:c.fStr.length≤9223372036854775807):Kw F c=some (pl c):=by
 unfold Kw pl;rw[Ms hF hs];refine DC rfl (DC ?_ (DC rfl (DC ?_ (DC rfl (DC rfl rfl)))))
 ·cases h:decide (c.fInt=0)<;>simp
 ·simp[imp,AW,ov]
def JI:List A3→List A3
 | []=>[]
 | e::S=>bif decide (1<e.fLeft) then⟨e.fPairs,e.fLeft-1,e.fPairs,e.fLast,e.fStarted⟩::S else JI S
theorem Kh {α:Type}[Inhabited α](xs:List α)(e:α):At (xs++[e]) (xs.length:Int)=e:=by simp[At]
theorem I5 {α:Type}(xs:List α)(e e':α):List.set (xs++[e]) (Int.toNat (xs.length:Int)) e'=xs++[e']:=by simp
theorem IK {α:Type}(xs:List α)(e:α):((xs++[e]).length:Int)-1=(xs.length:Int):=by simp
theorem OO {α:Type}(xs:List α)(e:α):List.take (Int.toNat (xs.length:Int)) (xs++[e])=xs:=by simp
theorem J5:∀(S:List A3) (F:Nat),S.length<F→(∀e∈S,1≤e.fLeft∧e.fLeft≤9223372036854775807)→S.length≤4611686018427387904→
  ∃o,Cn (λσ=>Dl σ) F S.reverse=some o∧BY (λν=>DJ ν) o=some (JI S).reverse
 | [],F+1,_,_,_=>⟨.go [],by simp[Cn,Dl,B1],by simp[BY,DJ,JI]⟩
 | e::S,F+1,hF,hb,hl=>by
  obtain⟨h1,h2⟩:=hb e (by simp);simp only[Uw] at hF hl;have hx:S.reverse.length=S.length:=by simp
  generalize hxs:S.reverse=xs at hx;have hr:(e::S).reverse=xs++[e]:=by simp[hxs]
  rw[hr];have hb1:Dl (xs++[e])=bif decide (1<e.fLeft) then some (.out (.ret (xs++[⟨e.fPairs,e.fLeft-1,e.fPairs,e.fLast,e.fStarted⟩]))) else some (.next xs):=by
   unfold Dl;rw[AT (by simp)];simp only[IK,Kh,I5,IX];rw[AO (by omega) (by omega),Br (by omega) (by simp;omega),AO (by omega) (by omega)]
   cases hd:decide (1<e.fLeft) with
   | true=>
    rw[AT (by simp at hd ⊢;omega)];rfl
   | false=>
    rw[AL (by simp at hd ⊢;omega),AO (by omega) (by omega),Dh (by omega) (by simp;omega),OO];rfl
  rw[Cn,hb1]
  cases hd:decide (1<e.fLeft) with
  | true=>exact⟨_,rfl,by simp[BY,DJ,JI,hd,hxs]⟩
  | false=>
   obtain⟨o,ho1,ho2⟩:=J5 S F (by omega) (λe he=>hb e (by simp[he])) (by omega);rw[hxs] at ho1;exact⟨o,ho1,by rw[ho2];simp[JI,hd]⟩
theorem Ky {S:List A3}{F:Nat}(hF:S.length<F)(hb:∀e∈S,1≤e.fLeft∧e.fLeft≤9223372036854775807)(hl:S.length≤4611686018427387904):I2 F S.reverse=some (JI S).reverse:=by
 obtain⟨o,h1,h2⟩:=J5 S F hF hb hl;unfold I2;rw[AV h1,h2]
def Jh (s:Ak):Int:=s.length+2+s.count 34+s.count 92
theorem Ku {s:Ak}(hs:s.length≤1152921504606846976):H9 s=some (Jh s):=by
 have h1:s.count 34≤s.length:=List.count_le_length;have h2:s.count 92≤s.length:=List.count_le_length;unfold H9 Lib.countByte;rw[AO (by omega) (by omega),AO (by omega) (by omega),AO (by omega) (by omega)];rfl
def SB (c:Ac):Int:=
 bif decide (c.fKind=1) then 4 else bif decide (c.fKind=2) then IntKind.wrap .i64 (5-c.fInt) else bif decide (c.fKind=3) then((Lib.itoa c.fInt).length:Int) else
 bif decide (c.fKind=4) then Jh c.fStr else IntKind.wrap .i64 (2+max 0 (IntKind.wrap .i64 (c.fN-1)))
theorem Mt {c:Ac}(hs:c.fStr.length≤1152921504606846976)(hi:B6 .i64 c.fInt=true):Mu c=some (SB c):=by
 unfold Mu SB;rw[Ku hs];refine DC rfl (DC rfl (DC ?_ (DC rfl rfl)));rw[Cd hi]
def Hl (d:Nat)(sh:A8)(c:Ac):A8:=
 ⟨max sh.fDepth ((d:Int)+1),IntKind.wrap .i64 (sh.fBytes+SB c),sh.fOutside||(decide (c.fKind=3)&&!(decide ((-1000000000000)≤c.fInt)&&decide (c.fInt≤1000000000000))),sh.fLong||decide (200<(c.fStr.length:Int))⟩
def Tr (sh:A8)(c:Ac):A8:=⟨sh.fDepth,IntKind.wrap .i64 (sh.fBytes+(Jh c.fStr+1)),sh.fOutside,sh.fLong||decide (200<(c.fStr.length:Int))⟩
def Jo:List A3→Bool
 | []=>false
 | e::_=>e.fKey
abbrev Ml:=List A3×Int×A8
abbrev Sz:=Out (Int×A8×Bool) A8
def Nm (n:Int)(S:List A3)(i:Int)(sh:A8)(c:Ac):Stp Ml Sz:=
 bif !pl c then .out (.ret (0,sh,false)) else
 match S with
 | e::S'=>
  bif e.fKey then
   bif !decide (c.fKind=4)||(e.fStarted&&(C2 c.fStr e.fLast||decide (c.fStr=e.fLast))) then .out (.ret (0,sh,false))
   else .next ((⟨e.fPairs,e.fLeft,false,c.fStr,true⟩::S').reverse,i+1,Tr sh c)
  else bif decide (0<c.fN) then
   bif decide (n<c.fN) then .out (.ret (0,Hl S.length sh c,false))
   else .next ((⟨decide (c.fKind=6),c.fN,decide (c.fKind=6),[],false⟩::S).reverse,i+1,Hl S.length sh c)
  else bif decide (JI S=[]) then .out (.ret (i+1,Hl S.length sh c,true)) else .next ((JI S).reverse,i+1,Hl S.length sh c)
 | []=>
  bif decide (0<c.fN) then
   bif decide (n<c.fN) then .out (.ret (0,Hl 0 sh c,false))
   else .next ([⟨decide (c.fKind=6),c.fN,decide (c.fKind=6),[],false⟩],i+1,Hl 0 sh c)
  else .out (.ret (i+1,Hl 0 sh c,true))
theorem KV {S:List A3}:decide (((JI S).reverse.length:Int)=0)=decide (JI S=[]):=by
 rw[UI];simp
theorem T6 {α:Type}{xs:List α}{e x:α}{M:Nat}(h:xs.length+1≤M)(hM2:(M+2)*48≤140737488355328):D1 48 ((xs++[e]).length+([x]:List α).length)=true:=by
 refine UC (Nat.le_trans (Nat.mul_le_mul_right 48 ?_) hM2);rw[Uo,UH,UH];omega
set_option maxHeartbeats 600000 in
theorem Mw {F:Nat}{v:List Ac}{S:List A3}{i:Int}{sh:A8}{c:Ac}(h0:0≤i)(hc:v[i.toNat]? =some c){M:Nat}(hM:M≤1152921504606846976)(hM2:(M+2)*48≤140737488355328)(hv:v.length≤M)(hS:S.length≤M)(hF:M<F)
  (hs:c.fStr.length≤M) (hi:B6 .i64 c.fInt=true) (hb:∀e∈S,1≤e.fLeft∧e.fLeft≤9223372036854775807):Dk F v S.reverse i sh=some (Nm v.length S i sh c):=by
 have hil:i.toNat<v.length:=(List.getElem?_eq_some_iff.1 hc).1;have hat:At v i=c:=by simp[At,hc]
 unfold Dk Nm;rw[AT (by simp;omega),Br h0 (by omega),hat,OI (by omega) (by omega),AV rfl]
 cases hp:pl c with
 | false=>rw[AT (by simp)];rfl
 | true=>
  rw[AL (by simp)]
  cases S with
  | nil=>
   rw[Cd (by simp[imp]),Cd (by simp[imp]),AL (by simp),AO (by simp) (by simp),Mt (by omega) hi,AV rfl,Cd (by simp[imp,Bx])];simp only[Bx,ov,UK,Uy,Uu]
   cases hn:decide (0<c.fN) with
   | true=>
    rw[AT rfl]
    cases hm:decide ((v.length:Int)<c.fN) with
    | true=>rw[AT rfl];simp[Hl]
    | false=>rw[AL rfl,Cd (by simp[D1])];unfold D7;rw[AO (by omega) (by omega)];simp[Hl]
   | false=>
    rw[AL rfl,AV (Ky (S:=[]) (by simp;omega) (by simp) (by simp)),AT (by simp[JI]),AO (by omega) (by omega)];simp[Hl]
  | cons e S'=>
   have hx:S'.reverse.length=S'.length:=by simp
   generalize hxs:S'.reverse=xs at hx;have hr:(e::S').reverse=xs++[e]:=by simp[hxs]
   simp only[Uw] at hS;have hlen:((xs++[e]).length:Int)=(xs.length:Int)+1:=by simp
   rw[hr,Cd (by simp only[imp,IK];rw[MT (by omega) (by omega)];simp),Cd (by simp only[imp,IK];rw[SO (by omega) (by omega)];simp)];rw[IK,Kh]
   cases hk:e.fKey with
   | true=>
    rw[AT (by simp),AO (by omega) (by omega),Br (by omega) (by omega)];simp only[hk,Uy,Uu,Uz]
    cases ht : !decide (c.fKind=4)||(e.fStarted&&(C2 c.fStr e.fLast||decide (c.fStr=e.fLast))) with
    | true=>rw[AT rfl];rfl
    | false=>
     rw[AL rfl,I5,IX,Kh,I5,IX,Kh,I5,IX,Ku (by omega),AV rfl,AO (by unfold Jh;omega) (by unfold Jh;have:=@List.count_le_length UInt8 _ 34 c.fStr;have:=@List.count_le_length UInt8 _ 92 c.fStr;omega)];unfold D7;rw[AO (by omega) (by omega)];simp[Tr,hxs]
   | false=>
    rw[AL (by simp),hlen,AO (by omega) (by omega),Mt (by omega) hi,AV rfl,Cd (by simp[imp,Bx])];simp only[hk,Bx,ov,UK,Uy,Uu,Uz]
    cases hn:decide (0<c.fN) with
    | true=>
     rw[AT rfl]
     cases hm:decide ((v.length:Int)<c.fN) with
     | true=>rw[AT rfl];simp[Hl,hx]
     | false=>rw[AL rfl,Cd (T6 (by omega) hM2)];unfold D7;rw[AO (by omega) (by omega)];simp[Hl,hx,hxs]
    | false=>
     have hcl:=Ky (S:=e::S') (F:=F) (by simp;omega) hb (by simp;omega);rw[hr] at hcl;rw[AL rfl,hcl,AV rfl,KV]
     cases hq:decide (JI (e::S')=[]) with
     | true=>rw[AT rfl,AO (by omega) (by omega)];simp[Hl,hx]
     | false=>rw[AL rfl];unfold D7;rw[AO (by omega) (by omega)];simp[Hl,hx]
section
variable {S O : Type} {body : S → Option (Stp S O)} {s t u : S} {o : O}
def DE (body:S→Option (Stp S O))(s t:S):Prop:=∃k,∀n,Cn body (n+k) s=Cn body n t
def Fin (body:S→Option (Stp S O))(s:S)(o:O):Prop:=∃k,∀n,Cn body (n+k) s=some o
theorem DE.refl (s:S):DE body s s:=⟨0,λ_=>rfl⟩
theorem DE.trans (h:DE body s t)(h':DE body t u):DE body s u:=by
 obtain⟨k,hk⟩:=h;obtain⟨j,hj⟩:=h';exact⟨j+k,λn=>by rw[← Nat.add_assoc,hk,hj]⟩
theorem DE.step (h:body s=some (.next t)):DE body s t:=⟨1,λn=>by rw[Cn,h]⟩
theorem Fin.step (h:body s=some (.out o)):Fin body s o:=⟨1,λn=>by rw[Cn,h]⟩
theorem DE.fin (h:DE body s t)(h':Fin body t o):Fin body s o:=by
 obtain⟨k,hk⟩:=h;obtain⟨j,hj⟩:=h';exact⟨j+k,λn=>by rw[← Nat.add_assoc,hk,hj]⟩
end
inductive Fo where
 | nil
 | cell (k:Option Ak) (c:Ac) (r:Fo)
 | node (k:Option Ak) (c:Ac) (kids r:Fo)
def Bq:Option Ak→List Ac
 | none=>[]
 | some s=>[⟨4,0,s,0⟩]
def Fo.flat:Fo→List Ac
 | .nil=>[]
 | .cell k c r=>Bq k++c::r.flat
 | .node k c kids r=>Bq k++c::(kids.flat++r.flat)
def Fo.cnt:Fo→Nat
 | .nil=>0
 | .cell _ _ r=>r.cnt+1
 | .node _ _ _ r=>r.cnt+1
def BT (m:Bool)(last:Option Ak):Option Ak→Bool
 | none=>!m
 | some s=>m&&s.all Rm&&(match last with
  | none=>true
  | some p=>!(C2 s p||decide (s=p)))
def Fo.wf:Bool→Option Ak→Fo→Bool
 | _,_,.nil=>true
 | m,last,.cell k c r=>BT m last k&&pl c&&!decide (0<c.fN)&&r.wf m k
 | m,last,.node k c kids r=>BT m last k&&pl c&&decide (0<c.fN)&&decide (c.fN=kids.cnt)&&kids.wf (decide (c.fKind=6)) none&&r.wf m k
def J6 (k:Option Ak)(sh:A8):A8:=match k with
 | none=>sh
 | some s=>Tr sh ⟨4,0,s,0⟩
def Fo.sh (d:Nat):A8→Fo→A8
 | s,.nil=>s
 | s,.cell k c r=>r.sh d (Hl d (J6 k s) c)
 | s,.node k c kids r=>r.sh d (kids.sh (d+1) (Hl d (J6 k s) c))
def Gj (body:Ml→Option (Stp Ml Sz))(s:Ml)(S:List A3)(i:Int)(sh:A8):Prop:=
 if JI S=[] then Fin body s (.ret (i,sh,true)) else DE body s ((JI S).reverse,i,sh)
theorem Gj.of {body:Ml→Option (Stp Ml Sz)}{s t:Ml}{S:List A3}{i:Int}{sh:A8}(h:DE body s t)(h':Gj body t S i sh):Gj body s S i sh:=by
 unfold Gj at *
 split
 ·rename_i e;rw[if_pos e] at h';exact h.fin h'
 ·rename_i e;rw[UV e] at h';exact h.trans h'
theorem Gj.pop {body:Ml→Option (Stp Ml Sz)}{s:Ml}{e:A3}{S:List A3}{i:Int}{sh:A8}(h:Gj body s (e::S) i sh)(h1:e.fLeft=1):Gj body s S i sh:=by
 have:JI (e::S)=JI S:=by simp[JI,h1]
 unfold Gj at *;rw[this] at h;exact h
theorem Gj.more {body:Ml→Option (Stp Ml Sz)}{s:Ml}{e:A3}{S:List A3}{i:Int}{sh:A8}(h:Gj body s (e::S) i sh)(h1:1<e.fLeft):DE body s ((⟨e.fPairs,e.fLeft-1,e.fPairs,e.fLast,e.fStarted⟩::S).reverse,i,sh):=by
 have:JI (e::S)=⟨e.fPairs,e.fLeft-1,e.fPairs,e.fLast,e.fStarted⟩::S:=by simp[JI,h1]
 unfold Gj at *;rw[this,UV (by simp)] at h;exact h
structure O8 (F M:Nat) (v:List Ac):Prop where
 hM:M≤1152921504606846976
 hM2:(M+2)*48≤140737488355328
 hv:v.length≤M
 hF:M<F
 hc:∀c∈v,c.fStr.length≤M∧B6 .i64 c.fInt=true∧c.fN≤9223372036854775807
abbrev MO (F:Nat)(v:List Ac):Ml→Option (Stp Ml Sz):=λσ=>Dk F v σ.1 σ.2.1 σ.2.2
def Dt (S:List A3):Prop:=∀e∈S,1≤e.fLeft∧e.fLeft≤9223372036854775807
section
variable {F M : Nat} {v : List Ac} {S : List A3} {i : Int} {sh : A8} {c : Ac} {r : List Ac} {e : A3}
theorem BM (h0:0≤i)(h:v.drop i.toNat=c::r):v[i.toNat]? =some c∧v.drop (i+1).toNat=r∧i<v.length:=by
 have h1:(v.drop i.toNat)[0]? =some c:=by rw[h];rfl
 have h2:v[i.toNat]? =some c:=by simpa using h1
 have h3:=(List.getElem?_eq_some_iff.1 h2).1;refine⟨h2,?_,by omega⟩;rw[show(i+1).toNat=i.toNat+1 from by omega,← List.drop_drop,h];rfl
theorem round (hA:O8 F M v)(h0:0≤i)(h:v.drop i.toNat=c::r)(hS:(S.length:Int)≤i)(hb:Dt S):MO F v (S.reverse,i,sh)=some (Nm v.length S i sh c):=by
 obtain⟨h1,_,h3⟩:=BM h0 h;obtain⟨a,b,_⟩:=hA.hc c (U1 h1);have:=hA.hv;exact Mw h0 h1 hA.hM hA.hM2 hA.hv (by omega) hA.hF a b hb
def Ew (e:A3):Option Ak→A3
 | none=>e
 | some s=>⟨e.fPairs,e.fLeft,false,s,true⟩
def Hy (e:A3):Option Ak→Prop
 | none=>e.fStarted=false
 | some p=>e.fStarted=true∧e.fLast=p
theorem KL (hA:O8 F M v)(h0:0≤i){k last:Option Ak}(h:v.drop i.toNat=Bq k++r)(hS:(S.length:Int)+1≤i)(hb:Dt (e::S))(hk:BT e.fKey last k=true)(hl:Hy e last) :
  DE (MO F v) ((e::S).reverse,i,sh) ((Ew e k::S).reverse,i+(Bq k).length,J6 k sh):=by
 cases k with
 | none=>simpa[Ew,Bq,J6] using DE.refl _
 | some s=>
  simp only[BT,Uq] at hk;obtain⟨⟨hm,hok⟩,hcmp⟩:=hk;refine DE.step ?_;rw[round hA h0 (by simpa[Bq] using h) (by simpa using hS) hb];have hp:pl ⟨4,0,s,0⟩=true:=by simp[pl,hok]
  have ht:(e.fStarted&&(C2 s e.fLast||decide (s=e.fLast)))=false:=by
   cases last with
   | none=>simp only[Hy] at hl;rw[hl];rfl
   | some p=>obtain⟨h1,h2⟩:=hl;rw[h1,h2];simpa using hcmp
  simp only[Nm,hp,hm,ht,Uy,Uu,Uz,decide_true,U9,Bool.or_self];rfl
theorem Jn {k last:Option Ak}(hk:BT e.fKey last k=true):(Ew e k).fKey=false:=by
 cases k with
 | none=>simpa[Ew,BT] using hk
 | some s=>rfl
theorem Il (k:Option Ak):(Ew e k).fLeft=e.fLeft∧(Ew e k).fPairs=e.fPairs:=by cases k<;>exact⟨rfl,rfl⟩
theorem Jl (hA:O8 F M v)(h0:0≤i)(h:v.drop i.toNat=c::r)(hS:(S.length:Int)≤i)(hb:Dt S)(hk:Jo S=false)(hp:pl c=true)(hn:decide (0<c.fN)=false) :
  Gj (MO F v) (S.reverse,i,sh) S (i+1) (Hl S.length sh c):=by
 have hr:=round (sh:=sh) hA h0 h hS hb;unfold Gj
 cases S with
 | nil=>
  rw[if_pos (by simp[JI])];refine Fin.step ?_;rw[hr];simp[Nm,hp,hn]
 | cons e S=>
  simp only[Jo] at hk
  split
  ·rename_i hc
   refine Fin.step ?_;rw[hr];simp[Nm,hp,hn,hk,hc]
  ·rename_i hc
   refine DE.step ?_;rw[hr];simp[Nm,hp,hn,hk,hc]
theorem HF (hA:O8 F M v)(h0:0≤i)(h:v.drop i.toNat=c::r)(hS:(S.length:Int)≤i)(hb:Dt S)(hk:Jo S=false)(hp:pl c=true)(hn:decide (0<c.fN)=true)(hv:c.fN≤v.length) :
  DE (MO F v) (S.reverse,i,sh) ((⟨decide (c.fKind=6),c.fN,decide (c.fKind=6),[],false⟩::S).reverse,i+1,Hl S.length sh c):=by
 have hr:=round (sh:=sh) hA h0 h hS hb;have hv':decide ((v.length:Int)<c.fN)=false:=by simpa using hv
 refine DE.step ?_;rw[hr]
 cases S with
 | nil=>simp only[Nm,hp,hn,hv',Uy,Uu,Uz];rfl
 | cons e S=>
  simp only[Jo] at hk;simp only[Nm,hp,hn,hv',hk,Uy,Uu,Uz]
theorem BR:∀f:Fo,f.cnt≤f.flat.length
 | .nil=>UG _
 | .cell k c r=>by have:=BR r;simp[Fo.cnt,Fo.flat];omega
 | .node k c kids r=>by have:=BR r;simp[Fo.cnt,Fo.flat];omega
theorem Cc {α:Type}{v xs r:List α}{i:Int}(h0:0≤i)(h:v.drop i.toNat=xs++r):v.drop (i+xs.length).toNat=r:=by
 rw[show(i+(xs.length:Int)).toNat=i.toNat+xs.length from by omega,← List.drop_drop,h,List.drop_left]
theorem M1 (hA:O8 F M v){e':A3}{s:Ml}{k:Option Ak}{r':Fo}
  (ih:∀(e:A3) (S:List A3) (i:Int) (sh:A8) (last:Option Ak) (r:List Ac),1≤r'.cnt→r'.wf e.fPairs last=true→e.fKey=e.fPairs→e.fLeft=r'.cnt→Hy e last→(e.fPairs=false→last=none)→v.drop i.toNat=r'.flat++r→0≤i→(S.length:Int)+1≤i→Dt S→
   Gj (MO F v) ((e::S).reverse,i,sh) S (i+r'.flat.length) (r'.sh (S.length+1) sh))
  (hd:Gj (MO F v) s (e'::S) i sh) (hl:e'.fLeft=r'.cnt+1) (hw:r'.wf e'.fPairs k=true) (hk:Hy e' k) (hm:e'.fPairs=false→k=none) (hv:v.drop i.toNat=r'.flat++r) (h0:0≤i) (hS:(S.length:Int)+1≤i) (hb:Dt S) :
  Gj (MO F v) s S (i+r'.flat.length) (r'.sh (S.length+1) sh):=by
 by_cases h1:r'.cnt=0
 ·cases r' with
  | nil=>simpa[Fo.flat,Fo.sh] using hd.pop (by rw[hl];rfl)
  | cell _ _ _=>simp[Fo.cnt] at h1
  | node _ _ _ _=>simp[Fo.cnt] at h1
 ·have:=hd.more (by omega);refine Gj.of this (ih _ S i sh k r (by omega) hw rfl (by simp only;omega) ?_ hm hv h0 hS hb)
  cases k with
  | none=>exact hk
  | some p=>exact hk
theorem Im {k last:Option Ak}(hl:Hy e last)(hm:e.fPairs=false→last=none)(hk:BT e.fPairs last k=true):Hy (Ew e k) k∧((Ew e k).fPairs=false→k=none):=by
 cases k with
 | none=>
  have:e.fPairs=false:=by simpa[BT] using hk
  rw[hm this] at hl;exact⟨hl,λ_=>rfl⟩
 | some s=>
  refine⟨⟨rfl,rfl⟩,λh=>?_⟩;have h:e.fPairs=false:=h;simp[BT,h] at hk
theorem JF (hA:O8 F M v):∀(f:Fo) (e:A3) (S:List A3) (i:Int) (sh:A8) (last:Option Ak) (r:List Ac),1≤f.cnt→f.wf e.fPairs last=true→e.fKey=e.fPairs→e.fLeft=f.cnt→Hy e last→(e.fPairs=false→last=none)→v.drop i.toNat=f.flat++r→0≤i→(S.length:Int)+1≤i→Dt S→
   Gj (MO F v) ((e::S).reverse,i,sh) S (i+f.flat.length) (f.sh (S.length+1) sh):=by
 have hmax:∀(i:Int) (xs:List Ac),0≤i→v.drop i.toNat=xs→xs.length≤v.length:=λi xs _ h=>by rw[← h,Vc];omega
 intro f
 induction f with
 | nil=>intro e S i sh last r h1;simp[Fo.cnt] at h1
 | cell k c r' ih=>
  intro e S i sh last r h1 hw hk hl hlo hm hv h0 hS hb;simp only[Fo.wf,Uq,U5] at hw;obtain⟨⟨⟨w1,w2⟩,w3⟩,w4⟩:=hw;simp only[Fo.flat,UM,Vd] at hv;have hcnt:=hmax i _ h0 hv;have hcf:=BR r';simp only[Uo,Uw] at hcnt;have hvM:=hA.hv;have hMM:=hA.hM;simp only[Fo.cnt] at hl;have hb':Dt (e::S):=λx hx=>by
   rcases List.mem_cons.1 hx with rfl | hx
   ·constructor<;>omega
   ·exact hb x hx
  have hkr:=KL (sh:=sh) hA h0 hv hS hb' (by rw[hk];exact w1) hlo;have hv1:=Cc h0 hv;obtain⟨kl,kp⟩:=Il (e:=e) k;have hbk:Dt (Ew e k::S):=λx hx=>by
   rcases List.mem_cons.1 hx with rfl | hx
   ·rw[kl];exact hb' e (by simp)
   ·exact hb x hx
  have hd:=Jl (sh:=J6 k sh) hA (by omega) hv1 (by simp only[Uw];omega) hbk (Jn (by rw[hk];exact w1)) w2 w3;obtain⟨q1,q2⟩:=Im hlo hm w1;have hv2:=(BM (by omega) hv1).2.1;have:=M1 hA ih (hd.of hkr) (by rw[kl,hl];rfl) (by rw[kp];exact w4) q1 q2 hv2 (by omega) (by omega) hb;simp only[Fo.flat,Fo.sh,Uo,Uw];rw[show i+((((Bq k).length+(r'.flat.length+1):Nat)):Int)=i+(Bq k).length+1+r'.flat.length from by omega];exact this
 | node k c kids r' ihk ih=>
  intro e S i sh last r h1 hw hk hl hlo hm hv h0 hS hb;simp only[Fo.wf,Uq,Un] at hw;obtain⟨⟨⟨⟨⟨w1,w2⟩,w3⟩,w5⟩,w6⟩,w4⟩:=hw;simp only[Fo.flat,UM,Vd] at hv;have hcnt:=hmax i _ h0 hv;have hcf:=BR r';have hck:=BR kids;simp only[Uo,Uw] at hcnt;have hvM:=hA.hv;have hMM:=hA.hM;simp only[Fo.cnt] at hl;have hb':Dt (e::S):=λx hx=>by
   rcases List.mem_cons.1 hx with rfl | hx
   ·constructor<;>omega
   ·exact hb x hx
  have hkr:=KL (sh:=sh) hA h0 hv hS hb' (by rw[hk];exact w1) hlo;have hv1:=Cc h0 hv;obtain⟨kl,kp⟩:=Il (e:=e) k;have hbk:Dt (Ew e k::S):=λx hx=>by
   rcases List.mem_cons.1 hx with rfl | hx
   ·rw[kl];exact hb' e (by simp)
   ·exact hb x hx
  have hn:=HF (sh:=J6 k sh) hA (by omega) hv1 (by simp only[Uw];omega) hbk (Jn (by rw[hk];exact w1)) w2 (by simpa using w3) (by omega);have hv2:=(BM (by omega) hv1).2.1;have hd:=ihk ⟨decide (c.fKind=6),c.fN,decide (c.fKind=6),[],false⟩ (Ew e k::S) (i+(Bq k).length+1) (Hl (S.length+1) (J6 k sh) c) none _ (by omega) w6 rfl w5 rfl (λ_=>rfl) hv2 (by omega) (by simp only[Uw];omega) hbk;obtain⟨q1,q2⟩:=Im hlo hm w1;have hv3:=Cc (by omega) hv2;have:=M1 hA ih ((hd.of hn).of hkr) (by rw[kl,hl];rfl) (by rw[kp];exact w4) q1 q2 hv3 (by omega) (by omega) hb;simp only[Fo.flat,Fo.sh,Uo,Uw];rw[show i+((((Bq k).length+(kids.flat.length+r'.flat.length+1):Nat)):Int)=i+(Bq k).length+1+kids.flat.length+r'.flat.length from by omega];exact this
end
theorem MM {S O:Type}{body:S→Option (Stp S O)}{o:O}:∀{n:Nat} {s:S} (k:Nat),Cn body n s=some o→Cn body (n+k) s=some o
 | 0,s,k,h=>by cases h
 | n+1,s,k,h=>by
  rw[show n+1+k=n+k+1 from by omega,Cn];rw[Cn] at h
  cases hb:body s with
  | none=>rw[hb] at h;cases h
  | some t=>
   rw[hb] at h
   cases t with
   | next s'=>exact MM k h
   | out o'=>exact h
theorem Fin.eq {S O:Type}{body:S→Option (Stp S O)}{s:S}{o o':O}{n:Nat}(h:Fin body s o)(h':Cn body n s=some o'):o'=o:=by
 obtain⟨k,hk⟩:=h;have:=MM k h';rw[hk n] at this;exact(A0 this).symm
theorem LD:∀{S:List A3},Dt S→Dt (JI S)∧(JI S).length≤S.length
 | [],h=>⟨h,UG _⟩
 | e::S,h=>by
  have hS:Dt S:=λx hx=>h x (by simp[hx]);have he:=h e (by simp);unfold JI
  cases hd:decide (1<e.fLeft) with
  | true=>
   simp only[Un] at hd;refine⟨λx hx=>?_,by simp⟩;rcases List.mem_cons.1 hx with rfl | hx
   ·simp only;omega
   ·exact hS x hx
  | false=>
   obtain⟨h1,h2⟩:=LD hS;exact⟨h1,by simp only[Uu,Uw];omega⟩
theorem Q4 {n:Int}{S:List A3}{i:Int}{sh:A8}{c:Ac}{σ:Ml}(hb:Dt S)(hS:(S.length:Int)≤i)(hN:c.fN≤9223372036854775807)(h:Nm n S i sh c = .next σ):∃S' sh',σ=(S'.reverse,i+1,sh')∧Dt S'∧(S'.length:Int)≤i+1:=by
 unfold Nm at h
 cases hp:pl c with
 | false=>simp[hp] at h
 | true=>
  simp only[hp,Uy,Uu] at h
  cases S with
  | nil=>
   simp only at h
   cases hn:decide (0<c.fN) with
   | false=>simp[hn] at h
   | true=>
    simp only[hn,Uz] at h
    cases hm:decide (n<c.fN) with
    | true=>simp[hm] at h
    | false=>
     simp only[hm,Uu,Stp.next.injEq] at h;refine⟨[_],_,h.symm,λx hx=>?_,by simp at hS ⊢;omega⟩;simp only[UL] at hx;subst hx;simp only[Un] at hn;exact⟨by simp only;omega,hN⟩
  | cons e S=>
   have he:=hb e (by simp);have hbS:Dt S:=λx hx=>hb x (by simp[hx]);simp only[Uw] at hS
   cases hk:e.fKey with
   | true=>
    simp only[hk,Uz] at h
    cases hq:(!decide (c.fKind=4)||(e.fStarted&&(C2 c.fStr e.fLast||decide (c.fStr=e.fLast)))) with
    | true=>rw[hq] at h;simp at h
    | false=>
     rw[hq] at h;simp only[Uu,Stp.next.injEq] at h;refine⟨_::S,_,h.symm,λx hx=>?_,by simp only[Uw];omega⟩;rcases List.mem_cons.1 hx with rfl | hx
     ·exact he
     ·exact hbS x hx
   | false=>
    simp only[hk,Uu] at h
    cases hn:decide (0<c.fN) with
    | true=>
     simp only[hn,Uz] at h
     cases hm:decide (n<c.fN) with
     | true=>simp[hm] at h
     | false=>
      simp only[hm,Uu,Stp.next.injEq] at h;refine⟨_::e::S,_,h.symm,λx hx=>?_,by simp only[Uw];omega⟩;rcases List.mem_cons.1 hx with rfl | hx
      ·simp only[Un] at hn;exact⟨by simp only;omega,hN⟩
      ·exact hb x hx
    | false=>
     simp only[hn,Uu] at h
     cases hq:decide (JI (e::S)=[]) with
     | true=>rw[hq] at h;simp at h
     | false=>
      rw[hq] at h;simp only[Uu,Stp.next.injEq] at h;obtain⟨h1,h2⟩:=LD hb;simp only[Uw] at h2;exact⟨_,_,h.symm,h1,by omega⟩
theorem KJ {F M:Nat}{v:List Ac}(hA:O8 F M v):∃o,Cn (MO F v) F (([]:List A3),0,(⟨0,0,false,false⟩:A8))=some o∧True:=by
 refine EW (λσ=>∃S i sh,σ=(S.reverse,i,sh)∧Dt S∧(S.length:Int)≤i∧0≤i∧i≤v.length) (λσ=>v.length-σ.2.1.toNat) (λ_=>True) (λσ hI=>?_) F _ ⟨[],0,_,rfl,(λx hx=>by cases hx),UE _,UE _,by omega⟩ (by have:=hA.hv;have:=hA.hF;simp;omega);obtain⟨S,i,sh,rfl,hb,hS,h0,hi⟩:=hI
 by_cases hx:i<v.length
 ·obtain⟨c,hc⟩:∃c,v[i.toNat]? =some c:=⟨v[i.toNat]'(by omega),Us (by omega)⟩
  have hdr:v.drop i.toNat=c::v.drop (i.toNat+1):=by rw[List.drop_eq_getElem_cons (by omega)];congr 1;exact(List.getElem?_eq_some_iff.1 hc).2
  have hr:=round (sh:=sh) hA h0 hdr hS hb
  cases hl:Nm v.length S i sh c with
  | next τ=>
   obtain⟨S',sh',rfl,h1,h2⟩:=Q4 hb hS (hA.hc c (U1 hc)).2.2 hl;exact .inl ⟨_,by rw[hr,hl],⟨S',i+1,sh',rfl,h1,h2,by omega,by omega⟩,by simp only;omega⟩
  | out o=>exact .inr ⟨o,by rw[hr,hl],trivial⟩
 ·refine .inr ⟨.go sh,?_,trivial⟩;show Dk F v S.reverse i sh=_;unfold Dk;rw[AL (by simpa using hx)]
def Fo.one:Fo→Bool
 | .cell none _ .nil=>true
 | .node none _ _ .nil=>true
 | _=>false
def K6:A8:=⟨0,0,false,false⟩
theorem Q3 {F M:Nat}{v:List Ac}(hA:O8 F M v){f:Fo}(h1:f.one=true)(hw:f.wf false none=true){r:List Ac}(hv:v=f.flat++r):Fin (MO F v) ([],0,K6) (.ret (f.flat.length,f.sh 0 K6,true)):=by
 have h0:v.drop (0:Int).toNat=f.flat++r:=by rw[hv];rfl
 have hlen:f.flat.length≤v.length:=by rw[hv];simp
 cases f with
 | nil=>cases h1
 | cell k c r'=>
  cases k with
  | some s=>cases h1
  | none=>
   cases r' with
   | nil=>
    simp only[Fo.wf,Uq,U5] at hw;have:=Jl (S:=[]) (sh:=K6) hA (UE 0) h0 (by simp) (λx hx=>by cases hx) rfl hw.1.1.2 hw.1.2;unfold Gj at this;rw[if_pos (show JI []=[] from rfl)] at this;simpa[Fo.flat,Fo.sh,Bq,J6] using this
   | cell _ _ _=>cases h1
   | node _ _ _ _=>cases h1
 | node k c kids r'=>
  cases k with
  | some s=>cases h1
  | none=>
   cases r' with
   | nil=>
    simp only[Fo.wf,Uq,Un] at hw;obtain⟨⟨⟨⟨⟨w1,w2⟩,w3⟩,w5⟩,w6⟩,w4⟩:=hw;have hck:=BR kids;simp only[Fo.flat,Bq,Vg,UY,Uw] at hlen;have hvM:=hA.hv;have hMM:=hA.hM;have hn:=HF (S:=[]) (sh:=K6) hA (UE 0) h0 (by simp) (λx hx=>by cases hx) rfl w2 (by simpa using w3) (by omega);have hv2:=(BM (UE 0) h0).2.1;have hd:=JF hA kids ⟨decide (c.fKind=6),c.fN,decide (c.fKind=6),[],false⟩ [] (0+1) (Hl 0 K6 c) none r (by omega) w6 rfl w5 rfl (λ_=>rfl) (by rw[hv2];simp[Fo.flat]) (by omega) (by simp) (λx hx=>by cases hx);unfold Gj at hd;rw[if_pos (show JI []=[] from rfl)] at hd;have:=hn.fin hd;have e:((0:Int)+1+kids.flat.length)=((Fo.node none c kids .nil).flat.length:Int):=by simp[Fo.flat,Bq];omega
    rw[e] at this;exact this
   | cell _ _ _=>cases h1
   | node _ _ _ _=>cases h1
theorem MN {F M:Nat}{v:List Ac}(hA:O8 F M v){f:Fo}(h1:f.one=true)(hw:f.wf false none=true){r:List Ac}(hv:v=f.flat++r):Ha F v=some ((f.flat.length:Int),f.sh 0 K6,true):=by
 obtain⟨o,ho,_⟩:=KJ hA;have e:=(Q3 hA h1 hw hv).eq ho;subst e;unfold Ha;rw[AV ho];rfl
def GM (m:Bool)(last:Option Ak)(xs:List Ac):Option (Option Ak×List Ac):=
 bif m then match xs with
  | []=>none
  | c::r=>bif pl c&&decide (c.fKind=4)&&BT true last (some c.fStr) then some (some c.fStr,r) else none
 else some (none,xs)
def G8:Nat→Bool→Option Ak→Nat→List Ac→Option (Fo×List Ac)
 | 0,_,_,_,_=>none
 | _+1,_,_,0,xs=>some (.nil,xs)
 | F+1,m,last,k+1,xs=>
  match GM m last xs with
  | none=>none
  | some (_,[])=>none
  | some (key,c::xs')=>
   bif !pl c then none else
   bif decide (0<c.fN) then
    match G8 F (decide (c.fKind=6)) none c.fN.toNat xs' with
    | none=>none
    | some (kids,ys)=>match G8 F m key k ys with
     | none=>none
     | some (r,zs)=>some (.node key c kids r,zs)
   else match G8 F m key k xs' with
    | none=>none
    | some (r,zs)=>some (.cell key c r,zs)
theorem LR {c:Ac}(hp:pl c=true)(hk:c.fKind=4):c=⟨4,0,c.fStr,0⟩∧c.fStr.all Rm=true:=by
 cases c
 simp only at hk;subst hk;simp[pl] at hp;obtain⟨h1,h2,h3⟩:=hp;subst h1;subst h2;exact⟨rfl,by simpa using h3⟩
theorem JX {m:Bool}{last key:Option Ak}{xs r:List Ac}(h:GM m last xs=some (key,r)):xs=Bq key++r∧BT m last key=true:=by
 unfold GM at h
 cases m with
 | false=>cases h;exact⟨rfl,rfl⟩
 | true=>
  simp only[Uz] at h
  cases xs with
  | nil=>cases h
  | cons c r'=>
   simp only at h
   cases hb:(pl c&&decide (c.fKind=4)&&BT true last (some c.fStr)) with
   | false=>rw[hb] at h;cases h
   | true=>
    rw[hb] at h;simp only[Uq,Un] at hb
    cases h
    exact⟨by rw[(LR hb.1.1 hb.1.2).1];rfl,hb.2⟩
theorem Gf:∀(F:Nat) (m:Bool) (last:Option Ak) (k:Nat) (xs:List Ac) (f:Fo) (ys:List Ac),G8 F m last k xs=some (f,ys)→xs=f.flat++ys∧f.wf m last=true∧f.cnt=k
 | 0,_,_,_,_,_,_,h=>by cases h
 | F+1,m,last,0,xs,f,ys,h=>by cases h;exact⟨rfl,rfl,rfl⟩
 | F+1,m,last,k+1,xs,f,ys,h=>by
  rw[G8] at h
  cases hk:GM m last xs with
  | none=>rw[hk] at h;cases h
  | some p=>
   obtain⟨key,r⟩:=p;obtain⟨h1,h2⟩:=JX hk;rw[hk] at h
   cases r with
   | nil=>cases h
   | cons c xs'=>
    simp only at h
    cases hp:pl c with
    | false=>rw[hp] at h;cases h
    | true=>
     rw[hp] at h;simp only[Uy,Uu] at h
     cases hn:decide (0<c.fN) with
     | true=>
      rw[hn] at h;simp only[Uz] at h
      cases hq:G8 F (decide (c.fKind=6)) none c.fN.toNat xs' with
      | none=>rw[hq] at h;cases h
      | some q=>
       obtain⟨kids,zs⟩:=q;rw[hq] at h;simp only at h
       cases hr:G8 F m key k zs with
       | none=>rw[hr] at h;cases h
       | some q2=>
        obtain⟨r2,us⟩:=q2;rw[hr] at h;cases h;obtain⟨a1,a2,a3⟩:=Gf F _ _ _ _ _ _ hq;obtain⟨b1,b2,b3⟩:=Gf F _ _ _ _ _ _ hr;refine⟨by rw[h1,a1,b1];simp[Fo.flat],?_,by simp[Fo.cnt,b3]⟩;simp only[Un] at hn;simp only[Fo.wf,h2,hp,a2,b2,UB,U3,Uq,Un];omega
     | false=>
      rw[hn] at h;simp only[Uu] at h
      cases hr:G8 F m key k xs' with
      | none=>rw[hr] at h;cases h
      | some q2=>
       obtain⟨r2,us⟩:=q2;rw[hr] at h;cases h;obtain⟨b1,b2,b3⟩:=Gf F _ _ _ _ _ _ hr;exact⟨by rw[h1,b1];simp[Fo.flat],by simp[Fo.wf,h2,hp,b2,hn],by simp[Fo.cnt,b3]⟩
theorem Gz:∀(F F':Nat) (m:Bool) (last:Option Ak) (k:Nat) (xs:List Ac),xs.length<F→xs.length<F'→G8 F m last k xs=G8 F' m last k xs
 | 0,_,_,_,_,_,h,_=>by omega
 | _+1,0,_,_,_,_,_,h=>by omega
 | F+1,F'+1,m,last,0,xs,_,_=>rfl
 | F+1,F'+1,m,last,k+1,xs,h,h'=>by
  rw[G8,G8]
  cases hk:GM m last xs with
  | none=>rfl
  | some p=>
   obtain⟨key,r⟩:=p;obtain⟨h1,h2⟩:=JX hk
   cases r with
   | nil=>rfl
   | cons c xs'=>
    have hl:xs'.length<xs.length:=by rw[h1];simp;omega
    simp only
    cases hp:pl c with
    | false=>rfl
    | true=>
     simp only[Uy,Uu]
     cases hn:decide (0<c.fN) with
     | true=>
      simp only[Uz];rw[Gz F F' _ _ _ xs' (by omega) (by omega)]
      cases hq:G8 F' (decide (c.fKind=6)) none c.fN.toNat xs' with
      | none=>rfl
      | some q=>
       obtain⟨kids,zs⟩:=q;have:=(Gf _ _ _ _ _ _ _ hq).1;have hz:zs.length≤xs'.length:=by rw[this];simp
       simp only;rw[Gz F F' m key k zs (by omega) (by omega)]
     | false=>
      simp only[Uu];rw[Gz F F' m key k xs' (by omega) (by omega)]
def NR {S:Type}(body:S→Option (Stp S Sz))(s:S):Prop:=∃sh',Fin body s (.ret (0,sh',false))∨Fin body s (.go sh')
theorem DE.bad {S:Type}{body:S→Option (Stp S Sz)}{s t:S}(h:DE body s t)(h':NR body t):NR body s:=by
 obtain⟨sh',h' | h'⟩:=h'
 ·exact⟨sh',.inl (h.fin h')⟩
 ·exact⟨sh',.inr (h.fin h')⟩
section
variable {F M : Nat} {v : List Ac}
theorem NR.end_ {S:List A3}{i:Int}{sh:A8}(h0:0≤i)(h:v.drop i.toNat=[]):NR (MO F v) (S.reverse,i,sh):=by
 refine⟨sh,.inr (Fin.step ?_)⟩;show Dk F v S.reverse i sh=_;unfold Dk;rw[AL];have:v.length≤i.toNat:=by simpa using h
 simp;omega
theorem NR.pl_ (hA:O8 F M v){S:List A3}{i:Int}{sh:A8}{c:Ac}{r:List Ac}(h0:0≤i)(h:v.drop i.toNat=c::r)(hS:(S.length:Int)≤i)(hb:Dt S)(hp:pl c=false):NR (MO F v) (S.reverse,i,sh):=by
 refine⟨sh,.inl (Fin.step ?_)⟩;rw[round hA h0 h hS hb];simp[Nm,hp]
theorem NC (hA:O8 F M v):∀(P:Nat) (k:Nat) (e:A3) (S:List A3) (i:Int) (sh:A8) (last:Option Ak) (xs:List Ac),xs.length<P→G8 P e.fPairs last (k+1) xs=none→e.fKey=e.fPairs→e.fLeft=(k:Int)+1→(k:Int)+1≤9223372036854775807→Hy e last→(e.fPairs=false→last=none)→v.drop i.toNat=xs→0≤i→(S.length:Int)+1≤i→Dt S→
  NR (MO F v) ((e::S).reverse,i,sh):=by
 intro P
 induction P with
 | zero=>intro k e S i sh last xs h;omega
 | succ P ih=>
  intro k e S i sh last xs hP hn hk hl hkm hlo hm hv h0 hS hb;have hb':Dt (e::S):=λx hx=>by
   rcases List.mem_cons.1 hx with rfl | hx
   ·constructor<;>omega
   ·exact hb x hx
  rw[G8] at hn
  cases hq:GM e.fPairs last xs with
  | none=>
   unfold GM at hq
   cases hpr:e.fPairs with
   | false=>rw[hpr] at hq;cases hq
   | true=>
    rw[hpr] at hq hk;simp only[Uz] at hq
    cases xs with
    | nil=>exact NR.end_ h0 hv
    | cons c r=>
     simp only at hq
     cases hp:pl c with
     | false=>exact NR.pl_ hA h0 hv (by simpa using hS) hb' hp
     | true=>
      refine⟨sh,.inl (Fin.step ?_)⟩;rw[round hA h0 hv (by simpa using hS) hb'];have ht:(!decide (c.fKind=4)||(e.fStarted&&(C2 c.fStr e.fLast||decide (c.fStr=e.fLast))))=true:=by
       rw[hp] at hq
       cases h4:decide (c.fKind=4) with
       | false=>rfl
       | true=>
        rw[h4] at hq;simp only[Bool.and_self,U3] at hq;have hok:=(LR hp (by simpa using h4)).2
        cases last with
        | none=>simp[BT,hok] at hq
        | some p=>
         obtain⟨q1,q2⟩:=hlo;rw[q1,q2]
         cases hc:(C2 c.fStr p||decide (c.fStr=p)) with
         | true=>rfl
         | false=>simp[BT,hok,hc] at hq
      simp only[Nm,hp,hk,ht,Uy,Uu,Uz]
  | some q=>
   obtain⟨key,r⟩:=q;obtain⟨h1,h2⟩:=JX hq;rw[hq] at hn;have hkr:=KL (sh:=sh) hA h0 (by rw[hv];exact h1) hS hb' (by rw[hk];exact h2) hlo;have hv1:=Cc h0 (hv.trans h1);obtain⟨kl,kp⟩:=Il (e:=e) key;obtain⟨q1,q2⟩:=Im hlo hm h2;have hbk:Dt (Ew e key::S):=λx hx=>by
    rcases List.mem_cons.1 hx with rfl | hx
    ·rw[kl];exact hb' e (by simp)
    ·exact hb x hx
   refine hkr.bad ?_
   cases r with
   | nil=>exact NR.end_ (by omega) hv1
   | cons c xs'=>
    have hlen:xs'.length+1≤xs.length:=by rw[h1];simp
    have hvl:xs.length≤v.length:=by rw[← hv,Vc];omega
    have hvM:=hA.hv;have hMM:=hA.hM;have hkk:=Jn (e:=e) (last:=last) (k:=key) (by rw[hk];exact h2);simp only at hn;have hSk:(((Ew e key::S).length:Nat):Int)≤i+(Bq key).length:=by simp only[Uw];omega
    cases hp:pl c with
    | false=>exact NR.pl_ hA (by omega) hv1 hSk hbk hp
    | true=>
     rw[hp] at hn;simp only[Uy,Uu] at hn;obtain⟨g1,g2,g3⟩:=BM (by omega) hv1;have hcN:=(hA.hc c (U1 g1)).2.2;have more:∀(s:Ml) (j:Int) (sh':A8) (zs:List Ac),Gj (MO F v) s (Ew e key::S) j sh'→v.drop j.toNat=zs→zs.length<P→0≤j→(S.length:Int)+1≤j→G8 P e.fPairs key k zs=none→NR (MO F v) s:=λs j sh' zs hd hz hzl hj hSj hnone=>by
      cases k with
      | zero=>
       cases P with
       | zero=>omega
       | succ P=>cases hnone
      | succ k=>
       have:=hd.more (by rw[kl];omega);refine this.bad (ih k _ S j sh' key zs hzl (by rw[kp];exact hnone) rfl (by simp only[kl];omega) (by omega) ?_ (by simpa using q2) hz hj hSj hb)
       cases key with
       | none=>exact q1
       | some p=>exact q1
     cases hN:decide (0<c.fN) with
     | true=>
      rw[hN] at hn;simp only[Uz] at hn;simp only[Un] at hN
      by_cases hbig:c.fN≤v.length
      ·have hnd:=HF (sh:=J6 key sh) hA (by omega) hv1 hSk hbk (by simpa[Jo] using hkk) hp (by simpa using hN) hbig;refine hnd.bad ?_
       cases hks:G8 P (decide (c.fKind=6)) none c.fN.toNat xs' with
       | none=>
        obtain⟨n',hn'⟩:∃n',c.fN.toNat=n'+1:=⟨c.fN.toNat-1,by omega⟩
        rw[hn'] at hks;exact ih n' _ _ _ _ none xs' (by omega) hks rfl (by simp only;omega) (by omega) rfl (λ_=>rfl) g2 (by omega) (by simp only[Uw];omega) hbk
       | some q=>
        obtain⟨kids,zs⟩:=q;rw[hks] at hn;simp only at hn;have hn2:G8 P e.fPairs key k zs=none:=by
         cases hz:G8 P e.fPairs key k zs with
         | none=>rfl
         | some q=>rw[hz] at hn;cases hn
        obtain⟨a1,a2,a3⟩:=Gf _ _ _ _ _ _ _ hks;have hd:=JF hA kids ⟨decide (c.fKind=6),c.fN,decide (c.fKind=6),[],false⟩ (Ew e key::S) (i+(Bq key).length+1) (Hl (S.length+1) (J6 key sh) c) none zs (by omega) a2 rfl (by simp only;omega) rfl (λ_=>rfl) (by rw[g2];exact a1) (by omega) (by simp only[Uw];omega) hbk;have hz:v.drop (i+(Bq key).length+1+kids.flat.length).toNat=zs:=Cc (by omega) (g2.trans a1);have hzl:zs.length≤xs'.length:=by rw[a1];simp
        exact more _ _ _ zs hd hz (by omega) (by omega) (by omega) hn2
      ·refine⟨Hl (Ew e key::S).length (J6 key sh) c,.inl (Fin.step ?_)⟩;rw[round hA (by omega) hv1 hSk hbk];have hbig':decide ((v.length:Int)<c.fN)=true:=by simpa using hbig
       simp only[Nm,hp,hkk,hbig',hN,Uy,Uu,Uz,decide_true]
     | false=>
      rw[hN] at hn;simp only[Uu] at hn;have hn2:G8 P e.fPairs key k xs'=none:=by
       cases hz:G8 P e.fPairs key k xs' with
       | none=>rfl
       | some q=>rw[hz] at hn;cases hn
      have hd:=Jl (sh:=J6 key sh) hA (by omega) hv1 hSk hbk (by simpa[Jo] using hkk) hp hN;exact more _ _ _ xs' hd g2 (by omega) (by omega) (by omega) hn2
def G1 (xs:List Ac):Option (Fo×List Ac):=G8 (xs.length+1) false none 1 xs
theorem Oc {P:Nat}{xs ys:List Ac}{f:Fo}(h:G8 P false none 1 xs=some (f,ys)):f.one=true:=by
 obtain⟨h1,h2,h3⟩:=Gf _ _ _ _ _ _ _ h
 cases f with
 | nil=>cases h3
 | cell k c r=>
  cases r with
  | nil=>
   cases k with
   | none=>rfl
   | some s=>simp[Fo.wf,BT] at h2
  | cell _ _ _=>simp[Fo.cnt] at h3
  | node _ _ _ _=>simp[Fo.cnt] at h3
 | node k c kids r=>
  cases r with
  | nil=>
   cases k with
   | none=>rfl
   | some s=>simp[Fo.wf,BT] at h2
  | cell _ _ _=>simp[Fo.cnt] at h3
  | node _ _ _ _=>simp[Fo.cnt] at h3
theorem Pj (hA:O8 F M v)(h:G1 v=none):NR (MO F v) ([],0,K6):=by
 have hlf:Dt []:=λx hx=>by cases hx
 unfold G1 at h;rw[G8] at h;simp only[GM,Uu] at h
 cases v with
 | nil=>exact NR.end_ (S:=[]) (UE 0) rfl
 | cons c xs'=>
  have hv1:(c::xs').drop (0:Int).toNat=c::xs':=rfl;have hvM:=hA.hv;have hMM:=hA.hM;simp only at h
  cases hp:pl c with
  | false=>exact NR.pl_ (S:=[]) hA (UE 0) hv1 (by simp) hlf hp
  | true=>
   rw[hp] at h;simp only[Uy,Uu] at h;have hcN:=(hA.hc c (by simp)).2.2
   cases hN:decide (0<c.fN) with
   | true=>
    rw[hN] at h;simp only[Uz] at h;simp only[Un] at hN
    by_cases hbig:c.fN≤(c::xs').length
    ·have hnd:=HF (S:=[]) (sh:=K6) hA (UE 0) hv1 (by simp) hlf rfl hp (by simpa using hN) hbig;refine hnd.bad ?_
     cases hks:G8 (c::xs').length (decide (c.fKind=6)) none c.fN.toNat xs' with
     | none=>
      obtain⟨n',hn'⟩:∃n',c.fN.toNat=n'+1:=⟨c.fN.toNat-1,by omega⟩
      rw[hn'] at hks;exact NC hA (c::xs').length n' ⟨decide (c.fKind=6),c.fN,decide (c.fKind=6),[],false⟩ [] (0+1) _ none xs' (by simp) hks rfl (by simp only;omega) (by omega) rfl (λ_=>rfl) rfl (by omega) (by simp) hlf
     | some q=>rw[hks] at h;cases h
    ·refine⟨Hl 0 K6 c,.inl (Fin.step ?_)⟩;rw[show MO F (c::xs') (([]:List A3),0,K6)=_ from round (S:=[]) hA (UE 0) hv1 (by simp) hlf];have hbig':decide (((c::xs').length:Int)<c.fN)=true:=by simpa using hbig
     simp only[Nm,hp,hbig',hN,Uy,Uu,Uz,decide_true]
   | false=>rw[hN] at h;cases h
theorem RI (hA:O8 F M v):(∃f ys,G1 v=some (f,ys)∧Ha F v=some ((f.flat.length:Int),f.sh 0 K6,true))∨(G1 v=none∧∃sh',Ha F v=some (0,sh',false)):=by
 cases h:G1 v with
 | some q=>
  obtain⟨f,ys⟩:=q;obtain⟨h1,h2,h3⟩:=Gf _ _ _ _ _ _ _ h;exact .inl ⟨f,ys,rfl,MN hA (Oc h) h2 h1⟩
 | none=>
  refine .inr ⟨rfl,?_⟩;obtain⟨o,ho,_⟩:=KJ hA;obtain⟨sh',hb | hb⟩:=Pj hA h
  ·have e:=hb.eq ho;subst e;exact⟨sh',by unfold Ha;rw[AV ho];rfl⟩
  ·have e:=hb.eq ho;subst e;exact⟨sh',by unfold Ha;rw[AV ho];rfl⟩
end
theorem H4 {x:Int}(h : -9223372036854775808≤x)(h':x≤9223372036854775807):IntKind.wrap .i64 x=x:=by
 simp only[IntKind.wrap,IntKind.bits,IntKind.signed];simp;omega
def Fo.dep:Fo→Nat
 | .nil=>0
 | .cell _ _ r=>max 1 r.dep
 | .node _ _ kids r=>max (kids.dep+1) r.dep
theorem E4 (k:Option Ak)(s:A8):(J6 k s).fDepth=s.fDepth∧(J6 k s).fOutside=s.fOutside∧(J6 k s).fLong=(s.fLong||(Bq k).any λc=>decide (200<(c.fStr.length:Int))):=by
 cases k with
 | none=>simp[J6,Bq]
 | some x=>simp[J6,Tr,Bq]
theorem I3:∀(f:Fo) (d:Nat) (s:A8),(d:Int)≤s.fDepth→(f.sh d s).fDepth=max s.fDepth ((d:Int)+f.dep)
 | .nil,d,s,h=>by simp only[Fo.sh,Fo.dep];omega
 | .cell k c r,d,s,h=>by
  have hk:=(E4 k s).1;have e:(Hl d (J6 k s) c).fDepth=max s.fDepth ((d:Int)+1):=by rw[Hl,hk]
  rw[Fo.sh,I3 r d _ (by rw[e];omega),e,Fo.dep];omega
 | .node k c kids r,d,s,h=>by
  have hk:=(E4 k s).1;have e:(Hl d (J6 k s) c).fDepth=max s.fDepth ((d:Int)+1):=by rw[Hl,hk]
  have e2:=I3 kids (d+1) (Hl d (J6 k s) c) (by rw[e];omega);rw[e] at e2;rw[Fo.sh,I3 r d _ (by rw[e2];omega),e2,Fo.dep];omega
def HO (c:Ac):Bool:=decide (c.fKind=3)&&!(decide ((-1000000000000)≤c.fInt)&&decide (c.fInt≤1000000000000))
def He (c:Ac):Bool:=decide (200<(c.fStr.length:Int))
theorem MR (k:Option Ak):(Bq k).any HO=false:=by cases k<;>simp[Bq,HO]
theorem LL:∀(f:Fo) (d:Nat) (s:A8),(f.sh d s).fOutside=(s.fOutside||f.flat.any HO)
 | .nil,d,s=>by simp[Fo.sh,Fo.flat]
 | .cell k c r,d,s=>by
  rw[Fo.sh,LL r,Hl,(E4 k s).2.1];simp only[Fo.flat,List.any_append,List.any_cons,MR,U4,Bool.or_assoc];rfl
 | .node k c kids r,d,s=>by
  rw[Fo.sh,LL r,LL kids,Hl,(E4 k s).2.1];simp only[Fo.flat,List.any_append,List.any_cons,MR,U4,Bool.or_assoc];rfl
theorem JU:∀(f:Fo) (d:Nat) (s:A8),(f.sh d s).fLong=(s.fLong||f.flat.any He)
 | .nil,d,s=>by simp[Fo.sh,Fo.flat]
 | .cell k c r,d,s=>by
  rw[Fo.sh,JU r,Hl,(E4 k s).2.2];simp only[Fo.flat,List.any_append,List.any_cons,Bool.or_assoc];rfl
 | .node k c kids r,d,s=>by
  rw[Fo.sh,JU r,JU kids,Hl,(E4 k s).2.2];simp only[Fo.flat,List.any_append,List.any_cons,Bool.or_assoc];rfl
def PE (c:Ac):Int:=
 bif decide (c.fKind=1) then 4 else bif decide (c.fKind=2) then 5-c.fInt else bif decide (c.fKind=3) then((Lib.itoa c.fInt).length:Int) else
 bif decide (c.fKind=4) then Jh c.fStr else 2
def LV:Option Ak→Int
 | none=>0
 | some s=>Jh s+1
def Fo.byt:Fo→Int
 | .nil=>0
 | .cell k c r=>LV k+PE c+r.byt
 | .node k c kids r=>LV k+(c.fN+1)+kids.byt+r.byt
theorem IE (s:Ak):2≤Jh s:=by unfold Jh;omega
theorem Kc (k:Option Ak):0≤LV k:=by
 cases k with
 | none=>exact UE 0
 | some s=>have:=IE s;simp only[LV];omega
theorem Om {c:Ac}(hp:pl c=true):0≤PE c:=by
 unfold PE
 cases h1:decide (c.fKind=1) with
 | true=>simp
 | false=>
  cases h2:decide (c.fKind=2) with
  | true=>
   simp[pl,h1,h2] at hp;simp only[Uu,Uz];omega
  | false=>
   cases h3:decide (c.fKind=3) with
   | true=>simp
   | false=>
    cases h4:decide (c.fKind=4) with
    | true=>have:=IE c.fStr;simp only[Uu,Uz];omega
    | false=>simp
theorem RB {c:Ac}(hp:pl c=true):0≤c.fN:=by
 simp only[pl,← Bool.decide_or] at hp
 cases h1:decide (c.fKind=1)<;>cases h2:decide (c.fKind=2)<;>cases h3:decide (c.fKind=3)<;>cases h4:decide (c.fKind=4)<;>cases h5:decide (c.fKind=5)<;>cases h6:decide (c.fKind=6)<;>simp[h1,h2,h3,h4,h5,h6] at hp<;>omega
theorem GN {c:Ac}(hp:pl c=true)(hn:0<c.fN):(c.fKind=5∨c.fKind=6)∧c.fInt=0∧c.fStr=[]:=by
 cases h1:decide (c.fKind=1)<;>cases h2:decide (c.fKind=2)<;>cases h3:decide (c.fKind=3)<;>cases h4:decide (c.fKind=4)<;>cases h5:decide (c.fKind=5)<;>cases h6:decide (c.fKind=6)<;>simp[pl,h1,h2,h3,h4,h5,h6] at hp<;>(simp only[Un,Um] at *;first | omega | exact⟨by omega,hp.1,hp.2.1⟩)
theorem PZ {c:Ac}(hp:pl c=true)(hn:decide (0<c.fN)=false):SB c=PE c:=by
 have hN:=RB hp;have h0:c.fN=0:=by simp only[Um] at hn;omega
 unfold SB PE;rw[h0]
 cases h1:decide (c.fKind=1) with
 | true=>rfl
 | false=>
  cases h2:decide (c.fKind=2) with
  | true=>
   simp[pl,h1,h2] at hp;simp only[Uu,Uz];exact H4 (by omega) (by omega)
  | false=>rfl
theorem PY {c:Ac}(hp:pl c=true)(hn:0<c.fN)(hm:c.fN≤9223372036854775000):SB c=c.fN+1:=by
 obtain⟨hk,_,_⟩:=GN hp hn;unfold SB;rw[Ux (by omega),Ux (by omega),Ux (by omega),Ux (by omega)];simp only[Uu];rw[H4 (x:=c.fN-1) (by omega) (by omega),H4 (by omega) (by omega)];omega
theorem EZ:∀{f:Fo} {m:Bool} {l:Option Ak},f.wf m l=true→0≤f.byt
 | .nil,_,_,_=>UE 0
 | .cell k c r,m,l,h=>by
  simp only[Fo.wf,Uq] at h;have h1:=EZ h.2;have h2:=Om h.1.1.2;have h3:=Kc k;simp only[Fo.byt];omega
 | .node k c kids r,m,l,h=>by
  simp only[Fo.wf,Uq,Un] at h;have h1:=EZ h.2;have h2:=EZ h.1.2;have h3:=Kc k;simp only[Fo.byt];omega
theorem Lw (k:Option Ak)(s:A8)(h0:0≤s.fBytes)(h:s.fBytes+LV k≤9223372036854775807):(J6 k s).fBytes=s.fBytes+LV k:=by
 cases k with
 | none=>simp[J6,LV]
 | some x=>
  have:=IE x;simp only[LV] at h;simp only[J6,Tr,LV];exact H4 (by omega) (by omega)
theorem I4:∀(f:Fo) (m:Bool) (l:Option Ak) (d:Nat) (s:A8),f.wf m l=true→0≤s.fBytes→s.fBytes+f.byt≤9223372036854775000→(f.sh d s).fBytes=s.fBytes+f.byt
 | .nil,_,_,d,s,_,_,_=>by simp[Fo.sh,Fo.byt]
 | .cell k c r,m,l,d,s,hw,h0,h=>by
  simp only[Fo.wf,Uq,U5] at hw;obtain⟨⟨⟨w1,w2⟩,w3⟩,w4⟩:=hw;have h1:=EZ w4;have h2:=Om w2;have h3:=Kc k;simp only[Fo.byt] at h;have e1:=Lw k s h0 (by omega);have e:(Hl d (J6 k s) c).fBytes=s.fBytes+LV k+PE c:=by
   rw[Hl,e1,PZ w2 w3];exact H4 (by omega) (by omega)
  rw[Fo.sh,I4 r _ _ d _ w4 (by rw[e];omega) (by rw[e];omega),e,Fo.byt];omega
 | .node k c kids r,m,l,d,s,hw,h0,h=>by
  simp only[Fo.wf,Uq,Un] at hw;obtain⟨⟨⟨⟨⟨w1,w2⟩,w3⟩,w5⟩,w6⟩,w4⟩:=hw;have h1:=EZ w4;have h2:=EZ w6;have h3:=Kc k;simp only[Fo.byt] at h;have e1:=Lw k s h0 (by omega);have e:(Hl d (J6 k s) c).fBytes=s.fBytes+LV k+(c.fN+1):=by
   rw[Hl,e1,PY w2 w3 (by omega)];exact H4 (by omega) (by omega)
  have e2:=I4 kids _ _ (d+1) (Hl d (J6 k s) c) w6 (by rw[e];omega) (by rw[e];omega);rw[Fo.sh,I4 r _ _ d _ w4 (by rw[e2,e];omega) (by rw[e2,e];omega),e2,e,Fo.byt];omega
def Es (s:Ak):Ak:=s.flatMap λc=>bif (decide (c=34)||decide (c=92)) then[92,c] else[c]
def Eo (s:Ak):Ak:=34::(Es s++[34])
theorem IR:∀s:Ak,(Es s).length=s.length+s.count 34+s.count 92
 | []=>rfl
 | c::s=>by
  have ih:=IR s;unfold Es at ih ⊢;rw[List.flatMap_cons,Uo,ih]
  by_cases h1:c=34
  ·subst h1;simp;omega
  ·by_cases h2:c=92
   ·subst h2;simp;omega
   ·simp[h1,h2,List.count_cons];omega
theorem MA (s:Ak):((Eo s).length:Int)=Jh s:=by
 simp only[Eo,Uw,Uo,IR,UZ,Jh];omega
def DV (c:Ac):Ak:=
 bif decide (c.fKind=1) then[110,117,108,108] else
 bif decide (c.fKind=2) then(bif decide (c.fInt=1) then[116,114,117,101] else[102,97,108,115,101]) else
 bif decide (c.fKind=3) then Lib.itoa c.fInt else
 bif decide (c.fKind=4) then Eo c.fStr else
 bif decide (c.fKind=6) then[123,125] else[91,93]
def Hm:Option Ak→Ak
 | none=>[]
 | some s=>Eo s++[58]
def Lc (c:Ac)(s:Ak):Ak:=bif decide (c.fKind=6) then 123::(s++[125]) else 91::(s++[93])
def Dm (first:Bool):Ak:=bif first then[] else[44]
def Fo.txt:Bool→Fo→Ak
 | _,.nil=>[]
 | b,.cell k c r=>Dm b++Hm k++DV c++r.txt false
 | b,.node k c kids r=>Dm b++Hm k++Lc c (kids.txt true)++r.txt false
theorem On (k:Option Ak):((Hm k).length:Int)=LV k:=by
 cases k with
 | none=>rfl
 | some s=>simp only[Hm,Uo,LV,UH];have:=MA s;omega
theorem L4 {c:Ac}(hp:pl c=true):((DV c).length:Int)=PE c:=by
  unfold DV PE
  cases h1:decide (c.fKind=1) with
  | true=>rfl
  | false=>
    cases h2:decide (c.fKind=2) with
    | true=>
      simp[pl,h1,h2] at hp;simp only[Uu,Uz]
      cases h7:decide (c.fInt=1) with
      | true=>simp only[Un] at h7;simp[h7]
      | false=>
                 simp only[Um] at h7;have:c.fInt=0:=by omega
                 simp[this]
    | false=>
      cases h3:decide (c.fKind=3) with
      | true=>rfl
      | false=>
        cases h4:decide (c.fKind=4) with
        | true=>simpa using MA c.fStr
        | false=>cases h6:decide (c.fKind=6)<;>rfl
theorem GW (c:Ac)(s:Ak):(Lc c s).length=s.length+2:=by
 unfold Lc
 cases decide (c.fKind=6)<;>simp
theorem EU:∀(f:Fo) (m:Bool) (l:Option Ak) (b:Bool),f.wf m l=true→((f.txt b).length:Int)=f.byt+(bif b then((f.cnt-1:Nat):Int) else(f.cnt:Int))
 | .nil,m,l,b,_=>by cases b<;>rfl
 | .cell k c r,m,l,b,hw=>by
  simp only[Fo.wf,Uq,U5] at hw;obtain⟨⟨⟨w1,w2⟩,w3⟩,w4⟩:=hw;have ih:=EU r _ _ false w4;have a:=On k;have d:=L4 w2;simp only[Uu] at ih
  cases b<;>simp only[Fo.txt,Fo.byt,Fo.cnt,Dm,Uz,Uu,Uo,UZ,UH]<;>omega
 | .node k c kids r,m,l,b,hw=>by
  simp only[Fo.wf,Uq,Un] at hw;obtain⟨⟨⟨⟨⟨w1,w2⟩,w3⟩,w5⟩,w6⟩,w4⟩:=hw;have ih:=EU r _ _ false w4;have ih2:=EU kids _ _ true w6;have a:=On k;have d:=GW c (kids.txt true);simp only[Uu,Uz] at ih ih2
  cases b<;>simp only[Fo.txt,Fo.byt,Fo.cnt,Dm,Uz,Uu,Uo,UZ,UH]<;>omega
def Fo.put (k:Option Ak):Fo→Fo→Fo
 | .cell _ c _,r=>.cell k c r
 | .node _ c kids _,r=>.node k c kids r
 | .nil,_=>.nil
theorem Qm (P:Nat)(m:Bool)(last:Option Ak)(k:Nat)(xs:List Ac):G8 (P+2) m last (k+1) xs =
  match GM m last xs with
  | none=>none
  | some (key,ys)=>match G8 (P+2) false none 1 ys with
   | none=>none
   | some (f,zs)=>match G8 (P+1) m key k zs with
    | none=>none
    | some (r,us)=>some (f.put key r,us):=by
 rw[G8]
 cases hk:GM m last xs with
 | none=>rfl
 | some p=>
  obtain⟨key,ys⟩:=p;simp only;rw[G8];simp only[GM,Uu]
  cases ys with
  | nil=>rfl
  | cons c ys=>
   simp only
   cases hp:pl c with
   | false=>rfl
   | true=>
    simp only[Uy,Uu]
    cases hn:decide (0<c.fN) with
    | true=>
     simp only[Uz]
     cases hq:G8 (P+1) (decide (c.fKind=6)) none c.fN.toNat ys with
     | none=>rfl
     | some q=>
      obtain⟨kids,zs⟩:=q;simp only[G8]
      cases hr:G8 (P+1) m key k zs with
      | none=>rfl
      | some q=>obtain⟨a,b⟩:=q;rfl
    | false=>
     simp only[Uu,G8]
     cases hr:G8 (P+1) m key k ys with
     | none=>rfl
     | some q=>obtain⟨a,b⟩:=q;rfl
def KC (m:Bool)(last:Option Ak)(k:Nat)(xs:List Ac):Option (Fo×List Ac):=G8 (xs.length+1) m last k xs
theorem Ji (m:Bool)(last:Option Ak)(xs:List Ac):KC m last 0 xs=some (.nil,xs):=rfl
theorem E8 (m:Bool)(last:Option Ak)(k:Nat)(xs:List Ac):KC m last (k+1) xs =
  match GM m last xs with
  | none=>none
  | some (key,ys)=>match G1 ys with
   | none=>none
   | some (f,zs)=>match KC m key k zs with
    | none=>none
    | some (r,us)=>some (f.put key r,us):=by
 unfold KC G1;rw[Gz (xs.length+1) (xs.length+2) m last (k+1) xs (by omega) (by omega),Qm]
 cases hk:GM m last xs with
 | none=>rfl
 | some p=>
  obtain⟨key,ys⟩:=p;have h1:=(JX hk).1;have hy:ys.length≤xs.length:=by rw[h1];simp
  simp only;rw[Gz (xs.length+2) (ys.length+1) false none 1 ys (by omega) (by omega)]
  cases hf:G8 (ys.length+1) false none 1 ys with
  | none=>rfl
  | some q=>
   obtain⟨f,zs⟩:=q;have h2:=(Gf _ _ _ _ _ _ _ hf).1;have hz:zs.length≤ys.length:=by rw[h2];simp
   simp only;rw[Gz (xs.length+1) (zs.length+1) m key k zs (by omega) (by omega)]
   all_goals (cases G8 (zs.length+1) m key k zs<;>rfl)
theorem JC {S O:Type}{body:S→Option (Stp S O)}{n:Nat}{s s':S}{o:O}(h:body s=some (.next s'))(h':Cn body n s'=some o):Cn body (n+1) s=some o:=by rw[Cn,h];exact h'
theorem Hd {S O:Type}{body:S→Option (Stp S O)}{n:Nat}{s:S}{o:O}(h:body s=some (.out o)):Cn body (n+1) s=some o:=by rw[Cn,h]
theorem MC:G1 []=none:=rfl
theorem G0 (c:Ac)(r:List Ac):G1 (c::r)=bif !pl c then none else bif decide (0<c.fN) then(match KC (decide (c.fKind=6)) none c.fN.toNat r with
  | none=>none
  | some (kids,zs)=>some (.node none c kids .nil,zs)) else some (.cell none c .nil,r):=by
 unfold G1;rw[G8];simp only[GM,Uu]
 cases hp:pl c with
 | false=>rfl
 | true=>
  simp only[Uy,Uu]
  cases hn:decide (0<c.fN) with
  | true=>
   simp only[Uz];unfold KC;rw[Uw]
   cases hq:G8 (r.length+1) (decide (c.fKind=6)) none c.fN.toNat r with
   | none=>rfl
   | some q=>obtain⟨kids,zs⟩:=q;rfl
  | false=>rfl
theorem MB {f:Fo}(h:f.one=true)(key:Option Ak)(r:Fo):(f.put key r).flat=Bq key++(f.flat++r.flat):=by
 cases f with
 | nil=>cases h
 | cell k c r'=>
  cases k with
  | some s=>cases h
  | none=>cases r' with
   | nil=>simp[Fo.put,Fo.flat,Bq]
   | cell _ _ _=>cases h
   | node _ _ _ _=>cases h
 | node k c kids r'=>
  cases k with
  | some s=>cases h
  | none=>cases r' with
   | nil=>simp[Fo.put,Fo.flat,Bq]
   | cell _ _ _=>cases h
   | node _ _ _ _=>cases h
theorem ME {f:Fo}(h:f.one=true):1≤f.flat.length:=by
 cases f with
 | nil=>cases h
 | cell k c r'=>simp[Fo.flat];omega
 | node k c kids r'=>simp[Fo.flat];omega
theorem HE {xs ys:List Ac}{f:Fo}(h:G1 xs=some (f,ys)):xs=f.flat++ys∧f.wf false none=true∧f.one=true:=
 ⟨(Gf _ _ _ _ _ _ _ h).1,(Gf _ _ _ _ _ _ _ h).2.1,Oc h⟩
def Hc (v:List Ac)(i:Int):Int:=match G1 (v.drop i.toNat) with
 | none=>-1
 | some (f,_)=>i+f.flat.length
def II (m:Bool)(last:Option Ak)(v:List Ac)(i:Int)(k:Nat):Int:=match KC m last k (v.drop i.toNat) with
 | none=>-1
 | some (f,_)=>i+f.flat.length
theorem L3 {v:List Ac}{i:Int}(h0:0≤i)(h1:i≤v.length):Hc v i = -1∨(i<Hc v i∧Hc v i≤v.length):=by
 unfold Hc
 cases h:G1 (v.drop i.toNat) with
 | none=>exact .inl rfl
 | some q=>
  obtain⟨f,ys⟩:=q;obtain⟨h2,_,h3⟩:=HE h;have:=ME h3;have hl:(v.drop i.toNat).length=f.flat.length+ys.length:=by rw[h2];simp
  rw[Vc] at hl
  right;simp only;omega
structure TI (F M:Nat) (v:List Ac):Prop where
 hM:M≤1152921504606846976
 hv:v.length≤M
 hF:M<F
 hc:∀c∈v,c.fStr.length≤M
theorem Pa (ok:Bool){i:Int}(h0:0≤i)(h1:i≤1152921504606846976):By ok i=some (bif ok then i+1 else -1):=by
 unfold By
 cases ok
 ·rfl
 ·rw[AT rfl,AO (by omega) (by omega)];rfl
theorem Oa {F:Nat}{c:Ac}(hF:c.fStr.length<F)(hs:c.fStr.length≤1152921504606846976):JM F c=some (decide (c.fKind=4)&&pl c):=by
 unfold JM;rw[OT hF (by omega)];simp only[Option.isSome_some,ov,UK,imp,UD,AW,Uz]
 cases h4:decide (c.fKind=4) with
 | false=>rfl
 | true=>
  simp only[Un] at h4;simp[pl,h4]
theorem CF {v:List Ac}{i:Int}{c:Ac}{r:List Ac}(h0:0≤i)(h:v.drop i.toNat=c::r):At v i=c:=by
 have:=(BM h0 h).1;simp[At,this]
section
variable {M : Nat} {v : List Ac}
theorem HS {F:Nat}(hA:TI F M v){g:List Ac→Int→Option Int}{n:Int}(hn:n≤9223372036854775807):∀(L:Nat) (i x:Int),0≤i→i≤v.length→0≤x→x≤n→(∀j,i≤j→j≤v.length→g v j=some (Hc v j))→v.length-i.toNat<L→
  ∃o,Cn (λσ=>Cy v n g σ.1 σ.2) L (i,x)=some o∧BY (λν=>Dx ν) o=some (II false none v i (n-x).toNat)
 | 0,i,x,_,_,_,_,_,h=>by omega
 | L+1,i,x,h0,h1,hx,hxn,hg,hL=>by
  cases hxl:decide (x<n) with
  | false=>
   refine⟨.go i,Hd (by show Cy v n g i x=_;unfold Cy;rw[AL hxl]),?_⟩;simp only[Um] at hxl;rw[show(n-x).toNat=0 from by omega];simp[BY,Dx,II,Ji,Fo.flat]
  | true=>
   have hb:Cy v n g i x=B1 (decide (Hc v i<0)) (some (.out (.ret (-1)))) (AW (B6 .i64 (x+1))<|some (.next (Hc v i,x+1))):=by unfold Cy;rw[AT hxl,hg i (UE i) h1,AV rfl]
   simp only[Un] at hxl;obtain⟨k,hk⟩:∃k,(n-x).toNat=k+1:=⟨(n-x).toNat-1,by omega⟩
   rw[hk];have e:II false none v i (k+1)=bif decide (Hc v i<0) then -1 else II false none v (Hc v i) k:=by
    unfold II;rw[E8];simp only[GM,Uu]
    cases hp:G1 (v.drop i.toNat) with
    | none=>simp[Hc,hp]
    | some q=>
     obtain⟨f,ys⟩:=q;obtain⟨q1,q2,q3⟩:=HE hp;have hi:Hc v i=i+f.flat.length:=by simp[Hc,hp]
     have hd:v.drop (Hc v i).toNat=ys:=by rw[hi];exact Cc h0 q1
     rw[hd,Ux (by omega)];simp only[Uu]
     cases hr:KC false none k ys with
     | none=>rfl
     | some q=>
      obtain⟨r,zs⟩:=q;simp only[MB q3,Bq,Vg,Uo,hi];omega
   rw[e];rcases L3 (v:=v) h0 h1 with hneg | ⟨hlt,hle⟩
   ·exact⟨.ret (-1),Hd (hb.trans (by rw[hneg,AT (by decide)])),by rw[hneg];rfl⟩
   ·have hM:=hA.hM;have hvM:=hA.hv;obtain⟨o,ho1,ho2⟩:=HS hA hn L (Hc v i) (x+1) (by omega) hle (by omega) (by omega) (λj hj=>hg j (by omega)) (by omega);exact⟨o,JC (hb.trans (by rw[AL (Ux (by omega)),AO (by omega) (by omega)])) ho1,by rw[ho2,show(n-(x+1)).toNat=k from by omega,Ux (by omega)];rfl⟩
theorem K8 {F:Nat}(hA:TI F M v){g:List Ac→Int→Option Int}{n:Int}(hn:n≤9223372036854775807):∀(L:Nat) (i x:Int) (last:Ak),0≤i→i≤v.length→0≤x→x≤n→(∀j,i≤j→j≤v.length→g v j=some (Hc v j))→v.length-i.toNat<L→
  ∃o,Cn (λσ=>CK F v n g σ.1 σ.2.1 σ.2.2) L (i,last,x)=some o∧BY (λν=>E6 ν) o=some (II true (bif decide (0<x) then some last else none) v i (n-x).toNat)
 | 0,i,x,_,_,_,_,_,_,h=>by omega
 | L+1,i,x,last,h0,h1,hx,hxn,hg,hL=>by
  have hM:=hA.hM;have hvM:=hA.hv;have hMF:=hA.hF
  cases hxl:decide (x<n) with
  | false=>
   refine⟨.go i,Hd (by show CK F v n g i last x=_;unfold CK;rw[AL hxl]),?_⟩;simp only[Um] at hxl;rw[show(n-x).toNat=0 from by omega];simp[BY,E6,II,Ji,Fo.flat]
  | true=>
   have hxl':=hxl;simp only[Un] at hxl;obtain⟨k,hk⟩:∃k,(n-x).toNat=k+1:=⟨(n-x).toNat-1,by omega⟩
   rw[hk]
   cases hd:v.drop i.toNat with
   | nil=>
    have hl:v.length≤i.toNat:=by simpa using hd
    refine⟨.ret (-1),Hd (by
     show CK F v n g i last x=_;unfold CK;rw[AT hxl',Cd (by simp[imp,show(v.length:Int)≤i from by omega]),Cd (by simp[imp,show(v.length:Int)≤i from by omega]),AT (by simp[show(v.length:Int)≤i from by omega])]),?_⟩
    simp[BY,II,hd,E8,GM]
   | cons c r=>
    obtain⟨g1,g2,g3⟩:=BM h0 hd;have hcM:=hA.hc c (U1 g1);have hat:=CF h0 hd;have hnl:decide ((v.length:Int)≤i)=false:=by simp;omega
    have hb:CK F v n g i last x=B1 (!(decide (c.fKind=4)&&pl c)||decide (0<x)&&(C2 c.fStr last||decide (c.fStr=last))) (some (.out (.ret (-1)))) (B3 (g v (i+1)) λha=>B1 (decide (ha<0)) (some (.out (.ret (-1)))) (AW (B6 .i64 (x+1))<|some (.next (ha,c.fStr,x+1)))):=by
     unfold CK;rw[AT hxl',Cd (by simp only[imp];rw[SO h0 g3];simp),hat,Oa (by omega) (by omega),Cd (by simp[imp])];simp only[hnl,ov,UK,U4];rw[Br h0 g3,AO (by omega) (by omega)]
    have hpk:GM true (bif decide (0<x) then some last else none) (c::r)=bif (!(decide (c.fKind=4)&&pl c)||decide (0<x)&&(C2 c.fStr last||decide (c.fStr=last))) then none else some (some c.fStr,r):=by
     simp only[GM,Uz]
     cases h4:decide (c.fKind=4) with
     | false=>simp
     | true=>
      cases hp:pl c with
      | false=>simp
      | true=>
       have hok:=(LR hp (by simpa using h4)).2
       cases h0x:decide (0<x) with
       | false=>simp[BT,hok]
       | true=>cases hs:(C2 c.fStr last||decide (c.fStr=last))<;>simp[BT,hok,hs]
    cases ht:(!(decide (c.fKind=4)&&pl c)||decide (0<x)&&(C2 c.fStr last||decide (c.fStr=last))) with
    | true=>
     rw[ht] at hpk;refine⟨.ret (-1),Hd (hb.trans (AT ht)),?_⟩;simp only[II,hd,E8,hpk,Uz];rfl
    | false=>
     rw[ht] at hpk;rw[AL ht,hg (i+1) (by omega) (by omega),AV rfl] at hb;have e:II true (bif decide (0<x) then some last else none) v i (k+1)=bif decide (Hc v (i+1)<0) then -1 else II true (some c.fStr) v (Hc v (i+1)) k:=by
      unfold II;rw[hd,E8,hpk];simp only[Uu];have hx:Hc v (i+1)=match G1 r with | none=>-1 | some (f,_)=>i+1+f.flat.length:=by unfold Hc;rw[g2]
      cases hp:G1 r with
      | none=>rw[hp] at hx;simp[hx]
      | some q=>
       obtain⟨f,ys⟩:=q;obtain⟨q1,q2,q3⟩:=HE hp;rw[hp] at hx;simp only at hx;have hd2:v.drop (Hc v (i+1)).toNat=ys:=by rw[hx];exact Cc (by omega) (g2.trans q1)
       rw[hd2,Ux (by omega)];simp only[Uu]
       cases hr:KC true (some c.fStr) k ys with
       | none=>rfl
       | some q=>
        obtain⟨r',zs⟩:=q;simp only[MB q3,Bq,Uo,Uw,UZ,hx];omega
     rw[e];rcases L3 (v:=v) (i:=i+1) (by omega) (by omega) with hneg | ⟨hlt,hle⟩
     ·exact⟨.ret (-1),Hd (hb.trans (by rw[hneg,AT (by decide)])),by rw[hneg];rfl⟩
     ·obtain⟨o,ho1,ho2⟩:=K8 hA hn L (Hc v (i+1)) (x+1) c.fStr (by omega) hle (by omega) (by omega) (λj hj=>hg j (by omega)) (by omega);exact⟨o,JC (hb.trans (by rw[AL (Ux (by omega)),AO (by omega) (by omega)])) ho1,by rw[ho2,show(n-(x+1)).toNat=k from by omega,UC (show(0:Int)<x+1 from by omega),Ux (by omega)];rfl⟩
theorem ML {i:Int}{c:Ac}{r:List Ac}(h0:0≤i)(hd:v.drop i.toNat=c::r)(hp:pl c=true):Hc v i=II (decide (c.fKind=6)) none v (i+1) c.fN.toNat:=by
 have g2:=(BM h0 hd).2.1;have hN:=RB hp;unfold Hc II;rw[hd,G0,g2,hp];simp only[Uy,Uu]
 cases hn:decide (0<c.fN) with
 | true=>
  simp only[Uz]
  cases hq:KC (decide (c.fKind=6)) none c.fN.toNat r with
  | none=>rfl
  | some q=>
   obtain⟨kids,zs⟩:=q;simp only[Fo.flat,Bq,Vg,Uw,UY];omega
 | false=>
  simp only[Um] at hn;rw[show c.fN.toNat=0 from by omega,Ji];simp[Fo.flat,Bq]
theorem M6 (hA:TI (M+1) M v)(hN:∀c∈v,c.fN≤9223372036854775807):∀(d F:Nat) (i:Int),0≤i→i≤v.length→v.length-i.toNat=d→M+2*d+3<F→CQ F v i=some (Hc v i):=by
 have hM:=hA.hM;have hvM:=hA.hv;intro d
 induction d using Nat.strongRecOn with
 | ind d ih=>
  intro F i h0 h1 hd hF;obtain⟨F,rfl⟩:∃G,F=G+1:=⟨F-1,by omega⟩
  obtain⟨F,rfl⟩:∃G,F=G+1:=⟨F-1,by omega⟩
  rw[CQ];unfold LO
  cases hdr:v.drop i.toNat with
  | nil=>
   have hl:v.length≤i.toNat:=by simpa using hdr
   rw[AT (by simp;omega)];simp[Hc,hdr,MC]
  | cons c r=>
   obtain⟨g1,g2,g3⟩:=BM h0 hdr;have hcM:=hA.hc c (U1 g1);have hcN:=hN c (U1 g1);rw[AL (by simp;omega),Br h0 g3,CF h0 hdr];simp only[Pa _ h0 (show i≤1152921504606846976 by omega),Option.isSome_some,ov,UK,imp,UD,Cd (x:=_) (rfl:true=true)];have hg:∀j,i+1≤j→j≤v.length→CQ F v j=some (Hc v j):=λj hj hj2=>ih (v.length-j.toNat) (by omega) F j (by omega) hj2 rfl (by omega);have hpl0:pl c=false→Hc v i = -1:=λhp=>by simp[Hc,hdr,G0,hp]
   have hleaf:pl c=true→c.fN=0→Hc v i=i+1:=λhp h0'=>by simp[Hc,hdr,G0,hp,h0',Fo.flat,Bq]
   have hscal:∀b:Bool,pl c=b→(b=true→c.fN=0)→Hc v i=bif b then i+1 else -1:=λb hb hz=>by
    cases b
    ·exact hpl0 hb
    ·exact hleaf hb (hz rfl)
   by_cases k1:c.fKind=1
   ·rw[AT (by simp[k1])];have hp:pl c=(decide (c.fInt=0)&&(decide (c.fStr=[])&&decide (c.fN=0))):=by simp[pl,k1]
    rw[hscal _ hp (λh=>by simp at h;exact h.2.2)]
    cases decide (c.fInt=0)<;>cases decide (c.fStr=[])<;>cases decide (c.fN=0)<;>rfl
   rw[AL (by simp[k1])]
   by_cases k2:c.fKind=2
   ·rw[AT (by simp[k2])];have hp:pl c=((decide (c.fInt=0)||decide (c.fInt=1))&&(decide (c.fStr=[])&&decide (c.fN=0))):=by simp[pl,k2]
    rw[hscal _ hp (λh=>by simp at h;exact h.2.2)]
    cases decide (c.fInt=0)<;>cases decide (c.fInt=1)<;>cases decide (c.fStr=[])<;>cases decide (c.fN=0)<;>rfl
   rw[AL (by simp[k2])]
   by_cases k3:c.fKind=3
   ·rw[AT (by simp[k3])];have hp:pl c=(decide (c.fStr=[])&&decide (c.fN=0)):=by simp[pl,k3]
    rw[hscal _ hp (λh=>by simp at h;exact h.2)]
    cases decide (c.fStr=[])<;>cases decide (c.fN=0)<;>rfl
   rw[AL (by simp[k3])]
   by_cases k4:c.fKind=4
   ·rw[AT (by simp[k4]),Oa (by omega) (by omega),AV rfl,AV rfl];rw[UC k4,U3,hscal (pl c) rfl (λhp=>by have:=(LR hp k4).1;rw[this])]
   rw[AL (by simp[k4])]
   by_cases k5:c.fKind=5
   ·have hp:pl c=(decide (c.fInt=0)&&(decide (c.fStr=[])&&decide (0≤c.fN))):=by simp[pl,k5]
    rw[show(decide (c.fKind=5)&&(decide (c.fInt=0)&&(decide (c.fStr=[])&&decide (0≤c.fN))))=pl c from by rw[hp,UC k5,U3]];have k5' : ¬ c.fKind=6:=by omega
    cases hb:pl c with
    | false=>rw[AL rfl,AL (by simp[k5]),hpl0 hb]
    | true=>
     have hn0:=RB hb;rw[AT rfl,AO (by omega) (by omega),E7];unfold GL;obtain⟨o,ho1,ho2⟩:=HS (F:=F) ⟨hM,hvM,by omega,hA.hc⟩ hcN F (i+1) 0 (by omega) (by omega) (UE 0) hn0 hg (by omega);rw[AV ho1,ho2,AV rfl,ML h0 hdr hb,Ux k5',Int.sub_zero]
   rw[AL (by simp[k5])]
   by_cases k6:c.fKind=6
   ·have hp:pl c=(decide (c.fInt=0)&&(decide (c.fStr=[])&&decide (0≤c.fN))):=by simp[pl,k6]
    rw[show(decide (c.fKind=6)&&(decide (c.fInt=0)&&(decide (c.fStr=[])&&decide (0≤c.fN))))=pl c from by rw[hp,UC k6,U3]]
    cases hb:pl c with
    | false=>rw[AL rfl,hpl0 hb]
    | true=>
     have hn0:=RB hb;rw[AT rfl,AO (by omega) (by omega),Jf];unfold JW;obtain⟨o,ho1,ho2⟩:=K8 (F:=F) ⟨hM,hvM,by omega,hA.hc⟩ hcN F (i+1) 0 [] (by omega) (by omega) (UE 0) hn0 hg (by omega);rw[AV ho1,ho2,AV rfl,ML h0 hdr hb,UC k6,Int.sub_zero];rfl
   ·rw[AL (by simp[k6]),hpl0 (by simp[pl,k1,k2,k3,k4,k5,k6])]
theorem N5 (hA:TI (M+1) M v)(hN:∀c∈v,c.fN≤9223372036854775807){F:Nat}(hF:3*M+3<F):I9 F v=some (decide (Hc v 0=v.length)):=by
 have hvM:=hA.hv;unfold I9;rw[M6 hA hN v.length F 0 (UE 0) (by omega) (by simp) (by omega)];simp only[imp,Option.isSome_some,UD,Cd,ov,UK]
 cases v with
 | nil=>simp[Hc,MC]
 | cons c r=>
  rw[show decide (0<((c::r).length:Int))=true from by simp,U3]
  first | done | rfl
end
theorem Od {m:Bool}{last key:Option Ak}{r:List Ac}(h:BT m last key=true):GM m last (Bq key++r)=some (key,r):=by
 cases key with
 | none=>
  have:m=false:=by simpa[BT] using h
  subst this;rfl
 | some s=>
  have h':=h;simp only[BT,Uq] at h;obtain⟨⟨h1,h2⟩,h3⟩:=h;subst h1;have hp:pl ⟨4,0,s,0⟩=true:=by simp[pl,h2]
  show(bif pl ⟨4,0,s,0⟩&&decide ((4:Int)=4)&&BT true last (some s) then _ else _)=_;rw[hp,h'];rfl
theorem JY:∀(f:Fo) (m:Bool) (last:Option Ak) (ys:List Ac),f.wf m last=true→KC m last f.cnt (f.flat++ys)=some (f,ys)
 | .nil,_,_,_,_=>rfl
 | .cell k c r,m,last,ys,hw=>by
  simp only[Fo.wf,Uq,U5] at hw;obtain⟨⟨⟨w1,w2⟩,w3⟩,w4⟩:=hw;simp only[Fo.cnt,Fo.flat,UM,Vd];rw[E8,Od w1];simp only[G0,w2,w3,Uy,Uu,JY r m k ys w4,Fo.put]
 | .node k c kids r,m,last,ys,hw=>by
  simp only[Fo.wf,Uq,Un] at hw;obtain⟨⟨⟨⟨⟨w1,w2⟩,w3⟩,w5⟩,w6⟩,w4⟩:=hw;simp only[Fo.cnt,Fo.flat,UM,Vd];rw[E8,Od w1];have e:c.fN.toNat=kids.cnt:=by omega
  simp only[G0,w2,UC w3,Uy,Uu,Uz,e,JY kids _ none (r.flat++ys) w6,JY r m k ys w4,Fo.put]
theorem RA {f:Fo}{ys:List Ac}(h1:f.one=true)(hw:f.wf false none=true):G1 (f.flat++ys)=some (f,ys):=by
 have:=JY f false none ys hw;have hc:f.cnt=1:=by
  cases f with
  | nil=>cases h1
  | cell k c r=>cases k with
   | some _=>cases h1
   | none=>cases r with
    | nil=>rfl
    | _=>cases h1
  | node k c kids r=>cases k with
   | some _=>cases h1
   | none=>cases r with
    | nil=>rfl
    | _=>cases h1
 rw[hc] at this;exact this
structure HL (M:Nat) (v:List Ac):Prop where
 hM:M≤1000000000
 hv:v.length≤M
 hc:∀c∈v,c.fStr.length≤M∧B6 .i64 c.fInt=true∧c.fN≤9223372036854775807
theorem HL.lk {M F:Nat}{v:List Ac}(h:HL M v)(hF:M<F):O8 F M v:=⟨by have:=h.hM;omega,by have:=h.hM;omega,h.hv,hF,h.hc⟩
theorem HL.rf {M F:Nat}{v:List Ac}(h:HL M v)(hF:M<F):TI F M v:=⟨by have:=h.hM;omega,h.hv,hF,λc hc=>(h.hc c hc).1⟩
theorem HL.drop {M:Nat}{v:List Ac}(h:HL M v)(k:Nat):HL M (v.drop k):=⟨h.hM,by have:=h.hv;rw[Vc];omega,λc hc=>h.hc c (List.mem_of_mem_drop hc)⟩
theorem HL.take {M:Nat}{v:List Ac}(h:HL M v)(k:Nat):HL M (v.take k):=⟨h.hM,by have:=h.hv;rw[List.length_take];omega,λc hc=>h.hc c (List.mem_of_mem_take hc)⟩
def whole (v:List Ac):Option Fo:=match G1 v with
 | some (f,[])=>some f
 | _=>none
theorem Id {v:List Ac}{f:Fo}(h:whole v=some f):v=f.flat∧f.wf false none=true∧f.one=true:=by
 unfold whole at h
 cases hp:G1 v with
 | none=>rw[hp] at h;cases h
 | some q=>
  obtain⟨g,ys⟩:=q;rw[hp] at h
  cases ys with
  | cons _ _=>cases h
  | nil=>
   cases h
   obtain⟨h1,h2,h3⟩:=HE hp;exact⟨by simpa using h1,h2,h3⟩
def Io (f:Fo):Int:=
 bif f.flat.any HO then 2 else bif f.flat.any He||(decide (200<f.flat.length)||(decide (8<f.dep)||decide (4000<(f.txt true).length))) then 3 else 0
def Lo (v:List Ac):Int:=match whole v with
 | none=>1
 | some f=>Io f
theorem Kb {f:Fo}(h1:f.one=true):f.cnt=1:=by
 cases f with
 | nil=>cases h1
 | cell k c r=>cases k with
  | some _=>cases h1
  | none=>cases r with
   | nil=>rfl
   | _=>cases h1
 | node k c kids r=>cases k with
  | some _=>cases h1
  | none=>cases r with
   | nil=>rfl
   | _=>cases h1
theorem LQ (s:Ak):Jh s≤2*s.length+2+s.length:=by
 have h1:s.count 34≤s.length:=List.count_le_length;have h2:s.count 92≤s.length:=List.count_le_length;unfold Jh;omega
theorem SH {c:Ac}{M:Nat}(hp:pl c=true)(hs:c.fStr.length≤M)(hi:(Lib.itoa c.fInt).length≤21):PE c≤3*M+21:=by
 have:=LQ c.fStr;unfold PE
 cases h1:decide (c.fKind=1) with
 | true=>simp only[Uz];omega
 | false=>
  cases h2:decide (c.fKind=2) with
  | true=>
   simp[pl,h1,h2] at hp;simp only[Uu,Uz];omega
  | false=>
   cases h3:decide (c.fKind=3) with
   | true=>simp only[Uu,Uz];omega
   | false=>cases h4:decide (c.fKind=4)<;>simp only[Uu,Uz]<;>omega
theorem Mf {M:Nat}:∀{f:Fo} {m:Bool} {l:Option Ak},f.wf m l=true→(∀c∈f.flat,c.fStr.length≤M∧B6 .i64 c.fInt=true∧c.fN≤9223372036854775807)→f.byt+f.cnt≤(3*M+24)*f.flat.length
 | .nil,_,_,_,_=>by simp[Fo.byt,Fo.flat,Fo.cnt]
 | .cell k c r,m,l,hw,hc=>by
  simp only[Fo.wf,Uq,U5] at hw;obtain⟨⟨⟨w1,w2⟩,w3⟩,w4⟩:=hw;simp only[Fo.flat] at hc;have ih:=Mf w4 (λx hx=>hc x (by simp[hx]));obtain⟨c1,c2,c3⟩:=hc c (by simp);have i64:=DX c2;have hl:=SH w2 c1 (Lib.itoa_length_le c.fInt i64.1 i64.2);have hk:LV k≤(3*M+24)*(Bq k).length:=by
   cases k with
   | none=>simp[LV,Bq]
   | some s=>
    have:=(hc ⟨4,0,s,0⟩ (by simp[Bq])).1;have h2:=LQ s;simp only at this;simp only[LV,Bq,UH];omega
  simp only[Fo.byt,Fo.flat,Fo.cnt,Uo,Uw];have e:((3*(M:Int)+24)*(((Bq k).length+(r.flat.length+1):Nat):Int))=(3*(M:Int)+24)*(Bq k).length+((3*(M:Int)+24)*r.flat.length+(3*(M:Int)+24)):=by
   push_cast;rw[Int.mul_add,Int.mul_add,Int.mul_one]
  rw[e]
  push_cast at *
  omega
 | .node k c kids r,m,l,hw,hc=>by
  simp only[Fo.wf,Uq,Un] at hw;obtain⟨⟨⟨⟨⟨w1,w2⟩,w3⟩,w5⟩,w6⟩,w4⟩:=hw;simp only[Fo.flat] at hc;have ih:=Mf w4 (λx hx=>hc x (by simp[hx]));have ih2:=Mf w6 (λx hx=>hc x (by simp[hx]));have hcf:=BR kids;have hk:LV k≤(3*M+24)*(Bq k).length:=by
   cases k with
   | none=>simp[LV,Bq]
   | some s=>
    have:=(hc ⟨4,0,s,0⟩ (by simp[Bq])).1;have h2:=LQ s;simp only at this;simp only[LV,Bq,UH];omega
  simp only[Fo.byt,Fo.flat,Fo.cnt,Uo,Uw];have e:((3*(M:Int)+24)*(((Bq k).length+(kids.flat.length+r.flat.length+1):Nat):Int))=(3*(M:Int)+24)*(Bq k).length+((3*(M:Int)+24)*kids.flat.length+(3*(M:Int)+24)*r.flat.length+(3*(M:Int)+24)):=by
   push_cast;rw[Int.mul_add,Int.mul_add,Int.mul_add,Int.mul_one]
  rw[e]
  push_cast at *
  omega
theorem HK {M:Nat}(hM:M≤1000000){f:Fo}{m:Bool}{l:Option Ak}(hw:f.wf m l=true)(hl:f.flat.length≤M)(hc:∀c∈f.flat,c.fStr.length≤M∧B6 .i64 c.fInt=true∧c.fN≤9223372036854775807):f.byt≤4000000000000:=by
 have:=Mf (M:=M) hw hc;have h2:(3*M+24)*f.flat.length≤(3*1000000+24)*1000000:=Nat.mul_le_mul (by omega) (by omega);have h3:(((3*M+24)*f.flat.length:Nat):Int)=(3*(M:Int)+24)*f.flat.length:=by push_cast;rfl
 omega
theorem Lt {M F:Nat}{v:List Ac}(hA:HL M v)(hM:M≤1000000)(hF:M<F):Ig F v=some (Lo v):=by
 unfold Ig Lo whole;have hvM:=hA.hv;rcases RI (hA.lk hF) with⟨f,ys,hp,hl⟩ | ⟨hp,sh',hl⟩
 ·rw[hl,AV rfl,hp];obtain⟨h1,h2,h3⟩:=HE hp;have hlen:v.length=f.flat.length+ys.length:=by rw[h1];simp
  cases ys with
  | cons c r=>
   rw[AT];simp only[Uw] at hlen;simp;omega
  | nil=>
   simp only[UZ,Nat.add_zero] at hlen;rw[AL (by simp[hlen])];have hc:∀c∈f.flat,c.fStr.length≤M∧B6 .i64 c.fInt=true∧c.fN≤9223372036854775807:=λc hc=>hA.hc c (by rw[h1];simp[hc]);have hb:=HK hM h2 (by omega) hc;have hb0:=EZ h2;have e1:(f.sh 0 K6).fOutside=f.flat.any HO:=by rw[LL];rfl
   have e2:(f.sh 0 K6).fLong=f.flat.any He:=by rw[JU];rfl
   have e3:(f.sh 0 K6).fDepth=f.dep:=by rw[I3 f 0 K6 (by simp[K6])];simp[K6]
   have e4:(f.sh 0 K6).fBytes=(f.txt true).length:=by
    rw[I4 f false none 0 K6 h2 (by simp[K6]) (by simp[K6];omega),EU f false none true h2,Kb h3];simp[K6]
   simp only;rw[e1,e2,e3,e4,hlen];unfold Io
   cases f.flat.any HO with
   | true=>rw[AT rfl];rfl
   | false=>
    rw[AL rfl];have a1:decide ((200:Int)<(f.flat.length:Int))=decide (200<f.flat.length):=by rw[UI];simp;omega
    have a2:decide ((8:Int)<(f.dep:Int))=decide (8<f.dep):=by rw[UI];simp;omega
    have a3:decide ((4000:Int)<((f.txt true).length:Int))=decide (4000<(f.txt true).length):=by rw[UI];simp;omega
    rw[a1,a2,a3]
    cases(f.flat.any He||(decide (200<f.flat.length)||(decide (8<f.dep)||decide (4000<(f.txt true).length))))<;>rfl
 ·rw[hl,AV rfl,hp];rfl
theorem LU {v:List Ac}{p:Int}{f:Fo}{ys:List Ac}(h1:f.one=true)(hw:f.wf false none=true)(hd:v.drop p.toNat=f.flat++ys):Hc v p=p+f.flat.length:=by
 unfold Hc;rw[hd,RA h1 hw]
theorem LH {c:Ac}(hp:pl c=true)(hn:decide (0<c.fN)=false):(Fo.cell none c .nil).wf false none=true:=by simp[Fo.wf,BT,hp,hn]
theorem LG {c:Ac}{kids:Fo}(hp:pl c=true)(hn:0<c.fN)(hk:c.fN=kids.cnt)(hw:kids.wf (decide (c.fKind=6)) none=true):(Fo.node none c kids .nil).wf false none=true:=by simp[Fo.wf,BT,hp,hn,hk,hw];omega
section
variable {M : Nat} {v : List Ac}
theorem HL.next (hA:HL M v){F:Nat}(hF:3*M+3<F){p:Int}(h0:0≤p)(h1:p≤v.length):CQ F v p=some (Hc v p):=by
 have hM:=hA.hM;have hvM:=hA.hv;exact M6 (hA.rf (U0 M)) (λc hc=>(hA.hc c hc).2.2) (v.length-p.toNat) F p h0 h1 rfl (by omega)
theorem I8 {F:Nat}{p:Int}{c:Ac}{r:List Ac}(h0:0≤p)(hpM:p≤1152921504606846976)(hd:v.drop p.toNat=c::r)(hp:pl c=true)(hn:decide (0<c.fN)=false):Cw (F+2) v p=some 1:=by
 obtain⟨g1,g2,g3⟩:=BM h0 hd;rw[Cw];unfold Gv;rw[Br h0 g3,CF h0 hd]
 cases hk:(!decide (c.fKind=5)&&!decide (c.fKind=6)) with
 | true=>rw[AT rfl]
 | false=>
  rw[AL rfl,AO (by omega) (by omega),AV (Hd (o:=.go 0) (by
   show Cq (F+1) v p _ 0 (p+1) 0=_;unfold Cq;rw[CF h0 hd,AL hn]))]
  simp only[BY,Dp];rw[AO (by omega) (by omega)];rfl
theorem Lz {F:Nat}{i:Int}{rec:List Ac→Int→Option Int}{most at_ x L:Int}{m:Bool}{p q:Int}{pc:Ac}(hpc:At v i=pc)(hm:decide (pc.fKind=6)=m)(hx:x<pc.fN)(hx0:0≤x)(hpcN:pc.fN≤9223372036854775807)
  (ha0:0≤at_) (haM:at_≤1152921504606846976) (hp:p=bif m then at_+1 else at_) (hr:rec v p=some L) (hq:CQ F v p=some q):Cq F v i rec most at_ x=some (.next (max most L,q,x+1)):=by
 unfold Cq;rw[hpc,AT (by simpa using hx),hm]
 cases m with
 | true=>
  simp only[Uz] at hp;rw[AT rfl,AO (by omega) (by omega),← hp,hr,AV rfl]
  cases hl:decide (most<L) with
  | true=>rw[AT rfl,hq,AV rfl,AO (by omega) (by omega),Int.max_eq_right (by simp at hl;omega)]
  | false=>rw[AL rfl,hq,AV rfl,AO (by omega) (by omega),Int.max_eq_left (by simp at hl;omega)]
 | false=>
  simp only[Uu] at hp;rw[AL rfl,← hp,hr,AV rfl]
  cases hl:decide (most<L) with
  | true=>rw[AT rfl,hq,AV rfl,AO (by omega) (by omega),Int.max_eq_right (by simp at hl;omega)]
  | false=>rw[AL rfl,hq,AV rfl,AO (by omega) (by omega),Int.max_eq_left (by simp at hl;omega)]
theorem IL {m:Bool}{last key:Option Ak}(h:BT m last key=true):((Bq key).length:Int)=bif m then 1 else 0:=by
  cases key with
  | none=>
            have:m=false:=by simpa[BT] using h
            subst this;rfl
  | some s=>simp only[BT,Uq] at h;rw[h.1.1];rfl
theorem M7 (hA:HL M v):∀(g:Fo) (F L:Nat) (i at_ x most:Int) (m:Bool) (last:Option Ak) (ys:List Ac) (pc:Ac),At v i=pc→decide (pc.fKind=6)=m→pc.fN≤9223372036854775807→g.wf m last=true→v.drop at_.toNat=g.flat++ys→0≤at_→at_≤v.length→pc.fN=x+g.cnt→0≤x→0≤most→most≤1152921504606846976→g.cnt<L→3*M+5+g.flat.length<F→
  ∃o,Cn (λσ=>Cq F v i (Cw F) σ.1 σ.2.1 σ.2.2) L (most,at_,x)=some o∧BY (λν=>Dp ν) o=some (max most (g.dep:Int)+1):=by
 have hM:=hA.hM;have hvM:=hA.hv;have fin:∀(F L:Nat) (i at_ x most:Int) (pc:Ac),At v i=pc→pc.fN≤x→0≤most→most≤1152921504606846976→0<L→∃o,Cn (λσ=>Cq F v i (Cw F) σ.1 σ.2.1 σ.2.2) L (most,at_,x)=some o∧BY (λν=>Dp ν) o=some (most+1):=λF L i at_ x most pc hpc hx h0 hb hL=>by
  obtain⟨L,rfl⟩:∃K,L=K+1:=⟨L-1,by omega⟩
  refine⟨.go most,Hd (by show Cq F v i _ most at_ x=_;unfold Cq;rw[hpc,AL (by simp;omega)]),?_⟩;simp only[BY,Dp];rw[AO (by omega) (by omega)]
 have depM:∀g:Fo,g.dep≤g.flat.length:=by
  intro g
  induction g with
  | nil=>simp[Fo.dep]
  | cell k c r ih=>simp[Fo.dep,Fo.flat];omega
  | node k c kids r ih1 ih2=>simp[Fo.dep,Fo.flat];omega
 intro g
 induction g with
 | nil=>
  intro F L i at_ x most m last ys pc hpc hm hpN hw hd h0 h1 hN hx hmo hmM hL hF;obtain⟨o,h1,h2⟩:=fin F L i at_ x most pc hpc (by simp[Fo.cnt] at hN;omega) hmo hmM (by omega);exact⟨o,h1,by rw[h2];simp only[Fo.dep];congr 2<;>omega⟩
 | cell k c r ih=>
  intro F L i at_ x most m last ys pc hpc hm hpN hw hd h0 h1 hN hx hmo hmM hL hF;simp only[Fo.wf,Uq,U5] at hw;obtain⟨⟨⟨w1,w2⟩,w3⟩,w4⟩:=hw;simp only[Fo.flat,UM,Vd] at hd;simp only[Fo.cnt] at hN hL;simp only[Fo.flat,Uo,Uw] at hF;obtain⟨L,rfl⟩:∃K,L=K+1:=⟨L-1,by omega⟩
  obtain⟨F,rfl⟩:∃K,F=K+2:=⟨F-2,by omega⟩
  have hd1:=Cc h0 hd;have hkl:=IL w1;obtain⟨g1,g2,g3⟩:=BM (by omega) hd1;have hlen:at_+(Bq k).length=bif m then at_+1 else at_:=by rw[hkl];cases m<;>simp
  have hq:=hA.next (F:=F+2) (by omega) (p:=at_+(Bq k).length) (by omega) (by omega);rw[LU (f:=.cell none c .nil) (ys:=r.flat++ys) rfl (LH w2 w3) hd1] at hq;have hb:=Lz (most:=most) (x:=x) hpc hm (by omega) hx hpN h0 (by omega) hlen (I8 (F:=F) (by omega) (by omega) hd1 w2 w3) hq;have hdd:=depM r;obtain⟨o,ho1,ho2⟩:=ih (F+2) L i (at_+(Bq k).length+((Fo.cell none c .nil).flat.length:Int)) (x+1) (max most 1) m k ys pc hpc hm hpN w4 (by rw[show(Fo.cell none c .nil).flat.length=1 from rfl];exact g2) (by omega) (by rw[show(Fo.cell none c .nil).flat.length=1 from rfl];omega) (by omega) (by omega) (by omega) (by omega) (by omega) (by omega);refine⟨o,JC hb ho1,?_⟩;rw[ho2,Fo.dep];congr 2<;>omega
 | node k c kids r ihk ih=>
  intro F L i at_ x most m last ys pc hpc hm hpN hw hd h0 h1 hN hx hmo hmM hL hF;simp only[Fo.wf,Uq,Un] at hw;obtain⟨⟨⟨⟨⟨w1,w2⟩,w3⟩,w5⟩,w6⟩,w4⟩:=hw;simp only[Fo.flat,UM,Vd] at hd;simp only[Fo.cnt] at hN hL;simp only[Fo.flat,Uo,Uw] at hF;obtain⟨L,rfl⟩:∃K,L=K+1:=⟨L-1,by omega⟩
  obtain⟨F,rfl⟩:∃K,F=K+1:=⟨F-1,by omega⟩
  have hd1:=Cc h0 hd;have hkl:=IL w1;obtain⟨g1,g2,g3⟩:=BM (by omega) hd1;have hcN:=(hA.hc c (U1 g1)).2.2;have hlen:at_+(Bq k).length=bif m then at_+1 else at_:=by rw[hkl];cases m<;>simp
  have hq:=hA.next (F:=F+1) (by omega) (p:=at_+(Bq k).length) (by omega) (by omega);have hfl:(Fo.node none c kids .nil).flat=c::kids.flat:=by simp[Fo.flat,Bq]
  rw[LU (f:=.node none c kids .nil) (ys:=r.flat++ys) rfl (LG w2 w3 w5 w6) (by rw[hd1,hfl];simp)] at hq;have hdk:=depM kids;have hdd:=depM r;have hcf:=BR kids;have hvl:(v.drop (at_+(Bq k).length+1).toNat).length=kids.flat.length+(r.flat.length+ys.length):=by rw[g2];simp
  rw[Vc] at hvl;have hrec:Cw (F+1) v (at_+(Bq k).length)=some ((kids.dep:Int)+1):=by
   rw[Cw];unfold Gv;rw[Br (by omega) g3,CF (by omega) hd1];have ha:=(GN w2 w3).1;rw[AL (by simp;omega),AO (by omega) (by omega)];obtain⟨o,ho1,ho2⟩:=ihk F F (at_+(Bq k).length) (at_+(Bq k).length+1) 0 0 _ none (r.flat++ys) c (CF (by omega) hd1) rfl hcN w6 (by rw[g2]) (by omega) (by omega) (by omega) (UE 0) (UE 0) (by omega) (by omega) (by omega);rw[AV ho1,ho2];congr 2<;>omega
  have hb:=Lz (most:=most) (x:=x) hpc hm (by omega) hx hpN h0 (by omega) hlen hrec hq;obtain⟨o,ho1,ho2⟩:=ih (F+1) L i (at_+(Bq k).length+((Fo.node none c kids .nil).flat.length:Int)) (x+1) (max most ((kids.dep:Int)+1)) m k ys pc hpc hm hpN w4 (by
   have:=Cc (by omega) g2;rw[hfl,Uw,show at_+(Bq k).length+((kids.flat.length+1:Nat):Int)=at_+(Bq k).length+1+kids.flat.length from by omega];exact this) (by omega) (by rw[hfl,Uw];omega) (by omega) (by omega) (by omega) (by omega) (by omega) (by omega)
  refine⟨o,JC hb ho1,?_⟩;rw[ho2,Fo.dep];congr 2<;>omega
theorem N4 (hA:HL M v){F:Nat}{p:Int}{f:Fo}{ys:List Ac}(h0:0≤p)(h1:f.one=true)(hw:f.wf false none=true)(hd:v.drop p.toNat=f.flat++ys)(hF:3*M+6+f.flat.length<F):Cw F v p=some (f.dep:Int):=by
 have hM:=hA.hM;have hvM:=hA.hv
 cases f with
 | nil=>cases h1
 | cell k c r=>
  cases k with
  | some s=>cases h1
  | none=>
   cases r with
   | nil=>
    simp only[Fo.wf,Uq,U5] at hw;obtain⟨F,rfl⟩:∃K,F=K+2:=⟨F-2,by omega⟩
    have hd':v.drop p.toNat=c::ys:=by simpa[Fo.flat,Bq] using hd
    rw[I8 h0 (by have:=(BM h0 hd').2.2;omega) hd' hw.1.1.2 hw.1.2];rfl
   | cell _ _ _=>cases h1
   | node _ _ _ _=>cases h1
 | node k c kids r=>
  cases k with
  | some s=>cases h1
  | none=>
   cases r with
   | nil=>
    simp only[Fo.wf,Uq,Un] at hw;obtain⟨⟨⟨⟨⟨w1,w2⟩,w3⟩,w5⟩,w6⟩,w4⟩:=hw;have hd':v.drop p.toNat=c::(kids.flat++ys):=by simpa[Fo.flat,Bq] using hd
    obtain⟨g1,g2,g3⟩:=BM h0 hd';have hcN:=(hA.hc c (U1 g1)).2.2;have hcf:=BR kids;simp only[Fo.flat,Bq,Vg,UY,Uw] at hF;obtain⟨F,rfl⟩:∃K,F=K+1:=⟨F-1,by omega⟩
    rw[Cw];unfold Gv;have ha:=(GN w2 w3).1;rw[Br h0 g3,CF h0 hd',AL (by simp;omega),AO (by omega) (by omega)];obtain⟨o,ho1,ho2⟩:=M7 hA kids F F p (p+1) 0 0 _ none ys c (CF h0 hd') rfl hcN w6 g2 (by omega) (by omega) (by omega) (UE 0) (UE 0) (by omega) (by omega) (by omega);rw[AV ho1,ho2];simp only[Fo.dep];congr 1<;>omega
   | cell _ _ _=>cases h1
   | node _ _ _ _=>cases h1
end
def JO (c:UInt8):Ak:=bif (decide (c=34)||decide (c=92)) then[92,c] else[c]
theorem Jq {s:Ak}{k:Nat}{c:UInt8}(h:s[k]? =some c):Es (s.take (k+1))=Es (s.take k)++JO c:=by
 rw[List.take_add_one,h];simp[Es,List.flatMap_append,JO]
theorem MX (s:Ak):(Es s).length≤3*s.length:=by
 rw[IR];have h1:s.count 34≤s.length:=List.count_le_length;have h2:s.count 92≤s.length:=List.count_le_length;omega
theorem N0 {s:Ak}{x:Int}{c:UInt8}(h0:0≤x)(h:s[x.toNat]? =some c):List.take (Int.toNat (x+1)-Int.toNat x) (List.drop (Int.toNat x) s)=[c]:=by
 have hl:=(List.getElem?_eq_some_iff.1 h).1;have hc:=(List.getElem?_eq_some_iff.1 h).2;rw[show Int.toNat (x+1)-Int.toNat x=1 from by omega,List.drop_eq_getElem_cons hl,hc];rfl
theorem Sv {s:Ak}{x:Int}{c:UInt8}(h:s[x.toNat]? =some c):decide (AY s x=34)=decide (c=34):=by
 rw[Kg h,UI,decide_eq_true_iff,decide_eq_true_iff,← UInt8.toNat_inj];show _↔c.toNat=34;omega
theorem Su {s:Ak}{x:Int}{c:UInt8}(h:s[x.toNat]? =some c):decide (AY s x=92)=decide (c=92):=by
 rw[Kg h,UI,decide_eq_true_iff,decide_eq_true_iff,← UInt8.toNat_inj];show _↔c.toNat=92;omega
theorem LM {s out:Ak}{x:Int}{c:UInt8}(h0:0≤x)(hx:x<(s.length:Int))(hs:s.length≤1152921504606846976)(ho:out.length≤3*s.length+1)(hc:s[x.toNat]? =some c):C3 s out x=some (.next (out++JO c,x+1)):=by
 unfold C3 JO;rw[AT (UC hx),Br h0 hx,Sv hc,Su hc,N0 h0 hc];have l1:(([92]:Ak).length:Int)=1:=rfl;have l2:(([c]:Ak).length:Int)=1:=rfl
 cases hq:(decide (c=34)||decide (c=92)) with
 | true=>
  have l3:((out++([92]:Ak)).length:Int)=out.length+1:=by rw[Uo,UH,Int.natCast_add];rfl
  rw[AT rfl,l1,l2,l3,AO (by omega) (by omega),AO (by omega) (by omega),Dh (by omega) (by omega),Dh (by omega) (by omega),AO (by omega) (by omega),UM];rfl
 | false=>
  rw[AL rfl,l2,AO (by omega) (by omega),Dh (by omega) (by omega),Dh (by omega) (by omega),AO (by omega) (by omega)];rfl
theorem DG {R V:Type}(K:V→Option R)(v:V):BY K (.go v)=K v:=rfl
theorem KD {R V:Type}(K:V→Option R)(r:R):BY K (.ret r)=some r:=rfl
theorem M5 {s out:Ak}{x:Int}(hx : ¬ x<(s.length:Int)):C3 s out x=some (.out (.go out)):=by
 unfold C3;rw[AL (Ux hx)]
theorem OS {out:Ak}(h:out.length≤4611686018427387904):CW out=some (out++[34]):=by
 unfold CW;have l1:(([34]:Ak).length:Int)=1:=rfl;rw[l1,AO (by omega) (by omega)]
theorem Ij {F:Nat}{s:Ak}(hF:s.length<F)(hs:s.length≤1152921504606846976):GK F s=some (Eo s):=by
 obtain⟨o,h1,h2⟩:=EW (body:=λσ=>C3 s σ.1 σ.2) (λσ=>0≤σ.2∧σ.2≤(s.length:Int)∧σ.1=34::Es (s.take σ.2.toNat)) (λσ=>s.length-σ.2.toNat)
  (λo=>BY (λν=>CW ν) o=some (Eo s)) (λσ ⟨h0,hl,ha⟩=>by
   obtain⟨out,x⟩:=σ;simp only at h0 hl ha;show(∃s',C3 s out x=_∧_)∨∃o,C3 s out x=_∧_;have hb:=MX (s.take x.toNat);have hb2:(s.take x.toNat).length≤s.length:=by rw[List.length_take];omega
   have hol:out.length≤3*s.length+1:=by rw[ha,Uw];omega
   by_cases hx:x<(s.length:Int)
   ·obtain⟨c,hc⟩:∃c,s[x.toNat]? =some c:=⟨s[x.toNat]'(by omega),Us (by omega)⟩
    have a1:0≤x+1:=by omega
    have a2:x+1≤s.length:=by omega
    have a3:s.length-(x+1).toNat<s.length-x.toNat:=by omega
    have a4:out++JO c=34::Es (s.take (x+1).toNat):=by rw[show(x+1).toNat=x.toNat+1 from by omega,Jq hc,ha];rfl
    exact .inl ⟨(out++JO c,x+1),LM h0 hx hs hol hc,⟨a1,a2,a4⟩,a3⟩
   ·have e:x.toNat=s.length:=by omega
    have hk:CW out=some (out++[34]):=OS (by omega);have hf:out++[34]=Eo s:=by rw[ha,e,Vb];rfl
    exact .inr ⟨.go out,M5 hx,(DG (λν=>CW ν) out).trans (hk.trans (congrArg some hf))⟩) F ([34],0) ⟨UE 0,by show(0:Int)≤s.length;omega,by show([34]:Ak)=34::Es (s.take 0);simp[Es]⟩ (by show s.length-0<F;omega)
 unfold GK;rw[AV h1,h2]
section
variable {M : Nat} {v : List Ac}
theorem TC (a b c d e:Ak):(((a++b)++c)++d)++e=a++(b++(c++d)++e):=by simp
theorem TD (a b c d:Ak):((a++b)++c)++d=a++([]++(b++c)++d):=by simp
theorem TE (a b c:Ak):(a++b)++c=a++(b++[]++c):=by simp
theorem TF (a b:Ak):a++b=a++([]++[]++b):=by simp
theorem RJ (a:Ak)(c:UInt8):((a++[c]).length:Int)=a.length+1:=by rw[Uo,UH,Int.natCast_add];rfl
theorem MP (a b:Ak):((a++b).length:Int)=a.length+b.length:=by rw[Uo,Int.natCast_add]
theorem Lx {F:Nat}{i:Int}{rec:List Ac→Int→Option Ak}{out tx:Ak}{at_ x:Int}{m:Bool}{p q:Int}{pc:Ac}{key:Option Ak}{last:Option Ak}(hpc:At v i=pc)(hm:decide (pc.fKind=6)=m)(hx:x<pc.fN)(hx0:0≤x)(hpcN:pc.fN≤9223372036854775807)
  (ha0:0≤at_) (haM:at_<v.length) (hvM:(v.length:Int)≤1152921504606846976) (hk:BT m last key=true) (hkey:∀s,key=some s→(At v at_).fStr=s∧s.length<F∧s.length≤1152921504606846976) (hp:p=bif m then at_+1 else at_) (hr:rec v p=some tx) (hq:CQ F v p=some q)
  (hlen:((out++(Dm (decide (x=0))++Hm key++tx)).length:Int)≤4611686018427387904):Do F v i rec out at_ x=some (.next (out++(Dm (decide (x=0))++Hm key++tx),q,x+1)):=by
 have hd:(([44]:Ak).length:Int)=1:=rfl;have he:(([58]:Ak).length:Int)=1:=rfl;have hx1:AW (B6 .i64 (x+1)) (some (Stp.next (out++(Dm (decide (x=0))++Hm key++tx),q,x+1)):Option (Stp (Ak×Int×Int) (Out Ak Ak)))=some (Stp.next (out++(Dm (decide (x=0))++Hm key++tx),q,x+1)):=AO (by omega) (by omega);unfold Do;rw[hpc,AT (UC hx),hm]
 cases ha:decide (x=0) with
 | true=>
  rw[ha] at hx1 hlen;simp only[Un] at ha;rw[AL (Ux (by omega))]
  cases m with
  | true=>
   cases key with
   | none=>simp[BT] at hk
   | some s=>
    obtain⟨e1,e2,e3⟩:=hkey s rfl;simp only[Uz] at hp;have e:((out++Eo s)++[58])++tx=out++(Dm true++Hm (some s)++tx):=TD _ _ _ _;rw[← e] at hx1 hlen ⊢;have h1:=MP ((out++Eo s)++[58]) tx;have h2:=RJ (out++Eo s) 58;have h3:=MP out (Eo s);rw[AT rfl,Br ha0 haM,e1,Ij e2 e3,AV rfl,AO (by omega) (by omega),he,AO (by omega) (by omega),AO (by omega) (by omega),← hp,hr,AV rfl,AO (by omega) (by omega),hq,AV rfl,hx1]
  | false=>
   cases key with
   | some s=>simp[BT] at hk
   | none=>
    simp only[Uu] at hp;have e:out++tx=out++(Dm true++Hm none++tx):=TF _ _;rw[← e] at hx1 hlen ⊢;have h1:=MP out tx;rw[AL rfl,← hp,hr,AV rfl,AO (by omega) (by omega),hq,AV rfl,hx1]
 | false=>
  rw[ha] at hx1 hlen;simp only[Um] at ha;rw[AT (UC (by omega))]
  cases m with
  | true=>
   cases key with
   | none=>simp[BT] at hk
   | some s=>
    obtain⟨e1,e2,e3⟩:=hkey s rfl;simp only[Uz] at hp;have e:(((out++[44])++Eo s)++[58])++tx=out++(Dm false++Hm (some s)++tx):=TC _ _ _ _ _;rw[← e] at hx1 hlen ⊢;have h1:=MP (((out++[44])++Eo s)++[58]) tx;have h2:=RJ ((out++[44])++Eo s) 58;have h3:=MP (out++[44]) (Eo s);have h4:=RJ out 44;rw[hd,AO (by omega) (by omega),AT rfl,Br ha0 haM,e1,Ij e2 e3,AV rfl,AO (by omega) (by omega),he,AO (by omega) (by omega),AO (by omega) (by omega),← hp,hr,AV rfl,AO (by omega) (by omega),hq,AV rfl,hx1]
  | false=>
   cases key with
   | some s=>simp[BT] at hk
   | none=>
    simp only[Uu] at hp;have e:(out++[44])++tx=out++(Dm false++Hm none++tx):=TE _ _ _;rw[← e] at hx1 hlen ⊢;have h1:=MP (out++[44]) tx;have h4:=RJ out 44;rw[hd,AO (by omega) (by omega),AL rfl,← hp,hr,AV rfl,AO (by omega) (by omega),hq,AV rfl,hx1]
theorem NZ {i:Int}{pc:Ac}{out:Ak}(hpc:At v i=pc)(h:out.length≤4611686018427387904):EH v i out=some (Lc pc out):=by
 unfold EH Lc;have l1:(([123]:Ak).length:Int)=1:=rfl;have l2:(([91]:Ak).length:Int)=1:=rfl;have l3:(([125]:Ak).length:Int)=1:=rfl;have l4:(([93]:Ak).length:Int)=1:=rfl;have h1:=MP [123] out;have h2:=MP [91] out;rw[hpc]
 cases hk:decide (pc.fKind=6) with
 | true=>rw[AT rfl,AO (by omega) (by omega),AO (by omega) (by omega)];rfl
 | false=>rw[AL rfl,AO (by omega) (by omega),AO (by omega) (by omega)];rfl
theorem K7 {F:Nat}{p:Int}{c:Ac}{r:List Ac}(h0:0≤p)(hpM:p≤1152921504606846976)(hd:v.drop p.toNat=c::r)(hp:pl c=true)(hn:decide (0<c.fN)=false)(hs:c.fStr.length<F+1)(hs2:c.fStr.length≤1152921504606846976)(hi:B6 .i64 c.fInt=true):En (F+2) v p=some (DV c):=by
 obtain⟨g1,g2,g3⟩:=BM h0 hd;rw[En];unfold Jd DV;rw[Br h0 g3,CF h0 hd]
 cases k1:decide (c.fKind=1) with
 | true=>rw[AT rfl];rfl
 | false=>
 rw[AL rfl]
 cases k2:decide (c.fKind=2) with
 | true=>rw[AT rfl];cases decide (c.fInt=1)<;>rfl
 | false=>
 rw[AL rfl]
 cases k3:decide (c.fKind=3) with
 | true=>rw[AT rfl,Cd hi];rfl
 | false=>
 rw[AL rfl]
 cases k4:decide (c.fKind=4) with
 | true=>rw[AT rfl,Ij hs hs2,AV rfl];rfl
 | false=>
 have hgo:Do (F+1) v p (En (F+1)) [] (p+1) 0=some (.out (.go [])):=by
  unfold Do;rw[CF h0 hd,AL hn]
 rw[AL rfl,AO (by omega) (by omega),AV (Hd (o:=.go []) hgo),DG,NZ (CF h0 hd) (by simp)];simp only[Uu,Lc]
 cases decide (c.fKind=6)<;>rfl
end
section
variable {M : Nat} {v : List Ac}
theorem Ka {α:Type}[Inhabited α](a:α):ov (some a)=a:=rfl
theorem QB {at_:Int}{k:Option Ak}{r:List Ac}(h0:0≤at_)(hA:HL M v){F:Nat}(hF:M<F)(hd:v.drop at_.toNat=Bq k++r):∀s,k=some s→(At v at_).fStr=s∧s.length<F∧s.length≤1152921504606846976:=λs e=>by
 subst e;have hd':v.drop at_.toNat=⟨4,0,s,0⟩::r:=by simpa[Bq] using hd
 have h1:=CF h0 hd';have h2:=(hA.hc _ (U1 (BM h0 hd').1)).1;have hM:=hA.hM;simp only at h2;exact⟨by rw[h1],by omega,by omega⟩
theorem M3 (hA:HL M v):∀(g:Fo) (F L:Nat) (i at_ x:Int) (out:Ak) (m:Bool) (last:Option Ak) (ys:List Ac) (pc:Ac),At v i=pc→decide (pc.fKind=6)=m→pc.fN≤9223372036854775807→g.wf m last=true→v.drop at_.toNat=g.flat++ys→0≤at_→at_≤v.length→pc.fN=x+g.cnt→0≤x→(out++g.txt (decide (x=0))).length≤4611686018427387904→g.cnt<L→3*M+5+g.flat.length<F→
  ∃o,Cn (λσ=>Do F v i (En F) σ.1 σ.2.1 σ.2.2) L (out,at_,x)=some o∧BY (λν=>EH v i ν) o=some (Lc pc (out++g.txt (decide (x=0)))):=by
 have hM:=hA.hM;have hvM:=hA.hv;intro g
 induction g with
 | nil=>
  intro F L i at_ x out m last ys pc hpc hm hpN hw hd h0 h1 hN hx hlen hL hF;obtain⟨L,rfl⟩:∃K,L=K+1:=⟨L-1,by omega⟩
  have hgo:Do F v i (En F) out at_ x=some (.out (.go out)):=by
   simp only[Fo.cnt] at hN;unfold Do;rw[hpc,AL (Ux (by omega))]
  refine⟨.go out,Hd hgo,?_⟩;simp only[Fo.txt,UY] at hlen ⊢;rw[DG,NZ hpc hlen]
 | cell k c r ih=>
  intro F L i at_ x out m last ys pc hpc hm hpN hw hd h0 h1 hN hx hlen hL hF;simp only[Fo.wf,Uq,U5] at hw;obtain⟨⟨⟨w1,w2⟩,w3⟩,w4⟩:=hw;simp only[Fo.flat,UM,Vd] at hd;simp only[Fo.cnt] at hN hL;simp only[Fo.flat,Uo,Uw] at hF;obtain⟨L,rfl⟩:∃K,L=K+1:=⟨L-1,by omega⟩
  obtain⟨F,rfl⟩:∃K,F=K+2:=⟨F-2,by omega⟩
  have hd1:=Cc h0 hd;have hkl:=IL w1;obtain⟨g1,g2,g3⟩:=BM (by omega) hd1;have hcM:=hA.hc c (U1 g1);have hp:at_+(Bq k).length=bif m then at_+1 else at_:=by rw[hkl];cases m<;>simp
  have hq:=hA.next (F:=F+2) (by omega) (p:=at_+(Bq k).length) (by omega) (by omega);rw[LU (f:=.cell none c .nil) (ys:=r.flat++ys) rfl (LH w2 w3) hd1] at hq;have e:out++(Fo.cell k c r).txt (decide (x=0))=(out++(Dm (decide (x=0))++Hm k++DV c))++r.txt (decide (x+1=0)):=by
   rw[Ux (show ¬ x+1=0 by omega)];simp[Fo.txt]
  rw[e] at hlen ⊢;have hl2:((out++(Dm (decide (x=0))++Hm k++DV c)).length:Int)≤4611686018427387904:=by rw[Uo] at hlen;omega
  have hat:at_<v.length:=by omega
  have hb:=Lx hpc hm (by omega) hx hpN h0 hat (by omega) w1 (QB h0 hA (F:=F+2) (by omega) hd) hp (K7 (F:=F) (by omega) (by omega) hd1 w2 w3 (by omega) (by omega) hcM.2.1) hq hl2;obtain⟨o,ho1,ho2⟩:=ih (F+2) L i (at_+(Bq k).length+((Fo.cell none c .nil).flat.length:Int)) (x+1) (out++(Dm (decide (x=0))++Hm k++DV c)) m k ys pc hpc hm hpN w4 (by rw[show(Fo.cell none c .nil).flat.length=1 from rfl];exact g2) (by omega) (by rw[show(Fo.cell none c .nil).flat.length=1 from rfl];omega) (by omega) (by omega) hlen (by omega) (by omega);exact⟨o,JC hb ho1,ho2⟩
 | node k c kids r ihk ih=>
  intro F L i at_ x out m last ys pc hpc hm hpN hw hd h0 h1 hN hx hlen hL hF;simp only[Fo.wf,Uq,Un] at hw;obtain⟨⟨⟨⟨⟨w1,w2⟩,w3⟩,w5⟩,w6⟩,w4⟩:=hw;simp only[Fo.flat,UM,Vd] at hd;simp only[Fo.cnt] at hN hL;simp only[Fo.flat,Uo,Uw] at hF;obtain⟨L,rfl⟩:∃K,L=K+1:=⟨L-1,by omega⟩
  obtain⟨F,rfl⟩:∃K,F=K+1:=⟨F-1,by omega⟩
  have hd1:=Cc h0 hd;have hkl:=IL w1;obtain⟨g1,g2,g3⟩:=BM (by omega) hd1;have hcN:=(hA.hc c (U1 g1)).2.2;have hp:at_+(Bq k).length=bif m then at_+1 else at_:=by rw[hkl];cases m<;>simp
  have hq:=hA.next (F:=F+1) (by omega) (p:=at_+(Bq k).length) (by omega) (by omega);have hfl:(Fo.node none c kids .nil).flat=c::kids.flat:=by simp[Fo.flat,Bq]
  rw[LU (f:=.node none c kids .nil) (ys:=r.flat++ys) rfl (LG w2 w3 w5 w6) (by rw[hd1,hfl];simp)] at hq;have hcf:=BR kids;have hvl:(v.drop (at_+(Bq k).length+1).toNat).length=kids.flat.length+(r.flat.length+ys.length):=by rw[g2];simp
  rw[Vc] at hvl;have e:out++(Fo.node k c kids r).txt (decide (x=0))=(out++(Dm (decide (x=0))++Hm k++Lc c (kids.txt true)))++r.txt (decide (x+1=0)):=by
   rw[Ux (show ¬ x+1=0 by omega)];simp[Fo.txt]
  rw[e] at hlen ⊢;have hl2:((out++(Dm (decide (x=0))++Hm k++Lc c (kids.txt true))).length:Int)≤4611686018427387904:=by rw[Uo] at hlen;omega
  have hl3:(kids.txt true).length≤4611686018427387904:=by
   have:=GW c (kids.txt true);rw[Uo,Uo] at hl2;omega
  have hat:at_<v.length:=by omega
  have hrec:En (F+1) v (at_+(Bq k).length)=some (Lc c (kids.txt true)):=by
   rw[En];unfold Jd;have ha:=(GN w2 w3).1;rw[Br (by omega) g3,CF (by omega) hd1,AL (Ux (by omega)),AL (Ux (by omega)),AL (Ux (by omega)),AL (Ux (by omega)),AO (by omega) (by omega)];obtain⟨o,ho1,ho2⟩:=ihk F F (at_+(Bq k).length) (at_+(Bq k).length+1) 0 [] _ none (r.flat++ys) c (CF (by omega) hd1) rfl hcN w6 (by rw[g2]) (by omega) (by omega) (by omega) (UE 0) hl3 (by omega) (by omega);rw[AV ho1,ho2];rfl
  have hb:=Lx hpc hm (by omega) hx hpN h0 hat (by omega) w1 (QB h0 hA (F:=F+1) (by omega) hd) hp hrec hq hl2;obtain⟨o,ho1,ho2⟩:=ih (F+1) L i (at_+(Bq k).length+((Fo.node none c kids .nil).flat.length:Int)) (x+1) (out++(Dm (decide (x=0))++Hm k++Lc c (kids.txt true))) m k ys pc hpc hm hpN w4 (by
   have:=Cc (by omega) g2;rw[hfl,Uw,show at_+(Bq k).length+((kids.flat.length+1:Nat):Int)=at_+(Bq k).length+1+kids.flat.length from by omega];exact this) (by omega) (by rw[hfl,Uw];omega) (by omega) (by omega) hlen (by omega) (by omega)
  exact⟨o,JC hb ho1,ho2⟩
theorem M4 (hA:HL M v){F:Nat}{p:Int}{f:Fo}{ys:List Ac}(h0:0≤p)(h1:f.one=true)(hw:f.wf false none=true)(hd:v.drop p.toNat=f.flat++ys)(hF:3*M+6+f.flat.length<F)(hlen:(f.txt true).length≤4611686018427387904):En F v p=some (f.txt true):=by
 have hM:=hA.hM;have hvM:=hA.hv
 cases f with
 | nil=>cases h1
 | cell k c r=>
  cases k with
  | some s=>cases h1
  | none=>
   cases r with
   | nil=>
    simp only[Fo.wf,Uq,U5] at hw;obtain⟨F,rfl⟩:∃K,F=K+2:=⟨F-2,by omega⟩
    have hd':v.drop p.toNat=c::ys:=by simpa[Fo.flat,Bq] using hd
    have hcM:=hA.hc c (U1 (BM h0 hd').1);rw[K7 h0 (by have:=(BM h0 hd').2.2;omega) hd' hw.1.1.2 hw.1.2 (by omega) (by omega) hcM.2.1];simp[Fo.txt,Dm,Hm]
   | cell _ _ _=>cases h1
   | node _ _ _ _=>cases h1
 | node k c kids r=>
  cases k with
  | some s=>cases h1
  | none=>
   cases r with
   | nil=>
    simp only[Fo.wf,Uq,Un] at hw;obtain⟨⟨⟨⟨⟨w1,w2⟩,w3⟩,w5⟩,w6⟩,w4⟩:=hw;have hd':v.drop p.toNat=c::(kids.flat++ys):=by simpa[Fo.flat,Bq] using hd
    obtain⟨g1,g2,g3⟩:=BM h0 hd';have hcN:=(hA.hc c (U1 g1)).2.2;have hcf:=BR kids;simp only[Fo.flat,Bq,Vg,UY,Uw] at hF;have et:(Fo.node none c kids .nil).txt true=Lc c (kids.txt true):=by simp[Fo.txt,Dm,Hm]
    rw[et] at hlen ⊢;have hbl:=GW c (kids.txt true);obtain⟨F,rfl⟩:∃K,F=K+1:=⟨F-1,by omega⟩
    rw[En];unfold Jd;have ha:=(GN w2 w3).1;rw[Br h0 g3,CF h0 hd',AL (Ux (by omega)),AL (Ux (by omega)),AL (Ux (by omega)),AL (Ux (by omega)),AO (by omega) (by omega)];obtain⟨o,ho1,ho2⟩:=M3 hA kids F F p (p+1) 0 [] _ none ys c (CF h0 hd') rfl hcN w6 g2 (by omega) (by omega) (by omega) (UE 0) (by show(kids.txt true).length≤_;omega) (by omega) (by omega);rw[AV ho1,ho2];rfl
   | cell _ _ _=>cases h1
   | node _ _ _ _=>cases h1
theorem OZ {F:Nat}{K:Option Int}(hF:v.length<F)(hv:v.length≤1152921504606846976):B3 (Cn (λσ=>Dz v σ) F 0) (BY λ_=>K)=bif v.any HO then some 2 else K:=by
 obtain⟨o,h1,h2⟩:=EW (body:=λσ=>Dz v σ) (λx=>0≤x∧x≤(v.length:Int)∧(v.take x.toNat).any HO=false) (λx=>v.length-x.toNat)
  (λo=>BY (λ_=>K) o=bif v.any HO then some 2 else K) (λx ⟨h0,hl,ha⟩=>by
   by_cases hx:x<(v.length:Int)
   ·obtain⟨c,hc⟩:∃c,v[x.toNat]? =some c:=⟨v[x.toNat]'(by omega),Us (by omega)⟩
    have hat:At v x=c:=by simp[At,hc]
    have ho:(decide (c.fKind=3)&&(decide (c.fInt<(-1000000000000))||decide (1000000000000<c.fInt)))=HO c:=by
     unfold HO
     cases decide (c.fKind=3) with
     | false=>rfl
     | true=>
      rw[U3,U3,UI];simp only[UR,Un,U5,UX,Um];omega
    have hb:Dz v x=B1 (HO c) (some (.out (.ret 2))) (some (.next (x+1))):=by
     unfold Dz;rw[AT (UC hx),Br h0 hx,hat,ho,AO (by omega) (by omega)]
    cases hq:HO c with
    | true=>
     refine .inr ⟨.ret 2,hb.trans (AT hq),?_⟩;have:v.any HO=true:=List.any_eq_true.2 ⟨c,U1 hc,hq⟩;rw[KD,this];rfl
    | false=>
     have a3:(v.take (x+1).toNat).any HO=false:=by
      rw[show(x+1).toNat=x.toNat+1 from by omega,List.take_add_one,hc,List.any_append,ha];simp[hq]
     exact .inl ⟨x+1,hb.trans (AL hq),⟨by omega,by omega,a3⟩,by omega⟩
   ·refine .inr ⟨.go (),by unfold Dz;rw[AL (Ux hx)],?_⟩;rw[show x.toNat=v.length from by omega,Vb] at ha;rw[DG,ha];rfl) F 0 ⟨UE 0,by omega,by simp⟩ (by simpa using hF)
 rw[AV h1,h2]
theorem OY {F:Nat}{K:Option Int}(hF:v.length<F)(hv:v.length≤1152921504606846976):B3 (Cn (λσ=>Dy v σ) F 0) (BY λ_=>K)=bif v.any He then some 3 else K:=by
 obtain⟨o,h1,h2⟩:=EW (body:=λσ=>Dy v σ) (λx=>0≤x∧x≤(v.length:Int)∧(v.take x.toNat).any He=false) (λx=>v.length-x.toNat)
  (λo=>BY (λ_=>K) o=bif v.any He then some 3 else K) (λx ⟨h0,hl,ha⟩=>by
   by_cases hx:x<(v.length:Int)
   ·obtain⟨c,hc⟩:∃c,v[x.toNat]? =some c:=⟨v[x.toNat]'(by omega),Us (by omega)⟩
    have hat:At v x=c:=by simp[At,hc]
    have hb:Dy v x=B1 (He c) (some (.out (.ret 3))) (some (.next (x+1))):=by
     unfold Dy;rw[AT (UC hx),Br h0 hx,hat,AO (by omega) (by omega)];rfl
    cases hq:He c with
    | true=>
     refine .inr ⟨.ret 3,hb.trans (AT hq),?_⟩;have:v.any He=true:=List.any_eq_true.2 ⟨c,U1 hc,hq⟩;rw[KD,this];rfl
    | false=>
     have a3:(v.take (x+1).toNat).any He=false:=by
      rw[show(x+1).toNat=x.toNat+1 from by omega,List.take_add_one,hc,List.any_append,ha];simp[hq]
     exact .inl ⟨x+1,hb.trans (AL hq),⟨by omega,by omega,a3⟩,by omega⟩
   ·refine .inr ⟨.go (),by unfold Dy;rw[AL (Ux hx)],?_⟩;rw[show x.toNat=v.length from by omega,Vb] at ha;rw[DG,ha];rfl) F 0 ⟨UE 0,by omega,by simp⟩ (by simpa using hF)
 rw[AV h1,h2]
theorem LZ:decide (Hc v 0=v.length)=(whole v).isSome:=by
 unfold Hc whole;rw[show v.drop (0:Int).toNat=v from rfl]
 cases hp:G1 v with
 | none=>simp
 | some q=>
  obtain⟨f,ys⟩:=q;have h1:=(HE hp).1;have hl:v.length=f.flat.length+ys.length:=by rw[h1];simp
  cases ys with
  | nil=>simp at hl ⊢;omega
  | cons c r=>simp at hl ⊢;omega
theorem L0 (hA:HL M v)(hM:M≤1000000){F:Nat}(hF:4*M+6<F):Jg F v=some (Lo v):=by
 have hvM:=hA.hv;unfold Jg;rw[N5 (hA.rf (U0 M)) (λc hc=>(hA.hc c hc).2.2) (by omega),AV rfl,LZ];unfold Lo
 cases hwh:whole v with
 | none=>rfl
 | some f=>
  obtain⟨h1,h2,h3⟩:=Id hwh;rw[AL (p:=!(some f).isSome) rfl]
  change _=some (Io f)
  have hl:v.length=f.flat.length:=by rw[h1]
  have hc:∀c∈f.flat,c.fStr.length≤M∧B6 .i64 c.fInt=true∧c.fN≤9223372036854775807:=λc hc=>hA.hc c (by rw[h1];exact hc);have hb:=HK hM h2 (by omega) hc;have htl:((f.txt true).length:Int)=f.byt:=by rw[EU f false none true h2,Kb h3];simp
  have hd0:v.drop (0:Int).toNat=f.flat++[]:=by rw[UY];exact h1
  rw[OZ (by omega) (by omega)];unfold Io Gy;rw[N4 hA (UE 0) h3 h2 hd0 (by omega),Cd (by simp[imp]),OY (by omega) (by omega)];unfold Gx;rw[M4 hA (UE 0) h3 h2 hd0 (by omega) (by omega),AV rfl];rw[Ka,hl,← h1];have a1:decide ((200:Int)<(v.length:Int))=decide (200<v.length):=by rw[UI];simp;omega
  have a2:decide ((8:Int)<(f.dep:Int))=decide (8<f.dep):=by rw[UI];simp;omega
  have a3:decide ((4000:Int)<((f.txt true).length:Int))=decide (4000<(f.txt true).length):=by rw[UI];simp;omega
  rw[a1,a2,a3]
  cases v.any HO<;>cases v.any He<;>cases decide (200<v.length)<;>cases decide (8<f.dep)<;>cases decide (4000<(f.txt true).length)<;>rfl
end
theorem CI {α:Type}{n:Nat}{x:Option α}(h:n≤140737488355328):AW (D1 1 n) x=x:=Cd (UC (by omega))
theorem Ex {α β:Type}(a:α)(k:α→Option β):IX a k=k a:=rfl
theorem EN {α:Type}{n:Int}{x:Option α}(h:0≤n)(h':n≤255):AW (B6 .u8 n) x=x:=Cd (RP h h')
theorem Rf {s:Ak}{x:Int}{c:UInt8}(h:s[x.toNat]? =some c):UInt8.ofNat (Int.toNat (AY s x))=c∧0≤AY s x∧AY s x≤255:=by
 have:=UInt8.toNat_lt c;rw[Kg h];refine⟨?_,by omega,by omega⟩;rw[← UInt8.toNat_inj];simp
theorem Mv {s l:Ak}{x:Int}{c:UInt8}(h0:0≤x)(hx:x<(s.length:Int))(hs:s.length≤1152921504606846976)(hl:l.length+2≤140737488355328)(hc:s[x.toNat]? =some c):CJ s x l=some (.next (x+1,l++JO c)):=by
 obtain⟨b1,b2,b3⟩:=Rf hc;unfold CJ JO;rw[AT (UC hx),Br h0 hx,Sv hc,Su hc];have l1:(l++[UInt8.ofNat (Int.toNat 92)]).length=l.length+1:=by simp
 cases hq:(decide (c=34)||decide (c=92)) with
 | true=>
  rw[AT rfl,CI (by omega),EN (by decide) (by decide),Ex,l1,CI (by omega),EN b2 b3,Ex,b1,AO (by omega) (by omega),UM];rfl
 | false=>
  rw[AL rfl,CI (by omega),EN b2 b3,Ex,b1,AO (by omega) (by omega)];rfl
theorem PW {l:Ak}(h:l.length+1≤140737488355328):DL l=some (l++[34]):=by
 unfold DL;rw[CI h,Ex];rfl
theorem Jb {F:Nat}{l s:Ak}(hF:s.length<F)(hl:(l++Eo s).length≤140737488355328):If F l s=some (l++Eo s):=by
 have hq:(Eo s).length=(Es s).length+2:=by simp[Eo]
 rw[Uo,hq] at hl;have hesc:∀k,(Es (s.take k)).length≤(Es s).length:=λk=>by
  have:Es s=Es (s.take k)++Es (s.drop k):=by rw[Es,Es,Es,← List.flatMap_append,Vf]
  rw[this,Uo];omega
 have hsl:s.length≤(Es s).length:=by rw[IR];omega
 obtain⟨o,h1,h2⟩:=EW (body:=λσ=>CJ s σ.1 σ.2) (λσ=>0≤σ.1∧σ.1≤(s.length:Int)∧σ.2=l++[34]++Es (s.take σ.1.toNat)) (λσ=>s.length-σ.1.toNat)
  (λo=>BY (λν=>DL ν) o=some (l++Eo s)) (λσ ⟨h0,hlx,ha⟩=>by
   obtain⟨x,out⟩:=σ;simp only at h0 hlx ha;show(∃s',CJ s x out=_∧_)∨∃o,CJ s x out=_∧_;have hol:out.length=l.length+1+(Es (s.take x.toNat)).length:=by rw[ha];simp;omega
   have he:=hesc x.toNat
   by_cases hx:x<(s.length:Int)
   ·obtain⟨c,hc⟩:∃c,s[x.toNat]? =some c:=⟨s[x.toNat]'(by omega),Us (by omega)⟩
    have he2:=hesc (x.toNat+1);rw[Jq hc,Uo] at he2;have hc1:1≤(JO c).length:=by unfold JO;cases(decide (c=34)||decide (c=92))<;>simp
    have a1:0≤x+1:=by omega
    have a2:x+1≤s.length:=by omega
    have a3:s.length-(x+1).toNat<s.length-x.toNat:=by omega
    have a4:out++JO c=l++[34]++Es (s.take (x+1).toNat):=by rw[show(x+1).toNat=x.toNat+1 from by omega,Jq hc,ha,UM]
    exact .inl ⟨(x+1,out++JO c),Mv h0 hx (by omega) (by omega) hc,⟨a1,a2,a4⟩,a3⟩
   ·have e:x.toNat=s.length:=by omega
    rw[e,Vb] at ha;have hf:out++[34]=l++Eo s:=by rw[ha];simp[Eo]
    have hgo:CJ s x out=some (.out (.go out)):=by unfold CJ;rw[AL (Ux hx)]
    exact .inr ⟨.go out,hgo,(DG (λν=>DL ν) out).trans ((PW (by omega)).trans (congrArg some hf))⟩) F (0,l++[34]) ⟨UE 0,by show(0:Int)≤s.length;omega,by show l++[34]=l++[34]++Es (s.take 0);simp[Es]⟩ (by show s.length-0<F;omega)
 unfold If;rw[CI (by omega),EN (by decide) (by decide),Ex];have hd:[UInt8.ofNat (Int.toNat 34)]=([34]:Ak):=rfl;rw[hd,AV h1,h2]
theorem Ko {F:Nat}{l key:Ak}{x:List Ac}{first:Bool}{c:Ac}{k last:Option Ak}{tx:Ak}(hk:BT (decide (c.fKind=6)) last k=true)(hkey:∀s,k=some s→key=s∧s.length<F)
  (hlen:(l++(Dm first++Hm k++tx)).length≤140737488355328) (hw:∀l':Ak,(l'++tx).length≤140737488355328→Ee F l' x=some (l'++tx)):DF (F+1) key x first l c=some (true,false,l++(Dm first++Hm k++tx)):=by
 rw[DF];unfold Iu;have hd:[UInt8.ofNat (Int.toNat 44)]=([44]:Ak):=rfl;have ha:[UInt8.ofNat (Int.toNat 58)]=([58]:Ak):=rfl;have hlen':=hlen;simp only[Uo] at hlen'
 cases first with
 | true=>
  rw[AL (p:=!true) rfl]
  cases hm:decide (c.fKind=6) with
  | true=>
   rw[hm] at hk
   cases k with
   | none=>simp[BT] at hk
   | some s=>
    obtain⟨e1,e2⟩:=hkey s rfl;subst e1;simp only[Hm,Uo,UH] at hlen';have h1:(l++Eo key).length≤140737488355328:=by rw[Uo];omega
    have e:((l++Eo key)++[58])++tx=l++(Dm true++Hm (some key)++tx):=TD _ _ _ _;rw[← e] at hlen ⊢;rw[AT rfl,Jb e2 h1,AV rfl,CI (by rw[Uo];omega),EN (by decide) (by decide),Ex,ha,hw _ hlen,AV rfl]
  | false=>
   rw[hm] at hk
   cases k with
   | some s=>simp[BT] at hk
   | none=>
    have e:l++tx=l++(Dm true++Hm none++tx):=TF _ _;rw[← e] at hlen ⊢;rw[AL rfl,hw _ hlen,AV rfl]
 | false=>
  simp only[Dm,Uu,UH] at hlen';rw[AT (p:=!false) rfl,CI (by omega),EN (by decide) (by decide),Ex,hd]
  cases hm:decide (c.fKind=6) with
  | true=>
   rw[hm] at hk
   cases k with
   | none=>simp[BT] at hk
   | some s=>
    obtain⟨e1,e2⟩:=hkey s rfl;subst e1;simp only[Hm,Uo,UH] at hlen';have h1:((l++[44])++Eo key).length≤140737488355328:=by simp only[Uo,UH];omega
    have e:(((l++[44])++Eo key)++[58])++tx=l++(Dm false++Hm (some key)++tx):=TC _ _ _ _ _;rw[← e] at hlen ⊢;rw[AT rfl,Jb e2 h1,AV rfl,CI (by simp only[Uo,UH];omega),EN (by decide) (by decide),Ex,ha,hw _ hlen,AV rfl]
  | false=>
   rw[hm] at hk
   cases k with
   | some s=>simp[BT] at hk
   | none=>
    have e:(l++[44])++tx=l++(Dm false++Hm none++tx):=TE _ _ _;rw[← e] at hlen ⊢;rw[AL rfl,hw _ hlen,AV rfl]
section
variable {M : Nat}
theorem Kx {F:Nat}{v:List Ac}{c:Ac}{at_ x:Int}{first:Bool}{l l2:Ak}{k last:Option Ak}{f1:Fo}{ys:List Ac}(hA:HL M v)(hF:M<F)(hpc:At v 0=c)(hx:x<c.fN)(hx0:0≤x)(hcN:c.fN≤9223372036854775807)(h0:0≤at_)(hk:BT (decide (c.fKind=6)) last k=true)
  (hd:v.drop at_.toNat=Bq k++(f1.flat++ys)) (h1:f1.one=true) (hw:f1.wf false none=true) (hr:∀key,(∀s,k=some s→key=s)→DF F key f1.flat first l c=some (true,false,l2)) :
  CT F v c (DF F) at_ x first l=some (.next (at_+(Bq k).length+f1.flat.length,x+1,false,l2)):=by
 have hM:=hA.hM;have hvM:=hA.hv;have hd1:=Cc h0 hd;have hkl:=IL hk;have hfl:=ME h1;have hll:(v.drop (at_+(Bq k).length).toNat).length=f1.flat.length+ys.length:=by rw[hd1];simp
 rw[Vc] at hll;have hlook:Ha F (v.drop (at_+(Bq k).length).toNat)=some ((f1.flat.length:Int),f1.sh 0 K6,true):=MN ((hA.drop _).lk hF) h1 hw hd1;have htake:List.take (Int.toNat (at_+(Bq k).length+(f1.flat.length:Int))-Int.toNat (at_+(Bq k).length)) (v.drop (at_+(Bq k).length).toNat)=f1.flat:=by
  rw[hd1,show Int.toNat (at_+(Bq k).length+(f1.flat.length:Int))-Int.toNat (at_+(Bq k).length)=f1.flat.length from by omega,List.take_left]
 have hmono:0≤at_+(Bq k).length+f1.flat.length:=by omega
 unfold CT;rw[hpc,AT (UC hx)]
 cases hm:decide (c.fKind=6) with
 | true=>
  rw[hm] at hk hkl
  cases k with
  | none=>simp[BT] at hk
  | some s=>
   have e1:((Bq (some s)).length:Int)=1:=rfl;rw[e1] at hlook htake hll hmono ⊢;have hats:(At v at_).fStr=s:=by
    have:v.drop at_.toNat=⟨4,0,s,0⟩::(f1.flat++ys):=by simpa[Bq] using hd
    rw[CF h0 this]
   have hin:at_<v.length:=by omega
   rw[AT rfl,Br h0 hin,AO (by omega) (by omega),Dh (by omega) (by omega),hlook,AV rfl,AO (by omega) (by omega),Dh (by omega) (by omega),Dh (by omega) (by omega),htake,hats,hr s (λs' h=>by cases h;rfl),AV rfl];rw[AL (p:=!true) rfl,AO (by omega) (by omega)]
 | false=>
  rw[hm] at hk hkl
  cases k with
  | some s=>simp[BT] at hk
  | none=>
   have e1:((Bq none).length:Int)=0:=rfl;rw[e1,Int.add_zero] at hlook htake hll hmono ⊢;rw[AL rfl,Dh (by omega) (by omega),hlook,AV rfl,AO (by omega) (by omega),Dh (by omega) (by omega),Dh (by omega) (by omega),htake,hr [] (λs' h=>by cases h),AV rfl];rw[AL (p:=!true) rfl,AO (by omega) (by omega)]
end
section
variable {M : Nat}
theorem IU (l:Ak)(c:UInt8):(l++[c]).length=l.length+1:=by rw[Uo,UH]
theorem Ie {F:Nat}{l p:Ak}{v:List Ac}{c:Ac}{rf:Ak→(List Ac)→Bool→Ak→Ac→Option (Bool×Bool×Ak)}{rp:(List Ac)→Bool→Ak→Ac→Option (Bool×Ak)}(hc:At v 0=c)(hv:0<v.length)(hk:c.fKind=5∨c.fKind=6)(hlen:(l++Lc c p).length≤140737488355328)
  (hp:∀l':Ak,l'.length=l.length+1→∃b,rp v true l' c=some (b,l'++p)):H8 F rf rp l v=some (l++Lc c p):=by
 have hbl:=GW c p;rw[Uo,hbl] at hlen;have i0:(0:Int)<(v.length:Int):=by omega
 unfold H8;rw[Br (UE 0) i0,hc,AL (Ux (by omega)),AL (Ux (by omega)),AL (Ux (by omega)),AL (Ux (by omega))];have b1:[UInt8.ofNat (Int.toNat (AY ([123,125]:Ak) 0))]=([123]:Ak):=rfl;have b2:[UInt8.ofNat (Int.toNat (AY ([123,125]:Ak) 1))]=([125]:Ak):=rfl;have b3:[UInt8.ofNat (Int.toNat (AY ([91,93]:Ak) 0))]=([91]:Ak):=rfl;have b4:[UInt8.ofNat (Int.toNat (AY ([91,93]:Ak) 1))]=([93]:Ak):=rfl;have c1:AY ([123,125]:Ak) 0=123:=rfl;have c2:AY ([123,125]:Ak) 1=125:=rfl;have c3:AY ([91,93]:Ak) 0=91:=rfl;have c4:AY ([91,93]:Ak) 1=93:=rfl;have n2:(([123,125]:Ak).length:Int)=2:=rfl;have n3:(([91,93]:Ak).length:Int)=2:=rfl
 cases h6:decide (c.fKind=6) with
 | true=>
  obtain⟨b,hb⟩:=hp _ (IU l 123);rw[AT rfl,n2,Br (by decide) (by decide),CI (by omega),b1,b2,c1,c2,EN (by decide) (by decide),Ex,hb,AV rfl,Br (by decide) (by decide)];have e:((l++[123])++p).length=l.length+1+p.length:=by rw[Uo,IU]
  rw[e,CI (by omega),EN (by decide) (by decide),Ex];simp[Lc,h6]
 | false=>
  obtain⟨b,hb⟩:=hp _ (IU l 91);rw[AL rfl,n3,Br (by decide) (by decide),CI (by omega),b3,b4,c3,c4,EN (by decide) (by decide),Ex,hb,AV rfl,Br (by decide) (by decide)];have e:((l++[91])++p).length=l.length+1+p.length:=by rw[Uo,IU]
  rw[e,CI (by omega),EN (by decide) (by decide),Ex];simp[Lc,h6]
theorem J3 {F:Nat}{v:List Ac}{c:Ac}{at_ x:Int}{first:Bool}{l:Ak}{rf:Ak→(List Ac)→Bool→Ak→Ac→Option (Bool×Bool×Ak)}(hc:At v 0=c)(hx : ¬ x<c.fN):CT F v c rf at_ x first l=some (.out (.go (first,l))):=by
 unfold CT;rw[hc,AL (Ux hx)]
theorem J2 {F:Nat}{l:Ak}{c:Ac}(hp:pl c=true)(hn:decide (0<c.fN)=false)(hs:c.fStr.length<F+2)(hi:B6 .i64 c.fInt=true)(hlen:(l++DV c).length≤140737488355328):Ee (F+3) l [c]=some (l++DV c):=by
 rw[Ee];have hat:At [c] 0=c:=rfl;have i0:(0:Int)<(([c]:List Ac).length:Int):=by simp
 have hN : ¬ (0:Int)<c.fN:=by simpa using hn
 by_cases ha:c.fKind=5∨c.fKind=6
 ·have el:DV c=Lc c []:=by
   have k1:decide (c.fKind=1)=false:=Ux (by omega);have k2:decide (c.fKind=2)=false:=Ux (by omega);have k3:decide (c.fKind=3)=false:=Ux (by omega);have k4:decide (c.fKind=4)=false:=Ux (by omega);unfold DV Lc;rw[k1,k2,k3,k4];rfl
  rw[el] at hlen ⊢;refine Ie hat (by simp) ha hlen (λl' hl'=>⟨true,?_⟩);rw[Ez];unfold Gp;rw[Br (UE 0) i0,AV (Hd (o:=.go (true,l')) (J3 hat hN)),DG,UY];rfl
 ·unfold H8 DV;unfold DV at hlen;rw[Br (UE 0) i0,hat]
  cases k1:decide (c.fKind=1) with
  | true=>
   rw[k1] at hlen;simp only[Uz] at hlen;rw[AT rfl,CI (by rw[Uo] at hlen;exact hlen),Ex];rfl
  | false=>
  rw[k1] at hlen;simp only[Uu] at hlen;rw[AL rfl]
  cases k2:decide (c.fKind=2) with
  | true=>
   rw[k2] at hlen;simp only[Uz] at hlen;rw[AT rfl];simp[pl,k1,k2] at hp;simp only[Uo] at hlen;rcases hp.1 with h0 | h1
   ·rw[h0] at hlen ⊢;have a:At ([([102,97,108,115,101]:Ak),([116,114,117,101]:Ak)]:List Ak) 0=[102,97,108,115,101]:=rfl;have hlen2:l.length+([102,97,108,115,101]:Ak).length≤140737488355328:=hlen;rw[Br (by decide) (by decide),a,CI hlen2,Ex];rfl
   ·rw[h1] at hlen ⊢;have a:At ([([102,97,108,115,101]:Ak),([116,114,117,101]:Ak)]:List Ak) 1=[116,114,117,101]:=rfl;have hlen2:l.length+([116,114,117,101]:Ak).length≤140737488355328:=hlen;rw[Br (by decide) (by decide),a,CI hlen2,Ex];rfl
  | false=>
  rw[k2] at hlen;simp only[Uu] at hlen;rw[AL rfl]
  cases k3:decide (c.fKind=3) with
  | true=>
   rw[k3] at hlen;simp only[Uz,Uo] at hlen;rw[AT rfl,Cd hi,CI hlen,Ex];rfl
  | false=>
  rw[k3] at hlen;simp only[Uu] at hlen;rw[AL rfl]
  cases k4:decide (c.fKind=4) with
  | true=>
   rw[k4] at hlen;simp only[Uz] at hlen;rw[AT rfl,Jb hs hlen,AV rfl];rfl
  | false=>
   exfalso;simp only[Um] at k1 k2 k3 k4;simp[pl,k1,k2,k3,k4,show ¬ c.fKind=5 by omega,show ¬ c.fKind=6 by omega] at hp
theorem HL.mem {v:List Ac}(hA:HL M v){p:Int}{a b:List Ac}(h:v.drop p.toNat=a++b):HL M a:=by
 have:=(hA.drop p.toNat).take a.length
 rwa [h,List.take_left] at this
theorem Lg:∀(g:Fo) (v:List Ac) (c:Ac) (F L:Nat) (at_ x:Int) (first:Bool) (l:Ak) (m:Bool) (last:Option Ak) (ys:List Ac),HL M v→At v 0=c→decide (c.fKind=6)=m→c.fN≤9223372036854775807→g.wf m last=true→v.drop at_.toNat=g.flat++ys→0≤at_→c.fN=x+g.cnt→0≤x→(l++g.txt first).length≤140737488355328→g.cnt<L→M+5+3*g.flat.length<F→
  ∃o b,Cn (λσ=>CT F v c (DF F) σ.1 σ.2.1 σ.2.2.1 σ.2.2.2) L (at_,x,first,l)=some o∧BY (λν=>ED ν.1 ν.2) o=some (b,l++g.txt first):=by
 intro g
 induction g with
 | nil=>
  intro v c F L at_ x first l m last ys hA hpc hm hcN hw hd h0 hN hx hlen hL hF
  obtain⟨L,rfl⟩:∃K,L=K+1:=⟨L-1,by omega⟩
  simp only[Fo.cnt] at hN;have hx' : ¬ x<c.fN:=by omega
  refine⟨.go (first,l),first,Hd (J3 hpc hx'),?_⟩;rw[DG,Fo.txt,UY];rfl
 | cell k cc r ih=>
  intro v c F L at_ x first l m last ys hA hpc hm hcN hw hd h0 hN hx hlen hL hF
  simp only[Fo.wf,Uq,U5] at hw;obtain⟨⟨⟨w1,w2⟩,w3⟩,w4⟩:=hw;have hd2:v.drop at_.toNat=Bq k++((Fo.cell none cc .nil).flat++(r.flat++ys)):=by rw[hd];simp[Fo.flat,Bq]
  have hd1:=Cc h0 hd2;simp only[Fo.cnt] at hN hL;simp only[Fo.flat,Uo,Uw] at hF;obtain⟨L,rfl⟩:∃K,L=K+1:=⟨L-1,by omega⟩
  obtain⟨F,rfl⟩:∃K,F=K+4:=⟨F-4,by omega⟩
  have hAe:=hA.mem hd1;have hcM:=hAe.hc cc (by simp[Fo.flat,Bq]);have e:l++(Fo.cell k cc r).txt first=(l++(Dm first++Hm k++DV cc))++r.txt false:=by simp[Fo.txt]
  rw[e] at hlen ⊢;have hl2:(l++(Dm first++Hm k++DV cc)).length≤140737488355328:=by rw[Uo] at hlen;omega
  have hb:=Kx (F:=F+4) (last:=last) hA (by omega) hpc (by omega) hx hcN h0 (by rw[hm];exact w1) hd2 rfl (LH w2 w3) (first:=first) (l:=l) (λkey hkey=>
   Ko (last:=last) (by rw[hm];exact w1) (λs hs=>⟨hkey s hs,by
    have hM:=hA.hM;subst hs;have:=(hA.hc ⟨4,0,s,0⟩ (List.mem_of_mem_drop (by rw[hd2];simp[Bq]))).1;simp only at this;omega⟩) hl2 (λl' hl'=>J2 (F:=F) w2 w3 (by omega) hcM.2.1 hl'))
  obtain⟨o,b,ho1,ho2⟩:=ih v c (F+4) L (at_+(Bq k).length+((Fo.cell none cc .nil).flat.length:Int)) (x+1) false (l++(Dm first++Hm k++DV cc)) m k ys hA hpc hm hcN w4 (Cc (by omega) hd1) (by omega) (by omega) (by omega) hlen (by omega) (by omega);exact⟨o,b,JC hb ho1,ho2⟩
 | node k cc kids r ihk ih=>
  intro v c F L at_ x first l m last ys hA hpc hm hcN hw hd h0 hN hx hlen hL hF
  simp only[Fo.wf,Uq,Un] at hw;obtain⟨⟨⟨⟨⟨w1,w2⟩,w3⟩,w5⟩,w6⟩,w4⟩:=hw;have hd2:v.drop at_.toNat=Bq k++((Fo.node none cc kids .nil).flat++(r.flat++ys)):=by rw[hd];simp[Fo.flat,Bq]
  have hd1:=Cc h0 hd2;simp only[Fo.cnt] at hN hL;simp only[Fo.flat,Uo,Uw] at hF;obtain⟨L,rfl⟩:∃K,L=K+1:=⟨L-1,by omega⟩
  obtain⟨F,rfl⟩:∃K,F=K+3:=⟨F-3,by omega⟩
  have hAe:=hA.mem hd1;have hfl:(Fo.node none cc kids .nil).flat=cc::kids.flat:=by simp[Fo.flat,Bq]
  have hcM:=hAe.hc cc (by rw[hfl];simp);have hcf:=BR kids;have e:l++(Fo.node k cc kids r).txt first=(l++(Dm first++Hm k++Lc cc (kids.txt true)))++r.txt false:=by simp[Fo.txt]
  rw[e] at hlen ⊢;have hl2:(l++(Dm first++Hm k++Lc cc (kids.txt true))).length≤140737488355328:=by rw[Uo] at hlen;omega
  have hb:=Kx (F:=F+3) (last:=last) hA (by omega) hpc (by omega) hx hcN h0 (by rw[hm];exact w1) hd2 rfl (LG w2 w3 w5 w6) (first:=first) (l:=l) (λkey hkey=>
   Ko (last:=last) (by rw[hm];exact w1) (λs hs=>⟨hkey s hs,by
    have hM:=hA.hM;subst hs;have:=(hA.hc ⟨4,0,s,0⟩ (List.mem_of_mem_drop (by rw[hd2];simp[Bq]))).1;simp only at this;omega⟩) hl2 (λl' hl'=>by
     rw[Ee];have hat:At (Fo.node none cc kids .nil).flat 0=cc:=by rw[hfl];rfl
     have hlen0:0<(Fo.node none cc kids .nil).flat.length:=by rw[hfl];simp
     have hbl:=GW cc (kids.txt true);rw[Uo,hbl] at hl';have hb:∀l2:Ak,l2.length=l'.length+1→∃b,Ez (F+1) (Fo.node none cc kids .nil).flat true l2 cc=some (b,l2++kids.txt true):=λl2 hl2'=>by
       rw[Ez];unfold Gp;have i0:(0:Int)<((Fo.node none cc kids .nil).flat.length:Int):=by omega
       obtain⟨o,b,ho1,ho2⟩:=ihk (Fo.node none cc kids .nil).flat cc F F 1 0 true l2 _ none [] hAe hat rfl hcM.2.2 w6 (by rw[hfl];simp) (by decide) (by omega) (UE 0) (by rw[Uo];omega) (by omega) (by omega);exact⟨b,by rw[Br (UE 0) i0,AV ho1,ho2]⟩
     exact Ie hat hlen0 (GN w2 w3).1 (by rw[Uo,hbl];exact hl') hb))
  obtain⟨o,b,ho1,ho2⟩:=ih v c (F+3) L (at_+(Bq k).length+((Fo.node none cc kids .nil).flat.length:Int)) (x+1) false (l++(Dm first++Hm k++Lc cc (kids.txt true))) m k ys hA hpc hm hcN w4 (Cc (by omega) hd1) (by omega) (by omega) (by omega) hlen (by omega) (by omega);exact⟨o,b,JC hb ho1,ho2⟩
theorem OG {f:Fo}{F:Nat}{l:Ak}(hA:HL M f.flat)(h1:f.one=true)(hw:f.wf false none=true)(hF:M+8+3*f.flat.length<F)(hlen:(l++f.txt true).length≤140737488355328):Ee F l f.flat=some (l++f.txt true):=by
 have hM:=hA.hM;have hvM:=hA.hv
 cases f with
 | nil=>cases h1
 | cell k c r=>
  cases k with
  | some s=>cases h1
  | none=>
   cases r with
   | nil=>
    simp only[Fo.wf,Uq,U5] at hw;have hfl:(Fo.cell none c .nil).flat=[c]:=by simp[Fo.flat,Bq]
    have hcM:=hA.hc c (by rw[hfl];simp);have et:(Fo.cell none c .nil).txt true=DV c:=by simp[Fo.txt,Dm,Hm]
    rw[et] at hlen ⊢;obtain⟨F,rfl⟩:∃K,F=K+3:=⟨F-3,by omega⟩
    rw[hfl];exact J2 hw.1.1.2 hw.1.2 (by omega) hcM.2.1 hlen
   | cell _ _ _=>cases h1
   | node _ _ _ _=>cases h1
 | node k c kids r=>
  cases k with
  | some s=>cases h1
  | none=>
   cases r with
   | nil=>
    simp only[Fo.wf,Uq,Un] at hw;obtain⟨⟨⟨⟨⟨w1,w2⟩,w3⟩,w5⟩,w6⟩,w4⟩:=hw;have hfl:(Fo.node none c kids .nil).flat=c::kids.flat:=by simp[Fo.flat,Bq]
    have hcM:=hA.hc c (by rw[hfl];simp);have et:(Fo.node none c kids .nil).txt true=Lc c (kids.txt true):=by simp[Fo.txt,Dm,Hm]
    rw[et] at hlen ⊢;have hcf:=BR kids;have hat:At (Fo.node none c kids .nil).flat 0=c:=by rw[hfl];rfl
    have hlen0:0<(Fo.node none c kids .nil).flat.length:=by rw[hfl];simp
    have hl1:(Fo.node none c kids .nil).flat.length=kids.flat.length+1:=by rw[hfl];simp
    have hbl:=GW c (kids.txt true);obtain⟨F,rfl⟩:∃K,F=K+2:=⟨F-2,by omega⟩
    rw[Ee];refine Ie hat hlen0 (GN w2 w3).1 hlen (λl2 hl2=>?_);rw[Uo,hbl] at hlen;rw[Ez];unfold Gp;have i0:(0:Int)<((Fo.node none c kids .nil).flat.length:Int):=by omega
    obtain⟨o,b,ho1,ho2⟩:=Lg kids (Fo.node none c kids .nil).flat c F F 1 0 true l2 _ none [] hA hat rfl hcM.2.2 w6 (by rw[hfl];simp) (by decide) (by omega) (UE 0) (by rw[Uo];omega) (by omega) (by omega);exact⟨b,by rw[Br (UE 0) i0,AV ho1,ho2]⟩
   | cell _ _ _=>cases h1
   | node _ _ _ _=>cases h1
def NG (v:List Ac):Ak×Int:=match whole v with
 | none=>([],1)
 | some f=>bif decide (Io f=0) then(f.txt true,0) else([],Io f)
theorem RM (n:Int):Lib.itoa n≠[]:=by
 unfold Lib.itoa
 split
 ·simp
 ·intro h;have:=congrArg List.length h;rw[Lib.decDigits_length] at this;have:=Lib.nDigits_pos n.toNat;simp at *;omega
theorem R1 {f:Fo}(hw:f.wf false none=true)(h1:f.one=true):0<(f.txt true).length:=by
 have e:=EU f false none true hw
 cases f with
 | nil=>cases h1
 | cell k c r=>
  have h2:=EZ hw;simp only[Fo.txt,Uo];simp only[Fo.wf,Uq] at hw;have hp:=hw.1.1.2;have:0<(DV c).length:=by
   have hl:=L4 hp;have:0<PE c:=by
    unfold PE
    cases h1:decide (c.fKind=1) with
    | true=>simp
    | false=>
     cases h2:decide (c.fKind=2) with
     | true=>
      simp[pl,h1,h2] at hp;simp only[Uu,Uz];omega
     | false=>
      cases h3:decide (c.fKind=3) with
      | true=>
       simp only[Uu,Uz];have:Lib.itoa c.fInt≠[]:=RM _;have:=List.length_pos_iff.2 this;omega
      | false=>
       cases h4:decide (c.fKind=4) with
       | true=>have:=IE c.fStr;simp only[Uu,Uz];omega
       | false=>simp
   omega
  omega
 | node k c kids r=>
  have:=GW c (kids.txt true);simp only[Fo.txt,Uo];omega
theorem Nx {v:List Ac}(hA:HL M v)(hM:M≤1000000){F:Nat}(hF:4*M+8<F):I1 F v=some (NG v):=by
 have hvM:=hA.hv;unfold I1 NG;rw[Lt hA hM (by omega),AV rfl];unfold Lo
 cases hwh:whole v with
 | none=>rfl
 | some f=>
  change B1 (!decide (Io f=0)) _ _=some (bif decide (Io f=0) then(f.txt true,0) else([],Io f))
  cases he:decide (Io f=0) with
  | false=>rw[AT (p:=!false) rfl];rfl
  | true=>
   obtain⟨h1,h2,h3⟩:=Id hwh;have hl:v.length=f.flat.length:=by rw[h1]
   have hc:∀c∈f.flat,c.fStr.length≤M∧B6 .i64 c.fInt=true∧c.fN≤9223372036854775807:=λc hc=>hA.hc c (by rw[h1];exact hc);have hb:=HK hM h2 (by omega) hc;have htl:((f.txt true).length:Int)=f.byt:=by rw[EU f false none true h2,Kb h3];simp
   have hA':HL M f.flat:=by rw[← h1];exact hA
   have hw:=OG (F:=F) (l:=[]) hA' h3 h2 (by omega) (by rw[Vg];omega);rw[AL (p:=!true) rfl,h1,hw,AV rfl,Vg,Cd (UC (R1 h2 h3))];rfl
end
def Qc (v:List Ac):Bool:=!decide (300<v.length)&&v.all λc=>!decide (300<c.fStr.length)
def KE (c:Ac):Bool:=B6 .i64 c.fKind&&B6 .i64 c.fInt&&Og c.fStr&&B6 .i64 c.fN
theorem HL.of {v:List Ac}(hs:Qc v=true)(hc:v.all KE=true):HL 300 v:=by
 unfold Qc at hs;simp only[Uq,U5,Um,UP] at hs hc;refine⟨by decide,by omega,λc h=>?_⟩;obtain h1:=hs.2 c h;obtain h2:=hc c h;unfold KE at h2;simp only[Uq] at h2;exact⟨by omega,h2.1.1.2,(DX h2.2).2⟩
theorem QE (a:Bool):imp a true=true:=by cases a<;>rfl
section
variable {M : Nat}
end
theorem Oh (s:Ak):Li (CO s)=s:=by
 unfold Li CO;rw[List.map_map];have:((λx:Int=>UInt8.ofNat x.toNat) ∘ λc:UInt8=>(c.toNat:Int))=id:=by funext c;simp
 rw[this,List.map_id]
theorem R2 (a b:Ak):CO a++CO b=CO (a++b):=by simp[CO]
theorem Nz (a:Ak):(CO a).length=a.length:=by simp[CO]
theorem Lr (n:Nat):IntKind.wrap .u8 (n:Int)=((UInt8.ofNat n).toNat:Int):=by
 simp[IntKind.wrap,IntKind.signed,IntKind.bits]
theorem TR (n:Nat):ES .i64 (n:Int) 8=((n/256:Nat):Int):=by
 unfold ES;have e:min (8:Int).toNat (IntKind.bits .i64)=8:=by decide
 rw[e,Int.fdiv_eq_ediv_of_nonneg _ (by decide)];simp
def KO (f:Ak):Ak:=UInt8.ofNat (f.length/256)::UInt8.ofNat (f.length % 256)::f
def MD (l:List Ak):Ak:=UInt8.ofNat l.length::l.flatMap KO
def Sn (l:List Ak):Bool:=decide (l.length≤64)&&l.all λf=>decide (f.length≤4000)
def JA (l:List Ak):Ak×Int:=bif Sn l then(MD l,0) else([],3)
theorem L2 (l:List Ak)(b:List Int×Int→Option (Stp (List Int×Int) (Out (Ak×Int) (List Int))))(hl:l.length≤64)
  (hb:∀(acc:List Int) (x:Int) (f:Ak),acc.length≤300000→0≤x→x<(l.length:Int)→At l x=f→b (acc,x)=bif decide (4000<f.length) then some (.out (.ret ([],3))) else some (.next (acc++CO (KO f),x+1)))
  (he:∀acc,b (acc,(l.length:Int))=some (.out (.go acc))) {F:Nat} (hF:64<F) :
  B3 (Cn b F (CO [UInt8.ofNat l.length],0)) (BY λq=>some (Li q,0))=some (JA l):=by
 have key:∀(k:Nat) (F:Nat) (acc:Ak),k<F→k≤l.length→acc.length≤1+(l.length-k)*4002→
   B3 (Cn b F (CO acc,((l.length-k:Nat):Int))) (BY λq=>some (Li q,0))=some (bif (l.drop (l.length-k)).all (λf=>decide (f.length≤4000)) then(acc++(l.drop (l.length-k)).flatMap KO,0) else([],3)):=by
  intro k
  induction k with
  | zero=>
   intro F acc hF _ _
   cases F with
   | zero=>omega
   | succ F=>rw[Cn,Nat.sub_zero,he];simp[B3,BY,Oh]
  | succ k ih=>
   intro F acc hF hk hacc
   cases F with
   | zero=>omega
   | succ F=>
    have hlt:l.length-(k+1)<l.length:=by omega
    have hat:At l ((l.length-(k+1):Nat):Int)=l[l.length-(k+1)]:=by simp[At,hlt]
    have hd:l.drop (l.length-(k+1))=l[l.length-(k+1)]::l.drop (l.length-k):=by
     rw[List.drop_eq_getElem_cons hlt];congr 2;omega
    have ha:(l.length-(k+1))*4002≤64*4002:=Nat.mul_le_mul_right _ (by omega);rw[Cn,hb _ _ _ (by rw[Nz];omega) (by omega) (by omega) hat,hd];generalize l[l.length-(k+1)]=f at *
    cases h4:decide (4000<f.length) with
    | true=>
     simp only[Un] at h4;rw[List.all_cons,Ux (by omega),U6];rfl
    | false=>
     simp only[Um] at h4;have e2:(l.length-(k+1))*4002+4002=(l.length-k)*4002:=by
      rw[show l.length-k=l.length-(k+1)+1 from by omega,Nat.succ_mul]
     have:=ih F (acc++KO f) (by omega) (by omega) (by simp[KO];omega);rw[show((l.length-(k+1):Nat):Int)+1=((l.length-k:Nat):Int) from by omega];simp only[Uu,R2];rw[this,List.all_cons,UC (by omega),U3,List.flatMap_cons,UM]
 have:=key l.length F [UInt8.ofNat l.length] (by omega) (UG _) (by simp);simp only[Nat.sub_self,List.drop_zero] at this;refine Eq.trans this ?_;unfold JA Sn MD;rw[UC hl,U3];rfl
theorem IT {α:Type}{n:Nat}{x:Option α}(h:n≤1000000000):AW (D1 1 n) x=x:=Cd (UC (by omega))
theorem JH (f:Ak):decide ((4000:Int)<(f.length:Int))=decide (4000<f.length):=by rw[UI];simp;omega
theorem QO {F:Nat}{l:List Ak}(hF:64<F):MW F l=some (JA l):=by
 unfold MW
 by_cases ha:l.length≤64
 ·rw[AL (Ux (by omega)),Lr];refine L2 l _ ha (λacc x f hacc h0 hx hat=>?_) (λacc=>?_) hF
  ·show Er l acc x=_;unfold Er;rw[AT (UC hx),Br h0 hx,hat,JH]
   cases h4:decide (4000<f.length) with
   | true=>rfl
   | false=>
    simp only[Um] at h4;have e1:([IntKind.wrap .u8 (ES .i64 (f.length:Int) 8),IntKind.wrap .u8 (f.length:Int)]:List Int)++CO f=CO (KO f):=by
     rw[TR,Lr,Lr];simp[CO,KO]
    rw[AL rfl,IT (by simp;omega),IT (by simp;omega),AO (by omega) (by omega),UM,e1];rfl
  ·show Er l acc _=_;unfold Er;rw[AL (Ux (by omega))]
 ·rw[AT (UC (by omega))];unfold JA Sn;rw[Ux ha];rfl
theorem Pb {F:Nat}{l:List Ak}(hF:64<F):KB F l=some (JA l):=by
 unfold KB
 by_cases ha:l.length≤64
 ·rw[AL (Ux (by omega)),Lr];refine L2 l _ ha (λacc x f hacc h0 hx hat=>?_) (λacc=>?_) hF
  ·show DM l acc x=_;unfold DM;rw[AT (UC hx),Br h0 hx,hat,JH]
   cases h4:decide (4000<f.length) with
   | true=>rfl
   | false=>
    simp only[Um] at h4;have ed:Int.tdiv (f.length:Int) 256=((f.length/256:Nat):Int):=by rw[Int.tdiv_eq_ediv_of_nonneg (by omega)];rfl
    have em:Int.tmod (f.length:Int) 256=((f.length % 256:Nat):Int):=by rw[Int.tmod_eq_emod_of_nonneg (by omega)];rfl
    have e1:([IntKind.wrap .u8 (Int.tdiv (f.length:Int) 256),IntKind.wrap .u8 (Int.tmod (f.length:Int) 256)]:List Int)++CO f=CO (KO f):=by
     rw[ed,em,Lr,Lr];simp[CO,KO]
    rw[AL rfl,AO (by rw[ed];omega) (by rw[ed];omega),IT (by simp;omega),IT (by simp;omega),AO (by omega) (by omega),UM,e1];rfl
  ·show DM l acc _=_;unfold DM;rw[AL (Ux (by omega))]
 ·rw[AT (UC (by omega))];unfold JA Sn;rw[Ux ha];rfl
def pre:Ak→Ak→Option Ak
 | [],s=>some s
 | c::w,d::s=>bif decide (c=d) then pre w s else none
 | _::_,[]=>none
def Te (u S:Ak):Prop:=∃p,S=p++u
theorem Te.len {u S:Ak}(h:Te u S):u.length≤S.length:=by obtain⟨p,rfl⟩:=h;simp
theorem Te.tail {c:UInt8}{r S:Ak}(h:Te (c::r) S):Te r S:=by obtain⟨p,rfl⟩:=h;exact⟨p++[c],by simp⟩
theorem Te.drop {u S:Ak}(h:Te u S):S.drop (Int.toNat ((S.length:Int)-u.length))=u:=by
 obtain⟨p,rfl⟩:=h;rw[show Int.toNat (((p++u).length:Int)-u.length)=p.length from by rw[Uo];omega,List.drop_left]
def hd (m:Bool)(N:Int):Ac:=⟨bif m then 6 else 5,0,[],N⟩
def Ud (c:Ac):Bool:=bif decide (c.fKind=4) then decide (c.fInt=0)&&decide (c.fN=0) else pl c
def Fo.rw:Bool→Fo→Bool
 | _,.nil=>true
 | m,.cell k c r=>(k.isSome ==m)&&Ud c&&!decide (0<c.fN)&&r.rw m
 | m,.node k c kids r=>(k.isSome ==m)&&Ud c&&decide (0<c.fN)&&decide (c.fN=kids.cnt)&&kids.rw (decide (c.fKind=6))&&r.rw m
def Rc (K:Nat)(c:Ac):Prop:=c.fStr.length≤K∧B6 .i64 c.fInt=true∧c.fN≤(K:Int)
theorem Rc.mono {K K':Nat}{c:Ac}(h:Rc K c)(hk:K≤K'):Rc K' c:=⟨by have:=h.1;omega,h.2.1,by have:=h.2.2;omega⟩
open Go Go.RowKit
section
variable {M : Nat} {v : List Ac}
theorem N6 (hA:HL M v)(hM:M≤1000000){F:Nat}(hF:4*M+8<F):IA F v=some (NG v):=by
 have hvM:=hA.hv;unfold IA NG;rw[L0 hA hM (by omega),AV rfl];unfold Lo
 cases hwh:whole v with
 | none=>rfl
 | some f=>
  change B1 (!decide (Io f=0)) _ _=some (bif decide (Io f=0) then(f.txt true,0) else([],Io f))
  cases he:decide (Io f=0) with
  | false=>rw[AT (p:=!false) rfl];rfl
  | true=>
   obtain⟨h1,h2,h3⟩:=Id hwh;have hl:v.length=f.flat.length:=by rw[h1]
   have hc:∀c∈f.flat,c.fStr.length≤M∧B6 .i64 c.fInt=true∧c.fN≤9223372036854775807:=λc hc=>hA.hc c (by rw[h1];exact hc);have hb:=HK hM h2 (by omega) hc;have htl:((f.txt true).length:Int)=f.byt:=by rw[EU f false none true h2,Kb h3];simp
   have hd0:v.drop (0:Int).toNat=f.flat++[]:=by rw[UY];exact h1
   rw[AL (p:=!true) rfl,M4 hA (UE 0) h3 h2 hd0 (by omega) (by omega),AV rfl];rfl
end
structure S0 (M:Nat) (e:AA):Prop where
 hb:HL M e.fBody
 h1:e.fID.length≤1000000
 h2:e.fTenant.length≤1000000
 h3:e.fSource.length≤1000000
 h4:e.fKey.length≤1000000
 h5:e.fCause.length≤1000000
 h6 : -9223372036854775808≤e.fAt∧e.fAt≤9223372036854775807
def LS (s:Ak):Bool:=decide (s=[])||Cs s
def LW (e:AA):Bool:=Cs e.fID&&(Cs e.fTenant&&(Cs e.fSource&&(LS e.fKey&&LS e.fCause)))
def JP (e:AA):Int:=bif !LW e then 4 else bif decide (e.fAt<0)||decide (1073741824<e.fAt) then 2 else Lo e.fBody
theorem LA {M:Nat}{e:AA}(hA:S0 M e)(hM:M≤4000):BA 400000 e=some (JP e):=by
 unfold BA JP;rw[Lt hA.hb (by omega) (by omega)];have key:((!(Cs e.fID))||((!(Cs e.fTenant))||((!(Cs e.fSource))||(bif !decide (e.fKey=([]:Ak)) then((!(Cs e.fKey))||((!decide (e.fCause=([]:Ak)))&&(!(Cs e.fCause)))) else((!decide (e.fCause=([]:Ak)))&&(!(Cs e.fCause))))))) = !LW e:=by
  unfold LW LS
  cases Cs e.fID<;>cases Cs e.fTenant<;>cases Cs e.fSource<;>cases decide (e.fKey=[])<;>cases Cs e.fKey<;>cases decide (e.fCause=[])<;>cases Cs e.fCause<;>rfl
 rw[key]
 cases LW e with
 | false=>rfl
 | true=>
  rw[AL (p:=!true) rfl]
  cases(decide (e.fAt<0)||decide (1073741824<e.fAt))<;>rfl
theorem I7 {s:Ak}(h:s.length≤1000000):BQ s=some (LS s):=by
 unfold BQ LS;rw[Cd];unfold imp;rw[show D1 1 s.length=true from UC (by omega)]
 cases decide (s=[])<;>rfl
theorem HY (a:Bool){b:Bool}(h:b=true):imp a b=true:=by subst h;exact QE a
theorem TX {n:Nat}(h:n≤1000000):D1 1 n=true:=UC (by omega)
theorem KA {M:Nat}{e:AA}(hA:S0 M e)(hM:M≤4000):Bz 400000 e=some (JP e):=by
 unfold Bz JP;rw[L0 hA.hb (by omega) (by omega),I7 hA.h4,I7 hA.h5];simp only[Option.isSome_some];rw[Cd (TX hA.h1),Cd (HY _ (TX hA.h2)),Cd (HY _ (HY _ (TX hA.h3))),Cd (HY _ (HY _ (HY _ rfl))),Cd (HY _ (HY _ (HY _ (HY _ rfl))))];have key:((!(Cs e.fID))||((!(Cs e.fTenant))||((!(Cs e.fSource))||((!(ov (some (LS e.fKey))))||(!(ov (some (LS e.fCause)))))))) = !LW e:=by
  unfold LW;rw[Ka,Ka]
  cases Cs e.fID<;>cases Cs e.fTenant<;>cases Cs e.fSource<;>cases LS e.fKey<;>cases LS e.fCause<;>rfl
 rw[key]
 cases LW e with
 | false=>rfl
 | true=>
  rw[AL (p:=!true) rfl]
  cases(decide (e.fAt<0)||decide (1073741824<e.fAt))<;>rfl
theorem QQ (v:List Ac):(NG v).2=Lo v:=by
 unfold NG Lo
 cases whole v with
 | none=>rfl
 | some f=>
  simp only
  cases h:decide (Io f=0) with
  | true=>rw[Va h];rfl
  | false=>rfl
def Kf (e:AA):List Ak:=[e.fID,e.fTenant,e.fSource,e.fKey,Lib.itoa e.fAt,e.fCause,(NG e.fBody).1]
def KP (e:AA):Ak×Int:=bif decide (JP e=0) then JA (Kf e) else([],JP e)
theorem L8 {e:AA}(h:JP e=0):LW e=true∧0≤e.fAt∧e.fAt≤1073741824∧Lo e.fBody=0:=by
 unfold JP at h
 cases h1:LW e with
 | false=>rw[h1] at h;cases h
 | true=>
  rw[h1] at h
  cases h2:(decide (e.fAt<0)||decide (1073741824<e.fAt)) with
  | true=>rw[h2] at h;cases h
  | false=>
   rw[h2] at h;simp only[UO,Um] at h2;exact⟨rfl,by omega,by omega,h⟩
theorem KR {M:Nat}{e:AA}(hA:S0 M e)(hM:M≤4000):GV 400000 e=some (KP e):=by
 unfold GV KP;rw[LA hA hM,AV rfl]
 cases h:decide (JP e=0) with
 | false=>rfl
 | true=>
  obtain⟨_,h1,h2,h3⟩:=L8 (Va h);rw[AL (p:=!true) rfl,Nx hA.hb (by omega) (by omega),AV rfl,QQ,h3,AL (by decide),AO (by omega) (by omega),QO (by decide),AV rfl];rfl
theorem J9 {M:Nat}{e:AA}(hA:S0 M e)(hM:M≤4000):Gw 400000 e=some (KP e):=by
 unfold Gw KP;rw[KA hA hM,AV rfl]
 cases h:decide (JP e=0) with
 | false=>rfl
 | true=>
  obtain⟨_,h1,h2,h3⟩:=L8 (Va h);rw[AL (p:=!true) rfl,N6 hA.hb (by omega) (by omega),AV rfl,AO (by omega) (by omega),Pb (by decide),AV rfl];rfl
theorem NF:DY 400000=some true:=by decide +kernel
def K5 (v:List Ac):Bool:=!decide (250<v.length)&&v.all λc=>!decide (250<c.fStr.length)
theorem Px {F:Nat}{v:List Ac}(hF:250<F):KN F v=some (K5 v):=by
 unfold KN K5;have a1:decide ((250:Int)<(v.length:Int))=decide (250<v.length):=by rw[UI];simp;omega
 rw[a1]
 cases hl:decide (250<v.length) with
 | true=>rfl
 | false=>
  simp only[Um] at hl;rw[AL rfl];obtain⟨o,h1,h2⟩:=EW (body:=λσ=>DR v σ) (λx=>0≤x∧x≤(v.length:Int)∧(v.take x.toNat).all (λc=>!decide (250<c.fStr.length))=true) (λx=>v.length-x.toNat)
   (λo=>BY (λ_=>G4) o=some (v.all λc=>!decide (250<c.fStr.length))) (λx ⟨h0,hlx,ha⟩=>by
    by_cases hx:x<(v.length:Int)
    ·obtain⟨c,hc⟩:∃c,v[x.toNat]? =some c:=⟨v[x.toNat]'(by omega),Us (by omega)⟩
     have hat:At v x=c:=by simp[At,hc]
     have a2:decide ((250:Int)<(c.fStr.length:Int))=decide (250<c.fStr.length):=by rw[UI];simp;omega
     have hb:DR v x=B1 (decide (250<c.fStr.length)) (some (.out (.ret false))) (some (.next (x+1))):=by
      unfold DR;rw[AT (UC hx),Br h0 hx,hat,a2,AO (by omega) (by omega)]
     cases hq:decide (250<c.fStr.length) with
     | true=>
      refine .inr ⟨.ret false,hb.trans (AT hq),?_⟩;have:v.all (λc=>!decide (250<c.fStr.length))=false:=IV hc (by simp only[hq];rfl);rw[KD,this]
     | false=>
      have a3:(v.take (x+1).toNat).all (λc=>!decide (250<c.fStr.length))=true:=by
       rw[show(x+1).toNat=x.toNat+1 from by omega,HR hc,ha];simp only[hq];rfl
      exact .inl ⟨x+1,hb.trans (AL hq),⟨by omega,by omega,a3⟩,by omega⟩
    ·refine .inr ⟨.go (),by unfold DR;rw[AL (Ux hx)],?_⟩;rw[show x.toNat=v.length from by omega,Vb] at ha;rw[DG,ha];rfl) F 0 ⟨UE 0,by omega,by simp⟩ (by show v.length-0<F;omega)
  rw[AV h1,h2];rfl
def N2 (e:AA):Bool:=!(decide (100<e.fID.length)||(decide (100<e.fTenant.length)||(decide (100<e.fSource.length)||(decide (100<e.fKey.length)||decide (100<e.fCause.length)))))
def K4 (e:AA):Bool:=N2 e&&K5 e.fBody
theorem KU (f:Ak):decide ((100:Int)<(f.length:Int))=decide (100<f.length):=by rw[UI];simp;omega
theorem NE {F:Nat}{e:AA}(hF:250<F):IQ F e=some (K4 e):=by
 unfold IQ K4;rw[Px hF,KU,KU,KU,KU,KU];unfold N2
 cases(decide (100<e.fID.length)||(decide (100<e.fTenant.length)||(decide (100<e.fSource.length)||(decide (100<e.fKey.length)||decide (100<e.fCause.length)))))<;>rfl
theorem HL.ofB {v:List Ac}(hs:K5 v=true)(hc:v.all KE=true):HL 250 v:=by
 unfold K5 at hs;simp only[Uq,U5,Um,UP] at hs hc;refine⟨by decide,by omega,λc h=>?_⟩;obtain h1:=hs.2 c h;obtain h2:=hc c h;unfold KE at h2;simp only[Uq] at h2;exact⟨by omega,h2.1.1.2,(DX h2.2).2⟩
def SE (y:AA):Bool:=Og y.fID&&Og y.fTenant&&Og y.fSource&&Og y.fKey&&(B6 .i64) y.fAt&&Og y.fCause&&(λys:(List Ac)=>ys.all KE&&decide (ys.length≤9223372036854775807)) y.fBody
theorem S0.of {e:AA}(hs:K4 e=true)(ho:SE e=true):S0 250 e:=by
 unfold K4 N2 at hs;unfold SE at ho;simp only[Uq,U5,UO,Um] at hs ho;obtain⟨⟨a1,a2,a3,a4,a5⟩,a6⟩:=hs;exact⟨HL.ofB a6 ho.2.1,by omega,by omega,by omega,by omega,by omega,DX ho.1.1.2⟩
section
variable {M : Nat} {e : AA} {n : Int} {source : Ak} {body : List Ac} {at_ : Int}
end
theorem Pd {l:List Ak}(h:Sn l=true):(MD l).length≤300000:=by
 unfold Sn at h;simp only[Uq,Un] at h;have key:∀l:List Ak,(l.all λf=>decide (f.length≤4000))=true→(l.flatMap KO).length≤l.length*4002:=by
  intro l
  induction l with
  | nil=>intro _;simp
  | cons f l ih=>
   intro h;simp only[List.all_cons,Uq,Un] at h;have:=ih (by simpa using h.2);rw[List.flatMap_cons,Uo,Uw,Nat.succ_mul];simp only[KO,Uw];omega
 have h1:=key l h.2;have h2:l.length*4002≤64*4002:=Nat.mul_le_mul_right _ h.1;unfold MD;rw[Uw];omega
theorem Sb {e:AA}(h:(KP e).2=0):JP e=0∧Sn (Kf e)=true∧KP e=(MD (Kf e),0):=by
 unfold KP at h ⊢
 cases h1:decide (JP e=0) with
 | false=>rw[h1] at h;exact absurd h (of_decide_eq_false h1)
 | true=>
  rw[h1] at h;simp only[Uz] at h ⊢;unfold JA at h ⊢
  cases h2:Sn (Kf e) with
  | false=>rw[h2] at h;cases h
  | true=>exact⟨Va h1,rfl,rfl⟩
def dg (d:Nat):UInt8:=if d<10 then UInt8.ofNat (48+d) else UInt8.ofNat (87+d)
def hx:Nat→Nat→Ak
 | 0,_=>[]
 | j+1,n=>dg (n/16 ^ j % 16)::hx j n
theorem LX (n:Nat):∀j,(hx j n).length=j
 | 0=>rfl
 | j+1=>by simp[hx,LX n j]
theorem QF {n j:Nat}(h:n<16 ^ j):∀m,hx (j+m) n=List.replicate m 48++hx j n
 | 0=>rfl
 | m+1=>by
  have h0:n/16 ^ (j+m)=0:=Nat.div_eq_of_lt (Nat.lt_of_lt_of_le h (Nat.pow_le_pow_right (by omega) (by omega)));show dg (n/16 ^ (j+m) % 16)::hx (j+m) n=_;rw[h0,QF h m];rfl
theorem Sl:∀m,Lib.repeatL ([48]:Ak) m=List.replicate m 48
 | 0=>rfl
 | m+1=>by rw[List.replicate_succ,← Sl m];rfl
theorem Sw {m:Nat}(h:m<18446744073709551616):Ej .u64 (m:Int) 15=((m % 16:Nat):Int):=by
 have e:(BitVec.ofInt 64 (m:Int)&&& BitVec.ofInt 64 15).toNat=m % 16:=by
  rw[BitVec.toNat_and,BitVec.ofInt_natCast,BitVec.toNat_ofNat,Nat.mod_eq_of_lt h];exact Nat.and_two_pow_sub_one_eq_mod m 4
 have:Ej .u64 (m:Int) 15=IntKind.wrap .u64 ((BitVec.ofInt 64 (m:Int)&&& BitVec.ofInt 64 15).toNat:Int):=rfl;rw[this,e,IntKind.wrap_u64];omega
theorem Tq (m:Nat):ES .u64 (m:Int) 4=((m/16:Nat):Int):=by
 show(m:Int).fdiv (2 ^ 4)=_;rw[Int.fdiv_eq_ediv_of_nonneg _ (by omega)];omega
theorem TB:IntKind.wrap .u64 ((Lib.ctz 64 (Int.toNat 16):Nat):Int)=4:=by decide +kernel
abbrev TA:Ak:=[48,49,50,51,52,53,54,55,56,57,97,98,99,100,101,102,103,104,105,106,107,108,109,110,111,112,113,114,115,116,117,118,119,120,121,122]
abbrev TZ:Ak:=[48,49,50,51,52,53,54,55,56,57,97,98,99,100,101,102]
theorem Re:∀d:Nat,d<16→AY TA (d:Int)=((dg d).toNat:Int):=by decide
theorem Tb:∀d:Nat,d<16→List.take (Int.toNat (IntKind.wrap .u64 ((d:Int)+1))-Int.toNat (d:Int)) (List.drop (Int.toNat (d:Int)) TZ)=[dg d]:=by decide
theorem Rt:∀d:Nat,d<16→IntKind.wrap .u64 ((d:Int)+1)=(d:Int)+1:=by decide
theorem PO (x:Int):0≤IntKind.wrap .u64 x∧IntKind.wrap .u64 x<18446744073709551616:=by
 rw[IntKind.wrap_u64];omega
theorem Pn {s:Ak}(hs:s.length≤1000000):∀(k n:Nat) (x i:Int),0≤i→i+k=s.length→k<n→0≤x→x<18446744073709551616→∃v,Cn (λσ:Int×Int=>E1 s σ.1 σ.2) n (x,i)=some (.go v)∧0≤v∧v<18446744073709551616:=by
 intro k
 induction k with
 | zero=>
  intro n x i h0 h hn hx hx';obtain⟨n,rfl⟩:∃m,n=m+1:=⟨n-1,by omega⟩
  have hb:E1 s x i=some (.out (.go x)):=by unfold E1;rw[AL (Ux (by omega))]
  refine⟨x,?_,hx,hx'⟩;rw[Cn,hb]
 | succ k ih=>
  intro n x i h0 h hn hx hx';obtain⟨n,rfl⟩:∃m,n=m+1:=⟨n-1,by omega⟩
  have hb:∃y,E1 s x i=some (.next (y,i+1))∧0≤y∧y<18446744073709551616:=by
   unfold E1;rw[AT (UC (by omega)),Br h0 (by omega),AO (by omega) (by omega)];exact⟨_,rfl,(PO _).1,(PO _).2⟩
  obtain⟨y,hb,h1,h2⟩:=hb;obtain⟨v,h3,h4⟩:=ih n y (i+1) (by omega) (by omega) (by omega) h1 h2;exact⟨v,by rw[Cn,hb];exact h3,h4⟩
theorem Pm {F:Nat}{s:Ak}(hs:s.length≤1000000)(hF:s.length<F):∃n:Nat,n<18446744073709551616∧Po F s=some (n:Int):=by
 obtain⟨v,h1,h2,h3⟩:=Pn hs s.length F 14695981039346656037 0 (by omega) (by omega) hF (by omega) (by omega);refine⟨v.toNat,by omega,?_⟩;unfold Po;rw[h1,AV rfl,DG,Int.toNat_of_nonneg h2];rfl
theorem RR:Po=Ob:=rfl
theorem O1 (n j:Nat):n/16 ^ j/16=n/16 ^ (j+1):=by rw[Nat.div_div_eq_div_mul,← Nat.pow_succ]
theorem Q6 (n j:Nat):n/16 ^ j≤n:=Nat.div_le_self _ _
theorem N8 {n:Nat}(hn:n<18446744073709551616):∀(k m j:Nat),j+k=16→k<m→Cn (λσ:Int×Ak×Int=>D8 σ.1 σ.2.1 σ.2.2) m (((n/16 ^ j:Nat):Int),hx j n,(j:Int))=some (.go (hx 16 n)):=by
 intro k
 induction k with
 | zero=>
  intro m j h hm;obtain⟨m,rfl⟩:∃q,m=q+1:=⟨m-1,by omega⟩
  obtain rfl:j=16:=by omega
  have hb:D8 ((n/16 ^ 16:Nat):Int) (hx 16 n) ((16:Nat):Int)=some (.out (.go (hx 16 n))):=by
   unfold D8;rw[AL (Ux (by omega))]
  rw[Cn];simp only[hb]
 | succ k ih=>
  intro m j h hm;obtain⟨m,rfl⟩:∃q,m=q+1:=⟨m-1,by omega⟩
  have hl:=Q6 n j;have hd:n/16 ^ j % 16<16:=Nat.mod_lt _ (by omega);have hb:D8 ((n/16 ^ j:Nat):Int) (hx j n) (j:Int)=some (.next (((n/16 ^ (j+1):Nat):Int),hx (j+1) n,((j+1:Nat):Int))):=by
   unfold D8;rw[Sw (by omega),Tb _ hd,Rt _ hd,AT (UC (by omega)),Dh (by omega) (by omega),Dh (by omega) (by show _≤(16:Int);omega),AO (by rw[LX];simp only[UH];omega) (by rw[LX];simp only[UH];omega),AO (by omega) (by omega),Tq,O1];rfl
  rw[Cn];simp only[hb];exact ih m (j+1) (by omega) (by omega)
theorem Ql {F n:Nat}(hn:n<18446744073709551616)(hF:16<F):M9 F (n:Int)=some (hx 16 n):=by
 have h:=N8 hn 16 F 0 (by omega) hF;have e:n/16 ^ 0=n:=by simp
 rw[e] at h;unfold M9;have h':Cn (λσ:Int×Ak×Int=>D8 σ.1 σ.2.1 σ.2.2) F ((n:Int),([]:Ak),0)=some (.go (hx 16 n)):=h;rw[h',AV rfl,DG];rfl
theorem drop_set {l:List Int}{i:Nat}{x:Int}(h:i<l.length):(l.set i x).drop i=x::l.drop (i+1):=by
 rw[List.drop_set,UV (by omega),Nat.sub_self];rw[List.drop_eq_getElem_cons h];rfl
theorem QM {n:Nat}(hn:n<18446744073709551616):∀(k m j:Nat) (a:List Int),j+k=15→k<m→a.length=65→a.drop (65-j)=CO (hx j n)→
  ∃ (J:Nat) (b:List Int),Cn (λσ:Int×Int×List Int=>Cr σ.1 σ.2.1 σ.2.2) m (((n/16 ^ j:Nat):Int),(65-j:Int),a)=some (.go (((n/16 ^ J:Nat):Int),(65-J:Int),b))∧J≤15∧n/16 ^ J<16∧b.length=65∧b.drop (65-J)=CO (hx J n):=by
 intro k
 induction k with
 | zero=>
  intro m j a h hm ha hd;obtain⟨m,rfl⟩:∃q,m=q+1:=⟨m-1,by omega⟩
  obtain rfl:j=15:=by omega
  have hlt:n/16 ^ 15<16:=by rw[Nat.div_lt_iff_lt_mul (by decide)];exact hn
  have hb:Cr ((n/16 ^ 15:Nat):Int) (65-(15:Nat):Int) a=some (.out (.go (((n/16 ^ 15:Nat):Int),(65-(15:Nat):Int),a))):=by
   unfold Cr;rw[AL (Ux (by omega))]
  refine⟨15,a,?_,by omega,hlt,ha,hd⟩;rw[Cn];simp only[hb]
 | succ k ih=>
  intro m j a h hm ha hd;obtain⟨m,rfl⟩:∃q,m=q+1:=⟨m-1,by omega⟩
  by_cases hlt:n/16 ^ j<16
  ·have hb:Cr ((n/16 ^ j:Nat):Int) (65-(j:Nat):Int) a=some (.out (.go (((n/16 ^ j:Nat):Int),(65-(j:Nat):Int),a))):=by
    unfold Cr;rw[AL (Ux (by omega))]
   refine⟨j,a,?_,by omega,hlt,ha,hd⟩;rw[Cn];simp only[hb]
  ·have hl:=Q6 n j;have hmd:n/16 ^ j % 16<16:=Nat.mod_lt _ (by omega);have hi:(65-(j:Int)-1).toNat=64-j:=by omega
   have hb:Cr ((n/16 ^ j:Nat):Int) (65-(j:Nat):Int) a=some (.next (((n/16 ^ (j+1):Nat):Int),(65-((j+1:Nat):Int)),a.set (64-j) ((dg (n/16 ^ j % 16)).toNat:Int))):=by
    unfold Cr;rw[Sw (by omega),Re _ hmd,TB,AT (UC (by omega)),AO (by omega) (by omega),Br (by omega) (by show _<(36:Int);omega),Br (by omega) (by omega),Br (by omega) (by omega),Cd (by decide),Tq,O1,hi];rw[show(65-(j:Int)-1)=65-((j+1:Nat):Int) from by omega]
   have h2:=ih m (j+1) (a.set (64-j) ((dg (n/16 ^ j % 16)).toNat:Int)) (by omega) (by omega) (by simpa using ha) (by
    rw[show 65-(j+1)=64-j from by omega,drop_set (by omega),show 64-j+1=65-j from by omega,hd];rfl)
   obtain⟨J,b,h3,h4⟩:=h2;refine⟨J,b,?_,h4⟩;rw[Cn];simp only[hb];exact h3
theorem ND {F n:Nat}(hn:n<18446744073709551616)(hF:16<F):∃K,1≤K∧K≤16∧n<16 ^ K∧IN F (n:Int)=some ([],hx K n):=by
 obtain⟨J,b,h1,h2,h3,h4,h5⟩:=QM hn 15 F 0 (List.replicate 65 0) (by omega) (by omega) (by simp) (by simp[hx,CO]);have e:n/16 ^ 0=n:=by simp
 rw[e] at h1;refine⟨J+1,by omega,by omega,by rw[Nat.pow_succ,Nat.mul_comm];exact(Nat.div_lt_iff_lt_mul (Nat.pow_pos (by omega))).1 h3,?_⟩;unfold IN;have h1':Cn (λσ:Int×Int×List Int=>Cr σ.1 σ.2.1 σ.2.2) F ((n:Int),65,List.replicate 65 (0:Int))=some (.go (((n/16 ^ J:Nat):Int),(65-J:Int),b)):=h1;have hi:(65-(J:Int)-1).toNat=64-J:=by omega
 rw[AV (b:=true) (by decide),Cd rfl,Cd (by decide),h1',AV rfl,DG];unfold EK;simp only[];have h0:(0:Int)≤((n/16 ^ J:Nat):Int):=Int.natCast_nonneg _;have ha:((n/16 ^ J:Nat):Int)<(TA.length:Int):=Int.ofNat_lt.2 (Nat.lt_of_lt_of_le h3 (by decide));rw[Re _ h3,hi,AO (by omega) (by omega),Br h0 ha,Br (by omega) (by omega),Br (by omega) (by omega),Dh (by omega) (by omega),Cd (by simpa using h4),drop_set (by omega),show 64-J+1=65-J from by omega,h5];have e2:((dg (n/16 ^ J)).toNat:Int)::CO (hx J n)=CO (hx (J+1) n):=by
  have:n/16 ^ J % 16=n/16 ^ J:=Nat.mod_eq_of_lt h3;simp only[hx,CO,Vh,this]
 rw[e2,Oh]
theorem RS {F n:Nat}(hn:n<18446744073709551616)(hF:16<F):QG F (n:Int)=some (hx 16 n):=by
 obtain⟨K,h1,h2,h3,h4⟩:=ND hn hF;unfold QG Ke Oy;rw[h4,AV rfl,AV rfl,AV rfl,LX,AO (by omega) (by omega),Br (by omega) (by omega),Cd (by decide),show(16-(K:Int)).toNat=16-K from by omega,Sl,List.length_replicate,AO (by omega) (by omega)];have h5:=QF h3 (16-K);rw[show K+(16-K)=16 from by omega] at h5;rw[h5]
theorem QR (e:AA)(h:(KP e).2=0):(KP e).1.length≤300000:=by
 obtain⟨_,h2,h3⟩:=Sb h;rw[h3];exact Pd h2
theorem P1 {M:Nat}{e:AA}(hA:S0 M e)(hM:M≤4000):∃r,IS 400000 e=some r∧Hw 400000 e=some r:=by
 unfold IS Hw;rw[KR hA hM,J9 hA hM,AV rfl,AV rfl]
 by_cases h:(KP e).2=0
 ·have hl:=QR e h;obtain⟨n,hn,h1⟩:=Pm (F:=400000) (s:=(KP e).1) (by omega) (by omega);rw[AL (by simp[h]),AL (by simp[h]),← RR,h1,AV rfl,AV rfl,RS hn (by omega),Ql hn (by omega),AV rfl];exact⟨_,rfl,rfl⟩
 ·rw[AT (by simp[h]),AT (by simp[h])];exact⟨_,rfl,rfl⟩
end Go.Proofs.YtailcjmjkmjelaaGreatDoor
namespace Go.Proofs.YtailcjmjkmjelaaGreatDoor
open Go
set_option linter.unusedVariables false
set_option linter.unusedSimpArgs false
theorem Lk {e:AA}(he:SE e=true):G2 400000 e=some true:=by
 unfold G2;rw[NF,NE (by decide),AV rfl]
 cases h1:K4 e with
 | false=>rw[AT (p:=!false) rfl,AV rfl]
 | true=>
  have hA:=S0.of h1 he;obtain⟨r,h2,h3⟩:=P1 hA (by omega);rw[AL (p:=!true) rfl,KR hA (by omega),AV rfl,J9 hA (by omega),AV rfl,h2,AV rfl,h3,AV rfl,LA hA (by omega),KA hA (by omega)];simp only[Option.isSome_some,QE,Cd,Ka,decide_true,beq_self_eq_true,Bool.and_self]
end Go.Proofs.YtailcjmjkmjelaaGreatDoor
namespace Go.Proofs.YtailcjmjkmjelaaGreatDoor.lawEventChecks
open Go
set_option linter.unusedVariables false
theorem Ug:Uk:=λe h=>⟨400000,Lk h⟩
end Go.Proofs.YtailcjmjkmjelaaGreatDoor.lawEventChecks
