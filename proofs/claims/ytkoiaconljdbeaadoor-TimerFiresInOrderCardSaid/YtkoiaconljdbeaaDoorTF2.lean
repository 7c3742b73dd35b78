/-
  Texts of the proof, put together: WVb, PVc, WVc, PVd, WVd, PVe, WVe, PVf, WVf, PM, PS, PN, PSo, PTa, QU, QT, QN, QM, QI, QW, QV, PH, QJ, QX, QL, WTa, QK, PTb, QP, SoC, SoT, SoL, SoQ, keys29, collect28, QCo.
-/
import Derived.Test.YtkoiaconljdbeaaDoorTF1
import Derived.Laws.StructEq
import Derived.Laws.Cover3
import Derived.MapKept
import Derived.Maps.RangeRun
import GoSem.Op.IntBits
import GoSem.Op.Shift
import Derived.ScopeJumps
import Derived.Laws.CopyRow
import Derived.Laws.IdiomCopy
import Derived.Laws.OwnMore
import Derived.Sort.KeysCollected
import Derived.Shelf.SlSortCmp.NoneTotal
import Derived.Test.YtkoiaconljdbeaaDoorProg
import Derived.Tactics
import Derived.Lib.Small
import Derived.Lib.Walk
import Derived.Sort.Grow
import Derived.Deep.QuietTactic
import Derived.BigQuiet
import Derived.LoopN
import Derived.StillTailTactics
import Derived.Shelf.SlLaysZ
import Derived.Shelf.SlIter.Collect
namespace Go.Proofs.YtkoiaconljdbeaaDoor.Q
open Go Go.RowKit
set_option linter.unusedVariables false
set_option linter.unusedSimpArgs false
set_option maxRecDepth 100000
set_option maxHeartbeats 4000000
@[reducible] def Ae (x:Ad):List Rp:=[rI .i64 x.fKind,rI .i64 x.fInt,rS x.fStr,rI .i64 x.fN]
theorem CY (x:Ad):(Ae x).length=4:=rfl
theorem Ir (x:Ad):(Ae x).all (·.one)=true:=rfl
@[reducible] def Ao (x:Ap):List Rp:=[rB x.fPairs,rI .i64 x.fLeft,rB x.fKey,rS x.fLast,rB x.fStarted]
theorem Ef (x:Ap):(Ao x).length=5:=rfl
theorem Hg (x:Ap):(Ao x).all (·.one)=true:=rfl
@[reducible] def A5 (x:At):List Rp:=[rI .i64 x.fDepth,rI .i64 x.fBytes,rB x.fOutside,rB x.fLong]
theorem Oa:∃inf,Tryd.prog.info? 107=some inf∧inf.zero=some (.agg #[(.bool false),(.int .i64 0),(.bool false),(.string ⟨#[]⟩),(.bool false)])∧inf.size=5∧inf.bytes=48:=by
  have key:(Tryd.prog.info? 107).map (λi=>(i.zero,i.size,i.bytes))=some (some (.agg #[(.bool false),(.int .i64 0),(.bool false),(.string ⟨#[]⟩),(.bool false)]),5,48):=by kernel_rfl
  obtain⟨inf,h1,h2⟩:=Option.map_eq_some_iff.1 key;simp only[Prod.mk.injEq] at h2;exact⟨inf,h1,h2.1,h2.2.1,h2.2.2⟩
theorem Np (parts:List (Nat×Value)):Tryd.prog.built 107 parts=Instr.fill (λi=>(#[(0,1),(1,1),(2,1),(3,1),(4,1)]:Array (Nat×Nat))[i]?) #[(.bool false),(.int .i64 0),(.bool false),(.string ⟨#[]⟩),(.bool false)] parts:=by kernel_rfl
theorem GF {n:Nat}{c:Cx}{l:Fr}{H:List Ent}{d:Option Nat}{ty:TypeId}{pos:String}{af:Array Edge}{g:Option (Nat×Bool)}{x0:Operand}{r0:Rp}(h0:ev l x0=some r0)(u0:r0.one=true){x1:Operand}{r1:Rp}(h1:ev l x1=some r1)(u1:r1.one=true){x2:Operand}{r2:Rp}(h2:ev l x2=some r2)(u2:r2.one=true):AS Tryd.prog n c l H { dst:=d,op:=.build 107 #[(0,x0),(1,x1),(2,x2)],type:=ty,pos:=pos,after:=af,guard:=g } (Bh [r0,r1,r2,rS ([]:Ai),rB false]):=λa w Z ha _=>by
  have p0:=ha.ev h0;have c0:=B0 (r0.hone u0 Z _ p0);have p1:=ha.ev h1;have c1:=B0 (r1.hone u1 Z _ p1);have p2:=ha.ev h2;have c2:=B0 (r2.hone u2 Z _ p2);have hb:Tryd.prog.built 107 [(0,a.eval x0),(1,a.eval x1),(2,a.eval x2)]=some #[a.eval x0,a.eval x1,a.eval x2,(.string ⟨#[]⟩),(.bool false)]:=by
    rw[Np];generalize a.eval x0=v0 at *;generalize a.eval x1=v1 at *;generalize a.eval x2=v2 at *;simp[Instr.fill,c0,c1,c2]
  refine⟨.agg #[a.eval x0,a.eval x1,a.eval x2,(.string ⟨#[]⟩),(.bool false)],⟨[a.eval x0,a.eval x1,a.eval x2,(.string ⟨#[]⟩),(.bool false)],rfl,p0,p1,p2,rfl,rfl,trivial⟩,?_⟩;have:=run_build w 107 #[(0,a.eval x0),(1,a.eval x1),(2,a.eval x2)] _ (by simpa using hb);simp[execOp,this]
theorem MP (n:Int)(r:Bool)(h:AX n=some r):Fn Tryd.prog GE 68 [rI .i64 n] [] (λR H=>R=rB r∧H=[]):=by
 refine enter (n:=9) Tryd.func68 rfl Tryd.ntmps68 rfl (λw Z=>?_);refine Bj (l':=[(0,rI .i64 n)]) (H':=[]) rfl rfl ?_;unfold AX at h;refine As (wv (r:=rB false) (An rfl) (A2 (AI [(2,rB ((decide ((-1000000000000)≤n))&&(decide (n≤1000000000000))))] [] ?_ ?_)))
 ·refine Av (wm rfl (wv (EW rfl rfl) (wm rfl (AG (decide ((-1000000000000)≤n)) (λc1=>?_) (λc1=>?_)))))
  ·refine wo c1 (wm rfl (wo c1 (wv (EW rfl rfl) (Iu rfl c1 rfl (wa rfl (Au ?_))))));exact CD c1
  ·refine wf c1 (wf c1 (wv (r:=rB false) (Ay (b:=decide ((-1000000000000)≤n)) rfl c1 rfl) (wa rfl (Au ?_))));exact CD c1
 refine A4 ?_;obtain rfl:=A8 h;exact A3 (BF Tryd.results68 (AZ rfl)) sN ⟨rfl,rfl⟩
theorem N4 (F:Nat)(s:Ai)(r:Bool)(h:GT F s=some r):Fn Tryd.prog GE 71 [rS s] [] (λR H=>R=rB r∧H=[]):=by
 refine enter (n:=20) Tryd.func71 rfl Tryd.ntmps71 rfl (λw Z=>?_);refine Bj (l':=[(0,rS s)]) (H':=[]) rfl rfl ?_;unfold GT at h;refine As (wv (r:=rB false) (An rfl) (A2 (Ax (As (wm rfl (wv (BY Hb rfl) (wv (r:=rI .i64 0) (Aj rfl) (A2 (AN ?_)))))))));obtain⟨hl,hm,hi⟩:=AR h;refine BL (S:=Nat×(Int)×(Unit)) (V:=(Unit)×(Unit)) 0 (λσ=>Dq (λσ=>DG s σ) σ.1 σ.2.1=some hl) (λσ=>[(0,rS s),(5,rI .i64 (s.length:Int)),(6,rI .i64 σ.2.1)]) (λσ=>[]) (λσ=>σ.1) (F,0,()) hm (AM.c rfl (AM.c rfl (AM.c rfl AM.nil))) sN (λσ=>DF =some r) (λσ=>[]) (λσ=>[]) ?_ ?_
 ·rintro⟨hz,hb,⟨⟩⟩ hn;refine Bj (l':=[(0,rS s),(5,rI .i64 (s.length:Int)),(6,rI .i64 hb)]) (H':=[]) rfl rfl ?_;obtain⟨ho,rfl,t37,hd,hf⟩:=Ee hn;replace hd:DG s hb=some t37:=hd;unfold DG at hd;refine As (wv (Dw rfl rfl) (A2 (Ax (A6 (b:=decide (hb<(s.length:Int))) rfl (λhg=>?_) (λhg=>?_)))))
  ·have hp:=AO hg hd;refine AC (Bd (Ax (AN (As (wm rfl (wa rfl (A2 ?_)))))));obtain⟨hj,hk⟩:=AK hp;refine AI [(0,rS s),(5,rI .i64 (s.length:Int)),(6,rI .i64 hb),(18,rB ((decide ((Kd s hb)<32))||(decide (126<(Kd s hb)))))] [] ?_ ?_
   ·refine Av (wm rfl (wm rfl (wv (GD Hb rfl rfl hj) (wv (Dw rfl rfl) (wm rfl (AG (decide ((Kd s hb)<32)) (λha=>?_) (λha=>?_)))))))
    ·refine wf ha (wf ha (wf ha (wf ha (wv (r:=rB true) (Aq (b:=decide ((Kd s hb)<32)) rfl ha rfl) (Au ?_)))));exact CD ha
    ·refine wo ha (wm rfl (wo ha (wm rfl (wo ha (wv (GD Hb rfl rfl hj) (wo ha (wv (Dh rfl rfl) (He rfl ha rfl (Au ?_)))))))));exact CD ha
   refine A6 (b:=((decide ((Kd s hb)<32))||(decide (126<(Kd s hb))))) rfl (λhh=>?_) (λhh=>?_)
   ·have hq:=AO hh hk;refine As (wv (r:=rB false) (An rfl) (A2 (A4 (A9 (Al (Al (B1 ?_)))))));have hr:=Cw hq hf hi;refine A9 (Al ?_);obtain rfl:=A8 hr;exact A3 (BF Tryd.results71 (AZ rfl)) sN ⟨rfl,rfl⟩
   ·have hs:=AP hh hk;refine AC (AT (Bd (Av ?_)));obtain⟨ht,hu⟩:=AK hs;refine wv (Cc rfl rfl ht) (wm rfl (Au ?_));have hw:=BN hu hf;exact A0 (AQ (ho,hb+1,()) ⟨hw,QA _⟩ (AM.c rfl (AM.c rfl (AM.c rfl AM.nil))) sN)
  ·have hx:=AP hg hd;refine B6 (AA ?_);have hy:=Dc hx hf hi;exact AA (By (AQ ((),()) hy AM.nil sN))
 ·rintro⟨⟨⟩,⟨⟩⟩ he;refine DD (l':=[]) (H':=[]) rfl rfl ?_;replace he:DF =some r:=he;unfold DF at he;refine Bq (Bd (As (wv (r:=rB true) (An rfl) (A2 (A4 ?_)))));obtain rfl:=A8 he;exact A3 (BF Tryd.results71 (AZ rfl)) sN ⟨rfl,rfl⟩
theorem Iw (s:Ai)(r:Int)(h:E6 s=some r):Fn Tryd.prog GE 66 [rS s] [] (λR H=>R=rI .i64 r∧H=[]):=by
 refine enter (n:=12) Tryd.func66 rfl Tryd.ntmps66 rfl (λw Z=>?_);refine Bj (l':=[(0,rS s)]) (H':=[]) rfl rfl ?_;unfold E6 at h;refine As (wv (r:=rI .i64 0) (An rfl) (CF (wm rfl (wv (BY Hb rfl) ?_))));obtain⟨g1,h2⟩:=AK h;refine wv (Cc rfl rfl g1) (wm rfl (DT (rs:=[rS s,rS ([34]:Ai)]) (r:=rI .i64 (Lib.countByte s 34:Int)) Tryd.call72 rfl (Lg s 34) rfl rfl ?_));obtain⟨g3,h4⟩:=AK h2;refine wv (Cc rfl rfl g3) (wm rfl (DT (rs:=[rS s,rS ([92]:Ai)]) (r:=rI .i64 (Lib.countByte s 92:Int)) Tryd.call72 rfl (Lg s 92) rfl rfl ?_));obtain⟨g5,h6⟩:=AK h4;refine wv (Cc rfl rfl g5) (wa rfl (A2 (A4 ?_)));obtain rfl:=A8 h6;exact A3 (BF Tryd.results66 (AZ rfl)) sN ⟨rfl,rfl⟩
theorem Mr (F:Nat)(c:Ad)(r:Bool)(h:H7 F c=some r):Fn Tryd.prog GE 65 [Bh (Ae c)] [] (λR H=>R=rB r∧H=[]):=by
 refine enter (n:=81) Tryd.func65 rfl Tryd.ntmps65 rfl (λw Z=>?_);refine Bj (l':=[(0,Bh (Ae c))]) (H':=[]) rfl rfl ?_;unfold H7 at h;refine As (BM rfl rfl (λb1=>?_));refine wv (r:=rB false) (An rfl) (A2 (Ax (As (wv (Af BE rfl IJ rfl rfl) (wv (Az (i:=0) IK rfl rfl rfl) (A2 (AN (As (wv (B4 rfl rfl) (wa rfl (A2 (A6 (b:=decide (c.fKind=1)) rfl (λc2=>?_) (λc2=>?_)))))))))))))
 ·have h3:=AO c2 h;refine AI [(2,rB ((decide (c.fInt=0))&&((decide (c.fStr=([]:Ai)))&&(decide (c.fN=0)))))] [] ?_ ?_
  ·refine Av (wv (Af BE rfl Cu rfl rfl) (wv (Az (i:=0) CM rfl rfl rfl) (wv (B4 rfl rfl) (wm rfl (AG (decide (c.fInt=0)) (λc4=>?_) (λc4=>?_))))))
   ·refine wo c4 (wv (Af BE rfl DA rfl rfl) (wo c4 (wv (Az (i:=0) DR rfl rfl rfl) (wo c4 (wv (HQ rfl rfl) (Iu rfl c4 rfl (wm rfl (AG (decide (c.fStr=([]:Ai))) (λc5=>?_) (λc5=>?_)))))))))
    ·refine wo c5 (wv (Af BE rfl Cu rfl rfl) (wo c5 (wv (Az (i:=0) CM rfl rfl rfl) (wo c5 (wv (B4 rfl rfl) (Iu rfl c5 rfl (wa rfl (Au ?_))))))));exact CD (And.intro c4 c5)
    ·refine wf c5 (wf c5 (wf c5 (wv (r:=rB false) (Ay (b:=decide (c.fStr=([]:Ai))) rfl c5 rfl) (wa rfl (Au ?_)))));exact CD (And.intro c4 c5)
   ·refine wf c4 (wf c4 (wf c4 (wv (r:=rB false) (Ay (b:=decide (c.fInt=0)) rfl c4 rfl) (wm rfl (Am (b:=false) rfl rfl rfl rfl (Am (b:=false) rfl rfl rfl rfl (Am (b:=false) rfl rfl rfl rfl (wv (r:=rB false) (Ay (b:=false) rfl rfl rfl) (wa rfl (Au ?_))))))))));exact CD c4
  refine A4 (A9 (Al ?_));obtain rfl:=A8 h3;exact A3 (BF Kh (AZ rfl)) sN ⟨rfl,rfl⟩
 ·have h6:=AP c2 h;refine As (wv (B4 rfl rfl) (wa rfl (A2 (A6 (b:=decide (c.fKind=2)) rfl (λc7=>?_) (λc7=>?_)))))
  ·have h8:=AO c7 h6;refine AI [(2,rB (bif decide (c.fInt=0) then((decide (c.fStr=([]:Ai)))&&(decide (c.fN=0))) else((decide (c.fInt=1))&&((decide (c.fStr=([]:Ai)))&&(decide (c.fN=0))))))] [] ?_ ?_
   ·refine Av (wv (Af BE rfl Cu rfl rfl) (wv (Az (i:=0) CM rfl rfl rfl) (wv (B4 rfl rfl) (wm rfl (AG (decide (c.fInt=0)) (λc9=>?_) (λc9=>?_))))))
    ·refine wf c9 (wf c9 (wf c9 (wv (r:=rB true) (Aq (b:=decide (c.fInt=0)) rfl c9 rfl) (wm rfl (AF (b:=true) rfl rfl rfl (wv (Af BE rfl DA rfl rfl) (AF (b:=true) rfl rfl rfl (wv (Az (i:=0) DR rfl rfl rfl) (AF (b:=true) rfl rfl rfl (wv (HQ rfl rfl) (wv (r:=rB (decide (c.fStr=([]:Ai)))) (Aq (b:=true) rfl rfl rfl) (wm rfl (AG (decide (c.fStr=([]:Ai))) (λhg=>?_) (λhg=>?_))))))))))))))
     ·refine wo hg (wv (Af BE rfl Cu rfl rfl) (wo hg (wv (Az (i:=0) CM rfl rfl rfl) (wo hg (wv (B4 rfl rfl) (Iu rfl hg rfl (wa rfl (Au ?_))))))));exact CD (And.intro c9 hg)
     ·refine wf hg (wf hg (wf hg (wv (r:=rB false) (Ay (b:=decide (c.fStr=([]:Ai))) rfl hg rfl) (wa rfl (Au ?_)))));exact CD (And.intro c9 hg)
    ·refine wo c9 (wv (Af BE rfl Cu rfl rfl) (wo c9 (wv (Az (i:=0) CM rfl rfl rfl) (wo c9 (wv (B4 rfl rfl) (He rfl c9 rfl (wm rfl (AG (decide (c.fInt=1)) (λhb=>?_) (λhb=>?_)))))))))
     ·refine wo hb (wv (Af BE rfl DA rfl rfl) (wo hb (wv (Az (i:=0) DR rfl rfl rfl) (wo hb (wv (HQ rfl rfl) (Iu rfl hb rfl (wm rfl (AG (decide (c.fStr=([]:Ai))) (λhh=>?_) (λhh=>?_)))))))))
      ·refine wo hh (wv (Af BE rfl Cu rfl rfl) (wo hh (wv (Az (i:=0) CM rfl rfl rfl) (wo hh (wv (B4 rfl rfl) (Iu rfl hh rfl (wa rfl (Au ?_))))))));exact CD (And.intro c9 (And.intro hb hh))
      ·refine wf hh (wf hh (wf hh (wv (r:=rB false) (Ay (b:=decide (c.fStr=([]:Ai))) rfl hh rfl) (wa rfl (Au ?_)))));exact CD (And.intro c9 (And.intro hb hh))
     ·refine wf hb (wf hb (wf hb (wv (r:=rB false) (Ay (b:=decide (c.fInt=1)) rfl hb rfl) (wm rfl (Am (b:=false) rfl rfl rfl rfl (Am (b:=false) rfl rfl rfl rfl (Am (b:=false) rfl rfl rfl rfl (wv (r:=rB false) (Ay (b:=false) rfl rfl rfl) (wa rfl (Au ?_))))))))));exact CD (And.intro c9 hb)
   refine A4 (A9 (Al ?_));obtain rfl:=A8 h8;exact A3 (BF Kh (AZ rfl)) sN ⟨rfl,rfl⟩
  ·have hp:=AP c7 h6;refine As (wv (B4 rfl rfl) (wa rfl (A2 (A6 (b:=decide (c.fKind=3)) rfl (λhm=>?_) (λhm=>?_)))))
   ·have ht:=AO hm hp;refine AI [(2,rB ((decide (c.fStr=([]:Ai)))&&(decide (c.fN=0))))] [] ?_ ?_
    ·refine Av (wv (Af BE rfl DA rfl rfl) (wv (Az (i:=0) DR rfl rfl rfl) (wv (HQ rfl rfl) (wm rfl (AG (decide (c.fStr=([]:Ai))) (λhi=>?_) (λhi=>?_))))))
     ·refine wo hi (wv (Af BE rfl Cu rfl rfl) (wo hi (wv (Az (i:=0) CM rfl rfl rfl) (wo hi (wv (B4 rfl rfl) (Iu rfl hi rfl (wa rfl (Au ?_))))))));exact CD hi
     ·refine wf hi (wf hi (wf hi (wv (r:=rB false) (Ay (b:=decide (c.fStr=([]:Ai))) rfl hi rfl) (wa rfl (Au ?_)))));exact CD hi
    refine A4 (A9 (Al ?_));obtain rfl:=A8 ht;exact A3 (BF Kh (AZ rfl)) sN ⟨rfl,rfl⟩
   ·have hq:=AP hm hp;refine As (wv (B4 rfl rfl) (wa rfl (A2 (A6 (b:=decide (c.fKind=4)) rfl (λhn=>?_) (λhn=>?_)))))
    ·have hu:=AO hn hq;obtain⟨hw,hx⟩:=AK hu;refine AI [(2,rB ((decide (c.fInt=0))&&((decide (c.fN=0))&&(ov (GT F c.fStr)))))] [] ?_ ?_
     ·refine Av (wv (Af BE rfl Cu rfl rfl) (wv (Az (i:=0) CM rfl rfl rfl) (wv (B4 rfl rfl) (wm rfl (AG (decide (c.fInt=0)) (λha=>?_) (λha=>?_))))))
      ·refine wo ha (wv (Af BE rfl Cu rfl rfl) (wo ha (wv (Az (i:=0) CM rfl rfl rfl) (wo ha (wv (B4 rfl rfl) (Iu rfl ha rfl (wm rfl (AG (decide (c.fN=0)) (λhd=>?_) (λhd=>?_)))))))))
       ·refine wo hd (wv (Af BE rfl DA rfl rfl) (wo hd (wv (Az (i:=0) DR rfl rfl rfl) (wo hd (Ig Tryd.call71 (N4 F c.fStr (ov (GT F c.fStr)) (Iq (BP (BP hw ha) hd))) rfl (Iu rfl hd rfl (wa rfl (Au ?_))))))));exact CD (And.intro ha hd)
       ·refine wf hd (wf hd (wf hd (wv (r:=rB false) (Ay (b:=decide (c.fN=0)) rfl hd rfl) (wa rfl (Au ?_)))));exact CD (And.intro ha hd)
      ·refine wf ha (wf ha (wf ha (wv (r:=rB false) (Ay (b:=decide (c.fInt=0)) rfl ha rfl) (wm rfl (Am (b:=false) rfl rfl rfl rfl (Am (b:=false) rfl rfl rfl rfl (Am (b:=false) rfl rfl rfl rfl (wv (r:=rB false) (Ay (b:=false) rfl rfl rfl) (wa rfl (Au ?_))))))))));exact CD ha
     refine A4 (A9 (Al ?_));obtain rfl:=A8 hx;exact A3 (BF Kh (AZ rfl)) sN ⟨rfl,rfl⟩
    ·have hr:=AP hn hq;refine Ax (As (wv (B4 rfl rfl) (wa rfl (A2 (A6 (b:=decide (c.fKind=5)) rfl (λhl=>?_) (λhl=>?_))))))
     ·have hy:=AO hl hr;refine AC (Bd (DE rfl hl (AI [(2,rB ((decide (c.fInt=0))&&((decide (c.fStr=([]:Ai)))&&(decide (0≤c.fN)))))] [] ?_ ?_)))
      ·refine Av (wv (Af BE rfl Cu rfl rfl) (wv (Az (i:=0) CM rfl rfl rfl) (wv (B4 rfl rfl) (wm rfl (AG (decide (c.fInt=0)) (λhe=>?_) (λhe=>?_))))))
       ·refine wo he (wv (Af BE rfl DA rfl rfl) (wo he (wv (Az (i:=0) DR rfl rfl rfl) (wo he (wv (HQ rfl rfl) (Iu rfl he rfl (wm rfl (AG (decide (c.fStr=([]:Ai))) (λhj=>?_) (λhj=>?_)))))))))
        ·refine wo hj (wv (Af BE rfl Cu rfl rfl) (wo hj (wv (Az (i:=0) CM rfl rfl rfl) (wo hj (wv (HR rfl rfl) (Iu rfl hj rfl (wa rfl (Au ?_))))))));exact CD (And.intro he hj)
        ·refine wf hj (wf hj (wf hj (wv (r:=rB false) (Ay (b:=decide (c.fStr=([]:Ai))) rfl hj rfl) (wa rfl (Au ?_)))));exact CD (And.intro he hj)
       ·refine wf he (wf he (wf he (wv (r:=rB false) (Ay (b:=decide (c.fInt=0)) rfl he rfl) (wm rfl (Am (b:=false) rfl rfl rfl rfl (Am (b:=false) rfl rfl rfl rfl (Am (b:=false) rfl rfl rfl rfl (wv (r:=rB false) (Ay (b:=false) rfl rfl rfl) (wa rfl (Au ?_))))))))));exact CD he
      refine A4 (A9 (Al ?_));obtain rfl:=A8 hy;exact A3 (BF Kh (AZ rfl)) sN ⟨rfl,rfl⟩
     ·have hs:=AP hl hr;refine Av (wv (B4 rfl rfl) (wa rfl (A2 (A6 (b:=decide (c.fKind=6)) rfl (λho=>?_) (λho=>?_)))))
      ·have hz:=AO ho hs;refine AI [(2,rB ((decide (c.fInt=0))&&((decide (c.fStr=([]:Ai)))&&(decide (0≤c.fN)))))] [] ?_ ?_
       ·refine Av (wv (Af BE rfl Cu rfl rfl) (wv (Az (i:=0) CM rfl rfl rfl) (wv (B4 rfl rfl) (wm rfl (AG (decide (c.fInt=0)) (λhf=>?_) (λhf=>?_))))))
        ·refine wo hf (wv (Af BE rfl DA rfl rfl) (wo hf (wv (Az (i:=0) DR rfl rfl rfl) (wo hf (wv (HQ rfl rfl) (Iu rfl hf rfl (wm rfl (AG (decide (c.fStr=([]:Ai))) (λhk=>?_) (λhk=>?_)))))))))
         ·refine wo hk (wv (Af BE rfl Cu rfl rfl) (wo hk (wv (Az (i:=0) CM rfl rfl rfl) (wo hk (wv (HR rfl rfl) (Iu rfl hk rfl (wa rfl (Au ?_))))))));exact CD (And.intro hf hk)
         ·refine wf hk (wf hk (wf hk (wv (r:=rB false) (Ay (b:=decide (c.fStr=([]:Ai))) rfl hk rfl) (wa rfl (Au ?_)))));exact CD (And.intro hf hk)
        ·refine wf hf (wf hf (wf hf (wv (r:=rB false) (Ay (b:=decide (c.fInt=0)) rfl hf rfl) (wm rfl (Am (b:=false) rfl rfl rfl rfl (Am (b:=false) rfl rfl rfl rfl (Am (b:=false) rfl rfl rfl rfl (wv (r:=rB false) (Ay (b:=false) rfl rfl rfl) (wa rfl (Au ?_))))))))));exact CD hf
       refine A4 (A9 (Al ?_));obtain rfl:=A8 hz;exact A3 (BF Kh (AZ rfl)) sN ⟨rfl,rfl⟩
      ·have h0:=AP ho hs;refine AC (AT (Bd (As (wv (r:=rB false) (An rfl) (A2 (A4 ?_))))));obtain rfl:=A8 h0;exact A3 (BF Kh (AZ rfl)) (sS sN) ⟨rfl,rfl⟩
theorem N5 (c:Ad)(r:Int)(h:Jt c=some r):Fn Tryd.prog GE 67 [Bh (Ae c)] [] (λR H=>R=rI .i64 r∧H=[]):=by
 refine enter (n:=28) Tryd.func67 rfl Tryd.ntmps67 rfl (λw Z=>?_);refine Bj (l':=[(0,Bh (Ae c))]) (H':=[]) rfl rfl ?_;unfold Jt at h;refine As (BM rfl rfl (λb1=>?_));refine wv (r:=rI .i64 0) (An rfl) (A2 (Ax (As (wv (Af BE rfl IJ rfl rfl) (wv (Az (i:=0) IK rfl rfl rfl) (A2 (AN (As (wv (B4 rfl rfl) (wa rfl (A2 (A6 (b:=decide (c.fKind=1)) rfl (λc2=>?_) (λc2=>?_)))))))))))))
 ·have h3:=AO c2 h;refine As (wv (r:=rI .i64 4) (An rfl) (A2 (A4 (A9 (Al ?_)))));obtain rfl:=A8 h3;exact A3 (BF Mg (AZ rfl)) (sS sN) ⟨rfl,rfl⟩
 ·have h4:=AP c2 h;refine As (wv (B4 rfl rfl) (wa rfl (A2 (A6 (b:=decide (c.fKind=2)) rfl (λc5=>?_) (λc5=>?_)))))
  ·have h6:=AO c5 h4;refine As (wv (Af BE rfl Cu rfl rfl) (wv (Az (i:=0) CM rfl rfl rfl) (wv (r:=rI .i64 (IntKind.wrap .i64 (5-c.fInt))) (MJ rfl rfl) (wa rfl (A2 (A4 (A9 (Al ?_))))))));obtain rfl:=A8 h6;exact A3 (BF Mg (AZ rfl)) (sS sN) ⟨rfl,rfl⟩
  ·have h7:=AP c5 h4;refine As (wv (B4 rfl rfl) (wa rfl (A2 (A6 (b:=decide (c.fKind=3)) rfl (λc8=>?_) (λc8=>?_)))))
   ·have h9:=AO c8 h7;refine As (wv (Af BE rfl Cu rfl rfl) (wv (Az (i:=0) CM rfl rfl rfl) ?_));obtain⟨hd,he⟩:=AK h9;refine DT (rs:=[rI .i64 c.fInt]) (r:=rS (Lib.itoa c.fInt)) Tryd.call73 rfl (Ni c.fInt hd) rfl rfl (wv (BY Hb rfl) (wa rfl (A2 (A4 (A9 (Al ?_))))));obtain rfl:=A8 he;exact A3 (BF Mg (AZ rfl)) (sS sN) ⟨rfl,rfl⟩
   ·have hb:=AP c8 h7;refine As (wv (B4 rfl rfl) (wa rfl (A2 (A6 (b:=decide (c.fKind=4)) rfl (λha=>?_) (λha=>?_)))))
    ·have hf:=AO ha hb;refine As (wv (Af BE rfl DA rfl rfl) (wv (Az (i:=0) DR rfl rfl rfl) ?_));obtain⟨hg,hh,hi⟩:=AR hf;refine Ig Tryd.call66 (Iw c.fStr hg hh) rfl (wa rfl (A2 (A4 (A9 (Al ?_)))));obtain rfl:=A8 hi;exact A3 (BF Mg (AZ rfl)) (sS sN) ⟨rfl,rfl⟩
    ·have hj:=AP ha hb;refine AC (AT (Bd (As (wv (Af BE rfl Cu rfl rfl) (wv (Az (i:=0) CM rfl rfl rfl) (wv (r:=rI .i64 (IntKind.wrap .i64 (c.fN-1))) (MJ rfl rfl) (wv (O1 PJ rfl rfl) (wv (r:=rI .i64 (IntKind.wrap .i64 (2+(max 0 (IntKind.wrap .i64 (c.fN-1)))))) (Ku rfl rfl) (wa rfl (A2 (A4 ?_)))))))))));obtain rfl:=A8 hj;exact A3 (BF Mg (AZ rfl)) (sS sN) ⟨rfl,rfl⟩
theorem Lq (F:Nat)(hg:Value)(stack:(List Ap))(r:(List Ap))(h:Gi F stack=some r):Fn Tryd.prog GE 69 [rv hg] [.row hg 107 5 (List.map Ao stack)] (λR H=>∃u0:Value,R=rv u0∧H=[.row u0 107 5 (List.map Ao r)]):=by
 refine enter (n:=38) Tryd.func69 rfl Tryd.ntmps69 rfl (λw Z=>?_);refine Bj (l':=[(0,rv hg)]) (H':=[.row hg 107 5 (List.map Ao stack)]) rfl rfl ?_;unfold Gi at h;refine As (wv (r:=rv (.slice none 0 0)) (An rfl) (A2 (Ax (AN ?_))));obtain⟨hq,hr,hn⟩:=AR h;refine BL (S:=Nat×((List Ap))×(Value)) (V:=((List Ap))×(Value)) 0 (λσ=>Dq (λσ=>Cb σ) σ.1 σ.2.1=some hq) (λσ=>[(0,rv σ.2.2),(2,rv (.slice none 0 0))]) (λσ=>[.row σ.2.2 107 5 (List.map Ao σ.2.1)]) (λσ=>σ.1) (F,stack,hg) hr (AM.c rfl (AM.c rfl AM.nil)) (sC sN) (λσ=>Cz σ.1=some r) (λσ=>[(0,rv σ.2),(2,rv (.slice none 0 0))]) (λσ=>[.row σ.2 107 5 (List.map Ao σ.1)]) ?_ ?_
 ·rintro⟨hG,ha,hd⟩ hs;refine Bj (l':=[(0,rv hd),(2,rv (.slice none 0 0))]) (H':=[.row hd 107 5 (List.map Ao ha)]) rfl rfl ?_;obtain⟨ht,rfl,hu,hh,hj⟩:=Ee hs;replace hh:Cb ha=some hu:=hh;unfold Cb at hh;refine Ax (As (wm rfl (wv (BT (ys:=ha) (enc:=Ao) (i:=0) Eb rfl rfl) (wv (Dh rfl rfl) (A2 (A6 (b:=decide (0<(ha.length:Int))) rfl (λhk=>?_) (λhk=>?_)))))))
  ·have hw:=AO hk hh;refine AC (Bd (AN (As (wm rfl (wm rfl (wv (BT (ys:=ha) (enc:=Ao) (i:=0) Eb rfl rfl) ?_))))));obtain⟨hx,hy⟩:=AK hw;refine wv (DK rfl rfl hx) ?_;obtain⟨he,hz⟩:=AK hy;refine wv (r:=rv (CC 5 hd (Int.toNat ((ha.length:Int)-1)) 0)) (Dx (i:=0) Eb Jp rfl rfl rfl (AY he)) (wa rfl (CF (wm rfl (wv (r:=rv (CC 5 hd (Int.toNat ((ha.length:Int)-1)) 0)) (Bv (k:=0) rfl (AY he) rfl rfl) (wv (r:=rv (CC 5 hd (Int.toNat ((ha.length:Int)-1)) 1)) (C2 (k:=0) Ea rfl Cu rfl (AY he) rfl rfl rfl) (wv (r:=rI .i64 ((Ak ha ((ha.length:Int)-1)).fLeft)) (Dd (enc:=Ao) (ys:=ha) (i:=0) (j:=(ha.length:Int)-1) CM rfl rfl he rfl) ?_))))));obtain⟨h0,h1⟩:=AK hz;refine wv (DK rfl rfl h0) (wv (r:=rv (CC 5 hd (Int.toNat ((ha.length:Int)-1)) 0)) (Bv (k:=0) rfl (AY he) rfl rfl) (wv (r:=rv (CC 5 hd (Int.toNat ((ha.length:Int)-1)) 1)) (C2 (k:=0) Ea rfl Cu rfl (AY he) rfl rfl rfl) (G8 (enc:=Ao) (ys:=ha) (y':=(Ap.mk ((Ak ha ((ha.length:Int)-1)).fPairs) (((Ak ha ((ha.length:Int)-1)).fLeft)-1) ((Ak ha ((ha.length:Int)-1)).fKey) ((Ak ha ((ha.length:Int)-1)).fLast) ((Ak ha ((ha.length:Int)-1)).fStarted))) (i:=0) (j:=(ha.length:Int)-1) Cu rfl rfl (BW rfl) rfl he rfl rfl (H':=[.row hd 107 5 (List.map Ao (List.set ha (Int.toNat ((ha.length:Int)-1)) (Ap.mk ((Ak ha ((ha.length:Int)-1)).fPairs) (((Ak ha ((ha.length:Int)-1)).fLeft)-1) ((Ak ha ((ha.length:Int)-1)).fKey) ((Ak ha ((ha.length:Int)-1)).fLast) ((Ak ha ((ha.length:Int)-1)).fStarted))))]) rfl ?_)));obtain⟨hb,hf,ho⟩:=IG h1;rw[← hf];refine A2 (Ax (As (wm rfl (wv (r:=rv (CC 5 hd (Int.toNat ((ha.length:Int)-1)) 0)) (Bv (k:=0) rfl (AY (B7 he hf)) rfl rfl) (wv (r:=rv (CC 5 hd (Int.toNat ((ha.length:Int)-1)) 1)) (C2 (k:=0) Ea rfl Cu rfl (AY (B7 he hf)) rfl rfl rfl) (wv (r:=rI .i64 ((Ak hb ((ha.length:Int)-1)).fLeft)) (Dd (enc:=Ao) (ys:=hb) (i:=0) (j:=(ha.length:Int)-1) CM rfl rfl (B7 he hf) rfl) (wv (Dh rfl rfl) (A2 (A6 (b:=decide (0<((Ak hb ((ha.length:Int)-1)).fLeft))) rfl (λhl=>?_) (λhl=>?_))))))))))
   ·have h2:=AO hl ho;refine As (wm rfl (wm rfl (wv (r:=rv (CC 5 hd (Int.toNat ((ha.length:Int)-1)) 0)) (Bv (k:=0) rfl (AY (B7 he hf)) rfl rfl) (wv (r:=rv (CC 5 hd (Int.toNat ((ha.length:Int)-1)) 0)) (C2 (k:=0) Ea rfl E3 rfl (AY (B7 he hf)) rfl rfl rfl) (wv (r:=rB ((Ak hb ((ha.length:Int)-1)).fPairs)) (Dd (enc:=Ao) (ys:=hb) (i:=0) (j:=(ha.length:Int)-1) Mm rfl rfl (B7 he hf) rfl) (wv (r:=rv (CC 5 hd (Int.toNat ((ha.length:Int)-1)) 0)) (Bv (k:=0) rfl (AY (B7 he hf)) rfl rfl) (wv (r:=rv (CC 5 hd (Int.toNat ((ha.length:Int)-1)) 2)) (C2 (k:=0) Ea rfl E3 rfl (AY (B7 he hf)) rfl rfl rfl) (G8 (enc:=Ao) (ys:=hb) (y':=(Ap.mk ((Ak hb ((ha.length:Int)-1)).fPairs) ((Ak hb ((ha.length:Int)-1)).fLeft) ((Ak hb ((ha.length:Int)-1)).fPairs) ((Ak hb ((ha.length:Int)-1)).fLast) ((Ak hb ((ha.length:Int)-1)).fStarted))) (i:=0) (j:=(ha.length:Int)-1) E3 rfl rfl (BW rfl) rfl (B7 he hf) rfl rfl (H':=[.row hd 107 5 (List.map Ao (List.set hb (Int.toNat ((ha.length:Int)-1)) (Ap.mk ((Ak hb ((ha.length:Int)-1)).fPairs) ((Ak hb ((ha.length:Int)-1)).fLeft) ((Ak hb ((ha.length:Int)-1)).fPairs) ((Ak hb ((ha.length:Int)-1)).fLast) ((Ak hb ((ha.length:Int)-1)).fStarted))))]) rfl ?_))))))));obtain⟨hH,h3,h4⟩:=IG h2;rw[← h3];refine CF (wm rfl (wa rfl (A2 (A4 (Al (A9 (Al (B1 ?_))))))));have h5:=Cw h4 hj hn;refine A9 (Al ?_);obtain rfl:=A8 h5;exact A3 (BF Tryd.results69 (AZ rfl)) (sC sN) ⟨hd,rfl,rfl⟩
   ·have h6:=AP hl ho;refine AC (Bd (Av (wm rfl (wm rfl (wv (BT (ys:=hb) (enc:=Ao) (i:=0) Eb rfl rfl) ?_)))));obtain⟨h7,h8⟩:=AK h6;refine wv (DK rfl rfl h7) ?_;obtain⟨h9,hA⟩:=AK h8;refine Oy (i:=0) Eb Jp rfl rfl rfl h9 rfl (λhB=>?_);refine wa rfl (Au (AT ?_));have hC:=BN hA hj;exact A0 (AQ (ht,List.take (Int.toNat ((hb.length:Int)-1)) hb,hB) ⟨hC,QA _⟩ (AM.c rfl (AM.c rfl AM.nil)) (sC sN))
  ·have hD:=AP hk hh;refine B6 (AA ?_);have hE:=Dc hD hj hn;exact AA (By (AQ (ha,hd) hE (AM.c rfl (AM.c rfl AM.nil)) (sC sN)))
 ·rintro⟨hp,hm⟩ hi;refine DD (l':=[(0,rv hm),(2,rv (.slice none 0 0))]) (H':=[.row hm 107 5 (List.map Ao hp)]) rfl rfl ?_;replace hi:Cz hp=some r:=hi;unfold Cz at hi;refine Bq (Bd (As (wm rfl (wa rfl (A2 (A4 ?_))))));obtain rfl:=A8 hi;exact A3 (BF Tryd.results69 (AZ rfl)) (sC sN) ⟨hm,rfl,rfl⟩
theorem N6 (F:Nat)(v:(List Ad))(r:Int×At×Bool)(h:Gh F v=some r):Fn Tryd.prog GE 59 [AV 4 (List.map Ae v)] [] (λR H=>R=EV [rI .i64 r.1,Bh (A5 r.2.1),rB r.2.2]∧H=[]):=by
 refine enter (n:=152) Tryd.func59 rfl Tryd.ntmps59 rfl (λw Z=>?_);refine Bj (l':=[(0,AV 4 (List.map Ae v))]) (H':=[]) rfl rfl ?_;unfold Gh at h;refine As (wv (r:=rI .i64 0) (An rfl) (CH (cs:=[rI .i64 0,rI .i64 0,rB false,rB false]) O7 rfl rfl (λb1=>?_)));refine wv (r:=rB false) (An rfl) (A2 (Mn (As (CH (cs:=[rI .i64 0,rI .i64 0,rB false,rB false]) O7 rfl rfl (λb2=>?_)))));refine CF (wv (r:=rv (.slice none 0 0)) (An rfl) (A2 (Ax (Mo (Bd (Ax (As (wm rfl (wv (Be (ys:=v) (enc:=Ae) El rfl) (wv (r:=rI .i64 0) (Aj rfl) (A2 (AN (WC.nilrow (e:=107) (sz:=5) (KC (H2:=[.blk b2 [rI .i64 0,rI .i64 0,rB false,rB false] 95,.blk b1 [rI .i64 0,rI .i64 0,rB false,rB false] 95,.row (.slice none 0 0                                                                                                           ) 107 5 (List.map Ao ([]:List Ap))]) ((A1 (i:=1) rfl).trans (Qq _ ((A1 (i:=1) rfl).trans (Qq _ (Qj _))))) ?_))))))))))))));obtain⟨hQ,hR,hy⟩:=AR h;refine BL (S:=Nat×((List Ap)×Int×At)×(Value)) (V:=(At)×(Unit)) 0 (λσ=>Dq (λσ=>Ca F v σ.1 σ.2.1 σ.2.2) σ.1 σ.2.1=some hQ) (λσ=>[(0,AV 4 (List.map Ae v)),(3,rv (.pointer (some ⟨b1,0,none⟩))),(5,rv (.pointer (some ⟨b2,0,none⟩))),(6,rv σ.2.2),(11,AV 4 (List.map Ae v)),(12,rI .i64 (v.length:Int)),(13,rI .i64 σ.2.1.2.1)]) (λσ=>[.blk b2 (A5 σ.2.1.2.2) 95,.blk b1 [rI .i64 0,rI .i64 0,rB false,rB false] 95,.row σ.2.2 107 5 (List.map Ao σ.2.1.1)]) (λσ=>σ.1) (F,(([]:List Ap),0,(At.mk 0 0 false false)),(.slice none 0 0                                                                                                           )) hR (AM.c rfl (AM.c rfl (AM.c5 rfl rfl rfl rfl rfl AM.nil))) (sC (sC (sC sN))) (λσ=>Gg σ.1=some r) (λσ=>[(3,rv (.pointer (some ⟨b1,0,none⟩))),(5,rv (.pointer (some ⟨b2,0,none⟩)))]) (λσ=>[.blk b2 (A5 σ.1) 95,.blk b1 [rI .i64 0,rI .i64 0,rB false,rB false] 95]) ?_ ?_
 ·rintro⟨gG,⟨hd,hb,ha⟩,he⟩ hS;refine Bj (l':=[(0,AV 4 (List.map Ae v)),(3,rv (.pointer (some ⟨b1,0,none⟩))),(5,rv (.pointer (some ⟨b2,0,none⟩))),(6,rv he),(11,AV 4 (List.map Ae v)),(12,rI .i64 (v.length:Int)),(13,rI .i64 hb)]) (H':=[.blk b2 (A5 ha) 95,.blk b1 [rI .i64 0,rI .i64 0,rB false,rB false] 95,.row he 107 5 (List.map Ao hd)]) rfl rfl ?_;obtain⟨hT,rfl,h4,hz,hx⟩:=Ee hS;replace hz:Ca F v hd hb ha=some h4:=hz;unfold Ca at hz;refine As (wv (Dw rfl rfl) (A2 (Ax (A6 (b:=decide (hb<(v.length:Int))) rfl (λh5=>?_) (λh5=>?_)))))
  ·have hU:=AO h5 hz;refine AC (Bd (CO (S:=((List Ap)×At)×(Value)) (λσ=>Cq hb σ.1.1 σ.1.2=some h4) (λσ=>[(0,AV 4 (List.map Ae v)),(3,rv (.pointer (some ⟨b1,0,none⟩))),(5,rv (.pointer (some ⟨b2,0,none⟩))),(6,rv σ.2),(11,AV 4 (List.map Ae v)),(12,rI .i64 (v.length:Int)),(13,rI .i64 hb)]) (λσ=>[.blk b2 (A5 σ.1.2) 95,.blk b1 [rI .i64 0,rI .i64 0,rB false,rB false] 95,.row σ.2 107 5 (List.map Ao σ.1.1)]) ?_ ?_))
   ·refine AN (As (wm rfl ?_));obtain⟨hV,hW⟩:=AK hU;refine wv (Bt (enc:=Ae) (ys:=v) El Hc rfl rfl hV) (wv (C6 Ml Hc rfl rfl rfl) (CH (cs:=[rI .i64 0,rI .i64 0,rS ([]:Ai),rI .i64 0]) O8 rfl rfl (λhf=>?_)));refine wa rfl (BA (i:=0) Hc rfl rfl rfl (B5.c rfl) rfl rfl (cs':=[rI .i64 ((Ak v hb).fKind),rI .i64 ((Ak v hb).fInt),rS ((Ak v hb).fStr),rI .i64 ((Ak v hb).fN)]) rfl (H':=[.blk hf (Ae (Ak v hb)) 70,.blk b2 (A5 ha) 95,.blk b1 [rI .i64 0,rI .i64 0,rB false,rB false] 95,.row he 107 5 (List.map Ao hd)]) rfl (A2 (Ax (As (wv (Bo (i:=0) Ml Hc rfl rfl rfl rfl) ?_)))));obtain⟨hH,hX,hI⟩:=AR hW;refine Ig Tryd.call65 (Mr F (Ak v hb) hH hX) rfl (wv (BX rfl) (A2 (A6 (b:=!hH) rfl (λh6=>?_) (λh6=>?_))))
    ·have hY:=AO h6 hI;refine Ax (Em (H1:=[.blk hf (Ae (Ak v hb)) 70,.blk b2 (A5 ha) 95,.blk b1 (A5 ha) 95,.row he 107 5 (List.map Ao hd)]) [3,5] [⟨[],Bh (A5 ha),1⟩,⟨[],rI .i64 0,0⟩,⟨[0],rv undef,2⟩,⟨[],rB false,0⟩] (rle [(3,_),(2,[.blk hf (Ae (Ak v hb)) 70,.blk b2 (A5 ha) 95,.blk b1 (A5 ha) 95,.row he 107 5 (List.map Ao hd)])]) [2,4,3] ?_ ?_)
     ·refine of (Bo (i:=1) Im EG rfl rfl rfl rfl) (oq (An rfl) (HP rfl (J8 (BU (i:=2) EG rfl rfl rfl (B5.c rfl) rfl rfl (cs':=[rI .i64 ha.fDepth,rI .i64 ha.fBytes,rB ha.fOutside,rB ha.fLong]) rfl (H':=[.blk hf (Ae (Ak v hb)) 70,.blk b2 (A5 ha) 95,.blk b1 (A5 ha) 95,.row he 107 5 (List.map Ao hd)]) rfl)) ?_));refine oq (An rfl) ?_;exact CI
     refine Bd (A4 (Al (A9 (Al (Al (B1 ?_))))));have hZ:=Cw hY hx hy;refine A9 (Al (Ge ?_));obtain rfl:=A8 hZ;exact A3 (Pi Mh (AZ rfl) (HK (i:=2) Im EG rfl rfl rfl) (AZ rfl)) (sS (sS (sS (sS sN)))) ⟨rfl,rfl⟩
    ·have ga:=AP h6 hI;refine AC (Bd (Ax (As (wm rfl (wv (BT (ys:=hd) (enc:=Ao) (i:=3) Eb rfl rfl) (wa rfl (A2 ?_)))))));obtain⟨gb,gc⟩:=AK ga;obtain⟨h7,hJ⟩:=AK gc;refine AI [(0,AV 4 (List.map Ae v)),(3,rv (.pointer (some ⟨b1,0,none⟩))),(5,rv (.pointer (some ⟨b2,0,none⟩))),(6,rv he),(7,rI .i64 hb),(8,rv (.pointer (some ⟨hf,0,none⟩))),(9,rI .i64 (hd.length:Int)),(11,AV 4 (List.map Ae v)),(12,rI .i64 (v.length:Int)),(13,rI .i64 hb),(33,rB ((decide (0<(hd.length:Int)))&&((Ak hd ((hd.length:Int)-1)).fKey)))] [.blk hf (Ae (Ak v hb)) 70,.blk b2 (A5 ha) 95,.blk b1 [rI .i64 0,rI .i64 0,rB false,rB false] 95,.row he 107 5 (List.map Ao hd)] ?_ ?_
     ·refine Av (wm rfl (wv (Dh rfl rfl) (wm rfl (AG (decide (0<(hd.length:Int))) (λhi=>?_) (λhi=>?_)))))
      ·refine wo hi (wm rfl (wo hi (wm rfl (wo hi (wv (DK rfl rfl (BP gb hi)) (wo hi (wv (r:=rv (CC 5 he (Int.toNat ((hd.length:Int)-1)) 0)) (Dx (i:=3) Eb Jp rfl rfl rfl (AY (BP h7 hi))) (wo hi (wv (r:=rv (CC 5 he (Int.toNat ((hd.length:Int)-1)) 2)) (C2 (k:=3) Ea rfl E3 rfl (AY (BP h7 hi)) rfl rfl rfl) (wo hi (wv (r:=rB ((Ak hd ((hd.length:Int)-1)).fKey)) (Dd (enc:=Ao) (ys:=hd) (i:=3) (j:=(hd.length:Int)-1) Mm rfl rfl (BP h7 hi) rfl) (Iu rfl hi rfl (Au ?_)))))))))))));exact CD hi
      ·refine wf hi (wf hi (wf hi (wf hi (wf hi (wf hi (wv (r:=rB false) (Ay (b:=decide (0<(hd.length:Int))) rfl hi rfl) (Au ?_)))))));exact CD hi
     refine A6 (b:=((decide (0<(hd.length:Int)))&&((Ak hd ((hd.length:Int)-1)).fKey))) rfl (λh8=>?_) (λh8=>?_)
     ·have gd:=AO h8 hJ;refine As (wm rfl (wm rfl ?_));obtain⟨ge,gf⟩:=AK gd;refine wv (DK rfl rfl ge) ?_;obtain⟨hj,hK⟩:=AK gf;refine wv (r:=rv (CC 5 he (Int.toNat ((hd.length:Int)-1)) 0)) (Dx (i:=3) Eb Jp rfl rfl rfl (AY hj)) (wa rfl (A2 (Ax (AI [(0,AV 4 (List.map Ae v)),(3,rv (.pointer (some ⟨b1,0,none⟩))),(5,rv (.pointer (some ⟨b2,0,none⟩))),(6,rv he),(8,rv (.pointer (some ⟨hf,0,none⟩))),(10,rv (CC 5 he (Int.toNat ((hd.length:Int)-1)) 0)),(11,AV 4 (List.map Ae v)),(12,rI .i64 (v.length:Int)),(13,rI .i64 hb),(38,rv (.pointer (some ⟨hf,0,none⟩))),(39,rI .i64 ((Ak v hb).fKind)),(40,rB (!decide (((Ak v hb).fKind)=4))),(41,rB (!decide (((Ak v hb).fKind)=4))),(55,rB ((!decide (((Ak v hb).fKind)=4))||(((Ak hd ((hd.length:Int)-1)).fStarted)&&(Bg ((Ak v hb).fStr) ((Ak hd ((hd.length:Int)-1)).fLast)||decide (((Ak v hb).fStr)=((Ak hd ((hd.length:Int)-1)).fLast))))))] [.blk hf (Ae (Ak v hb)) 70,.blk b2 (A5 ha) 95,.blk b1 [rI .i64 0,rI .i64 0,rB false,rB false] 95,.row he 107 5 (List.map Ao hd)] ?_ ?_))))
      ·refine AG (!decide (((Ak v hb).fKind)=4)) (λhh=>?_) (λhh=>?_)
       ·refine Da [0,3,5,6,8,10,11,12,13] [⟨[],rv (.pointer (some ⟨hf,0,none⟩)),0⟩,⟨[0],rI .i64 ((Ak v hb).fKind),1⟩,⟨[1],rB (!decide (((Ak v hb).fKind)=4)),0⟩,⟨[2],rB (!decide (((Ak v hb).fKind)=4)),0⟩,⟨[3],rv undef,0⟩,⟨[4,3],rv undef,0⟩,⟨[5,3],rv undef,0⟩,⟨[6,3],rv undef,0⟩,⟨[7,3],rv undef,0⟩,⟨[8],rv undef,0⟩,⟨[9,8],rv undef,0⟩,⟨[8],rv undef,0⟩,⟨[11,8],rv undef,0⟩,⟨[12,8],rv undef,0⟩,⟨[13,8],rv undef,0⟩,⟨[10,14,8],rv undef,0⟩,⟨[8,15,3],rv undef,0⟩,⟨[3,16],rB true,0⟩] [38,39,40,41,42,43,44,45,46,47,48,49,50,51,52,53,54,55,0,3,5,6,8,10,11,12,13] ?_ ?_
        ·refine oq (Af BE rfl IJ rfl rfl) (of (Az (i:=0) IK rfl rfl rfl) (oq (D7 rfl rfl) (oq (Aj rfl) (oz hh (oz hh (oz hh (oz hh (oz hh (ou (ou (ou (ou (ou (ou (ou (oz hh (oq (Aq (b:=!decide (((Ak v hb).fKind)=4)) rfl hh rfl) ?_)))))))))))))))));exact CI
        exact CD hh
       ·refine AG ((Ak hd ((hd.length:Int)-1)).fStarted) (λhk=>?_) (λhk=>?_)
        ·refine Da [0,3,5,6,8,10,11,12,13] [⟨[],rv (.pointer (some ⟨hf,0,none⟩)),0⟩,⟨[0],rI .i64 ((Ak v hb).fKind),1⟩,⟨[1],rB (!decide (((Ak v hb).fKind)=4)),0⟩,⟨[2],rB (!decide (((Ak v hb).fKind)=4)),0⟩,⟨[3],rv (CC 5 he (Int.toNat ((hd.length:Int)-1)) 0),0⟩,⟨[4,3],rv (CC 5 he (Int.toNat ((hd.length:Int)-1)) 0),1⟩,⟨[5,3],rv (CC 5 he (Int.toNat ((hd.length:Int)-1)) 4),1⟩,⟨[6,3],rB ((Ak hd ((hd.length:Int)-1)).fStarted),1⟩,⟨[7,3],rB ((Ak hd ((hd.length:Int)-1)).fStarted),0⟩,⟨[8],rv (.pointer (some ⟨hf,2,none⟩)),0⟩,⟨[9,8],rS ((Ak v hb).fStr),1⟩,⟨[8],rv (CC 5 he (Int.toNat ((hd.length:Int)-1)) 0),0⟩,⟨[11,8],rv (CC 5 he (Int.toNat ((hd.length:Int)-1)) 0),1⟩,⟨[12,8],rv (CC 5 he (Int.toNat ((hd.length:Int)-1)) 3),1⟩,⟨[13,8],rS ((Ak hd ((hd.length:Int)-1)).fLast),1⟩,⟨[10,14,8],rB (Bg ((Ak v hb).fStr) ((Ak hd ((hd.length:Int)-1)).fLast)||decide (((Ak v hb).fStr)=((Ak hd ((hd.length:Int)-1)).fLast))),0⟩,⟨[8,15,3],rB (Bg ((Ak v hb).fStr) ((Ak hd ((hd.length:Int)-1)).fLast)||decide (((Ak v hb).fStr)=((Ak hd ((hd.length:Int)-1)).fLast))),0⟩,⟨[3,16],rB (Bg ((Ak v hb).fStr) ((Ak hd ((hd.length:Int)-1)).fLast)||decide (((Ak v hb).fStr)=((Ak hd ((hd.length:Int)-1)).fLast))),0⟩] [38,39,40,41,42,43,44,45,46,47,48,49,50,51,52,53,54,55,0,3,5,6,8,10,11,12,13] ?_ ?_
         ·refine oq (Af BE rfl IJ rfl rfl) (of (Az (i:=0) IK rfl rfl rfl) (oq (D7 rfl rfl) (oq (Aj rfl) (on hh (oq (Aj rfl) (on hh (of (Bv (k:=3) rfl (AY hj) rfl rfl) (on hh (of (C2 (k:=3) Ea rfl E3 rfl (AY hj) rfl rfl rfl) (on hh (of (Dd (enc:=Ao) (ys:=hd) (i:=3) (j:=(hd.length:Int)-1) Mm rfl rfl hj rfl) (on hh (oq (Aj rfl) (on hk (oq (Af BE rfl DA rfl rfl) (on hk (of (Az (i:=0) DR rfl rfl rfl) (on hk (oq (Aj rfl) (on hk (of (Bv (k:=3) rfl (AY hj) rfl rfl) (on hk (of (C2 (k:=3) Ea rfl DA rfl (AY hj) rfl rfl rfl) ?_)))))))))))))))))))))));refine on hk (of (Dd (enc:=Ao) (ys:=hd) (i:=3) (j:=(hd.length:Int)-1) DR rfl rfl hj rfl) (on hk (oq (MK rfl rfl) (on hh (oq (Aq rfl hk rfl) (oq (Ay rfl hh rfl) ?_))))));exact CI
         exact CD (And.intro hh hk)
        ·refine Da [0,3,5,6,8,10,11,12,13] [⟨[],rv (.pointer (some ⟨hf,0,none⟩)),0⟩,⟨[0],rI .i64 ((Ak v hb).fKind),1⟩,⟨[1],rB (!decide (((Ak v hb).fKind)=4)),0⟩,⟨[2],rB (!decide (((Ak v hb).fKind)=4)),0⟩,⟨[3],rv (CC 5 he (Int.toNat ((hd.length:Int)-1)) 0),0⟩,⟨[4,3],rv (CC 5 he (Int.toNat ((hd.length:Int)-1)) 0),1⟩,⟨[5,3],rv (CC 5 he (Int.toNat ((hd.length:Int)-1)) 4),1⟩,⟨[6,3],rB ((Ak hd ((hd.length:Int)-1)).fStarted),1⟩,⟨[7,3],rB ((Ak hd ((hd.length:Int)-1)).fStarted),0⟩,⟨[8],rv undef,0⟩,⟨[9,8],rv undef,0⟩,⟨[8],rv undef,0⟩,⟨[11,8],rv undef,0⟩,⟨[12,8],rv undef,0⟩,⟨[13,8],rv undef,0⟩,⟨[10,14,8],rv undef,0⟩,⟨[8,15,3],rB false,0⟩,⟨[3,16],rB false,0⟩] [38,39,40,41,42,43,44,45,46,47,48,49,50,51,52,53,54,55,0,3,5,6,8,10,11,12,13] ?_ ?_
         ·refine oq (Af BE rfl IJ rfl rfl) (of (Az (i:=0) IK rfl rfl rfl) (oq (D7 rfl rfl) (oq (Aj rfl) (on hh (oq (Aj rfl) (on hh (of (Bv (k:=3) rfl (AY hj) rfl rfl) (on hh (of (C2 (k:=3) Ea rfl E3 rfl (AY hj) rfl rfl rfl) (on hh (of (Dd (enc:=Ao) (ys:=hd) (i:=3) (j:=(hd.length:Int)-1) Mm rfl rfl hj rfl) (on hh (oq (Aj rfl) (oz hk (oz hk (oz hk (oz hk (oz hk (oz hk (oz hk (on hh (oq (Ay (b:=(Ak hd ((hd.length:Int)-1)).fStarted) rfl hk rfl) (oq (Ay rfl hh rfl) ?_)))))))))))))))))))))));exact CI
         exact CD (And.intro hh hk)
      refine A6 (b:=((!decide (((Ak v hb).fKind)=4))||(((Ak hd ((hd.length:Int)-1)).fStarted)&&(Bg ((Ak v hb).fStr) ((Ak hd ((hd.length:Int)-1)).fLast)||decide (((Ak v hb).fStr)=((Ak hd ((hd.length:Int)-1)).fLast)))))) rfl (λh9=>?_) (λh9=>?_)
      ·have gg:=AO h9 hK;refine Ax (Em (H1:=[.blk hf (Ae (Ak v hb)) 70,.blk b2 (A5 ha) 95,.blk b1 (A5 ha) 95,.row he 107 5 (List.map Ao hd)]) [3,5] [⟨[],Bh (A5 ha),1⟩,⟨[],rI .i64 0,0⟩,⟨[0],rv undef,2⟩,⟨[],rB false,0⟩] (rle [(3,_),(2,[.blk hf (Ae (Ak v hb)) 70,.blk b2 (A5 ha) 95,.blk b1 (A5 ha) 95,.row he 107 5 (List.map Ao hd)])]) [2,4,3] ?_ ?_)
       ·refine of (Bo (i:=1) Im EG rfl rfl rfl rfl) (oq (An rfl) (HP rfl (J8 (BU (i:=2) EG rfl rfl rfl (B5.c rfl) rfl rfl (cs':=[rI .i64 ha.fDepth,rI .i64 ha.fBytes,rB ha.fOutside,rB ha.fLong]) rfl (H':=[.blk hf (Ae (Ak v hb)) 70,.blk b2 (A5 ha) 95,.blk b1 (A5 ha) 95,.row he 107 5 (List.map Ao hd)]) rfl)) ?_));refine oq (An rfl) ?_;exact CI
       refine Bd (A4 (Al (Al (A9 (Al (Al (B1 ?_)))))));have gh:=Cw gg hx hy;refine A9 (Al (Ge ?_));obtain rfl:=A8 gh;exact A3 (Pi Mh (AZ rfl) (HK (i:=2) Im EG rfl rfl rfl) (AZ rfl)) (sS (sS (sS (sS sN)))) ⟨rfl,rfl⟩
      ·have gi:=AP h9 hK;refine AC (Bd (As (wm rfl (wm rfl (wm rfl (wv (Af BE rfl DA rfl rfl) (wv (Az (i:=0) DR rfl rfl rfl) (wv (r:=rv (CC 5 he (Int.toNat ((hd.length:Int)-1)) 0)) (Bv (k:=3) rfl (AY hj) rfl rfl) (wv (r:=rv (CC 5 he (Int.toNat ((hd.length:Int)-1)) 3)) (C2 (k:=3) Ea rfl DA rfl (AY hj) rfl rfl rfl) (G8 (enc:=Ao) (ys:=hd) (y':=(Ap.mk ((Ak hd ((hd.length:Int)-1)).fPairs) ((Ak hd ((hd.length:Int)-1)).fLeft) ((Ak hd ((hd.length:Int)-1)).fKey) ((Ak v hb).fStr) ((Ak hd ((hd.length:Int)-1)).fStarted))) (i:=3) (j:=(hd.length:Int)-1) DA rfl rfl (BW rfl) rfl hj rfl rfl (H':=[.blk hf (Ae (Ak v hb)) 70,.blk b2 (A5 ha) 95,.blk b1 [rI .i64 0,rI .i64 0,rB false,rB false] 95,.row he 107 5 (List.map Ao (List.set hd (Int.toNat ((hd.length:Int)-1)) (Ap.mk ((Ak hd ((hd.length:Int)-1)).fPairs) ((Ak hd ((hd.length:Int)-1)).fLeft) ((Ak hd ((hd.length:Int)-1)).fKey) ((Ak v hb).fStr) ((Ak hd ((hd.length:Int)-1)).fStarted))))]) rfl ?_))))))))));obtain⟨hr,hw,gj⟩:=IG gi;rw[← hw];refine wv (r:=rv (CC 5 he (Int.toNat ((hd.length:Int)-1)) 0)) (Bv (k:=3) rfl (AY (B7 hj hw)) rfl rfl) (wv (r:=rv (CC 5 he (Int.toNat ((hd.length:Int)-1)) 4)) (C2 (k:=3) Ea rfl E3 rfl (AY (B7 hj hw)) rfl rfl rfl) (G8 (enc:=Ao) (ys:=hr) (y':=(Ap.mk ((Ak hr ((hd.length:Int)-1)).fPairs) ((Ak hr ((hd.length:Int)-1)).fLeft) ((Ak hr ((hd.length:Int)-1)).fKey) ((Ak hr ((hd.length:Int)-1)).fLast) true)) (i:=3) (j:=(hd.length:Int)-1) E3 rfl rfl (BW rfl) rfl (B7 hj hw) rfl rfl (H':=[.blk hf (Ae (Ak v hb)) 70,.blk b2 (A5 ha) 95,.blk b1 [rI .i64 0,rI .i64 0,rB false,rB false] 95,.row he 107 5 (List.map Ao (List.set hr (Int.toNat ((hd.length:Int)-1)) (Ap.mk ((Ak hr ((hd.length:Int)-1)).fPairs) ((Ak hr ((hd.length:Int)-1)).fLeft) ((Ak hr ((hd.length:Int)-1)).fKey) ((Ak hr ((hd.length:Int)-1)).fLast) true)))]) rfl ?_));obtain⟨hs,h1,gk⟩:=IG gj;rw[← h1];refine wv (r:=rv (CC 5 he (Int.toNat ((hd.length:Int)-1)) 0)) (Bv (k:=3) rfl (AY (B7 (B7 hj hw) h1)) rfl rfl) (wv (r:=rv (CC 5 he (Int.toNat ((hd.length:Int)-1)) 2)) (C2 (k:=3) Ea rfl E3 rfl (AY (B7 (B7 hj hw) h1)) rfl rfl rfl) (G8 (enc:=Ao) (ys:=hs) (y':=(Ap.mk ((Ak hs ((hd.length:Int)-1)).fPairs) ((Ak hs ((hd.length:Int)-1)).fLeft) false ((Ak hs ((hd.length:Int)-1)).fLast) ((Ak hs ((hd.length:Int)-1)).fStarted))) (i:=3) (j:=(hd.length:Int)-1) E3 rfl rfl (BW rfl) rfl (B7 (B7 hj hw) h1) rfl rfl (H':=[.blk hf (Ae (Ak v hb)) 70,.blk b2 (A5 ha) 95,.blk b1 [rI .i64 0,rI .i64 0,rB false,rB false] 95,.row he 107 5 (List.map Ao (List.set hs (Int.toNat ((hd.length:Int)-1)) (Ap.mk ((Ak hs ((hd.length:Int)-1)).fPairs) ((Ak hs ((hd.length:Int)-1)).fLeft) false ((Ak hs ((hd.length:Int)-1)).fLast) ((Ak hs ((hd.length:Int)-1)).fStarted))))]) rfl ?_));obtain⟨ht,gl,gm⟩:=IG gk;rw[← gl];refine A2 (Ax ?_);obtain⟨hl,gn,gp⟩:=AR gm;obtain⟨gq,gr⟩:=AK gp;refine Em (H1:=[.blk hf (Ae (Ak v hb)) 70,.blk b2 [rI .i64 ha.fDepth,rI .i64 (IntKind.wrap .i64 (ha.fBytes+(hl+1))),rB ha.fOutside,rB ha.fLong] 95,.blk b1 [rI .i64 0,rI .i64 0,rB false,rB false] 95,.row he 107 5 (List.map Ao ht)]) [0,3,5,6,8,11,12,13,38,39,40,41] [⟨[],rv (.pointer (some ⟨b2,1,none⟩)),0⟩,⟨[0],rI .i64 ha.fBytes,1⟩,⟨[],rv (.pointer (some ⟨hf,2,none⟩)),0⟩,⟨[2],rS ((Ak v hb).fStr),1⟩,⟨[3],rI .i64 hl,0⟩,⟨[4],rI .i64 (hl+1),0⟩,⟨[1,5],rI .i64 (IntKind.wrap .i64 (ha.fBytes+(hl+1))),0⟩,⟨[],rv (.pointer (some ⟨b2,1,none⟩)),0⟩,⟨[7,6],rv undef,2⟩] (rle [(9,_),(1,[.blk hf (Ae (Ak v hb)) 70,.blk b2 [rI .i64 ha.fDepth,rI .i64 (IntKind.wrap .i64 (ha.fBytes+(hl+1))),rB ha.fOutside,rB ha.fLong] 95,.blk b1 [rI .i64 0,rI .i64 0,rB false,rB false] 95,.row he 107 5 (List.map Ao ht)])]) [68,69,70,71,72,73,74,75,0,3,5,6,8,11,12,13,38,39,40,41] ?_ ?_
       ·refine oq (Af DC rfl Cu rfl rfl) (of (Az (i:=1) CM rfl rfl rfl) (oq (Af BE rfl DA rfl rfl) (of (Az (i:=0) DR rfl rfl rfl) (Er rfl (λH=>Gu Tryd.call66 (Iw ((Ak v hb).fStr) hl gn) rfl) ?_))));refine oq (Cc rfl rfl gq) (oq (Ku rfl rfl) (oq (Af DC rfl Cu rfl rfl) (HP rfl (J8 (IH (i:=1) Cu rfl rfl (BW rfl) rfl rfl (cs':=[rI .i64 ha.fDepth,rI .i64 (IntKind.wrap .i64 (ha.fBytes+(hl+1))),rB ha.fOutside,rB ha.fLong]) rfl (H':=[.blk hf (Ae (Ak v hb)) 70,.blk b2 [rI .i64 ha.fDepth,rI .i64 (IntKind.wrap .i64 (ha.fBytes+(hl+1))),rB ha.fOutside,rB ha.fLong] 95,.blk b1 [rI .i64 0,rI .i64 0,rB false,rB false] 95,.row he 107 5 (List.map Ao ht)]) rfl)) ?_)));exact CI
       refine Bd (AI [(0,AV 4 (List.map Ae v)),(3,rv (.pointer (some ⟨b1,0,none⟩))),(5,rv (.pointer (some ⟨b2,0,none⟩))),(6,rv he),(11,AV 4 (List.map Ae v)),(12,rI .i64 (v.length:Int)),(13,rI .i64 hb),(38,rv (.pointer (some ⟨hf,0,none⟩))),(39,rI .i64 ((Ak v hb).fKind)),(40,rB (!decide (((Ak v hb).fKind)=4))),(41,rB (!decide (((Ak v hb).fKind)=4))),(68,rv (.pointer (some ⟨b2,1,none⟩))),(69,rI .i64 ha.fBytes),(70,rv (.pointer (some ⟨hf,2,none⟩))),(71,rS ((Ak v hb).fStr)),(72,rI .i64 hl),(73,rI .i64 (hl+1)),(74,rI .i64 (IntKind.wrap .i64 (ha.fBytes+(hl+1)))),(75,rv (.pointer (some ⟨b2,1,none⟩)))] [.blk hf (Ae (Ak v hb)) 70,.blk b2 [rI .i64 ha.fDepth,rI .i64 (IntKind.wrap .i64 (ha.fBytes+(hl+1))),rB ha.fOutside,rB (ha.fLong||(decide (200<(((Ak v hb).fStr).length:Int))))] 95,.blk b1 [rI .i64 0,rI .i64 0,rB false,rB false] 95,.row he 107 5 (List.map Ao ht)] ?_ ?_)
       ·refine Av (wv (Af DC rfl E3 rfl rfl) (wv (Az (i:=1) Mm rfl rfl rfl) (wm rfl (AG (ha.fLong) (λho=>?_) (λho=>?_)))))
        ·refine wf ho (wf ho (wf ho (wf ho (wv (r:=rB true) (Aq (b:=ha.fLong) rfl ho rfl) (wv (Af DC rfl E3 rfl rfl) (Cv (i:=1) E3 rfl rfl (BW rfl) rfl rfl (cs':=[rI .i64 ha.fDepth,rI .i64 (IntKind.wrap .i64 (ha.fBytes+(hl+1))),rB ha.fOutside,rB true]) rfl (H':=[.blk hf (Ae (Ak v hb)) 70,.blk b2 [rI .i64 ha.fDepth,rI .i64 (IntKind.wrap .i64 (ha.fBytes+(hl+1))),rB ha.fOutside,rB true] 95,.blk b1 [rI .i64 0,rI .i64 0,rB false,rB false] 95,.row he 107 5 (List.map Ao ht)]) rfl (Au (DS (H':=[.blk hf (Ae (Ak v hb)) 70,.blk b2 [rI .i64 ha.fDepth,rI .i64 (IntKind.wrap .i64 (ha.fBytes+(hl+1))),rB ha.fOutside,rB (ha.fLong||(decide (200<(((Ak v hb).fStr).length:Int))))] 95,.blk b1 [rI .i64 0,rI .i64 0,rB false,rB false] 95,.row he 107 5 (List.map Ao ht)]) (by simp only[ho,Q4,Q6,QD,Qz,Q9,Q7,QG,Q8,Qw,Q5,Qv,Qr]) ?_))))))));exact wt
        ·refine wo ho (wv (Af BE rfl DA rfl rfl) (wo ho (wv (Az (i:=0) DR rfl rfl rfl) (wo ho (wv (BY Hb rfl) (wo ho (wv (Dh rfl rfl) (He rfl ho rfl (wv (Af DC rfl E3 rfl rfl) (Cv (i:=1) E3 rfl rfl (BW rfl) rfl rfl (cs':=[rI .i64 ha.fDepth,rI .i64 (IntKind.wrap .i64 (ha.fBytes+(hl+1))),rB ha.fOutside,rB (decide (200<(((Ak v hb).fStr).length:Int)))]) rfl (H':=[.blk hf (Ae (Ak v hb)) 70,.blk b2 [rI .i64 ha.fDepth,rI .i64 (IntKind.wrap .i64 (ha.fBytes+(hl+1))),rB ha.fOutside,rB (decide (200<(((Ak v hb).fStr).length:Int)))] 95,.blk b1 [rI .i64 0,rI .i64 0,rB false,rB false] 95,.row he 107 5 (List.map Ao ht)]) rfl (Au (DS (H':=[.blk hf (Ae (Ak v hb)) 70,.blk b2 [rI .i64 ha.fDepth,rI .i64 (IntKind.wrap .i64 (ha.fBytes+(hl+1))),rB ha.fOutside,rB (ha.fLong||(decide (200<(((Ak v hb).fStr).length:Int))))] 95,.blk b1 [rI .i64 0,rI .i64 0,rB false,rB false] 95,.row he 107 5 (List.map Ao ht)]) (by simp only[ho,Q4,Q6,QD,Qz,Q9,Q7,QG,Q8,Qw,Q5,Qv,Qr]) ?_))))))))))));exact wt
       exact B6 (AA (Bq (A0 (AQ ((ht,(At.mk ha.fDepth (IntKind.wrap .i64 (ha.fBytes+(hl+1))) ha.fOutside (ha.fLong||(decide (200<(((Ak v hb).fStr).length:Int)))))),he) gr (AM.c rfl (AM.c rfl (AM.c5 rfl rfl rfl rfl rfl AM.nil))) (sS (sC (sC (sC sN))))))))
     ·have gs:=AP h8 hJ;refine AC (Bd (As (wv (Af DC rfl Cu rfl rfl) (wv (Az (i:=1) CM rfl rfl rfl) (wm rfl (wv (BT (ys:=hd) (enc:=Ao) (i:=3) Eb rfl rfl) ?_))))));obtain⟨gt,gu⟩:=AK gs;refine wv (Cc rfl rfl gt) (wv (O1 PJ rfl rfl) (wv (Af DC rfl Cu rfl rfl) (Cv (i:=1) Cu rfl rfl (BW rfl) rfl rfl (cs':=[rI .i64 (max ha.fDepth ((hd.length:Int)+1)),rI .i64 ha.fBytes,rB ha.fOutside,rB ha.fLong]) rfl (H':=[.blk hf (Ae (Ak v hb)) 70,.blk b2 [rI .i64 (max ha.fDepth ((hd.length:Int)+1)),rI .i64 ha.fBytes,rB ha.fOutside,rB ha.fLong] 95,.blk b1 [rI .i64 0,rI .i64 0,rB false,rB false] 95,.row he 107 5 (List.map Ao hd)]) rfl (A2 (Ax ?_)))));obtain⟨hg,gv,gw⟩:=AR gu;refine Em (H1:=[.blk hf (Ae (Ak v hb)) 70,.blk b2 [rI .i64 (max ha.fDepth ((hd.length:Int)+1)),rI .i64 (IntKind.wrap .i64 (ha.fBytes+hg)),rB ha.fOutside,rB ha.fLong] 95,.blk b1 [rI .i64 0,rI .i64 0,rB false,rB false] 95,.row he 107 5 (List.map Ao hd)]) [0,3,5,6,7,8,11,12,13] [⟨[],rv (.pointer (some ⟨b2,1,none⟩)),0⟩,⟨[0],rI .i64 ha.fBytes,1⟩,⟨[],Bh (Ae (Ak v hb)),1⟩,⟨[2],rI .i64 hg,0⟩,⟨[1,3],rI .i64 (IntKind.wrap .i64 (ha.fBytes+hg)),0⟩,⟨[],rv (.pointer (some ⟨b2,1,none⟩)),0⟩,⟨[5,4],rv undef,2⟩] (rle [(7,_),(1,[.blk hf (Ae (Ak v hb)) 70,.blk b2 [rI .i64 (max ha.fDepth ((hd.length:Int)+1)),rI .i64 (IntKind.wrap .i64 (ha.fBytes+hg)),rB ha.fOutside,rB ha.fLong] 95,.blk b1 [rI .i64 0,rI .i64 0,rB false,rB false] 95,.row he 107 5 (List.map Ao hd)])]) [92,93,94,95,96,97,0,3,5,6,7,8,11,12,13] ?_ ?_
      ·refine oq (Af DC rfl Cu rfl rfl) (of (Az (i:=1) CM rfl rfl rfl) (of (Bo (i:=0) Ml Hc rfl rfl rfl rfl) (Er rfl (λH=>Gu Tryd.call67 (N5 (Ak v hb) hg gv) rfl) ?_)));refine oq (Ku rfl rfl) (oq (Af DC rfl Cu rfl rfl) (HP rfl (J8 (IH (i:=1) Cu rfl rfl (BW rfl) rfl rfl (cs':=[rI .i64 (max ha.fDepth ((hd.length:Int)+1)),rI .i64 (IntKind.wrap .i64 (ha.fBytes+hg)),rB ha.fOutside,rB ha.fLong]) rfl (H':=[.blk hf (Ae (Ak v hb)) 70,.blk b2 [rI .i64 (max ha.fDepth ((hd.length:Int)+1)),rI .i64 (IntKind.wrap .i64 (ha.fBytes+hg)),rB ha.fOutside,rB ha.fLong] 95,.blk b1 [rI .i64 0,rI .i64 0,rB false,rB false] 95,.row he 107 5 (List.map Ao hd)]) rfl)) ?_));exact CI
      refine Bd ?_;obtain⟨gx,hL⟩:=AK gw;refine AI [(0,AV 4 (List.map Ae v)),(3,rv (.pointer (some ⟨b1,0,none⟩))),(5,rv (.pointer (some ⟨b2,0,none⟩))),(6,rv he),(7,rI .i64 hb),(8,rv (.pointer (some ⟨hf,0,none⟩))),(11,AV 4 (List.map Ae v)),(12,rI .i64 (v.length:Int)),(13,rI .i64 hb),(92,rv (.pointer (some ⟨b2,1,none⟩))),(93,rI .i64 ha.fBytes),(94,Bh (Ae (Ak v hb))),(95,rI .i64 hg),(96,rI .i64 (IntKind.wrap .i64 (ha.fBytes+hg))),(97,rv (.pointer (some ⟨b2,1,none⟩)))] [.blk hf (Ae (Ak v hb)) 70,.blk b2 [rI .i64 (max ha.fDepth ((hd.length:Int)+1)),rI .i64 (IntKind.wrap .i64 (ha.fBytes+hg)),rB (ha.fOutside||((decide (((Ak v hb).fKind)=3))&&(!(ov (AX ((Ak v hb).fInt)))))),rB ha.fLong] 95,.blk b1 [rI .i64 0,rI .i64 0,rB false,rB false] 95,.row he 107 5 (List.map Ao hd)] ?_ ?_
      ·refine Av (wv (Af DC rfl E3 rfl rfl) (wv (Az (i:=1) Mm rfl rfl rfl) (wm rfl (AG (ha.fOutside) (λhm=>?_) (λhm=>?_)))))
       ·refine wf hm (wf hm (wf hm (wf hm (wu (wu (wu (wu (wf hm (wv (r:=rB true) (Aq (b:=ha.fOutside) rfl hm rfl) (wv (Af DC rfl E3 rfl rfl) (Cv (i:=1) E3 rfl rfl (BW rfl) rfl rfl (cs':=[rI .i64 (max ha.fDepth ((hd.length:Int)+1)),rI .i64 (IntKind.wrap .i64 (ha.fBytes+hg)),rB true,rB ha.fLong]) rfl (H':=[.blk hf (Ae (Ak v hb)) 70,.blk b2 [rI .i64 (max ha.fDepth ((hd.length:Int)+1)),rI .i64 (IntKind.wrap .i64 (ha.fBytes+hg)),rB true,rB ha.fLong] 95,.blk b1 [rI .i64 0,rI .i64 0,rB false,rB false] 95,.row he 107 5 (List.map Ao hd)]) rfl (Au (DS (H':=[.blk hf (Ae (Ak v hb)) 70,.blk b2 [rI .i64 (max ha.fDepth ((hd.length:Int)+1)),rI .i64 (IntKind.wrap .i64 (ha.fBytes+hg)),rB (ha.fOutside||((decide (((Ak v hb).fKind)=3))&&(!(ov (AX ((Ak v hb).fInt)))))),rB ha.fLong] 95,.blk b1 [rI .i64 0,rI .i64 0,rB false,rB false] 95,.row he 107 5 (List.map Ao hd)]) (by simp only[hm,Q4,Q6,QD,Qz,Q9,Q7,QG,Q8,Qw,Q5,Qv,Qr]) ?_)))))))))))));exact wt
       ·refine wo hm (wv (Af BE rfl IJ rfl rfl) (wo hm (wv (Az (i:=0) IK rfl rfl rfl) (wo hm (wv (B4 rfl rfl) (wo hm (wm rfl (AG (decide (((Ak v hb).fKind)=3)) (λhn=>?_) (λhn=>?_)))))))))
        ·refine wo hn (wv (Af BE rfl Cu rfl rfl) (wo hn (wv (Az (i:=0) CM rfl rfl rfl) (wo hn (Ig Tryd.call68 (MP ((Ak v hb).fInt) (ov (AX ((Ak v hb).fInt))) (Iq (BP (Dz gx hm) hn))) rfl (wo hn (wv (BX rfl) (wo hm (Iu rfl hn rfl (He rfl hm rfl (wv (Af DC rfl E3 rfl rfl) (Cv (i:=1) E3 rfl rfl (BW rfl) rfl rfl (cs':=[rI .i64 (max ha.fDepth ((hd.length:Int)+1)),rI .i64 (IntKind.wrap .i64 (ha.fBytes+hg)),rB (!(ov (AX ((Ak v hb).fInt)))),rB ha.fLong]) rfl (H':=[.blk hf (Ae (Ak v hb)) 70,.blk b2 [rI .i64 (max ha.fDepth ((hd.length:Int)+1)),rI .i64 (IntKind.wrap .i64 (ha.fBytes+hg)),rB (!(ov (AX ((Ak v hb).fInt)))),rB ha.fLong] 95,.blk b1 [rI .i64 0,rI .i64 0,rB false,rB false] 95,.row he 107 5 (List.map Ao hd)]) rfl (Au (DS (H':=[.blk hf (Ae (Ak v hb)) 70,.blk b2 [rI .i64 (max ha.fDepth ((hd.length:Int)+1)),rI .i64 (IntKind.wrap .i64 (ha.fBytes+hg)),rB (ha.fOutside||((decide (((Ak v hb).fKind)=3))&&(!(ov (AX ((Ak v hb).fInt)))))),rB ha.fLong] 95,.blk b1 [rI .i64 0,rI .i64 0,rB false,rB false] 95,.row he 107 5 (List.map Ao hd)]) (by simp only[hm,hn,Q4,Q6,QD,Qz,Q9,Q7,QG,Q8,Qw,Q5,Qv,Qr]) ?_))))))))))))));exact wt
        ·refine wf hn (wf hn (wf hn (wf hn (wo hm (wv (r:=rB false) (Ay (b:=decide (((Ak v hb).fKind)=3)) rfl hn rfl) (He rfl hm rfl (wv (Af DC rfl E3 rfl rfl) (Cv (i:=1) E3 rfl rfl (BW rfl) rfl rfl (cs':=[rI .i64 (max ha.fDepth ((hd.length:Int)+1)),rI .i64 (IntKind.wrap .i64 (ha.fBytes+hg)),rB false,rB ha.fLong]) rfl (H':=[.blk hf (Ae (Ak v hb)) 70,.blk b2 [rI .i64 (max ha.fDepth ((hd.length:Int)+1)),rI .i64 (IntKind.wrap .i64 (ha.fBytes+hg)),rB false,rB ha.fLong] 95,.blk b1 [rI .i64 0,rI .i64 0,rB false,rB false] 95,.row he 107 5 (List.map Ao hd)]) rfl (Au (DS (H':=[.blk hf (Ae (Ak v hb)) 70,.blk b2 [rI .i64 (max ha.fDepth ((hd.length:Int)+1)),rI .i64 (IntKind.wrap .i64 (ha.fBytes+hg)),rB (ha.fOutside||((decide (((Ak v hb).fKind)=3))&&(!(ov (AX ((Ak v hb).fInt)))))),rB ha.fLong] 95,.blk b1 [rI .i64 0,rI .i64 0,rB false,rB false] 95,.row he 107 5 (List.map Ao hd)]) (by simp only[hm,hn,Q4,Q6,QD,Qz,Q9,Q7,QG,Q8,Qw,Q5,Qv,Qr]) ?_))))))))));exact wt
      refine AI [(0,AV 4 (List.map Ae v)),(3,rv (.pointer (some ⟨b1,0,none⟩))),(5,rv (.pointer (some ⟨b2,0,none⟩))),(6,rv he),(7,rI .i64 hb),(8,rv (.pointer (some ⟨hf,0,none⟩))),(11,AV 4 (List.map Ae v)),(12,rI .i64 (v.length:Int)),(13,rI .i64 hb),(92,rv (.pointer (some ⟨b2,1,none⟩))),(93,rI .i64 ha.fBytes),(94,Bh (Ae (Ak v hb))),(95,rI .i64 hg),(96,rI .i64 (IntKind.wrap .i64 (ha.fBytes+hg))),(97,rv (.pointer (some ⟨b2,1,none⟩)))] [.blk hf (Ae (Ak v hb)) 70,.blk b2 [rI .i64 (max ha.fDepth ((hd.length:Int)+1)),rI .i64 (IntKind.wrap .i64 (ha.fBytes+hg)),rB (ha.fOutside||((decide (((Ak v hb).fKind)=3))&&(!(ov (AX ((Ak v hb).fInt)))))),rB (ha.fLong||(decide (200<(((Ak v hb).fStr).length:Int))))] 95,.blk b1 [rI .i64 0,rI .i64 0,rB false,rB false] 95,.row he 107 5 (List.map Ao hd)] ?_ ?_
      ·refine Av (wv (Af DC rfl E3 rfl rfl) (wv (Az (i:=1) Mm rfl rfl rfl) (wm rfl (AG (ha.fLong) (λhp=>?_) (λhp=>?_)))))
       ·refine wf hp (wf hp (wf hp (wf hp (wv (r:=rB true) (Aq (b:=ha.fLong) rfl hp rfl) (wv (Af DC rfl E3 rfl rfl) (Cv (i:=1) E3 rfl rfl (BW rfl) rfl rfl (cs':=[rI .i64 (max ha.fDepth ((hd.length:Int)+1)),rI .i64 (IntKind.wrap .i64 (ha.fBytes+hg)),rB (ha.fOutside||((decide (((Ak v hb).fKind)=3))&&(!(ov (AX ((Ak v hb).fInt)))))),rB true]) rfl (H':=[.blk hf (Ae (Ak v hb)) 70,.blk b2 [rI .i64 (max ha.fDepth ((hd.length:Int)+1)),rI .i64 (IntKind.wrap .i64 (ha.fBytes+hg)),rB (ha.fOutside||((decide (((Ak v hb).fKind)=3))&&(!(ov (AX ((Ak v hb).fInt)))))),rB true] 95,.blk b1 [rI .i64 0,rI .i64 0,rB false,rB false] 95,.row he 107 5 (List.map Ao hd)]) rfl (Au (DS (H':=[.blk hf (Ae (Ak v hb)) 70,.blk b2 [rI .i64 (max ha.fDepth ((hd.length:Int)+1)),rI .i64 (IntKind.wrap .i64 (ha.fBytes+hg)),rB (ha.fOutside||((decide (((Ak v hb).fKind)=3))&&(!(ov (AX ((Ak v hb).fInt)))))),rB (ha.fLong||(decide (200<(((Ak v hb).fStr).length:Int))))] 95,.blk b1 [rI .i64 0,rI .i64 0,rB false,rB false] 95,.row he 107 5 (List.map Ao hd)]) (by simp only[hp,Q4,Q6,QD,Qz,Q9,Q7,QG,Q8,Qw,Q5,Qv,Qr]) ?_))))))));exact wt
       ·refine wo hp (wv (Af BE rfl DA rfl rfl) (wo hp (wv (Az (i:=0) DR rfl rfl rfl) (wo hp (wv (BY Hb rfl) (wo hp (wv (Dh rfl rfl) (He rfl hp rfl (wv (Af DC rfl E3 rfl rfl) (Cv (i:=1) E3 rfl rfl (BW rfl) rfl rfl (cs':=[rI .i64 (max ha.fDepth ((hd.length:Int)+1)),rI .i64 (IntKind.wrap .i64 (ha.fBytes+hg)),rB (ha.fOutside||((decide (((Ak v hb).fKind)=3))&&(!(ov (AX ((Ak v hb).fInt)))))),rB (decide (200<(((Ak v hb).fStr).length:Int)))]) rfl (H':=[.blk hf (Ae (Ak v hb)) 70,.blk b2 [rI .i64 (max ha.fDepth ((hd.length:Int)+1)),rI .i64 (IntKind.wrap .i64 (ha.fBytes+hg)),rB (ha.fOutside||((decide (((Ak v hb).fKind)=3))&&(!(ov (AX ((Ak v hb).fInt)))))),rB (decide (200<(((Ak v hb).fStr).length:Int)))] 95,.blk b1 [rI .i64 0,rI .i64 0,rB false,rB false] 95,.row he 107 5 (List.map Ao hd)]) rfl (Au (DS (H':=[.blk hf (Ae (Ak v hb)) 70,.blk b2 [rI .i64 (max ha.fDepth ((hd.length:Int)+1)),rI .i64 (IntKind.wrap .i64 (ha.fBytes+hg)),rB (ha.fOutside||((decide (((Ak v hb).fKind)=3))&&(!(ov (AX ((Ak v hb).fInt)))))),rB (ha.fLong||(decide (200<(((Ak v hb).fStr).length:Int))))] 95,.blk b1 [rI .i64 0,rI .i64 0,rB false,rB false] 95,.row he 107 5 (List.map Ao hd)]) (by simp only[hp,Q4,Q6,QD,Qz,Q9,Q7,QG,Q8,Qw,Q5,Qv,Qr]) ?_))))))))))));exact wt
      refine Ax (As (wv (Af BE rfl Cu rfl rfl) (wv (Az (i:=0) CM rfl rfl rfl) (wv (Dh rfl rfl) (A2 (A6 (b:=decide (0<((Ak v hb).fN))) rfl (λhA=>?_) (λhA=>?_)))))))
      ·have hN:=AO hA hL;refine Ax (As (wv (Af BE rfl Cu rfl rfl) (wv (Az (i:=0) CM rfl rfl rfl) (wm rfl (wv (Be (ys:=v) (enc:=Ae) El rfl) (wv (Dh rfl rfl) (A2 (A6 (b:=decide ((v.length:Int)<((Ak v hb).fN))) rfl (λhB=>?_) (λhB=>?_)))))))))
       ·have gy:=AO hB hN;refine Ax (Em (H1:=[.blk hf (Ae (Ak v hb)) 70,.blk b2 [rI .i64 (max ha.fDepth ((hd.length:Int)+1)),rI .i64 (IntKind.wrap .i64 (ha.fBytes+hg)),rB (ha.fOutside||((decide (((Ak v hb).fKind)=3))&&(!(ov (AX ((Ak v hb).fInt)))))),rB (ha.fLong||(decide (200<(((Ak v hb).fStr).length:Int))))] 95,.blk b1 [rI .i64 (max ha.fDepth ((hd.length:Int)+1)),rI .i64 (IntKind.wrap .i64 (ha.fBytes+hg)),rB (ha.fOutside||((decide (((Ak v hb).fKind)=3))&&(!(ov (AX ((Ak v hb).fInt)))))),rB (ha.fLong||(decide (200<(((Ak v hb).fStr).length:Int))))] 95,.row he 107 5 (List.map Ao hd)]) [3,5] [⟨[],Bh [rI .i64 (max ha.fDepth ((hd.length:Int)+1)),rI .i64 (IntKind.wrap .i64 (ha.fBytes+hg)),rB (ha.fOutside||((decide (((Ak v hb).fKind)=3))&&(!(ov (AX ((Ak v hb).fInt)))))),rB (ha.fLong||(decide (200<(((Ak v hb).fStr).length:Int))))],1⟩,⟨[],rI .i64 0,0⟩,⟨[0],rv undef,2⟩,⟨[],rB false,0⟩] (rle [(3,_),(2,[.blk hf (Ae (Ak v hb)) 70,.blk b2 [rI .i64 (max ha.fDepth ((hd.length:Int)+1)),rI .i64 (IntKind.wrap .i64 (ha.fBytes+hg)),rB (ha.fOutside||((decide (((Ak v hb).fKind)=3))&&(!(ov (AX ((Ak v hb).fInt)))))),rB (ha.fLong||(decide (200<(((Ak v hb).fStr).length:Int))))] 95,.blk b1 [rI .i64 (max ha.fDepth ((hd.length:Int)+1)),rI .i64 (IntKind.wrap .i64 (ha.fBytes+hg)),rB (ha.fOutside||((decide (((Ak v hb).fKind)=3))&&(!(ov (AX ((Ak v hb).fInt)))))),rB (ha.fLong||(decide (200<(((Ak v hb).fStr).length:Int))))] 95,.row he 107 5 (List.map Ao hd)])]) [2,4,3] ?_ ?_)
        ·refine of (Bo (i:=1) Im EG rfl rfl rfl rfl) (oq (An rfl) (HP rfl (J8 (BU (i:=2) EG rfl rfl rfl (B5.c rfl) rfl rfl (cs':=[rI .i64 (max ha.fDepth ((hd.length:Int)+1)),rI .i64 (IntKind.wrap .i64 (ha.fBytes+hg)),rB (ha.fOutside||((decide (((Ak v hb).fKind)=3))&&(!(ov (AX ((Ak v hb).fInt)))))),rB (ha.fLong||(decide (200<(((Ak v hb).fStr).length:Int))))]) rfl (H':=[.blk hf (Ae (Ak v hb)) 70,.blk b2 [rI .i64 (max ha.fDepth ((hd.length:Int)+1)),rI .i64 (IntKind.wrap .i64 (ha.fBytes+hg)),rB (ha.fOutside||((decide (((Ak v hb).fKind)=3))&&(!(ov (AX ((Ak v hb).fInt)))))),rB (ha.fLong||(decide (200<(((Ak v hb).fStr).length:Int))))] 95,.blk b1 [rI .i64 (max ha.fDepth ((hd.length:Int)+1)),rI .i64 (IntKind.wrap .i64 (ha.fBytes+hg)),rB (ha.fOutside||((decide (((Ak v hb).fKind)=3))&&(!(ov (AX ((Ak v hb).fInt)))))),rB (ha.fLong||(decide (200<(((Ak v hb).fStr).length:Int))))] 95,.row he 107 5 (List.map Ao hd)]) rfl)) ?_));refine oq (An rfl) ?_;exact CI
        refine Bd (A4 (Al (Al (A9 (Al (Al (B1 ?_)))))));have gz:=Cw gy hx hy;refine A9 (Al (Ge ?_));obtain rfl:=A8 gz;exact A3 (Pi Mh (AZ rfl) (HK (i:=2) Im EG rfl rfl rfl) (AZ rfl)) (sS (sS (sS (sS sN)))) ⟨rfl,rfl⟩
       ·have g0:=AP hB hN;refine AC (Bd (As (wm rfl (wv (Af BE rfl IJ rfl rfl) (wv (Az (i:=0) IK rfl rfl rfl) (wv (B4 rfl rfl) (wv (Af BE rfl Cu rfl rfl) (wv (Az (i:=0) CM rfl rfl rfl) (wv (Af BE rfl IJ rfl rfl) (wv (Az (i:=0) IK rfl rfl rfl) (wv (B4 rfl rfl) (wv (r:=Bh [rB (decide (((Ak v hb).fKind)=6)),rI .i64 ((Ak v hb).fN),rB (decide (((Ak v hb).fKind)=6)),rS ([]:Ai),rB false]) (GF rfl rfl rfl rfl rfl rfl) (CG (ys:=([(Ap.mk (decide (((Ak v hb).fKind)=6)) ((Ak v hb).fN) (decide (((Ak v hb).fKind)=6)) ([]:Ai) false)]:List Ap)) (enc:=Ao) (css:=[[rB (decide (((Ak v hb).fKind)=6)),rI .i64 ((Ak v hb).fN),rB (decide (((Ak v hb).fKind)=6)),rS ([]:Ai),rB false]]) (xs:=[.tmp 139]) Eb Jp Tryd.zeroValue107 rfl rfl rfl ⟨O5.agg ⟨Up.refl _,Up.refl _,Up.refl _,Up.refl _,Up.refl _,trivial⟩,trivial⟩ rfl Ef rfl rfl rfl (λg1=>?_))))))))))))));obtain⟨g2,g3⟩:=AK g0;obtain⟨inf,hinf⟩:=Oa;refine Gf (xs:=hd) (ys:=([(Ap.mk (decide (((Ak v hb).fKind)=6)) ((Ak v hb).fN) (decide (((Ak v hb).fKind)=6)) ([]:Ai) false)]:List Ap)) (enc:=Ao) (i:=4) Eb hinf.1 hinf.2.1 hinf.2.2.1 hinf.2.2.2 rfl rfl rfl rfl rfl (Nw.w (i:=0) rfl rfl) Ef Hg g2 rfl (λhO=>?_);exact wa rfl (A2 (B6 (AA (Bq (E5 (H2:=[.blk b2 [rI .i64 (max ha.fDepth ((hd.length:Int)+1)),rI .i64 (IntKind.wrap .i64 (ha.fBytes+hg)),rB (ha.fOutside||((decide (((Ak v hb).fKind)=3))&&(!(ov (AX ((Ak v hb).fInt)))))),rB (ha.fLong||(decide (200<(((Ak v hb).fStr).length:Int))))] 95,.blk b1 [rI .i64 0,rI .i64 0,rB false,rB false] 95,.row hO 107 5 (List.map Ao (hd++([(Ap.mk (decide (((Ak v hb).fKind)=6)) ((Ak v hb).fN) (decide (((Ak v hb).fKind)=6)) ([]:Ai) false)]:List Ap))),.row (.slice (some ⟨g1,0,none⟩) 1 1) 107 5 (List.map Ao ([(Ap.mk (decide (((Ak v hb).fKind)=6)) ((Ak v hb).fN) (decide (((Ak v hb).fKind)=6)) ([]:Ai) false)]:List Ap)),.blk hf (Ae (Ak v hb)) 70]) ((A1 (i:=3) rfl).trans (Qq _ ((A1 (i:=3) rfl).trans (Qq _ (Qj _))))) (A0 (AQ ((hd++([(Ap.mk (decide (((Ak v hb).fKind)=6)) ((Ak v hb).fN) (decide (((Ak v hb).fKind)=6)) ([]:Ai) false)]:List Ap),(At.mk (max ha.fDepth ((hd.length:Int)+1)) (IntKind.wrap .i64 (ha.fBytes+hg)) (ha.fOutside||((decide (((Ak v hb).fKind)=3))&&(!(ov (AX ((Ak v hb).fInt)))))) (ha.fLong||(decide (200<(((Ak v hb).fStr).length:Int)))))),hO) g3 (AM.c rfl (AM.c rfl (AM.c5 rfl rfl rfl rfl rfl AM.nil))) (sC (sC (sC (sS (sS sN))))))))))))
      ·have g4:=AP hA hL;refine AC (Bd (As (wm rfl ?_)));obtain⟨hu,g5,hP⟩:=AR g4;refine Ej (Hr:=[.blk hf (Ae (Ak v hb)) 70,.blk b2 [rI .i64 (max ha.fDepth ((hd.length:Int)+1)),rI .i64 (IntKind.wrap .i64 (ha.fBytes+hg)),rB (ha.fOutside||((decide (((Ak v hb).fKind)=3))&&(!(ov (AX ((Ak v hb).fInt)))))),rB (ha.fLong||(decide (200<(((Ak v hb).fStr).length:Int))))] 95,.blk b1 [rI .i64 0,rI .i64 0,rB false,rB false] 95]) Tryd.call69 (Lq F he hd hu g5) rfl ((A1 (i:=3) rfl).trans (Qq _ (Qj _))) rfl ?_;rintro _ _ ⟨h0,rfl,rfl⟩;refine wa rfl (CF (wm rfl (wv (BT (ys:=hu) (enc:=Ao) (i:=0) Eb rfl rfl) (wv (B4 rfl rfl) (A2 (A6 (b:=decide ((hu.length:Int)=0)) rfl (λhC=>?_) (λhC=>?_)))))))
       ·have g6:=AO hC hP;refine Ax ?_;obtain⟨g7,g8⟩:=AK g6;refine Em (H1:=[.row h0 107 5 (List.map Ao hu),.blk hf (Ae (Ak v hb)) 70,.blk b2 [rI .i64 (max ha.fDepth ((hd.length:Int)+1)),rI .i64 (IntKind.wrap .i64 (ha.fBytes+hg)),rB (ha.fOutside||((decide (((Ak v hb).fKind)=3))&&(!(ov (AX ((Ak v hb).fInt)))))),rB (ha.fLong||(decide (200<(((Ak v hb).fStr).length:Int))))] 95,.blk b1 [rI .i64 (max ha.fDepth ((hd.length:Int)+1)),rI .i64 (IntKind.wrap .i64 (ha.fBytes+hg)),rB (ha.fOutside||((decide (((Ak v hb).fKind)=3))&&(!(ov (AX ((Ak v hb).fInt)))))),rB (ha.fLong||(decide (200<(((Ak v hb).fStr).length:Int))))] 95]) [3,5,7] [⟨[],rI .i64 hb,0⟩,⟨[0],rI .i64 (hb+1),0⟩,⟨[],Bh [rI .i64 (max ha.fDepth ((hd.length:Int)+1)),rI .i64 (IntKind.wrap .i64 (ha.fBytes+hg)),rB (ha.fOutside||((decide (((Ak v hb).fKind)=3))&&(!(ov (AX ((Ak v hb).fInt)))))),rB (ha.fLong||(decide (200<(((Ak v hb).fStr).length:Int))))],1⟩,⟨[1],rI .i64 (hb+1),0⟩,⟨[2],rv undef,2⟩,⟨[],rB true,0⟩] (rle [(5,_),(2,[.row h0 107 5 (List.map Ao hu),.blk hf (Ae (Ak v hb)) 70,.blk b2 [rI .i64 (max ha.fDepth ((hd.length:Int)+1)),rI .i64 (IntKind.wrap .i64 (ha.fBytes+hg)),rB (ha.fOutside||((decide (((Ak v hb).fKind)=3))&&(!(ov (AX ((Ak v hb).fInt)))))),rB (ha.fLong||(decide (200<(((Ak v hb).fStr).length:Int))))] 95,.blk b1 [rI .i64 (max ha.fDepth ((hd.length:Int)+1)),rI .i64 (IntKind.wrap .i64 (ha.fBytes+hg)),rB (ha.fOutside||((decide (((Ak v hb).fKind)=3))&&(!(ov (AX ((Ak v hb).fInt)))))),rB (ha.fLong||(decide (200<(((Ak v hb).fStr).length:Int))))] 95])]) [2,4,3] ?_ ?_
        ·refine oq (Aj rfl) (oq (Cc rfl rfl g7) (of (Bo (i:=2) Im EG rfl rfl rfl rfl) (oq (An rfl) (HP rfl (J8 (BU (i:=3) EG rfl rfl rfl (B5.c rfl) rfl rfl (cs':=[rI .i64 (max ha.fDepth ((hd.length:Int)+1)),rI .i64 (IntKind.wrap .i64 (ha.fBytes+hg)),rB (ha.fOutside||((decide (((Ak v hb).fKind)=3))&&(!(ov (AX ((Ak v hb).fInt)))))),rB (ha.fLong||(decide (200<(((Ak v hb).fStr).length:Int))))]) rfl (H':=[.row h0 107 5 (List.map Ao hu),.blk hf (Ae (Ak v hb)) 70,.blk b2 [rI .i64 (max ha.fDepth ((hd.length:Int)+1)),rI .i64 (IntKind.wrap .i64 (ha.fBytes+hg)),rB (ha.fOutside||((decide (((Ak v hb).fKind)=3))&&(!(ov (AX ((Ak v hb).fInt)))))),rB (ha.fLong||(decide (200<(((Ak v hb).fStr).length:Int))))] 95,.blk b1 [rI .i64 (max ha.fDepth ((hd.length:Int)+1)),rI .i64 (IntKind.wrap .i64 (ha.fBytes+hg)),rB (ha.fOutside||((decide (((Ak v hb).fKind)=3))&&(!(ov (AX ((Ak v hb).fInt)))))),rB (ha.fLong||(decide (200<(((Ak v hb).fStr).length:Int))))] 95]) rfl)) ?_))));refine oq (An rfl) ?_;exact CI
        refine Bd (A4 (A9 (Al (Al (B1 ?_)))));have g9:=Cw g8 hx hy;refine A9 (Al (Ge ?_));obtain rfl:=A8 g9;exact A3 (Pi Mh (AZ rfl) (HK (i:=3) Im EG rfl rfl rfl) (AZ rfl)) (sS (sS (sS (sS sN)))) ⟨rfl,rfl⟩
       ·have gA:=AP hC hP;exact AC (AT (E5 (H2:=[.blk b2 [rI .i64 (max ha.fDepth ((hd.length:Int)+1)),rI .i64 (IntKind.wrap .i64 (ha.fBytes+hg)),rB (ha.fOutside||((decide (((Ak v hb).fKind)=3))&&(!(ov (AX ((Ak v hb).fInt)))))),rB (ha.fLong||(decide (200<(((Ak v hb).fStr).length:Int))))] 95,.blk b1 [rI .i64 0,rI .i64 0,rB false,rB false] 95,.row h0 107 5 (List.map Ao hu),.blk hf (Ae (Ak v hb)) 70]) ((A1 (i:=2) rfl).trans (Qq _ ((A1 (i:=2) rfl).trans (Qq _ (Qj _))))) (A0 (AQ ((hu,(At.mk (max ha.fDepth ((hd.length:Int)+1)) (IntKind.wrap .i64 (ha.fBytes+hg)) (ha.fOutside||((decide (((Ak v hb).fKind)=3))&&(!(ov (AX ((Ak v hb).fInt)))))) (ha.fLong||(decide (200<(((Ak v hb).fStr).length:Int)))))),h0) gA (AM.c rfl (AM.c rfl (AM.c5 rfl rfl rfl rfl rfl AM.nil))) (sC (sC (sC (sS sN))))))))
   ·rintro⟨⟨hD,hE⟩,hG⟩ h2;refine Bj (l':=[(0,AV 4 (List.map Ae v)),(3,rv (.pointer (some ⟨b1,0,none⟩))),(5,rv (.pointer (some ⟨b2,0,none⟩))),(6,rv hG),(11,AV 4 (List.map Ae v)),(12,rI .i64 (v.length:Int)),(13,rI .i64 hb)]) (H':=[.blk b2 (A5 hE) 95,.blk b1 [rI .i64 0,rI .i64 0,rB false,rB false] 95,.row hG 107 5 (List.map Ao hD)]) rfl rfl ?_;replace h2:Cq hb hD hE=some h4:=h2;unfold Cq at h2;refine Av ?_;obtain⟨gB,gC⟩:=AK h2;refine wv (Cc rfl rfl gB) (wm rfl (Au ?_));have gD:=BN gC hx;exact A0 (AQ (hT,(hD,hb+1,hE),hG) ⟨gD,QA _⟩ (AM.c rfl (AM.c rfl (AM.c5 rfl rfl rfl rfl rfl AM.nil))) (sC (sC (sC sN))))
  ·have gE:=AP h5 hz;refine B6 (AA ?_);have gF:=Dc gE hx hy;exact AA (By (AQ (ha,()) gF (AM.c rfl (AM.c rfl AM.nil)) (sC (sC (sS sN)))))
 ·rintro⟨hq,⟨⟩⟩ h3;refine DD (l':=[(3,rv (.pointer (some ⟨b1,0,none⟩))),(5,rv (.pointer (some ⟨b2,0,none⟩)))]) (H':=[.blk b2 (A5 hq) 95,.blk b1 [rI .i64 0,rI .i64 0,rB false,rB false] 95]) rfl rfl ?_;replace h3:Gg hq=some r:=h3;unfold Gg at h3;refine Bq (Bd (Ax (Em (H1:=[.blk b2 (A5 hq) 95,.blk b1 (A5 hq) 95]) [3,5] [⟨[],Bh (A5 hq),1⟩,⟨[],rI .i64 0,0⟩,⟨[0],rv undef,2⟩,⟨[],rB false,0⟩] (rle [(3,_),(2,[.blk b2 (A5 hq) 95,.blk b1 (A5 hq) 95])]) [2,4,3] ?_ ?_)))
  ·refine of (Bo (i:=0) Im EG rfl rfl rfl rfl) (oq (An rfl) (HP rfl (J8 (BU (i:=1) EG rfl rfl rfl (B5.c rfl) rfl rfl (cs':=[rI .i64 hq.fDepth,rI .i64 hq.fBytes,rB hq.fOutside,rB hq.fLong]) rfl (H':=[.blk b2 (A5 hq) 95,.blk b1 (A5 hq) 95]) rfl)) ?_));refine oq (An rfl) ?_;exact CI
  refine Bd (A4 (Ge ?_));obtain rfl:=A8 h3;exact A3 (Pi Mh (AZ rfl) (HK (i:=1) Im EG rfl rfl rfl) (AZ rfl)) (sS (sS sN)) ⟨rfl,rfl⟩
theorem Mt (F:Nat)(v:(List Ad))(r:Int)(h:H9 F v=some r):Fn Tryd.prog GE 45 [AV 4 (List.map Ae v)] [] (λR H=>R=rI .i64 r∧H=[]):=by
 refine enter (n:=42) Tryd.func45 rfl Tryd.ntmps45 rfl (λw Z=>?_);refine Bj (l':=[(0,AV 4 (List.map Ae v))]) (H':=[]) rfl rfl ?_;unfold H9 at h;refine As (wv (r:=rI .i64 0) (An rfl) (CF (wm rfl ?_)));obtain⟨r1,e3,h2⟩:=AR h;refine Ig Tryd.call59 (N6 F v r1 e3) rfl (wm rfl (wv (Bm rfl rfl) (wv (Bm rfl rfl) (wv (Bm rfl rfl) (CH (cs:=[rI .i64 0,rI .i64 0,rB false,rB false]) O7 rfl rfl (λb4=>?_))))));refine wa rfl (BA (i:=0) EG rfl rfl rfl (B5.c rfl) rfl rfl (cs':=[rI .i64 r1.2.1.fDepth,rI .i64 r1.2.1.fBytes,rB r1.2.1.fOutside,rB r1.2.1.fLong]) rfl (H':=[.blk b4 (A5 r1.2.1) 95]) rfl (wa rfl (A2 (Ax (AN (AI [(0,AV 4 (List.map Ae v)),(4,rv (.pointer (some ⟨b4,0,none⟩))),(12,rB ((!r1.2.2)||(!decide (r1.1=(v.length:Int)))))] [.blk b4 (A5 r1.2.1) 95] ?_ ?_))))))
 ·refine Av (wm rfl (wv (BX rfl) (wm rfl (AG (!r1.2.2) (λc5=>?_) (λc5=>?_)))))
  ·refine wf c5 (wf c5 (wf c5 (wf c5 (wv (r:=rB true) (Aq (b:=!r1.2.2) rfl c5 rfl) (wa rfl (Au ?_))))));exact CD c5
  ·refine wo c5 (wm rfl (wo c5 (wm rfl (wo c5 (wv (Be (ys:=v) (enc:=Ae) El rfl) (wo c5 (wv (D7 rfl rfl) (He rfl c5 rfl (wa rfl (Au ?_))))))))));exact CD c5
 refine A6 (b:=((!r1.2.2)||(!decide (r1.1=(v.length:Int))))) rfl (λc6=>?_) (λc6=>?_)
 ·have h7:=AO c6 h2;refine As (wv (r:=rI .i64 1) (An rfl) (A2 (A4 (A9 (Al ?_)))));obtain rfl:=A8 h7;exact A3 (BF N0 (AZ rfl)) (sS sN) ⟨rfl,rfl⟩
 ·have h8:=AP c6 h2;refine As (wv (Af DC rfl E3 rfl rfl) (wv (Az (i:=0) Mm rfl rfl rfl) (wa rfl (A2 (A6 (b:=r1.2.1.fOutside) rfl (λc9=>?_) (λc9=>?_))))))
  ·have hg:=AO c9 h8;refine As (wv (r:=rI .i64 2) (An rfl) (A2 (A4 (A9 (Al ?_)))));obtain rfl:=A8 hg;exact A3 (BF N0 (AZ rfl)) (sS sN) ⟨rfl,rfl⟩
  ·have hf:=AP c9 h8;refine AI [(24,rB (r1.2.1.fLong||((decide (200<(v.length:Int)))||((decide (8<r1.2.1.fDepth))||(decide (4000<r1.2.1.fBytes))))))] [] ?_ ?_
   ·refine Av (wv (Af DC rfl E3 rfl rfl) (wv (Az (i:=0) Mm rfl rfl rfl) (wm rfl (AG (r1.2.1.fLong) (λha=>?_) (λha=>?_)))))
    ·refine wf ha (wf ha (wf ha (wv (r:=rB true) (Aq (b:=r1.2.1.fLong) rfl ha rfl) (wm rfl (Am (b:=true) rfl rfl rfl rfl (Am (b:=true) rfl rfl rfl rfl (Am (b:=true) rfl rfl rfl rfl (wv (r:=rB true) (Aq (b:=true) rfl rfl rfl) (wm rfl (Am (b:=true) rfl rfl rfl rfl (Am (b:=true) rfl rfl rfl rfl (Am (b:=true) rfl rfl rfl rfl (wv (r:=rB true) (Aq (b:=true) rfl rfl rfl) (wa rfl (Au ?_)))))))))))))));exact CD ha
    ·refine wo ha (wm rfl (wo ha (wv (Be (ys:=v) (enc:=Ae) El rfl) (wo ha (wv (Dh rfl rfl) (He rfl ha rfl (wm rfl (AG (decide (200<(v.length:Int))) (λhb=>?_) (λhb=>?_)))))))))
     ·refine wf hb (wf hb (wf hb (wv (r:=rB true) (Aq (b:=decide (200<(v.length:Int))) rfl hb rfl) (wm rfl (Am (b:=true) rfl rfl rfl rfl (Am (b:=true) rfl rfl rfl rfl (Am (b:=true) rfl rfl rfl rfl (wv (r:=rB true) (Aq (b:=true) rfl rfl rfl) (wa rfl (Au ?_))))))))));exact CD (And.intro ha hb)
     ·refine wo hb (wv (Af DC rfl Cu rfl rfl) (wo hb (wv (Az (i:=0) CM rfl rfl rfl) (wo hb (wv (Dh rfl rfl) (He rfl hb rfl (wm rfl (AG (decide (8<r1.2.1.fDepth)) (λhd=>?_) (λhd=>?_)))))))))
      ·refine wf hd (wf hd (wf hd (wv (r:=rB true) (Aq (b:=decide (8<r1.2.1.fDepth)) rfl hd rfl) (wa rfl (Au ?_)))));exact CD (And.intro ha (And.intro hb hd))
      ·refine wo hd (wv (Af DC rfl Cu rfl rfl) (wo hd (wv (Az (i:=0) CM rfl rfl rfl) (wo hd (wv (Dh rfl rfl) (He rfl hd rfl (wa rfl (Au ?_))))))));exact CD (And.intro ha (And.intro hb hd))
   refine A6 (b:=(r1.2.1.fLong||((decide (200<(v.length:Int)))||((decide (8<r1.2.1.fDepth))||(decide (4000<r1.2.1.fBytes)))))) rfl (λhe=>?_) (λhe=>?_)
   ·have hh:=AO he hf;refine As (wv (r:=rI .i64 3) (An rfl) (A2 (A4 (A9 (Al ?_)))));obtain rfl:=A8 hh;exact A3 (BF N0 (AZ rfl)) sN ⟨rfl,rfl⟩
   ·have hi:=AP he hf;refine AC (AT (Bd (As (wv (r:=rI .i64 0) (An rfl) (A2 (A4 ?_))))));obtain rfl:=A8 hi;exact A3 (BF N0 (AZ rfl)) sN ⟨rfl,rfl⟩
end Go.Proofs.YtkoiaconljdbeaaDoor.Q
namespace Go.Proofs.YtkoiaconljdbeaaDoor
open Go
set_option linter.unusedVariables false
end Go.Proofs.YtkoiaconljdbeaaDoor
namespace Go.Proofs.YtkoiaconljdbeaaDoor.Q
open Go Go.RowKit
set_option linter.unusedVariables false
set_option linter.unusedSimpArgs false
set_option maxRecDepth 100000
set_option maxHeartbeats 4000000
end Go.Proofs.YtkoiaconljdbeaaDoor.Q
namespace Go.Proofs.YtkoiaconljdbeaaDoor
open Go
set_option linter.unusedVariables false
end Go.Proofs.YtkoiaconljdbeaaDoor
namespace Go.Proofs.YtkoiaconljdbeaaDoor.Q
open Go Go.RowKit
set_option linter.unusedVariables false
set_option linter.unusedSimpArgs false
set_option maxRecDepth 100000
set_option maxHeartbeats 4000000
end Go.Proofs.YtkoiaconljdbeaaDoor.Q
namespace Go.Proofs.YtkoiaconljdbeaaDoor
open Go
set_option linter.unusedVariables false
end Go.Proofs.YtkoiaconljdbeaaDoor
namespace Go.Proofs.YtkoiaconljdbeaaDoor.Q
open Go Go.RowKit
set_option linter.unusedVariables false
set_option linter.unusedSimpArgs false
set_option maxRecDepth 100000
set_option maxHeartbeats 4000000
end Go.Proofs.YtkoiaconljdbeaaDoor.Q
namespace Go.Proofs.YtkoiaconljdbeaaDoor
open Go
set_option linter.unusedVariables false
end Go.Proofs.YtkoiaconljdbeaaDoor
namespace Go.Proofs.YtkoiaconljdbeaaDoor.Q
open Go Go.RowKit
set_option linter.unusedVariables false
set_option linter.unusedSimpArgs false
set_option maxRecDepth 100000
set_option maxHeartbeats 4000000
end Go.Proofs.YtkoiaconljdbeaaDoor.Q
namespace Go.Proofs.YtkoiaconljdbeaaDoor
open Go
set_option linter.unusedVariables false
set_option linter.unusedSimpArgs false
section
variable {T S : Type}
def Bk:List (Ai×T)→Ai→Option T
 | [],_=>none
 | p::r,k=>bif decide (p.1=k) then some p.2 else Bk r k
def A7 (xs:List (Ai×T))(k:Ai)(z:T):T:=(Bk xs k).getD z
def CJ (xs:List (Ai×T))(k:Ai):Bool:=(Bk xs k).isSome
def mins (k:Ai)(v:T):List (Ai×T)→List (Ai×T)
 | []=>[(k,v)]
 | p::r=>bif Bg k p.1 then(k,v)::p::r else p::mins k v r
def mput (xs:List (Ai×T))(k:Ai)(v:T):List (Ai×T):=xs.map λp=>bif decide (p.1=k) then(k,v) else p
def mset (xs:List (Ai×T))(k:Ai)(v:T):List (Ai×T):=bif CJ xs k then mput xs k v else mins k v xs
def mdel (xs:List (Ai×T))(k:Ai):List (Ai×T):=xs.filter λp=>!decide (p.1=k)
def AJ (f:T→S)(xs:List (Ai×T)):List (Ai×S):=xs.map λp=>(p.1,f p.2)
theorem Et (f:T→S):∀(xs:List (Ai×T)) (k:Ai),Bk (AJ f xs) k=(Bk xs k).map f
 | [],k=>rfl
 | p::r,k=>by
  show(bif decide (p.1=k) then some (f p.2) else Bk (AJ f r) k)=_;rw[Bk,Et f r k]
  cases decide (p.1=k)<;>rfl
theorem MT (f:T→S)(xs:List (Ai×T))(k:Ai):CJ (AJ f xs) k=CJ xs k:=by
 unfold CJ;rw[Et];cases Bk xs k<;>rfl
theorem JE (f:T→S)(k:Ai)(v:T):∀xs:List (Ai×T),AJ f (mins k v xs)=mins k (f v) (AJ f xs)
 | []=>rfl
 | p::r=>by
  show AJ f (bif Bg k p.1 then(k,v)::p::r else p::mins k v r)=(bif Bg k p.1 then(k,f v)::(p.1,f p.2)::AJ f r else(p.1,f p.2)::mins k (f v) (AJ f r));rw[← JE f k v r]
  cases Bg k p.1<;>rfl
theorem MQ (f:T→S)(xs:List (Ai×T))(k:Ai)(v:T):AJ f (mset xs k v)=mset (AJ f xs) k (f v):=by
 unfold mset;rw[MT]
 cases CJ xs k with
 | false=>exact JE f k v xs
 | true=>
  show AJ f (mput xs k v)=mput (AJ f xs) k (f v);unfold AJ mput;rw[QM,QM];refine List.map_congr_left λp _=>?_;show _=(bif decide (p.1=k) then(k,f v) else(p.1,f p.2));simp only[Function.comp]
  cases decide (p.1=k)<;>rfl
theorem MU (f:T→S)(xs:List (Ai×T))(k:Ai):AJ f (mdel xs k)=mdel (AJ f xs) k:=by
 unfold AJ mdel;rw[List.filter_map];rfl
theorem Eu (f:T→S)(xs:List (Ai×T)):(AJ f xs).length=xs.length:=by simp[AJ]
theorem GG (k:Ai)(v:T):∀xs:List (Ai×T),(mins k v xs).Perm ((k,v)::xs)
 | []=>Qj _
 | p::r=>by
  rw[mins]
  cases Bg k p.1 with
  | true=>exact Qj _
  | false=>exact((GG k v r).cons p).trans (List.Perm.swap _ _ _)
def Dj (x:T):List T→List (List T)
 | []=>[[x]]
 | y::r=>(x::y::r)::(Dj x r).map (y::·)
def EL:List T→List (List T)
 | []=>[[]]
 | x::r=>(EL r).flatMap (Dj x)
theorem GX (x:T):∀(a b:List T),a++x::b∈Dj x (a++b)
 | [],[]=>by simp[Dj]
 | [],y::b=>by simp[Dj]
 | y::a,b=>by
  simp only[List.cons_append,Dj,QO,List.mem_map];exact .inr ⟨_,GX x a b,rfl⟩
theorem I7:∀(xs ys:List T),ys.Perm xs→ys∈EL xs
 | [],ys,h=>by rw[h.eq_nil];simp[EL]
 | x::r,ys,h=>by
  have hx:x∈ys:=h.symm.subset (List.mem_cons_self ..);obtain⟨a,b,rfl⟩:=List.append_of_mem hx;have h2:(a++b).Perm r:=(List.perm_middle.symm.trans h).cons_inv;simp only[EL,List.mem_flatMap];exact⟨a++b,I7 r _ h2,GX x a b⟩
def L8 {R:Type}[DecidableEq R](xs:List T)(K:List T→Option R):Option R:=match K xs with
 | none=>none
 | some r=>bif (EL xs).all (λp=>decide (K p=some r)) then some r else none
theorem MS {R:Type}[DecidableEq R]{xs:List T}{K:List T→Option R}{r:R}(h:L8 xs K=some r):∀p:List T,p.Perm xs→K p=some r:=λp hp=>by
 unfold L8 at h
 cases hk:K xs with
 | none=>rw[hk] at h;cases h
 | some q=>
  rw[hk] at h;simp only at h
  cases ha:(EL xs).all (λp=>decide (K p=some q)) with
  | false=>rw[ha] at h;cases h
  | true=>
   rw[ha] at h;cases h;exact of_decide_eq_true (List.all_eq_true.1 ha p (I7 xs p hp))
theorem DL (x:T):∀(xs ys:List T),ys∈Dj x xs→ys.Perm (x::xs)
 | [],ys,h=>by simp[Dj] at h;rw[h]
 | y::r,ys,h=>by
  simp only[Dj,QO,List.mem_map] at h;rcases h with rfl | ⟨z,hz,rfl⟩
  ·exact Qj _
  ·exact((DL x r z hz).cons y).trans (List.Perm.swap _ _ _)
theorem HO:∀(xs ys:List T),ys∈EL xs→ys.Perm xs
 | [],ys,h=>by simp[EL] at h;rw[h]
 | x::r,ys,h=>by
  simp only[EL,List.mem_flatMap] at h;obtain⟨z,hz,hy⟩:=h;exact(DL x z ys hy).trans ((HO r z hz).cons x)
theorem MR {R:Type}[DecidableEq R]{xs:List T}{K:List T→Option R}{r:R}(h:∀p:List T,p.Perm xs→K p=some r):L8 xs K=some r:=by
 unfold L8;rw[h xs (Qj _)];have:(EL xs).all (λp=>decide (K p=some r))=true:=List.all_eq_true.2 λp hp=>Qn (h p (HO xs p hp));simp only[this];rfl
def KW {St O:Type}(body:T→St→Option (Stp St (Out O St))):List T→St→Option (Out O St)
 | [],s=>some (.go s)
 | x::r,s=>match body x s with
  | none=>none
  | some (.next s')=>KW body r s'
  | some (.out o)=>some o
def P8 {St R:Type}(body:T→St→Option (Stp St (Out R St)))(ys:List T)(K:St→Option R)(r:R):Stp St (Out R St)→Prop
 | .next s'=>∀q:List T,q.Perm ys→BK (KW body q s') (CE K)=some r
 | .out o=>CE K o=some r
theorem Ps {St R:Type}{body:T→St→Option (Stp St (Out R St))}{ys ys':List T}{p:T}{s:St}{K:St→Option R}{r:R}(h:∀q:List T,q.Perm ys→BK (KW body q s) (CE K)=some r)(hp:ys.Perm (p::ys')):∃t,body p s=some t∧P8 body ys' K r t:=by
 have h1:∀q:List T,q.Perm ys'→BK (KW body (p::q) s) (CE K)=some r:=λq hq=>h _ ((hq.cons p).trans hp.symm)
 cases hb:body p s with
 | none=>
  have:=h1 ys' (Qj _);rw[KW,hb] at this;cases this
 | some t=>
  refine⟨t,rfl,?_⟩
  cases t with
  | next s'=>
   intro q hq;have:=h1 q hq;rw[KW,hb] at this;exact this
  | out o=>
   have:=h1 ys' (Qj _);rw[KW,hb] at this;exact this
theorem NW {St R:Type}{body:T→St→Option (Stp St (Out R St))}{ys:List T}{s:St}{K:St→Option R}{r:R}(h:∀q:List T,q.Perm ys→BK (KW body q s) (CE K)=some r)(hy:ys=[]):K s=some r:=by
 subst hy;exact h [] (Qj _)
theorem LG {St R:Type}{body:T→St→Option (Stp St (Out R St))}{ys:List T}{s':St}{K:St→Option R}{r:R}{t:Stp St (Out R St)}(h:some (Stp.next s')=some t)(ht:P8 body ys K r t):∀q:List T,q.Perm ys→BK (KW body q s') (CE K)=some r:=by cases h;exact ht
theorem NJ {ys ys':List T}{p:T}(h:ys.Perm (p::ys')):ys'.length<ys.length:=by rw[h.length_eq];exact QA _
end
section
variable {T S : Type}
def Ip (lt:T→T→Bool)(x:T):List T→List T
 | []=>[x]
 | y::r=>bif lt y x then y::Ip lt x r else x::y::r
def srt (lt:T→T→Bool):List T→List T
 | []=>[]
 | x::r=>Ip lt x (srt lt r)
theorem Dn (lt:T→T→Bool)(x:T):∀xs:List T,(Ip lt x xs).Perm (x::xs)
 | []=>Qj _
 | y::r=>by
  rw[Ip]
  cases lt y x with
  | true=>exact((Dn lt x r).cons y).trans (List.Perm.swap _ _ _)
  | false=>exact Qj _
theorem En (lt:T→T→Bool):∀xs:List T,(srt lt xs).Perm xs
 | []=>Qj _
 | x::r=>(Dn lt x _).trans ((En lt r).cons x)
def DJ (lt:T→T→Bool):List T→Bool
 | []=>true
 | x::r=>r.all (λy=>lt x y||lt y x)&&DJ lt r
structure Ow (lt:T→T→Bool):Prop where
 irrefl:∀x,lt x x=false
 ntrans:∀x y z,lt x y=false→lt y z=false→lt x z=false
 asym:∀x y,lt x y=true→lt y x=false
theorem ES {lt:T→T→Bool}:∀{xs:List T},DJ lt xs=true→xs.Pairwise λx y=>(lt x y||lt y x)=true
 | [],_=>List.Pairwise.nil
 | x::r,h=>by
  simp only[DJ,Qm,Q0] at h;exact List.pairwise_cons.2 ⟨λy hy=>h.1 y hy,ES h.2⟩
theorem J6 {R:T→T→Prop}(hs:∀x y,R x y→R y x):∀{xs:List T},xs.Pairwise R→∀a b,a∈xs→b∈xs→a=b∨R a b
 | [],_,a,b,h,_=>by cases h
 | x::r,h,a,b,ha,hb=>by
  rw[List.pairwise_cons] at h;rcases List.mem_cons.1 ha with e | ha1
  ·rcases List.mem_cons.1 hb with e2 | hb1
   ·exact .inl (e.trans e2.symm)
   ·exact .inr (e▸h.1 b hb1)
  ·rcases List.mem_cons.1 hb with e2 | hb1
   ·exact .inr (hs _ _ (e2▸h.1 a ha1))
   ·exact J6 hs h.2 a b ha1 hb1
theorem Ep {lt:T→T→Bool}(L:Ow lt)(x:T):∀{xs:List T},(xs.Pairwise λx y=>lt y x=false)→(Ip lt x xs).Pairwise λx y=>lt y x=false
 | [],_=>List.pairwise_singleton _ _
 | y::r,h=>by
  rw[List.pairwise_cons] at h;rw[Ip]
  cases hy:lt y x with
  | true=>
   refine List.pairwise_cons.2 ⟨λz hz=>?_,Ep L x h.2⟩;rcases List.mem_cons.1 ((Dn lt x r).subset hz) with e | h1
   ·rw[e];exact L.asym _ _ hy
   ·exact h.1 z h1
  | false=>
   refine List.pairwise_cons.2 ⟨λz hz=>?_,List.pairwise_cons.2 h⟩;rcases List.mem_cons.1 hz with e | h1
   ·rw[e];exact hy
   ·exact L.ntrans _ _ _ (h.1 z h1) hy
theorem ER {lt:T→T→Bool}(L:Ow lt):∀xs:List T,(srt lt xs).Pairwise λx y=>lt y x=false
 | []=>List.Pairwise.nil
 | x::r=>Ep L x (ER L r)
theorem Kk {lt:T→T→Bool}(L:Ow lt){xs ys:List T}(hd:DJ lt xs=true)(hp:ys.Perm xs)(hs:ys.Pairwise λx y=>lt y x=false):ys=srt lt xs:=by
 refine List.Perm.eq_of_pairwise (le:=λx y=>lt y x=false) ?_ hs (ER L xs) (hp.trans (En lt xs).symm);intro a b ha hb h2 h3;have hb':b∈xs:=(En lt xs).subset hb;rcases J6 (R:=λx y=>(lt x y||lt y x)=true) (λx y h=>by rw[Bool.or_comm];exact h) (ES hd) a b (hp.subset ha) hb' with h | h
 ·exact h
 ·rw[h2,h3] at h;cases h
theorem Kl {lt:T→T→Bool}{xs ys:List T}(hd:DJ lt xs=true)(hp:ys.Perm xs):DJ lt ys=true:=by
 have h1:=(hp.symm.pairwise_iff (R:=λx y=>(lt x y||lt y x)=true) (fun {x y} h=>by rw[Bool.or_comm];exact h)).1 (ES hd);clear hd hp
 induction ys with
 | nil=>rfl
 | cons x r ih=>
  rw[List.pairwise_cons] at h1;simp only[DJ,Qm,Q0];exact⟨h1.1,ih h1.2⟩
theorem Lv {lt:T→T→Bool}(L:Ow lt){xs ys:List T}(hd:DJ lt xs=true)(hp:ys.Perm xs):srt lt ys=srt lt xs:=Kk L hd ((En lt ys).trans hp) (ER L ys)
inductive All2 (R:T→S→Prop):List T→List S→Prop
 | nil:All2 R [] []
 | cons {x y xs ys}:R x y→All2 R xs ys→All2 R (x::xs) (y::ys)
theorem All2.length {R:T→S→Prop}{xs:List T}{ys:List S}(h:All2 R xs ys):xs.length=ys.length:=by
 induction h with
 | nil=>rfl
 | cons _ _ ih=>simp[ih]
theorem All2.perm {R:T→S→Prop}{ys zs:List S}(hp:ys.Perm zs):∀{xs:List T},All2 R xs ys→∃xs',xs'.Perm xs∧All2 R xs' zs:=by
 induction hp with
 | nil=>intro xs h;exact⟨xs,Qj _,h⟩
 | cons a _ ih=>
  intro xs h
  cases h with
  | cons h1 h2=>obtain⟨x',p,h3⟩:=ih h2;exact⟨_,p.cons _,.cons h1 h3⟩
 | swap a b l=>
  intro xs h
  cases h with
  | cons h1 h2=>cases h2 with
   | cons h3 h4=>exact⟨_,List.Perm.swap _ _ _,.cons h3 (.cons h1 h4)⟩
 | trans _ _ ih1 ih2=>
  intro xs h;obtain⟨x1,p1,h1⟩:=ih1 h;obtain⟨x2,p2,h2⟩:=ih2 h1;exact⟨x2,p2.trans p1,h2⟩
theorem All2.pairwise {R:T→S→Prop}{p:T→T→Prop}{q:S→S→Prop}(hpq:∀x x' y y',R x y→R x' y'→q y y'→p x x'){xs:List T}{ys:List S}(h:All2 R xs ys):ys.Pairwise q→xs.Pairwise p:=by
 have key:∀{xs:List T} {ys:List S},All2 R xs ys→∀x∈xs,∃y∈ys,R x y:=fun {xs ys} h=>by
  induction h with
  | nil=>intro x hx;cases hx
  | cons h1 _ ih=>
   intro x hx;rcases List.mem_cons.1 hx with rfl | hx
   ·exact⟨_,List.mem_cons_self ..,h1⟩
   ·obtain⟨y,hy,hr⟩:=ih x hx;exact⟨y,List.mem_cons_of_mem _ hy,hr⟩
 induction h with
 | nil=>intro _;exact List.Pairwise.nil
 | cons h1 h2 ih=>
  intro hq;rw[List.pairwise_cons] at hq ⊢;refine⟨λx' hx'=>?_,ih hq.2⟩;obtain⟨y',hy',hr⟩:=key h2 x' hx';exact hpq _ _ _ _ h1 hr (hq.1 y' hy')
end
theorem Eo:∀a:Ai,Bg a a=false
 | []=>rfl
 | x::a=>by
  show Op.bytesLess (x::a) (x::a)=false;have h : ¬ x<x:=λh=>absurd h (by simp);have ih:Op.bytesLess a a=false:=Eo a;simp[Op.bytesLess,h,ih]
theorem IQ (x y:UInt8)(a b:Ai):Bg (x::a) (y::b)=(decide (x<y)||(decide (x=y)&&Bg a b)):=by
 show Op.bytesLess (x::a) (y::b)=_;simp only[Op.bytesLess]
 by_cases h:x<y
 ·simp[h]
 ·by_cases e:x=y
  ·subst e;simp[h]
  ·have:y<x:=by
    rcases Nat.lt_trichotomy x.toNat y.toNat with h1 | h1 | h1
    ·exact absurd (UInt8.lt_iff_toNat_lt.2 h1) h
    ·exact absurd (UInt8.toNat_inj.1 h1) e
    ·exact UInt8.lt_iff_toNat_lt.2 h1
   simp[h,e,this]
theorem DI:∀{a b c:Ai},Bg a b=true→Bg b c=true→Bg a c=true
 | [],[],_,h,_=>by cases h
 | [],_::_,[],_,h=>by cases h
 | [],_::_,_::_,_,_=>rfl
 | _::_,[],_,h,_=>by cases h
 | _::_,_::_,[],_,h=>by cases h
 | x::a,y::b,z::c,h,h'=>by
  rw[IQ] at h h' ⊢;simp only[QT,Qh,Qm] at h h' ⊢;have t:∀{u v:UInt8},u<v↔u.toNat<v.toNat:=UInt8.lt_iff_toNat_lt;rcases h with h | ⟨rfl,h⟩
  ·rcases h' with h' | ⟨rfl,h'⟩
   ·exact .inl (t.2 (Nat.lt_trans (t.1 h) (t.1 h')))
   ·exact .inl h
  ·rcases h' with h' | ⟨rfl,h'⟩
   ·exact .inl h'
   ·exact .inr ⟨rfl,DI h h'⟩
theorem Gm:∀(a b:Ai),Bg a b=true∨a=b∨Bg b a=true
 | [],[]=>.inr (.inl rfl)
 | [],_::_=>.inl rfl
 | _::_,[]=>.inr (.inr rfl)
 | x::a,y::b=>by
  rw[IQ,IQ];simp only[QT,Qh,Qm];rcases Nat.lt_trichotomy x.toNat y.toNat with h1 | h1 | h1
  ·exact .inl (.inl (UInt8.lt_iff_toNat_lt.2 h1))
  ·have e:=UInt8.toNat_inj.1 h1;subst e;rcases Gm a b with h | rfl | h
   ·exact .inl (.inr ⟨rfl,h⟩)
   ·exact .inr (.inl rfl)
   ·exact .inr (.inr (.inr ⟨rfl,h⟩))
  ·exact .inr (.inr (.inl (UInt8.lt_iff_toNat_lt.2 h1)))
theorem Jx {a b:Ai}(h:Bg a b=true):Bg b a=false:=by
 cases h':Bg b a with
 | false=>rfl
 | true=>have:=DI h h';rw[Eo] at this;cases this
theorem Pm {a b:Ai}(h:Bg a b=true):a≠b:=λe=>by subst e;rw[Eo] at h;cases h
section
variable {T : Type}
def Ms (xs:List (Ai×T)):Prop:=xs.Pairwise λp q=>Bg p.1 q.1=true
theorem Ms.nil:Ms ([]:List (Ai×T)):=List.Pairwise.nil
theorem Ms.nodup {xs:List (Ai×T)}(h:Ms xs):(xs.map (·.1)).Nodup:=by
 rw[List.Nodup,List.pairwise_map];exact h.imp λhpq=>Pm hpq
theorem DW {xs:List (Ai×T)}{k:Ai}:Bk xs k=none↔∀p∈xs,p.1≠k:=by
 induction xs with
 | nil=>simp[Bk]
 | cons p r ih=>
  rw[Bk]
  by_cases h:p.1=k
  ·rw[Qn h];simp[h]
  ·rw[Ql h];simp[h,ih]
theorem CW {xs:List (Ai×T)}{k:Ai}{v:T}(h:Bk xs k=some v):(k,v)∈xs:=by
 induction xs with
 | nil=>cases h
 | cons p r ih=>
  rw[Bk] at h
  by_cases e:p.1=k
  ·rw[Qn e] at h;cases h;subst e;exact List.mem_cons_self ..
  ·rw[Ql e] at h;exact List.mem_cons_of_mem _ (ih h)
theorem Es {xs:List (Ai×T)}{k:Ai}{v:T}(hn:(xs.map (·.1)).Nodup)(h:(k,v)∈xs):Bk xs k=some v:=by
 induction xs with
 | nil=>cases h
 | cons p r ih=>
  rw[QB,List.nodup_cons] at hn;rw[Bk];rcases List.mem_cons.1 h with h | h
  ·subst h;rw[Qn rfl];rfl
  ·have hne : ¬ p.1=k:=λe=>hn.1 (by rw[e];exact List.mem_map.2 ⟨(k,v),h,rfl⟩);rw[Ql hne];exact ih hn.2 h
theorem LC (xs:List (Ai×T))(k k':Ai)(v:T):Bk (mput xs k v) k'=bif decide (k'=k) then(Bk xs k).map (λ_=>v) else Bk xs k':=by
 induction xs with
 | nil=>cases decide (k'=k)<;>rfl
 | cons p r ih=>
  show Bk ((bif decide (p.1=k) then(k,v) else p)::mput r k v) k'=_
  by_cases h:p.1=k
  ·rw[Qn h];simp only[Qv,Bk]
   by_cases e:k'=k
   ·subst e;rw[Qn rfl,h,Qn rfl];rfl
   ·rw[Ql (Ne.symm e),Ql e,ih,Ql e,h,Ql (Ne.symm e)];rfl
  ·rw[Ql h];simp only[Qr,Bk];rw[ih]
   by_cases e:k'=k
   ·subst e;rw[Qn rfl,Ql h];rfl
   ·rw[Ql e]
    cases decide (p.1=k')<;>rfl
theorem LD (xs:List (Ai×T))(k k':Ai)(v:T)(h:Bk xs k=none):Bk (mins k v xs) k'=bif decide (k'=k) then some v else Bk xs k':=by
 induction xs with
 | nil=>
  show(bif decide (k=k') then some v else none)=bif decide (k'=k) then some v else none
  by_cases e:k'=k
  ·rw[Qn e,Qn e.symm]
  ·rw[Ql e,Ql (Ne.symm e)]
 | cons p r ih=>
  rw[Bk] at h
  by_cases hk:p.1=k
  ·rw[Qn hk] at h;cases h
  ·rw[Ql hk] at h;rw[mins]
   cases Bg k p.1 with
   | true=>
    simp only[Qv,Bk]
    by_cases e:k'=k
    ·subst e;rw[Qn rfl]
     try rfl
    ·rw[Ql e,Ql (Ne.symm e)]
     try rfl
   | false=>
    simp only[Qr,Bk];rw[ih h]
    by_cases e:k'=k
    ·subst e;rw[Qn rfl,Ql hk];rfl
    ·rw[Ql e]
     cases decide (p.1=k')<;>rfl
theorem LB (xs:List (Ai×T))(k k':Ai)(v:T):Bk (mset xs k v) k'=bif decide (k'=k) then some v else Bk xs k':=by
 unfold mset CJ
 cases h:Bk xs k with
 | none=>exact LD xs k k' v h
 | some w=>
  simp only[Option.isSome_some,Qv];rw[LC,h]
  cases decide (k'=k)<;>rfl
theorem JG {k:Ai}{v:T}{q:Ai×T}:∀{xs:List (Ai×T)},q∈mins k v xs→q=(k,v)∨q∈xs
 | [],h=>by simp[mins] at h;exact .inl h
 | p::r,h=>by
  rw[mins] at h
  cases hs:Bg k p.1 with
  | true=>rw[hs] at h;simpa using h
  | false=>
   rw[hs] at h;rcases List.mem_cons.1 h with h | h
   ·exact .inr (by rw[h];exact List.mem_cons_self ..)
   ·rcases JG h with h | h
    ·exact .inl h
    ·exact .inr (List.mem_cons_of_mem _ h)
theorem Ms.mins {k:Ai}{v:T}:∀{xs:List (Ai×T)},Ms xs→Bk xs k=none→Ms (mins k v xs)
 | [],_,_=>List.pairwise_singleton ..
 | p::r,h,hk=>by
  obtain⟨h1,h2⟩:=List.pairwise_cons.1 h;rw[Bk] at hk
  by_cases e:p.1=k
  ·rw[Qn e] at hk;cases hk
  ·rw[Ql e] at hk;rw[Proofs.YtkoiaconljdbeaaDoor.mins]
   cases hs:Bg k p.1 with
   | true=>exact List.pairwise_cons.2 ⟨λq hq=>by
     rcases List.mem_cons.1 hq with rfl | hq
     ·exact hs
     ·exact DI hs (h1 q hq),h⟩
   | false=>
    have hp:Bg p.1 k=true:=by
     rcases Gm p.1 k with h | h | h
     ·exact h
     ·exact absurd h e
     ·rw[h] at hs;cases hs
    exact List.pairwise_cons.2 ⟨λq hq=>by
     rcases JG hq with rfl | hq
     ·exact hp
     ·exact h1 q hq,Ms.mins h2 hk⟩
theorem Ms.mput {xs:List (Ai×T)}(h:Ms xs)(k:Ai)(v:T):Ms (mput xs k v):=by
 unfold Proofs.YtkoiaconljdbeaaDoor.mput;unfold Ms;rw[List.pairwise_map];refine h.imp fun {p q} hpq=>?_;have e:∀p:Ai×T,(bif decide (p.1=k) then(k,v) else p).1=p.1:=λp=>by
  by_cases hp:p.1=k
  ·rw[Qn hp];exact hp.symm
  ·rw[Ql hp];rfl
 rw[e,e];exact hpq
theorem Ms.mset {xs:List (Ai×T)}(h:Ms xs)(k:Ai)(v:T):Ms (mset xs k v):=by
 unfold Proofs.YtkoiaconljdbeaaDoor.mset CJ
 cases hk:Bk xs k with
 | none=>exact h.mins hk
 | some w=>exact h.mput k v
theorem Ms.mdel {xs:List (Ai×T)}(h:Ms xs)(k:Ai):Ms (mdel xs k):=h.sublist (List.filter_sublist ..)
theorem Ms.ext:∀{xs ys:List (Ai×T)},Ms xs→Ms ys→(∀k,Bk xs k=Bk ys k)→xs=ys
 | [],[],_,_,_=>rfl
 | [],q::s,_,_,h=>by
  have:=h q.1;rw[Bk,Bk,Qn rfl] at this;cases this
 | p::r,[],_,_,h=>by
  have:=h p.1;rw[Bk,Bk,Qn rfl] at this;cases this
 | p::r,q::s,hx,hy,h=>by
  obtain⟨x1,x2⟩:=List.pairwise_cons.1 hx;obtain⟨y1,y2⟩:=List.pairwise_cons.1 hy;have hpq:p.1=q.1:=by
   have a1:=h p.1;have a2:=h q.1;rw[Bk,Qn rfl] at a1;rw[show Bk (q::s) q.1=bif decide (q.1=q.1) then some q.2 else Bk s q.1 from rfl,Qn rfl] at a2;simp only[Qv] at a1 a2;have m1:=CW a1.symm;have m2:=CW a2;rcases List.mem_cons.1 m1 with e | m1
   ·exact congrArg Prod.fst e
   ·rcases List.mem_cons.1 m2 with e | m2
    ·exact(congrArg Prod.fst e).symm
    ·have c1:=y1 _ m1;have c2:=x1 _ m2;have:=DI c1 c2;rw[Eo] at this;cases this
  have e:p=q:=by
   have a1:=h p.1;rw[Bk,Qn rfl,Bk,Qn hpq.symm] at a1;simp only[Qv,Option.some.injEq] at a1;exact Prod.ext hpq a1
  subst e;rw[Ms.ext x2 y2 λk=>by
   have a1:=h k;rw[Bk,Bk] at a1
   by_cases e:p.1=k
   ·have n1:Bk r k=none:=DW.2 λz hz e'=>by have:=x1 z hz;rw[e',← e,Eo] at this;cases this
    have n2:Bk s k=none:=DW.2 λz hz e'=>by have:=y1 z hz;rw[e',← e,Eo] at this;cases this
    rw[n1,n2]
   ·rw[Ql e] at a1;exact a1]
end
def BZ (n1 n2:Int)(s1 s2:Ai):Bool:=decide (n1<n2)||(decide (n1=n2)&&Bg s1 s2)
theorem EC {n1 n2:Int}{s1 s2:Ai}:BZ n1 n2 s1 s2=true↔n1<n2∨(n1=n2∧Bg s1 s2=true):=by
 unfold BZ;simp
theorem Hv {n1 n2:Int}{s1 s2:Ai}:BZ n1 n2 s1 s2=false↔¬ n1<n2∧(n1=n2→Bg s1 s2=false):=by
 unfold BZ;simp
theorem I8 (n:Int)(s:Ai):BZ n n s s=false:=Hv.2 ⟨Int.lt_irrefl n,λ_=>Eo s⟩
theorem Lw {a b c:Ai}(h1:Bg a b=false)(h2:Bg b c=false):Bg a c=false:=by
 cases h:Bg a c with
 | false=>rfl
 | true=>
  rcases Gm a b with h3 | h3 | h3
  ·rw[h3] at h1;cases h1
  ·subst h3;rw[h] at h2;cases h2
  ·have:=DI h3 h;rw[this] at h2;cases h2
theorem Gw {n1 n2 n3:Int}{s1 s2 s3:Ai}(h1:BZ n1 n2 s1 s2=false)(h2:BZ n2 n3 s2 s3=false):BZ n1 n3 s1 s3=false:=by
 rw[Hv] at *;refine⟨by omega,λe=>?_⟩;have e1:n1=n2:=by omega
 have e2:n2=n3:=by omega
 exact Lw (h1.2 e1) (h2.2 e2)
theorem JJ {n1 n2 n3:Int}{s1 s2 s3:Ai}(h1:BZ n1 n2 s1 s2=true)(h2:BZ n2 n3 s2 s3=true):BZ n1 n3 s1 s3=true:=by
 rw[EC] at *;rcases h1 with h1 | ⟨e1,h1⟩
 ·rcases h2 with h2 | ⟨e2,h2⟩
  ·exact .inl (by omega)
  ·exact .inl (by omega)
 ·rcases h2 with h2 | ⟨e2,h2⟩
  ·exact .inl (by omega)
  ·exact .inr ⟨by omega,DI h1 h2⟩
theorem Kx {n1 n2:Int}{s1 s2:Ai}(h:BZ n1 n2 s1 s2=true):BZ n2 n1 s2 s1=false:=by
 rw[EC] at h;rw[Hv];rcases h with h | ⟨e,h⟩
 ·exact⟨by omega,λe=>by omega⟩
 ·exact⟨by omega,λ_=>Jx h⟩
theorem JK {n1 n2:Int}{s1 s2:Ai}(h1:BZ n1 n2 s1 s2=false)(h2:BZ n2 n1 s2 s1=false):n1=n2∧s1=s2:=by
 rw[Hv] at *;have e:n1=n2:=by omega
 refine⟨e,?_⟩;rcases Gm s1 s2 with h | h | h
 ·rw[h1.2 e] at h;cases h
 ·exact h
 ·rw[h2.2 e.symm] at h;cases h
theorem Kw {T:Type}(n:T→Int)(s:T→Ai):Ow λx y=>BZ (n x) (n y) (s x) (s y):=⟨λx=>I8 _ _,λx y z h1 h2=>Gw h1 h2,λx y h=>Kx h⟩
structure Ab where
 fID:Ai
 fAt:Int
 fTenant:Ai
 fSource:Ai
 fBody:(List Ad)
 deriving DecidableEq,Inhabited
def Ic (ys:(List Ad)):Option ((List Ad)):=
 B9 (Ob 40 (([]:List Ad).length+ys.length))<|some (([]:List Ad)++ys)
def Ec (n:Int):Option (Bool):=
 some ((decide (0≤n))&&(decide (n≤1073741824)))
def HF (F:Nat)(t:Ab):Option (Int):=
 BJ (!(Nf t.fID)) (some 4) (BK (Ec t.fAt) λr5=>BJ (!r5) (some 2) (BJ (((!(C7 t.fTenant))||(!(C7 t.fSource)))) (some 4) (BK (H9 F t.fBody) λha=>some ha)))
def Lt (t:Ab):Option (Ab):=
 BK (Ic t.fBody) λr3=>some (Ab.mk t.fID t.fAt t.fTenant t.fSource r3)
end Go.Proofs.YtkoiaconljdbeaaDoor
namespace Go.Proofs.YtkoiaconljdbeaaDoor.Q
open Go Go.RowKit
set_option linter.unusedVariables false
set_option linter.unusedSimpArgs false
def K6 (ops:List Oper)(N:Nat):Bool:=
 let cl:=Id ops []
 (List.range ops.length).all (λi=>(CT (ops.getD i default)).all (·<i))&&
 (List.range ops.length).all (λi=>i<N||(List.range i).all (λj=>(cl.getD i 0).testBit j))
section
variable {P : Program} {Q : Exit → Act → World → Prop}
theorem JY {listed:Array Bool}{len m:Nat}(hs:listed.size=len)(hm:m≤len)(h:∀j,j<len→(listed.getD j true=true↔j<m)):listed.toList.count false=len-m:=by
 have:listed.toList=List.replicate m true++List.replicate (len-m) false:=by
  apply List.ext_getElem
  ·simp[hs];omega
  ·intro j h1 h2;have hj:j<len:=by simpa[hs] using h1
   have:=h j hj;rw[Array.getD_eq_getD_getElem?,Array.getElem?_eq_getElem (by omega)] at this;simp only[QI] at this;rw[Array.getElem_toList,List.getElem_append]
   split
   ·rename_i h3
    simp at h3;simp[this.2 h3]
   ·rename_i h3
    simp at h3;simp only[List.getElem_replicate]
    cases hb:listed[j] with
    | false=>rfl
    | true=>have:=this.1 hb;omega
 rw[this];simp[List.count_append,List.count_replicate]
theorem Lc {listed:Array Bool}{j:Nat}(h:j<listed.size)(d d':Bool):listed.getD j d=listed.getD j d':=by
 simp[Array.getD_eq_getD_getElem?,Array.getElem?_eq_getElem h]
theorem Ie {ops:List Oper}{listed:Array Bool}{i:Nat}{o:Oper}(ho:ops[i]? =some o)(hb:∀e∈CT o,listed.getD e true=true)
  (hcl:∀j o,ops[j]? =some o→listed.getD j true=true→∀e∈CT o,listed.getD e true=true) (j:Nat) (h:((Id ops []).getD i 0).testBit j=true):j=i∨listed.getD j true=true:=
 DP ops (λk=>k=i∨listed.getD k true=true) ops [] (λt o' ht e he hF=>by
  rcases hF with hF | hF
  ·simp at hF;subst hF;rw[ho] at ht;simp at ht;subst ht;exact .inr (hb e he)
  ·exact .inr (hcl t o' ht (by simpa using hF) e he)) (λj i hb=>by simp at hb) i j h (.inl rfl)
theorem EU {ops:List Oper}{listed:Array Bool}{i:Nat}(hsz:listed.size=ops.length)(hlt:∀i,i<ops.length→∀e∈CT (ops.getD i default),e<i)(h:i∈Region.ready .any ops.toArray listed) :
  listed.getD i true=false∧i<ops.length∧∃o,ops[i]? =some o∧∀e∈CT o,listed.getD e true=true:=by
 obtain⟨h1,o,ho,h2⟩:=mem_ready.1 h;have ho':ops[i]? =some o:=by simpa using ho
 have hil:=(List.getElem?_eq_some_iff.1 ho').1;refine⟨h1,hil,o,ho',λe he=>?_⟩;have hei:=hlt i hil e (by rw[Qp,ho'];exact he);simp only[CT,List.mem_map,List.mem_filter] at he;obtain⟨x,⟨hx1,hx2⟩,rfl⟩:=he;have h3:=h2 x (by simpa using hx1) hx2;rw[Lc (by omega) true false];exact h3
theorem EN {ops:List Oper}{listed:Array Bool}(hsz:listed.size=ops.length)(hlt:∀i,i<ops.length→∀e∈CT (ops.getD i default),e<i)(h:Region.ready .any ops.toArray listed=[]) :
  ∀j,j<ops.length→listed.getD j true=true:=by
 intro j
 induction j using Nat.strongRecOn with
 | ind j ih=>
  intro hj
  cases hb:listed.getD j true with
  | true=>rfl
  | false=>
   have:j∈Region.ready .any ops.toArray listed:=mem_ready.2 ⟨hb,ops[j],by simp[hj],λe he hbn=>by
    have hel:e.on<j:=hlt j hj e.on (by
     rw[Qp,Qk hj];simp only[CT,QI,List.mem_map,List.mem_filter];exact⟨e,⟨by simpa using he,hbn⟩,rfl⟩)
    rw[Lc (by omega) false true];exact ih e.on hel (by omega)⟩
   rw[h] at this;cases this
theorem Hq {listed:Array Bool}{i j:Nat}(hi:i<listed.size):(listed.setIfInBounds i true).getD j true=true↔(j=i∨listed.getD j true=true):=by
 by_cases hj:i=j
 ·subst hj;simp[hi]
 ·rw[getD_set_ne true hj];exact⟨.inr,λh=>h.elim (λh=>absurd h.symm hj) id⟩
theorem Lx {listed:Array Bool}{i fuel:Nat}(hi:i<listed.size)(hun:listed.getD i true=false)(hc:listed.toList.count false=fuel+1):(listed.setIfInBounds i true).toList.count false=fuel:=by
 have hfi:listed.toList[i]? =some false:=by
  rw[Array.getD_eq_getD_getElem?,Array.getElem?_eq_getElem hi] at hun;simp at hun;simp[hi,hun]
 rw[Array.toList_setIfInBounds];have h1:=List.count_set (a:=true) (b:=false) (l:=listed.toList) (i:=i) (by simpa using hi);have h2:listed.toList[i]'(by simpa using hi)=false:=by
  have:=List.getElem?_eq_some_iff.1 hfi;exact this.2
 rw[h1,h2,hc];rfl
theorem GS {ops:List Oper}{N:Nat}(hlt:∀i,i<ops.length→∀e∈CT (ops.getD i default),e<i)
  (hch:∀i,N≤i→i<ops.length→∀j,j<i→((Id ops []).getD i 0).testBit j=true):∀(k m:Nat) (listed:Array Bool) (a:Act) (w:World),m+k=ops.length→N≤m→listed.size=ops.length→
   (∀j,j<ops.length→(listed.getD j true=true↔j<m))→(∀j o,ops[j]? =some o→listed.getD j true=true→∀e∈CT o,listed.getD e true=true)→wpList P ops.toArray Q (ops.drop m) a w→wpAny P .any ops.toArray Q k listed a w
 | 0,m,listed,a,w,hk,hN,hsz,hl,hcl,h=>by
  refine⟨?_,?_⟩
  ·cases hr:Region.ready .any ops.toArray listed with
   | nil=>rfl
   | cons i r=>
    obtain⟨h1,h2,_⟩:=EU hsz hlt (i:=i) (by rw[hr];simp);rw[(hl i h2).2 (by omega)] at h1;cases h1
  ·rw[List.drop_of_length_le (by omega)] at h;exact h
 | k+1,m,listed,a,w,hk,hN,hsz,hl,hcl,h=>by
  refine⟨λhr=>?_,λi hi=>?_⟩
  ·have:=(hl m (by omega)).1 (EN hsz hlt hr m (by omega));omega
  ·obtain⟨h1,h2,o,ho,hb⟩:=EU hsz hlt hi;have him:i=m:=by
    have hmi : ¬ i<m:=λh'=>by rw[(hl i h2).2 h'] at h1;cases h1
    by_cases e:i=m
    ·exact e
    ·rcases Ie ho hb hcl m (hch i (by omega) h2 m (by omega)) with h3 | h3
     ·exact h3.symm
     ·have:=(hl m (by omega)).1 h3;omega
   subst him;have hd:ops.drop i=o::ops.drop (i+1):=by
    rw[List.drop_eq_getElem_cons h2]
    congr 1
    exact(List.getElem?_eq_some_iff.1 ho).2
   rw[hd] at h;have ih:∀a' w',wpList P ops.toArray Q (ops.drop (i+1)) a' w'→wpAny P .any ops.toArray Q k (listed.setIfInBounds i true) a' w':=λa' w' h'=>by
    refine GS hlt hch k (i+1) _ a' w' (by omega) (by omega) (by simpa using hsz) (λj hj=>?_) (λj o' hj hlj e he=>?_) h'
    ·rw[Hq (by omega),hl j hj];omega
    ·rw[Hq (by omega)] at hlj ⊢;rcases hlj with rfl | hlj
     ·rw[ho] at hj;simp at hj;subst hj;exact .inr (hb e he)
     ·exact .inr (hcl j o' hj hlj e he)
   unfold wpOp;have hoA:ops.toArray[i]? =some o:=by simpa using ho
   simp only[hoA];simp only[wpList] at h
   split
   ·rename_i hw'
    rw[if_pos hw'] at h;exact h.imp (λh=>Oper.wp_mono ih h) (λh=>h)
   ·rename_i hw'
    rw[QR hw'] at h;exact ih _ _ h
theorem OA {id:Nat}{ops:List Oper}{N:Nat}(hm:P.follows .mixedOrders=true)(hB:K6 ops N=true)(hN:N≤ops.length)(I:(Nat→Bool)→Act→World→Prop)
  (hext:∀S S' a w,(∀j,j<N→S j=S' j)→I S a w→I S' a w) {a:Act} {w:World} (h0:I (λ_=>false) a { w with drawn:=w.drawn+1 })
  (step:∀S i o a w,i<N→S i=false→ops[i]? =some o→(∀e∈CT o,e<i∧S e=true)→I S a w→∀K:Act→World→Prop,(∀a' w',I (λj=>j ==i||S j) a' w'→K a' w')→
   (Region.wanted o (yielded ops.toArray a.tmps)=true→o.wp P a w K Q)∧(Region.wanted o (yielded ops.toArray a.tmps)=false→K (a.put o.dst undef) w))
  (fin:∀a w,I (λ_=>true) a w→wpList P ops.toArray Q (ops.drop N) a w):(Code.region id ops.toArray true).wp P Q a w:=by
 simp only[K6,Qm,Q0,List.mem_range,Qh,QT] at hB;obtain⟨hlt,hch0⟩:=hB;have hch:∀i,N≤i→i<ops.length→∀j,j<i→((Id ops []).getD i 0).testBit j=true:=λi h1 h2 j hj=>by
  rcases hch0 i h2 with h3 | h3
  ·omega
  ·exact h3 j hj
 refine wp_region_any hm ?_;have main:∀(fuel:Nat) (listed:Array Bool) (a:Act) (w:World),listed.size=ops.length→listed.toList.count false=fuel→I (λj=>listed.getD j true) a w→
   (∀j o,ops[j]? =some o→listed.getD j true=true→∀e∈CT o,listed.getD e true=true)→(∀j,N≤j→j<ops.length→listed.getD j true=false)→wpAny P .any ops.toArray Q fuel listed a w:=by
  intro fuel;have allin:∀(fuel:Nat) (listed:Array Bool) (a:Act) (w:World),listed.size=ops.length→listed.toList.count false=fuel→I (λj=>listed.getD j true) a w→
   (∀j o,ops[j]? =some o→listed.getD j true=true→∀e∈CT o,listed.getD e true=true)→(∀j,N≤j→j<ops.length→listed.getD j true=false)→(∀j,j<N→listed.getD j true=true)→wpAny P .any ops.toArray Q fuel listed a w:=by
   intro fuel listed a w hsz hc hI hcl hlast hall;have hl:∀j,j<ops.length→(listed.getD j true=true↔j<N):=λj hj=>by
    constructor
    ·intro h
     by_cases hjN:j<N
     ·exact hjN
     ·rw[hlast j (by omega) hj] at h;cases h
    ·exact hall j
   have:=JY hsz hN hl;refine GS hlt hch fuel N listed a w (by omega) (Qx _) hsz hl hcl (fin a w (hext _ _ a w (λj hj=>hall j hj) hI))
  induction fuel with
  | zero=>
   intro listed a w hsz hc hI hcl hlast;refine allin 0 listed a w hsz hc hI hcl hlast (λj hj=>?_)
   cases hb:listed.getD j true with
   | true=>rfl
   | false=>
    have:false∈listed.toList:=by
     rw[Array.getD_eq_getD_getElem?,Array.getElem?_eq_getElem (by omega)] at hb;simp at hb;rw[← hb];simp
    have:=List.count_pos_iff.2 this;omega
  | succ fuel ih=>
   intro listed a w hsz hc hI hcl hlast
   by_cases hall:∀j,j<N→listed.getD j true=true
   ·exact allin (fuel+1) listed a w hsz hc hI hcl hlast hall
   ·refine⟨λhr=>absurd (λj hj=>EN hsz hlt hr j (by omega)) hall,λi hi=>?_⟩;obtain⟨h1,h2,o,ho,hb⟩:=EU hsz hlt hi;have hiN:i<N:=by
     by_cases h:i<N
     ·exact h
     ·refine absurd (λj hj=>?_) hall;rcases Ie ho hb hcl j (hch i (by omega) h2 j (by omega)) with h3 | h3
      ·omega
      ·exact h3
    have K':∀a' w',I (λj=>j ==i||listed.getD j true) a' w'→wpAny P .any ops.toArray Q fuel (listed.setIfInBounds i true) a' w':=λa' w' hI'=>by
     refine ih _ a' w' (by simpa using hsz) (Lx (by omega) h1 hc) (hext _ _ a' w' (λj hj=>?_) hI') (λj o' hj hlj e he=>?_) (λj h3 h4=>?_)
     ·have:=Hq (listed:=listed) (i:=i) (j:=j) (by omega)
      cases hq:(listed.setIfInBounds i true).getD j true with
      | true=>
       rw[hq] at this;rcases this.1 rfl with h | h
       ·simp[h]
       ·simp[h]
      | false=>
       rw[hq] at this;have h5 : ¬ (j=i∨listed.getD j true=true):=λh=>by have:=this.2 h;cases this
       cases hz:listed.getD j true with
       | true=>exact absurd (.inr hz) h5
       | false=>
        have:j≠i:=λh=>h5 (.inl h);simp[this]
     ·rw[Hq (by omega)] at hlj ⊢;rcases hlj with rfl | hlj
      ·rw[ho] at hj;simp at hj;subst hj;exact .inr (hb e he)
      ·exact .inr (hcl j o' hj hlj e he)
     ·rw[getD_set_ne true (by omega)];exact hlast j h3 h4
    obtain⟨k1,k2⟩:=step _ i o a w hiN h1 ho (λe he=>⟨hlt i h2 e (by rw[Qp,ho];exact he),hb e he⟩) hI _ K';unfold wpOp;have hoA:ops.toArray[i]? =some o:=by simpa using ho
    simp only[hoA]
    split
    ·rename_i hw';exact .inl (k1 hw')
    ·rename_i hw';exact k2 (by simpa using hw')
 have e0:∀j,j<ops.length→(Array.replicate ops.length false).getD j true=false:=λj hj=>by simp[hj]
 have hsz0:ops.toArray.size=ops.length:=by simp
 rw[hsz0];refine main ops.length (Array.replicate ops.length false) a _ (by simp) (by simp) (hext _ _ _ _ (λj hj=>(e0 j (by omega)).symm) h0) (λj o hj hl=>?_) (λj _ h2=>e0 j h2);rw[e0 j (List.getElem?_eq_some_iff.1 hj).1] at hl;cases hl
end
structure Sa where
 deps:List Nat
 r:Rp
 al:Option (List Rp×TypeId):=none
 late:Option (Nat×List Rp):=none
 sto:Option Nat:=none
def CV (sp:List Sa)(i:Nat):Sa:=sp.getD i { deps:=[],r:=rv undef }
def Nt (sp:List Sa):List Sp:=sp.map λs=>⟨s.deps,s.r,0⟩
def GB (β:Nat→Nat)(s:Sa)(i:Nat):Rp:=match s.al with
 | none=>s.r
 | some _=>rv (.pointer (some ⟨β i,0,none⟩))
def GN (S:Nat→Bool)(late:Option (Nat×List Rp))(cs:List Rp):List Rp:=match late with
 | none=>cs
 | some q=>if S q.1 then q.2 else cs
def Dl (S:Nat→Bool)(β:Nat→Nat):List Sa→Nat→List Ent
 | [],_=>[]
 | s::r,t=>match s.al with
  | some p=>if S t then .blk (β t) (GN S s.late p.1) p.2::Dl S β r (t+1) else Dl S β r (t+1)
  | none=>Dl S β r (t+1)
def LO (β:Nat→Nat):List Sa→Nat→List Ent
 | [],_=>[]
 | s::r,t=>match s.al with
  | some p=>.blk (β t) (match s.late with | none=>p.1 | some q=>q.2) p.2::LO β r (t+1)
  | none=>LO β r (t+1)
def Ii (β:Nat→Nat):List Oper→List Sa→Nat→Fr→Fr
 | o::os,s::sp,i,l=>match o.dst with
  | some d=>(d,GB β s i)::Ii β os sp (i+1) l
  | none=>Ii β os sp (i+1) l
 | _,_,_,l=>l
theorem Gb {S S':Nat→Bool}{late:Option (Nat×List Rp)}{cs:List Rp}(h:∀q,late=some q→S q.1=S' q.1):GN S late cs=GN S' late cs:=by
 unfold GN
 cases late with
 | none=>rfl
 | some q=>simp only[];rw[h q rfl]
theorem CB (S:Nat→Bool)(β:Nat→Nat)(s:Sa)(r:List Sa)(t:Nat):Dl S β (s::r) t=match s.al with
  | some p=>if S t then .blk (β t) (GN S s.late p.1) p.2::Dl S β r (t+1) else Dl S β r (t+1)
  | none=>Dl S β r (t+1):=rfl
theorem D1 {S S':Nat→Bool}{β β':Nat→Nat}:∀(r:List Sa) (t0:Nat),(∀(t:Nat) (s:Sa),r[t]? =some s→s.al≠none→S (t0+t)=S' (t0+t)∧(S (t0+t)=true→β (t0+t)=β' (t0+t)∧∀q,s.late=some q→S q.1=S' q.1))→Dl S β r t0=Dl S' β' r t0
 | [],_,_=>rfl
 | s::r,t0,h=>by
  have ih:=D1 r (t0+1) (λt s hs hn=>by
   have:=h (t+1) s (by simpa using hs) hn;rw[show t0+1+t=t0+(t+1) from by omega];exact this)
  unfold Dl;rw[ih]
  cases ha:s.al with
  | none=>rfl
  | some p=>
   obtain⟨h1,h2⟩:=h 0 s rfl (by rw[ha];exact nofun);simp only[Nat.add_zero] at h1 h2;simp only[];rw[← h1]
   split
   ·rename_i hS;rw[(h2 hS).1,Gb (h2 hS).2]
   ·rfl
theorem JW (β:Nat→Nat):∀(r:List Sa) (t0:Nat),Dl (λ_=>true) β r t0=LO β r t0
 | [],_=>rfl
 | s::r,t0=>by
  unfold Dl LO;rw[JW β r (t0+1)]
  cases s.al with
  | none=>rfl
  | some p=>cases hl:s.late<;>simp[GN,hl]
theorem IA (β:Nat→Nat):∀(r:List Sa) (t0:Nat),Dl (λ_=>false) β r t0=[]
 | [],_=>rfl
 | s::r,t0=>by
  unfold Dl;rw[IA β r (t0+1)]
  cases s.al<;>simp
theorem JV {S:Nat→Bool}{β:Nat→Nat}{i b:Nat}{p:List Rp×TypeId}:∀(r:List Sa) (t0 k:Nat) (s:Sa),i=t0+k→r[k]? =some s→s.al=some p→S i=false→(∀(t:Nat) (s:Sa) (q:Nat×List Rp),r[t]? =some s→s.al≠none→s.late=some q→q.1≠i)→(∀q,s.late=some q→S q.1=false∧q.1≠i)→
  (Dl (λj=>j ==i||S j) (λj=>if j=i then b else β j) r t0).Perm (.blk b p.1 p.2::Dl S β r t0)
 | [],_,_,_,_,h,_,_,_,_=>by simp at h
 | s'::r,t0,0,s,hi,h,ha,hS,hne,hl=>by
  simp at h hi;subst h;subst hi;have e:=D1 (S:=λj=>j ==i||S j) (S':=S) (β:=λj=>if j=i then b else β j) (β':=β) r (i+1) (λt s hs hn=>by
   have:i+1+t≠i:=by omega
   refine⟨by simp[this],λ_=>⟨by simp[this],λq hq=>?_⟩⟩;have:=hne (t+1) s q (by simpa using hs) hn hq;simp[this])
  have ec:GN (λj=>j ==i||S j) s'.late p.1=p.1:=by
   unfold GN
   cases hq:s'.late with
   | none=>rfl
   | some q=>
    obtain⟨h1,h2⟩:=hl q hq;simp[h1,h2]
  unfold Dl;rw[e,ha];simp only[hS,BEq.rfl,QD,if_true,ec];simp
 | s'::r,t0,k+1,s,hi,h,ha,hS,hne,hl=>by
  have ih:=JV (S:=S) (β:=β) (i:=i) (b:=b) (p:=p) r (t0+1) k s (by omega) (by simpa using h) ha hS (λt s q hs=>hne (t+1) s q (by simpa using hs)) hl;have hne0:t0≠i:=by omega
  have hne':(t0 ==i)=false:=by simpa using hne0
  unfold Dl
  cases ha':s'.al with
  | none=>exact ih
  | some q=>
   simp only[hne',Qz,QR hne0];rw[Gb (S:=λj=>j ==i||S j) (S':=S) (λq hq=>by
    have:=hne 0 s' q rfl (by rw[ha'];exact nofun) hq;simp[this])]
   cases hS':S t0 with
   | true=>simpa using(Qq _ ih).trans (List.Perm.swap _ _ _)
   | false=>simpa using ih
theorem JU {S:Nat→Bool}{β:Nat→Nat}{i j:Nat}{p:List Rp×TypeId}{ncs:List Rp}:∀(r:List Sa) (t0 k:Nat) (s:Sa),j=t0+k→r[k]? =some s→s.al=some p→s.late=some (i,ncs)→S j=true→S i=false→(∀(t:Nat) (s:Sa) (q:Nat×List Rp),r[t]? =some s→s.al≠none→s.late=some q→t0+t≠j→q.1≠i)→(∀(t:Nat) (s:Sa),r[t]? =some s→s.al≠none→t0+t≠i)→
  ∃H',(Dl S β r t0).Perm (.blk (β j) p.1 p.2::H')∧(Dl (λj=>j ==i||S j) β r t0).Perm (.blk (β j) ncs p.2::H')
 | [],_,_,_,_,h,_,_,_,_,_,_=>by simp at h
 | s'::r,t0,0,s,hj,h,ha,hl,hSj,hSi,hne,hni=>by
  simp at h hj;subst h;subst hj;have e:=D1 (S:=λx=>x ==i||S x) (S':=S) (β:=β) (β':=β) r (j+1) (λt s hs hn=>by
   have h1:=hni (t+1) s (by simpa using hs) hn;have h1':j+1+t≠i:=by omega
   refine⟨by simp[h1'],λ_=>⟨rfl,λq hq=>?_⟩⟩;have:=hne (t+1) s q (by simpa using hs) hn hq (by omega);simp[this])
  refine⟨Dl S β r (j+1),?_,?_⟩
  ·rw[CB];rw[ha];simp[hSj,GN,hl,hSi]
  ·rw[CB];rw[ha,e];simp[hSj,GN,hl]
 | s'::r,t0,k+1,s,hj,h,ha,hl,hSj,hSi,hne,hni=>by
  obtain⟨H',h1,h2⟩:=JU (S:=S) (β:=β) (i:=i) (j:=j) (p:=p) (ncs:=ncs) r (t0+1) k s (by omega) (by simpa using h) ha hl hSj hSi (λt s q hs hn hq hx=>hne (t+1) s q (by simpa using hs) hn hq (by omega)) (λt s hs hn=>by
   have:=hni (t+1) s (by simpa using hs) hn;omega)
  cases ha':s'.al with
  | none=>exact⟨H',by rw[CB,ha'];exact h1,by rw[CB,ha'];exact h2⟩
  | some q=>
   have hi0:=hni 0 s' rfl (by rw[ha'];exact nofun);have hi0':(t0 ==i)=false:=by simpa using hi0
   have ec:GN (λx=>x ==i||S x) s'.late q.1=GN S s'.late q.1:=Gb (λq hq=>by
    have:=hne 0 s' q rfl (by rw[ha'];exact nofun) hq (by omega);simp[this])
   cases hS':S t0 with
   | true=>
    refine⟨.blk (β t0) (GN S s'.late q.1) q.2::H',?_,?_⟩
    ·rw[CB];rw[ha'];simpa[hS'] using(Qq _ h1).trans (List.Perm.swap _ _ _)
    ·rw[CB];rw[ha'];simp only[hi0',Qz,hS',if_true,ec];exact(Qq _ h2).trans (List.Perm.swap _ _ _)
   | false=>
    refine⟨H',?_,?_⟩
    ·rw[CB];rw[ha'];simpa[hS'] using h1
    ·rw[CB];rw[ha'];simp only[hi0',Qz,hS'];simpa using h2
def PP (n:Nat)(ops:List Oper)(N:Nat)(keys:List Nat)(deps:List (List Nat))(als:List Bool)(lates stos:List (Option Nat)):Bool:=
 K6 ops N&&decide (N≤ops.length)&&
 (List.range N).all (λi=>match Co ops i with
  | some d=>decide (d<n)&&!keys.contains d&&(List.range N).all (λj=>j ==i||Co ops j !=some d)
  | none=>true)&&
 (List.range N).all (λi=>(deps.getD i []).all (λj=>decide (j<N)&&(CT (ops.getD i default)).contains j&&!als.getD j true))&&
 (List.range N).all (λi=>match stos.getD i none with
  | some j=>decide (j<N)&&(CT (ops.getD i default)).contains j&&als.getD j false&&!als.getD i true
  | none=>true)&&
 (List.range N).all (λj=>match lates.getD j none with
  | some k=>decide (k<N)&&als.getD j false&&stos.getD k none ==some j
  | none=>true)
def Ph (P:Program)(n:Nat)(c:Cx)(opsA:Array Oper)(Q:Exit→Act→World→Prop)(o:Oper)(p:List Rp×TypeId):Prop:=
 ∀H a w Z (K:Act→World→Prop),St c H Z w→(∀b w',St c (.blk b p.1 p.2::H) Z w'→K (a.put o.dst (.pointer (some ⟨b,0,none⟩))) w')→
  Region.wanted o (yielded opsA a.tmps)=true∧o.wp P a w K Q
def O3 (P:Program)(n:Nat)(c:Cx)(opsA:Array Oper)(Q:Exit→Act→World→Prop)(ops:List Oper)(sp:List Sa)(l0:Fr)(H:List Ent)(i:Nat)(o:Oper):Prop:=
 match (CV sp i).sto with
 | some j=>o.dst=none∧∃d p ncs,Co ops j=some d∧(CV sp j).al=some p∧(CV sp j).late=some (i,ncs)∧
   ∀b H,CZ P n c opsA Q ((d,rv (.pointer (some ⟨b,0,none⟩)))::Bw ops (Nt sp) (CV sp i).deps l0) (.blk b p.1 p.2::H) o (rv undef) (.blk b ncs p.2::H)
 | none=>match (CV sp i).al with
  | none=>∀E,CZ P n c opsA Q (Bw ops (Nt sp) (CV sp i).deps l0) (H++E) o (CV sp i).r (H++E)
  | some p=>Ph P n c opsA Q o p
def E2 (P:Program)(n:Nat)(c:Cx)(opsA:Array Oper)(Q:Exit→Act→World→Prop)(ops:List Oper)(sp:List Sa)(l0:Fr)(H:List Ent):Nat→List Oper→Prop
 | i,o::rest=>O3 P n c opsA Q ops sp l0 H i o∧E2 P n c opsA Q ops sp l0 H (i+1) rest
 | _,[]=>True
section
variable {P : Program} {n : Nat} {c : Cx} {opsA : Array Oper} {Q : Exit → Act → World → Prop} {l l0 : Fr} {H : List Ent} {sp : List Sa}
theorem E2.at {ops:List Oper}:∀{k:Nat} {rest:List Oper},E2 P n c opsA Q ops sp l0 H k rest→∀(t:Nat) o,rest[t]? =some o→O3 P n c opsA Q ops sp l0 H (k+t) o
 | k,o::rest,⟨h1,h2⟩,t,o',ht=>by
  cases t with
  | zero=>simp at ht;subst ht;exact h1
  | succ t=>
   have:=E2.at h2 t o' (by simpa using ht);rw[show k+(t+1)=k+1+t from by omega];exact this
 | _,[],_,t,o,h=>by simp at h
theorem Lh {β:Nat→Nat}{a:Act}{Z:Fz}(h0:BI n l0 a Z):∀(os:List Oper) (ss:List Sa) (k:Nat),(∀(t:Nat) o s d,os[t]? =some o→ss[t]? =some s→o.dst=some d→∃v,a.tmps[d]? =some v∧(GB β s (k+t)).p Z v)→BI n (Ii β os ss k l0) a Z
 | [],_,_,_=>by unfold Ii;exact h0
 | _::_,[],_,_=>by unfold Ii;exact h0
 | o::os,s::ss,k,h=>by
  have ih:=Lh h0 os ss (k+1) (λt o' s' d h1 h2 h3=>by
   have:=h (t+1) o' s' d (by simpa using h1) (by simpa using h2) h3;rw[show k+1+t=k+(t+1) from by omega];exact this)
  unfold Ii
  cases hd:o.dst with
  | none=>exact ih
  | some d=>
   refine⟨ih.size,ih.defers,λi r hi=>?_⟩;rw[Bz] at hi
   split at hi
   ·rename_i e;subst e;simp at hi;subst hi;exact h 0 o s d rfl rfl hd
   ·exact ih.tm i r hi
theorem OC {id:Nat}{ops:List Oper}(N:Nat)(sp:List Sa)(hm:P.follows .mixedOrders=true)(hB:PP n ops N (D8 l0) (sp.map (·.deps)) (sp.map (·.al.isSome)) (sp.map (·.late.map (·.1))) (sp.map (·.sto))=true)(hl0:Oo l0 l)(hsp:sp.length=N)
  (hob:E2 P n c ops.toArray Q ops sp l0 H 0 (ops.take N)) (h:∀β,WL P n c ops.toArray Q (ops.drop N) (Ii β (ops.take N) sp 0 l0) (H++LO β sp 0)):WC P n c (.region id ops.toArray true) Q l H:=by
 intro a w Z ha hw;simp only[PP,Qm,Q0,List.mem_range,Qh] at hB;obtain⟨⟨⟨⟨⟨b1,bN⟩,b2⟩,b3⟩,b4⟩,b5⟩:=hB;have hget:∀i,i<N→(ops.take N)[i]? =ops[i]?:=λi hi=>by rw[QE,if_pos hi]
 have hsa:∀i,i<N→sp[i]? =some (CV sp i):=λi hi=>by
  simp[CV,Qp,Qk (show i<sp.length by omega)]
 have hspq:∀i,i<N→(Cp (Nt sp) i)=⟨(CV sp i).deps,(CV sp i).r,0⟩:=λi hi=>by
  simp[Cp,Nt,Qp,QK,hsa i hi]
 have hals:∀j b,j<N→(sp.map (·.al.isSome)).getD j b=(CV sp j).al.isSome:=λj b hj=>by simp[Qp,QK,hsa j hj]
 have hstos:∀j,j<N→(sp.map (·.sto)).getD j none=(CV sp j).sto:=λj hj=>by simp[Qp,QK,hsa j hj]
 have hlates:∀j,j<N→(sp.map (·.late.map (·.1))).getD j none=(CV sp j).late.map (·.1):=λj hj=>by simp[Qp,QK,hsa j hj]
 have S1:∀i o j,i<N→ops[i]? =some o→(CV sp i).sto=some j→j<N∧j∈CT o∧(CV sp j).al≠none∧(CV sp i).al=none:=λi o j hi ho hs=>by
  have h1:=b4 i hi;rw[hstos i hi,hs] at h1;simp only[Qm,QL,Qh] at h1;obtain⟨⟨⟨h2,h3⟩,h4⟩,h5⟩:=h1;rw[hals j _ h2] at h4;rw[hals i _ hi] at h5;rw[Qp,ho,QI,List.contains_iff_mem] at h3;exact⟨h2,h3,λe=>(by rw[e] at h4;cases h4),(by simpa using h5)⟩
 have L1:∀t q,t<N→(CV sp t).late=some q→q.1<N∧(CV sp q.1).sto=some t:=λt q ht hq=>by
  have h1:=b5 t ht;rw[hlates t ht,hq] at h1;simp only[Option.map_some,Qm,Qh,beq_iff_eq] at h1;obtain⟨⟨h2,h3⟩,h4⟩:=h1;rw[hstos _ h2] at h4;exact⟨h2,h4⟩
 have hops:∀j,j<N→∃o,ops[j]? =some o:=λj hj=>⟨ops[j]'(by omega),Qk (by omega)⟩
 have lt_of:∀(t:Nat) (s:Sa),sp[t]? =some s→t<N∧s=CV sp t:=λt s hs=>by
  have h1:t<N:=by have:=(List.getElem?_eq_some_iff.1 hs).1;omega
  refine⟨h1,?_⟩;rw[hsa t h1] at hs;simpa using hs.symm
 have hdst:∀i o d,i<N→ops[i]? =some o→o.dst=some d→(d<n∧d ∉ D8 l0)∧∀j,j<N→j≠i→Co ops j≠some d:=λi o d hi ho hd=>by
  have h3:=b2 i hi;have:Co ops i=some d:=by simp[Co,ho,hd]
  rw[this] at h3;simp only[Qm,QL,Q0,List.mem_range,Qh] at h3;refine⟨⟨h3.1.1,λhmem=>by rw[← List.contains_iff_mem] at hmem;rw[hmem] at h3;cases h3.1.2⟩,λj hj hne he=>?_⟩;have:=h3.2 j hj;simp[hne,he] at this
 refine OA (N:=N) hm b1 bN (λS a w=>∃ (β:Nat→Nat) (Z:Fz),St c (H++Dl S β sp 0) Z w∧BI n l0 a Z∧(∀j o d,j<N→S j=true→ops[j]? =some o→o.dst=some d→∃v,a.tmps[d]? =some v∧(GB β (CV sp j) j).p Z v)∧
   ∀k j,k<N→(CV sp k).sto=some j→S k=true→S j=true)
  (λS S' a w hS hI=>?_) ⟨λ_=>0,Z,?_,ha.subL hl0,λj o d _ hS=>(by cases hS),λk j _ _ hS=>(by cases hS)⟩ (λS i o a w hi hun ho hb hI K hK=>?_) (λa w hI=>?_)
 ·obtain⟨β,Z,h1,h2,h3,h4⟩:=hI;refine⟨β,Z,?_,h2,λj o d hj hS'=>h3 j o d hj (by rw[hS j hj];exact hS'),λk j hk hs hSk=>?_⟩
  ·rw[← D1 (S:=S) (β:=β) (β':=β) sp 0 (λt s hs _=>by
    obtain⟨ht,rfl⟩:=lt_of t s hs;exact⟨hS _ (by omega),λ_=>⟨rfl,λq hq=>hS _ (L1 t q ht hq).1⟩⟩)]
   exact h1
  ·obtain⟨o,ho⟩:=hops k hk;rw[← hS j (S1 k o j hk ho hs).1];exact h4 k j hk hs (by rw[hS k hk];exact hSk)
 ·rw[IA,List.append_nil];exact hw.drawn _
 ·obtain⟨β,Z,h1,h2,h3,hx⟩:=hI;have hput:∀k u v,a.tmps[k]? =some u→o.dst≠some k→(a.put o.dst v).tmps[k]? =some u:=λk u v hk hne=>by
   cases hd:o.dst with
   | none=>simpa[Act.put] using hk
   | some d=>
    simp only[Act.put,Array.getElem?_setIfInBounds];rw[QR (λe=>hne (by rw[hd,e]))];exact hk
  have hagr:∀v Z',Fz.le Z Z'→BI n l0 (a.put o.dst v) Z':=λv Z' hz=>by
   refine⟨?_,?_,λk r hk=>?_⟩
   ·cases o.dst<;>simp[Act.put,h2.size]
   ·cases o.dst<;>simp[Act.put,h2.defers]
   ·obtain⟨u,hu,hpu⟩:=h2.tm k r hk;exact⟨u,hput k u v hu (λe=>((hdst i o k hi ho e).1).2 (HU hk)),r.mono hz hpu⟩
  have hvals:∀(v:Value) (Z':Fz) (β':Nat→Nat),Fz.le Z Z'→(∀j,j≠i→β' j=β j)→(o.dst≠none→(GB β' (CV sp i) i).p Z' v)→∀j o' d,j<N→(j ==i||S j)=true→ops[j]? =some o'→o'.dst=some d→∃u,(a.put o.dst v).tmps[d]? =some u∧(GB β' (CV sp j) j).p Z' u:=by
   intro v Z' β' hz hβ hp j o' d hj hS' ho' hd
   by_cases hji:j=i
   ·subst hji;rw[ho] at ho';simp at ho';subst ho';refine⟨v,?_,hp (by simp[hd])⟩;have hdn:d<a.tmps.size:=by rw[h2.size];exact(hdst j o d hi ho hd).1.1
    simp[Act.put,hd,hdn]
   ·have hSj:S j=true:=by simpa[hji] using hS'
    obtain⟨u,hu,hpu⟩:=h3 j o' d hj hSj ho' hd;refine⟨u,hput d u v hu (λe=>(hdst i o d hi ho e).2 j hj hji (by simp[Co,ho',hd])),?_⟩;have:GB β' (CV sp j) j=GB β (CV sp j) j:=by unfold GB;rw[hβ j hji]
    rw[this];exact(GB β (CV sp j) j).mono hz hpu
  have hx':∀k j,k<N→(CV sp k).sto=some j→(k ==i||S k)=true→(j ==i||S j)=true:=λk j hk hs hSk=>by
   by_cases hki:k=i
   ·subst hki;have:=(hb j (S1 k o j hk ho hs).2.1).2;simp[this]
   ·have:S j=true:=hx k j hk hs (by simpa[hki] using hSk);simp[this]
  have hat:=hob.at i o (by rw[hget i hi];exact ho);rw[QC] at hat;unfold O3 at hat;have hag':BI n (Bw ops (Nt sp) (CV sp i).deps l0) a Z:=Hy h2 (λj hj d hd=>by
    have h4:=b3 i hi j (by simpa[Qp,QK,hsa i hi] using hj);simp only[Qm,QL,Qh] at h4;obtain⟨⟨h5,h6⟩,h7⟩:=h4;rw[Qp,ho,QI,List.contains_iff_mem] at h6;have hjal:(CV sp j).al=none:=by
     rw[hals j _ h5] at h7;simpa using h7
    obtain⟨o2,ho2⟩:=hops j h5;obtain⟨v,hv1,hv2⟩:=h3 j o2 d h5 (hb j h6).2 ho2 (by simpa[Co,ho2] using hd);refine⟨v,hv1,?_⟩;rw[hspq j h5];simpa[GB,hjal] using hv2)
  cases hst:(CV sp i).sto with
  | some j=>
   rw[hst] at hat;obtain⟨hod,d,p,ncs,hd,hal,hlate,hok⟩:=hat;obtain⟨hjN,hjb,_,hial⟩:=S1 i o j hi ho hst;have hSj:=(hb j hjb).2;obtain⟨H',p1,p2⟩:=JU (S:=S) (β:=β) (i:=i) (j:=j) (p:=p) (ncs:=ncs) sp 0 j (CV sp j) (by omega) (hsa j hjN) hal hlate hSj hun (λt s q hs _ hq hne he=>by
     obtain⟨ht,rfl⟩:=lt_of t s hs;have:=(L1 t q ht hq).2;rw[he,hst] at this;simp at this;omega) (λt s hs hn he=>by
     obtain⟨ht,rfl⟩:=lt_of t s hs;rw[QC] at he;subst he;exact hn hial)
   obtain⟨o2,ho2⟩:=hops j hjN;obtain⟨v,hv1,hv2⟩:=h3 j o2 d hjN hSj ho2 (by simpa[Co,ho2] using hd);have hag2:BI n ((d,rv (.pointer (some ⟨β j,0,none⟩)))::Bw ops (Nt sp) (CV sp i).deps l0) a Z:=⟨hag'.size,hag'.defers,λk r hk=>by
    rw[Bz] at hk
    split at hk
    ·rename_i e;subst e;simp at hk;subst hk
     exact⟨v,hv1,by simpa[GB,hal] using hv2⟩
    ·exact hag'.tm k r hk⟩
   refine hok (β j) (H++H') a w Z K hag2 (h1.perm ((List.Perm.append_left H p1).trans List.perm_middle)) (λv w' Z' hz _ hs'=>hK _ _ ⟨β,Z',?_,hagr v Z' hz,hvals v Z' β hz (λ_ _=>rfl) (λhne=>absurd hod hne),hx'⟩);exact hs'.perm (List.perm_middle.symm.trans (List.Perm.append_left H p2.symm))
  | none=>
   rw[hst] at hat;have latene:∀t q,t<N→(CV sp t).late=some q→q.1≠i:=λt q ht hq he=>by
    have:=(L1 t q ht hq).2;rw[he,hst] at this;cases this
   cases hal:(CV sp i).al with
   | none=>
    rw[hal] at hat;refine hat _ a w Z K hag' h1 (λv w' Z' hz hp hst'=>hK _ _ ⟨β,Z',?_,hagr v Z' hz,hvals v Z' β hz (λ_ _=>rfl) (λ_=>by unfold GB;rw[hal];exact hp),hx'⟩);rw[D1 (S':=S) (β':=β) sp 0 (λt s hs hn=>by
     obtain⟨ht,rfl⟩:=lt_of t s hs;have:t≠i:=λe=>by subst e;exact hn hal
     refine⟨by simp[this],λ_=>⟨rfl,λq hq=>?_⟩⟩;have:=latene t q ht hq;simp[this])]
    exact hst'
   | some p=>
    rw[hal] at hat;have key:=λK' hK'=>hat (H++Dl S β sp 0) a w Z K' h1 hK';have h5:∀b w',St c (.blk b p.1 p.2::(H++Dl S β sp 0)) Z w'→K (a.put o.dst (.pointer (some ⟨b,0,none⟩))) w':=λb w' hst'=>by
     refine hK _ _ ⟨λj=>if j=i then b else β j,Z,?_,hagr _ Z (Fz.le.refl _),hvals _ Z _ (Fz.le.refl _) (λj hj=>by simp[hj]) (λ_=>by simp[GB,hal,rv]),hx'⟩;have hp:=JV (S:=S) (β:=β) (i:=i) (b:=b) (p:=p) sp 0 i (CV sp i) (by omega) (hsa i hi) hal hun (λt s q hs _ hq=>by
      obtain⟨ht,rfl⟩:=lt_of t s hs;exact latene t q ht hq) (λq hq=>by
       refine⟨?_,latene i q hi hq⟩
       cases hS:S q.1 with
       | false=>rfl
       | true=>
        obtain⟨h6,h7⟩:=L1 i q hi hq;have:=hx q.1 i h6 h7 hS;rw[this] at hun;cases hun)
     exact hst'.perm ((List.perm_middle.symm).trans (List.Perm.append_left H hp.symm))
    refine⟨λ_=>(key K h5).2,λhw'=>?_⟩;rw[(key K h5).1] at hw';cases hw'
 ·obtain⟨β,Z,h1,h2,h3,_⟩:=hI;refine h β a w Z (Lh h2 _ _ 0 (λt o s d ht hs hd=>?_)) (by rw[← JW];exact h1);obtain⟨htN,rfl⟩:=lt_of t s hs;rw[QC];exact h3 t o d htN rfl (by rw[← hget t htN];exact ht) hd
end
theorem P6 {P:Program}{n:Nat}{c:Cx}{opsA:Array Oper}{Q:Exit→Act→World→Prop}{d:Nat}{e:TypeId}{ty:TypeId}{pos:String}{af:Array Edge}{z:Value}{cs:List Rp}(hz:∀w,(zeroValue e).run P w = .ok z w)(hcs:z.cells.toList.map rv=cs) :
  Ph P n c opsA Q { dst:=some d,op:=.alloc e,type:=ty,pos:=pos,after:=af,guard:=none } (cs,e):=λH a w Z K hw hK=>by
 refine⟨by simp[Region.wanted],?_⟩;unfold Oper.wp;rw[show(execOp a.eval { dst:=some d,op:=.alloc e,type:=ty,pos:=pos,after:=af,guard:=none }).run P w = .ok (.value (.pointer (some ⟨w.heap.size,0,none⟩))) (w.alloc (.cells z.cells e)) from by simp[execOp,Instr.alloc,hz,newVar,newRow,newObj,Sem.run,Sem.run_bind]];exact hK _ _ (hw.alloc _ (e:=.blk w.heap.size cs e) ⟨z.cells.toList,by simpa using heap_alloc_new w _,by subst hcs;exact AB.rvs Z _⟩ rfl)
section
variable {P : Program} {n : Nat} {c : Cx} {opsA : Array Oper} {Q : Exit → Act → World → Prop} {l l0 : Fr} {H : List Ent} {sp : List Sa}
theorem Hj {id:Nat}{ops:List Oper}(N:Nat)(ks0:List Nat)(sp:List Sa)(hob:E2 P n c ops.toArray Q ops sp l0 H 0 (ops.take N))(h:∀β,WL P n c ops.toArray Q (ops.drop N) (Ii β (ops.take N) sp 0 l0) (H++LO β sp 0))
  (h0:Kp ks0 l l0:=by repeat (first | exact LL | (apply IX;rfl) | (apply JM;rfl))) (hm:P.follows .mixedOrders=true:=by kernel_rfl) (hB:PP n ops N (D8 l0) (sp.map (·.deps)) (sp.map (·.al.isSome)) (sp.map (·.late.map (·.1))) (sp.map (·.sto))=true:=by kernel_rfl)
  (hsp:sp.length=N:=by rfl):WC P n c (.region id ops.toArray true) Q l H:=OC N sp hm hB h0.one hsp hob h
theorem Hu {all rest:List Oper}{d:Nat}{op:Op}{ty:TypeId}{pos:String}{af:Array Edge}{i:Nat}
  (hr:∀{H},AS P n c (Bw all (Nt sp) (CV sp i).deps l0) H { dst:=some d,op:=op,type:=ty,pos:=pos,after:=af,guard:=none } (CV sp i).r) (h:E2 P n c opsA Q all sp l0 H (i+1) rest) (ha:(CV sp i).al=none:=by rfl) (hs:(CV sp i).sto=none:=by rfl) :
  E2 P n c opsA Q all sp l0 H i ({ dst:=some d,op:=op,type:=ty,pos:=pos,after:=af,guard:=none }::rest):=by
 refine⟨?_,h⟩;unfold O3;rw[hs,ha];exact λ_=>NP hr
theorem O0 {all rest:List Oper}{d:Nat}{op:Op}{ty:TypeId}{pos:String}{af:Array Edge}{i:Nat}
  (hr:∀{E},AS P n c (Bw all (Nt sp) (CV sp i).deps l0) (H++E) { dst:=some d,op:=op,type:=ty,pos:=pos,after:=af,guard:=none } (CV sp i).r) (h:E2 P n c opsA Q all sp l0 H (i+1) rest) (ha:(CV sp i).al=none:=by rfl) (hs:(CV sp i).sto=none:=by rfl) :
  E2 P n c opsA Q all sp l0 H i ({ dst:=some d,op:=op,type:=ty,pos:=pos,after:=af,guard:=none }::rest):=by
 refine⟨?_,h⟩;unfold O3;rw[hs,ha];exact λ_=>NP hr
theorem Qb {all rest:List Oper}{o:Oper}{p:List Rp×TypeId}{i:Nat}(hr:Ph P n c opsA Q o p)(h:E2 P n c opsA Q all sp l0 H (i+1) rest)(ha:(CV sp i).al=some p:=by rfl)(hs:(CV sp i).sto=none:=by rfl):E2 P n c opsA Q all sp l0 H i (o::rest):=by
 refine⟨?_,h⟩;unfold O3;rw[hs,ha];exact hr
theorem Qa {all rest:List Oper}{op:Op}{ty:TypeId}{pos:String}{af:Array Edge}{g:Option (Nat×Bool)}{i j d:Nat}{p:List Rp×TypeId}{ncs:List Rp}
  (hr:∀{b H},CZ P n c opsA Q ((d,rv (.pointer (some ⟨b,0,none⟩)))::Bw all (Nt sp) (CV sp i).deps l0) (.blk b p.1 p.2::H) { dst:=none,op:=op,type:=ty,pos:=pos,after:=af,guard:=g } (rv undef) (.blk b ncs p.2::H))
  (h:E2 P n c opsA Q all sp l0 H (i+1) rest) (hs:(CV sp i).sto=some j:=by rfl) (hd:Co all j=some d:=by rfl) (ha:(CV sp j).al=some p:=by rfl) (hl:(CV sp j).late=some (i,ncs):=by rfl) :
  E2 P n c opsA Q all sp l0 H i ({ dst:=none,op:=op,type:=ty,pos:=pos,after:=af,guard:=g }::rest):=by
 refine⟨?_,h⟩;unfold O3;rw[hs];exact⟨rfl,d,p,ncs,hd,ha,hl,λ_ _=>hr⟩
theorem PC {all:List Oper}{i:Nat}:E2 P n c opsA Q all sp l0 H i []:=trivial
end
structure Nx (ks:List Nat) (β:Nat→Nat) (os:List Oper) (sp:List Sa) (i:Nat) (l0 l1:Fr):Prop where
 go:Kp ks (Ii β os sp i l0) l1
section
variable {ks : List Nat} {β : Nat → Nat} {os : List Oper} {sp : List Sa} {i d : Nat} {l0 l1 : Fr} {ds : List Nat} {r : Rp} {p : List Rp × TypeId} {lt : Option (Nat × List Rp)} {so : Option Nat} {op : Op} {ty : TypeId} {pos : String} {af : Array Edge} {g : Option (Nat × Bool)}
theorem Pt (h:ks.contains d=true)(t:Nx ks β os sp (i+1) l0 l1):Nx ks β ({ dst:=some d,op:=op,type:=ty,pos:=pos,after:=af,guard:=g }::os) ({ deps:=ds,r:=r,sto:=so }::sp) i l0 ((d,r)::l1):=⟨IX h t.go⟩
theorem Pw (h:ks.contains d=true)(t:Nx ks β os sp (i+1) l0 l1):Nx ks β ({ dst:=some d,op:=op,type:=ty,pos:=pos,after:=af,guard:=g }::os) ({ deps:=ds,r:=r,al:=some p,late:=lt,sto:=so }::sp) i l0 ((d,rv (.pointer (some ⟨β i,0,none⟩)))::l1):=⟨IX h t.go⟩
theorem Pv {s:Sa}(h:ks.contains d=false)(t:Nx ks β os sp (i+1) l0 l1):Nx ks β ({ dst:=some d,op:=op,type:=ty,pos:=pos,after:=af,guard:=g }::os) (s::sp) i l0 l1:=⟨JM h t.go⟩
theorem Pu {s:Sa}(t:Nx ks β os sp (i+1) l0 l1):Nx ks β ({ dst:=none,op:=op,type:=ty,pos:=pos,after:=af,guard:=g }::os) (s::sp) i l0 l1:=⟨t.go⟩
theorem Px (t:Kp ks l0 l1):Nx ks β [] [] i l0 l1:=⟨t⟩
theorem IM {P:Program}{n:Nat}{c:Cx}{opsA:Array Oper}{Q:Exit→Act→World→Prop}{rest:List Oper}{H H1:List Ent}(ks:List Nat)(h:WL P n c opsA Q rest l1 H1)
  (hz:Nx ks β os sp i l0 l1:=by repeat (first | (apply Pt;rfl) | (apply Pw;rfl) | (apply Pv;rfl) | apply Pu | apply Px | exact LL | (apply IX;rfl) | (apply JM;rfl))) (hH:H=H1:=by rfl) :
  WL P n c opsA Q rest (Ii β os sp i l0) H:=λa w Z ha hw=>h a w Z (ha.subL hz.go.one) (hH▸hw)
end
section
variable {P : Program} {n : Nat} {c : Cx} {opsA : Array Oper} {Q : Exit → Act → World → Prop} {l l0 : Fr} {H : List Ent} {sp : List Sa}
theorem Qc {all rest:List Oper}{o:Oper}{i:Nat}(hr:∀{E},CZ P n c opsA Q (Bw all (Nt sp) (CV sp i).deps l0) (H++E) o (CV sp i).r (H++E))(h:E2 P n c opsA Q all sp l0 H (i+1) rest)(ha:(CV sp i).al=none:=by rfl)(hs:(CV sp i).sto=none:=by rfl):E2 P n c opsA Q all sp l0 H i (o::rest):=by
 refine⟨?_,h⟩;unfold O3;rw[hs,ha];exact λ_=>hr
end
def PW (p:Bool→Prop):Rp:=⟨λ_ v=>∃b,v = .bool b∧p b,λ_ h=>h,true,λ_ Z v ⟨b,e,_⟩=>by rw[e];rfl⟩
section
variable {P : Program} {n : Nat} {c : Cx} {ops : Array Oper} {Q : Exit → Act → World → Prop} {rest : List Oper} {l : Fr} {H : List Ent} {d : Option Nat} {ty rty t e : TypeId} {pos : String} {af : Array Edge} {g : Option (Nat × Bool)} {r : Rp} {x : Operand} {cx cy : Code} {sz : Nat} {xs : List (List Rp)}
theorem Mp {o:Operand}{p:Bool→Prop}(ho:ev l o=some (PW p))(h1:p true→WC P n c cx Q l H)(h2:p false→WC P n c cy Q l H):WC P n c (.cond o cx cy) Q l H:=λa w Z ha hw=>by
 obtain⟨b,e,hp⟩:=ha.ev ho;exact wp_cond_split e (λe=>h1 (e▸hp) a w Z ha hw) (λe=>h2 (e▸hp) a w Z ha hw)
theorem L2 (ht:P.underlying t=some (.slice e))(h:ev l x=some (AV sz xs)):AS P n c l H { dst:=d,op:=.binOp .eql t x (.const (.slice none 0 0)) rty,type:=ty,pos:=pos,after:=af,guard:=g } (PW (λb=>b=true→xs=[])):=λa w Z ha hw=>by
 obtain⟨A,cap,e1,h1,h2,h3,h4⟩:=ha.ev h;refine⟨.bool A.isNone,⟨_,rfl,λhb=>?_⟩,?_⟩
 ·cases A with
  | some a=>cases hb
  | none=>
   have:=h3 rfl;exact List.length_eq_zero_iff.1 (by omega)
 ·have:=run_equal_slice_nil (P:=P) w t e A xs.length cap ht;have e2:a.eval (.const (.slice none 0 0)) = .slice none 0 0:=rfl;simp[execOp,e1,e2,binOp,this,eqGuard]
end
section
variable {P : Program} {n : Nat} {c : Cx} {l : Fr} {H : List Ent} {d : Option Nat} {ty rty t e : TypeId} {pos : String} {af : Array Edge} {g : Option (Nat × Bool)} {x : Operand} {sz : Nat}
end
theorem C9 (s:ByteArray):MapKept.IsKey .string (.string s):=by simp[MapKept.IsKey]
theorem Ek.keys {Z:Fz}:∀{f:List (List UInt8×Rp)} {es:List MapEntry},Ek Z f es→∀x∈es,MapKept.IsKey .string x.key
 | [],[],_,x,hx=>by cases hx
 | p::f,e::es,⟨⟨h1,h2⟩,h3⟩,x,hx=>by
  rcases List.mem_cons.1 hx with rfl | hx
  ·rw[h1];exact C9 _
  ·exact Ek.keys h3 x hx
theorem Ek.at {Z:Fz}:∀{f:List (List UInt8×Rp)} {es:List MapEntry},Ek Z f es→f.length=es.length∧∀(j:Nat) (e:MapEntry),es[j]? =some e→∃k r,f[j]? =some (k,r)∧e.key = .string (B k)∧r.p Z e.val
 | [],[],_=>⟨rfl,λj e h=>by simp at h⟩
 | p::f,e::es,⟨⟨h1,h2⟩,h3⟩=>by
  obtain⟨hl,ha⟩:=Ek.at h3;refine⟨by simp[hl],λj e' hj=>?_⟩
  cases j with
  | zero=>simp at hj;subst hj;exact⟨p.1,p.2,rfl,h1,h2⟩
  | succ j=>simp at hj;simpa using ha j e' hj
theorem Ek.of {Z:Fz}:∀{f:List (List UInt8×Rp)} {es:List MapEntry},f.length=es.length→(∀(j:Nat) (e:MapEntry),es[j]? =some e→∃k r,f[j]? =some (k,r)∧e.key = .string (B k)∧r.p Z e.val)→Ek Z f es
 | [],[],_,_=>trivial
 | p::f,e::es,hl,h=>by
  obtain⟨k,r,h1,h2,h3⟩:=h 0 e rfl;simp at h1;subst h1;exact⟨⟨h2,h3⟩,Ek.of (by simpa using hl) λj e' hj=>by simpa using h (j+1) e' (by simpa using hj)⟩
 | [],_::_,hl,_=>by simp at hl
 | _::_,[],hl,_=>by simp at hl
theorem Ek.snoc {Z:Fz}{k:List UInt8}{r:Rp}{e:MapEntry}(h1:e.key = .string (B k))(h2:r.p Z e.val):∀{f:List (List UInt8×Rp)} {es:List MapEntry},Ek Z f es→Ek Z (f++[(k,r)]) (es++[e])
 | [],[],_=>⟨⟨h1,h2⟩,trivial⟩
 | p::f,e'::es,⟨h,h3⟩=>⟨h,Ek.snoc h1 h2 h3⟩
theorem Ek.filter {Z:Fz}(q:MapEntry→Bool):∀{f:List (List UInt8×Rp)} {es:List MapEntry},Ek Z f es→∃g,Ek Z g (es.filter q)∧g.Sublist f
 | [],[],_=>⟨[],trivial,List.Sublist.refl _⟩
 | p::f,e::es,⟨h,h3⟩=>by
  obtain⟨g,hg,hs⟩:=Ek.filter q h3
  cases hq:q e with
  | true=>exact⟨p::g,by rw[List.filter_cons_of_pos hq];exact⟨h,hg⟩,hs.cons_cons p⟩
  | false=>exact⟨g,by rw[List.filter_cons_of_neg (by simp[hq])];exact hg,hs.cons p⟩
theorem JF {T:Type}:∀{m:List (Ai×T)} {k:Ai} {r:T},(m.map (·.1)).Nodup→(k,r)∈m→Bk m k=some r
 | p::m,k,r,hn,h=>by
  rw[QB,List.nodup_cons] at hn;rw[Bk];rcases List.mem_cons.1 h with h | h
  ·subst h;rw[Qn rfl];rfl
  ·have hne : ¬ p.1=k:=λe=>hn.1 (by rw[e];exact List.mem_map.2 ⟨(k,r),h,rfl⟩);rw[Ql hne];exact JF hn.2 h
theorem I6 {T:Type}:∀{m:List (Ai×T)} {k:Ai},(∀p∈m,p.1≠k)→Bk m k=none
 | [],_,_=>rfl
 | p::m,k,h=>by
  rw[Bk,Ql (h p (by simp))];exact I6 λq hq=>h q (by simp[hq])
theorem P9 {a b:List UInt8}(h:B a=B b):a=b:=by
 have:=congrArg ByteArray.toList h
 rwa [Ch,Ch] at this
theorem Gl {a b:List UInt8}(h:Value.string (B a) = .string (B b)):a=b:=P9 (by cases h;rfl)
theorem Jb {Z:Fz}{m:List (List UInt8×Rp)}{es:List MapEntry}{ck:Nat}(h:CL Z m es ck)(k:List UInt8) :
  (Instr.findNow .string (.string (B k)) es 0=some none∧Bk m k=none∧∀p∈m,p.1≠k)∨∃j e r,Instr.findNow .string (.string (B k)) es 0=some (some (j,e.val))∧es[j]? =some e∧e.key = .string (B k)∧Bk m k=some r∧r.p Z e.val:=by
 obtain⟨h1,h2,h3,f,h4,h5⟩:=h;obtain⟨hl,ha⟩:=h5.at;rcases MapKept.findNow_spec (C9 (B k)) es 0 h5.keys with⟨q1,q2⟩ | ⟨j,e,q1,q2,q3⟩
 ·have hne:∀p∈m,p.1≠k:=λp hp e=>by
   obtain⟨j,hj⟩:=List.mem_iff_getElem?.1 (h4.symm.subset hp);have hjl:j<es.length:=by rw[← hl];exact(List.getElem?_eq_some_iff.1 hj).1
   obtain⟨k',r',e1,e2,_⟩:=ha j es[j] (Qk hjl);rw[hj] at e1;cases e1;exact q2 es[j] (List.getElem_mem hjl) (by rw[e2,← e])
  exact .inl ⟨q1,I6 hne,hne⟩
 ·obtain⟨k',r,e1,e2,e3⟩:=ha j e q2;rw[q3] at e2;obtain rfl:=Gl e2;exact .inr ⟨j,e,r,by simpa using q1,q2,q3,JF h1 (h4.subset (Qu e1)),e3⟩
section
variable {P : Program} {n : Nat} {c : Cx} {ops : Array Oper} {Q : Exit → Act → World → Prop} {rest : List Oper} {l : Fr} {H : List Ent} {d : Nat} {d' : Option Nat} {ty t kt et rty : TypeId} {pos : String} {af : Array Edge} {g : Option (Nat × Bool)} {x y u : Operand} {K : Act → World → Prop} {cx : Code}
variable {T : Type} {enc : T → Rp} {xs : List (Ai × T)} {z : T} {k : Ai} {zv : Value} {i b : Nat}
theorem EJ {Z:Fz}{w:World}{m:List (List UInt8×Rp)}{rz:Rp}(ht:P.underlying t=some (.map kt et))(hk:P.underlying kt=some .string)(hz:∀w,(zeroValue et).run P w = .ok zv w)(hzr:rz.p Z zv)(hm:(Ent.map b m).holds Z w)(ok:Bool) :
  ∃v,((Bk m k).getD rz).p Z v∧(Instr.lookup t (.map (some b)) (.string (B k)) ok).run P w = .ok (if ok then .tuple #[v,.bool (Bk m k).isSome] else v) w:=by
 obtain⟨es,ck,h1,h2⟩:=hm;rcases Jb h2 k with⟨q1,q2,_⟩ | ⟨j,e,r,q1,_,_,q2,q3⟩
 ·exact⟨zv,by rw[q2];exact hzr,by simp[Instr.lookup,run_underlying ht,MapKept.run_getObj_map h1,MapKept.run_checkKey hk (C9 _),MapKept.run_findKey hk q1,hz,q2]⟩
 ·exact⟨e.val,by rw[q2];exact q3,by simp[Instr.lookup,run_underlying ht,MapKept.run_getObj_map h1,MapKept.run_checkKey hk (C9 _),MapKept.run_findKey hk q1,q2]⟩
theorem JQ (enc:T→Rp)(xs:List (Ai×T))(k:Ai)(z:T):(Bk (AJ enc xs) k).getD (enc z)=enc (A7 xs k z):=by
 rw[Et];unfold A7;cases Bk xs k<;>rfl
theorem K1 (enc:T→Rp)(xs:List (Ai×T))(k:Ai):(Bk (AJ enc xs) k).isSome=CJ xs k:=by
 rw[Et];unfold CJ;cases Bk xs k<;>rfl
theorem KP (ht:P.underlying t=some (.map kt et))(hk:P.underlying kt=some .string)(hz:∀w,(zeroValue et).run P w = .ok zv w)(hzr:∀Z,(enc z).p Z zv)(hx:ev l x=some (rv (.map (some b))))(hi:H[i]? =some (.map b (AJ enc xs)))(hy:ev l y=some (rS k)) :
  AS P n c l H { dst:=d',op:=.lookup t x y true,type:=ty,pos:=pos,after:=af,guard:=g } (EV [enc (A7 xs k z),rB (CJ xs k)]):=λa w Z ha hw=>by
 obtain⟨v,h1,h2⟩:=EJ (k:=k) ht hk hz (hzr Z) (hw.ent hi) true;rw[JQ] at h1;refine⟨.tuple #[v,.bool (CJ xs k)],⟨[v,.bool (CJ xs k)],rfl,h1,rfl,trivial⟩,?_⟩;rw[K1] at h2;simp[execOp,ha.eval hx,ha.eval hy,h2]
theorem MM (ht:P.underlying t=some (.map kt et))(hk:P.underlying kt=some .string)(hz:∀w,(zeroValue et).run P w = .ok zv w)(hzr:∀Z,(enc z).p Z zv)(hx:ev l x=some (rv (.map (some b))))(hi:H[i]? =some (.map b (AJ enc xs)))(hy:ev l y=some (rS k)) :
  AS P n c l H { dst:=d',op:=.lookup t x y false,type:=ty,pos:=pos,after:=af,guard:=g } (enc (A7 xs k z)):=λa w Z ha hw=>by
 obtain⟨v,h1,h2⟩:=EJ (k:=k) ht hk hz (hzr Z) (hw.ent hi) false;rw[JQ] at h1;simp only[QH,if_false] at h2;exact⟨v,h1,by simp[execOp,ha.eval hx,ha.eval hy,h2]⟩
theorem CL.length {Z:Fz}{m:List (List UInt8×Rp)}{es:List MapEntry}{ck:Nat}(h:CL Z m es ck):es.length=m.length:=by
 obtain⟨_,_,_,f,h4,h5⟩:=h;rw[← h5.at.1,h4.length_eq]
theorem OO {m:List (List UInt8×Rp)}{N:Nat}(ht:P.underlying t=some (.map kt et))(hx:ev l x=some (rv (.map (some b))))(hi:H[i]? =some (.map b m))(hN:m.length=N) :
  AS P n c l H { dst:=d',op:=.call { callee:=.builtin .len,args:=#[x],argTypes:=#[t] },type:=ty,pos:=pos,after:=af,guard:=g } (rI .i64 N):=λa w Z ha hw=>C1<|by
 obtain⟨es,ck,h1,h2⟩:=hw.ent hi;have hl:es.size=N:=by rw[← hN,← h2.length];simp
 simp[execOp,resolve,invoke,builtin,ha.eval hx,Builtin.len_,run_underlying ht,goInt,MapKept.run_getObj_map h1,hl]
theorem L3 {v:Option Nat}(ht:P.underlying t=some (.map kt et))(hx:ev l x=some (rv (.map v))):AS P n c l H { dst:=d',op:=.binOp .neq t x (.const (.map none)) rty,type:=ty,pos:=pos,after:=af,guard:=g } (rB (!v.isNone)):=λa w Z ha hw=>C1<|by
 have e2:a.eval (.const (.map none)) = .map none:=rfl;have h:=run_equal_map_nil (P:=P) w t kt et v ht;simp[execOp,ha.eval hx,e2,eqGuard,binOp,h]
theorem Lo (hn:Nat.blt d n=true)(h:∀b,WL P n c ops Q rest ((d,rv (.map (some b)))::l) (.map b []::H)) :
  WL P n c ops Q ({ dst:=some d,op:=.makeMap t none,type:=ty,pos:=pos,after:=af,guard:=none }::rest) l H:=
 EQ (λa w Z ha hw=>⟨_,w.alloc (.map #[] 0),_,_,Z,by simp[execOp,run_makeMap],Fz.le.refl _,rfl,
  hw.alloc _ (e:=.map w.heap.size []) ⟨#[],0,by simpa using heap_alloc_new w _,by simp,by simp,by simp,[],Qj _,trivial⟩ rfl,h w.heap.size⟩) hn
theorem MD {m f:List (Ai×Rp)}(h:f.Perm m)(k:Ai)(r:Rp):(mput f k r).Perm (mput m k r):=h.map _
theorem KS {T:Type}:∀{f:List (Ai×T)} {j:Nat} {k:Ai} {r0:T} (r:T),(f.map (·.1)).Nodup→f[j]? =some (k,r0)→mput f k r=f.set j (k,r)
 | p::f,0,k,r0,r,hn,h=>by
  simp at h;subst h;rw[QB,List.nodup_cons] at hn;have:mput f k r=f:=by
   unfold mput;rw[List.map_congr_left (g:=id) (λq hq=>?_),List.map_id];have hne : ¬ q.1=k:=λe=>hn.1 (by rw[← e];exact List.mem_map.2 ⟨q,hq,rfl⟩);rw[Ql hne];rfl
  show(bif decide (k=k) then(k,r) else(k,r0))::mput f k r=_;rw[Qn rfl,this];rfl
 | p::f,j+1,k,r0,r,hn,h=>by
  rw[QB,List.nodup_cons] at hn;simp at h;have hne : ¬ p.1=k:=λe=>hn.1 (by rw[e];exact List.mem_map.2 ⟨(k,r0),Qu h,rfl⟩);show(bif decide (p.1=k) then(k,r) else p)::mput f k r=_;rw[Ql hne,KS r hn.2 h];rfl
theorem KT {T:Type}:∀{f:List (Ai×T)} {j:Nat} {k:Ai} {r0:T},(f.map (·.1)).Nodup→f[j]? =some (k,r0)→mdel f k=f.eraseIdx j
 | p::f,0,k,r0,hn,h=>by
  simp at h;subst h;rw[QB,List.nodup_cons] at hn;have:f.filter (λq=>!decide (q.1=k))=f:=List.filter_eq_self.2 λq hq=>by
   have hne : ¬ q.1=k:=λe=>hn.1 (by rw[← e];exact List.mem_map.2 ⟨q,hq,rfl⟩);simp[hne]
  unfold mdel;rw[List.filter_cons_of_neg (by simp),this];rfl
 | p::f,j+1,k,r0,hn,h=>by
  rw[QB,List.nodup_cons] at hn;simp at h;have hne : ¬ p.1=k:=λe=>hn.1 (by rw[e];exact List.mem_map.2 ⟨(k,r0),Qu h,rfl⟩);unfold mdel;rw[List.filter_cons_of_pos (by simp[hne])];show p::mdel f k=_;rw[KT hn.2 h];rfl
theorem L7 {T:Type}(m:List (Ai×T))(k:Ai)(r:T):(mput m k r).map (·.1)=m.map (·.1):=by
 unfold mput;rw[QM];refine List.map_congr_left λp _=>?_;simp only[Function.comp]
 by_cases h:p.1=k
 ·rw[Qn h];exact h.symm
 ·rw[Ql h];rfl
theorem L9 {T:Type}{m:List (Ai×T)}{k:Ai}{r:T}(h:Bk m k=some r):CJ m k=true:=by unfold CJ;rw[h];rfl
theorem LA {T:Type}{m:List (Ai×T)}{k:Ai}(h:Bk m k=none):CJ m k=false:=by unfold CJ;rw[h];rfl
theorem CL.put {Z:Fz}{m:List (Ai×Rp)}{es:List MapEntry}{ck j:Nat}{e:MapEntry}{k:Ai}{r0 r:Rp}{v:Value}(h:CL Z m es ck)(he:es[j]? =some e)(hk:e.key = .string (B k))(hm:Bk m k=some r0)(hr:r.p Z v) :
  CL Z (mset m k r) (es.set j { e with key:=.string (B k),val:=v }) ck:=by
 obtain⟨h1,h2,h3,f,h4,h5⟩:=h;obtain⟨hl,ha⟩:=h5.at;have hjl:=(List.getElem?_eq_some_iff.1 he).1;unfold mset;rw[L9 hm,Qv];obtain⟨k',r',e1,e2,_⟩:=ha j e he;rw[hk] at e2;obtain rfl:=Gl e2;have hfn:(f.map (·.1)).Nodup:=(h4.map (·.1)).nodup_iff.2 h1;refine⟨by rw[L7];exact h1,?_,?_,f.set j (k,r),?_,Ek.of (by simp[hl]) λi x hx=>?_⟩
 ·rw[List.map_set];have:(es.map (·.born)).set j e.born=es.map (·.born):=by
   apply List.ext_getElem?;intro i;rw[List.getElem?_set]
   split
   ·rename_i hij;subst hij
    simp[hjl,List.getElem?_eq_some_iff.1 he |>.2]
   ·rfl
  show((es.map (·.born)).set j e.born).Nodup;rw[this];exact h2
 ·intro x hx;rcases List.mem_or_eq_of_mem_set hx with hx | rfl
  ·exact h3 x hx
  ·exact h3 e (Qu he)
 ·have:=MD h4 k r
  rwa [KS r hfn e1] at this
 ·rw[List.getElem?_set] at hx ⊢
  split at hx
  ·rename_i hij;subst hij
   cases hx
   exact⟨k,r,by rw[if_pos rfl,if_pos (by rw[hl];exact hjl)],rfl,hr⟩
  ·rename_i hij
   rw[QR hij];exact ha i x hx
theorem CL.ins {Z:Fz}{m:List (Ai×Rp)}{es:List MapEntry}{ck:Nat}{k:Ai}{r:Rp}{v:Value}(h:CL Z m es ck)(hm:Bk m k=none)(hk:∀p∈m,p.1≠k)(hr:r.p Z v) :
  CL Z (mset m k r) (es++[{ key:=.string (B k),val:=v,born:=ck }]) (ck+1):=by
 obtain⟨h1,h2,h3,f,h4,h5⟩:=h;unfold mset;rw[LA hm,Qr];have hp:=GG k r m;refine⟨?_,?_,?_,f++[(k,r)],?_,Ek.snoc rfl hr h5⟩
 ·rw[(hp.map (·.1)).nodup_iff,QB,List.nodup_cons];exact⟨λhx=>by obtain⟨p,hp,e⟩:=List.mem_map.1 hx;exact hk p hp e,h1⟩
 ·rw[List.map_append,List.nodup_append];refine⟨h2,by simp,λa ha b hb e=>?_⟩;simp at hb;subst hb;obtain⟨x,hx,e'⟩:=List.mem_map.1 ha;have:=h3 x hx;omega
 ·intro x hx;rcases List.mem_append.1 hx with hx | hx
  ·have:=h3 x hx;omega
  ·simp at hx;subst hx;exact QA _
 ·exact(List.perm_append_comm (l₁:=f) (l₂:=[(k,r)])).trans ((h4.cons (k,r)).trans hp.symm)
theorem CL.del {Z:Fz}{m:List (Ai×Rp)}{es:List MapEntry}{ck j:Nat}{e:MapEntry}{k:Ai}(h:CL Z m es ck)(he:es[j]? =some e)(hk:e.key = .string (B k)):CL Z (mdel m k) (es.eraseIdx j) ck:=by
 obtain⟨h1,h2,h3,f,h4,h5⟩:=h;obtain⟨hl,ha⟩:=h5.at;obtain⟨k',r',e1,e2,_⟩:=ha j e he;rw[hk] at e2;obtain rfl:=Gl e2;have hfn:(f.map (·.1)).Nodup:=(h4.map (·.1)).nodup_iff.2 h1;have hs:=List.eraseIdx_sublist es j;refine⟨h1.sublist ((List.filter_sublist ..).map _),h2.sublist (hs.map _),λx hx=>h3 x (hs.subset hx),f.eraseIdx j,?_,Ek.of (by rw[List.length_eraseIdx,List.length_eraseIdx,hl]) λi x hx=>?_⟩
 ·rw[← KT hfn e1];exact h4.filter _
 ·rw[List.getElem?_eraseIdx] at hx ⊢
  split at hx
  ·rename_i hij;rw[if_pos hij];exact ha i x hx
  ·rename_i hij;rw[QR hij];exact ha (i+1) x hx
theorem LF {m:List (Ai×Rp)}{k:Ai}(hk:∀p∈m,p.1≠k):mdel m k=m:=List.filter_eq_self.2 λp hp=>by simp[hk p hp]
theorem St.mapset {Z:Fz}{w:World}(h:St c H Z w){m m':List (Ai×Rp)}(hi:H[i]? =some (.map b m)){es es':Array MapEntry}{ck ck':Nat}(h1:w.heap[b]? =some (.map es ck))(h2:CL Z m' es'.toList ck') :
  St c (H.set i (.map b m')) Z { w with heap:=w.heap.setIfInBounds b (.map es' ck') }:=by
 obtain⟨q1,q2⟩:=MapKept.heap_set (o':=.map es' ck') h1;exact h.set hi rfl rfl rfl (by simp) (λk _ hk=>q2 k (by simpa[Ent.foot] using hk)) ⟨es',ck',q1,h2⟩ (by simp[Ent.foot])
theorem IT (s:ByteArray):Instr.sameBits 10000 (.string s) (.string s)=true:=by
 show(s ==s)=true;exact(MapKept.bytes_beq s s).2 rfl |> λh=>by simpa using h
theorem OE {r:Rp}{m:List (Ai×Rp)}(ht:P.underlying t=some (.map kt et))(hk:P.underlying kt=some .string)(hx:ev l x=some (rv (.map (some b))))(hi:H[i]? =some (.map b m))(hy:ev l y=some (rS k))(hu:ev l u=some r){H':List Ent}(hH:H.set i (.map b (mset m k r))=H')(h:WL P n c ops Q rest l H') :
  WL P n c ops Q ({ dst:=none,op:=.mapUpdate t x y u,type:=ty,pos:=pos,after:=af,guard:=none }::rest) l H:=
 IL λa w Z ha hw=>by
  obtain⟨es,ck,h1,h2⟩:=hw.ent hi;have hv:=ha.ev hu;subst hH;rcases Jb h2 k with⟨q1,q2,q3⟩ | ⟨j,e,r0,q1,q2,q3,q4,_⟩
  ·refine⟨_,_,?_,hw.mapset hi h1 (es':=es.push { key:=.string (B k),val:=a.eval u,born:=ck }) (by simpa using h2.ins q2 q3 hv),h⟩;simp[execOp,ha.eval hx,ha.eval hy,Instr.mapUpdate,run_underlying ht,MapKept.run_getObj_map h1,MapKept.run_checkKey hk (C9 _),MapKept.run_findKey hk q1,MapKept.run_setObj_map _ h1]
  ·have hje:es[j]? =some e:=by simpa using q2
   refine⟨_,_,?_,hw.mapset hi h1 (es':=es.modify j λe=>{ e with key:=.string (B k),val:=a.eval u }) (ck':=ck) (by
    have:=h2.put q2 q3 q4 hv;have e1:(es.modify j λe=>{ e with key:=.string (B k),val:=a.eval u }).toList=es.toList.set j { e with key:=.string (B k),val:=a.eval u }:=by
     rw[Array.toList_modify];rw[List.modify_eq_set,q2];rfl
    rw[e1];exact this),h⟩
   have hkey:((es[j]?).map (·.key)).getD (.string (B k)) = .string (B k):=by rw[hje];exact q3
   simp[execOp,ha.eval hx,ha.eval hy,Instr.mapUpdate,run_underlying ht,MapKept.run_getObj_map h1,MapKept.run_checkKey hk (C9 _),MapKept.run_findKey hk q1,MapKept.run_setObj_map _ h1,hkey,Instr.keyThatStays,IT]
theorem Ox {op:Op}{ty:TypeId}{pos:String}{af:Array Edge}
  (hr:∀a w Z,BI n l a Z→St c H Z w→∃v w' H',(execOp a.eval { dst:=none,op:=op,type:=ty,pos:=pos,after:=af,guard:=none }).run P w = .ok (.value v) w'∧St c H' Z w'∧WL P n c ops Q rest l H') :
  WL P n c ops Q ({ dst:=none,op:=op,type:=ty,pos:=pos,after:=af,guard:=none }::rest) l H:=λa w Z ha hw=>
 wpList_plain rfl λK hK=>by
  obtain⟨v,w',H',h1,h2,h3⟩:=hr a w Z ha hw;unfold Oper.wp;rw[h1];exact hK _ _ (h3 _ w' Z (ha.put_none _) h2)
theorem OF {m:List (Ai×Rp)}(ht:P.underlying t=some (.map kt et))(hk:P.underlying kt=some .string){kt':TypeId}(hx:ev l x=some (rv (.map (some b))))(hi:H[i]? =some (.map b m))(hy:ev l y=some (rS k)){H':List Ent}(hH:H.set i (.map b (mdel m k))=H')(h:WL P n c ops Q rest l H') :
  WL P n c ops Q ({ dst:=none,op:=.call { callee:=.builtin .delete,args:=#[x,y],argTypes:=#[t,kt'] },type:=ty,pos:=pos,after:=af,guard:=none }::rest) l H:=
 Ox (λa w Z ha hw=>by
  obtain⟨es,ck,h1,h2⟩:=hw.ent hi;subst hH;rcases Jb h2 k with⟨q1,q2,q3⟩ | ⟨j,e,r0,q1,q2,q3,q4,_⟩
  ·refine⟨.tuple #[],_,_,?_,hw.mapset hi h1 (es':=es) (ck':=ck) (by rw[LF q3];exact h2),h⟩;simp[execOp,resolve,invoke,builtin,ha.eval hx,ha.eval hy,Builtin.delete_,run_underlying ht,MapKept.run_getObj_map h1,MapKept.run_checkKey hk (C9 _),MapKept.run_findKey hk q1,MapKept.run_setObj_map _ h1]
  ·refine⟨.tuple #[],_,_,?_,hw.mapset hi h1 (es':=es.eraseIdxIfInBounds j) (ck':=ck) (by
    have e1:(es.eraseIdxIfInBounds j).toList=es.toList.eraseIdx j:=by simp
    rw[e1];exact h2.del q2 q3),h⟩
   simp[execOp,resolve,invoke,builtin,ha.eval hx,ha.eval hy,Builtin.delete_,run_underlying ht,MapKept.run_getObj_map h1,MapKept.run_checkKey hk (C9 _),MapKept.run_findKey hk q1,MapKept.run_setObj_map _ h1])
theorem KE {v:T}(ht:P.underlying t=some (.map kt et))(hk:P.underlying kt=some .string)(hx:ev l x=some (rv (.map (some b))))(hi:H[i]? =some (.map b (AJ enc xs)))(hy:ev l y=some (rS k))(hu:ev l u=some (enc v)){H':List Ent}(hH:H.set i (.map b (AJ enc (mset xs k v)))=H')(h:WL P n c ops Q rest l H') :
  WL P n c ops Q ({ dst:=none,op:=.mapUpdate t x y u,type:=ty,pos:=pos,after:=af,guard:=none }::rest) l H:=OE ht hk hx hi hy hu (by rw[← MQ];exact hH) h
theorem N8 (ht:P.underlying t=some (.map kt et))(hk:P.underlying kt=some .string){kt':TypeId}(hx:ev l x=some (rv (.map (some b))))(hi:H[i]? =some (.map b (AJ enc xs)))(hy:ev l y=some (rS k)){H':List Ent}(hH:H.set i (.map b (AJ enc (mdel xs k)))=H')(h:WL P n c ops Q rest l H') :
  WL P n c ops Q ({ dst:=none,op:=.call { callee:=.builtin .delete,args:=#[x,y],argTypes:=#[t,kt'] },type:=ty,pos:=pos,after:=af,guard:=none }::rest) l H:=OF ht hk hx hi hy (by rw[← MU];exact hH) h
end
theorem G1 {q:MapEntry→Bool}:∀{l:List MapEntry} {j:Nat} {e:MapEntry},(l.map (·.born)).Nodup→l[j]? =some e→l.filter (λx=>!(x.born ==e.born))=l.eraseIdx j
 | x::l,0,e,hn,h=>by
  simp at h;subst h;rw[QB,List.nodup_cons] at hn;rw[List.filter_cons_of_neg (by simp),List.filter_eq_self.2 λy hy=>?_];rfl;have:y.born≠x.born:=λe=>hn.1 (by rw[← e];exact List.mem_map.2 ⟨y,hy,rfl⟩);simp[this]
 | x::l,j+1,e,hn,h=>by
  rw[QB,List.nodup_cons] at hn;simp at h;have hne:x.born≠e.born:=λe'=>hn.1 (by rw[e'];exact List.mem_map.2 ⟨e,Qu h,rfl⟩);rw[List.filter_cons_of_pos (by simp[hne]),G1 (q:=q) hn.2 h];rfl
theorem Ek.erase {Z:Fz}:∀{f:List (List UInt8×Rp)} {es:List MapEntry} (j:Nat),Ek Z f es→Ek Z (f.eraseIdx j) (es.eraseIdx j)
 | [],[],j,_=>by simp[Ek]
 | p::f,e::es,0,⟨_,h⟩=>h
 | p::f,e::es,j+1,⟨h,h3⟩=>⟨h,Ek.erase j h3⟩
theorem KO {α:Type}:∀{l:List α} {j:Nat} {a:α},l[j]? =some a→l.Perm (a::l.eraseIdx j)
 | x::l,0,a,h=>by simp at h;subst h;exact Qj _
 | x::l,j+1,a,h=>by
  simp at h;exact((KO h).cons x).trans (List.Perm.swap a x _)
theorem ME {T:Type}{enc:T→Rp}{ys:List (Ai×T)}{f:List (Ai×Rp)}{j:Nat}{k:Ai}{r:Rp}(h:f.Perm (AJ enc ys))(hj:f[j]? =some (k,r)):∃ (p:Ai×T) (ys':List (Ai×T)),ys.Perm (p::ys')∧p.1=k∧enc p.2=r∧(f.eraseIdx j).Perm (AJ enc ys'):=by
 have hm:(k,r)∈AJ enc ys:=h.subset (Qu hj);obtain⟨p,hp,e⟩:=List.mem_map.1 hm;simp only[Prod.mk.injEq] at e;obtain⟨a,b,rfl⟩:=List.append_of_mem hp;refine⟨p,a++b,List.perm_middle,e.1,e.2,?_⟩;have h1:f.Perm ((k,r)::f.eraseIdx j):=by
  exact KO hj
 have h2:(AJ enc (a++p::b)).Perm ((k,r)::AJ enc (a++b)):=by
  have:(AJ enc (a++p::b)).Perm (AJ enc (p::(a++b))):=List.perm_middle.map _;refine this.trans ?_;show((p.1,enc p.2)::AJ enc (a++b)).Perm _;rw[e.1,e.2]
 exact((h1.symm.trans h).trans h2).cons_inv
section
variable {P : Program} {n : Nat} {c : Cx} {ops : Array Oper} {Q : Exit → Act → World → Prop} {rest : List Oper} {l : Fr} {H : List Ent} {d : Nat} {ty t kt et rty : TypeId} {pos : String} {af : Array Edge} {x y u : Operand} {K : Act → World → Prop} {cx : Code}
variable {T : Type} {enc : T → Rp} {xs ys : List (Ai × T)} {i b it : Nat} {m lf : List (List UInt8 × Rp)} {cur : Option (List UInt8 × Rp)} {k : Ai} {r : Rp}
theorem N3 (ht:P.underlying t=some (.map kt et))(hx:ev l x=some (rv (.map (some b))))(hi:H[i]? =some (.map b m))(hn:Nat.blt d n=true)(h:∀it,WL P n c ops Q rest ((d,rv (.pointer (some ⟨it,0,none⟩)))::l) (H.set i (.mit b it m m none))) :
  WL P n c ops Q ({ dst:=some d,op:=.range t x,type:=ty,pos:=pos,after:=af,guard:=none }::rest) l H:=
 EQ (λa w Z ha hw=>by
  obtain⟨es,ck,h1,h2⟩:=hw.ent hi;have hb:b<w.heap.size:=(Array.getElem?_eq_some_iff.1 h1).1;have hf:es.toList.filter (λe=>!(#[]:Array Nat).contains e.born)=es.toList:=List.filter_eq_self.2 λ_ _=>by simp
  obtain⟨f,h4,h5⟩:=h2.2.2.2;refine⟨.pointer (some ⟨w.heap.size,0,none⟩),w.alloc (.mapIter (some b) ck #[] ck),_,_,Z,?_,Fz.le.refl _,rfl,hw.set hi rfl rfl rfl (by simp) (λk hk _=>Below.heap_alloc w _ k hk) ?_ ?_,h w.heap.size⟩
  ·simp[execOp,ha.eval hx,run_range_map w t kt et b es ck ht h1]
  ·exact⟨es,ck,#[],ck,ck,(Below.heap_alloc w _ b hb).trans h1,by simpa using heap_alloc_new w _,h2,h2.2.2.1,Qx _,Qx _,Nat.ne_of_lt hb,⟨f,h4,by rw[hf];exact h5⟩,trivial⟩
  ·intro k hk;simp only[Ent.foot,QO,List.not_mem_nil,or_false] at hk;rcases hk with rfl | rfl
   ·exact .inl (by simp[Ent.foot])
   ·exact .inr (Qx _)) hn
theorem OD (hx:ev l x=some (rv (.pointer (some ⟨it,0,none⟩))))(hi:H[i]? =some (.mit b it m (AJ enc ys) cur))(hn:Nat.blt d n=true)
  (h0:ys=[]→WL P n c ops Q rest ((d,EV [rB false])::l) H)
  (h1:∀p ys',ys.Perm (p::ys')→WL P n c ops Q rest ((d,EV [rB true,rS p.1,enc p.2])::l) (H.set i (.mit b it m (AJ enc ys') (some (p.1,enc p.2))))) :
  WL P n c ops Q ({ dst:=some d,op:=.next x false,type:=ty,pos:=pos,after:=af,guard:=none }::rest) l H:=
 EQ (λa w Z ha hw=>by
  obtain⟨es,ck,seen,since,c0,q1,q2,q3,q4,q5,q6,q7,⟨f,q8,q9⟩,_⟩:=hw.ent hi;have hlf:(leftOf es seen).toList=es.toList.filter λe=>!seen.contains e.born:=by simp[leftOf]
  rcases run_next_at (P:=P) w ty it b since c0 seen es ck q2 q1 q4 q5 with⟨r1,r2⟩ | ⟨e,r1,w1,r2,r3⟩
  ·have he:es.toList.filter (λe=>!seen.contains e.born)=[]:=by rw[← hlf];exact Q3 (by simpa using r1)
   rw[he] at q9;have hf:f=[]:=by cases f with
    | nil=>rfl
    | cons _ _=>exact absurd q9 id
   subst hf;have hy:ys=[]:=by
    have:=q8.length_eq;rw[Eu] at this;exact Q3 this.symm
   exact⟨.tuple #[.bool false],w,EV [rB false],H,Z,by simp[execOp,ha.eval hx,r2],Fz.le.refl _,⟨[.bool false],rfl,rfl,trivial⟩,hw,h0 hy⟩
  ·rw[hlf] at r1;obtain⟨j,hj⟩:=List.mem_iff_getElem?.1 r1;obtain⟨k,r,e1,e2,e3⟩:=q9.at.2 j e hj;obtain⟨p,ys',s1,s2,s3,s4⟩:=ME q8 e1;have hnl:((es.toList.filter λe=>!seen.contains e.born).map (·.born)).Nodup:=q3.2.1.sublist ((List.filter_sublist ..).map _);have hleft:es.toList.filter (λx=>!(seen.push e.born).contains x.born)=(es.toList.filter λe=>!seen.contains e.born).eraseIdx j:=by
    rw[← G1 (q:=λ_=>true) hnl hj,List.filter_filter];refine List.filter_congr λx _=>?_;simp only[Array.contains_push,Bool.not_or];rw[Bool.and_comm]
   have hd:St c H Z w1:=by
    rcases r2 with rfl | rfl
    ·exact hw
    ·exact hw.drawn _
   have q2':w1.heap[it]? =some (.mapIter (some b) since seen c0):=by rcases r2 with rfl | rfl<;>exact q2
   have q1':w1.heap[b]? =some (.map es ck):=by rcases r2 with rfl | rfl<;>exact q1
   obtain⟨t1,t2⟩:=MapKept.heap_set (o':=.mapIter (some b) since (seen.push e.born) ck) q2';refine⟨.tuple #[.bool true,e.key,e.val],ChangeMaps.setBlock w1 it (.mapIter (some b) since (seen.push e.born) ck),EV [rB true,rS p.1,enc p.2],H.set i (.mit b it m (AJ enc ys') (some (p.1,enc p.2))),Z,by simp[execOp,ha.eval hx,r3],Fz.le.refl _,⟨[.bool true,e.key,e.val],rfl,rfl,?_,?_,trivial⟩,hd.set hi rfl rfl rfl (by simp[ChangeMaps.setBlock]) (λk' _ hk'=>t2 k' (λe'=>hk' (by simp[Ent.foot,e']))) ?_ (λk' hk'=>.inl (by simpa[Ent.foot] using hk')),h1 p ys' s1⟩
   ·show e.key = .string (B p.1);rw[s2];exact e2
   ·rw[s3];exact e3
   ·exact⟨es,ck,seen.push e.born,since,ck,(t2 b q7).trans q1',t1,q3,q4,Nat.le_trans q5 q6,Qx _,q7,⟨f.eraseIdx j,s4,by rw[hleft];exact q9.erase j⟩,rfl,seen,e,rfl,(List.mem_filter.1 r1).1,by rw[s2];exact e2,by rw[s3];exact e3⟩) hn
theorem St.unmit {Z:Fz}{w:World}(h:St c H Z w)(hi:H[i]? =some (.mit b it m lf cur)):St c (H.set i (.map b m)) Z w:=by
 obtain⟨es,ck,seen,since,c0,q1,q2,q3,_⟩:=h.ent hi;exact h.set hi rfl rfl rfl (Qx _) (λ_ _ _=>rfl) ⟨es,ck,q1,q3⟩ (by simp[Ent.foot])
theorem WK.unmit (hi:H[i]? =some (.mit b it m lf cur))(h:WK n c K l (H.set i (.map b m))):WK n c K l H:=λa w Z ha hw=>h a w Z ha (hw.unmit hi)
theorem WC.unmit (hi:H[i]? =some (.mit b it m lf cur))(h:WC P n c cx Q l (H.set i (.map b m))):WC P n c cx Q l H:=λa w Z ha hw=>h a w Z ha (hw.unmit hi)
theorem WL.unmit (hi:H[i]? =some (.mit b it m lf cur))(h:WL P n c ops Q rest l (H.set i (.map b m))):WL P n c ops Q rest l H:=λa w Z ha hw=>h a w Z ha (hw.unmit hi)
theorem St.uncur {Z:Fz}{w:World}(h:St c H Z w)(hi:H[i]? =some (.mit b it m lf cur)):St c (H.set i (.mit b it m lf none)) Z w:=by
 obtain⟨es,ck,seen,since,c0,q1,q2,q3,q4,q5,q6,q7,q8,_⟩:=h.ent hi;exact h.set hi rfl rfl rfl (Qx _) (λ_ _ _=>rfl) ⟨es,ck,seen,since,c0,q1,q2,q3,q4,q5,q6,q7,q8,trivial⟩ (λk hk=>.inl (by simpa[Ent.foot] using hk))
theorem WK.uncur (hi:H[i]? =some (.mit b it m lf cur))(h:WK n c K l (H.set i (.mit b it m lf none))):WK n c K l H:=λa w Z ha hw=>h a w Z ha (hw.uncur hi)
theorem NT {dd:Option Nat}{g:Option (Nat×Bool)}(hx:ev l x=some (rv (.pointer (some ⟨it,0,none⟩))))(hi:H[i]? =some (.mit b it m lf (some (k,r)))) :
  AS P n c l H { dst:=dd,op:=.entry x,type:=ty,pos:=pos,after:=af,guard:=g } (EV [rS k,r]):=λa w Z ha hw=>by
 obtain⟨es,ck,seen,since,c0,q1,q2,q3,q4,q5,q6,q7,q8,rfl,s0,e,rfl,h1,h2,h3⟩:=hw.ent hi;exact⟨.tuple #[e.key,e.val],⟨[e.key,e.val],rfl,h2,h3,trivial⟩,by simp[execOp,ha.eval hx,run_entry_at w it b since s0 es c0 e q2 q1 h1 q3.2.1]⟩
end
section
variable {P : Program} {n : Nat} {c : Cx} {opsA : Array Oper} {Q : Exit → Act → World → Prop} {l : Fr} {H : List Ent} {d : Nat} {ty : TypeId} {pos : String} {af : Array Edge}
end
section
variable {P : Program} {n : Nat} {c : Cx} {ops : Array Oper} {Q : Exit → Act → World → Prop} {rest : List Oper} {l : Fr} {H H' : List Ent} {d : Nat} {d' : Option Nat} {x y z3 : Operand} {ty t t' e : TypeId} {pos : String} {af : Array Edge} {g : Option (Nat × Bool)} {v u : Value} {r : Rp} {sz : Nat}
theorem C0 {α:Type}{ys:List α}{enc:α→List Rp}{k':IntKind}{j:Int}(ht:P.underlying t=some (.slice e))(hz:∀w,(sizeOf e).run P w = .ok sz w)(h:ev l x=some (AV sz (ys.map enc)))(hj:ev l z3=some (rI k' j))(hg2:JP j (ys.length:Int)=true) :
  AS P n c l H { dst:=d',op:=.slice t x none (some z3) none,type:=ty,pos:=pos,after:=af,guard:=g } (AV sz ((ys.take j.toNat).map enc)):=λa w Z ha hw=>by
 obtain⟨A,cap,e1,hc1,hc2,hA,hc⟩:=ha.ev h;have h2:=(CX hg2).2;have hj0:0≤j:=(CX hg2).1;simp only[Qs] at e1 hc1;have h3:j≤(cap:Int):=by omega
 refine⟨.slice (if cap=0 then A else A.map (·.add (0*sz))) j.toNat cap,⟨if cap=0 then A else A.map (·.add (0*sz)),cap,?_,?_,by omega,?_,λq cl hq=>?_⟩,by simp[execOp,e1,ha.eval hj,Instr.sliceAt,Instr.slice,run_underlying ht,Instr.sliceBounds,BO (m:=cap) _ _ hj0 h3,hz]⟩
 ·congr 1
  simp;omega
 ·simp;omega
 ·intro hn
  split at hn
  ·have:=hA hn;omega
  ·have:=hA (by simpa using hn);omega
 ·rw[QK] at hq
  cases hq':(List.take j.toNat ys)[q]? with
  | none=>rw[hq'] at hq;cases hq
  | some yy=>
   rw[hq'] at hq;simp only[Option.map_some,Option.some.injEq] at hq;subst hq;rw[QE] at hq'
   split at hq'
   ·rename_i hlt
    obtain⟨hl,ad,rfl,hs,hcs⟩:=hc q (enc yy) (by simp[hq']);obtain⟨b,off,spot⟩:=ad;simp only at hs;subst hs;have hne : ¬ cap=0:=by omega
    refine⟨hl,⟨b,off+0*sz,none⟩,by simp[hne,E0],rfl,λq' r' hr'=>?_⟩;obtain⟨u,hu,hp⟩:=hcs q' r' hr';refine⟨u,?_,hp⟩;have:off+0*sz+(q*sz+q')=off+(q*sz+q'):=by omega
    simp only;rw[this];exact hu
   ·cases hq'
end
theorem AB.d1 {Z:Fz}{r0:Rp}{us:List Value}(h:AB Z [r0] us):∃y0,us=[y0]∧AB Z [r0] [y0]:=by
 match us,h.length with
 | [y0],_=>exact⟨_,rfl,h⟩
theorem AB.d2 {Z:Fz}{r0 r1:Rp}{us:List Value}(h:AB Z [r0,r1] us):∃y0 y1,us=[y0,y1]∧AB Z [r0,r1] [y0,y1]:=by
 match us,h.length with
 | [y0,y1],_=>exact⟨_,_,rfl,h⟩
theorem AB.d3 {Z:Fz}{r0 r1 r2:Rp}{us:List Value}(h:AB Z [r0,r1,r2] us):∃y0 y1 y2,us=[y0,y1,y2]∧AB Z [r0,r1,r2] [y0,y1,y2]:=by
 match us,h.length with
 | [y0,y1,y2],_=>exact⟨_,_,_,rfl,h⟩
theorem AB.d5 {Z:Fz}{r0 r1 r2 r3 r4:Rp}{us:List Value}(h:AB Z [r0,r1,r2,r3,r4] us):∃y0 y1 y2 y3 y4,us=[y0,y1,y2,y3,y4]∧AB Z [r0,r1,r2,r3,r4] [y0,y1,y2,y3,y4]:=by
 match us,h.length with
 | [y0,y1,y2,y3,y4],_=>exact⟨_,_,_,_,_,rfl,h⟩
theorem JR {α:Type}{sz:Nat}:∀{xs:List (List α)} (hs:∀c∈xs,c.length=sz) {k:Nat} {cl:List α},xs[k]? =some cl→∀(off m:Nat),off+m≤sz→((xs.flatten).drop (k*sz+off)).take m=(cl.drop off).take m
 | [],_,k,cl,h,_,_,_=>by simp at h
 | x::r,hs,0,cl,h,off,m,hm=>by
  simp at h;subst h;have hx:=hs x (by simp);simp only[List.flatten_cons,Nat.zero_mul,QC];rw[List.drop_append_of_le_length (by omega),List.take_append_of_le_length (by simp;omega)]
 | x::r,hs,k+1,cl,h,off,m,hm=>by
  have hx:=hs x (by simp);simp only[List.flatten_cons];have e:(k+1)*sz+off=x.length+(k*sz+off):=by rw[hx,Nat.succ_mul];omega
  rw[e,List.drop_length_add_append];exact JR (λc hc=>hs c (by simp[hc])) (by simpa using h) off m hm
theorem JS {α:Type}{sz:Nat}:∀{xs:List (List α)} (hs:∀c∈xs,c.length=sz) {k:Nat} {cl rs:List α},xs[k]? =some cl→∀(off:Nat),off+rs.length≤sz→(xs.set k (cl.take off++rs++cl.drop (off+rs.length))).flatten=xs.flatten.take (k*sz+off)++rs++xs.flatten.drop (k*sz+off+rs.length)
 | [],_,k,cl,rs,h,_,_=>by simp at h
 | x::r,hs,0,cl,rs,h,off,hm=>by
  simp at h;subst h;have hx:=hs x (by simp);simp only[List.set_cons_zero,List.flatten_cons,Nat.zero_mul,QC];rw[List.take_append_of_le_length (by omega),List.drop_append_of_le_length (by omega)];simp[QP]
 | x::r,hs,k+1,cl,rs,h,off,hm=>by
  have hx:=hs x (by simp);simp only[List.set_cons_succ,List.flatten_cons];have e:(k+1)*sz+off=x.length+(k*sz+off):=by rw[hx,Nat.succ_mul];omega
  have e2:x.length+(k*sz+off)+rs.length=x.length+(k*sz+off+rs.length):=by omega
  rw[JS (λc hc=>hs c (by simp[hc])) (by simpa using h) off hm,e,e2,List.take_length_add_append,List.drop_length_add_append];simp[QP]
section
variable {P : Program} {n : Nat} {c : Cx} {ops : Array Oper} {Q : Exit → Act → World → Prop} {rest : List Oper} {l : Fr} {H H' : List Ent} {d : Nat} {d' : Option Nat} {ty t e rty : TypeId} {pos : String} {af : Array Edge} {g : Option (Nat × Bool)} {x y u : Operand} {v : Value} {sz m : Nat}
theorem KR {α:Type}[Inhabited α]{ys:List α}{enc:α→List Rp}{i off:Nat}{j:Int}{rs:List Rp}(hag:∀w,(isAgg t).run P w = .ok true w)(hsz:∀w,(sizeOf t).run P w = .ok m w)(hx:ev l x=some (rv (CC sz v j.toNat off)))(hi:H[i]? =some (.row v e sz (ys.map enc)))(hg:DB j (ys.length:Int)=true)
  (hle:Nat.ble (off+m) sz=true) (hr:((enc (Ak ys j)).drop off).take m=rs) :
  AS P n c l H { dst:=d',op:=.load t x,type:=ty,pos:=pos,after:=af,guard:=g } (Bh rs):=λa w Z ha hw=>by
 obtain⟨hs,us,⟨h1,h2⟩,h3⟩:=hw.ent hi;have h0:=(BC hg).1;have hlt:j.toNat<ys.length:=by have:=(BC hg).2;omega
 have eat:Ak ys j=ys[j.toNat]:=by simp[Ak,hlt]
 have hle':off+m≤sz:=by simpa using hle
 have hcl:(ys.map enc)[j.toNat]? =some (enc ys[j.toNat]):=by simp[hlt]
 have hcz:(enc ys[j.toNat]).length=sz:=hs _ (Qu hcl);have hseg:=JR hs hcl off m hle';rw[← eat,hr] at hseg;have h4:=(h3.drop (j.toNat*sz+off)).take m;rw[hseg] at h4;have hrl:rs.length=m:=by rw[← hr,eat];simp;omega
 rcases h2 with⟨rfl,hz⟩ | ⟨b,cap,cur,rfl,_,hg',hcap,hm,hcs,htk⟩
 ·simp at hz;subst hz;simp at hlt
 ·have h5:=run_loadCells_list (P:=P) w ⟨b,j.toNat*sz+off,none⟩ ((us.drop (j.toNat*sz+off)).take m) (λq w' hq=>by
   rw[E0,cell_of_row w b _ cur e (0,0) hg'];rw[QE] at hq
   split at hq
   ·rw[List.getElem?_drop,← htk,QE] at hq
    split at hq
    ·simpa using hq
    ·cases hq
   ·cases hq)
  rw[h4.length,hrl] at h5;exact⟨.agg ((us.drop (j.toNat*sz+off)).take m).toArray,⟨_,rfl,h4⟩,by simp[execOp,ha.eval hx,CC,Instr.loadAt,Instr.sureAddr,loadVar,hag,hsz,h5]⟩
theorem N7 {α:Type}[Inhabited α]{ys:List α}{enc:α→List Rp}{i off:Nat}{j:Int}{rs:List Rp}{y':α}(hsz:∀w,(sizeOf t).run P w = .ok m w)(hx:ev l x=some (rv (CC sz v j.toNat off)))(hy:ev l y=some (Bh rs))(hv:B5 H rs)(hi:H[i]? =some (.row v e sz (ys.map enc)))(hg:DB j (ys.length:Int)=true)
  (hl:rs.length=m) (hy':(enc (Ak ys j)).take off++rs++(enc (Ak ys j)).drop (off+m)=enc y') (hle:Nat.ble (off+m) sz=true) (hH:H.set i (.row v e sz ((ys.set j.toNat y').map enc))=H') (h:WL P n c ops Q rest l H') :
  WL P n c ops Q ({ dst:=none,op:=.store t x y,type:=ty,pos:=pos,after:=af,guard:=none }::rest) l H:=
 IL λa w Z ha hw=>by
  obtain⟨hs,us,⟨h1,h2⟩,h3⟩:=hw.ent hi;have h0:=(BC hg).1;have hlj:j.toNat<ys.length:=by have:=(BC hg).2;omega
  have hle':off+m≤sz:=by simpa using hle
  have eat:Ak ys j=ys[j.toNat]:=by simp[Ak,hlj]
  obtain⟨vs,e1,h4⟩:=ha.ev hy;have hvl:=h4.length;have hone:∀v∈vs,v.oneCell'=true:=λv hv'=>hv.at hw h4 v hv';have hcl:(ys.map enc)[j.toNat]? =some (enc ys[j.toNat]):=by simp[hlj]
  have hcz:(enc ys[j.toNat]).length=sz:=hs _ (Qu hcl);rcases h2 with⟨rfl,hz⟩ | ⟨b,cap,cur,rfl,_,hg',hcap,hm,hcs,htk⟩
  ·simp at hz;subst hz;simp at hlj
  ·simp only[Qs] at h1 hcap htk;have hin:j.toNat*sz+off+m≤ys.length*sz:=by
    have:(j.toNat+1)*sz≤ys.length*sz:=Nat.mul_le_mul_right _ hlj;rw[Nat.succ_mul] at this;omega
   have hlc:j.toNat*sz+off+m≤cur.size:=by
    have:ys.length*sz≤cap*sz:=Nat.mul_le_mul_right _ hcap;omega
   have hvm:vs.length=m:=by omega
   have h5:=run_storeCells_at P b (j.toNat*sz+off) e vs 0 cur w hg' (by omega) hone;simp only[Nat.add_zero] at h5;have hset:((ys.set j.toNat y').map enc).flatten=(ys.map enc).flatten.take (j.toNat*sz+off)++rs++(ys.map enc).flatten.drop (j.toNat*sz+off+m):=by
    have:=JS hs hcl (rs:=rs) off (by omega);rw[hl] at this;rw[← this,List.map_set,← hy',eat]
   refine⟨w.setRow b (cur.toList.take (j.toNat*sz+off)++vs++cur.toList.drop (j.toNat*sz+off+vs.length)).toArray,H',?_,?_,h⟩
   ·simp only[QP] at h5 ⊢;rw[hvm] at h5 ⊢;simp[execOp,ha.eval hx,e1,CC,Instr.storeAt,Instr.sureAddr,storeVar,hsz,Value.cells,hvm,h5]
   ·subst hH;refine hw.set hi rfl rfl rfl (by simp[World.setRow]) (λk _ hk=>?_) ⟨?_,us.take (j.toNat*sz+off)++vs++us.drop (j.toNat*sz+off+m),⟨?_,.inr ⟨b,cap,_,by simp,QJ _,setRow_heap w b cur _ e (0,0) hg',by simpa using hcap,hm,?_,?_⟩⟩,?_⟩ (by simp[Ent.foot,Value.ownBlock])
    ·simp only[Ent.foot,Value.ownBlock,Option.mem_toList,Option.mem_def,Option.some.injEq] at hk;simp only[World.setRow,Array.getElem?_modify];rw[QR hk]
    ·intro cl hcl';rw[List.map_set] at hcl';rcases List.mem_or_eq_of_mem_set hcl' with h' | rfl
     ·exact hs cl h'
     ·rw[← hy',eat];simp;omega
    ·simp;omega
    ·simp;omega
    ·have hu1:us.take (j.toNat*sz+off)=cur.toList.take (j.toNat*sz+off):=by rw[← htk,List.take_take,Nat.min_eq_left (by omega)]
     have hu2:us.drop (j.toNat*sz+off+m)=(cur.toList.drop (j.toNat*sz+off+m)).take (ys.length*sz-(j.toNat*sz+off+m)):=by rw[← htk,List.drop_take]
     rw[hu1,hu2,Qs,List.length_set,hvm];have e2:(List.take (j.toNat*sz+off) cur.toList++vs).length=j.toNat*sz+off+m:=by simp;omega
     have e3:ys.length*sz=(List.take (j.toNat*sz+off) cur.toList++vs).length+(ys.length*sz-(j.toNat*sz+off+m)):=by rw[e2];omega
     conv=>lhs;rw[show ys.length*sz=(List.take (j.toNat*sz+off) cur.toList++vs).length+(ys.length*sz-(j.toNat*sz+off+m)) from e3]
     rw[List.take_length_add_append]
    ·rw[hset];exact((h3.take _).append h4).append (h3.drop _)
def HJ (sz:Nat)(v:Value)(j:Nat):Value:=match v with
 | .slice A len cap=>.slice (if cap=j then A else A.map (·.add (j*sz))) (len-j) (cap-j)
 | v=>v
theorem ON {α:Type}{ys:List α}{enc:α→List Rp}{i:Nat}{k:IntKind}{j:Int}(ht:P.underlying t=some (.slice e))(hz:∀w,(sizeOf e).run P w = .ok sz w)(hx:ev l x=some (rv v))(hy:ev l y=some (rI k j))(hi:H[i]? =some (.row v e sz (ys.map enc)))(hg:JP j (ys.length:Int)=true) :
  AS P n c l H { dst:=d',op:=.slice t x (some y) none none,type:=ty,pos:=pos,after:=af,guard:=g } (rv (HJ sz v j.toNat)):=λa w Z ha hw=>C1<|by
 obtain⟨h0,us,⟨h1,h2⟩,h3⟩:=hw.ent hi;have g0:=(CX hg).1;have g1:=(CX hg).2;rcases h2 with⟨rfl,hz0⟩ | ⟨b,cap,cur,rfl,_,hb,hcap,hm,hcs,htk⟩
 ·simp at hz0;subst hz0;obtain rfl:j=0:=by simp at g1;omega
  simp[execOp,ha.eval hx,ha.eval hy,Instr.sliceAt,Instr.slice,run_underlying ht,Instr.sliceBounds,BO (m:=0) _ _ (QF 0) (QF 0),hz,HJ]
 ·simp only[Qs] at h1 hcap htk;simp[execOp,ha.eval hx,ha.eval hy,Instr.sliceAt,Instr.slice,run_underlying ht,Instr.sliceBounds,BO (m:=ys.length) _ _ g0 g1,hz,HJ]
theorem Ij (zc:List Value)(hz:0<zc.length):∀k,(Builtin.zeroCells zc.toArray k).toList=(List.replicate k zc).flatten:=by
 intro k;have hl:((List.replicate k zc).flatten).length=k*zc.length:=by simp
 apply List.ext_getElem
 ·simp[Builtin.zeroCells]
 ·intro i h1 h2;have hi:i<k*zc.length:=by rw[← hl];exact h2
  have hm:i % zc.length<zc.length:=Nat.mod_lt _ hz;have hq:i/zc.length<k:=by rw[Nat.div_lt_iff_lt_mul hz];exact hi
  have e1:(Builtin.zeroCells zc.toArray k).toList[i]=zc[i % zc.length]:=by
   simp[Builtin.zeroCells,hm]
  have e2:=DO (sz:=zc.length) (vs:=List.replicate k zc) (λc hc=>by rw[List.eq_of_mem_replicate hc]) (i:=i/zc.length) (c:=zc) (by simp[hq]) (j:=i % zc.length) (u:=zc[i % zc.length]) (by simp[hm]);have e3:i/zc.length*zc.length+i % zc.length=i:=Nat.div_add_mod' i zc.length;rw[e3] at e2;rw[e1];exact(Option.some.inj ((Qk h2).symm.trans e2)).symm
theorem IN {α:Type}{ys:List α}{enc:α→List Rp}{i:Nat}{j:Int}{z0:α}{zz:Value}{zc:List Value}(ht:P.underlying t=some (.slice e))(hzv:∀w,(zeroValue e).run P w = .ok zz w)(hzz:zz.cells.toList=zc)(hzl:zc.length=sz)(hsz:Nat.blt 0 sz=true)(hone:∀v∈zc,v.oneCell'=true)(hzr:∀Z,AB Z (enc z0) zc)(hel:(enc z0).length=sz)
  (hx:ev l x=some (rv (HJ sz v j.toNat))) (hi:H[i]? =some (.row v e sz (ys.map enc))) (hg:JP j (ys.length:Int)=true) (hH:H.set i (.row v e sz ((ys.take j.toNat++List.replicate (ys.length-j.toNat) z0).map enc))=H') (h:WL P n c ops Q rest l H') :
  WL P n c ops Q ({ dst:=none,op:=.call { callee:=.builtin .clear,args:=#[x],argTypes:=#[t] },type:=ty,pos:=pos,after:=af,guard:=none }::rest) l H:=
 Ox (λa w Z ha hw=>by
  obtain⟨h0,us,⟨h1,h2⟩,h3⟩:=hw.ent hi;have g0:=(CX hg).1;have g1:=(CX hg).2;subst hH;have hz0:0<sz:=by simpa using hsz
  have hcells:zz.cells=zc.toArray:=by rw[← hzz]
  rcases h2 with⟨rfl,hz1⟩ | ⟨b,cap,cur,rfl,_,hb,hcap,hm,hcs,htk⟩
  ·simp at hz1;subst hz1;refine⟨.tuple #[],w,_,?_,hw.set (e':=.row (.slice none 0 0) e sz ((([]:List α).take j.toNat++List.replicate (([]:List α).length-j.toNat) z0).map enc)) hi rfl rfl rfl (Qx _) (λ_ _ _=>rfl) ⟨by simp,[],⟨by simp,.inl ⟨rfl,by simp⟩⟩,by simp[AB]⟩ (by simp[Ent.foot,Value.ownBlock]),h⟩
   ·have e0:HJ sz (.slice none 0 0) j.toNat = .slice none 0 0:=by simp[HJ]
    simp[execOp,resolve,invoke,builtin,ha.eval hx,e0,Builtin.clear_,run_underlying ht]
  ·simp only[Qs] at h1 hcap htk;have hjl:j.toNat≤ys.length:=by omega
   by_cases hjn:ys.length=j.toNat
   ·refine⟨.tuple #[],w,_,?_,?_,h⟩
    ·have hn0:ys.length-j.toNat=0:=by omega
     simp only[execOp,resolve,invoke,builtin,ha.eval hx,HJ,hn0]
     by_cases hc:cap=j.toNat
     ·simp[ha.eval hx,HJ,hn0,hc,Builtin.clear_,run_underlying ht]
     ·simp[ha.eval hx,HJ,hn0,hc,Builtin.clear_,run_underlying ht]
    ·have e0:ys.take j.toNat++List.replicate (ys.length-j.toNat) z0=ys:=by rw[← hjn];simp
     rw[e0];have:H.set i (.row (.slice (some ⟨b,0,none⟩) (ys.map enc).length cap) e sz (ys.map enc))=H:=by
      obtain⟨hl,he⟩:=List.getElem?_eq_some_iff.1 hi;rw[← he,List.set_getElem_self]
     rw[this];exact hw
   ·have hc : ¬ cap=j.toNat:=by omega
    obtain⟨q,hq⟩:∃q,ys.length-j.toNat=q+1:=⟨ys.length-j.toNat-1,by omega⟩
    have hin:j.toNat*sz+(q+1)*sz=ys.length*sz:=by rw[← Nat.add_mul];congr 1;omega
    have hlen:((List.replicate (q+1) zc).flatten).length=(q+1)*sz:=by simp[hzl]
    have hcc:ys.length*sz≤cap*sz:=Nat.mul_le_mul_right _ hcap;have h5:=run_storeCells_at P b (j.toNat*sz) e ((List.replicate (q+1) zc).flatten) 0 cur w hb (by rw[hlen];omega) (λv hv=>by
     obtain⟨cl,hcl,hv'⟩:=List.mem_flatten.1 hv;rw[List.eq_of_mem_replicate hcl] at hv';exact hone v hv')
    simp only[Nat.add_zero] at h5;rw[hlen,hin] at h5;refine⟨.tuple #[],w.setRow b (cur.toList.take (j.toNat*sz)++(List.replicate (q+1) zc).flatten++cur.toList.drop (ys.length*sz)).toArray,_,?_,?_,h⟩
    ·have hzc:=Ij zc (by omega) (q+1);have e1:(a.eval x) = .slice (some ⟨b,j.toNat*sz,none⟩) (q+1) (cap-j.toNat):=by
      rw[ha.eval hx];simp[HJ,hc,hq,E0]
     simp[execOp,resolve,invoke,builtin,e1,Builtin.clear_,run_underlying ht,hzv,hcells,hzc,h5]
    ·refine hw.set hi rfl rfl rfl (by simp[World.setRow]) (λk _ hk=>?_) ⟨?_,us.take (j.toNat*sz)++(List.replicate (q+1) zc).flatten,⟨?_,.inr ⟨b,cap,_,?_,QJ _,setRow_heap w b cur _ e (0,0) hb,?_,hm,?_,?_⟩⟩,?_⟩ (by simp[Ent.foot,Value.ownBlock])
     ·simp only[Ent.foot,Value.ownBlock,Option.mem_toList,Option.mem_def,Option.some.injEq] at hk;simp only[World.setRow,Array.getElem?_modify];rw[QR hk]
     ·intro cl hcl;rw[List.map_append] at hcl;rcases List.mem_append.1 hcl with h' | h'
      ·rw[List.map_take] at h';exact h0 cl (List.mem_of_mem_take h')
      ·rw[List.map_replicate] at h';rw[List.eq_of_mem_replicate h'];exact hel
     ·rw[Qy,hlen];simp[Nat.min_eq_left hjl,h1,hq];have:j.toNat*sz≤ys.length*sz:=Nat.mul_le_mul_right _ hjl
      first | rw[← Nat.add_mul] | (rw[Nat.min_eq_left this,← Nat.add_mul])
     ·simp[Nat.min_eq_left hjl];omega
     ·simp;omega
     ·have:j.toNat*sz≤ys.length*sz:=Nat.mul_le_mul_right _ hjl;rw[List.size_toArray,Qy,Qy,hlen,QN,List.length_drop,Array.length_toList,Nat.min_eq_left (by omega)];omega
     ·have:j.toNat*sz≤ys.length*sz:=Nat.mul_le_mul_right _ hjl;have e2:((ys.take j.toNat++List.replicate (ys.length-j.toNat) z0).map enc).length*sz=(cur.toList.take (j.toNat*sz)++(List.replicate (q+1) zc).flatten).length:=by
       rw[Qy,hlen];simp[Nat.min_eq_left hjl,hq];rw[Nat.min_eq_left (by omega),← Nat.add_mul]
      rw[e2,List.take_left' rfl]
      congr 1
      rw[← htk,List.take_take,Nat.min_eq_left this]
     ·rw[List.map_append,List.flatten_append,List.map_take,List.map_replicate,hq];refine AB.append ?_ ?_
      ·have:((ys.map enc).take j.toNat).flatten=(ys.map enc).flatten.take (j.toNat*sz):=by
        clear h3 h1 htk hcs hcap g1 hi hw h5 hin hcc hlen hjn hc hq hjl hm hb;generalize ys.map enc=zs at h0;have key:∀(zs:List (List Rp)) (k:Nat),(∀c∈zs,c.length=sz)→(zs.take k).flatten=zs.flatten.take (k*sz):=by
         intro zs
         induction zs with
         | nil=>intro k _;simp
         | cons z zs ih=>
          intro k hk
          cases k with
          | zero=>simp
          | succ k=>
           have hzl:=hk z (by simp);simp only[List.take_succ_cons,List.flatten_cons];rw[ih k (λc hc=>hk c (by simp[hc]))];have e1:(k+1)*sz=z.length+k*sz:=by rw[hzl,Nat.succ_mul];omega
           rw[e1,List.take_length_add_append]
        exact key zs _ h0
       rw[this];exact h3.take _
      ·clear h5 hin hlen hq;generalize q+1=k
       induction k with
       | zero=>exact trivial
       | succ k ih=>rw[List.replicate_succ,List.replicate_succ,List.flatten_cons,List.flatten_cons];exact(hzr Z).append ih)
end
end Go.Proofs.YtkoiaconljdbeaaDoor.Q
namespace Go.Proofs.YtkoiaconljdbeaaDoor
open Go
end Go.Proofs.YtkoiaconljdbeaaDoor
namespace Go.Proofs.YtkoiaconljdbeaaDoor.Q
open Go Go.RowKit
set_option linter.unusedVariables false
set_option linter.unusedSimpArgs false
section
variable {P : Program} {n : Nat} {c : Cx} {Q : Exit → Act → World → Prop} {l : Fr} {H : List Ent} {x rest' : Code} {K : Act → World → Prop}
end
section
variable {P : Program} {n : Nat} {c : Cx} {ops : Array Oper} {Q : Exit → Act → World → Prop} {rest : List Oper} {l : Fr} {H H' : List Ent} {d : Nat} {d' : Option Nat} {x y z3 z4 : Operand} {ty t t' e : TypeId} {pos : String} {af : Array Edge} {g : Option (Nat × Bool)} {v u : Value} {r : Rp} {sz : Nat}
theorem NS {i:Nat}{rs:List Rp}{fs:Array Field}{f:Field}(hu:P.underlying t=some (.struct fs))(hf:fs[i]? =some f)(hag:∀w,(isAgg f.type).run P w = .ok false w)(hx:ev l x=some (Bh rs))(hr:rs[f.offset]? =some r) :
  AS P n c l H { dst:=d',op:=.field t x i,type:=ty,pos:=pos,after:=af,guard:=g } r:=λa w Z ha hw=>by
 obtain⟨us,e1,hus⟩:=ha.ev hx;obtain⟨v,hv,hp⟩:=hus.at hr;exact⟨v,hp,by simp[execOp,e1,Instr.field,run_underlying hu,hf,asAgg,part,hag,hv]⟩
end
structure Sx (U:Type) where
 deps:List Nat
 r:U→Rp
 dyn:Bool:=false
 old:List Nat:=[]
def Mb {U:Type}(sp:List (Sx U))(i:Nat):Sx U:=sp.getD i { deps:=[],r:=λ_=>rv undef }
def PA {U:Type}(sp:List (Sx U))(u:U):List Sp:=sp.map λs=>⟨s.deps,s.r u,0⟩
def Oq {U:Type}:List (Sx U)→Prop
 | []=>True
 | s::r=>(s.dyn=false→∀u u',s.r u=s.r u')∧Oq r
theorem Oq.at {U:Type}:∀{sp:List (Sx U)},Oq sp→∀{i:Nat} {s:Sx U},sp[i]? =some s→s.dyn=false→∀u u',s.r u=s.r u'
 | [],_,i,s,h=>by simp at h
 | x::sp,⟨h1,h2⟩,0,s,h=>by simp at h;subst h;exact h1
 | x::sp,⟨h1,h2⟩,i+1,s,h=>Oq.at h2 (by simpa using h)
def Gt (lw:Fr):List Nat→Fr→Fr
 | [],l=>l
 | d::r,l=>match look lw d with
  | some q=>(d,q)::Gt lw r l
  | none=>Gt lw r l
section
variable (P : Program) (n : Nat) (c : Cx) (opsA : Array Oper) (Q : Exit → Act → World → Prop)
def PY {U:Type}(l:Fr)(H:List Ent)(o:Oper)(r:U→Rp)(H1:U→List Ent):Prop:=
 ∀a w Z (K:Act→World→Prop),BI n l a Z→St c H Z w→(∀u v w' Z',Fz.le Z Z'→(r u).p Z' v→St c (H1 u) Z' w'→K (a.put o.dst v) w')→
  Region.wanted o (yielded opsA a.tmps)=true∧o.wp P a w K Q
def Ov {U:Type}(ops:List Oper)(sp:List (Sx U))(l0 lw:Fr)(i0:Nat)(H:List Ent)(H1:U→List Ent):Nat→List Oper→Prop
 | i,o::rest=>(if i=i0 then(∀u,PY P n c opsA Q (Gt lw (Mb sp i).old (Bw ops (PA sp u) (Mb sp i).deps l0)) H o (Mb sp i).r H1) else ∀u H,CZ P n c opsA Q (Gt lw (Mb sp i).old (Bw ops (PA sp u) (Mb sp i).deps l0)) H o ((Mb sp i).r u) H)∧Ov ops sp l0 lw i0 H H1 (i+1) rest
 | _,[]=>True
end
section
variable {P : Program} {n : Nat} {c : Cx} {opsA : Array Oper} {Q : Exit → Act → World → Prop} {l l0 lw : Fr} {U : Type} {H : List Ent} {H1 : U → List Ent} {sp : List (Sx U)} {i0 : Nat}
theorem Ov.at {ops:List Oper}:∀{k:Nat} {rest:List Oper},Ov P n c opsA Q ops sp l0 lw i0 H H1 k rest→∀(t:Nat) o,rest[t]? =some o→
  (if k+t=i0 then(∀u,PY P n c opsA Q (Gt lw (Mb sp (k+t)).old (Bw ops (PA sp u) (Mb sp (k+t)).deps l0)) H o (Mb sp (k+t)).r H1) else ∀u H,CZ P n c opsA Q (Gt lw (Mb sp (k+t)).old (Bw ops (PA sp u) (Mb sp (k+t)).deps l0)) H o ((Mb sp (k+t)).r u) H)
 | k,o::rest,⟨h1,h2⟩,t,o',ht=>by
  cases t with
  | zero=>simp at ht;subst ht;exact h1
  | succ t=>
   have:=Ov.at h2 t o' (by simpa using ht);rw[show k+(t+1)=k+1+t from by omega];exact this
 | _,[],_,t,o,h=>by simp at h
end
section
variable {P : Program} {n : Nat} {c : Cx} {opsA : Array Oper} {Q : Exit → Act → World → Prop} {l : Fr} {H : List Ent} {d : Nat} {x y : Operand} {ty t e : TypeId} {pos : String} {af : Array Edge} {v : Value} {sz : Nat}
end
abbrev Ux:=Nat→Nat→Value×Nat
def Ag (k:Nat)(u u':Ux):Prop:=∀j,j<k→u j=u' j
structure Sy where
 deps:List Nat
 r:Ux→Rp
 lv:Nat:=0
 fx:Bool:=false
 old:List Nat:=[]
def Ma (sp:List Sy)(i:Nat):Sy:=sp.getD i { deps:=[],r:=λ_=>rv undef }
def PK (sp:List Sy)(u:Ux):List Sp:=sp.map λs=>⟨s.deps,s.r u,0⟩
def Lj:List Sy→Prop
 | []=>True
 | s::r=>(∀u u',Ag s.lv u u'→s.r u=s.r u')∧Lj r
theorem Lj.at:∀{sp:List Sy},Lj sp→∀{i:Nat} {s:Sy},sp[i]? =some s→∀u u',Ag s.lv u u'→s.r u=s.r u'
 | [],_,i,s,h=>by simp at h
 | x::sp,⟨h1,h2⟩,0,s,h=>by simp at h;subst h;exact h1
 | x::sp,⟨h1,h2⟩,i+1,s,h=>Lj.at h2 (by simpa using h)
def cnt (S:Nat→Bool)(is:List Nat):Nat:=(is.filter S).length
section
variable (P : Program) (n : Nat) (c : Cx) (opsA : Array Oper) (Q : Exit → Act → World → Prop)
def Qd (l:Fr)(H:List Ent)(o:Oper)(k:Nat)(u:Ux)(r:Ux→Rp)(H1:Ux→List Ent):Prop:=
 ∀a w Z (K:Act→World→Prop),BI n l a Z→St c H Z w→(∀u' v w' Z',Ag k u u'→Fz.le Z Z'→(r u').p Z' v→St c (H1 u') Z' w'→K (a.put o.dst v) w')→
  Region.wanted o (yielded opsA a.tmps)=true∧o.wp P a w K Q
def PZ (ops:List Oper)(sp:List Sy)(l0 lw:Fr)(is:List Nat)(hs:List (Ux→List Ent))(i:Nat)(o:Oper):Prop:=
 match is.findIdx? (λx=>Nat.beq x i) with
 | some k=>∀u,Qd P n c opsA Q (Gt lw (Ma sp i).old (Bw ops (PK sp u) (Ma sp i).deps l0)) (hs.getD k (λ_=>[]) u) o k u (Ma sp i).r (hs.getD (k+1) (λ_=>[]))
 | none=>if (Ma sp i).fx=true then ∀u,CZ P n c opsA Q (Gt lw (Ma sp i).old (Bw ops (PK sp u) (Ma sp i).deps l0)) (hs.getD (Ma sp i).lv (λ_=>[]) u) o ((Ma sp i).r u) (hs.getD (Ma sp i).lv (λ_=>[]) u)
  else ∀u H,CZ P n c opsA Q (Gt lw (Ma sp i).old (Bw ops (PK sp u) (Ma sp i).deps l0)) H o ((Ma sp i).r u) H
def Ou (ops:List Oper)(sp:List Sy)(l0 lw:Fr)(is:List Nat)(hs:List (Ux→List Ent)):Nat→List Oper→Prop
 | i,o::rest=>PZ P n c opsA Q ops sp l0 lw is hs i o∧Ou ops sp l0 lw is hs (i+1) rest
 | _,[]=>True
end
section
variable {P : Program} {n : Nat} {c : Cx} {opsA : Array Oper} {Q : Exit → Act → World → Prop} {l l0 lw : Fr} {H : List Ent} {hs : List (Ux → List Ent)} {sp : List Sy} {is : List Nat}
theorem Ou.at {ops:List Oper}:∀{k:Nat} {rest:List Oper},Ou P n c opsA Q ops sp l0 lw is hs k rest→∀(t:Nat) o,rest[t]? =some o→PZ P n c opsA Q ops sp l0 lw is hs (k+t) o
 | k,o::rest,⟨h1,h2⟩,t,o',ht=>by
  cases t with
  | zero=>simp at ht;subst ht;exact h1
  | succ t=>
   have:=Ou.at h2 t o' (by simpa using ht);rw[show k+(t+1)=k+1+t from by omega];exact this
 | _,[],_,t,o,h=>by simp at h
end
section
variable {P : Program} {n : Nat} {c : Cx} {opsA : Array Oper} {Q : Exit → Act → World → Prop} {l : Fr} {H : List Ent} {d : Nat} {x y : Operand} {ty t e : TypeId} {pos : String} {af : Array Edge} {v : Value} {sz : Nat}
end
set_option maxRecDepth 100000
set_option maxHeartbeats 4000000
@[reducible] def Ac (x:Ab):List Rp:=[rS x.fID,rI .i64 x.fAt,rS x.fTenant,rS x.fSource,AV 4 (List.map Ae x.fBody)]
theorem Ex (x:Ab):(Ac x).length=5:=rfl
theorem Ew (x:Ab):(Ac x).all (·.one)=true:=rfl
theorem OT:∃inf,Tryd.prog.info? 70=some inf∧inf.zero=some (.agg #[(.int .i64 0),(.int .i64 0),(.string ⟨#[]⟩),(.int .i64 0)])∧inf.size=4∧inf.bytes=40:=by
  have key:(Tryd.prog.info? 70).map (λi=>(i.zero,i.size,i.bytes))=some (some (.agg #[(.int .i64 0),(.int .i64 0),(.string ⟨#[]⟩),(.int .i64 0)]),4,40):=by kernel_rfl
  obtain⟨inf,h1,h2⟩:=Option.map_eq_some_iff.1 key;simp only[Prod.mk.injEq] at h2;exact⟨inf,h1,h2.1,h2.2.1,h2.2.2⟩
theorem No (ys:(List Ad))(r:(List Ad))(h:Ic ys=some r):Fn Tryd.prog GE 35 [AV 4 (List.map Ae ys)] [] (λR H=>R=AV 4 (List.map Ae r)∧H=[]):=by
 refine enter (n:=8) Tryd.func35 rfl Tryd.ntmps35 rfl (λw Z=>?_);refine Bj (l':=[(0,AV 4 (List.map Ae ys))]) (H':=[]) rfl rfl ?_;unfold Ic at h;refine As (wv (r:=rv (.slice none 0 0)) (An rfl) (A2 (Ax (As (wm rfl (wv (L2 El rfl) (A2 (Mp rfl (λc1=>?_) (λc1=>?_)))))))))
 ·have e2:ys=[]:=List.map_eq_nil_iff.1 (c1 rfl);have h3:some ([]:List Ad)=some r:=by rw[e2] at h;exact(AK h).2
  refine As (wv (r:=rv (.slice none 0 0)) (An rfl) (A2 (A4 (Al (WK.up (d:=2) (r:=AV 4 (List.map Ae ([]:List Ad))) rfl (Up.le (Kf.nil _)) ?_)))));obtain rfl:=A8 h3;exact A3 (BF Tryd.results35 (AZ rfl)) sN ⟨rfl,rfl⟩
 ·refine AC (Bd (As (CG (ys:=([]:List Ad)) (enc:=Ae) (css:=[]) (xs:=[]) El Hc O8 rfl rfl rfl trivial rfl CY rfl rfl rfl (λb4=>?_))));refine wm rfl ?_;obtain⟨g6,h7⟩:=AK h;obtain⟨inf,hinf⟩:=OT;refine Gf (xs:=([]:List Ad)) (ys:=ys) (enc:=Ae) (i:=0) El hinf.1 hinf.2.1 hinf.2.2.1 hinf.2.2.2 rfl rfl rfl rfl rfl (Nw.z rfl rfl) CY Ir g6 rfl (λv5=>?_);refine wa rfl (A2 (A4 (WK.freeze (i:=0) rfl (WK.up (d:=2) (r:=AV 4 (List.map Ae (([]:List Ad)++ys))) rfl (Up.fact (i:=0) rfl) ?_))));obtain rfl:=A8 h7;exact A3 (BF Tryd.results35 (AZ rfl)) (sS sN) ⟨rfl,rfl⟩
theorem KG (n:Int)(r:Bool)(h:Ec n=some r):Fn Tryd.prog GE 34 [rI .i64 n] [] (λR H=>R=rB r∧H=[]):=by
 refine enter (n:=9) Tryd.func34 rfl Tryd.ntmps34 rfl (λw Z=>?_);refine Bj (l':=[(0,rI .i64 n)]) (H':=[]) rfl rfl ?_;unfold Ec at h;refine As (wv (r:=rB false) (An rfl) (A2 (AI [(2,rB ((decide (0≤n))&&(decide (n≤1073741824))))] [] ?_ ?_)))
 ·refine Av (wm rfl (wv (HR rfl rfl) (wm rfl (AG (decide (0≤n)) (λc1=>?_) (λc1=>?_)))))
  ·refine wo c1 (wm rfl (wo c1 (wv (EW rfl rfl) (Iu rfl c1 rfl (wa rfl (Au ?_))))));exact CD c1
  ·refine wf c1 (wf c1 (wv (r:=rB false) (Ay (b:=decide (0≤n)) rfl c1 rfl) (wa rfl (Au ?_))));exact CD c1
 refine A4 ?_;obtain rfl:=A8 h;exact A3 (BF Tryd.results34 (AZ rfl)) sN ⟨rfl,rfl⟩
theorem Mz (F:Nat)(t:Ab)(r:Int)(h:HF F t=some r):Fn Tryd.prog GE 33 [Bh (Ac t)] [] (λR H=>R=rI .i64 r∧H=[]):=by
 refine enter (n:=27) Tryd.func33 rfl Tryd.ntmps33 rfl (λw Z=>?_);refine Bj (l':=[(0,Bh (Ac t))]) (H':=[]) rfl rfl ?_;unfold HF at h;refine As (BM rfl rfl (λb1=>?_));refine wv (r:=rI .i64 0) (An rfl) (A2 (Ax (AN (As (wv (Af Bx rfl DA rfl rfl) (wv (Az (i:=0) DR rfl rfl rfl) (DT (rs:=[rS t.fID]) (r:=rB (Nf t.fID)) Tryd.call43 rfl (PQ t.fID) rfl rfl (wv (BX rfl) (wa rfl (A2 (A6 (b:=!(Nf t.fID)) rfl (λc2=>?_) (λc2=>?_))))))))))))
 ·have h3:=AO c2 h;refine As (wv (r:=rI .i64 4) (An rfl) (A2 (A4 (A9 (Al ?_)))));obtain rfl:=A8 h3;exact A3 (BF N1 (AZ rfl)) (sS sN) ⟨rfl,rfl⟩
 ·have h4:=AP c2 h;refine As (wv (Af Bx rfl Cu rfl rfl) (wv (Az (i:=0) CM rfl rfl rfl) ?_));obtain⟨r5,e7,h6⟩:=AR h4;refine Ig Tryd.call34 (KG t.fAt r5 e7) rfl (wv (BX rfl) (wa rfl (A2 (A6 (b:=!r5) rfl (λc8=>?_) (λc8=>?_)))))
  ·have h9:=AO c8 h6;refine As (wv (r:=rI .i64 2) (An rfl) (A2 (A4 (A9 (Al ?_)))));obtain rfl:=A8 h9;exact A3 (BF N1 (AZ rfl)) (sS sN) ⟨rfl,rfl⟩
  ·have hd:=AP c8 h6;refine AI [(1,rv (.pointer (some ⟨b1,0,none⟩))),(13,rB ((!(C7 t.fTenant))||(!(C7 t.fSource))))] [.blk b1 (Ac t) 33] ?_ ?_
   ·refine Av (wv (Af Bx rfl DA rfl rfl) (wv (Az (i:=0) DR rfl rfl rfl) (DT (rs:=[rS t.fTenant]) (r:=rB (C7 t.fTenant)) Tryd.call44 rfl (MO t.fTenant) rfl rfl (wv (BX rfl) (wm rfl (AG (!(C7 t.fTenant)) (λha=>?_) (λha=>?_)))))))
    ·refine wf ha (wf ha (wf ha (wf ha (wv (r:=rB true) (Aq (b:=!(C7 t.fTenant)) rfl ha rfl) (wa rfl (Au ?_))))));exact CD ha
    ·refine wo ha (wv (Af Bx rfl DA rfl rfl) (wo ha (wv (Az (i:=0) DR rfl rfl rfl) (wo ha (DT (rs:=[rS t.fSource]) (r:=rB (C7 t.fSource)) Tryd.call44 rfl (MO t.fSource) rfl rfl (wo ha (wv (BX rfl) (He rfl ha rfl (wa rfl (Au ?_))))))))));exact CD ha
   refine A6 (b:=((!(C7 t.fTenant))||(!(C7 t.fSource)))) rfl (λhb=>?_) (λhb=>?_)
   ·have he:=AO hb hd;refine As (wv (r:=rI .i64 4) (An rfl) (A2 (A4 (A9 (Al ?_)))));obtain rfl:=A8 he;exact A3 (BF N1 (AZ rfl)) (sS sN) ⟨rfl,rfl⟩
   ·have hf:=AP hb hd;refine AC (AT (Bd (As (wv (Af Bx rfl Hd rfl rfl) (wv (Az (i:=0) In rfl rfl rfl) ?_)))));obtain⟨hg,hh,hi⟩:=AR hf;refine Ig Tryd.call45 (Mt F t.fBody hg hh) rfl (wa rfl (A2 (A4 ?_)));obtain rfl:=A8 hi;exact A3 (BF N1 (AZ rfl)) (sS sN) ⟨rfl,rfl⟩
theorem Mu (t:Ab)(r:Ab)(h:Lt t=some r):Fn Tryd.prog GE 22 [Bh (Ac t)] [] (λR H=>R=Bh (Ac r)∧H=[]):=by
 refine enter (n:=8) Tryd.func22 rfl Tryd.ntmps22 rfl (λw Z=>?_);refine Bj (l':=[(0,Bh (Ac t))]) (H':=[]) rfl rfl ?_;unfold Lt at h;refine As (BM rfl rfl (λb1=>?_));refine CH (cs:=[rS ([]:Ai),rI .i64 0,rS ([]:Ai),rS ([]:Ai),rv (.slice none 0 0)]) Me rfl rfl (λb2=>?_);refine CF (wv (Af Bx rfl Hd rfl rfl) (wv (Az (i:=1) In rfl rfl rfl) ?_));obtain⟨r3,e5,h4⟩:=AR h;refine Ig Tryd.call35 (No t.fBody r3 e5) rfl (wv (Af Bx rfl Hd rfl rfl) (Cv (i:=1) Hd rfl rfl (BW rfl) rfl rfl (cs':=[rS t.fID,rI .i64 t.fAt,rS t.fTenant,rS t.fSource,AV 4 (List.map Ae r3)]) rfl (H':=[.blk b2 [rS ([]:Ai),rI .i64 0,rS ([]:Ai),rS ([]:Ai),rv (.slice none 0 0)] 33,.blk b1 [rS t.fID,rI .i64 t.fAt,rS t.fTenant,rS t.fSource,AV 4 (List.map Ae r3)] 33]) rfl (CF (wv (Bo (i:=1) Gd Bp rfl rfl rfl rfl) (BA (i:=0) Bp rfl rfl rfl (B5.c rfl) rfl rfl (cs':=[rS t.fID,rI .i64 t.fAt,rS t.fTenant,rS t.fSource,AV 4 (List.map Ae r3)]) rfl (H':=[.blk b2 [rS t.fID,rI .i64 t.fAt,rS t.fTenant,rS t.fSource,AV 4 (List.map Ae r3)] 33,.blk b1 [rS t.fID,rI .i64 t.fAt,rS t.fTenant,rS t.fSource,AV 4 (List.map Ae r3)] 33]) rfl (A2 (A4 ?_)))))));obtain rfl:=A8 h4;exact A3 (BF Tryd.results22 (HK (i:=0) Gd Bp rfl rfl rfl)) (sS (sS sN)) ⟨rfl,rfl⟩
end Go.Proofs.YtkoiaconljdbeaaDoor.Q
namespace Go.Proofs.YtkoiaconljdbeaaDoor
open Go
def keysOk {T:Type}(xs:List (Ai×T)):Bool:=decide (xs.length*16≤140737488355328)&&xs.all λp=>Nu p.1
end Go.Proofs.YtkoiaconljdbeaaDoor
namespace Go.Proofs.YtkoiaconljdbeaaDoor.Q
open Go Go.RowKit Go.ChangeMaps
set_option linter.unusedVariables false
set_option linter.unusedSimpArgs false
def RU:Value→Option (DataW Unit×List MemPlace):=λ_=>some (.nil,[])
theorem OK {P:Program}{k:TypeId}(hkt:P.underlying k=some .string){e:MapEntry}{s:Ai}(he:e.key = .string (B s))(hs:s.length≤maxLen):WideElems.rd P k RU e=some (.string s,.nil):=by
 obtain⟨key,val,born⟩:=e;simp only at he;subst he;exact WideElems.rd_mk (yv:=(.nil,[])) (by simp[keyOf,hkt,mapKey,B];exact hs) rfl
theorem Ek.rgs {P:Program}{k:TypeId}(hkt:P.underlying k=some .string){Z:Fz}:∀{f:List (Ai×Rp)} {es:List MapEntry},Ek Z f es→(∀p∈f,p.1.length≤maxLen)→es.map (WideElems.rg P k RU)=f.map (λp=>(Lit.string p.1,(.nil:DataW Unit)))∧(∀x∈es,∃y,WideElems.rd P k RU x=some y)∧es.map (·.key)=f.map λp=>Value.string (B p.1)
 | [],[],_,_=>⟨rfl,(λ_ h=>by cases h),rfl⟩
 | p::f,e::es,⟨⟨h1,_⟩,h2⟩,hk=>by
  obtain⟨a1,a2,a3⟩:=Ek.rgs hkt h2 λq hq=>hk q (List.mem_cons_of_mem _ hq);have hr:=OK hkt h1 (hk p (List.mem_cons_self ..));refine⟨?_,λx hx=>?_,?_⟩
  ·rw[QB,QB,a1,WideElems.rg_of hr]
  ·rcases List.mem_cons.1 hx with rfl | hx
   ·exact⟨_,hr⟩
   ·exact a2 x hx
  ·rw[QB,QB,a3,h1]
theorem NK {P:Program}{k:TypeId}(hkt:P.underlying k=some .string){w:World}{Z:Fz}{b:Nat}{m:List (Ai×Rp)}{es:Array MapEntry}{ck:Nat}(hb:w.heap[b]? =some (.map es ck))(hm:CL Z m es.toList ck)(hk:∀p∈m,p.1.length≤maxLen)(hsz:m.length≤maxLen) :
  ∃D0:DataW Unit,w.ownsMap P k RU b es.size D0∧(strKeys D0).Perm (m.map (·.1))∧Maps.size D0=m.length:=by
 obtain⟨h1,h2,h3,f,h4,h5⟩:=hm;obtain⟨a1,a2,a3⟩:=Ek.rgs hkt h5 λp hp=>hk p (h4.subset hp);have hlen:es.size=m.length:=by
  have e:=congrArg List.length a3;simp only[Qs,Array.length_toList] at e;rw[e];exact h4.length_eq
 have hkey:es.toList.Pairwise (λx y=>x.key≠y.key):=by
  have e:(es.toList.map (·.key)).Nodup:=by
   rw[a3];have hf:(f.map (·.1)).Nodup:=(h4.map _).nodup_iff.2 h1;have:f.map (λp=>Value.string (B p.1))=(f.map (·.1)).map λs=>Value.string (B s):=by rw[QM];rfl
   rw[this];refine List.Pairwise.map _ (λx y hxy e=>hxy ?_) hf;simp[B] at e;exact e
  exact List.pairwise_map.1 e
 refine⟨.map ((es.toList.map (WideElems.rg P k RU)).foldr DataW.insert []),⟨es,ck,hb,⟨by rw[hlen];exact hsz,(MapKept.stamped_iff es ck).2 ⟨h3,h2,hkey⟩,a2⟩,Qx _,rfl⟩,?_,?_⟩
 ·show(((es.toList.map (WideElems.rg P k RU)).foldr DataW.insert []).map λp=>strOf p.1).Perm _;rw[a1];refine((WideShapes.sorted_perm _).map _).trans ?_;rw[QM];exact h4.map _
 ·show((es.toList.map (WideElems.rg P k RU)).foldr DataW.insert []).length=_;rw[length_sorted,Qs,Array.length_toList,hlen]
theorem Kq {w:World}{a b:Nat}{e:TypeId}{sz n:Nat}{v:Value}{us:List Value}(h:w.ownsRow a e sz v n us)(hb:b≤a):w.ownsRow b e sz v n us:=by
 refine⟨h.1,?_⟩;rcases h.2 with hn | ⟨g,cap,cur,rfl,hg,rest⟩
 ·exact .inl hn
 ·exact .inr ⟨g,cap,cur,rfl,Nat.le_trans hb hg,rest⟩
theorem J7 {w:World}{a:Nat}{e:TypeId}{sz n:Nat}{v:Value}{us:List Value}(h:w.ownsRow a e sz v n us):∀k∈v.ownBlock.toList,a≤k:=by
 rcases h.2 with⟨rfl,_⟩ | ⟨g,cap,cur,rfl,hg,rest⟩
 ·intro k hk;simp[Value.ownBlock] at hk
 ·intro k hk;simp[Value.ownBlock] at hk;omega
theorem St.newrow {c:Cx}{H:List Ent}{Z:Fz}{w w':World}(h:St c H Z w)(hb:Below w.heap.size w w'){v:Value}{e:TypeId}{ys:List Ai}(hr:w'.ownsRow w.heap.size e 1 v ys.length (ys.map Go.Proofs.encStr)):St c (.row v e 1 (ys.map eS)::H) Z w':=by
 refine h.add hb.os hb.tape hb.output hb.size (λk hk=>hb.block k hk) ⟨λc hc=>?_,ys.map Go.Proofs.encStr,?_,?_⟩ (λk hk=>J7 hr k hk)
 ·obtain⟨y,_,rfl⟩:=List.mem_map.1 hc;rfl
 ·rw[Qs];exact Kq hr (QJ _)
 ·clear hr
  induction ys with
  | nil=>exact trivial
  | cons y r ih=>exact⟨by show Go.Proofs.encStr y=Value.string (B y);rfl,ih⟩
end Go.Proofs.YtkoiaconljdbeaaDoor.Q
namespace Go.Proofs.YtkoiaconljdbeaaDoor
open Go
set_option linter.unusedVariables false
structure Aa where
 fTimer:Ab
 fTold:Bool
 deriving DecidableEq,Inhabited
structure Ar where
 fTimers:(List (Ai×Aa))
 deriving DecidableEq,Inhabited
def Mx :Option (Ar):=
 some (Ar.mk ([]:List (Ai×Aa)))
def Ed (q:Ar):Option (Bool×Ar):=
 some (true,q)
def HD (t:Ab)(now:Int):Option (Bool):=
 some (decide (now<t.fAt))
def BB (ys:(List Ab))(now:Int)(ha:Int):Option (Stp (Int) (Out (Int) (Unit))):=
 BJ (decide (ha<(ys.length:Int))) (B9 (DB ha (ys.length:Int))<|BK (HD (Ak ys ha) now) λhb=>BJ (hb) (some (.out (.ret ha))) (B9 (Ci .i64 (ha+1))<|some (.next (ha+1)))) (some (.out (.go ())))
def Dk :Option (Int):=
 some (-1)
def DN (F:Nat)(ys:(List Ab))(now:Int):Option (Int):=
 BK (Dq (λσ=>BB ys now σ) F 0) (CE λν=>Dk )
def BG (ha:Int)(hb:Int)(he:Bool)(hf:Bool)(hd:(List Ab)):Option (Stp (Int×Int×(List Ab)) (Out ((List Ab)) (Int×(List Ab)))):=
 B9 (Ci .i64 (ha+1))<|some (.next (hb,ha+1,hd))
def B3 (now:Int)(hb:Int)(hd:Int)(ha:(List Ab)):Option (Stp (Int×Int×(List Ab)) (Out ((List Ab)) (Int×(List Ab)))):=
 BJ (decide (hd<(ha.length:Int))) (B9 (DB hd (ha.length:Int))<|BK (HD (Ak ha hd) now) λhe=>BJ (!he) (B9 (DB hb (ha.length:Int))<|Mc (List.set ha (Int.toNat hb) (Ak ha hd)) λhf=>B9 (Ci .i64 (hb+1))<|BG hd (hb+1) he (!he) hf) (BG hd hb he (!he) ha)) (some (.out (.go (hb,ha))))
def Cr (ha:Int)(hb:(List Ab)):Option ((List Ab)):=
 B9 (JP ha (hb.length:Int))<|B9 (JP ha ((List.take (Int.toNat ha) hb++List.replicate (hb.length-Int.toNat ha) (Ab.mk ([]:Ai) 0 ([]:Ai) ([]:Ai) ([]:(List Ad)))).length:Int))<|some (List.take (Int.toNat ha) (List.take (Int.toNat ha) hb++List.replicate (hb.length-Int.toNat ha) (Ab.mk ([]:Ai) 0 ([]:Ai) ([]:Ai) ([]:(List Ad)))))
def D2 (F:Nat)(ys:(List Ab))(now:Int):Option ((List Ab)):=
 BK (DN F ys now) λr1=>BJ (decide (r1=(-1))) (some ys) (B9 (Ci .i64 (r1+1))<|BK (Dq (λσ=>B3 now σ.1 σ.2.1 σ.2.2) F (r1,r1+1,ys)) (CE λν=>Cr ν.1 ν.2))
def Du (he:Ai)(hd:Aa)(ha:(List Ab)):Option (Stp ((List Ab)) (Out ((List Ab)×Ar) ((List Ab)))):=
 BK (Lt hd.fTimer) λhb=>B9 (Ob 80 (ha.length+([hb]:List Ab).length))<|some (.next (ha++([hb]:List Ab)))
def Dt (r1:Bool×Ar)(ha:(List Ab)):Option ((List Ab)×Ar):=
 B9 (DJ (λx y:Ab=>BZ x.fAt y.fAt x.fID y.fID) ha)<|B9 (Nat.blt ha.length 4611686018427387904)<|some (srt (λx y:Ab=>BZ x.fAt y.fAt x.fID y.fID) ha,r1.2)
def HC (q:Ar):Option ((List Ab)×Ar):=
 BK (Ed q) λr1=>BJ (!r1.1) (some (([]:List Ab),r1.2)) (L8 r1.2.fTimers λord=>BK (KW (λp τ=>Du p.1 p.2 τ) ord ([]:List Ab)) (CE λν=>Dt r1 ν))
def D4 (now:Int)(hb:(List Ai))(ha:Int)(hd:(List (Ai×Aa))):Option (Stp (Int×(List (Ai×Aa))) (Out ((List Ab)×Ar) ((List (Ai×Aa))))):=
 BJ (decide (ha<(hb.length:Int))) (B9 (DB ha (hb.length:Int))<|B9 (Ci .i64 (ha+1))<|some (.next (ha+1,mset hd (Ak hb ha) (Aa.mk ((A7 hd (Ak hb ha) (Aa.mk (Ab.mk ([]:Ai) 0 ([]:Ai) ([]:Ai) ([]:(List Ad))) false)).fTimer) (((A7 hd (Ak hb ha) (Aa.mk (Ab.mk ([]:Ai) 0 ([]:Ai) ([]:Ai) ([]:(List Ad))) false)).fTold)||(decide ((((A7 hd (Ak hb ha) (Aa.mk (Ab.mk ([]:Ai) 0 ([]:Ai) ([]:Ai) ([]:(List Ad))) false)).fTimer).fAt)≤now))))))) (some (.out (.go hd)))
def Gk (F:Nat)(now:Int)(hb:(List (Ai×Aa))):Option ((List Ab)×Ar):=
 BK (HC (Ar.mk hb)) λha=>BK (D2 F ha.1 now) λhd=>some (hd,ha.2)
def HE (F:Nat)(q:Ar)(now:Int):Option ((List Ab)×Ar):=
 BK (Ed q) λr2=>BJ (!r2.1) (some (([]:List Ab),r2.2)) (B9 (keysOk r2.2.fTimers)<|L8 (List.map Prod.fst r2.2.fTimers) λha=>BK (Dq (λσ=>D4 now ha σ.1 σ.2) F (0,r2.2.fTimers)) (CE λν=>Gk F now ν))
def IO (F:Nat)(q:Ar)(t:Ab)(now:Int):Option (Int×Ar):=
 BK (Ed q) λr2=>BJ (!r2.1) (some (10,r2.2)) (BK (HF F t) λr8=>BJ (!decide (r8=0)) (some (r8,r2.2)) (B9 ((Ec now).isSome)<|BJ (((!(ov (Ec now)))||(decide (t.fAt<now)))) (some (2,r2.2)) (BJ (CJ r2.2.fTimers t.fID) (some (6,r2.2)) (BJ (decide (256≤(r2.2.fTimers.length:Int))) (some (3,r2.2)) (BK (Lt t) λha=>some (0,(Ar.mk (mset r2.2.fTimers t.fID (Aa.mk ha false)))))))))
def HI (q:Ar)(id:Ai):Option (Int×Ar):=
 BK (Ed q) λr1=>BJ (!r1.1) (some (10,r1.2)) (BJ (!(CJ r1.2.fTimers id)) (some (5,r1.2)) (some (0,(Ar.mk (mdel r1.2.fTimers id)))))
def CQ (id:Ai)(x7:Bool)(x8:(List (Ai×Aa))):Option (Int×Ar):=
 BJ (x7) (some (10,(Ar.mk x8))) (BK (HI (Ar.mk x8) id) λha=>some (ha.1,ha.2))
def D5 (q:Ar)(id:Ai):Option (Int×Ar):=
 BK (Ed q) λr9=>BJ (r9.1) (CQ id ((A7 r9.2.fTimers id (Aa.mk (Ab.mk ([]:Ai) 0 ([]:Ai) ([]:Ai) ([]:(List Ad))) false)).fTold) r9.2.fTimers) (CQ id false r9.2.fTimers)
def Mv (q:Ar):Option (Int×Bool×Ar):=
 BK (HC q) λr1=>BJ (decide ((r1.1.length:Int)=0)) (some (0,false,r1.2)) (B9 (DB 0 (r1.1.length:Int))<|some ((Ak r1.1 0).fAt,true,r1.2))
end Go.Proofs.YtkoiaconljdbeaaDoor
namespace Go.Proofs.YtkoiaconljdbeaaDoor.Q
open Go Go.RowKit Go.Sort Go.Shelf Go.Proofs
set_option linter.unusedVariables false
set_option linter.unusedSimpArgs false
theorem KK {Z:Fz}{T α:Type}{enc:T→List Rp}{raw:α→List Value}(hR:∀x us,AB Z (enc x) us→∃a,us=raw a):∀{xs:List T} {us:List Value},AB Z (xs.map enc).flatten us→∃zs:List α,us=(zs.map raw).flatten∧All2 (λx a=>AB Z (enc x) (raw a)) xs zs
 | [],us,h=>by
  cases us with
  | nil=>exact⟨[],rfl,.nil⟩
  | cons _ _=>exact absurd h id
 | x::r,us,h=>by
  simp only[QB,List.flatten_cons] at h;have h1:=h.take (enc x).length;have h2:=h.drop (enc x).length;rw[List.take_left' rfl] at h1;rw[List.drop_left' rfl] at h2;obtain⟨a,ha⟩:=hR x _ h1;obtain⟨zs',e,h3⟩:=KK hR h2;refine⟨a::zs',?_,.cons (ha▸h1) h3⟩;rw[QB,List.flatten_cons,← ha,← e,List.take_append_drop]
theorem NF {Z:Fz}{T α:Type}{enc:T→List Rp}{raw:α→List Value}{xs:List T}{zs:List α}(h:All2 (λx a=>AB Z (enc x) (raw a)) xs zs):AB Z (xs.map enc).flatten (zs.map raw).flatten:=by
 induction h with
 | nil=>exact trivial
 | cons h1 _ ih=>exact h1.append ih
theorem Ia {α:Type}[Inhabited α]{raw:α→List Value}{k:Nat}(hk:∀a,(raw a).length=k)(d:Array α):flatK raw k d=((d.toList.map raw).flatten).toArray:=by
 have hl:((d.toList.map raw).flatten).length=d.size*k:=by
  rw[CS (sz:=k) (λc hc=>by obtain⟨a,_,rfl⟩:=List.mem_map.1 hc;exact hk a)];simp
 refine ext_get! (by rw[size_flatK];simpa using hl.symm) λt ht=>?_;have ht':t<d.size*k:=by simpa using ht
 have hk0:0<k:=by
  rcases Nat.eq_zero_or_pos k with h | h
  ·subst h;simp at ht'
  ·exact h
 have hq:t/k<d.size:=by rw[Nat.div_lt_iff_lt_mul hk0];exact ht'
 have hm:t % k<k:=Nat.mod_lt _ hk0;rw[get_flatK raw k d t ht'];have e2:=DO (sz:=k) (vs:=d.toList.map raw) (λc hc=>by obtain⟨a,_,rfl⟩:=List.mem_map.1 hc;exact hk a) (i:=t/k) (c:=raw d[t/k]!) (by simp[hq]) (j:=t % k) (u:=(raw d[t/k]!)[t % k]!) (by rw[getElem!_pos (raw d[t/k]!) (t % k) (by rw[hk];exact hm)];simp[hk,hm]);rw[Nat.div_add_mod' t k] at e2;have hlt:t<((d.toList.map raw).flatten).length:=by rw[hl];exact ht'
 rw[getElem!_pos _ t (by simpa using hlt)];rw[Qk hlt] at e2;simpa using(Option.some.inj e2).symm
theorem Ja {α:Type}[Inhabited α]{raw:α→List Value}{k:Nat}{w:World}{g n:Nat}{os:Array Obj}{cur:Array Value}{e:TypeId}{fr:Nat×Nat}(d:Array α)(hb:w.heap[g]? =some (.cells cur e fr)) :
  (sortWorldK raw k w g 0 n d os).heap[g]? =some (.cells (putCells id 0 (flatK raw k d) cur) e fr):=by
 have hg:g<w.heap.size:=(Array.getElem?_eq_some_iff.1 hb).1;unfold sortWorldK;rw[heap_grow_old _ _ (by rw[size_putRowK];exact hg)];simp[putRowK,putRow,mapBlock,Sort.ahead,Array.getElem?_modify,hb,onCells]
theorem EZ {α:Type}[Inhabited α]{raw:α→List Value}{k:Nat}{w:World}{g n:Nat}{os:Array Obj}(d:Array α){j:Nat}(hj:j<w.heap.size)(hne:j≠g) :
  (sortWorldK raw k w g 0 n d os).heap[j]? =w.heap[j]?:=by
 unfold sortWorldK;rw[heap_grow_old _ _ (by rw[size_putRowK];exact hj)];simp[putRowK,putRow,mapBlock,Sort.ahead,Array.getElem?_modify,Ne.symm hne]
theorem HA (cur:Array Value)(F:List Value)(h:F.length≤cur.size):(putCells id 0 F.toArray cur).toList.take F.length=F:=by
 apply List.ext_getElem?;intro j
 by_cases hj:j<F.length
 ·rw[List.getElem?_take_of_lt hj,Array.getElem?_toList];simp[putCells,hj,show j<cur.size by omega]
 ·rw[List.getElem?_take_eq_none (by omega),List.getElem?_eq_none (by omega)]
theorem OI {P:Program}{E:Fz→Prop}{ρ:Ren}(L:SlLaysF0.n6 P ρ){k:Nat}(aE:∀w,(isAgg (ρ.t 24)).run P w = .ok true w)(zE:∀w,(Go.sizeOf (ρ.t 24)).run P w = .ok k w)
  {T:Type} {enc:T→List Rp} (hlen:∀x,(enc x).length=k) {α:Type} [Inhabited α] (raw:α→List Value) (hk:∀a,(raw a).length=k) (h1:∀a,∀v∈raw a,v.oneCell'=true)
  (cf:α→α→Int) (hO:SWO (ltOf cf)) {lt:T→T→Bool} (hL:Ow lt)
  (hR:∀Z x us,AB Z (enc x) us→∃a,us=raw a)
  (hlt:∀Z x y a b,AB Z (enc x) (raw a)→AB Z (enc y) (raw b)→lt x y=ltOf cf a b)
  (g:Nat) (eg:∀args w,(callFunc g args).run P w = .ok (.enter g args) w)
  (hcmp:∀(a b:α) W,Calls P g #[.agg (raw a).toArray,.agg (raw b).toArray] W λe w'=>e = .returned (.int .i64 (cf a b))∧∃q os',w'=grow (W.drewN q) os')
  {v:Value} {e:TypeId} {xs:List T} (hd:DJ lt xs=true) (hsz:Nat.blt xs.length 4611686018427387904=true) :
  Fn P E (ρ.f 6) [rv v,rv (.func (.func g) #[] #[])] [.row v e k (xs.map enc)] (λR H=>R=rv (.tuple #[])∧H=[.row v e k ((srt lt xs).map enc)]):=λw Z vs hv hs=>by
 have e0:vs=[v,.func (.func g) #[] #[]]:=AB.eq_rv (us:=[v,.func (.func g) #[] #[]]) hv;subst e0;have hsz':xs.length<4611686018427387904:=by simpa using hsz
 obtain⟨h0,us,⟨h2,h3⟩,h4⟩:=hs.ent (i:=0) rfl;rcases h3 with⟨rfl,hz0⟩ | ⟨b,cap,cur,rfl,_,hb,hcap,hm,hcs,htk⟩
 ·simp at hz0;subst hz0;refine(AnyF.slices_SortFunc_none (P:=P) (ρ:=ρ) { L with } none 0 (.func (.func g) #[] #[]) w).mono ?_;rintro e' w' ⟨rfl,rfl⟩;exact⟨_,_,_,Z,rfl,⟨rfl,rfl⟩,rfl,hs⟩
 ·obtain⟨zs',eus,ha⟩:=KK (hR Z) h4;subst eus;have hal:zs'.length=xs.length:=ha.length.symm;have hrl:((zs'.map raw).flatten).length=xs.length*k:=by
   rw[CS (sz:=k) (λc hc=>by obtain⟨a,_,rfl⟩:=List.mem_map.1 hc;exact hk a)];simp[hal]
  simp only[Qs] at h2 hcap htk;have hfl:flatK raw k zs'.toArray=((zs'.map raw).flatten).toArray:=Ia hk _;have hH:HoldsK raw k w b 0 zs'.toArray:=by
   unfold HoldsK;rw[hfl];intro j hj;have hj':j<((zs'.map raw).flatten).length:=by simpa using hj
   refine⟨?_,by simp[World.frozen?,hb]⟩;have h5:(cur.toList.take (xs.length*k))[j]? =((zs'.map raw).flatten)[j]?:=by rw[htk]
   rw[List.getElem?_take_of_lt (by omega)] at h5;simp only[World.cell?,hb,QC,Option.isSome_none,QH,if_false];rw[← Array.getElem?_toList,h5];rw[getElem!_pos _ j hj];simp[hj']
  have hblk:b<w.heap.size:=(Array.getElem?_eq_some_iff.1 hb).1;have hsl:(Value.slice (some ⟨b,0,none⟩) (xs.map enc).length cap) = .slice (some ⟨b,0,none⟩) zs'.toArray.size cap:=by simp[hal]
  have hcon:=AnyQ.slices_SortFunc (P:=P) (ρ:=ρ) L k aE zE raw hk h1 cf hO g #[] b 0 cap zs'.toArray w eg (λm os dk hs x y=>by simpa using hcmp x y _) hH hblk (by simpa[hal] using hsz');have hargs:[Value.slice (some ⟨b,0,none⟩) (xs.map enc).length cap,Value.func (.func g) #[] #[]].toArray = #[.slice (some ⟨b,0,none⟩) zs'.toArray.size cap,.func (.func g) #[] #[]]:=by rw[hsl]
  rw[hargs];refine hcon.mono ?_;rintro e' w' ⟨rfl,d',n,os,hp,hsd,rfl⟩;have hds:d'.size=zs'.length:=by simpa using hp.1
  have hperm:d'.toList.Perm zs':=by
   have:=hp.2.2;rw[Array.extract_eq_self_of_le (by rw[hp.1];exact Qx _),Array.extract_eq_self_of_le (Qx _)] at this;exact this
  obtain⟨xs',hx1,hx2⟩:=All2.perm hperm.symm ha;have hpw:d'.toList.Pairwise λa b=>ltOf cf b a=false:=by
   rw[List.pairwise_iff_getElem];intro i j hi hj hij;have hi':i<d'.size:=by simpa using hi
   have hj':j<d'.size:=by simpa using hj
   have:=hsd i j (QJ _) hij (by simpa[hds] using hj');rw[getElem!_pos d' j hj',getElem!_pos d' i hi'] at this;simpa using this
  have hxs:xs'=srt lt xs:=Kk hL hd hx1 (All2.pairwise (p:=λx y=>lt y x=false) (λx x' a a' h5 h6 h7=>by rw[hlt Z x' x a' a h6 h5];exact h7) hx2 hpw);subst hxs;have hl2:(srt lt xs).length=xs.length:=(En lt xs).length_eq;have hf2:flatK raw k d'=((d'.toList.map raw).flatten).toArray:=Ia hk _;have hrl2:((d'.toList.map raw).flatten).length=xs.length*k:=by
   rw[CS (sz:=k) (λc hc=>by obtain⟨a,_,rfl⟩:=List.mem_map.1 hc;exact hk a)];simp[hds,hal]
  have hcc:xs.length*k≤cap*k:=Nat.mul_le_mul_right _ hcap;have hset:=hs.set (i:=0) (w':=sortWorldK raw k w b 0 n d' os) (e':=.row (.slice (some ⟨b,0,none⟩) (xs.map enc).length cap) e k ((srt lt xs).map enc)) rfl rfl rfl rfl (size_sortWorldK_c raw k w b 0 n d' os) (λj hj hne=>EZ d' hj (λe1=>hne (by simp[Ent.foot,Value.ownBlock,e1])))
   ⟨λcl hcl=>by obtain⟨x,_,rfl⟩:=List.mem_map.1 hcl;exact hlen x,(d'.toList.map raw).flatten,⟨by simp[hrl2,hl2],.inr ⟨b,cap,_,by simp[hl2],QJ _,Ja d' hb,by simpa[hl2] using hcap,hm,by simpa[putCells] using hcs,by
    rw[hf2,Qs,hl2,← hrl2];exact HA cur _ (by omega)⟩⟩,NF hx2⟩ (by simp[Ent.foot,Value.ownBlock])
  exact⟨_,_,_,Z,rfl,⟨rfl,rfl⟩,rfl,hset⟩
open Go Go.Proofs Go.Sort
theorem NZ (x:Int)(w:World):Calls Tryd.prog 38 #[.int .i64 x] w λe w'=>e = .returned (.bool false)∧w'=w:=by
 go_enter Tryd.func38,Tryd.ntmps38
 go_wp2
 go_ret
 exact⟨by simp,rfl⟩
theorem NY (x:ByteArray)(w:World):Calls Tryd.prog 39 #[.string x] w λe w'=>e = .returned (.bool false)∧w'=w:=by
 go_enter Tryd.func39,Tryd.ntmps39
 go_wp2
 go_ret
 exact⟨by simp,rfl⟩
def K5 (x y:Int):Int:=if x<y then -1 else if y<x then 1 else 0
set_option maxHeartbeats 1000000 in
theorem LQ (x y:Int)(w:World):Calls Tryd.prog 26 #[.int .i64 x,.int .i64 y] w λe w'=>e = .returned (.int .i64 (K5 x y))∧w'=w:=by
 go_enter Tryd.func26,Tryd.ntmps26
 go_wp2_with (go_at_call 38;refine(NZ _ _).mono ?_;rintro e w' ⟨rfl,hw⟩;rw[hw])
 all_goals (go_ret;refine⟨?_,rfl⟩;unfold K5;(repeat' split)<;>first | rfl | (exfalso;omega))
theorem NB (t:TypeId)(a b:ByteArray):binOp .gtr t (.string a) (.string b)=pure (.bool !(Op.bytesLess a.toList b.toList||a.toList ==b.toList)):=by simp[binOp,Op.stringOp]
def K4 (x y:List UInt8):Int:=if Op.bytesLess x y=true then -1 else if (Op.bytesLess x y||x ==y)=false then 1 else 0
set_option maxHeartbeats 1000000 in
theorem LP (x y:ByteArray)(w:World):Calls Tryd.prog 27 #[.string x,.string y] w λe w'=>e = .returned (.int .i64 (K4 x.toList y.toList))∧w'=w:=by
 have hg:=NB
 go_enter Tryd.func27,Tryd.ntmps27
 go_wp2_with (go_at_call 39;refine(NY _ _).mono ?_;rintro e w' ⟨rfl,hw⟩;rw[hw])
 all_goals (go_ret;refine⟨?_,rfl⟩;unfold K4;simp_all)
def NL (p q:Int):Int:=if p=0 then q else p
set_option maxHeartbeats 1000000 in
theorem PO (p q:Int)(b cap:Nat)(w:World)(h0:w.cell? ⟨b,0,none⟩=some (.int .i64 p))(h1:w.cell? ⟨b,1,none⟩=some (.int .i64 q)):Calls Tryd.prog 25 #[.slice (some ⟨b,0,none⟩) 2 cap] w λe w'=>e = .returned (.int .i64 (NL p q))∧w'=w:=by
 by_cases hp:p=0
 ·have er:NL p q=q:=by unfold NL;rw[if_pos hp]
  rw[er];have hp':(p !=0)=false:=by simp[hp]
  clear er
  by_cases hq:q=0
  ·have hq':(q !=0)=false:=by simp[hq]
   subst hp;subst hq
   go_enter Tryd.func25,Tryd.ntmps25
   go_wp2
   refine wp_loop_rounds 3 ?_;rw[rounds_succ]
   go_wp2
   rw[rounds_succ]
   go_wp2
   rw[rounds_succ]
   go_wp2
   go_ret
   exact⟨rfl,rfl⟩
  ·have hq':(q !=0)=true:=by simp[hq]
   subst hp
   go_enter Tryd.func25,Tryd.ntmps25
   go_wp2
   refine wp_loop_rounds 3 ?_;rw[rounds_succ]
   go_wp2
   rw[rounds_succ]
   go_wp2
   go_ret
   exact⟨rfl,rfl⟩
 ·have er:NL p q=p:=by unfold NL;rw[QR hp]
  rw[er];have hp':(p !=0)=true:=by simp[hp]
  clear er hp
  go_enter Tryd.func25,Tryd.ntmps25
  go_wp2
  refine wp_loop_rounds 3 ?_;rw[rounds_succ]
  go_wp2
  go_ret
  exact⟨rfl,rfl⟩
theorem Kj {P:Program}{id:Nat}{Q:Exit→Act→World→Prop}{a:Act}{w:World}{l:List Oper}(n:Nat)(hm:P.follows .mixedOrders=true)(hB:Region.lexTailB .any l.toArray n=true)
  (h:∀w2,w2=World.drew w→wpStill P l.toArray w2 (λa'=>wpList P l.toArray Q (l.drop n) a' w2) (l.take n) a):(Code.region id l.toArray true).wp P Q a w:=wp_region_still_tail n hm hB (h _ rfl)
theorem DQ (w:World)(cs:Array Value)(e:TypeId)(j:Nat):(w.alloc (.cells cs e)).cell? ⟨w.heap.size,j,none⟩=cs[j]?:=by
 have h:(w.alloc (.cells cs e)).heap[w.heap.size]? =some (.cells cs e):=by simpa using heap_alloc_new w _
 unfold World.cell?;simp only[h];rfl
theorem JZ (w:World)(o:Obj)(b j:Nat)(h:b<w.heap.size):(w.alloc o).cell? ⟨b,j,none⟩=w.cell? ⟨b,j,none⟩:=by
 have h1:(w.alloc o).heap[b]? =w.heap[b]?:=by
  show(w.heap.push o)[b]? =_;rw[Array.getElem?_push,QR (Nat.ne_of_lt h)]
 unfold World.cell?;simp only[h1]
theorem Ga (w:World)(o:Obj):w.alloc o=grow w #[o]:=by unfold grow World.alloc;simp
set_option maxRecDepth 100000 in
set_option maxHeartbeats 1000000 in
theorem OR (s1 s2:ByteArray)(n1 n2:Int)(a2 a3 a4 b2 b3 b4:Value)(ha2:a2.oneCell'=true)(ha3:a3.oneCell'=true)(ha4:a4.oneCell'=true)(hb2:b2.oneCell'=true)(hb3:b3.oneCell'=true)(hb4:b4.oneCell'=true)(W:World) :
  Calls Tryd.prog 24 #[.agg #[.string s1,.int .i64 n1,a2,a3,a4],.agg #[.string s2,.int .i64 n2,b2,b3,b4]] W λe w'=>e = .returned (.int .i64 (NL (K5 n1 n2) (K4 s1.toList s2.toList)))∧∃q os',w'=grow (W.drewN q) os':=by
 have hci:=λW=>LQ n1 n2 W;have hcs:=λW=>LP s1 s2 W;generalize K5 n1 n2=r1 at hci ⊢;generalize K4 s1.toList s2.toList=r2 at hcs ⊢
 go_enter Tryd.func24,Tryd.ntmps24
 go_wp2
 have hm:Tryd.prog.follows .mixedOrders=true:=by kernel_rfl
 refine Kj 10 hm (by kernel_rfl) ?_;intro W2 hW2;have hs1:(W.alloc (.cells #[.string s1,.int .i64 n1,a2,a3,a4] 33)).heap.size=W.heap.size+1:=by simp
 have ha:W2.cell? ⟨W.heap.size,0,none⟩=some (.string s1):=by
  rw[hW2];exact(JZ _ _ _ _ (by rw[hs1];omega)).trans (DQ ..)
 have hb:W2.cell? ⟨W.heap.size,1,none⟩=some (.int .i64 n1):=by
  rw[hW2];exact(JZ _ _ _ _ (by rw[hs1];omega)).trans (DQ ..)
 have hd:W2.cell? ⟨W.heap.size+1,0,none⟩=some (.string s2):=by
  rw[hW2,← hs1];exact DQ ..
 have he:W2.cell? ⟨W.heap.size+1,1,none⟩=some (.int .i64 n2):=by
  rw[hW2,← hs1];exact DQ ..
 have hg:∃q os',W2=grow (W.drewN q) os':=⟨1,#[.cells #[.string s1,.int .i64 n1,a2,a3,a4] 33,.cells #[.string s2,.int .i64 n2,b2,b3,b4] 33],by
  rw[hW2,Ga,Ga,grow_grow];rfl⟩
 have hsz:W.heap.size<W2.heap.size:=by
  rw[hW2];simp[World.drew];omega
 clear hW2 hs1;simp only[List.take_succ_cons,List.take_zero,List.drop_succ_cons,List.drop_zero]
 still_step
 still_step
 still_step
 still_step
 still_call (hci _)
 still_step
 still_step
 still_step
 still_step
 still_call (hcs _)
 refine wpStill_nil ?_
 go_wp2_with (go_at_call 25;refine(PO r1 r2 _ _ _ (DQ _ _ _ 0) (DQ _ _ _ 1)).mono ?_;rintro e w' ⟨rfl,rfl⟩)
 go_ret
 obtain⟨q,os',rfl⟩:=hg;exact⟨rfl,q,_,by rw[Ga,grow_grow]⟩
end Go.Proofs.YtkoiaconljdbeaaDoor.Q
namespace Go.Proofs
open Go.Shelf
def Tryd.SoL_ren:Go.Shelf.Ren:=⟨fun | 6=>23 | 15=>37 | 14=>36 | 28=>54 | 29=>55 | 20=>46 | 21=>47 | 22=>48 | 23=>49 | 24=>50 | 25=>51 | 26=>52 | 27=>53 | 46=>60 | 47=>61 | 48=>62 | 49=>63 | 50=>64 | 57=>70 | n=>n,fun | 22=>27 | 24=>33 | 25=>59 | 3=>3 | 39=>76 | 0=>0 | 53=>90 | 55=>92 | 4=>4 | 46=>84 | 45=>83 | 50=>49 | 5=>5 | 9=>9 | 66=>98 | 70=>102 | 76=>112 | 77=>113 | n=>n,fun | n=>n⟩
theorem Tryd.SoL:Go.Proofs.SlLaysF0.n6 Tryd.prog Tryd.SoL_ren:={
 mixed:=by kernel_rfl
 f6:=⟨Tryd.f23.name,by decide,Tryd.func23.trans (congrArg some (by kernel_rfl))⟩
 f14:=⟨Tryd.f36.name,by decide,Tryd.func36.trans (congrArg some (by kernel_rfl))⟩
 f15:=Tryd.func37.trans (congrArg some (by kernel_rfl))
 f20:=⟨Tryd.f46.name,by decide,Tryd.func46.trans (congrArg some (by kernel_rfl))⟩
 f21:=⟨Tryd.f47.name,by decide,Tryd.func47.trans (congrArg some (by kernel_rfl))⟩
 f22:=⟨Tryd.f48.name,by decide,Tryd.func48.trans (congrArg some (by kernel_rfl))⟩
 f23:=⟨Tryd.f49.name,by decide,Tryd.func49.trans (congrArg some (by kernel_rfl))⟩
 f24:=⟨Tryd.f50.name,by decide,Tryd.func50.trans (congrArg some (by kernel_rfl))⟩
 f25:=⟨Tryd.f51.name,by decide,Tryd.func51.trans (congrArg some (by kernel_rfl))⟩
 f26:=⟨Tryd.f52.name,by decide,Tryd.func52.trans (congrArg some (by kernel_rfl))⟩
 f27:=⟨Tryd.f53.name,by decide,Tryd.func53.trans (congrArg some (by kernel_rfl))⟩
 f28:=Tryd.func54.trans (congrArg some (by kernel_rfl))
 f29:=Tryd.func55.trans (congrArg some (by kernel_rfl))
 f46:=⟨Tryd.f60.name,by decide,Tryd.func60.trans (congrArg some (by kernel_rfl))⟩
 f47:=Tryd.func61.trans (congrArg some (by kernel_rfl))
 f48:=Tryd.func62.trans (congrArg some (by kernel_rfl))
 f49:=⟨Tryd.f63.name,by decide,Tryd.func63.trans (congrArg some (by kernel_rfl))⟩
 f50:=⟨Tryd.f64.name,by decide,Tryd.func64.trans (congrArg some (by kernel_rfl))⟩
 f57:=⟨Tryd.f70.name,by decide,Tryd.func70.trans (congrArg some (by kernel_rfl))⟩
 t0:=Tryd.underlying0
 a0:=Tryd.isAgg0
 z0:=Tryd.sizeOf0
 v0:=Tryd.zeroValue0
 t3:=Tryd.underlying3
 a3:=Tryd.isAgg3
 z3:=Tryd.sizeOf3
 v3:=Tryd.zeroValue3
 t4:=Tryd.underlying4
 a4:=Tryd.isAgg4
 z4:=Tryd.sizeOf4
 v4:=Tryd.zeroValue4
 t5:=Tryd.underlying5
 a5:=Tryd.isAgg5
 z5:=Tryd.sizeOf5
 v5:=Tryd.zeroValue5
 t9:=Tryd.underlying9
 a9:=Tryd.isAgg9
 z9:=Tryd.sizeOf9
 v9:=Tryd.zeroValue9
 t22:=Tryd.underlying27
 a22:=Tryd.isAgg27
 z22:=Tryd.sizeOf27
 v22:=Tryd.zeroValue27
 t25:=Tryd.underlying59
 a25:=Tryd.isAgg59
 z25:=Tryd.sizeOf59
 v25:=Tryd.zeroValue59
 t39:=Tryd.underlying76
 a39:=Tryd.isAgg76
 z39:=Tryd.sizeOf76
 v39:=Tryd.zeroValue76
 t45:=Tryd.underlying83
 a45:=Tryd.isAgg83
 z45:=Tryd.sizeOf83
 v45:=Tryd.zeroValue83
 t46:=Tryd.underlying84
 a46:=Tryd.isAgg84
 z46:=Tryd.sizeOf84
 v46:=Tryd.zeroValue84
 t50:=Tryd.underlying49
 a50:=Tryd.isAgg49
 z50:=Tryd.sizeOf49
 v50:=Tryd.zeroValue49
 t53:=Tryd.underlying90
 a53:=Tryd.isAgg90
 z53:=Tryd.sizeOf90
 v53:=Tryd.zeroValue90
 t55:=Tryd.underlying92
 a55:=Tryd.isAgg92
 z55:=Tryd.sizeOf92
 v55:=Tryd.zeroValue92
 t66:=Tryd.underlying98
 a66:=Tryd.isAgg98
 z66:=Tryd.sizeOf98
 v66:=Tryd.zeroValue98
 t70:=Tryd.underlying102
 a70:=Tryd.isAgg102
 z70:=Tryd.sizeOf102
 v70:=Tryd.zeroValue102
 t76:=Tryd.underlying112
 a76:=Tryd.isAgg112
 z76:=Tryd.sizeOf112
 v76:=Tryd.zeroValue112
 t77:=Tryd.underlying113
 a77:=Tryd.isAgg113
 z77:=Tryd.sizeOf113
 v77:=Tryd.zeroValue113 }
end Go.Proofs
namespace Go.Proofs.YtkoiaconljdbeaaDoor.Q
open Go Go.RowKit Go.Sort Go.Shelf Go.Proofs
set_option linter.unusedVariables false
set_option linter.unusedSimpArgs false
theorem Nn (n1 n2:Int)(s1 s2:Ai):decide (NL (K5 n1 n2) (K4 s1 s2)<0)=BZ n1 n2 s1 s2:=by
 unfold NL K5 K4 BZ
 by_cases h1:n1<n2
 ·simp[h1]
 ·by_cases h2:n2<n1
  ·have : ¬ n1=n2:=by omega
   simp[h1,h2,this]
  ·have e:n1=n2:=by omega
   cases h3:Op.bytesLess s1 s2 with
   | true=>simp[e,h3]
   | false=>
    by_cases h4:s1=s2
    ·simp[e,h3,h4,h4▸h3]
    ·have h5:(s1 ==s2)=false:=by simp[h4]
     simp[e,h3,h5]
abbrev Kb:=Ai×Int × {r:List Value // r.length=3∧∀v∈r,v.oneCell'=true}
instance:Inhabited Kb:=⟨([],0,⟨[.bool true,.bool true,.bool true],rfl,λv h=>by simp at h;subst h;rfl⟩)⟩
def IU (a:Kb):List Value:=.string (B a.1)::.int .i64 a.2.1::a.2.2.1
def PE (a b:Kb):Int:=NL (K5 a.2.1 b.2.1) (K4 a.1 b.1)
theorem IW (a b:Kb):ltOf PE a b=BZ a.2.1 b.2.1 a.1 b.1:=Nn ..
theorem PL:SWO (ltOf PE) where
 irrefl x:=by rw[IW];exact I8 ..
 trans x y z h1 h2:=by rw[IW] at *;exact JJ h1 h2
 ntrans x y z h1 h2:=by rw[IW] at *;exact Gw h1 h2
theorem Po (Z:Fz)(x:Ab)(us:List Value)(h:AB Z (Ac x) us):∃r : {r:List Value // r.length=3∧∀v∈r,v.oneCell'=true},us=IU (x.fID,x.fAt,r):=by
 have hl:=h.length;have h1:=AB.one (Ew x) h;obtain⟨v0,v1,v2,v3,v4,rfl⟩:∃v0 v1 v2 v3 v4,us=[v0,v1,v2,v3,v4]:=by
  match us,hl with
  | [v0,v1,v2,v3,v4],_=>exact⟨_,_,_,_,_,rfl⟩
 obtain⟨h5,h6,h7⟩:=h;have e0:v0 = .string (B x.fID):=h5;have e1:v1 = .int .i64 x.fAt:=h6;subst e0;subst e1;exact⟨⟨[v2,v3,v4],rfl,λv hv=>h1 v (by simp at hv ⊢;rcases hv with h | h | h<;>simp[h])⟩,rfl⟩
theorem Ht {Z:Fz}{x:Ab}{a:Kb}(h:AB Z (Ac x) (IU a)):a.1=x.fID∧a.2.1=x.fAt:=by
 obtain⟨h5,h6,h7⟩:=h;have e0:Value.string (B a.1) = .string (B x.fID):=h5;have e1:Value.int .i64 a.2.1 = .int .i64 x.fAt:=h6;exact⟨Gl e0,(Value.int.inj e1).2⟩
theorem M8 (a:Kb):(IU a).length=5:=by simp[IU,a.2.2.2.1]
theorem M7 (a:Kb):∀v∈IU a,v.oneCell'=true:=λv h=>by
 simp only[IU,QO] at h;rcases h with rfl | rfl | h
 ·rfl
 ·rfl
 ·exact a.2.2.2.2 v h
theorem PS (a b:Kb)(W:World):Calls Tryd.prog 24 #[.agg (IU a).toArray,.agg (IU b).toArray] W λe w'=>e = .returned (.int .i64 (PE a b))∧∃q os',w'=grow (W.drewN q) os':=by
 obtain⟨s1,n1,⟨r,hr,ho⟩⟩:=a;obtain⟨s2,n2,⟨t,ht,hp⟩⟩:=b;obtain⟨a2,a3,a4,rfl⟩:∃a2 a3 a4,r=[a2,a3,a4]:=by
  match r,hr with
  | [a2,a3,a4],_=>exact⟨_,_,_,rfl⟩
 obtain⟨b2,b3,b4,rfl⟩:∃a2 a3 a4,t=[a2,a3,a4]:=by
  match t,ht with
  | [a2,a3,a4],_=>exact⟨_,_,_,rfl⟩
 have h:=OR (B s1) (B s2) n1 n2 a2 a3 a4 b2 b3 b4 (ho _ (by simp)) (ho _ (by simp)) (ho _ (by simp)) (hp _ (by simp)) (hp _ (by simp)) (hp _ (by simp)) W;rw[Ch,Ch] at h;exact h
theorem NC {v:Value}{e:TypeId}{xs:List Ab}(hd:DJ (λx y:Ab=>BZ x.fAt y.fAt x.fID y.fID) xs=true)(hsz:Nat.blt xs.length 4611686018427387904=true) :
  Fn Tryd.prog GE 23 [rv v,rv (.func (.func 24) #[] #[])] [.row v e 5 (xs.map Ac)] (λR H=>R=rv (.tuple #[])∧H=[.row v e 5 ((srt (λx y:Ab=>BZ x.fAt y.fAt x.fID y.fID) xs).map Ac)]):=
 OI Tryd.SoL Tryd.isAgg33 Tryd.sizeOf33 (λx=>rfl) IU M8 M7 PE PL (Kw (λx:Ab=>x.fAt) (λx=>x.fID))
  (λZ x us h=>by obtain⟨r,e⟩:=Po Z x us h;exact⟨_,e⟩)
  (λZ x y a b h1 h2=>by rw[IW,(Ht h1).1,(Ht h1).2,(Ht h2).1,(Ht h2).2])
  24 (enters_of Tryd.func24 (by kernel_rfl) rfl) PS hd hsz
end Go.Proofs.YtkoiaconljdbeaaDoor.Q
namespace Go.Proofs
open Go.Shelf
def Tryd.keys29_ren:Go.Shelf.Ren:=⟨fun | 7=>29 | 10=>41 | n=>n,fun | 23=>43 | 26=>9 | 3=>53 | 28=>63 | 0=>0 | 27=>62 | 33=>78 | 4=>4 | n=>n,fun | n=>n⟩
theorem Tryd.keys29:Go.Proofs.SlLaysZ.n7 Tryd.prog Tryd.keys29_ren:={
 mixed:=by kernel_rfl
 f7:=⟨Tryd.f29.name,by decide,Tryd.func29.trans (congrArg some (by kernel_rfl))⟩
 f10:=⟨Tryd.f41.name,by decide,Tryd.func41.trans (congrArg some (by kernel_rfl))⟩
 t0:=Tryd.underlying0
 a0:=Tryd.isAgg0
 z0:=Tryd.sizeOf0
 v0:=Tryd.zeroValue0
 t4:=Tryd.underlying4
 a4:=Tryd.isAgg4
 z4:=Tryd.sizeOf4
 v4:=Tryd.zeroValue4
 t23:=Tryd.underlying43
 a23:=Tryd.isAgg43
 z23:=Tryd.sizeOf43
 v23:=Tryd.zeroValue43
 t26:=Tryd.underlying9
 a26:=Tryd.isAgg9
 z26:=Tryd.sizeOf9
 v26:=Tryd.zeroValue9
 t27:=Tryd.underlying62
 a27:=Tryd.isAgg62
 z27:=Tryd.sizeOf62
 v27:=Tryd.zeroValue62
 t28:=Tryd.underlying63
 a28:=Tryd.isAgg63
 z28:=Tryd.sizeOf63
 v28:=Tryd.zeroValue63
 t33:=Tryd.underlying78
 a33:=Tryd.isAgg78
 z33:=Tryd.sizeOf78
 v33:=Tryd.zeroValue78 }
def Tryd.collect28_ren:Go.Shelf.Ren:=⟨fun | 8=>28 | 11=>40 | n=>n,fun | 26=>9 | 28=>63 | 24=>60 | 0=>0 | 33=>78 | 4=>4 | n=>n,fun | n=>n⟩
theorem Tryd.collect28:Go.Proofs.SlLaysZ.n8 Tryd.prog Tryd.collect28_ren:={
 mixed:=by kernel_rfl
 f8:=⟨Tryd.f28.name,by decide,Tryd.func28.trans (congrArg some (by kernel_rfl))⟩
 f11:=⟨Tryd.f40.name,by decide,Tryd.func40.trans (congrArg some (by kernel_rfl))⟩
 t0:=Tryd.underlying0
 a0:=Tryd.isAgg0
 z0:=Tryd.sizeOf0
 v0:=Tryd.zeroValue0
 t24:=Tryd.underlying60
 a24:=Tryd.isAgg60
 z24:=Tryd.sizeOf60
 v24:=Tryd.zeroValue60
 t26:=Tryd.underlying9
 a26:=Tryd.isAgg9
 z26:=Tryd.sizeOf9
 v26:=Tryd.zeroValue9
 t28:=Tryd.underlying63
 a28:=Tryd.isAgg63
 z28:=Tryd.sizeOf63
 v28:=Tryd.zeroValue63
 i26:=by kernel_rfl }
end Go.Proofs
namespace Go.Proofs.YtkoiaconljdbeaaDoor.Q
open Go Go.RowKit Go.Maps Go.Sort Go.Shelf Go.Proofs
set_option linter.unusedVariables false
set_option maxHeartbeats 1000000
theorem Km {Z:Fz}{v:Value}{vs:List Value}(h:AB Z [rv v] vs):vs=[v]:=AB.eq_rv (us:=[v]) h
theorem LE {T:Type}(enc:T→Rp)(xs:List (Ai×T)):(AJ enc xs).map (·.1)=xs.map (·.1):=by simp[AJ]
theorem Kv (b:Nat):Fn Tryd.prog GE 29 [rv (.map (some b))] [] (λR H=>∃k:Nat,R=rv (.func (.func 41) #[] #[.pointer (some ⟨k,0,none⟩)])∧H=[.blk k [rv (.map (some b))] 43]):=λw Z vs hv hs=>by
 have e:=Km hv;subst e;have hc:Calls Tryd.prog 29 #[.map (some b)] w (λe w'=>e = .returned (.func (.func 41) #[] #[.pointer (some ⟨w.heap.size,0,none⟩)])∧w'=w.alloc (.cells #[.map (some b)] 43)):=callsIn_wide.1 (AnyZ.keys_in Tryd.keys29 Fence.wide 5 trivial rfl (some b) w);refine hc.mono ?_;rintro e w' ⟨rfl,rfl⟩;exact⟨_,_,_,Z,rfl,⟨w.heap.size,rfl,rfl⟩,rfl,hs.alloc _ ⟨[.map (some b)],by simpa using heap_alloc_new w _,rfl,trivial⟩ rfl⟩
theorem Je {T:Type}(enc:T→Rp)(xs:List (Ai×T))(k b:Nat)(hk:keysOk xs=true):Fn Tryd.prog GE 28 [rv (.func (.func 41) #[] #[.pointer (some ⟨k,0,none⟩)])] [.blk k [rv (.map (some b))] 43,.map b (AJ enc xs)] (λR H=>∃ (v:Value) (ks:List Ai),R=rv v∧ks.Perm (xs.map (·.1))∧H=[.row v 9 1 (ks.map eS),.blk k [rv (.map (some b))] 43,.map b (AJ enc xs)]):=λw Z vs hv hs=>by
 have e:=Km hv;subst e;obtain⟨us,h1,h2⟩:=hs.ent (i:=0) rfl;have e2:=Km h2;subst e2;obtain⟨es,ck,h3,h4⟩:=hs.ent (i:=1) rfl;unfold keysOk at hk;simp only[Qm,Qh,Q0] at hk;have hlen:(AJ enc xs).length=xs.length:=Eu enc xs;have hkl:∀p∈AJ enc xs,p.1.length≤maxLen:=λp hp=>by
  obtain⟨y,hy,rfl⟩:=List.mem_map.1 hp;have:=hk.2 y hy;have e:maxLen=9223372036854775807:=rfl;rw[e];simpa[Nu] using this
 obtain⟨D0,d1,d2,d3⟩:=NK (k:=9) Tryd.underlying9 h3 h4 hkl (by rw[hlen];have:=hk.1;have e:maxLen=9223372036854775807:=rfl;omega);have hkb:k<w.heap.size:=(Array.getElem?_eq_some_iff.1 h1).1;have hcell:w.cell? ⟨k,0,none⟩=some (.map (some b)):=by simp[World.cell?,h1]
 have hseq:SeqGives Fence.wide 3 Tryd.prog 41 #[.pointer (some ⟨k,0,none⟩)] encStr (λss=>ss.Perm (strKeys D0)) (Maps.size D0) w:=
  AnyZ.keys_gives (ρ:=Tryd.keys29_ren) { Tryd.keys29 with } Fence.wide _ trivial rfl (by omega) k b es.size D0 w hkb hcell d1
 have hc:=AnyZ.collect_in Tryd.collect28 Fence.wide 5 trivial trivial rfl (by omega) 41 #[.pointer (some ⟨k,0,none⟩)] trivial (enters_of Tryd.func41 (by kernel_rfl) rfl) _ (Maps.size D0) (by rw[d3,hlen];have:=hk.1;have e:maxLen=9223372036854775807:=rfl;omega) (by rw[d3,hlen];exact hk.1) w hseq;refine(callsIn_wide.1 hc).mono ?_;rintro e w' ⟨v,ss,rfl,hS,hrow,hnil,hb⟩;have hp:ss.Perm (xs.map (·.1)):=hS.trans (by rw[← LE enc xs];exact d2);exact⟨_,v,_,Z,rfl,⟨v,ss,rfl,hp,rfl⟩,rfl,hs.newrow hb hrow⟩
end Go.Proofs.YtkoiaconljdbeaaDoor.Q
