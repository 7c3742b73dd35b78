/-
  Texts of the proof, put together: WVb, PVc, WVc, PVd, WVd, PVe, WVe, PVf, WVf, PM, PS, PN, PSo, PTa, QU, QT, QN, QM, QI, QW, QV, PH, QJ, QX, QL, WTa, QK, PTb, QP, SoC, SoT, SoL, SoQ, keys29, collect28, QCo.
-/
import Derived.Test.YtkoiaconljdbeaaDoorTC1
import Derived.Laws.StructEq
import Derived.Laws.Cover3
import Derived.MapKept
import Derived.Maps.RangeRun
import GoSem.Op.IntBits
import GoSem.Op.Shift
import Derived.ScopeJumps
import Derived.Laws.CopyRow
import Derived.Laws.IdiomCopy
import Derived.Laws.OwnMore
import Derived.Sort.KeysCollected
import Derived.Shelf.SlSortCmp.NoneTotal
import Derived.Test.YtkoiaconljdbeaaDoorProg
import Derived.Tactics
import Derived.Lib.Small
import Derived.Lib.Walk
import Derived.Sort.Grow
import Derived.Deep.QuietTactic
import Derived.BigQuiet
import Derived.LoopN
import Derived.StillTailTactics
import Derived.Shelf.SlLaysZ
import Derived.Shelf.SlIter.Collect
namespace Go.Proofs.YtkoiaconljdbeaaDoor.Q
open Go Go.RowKit
set_option linter.unusedVariables false
set_option linter.unusedSimpArgs false
set_option maxRecDepth 100000
set_option maxHeartbeats 4000000
@[reducible] def Af (x:Ac):List Rp:=[rI .i64 x.fKind,rI .i64 x.fInt,rS x.fStr,rI .i64 x.fN]
theorem CL (x:Ac):(Af x).length=4:=rfl
theorem HX (x:Ac):(Af x).all (·.one)=true:=rfl
@[reducible] def Al (x:An):List Rp:=[rB x.fPairs,rI .i64 x.fLeft,rB x.fKey,rS x.fLast,rB x.fStarted]
theorem DO (x:An):(Al x).length=5:=rfl
theorem GT (x:An):(Al x).all (·.one)=true:=rfl
@[reducible] def A2 (x:As):List Rp:=[rI .i64 x.fDepth,rI .i64 x.fBytes,rB x.fOutside,rB x.fLong]
theorem NK:∃inf,Tryd.prog.info? 107=some inf∧inf.zero=some (.agg #[(.bool false),(.int .i64 0),(.bool false),(.string ⟨#[]⟩),(.bool false)])∧inf.size=5∧inf.bytes=48:=by
  have key:(Tryd.prog.info? 107).map (λi=>(i.zero,i.size,i.bytes))=some (some (.agg #[(.bool false),(.int .i64 0),(.bool false),(.string ⟨#[]⟩),(.bool false)]),5,48):=by kernel_rfl
  obtain⟨inf,h1,h2⟩:=Option.map_eq_some_iff.1 key;simp only[Prod.mk.injEq] at h2;exact⟨inf,h1,h2.1,h2.2.1,h2.2.2⟩
theorem MY (parts:List (Nat×Value)):Tryd.prog.built 107 parts=Instr.fill (λi=>(#[(0,1),(1,1),(2,1),(3,1),(4,1)]:Array (Nat×Nat))[i]?) #[(.bool false),(.int .i64 0),(.bool false),(.string ⟨#[]⟩),(.bool false)] parts:=by kernel_rfl
theorem G3 {n:Nat}{c:Cx}{l:Fr}{H:List Ent}{d:Option Nat}{ty:TypeId}{pos:String}{af:Array Edge}{g:Option (Nat×Bool)}{x0:Operand}{r0:Rp}(h0:ev l x0=some r0)(u0:r0.one=true){x1:Operand}{r1:Rp}(h1:ev l x1=some r1)(u1:r1.one=true){x2:Operand}{r2:Rp}(h2:ev l x2=some r2)(u2:r2.one=true):AT Tryd.prog n c l H { dst:=d,op:=.build 107 #[(0,x0),(1,x1),(2,x2)],type:=ty,pos:=pos,after:=af,guard:=g } (Ba [r0,r1,r2,rS ([]:Ai),rB false]):=λa w Z ha _=>by
  have p0:=ha.ev h0;have c0:=Bq (r0.hone u0 Z _ p0);have p1:=ha.ev h1;have c1:=Bq (r1.hone u1 Z _ p1);have p2:=ha.ev h2;have c2:=Bq (r2.hone u2 Z _ p2);have hb:Tryd.prog.built 107 [(0,a.eval x0),(1,a.eval x1),(2,a.eval x2)]=some #[a.eval x0,a.eval x1,a.eval x2,(.string ⟨#[]⟩),(.bool false)]:=by
    rw[MY];generalize a.eval x0=v0 at *;generalize a.eval x1=v1 at *;generalize a.eval x2=v2 at *;simp[Instr.fill,c0,c1,c2]
  refine⟨.agg #[a.eval x0,a.eval x1,a.eval x2,(.string ⟨#[]⟩),(.bool false)],⟨[a.eval x0,a.eval x1,a.eval x2,(.string ⟨#[]⟩),(.bool false)],rfl,p0,p1,p2,rfl,rfl,trivial⟩,?_⟩;have:=run_build w 107 #[(0,a.eval x0),(1,a.eval x1),(2,a.eval x2)] _ (by simpa using hb);simp[execOp,this]
theorem M8 (n:Int)(r:Bool)(h:AS n=some r):Fn Tryd.prog GE 68 [rI .i64 n] [] (λR H=>R=rB r∧H=[]):=by
 refine enter (n:=9) Tryd.func68 rfl Tryd.ntmps68 rfl (λw Z=>?_);refine Be (l':=[(0,rI .i64 n)]) (H':=[]) rfl rfl ?_;unfold AS at h;refine At (wv (r:=rB false) (Am rfl) (A3 (AH [(2,rB ((decide ((-1000000000000)≤n))&&(decide (n≤1000000000000))))] [] ?_ ?_)))
 ·refine Au (wm rfl (wv (HU rfl rfl) (wm rfl (AG (decide ((-1000000000000)≤n)) (λc1=>?_) (λc1=>?_)))))
  ·refine wo c1 (wm rfl (wo c1 (wv (HU rfl rfl) (Hm rfl c1 rfl (wa rfl (Ar ?_))))));exact CM c1
  ·refine wf c1 (wf c1 (wv (r:=rB false) (A1 (b:=decide ((-1000000000000)≤n)) rfl c1 rfl) (wa rfl (Ar ?_))));exact CM c1
 refine A5 ?_;obtain rfl:=A8 h;exact A4 (B7 Tryd.results68 (AX rfl)) sN ⟨rfl,rfl⟩
theorem No (F:Nat)(s:Ai)(r:Bool)(h:GF F s=some r):Fn Tryd.prog GE 71 [rS s] [] (λR H=>R=rB r∧H=[]):=by
 refine enter (n:=20) Tryd.func71 rfl Tryd.ntmps71 rfl (λw Z=>?_);refine Be (l':=[(0,rS s)]) (H':=[]) rfl rfl ?_;unfold GF at h;refine At (wv (r:=rB false) (Am rfl) (A3 (Ay (At (wm rfl (wv (BM GP rfl) (wv (r:=rI .i64 0) (Aw rfl) (A3 (AP ?_)))))))));obtain⟨hl,hm,hi⟩:=AL h;refine BF (S:=Nat×(Int)×(Unit)) (V:=(Unit)×(Unit)) 0 (λσ=>Dm (λσ=>Dz s σ) σ.1 σ.2.1=some hl) (λσ=>[(0,rS s),(5,rI .i64 (s.length:Int)),(6,rI .i64 σ.2.1)]) (λσ=>[]) (λσ=>σ.1) (F,0,()) hm (AJ.c rfl (AJ.c rfl (AJ.c rfl AJ.nil))) sN (λσ=>Dy =some r) (λσ=>[]) (λσ=>[]) ?_ ?_
 ·rintro⟨hz,hb,⟨⟩⟩ hn;refine Be (l':=[(0,rS s),(5,rI .i64 (s.length:Int)),(6,rI .i64 hb)]) (H':=[]) rfl rfl ?_;obtain⟨ho,rfl,t37,hd,hf⟩:=Ei hn;replace hd:Dz s hb=some t37:=hd;unfold Dz at hd;refine At (wv (G1 rfl rfl) (A3 (Ay (A7 (b:=decide (hb<(s.length:Int))) rfl (λhg=>?_) (λhg=>?_)))))
  ·have hp:=AN hg hd;refine AD (Bb (Ay (AP (At (wm rfl (wa rfl (A3 ?_)))))));obtain⟨hj,hk⟩:=AM hp;refine AH [(0,rS s),(5,rI .i64 (s.length:Int)),(6,rI .i64 hb),(18,rB ((decide ((JL s hb)<32))||(decide (126<(JL s hb)))))] [] ?_ ?_
   ·refine Au (wm rfl (wm rfl (wv (G2 GP rfl rfl hj) (wv (G1 rfl rfl) (wm rfl (AG (decide ((JL s hb)<32)) (λha=>?_) (λha=>?_)))))))
    ·refine wf ha (wf ha (wf ha (wf ha (wv (r:=rB true) (Ap (b:=decide ((JL s hb)<32)) rfl ha rfl) (Ar ?_)))));exact CM ha
    ·refine wo ha (wm rfl (wo ha (wm rfl (wo ha (wv (G2 GP rfl rfl hj) (wo ha (wv (DE rfl rfl) (Hn rfl ha rfl (Ar ?_)))))))));exact CM ha
   refine A7 (b:=((decide ((JL s hb)<32))||(decide (126<(JL s hb))))) rfl (λhh=>?_) (λhh=>?_)
   ·have hq:=AN hh hk;refine At (wv (r:=rB false) (Am rfl) (A3 (A5 (AB (Ak (Ak (Bv ?_)))))));have hr:=C5 hq hf hi;refine AB (Ak ?_);obtain rfl:=A8 hr;exact A4 (B7 Tryd.results71 (AX rfl)) sN ⟨rfl,rfl⟩
   ·have hs:=AO hh hk;refine AD (AV (Bb (Au ?_)));obtain⟨ht,hu⟩:=AM hs;refine wv (Cf rfl rfl ht) (wm rfl (Ar ?_));have hw:=BG hu hf;exact A0 (AK (ho,hb+1,()) ⟨hw,Q0 _⟩ (AJ.c rfl (AJ.c rfl (AJ.c rfl AJ.nil))) sN)
  ·have hx:=AO hg hd;refine B0 (AC ?_);have hy:=Dg hx hf hi;exact AC (Bs (AK ((),()) hy AJ.nil sN))
 ·rintro⟨⟨⟩,⟨⟩⟩ he;refine DL (l':=[]) (H':=[]) rfl rfl ?_;replace he:Dy =some r:=he;unfold Dy at he;refine Bk (Bb (At (wv (r:=rB true) (Am rfl) (A3 (A5 ?_)))));obtain rfl:=A8 he;exact A4 (B7 Tryd.results71 (AX rfl)) sN ⟨rfl,rfl⟩
theorem Ib (s:Ai)(r:Int)(h:Eu s=some r):Fn Tryd.prog GE 66 [rS s] [] (λR H=>R=rI .i64 r∧H=[]):=by
 refine enter (n:=12) Tryd.func66 rfl Tryd.ntmps66 rfl (λw Z=>?_);refine Be (l':=[(0,rS s)]) (H':=[]) rfl rfl ?_;unfold Eu at h;refine At (wv (r:=rI .i64 0) (Am rfl) (C2 (wm rfl (wv (BM GP rfl) ?_))));obtain⟨g1,h2⟩:=AM h;refine wv (Cf rfl rfl g1) (wm rfl (DC (rs:=[rS s,rS ([34]:Ai)]) (r:=rI .i64 (Lib.countByte s 34:Int)) Tryd.call72 rfl (KS s 34) rfl rfl ?_));obtain⟨g3,h4⟩:=AM h2;refine wv (Cf rfl rfl g3) (wm rfl (DC (rs:=[rS s,rS ([92]:Ai)]) (r:=rI .i64 (Lib.countByte s 92:Int)) Tryd.call72 rfl (KS s 92) rfl rfl ?_));obtain⟨g5,h6⟩:=AM h4;refine wv (Cf rfl rfl g5) (wa rfl (A3 (A5 ?_)));obtain rfl:=A8 h6;exact A4 (B7 Tryd.results66 (AX rfl)) sN ⟨rfl,rfl⟩
theorem LY (F:Nat)(c:Ac)(r:Bool)(h:Hq F c=some r):Fn Tryd.prog GE 65 [Ba (Af c)] [] (λR H=>R=rB r∧H=[]):=by
 refine enter (n:=81) Tryd.func65 rfl Tryd.ntmps65 rfl (λw Z=>?_);refine Be (l':=[(0,Ba (Af c))]) (H':=[]) rfl rfl ?_;unfold Hq at h;refine At (Bz rfl rfl (λb1=>?_));refine wv (r:=rB false) (Am rfl) (A3 (Ay (At (wv (Ae B4 rfl Iy rfl rfl) (wv (Az (i:=0) Iz rfl rfl rfl) (A3 (AP (At (wv (Bw rfl rfl) (wa rfl (A3 (A7 (b:=decide (c.fKind=1)) rfl (λc2=>?_) (λc2=>?_)))))))))))))
 ·have h3:=AN c2 h;refine AH [(2,rB ((decide (c.fInt=0))&&((decide (c.fStr=([]:Ai)))&&(decide (c.fN=0)))))] [] ?_ ?_
  ·refine Au (wv (Ae B4 rfl CV rfl rfl) (wv (Az (i:=0) Dr rfl rfl rfl) (wv (Bw rfl rfl) (wm rfl (AG (decide (c.fInt=0)) (λc4=>?_) (λc4=>?_))))))
   ·refine wo c4 (wv (Ae B4 rfl DA rfl rfl) (wo c4 (wv (Az (i:=0) DR rfl rfl rfl) (wo c4 (wv (H7 rfl rfl) (Hm rfl c4 rfl (wm rfl (AG (decide (c.fStr=([]:Ai))) (λc5=>?_) (λc5=>?_)))))))))
    ·refine wo c5 (wv (Ae B4 rfl CV rfl rfl) (wo c5 (wv (Az (i:=0) Dr rfl rfl rfl) (wo c5 (wv (Bw rfl rfl) (Hm rfl c5 rfl (wa rfl (Ar ?_))))))));exact CM (And.intro c4 c5)
    ·refine wf c5 (wf c5 (wf c5 (wv (r:=rB false) (A1 (b:=decide (c.fStr=([]:Ai))) rfl c5 rfl) (wa rfl (Ar ?_)))));exact CM (And.intro c4 c5)
   ·refine wf c4 (wf c4 (wf c4 (wv (r:=rB false) (A1 (b:=decide (c.fInt=0)) rfl c4 rfl) (wm rfl (Aj (b:=false) rfl rfl rfl rfl (Aj (b:=false) rfl rfl rfl rfl (Aj (b:=false) rfl rfl rfl rfl (wv (r:=rB false) (A1 (b:=false) rfl rfl rfl) (wa rfl (Ar ?_))))))))));exact CM c4
  refine A5 (AB (Ak ?_));obtain rfl:=A8 h3;exact A4 (B7 JP (AX rfl)) sN ⟨rfl,rfl⟩
 ·have h6:=AO c2 h;refine At (wv (Bw rfl rfl) (wa rfl (A3 (A7 (b:=decide (c.fKind=2)) rfl (λc7=>?_) (λc7=>?_)))))
  ·have h8:=AN c7 h6;refine AH [(2,rB (bif decide (c.fInt=0) then((decide (c.fStr=([]:Ai)))&&(decide (c.fN=0))) else((decide (c.fInt=1))&&((decide (c.fStr=([]:Ai)))&&(decide (c.fN=0))))))] [] ?_ ?_
   ·refine Au (wv (Ae B4 rfl CV rfl rfl) (wv (Az (i:=0) Dr rfl rfl rfl) (wv (Bw rfl rfl) (wm rfl (AG (decide (c.fInt=0)) (λc9=>?_) (λc9=>?_))))))
    ·refine wf c9 (wf c9 (wf c9 (wv (r:=rB true) (Ap (b:=decide (c.fInt=0)) rfl c9 rfl) (wm rfl (AF (b:=true) rfl rfl rfl (wv (Ae B4 rfl DA rfl rfl) (AF (b:=true) rfl rfl rfl (wv (Az (i:=0) DR rfl rfl rfl) (AF (b:=true) rfl rfl rfl (wv (H7 rfl rfl) (wv (r:=rB (decide (c.fStr=([]:Ai)))) (Ap (b:=true) rfl rfl rfl) (wm rfl (AG (decide (c.fStr=([]:Ai))) (λhg=>?_) (λhg=>?_))))))))))))))
     ·refine wo hg (wv (Ae B4 rfl CV rfl rfl) (wo hg (wv (Az (i:=0) Dr rfl rfl rfl) (wo hg (wv (Bw rfl rfl) (Hm rfl hg rfl (wa rfl (Ar ?_))))))));exact CM (And.intro c9 hg)
     ·refine wf hg (wf hg (wf hg (wv (r:=rB false) (A1 (b:=decide (c.fStr=([]:Ai))) rfl hg rfl) (wa rfl (Ar ?_)))));exact CM (And.intro c9 hg)
    ·refine wo c9 (wv (Ae B4 rfl CV rfl rfl) (wo c9 (wv (Az (i:=0) Dr rfl rfl rfl) (wo c9 (wv (Bw rfl rfl) (Hn rfl c9 rfl (wm rfl (AG (decide (c.fInt=1)) (λhb=>?_) (λhb=>?_)))))))))
     ·refine wo hb (wv (Ae B4 rfl DA rfl rfl) (wo hb (wv (Az (i:=0) DR rfl rfl rfl) (wo hb (wv (H7 rfl rfl) (Hm rfl hb rfl (wm rfl (AG (decide (c.fStr=([]:Ai))) (λhh=>?_) (λhh=>?_)))))))))
      ·refine wo hh (wv (Ae B4 rfl CV rfl rfl) (wo hh (wv (Az (i:=0) Dr rfl rfl rfl) (wo hh (wv (Bw rfl rfl) (Hm rfl hh rfl (wa rfl (Ar ?_))))))));exact CM (And.intro c9 (And.intro hb hh))
      ·refine wf hh (wf hh (wf hh (wv (r:=rB false) (A1 (b:=decide (c.fStr=([]:Ai))) rfl hh rfl) (wa rfl (Ar ?_)))));exact CM (And.intro c9 (And.intro hb hh))
     ·refine wf hb (wf hb (wf hb (wv (r:=rB false) (A1 (b:=decide (c.fInt=1)) rfl hb rfl) (wm rfl (Aj (b:=false) rfl rfl rfl rfl (Aj (b:=false) rfl rfl rfl rfl (Aj (b:=false) rfl rfl rfl rfl (wv (r:=rB false) (A1 (b:=false) rfl rfl rfl) (wa rfl (Ar ?_))))))))));exact CM (And.intro c9 hb)
   refine A5 (AB (Ak ?_));obtain rfl:=A8 h8;exact A4 (B7 JP (AX rfl)) sN ⟨rfl,rfl⟩
  ·have hp:=AO c7 h6;refine At (wv (Bw rfl rfl) (wa rfl (A3 (A7 (b:=decide (c.fKind=3)) rfl (λhm=>?_) (λhm=>?_)))))
   ·have ht:=AN hm hp;refine AH [(2,rB ((decide (c.fStr=([]:Ai)))&&(decide (c.fN=0))))] [] ?_ ?_
    ·refine Au (wv (Ae B4 rfl DA rfl rfl) (wv (Az (i:=0) DR rfl rfl rfl) (wv (H7 rfl rfl) (wm rfl (AG (decide (c.fStr=([]:Ai))) (λhi=>?_) (λhi=>?_))))))
     ·refine wo hi (wv (Ae B4 rfl CV rfl rfl) (wo hi (wv (Az (i:=0) Dr rfl rfl rfl) (wo hi (wv (Bw rfl rfl) (Hm rfl hi rfl (wa rfl (Ar ?_))))))));exact CM hi
     ·refine wf hi (wf hi (wf hi (wv (r:=rB false) (A1 (b:=decide (c.fStr=([]:Ai))) rfl hi rfl) (wa rfl (Ar ?_)))));exact CM hi
    refine A5 (AB (Ak ?_));obtain rfl:=A8 ht;exact A4 (B7 JP (AX rfl)) sN ⟨rfl,rfl⟩
   ·have hq:=AO hm hp;refine At (wv (Bw rfl rfl) (wa rfl (A3 (A7 (b:=decide (c.fKind=4)) rfl (λhn=>?_) (λhn=>?_)))))
    ·have hu:=AN hn hq;obtain⟨hw,hx⟩:=AM hu;refine AH [(2,rB ((decide (c.fInt=0))&&((decide (c.fN=0))&&(ov (GF F c.fStr)))))] [] ?_ ?_
     ·refine Au (wv (Ae B4 rfl CV rfl rfl) (wv (Az (i:=0) Dr rfl rfl rfl) (wv (Bw rfl rfl) (wm rfl (AG (decide (c.fInt=0)) (λha=>?_) (λha=>?_))))))
      ·refine wo ha (wv (Ae B4 rfl CV rfl rfl) (wo ha (wv (Az (i:=0) Dr rfl rfl rfl) (wo ha (wv (Bw rfl rfl) (Hm rfl ha rfl (wm rfl (AG (decide (c.fN=0)) (λhd=>?_) (λhd=>?_)))))))))
       ·refine wo hd (wv (Ae B4 rfl DA rfl rfl) (wo hd (wv (Az (i:=0) DR rfl rfl rfl) (wo hd (GX Tryd.call71 (No F c.fStr (ov (GF F c.fStr)) (Mv (HF (HF hw ha) hd))) rfl (Hm rfl hd rfl (wa rfl (Ar ?_))))))));exact CM (And.intro ha hd)
       ·refine wf hd (wf hd (wf hd (wv (r:=rB false) (A1 (b:=decide (c.fN=0)) rfl hd rfl) (wa rfl (Ar ?_)))));exact CM (And.intro ha hd)
      ·refine wf ha (wf ha (wf ha (wv (r:=rB false) (A1 (b:=decide (c.fInt=0)) rfl ha rfl) (wm rfl (Aj (b:=false) rfl rfl rfl rfl (Aj (b:=false) rfl rfl rfl rfl (Aj (b:=false) rfl rfl rfl rfl (wv (r:=rB false) (A1 (b:=false) rfl rfl rfl) (wa rfl (Ar ?_))))))))));exact CM ha
     refine A5 (AB (Ak ?_));obtain rfl:=A8 hx;exact A4 (B7 JP (AX rfl)) sN ⟨rfl,rfl⟩
    ·have hr:=AO hn hq;refine Ay (At (wv (Bw rfl rfl) (wa rfl (A3 (A7 (b:=decide (c.fKind=5)) rfl (λhl=>?_) (λhl=>?_))))))
     ·have hy:=AN hl hr;refine AD (Bb (Dx rfl hl (AH [(2,rB ((decide (c.fInt=0))&&((decide (c.fStr=([]:Ai)))&&(decide (0≤c.fN)))))] [] ?_ ?_)))
      ·refine Au (wv (Ae B4 rfl CV rfl rfl) (wv (Az (i:=0) Dr rfl rfl rfl) (wv (Bw rfl rfl) (wm rfl (AG (decide (c.fInt=0)) (λhe=>?_) (λhe=>?_))))))
       ·refine wo he (wv (Ae B4 rfl DA rfl rfl) (wo he (wv (Az (i:=0) DR rfl rfl rfl) (wo he (wv (H7 rfl rfl) (Hm rfl he rfl (wm rfl (AG (decide (c.fStr=([]:Ai))) (λhj=>?_) (λhj=>?_)))))))))
        ·refine wo hj (wv (Ae B4 rfl CV rfl rfl) (wo hj (wv (Az (i:=0) Dr rfl rfl rfl) (wo hj (wv (HV rfl rfl) (Hm rfl hj rfl (wa rfl (Ar ?_))))))));exact CM (And.intro he hj)
        ·refine wf hj (wf hj (wf hj (wv (r:=rB false) (A1 (b:=decide (c.fStr=([]:Ai))) rfl hj rfl) (wa rfl (Ar ?_)))));exact CM (And.intro he hj)
       ·refine wf he (wf he (wf he (wv (r:=rB false) (A1 (b:=decide (c.fInt=0)) rfl he rfl) (wm rfl (Aj (b:=false) rfl rfl rfl rfl (Aj (b:=false) rfl rfl rfl rfl (Aj (b:=false) rfl rfl rfl rfl (wv (r:=rB false) (A1 (b:=false) rfl rfl rfl) (wa rfl (Ar ?_))))))))));exact CM he
      refine A5 (AB (Ak ?_));obtain rfl:=A8 hy;exact A4 (B7 JP (AX rfl)) sN ⟨rfl,rfl⟩
     ·have hs:=AO hl hr;refine Au (wv (Bw rfl rfl) (wa rfl (A3 (A7 (b:=decide (c.fKind=6)) rfl (λho=>?_) (λho=>?_)))))
      ·have hz:=AN ho hs;refine AH [(2,rB ((decide (c.fInt=0))&&((decide (c.fStr=([]:Ai)))&&(decide (0≤c.fN)))))] [] ?_ ?_
       ·refine Au (wv (Ae B4 rfl CV rfl rfl) (wv (Az (i:=0) Dr rfl rfl rfl) (wv (Bw rfl rfl) (wm rfl (AG (decide (c.fInt=0)) (λhf=>?_) (λhf=>?_))))))
        ·refine wo hf (wv (Ae B4 rfl DA rfl rfl) (wo hf (wv (Az (i:=0) DR rfl rfl rfl) (wo hf (wv (H7 rfl rfl) (Hm rfl hf rfl (wm rfl (AG (decide (c.fStr=([]:Ai))) (λhk=>?_) (λhk=>?_)))))))))
         ·refine wo hk (wv (Ae B4 rfl CV rfl rfl) (wo hk (wv (Az (i:=0) Dr rfl rfl rfl) (wo hk (wv (HV rfl rfl) (Hm rfl hk rfl (wa rfl (Ar ?_))))))));exact CM (And.intro hf hk)
         ·refine wf hk (wf hk (wf hk (wv (r:=rB false) (A1 (b:=decide (c.fStr=([]:Ai))) rfl hk rfl) (wa rfl (Ar ?_)))));exact CM (And.intro hf hk)
        ·refine wf hf (wf hf (wf hf (wv (r:=rB false) (A1 (b:=decide (c.fInt=0)) rfl hf rfl) (wm rfl (Aj (b:=false) rfl rfl rfl rfl (Aj (b:=false) rfl rfl rfl rfl (Aj (b:=false) rfl rfl rfl rfl (wv (r:=rB false) (A1 (b:=false) rfl rfl rfl) (wa rfl (Ar ?_))))))))));exact CM hf
       refine A5 (AB (Ak ?_));obtain rfl:=A8 hz;exact A4 (B7 JP (AX rfl)) sN ⟨rfl,rfl⟩
      ·have h0:=AO ho hs;refine AD (AV (Bb (At (wv (r:=rB false) (Am rfl) (A3 (A5 ?_))))));obtain rfl:=A8 h0;exact A4 (B7 JP (AX rfl)) (sS sN) ⟨rfl,rfl⟩
theorem Np (c:Ac)(r:Int)(h:Jb c=some r):Fn Tryd.prog GE 67 [Ba (Af c)] [] (λR H=>R=rI .i64 r∧H=[]):=by
 refine enter (n:=28) Tryd.func67 rfl Tryd.ntmps67 rfl (λw Z=>?_);refine Be (l':=[(0,Ba (Af c))]) (H':=[]) rfl rfl ?_;unfold Jb at h;refine At (Bz rfl rfl (λb1=>?_));refine wv (r:=rI .i64 0) (Am rfl) (A3 (Ay (At (wv (Ae B4 rfl Iy rfl rfl) (wv (Az (i:=0) Iz rfl rfl rfl) (A3 (AP (At (wv (Bw rfl rfl) (wa rfl (A3 (A7 (b:=decide (c.fKind=1)) rfl (λc2=>?_) (λc2=>?_)))))))))))))
 ·have h3:=AN c2 h;refine At (wv (r:=rI .i64 4) (Am rfl) (A3 (A5 (AB (Ak ?_)))));obtain rfl:=A8 h3;exact A4 (B7 LP (AX rfl)) (sS sN) ⟨rfl,rfl⟩
 ·have h4:=AO c2 h;refine At (wv (Bw rfl rfl) (wa rfl (A3 (A7 (b:=decide (c.fKind=2)) rfl (λc5=>?_) (λc5=>?_)))))
  ·have h6:=AN c5 h4;refine At (wv (Ae B4 rfl CV rfl rfl) (wv (Az (i:=0) Dr rfl rfl rfl) (wv (r:=rI .i64 (IntKind.wrap .i64 (5-c.fInt))) (M3 rfl rfl) (wa rfl (A3 (A5 (AB (Ak ?_))))))));obtain rfl:=A8 h6;exact A4 (B7 LP (AX rfl)) (sS sN) ⟨rfl,rfl⟩
  ·have h7:=AO c5 h4;refine At (wv (Bw rfl rfl) (wa rfl (A3 (A7 (b:=decide (c.fKind=3)) rfl (λc8=>?_) (λc8=>?_)))))
   ·have h9:=AN c8 h7;refine At (wv (Ae B4 rfl CV rfl rfl) (wv (Az (i:=0) Dr rfl rfl rfl) ?_));obtain⟨hd,he⟩:=AM h9;refine DC (rs:=[rI .i64 c.fInt]) (r:=rS (Lib.itoa c.fInt)) Tryd.call73 rfl (MS c.fInt hd) rfl rfl (wv (BM GP rfl) (wa rfl (A3 (A5 (AB (Ak ?_))))));obtain rfl:=A8 he;exact A4 (B7 LP (AX rfl)) (sS sN) ⟨rfl,rfl⟩
   ·have hb:=AO c8 h7;refine At (wv (Bw rfl rfl) (wa rfl (A3 (A7 (b:=decide (c.fKind=4)) rfl (λha=>?_) (λha=>?_)))))
    ·have hf:=AN ha hb;refine At (wv (Ae B4 rfl DA rfl rfl) (wv (Az (i:=0) DR rfl rfl rfl) ?_));obtain⟨hg,hh,hi⟩:=AL hf;refine GX Tryd.call66 (Ib c.fStr hg hh) rfl (wa rfl (A3 (A5 (AB (Ak ?_)))));obtain rfl:=A8 hi;exact A4 (B7 LP (AX rfl)) (sS sN) ⟨rfl,rfl⟩
    ·have hj:=AO ha hb;refine AD (AV (Bb (At (wv (Ae B4 rfl CV rfl rfl) (wv (Az (i:=0) Dr rfl rfl rfl) (wv (r:=rI .i64 (IntKind.wrap .i64 (c.fN-1))) (M3 rfl rfl) (wv (Ol P6 rfl rfl) (wv (r:=rI .i64 (IntKind.wrap .i64 (2+(max 0 (IntKind.wrap .i64 (c.fN-1)))))) (Kf rfl rfl) (wa rfl (A3 (A5 ?_)))))))))));obtain rfl:=A8 hj;exact A4 (B7 LP (AX rfl)) (sS sN) ⟨rfl,rfl⟩
theorem Lb (F:Nat)(hg:Value)(stack:(List An))(r:(List An))(h:Gc F stack=some r):Fn Tryd.prog GE 69 [rv hg] [.row hg 107 5 (List.map Al stack)] (λR H=>∃u0:Value,R=rv u0∧H=[.row u0 107 5 (List.map Al r)]):=by
 refine enter (n:=38) Tryd.func69 rfl Tryd.ntmps69 rfl (λw Z=>?_);refine Be (l':=[(0,rv hg)]) (H':=[.row hg 107 5 (List.map Al stack)]) rfl rfl ?_;unfold Gc at h;refine At (wv (r:=rv (.slice none 0 0)) (Am rfl) (A3 (Ay (AP ?_))));obtain⟨hq,hr,hn⟩:=AL h;refine BF (S:=Nat×((List An))×(Value)) (V:=((List An))×(Value)) 0 (λσ=>Dm (λσ=>BP σ) σ.1 σ.2.1=some hq) (λσ=>[(0,rv σ.2.2),(2,rv (.slice none 0 0))]) (λσ=>[.row σ.2.2 107 5 (List.map Al σ.2.1)]) (λσ=>σ.1) (F,stack,hg) hr (AJ.c rfl (AJ.c rfl AJ.nil)) (sC sN) (λσ=>Cn σ.1=some r) (λσ=>[(0,rv σ.2),(2,rv (.slice none 0 0))]) (λσ=>[.row σ.2 107 5 (List.map Al σ.1)]) ?_ ?_
 ·rintro⟨hG,ha,hd⟩ hs;refine Be (l':=[(0,rv hd),(2,rv (.slice none 0 0))]) (H':=[.row hd 107 5 (List.map Al ha)]) rfl rfl ?_;obtain⟨ht,rfl,hu,hh,hj⟩:=Ei hs;replace hh:BP ha=some hu:=hh;unfold BP at hh;refine Ay (At (wm rfl (wv (BI (ys:=ha) (enc:=Al) (i:=0) DK rfl rfl) (wv (DE rfl rfl) (A3 (A7 (b:=decide (0<(ha.length:Int))) rfl (λhk=>?_) (λhk=>?_)))))))
  ·have hw:=AN hk hh;refine AD (Bb (AP (At (wm rfl (wm rfl (wv (BI (ys:=ha) (enc:=Al) (i:=0) DK rfl rfl) ?_))))));obtain⟨hx,hy⟩:=AM hw;refine wv (Ig rfl rfl hx) ?_;obtain⟨he,hz⟩:=AM hy;refine wv (r:=rv (Cz 5 hd (Int.toNat ((ha.length:Int)-1)) 0)) (Di (i:=0) DK IX rfl rfl rfl (AU he)) (wa rfl (C2 (wm rfl (wv (r:=rv (Cz 5 hd (Int.toNat ((ha.length:Int)-1)) 0)) (Bn (k:=0) rfl (AU he) rfl rfl) (wv (r:=rv (Cz 5 hd (Int.toNat ((ha.length:Int)-1)) 1)) (Co (k:=0) DJ rfl CV rfl (AU he) rfl rfl rfl) (wv (r:=rI .i64 ((Ao ha ((ha.length:Int)-1)).fLeft)) (CQ (enc:=Al) (ys:=ha) (i:=0) (j:=(ha.length:Int)-1) Dr rfl rfl he rfl) ?_))))));obtain⟨h0,h1⟩:=AM hz;refine wv (Ig rfl rfl h0) (wv (r:=rv (Cz 5 hd (Int.toNat ((ha.length:Int)-1)) 0)) (Bn (k:=0) rfl (AU he) rfl rfl) (wv (r:=rv (Cz 5 hd (Int.toNat ((ha.length:Int)-1)) 1)) (Co (k:=0) DJ rfl CV rfl (AU he) rfl rfl rfl) (Gy (enc:=Al) (ys:=ha) (y':=(An.mk ((Ao ha ((ha.length:Int)-1)).fPairs) (((Ao ha ((ha.length:Int)-1)).fLeft)-1) ((Ao ha ((ha.length:Int)-1)).fKey) ((Ao ha ((ha.length:Int)-1)).fLast) ((Ao ha ((ha.length:Int)-1)).fStarted))) (i:=0) (j:=(ha.length:Int)-1) CV rfl rfl (BL rfl) rfl he rfl rfl (H':=[.row hd 107 5 (List.map Al (List.set ha (Int.toNat ((ha.length:Int)-1)) (An.mk ((Ao ha ((ha.length:Int)-1)).fPairs) (((Ao ha ((ha.length:Int)-1)).fLeft)-1) ((Ao ha ((ha.length:Int)-1)).fKey) ((Ao ha ((ha.length:Int)-1)).fLast) ((Ao ha ((ha.length:Int)-1)).fStarted))))]) rfl ?_)));obtain⟨hb,hf,ho⟩:=Iv h1;rw[← hf];refine A3 (Ay (At (wm rfl (wv (r:=rv (Cz 5 hd (Int.toNat ((ha.length:Int)-1)) 0)) (Bn (k:=0) rfl (AU (By he hf)) rfl rfl) (wv (r:=rv (Cz 5 hd (Int.toNat ((ha.length:Int)-1)) 1)) (Co (k:=0) DJ rfl CV rfl (AU (By he hf)) rfl rfl rfl) (wv (r:=rI .i64 ((Ao hb ((ha.length:Int)-1)).fLeft)) (CQ (enc:=Al) (ys:=hb) (i:=0) (j:=(ha.length:Int)-1) Dr rfl rfl (By he hf) rfl) (wv (DE rfl rfl) (A3 (A7 (b:=decide (0<((Ao hb ((ha.length:Int)-1)).fLeft))) rfl (λhl=>?_) (λhl=>?_))))))))))
   ·have h2:=AN hl ho;refine At (wm rfl (wm rfl (wv (r:=rv (Cz 5 hd (Int.toNat ((ha.length:Int)-1)) 0)) (Bn (k:=0) rfl (AU (By he hf)) rfl rfl) (wv (r:=rv (Cz 5 hd (Int.toNat ((ha.length:Int)-1)) 0)) (Co (k:=0) DJ rfl Er rfl (AU (By he hf)) rfl rfl rfl) (wv (r:=rB ((Ao hb ((ha.length:Int)-1)).fPairs)) (CQ (enc:=Al) (ys:=hb) (i:=0) (j:=(ha.length:Int)-1) LT rfl rfl (By he hf) rfl) (wv (r:=rv (Cz 5 hd (Int.toNat ((ha.length:Int)-1)) 0)) (Bn (k:=0) rfl (AU (By he hf)) rfl rfl) (wv (r:=rv (Cz 5 hd (Int.toNat ((ha.length:Int)-1)) 2)) (Co (k:=0) DJ rfl Er rfl (AU (By he hf)) rfl rfl rfl) (Gy (enc:=Al) (ys:=hb) (y':=(An.mk ((Ao hb ((ha.length:Int)-1)).fPairs) ((Ao hb ((ha.length:Int)-1)).fLeft) ((Ao hb ((ha.length:Int)-1)).fPairs) ((Ao hb ((ha.length:Int)-1)).fLast) ((Ao hb ((ha.length:Int)-1)).fStarted))) (i:=0) (j:=(ha.length:Int)-1) Er rfl rfl (BL rfl) rfl (By he hf) rfl rfl (H':=[.row hd 107 5 (List.map Al (List.set hb (Int.toNat ((ha.length:Int)-1)) (An.mk ((Ao hb ((ha.length:Int)-1)).fPairs) ((Ao hb ((ha.length:Int)-1)).fLeft) ((Ao hb ((ha.length:Int)-1)).fPairs) ((Ao hb ((ha.length:Int)-1)).fLast) ((Ao hb ((ha.length:Int)-1)).fStarted))))]) rfl ?_))))))));obtain⟨hH,h3,h4⟩:=Iv h2;rw[← h3];refine C2 (wm rfl (wa rfl (A3 (A5 (Ak (AB (Ak (Bv ?_))))))));have h5:=C5 h4 hj hn;refine AB (Ak ?_);obtain rfl:=A8 h5;exact A4 (B7 Tryd.results69 (AX rfl)) (sC sN) ⟨hd,rfl,rfl⟩
   ·have h6:=AO hl ho;refine AD (Bb (Au (wm rfl (wm rfl (wv (BI (ys:=hb) (enc:=Al) (i:=0) DK rfl rfl) ?_)))));obtain⟨h7,h8⟩:=AM h6;refine wv (Ig rfl rfl h7) ?_;obtain⟨h9,hA⟩:=AM h8;refine Og (i:=0) DK IX rfl rfl rfl h9 rfl (λhB=>?_);refine wa rfl (Ar (AV ?_));have hC:=BG hA hj;exact A0 (AK (ht,List.take (Int.toNat ((hb.length:Int)-1)) hb,hB) ⟨hC,Q0 _⟩ (AJ.c rfl (AJ.c rfl AJ.nil)) (sC sN))
  ·have hD:=AO hk hh;refine B0 (AC ?_);have hE:=Dg hD hj hn;exact AC (Bs (AK (ha,hd) hE (AJ.c rfl (AJ.c rfl AJ.nil)) (sC sN)))
 ·rintro⟨hp,hm⟩ hi;refine DL (l':=[(0,rv hm),(2,rv (.slice none 0 0))]) (H':=[.row hm 107 5 (List.map Al hp)]) rfl rfl ?_;replace hi:Cn hp=some r:=hi;unfold Cn at hi;refine Bk (Bb (At (wm rfl (wa rfl (A3 (A5 ?_))))));obtain rfl:=A8 hi;exact A4 (B7 Tryd.results69 (AX rfl)) (sC sN) ⟨hm,rfl,rfl⟩
theorem Nq (F:Nat)(v:(List Ac))(r:Int×As×Bool)(h:Gb F v=some r):Fn Tryd.prog GE 59 [Bl 4 (List.map Af v)] [] (λR H=>R=EP [rI .i64 r.1,Ba (A2 r.2.1),rB r.2.2]∧H=[]):=by
 refine enter (n:=152) Tryd.func59 rfl Tryd.ntmps59 rfl (λw Z=>?_);refine Be (l':=[(0,Bl 4 (List.map Af v))]) (H':=[]) rfl rfl ?_;unfold Gb at h;refine At (wv (r:=rI .i64 0) (Am rfl) (C4 (cs:=[rI .i64 0,rI .i64 0,rB false,rB false]) Ou rfl rfl (λb1=>?_)));refine wv (r:=rB false) (Am rfl) (A3 (LU (At (C4 (cs:=[rI .i64 0,rI .i64 0,rB false,rB false]) Ou rfl rfl (λb2=>?_)))));refine C2 (wv (r:=rv (.slice none 0 0)) (Am rfl) (A3 (Ay (LV (Bb (Ay (At (wm rfl (wv (Br (ys:=v) (enc:=Af) DW rfl) (wv (r:=rI .i64 0) (Aw rfl) (A3 (AP (WC.nilrow (e:=107) (sz:=5) (Kw (H2:=[.blk b2 [rI .i64 0,rI .i64 0,rB false,rB false] 95,.blk b1 [rI .i64 0,rI .i64 0,rB false,rB false] 95,.row (.slice none 0 0                                                                                                           ) 107 5 (List.map Al ([]:List An))]) ((Ax (i:=1) rfl).trans (Qb _ ((Ax (i:=1) rfl).trans (Qb _ (PY _))))) ?_))))))))))))));obtain⟨hQ,hR,hy⟩:=AL h;refine BF (S:=Nat×((List An)×Int×As)×(Value)) (V:=(As)×(Unit)) 0 (λσ=>Dm (λσ=>BO F v σ.1 σ.2.1 σ.2.2) σ.1 σ.2.1=some hQ) (λσ=>[(0,Bl 4 (List.map Af v)),(3,rv (.pointer (some ⟨b1,0,none⟩))),(5,rv (.pointer (some ⟨b2,0,none⟩))),(6,rv σ.2.2),(11,Bl 4 (List.map Af v)),(12,rI .i64 (v.length:Int)),(13,rI .i64 σ.2.1.2.1)]) (λσ=>[.blk b2 (A2 σ.2.1.2.2) 95,.blk b1 [rI .i64 0,rI .i64 0,rB false,rB false] 95,.row σ.2.2 107 5 (List.map Al σ.2.1.1)]) (λσ=>σ.1) (F,(([]:List An),0,(As.mk 0 0 false false)),(.slice none 0 0                                                                                                           )) hR (AJ.c rfl (AJ.c rfl (AJ.c5 rfl rfl rfl rfl rfl AJ.nil))) (sC (sC (sC sN))) (λσ=>Ga σ.1=some r) (λσ=>[(3,rv (.pointer (some ⟨b1,0,none⟩))),(5,rv (.pointer (some ⟨b2,0,none⟩)))]) (λσ=>[.blk b2 (A2 σ.1) 95,.blk b1 [rI .i64 0,rI .i64 0,rB false,rB false] 95]) ?_ ?_
 ·rintro⟨gG,⟨hd,hb,ha⟩,he⟩ hS;refine Be (l':=[(0,Bl 4 (List.map Af v)),(3,rv (.pointer (some ⟨b1,0,none⟩))),(5,rv (.pointer (some ⟨b2,0,none⟩))),(6,rv he),(11,Bl 4 (List.map Af v)),(12,rI .i64 (v.length:Int)),(13,rI .i64 hb)]) (H':=[.blk b2 (A2 ha) 95,.blk b1 [rI .i64 0,rI .i64 0,rB false,rB false] 95,.row he 107 5 (List.map Al hd)]) rfl rfl ?_;obtain⟨hT,rfl,h4,hz,hx⟩:=Ei hS;replace hz:BO F v hd hb ha=some h4:=hz;unfold BO at hz;refine At (wv (G1 rfl rfl) (A3 (Ay (A7 (b:=decide (hb<(v.length:Int))) rfl (λh5=>?_) (λh5=>?_)))))
  ·have hU:=AN h5 hz;refine AD (Bb (Cm (S:=((List An)×As)×(Value)) (λσ=>Ce hb σ.1.1 σ.1.2=some h4) (λσ=>[(0,Bl 4 (List.map Af v)),(3,rv (.pointer (some ⟨b1,0,none⟩))),(5,rv (.pointer (some ⟨b2,0,none⟩))),(6,rv σ.2),(11,Bl 4 (List.map Af v)),(12,rI .i64 (v.length:Int)),(13,rI .i64 hb)]) (λσ=>[.blk b2 (A2 σ.1.2) 95,.blk b1 [rI .i64 0,rI .i64 0,rB false,rB false] 95,.row σ.2 107 5 (List.map Al σ.1.1)]) ?_ ?_))
   ·refine AP (At (wm rfl ?_));obtain⟨hV,hW⟩:=AM hU;refine wv (Dh (enc:=Af) (ys:=v) DW GQ rfl rfl hV) (wv (Cs LS GQ rfl rfl rfl) (C4 (cs:=[rI .i64 0,rI .i64 0,rS ([]:Ai),rI .i64 0]) Ov rfl rfl (λhf=>?_)));refine wa rfl (B1 (i:=0) GQ rfl rfl rfl (Bx.c rfl) rfl rfl (cs':=[rI .i64 ((Ao v hb).fKind),rI .i64 ((Ao v hb).fInt),rS ((Ao v hb).fStr),rI .i64 ((Ao v hb).fN)]) rfl (H':=[.blk hf (Af (Ao v hb)) 70,.blk b2 (A2 ha) 95,.blk b1 [rI .i64 0,rI .i64 0,rB false,rB false] 95,.row he 107 5 (List.map Al hd)]) rfl (A3 (Ay (At (wv (Bc (i:=0) LS GQ rfl rfl rfl rfl) ?_)))));obtain⟨hH,hX,hI⟩:=AL hW;refine GX Tryd.call65 (LY F (Ao v hb) hH hX) rfl (wv (BQ rfl) (A3 (A7 (b:=!hH) rfl (λh6=>?_) (λh6=>?_))))
    ·have hY:=AN h6 hI;refine Ay (DY (H1:=[.blk hf (Af (Ao v hb)) 70,.blk b2 (A2 ha) 95,.blk b1 (A2 ha) 95,.row he 107 5 (List.map Al hd)]) [3,5] [⟨[],Ba (A2 ha),1⟩,⟨[],rI .i64 0,0⟩,⟨[0],rv undef,2⟩,⟨[],rB false,0⟩] (rle [(3,_),(2,[.blk hf (Af (Ao v hb)) 70,.blk b2 (A2 ha) 95,.blk b1 (A2 ha) 95,.row he 107 5 (List.map Al hd)])]) [2,4,3] ?_ ?_)
     ·refine of (Bc (i:=1) HR E7 rfl rfl rfl rfl) (oq (Am rfl) (H6 rfl (Jq (BJ (i:=2) E7 rfl rfl rfl (Bx.c rfl) rfl rfl (cs':=[rI .i64 ha.fDepth,rI .i64 ha.fBytes,rB ha.fOutside,rB ha.fLong]) rfl (H':=[.blk hf (Af (Ao v hb)) 70,.blk b2 (A2 ha) 95,.blk b1 (A2 ha) 95,.row he 107 5 (List.map Al hd)]) rfl)) ?_));refine oq (Am rfl) ?_;exact Ee
     refine Bb (A5 (Ak (AB (Ak (Ak (Bv ?_))))));have hZ:=C5 hY hx hy;refine AB (Ak (EY ?_));obtain rfl:=A8 hZ;exact A4 (OU LQ (AX rfl) (H0 (i:=2) HR E7 rfl rfl rfl) (AX rfl)) (sS (sS (sS (sS sN)))) ⟨rfl,rfl⟩
    ·have ga:=AO h6 hI;refine AD (Bb (Ay (At (wm rfl (wv (BI (ys:=hd) (enc:=Al) (i:=3) DK rfl rfl) (wa rfl (A3 ?_)))))));obtain⟨gb,gc⟩:=AM ga;obtain⟨h7,hJ⟩:=AM gc;refine AH [(0,Bl 4 (List.map Af v)),(3,rv (.pointer (some ⟨b1,0,none⟩))),(5,rv (.pointer (some ⟨b2,0,none⟩))),(6,rv he),(7,rI .i64 hb),(8,rv (.pointer (some ⟨hf,0,none⟩))),(9,rI .i64 (hd.length:Int)),(11,Bl 4 (List.map Af v)),(12,rI .i64 (v.length:Int)),(13,rI .i64 hb),(33,rB ((decide (0<(hd.length:Int)))&&((Ao hd ((hd.length:Int)-1)).fKey)))] [.blk hf (Af (Ao v hb)) 70,.blk b2 (A2 ha) 95,.blk b1 [rI .i64 0,rI .i64 0,rB false,rB false] 95,.row he 107 5 (List.map Al hd)] ?_ ?_
     ·refine Au (wm rfl (wv (DE rfl rfl) (wm rfl (AG (decide (0<(hd.length:Int))) (λhi=>?_) (λhi=>?_)))))
      ·refine wo hi (wm rfl (wo hi (wm rfl (wo hi (wv (Ig rfl rfl (HF gb hi)) (wo hi (wv (r:=rv (Cz 5 he (Int.toNat ((hd.length:Int)-1)) 0)) (Di (i:=3) DK IX rfl rfl rfl (AU (HF h7 hi))) (wo hi (wv (r:=rv (Cz 5 he (Int.toNat ((hd.length:Int)-1)) 2)) (Co (k:=3) DJ rfl Er rfl (AU (HF h7 hi)) rfl rfl rfl) (wo hi (wv (r:=rB ((Ao hd ((hd.length:Int)-1)).fKey)) (CQ (enc:=Al) (ys:=hd) (i:=3) (j:=(hd.length:Int)-1) LT rfl rfl (HF h7 hi) rfl) (Hm rfl hi rfl (Ar ?_)))))))))))));exact CM hi
      ·refine wf hi (wf hi (wf hi (wf hi (wf hi (wf hi (wv (r:=rB false) (A1 (b:=decide (0<(hd.length:Int))) rfl hi rfl) (Ar ?_)))))));exact CM hi
     refine A7 (b:=((decide (0<(hd.length:Int)))&&((Ao hd ((hd.length:Int)-1)).fKey))) rfl (λh8=>?_) (λh8=>?_)
     ·have gd:=AN h8 hJ;refine At (wm rfl (wm rfl ?_));obtain⟨ge,gf⟩:=AM gd;refine wv (Ig rfl rfl ge) ?_;obtain⟨hj,hK⟩:=AM gf;refine wv (r:=rv (Cz 5 he (Int.toNat ((hd.length:Int)-1)) 0)) (Di (i:=3) DK IX rfl rfl rfl (AU hj)) (wa rfl (A3 (Ay (AH [(0,Bl 4 (List.map Af v)),(3,rv (.pointer (some ⟨b1,0,none⟩))),(5,rv (.pointer (some ⟨b2,0,none⟩))),(6,rv he),(8,rv (.pointer (some ⟨hf,0,none⟩))),(10,rv (Cz 5 he (Int.toNat ((hd.length:Int)-1)) 0)),(11,Bl 4 (List.map Af v)),(12,rI .i64 (v.length:Int)),(13,rI .i64 hb),(38,rv (.pointer (some ⟨hf,0,none⟩))),(39,rI .i64 ((Ao v hb).fKind)),(40,rB (!decide (((Ao v hb).fKind)=4))),(41,rB (!decide (((Ao v hb).fKind)=4))),(55,rB ((!decide (((Ao v hb).fKind)=4))||(((Ao hd ((hd.length:Int)-1)).fStarted)&&(Bj ((Ao v hb).fStr) ((Ao hd ((hd.length:Int)-1)).fLast)||decide (((Ao v hb).fStr)=((Ao hd ((hd.length:Int)-1)).fLast))))))] [.blk hf (Af (Ao v hb)) 70,.blk b2 (A2 ha) 95,.blk b1 [rI .i64 0,rI .i64 0,rB false,rB false] 95,.row he 107 5 (List.map Al hd)] ?_ ?_))))
      ·refine AG (!decide (((Ao v hb).fKind)=4)) (λhh=>?_) (λhh=>?_)
       ·refine I2 [0,3,5,6,8,10,11,12,13] [⟨[],rv (.pointer (some ⟨hf,0,none⟩)),0⟩,⟨[0],rI .i64 ((Ao v hb).fKind),1⟩,⟨[1],rB (!decide (((Ao v hb).fKind)=4)),0⟩,⟨[2],rB (!decide (((Ao v hb).fKind)=4)),0⟩,⟨[3],rv undef,0⟩,⟨[4,3],rv undef,0⟩,⟨[5,3],rv undef,0⟩,⟨[6,3],rv undef,0⟩,⟨[7,3],rv undef,0⟩,⟨[8],rv undef,0⟩,⟨[9,8],rv undef,0⟩,⟨[8],rv undef,0⟩,⟨[11,8],rv undef,0⟩,⟨[12,8],rv undef,0⟩,⟨[13,8],rv undef,0⟩,⟨[10,14,8],rv undef,0⟩,⟨[8,15,3],rv undef,0⟩,⟨[3,16],rB true,0⟩] [38,39,40,41,42,43,44,45,46,47,48,49,50,51,52,53,54,55,0,3,5,6,8,10,11,12,13] ?_ ?_
        ·refine oq (Ae B4 rfl Iy rfl rfl) (of (Az (i:=0) Iz rfl rfl rfl) (oq (Dt rfl rfl) (oq (Aw rfl) (oz hh (oz hh (oz hh (oz hh (oz hh (ou (ou (ou (ou (ou (ou (ou (oz hh (oq (Ap (b:=!decide (((Ao v hb).fKind)=4)) rfl hh rfl) ?_)))))))))))))))));exact Ee
        exact CM hh
       ·refine AG ((Ao hd ((hd.length:Int)-1)).fStarted) (λhk=>?_) (λhk=>?_)
        ·refine I2 [0,3,5,6,8,10,11,12,13] [⟨[],rv (.pointer (some ⟨hf,0,none⟩)),0⟩,⟨[0],rI .i64 ((Ao v hb).fKind),1⟩,⟨[1],rB (!decide (((Ao v hb).fKind)=4)),0⟩,⟨[2],rB (!decide (((Ao v hb).fKind)=4)),0⟩,⟨[3],rv (Cz 5 he (Int.toNat ((hd.length:Int)-1)) 0),0⟩,⟨[4,3],rv (Cz 5 he (Int.toNat ((hd.length:Int)-1)) 0),1⟩,⟨[5,3],rv (Cz 5 he (Int.toNat ((hd.length:Int)-1)) 4),1⟩,⟨[6,3],rB ((Ao hd ((hd.length:Int)-1)).fStarted),1⟩,⟨[7,3],rB ((Ao hd ((hd.length:Int)-1)).fStarted),0⟩,⟨[8],rv (.pointer (some ⟨hf,2,none⟩)),0⟩,⟨[9,8],rS ((Ao v hb).fStr),1⟩,⟨[8],rv (Cz 5 he (Int.toNat ((hd.length:Int)-1)) 0),0⟩,⟨[11,8],rv (Cz 5 he (Int.toNat ((hd.length:Int)-1)) 0),1⟩,⟨[12,8],rv (Cz 5 he (Int.toNat ((hd.length:Int)-1)) 3),1⟩,⟨[13,8],rS ((Ao hd ((hd.length:Int)-1)).fLast),1⟩,⟨[10,14,8],rB (Bj ((Ao v hb).fStr) ((Ao hd ((hd.length:Int)-1)).fLast)||decide (((Ao v hb).fStr)=((Ao hd ((hd.length:Int)-1)).fLast))),0⟩,⟨[8,15,3],rB (Bj ((Ao v hb).fStr) ((Ao hd ((hd.length:Int)-1)).fLast)||decide (((Ao v hb).fStr)=((Ao hd ((hd.length:Int)-1)).fLast))),0⟩,⟨[3,16],rB (Bj ((Ao v hb).fStr) ((Ao hd ((hd.length:Int)-1)).fLast)||decide (((Ao v hb).fStr)=((Ao hd ((hd.length:Int)-1)).fLast))),0⟩] [38,39,40,41,42,43,44,45,46,47,48,49,50,51,52,53,54,55,0,3,5,6,8,10,11,12,13] ?_ ?_
         ·refine oq (Ae B4 rfl Iy rfl rfl) (of (Az (i:=0) Iz rfl rfl rfl) (oq (Dt rfl rfl) (oq (Aw rfl) (on hh (oq (Aw rfl) (on hh (of (Bn (k:=3) rfl (AU hj) rfl rfl) (on hh (of (Co (k:=3) DJ rfl Er rfl (AU hj) rfl rfl rfl) (on hh (of (CQ (enc:=Al) (ys:=hd) (i:=3) (j:=(hd.length:Int)-1) LT rfl rfl hj rfl) (on hh (oq (Aw rfl) (on hk (oq (Ae B4 rfl DA rfl rfl) (on hk (of (Az (i:=0) DR rfl rfl rfl) (on hk (oq (Aw rfl) (on hk (of (Bn (k:=3) rfl (AU hj) rfl rfl) (on hk (of (Co (k:=3) DJ rfl DA rfl (AU hj) rfl rfl rfl) ?_)))))))))))))))))))))));refine on hk (of (CQ (enc:=Al) (ys:=hd) (i:=3) (j:=(hd.length:Int)-1) DR rfl rfl hj rfl) (on hk (oq (Ok rfl rfl) (on hh (oq (Ap rfl hk rfl) (oq (A1 rfl hh rfl) ?_))))));exact Ee
         exact CM (And.intro hh hk)
        ·refine I2 [0,3,5,6,8,10,11,12,13] [⟨[],rv (.pointer (some ⟨hf,0,none⟩)),0⟩,⟨[0],rI .i64 ((Ao v hb).fKind),1⟩,⟨[1],rB (!decide (((Ao v hb).fKind)=4)),0⟩,⟨[2],rB (!decide (((Ao v hb).fKind)=4)),0⟩,⟨[3],rv (Cz 5 he (Int.toNat ((hd.length:Int)-1)) 0),0⟩,⟨[4,3],rv (Cz 5 he (Int.toNat ((hd.length:Int)-1)) 0),1⟩,⟨[5,3],rv (Cz 5 he (Int.toNat ((hd.length:Int)-1)) 4),1⟩,⟨[6,3],rB ((Ao hd ((hd.length:Int)-1)).fStarted),1⟩,⟨[7,3],rB ((Ao hd ((hd.length:Int)-1)).fStarted),0⟩,⟨[8],rv undef,0⟩,⟨[9,8],rv undef,0⟩,⟨[8],rv undef,0⟩,⟨[11,8],rv undef,0⟩,⟨[12,8],rv undef,0⟩,⟨[13,8],rv undef,0⟩,⟨[10,14,8],rv undef,0⟩,⟨[8,15,3],rB false,0⟩,⟨[3,16],rB false,0⟩] [38,39,40,41,42,43,44,45,46,47,48,49,50,51,52,53,54,55,0,3,5,6,8,10,11,12,13] ?_ ?_
         ·refine oq (Ae B4 rfl Iy rfl rfl) (of (Az (i:=0) Iz rfl rfl rfl) (oq (Dt rfl rfl) (oq (Aw rfl) (on hh (oq (Aw rfl) (on hh (of (Bn (k:=3) rfl (AU hj) rfl rfl) (on hh (of (Co (k:=3) DJ rfl Er rfl (AU hj) rfl rfl rfl) (on hh (of (CQ (enc:=Al) (ys:=hd) (i:=3) (j:=(hd.length:Int)-1) LT rfl rfl hj rfl) (on hh (oq (Aw rfl) (oz hk (oz hk (oz hk (oz hk (oz hk (oz hk (oz hk (on hh (oq (A1 (b:=(Ao hd ((hd.length:Int)-1)).fStarted) rfl hk rfl) (oq (A1 rfl hh rfl) ?_)))))))))))))))))))))));exact Ee
         exact CM (And.intro hh hk)
      refine A7 (b:=((!decide (((Ao v hb).fKind)=4))||(((Ao hd ((hd.length:Int)-1)).fStarted)&&(Bj ((Ao v hb).fStr) ((Ao hd ((hd.length:Int)-1)).fLast)||decide (((Ao v hb).fStr)=((Ao hd ((hd.length:Int)-1)).fLast)))))) rfl (λh9=>?_) (λh9=>?_)
      ·have gg:=AN h9 hK;refine Ay (DY (H1:=[.blk hf (Af (Ao v hb)) 70,.blk b2 (A2 ha) 95,.blk b1 (A2 ha) 95,.row he 107 5 (List.map Al hd)]) [3,5] [⟨[],Ba (A2 ha),1⟩,⟨[],rI .i64 0,0⟩,⟨[0],rv undef,2⟩,⟨[],rB false,0⟩] (rle [(3,_),(2,[.blk hf (Af (Ao v hb)) 70,.blk b2 (A2 ha) 95,.blk b1 (A2 ha) 95,.row he 107 5 (List.map Al hd)])]) [2,4,3] ?_ ?_)
       ·refine of (Bc (i:=1) HR E7 rfl rfl rfl rfl) (oq (Am rfl) (H6 rfl (Jq (BJ (i:=2) E7 rfl rfl rfl (Bx.c rfl) rfl rfl (cs':=[rI .i64 ha.fDepth,rI .i64 ha.fBytes,rB ha.fOutside,rB ha.fLong]) rfl (H':=[.blk hf (Af (Ao v hb)) 70,.blk b2 (A2 ha) 95,.blk b1 (A2 ha) 95,.row he 107 5 (List.map Al hd)]) rfl)) ?_));refine oq (Am rfl) ?_;exact Ee
       refine Bb (A5 (Ak (Ak (AB (Ak (Ak (Bv ?_)))))));have gh:=C5 gg hx hy;refine AB (Ak (EY ?_));obtain rfl:=A8 gh;exact A4 (OU LQ (AX rfl) (H0 (i:=2) HR E7 rfl rfl rfl) (AX rfl)) (sS (sS (sS (sS sN)))) ⟨rfl,rfl⟩
      ·have gi:=AO h9 hK;refine AD (Bb (At (wm rfl (wm rfl (wm rfl (wv (Ae B4 rfl DA rfl rfl) (wv (Az (i:=0) DR rfl rfl rfl) (wv (r:=rv (Cz 5 he (Int.toNat ((hd.length:Int)-1)) 0)) (Bn (k:=3) rfl (AU hj) rfl rfl) (wv (r:=rv (Cz 5 he (Int.toNat ((hd.length:Int)-1)) 3)) (Co (k:=3) DJ rfl DA rfl (AU hj) rfl rfl rfl) (Gy (enc:=Al) (ys:=hd) (y':=(An.mk ((Ao hd ((hd.length:Int)-1)).fPairs) ((Ao hd ((hd.length:Int)-1)).fLeft) ((Ao hd ((hd.length:Int)-1)).fKey) ((Ao v hb).fStr) ((Ao hd ((hd.length:Int)-1)).fStarted))) (i:=3) (j:=(hd.length:Int)-1) DA rfl rfl (BL rfl) rfl hj rfl rfl (H':=[.blk hf (Af (Ao v hb)) 70,.blk b2 (A2 ha) 95,.blk b1 [rI .i64 0,rI .i64 0,rB false,rB false] 95,.row he 107 5 (List.map Al (List.set hd (Int.toNat ((hd.length:Int)-1)) (An.mk ((Ao hd ((hd.length:Int)-1)).fPairs) ((Ao hd ((hd.length:Int)-1)).fLeft) ((Ao hd ((hd.length:Int)-1)).fKey) ((Ao v hb).fStr) ((Ao hd ((hd.length:Int)-1)).fStarted))))]) rfl ?_))))))))));obtain⟨hr,hw,gj⟩:=Iv gi;rw[← hw];refine wv (r:=rv (Cz 5 he (Int.toNat ((hd.length:Int)-1)) 0)) (Bn (k:=3) rfl (AU (By hj hw)) rfl rfl) (wv (r:=rv (Cz 5 he (Int.toNat ((hd.length:Int)-1)) 4)) (Co (k:=3) DJ rfl Er rfl (AU (By hj hw)) rfl rfl rfl) (Gy (enc:=Al) (ys:=hr) (y':=(An.mk ((Ao hr ((hd.length:Int)-1)).fPairs) ((Ao hr ((hd.length:Int)-1)).fLeft) ((Ao hr ((hd.length:Int)-1)).fKey) ((Ao hr ((hd.length:Int)-1)).fLast) true)) (i:=3) (j:=(hd.length:Int)-1) Er rfl rfl (BL rfl) rfl (By hj hw) rfl rfl (H':=[.blk hf (Af (Ao v hb)) 70,.blk b2 (A2 ha) 95,.blk b1 [rI .i64 0,rI .i64 0,rB false,rB false] 95,.row he 107 5 (List.map Al (List.set hr (Int.toNat ((hd.length:Int)-1)) (An.mk ((Ao hr ((hd.length:Int)-1)).fPairs) ((Ao hr ((hd.length:Int)-1)).fLeft) ((Ao hr ((hd.length:Int)-1)).fKey) ((Ao hr ((hd.length:Int)-1)).fLast) true)))]) rfl ?_));obtain⟨hs,h1,gk⟩:=Iv gj;rw[← h1];refine wv (r:=rv (Cz 5 he (Int.toNat ((hd.length:Int)-1)) 0)) (Bn (k:=3) rfl (AU (By (By hj hw) h1)) rfl rfl) (wv (r:=rv (Cz 5 he (Int.toNat ((hd.length:Int)-1)) 2)) (Co (k:=3) DJ rfl Er rfl (AU (By (By hj hw) h1)) rfl rfl rfl) (Gy (enc:=Al) (ys:=hs) (y':=(An.mk ((Ao hs ((hd.length:Int)-1)).fPairs) ((Ao hs ((hd.length:Int)-1)).fLeft) false ((Ao hs ((hd.length:Int)-1)).fLast) ((Ao hs ((hd.length:Int)-1)).fStarted))) (i:=3) (j:=(hd.length:Int)-1) Er rfl rfl (BL rfl) rfl (By (By hj hw) h1) rfl rfl (H':=[.blk hf (Af (Ao v hb)) 70,.blk b2 (A2 ha) 95,.blk b1 [rI .i64 0,rI .i64 0,rB false,rB false] 95,.row he 107 5 (List.map Al (List.set hs (Int.toNat ((hd.length:Int)-1)) (An.mk ((Ao hs ((hd.length:Int)-1)).fPairs) ((Ao hs ((hd.length:Int)-1)).fLeft) false ((Ao hs ((hd.length:Int)-1)).fLast) ((Ao hs ((hd.length:Int)-1)).fStarted))))]) rfl ?_));obtain⟨ht,gl,gm⟩:=Iv gk;rw[← gl];refine A3 (Ay ?_);obtain⟨hl,gn,gp⟩:=AL gm;obtain⟨gq,gr⟩:=AM gp;refine DY (H1:=[.blk hf (Af (Ao v hb)) 70,.blk b2 [rI .i64 ha.fDepth,rI .i64 (IntKind.wrap .i64 (ha.fBytes+(hl+1))),rB ha.fOutside,rB ha.fLong] 95,.blk b1 [rI .i64 0,rI .i64 0,rB false,rB false] 95,.row he 107 5 (List.map Al ht)]) [0,3,5,6,8,11,12,13,38,39,40,41] [⟨[],rv (.pointer (some ⟨b2,1,none⟩)),0⟩,⟨[0],rI .i64 ha.fBytes,1⟩,⟨[],rv (.pointer (some ⟨hf,2,none⟩)),0⟩,⟨[2],rS ((Ao v hb).fStr),1⟩,⟨[3],rI .i64 hl,0⟩,⟨[4],rI .i64 (hl+1),0⟩,⟨[1,5],rI .i64 (IntKind.wrap .i64 (ha.fBytes+(hl+1))),0⟩,⟨[],rv (.pointer (some ⟨b2,1,none⟩)),0⟩,⟨[7,6],rv undef,2⟩] (rle [(9,_),(1,[.blk hf (Af (Ao v hb)) 70,.blk b2 [rI .i64 ha.fDepth,rI .i64 (IntKind.wrap .i64 (ha.fBytes+(hl+1))),rB ha.fOutside,rB ha.fLong] 95,.blk b1 [rI .i64 0,rI .i64 0,rB false,rB false] 95,.row he 107 5 (List.map Al ht)])]) [68,69,70,71,72,73,74,75,0,3,5,6,8,11,12,13,38,39,40,41] ?_ ?_
       ·refine oq (Ae Dw rfl CV rfl rfl) (of (Az (i:=1) Dr rfl rfl rfl) (oq (Ae B4 rfl DA rfl rfl) (of (Az (i:=0) DR rfl rfl rfl) (Jr rfl (λH=>Mz Tryd.call66 (Ib ((Ao v hb).fStr) hl gn) rfl) ?_))));refine oq (Cf rfl rfl gq) (oq (Kf rfl rfl) (oq (Ae Dw rfl CV rfl rfl) (H6 rfl (Jq (Iw (i:=1) CV rfl rfl (BL rfl) rfl rfl (cs':=[rI .i64 ha.fDepth,rI .i64 (IntKind.wrap .i64 (ha.fBytes+(hl+1))),rB ha.fOutside,rB ha.fLong]) rfl (H':=[.blk hf (Af (Ao v hb)) 70,.blk b2 [rI .i64 ha.fDepth,rI .i64 (IntKind.wrap .i64 (ha.fBytes+(hl+1))),rB ha.fOutside,rB ha.fLong] 95,.blk b1 [rI .i64 0,rI .i64 0,rB false,rB false] 95,.row he 107 5 (List.map Al ht)]) rfl)) ?_)));exact Ee
       refine Bb (AH [(0,Bl 4 (List.map Af v)),(3,rv (.pointer (some ⟨b1,0,none⟩))),(5,rv (.pointer (some ⟨b2,0,none⟩))),(6,rv he),(11,Bl 4 (List.map Af v)),(12,rI .i64 (v.length:Int)),(13,rI .i64 hb),(38,rv (.pointer (some ⟨hf,0,none⟩))),(39,rI .i64 ((Ao v hb).fKind)),(40,rB (!decide (((Ao v hb).fKind)=4))),(41,rB (!decide (((Ao v hb).fKind)=4))),(68,rv (.pointer (some ⟨b2,1,none⟩))),(69,rI .i64 ha.fBytes),(70,rv (.pointer (some ⟨hf,2,none⟩))),(71,rS ((Ao v hb).fStr)),(72,rI .i64 hl),(73,rI .i64 (hl+1)),(74,rI .i64 (IntKind.wrap .i64 (ha.fBytes+(hl+1)))),(75,rv (.pointer (some ⟨b2,1,none⟩)))] [.blk hf (Af (Ao v hb)) 70,.blk b2 [rI .i64 ha.fDepth,rI .i64 (IntKind.wrap .i64 (ha.fBytes+(hl+1))),rB ha.fOutside,rB (ha.fLong||(decide (200<(((Ao v hb).fStr).length:Int))))] 95,.blk b1 [rI .i64 0,rI .i64 0,rB false,rB false] 95,.row he 107 5 (List.map Al ht)] ?_ ?_)
       ·refine Au (wv (Ae Dw rfl Er rfl rfl) (wv (Az (i:=1) LT rfl rfl rfl) (wm rfl (AG (ha.fLong) (λho=>?_) (λho=>?_)))))
        ·refine wf ho (wf ho (wf ho (wf ho (wv (r:=rB true) (Ap (b:=ha.fLong) rfl ho rfl) (wv (Ae Dw rfl Er rfl rfl) (Cj (i:=1) Er rfl rfl (BL rfl) rfl rfl (cs':=[rI .i64 ha.fDepth,rI .i64 (IntKind.wrap .i64 (ha.fBytes+(hl+1))),rB ha.fOutside,rB true]) rfl (H':=[.blk hf (Af (Ao v hb)) 70,.blk b2 [rI .i64 ha.fDepth,rI .i64 (IntKind.wrap .i64 (ha.fBytes+(hl+1))),rB ha.fOutside,rB true] 95,.blk b1 [rI .i64 0,rI .i64 0,rB false,rB false] 95,.row he 107 5 (List.map Al ht)]) rfl (Ar (DB (H':=[.blk hf (Af (Ao v hb)) 70,.blk b2 [rI .i64 ha.fDepth,rI .i64 (IntKind.wrap .i64 (ha.fBytes+(hl+1))),rB ha.fOutside,rB (ha.fLong||(decide (200<(((Ao v hb).fStr).length:Int))))] 95,.blk b1 [rI .i64 0,rI .i64 0,rB false,rB false] 95,.row he 107 5 (List.map Al ht)]) (by simp only[ho,Qs,Qu,Q2,Qn,Qx,Qv,Q3,Qw,Qk,Qt,Qj,Qc]) ?_))))))));exact wt
        ·refine wo ho (wv (Ae B4 rfl DA rfl rfl) (wo ho (wv (Az (i:=0) DR rfl rfl rfl) (wo ho (wv (BM GP rfl) (wo ho (wv (DE rfl rfl) (Hn rfl ho rfl (wv (Ae Dw rfl Er rfl rfl) (Cj (i:=1) Er rfl rfl (BL rfl) rfl rfl (cs':=[rI .i64 ha.fDepth,rI .i64 (IntKind.wrap .i64 (ha.fBytes+(hl+1))),rB ha.fOutside,rB (decide (200<(((Ao v hb).fStr).length:Int)))]) rfl (H':=[.blk hf (Af (Ao v hb)) 70,.blk b2 [rI .i64 ha.fDepth,rI .i64 (IntKind.wrap .i64 (ha.fBytes+(hl+1))),rB ha.fOutside,rB (decide (200<(((Ao v hb).fStr).length:Int)))] 95,.blk b1 [rI .i64 0,rI .i64 0,rB false,rB false] 95,.row he 107 5 (List.map Al ht)]) rfl (Ar (DB (H':=[.blk hf (Af (Ao v hb)) 70,.blk b2 [rI .i64 ha.fDepth,rI .i64 (IntKind.wrap .i64 (ha.fBytes+(hl+1))),rB ha.fOutside,rB (ha.fLong||(decide (200<(((Ao v hb).fStr).length:Int))))] 95,.blk b1 [rI .i64 0,rI .i64 0,rB false,rB false] 95,.row he 107 5 (List.map Al ht)]) (by simp only[ho,Qs,Qu,Q2,Qn,Qx,Qv,Q3,Qw,Qk,Qt,Qj,Qc]) ?_))))))))))));exact wt
       exact B0 (AC (Bk (A0 (AK ((ht,(As.mk ha.fDepth (IntKind.wrap .i64 (ha.fBytes+(hl+1))) ha.fOutside (ha.fLong||(decide (200<(((Ao v hb).fStr).length:Int)))))),he) gr (AJ.c rfl (AJ.c rfl (AJ.c5 rfl rfl rfl rfl rfl AJ.nil))) (sS (sC (sC (sC sN))))))))
     ·have gs:=AO h8 hJ;refine AD (Bb (At (wv (Ae Dw rfl CV rfl rfl) (wv (Az (i:=1) Dr rfl rfl rfl) (wm rfl (wv (BI (ys:=hd) (enc:=Al) (i:=3) DK rfl rfl) ?_))))));obtain⟨gt,gu⟩:=AM gs;refine wv (Cf rfl rfl gt) (wv (Ol P6 rfl rfl) (wv (Ae Dw rfl CV rfl rfl) (Cj (i:=1) CV rfl rfl (BL rfl) rfl rfl (cs':=[rI .i64 (max ha.fDepth ((hd.length:Int)+1)),rI .i64 ha.fBytes,rB ha.fOutside,rB ha.fLong]) rfl (H':=[.blk hf (Af (Ao v hb)) 70,.blk b2 [rI .i64 (max ha.fDepth ((hd.length:Int)+1)),rI .i64 ha.fBytes,rB ha.fOutside,rB ha.fLong] 95,.blk b1 [rI .i64 0,rI .i64 0,rB false,rB false] 95,.row he 107 5 (List.map Al hd)]) rfl (A3 (Ay ?_)))));obtain⟨hg,gv,gw⟩:=AL gu;refine DY (H1:=[.blk hf (Af (Ao v hb)) 70,.blk b2 [rI .i64 (max ha.fDepth ((hd.length:Int)+1)),rI .i64 (IntKind.wrap .i64 (ha.fBytes+hg)),rB ha.fOutside,rB ha.fLong] 95,.blk b1 [rI .i64 0,rI .i64 0,rB false,rB false] 95,.row he 107 5 (List.map Al hd)]) [0,3,5,6,7,8,11,12,13] [⟨[],rv (.pointer (some ⟨b2,1,none⟩)),0⟩,⟨[0],rI .i64 ha.fBytes,1⟩,⟨[],Ba (Af (Ao v hb)),1⟩,⟨[2],rI .i64 hg,0⟩,⟨[1,3],rI .i64 (IntKind.wrap .i64 (ha.fBytes+hg)),0⟩,⟨[],rv (.pointer (some ⟨b2,1,none⟩)),0⟩,⟨[5,4],rv undef,2⟩] (rle [(7,_),(1,[.blk hf (Af (Ao v hb)) 70,.blk b2 [rI .i64 (max ha.fDepth ((hd.length:Int)+1)),rI .i64 (IntKind.wrap .i64 (ha.fBytes+hg)),rB ha.fOutside,rB ha.fLong] 95,.blk b1 [rI .i64 0,rI .i64 0,rB false,rB false] 95,.row he 107 5 (List.map Al hd)])]) [92,93,94,95,96,97,0,3,5,6,7,8,11,12,13] ?_ ?_
      ·refine oq (Ae Dw rfl CV rfl rfl) (of (Az (i:=1) Dr rfl rfl rfl) (of (Bc (i:=0) LS GQ rfl rfl rfl rfl) (Jr rfl (λH=>Mz Tryd.call67 (Np (Ao v hb) hg gv) rfl) ?_)));refine oq (Kf rfl rfl) (oq (Ae Dw rfl CV rfl rfl) (H6 rfl (Jq (Iw (i:=1) CV rfl rfl (BL rfl) rfl rfl (cs':=[rI .i64 (max ha.fDepth ((hd.length:Int)+1)),rI .i64 (IntKind.wrap .i64 (ha.fBytes+hg)),rB ha.fOutside,rB ha.fLong]) rfl (H':=[.blk hf (Af (Ao v hb)) 70,.blk b2 [rI .i64 (max ha.fDepth ((hd.length:Int)+1)),rI .i64 (IntKind.wrap .i64 (ha.fBytes+hg)),rB ha.fOutside,rB ha.fLong] 95,.blk b1 [rI .i64 0,rI .i64 0,rB false,rB false] 95,.row he 107 5 (List.map Al hd)]) rfl)) ?_));exact Ee
      refine Bb ?_;obtain⟨gx,hL⟩:=AM gw;refine AH [(0,Bl 4 (List.map Af v)),(3,rv (.pointer (some ⟨b1,0,none⟩))),(5,rv (.pointer (some ⟨b2,0,none⟩))),(6,rv he),(7,rI .i64 hb),(8,rv (.pointer (some ⟨hf,0,none⟩))),(11,Bl 4 (List.map Af v)),(12,rI .i64 (v.length:Int)),(13,rI .i64 hb),(92,rv (.pointer (some ⟨b2,1,none⟩))),(93,rI .i64 ha.fBytes),(94,Ba (Af (Ao v hb))),(95,rI .i64 hg),(96,rI .i64 (IntKind.wrap .i64 (ha.fBytes+hg))),(97,rv (.pointer (some ⟨b2,1,none⟩)))] [.blk hf (Af (Ao v hb)) 70,.blk b2 [rI .i64 (max ha.fDepth ((hd.length:Int)+1)),rI .i64 (IntKind.wrap .i64 (ha.fBytes+hg)),rB (ha.fOutside||((decide (((Ao v hb).fKind)=3))&&(!(ov (AS ((Ao v hb).fInt)))))),rB ha.fLong] 95,.blk b1 [rI .i64 0,rI .i64 0,rB false,rB false] 95,.row he 107 5 (List.map Al hd)] ?_ ?_
      ·refine Au (wv (Ae Dw rfl Er rfl rfl) (wv (Az (i:=1) LT rfl rfl rfl) (wm rfl (AG (ha.fOutside) (λhm=>?_) (λhm=>?_)))))
       ·refine wf hm (wf hm (wf hm (wf hm (wu (wu (wu (wu (wf hm (wv (r:=rB true) (Ap (b:=ha.fOutside) rfl hm rfl) (wv (Ae Dw rfl Er rfl rfl) (Cj (i:=1) Er rfl rfl (BL rfl) rfl rfl (cs':=[rI .i64 (max ha.fDepth ((hd.length:Int)+1)),rI .i64 (IntKind.wrap .i64 (ha.fBytes+hg)),rB true,rB ha.fLong]) rfl (H':=[.blk hf (Af (Ao v hb)) 70,.blk b2 [rI .i64 (max ha.fDepth ((hd.length:Int)+1)),rI .i64 (IntKind.wrap .i64 (ha.fBytes+hg)),rB true,rB ha.fLong] 95,.blk b1 [rI .i64 0,rI .i64 0,rB false,rB false] 95,.row he 107 5 (List.map Al hd)]) rfl (Ar (DB (H':=[.blk hf (Af (Ao v hb)) 70,.blk b2 [rI .i64 (max ha.fDepth ((hd.length:Int)+1)),rI .i64 (IntKind.wrap .i64 (ha.fBytes+hg)),rB (ha.fOutside||((decide (((Ao v hb).fKind)=3))&&(!(ov (AS ((Ao v hb).fInt)))))),rB ha.fLong] 95,.blk b1 [rI .i64 0,rI .i64 0,rB false,rB false] 95,.row he 107 5 (List.map Al hd)]) (by simp only[hm,Qs,Qu,Q2,Qn,Qx,Qv,Q3,Qw,Qk,Qt,Qj,Qc]) ?_)))))))))))));exact wt
       ·refine wo hm (wv (Ae B4 rfl Iy rfl rfl) (wo hm (wv (Az (i:=0) Iz rfl rfl rfl) (wo hm (wv (Bw rfl rfl) (wo hm (wm rfl (AG (decide (((Ao v hb).fKind)=3)) (λhn=>?_) (λhn=>?_)))))))))
        ·refine wo hn (wv (Ae B4 rfl CV rfl rfl) (wo hn (wv (Az (i:=0) Dr rfl rfl rfl) (wo hn (GX Tryd.call68 (M8 ((Ao v hb).fInt) (ov (AS ((Ao v hb).fInt))) (Mv (HF (Om gx hm) hn))) rfl (wo hn (wv (BQ rfl) (wo hm (Hm rfl hn rfl (Hn rfl hm rfl (wv (Ae Dw rfl Er rfl rfl) (Cj (i:=1) Er rfl rfl (BL rfl) rfl rfl (cs':=[rI .i64 (max ha.fDepth ((hd.length:Int)+1)),rI .i64 (IntKind.wrap .i64 (ha.fBytes+hg)),rB (!(ov (AS ((Ao v hb).fInt)))),rB ha.fLong]) rfl (H':=[.blk hf (Af (Ao v hb)) 70,.blk b2 [rI .i64 (max ha.fDepth ((hd.length:Int)+1)),rI .i64 (IntKind.wrap .i64 (ha.fBytes+hg)),rB (!(ov (AS ((Ao v hb).fInt)))),rB ha.fLong] 95,.blk b1 [rI .i64 0,rI .i64 0,rB false,rB false] 95,.row he 107 5 (List.map Al hd)]) rfl (Ar (DB (H':=[.blk hf (Af (Ao v hb)) 70,.blk b2 [rI .i64 (max ha.fDepth ((hd.length:Int)+1)),rI .i64 (IntKind.wrap .i64 (ha.fBytes+hg)),rB (ha.fOutside||((decide (((Ao v hb).fKind)=3))&&(!(ov (AS ((Ao v hb).fInt)))))),rB ha.fLong] 95,.blk b1 [rI .i64 0,rI .i64 0,rB false,rB false] 95,.row he 107 5 (List.map Al hd)]) (by simp only[hm,hn,Qs,Qu,Q2,Qn,Qx,Qv,Q3,Qw,Qk,Qt,Qj,Qc]) ?_))))))))))))));exact wt
        ·refine wf hn (wf hn (wf hn (wf hn (wo hm (wv (r:=rB false) (A1 (b:=decide (((Ao v hb).fKind)=3)) rfl hn rfl) (Hn rfl hm rfl (wv (Ae Dw rfl Er rfl rfl) (Cj (i:=1) Er rfl rfl (BL rfl) rfl rfl (cs':=[rI .i64 (max ha.fDepth ((hd.length:Int)+1)),rI .i64 (IntKind.wrap .i64 (ha.fBytes+hg)),rB false,rB ha.fLong]) rfl (H':=[.blk hf (Af (Ao v hb)) 70,.blk b2 [rI .i64 (max ha.fDepth ((hd.length:Int)+1)),rI .i64 (IntKind.wrap .i64 (ha.fBytes+hg)),rB false,rB ha.fLong] 95,.blk b1 [rI .i64 0,rI .i64 0,rB false,rB false] 95,.row he 107 5 (List.map Al hd)]) rfl (Ar (DB (H':=[.blk hf (Af (Ao v hb)) 70,.blk b2 [rI .i64 (max ha.fDepth ((hd.length:Int)+1)),rI .i64 (IntKind.wrap .i64 (ha.fBytes+hg)),rB (ha.fOutside||((decide (((Ao v hb).fKind)=3))&&(!(ov (AS ((Ao v hb).fInt)))))),rB ha.fLong] 95,.blk b1 [rI .i64 0,rI .i64 0,rB false,rB false] 95,.row he 107 5 (List.map Al hd)]) (by simp only[hm,hn,Qs,Qu,Q2,Qn,Qx,Qv,Q3,Qw,Qk,Qt,Qj,Qc]) ?_))))))))));exact wt
      refine AH [(0,Bl 4 (List.map Af v)),(3,rv (.pointer (some ⟨b1,0,none⟩))),(5,rv (.pointer (some ⟨b2,0,none⟩))),(6,rv he),(7,rI .i64 hb),(8,rv (.pointer (some ⟨hf,0,none⟩))),(11,Bl 4 (List.map Af v)),(12,rI .i64 (v.length:Int)),(13,rI .i64 hb),(92,rv (.pointer (some ⟨b2,1,none⟩))),(93,rI .i64 ha.fBytes),(94,Ba (Af (Ao v hb))),(95,rI .i64 hg),(96,rI .i64 (IntKind.wrap .i64 (ha.fBytes+hg))),(97,rv (.pointer (some ⟨b2,1,none⟩)))] [.blk hf (Af (Ao v hb)) 70,.blk b2 [rI .i64 (max ha.fDepth ((hd.length:Int)+1)),rI .i64 (IntKind.wrap .i64 (ha.fBytes+hg)),rB (ha.fOutside||((decide (((Ao v hb).fKind)=3))&&(!(ov (AS ((Ao v hb).fInt)))))),rB (ha.fLong||(decide (200<(((Ao v hb).fStr).length:Int))))] 95,.blk b1 [rI .i64 0,rI .i64 0,rB false,rB false] 95,.row he 107 5 (List.map Al hd)] ?_ ?_
      ·refine Au (wv (Ae Dw rfl Er rfl rfl) (wv (Az (i:=1) LT rfl rfl rfl) (wm rfl (AG (ha.fLong) (λhp=>?_) (λhp=>?_)))))
       ·refine wf hp (wf hp (wf hp (wf hp (wv (r:=rB true) (Ap (b:=ha.fLong) rfl hp rfl) (wv (Ae Dw rfl Er rfl rfl) (Cj (i:=1) Er rfl rfl (BL rfl) rfl rfl (cs':=[rI .i64 (max ha.fDepth ((hd.length:Int)+1)),rI .i64 (IntKind.wrap .i64 (ha.fBytes+hg)),rB (ha.fOutside||((decide (((Ao v hb).fKind)=3))&&(!(ov (AS ((Ao v hb).fInt)))))),rB true]) rfl (H':=[.blk hf (Af (Ao v hb)) 70,.blk b2 [rI .i64 (max ha.fDepth ((hd.length:Int)+1)),rI .i64 (IntKind.wrap .i64 (ha.fBytes+hg)),rB (ha.fOutside||((decide (((Ao v hb).fKind)=3))&&(!(ov (AS ((Ao v hb).fInt)))))),rB true] 95,.blk b1 [rI .i64 0,rI .i64 0,rB false,rB false] 95,.row he 107 5 (List.map Al hd)]) rfl (Ar (DB (H':=[.blk hf (Af (Ao v hb)) 70,.blk b2 [rI .i64 (max ha.fDepth ((hd.length:Int)+1)),rI .i64 (IntKind.wrap .i64 (ha.fBytes+hg)),rB (ha.fOutside||((decide (((Ao v hb).fKind)=3))&&(!(ov (AS ((Ao v hb).fInt)))))),rB (ha.fLong||(decide (200<(((Ao v hb).fStr).length:Int))))] 95,.blk b1 [rI .i64 0,rI .i64 0,rB false,rB false] 95,.row he 107 5 (List.map Al hd)]) (by simp only[hp,Qs,Qu,Q2,Qn,Qx,Qv,Q3,Qw,Qk,Qt,Qj,Qc]) ?_))))))));exact wt
       ·refine wo hp (wv (Ae B4 rfl DA rfl rfl) (wo hp (wv (Az (i:=0) DR rfl rfl rfl) (wo hp (wv (BM GP rfl) (wo hp (wv (DE rfl rfl) (Hn rfl hp rfl (wv (Ae Dw rfl Er rfl rfl) (Cj (i:=1) Er rfl rfl (BL rfl) rfl rfl (cs':=[rI .i64 (max ha.fDepth ((hd.length:Int)+1)),rI .i64 (IntKind.wrap .i64 (ha.fBytes+hg)),rB (ha.fOutside||((decide (((Ao v hb).fKind)=3))&&(!(ov (AS ((Ao v hb).fInt)))))),rB (decide (200<(((Ao v hb).fStr).length:Int)))]) rfl (H':=[.blk hf (Af (Ao v hb)) 70,.blk b2 [rI .i64 (max ha.fDepth ((hd.length:Int)+1)),rI .i64 (IntKind.wrap .i64 (ha.fBytes+hg)),rB (ha.fOutside||((decide (((Ao v hb).fKind)=3))&&(!(ov (AS ((Ao v hb).fInt)))))),rB (decide (200<(((Ao v hb).fStr).length:Int)))] 95,.blk b1 [rI .i64 0,rI .i64 0,rB false,rB false] 95,.row he 107 5 (List.map Al hd)]) rfl (Ar (DB (H':=[.blk hf (Af (Ao v hb)) 70,.blk b2 [rI .i64 (max ha.fDepth ((hd.length:Int)+1)),rI .i64 (IntKind.wrap .i64 (ha.fBytes+hg)),rB (ha.fOutside||((decide (((Ao v hb).fKind)=3))&&(!(ov (AS ((Ao v hb).fInt)))))),rB (ha.fLong||(decide (200<(((Ao v hb).fStr).length:Int))))] 95,.blk b1 [rI .i64 0,rI .i64 0,rB false,rB false] 95,.row he 107 5 (List.map Al hd)]) (by simp only[hp,Qs,Qu,Q2,Qn,Qx,Qv,Q3,Qw,Qk,Qt,Qj,Qc]) ?_))))))))))));exact wt
      refine Ay (At (wv (Ae B4 rfl CV rfl rfl) (wv (Az (i:=0) Dr rfl rfl rfl) (wv (DE rfl rfl) (A3 (A7 (b:=decide (0<((Ao v hb).fN))) rfl (λhA=>?_) (λhA=>?_)))))))
      ·have hN:=AN hA hL;refine Ay (At (wv (Ae B4 rfl CV rfl rfl) (wv (Az (i:=0) Dr rfl rfl rfl) (wm rfl (wv (Br (ys:=v) (enc:=Af) DW rfl) (wv (DE rfl rfl) (A3 (A7 (b:=decide ((v.length:Int)<((Ao v hb).fN))) rfl (λhB=>?_) (λhB=>?_)))))))))
       ·have gy:=AN hB hN;refine Ay (DY (H1:=[.blk hf (Af (Ao v hb)) 70,.blk b2 [rI .i64 (max ha.fDepth ((hd.length:Int)+1)),rI .i64 (IntKind.wrap .i64 (ha.fBytes+hg)),rB (ha.fOutside||((decide (((Ao v hb).fKind)=3))&&(!(ov (AS ((Ao v hb).fInt)))))),rB (ha.fLong||(decide (200<(((Ao v hb).fStr).length:Int))))] 95,.blk b1 [rI .i64 (max ha.fDepth ((hd.length:Int)+1)),rI .i64 (IntKind.wrap .i64 (ha.fBytes+hg)),rB (ha.fOutside||((decide (((Ao v hb).fKind)=3))&&(!(ov (AS ((Ao v hb).fInt)))))),rB (ha.fLong||(decide (200<(((Ao v hb).fStr).length:Int))))] 95,.row he 107 5 (List.map Al hd)]) [3,5] [⟨[],Ba [rI .i64 (max ha.fDepth ((hd.length:Int)+1)),rI .i64 (IntKind.wrap .i64 (ha.fBytes+hg)),rB (ha.fOutside||((decide (((Ao v hb).fKind)=3))&&(!(ov (AS ((Ao v hb).fInt)))))),rB (ha.fLong||(decide (200<(((Ao v hb).fStr).length:Int))))],1⟩,⟨[],rI .i64 0,0⟩,⟨[0],rv undef,2⟩,⟨[],rB false,0⟩] (rle [(3,_),(2,[.blk hf (Af (Ao v hb)) 70,.blk b2 [rI .i64 (max ha.fDepth ((hd.length:Int)+1)),rI .i64 (IntKind.wrap .i64 (ha.fBytes+hg)),rB (ha.fOutside||((decide (((Ao v hb).fKind)=3))&&(!(ov (AS ((Ao v hb).fInt)))))),rB (ha.fLong||(decide (200<(((Ao v hb).fStr).length:Int))))] 95,.blk b1 [rI .i64 (max ha.fDepth ((hd.length:Int)+1)),rI .i64 (IntKind.wrap .i64 (ha.fBytes+hg)),rB (ha.fOutside||((decide (((Ao v hb).fKind)=3))&&(!(ov (AS ((Ao v hb).fInt)))))),rB (ha.fLong||(decide (200<(((Ao v hb).fStr).length:Int))))] 95,.row he 107 5 (List.map Al hd)])]) [2,4,3] ?_ ?_)
        ·refine of (Bc (i:=1) HR E7 rfl rfl rfl rfl) (oq (Am rfl) (H6 rfl (Jq (BJ (i:=2) E7 rfl rfl rfl (Bx.c rfl) rfl rfl (cs':=[rI .i64 (max ha.fDepth ((hd.length:Int)+1)),rI .i64 (IntKind.wrap .i64 (ha.fBytes+hg)),rB (ha.fOutside||((decide (((Ao v hb).fKind)=3))&&(!(ov (AS ((Ao v hb).fInt)))))),rB (ha.fLong||(decide (200<(((Ao v hb).fStr).length:Int))))]) rfl (H':=[.blk hf (Af (Ao v hb)) 70,.blk b2 [rI .i64 (max ha.fDepth ((hd.length:Int)+1)),rI .i64 (IntKind.wrap .i64 (ha.fBytes+hg)),rB (ha.fOutside||((decide (((Ao v hb).fKind)=3))&&(!(ov (AS ((Ao v hb).fInt)))))),rB (ha.fLong||(decide (200<(((Ao v hb).fStr).length:Int))))] 95,.blk b1 [rI .i64 (max ha.fDepth ((hd.length:Int)+1)),rI .i64 (IntKind.wrap .i64 (ha.fBytes+hg)),rB (ha.fOutside||((decide (((Ao v hb).fKind)=3))&&(!(ov (AS ((Ao v hb).fInt)))))),rB (ha.fLong||(decide (200<(((Ao v hb).fStr).length:Int))))] 95,.row he 107 5 (List.map Al hd)]) rfl)) ?_));refine oq (Am rfl) ?_;exact Ee
        refine Bb (A5 (Ak (Ak (AB (Ak (Ak (Bv ?_)))))));have gz:=C5 gy hx hy;refine AB (Ak (EY ?_));obtain rfl:=A8 gz;exact A4 (OU LQ (AX rfl) (H0 (i:=2) HR E7 rfl rfl rfl) (AX rfl)) (sS (sS (sS (sS sN)))) ⟨rfl,rfl⟩
       ·have g0:=AO hB hN;refine AD (Bb (At (wm rfl (wv (Ae B4 rfl Iy rfl rfl) (wv (Az (i:=0) Iz rfl rfl rfl) (wv (Bw rfl rfl) (wv (Ae B4 rfl CV rfl rfl) (wv (Az (i:=0) Dr rfl rfl rfl) (wv (Ae B4 rfl Iy rfl rfl) (wv (Az (i:=0) Iz rfl rfl rfl) (wv (Bw rfl rfl) (wv (r:=Ba [rB (decide (((Ao v hb).fKind)=6)),rI .i64 ((Ao v hb).fN),rB (decide (((Ao v hb).fKind)=6)),rS ([]:Ai),rB false]) (G3 rfl rfl rfl rfl rfl rfl) (C3 (ys:=([(An.mk (decide (((Ao v hb).fKind)=6)) ((Ao v hb).fN) (decide (((Ao v hb).fKind)=6)) ([]:Ai) false)]:List An)) (enc:=Al) (css:=[[rB (decide (((Ao v hb).fKind)=6)),rI .i64 ((Ao v hb).fN),rB (decide (((Ao v hb).fKind)=6)),rS ([]:Ai),rB false]]) (xs:=[.tmp 139]) DK IX Tryd.zeroValue107 rfl rfl rfl ⟨Or.agg ⟨Up.refl _,Up.refl _,Up.refl _,Up.refl _,Up.refl _,trivial⟩,trivial⟩ rfl DO rfl rfl rfl (λg1=>?_))))))))))))));obtain⟨g2,g3⟩:=AM g0;obtain⟨inf,hinf⟩:=NK;refine EZ (xs:=hd) (ys:=([(An.mk (decide (((Ao v hb).fKind)=6)) ((Ao v hb).fN) (decide (((Ao v hb).fKind)=6)) ([]:Ai) false)]:List An)) (enc:=Al) (i:=4) DK hinf.1 hinf.2.1 hinf.2.2.1 hinf.2.2.2 rfl rfl rfl rfl rfl (Ng.w (i:=0) rfl rfl) DO GT g2 rfl (λhO=>?_);exact wa rfl (A3 (B0 (AC (Bk (Et (H2:=[.blk b2 [rI .i64 (max ha.fDepth ((hd.length:Int)+1)),rI .i64 (IntKind.wrap .i64 (ha.fBytes+hg)),rB (ha.fOutside||((decide (((Ao v hb).fKind)=3))&&(!(ov (AS ((Ao v hb).fInt)))))),rB (ha.fLong||(decide (200<(((Ao v hb).fStr).length:Int))))] 95,.blk b1 [rI .i64 0,rI .i64 0,rB false,rB false] 95,.row hO 107 5 (List.map Al (hd++([(An.mk (decide (((Ao v hb).fKind)=6)) ((Ao v hb).fN) (decide (((Ao v hb).fKind)=6)) ([]:Ai) false)]:List An))),.row (.slice (some ⟨g1,0,none⟩) 1 1) 107 5 (List.map Al ([(An.mk (decide (((Ao v hb).fKind)=6)) ((Ao v hb).fN) (decide (((Ao v hb).fKind)=6)) ([]:Ai) false)]:List An)),.blk hf (Af (Ao v hb)) 70]) ((Ax (i:=3) rfl).trans (Qb _ ((Ax (i:=3) rfl).trans (Qb _ (PY _))))) (A0 (AK ((hd++([(An.mk (decide (((Ao v hb).fKind)=6)) ((Ao v hb).fN) (decide (((Ao v hb).fKind)=6)) ([]:Ai) false)]:List An),(As.mk (max ha.fDepth ((hd.length:Int)+1)) (IntKind.wrap .i64 (ha.fBytes+hg)) (ha.fOutside||((decide (((Ao v hb).fKind)=3))&&(!(ov (AS ((Ao v hb).fInt)))))) (ha.fLong||(decide (200<(((Ao v hb).fStr).length:Int)))))),hO) g3 (AJ.c rfl (AJ.c rfl (AJ.c5 rfl rfl rfl rfl rfl AJ.nil))) (sC (sC (sC (sS (sS sN))))))))))))
      ·have g4:=AO hA hL;refine AD (Bb (At (wm rfl ?_)));obtain⟨hu,g5,hP⟩:=AL g4;refine DS (Hr:=[.blk hf (Af (Ao v hb)) 70,.blk b2 [rI .i64 (max ha.fDepth ((hd.length:Int)+1)),rI .i64 (IntKind.wrap .i64 (ha.fBytes+hg)),rB (ha.fOutside||((decide (((Ao v hb).fKind)=3))&&(!(ov (AS ((Ao v hb).fInt)))))),rB (ha.fLong||(decide (200<(((Ao v hb).fStr).length:Int))))] 95,.blk b1 [rI .i64 0,rI .i64 0,rB false,rB false] 95]) Tryd.call69 (Lb F he hd hu g5) rfl ((Ax (i:=3) rfl).trans (Qb _ (PY _))) rfl ?_;rintro _ _ ⟨h0,rfl,rfl⟩;refine wa rfl (C2 (wm rfl (wv (BI (ys:=hu) (enc:=Al) (i:=0) DK rfl rfl) (wv (Bw rfl rfl) (A3 (A7 (b:=decide ((hu.length:Int)=0)) rfl (λhC=>?_) (λhC=>?_)))))))
       ·have g6:=AN hC hP;refine Ay ?_;obtain⟨g7,g8⟩:=AM g6;refine DY (H1:=[.row h0 107 5 (List.map Al hu),.blk hf (Af (Ao v hb)) 70,.blk b2 [rI .i64 (max ha.fDepth ((hd.length:Int)+1)),rI .i64 (IntKind.wrap .i64 (ha.fBytes+hg)),rB (ha.fOutside||((decide (((Ao v hb).fKind)=3))&&(!(ov (AS ((Ao v hb).fInt)))))),rB (ha.fLong||(decide (200<(((Ao v hb).fStr).length:Int))))] 95,.blk b1 [rI .i64 (max ha.fDepth ((hd.length:Int)+1)),rI .i64 (IntKind.wrap .i64 (ha.fBytes+hg)),rB (ha.fOutside||((decide (((Ao v hb).fKind)=3))&&(!(ov (AS ((Ao v hb).fInt)))))),rB (ha.fLong||(decide (200<(((Ao v hb).fStr).length:Int))))] 95]) [3,5,7] [⟨[],rI .i64 hb,0⟩,⟨[0],rI .i64 (hb+1),0⟩,⟨[],Ba [rI .i64 (max ha.fDepth ((hd.length:Int)+1)),rI .i64 (IntKind.wrap .i64 (ha.fBytes+hg)),rB (ha.fOutside||((decide (((Ao v hb).fKind)=3))&&(!(ov (AS ((Ao v hb).fInt)))))),rB (ha.fLong||(decide (200<(((Ao v hb).fStr).length:Int))))],1⟩,⟨[1],rI .i64 (hb+1),0⟩,⟨[2],rv undef,2⟩,⟨[],rB true,0⟩] (rle [(5,_),(2,[.row h0 107 5 (List.map Al hu),.blk hf (Af (Ao v hb)) 70,.blk b2 [rI .i64 (max ha.fDepth ((hd.length:Int)+1)),rI .i64 (IntKind.wrap .i64 (ha.fBytes+hg)),rB (ha.fOutside||((decide (((Ao v hb).fKind)=3))&&(!(ov (AS ((Ao v hb).fInt)))))),rB (ha.fLong||(decide (200<(((Ao v hb).fStr).length:Int))))] 95,.blk b1 [rI .i64 (max ha.fDepth ((hd.length:Int)+1)),rI .i64 (IntKind.wrap .i64 (ha.fBytes+hg)),rB (ha.fOutside||((decide (((Ao v hb).fKind)=3))&&(!(ov (AS ((Ao v hb).fInt)))))),rB (ha.fLong||(decide (200<(((Ao v hb).fStr).length:Int))))] 95])]) [2,4,3] ?_ ?_
        ·refine oq (Aw rfl) (oq (Cf rfl rfl g7) (of (Bc (i:=2) HR E7 rfl rfl rfl rfl) (oq (Am rfl) (H6 rfl (Jq (BJ (i:=3) E7 rfl rfl rfl (Bx.c rfl) rfl rfl (cs':=[rI .i64 (max ha.fDepth ((hd.length:Int)+1)),rI .i64 (IntKind.wrap .i64 (ha.fBytes+hg)),rB (ha.fOutside||((decide (((Ao v hb).fKind)=3))&&(!(ov (AS ((Ao v hb).fInt)))))),rB (ha.fLong||(decide (200<(((Ao v hb).fStr).length:Int))))]) rfl (H':=[.row h0 107 5 (List.map Al hu),.blk hf (Af (Ao v hb)) 70,.blk b2 [rI .i64 (max ha.fDepth ((hd.length:Int)+1)),rI .i64 (IntKind.wrap .i64 (ha.fBytes+hg)),rB (ha.fOutside||((decide (((Ao v hb).fKind)=3))&&(!(ov (AS ((Ao v hb).fInt)))))),rB (ha.fLong||(decide (200<(((Ao v hb).fStr).length:Int))))] 95,.blk b1 [rI .i64 (max ha.fDepth ((hd.length:Int)+1)),rI .i64 (IntKind.wrap .i64 (ha.fBytes+hg)),rB (ha.fOutside||((decide (((Ao v hb).fKind)=3))&&(!(ov (AS ((Ao v hb).fInt)))))),rB (ha.fLong||(decide (200<(((Ao v hb).fStr).length:Int))))] 95]) rfl)) ?_))));refine oq (Am rfl) ?_;exact Ee
        refine Bb (A5 (AB (Ak (Ak (Bv ?_)))));have g9:=C5 g8 hx hy;refine AB (Ak (EY ?_));obtain rfl:=A8 g9;exact A4 (OU LQ (AX rfl) (H0 (i:=3) HR E7 rfl rfl rfl) (AX rfl)) (sS (sS (sS (sS sN)))) ⟨rfl,rfl⟩
       ·have gA:=AO hC hP;exact AD (AV (Et (H2:=[.blk b2 [rI .i64 (max ha.fDepth ((hd.length:Int)+1)),rI .i64 (IntKind.wrap .i64 (ha.fBytes+hg)),rB (ha.fOutside||((decide (((Ao v hb).fKind)=3))&&(!(ov (AS ((Ao v hb).fInt)))))),rB (ha.fLong||(decide (200<(((Ao v hb).fStr).length:Int))))] 95,.blk b1 [rI .i64 0,rI .i64 0,rB false,rB false] 95,.row h0 107 5 (List.map Al hu),.blk hf (Af (Ao v hb)) 70]) ((Ax (i:=2) rfl).trans (Qb _ ((Ax (i:=2) rfl).trans (Qb _ (PY _))))) (A0 (AK ((hu,(As.mk (max ha.fDepth ((hd.length:Int)+1)) (IntKind.wrap .i64 (ha.fBytes+hg)) (ha.fOutside||((decide (((Ao v hb).fKind)=3))&&(!(ov (AS ((Ao v hb).fInt)))))) (ha.fLong||(decide (200<(((Ao v hb).fStr).length:Int)))))),h0) gA (AJ.c rfl (AJ.c rfl (AJ.c5 rfl rfl rfl rfl rfl AJ.nil))) (sC (sC (sC (sS sN))))))))
   ·rintro⟨⟨hD,hE⟩,hG⟩ h2;refine Be (l':=[(0,Bl 4 (List.map Af v)),(3,rv (.pointer (some ⟨b1,0,none⟩))),(5,rv (.pointer (some ⟨b2,0,none⟩))),(6,rv hG),(11,Bl 4 (List.map Af v)),(12,rI .i64 (v.length:Int)),(13,rI .i64 hb)]) (H':=[.blk b2 (A2 hE) 95,.blk b1 [rI .i64 0,rI .i64 0,rB false,rB false] 95,.row hG 107 5 (List.map Al hD)]) rfl rfl ?_;replace h2:Ce hb hD hE=some h4:=h2;unfold Ce at h2;refine Au ?_;obtain⟨gB,gC⟩:=AM h2;refine wv (Cf rfl rfl gB) (wm rfl (Ar ?_));have gD:=BG gC hx;exact A0 (AK (hT,(hD,hb+1,hE),hG) ⟨gD,Q0 _⟩ (AJ.c rfl (AJ.c rfl (AJ.c5 rfl rfl rfl rfl rfl AJ.nil))) (sC (sC (sC sN))))
  ·have gE:=AO h5 hz;refine B0 (AC ?_);have gF:=Dg gE hx hy;exact AC (Bs (AK (ha,()) gF (AJ.c rfl (AJ.c rfl AJ.nil)) (sC (sC (sS sN)))))
 ·rintro⟨hq,⟨⟩⟩ h3;refine DL (l':=[(3,rv (.pointer (some ⟨b1,0,none⟩))),(5,rv (.pointer (some ⟨b2,0,none⟩)))]) (H':=[.blk b2 (A2 hq) 95,.blk b1 [rI .i64 0,rI .i64 0,rB false,rB false] 95]) rfl rfl ?_;replace h3:Ga hq=some r:=h3;unfold Ga at h3;refine Bk (Bb (Ay (DY (H1:=[.blk b2 (A2 hq) 95,.blk b1 (A2 hq) 95]) [3,5] [⟨[],Ba (A2 hq),1⟩,⟨[],rI .i64 0,0⟩,⟨[0],rv undef,2⟩,⟨[],rB false,0⟩] (rle [(3,_),(2,[.blk b2 (A2 hq) 95,.blk b1 (A2 hq) 95])]) [2,4,3] ?_ ?_)))
  ·refine of (Bc (i:=0) HR E7 rfl rfl rfl rfl) (oq (Am rfl) (H6 rfl (Jq (BJ (i:=1) E7 rfl rfl rfl (Bx.c rfl) rfl rfl (cs':=[rI .i64 hq.fDepth,rI .i64 hq.fBytes,rB hq.fOutside,rB hq.fLong]) rfl (H':=[.blk b2 (A2 hq) 95,.blk b1 (A2 hq) 95]) rfl)) ?_));refine oq (Am rfl) ?_;exact Ee
  refine Bb (A5 (EY ?_));obtain rfl:=A8 h3;exact A4 (OU LQ (AX rfl) (H0 (i:=1) HR E7 rfl rfl rfl) (AX rfl)) (sS (sS sN)) ⟨rfl,rfl⟩
theorem LZ (F:Nat)(v:(List Ac))(r:Int)(h:Hu F v=some r):Fn Tryd.prog GE 45 [Bl 4 (List.map Af v)] [] (λR H=>R=rI .i64 r∧H=[]):=by
 refine enter (n:=42) Tryd.func45 rfl Tryd.ntmps45 rfl (λw Z=>?_);refine Be (l':=[(0,Bl 4 (List.map Af v))]) (H':=[]) rfl rfl ?_;unfold Hu at h;refine At (wv (r:=rI .i64 0) (Am rfl) (C2 (wm rfl ?_)));obtain⟨r1,e3,h2⟩:=AL h;refine GX Tryd.call59 (Nq F v r1 e3) rfl (wm rfl (wv (Bh rfl rfl) (wv (Bh rfl rfl) (wv (Bh rfl rfl) (C4 (cs:=[rI .i64 0,rI .i64 0,rB false,rB false]) Ou rfl rfl (λb4=>?_))))));refine wa rfl (B1 (i:=0) E7 rfl rfl rfl (Bx.c rfl) rfl rfl (cs':=[rI .i64 r1.2.1.fDepth,rI .i64 r1.2.1.fBytes,rB r1.2.1.fOutside,rB r1.2.1.fLong]) rfl (H':=[.blk b4 (A2 r1.2.1) 95]) rfl (wa rfl (A3 (Ay (AP (AH [(0,Bl 4 (List.map Af v)),(4,rv (.pointer (some ⟨b4,0,none⟩))),(12,rB ((!r1.2.2)||(!decide (r1.1=(v.length:Int)))))] [.blk b4 (A2 r1.2.1) 95] ?_ ?_))))))
 ·refine Au (wm rfl (wv (BQ rfl) (wm rfl (AG (!r1.2.2) (λc5=>?_) (λc5=>?_)))))
  ·refine wf c5 (wf c5 (wf c5 (wf c5 (wv (r:=rB true) (Ap (b:=!r1.2.2) rfl c5 rfl) (wa rfl (Ar ?_))))));exact CM c5
  ·refine wo c5 (wm rfl (wo c5 (wm rfl (wo c5 (wv (Br (ys:=v) (enc:=Af) DW rfl) (wo c5 (wv (Dt rfl rfl) (Hn rfl c5 rfl (wa rfl (Ar ?_))))))))));exact CM c5
 refine A7 (b:=((!r1.2.2)||(!decide (r1.1=(v.length:Int))))) rfl (λc6=>?_) (λc6=>?_)
 ·have h7:=AN c6 h2;refine At (wv (r:=rI .i64 1) (Am rfl) (A3 (A5 (AB (Ak ?_)))));obtain rfl:=A8 h7;exact A4 (B7 Nk (AX rfl)) (sS sN) ⟨rfl,rfl⟩
 ·have h8:=AO c6 h2;refine At (wv (Ae Dw rfl Er rfl rfl) (wv (Az (i:=0) LT rfl rfl rfl) (wa rfl (A3 (A7 (b:=r1.2.1.fOutside) rfl (λc9=>?_) (λc9=>?_))))))
  ·have hg:=AN c9 h8;refine At (wv (r:=rI .i64 2) (Am rfl) (A3 (A5 (AB (Ak ?_)))));obtain rfl:=A8 hg;exact A4 (B7 Nk (AX rfl)) (sS sN) ⟨rfl,rfl⟩
  ·have hf:=AO c9 h8;refine AH [(24,rB (r1.2.1.fLong||((decide (200<(v.length:Int)))||((decide (8<r1.2.1.fDepth))||(decide (4000<r1.2.1.fBytes))))))] [] ?_ ?_
   ·refine Au (wv (Ae Dw rfl Er rfl rfl) (wv (Az (i:=0) LT rfl rfl rfl) (wm rfl (AG (r1.2.1.fLong) (λha=>?_) (λha=>?_)))))
    ·refine wf ha (wf ha (wf ha (wv (r:=rB true) (Ap (b:=r1.2.1.fLong) rfl ha rfl) (wm rfl (Aj (b:=true) rfl rfl rfl rfl (Aj (b:=true) rfl rfl rfl rfl (Aj (b:=true) rfl rfl rfl rfl (wv (r:=rB true) (Ap (b:=true) rfl rfl rfl) (wm rfl (Aj (b:=true) rfl rfl rfl rfl (Aj (b:=true) rfl rfl rfl rfl (Aj (b:=true) rfl rfl rfl rfl (wv (r:=rB true) (Ap (b:=true) rfl rfl rfl) (wa rfl (Ar ?_)))))))))))))));exact CM ha
    ·refine wo ha (wm rfl (wo ha (wv (Br (ys:=v) (enc:=Af) DW rfl) (wo ha (wv (DE rfl rfl) (Hn rfl ha rfl (wm rfl (AG (decide (200<(v.length:Int))) (λhb=>?_) (λhb=>?_)))))))))
     ·refine wf hb (wf hb (wf hb (wv (r:=rB true) (Ap (b:=decide (200<(v.length:Int))) rfl hb rfl) (wm rfl (Aj (b:=true) rfl rfl rfl rfl (Aj (b:=true) rfl rfl rfl rfl (Aj (b:=true) rfl rfl rfl rfl (wv (r:=rB true) (Ap (b:=true) rfl rfl rfl) (wa rfl (Ar ?_))))))))));exact CM (And.intro ha hb)
     ·refine wo hb (wv (Ae Dw rfl CV rfl rfl) (wo hb (wv (Az (i:=0) Dr rfl rfl rfl) (wo hb (wv (DE rfl rfl) (Hn rfl hb rfl (wm rfl (AG (decide (8<r1.2.1.fDepth)) (λhd=>?_) (λhd=>?_)))))))))
      ·refine wf hd (wf hd (wf hd (wv (r:=rB true) (Ap (b:=decide (8<r1.2.1.fDepth)) rfl hd rfl) (wa rfl (Ar ?_)))));exact CM (And.intro ha (And.intro hb hd))
      ·refine wo hd (wv (Ae Dw rfl CV rfl rfl) (wo hd (wv (Az (i:=0) Dr rfl rfl rfl) (wo hd (wv (DE rfl rfl) (Hn rfl hd rfl (wa rfl (Ar ?_))))))));exact CM (And.intro ha (And.intro hb hd))
   refine A7 (b:=(r1.2.1.fLong||((decide (200<(v.length:Int)))||((decide (8<r1.2.1.fDepth))||(decide (4000<r1.2.1.fBytes)))))) rfl (λhe=>?_) (λhe=>?_)
   ·have hh:=AN he hf;refine At (wv (r:=rI .i64 3) (Am rfl) (A3 (A5 (AB (Ak ?_)))));obtain rfl:=A8 hh;exact A4 (B7 Nk (AX rfl)) sN ⟨rfl,rfl⟩
   ·have hi:=AO he hf;refine AD (AV (Bb (At (wv (r:=rI .i64 0) (Am rfl) (A3 (A5 ?_))))));obtain rfl:=A8 hi;exact A4 (B7 Nk (AX rfl)) sN ⟨rfl,rfl⟩
end Go.Proofs.YtkoiaconljdbeaaDoor.Q
namespace Go.Proofs.YtkoiaconljdbeaaDoor
open Go
set_option linter.unusedVariables false
end Go.Proofs.YtkoiaconljdbeaaDoor
namespace Go.Proofs.YtkoiaconljdbeaaDoor.Q
open Go Go.RowKit
set_option linter.unusedVariables false
set_option linter.unusedSimpArgs false
set_option maxRecDepth 100000
set_option maxHeartbeats 4000000
end Go.Proofs.YtkoiaconljdbeaaDoor.Q
namespace Go.Proofs.YtkoiaconljdbeaaDoor
open Go
set_option linter.unusedVariables false
end Go.Proofs.YtkoiaconljdbeaaDoor
namespace Go.Proofs.YtkoiaconljdbeaaDoor.Q
open Go Go.RowKit
set_option linter.unusedVariables false
set_option linter.unusedSimpArgs false
set_option maxRecDepth 100000
set_option maxHeartbeats 4000000
end Go.Proofs.YtkoiaconljdbeaaDoor.Q
namespace Go.Proofs.YtkoiaconljdbeaaDoor
open Go
set_option linter.unusedVariables false
end Go.Proofs.YtkoiaconljdbeaaDoor
namespace Go.Proofs.YtkoiaconljdbeaaDoor.Q
open Go Go.RowKit
set_option linter.unusedVariables false
set_option linter.unusedSimpArgs false
set_option maxRecDepth 100000
set_option maxHeartbeats 4000000
end Go.Proofs.YtkoiaconljdbeaaDoor.Q
namespace Go.Proofs.YtkoiaconljdbeaaDoor
open Go
set_option linter.unusedVariables false
end Go.Proofs.YtkoiaconljdbeaaDoor
namespace Go.Proofs.YtkoiaconljdbeaaDoor.Q
open Go Go.RowKit
set_option linter.unusedVariables false
set_option linter.unusedSimpArgs false
set_option maxRecDepth 100000
set_option maxHeartbeats 4000000
end Go.Proofs.YtkoiaconljdbeaaDoor.Q
namespace Go.Proofs.YtkoiaconljdbeaaDoor
open Go
set_option linter.unusedVariables false
set_option linter.unusedSimpArgs false
section
variable {T S : Type}
def Bf:List (Ai×T)→Ai→Option T
 | [],_=>none
 | p::r,k=>bif decide (p.1=k) then some p.2 else Bf r k
def A6 (xs:List (Ai×T))(k:Ai)(z:T):T:=(Bf xs k).getD z
def C8 (xs:List (Ai×T))(k:Ai):Bool:=(Bf xs k).isSome
def mins (k:Ai)(v:T):List (Ai×T)→List (Ai×T)
 | []=>[(k,v)]
 | p::r=>bif Bj k p.1 then(k,v)::p::r else p::mins k v r
def mput (xs:List (Ai×T))(k:Ai)(v:T):List (Ai×T):=xs.map λp=>bif decide (p.1=k) then(k,v) else p
def mset (xs:List (Ai×T))(k:Ai)(v:T):List (Ai×T):=bif C8 xs k then mput xs k v else mins k v xs
def mdel (xs:List (Ai×T))(k:Ai):List (Ai×T):=xs.filter λp=>!decide (p.1=k)
def AI (f:T→S)(xs:List (Ai×T)):List (Ai×S):=xs.map λp=>(p.1,f p.2)
theorem Eg (f:T→S):∀(xs:List (Ai×T)) (k:Ai),Bf (AI f xs) k=(Bf xs k).map f
 | [],k=>rfl
 | p::r,k=>by
  show(bif decide (p.1=k) then some (f p.2) else Bf (AI f r) k)=_;rw[Bf,Eg f r k]
  cases decide (p.1=k)<;>rfl
theorem MC (f:T→S)(xs:List (Ai×T))(k:Ai):C8 (AI f xs) k=C8 xs k:=by
 unfold C8;rw[Eg];cases Bf xs k<;>rfl
theorem Jx (f:T→S)(k:Ai)(v:T):∀xs:List (Ai×T),AI f (mins k v xs)=mins k (f v) (AI f xs)
 | []=>rfl
 | p::r=>by
  show AI f (bif Bj k p.1 then(k,v)::p::r else p::mins k v r)=(bif Bj k p.1 then(k,f v)::(p.1,f p.2)::AI f r else(p.1,f p.2)::mins k (f v) (AI f r));rw[← Jx f k v r]
  cases Bj k p.1<;>rfl
theorem M9 (f:T→S)(xs:List (Ai×T))(k:Ai)(v:T):AI f (mset xs k v)=mset (AI f xs) k (f v):=by
 unfold mset;rw[MC]
 cases C8 xs k with
 | false=>exact Jx f k v xs
 | true=>
  show AI f (mput xs k v)=mput (AI f xs) k (f v);unfold AI mput;rw[QD,QD];refine List.map_congr_left λp _=>?_;show _=(bif decide (p.1=k) then(k,f v) else(p.1,f p.2));simp only[Function.comp]
  cases decide (p.1=k)<;>rfl
theorem MD (f:T→S)(xs:List (Ai×T))(k:Ai):AI f (mdel xs k)=mdel (AI f xs) k:=by
 unfold AI mdel;rw[List.filter_map];rfl
theorem Eh (f:T→S)(xs:List (Ai×T)):(AI f xs).length=xs.length:=by simp[AI]
theorem G4 (k:Ai)(v:T):∀xs:List (Ai×T),(mins k v xs).Perm ((k,v)::xs)
 | []=>PY _
 | p::r=>by
  rw[mins]
  cases Bj k p.1 with
  | true=>exact PY _
  | false=>exact((G4 k v r).cons p).trans (List.Perm.swap _ _ _)
def CW (x:T):List T→List (List T)
 | []=>[[x]]
 | y::r=>(x::y::r)::(CW x r).map (y::·)
def ED:List T→List (List T)
 | []=>[[]]
 | x::r=>(ED r).flatMap (CW x)
theorem GK (x:T):∀(a b:List T),a++x::b∈CW x (a++b)
 | [],[]=>by simp[CW]
 | [],y::b=>by simp[CW]
 | y::a,b=>by
  simp only[List.cons_append,CW,QA,List.mem_map];exact .inr ⟨_,GK x a b,rfl⟩
theorem Il:∀(xs ys:List T),ys.Perm xs→ys∈ED xs
 | [],ys,h=>by rw[h.eq_nil];simp[ED]
 | x::r,ys,h=>by
  have hx:x∈ys:=h.symm.subset (List.mem_cons_self ..);obtain⟨a,b,rfl⟩:=List.append_of_mem hx;have h2:(a++b).Perm r:=(List.perm_middle.symm.trans h).cons_inv;simp only[ED,List.mem_flatMap];exact⟨a++b,Il r _ h2,GK x a b⟩
def Lt {R:Type}[DecidableEq R](xs:List T)(K:List T→Option R):Option R:=match K xs with
 | none=>none
 | some r=>bif (ED xs).all (λp=>decide (K p=some r)) then some r else none
theorem MB {R:Type}[DecidableEq R]{xs:List T}{K:List T→Option R}{r:R}(h:Lt xs K=some r):∀p:List T,p.Perm xs→K p=some r:=λp hp=>by
 unfold Lt at h
 cases hk:K xs with
 | none=>rw[hk] at h;cases h
 | some q=>
  rw[hk] at h;simp only at h
  cases ha:(ED xs).all (λp=>decide (K p=some q)) with
  | false=>rw[ha] at h;cases h
  | true=>
   rw[ha] at h;cases h;exact of_decide_eq_true (List.all_eq_true.1 ha p (Il xs p hp))
theorem D4 (x:T):∀(xs ys:List T),ys∈CW x xs→ys.Perm (x::xs)
 | [],ys,h=>by simp[CW] at h;rw[h]
 | y::r,ys,h=>by
  simp only[CW,QA,List.mem_map] at h;rcases h with rfl | ⟨z,hz,rfl⟩
  ·exact PY _
  ·exact((D4 x r z hz).cons y).trans (List.Perm.swap _ _ _)
theorem H5:∀(xs ys:List T),ys∈ED xs→ys.Perm xs
 | [],ys,h=>by simp[ED] at h;rw[h]
 | x::r,ys,h=>by
  simp only[ED,List.mem_flatMap] at h;obtain⟨z,hz,hy⟩:=h;exact(D4 x z ys hy).trans ((H5 r z hz).cons x)
theorem MA {R:Type}[DecidableEq R]{xs:List T}{K:List T→Option R}{r:R}(h:∀p:List T,p.Perm xs→K p=some r):Lt xs K=some r:=by
 unfold Lt;rw[h xs (PY _)];have:(ED xs).all (λp=>decide (K p=some r))=true:=List.all_eq_true.2 λp hp=>Qg (h p (H5 xs p hp));simp only[this];rfl
def KI {St O:Type}(body:T→St→Option (Stp St (Out O St))):List T→St→Option (Out O St)
 | [],s=>some (.go s)
 | x::r,s=>match body x s with
  | none=>none
  | some (.next s')=>KI body r s'
  | some (.out o)=>some o
def Pv {St R:Type}(body:T→St→Option (Stp St (Out R St)))(ys:List T)(K:St→Option R)(r:R):Stp St (Out R St)→Prop
 | .next s'=>∀q:List T,q.Perm ys→B9 (KI body q s') (C7 K)=some r
 | .out o=>C7 K o=some r
theorem Pd {St R:Type}{body:T→St→Option (Stp St (Out R St))}{ys ys':List T}{p:T}{s:St}{K:St→Option R}{r:R}(h:∀q:List T,q.Perm ys→B9 (KI body q s) (C7 K)=some r)(hp:ys.Perm (p::ys')):∃t,body p s=some t∧Pv body ys' K r t:=by
 have h1:∀q:List T,q.Perm ys'→B9 (KI body (p::q) s) (C7 K)=some r:=λq hq=>h _ ((hq.cons p).trans hp.symm)
 cases hb:body p s with
 | none=>
  have:=h1 ys' (PY _);rw[KI,hb] at this;cases this
 | some t=>
  refine⟨t,rfl,?_⟩
  cases t with
  | next s'=>
   intro q hq;have:=h1 q hq;rw[KI,hb] at this;exact this
  | out o=>
   have:=h1 ys' (PY _);rw[KI,hb] at this;exact this
theorem NG {St R:Type}{body:T→St→Option (Stp St (Out R St))}{ys:List T}{s:St}{K:St→Option R}{r:R}(h:∀q:List T,q.Perm ys→B9 (KI body q s) (C7 K)=some r)(hy:ys=[]):K s=some r:=by
 subst hy;exact h [] (PY _)
theorem L2 {St R:Type}{body:T→St→Option (Stp St (Out R St))}{ys:List T}{s':St}{K:St→Option R}{r:R}{t:Stp St (Out R St)}(h:some (Stp.next s')=some t)(ht:Pv body ys K r t):∀q:List T,q.Perm ys→B9 (KI body q s') (C7 K)=some r:=by cases h;exact ht
theorem N4 {ys ys':List T}{p:T}(h:ys.Perm (p::ys')):ys'.length<ys.length:=by rw[h.length_eq];exact Q0 _
end
section
variable {T S : Type}
def Ec (lt:T→T→Bool)(x:T):List T→List T
 | []=>[x]
 | y::r=>bif lt y x then y::Ec lt x r else x::y::r
def srt (lt:T→T→Bool):List T→List T
 | []=>[]
 | x::r=>Ec lt x (srt lt r)
theorem BX (lt:T→T→Bool)(x:T):∀xs:List T,(Ec lt x xs).Perm (x::xs)
 | []=>PY _
 | y::r=>by
  rw[Ec]
  cases lt y x with
  | true=>exact((BX lt x r).cons y).trans (List.Perm.swap _ _ _)
  | false=>exact PY _
theorem Ea (lt:T→T→Bool):∀xs:List T,(srt lt xs).Perm xs
 | []=>PY _
 | x::r=>(BX lt x _).trans ((Ea lt r).cons x)
def D3 (lt:T→T→Bool):List T→Bool
 | []=>true
 | x::r=>r.all (λy=>lt x y||lt y x)&&D3 lt r
structure Oe (lt:T→T→Bool):Prop where
 irrefl:∀x,lt x x=false
 ntrans:∀x y z,lt x y=false→lt y z=false→lt x z=false
 asym:∀x y,lt x y=true→lt y x=false
theorem EM {lt:T→T→Bool}:∀{xs:List T},D3 lt xs=true→xs.Pairwise λx y=>(lt x y||lt y x)=true
 | [],_=>List.Pairwise.nil
 | x::r,h=>by
  simp only[D3,Qa,Qp] at h;exact List.pairwise_cons.2 ⟨λy hy=>h.1 y hy,EM h.2⟩
theorem Jo {R:T→T→Prop}(hs:∀x y,R x y→R y x):∀{xs:List T},xs.Pairwise R→∀a b,a∈xs→b∈xs→a=b∨R a b
 | [],_,a,b,h,_=>by cases h
 | x::r,h,a,b,ha,hb=>by
  rw[List.pairwise_cons] at h;rcases List.mem_cons.1 ha with e | ha1
  ·rcases List.mem_cons.1 hb with e2 | hb1
   ·exact .inl (e.trans e2.symm)
   ·exact .inr (e▸h.1 b hb1)
  ·rcases List.mem_cons.1 hb with e2 | hb1
   ·exact .inr (hs _ _ (e2▸h.1 a ha1))
   ·exact Jo hs h.2 a b ha1 hb1
theorem Eb {lt:T→T→Bool}(L:Oe lt)(x:T):∀{xs:List T},(xs.Pairwise λx y=>lt y x=false)→(Ec lt x xs).Pairwise λx y=>lt y x=false
 | [],_=>List.pairwise_singleton _ _
 | y::r,h=>by
  rw[List.pairwise_cons] at h;rw[Ec]
  cases hy:lt y x with
  | true=>
   refine List.pairwise_cons.2 ⟨λz hz=>?_,Eb L x h.2⟩;rcases List.mem_cons.1 ((BX lt x r).subset hz) with e | h1
   ·rw[e];exact L.asym _ _ hy
   ·exact h.1 z h1
  | false=>
   refine List.pairwise_cons.2 ⟨λz hz=>?_,List.pairwise_cons.2 h⟩;rcases List.mem_cons.1 hz with e | h1
   ·rw[e];exact hy
   ·exact L.ntrans _ _ _ (h.1 z h1) hy
theorem EK {lt:T→T→Bool}(L:Oe lt):∀xs:List T,(srt lt xs).Pairwise λx y=>lt y x=false
 | []=>List.Pairwise.nil
 | x::r=>Eb L x (EK L r)
theorem JW {lt:T→T→Bool}(L:Oe lt){xs ys:List T}(hd:D3 lt xs=true)(hp:ys.Perm xs)(hs:ys.Pairwise λx y=>lt y x=false):ys=srt lt xs:=by
 refine List.Perm.eq_of_pairwise (le:=λx y=>lt y x=false) ?_ hs (EK L xs) (hp.trans (Ea lt xs).symm);intro a b ha hb h2 h3;have hb':b∈xs:=(Ea lt xs).subset hb;rcases Jo (R:=λx y=>(lt x y||lt y x)=true) (λx y h=>by rw[Bool.or_comm];exact h) (EM hd) a b (hp.subset ha) hb' with h | h
 ·exact h
 ·rw[h2,h3] at h;cases h
theorem JX {lt:T→T→Bool}{xs ys:List T}(hd:D3 lt xs=true)(hp:ys.Perm xs):D3 lt ys=true:=by
 have h1:=(hp.symm.pairwise_iff (R:=λx y=>(lt x y||lt y x)=true) (fun {x y} h=>by rw[Bool.or_comm];exact h)).1 (EM hd);clear hd hp
 induction ys with
 | nil=>rfl
 | cons x r ih=>
  rw[List.pairwise_cons] at h1;simp only[D3,Qa,Qp];exact⟨h1.1,ih h1.2⟩
theorem Lg {lt:T→T→Bool}(L:Oe lt){xs ys:List T}(hd:D3 lt xs=true)(hp:ys.Perm xs):srt lt ys=srt lt xs:=JW L hd ((Ea lt ys).trans hp) (EK L ys)
inductive All2 (R:T→S→Prop):List T→List S→Prop
 | nil:All2 R [] []
 | cons {x y xs ys}:R x y→All2 R xs ys→All2 R (x::xs) (y::ys)
theorem All2.length {R:T→S→Prop}{xs:List T}{ys:List S}(h:All2 R xs ys):xs.length=ys.length:=by
 induction h with
 | nil=>rfl
 | cons _ _ ih=>simp[ih]
theorem All2.perm {R:T→S→Prop}{ys zs:List S}(hp:ys.Perm zs):∀{xs:List T},All2 R xs ys→∃xs',xs'.Perm xs∧All2 R xs' zs:=by
 induction hp with
 | nil=>intro xs h;exact⟨xs,PY _,h⟩
 | cons a _ ih=>
  intro xs h
  cases h with
  | cons h1 h2=>obtain⟨x',p,h3⟩:=ih h2;exact⟨_,p.cons _,.cons h1 h3⟩
 | swap a b l=>
  intro xs h
  cases h with
  | cons h1 h2=>cases h2 with
   | cons h3 h4=>exact⟨_,List.Perm.swap _ _ _,.cons h3 (.cons h1 h4)⟩
 | trans _ _ ih1 ih2=>
  intro xs h;obtain⟨x1,p1,h1⟩:=ih1 h;obtain⟨x2,p2,h2⟩:=ih2 h1;exact⟨x2,p2.trans p1,h2⟩
theorem All2.pairwise {R:T→S→Prop}{p:T→T→Prop}{q:S→S→Prop}(hpq:∀x x' y y',R x y→R x' y'→q y y'→p x x'){xs:List T}{ys:List S}(h:All2 R xs ys):ys.Pairwise q→xs.Pairwise p:=by
 have key:∀{xs:List T} {ys:List S},All2 R xs ys→∀x∈xs,∃y∈ys,R x y:=fun {xs ys} h=>by
  induction h with
  | nil=>intro x hx;cases hx
  | cons h1 _ ih=>
   intro x hx;rcases List.mem_cons.1 hx with rfl | hx
   ·exact⟨_,List.mem_cons_self ..,h1⟩
   ·obtain⟨y,hy,hr⟩:=ih x hx;exact⟨y,List.mem_cons_of_mem _ hy,hr⟩
 induction h with
 | nil=>intro _;exact List.Pairwise.nil
 | cons h1 h2 ih=>
  intro hq;rw[List.pairwise_cons] at hq ⊢;refine⟨λx' hx'=>?_,ih hq.2⟩;obtain⟨y',hy',hr⟩:=key h2 x' hx';exact hpq _ _ _ _ h1 hr (hq.1 y' hy')
end
theorem EL:∀a:Ai,Bj a a=false
 | []=>rfl
 | x::a=>by
  show Op.bytesLess (x::a) (x::a)=false;have h : ¬ x<x:=λh=>absurd h (by simp);have ih:Op.bytesLess a a=false:=EL a;simp[Op.bytesLess,h,ih]
theorem I5 (x y:UInt8)(a b:Ai):Bj (x::a) (y::b)=(decide (x<y)||(decide (x=y)&&Bj a b)):=by
 show Op.bytesLess (x::a) (y::b)=_;simp only[Op.bytesLess]
 by_cases h:x<y
 ·simp[h]
 ·by_cases e:x=y
  ·subst e;simp[h]
  ·have:y<x:=by
    rcases Nat.lt_trichotomy x.toNat y.toNat with h1 | h1 | h1
    ·exact absurd (UInt8.lt_iff_toNat_lt.2 h1) h
    ·exact absurd (UInt8.toNat_inj.1 h1) e
    ·exact UInt8.lt_iff_toNat_lt.2 h1
   simp[h,e,this]
theorem D2:∀{a b c:Ai},Bj a b=true→Bj b c=true→Bj a c=true
 | [],[],_,h,_=>by cases h
 | [],_::_,[],_,h=>by cases h
 | [],_::_,_::_,_,_=>rfl
 | _::_,[],_,h,_=>by cases h
 | _::_,_::_,[],_,h=>by cases h
 | x::a,y::b,z::c,h,h'=>by
  rw[I5] at h h' ⊢;simp only[QH,PW,Qa] at h h' ⊢;have t:∀{u v:UInt8},u<v↔u.toNat<v.toNat:=UInt8.lt_iff_toNat_lt;rcases h with h | ⟨rfl,h⟩
  ·rcases h' with h' | ⟨rfl,h'⟩
   ·exact .inl (t.2 (Nat.lt_trans (t.1 h) (t.1 h')))
   ·exact .inl h
  ·rcases h' with h' | ⟨rfl,h'⟩
   ·exact .inl h'
   ·exact .inr ⟨rfl,D2 h h'⟩
theorem Gg:∀(a b:Ai),Bj a b=true∨a=b∨Bj b a=true
 | [],[]=>.inr (.inl rfl)
 | [],_::_=>.inl rfl
 | _::_,[]=>.inr (.inr rfl)
 | x::a,y::b=>by
  rw[I5,I5];simp only[QH,PW,Qa];rcases Nat.lt_trichotomy x.toNat y.toNat with h1 | h1 | h1
  ·exact .inl (.inl (UInt8.lt_iff_toNat_lt.2 h1))
  ·have e:=UInt8.toNat_inj.1 h1;subst e;rcases Gg a b with h | rfl | h
   ·exact .inl (.inr ⟨rfl,h⟩)
   ·exact .inr (.inl rfl)
   ·exact .inr (.inr (.inr ⟨rfl,h⟩))
  ·exact .inr (.inr (.inl (UInt8.lt_iff_toNat_lt.2 h1)))
theorem Mm {a b:Ai}(h:Bj a b=true):Bj b a=false:=by
 cases h':Bj b a with
 | false=>rfl
 | true=>have:=D2 h h';rw[EL] at this;cases this
theorem OX {a b:Ai}(h:Bj a b=true):a≠b:=λe=>by subst e;rw[EL] at h;cases h
section
variable {T : Type}
def Ms (xs:List (Ai×T)):Prop:=xs.Pairwise λp q=>Bj p.1 q.1=true
theorem Ms.nil:Ms ([]:List (Ai×T)):=List.Pairwise.nil
theorem Ms.nodup {xs:List (Ai×T)}(h:Ms xs):(xs.map (·.1)).Nodup:=by
 rw[List.Nodup,List.pairwise_map];exact h.imp λhpq=>OX hpq
theorem DF {xs:List (Ai×T)}{k:Ai}:Bf xs k=none↔∀p∈xs,p.1≠k:=by
 induction xs with
 | nil=>simp[Bf]
 | cons p r ih=>
  rw[Bf]
  by_cases h:p.1=k
  ·rw[Qg h];simp[h]
  ·rw[Qe h];simp[h,ih]
theorem CK {xs:List (Ai×T)}{k:Ai}{v:T}(h:Bf xs k=some v):(k,v)∈xs:=by
 induction xs with
 | nil=>cases h
 | cons p r ih=>
  rw[Bf] at h
  by_cases e:p.1=k
  ·rw[Qg e] at h;cases h;subst e;exact List.mem_cons_self ..
  ·rw[Qe e] at h;exact List.mem_cons_of_mem _ (ih h)
theorem Ef {xs:List (Ai×T)}{k:Ai}{v:T}(hn:(xs.map (·.1)).Nodup)(h:(k,v)∈xs):Bf xs k=some v:=by
 induction xs with
 | nil=>cases h
 | cons p r ih=>
  rw[Qz,List.nodup_cons] at hn;rw[Bf];rcases List.mem_cons.1 h with h | h
  ·subst h;rw[Qg rfl];rfl
  ·have hne : ¬ p.1=k:=λe=>hn.1 (by rw[e];exact List.mem_map.2 ⟨(k,v),h,rfl⟩);rw[Qe hne];exact ih hn.2 h
theorem Lx (xs:List (Ai×T))(k k':Ai)(v:T):Bf (mput xs k v) k'=bif decide (k'=k) then(Bf xs k).map (λ_=>v) else Bf xs k':=by
 induction xs with
 | nil=>cases decide (k'=k)<;>rfl
 | cons p r ih=>
  show Bf ((bif decide (p.1=k) then(k,v) else p)::mput r k v) k'=_
  by_cases h:p.1=k
  ·rw[Qg h];simp only[Qj,Bf]
   by_cases e:k'=k
   ·subst e;rw[Qg rfl,h,Qg rfl];rfl
   ·rw[Qe (Ne.symm e),Qe e,ih,Qe e,h,Qe (Ne.symm e)];rfl
  ·rw[Qe h];simp only[Qc,Bf];rw[ih]
   by_cases e:k'=k
   ·subst e;rw[Qg rfl,Qe h];rfl
   ·rw[Qe e]
    cases decide (p.1=k')<;>rfl
theorem Ly (xs:List (Ai×T))(k k':Ai)(v:T)(h:Bf xs k=none):Bf (mins k v xs) k'=bif decide (k'=k) then some v else Bf xs k':=by
 induction xs with
 | nil=>
  show(bif decide (k=k') then some v else none)=bif decide (k'=k) then some v else none
  by_cases e:k'=k
  ·rw[Qg e,Qg e.symm]
  ·rw[Qe e,Qe (Ne.symm e)]
 | cons p r ih=>
  rw[Bf] at h
  by_cases hk:p.1=k
  ·rw[Qg hk] at h;cases h
  ·rw[Qe hk] at h;rw[mins]
   cases Bj k p.1 with
   | true=>
    simp only[Qj,Bf]
    by_cases e:k'=k
    ·subst e;rw[Qg rfl]
     try rfl
    ·rw[Qe e,Qe (Ne.symm e)]
     try rfl
   | false=>
    simp only[Qc,Bf];rw[ih h]
    by_cases e:k'=k
    ·subst e;rw[Qg rfl,Qe hk];rfl
    ·rw[Qe e]
     cases decide (p.1=k')<;>rfl
theorem Lw (xs:List (Ai×T))(k k':Ai)(v:T):Bf (mset xs k v) k'=bif decide (k'=k) then some v else Bf xs k':=by
 unfold mset C8
 cases h:Bf xs k with
 | none=>exact Ly xs k k' v h
 | some w=>
  simp only[Option.isSome_some,Qj];rw[Lx,h]
  cases decide (k'=k)<;>rfl
theorem Jz {k:Ai}{v:T}{q:Ai×T}:∀{xs:List (Ai×T)},q∈mins k v xs→q=(k,v)∨q∈xs
 | [],h=>by simp[mins] at h;exact .inl h
 | p::r,h=>by
  rw[mins] at h
  cases hs:Bj k p.1 with
  | true=>rw[hs] at h;simpa using h
  | false=>
   rw[hs] at h;rcases List.mem_cons.1 h with h | h
   ·exact .inr (by rw[h];exact List.mem_cons_self ..)
   ·rcases Jz h with h | h
    ·exact .inl h
    ·exact .inr (List.mem_cons_of_mem _ h)
theorem Ms.mins {k:Ai}{v:T}:∀{xs:List (Ai×T)},Ms xs→Bf xs k=none→Ms (mins k v xs)
 | [],_,_=>List.pairwise_singleton ..
 | p::r,h,hk=>by
  obtain⟨h1,h2⟩:=List.pairwise_cons.1 h;rw[Bf] at hk
  by_cases e:p.1=k
  ·rw[Qg e] at hk;cases hk
  ·rw[Qe e] at hk;rw[Proofs.YtkoiaconljdbeaaDoor.mins]
   cases hs:Bj k p.1 with
   | true=>exact List.pairwise_cons.2 ⟨λq hq=>by
     rcases List.mem_cons.1 hq with rfl | hq
     ·exact hs
     ·exact D2 hs (h1 q hq),h⟩
   | false=>
    have hp:Bj p.1 k=true:=by
     rcases Gg p.1 k with h | h | h
     ·exact h
     ·exact absurd h e
     ·rw[h] at hs;cases hs
    exact List.pairwise_cons.2 ⟨λq hq=>by
     rcases Jz hq with rfl | hq
     ·exact hp
     ·exact h1 q hq,Ms.mins h2 hk⟩
theorem Ms.mput {xs:List (Ai×T)}(h:Ms xs)(k:Ai)(v:T):Ms (mput xs k v):=by
 unfold Proofs.YtkoiaconljdbeaaDoor.mput;unfold Ms;rw[List.pairwise_map];refine h.imp fun {p q} hpq=>?_;have e:∀p:Ai×T,(bif decide (p.1=k) then(k,v) else p).1=p.1:=λp=>by
  by_cases hp:p.1=k
  ·rw[Qg hp];exact hp.symm
  ·rw[Qe hp];rfl
 rw[e,e];exact hpq
theorem Ms.mset {xs:List (Ai×T)}(h:Ms xs)(k:Ai)(v:T):Ms (mset xs k v):=by
 unfold Proofs.YtkoiaconljdbeaaDoor.mset C8
 cases hk:Bf xs k with
 | none=>exact h.mins hk
 | some w=>exact h.mput k v
theorem Ms.mdel {xs:List (Ai×T)}(h:Ms xs)(k:Ai):Ms (mdel xs k):=h.sublist (List.filter_sublist ..)
theorem Ms.ext:∀{xs ys:List (Ai×T)},Ms xs→Ms ys→(∀k,Bf xs k=Bf ys k)→xs=ys
 | [],[],_,_,_=>rfl
 | [],q::s,_,_,h=>by
  have:=h q.1;rw[Bf,Bf,Qg rfl] at this;cases this
 | p::r,[],_,_,h=>by
  have:=h p.1;rw[Bf,Bf,Qg rfl] at this;cases this
 | p::r,q::s,hx,hy,h=>by
  obtain⟨x1,x2⟩:=List.pairwise_cons.1 hx;obtain⟨y1,y2⟩:=List.pairwise_cons.1 hy;have hpq:p.1=q.1:=by
   have a1:=h p.1;have a2:=h q.1;rw[Bf,Qg rfl] at a1;rw[show Bf (q::s) q.1=bif decide (q.1=q.1) then some q.2 else Bf s q.1 from rfl,Qg rfl] at a2;simp only[Qj] at a1 a2;have m1:=CK a1.symm;have m2:=CK a2;rcases List.mem_cons.1 m1 with e | m1
   ·exact congrArg Prod.fst e
   ·rcases List.mem_cons.1 m2 with e | m2
    ·exact(congrArg Prod.fst e).symm
    ·have c1:=y1 _ m1;have c2:=x1 _ m2;have:=D2 c1 c2;rw[EL] at this;cases this
  have e:p=q:=by
   have a1:=h p.1;rw[Bf,Qg rfl,Bf,Qg hpq.symm] at a1;simp only[Qj,Option.some.injEq] at a1;exact Prod.ext hpq a1
  subst e;rw[Ms.ext x2 y2 λk=>by
   have a1:=h k;rw[Bf,Bf] at a1
   by_cases e:p.1=k
   ·have n1:Bf r k=none:=DF.2 λz hz e'=>by have:=x1 z hz;rw[e',← e,EL] at this;cases this
    have n2:Bf s k=none:=DF.2 λz hz e'=>by have:=y1 z hz;rw[e',← e,EL] at this;cases this
    rw[n1,n2]
   ·rw[Qe e] at a1;exact a1]
end
def BN (n1 n2:Int)(s1 s2:Ai):Bool:=decide (n1<n2)||(decide (n1=n2)&&Bj s1 s2)
theorem In {n1 n2:Int}{s1 s2:Ai}:BN n1 n2 s1 s2=true↔n1<n2∨(n1=n2∧Bj s1 s2=true):=by
 unfold BN;simp
theorem Hd {n1 n2:Int}{s1 s2:Ai}:BN n1 n2 s1 s2=false↔¬ n1<n2∧(n1=n2→Bj s1 s2=false):=by
 unfold BN;simp
theorem Im (n:Int)(s:Ai):BN n n s s=false:=Hd.2 ⟨Int.lt_irrefl n,λ_=>EL s⟩
theorem Lh {a b c:Ai}(h1:Bj a b=false)(h2:Bj b c=false):Bj a c=false:=by
 cases h:Bj a c with
 | false=>rfl
 | true=>
  rcases Gg a b with h3 | h3 | h3
  ·rw[h3] at h1;cases h1
  ·subst h3;rw[h] at h2;cases h2
  ·have:=D2 h3 h;rw[this] at h2;cases h2
theorem Gq {n1 n2 n3:Int}{s1 s2 s3:Ai}(h1:BN n1 n2 s1 s2=false)(h2:BN n2 n3 s2 s3=false):BN n1 n3 s1 s3=false:=by
 rw[Hd] at *;refine⟨by omega,λe=>?_⟩;have e1:n1=n2:=by omega
 have e2:n2=n3:=by omega
 exact Lh (h1.2 e1) (h2.2 e2)
theorem J2 {n1 n2 n3:Int}{s1 s2 s3:Ai}(h1:BN n1 n2 s1 s2=true)(h2:BN n2 n3 s2 s3=true):BN n1 n3 s1 s3=true:=by
 rw[In] at *;rcases h1 with h1 | ⟨e1,h1⟩
 ·rcases h2 with h2 | ⟨e2,h2⟩
  ·exact .inl (by omega)
  ·exact .inl (by omega)
 ·rcases h2 with h2 | ⟨e2,h2⟩
  ·exact .inl (by omega)
  ·exact .inr ⟨by omega,D2 h1 h2⟩
theorem Ki {n1 n2:Int}{s1 s2:Ai}(h:BN n1 n2 s1 s2=true):BN n2 n1 s2 s1=false:=by
 rw[In] at h;rw[Hd];rcases h with h | ⟨e,h⟩
 ·exact⟨by omega,λe=>by omega⟩
 ·exact⟨by omega,λ_=>Mm h⟩
theorem J3 {n1 n2:Int}{s1 s2:Ai}(h1:BN n1 n2 s1 s2=false)(h2:BN n2 n1 s2 s1=false):n1=n2∧s1=s2:=by
 rw[Hd] at *;have e:n1=n2:=by omega
 refine⟨e,?_⟩;rcases Gg s1 s2 with h | h | h
 ·rw[h1.2 e] at h;cases h
 ·exact h
 ·rw[h2.2 e.symm] at h;cases h
theorem Kh {T:Type}(n:T→Int)(s:T→Ai):Oe λx y=>BN (n x) (n y) (s x) (s y):=⟨λx=>Im _ _,λx y z h1 h2=>Gq h1 h2,λx y h=>Ki h⟩
structure Ab where
 fID:Ai
 fAt:Int
 fTenant:Ai
 fSource:Ai
 fBody:(List Ac)
 deriving DecidableEq,Inhabited
def HI (ys:(List Ac)):Option ((List Ac)):=
 BC (NL 40 (([]:List Ac).length+ys.length))<|some (([]:List Ac)++ys)
def DM (n:Int):Option (Bool):=
 some ((decide (0≤n))&&(decide (n≤1073741824)))
def Hy (F:Nat)(t:Ab):Option (Int):=
 BA (!(MO t.fID)) (some 4) (B9 (DM t.fAt) λr5=>BA (!r5) (some 2) (BA (((!(Ct t.fTenant))||(!(Ct t.fSource)))) (some 4) (B9 (Hu F t.fBody) λha=>some ha)))
def Le (t:Ab):Option (Ab):=
 B9 (HI t.fBody) λr3=>some (Ab.mk t.fID t.fAt t.fTenant t.fSource r3)
end Go.Proofs.YtkoiaconljdbeaaDoor
namespace Go.Proofs.YtkoiaconljdbeaaDoor.Q
open Go Go.RowKit
set_option linter.unusedVariables false
set_option linter.unusedSimpArgs false
def Kq (ops:List Oper)(N:Nat):Bool:=
 let cl:=HJ ops []
 (List.range ops.length).all (λi=>(CG (ops.getD i default)).all (·<i))&&
 (List.range ops.length).all (λi=>i<N||(List.range i).all (λj=>(cl.getD i 0).testBit j))
section
variable {P : Program} {Q : Exit → Act → World → Prop}
theorem JG {listed:Array Bool}{len m:Nat}(hs:listed.size=len)(hm:m≤len)(h:∀j,j<len→(listed.getD j true=true↔j<m)):listed.toList.count false=len-m:=by
 have:listed.toList=List.replicate m true++List.replicate (len-m) false:=by
  apply List.ext_getElem
  ·simp[hs];omega
  ·intro j h1 h2;have hj:j<len:=by simpa[hs] using h1
   have:=h j hj;rw[Array.getD_eq_getD_getElem?,Array.getElem?_eq_getElem (by omega)] at this;simp only[Q7] at this;rw[Array.getElem_toList,List.getElem_append]
   split
   ·rename_i h3
    simp at h3;simp[this.2 h3]
   ·rename_i h3
    simp at h3;simp only[List.getElem_replicate]
    cases hb:listed[j] with
    | false=>rfl
    | true=>have:=this.1 hb;omega
 rw[this];simp[List.count_append,List.count_replicate]
theorem KO {listed:Array Bool}{j:Nat}(h:j<listed.size)(d d':Bool):listed.getD j d=listed.getD j d':=by
 simp[Array.getD_eq_getD_getElem?,Array.getElem?_eq_getElem h]
theorem HK {ops:List Oper}{listed:Array Bool}{i:Nat}{o:Oper}(ho:ops[i]? =some o)(hb:∀e∈CG o,listed.getD e true=true)
  (hcl:∀j o,ops[j]? =some o→listed.getD j true=true→∀e∈CG o,listed.getD e true=true) (j:Nat) (h:((HJ ops []).getD i 0).testBit j=true):j=i∨listed.getD j true=true:=
 D7 ops (λk=>k=i∨listed.getD k true=true) ops [] (λt o' ht e he hF=>by
  rcases hF with hF | hF
  ·simp at hF;subst hF;rw[ho] at ht;simp at ht;subst ht;exact .inr (hb e he)
  ·exact .inr (hcl t o' ht (by simpa using hF) e he)) (λj i hb=>by simp at hb) i j h (.inl rfl)
theorem EO {ops:List Oper}{listed:Array Bool}{i:Nat}(hsz:listed.size=ops.length)(hlt:∀i,i<ops.length→∀e∈CG (ops.getD i default),e<i)(h:i∈Region.ready .any ops.toArray listed) :
  listed.getD i true=false∧i<ops.length∧∃o,ops[i]? =some o∧∀e∈CG o,listed.getD e true=true:=by
 obtain⟨h1,o,ho,h2⟩:=mem_ready.1 h;have ho':ops[i]? =some o:=by simpa using ho
 have hil:=(List.getElem?_eq_some_iff.1 ho').1;refine⟨h1,hil,o,ho',λe he=>?_⟩;have hei:=hlt i hil e (by rw[Qd,ho'];exact he);simp only[CG,List.mem_map,List.mem_filter] at he;obtain⟨x,⟨hx1,hx2⟩,rfl⟩:=he;have h3:=h2 x (by simpa using hx1) hx2;rw[KO (by omega) true false];exact h3
theorem EE {ops:List Oper}{listed:Array Bool}(hsz:listed.size=ops.length)(hlt:∀i,i<ops.length→∀e∈CG (ops.getD i default),e<i)(h:Region.ready .any ops.toArray listed=[]) :
  ∀j,j<ops.length→listed.getD j true=true:=by
 intro j
 induction j using Nat.strongRecOn with
 | ind j ih=>
  intro hj
  cases hb:listed.getD j true with
  | true=>rfl
  | false=>
   have:j∈Region.ready .any ops.toArray listed:=mem_ready.2 ⟨hb,ops[j],by simp[hj],λe he hbn=>by
    have hel:e.on<j:=hlt j hj e.on (by
     rw[Qd,PZ hj];simp only[CG,Q7,List.mem_map,List.mem_filter];exact⟨e,⟨by simpa using he,hbn⟩,rfl⟩)
    rw[KO (by omega) false true];exact ih e.on hel (by omega)⟩
   rw[h] at this;cases this
theorem Ha {listed:Array Bool}{i j:Nat}(hi:i<listed.size):(listed.setIfInBounds i true).getD j true=true↔(j=i∨listed.getD j true=true):=by
 by_cases hj:i=j
 ·subst hj;simp[hi]
 ·rw[getD_set_ne true hj];exact⟨.inr,λh=>h.elim (λh=>absurd h.symm hj) id⟩
theorem Li {listed:Array Bool}{i fuel:Nat}(hi:i<listed.size)(hun:listed.getD i true=false)(hc:listed.toList.count false=fuel+1):(listed.setIfInBounds i true).toList.count false=fuel:=by
 have hfi:listed.toList[i]? =some false:=by
  rw[Array.getD_eq_getD_getElem?,Array.getElem?_eq_getElem hi] at hun;simp at hun;simp[hi,hun]
 rw[Array.toList_setIfInBounds];have h1:=List.count_set (a:=true) (b:=false) (l:=listed.toList) (i:=i) (by simpa using hi);have h2:listed.toList[i]'(by simpa using hi)=false:=by
  have:=List.getElem?_eq_some_iff.1 hfi;exact this.2
 rw[h1,h2,hc];rfl
theorem GD {ops:List Oper}{N:Nat}(hlt:∀i,i<ops.length→∀e∈CG (ops.getD i default),e<i)
  (hch:∀i,N≤i→i<ops.length→∀j,j<i→((HJ ops []).getD i 0).testBit j=true):∀(k m:Nat) (listed:Array Bool) (a:Act) (w:World),m+k=ops.length→N≤m→listed.size=ops.length→
   (∀j,j<ops.length→(listed.getD j true=true↔j<m))→(∀j o,ops[j]? =some o→listed.getD j true=true→∀e∈CG o,listed.getD e true=true)→wpList P ops.toArray Q (ops.drop m) a w→wpAny P .any ops.toArray Q k listed a w
 | 0,m,listed,a,w,hk,hN,hsz,hl,hcl,h=>by
  refine⟨?_,?_⟩
  ·cases hr:Region.ready .any ops.toArray listed with
   | nil=>rfl
   | cons i r=>
    obtain⟨h1,h2,_⟩:=EO hsz hlt (i:=i) (by rw[hr];simp);rw[(hl i h2).2 (by omega)] at h1;cases h1
  ·rw[List.drop_of_length_le (by omega)] at h;exact h
 | k+1,m,listed,a,w,hk,hN,hsz,hl,hcl,h=>by
  refine⟨λhr=>?_,λi hi=>?_⟩
  ·have:=(hl m (by omega)).1 (EE hsz hlt hr m (by omega));omega
  ·obtain⟨h1,h2,o,ho,hb⟩:=EO hsz hlt hi;have him:i=m:=by
    have hmi : ¬ i<m:=λh'=>by rw[(hl i h2).2 h'] at h1;cases h1
    by_cases e:i=m
    ·exact e
    ·rcases HK ho hb hcl m (hch i (by omega) h2 m (by omega)) with h3 | h3
     ·exact h3.symm
     ·have:=(hl m (by omega)).1 h3;omega
   subst him;have hd:ops.drop i=o::ops.drop (i+1):=by
    rw[List.drop_eq_getElem_cons h2]
    congr 1
    exact(List.getElem?_eq_some_iff.1 ho).2
   rw[hd] at h;have ih:∀a' w',wpList P ops.toArray Q (ops.drop (i+1)) a' w'→wpAny P .any ops.toArray Q k (listed.setIfInBounds i true) a' w':=λa' w' h'=>by
    refine GD hlt hch k (i+1) _ a' w' (by omega) (by omega) (by simpa using hsz) (λj hj=>?_) (λj o' hj hlj e he=>?_) h'
    ·rw[Ha (by omega),hl j hj];omega
    ·rw[Ha (by omega)] at hlj ⊢;rcases hlj with rfl | hlj
     ·rw[ho] at hj;simp at hj;subst hj;exact .inr (hb e he)
     ·exact .inr (hcl j o' hj hlj e he)
   unfold wpOp;have hoA:ops.toArray[i]? =some o:=by simpa using ho
   simp only[hoA];simp only[wpList] at h
   split
   ·rename_i hw'
    rw[if_pos hw'] at h;exact h.imp (λh=>Oper.wp_mono ih h) (λh=>h)
   ·rename_i hw'
    rw[QE hw'] at h;exact ih _ _ h
theorem Ow {id:Nat}{ops:List Oper}{N:Nat}(hm:P.follows .mixedOrders=true)(hB:Kq ops N=true)(hN:N≤ops.length)(I:(Nat→Bool)→Act→World→Prop)
  (hext:∀S S' a w,(∀j,j<N→S j=S' j)→I S a w→I S' a w) {a:Act} {w:World} (h0:I (λ_=>false) a { w with drawn:=w.drawn+1 })
  (step:∀S i o a w,i<N→S i=false→ops[i]? =some o→(∀e∈CG o,e<i∧S e=true)→I S a w→∀K:Act→World→Prop,(∀a' w',I (λj=>j ==i||S j) a' w'→K a' w')→
   (Region.wanted o (yielded ops.toArray a.tmps)=true→o.wp P a w K Q)∧(Region.wanted o (yielded ops.toArray a.tmps)=false→K (a.put o.dst undef) w))
  (fin:∀a w,I (λ_=>true) a w→wpList P ops.toArray Q (ops.drop N) a w):(Code.region id ops.toArray true).wp P Q a w:=by
 simp only[Kq,Qa,Qp,List.mem_range,PW,QH] at hB;obtain⟨hlt,hch0⟩:=hB;have hch:∀i,N≤i→i<ops.length→∀j,j<i→((HJ ops []).getD i 0).testBit j=true:=λi h1 h2 j hj=>by
  rcases hch0 i h2 with h3 | h3
  ·omega
  ·exact h3 j hj
 refine wp_region_any hm ?_;have main:∀(fuel:Nat) (listed:Array Bool) (a:Act) (w:World),listed.size=ops.length→listed.toList.count false=fuel→I (λj=>listed.getD j true) a w→
   (∀j o,ops[j]? =some o→listed.getD j true=true→∀e∈CG o,listed.getD e true=true)→(∀j,N≤j→j<ops.length→listed.getD j true=false)→wpAny P .any ops.toArray Q fuel listed a w:=by
  intro fuel;have allin:∀(fuel:Nat) (listed:Array Bool) (a:Act) (w:World),listed.size=ops.length→listed.toList.count false=fuel→I (λj=>listed.getD j true) a w→
   (∀j o,ops[j]? =some o→listed.getD j true=true→∀e∈CG o,listed.getD e true=true)→(∀j,N≤j→j<ops.length→listed.getD j true=false)→(∀j,j<N→listed.getD j true=true)→wpAny P .any ops.toArray Q fuel listed a w:=by
   intro fuel listed a w hsz hc hI hcl hlast hall;have hl:∀j,j<ops.length→(listed.getD j true=true↔j<N):=λj hj=>by
    constructor
    ·intro h
     by_cases hjN:j<N
     ·exact hjN
     ·rw[hlast j (by omega) hj] at h;cases h
    ·exact hall j
   have:=JG hsz hN hl;refine GD hlt hch fuel N listed a w (by omega) (Ql _) hsz hl hcl (fin a w (hext _ _ a w (λj hj=>hall j hj) hI))
  induction fuel with
  | zero=>
   intro listed a w hsz hc hI hcl hlast;refine allin 0 listed a w hsz hc hI hcl hlast (λj hj=>?_)
   cases hb:listed.getD j true with
   | true=>rfl
   | false=>
    have:false∈listed.toList:=by
     rw[Array.getD_eq_getD_getElem?,Array.getElem?_eq_getElem (by omega)] at hb;simp at hb;rw[← hb];simp
    have:=List.count_pos_iff.2 this;omega
  | succ fuel ih=>
   intro listed a w hsz hc hI hcl hlast
   by_cases hall:∀j,j<N→listed.getD j true=true
   ·exact allin (fuel+1) listed a w hsz hc hI hcl hlast hall
   ·refine⟨λhr=>absurd (λj hj=>EE hsz hlt hr j (by omega)) hall,λi hi=>?_⟩;obtain⟨h1,h2,o,ho,hb⟩:=EO hsz hlt hi;have hiN:i<N:=by
     by_cases h:i<N
     ·exact h
     ·refine absurd (λj hj=>?_) hall;rcases HK ho hb hcl j (hch i (by omega) h2 j (by omega)) with h3 | h3
      ·omega
      ·exact h3
    have K':∀a' w',I (λj=>j ==i||listed.getD j true) a' w'→wpAny P .any ops.toArray Q fuel (listed.setIfInBounds i true) a' w':=λa' w' hI'=>by
     refine ih _ a' w' (by simpa using hsz) (Li (by omega) h1 hc) (hext _ _ a' w' (λj hj=>?_) hI') (λj o' hj hlj e he=>?_) (λj h3 h4=>?_)
     ·have:=Ha (listed:=listed) (i:=i) (j:=j) (by omega)
      cases hq:(listed.setIfInBounds i true).getD j true with
      | true=>
       rw[hq] at this;rcases this.1 rfl with h | h
       ·simp[h]
       ·simp[h]
      | false=>
       rw[hq] at this;have h5 : ¬ (j=i∨listed.getD j true=true):=λh=>by have:=this.2 h;cases this
       cases hz:listed.getD j true with
       | true=>exact absurd (.inr hz) h5
       | false=>
        have:j≠i:=λh=>h5 (.inl h);simp[this]
     ·rw[Ha (by omega)] at hlj ⊢;rcases hlj with rfl | hlj
      ·rw[ho] at hj;simp at hj;subst hj;exact .inr (hb e he)
      ·exact .inr (hcl j o' hj hlj e he)
     ·rw[getD_set_ne true (by omega)];exact hlast j h3 h4
    obtain⟨k1,k2⟩:=step _ i o a w hiN h1 ho (λe he=>⟨hlt i h2 e (by rw[Qd,ho];exact he),hb e he⟩) hI _ K';unfold wpOp;have hoA:ops.toArray[i]? =some o:=by simpa using ho
    simp only[hoA]
    split
    ·rename_i hw';exact .inl (k1 hw')
    ·rename_i hw';exact k2 (by simpa using hw')
 have e0:∀j,j<ops.length→(Array.replicate ops.length false).getD j true=false:=λj hj=>by simp[hj]
 have hsz0:ops.toArray.size=ops.length:=by simp
 rw[hsz0];refine main ops.length (Array.replicate ops.length false) a _ (by simp) (by simp) (hext _ _ _ _ (λj hj=>(e0 j (by omega)).symm) h0) (λj o hj hl=>?_) (λj _ h2=>e0 j h2);rw[e0 j (List.getElem?_eq_some_iff.1 hj).1] at hl;cases hl
end
structure Sa where
 deps:List Nat
 r:Rp
 al:Option (List Rp×TypeId):=none
 late:Option (Nat×List Rp):=none
 sto:Option Nat:=none
def CI (sp:List Sa)(i:Nat):Sa:=sp.getD i { deps:=[],r:=rv undef }
def Nc (sp:List Sa):List Sp:=sp.map λs=>⟨s.deps,s.r,0⟩
def Gz (β:Nat→Nat)(s:Sa)(i:Nat):Rp:=match s.al with
 | none=>s.r
 | some _=>rv (.pointer (some ⟨β i,0,none⟩))
def GA (S:Nat→Bool)(late:Option (Nat×List Rp))(cs:List Rp):List Rp:=match late with
 | none=>cs
 | some q=>if S q.1 then q.2 else cs
def CY (S:Nat→Bool)(β:Nat→Nat):List Sa→Nat→List Ent
 | [],_=>[]
 | s::r,t=>match s.al with
  | some p=>if S t then .blk (β t) (GA S s.late p.1) p.2::CY S β r (t+1) else CY S β r (t+1)
  | none=>CY S β r (t+1)
def L8 (β:Nat→Nat):List Sa→Nat→List Ent
 | [],_=>[]
 | s::r,t=>match s.al with
  | some p=>.blk (β t) (match s.late with | none=>p.1 | some q=>q.2) p.2::L8 β r (t+1)
  | none=>L8 β r (t+1)
def HN (β:Nat→Nat):List Oper→List Sa→Nat→Fr→Fr
 | o::os,s::sp,i,l=>match o.dst with
  | some d=>(d,Gz β s i)::HN β os sp (i+1) l
  | none=>HN β os sp (i+1) l
 | _,_,_,l=>l
theorem EV {S S':Nat→Bool}{late:Option (Nat×List Rp)}{cs:List Rp}(h:∀q,late=some q→S q.1=S' q.1):GA S late cs=GA S' late cs:=by
 unfold GA
 cases late with
 | none=>rfl
 | some q=>simp only[];rw[h q rfl]
theorem Cy (S:Nat→Bool)(β:Nat→Nat)(s:Sa)(r:List Sa)(t:Nat):CY S β (s::r) t=match s.al with
  | some p=>if S t then .blk (β t) (GA S s.late p.1) p.2::CY S β r (t+1) else CY S β r (t+1)
  | none=>CY S β r (t+1):=rfl
theorem Dk {S S':Nat→Bool}{β β':Nat→Nat}:∀(r:List Sa) (t0:Nat),(∀(t:Nat) (s:Sa),r[t]? =some s→s.al≠none→S (t0+t)=S' (t0+t)∧(S (t0+t)=true→β (t0+t)=β' (t0+t)∧∀q,s.late=some q→S q.1=S' q.1))→CY S β r t0=CY S' β' r t0
 | [],_,_=>rfl
 | s::r,t0,h=>by
  have ih:=Dk r (t0+1) (λt s hs hn=>by
   have:=h (t+1) s (by simpa using hs) hn;rw[show t0+1+t=t0+(t+1) from by omega];exact this)
  unfold CY;rw[ih]
  cases ha:s.al with
  | none=>rfl
  | some p=>
   obtain⟨h1,h2⟩:=h 0 s rfl (by rw[ha];exact nofun);simp only[Nat.add_zero] at h1 h2;simp only[];rw[← h1]
   split
   ·rename_i hS;rw[(h2 hS).1,EV (h2 hS).2]
   ·rfl
theorem JF (β:Nat→Nat):∀(r:List Sa) (t0:Nat),CY (λ_=>true) β r t0=L8 β r t0
 | [],_=>rfl
 | s::r,t0=>by
  unfold CY L8;rw[JF β r (t0+1)]
  cases s.al with
  | none=>rfl
  | some p=>cases hl:s.late<;>simp[GA,hl]
theorem Ip (β:Nat→Nat):∀(r:List Sa) (t0:Nat),CY (λ_=>false) β r t0=[]
 | [],_=>rfl
 | s::r,t0=>by
  unfold CY;rw[Ip β r (t0+1)]
  cases s.al<;>simp
theorem JE {S:Nat→Bool}{β:Nat→Nat}{i b:Nat}{p:List Rp×TypeId}:∀(r:List Sa) (t0 k:Nat) (s:Sa),i=t0+k→r[k]? =some s→s.al=some p→S i=false→(∀(t:Nat) (s:Sa) (q:Nat×List Rp),r[t]? =some s→s.al≠none→s.late=some q→q.1≠i)→(∀q,s.late=some q→S q.1=false∧q.1≠i)→
  (CY (λj=>j ==i||S j) (λj=>if j=i then b else β j) r t0).Perm (.blk b p.1 p.2::CY S β r t0)
 | [],_,_,_,_,h,_,_,_,_=>by simp at h
 | s'::r,t0,0,s,hi,h,ha,hS,hne,hl=>by
  simp at h hi;subst h;subst hi;have e:=Dk (S:=λj=>j ==i||S j) (S':=S) (β:=λj=>if j=i then b else β j) (β':=β) r (i+1) (λt s hs hn=>by
   have:i+1+t≠i:=by omega
   refine⟨by simp[this],λ_=>⟨by simp[this],λq hq=>?_⟩⟩;have:=hne (t+1) s q (by simpa using hs) hn hq;simp[this])
  have ec:GA (λj=>j ==i||S j) s'.late p.1=p.1:=by
   unfold GA
   cases hq:s'.late with
   | none=>rfl
   | some q=>
    obtain⟨h1,h2⟩:=hl q hq;simp[h1,h2]
  unfold CY;rw[e,ha];simp only[hS,BEq.rfl,Q2,if_true,ec];simp
 | s'::r,t0,k+1,s,hi,h,ha,hS,hne,hl=>by
  have ih:=JE (S:=S) (β:=β) (i:=i) (b:=b) (p:=p) r (t0+1) k s (by omega) (by simpa using h) ha hS (λt s q hs=>hne (t+1) s q (by simpa using hs)) hl;have hne0:t0≠i:=by omega
  have hne':(t0 ==i)=false:=by simpa using hne0
  unfold CY
  cases ha':s'.al with
  | none=>exact ih
  | some q=>
   simp only[hne',Qn,QE hne0];rw[EV (S:=λj=>j ==i||S j) (S':=S) (λq hq=>by
    have:=hne 0 s' q rfl (by rw[ha'];exact nofun) hq;simp[this])]
   cases hS':S t0 with
   | true=>simpa using(Qb _ ih).trans (List.Perm.swap _ _ _)
   | false=>simpa using ih
theorem JD {S:Nat→Bool}{β:Nat→Nat}{i j:Nat}{p:List Rp×TypeId}{ncs:List Rp}:∀(r:List Sa) (t0 k:Nat) (s:Sa),j=t0+k→r[k]? =some s→s.al=some p→s.late=some (i,ncs)→S j=true→S i=false→(∀(t:Nat) (s:Sa) (q:Nat×List Rp),r[t]? =some s→s.al≠none→s.late=some q→t0+t≠j→q.1≠i)→(∀(t:Nat) (s:Sa),r[t]? =some s→s.al≠none→t0+t≠i)→
  ∃H',(CY S β r t0).Perm (.blk (β j) p.1 p.2::H')∧(CY (λj=>j ==i||S j) β r t0).Perm (.blk (β j) ncs p.2::H')
 | [],_,_,_,_,h,_,_,_,_,_,_=>by simp at h
 | s'::r,t0,0,s,hj,h,ha,hl,hSj,hSi,hne,hni=>by
  simp at h hj;subst h;subst hj;have e:=Dk (S:=λx=>x ==i||S x) (S':=S) (β:=β) (β':=β) r (j+1) (λt s hs hn=>by
   have h1:=hni (t+1) s (by simpa using hs) hn;have h1':j+1+t≠i:=by omega
   refine⟨by simp[h1'],λ_=>⟨rfl,λq hq=>?_⟩⟩;have:=hne (t+1) s q (by simpa using hs) hn hq (by omega);simp[this])
  refine⟨CY S β r (j+1),?_,?_⟩
  ·rw[Cy];rw[ha];simp[hSj,GA,hl,hSi]
  ·rw[Cy];rw[ha,e];simp[hSj,GA,hl]
 | s'::r,t0,k+1,s,hj,h,ha,hl,hSj,hSi,hne,hni=>by
  obtain⟨H',h1,h2⟩:=JD (S:=S) (β:=β) (i:=i) (j:=j) (p:=p) (ncs:=ncs) r (t0+1) k s (by omega) (by simpa using h) ha hl hSj hSi (λt s q hs hn hq hx=>hne (t+1) s q (by simpa using hs) hn hq (by omega)) (λt s hs hn=>by
   have:=hni (t+1) s (by simpa using hs) hn;omega)
  cases ha':s'.al with
  | none=>exact⟨H',by rw[Cy,ha'];exact h1,by rw[Cy,ha'];exact h2⟩
  | some q=>
   have hi0:=hni 0 s' rfl (by rw[ha'];exact nofun);have hi0':(t0 ==i)=false:=by simpa using hi0
   have ec:GA (λx=>x ==i||S x) s'.late q.1=GA S s'.late q.1:=EV (λq hq=>by
    have:=hne 0 s' q rfl (by rw[ha'];exact nofun) hq (by omega);simp[this])
   cases hS':S t0 with
   | true=>
    refine⟨.blk (β t0) (GA S s'.late q.1) q.2::H',?_,?_⟩
    ·rw[Cy];rw[ha'];simpa[hS'] using(Qb _ h1).trans (List.Perm.swap _ _ _)
    ·rw[Cy];rw[ha'];simp only[hi0',Qn,hS',if_true,ec];exact(Qb _ h2).trans (List.Perm.swap _ _ _)
   | false=>
    refine⟨H',?_,?_⟩
    ·rw[Cy];rw[ha'];simpa[hS'] using h1
    ·rw[Cy];rw[ha'];simp only[hi0',Qn,hS'];simpa using h2
def PC (n:Nat)(ops:List Oper)(N:Nat)(keys:List Nat)(deps:List (List Nat))(als:List Bool)(lates stos:List (Option Nat)):Bool:=
 Kq ops N&&decide (N≤ops.length)&&
 (List.range N).all (λi=>match Cc ops i with
  | some d=>decide (d<n)&&!keys.contains d&&(List.range N).all (λj=>j ==i||Cc ops j !=some d)
  | none=>true)&&
 (List.range N).all (λi=>(deps.getD i []).all (λj=>decide (j<N)&&(CG (ops.getD i default)).contains j&&!als.getD j true))&&
 (List.range N).all (λi=>match stos.getD i none with
  | some j=>decide (j<N)&&(CG (ops.getD i default)).contains j&&als.getD j false&&!als.getD i true
  | none=>true)&&
 (List.range N).all (λj=>match lates.getD j none with
  | some k=>decide (k<N)&&als.getD j false&&stos.getD k none ==some j
  | none=>true)
def OS (P:Program)(n:Nat)(c:Cx)(opsA:Array Oper)(Q:Exit→Act→World→Prop)(o:Oper)(p:List Rp×TypeId):Prop:=
 ∀H a w Z (K:Act→World→Prop),St c H Z w→(∀b w',St c (.blk b p.1 p.2::H) Z w'→K (a.put o.dst (.pointer (some ⟨b,0,none⟩))) w')→
  Region.wanted o (yielded opsA a.tmps)=true∧o.wp P a w K Q
def Oo (P:Program)(n:Nat)(c:Cx)(opsA:Array Oper)(Q:Exit→Act→World→Prop)(ops:List Oper)(sp:List Sa)(l0:Fr)(H:List Ent)(i:Nat)(o:Oper):Prop:=
 match (CI sp i).sto with
 | some j=>o.dst=none∧∃d p ncs,Cc ops j=some d∧(CI sp j).al=some p∧(CI sp j).late=some (i,ncs)∧
   ∀b H,CO P n c opsA Q ((d,rv (.pointer (some ⟨b,0,none⟩)))::Bo ops (Nc sp) (CI sp i).deps l0) (.blk b p.1 p.2::H) o (rv undef) (.blk b ncs p.2::H)
 | none=>match (CI sp i).al with
  | none=>∀E,CO P n c opsA Q (Bo ops (Nc sp) (CI sp i).deps l0) (H++E) o (CI sp i).r (H++E)
  | some p=>OS P n c opsA Q o p
def Eq (P:Program)(n:Nat)(c:Cx)(opsA:Array Oper)(Q:Exit→Act→World→Prop)(ops:List Oper)(sp:List Sa)(l0:Fr)(H:List Ent):Nat→List Oper→Prop
 | i,o::rest=>Oo P n c opsA Q ops sp l0 H i o∧Eq P n c opsA Q ops sp l0 H (i+1) rest
 | _,[]=>True
section
variable {P : Program} {n : Nat} {c : Cx} {opsA : Array Oper} {Q : Exit → Act → World → Prop} {l l0 : Fr} {H : List Ent} {sp : List Sa}
theorem Eq.at {ops:List Oper}:∀{k:Nat} {rest:List Oper},Eq P n c opsA Q ops sp l0 H k rest→∀(t:Nat) o,rest[t]? =some o→Oo P n c opsA Q ops sp l0 H (k+t) o
 | k,o::rest,⟨h1,h2⟩,t,o',ht=>by
  cases t with
  | zero=>simp at ht;subst ht;exact h1
  | succ t=>
   have:=Eq.at h2 t o' (by simpa using ht);rw[show k+(t+1)=k+1+t from by omega];exact this
 | _,[],_,t,o,h=>by simp at h
theorem KT {β:Nat→Nat}{a:Act}{Z:Fz}(h0:B6 n l0 a Z):∀(os:List Oper) (ss:List Sa) (k:Nat),(∀(t:Nat) o s d,os[t]? =some o→ss[t]? =some s→o.dst=some d→∃v,a.tmps[d]? =some v∧(Gz β s (k+t)).p Z v)→B6 n (HN β os ss k l0) a Z
 | [],_,_,_=>by unfold HN;exact h0
 | _::_,[],_,_=>by unfold HN;exact h0
 | o::os,s::ss,k,h=>by
  have ih:=KT h0 os ss (k+1) (λt o' s' d h1 h2 h3=>by
   have:=h (t+1) o' s' d (by simpa using h1) (by simpa using h2) h3;rw[show k+1+t=k+(t+1) from by omega];exact this)
  unfold HN
  cases hd:o.dst with
  | none=>exact ih
  | some d=>
   refine⟨ih.size,ih.defers,λi r hi=>?_⟩;rw[Bp] at hi
   split at hi
   ·rename_i e;subst e;simp at hi;subst hi;exact h 0 o s d rfl rfl hd
   ·exact ih.tm i r hi
theorem Oy {id:Nat}{ops:List Oper}(N:Nat)(sp:List Sa)(hm:P.follows .mixedOrders=true)(hB:PC n ops N (Du l0) (sp.map (·.deps)) (sp.map (·.al.isSome)) (sp.map (·.late.map (·.1))) (sp.map (·.sto))=true)(hl0:NY l0 l)(hsp:sp.length=N)
  (hob:Eq P n c ops.toArray Q ops sp l0 H 0 (ops.take N)) (h:∀β,WL P n c ops.toArray Q (ops.drop N) (HN β (ops.take N) sp 0 l0) (H++L8 β sp 0)):WC P n c (.region id ops.toArray true) Q l H:=by
 intro a w Z ha hw;simp only[PC,Qa,Qp,List.mem_range,PW] at hB;obtain⟨⟨⟨⟨⟨b1,bN⟩,b2⟩,b3⟩,b4⟩,b5⟩:=hB;have hget:∀i,i<N→(ops.take N)[i]? =ops[i]?:=λi hi=>by rw[Q5,if_pos hi]
 have hsa:∀i,i<N→sp[i]? =some (CI sp i):=λi hi=>by
  simp[CI,Qd,PZ (show i<sp.length by omega)]
 have hspq:∀i,i<N→(Cd (Nc sp) i)=⟨(CI sp i).deps,(CI sp i).r,0⟩:=λi hi=>by
  simp[Cd,Nc,Qd,QF,hsa i hi]
 have hals:∀j b,j<N→(sp.map (·.al.isSome)).getD j b=(CI sp j).al.isSome:=λj b hj=>by simp[Qd,QF,hsa j hj]
 have hstos:∀j,j<N→(sp.map (·.sto)).getD j none=(CI sp j).sto:=λj hj=>by simp[Qd,QF,hsa j hj]
 have hlates:∀j,j<N→(sp.map (·.late.map (·.1))).getD j none=(CI sp j).late.map (·.1):=λj hj=>by simp[Qd,QF,hsa j hj]
 have S1:∀i o j,i<N→ops[i]? =some o→(CI sp i).sto=some j→j<N∧j∈CG o∧(CI sp j).al≠none∧(CI sp i).al=none:=λi o j hi ho hs=>by
  have h1:=b4 i hi;rw[hstos i hi,hs] at h1;simp only[Qa,Q9,PW] at h1;obtain⟨⟨⟨h2,h3⟩,h4⟩,h5⟩:=h1;rw[hals j _ h2] at h4;rw[hals i _ hi] at h5;rw[Qd,ho,Q7,List.contains_iff_mem] at h3;exact⟨h2,h3,λe=>(by rw[e] at h4;cases h4),(by simpa using h5)⟩
 have L1:∀t q,t<N→(CI sp t).late=some q→q.1<N∧(CI sp q.1).sto=some t:=λt q ht hq=>by
  have h1:=b5 t ht;rw[hlates t ht,hq] at h1;simp only[Option.map_some,Qa,PW,beq_iff_eq] at h1;obtain⟨⟨h2,h3⟩,h4⟩:=h1;rw[hstos _ h2] at h4;exact⟨h2,h4⟩
 have hops:∀j,j<N→∃o,ops[j]? =some o:=λj hj=>⟨ops[j]'(by omega),PZ (by omega)⟩
 have lt_of:∀(t:Nat) (s:Sa),sp[t]? =some s→t<N∧s=CI sp t:=λt s hs=>by
  have h1:t<N:=by have:=(List.getElem?_eq_some_iff.1 hs).1;omega
  refine⟨h1,?_⟩;rw[hsa t h1] at hs;simpa using hs.symm
 have hdst:∀i o d,i<N→ops[i]? =some o→o.dst=some d→(d<n∧d ∉ Du l0)∧∀j,j<N→j≠i→Cc ops j≠some d:=λi o d hi ho hd=>by
  have h3:=b2 i hi;have:Cc ops i=some d:=by simp[Cc,ho,hd]
  rw[this] at h3;simp only[Qa,Q9,Qp,List.mem_range,PW] at h3;refine⟨⟨h3.1.1,λhmem=>by rw[← List.contains_iff_mem] at hmem;rw[hmem] at h3;cases h3.1.2⟩,λj hj hne he=>?_⟩;have:=h3.2 j hj;simp[hne,he] at this
 refine Ow (N:=N) hm b1 bN (λS a w=>∃ (β:Nat→Nat) (Z:Fz),St c (H++CY S β sp 0) Z w∧B6 n l0 a Z∧(∀j o d,j<N→S j=true→ops[j]? =some o→o.dst=some d→∃v,a.tmps[d]? =some v∧(Gz β (CI sp j) j).p Z v)∧
   ∀k j,k<N→(CI sp k).sto=some j→S k=true→S j=true)
  (λS S' a w hS hI=>?_) ⟨λ_=>0,Z,?_,ha.subL hl0,λj o d _ hS=>(by cases hS),λk j _ _ hS=>(by cases hS)⟩ (λS i o a w hi hun ho hb hI K hK=>?_) (λa w hI=>?_)
 ·obtain⟨β,Z,h1,h2,h3,h4⟩:=hI;refine⟨β,Z,?_,h2,λj o d hj hS'=>h3 j o d hj (by rw[hS j hj];exact hS'),λk j hk hs hSk=>?_⟩
  ·rw[← Dk (S:=S) (β:=β) (β':=β) sp 0 (λt s hs _=>by
    obtain⟨ht,rfl⟩:=lt_of t s hs;exact⟨hS _ (by omega),λ_=>⟨rfl,λq hq=>hS _ (L1 t q ht hq).1⟩⟩)]
   exact h1
  ·obtain⟨o,ho⟩:=hops k hk;rw[← hS j (S1 k o j hk ho hs).1];exact h4 k j hk hs (by rw[hS k hk];exact hSk)
 ·rw[Ip,List.append_nil];exact hw.drawn _
 ·obtain⟨β,Z,h1,h2,h3,hx⟩:=hI;have hput:∀k u v,a.tmps[k]? =some u→o.dst≠some k→(a.put o.dst v).tmps[k]? =some u:=λk u v hk hne=>by
   cases hd:o.dst with
   | none=>simpa[Act.put] using hk
   | some d=>
    simp only[Act.put,Array.getElem?_setIfInBounds];rw[QE (λe=>hne (by rw[hd,e]))];exact hk
  have hagr:∀v Z',Fz.le Z Z'→B6 n l0 (a.put o.dst v) Z':=λv Z' hz=>by
   refine⟨?_,?_,λk r hk=>?_⟩
   ·cases o.dst<;>simp[Act.put,h2.size]
   ·cases o.dst<;>simp[Act.put,h2.defers]
   ·obtain⟨u,hu,hpu⟩:=h2.tm k r hk;exact⟨u,hput k u v hu (λe=>((hdst i o k hi ho e).1).2 (HB hk)),r.mono hz hpu⟩
  have hvals:∀(v:Value) (Z':Fz) (β':Nat→Nat),Fz.le Z Z'→(∀j,j≠i→β' j=β j)→(o.dst≠none→(Gz β' (CI sp i) i).p Z' v)→∀j o' d,j<N→(j ==i||S j)=true→ops[j]? =some o'→o'.dst=some d→∃u,(a.put o.dst v).tmps[d]? =some u∧(Gz β' (CI sp j) j).p Z' u:=by
   intro v Z' β' hz hβ hp j o' d hj hS' ho' hd
   by_cases hji:j=i
   ·subst hji;rw[ho] at ho';simp at ho';subst ho';refine⟨v,?_,hp (by simp[hd])⟩;have hdn:d<a.tmps.size:=by rw[h2.size];exact(hdst j o d hi ho hd).1.1
    simp[Act.put,hd,hdn]
   ·have hSj:S j=true:=by simpa[hji] using hS'
    obtain⟨u,hu,hpu⟩:=h3 j o' d hj hSj ho' hd;refine⟨u,hput d u v hu (λe=>(hdst i o d hi ho e).2 j hj hji (by simp[Cc,ho',hd])),?_⟩;have:Gz β' (CI sp j) j=Gz β (CI sp j) j:=by unfold Gz;rw[hβ j hji]
    rw[this];exact(Gz β (CI sp j) j).mono hz hpu
  have hx':∀k j,k<N→(CI sp k).sto=some j→(k ==i||S k)=true→(j ==i||S j)=true:=λk j hk hs hSk=>by
   by_cases hki:k=i
   ·subst hki;have:=(hb j (S1 k o j hk ho hs).2.1).2;simp[this]
   ·have:S j=true:=hx k j hk hs (by simpa[hki] using hSk);simp[this]
  have hat:=hob.at i o (by rw[hget i hi];exact ho);rw[Q1] at hat;unfold Oo at hat;have hag':B6 n (Bo ops (Nc sp) (CI sp i).deps l0) a Z:=Hg h2 (λj hj d hd=>by
    have h4:=b3 i hi j (by simpa[Qd,QF,hsa i hi] using hj);simp only[Qa,Q9,PW] at h4;obtain⟨⟨h5,h6⟩,h7⟩:=h4;rw[Qd,ho,Q7,List.contains_iff_mem] at h6;have hjal:(CI sp j).al=none:=by
     rw[hals j _ h5] at h7;simpa using h7
    obtain⟨o2,ho2⟩:=hops j h5;obtain⟨v,hv1,hv2⟩:=h3 j o2 d h5 (hb j h6).2 ho2 (by simpa[Cc,ho2] using hd);refine⟨v,hv1,?_⟩;rw[hspq j h5];simpa[Gz,hjal] using hv2)
  cases hst:(CI sp i).sto with
  | some j=>
   rw[hst] at hat;obtain⟨hod,d,p,ncs,hd,hal,hlate,hok⟩:=hat;obtain⟨hjN,hjb,_,hial⟩:=S1 i o j hi ho hst;have hSj:=(hb j hjb).2;obtain⟨H',p1,p2⟩:=JD (S:=S) (β:=β) (i:=i) (j:=j) (p:=p) (ncs:=ncs) sp 0 j (CI sp j) (by omega) (hsa j hjN) hal hlate hSj hun (λt s q hs _ hq hne he=>by
     obtain⟨ht,rfl⟩:=lt_of t s hs;have:=(L1 t q ht hq).2;rw[he,hst] at this;simp at this;omega) (λt s hs hn he=>by
     obtain⟨ht,rfl⟩:=lt_of t s hs;rw[Q1] at he;subst he;exact hn hial)
   obtain⟨o2,ho2⟩:=hops j hjN;obtain⟨v,hv1,hv2⟩:=h3 j o2 d hjN hSj ho2 (by simpa[Cc,ho2] using hd);have hag2:B6 n ((d,rv (.pointer (some ⟨β j,0,none⟩)))::Bo ops (Nc sp) (CI sp i).deps l0) a Z:=⟨hag'.size,hag'.defers,λk r hk=>by
    rw[Bp] at hk
    split at hk
    ·rename_i e;subst e;simp at hk;subst hk
     exact⟨v,hv1,by simpa[Gz,hal] using hv2⟩
    ·exact hag'.tm k r hk⟩
   refine hok (β j) (H++H') a w Z K hag2 (h1.perm ((List.Perm.append_left H p1).trans List.perm_middle)) (λv w' Z' hz _ hs'=>hK _ _ ⟨β,Z',?_,hagr v Z' hz,hvals v Z' β hz (λ_ _=>rfl) (λhne=>absurd hod hne),hx'⟩);exact hs'.perm (List.perm_middle.symm.trans (List.Perm.append_left H p2.symm))
  | none=>
   rw[hst] at hat;have latene:∀t q,t<N→(CI sp t).late=some q→q.1≠i:=λt q ht hq he=>by
    have:=(L1 t q ht hq).2;rw[he,hst] at this;cases this
   cases hal:(CI sp i).al with
   | none=>
    rw[hal] at hat;refine hat _ a w Z K hag' h1 (λv w' Z' hz hp hst'=>hK _ _ ⟨β,Z',?_,hagr v Z' hz,hvals v Z' β hz (λ_ _=>rfl) (λ_=>by unfold Gz;rw[hal];exact hp),hx'⟩);rw[Dk (S':=S) (β':=β) sp 0 (λt s hs hn=>by
     obtain⟨ht,rfl⟩:=lt_of t s hs;have:t≠i:=λe=>by subst e;exact hn hal
     refine⟨by simp[this],λ_=>⟨rfl,λq hq=>?_⟩⟩;have:=latene t q ht hq;simp[this])]
    exact hst'
   | some p=>
    rw[hal] at hat;have key:=λK' hK'=>hat (H++CY S β sp 0) a w Z K' h1 hK';have h5:∀b w',St c (.blk b p.1 p.2::(H++CY S β sp 0)) Z w'→K (a.put o.dst (.pointer (some ⟨b,0,none⟩))) w':=λb w' hst'=>by
     refine hK _ _ ⟨λj=>if j=i then b else β j,Z,?_,hagr _ Z (Fz.le.refl _),hvals _ Z _ (Fz.le.refl _) (λj hj=>by simp[hj]) (λ_=>by simp[Gz,hal,rv]),hx'⟩;have hp:=JE (S:=S) (β:=β) (i:=i) (b:=b) (p:=p) sp 0 i (CI sp i) (by omega) (hsa i hi) hal hun (λt s q hs _ hq=>by
      obtain⟨ht,rfl⟩:=lt_of t s hs;exact latene t q ht hq) (λq hq=>by
       refine⟨?_,latene i q hi hq⟩
       cases hS:S q.1 with
       | false=>rfl
       | true=>
        obtain⟨h6,h7⟩:=L1 i q hi hq;have:=hx q.1 i h6 h7 hS;rw[this] at hun;cases hun)
     exact hst'.perm ((List.perm_middle.symm).trans (List.Perm.append_left H hp.symm))
    refine⟨λ_=>(key K h5).2,λhw'=>?_⟩;rw[(key K h5).1] at hw';cases hw'
 ·obtain⟨β,Z,h1,h2,h3,_⟩:=hI;refine h β a w Z (KT h2 _ _ 0 (λt o s d ht hs hd=>?_)) (by rw[← JF];exact h1);obtain⟨htN,rfl⟩:=lt_of t s hs;rw[Q1];exact h3 t o d htN rfl (by rw[← hget t htN];exact ht) hd
end
theorem Pt {P:Program}{n:Nat}{c:Cx}{opsA:Array Oper}{Q:Exit→Act→World→Prop}{d:Nat}{e:TypeId}{ty:TypeId}{pos:String}{af:Array Edge}{z:Value}{cs:List Rp}(hz:∀w,(zeroValue e).run P w = .ok z w)(hcs:z.cells.toList.map rv=cs) :
  OS P n c opsA Q { dst:=some d,op:=.alloc e,type:=ty,pos:=pos,after:=af,guard:=none } (cs,e):=λH a w Z K hw hK=>by
 refine⟨by simp[Region.wanted],?_⟩;unfold Oper.wp;rw[show(execOp a.eval { dst:=some d,op:=.alloc e,type:=ty,pos:=pos,after:=af,guard:=none }).run P w = .ok (.value (.pointer (some ⟨w.heap.size,0,none⟩))) (w.alloc (.cells z.cells e)) from by simp[execOp,Instr.alloc,hz,newVar,newRow,newObj,Sem.run,Sem.run_bind]];exact hK _ _ (hw.alloc _ (e:=.blk w.heap.size cs e) ⟨z.cells.toList,by simpa using heap_alloc_new w _,by subst hcs;exact A9.rvs Z _⟩ rfl)
section
variable {P : Program} {n : Nat} {c : Cx} {opsA : Array Oper} {Q : Exit → Act → World → Prop} {l l0 : Fr} {H : List Ent} {sp : List Sa}
theorem GV {id:Nat}{ops:List Oper}(N:Nat)(ks0:List Nat)(sp:List Sa)(hob:Eq P n c ops.toArray Q ops sp l0 H 0 (ops.take N))(h:∀β,WL P n c ops.toArray Q (ops.drop N) (HN β (ops.take N) sp 0 l0) (H++L8 β sp 0))
  (h0:Kp ks0 l l0:=by repeat (first | exact L6 | (apply ID;rfl) | (apply J5;rfl))) (hm:P.follows .mixedOrders=true:=by kernel_rfl) (hB:PC n ops N (Du l0) (sp.map (·.deps)) (sp.map (·.al.isSome)) (sp.map (·.late.map (·.1))) (sp.map (·.sto))=true:=by kernel_rfl)
  (hsp:sp.length=N:=by rfl):WC P n c (.region id ops.toArray true) Q l H:=Oy N sp hm hB h0.one hsp hob h
theorem Hc {all rest:List Oper}{d:Nat}{op:Op}{ty:TypeId}{pos:String}{af:Array Edge}{i:Nat}
  (hr:∀{H},AT P n c (Bo all (Nc sp) (CI sp i).deps l0) H { dst:=some d,op:=op,type:=ty,pos:=pos,after:=af,guard:=none } (CI sp i).r) (h:Eq P n c opsA Q all sp l0 H (i+1) rest) (ha:(CI sp i).al=none:=by rfl) (hs:(CI sp i).sto=none:=by rfl) :
  Eq P n c opsA Q all sp l0 H i ({ dst:=some d,op:=op,type:=ty,pos:=pos,after:=af,guard:=none }::rest):=by
 refine⟨?_,h⟩;unfold Oo;rw[hs,ha];exact λ_=>NA hr
theorem Oj {all rest:List Oper}{d:Nat}{op:Op}{ty:TypeId}{pos:String}{af:Array Edge}{i:Nat}
  (hr:∀{E},AT P n c (Bo all (Nc sp) (CI sp i).deps l0) (H++E) { dst:=some d,op:=op,type:=ty,pos:=pos,after:=af,guard:=none } (CI sp i).r) (h:Eq P n c opsA Q all sp l0 H (i+1) rest) (ha:(CI sp i).al=none:=by rfl) (hs:(CI sp i).sto=none:=by rfl) :
  Eq P n c opsA Q all sp l0 H i ({ dst:=some d,op:=op,type:=ty,pos:=pos,after:=af,guard:=none }::rest):=by
 refine⟨?_,h⟩;unfold Oo;rw[hs,ha];exact λ_=>NA hr
theorem PQ {all rest:List Oper}{o:Oper}{p:List Rp×TypeId}{i:Nat}(hr:OS P n c opsA Q o p)(h:Eq P n c opsA Q all sp l0 H (i+1) rest)(ha:(CI sp i).al=some p:=by rfl)(hs:(CI sp i).sto=none:=by rfl):Eq P n c opsA Q all sp l0 H i (o::rest):=by
 refine⟨?_,h⟩;unfold Oo;rw[hs,ha];exact hr
theorem PP {all rest:List Oper}{op:Op}{ty:TypeId}{pos:String}{af:Array Edge}{g:Option (Nat×Bool)}{i j d:Nat}{p:List Rp×TypeId}{ncs:List Rp}
  (hr:∀{b H},CO P n c opsA Q ((d,rv (.pointer (some ⟨b,0,none⟩)))::Bo all (Nc sp) (CI sp i).deps l0) (.blk b p.1 p.2::H) { dst:=none,op:=op,type:=ty,pos:=pos,after:=af,guard:=g } (rv undef) (.blk b ncs p.2::H))
  (h:Eq P n c opsA Q all sp l0 H (i+1) rest) (hs:(CI sp i).sto=some j:=by rfl) (hd:Cc all j=some d:=by rfl) (ha:(CI sp j).al=some p:=by rfl) (hl:(CI sp j).late=some (i,ncs):=by rfl) :
  Eq P n c opsA Q all sp l0 H i ({ dst:=none,op:=op,type:=ty,pos:=pos,after:=af,guard:=g }::rest):=by
 refine⟨?_,h⟩;unfold Oo;rw[hs];exact⟨rfl,d,p,ncs,hd,ha,hl,λ_ _=>hr⟩
theorem P0 {all:List Oper}{i:Nat}:Eq P n c opsA Q all sp l0 H i []:=trivial
end
structure Nh (ks:List Nat) (β:Nat→Nat) (os:List Oper) (sp:List Sa) (i:Nat) (l0 l1:Fr):Prop where
 go:Kp ks (HN β os sp i l0) l1
section
variable {ks : List Nat} {β : Nat → Nat} {os : List Oper} {sp : List Sa} {i d : Nat} {l0 l1 : Fr} {ds : List Nat} {r : Rp} {p : List Rp × TypeId} {lt : Option (Nat × List Rp)} {so : Option Nat} {op : Op} {ty : TypeId} {pos : String} {af : Array Edge} {g : Option (Nat × Bool)}
theorem Pe (h:ks.contains d=true)(t:Nh ks β os sp (i+1) l0 l1):Nh ks β ({ dst:=some d,op:=op,type:=ty,pos:=pos,after:=af,guard:=g }::os) ({ deps:=ds,r:=r,sto:=so }::sp) i l0 ((d,r)::l1):=⟨ID h t.go⟩
theorem Ph (h:ks.contains d=true)(t:Nh ks β os sp (i+1) l0 l1):Nh ks β ({ dst:=some d,op:=op,type:=ty,pos:=pos,after:=af,guard:=g }::os) ({ deps:=ds,r:=r,al:=some p,late:=lt,sto:=so }::sp) i l0 ((d,rv (.pointer (some ⟨β i,0,none⟩)))::l1):=⟨ID h t.go⟩
theorem Pg {s:Sa}(h:ks.contains d=false)(t:Nh ks β os sp (i+1) l0 l1):Nh ks β ({ dst:=some d,op:=op,type:=ty,pos:=pos,after:=af,guard:=g }::os) (s::sp) i l0 l1:=⟨J5 h t.go⟩
theorem Pf {s:Sa}(t:Nh ks β os sp (i+1) l0 l1):Nh ks β ({ dst:=none,op:=op,type:=ty,pos:=pos,after:=af,guard:=g }::os) (s::sp) i l0 l1:=⟨t.go⟩
theorem Pi (t:Kp ks l0 l1):Nh ks β [] [] i l0 l1:=⟨t⟩
theorem I1 {P:Program}{n:Nat}{c:Cx}{opsA:Array Oper}{Q:Exit→Act→World→Prop}{rest:List Oper}{H H1:List Ent}(ks:List Nat)(h:WL P n c opsA Q rest l1 H1)
  (hz:Nh ks β os sp i l0 l1:=by repeat (first | (apply Pe;rfl) | (apply Ph;rfl) | (apply Pg;rfl) | apply Pf | apply Pi | exact L6 | (apply ID;rfl) | (apply J5;rfl))) (hH:H=H1:=by rfl) :
  WL P n c opsA Q rest (HN β os sp i l0) H:=λa w Z ha hw=>h a w Z (ha.subL hz.go.one) (hH▸hw)
end
section
variable {P : Program} {n : Nat} {c : Cx} {opsA : Array Oper} {Q : Exit → Act → World → Prop} {l l0 : Fr} {H : List Ent} {sp : List Sa}
theorem PR {all rest:List Oper}{o:Oper}{i:Nat}(hr:∀{E},CO P n c opsA Q (Bo all (Nc sp) (CI sp i).deps l0) (H++E) o (CI sp i).r (H++E))(h:Eq P n c opsA Q all sp l0 H (i+1) rest)(ha:(CI sp i).al=none:=by rfl)(hs:(CI sp i).sto=none:=by rfl):Eq P n c opsA Q all sp l0 H i (o::rest):=by
 refine⟨?_,h⟩;unfold Oo;rw[hs,ha];exact λ_=>hr
end
def PL (p:Bool→Prop):Rp:=⟨λ_ v=>∃b,v = .bool b∧p b,λ_ h=>h,true,λ_ Z v ⟨b,e,_⟩=>by rw[e];rfl⟩
section
variable {P : Program} {n : Nat} {c : Cx} {ops : Array Oper} {Q : Exit → Act → World → Prop} {rest : List Oper} {l : Fr} {H : List Ent} {d : Option Nat} {ty rty t e : TypeId} {pos : String} {af : Array Edge} {g : Option (Nat × Bool)} {r : Rp} {x : Operand} {cx cy : Code} {sz : Nat} {xs : List (List Rp)}
theorem LW {o:Operand}{p:Bool→Prop}(ho:ev l o=some (PL p))(h1:p true→WC P n c cx Q l H)(h2:p false→WC P n c cy Q l H):WC P n c (.cond o cx cy) Q l H:=λa w Z ha hw=>by
 obtain⟨b,e,hp⟩:=ha.ev ho;exact wp_cond_split e (λe=>h1 (e▸hp) a w Z ha hw) (λe=>h2 (e▸hp) a w Z ha hw)
theorem Ln (ht:P.underlying t=some (.slice e))(h:ev l x=some (Bl sz xs)):AT P n c l H { dst:=d,op:=.binOp .eql t x (.const (.slice none 0 0)) rty,type:=ty,pos:=pos,after:=af,guard:=g } (PL (λb=>b=true→xs=[])):=λa w Z ha hw=>by
 obtain⟨A,cap,e1,h1,h2,h3,h4⟩:=ha.ev h;refine⟨.bool A.isNone,⟨_,rfl,λhb=>?_⟩,?_⟩
 ·cases A with
  | some a=>cases hb
  | none=>
   have:=h3 rfl;exact List.length_eq_zero_iff.1 (by omega)
 ·have:=run_equal_slice_nil (P:=P) w t e A xs.length cap ht;have e2:a.eval (.const (.slice none 0 0)) = .slice none 0 0:=rfl;simp[execOp,e1,e2,binOp,this,eqGuard]
end
section
variable {P : Program} {n : Nat} {c : Cx} {l : Fr} {H : List Ent} {d : Option Nat} {ty rty t e : TypeId} {pos : String} {af : Array Edge} {g : Option (Nat × Bool)} {x : Operand} {sz : Nat}
end
theorem Cv (s:ByteArray):MapKept.IsKey .string (.string s):=by simp[MapKept.IsKey]
theorem DV.keys {Z:Fz}:∀{f:List (List UInt8×Rp)} {es:List MapEntry},DV Z f es→∀x∈es,MapKept.IsKey .string x.key
 | [],[],_,x,hx=>by cases hx
 | p::f,e::es,⟨⟨h1,h2⟩,h3⟩,x,hx=>by
  rcases List.mem_cons.1 hx with rfl | hx
  ·rw[h1];exact Cv _
  ·exact DV.keys h3 x hx
theorem DV.at {Z:Fz}:∀{f:List (List UInt8×Rp)} {es:List MapEntry},DV Z f es→f.length=es.length∧∀(j:Nat) (e:MapEntry),es[j]? =some e→∃k r,f[j]? =some (k,r)∧e.key = .string (B k)∧r.p Z e.val
 | [],[],_=>⟨rfl,λj e h=>by simp at h⟩
 | p::f,e::es,⟨⟨h1,h2⟩,h3⟩=>by
  obtain⟨hl,ha⟩:=DV.at h3;refine⟨by simp[hl],λj e' hj=>?_⟩
  cases j with
  | zero=>simp at hj;subst hj;exact⟨p.1,p.2,rfl,h1,h2⟩
  | succ j=>simp at hj;simpa using ha j e' hj
theorem DV.of {Z:Fz}:∀{f:List (List UInt8×Rp)} {es:List MapEntry},f.length=es.length→(∀(j:Nat) (e:MapEntry),es[j]? =some e→∃k r,f[j]? =some (k,r)∧e.key = .string (B k)∧r.p Z e.val)→DV Z f es
 | [],[],_,_=>trivial
 | p::f,e::es,hl,h=>by
  obtain⟨k,r,h1,h2,h3⟩:=h 0 e rfl;simp at h1;subst h1;exact⟨⟨h2,h3⟩,DV.of (by simpa using hl) λj e' hj=>by simpa using h (j+1) e' (by simpa using hj)⟩
 | [],_::_,hl,_=>by simp at hl
 | _::_,[],hl,_=>by simp at hl
theorem DV.snoc {Z:Fz}{k:List UInt8}{r:Rp}{e:MapEntry}(h1:e.key = .string (B k))(h2:r.p Z e.val):∀{f:List (List UInt8×Rp)} {es:List MapEntry},DV Z f es→DV Z (f++[(k,r)]) (es++[e])
 | [],[],_=>⟨⟨h1,h2⟩,trivial⟩
 | p::f,e'::es,⟨h,h3⟩=>⟨h,DV.snoc h1 h2 h3⟩
theorem DV.filter {Z:Fz}(q:MapEntry→Bool):∀{f:List (List UInt8×Rp)} {es:List MapEntry},DV Z f es→∃g,DV Z g (es.filter q)∧g.Sublist f
 | [],[],_=>⟨[],trivial,List.Sublist.refl _⟩
 | p::f,e::es,⟨h,h3⟩=>by
  obtain⟨g,hg,hs⟩:=DV.filter q h3
  cases hq:q e with
  | true=>exact⟨p::g,by rw[List.filter_cons_of_pos hq];exact⟨h,hg⟩,hs.cons_cons p⟩
  | false=>exact⟨g,by rw[List.filter_cons_of_neg (by simp[hq])];exact hg,hs.cons p⟩
theorem Jy {T:Type}:∀{m:List (Ai×T)} {k:Ai} {r:T},(m.map (·.1)).Nodup→(k,r)∈m→Bf m k=some r
 | p::m,k,r,hn,h=>by
  rw[Qz,List.nodup_cons] at hn;rw[Bf];rcases List.mem_cons.1 h with h | h
  ·subst h;rw[Qg rfl];rfl
  ·have hne : ¬ p.1=k:=λe=>hn.1 (by rw[e];exact List.mem_map.2 ⟨(k,r),h,rfl⟩);rw[Qe hne];exact Jy hn.2 h
theorem Ik {T:Type}:∀{m:List (Ai×T)} {k:Ai},(∀p∈m,p.1≠k)→Bf m k=none
 | [],_,_=>rfl
 | p::m,k,h=>by
  rw[Bf,Qe (h p (by simp))];exact Ik λq hq=>h q (by simp[hq])
theorem Pw {a b:List UInt8}(h:B a=B b):a=b:=by
 have:=congrArg ByteArray.toList h
 rwa [BW,BW] at this
theorem Gf {a b:List UInt8}(h:Value.string (B a) = .string (B b)):a=b:=Pw (by cases h;rfl)
theorem IH {Z:Fz}{m:List (List UInt8×Rp)}{es:List MapEntry}{ck:Nat}(h:CC Z m es ck)(k:List UInt8) :
  (Instr.findNow .string (.string (B k)) es 0=some none∧Bf m k=none∧∀p∈m,p.1≠k)∨∃j e r,Instr.findNow .string (.string (B k)) es 0=some (some (j,e.val))∧es[j]? =some e∧e.key = .string (B k)∧Bf m k=some r∧r.p Z e.val:=by
 obtain⟨h1,h2,h3,f,h4,h5⟩:=h;obtain⟨hl,ha⟩:=h5.at;rcases MapKept.findNow_spec (Cv (B k)) es 0 h5.keys with⟨q1,q2⟩ | ⟨j,e,q1,q2,q3⟩
 ·have hne:∀p∈m,p.1≠k:=λp hp e=>by
   obtain⟨j,hj⟩:=List.mem_iff_getElem?.1 (h4.symm.subset hp);have hjl:j<es.length:=by rw[← hl];exact(List.getElem?_eq_some_iff.1 hj).1
   obtain⟨k',r',e1,e2,_⟩:=ha j es[j] (PZ hjl);rw[hj] at e1;cases e1;exact q2 es[j] (List.getElem_mem hjl) (by rw[e2,← e])
  exact .inl ⟨q1,Ik hne,hne⟩
 ·obtain⟨k',r,e1,e2,e3⟩:=ha j e q2;rw[q3] at e2;obtain rfl:=Gf e2;exact .inr ⟨j,e,r,by simpa using q1,q2,q3,Jy h1 (h4.subset (Qi e1)),e3⟩
section
variable {P : Program} {n : Nat} {c : Cx} {ops : Array Oper} {Q : Exit → Act → World → Prop} {rest : List Oper} {l : Fr} {H : List Ent} {d : Nat} {d' : Option Nat} {ty t kt et rty : TypeId} {pos : String} {af : Array Edge} {g : Option (Nat × Bool)} {x y u : Operand} {K : Act → World → Prop} {cx : Code}
variable {T : Type} {enc : T → Rp} {xs : List (Ai × T)} {z : T} {k : Ai} {zv : Value} {i b : Nat}
theorem EB {Z:Fz}{w:World}{m:List (List UInt8×Rp)}{rz:Rp}(ht:P.underlying t=some (.map kt et))(hk:P.underlying kt=some .string)(hz:∀w,(zeroValue et).run P w = .ok zv w)(hzr:rz.p Z zv)(hm:(Ent.map b m).holds Z w)(ok:Bool) :
  ∃v,((Bf m k).getD rz).p Z v∧(Instr.lookup t (.map (some b)) (.string (B k)) ok).run P w = .ok (if ok then .tuple #[v,.bool (Bf m k).isSome] else v) w:=by
 obtain⟨es,ck,h1,h2⟩:=hm;rcases IH h2 k with⟨q1,q2,_⟩ | ⟨j,e,r,q1,_,_,q2,q3⟩
 ·exact⟨zv,by rw[q2];exact hzr,by simp[Instr.lookup,run_underlying ht,MapKept.run_getObj_map h1,MapKept.run_checkKey hk (Cv _),MapKept.run_findKey hk q1,hz,q2]⟩
 ·exact⟨e.val,by rw[q2];exact q3,by simp[Instr.lookup,run_underlying ht,MapKept.run_getObj_map h1,MapKept.run_checkKey hk (Cv _),MapKept.run_findKey hk q1,q2]⟩
theorem J9 (enc:T→Rp)(xs:List (Ai×T))(k:Ai)(z:T):(Bf (AI enc xs) k).getD (enc z)=enc (A6 xs k z):=by
 rw[Eg];unfold A6;cases Bf xs k<;>rfl
theorem Kl (enc:T→Rp)(xs:List (Ai×T))(k:Ai):(Bf (AI enc xs) k).isSome=C8 xs k:=by
 rw[Eg];unfold C8;cases Bf xs k<;>rfl
theorem KB (ht:P.underlying t=some (.map kt et))(hk:P.underlying kt=some .string)(hz:∀w,(zeroValue et).run P w = .ok zv w)(hzr:∀Z,(enc z).p Z zv)(hx:ev l x=some (rv (.map (some b))))(hi:H[i]? =some (.map b (AI enc xs)))(hy:ev l y=some (rS k)) :
  AT P n c l H { dst:=d',op:=.lookup t x y true,type:=ty,pos:=pos,after:=af,guard:=g } (EP [enc (A6 xs k z),rB (C8 xs k)]):=λa w Z ha hw=>by
 obtain⟨v,h1,h2⟩:=EB (k:=k) ht hk hz (hzr Z) (hw.ent hi) true;rw[J9] at h1;refine⟨.tuple #[v,.bool (C8 xs k)],⟨[v,.bool (C8 xs k)],rfl,h1,rfl,trivial⟩,?_⟩;rw[Kl] at h2;simp[execOp,ha.eval hx,ha.eval hy,h2]
theorem M5 (ht:P.underlying t=some (.map kt et))(hk:P.underlying kt=some .string)(hz:∀w,(zeroValue et).run P w = .ok zv w)(hzr:∀Z,(enc z).p Z zv)(hx:ev l x=some (rv (.map (some b))))(hi:H[i]? =some (.map b (AI enc xs)))(hy:ev l y=some (rS k)) :
  AT P n c l H { dst:=d',op:=.lookup t x y false,type:=ty,pos:=pos,after:=af,guard:=g } (enc (A6 xs k z)):=λa w Z ha hw=>by
 obtain⟨v,h1,h2⟩:=EB (k:=k) ht hk hz (hzr Z) (hw.ent hi) false;rw[J9] at h1;simp only[Q6,if_false] at h2;exact⟨v,h1,by simp[execOp,ha.eval hx,ha.eval hy,h2]⟩
theorem CC.length {Z:Fz}{m:List (List UInt8×Rp)}{es:List MapEntry}{ck:Nat}(h:CC Z m es ck):es.length=m.length:=by
 obtain⟨_,_,_,f,h4,h5⟩:=h;rw[← h5.at.1,h4.length_eq]
theorem OA {m:List (List UInt8×Rp)}{N:Nat}(ht:P.underlying t=some (.map kt et))(hx:ev l x=some (rv (.map (some b))))(hi:H[i]? =some (.map b m))(hN:m.length=N) :
  AT P n c l H { dst:=d',op:=.call { callee:=.builtin .len,args:=#[x],argTypes:=#[t] },type:=ty,pos:=pos,after:=af,guard:=g } (rI .i64 N):=λa w Z ha hw=>C1<|by
 obtain⟨es,ck,h1,h2⟩:=hw.ent hi;have hl:es.size=N:=by rw[← hN,← h2.length];simp
 simp[execOp,resolve,invoke,builtin,ha.eval hx,Builtin.len_,run_underlying ht,goInt,MapKept.run_getObj_map h1,hl]
theorem Lo {v:Option Nat}(ht:P.underlying t=some (.map kt et))(hx:ev l x=some (rv (.map v))):AT P n c l H { dst:=d',op:=.binOp .neq t x (.const (.map none)) rty,type:=ty,pos:=pos,after:=af,guard:=g } (rB (!v.isNone)):=λa w Z ha hw=>C1<|by
 have e2:a.eval (.const (.map none)) = .map none:=rfl;have h:=run_equal_map_nil (P:=P) w t kt et v ht;simp[execOp,ha.eval hx,e2,eqGuard,binOp,h]
theorem KZ (hn:Nat.blt d n=true)(h:∀b,WL P n c ops Q rest ((d,rv (.map (some b)))::l) (.map b []::H)) :
  WL P n c ops Q ({ dst:=some d,op:=.makeMap t none,type:=ty,pos:=pos,after:=af,guard:=none }::rest) l H:=
 EH (λa w Z ha hw=>⟨_,w.alloc (.map #[] 0),_,_,Z,by simp[execOp,run_makeMap],Fz.le.refl _,rfl,
  hw.alloc _ (e:=.map w.heap.size []) ⟨#[],0,by simpa using heap_alloc_new w _,by simp,by simp,by simp,[],PY _,trivial⟩ rfl,h w.heap.size⟩) hn
theorem Mt {m f:List (Ai×Rp)}(h:f.Perm m)(k:Ai)(r:Rp):(mput f k r).Perm (mput m k r):=h.map _
theorem KE {T:Type}:∀{f:List (Ai×T)} {j:Nat} {k:Ai} {r0:T} (r:T),(f.map (·.1)).Nodup→f[j]? =some (k,r0)→mput f k r=f.set j (k,r)
 | p::f,0,k,r0,r,hn,h=>by
  simp at h;subst h;rw[Qz,List.nodup_cons] at hn;have:mput f k r=f:=by
   unfold mput;rw[List.map_congr_left (g:=id) (λq hq=>?_),List.map_id];have hne : ¬ q.1=k:=λe=>hn.1 (by rw[← e];exact List.mem_map.2 ⟨q,hq,rfl⟩);rw[Qe hne];rfl
  show(bif decide (k=k) then(k,r) else(k,r0))::mput f k r=_;rw[Qg rfl,this];rfl
 | p::f,j+1,k,r0,r,hn,h=>by
  rw[Qz,List.nodup_cons] at hn;simp at h;have hne : ¬ p.1=k:=λe=>hn.1 (by rw[e];exact List.mem_map.2 ⟨(k,r0),Qi h,rfl⟩);show(bif decide (p.1=k) then(k,r) else p)::mput f k r=_;rw[Qe hne,KE r hn.2 h];rfl
theorem KF {T:Type}:∀{f:List (Ai×T)} {j:Nat} {k:Ai} {r0:T},(f.map (·.1)).Nodup→f[j]? =some (k,r0)→mdel f k=f.eraseIdx j
 | p::f,0,k,r0,hn,h=>by
  simp at h;subst h;rw[Qz,List.nodup_cons] at hn;have:f.filter (λq=>!decide (q.1=k))=f:=List.filter_eq_self.2 λq hq=>by
   have hne : ¬ q.1=k:=λe=>hn.1 (by rw[← e];exact List.mem_map.2 ⟨q,hq,rfl⟩);simp[hne]
  unfold mdel;rw[List.filter_cons_of_neg (by simp),this];rfl
 | p::f,j+1,k,r0,hn,h=>by
  rw[Qz,List.nodup_cons] at hn;simp at h;have hne : ¬ p.1=k:=λe=>hn.1 (by rw[e];exact List.mem_map.2 ⟨(k,r0),Qi h,rfl⟩);unfold mdel;rw[List.filter_cons_of_pos (by simp[hne])];show p::mdel f k=_;rw[KF hn.2 h];rfl
theorem Ls {T:Type}(m:List (Ai×T))(k:Ai)(r:T):(mput m k r).map (·.1)=m.map (·.1):=by
 unfold mput;rw[QD];refine List.map_congr_left λp _=>?_;simp only[Function.comp]
 by_cases h:p.1=k
 ·rw[Qg h];exact h.symm
 ·rw[Qe h];rfl
theorem Lu {T:Type}{m:List (Ai×T)}{k:Ai}{r:T}(h:Bf m k=some r):C8 m k=true:=by unfold C8;rw[h];rfl
theorem Lv {T:Type}{m:List (Ai×T)}{k:Ai}(h:Bf m k=none):C8 m k=false:=by unfold C8;rw[h];rfl
theorem CC.put {Z:Fz}{m:List (Ai×Rp)}{es:List MapEntry}{ck j:Nat}{e:MapEntry}{k:Ai}{r0 r:Rp}{v:Value}(h:CC Z m es ck)(he:es[j]? =some e)(hk:e.key = .string (B k))(hm:Bf m k=some r0)(hr:r.p Z v) :
  CC Z (mset m k r) (es.set j { e with key:=.string (B k),val:=v }) ck:=by
 obtain⟨h1,h2,h3,f,h4,h5⟩:=h;obtain⟨hl,ha⟩:=h5.at;have hjl:=(List.getElem?_eq_some_iff.1 he).1;unfold mset;rw[Lu hm,Qj];obtain⟨k',r',e1,e2,_⟩:=ha j e he;rw[hk] at e2;obtain rfl:=Gf e2;have hfn:(f.map (·.1)).Nodup:=(h4.map (·.1)).nodup_iff.2 h1;refine⟨by rw[Ls];exact h1,?_,?_,f.set j (k,r),?_,DV.of (by simp[hl]) λi x hx=>?_⟩
 ·rw[List.map_set];have:(es.map (·.born)).set j e.born=es.map (·.born):=by
   apply List.ext_getElem?;intro i;rw[List.getElem?_set]
   split
   ·rename_i hij;subst hij
    simp[hjl,List.getElem?_eq_some_iff.1 he |>.2]
   ·rfl
  show((es.map (·.born)).set j e.born).Nodup;rw[this];exact h2
 ·intro x hx;rcases List.mem_or_eq_of_mem_set hx with hx | rfl
  ·exact h3 x hx
  ·exact h3 e (Qi he)
 ·have:=Mt h4 k r
  rwa [KE r hfn e1] at this
 ·rw[List.getElem?_set] at hx ⊢
  split at hx
  ·rename_i hij;subst hij
   cases hx
   exact⟨k,r,by rw[if_pos rfl,if_pos (by rw[hl];exact hjl)],rfl,hr⟩
  ·rename_i hij
   rw[QE hij];exact ha i x hx
theorem CC.ins {Z:Fz}{m:List (Ai×Rp)}{es:List MapEntry}{ck:Nat}{k:Ai}{r:Rp}{v:Value}(h:CC Z m es ck)(hm:Bf m k=none)(hk:∀p∈m,p.1≠k)(hr:r.p Z v) :
  CC Z (mset m k r) (es++[{ key:=.string (B k),val:=v,born:=ck }]) (ck+1):=by
 obtain⟨h1,h2,h3,f,h4,h5⟩:=h;unfold mset;rw[Lv hm,Qc];have hp:=G4 k r m;refine⟨?_,?_,?_,f++[(k,r)],?_,DV.snoc rfl hr h5⟩
 ·rw[(hp.map (·.1)).nodup_iff,Qz,List.nodup_cons];exact⟨λhx=>by obtain⟨p,hp,e⟩:=List.mem_map.1 hx;exact hk p hp e,h1⟩
 ·rw[List.map_append,List.nodup_append];refine⟨h2,by simp,λa ha b hb e=>?_⟩;simp at hb;subst hb;obtain⟨x,hx,e'⟩:=List.mem_map.1 ha;have:=h3 x hx;omega
 ·intro x hx;rcases List.mem_append.1 hx with hx | hx
  ·have:=h3 x hx;omega
  ·simp at hx;subst hx;exact Q0 _
 ·exact(List.perm_append_comm (l₁:=f) (l₂:=[(k,r)])).trans ((h4.cons (k,r)).trans hp.symm)
theorem CC.del {Z:Fz}{m:List (Ai×Rp)}{es:List MapEntry}{ck j:Nat}{e:MapEntry}{k:Ai}(h:CC Z m es ck)(he:es[j]? =some e)(hk:e.key = .string (B k)):CC Z (mdel m k) (es.eraseIdx j) ck:=by
 obtain⟨h1,h2,h3,f,h4,h5⟩:=h;obtain⟨hl,ha⟩:=h5.at;obtain⟨k',r',e1,e2,_⟩:=ha j e he;rw[hk] at e2;obtain rfl:=Gf e2;have hfn:(f.map (·.1)).Nodup:=(h4.map (·.1)).nodup_iff.2 h1;have hs:=List.eraseIdx_sublist es j;refine⟨h1.sublist ((List.filter_sublist ..).map _),h2.sublist (hs.map _),λx hx=>h3 x (hs.subset hx),f.eraseIdx j,?_,DV.of (by rw[List.length_eraseIdx,List.length_eraseIdx,hl]) λi x hx=>?_⟩
 ·rw[← KF hfn e1];exact h4.filter _
 ·rw[List.getElem?_eraseIdx] at hx ⊢
  split at hx
  ·rename_i hij;rw[if_pos hij];exact ha i x hx
  ·rename_i hij;rw[QE hij];exact ha (i+1) x hx
theorem L0 {m:List (Ai×Rp)}{k:Ai}(hk:∀p∈m,p.1≠k):mdel m k=m:=List.filter_eq_self.2 λp hp=>by simp[hk p hp]
theorem St.mapset {Z:Fz}{w:World}(h:St c H Z w){m m':List (Ai×Rp)}(hi:H[i]? =some (.map b m)){es es':Array MapEntry}{ck ck':Nat}(h1:w.heap[b]? =some (.map es ck))(h2:CC Z m' es'.toList ck') :
  St c (H.set i (.map b m')) Z { w with heap:=w.heap.setIfInBounds b (.map es' ck') }:=by
 obtain⟨q1,q2⟩:=MapKept.heap_set (o':=.map es' ck') h1;exact h.set hi rfl rfl rfl (by simp) (λk _ hk=>q2 k (by simpa[Ent.foot] using hk)) ⟨es',ck',q1,h2⟩ (by simp[Ent.foot])
theorem I8 (s:ByteArray):Instr.sameBits 10000 (.string s) (.string s)=true:=by
 show(s ==s)=true;exact(MapKept.bytes_beq s s).2 rfl |> λh=>by simpa using h
theorem O0 {r:Rp}{m:List (Ai×Rp)}(ht:P.underlying t=some (.map kt et))(hk:P.underlying kt=some .string)(hx:ev l x=some (rv (.map (some b))))(hi:H[i]? =some (.map b m))(hy:ev l y=some (rS k))(hu:ev l u=some r){H':List Ent}(hH:H.set i (.map b (mset m k r))=H')(h:WL P n c ops Q rest l H') :
  WL P n c ops Q ({ dst:=none,op:=.mapUpdate t x y u,type:=ty,pos:=pos,after:=af,guard:=none }::rest) l H:=
 I0 λa w Z ha hw=>by
  obtain⟨es,ck,h1,h2⟩:=hw.ent hi;have hv:=ha.ev hu;subst hH;rcases IH h2 k with⟨q1,q2,q3⟩ | ⟨j,e,r0,q1,q2,q3,q4,_⟩
  ·refine⟨_,_,?_,hw.mapset hi h1 (es':=es.push { key:=.string (B k),val:=a.eval u,born:=ck }) (by simpa using h2.ins q2 q3 hv),h⟩;simp[execOp,ha.eval hx,ha.eval hy,Instr.mapUpdate,run_underlying ht,MapKept.run_getObj_map h1,MapKept.run_checkKey hk (Cv _),MapKept.run_findKey hk q1,MapKept.run_setObj_map _ h1]
  ·have hje:es[j]? =some e:=by simpa using q2
   refine⟨_,_,?_,hw.mapset hi h1 (es':=es.modify j λe=>{ e with key:=.string (B k),val:=a.eval u }) (ck':=ck) (by
    have:=h2.put q2 q3 q4 hv;have e1:(es.modify j λe=>{ e with key:=.string (B k),val:=a.eval u }).toList=es.toList.set j { e with key:=.string (B k),val:=a.eval u }:=by
     rw[Array.toList_modify];rw[List.modify_eq_set,q2];rfl
    rw[e1];exact this),h⟩
   have hkey:((es[j]?).map (·.key)).getD (.string (B k)) = .string (B k):=by rw[hje];exact q3
   simp[execOp,ha.eval hx,ha.eval hy,Instr.mapUpdate,run_underlying ht,MapKept.run_getObj_map h1,MapKept.run_checkKey hk (Cv _),MapKept.run_findKey hk q1,MapKept.run_setObj_map _ h1,hkey,Instr.keyThatStays,I8]
theorem Of {op:Op}{ty:TypeId}{pos:String}{af:Array Edge}
  (hr:∀a w Z,B6 n l a Z→St c H Z w→∃v w' H',(execOp a.eval { dst:=none,op:=op,type:=ty,pos:=pos,after:=af,guard:=none }).run P w = .ok (.value v) w'∧St c H' Z w'∧WL P n c ops Q rest l H') :
  WL P n c ops Q ({ dst:=none,op:=op,type:=ty,pos:=pos,after:=af,guard:=none }::rest) l H:=λa w Z ha hw=>
 wpList_plain rfl λK hK=>by
  obtain⟨v,w',H',h1,h2,h3⟩:=hr a w Z ha hw;unfold Oper.wp;rw[h1];exact hK _ _ (h3 _ w' Z (ha.put_none _) h2)
theorem O1 {m:List (Ai×Rp)}(ht:P.underlying t=some (.map kt et))(hk:P.underlying kt=some .string){kt':TypeId}(hx:ev l x=some (rv (.map (some b))))(hi:H[i]? =some (.map b m))(hy:ev l y=some (rS k)){H':List Ent}(hH:H.set i (.map b (mdel m k))=H')(h:WL P n c ops Q rest l H') :
  WL P n c ops Q ({ dst:=none,op:=.call { callee:=.builtin .delete,args:=#[x,y],argTypes:=#[t,kt'] },type:=ty,pos:=pos,after:=af,guard:=none }::rest) l H:=
 Of (λa w Z ha hw=>by
  obtain⟨es,ck,h1,h2⟩:=hw.ent hi;subst hH;rcases IH h2 k with⟨q1,q2,q3⟩ | ⟨j,e,r0,q1,q2,q3,q4,_⟩
  ·refine⟨.tuple #[],_,_,?_,hw.mapset hi h1 (es':=es) (ck':=ck) (by rw[L0 q3];exact h2),h⟩;simp[execOp,resolve,invoke,builtin,ha.eval hx,ha.eval hy,Builtin.delete_,run_underlying ht,MapKept.run_getObj_map h1,MapKept.run_checkKey hk (Cv _),MapKept.run_findKey hk q1,MapKept.run_setObj_map _ h1]
  ·refine⟨.tuple #[],_,_,?_,hw.mapset hi h1 (es':=es.eraseIdxIfInBounds j) (ck':=ck) (by
    have e1:(es.eraseIdxIfInBounds j).toList=es.toList.eraseIdx j:=by simp
    rw[e1];exact h2.del q2 q3),h⟩
   simp[execOp,resolve,invoke,builtin,ha.eval hx,ha.eval hy,Builtin.delete_,run_underlying ht,MapKept.run_getObj_map h1,MapKept.run_checkKey hk (Cv _),MapKept.run_findKey hk q1,MapKept.run_setObj_map _ h1])
theorem Ky {v:T}(ht:P.underlying t=some (.map kt et))(hk:P.underlying kt=some .string)(hx:ev l x=some (rv (.map (some b))))(hi:H[i]? =some (.map b (AI enc xs)))(hy:ev l y=some (rS k))(hu:ev l u=some (enc v)){H':List Ent}(hH:H.set i (.map b (AI enc (mset xs k v)))=H')(h:WL P n c ops Q rest l H') :
  WL P n c ops Q ({ dst:=none,op:=.mapUpdate t x y u,type:=ty,pos:=pos,after:=af,guard:=none }::rest) l H:=O0 ht hk hx hi hy hu (by rw[← M9];exact hH) h
theorem Ns (ht:P.underlying t=some (.map kt et))(hk:P.underlying kt=some .string){kt':TypeId}(hx:ev l x=some (rv (.map (some b))))(hi:H[i]? =some (.map b (AI enc xs)))(hy:ev l y=some (rS k)){H':List Ent}(hH:H.set i (.map b (AI enc (mdel xs k)))=H')(h:WL P n c ops Q rest l H') :
  WL P n c ops Q ({ dst:=none,op:=.call { callee:=.builtin .delete,args:=#[x,y],argTypes:=#[t,kt'] },type:=ty,pos:=pos,after:=af,guard:=none }::rest) l H:=O1 ht hk hx hi hy (by rw[← MD];exact hH) h
end
theorem Gu {q:MapEntry→Bool}:∀{l:List MapEntry} {j:Nat} {e:MapEntry},(l.map (·.born)).Nodup→l[j]? =some e→l.filter (λx=>!(x.born ==e.born))=l.eraseIdx j
 | x::l,0,e,hn,h=>by
  simp at h;subst h;rw[Qz,List.nodup_cons] at hn;rw[List.filter_cons_of_neg (by simp),List.filter_eq_self.2 λy hy=>?_];rfl;have:y.born≠x.born:=λe=>hn.1 (by rw[← e];exact List.mem_map.2 ⟨y,hy,rfl⟩);simp[this]
 | x::l,j+1,e,hn,h=>by
  rw[Qz,List.nodup_cons] at hn;simp at h;have hne:x.born≠e.born:=λe'=>hn.1 (by rw[e'];exact List.mem_map.2 ⟨e,Qi h,rfl⟩);rw[List.filter_cons_of_pos (by simp[hne]),Gu (q:=q) hn.2 h];rfl
theorem DV.erase {Z:Fz}:∀{f:List (List UInt8×Rp)} {es:List MapEntry} (j:Nat),DV Z f es→DV Z (f.eraseIdx j) (es.eraseIdx j)
 | [],[],j,_=>by simp[DV]
 | p::f,e::es,0,⟨_,h⟩=>h
 | p::f,e::es,j+1,⟨h,h3⟩=>⟨h,DV.erase j h3⟩
theorem KA {α:Type}:∀{l:List α} {j:Nat} {a:α},l[j]? =some a→l.Perm (a::l.eraseIdx j)
 | x::l,0,a,h=>by simp at h;subst h;exact PY _
 | x::l,j+1,a,h=>by
  simp at h;exact((KA h).cons x).trans (List.Perm.swap a x _)
theorem Mu {T:Type}{enc:T→Rp}{ys:List (Ai×T)}{f:List (Ai×Rp)}{j:Nat}{k:Ai}{r:Rp}(h:f.Perm (AI enc ys))(hj:f[j]? =some (k,r)):∃ (p:Ai×T) (ys':List (Ai×T)),ys.Perm (p::ys')∧p.1=k∧enc p.2=r∧(f.eraseIdx j).Perm (AI enc ys'):=by
 have hm:(k,r)∈AI enc ys:=h.subset (Qi hj);obtain⟨p,hp,e⟩:=List.mem_map.1 hm;simp only[Prod.mk.injEq] at e;obtain⟨a,b,rfl⟩:=List.append_of_mem hp;refine⟨p,a++b,List.perm_middle,e.1,e.2,?_⟩;have h1:f.Perm ((k,r)::f.eraseIdx j):=by
  exact KA hj
 have h2:(AI enc (a++p::b)).Perm ((k,r)::AI enc (a++b)):=by
  have:(AI enc (a++p::b)).Perm (AI enc (p::(a++b))):=List.perm_middle.map _;refine this.trans ?_;show((p.1,enc p.2)::AI enc (a++b)).Perm _;rw[e.1,e.2]
 exact((h1.symm.trans h).trans h2).cons_inv
section
variable {P : Program} {n : Nat} {c : Cx} {ops : Array Oper} {Q : Exit → Act → World → Prop} {rest : List Oper} {l : Fr} {H : List Ent} {d : Nat} {ty t kt et rty : TypeId} {pos : String} {af : Array Edge} {x y u : Operand} {K : Act → World → Prop} {cx : Code}
variable {T : Type} {enc : T → Rp} {xs ys : List (Ai × T)} {i b it : Nat} {m lf : List (List UInt8 × Rp)} {cur : Option (List UInt8 × Rp)} {k : Ai} {r : Rp}
theorem Nn (ht:P.underlying t=some (.map kt et))(hx:ev l x=some (rv (.map (some b))))(hi:H[i]? =some (.map b m))(hn:Nat.blt d n=true)(h:∀it,WL P n c ops Q rest ((d,rv (.pointer (some ⟨it,0,none⟩)))::l) (H.set i (.mit b it m m none))) :
  WL P n c ops Q ({ dst:=some d,op:=.range t x,type:=ty,pos:=pos,after:=af,guard:=none }::rest) l H:=
 EH (λa w Z ha hw=>by
  obtain⟨es,ck,h1,h2⟩:=hw.ent hi;have hb:b<w.heap.size:=(Array.getElem?_eq_some_iff.1 h1).1;have hf:es.toList.filter (λe=>!(#[]:Array Nat).contains e.born)=es.toList:=List.filter_eq_self.2 λ_ _=>by simp
  obtain⟨f,h4,h5⟩:=h2.2.2.2;refine⟨.pointer (some ⟨w.heap.size,0,none⟩),w.alloc (.mapIter (some b) ck #[] ck),_,_,Z,?_,Fz.le.refl _,rfl,hw.set hi rfl rfl rfl (by simp) (λk hk _=>Below.heap_alloc w _ k hk) ?_ ?_,h w.heap.size⟩
  ·simp[execOp,ha.eval hx,run_range_map w t kt et b es ck ht h1]
  ·exact⟨es,ck,#[],ck,ck,(Below.heap_alloc w _ b hb).trans h1,by simpa using heap_alloc_new w _,h2,h2.2.2.1,Ql _,Ql _,Nat.ne_of_lt hb,⟨f,h4,by rw[hf];exact h5⟩,trivial⟩
  ·intro k hk;simp only[Ent.foot,QA,List.not_mem_nil,or_false] at hk;rcases hk with rfl | rfl
   ·exact .inl (by simp[Ent.foot])
   ·exact .inr (Ql _)) hn
theorem Oz (hx:ev l x=some (rv (.pointer (some ⟨it,0,none⟩))))(hi:H[i]? =some (.mit b it m (AI enc ys) cur))(hn:Nat.blt d n=true)
  (h0:ys=[]→WL P n c ops Q rest ((d,EP [rB false])::l) H)
  (h1:∀p ys',ys.Perm (p::ys')→WL P n c ops Q rest ((d,EP [rB true,rS p.1,enc p.2])::l) (H.set i (.mit b it m (AI enc ys') (some (p.1,enc p.2))))) :
  WL P n c ops Q ({ dst:=some d,op:=.next x false,type:=ty,pos:=pos,after:=af,guard:=none }::rest) l H:=
 EH (λa w Z ha hw=>by
  obtain⟨es,ck,seen,since,c0,q1,q2,q3,q4,q5,q6,q7,⟨f,q8,q9⟩,_⟩:=hw.ent hi;have hlf:(leftOf es seen).toList=es.toList.filter λe=>!seen.contains e.born:=by simp[leftOf]
  rcases run_next_at (P:=P) w ty it b since c0 seen es ck q2 q1 q4 q5 with⟨r1,r2⟩ | ⟨e,r1,w1,r2,r3⟩
  ·have he:es.toList.filter (λe=>!seen.contains e.born)=[]:=by rw[← hlf];exact Qr (by simpa using r1)
   rw[he] at q9;have hf:f=[]:=by cases f with
    | nil=>rfl
    | cons _ _=>exact absurd q9 id
   subst hf;have hy:ys=[]:=by
    have:=q8.length_eq;rw[Eh] at this;exact Qr this.symm
   exact⟨.tuple #[.bool false],w,EP [rB false],H,Z,by simp[execOp,ha.eval hx,r2],Fz.le.refl _,⟨[.bool false],rfl,rfl,trivial⟩,hw,h0 hy⟩
  ·rw[hlf] at r1;obtain⟨j,hj⟩:=List.mem_iff_getElem?.1 r1;obtain⟨k,r,e1,e2,e3⟩:=q9.at.2 j e hj;obtain⟨p,ys',s1,s2,s3,s4⟩:=Mu q8 e1;have hnl:((es.toList.filter λe=>!seen.contains e.born).map (·.born)).Nodup:=q3.2.1.sublist ((List.filter_sublist ..).map _);have hleft:es.toList.filter (λx=>!(seen.push e.born).contains x.born)=(es.toList.filter λe=>!seen.contains e.born).eraseIdx j:=by
    rw[← Gu (q:=λ_=>true) hnl hj,List.filter_filter];refine List.filter_congr λx _=>?_;simp only[Array.contains_push,Bool.not_or];rw[Bool.and_comm]
   have hd:St c H Z w1:=by
    rcases r2 with rfl | rfl
    ·exact hw
    ·exact hw.drawn _
   have q2':w1.heap[it]? =some (.mapIter (some b) since seen c0):=by rcases r2 with rfl | rfl<;>exact q2
   have q1':w1.heap[b]? =some (.map es ck):=by rcases r2 with rfl | rfl<;>exact q1
   obtain⟨t1,t2⟩:=MapKept.heap_set (o':=.mapIter (some b) since (seen.push e.born) ck) q2';refine⟨.tuple #[.bool true,e.key,e.val],ChangeMaps.setBlock w1 it (.mapIter (some b) since (seen.push e.born) ck),EP [rB true,rS p.1,enc p.2],H.set i (.mit b it m (AI enc ys') (some (p.1,enc p.2))),Z,by simp[execOp,ha.eval hx,r3],Fz.le.refl _,⟨[.bool true,e.key,e.val],rfl,rfl,?_,?_,trivial⟩,hd.set hi rfl rfl rfl (by simp[ChangeMaps.setBlock]) (λk' _ hk'=>t2 k' (λe'=>hk' (by simp[Ent.foot,e']))) ?_ (λk' hk'=>.inl (by simpa[Ent.foot] using hk')),h1 p ys' s1⟩
   ·show e.key = .string (B p.1);rw[s2];exact e2
   ·rw[s3];exact e3
   ·exact⟨es,ck,seen.push e.born,since,ck,(t2 b q7).trans q1',t1,q3,q4,Nat.le_trans q5 q6,Ql _,q7,⟨f.eraseIdx j,s4,by rw[hleft];exact q9.erase j⟩,rfl,seen,e,rfl,(List.mem_filter.1 r1).1,by rw[s2];exact e2,by rw[s3];exact e3⟩) hn
theorem St.unmit {Z:Fz}{w:World}(h:St c H Z w)(hi:H[i]? =some (.mit b it m lf cur)):St c (H.set i (.map b m)) Z w:=by
 obtain⟨es,ck,seen,since,c0,q1,q2,q3,_⟩:=h.ent hi;exact h.set hi rfl rfl rfl (Ql _) (λ_ _ _=>rfl) ⟨es,ck,q1,q3⟩ (by simp[Ent.foot])
theorem WK.unmit (hi:H[i]? =some (.mit b it m lf cur))(h:WK n c K l (H.set i (.map b m))):WK n c K l H:=λa w Z ha hw=>h a w Z ha (hw.unmit hi)
theorem WC.unmit (hi:H[i]? =some (.mit b it m lf cur))(h:WC P n c cx Q l (H.set i (.map b m))):WC P n c cx Q l H:=λa w Z ha hw=>h a w Z ha (hw.unmit hi)
theorem WL.unmit (hi:H[i]? =some (.mit b it m lf cur))(h:WL P n c ops Q rest l (H.set i (.map b m))):WL P n c ops Q rest l H:=λa w Z ha hw=>h a w Z ha (hw.unmit hi)
theorem St.uncur {Z:Fz}{w:World}(h:St c H Z w)(hi:H[i]? =some (.mit b it m lf cur)):St c (H.set i (.mit b it m lf none)) Z w:=by
 obtain⟨es,ck,seen,since,c0,q1,q2,q3,q4,q5,q6,q7,q8,_⟩:=h.ent hi;exact h.set hi rfl rfl rfl (Ql _) (λ_ _ _=>rfl) ⟨es,ck,seen,since,c0,q1,q2,q3,q4,q5,q6,q7,q8,trivial⟩ (λk hk=>.inl (by simpa[Ent.foot] using hk))
theorem WK.uncur (hi:H[i]? =some (.mit b it m lf cur))(h:WK n c K l (H.set i (.mit b it m lf none))):WK n c K l H:=λa w Z ha hw=>h a w Z ha (hw.uncur hi)
theorem ND {dd:Option Nat}{g:Option (Nat×Bool)}(hx:ev l x=some (rv (.pointer (some ⟨it,0,none⟩))))(hi:H[i]? =some (.mit b it m lf (some (k,r)))) :
  AT P n c l H { dst:=dd,op:=.entry x,type:=ty,pos:=pos,after:=af,guard:=g } (EP [rS k,r]):=λa w Z ha hw=>by
 obtain⟨es,ck,seen,since,c0,q1,q2,q3,q4,q5,q6,q7,q8,rfl,s0,e,rfl,h1,h2,h3⟩:=hw.ent hi;exact⟨.tuple #[e.key,e.val],⟨[e.key,e.val],rfl,h2,h3,trivial⟩,by simp[execOp,ha.eval hx,run_entry_at w it b since s0 es c0 e q2 q1 h1 q3.2.1]⟩
end
section
variable {P : Program} {n : Nat} {c : Cx} {opsA : Array Oper} {Q : Exit → Act → World → Prop} {l : Fr} {H : List Ent} {d : Nat} {ty : TypeId} {pos : String} {af : Array Edge}
end
section
variable {P : Program} {n : Nat} {c : Cx} {ops : Array Oper} {Q : Exit → Act → World → Prop} {rest : List Oper} {l : Fr} {H H' : List Ent} {d : Nat} {d' : Option Nat} {x y z3 : Operand} {ty t t' e : TypeId} {pos : String} {af : Array Edge} {g : Option (Nat × Bool)} {v u : Value} {r : Rp} {sz : Nat}
end
theorem A9.d1 {Z:Fz}{r0:Rp}{us:List Value}(h:A9 Z [r0] us):∃y0,us=[y0]∧A9 Z [r0] [y0]:=by
 match us,h.length with
 | [y0],_=>exact⟨_,rfl,h⟩
theorem A9.d2 {Z:Fz}{r0 r1:Rp}{us:List Value}(h:A9 Z [r0,r1] us):∃y0 y1,us=[y0,y1]∧A9 Z [r0,r1] [y0,y1]:=by
 match us,h.length with
 | [y0,y1],_=>exact⟨_,_,rfl,h⟩
theorem A9.d3 {Z:Fz}{r0 r1 r2:Rp}{us:List Value}(h:A9 Z [r0,r1,r2] us):∃y0 y1 y2,us=[y0,y1,y2]∧A9 Z [r0,r1,r2] [y0,y1,y2]:=by
 match us,h.length with
 | [y0,y1,y2],_=>exact⟨_,_,_,rfl,h⟩
theorem A9.d5 {Z:Fz}{r0 r1 r2 r3 r4:Rp}{us:List Value}(h:A9 Z [r0,r1,r2,r3,r4] us):∃y0 y1 y2 y3 y4,us=[y0,y1,y2,y3,y4]∧A9 Z [r0,r1,r2,r3,r4] [y0,y1,y2,y3,y4]:=by
 match us,h.length with
 | [y0,y1,y2,y3,y4],_=>exact⟨_,_,_,_,_,rfl,h⟩
theorem JA {α:Type}{sz:Nat}:∀{xs:List (List α)} (hs:∀c∈xs,c.length=sz) {k:Nat} {cl:List α},xs[k]? =some cl→∀(off m:Nat),off+m≤sz→((xs.flatten).drop (k*sz+off)).take m=(cl.drop off).take m
 | [],_,k,cl,h,_,_,_=>by simp at h
 | x::r,hs,0,cl,h,off,m,hm=>by
  simp at h;subst h;have hx:=hs x (by simp);simp only[List.flatten_cons,Nat.zero_mul,Q1];rw[List.drop_append_of_le_length (by omega),List.take_append_of_le_length (by simp;omega)]
 | x::r,hs,k+1,cl,h,off,m,hm=>by
  have hx:=hs x (by simp);simp only[List.flatten_cons];have e:(k+1)*sz+off=x.length+(k*sz+off):=by rw[hx,Nat.succ_mul];omega
  rw[e,List.drop_length_add_append];exact JA (λc hc=>hs c (by simp[hc])) (by simpa using h) off m hm
theorem JB {α:Type}{sz:Nat}:∀{xs:List (List α)} (hs:∀c∈xs,c.length=sz) {k:Nat} {cl rs:List α},xs[k]? =some cl→∀(off:Nat),off+rs.length≤sz→(xs.set k (cl.take off++rs++cl.drop (off+rs.length))).flatten=xs.flatten.take (k*sz+off)++rs++xs.flatten.drop (k*sz+off+rs.length)
 | [],_,k,cl,rs,h,_,_=>by simp at h
 | x::r,hs,0,cl,rs,h,off,hm=>by
  simp at h;subst h;have hx:=hs x (by simp);simp only[List.set_cons_zero,List.flatten_cons,Nat.zero_mul,Q1];rw[List.take_append_of_le_length (by omega),List.drop_append_of_le_length (by omega)];simp[QB]
 | x::r,hs,k+1,cl,rs,h,off,hm=>by
  have hx:=hs x (by simp);simp only[List.set_cons_succ,List.flatten_cons];have e:(k+1)*sz+off=x.length+(k*sz+off):=by rw[hx,Nat.succ_mul];omega
  have e2:x.length+(k*sz+off)+rs.length=x.length+(k*sz+off+rs.length):=by omega
  rw[JB (λc hc=>hs c (by simp[hc])) (by simpa using h) off hm,e,e2,List.take_length_add_append,List.drop_length_add_append];simp[QB]
section
variable {P : Program} {n : Nat} {c : Cx} {ops : Array Oper} {Q : Exit → Act → World → Prop} {rest : List Oper} {l : Fr} {H H' : List Ent} {d : Nat} {d' : Option Nat} {ty t e rty : TypeId} {pos : String} {af : Array Edge} {g : Option (Nat × Bool)} {x y u : Operand} {v : Value} {sz m : Nat}
theorem KD {α:Type}[Inhabited α]{ys:List α}{enc:α→List Rp}{i off:Nat}{j:Int}{rs:List Rp}(hag:∀w,(isAgg t).run P w = .ok true w)(hsz:∀w,(sizeOf t).run P w = .ok m w)(hx:ev l x=some (rv (Cz sz v j.toNat off)))(hi:H[i]? =some (.row v e sz (ys.map enc)))(hg:DU j (ys.length:Int)=true)
  (hle:Nat.ble (off+m) sz=true) (hr:((enc (Ao ys j)).drop off).take m=rs) :
  AT P n c l H { dst:=d',op:=.load t x,type:=ty,pos:=pos,after:=af,guard:=g } (Ba rs):=λa w Z ha hw=>by
 obtain⟨hs,us,⟨h1,h2⟩,h3⟩:=hw.ent hi;have h0:=(B3 hg).1;have hlt:j.toNat<ys.length:=by have:=(B3 hg).2;omega
 have eat:Ao ys j=ys[j.toNat]:=by simp[Ao,hlt]
 have hle':off+m≤sz:=by simpa using hle
 have hcl:(ys.map enc)[j.toNat]? =some (enc ys[j.toNat]):=by simp[hlt]
 have hcz:(enc ys[j.toNat]).length=sz:=hs _ (Qi hcl);have hseg:=JA hs hcl off m hle';rw[← eat,hr] at hseg;have h4:=(h3.drop (j.toNat*sz+off)).take m;rw[hseg] at h4;have hrl:rs.length=m:=by rw[← hr,eat];simp;omega
 rcases h2 with⟨rfl,hz⟩ | ⟨b,cap,cur,rfl,_,hg',hcap,hm,hcs,htk⟩
 ·simp at hz;subst hz;simp at hlt
 ·have h5:=run_loadCells_list (P:=P) w ⟨b,j.toNat*sz+off,none⟩ ((us.drop (j.toNat*sz+off)).take m) (λq w' hq=>by
   rw[EW,cell_of_row w b _ cur e (0,0) hg'];rw[Q5] at hq
   split at hq
   ·rw[List.getElem?_drop,← htk,Q5] at hq
    split at hq
    ·simpa using hq
    ·cases hq
   ·cases hq)
  rw[h4.length,hrl] at h5;exact⟨.agg ((us.drop (j.toNat*sz+off)).take m).toArray,⟨_,rfl,h4⟩,by simp[execOp,ha.eval hx,Cz,Instr.loadAt,Instr.sureAddr,loadVar,hag,hsz,h5]⟩
theorem Nr {α:Type}[Inhabited α]{ys:List α}{enc:α→List Rp}{i off:Nat}{j:Int}{rs:List Rp}{y':α}(hsz:∀w,(sizeOf t).run P w = .ok m w)(hx:ev l x=some (rv (Cz sz v j.toNat off)))(hy:ev l y=some (Ba rs))(hv:Bx H rs)(hi:H[i]? =some (.row v e sz (ys.map enc)))(hg:DU j (ys.length:Int)=true)
  (hl:rs.length=m) (hy':(enc (Ao ys j)).take off++rs++(enc (Ao ys j)).drop (off+m)=enc y') (hle:Nat.ble (off+m) sz=true) (hH:H.set i (.row v e sz ((ys.set j.toNat y').map enc))=H') (h:WL P n c ops Q rest l H') :
  WL P n c ops Q ({ dst:=none,op:=.store t x y,type:=ty,pos:=pos,after:=af,guard:=none }::rest) l H:=
 I0 λa w Z ha hw=>by
  obtain⟨hs,us,⟨h1,h2⟩,h3⟩:=hw.ent hi;have h0:=(B3 hg).1;have hlj:j.toNat<ys.length:=by have:=(B3 hg).2;omega
  have hle':off+m≤sz:=by simpa using hle
  have eat:Ao ys j=ys[j.toNat]:=by simp[Ao,hlj]
  obtain⟨vs,e1,h4⟩:=ha.ev hy;have hvl:=h4.length;have hone:∀v∈vs,v.oneCell'=true:=λv hv'=>hv.at hw h4 v hv';have hcl:(ys.map enc)[j.toNat]? =some (enc ys[j.toNat]):=by simp[hlj]
  have hcz:(enc ys[j.toNat]).length=sz:=hs _ (Qi hcl);rcases h2 with⟨rfl,hz⟩ | ⟨b,cap,cur,rfl,_,hg',hcap,hm,hcs,htk⟩
  ·simp at hz;subst hz;simp at hlj
  ·simp only[Qf] at h1 hcap htk;have hin:j.toNat*sz+off+m≤ys.length*sz:=by
    have:(j.toNat+1)*sz≤ys.length*sz:=Nat.mul_le_mul_right _ hlj;rw[Nat.succ_mul] at this;omega
   have hlc:j.toNat*sz+off+m≤cur.size:=by
    have:ys.length*sz≤cap*sz:=Nat.mul_le_mul_right _ hcap;omega
   have hvm:vs.length=m:=by omega
   have h5:=run_storeCells_at P b (j.toNat*sz+off) e vs 0 cur w hg' (by omega) hone;simp only[Nat.add_zero] at h5;have hset:((ys.set j.toNat y').map enc).flatten=(ys.map enc).flatten.take (j.toNat*sz+off)++rs++(ys.map enc).flatten.drop (j.toNat*sz+off+m):=by
    have:=JB hs hcl (rs:=rs) off (by omega);rw[hl] at this;rw[← this,List.map_set,← hy',eat]
   refine⟨w.setRow b (cur.toList.take (j.toNat*sz+off)++vs++cur.toList.drop (j.toNat*sz+off+vs.length)).toArray,H',?_,?_,h⟩
   ·simp only[QB] at h5 ⊢;rw[hvm] at h5 ⊢;simp[execOp,ha.eval hx,e1,Cz,Instr.storeAt,Instr.sureAddr,storeVar,hsz,Value.cells,hvm,h5]
   ·subst hH;refine hw.set hi rfl rfl rfl (by simp[World.setRow]) (λk _ hk=>?_) ⟨?_,us.take (j.toNat*sz+off)++vs++us.drop (j.toNat*sz+off+m),⟨?_,.inr ⟨b,cap,_,by simp,Q8 _,setRow_heap w b cur _ e (0,0) hg',by simpa using hcap,hm,?_,?_⟩⟩,?_⟩ (by simp[Ent.foot,Value.ownBlock])
    ·simp only[Ent.foot,Value.ownBlock,Option.mem_toList,Option.mem_def,Option.some.injEq] at hk;simp only[World.setRow,Array.getElem?_modify];rw[QE hk]
    ·intro cl hcl';rw[List.map_set] at hcl';rcases List.mem_or_eq_of_mem_set hcl' with h' | rfl
     ·exact hs cl h'
     ·rw[← hy',eat];simp;omega
    ·simp;omega
    ·simp;omega
    ·have hu1:us.take (j.toNat*sz+off)=cur.toList.take (j.toNat*sz+off):=by rw[← htk,List.take_take,Nat.min_eq_left (by omega)]
     have hu2:us.drop (j.toNat*sz+off+m)=(cur.toList.drop (j.toNat*sz+off+m)).take (ys.length*sz-(j.toNat*sz+off+m)):=by rw[← htk,List.drop_take]
     rw[hu1,hu2,Qf,List.length_set,hvm];have e2:(List.take (j.toNat*sz+off) cur.toList++vs).length=j.toNat*sz+off+m:=by simp;omega
     have e3:ys.length*sz=(List.take (j.toNat*sz+off) cur.toList++vs).length+(ys.length*sz-(j.toNat*sz+off+m)):=by rw[e2];omega
     conv=>lhs;rw[show ys.length*sz=(List.take (j.toNat*sz+off) cur.toList++vs).length+(ys.length*sz-(j.toNat*sz+off+m)) from e3]
     rw[List.take_length_add_append]
    ·rw[hset];exact((h3.take _).append h4).append (h3.drop _)
def Hz (sz:Nat)(v:Value)(j:Nat):Value:=match v with
 | .slice A len cap=>.slice (if cap=j then A else A.map (·.add (j*sz))) (len-j) (cap-j)
 | v=>v
theorem O9 {α:Type}{ys:List α}{enc:α→List Rp}{i:Nat}{k:IntKind}{j:Int}(ht:P.underlying t=some (.slice e))(hz:∀w,(sizeOf e).run P w = .ok sz w)(hx:ev l x=some (rv v))(hy:ev l y=some (rI k j))(hi:H[i]? =some (.row v e sz (ys.map enc)))(hg:MN j (ys.length:Int)=true) :
  AT P n c l H { dst:=d',op:=.slice t x (some y) none none,type:=ty,pos:=pos,after:=af,guard:=g } (rv (Hz sz v j.toNat)):=λa w Z ha hw=>C1<|by
 obtain⟨h0,us,⟨h1,h2⟩,h3⟩:=hw.ent hi;have g0:=(E5 hg).1;have g1:=(E5 hg).2;rcases h2 with⟨rfl,hz0⟩ | ⟨b,cap,cur,rfl,_,hb,hcap,hm,hcs,htk⟩
 ·simp at hz0;subst hz0;obtain rfl:j=0:=by simp at g1;omega
  simp[execOp,ha.eval hx,ha.eval hy,Instr.sliceAt,Instr.slice,run_underlying ht,Instr.sliceBounds,C6 (m:=0) _ _ (Q4 0) (Q4 0),hz,Hz]
 ·simp only[Qf] at h1 hcap htk;simp[execOp,ha.eval hx,ha.eval hy,Instr.sliceAt,Instr.slice,run_underlying ht,Instr.sliceBounds,C6 (m:=ys.length) _ _ g0 g1,hz,Hz]
theorem HO (zc:List Value)(hz:0<zc.length):∀k,(Builtin.zeroCells zc.toArray k).toList=(List.replicate k zc).flatten:=by
 intro k;have hl:((List.replicate k zc).flatten).length=k*zc.length:=by simp
 apply List.ext_getElem
 ·simp[Builtin.zeroCells]
 ·intro i h1 h2;have hi:i<k*zc.length:=by rw[← hl];exact h2
  have hm:i % zc.length<zc.length:=Nat.mod_lt _ hz;have hq:i/zc.length<k:=by rw[Nat.div_lt_iff_lt_mul hz];exact hi
  have e1:(Builtin.zeroCells zc.toArray k).toList[i]=zc[i % zc.length]:=by
   simp[Builtin.zeroCells,hm]
  have e2:=D6 (sz:=zc.length) (vs:=List.replicate k zc) (λc hc=>by rw[List.eq_of_mem_replicate hc]) (i:=i/zc.length) (c:=zc) (by simp[hq]) (j:=i % zc.length) (u:=zc[i % zc.length]) (by simp[hm]);have e3:i/zc.length*zc.length+i % zc.length=i:=Nat.div_add_mod' i zc.length;rw[e3] at e2;rw[e1];exact(Option.some.inj ((PZ h2).symm.trans e2)).symm
theorem I3 {α:Type}{ys:List α}{enc:α→List Rp}{i:Nat}{j:Int}{z0:α}{zz:Value}{zc:List Value}(ht:P.underlying t=some (.slice e))(hzv:∀w,(zeroValue e).run P w = .ok zz w)(hzz:zz.cells.toList=zc)(hzl:zc.length=sz)(hsz:Nat.blt 0 sz=true)(hone:∀v∈zc,v.oneCell'=true)(hzr:∀Z,A9 Z (enc z0) zc)(hel:(enc z0).length=sz)
  (hx:ev l x=some (rv (Hz sz v j.toNat))) (hi:H[i]? =some (.row v e sz (ys.map enc))) (hg:MN j (ys.length:Int)=true) (hH:H.set i (.row v e sz ((ys.take j.toNat++List.replicate (ys.length-j.toNat) z0).map enc))=H') (h:WL P n c ops Q rest l H') :
  WL P n c ops Q ({ dst:=none,op:=.call { callee:=.builtin .clear,args:=#[x],argTypes:=#[t] },type:=ty,pos:=pos,after:=af,guard:=none }::rest) l H:=
 Of (λa w Z ha hw=>by
  obtain⟨h0,us,⟨h1,h2⟩,h3⟩:=hw.ent hi;have g0:=(E5 hg).1;have g1:=(E5 hg).2;subst hH;have hz0:0<sz:=by simpa using hsz
  have hcells:zz.cells=zc.toArray:=by rw[← hzz]
  rcases h2 with⟨rfl,hz1⟩ | ⟨b,cap,cur,rfl,_,hb,hcap,hm,hcs,htk⟩
  ·simp at hz1;subst hz1;refine⟨.tuple #[],w,_,?_,hw.set (e':=.row (.slice none 0 0) e sz ((([]:List α).take j.toNat++List.replicate (([]:List α).length-j.toNat) z0).map enc)) hi rfl rfl rfl (Ql _) (λ_ _ _=>rfl) ⟨by simp,[],⟨by simp,.inl ⟨rfl,by simp⟩⟩,by simp[A9]⟩ (by simp[Ent.foot,Value.ownBlock]),h⟩
   ·have e0:Hz sz (.slice none 0 0) j.toNat = .slice none 0 0:=by simp[Hz]
    simp[execOp,resolve,invoke,builtin,ha.eval hx,e0,Builtin.clear_,run_underlying ht]
  ·simp only[Qf] at h1 hcap htk;have hjl:j.toNat≤ys.length:=by omega
   by_cases hjn:ys.length=j.toNat
   ·refine⟨.tuple #[],w,_,?_,?_,h⟩
    ·have hn0:ys.length-j.toNat=0:=by omega
     simp only[execOp,resolve,invoke,builtin,ha.eval hx,Hz,hn0]
     by_cases hc:cap=j.toNat
     ·simp[ha.eval hx,Hz,hn0,hc,Builtin.clear_,run_underlying ht]
     ·simp[ha.eval hx,Hz,hn0,hc,Builtin.clear_,run_underlying ht]
    ·have e0:ys.take j.toNat++List.replicate (ys.length-j.toNat) z0=ys:=by rw[← hjn];simp
     rw[e0];have:H.set i (.row (.slice (some ⟨b,0,none⟩) (ys.map enc).length cap) e sz (ys.map enc))=H:=by
      obtain⟨hl,he⟩:=List.getElem?_eq_some_iff.1 hi;rw[← he,List.set_getElem_self]
     rw[this];exact hw
   ·have hc : ¬ cap=j.toNat:=by omega
    obtain⟨q,hq⟩:∃q,ys.length-j.toNat=q+1:=⟨ys.length-j.toNat-1,by omega⟩
    have hin:j.toNat*sz+(q+1)*sz=ys.length*sz:=by rw[← Nat.add_mul];congr 1;omega
    have hlen:((List.replicate (q+1) zc).flatten).length=(q+1)*sz:=by simp[hzl]
    have hcc:ys.length*sz≤cap*sz:=Nat.mul_le_mul_right _ hcap;have h5:=run_storeCells_at P b (j.toNat*sz) e ((List.replicate (q+1) zc).flatten) 0 cur w hb (by rw[hlen];omega) (λv hv=>by
     obtain⟨cl,hcl,hv'⟩:=List.mem_flatten.1 hv;rw[List.eq_of_mem_replicate hcl] at hv';exact hone v hv')
    simp only[Nat.add_zero] at h5;rw[hlen,hin] at h5;refine⟨.tuple #[],w.setRow b (cur.toList.take (j.toNat*sz)++(List.replicate (q+1) zc).flatten++cur.toList.drop (ys.length*sz)).toArray,_,?_,?_,h⟩
    ·have hzc:=HO zc (by omega) (q+1);have e1:(a.eval x) = .slice (some ⟨b,j.toNat*sz,none⟩) (q+1) (cap-j.toNat):=by
      rw[ha.eval hx];simp[Hz,hc,hq,EW]
     simp[execOp,resolve,invoke,builtin,e1,Builtin.clear_,run_underlying ht,hzv,hcells,hzc,h5]
    ·refine hw.set hi rfl rfl rfl (by simp[World.setRow]) (λk _ hk=>?_) ⟨?_,us.take (j.toNat*sz)++(List.replicate (q+1) zc).flatten,⟨?_,.inr ⟨b,cap,_,?_,Q8 _,setRow_heap w b cur _ e (0,0) hb,?_,hm,?_,?_⟩⟩,?_⟩ (by simp[Ent.foot,Value.ownBlock])
     ·simp only[Ent.foot,Value.ownBlock,Option.mem_toList,Option.mem_def,Option.some.injEq] at hk;simp only[World.setRow,Array.getElem?_modify];rw[QE hk]
     ·intro cl hcl;rw[List.map_append] at hcl;rcases List.mem_append.1 hcl with h' | h'
      ·rw[List.map_take] at h';exact h0 cl (List.mem_of_mem_take h')
      ·rw[List.map_replicate] at h';rw[List.eq_of_mem_replicate h'];exact hel
     ·rw[Qm,hlen];simp[Nat.min_eq_left hjl,h1,hq];have:j.toNat*sz≤ys.length*sz:=Nat.mul_le_mul_right _ hjl
      first | rw[← Nat.add_mul] | (rw[Nat.min_eq_left this,← Nat.add_mul])
     ·simp[Nat.min_eq_left hjl];omega
     ·simp;omega
     ·have:j.toNat*sz≤ys.length*sz:=Nat.mul_le_mul_right _ hjl;rw[List.size_toArray,Qm,Qm,hlen,List.length_take,List.length_drop,Array.length_toList,Nat.min_eq_left (by omega)];omega
     ·have:j.toNat*sz≤ys.length*sz:=Nat.mul_le_mul_right _ hjl;have e2:((ys.take j.toNat++List.replicate (ys.length-j.toNat) z0).map enc).length*sz=(cur.toList.take (j.toNat*sz)++(List.replicate (q+1) zc).flatten).length:=by
       rw[Qm,hlen];simp[Nat.min_eq_left hjl,hq];rw[Nat.min_eq_left (by omega),← Nat.add_mul]
      rw[e2,List.take_left' rfl]
      congr 1
      rw[← htk,List.take_take,Nat.min_eq_left this]
     ·rw[List.map_append,List.flatten_append,List.map_take,List.map_replicate,hq];refine A9.append ?_ ?_
      ·have:((ys.map enc).take j.toNat).flatten=(ys.map enc).flatten.take (j.toNat*sz):=by
        clear h3 h1 htk hcs hcap g1 hi hw h5 hin hcc hlen hjn hc hq hjl hm hb;generalize ys.map enc=zs at h0;have key:∀(zs:List (List Rp)) (k:Nat),(∀c∈zs,c.length=sz)→(zs.take k).flatten=zs.flatten.take (k*sz):=by
         intro zs
         induction zs with
         | nil=>intro k _;simp
         | cons z zs ih=>
          intro k hk
          cases k with
          | zero=>simp
          | succ k=>
           have hzl:=hk z (by simp);simp only[List.take_succ_cons,List.flatten_cons];rw[ih k (λc hc=>hk c (by simp[hc]))];have e1:(k+1)*sz=z.length+k*sz:=by rw[hzl,Nat.succ_mul];omega
           rw[e1,List.take_length_add_append]
        exact key zs _ h0
       rw[this];exact h3.take _
      ·clear h5 hin hlen hq;generalize q+1=k
       induction k with
       | zero=>exact trivial
       | succ k ih=>rw[List.replicate_succ,List.replicate_succ,List.flatten_cons,List.flatten_cons];exact(hzr Z).append ih)
end
end Go.Proofs.YtkoiaconljdbeaaDoor.Q
namespace Go.Proofs.YtkoiaconljdbeaaDoor
open Go
end Go.Proofs.YtkoiaconljdbeaaDoor
namespace Go.Proofs.YtkoiaconljdbeaaDoor.Q
open Go Go.RowKit
set_option linter.unusedVariables false
set_option linter.unusedSimpArgs false
section
variable {P : Program} {n : Nat} {c : Cx} {Q : Exit → Act → World → Prop} {l : Fr} {H : List Ent} {x rest' : Code} {K : Act → World → Prop}
end
section
variable {P : Program} {n : Nat} {c : Cx} {ops : Array Oper} {Q : Exit → Act → World → Prop} {rest : List Oper} {l : Fr} {H H' : List Ent} {d : Nat} {d' : Option Nat} {x y z3 z4 : Operand} {ty t t' e : TypeId} {pos : String} {af : Array Edge} {g : Option (Nat × Bool)} {v u : Value} {r : Rp} {sz : Nat}
theorem NC {i:Nat}{rs:List Rp}{fs:Array Field}{f:Field}(hu:P.underlying t=some (.struct fs))(hf:fs[i]? =some f)(hag:∀w,(isAgg f.type).run P w = .ok false w)(hx:ev l x=some (Ba rs))(hr:rs[f.offset]? =some r) :
  AT P n c l H { dst:=d',op:=.field t x i,type:=ty,pos:=pos,after:=af,guard:=g } r:=λa w Z ha hw=>by
 obtain⟨us,e1,hus⟩:=ha.ev hx;obtain⟨v,hv,hp⟩:=hus.at hr;exact⟨v,hp,by simp[execOp,e1,Instr.field,run_underlying hu,hf,asAgg,part,hag,hv]⟩
end
structure Sx (U:Type) where
 deps:List Nat
 r:U→Rp
 dyn:Bool:=false
 old:List Nat:=[]
def LK {U:Type}(sp:List (Sx U))(i:Nat):Sx U:=sp.getD i { deps:=[],r:=λ_=>rv undef }
def Py {U:Type}(sp:List (Sx U))(u:U):List Sp:=sp.map λs=>⟨s.deps,s.r u,0⟩
def NZ {U:Type}:List (Sx U)→Prop
 | []=>True
 | s::r=>(s.dyn=false→∀u u',s.r u=s.r u')∧NZ r
theorem NZ.at {U:Type}:∀{sp:List (Sx U)},NZ sp→∀{i:Nat} {s:Sx U},sp[i]? =some s→s.dyn=false→∀u u',s.r u=s.r u'
 | [],_,i,s,h=>by simp at h
 | x::sp,⟨h1,h2⟩,0,s,h=>by simp at h;subst h;exact h1
 | x::sp,⟨h1,h2⟩,i+1,s,h=>NZ.at h2 (by simpa using h)
def Gn (lw:Fr):List Nat→Fr→Fr
 | [],l=>l
 | d::r,l=>match look lw d with
  | some q=>(d,q)::Gn lw r l
  | none=>Gn lw r l
section
variable (P : Program) (n : Nat) (c : Cx) (opsA : Array Oper) (Q : Exit → Act → World → Prop)
def PN {U:Type}(l:Fr)(H:List Ent)(o:Oper)(r:U→Rp)(H1:U→List Ent):Prop:=
 ∀a w Z (K:Act→World→Prop),B6 n l a Z→St c H Z w→(∀u v w' Z',Fz.le Z Z'→(r u).p Z' v→St c (H1 u) Z' w'→K (a.put o.dst v) w')→
  Region.wanted o (yielded opsA a.tmps)=true∧o.wp P a w K Q
def Od {U:Type}(ops:List Oper)(sp:List (Sx U))(l0 lw:Fr)(i0:Nat)(H:List Ent)(H1:U→List Ent):Nat→List Oper→Prop
 | i,o::rest=>(if i=i0 then(∀u,PN P n c opsA Q (Gn lw (LK sp i).old (Bo ops (Py sp u) (LK sp i).deps l0)) H o (LK sp i).r H1) else ∀u H,CO P n c opsA Q (Gn lw (LK sp i).old (Bo ops (Py sp u) (LK sp i).deps l0)) H o ((LK sp i).r u) H)∧Od ops sp l0 lw i0 H H1 (i+1) rest
 | _,[]=>True
end
section
variable {P : Program} {n : Nat} {c : Cx} {opsA : Array Oper} {Q : Exit → Act → World → Prop} {l l0 lw : Fr} {U : Type} {H : List Ent} {H1 : U → List Ent} {sp : List (Sx U)} {i0 : Nat}
theorem Od.at {ops:List Oper}:∀{k:Nat} {rest:List Oper},Od P n c opsA Q ops sp l0 lw i0 H H1 k rest→∀(t:Nat) o,rest[t]? =some o→
  (if k+t=i0 then(∀u,PN P n c opsA Q (Gn lw (LK sp (k+t)).old (Bo ops (Py sp u) (LK sp (k+t)).deps l0)) H o (LK sp (k+t)).r H1) else ∀u H,CO P n c opsA Q (Gn lw (LK sp (k+t)).old (Bo ops (Py sp u) (LK sp (k+t)).deps l0)) H o ((LK sp (k+t)).r u) H)
 | k,o::rest,⟨h1,h2⟩,t,o',ht=>by
  cases t with
  | zero=>simp at ht;subst ht;exact h1
  | succ t=>
   have:=Od.at h2 t o' (by simpa using ht);rw[show k+(t+1)=k+1+t from by omega];exact this
 | _,[],_,t,o,h=>by simp at h
end
section
variable {P : Program} {n : Nat} {c : Cx} {opsA : Array Oper} {Q : Exit → Act → World → Prop} {l : Fr} {H : List Ent} {d : Nat} {x y : Operand} {ty t e : TypeId} {pos : String} {af : Array Edge} {v : Value} {sz : Nat}
end
abbrev Ux:=Nat→Nat→Value×Nat
def Ag (k:Nat)(u u':Ux):Prop:=∀j,j<k→u j=u' j
structure Sy where
 deps:List Nat
 r:Ux→Rp
 lv:Nat:=0
 fx:Bool:=false
 old:List Nat:=[]
def LJ (sp:List Sy)(i:Nat):Sy:=sp.getD i { deps:=[],r:=λ_=>rv undef }
def P7 (sp:List Sy)(u:Ux):List Sp:=sp.map λs=>⟨s.deps,s.r u,0⟩
def KV:List Sy→Prop
 | []=>True
 | s::r=>(∀u u',Ag s.lv u u'→s.r u=s.r u')∧KV r
theorem KV.at:∀{sp:List Sy},KV sp→∀{i:Nat} {s:Sy},sp[i]? =some s→∀u u',Ag s.lv u u'→s.r u=s.r u'
 | [],_,i,s,h=>by simp at h
 | x::sp,⟨h1,h2⟩,0,s,h=>by simp at h;subst h;exact h1
 | x::sp,⟨h1,h2⟩,i+1,s,h=>KV.at h2 (by simpa using h)
def cnt (S:Nat→Bool)(is:List Nat):Nat:=(is.filter S).length
section
variable (P : Program) (n : Nat) (c : Cx) (opsA : Array Oper) (Q : Exit → Act → World → Prop)
def PS (l:Fr)(H:List Ent)(o:Oper)(k:Nat)(u:Ux)(r:Ux→Rp)(H1:Ux→List Ent):Prop:=
 ∀a w Z (K:Act→World→Prop),B6 n l a Z→St c H Z w→(∀u' v w' Z',Ag k u u'→Fz.le Z Z'→(r u').p Z' v→St c (H1 u') Z' w'→K (a.put o.dst v) w')→
  Region.wanted o (yielded opsA a.tmps)=true∧o.wp P a w K Q
def PO (ops:List Oper)(sp:List Sy)(l0 lw:Fr)(is:List Nat)(hs:List (Ux→List Ent))(i:Nat)(o:Oper):Prop:=
 match is.findIdx? (λx=>Nat.beq x i) with
 | some k=>∀u,PS P n c opsA Q (Gn lw (LJ sp i).old (Bo ops (P7 sp u) (LJ sp i).deps l0)) (hs.getD k (λ_=>[]) u) o k u (LJ sp i).r (hs.getD (k+1) (λ_=>[]))
 | none=>if (LJ sp i).fx=true then ∀u,CO P n c opsA Q (Gn lw (LJ sp i).old (Bo ops (P7 sp u) (LJ sp i).deps l0)) (hs.getD (LJ sp i).lv (λ_=>[]) u) o ((LJ sp i).r u) (hs.getD (LJ sp i).lv (λ_=>[]) u)
  else ∀u H,CO P n c opsA Q (Gn lw (LJ sp i).old (Bo ops (P7 sp u) (LJ sp i).deps l0)) H o ((LJ sp i).r u) H
def Oc (ops:List Oper)(sp:List Sy)(l0 lw:Fr)(is:List Nat)(hs:List (Ux→List Ent)):Nat→List Oper→Prop
 | i,o::rest=>PO P n c opsA Q ops sp l0 lw is hs i o∧Oc ops sp l0 lw is hs (i+1) rest
 | _,[]=>True
end
section
variable {P : Program} {n : Nat} {c : Cx} {opsA : Array Oper} {Q : Exit → Act → World → Prop} {l l0 lw : Fr} {H : List Ent} {hs : List (Ux → List Ent)} {sp : List Sy} {is : List Nat}
theorem Oc.at {ops:List Oper}:∀{k:Nat} {rest:List Oper},Oc P n c opsA Q ops sp l0 lw is hs k rest→∀(t:Nat) o,rest[t]? =some o→PO P n c opsA Q ops sp l0 lw is hs (k+t) o
 | k,o::rest,⟨h1,h2⟩,t,o',ht=>by
  cases t with
  | zero=>simp at ht;subst ht;exact h1
  | succ t=>
   have:=Oc.at h2 t o' (by simpa using ht);rw[show k+(t+1)=k+1+t from by omega];exact this
 | _,[],_,t,o,h=>by simp at h
end
section
variable {P : Program} {n : Nat} {c : Cx} {opsA : Array Oper} {Q : Exit → Act → World → Prop} {l : Fr} {H : List Ent} {d : Nat} {x y : Operand} {ty t e : TypeId} {pos : String} {af : Array Edge} {v : Value} {sz : Nat}
end
set_option maxRecDepth 100000
set_option maxHeartbeats 4000000
@[reducible] def Ad (x:Ab):List Rp:=[rS x.fID,rI .i64 x.fAt,rS x.fTenant,rS x.fSource,Bl 4 (List.map Af x.fBody)]
theorem Em (x:Ab):(Ad x).length=5:=rfl
theorem El (x:Ab):(Ad x).all (·.one)=true:=rfl
theorem OF:∃inf,Tryd.prog.info? 70=some inf∧inf.zero=some (.agg #[(.int .i64 0),(.int .i64 0),(.string ⟨#[]⟩),(.int .i64 0)])∧inf.size=4∧inf.bytes=40:=by
  have key:(Tryd.prog.info? 70).map (λi=>(i.zero,i.size,i.bytes))=some (some (.agg #[(.int .i64 0),(.int .i64 0),(.string ⟨#[]⟩),(.int .i64 0)]),4,40):=by kernel_rfl
  obtain⟨inf,h1,h2⟩:=Option.map_eq_some_iff.1 key;simp only[Prod.mk.injEq] at h2;exact⟨inf,h1,h2.1,h2.2.1,h2.2.2⟩
theorem MX (ys:(List Ac))(r:(List Ac))(h:HI ys=some r):Fn Tryd.prog GE 35 [Bl 4 (List.map Af ys)] [] (λR H=>R=Bl 4 (List.map Af r)∧H=[]):=by
 refine enter (n:=8) Tryd.func35 rfl Tryd.ntmps35 rfl (λw Z=>?_);refine Be (l':=[(0,Bl 4 (List.map Af ys))]) (H':=[]) rfl rfl ?_;unfold HI at h;refine At (wv (r:=rv (.slice none 0 0)) (Am rfl) (A3 (Ay (At (wm rfl (wv (Ln DW rfl) (A3 (LW rfl (λc1=>?_) (λc1=>?_)))))))))
 ·have e2:ys=[]:=List.map_eq_nil_iff.1 (c1 rfl);have h3:some ([]:List Ac)=some r:=by rw[e2] at h;exact(AM h).2
  refine At (wv (r:=rv (.slice none 0 0)) (Am rfl) (A3 (A5 (Ak (WK.up (d:=2) (r:=Bl 4 (List.map Af ([]:List Ac))) rfl (Up.le (JN.nil _)) ?_)))));obtain rfl:=A8 h3;exact A4 (B7 Tryd.results35 (AX rfl)) sN ⟨rfl,rfl⟩
 ·refine AD (Bb (At (C3 (ys:=([]:List Ac)) (enc:=Af) (css:=[]) (xs:=[]) DW GQ Ov rfl rfl rfl trivial rfl CL rfl rfl rfl (λb4=>?_))));refine wm rfl ?_;obtain⟨g6,h7⟩:=AM h;obtain⟨inf,hinf⟩:=OF;refine EZ (xs:=([]:List Ac)) (ys:=ys) (enc:=Af) (i:=0) DW hinf.1 hinf.2.1 hinf.2.2.1 hinf.2.2.2 rfl rfl rfl rfl rfl (Ng.z rfl rfl) CL HX g6 rfl (λv5=>?_);refine wa rfl (A3 (A5 (WK.freeze (i:=0) rfl (WK.up (d:=2) (r:=Bl 4 (List.map Af (([]:List Ac)++ys))) rfl (Up.fact (i:=0) rfl) ?_))));obtain rfl:=A8 h7;exact A4 (B7 Tryd.results35 (AX rfl)) (sS sN) ⟨rfl,rfl⟩
theorem K1 (n:Int)(r:Bool)(h:DM n=some r):Fn Tryd.prog GE 34 [rI .i64 n] [] (λR H=>R=rB r∧H=[]):=by
 refine enter (n:=9) Tryd.func34 rfl Tryd.ntmps34 rfl (λw Z=>?_);refine Be (l':=[(0,rI .i64 n)]) (H':=[]) rfl rfl ?_;unfold DM at h;refine At (wv (r:=rB false) (Am rfl) (A3 (AH [(2,rB ((decide (0≤n))&&(decide (n≤1073741824))))] [] ?_ ?_)))
 ·refine Au (wm rfl (wv (HV rfl rfl) (wm rfl (AG (decide (0≤n)) (λc1=>?_) (λc1=>?_)))))
  ·refine wo c1 (wm rfl (wo c1 (wv (HU rfl rfl) (Hm rfl c1 rfl (wa rfl (Ar ?_))))));exact CM c1
  ·refine wf c1 (wf c1 (wv (r:=rB false) (A1 (b:=decide (0≤n)) rfl c1 rfl) (wa rfl (Ar ?_))));exact CM c1
 refine A5 ?_;obtain rfl:=A8 h;exact A4 (B7 Tryd.results34 (AX rfl)) sN ⟨rfl,rfl⟩
theorem Mg (F:Nat)(t:Ab)(r:Int)(h:Hy F t=some r):Fn Tryd.prog GE 33 [Ba (Ad t)] [] (λR H=>R=rI .i64 r∧H=[]):=by
 refine enter (n:=27) Tryd.func33 rfl Tryd.ntmps33 rfl (λw Z=>?_);refine Be (l':=[(0,Ba (Ad t))]) (H':=[]) rfl rfl ?_;unfold Hy at h;refine At (Bz rfl rfl (λb1=>?_));refine wv (r:=rI .i64 0) (Am rfl) (A3 (Ay (AP (At (wv (Ae BD rfl DA rfl rfl) (wv (Az (i:=0) DR rfl rfl rfl) (DC (rs:=[rS t.fID]) (r:=rB (MO t.fID)) Tryd.call43 rfl (PE t.fID) rfl rfl (wv (BQ rfl) (wa rfl (A3 (A7 (b:=!(MO t.fID)) rfl (λc2=>?_) (λc2=>?_))))))))))))
 ·have h3:=AN c2 h;refine At (wv (r:=rI .i64 4) (Am rfl) (A3 (A5 (AB (Ak ?_)))));obtain rfl:=A8 h3;exact A4 (B7 Nl (AX rfl)) (sS sN) ⟨rfl,rfl⟩
 ·have h4:=AO c2 h;refine At (wv (Ae BD rfl CV rfl rfl) (wv (Az (i:=0) Dr rfl rfl rfl) ?_));obtain⟨r5,e7,h6⟩:=AL h4;refine GX Tryd.call34 (K1 t.fAt r5 e7) rfl (wv (BQ rfl) (wa rfl (A3 (A7 (b:=!r5) rfl (λc8=>?_) (λc8=>?_)))))
  ·have h9:=AN c8 h6;refine At (wv (r:=rI .i64 2) (Am rfl) (A3 (A5 (AB (Ak ?_)))));obtain rfl:=A8 h9;exact A4 (B7 Nl (AX rfl)) (sS sN) ⟨rfl,rfl⟩
  ·have hd:=AO c8 h6;refine AH [(1,rv (.pointer (some ⟨b1,0,none⟩))),(13,rB ((!(Ct t.fTenant))||(!(Ct t.fSource))))] [.blk b1 (Ad t) 33] ?_ ?_
   ·refine Au (wv (Ae BD rfl DA rfl rfl) (wv (Az (i:=0) DR rfl rfl rfl) (DC (rs:=[rS t.fTenant]) (r:=rB (Ct t.fTenant)) Tryd.call44 rfl (M7 t.fTenant) rfl rfl (wv (BQ rfl) (wm rfl (AG (!(Ct t.fTenant)) (λha=>?_) (λha=>?_)))))))
    ·refine wf ha (wf ha (wf ha (wf ha (wv (r:=rB true) (Ap (b:=!(Ct t.fTenant)) rfl ha rfl) (wa rfl (Ar ?_))))));exact CM ha
    ·refine wo ha (wv (Ae BD rfl DA rfl rfl) (wo ha (wv (Az (i:=0) DR rfl rfl rfl) (wo ha (DC (rs:=[rS t.fSource]) (r:=rB (Ct t.fSource)) Tryd.call44 rfl (M7 t.fSource) rfl rfl (wo ha (wv (BQ rfl) (Hn rfl ha rfl (wa rfl (Ar ?_))))))))));exact CM ha
   refine A7 (b:=((!(Ct t.fTenant))||(!(Ct t.fSource)))) rfl (λhb=>?_) (λhb=>?_)
   ·have he:=AN hb hd;refine At (wv (r:=rI .i64 4) (Am rfl) (A3 (A5 (AB (Ak ?_)))));obtain rfl:=A8 he;exact A4 (B7 Nl (AX rfl)) (sS sN) ⟨rfl,rfl⟩
   ·have hf:=AO hb hd;refine AD (AV (Bb (At (wv (Ae BD rfl GR rfl rfl) (wv (Az (i:=0) HS rfl rfl rfl) ?_)))));obtain⟨hg,hh,hi⟩:=AL hf;refine GX Tryd.call45 (LZ F t.fBody hg hh) rfl (wa rfl (A3 (A5 ?_)));obtain rfl:=A8 hi;exact A4 (B7 Nl (AX rfl)) (sS sN) ⟨rfl,rfl⟩
theorem Mb (t:Ab)(r:Ab)(h:Le t=some r):Fn Tryd.prog GE 22 [Ba (Ad t)] [] (λR H=>R=Ba (Ad r)∧H=[]):=by
 refine enter (n:=8) Tryd.func22 rfl Tryd.ntmps22 rfl (λw Z=>?_);refine Be (l':=[(0,Ba (Ad t))]) (H':=[]) rfl rfl ?_;unfold Le at h;refine At (Bz rfl rfl (λb1=>?_));refine C4 (cs:=[rS ([]:Ai),rI .i64 0,rS ([]:Ai),rS ([]:Ai),rv (.slice none 0 0)]) LN rfl rfl (λb2=>?_);refine C2 (wv (Ae BD rfl GR rfl rfl) (wv (Az (i:=1) HS rfl rfl rfl) ?_));obtain⟨r3,e5,h4⟩:=AL h;refine GX Tryd.call35 (MX t.fBody r3 e5) rfl (wv (Ae BD rfl GR rfl rfl) (Cj (i:=1) GR rfl rfl (BL rfl) rfl rfl (cs':=[rS t.fID,rI .i64 t.fAt,rS t.fTenant,rS t.fSource,Bl 4 (List.map Af r3)]) rfl (H':=[.blk b2 [rS ([]:Ai),rI .i64 0,rS ([]:Ai),rS ([]:Ai),rv (.slice none 0 0)] 33,.blk b1 [rS t.fID,rI .i64 t.fAt,rS t.fTenant,rS t.fSource,Bl 4 (List.map Af r3)] 33]) rfl (C2 (wv (Bc (i:=1) DX BE rfl rfl rfl rfl) (B1 (i:=0) BE rfl rfl rfl (Bx.c rfl) rfl rfl (cs':=[rS t.fID,rI .i64 t.fAt,rS t.fTenant,rS t.fSource,Bl 4 (List.map Af r3)]) rfl (H':=[.blk b2 [rS t.fID,rI .i64 t.fAt,rS t.fTenant,rS t.fSource,Bl 4 (List.map Af r3)] 33,.blk b1 [rS t.fID,rI .i64 t.fAt,rS t.fTenant,rS t.fSource,Bl 4 (List.map Af r3)] 33]) rfl (A3 (A5 ?_)))))));obtain rfl:=A8 h4;exact A4 (B7 Tryd.results22 (H0 (i:=0) DX BE rfl rfl rfl)) (sS (sS sN)) ⟨rfl,rfl⟩
end Go.Proofs.YtkoiaconljdbeaaDoor.Q
namespace Go.Proofs.YtkoiaconljdbeaaDoor
open Go
def keysOk {T:Type}(xs:List (Ai×T)):Bool:=decide (xs.length*16≤140737488355328)&&xs.all λp=>Nd p.1
end Go.Proofs.YtkoiaconljdbeaaDoor
namespace Go.Proofs.YtkoiaconljdbeaaDoor.Q
open Go Go.RowKit Go.ChangeMaps
set_option linter.unusedVariables false
set_option linter.unusedSimpArgs false
def RU:Value→Option (DataW Unit×List MemPlace):=λ_=>some (.nil,[])
theorem O6 {P:Program}{k:TypeId}(hkt:P.underlying k=some .string){e:MapEntry}{s:Ai}(he:e.key = .string (B s))(hs:s.length≤maxLen):WideElems.rd P k RU e=some (.string s,.nil):=by
 obtain⟨key,val,born⟩:=e;simp only at he;subst he;exact WideElems.rd_mk (yv:=(.nil,[])) (by simp[keyOf,hkt,mapKey,B];exact hs) rfl
theorem DV.rgs {P:Program}{k:TypeId}(hkt:P.underlying k=some .string){Z:Fz}:∀{f:List (Ai×Rp)} {es:List MapEntry},DV Z f es→(∀p∈f,p.1.length≤maxLen)→es.map (WideElems.rg P k RU)=f.map (λp=>(Lit.string p.1,(.nil:DataW Unit)))∧(∀x∈es,∃y,WideElems.rd P k RU x=some y)∧es.map (·.key)=f.map λp=>Value.string (B p.1)
 | [],[],_,_=>⟨rfl,(λ_ h=>by cases h),rfl⟩
 | p::f,e::es,⟨⟨h1,_⟩,h2⟩,hk=>by
  obtain⟨a1,a2,a3⟩:=DV.rgs hkt h2 λq hq=>hk q (List.mem_cons_of_mem _ hq);have hr:=O6 hkt h1 (hk p (List.mem_cons_self ..));refine⟨?_,λx hx=>?_,?_⟩
  ·rw[Qz,Qz,a1,WideElems.rg_of hr]
  ·rcases List.mem_cons.1 hx with rfl | hx
   ·exact⟨_,hr⟩
   ·exact a2 x hx
  ·rw[Qz,Qz,a3,h1]
theorem N5 {P:Program}{k:TypeId}(hkt:P.underlying k=some .string){w:World}{Z:Fz}{b:Nat}{m:List (Ai×Rp)}{es:Array MapEntry}{ck:Nat}(hb:w.heap[b]? =some (.map es ck))(hm:CC Z m es.toList ck)(hk:∀p∈m,p.1.length≤maxLen)(hsz:m.length≤maxLen) :
  ∃D0:DataW Unit,w.ownsMap P k RU b es.size D0∧(strKeys D0).Perm (m.map (·.1))∧Maps.size D0=m.length:=by
 obtain⟨h1,h2,h3,f,h4,h5⟩:=hm;obtain⟨a1,a2,a3⟩:=DV.rgs hkt h5 λp hp=>hk p (h4.subset hp);have hlen:es.size=m.length:=by
  have e:=congrArg List.length a3;simp only[Qf,Array.length_toList] at e;rw[e];exact h4.length_eq
 have hkey:es.toList.Pairwise (λx y=>x.key≠y.key):=by
  have e:(es.toList.map (·.key)).Nodup:=by
   rw[a3];have hf:(f.map (·.1)).Nodup:=(h4.map _).nodup_iff.2 h1;have:f.map (λp=>Value.string (B p.1))=(f.map (·.1)).map λs=>Value.string (B s):=by rw[QD];rfl
   rw[this];refine List.Pairwise.map _ (λx y hxy e=>hxy ?_) hf;simp[B] at e;exact e
  exact List.pairwise_map.1 e
 refine⟨.map ((es.toList.map (WideElems.rg P k RU)).foldr DataW.insert []),⟨es,ck,hb,⟨by rw[hlen];exact hsz,(MapKept.stamped_iff es ck).2 ⟨h3,h2,hkey⟩,a2⟩,Ql _,rfl⟩,?_,?_⟩
 ·show(((es.toList.map (WideElems.rg P k RU)).foldr DataW.insert []).map λp=>strOf p.1).Perm _;rw[a1];refine((WideShapes.sorted_perm _).map _).trans ?_;rw[QD];exact h4.map _
 ·show((es.toList.map (WideElems.rg P k RU)).foldr DataW.insert []).length=_;rw[length_sorted,Qf,Array.length_toList,hlen]
theorem Kb {w:World}{a b:Nat}{e:TypeId}{sz n:Nat}{v:Value}{us:List Value}(h:w.ownsRow a e sz v n us)(hb:b≤a):w.ownsRow b e sz v n us:=by
 refine⟨h.1,?_⟩;rcases h.2 with hn | ⟨g,cap,cur,rfl,hg,rest⟩
 ·exact .inl hn
 ·exact .inr ⟨g,cap,cur,rfl,Nat.le_trans hb hg,rest⟩
theorem Jp {w:World}{a:Nat}{e:TypeId}{sz n:Nat}{v:Value}{us:List Value}(h:w.ownsRow a e sz v n us):∀k∈v.ownBlock.toList,a≤k:=by
 rcases h.2 with⟨rfl,_⟩ | ⟨g,cap,cur,rfl,hg,rest⟩
 ·intro k hk;simp[Value.ownBlock] at hk
 ·intro k hk;simp[Value.ownBlock] at hk;omega
theorem St.newrow {c:Cx}{H:List Ent}{Z:Fz}{w w':World}(h:St c H Z w)(hb:Below w.heap.size w w'){v:Value}{e:TypeId}{ys:List Ai}(hr:w'.ownsRow w.heap.size e 1 v ys.length (ys.map Go.Proofs.encStr)):St c (.row v e 1 (ys.map eS)::H) Z w':=by
 refine h.add hb.os hb.tape hb.output hb.size (λk hk=>hb.block k hk) ⟨λc hc=>?_,ys.map Go.Proofs.encStr,?_,?_⟩ (λk hk=>Jp hr k hk)
 ·obtain⟨y,_,rfl⟩:=List.mem_map.1 hc;rfl
 ·rw[Qf];exact Kb hr (Q8 _)
 ·clear hr
  induction ys with
  | nil=>exact trivial
  | cons y r ih=>exact⟨by show Go.Proofs.encStr y=Value.string (B y);rfl,ih⟩
end Go.Proofs.YtkoiaconljdbeaaDoor.Q
namespace Go.Proofs.YtkoiaconljdbeaaDoor
open Go
set_option linter.unusedVariables false
structure Aa where
 fTimer:Ab
 fTold:Bool
 deriving DecidableEq,Inhabited
structure Aq where
 fTimers:(List (Ai×Aa))
 deriving DecidableEq,Inhabited
def Me :Option (Aq):=
 some (Aq.mk ([]:List (Ai×Aa)))
def DN (q:Aq):Option (Bool×Aq):=
 some (true,q)
def Hx (t:Ab)(now:Int):Option (Bool):=
 some (decide (now<t.fAt))
def B2 (ys:(List Ab))(now:Int)(ha:Int):Option (Stp (Int) (Out (Int) (Unit))):=
 BA (decide (ha<(ys.length:Int))) (BC (DU ha (ys.length:Int))<|B9 (Hx (Ao ys ha) now) λhb=>BA (hb) (some (.out (.ret ha))) (BC (Cl .i64 (ha+1))<|some (.next (ha+1)))) (some (.out (.go ())))
def CX :Option (Int):=
 some (-1)
def D5 (F:Nat)(ys:(List Ab))(now:Int):Option (Int):=
 B9 (Dm (λσ=>B2 ys now σ) F 0) (C7 λν=>CX )
def B5 (ha:Int)(hb:Int)(he:Bool)(hf:Bool)(hd:(List Ab)):Option (Stp (Int×Int×(List Ab)) (Out ((List Ab)) (Int×(List Ab)))):=
 BC (Cl .i64 (ha+1))<|some (.next (hb,ha+1,hd))
def Bu (now:Int)(hb:Int)(hd:Int)(ha:(List Ab)):Option (Stp (Int×Int×(List Ab)) (Out ((List Ab)) (Int×(List Ab)))):=
 BA (decide (hd<(ha.length:Int))) (BC (DU hd (ha.length:Int))<|B9 (Hx (Ao ha hd) now) λhe=>BA (!he) (BC (DU hb (ha.length:Int))<|LL (List.set ha (Int.toNat hb) (Ao ha hd)) λhf=>BC (Cl .i64 (hb+1))<|B5 hd (hb+1) he (!he) hf) (B5 hd hb he (!he) ha)) (some (.out (.go (hb,ha))))
def Cg (ha:Int)(hb:(List Ab)):Option ((List Ab)):=
 BC (MN ha (hb.length:Int))<|BC (MN ha ((List.take (Int.toNat ha) hb++List.replicate (hb.length-Int.toNat ha) (Ab.mk ([]:Ai) 0 ([]:Ai) ([]:Ai) ([]:(List Ac)))).length:Int))<|some (List.take (Int.toNat ha) (List.take (Int.toNat ha) hb++List.replicate (hb.length-Int.toNat ha) (Ab.mk ([]:Ai) 0 ([]:Ai) ([]:Ai) ([]:(List Ac)))))
def Dl (F:Nat)(ys:(List Ab))(now:Int):Option ((List Ab)):=
 B9 (D5 F ys now) λr1=>BA (decide (r1=(-1))) (some ys) (BC (Cl .i64 (r1+1))<|B9 (Dm (λσ=>Bu now σ.1 σ.2.1 σ.2.2) F (r1,r1+1,ys)) (C7 λν=>Cg ν.1 ν.2))
def Df (he:Ai)(hd:Aa)(ha:(List Ab)):Option (Stp ((List Ab)) (Out ((List Ab)×Aq) ((List Ab)))):=
 B9 (Le hd.fTimer) λhb=>BC (NL 80 (ha.length+([hb]:List Ab).length))<|some (.next (ha++([hb]:List Ab)))
def De (r1:Bool×Aq)(ha:(List Ab)):Option ((List Ab)×Aq):=
 BC (D3 (λx y:Ab=>BN x.fAt y.fAt x.fID y.fID) ha)<|BC (Nat.blt ha.length 4611686018427387904)<|some (srt (λx y:Ab=>BN x.fAt y.fAt x.fID y.fID) ha,r1.2)
def EA (q:Aq):Option ((List Ab)×Aq):=
 B9 (DN q) λr1=>BA (!r1.1) (some (([]:List Ab),r1.2)) (Lt r1.2.fTimers λord=>B9 (KI (λp τ=>Df p.1 p.2 τ) ord ([]:List Ab)) (C7 λν=>De r1 ν))
def Do (now:Int)(hb:(List Ai))(ha:Int)(hd:(List (Ai×Aa))):Option (Stp (Int×(List (Ai×Aa))) (Out ((List Ab)×Aq) ((List (Ai×Aa))))):=
 BA (decide (ha<(hb.length:Int))) (BC (DU ha (hb.length:Int))<|BC (Cl .i64 (ha+1))<|some (.next (ha+1,mset hd (Ao hb ha) (Aa.mk ((A6 hd (Ao hb ha) (Aa.mk (Ab.mk ([]:Ai) 0 ([]:Ai) ([]:Ai) ([]:(List Ac))) false)).fTimer) (((A6 hd (Ao hb ha) (Aa.mk (Ab.mk ([]:Ai) 0 ([]:Ai) ([]:Ai) ([]:(List Ac))) false)).fTold)||(decide ((((A6 hd (Ao hb ha) (Aa.mk (Ab.mk ([]:Ai) 0 ([]:Ai) ([]:Ai) ([]:(List Ac))) false)).fTimer).fAt)≤now))))))) (some (.out (.go hd)))
def Ge (F:Nat)(now:Int)(hb:(List (Ai×Aa))):Option ((List Ab)×Aq):=
 B9 (EA (Aq.mk hb)) λha=>B9 (Dl F ha.1 now) λhd=>some (hd,ha.2)
def JS (F:Nat)(q:Aq)(now:Int):Option ((List Ab)×Aq):=
 B9 (DN q) λr2=>BA (!r2.1) (some (([]:List Ab),r2.2)) (BC (keysOk r2.2.fTimers)<|Lt (List.map Prod.fst r2.2.fTimers) λha=>B9 (Dm (λσ=>Do now ha σ.1 σ.2) F (0,r2.2.fTimers)) (C7 λν=>Ge F now ν))
def Hw (F:Nat)(q:Aq)(t:Ab)(now:Int):Option (Int×Aq):=
 B9 (DN q) λr2=>BA (!r2.1) (some (10,r2.2)) (B9 (Hy F t) λr8=>BA (!decide (r8=0)) (some (r8,r2.2)) (BC ((DM now).isSome)<|BA (((!(ov (DM now)))||(decide (t.fAt<now)))) (some (2,r2.2)) (BA (C8 r2.2.fTimers t.fID) (some (6,r2.2)) (BA (decide (256≤(r2.2.fTimers.length:Int))) (some (3,r2.2)) (B9 (Le t) λha=>some (0,(Aq.mk (mset r2.2.fTimers t.fID (Aa.mk ha false)))))))))
def JU (q:Aq)(id:Ai):Option (Int×Aq):=
 B9 (DN q) λr1=>BA (!r1.1) (some (10,r1.2)) (BA (!(C8 r1.2.fTimers id)) (some (5,r1.2)) (some (0,(Aq.mk (mdel r1.2.fTimers id)))))
def CE (id:Ai)(x7:Bool)(x8:(List (Ai×Aa))):Option (Int×Aq):=
 BA (x7) (some (10,(Aq.mk x8))) (B9 (JU (Aq.mk x8) id) λha=>some (ha.1,ha.2))
def Dp (q:Aq)(id:Ai):Option (Int×Aq):=
 B9 (DN q) λr9=>BA (r9.1) (CE id ((A6 r9.2.fTimers id (Aa.mk (Ab.mk ([]:Ai) 0 ([]:Ai) ([]:Ai) ([]:(List Ac))) false)).fTold) r9.2.fTimers) (CE id false r9.2.fTimers)
def Mc (q:Aq):Option (Int×Bool×Aq):=
 B9 (EA q) λr1=>BA (decide ((r1.1.length:Int)=0)) (some (0,false,r1.2)) (BC (DU 0 (r1.1.length:Int))<|some ((Ao r1.1 0).fAt,true,r1.2))
end Go.Proofs.YtkoiaconljdbeaaDoor
namespace Go.Proofs.YtkoiaconljdbeaaDoor.Q
open Go Go.RowKit Go.Sort Go.Shelf Go.Proofs
set_option linter.unusedVariables false
set_option linter.unusedSimpArgs false
theorem K6 {Z:Fz}{T α:Type}{enc:T→List Rp}{raw:α→List Value}(hR:∀x us,A9 Z (enc x) us→∃a,us=raw a):∀{xs:List T} {us:List Value},A9 Z (xs.map enc).flatten us→∃zs:List α,us=(zs.map raw).flatten∧All2 (λx a=>A9 Z (enc x) (raw a)) xs zs
 | [],us,h=>by
  cases us with
  | nil=>exact⟨[],rfl,.nil⟩
  | cons _ _=>exact absurd h id
 | x::r,us,h=>by
  simp only[Qz,List.flatten_cons] at h;have h1:=h.take (enc x).length;have h2:=h.drop (enc x).length;rw[List.take_left' rfl] at h1;rw[List.drop_left' rfl] at h2;obtain⟨a,ha⟩:=hR x _ h1;obtain⟨zs',e,h3⟩:=K6 hR h2;refine⟨a::zs',?_,.cons (ha▸h1) h3⟩;rw[Qz,List.flatten_cons,← ha,← e,List.take_append_drop]
theorem Nz {Z:Fz}{T α:Type}{enc:T→List Rp}{raw:α→List Value}{xs:List T}{zs:List α}(h:All2 (λx a=>A9 Z (enc x) (raw a)) xs zs):A9 Z (xs.map enc).flatten (zs.map raw).flatten:=by
 induction h with
 | nil=>exact trivial
 | cons h1 _ ih=>exact h1.append ih
theorem HG {α:Type}[Inhabited α]{raw:α→List Value}{k:Nat}(hk:∀a,(raw a).length=k)(d:Array α):flatK raw k d=((d.toList.map raw).flatten).toArray:=by
 have hl:((d.toList.map raw).flatten).length=d.size*k:=by
  rw[CF (sz:=k) (λc hc=>by obtain⟨a,_,rfl⟩:=List.mem_map.1 hc;exact hk a)];simp
 refine ext_get! (by rw[size_flatK];simpa using hl.symm) λt ht=>?_;have ht':t<d.size*k:=by simpa using ht
 have hk0:0<k:=by
  rcases Nat.eq_zero_or_pos k with h | h
  ·subst h;simp at ht'
  ·exact h
 have hq:t/k<d.size:=by rw[Nat.div_lt_iff_lt_mul hk0];exact ht'
 have hm:t % k<k:=Nat.mod_lt _ hk0;rw[get_flatK raw k d t ht'];have e2:=D6 (sz:=k) (vs:=d.toList.map raw) (λc hc=>by obtain⟨a,_,rfl⟩:=List.mem_map.1 hc;exact hk a) (i:=t/k) (c:=raw d[t/k]!) (by simp[hq]) (j:=t % k) (u:=(raw d[t/k]!)[t % k]!) (by rw[getElem!_pos (raw d[t/k]!) (t % k) (by rw[hk];exact hm)];simp[hk,hm]);rw[Nat.div_add_mod' t k] at e2;have hlt:t<((d.toList.map raw).flatten).length:=by rw[hl];exact ht'
 rw[getElem!_pos _ t (by simpa using hlt)];rw[PZ hlt] at e2;simpa using(Option.some.inj e2).symm
theorem IG {α:Type}[Inhabited α]{raw:α→List Value}{k:Nat}{w:World}{g n:Nat}{os:Array Obj}{cur:Array Value}{e:TypeId}{fr:Nat×Nat}(d:Array α)(hb:w.heap[g]? =some (.cells cur e fr)) :
  (sortWorldK raw k w g 0 n d os).heap[g]? =some (.cells (putCells id 0 (flatK raw k d) cur) e fr):=by
 have hg:g<w.heap.size:=(Array.getElem?_eq_some_iff.1 hb).1;unfold sortWorldK;rw[heap_grow_old _ _ (by rw[size_putRowK];exact hg)];simp[putRowK,putRow,mapBlock,Sort.ahead,Array.getElem?_modify,hb,onCells]
theorem ET {α:Type}[Inhabited α]{raw:α→List Value}{k:Nat}{w:World}{g n:Nat}{os:Array Obj}(d:Array α){j:Nat}(hj:j<w.heap.size)(hne:j≠g) :
  (sortWorldK raw k w g 0 n d os).heap[j]? =w.heap[j]?:=by
 unfold sortWorldK;rw[heap_grow_old _ _ (by rw[size_putRowK];exact hj)];simp[putRowK,putRow,mapBlock,Sort.ahead,Array.getElem?_modify,Ne.symm hne]
theorem Hv (cur:Array Value)(F:List Value)(h:F.length≤cur.size):(putCells id 0 F.toArray cur).toList.take F.length=F:=by
 apply List.ext_getElem?;intro j
 by_cases hj:j<F.length
 ·rw[List.getElem?_take_of_lt hj,Array.getElem?_toList];simp[putCells,hj,show j<cur.size by omega]
 ·rw[List.getElem?_take_eq_none (by omega),List.getElem?_eq_none (by omega)]
theorem O4 {P:Program}{E:Fz→Prop}{ρ:Ren}(L:SlLaysF0.n6 P ρ){k:Nat}(aE:∀w,(isAgg (ρ.t 24)).run P w = .ok true w)(zE:∀w,(Go.sizeOf (ρ.t 24)).run P w = .ok k w)
  {T:Type} {enc:T→List Rp} (hlen:∀x,(enc x).length=k) {α:Type} [Inhabited α] (raw:α→List Value) (hk:∀a,(raw a).length=k) (h1:∀a,∀v∈raw a,v.oneCell'=true)
  (cf:α→α→Int) (hO:SWO (ltOf cf)) {lt:T→T→Bool} (hL:Oe lt)
  (hR:∀Z x us,A9 Z (enc x) us→∃a,us=raw a)
  (hlt:∀Z x y a b,A9 Z (enc x) (raw a)→A9 Z (enc y) (raw b)→lt x y=ltOf cf a b)
  (g:Nat) (eg:∀args w,(callFunc g args).run P w = .ok (.enter g args) w)
  (hcmp:∀(a b:α) W,Calls P g #[.agg (raw a).toArray,.agg (raw b).toArray] W λe w'=>e = .returned (.int .i64 (cf a b))∧∃q os',w'=grow (W.drewN q) os')
  {v:Value} {e:TypeId} {xs:List T} (hd:D3 lt xs=true) (hsz:Nat.blt xs.length 4611686018427387904=true) :
  Fn P E (ρ.f 6) [rv v,rv (.func (.func g) #[] #[])] [.row v e k (xs.map enc)] (λR H=>R=rv (.tuple #[])∧H=[.row v e k ((srt lt xs).map enc)]):=λw Z vs hv hs=>by
 have e0:vs=[v,.func (.func g) #[] #[]]:=A9.eq_rv (us:=[v,.func (.func g) #[] #[]]) hv;subst e0;have hsz':xs.length<4611686018427387904:=by simpa using hsz
 obtain⟨h0,us,⟨h2,h3⟩,h4⟩:=hs.ent (i:=0) rfl;rcases h3 with⟨rfl,hz0⟩ | ⟨b,cap,cur,rfl,_,hb,hcap,hm,hcs,htk⟩
 ·simp at hz0;subst hz0;refine(AnyF.slices_SortFunc_none (P:=P) (ρ:=ρ) { L with } none 0 (.func (.func g) #[] #[]) w).mono ?_;rintro e' w' ⟨rfl,rfl⟩;exact⟨_,_,_,Z,rfl,⟨rfl,rfl⟩,rfl,hs⟩
 ·obtain⟨zs',eus,ha⟩:=K6 (hR Z) h4;subst eus;have hal:zs'.length=xs.length:=ha.length.symm;have hrl:((zs'.map raw).flatten).length=xs.length*k:=by
   rw[CF (sz:=k) (λc hc=>by obtain⟨a,_,rfl⟩:=List.mem_map.1 hc;exact hk a)];simp[hal]
  simp only[Qf] at h2 hcap htk;have hfl:flatK raw k zs'.toArray=((zs'.map raw).flatten).toArray:=HG hk _;have hH:HoldsK raw k w b 0 zs'.toArray:=by
   unfold HoldsK;rw[hfl];intro j hj;have hj':j<((zs'.map raw).flatten).length:=by simpa using hj
   refine⟨?_,by simp[World.frozen?,hb]⟩;have h5:(cur.toList.take (xs.length*k))[j]? =((zs'.map raw).flatten)[j]?:=by rw[htk]
   rw[List.getElem?_take_of_lt (by omega)] at h5;simp only[World.cell?,hb,Q1,Option.isSome_none,Q6,if_false];rw[← Array.getElem?_toList,h5];rw[getElem!_pos _ j hj];simp[hj']
  have hblk:b<w.heap.size:=(Array.getElem?_eq_some_iff.1 hb).1;have hsl:(Value.slice (some ⟨b,0,none⟩) (xs.map enc).length cap) = .slice (some ⟨b,0,none⟩) zs'.toArray.size cap:=by simp[hal]
  have hcon:=AnyQ.slices_SortFunc (P:=P) (ρ:=ρ) L k aE zE raw hk h1 cf hO g #[] b 0 cap zs'.toArray w eg (λm os dk hs x y=>by simpa using hcmp x y _) hH hblk (by simpa[hal] using hsz');have hargs:[Value.slice (some ⟨b,0,none⟩) (xs.map enc).length cap,Value.func (.func g) #[] #[]].toArray = #[.slice (some ⟨b,0,none⟩) zs'.toArray.size cap,.func (.func g) #[] #[]]:=by rw[hsl]
  rw[hargs];refine hcon.mono ?_;rintro e' w' ⟨rfl,d',n,os,hp,hsd,rfl⟩;have hds:d'.size=zs'.length:=by simpa using hp.1
  have hperm:d'.toList.Perm zs':=by
   have:=hp.2.2;rw[Array.extract_eq_self_of_le (by rw[hp.1];exact Ql _),Array.extract_eq_self_of_le (Ql _)] at this;exact this
  obtain⟨xs',hx1,hx2⟩:=All2.perm hperm.symm ha;have hpw:d'.toList.Pairwise λa b=>ltOf cf b a=false:=by
   rw[List.pairwise_iff_getElem];intro i j hi hj hij;have hi':i<d'.size:=by simpa using hi
   have hj':j<d'.size:=by simpa using hj
   have:=hsd i j (Q8 _) hij (by simpa[hds] using hj');rw[getElem!_pos d' j hj',getElem!_pos d' i hi'] at this;simpa using this
  have hxs:xs'=srt lt xs:=JW hL hd hx1 (All2.pairwise (p:=λx y=>lt y x=false) (λx x' a a' h5 h6 h7=>by rw[hlt Z x' x a' a h6 h5];exact h7) hx2 hpw);subst hxs;have hl2:(srt lt xs).length=xs.length:=(Ea lt xs).length_eq;have hf2:flatK raw k d'=((d'.toList.map raw).flatten).toArray:=HG hk _;have hrl2:((d'.toList.map raw).flatten).length=xs.length*k:=by
   rw[CF (sz:=k) (λc hc=>by obtain⟨a,_,rfl⟩:=List.mem_map.1 hc;exact hk a)];simp[hds,hal]
  have hcc:xs.length*k≤cap*k:=Nat.mul_le_mul_right _ hcap;have hset:=hs.set (i:=0) (w':=sortWorldK raw k w b 0 n d' os) (e':=.row (.slice (some ⟨b,0,none⟩) (xs.map enc).length cap) e k ((srt lt xs).map enc)) rfl rfl rfl rfl (size_sortWorldK_c raw k w b 0 n d' os) (λj hj hne=>ET d' hj (λe1=>hne (by simp[Ent.foot,Value.ownBlock,e1])))
   ⟨λcl hcl=>by obtain⟨x,_,rfl⟩:=List.mem_map.1 hcl;exact hlen x,(d'.toList.map raw).flatten,⟨by simp[hrl2,hl2],.inr ⟨b,cap,_,by simp[hl2],Q8 _,IG d' hb,by simpa[hl2] using hcap,hm,by simpa[putCells] using hcs,by
    rw[hf2,Qf,hl2,← hrl2];exact Hv cur _ (by omega)⟩⟩,Nz hx2⟩ (by simp[Ent.foot,Value.ownBlock])
  exact⟨_,_,_,Z,rfl,⟨rfl,rfl⟩,rfl,hset⟩
open Go Go.Proofs Go.Sort
theorem NJ (x:Int)(w:World):Calls Tryd.prog 38 #[.int .i64 x] w λe w'=>e = .returned (.bool false)∧w'=w:=by
 go_enter Tryd.func38,Tryd.ntmps38
 go_wp2
 go_ret
 exact⟨by simp,rfl⟩
theorem NI (x:ByteArray)(w:World):Calls Tryd.prog 39 #[.string x] w λe w'=>e = .returned (.bool false)∧w'=w:=by
 go_enter Tryd.func39,Tryd.ntmps39
 go_wp2
 go_ret
 exact⟨by simp,rfl⟩
def Ko (x y:Int):Int:=if x<y then -1 else if y<x then 1 else 0
set_option maxHeartbeats 1000000 in
theorem LA (x y:Int)(w:World):Calls Tryd.prog 26 #[.int .i64 x,.int .i64 y] w λe w'=>e = .returned (.int .i64 (Ko x y))∧w'=w:=by
 go_enter Tryd.func26,Tryd.ntmps26
 go_wp2_with (go_at_call 38;refine(NJ _ _).mono ?_;rintro e w' ⟨rfl,hw⟩;rw[hw])
 all_goals (go_ret;refine⟨?_,rfl⟩;unfold Ko;(repeat' split)<;>first | rfl | (exfalso;omega))
theorem Nv (t:TypeId)(a b:ByteArray):binOp .gtr t (.string a) (.string b)=pure (.bool !(Op.bytesLess a.toList b.toList||a.toList ==b.toList)):=by simp[binOp,Op.stringOp]
def Kn (x y:List UInt8):Int:=if Op.bytesLess x y=true then -1 else if (Op.bytesLess x y||x ==y)=false then 1 else 0
set_option maxHeartbeats 1000000 in
theorem L9 (x y:ByteArray)(w:World):Calls Tryd.prog 27 #[.string x,.string y] w λe w'=>e = .returned (.int .i64 (Kn x.toList y.toList))∧w'=w:=by
 have hg:=Nv
 go_enter Tryd.func27,Tryd.ntmps27
 go_wp2_with (go_at_call 39;refine(NI _ _).mono ?_;rintro e w' ⟨rfl,hw⟩;rw[hw])
 all_goals (go_ret;refine⟨?_,rfl⟩;unfold Kn;simp_all)
def N6 (p q:Int):Int:=if p=0 then q else p
set_option maxHeartbeats 1000000 in
theorem PB (p q:Int)(b cap:Nat)(w:World)(h0:w.cell? ⟨b,0,none⟩=some (.int .i64 p))(h1:w.cell? ⟨b,1,none⟩=some (.int .i64 q)):Calls Tryd.prog 25 #[.slice (some ⟨b,0,none⟩) 2 cap] w λe w'=>e = .returned (.int .i64 (N6 p q))∧w'=w:=by
 by_cases hp:p=0
 ·have er:N6 p q=q:=by unfold N6;rw[if_pos hp]
  rw[er];have hp':(p !=0)=false:=by simp[hp]
  clear er
  by_cases hq:q=0
  ·have hq':(q !=0)=false:=by simp[hq]
   subst hp;subst hq
   go_enter Tryd.func25,Tryd.ntmps25
   go_wp2
   refine wp_loop_rounds 3 ?_;rw[rounds_succ]
   go_wp2
   rw[rounds_succ]
   go_wp2
   rw[rounds_succ]
   go_wp2
   go_ret
   exact⟨rfl,rfl⟩
  ·have hq':(q !=0)=true:=by simp[hq]
   subst hp
   go_enter Tryd.func25,Tryd.ntmps25
   go_wp2
   refine wp_loop_rounds 3 ?_;rw[rounds_succ]
   go_wp2
   rw[rounds_succ]
   go_wp2
   go_ret
   exact⟨rfl,rfl⟩
 ·have er:N6 p q=p:=by unfold N6;rw[QE hp]
  rw[er];have hp':(p !=0)=true:=by simp[hp]
  clear er hp
  go_enter Tryd.func25,Tryd.ntmps25
  go_wp2
  refine wp_loop_rounds 3 ?_;rw[rounds_succ]
  go_wp2
  go_ret
  exact⟨rfl,rfl⟩
theorem JV {P:Program}{id:Nat}{Q:Exit→Act→World→Prop}{a:Act}{w:World}{l:List Oper}(n:Nat)(hm:P.follows .mixedOrders=true)(hB:Region.lexTailB .any l.toArray n=true)
  (h:∀w2,w2=World.drew w→wpStill P l.toArray w2 (λa'=>wpList P l.toArray Q (l.drop n) a' w2) (l.take n) a):(Code.region id l.toArray true).wp P Q a w:=wp_region_still_tail n hm hB (h _ rfl)
theorem D8 (w:World)(cs:Array Value)(e:TypeId)(j:Nat):(w.alloc (.cells cs e)).cell? ⟨w.heap.size,j,none⟩=cs[j]?:=by
 have h:(w.alloc (.cells cs e)).heap[w.heap.size]? =some (.cells cs e):=by simpa using heap_alloc_new w _
 unfold World.cell?;simp only[h];rfl
theorem JH (w:World)(o:Obj)(b j:Nat)(h:b<w.heap.size):(w.alloc o).cell? ⟨b,j,none⟩=w.cell? ⟨b,j,none⟩:=by
 have h1:(w.alloc o).heap[b]? =w.heap[b]?:=by
  show(w.heap.push o)[b]? =_;rw[Array.getElem?_push,QE (Nat.ne_of_lt h)]
 unfold World.cell?;simp only[h1]
theorem EU (w:World)(o:Obj):w.alloc o=grow w #[o]:=by unfold grow World.alloc;simp
set_option maxRecDepth 100000 in
set_option maxHeartbeats 1000000 in
theorem OD (s1 s2:ByteArray)(n1 n2:Int)(a2 a3 a4 b2 b3 b4:Value)(ha2:a2.oneCell'=true)(ha3:a3.oneCell'=true)(ha4:a4.oneCell'=true)(hb2:b2.oneCell'=true)(hb3:b3.oneCell'=true)(hb4:b4.oneCell'=true)(W:World) :
  Calls Tryd.prog 24 #[.agg #[.string s1,.int .i64 n1,a2,a3,a4],.agg #[.string s2,.int .i64 n2,b2,b3,b4]] W λe w'=>e = .returned (.int .i64 (N6 (Ko n1 n2) (Kn s1.toList s2.toList)))∧∃q os',w'=grow (W.drewN q) os':=by
 have hci:=λW=>LA n1 n2 W;have hcs:=λW=>L9 s1 s2 W;generalize Ko n1 n2=r1 at hci ⊢;generalize Kn s1.toList s2.toList=r2 at hcs ⊢
 go_enter Tryd.func24,Tryd.ntmps24
 go_wp2
 have hm:Tryd.prog.follows .mixedOrders=true:=by kernel_rfl
 refine JV 10 hm (by kernel_rfl) ?_;intro W2 hW2;have hs1:(W.alloc (.cells #[.string s1,.int .i64 n1,a2,a3,a4] 33)).heap.size=W.heap.size+1:=by simp
 have ha:W2.cell? ⟨W.heap.size,0,none⟩=some (.string s1):=by
  rw[hW2];exact(JH _ _ _ _ (by rw[hs1];omega)).trans (D8 ..)
 have hb:W2.cell? ⟨W.heap.size,1,none⟩=some (.int .i64 n1):=by
  rw[hW2];exact(JH _ _ _ _ (by rw[hs1];omega)).trans (D8 ..)
 have hd:W2.cell? ⟨W.heap.size+1,0,none⟩=some (.string s2):=by
  rw[hW2,← hs1];exact D8 ..
 have he:W2.cell? ⟨W.heap.size+1,1,none⟩=some (.int .i64 n2):=by
  rw[hW2,← hs1];exact D8 ..
 have hg:∃q os',W2=grow (W.drewN q) os':=⟨1,#[.cells #[.string s1,.int .i64 n1,a2,a3,a4] 33,.cells #[.string s2,.int .i64 n2,b2,b3,b4] 33],by
  rw[hW2,EU,EU,grow_grow];rfl⟩
 have hsz:W.heap.size<W2.heap.size:=by
  rw[hW2];simp[World.drew];omega
 clear hW2 hs1;simp only[List.take_succ_cons,List.take_zero,List.drop_succ_cons,List.drop_zero]
 still_step
 still_step
 still_step
 still_step
 still_call (hci _)
 still_step
 still_step
 still_step
 still_step
 still_call (hcs _)
 refine wpStill_nil ?_
 go_wp2_with (go_at_call 25;refine(PB r1 r2 _ _ _ (D8 _ _ _ 0) (D8 _ _ _ 1)).mono ?_;rintro e w' ⟨rfl,rfl⟩)
 go_ret
 obtain⟨q,os',rfl⟩:=hg;exact⟨rfl,q,_,by rw[EU,grow_grow]⟩
end Go.Proofs.YtkoiaconljdbeaaDoor.Q
namespace Go.Proofs
open Go.Shelf
def Tryd.SoL_ren:Go.Shelf.Ren:=⟨fun | 6=>23 | 15=>37 | 14=>36 | 28=>54 | 29=>55 | 20=>46 | 21=>47 | 22=>48 | 23=>49 | 24=>50 | 25=>51 | 26=>52 | 27=>53 | 46=>60 | 47=>61 | 48=>62 | 49=>63 | 50=>64 | 57=>70 | n=>n,fun | 22=>27 | 24=>33 | 25=>59 | 3=>3 | 39=>76 | 0=>0 | 53=>90 | 55=>92 | 4=>4 | 46=>84 | 45=>83 | 50=>49 | 5=>5 | 9=>9 | 66=>98 | 70=>102 | 76=>112 | 77=>113 | n=>n,fun | n=>n⟩
theorem Tryd.SoL:Go.Proofs.SlLaysF0.n6 Tryd.prog Tryd.SoL_ren:={
 mixed:=by kernel_rfl
 f6:=⟨Tryd.f23.name,by decide,Tryd.func23.trans (congrArg some (by kernel_rfl))⟩
 f14:=⟨Tryd.f36.name,by decide,Tryd.func36.trans (congrArg some (by kernel_rfl))⟩
 f15:=Tryd.func37.trans (congrArg some (by kernel_rfl))
 f20:=⟨Tryd.f46.name,by decide,Tryd.func46.trans (congrArg some (by kernel_rfl))⟩
 f21:=⟨Tryd.f47.name,by decide,Tryd.func47.trans (congrArg some (by kernel_rfl))⟩
 f22:=⟨Tryd.f48.name,by decide,Tryd.func48.trans (congrArg some (by kernel_rfl))⟩
 f23:=⟨Tryd.f49.name,by decide,Tryd.func49.trans (congrArg some (by kernel_rfl))⟩
 f24:=⟨Tryd.f50.name,by decide,Tryd.func50.trans (congrArg some (by kernel_rfl))⟩
 f25:=⟨Tryd.f51.name,by decide,Tryd.func51.trans (congrArg some (by kernel_rfl))⟩
 f26:=⟨Tryd.f52.name,by decide,Tryd.func52.trans (congrArg some (by kernel_rfl))⟩
 f27:=⟨Tryd.f53.name,by decide,Tryd.func53.trans (congrArg some (by kernel_rfl))⟩
 f28:=Tryd.func54.trans (congrArg some (by kernel_rfl))
 f29:=Tryd.func55.trans (congrArg some (by kernel_rfl))
 f46:=⟨Tryd.f60.name,by decide,Tryd.func60.trans (congrArg some (by kernel_rfl))⟩
 f47:=Tryd.func61.trans (congrArg some (by kernel_rfl))
 f48:=Tryd.func62.trans (congrArg some (by kernel_rfl))
 f49:=⟨Tryd.f63.name,by decide,Tryd.func63.trans (congrArg some (by kernel_rfl))⟩
 f50:=⟨Tryd.f64.name,by decide,Tryd.func64.trans (congrArg some (by kernel_rfl))⟩
 f57:=⟨Tryd.f70.name,by decide,Tryd.func70.trans (congrArg some (by kernel_rfl))⟩
 t0:=Tryd.underlying0
 a0:=Tryd.isAgg0
 z0:=Tryd.sizeOf0
 v0:=Tryd.zeroValue0
 t3:=Tryd.underlying3
 a3:=Tryd.isAgg3
 z3:=Tryd.sizeOf3
 v3:=Tryd.zeroValue3
 t4:=Tryd.underlying4
 a4:=Tryd.isAgg4
 z4:=Tryd.sizeOf4
 v4:=Tryd.zeroValue4
 t5:=Tryd.underlying5
 a5:=Tryd.isAgg5
 z5:=Tryd.sizeOf5
 v5:=Tryd.zeroValue5
 t9:=Tryd.underlying9
 a9:=Tryd.isAgg9
 z9:=Tryd.sizeOf9
 v9:=Tryd.zeroValue9
 t22:=Tryd.underlying27
 a22:=Tryd.isAgg27
 z22:=Tryd.sizeOf27
 v22:=Tryd.zeroValue27
 t25:=Tryd.underlying59
 a25:=Tryd.isAgg59
 z25:=Tryd.sizeOf59
 v25:=Tryd.zeroValue59
 t39:=Tryd.underlying76
 a39:=Tryd.isAgg76
 z39:=Tryd.sizeOf76
 v39:=Tryd.zeroValue76
 t45:=Tryd.underlying83
 a45:=Tryd.isAgg83
 z45:=Tryd.sizeOf83
 v45:=Tryd.zeroValue83
 t46:=Tryd.underlying84
 a46:=Tryd.isAgg84
 z46:=Tryd.sizeOf84
 v46:=Tryd.zeroValue84
 t50:=Tryd.underlying49
 a50:=Tryd.isAgg49
 z50:=Tryd.sizeOf49
 v50:=Tryd.zeroValue49
 t53:=Tryd.underlying90
 a53:=Tryd.isAgg90
 z53:=Tryd.sizeOf90
 v53:=Tryd.zeroValue90
 t55:=Tryd.underlying92
 a55:=Tryd.isAgg92
 z55:=Tryd.sizeOf92
 v55:=Tryd.zeroValue92
 t66:=Tryd.underlying98
 a66:=Tryd.isAgg98
 z66:=Tryd.sizeOf98
 v66:=Tryd.zeroValue98
 t70:=Tryd.underlying102
 a70:=Tryd.isAgg102
 z70:=Tryd.sizeOf102
 v70:=Tryd.zeroValue102
 t76:=Tryd.underlying112
 a76:=Tryd.isAgg112
 z76:=Tryd.sizeOf112
 v76:=Tryd.zeroValue112
 t77:=Tryd.underlying113
 a77:=Tryd.isAgg113
 z77:=Tryd.sizeOf113
 v77:=Tryd.zeroValue113 }
end Go.Proofs
namespace Go.Proofs.YtkoiaconljdbeaaDoor.Q
open Go Go.RowKit Go.Sort Go.Shelf Go.Proofs
set_option linter.unusedVariables false
set_option linter.unusedSimpArgs false
theorem MW (n1 n2:Int)(s1 s2:Ai):decide (N6 (Ko n1 n2) (Kn s1 s2)<0)=BN n1 n2 s1 s2:=by
 unfold N6 Ko Kn BN
 by_cases h1:n1<n2
 ·simp[h1]
 ·by_cases h2:n2<n1
  ·have : ¬ n1=n2:=by omega
   simp[h1,h2,this]
  ·have e:n1=n2:=by omega
   cases h3:Op.bytesLess s1 s2 with
   | true=>simp[e,h3]
   | false=>
    by_cases h4:s1=s2
    ·simp[e,h3,h4,h4▸h3]
    ·have h5:(s1 ==s2)=false:=by simp[h4]
     simp[e,h3,h5]
abbrev JJ:=Ai×Int × {r:List Value // r.length=3∧∀v∈r,v.oneCell'=true}
instance:Inhabited JJ:=⟨([],0,⟨[.bool true,.bool true,.bool true],rfl,λv h=>by simp at h;subst h;rfl⟩)⟩
def I9 (a:JJ):List Value:=.string (B a.1)::.int .i64 a.2.1::a.2.2.1
def P2 (a b:JJ):Int:=N6 (Ko a.2.1 b.2.1) (Kn a.1 b.1)
theorem IB (a b:JJ):ltOf P2 a b=BN a.2.1 b.2.1 a.1 b.1:=MW ..
theorem P8:SWO (ltOf P2) where
 irrefl x:=by rw[IB];exact Im ..
 trans x y z h1 h2:=by rw[IB] at *;exact J2 h1 h2
 ntrans x y z h1 h2:=by rw[IB] at *;exact Gq h1 h2
theorem OZ (Z:Fz)(x:Ab)(us:List Value)(h:A9 Z (Ad x) us):∃r : {r:List Value // r.length=3∧∀v∈r,v.oneCell'=true},us=I9 (x.fID,x.fAt,r):=by
 have hl:=h.length;have h1:=A9.one (El x) h;obtain⟨v0,v1,v2,v3,v4,rfl⟩:∃v0 v1 v2 v3 v4,us=[v0,v1,v2,v3,v4]:=by
  match us,hl with
  | [v0,v1,v2,v3,v4],_=>exact⟨_,_,_,_,_,rfl⟩
 obtain⟨h5,h6,h7⟩:=h;have e0:v0 = .string (B x.fID):=h5;have e1:v1 = .int .i64 x.fAt:=h6;subst e0;subst e1;exact⟨⟨[v2,v3,v4],rfl,λv hv=>h1 v (by simp at hv ⊢;rcases hv with h | h | h<;>simp[h])⟩,rfl⟩
theorem Hb {Z:Fz}{x:Ab}{a:JJ}(h:A9 Z (Ad x) (I9 a)):a.1=x.fID∧a.2.1=x.fAt:=by
 obtain⟨h5,h6,h7⟩:=h;have e0:Value.string (B a.1) = .string (B x.fID):=h5;have e1:Value.int .i64 a.2.1 = .int .i64 x.fAt:=h6;exact⟨Gf e0,(Value.int.inj e1).2⟩
theorem Mp (a:JJ):(I9 a).length=5:=by simp[I9,a.2.2.2.1]
theorem Mo (a:JJ):∀v∈I9 a,v.oneCell'=true:=λv h=>by
 simp only[I9,QA] at h;rcases h with rfl | rfl | h
 ·rfl
 ·rfl
 ·exact a.2.2.2.2 v h
theorem PG (a b:JJ)(W:World):Calls Tryd.prog 24 #[.agg (I9 a).toArray,.agg (I9 b).toArray] W λe w'=>e = .returned (.int .i64 (P2 a b))∧∃q os',w'=grow (W.drewN q) os':=by
 obtain⟨s1,n1,⟨r,hr,ho⟩⟩:=a;obtain⟨s2,n2,⟨t,ht,hp⟩⟩:=b;obtain⟨a2,a3,a4,rfl⟩:∃a2 a3 a4,r=[a2,a3,a4]:=by
  match r,hr with
  | [a2,a3,a4],_=>exact⟨_,_,_,rfl⟩
 obtain⟨b2,b3,b4,rfl⟩:∃a2 a3 a4,t=[a2,a3,a4]:=by
  match t,ht with
  | [a2,a3,a4],_=>exact⟨_,_,_,rfl⟩
 have h:=OD (B s1) (B s2) n1 n2 a2 a3 a4 b2 b3 b4 (ho _ (by simp)) (ho _ (by simp)) (ho _ (by simp)) (hp _ (by simp)) (hp _ (by simp)) (hp _ (by simp)) W;rw[BW,BW] at h;exact h
theorem Nw {v:Value}{e:TypeId}{xs:List Ab}(hd:D3 (λx y:Ab=>BN x.fAt y.fAt x.fID y.fID) xs=true)(hsz:Nat.blt xs.length 4611686018427387904=true) :
  Fn Tryd.prog GE 23 [rv v,rv (.func (.func 24) #[] #[])] [.row v e 5 (xs.map Ad)] (λR H=>R=rv (.tuple #[])∧H=[.row v e 5 ((srt (λx y:Ab=>BN x.fAt y.fAt x.fID y.fID) xs).map Ad)]):=
 O4 Tryd.SoL Tryd.isAgg33 Tryd.sizeOf33 (λx=>rfl) I9 Mp Mo P2 P8 (Kh (λx:Ab=>x.fAt) (λx=>x.fID))
  (λZ x us h=>by obtain⟨r,e⟩:=OZ Z x us h;exact⟨_,e⟩)
  (λZ x y a b h1 h2=>by rw[IB,(Hb h1).1,(Hb h1).2,(Hb h2).1,(Hb h2).2])
  24 (enters_of Tryd.func24 (by kernel_rfl) rfl) PG hd hsz
end Go.Proofs.YtkoiaconljdbeaaDoor.Q
namespace Go.Proofs
open Go.Shelf
def Tryd.keys29_ren:Go.Shelf.Ren:=⟨fun | 7=>29 | 10=>41 | n=>n,fun | 23=>43 | 26=>9 | 3=>53 | 28=>63 | 0=>0 | 27=>62 | 33=>78 | 4=>4 | n=>n,fun | n=>n⟩
theorem Tryd.keys29:Go.Proofs.SlLaysZ.n7 Tryd.prog Tryd.keys29_ren:={
 mixed:=by kernel_rfl
 f7:=⟨Tryd.f29.name,by decide,Tryd.func29.trans (congrArg some (by kernel_rfl))⟩
 f10:=⟨Tryd.f41.name,by decide,Tryd.func41.trans (congrArg some (by kernel_rfl))⟩
 t0:=Tryd.underlying0
 a0:=Tryd.isAgg0
 z0:=Tryd.sizeOf0
 v0:=Tryd.zeroValue0
 t4:=Tryd.underlying4
 a4:=Tryd.isAgg4
 z4:=Tryd.sizeOf4
 v4:=Tryd.zeroValue4
 t23:=Tryd.underlying43
 a23:=Tryd.isAgg43
 z23:=Tryd.sizeOf43
 v23:=Tryd.zeroValue43
 t26:=Tryd.underlying9
 a26:=Tryd.isAgg9
 z26:=Tryd.sizeOf9
 v26:=Tryd.zeroValue9
 t27:=Tryd.underlying62
 a27:=Tryd.isAgg62
 z27:=Tryd.sizeOf62
 v27:=Tryd.zeroValue62
 t28:=Tryd.underlying63
 a28:=Tryd.isAgg63
 z28:=Tryd.sizeOf63
 v28:=Tryd.zeroValue63
 t33:=Tryd.underlying78
 a33:=Tryd.isAgg78
 z33:=Tryd.sizeOf78
 v33:=Tryd.zeroValue78 }
def Tryd.collect28_ren:Go.Shelf.Ren:=⟨fun | 8=>28 | 11=>40 | n=>n,fun | 26=>9 | 28=>63 | 24=>60 | 0=>0 | 33=>78 | 4=>4 | n=>n,fun | n=>n⟩
theorem Tryd.collect28:Go.Proofs.SlLaysZ.n8 Tryd.prog Tryd.collect28_ren:={
 mixed:=by kernel_rfl
 f8:=⟨Tryd.f28.name,by decide,Tryd.func28.trans (congrArg some (by kernel_rfl))⟩
 f11:=⟨Tryd.f40.name,by decide,Tryd.func40.trans (congrArg some (by kernel_rfl))⟩
 t0:=Tryd.underlying0
 a0:=Tryd.isAgg0
 z0:=Tryd.sizeOf0
 v0:=Tryd.zeroValue0
 t24:=Tryd.underlying60
 a24:=Tryd.isAgg60
 z24:=Tryd.sizeOf60
 v24:=Tryd.zeroValue60
 t26:=Tryd.underlying9
 a26:=Tryd.isAgg9
 z26:=Tryd.sizeOf9
 v26:=Tryd.zeroValue9
 t28:=Tryd.underlying63
 a28:=Tryd.isAgg63
 z28:=Tryd.sizeOf63
 v28:=Tryd.zeroValue63
 i26:=by kernel_rfl }
end Go.Proofs
namespace Go.Proofs.YtkoiaconljdbeaaDoor.Q
open Go Go.RowKit Go.Maps Go.Sort Go.Shelf Go.Proofs
set_option linter.unusedVariables false
set_option maxHeartbeats 1000000
theorem JY {Z:Fz}{v:Value}{vs:List Value}(h:A9 Z [rv v] vs):vs=[v]:=A9.eq_rv (us:=[v]) h
theorem Lz {T:Type}(enc:T→Rp)(xs:List (Ai×T)):(AI enc xs).map (·.1)=xs.map (·.1):=by simp[AI]
theorem Kg (b:Nat):Fn Tryd.prog GE 29 [rv (.map (some b))] [] (λR H=>∃k:Nat,R=rv (.func (.func 41) #[] #[.pointer (some ⟨k,0,none⟩)])∧H=[.blk k [rv (.map (some b))] 43]):=λw Z vs hv hs=>by
 have e:=JY hv;subst e;have hc:Calls Tryd.prog 29 #[.map (some b)] w (λe w'=>e = .returned (.func (.func 41) #[] #[.pointer (some ⟨w.heap.size,0,none⟩)])∧w'=w.alloc (.cells #[.map (some b)] 43)):=callsIn_wide.1 (AnyZ.keys_in Tryd.keys29 Fence.wide 5 trivial rfl (some b) w);refine hc.mono ?_;rintro e w' ⟨rfl,rfl⟩;exact⟨_,_,_,Z,rfl,⟨w.heap.size,rfl,rfl⟩,rfl,hs.alloc _ ⟨[.map (some b)],by simpa using heap_alloc_new w _,rfl,trivial⟩ rfl⟩
theorem IK {T:Type}(enc:T→Rp)(xs:List (Ai×T))(k b:Nat)(hk:keysOk xs=true):Fn Tryd.prog GE 28 [rv (.func (.func 41) #[] #[.pointer (some ⟨k,0,none⟩)])] [.blk k [rv (.map (some b))] 43,.map b (AI enc xs)] (λR H=>∃ (v:Value) (ks:List Ai),R=rv v∧ks.Perm (xs.map (·.1))∧H=[.row v 9 1 (ks.map eS),.blk k [rv (.map (some b))] 43,.map b (AI enc xs)]):=λw Z vs hv hs=>by
 have e:=JY hv;subst e;obtain⟨us,h1,h2⟩:=hs.ent (i:=0) rfl;have e2:=JY h2;subst e2;obtain⟨es,ck,h3,h4⟩:=hs.ent (i:=1) rfl;unfold keysOk at hk;simp only[Qa,PW,Qp] at hk;have hlen:(AI enc xs).length=xs.length:=Eh enc xs;have hkl:∀p∈AI enc xs,p.1.length≤maxLen:=λp hp=>by
  obtain⟨y,hy,rfl⟩:=List.mem_map.1 hp;have:=hk.2 y hy;have e:maxLen=9223372036854775807:=rfl;rw[e];simpa[Nd] using this
 obtain⟨D0,d1,d2,d3⟩:=N5 (k:=9) Tryd.underlying9 h3 h4 hkl (by rw[hlen];have:=hk.1;have e:maxLen=9223372036854775807:=rfl;omega);have hkb:k<w.heap.size:=(Array.getElem?_eq_some_iff.1 h1).1;have hcell:w.cell? ⟨k,0,none⟩=some (.map (some b)):=by simp[World.cell?,h1]
 have hseq:SeqGives Fence.wide 3 Tryd.prog 41 #[.pointer (some ⟨k,0,none⟩)] encStr (λss=>ss.Perm (strKeys D0)) (Maps.size D0) w:=
  AnyZ.keys_gives (ρ:=Tryd.keys29_ren) { Tryd.keys29 with } Fence.wide _ trivial rfl (by omega) k b es.size D0 w hkb hcell d1
 have hc:=AnyZ.collect_in Tryd.collect28 Fence.wide 5 trivial trivial rfl (by omega) 41 #[.pointer (some ⟨k,0,none⟩)] trivial (enters_of Tryd.func41 (by kernel_rfl) rfl) _ (Maps.size D0) (by rw[d3,hlen];have:=hk.1;have e:maxLen=9223372036854775807:=rfl;omega) (by rw[d3,hlen];exact hk.1) w hseq;refine(callsIn_wide.1 hc).mono ?_;rintro e w' ⟨v,ss,rfl,hS,hrow,hnil,hb⟩;have hp:ss.Perm (xs.map (·.1)):=hS.trans (by rw[← Lz enc xs];exact d2);exact⟨_,v,_,Z,rfl,⟨v,ss,rfl,hp,rfl⟩,rfl,hs.newrow hb hrow⟩
end Go.Proofs.YtkoiaconljdbeaaDoor.Q
