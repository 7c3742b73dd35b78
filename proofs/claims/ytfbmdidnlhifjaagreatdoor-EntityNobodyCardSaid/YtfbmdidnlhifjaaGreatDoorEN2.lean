/-
  Texts of the proof, put together: PVb, WVb, PVc, WVc, PVd, WVd, PVe, WVe, PVf, WVf, PH, PFr, QH, QY, QU, QW, QT, QJ, QX, WFr, PM, PNa, QN, QM, QI, QV, QL, PI, QF, Q6, Q9, WNa, PNb, WNb, QK, PNc.
-/
import Derived.Test.YtfbmdidnlhifjaaGreatDoorEN1
import Derived.Laws.StructEq
import GoSem.Op.IntBits
import GoSem.Op.Shift
import Derived.Laws.Cover3
import Derived.ScopeJumps
import Derived.Laws.CopyRow
import Derived.Laws.IdiomCopy
import Derived.Laws.OwnMore
import Derived.MapKept
import Derived.Maps.RangeRun
import Derived.Sort.KeysCollected
namespace Go.Proofs.YtfbmdidnlhifjaaGreatDoor
open Go
set_option linter.unusedVariables false
structure Ay where
 fPairs:Bool
 fLeft:Int
 fKey:Bool
 fLast:Ao
 fStarted:Bool
 deriving DecidableEq,Inhabited
structure AC where
 fDepth:Int
 fBytes:Int
 fOutside:Bool
 fLong:Bool
 deriving DecidableEq,Inhabited
def Be (n:Int):Option (Bool):=
 some ((decide ((-1000000000000)≤n))&&(decide (n≤1000000000000)))
def DT (s:Ao)(ha:Int):Option (Stp (Int) (Out (Bool) (Unit))):=
 B0 (decide (ha<(s.length:Int))) (Bn (BV ha (s.length:Int))<|B0 (((decide ((La s ha)<32))||(decide (126<(La s ha))))) (some (.out (.ret false))) (Bn (Cr .i64 (ha+1))<|some (.next (ha+1)))) (some (.out (.go ())))
def DS :Option (Bool):=
 some true
def G4 (F:Nat)(s:Ao):Option (Bool):=
 B6 (CB (λσ=>DT s σ) F 0) (Cf λν=>DS )
def EG (s:Ao):Option (Int):=
 Bn (Cr .i64 ((s.length:Int)+2))<|Bn (Cr .i64 (((s.length:Int)+2)+(Lib.countByte s 34:Int)))<|Bn (Cr .i64 ((((s.length:Int)+2)+(Lib.countByte s 34:Int))+(Lib.countByte s 92:Int)))<|some ((((s.length:Int)+2)+(Lib.countByte s 34:Int))+(Lib.countByte s 92:Int))
def HM (F:Nat)(c:Ac):Option (Bool):=
 B0 (decide (c.fKind=1)) (some ((decide (c.fInt=0))&&((decide (c.fStr=([]:Ao)))&&(decide (c.fN=0))))) (B0 (decide (c.fKind=2)) (some (bif decide (c.fInt=0) then((decide (c.fStr=([]:Ao)))&&(decide (c.fN=0))) else((decide (c.fInt=1))&&((decide (c.fStr=([]:Ao)))&&(decide (c.fN=0)))))) (B0 (decide (c.fKind=3)) (some ((decide (c.fStr=([]:Ao)))&&(decide (c.fN=0)))) (B0 (decide (c.fKind=4)) (Bn (imp (decide (c.fInt=0)) (imp (decide (c.fN=0)) ((G4 F c.fStr).isSome)))<|some ((decide (c.fInt=0))&&((decide (c.fN=0))&&(ov (G4 F c.fStr))))) (B0 (decide (c.fKind=5)) (some ((decide (c.fInt=0))&&((decide (c.fStr=([]:Ao)))&&(decide (0≤c.fN))))) (B0 (decide (c.fKind=6)) (some ((decide (c.fInt=0))&&((decide (c.fStr=([]:Ao)))&&(decide (0≤c.fN))))) (some false))))))
def JL (c:Ac):Option (Int):=
 B0 (decide (c.fKind=1)) (some 4) (B0 (decide (c.fKind=2)) (some (IntKind.wrap .i64 (5-c.fInt))) (B0 (decide (c.fKind=3)) (Bn (Cr .i64 c.fInt)<|some ((Lib.itoa c.fInt).length:Int)) (B0 (decide (c.fKind=4)) (B6 (EG c.fStr) λha=>some ha) (some (IntKind.wrap .i64 (2+(max 0 (IntKind.wrap .i64 (c.fN-1)))))))))
def Ci (ha:(List Ay)):Option (Stp ((List Ay)) (Out ((List Ay)) ((List Ay)))):=
 B0 (decide (0<(ha.length:Int))) (Bn (Cr .i64 ((ha.length:Int)-1))<|Bn (BV ((ha.length:Int)-1) (ha.length:Int))<|Bn (Cr .i64 (((Aj ha ((ha.length:Int)-1)).fLeft)-1))<|Mk (List.set ha (Int.toNat ((ha.length:Int)-1)) (Ay.mk ((Aj ha ((ha.length:Int)-1)).fPairs) (((Aj ha ((ha.length:Int)-1)).fLeft)-1) ((Aj ha ((ha.length:Int)-1)).fKey) ((Aj ha ((ha.length:Int)-1)).fLast) ((Aj ha ((ha.length:Int)-1)).fStarted))) λhb=>B0 (decide (0<((Aj hb ((ha.length:Int)-1)).fLeft))) (Mk (List.set hb (Int.toNat ((ha.length:Int)-1)) (Ay.mk ((Aj hb ((ha.length:Int)-1)).fPairs) ((Aj hb ((ha.length:Int)-1)).fLeft) ((Aj hb ((ha.length:Int)-1)).fPairs) ((Aj hb ((ha.length:Int)-1)).fLast) ((Aj hb ((ha.length:Int)-1)).fStarted))) λhd=>some (.out (.ret hd))) (Bn (Cr .i64 ((hb.length:Int)-1))<|Bn (OH ((hb.length:Int)-1) (hb.length:Int))<|some (.next (List.take (Int.toNat ((hb.length:Int)-1)) hb)))) (some (.out (.go ha)))
def CA (ha:(List Ay)):Option ((List Ay)):=
 some ha
def G7 (F:Nat)(stack:(List Ay)):Option ((List Ay)):=
 B6 (CB (λσ=>Ci σ) F stack) (Cf λν=>CA ν)
def C2 (ha:Int)(hb:(List Ay))(hd:AC):Option (Stp ((List Ay)×Int×AC) (Out (Int×AC×Bool) (AC))):=
 Bn (Cr .i64 (ha+1))<|some (.next (hb,ha+1,hd))
def D4 (F:Nat)(v:(List Ac))(ha:(List Ay))(hb:Int)(hd:AC):Option (Stp ((List Ay)×Int×AC) (Out (Int×AC×Bool) (AC))):=
 B0 (decide (hb<(v.length:Int))) (Bn (BV hb (v.length:Int))<|B6 (HM F (Aj v hb)) λhj=>B0 (!hj) (some (.out (.ret (0,hd,false)))) (Bn (imp (decide (0<(ha.length:Int))) (Cr .i64 ((ha.length:Int)-1)))<|Bn (imp (decide (0<(ha.length:Int))) (BV ((ha.length:Int)-1) (ha.length:Int)))<|B0 (((decide (0<(ha.length:Int)))&&((Aj ha ((ha.length:Int)-1)).fKey))) (Bn (Cr .i64 ((ha.length:Int)-1))<|Bn (BV ((ha.length:Int)-1) (ha.length:Int))<|B0 (((!decide (((Aj v hb).fKind)=4))||(((Aj ha ((ha.length:Int)-1)).fStarted)&&(CY ((Aj v hb).fStr) ((Aj ha ((ha.length:Int)-1)).fLast)||decide (((Aj v hb).fStr)=((Aj ha ((ha.length:Int)-1)).fLast)))))) (some (.out (.ret (0,hd,false)))) (Mk (List.set ha (Int.toNat ((ha.length:Int)-1)) (Ay.mk ((Aj ha ((ha.length:Int)-1)).fPairs) ((Aj ha ((ha.length:Int)-1)).fLeft) ((Aj ha ((ha.length:Int)-1)).fKey) ((Aj v hb).fStr) ((Aj ha ((ha.length:Int)-1)).fStarted))) λhe=>Mk (List.set he (Int.toNat ((ha.length:Int)-1)) (Ay.mk ((Aj he ((ha.length:Int)-1)).fPairs) ((Aj he ((ha.length:Int)-1)).fLeft) ((Aj he ((ha.length:Int)-1)).fKey) ((Aj he ((ha.length:Int)-1)).fLast) true)) λhf=>Mk (List.set hf (Int.toNat ((ha.length:Int)-1)) (Ay.mk ((Aj hf ((ha.length:Int)-1)).fPairs) ((Aj hf ((ha.length:Int)-1)).fLeft) false ((Aj hf ((ha.length:Int)-1)).fLast) ((Aj hf ((ha.length:Int)-1)).fStarted))) λhk=>B6 (EG ((Aj v hb).fStr)) λhh=>Bn (Cr .i64 (hh+1))<|C2 hb hk (AC.mk hd.fDepth (IntKind.wrap .i64 (hd.fBytes+(hh+1))) hd.fOutside (hd.fLong||(decide (200<(((Aj v hb).fStr).length:Int))))))) (Bn (Cr .i64 ((ha.length:Int)+1))<|B6 (JL (Aj v hb)) λhg=>Bn (imp (!hd.fOutside) (imp (decide (((Aj v hb).fKind)=3)) ((Be ((Aj v hb).fInt)).isSome)))<|B0 (decide (0<((Aj v hb).fN))) (B0 (decide ((v.length:Int)<((Aj v hb).fN))) (some (.out (.ret (0,(AC.mk (max hd.fDepth ((ha.length:Int)+1)) (IntKind.wrap .i64 (hd.fBytes+hg)) (hd.fOutside||((decide (((Aj v hb).fKind)=3))&&(!(ov (Be ((Aj v hb).fInt)))))) (hd.fLong||(decide (200<(((Aj v hb).fStr).length:Int))))),false)))) (Bn (Mf 48 (ha.length+([(Ay.mk (decide (((Aj v hb).fKind)=6)) ((Aj v hb).fN) (decide (((Aj v hb).fKind)=6)) ([]:Ao) false)]:List Ay).length))<|C2 hb (ha++([(Ay.mk (decide (((Aj v hb).fKind)=6)) ((Aj v hb).fN) (decide (((Aj v hb).fKind)=6)) ([]:Ao) false)]:List Ay)) (AC.mk (max hd.fDepth ((ha.length:Int)+1)) (IntKind.wrap .i64 (hd.fBytes+hg)) (hd.fOutside||((decide (((Aj v hb).fKind)=3))&&(!(ov (Be ((Aj v hb).fInt)))))) (hd.fLong||(decide (200<(((Aj v hb).fStr).length:Int))))))) (B6 (G7 F ha) λhi=>B0 (decide ((hi.length:Int)=0)) (Bn (Cr .i64 (hb+1))<|some (.out (.ret (hb+1,(AC.mk (max hd.fDepth ((ha.length:Int)+1)) (IntKind.wrap .i64 (hd.fBytes+hg)) (hd.fOutside||((decide (((Aj v hb).fKind)=3))&&(!(ov (Be ((Aj v hb).fInt)))))) (hd.fLong||(decide (200<(((Aj v hb).fStr).length:Int))))),true)))) (C2 hb hi (AC.mk (max hd.fDepth ((ha.length:Int)+1)) (IntKind.wrap .i64 (hd.fBytes+hg)) (hd.fOutside||((decide (((Aj v hb).fKind)=3))&&(!(ov (Be ((Aj v hb).fInt)))))) (hd.fLong||(decide (200<(((Aj v hb).fStr).length:Int)))))))))) (some (.out (.go hd)))
def G6 (ha:AC):Option (Int×AC×Bool):=
 some (0,ha,false)
def M6 (F:Nat)(v:(List Ac)):Option (Int×AC×Bool):=
 B6 (CB (λσ=>D4 F v σ.1 σ.2.1 σ.2.2) F (([]:List Ay),0,(AC.mk 0 0 false false))) (Cf λν=>G6 ν)
def Je (F:Nat)(v:(List Ac)):Option (Int):=
 B6 (M6 F v) λr1=>B0 (((!r1.2.2)||(!decide (r1.1=(v.length:Int))))) (some 1) (B0 (r1.2.1.fOutside) (some 2) (B0 ((r1.2.1.fLong||((decide (200<(v.length:Int)))||((decide (8<r1.2.1.fDepth))||(decide (4000<r1.2.1.fBytes)))))) (some 3) (some 0)))
def HN :Option ((List Ac)):=
 some ([(Ac.mk 1 0 ([]:Ao) 0)]:List Ac)
def Lg (b:Bool):Option ((List Ac)):=
 B0 (b) (some ([(Ac.mk 2 1 ([]:Ao) 0)]:List Ac)) (some ([(Ac.mk 2 0 ([]:Ao) 0)]:List Ac))
end Go.Proofs.YtfbmdidnlhifjaaGreatDoor
namespace Go.Proofs.YtfbmdidnlhifjaaGreatDoor.Q
open Go Go.RowKit
set_option linter.unusedVariables false
set_option linter.unusedSimpArgs false
set_option maxRecDepth 100000
set_option maxHeartbeats 4000000
@[reducible] def Ap (x:Ay):List Rp:=[rB x.fPairs,Ah x.fLeft,rB x.fKey,rS x.fLast,rB x.fStarted]
theorem Er (x:Ay):(Ap x).length=5:=rfl
theorem HA (x:Ay):(Ap x).all (·.one)=true:=rfl
@[reducible] def AF (x:AC):List Rp:=[Ah x.fDepth,Ah x.fBytes,rB x.fOutside,rB x.fLong]
theorem NS:∃inf,Tryz.prog.info? 120=some inf∧inf.zero=some (.agg #[(.bool false),(.int .i64 0),(.bool false),(.string ⟨#[]⟩),(.bool false)])∧inf.size=5∧inf.bytes=48:=by
  have key:(Tryz.prog.info? 120).map (λi=>(i.zero,i.size,i.bytes))=some (some (.agg #[(.bool false),(.int .i64 0),(.bool false),(.string ⟨#[]⟩),(.bool false)]),5,48):=by kernel_rfl
  obtain⟨inf,h1,h2⟩:=Option.map_eq_some_iff.1 key;simp only[Prod.mk.injEq] at h2;exact⟨inf,h1,h2.1,h2.2.1,h2.2.2⟩
theorem L5 (parts:List (Nat×Value)):Tryz.prog.built 63 parts=Instr.fill (λi=>(#[(0,1),(1,1),(2,1),(3,1)]:Array (Nat×Nat))[i]?) #[(.int .i64 0),(.int .i64 0),(.string ⟨#[]⟩),(.int .i64 0)] parts:=by kernel_rfl
theorem E5 {n:Nat}{c:Cx}{l:Fr}{H:List Ent}{d:Option Nat}{ty:TypeId}{pos:String}{af:Array Edge}{g:Option (Nat×Bool)}{x0:Operand}{r0:Rp}(h0:ev l x0=some r0)(u0:r0.one=true):Bd Tryz.prog n c l H { dst:=d,op:=.build 63 #[(0,x0)],type:=ty,pos:=pos,after:=af,guard:=g } (AT [r0,Ah 0,rS ([]:Ao),Ah 0]):=λa w Z ha _=>by
  have p0:=ha.ev h0;have c0:=Bg (r0.hone u0 Z _ p0);have hb:Tryz.prog.built 63 [(0,a.eval x0)]=some #[a.eval x0,(.int .i64 0),(.string ⟨#[]⟩),(.int .i64 0)]:=by
    rw[L5];generalize a.eval x0=v0 at *;simp[Instr.fill,c0]
  refine⟨.agg #[a.eval x0,(.int .i64 0),(.string ⟨#[]⟩),(.int .i64 0)],⟨[a.eval x0,(.int .i64 0),(.string ⟨#[]⟩),(.int .i64 0)],rfl,p0,rfl,rfl,rfl,trivial⟩,?_⟩;have:=run_build w 63 #[(0,a.eval x0)] _ (by simpa using hb);simp[execOp,this]
theorem Nq (parts:List (Nat×Value)):Tryz.prog.built 120 parts=Instr.fill (λi=>(#[(0,1),(1,1),(2,1),(3,1),(4,1)]:Array (Nat×Nat))[i]?) #[(.bool false),(.int .i64 0),(.bool false),(.string ⟨#[]⟩),(.bool false)] parts:=by kernel_rfl
theorem Hd {n:Nat}{c:Cx}{l:Fr}{H:List Ent}{d:Option Nat}{ty:TypeId}{pos:String}{af:Array Edge}{g:Option (Nat×Bool)}{x0:Operand}{r0:Rp}(h0:ev l x0=some r0)(u0:r0.one=true){x1:Operand}{r1:Rp}(h1:ev l x1=some r1)(u1:r1.one=true){x2:Operand}{r2:Rp}(h2:ev l x2=some r2)(u2:r2.one=true):Bd Tryz.prog n c l H { dst:=d,op:=.build 120 #[(0,x0),(1,x1),(2,x2)],type:=ty,pos:=pos,after:=af,guard:=g } (AT [r0,r1,r2,rS ([]:Ao),rB false]):=λa w Z ha _=>by
  have p0:=ha.ev h0;have c0:=Bg (r0.hone u0 Z _ p0);have p1:=ha.ev h1;have c1:=Bg (r1.hone u1 Z _ p1);have p2:=ha.ev h2;have c2:=Bg (r2.hone u2 Z _ p2);have hb:Tryz.prog.built 120 [(0,a.eval x0),(1,a.eval x1),(2,a.eval x2)]=some #[a.eval x0,a.eval x1,a.eval x2,(.string ⟨#[]⟩),(.bool false)]:=by
    rw[Nq];generalize a.eval x0=v0 at *;generalize a.eval x1=v1 at *;generalize a.eval x2=v2 at *;simp[Instr.fill,c0,c1,c2]
  refine⟨.agg #[a.eval x0,a.eval x1,a.eval x2,(.string ⟨#[]⟩),(.bool false)],⟨[a.eval x0,a.eval x1,a.eval x2,(.string ⟨#[]⟩),(.bool false)],rfl,p0,p1,p2,rfl,rfl,trivial⟩,?_⟩;have:=run_build w 120 #[(0,a.eval x0),(1,a.eval x1),(2,a.eval x2)] _ (by simpa using hb);simp[execOp,this]
theorem HX (n:Int)(r:Bool)(h:Be n=some r):Fn Tryz.prog GE 79 [Ah n] [] (λR H=>R=rB r∧H=[]):=by
 refine enter (n:=9) Tryz.func79 Aa Tryz.ntmps79 Aa (λw Z=>?_);unfold Be at h;refine Am (wa Aa (Av (AU [(2,rB ((decide ((-1000000000000)≤n))&&(decide (n≤1000000000000))))] [] ?_ ?_)))
 ·refine A4 (wm Aa (wv (KE Aa Aa) (wm Aa (AY (decide ((-1000000000000)≤n)) (λc1=>?_) (λc1=>?_)))))
  ·refine wo c1 (wm Aa (wo c1 (wv (KE Aa Aa) (GU Aa c1 Aa (wa Aa (A1 ?_))))));exact CW c1
  ·refine wf c1 (wf c1 (wv (r:=rB false) (AJ Aa c1 Aa) (wa Aa (A1 ?_))));exact CW c1
 refine A0 ?_;obtain rfl:=A2 h;exact Az (BJ Tryz.results79 (AN Aa)) sN ⟨Aa,Aa⟩
theorem N9 (F:Nat)(s:Ao)(r:Bool)(h:G4 F s=some r):Fn Tryz.prog GE 92 [rS s] [] (λR H=>R=rB r∧H=[]):=by
 refine enter (n:=20) Tryz.func92 Aa Tryz.ntmps92 Aa (λw Z=>?_);unfold G4 at h;refine Am (wa Aa (Av (Au (Am (wm Aa (wv (C5 Eu Aa) (wv (r:=Ah 0) (Ax Aa) (Av (AS (ob h λhi hj hg=>BF (S:=Nat×(Int)×(Unit)) (V:=(Unit)×(Unit)) 0 (λσ=>CB (λσ=>DT s σ) σ.1 σ.2.1=some hi) (λσ=>[(0,rS s),(5,Ah (s.length:Int)),(6,Ah σ.2.1)]) (λσ=>[]) (λσ=>σ.1) (F,0,()) hj (AQ.c Aa (AQ.c Aa (AQ.c Aa AQ.nil))) sN (λσ=>DS =some r) (λσ=>[]) (λσ=>[]) ?_ ?_))))))))))
 ·rintro⟨hz,hb,⟨⟩⟩ hk;refine Ch (l':=[(0,rS s),(5,Ah (s.length:Int)),(6,Ah hb)]) (H':=[]) Aa Aa ?_;obtain⟨hl,rfl,t37,hd,hf⟩:=Ds hk;replace hd:DT s hb=some t37:=hd;unfold DT at hd;refine Am (wv (D8 Aa Aa) (Av (Au (cz hd Aa (λhm hn=>?_) (λhm ho=>?_)))))
  ·refine A7 (AW (Au (AS (Am (wm Aa (wa Aa (Av (ck hn λhh hp=>AU [(0,rS s),(5,Ah (s.length:Int)),(6,Ah hb),(18,rB ((decide ((La s hb)<32))||(decide (126<(La s hb)))))] [] ?_ ?_))))))))
   ·refine A4 (wm Aa (wm Aa (wv (Hc Eu Aa Aa hh) (wv (D8 Aa Aa) (wm Aa (AY (decide ((La s hb)<32)) (λha=>?_) (λha=>?_)))))))
    ·refine wf ha (wf ha (wf ha (wf ha (wv (r:=rB true) (Ar Aa ha Aa) (A1 ?_)))));exact CW ha
    ·refine wo ha (wm Aa (wo ha (wm Aa (wo ha (wv (Hc Eu Aa Aa hh) (wo ha (wv (DW Aa Aa) (G1 Aa ha Aa (A1 ?_)))))))));exact CW ha
   refine cz hp Aa (λhq hr=>?_) (λhq hs=>?_)
   ·refine Am (wa Aa (Av (A0 (AI (Ai (Ai (B2 ?_)))))));have ht:=Cc hr hf hg;refine AI (Ai ?_);obtain rfl:=A2 ht;exact Az (BJ Tryz.results92 (AN Aa)) sN ⟨Aa,Aa⟩
   ·refine A7 (AX (AW (A4 (ck hs λhu hw=>wv (BS Aa Aa hu) (wm Aa (A1 ?_))))));have hx:=BG hw hf;exact AE (AR (hl,hb+1,()) ⟨hx,PX _⟩ (AQ.c Aa (AQ.c Aa (AQ.c Aa AQ.nil))) sN)
  ·refine B7 (AB ?_);have hy:=Cy ho hf hg;exact AB (Bp (AR ((),()) hy AQ.nil sN))
 ·rintro⟨⟨⟩,⟨⟩⟩ he;refine Dr (l':=[]) (H':=[]) Aa Aa ?_;replace he:DS =some r:=he;unfold DS at he;refine Bi (AW (Am (wa Aa (Av (A0 ?_)))));obtain rfl:=A2 he;exact Az (BJ Tryz.results92 (AN Aa)) sN ⟨Aa,Aa⟩
theorem I9 (s:Ao)(r:Int)(h:EG s=some r):Fn Tryz.prog GE 77 [rS s] [] (λR H=>R=Ah r∧H=[]):=by
 refine enter (n:=12) Tryz.func77 Aa Tryz.ntmps77 Aa (λw Z=>?_);unfold EG at h;refine Am (wa Aa (Bs (wm Aa (wv (C5 Eu Aa) (ck h λg1 h2=>wv (BS Aa Aa g1) (wm Aa (EF (rs:=[rS s,rS ([34]:Ao)]) (r:=Ah (Lib.countByte s 34:Int)) Tryz.call93 Aa (L3 s 34) Aa Aa (ck h2 λg3 h4=>wv (BS Aa Aa g3) (wm Aa (EF (rs:=[rS s,rS ([92]:Ao)]) (r:=Ah (Lib.countByte s 92:Int)) Tryz.call93 Aa (L3 s 92) Aa Aa (ck h4 λg5 h6=>wv (BS Aa Aa g5) (wa Aa (Av (A0 ?_))))))))))))));obtain rfl:=A2 h6;exact Az (BJ Tryz.results77 (AN Aa)) sN ⟨Aa,Aa⟩
theorem M5 (F:Nat)(c:Ac)(r:Bool)(h:HM F c=some r):Fn Tryz.prog GE 76 [AT (Ab c)] [] (λR H=>R=rB r∧H=[]):=by
 refine enter (n:=81) Tryz.func76 Aa Tryz.ntmps76 Aa (λw Z=>?_);unfold HM at h;refine Am (Bt Aa Aa (λb1=>?_));refine wa Aa (Av (Au (Am (vF BB Aa H4 (vL 0 H6 Aa (Av (AS (Am (wv (BK Aa Aa) (wa Aa (Av (cz h Aa (λc2 h3=>?_) (λc2 h6=>?_)))))))))))))
 ·refine AU [(2,rB ((decide (c.fInt=0))&&((decide (c.fStr=([]:Ao)))&&(decide (c.fN=0)))))] [] ?_ ?_
  ·refine A4 (vF BB Aa C0 (vL 0 DN Aa (wv (BK Aa Aa) (wm Aa (AY (decide (c.fInt=0)) (λc4=>?_) (λc4=>?_))))))
   ·refine wo c4 (vF BB Aa CM (wo c4 (vL 0 Dm Aa (wo c4 (wv (Gc Aa Aa) (GU Aa c4 Aa (wm Aa (AY (decide (c.fStr=([]:Ao))) (λc5=>?_) (λc5=>?_)))))))))
    ·refine wo c5 (vF BB Aa C0 (wo c5 (vL 0 DN Aa (wo c5 (wv (BK Aa Aa) (GU Aa c5 Aa (wa Aa (A1 ?_))))))));exact CW (And.intro c4 c5)
    ·refine wf c5 (wf c5 (wf c5 (wv (r:=rB false) (AJ Aa c5 Aa) (wa Aa (A1 ?_)))));exact CW (And.intro c4 c5)
   ·refine wf c4 (wf c4 (wf c4 (wv (r:=rB false) (AJ Aa c4 Aa) (wm Aa (wz Aa Aa (wz Aa Aa (wz Aa Aa (wv (r:=rB false) (AJ (b:=false) Aa Aa Aa) (wa Aa (A1 ?_))))))))));exact CW c4
  refine A0 (AI (Ai ?_));obtain rfl:=A2 h3;exact Az (BJ K4 (AN Aa)) sN ⟨Aa,Aa⟩
 ·refine Am (wv (BK Aa Aa) (wa Aa (Av (cz h6 Aa (λc7 h8=>?_) (λc7 hm=>?_)))))
  ·refine AU [(2,rB (bif decide (c.fInt=0) then((decide (c.fStr=([]:Ao)))&&(decide (c.fN=0))) else((decide (c.fInt=1))&&((decide (c.fStr=([]:Ao)))&&(decide (c.fN=0))))))] [] ?_ ?_
   ·refine A4 (vF BB Aa C0 (vL 0 DN Aa (wv (BK Aa Aa) (wm Aa (AY (decide (c.fInt=0)) (λc9=>?_) (λc9=>?_))))))
    ·refine wf c9 (wf c9 (wf c9 (wv (r:=rB true) (Ar Aa c9 Aa) (wm Aa (Bc (b:=true) Aa Aa Aa (vF BB Aa CM (Bc (b:=true) Aa Aa Aa (vL 0 Dm Aa (Bc (b:=true) Aa Aa Aa (wv (Gc Aa Aa) (wv (r:=rB (decide (c.fStr=([]:Ao)))) (Ar (b:=true) Aa Aa Aa) (wm Aa (AY (decide (c.fStr=([]:Ao))) (λhg=>?_) (λhg=>?_))))))))))))))
     ·refine wo hg (vF BB Aa C0 (wo hg (vL 0 DN Aa (wo hg (wv (BK Aa Aa) (GU Aa hg Aa (wa Aa (A1 ?_))))))));exact CW (And.intro c9 hg)
     ·refine wf hg (wf hg (wf hg (wv (r:=rB false) (AJ Aa hg Aa) (wa Aa (A1 ?_)))));exact CW (And.intro c9 hg)
    ·refine wo c9 (vF BB Aa C0 (wo c9 (vL 0 DN Aa (wo c9 (wv (BK Aa Aa) (G1 Aa c9 Aa (wm Aa (AY (decide (c.fInt=1)) (λhb=>?_) (λhb=>?_)))))))))
     ·refine wo hb (vF BB Aa CM (wo hb (vL 0 Dm Aa (wo hb (wv (Gc Aa Aa) (GU Aa hb Aa (wm Aa (AY (decide (c.fStr=([]:Ao))) (λhh=>?_) (λhh=>?_)))))))))
      ·refine wo hh (vF BB Aa C0 (wo hh (vL 0 DN Aa (wo hh (wv (BK Aa Aa) (GU Aa hh Aa (wa Aa (A1 ?_))))))));exact CW (And.intro c9 (And.intro hb hh))
      ·refine wf hh (wf hh (wf hh (wv (r:=rB false) (AJ Aa hh Aa) (wa Aa (A1 ?_)))));exact CW (And.intro c9 (And.intro hb hh))
     ·refine wf hb (wf hb (wf hb (wv (r:=rB false) (AJ Aa hb Aa) (wm Aa (wz Aa Aa (wz Aa Aa (wz Aa Aa (wv (r:=rB false) (AJ (b:=false) Aa Aa Aa) (wa Aa (A1 ?_))))))))));exact CW (And.intro c9 hb)
   refine A0 (AI (Ai ?_));obtain rfl:=A2 h8;exact Az (BJ K4 (AN Aa)) sN ⟨Aa,Aa⟩
  ·refine Am (wv (BK Aa Aa) (wa Aa (Av (cz hm Aa (λhn ho=>?_) (λhn hp=>?_)))))
   ·refine AU [(2,rB ((decide (c.fStr=([]:Ao)))&&(decide (c.fN=0))))] [] ?_ ?_
    ·refine A4 (vF BB Aa CM (vL 0 Dm Aa (wv (Gc Aa Aa) (wm Aa (AY (decide (c.fStr=([]:Ao))) (λhi=>?_) (λhi=>?_))))))
     ·refine wo hi (vF BB Aa C0 (wo hi (vL 0 DN Aa (wo hi (wv (BK Aa Aa) (GU Aa hi Aa (wa Aa (A1 ?_))))))));exact CW hi
     ·refine wf hi (wf hi (wf hi (wv (r:=rB false) (AJ Aa hi Aa) (wa Aa (A1 ?_)))));exact CW hi
    refine A0 (AI (Ai ?_));obtain rfl:=A2 ho;exact Az (BJ K4 (AN Aa)) sN ⟨Aa,Aa⟩
   ·refine Am (wv (BK Aa Aa) (wa Aa (Av (cz hp Aa (λhq hr=>?_) (λhq hs=>?_)))))
    ·refine ck hr λht hu=>AU [(2,rB ((decide (c.fInt=0))&&((decide (c.fN=0))&&(ov (G4 F c.fStr)))))] [] ?_ ?_
     ·refine A4 (vF BB Aa C0 (vL 0 DN Aa (wv (BK Aa Aa) (wm Aa (AY (decide (c.fInt=0)) (λha=>?_) (λha=>?_))))))
      ·refine wo ha (vF BB Aa C0 (wo ha (vL 0 DN Aa (wo ha (wv (BK Aa Aa) (GU Aa ha Aa (wm Aa (AY (decide (c.fN=0)) (λhd=>?_) (λhd=>?_)))))))))
       ·refine wo hd (vF BB Aa CM (wo hd (vL 0 Dm Aa (wo hd (Cw Tryz.call92 (N9 F c.fStr (ov (G4 F c.fStr)) (Jm (Gg (Gg ht ha) hd))) Aa (GU Aa hd Aa (wa Aa (A1 ?_))))))));exact CW (And.intro ha hd)
       ·refine wf hd (wf hd (wf hd (wv (r:=rB false) (AJ Aa hd Aa) (wa Aa (A1 ?_)))));exact CW (And.intro ha hd)
      ·refine wf ha (wf ha (wf ha (wv (r:=rB false) (AJ Aa ha Aa) (wm Aa (wz Aa Aa (wz Aa Aa (wz Aa Aa (wv (r:=rB false) (AJ (b:=false) Aa Aa Aa) (wa Aa (A1 ?_))))))))));exact CW ha
     refine A0 (AI (Ai ?_));obtain rfl:=A2 hu;exact Az (BJ K4 (AN Aa)) sN ⟨Aa,Aa⟩
    ·refine Au (Am (wv (BK Aa Aa) (wa Aa (Av (cz hs Aa (λhl hw=>?_) (λhl hx=>?_))))))
     ·refine A7 (AW (Bx Aa hl (AU [(2,rB ((decide (c.fInt=0))&&((decide (c.fStr=([]:Ao)))&&(decide (0≤c.fN)))))] [] ?_ ?_)))
      ·refine A4 (vF BB Aa C0 (vL 0 DN Aa (wv (BK Aa Aa) (wm Aa (AY (decide (c.fInt=0)) (λhe=>?_) (λhe=>?_))))))
       ·refine wo he (vF BB Aa CM (wo he (vL 0 Dm Aa (wo he (wv (Gc Aa Aa) (GU Aa he Aa (wm Aa (AY (decide (c.fStr=([]:Ao))) (λhj=>?_) (λhj=>?_)))))))))
        ·refine wo hj (vF BB Aa C0 (wo hj (vL 0 DN Aa (wo hj (wv (KF Aa Aa) (GU Aa hj Aa (wa Aa (A1 ?_))))))));exact CW (And.intro he hj)
        ·refine wf hj (wf hj (wf hj (wv (r:=rB false) (AJ Aa hj Aa) (wa Aa (A1 ?_)))));exact CW (And.intro he hj)
       ·refine wf he (wf he (wf he (wv (r:=rB false) (AJ Aa he Aa) (wm Aa (wz Aa Aa (wz Aa Aa (wz Aa Aa (wv (r:=rB false) (AJ (b:=false) Aa Aa Aa) (wa Aa (A1 ?_))))))))));exact CW he
      refine A0 (AI (Ai ?_));obtain rfl:=A2 hw;exact Az (BJ K4 (AN Aa)) sN ⟨Aa,Aa⟩
     ·refine A4 (wv (BK Aa Aa) (wa Aa (Av (cz hx Aa (λhy hz=>?_) (λhy h0=>?_)))))
      ·refine AU [(2,rB ((decide (c.fInt=0))&&((decide (c.fStr=([]:Ao)))&&(decide (0≤c.fN)))))] [] ?_ ?_
       ·refine A4 (vF BB Aa C0 (vL 0 DN Aa (wv (BK Aa Aa) (wm Aa (AY (decide (c.fInt=0)) (λhf=>?_) (λhf=>?_))))))
        ·refine wo hf (vF BB Aa CM (wo hf (vL 0 Dm Aa (wo hf (wv (Gc Aa Aa) (GU Aa hf Aa (wm Aa (AY (decide (c.fStr=([]:Ao))) (λhk=>?_) (λhk=>?_)))))))))
         ·refine wo hk (vF BB Aa C0 (wo hk (vL 0 DN Aa (wo hk (wv (KF Aa Aa) (GU Aa hk Aa (wa Aa (A1 ?_))))))));exact CW (And.intro hf hk)
         ·refine wf hk (wf hk (wf hk (wv (r:=rB false) (AJ Aa hk Aa) (wa Aa (A1 ?_)))));exact CW (And.intro hf hk)
        ·refine wf hf (wf hf (wf hf (wv (r:=rB false) (AJ Aa hf Aa) (wm Aa (wz Aa Aa (wz Aa Aa (wz Aa Aa (wv (r:=rB false) (AJ (b:=false) Aa Aa Aa) (wa Aa (A1 ?_))))))))));exact CW hf
       refine A0 (AI (Ai ?_));obtain rfl:=A2 hz;exact Az (BJ K4 (AN Aa)) sN ⟨Aa,Aa⟩
      ·refine A7 (AX (AW (Am (wa Aa (Av (A0 ?_))))));obtain rfl:=A2 h0;exact Az (BJ K4 (AN Aa)) (sS sN) ⟨Aa,Aa⟩
theorem NA (c:Ac)(r:Int)(h:JL c=some r):Fn Tryz.prog GE 78 [AT (Ab c)] [] (λR H=>R=Ah r∧H=[]):=by
 refine enter (n:=28) Tryz.func78 Aa Tryz.ntmps78 Aa (λw Z=>?_);unfold JL at h;refine Am (Bt Aa Aa (λb1=>?_));refine wa Aa (Av (Au (Am (vF BB Aa H4 (vL 0 H6 Aa (Av (AS (Am (wv (BK Aa Aa) (wa Aa (Av (cz h Aa (λc2 h3=>?_) (λc2 h4=>?_)))))))))))))
 ·refine Am (wa Aa (Av (A0 (AI (Ai ?_)))));obtain rfl:=A2 h3;exact Az (BJ Mt (AN Aa)) (sS sN) ⟨Aa,Aa⟩
 ·refine Am (wv (BK Aa Aa) (wa Aa (Av (cz h4 Aa (λc5 h6=>?_) (λc5 h7=>?_)))))
  ·refine Am (vF BB Aa C0 (vL 0 DN Aa (wv (r:=Ah (IntKind.wrap .i64 (5-c.fInt))) (MP Aa Aa) (wa Aa (Av (A0 (AI (Ai ?_))))))));obtain rfl:=A2 h6;exact Az (BJ Mt (AN Aa)) (sS sN) ⟨Aa,Aa⟩
  ·refine Am (wv (BK Aa Aa) (wa Aa (Av (cz h7 Aa (λc8 h9=>?_) (λc8 ha=>?_)))))
   ·refine Am (vF BB Aa C0 (vL 0 DN Aa (ck h9 λhb hd=>EF (rs:=[Ah c.fInt]) (r:=rS (Lib.itoa c.fInt)) Tryz.call94 Aa (Nl c.fInt hb) Aa Aa (wv (C5 Eu Aa) (wa Aa (Av (A0 (AI (Ai ?_)))))))));obtain rfl:=A2 hd;exact Az (BJ Mt (AN Aa)) (sS sN) ⟨Aa,Aa⟩
   ·refine Am (wv (BK Aa Aa) (wa Aa (Av (cz ha Aa (λhe hf=>?_) (λhe hg=>?_)))))
    ·refine Am (vF BB Aa CM (vL 0 Dm Aa (ob hf λhh hi hj=>Cw Tryz.call77 (I9 c.fStr hh hi) Aa (wa Aa (Av (A0 (AI (Ai ?_))))))));obtain rfl:=A2 hj;exact Az (BJ Mt (AN Aa)) (sS sN) ⟨Aa,Aa⟩
    ·refine A7 (AX (AW (Am (vF BB Aa C0 (vL 0 DN Aa (wv (r:=Ah (IntKind.wrap .i64 (c.fN-1))) (MP Aa Aa) (wv (Ot Px Aa Aa) (wv (r:=Ah (IntKind.wrap .i64 (2+(max 0 (IntKind.wrap .i64 (c.fN-1)))))) (KH Aa Aa) (wa Aa (Av (A0 ?_)))))))))));obtain rfl:=A2 hg;exact Az (BJ Mt (AN Aa)) (sS sN) ⟨Aa,Aa⟩
theorem LJ (F:Nat)(hi:Value)(stack:(List Ay))(r:(List Ay))(h:G7 F stack=some r):Fn Tryz.prog GE 80 [rv hi] [.row hi 120 5 (Aq Ap stack)] (λR H=>∃u0:Value,R=rv u0∧H=[.row u0 120 5 (Aq Ap r)]):=by
 refine enter (n:=38) Tryz.func80 Aa Tryz.ntmps80 Aa (λw Z=>?_);unfold G7 at h;refine Am (wa Aa (Av (Au (AS (ob h λhn ho hl=>BF (S:=Nat×((List Ay))×(Value)) (V:=((List Ay))×(Value)) 0 (λσ=>CB (λσ=>Ci σ) σ.1 σ.2.1=some hn) (λσ=>[(0,rv σ.2.2),(2,rv (.slice none 0 0))]) (λσ=>[.row σ.2.2 120 5 (Aq Ap σ.2.1)]) (λσ=>σ.1) (F,stack,hi) ho (AQ.c Aa (AQ.c Aa AQ.nil)) (sC sN) (λσ=>CA σ.1=some r) (λσ=>[(0,rv σ.2),(2,rv (.slice none 0 0))]) (λσ=>[.row σ.2 120 5 (Aq Ap σ.1)]) ?_ ?_)))))
 ·rintro⟨hG,ha,hd⟩ hp;refine Ch (l':=[(0,rv hd),(2,rv (.slice none 0 0))]) (H':=[.row hd 120 5 (Aq Ap ha)]) Aa Aa ?_;obtain⟨hq,rfl,hr,hg,hj⟩:=Ds hp;replace hg:Ci ha=some hr:=hg;unfold Ci at hg;refine Au (Am (wm Aa (wv (CO (ys:=ha) (enc:=Ap) (i:=0) Eo Aa Aa) (wv (DW Aa Aa) (Av (cz hg Aa (λhs ht=>?_) (λhs hu=>?_)))))))
  ·refine A7 (AW (AS (Am (wm Aa (wm Aa (wv (CO (ys:=ha) (enc:=Ap) (i:=0) Eo Aa Aa) (ck ht λhw hx=>wv (IE Aa Aa hw) (ck hx λhe hy=>wv (r:=rv (Dn 5 hd (Cg ((ha.length:Int)-1)) 0)) (E4 (i:=0) Eo JH Aa Aa Aa (Bh he)) (wa Aa (Bs (wm Aa (wv (r:=rv (Dn 5 hd (Cg ((ha.length:Int)-1)) 0)) (B3 (k:=0) Aa (Bh he) Aa Aa) (wv (r:=rv (Dn 5 hd (Cg ((ha.length:Int)-1)) 1)) (Dp (k:=0) En Aa C0 Aa (Bh he) Aa Aa Aa) (wv (r:=Ah ((Aj ha ((ha.length:Int)-1)).fLeft)) (Do (enc:=Ap) (ys:=ha) (i:=0) (j:=(ha.length:Int)-1) DN Aa Aa he Aa) (ck hy λhz h0=>wv (IE Aa Aa hz) (wv (r:=rv (Dn 5 hd (Cg ((ha.length:Int)-1)) 0)) (B3 (k:=0) Aa (Bh he) Aa Aa) (wv (r:=rv (Dn 5 hd (Cg ((ha.length:Int)-1)) 1)) (Dp (k:=0) En Aa C0 Aa (Bh he) Aa Aa Aa) (GW (enc:=Ap) (ys:=ha) (y':=(Ay.mk ((Aj ha ((ha.length:Int)-1)).fPairs) (((Aj ha ((ha.length:Int)-1)).fLeft)-1) ((Aj ha ((ha.length:Int)-1)).fKey) ((Aj ha ((ha.length:Int)-1)).fLast) ((Aj ha ((ha.length:Int)-1)).fStarted))) (i:=0) (j:=(ha.length:Int)-1) C0 Aa Aa (BL Aa) Aa he Aa Aa (H':=[.row hd 120 5 (Aq Ap (List.set ha (Cg ((ha.length:Int)-1)) (Ay.mk ((Aj ha ((ha.length:Int)-1)).fPairs) (((Aj ha ((ha.length:Int)-1)).fLeft)-1) ((Aj ha ((ha.length:Int)-1)).fKey) ((Aj ha ((ha.length:Int)-1)).fLast) ((Aj ha ((ha.length:Int)-1)).fStarted))))]) Aa (bd h0 λhb hf h1=>?_)))))))))))))))))));rw[← hf];refine Av (Au (Am (wm Aa (wv (r:=rv (Dn 5 hd (Cg ((ha.length:Int)-1)) 0)) (B3 (k:=0) Aa (Bh (BP he hf)) Aa Aa) (wv (r:=rv (Dn 5 hd (Cg ((ha.length:Int)-1)) 1)) (Dp (k:=0) En Aa C0 Aa (Bh (BP he hf)) Aa Aa Aa) (wv (r:=Ah ((Aj hb ((ha.length:Int)-1)).fLeft)) (Do (enc:=Ap) (ys:=hb) (i:=0) (j:=(ha.length:Int)-1) DN Aa Aa (BP he hf) Aa) (wv (DW Aa Aa) (Av (cz h1 Aa (λh2 h3=>?_) (λh2 h4=>?_))))))))))
   ·refine Am (wm Aa (wm Aa (wv (r:=rv (Dn 5 hd (Cg ((ha.length:Int)-1)) 0)) (B3 (k:=0) Aa (Bh (BP he hf)) Aa Aa) (wv (r:=rv (Dn 5 hd (Cg ((ha.length:Int)-1)) 0)) (Dp (k:=0) En Aa Gy Aa (Bh (BP he hf)) Aa Aa Aa) (wv (r:=rB ((Aj hb ((ha.length:Int)-1)).fPairs)) (Do (enc:=Ap) (ys:=hb) (i:=0) (j:=(ha.length:Int)-1) N7 Aa Aa (BP he hf) Aa) (wv (r:=rv (Dn 5 hd (Cg ((ha.length:Int)-1)) 0)) (B3 (k:=0) Aa (Bh (BP he hf)) Aa Aa) (wv (r:=rv (Dn 5 hd (Cg ((ha.length:Int)-1)) 2)) (Dp (k:=0) En Aa Gy Aa (Bh (BP he hf)) Aa Aa Aa) (GW (enc:=Ap) (ys:=hb) (y':=(Ay.mk ((Aj hb ((ha.length:Int)-1)).fPairs) ((Aj hb ((ha.length:Int)-1)).fLeft) ((Aj hb ((ha.length:Int)-1)).fPairs) ((Aj hb ((ha.length:Int)-1)).fLast) ((Aj hb ((ha.length:Int)-1)).fStarted))) (i:=0) (j:=(ha.length:Int)-1) Gy Aa Aa (BL Aa) Aa (BP he hf) Aa Aa (H':=[.row hd 120 5 (Aq Ap (List.set hb (Cg ((ha.length:Int)-1)) (Ay.mk ((Aj hb ((ha.length:Int)-1)).fPairs) ((Aj hb ((ha.length:Int)-1)).fLeft) ((Aj hb ((ha.length:Int)-1)).fPairs) ((Aj hb ((ha.length:Int)-1)).fLast) ((Aj hb ((ha.length:Int)-1)).fStarted))))]) Aa (bd h3 λhH h5 h6=>?_)))))))));rw[← h5];refine Bs (wm Aa (wa Aa (Av (A0 (Ai (AI (Ai (B2 ?_))))))));have h7:=Cc h6 hj hl;refine AI (Ai ?_);obtain rfl:=A2 h7;exact Az (BJ Tryz.results80 (AN Aa)) (sC sN) ⟨hd,Aa,Aa⟩
   ·refine A7 (AW (A4 (wm Aa (wm Aa (wv (CO (ys:=hb) (enc:=Ap) (i:=0) Eo Aa Aa) (ck h4 λh8 h9=>wv (IE Aa Aa h8) (ck h9 λhA hB=>OT (i:=0) Eo JH Aa Aa Aa hA Aa (λhC=>?_))))))));refine wa Aa (A1 (AX ?_));have hD:=BG hB hj;exact AE (AR (hq,List.take (Cg ((hb.length:Int)-1)) hb,hC) ⟨hD,PX _⟩ (AQ.c Aa (AQ.c Aa AQ.nil)) (sC sN))
  ·refine B7 (AB ?_);have hE:=Cy hu hj hl;exact AB (Bp (AR (ha,hd) hE (AQ.c Aa (AQ.c Aa AQ.nil)) (sC sN)))
 ·rintro⟨hm,hk⟩ hh;refine Dr (l':=[(0,rv hk),(2,rv (.slice none 0 0))]) (H':=[.row hk 120 5 (Aq Ap hm)]) Aa Aa ?_;replace hh:CA hm=some r:=hh;unfold CA at hh;refine Bi (AW (Am (wm Aa (wa Aa (Av (A0 ?_))))));obtain rfl:=A2 hh;exact Az (BJ Tryz.results80 (AN Aa)) (sC sN) ⟨hk,Aa,Aa⟩
theorem NC (F:Nat)(v:(List Ac))(r:Int×AC×Bool)(h:M6 F v=some r):Fn Tryz.prog GE 56 [AH 4 (Aq Ab v)] [] (λR H=>R=Ce [Ah r.1,AT (AF r.2.1),rB r.2.2]∧H=[]):=by
 refine enter (n:=152) Tryz.func56 Aa Tryz.ntmps56 Aa (λw Z=>?_);unfold M6 at h;refine Am (wa Aa (Bl (cs:=[Ah 0,Ah 0,rB false,rB false]) Tryz.zeroValue105 Aa Aa (λb1=>?_)));refine wa Aa (Av (Mz (Am (Bl (cs:=[Ah 0,Ah 0,rB false,rB false]) Tryz.zeroValue105 Aa Aa (λb2=>?_)))));refine Bs (wa Aa (Av (Au (M0 (AW (Au (Am (wm Aa (wv (Bb (ys:=v) (enc:=Ab) BW Aa) (wv (r:=Ah 0) (Ax Aa) (Av (AS (WC.nilrow (e:=120) (sz:=5) (G3 (H2:=[.blk b2 [Ah 0,Ah 0,rB false,rB false] 105,.blk b1 [Ah 0,Ah 0,rB false,rB false] 105,.row (.slice none 0 0                                                                                                                        ) 120 5 (Aq Ap ([]:List Ay))]) ((Af (i:=1) Aa).trans (PN _ ((Af (i:=1) Aa).trans (PN _ (PO _))))) (ob h λhA hB hy=>BF (S:=Nat×((List Ay)×Int×AC)×(Value)) (V:=(AC)×(Unit)) 0 (λσ=>CB (λσ=>D4 F v σ.1 σ.2.1 σ.2.2) σ.1 σ.2.1=some hA) (λσ=>[(0,AH 4 (Aq Ab v)),(3,rP b1 0),(5,rP b2 0),(6,rv σ.2.2),(11,AH 4 (Aq Ab v)),(12,Ah (v.length:Int)),(13,Ah σ.2.1.2.1)]) (λσ=>[.blk b2 (AF σ.2.1.2.2) 105,.blk b1 [Ah 0,Ah 0,rB false,rB false] 105,.row σ.2.2 120 5 (Aq Ap σ.2.1.1)]) (λσ=>σ.1) (F,(([]:List Ay),0,(AC.mk 0 0 false false)),(.slice none 0 0                                                                                                                        )) hB (AQ.c Aa (AQ.c Aa (AQ.c5 Aa Aa Aa Aa Aa AQ.nil))) (sC (sC (sC sN))) (λσ=>G6 σ.1=some r) (λσ=>[(3,rP b1 0),(5,rP b2 0)]) (λσ=>[.blk b2 (AF σ.1) 105,.blk b1 [Ah 0,Ah 0,rB false,rB false] 105]) ?_ ?_)))))))))))))))
 ·rintro⟨gI,⟨hd,hb,ha⟩,he⟩ hC;refine Ch (l':=[(0,AH 4 (Aq Ab v)),(3,rP b1 0),(5,rP b2 0),(6,rv he),(11,AH 4 (Aq Ab v)),(12,Ah (v.length:Int)),(13,Ah hb)]) (H':=[.blk b2 (AF ha) 105,.blk b1 [Ah 0,Ah 0,rB false,rB false] 105,.row he 120 5 (Aq Ap hd)]) Aa Aa ?_;obtain⟨hD,rfl,h4,h0,hx⟩:=Ds hC;replace h0:D4 F v hd hb ha=some h4:=h0;unfold D4 at h0;refine Am (wv (D8 Aa Aa) (Av (Au (cz h0 Aa (λhE hG=>?_) (λhE hH=>?_)))))
  ·refine A7 (AW (C9 (S:=((List Ay)×AC)×(Value)) (λσ=>C2 hb σ.1.1 σ.1.2=some h4) (λσ=>[(0,AH 4 (Aq Ab v)),(3,rP b1 0),(5,rP b2 0),(6,rv σ.2),(11,AH 4 (Aq Ab v)),(12,Ah (v.length:Int)),(13,Ah hb)]) (λσ=>[.blk b2 (AF σ.1.2) 105,.blk b1 [Ah 0,Ah 0,rB false,rB false] 105,.row σ.2 120 5 (Aq Ap σ.1.1)]) ?_ ?_))
   ·refine AS (Am (wm Aa (ck hG λhI hJ=>wv (Bu (enc:=Ab) (ys:=v) BW Cu Aa Aa hI) (wv (CE Ja Cu Aa Aa Aa) (Bl (cs:=[Ah 0,Ah 0,rS ([]:Ao),Ah 0]) Is Aa Aa (λhf=>?_))))));refine wa Aa (A6 (i:=0) Cu Aa Aa Aa (AV.c Aa) Aa Aa (cs':=[Ah ((Aj v hb).fKind),Ah ((Aj v hb).fInt),rS ((Aj v hb).fStr),Ah ((Aj v hb).fN)]) Aa (H':=[.blk hf (Ab (Aj v hb)) 63,.blk b2 (AF ha) 105,.blk b1 [Ah 0,Ah 0,rB false,rB false] 105,.row he 120 5 (Aq Ap hd)]) Aa (Av (Au (Am (wv (Ba (i:=0) Ja Cu Aa Aa Aa Aa) (ob hJ λhK hL hN=>Cw Tryz.call76 (M5 F (Aj v hb) hK hL) Aa (wv (B5 Aa) (Av (cz hN Aa (λhO hP=>?_) (λhO hQ=>?_))))))))))
    ·refine Au (E0 (H1:=[.blk hf (Ab (Aj v hb)) 63,.blk b2 (AF ha) 105,.blk b1 (AF ha) 105,.row he 120 5 (Aq Ap hd)]) [3,5] [⟨[],AT (AF ha),1⟩,⟨[],Ah 0,0⟩,⟨[0],rv undef,2⟩,⟨[],rB false,0⟩] (rle [(3,_),(2,[.blk hf (Ab (Aj v hb)) 63,.blk b2 (AF ha) 105,.blk b1 (AF ha) 105,.row he 120 5 (Aq Ap hd)])]) [2,4,3] ?_ ?_)
     ·refine of (Ba (i:=1) EY Dq Aa Aa Aa Aa) (oq (AK Aa) (HR Aa (JU (Ca (i:=2) Dq Aa Aa Aa (AV.c Aa) Aa Aa (cs':=[Ah ha.fDepth,Ah ha.fBytes,rB ha.fOutside,rB ha.fLong]) Aa (H':=[.blk hf (Ab (Aj v hb)) 63,.blk b2 (AF ha) 105,.blk b1 (AF ha) 105,.row he 120 5 (Aq Ap hd)]) Aa)) ?_));refine oq (AK Aa) ?_;exact CZ
     refine AW (A0 (Ai (AI (Ai (Ai (B2 ?_))))));have hR:=Cc hP hx hy;refine AI (Ai (G2 ?_));obtain rfl:=A2 hR;exact Az (Mp Mu (AN Aa) (BC (i:=2) EY Dq Aa Aa Aa) (AN Aa)) (sS (sS (sS (sS sN)))) ⟨Aa,Aa⟩
    ·refine A7 (AW (Au (Am (wm Aa (wv (CO (ys:=hd) (enc:=Ap) (i:=3) Eo Aa Aa) (wa Aa (Av (ck hQ λhS hT=>ck hT λh5 hU=>AU [(0,AH 4 (Aq Ab v)),(3,rP b1 0),(5,rP b2 0),(6,rv he),(7,Ah hb),(8,rP hf 0),(9,Ah (hd.length:Int)),(11,AH 4 (Aq Ab v)),(12,Ah (v.length:Int)),(13,Ah hb),(33,rB ((decide (0<(hd.length:Int)))&&((Aj hd ((hd.length:Int)-1)).fKey)))] [.blk hf (Ab (Aj v hb)) 63,.blk b2 (AF ha) 105,.blk b1 [Ah 0,Ah 0,rB false,rB false] 105,.row he 120 5 (Aq Ap hd)] ?_ ?_))))))))
     ·refine A4 (wm Aa (wv (DW Aa Aa) (wm Aa (AY (decide (0<(hd.length:Int))) (λhi=>?_) (λhi=>?_)))))
      ·refine wo hi (wm Aa (wo hi (wm Aa (wo hi (wv (IE Aa Aa (Gg hS hi)) (wo hi (wv (r:=rv (Dn 5 he (Cg ((hd.length:Int)-1)) 0)) (E4 (i:=3) Eo JH Aa Aa Aa (Bh (Gg h5 hi))) (wo hi (wv (r:=rv (Dn 5 he (Cg ((hd.length:Int)-1)) 2)) (Dp (k:=3) En Aa Gy Aa (Bh (Gg h5 hi)) Aa Aa Aa) (wo hi (wv (r:=rB ((Aj hd ((hd.length:Int)-1)).fKey)) (Do (enc:=Ap) (ys:=hd) (i:=3) (j:=(hd.length:Int)-1) N7 Aa Aa (Gg h5 hi) Aa) (GU Aa hi Aa (A1 ?_)))))))))))));exact CW hi
      ·refine wf hi (wf hi (wf hi (wf hi (wf hi (wf hi (wv (r:=rB false) (AJ Aa hi Aa) (A1 ?_)))))));exact CW hi
     refine cz hU Aa (λhV hW=>?_) (λhV hX=>?_)
     ·refine Am (wm Aa (wm Aa (ck hW λhY hZ=>wv (IE Aa Aa hY) (ck hZ λhj ga=>wv (r:=rv (Dn 5 he (Cg ((hd.length:Int)-1)) 0)) (E4 (i:=3) Eo JH Aa Aa Aa (Bh hj)) (wa Aa (Av (Au (AU [(0,AH 4 (Aq Ab v)),(3,rP b1 0),(5,rP b2 0),(6,rv he),(8,rP hf 0),(10,rv (Dn 5 he (Cg ((hd.length:Int)-1)) 0)),(11,AH 4 (Aq Ab v)),(12,Ah (v.length:Int)),(13,Ah hb),(38,rP hf 0),(39,Ah ((Aj v hb).fKind)),(40,rB (!decide (((Aj v hb).fKind)=4))),(41,rB (!decide (((Aj v hb).fKind)=4))),(55,rB ((!decide (((Aj v hb).fKind)=4))||(((Aj hd ((hd.length:Int)-1)).fStarted)&&(CY ((Aj v hb).fStr) ((Aj hd ((hd.length:Int)-1)).fLast)||decide (((Aj v hb).fStr)=((Aj hd ((hd.length:Int)-1)).fLast))))))] [.blk hf (Ab (Aj v hb)) 63,.blk b2 (AF ha) 105,.blk b1 [Ah 0,Ah 0,rB false,rB false] 105,.row he 120 5 (Aq Ap hd)] ?_ ?_))))))))
      ·refine AY (!decide (((Aj v hb).fKind)=4)) (λhh=>?_) (λhh=>?_)
       ·refine D3 [0,3,5,6,8,10,11,12,13] [⟨[],rP hf 0,0⟩,⟨[0],Ah ((Aj v hb).fKind),1⟩,⟨[1],rB (!decide (((Aj v hb).fKind)=4)),0⟩,⟨[2],rB (!decide (((Aj v hb).fKind)=4)),0⟩,⟨[3],rv undef,0⟩,⟨[4,3],rv undef,0⟩,⟨[5,3],rv undef,0⟩,⟨[6,3],rv undef,0⟩,⟨[7,3],rv undef,0⟩,⟨[8],rv undef,0⟩,⟨[9,8],rv undef,0⟩,⟨[8],rv undef,0⟩,⟨[11,8],rv undef,0⟩,⟨[12,8],rv undef,0⟩,⟨[13,8],rv undef,0⟩,⟨[10,14,8],rv undef,0⟩,⟨[8,15,3],rv undef,0⟩,⟨[3,16],rB true,0⟩] [38,39,40,41,42,43,44,45,46,47,48,49,50,51,52,53,54,55,0,3,5,6,8,10,11,12,13] ?_ ?_
        ·refine oq (AL BB Aa H4 Aa Aa) (of (Bq (i:=0) H6 Aa Aa Aa) (oq (CK Aa Aa) (oq (Ax Aa) (oz hh (oz hh (oz hh (oz hh (oz hh (ou (ou (ou (ou (ou (ou (ou (oz hh (oq (Ar (b:=!decide (((Aj v hb).fKind)=4)) Aa hh Aa) ?_)))))))))))))))));exact CZ
        exact CW hh
       ·refine AY ((Aj hd ((hd.length:Int)-1)).fStarted) (λhk=>?_) (λhk=>?_)
        ·refine D3 [0,3,5,6,8,10,11,12,13] [⟨[],rP hf 0,0⟩,⟨[0],Ah ((Aj v hb).fKind),1⟩,⟨[1],rB (!decide (((Aj v hb).fKind)=4)),0⟩,⟨[2],rB (!decide (((Aj v hb).fKind)=4)),0⟩,⟨[3],rv (Dn 5 he (Cg ((hd.length:Int)-1)) 0),0⟩,⟨[4,3],rv (Dn 5 he (Cg ((hd.length:Int)-1)) 0),1⟩,⟨[5,3],rv (Dn 5 he (Cg ((hd.length:Int)-1)) 4),1⟩,⟨[6,3],rB ((Aj hd ((hd.length:Int)-1)).fStarted),1⟩,⟨[7,3],rB ((Aj hd ((hd.length:Int)-1)).fStarted),0⟩,⟨[8],rP hf 2,0⟩,⟨[9,8],rS ((Aj v hb).fStr),1⟩,⟨[8],rv (Dn 5 he (Cg ((hd.length:Int)-1)) 0),0⟩,⟨[11,8],rv (Dn 5 he (Cg ((hd.length:Int)-1)) 0),1⟩,⟨[12,8],rv (Dn 5 he (Cg ((hd.length:Int)-1)) 3),1⟩,⟨[13,8],rS ((Aj hd ((hd.length:Int)-1)).fLast),1⟩,⟨[10,14,8],rB (CY ((Aj v hb).fStr) ((Aj hd ((hd.length:Int)-1)).fLast)||decide (((Aj v hb).fStr)=((Aj hd ((hd.length:Int)-1)).fLast))),0⟩,⟨[8,15,3],rB (CY ((Aj v hb).fStr) ((Aj hd ((hd.length:Int)-1)).fLast)||decide (((Aj v hb).fStr)=((Aj hd ((hd.length:Int)-1)).fLast))),0⟩,⟨[3,16],rB (CY ((Aj v hb).fStr) ((Aj hd ((hd.length:Int)-1)).fLast)||decide (((Aj v hb).fStr)=((Aj hd ((hd.length:Int)-1)).fLast))),0⟩] [38,39,40,41,42,43,44,45,46,47,48,49,50,51,52,53,54,55,0,3,5,6,8,10,11,12,13] ?_ ?_
         ·refine oq (AL BB Aa H4 Aa Aa) (of (Bq (i:=0) H6 Aa Aa Aa) (oq (CK Aa Aa) (oq (Ax Aa) (on hh (oq (Ax Aa) (on hh (of (B3 (k:=3) Aa (Bh hj) Aa Aa) (on hh (of (Dp (k:=3) En Aa Gy Aa (Bh hj) Aa Aa Aa) (on hh (of (Do (enc:=Ap) (ys:=hd) (i:=3) (j:=(hd.length:Int)-1) N7 Aa Aa hj Aa) (on hh (oq (Ax Aa) (on hk (oq (AL BB Aa CM Aa Aa) (on hk (of (Bq (i:=0) Dm Aa Aa Aa) (on hk (oq (Ax Aa) (on hk (of (B3 (k:=3) Aa (Bh hj) Aa Aa) (on hk (of (Dp (k:=3) En Aa CM Aa (Bh hj) Aa Aa Aa) ?_)))))))))))))))))))))));refine on hk (of (Do (enc:=Ap) (ys:=hd) (i:=3) (j:=(hd.length:Int)-1) Dm Aa Aa hj Aa) (on hk (oq (Or Aa Aa) (on hh (oq (Ar Aa hk Aa) (oq (AJ Aa hh Aa) ?_))))));exact CZ
         exact CW (And.intro hh hk)
        ·refine D3 [0,3,5,6,8,10,11,12,13] [⟨[],rP hf 0,0⟩,⟨[0],Ah ((Aj v hb).fKind),1⟩,⟨[1],rB (!decide (((Aj v hb).fKind)=4)),0⟩,⟨[2],rB (!decide (((Aj v hb).fKind)=4)),0⟩,⟨[3],rv (Dn 5 he (Cg ((hd.length:Int)-1)) 0),0⟩,⟨[4,3],rv (Dn 5 he (Cg ((hd.length:Int)-1)) 0),1⟩,⟨[5,3],rv (Dn 5 he (Cg ((hd.length:Int)-1)) 4),1⟩,⟨[6,3],rB ((Aj hd ((hd.length:Int)-1)).fStarted),1⟩,⟨[7,3],rB ((Aj hd ((hd.length:Int)-1)).fStarted),0⟩,⟨[8],rv undef,0⟩,⟨[9,8],rv undef,0⟩,⟨[8],rv undef,0⟩,⟨[11,8],rv undef,0⟩,⟨[12,8],rv undef,0⟩,⟨[13,8],rv undef,0⟩,⟨[10,14,8],rv undef,0⟩,⟨[8,15,3],rB false,0⟩,⟨[3,16],rB false,0⟩] [38,39,40,41,42,43,44,45,46,47,48,49,50,51,52,53,54,55,0,3,5,6,8,10,11,12,13] ?_ ?_
         ·refine oq (AL BB Aa H4 Aa Aa) (of (Bq (i:=0) H6 Aa Aa Aa) (oq (CK Aa Aa) (oq (Ax Aa) (on hh (oq (Ax Aa) (on hh (of (B3 (k:=3) Aa (Bh hj) Aa Aa) (on hh (of (Dp (k:=3) En Aa Gy Aa (Bh hj) Aa Aa Aa) (on hh (of (Do (enc:=Ap) (ys:=hd) (i:=3) (j:=(hd.length:Int)-1) N7 Aa Aa hj Aa) (on hh (oq (Ax Aa) (oz hk (oz hk (oz hk (oz hk (oz hk (oz hk (oz hk (on hh (oq (AJ (b:=(Aj hd ((hd.length:Int)-1)).fStarted) Aa hk Aa) (oq (AJ Aa hh Aa) ?_)))))))))))))))))))))));exact CZ
         exact CW (And.intro hh hk)
      refine cz ga Aa (λgb gc=>?_) (λgb gd=>?_)
      ·refine Au (E0 (H1:=[.blk hf (Ab (Aj v hb)) 63,.blk b2 (AF ha) 105,.blk b1 (AF ha) 105,.row he 120 5 (Aq Ap hd)]) [3,5] [⟨[],AT (AF ha),1⟩,⟨[],Ah 0,0⟩,⟨[0],rv undef,2⟩,⟨[],rB false,0⟩] (rle [(3,_),(2,[.blk hf (Ab (Aj v hb)) 63,.blk b2 (AF ha) 105,.blk b1 (AF ha) 105,.row he 120 5 (Aq Ap hd)])]) [2,4,3] ?_ ?_)
       ·refine of (Ba (i:=1) EY Dq Aa Aa Aa Aa) (oq (AK Aa) (HR Aa (JU (Ca (i:=2) Dq Aa Aa Aa (AV.c Aa) Aa Aa (cs':=[Ah ha.fDepth,Ah ha.fBytes,rB ha.fOutside,rB ha.fLong]) Aa (H':=[.blk hf (Ab (Aj v hb)) 63,.blk b2 (AF ha) 105,.blk b1 (AF ha) 105,.row he 120 5 (Aq Ap hd)]) Aa)) ?_));refine oq (AK Aa) ?_;exact CZ
       refine AW (A0 (Ai (Ai (AI (Ai (Ai (B2 ?_)))))));have ge:=Cc gc hx hy;refine AI (Ai (G2 ?_));obtain rfl:=A2 ge;exact Az (Mp Mu (AN Aa) (BC (i:=2) EY Dq Aa Aa Aa) (AN Aa)) (sS (sS (sS (sS sN)))) ⟨Aa,Aa⟩
      ·refine A7 (AW (Am (wm Aa (wm Aa (wm Aa (vF BB Aa CM (vL 0 Dm Aa (wv (r:=rv (Dn 5 he (Cg ((hd.length:Int)-1)) 0)) (B3 (k:=3) Aa (Bh hj) Aa Aa) (wv (r:=rv (Dn 5 he (Cg ((hd.length:Int)-1)) 3)) (Dp (k:=3) En Aa CM Aa (Bh hj) Aa Aa Aa) (GW (enc:=Ap) (ys:=hd) (y':=(Ay.mk ((Aj hd ((hd.length:Int)-1)).fPairs) ((Aj hd ((hd.length:Int)-1)).fLeft) ((Aj hd ((hd.length:Int)-1)).fKey) ((Aj v hb).fStr) ((Aj hd ((hd.length:Int)-1)).fStarted))) (i:=3) (j:=(hd.length:Int)-1) CM Aa Aa (BL Aa) Aa hj Aa Aa (H':=[.blk hf (Ab (Aj v hb)) 63,.blk b2 (AF ha) 105,.blk b1 [Ah 0,Ah 0,rB false,rB false] 105,.row he 120 5 (Aq Ap (List.set hd (Cg ((hd.length:Int)-1)) (Ay.mk ((Aj hd ((hd.length:Int)-1)).fPairs) ((Aj hd ((hd.length:Int)-1)).fLeft) ((Aj hd ((hd.length:Int)-1)).fKey) ((Aj v hb).fStr) ((Aj hd ((hd.length:Int)-1)).fStarted))))]) Aa (bd gd λhr hu gf=>?_)))))))))));rw[← hu];refine wv (r:=rv (Dn 5 he (Cg ((hd.length:Int)-1)) 0)) (B3 (k:=3) Aa (Bh (BP hj hu)) Aa Aa) (wv (r:=rv (Dn 5 he (Cg ((hd.length:Int)-1)) 4)) (Dp (k:=3) En Aa Gy Aa (Bh (BP hj hu)) Aa Aa Aa) (GW (enc:=Ap) (ys:=hr) (y':=(Ay.mk ((Aj hr ((hd.length:Int)-1)).fPairs) ((Aj hr ((hd.length:Int)-1)).fLeft) ((Aj hr ((hd.length:Int)-1)).fKey) ((Aj hr ((hd.length:Int)-1)).fLast) true)) (i:=3) (j:=(hd.length:Int)-1) Gy Aa Aa (BL Aa) Aa (BP hj hu) Aa Aa (H':=[.blk hf (Ab (Aj v hb)) 63,.blk b2 (AF ha) 105,.blk b1 [Ah 0,Ah 0,rB false,rB false] 105,.row he 120 5 (Aq Ap (List.set hr (Cg ((hd.length:Int)-1)) (Ay.mk ((Aj hr ((hd.length:Int)-1)).fPairs) ((Aj hr ((hd.length:Int)-1)).fLeft) ((Aj hr ((hd.length:Int)-1)).fKey) ((Aj hr ((hd.length:Int)-1)).fLast) true)))]) Aa (bd gf λhs h1 gg=>?_)));rw[← h1];refine wv (r:=rv (Dn 5 he (Cg ((hd.length:Int)-1)) 0)) (B3 (k:=3) Aa (Bh (BP (BP hj hu) h1)) Aa Aa) (wv (r:=rv (Dn 5 he (Cg ((hd.length:Int)-1)) 2)) (Dp (k:=3) En Aa Gy Aa (Bh (BP (BP hj hu) h1)) Aa Aa Aa) (GW (enc:=Ap) (ys:=hs) (y':=(Ay.mk ((Aj hs ((hd.length:Int)-1)).fPairs) ((Aj hs ((hd.length:Int)-1)).fLeft) false ((Aj hs ((hd.length:Int)-1)).fLast) ((Aj hs ((hd.length:Int)-1)).fStarted))) (i:=3) (j:=(hd.length:Int)-1) Gy Aa Aa (BL Aa) Aa (BP (BP hj hu) h1) Aa Aa (H':=[.blk hf (Ab (Aj v hb)) 63,.blk b2 (AF ha) 105,.blk b1 [Ah 0,Ah 0,rB false,rB false] 105,.row he 120 5 (Aq Ap (List.set hs (Cg ((hd.length:Int)-1)) (Ay.mk ((Aj hs ((hd.length:Int)-1)).fPairs) ((Aj hs ((hd.length:Int)-1)).fLeft) false ((Aj hs ((hd.length:Int)-1)).fLast) ((Aj hs ((hd.length:Int)-1)).fStarted))))]) Aa (bd gg λht gh gi=>?_)));rw[← gh];refine Av (Au (ob gi λhl gj gl=>ck gl λgm gp=>E0 (H1:=[.blk hf (Ab (Aj v hb)) 63,.blk b2 [Ah ha.fDepth,Ah (IntKind.wrap .i64 (ha.fBytes+(hl+1))),rB ha.fOutside,rB ha.fLong] 105,.blk b1 [Ah 0,Ah 0,rB false,rB false] 105,.row he 120 5 (Aq Ap ht)]) [0,3,5,6,8,11,12,13,38,39,40,41] [⟨[],rP b2 1,0⟩,⟨[0],Ah ha.fBytes,1⟩,⟨[],rP hf 2,0⟩,⟨[2],rS ((Aj v hb).fStr),1⟩,⟨[3],Ah hl,0⟩,⟨[4],Ah (hl+1),0⟩,⟨[1,5],Ah (IntKind.wrap .i64 (ha.fBytes+(hl+1))),0⟩,⟨[],rP b2 1,0⟩,⟨[7,6],rv undef,2⟩] (rle [(9,_),(1,[.blk hf (Ab (Aj v hb)) 63,.blk b2 [Ah ha.fDepth,Ah (IntKind.wrap .i64 (ha.fBytes+(hl+1))),rB ha.fOutside,rB ha.fLong] 105,.blk b1 [Ah 0,Ah 0,rB false,rB false] 105,.row he 120 5 (Aq Ap ht)])]) [68,69,70,71,72,73,74,75,0,3,5,6,8,11,12,13,38,39,40,41] ?_ ?_))
       ·refine oq (AL CC Aa C0 Aa Aa) (of (Bq (i:=1) DN Aa Aa Aa) (oq (AL BB Aa CM Aa Aa) (of (Bq (i:=0) Dm Aa Aa Aa) (Cs Aa (λH=>Ep Tryz.call77 (I9 ((Aj v hb).fStr) hl gj) Aa) ?_))));refine oq (BS Aa Aa gm) (oq (KH Aa Aa) (oq (AL CC Aa C0 Aa Aa) (HR Aa (JU (IV (i:=1) C0 Aa Aa (BL Aa) Aa Aa (cs':=[Ah ha.fDepth,Ah (IntKind.wrap .i64 (ha.fBytes+(hl+1))),rB ha.fOutside,rB ha.fLong]) Aa (H':=[.blk hf (Ab (Aj v hb)) 63,.blk b2 [Ah ha.fDepth,Ah (IntKind.wrap .i64 (ha.fBytes+(hl+1))),rB ha.fOutside,rB ha.fLong] 105,.blk b1 [Ah 0,Ah 0,rB false,rB false] 105,.row he 120 5 (Aq Ap ht)]) Aa)) ?_)));exact CZ
       refine AW (AU [(0,AH 4 (Aq Ab v)),(3,rP b1 0),(5,rP b2 0),(6,rv he),(11,AH 4 (Aq Ab v)),(12,Ah (v.length:Int)),(13,Ah hb),(38,rP hf 0),(39,Ah ((Aj v hb).fKind)),(40,rB (!decide (((Aj v hb).fKind)=4))),(41,rB (!decide (((Aj v hb).fKind)=4))),(68,rP b2 1),(69,Ah ha.fBytes),(70,rP hf 2),(71,rS ((Aj v hb).fStr)),(72,Ah hl),(73,Ah (hl+1)),(74,Ah (IntKind.wrap .i64 (ha.fBytes+(hl+1)))),(75,rP b2 1)] [.blk hf (Ab (Aj v hb)) 63,.blk b2 [Ah ha.fDepth,Ah (IntKind.wrap .i64 (ha.fBytes+(hl+1))),rB ha.fOutside,rB (ha.fLong||(decide (200<(((Aj v hb).fStr).length:Int))))] 105,.blk b1 [Ah 0,Ah 0,rB false,rB false] 105,.row he 120 5 (Aq Ap ht)] ?_ ?_)
       ·refine A4 (vF CC Aa Gy (vL 1 N7 Aa (wm Aa (AY (ha.fLong) (λho=>?_) (λho=>?_)))))
        ·refine wf ho (wf ho (wf ho (wf ho (wv (r:=rB true) (Ar rfl ho rfl) (vF CC rfl Gy (B8 (i:=1) Gy rfl rfl (BL rfl) rfl rfl (cs':=[Ah ha.fDepth,Ah (IntKind.wrap .i64 (ha.fBytes+(hl+1))),rB ha.fOutside,rB true]) rfl (H':=[.blk hf (Ab (Aj v hb)) 63,.blk b2 [Ah ha.fDepth,Ah (IntKind.wrap .i64 (ha.fBytes+(hl+1))),rB ha.fOutside,rB true] 105,.blk b1 [Ah 0,Ah 0,rB false,rB false] 105,.row he 120 5 (Aq Ap ht)]) rfl (A1 (Gj (H':=[.blk hf (Ab (Aj v hb)) 63,.blk b2 [Ah ha.fDepth,Ah (IntKind.wrap .i64 (ha.fBytes+(hl+1))),rB ha.fOutside,rB (ha.fLong||(decide (200<(((Aj v hb).fStr).length:Int))))] 105,.blk b1 [Ah 0,Ah 0,rB false,rB false] 105,.row he 120 5 (Aq Ap ht)]) (by simp only[ho,Qn,Qz,Qu,Qk,Qx,Q0,Qv,Q2,Qe,Qy,Ql,Qa]) ?_))))))));exact wt
        ·refine wo ho (vF BB rfl CM (wo ho (vL 0 Dm rfl (wo ho (wv (C5 Eu rfl) (wo ho (wv (DW rfl rfl) (G1 rfl ho rfl (vF CC rfl Gy (B8 (i:=1) Gy rfl rfl (BL rfl) rfl rfl (cs':=[Ah ha.fDepth,Ah (IntKind.wrap .i64 (ha.fBytes+(hl+1))),rB ha.fOutside,rB (decide (200<(((Aj v hb).fStr).length:Int)))]) rfl (H':=[.blk hf (Ab (Aj v hb)) 63,.blk b2 [Ah ha.fDepth,Ah (IntKind.wrap .i64 (ha.fBytes+(hl+1))),rB ha.fOutside,rB (decide (200<(((Aj v hb).fStr).length:Int)))] 105,.blk b1 [Ah 0,Ah 0,rB false,rB false] 105,.row he 120 5 (Aq Ap ht)]) rfl (A1 (Gj (H':=[.blk hf (Ab (Aj v hb)) 63,.blk b2 [Ah ha.fDepth,Ah (IntKind.wrap .i64 (ha.fBytes+(hl+1))),rB ha.fOutside,rB (ha.fLong||(decide (200<(((Aj v hb).fStr).length:Int))))] 105,.blk b1 [Ah 0,Ah 0,rB false,rB false] 105,.row he 120 5 (Aq Ap ht)]) (by simp only[ho,Qn,Qz,Qu,Qk,Qx,Q0,Qv,Q2,Qe,Qy,Ql,Qa]) ?_))))))))))));exact wt
       exact B7 (AB (Bi (AE (AR ((ht,(AC.mk ha.fDepth (IntKind.wrap .i64 (ha.fBytes+(hl+1))) ha.fOutside (ha.fLong||(decide (200<(((Aj v hb).fStr).length:Int)))))),he) gp (AQ.c Aa (AQ.c Aa (AQ.c5 Aa Aa Aa Aa Aa AQ.nil))) (sS (sC (sC (sC sN))))))))
     ·refine A7 (AW (Am (vF CC Aa C0 (vL 1 DN Aa (wm Aa (wv (CO (ys:=hd) (enc:=Ap) (i:=3) Eo Aa Aa) (ck hX λgq gr=>wv (BS Aa Aa gq) (wv (Ot Px Aa Aa) (vF CC Aa C0 (B8 (i:=1) C0 Aa Aa (BL Aa) Aa Aa (cs':=[Ah (max ha.fDepth ((hd.length:Int)+1)),Ah ha.fBytes,rB ha.fOutside,rB ha.fLong]) Aa (H':=[.blk hf (Ab (Aj v hb)) 63,.blk b2 [Ah (max ha.fDepth ((hd.length:Int)+1)),Ah ha.fBytes,rB ha.fOutside,rB ha.fLong] 105,.blk b1 [Ah 0,Ah 0,rB false,rB false] 105,.row he 120 5 (Aq Ap hd)]) Aa (Av (Au (ob gr λhg gs gt=>E0 (H1:=[.blk hf (Ab (Aj v hb)) 63,.blk b2 [Ah (max ha.fDepth ((hd.length:Int)+1)),Ah (IntKind.wrap .i64 (ha.fBytes+hg)),rB ha.fOutside,rB ha.fLong] 105,.blk b1 [Ah 0,Ah 0,rB false,rB false] 105,.row he 120 5 (Aq Ap hd)]) [0,3,5,6,7,8,11,12,13] [⟨[],rP b2 1,0⟩,⟨[0],Ah ha.fBytes,1⟩,⟨[],AT (Ab (Aj v hb)),1⟩,⟨[2],Ah hg,0⟩,⟨[1,3],Ah (IntKind.wrap .i64 (ha.fBytes+hg)),0⟩,⟨[],rP b2 1,0⟩,⟨[5,4],rv undef,2⟩] (rle [(7,_),(1,[.blk hf (Ab (Aj v hb)) 63,.blk b2 [Ah (max ha.fDepth ((hd.length:Int)+1)),Ah (IntKind.wrap .i64 (ha.fBytes+hg)),rB ha.fOutside,rB ha.fLong] 105,.blk b1 [Ah 0,Ah 0,rB false,rB false] 105,.row he 120 5 (Aq Ap hd)])]) [92,93,94,95,96,97,0,3,5,6,7,8,11,12,13] ?_ ?_)))))))))))))
      ·refine oq (AL CC Aa C0 Aa Aa) (of (Bq (i:=1) DN Aa Aa Aa) (of (Ba (i:=0) Ja Cu Aa Aa Aa Aa) (Cs Aa (λH=>Ep Tryz.call78 (NA (Aj v hb) hg gs) Aa) ?_)));refine oq (KH Aa Aa) (oq (AL CC Aa C0 Aa Aa) (HR Aa (JU (IV (i:=1) C0 Aa Aa (BL Aa) Aa Aa (cs':=[Ah (max ha.fDepth ((hd.length:Int)+1)),Ah (IntKind.wrap .i64 (ha.fBytes+hg)),rB ha.fOutside,rB ha.fLong]) Aa (H':=[.blk hf (Ab (Aj v hb)) 63,.blk b2 [Ah (max ha.fDepth ((hd.length:Int)+1)),Ah (IntKind.wrap .i64 (ha.fBytes+hg)),rB ha.fOutside,rB ha.fLong] 105,.blk b1 [Ah 0,Ah 0,rB false,rB false] 105,.row he 120 5 (Aq Ap hd)]) Aa)) ?_));exact CZ
      refine AW (ck gt λgu gv=>AU [(0,AH 4 (Aq Ab v)),(3,rP b1 0),(5,rP b2 0),(6,rv he),(7,Ah hb),(8,rP hf 0),(11,AH 4 (Aq Ab v)),(12,Ah (v.length:Int)),(13,Ah hb),(92,rP b2 1),(93,Ah ha.fBytes),(94,AT (Ab (Aj v hb))),(95,Ah hg),(96,Ah (IntKind.wrap .i64 (ha.fBytes+hg))),(97,rP b2 1)] [.blk hf (Ab (Aj v hb)) 63,.blk b2 [Ah (max ha.fDepth ((hd.length:Int)+1)),Ah (IntKind.wrap .i64 (ha.fBytes+hg)),rB (ha.fOutside||((decide (((Aj v hb).fKind)=3))&&(!(ov (Be ((Aj v hb).fInt)))))),rB ha.fLong] 105,.blk b1 [Ah 0,Ah 0,rB false,rB false] 105,.row he 120 5 (Aq Ap hd)] ?_ ?_)
      ·refine A4 (vF CC Aa Gy (vL 1 N7 Aa (wm Aa (AY (ha.fOutside) (λhm=>?_) (λhm=>?_)))))
       ·refine wf hm (wf hm (wf hm (wf hm (wu (wu (wu (wu (wf hm (wv (r:=rB true) (Ar rfl hm rfl) (vF CC rfl Gy (B8 (i:=1) Gy rfl rfl (BL rfl) rfl rfl (cs':=[Ah (max ha.fDepth ((hd.length:Int)+1)),Ah (IntKind.wrap .i64 (ha.fBytes+hg)),rB true,rB ha.fLong]) rfl (H':=[.blk hf (Ab (Aj v hb)) 63,.blk b2 [Ah (max ha.fDepth ((hd.length:Int)+1)),Ah (IntKind.wrap .i64 (ha.fBytes+hg)),rB true,rB ha.fLong] 105,.blk b1 [Ah 0,Ah 0,rB false,rB false] 105,.row he 120 5 (Aq Ap hd)]) rfl (A1 (Gj (H':=[.blk hf (Ab (Aj v hb)) 63,.blk b2 [Ah (max ha.fDepth ((hd.length:Int)+1)),Ah (IntKind.wrap .i64 (ha.fBytes+hg)),rB (ha.fOutside||((decide (((Aj v hb).fKind)=3))&&(!(ov (Be ((Aj v hb).fInt)))))),rB ha.fLong] 105,.blk b1 [Ah 0,Ah 0,rB false,rB false] 105,.row he 120 5 (Aq Ap hd)]) (by simp only[hm,Qn,Qz,Qu,Qk,Qx,Q0,Qv,Q2,Qe,Qy,Ql,Qa]) ?_)))))))))))));exact wt
       ·refine wo hm (vF BB Aa H4 (wo hm (vL 0 H6 Aa (wo hm (wv (BK Aa Aa) (wo hm (wm Aa (AY (decide (((Aj v hb).fKind)=3)) (λhn=>?_) (λhn=>?_)))))))))
        ·refine wo hn (vF BB rfl C0 (wo hn (vL 0 DN rfl (wo hn (Cw Tryz.call79 (HX ((Aj v hb).fInt) (ov (Be ((Aj v hb).fInt))) (Jm (Gg (CS gu hm) hn))) rfl (wo hn (wv (B5 rfl) (wo hm (GU rfl hn rfl (G1 rfl hm rfl (vF CC rfl Gy (B8 (i:=1) Gy rfl rfl (BL rfl) rfl rfl (cs':=[Ah (max ha.fDepth ((hd.length:Int)+1)),Ah (IntKind.wrap .i64 (ha.fBytes+hg)),rB (!(ov (Be ((Aj v hb).fInt)))),rB ha.fLong]) rfl (H':=[.blk hf (Ab (Aj v hb)) 63,.blk b2 [Ah (max ha.fDepth ((hd.length:Int)+1)),Ah (IntKind.wrap .i64 (ha.fBytes+hg)),rB (!(ov (Be ((Aj v hb).fInt)))),rB ha.fLong] 105,.blk b1 [Ah 0,Ah 0,rB false,rB false] 105,.row he 120 5 (Aq Ap hd)]) rfl (A1 (Gj (H':=[.blk hf (Ab (Aj v hb)) 63,.blk b2 [Ah (max ha.fDepth ((hd.length:Int)+1)),Ah (IntKind.wrap .i64 (ha.fBytes+hg)),rB (ha.fOutside||((decide (((Aj v hb).fKind)=3))&&(!(ov (Be ((Aj v hb).fInt)))))),rB ha.fLong] 105,.blk b1 [Ah 0,Ah 0,rB false,rB false] 105,.row he 120 5 (Aq Ap hd)]) (by simp only[hm,hn,Qn,Qz,Qu,Qk,Qx,Q0,Qv,Q2,Qe,Qy,Ql,Qa]) ?_))))))))))))));exact wt
        ·refine wf hn (wf hn (wf hn (wf hn (wo hm (wv (r:=rB false) (AJ rfl hn rfl) (G1 rfl hm rfl (vF CC rfl Gy (B8 (i:=1) Gy rfl rfl (BL rfl) rfl rfl (cs':=[Ah (max ha.fDepth ((hd.length:Int)+1)),Ah (IntKind.wrap .i64 (ha.fBytes+hg)),rB false,rB ha.fLong]) rfl (H':=[.blk hf (Ab (Aj v hb)) 63,.blk b2 [Ah (max ha.fDepth ((hd.length:Int)+1)),Ah (IntKind.wrap .i64 (ha.fBytes+hg)),rB false,rB ha.fLong] 105,.blk b1 [Ah 0,Ah 0,rB false,rB false] 105,.row he 120 5 (Aq Ap hd)]) rfl (A1 (Gj (H':=[.blk hf (Ab (Aj v hb)) 63,.blk b2 [Ah (max ha.fDepth ((hd.length:Int)+1)),Ah (IntKind.wrap .i64 (ha.fBytes+hg)),rB (ha.fOutside||((decide (((Aj v hb).fKind)=3))&&(!(ov (Be ((Aj v hb).fInt)))))),rB ha.fLong] 105,.blk b1 [Ah 0,Ah 0,rB false,rB false] 105,.row he 120 5 (Aq Ap hd)]) (by simp only[hm,hn,Qn,Qz,Qu,Qk,Qx,Q0,Qv,Q2,Qe,Qy,Ql,Qa]) ?_))))))))));exact wt
      refine AU [(0,AH 4 (Aq Ab v)),(3,rP b1 0),(5,rP b2 0),(6,rv he),(7,Ah hb),(8,rP hf 0),(11,AH 4 (Aq Ab v)),(12,Ah (v.length:Int)),(13,Ah hb),(92,rP b2 1),(93,Ah ha.fBytes),(94,AT (Ab (Aj v hb))),(95,Ah hg),(96,Ah (IntKind.wrap .i64 (ha.fBytes+hg))),(97,rP b2 1)] [.blk hf (Ab (Aj v hb)) 63,.blk b2 [Ah (max ha.fDepth ((hd.length:Int)+1)),Ah (IntKind.wrap .i64 (ha.fBytes+hg)),rB (ha.fOutside||((decide (((Aj v hb).fKind)=3))&&(!(ov (Be ((Aj v hb).fInt)))))),rB (ha.fLong||(decide (200<(((Aj v hb).fStr).length:Int))))] 105,.blk b1 [Ah 0,Ah 0,rB false,rB false] 105,.row he 120 5 (Aq Ap hd)] ?_ ?_
      ·refine A4 (vF CC Aa Gy (vL 1 N7 Aa (wm Aa (AY (ha.fLong) (λhp=>?_) (λhp=>?_)))))
       ·refine wf hp (wf hp (wf hp (wf hp (wv (r:=rB true) (Ar rfl hp rfl) (vF CC rfl Gy (B8 (i:=1) Gy rfl rfl (BL rfl) rfl rfl (cs':=[Ah (max ha.fDepth ((hd.length:Int)+1)),Ah (IntKind.wrap .i64 (ha.fBytes+hg)),rB (ha.fOutside||((decide (((Aj v hb).fKind)=3))&&(!(ov (Be ((Aj v hb).fInt)))))),rB true]) rfl (H':=[.blk hf (Ab (Aj v hb)) 63,.blk b2 [Ah (max ha.fDepth ((hd.length:Int)+1)),Ah (IntKind.wrap .i64 (ha.fBytes+hg)),rB (ha.fOutside||((decide (((Aj v hb).fKind)=3))&&(!(ov (Be ((Aj v hb).fInt)))))),rB true] 105,.blk b1 [Ah 0,Ah 0,rB false,rB false] 105,.row he 120 5 (Aq Ap hd)]) rfl (A1 (Gj (H':=[.blk hf (Ab (Aj v hb)) 63,.blk b2 [Ah (max ha.fDepth ((hd.length:Int)+1)),Ah (IntKind.wrap .i64 (ha.fBytes+hg)),rB (ha.fOutside||((decide (((Aj v hb).fKind)=3))&&(!(ov (Be ((Aj v hb).fInt)))))),rB (ha.fLong||(decide (200<(((Aj v hb).fStr).length:Int))))] 105,.blk b1 [Ah 0,Ah 0,rB false,rB false] 105,.row he 120 5 (Aq Ap hd)]) (by simp only[hp,Qn,Qz,Qu,Qk,Qx,Q0,Qv,Q2,Qe,Qy,Ql,Qa]) ?_))))))));exact wt
       ·refine wo hp (vF BB rfl CM (wo hp (vL 0 Dm rfl (wo hp (wv (C5 Eu rfl) (wo hp (wv (DW rfl rfl) (G1 rfl hp rfl (vF CC rfl Gy (B8 (i:=1) Gy rfl rfl (BL rfl) rfl rfl (cs':=[Ah (max ha.fDepth ((hd.length:Int)+1)),Ah (IntKind.wrap .i64 (ha.fBytes+hg)),rB (ha.fOutside||((decide (((Aj v hb).fKind)=3))&&(!(ov (Be ((Aj v hb).fInt)))))),rB (decide (200<(((Aj v hb).fStr).length:Int)))]) rfl (H':=[.blk hf (Ab (Aj v hb)) 63,.blk b2 [Ah (max ha.fDepth ((hd.length:Int)+1)),Ah (IntKind.wrap .i64 (ha.fBytes+hg)),rB (ha.fOutside||((decide (((Aj v hb).fKind)=3))&&(!(ov (Be ((Aj v hb).fInt)))))),rB (decide (200<(((Aj v hb).fStr).length:Int)))] 105,.blk b1 [Ah 0,Ah 0,rB false,rB false] 105,.row he 120 5 (Aq Ap hd)]) rfl (A1 (Gj (H':=[.blk hf (Ab (Aj v hb)) 63,.blk b2 [Ah (max ha.fDepth ((hd.length:Int)+1)),Ah (IntKind.wrap .i64 (ha.fBytes+hg)),rB (ha.fOutside||((decide (((Aj v hb).fKind)=3))&&(!(ov (Be ((Aj v hb).fInt)))))),rB (ha.fLong||(decide (200<(((Aj v hb).fStr).length:Int))))] 105,.blk b1 [Ah 0,Ah 0,rB false,rB false] 105,.row he 120 5 (Aq Ap hd)]) (by simp only[hp,Qn,Qz,Qu,Qk,Qx,Q0,Qv,Q2,Qe,Qy,Ql,Qa]) ?_))))))))))));exact wt
      refine Au (Am (vF BB Aa C0 (vL 0 DN Aa (wv (DW Aa Aa) (Av (cz gv Aa (λgw gx=>?_) (λgw gy=>?_)))))))
      ·refine Au (Am (vF BB Aa C0 (vL 0 DN Aa (wm Aa (wv (Bb (ys:=v) (enc:=Ab) BW Aa) (wv (DW Aa Aa) (Av (cz gx Aa (λgz g0=>?_) (λgz g1=>?_)))))))))
       ·refine Au (E0 (H1:=[.blk hf (Ab (Aj v hb)) 63,.blk b2 [Ah (max ha.fDepth ((hd.length:Int)+1)),Ah (IntKind.wrap .i64 (ha.fBytes+hg)),rB (ha.fOutside||((decide (((Aj v hb).fKind)=3))&&(!(ov (Be ((Aj v hb).fInt)))))),rB (ha.fLong||(decide (200<(((Aj v hb).fStr).length:Int))))] 105,.blk b1 [Ah (max ha.fDepth ((hd.length:Int)+1)),Ah (IntKind.wrap .i64 (ha.fBytes+hg)),rB (ha.fOutside||((decide (((Aj v hb).fKind)=3))&&(!(ov (Be ((Aj v hb).fInt)))))),rB (ha.fLong||(decide (200<(((Aj v hb).fStr).length:Int))))] 105,.row he 120 5 (Aq Ap hd)]) [3,5] [⟨[],AT [Ah (max ha.fDepth ((hd.length:Int)+1)),Ah (IntKind.wrap .i64 (ha.fBytes+hg)),rB (ha.fOutside||((decide (((Aj v hb).fKind)=3))&&(!(ov (Be ((Aj v hb).fInt)))))),rB (ha.fLong||(decide (200<(((Aj v hb).fStr).length:Int))))],1⟩,⟨[],Ah 0,0⟩,⟨[0],rv undef,2⟩,⟨[],rB false,0⟩] (rle [(3,_),(2,[.blk hf (Ab (Aj v hb)) 63,.blk b2 [Ah (max ha.fDepth ((hd.length:Int)+1)),Ah (IntKind.wrap .i64 (ha.fBytes+hg)),rB (ha.fOutside||((decide (((Aj v hb).fKind)=3))&&(!(ov (Be ((Aj v hb).fInt)))))),rB (ha.fLong||(decide (200<(((Aj v hb).fStr).length:Int))))] 105,.blk b1 [Ah (max ha.fDepth ((hd.length:Int)+1)),Ah (IntKind.wrap .i64 (ha.fBytes+hg)),rB (ha.fOutside||((decide (((Aj v hb).fKind)=3))&&(!(ov (Be ((Aj v hb).fInt)))))),rB (ha.fLong||(decide (200<(((Aj v hb).fStr).length:Int))))] 105,.row he 120 5 (Aq Ap hd)])]) [2,4,3] ?_ ?_)
        ·refine of (Ba (i:=1) EY Dq Aa Aa Aa Aa) (oq (AK Aa) (HR Aa (JU (Ca (i:=2) Dq Aa Aa Aa (AV.c Aa) Aa Aa (cs':=[Ah (max ha.fDepth ((hd.length:Int)+1)),Ah (IntKind.wrap .i64 (ha.fBytes+hg)),rB (ha.fOutside||((decide (((Aj v hb).fKind)=3))&&(!(ov (Be ((Aj v hb).fInt)))))),rB (ha.fLong||(decide (200<(((Aj v hb).fStr).length:Int))))]) Aa (H':=[.blk hf (Ab (Aj v hb)) 63,.blk b2 [Ah (max ha.fDepth ((hd.length:Int)+1)),Ah (IntKind.wrap .i64 (ha.fBytes+hg)),rB (ha.fOutside||((decide (((Aj v hb).fKind)=3))&&(!(ov (Be ((Aj v hb).fInt)))))),rB (ha.fLong||(decide (200<(((Aj v hb).fStr).length:Int))))] 105,.blk b1 [Ah (max ha.fDepth ((hd.length:Int)+1)),Ah (IntKind.wrap .i64 (ha.fBytes+hg)),rB (ha.fOutside||((decide (((Aj v hb).fKind)=3))&&(!(ov (Be ((Aj v hb).fInt)))))),rB (ha.fLong||(decide (200<(((Aj v hb).fStr).length:Int))))] 105,.row he 120 5 (Aq Ap hd)]) Aa)) ?_));refine oq (AK Aa) ?_;exact CZ
        refine AW (A0 (Ai (Ai (AI (Ai (Ai (B2 ?_)))))));have g2:=Cc g0 hx hy;refine AI (Ai (G2 ?_));obtain rfl:=A2 g2;exact Az (Mp Mu (AN Aa) (BC (i:=2) EY Dq Aa Aa Aa) (AN Aa)) (sS (sS (sS (sS sN)))) ⟨Aa,Aa⟩
       ·refine A7 (AW (Am (wm Aa (vF BB Aa H4 (vL 0 H6 Aa (wv (BK Aa Aa) (vF BB Aa C0 (vL 0 DN Aa (vF BB Aa H4 (vL 0 H6 Aa (wv (BK Aa Aa) (wv (r:=AT [rB (decide (((Aj v hb).fKind)=6)),Ah ((Aj v hb).fN),rB (decide (((Aj v hb).fKind)=6)),rS ([]:Ao),rB false]) (Hd Aa Aa Aa Aa Aa Aa) (AZ (ys:=([(Ay.mk (decide (((Aj v hb).fKind)=6)) ((Aj v hb).fN) (decide (((Aj v hb).fKind)=6)) ([]:Ao) false)]:List Ay)) (enc:=Ap) (css:=[[rB (decide (((Aj v hb).fKind)=6)),Ah ((Aj v hb).fN),rB (decide (((Aj v hb).fKind)=6)),rS ([]:Ao),rB false]]) (xs:=[.tmp 139]) Eo JH Tryz.zeroValue120 Aa Aa Aa ⟨GS.agg ⟨Up.refl _,Up.refl _,Up.refl _,Up.refl _,Up.refl _,trivial⟩,trivial⟩ Aa Er Aa Aa Aa (λg3=>?_))))))))))))));refine ck g1 λg4 g5=>Exists.elim NS λinf hinf=>C1 (xs:=hd) (ys:=([(Ay.mk (decide (((Aj v hb).fKind)=6)) ((Aj v hb).fN) (decide (((Aj v hb).fKind)=6)) ([]:Ao) false)]:List Ay)) (enc:=Ap) (i:=4) Eo hinf.1 hinf.2.1 hinf.2.2.1 hinf.2.2.2 Aa Aa Aa Aa Aa (K3.w (i:=0) Aa Aa) Er HA g4 Aa (λh9=>?_);exact wa Aa (Av (B7 (AB (Bi (BU (H2:=[.blk b2 [Ah (max ha.fDepth ((hd.length:Int)+1)),Ah (IntKind.wrap .i64 (ha.fBytes+hg)),rB (ha.fOutside||((decide (((Aj v hb).fKind)=3))&&(!(ov (Be ((Aj v hb).fInt)))))),rB (ha.fLong||(decide (200<(((Aj v hb).fStr).length:Int))))] 105,.blk b1 [Ah 0,Ah 0,rB false,rB false] 105,.row h9 120 5 (Aq Ap (hd++([(Ay.mk (decide (((Aj v hb).fKind)=6)) ((Aj v hb).fN) (decide (((Aj v hb).fKind)=6)) ([]:Ao) false)]:List Ay))),.row (.slice (some ⟨g3,0,none⟩) 1 1) 120 5 (Aq Ap ([(Ay.mk (decide (((Aj v hb).fKind)=6)) ((Aj v hb).fN) (decide (((Aj v hb).fKind)=6)) ([]:Ao) false)]:List Ay)),.blk hf (Ab (Aj v hb)) 63]) ((Af (i:=3) Aa).trans (PN _ ((Af (i:=3) Aa).trans (PN _ (PO _))))) (AE (AR ((hd++([(Ay.mk (decide (((Aj v hb).fKind)=6)) ((Aj v hb).fN) (decide (((Aj v hb).fKind)=6)) ([]:Ao) false)]:List Ay),(AC.mk (max ha.fDepth ((hd.length:Int)+1)) (IntKind.wrap .i64 (ha.fBytes+hg)) (ha.fOutside||((decide (((Aj v hb).fKind)=3))&&(!(ov (Be ((Aj v hb).fInt)))))) (ha.fLong||(decide (200<(((Aj v hb).fStr).length:Int)))))),h9) g5 (AQ.c Aa (AQ.c Aa (AQ.c5 Aa Aa Aa Aa Aa AQ.nil))) (sC (sC (sC (sS (sS sN))))))))))))
      ·refine A7 (AW (Am (wm Aa (ob gy λhw g6 g7=>Gt (Hr:=[.blk hf (Ab (Aj v hb)) 63,.blk b2 [Ah (max ha.fDepth ((hd.length:Int)+1)),Ah (IntKind.wrap .i64 (ha.fBytes+hg)),rB (ha.fOutside||((decide (((Aj v hb).fKind)=3))&&(!(ov (Be ((Aj v hb).fInt)))))),rB (ha.fLong||(decide (200<(((Aj v hb).fStr).length:Int))))] 105,.blk b1 [Ah 0,Ah 0,rB false,rB false] 105]) Tryz.call80 (LJ F he hd hw g6) Aa ((Af (i:=3) Aa).trans (PN _ (PO _))) Aa ?_))));rintro _ _ ⟨hz,rfl,rfl⟩;refine wa Aa (Bs (wm Aa (wv (CO (ys:=hw) (enc:=Ap) (i:=0) Eo Aa Aa) (wv (BK Aa Aa) (Av (cz g7 Aa (λg8 g9=>?_) (λg8 gA=>?_)))))))
       ·refine Au (ck g9 λgB gC=>E0 (H1:=[.row hz 120 5 (Aq Ap hw),.blk hf (Ab (Aj v hb)) 63,.blk b2 [Ah (max ha.fDepth ((hd.length:Int)+1)),Ah (IntKind.wrap .i64 (ha.fBytes+hg)),rB (ha.fOutside||((decide (((Aj v hb).fKind)=3))&&(!(ov (Be ((Aj v hb).fInt)))))),rB (ha.fLong||(decide (200<(((Aj v hb).fStr).length:Int))))] 105,.blk b1 [Ah (max ha.fDepth ((hd.length:Int)+1)),Ah (IntKind.wrap .i64 (ha.fBytes+hg)),rB (ha.fOutside||((decide (((Aj v hb).fKind)=3))&&(!(ov (Be ((Aj v hb).fInt)))))),rB (ha.fLong||(decide (200<(((Aj v hb).fStr).length:Int))))] 105]) [3,5,7] [⟨[],Ah hb,0⟩,⟨[0],Ah (hb+1),0⟩,⟨[],AT [Ah (max ha.fDepth ((hd.length:Int)+1)),Ah (IntKind.wrap .i64 (ha.fBytes+hg)),rB (ha.fOutside||((decide (((Aj v hb).fKind)=3))&&(!(ov (Be ((Aj v hb).fInt)))))),rB (ha.fLong||(decide (200<(((Aj v hb).fStr).length:Int))))],1⟩,⟨[1],Ah (hb+1),0⟩,⟨[2],rv undef,2⟩,⟨[],rB true,0⟩] (rle [(5,_),(2,[.row hz 120 5 (Aq Ap hw),.blk hf (Ab (Aj v hb)) 63,.blk b2 [Ah (max ha.fDepth ((hd.length:Int)+1)),Ah (IntKind.wrap .i64 (ha.fBytes+hg)),rB (ha.fOutside||((decide (((Aj v hb).fKind)=3))&&(!(ov (Be ((Aj v hb).fInt)))))),rB (ha.fLong||(decide (200<(((Aj v hb).fStr).length:Int))))] 105,.blk b1 [Ah (max ha.fDepth ((hd.length:Int)+1)),Ah (IntKind.wrap .i64 (ha.fBytes+hg)),rB (ha.fOutside||((decide (((Aj v hb).fKind)=3))&&(!(ov (Be ((Aj v hb).fInt)))))),rB (ha.fLong||(decide (200<(((Aj v hb).fStr).length:Int))))] 105])]) [2,4,3] ?_ ?_)
        ·refine oq (Ax Aa) (oq (BS Aa Aa gB) (of (Ba (i:=2) EY Dq Aa Aa Aa Aa) (oq (AK Aa) (HR Aa (JU (Ca (i:=3) Dq Aa Aa Aa (AV.c Aa) Aa Aa (cs':=[Ah (max ha.fDepth ((hd.length:Int)+1)),Ah (IntKind.wrap .i64 (ha.fBytes+hg)),rB (ha.fOutside||((decide (((Aj v hb).fKind)=3))&&(!(ov (Be ((Aj v hb).fInt)))))),rB (ha.fLong||(decide (200<(((Aj v hb).fStr).length:Int))))]) Aa (H':=[.row hz 120 5 (Aq Ap hw),.blk hf (Ab (Aj v hb)) 63,.blk b2 [Ah (max ha.fDepth ((hd.length:Int)+1)),Ah (IntKind.wrap .i64 (ha.fBytes+hg)),rB (ha.fOutside||((decide (((Aj v hb).fKind)=3))&&(!(ov (Be ((Aj v hb).fInt)))))),rB (ha.fLong||(decide (200<(((Aj v hb).fStr).length:Int))))] 105,.blk b1 [Ah (max ha.fDepth ((hd.length:Int)+1)),Ah (IntKind.wrap .i64 (ha.fBytes+hg)),rB (ha.fOutside||((decide (((Aj v hb).fKind)=3))&&(!(ov (Be ((Aj v hb).fInt)))))),rB (ha.fLong||(decide (200<(((Aj v hb).fStr).length:Int))))] 105]) Aa)) ?_))));refine oq (AK Aa) ?_;exact CZ
        refine AW (A0 (AI (Ai (Ai (B2 ?_)))));have gD:=Cc gC hx hy;refine AI (Ai (G2 ?_));obtain rfl:=A2 gD;exact Az (Mp Mu (AN Aa) (BC (i:=3) EY Dq Aa Aa Aa) (AN Aa)) (sS (sS (sS (sS sN)))) ⟨Aa,Aa⟩
       ·exact A7 (AX (BU (H2:=[.blk b2 [Ah (max ha.fDepth ((hd.length:Int)+1)),Ah (IntKind.wrap .i64 (ha.fBytes+hg)),rB (ha.fOutside||((decide (((Aj v hb).fKind)=3))&&(!(ov (Be ((Aj v hb).fInt)))))),rB (ha.fLong||(decide (200<(((Aj v hb).fStr).length:Int))))] 105,.blk b1 [Ah 0,Ah 0,rB false,rB false] 105,.row hz 120 5 (Aq Ap hw),.blk hf (Ab (Aj v hb)) 63]) ((Af (i:=2) Aa).trans (PN _ ((Af (i:=2) Aa).trans (PN _ (PO _))))) (AE (AR ((hw,(AC.mk (max ha.fDepth ((hd.length:Int)+1)) (IntKind.wrap .i64 (ha.fBytes+hg)) (ha.fOutside||((decide (((Aj v hb).fKind)=3))&&(!(ov (Be ((Aj v hb).fInt)))))) (ha.fLong||(decide (200<(((Aj v hb).fStr).length:Int)))))),hz) gA (AQ.c Aa (AQ.c Aa (AQ.c5 Aa Aa Aa Aa Aa AQ.nil))) (sC (sC (sC (sS sN))))))))
   ·rintro⟨⟨h6,h7⟩,h8⟩ h2;refine Ch (l':=[(0,AH 4 (Aq Ab v)),(3,rP b1 0),(5,rP b2 0),(6,rv h8),(11,AH 4 (Aq Ab v)),(12,Ah (v.length:Int)),(13,Ah hb)]) (H':=[.blk b2 (AF h7) 105,.blk b1 [Ah 0,Ah 0,rB false,rB false] 105,.row h8 120 5 (Aq Ap h6)]) Aa Aa ?_;replace h2:C2 hb h6 h7=some h4:=h2;unfold C2 at h2;refine A4 (ck h2 λgE gF=>wv (BS Aa Aa gE) (wm Aa (A1 ?_)));have gG:=BG gF hx;exact AE (AR (hD,(h6,hb+1,h7),h8) ⟨gG,PX _⟩ (AQ.c Aa (AQ.c Aa (AQ.c5 Aa Aa Aa Aa Aa AQ.nil))) (sC (sC (sC sN))))
  ·refine B7 (AB ?_);have gH:=Cy hH hx hy;exact AB (Bp (AR (ha,()) gH (AQ.c Aa (AQ.c Aa AQ.nil)) (sC (sC (sS sN)))))
 ·rintro⟨hq,⟨⟩⟩ h3;refine Dr (l':=[(3,rP b1 0),(5,rP b2 0)]) (H':=[.blk b2 (AF hq) 105,.blk b1 [Ah 0,Ah 0,rB false,rB false] 105]) Aa Aa ?_;replace h3:G6 hq=some r:=h3;unfold G6 at h3;refine Bi (AW (Au (E0 (H1:=[.blk b2 (AF hq) 105,.blk b1 (AF hq) 105]) [3,5] [⟨[],AT (AF hq),1⟩,⟨[],Ah 0,0⟩,⟨[0],rv undef,2⟩,⟨[],rB false,0⟩] (rle [(3,_),(2,[.blk b2 (AF hq) 105,.blk b1 (AF hq) 105])]) [2,4,3] ?_ ?_)))
  ·refine of (Ba (i:=0) EY Dq Aa Aa Aa Aa) (oq (AK Aa) (HR Aa (JU (Ca (i:=1) Dq Aa Aa Aa (AV.c Aa) Aa Aa (cs':=[Ah hq.fDepth,Ah hq.fBytes,rB hq.fOutside,rB hq.fLong]) Aa (H':=[.blk b2 (AF hq) 105,.blk b1 (AF hq) 105]) Aa)) ?_));refine oq (AK Aa) ?_;exact CZ
  refine AW (A0 (G2 ?_));obtain rfl:=A2 h3;exact Az (Mp Mu (AN Aa) (BC (i:=1) EY Dq Aa Aa Aa) (AN Aa)) (sS (sS sN)) ⟨Aa,Aa⟩
theorem JN (F:Nat)(v:(List Ac))(r:Int)(h:Je F v=some r):Fn Tryz.prog GE 37 [AH 4 (Aq Ab v)] [] (λR H=>R=Ah r∧H=[]):=by
 refine enter (n:=42) Tryz.func37 Aa Tryz.ntmps37 Aa (λw Z=>?_);unfold Je at h;refine Am (wa Aa (Bs (wm Aa (ob h λr1 e3 h2=>Cw Tryz.call56 (NC F v r1 e3) Aa (wm Aa (wv (AG Aa Aa) (wv (AG Aa Aa) (wv (AG Aa Aa) (Bl (cs:=[Ah 0,Ah 0,rB false,rB false]) Tryz.zeroValue105 Aa Aa (λb4=>?_))))))))));refine wa Aa (A6 (i:=0) Dq Aa Aa Aa (AV.c Aa) Aa Aa (cs':=[Ah r1.2.1.fDepth,Ah r1.2.1.fBytes,rB r1.2.1.fOutside,rB r1.2.1.fLong]) Aa (H':=[.blk b4 (AF r1.2.1) 105]) Aa (wa Aa (Av (Au (AS (AU [(0,AH 4 (Aq Ab v)),(4,rP b4 0),(12,rB ((!r1.2.2)||(!decide (r1.1=(v.length:Int)))))] [.blk b4 (AF r1.2.1) 105] ?_ ?_))))))
 ·refine A4 (wm Aa (wv (B5 Aa) (wm Aa (AY (!r1.2.2) (λc5=>?_) (λc5=>?_)))))
  ·refine wf c5 (wf c5 (wf c5 (wf c5 (wv (r:=rB true) (Ar Aa c5 Aa) (wa Aa (A1 ?_))))));exact CW c5
  ·refine wo c5 (wm Aa (wo c5 (wm Aa (wo c5 (wv (Bb (ys:=v) (enc:=Ab) BW Aa) (wo c5 (wv (CK Aa Aa) (G1 Aa c5 Aa (wa Aa (A1 ?_))))))))));exact CW c5
 refine cz h2 Aa (λc6 h7=>?_) (λc6 h8=>?_)
 ·refine Am (wa Aa (Av (A0 (AI (Ai ?_)))));obtain rfl:=A2 h7;exact Az (BJ N2 (AN Aa)) (sS sN) ⟨Aa,Aa⟩
 ·refine Am (vF CC Aa Gy (vL 0 N7 Aa (wa Aa (Av (cz h8 Aa (λc9 he=>?_) (λc9 hf=>?_))))))
  ·refine Am (wa Aa (Av (A0 (AI (Ai ?_)))));obtain rfl:=A2 he;exact Az (BJ N2 (AN Aa)) (sS sN) ⟨Aa,Aa⟩
  ·refine AU [(24,rB (r1.2.1.fLong||((decide (200<(v.length:Int)))||((decide (8<r1.2.1.fDepth))||(decide (4000<r1.2.1.fBytes))))))] [] ?_ ?_
   ·refine A4 (vF CC Aa Gy (vL 0 N7 Aa (wm Aa (AY (r1.2.1.fLong) (λha=>?_) (λha=>?_)))))
    ·refine wf ha (wf ha (wf ha (wv (r:=rB true) (Ar Aa ha Aa) (wm Aa (wz Aa Aa (wz Aa Aa (wz Aa Aa (wv (r:=rB true) (Ar (b:=true) Aa Aa Aa) (wm Aa (wz Aa Aa (wz Aa Aa (wz Aa Aa (wv (r:=rB true) (Ar (b:=true) Aa Aa Aa) (wa Aa (A1 ?_)))))))))))))));exact CW ha
    ·refine wo ha (wm Aa (wo ha (wv (Bb (ys:=v) (enc:=Ab) BW Aa) (wo ha (wv (DW Aa Aa) (G1 Aa ha Aa (wm Aa (AY (decide (200<(v.length:Int))) (λhb=>?_) (λhb=>?_)))))))))
     ·refine wf hb (wf hb (wf hb (wv (r:=rB true) (Ar Aa hb Aa) (wm Aa (wz Aa Aa (wz Aa Aa (wz Aa Aa (wv (r:=rB true) (Ar (b:=true) Aa Aa Aa) (wa Aa (A1 ?_))))))))));exact CW (And.intro ha hb)
     ·refine wo hb (vF CC Aa C0 (wo hb (vL 0 DN Aa (wo hb (wv (DW Aa Aa) (G1 Aa hb Aa (wm Aa (AY (decide (8<r1.2.1.fDepth)) (λhd=>?_) (λhd=>?_)))))))))
      ·refine wf hd (wf hd (wf hd (wv (r:=rB true) (Ar Aa hd Aa) (wa Aa (A1 ?_)))));exact CW (And.intro ha (And.intro hb hd))
      ·refine wo hd (vF CC Aa C0 (wo hd (vL 0 DN Aa (wo hd (wv (DW Aa Aa) (G1 Aa hd Aa (wa Aa (A1 ?_))))))));exact CW (And.intro ha (And.intro hb hd))
   refine cz hf Aa (λhg hh=>?_) (λhg hi=>?_)
   ·refine Am (wa Aa (Av (A0 (AI (Ai ?_)))));obtain rfl:=A2 hh;exact Az (BJ N2 (AN Aa)) sN ⟨Aa,Aa⟩
   ·refine A7 (AX (AW (Am (wa Aa (Av (A0 ?_))))));obtain rfl:=A2 hi;exact Az (BJ N2 (AN Aa)) sN ⟨Aa,Aa⟩
theorem G5  (r:(List Ac))(h:HN=some r):Fn Tryz.prog GE 47 [] [] (λR H=>R=AH 4 (Aq Ab r)∧H=[]):=by
 refine enter (n:=3) Tryz.func47 Aa Tryz.ntmps47 Aa (λw Z=>?_);unfold HN at h;refine Am (wa Aa (Bs (wv (r:=AT [Ah 1,Ah 0,rS ([]:Ao),Ah 0]) (E5 Aa Aa) (AZ (ys:=([(Ac.mk 1 0 ([]:Ao) 0)]:List Ac)) (enc:=Ab) (css:=[[Ah 1,Ah 0,rS ([]:Ao),Ah 0]]) (xs:=[.tmp 1]) BW Cu Is Aa Aa Aa ⟨GS.agg ⟨Up.refl _,Up.refl _,Up.refl _,Up.refl _,trivial⟩,trivial⟩ Aa B1 Aa Aa Aa (λb1=>?_)))));refine wa Aa (Av (A0 (WK.freeze (i:=0) Aa (WK.up (d:=0) (r:=AH 4 (Aq Ab ([(Ac.mk 1 0 ([]:Ao) 0)]:List Ac))) Aa (Up.fact (i:=0) Aa) ?_))));obtain rfl:=A2 h;exact Az (BJ Tryz.results47 (AN Aa)) (sS sN) ⟨Aa,Aa⟩
theorem Lf (b:Bool)(r:(List Ac))(h:Lg b=some r):Fn Tryz.prog GE 62 [rB b] [] (λR H=>R=AH 4 (Aq Ab r)∧H=[]):=by
 refine enter (n:=9) Tryz.func62 Aa Tryz.ntmps62 Aa (λw Z=>?_);unfold Lg at h;refine Am (wa Aa (Bs (wv (r:=AT [Ah 2,Ah 0,rS ([]:Ao),Ah 0]) (E5 Aa Aa) (Bl (cs:=[Ah 0,Ah 0,rS ([]:Ao),Ah 0]) Is Aa Aa (λb1=>?_)))));refine A6 (i:=0) Cu Aa Aa Aa (AV.c Aa) Aa Aa (cs':=[Ah 2,Ah 0,rS ([]:Ao),Ah 0]) Aa (H':=[.blk b1 [Ah 2,Ah 0,rS ([]:Ao),Ah 0] 63]) Aa (Av (Au (Am (wm Aa (Av (cz h Aa (λc2 h3=>?_) (λc2 h5=>?_)))))))
 ·refine A4 (vF BB Aa C0 (B8 (i:=0) C0 Aa Aa (BL Aa) Aa Aa (cs':=[Ah 2,Ah 1,rS ([]:Ao),Ah 0]) Aa (H':=[.blk b1 [Ah 2,Ah 1,rS ([]:Ao),Ah 0] 63]) Aa (Bs (wv (Ba (i:=0) Ja Cu Aa Aa Aa Aa) (AZ (ys:=([(Ac.mk 2 1 ([]:Ao) 0)]:List Ac)) (enc:=Ab) (css:=[[Ah 2,Ah 1,rS ([]:Ao),Ah 0]]) (xs:=[.tmp 7]) BW Cu Is Aa Aa Aa ⟨GS.agg ⟨Up.refl _,Up.refl _,Up.refl _,Up.refl _,trivial⟩,trivial⟩ Aa B1 Aa Aa Aa (λb4=>?_))))));refine wa Aa (Av (A0 (WK.freeze (i:=0) Aa (WK.up (d:=2) (r:=AH 4 (Aq Ab ([(Ac.mk 2 1 ([]:Ao) 0)]:List Ac))) Aa (Up.fact (i:=0) Aa) ?_))));obtain rfl:=A2 h3;exact Az (BJ Tryz.results62 (AN Aa)) (sS (sS sN)) ⟨Aa,Aa⟩
 ·refine A7 (AW (Am (wv (Ba (i:=0) Ja Cu Aa Aa Aa Aa) (AZ (ys:=([(Ac.mk 2 0 ([]:Ao) 0)]:List Ac)) (enc:=Ab) (css:=[[Ah 2,Ah 0,rS ([]:Ao),Ah 0]]) (xs:=[.tmp 7]) BW Cu Is Aa Aa Aa ⟨GS.agg ⟨Up.refl _,Up.refl _,Up.refl _,Up.refl _,trivial⟩,trivial⟩ Aa B1 Aa Aa Aa (λb6=>?_)))));refine wa Aa (Av (A0 (WK.freeze (i:=0) Aa (WK.up (d:=2) (r:=AH 4 (Aq Ab ([(Ac.mk 2 0 ([]:Ao) 0)]:List Ac))) Aa (Up.fact (i:=0) Aa) ?_))));obtain rfl:=A2 h5;exact Az (BJ Tryz.results62 (AN Aa)) (sS (sS sN)) ⟨Aa,Aa⟩
end Go.Proofs.YtfbmdidnlhifjaaGreatDoor.Q
namespace Go.Proofs.YtfbmdidnlhifjaaGreatDoor
open Go
set_option linter.unusedVariables false
end Go.Proofs.YtfbmdidnlhifjaaGreatDoor
namespace Go.Proofs.YtfbmdidnlhifjaaGreatDoor.Q
open Go Go.RowKit
set_option linter.unusedVariables false
set_option linter.unusedSimpArgs false
set_option maxRecDepth 100000
set_option maxHeartbeats 4000000
end Go.Proofs.YtfbmdidnlhifjaaGreatDoor.Q
namespace Go.Proofs.YtfbmdidnlhifjaaGreatDoor
open Go
set_option linter.unusedVariables false
end Go.Proofs.YtfbmdidnlhifjaaGreatDoor
namespace Go.Proofs.YtfbmdidnlhifjaaGreatDoor.Q
open Go Go.RowKit
set_option linter.unusedVariables false
set_option linter.unusedSimpArgs false
set_option maxRecDepth 100000
set_option maxHeartbeats 4000000
end Go.Proofs.YtfbmdidnlhifjaaGreatDoor.Q
namespace Go.Proofs.YtfbmdidnlhifjaaGreatDoor
open Go
set_option linter.unusedVariables false
def Cl (a:(List Ac))(b:(List Ac))(ha:Int):Option (Stp (Int) (Out (Bool) (Unit))):=
 B0 (decide (ha<(a.length:Int))) (Bn (BV ha (a.length:Int))<|Bn (BV ha (b.length:Int))<|B0 (!(decide (((Aj a ha).fKind)=((Aj b ha).fKind))&&decide (((Aj a ha).fInt)=((Aj b ha).fInt))&&decide (((Aj a ha).fStr)=((Aj b ha).fStr))&&decide (((Aj a ha).fN)=((Aj b ha).fN)))) (some (.out (.ret false))) (Bn (Cr .i64 (ha+1))<|some (.next (ha+1)))) (some (.out (.go ())))
def D5 :Option (Bool):=
 some true
def Ec (F:Nat)(a:(List Ac))(b:(List Ac)):Option (Bool):=
 B0 (!decide ((a.length:Int)=(b.length:Int))) (some false) (B6 (CB (λσ=>Cl a b σ) F 0) (Cf λν=>D5 ))
def M4 (F:Nat)(a:(List Ac))(b:(List Ac)):Option (Bool):=
 B6 (Ec F a b) λr1=>some r1
def GA (a:(List Ac))(b:(List Ac))(ha:Int):Option (Stp (Int) (Out (Bool) (Unit))):=
 B0 (decide (ha<(a.length:Int))) (Bn (BV ha (a.length:Int))<|Bn (BV ha (b.length:Int))<|B0 (!(decide (((Aj a ha).fKind)=((Aj b ha).fKind))&&decide (((Aj a ha).fInt)=((Aj b ha).fInt))&&decide (((Aj a ha).fStr)=((Aj b ha).fStr))&&decide (((Aj a ha).fN)=((Aj b ha).fN)))) (some (.out (.ret false))) (Bn (Cr .i64 (ha+1))<|some (.next (ha+1)))) (some (.out (.go ())))
def G9 :Option (Bool):=
 some true
def DG (F:Nat)(a:(List Ac))(b:(List Ac)):Option (Bool):=
 B0 (!decide ((a.length:Int)=(b.length:Int))) (some false) (B6 (CB (λσ=>GA a b σ) F 0) (Cf λν=>G9 ))
end Go.Proofs.YtfbmdidnlhifjaaGreatDoor
namespace Go.Proofs.YtfbmdidnlhifjaaGreatDoor.Q
open Go Go.RowKit
set_option linter.unusedVariables false
set_option linter.unusedSimpArgs false
set_option maxRecDepth 100000
set_option maxHeartbeats 4000000
theorem Nr {a0 b0:Int}{a1 b1:Int}{a2 b2:Ao}{a3 b3:Int}(w:World):(Op.equalIn 10000 63 (.agg #[.int .i64 a0,.int .i64 a1,.string (B a2),.int .i64 a3]) (.agg #[.int .i64 b0,.int .i64 b1,.string (B b2),.int .i64 b3])).run Tryz.prog w = .ok (decide (a0=b0)&&decide (a1=b1)&&decide (a2=b2)&&decide (a3=b3)) w:=by
  have hS:Tryz.prog.underlying 63=some (.struct (Tryz.prog.fieldsOf 63)):=by kernel_rfl
  have hp:Tryz.prog.stoodInHeld 63=false:=by kernel_rfl
  have u3:=Px;have ia3:=DN;have so3:=C0;have u9:=Eu;have ia9:=Dm;have so9:=CM;have ha:=Tryz.underlying61;have hb:=H6;have hd:=H4;rw[show(10000:Nat)=9999+1 from rfl,run_equalIn_agg w 9999 63 _ _ hS hp];simp only[Program.fieldsOf,BB]
  go_simp
  simp only[CU]
  by_cases h0:a0=b0<;>by_cases h1:a1=b1<;>by_cases h2:a2=b2<;>by_cases h3:a3=b3<;>simp[h0,h1,h2,h3]
theorem Hw {n:Nat}{c:Cx}{l:Fr}{H:List Ent}{d:Option Nat}{ty rty:TypeId}{pos:String}{af:Array Edge}{g:Option (Nat×Bool)}{x y:Operand}{a0 b0:Int}{a1 b1:Int}{a2 b2:Ao}{a3 b3:Int}(hx:ev l x=some (AT [Ah a0,Ah a1,rS a2,Ah a3]))(hy:ev l y=some (AT [Ah b0,Ah b1,rS b2,Ah b3])):Bd Tryz.prog n c l H { dst:=d,op:=.binOp .neq 63 x y rty,type:=ty,pos:=pos,after:=af,guard:=g } (rB (!(decide (a0=b0)&&decide (a1=b1)&&decide (a2=b2)&&decide (a3=b3)))):=λa w Z ha hw=>by
  obtain⟨us,e1,q1⟩:=ha.ev hx;obtain⟨vs,e2,q2⟩:=ha.ev hy;have k1:=AM.eq_rv (us:=[.int .i64 a0,.int .i64 a1,.string (B a2),.int .i64 a3]) q1;have k2:=AM.eq_rv (us:=[.int .i64 b0,.int .i64 b1,.string (B b2),.int .i64 b3]) q2;subst k1;subst k2;have hm:Tryz.prog.eqGuardType Tryz.prog.depth 63=false:=by kernel_rfl
  have hb:=Nr (a0:=a0) (a1:=a1) (a2:=a2) (a3:=a3) (b0:=b0) (b1:=b1) (b2:=b2) (b3:=b3) w;refine⟨.bool (!(decide (a0=b0)&&decide (a1=b1)&&decide (a2=b2)&&decide (a3=b3))),rfl,?_⟩;have hg:=run_eqGuard_agg (P:=Tryz.prog) w .neq 63 x y #[.int .i64 a0,.int .i64 a1,.string (B a2),.int .i64 a3] #[.int .i64 b0,.int .i64 b1,.string (B b2),.int .i64 b3] hm;simp only[execOp,e1,e2,Sem.run_bind,hg,Result.andThen_ok,run_neq_struct,hb,Sem.run_pure]
theorem IB (F:Nat)(a:(List Ac))(b:(List Ac))(r:Bool)(h:Ec F a b=some r):Fn Tryz.prog GE 71 [AH 4 (Aq Ab a),AH 4 (Aq Ab b)] [] (λR H=>R=rB r∧H=[]):=by
 refine enter (n:=26) Tryz.func71 Aa Tryz.ntmps71 Aa (λw Z=>?_);unfold Ec at h;refine Am (wa Aa (Av (Au (Am (wm Aa (wv (Bb (ys:=a) (enc:=Ab) BW Aa) (wm Aa (wv (Bb (ys:=b) (enc:=Ab) BW Aa) (wv (CK Aa Aa) (Av (cz h Aa (λc1 h2=>?_) (λc1 h3=>?_))))))))))))
 ·refine Am (wa Aa (Av (A0 (Ai ?_))));obtain rfl:=A2 h2;exact Az (BJ Tryz.results71 (AN Aa)) sN ⟨Aa,Aa⟩
 ·refine A7 (AW (Au (Am (wm Aa (wv (Bb (ys:=a) (enc:=Ab) BW Aa) (wv (r:=Ah 0) (Ax Aa) (Av (AS (ob h3 λhg hh hf=>BF (S:=Nat×(Int)×(Unit)) (V:=(Unit)×(Unit)) 0 (λσ=>CB (λσ=>Cl a b σ) σ.1 σ.2.1=some hg) (λσ=>[(0,AH 4 (Aq Ab a)),(1,AH 4 (Aq Ab b)),(12,Ah (a.length:Int)),(13,Ah σ.2.1)]) (λσ=>[]) (λσ=>σ.1) (F,0,()) hh (AQ.c Aa (AQ.c Aa (AQ.c Aa (AQ.c Aa AQ.nil)))) sN (λσ=>D5 =some r) (λσ=>[]) (λσ=>[]) ?_ ?_)))))))))
  ·rintro⟨h1,ha,⟨⟩⟩ hi;refine Ch (l':=[(0,AH 4 (Aq Ab a)),(1,AH 4 (Aq Ab b)),(12,Ah (a.length:Int)),(13,Ah ha)]) (H':=[]) Aa Aa ?_;obtain⟨hj,rfl,hk,hb,he⟩:=Ds hi;replace hb:Cl a b ha=some hk:=hb;unfold Cl at hb;refine Am (wv (D8 Aa Aa) (Av (Au (cz hb Aa (λhl hm=>?_) (λhl hn=>?_)))))
   ·refine A7 (AW (Au (AS (Am (wm Aa (wa Aa (Av (Au (ck hm λho hp=>ck hp λhq hr=>D3 [0,1,5,12,13] [⟨[],AH 4 (Aq Ab a),0⟩,⟨[],Ah ha,0⟩,⟨[0,1],MF (Ab (Aj a ha)),0⟩,⟨[2],AT (Ab (Aj a ha)),0⟩,⟨[],AH 4 (Aq Ab b),0⟩,⟨[],Ah ha,0⟩,⟨[4,5],MF (Ab (Aj b ha)),0⟩,⟨[6],AT (Ab (Aj b ha)),0⟩,⟨[3,7],rB (!(decide (((Aj a ha).fKind)=((Aj b ha).fKind))&&decide (((Aj a ha).fInt)=((Aj b ha).fInt))&&decide (((Aj a ha).fStr)=((Aj b ha).fStr))&&decide (((Aj a ha).fN)=((Aj b ha).fN)))),0⟩] [16,17,18,19,20,21,22,23,24,0,1,12,13] ?_ ?_)))))))))
    ·refine oq (Ax Aa) (oq (Ax Aa) (oq (Bu (enc:=Ab) (ys:=a) BW Cu Aa Aa ho) (oq (CE Ja Cu Aa Aa Aa) (oq (Ax Aa) (oq (Ax Aa) (oq (Bu (enc:=Ab) (ys:=b) BW Cu Aa Aa hq) (oq (CE Ja Cu Aa Aa Aa) (oq (Hw Aa Aa) ?_))))))));exact CZ
    refine AW (cz hr Aa (λhs ht=>?_) (λhs hu=>?_))
    ·refine Am (wa Aa (Av (A0 (AI (Ai (Ai (B2 ?_)))))));have hw:=Cc ht he hf;refine AI (Ai ?_);obtain rfl:=A2 hw;exact Az (BJ Tryz.results71 (AN Aa)) sN ⟨Aa,Aa⟩
    ·refine A7 (AX (AW (A4 (ck hu λhx hy=>wv (BS Aa Aa hx) (wm Aa (A1 ?_))))));have hz:=BG hy he;exact AE (AR (hj,ha+1,()) ⟨hz,PX _⟩ (AQ.c Aa (AQ.c Aa (AQ.c Aa (AQ.c Aa AQ.nil)))) sN)
   ·refine B7 (AB ?_);have h0:=Cy hn he hf;exact AB (Bp (AR ((),()) h0 AQ.nil sN))
  ·rintro⟨⟨⟩,⟨⟩⟩ hd;refine Dr (l':=[]) (H':=[]) Aa Aa ?_;replace hd:D5 =some r:=hd;unfold D5 at hd;refine Bi (AW (Am (wa Aa (Av (A0 ?_)))));obtain rfl:=A2 hd;exact Az (BJ Tryz.results71 (AN Aa)) sN ⟨Aa,Aa⟩
theorem NB (F:Nat)(a:(List Ac))(b:(List Ac))(r:Bool)(h:M4 F a b=some r):Fn Tryz.prog GE 61 [AH 4 (Aq Ab a),AH 4 (Aq Ab b)] [] (λR H=>R=rB r∧H=[]):=by
 refine enter (n:=8) Tryz.func61 Aa Tryz.ntmps61 Aa (λw Z=>?_);unfold M4 at h;refine Am (wa Aa (Bs (wm Aa (wm Aa (ob h λr1 e3 h2=>Cw Tryz.call71 (IB F a b r1 e3) Aa (wa Aa (Av (A0 ?_))))))));obtain rfl:=A2 h2;exact Az (BJ Tryz.results61 (AN Aa)) sN ⟨Aa,Aa⟩
theorem Lj (F:Nat)(a:(List Ac))(b:(List Ac))(r:Bool)(h:DG F a b=some r):Fn Tryz.prog GE 13 [AH 4 (Aq Ab a),AH 4 (Aq Ab b)] [] (λR H=>R=rB r∧H=[]):=by
 refine enter (n:=26) Tryz.func13 Aa Tryz.ntmps13 Aa (λw Z=>?_);unfold DG at h;refine Am (wa Aa (Av (Au (Am (wm Aa (wv (Bb (ys:=a) (enc:=Ab) BW Aa) (wm Aa (wv (Bb (ys:=b) (enc:=Ab) BW Aa) (wv (CK Aa Aa) (Av (cz h Aa (λc1 h2=>?_) (λc1 h3=>?_))))))))))))
 ·refine Am (wa Aa (Av (A0 (Ai ?_))));obtain rfl:=A2 h2;exact Az (BJ Tryz.results13 (AN Aa)) sN ⟨Aa,Aa⟩
 ·refine A7 (AW (Au (Am (wa Aa (Av (AS (ob h3 λhg hh hf=>BF (S:=Nat×(Int)×(Unit)) (V:=(Unit)×(Unit)) 0 (λσ=>CB (λσ=>GA a b σ) σ.1 σ.2.1=some hg) (λσ=>[(0,AH 4 (Aq Ab a)),(1,AH 4 (Aq Ab b)),(5,Ah σ.2.1)]) (λσ=>[]) (λσ=>σ.1) (F,0,()) hh (AQ.c Aa (AQ.c Aa (AQ.c Aa AQ.nil))) sN (λσ=>G9 =some r) (λσ=>[]) (λσ=>[]) ?_ ?_)))))))
  ·rintro⟨h1,ha,⟨⟩⟩ hi;refine Ch (l':=[(0,AH 4 (Aq Ab a)),(1,AH 4 (Aq Ab b)),(5,Ah ha)]) (H':=[]) Aa Aa ?_;obtain⟨hj,rfl,hk,hb,he⟩:=Ds hi;replace hb:GA a b ha=some hk:=hb;unfold GA at hb;refine Au (Am (wm Aa (wm Aa (wv (Bb (ys:=a) (enc:=Ab) BW Aa) (wv (D8 Aa Aa) (Av (cz hb Aa (λhl hm=>?_) (λhl hn=>?_))))))))
   ·refine A7 (AW (Au (AS (Au (ck hm λho hp=>ck hp λhq hr=>D3 [0,1,5] [⟨[],AH 4 (Aq Ab a),0⟩,⟨[],Ah ha,0⟩,⟨[0,1],MF (Ab (Aj a ha)),0⟩,⟨[2],AT (Ab (Aj a ha)),0⟩,⟨[],AH 4 (Aq Ab b),0⟩,⟨[],Ah ha,0⟩,⟨[4,5],MF (Ab (Aj b ha)),0⟩,⟨[6],AT (Ab (Aj b ha)),0⟩,⟨[3,7],rB (!(decide (((Aj a ha).fKind)=((Aj b ha).fKind))&&decide (((Aj a ha).fInt)=((Aj b ha).fInt))&&decide (((Aj a ha).fStr)=((Aj b ha).fStr))&&decide (((Aj a ha).fN)=((Aj b ha).fN)))),0⟩] [17,18,19,20,21,22,23,24,25,0,1,5] ?_ ?_)))))
    ·refine oq (Ax Aa) (oq (Ax Aa) (oq (Bu (enc:=Ab) (ys:=a) BW Cu Aa Aa ho) (oq (CE Ja Cu Aa Aa Aa) (oq (Ax Aa) (oq (Ax Aa) (oq (Bu (enc:=Ab) (ys:=b) BW Cu Aa Aa hq) (oq (CE Ja Cu Aa Aa Aa) (oq (Hw Aa Aa) ?_))))))));exact CZ
    refine AW (cz hr Aa (λhs ht=>?_) (λhs hu=>?_))
    ·refine Am (wa Aa (Av (A0 (AI (Ai (Ai (B2 ?_)))))));have hw:=Cc ht he hf;refine AI (Ai ?_);obtain rfl:=A2 hw;exact Az (BJ Tryz.results13 (AN Aa)) sN ⟨Aa,Aa⟩
    ·refine A7 (AX (AW (A4 (wm Aa (ck hu λhx hy=>wv (BS Aa Aa hx) (wa Aa (A1 ?_)))))));have hz:=BG hy he;exact AE (AR (hj,ha+1,()) ⟨hz,PX _⟩ (AQ.c Aa (AQ.c Aa (AQ.c Aa AQ.nil))) sN)
   ·refine B7 (AB ?_);have h0:=Cy hn he hf;exact AB (Bp (AR ((),()) h0 AQ.nil sN))
  ·rintro⟨⟨⟩,⟨⟩⟩ hd;refine Dr (l':=[]) (H':=[]) Aa Aa ?_;replace hd:G9 =some r:=hd;unfold G9 at hd;refine Bi (AW (Am (wa Aa (Av (A0 ?_)))));obtain rfl:=A2 hd;exact Az (BJ Tryz.results13 (AN Aa)) sN ⟨Aa,Aa⟩
end Go.Proofs.YtfbmdidnlhifjaaGreatDoor.Q
namespace Go.Proofs.YtfbmdidnlhifjaaGreatDoor
open Go
set_option linter.unusedVariables false
def D6 :Option ((List Ac)):=
 some ([(Ac.mk 1 0 ([]:Ao) 0)]:List Ac)
end Go.Proofs.YtfbmdidnlhifjaaGreatDoor
namespace Go.Proofs.YtfbmdidnlhifjaaGreatDoor.Q
open Go Go.RowKit
set_option linter.unusedVariables false
set_option linter.unusedSimpArgs false
set_option maxRecDepth 100000
set_option maxHeartbeats 4000000
theorem DO {n:Nat}{c:Cx}{l:Fr}{H:List Ent}{d:Option Nat}{ty:TypeId}{pos:String}{af:Array Edge}{g:Option (Nat×Bool)}{x0:Operand}{r0:Rp}(h0:ev l x0=some r0)(u0:r0.one=true){x1:Operand}{r1:Rp}(h1:ev l x1=some r1)(u1:r1.one=true):Bd Tryz.prog n c l H { dst:=d,op:=.build 63 #[(0,x0),(1,x1)],type:=ty,pos:=pos,after:=af,guard:=g } (AT [r0,r1,rS ([]:Ao),Ah 0]):=λa w Z ha _=>by
  have p0:=ha.ev h0;have c0:=Bg (r0.hone u0 Z _ p0);have p1:=ha.ev h1;have c1:=Bg (r1.hone u1 Z _ p1);have hb:Tryz.prog.built 63 [(0,a.eval x0),(1,a.eval x1)]=some #[a.eval x0,a.eval x1,(.string ⟨#[]⟩),(.int .i64 0)]:=by
    rw[L5];generalize a.eval x0=v0 at *;generalize a.eval x1=v1 at *;simp[Instr.fill,c0,c1]
  refine⟨.agg #[a.eval x0,a.eval x1,(.string ⟨#[]⟩),(.int .i64 0)],⟨[a.eval x0,a.eval x1,(.string ⟨#[]⟩),(.int .i64 0)],rfl,p0,p1,rfl,rfl,trivial⟩,?_⟩;have:=run_build w 63 #[(0,a.eval x0),(1,a.eval x1)] _ (by simpa using hb);simp[execOp,this]
theorem Ll  (r:(List Ac))(h:D6=some r):Fn Tryz.prog GE 34 [] [] (λR H=>R=AH 4 (Aq Ab r)∧H=[]):=by
 refine enter (n:=3) Tryz.func34 Aa Tryz.ntmps34 Aa (λw Z=>?_);unfold D6 at h;refine Am (wa Aa (Bs (wv (r:=AT [Ah 1,Ah 0,rS ([]:Ao),Ah 0]) (E5 Aa Aa) (AZ (ys:=([(Ac.mk 1 0 ([]:Ao) 0)]:List Ac)) (enc:=Ab) (css:=[[Ah 1,Ah 0,rS ([]:Ao),Ah 0]]) (xs:=[.tmp 1]) BW Cu Is Aa Aa Aa ⟨GS.agg ⟨Up.refl _,Up.refl _,Up.refl _,Up.refl _,trivial⟩,trivial⟩ Aa B1 Aa Aa Aa (λb1=>?_)))));refine wa Aa (Av (A0 (WK.freeze (i:=0) Aa (WK.up (d:=0) (r:=AH 4 (Aq Ab ([(Ac.mk 1 0 ([]:Ao) 0)]:List Ac))) Aa (Up.fact (i:=0) Aa) ?_))));obtain rfl:=A2 h;exact Az (BJ Tryz.results34 (AN Aa)) (sS sN) ⟨Aa,Aa⟩
end Go.Proofs.YtfbmdidnlhifjaaGreatDoor.Q
namespace Go.Proofs.YtfbmdidnlhifjaaGreatDoor
open Go
set_option linter.unusedVariables false
end Go.Proofs.YtfbmdidnlhifjaaGreatDoor
namespace Go.Proofs.YtfbmdidnlhifjaaGreatDoor.Q
open Go Go.RowKit
set_option linter.unusedVariables false
set_option linter.unusedSimpArgs false
section
variable {P : Program} {n : Nat} {c : Cx} {l : Fr} {H : List Ent} {d : Option Nat} {x y : Operand} {t t' ty : TypeId} {pos : String} {af : Array Edge} {g : Option (Nat × Bool)} {k k' : IntKind} {p q : Int}
end
section
variable {P : Program} {n : Nat} {c : Cx} {ops : Array Oper} {Q : Exit → Act → World → Prop} {rest : List Oper} {l : Fr} {H H' : List Ent} {d : Nat} {d' : Option Nat} {x y : Operand} {t ty e : TypeId} {pos : String} {af : Array Edge} {g : Option (Nat × Bool)} {k : IntKind} {b i len : Nat} {j : Int}
end
def KY (ops:List Oper)(N:Nat):Bool:=
 let cl:=Im ops []
 (List.range ops.length).all (λi=>(Dd (ops.getD i default)).all (·<i))&&
 (List.range ops.length).all (λi=>i<N||(List.range i).all (λj=>(cl.getD i 0).testBit j))
section
variable {P : Program} {Q : Exit → Act → World → Prop}
theorem Kw {listed:Array Bool}{len m:Nat}(hs:listed.size=len)(hm:m≤len)(h:∀j,j<len→(listed.getD j true=true↔j<m)):listed.toList.count false=len-m:=by
 have:listed.toList=List.replicate m true++List.replicate (len-m) false:=by
  apply List.ext_getElem
  ·simp[hs];omega
  ·intro j h1 h2;have hj:j<len:=by simpa[hs] using h1
   have:=h j hj;rw[Array.getD_eq_getD_getElem?,Array.getElem?_eq_getElem (by omega)] at this;simp only[Qd] at this;rw[Array.getElem_toList,List.getElem_append]
   split
   ·rename_i h3
    simp at h3;simp[this.2 h3]
   ·rename_i h3
    simp at h3;simp only[List.getElem_replicate]
    cases hb:listed[j] with
    | false=>rfl
    | true=>have:=this.1 hb;omega
 rw[this];simp[List.count_append,List.count_replicate]
theorem Lx {listed:Array Bool}{j:Nat}(h:j<listed.size)(d d':Bool):listed.getD j d=listed.getD j d':=by
 simp[Array.getD_eq_getD_getElem?,Array.getElem?_eq_getElem h]
theorem Ip {ops:List Oper}{listed:Array Bool}{i:Nat}{o:Oper}(ho:ops[i]? =some o)(hb:∀e∈Dd o,listed.getD e true=true)
  (hcl:∀j o,ops[j]? =some o→listed.getD j true=true→∀e∈Dd o,listed.getD e true=true) (j:Nat) (h:((Im ops []).getD i 0).testBit j=true):j=i∨listed.getD j true=true:=
 DZ ops (λk=>k=i∨listed.getD k true=true) ops [] (λt o' ht e he hF=>by
  rcases hF with hF | hF
  ·simp at hF;subst hF;rw[ho] at ht;simp at ht;subst ht;exact .inr (hb e he)
  ·exact .inr (hcl t o' ht (by simpa using hF) e he)) (λj i hb=>by simp at hb) i j h (.inl rfl)
theorem Gl {ops:List Oper}{listed:Array Bool}{i:Nat}(hsz:listed.size=ops.length)(hlt:∀i,i<ops.length→∀e∈Dd (ops.getD i default),e<i)(h:i∈Region.ready .any ops.toArray listed) :
  listed.getD i true=false∧i<ops.length∧∃o,ops[i]? =some o∧∀e∈Dd o,listed.getD e true=true:=by
 obtain⟨h1,o,ho,h2⟩:=mem_ready.1 h;have ho':ops[i]? =some o:=by simpa using ho
 have hil:=(List.getElem?_eq_some_iff.1 ho').1;refine⟨h1,hil,o,ho',λe he=>?_⟩;have hei:=hlt i hil e (by rw[PS,ho'];exact he);simp only[Dd,List.mem_map,List.mem_filter] at he;obtain⟨x,⟨hx1,hx2⟩,rfl⟩:=he;have h3:=h2 x (by simpa using hx1) hx2;rw[Lx (by omega) true false];exact h3
theorem Ge {ops:List Oper}{listed:Array Bool}(hsz:listed.size=ops.length)(hlt:∀i,i<ops.length→∀e∈Dd (ops.getD i default),e<i)(h:Region.ready .any ops.toArray listed=[]) :
  ∀j,j<ops.length→listed.getD j true=true:=by
 intro j
 induction j using Nat.strongRecOn with
 | ind j ih=>
  intro hj
  cases hb:listed.getD j true with
  | true=>rfl
  | false=>
   have:j∈Region.ready .any ops.toArray listed:=mem_ready.2 ⟨hb,ops[j],by simp[hj],λe he hbn=>by
    have hel:e.on<j:=hlt j hj e.on (by
     rw[PS,PR hj];simp only[Dd,Qd,List.mem_map,List.mem_filter];exact⟨e,⟨by simpa using he,hbn⟩,rfl⟩)
    rw[Lx (by omega) false true];exact ih e.on hel (by omega)⟩
   rw[h] at this;cases this
theorem HE {listed:Array Bool}{i j:Nat}(hi:i<listed.size):(listed.setIfInBounds i true).getD j true=true↔(j=i∨listed.getD j true=true):=by
 by_cases hj:i=j
 ·subst hj;simp[hi]
 ·rw[getD_set_ne true hj];exact⟨.inr,λh=>h.elim (λh=>absurd h.symm hj) id⟩
theorem LM {listed:Array Bool}{i fuel:Nat}(hi:i<listed.size)(hun:listed.getD i true=false)(hc:listed.toList.count false=fuel+1):(listed.setIfInBounds i true).toList.count false=fuel:=by
 have hfi:listed.toList[i]? =some false:=by
  rw[Array.getD_eq_getD_getElem?,Array.getElem?_eq_getElem hi] at hun;simp at hun;simp[hi,hun]
 rw[Array.toList_setIfInBounds];have h1:=List.count_set (a:=true) (b:=false) (l:=listed.toList) (i:=i) (by simpa using hi);have h2:listed.toList[i]'(by simpa using hi)=false:=by
  have:=List.getElem?_eq_some_iff.1 hfi;exact this.2
 rw[h1,h2,hc];rfl
theorem Hq {ops:List Oper}{N:Nat}(hlt:∀i,i<ops.length→∀e∈Dd (ops.getD i default),e<i)
  (hch:∀i,N≤i→i<ops.length→∀j,j<i→((Im ops []).getD i 0).testBit j=true):∀(k m:Nat) (listed:Array Bool) (a:Act) (w:World),m+k=ops.length→N≤m→listed.size=ops.length→
   (∀j,j<ops.length→(listed.getD j true=true↔j<m))→(∀j o,ops[j]? =some o→listed.getD j true=true→∀e∈Dd o,listed.getD e true=true)→wpList P ops.toArray Q (ops.drop m) a w→wpAny P .any ops.toArray Q k listed a w
 | 0,m,listed,a,w,hk,hN,hsz,hl,hcl,h=>by
  refine⟨?_,?_⟩
  ·cases hr:Region.ready .any ops.toArray listed with
   | nil=>rfl
   | cons i r=>
    obtain⟨h1,h2,_⟩:=Gl hsz hlt (i:=i) (by rw[hr];simp);rw[(hl i h2).2 (by omega)] at h1;cases h1
  ·rw[List.drop_of_length_le (by omega)] at h;exact h
 | k+1,m,listed,a,w,hk,hN,hsz,hl,hcl,h=>by
  refine⟨λhr=>?_,λi hi=>?_⟩
  ·have:=(hl m (by omega)).1 (Ge hsz hlt hr m (by omega));omega
  ·obtain⟨h1,h2,o,ho,hb⟩:=Gl hsz hlt hi;have him:i=m:=by
    have hmi : ¬ i<m:=λh'=>by rw[(hl i h2).2 h'] at h1;cases h1
    by_cases e:i=m
    ·exact e
    ·rcases Ip ho hb hcl m (hch i (by omega) h2 m (by omega)) with h3 | h3
     ·exact h3.symm
     ·have:=(hl m (by omega)).1 h3;omega
   subst him;have hd:ops.drop i=o::ops.drop (i+1):=by
    rw[List.drop_eq_getElem_cons h2]
    congr 1
    exact(List.getElem?_eq_some_iff.1 ho).2
   rw[hd] at h;have ih:∀a' w',wpList P ops.toArray Q (ops.drop (i+1)) a' w'→wpAny P .any ops.toArray Q k (listed.setIfInBounds i true) a' w':=λa' w' h'=>by
    refine Hq hlt hch k (i+1) _ a' w' (by omega) (by omega) (by simpa using hsz) (λj hj=>?_) (λj o' hj hlj e he=>?_) h'
    ·rw[HE (by omega),hl j hj];omega
    ·rw[HE (by omega)] at hlj ⊢;rcases hlj with rfl | hlj
     ·rw[ho] at hj;simp at hj;subst hj;exact .inr (hb e he)
     ·exact .inr (hcl j o' hj hlj e he)
   unfold wpOp;have hoA:ops.toArray[i]? =some o:=by simpa using ho
   simp only[hoA];simp only[wpList] at h
   split
   ·rename_i hw'
    rw[if_pos hw'] at h;exact h.imp (λh=>Oper.wp_mono ih h) (λh=>h)
   ·rename_i hw'
    rw[Qm hw'] at h;exact ih _ _ h
theorem O2 {id:Nat}{ops:List Oper}{N:Nat}(hm:P.follows .mixedOrders=true)(hB:KY ops N=true)(hN:N≤ops.length)(I:(Nat→Bool)→Act→World→Prop)
  (hext:∀S S' a w,(∀j,j<N→S j=S' j)→I S a w→I S' a w) {a:Act} {w:World} (h0:I (λ_=>false) a { w with drawn:=w.drawn+1 })
  (step:∀S i o a w,i<N→S i=false→ops[i]? =some o→(∀e∈Dd o,e<i∧S e=true)→I S a w→∀K:Act→World→Prop,(∀a' w',I (λj=>j ==i||S j) a' w'→K a' w')→
   (Region.wanted o (yielded ops.toArray a.tmps)=true→o.wp P a w K Q)∧(Region.wanted o (yielded ops.toArray a.tmps)=false→K (a.put o.dst undef) w))
  (fin:∀a w,I (λ_=>true) a w→wpList P ops.toArray Q (ops.drop N) a w):(Code.region id ops.toArray true).wp P Q a w:=by
 simp only[KY,PY,Qj,List.mem_range,PQ,Bool.or_eq_true] at hB;obtain⟨hlt,hch0⟩:=hB;have hch:∀i,N≤i→i<ops.length→∀j,j<i→((Im ops []).getD i 0).testBit j=true:=λi h1 h2 j hj=>by
  rcases hch0 i h2 with h3 | h3
  ·omega
  ·exact h3 j hj
 refine wp_region_any hm ?_;have main:∀(fuel:Nat) (listed:Array Bool) (a:Act) (w:World),listed.size=ops.length→listed.toList.count false=fuel→I (λj=>listed.getD j true) a w→
   (∀j o,ops[j]? =some o→listed.getD j true=true→∀e∈Dd o,listed.getD e true=true)→(∀j,N≤j→j<ops.length→listed.getD j true=false)→wpAny P .any ops.toArray Q fuel listed a w:=by
  intro fuel;have allin:∀(fuel:Nat) (listed:Array Bool) (a:Act) (w:World),listed.size=ops.length→listed.toList.count false=fuel→I (λj=>listed.getD j true) a w→
   (∀j o,ops[j]? =some o→listed.getD j true=true→∀e∈Dd o,listed.getD e true=true)→(∀j,N≤j→j<ops.length→listed.getD j true=false)→(∀j,j<N→listed.getD j true=true)→wpAny P .any ops.toArray Q fuel listed a w:=by
   intro fuel listed a w hsz hc hI hcl hlast hall;have hl:∀j,j<ops.length→(listed.getD j true=true↔j<N):=λj hj=>by
    constructor
    ·intro h
     by_cases hjN:j<N
     ·exact hjN
     ·rw[hlast j (by omega) hj] at h;cases h
    ·exact hall j
   have:=Kw hsz hN hl;refine Hq hlt hch fuel N listed a w (by omega) (PW _) hsz hl hcl (fin a w (hext _ _ a w (λj hj=>hall j hj) hI))
  induction fuel with
  | zero=>
   intro listed a w hsz hc hI hcl hlast;refine allin 0 listed a w hsz hc hI hcl hlast (λj hj=>?_)
   cases hb:listed.getD j true with
   | true=>rfl
   | false=>
    have:false∈listed.toList:=by
     rw[Array.getD_eq_getD_getElem?,Array.getElem?_eq_getElem (by omega)] at hb;simp at hb;rw[← hb];simp
    have:=List.count_pos_iff.2 this;omega
  | succ fuel ih=>
   intro listed a w hsz hc hI hcl hlast
   by_cases hall:∀j,j<N→listed.getD j true=true
   ·exact allin (fuel+1) listed a w hsz hc hI hcl hlast hall
   ·refine⟨λhr=>absurd (λj hj=>Ge hsz hlt hr j (by omega)) hall,λi hi=>?_⟩;obtain⟨h1,h2,o,ho,hb⟩:=Gl hsz hlt hi;have hiN:i<N:=by
     by_cases h:i<N
     ·exact h
     ·refine absurd (λj hj=>?_) hall;rcases Ip ho hb hcl j (hch i (by omega) h2 j (by omega)) with h3 | h3
      ·omega
      ·exact h3
    have K':∀a' w',I (λj=>j ==i||listed.getD j true) a' w'→wpAny P .any ops.toArray Q fuel (listed.setIfInBounds i true) a' w':=λa' w' hI'=>by
     refine ih _ a' w' (by simpa using hsz) (LM (by omega) h1 hc) (hext _ _ a' w' (λj hj=>?_) hI') (λj o' hj hlj e he=>?_) (λj h3 h4=>?_)
     ·have:=HE (listed:=listed) (i:=i) (j:=j) (by omega)
      cases hq:(listed.setIfInBounds i true).getD j true with
      | true=>
       rw[hq] at this;rcases this.1 rfl with h | h
       ·simp[h]
       ·simp[h]
      | false=>
       rw[hq] at this;have h5 : ¬ (j=i∨listed.getD j true=true):=λh=>by have:=this.2 h;cases this
       cases hz:listed.getD j true with
       | true=>exact absurd (.inr hz) h5
       | false=>
        have:j≠i:=λh=>h5 (.inl h);simp[this]
     ·rw[HE (by omega)] at hlj ⊢;rcases hlj with rfl | hlj
      ·rw[ho] at hj;simp at hj;subst hj;exact .inr (hb e he)
      ·exact .inr (hcl j o' hj hlj e he)
     ·rw[getD_set_ne true (by omega)];exact hlast j h3 h4
    obtain⟨k1,k2⟩:=step _ i o a w hiN h1 ho (λe he=>⟨hlt i h2 e (by rw[PS,ho];exact he),hb e he⟩) hI _ K';unfold wpOp;have hoA:ops.toArray[i]? =some o:=by simpa using ho
    simp only[hoA]
    split
    ·rename_i hw';exact .inl (k1 hw')
    ·rename_i hw';exact k2 (by simpa using hw')
 have e0:∀j,j<ops.length→(Array.replicate ops.length false).getD j true=false:=λj hj=>by simp[hj]
 have hsz0:ops.toArray.size=ops.length:=by simp
 rw[hsz0];refine main ops.length (Array.replicate ops.length false) a _ (by simp) (by simp) (hext _ _ _ _ (λj hj=>(e0 j (by omega)).symm) h0) (λj o hj hl=>?_) (λj _ h2=>e0 j h2);rw[e0 j (List.getElem?_eq_some_iff.1 hj).1] at hl;cases hl
end
structure Sa where
 deps:List Nat
 r:Rp
 al:Option (List Rp×TypeId):=none
 late:Option (Nat×List Rp):=none
 sto:Option Nat:=none
def CX (sp:List Sa)(i:Nat):Sa:=sp.getD i { deps:=[],r:=rv undef }
def Mo (sp:List Sa):List Sp:=sp.map λs=>⟨s.deps,s.r,0⟩
def GY (β:Nat→Nat)(s:Sa)(i:Nat):Rp:=match s.al with
 | none=>s.r
 | some _=>rv (.pointer (some ⟨β i,0,none⟩))
def Hk (S:Nat→Bool)(late:Option (Nat×List Rp))(cs:List Rp):List Rp:=match late with
 | none=>cs
 | some q=>if S q.1 then q.2 else cs
def Dw (S:Nat→Bool)(β:Nat→Nat):List Sa→Nat→List Ent
 | [],_=>[]
 | s::r,t=>match s.al with
  | some p=>if S t then .blk (β t) (Hk S s.late p.1) p.2::Dw S β r (t+1) else Dw S β r (t+1)
  | none=>Dw S β r (t+1)
def Mh (β:Nat→Nat):List Sa→Nat→List Ent
 | [],_=>[]
 | s::r,t=>match s.al with
  | some p=>.blk (β t) (match s.late with | none=>p.1 | some q=>q.2) p.2::Mh β r (t+1)
  | none=>Mh β r (t+1)
def Ir (β:Nat→Nat):List Oper→List Sa→Nat→Fr→Fr
 | o::os,s::sp,i,l=>match o.dst with
  | some d=>(d,GY β s i)::Ir β os sp (i+1) l
  | none=>Ir β os sp (i+1) l
 | _,_,_,l=>l
theorem Gp {S S':Nat→Bool}{late:Option (Nat×List Rp)}{cs:List Rp}(h:∀q,late=some q→S q.1=S' q.1):Hk S late cs=Hk S' late cs:=by
 unfold Hk
 cases late with
 | none=>rfl
 | some q=>simp only[];rw[h q rfl]
theorem CJ (S:Nat→Bool)(β:Nat→Nat)(s:Sa)(r:List Sa)(t:Nat):Dw S β (s::r) t=match s.al with
  | some p=>if S t then .blk (β t) (Hk S s.late p.1) p.2::Dw S β r (t+1) else Dw S β r (t+1)
  | none=>Dw S β r (t+1):=rfl
theorem DB {S S':Nat→Bool}{β β':Nat→Nat}:∀(r:List Sa) (t0:Nat),(∀(t:Nat) (s:Sa),r[t]? =some s→s.al≠none→S (t0+t)=S' (t0+t)∧(S (t0+t)=true→β (t0+t)=β' (t0+t)∧∀q,s.late=some q→S q.1=S' q.1))→Dw S β r t0=Dw S' β' r t0
 | [],_,_=>rfl
 | s::r,t0,h=>by
  have ih:=DB r (t0+1) (λt s hs hn=>by
   have:=h (t+1) s (by simpa using hs) hn;rw[show t0+1+t=t0+(t+1) from by omega];exact this)
  unfold Dw;rw[ih]
  cases ha:s.al with
  | none=>rfl
  | some p=>
   obtain⟨h1,h2⟩:=h 0 s rfl (by rw[ha];exact nofun);simp only[Nat.add_zero] at h1 h2;simp only[];rw[← h1]
   split
   ·rename_i hS;rw[(h2 hS).1,Gp (h2 hS).2]
   ·rfl
theorem Ku (β:Nat→Nat):∀(r:List Sa) (t0:Nat),Dw (λ_=>true) β r t0=Mh β r t0
 | [],_=>rfl
 | s::r,t0=>by
  unfold Dw Mh;rw[Ku β r (t0+1)]
  cases s.al with
  | none=>rfl
  | some p=>cases hl:s.late<;>simp[Hk,hl]
theorem IQ (β:Nat→Nat):∀(r:List Sa) (t0:Nat),Dw (λ_=>false) β r t0=[]
 | [],_=>rfl
 | s::r,t0=>by
  unfold Dw;rw[IQ β r (t0+1)]
  cases s.al<;>simp
theorem Kt {S:Nat→Bool}{β:Nat→Nat}{i b:Nat}{p:List Rp×TypeId}:∀(r:List Sa) (t0 k:Nat) (s:Sa),i=t0+k→r[k]? =some s→s.al=some p→S i=false→(∀(t:Nat) (s:Sa) (q:Nat×List Rp),r[t]? =some s→s.al≠none→s.late=some q→q.1≠i)→(∀q,s.late=some q→S q.1=false∧q.1≠i)→
  (Dw (λj=>j ==i||S j) (λj=>if j=i then b else β j) r t0).Perm (.blk b p.1 p.2::Dw S β r t0)
 | [],_,_,_,_,h,_,_,_,_=>by simp at h
 | s'::r,t0,0,s,hi,h,ha,hS,hne,hl=>by
  simp at h hi;subst h;subst hi;have e:=DB (S:=λj=>j ==i||S j) (S':=S) (β:=λj=>if j=i then b else β j) (β':=β) r (i+1) (λt s hs hn=>by
   have:i+1+t≠i:=by omega
   refine⟨by simp[this],λ_=>⟨by simp[this],λq hq=>?_⟩⟩;have:=hne (t+1) s q (by simpa using hs) hn hq;simp[this])
  have ec:Hk (λj=>j ==i||S j) s'.late p.1=p.1:=by
   unfold Hk
   cases hq:s'.late with
   | none=>rfl
   | some q=>
    obtain⟨h1,h2⟩:=hl q hq;simp[h1,h2]
  unfold Dw;rw[e,ha];simp only[hS,BEq.rfl,Qu,if_true,ec];simp
 | s'::r,t0,k+1,s,hi,h,ha,hS,hne,hl=>by
  have ih:=Kt (S:=S) (β:=β) (i:=i) (b:=b) (p:=p) r (t0+1) k s (by omega) (by simpa using h) ha hS (λt s q hs=>hne (t+1) s q (by simpa using hs)) hl;have hne0:t0≠i:=by omega
  have hne':(t0 ==i)=false:=by simpa using hne0
  unfold Dw
  cases ha':s'.al with
  | none=>exact ih
  | some q=>
   simp only[hne',Qk,Qm hne0];rw[Gp (S:=λj=>j ==i||S j) (S':=S) (λq hq=>by
    have:=hne 0 s' q rfl (by rw[ha'];exact nofun) hq;simp[this])]
   cases hS':S t0 with
   | true=>simpa using(PN _ ih).trans (List.Perm.swap _ _ _)
   | false=>simpa using ih
theorem Ks {S:Nat→Bool}{β:Nat→Nat}{i j:Nat}{p:List Rp×TypeId}{ncs:List Rp}:∀(r:List Sa) (t0 k:Nat) (s:Sa),j=t0+k→r[k]? =some s→s.al=some p→s.late=some (i,ncs)→S j=true→S i=false→(∀(t:Nat) (s:Sa) (q:Nat×List Rp),r[t]? =some s→s.al≠none→s.late=some q→t0+t≠j→q.1≠i)→(∀(t:Nat) (s:Sa),r[t]? =some s→s.al≠none→t0+t≠i)→
  ∃H',(Dw S β r t0).Perm (.blk (β j) p.1 p.2::H')∧(Dw (λj=>j ==i||S j) β r t0).Perm (.blk (β j) ncs p.2::H')
 | [],_,_,_,_,h,_,_,_,_,_,_=>by simp at h
 | s'::r,t0,0,s,hj,h,ha,hl,hSj,hSi,hne,hni=>by
  simp at h hj;subst h;subst hj;have e:=DB (S:=λx=>x ==i||S x) (S':=S) (β:=β) (β':=β) r (j+1) (λt s hs hn=>by
   have h1:=hni (t+1) s (by simpa using hs) hn;have h1':j+1+t≠i:=by omega
   refine⟨by simp[h1'],λ_=>⟨rfl,λq hq=>?_⟩⟩;have:=hne (t+1) s q (by simpa using hs) hn hq (by omega);simp[this])
  refine⟨Dw S β r (j+1),?_,?_⟩
  ·rw[CJ];rw[ha];simp[hSj,Hk,hl,hSi]
  ·rw[CJ];rw[ha,e];simp[hSj,Hk,hl]
 | s'::r,t0,k+1,s,hj,h,ha,hl,hSj,hSi,hne,hni=>by
  obtain⟨H',h1,h2⟩:=Ks (S:=S) (β:=β) (i:=i) (j:=j) (p:=p) (ncs:=ncs) r (t0+1) k s (by omega) (by simpa using h) ha hl hSj hSi (λt s q hs hn hq hx=>hne (t+1) s q (by simpa using hs) hn hq (by omega)) (λt s hs hn=>by
   have:=hni (t+1) s (by simpa using hs) hn;omega)
  cases ha':s'.al with
  | none=>exact⟨H',by rw[CJ,ha'];exact h1,by rw[CJ,ha'];exact h2⟩
  | some q=>
   have hi0:=hni 0 s' rfl (by rw[ha'];exact nofun);have hi0':(t0 ==i)=false:=by simpa using hi0
   have ec:Hk (λx=>x ==i||S x) s'.late q.1=Hk S s'.late q.1:=Gp (λq hq=>by
    have:=hne 0 s' q rfl (by rw[ha'];exact nofun) hq (by omega);simp[this])
   cases hS':S t0 with
   | true=>
    refine⟨.blk (β t0) (Hk S s'.late q.1) q.2::H',?_,?_⟩
    ·rw[CJ];rw[ha'];simpa[hS'] using(PN _ h1).trans (List.Perm.swap _ _ _)
    ·rw[CJ];rw[ha'];simp only[hi0',Qk,hS',if_true,ec];exact(PN _ h2).trans (List.Perm.swap _ _ _)
   | false=>
    refine⟨H',?_,?_⟩
    ·rw[CJ];rw[ha'];simpa[hS'] using h1
    ·rw[CJ];rw[ha'];simp only[hi0',Qk,hS'];simpa using h2
def P2 (n:Nat)(ops:List Oper)(N:Nat)(keys:List Nat)(deps:List (List Nat))(als:List Bool)(lates stos:List (Option Nat)):Bool:=
 KY ops N&&decide (N≤ops.length)&&
 (List.range N).all (λi=>match Ct ops i with
  | some d=>decide (d<n)&&!keys.contains d&&(List.range N).all (λj=>j ==i||Ct ops j !=some d)
  | none=>true)&&
 (List.range N).all (λi=>(deps.getD i []).all (λj=>decide (j<N)&&(Dd (ops.getD i default)).contains j&&!als.getD j true))&&
 (List.range N).all (λi=>match stos.getD i none with
  | some j=>decide (j<N)&&(Dd (ops.getD i default)).contains j&&als.getD j false&&!als.getD i true
  | none=>true)&&
 (List.range N).all (λj=>match lates.getD j none with
  | some k=>decide (k<N)&&als.getD j false&&stos.getD k none ==some j
  | none=>true)
def OR (P:Program)(n:Nat)(c:Cx)(opsA:Array Oper)(Q:Exit→Act→World→Prop)(l:Fr)(o:Oper)(p:List Rp×TypeId):Prop:=
 ∀H a w Z (K:Act→World→Prop),BO n l a Z→St c H Z w→(∀b w',St c (.blk b p.1 p.2::H) Z w'→K (a.put o.dst (.pointer (some ⟨b,0,none⟩))) w')→
  Region.wanted o (yielded opsA a.tmps)=true∧o.wp P a w K Q
def Oy (P:Program)(n:Nat)(c:Cx)(opsA:Array Oper)(Q:Exit→Act→World→Prop)(ops:List Oper)(sp:List Sa)(l0:Fr)(H:List Ent)(i:Nat)(o:Oper):Prop:=
 match (CX sp i).sto with
 | some j=>o.dst=none∧∃d p ncs,Ct ops j=some d∧(CX sp j).al=some p∧(CX sp j).late=some (i,ncs)∧
   ∀b H,CL P n c opsA Q ((d,rv (.pointer (some ⟨b,0,none⟩)))::Bv ops (Mo sp) (CX sp i).deps l0) (.blk b p.1 p.2::H) o (rv undef) (.blk b ncs p.2::H)
 | none=>match (CX sp i).al with
  | none=>∀E,CL P n c opsA Q (Bv ops (Mo sp) (CX sp i).deps l0) (H++E) o (CX sp i).r (H++E)
  | some p=>OR P n c opsA Q (Bv ops (Mo sp) (CX sp i).deps l0) o p
def EE (P:Program)(n:Nat)(c:Cx)(opsA:Array Oper)(Q:Exit→Act→World→Prop)(ops:List Oper)(sp:List Sa)(l0:Fr)(H:List Ent):Nat→List Oper→Prop
 | i,o::rest=>Oy P n c opsA Q ops sp l0 H i o∧EE P n c opsA Q ops sp l0 H (i+1) rest
 | _,[]=>True
section
variable {P : Program} {n : Nat} {c : Cx} {opsA : Array Oper} {Q : Exit → Act → World → Prop} {l l0 : Fr} {H : List Ent} {sp : List Sa}
theorem EE.at {ops:List Oper}:∀{k:Nat} {rest:List Oper},EE P n c opsA Q ops sp l0 H k rest→∀(t:Nat) o,rest[t]? =some o→Oy P n c opsA Q ops sp l0 H (k+t) o
 | k,o::rest,⟨h1,h2⟩,t,o',ht=>by
  cases t with
  | zero=>simp at ht;subst ht;exact h1
  | succ t=>
   have:=EE.at h2 t o' (by simpa using ht);rw[show k+(t+1)=k+1+t from by omega];exact this
 | _,[],_,t,o,h=>by simp at h
theorem L9 {β:Nat→Nat}{a:Act}{Z:Fz}(h0:BO n l0 a Z):∀(os:List Oper) (ss:List Sa) (k:Nat),(∀(t:Nat) o s d,os[t]? =some o→ss[t]? =some s→o.dst=some d→∃v,a.tmps[d]? =some v∧(GY β s (k+t)).p Z v)→BO n (Ir β os ss k l0) a Z
 | [],_,_,_=>by unfold Ir;exact h0
 | _::_,[],_,_=>by unfold Ir;exact h0
 | o::os,s::ss,k,h=>by
  have ih:=L9 h0 os ss (k+1) (λt o' s' d h1 h2 h3=>by
   have:=h (t+1) o' s' d (by simpa using h1) (by simpa using h2) h3;rw[show k+1+t=k+(t+1) from by omega];exact this)
  unfold Ir
  cases hd:o.dst with
  | none=>exact ih
  | some d=>
   refine⟨ih.size,ih.defers,λi r hi=>?_⟩;rw[Bo] at hi
   split at hi
   ·rename_i e;subst e;simp at hi;subst hi;exact h 0 o s d rfl rfl hd
   ·exact ih.tm i r hi
theorem O3 {id:Nat}{ops:List Oper}(N:Nat)(sp:List Sa)(hm:P.follows .mixedOrders=true)(hB:P2 n ops N (DP l0) (sp.map (·.deps)) (sp.map (·.al.isSome)) (sp.map (·.late.map (·.1))) (sp.map (·.sto))=true)(hl0:Og l0 l)(hsp:sp.length=N)
  (hob:EE P n c ops.toArray Q ops sp l0 H 0 (ops.take N)) (h:∀β,WL P n c ops.toArray Q (ops.drop N) (Ir β (ops.take N) sp 0 l0) (H++Mh β sp 0)):WC P n c (.region id ops.toArray true) Q l H:=by
 intro a w Z ha hw;simp only[P2,PY,Qj,List.mem_range,PQ] at hB;obtain⟨⟨⟨⟨⟨b1,bN⟩,b2⟩,b3⟩,b4⟩,b5⟩:=hB;have hget:∀i,i<N→(ops.take N)[i]? =ops[i]?:=λi hi=>by rw[Qp,if_pos hi]
 have hsa:∀i,i<N→sp[i]? =some (CX sp i):=λi hi=>by
  simp[CX,PS,PR (show i<sp.length by omega)]
 have hspq:∀i,i<N→(Ck (Mo sp) i)=⟨(CX sp i).deps,(CX sp i).r,0⟩:=λi hi=>by
  simp[Ck,Mo,PS,Qs,hsa i hi]
 have hals:∀j b,j<N→(sp.map (·.al.isSome)).getD j b=(CX sp j).al.isSome:=λj b hj=>by simp[PS,Qs,hsa j hj]
 have hstos:∀j,j<N→(sp.map (·.sto)).getD j none=(CX sp j).sto:=λj hj=>by simp[PS,Qs,hsa j hj]
 have hlates:∀j,j<N→(sp.map (·.late.map (·.1))).getD j none=(CX sp j).late.map (·.1):=λj hj=>by simp[PS,Qs,hsa j hj]
 have S1:∀i o j,i<N→ops[i]? =some o→(CX sp i).sto=some j→j<N∧j∈Dd o∧(CX sp j).al≠none∧(CX sp i).al=none:=λi o j hi ho hs=>by
  have h1:=b4 i hi;rw[hstos i hi,hs] at h1;simp only[PY,Bool.not_eq_true',PQ] at h1;obtain⟨⟨⟨h2,h3⟩,h4⟩,h5⟩:=h1;rw[hals j _ h2] at h4;rw[hals i _ hi] at h5;rw[PS,ho,Qd,List.contains_iff_mem] at h3;exact⟨h2,h3,λe=>(by rw[e] at h4;cases h4),(by simpa using h5)⟩
 have L1:∀t q,t<N→(CX sp t).late=some q→q.1<N∧(CX sp q.1).sto=some t:=λt q ht hq=>by
  have h1:=b5 t ht;rw[hlates t ht,hq] at h1;simp only[Option.map_some,PY,PQ,beq_iff_eq] at h1;obtain⟨⟨h2,h3⟩,h4⟩:=h1;rw[hstos _ h2] at h4;exact⟨h2,h4⟩
 have hops:∀j,j<N→∃o,ops[j]? =some o:=λj hj=>⟨ops[j]'(by omega),PR (by omega)⟩
 have lt_of:∀(t:Nat) (s:Sa),sp[t]? =some s→t<N∧s=CX sp t:=λt s hs=>by
  have h1:t<N:=by have:=(List.getElem?_eq_some_iff.1 hs).1;omega
  refine⟨h1,?_⟩;rw[hsa t h1] at hs;simpa using hs.symm
 have hdst:∀i o d,i<N→ops[i]? =some o→o.dst=some d→(d<n∧d ∉ DP l0)∧∀j,j<N→j≠i→Ct ops j≠some d:=λi o d hi ho hd=>by
  have h3:=b2 i hi;have:Ct ops i=some d:=by simp[Ct,ho,hd]
  rw[this] at h3;simp only[PY,Bool.not_eq_true',Qj,List.mem_range,PQ] at h3;refine⟨⟨h3.1.1,λhmem=>by rw[← List.contains_iff_mem] at hmem;rw[hmem] at h3;cases h3.1.2⟩,λj hj hne he=>?_⟩;have:=h3.2 j hj;simp[hne,he] at this
 refine O2 (N:=N) hm b1 bN (λS a w=>∃ (β:Nat→Nat) (Z:Fz),St c (H++Dw S β sp 0) Z w∧BO n l0 a Z∧(∀j o d,j<N→S j=true→ops[j]? =some o→o.dst=some d→∃v,a.tmps[d]? =some v∧(GY β (CX sp j) j).p Z v)∧
   ∀k j,k<N→(CX sp k).sto=some j→S k=true→S j=true)
  (λS S' a w hS hI=>?_) ⟨λ_=>0,Z,?_,ha.subL hl0,λj o d _ hS=>(by cases hS),λk j _ _ hS=>(by cases hS)⟩ (λS i o a w hi hun ho hb hI K hK=>?_) (λa w hI=>?_)
 ·obtain⟨β,Z,h1,h2,h3,h4⟩:=hI;refine⟨β,Z,?_,h2,λj o d hj hS'=>h3 j o d hj (by rw[hS j hj];exact hS'),λk j hk hs hSk=>?_⟩
  ·rw[← DB (S:=S) (β:=β) (β':=β) sp 0 (λt s hs _=>by
    obtain⟨ht,rfl⟩:=lt_of t s hs;exact⟨hS _ (by omega),λ_=>⟨rfl,λq hq=>hS _ (L1 t q ht hq).1⟩⟩)]
   exact h1
  ·obtain⟨o,ho⟩:=hops k hk;rw[← hS j (S1 k o j hk ho hs).1];exact h4 k j hk hs (by rw[hS k hk];exact hSk)
 ·rw[IQ,List.append_nil];exact hw.drawn _
 ·obtain⟨β,Z,h1,h2,h3,hx⟩:=hI;have hput:∀k u v,a.tmps[k]? =some u→o.dst≠some k→(a.put o.dst v).tmps[k]? =some u:=λk u v hk hne=>by
   cases hd:o.dst with
   | none=>simpa[Act.put] using hk
   | some d=>
    simp only[Act.put,Array.getElem?_setIfInBounds];rw[Qm (λe=>hne (by rw[hd,e]))];exact hk
  have hagr:∀v Z',Fz.le Z Z'→BO n l0 (a.put o.dst v) Z':=λv Z' hz=>by
   refine⟨?_,?_,λk r hk=>?_⟩
   ·cases o.dst<;>simp[Act.put,h2.size]
   ·cases o.dst<;>simp[Act.put,h2.defers]
   ·obtain⟨u,hu,hpu⟩:=h2.tm k r hk;exact⟨u,hput k u v hu (λe=>((hdst i o k hi ho e).1).2 (Ic hk)),r.mono hz hpu⟩
  have hvals:∀(v:Value) (Z':Fz) (β':Nat→Nat),Fz.le Z Z'→(∀j,j≠i→β' j=β j)→(o.dst≠none→(GY β' (CX sp i) i).p Z' v)→∀j o' d,j<N→(j ==i||S j)=true→ops[j]? =some o'→o'.dst=some d→∃u,(a.put o.dst v).tmps[d]? =some u∧(GY β' (CX sp j) j).p Z' u:=by
   intro v Z' β' hz hβ hp j o' d hj hS' ho' hd
   by_cases hji:j=i
   ·subst hji;rw[ho] at ho';simp at ho';subst ho';refine⟨v,?_,hp (by simp[hd])⟩;have hdn:d<a.tmps.size:=by rw[h2.size];exact(hdst j o d hi ho hd).1.1
    simp[Act.put,hd,hdn]
   ·have hSj:S j=true:=by simpa[hji] using hS'
    obtain⟨u,hu,hpu⟩:=h3 j o' d hj hSj ho' hd;refine⟨u,hput d u v hu (λe=>(hdst i o d hi ho e).2 j hj hji (by simp[Ct,ho',hd])),?_⟩;have:GY β' (CX sp j) j=GY β (CX sp j) j:=by unfold GY;rw[hβ j hji]
    rw[this];exact(GY β (CX sp j) j).mono hz hpu
  have hx':∀k j,k<N→(CX sp k).sto=some j→(k ==i||S k)=true→(j ==i||S j)=true:=λk j hk hs hSk=>by
   by_cases hki:k=i
   ·subst hki;have:=(hb j (S1 k o j hk ho hs).2.1).2;simp[this]
   ·have:S j=true:=hx k j hk hs (by simpa[hki] using hSk);simp[this]
  have hat:=hob.at i o (by rw[hget i hi];exact ho);rw[Qh] at hat;unfold Oy at hat;have hag':BO n (Bv ops (Mo sp) (CX sp i).deps l0) a Z:=HH h2 (λj hj d hd=>by
    have h4:=b3 i hi j (by simpa[PS,Qs,hsa i hi] using hj);simp only[PY,Bool.not_eq_true',PQ] at h4;obtain⟨⟨h5,h6⟩,h7⟩:=h4;rw[PS,ho,Qd,List.contains_iff_mem] at h6;have hjal:(CX sp j).al=none:=by
     rw[hals j _ h5] at h7;simpa using h7
    obtain⟨o2,ho2⟩:=hops j h5;obtain⟨v,hv1,hv2⟩:=h3 j o2 d h5 (hb j h6).2 ho2 (by simpa[Ct,ho2] using hd);refine⟨v,hv1,?_⟩;rw[hspq j h5];simpa[GY,hjal] using hv2)
  cases hst:(CX sp i).sto with
  | some j=>
   rw[hst] at hat;obtain⟨hod,d,p,ncs,hd,hal,hlate,hok⟩:=hat;obtain⟨hjN,hjb,_,hial⟩:=S1 i o j hi ho hst;have hSj:=(hb j hjb).2;obtain⟨H',p1,p2⟩:=Ks (S:=S) (β:=β) (i:=i) (j:=j) (p:=p) (ncs:=ncs) sp 0 j (CX sp j) (by omega) (hsa j hjN) hal hlate hSj hun (λt s q hs _ hq hne he=>by
     obtain⟨ht,rfl⟩:=lt_of t s hs;have:=(L1 t q ht hq).2;rw[he,hst] at this;simp at this;omega) (λt s hs hn he=>by
     obtain⟨ht,rfl⟩:=lt_of t s hs;rw[Qh] at he;subst he;exact hn hial)
   obtain⟨o2,ho2⟩:=hops j hjN;obtain⟨v,hv1,hv2⟩:=h3 j o2 d hjN hSj ho2 (by simpa[Ct,ho2] using hd);have hag2:BO n ((d,rv (.pointer (some ⟨β j,0,none⟩)))::Bv ops (Mo sp) (CX sp i).deps l0) a Z:=⟨hag'.size,hag'.defers,λk r hk=>by
    rw[Bo] at hk
    split at hk
    ·rename_i e;subst e;simp at hk;subst hk
     exact⟨v,hv1,by simpa[GY,hal] using hv2⟩
    ·exact hag'.tm k r hk⟩
   refine hok (β j) (H++H') a w Z K hag2 (h1.perm ((List.Perm.append_left H p1).trans List.perm_middle)) (λv w' Z' hz _ hs'=>hK _ _ ⟨β,Z',?_,hagr v Z' hz,hvals v Z' β hz (λ_ _=>rfl) (λhne=>absurd hod hne),hx'⟩);exact hs'.perm (List.perm_middle.symm.trans (List.Perm.append_left H p2.symm))
  | none=>
   rw[hst] at hat;have latene:∀t q,t<N→(CX sp t).late=some q→q.1≠i:=λt q ht hq he=>by
    have:=(L1 t q ht hq).2;rw[he,hst] at this;cases this
   cases hal:(CX sp i).al with
   | none=>
    rw[hal] at hat;refine hat _ a w Z K hag' h1 (λv w' Z' hz hp hst'=>hK _ _ ⟨β,Z',?_,hagr v Z' hz,hvals v Z' β hz (λ_ _=>rfl) (λ_=>by unfold GY;rw[hal];exact hp),hx'⟩);rw[DB (S':=S) (β':=β) sp 0 (λt s hs hn=>by
     obtain⟨ht,rfl⟩:=lt_of t s hs;have:t≠i:=λe=>by subst e;exact hn hal
     refine⟨by simp[this],λ_=>⟨rfl,λq hq=>?_⟩⟩;have:=latene t q ht hq;simp[this])]
    exact hst'
   | some p=>
    rw[hal] at hat;have key:=λK' hK'=>hat (H++Dw S β sp 0) a w Z K' hag' h1 hK';have h5:∀b w',St c (.blk b p.1 p.2::(H++Dw S β sp 0)) Z w'→K (a.put o.dst (.pointer (some ⟨b,0,none⟩))) w':=λb w' hst'=>by
     refine hK _ _ ⟨λj=>if j=i then b else β j,Z,?_,hagr _ Z (Fz.le.refl _),hvals _ Z _ (Fz.le.refl _) (λj hj=>by simp[hj]) (λ_=>by simp[GY,hal,rv]),hx'⟩;have hp:=Kt (S:=S) (β:=β) (i:=i) (b:=b) (p:=p) sp 0 i (CX sp i) (by omega) (hsa i hi) hal hun (λt s q hs _ hq=>by
      obtain⟨ht,rfl⟩:=lt_of t s hs;exact latene t q ht hq) (λq hq=>by
       refine⟨?_,latene i q hi hq⟩
       cases hS:S q.1 with
       | false=>rfl
       | true=>
        obtain⟨h6,h7⟩:=L1 i q hi hq;have:=hx q.1 i h6 h7 hS;rw[this] at hun;cases hun)
     exact hst'.perm ((List.perm_middle.symm).trans (List.Perm.append_left H hp.symm))
    refine⟨λ_=>(key K h5).2,λhw'=>?_⟩;rw[(key K h5).1] at hw';cases hw'
 ·obtain⟨β,Z,h1,h2,h3,_⟩:=hI;refine h β a w Z (L9 h2 _ _ 0 (λt o s d ht hs hd=>?_)) (by rw[← Ku];exact h1);obtain⟨htN,rfl⟩:=lt_of t s hs;rw[Qh];exact h3 t o d htN rfl (by rw[← hget t htN];exact ht) hd
end
theorem Ky {l:Fr}{P:Program}{n:Nat}{c:Cx}{opsA:Array Oper}{Q:Exit→Act→World→Prop}{d:Nat}{e:TypeId}{ty:TypeId}{pos:String}{af:Array Edge}{z:Value}{cs:List Rp}(hz:∀w,(zeroValue e).run P w = .ok z w)(hcs:z.cells.toList.map rv=cs) :
  OR P n c opsA Q l { dst:=some d,op:=.alloc e,type:=ty,pos:=pos,after:=af,guard:=none } (cs,e):=λH a w Z K _ hw hK=>by
 refine⟨by simp[Region.wanted],?_⟩;unfold Oper.wp;rw[show(execOp a.eval { dst:=some d,op:=.alloc e,type:=ty,pos:=pos,after:=af,guard:=none }).run P w = .ok (.value (.pointer (some ⟨w.heap.size,0,none⟩))) (w.alloc (.cells z.cells e)) from by simp[execOp,Instr.alloc,hz,newVar,newRow,newObj,Sem.run,Sem.run_bind]];exact hK _ _ (hw.alloc _ (e:=.blk w.heap.size cs e) ⟨z.cells.toList,by simpa using heap_alloc_new w _,by subst hcs;exact AM.rvs Z _⟩ rfl)
section
variable {P : Program} {n : Nat} {c : Cx} {opsA : Array Oper} {Q : Exit → Act → World → Prop} {l l0 : Fr} {H : List Ent} {sp : List Sa}
theorem Cb {id:Nat}{ops:List Oper}(N:Nat)(ks0:List Nat)(sp:List Sa)(hob:EE P n c ops.toArray Q ops sp l0 H 0 (ops.take N))(h:∀β,WL P n c ops.toArray Q (ops.drop N) (Ir β (ops.take N) sp 0 l0) (H++Mh β sp 0))
  (h0:Kp ks0 l l0:=by repeat (first | exact Me | (apply J0;rfl) | (apply Ko;rfl))) (hm:P.follows .mixedOrders=true:=by kernel_rfl) (hB:P2 n ops N (DP l0) (sp.map (·.deps)) (sp.map (·.al.isSome)) (sp.map (·.late.map (·.1))) (sp.map (·.sto))=true:=by kernel_rfl)
  (hsp:sp.length=N:=by rfl):WC P n c (.region id ops.toArray true) Q l H:=O3 N sp hm hB h0.one hsp hob h
theorem Cm {all rest:List Oper}{d:Nat}{op:Op}{ty:TypeId}{pos:String}{af:Array Edge}{i:Nat}
  (hr:∀{H},Bd P n c (Bv all (Mo sp) (CX sp i).deps l0) H { dst:=some d,op:=op,type:=ty,pos:=pos,after:=af,guard:=none } (CX sp i).r) (h:EE P n c opsA Q all sp l0 H (i+1) rest) (ha:(CX sp i).al=none:=by rfl) (hs:(CX sp i).sto=none:=by rfl) :
  EE P n c opsA Q all sp l0 H i ({ dst:=some d,op:=op,type:=ty,pos:=pos,after:=af,guard:=none }::rest):=by
 refine⟨?_,h⟩;unfold Oy;rw[hs,ha];exact λ_=>GD hr
theorem HS {all rest:List Oper}{d:Nat}{op:Op}{ty:TypeId}{pos:String}{af:Array Edge}{i:Nat}
  (hr:∀{E},Bd P n c (Bv all (Mo sp) (CX sp i).deps l0) (H++E) { dst:=some d,op:=op,type:=ty,pos:=pos,after:=af,guard:=none } (CX sp i).r) (h:EE P n c opsA Q all sp l0 H (i+1) rest) (ha:(CX sp i).al=none:=by rfl) (hs:(CX sp i).sto=none:=by rfl) :
  EE P n c opsA Q all sp l0 H i ({ dst:=some d,op:=op,type:=ty,pos:=pos,after:=af,guard:=none }::rest):=by
 refine⟨?_,h⟩;unfold Oy;rw[hs,ha];exact λ_=>GD hr
theorem OV {all rest:List Oper}{o:Oper}{p:List Rp×TypeId}{i:Nat}(hr:OR P n c opsA Q (Bv all (Mo sp) (CX sp i).deps l0) o p)(h:EE P n c opsA Q all sp l0 H (i+1) rest)(ha:(CX sp i).al=some p:=by rfl)(hs:(CX sp i).sto=none:=by rfl):EE P n c opsA Q all sp l0 H i (o::rest):=by
 refine⟨?_,h⟩;unfold Oy;rw[hs,ha];exact hr
theorem PH {all rest:List Oper}{op:Op}{ty:TypeId}{pos:String}{af:Array Edge}{g:Option (Nat×Bool)}{i j d:Nat}{p:List Rp×TypeId}{ncs:List Rp}
  (hr:∀{b H},CL P n c opsA Q ((d,rv (.pointer (some ⟨b,0,none⟩)))::Bv all (Mo sp) (CX sp i).deps l0) (.blk b p.1 p.2::H) { dst:=none,op:=op,type:=ty,pos:=pos,after:=af,guard:=g } (rv undef) (.blk b ncs p.2::H))
  (h:EE P n c opsA Q all sp l0 H (i+1) rest) (hs:(CX sp i).sto=some j:=by rfl) (hd:Ct all j=some d:=by rfl) (ha:(CX sp j).al=some p:=by rfl) (hl:(CX sp j).late=some (i,ncs):=by rfl) :
  EE P n c opsA Q all sp l0 H i ({ dst:=none,op:=op,type:=ty,pos:=pos,after:=af,guard:=g }::rest):=by
 refine⟨?_,h⟩;unfold Oy;rw[hs];exact⟨rfl,d,p,ncs,hd,ha,hl,λ_ _=>hr⟩
theorem Lp {all:List Oper}{i:Nat}:EE P n c opsA Q all sp l0 H i []:=trivial
end
structure Nv (ks:List Nat) (β:Nat→Nat) (os:List Oper) (sp:List Sa) (i:Nat) (l0 l1:Fr):Prop where
 go:Kp ks (Ir β os sp i l0) l1
section
variable {ks : List Nat} {β : Nat → Nat} {os : List Oper} {sp : List Sa} {i d : Nat} {l0 l1 : Fr} {ds : List Nat} {r : Rp} {p : List Rp × TypeId} {lt : Option (Nat × List Rp)} {so : Option Nat} {op : Op} {ty : TypeId} {pos : String} {af : Array Edge} {g : Option (Nat × Bool)}
theorem OY (h:ks.contains d=true)(t:Nv ks β os sp (i+1) l0 l1):Nv ks β ({ dst:=some d,op:=op,type:=ty,pos:=pos,after:=af,guard:=g }::os) ({ deps:=ds,r:=r,sto:=so }::sp) i l0 ((d,r)::l1):=⟨J0 h t.go⟩
theorem Pb (h:ks.contains d=true)(t:Nv ks β os sp (i+1) l0 l1):Nv ks β ({ dst:=some d,op:=op,type:=ty,pos:=pos,after:=af,guard:=g }::os) ({ deps:=ds,r:=r,al:=some p,late:=lt,sto:=so }::sp) i l0 ((d,rv (.pointer (some ⟨β i,0,none⟩)))::l1):=⟨J0 h t.go⟩
theorem Pa {s:Sa}(h:ks.contains d=false)(t:Nv ks β os sp (i+1) l0 l1):Nv ks β ({ dst:=some d,op:=op,type:=ty,pos:=pos,after:=af,guard:=g }::os) (s::sp) i l0 l1:=⟨Ko h t.go⟩
theorem OZ {s:Sa}(t:Nv ks β os sp (i+1) l0 l1):Nv ks β ({ dst:=none,op:=op,type:=ty,pos:=pos,after:=af,guard:=g }::os) (s::sp) i l0 l1:=⟨t.go⟩
theorem Pc (t:Kp ks l0 l1):Nv ks β [] [] i l0 l1:=⟨t⟩
theorem CN {P:Program}{n:Nat}{c:Cx}{opsA:Array Oper}{Q:Exit→Act→World→Prop}{rest:List Oper}{H H1:List Ent}(ks:List Nat)(h:WL P n c opsA Q rest l1 H1)
  (hz:Nv ks β os sp i l0 l1:=by repeat (first | (apply OY;rfl) | (apply Pb;rfl) | (apply Pa;rfl) | apply OZ | apply Pc | exact Me | (apply J0;rfl) | (apply Ko;rfl))) (hH:H=H1:=by rfl) :
  WL P n c opsA Q rest (Ir β os sp i l0) H:=λa w Z ha hw=>h a w Z (ha.subL hz.go.one) (hH▸hw)
end
section
variable {P : Program} {n : Nat} {c : Cx} {opsA : Array Oper} {Q : Exit → Act → World → Prop} {l l0 : Fr} {H : List Ent} {sp : List Sa}
theorem KD {all rest:List Oper}{o:Oper}{i:Nat}(hr:∀{E},CL P n c opsA Q (Bv all (Mo sp) (CX sp i).deps l0) (H++E) o (CX sp i).r (H++E))(h:EE P n c opsA Q all sp l0 H (i+1) rest)(ha:(CX sp i).al=none:=by rfl)(hs:(CX sp i).sto=none:=by rfl):EE P n c opsA Q all sp l0 H i (o::rest):=by
 refine⟨?_,h⟩;unfold Oy;rw[hs,ha];exact λ_=>hr
end
section
variable {P : Program} {n : Nat} {c : Cx} {opsA : Array Oper} {Q : Exit → Act → World → Prop} {l : Fr} {H : List Ent} {d : Nat} {ty : TypeId} {pos : String} {af : Array Edge}
end
section
variable {P : Program} {n : Nat} {c : Cx} {ops : Array Oper} {Q : Exit → Act → World → Prop} {rest : List Oper} {l : Fr} {H H' : List Ent} {d : Nat} {d' : Option Nat} {x y z3 : Operand} {ty t t' e : TypeId} {pos : String} {af : Array Edge} {g : Option (Nat × Bool)} {v u : Value} {r : Rp} {sz : Nat}
end
def PB (p:Bool→Prop):Rp:=⟨λ_ v=>∃b,v = .bool b∧p b,λ_ h=>h,true,λ_ Z v ⟨b,e,_⟩=>by rw[e];rfl⟩
section
variable {P : Program} {n : Nat} {c : Cx} {ops : Array Oper} {Q : Exit → Act → World → Prop} {rest : List Oper} {l : Fr} {H : List Ent} {d : Option Nat} {ty rty t e : TypeId} {pos : String} {af : Array Edge} {g : Option (Nat × Bool)} {r : Rp} {x : Operand} {cx cy : Code} {sz : Nat} {xs : List (List Rp)}
theorem M1 {o:Operand}{p:Bool→Prop}(ho:ev l o=some (PB p))(h1:p true→WC P n c cx Q l H)(h2:p false→WC P n c cy Q l H):WC P n c (.cond o cx cy) Q l H:=λa w Z ha hw=>by
 obtain⟨b,e,hp⟩:=ha.ev ho;exact wp_cond_split e (λe=>h1 (e▸hp) a w Z ha hw) (λe=>h2 (e▸hp) a w Z ha hw)
theorem LV (ht:P.underlying t=some (.slice e))(h:ev l x=some (AH sz xs)):Bd P n c l H { dst:=d,op:=.binOp .eql t x (.const (.slice none 0 0)) rty,type:=ty,pos:=pos,after:=af,guard:=g } (PB (λb=>b=true→xs=[])):=λa w Z ha hw=>by
 obtain⟨A,cap,e1,h1,h2,h3,h4⟩:=ha.ev h;refine⟨.bool A.isNone,⟨_,rfl,λhb=>?_⟩,?_⟩
 ·cases A with
  | some a=>cases hb
  | none=>
   have:=h3 rfl;exact List.length_eq_zero_iff.1 (by omega)
 ·have:=run_equal_slice_nil (P:=P) w t e A xs.length cap ht;have e2:a.eval (.const (.slice none 0 0)) = .slice none 0 0:=rfl;simp[execOp,e1,e2,binOp,this,eqGuard]
end
section
variable {P : Program} {n : Nat} {c : Cx} {Q : Exit → Act → World → Prop} {l : Fr} {H : List Ent} {x rest' : Code} {K : Act → World → Prop}
end
section
variable {P : Program} {n : Nat} {c : Cx} {ops : Array Oper} {Q : Exit → Act → World → Prop} {rest : List Oper} {l : Fr} {H H' : List Ent} {d : Nat} {d' : Option Nat} {x y z3 z4 : Operand} {ty t t' e : TypeId} {pos : String} {af : Array Edge} {g : Option (Nat × Bool)} {v u : Value} {r : Rp} {sz : Nat}
end
structure Sx (U:Type) where
 deps:List Nat
 r:U→Rp
 dyn:Bool:=false
 old:List Nat:=[]
def Mn {U:Type}(sp:List (Sx U))(i:Nat):Sx U:=sp.getD i { deps:=[],r:=λ_=>rv undef }
def Pr {U:Type}(sp:List (Sx U))(u:U):List Sp:=sp.map λs=>⟨s.deps,s.r u,0⟩
def Oh {U:Type}:List (Sx U)→Prop
 | []=>True
 | s::r=>(s.dyn=false→∀u u',s.r u=s.r u')∧Oh r
theorem Oh.at {U:Type}:∀{sp:List (Sx U)},Oh sp→∀{i:Nat} {s:Sx U},sp[i]? =some s→s.dyn=false→∀u u',s.r u=s.r u'
 | [],_,i,s,h=>by simp at h
 | x::sp,⟨h1,h2⟩,0,s,h=>by simp at h;subst h;exact h1
 | x::sp,⟨h1,h2⟩,i+1,s,h=>Oh.at h2 (by simpa using h)
def GC (lw:Fr):List Nat→Fr→Fr
 | [],l=>l
 | d::r,l=>match look lw d with
  | some q=>(d,q)::GC lw r l
  | none=>GC lw r l
section
variable (P : Program) (n : Nat) (c : Cx) (opsA : Array Oper) (Q : Exit → Act → World → Prop)
def PD {U:Type}(l:Fr)(H:List Ent)(o:Oper)(r:U→Rp)(H1:U→List Ent):Prop:=
 ∀a w Z (K:Act→World→Prop),BO n l a Z→St c H Z w→(∀u v w' Z',Fz.le Z Z'→(r u).p Z' v→St c (H1 u) Z' w'→K (a.put o.dst v) w')→
  Region.wanted o (yielded opsA a.tmps)=true∧o.wp P a w K Q
def Ol {U:Type}(ops:List Oper)(sp:List (Sx U))(l0 lw:Fr)(i0:Nat)(H:List Ent)(H1:U→List Ent):Nat→List Oper→Prop
 | i,o::rest=>(if i=i0 then(∀u,PD P n c opsA Q (GC lw (Mn sp i).old (Bv ops (Pr sp u) (Mn sp i).deps l0)) H o (Mn sp i).r H1) else ∀u H',(H'=H∨H'=H1 u)→CL P n c opsA Q (GC lw (Mn sp i).old (Bv ops (Pr sp u) (Mn sp i).deps l0)) H' o ((Mn sp i).r u) H')∧Ol ops sp l0 lw i0 H H1 (i+1) rest
 | _,[]=>True
end
section
variable {P : Program} {n : Nat} {c : Cx} {opsA : Array Oper} {Q : Exit → Act → World → Prop} {l l0 lw : Fr} {U : Type} {H : List Ent} {H1 : U → List Ent} {sp : List (Sx U)} {i0 : Nat}
theorem Ol.at {ops:List Oper}:∀{k:Nat} {rest:List Oper},Ol P n c opsA Q ops sp l0 lw i0 H H1 k rest→∀(t:Nat) o,rest[t]? =some o→
  (if k+t=i0 then(∀u,PD P n c opsA Q (GC lw (Mn sp (k+t)).old (Bv ops (Pr sp u) (Mn sp (k+t)).deps l0)) H o (Mn sp (k+t)).r H1) else ∀u H',(H'=H∨H'=H1 u)→CL P n c opsA Q (GC lw (Mn sp (k+t)).old (Bv ops (Pr sp u) (Mn sp (k+t)).deps l0)) H' o ((Mn sp (k+t)).r u) H')
 | k,o::rest,⟨h1,h2⟩,t,o',ht=>by
  cases t with
  | zero=>simp at ht;subst ht;exact h1
  | succ t=>
   have:=Ol.at h2 t o' (by simpa using ht);rw[show k+(t+1)=k+1+t from by omega];exact this
 | _,[],_,t,o,h=>by simp at h
end
section
variable {P : Program} {n : Nat} {c : Cx} {opsA : Array Oper} {Q : Exit → Act → World → Prop} {l : Fr} {H : List Ent} {d : Nat} {x y : Operand} {ty t e : TypeId} {pos : String} {af : Array Edge} {v : Value} {sz : Nat}
end
set_option maxRecDepth 100000
set_option maxHeartbeats 4000000
end Go.Proofs.YtfbmdidnlhifjaaGreatDoor.Q
namespace Go.Proofs.YtfbmdidnlhifjaaGreatDoor
open Go
set_option linter.unusedVariables false
set_option linter.unusedSimpArgs false
section
variable {T S : Type}
def Dj:List (Ao×T)→Ao→Option T
 | [],_=>none
 | p::r,k=>bif decide (p.1=k) then some p.2 else Dj r k
def At (xs:List (Ao×T))(k:Ao)(z:T):T:=(Dj xs k).getD z
def Bw (xs:List (Ao×T))(k:Ao):Bool:=(Dj xs k).isSome
def Kj (k:Ao)(v:T):List (Ao×T)→List (Ao×T)
 | []=>[(k,v)]
 | p::r=>bif CY k p.1 then(k,v)::p::r else p::Kj k v r
def Hh (xs:List (Ao×T))(k:Ao)(v:T):List (Ao×T):=xs.map λp=>bif decide (p.1=k) then(k,v) else p
def AP (xs:List (Ao×T))(k:Ao)(v:T):List (Ao×T):=bif Bw xs k then Hh xs k v else Kj k v xs
def A5 (f:T→S)(xs:List (Ao×T)):List (Ao×S):=xs.map λp=>(p.1,f p.2)
theorem E7 (f:T→S):∀(xs:List (Ao×T)) (k:Ao),Dj (A5 f xs) k=(Dj xs k).map f
 | [],k=>rfl
 | p::r,k=>by
  show(bif decide (p.1=k) then some (f p.2) else Dj (A5 f r) k)=_;rw[Dj,E7 f r k]
  cases decide (p.1=k)<;>rfl
theorem Na (f:T→S)(xs:List (Ao×T))(k:Ao):Bw (A5 f xs) k=Bw xs k:=by
 unfold Bw;rw[E7];cases Dj xs k<;>rfl
theorem Ki (f:T→S)(k:Ao)(v:T):∀xs:List (Ao×T),A5 f (Kj k v xs)=Kj k (f v) (A5 f xs)
 | []=>rfl
 | p::r=>by
  show A5 f (bif CY k p.1 then(k,v)::p::r else p::Kj k v r)=(bif CY k p.1 then(k,f v)::(p.1,f p.2)::A5 f r else(p.1,f p.2)::Kj k (f v) (A5 f r));rw[← Ki f k v r]
  cases CY k p.1<;>rfl
theorem MZ (f:T→S)(xs:List (Ao×T))(k:Ao)(v:T):A5 f (AP xs k v)=AP (A5 f xs) k (f v):=by
 unfold AP;rw[Na]
 cases Bw xs k with
 | false=>exact Ki f k v xs
 | true=>
  show A5 f (Hh xs k v)=Hh (A5 f xs) k (f v);unfold A5 Hh;rw[Qt,Qt];refine List.map_congr_left λp _=>?_;show _=(bif decide (p.1=k) then(k,f v) else(p.1,f p.2));simp only[Function.comp]
  cases decide (p.1=k)<;>rfl
theorem E8 (f:T→S)(xs:List (Ao×T)):(A5 f xs).length=xs.length:=by simp[A5]
theorem IL (k:Ao)(v:T):∀xs:List (Ao×T),(Kj k v xs).Perm ((k,v)::xs)
 | []=>PO _
 | p::r=>by
  rw[Kj]
  cases CY k p.1 with
  | true=>exact PO _
  | false=>exact((IL k v r).cons p).trans (List.Perm.swap _ _ _)
end
structure A3 where
 fEntity:Ao
 fID:Ao
 fOp:Ao
 fArgs:(List (List Ac))
 deriving DecidableEq,Inhabited
structure A8 where
 fErr:Int
 fValue:(List Ac)
 deriving DecidableEq,Inhabited
structure As where
 fOp:A3
 fAnswer:A8
 fFrom:Int
 fTo:Int
 deriving DecidableEq,Inhabited
def CT (ys:(List Ac)):Option ((List Ac)):=
 Bn (Mf 40 (([]:List Ac).length+ys.length))<|some (([]:List Ac)++ys)
def KQ (op:Ao):Option (Int×Bool):=
 some (At (AP (AP (AP (AP ([]:List (Ao×Int)) ([114,101,97,100]:Ao) 0) ([119,114,105,116,101]:Ao) 1) ([97,100,100]:Ao) 1) ([99,97,115]:Ao) 2) op 0,Bw (AP (AP (AP (AP ([]:List (Ao×Int)) ([114,101,97,100]:Ao) 0) ([119,114,105,116,101]:Ao) 1) ([97,100,100]:Ao) 1) ([99,97,115]:Ao) 2) op)
def EO (F:Nat)(op:A3)(ha:Int):Option (Stp (Int) (Out (Int) (Unit))):=
 B0 (decide (ha<(op.fArgs.length:Int))) (Bn (BV ha (op.fArgs.length:Int))<|B6 (Je F (Aj op.fArgs ha)) λhb=>B0 (!decide (hb=0)) (some (.out (.ret hb))) (Bn (Cr .i64 (ha+1))<|some (.next (ha+1)))) (some (.out (.go ())))
def EN :Option (Int):=
 some 0
def Jv (F:Nat)(op:A3):Option (Int):=
 B6 (KQ op.fOp) λr2=>B0 (((!(Lw op.fEntity))||((!(Lw op.fID))||(!r2.2)))) (some 4) (B0 (!decide ((op.fArgs.length:Int)=r2.1)) (some 7) (B6 (CB (λσ=>EO F op σ) F 0) (Cf λν=>EN )))
def Hg (state:(List Ac))(args:(List (List Ac))):Option ((List Ac)×A8):=
 B6 (CT state) λr2=>some (state,(A8.mk 0 r2))
def Gn (state:(List Ac))(args:(List (List Ac))):Option ((List Ac)×A8):=
 Bn (BV 0 (args.length:Int))<|B6 (CT (Aj args 0)) λr4=>B6 (HN) λr7=>some (r4,(A8.mk 0 r7))
def HZ (F:Nat)(state:(List Ac))(args:(List (List Ac))):Option ((List Ac)×A8):=
 Bn (BV 0 (args.length:Int))<|B6 (M4 F state (Aj args 0)) λr4=>B0 (!r4) (B6 (Lg false) λr9=>some (state,(A8.mk 0 r9))) (Bn (BV 1 (args.length:Int))<|B6 (CT (Aj args 1)) λha=>B6 (Lg true) λhb=>some (ha,(A8.mk 0 hb)))
def DJ (n:(List Int))(ha:Int):Option (Stp (Int) (Out (Bool) (Unit))):=
 B0 (decide (ha<(n.length:Int))) (Bn (BV ha (n.length:Int))<|B6 (Be (Aj n ha)) λhb=>B0 (!hb) (some (.out (.ret false))) (Bn (Cr .i64 (ha+1))<|some (.next (ha+1)))) (some (.out (.go ())))
def DI :Option (Bool):=
 some true
def HT (F:Nat)(n:(List Int)):Option (Bool):=
 B6 (CB (λσ=>DJ n σ) F 0) (Cf λν=>DI )
def He (n:Int):Option (Int×Int):=
 B6 (Be n) λr1=>B0 (!r1) (some (0,8)) (some (n,0))
def Jq (F:Nat)(a:Int)(b:Int):Option (Int×Int):=
 B6 (HT F ([a,b]:List Int)) λr2=>B0 (!r2) (some (0,2)) (Bn (Cr .i64 (a+b))<|B6 (He (a+b)) λha=>some (ha.1,ha.2))
def KR (F:Nat)(state:(List Ac))(args:(List (List Ac))):Option ((List Ac)×A8):=
 Bn (BV 0 (state.length:Int))<|B0 (decide (((Aj state 0).fKind)=3)) (Bn (BV 0 (args.length:Int))<|Bn (BV 0 ((Aj args 0).length:Int))<|B0 (!decide (((Aj (Aj args 0) 0).fKind)=3)) (some (state,(A8.mk 7 ([]:List Ac)))) (B6 (Jq F ((Aj state 0).fInt) ((Aj (Aj args 0) 0).fInt)) λha=>B0 (!decide (ha.2=0)) (some (state,(A8.mk ha.2 ([]:List Ac)))) (B6 (CT ([(Ac.mk 3 ha.1 ([]:Ao) 0)]:List Ac)) λhd=>some (([(Ac.mk 3 ha.1 ([]:Ao) 0)]:List Ac),(A8.mk 0 hd))))) (B0 (decide (((Aj state 0).fKind)=1)) (Bn (BV 0 (args.length:Int))<|Bn (BV 0 ((Aj args 0).length:Int))<|B0 (!decide (((Aj (Aj args 0) 0).fKind)=3)) (some (state,(A8.mk 7 ([]:List Ac)))) (B6 (Jq F 0 ((Aj (Aj args 0) 0).fInt)) λhb=>B0 (!decide (hb.2=0)) (some (state,(A8.mk hb.2 ([]:List Ac)))) (B6 (CT ([(Ac.mk 3 hb.1 ([]:Ao) 0)]:List Ac)) λhe=>some (([(Ac.mk 3 hb.1 ([]:Ao) 0)]:List Ac),(A8.mk 0 he))))) (some (state,(A8.mk 7 ([]:List Ac)))))
def MR :Option ((List (Ao×Nat))):=
 some (AP (AP (AP (AP ([]:List (Ao×Nat)) ([114,101,97,100]:Ao) 57) ([119,114,105,116,101]:Ao) 58) ([97,100,100]:Ao) 59) ([99,97,115]:Ao) 60)
def P3 (F:Nat)(state:(List Ac))(op:A3):Option ((List Ac)×A8×Int):=
 B6 (Jv F op) λr3=>B0 (!decide (r3=0)) (some (([]:List Ac),(A8.mk 0 ([]:List Ac)),r3)) (B6 (Je F state) λr9=>B0 (!decide (r9=0)) (some (([]:List Ac),(A8.mk 0 ([]:List Ac)),r9)) (B0 (decide (op.fOp=([114,101,97,100]:Ao))) (B6 (CT state) λhf=>B6 (Hg hf op.fArgs) λha=>some (ha.1,ha.2,0)) (B0 (decide (op.fOp=([119,114,105,116,101]:Ao))) (B6 (CT state) λhg=>B6 (Gn hg op.fArgs) λhb=>some (hb.1,hb.2,0)) (B0 (decide (op.fOp=([97,100,100]:Ao))) (B6 (CT state) λhh=>B6 (KR F hh op.fArgs) λhd=>some (hd.1,hd.2,0)) (Bn (decide (op.fOp=([99,97,115]:Ao)))<|B6 (CT state) λhi=>B6 (HZ F hi op.fArgs) λhe=>some (he.1,he.2,0))))))
def EM (op:A3)(ha:Int)(hb:(List (List Ac))):Option (Stp (Int×(List (List Ac))) (Out (A3) ((List (List Ac))))):=
 B0 (decide (ha<(op.fArgs.length:Int))) (Bn (BV ha (op.fArgs.length:Int))<|B6 (CT (Aj op.fArgs ha)) λhd=>Bn (Mf 24 (hb.length+([hd]:List (List Ac)).length))<|Bn (Cr .i64 (ha+1))<|some (.next (ha+1,hb++([hd]:List (List Ac))))) (some (.out (.go hb)))
def EL (op:A3)(ha:(List (List Ac))):Option (A3):=
 some (A3.mk op.fEntity op.fID op.fOp ha)
def Ib (F:Nat)(op:A3):Option (A3):=
 B6 (CB (λσ=>EM op σ.1 σ.2) F (0,([]:List (List Ac)))) (Cf λν=>EL op ν)
def HF (F:Nat)(c:As):Option (As):=
 B6 (Ib F c.fOp) λr3=>B6 (CT c.fAnswer.fValue) λr6=>some (As.mk r3 (A8.mk c.fAnswer.fErr r6) c.fFrom c.fTo)
def KN (F:Nat)(x:(List Ac))(y:(List Ac)):Option (Bool):=
 B6 (Ec F x y) λr1=>some r1
def EX (F:Nat)(a:(List (List Ac)))(b:(List (List Ac)))(ha:Int):Option (Stp (Int) (Out (Bool) (Unit))):=
 B0 (decide (ha<(a.length:Int))) (Bn (BV ha (a.length:Int))<|Bn (BV ha (b.length:Int))<|B6 (KN F (Aj a ha) (Aj b ha)) λhb=>B0 (!hb) (some (.out (.ret false))) (Bn (Cr .i64 (ha+1))<|some (.next (ha+1)))) (some (.out (.go ())))
def EW :Option (Bool):=
 some true
def Hi (F:Nat)(a:(List (List Ac)))(b:(List (List Ac))):Option (Bool):=
 B0 (!decide ((a.length:Int)=(b.length:Int))) (some false) (B6 (CB (λσ=>EX F a b σ) F 0) (Cf λν=>EW ))
def MU (F:Nat)(a:A3)(b:A3):Option (Bool):=
 Bn (imp (decide (a.fEntity=b.fEntity)) (imp (decide (a.fID=b.fID)) (imp (decide (a.fOp=b.fOp)) ((Hi F a.fArgs b.fArgs).isSome))))<|some ((decide (a.fEntity=b.fEntity))&&((decide (a.fID=b.fID))&&((decide (a.fOp=b.fOp))&&(ov (Hi F a.fArgs b.fArgs)))))
end Go.Proofs.YtfbmdidnlhifjaaGreatDoor
namespace Go.Proofs.YtfbmdidnlhifjaaGreatDoor.Q
open Go Go.RowKit
set_option linter.unusedVariables false
section
variable {P : Program} {n : Nat} {c : Cx} {l : Fr} {H : List Ent} {d : Option Nat} {ty rty t e : TypeId} {pos : String} {af : Array Edge} {g : Option (Nat × Bool)} {x : Operand} {sz : Nat}
end
set_option linter.unusedSimpArgs false
theorem Dc (s:ByteArray):MapKept.IsKey .string (.string s):=by simp[MapKept.IsKey]
theorem Gv.keys {Z:Fz}:∀{f:List (List UInt8×Rp)} {es:List MapEntry},Gv Z f es→∀x∈es,MapKept.IsKey .string x.key
 | [],[],_,x,hx=>by cases hx
 | p::f,e::es,⟨⟨h1,h2⟩,h3⟩,x,hx=>by
  rcases List.mem_cons.1 hx with rfl | hx
  ·rw[h1];exact Dc _
  ·exact Gv.keys h3 x hx
theorem Gv.at {Z:Fz}:∀{f:List (List UInt8×Rp)} {es:List MapEntry},Gv Z f es→f.length=es.length∧∀(j:Nat) (e:MapEntry),es[j]? =some e→∃k r,f[j]? =some (k,r)∧e.key = .string (B k)∧r.p Z e.val
 | [],[],_=>⟨rfl,λj e h=>by simp at h⟩
 | p::f,e::es,⟨⟨h1,h2⟩,h3⟩=>by
  obtain⟨hl,ha⟩:=Gv.at h3;refine⟨by simp[hl],λj e' hj=>?_⟩
  cases j with
  | zero=>simp at hj;subst hj;exact⟨p.1,p.2,rfl,h1,h2⟩
  | succ j=>simp at hj;simpa using ha j e' hj
theorem Gv.of {Z:Fz}:∀{f:List (List UInt8×Rp)} {es:List MapEntry},f.length=es.length→(∀(j:Nat) (e:MapEntry),es[j]? =some e→∃k r,f[j]? =some (k,r)∧e.key = .string (B k)∧r.p Z e.val)→Gv Z f es
 | [],[],_,_=>trivial
 | p::f,e::es,hl,h=>by
  obtain⟨k,r,h1,h2,h3⟩:=h 0 e rfl;simp at h1;subst h1;exact⟨⟨h2,h3⟩,Gv.of (by simpa using hl) λj e' hj=>by simpa using h (j+1) e' (by simpa using hj)⟩
 | [],_::_,hl,_=>by simp at hl
 | _::_,[],hl,_=>by simp at hl
theorem Gv.snoc {Z:Fz}{k:List UInt8}{r:Rp}{e:MapEntry}(h1:e.key = .string (B k))(h2:r.p Z e.val):∀{f:List (List UInt8×Rp)} {es:List MapEntry},Gv Z f es→Gv Z (f++[(k,r)]) (es++[e])
 | [],[],_=>⟨⟨h1,h2⟩,trivial⟩
 | p::f,e'::es,⟨h,h3⟩=>⟨h,Gv.snoc h1 h2 h3⟩
theorem Gv.filter {Z:Fz}(q:MapEntry→Bool):∀{f:List (List UInt8×Rp)} {es:List MapEntry},Gv Z f es→∃g,Gv Z g (es.filter q)∧g.Sublist f
 | [],[],_=>⟨[],trivial,List.Sublist.refl _⟩
 | p::f,e::es,⟨h,h3⟩=>by
  obtain⟨g,hg,hs⟩:=Gv.filter q h3
  cases hq:q e with
  | true=>exact⟨p::g,by rw[List.filter_cons_of_pos hq];exact⟨h,hg⟩,hs.cons_cons p⟩
  | false=>exact⟨g,by rw[List.filter_cons_of_neg (by simp[hq])];exact hg,hs.cons p⟩
theorem Kk {T:Type}:∀{m:List (Ao×T)} {k:Ao} {r:T},(m.map (·.1)).Nodup→(k,r)∈m→Dj m k=some r
 | p::m,k,r,hn,h=>by
  rw[Qr,List.nodup_cons] at hn;rw[Dj];rcases List.mem_cons.1 h with h | h
  ·subst h;rw[Qf rfl];rfl
  ·have hne : ¬ p.1=k:=λe=>hn.1 (by rw[e];exact List.mem_map.2 ⟨(k,r),h,rfl⟩);rw[PZ hne];exact Kk hn.2 h
theorem IM {T:Type}:∀{m:List (Ao×T)} {k:Ao},(∀p∈m,p.1≠k)→Dj m k=none
 | [],_,_=>rfl
 | p::m,k,h=>by
  rw[Dj,PZ (h p (by simp))];exact IM λq hq=>h q (by simp[hq])
theorem Pp {a b:List UInt8}(h:B a=B b):a=b:=by
 have:=congrArg ByteArray.toList h
 rwa [CU,CU] at this
theorem JO {a b:List UInt8}(h:Value.string (B a) = .string (B b)):a=b:=Pp (by cases h;rfl)
theorem J2 {Z:Fz}{m:List (List UInt8×Rp)}{es:List MapEntry}{ck:Nat}(h:Dl Z m es ck)(k:List UInt8) :
  (Instr.findNow .string (.string (B k)) es 0=some none∧Dj m k=none∧∀p∈m,p.1≠k)∨∃j e r,Instr.findNow .string (.string (B k)) es 0=some (some (j,e.val))∧es[j]? =some e∧e.key = .string (B k)∧Dj m k=some r∧r.p Z e.val:=by
 obtain⟨h1,h2,h3,f,h4,h5⟩:=h;obtain⟨hl,ha⟩:=h5.at;rcases MapKept.findNow_spec (Dc (B k)) es 0 h5.keys with⟨q1,q2⟩ | ⟨j,e,q1,q2,q3⟩
 ·have hne:∀p∈m,p.1≠k:=λp hp e=>by
   obtain⟨j,hj⟩:=List.mem_iff_getElem?.1 (h4.symm.subset hp);have hjl:j<es.length:=by rw[← hl];exact(List.getElem?_eq_some_iff.1 hj).1
   obtain⟨k',r',e1,e2,_⟩:=ha j es[j] (PR hjl);rw[hj] at e1;cases e1;exact q2 es[j] (List.getElem_mem hjl) (by rw[e2,← e])
  exact .inl ⟨q1,IM hne,hne⟩
 ·obtain⟨k',r,e1,e2,e3⟩:=ha j e q2;rw[q3] at e2;obtain rfl:=JO e2;exact .inr ⟨j,e,r,by simpa using q1,q2,q3,Kk h1 (h4.subset (PU e1)),e3⟩
section
variable {P : Program} {n : Nat} {c : Cx} {ops : Array Oper} {Q : Exit → Act → World → Prop} {rest : List Oper} {l : Fr} {H : List Ent} {d : Nat} {d' : Option Nat} {ty t kt et rty : TypeId} {pos : String} {af : Array Edge} {g : Option (Nat × Bool)} {x y u : Operand} {K : Act → World → Prop} {cx : Code}
variable {T : Type} {enc : T → Rp} {xs : List (Ao × T)} {z : T} {k : Ao} {zv : Value} {i b : Nat}
theorem Ix {Z:Fz}{w:World}{m:List (List UInt8×Rp)}{rz:Rp}(ht:P.underlying t=some (.map kt et))(hk:P.underlying kt=some .string)(hz:∀w,(zeroValue et).run P w = .ok zv w)(hzr:rz.p Z zv)(hm:(Ent.map b m).holds Z w)(ok:Bool) :
  ∃v,((Dj m k).getD rz).p Z v∧(Instr.lookup t (.map (some b)) (.string (B k)) ok).run P w = .ok (if ok then .tuple #[v,.bool (Dj m k).isSome] else v) w:=by
 obtain⟨es,ck,h1,h2⟩:=hm;rcases J2 h2 k with⟨q1,q2,_⟩ | ⟨j,e,r,q1,_,_,q2,q3⟩
 ·exact⟨zv,by rw[q2];exact hzr,by simp[Instr.lookup,run_underlying ht,MapKept.run_getObj_map h1,MapKept.run_checkKey hk (Dc _),MapKept.run_findKey hk q1,hz,q2]⟩
 ·exact⟨e.val,by rw[q2];exact q3,by simp[Instr.lookup,run_underlying ht,MapKept.run_getObj_map h1,MapKept.run_checkKey hk (Dc _),MapKept.run_findKey hk q1,q2]⟩
theorem Ni (enc:T→Rp)(xs:List (Ao×T))(k:Ao)(z:T):(Dj (A5 enc xs) k).getD (enc z)=enc (At xs k z):=by
 rw[E7];unfold At;cases Dj xs k<;>rfl
theorem KV (enc:T→Rp)(xs:List (Ao×T))(k:Ao):(Dj (A5 enc xs) k).isSome=Bw xs k:=by
 rw[E7];unfold Bw;cases Dj xs k<;>rfl
theorem EI (ht:P.underlying t=some (.map kt et))(hk:P.underlying kt=some .string)(hz:∀w,(zeroValue et).run P w = .ok zv w)(hzr:∀Z,(enc z).p Z zv)(hx:ev l x=some (rv (.map (some b))))(hi:H[i]? =some (.map b (A5 enc xs)))(hy:ev l y=some (rS k)) :
  Bd P n c l H { dst:=d',op:=.lookup t x y true,type:=ty,pos:=pos,after:=af,guard:=g } (Ce [enc (At xs k z),rB (Bw xs k)]):=λa w Z ha hw=>by
 obtain⟨v,h1,h2⟩:=Ix (k:=k) ht hk hz (hzr Z) (hw.ent hi) true;rw[Ni] at h1;refine⟨.tuple #[v,.bool (Bw xs k)],⟨[v,.bool (Bw xs k)],rfl,h1,rfl,trivial⟩,?_⟩;rw[KV] at h2;simp[execOp,ha.eval hx,ha.eval hy,h2]
theorem Dl.length {Z:Fz}{m:List (List UInt8×Rp)}{es:List MapEntry}{ck:Nat}(h:Dl Z m es ck):es.length=m.length:=by
 obtain⟨_,_,_,f,h4,h5⟩:=h;rw[← h5.at.1,h4.length_eq]
theorem MQ {m:List (List UInt8×Rp)}{N:Nat}(ht:P.underlying t=some (.map kt et))(hx:ev l x=some (rv (.map (some b))))(hi:H[i]? =some (.map b m))(hN:m.length=N) :
  Bd P n c l H { dst:=d',op:=.call { callee:=.builtin .len,args:=#[x],argTypes:=#[t] },type:=ty,pos:=pos,after:=af,guard:=g } (rI .i64 N):=λa w Z ha hw=>CV<|by
 obtain⟨es,ck,h1,h2⟩:=hw.ent hi;have hl:es.size=N:=by rw[← hN,← h2.length];simp
 simp[execOp,resolve,invoke,builtin,ha.eval hx,Builtin.len_,run_underlying ht,goInt,MapKept.run_getObj_map h1,hl]
theorem IG {v:Option Nat}(ht:P.underlying t=some (.map kt et))(hx:ev l x=some (rv (.map v))):Bd P n c l H { dst:=d',op:=.binOp .neq t x (.const (.map none)) rty,type:=ty,pos:=pos,after:=af,guard:=g } (rB (!v.isNone)):=λa w Z ha hw=>CV<|by
 have e2:a.eval (.const (.map none)) = .map none:=rfl;have h:=run_equal_map_nil (P:=P) w t kt et v ht;simp[execOp,ha.eval hx,e2,eqGuard,binOp,h]
theorem I8 (hn:Nat.blt d n=true)(h:∀b,WL P n c ops Q rest ((d,rv (.map (some b)))::l) (.map b []::H)) :
  WL P n c ops Q ({ dst:=some d,op:=.makeMap t none,type:=ty,pos:=pos,after:=af,guard:=none }::rest) l H:=
 GV (λa w Z ha hw=>⟨_,w.alloc (.map #[] 0),_,_,Z,by simp[execOp,run_makeMap],Fz.le.refl _,rfl,
  hw.alloc _ (e:=.map w.heap.size []) ⟨#[],0,by simpa using heap_alloc_new w _,by simp,by simp,by simp,[],PO _,trivial⟩ rfl,h w.heap.size⟩) hn
theorem MJ {m f:List (Ao×Rp)}(h:f.Perm m)(k:Ao)(r:Rp):(Hh f k r).Perm (Hh m k r):=h.map _
theorem Lt {T:Type}:∀{f:List (Ao×T)} {j:Nat} {k:Ao} {r0:T} (r:T),(f.map (·.1)).Nodup→f[j]? =some (k,r0)→Hh f k r=f.set j (k,r)
 | p::f,0,k,r0,r,hn,h=>by
  simp at h;subst h;rw[Qr,List.nodup_cons] at hn;have:Hh f k r=f:=by
   unfold Hh;rw[List.map_congr_left (g:=id) (λq hq=>?_),List.map_id];have hne : ¬ q.1=k:=λe=>hn.1 (by rw[← e];exact List.mem_map.2 ⟨q,hq,rfl⟩);rw[PZ hne];rfl
  show(bif decide (k=k) then(k,r) else(k,r0))::Hh f k r=_;rw[Qf rfl,this];rfl
 | p::f,j+1,k,r0,r,hn,h=>by
  rw[Qr,List.nodup_cons] at hn;simp at h;have hne : ¬ p.1=k:=λe=>hn.1 (by rw[e];exact List.mem_map.2 ⟨(k,r0),PU h,rfl⟩);show(bif decide (p.1=k) then(k,r) else p)::Hh f k r=_;rw[PZ hne,Lt r hn.2 h];rfl
theorem LY {T:Type}(m:List (Ao×T))(k:Ao)(r:T):(Hh m k r).map (·.1)=m.map (·.1):=by
 unfold Hh;rw[Qt];refine List.map_congr_left λp _=>?_;simp only[Function.comp]
 by_cases h:p.1=k
 ·rw[Qf h];exact h.symm
 ·rw[PZ h];rfl
theorem LZ {T:Type}{m:List (Ao×T)}{k:Ao}{r:T}(h:Dj m k=some r):Bw m k=true:=by unfold Bw;rw[h];rfl
theorem Ma {T:Type}{m:List (Ao×T)}{k:Ao}(h:Dj m k=none):Bw m k=false:=by unfold Bw;rw[h];rfl
theorem Dl.put {Z:Fz}{m:List (Ao×Rp)}{es:List MapEntry}{ck j:Nat}{e:MapEntry}{k:Ao}{r0 r:Rp}{v:Value}(h:Dl Z m es ck)(he:es[j]? =some e)(hk:e.key = .string (B k))(hm:Dj m k=some r0)(hr:r.p Z v) :
  Dl Z (AP m k r) (es.set j { e with key:=.string (B k),val:=v }) ck:=by
 obtain⟨h1,h2,h3,f,h4,h5⟩:=h;obtain⟨hl,ha⟩:=h5.at;have hjl:=(List.getElem?_eq_some_iff.1 he).1;unfold AP;rw[LZ hm,Ql];obtain⟨k',r',e1,e2,_⟩:=ha j e he;rw[hk] at e2;obtain rfl:=JO e2;have hfn:(f.map (·.1)).Nodup:=(h4.map (·.1)).nodup_iff.2 h1;refine⟨by rw[LY];exact h1,?_,?_,f.set j (k,r),?_,Gv.of (by simp[hl]) λi x hx=>?_⟩
 ·rw[List.map_set];have:(es.map (·.born)).set j e.born=es.map (·.born):=by
   apply List.ext_getElem?;intro i;rw[Q1]
   split
   ·rename_i hij;subst hij
    simp[hjl,List.getElem?_eq_some_iff.1 he |>.2]
   ·rfl
  show((es.map (·.born)).set j e.born).Nodup;rw[this];exact h2
 ·intro x hx;rcases List.mem_or_eq_of_mem_set hx with hx | rfl
  ·exact h3 x hx
  ·exact h3 e (PU he)
 ·have:=MJ h4 k r
  rwa [Lt r hfn e1] at this
 ·rw[Q1] at hx ⊢
  split at hx
  ·rename_i hij;subst hij
   cases hx
   exact⟨k,r,by rw[if_pos rfl,if_pos (by rw[hl];exact hjl)],rfl,hr⟩
  ·rename_i hij
   rw[Qm hij];exact ha i x hx
theorem Dl.ins {Z:Fz}{m:List (Ao×Rp)}{es:List MapEntry}{ck:Nat}{k:Ao}{r:Rp}{v:Value}(h:Dl Z m es ck)(hm:Dj m k=none)(hk:∀p∈m,p.1≠k)(hr:r.p Z v) :
  Dl Z (AP m k r) (es++[{ key:=.string (B k),val:=v,born:=ck }]) (ck+1):=by
 obtain⟨h1,h2,h3,f,h4,h5⟩:=h;unfold AP;rw[Ma hm,Qa];have hp:=IL k r m;refine⟨?_,?_,?_,f++[(k,r)],?_,Gv.snoc rfl hr h5⟩
 ·rw[(hp.map (·.1)).nodup_iff,Qr,List.nodup_cons];exact⟨λhx=>by obtain⟨p,hp,e⟩:=List.mem_map.1 hx;exact hk p hp e,h1⟩
 ·rw[List.map_append,List.nodup_append];refine⟨h2,by simp,λa ha b hb e=>?_⟩;simp at hb;subst hb;obtain⟨x,hx,e'⟩:=List.mem_map.1 ha;have:=h3 x hx;omega
 ·intro x hx;rcases List.mem_append.1 hx with hx | hx
  ·have:=h3 x hx;omega
  ·simp at hx;subst hx;exact PX _
 ·exact(List.perm_append_comm (l₁:=f) (l₂:=[(k,r)])).trans ((h4.cons (k,r)).trans hp.symm)
theorem St.mapset {Z:Fz}{w:World}(h:St c H Z w){m m':List (Ao×Rp)}(hi:H[i]? =some (.map b m)){es es':Array MapEntry}{ck ck':Nat}(h1:w.heap[b]? =some (.map es ck))(h2:Dl Z m' es'.toList ck') :
  St c (H.set i (.map b m')) Z { w with heap:=w.heap.setIfInBounds b (.map es' ck') }:=by
 obtain⟨q1,q2⟩:=MapKept.heap_set (o':=.map es' ck') h1;exact h.set hi rfl rfl rfl (by simp) (λk _ hk=>q2 k (by simpa[Ent.foot] using hk)) ⟨es',ck',q1,h2⟩ (by simp[Ent.foot])
theorem Jg (s:ByteArray):Instr.sameBits 10000 (.string s) (.string s)=true:=by
 show(s ==s)=true;exact(MapKept.bytes_beq s s).2 rfl |> λh=>by simpa using h
theorem O4 {r:Rp}{m:List (Ao×Rp)}(ht:P.underlying t=some (.map kt et))(hk:P.underlying kt=some .string)(hx:ev l x=some (rv (.map (some b))))(hi:H[i]? =some (.map b m))(hy:ev l y=some (rS k))(hu:ev l u=some r){H':List Ent}(hH:H.set i (.map b (AP m k r))=H')(h:WL P n c ops Q rest l H') :
  WL P n c ops Q ({ dst:=none,op:=.mapUpdate t x y u,type:=ty,pos:=pos,after:=af,guard:=none }::rest) l H:=
 Iv λa w Z ha hw=>by
  obtain⟨es,ck,h1,h2⟩:=hw.ent hi;have hv:=ha.ev hu;subst hH;rcases J2 h2 k with⟨q1,q2,q3⟩ | ⟨j,e,r0,q1,q2,q3,q4,_⟩
  ·refine⟨_,_,?_,hw.mapset hi h1 (es':=es.push { key:=.string (B k),val:=a.eval u,born:=ck }) (by simpa using h2.ins q2 q3 hv),h⟩;simp[execOp,ha.eval hx,ha.eval hy,Instr.mapUpdate,run_underlying ht,MapKept.run_getObj_map h1,MapKept.run_checkKey hk (Dc _),MapKept.run_findKey hk q1,MapKept.run_setObj_map _ h1]
  ·have hje:es[j]? =some e:=by simpa using q2
   refine⟨_,_,?_,hw.mapset hi h1 (es':=es.modify j λe=>{ e with key:=.string (B k),val:=a.eval u }) (ck':=ck) (by
    have:=h2.put q2 q3 q4 hv;have e1:(es.modify j λe=>{ e with key:=.string (B k),val:=a.eval u }).toList=es.toList.set j { e with key:=.string (B k),val:=a.eval u }:=by
     rw[Array.toList_modify];rw[List.modify_eq_set,q2];rfl
    rw[e1];exact this),h⟩
   have hkey:((es[j]?).map (·.key)).getD (.string (B k)) = .string (B k):=by rw[hje];exact q3
   simp[execOp,ha.eval hx,ha.eval hy,Instr.mapUpdate,run_underlying ht,MapKept.run_getObj_map h1,MapKept.run_checkKey hk (Dc _),MapKept.run_findKey hk q1,MapKept.run_setObj_map _ h1,hkey,Instr.keyThatStays,Jg]
theorem HD {v:T}(ht:P.underlying t=some (.map kt et))(hk:P.underlying kt=some .string)(hx:ev l x=some (rv (.map (some b))))(hi:H[i]? =some (.map b (A5 enc xs)))(hy:ev l y=some (rS k))(hu:ev l u=some (enc v)){H':List Ent}(hH:H.set i (.map b (A5 enc (AP xs k v)))=H')(h:WL P n c ops Q rest l H') :
  WL P n c ops Q ({ dst:=none,op:=.mapUpdate t x y u,type:=ty,pos:=pos,after:=af,guard:=none }::rest) l H:=O4 ht hk hx hi hy hu (by rw[← MZ];exact hH) h
end
section
variable {P : Program} {n : Nat} {c : Cx} {ops : Array Oper} {Q : Exit → Act → World → Prop} {rest : List Oper} {l : Fr} {H : List Ent} {d : Nat} {ty t kt et rty : TypeId} {pos : String} {af : Array Edge} {x y u : Operand} {K : Act → World → Prop} {cx : Code}
variable {T : Type} {enc : T → Rp} {xs ys : List (Ao × T)} {i b it : Nat} {m lf : List (List UInt8 × Rp)} {cur : Option (List UInt8 × Rp)} {k : Ao} {r : Rp}
end
theorem AM.d1 {Z:Fz}{r0:Rp}{us:List Value}(h:AM Z [r0] us):∃y0,us=[y0]∧AM Z [r0] [y0]:=by
 match us,h.length with
 | [y0],_=>exact⟨_,rfl,h⟩
theorem AM.d2 {Z:Fz}{r0 r1:Rp}{us:List Value}(h:AM Z [r0,r1] us):∃y0 y1,us=[y0,y1]∧AM Z [r0,r1] [y0,y1]:=by
 match us,h.length with
 | [y0,y1],_=>exact⟨_,_,rfl,h⟩
theorem AM.d3 {Z:Fz}{r0 r1 r2:Rp}{us:List Value}(h:AM Z [r0,r1,r2] us):∃y0 y1 y2,us=[y0,y1,y2]∧AM Z [r0,r1,r2] [y0,y1,y2]:=by
 match us,h.length with
 | [y0,y1,y2],_=>exact⟨_,_,_,rfl,h⟩
theorem AM.d4 {Z:Fz}{r0 r1 r2 r3:Rp}{us:List Value}(h:AM Z [r0,r1,r2,r3] us):∃y0 y1 y2 y3,us=[y0,y1,y2,y3]∧AM Z [r0,r1,r2,r3] [y0,y1,y2,y3]:=by
 match us,h.length with
 | [y0,y1,y2,y3],_=>exact⟨_,_,_,_,rfl,h⟩
section
variable {P : Program} {n : Nat} {c : Cx} {ops : Array Oper} {Q : Exit → Act → World → Prop} {rest : List Oper} {l : Fr} {H H' : List Ent} {d : Nat} {d' : Option Nat} {ty t e rty : TypeId} {pos : String} {af : Array Edge} {g : Option (Nat × Bool)} {x y u : Operand} {v : Value} {sz m : Nat}
end
abbrev Ux:=Nat→Nat→Value×Nat
def Ag (k:Nat)(u u':Ux):Prop:=∀j,j<k→u j=u' j
structure Sy where
 deps:List Nat
 r:Ux→Rp
 lv:Nat:=0
 fx:Bool:=false
 old:List Nat:=[]
def Mm (sp:List Sy)(i:Nat):Sy:=sp.getD i { deps:=[],r:=λ_=>rv undef }
def Pz (sp:List Sy)(u:Ux):List Sp:=sp.map λs=>⟨s.deps,s.r u,0⟩
def LB:List Sy→Prop
 | []=>True
 | s::r=>(∀u u',Ag s.lv u u'→s.r u=s.r u')∧LB r
theorem LB.at:∀{sp:List Sy},LB sp→∀{i:Nat} {s:Sy},sp[i]? =some s→∀u u',Ag s.lv u u'→s.r u=s.r u'
 | [],_,i,s,h=>by simp at h
 | x::sp,⟨h1,h2⟩,0,s,h=>by simp at h;subst h;exact h1
 | x::sp,⟨h1,h2⟩,i+1,s,h=>LB.at h2 (by simpa using h)
def cnt (S:Nat→Bool)(is:List Nat):Nat:=(is.filter S).length
section
variable (P : Program) (n : Nat) (c : Cx) (opsA : Array Oper) (Q : Exit → Act → World → Prop)
def PJ (l:Fr)(H:List Ent)(o:Oper)(k:Nat)(u:Ux)(r:Ux→Rp)(H1:Ux→List Ent):Prop:=
 ∀a w Z (K:Act→World→Prop),BO n l a Z→St c H Z w→(∀u' v w' Z',Ag k u u'→Fz.le Z Z'→(r u').p Z' v→St c (H1 u') Z' w'→K (a.put o.dst v) w')→
  Region.wanted o (yielded opsA a.tmps)=true∧o.wp P a w K Q
def PF (ops:List Oper)(sp:List Sy)(l0 lw:Fr)(is:List Nat)(hs:List (Ux→List Ent))(i:Nat)(o:Oper):Prop:=
 match is.findIdx? (λx=>Nat.beq x i) with
 | some k=>∀u,PJ P n c opsA Q (GC lw (Mm sp i).old (Bv ops (Pz sp u) (Mm sp i).deps l0)) (hs.getD k (λ_=>[]) u) o k u (Mm sp i).r (hs.getD (k+1) (λ_=>[]))
 | none=>if (Mm sp i).fx=true then ∀u,CL P n c opsA Q (GC lw (Mm sp i).old (Bv ops (Pz sp u) (Mm sp i).deps l0)) (hs.getD (Mm sp i).lv (λ_=>[]) u) o ((Mm sp i).r u) (hs.getD (Mm sp i).lv (λ_=>[]) u)
  else ∀u k,k≤is.length→CL P n c opsA Q (GC lw (Mm sp i).old (Bv ops (Pz sp u) (Mm sp i).deps l0)) (hs.getD k (λ_=>[]) u) o ((Mm sp i).r u) (hs.getD k (λ_=>[]) u)
def Ok (ops:List Oper)(sp:List Sy)(l0 lw:Fr)(is:List Nat)(hs:List (Ux→List Ent)):Nat→List Oper→Prop
 | i,o::rest=>PF P n c opsA Q ops sp l0 lw is hs i o∧Ok ops sp l0 lw is hs (i+1) rest
 | _,[]=>True
end
section
variable {P : Program} {n : Nat} {c : Cx} {opsA : Array Oper} {Q : Exit → Act → World → Prop} {l l0 lw : Fr} {H : List Ent} {hs : List (Ux → List Ent)} {sp : List Sy} {is : List Nat}
theorem Ok.at {ops:List Oper}:∀{k:Nat} {rest:List Oper},Ok P n c opsA Q ops sp l0 lw is hs k rest→∀(t:Nat) o,rest[t]? =some o→PF P n c opsA Q ops sp l0 lw is hs (k+t) o
 | k,o::rest,⟨h1,h2⟩,t,o',ht=>by
  cases t with
  | zero=>simp at ht;subst ht;exact h1
  | succ t=>
   have:=Ok.at h2 t o' (by simpa using ht);rw[show k+(t+1)=k+1+t from by omega];exact this
 | _,[],_,t,o,h=>by simp at h
def On (p:List Ent→Prop)(u:Ux):List (Ux→List Ent)→Prop
 | []=>True
 | f::r=>p (f u)∧On p u r
theorem On.at {p:List Ent→Prop}{u:Ux}:∀{hs:List (Ux→List Ent)},On p u hs→∀k,k<hs.length→p (hs.getD k (λ_=>[]) u)
 | [],_,k,h=>absurd h (Nat.not_lt_zero _)
 | f::r,⟨h1,h2⟩,0,_=>h1
 | f::r,⟨h1,h2⟩,k+1,h=>On.at h2 k (by simpa using h)
end
section
variable {P : Program} {n : Nat} {c : Cx} {opsA : Array Oper} {Q : Exit → Act → World → Prop} {l : Fr} {H : List Ent} {d : Nat} {x y : Operand} {ty t e : TypeId} {pos : String} {af : Array Edge} {v : Value} {sz : Nat}
end
end Go.Proofs.YtfbmdidnlhifjaaGreatDoor.Q
namespace Go.Proofs.YtfbmdidnlhifjaaGreatDoor
open Go
end Go.Proofs.YtfbmdidnlhifjaaGreatDoor
namespace Go.Proofs.YtfbmdidnlhifjaaGreatDoor.Q
open Go Go.RowKit
set_option linter.unusedVariables false
section
variable {P : Program} {n : Nat} {c : Cx} {ops : Array Oper} {Q : Exit → Act → World → Prop} {rest : List Oper} {l : Fr} {H : List Ent} {d : Nat} {d' : Option Nat} {t kt et ty : TypeId} {pos : String} {af : Array Edge} {g : Option (Nat × Bool)} {x y u : Operand} {b i : Nat} {T : Type} {enc : T → Rp} {xs : List (Int × T)} {z : T} {zv : Value}
theorem JA.push {Z:Fz}{k:Int}{r:Rp}{v:Value}(hv:r.p Z v)(ck:Nat):∀{m:List (Int×Rp)} {es:List MapEntry},JA Z m es→JA Z (m++[(k,r)]) (es++[⟨.int .i64 k,v,ck⟩])
 | [],[],_=>⟨⟨rfl,hv⟩,trivial⟩
 | p::m,e::es,⟨h1,h2⟩=>⟨h1,h2.push hv ck⟩
theorem Cj {k:Ao}{xs:List (Ao×T)}{v:T}(ht:P.underlying t=some (.map kt et))(hk:P.underlying kt=some .string)(hx:ev l x=some (rv (.map (some b))))(hi:H[i]? =some (.map b (A5 enc xs)))(hy:ev l y=some (rS k))(hu:ev l u=some (enc v)){H':List Ent}(hH:H.set i (.map b (A5 enc (AP xs k v)))=H')(h:WL P n c ops Q rest l H') :
  WL P n c ops Q ({ dst:=none,op:=.insert t x y u,type:=ty,pos:=pos,after:=af,guard:=none }::rest) l H:=by
 have:=HD (n:=n) (c:=c) (ops:=ops) (Q:=Q) (rest:=rest) (ty:=ty) (pos:=pos) (af:=af) ht hk hx hi hy hu hH h;exact this
end
set_option linter.unusedSimpArgs false
def IW (k:Nat)(i:Int)(off:Nat)(Z:Fz)(v:Value):Prop:=if i<0 then v = .pointer none else ∃b,Z.nm k i.toNat=some b∧v = .pointer (some ⟨b,off,none⟩)
def DF (k:Nat)(i:Int)(off:Nat):Rp:=⟨IW k i off,fun {Z Z' v} h hp=>by
 unfold IW at *
 split
 ·rename_i h0;rwa [if_pos h0] at hp
 ·rename_i h0;rw[Qm h0] at hp;obtain⟨b,h1,h2⟩:=hp;exact⟨b,h.nm k _ b h1,h2⟩,true,λ_ Z v hp=>by
 change IW k i off Z v at hp
 unfold IW at hp
 split at hp
 ·rw[hp];rfl
 ·obtain⟨b,_,h2⟩:=hp;rw[h2];rfl⟩
@[reducible] def eP (k:Nat) (i:Int):List Rp:=[DF k i 0]
theorem J4 (k:Nat)(i:Int):(eP k i).length=1:=rfl
theorem No (k:Nat)(i:Int):(eP k i).all (·.one)=true:=rfl
@[reducible] def mP (k:Nat) (i:Int):Rp:=DF k i 0
theorem Nb (k:Nat)(Z:Fz):(mP k (-1)).p Z (.pointer none):=rfl
section
variable {P : Program} {n : Nat} {c : Cx} {ops : Array Oper} {Q : Exit → Act → World → Prop} {rest : List Oper} {l : Fr} {H H' : List Ent} {d : Nat} {d' : Option Nat} {x y : Operand} {ty t t' e : TypeId} {pos : String} {af : Array Edge} {g : Option (Nat × Bool)} {v u : Value} {r : Rp} {sz k : Nat} {pv : Value} {α : Type} [Inhabited α] {xs : List α} {enc : α → List Rp}
theorem Jl {Z:Fz}{w:World}{j off:Nat}{i:Int}(hw:St c H Z w)(hi:H[j]? =some (.pool k pv e (xs.map enc)))(hg:BV i (xs.length:Int)=true)(hp:(DF k i off).p Z v) :
  ∃b us,v = .pointer (some ⟨b,off,none⟩)∧(DC pv)[i.toNat]? =some b∧w.heap[b]? =some (.cells us.toArray e (0,0))∧AM Z (enc (Aj xs i)) us:=by
 obtain⟨h0,hl,h⟩:=hw.ent hi;have hi0:=(By hg).1;have hi1:i.toNat<xs.length:=by have:=(By hg).2;omega
 have hb:i.toNat<(DC pv).length:=by rw[hl,PT];exact hi1
 obtain⟨h1,us,h2,h3⟩:=h i.toNat (DC pv)[i.toNat] (enc xs[i.toNat]) (PR hb) (by simp[hi1])
 change IW k i off Z v at hp
 unfold IW at hp;rw[Qm (by omega)] at hp;obtain⟨b,h4,h5⟩:=hp;rw[h1] at h4;obtain rfl:=Option.some.inj h4;exact⟨_,us,h5,PR hb,h2,by rw[show Aj xs i=xs[i.toNat] from by simp[Aj,hi1]];exact h3⟩
theorem EJ {j off:Nat}{i:Int}{rs:List Rp}(hag:∀w,(isAgg t).run P w = .ok true w)(hsz:∀w,(sizeOf t).run P w = .ok sz w)(hx:ev l x=some (DF k i off))(hi:H[j]? =some (.pool k pv e (xs.map enc)))(hg:BV i (xs.length:Int)=true)
  (hr:((enc (Aj xs i)).drop off).take sz=rs) (hl:rs.length=sz):Bd P n c l H { dst:=d',op:=.load t x,type:=ty,pos:=pos,after:=af,guard:=g } (AT rs):=λa w Z ha hw=>by
 obtain⟨b,us,e1,_,h1,h2⟩:=Jl hw hi hg (ha.ev hx);have h3:=(h2.drop off).take sz;rw[hr] at h3;have hlen:=h3.length;have h4:=run_loadCells_list (P:=P) w ⟨b,off,none⟩ ((us.drop off).take sz) (λj u hj=>by
  rw[Gr,cell_of_row w b _ _ e (0,0) h1];rw[Qp] at hj
  split at hj
  ·simpa using hj
  ·cases hj)
 rw[hlen,hl] at h4;exact⟨.agg ((us.drop off).take sz).toArray,⟨_,rfl,h3⟩,by simp[execOp,e1,Instr.loadAt,Instr.sureAddr,loadVar,hag,hsz,h4]⟩
theorem Cq {off:Nat}{i:Int}(hx:ev l x=some (DF k i off))(hg:decide (0≤i)=true):Bd P n c l H { dst:=d',op:=.nilCheck x,type:=ty,pos:=pos,after:=af,guard:=g } (DF k i off):=λa w Z ha hw=>by
 have h:=ha.ev hx;have h':=h
 change IW k i off Z _ at h
 unfold IW at h;rw[Qm (by have:=of_decide_eq_true hg;omega)] at h;obtain⟨b,_,e1⟩:=h;exact⟨a.eval x,h',by simp[execOp,e1]⟩
theorem Jp {off off' i:Nat}{q:Int}{fs:Array Field}{f:Field}(hu:P.underlying t=some (.struct fs))(hf:fs[i]? =some f)(hsz:∀w,(sizeOf f.type).run P w = .ok (sz+1) w)
  (hx:ev l x=some (DF k q off)) (hg:decide (0≤q)=true) (ho:off+f.offset=off'):Bd P n c l H { dst:=d',op:=.fieldAddr t x i,type:=ty,pos:=pos,after:=af,guard:=g } (DF k q off'):=λa w Z ha hw=>by
 have h:=ha.ev hx
 change IW k q off Z _ at h
 unfold IW at h;have h0:=of_decide_eq_true hg;rw[Qm (by omega)] at h;obtain⟨b,h1,e1⟩:=h;subst ho;refine⟨.pointer (some ⟨b,off+f.offset,none⟩),?_,by simp[execOp,e1,Instr.fieldAt,run_underlying hu,hf,Instr.sureAddr,fieldPlace,hsz,Gr]⟩;show IW k q (off+f.offset) Z _;unfold IW;rw[Qm (by omega)];exact⟨b,h1,rfl⟩
theorem St.poolset {β:Type}{xs:List β}{enc:β→List Rp}{Z:Fz}{w:World}{j b:Nat}{i:Int}{us us':List Value}{y':β}(hw:St c H Z w)(hi:H[j]? =some (.pool k pv e (xs.map enc)))(hb:(DC pv)[i.toNat]? =some b)(h1:w.heap[b]? =some (.cells us.toArray e (0,0)))(h2:AM Z (enc y') us') :
  St c (H.set j (.pool k pv e ((xs.set i.toNat y').map enc))) Z (w.setRow b us'.toArray):=by
 obtain⟨h0,hl,h⟩:=hw.ent hi;have hbl:=(List.getElem?_eq_some_iff.1 hb).1;refine hw.setp hi rfl rfl rfl (by simp[World.setRow]) (λq _ hq=>?_) ⟨h0,by simpa using hl,λi' b' cs h3 h4=>?_⟩ (λq hq=>.inl hq) rfl rfl
 ·have:q≠b:=λe=>hq (by subst e;exact PU hb);simp only[World.setRow,Array.getElem?_modify];rw[Qm (λe=>this e.symm)]
 ·rw[List.map_set,Q1] at h4
  split at h4
  ·rename_i hii
   subst hii
   split at h4
   ·rw[hb] at h3;obtain rfl:=Option.some.inj h3;obtain rfl:=Option.some.inj h4;obtain⟨g1,_⟩:=h i.toNat b _ hb (PR (by omega));exact⟨g1,us',setRow_heap w b _ _ e (0,0) h1,h2⟩
   ·cases h4
  ·rename_i hii
   obtain⟨g1,vs,g2,g3⟩:=h i' b' cs h3 h4;have hne:b'≠b:=λe=>hii (by
    subst e;have e1:=(List.getElem?_eq_some_iff.1 h3)
    have e2:=(List.getElem?_eq_some_iff.1 hb)
    exact(List.getElem_inj h0).1 (e2.2.trans e1.2.symm))
   refine⟨g1,vs,?_,g3⟩;simp only[World.setRow,Array.getElem?_modify];rw[Qm (λe=>hne e.symm)];exact g2
theorem LK {j off:Nat}{i:Int}{y':α}(hag:∀w,(sizeOf t).run P w = .ok 1 w)(hx:ev l x=some (DF k i off))(hy:ev l y=some r)(hv:Lc H r)(hi:H[j]? =some (.pool k pv e (xs.map enc)))(hg:BV i (xs.length:Int)=true)
  (hy':(enc (Aj xs i)).set off r=enc y') (hlt:Nat.blt off (enc (Aj xs i)).length=true) (hH:H.set j (.pool k pv e ((xs.set i.toNat y').map enc))=H') (h:WL P n c ops Q rest l H') :
  WL P n c ops Q ({ dst:=none,op:=.store t x y,type:=ty,pos:=pos,after:=af,guard:=none }::rest) l H:=
 Iv λa w Z ha hw=>by
  obtain⟨b,us,e1,hb,h1,h2⟩:=Jl hw hi hg (ha.ev hx);have hr:=ha.ev hy;have hone:=hv c Z w _ hw hr;have hlen:=h2.length;have hlt':off<us.length:=by rw[hlen];simpa using hlt
  have h4:=run_storeCells_at P b off e [a.eval y] 0 us.toArray w h1 (by simp;omega) (by simpa using hone);have hcv:=Bg hone;have h3:us.take off++[a.eval y]++us.drop (off+1)=us.set off (a.eval y):=by
   simp[List.set_eq_take_append_cons_drop,hlt']
  simp only[Nat.add_zero,Qg,List.length_nil,Qh] at h4;rw[h3] at h4;refine⟨w.setRow b (us.set off (a.eval y)).toArray,H',?_,?_,h⟩
  ·simp[execOp,e1,Instr.storeAt,Instr.sureAddr,storeVar,hag,hcv,h4]
  ·subst hH;exact hw.poolset hi hb h1 (by rw[← hy'];exact h2.set off hr)
theorem K7 {j off:Nat}{i:Int}{y':α}{rs:List Rp}(hsz:∀w,(sizeOf t).run P w = .ok sz w)(hx:ev l x=some (DF k i off))(hy:ev l y=some (AT rs))(hl:rs.length=sz)(hv:AV H rs)(hi:H[j]? =some (.pool k pv e (xs.map enc)))(hg:BV i (xs.length:Int)=true)
  (hlt:Nat.ble (off+sz) (enc (Aj xs i)).length=true) (hy':(enc (Aj xs i)).take off++rs++(enc (Aj xs i)).drop (off+sz)=enc y') (hH:H.set j (.pool k pv e ((xs.set i.toNat y').map enc))=H') (h:WL P n c ops Q rest l H') :
  WL P n c ops Q ({ dst:=none,op:=.store t x y,type:=ty,pos:=pos,after:=af,guard:=none }::rest) l H:=
 Iv λa w Z ha hw=>by
  obtain⟨b,us,e1,hb,h1,h2⟩:=Jl hw hi hg (ha.ev hx);obtain⟨vs,e2,h4⟩:=ha.ev hy;have hlen:=h2.length;have hvl:=h4.length;have hlt':off+sz≤us.length:=by rw[hlen];simpa using hlt
  have h5:=run_storeCells_at P b off e vs 0 us.toArray w h1 (by simp;omega) (λv hv'=>hv.at hw h4 v hv');simp only[Nat.add_zero] at h5;refine⟨w.setRow b (us.take off++vs++us.drop (off+sz)).toArray,H',?_,?_,h⟩
  ·have h6:vs.length=sz:=by omega
   rw[h6] at h5;simp only[List.append_assoc] at h5 ⊢;simp[execOp,e1,e2,Instr.storeAt,Instr.sureAddr,storeVar,hsz,Value.cells,h6,h5]
  ·subst hH;exact hw.poolset hi hb h1 (by rw[← hy'];exact((h2.take off).append h4).append (h2.drop (off+sz)))
theorem St.adopt0 {Z:Fz}{w:World}{b:Nat}{cs:List Rp}{ys:List (List Rp)}{Hr:List Ent}{pv':Value}(h:St c (.blk b cs e::.pool k pv e ys::Hr) Z w)(hpv:DC pv'=DC pv++[b]):∃Z',Fz.le Z Z'∧Z'.nm k ys.length=some b∧St c (.pool k pv' e (ys++[cs])::Hr) Z' w:=by
 obtain⟨us,hb1,hb2⟩:=h.has (.blk b cs e) (by simp);obtain⟨h0,hl,hp⟩:=h.has (.pool k pv e ys) (by simp);have hd:=List.pairwise_cons.1 h.dis;have hd2:=List.pairwise_cons.1 hd.2;have gd:=List.pairwise_cons.1 h.gst.dis;have gd2:=List.pairwise_cons.1 gd.2;have hcap:=h.gst.cap (.pool k pv e ys) (by simp) k (by simp[Ent.gk]);have hksz:=h.gst.sz (.pool k pv e ys) (by simp) k (by simp[Ent.gk]);have hkown:=h.gst.own (.pool k pv e ys) (by simp) k (by simp[Ent.gk])
 let Z':Fz:=⟨Z.f,λq i=>if q=k∧i=ys.length then some b else Z.nm q i⟩
 have hnew:Z'.nm k ys.length=some b:=by simp[Z']
 have hle:Fz.le Z Z':=⟨λ_ _ h=>h,λq i b' hq=>by
  by_cases hqi:q=k∧i=ys.length
  ·obtain⟨rfl,rfl⟩:=hqi;rw[hcap _ (by simp[Ent.gn,hl])] at hq;cases hq
  ·simpa[Z',hqi] using hq⟩
 have hbn:b ∉ DC pv:=λhbs=>hd.1 (.pool k pv e ys) (by simp) b (by simp[Ent.foot]) hbs;refine⟨Z',hle,hnew,h.os,h.tape,h.output,h.size,h.old,λen he=>?_,λen he q hq=>?_,?_,⟨λb o hb=>h.frz.f b o hb,λq i b' hq=>?_⟩,h.le.trans hle,λb o hb=>h.new b o hb,λen he q hq=>?_,h.emono hle h.env,h.emono,⟨λen he q hq=>?_,λen he q hq=>?_,?_,λq i b' hq=>?_,λen he q hq i hi=>?_⟩⟩
 ·rcases List.mem_cons.1 he with rfl | he
  ·refine⟨by rw[hpv];exact List.nodup_append.2 ⟨h0,by simp,λx hx y hy e=>by simp at hy;subst hy;exact hbn (e▸hx)⟩,by rw[hpv];simp[hl],λi b' cs' h1 h2=>?_⟩
   ·rw[hpv] at h1
    by_cases hi:i<(DC pv).length
    ·rw[Qc hi] at h1;rw[Qc (by omega)] at h2;obtain⟨g1,vs,g2,g3⟩:=hp i b' cs' h1 h2;exact⟨hle.nm k i b' g1,vs,g2,g3.mono hle⟩
    ·have hi2:i=(DC pv).length:=by have:=(List.getElem?_eq_some_iff.1 h1).1;simp at this;omega
     subst hi2;simp at h1;subst h1;rw[hl] at h2;simp at h2;subst h2;exact⟨by rw[hl];exact hnew,us,hb1,hb2.mono hle⟩
  ·exact Ent.keep (h.has en (by simp[he])) hle λ_ _=>rfl
 ·rcases List.mem_cons.1 he with rfl | he
  ·rcases List.mem_append.1 (hpv▸(show q∈DC pv' from hq)) with hq | hq
   ·exact h.own (.pool k pv e ys) (by simp) q hq
   ·simp at hq;subst hq;exact h.own (.blk q cs e) (by simp) q (by simp[Ent.foot])
  ·exact h.own en (by simp[he]) q hq
 ·refine List.pairwise_cons.2 ⟨λen he q hq hq'=>?_,hd2.2⟩;rcases List.mem_append.1 (hpv▸(show q∈DC pv' from hq)) with hq | hq
  ·exact hd2.1 en he q hq hq'
  ·simp at hq;subst hq;exact hd.1 en (by simp[he]) q (by simp[Ent.foot]) hq'
 ·by_cases hqi:q=k∧i=ys.length
  ·rw[hqi.1];exact hksz
  ·exact h.frz.nm q i b' (by simpa[Z',hqi] using hq)
 ·rcases List.mem_cons.1 he with rfl | he
  ·rcases List.mem_append.1 (hpv▸(show q∈DC pv' from hq)) with hq | hq
   ·exact h.zdis (.pool k pv e ys) (by simp) q hq
   ·simp at hq;subst hq;exact h.zdis (.blk q cs e) (by simp) q (by simp[Ent.foot])
  ·exact h.zdis en (by simp[he]) q hq
 ·rcases List.mem_cons.1 he with rfl | he
  ·simp[Ent.gk] at hq;subst hq;exact hkown
  ·exact h.gst.own en (by simp[he]) q hq
 ·rcases List.mem_cons.1 he with rfl | he
  ·simp[Ent.gk] at hq;subst hq;exact hksz
  ·exact h.gst.sz en (by simp[he]) q hq
 ·exact List.pairwise_cons.2 ⟨λen he q hq hq'=>gd2.1 en he q hq hq',gd2.2⟩
 ·by_cases hqi:q=k∧i=ys.length
  ·rw[hqi.1];exact .inr hkown
  ·exact h.gst.new q i b' (by simpa[Z',hqi] using hq)
 ·rcases List.mem_cons.1 he with rfl | he
  ·simp[Ent.gk] at hq;subst hq;simp[Ent.gn,hpv] at hi;have : ¬ i=ys.length:=by omega
   simp only[Z',this,and_false,if_false];exact hcap i (by simp[Ent.gn];omega)
  ·have hqk:q≠k:=λe1=>gd2.1 en he k (by simp[Ent.gk]) (e1▸hq);simp only[Z',hqk,false_and,if_false];exact h.gst.cap en (by simp[he]) q hq i hi
theorem St.adopt {Z:Fz}{w:World}{b:Nat}{cs:List Rp}{ys:List (List Rp)}{Hr:List Ent}(h:St c (.blk b cs e::.pool k pv e ys::Hr) Z w):∃Z',Fz.le Z Z'∧Z'.nm k ys.length=some b∧St c (.pool k (OB (DC pv++[b])) e (ys++[cs])::Hr) Z' w:=St.adopt0 h (Oc _)
theorem BO.re {a:Act}{Z:Fz}{d:Nat}{q r:Rp}(h:BO n l a Z)(hl:look l d=some q)(hq:∀v,q.p Z v→r.p Z v):BO n ((d,r)::l) a Z:=⟨h.size,h.defers,λi u hi=>by
 rw[Bo] at hi
 split at hi
 ·rename_i e;subst e;simp at hi;subst hi
  obtain⟨v,h1,h2⟩:=h.tm d q hl;exact⟨v,h1,hq v h2⟩
 ·exact h.tm i u hi⟩
theorem IW.of {Z:Fz}{b N:Nat}(h:Z.nm k N=some b):∀v,(rv (.pointer (some ⟨b,0,none⟩))).p Z v→(DF k (N:Int) 0).p Z v:=λv hv=>by
 show IW k N 0 Z v;unfold IW;rw[Qm (by omega)];exact⟨b,by simpa using h,hv⟩
def GQ (l:Fr)(b:Nat):List Nat→Prop
 | []=>True
 | d::ds=>look l d=some (rv (.pointer (some ⟨b,0,none⟩)))∧GQ l b ds
def Ox (k N:Nat):List Nat→Fr→Fr
 | [],l=>l
 | d::ds,l=>(d,DF k (N:Int) 0)::Ox k N ds l
theorem Hl {Z:Fz}{a:Act}{b N:Nat}{l:Fr}(ha:BO n l a Z)(hn:Z.nm k N=some b):∀{ds:List Nat},GQ l b ds→BO n (Ox k N ds l) a Z
 | [],_=>ha
 | d::ds,⟨h1,h2⟩=>by
  have h3:=Hl ha hn h2;refine⟨h3.size,h3.defers,λi u hi=>?_⟩;rw[Ox,Bo] at hi
  split at hi
  ·rename_i e;subst e;simp at hi;subst hi
   obtain⟨v,h4,h5⟩:=ha.tm d _ h1;exact⟨v,h4,IW.of hn v h5⟩
  ·exact h3.tm i u hi
theorem St.adoptE {β:Type}{xs:List β}{enc:β→List Rp}{Z:Fz}{w:World}{b:Nat}{y:β}{Hr:List Ent}{cs:List Rp}(hw:St c H Z w)(hp:H.Perm (.blk b cs e::.pool k pv e (xs.map enc)::Hr))(hcs:cs=enc y) :
  ∃Z' pv',Fz.le Z Z'∧Z'.nm k xs.length=some b∧St c (.pool k pv' e ((xs++[y]).map enc)::Hr) Z' w:=by
 obtain⟨Z',h1,h2,h3⟩:=(hw.perm hp).adopt;subst hcs;rw[PT] at h2;exact⟨Z',_,h1,h2,by rw[List.map_append];exact h3⟩
theorem WL.adopt {β:Type}{xs:List β}{enc:β→List Rp}{b:Nat}{y:β}{Hr:List Ent}{cs:List Rp}(hp:H.Perm (.blk b cs e::.pool k pv e (xs.map enc)::Hr))(ds:List Nat)(hd:GQ l b ds)(hcs:cs=enc y)
  (h:∀pv',WL P n c ops Q rest (Ox k xs.length ds l) (.pool k pv' e ((xs++[y]).map enc)::Hr)):WL P n c ops Q rest l H:=λa w Z ha hw=>by
 obtain⟨Z',pv',h1,h2,h3⟩:=St.adoptE hw hp hcs;exact h pv' a w Z' (Hl (ha.mono h1) h2 hd) h3
theorem WC.adopt {β:Type}{xs:List β}{enc:β→List Rp}{b:Nat}{y:β}{Hr:List Ent}{cs:List Rp}{xx:Code}(hp:H.Perm (.blk b cs e::.pool k pv e (xs.map enc)::Hr))(ds:List Nat)(hd:GQ l b ds)(hcs:cs=enc y)
  (h:∀pv',WC P n c xx Q (Ox k xs.length ds l) (.pool k pv' e ((xs++[y]).map enc)::Hr)):WC P n c xx Q l H:=λa w Z ha hw=>by
 obtain⟨Z',pv',h1,h2,h3⟩:=St.adoptE hw hp hcs;exact h pv' a w Z' (Hl (ha.mono h1) h2 hd) h3
theorem WK.adopt {β:Type}{xs:List β}{enc:β→List Rp}{b:Nat}{y:β}{Hr:List Ent}{cs:List Rp}{K:Act→World→Prop}(hp:H.Perm (.blk b cs e::.pool k pv e (xs.map enc)::Hr))(ds:List Nat)(hd:GQ l b ds)(hcs:cs=enc y)
  (h:∀pv',WK n c K (Ox k xs.length ds l) (.pool k pv' e ((xs++[y]).map enc)::Hr)):WK n c K l H:=λa w Z ha hw=>by
 obtain⟨Z',pv',h1,h2,h3⟩:=St.adoptE hw hp hcs;exact h pv' a w Z' (Hl (ha.mono h1) h2 hd) h3
theorem ED:DC (.tuple #[])=[]:=rfl
theorem HK (hn:Nat.blt d n=true)(h:∀b,WL P n c ops Q rest ((d,rv (.map (some b)))::l) (.pool b (.tuple #[]) e []::.map b []::H)) :
  WL P n c ops Q ({ dst:=some d,op:=.makeMap t none,type:=ty,pos:=pos,after:=af,guard:=none }::rest) l H:=
 GV (λa w Z ha hw=>by
  have h1:=hw.alloc (.map #[] 0) (e:=.map w.heap.size []) ⟨#[],0,by simpa using heap_alloc_new w _,by simp,by simp,by simp,[],PO _,trivial⟩ rfl;refine⟨_,w.alloc (.map #[] 0),_,_,Z,by simp[execOp,run_makeMap],Fz.le.refl _,rfl,?_,h w.heap.size⟩;have hz:∀i,Z.nm w.heap.size i=none:=λi=>by
   cases hq:Z.nm w.heap.size i with
   | none=>rfl
   | some b=>have:=hw.frz.nm _ _ _ hq;omega
  have hold:∀en∈(Ent.map w.heap.size []::H),∀q∈en.gk,q<w.heap.size:=λen he q hq=>by
   rcases List.mem_cons.1 he with rfl | he
   ·simp[Ent.gk] at hq
   ·exact hw.gst.sz en he q hq
  refine { h1 with has:=λen he=>?_,own:=λen he q hq=>?_,dis:=List.pairwise_cons.2 ⟨λen he q hq=>by simp[Ent.foot,ED] at hq,h1.dis⟩,zdis:=λen he q hq=>?_,gst:=⟨λen he q hq=>?_,λen he q hq=>?_,List.pairwise_cons.2 ⟨λen he q hq hq'=>?_,h1.gst.dis⟩,h1.gst.new,λen he q hq i hi=>?_⟩ }
  ·rcases List.mem_cons.1 he with rfl | he
   ·exact⟨by simp[ED],by simp[ED],by simp⟩
   ·exact h1.has en he
  ·rcases List.mem_cons.1 he with rfl | he
   ·simp[Ent.foot,ED] at hq
   ·exact h1.own en he q hq
  ·rcases List.mem_cons.1 he with rfl | he
   ·simp[Ent.foot,ED] at hq
   ·exact h1.zdis en he q hq
  ·rcases List.mem_cons.1 he with rfl | he
   ·simp[Ent.gk] at hq;subst hq;exact .inl hw.size
   ·exact h1.gst.own en he q hq
  ·rcases List.mem_cons.1 he with rfl | he
   ·simp[Ent.gk] at hq;subst hq;simp
   ·exact h1.gst.sz en he q hq
  ·simp[Ent.gk] at hq;subst hq;have:=hold en he _ hq';omega
  ·rcases List.mem_cons.1 he with rfl | he
   ·simp[Ent.gk] at hq;subst hq;exact hz i
   ·exact h1.gst.cap en he q hq i hi) hn
end
def P7 (m:List (List UInt8×Rp))(Z:Fz)(v:Value):Prop:=∃b es ck,v = .map (some b)∧Z b=some (.map es ck)∧Dl Z m es.toList ck
def LS (m:List (List UInt8×Rp)):Rp:=⟨P7 m,λh ⟨b,es,ck,h1,h2,h3⟩=>⟨b,es,ck,h1,h.f b _ h2,h3.mono h⟩,true,λ_ Z v ⟨b,es,ck,h1,_⟩=>by rw[h1];rfl⟩
@[reducible] def mF (f:Nat):Rp:=rv (.func (.func f) #[] #[])
section
variable {P : Program} {n : Nat} {c : Cx} {ops opsA : Array Oper} {Q : Exit → Act → World → Prop} {rest : List Oper} {l : Fr} {H : List Ent} {d : Nat} {d' : Option Nat} {ty t kt et rty : TypeId} {pos : String} {af : Array Edge} {g : Option (Nat × Bool)} {x y u : Operand} {K : Act → World → Prop} {cx : Code} {r : Rp}
variable {T : Type} {enc : T → Rp} {xs : List (Ao × T)} {z : T} {k : Ao} {zv : Value} {i b : Nat}
theorem St.freezeM {Z:Fz}{w:World}(h:St c H Z w){m:List (List UInt8×Rp)}(hi:H[i]? =some (.map b m)):∃Z',Fz.le Z Z'∧St c (.fact (.map (some b)) (LS m)::H.eraseIdx i) Z' w:=by
 obtain⟨es,ck,hg,hm⟩:=h.ent hi;have hmem:=PU hi;have hgz:Z b=none:=h.zdis _ hmem b (by simp[Ent.foot])
 let Z':Fz:=⟨λq=>if q=b then some (.map es ck) else Z q,Z.nm⟩
 have hle:Fz.le Z Z':=⟨λq o hb=>by
  have:q≠b:=λe=>by subst e;rw[hgz] at hb;cases hb
  simpa[Z',this] using hb,λ_ _ _ h=>h⟩
 have hfr:=h.front hi;have hd:=List.pairwise_cons.1 hfr.dis;have hs:=hfr.sub (List.sublist_cons_self _ _);have hs':St c (H.eraseIdx i) Z' w:=by
  refine { hs with has:=λen he=>Ent.keep (hs.has en he) hle λ_ _=>rfl,frz:=⟨λq o hb=>?_,h.frz.nm⟩,gst:=hs.gst.names rfl,le:=hs.le.trans hle,new:=λq o hb=>?_,zdis:=λen he k hk=>?_,env:=hs.emono hle hs.env }
  ·by_cases hbg:q=b
   ·subst hbg;simp[Z'] at hb;rw[← hb];exact hg
   ·simp[Z',hbg] at hb;exact h.frz q o hb
  ·by_cases hbg:q=b
   ·subst hbg;exact .inr (h.own _ hmem q (by simp[Ent.foot]))
   ·simp[Z',hbg] at hb;exact h.new q o hb
  ·have hkg:k≠b:=λe=>hd.1 en he b (by simp[Ent.foot]) (e▸hk);simp only[Z',hkg,if_false];exact hs.zdis en he k hk
 exact⟨Z',hle,hs'.add rfl rfl rfl (PW _) (λ_ _=>rfl) (e':=.fact (.map (some b)) (LS m)) ⟨b,es,ck,rfl,by simp[Z'],hm.mono hle⟩ (by simp[Ent.foot])⟩
theorem WK.freezeM {m:List (List UInt8×Rp)}(hi:H[i]? =some (.map b m))(h:WK n c K l (.fact (.map (some b)) (LS m)::H.eraseIdx i)):WK n c K l H:=λa w Z ha hw=>by
 obtain⟨Z',hz,hs⟩:=St.freezeM hw hi;exact h a w Z' (ha.mono hz) hs
theorem WC.freezeM {m:List (List UInt8×Rp)}(hi:H[i]? =some (.map b m))(h:WC P n c cx Q l (.fact (.map (some b)) (LS m)::H.eraseIdx i)):WC P n c cx Q l H:=λa w Z ha hw=>by
 obtain⟨Z',hz,hs⟩:=St.freezeM hw hi;exact h a w Z' (ha.mono hz) hs
theorem WL.freezeM {m:List (List UInt8×Rp)}(hi:H[i]? =some (.map b m))(h:WL P n c ops Q rest l (.fact (.map (some b)) (LS m)::H.eraseIdx i)):WL P n c ops Q rest l H:=λa w Z ha hw=>by
 obtain⟨Z',hz,hs⟩:=St.freezeM hw hi;exact h a w Z' (ha.mono hz) hs
theorem P7.heap {Z:Fz}{w:World}(hf:LD Z w){m:List (List UInt8×Rp)}{v:Value}(h:(LS m).p Z v):∃b,v = .map (some b)∧(Ent.map b m).holds Z w:=by
 obtain⟨b,es,ck,h1,h2,h3⟩:=h;exact⟨b,h1,es,ck,hf b _ h2,h3⟩
theorem Eg {q:T}(ht:P.underlying t=some (.map kt et))(hk:P.underlying kt=some .string)(hx:ev l x=some (LS (A5 enc xs)))(hy:ev l y=some (rS k))(hq:Dj xs k=some q) :
  Bd P n c l H { dst:=d',op:=.lookup t x y false,type:=ty,pos:=pos,after:=af,guard:=g } (enc q):=λa w Z ha hw=>by
 obtain⟨b,e1,es,ck,h1,h2⟩:=P7.heap hw.frz (ha.ev hx);have hq':Dj (A5 enc xs) k=some (enc q):=by rw[E7,hq];rfl
 rcases J2 h2 k with⟨q1,q2,_⟩ | ⟨j,e,r,q1,_,_,q2,q3⟩
 ·rw[hq'] at q2;cases q2
 ·rw[hq'] at q2;obtain rfl:=Option.some.inj q2;exact⟨e.val,q3,by simp[execOp,e1,ha.eval hy,Instr.lookup,run_underlying ht,MapKept.run_getObj_map h1,MapKept.run_checkKey hk (Dc _),MapKept.run_findKey hk q1]⟩
theorem Jn {f:FuncId}{args:List Operand}{ats:Array TypeId}{rs:List Rp}(hcall:∀(as1:Array Value) (w:World),(callFunc f as1).run P w = .ok (.enter f as1) w)(hc:J9 P c.E f rs r)(hx:ev l x=some (mF f))(hv:IP l args=some rs) :
  CL P n c opsA Q l H { dst:=some d,op:=.call { callee:=.value x,args:=args.toArray,argTypes:=ats },type:=ty,pos:=pos,after:=af,guard:=none } r H:=λa w Z K ha hw hK=>
 ⟨λ_=>by
  unfold Oper.wp;rw[Hu (caps:=[]) rfl (ha.eval hx) hcall w];refine(hc w Z _ (by have:=(El ha hv);simpa using this) (St.enter (Hin:=[]) (Hr:=H) hw)).mono ?_;rintro e w' ⟨r2,v,Ho,Z',rfl,⟨rfl,rfl⟩,hr2,hs⟩;exact hK v w' Z' hs.le hr2 (by simpa using hw.call0 hs),λh=>by simp[Region.wanted] at h⟩
end
set_option maxRecDepth 100000
set_option maxHeartbeats 4000000
@[reducible] def Gf (x:Int):Rp:=Ah x
theorem NP (Z:Fz):(Gf 0).p Z (.int .i64 0):=rfl
@[reducible] def Ak (x:(List Ac)):List Rp:=[AH 4 (Aq Ab x)]
theorem C8 (x:(List Ac)):(Ak x).length=1:=rfl
theorem HB (x:(List Ac)):(Ak x).all (·.one)=true:=rfl
@[reducible] def Al (x:A3):List Rp:=[rS x.fEntity,rS x.fID,rS x.fOp,AH 1 (Aq Ak x.fArgs)]
@[reducible] def Aw (x:A8):List Rp:=[Ah x.fErr,AH 4 (Aq Ab x.fValue)]
@[reducible] def Ad (x:As):List Rp:=[rS x.fOp.fEntity,rS x.fOp.fID,rS x.fOp.fOp,AH 1 (Aq Ak x.fOp.fArgs),Ah x.fAnswer.fErr,AH 4 (Aq Ab x.fAnswer.fValue),Ah x.fFrom,Ah x.fTo]
theorem Gh (x:As):(Ad x).length=8:=rfl
theorem I6 (x:As):(Ad x).all (·.one)=true:=rfl
theorem Ng:∃inf,Tryz.prog.info? 9=some inf∧inf.zero=some (.string ⟨#[]⟩)∧inf.size=1∧inf.bytes=16:=by
  have key:(Tryz.prog.info? 9).map (λi=>(i.zero,i.size,i.bytes))=some (some (.string ⟨#[]⟩),1,16):=by kernel_rfl
  obtain⟨inf,h1,h2⟩:=Option.map_eq_some_iff.1 key;simp only[Prod.mk.injEq] at h2;exact⟨inf,h1,h2.1,h2.2.1,h2.2.2⟩
theorem OF:∃inf,Tryz.prog.info? 22=some inf∧inf.zero=some (.slice none 0 0)∧inf.size=1∧inf.bytes=24:=by
  have key:(Tryz.prog.info? 22).map (λi=>(i.zero,i.size,i.bytes))=some (some (.slice none 0 0),1,24):=by kernel_rfl
  obtain⟨inf,h1,h2⟩:=Option.map_eq_some_iff.1 key;simp only[Prod.mk.injEq] at h2;exact⟨inf,h1,h2.1,h2.2.1,h2.2.2⟩
theorem OD:∃inf,Tryz.prog.info? 63=some inf∧inf.zero=some (.agg #[(.int .i64 0),(.int .i64 0),(.string ⟨#[]⟩),(.int .i64 0)])∧inf.size=4∧inf.bytes=40:=by
  have key:(Tryz.prog.info? 63).map (λi=>(i.zero,i.size,i.bytes))=some (some (.agg #[(.int .i64 0),(.int .i64 0),(.string ⟨#[]⟩),(.int .i64 0)]),4,40):=by kernel_rfl
  obtain⟨inf,h1,h2⟩:=Option.map_eq_some_iff.1 key;simp only[Prod.mk.injEq] at h2;exact⟨inf,h1,h2.1,h2.2.1,h2.2.2⟩
theorem J5 (parts:List (Nat×Value)):Tryz.prog.built 31 parts=Instr.fill (λi=>(#[(0,1),(1,1)]:Array (Nat×Nat))[i]?) #[(.int .i64 0),((.slice none 0 0))] parts:=by kernel_rfl
theorem Eh {n:Nat}{c:Cx}{l:Fr}{H:List Ent}{d:Option Nat}{ty:TypeId}{pos:String}{af:Array Edge}{g:Option (Nat×Bool)}:Bd Tryz.prog n c l H { dst:=d,op:=.build 31 #[],type:=ty,pos:=pos,after:=af,guard:=g } (AT [Ah 0,rv (.slice none 0 0)]):=λa w Z ha _=>by
  have hb:Tryz.prog.built 31 []=some #[(.int .i64 0),((.slice none 0 0))]:=by
    rw[J5];simp[Instr.fill,Value.cells]
  refine⟨.agg #[(.int .i64 0),((.slice none 0 0))],⟨[(.int .i64 0),((.slice none 0 0))],rfl,rfl,rfl,trivial⟩,?_⟩;have:=run_build w 31 #[] _ (by simpa using hb);simp[execOp,this]
theorem Dh {n:Nat}{c:Cx}{l:Fr}{H:List Ent}{d:Option Nat}{ty:TypeId}{pos:String}{af:Array Edge}{g:Option (Nat×Bool)}{x0:Operand}{r0:Rp}(h0:ev l x0=some r0)(u0:r0.one=true):Bd Tryz.prog n c l H { dst:=d,op:=.build 31 #[(0,x0)],type:=ty,pos:=pos,after:=af,guard:=g } (AT [r0,rv (.slice none 0 0)]):=λa w Z ha _=>by
  have p0:=ha.ev h0;have c0:=Bg (r0.hone u0 Z _ p0);have hb:Tryz.prog.built 31 [(0,a.eval x0)]=some #[a.eval x0,((.slice none 0 0))]:=by
    rw[J5];generalize a.eval x0=v0 at *;simp[Instr.fill,c0]
  refine⟨.agg #[a.eval x0,((.slice none 0 0))],⟨[a.eval x0,((.slice none 0 0))],rfl,p0,rfl,trivial⟩,?_⟩;have:=run_build w 31 #[(0,a.eval x0)] _ (by simpa using hb);simp[execOp,this]
theorem CF {n:Nat}{c:Cx}{l:Fr}{H:List Ent}{d:Option Nat}{ty:TypeId}{pos:String}{af:Array Edge}{g:Option (Nat×Bool)}{x1:Operand}{r1:Rp}(h1:ev l x1=some r1)(u1:r1.one=true):Bd Tryz.prog n c l H { dst:=d,op:=.build 31 #[(1,x1)],type:=ty,pos:=pos,after:=af,guard:=g } (AT [Ah 0,r1]):=λa w Z ha _=>by
  have p1:=ha.ev h1;have c1:=Bg (r1.hone u1 Z _ p1);have hb:Tryz.prog.built 31 [(1,a.eval x1)]=some #[(.int .i64 0),a.eval x1]:=by
    rw[J5];generalize a.eval x1=v1 at *;simp[Instr.fill,c1]
  refine⟨.agg #[(.int .i64 0),a.eval x1],⟨[(.int .i64 0),a.eval x1],rfl,rfl,p1,trivial⟩,?_⟩;have:=run_build w 31 #[(1,a.eval x1)] _ (by simpa using hb);simp[execOp,this]
theorem BZ (ys:(List Ac))(r:(List Ac))(h:CT ys=some r):Fn Tryz.prog GE 39 [AH 4 (Aq Ab ys)] [] (λR H=>R=AH 4 (Aq Ab r)∧H=[]):=by
 refine enter (n:=8) Tryz.func39 Aa Tryz.ntmps39 Aa (λw Z=>?_);unfold CT at h;refine Am (wa Aa (Av (Au (Am (wm Aa (wv (LV BW Aa) (Av (M1 Aa (λc1=>?_) (λc1=>?_)))))))))
 ·have e2:ys=[]:=List.map_eq_nil_iff.1 (c1 rfl);have h3:some ([]:List Ac)=some r:=by rw[e2] at h;exact(Np h).2
  refine Am (wa Aa (Av (A0 (Ai (WK.up (d:=2) (r:=AH 4 (Aq Ab ([]:List Ac))) Aa (Up.le (DE.nil _)) ?_)))));obtain rfl:=A2 h3;exact Az (BJ Tryz.results39 (AN Aa)) sN ⟨Aa,Aa⟩
 ·refine A7 (AW (Am (AZ (ys:=([]:List Ac)) (enc:=Ab) (css:=[]) (xs:=[]) BW Cu Is Aa Aa Aa trivial Aa B1 Aa Aa Aa (λb4=>?_))));refine wm Aa (ck h λg6 h7=>Exists.elim OD λinf hinf=>C1 (xs:=([]:List Ac)) (ys:=ys) (enc:=Ab) (i:=0) BW hinf.1 hinf.2.1 hinf.2.2.1 hinf.2.2.2 Aa Aa Aa Aa Aa (K3.z Aa Aa) B1 I5 g6 Aa (λv5=>?_));refine wa Aa (Av (A0 (WK.freeze (i:=0) Aa (WK.up (d:=2) (r:=AH 4 (Aq Ab (([]:List Ac)++ys))) Aa (Up.fact (i:=0) Aa) ?_))));obtain rfl:=A2 h7;exact Az (BJ Tryz.results39 (AN Aa)) (sS sN) ⟨Aa,Aa⟩
theorem MX (op:Ao)(r:Int×Bool)(h:KQ op=some r):Fn Tryz.prog GE 54 [rS op] [] (λR H=>R=Ce [Ah r.1,rB r.2]∧H=[]):=by
 refine enter (n:=15) Tryz.func54 Aa Tryz.ntmps54 Aa (λw Z=>?_);unfold KQ at h;refine Am (wa Aa (wa Aa (Bs (I8 Aa (λb1=>?_)))));refine Cj (enc:=Gf) (xs:=([]:List (Ao×Int))) (v:=0) (i:=0) JG Eu Aa Aa Aa Aa (H':=[.map b1 (A5 Gf (AP ([]:List (Ao×Int)) ([114,101,97,100]:Ao) 0))]) Aa (Cj (enc:=Gf) (xs:=AP ([]:List (Ao×Int)) ([114,101,97,100]:Ao) 0) (v:=1) (i:=0) JG Eu Aa Aa Aa Aa (H':=[.map b1 (A5 Gf (AP (AP ([]:List (Ao×Int)) ([114,101,97,100]:Ao) 0) ([119,114,105,116,101]:Ao) 1))]) Aa (Cj (enc:=Gf) (xs:=AP (AP ([]:List (Ao×Int)) ([114,101,97,100]:Ao) 0) ([119,114,105,116,101]:Ao) 1) (v:=1) (i:=0) JG Eu Aa Aa Aa Aa (H':=[.map b1 (A5 Gf (AP (AP (AP ([]:List (Ao×Int)) ([114,101,97,100]:Ao) 0) ([119,114,105,116,101]:Ao) 1) ([97,100,100]:Ao) 1))]) Aa (Cj (enc:=Gf) (xs:=AP (AP (AP ([]:List (Ao×Int)) ([114,101,97,100]:Ao) 0) ([119,114,105,116,101]:Ao) 1) ([97,100,100]:Ao) 1) (v:=2) (i:=0) JG Eu Aa Aa Aa Aa (H':=[.map b1 (A5 Gf (AP (AP (AP (AP ([]:List (Ao×Int)) ([114,101,97,100]:Ao) 0) ([119,114,105,116,101]:Ao) 1) ([97,100,100]:Ao) 1) ([99,97,115]:Ao) 2))]) Aa (wm Aa (wm Aa (wv (r:=Ce [Ah (At (AP (AP (AP (AP ([]:List (Ao×Int)) ([114,101,97,100]:Ao) 0) ([119,114,105,116,101]:Ao) 1) ([97,100,100]:Ao) 1) ([99,97,115]:Ao) 2) op 0),rB (Bw (AP (AP (AP (AP ([]:List (Ao×Int)) ([114,101,97,100]:Ao) 0) ([119,114,105,116,101]:Ao) 1) ([97,100,100]:Ao) 1) ([99,97,115]:Ao) 2) op)]) (EI (enc:=Gf) (xs:=AP (AP (AP (AP ([]:List (Ao×Int)) ([114,101,97,100]:Ao) 0) ([119,114,105,116,101]:Ao) 1) ([97,100,100]:Ao) 1) ([99,97,115]:Ao) 2) (z:=0) (i:=0) JG Eu Tryz.zeroValue3 NP Aa Aa Aa) (wm Aa (wv (AG Aa Aa) (wv (AG Aa Aa) (wa Aa (wa Aa (Bs (wm Aa (wm Aa (wa Aa (wa Aa (Av (A0 ?_))))))))))))))))));obtain rfl:=A2 h;exact Az (Hv Tryz.results54 (AN Aa) (AN Aa)) (sS sN) ⟨Aa,Aa⟩
theorem Kh (F:Nat)(op:A3)(r:Int)(h:Jv F op=some r):Fn Tryz.prog GE 36 [AT (Al op)] [] (λR H=>R=Ah r∧H=[]):=by
 refine enter (n:=46) Tryz.func36 Aa Tryz.ntmps36 Aa (λw Z=>?_);unfold Jv at h;refine Am (Bt Aa Aa (λb1=>?_));refine wa Aa (Bs (vF BI Aa CM (vL 0 Dm Aa (ob h λr2 e4 h3=>Cw Tryz.call54 (MX op.fOp r2 e4) Aa (wm Aa (wv (AG Aa Aa) (wv (AG Aa Aa) (wa Aa (wa Aa (Av (Au (AU [(1,rP b1 0),(3,Ah r2.1),(27,rB ((!(Lw op.fEntity))||((!(Lw op.fID))||(!r2.2))))] [.blk b1 (Al op) 25] ?_ ?_))))))))))))
 ·refine A4 (vF BI Aa CM (vL 0 Dm Aa (EF (rs:=[rS op.fEntity]) (r:=rB (Lw op.fEntity)) Tryz.call55 Aa (Pi op.fEntity) Aa Aa (wv (B5 Aa) (wm Aa (AY (!(Lw op.fEntity)) (λc5=>?_) (λc5=>?_)))))))
  ·refine wf c5 (wf c5 (wf c5 (wf c5 (wv (r:=rB true) (Ar Aa c5 Aa) (wm Aa (wz Aa Aa (wz Aa Aa (wv (r:=rB true) (Ar (b:=true) Aa Aa Aa) (A1 ?_)))))))));exact CW c5
  ·refine wo c5 (vF BI Aa CM (wo c5 (vL 0 Dm Aa (wo c5 (EF (rs:=[rS op.fID]) (r:=rB (Lw op.fID)) Tryz.call55 Aa (Pi op.fID) Aa Aa (wo c5 (wv (B5 Aa) (G1 Aa c5 Aa (wm Aa (AY (!(Lw op.fID)) (λc6=>?_) (λc6=>?_)))))))))))
   ·refine wf c6 (wf c6 (wv (r:=rB true) (Ar Aa c6 Aa) (A1 ?_)));exact CW (And.intro c5 c6)
   ·refine wo c6 (wm Aa (wo c6 (wv (B5 Aa) (G1 Aa c6 Aa (A1 ?_)))));exact CW (And.intro c5 c6)
 refine cz h3 Aa (λc7 h8=>?_) (λc7 h9=>?_)
 ·refine Am (wa Aa (Av (A0 (Ai ?_))));obtain rfl:=A2 h8;exact Az (BJ N3 (AN Aa)) (sS sN) ⟨Aa,Aa⟩
 ·refine A7 (AW (Au (Am (vF BI Aa Ex (vL 0 GT Aa (wv (Bb (ys:=op.fArgs) (enc:=Ak) D1 Aa) (wm Aa (wv (CK Aa Aa) (Av (cz h9 Aa (λhg hh=>?_) (λhg hi=>?_)))))))))))
  ·refine Am (wa Aa (Av (A0 (Ai ?_))));obtain rfl:=A2 hh;exact Az (BJ N3 (AN Aa)) (sS sN) ⟨Aa,Aa⟩
  ·refine A7 (AW (Au (Am (vF BI Aa Ex (vL 0 GT Aa (wv (Bb (ys:=op.fArgs) (enc:=Ak) D1 Aa) (wv (r:=Ah 0) (Ax Aa) (Av (AS (ob hi λhj hk hf=>BF (S:=Nat×(Int)×(Unit)) (V:=(Unit)×(Unit)) 0 (λσ=>CB (λσ=>EO F op σ) σ.1 σ.2.1=some hj) (λσ=>[(34,AH 1 (Aq Ak op.fArgs)),(35,Ah (op.fArgs.length:Int)),(36,Ah σ.2.1)]) (λσ=>[]) (λσ=>σ.1) (F,0,()) hk (AQ.c Aa (AQ.c Aa (AQ.c Aa AQ.nil))) (sS sN) (λσ=>EN =some r) (λσ=>[]) (λσ=>[]) ?_ ?_))))))))))
   ·rintro⟨h6,ha,⟨⟩⟩ hl;refine Ch (l':=[(34,AH 1 (Aq Ak op.fArgs)),(35,Ah (op.fArgs.length:Int)),(36,Ah ha)]) (H':=[]) Aa Aa ?_;obtain⟨hm,rfl,hn,hb,he⟩:=Ds hl;replace hb:EO F op ha=some hn:=hb;unfold EO at hb;refine Am (wv (D8 Aa Aa) (Av (Au (cz hb Aa (λho hp=>?_) (λho hq=>?_)))))
    ·refine A7 (AW (Au (AS (Am (ck hp λhr hs=>wv (Bu (enc:=Ak) (ys:=op.fArgs) D1 D2 Aa Aa hr) (wv (Bj Ez Aa Aa) (wa Aa (Bs (wm Aa (ob hs λht hu hw=>Cw Tryz.call37 (JN F (Aj op.fArgs ha) ht hu) Aa (wa Aa (Bs (wm Aa (wv (CK Aa Aa) (Av (cz hw Aa (λhx hy=>?_) (λhx hz=>?_)))))))))))))))))
     ·refine Am (wm Aa (wa Aa (Av (A0 (AI (Ai (Ai (B2 ?_))))))));have h0:=Cc hy he hf;refine AI (Ai ?_);obtain rfl:=A2 h0;exact Az (BJ N3 (AN Aa)) sN ⟨Aa,Aa⟩
     ·refine A7 (AX (AW (A4 (ck hz λh1 h2=>wv (BS Aa Aa h1) (wm Aa (A1 ?_))))));have h4:=BG h2 he;exact AE (AR (hm,ha+1,()) ⟨h4,PX _⟩ (AQ.c Aa (AQ.c Aa (AQ.c Aa AQ.nil))) sN)
    ·refine B7 (AB ?_);have h5:=Cy hq he hf;exact AB (Bp (AR ((),()) h5 AQ.nil sN))
   ·rintro⟨⟨⟩,⟨⟩⟩ hd;refine Dr (l':=[]) (H':=[]) Aa Aa ?_;replace hd:EN =some r:=hd;unfold EN at hd;refine Bi (AW (Am (wa Aa (Av (A0 ?_)))));obtain rfl:=A2 hd;exact Az (BJ N3 (AN Aa)) sN ⟨Aa,Aa⟩
theorem Kd (state:(List Ac))(args:(List (List Ac)))(r:(List Ac)×A8)(h:Hg state args=some r):Fn Tryz.prog GE 57 [AH 4 (Aq Ab state),AH 1 (Aq Ak args)] [] (λR H=>R=Ce [AH 4 (Aq Ab r.1),AT (Aw r.2)]∧H=[]):=by
 refine enter (n:=10) Tryz.func57 Aa Tryz.ntmps57 Aa (λw Z=>?_);unfold Hg at h;refine Am (wa Aa (Bl (cs:=[Ah 0,rv (.slice none 0 0)]) Gw Aa Aa (λb1=>?_)));refine Bs (wm Aa (wm Aa (ob h λr2 e4 h3=>Cw H5 (BZ state r2 e4) Aa (wv (r:=AT [Ah 0,AH 4 (Aq Ab r2)]) (CF Aa Aa) (wa Aa (A6 (i:=0) B4 Aa Aa Aa (AV.c Aa) Aa Aa (cs':=[Ah 0,AH 4 (Aq Ab r2)]) Aa (H':=[.blk b1 [Ah 0,AH 4 (Aq Ab r2)] 31]) Aa (Av (A0 ?_))))))));obtain rfl:=A2 h3;exact Az (Hv Tryz.results57 (AN Aa) (BC (i:=0) Du B4 Aa Aa Aa)) (sS sN) ⟨Aa,Aa⟩
theorem Js (state:(List Ac))(args:(List (List Ac)))(r:(List Ac)×A8)(h:Gn state args=some r):Fn Tryz.prog GE 58 [AH 4 (Aq Ab state),AH 1 (Aq Ak args)] [] (λR H=>R=Ce [AH 4 (Aq Ab r.1),AT (Aw r.2)]∧H=[]):=by
 refine enter (n:=12) Tryz.func58 Aa Tryz.ntmps58 Aa (λw Z=>?_);unfold Gn at h;refine Am (wa Aa (Bl (cs:=[Ah 0,rv (.slice none 0 0)]) Gw Aa Aa (λb1=>?_)));refine Bs (wm Aa (ck h λg2 h3=>wv (Bu (enc:=Ak) (ys:=args) D1 D2 Aa Aa g2) (wv (Bj Ez Aa Aa) (ob h3 λr4 e6 h5=>Cw H5 (BZ (Aj args 0) r4 e6) Aa (ob h5 λr7 e9 h8=>Cw Mv (G5 r7 e9) Aa (wv (r:=AT [Ah 0,AH 4 (Aq Ab r7)]) (CF Aa Aa) (wa Aa (A6 (i:=0) B4 Aa Aa Aa (AV.c Aa) Aa Aa (cs':=[Ah 0,AH 4 (Aq Ab r7)]) Aa (H':=[.blk b1 [Ah 0,AH 4 (Aq Ab r7)] 31]) Aa (Av (A0 ?_))))))))));obtain rfl:=A2 h8;exact Az (Hv Tryz.results58 (AN Aa) (BC (i:=0) Du B4 Aa Aa Aa)) (sS sN) ⟨Aa,Aa⟩
theorem KL (F:Nat)(state:(List Ac))(args:(List (List Ac)))(r:(List Ac)×A8)(h:HZ F state args=some r):Fn Tryz.prog GE 60 [AH 4 (Aq Ab state),AH 1 (Aq Ak args)] [] (λR H=>R=Ce [AH 4 (Aq Ab r.1),AT (Aw r.2)]∧H=[]):=by
 refine enter (n:=21) Tryz.func60 Aa Tryz.ntmps60 Aa (λw Z=>?_);unfold HZ at h;refine Am (wa Aa (Bl (cs:=[Ah 0,rv (.slice none 0 0)]) Gw Aa Aa (λb1=>?_)));refine Av (Au (Am (wm Aa (wm Aa (ck h λg2 h3=>wv (Bu (enc:=Ak) (ys:=args) D1 D2 Aa Aa g2) (wv (Bj Ez Aa Aa) (ob h3 λr4 e6 h5=>Cw Tryz.call61 (NB F state (Aj args 0) r4 e6) Aa (wv (B5 Aa) (Av (cz h5 Aa (λc7 h8=>?_) (λc7 hb=>?_)))))))))))
 ·refine Am (wm Aa (ob h8 λr9 hd he=>Cw Tryz.call62 (Lf false r9 hd) Aa (wv (r:=AT [Ah 0,AH 4 (Aq Ab r9)]) (CF Aa Aa) (wa Aa (A6 (i:=0) B4 Aa Aa Aa (AV.c Aa) Aa Aa (cs':=[Ah 0,AH 4 (Aq Ab r9)]) Aa (H':=[.blk b1 [Ah 0,AH 4 (Aq Ab r9)] 31]) Aa (Av (A0 (Ai ?_))))))));obtain rfl:=A2 he;exact Az (Hv Tryz.results60 (AN Aa) (BC (i:=0) Du B4 Aa Aa Aa)) (sS sN) ⟨Aa,Aa⟩
 ·refine A7 (AW (Am (wm Aa (ck hb λhf hg=>wv (Bu (enc:=Ak) (ys:=args) D1 D2 Aa Aa hf) (wv (Bj Ez Aa Aa) (ob hg λhh hi hj=>Cw H5 (BZ (Aj args 1) hh hi) Aa (ob hj λha hk hl=>Cw Tryz.call62 (Lf true ha hk) Aa (wv (r:=AT [Ah 0,AH 4 (Aq Ab ha)]) (CF Aa Aa) (wa Aa (A6 (i:=0) B4 Aa Aa Aa (AV.c Aa) Aa Aa (cs':=[Ah 0,AH 4 (Aq Ab ha)]) Aa (H':=[.blk b1 [Ah 0,AH 4 (Aq Ab ha)] 31]) Aa (Av (A0 ?_))))))))))));obtain rfl:=A2 hl;exact Az (Hv Tryz.results60 (AN Aa) (BC (i:=0) Du B4 Aa Aa Aa)) (sS sN) ⟨Aa,Aa⟩
theorem KI (F:Nat)(n:(List Int))(r:Bool)(h:HT F n=some r):Fn Tryz.prog GE 95 [AH 1 (Aq DQ n)] [] (λR H=>R=rB r∧H=[]):=by
 refine enter (n:=15) Tryz.func95 Aa Tryz.ntmps95 Aa (λw Z=>?_);unfold HT at h;refine Am (wa Aa (Av (Au (Am (wm Aa (wv (Bb (ys:=n) (enc:=DQ) Ms Aa) (wv (r:=Ah 0) (Ax Aa) (Av (AS (ob h λhg hh hf=>BF (S:=Nat×(Int)×(Unit)) (V:=(Unit)×(Unit)) 0 (λσ=>CB (λσ=>DJ n σ) σ.1 σ.2.1=some hg) (λσ=>[(5,AH 1 (Aq DQ n)),(6,Ah (n.length:Int)),(7,Ah σ.2.1)]) (λσ=>[]) (λσ=>σ.1) (F,0,()) hh (AQ.c Aa (AQ.c Aa (AQ.c Aa AQ.nil))) sN (λσ=>DI =some r) (λσ=>[]) (λσ=>[]) ?_ ?_))))))))))
 ·rintro⟨h2,ha,⟨⟩⟩ hi;refine Ch (l':=[(5,AH 1 (Aq DQ n)),(6,Ah (n.length:Int)),(7,Ah ha)]) (H':=[]) Aa Aa ?_;obtain⟨hj,rfl,hk,hb,he⟩:=Ds hi;replace hb:DJ n ha=some hk:=hb;unfold DJ at hb;refine Am (wv (D8 Aa Aa) (Av (Au (cz hb Aa (λhl hm=>?_) (λhl hn=>?_)))))
  ·refine A7 (AW (Au (AS (Am (ck hm λho hp=>wv (Bu (enc:=DQ) (ys:=n) Ms C0 Aa Aa ho) (wv (Bj DN Aa Aa) (wa Aa (Bs (wm Aa (ob hp λhq hr hs=>Cw Tryz.call79 (HX (Aj n ha) hq hr) Aa (wv (B5 Aa) (Av (cz hs Aa (λht hu=>?_) (λht hw=>?_))))))))))))))
   ·refine Am (wa Aa (Av (A0 (AI (Ai (Ai (B2 ?_)))))));have hx:=Cc hu he hf;refine AI (Ai ?_);obtain rfl:=A2 hx;exact Az (BJ Tryz.results95 (AN Aa)) sN ⟨Aa,Aa⟩
   ·refine A7 (AX (AW (A4 (ck hw λhy hz=>wv (BS Aa Aa hy) (wm Aa (A1 ?_))))));have h0:=BG hz he;exact AE (AR (hj,ha+1,()) ⟨h0,PX _⟩ (AQ.c Aa (AQ.c Aa (AQ.c Aa AQ.nil))) sN)
  ·refine B7 (AB ?_);have h1:=Cy hn he hf;exact AB (Bp (AR ((),()) h1 AQ.nil sN))
 ·rintro⟨⟨⟩,⟨⟩⟩ hd;refine Dr (l':=[]) (H':=[]) Aa Aa ?_;replace hd:DI =some r:=hd;unfold DI at hd;refine Bi (AW (Am (wa Aa (Av (A0 ?_)))));obtain rfl:=A2 hd;exact Az (BJ Tryz.results95 (AN Aa)) sN ⟨Aa,Aa⟩
theorem JZ (n:Int)(r:Int×Int)(h:He n=some r):Fn Tryz.prog GE 96 [Ah n] [] (λR H=>R=Ce [Ah r.1,Ah r.2]∧H=[]):=by
 refine enter (n:=8) Tryz.func96 Aa Tryz.ntmps96 Aa (λw Z=>?_);unfold He at h;refine Am (wa Aa (wa Aa (Av (Au (Am (wm Aa (ob h λr1 e3 h2=>Cw Tryz.call79 (HX n r1 e3) Aa (wv (B5 Aa) (Av (cz h2 Aa (λc4 h5=>?_) (λc4 h6=>?_)))))))))))
 ·refine Am (wa Aa (wa Aa (Av (A0 (Ai ?_)))));obtain rfl:=A2 h5;exact Az (Hv Tryz.results96 (AN Aa) (AN Aa)) sN ⟨Aa,Aa⟩
 ·refine A7 (AW (Am (wm Aa (wa Aa (wa Aa (Av (A0 ?_)))))));obtain rfl:=A2 h6;exact Az (Hv Tryz.results96 (AN Aa) (AN Aa)) sN ⟨Aa,Aa⟩
theorem Ka (F:Nat)(a:Int)(b:Int)(r:Int×Int)(h:Jq F a b=some r):Fn Tryz.prog GE 81 [Ah a,Ah b] [] (λR H=>R=Ce [Ah r.1,Ah r.2]∧H=[]):=by
 refine enter (n:=17) Tryz.func81 Aa Tryz.ntmps81 Aa (λw Z=>?_);unfold Jq at h;refine Am (wa Aa (wa Aa (Av (Au (Am (wm Aa (wm Aa (AZ (ys:=([a,b]:List Int)) (enc:=DQ) (css:=[[Ah a],[Ah b]]) (xs:=[.tmp 6,.tmp 7]) Ms C0 Tryz.zeroValue3 Aa Aa Aa ⟨GS.one Aa (Up.refl _),GS.one Aa (Up.refl _),trivial⟩ Aa KX Aa Aa Aa (λb1=>?_)))))))));refine WL.freeze (i:=0) Aa (WL.up (d:=8) (r:=AH 1 (Aq DQ ([a,b]:List Int))) Aa (Up.fact (i:=0) Aa) (ob h λr2 e4 h3=>Cw Tryz.call95 (KI F ([a,b]:List Int) r2 e4) Aa (wv (B5 Aa) (Av (cz h3 Aa (λc5 h6=>?_) (λc5 h7=>?_))))))
 ·refine Am (wa Aa (wa Aa (Av (A0 (Ai ?_)))));obtain rfl:=A2 h6;exact Az (Hv Tryz.results81 (AN Aa) (AN Aa)) (sS sN) ⟨Aa,Aa⟩
 ·refine A7 (AW (Am (wm Aa (wm Aa (ck h7 λg8 h9=>wv (BS Aa Aa g8) (ob h9 λha hb hd=>Cw Tryz.call96 (JZ (a+b) ha hb) Aa (wv (AG Aa Aa) (wv (AG Aa Aa) (wa Aa (wa Aa (Av (A0 ?_))))))))))));obtain rfl:=A2 hd;exact Az (Hv Tryz.results81 (AN Aa) (AN Aa)) (sS sN) ⟨Aa,Aa⟩
theorem MY (F:Nat)(state:(List Ac))(args:(List (List Ac)))(r:(List Ac)×A8)(h:KR F state args=some r):Fn Tryz.prog GE 59 [AH 4 (Aq Ab state),AH 1 (Aq Ak args)] [] (λR H=>R=Ce [AH 4 (Aq Ab r.1),AT (Aw r.2)]∧H=[]):=by
 refine enter (n:=56) Tryz.func59 Aa Tryz.ntmps59 Aa (λw Z=>?_);unfold KR at h;refine Am (wa Aa (Bl (cs:=[Ah 0,rv (.slice none 0 0)]) Gw Aa Aa (λb1=>?_)));refine Bs (wa Aa (Av (Au (Am (wm Aa (ck h λg2 h3=>wv (Bu (enc:=Ab) (ys:=state) BW Cu Aa Aa g2) (wv (B9 BB Aa H4 Aa Aa) (wv (Bj H6 Aa Aa) (Av (AS (Am (wv (BK Aa Aa) (wa Aa (Av (cz h3 Aa (λc4 h5=>?_) (λc4 hh=>?_))))))))))))))))
 ·refine A4 (wm Aa (wv (Bu (enc:=Ab) (ys:=state) BW Cu Aa Aa g2) (wv (B9 BB Aa C0 Aa Aa) (wv (Bj DN Aa Aa) (wa Aa (A1 (AX (AW (Au (Am (wm Aa (ck h5 λg6 h7=>wv (Bu (enc:=Ak) (ys:=args) D1 D2 Aa Aa g6) (wv (Bj Ez Aa Aa) (ck h7 λg8 h9=>wv (Bu (enc:=Ab) (ys:=Aj args 0) BW Cu Aa Aa g8) (wv (B9 BB Aa H4 Aa Aa) (wv (Bj H6 Aa Aa) (wv (CK Aa Aa) (Av (cz h9 Aa (λhi hj=>?_) (λhi hk=>?_))))))))))))))))))))
  ·refine Am (wm Aa (wv (r:=AT [Ah 7,rv (.slice none 0 0)]) (Dh Aa Aa) (wa Aa (A6 (i:=0) B4 Aa Aa Aa (AV.c Aa) Aa Aa (cs':=[Ah 7,rv (.slice none 0 0)]) Aa (H':=[.blk b1 [Ah 7,rv (.slice none 0 0)] 31]) Aa (Av (A0 (Ai (WK.upBlk (i:=0) (cs':=[Ah 7,AH 4 (Aq Ab ([]:List Ac))]) Aa ⟨Up.refl _,Up.le (DE.nil _),trivial⟩ ?_))))))));obtain rfl:=A2 hj;exact Az (Hv K5 (AN Aa) (BC (i:=0) Du B4 Aa Aa Aa)) (sS sN) ⟨Aa,Aa⟩
  ·refine A7 (AW (Am (wm Aa (wm Aa (wv (Bu (enc:=Ak) (ys:=args) D1 D2 Aa Aa g6) (wv (Bj Ez Aa Aa) (wv (Bu (enc:=Ab) (ys:=Aj args 0) BW Cu Aa Aa g8) (wv (B9 BB Aa C0 Aa Aa) (wv (Bj DN Aa Aa) (ob hk λha hl hm=>Cw Tryz.call81 (Ka F ((Aj state 0).fInt) ((Aj (Aj args 0) 0).fInt) ha hl) Aa (wm Aa (wv (AG Aa Aa) (wv (AG Aa Aa) (wa Aa (wa Aa (Av (Au (Am (wm Aa (wv (CK Aa Aa) (Av (cz hm Aa (λhn ho=>?_) (λhn hp=>?_)))))))))))))))))))))))
   ·refine Am (wm Aa (wm Aa (wv (r:=AT [Ah ha.2,rv (.slice none 0 0)]) (Dh Aa Aa) (wa Aa (A6 (i:=0) B4 Aa Aa Aa (AV.c Aa) Aa Aa (cs':=[Ah ha.2,rv (.slice none 0 0)]) Aa (H':=[.blk b1 [Ah ha.2,rv (.slice none 0 0)] 31]) Aa (Av (A0 (Ai (WK.upBlk (i:=0) (cs':=[Ah ha.2,AH 4 (Aq Ab ([]:List Ac))]) Aa ⟨Up.refl _,Up.le (DE.nil _),trivial⟩ ?_)))))))));obtain rfl:=A2 ho;exact Az (Hv K5 (AN Aa) (BC (i:=0) Du B4 Aa Aa Aa)) (sS sN) ⟨Aa,Aa⟩
   ·refine A7 (AW (Am (wm Aa (wv (r:=AT [Ah 3,Ah ha.1,rS ([]:Ao),Ah 0]) (DO Aa Aa Aa Aa) (AZ (ys:=([(Ac.mk 3 ha.1 ([]:Ao) 0)]:List Ac)) (enc:=Ab) (css:=[[Ah 3,Ah ha.1,rS ([]:Ao),Ah 0]]) (xs:=[.tmp 50]) BW Cu Is Aa Aa Aa ⟨GS.agg ⟨Up.refl _,Up.refl _,Up.refl _,Up.refl _,trivial⟩,trivial⟩ Aa B1 Aa Aa Aa (λhq=>?_))))));refine wa Aa (Bs (wm Aa (wm Aa (WL.freeze (i:=0) Aa (WL.up (d:=53) (r:=AH 4 (Aq Ab ([(Ac.mk 3 ha.1 ([]:Ao) 0)]:List Ac))) Aa (Up.fact (i:=0) Aa) (ob hp λhd hr hs=>Cw H5 (BZ ([(Ac.mk 3 ha.1 ([]:Ao) 0)]:List Ac) hd hr) Aa (wv (r:=AT [Ah 0,AH 4 (Aq Ab hd)]) (CF Aa Aa) (wa Aa (A6 (i:=1) B4 Aa Aa Aa (AV.c Aa) Aa Aa (cs':=[Ah 0,AH 4 (Aq Ab hd)]) Aa (H':=[.fact (.slice (some ⟨hq,0,none⟩) 1 1) (AH 4 (Aq Ab ([(Ac.mk 3 ha.1 ([]:Ao) 0)]:List Ac))),.blk b1 [Ah 0,AH 4 (Aq Ab hd)] 31]) Aa (Av (A0 (WK.up (d:=4) (r:=AH 4 (Aq Ab ([(Ac.mk 3 ha.1 ([]:Ao) 0)]:List Ac))) Aa (Up.fact (i:=0) Aa) ?_))))))))))));obtain rfl:=A2 hs;exact Az (Hv K5 (AN Aa) (BC (i:=1) Du B4 Aa Aa Aa)) (sS (sS sN)) ⟨Aa,Aa⟩
 ·refine Am (wv (BK Aa Aa) (wa Aa (Av (cz hh Aa (λht hu=>?_) (λht hw=>?_)))))
  ·refine A7 (AX (AW (Au (Am (wm Aa (ck hu λhf hx=>wv (Bu (enc:=Ak) (ys:=args) D1 D2 Aa Aa hf) (wv (Bj Ez Aa Aa) (ck hx λhg hy=>wv (Bu (enc:=Ab) (ys:=Aj args 0) BW Cu Aa Aa hg) (wv (B9 BB Aa H4 Aa Aa) (wv (Bj H6 Aa Aa) (wv (CK Aa Aa) (Av (cz hy Aa (λhz h0=>?_) (λhz h1=>?_))))))))))))))
   ·refine Am (wm Aa (wv (r:=AT [Ah 7,rv (.slice none 0 0)]) (Dh Aa Aa) (wa Aa (A6 (i:=0) B4 Aa Aa Aa (AV.c Aa) Aa Aa (cs':=[Ah 7,rv (.slice none 0 0)]) Aa (H':=[.blk b1 [Ah 7,rv (.slice none 0 0)] 31]) Aa (Av (A0 (Ai (WK.upBlk (i:=0) (cs':=[Ah 7,AH 4 (Aq Ab ([]:List Ac))]) Aa ⟨Up.refl _,Up.le (DE.nil _),trivial⟩ ?_))))))));obtain rfl:=A2 h0;exact Az (Hv K5 (AN Aa) (BC (i:=0) Du B4 Aa Aa Aa)) (sS sN) ⟨Aa,Aa⟩
   ·refine A7 (AW (Am (wm Aa (wm Aa (wv (Bu (enc:=Ak) (ys:=args) D1 D2 Aa Aa hf) (wv (Bj Ez Aa Aa) (wv (Bu (enc:=Ab) (ys:=Aj args 0) BW Cu Aa Aa hg) (wv (B9 BB Aa C0 Aa Aa) (wv (Bj DN Aa Aa) (ob h1 λhb h2 h4=>Cw Tryz.call81 (Ka F 0 ((Aj (Aj args 0) 0).fInt) hb h2) Aa (wm Aa (wv (AG Aa Aa) (wv (AG Aa Aa) (wa Aa (wa Aa (Av (Au (Am (wm Aa (wv (CK Aa Aa) (Av (cz h4 Aa (λh6 h8=>?_) (λh6 hA=>?_)))))))))))))))))))))))
    ·refine Am (wm Aa (wm Aa (wv (r:=AT [Ah hb.2,rv (.slice none 0 0)]) (Dh Aa Aa) (wa Aa (A6 (i:=0) B4 Aa Aa Aa (AV.c Aa) Aa Aa (cs':=[Ah hb.2,rv (.slice none 0 0)]) Aa (H':=[.blk b1 [Ah hb.2,rv (.slice none 0 0)] 31]) Aa (Av (A0 (Ai (WK.upBlk (i:=0) (cs':=[Ah hb.2,AH 4 (Aq Ab ([]:List Ac))]) Aa ⟨Up.refl _,Up.le (DE.nil _),trivial⟩ ?_)))))))));obtain rfl:=A2 h8;exact Az (Hv K5 (AN Aa) (BC (i:=0) Du B4 Aa Aa Aa)) (sS sN) ⟨Aa,Aa⟩
    ·refine A7 (AW (Am (wm Aa (wv (r:=AT [Ah 3,Ah hb.1,rS ([]:Ao),Ah 0]) (DO Aa Aa Aa Aa) (AZ (ys:=([(Ac.mk 3 hb.1 ([]:Ao) 0)]:List Ac)) (enc:=Ab) (css:=[[Ah 3,Ah hb.1,rS ([]:Ao),Ah 0]]) (xs:=[.tmp 50]) BW Cu Is Aa Aa Aa ⟨GS.agg ⟨Up.refl _,Up.refl _,Up.refl _,Up.refl _,trivial⟩,trivial⟩ Aa B1 Aa Aa Aa (λhB=>?_))))));refine wa Aa (Bs (wm Aa (wm Aa (WL.freeze (i:=0) Aa (WL.up (d:=53) (r:=AH 4 (Aq Ab ([(Ac.mk 3 hb.1 ([]:Ao) 0)]:List Ac))) Aa (Up.fact (i:=0) Aa) (ob hA λhe hC hD=>Cw H5 (BZ ([(Ac.mk 3 hb.1 ([]:Ao) 0)]:List Ac) he hC) Aa (wv (r:=AT [Ah 0,AH 4 (Aq Ab he)]) (CF Aa Aa) (wa Aa (A6 (i:=1) B4 Aa Aa Aa (AV.c Aa) Aa Aa (cs':=[Ah 0,AH 4 (Aq Ab he)]) Aa (H':=[.fact (.slice (some ⟨hB,0,none⟩) 1 1) (AH 4 (Aq Ab ([(Ac.mk 3 hb.1 ([]:Ao) 0)]:List Ac))),.blk b1 [Ah 0,AH 4 (Aq Ab he)] 31]) Aa (Av (A0 (WK.up (d:=4) (r:=AH 4 (Aq Ab ([(Ac.mk 3 hb.1 ([]:Ao) 0)]:List Ac))) Aa (Up.fact (i:=0) Aa) ?_))))))))))));obtain rfl:=A2 hD;exact Az (Hv K5 (AN Aa) (BC (i:=1) Du B4 Aa Aa Aa)) (sS (sS sN)) ⟨Aa,Aa⟩
  ·refine Am (wm Aa (wv (r:=AT [Ah 7,rv (.slice none 0 0)]) (Dh Aa Aa) (wa Aa (A6 (i:=0) B4 Aa Aa Aa (AV.c Aa) Aa Aa (cs':=[Ah 7,rv (.slice none 0 0)]) Aa (H':=[.blk b1 [Ah 7,rv (.slice none 0 0)] 31]) Aa (Av (A0 (AI (Ai (WK.upBlk (i:=0) (cs':=[Ah 7,AH 4 (Aq Ab ([]:List Ac))]) Aa ⟨Up.refl _,Up.le (DE.nil _),trivial⟩ ?_)))))))));obtain rfl:=A2 hw;exact Az (Hv K5 (AN Aa) (BC (i:=0) Du B4 Aa Aa Aa)) (sS sN) ⟨Aa,Aa⟩
theorem GI  (r:(List (Ao×Nat)))(h:MR=some r):Fn Tryz.prog GE 38 [] [] (λR H=>R=LS (A5 mF r)∧H=[]):=by
 refine enter (n:=3) Tryz.func38 Aa Tryz.ntmps38 Aa (λw Z=>?_);unfold MR at h;refine Am (wv (r:=rv (.map none)) (AK Aa) (Bs (I8 Aa (λb1=>?_))));refine Cj (enc:=mF) (xs:=([]:List (Ao×Nat))) (v:=57) (i:=0) JE Eu Aa Aa Aa Aa (H':=[.map b1 (A5 mF (AP ([]:List (Ao×Nat)) ([114,101,97,100]:Ao) 57))]) Aa (Cj (enc:=mF) (xs:=AP ([]:List (Ao×Nat)) ([114,101,97,100]:Ao) 57) (v:=58) (i:=0) JE Eu Aa Aa Aa Aa (H':=[.map b1 (A5 mF (AP (AP ([]:List (Ao×Nat)) ([114,101,97,100]:Ao) 57) ([119,114,105,116,101]:Ao) 58))]) Aa (Cj (enc:=mF) (xs:=AP (AP ([]:List (Ao×Nat)) ([114,101,97,100]:Ao) 57) ([119,114,105,116,101]:Ao) 58) (v:=59) (i:=0) JE Eu Aa Aa Aa Aa (H':=[.map b1 (A5 mF (AP (AP (AP ([]:List (Ao×Nat)) ([114,101,97,100]:Ao) 57) ([119,114,105,116,101]:Ao) 58) ([97,100,100]:Ao) 59))]) Aa (Cj (enc:=mF) (xs:=AP (AP (AP ([]:List (Ao×Nat)) ([114,101,97,100]:Ao) 57) ([119,114,105,116,101]:Ao) 58) ([97,100,100]:Ao) 59) (v:=60) (i:=0) JE Eu Aa Aa Aa Aa (H':=[.map b1 (A5 mF (AP (AP (AP (AP ([]:List (Ao×Nat)) ([114,101,97,100]:Ao) 57) ([119,114,105,116,101]:Ao) 58) ([97,100,100]:Ao) 59) ([99,97,115]:Ao) 60))]) Aa (wm Aa (wa Aa (Av (A0 (WK.freezeM (i:=0) Aa (WK.up (d:=0) (r:=LS (A5 mF (AP (AP (AP (AP ([]:List (Ao×Nat)) ([114,101,97,100]:Ao) 57) ([119,114,105,116,101]:Ao) 58) ([97,100,100]:Ao) 59) ([99,97,115]:Ao) 60))) Aa (Up.fact (i:=0) Aa) ?_)))))))));obtain rfl:=A2 h;exact Az (BJ Tryz.results38 (AN Aa)) (sS sN) ⟨Aa,Aa⟩
theorem OW (F:Nat)(state:(List Ac))(op:A3)(r:(List Ac)×A8×Int)(h:P3 F state op=some r):Fn Tryz.prog GE 11 [AH 4 (Aq Ab state),AT (Al op)] [] (λR H=>R=Ce [AH 4 (Aq Ab r.1),AT (Aw r.2.1),Ah r.2.2]∧H=[]):=by
 refine enter (n:=37) Tryz.func11 Aa Tryz.ntmps11 Aa (λw Z=>?_);unfold P3 at h;refine Am (Bt Aa Aa (λb1=>?_));refine wa Aa (Bl (cs:=[Ah 0,rv (.slice none 0 0)]) Gw Aa Aa (λb2=>?_));refine wa Aa (Av (Au (Am (wv (Ba (i:=1) G0 Dt Aa Aa Aa Aa) (ob h λr3 e5 h4=>Cw Tryz.call36 (Kh F op r3 e5) Aa (wa Aa (Bs (wm Aa (wv (CK Aa Aa) (Av (cz h4 Aa (λc6 h7=>?_) (λc6 h8=>?_))))))))))))
 ·refine Am (wv (r:=AT [Ah 0,rv (.slice none 0 0)]) (Eh ) (wm Aa (wa Aa (A6 (i:=0) B4 Aa Aa Aa (AV.c Aa) Aa Aa (cs':=[Ah 0,rv (.slice none 0 0)]) Aa (H':=[.blk b2 [Ah 0,rv (.slice none 0 0)] 31,.blk b1 (Al op) 25]) Aa (wa Aa (Av (A0 (Ai (WK.up (d:=4) (r:=AH 4 (Aq Ab ([]:List Ac))) Aa (Up.le (DE.nil _)) (WK.upBlk (i:=0) (cs':=[Ah 0,AH 4 (Aq Ab ([]:List Ac))]) Aa ⟨Up.refl _,Up.le (DE.nil _),trivial⟩ ?_))))))))));obtain rfl:=A2 h7;exact Az (Mp LF (AN Aa) (BC (i:=0) Du B4 Aa Aa Aa) (AN Aa)) (sS (sS sN)) ⟨Aa,Aa⟩
 ·refine A7 (AW (Au (Am (wm Aa (ob h8 λr9 hq hr=>Cw Tryz.call37 (JN F state r9 hq) Aa (wa Aa (Bs (wm Aa (wv (CK Aa Aa) (Av (cz hr Aa (λhs ht=>?_) (λhs hu=>?_))))))))))))
  ·refine Am (wv (r:=AT [Ah 0,rv (.slice none 0 0)]) (Eh ) (wm Aa (wa Aa (A6 (i:=0) B4 Aa Aa Aa (AV.c Aa) Aa Aa (cs':=[Ah 0,rv (.slice none 0 0)]) Aa (H':=[.blk b2 [Ah 0,rv (.slice none 0 0)] 31,.blk b1 (Al op) 25]) Aa (wa Aa (Av (A0 (Ai (WK.up (d:=4) (r:=AH 4 (Aq Ab ([]:List Ac))) Aa (Up.le (DE.nil _)) (WK.upBlk (i:=0) (cs':=[Ah 0,AH 4 (Aq Ab ([]:List Ac))]) Aa ⟨Up.refl _,Up.le (DE.nil _),trivial⟩ ?_))))))))));obtain rfl:=A2 ht;exact Az (Mp LF (AN Aa) (BC (i:=0) Du B4 Aa Aa Aa) (AN Aa)) (sS (sS sN)) ⟨Aa,Aa⟩
  ·refine A7 (AW (Au (bz hu (λhn hw=>?_) (λhn hx=>?_))))
   ·refine ob hw λhf hy hz=>ob hz λha h0 h1=>Cb 14 [0,3,5] [⟨[],LS (A5 mF (AP (AP (AP (AP ([]:List (Ao×Nat)) ([114,101,97,100]:Ao) 57) ([119,114,105,116,101]:Ao) 58) ([97,100,100]:Ao) 59) ([99,97,115]:Ao) 60)),none,none,none⟩,⟨[],rP b1 2,none,none,none⟩,⟨[1],rS op.fOp,none,none,none⟩,⟨[0,2],rv (.func (.func 57) #[] #[]),none,none,none⟩,⟨[],AH 4 (Aq Ab state),none,none,none⟩,⟨[4],AH 4 (Aq Ab hf),none,none,none⟩,⟨[],rP b1 3,none,none,none⟩,⟨[6],AH 1 (Aq Ak op.fArgs),none,none,none⟩,⟨[3,5,7],Ce [AH 4 (Aq Ab ha.1),AT (Aw ha.2)],none,none,none⟩,⟨[8],Ce [AH 4 (Aq Ab ha.1),AT (Aw ha.2)],none,none,none⟩,⟨[9],AH 4 (Aq Ab ha.1),none,none,none⟩,⟨[9],AT (Aw ha.2),none,none,none⟩,⟨[],rv undef,some ([Ah 0,rv (.slice none 0 0)],31),none,none⟩,⟨[10],AH 4 (Aq Ab ha.1),none,none,none⟩] ?_ (λβ=>?_)
    ·refine KD (Ep Tryz.call38 (GI (AP (AP (AP (AP ([]:List (Ao×Nat)) ([114,101,97,100]:Ao) 57) ([119,114,105,116,101]:Ao) 58) ([97,100,100]:Ao) 59) ([99,97,115]:Ao) 60) rfl) rfl) (Cm (AL BI rfl CM rfl rfl) (HS (Bq (i:=1) Dm rfl rfl rfl) (Cm (Eg (enc:=mF) (xs:=(AP (AP (AP (AP ([]:List (Ao×Nat)) ([114,101,97,100]:Ao) 57) ([119,114,105,116,101]:Ao) 58) ([97,100,100]:Ao) 59) ([99,97,115]:Ao) 60)) (q:=57) JE Eu rfl rfl (by rw[of_decide_eq_true hn];rfl)) (Cm (Ax rfl) (KD (Ep H5 (BZ state hf hy) rfl) (Cm (AL BI rfl Ex rfl rfl) (HS (Bq (i:=1) GT rfl rfl rfl) (KD (Jn Tryz.call57 (Kd hf op.fArgs ha h0) rfl rfl) (Cm (Ax rfl) (Cm (AG rfl rfl) (Cm (AG rfl rfl) (OV (Ky (cs:=[Ah 0,rv (.slice none 0 0)]) Gw rfl) (Cm (AK rfl) ?_)))))))))))));exact Lp
    refine CN (H1:=[.blk b2 [Ah 0,rv (.slice none 0 0)] 31,.blk b1 (Al op) 25,.blk (β 12) [Ah 0,rv (.slice none 0 0)] 31]) [24,25,26,27,28,29,30,31,32,23,33,34,10,9,0,3,5] ?_;generalize β 12=hg;refine A6 (i:=2) B4 Aa Aa Aa (AV.c Aa) Aa Aa (cs':=[Ah ha.2.fErr,AH 4 (Aq Ab ha.2.fValue)]) Aa (H':=[.blk b2 [Ah 0,rv (.slice none 0 0)] 31,.blk b1 (Al op) 25,.blk hg (Aw ha.2) 31]) Aa (Av (Au (Cb 3 [5,9,10] [⟨[],AH 4 (Aq Ab ha.1),none,none,none⟩,⟨[],AT (Aw ha.2),none,none,none⟩,⟨[0],AH 4 (Aq Ab ha.1),none,none,none⟩] ?_ (λβ=>?_))))
    ·refine Cm (Ax Aa) (HS (Ba (i:=2) Du B4 Aa Aa Aa Aa) (Cm (AK Aa) ?_));exact Lp
    refine CN (H1:=[.blk b2 [Ah 0,rv (.slice none 0 0)] 31,.blk b1 (Al op) 25,.blk hg (Aw ha.2) 31]) [35,36,4,5,9,10] ?_;refine A6 (i:=0) B4 Aa Aa Aa (AV.c Aa) Aa Aa (cs':=[Ah ha.2.fErr,AH 4 (Aq Ab ha.2.fValue)]) Aa (H':=[.blk b2 (Aw ha.2) 31,.blk b1 (Al op) 25,.blk hg (Aw ha.2) 31]) Aa (wa Aa (Av (A0 ?_)));obtain rfl:=A2 h1;exact Az (Mp LF (AN Aa) (BC (i:=0) Du B4 Aa Aa Aa) (AN Aa)) (sS (sS (sS sN))) ⟨Aa,Aa⟩
   ·refine bz hx (λho h2=>?_) (λho h3=>?_)
    ·refine ob h2 λhh h5 h6=>ob h6 λhb h9 hA=>Cb 14 [0,3,5] [⟨[],LS (A5 mF (AP (AP (AP (AP ([]:List (Ao×Nat)) ([114,101,97,100]:Ao) 57) ([119,114,105,116,101]:Ao) 58) ([97,100,100]:Ao) 59) ([99,97,115]:Ao) 60)),none,none,none⟩,⟨[],rP b1 2,none,none,none⟩,⟨[1],rS op.fOp,none,none,none⟩,⟨[0,2],rv (.func (.func 58) #[] #[]),none,none,none⟩,⟨[],AH 4 (Aq Ab state),none,none,none⟩,⟨[4],AH 4 (Aq Ab hh),none,none,none⟩,⟨[],rP b1 3,none,none,none⟩,⟨[6],AH 1 (Aq Ak op.fArgs),none,none,none⟩,⟨[3,5,7],Ce [AH 4 (Aq Ab hb.1),AT (Aw hb.2)],none,none,none⟩,⟨[8],Ce [AH 4 (Aq Ab hb.1),AT (Aw hb.2)],none,none,none⟩,⟨[9],AH 4 (Aq Ab hb.1),none,none,none⟩,⟨[9],AT (Aw hb.2),none,none,none⟩,⟨[],rv undef,some ([Ah 0,rv (.slice none 0 0)],31),none,none⟩,⟨[10],AH 4 (Aq Ab hb.1),none,none,none⟩] ?_ (λβ=>?_)
     ·refine KD (Ep Tryz.call38 (GI (AP (AP (AP (AP ([]:List (Ao×Nat)) ([114,101,97,100]:Ao) 57) ([119,114,105,116,101]:Ao) 58) ([97,100,100]:Ao) 59) ([99,97,115]:Ao) 60) rfl) rfl) (Cm (AL BI rfl CM rfl rfl) (HS (Bq (i:=1) Dm rfl rfl rfl) (Cm (Eg (enc:=mF) (xs:=(AP (AP (AP (AP ([]:List (Ao×Nat)) ([114,101,97,100]:Ao) 57) ([119,114,105,116,101]:Ao) 58) ([97,100,100]:Ao) 59) ([99,97,115]:Ao) 60)) (q:=58) JE Eu rfl rfl (by rw[of_decide_eq_true ho];rfl)) (Cm (Ax rfl) (KD (Ep H5 (BZ state hh h5) rfl) (Cm (AL BI rfl Ex rfl rfl) (HS (Bq (i:=1) GT rfl rfl rfl) (KD (Jn Tryz.call58 (Js hh op.fArgs hb h9) rfl rfl) (Cm (Ax rfl) (Cm (AG rfl rfl) (Cm (AG rfl rfl) (OV (Ky (cs:=[Ah 0,rv (.slice none 0 0)]) Gw rfl) (Cm (AK rfl) ?_)))))))))))));exact Lp
     refine CN (H1:=[.blk b2 [Ah 0,rv (.slice none 0 0)] 31,.blk b1 (Al op) 25,.blk (β 12) [Ah 0,rv (.slice none 0 0)] 31]) [24,25,26,27,28,29,30,31,32,23,33,34,10,9,0,3,5] ?_;generalize β 12=hi;refine A6 (i:=2) B4 Aa Aa Aa (AV.c Aa) Aa Aa (cs':=[Ah hb.2.fErr,AH 4 (Aq Ab hb.2.fValue)]) Aa (H':=[.blk b2 [Ah 0,rv (.slice none 0 0)] 31,.blk b1 (Al op) 25,.blk hi (Aw hb.2) 31]) Aa (Av (Au (Cb 3 [5,9,10] [⟨[],AH 4 (Aq Ab hb.1),none,none,none⟩,⟨[],AT (Aw hb.2),none,none,none⟩,⟨[0],AH 4 (Aq Ab hb.1),none,none,none⟩] ?_ (λβ=>?_))))
     ·refine Cm (Ax Aa) (HS (Ba (i:=2) Du B4 Aa Aa Aa Aa) (Cm (AK Aa) ?_));exact Lp
     refine CN (H1:=[.blk b2 [Ah 0,rv (.slice none 0 0)] 31,.blk b1 (Al op) 25,.blk hi (Aw hb.2) 31]) [35,36,4,5,9,10] ?_;refine A6 (i:=0) B4 Aa Aa Aa (AV.c Aa) Aa Aa (cs':=[Ah hb.2.fErr,AH 4 (Aq Ab hb.2.fValue)]) Aa (H':=[.blk b2 (Aw hb.2) 31,.blk b1 (Al op) 25,.blk hi (Aw hb.2) 31]) Aa (wa Aa (Av (A0 ?_)));obtain rfl:=A2 hA;exact Az (Mp LF (AN Aa) (BC (i:=0) Du B4 Aa Aa Aa) (AN Aa)) (sS (sS (sS sN))) ⟨Aa,Aa⟩
    ·refine bz h3 (λhp hB=>?_) (λhp hC=>?_)
     ·refine ob hB λhj hD hE=>ob hE λhd hG hH=>Cb 14 [0,3,5] [⟨[],LS (A5 mF (AP (AP (AP (AP ([]:List (Ao×Nat)) ([114,101,97,100]:Ao) 57) ([119,114,105,116,101]:Ao) 58) ([97,100,100]:Ao) 59) ([99,97,115]:Ao) 60)),none,none,none⟩,⟨[],rP b1 2,none,none,none⟩,⟨[1],rS op.fOp,none,none,none⟩,⟨[0,2],rv (.func (.func 59) #[] #[]),none,none,none⟩,⟨[],AH 4 (Aq Ab state),none,none,none⟩,⟨[4],AH 4 (Aq Ab hj),none,none,none⟩,⟨[],rP b1 3,none,none,none⟩,⟨[6],AH 1 (Aq Ak op.fArgs),none,none,none⟩,⟨[3,5,7],Ce [AH 4 (Aq Ab hd.1),AT (Aw hd.2)],none,none,none⟩,⟨[8],Ce [AH 4 (Aq Ab hd.1),AT (Aw hd.2)],none,none,none⟩,⟨[9],AH 4 (Aq Ab hd.1),none,none,none⟩,⟨[9],AT (Aw hd.2),none,none,none⟩,⟨[],rv undef,some ([Ah 0,rv (.slice none 0 0)],31),none,none⟩,⟨[10],AH 4 (Aq Ab hd.1),none,none,none⟩] ?_ (λβ=>?_)
      ·refine KD (Ep Tryz.call38 (GI (AP (AP (AP (AP ([]:List (Ao×Nat)) ([114,101,97,100]:Ao) 57) ([119,114,105,116,101]:Ao) 58) ([97,100,100]:Ao) 59) ([99,97,115]:Ao) 60) rfl) rfl) (Cm (AL BI rfl CM rfl rfl) (HS (Bq (i:=1) Dm rfl rfl rfl) (Cm (Eg (enc:=mF) (xs:=(AP (AP (AP (AP ([]:List (Ao×Nat)) ([114,101,97,100]:Ao) 57) ([119,114,105,116,101]:Ao) 58) ([97,100,100]:Ao) 59) ([99,97,115]:Ao) 60)) (q:=59) JE Eu rfl rfl (by rw[of_decide_eq_true hp];rfl)) (Cm (Ax rfl) (KD (Ep H5 (BZ state hj hD) rfl) (Cm (AL BI rfl Ex rfl rfl) (HS (Bq (i:=1) GT rfl rfl rfl) (KD (Jn Tryz.call59 (MY F hj op.fArgs hd hG) rfl rfl) (Cm (Ax rfl) (Cm (AG rfl rfl) (Cm (AG rfl rfl) (OV (Ky (cs:=[Ah 0,rv (.slice none 0 0)]) Gw rfl) (Cm (AK rfl) ?_)))))))))))));exact Lp
      refine CN (H1:=[.blk b2 [Ah 0,rv (.slice none 0 0)] 31,.blk b1 (Al op) 25,.blk (β 12) [Ah 0,rv (.slice none 0 0)] 31]) [24,25,26,27,28,29,30,31,32,23,33,34,10,9,0,3,5] ?_;generalize β 12=hk;refine A6 (i:=2) B4 Aa Aa Aa (AV.c Aa) Aa Aa (cs':=[Ah hd.2.fErr,AH 4 (Aq Ab hd.2.fValue)]) Aa (H':=[.blk b2 [Ah 0,rv (.slice none 0 0)] 31,.blk b1 (Al op) 25,.blk hk (Aw hd.2) 31]) Aa (Av (Au (Cb 3 [5,9,10] [⟨[],AH 4 (Aq Ab hd.1),none,none,none⟩,⟨[],AT (Aw hd.2),none,none,none⟩,⟨[0],AH 4 (Aq Ab hd.1),none,none,none⟩] ?_ (λβ=>?_))))
      ·refine Cm (Ax Aa) (HS (Ba (i:=2) Du B4 Aa Aa Aa Aa) (Cm (AK Aa) ?_));exact Lp
      refine CN (H1:=[.blk b2 [Ah 0,rv (.slice none 0 0)] 31,.blk b1 (Al op) 25,.blk hk (Aw hd.2) 31]) [35,36,4,5,9,10] ?_;refine A6 (i:=0) B4 Aa Aa Aa (AV.c Aa) Aa Aa (cs':=[Ah hd.2.fErr,AH 4 (Aq Ab hd.2.fValue)]) Aa (H':=[.blk b2 (Aw hd.2) 31,.blk b1 (Al op) 25,.blk hk (Aw hd.2) 31]) Aa (wa Aa (Av (A0 ?_)));obtain rfl:=A2 hH;exact Az (Mp LF (AN Aa) (BC (i:=0) Du B4 Aa Aa Aa) (AN Aa)) (sS (sS (sS sN))) ⟨Aa,Aa⟩
     ·refine ck hC λhI hJ=>ob hJ λhl hK hL=>ob hL λhe hN hO=>Cb 14 [0,3,5] [⟨[],LS (A5 mF (AP (AP (AP (AP ([]:List (Ao×Nat)) ([114,101,97,100]:Ao) 57) ([119,114,105,116,101]:Ao) 58) ([97,100,100]:Ao) 59) ([99,97,115]:Ao) 60)),none,none,none⟩,⟨[],rP b1 2,none,none,none⟩,⟨[1],rS op.fOp,none,none,none⟩,⟨[0,2],rv (.func (.func 60) #[] #[]),none,none,none⟩,⟨[],AH 4 (Aq Ab state),none,none,none⟩,⟨[4],AH 4 (Aq Ab hl),none,none,none⟩,⟨[],rP b1 3,none,none,none⟩,⟨[6],AH 1 (Aq Ak op.fArgs),none,none,none⟩,⟨[3,5,7],Ce [AH 4 (Aq Ab he.1),AT (Aw he.2)],none,none,none⟩,⟨[8],Ce [AH 4 (Aq Ab he.1),AT (Aw he.2)],none,none,none⟩,⟨[9],AH 4 (Aq Ab he.1),none,none,none⟩,⟨[9],AT (Aw he.2),none,none,none⟩,⟨[],rv undef,some ([Ah 0,rv (.slice none 0 0)],31),none,none⟩,⟨[10],AH 4 (Aq Ab he.1),none,none,none⟩] ?_ (λβ=>?_)
      ·refine KD (Ep Tryz.call38 (GI (AP (AP (AP (AP ([]:List (Ao×Nat)) ([114,101,97,100]:Ao) 57) ([119,114,105,116,101]:Ao) 58) ([97,100,100]:Ao) 59) ([99,97,115]:Ao) 60) rfl) rfl) (Cm (AL BI rfl CM rfl rfl) (HS (Bq (i:=1) Dm rfl rfl rfl) (Cm (Eg (enc:=mF) (xs:=(AP (AP (AP (AP ([]:List (Ao×Nat)) ([114,101,97,100]:Ao) 57) ([119,114,105,116,101]:Ao) 58) ([97,100,100]:Ao) 59) ([99,97,115]:Ao) 60)) (q:=60) JE Eu rfl rfl (by rw[of_decide_eq_true hI];rfl)) (Cm (Ax rfl) (KD (Ep H5 (BZ state hl hK) rfl) (Cm (AL BI rfl Ex rfl rfl) (HS (Bq (i:=1) GT rfl rfl rfl) (KD (Jn Tryz.call60 (KL F hl op.fArgs he hN) rfl rfl) (Cm (Ax rfl) (Cm (AG rfl rfl) (Cm (AG rfl rfl) (OV (Ky (cs:=[Ah 0,rv (.slice none 0 0)]) Gw rfl) (Cm (AK rfl) ?_)))))))))))));exact Lp
      refine CN (H1:=[.blk b2 [Ah 0,rv (.slice none 0 0)] 31,.blk b1 (Al op) 25,.blk (β 12) [Ah 0,rv (.slice none 0 0)] 31]) [24,25,26,27,28,29,30,31,32,23,33,34,10,9,0,3,5] ?_;generalize β 12=hm;refine A6 (i:=2) B4 Aa Aa Aa (AV.c Aa) Aa Aa (cs':=[Ah he.2.fErr,AH 4 (Aq Ab he.2.fValue)]) Aa (H':=[.blk b2 [Ah 0,rv (.slice none 0 0)] 31,.blk b1 (Al op) 25,.blk hm (Aw he.2) 31]) Aa (Av (Au (Cb 3 [5,9,10] [⟨[],AH 4 (Aq Ab he.1),none,none,none⟩,⟨[],AT (Aw he.2),none,none,none⟩,⟨[0],AH 4 (Aq Ab he.1),none,none,none⟩] ?_ (λβ=>?_))))
      ·refine Cm (Ax Aa) (HS (Ba (i:=2) Du B4 Aa Aa Aa Aa) (Cm (AK Aa) ?_));exact Lp
      refine CN (H1:=[.blk b2 [Ah 0,rv (.slice none 0 0)] 31,.blk b1 (Al op) 25,.blk hm (Aw he.2) 31]) [35,36,4,5,9,10] ?_;refine A6 (i:=0) B4 Aa Aa Aa (AV.c Aa) Aa Aa (cs':=[Ah he.2.fErr,AH 4 (Aq Ab he.2.fValue)]) Aa (H':=[.blk b2 (Aw he.2) 31,.blk b1 (Al op) 25,.blk hm (Aw he.2) 31]) Aa (wa Aa (Av (A0 ?_)));obtain rfl:=A2 hO;exact Az (Mp LF (AN Aa) (BC (i:=0) Du B4 Aa Aa Aa) (AN Aa)) (sS (sS (sS sN))) ⟨Aa,Aa⟩
theorem Ia (F:Nat)(op:A3)(r:A3)(h:Ib F op=some r):Fn Tryz.prog GE 48 [AT (Al op)] [] (λR H=>R=AT (Al r)∧H=[]):=by
 refine enter (n:=24) Tryz.func48 Aa Tryz.ntmps48 Aa (λw Z=>?_);unfold Ib at h;refine Am (Bt Aa Aa (λb1=>?_));refine Bl (cs:=[rS ([]:Ao),rS ([]:Ao),rS ([]:Ao),rv (.slice none 0 0)]) Tryz.zeroValue25 Aa Aa (λb2=>?_);refine Bs (vF BI Aa Ex (vL 1 GT Aa (wa Aa (Bs (vF BI Aa Ex (B8 (i:=1) Ex Aa Aa (BL Aa) Aa Aa (cs':=[rS op.fEntity,rS op.fID,rS op.fOp,rv (.slice none 0 0)]) Aa (H':=[.blk b2 [rS ([]:Ao),rS ([]:Ao),rS ([]:Ao),rv (.slice none 0 0)] 25,.blk b1 [rS op.fEntity,rS op.fID,rS op.fOp,rv (.slice none 0 0)] 25]) Aa (Av (Au (Am (wm Aa (wv (Bb (ys:=op.fArgs) (enc:=Ak) D1 Aa) (wv (r:=Ah 0) (Ax Aa) (Av (AS (WC.nilrow (e:=22) (sz:=1) (G3 (H2:=[.blk b2 [rS ([]:Ao),rS ([]:Ao),rS ([]:Ao),rv (.slice none 0 0)] 25,.blk b1 [rS op.fEntity,rS op.fID,rS op.fOp,rv (.slice none 0 0)] 25,.row (.slice none 0 0                      ) 22 1 (Aq Ak ([]:List (List Ac)))]) ((Af (i:=1) Aa).trans (PN _ ((Af (i:=1) Aa).trans (PN _ (PO _))))) (ob h λhj hk hl=>BF (S:=Nat×(Int×(List (List Ac)))×(Value)) (V:=((List (List Ac)))×(Value)) 0 (λσ=>CB (λσ=>EM op σ.1 σ.2) σ.1 σ.2.1=some hj) (λσ=>[(1,rP b1 0),(2,rP b2 0),(9,AH 1 (Aq Ak op.fArgs)),(10,Ah (op.fArgs.length:Int)),(11,Ah σ.2.1.1)]) (λσ=>[.blk b2 [rS ([]:Ao),rS ([]:Ao),rS ([]:Ao),rv (.slice none 0 0)] 25,.blk b1 [rS op.fEntity,rS op.fID,rS op.fOp,rv σ.2.2] 25,.row σ.2.2 22 1 (Aq Ak σ.2.1.2)]) (λσ=>σ.1) (F,(0,([]:List (List Ac))),(.slice none 0 0                      )) hk (AQ.c5 Aa Aa Aa Aa Aa AQ.nil) (sC (sC (sC sN))) (λσ=>EL op σ.1=some r) (λσ=>[(1,rP b1 0),(2,rP b2 0)]) (λσ=>[.blk b2 [rS ([]:Ao),rS ([]:Ao),rS ([]:Ao),rv (.slice none 0 0)] 25,.blk b1 [rS op.fEntity,rS op.fID,rS op.fOp,rv σ.2] 25,.row σ.2 22 1 (Aq Ak σ.1)]) ?_ ?_)))))))))))))))))
 ·rintro⟨h2,⟨he,hb⟩,v32⟩ hm;refine Ch (l':=[(1,rP b1 0),(2,rP b2 0),(9,AH 1 (Aq Ak op.fArgs)),(10,Ah (op.fArgs.length:Int)),(11,Ah he)]) (H':=[.blk b2 [rS ([]:Ao),rS ([]:Ao),rS ([]:Ao),rv (.slice none 0 0)] 25,.blk b1 [rS op.fEntity,rS op.fID,rS op.fOp,rv v32] 25,.row v32 22 1 (Aq Ak hb)]) Aa Aa ?_;obtain⟨hn,rfl,t51,hf,hi⟩:=Ds hm;replace hf:EM op he hb=some t51:=hf;unfold EM at hf;refine Am (wv (D8 Aa Aa) (Av (Au (cz hf Aa (λho hp=>?_) (λho hq=>?_)))))
  ·refine A7 (AW (Au (AS (Am (ck hp λhr hs=>wv (Bu (enc:=Ak) (ys:=op.fArgs) D1 D2 Aa Aa hr) (wv (Bj Ez Aa Aa) (wa Aa (Av (ob hs λha ht hu=>Cb 5 [1,2,5,9,10,11] [⟨[],rP b1 3,none,none,none⟩,⟨[0],rv v32,none,none,none⟩,⟨[],AH 4 (Aq Ab (Aj op.fArgs he)),none,none,none⟩,⟨[2],AH 4 (Aq Ab ha),none,none,none⟩,⟨[3],AH 1 (Aq Ak ([ha]:List (List Ac))),none,none,none⟩] ?_ (λβ=>?_))))))))))
   ·refine Cm (AL BI Aa Ex Aa Aa) (HS (Bq (i:=1) GT Aa Aa Aa) (Cm (Ax Aa) (KD (Ep H5 (BZ (Aj op.fArgs he) ha ht) Aa) (KD (Iz (ys:=([ha]:List (List Ac))) (enc:=Ak) (css:=[[AH 4 (Aq Ab ha)]]) (xs:=[.tmp 18]) D1 D2 Tryz.zeroValue22 Aa Aa Aa ⟨GS.one Aa (Up.refl _),trivial⟩ Aa C8 Aa Aa) ?_))));exact Lp
   refine CN (H1:=[.blk b2 [rS ([]:Ao),rS ([]:Ao),rS ([]:Ao),rv (.slice none 0 0)] 25,.blk b1 [rS op.fEntity,rS op.fID,rS op.fOp,rv v32] 25,.row v32 22 1 (Aq Ak hb)]) [15,16,17,18,19,1,2,5,9,10,11] ?_;refine ck hu λhw hx=>Exists.elim OF λinf hinf=>C1 (xs:=hb) (ys:=([ha]:List (List Ac))) (enc:=Ak) (i:=2) D1 hinf.1 hinf.2.1 hinf.2.2.1 hinf.2.2.2 Aa Aa Aa Aa Aa (K3.z Aa Aa) C8 HB hw Aa (λv64=>?_);refine vF BI Aa Ex (B8 (i:=2) Ex Aa Aa (GB (i:=0) Aa) Aa Aa (cs':=[rS op.fEntity,rS op.fID,rS op.fOp,rv v64]) Aa (H':=[.row v64 22 1 (Aq Ak (hb++([ha]:List (List Ac)))),.blk b2 [rS ([]:Ao),rS ([]:Ao),rS ([]:Ao),rv (.slice none 0 0)] 25,.blk b1 [rS op.fEntity,rS op.fID,rS op.fOp,rv v64] 25]) Aa (A1 (AX (AW (A4 (ck hx λhy hz=>wv (BS Aa Aa hy) (wm Aa (A1 (BU (H2:=[.blk b2 [rS ([]:Ao),rS ([]:Ao),rS ([]:Ao),rv (.slice none 0 0)] 25,.blk b1 [rS op.fEntity,rS op.fID,rS op.fOp,rv v64] 25,.row v64 22 1 (Aq Ak (hb++([ha]:List (List Ac))))]) ((Af (i:=1) Aa).trans (PN _ ((Af (i:=1) Aa).trans (PN _ (PO _))))) ?_)))))))));have h0:=BG hz hi;exact AE (AR (hn,(he+1,hb++([ha]:List (List Ac))),v64) ⟨h0,PX _⟩ (AQ.c5 Aa Aa Aa Aa Aa AQ.nil) (sC (sC (sC sN))))
  ·refine B7 (AB ?_);have h1:=Cy hq hi hl;exact AB (Bp (AR (hb,v32) h1 (AQ.c Aa (AQ.c Aa AQ.nil)) (sC (sC (sC sN)))))
 ·rintro⟨hg,hd⟩ hh;refine Dr (l':=[(1,rP b1 0),(2,rP b2 0)]) (H':=[.blk b2 [rS ([]:Ao),rS ([]:Ao),rS ([]:Ao),rv (.slice none 0 0)] 25,.blk b1 [rS op.fEntity,rS op.fID,rS op.fOp,rv hd] 25,.row hd 22 1 (Aq Ak hg)]) Aa Aa ?_;replace hh:EL op hg=some r:=hh;unfold EL at hh;refine Bi (AW (Am (wv (Ba (i:=1) G0 Dt Aa Aa Aa Aa) (A6 (i:=0) Dt Aa Aa Aa ⟨(BL Aa),(BL Aa),(BL Aa),(GB (i:=2) Aa),trivial⟩ Aa Aa (cs':=[rS op.fEntity,rS op.fID,rS op.fOp,rv hd]) Aa (H':=[.blk b2 [rS op.fEntity,rS op.fID,rS op.fOp,rv hd] 25,.blk b1 [rS op.fEntity,rS op.fID,rS op.fOp,rv hd] 25,.row hd 22 1 (Aq Ak hg)]) Aa (Av (A0 (WK.freeze (i:=2) Aa (WK.upBlk (i:=1) (cs':=[rS op.fEntity,rS op.fID,rS op.fOp,AH 1 (Aq Ak hg)]) Aa ⟨Up.refl _,Up.refl _,Up.refl _,Up.fact (i:=0) Aa,trivial⟩ ?_))))))));obtain rfl:=A2 hh;exact Az (BJ Tryz.results48 (BC (i:=1) G0 Dt Aa Aa Aa)) (sS (sS (sS sN))) ⟨Aa,Aa⟩
theorem IJ (F:Nat)(c:As)(r:As)(h:HF F c=some r):Fn Tryz.prog GE 45 [AT (Ad c)] [] (λR H=>R=AT (Ad r)∧H=[]):=by
 refine enter (n:=14) Tryz.func45 Aa Tryz.ntmps45 Aa (λw Z=>?_);unfold HF at h;refine Am (Bt Aa Aa (λb1=>?_));refine Bl (cs:=[rS ([]:Ao),rS ([]:Ao),rS ([]:Ao),rv (.slice none 0 0),Ah 0,rv (.slice none 0 0),Ah 0,Ah 0]) H3 Aa Aa (λb2=>?_);refine Bs (vF Ew Aa Dt (wv (Ba (i:=1) G0 Dt Aa Aa Aa Aa) (ob h λr3 e5 h4=>Cw Tryz.call48 (Ia F c.fOp r3 e5) Aa (vF Ew Aa Dt (A6 (i:=1) Dt Aa Aa Aa (AV.c Aa) Aa Aa (cs':=[rS r3.fEntity,rS r3.fID,rS r3.fOp,AH 1 (Aq Ak r3.fArgs),Ah c.fAnswer.fErr,AH 4 (Aq Ab c.fAnswer.fValue),Ah c.fFrom,Ah c.fTo]) Aa (H':=[.blk b2 [rS ([]:Ao),rS ([]:Ao),rS ([]:Ao),rv (.slice none 0 0),Ah 0,rv (.slice none 0 0),Ah 0,Ah 0] 44,.blk b1 [rS r3.fEntity,rS r3.fID,rS r3.fOp,AH 1 (Aq Ak r3.fArgs),Ah c.fAnswer.fErr,AH 4 (Aq Ab c.fAnswer.fValue),Ah c.fFrom,Ah c.fTo] 44]) Aa (Bs (vF Ew Aa B4 (vF Nz Aa D2 (vL 1 Ez Aa (ob h4 λr6 e8 h7=>Cw H5 (BZ c.fAnswer.fValue r6 e8) Aa (vF Ew Aa B4 (vF Nz Aa D2 (B8 (i:=1) D2 Aa Aa (BL Aa) Aa Aa (cs':=[rS r3.fEntity,rS r3.fID,rS r3.fOp,AH 1 (Aq Ak r3.fArgs),Ah c.fAnswer.fErr,AH 4 (Aq Ab r6),Ah c.fFrom,Ah c.fTo]) Aa (H':=[.blk b2 [rS ([]:Ao),rS ([]:Ao),rS ([]:Ao),rv (.slice none 0 0),Ah 0,rv (.slice none 0 0),Ah 0,Ah 0] 44,.blk b1 [rS r3.fEntity,rS r3.fID,rS r3.fOp,AH 1 (Aq Ak r3.fArgs),Ah c.fAnswer.fErr,AH 4 (Aq Ab r6),Ah c.fFrom,Ah c.fTo] 44]) Aa (Bs (wv (Ba (i:=1) Gz Cv Aa Aa Aa Aa) (A6 (i:=0) Cv Aa Aa Aa (AV.c Aa) Aa Aa (cs':=[rS r3.fEntity,rS r3.fID,rS r3.fOp,AH 1 (Aq Ak r3.fArgs),Ah c.fAnswer.fErr,AH 4 (Aq Ab r6),Ah c.fFrom,Ah c.fTo]) Aa (H':=[.blk b2 [rS r3.fEntity,rS r3.fID,rS r3.fOp,AH 1 (Aq Ak r3.fArgs),Ah c.fAnswer.fErr,AH 4 (Aq Ab r6),Ah c.fFrom,Ah c.fTo] 44,.blk b1 [rS r3.fEntity,rS r3.fID,rS r3.fOp,AH 1 (Aq Ak r3.fArgs),Ah c.fAnswer.fErr,AH 4 (Aq Ab r6),Ah c.fFrom,Ah c.fTo] 44]) Aa (Av (A0 ?_))))))))))))))))));obtain rfl:=A2 h7;exact Az (BJ Tryz.results45 (BC (i:=0) Gz Cv Aa Aa Aa)) (sS (sS sN)) ⟨Aa,Aa⟩
theorem MT (F:Nat)(x:(List Ac))(y:(List Ac))(r:Bool)(h:KN F x y=some r):Fn Tryz.prog GE 70 [AH 4 (Aq Ab x),AH 4 (Aq Ab y)] [] (λR H=>R=rB r∧H=[]):=by
 refine enter (n:=8) Tryz.func70 Aa Tryz.ntmps70 Aa (λw Z=>?_);unfold KN at h;refine Am (wa Aa (Bs (wm Aa (wm Aa (ob h λr1 e3 h2=>Cw Tryz.call71 (IB F x y r1 e3) Aa (wa Aa (Av (A0 ?_))))))));obtain rfl:=A2 h2;exact Az (BJ Tryz.results70 (AN Aa)) sN ⟨Aa,Aa⟩
theorem Nn (F:Nat)(a:(List (List Ac)))(b:(List (List Ac)))(r:Bool)(h:Hi F a b=some r):Fn Tryz.prog GE 69 [AH 1 (Aq Ak a),AH 1 (Aq Ak b),rv (.func (.func 70) #[] #[])] [] (λR H=>R=rB r∧H=[]):=by
 refine enter (n:=32) Tryz.func69 Aa Tryz.ntmps69 Aa (λw Z=>?_);unfold Hi at h;refine Am (wa Aa (Av (Au (Am (wm Aa (wv (Bb (ys:=a) (enc:=Ak) D1 Aa) (wm Aa (wv (Bb (ys:=b) (enc:=Ak) D1 Aa) (wv (CK Aa Aa) (Av (cz h Aa (λc1 h2=>?_) (λc1 h3=>?_))))))))))))
 ·refine Am (wa Aa (Av (A0 (Ai ?_))));obtain rfl:=A2 h2;exact Az (BJ Tryz.results69 (AN Aa)) sN ⟨Aa,Aa⟩
 ·refine A7 (AW (Au (Am (wm Aa (wv (Bb (ys:=a) (enc:=Ak) D1 Aa) (wv (r:=Ah 0) (Ax Aa) (Av (AS (ob h3 λhg hh hf=>BF (S:=Nat×(Int)×(Unit)) (V:=(Unit)×(Unit)) 0 (λσ=>CB (λσ=>EX F a b σ) σ.1 σ.2.1=some hg) (λσ=>[(1,AH 1 (Aq Ak b)),(2,rv (.func (.func 70) #[] #[])),(15,AH 1 (Aq Ak a)),(16,Ah (a.length:Int)),(17,Ah σ.2.1)]) (λσ=>[]) (λσ=>σ.1) (F,0,()) hh (AQ.c5 Aa Aa Aa Aa Aa AQ.nil) sN (λσ=>EW =some r) (λσ=>[]) (λσ=>[]) ?_ ?_)))))))))
  ·rintro⟨h6,ha,⟨⟩⟩ hi;refine Ch (l':=[(1,AH 1 (Aq Ak b)),(2,rv (.func (.func 70) #[] #[])),(15,AH 1 (Aq Ak a)),(16,Ah (a.length:Int)),(17,Ah ha)]) (H':=[]) Aa Aa ?_;obtain⟨hj,rfl,hk,hb,he⟩:=Ds hi;replace hb:EX F a b ha=some hk:=hb;unfold EX at hb;refine Am (wv (D8 Aa Aa) (Av (Au (cz hb Aa (λhl hm=>?_) (λhl hn=>?_)))))
   ·refine A7 (AW (Au (AS (Am (wm Aa (ck hm λho hp=>wv (Bu (enc:=Ak) (ys:=a) D1 D2 Aa Aa ho) (wv (Bj Ez Aa Aa) (wa Aa (wa Aa (Bs (wm Aa (wm Aa (ck hp λhq hr=>wv (Bu (enc:=Ak) (ys:=b) D1 D2 Aa Aa hq) (wv (Bj Ez Aa Aa) (wa Aa (Bs (wm Aa (wm Aa (wm Aa (ob hr λhs ht hu=>N8 (rs:=[AH 4 (Aq Ab (Aj a ha)),AH 4 (Aq Ab (Aj b ha))]) (Hin:=[]) (Hr:=[]) Tryz.call70 Aa Aa (PO _) (MT F (Aj a ha) (Aj b ha) hs ht) Aa ?_))))))))))))))))))));rintro _ _ ⟨rfl,rfl⟩;refine wv (B5 Aa) (Av (cz hu Aa (λhw hx=>?_) (λhw hy=>?_)))
    ·refine Am (wa Aa (Av (A0 (AI (Ai (Ai (B2 ?_)))))));have hz:=Cc hx he hf;refine AI (Ai ?_);obtain rfl:=A2 hz;exact Az (BJ Tryz.results69 (AN Aa)) sN ⟨Aa,Aa⟩
    ·refine A7 (AX (AW (A4 (ck hy λh0 h1=>wv (BS Aa Aa h0) (wm Aa (A1 ?_))))));have h4:=BG h1 he;exact AE (AR (hj,ha+1,()) ⟨h4,PX _⟩ (AQ.c5 Aa Aa Aa Aa Aa AQ.nil) sN)
   ·refine B7 (AB ?_);have h5:=Cy hn he hf;exact AB (Bp (AR ((),()) h5 AQ.nil sN))
  ·rintro⟨⟨⟩,⟨⟩⟩ hd;refine Dr (l':=[]) (H':=[]) Aa Aa ?_;replace hd:EW =some r:=hd;unfold EW at hd;refine Bi (AW (Am (wa Aa (Av (A0 ?_)))));obtain rfl:=A2 hd;exact Az (BJ Tryz.results69 (AN Aa)) sN ⟨Aa,Aa⟩
theorem NM (F:Nat)(a:A3)(b:A3)(r:Bool)(h:MU F a b=some r):Fn Tryz.prog GE 46 [AT (Al a),AT (Al b)] [] (λR H=>R=rB r∧H=[]):=by
 refine enter (n:=31) Tryz.func46 Aa Tryz.ntmps46 Aa (λw Z=>?_);unfold MU at h;refine Am (Bt Aa Aa (λb1=>?_));refine Bt Aa Aa (λb2=>?_);refine wa Aa (Av (ck h λg3 h4=>AU [(4,rB ((decide (a.fEntity=b.fEntity))&&((decide (a.fID=b.fID))&&((decide (a.fOp=b.fOp))&&(ov (Hi F a.fArgs b.fArgs))))))] [] ?_ ?_))
 ·refine A4 (vF BI Aa CM (vL 1 Dm Aa (vF BI Aa CM (vL 0 Dm Aa (wv (Gc Aa Aa) (wm Aa (AY (decide (a.fEntity=b.fEntity)) (λc5=>?_) (λc5=>?_))))))))
  ·refine wo c5 (vF BI Aa CM (wo c5 (vL 1 Dm Aa (wo c5 (vF BI Aa CM (wo c5 (vL 0 Dm Aa (wo c5 (wv (Gc Aa Aa) (GU Aa c5 Aa (wm Aa (AY (decide (a.fID=b.fID)) (λc6=>?_) (λc6=>?_)))))))))))))
   ·refine wo c6 (vF BI Aa CM (wo c6 (vL 1 Dm Aa (wo c6 (vF BI Aa CM (wo c6 (vL 0 Dm Aa (wo c6 (wv (Gc Aa Aa) (GU Aa c6 Aa (wm Aa (AY (decide (a.fOp=b.fOp)) (λc7=>?_) (λc7=>?_)))))))))))))
    ·refine wo c7 (vF BI Aa Ex (wo c7 (vL 1 GT Aa (wo c7 (vF BI Aa Ex (wo c7 (vL 0 GT Aa (wo c7 (Cw Tryz.call69 (Nn F a.fArgs b.fArgs (ov (Hi F a.fArgs b.fArgs)) (Jm (Gg (Gg (Gg g3 c5) c6) c7))) Aa (GU Aa c7 Aa (wa Aa (A1 ?_))))))))))));exact CW (And.intro c5 (And.intro c6 c7))
    ·refine wf c7 (wf c7 (wf c7 (wf c7 (wf c7 (wv (r:=rB false) (AJ Aa c7 Aa) (wa Aa (A1 ?_)))))));exact CW (And.intro c5 (And.intro c6 c7))
   ·refine wf c6 (wf c6 (wf c6 (wf c6 (wf c6 (wv (r:=rB false) (AJ Aa c6 Aa) (wm Aa (wz Aa Aa (wz Aa Aa (wz Aa Aa (wz Aa Aa (wz Aa Aa (wv (r:=rB false) (AJ (b:=false) Aa Aa Aa) (wa Aa (A1 ?_))))))))))))));exact CW (And.intro c5 c6)
  ·refine wf c5 (wf c5 (wf c5 (wf c5 (wf c5 (wv (r:=rB false) (AJ Aa c5 Aa) (wm Aa (wz Aa Aa (wz Aa Aa (wz Aa Aa (wz Aa Aa (wz Aa Aa (wv (r:=rB false) (AJ (b:=false) Aa Aa Aa) (wm Aa (wz Aa Aa (wz Aa Aa (wz Aa Aa (wz Aa Aa (wz Aa Aa (wv (r:=rB false) (AJ (b:=false) Aa Aa Aa) (wa Aa (A1 ?_)))))))))))))))))))));exact CW c5
 refine A0 ?_;obtain rfl:=A2 h4;exact Az (BJ Tryz.results46 (AN Aa)) sN ⟨Aa,Aa⟩
end Go.Proofs.YtfbmdidnlhifjaaGreatDoor.Q
namespace Go.Proofs.YtfbmdidnlhifjaaGreatDoor
open Go
set_option linter.unusedVariables false
structure K2 where
 fTime:Int
 fL:(List As)
 deriving DecidableEq,Inhabited
structure Of where
 fKind:Int
 fOp:A3
 fNow:Int
 deriving DecidableEq,Inhabited
def Ii (id:Ao)(n:Int):Option (A3):=
 some (A3.mk ([120]:Ao) id ([97,100,100]:Ao) ([([(Ac.mk 3 n ([]:Ao) 0)]:List Ac)]:List (List Ac)))
def ET (a:(List Ao))(b:(List Ao))(ha:Int):Option (Stp (Int) (Out (Bool) (Unit))):=
 B0 (decide (ha<(a.length:Int))) (Bn (BV ha (a.length:Int))<|Bn (BV ha (b.length:Int))<|B0 (!decide ((Aj a ha)=(Aj b ha))) (some (.out (.ret false))) (Bn (Cr .i64 (ha+1))<|some (.next (ha+1)))) (some (.out (.go ())))
def ES :Option (Bool):=
 some true
def Jy (F:Nat)(a:(List Ao))(b:(List Ao)):Option (Bool):=
 B0 (!decide ((a.length:Int)=(b.length:Int))) (some false) (B6 (CB (λσ=>ET a b σ) F 0) (Cf λν=>ES ))
def Dz (v:(List Ac))(ha:Int):Option (Stp (Int) (Out (Bool) (Unit))):=
 B0 (decide (ha<(v.length:Int))) (Bn (BV ha (v.length:Int))<|B0 (decide (250<(((Aj v ha).fStr).length:Int))) (some (.out (.ret false))) (Bn (Cr .i64 (ha+1))<|some (.next (ha+1)))) (some (.out (.go ())))
def EV :Option (Bool):=
 some true
def If (F:Nat)(v:(List Ac)):Option (Bool):=
 B0 (decide (100<(v.length:Int))) (some false) (B6 (CB (λσ=>Dz v σ) F 0) (Cf λν=>EV ))
def Dy (F:Nat)(op:A3)(ha:Int):Option (Stp (Int) (Out (Bool) (Unit))):=
 B0 (decide (ha<(op.fArgs.length:Int))) (Bn (BV ha (op.fArgs.length:Int))<|B6 (If F (Aj op.fArgs ha)) λhb=>B0 (!hb) (some (.out (.ret false))) (Bn (Cr .i64 (ha+1))<|some (.next (ha+1)))) (some (.out (.go ())))
def EU :Option (Bool):=
 some true
def Ie (F:Nat)(op:A3):Option (Bool):=
 B0 (((decide (100<(op.fEntity.length:Int)))||((decide (100<(op.fID.length:Int)))||((decide (100<(op.fOp.length:Int)))||(decide (4<(op.fArgs.length:Int))))))) (some false) (B6 (CB (λσ=>Dy F op σ) F 0) (Cf λν=>EU ))
end Go.Proofs.YtfbmdidnlhifjaaGreatDoor
namespace Go.Proofs.YtfbmdidnlhifjaaGreatDoor.Q
open Go Go.RowKit
set_option linter.unusedVariables false
set_option linter.unusedSimpArgs false
set_option maxRecDepth 100000
set_option maxHeartbeats 4000000
theorem OE:∃inf,Tryz.prog.info? 44=some inf∧inf.zero=some (.agg #[(.string ⟨#[]⟩),(.string ⟨#[]⟩),(.string ⟨#[]⟩),(.slice none 0 0),(.int .i64 0),(.slice none 0 0),(.int .i64 0),(.int .i64 0)])∧inf.size=8∧inf.bytes=120:=by
  have key:(Tryz.prog.info? 44).map (λi=>(i.zero,i.size,i.bytes))=some (some (.agg #[(.string ⟨#[]⟩),(.string ⟨#[]⟩),(.string ⟨#[]⟩),(.slice none 0 0),(.int .i64 0),(.slice none 0 0),(.int .i64 0),(.int .i64 0)]),8,120):=by kernel_rfl
  obtain⟨inf,h1,h2⟩:=Option.map_eq_some_iff.1 key;simp only[Prod.mk.injEq] at h2;exact⟨inf,h1,h2.1,h2.2.1,h2.2.2⟩
theorem Ob (parts:List (Nat×Value)):Tryz.prog.built 25 parts=Instr.fill (λi=>(#[(0,1),(1,1),(2,1),(3,1)]:Array (Nat×Nat))[i]?) #[(.string ⟨#[]⟩),(.string ⟨#[]⟩),(.string ⟨#[]⟩),((.slice none 0 0))] parts:=by kernel_rfl
theorem GF {n:Nat}{c:Cx}{l:Fr}{H:List Ent}{d:Option Nat}{ty:TypeId}{pos:String}{af:Array Edge}{g:Option (Nat×Bool)}{x0:Operand}{r0:Rp}(h0:ev l x0=some r0)(u0:r0.one=true){x1:Operand}{r1:Rp}(h1:ev l x1=some r1)(u1:r1.one=true){x2:Operand}{r2:Rp}(h2:ev l x2=some r2)(u2:r2.one=true){x3:Operand}{r3:Rp}(h3:ev l x3=some r3)(u3:r3.one=true):Bd Tryz.prog n c l H { dst:=d,op:=.build 25 #[(0,x0),(1,x1),(2,x2),(3,x3)],type:=ty,pos:=pos,after:=af,guard:=g } (AT [r0,r1,r2,r3]):=λa w Z ha _=>by
  have p0:=ha.ev h0;have c0:=Bg (r0.hone u0 Z _ p0);have p1:=ha.ev h1;have c1:=Bg (r1.hone u1 Z _ p1);have p2:=ha.ev h2;have c2:=Bg (r2.hone u2 Z _ p2);have p3:=ha.ev h3;have c3:=Bg (r3.hone u3 Z _ p3);have hb:Tryz.prog.built 25 [(0,a.eval x0),(1,a.eval x1),(2,a.eval x2),(3,a.eval x3)]=some #[a.eval x0,a.eval x1,a.eval x2,a.eval x3]:=by
    rw[Ob];generalize a.eval x0=v0 at *;generalize a.eval x1=v1 at *;generalize a.eval x2=v2 at *;generalize a.eval x3=v3 at *;simp[Instr.fill,c0,c1,c2,c3]
  refine⟨.agg #[a.eval x0,a.eval x1,a.eval x2,a.eval x3],⟨[a.eval x0,a.eval x1,a.eval x2,a.eval x3],rfl,p0,p1,p2,p3,trivial⟩,?_⟩;have:=run_build w 25 #[(0,a.eval x0),(1,a.eval x1),(2,a.eval x2),(3,a.eval x3)] _ (by simpa using hb);simp[execOp,this]
theorem L6 (parts:List (Nat×Value)):Tryz.prog.built 44 parts=Instr.fill (λi=>(#[(0,4),(4,2),(6,1),(7,1)]:Array (Nat×Nat))[i]?) #[(.string ⟨#[]⟩),(.string ⟨#[]⟩),(.string ⟨#[]⟩),((.slice none 0 0)),(.int .i64 0),((.slice none 0 0)),(.int .i64 0),(.int .i64 0)] parts:=by kernel_rfl
theorem Da {n:Nat}{c:Cx}{l:Fr}{H:List Ent}{d:Option Nat}{ty:TypeId}{pos:String}{af:Array Edge}{g:Option (Nat×Bool)}:Bd Tryz.prog n c l H { dst:=d,op:=.build 44 #[],type:=ty,pos:=pos,after:=af,guard:=g } (AT [rS ([]:Ao),rS ([]:Ao),rS ([]:Ao),rv (.slice none 0 0),Ah 0,rv (.slice none 0 0),Ah 0,Ah 0]):=λa w Z ha _=>by
  have hb:Tryz.prog.built 44 []=some #[(.string ⟨#[]⟩),(.string ⟨#[]⟩),(.string ⟨#[]⟩),((.slice none 0 0)),(.int .i64 0),((.slice none 0 0)),(.int .i64 0),(.int .i64 0)]:=by
    rw[L6];simp[Instr.fill,Value.cells]
  refine⟨.agg #[(.string ⟨#[]⟩),(.string ⟨#[]⟩),(.string ⟨#[]⟩),((.slice none 0 0)),(.int .i64 0),((.slice none 0 0)),(.int .i64 0),(.int .i64 0)],⟨[(.string ⟨#[]⟩),(.string ⟨#[]⟩),(.string ⟨#[]⟩),((.slice none 0 0)),(.int .i64 0),((.slice none 0 0)),(.int .i64 0),(.int .i64 0)],rfl,rfl,rfl,rfl,rfl,rfl,rfl,rfl,rfl,trivial⟩,?_⟩;have:=run_build w 44 #[] _ (by simpa using hb);simp[execOp,this]
theorem Eq {n:Nat}{c:Cx}{l:Fr}{H:List Ent}{d:Option Nat}{ty:TypeId}{pos:String}{af:Array Edge}{g:Option (Nat×Bool)}{x0:Operand}{r0_0 r0_1 r0_2 r0_3:Rp}(h0:ev l x0=some (AT [r0_0,r0_1,r0_2,r0_3])){x2:Operand}{r2:Rp}(h2:ev l x2=some r2)(u2:r2.one=true){x3:Operand}{r3:Rp}(h3:ev l x3=some r3)(u3:r3.one=true):Bd Tryz.prog n c l H { dst:=d,op:=.build 44 #[(0,x0),(2,x2),(3,x3)],type:=ty,pos:=pos,after:=af,guard:=g } (AT [r0_0,r0_1,r0_2,r0_3,Ah 0,rv (.slice none 0 0),r2,r3]):=λa w Z ha _=>by
  obtain⟨us0,e0,q0⟩:=ha.ev h0;obtain⟨y0_0,y0_1,y0_2,y0_3,rfl,q0⟩:=AM.d4 q0;have p2:=ha.ev h2;have c2:=Bg (r2.hone u2 Z _ p2);have p3:=ha.ev h3;have c3:=Bg (r3.hone u3 Z _ p3);have cg:∀cs:Array Value,(Value.agg cs).cells=cs:=λ_=>rfl;have hb:Tryz.prog.built 44 [(0,a.eval x0),(2,a.eval x2),(3,a.eval x3)]=some #[y0_0,y0_1,y0_2,y0_3,(.int .i64 0),((.slice none 0 0)),a.eval x2,a.eval x3]:=by
    rw[L6];generalize a.eval x2=v2 at *;generalize a.eval x3=v3 at *;simp[Instr.fill,e0,c2,c3,cg]
  refine⟨.agg #[y0_0,y0_1,y0_2,y0_3,(.int .i64 0),((.slice none 0 0)),a.eval x2,a.eval x3],⟨[y0_0,y0_1,y0_2,y0_3,(.int .i64 0),((.slice none 0 0)),a.eval x2,a.eval x3],rfl,q0.1,q0.2.1,q0.2.2.1,q0.2.2.2.1,rfl,rfl,p2,p3,trivial⟩,?_⟩;have:=run_build w 44 #[(0,a.eval x0),(2,a.eval x2),(3,a.eval x3)] _ (by simpa using hb);simp[execOp,this]
theorem Ih (id:Ao)(n:Int)(r:A3)(h:Ii id n=some r):Fn Tryz.prog GE 35 [rS id,Ah n] [] (λR H=>R=AT (Al r)∧H=[]):=by
 refine enter (n:=11) Tryz.func35 Aa Tryz.ntmps35 Aa (λw Z=>?_);unfold Ii at h;refine Am (Bl (cs:=[rS ([]:Ao),rS ([]:Ao),rS ([]:Ao),rv (.slice none 0 0)]) Tryz.zeroValue25 Aa Aa (λb1=>?_));refine Bs (wm Aa (wm Aa (wv (r:=AT [Ah 3,Ah n,rS ([]:Ao),Ah 0]) (DO Aa Aa Aa Aa) (AZ (ys:=([(Ac.mk 3 n ([]:Ao) 0)]:List Ac)) (enc:=Ab) (css:=[[Ah 3,Ah n,rS ([]:Ao),Ah 0]]) (xs:=[.tmp 7]) BW Cu Is Aa Aa Aa ⟨GS.agg ⟨Up.refl _,Up.refl _,Up.refl _,Up.refl _,trivial⟩,trivial⟩ Aa B1 Aa Aa Aa (λb2=>?_)))));refine WL.freeze (i:=0) Aa (AZ (ys:=([([(Ac.mk 3 n ([]:Ao) 0)]:List Ac)]:List (List Ac))) (enc:=Ak) (css:=[[AH 4 (Aq Ab ([(Ac.mk 3 n ([]:Ao) 0)]:List Ac))]]) (xs:=[.tmp 8]) D1 D2 Tryz.zeroValue22 Aa Aa Aa ⟨GS.one Aa (Up.fact (i:=0) Aa),trivial⟩ Aa C8 Aa Aa Aa (λb3=>?_));refine wv (r:=AT [rS ([120]:Ao),rS id,rS ([97,100,100]:Ao),rv (.slice (some ⟨b3,0,none⟩) 1 1)]) (GF Aa Aa Aa Aa Aa Aa Aa Aa) (A6 (i:=2) Dt Aa Aa Aa ⟨(BL Aa),(BL Aa),(BL Aa),(GB (i:=0) Aa),trivial⟩ Aa Aa (cs':=[rS ([120]:Ao),rS id,rS ([97,100,100]:Ao),rv (.slice (some ⟨b3,0,none⟩) 1 1)]) Aa (H':=[.row (.slice (some ⟨b3,0,none⟩) 1 1) 22 1 (Aq Ak ([([(Ac.mk 3 n ([]:Ao) 0)]:List Ac)]:List (List Ac))),.fact (.slice (some ⟨b2,0,none⟩) 1 1) (AH 4 (Aq Ab ([(Ac.mk 3 n ([]:Ao) 0)]:List Ac))),.blk b1 [rS ([120]:Ao),rS id,rS ([97,100,100]:Ao),rv (.slice (some ⟨b3,0,none⟩) 1 1)] 25]) Aa (Av (A0 (WK.freeze (i:=0) Aa (WK.upBlk (i:=2) (cs':=[rS ([120]:Ao),rS id,rS ([97,100,100]:Ao),AH 1 (Aq Ak ([([(Ac.mk 3 n ([]:Ao) 0)]:List Ac)]:List (List Ac)))]) Aa ⟨Up.refl _,Up.refl _,Up.refl _,Up.fact (i:=0) Aa,trivial⟩ ?_)))));obtain rfl:=A2 h;exact Az (BJ Tryz.results35 (BC (i:=2) G0 Dt Aa Aa Aa)) (sS (sS (sS sN))) ⟨Aa,Aa⟩
theorem Km (F:Nat)(a:(List Ao))(b:(List Ao))(r:Bool)(h:Jy F a b=some r):Fn Tryz.prog GE 23 [AH 1 (Aq eS a),AH 1 (Aq eS b)] [] (λR H=>R=rB r∧H=[]):=by
 refine enter (n:=26) Tryz.func23 Aa Tryz.ntmps23 Aa (λw Z=>?_);unfold Jy at h;refine Am (wa Aa (Av (Au (Am (wm Aa (wv (Bb (ys:=a) (enc:=eS) Ev Aa) (wm Aa (wv (Bb (ys:=b) (enc:=eS) Ev Aa) (wv (CK Aa Aa) (Av (cz h Aa (λc1 h2=>?_) (λc1 h3=>?_))))))))))))
 ·refine Am (wa Aa (Av (A0 (Ai ?_))));obtain rfl:=A2 h2;exact Az (BJ Tryz.results23 (AN Aa)) sN ⟨Aa,Aa⟩
 ·refine A7 (AW (Au (Am (wm Aa (wv (Bb (ys:=a) (enc:=eS) Ev Aa) (wv (r:=Ah 0) (Ax Aa) (Av (AS (ob h3 λhg hh hf=>BF (S:=Nat×(Int)×(Unit)) (V:=(Unit)×(Unit)) 0 (λσ=>CB (λσ=>ET a b σ) σ.1 σ.2.1=some hg) (λσ=>[(0,AH 1 (Aq eS a)),(1,AH 1 (Aq eS b)),(12,Ah (a.length:Int)),(13,Ah σ.2.1)]) (λσ=>[]) (λσ=>σ.1) (F,0,()) hh (AQ.c Aa (AQ.c Aa (AQ.c Aa (AQ.c Aa AQ.nil)))) sN (λσ=>ES =some r) (λσ=>[]) (λσ=>[]) ?_ ?_)))))))))
  ·rintro⟨h1,ha,⟨⟩⟩ hi;refine Ch (l':=[(0,AH 1 (Aq eS a)),(1,AH 1 (Aq eS b)),(12,Ah (a.length:Int)),(13,Ah ha)]) (H':=[]) Aa Aa ?_;obtain⟨hj,rfl,hk,hb,he⟩:=Ds hi;replace hb:ET a b ha=some hk:=hb;unfold ET at hb;refine Am (wv (D8 Aa Aa) (Av (Au (cz hb Aa (λhl hm=>?_) (λhl hn=>?_)))))
   ·refine A7 (AW (Au (AS (Am (wm Aa (wa Aa (Av (Au (ck hm λho hp=>ck hp λhq hr=>D3 [0,1,5,12,13] [⟨[],AH 1 (Aq eS a),0⟩,⟨[],Ah ha,0⟩,⟨[0,1],MF [rS (Aj a ha)],0⟩,⟨[2],rS (Aj a ha),0⟩,⟨[],AH 1 (Aq eS b),0⟩,⟨[],Ah ha,0⟩,⟨[4,5],MF [rS (Aj b ha)],0⟩,⟨[6],rS (Aj b ha),0⟩,⟨[3,7],rB (!decide ((Aj a ha)=(Aj b ha))),0⟩] [24,0,1,12,13] ?_ ?_)))))))))
    ·refine oq (Ax Aa) (oq (Ax Aa) (oq (Bu (enc:=eS) (ys:=a) Ev CM Aa Aa ho) (oq (Bj Dm Aa Aa) (oq (Ax Aa) (oq (Ax Aa) (oq (Bu (enc:=eS) (ys:=b) Ev CM Aa Aa hq) (oq (Bj Dm Aa Aa) (oq (Oq Aa Aa) ?_))))))));exact CZ
    refine AW (cz hr Aa (λhs ht=>?_) (λhs hu=>?_))
    ·refine Am (wa Aa (Av (A0 (AI (Ai (Ai (B2 ?_)))))));have hw:=Cc ht he hf;refine AI (Ai ?_);obtain rfl:=A2 hw;exact Az (BJ Tryz.results23 (AN Aa)) sN ⟨Aa,Aa⟩
    ·refine A7 (AX (AW (A4 (ck hu λhx hy=>wv (BS Aa Aa hx) (wm Aa (A1 ?_))))));have hz:=BG hy he;exact AE (AR (hj,ha+1,()) ⟨hz,PX _⟩ (AQ.c Aa (AQ.c Aa (AQ.c Aa (AQ.c Aa AQ.nil)))) sN)
   ·refine B7 (AB ?_);have h0:=Cy hn he hf;exact AB (Bp (AR ((),()) h0 AQ.nil sN))
  ·rintro⟨⟨⟩,⟨⟩⟩ hd;refine Dr (l':=[]) (H':=[]) Aa Aa ?_;replace hd:ES =some r:=hd;unfold ES at hd;refine Bi (AW (Am (wa Aa (Av (A0 ?_)))));obtain rfl:=A2 hd;exact Az (BJ Tryz.results23 (AN Aa)) sN ⟨Aa,Aa⟩
theorem Nf (F:Nat)(v:(List Ac))(r:Bool)(h:If F v=some r):Fn Tryz.prog GE 8 [AH 4 (Aq Ab v)] [] (λR H=>R=rB r∧H=[]):=by
 refine enter (n:=20) Tryz.func8 Aa Tryz.ntmps8 Aa (λw Z=>?_);unfold If at h;refine Am (wa Aa (Av (Au (Am (wm Aa (wv (Bb (ys:=v) (enc:=Ab) BW Aa) (wv (DW Aa Aa) (Av (cz h Aa (λc1 h2=>?_) (λc1 h3=>?_))))))))))
 ·refine Am (wa Aa (Av (A0 (Ai ?_))));obtain rfl:=A2 h2;exact Az (BJ Tryz.results8 (AN Aa)) sN ⟨Aa,Aa⟩
 ·refine A7 (AW (Au (Am (wm Aa (wv (Bb (ys:=v) (enc:=Ab) BW Aa) (wv (r:=Ah 0) (Ax Aa) (Av (AS (ob h3 λhg hh hf=>BF (S:=Nat×(Int)×(Unit)) (V:=(Unit)×(Unit)) 0 (λσ=>CB (λσ=>Dz v σ) σ.1 σ.2.1=some hg) (λσ=>[(0,AH 4 (Aq Ab v)),(8,Ah (v.length:Int)),(9,Ah σ.2.1)]) (λσ=>[]) (λσ=>σ.1) (F,0,()) hh (AQ.c Aa (AQ.c Aa (AQ.c Aa AQ.nil))) sN (λσ=>EV =some r) (λσ=>[]) (λσ=>[]) ?_ ?_)))))))))
  ·rintro⟨hy,hd,⟨⟩⟩ hi;refine Ch (l':=[(0,AH 4 (Aq Ab v)),(8,Ah (v.length:Int)),(9,Ah hd)]) (H':=[]) Aa Aa ?_;obtain⟨hj,rfl,t37,ha,he⟩:=Ds hi;replace ha:Dz v hd=some t37:=ha;unfold Dz at ha;refine Am (wv (D8 Aa Aa) (Av (Au (cz ha Aa (λhk hl=>?_) (λhk hm=>?_)))))
   ·refine A7 (AW (Au (AS (Am (wm Aa (wa Aa (Bs (wm Aa (wm Aa (ck hl λhn ho=>wv (Bu (enc:=Ab) (ys:=v) BW Cu Aa Aa hn) (wv (B9 BB Aa CM Aa Aa) (wv (Bj Dm Aa Aa) (wv (C5 Eu Aa) (wv (DW Aa Aa) (Av (cz ho Aa (λhp hq=>?_) (λhp hr=>?_)))))))))))))))))
    ·refine Am (wa Aa (Av (A0 (AI (Ai (Ai (B2 ?_)))))));have hs:=Cc hq he hf;refine AI (Ai ?_);obtain rfl:=A2 hs;exact Az (BJ Tryz.results8 (AN Aa)) sN ⟨Aa,Aa⟩
    ·refine A7 (AX (AW (A4 (ck hr λht hu=>wv (BS Aa Aa ht) (wm Aa (A1 ?_))))));have hw:=BG hu he;exact AE (AR (hj,hd+1,()) ⟨hw,PX _⟩ (AQ.c Aa (AQ.c Aa (AQ.c Aa AQ.nil))) sN)
   ·refine B7 (AB ?_);have hx:=Cy hm he hf;exact AB (Bp (AR ((),()) hx AQ.nil sN))
  ·rintro⟨⟨⟩,⟨⟩⟩ hb;refine Dr (l':=[]) (H':=[]) Aa Aa ?_;replace hb:EV =some r:=hb;unfold EV at hb;refine Bi (AW (Am (wa Aa (Av (A0 ?_)))));obtain rfl:=A2 hb;exact Az (BJ Tryz.results8 (AN Aa)) sN ⟨Aa,Aa⟩
theorem Ne (F:Nat)(op:A3)(r:Bool)(h:Ie F op=some r):Fn Tryz.prog GE 9 [AT (Al op)] [] (λR H=>R=rB r∧H=[]):=by
 refine enter (n:=40) Tryz.func9 Aa Tryz.ntmps9 Aa (λw Z=>?_);unfold Ie at h;refine Am (Bt Aa Aa (λb1=>?_));refine wa Aa (Av (Au (AU [(1,rP b1 0),(25,rB ((decide (100<(op.fEntity.length:Int)))||((decide (100<(op.fID.length:Int)))||((decide (100<(op.fOp.length:Int)))||(decide (4<(op.fArgs.length:Int)))))))] [.blk b1 (Al op) 25] ?_ ?_)))
 ·refine A4 (vF BI Aa CM (vL 0 Dm Aa (wv (C5 Eu Aa) (wv (DW Aa Aa) (wm Aa (AY (decide (100<(op.fEntity.length:Int))) (λc2=>?_) (λc2=>?_)))))))
  ·refine wf c2 (wf c2 (wf c2 (wf c2 (wv (r:=rB true) (Ar Aa c2 Aa) (wm Aa (wz Aa Aa (wz Aa Aa (wz Aa Aa (wz Aa Aa (wv (r:=rB true) (Ar (b:=true) Aa Aa Aa) (wm Aa (wz Aa Aa (wz Aa Aa (wz Aa Aa (wz Aa Aa (wv (r:=rB true) (Ar (b:=true) Aa Aa Aa) (A1 ?_)))))))))))))))));exact CW c2
  ·refine wo c2 (vF BI Aa CM (wo c2 (vL 0 Dm Aa (wo c2 (wv (C5 Eu Aa) (wo c2 (wv (DW Aa Aa) (G1 Aa c2 Aa (wm Aa (AY (decide (100<(op.fID.length:Int))) (λc3=>?_) (λc3=>?_)))))))))))
   ·refine wf c3 (wf c3 (wf c3 (wf c3 (wv (r:=rB true) (Ar Aa c3 Aa) (wm Aa (wz Aa Aa (wz Aa Aa (wz Aa Aa (wz Aa Aa (wv (r:=rB true) (Ar (b:=true) Aa Aa Aa) (A1 ?_)))))))))));exact CW (And.intro c2 c3)
   ·refine wo c3 (vF BI Aa CM (wo c3 (vL 0 Dm Aa (wo c3 (wv (C5 Eu Aa) (wo c3 (wv (DW Aa Aa) (G1 Aa c3 Aa (wm Aa (AY (decide (100<(op.fOp.length:Int))) (λc4=>?_) (λc4=>?_)))))))))))
    ·refine wf c4 (wf c4 (wf c4 (wf c4 (wv (r:=rB true) (Ar Aa c4 Aa) (A1 ?_)))));exact CW (And.intro c2 (And.intro c3 c4))
    ·refine wo c4 (vF BI Aa Ex (wo c4 (vL 0 GT Aa (wo c4 (wv (Bb (ys:=op.fArgs) (enc:=Ak) D1 Aa) (wo c4 (wv (DW Aa Aa) (G1 Aa c4 Aa (A1 ?_)))))))));exact CW (And.intro c2 (And.intro c3 c4))
 refine cz h Aa (λc5 h6=>?_) (λc5 h7=>?_)
 ·refine Am (wa Aa (Av (A0 (Ai ?_))));obtain rfl:=A2 h6;exact Az (BJ Tryz.results9 (AN Aa)) (sS sN) ⟨Aa,Aa⟩
 ·refine A7 (AW (Au (Am (vF BI Aa Ex (vL 0 GT Aa (wv (Bb (ys:=op.fArgs) (enc:=Ak) D1 Aa) (wv (r:=Ah 0) (Ax Aa) (Av (AS (ob h7 λhg hh hf=>BF (S:=Nat×(Int)×(Unit)) (V:=(Unit)×(Unit)) 0 (λσ=>CB (λσ=>Dy F op σ) σ.1 σ.2.1=some hg) (λσ=>[(1,rP b1 0),(28,Ah (op.fArgs.length:Int)),(29,Ah σ.2.1)]) (λσ=>[.blk b1 (Al op) 25]) (λσ=>σ.1) (F,0,()) hh (AQ.c Aa (AQ.c Aa (AQ.c Aa AQ.nil))) (sC sN) (λσ=>EU =some r) (λσ=>[]) (λσ=>[]) ?_ ?_))))))))))
  ·rintro⟨h2,ha,⟨⟩⟩ hi;refine Ch (l':=[(1,rP b1 0),(28,Ah (op.fArgs.length:Int)),(29,Ah ha)]) (H':=[.blk b1 (Al op) 25]) Aa Aa ?_;obtain⟨hj,rfl,hk,hb,he⟩:=Ds hi;replace hb:Dy F op ha=some hk:=hb;unfold Dy at hb;refine Am (wv (D8 Aa Aa) (Av (Au (cz hb Aa (λhl hm=>?_) (λhl hn=>?_)))))
   ·refine A7 (AW (Au (AS (Am (wm Aa (wa Aa (Bs (vF BI Aa Ex (vL 0 GT Aa (wm Aa (ck hm λho hp=>wv (Bu (enc:=Ak) (ys:=op.fArgs) D1 D2 Aa Aa ho) (wv (Bj Ez Aa Aa) (ob hp λhq hr hs=>Cw Tryz.call8 (Nf F (Aj op.fArgs ha) hq hr) Aa (wv (B5 Aa) (Av (cz hs Aa (λht hu=>?_) (λht hw=>?_)))))))))))))))))
    ·refine Am (wa Aa (Av (A0 (AI (Ai (Ai (B2 ?_)))))));have hx:=Cc hu he hf;refine AI (Ai ?_);obtain rfl:=A2 hx;exact Az (BJ Tryz.results9 (AN Aa)) (sS sN) ⟨Aa,Aa⟩
    ·refine A7 (AX (AW (A4 (ck hw λhy hz=>wv (BS Aa Aa hy) (wm Aa (A1 ?_))))));have h0:=BG hz he;exact AE (AR (hj,ha+1,()) ⟨h0,PX _⟩ (AQ.c Aa (AQ.c Aa (AQ.c Aa AQ.nil))) (sC sN))
   ·refine B7 (AB ?_);have h1:=Cy hn he hf;exact AB (Bp (AR ((),()) h1 AQ.nil (sS sN)))
  ·rintro⟨⟨⟩,⟨⟩⟩ hd;refine Dr (l':=[]) (H':=[]) Aa Aa ?_;replace hd:EU =some r:=hd;unfold EU at hd;refine Bi (AW (Am (wa Aa (Av (A0 ?_)))));obtain rfl:=A2 hd;exact Az (BJ Tryz.results9 (AN Aa)) sN ⟨Aa,Aa⟩
end Go.Proofs.YtfbmdidnlhifjaaGreatDoor.Q
namespace Go.Proofs.YtfbmdidnlhifjaaGreatDoor
open Go
def KU {T:Type}(xs:List (Ao×T)):Bool:=decide (xs.length*16≤140737488355328)&&xs.all λp=>NK p.1
def IK {T:Type}(xs:List (Ao×T)):List Ao:=(xs.map (·.1)).mergeSort λx y=>decide (x≤y)
end Go.Proofs.YtfbmdidnlhifjaaGreatDoor
namespace Go.Proofs.YtfbmdidnlhifjaaGreatDoor.Q
open Go Go.RowKit Go.ChangeMaps
set_option linter.unusedVariables false
set_option linter.unusedSimpArgs false
def RU:Value→Option (DataW Unit×List MemPlace):=λ_=>some (.nil,[])
theorem O6 {P:Program}{k:TypeId}(hkt:P.underlying k=some .string){e:MapEntry}{s:Ao}(he:e.key = .string (B s))(hs:s.length≤maxLen):WideElems.rd P k RU e=some (.string s,.nil):=by
 obtain⟨key,val,born⟩:=e;simp only at he;subst he;exact WideElems.rd_mk (yv:=(.nil,[])) (by simp[keyOf,hkt,mapKey,B];exact hs) rfl
theorem Gv.rgs {P:Program}{k:TypeId}(hkt:P.underlying k=some .string){Z:Fz}:∀{f:List (Ao×Rp)} {es:List MapEntry},Gv Z f es→(∀p∈f,p.1.length≤maxLen)→es.map (WideElems.rg P k RU)=f.map (λp=>(Lit.string p.1,(.nil:DataW Unit)))∧(∀x∈es,∃y,WideElems.rd P k RU x=some y)∧es.map (·.key)=f.map λp=>Value.string (B p.1)
 | [],[],_,_=>⟨rfl,(λ_ h=>by cases h),rfl⟩
 | p::f,e::es,⟨⟨h1,_⟩,h2⟩,hk=>by
  obtain⟨a1,a2,a3⟩:=Gv.rgs hkt h2 λq hq=>hk q (List.mem_cons_of_mem _ hq);have hr:=O6 hkt h1 (hk p (List.mem_cons_self ..));refine⟨?_,λx hx=>?_,?_⟩
  ·rw[Qr,Qr,a1,WideElems.rg_of hr]
  ·rcases List.mem_cons.1 hx with rfl | hx
   ·exact⟨_,hr⟩
   ·exact a2 x hx
  ·rw[Qr,Qr,a3,h1]
theorem NH {P:Program}{k:TypeId}(hkt:P.underlying k=some .string){w:World}{Z:Fz}{b:Nat}{m:List (Ao×Rp)}{es:Array MapEntry}{ck:Nat}(hb:w.heap[b]? =some (.map es ck))(hm:Dl Z m es.toList ck)(hk:∀p∈m,p.1.length≤maxLen)(hsz:m.length≤maxLen) :
  ∃D0:DataW Unit,w.ownsMap P k RU b es.size D0∧(strKeys D0).Perm (m.map (·.1))∧Maps.size D0=m.length:=by
 obtain⟨h1,h2,h3,f,h4,h5⟩:=hm;obtain⟨a1,a2,a3⟩:=Gv.rgs hkt h5 λp hp=>hk p (h4.subset hp);have hlen:es.size=m.length:=by
  have e:=congrArg List.length a3;simp only[PT,Array.length_toList] at e;rw[e];exact h4.length_eq
 have hkey:es.toList.Pairwise (λx y=>x.key≠y.key):=by
  have e:(es.toList.map (·.key)).Nodup:=by
   rw[a3];have hf:(f.map (·.1)).Nodup:=(h4.map _).nodup_iff.2 h1;have:f.map (λp=>Value.string (B p.1))=(f.map (·.1)).map λs=>Value.string (B s):=by rw[Qt];rfl
   rw[this];refine List.Pairwise.map _ (λx y hxy e=>hxy ?_) hf;simp[B] at e;exact e
  exact List.pairwise_map.1 e
 refine⟨.map ((es.toList.map (WideElems.rg P k RU)).foldr DataW.insert []),⟨es,ck,hb,⟨by rw[hlen];exact hsz,(MapKept.stamped_iff es ck).2 ⟨h3,h2,hkey⟩,a2⟩,PW _,rfl⟩,?_,?_⟩
 ·show(((es.toList.map (WideElems.rg P k RU)).foldr DataW.insert []).map λp=>strOf p.1).Perm _;rw[a1];refine((WideShapes.sorted_perm _).map _).trans ?_;rw[Qt];exact h4.map _
 ·show((es.toList.map (WideElems.rg P k RU)).foldr DataW.insert []).length=_;rw[length_sorted,PT,Array.length_toList,hlen]
theorem KB {w:World}{a b:Nat}{e:TypeId}{sz n:Nat}{v:Value}{us:List Value}(h:w.ownsRow a e sz v n us)(hb:b≤a):w.ownsRow b e sz v n us:=by
 refine⟨h.1,?_⟩;rcases h.2 with hn | ⟨g,cap,cur,rfl,hg,rest⟩
 ·exact .inl hn
 ·exact .inr ⟨g,cap,cur,rfl,Nat.le_trans hb hg,rest⟩
theorem JT {w:World}{a:Nat}{e:TypeId}{sz n:Nat}{v:Value}{us:List Value}(h:w.ownsRow a e sz v n us):∀k∈v.ownBlock.toList,a≤k:=by
 rcases h.2 with⟨rfl,_⟩ | ⟨g,cap,cur,rfl,hg,rest⟩
 ·intro k hk;simp[Value.ownBlock] at hk
 ·intro k hk;simp[Value.ownBlock] at hk;omega
theorem St.newrow {c:Cx}{H:List Ent}{Z:Fz}{w w':World}(h:St c H Z w)(hb:Below w.heap.size w w'){v:Value}{e:TypeId}{ys:List Ao}(hr:w'.ownsRow w.heap.size e 1 v ys.length (ys.map Go.Proofs.encStr)):St c (.row v e 1 (ys.map eS)::H) Z w':=by
 refine h.add hb.os hb.tape hb.output hb.size (λk hk=>hb.block k hk) ⟨λc hc=>?_,ys.map Go.Proofs.encStr,?_,?_⟩ (λk hk=>JT hr k hk)
 ·obtain⟨y,_,rfl⟩:=List.mem_map.1 hc;rfl
 ·rw[PT];exact KB hr (Qw _)
 ·clear hr
  induction ys with
  | nil=>exact trivial
  | cons y r ih=>exact⟨by show Go.Proofs.encStr y=Value.string (B y);rfl,ih⟩
end Go.Proofs.YtfbmdidnlhifjaaGreatDoor.Q
namespace Go.Proofs.YtfbmdidnlhifjaaGreatDoor
open Go
set_option linter.unusedVariables false
structure AA where
 fNow:Int
 fEntities:(List (Ao×Int))
 fCalls:(List (Ao×Int))
 deriving DecidableEq,Inhabited
structure An where
 fState:(List Ac)
 fCalls:(List Int)
 fDone:Int
 deriving DecidableEq,Inhabited
def OA :Option ((AA×(List An)×(List As))):=
 some ((AA.mk 0 ([]:List (Ao×Int)) ([]:List (Ao×Int))),([]:List An),([]:List As))
def Kg :Option (Bool):=
 some false
def II :Option (Bool):=
 some false
def Ou (d:AA):Option (Bool):=
 some true
def GH (F:Nat)(d:AA)(d_p1:(List An))(d_p2:(List As))(op:A3)(now:Int):Option (Int×AA×(List An)×(List As)):=
 B6 (Jv F op) λr2=>B0 (!decide (r2=0)) (some (r2,d,d_p1,d_p2)) (B0 (((decide (now<0))||(decide (1073741824<now)))) (some (2,d,d_p1,d_p2)) (B0 (decide (now<d.fNow)) (some (11,d,d_p1,d_p2)) (B0 (Bw d.fCalls op.fID) (Bn (decide (0≤(At d.fCalls op.fID (-1))))<|Bn (BV (At d.fCalls op.fID (-1)) (d_p2.length:Int))<|B6 (MU F ((Aj d_p2 (At d.fCalls op.fID (-1))).fOp) op) λhb=>B0 (!hb) (some (19,d,d_p1,d_p2)) (some (0,(AA.mk now d.fEntities d.fCalls),d_p1,d_p2))) (B0 (((decide ((d.fCalls.length:Int)=256))||((!(Bw d.fEntities op.fEntity))&&(decide ((d.fEntities.length:Int)=256))))) (some (3,d,d_p1,d_p2)) (B0 (!(Bw d.fEntities op.fEntity)) (B6 (HN) λha=>B6 (Ib F op) λhd=>Bn (BV (d_p1.length:Int) ((d_p1++[(An.mk ha ([]:List Int) 0)]).length:Int))<|Bn (Mf 8 (((Aj (d_p1++[(An.mk ha ([]:List Int) 0)]) (d_p1.length:Int)).fCalls).length+([(d_p2.length:Int)]:List Int).length))<|some (0,(AA.mk now (AP d.fEntities op.fEntity (d_p1.length:Int)) (AP d.fCalls op.fID (d_p2.length:Int))),List.set (d_p1++[(An.mk ha ([]:List Int) 0)]) (Int.toNat (d_p1.length:Int)) (An.mk ((Aj (d_p1++[(An.mk ha ([]:List Int) 0)]) (d_p1.length:Int)).fState) (((Aj (d_p1++[(An.mk ha ([]:List Int) 0)]) (d_p1.length:Int)).fCalls)++([(d_p2.length:Int)]:List Int)) ((Aj (d_p1++[(An.mk ha ([]:List Int) 0)]) (d_p1.length:Int)).fDone)),d_p2++[(As.mk hd (A8.mk 0 ([]:List Ac)) now (-1))])) (B6 (Ib F op) λhe=>Bn (BV (At d.fEntities op.fEntity (-1)) (d_p1.length:Int))<|Bn (Mf 8 (((Aj d_p1 (At d.fEntities op.fEntity (-1))).fCalls).length+([(d_p2.length:Int)]:List Int).length))<|some (0,(AA.mk now d.fEntities (AP d.fCalls op.fID (d_p2.length:Int))),List.set d_p1 (Int.toNat (At d.fEntities op.fEntity (-1))) (An.mk ((Aj d_p1 (At d.fEntities op.fEntity (-1))).fState) (((Aj d_p1 (At d.fEntities op.fEntity (-1))).fCalls)++([(d_p2.length:Int)]:List Int)) ((Aj d_p1 (At d.fEntities op.fEntity (-1))).fDone)),d_p2++[(As.mk he (A8.mk 0 ([]:List Ac)) now (-1))])))))))
def E6 (F:Nat)(d:AA)(d_p1:(List An))(d_p2:(List As))(e:Ao)(now:Int)(x5:Bool):Option (As×Bool×AA×(List An)×(List As)):=
 B0 (x5) (some ((As.mk (A3.mk ([]:Ao) ([]:Ao) ([]:Ao) ([]:List (List Ac))) (A8.mk 0 ([]:List Ac)) 0 0),false,d,d_p1,d_p2)) (B0 (Bw d.fEntities e) (Bn (BV (At d.fEntities e (-1)) (d_p1.length:Int))<|B0 (decide (((Aj d_p1 (At d.fEntities e (-1))).fDone)=(((Aj d_p1 (At d.fEntities e (-1))).fCalls).length:Int))) (some ((As.mk (A3.mk ([]:Ao) ([]:Ao) ([]:Ao) ([]:List (List Ac))) (A8.mk 0 ([]:List Ac)) 0 0),false,d,d_p1,d_p2)) (Bn (BV ((Aj d_p1 (At d.fEntities e (-1))).fDone) (((Aj d_p1 (At d.fEntities e (-1))).fCalls).length:Int))<|Bn (decide (0≤(Aj ((Aj d_p1 (At d.fEntities e (-1))).fCalls) ((Aj d_p1 (At d.fEntities e (-1))).fDone))))<|Bn (BV (Aj ((Aj d_p1 (At d.fEntities e (-1))).fCalls) ((Aj d_p1 (At d.fEntities e (-1))).fDone)) (d_p2.length:Int))<|B6 (P3 F ((Aj d_p1 (At d.fEntities e (-1))).fState) ((Aj d_p2 (Aj ((Aj d_p1 (At d.fEntities e (-1))).fCalls) ((Aj d_p1 (At d.fEntities e (-1))).fDone))).fOp)) λhd=>B0 (!decide (hd.2.2=0)) (some ((As.mk (A3.mk ([]:Ao) ([]:Ao) ([]:Ao) ([]:List (List Ac))) (A8.mk 0 ([]:List Ac)) 0 0),false,d,d_p1,d_p2)) (Bn (Cr .i64 (((Aj d_p1 (At d.fEntities e (-1))).fDone)+1))<|Mk (List.set d_p2 (Int.toNat (Aj ((Aj d_p1 (At d.fEntities e (-1))).fCalls) ((Aj d_p1 (At d.fEntities e (-1))).fDone))) (As.mk ((Aj d_p2 (Aj ((Aj d_p1 (At d.fEntities e (-1))).fCalls) ((Aj d_p1 (At d.fEntities e (-1))).fDone))).fOp) hd.2.1 ((Aj d_p2 (Aj ((Aj d_p1 (At d.fEntities e (-1))).fCalls) ((Aj d_p1 (At d.fEntities e (-1))).fDone))).fFrom) ((Aj d_p2 (Aj ((Aj d_p1 (At d.fEntities e (-1))).fCalls) ((Aj d_p1 (At d.fEntities e (-1))).fDone))).fTo))) λhb=>Bn (BV (Aj ((Aj d_p1 (At d.fEntities e (-1))).fCalls) ((Aj d_p1 (At d.fEntities e (-1))).fDone)) (hb.length:Int))<|Mk (List.set hb (Int.toNat (Aj ((Aj d_p1 (At d.fEntities e (-1))).fCalls) ((Aj d_p1 (At d.fEntities e (-1))).fDone))) (As.mk ((Aj hb (Aj ((Aj d_p1 (At d.fEntities e (-1))).fCalls) ((Aj d_p1 (At d.fEntities e (-1))).fDone))).fOp) ((Aj hb (Aj ((Aj d_p1 (At d.fEntities e (-1))).fCalls) ((Aj d_p1 (At d.fEntities e (-1))).fDone))).fAnswer) ((Aj hb (Aj ((Aj d_p1 (At d.fEntities e (-1))).fCalls) ((Aj d_p1 (At d.fEntities e (-1))).fDone))).fFrom) now)) λha=>Bn (BV (Aj ((Aj d_p1 (At d.fEntities e (-1))).fCalls) ((Aj d_p1 (At d.fEntities e (-1))).fDone)) (ha.length:Int))<|B6 (HF F (As.mk ((Aj ha (Aj ((Aj d_p1 (At d.fEntities e (-1))).fCalls) ((Aj d_p1 (At d.fEntities e (-1))).fDone))).fOp) ((Aj ha (Aj ((Aj d_p1 (At d.fEntities e (-1))).fCalls) ((Aj d_p1 (At d.fEntities e (-1))).fDone))).fAnswer) ((Aj ha (Aj ((Aj d_p1 (At d.fEntities e (-1))).fCalls) ((Aj d_p1 (At d.fEntities e (-1))).fDone))).fFrom) ((Aj ha (Aj ((Aj d_p1 (At d.fEntities e (-1))).fCalls) ((Aj d_p1 (At d.fEntities e (-1))).fDone))).fTo))) λhe=>some (he,true,(AA.mk now d.fEntities d.fCalls),List.set d_p1 (Int.toNat (At d.fEntities e (-1))) (An.mk hd.1 ((Aj d_p1 (At d.fEntities e (-1))).fCalls) (((Aj d_p1 (At d.fEntities e (-1))).fDone)+1)),ha)))) (some ((As.mk (A3.mk ([]:Ao) ([]:Ao) ([]:Ao) ([]:List (List Ac))) (A8.mk 0 ([]:List Ac)) 0 0),false,d,d_p1,d_p2)))
def Ls (F:Nat)(d:AA)(d_p1:(List An))(d_p2:(List As))(e:Ao)(now:Int):Option (As×Bool×AA×(List An)×(List As)):=
 B0 (decide (now<d.fNow)) (E6 F d d_p1 d_p2 e now true) (E6 F d d_p1 d_p2 e now (decide (1073741824<now)))
def KM (d:AA)(d_p1:(List An))(d_p2:(List As))(e:Ao):Option ((List Ac)):=
 B0 (Bw d.fEntities e) (Bn (BV (At d.fEntities e (-1)) (d_p1.length:Int))<|B6 (CT ((Aj d_p1 (At d.fEntities e (-1))).fState)) λr7=>some r7) (B6 (HN) λha=>some ha)
def EQ (F:Nat)(d:AA)(d_p1:(List An))(d_p2:(List As))(e:Ao)(hb:(List As))(ha:Int):Option (Stp ((List As)×Int) (Out ((List As)) ((List As)))):=
 B0 (decide (ha<(((Aj d_p1 (At d.fEntities e (-1))).fCalls).length:Int))) (Bn (BV ha (((Aj d_p1 (At d.fEntities e (-1))).fCalls).length:Int))<|Bn (decide (0≤(Aj ((Aj d_p1 (At d.fEntities e (-1))).fCalls) ha)))<|Bn (BV (Aj ((Aj d_p1 (At d.fEntities e (-1))).fCalls) ha) (d_p2.length:Int))<|B6 (HF F (As.mk ((Aj d_p2 (Aj ((Aj d_p1 (At d.fEntities e (-1))).fCalls) ha)).fOp) ((Aj d_p2 (Aj ((Aj d_p1 (At d.fEntities e (-1))).fCalls) ha)).fAnswer) ((Aj d_p2 (Aj ((Aj d_p1 (At d.fEntities e (-1))).fCalls) ha)).fFrom) ((Aj d_p2 (Aj ((Aj d_p1 (At d.fEntities e (-1))).fCalls) ha)).fTo))) λhd=>Bn (Mf 120 (hb.length+([hd]:List As).length))<|Bn (Cr .i64 (ha+1))<|some (.next (hb++([hd]:List As),ha+1))) (some (.out (.go hb)))
def EP (ha:(List As)):Option ((List As)):=
 some ha
def KP (F:Nat)(d:AA)(d_p1:(List An))(d_p2:(List As))(e:Ao):Option ((List As)):=
 B0 (!(Bw d.fEntities e)) (some ([]:List As)) (Bn (BV (At d.fEntities e (-1)) (d_p1.length:Int))<|B6 (CB (λσ=>EQ F d d_p1 d_p2 e σ.1 σ.2) F (([]:List As),0)) (Cf λν=>EP ν))
def Di (ha:Int)(hb:(List Ao)):Option (Stp ((List Ao)×Int) (Out ((List Ao)) ((List Ao)))):=
 Bn (Cr .i64 (ha+1))<|some (.next (hb,ha+1))
def DL (r1:(List As))(hb:(List Ao))(ha:Int):Option (Stp ((List Ao)×Int) (Out ((List Ao)) ((List Ao)))):=
 B0 (decide (ha<(r1.length:Int))) (Bn (BV ha (r1.length:Int))<|B0 (decide (((Aj r1 ha).fTo)=(-1))) (Bn (Mf 16 (hb.length+([((Aj r1 ha).fOp).fID]:List Ao).length))<|Di ha (hb++([((Aj r1 ha).fOp).fID]:List Ao))) (Di ha hb)) (some (.out (.go hb)))
def DK (ha:(List Ao)):Option ((List Ao)):=
 some ha
def HW (F:Nat)(d:AA)(d_p1:(List An))(d_p2:(List As))(e:Ao):Option ((List Ao)):=
 B6 (KP F d d_p1 d_p2 e) λr1=>B6 (CB (λσ=>DL r1 σ.1 σ.2) F (([]:List Ao),0)) (Cf λν=>DK ν)
def KO (d:AA)(d_p1:(List An))(d_p2:(List As)):Option ((List Ao)):=
 Bn (KU d.fEntities)<|some (IK d.fEntities)
end Go.Proofs.YtfbmdidnlhifjaaGreatDoor
