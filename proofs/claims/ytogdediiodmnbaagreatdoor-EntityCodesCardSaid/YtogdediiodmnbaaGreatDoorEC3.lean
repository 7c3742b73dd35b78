/-
  Texts of the proof, put together: PVd, WVd, PVe, WVe, PVf, WVf, PH, PFr, QH, QY, QU, QW, QT, QJ, QX, WFr, PM, PNa, QN, QM, QI, QV.
-/
import Derived.Test.YtogdediiodmnbaaGreatDoorEC2
import Derived.Laws.StructEq
import GoSem.Op.IntBits
import GoSem.Op.Shift
import Derived.Laws.Cover3
import Derived.ScopeJumps
import Derived.Laws.CopyRow
import Derived.Laws.IdiomCopy
import Derived.Laws.OwnMore
import Derived.MapKept
import Derived.Maps.RangeRun
namespace Go.Proofs.YtogdediiodmnbaaGreatDoor
open Go
set_option linter.unusedVariables false
structure Az where
 fS:Ae
 fAt:Int
 fCells:(List Ab)
 fGreat:Bool
 deriving DecidableEq,Inhabited
def Ic (s:Ae)(p:Ae):Option (Bool):=
 AY (imp (decide ((p.length:Int)≤(s.length:Int))) (HX (p.length:Int) (s.length:Int)))<|some ((decide ((p.length:Int)≤(s.length:Int)))&&(decide ((List.take (Int.toNat (p.length:Int)) s)=p)))
def H6 (s:Ae)(p:Ae):Option (Bool):=
 B0 (Ic s p) λr1=>some r1
def Es (q:Az)(s:Ae):Option (Bool×Az):=
 AY (HX q.fAt (q.fS.length:Int))<|B0 (H6 (List.drop (Int.toNat q.fAt) q.fS) s) λr3=>Bl (!r3) (some (false,q)) (AY (B2 .i64 (q.fAt+(s.length:Int)))<|some (true,(Az.mk q.fS (q.fAt+(s.length:Int)) q.fCells q.fGreat)))
def Gs (ha:(List Int))(hb:Int)(hd:Int):Option (Stp ((List Int)×Int) (Out (Ae×Bool×Az) (Int))):=
 AY (Dz 1 (ha.length+([hb]:List Int).length))<|some (.next (ha++([hb]:List Int),hd))
def EL (r1:Bool×Az)(hb:(List Int))(ha:Int):Option (Stp ((List Int)×Int) (Out (Ae×Bool×Az) (Int))):=
 Bl (decide (ha<(r1.2.fS.length:Int))) (AY (Cp ha (r1.2.fS.length:Int))<|AY (B2 .i64 (ha+1))<|Bl (decide ((Be r1.2.fS ha)=34)) (some (.out (.ret (Qs hb,true,(Az.mk r1.2.fS (ha+1) r1.2.fCells r1.2.fGreat))))) (Bl (((decide ((Be r1.2.fS ha)<32))||(decide (126<(Be r1.2.fS ha))))) (some (.out (.ret (([]:Ae),false,(Az.mk r1.2.fS (ha+1) r1.2.fCells r1.2.fGreat))))) (Bl (decide ((Be r1.2.fS ha)=92)) (AY (imp (!(decide ((r1.2.fS.length:Int)≤(ha+1)))) (Cp (ha+1) (r1.2.fS.length:Int)))<|Bl (((decide ((r1.2.fS.length:Int)≤(ha+1)))||((!decide ((Be r1.2.fS (ha+1))=34))&&(!decide ((Be r1.2.fS (ha+1))=92))))) (some (.out (.ret (([]:Ae),false,(Az.mk r1.2.fS (ha+1) r1.2.fCells r1.2.fGreat))))) (AY (Cp (ha+1) (r1.2.fS.length:Int))<|AY (B2 .i64 ((ha+1)+1))<|Gs hb (Be r1.2.fS (ha+1)) ((ha+1)+1))) (Gs hb (Be r1.2.fS ha) (ha+1))))) (some (.out (.go ha)))
def I9 (r1:Bool×Az)(ha:Int):Option (Ae×Bool×Az):=
 some (([]:Ae),false,(Az.mk r1.2.fS ha r1.2.fCells r1.2.fGreat))
def N8 (F:Nat)(q:Az):Option (Ae×Bool×Az):=
 B0 (Es q ([34]:Ae)) λr1=>Bl (!r1.1) (some (([]:Ae),false,r1.2)) (B0 (Ca (λσ=>EL r1 σ.1 σ.2) F (([]:List Int),r1.2.fAt)) (BT λν=>I9 r1 ν))
def EM (r1:Bool×Az)(ha:Int):Option (Stp (Int) (Out (Bool×Az) (Int))):=
 AY (imp (decide (ha<(r1.2.fS.length:Int))) (Cp ha (r1.2.fS.length:Int)))<|Bl (((decide (ha<(r1.2.fS.length:Int)))&&((decide (48≤(Be r1.2.fS ha)))&&(decide ((Be r1.2.fS ha)≤57))))) (AY (B2 .i64 (ha+1))<|some (.next (ha+1))) (some (.out (.go ha)))
def J9 (q:Az)(r1:Bool×Az)(ha:Int):Option (Bool×Az):=
 AY (HX q.fAt ha)<|AY (HX ha (r1.2.fS.length:Int))<|AY (Dz 1 (List.take (Int.toNat ha-Int.toNat q.fAt) (List.drop (Int.toNat q.fAt) r1.2.fS)).length)<|Bl (((decide ((BR (List.take (Int.toNat ha-Int.toNat q.fAt) (List.drop (Int.toNat q.fAt) r1.2.fS)))=1))||(decide (r1.2.fAt=ha)))) (some (false,(Az.mk r1.2.fS ha r1.2.fCells r1.2.fGreat))) (AY (Dz 40 (r1.2.fCells.length+([(Ab.mk 3 (B7 (List.take (Int.toNat ha-Int.toNat q.fAt) (List.drop (Int.toNat q.fAt) r1.2.fS))) ([]:Ae) 0)]:List Ab).length))<|some (true,(Az.mk r1.2.fS ha (r1.2.fCells++([(Ab.mk 3 (B7 (List.take (Int.toNat ha-Int.toNat q.fAt) (List.drop (Int.toNat q.fAt) r1.2.fS))) ([]:Ae) 0)]:List Ab)) (r1.2.fGreat||(!decide ((BR (List.take (Int.toNat ha-Int.toNat q.fAt) (List.drop (Int.toNat q.fAt) r1.2.fS)))=0))))))
def N9 (F:Nat)(q:Az):Option (Bool×Az):=
 B0 (Es q ([45]:Ae)) λr1=>B0 (Ca (λσ=>EM r1 σ) F r1.2.fAt) (BT λν=>J9 q r1 ν)
def Eu (ha:Ae)(hb:Int)(hd:(List Ab))(he:Bool):Option (Bool×Az):=
 some (true,(Az.mk ha hb hd he))
def IA (F:Nat)(q:Az):Option (Bool×Az):=
 B0 (Es q ([110,117,108,108]:Ae)) λhd=>Bl (hd.1) (AY (Dz 40 (hd.2.fCells.length+([(Ab.mk 1 0 ([]:Ae) 0)]:List Ab).length))<|Eu hd.2.fS hd.2.fAt (hd.2.fCells++([(Ab.mk 1 0 ([]:Ae) 0)]:List Ab)) hd.2.fGreat) (B0 (Es hd.2 ([116,114,117,101]:Ae)) λhe=>Bl (he.1) (AY (Dz 40 (he.2.fCells.length+([(Ab.mk 2 1 ([]:Ae) 0)]:List Ab).length))<|Eu he.2.fS he.2.fAt (he.2.fCells++([(Ab.mk 2 1 ([]:Ae) 0)]:List Ab)) he.2.fGreat) (B0 (Es he.2 ([102,97,108,115,101]:Ae)) λha=>Bl (ha.1) (AY (Dz 40 (ha.2.fCells.length+([(Ab.mk 2 0 ([]:Ae) 0)]:List Ab).length))<|Eu ha.2.fS ha.2.fAt (ha.2.fCells++([(Ab.mk 2 0 ([]:Ae) 0)]:List Ab)) ha.2.fGreat) (AY (HX ha.2.fAt (ha.2.fS.length:Int))<|B0 (H6 (List.drop (Int.toNat ha.2.fAt) ha.2.fS) ([34]:Ae)) λhg=>Bl (hg) (B0 (N8 F ha.2) λhb=>Bl (!hb.2.1) (some (false,hb.2.2)) (AY (Dz 40 (hb.2.2.fCells.length+([(Ab.mk 4 0 hb.1 0)]:List Ab).length))<|Eu hb.2.2.fS hb.2.2.fAt (hb.2.2.fCells++([(Ab.mk 4 0 hb.1 0)]:List Ab)) hb.2.2.fGreat)) (B0 (N9 F ha.2) λhf=>some (hf.1,hf.2)))))
def EY (hf:Az→Option (Bool×Az))(x16:(List Ab))(hd:Int)(hg:Ae)(hh:Int)(hi:(List Ab))(hj:Bool):Option (Stp (Int×Ae×Int×(List Ab)×Bool) (Out (Bool×Az) (Unit))):=
 B0 (hf (Az.mk hg hh hi hj)) λha=>Bl (!ha.1) (some (.out (.ret (false,ha.2)))) (AY (Cp (x16.length:Int) (ha.2.fCells.length:Int))<|Lc (List.set ha.2.fCells (Int.toNat (x16.length:Int)) (Ab.mk ((Am ha.2.fCells (x16.length:Int)).fKind) ((Am ha.2.fCells (x16.length:Int)).fInt) ((Am ha.2.fCells (x16.length:Int)).fStr) hd)) λhk=>B0 (Es (Az.mk ha.2.fS ha.2.fAt hk ha.2.fGreat) ([93]:Ae)) λhe=>Bl (he.1) (some (.out (.ret (true,he.2)))) (B0 (Es he.2 ([44]:Ae)) λhb=>Bl (!hb.1) (some (.out (.ret (false,hb.2)))) (AY (B2 .i64 (hd+1))<|some (.next (hd+1,hb.2.fS,hb.2.fAt,hb.2.fCells,hb.2.fGreat)))))
def HF :Option (Bool×Az):=
 none
def C5 (hk:Az→Option (Bool×Az))(x16:(List Ab))(hd:Int)(he:Ae×Bool×Az)(hn:Bool)(ho:Bool)(hl:Bool)(hh:Ae)(hi:Int)(hf:(List Ab))(hj:Bool):Option (Stp (Ae×Int×Ae×Int×(List Ab)×Bool) (Out (Bool×Az) (Unit))):=
 Bl (hl) (some (.out (.ret (false,(Az.mk hh hi hf hj))))) (AY (Dz 40 (hf.length+([(Ab.mk 4 0 he.1 0)]:List Ab).length))<|B0 (hk (Az.mk hh hi (hf++([(Ab.mk 4 0 he.1 0)]:List Ab)) hj)) λha=>Bl (!ha.1) (some (.out (.ret (false,ha.2)))) (AY (Cp (x16.length:Int) (ha.2.fCells.length:Int))<|Lc (List.set ha.2.fCells (Int.toNat (x16.length:Int)) (Ab.mk ((Am ha.2.fCells (x16.length:Int)).fKind) ((Am ha.2.fCells (x16.length:Int)).fInt) ((Am ha.2.fCells (x16.length:Int)).fStr) hd)) λhm=>B0 (Es (Az.mk ha.2.fS ha.2.fAt hm ha.2.fGreat) ([125]:Ae)) λhg=>Bl (hg.1) (some (.out (.ret (true,hg.2)))) (B0 (Es hg.2 ([44]:Ae)) λhb=>Bl (!hb.1) (some (.out (.ret (false,hb.2)))) (AY (B2 .i64 (hd+1))<|some (.next (he.1,hd+1,hb.2.fS,hb.2.fAt,hb.2.fCells,hb.2.fGreat))))))
def EX (F:Nat)(hg:Az→Option (Bool×Az))(x16:(List Ab))(hb:Ae)(hd:Int)(hh:Ae)(hi:Int)(hj:(List Ab))(hk:Bool):Option (Stp (Ae×Int×Ae×Int×(List Ab)×Bool) (Out (Bool×Az) (Unit))):=
 B0 (N8 F (Az.mk hh hi hj hk)) λha=>Bl (!ha.2.1) (C5 hg x16 hd ha true true true ha.2.2.fS ha.2.2.fAt ha.2.2.fCells ha.2.2.fGreat) (Bl (decide (1<hd)) (Bl (CW ha.1 hb||decide (ha.1=hb)) (C5 hg x16 hd ha (CW ha.1 hb||decide (ha.1=hb)) (CW ha.1 hb||decide (ha.1=hb)) true ha.2.2.fS ha.2.2.fAt ha.2.2.fCells ha.2.2.fGreat) (B0 (Es ha.2.2 ([58]:Ae)) λhe=>C5 hg x16 hd ha (CW ha.1 hb||decide (ha.1=hb)) (CW ha.1 hb||decide (ha.1=hb)) (!he.1) he.2.fS he.2.fAt he.2.fCells he.2.fGreat)) (B0 (Es ha.2.2 ([58]:Ae)) λhf=>C5 hg x16 hd ha false false (!hf.1) hf.2.fS hf.2.fAt hf.2.fCells hf.2.fGreat))
def HE :Option (Bool×Az):=
 none
def Et (F:Nat)(hg:Az→Option (Bool×Az))(r1:Bool×Az)(hi:Bool)(hd:Ae)(he:Int)(x16:(List Ab))(hf:Bool):Option (Bool×Az):=
 Bl (hi) (B0 (IA F (Az.mk hd he x16 hf)) λhh=>some (hh.1,hh.2)) (Bl (r1.1) (AY (Dz 40 (x16.length+([(Ab.mk 5 0 ([]:Ae) 0)]:List Ab).length))<|B0 (Es (Az.mk hd he (x16++([(Ab.mk 5 0 ([]:Ae) 0)]:List Ab)) hf) ([93]:Ae)) λha=>Bl (ha.1) (some (true,ha.2)) (B0 (Ca (λσ=>EY hg x16 σ.1 σ.2.1 σ.2.2.1 σ.2.2.2.1 σ.2.2.2.2) F (1,ha.2.fS,ha.2.fAt,ha.2.fCells,ha.2.fGreat)) (BT λν=>HF ))) (AY (Dz 40 (x16.length+([(Ab.mk 6 0 ([]:Ae) 0)]:List Ab).length))<|B0 (Es (Az.mk hd he (x16++([(Ab.mk 6 0 ([]:Ae) 0)]:List Ab)) hf) ([125]:Ae)) λhb=>Bl (hb.1) (some (true,hb.2)) (B0 (Ca (λσ=>EX F hg x16 σ.1 σ.2.1 σ.2.2.1 σ.2.2.2.1 σ.2.2.2.2.1 σ.2.2.2.2.2) F (([]:Ae),1,hb.2.fS,hb.2.fAt,hb.2.fCells,hb.2.fGreat)) (BT λν=>HE ))))
def Ll (F:Nat)(hb:Az→Option (Bool×Az))(q:Az):Option (Bool×Az):=
 B0 (Es q ([91]:Ae)) λr1=>Bl (!r1.1) (B0 (Es r1.2 ([123]:Ae)) λha=>Et F hb r1 (!ha.1) ha.2.fS ha.2.fAt ha.2.fCells ha.2.fGreat) (Et F hb r1 false r1.2.fS r1.2.fAt r1.2.fCells r1.2.fGreat)
def CC:Nat→Az→Option (Bool×Az)
 | 0,_=>none
 | nn+1,q=>Ll nn (CC nn) q
def GB (F:Nat)(hb:Bool)(hf:Ae)(hg:Int)(hd:(List Ab))(he:Bool):Option ((List Ab)×Int):=
 Bl (hb) (some (([]:List Ab),1)) (Bl (he) (some (([]:List Ab),2)) (B0 (Lq F hd) λha=>some (ha.1,ha.2)))
def Lo (F:Nat)(s:Ae):Option ((List Ab)×Int):=
 Bl (decide (4000<(s.length:Int))) (some (([]:List Ab),3)) (B0 (CC F (Az.mk s 0 ([]:List Ab) false)) λha=>Bl (!ha.1) (GB F true ha.2.fS ha.2.fAt ha.2.fCells ha.2.fGreat) (GB F (!decide (ha.2.fAt=(s.length:Int))) ha.2.fS ha.2.fAt ha.2.fCells ha.2.fGreat))
end Go.Proofs.YtogdediiodmnbaaGreatDoor
namespace Go.Proofs.YtogdediiodmnbaaGreatDoor.Q
open Go Go.RowKit
set_option linter.unusedVariables false
set_option linter.unusedSimpArgs false
set_option maxRecDepth 100000
set_option maxHeartbeats 4000000
theorem E9:∃inf,Tryz.prog.info? 63=some inf∧inf.zero=some (.agg #[(.int .i64 0),(.int .i64 0),(.string ⟨#[]⟩),(.int .i64 0)])∧inf.size=4∧inf.bytes=40:=by
  have key:(Tryz.prog.info? 63).map (λi=>(i.zero,i.size,i.bytes))=some (some (.agg #[(.int .i64 0),(.int .i64 0),(.string ⟨#[]⟩),(.int .i64 0)]),4,40):=by kernel_rfl
  obtain⟨inf,h1,h2⟩:=Option.map_eq_some_iff.1 key;simp only[Prod.mk.injEq] at h2;exact⟨inf,h1,h2.1,h2.2.1,h2.2.2⟩
theorem Cf {n:Nat}{c:Cx}{l:Fr}{H:List Ent}{d:Option Nat}{ty:TypeId}{pos:String}{af:Array Edge}{g:Option (Nat×Bool)}{x0:Operand}{r0:Rp}(h0:ev l x0=some r0)(u0:r0.one=true){x1:Operand}{r1:Rp}(h1:ev l x1=some r1)(u1:r1.one=true):B1 Tryz.prog n c l H { dst:=d,op:=.build 63 #[(0,x0),(1,x1)],type:=ty,pos:=pos,after:=af,guard:=g } (Bq [r0,r1,rS ([]:Ae),Ak 0]):=λa w Z ha _=>by
  have p0:=ha.ev h0;have c0:=BM (r0.hone u0 Z _ p0);have p1:=ha.ev h1;have c1:=BM (r1.hone u1 Z _ p1);have hb:Tryz.prog.built 63 [(0,a.eval x0),(1,a.eval x1)]=some #[a.eval x0,a.eval x1,(.string ⟨#[]⟩),(.int .i64 0)]:=by
    rw[Qh];generalize a.eval x0=v0 at *;generalize a.eval x1=v1 at *;simp[Instr.fill,c0,c1]
  refine⟨.agg #[a.eval x0,a.eval x1,(.string ⟨#[]⟩),(.int .i64 0)],⟨[a.eval x0,a.eval x1,(.string ⟨#[]⟩),(.int .i64 0)],rfl,p0,p1,rfl,rfl,trivial⟩,?_⟩;have:=run_build w 63 #[(0,a.eval x0),(1,a.eval x1)] _ (by simpa using hb);simp[execOp,this]
theorem EQ {n:Nat}{c:Cx}{l:Fr}{H:List Ent}{d:Option Nat}{ty:TypeId}{pos:String}{af:Array Edge}{g:Option (Nat×Bool)}{x0:Operand}{r0:Rp}(h0:ev l x0=some r0)(u0:r0.one=true){x2:Operand}{r2:Rp}(h2:ev l x2=some r2)(u2:r2.one=true):B1 Tryz.prog n c l H { dst:=d,op:=.build 63 #[(0,x0),(2,x2)],type:=ty,pos:=pos,after:=af,guard:=g } (Bq [r0,Ak 0,r2,Ak 0]):=λa w Z ha _=>by
  have p0:=ha.ev h0;have c0:=BM (r0.hone u0 Z _ p0);have p2:=ha.ev h2;have c2:=BM (r2.hone u2 Z _ p2);have hb:Tryz.prog.built 63 [(0,a.eval x0),(2,a.eval x2)]=some #[a.eval x0,(.int .i64 0),a.eval x2,(.int .i64 0)]:=by
    rw[Qh];generalize a.eval x0=v0 at *;generalize a.eval x2=v2 at *;simp[Instr.fill,c0,c2]
  refine⟨.agg #[a.eval x0,(.int .i64 0),a.eval x2,(.int .i64 0)],⟨[a.eval x0,(.int .i64 0),a.eval x2,(.int .i64 0)],rfl,p0,rfl,p2,rfl,trivial⟩,?_⟩;have:=run_build w 63 #[(0,a.eval x0),(2,a.eval x2)] _ (by simpa using hb);simp[execOp,this]
theorem X3 (parts:List (Nat×Value)):Tryz.prog.built 142 parts=Instr.fill (λi=>(#[(0,1),(1,1),(2,1),(3,1)]:Array (Nat×Nat))[i]?) #[(.string ⟨#[]⟩),(.int .i64 0),((.slice none 0 0)),(.bool false)] parts:=by kernel_rfl
theorem PR {n:Nat}{c:Cx}{l:Fr}{H:List Ent}{d:Option Nat}{ty:TypeId}{pos:String}{af:Array Edge}{g:Option (Nat×Bool)}{x0:Operand}{r0:Rp}(h0:ev l x0=some r0)(u0:r0.one=true):B1 Tryz.prog n c l H { dst:=d,op:=.build 142 #[(0,x0)],type:=ty,pos:=pos,after:=af,guard:=g } (Bq [r0,Ak 0,rv (.slice none 0 0),rB false]):=λa w Z ha _=>by
  have p0:=ha.ev h0;have c0:=BM (r0.hone u0 Z _ p0);have hb:Tryz.prog.built 142 [(0,a.eval x0)]=some #[a.eval x0,(.int .i64 0),((.slice none 0 0)),(.bool false)]:=by
    rw[X3];generalize a.eval x0=v0 at *;simp[Instr.fill,c0]
  refine⟨.agg #[a.eval x0,(.int .i64 0),((.slice none 0 0)),(.bool false)],⟨[a.eval x0,(.int .i64 0),((.slice none 0 0)),(.bool false)],rfl,p0,rfl,rfl,rfl,trivial⟩,?_⟩;have:=run_build w 142 #[(0,a.eval x0)] _ (by simpa using hb);simp[execOp,this]
theorem OG (s:Ae)(p:Ae)(r:Bool)(h:Ic s p=some r):Fn Tryz.prog GE 181 [rS s,rS p] [] (λR H=>R=rB r∧H=[]):=by
 refine enter (n:=18) Tryz.func181 Aa Tryz.ntmps181 Aa (λw Z=>?_);unfold Ic at h;refine Af (wa Aa (Ao (ck h λg1 h2=>AG [(4,rB ((decide ((p.length:Int)≤(s.length:Int)))&&(decide ((List.take (B6 (p.length:Int)) s)=p))))] [] ?_ ?_)))
 ·refine Ah (wm Aa (wv (Bm BZ Aa) (wm Aa (wv (Bm BZ Aa) (wv (GR Aa Aa) (wm Aa (AO (decide ((p.length:Int)≤(s.length:Int))) (λc3=>?_) (λc3=>?_))))))))
  ·refine wo c3 (wm Aa (wo c3 (wm Aa (wo c3 (wv (Bm BZ Aa) (wo c3 (wv (KV BZ Aa Aa (Cr g1 c3)) (wo c3 (wm Aa (wo c3 (wv (DN Aa Aa) (En Aa c3 Aa (wa Aa (Aj ?_))))))))))))));exact Cc c3
  ·refine wf c3 (wf c3 (wf c3 (wf c3 (wf c3 (wf c3 (wv (r:=rB false) (A7 Aa c3 Aa) (wa Aa (Aj ?_))))))));exact Cc c3
 refine As ?_;obtain rfl:=At h2;exact Ar (BY Tryz.results181 (AB Aa)) sN ⟨Aa,Aa⟩
theorem MT (s:Ae)(p:Ae)(r:Bool)(h:H6 s p=some r):Fn Tryz.prog GE 161 [rS s,rS p] [] (λR H=>R=rB r∧H=[]):=by
 refine enter (n:=8) Tryz.func161 Aa Tryz.ntmps161 Aa (λw Z=>?_);unfold H6 at h;refine Af (wa Aa (Bs (wm Aa (wm Aa (ob h λr1 e3 h2=>Cn Tryz.call181 (OG s p r1 e3) Aa (wa Aa (Ao (As ?_))))))));obtain rfl:=At h2;exact Ar (BY Tryz.results161 (AB Aa)) sN ⟨Aa,Aa⟩
theorem DU (ha:Nat)(hb:Value)(q:Az)(s:Ae)(r:Bool×Az)(h:Es q s=some r):Fn Tryz.prog GE 124 [rP ha 0,rS s] [.blk ha [rS q.fS,Ak q.fAt,rv hb,rB q.fGreat] 142,.row hb 63 4 (A1 Ac q.fCells)] (λR H=>∃w0_2:Value,R=rB r.1∧H=[.blk ha [rS r.2.fS,Ak r.2.fAt,rv w0_2,rB r.2.fGreat] 142,.row w0_2 63 4 (A1 Ac r.2.fCells)]):=by
 refine enter (n:=26) Tryz.func124 Aa Tryz.ntmps124 Aa (λw Z=>?_);unfold Es at h;refine Af (wa Aa (Ao (Ai (Ai (ck h λg1 h2=>ob h2 λr3 e5 h4=>Df [0,1] [⟨[],rP ha 0,0⟩,⟨[0],rP ha 0,0⟩,⟨[1],rP ha 0,0⟩,⟨[2],rS q.fS,1⟩,⟨[],rP ha 0,0⟩,⟨[4],rP ha 0,0⟩,⟨[5],rP ha 1,0⟩,⟨[6],Ak q.fAt,1⟩,⟨[3,7],rS (List.drop (B6 q.fAt) q.fS),0⟩,⟨[],rS s,0⟩,⟨[8,9],rB r3,0⟩,⟨[10],rB (!r3),0⟩] [16,0,1] ?_ ?_)))))
 ·refine oq (Aq Aa) (oq (A4 Aa) (oq (AC BI Aa CG Aa Aa) (of (Bj (i:=0) CV Aa Aa Aa) (oq (Aq Aa) (oq (A4 Aa) (oq (AC BI Aa Ct Aa Aa) (of (Bj (i:=0) Dm Aa Aa Aa) (oq (E5 BZ Aa Aa g1) (oq (Aq Aa) (DH Aa (λH=>If Tryz.call161 (MT (List.drop (B6 q.fAt) q.fS) s r3 e5) Aa) ?_))))))))));refine oq (BW Aa) ?_;exact CE
 refine AJ (cz h4 Aa (λc6 h7=>?_) (λc6 h8=>?_))
 ·refine Af (wa Aa (Ao (As (Ad ?_))));obtain rfl:=At h7;exact Ar (BY Tryz.results124 (AB Aa)) (sC (sC sN)) ⟨hb,Aa,Aa⟩
 ·refine Ap (AJ (Af (wm Aa (wv (A4 Aa) (vF BI Aa Ct (vL 0 Dm Aa (wm Aa (wv (Bm BZ Aa) (ck h8 λg9 hd=>wv (Bh Aa Aa g9) (wv (A4 Aa) (vF BI Aa Ct (BC (i:=0) Ct Aa Aa (Cl Aa) Aa Aa (cs':=[rS q.fS,Ak (q.fAt+(s.length:Int)),rv hb,rB q.fGreat]) Aa (H':=[.blk ha [rS q.fS,Ak (q.fAt+(s.length:Int)),rv hb,rB q.fGreat] 142,.row hb 63 4 (A1 Ac q.fCells)]) Aa (Bs (wa Aa (Ao (As ?_))))))))))))))));obtain rfl:=At hd;exact Ar (BY Tryz.results124 (AB Aa)) (sC (sC sN)) ⟨hb,Aa,Aa⟩
theorem Th (F:Nat)(ha:Nat)(hp:Value)(q:Az)(r:Ae×Bool×Az)(h:N8 F q=some r):Fn Tryz.prog GE 126 [rP ha 0] [.blk ha [rS q.fS,Ak q.fAt,rv hp,rB q.fGreat] 142,.row hp 63 4 (A1 Ac q.fCells)] (λR H=>∃w0_2:Value,R=Cs [rS r.1,rB r.2.1]∧H=[.blk ha [rS r.2.2.fS,Ak r.2.2.fAt,rv w0_2,rB r.2.2.fGreat] 142,.row w0_2 63 4 (A1 Ac r.2.2.fCells)]):=by
 refine enter (n:=104) Tryz.func126 Aa Tryz.ntmps126 Aa (λw Z=>?_);unfold N8 at h;refine Af (wv (r:=rS ([]:Ae)) (Av Aa) (wa Aa (Ao (Ai (Af (wm Aa (ob h λr1 e3 h2=>GX (Hr:=[]) HA (DU ha hp q ([34]:Ae) r1 e3) Aa (Abg _) Aa ?_)))))));rintro _ _ ⟨v4,rfl,rfl⟩;refine wv (BW Aa) (Ao (cz h2 Aa (λc5 h6=>?_) (λc5 h7=>?_)))
 ·refine Af (wv (r:=rS ([]:Ae)) (Av Aa) (wa Aa (Ao (As (Ad ?_)))));obtain rfl:=At h6;exact Ar (CS Q6 (AB Aa) (AB Aa)) (sC (sC sN)) ⟨v4,Aa,Aa⟩
 ·refine Ap (AJ (Af (wa Aa (Ao (Ai (AL (WC.nilrow (e:=5) (sz:=1) (GH (H2:=[.blk ha [rS r1.2.fS,Ak r1.2.fAt,rv v4,rB r1.2.fGreat] 142,.row v4 63 4 (A1 Ac r1.2.fCells),.row (.slice none 0 0     ) 5 1 (A1 B9 ([]:List Int))]) ((Al (i:=1) Aa).trans (Abe _ ((Al (i:=1) Aa).trans (Abe _ (Abg _))))) (ob h7 λhu hw hk=>B4 (S:=Nat×((List Int)×Int)×(Value)) (V:=(Int)×(Unit)) 0 (λσ=>Ca (λσ=>EL r1 σ.1 σ.2) σ.1 σ.2.1=some hu) (λσ=>[(0,rP ha 0),(4,rv σ.2.2)]) (λσ=>[.blk ha [rS r1.2.fS,Ak σ.2.1.2,rv v4,rB r1.2.fGreat] 142,.row v4 63 4 (A1 Ac r1.2.fCells),.row σ.2.2 5 1 (A1 B9 σ.2.1.1)]) (λσ=>σ.1) (F,(([]:List Int),r1.2.fAt),(.slice none 0 0     )) hw (AM.c Aa (AM.c Aa AM.nil)) (sC (sC (sC sN))) (λσ=>I9 r1 σ.1=some r) (λσ=>[]) (λσ=>[.blk ha [rS r1.2.fS,Ak σ.1,rv v4,rB r1.2.fGreat] 142,.row v4 63 4 (A1 Ac r1.2.fCells)]) ?_ ?_)))))))))
  ·rintro⟨ga,⟨hf,hb⟩,hg⟩ hx;refine Cd (l':=[(0,rP ha 0),(4,rv hg)]) (H':=[.blk ha [rS r1.2.fS,Ak hb,rv v4,rB r1.2.fGreat] 142,.row v4 63 4 (A1 Ac r1.2.fCells),.row hg 5 1 (A1 B9 hf)]) Aa Aa ?_;obtain⟨hy,rfl,hq,hl,hj⟩:=Cz hx;replace hl:EL r1 hf hb=some hq:=hl;unfold EL at hl;refine Ai (Ai (Df [0,4] [⟨[],rP ha 0,0⟩,⟨[0],rP ha 0,0⟩,⟨[1],rP ha 1,0⟩,⟨[2],Ak hb,1⟩,⟨[],rP ha 0,0⟩,⟨[4],rP ha 0,0⟩,⟨[5],rP ha 0,0⟩,⟨[6],rS r1.2.fS,1⟩,⟨[7],Ak (r1.2.fS.length:Int),0⟩,⟨[3,8],rB (decide (hb<(r1.2.fS.length:Int))),0⟩] [9,10,11,12,13,14,15,16,17,18,0,4] ?_ ?_))
   ·refine oq (Aq Aa) (oq (A4 Aa) (oq (AC BI Aa Ct Aa Aa) (of (Bj (i:=0) Dm Aa Aa Aa) (oq (Aq Aa) (oq (A4 Aa) (oq (AC BI Aa CG Aa Aa) (of (Bj (i:=0) CV Aa Aa Aa) (oq (Bm BZ Aa) (oq (Ch Aa Aa) ?_)))))))));exact CE
   refine AJ (cz hl Aa (λhz h0=>?_) (λhz h1=>?_))
   ·refine Ap (AJ (AL (Ai (ck h0 λh3 h4=>Df [0,4,9,10,11,12,13,14,15,16,17] [⟨[],rP ha 0,0⟩,⟨[0],rP ha 0,0⟩,⟨[1],rP ha 0,0⟩,⟨[2],rS r1.2.fS,1⟩,⟨[],rP ha 0,0⟩,⟨[4],rP ha 0,0⟩,⟨[5],rP ha 1,0⟩,⟨[6],Ak hb,1⟩,⟨[3,7],rI .u8 (Be r1.2.fS hb),0⟩,⟨[8],rI .u8 (Be r1.2.fS hb),0⟩] [19,20,21,22,23,24,25,26,27,5,0,4,9,10,11,12,13,14,15,16,17] ?_ ?_))))
    ·refine oq (Aq Aa) (oq (A4 Aa) (oq (AC BI Aa CG Aa Aa) (of (Bj (i:=0) CV Aa Aa Aa) (oq (Aq Aa) (oq (A4 Aa) (oq (AC BI Aa Ct Aa Aa) (of (Bj (i:=0) Dm Aa Aa Aa) (oq (Bb BZ Aa Aa h3) (oq (Av Aa) ?_)))))))));exact CE
    refine AJ (Af (wm Aa (wv (A4 Aa) (vF BI Aa Ct (vL 0 Dm Aa (ck h4 λh5 h8=>wv (Bh Aa Aa h5) (wv (A4 Aa) (vF BI Aa Ct (BC (i:=0) Ct Aa Aa (Cl Aa) Aa Aa (cs':=[rS r1.2.fS,Ak (hb+1),rv v4,rB r1.2.fGreat]) Aa (H':=[.blk ha [rS r1.2.fS,Ak (hb+1),rv v4,rB r1.2.fGreat] 142,.row v4 63 4 (A1 Ac r1.2.fCells),.row hg 5 1 (A1 B9 hf)]) Aa (Ao (D8 (S:=(Int×Int)×(Unit)) (λσ=>Gs hf σ.1.1 σ.1.2=some hq) (λσ=>[(0,rP ha 0),(4,rv hg),(5,rI .u8 σ.1.1),(9,rP ha 0),(10,rP ha 0),(11,rP ha 1),(12,Ak hb),(13,rP ha 0),(14,rP ha 0),(15,rP ha 0),(16,rS r1.2.fS),(17,Ak (r1.2.fS.length:Int)),(19,rP ha 0),(20,rP ha 0),(21,rP ha 0),(22,rS r1.2.fS),(23,rP ha 0),(24,rP ha 0),(25,rP ha 1),(26,Ak hb),(27,rI .u8 (Be r1.2.fS hb))]) (λσ=>[.blk ha [rS r1.2.fS,Ak σ.1.2,rv v4,rB r1.2.fGreat] 142,.row v4 63 4 (A1 Ac r1.2.fCells),.row hg 5 1 (A1 B9 hf)]) ?_ ?_)))))))))))
    ·refine AL (Af (wm Aa (wv (BE Aa Aa) (wa Aa (Ao (cz h8 Aa (λh9 hA=>?_) (λh9 hB=>?_)))))))
     ·refine Af (wm Aa (wv (r:=rS (Qs hf)) (Wx (xs:=hf) (i:=2) EK BZ Qq Aa Aa) (wa Aa (wa Aa (Ao (As (A3 (Ad (A3 (Ad (Bc ?_)))))))))));have hC:=Bz hA hj hk;refine A3 (Ad ?_);obtain rfl:=At hC;exact Ar (CS Q6 (AB Aa) (AB Aa)) (sC (sC (sS sN))) ⟨v4,Aa,Aa⟩
     ·refine AG [(0,rP ha 0),(4,rv hg),(5,rI .u8 (Be r1.2.fS hb)),(9,rP ha 0),(10,rP ha 0),(11,rP ha 1),(12,Ak hb),(13,rP ha 0),(14,rP ha 0),(15,rP ha 0),(16,rS r1.2.fS),(17,Ak (r1.2.fS.length:Int)),(19,rP ha 0),(20,rP ha 0),(21,rP ha 0),(22,rS r1.2.fS),(23,rP ha 0),(24,rP ha 0),(25,rP ha 1),(26,Ak hb),(27,rI .u8 (Be r1.2.fS hb)),(40,rB ((decide ((Be r1.2.fS hb)<32))||(decide (126<(Be r1.2.fS hb)))))] [.blk ha [rS r1.2.fS,Ak (hb+1),rv v4,rB r1.2.fGreat] 142,.row v4 63 4 (A1 Ac r1.2.fCells),.row hg 5 1 (A1 B9 hf)] ?_ ?_
      ·refine Ah (wm Aa (wv (Ch Aa Aa) (wm Aa (AO (decide ((Be r1.2.fS hb)<32)) (λhh=>?_) (λhh=>?_)))))
       ·refine wf hh (wf hh (wv (r:=rB true) (Ax Aa hh Aa) (wa Aa (Aj ?_))));exact Cc hh
       ·refine wo hh (wm Aa (wo hh (wv (Cv Aa Aa) (Ea Aa hh Aa (wa Aa (Aj ?_))))));exact Cc hh
      refine cz hB Aa (λhD hE=>?_) (λhD hG=>?_)
      ·refine Af (wv (r:=rS ([]:Ae)) (Av Aa) (wa Aa (Ao (As (A3 (Ad (A3 (Ad (Bc ?_)))))))));have hH:=Bz hE hj hk;refine A3 (Ad ?_);obtain rfl:=At hH;exact Ar (CS Q6 (AB Aa) (AB Aa)) (sC (sC (sS sN))) ⟨v4,Aa,Aa⟩
      ·refine Af (wm Aa (wv (BE Aa Aa) (wa Aa (Ao (cz hG Aa (λhI hJ=>?_) (λhI hK=>?_))))))
       ·refine Ai (ck hJ λhr hL=>AG [(0,rP ha 0),(4,rv hg),(9,rP ha 0),(10,rP ha 0),(11,rP ha 1),(12,Ak hb),(13,rP ha 0),(14,rP ha 0),(15,rP ha 0),(16,rS r1.2.fS),(17,Ak (r1.2.fS.length:Int)),(19,rP ha 0),(20,rP ha 0),(21,rP ha 0),(22,rS r1.2.fS),(23,rP ha 0),(24,rP ha 0),(25,rP ha 1),(26,Ak hb),(27,rI .u8 (Be r1.2.fS hb)),(50,rP ha 0),(51,rP ha 0),(52,rP ha 1),(53,Ak (hb+1)),(54,rP ha 0),(55,rP ha 0),(56,rP ha 0),(57,rS r1.2.fS),(58,Ak (r1.2.fS.length:Int)),(59,rB (decide ((r1.2.fS.length:Int)≤(hb+1)))),(60,rB (decide ((r1.2.fS.length:Int)≤(hb+1)))),(83,rB ((decide ((r1.2.fS.length:Int)≤(hb+1)))||((!decide ((Be r1.2.fS (hb+1))=34))&&(!decide ((Be r1.2.fS (hb+1))=92)))))] [.blk ha [rS r1.2.fS,Ak (hb+1),rv v4,rB r1.2.fGreat] 142,.row v4 63 4 (A1 Ac r1.2.fCells),.row hg 5 1 (A1 B9 hf)] ?_ ?_)
        ·refine AO (decide ((r1.2.fS.length:Int)≤(hb+1))) (λhd=>?_) (λhd=>?_)
         ·refine Df [0,4,9,10,11,12,13,14,15,16,17,19,20,21,22,23,24,25,26,27] [⟨[],rP ha 0,0⟩,⟨[0],rP ha 0,0⟩,⟨[1],rP ha 1,0⟩,⟨[2],Ak (hb+1),1⟩,⟨[],rP ha 0,0⟩,⟨[4],rP ha 0,0⟩,⟨[5],rP ha 0,0⟩,⟨[6],rS r1.2.fS,1⟩,⟨[7],Ak (r1.2.fS.length:Int),0⟩,⟨[3,8],rB (decide ((r1.2.fS.length:Int)≤(hb+1))),0⟩,⟨[9],rB (decide ((r1.2.fS.length:Int)≤(hb+1))),0⟩,⟨[10],rv undef,0⟩,⟨[11,10],rv undef,0⟩,⟨[12,10],rv undef,0⟩,⟨[13,10],rv undef,0⟩,⟨[10],rv undef,0⟩,⟨[15,10],rv undef,0⟩,⟨[16,10],rv undef,0⟩,⟨[17,10],rv undef,0⟩,⟨[14,18,10],rv undef,0⟩,⟨[19,10],rv undef,0⟩,⟨[20,10],rv undef,0⟩,⟨[21],rv undef,0⟩,⟨[22,21],rv undef,0⟩,⟨[23,21],rv undef,0⟩,⟨[24,21],rv undef,0⟩,⟨[21],rv undef,0⟩,⟨[26,21],rv undef,0⟩,⟨[27,21],rv undef,0⟩,⟨[28,21],rv undef,0⟩,⟨[25,29,21],rv undef,0⟩,⟨[30,21],rv undef,0⟩,⟨[21,31,10],rv undef,0⟩,⟨[10,32],rB true,0⟩] [50,51,52,53,54,55,56,57,58,59,60,61,62,63,64,65,66,67,68,69,70,71,72,73,74,75,76,77,78,79,80,81,82,83,0,4,9,10,11,12,13,14,15,16,17,19,20,21,22,23,24,25,26,27] ?_ ?_
          ·refine oq (Aq Aa) (oq (A4 Aa) (oq (AC BI Aa Ct Aa Aa) (of (Bj (i:=0) Dm Aa Aa Aa) (oq (Aq Aa) (oq (A4 Aa) (oq (AC BI Aa CG Aa Aa) (of (Bj (i:=0) CV Aa Aa Aa) (oq (Bm BZ Aa) (oq (GR Aa Aa) (oq (Aq Aa) (oz hd (oz hd (oz hd (oz hd (oz hd (oz hd (oz hd (oz hd (oz hd (oz hd (oz hd (ou (ou ?_)))))))))))))))))))))));refine ou (ou (ou (ou (ou (ou (ou (ou (oz hd (oq (Ax (b:=decide ((r1.2.fS.length:Int)≤(hb+1))) Aa hd Aa) ?_)))))))));exact CE
          exact Cc hd
         ·refine AO (!decide ((Be r1.2.fS (hb+1))=34)) (λhe=>?_) (λhe=>?_)
          ·refine Df [0,4,9,10,11,12,13,14,15,16,17,19,20,21,22,23,24,25,26,27] [⟨[],rP ha 0,0⟩,⟨[0],rP ha 0,0⟩,⟨[1],rP ha 1,0⟩,⟨[2],Ak (hb+1),1⟩,⟨[],rP ha 0,0⟩,⟨[4],rP ha 0,0⟩,⟨[5],rP ha 0,0⟩,⟨[6],rS r1.2.fS,1⟩,⟨[7],Ak (r1.2.fS.length:Int),0⟩,⟨[3,8],rB (decide ((r1.2.fS.length:Int)≤(hb+1))),0⟩,⟨[9],rB (decide ((r1.2.fS.length:Int)≤(hb+1))),0⟩,⟨[10],rP ha 0,0⟩,⟨[11,10],rP ha 0,0⟩,⟨[12,10],rP ha 0,0⟩,⟨[13,10],rS r1.2.fS,1⟩,⟨[10],rP ha 0,0⟩,⟨[15,10],rP ha 0,0⟩,⟨[16,10],rP ha 1,0⟩,⟨[17,10],Ak (hb+1),1⟩,⟨[14,18,10],rI .u8 (Be r1.2.fS (hb+1)),0⟩,⟨[19,10],rB (!decide ((Be r1.2.fS (hb+1))=34)),0⟩,⟨[20,10],rB (!decide ((Be r1.2.fS (hb+1))=34)),0⟩,⟨[21],rP ha 0,0⟩,⟨[22,21],rP ha 0,0⟩,⟨[23,21],rP ha 0,0⟩,⟨[24,21],rS r1.2.fS,1⟩,⟨[21],rP ha 0,0⟩,⟨[26,21],rP ha 0,0⟩,⟨[27,21],rP ha 1,0⟩,⟨[28,21],Ak (hb+1),1⟩,⟨[25,29,21],rI .u8 (Be r1.2.fS (hb+1)),0⟩,⟨[30,21],rB (!decide ((Be r1.2.fS (hb+1))=92)),0⟩,⟨[21,31,10],rB (!decide ((Be r1.2.fS (hb+1))=92)),0⟩,⟨[10,32],rB (!decide ((Be r1.2.fS (hb+1))=92)),0⟩] [50,51,52,53,54,55,56,57,58,59,60,61,62,63,64,65,66,67,68,69,70,71,72,73,74,75,76,77,78,79,80,81,82,83,0,4,9,10,11,12,13,14,15,16,17,19,20,21,22,23,24,25,26,27] ?_ ?_
           ·refine oq (Aq Aa) (oq (A4 Aa) (oq (AC BI Aa Ct Aa Aa) (of (Bj (i:=0) Dm Aa Aa Aa) (oq (Aq Aa) (oq (A4 Aa) (oq (AC BI Aa CG Aa Aa) (of (Bj (i:=0) CV Aa Aa Aa) (oq (Bm BZ Aa) (oq (GR Aa Aa) (oq (Aq Aa) (on hd (oq (Aq Aa) (on hd (oq (A4 Aa) (on hd (oq (AC BI Aa CG Aa Aa) (on hd (of (Bj (i:=0) CV Aa Aa Aa) (on hd (oq (Aq Aa) (on hd (oq (A4 Aa) (on hd ?_)))))))))))))))))))))));refine oq (AC BI Aa Ct Aa Aa) (on hd (of (Bj (i:=0) Dm Aa Aa Aa) (on hd (oq (Bb BZ Aa Aa (Dw hr hd)) (on hd (oq (CR Aa Aa) (on hd (oq (Aq Aa) (on he (oq (Aq Aa) (on he (oq (A4 Aa) (on he (oq (AC BI Aa CG Aa Aa) (on he (of (Bj (i:=0) CV Aa Aa Aa) (on he (oq (Aq Aa) (on he (oq (A4 Aa) (on he (oq (AC BI Aa Ct Aa Aa) (on he ?_)))))))))))))))))))))));refine of (Bj (i:=0) Dm Aa Aa Aa) (on he (oq (Bb BZ Aa Aa (Dw hr hd)) (on he (oq (CR Aa Aa) (on hd (oq (Ax Aa he Aa) (oq (A7 Aa hd Aa) ?_)))))));exact CE
           exact Cc (And.intro hd he)
          ·refine Df [0,4,9,10,11,12,13,14,15,16,17,19,20,21,22,23,24,25,26,27] [⟨[],rP ha 0,0⟩,⟨[0],rP ha 0,0⟩,⟨[1],rP ha 1,0⟩,⟨[2],Ak (hb+1),1⟩,⟨[],rP ha 0,0⟩,⟨[4],rP ha 0,0⟩,⟨[5],rP ha 0,0⟩,⟨[6],rS r1.2.fS,1⟩,⟨[7],Ak (r1.2.fS.length:Int),0⟩,⟨[3,8],rB (decide ((r1.2.fS.length:Int)≤(hb+1))),0⟩,⟨[9],rB (decide ((r1.2.fS.length:Int)≤(hb+1))),0⟩,⟨[10],rP ha 0,0⟩,⟨[11,10],rP ha 0,0⟩,⟨[12,10],rP ha 0,0⟩,⟨[13,10],rS r1.2.fS,1⟩,⟨[10],rP ha 0,0⟩,⟨[15,10],rP ha 0,0⟩,⟨[16,10],rP ha 1,0⟩,⟨[17,10],Ak (hb+1),1⟩,⟨[14,18,10],rI .u8 (Be r1.2.fS (hb+1)),0⟩,⟨[19,10],rB (!decide ((Be r1.2.fS (hb+1))=34)),0⟩,⟨[20,10],rB (!decide ((Be r1.2.fS (hb+1))=34)),0⟩,⟨[21],rv undef,0⟩,⟨[22,21],rv undef,0⟩,⟨[23,21],rv undef,0⟩,⟨[24,21],rv undef,0⟩,⟨[21],rv undef,0⟩,⟨[26,21],rv undef,0⟩,⟨[27,21],rv undef,0⟩,⟨[28,21],rv undef,0⟩,⟨[25,29,21],rv undef,0⟩,⟨[30,21],rv undef,0⟩,⟨[21,31,10],rB false,0⟩,⟨[10,32],rB false,0⟩] [50,51,52,53,54,55,56,57,58,59,60,61,62,63,64,65,66,67,68,69,70,71,72,73,74,75,76,77,78,79,80,81,82,83,0,4,9,10,11,12,13,14,15,16,17,19,20,21,22,23,24,25,26,27] ?_ ?_
           ·refine oq (Aq Aa) (oq (A4 Aa) (oq (AC BI Aa Ct Aa Aa) (of (Bj (i:=0) Dm Aa Aa Aa) (oq (Aq Aa) (oq (A4 Aa) (oq (AC BI Aa CG Aa Aa) (of (Bj (i:=0) CV Aa Aa Aa) (oq (Bm BZ Aa) (oq (GR Aa Aa) (oq (Aq Aa) (on hd (oq (Aq Aa) (on hd (oq (A4 Aa) (on hd (oq (AC BI Aa CG Aa Aa) (on hd (of (Bj (i:=0) CV Aa Aa Aa) (on hd (oq (Aq Aa) (on hd (oq (A4 Aa) (on hd ?_)))))))))))))))))))))));refine oq (AC BI Aa Ct Aa Aa) (on hd (of (Bj (i:=0) Dm Aa Aa Aa) (on hd (oq (Bb BZ Aa Aa (Dw hr hd)) (on hd (oq (CR Aa Aa) (on hd (oq (Aq Aa) (oz he (oz he (oz he (oz he (oz he (oz he (oz he (oz he (oz he (oz he (on hd (oq (A7 (b:=!decide ((Be r1.2.fS (hb+1))=34)) Aa he Aa) (oq (A7 Aa hd Aa) ?_)))))))))))))))))))));exact CE
           exact Cc (And.intro hd he)
        refine cz hL Aa (λhN hO=>?_) (λhN hP=>?_)
        ·refine Af (wv (r:=rS ([]:Ae)) (Av Aa) (wa Aa (Ao (As (Ad (A3 (Ad (A3 (Ad (Bc ?_))))))))));have hQ:=Bz hO hj hk;refine A3 (Ad ?_);obtain rfl:=At hQ;exact Ar (CS Q6 (AB Aa) (AB Aa)) (sC (sC (sS sN))) ⟨v4,Aa,Aa⟩
        ·refine Ap (AJ (Ai (ck hP λhR hS=>Df [0,4,9,10,11,12,13,14,15,16,17,19,20,21,22,23,24,25,26,27,50,51,52,53,54,55,56,57,58,59,60] [⟨[],rP ha 0,0⟩,⟨[0],rP ha 0,0⟩,⟨[1],rP ha 0,0⟩,⟨[2],rS r1.2.fS,1⟩,⟨[],rP ha 0,0⟩,⟨[4],rP ha 0,0⟩,⟨[5],rP ha 1,0⟩,⟨[6],Ak (hb+1),1⟩,⟨[3,7],rI .u8 (Be r1.2.fS (hb+1)),0⟩,⟨[8],rI .u8 (Be r1.2.fS (hb+1)),0⟩] [84,85,86,87,88,89,90,91,92,5,0,4,9,10,11,12,13,14,15,16,17,19,20,21,22,23,24,25,26,27,50,51,52,53,54,55,56,57,58,59,60] ?_ ?_)))
         ·refine oq (Aq Aa) (oq (A4 Aa) (oq (AC BI Aa CG Aa Aa) (of (Bj (i:=0) CV Aa Aa Aa) (oq (Aq Aa) (oq (A4 Aa) (oq (AC BI Aa Ct Aa Aa) (of (Bj (i:=0) Dm Aa Aa Aa) (oq (Bb BZ Aa Aa hR) (oq (Av Aa) ?_)))))))));exact CE
         exact AJ (Ah (wm Aa (wv (A4 Aa) (vF BI Aa Ct (vL 0 Dm Aa (ck hS λhT hU=>wv (Bh Aa Aa hT) (wv (A4 Aa) (vF BI Aa Ct (BC (i:=0) Ct Aa Aa (Cl Aa) Aa Aa (cs':=[rS r1.2.fS,Ak ((hb+1)+1),rv v4,rB r1.2.fGreat]) Aa (H':=[.blk ha [rS r1.2.fS,Ak ((hb+1)+1),rv v4,rB r1.2.fGreat] 142,.row v4 63 4 (A1 Ac r1.2.fCells),.row hg 5 1 (A1 B9 hf)]) Aa (Aj (AF (Au (AD ((Be r1.2.fS (hb+1),(hb+1)+1),()) hU (AM.c Aa (AM.c5 Aa Aa Aa Aa Aa (AM.c5 Aa Aa Aa Aa Aa (AM.c5 Aa Aa Aa Aa Aa (AM.c5 Aa Aa Aa Aa Aa AM.nil))))) (sC (sC (sC sN))))))))))))))))
       ·exact Ap (AF (Au (AD ((Be r1.2.fS hb,hb+1),()) hK (AM.c Aa (AM.c5 Aa Aa Aa Aa Aa (AM.c5 Aa Aa Aa Aa Aa (AM.c5 Aa Aa Aa Aa Aa (AM.c5 Aa Aa Aa Aa Aa AM.nil))))) (sC (sC (sC sN))))))
    ·rintro⟨⟨hi,hm⟩,⟨⟩⟩ hn;refine Cd (l':=[(0,rP ha 0),(4,rv hg),(5,rI .u8 hi),(9,rP ha 0),(10,rP ha 0),(11,rP ha 1),(12,Ak hb),(13,rP ha 0),(14,rP ha 0),(15,rP ha 0),(16,rS r1.2.fS),(17,Ak (r1.2.fS.length:Int)),(19,rP ha 0),(20,rP ha 0),(21,rP ha 0),(22,rS r1.2.fS),(23,rP ha 0),(24,rP ha 0),(25,rP ha 1),(26,Ak hb),(27,rI .u8 (Be r1.2.fS hb))]) (H':=[.blk ha [rS r1.2.fS,Ak hm,rv v4,rB r1.2.fGreat] 142,.row v4 63 4 (A1 Ac r1.2.fCells),.row hg 5 1 (A1 B9 hf)]) Aa Aa ?_;replace hn:Gs hf hi hm=some hq:=hn;unfold Gs at hn;refine Ah (wm Aa (wm Aa (AQ (ys:=([hi]:List Int)) (enc:=B9) (css:=[[rI .u8 hi]]) (xs:=[.tmp 101]) EK Zt Zs Aa Aa Aa ⟨Eo.one Aa (Up.refl _),trivial⟩ Aa D1 Aa Aa Aa (λhV=>?_))));refine ck hn λhW hX=>Exists.elim LN λinf hinf=>BL (xs:=hf) (ys:=([hi]:List Int)) (enc:=B9) (i:=3) EK hinf.1 hinf.2.1 hinf.2.2.1 hinf.2.2.2 Aa Aa Aa Aa Aa (I5.w (i:=0) Aa Aa) D1 IR hW Aa (λhs=>?_);refine wa Aa (Aj (AF (BO (H2:=[.blk ha [rS r1.2.fS,Ak hm,rv v4,rB r1.2.fGreat] 142,.row v4 63 4 (A1 Ac r1.2.fCells),.row hs 5 1 (A1 B9 (hf++([hi]:List Int))),.row (.slice (some ⟨hV,0,none⟩) 1 1) 5 1 (A1 B9 ([hi]:List Int))]) ((Al (i:=2) Aa).trans (Abe _ ((Al (i:=2) Aa).trans (Abe _ (Abg _))))) ?_)));have hY:=Bg hX hj;exact Au (AD (hy,(hf++([hi]:List Int),hm),hs) ⟨hY,Abo _⟩ (AM.c Aa (AM.c Aa AM.nil)) (sC (sC (sC (sS sN)))))
   ·refine BB (A2 ?_);have hZ:=Cb h1 hj hk;exact A2 (Bn (AD (hb,()) hZ AM.nil (sC (sC (sS sN)))))
  ·rintro⟨ht,⟨⟩⟩ ho;refine C4 (l':=[]) (H':=[.blk ha [rS r1.2.fS,Ak ht,rv v4,rB r1.2.fGreat] 142,.row v4 63 4 (A1 Ac r1.2.fCells)]) Aa Aa ?_;replace ho:I9 r1 ht=some r:=ho;unfold I9 at ho;refine Bi (AJ (Af (wv (r:=rS ([]:Ae)) (Av Aa) (wa Aa (Ao (As ?_))))));obtain rfl:=At ho;exact Ar (CS Q6 (AB Aa) (AB Aa)) (sC (sC sN)) ⟨v4,Aa,Aa⟩
theorem Ya (F:Nat)(ha:Nat)(hl:Value)(q:Az)(r:Bool×Az)(h:N9 F q=some r):Fn Tryz.prog GE 162 [rP ha 0] [.blk ha [rS q.fS,Ak q.fAt,rv hl,rB q.fGreat] 142,.row hl 63 4 (A1 Ac q.fCells)] (λR H=>∃w0_2:Value,R=rB r.1∧H=[.blk ha [rS r.2.fS,Ak r.2.fAt,rv w0_2,rB r.2.fGreat] 142,.row w0_2 63 4 (A1 Ac r.2.fCells)]):=by
 refine enter (n:=104) Tryz.func162 Aa Tryz.ntmps162 Aa (λw Z=>?_);unfold N9 at h;refine Af (wa Aa (Bs (wm Aa (wv (A4 Aa) (vF BI Aa Ct (vL 0 Dm Aa (wa Aa (Bs (wm Aa (ob h λr1 e3 h2=>GX (Hr:=[]) HA (DU ha hl q ([45]:Ae) r1 e3) Aa (Abg _) Aa ?_))))))))));rintro _ _ ⟨v4,rfl,rfl⟩;refine Bs (wm Aa (wv (A4 Aa) (vF BI Aa Ct (vL 0 Dm Aa (wa Aa (Ao (Ai (AL (ob h2 λhp hq hr=>B4 (S:=Nat×(Int)×(Unit)) (V:=(Int)×(Unit)) 0 (λσ=>Ca (λσ=>EM r1 σ) σ.1 σ.2.1=some hp) (λσ=>[(0,rP ha 0),(3,Ak q.fAt),(4,Ak r1.2.fAt)]) (λσ=>[.blk ha [rS r1.2.fS,Ak σ.2.1,rv v4,rB r1.2.fGreat] 142,.row v4 63 4 (A1 Ac r1.2.fCells)]) (λσ=>σ.1) (F,r1.2.fAt,()) hq (AM.c Aa (AM.c Aa (AM.c Aa AM.nil))) (sC (sC sN)) (λσ=>J9 q r1 σ.1=some r) (λσ=>[(0,rP ha 0),(3,Ak q.fAt),(4,Ak r1.2.fAt)]) (λσ=>[.blk ha [rS r1.2.fS,Ak σ.1,rv v4,rB r1.2.fGreat] 142,.row v4 63 4 (A1 Ac r1.2.fCells)]) ?_ ?_)))))))))
 ·rintro⟨hH,hd,⟨⟩⟩ hs;refine Cd (l':=[(0,rP ha 0),(3,Ak q.fAt),(4,Ak r1.2.fAt)]) (H':=[.blk ha [rS r1.2.fS,Ak hd,rv v4,rB r1.2.fGreat] 142,.row v4 63 4 (A1 Ac r1.2.fCells)]) Aa Aa ?_;obtain⟨ht,rfl,hu,hj,hn⟩:=Cz hs;replace hj:EM r1 hd=some hu:=hj;unfold EM at hj;refine Ai (ck hj λhm hw=>AG [(0,rP ha 0),(3,Ak q.fAt),(4,Ak r1.2.fAt),(17,rP ha 0),(18,rP ha 0),(19,rP ha 1),(20,Ak hd),(21,rP ha 0),(22,rP ha 0),(23,rP ha 0),(24,rS r1.2.fS),(25,Ak (r1.2.fS.length:Int)),(26,rB (decide (hd<(r1.2.fS.length:Int)))),(27,rB (decide (hd<(r1.2.fS.length:Int)))),(38,rB ((decide (hd<(r1.2.fS.length:Int)))&&(decide (48≤(Be r1.2.fS hd))))),(39,rB ((decide (hd<(r1.2.fS.length:Int)))&&(decide (48≤(Be r1.2.fS hd))))),(50,rB ((decide (hd<(r1.2.fS.length:Int)))&&((decide (48≤(Be r1.2.fS hd)))&&(decide ((Be r1.2.fS hd)≤57)))))] [.blk ha [rS r1.2.fS,Ak hd,rv v4,rB r1.2.fGreat] 142,.row v4 63 4 (A1 Ac r1.2.fCells)] ?_ ?_)
  ·refine AO (decide (hd<(r1.2.fS.length:Int))) (λhe=>?_) (λhe=>?_)
   ·refine AO (decide (48≤(Be r1.2.fS hd))) (λhf=>?_) (λhf=>?_)
    ·refine Df [0,3,4] [⟨[],rP ha 0,0⟩,⟨[0],rP ha 0,0⟩,⟨[1],rP ha 1,0⟩,⟨[2],Ak hd,1⟩,⟨[],rP ha 0,0⟩,⟨[4],rP ha 0,0⟩,⟨[5],rP ha 0,0⟩,⟨[6],rS r1.2.fS,1⟩,⟨[7],Ak (r1.2.fS.length:Int),0⟩,⟨[3,8],rB (decide (hd<(r1.2.fS.length:Int))),0⟩,⟨[9],rB (decide (hd<(r1.2.fS.length:Int))),0⟩,⟨[10],rP ha 0,0⟩,⟨[11,10],rP ha 0,0⟩,⟨[12,10],rP ha 0,0⟩,⟨[13,10],rS r1.2.fS,1⟩,⟨[10],rP ha 0,0⟩,⟨[15,10],rP ha 0,0⟩,⟨[16,10],rP ha 1,0⟩,⟨[17,10],Ak hd,1⟩,⟨[14,18,10],rI .u8 (Be r1.2.fS hd),0⟩,⟨[19,10],rB (decide (48≤(Be r1.2.fS hd))),0⟩,⟨[10,20],rB (decide (48≤(Be r1.2.fS hd))),0⟩,⟨[21],rB (decide (48≤(Be r1.2.fS hd))),0⟩,⟨[22],rP ha 0,0⟩,⟨[23,22],rP ha 0,0⟩,⟨[24,22],rP ha 0,0⟩,⟨[25,22],rS r1.2.fS,1⟩,⟨[22],rP ha 0,0⟩,⟨[27,22],rP ha 0,0⟩,⟨[28,22],rP ha 1,0⟩,⟨[29,22],Ak hd,1⟩,⟨[26,30,22],rI .u8 (Be r1.2.fS hd),0⟩,⟨[31,22],rB (decide ((Be r1.2.fS hd)≤57)),0⟩,⟨[22,32],rB (decide ((Be r1.2.fS hd)≤57)),0⟩] [17,18,19,20,21,22,23,24,25,26,27,28,29,30,31,32,33,34,35,36,37,38,39,40,41,42,43,44,45,46,47,48,49,50,0,3,4] ?_ ?_
     ·refine oq (Aq Aa) (oq (A4 Aa) (oq (AC BI Aa Ct Aa Aa) (of (Bj (i:=0) Dm Aa Aa Aa) (oq (Aq Aa) (oq (A4 Aa) (oq (AC BI Aa CG Aa Aa) (of (Bj (i:=0) CV Aa Aa Aa) (oq (Bm BZ Aa) (oq (Ch Aa Aa) (oq (Aq Aa) (on he (oq (Aq Aa) (on he (oq (A4 Aa) (on he (oq (AC BI Aa CG Aa Aa) (on he (of (Bj (i:=0) CV Aa Aa Aa) (on he (oq (Aq Aa) (on he (oq (A4 Aa) (on he ?_)))))))))))))))))))))));refine oq (AC BI Aa Ct Aa Aa) (on he (of (Bj (i:=0) Dm Aa Aa Aa) (on he (oq (Bb BZ Aa Aa (Cr hm he)) (on he (oq (GR Aa Aa) (oq (Ax Aa he Aa) (oq (Aq Aa) (on hf (oq (Aq Aa) (on hf (oq (A4 Aa) (on hf (oq (AC BI Aa CG Aa Aa) (on hf (of (Bj (i:=0) CV Aa Aa Aa) (on hf (oq (Aq Aa) (on hf (oq (A4 Aa) (on hf (oq (AC BI Aa Ct Aa Aa) (on hf ?_)))))))))))))))))))))));refine of (Bj (i:=0) Dm Aa Aa Aa) (on hf (oq (Bb BZ Aa Aa (Cr hm he)) (on hf (oq (K6 Aa Aa) (oq (Ax Aa hf Aa) ?_)))));exact CE
     exact Cc (And.intro he hf)
    ·refine Df [0,3,4] [⟨[],rP ha 0,0⟩,⟨[0],rP ha 0,0⟩,⟨[1],rP ha 1,0⟩,⟨[2],Ak hd,1⟩,⟨[],rP ha 0,0⟩,⟨[4],rP ha 0,0⟩,⟨[5],rP ha 0,0⟩,⟨[6],rS r1.2.fS,1⟩,⟨[7],Ak (r1.2.fS.length:Int),0⟩,⟨[3,8],rB (decide (hd<(r1.2.fS.length:Int))),0⟩,⟨[9],rB (decide (hd<(r1.2.fS.length:Int))),0⟩,⟨[10],rP ha 0,0⟩,⟨[11,10],rP ha 0,0⟩,⟨[12,10],rP ha 0,0⟩,⟨[13,10],rS r1.2.fS,1⟩,⟨[10],rP ha 0,0⟩,⟨[15,10],rP ha 0,0⟩,⟨[16,10],rP ha 1,0⟩,⟨[17,10],Ak hd,1⟩,⟨[14,18,10],rI .u8 (Be r1.2.fS hd),0⟩,⟨[19,10],rB (decide (48≤(Be r1.2.fS hd))),0⟩,⟨[10,20],rB (decide (48≤(Be r1.2.fS hd))),0⟩,⟨[21],rB (decide (48≤(Be r1.2.fS hd))),0⟩,⟨[22],rv undef,0⟩,⟨[23,22],rv undef,0⟩,⟨[24,22],rv undef,0⟩,⟨[25,22],rv undef,0⟩,⟨[22],rv undef,0⟩,⟨[27,22],rv undef,0⟩,⟨[28,22],rv undef,0⟩,⟨[29,22],rv undef,0⟩,⟨[26,30,22],rv undef,0⟩,⟨[31,22],rv undef,0⟩,⟨[22,32],rB false,0⟩] [17,18,19,20,21,22,23,24,25,26,27,28,29,30,31,32,33,34,35,36,37,38,39,40,41,42,43,44,45,46,47,48,49,50,0,3,4] ?_ ?_
     ·refine oq (Aq Aa) (oq (A4 Aa) (oq (AC BI Aa Ct Aa Aa) (of (Bj (i:=0) Dm Aa Aa Aa) (oq (Aq Aa) (oq (A4 Aa) (oq (AC BI Aa CG Aa Aa) (of (Bj (i:=0) CV Aa Aa Aa) (oq (Bm BZ Aa) (oq (Ch Aa Aa) (oq (Aq Aa) (on he (oq (Aq Aa) (on he (oq (A4 Aa) (on he (oq (AC BI Aa CG Aa Aa) (on he (of (Bj (i:=0) CV Aa Aa Aa) (on he (oq (Aq Aa) (on he (oq (A4 Aa) (on he ?_)))))))))))))))))))))));refine oq (AC BI Aa Ct Aa Aa) (on he (of (Bj (i:=0) Dm Aa Aa Aa) (on he (oq (Bb BZ Aa Aa (Cr hm he)) (on he (oq (GR Aa Aa) (oq (Ax Aa he Aa) (oq (Aq Aa) (oz hf (oz hf (oz hf (oz hf (oz hf (oz hf (oz hf (oz hf (oz hf (oz hf (oq (A7 (b:=decide (48≤(Be r1.2.fS hd))) Aa hf Aa) ?_)))))))))))))))))));exact CE
     exact Cc (And.intro he hf)
   ·refine Df [0,3,4] [⟨[],rP ha 0,0⟩,⟨[0],rP ha 0,0⟩,⟨[1],rP ha 1,0⟩,⟨[2],Ak hd,1⟩,⟨[],rP ha 0,0⟩,⟨[4],rP ha 0,0⟩,⟨[5],rP ha 0,0⟩,⟨[6],rS r1.2.fS,1⟩,⟨[7],Ak (r1.2.fS.length:Int),0⟩,⟨[3,8],rB (decide (hd<(r1.2.fS.length:Int))),0⟩,⟨[9],rB (decide (hd<(r1.2.fS.length:Int))),0⟩,⟨[10],rv undef,0⟩,⟨[11,10],rv undef,0⟩,⟨[12,10],rv undef,0⟩,⟨[13,10],rv undef,0⟩,⟨[10],rv undef,0⟩,⟨[15,10],rv undef,0⟩,⟨[16,10],rv undef,0⟩,⟨[17,10],rv undef,0⟩,⟨[14,18,10],rv undef,0⟩,⟨[19,10],rv undef,0⟩,⟨[10,20],rB false,0⟩,⟨[21],rB false,0⟩,⟨[22],rv undef,0⟩,⟨[23,22],rv undef,0⟩,⟨[24,22],rv undef,0⟩,⟨[25,22],rv undef,0⟩,⟨[22],rv undef,0⟩,⟨[27,22],rv undef,0⟩,⟨[28,22],rv undef,0⟩,⟨[29,22],rv undef,0⟩,⟨[26,30,22],rv undef,0⟩,⟨[31,22],rv undef,0⟩,⟨[22,32],rB false,0⟩] [17,18,19,20,21,22,23,24,25,26,27,28,29,30,31,32,33,34,35,36,37,38,39,40,41,42,43,44,45,46,47,48,49,50,0,3,4] ?_ ?_
    ·refine oq (Aq Aa) (oq (A4 Aa) (oq (AC BI Aa Ct Aa Aa) (of (Bj (i:=0) Dm Aa Aa Aa) (oq (Aq Aa) (oq (A4 Aa) (oq (AC BI Aa CG Aa Aa) (of (Bj (i:=0) CV Aa Aa Aa) (oq (Bm BZ Aa) (oq (Ch Aa Aa) (oq (Aq Aa) (oz he (oz he (oz he (oz he (oz he (oz he (oz he (oz he (oz he (oz he (oq (A7 (b:=decide (hd<(r1.2.fS.length:Int))) Aa he Aa) (oq (Aq Aa) (oz Aa ?_)))))))))))))))))))))));refine oz Aa (oz Aa (oz Aa (oz Aa (oz Aa (oz Aa (oz Aa (oz Aa (oz Aa (oq (A7 (b:=false) Aa Aa Aa) ?_)))))))));exact CE
    exact Cc he
  refine cz hw Aa (λhx hy=>?_) (λhx hz=>?_)
  ·refine Ap (AJ (AL (Ah (wm Aa (wv (A4 Aa) (vF BI Aa Ct (vL 0 Dm Aa (ck hy λh0 h1=>wv (Bh Aa Aa h0) (wv (A4 Aa) (vF BI Aa Ct (BC (i:=0) Ct Aa Aa (Cl Aa) Aa Aa (cs':=[rS r1.2.fS,Ak (hd+1),rv v4,rB r1.2.fGreat]) Aa (H':=[.blk ha [rS r1.2.fS,Ak (hd+1),rv v4,rB r1.2.fGreat] 142,.row v4 63 4 (A1 Ac r1.2.fCells)]) Aa (Aj (AF ?_)))))))))))));have h3:=Bg h1 hn;exact Au (AD (ht,hd+1,()) ⟨h3,Abo _⟩ (AM.c Aa (AM.c Aa (AM.c Aa AM.nil))) (sC (sC sN)))
  ·refine BB (A2 ?_);have h4:=Cb hz hn hr;exact A2 (Bn (AD (hd,()) h4 (AM.c Aa (AM.c Aa (AM.c Aa AM.nil))) (sC (sC sN))))
 ·rintro⟨hb,⟨⟩⟩ hk;refine C4 (l':=[(0,rP ha 0),(3,Ak q.fAt),(4,Ak r1.2.fAt)]) (H':=[.blk ha [rS r1.2.fS,Ak hb,rv v4,rB r1.2.fGreat] 142,.row v4 63 4 (A1 Ac r1.2.fCells)]) Aa Aa ?_;replace hk:J9 q r1 hb=some r:=hk;unfold J9 at hk;refine Bi (AJ (Ai (ck hk λh5 h6=>ck h6 λh7 h8=>ck h8 λh9 hA=>Df [0,3,4] [⟨[],rP ha 0,0⟩,⟨[0],rP ha 0,0⟩,⟨[1],rP ha 0,0⟩,⟨[2],rS r1.2.fS,1⟩,⟨[],Ak q.fAt,0⟩,⟨[],rP ha 0,0⟩,⟨[5],rP ha 0,0⟩,⟨[6],rP ha 1,0⟩,⟨[7],Ak hb,1⟩,⟨[3,4,8],rS (List.take (B6 hb-B6 q.fAt) (List.drop (B6 q.fAt) r1.2.fS)),0⟩,⟨[9],Cs [Ak (B7 (List.take (B6 hb-B6 q.fAt) (List.drop (B6 q.fAt) r1.2.fS))),Ak (BR (List.take (B6 hb-B6 q.fAt) (List.drop (B6 q.fAt) r1.2.fS)))],0⟩,⟨[10],Cs [Ak (B7 (List.take (B6 hb-B6 q.fAt) (List.drop (B6 q.fAt) r1.2.fS))),Ak (BR (List.take (B6 hb-B6 q.fAt) (List.drop (B6 q.fAt) r1.2.fS)))],0⟩,⟨[11],Ak (B7 (List.take (B6 hb-B6 q.fAt) (List.drop (B6 q.fAt) r1.2.fS))),0⟩,⟨[11],Ak (BR (List.take (B6 hb-B6 q.fAt) (List.drop (B6 q.fAt) r1.2.fS))),0⟩,⟨[12],Ak (B7 (List.take (B6 hb-B6 q.fAt) (List.drop (B6 q.fAt) r1.2.fS))),0⟩,⟨[13],Ak (BR (List.take (B6 hb-B6 q.fAt) (List.drop (B6 q.fAt) r1.2.fS))),0⟩] [5,6,0,4] ?_ ?_)))
  ·refine oq (Aq Aa) (oq (A4 Aa) (oq (AC BI Aa CG Aa Aa) (of (Bj (i:=0) CV Aa Aa Aa) (oq (Aq Aa) (oq (Aq Aa) (oq (A4 Aa) (oq (AC BI Aa Ct Aa Aa) (of (Bj (i:=0) Dm Aa Aa Aa) (oq (DX BZ Aa Aa Aa h5 h7) (DH Aa (λH=>JG (rs:=[rS (List.take (B6 hb-B6 q.fAt) (List.drop (B6 q.fAt) r1.2.fS))]) (r:=Cs [Ak (B7 (List.take (B6 hb-B6 q.fAt) (List.drop (B6 q.fAt) r1.2.fS))),Ak (BR (List.take (B6 hb-B6 q.fAt) (List.drop (B6 q.fAt) r1.2.fS)))]) Tryz.call67 Aa (T0 (List.take (B6 hb-B6 q.fAt) (List.drop (B6 q.fAt) r1.2.fS)) h9) Aa) ?_))))))))));refine oq (Aq Aa) (oq (AA Aa Aa) (oq (AA Aa Aa) (oq (Av Aa) (oq (Av Aa) ?_))));exact CE
  refine AJ (Ai (AG [(0,rP ha 0),(5,Ak (B7 (List.take (B6 hb-B6 q.fAt) (List.drop (B6 q.fAt) r1.2.fS)))),(6,Ak (BR (List.take (B6 hb-B6 q.fAt) (List.drop (B6 q.fAt) r1.2.fS)))),(81,rB ((decide ((BR (List.take (B6 hb-B6 q.fAt) (List.drop (B6 q.fAt) r1.2.fS)))=1))||(decide (r1.2.fAt=hb))))] [.blk ha [rS r1.2.fS,Ak hb,rv v4,rB r1.2.fGreat] 142,.row v4 63 4 (A1 Ac r1.2.fCells)] ?_ ?_))
  ·refine Ah (wm Aa (wv (BE Aa Aa) (wm Aa (AO (decide ((BR (List.take (B6 hb-B6 q.fAt) (List.drop (B6 q.fAt) r1.2.fS)))=1)) (λhg=>?_) (λhg=>?_)))))
   ·refine wf hg (wf hg (wf hg (wf hg (wf hg (wf hg (wv (r:=rB true) (Ax Aa hg Aa) (Aj ?_)))))));exact Cc hg
   ·refine wo hg (wm Aa (wo hg (wm Aa (wo hg (wv (A4 Aa) (wo hg (vF BI Aa Ct (wo hg (vL 0 Dm Aa (wo hg (wv (BE Aa Aa) (Ea Aa hg Aa (Aj ?_)))))))))))));exact Cc hg
  refine cz hA Aa (λhB hC=>?_) (λhB hD=>?_)
  ·refine Af (wa Aa (Ao (As (Ad ?_))));obtain rfl:=At hC;exact Ar (BY Tryz.results162 (AB Aa)) (sC (sC sN)) ⟨v4,Aa,Aa⟩
  ·refine Ap (AJ (AG [(0,rP ha 0),(5,Ak (B7 (List.take (B6 hb-B6 q.fAt) (List.drop (B6 q.fAt) r1.2.fS))))] [.blk ha [rS r1.2.fS,Ak hb,rv v4,rB (r1.2.fGreat||(!decide ((BR (List.take (B6 hb-B6 q.fAt) (List.drop (B6 q.fAt) r1.2.fS)))=0)))] 142,.row v4 63 4 (A1 Ac r1.2.fCells)] ?_ ?_))
   ·refine Ah (wm Aa (wm Aa (wv (A4 Aa) (vF BI Aa IZ (vL 0 Vw Aa (wm Aa (AO (r1.2.fGreat) (λhh=>?_) (λhh=>?_))))))))
    ·refine wf hh (wf hh (wv (r:=rB true) (Ax rfl hh rfl) (wv (A4 rfl) (vF BI rfl IZ (BC (i:=0) IZ rfl rfl (Cl rfl) rfl rfl (cs':=[rS r1.2.fS,Ak hb,rv v4,rB true]) rfl (H':=[.blk ha [rS r1.2.fS,Ak hb,rv v4,rB true] 142,.row v4 63 4 (A1 Ac r1.2.fCells)]) rfl (Aj (Ja (H':=[.blk ha [rS r1.2.fS,Ak hb,rv v4,rB (r1.2.fGreat||(!decide ((BR (List.take (B6 hb-B6 q.fAt) (List.drop (B6 q.fAt) r1.2.fS)))=0)))] 142,.row v4 63 4 (A1 Ac r1.2.fCells)]) (by simp only[hh,Abp,Abw,Ab5,Abt,Abx,Ab0,Ab4,Ab2,Abq,Aby,Abj,Abh]) ?_)))))));exact wt
    ·refine wo hh (wm rfl (wo hh (wv (CR rfl rfl) (Ea rfl hh rfl (wv (A4 rfl) (vF BI rfl IZ (BC (i:=0) IZ rfl rfl (Cl rfl) rfl rfl (cs':=[rS r1.2.fS,Ak hb,rv v4,rB (!decide ((BR (List.take (B6 hb-B6 q.fAt) (List.drop (B6 q.fAt) r1.2.fS)))=0))]) rfl (H':=[.blk ha [rS r1.2.fS,Ak hb,rv v4,rB (!decide ((BR (List.take (B6 hb-B6 q.fAt) (List.drop (B6 q.fAt) r1.2.fS)))=0))] 142,.row v4 63 4 (A1 Ac r1.2.fCells)]) rfl (Aj (Ja (H':=[.blk ha [rS r1.2.fS,Ak hb,rv v4,rB (r1.2.fGreat||(!decide ((BR (List.take (B6 hb-B6 q.fAt) (List.drop (B6 q.fAt) r1.2.fS)))=0)))] 142,.row v4 63 4 (A1 Ac r1.2.fCells)]) (by simp only[hh,Abp,Abw,Ab5,Abt,Abx,Ab0,Ab4,Ab2,Abq,Aby,Abj,Abh]) ?_)))))))));exact wt
   refine Af (wm Aa (wm Aa (wv (A4 Aa) (vF BI Aa CA (vL 0 Ep Aa (wm Aa (wv (r:=Bq [Ak 3,Ak (B7 (List.take (B6 hb-B6 q.fAt) (List.drop (B6 q.fAt) r1.2.fS))),rS ([]:Ae),Ak 0]) (Cf Aa Aa Aa Aa) (AQ (ys:=([(Ab.mk 3 (B7 (List.take (B6 hb-B6 q.fAt) (List.drop (B6 q.fAt) r1.2.fS))) ([]:Ae) 0)]:List Ab)) (enc:=Ac) (css:=[[Ak 3,Ak (B7 (List.take (B6 hb-B6 q.fAt) (List.drop (B6 q.fAt) r1.2.fS))),rS ([]:Ae),Ak 0]]) (xs:=[.tmp 99]) BK BU Eb Aa Aa Aa ⟨Eo.agg ⟨Up.refl _,Up.refl _,Up.refl _,Up.refl _,trivial⟩,trivial⟩ Aa AR Aa Aa Aa (λho=>?_)))))))));refine ck hD λhE hG=>Exists.elim E9 λinf hinf=>BL (xs:=r1.2.fCells) (ys:=([(Ab.mk 3 (B7 (List.take (B6 hb-B6 q.fAt) (List.drop (B6 q.fAt) r1.2.fS))) ([]:Ae) 0)]:List Ab)) (enc:=Ac) (i:=2) BK hinf.1 hinf.2.1 hinf.2.2.1 hinf.2.2.2 Aa Aa Aa Aa Aa (I5.w (i:=0) Aa Aa) AR BP hE Aa (λhi=>?_);refine wv (A4 Aa) (vF BI Aa CA (BC (i:=2) CA Aa Aa (Dj (i:=0) Aa) Aa Aa (cs':=[rS r1.2.fS,Ak hb,rv hi,rB (r1.2.fGreat||(!decide ((BR (List.take (B6 hb-B6 q.fAt) (List.drop (B6 q.fAt) r1.2.fS)))=0)))]) Aa (H':=[.row hi 63 4 (A1 Ac (r1.2.fCells++([(Ab.mk 3 (B7 (List.take (B6 hb-B6 q.fAt) (List.drop (B6 q.fAt) r1.2.fS))) ([]:Ae) 0)]:List Ab))),.row (.slice (some ⟨ho,0,none⟩) 1 1) 63 4 (A1 Ac ([(Ab.mk 3 (B7 (List.take (B6 hb-B6 q.fAt) (List.drop (B6 q.fAt) r1.2.fS))) ([]:Ae) 0)]:List Ab)),.blk ha [rS r1.2.fS,Ak hb,rv hi,rB (r1.2.fGreat||(!decide ((BR (List.take (B6 hb-B6 q.fAt) (List.drop (B6 q.fAt) r1.2.fS)))=0)))] 142]) Aa (Bs (wa Aa (Ao (As (BO (H2:=[.blk ha [rS r1.2.fS,Ak hb,rv hi,rB (r1.2.fGreat||(!decide ((BR (List.take (B6 hb-B6 q.fAt) (List.drop (B6 q.fAt) r1.2.fS)))=0)))] 142,.row hi 63 4 (A1 Ac (r1.2.fCells++([(Ab.mk 3 (B7 (List.take (B6 hb-B6 q.fAt) (List.drop (B6 q.fAt) r1.2.fS))) ([]:Ae) 0)]:List Ab))),.row (.slice (some ⟨ho,0,none⟩) 1 1) 63 4 (A1 Ac ([(Ab.mk 3 (B7 (List.take (B6 hb-B6 q.fAt) (List.drop (B6 q.fAt) r1.2.fS))) ([]:Ae) 0)]:List Ab))]) ((Al (i:=2) Aa).trans (Abe _ (Abg _))) ?_)))))));obtain rfl:=At hG;exact Ar (BY Tryz.results162 (AB Aa)) (sC (sC (sS sN))) ⟨hi,Aa,Aa⟩
theorem Si (F:Nat)(hd:Nat)(hk:Value)(q:Az)(r:Bool×Az)(h:IA F q=some r):Fn Tryz.prog GE 125 [rP hd 0] [.blk hd [rS q.fS,Ak q.fAt,rv hk,rB q.fGreat] 142,.row hk 63 4 (A1 Ac q.fCells)] (λR H=>∃w0_2:Value,R=rB r.1∧H=[.blk hd [rS r.2.fS,Ak r.2.fAt,rv w0_2,rB r.2.fGreat] 142,.row w0_2 63 4 (A1 Ac r.2.fCells)]):=by
 refine enter (n:=75) Tryz.func125 Aa Tryz.ntmps125 Aa (λw Z=>?_);unfold IA at h;refine Af (wa Aa (Ao (D8 (S:=(Ae×Int×(List Ab)×Bool)×(Value)) (λσ=>Eu σ.1.1 σ.1.2.1 σ.1.2.2.1 σ.1.2.2.2=some r) (λσ=>[]) (λσ=>[.blk hd [rS σ.1.1,Ak σ.1.2.1,rv σ.2,rB σ.1.2.2.2] 142,.row σ.2 63 4 (A1 Ac σ.1.2.2.1)]) ?_ ?_)))
 ·refine AL (Af (wm Aa (ob h λhe hx hy=>GX (Hr:=[]) HA (DU hd hk q ([110,117,108,108]:Ae) he hx) Aa (Abg _) Aa ?_)));rintro _ _ ⟨hz,rfl,rfl⟩;refine wa Aa (Ao (cz hy Aa (λh0 h1=>?_) (λh0 h2=>?_)))
  ·refine Ah (wm Aa (wm Aa (wv (A4 Aa) (vF BI Aa CA (vL 0 Ep Aa (wv (r:=Bq [Ak 1,Ak 0,rS ([]:Ae),Ak 0]) (D5 Aa Aa) (AQ (ys:=([(Ab.mk 1 0 ([]:Ae) 0)]:List Ab)) (enc:=Ac) (css:=[[Ak 1,Ak 0,rS ([]:Ae),Ak 0]]) (xs:=[.tmp 15]) BK BU Eb Aa Aa Aa ⟨Eo.agg ⟨Up.refl _,Up.refl _,Up.refl _,Up.refl _,trivial⟩,trivial⟩ Aa AR Aa Aa Aa (λhn=>?_))))))));refine ck h1 λh3 h4=>Exists.elim E9 λinf hinf=>BL (xs:=he.2.fCells) (ys:=([(Ab.mk 1 0 ([]:Ae) 0)]:List Ab)) (enc:=Ac) (i:=2) BK hinf.1 hinf.2.1 hinf.2.2.1 hinf.2.2.2 Aa Aa Aa Aa Aa (I5.w (i:=0) Aa Aa) AR BP h3 Aa (λhg=>?_);exact wv (A4 Aa) (vF BI Aa CA (BC (i:=2) CA Aa Aa (Dj (i:=0) Aa) Aa Aa (cs':=[rS he.2.fS,Ak he.2.fAt,rv hg,rB he.2.fGreat]) Aa (H':=[.row hg 63 4 (A1 Ac (he.2.fCells++([(Ab.mk 1 0 ([]:Ae) 0)]:List Ab))),.row (.slice (some ⟨hn,0,none⟩) 1 1) 63 4 (A1 Ac ([(Ab.mk 1 0 ([]:Ae) 0)]:List Ab)),.blk hd [rS he.2.fS,Ak he.2.fAt,rv hg,rB he.2.fGreat] 142]) Aa (Aj (AF (BO (H2:=[.blk hd [rS he.2.fS,Ak he.2.fAt,rv hg,rB he.2.fGreat] 142,.row hg 63 4 (A1 Ac (he.2.fCells++([(Ab.mk 1 0 ([]:Ae) 0)]:List Ab))),.row (.slice (some ⟨hn,0,none⟩) 1 1) 63 4 (A1 Ac ([(Ab.mk 1 0 ([]:Ae) 0)]:List Ab))]) ((Al (i:=2) Aa).trans (Abe _ (Abg _))) (Au (AD ((he.2.fS,he.2.fAt,he.2.fCells++([(Ab.mk 1 0 ([]:Ae) 0)]:List Ab),he.2.fGreat),hg) h4 AM.nil (sC (sC (sS sN))))))))))
  ·refine Af (wm Aa (ob h2 λhf h5 h6=>GX (Hr:=[]) HA (DU hd hz he.2 ([116,114,117,101]:Ae) hf h5) Aa (Abg _) Aa ?_));rintro _ _ ⟨v76,rfl,rfl⟩;refine wa Aa (Ao (cz h6 Aa (λh7 h8=>?_) (λh7 h9=>?_)))
   ·refine Ah (wm Aa (wm Aa (wv (A4 Aa) (vF BI Aa CA (vL 0 Ep Aa (wv (r:=Bq [Ak 2,Ak 1,rS ([]:Ae),Ak 0]) (Cf Aa Aa Aa Aa) (AQ (ys:=([(Ab.mk 2 1 ([]:Ae) 0)]:List Ab)) (enc:=Ac) (css:=[[Ak 2,Ak 1,rS ([]:Ae),Ak 0]]) (xs:=[.tmp 28]) BK BU Eb Aa Aa Aa ⟨Eo.agg ⟨Up.refl _,Up.refl _,Up.refl _,Up.refl _,trivial⟩,trivial⟩ Aa AR Aa Aa Aa (λho=>?_))))))));refine ck h8 λhA hB=>Exists.elim E9 λinf hinf=>BL (xs:=hf.2.fCells) (ys:=([(Ab.mk 2 1 ([]:Ae) 0)]:List Ab)) (enc:=Ac) (i:=2) BK hinf.1 hinf.2.1 hinf.2.2.1 hinf.2.2.2 Aa Aa Aa Aa Aa (I5.w (i:=0) Aa Aa) AR BP hA Aa (λv80=>?_);exact wv (A4 Aa) (vF BI Aa CA (BC (i:=2) CA Aa Aa (Dj (i:=0) Aa) Aa Aa (cs':=[rS hf.2.fS,Ak hf.2.fAt,rv v80,rB hf.2.fGreat]) Aa (H':=[.row v80 63 4 (A1 Ac (hf.2.fCells++([(Ab.mk 2 1 ([]:Ae) 0)]:List Ab))),.row (.slice (some ⟨ho,0,none⟩) 1 1) 63 4 (A1 Ac ([(Ab.mk 2 1 ([]:Ae) 0)]:List Ab)),.blk hd [rS hf.2.fS,Ak hf.2.fAt,rv v80,rB hf.2.fGreat] 142]) Aa (Aj (AF (BO (H2:=[.blk hd [rS hf.2.fS,Ak hf.2.fAt,rv v80,rB hf.2.fGreat] 142,.row v80 63 4 (A1 Ac (hf.2.fCells++([(Ab.mk 2 1 ([]:Ae) 0)]:List Ab))),.row (.slice (some ⟨ho,0,none⟩) 1 1) 63 4 (A1 Ac ([(Ab.mk 2 1 ([]:Ae) 0)]:List Ab))]) ((Al (i:=2) Aa).trans (Abe _ (Abg _))) (Au (AD ((hf.2.fS,hf.2.fAt,hf.2.fCells++([(Ab.mk 2 1 ([]:Ae) 0)]:List Ab),hf.2.fGreat),v80) hB AM.nil (sC (sC (sS sN))))))))))
   ·refine Af (wm Aa (ob h9 λhb hC hD=>GX (Hr:=[]) HA (DU hd v76 hf.2 ([102,97,108,115,101]:Ae) hb hC) Aa (Abg _) Aa ?_));rintro _ _ ⟨hp,rfl,rfl⟩;refine wa Aa (Ao (cz hD Aa (λhE hG=>?_) (λhE hH=>?_)))
    ·refine Ah (wm Aa (wm Aa (wv (A4 Aa) (vF BI Aa CA (vL 0 Ep Aa (wv (r:=Bq [Ak 2,Ak 0,rS ([]:Ae),Ak 0]) (D5 Aa Aa) (AQ (ys:=([(Ab.mk 2 0 ([]:Ae) 0)]:List Ab)) (enc:=Ac) (css:=[[Ak 2,Ak 0,rS ([]:Ae),Ak 0]]) (xs:=[.tmp 41]) BK BU Eb Aa Aa Aa ⟨Eo.agg ⟨Up.refl _,Up.refl _,Up.refl _,Up.refl _,trivial⟩,trivial⟩ Aa AR Aa Aa Aa (λhq=>?_))))))));refine ck hG λhI hJ=>Exists.elim E9 λinf hinf=>BL (xs:=hb.2.fCells) (ys:=([(Ab.mk 2 0 ([]:Ae) 0)]:List Ab)) (enc:=Ac) (i:=2) BK hinf.1 hinf.2.1 hinf.2.2.1 hinf.2.2.2 Aa Aa Aa Aa Aa (I5.w (i:=0) Aa Aa) AR BP hI Aa (λhh=>?_);exact wv (A4 Aa) (vF BI Aa CA (BC (i:=2) CA Aa Aa (Dj (i:=0) Aa) Aa Aa (cs':=[rS hb.2.fS,Ak hb.2.fAt,rv hh,rB hb.2.fGreat]) Aa (H':=[.row hh 63 4 (A1 Ac (hb.2.fCells++([(Ab.mk 2 0 ([]:Ae) 0)]:List Ab))),.row (.slice (some ⟨hq,0,none⟩) 1 1) 63 4 (A1 Ac ([(Ab.mk 2 0 ([]:Ae) 0)]:List Ab)),.blk hd [rS hb.2.fS,Ak hb.2.fAt,rv hh,rB hb.2.fGreat] 142]) Aa (Aj (AF (BO (H2:=[.blk hd [rS hb.2.fS,Ak hb.2.fAt,rv hh,rB hb.2.fGreat] 142,.row hh 63 4 (A1 Ac (hb.2.fCells++([(Ab.mk 2 0 ([]:Ae) 0)]:List Ab))),.row (.slice (some ⟨hq,0,none⟩) 1 1) 63 4 (A1 Ac ([(Ab.mk 2 0 ([]:Ae) 0)]:List Ab))]) ((Al (i:=2) Aa).trans (Abe _ (Abg _))) (Au (AD ((hb.2.fS,hb.2.fAt,hb.2.fCells++([(Ab.mk 2 0 ([]:Ae) 0)]:List Ab),hb.2.fGreat),hh) hJ AM.nil (sC (sC (sS sN))))))))))
    ·refine Ai (ck hH λhK hL=>ob hL λhl hN hO=>Df [0] [⟨[],rP hd 0,0⟩,⟨[0],rP hd 0,0⟩,⟨[1],rP hd 0,0⟩,⟨[2],rS hb.2.fS,1⟩,⟨[],rP hd 0,0⟩,⟨[4],rP hd 0,0⟩,⟨[5],rP hd 1,0⟩,⟨[6],Ak hb.2.fAt,1⟩,⟨[3,7],rS (List.drop (B6 hb.2.fAt) hb.2.fS),0⟩,⟨[8],rB hl,0⟩,⟨[9],rB hl,0⟩] [46,0] ?_ ?_)
     ·refine oq (Aq Aa) (oq (A4 Aa) (oq (AC BI Aa CG Aa Aa) (of (Bj (i:=0) CV Aa Aa Aa) (oq (Aq Aa) (oq (A4 Aa) (oq (AC BI Aa Ct Aa Aa) (of (Bj (i:=0) Dm Aa Aa Aa) (oq (E5 BZ Aa Aa hK) (DH Aa (λH=>If Tryz.call161 (MT (List.drop (B6 hb.2.fAt) hb.2.fS) ([34]:Ae) hl hN) Aa) ?_)))))))));refine oq (Av Aa) ?_;exact CE
     refine AJ (cz hO Aa (λhP hQ=>?_) (λhP hR=>?_))
     ·refine Af (wm Aa (ob hQ λha hS hT=>GX (Hr:=[]) Tryz.call126 (Th F hd hp hb.2 ha hS) Aa (Abg _) Aa ?_));rintro _ _ ⟨hU,rfl,rfl⟩;refine wm Aa (wv (AA Aa Aa) (wv (AA Aa Aa) (wa Aa (wa Aa (Ao (Ai (Af (wm Aa (wv (BW Aa) (Ao (cz hT Aa (λhV hW=>?_) (λhV hX=>?_))))))))))))
      ·refine Af (wa Aa (Ao (As (Ad (A3 (Ad ?_))))));obtain rfl:=At hW;exact Ar (BY Tryz.results125 (AB Aa)) (sC (sC sN)) ⟨hU,Aa,Aa⟩
      ·refine Ap (AJ (Ah (wm Aa (wm Aa (wv (A4 Aa) (vF BI Aa CA (vL 0 Ep Aa (wm Aa (wv (r:=Bq [Ak 4,Ak 0,rS ha.1,Ak 0]) (EQ Aa Aa Aa Aa) (AQ (ys:=([(Ab.mk 4 0 ha.1 0)]:List Ab)) (enc:=Ac) (css:=[[Ak 4,Ak 0,rS ha.1,Ak 0]]) (xs:=[.tmp 70]) BK BU Eb Aa Aa Aa ⟨Eo.agg ⟨Up.refl _,Up.refl _,Up.refl _,Up.refl _,trivial⟩,trivial⟩ Aa AR Aa Aa Aa (λhr=>?_)))))))))));refine ck hX λhY hZ=>Exists.elim E9 λinf hinf=>BL (xs:=ha.2.2.fCells) (ys:=([(Ab.mk 4 0 ha.1 0)]:List Ab)) (enc:=Ac) (i:=2) BK hinf.1 hinf.2.1 hinf.2.2.1 hinf.2.2.2 Aa Aa Aa Aa Aa (I5.w (i:=0) Aa Aa) AR BP hY Aa (λhi=>?_);exact wv (A4 Aa) (vF BI Aa CA (BC (i:=2) CA Aa Aa (Dj (i:=0) Aa) Aa Aa (cs':=[rS ha.2.2.fS,Ak ha.2.2.fAt,rv hi,rB ha.2.2.fGreat]) Aa (H':=[.row hi 63 4 (A1 Ac (ha.2.2.fCells++([(Ab.mk 4 0 ha.1 0)]:List Ab))),.row (.slice (some ⟨hr,0,none⟩) 1 1) 63 4 (A1 Ac ([(Ab.mk 4 0 ha.1 0)]:List Ab)),.blk hd [rS ha.2.2.fS,Ak ha.2.2.fAt,rv hi,rB ha.2.2.fGreat] 142]) Aa (Aj (AF (BO (H2:=[.blk hd [rS ha.2.2.fS,Ak ha.2.2.fAt,rv hi,rB ha.2.2.fGreat] 142,.row hi 63 4 (A1 Ac (ha.2.2.fCells++([(Ab.mk 4 0 ha.1 0)]:List Ab))),.row (.slice (some ⟨hr,0,none⟩) 1 1) 63 4 (A1 Ac ([(Ab.mk 4 0 ha.1 0)]:List Ab))]) ((Al (i:=2) Aa).trans (Abe _ (Abg _))) (Au (AD ((ha.2.2.fS,ha.2.2.fAt,ha.2.2.fCells++([(Ab.mk 4 0 ha.1 0)]:List Ab),ha.2.2.fGreat),hi) hZ AM.nil (sC (sC (sS sN))))))))))
     ·refine Af (wm Aa (ob hR λga gb gc=>GX (Hr:=[]) Tryz.call162 (Ya F hd hp hb.2 ga gb) Aa (Abg _) Aa ?_));rintro _ _ ⟨gd,rfl,rfl⟩;refine wa Aa (Ao (As (A3 (Ad ?_))));obtain rfl:=At gc;exact Ar (BY Tryz.results125 (AB Aa)) (sC (sC sN)) ⟨gd,Aa,Aa⟩
 ·rintro⟨⟨hs,ht,hu,hw⟩,hm⟩ hj;refine Cd (l':=[]) (H':=[.blk hd [rS hs,Ak ht,rv hm,rB hw] 142,.row hm 63 4 (A1 Ac hu)]) Aa Aa ?_;replace hj:Eu hs ht hu hw=some r:=hj;unfold Eu at hj;refine Af (wa Aa (Ao (As ?_)));obtain rfl:=At hj;exact Ar (BY Tryz.results125 (AB Aa)) (sC (sC sN)) ⟨hm,Aa,Aa⟩
theorem Sg (F:Nat)(hh:Az→Option (Bool×Az))(ga:(∀(hb:Nat) (hq:Value) (q:Az) (r:Bool×Az),hh q=some r→Fn Tryz.prog GE 99 [rP hb 0] [.blk hb [rS q.fS,Ak q.fAt,rv hq,rB q.fGreat] 142,.row hq 63 4 (A1 Ac q.fCells)] (λR H=>∃w0_2:Value,R=rB r.1∧H=[.blk hb [rS r.2.fS,Ak r.2.fAt,rv w0_2,rB r.2.fGreat] 142,.row w0_2 63 4 (A1 Ac r.2.fCells)])))(hb:Nat)(hq:Value)(q:Az)(r:Bool×Az)(h:Ll F hh q=some r):Fn Tryz.prog GE 99 [rP hb 0] [.blk hb [rS q.fS,Ak q.fAt,rv hq,rB q.fGreat] 142,.row hq 63 4 (A1 Ac q.fCells)] (λR H=>∃w0_2:Value,R=rB r.1∧H=[.blk hb [rS r.2.fS,Ak r.2.fAt,rv w0_2,rB r.2.fGreat] 142,.row w0_2 63 4 (A1 Ac r.2.fCells)]):=by
 refine enter (n:=96) Tryz.func99 Aa Tryz.ntmps99 Aa (λw Z=>?_);unfold Ll at h;refine Af (wa Aa (Bs (wm Aa (ob h λr1 e3 h2=>GX (Hr:=[]) HA (DU hb hq q ([91]:Ae) r1 e3) Aa (Abg _) Aa ?_))));rintro _ _ ⟨v4,rfl,rfl⟩;refine wa Aa (Ao (Ai (D8 (S:=(Bool×Ae×Int×(List Ab)×Bool)×(Value)) (λσ=>Et F hh r1 σ.1.1 σ.1.2.1 σ.1.2.2.1 σ.1.2.2.2.1 σ.1.2.2.2.2=some r) (λσ=>[(0,rP hb 0),(2,rB false),(3,rB r1.1),(19,rB σ.1.1)]) (λσ=>[.blk hb [rS σ.1.2.1,Ak σ.1.2.2.1,rv σ.2,rB σ.1.2.2.2.2] 142,.row σ.2 63 4 (A1 Ac σ.1.2.2.2.1)]) ?_ ?_)))
 ·refine Ah (wm Aa (wv (BW Aa) (wm Aa (bz h2 (λhi gs=>?_) (λhi gt=>?_)))))
  ·refine wo hi (wm Aa (wo hi (ob gs λhr gu gv=>GX (Hr:=[]) HA (DU hb v4 r1.2 ([123]:Ae) hr gu) Aa (Abg _) Aa ?_)));rintro _ _ ⟨v24,rfl,rfl⟩;exact wo hi (wv (BW Aa) (En Aa hi Aa (Aj (Au (AD ((!hr.1,hr.2.fS,hr.2.fAt,hr.2.fCells,hr.2.fGreat),v24) gv (AM.c Aa (AM.c Aa (AM.c Aa (AM.c Aa AM.nil)))) (sC (sC sN)))))))
  ·exact wf hi (wf hi (wf hi (wv (r:=rB false) (A7 Aa hi Aa) (Aj (Au (AD ((false,r1.2.fS,r1.2.fAt,r1.2.fCells,r1.2.fGreat),v4) gt (AM.c Aa (AM.c Aa (AM.c Aa (AM.c Aa AM.nil)))) (sC (sC sN))))))))
 ·rintro⟨⟨gb,hj,hk,x16,hl⟩,hI⟩ h8;refine Cd (l':=[(0,rP hb 0),(2,rB false),(3,rB r1.1),(19,rB gb)]) (H':=[.blk hb [rS hj,Ak hk,rv hI,rB hl] 142,.row hI 63 4 (A1 Ac x16)]) Aa Aa ?_;replace h8:Et F hh r1 gb hj hk x16 hl=some r:=h8;unfold Et at h8;refine cz h8 Aa (λgw gx=>?_) (λgw gy=>?_)
  ·refine Af (wm Aa (ob gx λgz g0 g1=>GX (Hr:=[]) Tryz.call125 (Si F hb hI (Az.mk hj hk x16 hl) gz g0) Aa (Abg _) Aa ?_));rintro _ _ ⟨v32,rfl,rfl⟩;refine wa Aa (Ao (As (Ad ?_)));obtain rfl:=At g1;exact Ar (BY O9 (AB Aa)) (sC (sC sN)) ⟨v32,Aa,Aa⟩
  ·refine Ap (AJ (Af (wa Aa (wv (r:=rS ([125]:Ae)) (Av Aa) (Ao (Ai (Af (wm Aa (Ao (cz gy Aa (λhJ g2=>?_) (λhJ g3=>?_)))))))))))
   ·refine Ah (wa Aa (wv (r:=rS ([93]:Ae)) (Av Aa) (Bs (wm Aa (wv (A4 Aa) (vF BI Aa CA (vL 0 Ep Aa (wv (D4 (ys:=x16) (enc:=Ac) (i:=1) BK Aa Aa) (wa Aa (Bs (wm Aa (wm Aa (wv (A4 Aa) (vF BI Aa CA (vL 0 Ep Aa (wm Aa (wv (r:=Bq [Ak 5,Ak 0,rS ([]:Ae),Ak 0]) (D5 Aa Aa) (AQ (ys:=([(Ab.mk 5 0 ([]:Ae) 0)]:List Ab)) (enc:=Ac) (css:=[[Ak 5,Ak 0,rS ([]:Ae),Ak 0]]) (xs:=[.tmp 34]) BK BU Eb Aa Aa Aa ⟨Eo.agg ⟨Up.refl _,Up.refl _,Up.refl _,Up.refl _,trivial⟩,trivial⟩ Aa AR Aa Aa Aa (λgc=>?_)))))))))))))))))));refine ck g2 λg4 g5=>Exists.elim E9 λinf hinf=>BL (xs:=x16) (ys:=([(Ab.mk 5 0 ([]:Ae) 0)]:List Ab)) (enc:=Ac) (i:=2) BK hinf.1 hinf.2.1 hinf.2.2.1 hinf.2.2.2 Aa Aa Aa Aa Aa (I5.w (i:=0) Aa Aa) AR BP g4 Aa (λv37=>?_);refine wv (A4 Aa) (vF BI Aa CA (BC (i:=2) CA Aa Aa (Dj (i:=0) Aa) Aa Aa (cs':=[rS hj,Ak hk,rv v37,rB hl]) Aa (H':=[.row v37 63 4 (A1 Ac (x16++([(Ab.mk 5 0 ([]:Ae) 0)]:List Ab))),.row (.slice (some ⟨gc,0,none⟩) 1 1) 63 4 (A1 Ac ([(Ab.mk 5 0 ([]:Ae) 0)]:List Ab)),.blk hb [rS hj,Ak hk,rv v37,rB hl] 142]) Aa (Ao (Ai (Af (wm Aa (wm Aa (ob g5 λhw g6 g7=>GX (Hr:=[.row (.slice (some ⟨gc,0,none⟩) 1 1) 63 4 (A1 Ac ([(Ab.mk 5 0 ([]:Ae) 0)]:List Ab))]) HA (DU hb v37 (Az.mk hj hk (x16++([(Ab.mk 5 0 ([]:Ae) 0)]:List Ab)) hl) ([93]:Ae) hw g6) Aa ((Al (i:=2) Aa).trans (Abe _ (Abg _))) Aa ?_))))))));rintro _ _ ⟨gd,rfl,rfl⟩;refine Ao (cz g7 Aa (λg8 g9=>?_) (λg8 gA=>?_))
    ·refine Af (wa Aa (Ao (As (Ad ?_))));obtain rfl:=At g9;exact Ar (BY O9 (AB Aa)) (sC (sC (sS sN))) ⟨gd,Aa,Aa⟩
    ·refine Ap (AJ (Af (wv (r:=rS ([]:Ae)) (Av Aa) (Bs (wa Aa (Ao (AL (ob gA λgB gC hK=>B4 (S:=Nat×(Int×Ae×Int×(List Ab)×Bool)×(Value)) (V:=(Unit)×(Unit)) 0 (λσ=>Ca (λσ=>EY hh x16 σ.1 σ.2.1 σ.2.2.1 σ.2.2.2.1 σ.2.2.2.2) σ.1 σ.2.1=some gB) (λσ=>[(0,rP hb 0),(2,rB false),(3,rB r1.1),(5,rS ([93]:Ae)),(6,Ak (x16.length:Int)),(7,rS ([]:Ae)),(8,Ak σ.2.1.1)]) (λσ=>[.blk hb [rS σ.2.1.2.1,Ak σ.2.1.2.2.1,rv σ.2.2,rB σ.2.1.2.2.2.2] 142,.row σ.2.2 63 4 (A1 Ac σ.2.1.2.2.2.1)]) (λσ=>σ.1) (F,(1,hw.2.fS,hw.2.fAt,hw.2.fCells,hw.2.fGreat),gd) gC (AM.c Aa (AM.c Aa (AM.c5 Aa Aa Aa Aa Aa AM.nil))) (sC (sC (sS sN))) (λσ=>HF =some r) (λσ=>[]) (λσ=>[]) ?_ ?_))))))))
     ·rintro⟨xc,⟨hx,hL,hN,hO,hP⟩,hQ⟩ gD;refine Cd (l':=[(0,rP hb 0),(2,rB false),(3,rB r1.1),(5,rS ([93]:Ae)),(6,Ak (x16.length:Int)),(7,rS ([]:Ae)),(8,Ak hx)]) (H':=[.blk hb [rS hL,Ak hN,rv hQ,rB hP] 142,.row hQ 63 4 (A1 Ac hO)]) Aa Aa ?_;obtain⟨gE,rfl,gF,h9,hA⟩:=Cz gD;replace h9:EY hh x16 hx hL hN hO hP=some gF:=h9;unfold EY at h9;refine Ai (AL (Ai (Af (wm Aa (wv (BW Aa) (Ao (EB Aa (EH hJ) (Ap (AJ (Ai (Af (wm Aa (ob h9 λhd gG gH=>GX (Hr:=[]) Tryz.call99 (ga hb hQ (Az.mk hL hN hO hP) hd gG) Aa (Abg _) Aa ?_)))))))))))));rintro _ _ ⟨hs,rfl,rfl⟩;refine wv (BW Aa) (Ao (cz gH Aa (λgI gJ=>?_) (λgI gK=>?_)))
      ·refine Af (wa Aa (Ao (As (Ad (A3 (Ad (Ad (Bc ?_))))))));have gL:=Bz gJ hA hK;refine A3 ?_;obtain rfl:=At gL;exact Ar (BY O9 (AB Aa)) (sC (sC sN)) ⟨hs,Aa,Aa⟩
      ·refine Ap (AJ (Af (wm Aa (wv (A4 Aa) (vF BI Aa CA (vL 0 Ep Aa (wm Aa (wm Aa (ck gK λhR gM=>wv (r:=rv (GL 4 hs (B6 (x16.length:Int)) 0)) (JH (i:=1) BK BU Aa Aa Aa (Cg hR)) (wv (r:=rv (GL 4 hs (B6 (x16.length:Int)) 3)) (Gv (k:=1) BA Aa Ct Aa (Cg hR) Aa Aa Aa) (JB (enc:=Ac) (ys:=hd.2.fCells) (y':=(Ab.mk ((Am hd.2.fCells (x16.length:Int)).fKind) ((Am hd.2.fCells (x16.length:Int)).fInt) ((Am hd.2.fCells (x16.length:Int)).fStr) hx)) (i:=1) (j:=(x16.length:Int)) Ct Aa Aa (Cl Aa) Aa hR Aa Aa (H':=[.blk hb [rS hd.2.fS,Ak hd.2.fAt,rv hs,rB hd.2.fGreat] 142,.row hs 63 4 (A1 Ac (List.set hd.2.fCells (B6 (x16.length:Int)) (Ab.mk ((Am hd.2.fCells (x16.length:Int)).fKind) ((Am hd.2.fCells (x16.length:Int)).fInt) ((Am hd.2.fCells (x16.length:Int)).fStr) hx)))]) Aa (bd gM λgN gO gP=>?_))))))))))));rw[← gO];refine Ao (Ai (Af (wm Aa (wm Aa (ob gP λge gQ gR=>GX (Hr:=[]) HA (DU hb hs (Az.mk hd.2.fS hd.2.fAt gN hd.2.fGreat) ([93]:Ae) ge gQ) Aa (Abg _) Aa ?_)))));rintro _ _ ⟨gf,rfl,rfl⟩;refine Ao (cz gR Aa (λc167 gS=>?_) (λc167 gT=>?_))
       ·refine Af (wa Aa (Ao (As (Ad (A3 (Ad (Ad (Bc ?_))))))));have gU:=Bz gS hA hK;refine A3 ?_;obtain rfl:=At gU;exact Ar (BY O9 (AB Aa)) (sC (sC sN)) ⟨gf,Aa,Aa⟩
       ·refine Ap (AJ (Af (wm Aa (ob gT λhy gV gW=>GX (Hr:=[]) HA (DU hb gf ge.2 ([44]:Ae) hy gV) Aa (Abg _) Aa ?_))));rintro _ _ ⟨gg,rfl,rfl⟩;refine wv (BW Aa) (Ao (cz gW Aa (λc175 gX=>?_) (λc175 gY=>?_)))
        ·refine Af (wa Aa (Ao (As (A3 (Ad (Ad (Bc ?_)))))));have gZ:=Bz gX hA hK;refine A3 ?_;obtain rfl:=At gZ;exact Ar (BY O9 (AB Aa)) (sC (sC sN)) ⟨gg,Aa,Aa⟩
        ·refine Ap (AF (AJ (Ah (wm Aa (ck gY λca cb=>wv (Bh Aa Aa ca) (wa Aa (Aj ?_)))))));have cc:=Bg cb hA;exact Au (AD (gE,(hx+1,hy.2.fS,hy.2.fAt,hy.2.fCells,hy.2.fGreat),gg) ⟨cc,Abo _⟩ (AM.c Aa (AM.c Aa (AM.c5 Aa Aa Aa Aa Aa AM.nil))) (sC (sC sN)))
     ·rintro⟨⟨⟩,⟨⟩⟩ cd
      cases cd
   ·refine Ap (AJ (Af (wm Aa (wv (A4 Aa) (vF BI Aa CA (vL 0 Ep Aa (wv (D4 (ys:=x16) (enc:=Ac) (i:=1) BK Aa Aa) (wa Aa (Bs (wm Aa (wm Aa (wv (A4 Aa) (vF BI Aa CA (vL 0 Ep Aa (wm Aa (wv (r:=Bq [Ak 6,Ak 0,rS ([]:Ae),Ak 0]) (D5 Aa Aa) (AQ (ys:=([(Ab.mk 6 0 ([]:Ae) 0)]:List Ab)) (enc:=Ac) (css:=[[Ak 6,Ak 0,rS ([]:Ae),Ak 0]]) (xs:=[.tmp 34]) BK BU Eb Aa Aa Aa ⟨Eo.agg ⟨Up.refl _,Up.refl _,Up.refl _,Up.refl _,trivial⟩,trivial⟩ Aa AR Aa Aa Aa (λgh=>?_))))))))))))))))));refine ck g3 λce cf=>Exists.elim E9 λinf hinf=>BL (xs:=x16) (ys:=([(Ab.mk 6 0 ([]:Ae) 0)]:List Ab)) (enc:=Ac) (i:=2) BK hinf.1 hinf.2.1 hinf.2.2.1 hinf.2.2.2 Aa Aa Aa Aa Aa (I5.w (i:=0) Aa Aa) AR BP ce Aa (λhB=>?_);refine wv (A4 Aa) (vF BI Aa CA (BC (i:=2) CA Aa Aa (Dj (i:=0) Aa) Aa Aa (cs':=[rS hj,Ak hk,rv hB,rB hl]) Aa (H':=[.row hB 63 4 (A1 Ac (x16++([(Ab.mk 6 0 ([]:Ae) 0)]:List Ab))),.row (.slice (some ⟨gh,0,none⟩) 1 1) 63 4 (A1 Ac ([(Ab.mk 6 0 ([]:Ae) 0)]:List Ab)),.blk hb [rS hj,Ak hk,rv hB,rB hl] 142]) Aa (Ao (Ai (Af (wm Aa (wm Aa (ob cf λhz cg ch=>GX (Hr:=[.row (.slice (some ⟨gh,0,none⟩) 1 1) 63 4 (A1 Ac ([(Ab.mk 6 0 ([]:Ae) 0)]:List Ab))]) HA (DU hb hB (Az.mk hj hk (x16++([(Ab.mk 6 0 ([]:Ae) 0)]:List Ab)) hl) ([125]:Ae) hz cg) Aa ((Al (i:=2) Aa).trans (Abe _ (Abg _))) Aa ?_))))))));rintro _ _ ⟨gi,rfl,rfl⟩;refine Ao (cz ch Aa (λci cj=>?_) (λci cl=>?_))
    ·refine Af (wa Aa (Ao (As (Ad ?_))));obtain rfl:=At cj;exact Ar (BY O9 (AB Aa)) (sC (sC (sS sN))) ⟨gi,Aa,Aa⟩
    ·refine Ap (AJ (Af (wv (r:=rS ([]:Ae)) (Av Aa) (Bs (wa Aa (Ao (AL (ob cl λcm cn hC=>B4 (S:=Nat×(Ae×Int×Ae×Int×(List Ab)×Bool)×(Value)) (V:=(Unit)×(Unit)) 0 (λσ=>Ca (λσ=>EX F hh x16 σ.1 σ.2.1 σ.2.2.1 σ.2.2.2.1 σ.2.2.2.2.1 σ.2.2.2.2.2) σ.1 σ.2.1=some cm) (λσ=>[(0,rP hb 0),(2,rB false),(3,rB r1.1),(5,rS ([125]:Ae)),(6,Ak (x16.length:Int)),(7,rS σ.2.1.1),(8,Ak σ.2.1.2.1)]) (λσ=>[.blk hb [rS σ.2.1.2.2.1,Ak σ.2.1.2.2.2.1,rv σ.2.2,rB σ.2.1.2.2.2.2.2] 142,.row σ.2.2 63 4 (A1 Ac σ.2.1.2.2.2.2.1)]) (λσ=>σ.1) (F,(([]:Ae),1,hz.2.fS,hz.2.fAt,hz.2.fCells,hz.2.fGreat),gi) cn (AM.c Aa (AM.c Aa (AM.c5 Aa Aa Aa Aa Aa AM.nil))) (sC (sC (sS sN))) (λσ=>HE =some r) (λσ=>[]) (λσ=>[]) ?_ ?_))))))))
     ·rintro⟨xd,⟨hg,hm,hS,hT,hU,hV⟩,hW⟩ co;refine Cd (l':=[(0,rP hb 0),(2,rB false),(3,rB r1.1),(5,rS ([125]:Ae)),(6,Ak (x16.length:Int)),(7,rS hg),(8,Ak hm)]) (H':=[.blk hb [rS hS,Ak hT,rv hW,rB hV] 142,.row hW 63 4 (A1 Ac hU)]) Aa Aa ?_;obtain⟨cp,rfl,hX,hD,h0⟩:=Cz co;replace hD:EX F hh x16 hg hm hS hT hU hV=some hX:=hD;unfold EX at hD;refine Ai (AL (Ai (Af (wm Aa (wv (BW Aa) (Ao (Ef Aa (IO hJ) (Af (wm Aa (ob hD λha cq cr=>GX (Hr:=[]) Tryz.call126 (Th F hb hW (Az.mk hS hT hU hV) ha cq) Aa (Abg _) Aa ?_))))))))));rintro _ _ ⟨hE,rfl,rfl⟩;refine wm Aa (wv (AA Aa Aa) (wv (AA Aa Aa) (wa Aa (wa Aa (Ao (Ai (D8 (S:=(Bool×Bool×Bool×Ae×Int×(List Ab)×Bool)×(Value)) (λσ=>C5 hh x16 hm ha σ.1.1 σ.1.2.1 σ.1.2.2.1 σ.1.2.2.2.1 σ.1.2.2.2.2.1 σ.1.2.2.2.2.2.1 σ.1.2.2.2.2.2.2=some hX) (λσ=>[(0,rP hb 0),(2,rB false),(3,rB r1.1),(5,rS ([125]:Ae)),(6,Ak (x16.length:Int)),(7,rS hg),(8,Ak hm),(9,rS ha.1),(10,rB ha.2.1),(44,rB r1.1),(45,rB (!r1.1)),(46,Cs [rS ha.1,rB ha.2.1]),(47,rP hb 0),(48,Cs [rS ha.1,rB ha.2.1]),(49,rS ha.1),(50,rB ha.2.1),(51,rB ha.2.1),(52,rB (!ha.2.1)),(53,rB (!ha.2.1)),(61,rB σ.1.1),(62,rB σ.1.2.1),(66,rB σ.1.2.2.1)]) (λσ=>[.blk hb [rS σ.1.2.2.2.1,Ak σ.1.2.2.2.2.1,rv σ.2,rB σ.1.2.2.2.2.2.2] 142,.row σ.2 63 4 (A1 Ac σ.1.2.2.2.2.2.1)]) ?_ ?_)))))))
      ·refine Ah (wm Aa (wv (BW Aa) (wm Aa (bz cr (λhf cs=>?_) (λhf ct=>?_)))))
       ·exact wf hf (wf hf (wf hf (wu (wu (wu (wf hf (wv (r:=rB true) (Ax Aa hf Aa) (wm Aa (wz Aa Aa (wz Aa Aa (wz Aa Aa (wv (r:=rB true) (Ax (b:=true) Aa Aa Aa) (Aj (Au (AD ((true,true,true,ha.2.2.fS,ha.2.2.fAt,ha.2.2.fCells,ha.2.2.fGreat),hE) cs (AM.c Aa (AM.c Aa (AM.c5 Aa Aa Aa Aa Aa (AM.c5 Aa Aa Aa Aa Aa (AM.c5 Aa Aa Aa Aa Aa (AM.c5 Aa Aa Aa Aa Aa AM.nil)))))) (sC (sC sN)))))))))))))))))
       ·refine wo hf (wm Aa (wo hf (wv (Cv Aa Aa) (wo hf (wm Aa (bz ct (λhn cu=>?_) (λhn cv=>?_)))))))
        ·refine wo hn (wm Aa (wo hn (wm Aa (wo hn (wv (T3 Aa Aa) (wo hf (En Aa hn Aa (Ea Aa hf Aa (wm Aa (bz cu (λho cw=>?_) (λho cx=>?_)))))))))))
         ·exact wf ho (wf ho (wf ho (wv (r:=rB true) (Ax Aa ho Aa) (Aj (Au (AD ((CW ha.1 hg||decide (ha.1=hg),CW ha.1 hg||decide (ha.1=hg),true,ha.2.2.fS,ha.2.2.fAt,ha.2.2.fCells,ha.2.2.fGreat),hE) cw (AM.c Aa (AM.c Aa (AM.c5 Aa Aa Aa Aa Aa (AM.c5 Aa Aa Aa Aa Aa (AM.c5 Aa Aa Aa Aa Aa (AM.c5 Aa Aa Aa Aa Aa AM.nil)))))) (sC (sC sN))))))))
         ·refine wo ho (wm Aa (wo ho (ob cx λht cy c0=>GX (Hr:=[]) HA (DU hb hE ha.2.2 ([58]:Ae) ht cy) Aa (Abg _) Aa ?_)));rintro _ _ ⟨c1,rfl,rfl⟩;exact wo ho (wv (BW Aa) (Ea Aa ho Aa (Aj (Au (AD ((CW ha.1 hg||decide (ha.1=hg),CW ha.1 hg||decide (ha.1=hg),!ht.1,ht.2.fS,ht.2.fAt,ht.2.fCells,ht.2.fGreat),c1) c0 (AM.c Aa (AM.c Aa (AM.c5 Aa Aa Aa Aa Aa (AM.c5 Aa Aa Aa Aa Aa (AM.c5 Aa Aa Aa Aa Aa (AM.c5 Aa Aa Aa Aa Aa AM.nil)))))) (sC (sC sN)))))))
        ·refine wf hn (wf hn (wf hn (wo hf (wv (r:=rB false) (A7 Aa hn Aa) (Ea Aa hf Aa (wm Aa (Bp (b:=false) Aa Aa Aa (wm Aa (Bp (b:=false) Aa Aa Aa (ob cv λhp c2 c3=>GX (Hr:=[]) HA (DU hb hE ha.2.2 ([58]:Ae) hp c2) Aa (Abg _) Aa ?_))))))))));rintro _ _ ⟨c4,rfl,rfl⟩;exact Bp (b:=false) Aa Aa Aa (wv (BW Aa) (wv (r:=rB (!hp.1)) (A7 (b:=false) Aa Aa Aa) (Aj (Au (AD ((false,false,!hp.1,hp.2.fS,hp.2.fAt,hp.2.fCells,hp.2.fGreat),c4) c3 (AM.c Aa (AM.c Aa (AM.c5 Aa Aa Aa Aa Aa (AM.c5 Aa Aa Aa Aa Aa (AM.c5 Aa Aa Aa Aa Aa (AM.c5 Aa Aa Aa Aa Aa AM.nil)))))) (sC (sC sN)))))))
      ·rintro⟨⟨gj,gl,gm,h1,h3,h4,h5⟩,hY⟩ hG;refine Cd (l':=[(0,rP hb 0),(2,rB false),(3,rB r1.1),(5,rS ([125]:Ae)),(6,Ak (x16.length:Int)),(7,rS hg),(8,Ak hm),(9,rS ha.1),(10,rB ha.2.1),(44,rB r1.1),(45,rB (!r1.1)),(46,Cs [rS ha.1,rB ha.2.1]),(47,rP hb 0),(48,Cs [rS ha.1,rB ha.2.1]),(49,rS ha.1),(50,rB ha.2.1),(51,rB ha.2.1),(52,rB (!ha.2.1)),(53,rB (!ha.2.1)),(61,rB gj),(62,rB gl),(66,rB gm)]) (H':=[.blk hb [rS h1,Ak h3,rv hY,rB h5] 142,.row hY 63 4 (A1 Ac h4)]) Aa Aa ?_;replace hG:C5 hh x16 hm ha gj gl gm h1 h3 h4 h5=some hX:=hG;unfold C5 at hG;refine cz hG Aa (λc6 c7=>?_) (λc6 c8=>?_)
       ·refine Af (wa Aa (Ao (As (Ad (Ad (A3 (Ad (Ad (Bc ?_)))))))));have c9:=Bz c7 h0 hC;refine A3 ?_;obtain rfl:=At c9;exact Ar (BY O9 (AB Aa)) (sC (sC sN)) ⟨hY,Aa,Aa⟩
       ·refine Ap (AJ (Af (wm Aa (wa Aa (Ao (Ah (wm Aa (wm Aa (wv (A4 Aa) (vF BI Aa CA (vL 0 Ep Aa (wm Aa (wv (r:=Bq [Ak 4,Ak 0,rS ha.1,Ak 0]) (EQ Aa Aa Aa Aa) (AQ (ys:=([(Ab.mk 4 0 ha.1 0)]:List Ab)) (enc:=Ac) (css:=[[Ak 4,Ak 0,rS ha.1,Ak 0]]) (xs:=[.tmp 74]) BK BU Eb Aa Aa Aa ⟨Eo.agg ⟨Up.refl _,Up.refl _,Up.refl _,Up.refl _,trivial⟩,trivial⟩ Aa AR Aa Aa Aa (λh6=>?_)))))))))))))));refine ck c8 λcA cB=>Exists.elim E9 λinf hinf=>BL (xs:=h4) (ys:=([(Ab.mk 4 0 ha.1 0)]:List Ab)) (enc:=Ac) (i:=2) BK hinf.1 hinf.2.1 hinf.2.2.1 hinf.2.2.2 Aa Aa Aa Aa Aa (I5.w (i:=0) Aa Aa) AR BP cA Aa (λhH=>?_);refine wv (A4 Aa) (vF BI Aa CA (BC (i:=2) CA Aa Aa (Dj (i:=0) Aa) Aa Aa (cs':=[rS h1,Ak h3,rv hH,rB h5]) Aa (H':=[.row hH 63 4 (A1 Ac (h4++([(Ab.mk 4 0 ha.1 0)]:List Ab))),.row (.slice (some ⟨h6,0,none⟩) 1 1) 63 4 (A1 Ac ([(Ab.mk 4 0 ha.1 0)]:List Ab)),.blk hb [rS h1,Ak h3,rv hH,rB h5] 142]) Aa (Ao (Ai (Af (wm Aa (ob cB λhe cC cD=>GX (Hr:=[.row (.slice (some ⟨h6,0,none⟩) 1 1) 63 4 (A1 Ac ([(Ab.mk 4 0 ha.1 0)]:List Ab))]) Tryz.call99 (ga hb hH (Az.mk h1 h3 (h4++([(Ab.mk 4 0 ha.1 0)]:List Ab)) h5) he cC) Aa ((Al (i:=2) Aa).trans (Abe _ (Abg _))) Aa ?_)))))));rintro _ _ ⟨hu,rfl,rfl⟩;refine wv (BW Aa) (Ao (cz cD Aa (λcE cF=>?_) (λcE cG=>?_)))
        ·refine Af (wa Aa (Ao (As (Ad (A3 (Ad (Ad (Bc ?_))))))));have cH:=Bz cF h0 hC;refine A3 ?_;obtain rfl:=At cH;exact Ar (BY O9 (AB Aa)) (sC (sC (sS sN))) ⟨hu,Aa,Aa⟩
        ·refine Ap (AJ (Af (wm Aa (wv (A4 Aa) (vF BI Aa CA (vL 0 Ep Aa (wm Aa (wm Aa (ck cG λhZ cI=>wv (r:=rv (GL 4 hu (B6 (x16.length:Int)) 0)) (JH (i:=1) BK BU Aa Aa Aa (Cg hZ)) (wv (r:=rv (GL 4 hu (B6 (x16.length:Int)) 3)) (Gv (k:=1) BA Aa Ct Aa (Cg hZ) Aa Aa Aa) (JB (enc:=Ac) (ys:=he.2.fCells) (y':=(Ab.mk ((Am he.2.fCells (x16.length:Int)).fKind) ((Am he.2.fCells (x16.length:Int)).fInt) ((Am he.2.fCells (x16.length:Int)).fStr) hm)) (i:=1) (j:=(x16.length:Int)) Ct Aa Aa (Cl Aa) Aa hZ Aa Aa (H':=[.blk hb [rS he.2.fS,Ak he.2.fAt,rv hu,rB he.2.fGreat] 142,.row hu 63 4 (A1 Ac (List.set he.2.fCells (B6 (x16.length:Int)) (Ab.mk ((Am he.2.fCells (x16.length:Int)).fKind) ((Am he.2.fCells (x16.length:Int)).fInt) ((Am he.2.fCells (x16.length:Int)).fStr) hm))),.row (.slice (some ⟨h6,0,none⟩) 1 1) 63 4 (A1 Ac ([(Ab.mk 4 0 ha.1 0)]:List Ab))]) Aa (bd cI λcJ cK cL=>?_))))))))))));rw[← cK];refine Ao (Ai (Af (wm Aa (wm Aa (ob cL λgp cM cN=>GX (Hr:=[.row (.slice (some ⟨h6,0,none⟩) 1 1) 63 4 (A1 Ac ([(Ab.mk 4 0 ha.1 0)]:List Ab))]) HA (DU hb hu (Az.mk he.2.fS he.2.fAt cJ he.2.fGreat) ([125]:Ae) gp cM) Aa (Abg _) Aa ?_)))));rintro _ _ ⟨gq,rfl,rfl⟩;refine Ao (cz cN Aa (λcO cP=>?_) (λcO cQ=>?_))
         ·refine Af (wa Aa (Ao (As (Ad (A3 (Ad (Ad (Bc ?_))))))));have cR:=Bz cP h0 hC;refine A3 ?_;obtain rfl:=At cR;exact Ar (BY O9 (AB Aa)) (sC (sC (sS sN))) ⟨gq,Aa,Aa⟩
         ·refine Ap (AJ (Af (wm Aa (ob cQ λh7 cS cT=>GX (Hr:=[.row (.slice (some ⟨h6,0,none⟩) 1 1) 63 4 (A1 Ac ([(Ab.mk 4 0 ha.1 0)]:List Ab))]) HA (DU hb gq gp.2 ([44]:Ae) h7 cS) Aa (Abg _) Aa ?_))));rintro _ _ ⟨gr,rfl,rfl⟩;refine wv (BW Aa) (Ao (cz cT Aa (λcU cV=>?_) (λcU cW=>?_)))
          ·refine Af (wa Aa (Ao (As (A3 (Ad (Ad (Bc ?_)))))));have cX:=Bz cV h0 hC;refine A3 ?_;obtain rfl:=At cX;exact Ar (BY O9 (AB Aa)) (sC (sC (sS sN))) ⟨gr,Aa,Aa⟩
          ·refine Ap (AF (AJ (Ah (wm Aa (ck cW λcY cZ=>wv (Bh Aa Aa cY) (wa Aa (Aj ?_)))))));have xa:=Bg cZ h0;exact Au (AD (cp,(ha.1,hm+1,h7.2.fS,h7.2.fAt,h7.2.fCells,h7.2.fGreat),gr) ⟨xa,Abo _⟩ (AM.c Aa (AM.c Aa (AM.c5 Aa Aa Aa Aa Aa AM.nil))) (sC (sC (sS sN))))
     ·rintro⟨⟨⟩,⟨⟩⟩ xb
      cases xb
theorem MI:∀F:Nat,(∀(ha:Nat) (hb:Value) (q:Az) (r:Bool×Az),CC F q=some r→Fn Tryz.prog GE 99 [rP ha 0] [.blk ha [rS q.fS,Ak q.fAt,rv hb,rB q.fGreat] 142,.row hb 63 4 (A1 Ac q.fCells)] (λR H=>∃w0_2:Value,R=rB r.1∧H=[.blk ha [rS r.2.fS,Ak r.2.fAt,rv w0_2,rB r.2.fGreat] 142,.row w0_2 63 4 (A1 Ac r.2.fCells)]))
  | 0=>(λ_ _ _ _ h=>by simp[CC] at h)
  | nn+1=>(λha hb q r h=>Sg nn (CC nn) (MI nn) ha hb q r (by rw[CC] at h;exact h))
theorem Ui (F:Nat)(ha:Nat)(hb:Value)(q:Az)(r:Bool×Az)(h:CC F q=some r):Fn Tryz.prog GE 99 [rP ha 0] [.blk ha [rS q.fS,Ak q.fAt,rv hb,rB q.fGreat] 142,.row hb 63 4 (A1 Ac q.fCells)] (λR H=>∃w0_2:Value,R=rB r.1∧H=[.blk ha [rS r.2.fS,Ak r.2.fAt,rv w0_2,rB r.2.fGreat] 142,.row w0_2 63 4 (A1 Ac r.2.fCells)]):=(MI F) ha hb q r h
theorem Um (F:Nat)(s:Ae)(r:(List Ab)×Int)(h:Lo F s=some r):Fn Tryz.prog GE 68 [rS s] [] (λR H=>R=Cs [AX 4 (A1 Ac r.1),Ak r.2]∧H=[]):=by
 refine enter (n:=34) Tryz.func68 Aa Tryz.ntmps68 Aa (λw Z=>?_);unfold Lo at h;refine Af (wa Aa (wa Aa (Ao (Ai (Af (wm Aa (wv (Bm BZ Aa) (wv (Cv Aa Aa) (Ao (cz h Aa (λc1 h2=>?_) (λc1 h3=>?_)))))))))))
 ·refine Af (wa Aa (wa Aa (Ao (As (Ad (WK.up (d:=2) (r:=AX 4 (A1 Ac ([]:List Ab))) Aa (Up.le (DZ.nil _)) ?_))))));obtain rfl:=At h2;exact Ar (CS XN (AB Aa) (AB Aa)) sN ⟨Aa,Aa⟩
 ·refine Ap (AJ (Af (wm Aa (wv (r:=Bq [rS s,Ak 0,rv (.slice none 0 0),rB false]) (PR Aa Aa) (Ci Aa Aa (λb4=>?_))))));refine wa Aa (Ao (Ai (D8 (S:=(Bool×Ae×Int×(List Ab)×Bool)×(Value)) (λσ=>GB F σ.1.1 σ.1.2.1 σ.1.2.2.1 σ.1.2.2.2.1 σ.1.2.2.2.2=some r) (λσ=>[(2,rv (.slice none 0 0)),(3,Ak 0),(4,rP b4 0),(22,rB σ.1.1)]) (λσ=>[.blk b4 [rS σ.1.2.1,Ak σ.1.2.2.1,rv σ.2,rB σ.1.2.2.2.2] 142,.row σ.2 63 4 (A1 Ac σ.1.2.2.2.1)]) ?_ ?_)))
  ·refine Ah (wm Aa (WL.nilrow (e:=63) (sz:=4) (ob h3 λhb hk hl=>GX (Hr:=[]) Tryz.call99 (Ui F b4 (.slice none 0 0                                                               ) (Az.mk s 0 ([]:List Ab) false) hb hk) Aa ((Al (i:=1) Aa).trans (Abe _ (Abg _))) Aa ?_)));rintro _ _ ⟨v21,rfl,rfl⟩;refine wv (BW Aa) (wm Aa (bz hl (λha hm=>?_) (λha hn=>?_)))
   ·exact wf ha (wf ha (wf ha (wf ha (wf ha (wf ha (wf ha (wv (r:=rB true) (Ax Aa ha Aa) (Aj (Au (AD ((true,hb.2.fS,hb.2.fAt,hb.2.fCells,hb.2.fGreat),v21) hm (AM.c Aa (AM.c Aa (AM.c Aa (AM.c Aa AM.nil)))) (sC (sC sN))))))))))))
   ·exact wo ha (wm Aa (wo ha (wv (A4 Aa) (wo ha (vF BI Aa Ct (wo ha (vL 0 Dm Aa (wo ha (wm Aa (wo ha (wv (Bm BZ Aa) (wo ha (wv (CR Aa Aa) (Ea Aa ha Aa (Aj (Au (AD ((!decide (hb.2.fAt=(s.length:Int)),hb.2.fS,hb.2.fAt,hb.2.fCells,hb.2.fGreat),v21) hn (AM.c Aa (AM.c Aa (AM.c Aa (AM.c Aa AM.nil)))) (sC (sC sN)))))))))))))))))))
  ·rintro⟨⟨hf,hg,hh,hd,hi⟩,hj⟩ he;refine Cd (l':=[(2,rv (.slice none 0 0)),(3,Ak 0),(4,rP b4 0),(22,rB hf)]) (H':=[.blk b4 [rS hg,Ak hh,rv hj,rB hi] 142,.row hj 63 4 (A1 Ac hd)]) Aa Aa ?_;replace he:GB F hf hg hh hd hi=some r:=he;unfold GB at he;refine cz he Aa (λho hp=>?_) (λho hq=>?_)
   ·refine Af (wa Aa (wa Aa (Ao (As (Ad (WK.up (d:=2) (r:=AX 4 (A1 Ac ([]:List Ab))) Aa (Up.le (DZ.nil _)) ?_))))));obtain rfl:=At hp;exact Ar (CS XN (AB Aa) (AB Aa)) (sS (sS sN)) ⟨Aa,Aa⟩
   ·refine Ap (AJ (Ai (Af (wm Aa (wv (A4 Aa) (vF BI Aa IZ (vL 0 Vw Aa (Ao (cz hq Aa (λhr hs=>?_) (λhr ht=>?_))))))))))
    ·refine Af (wa Aa (wa Aa (Ao (As (Ad (WK.up (d:=2) (r:=AX 4 (A1 Ac ([]:List Ab))) Aa (Up.le (DZ.nil _)) ?_))))));obtain rfl:=At hs;exact Ar (CS XN (AB Aa) (AB Aa)) (sS (sS sN)) ⟨Aa,Aa⟩
    ·refine Ap (AJ (Af (wm Aa (wv (A4 Aa) (vF BI Aa CA (vL 0 Ep Aa (WL.freeze (i:=1) Aa (WL.up (d:=30) (r:=AX 4 (A1 Ac hd)) Aa (Up.fact (i:=0) Aa) (ob ht λhu hw hx=>Cn Tryz.call100 (Sk F hd hu hw) Aa (wv (AA Aa Aa) (wv (AA Aa Aa) (wa Aa (wa Aa (Ao (As ?_)))))))))))))));obtain rfl:=At hx;exact Ar (CS XN (AB Aa) (AB Aa)) (sS (sS sN)) ⟨Aa,Aa⟩
end Go.Proofs.YtogdediiodmnbaaGreatDoor.Q
namespace Go.Proofs.YtogdediiodmnbaaGreatDoor
open Go
set_option linter.unusedVariables false
def Ey (a:(List Ab))(b:(List Ab))(ha:Int):Option (Stp (Int) (Out (Bool) (Unit))):=
 Bl (decide (ha<(a.length:Int))) (AY (Cp ha (a.length:Int))<|AY (Cp ha (b.length:Int))<|Bl (!(decide (((Am a ha).fKind)=((Am b ha).fKind))&&decide (((Am a ha).fInt)=((Am b ha).fInt))&&decide (((Am a ha).fStr)=((Am b ha).fStr))&&decide (((Am a ha).fN)=((Am b ha).fN)))) (some (.out (.ret false))) (AY (B2 .i64 (ha+1))<|some (.next (ha+1)))) (some (.out (.go ())))
def HG :Option (Bool):=
 some true
def Jc (F:Nat)(a:(List Ab))(b:(List Ab)):Option (Bool):=
 Bl (!decide ((a.length:Int)=(b.length:Int))) (some false) (B0 (Ca (λσ=>Ey a b σ) F 0) (BT λν=>HG ))
def VH (F:Nat)(a:(List Ab))(b:(List Ab)):Option (Bool):=
 B0 (Jc F a b) λr1=>some r1
def Lx (a:(List Ab))(b:(List Ab))(ha:Int):Option (Stp (Int) (Out (Bool) (Unit))):=
 Bl (decide (ha<(a.length:Int))) (AY (Cp ha (a.length:Int))<|AY (Cp ha (b.length:Int))<|Bl (!(decide (((Am a ha).fKind)=((Am b ha).fKind))&&decide (((Am a ha).fInt)=((Am b ha).fInt))&&decide (((Am a ha).fStr)=((Am b ha).fStr))&&decide (((Am a ha).fN)=((Am b ha).fN)))) (some (.out (.ret false))) (AY (B2 .i64 (ha+1))<|some (.next (ha+1)))) (some (.out (.go ())))
def Lw :Option (Bool):=
 some true
def QU (F:Nat)(a:(List Ab))(b:(List Ab)):Option (Bool):=
 Bl (!decide ((a.length:Int)=(b.length:Int))) (some false) (B0 (Ca (λσ=>Lx a b σ) F 0) (BT λν=>Lw ))
end Go.Proofs.YtogdediiodmnbaaGreatDoor
namespace Go.Proofs.YtogdediiodmnbaaGreatDoor.Q
open Go Go.RowKit
set_option linter.unusedVariables false
set_option linter.unusedSimpArgs false
set_option maxRecDepth 100000
set_option maxHeartbeats 4000000
theorem X9 {a0 b0:Int}{a1 b1:Int}{a2 b2:Ae}{a3 b3:Int}(w:World):(Op.equalIn 10000 63 (.agg #[.int .i64 a0,.int .i64 a1,.string (B a2),.int .i64 a3]) (.agg #[.int .i64 b0,.int .i64 b1,.string (B b2),.int .i64 b3])).run Tryz.prog w = .ok (decide (a0=b0)&&decide (a1=b1)&&decide (a2=b2)&&decide (a3=b3)) w:=by
  have hS:Tryz.prog.underlying 63=some (.struct (Tryz.prog.fieldsOf 63)):=by kernel_rfl
  have hp:Tryz.prog.stoodInHeld 63=false:=by kernel_rfl
  have u3:=Qr;have ia3:=Dm;have so3:=Ct;have u9:=BZ;have ia9:=CV;have so9:=CG;have ha:=Tryz.underlying61;have hb:=Eh;have hd:=DQ;rw[show(10000:Nat)=9999+1 from rfl,run_equalIn_agg w 9999 63 _ _ hS hp];simp only[Program.fieldsOf,BA]
  go_simp
  simp only[Gz]
  by_cases h0:a0=b0<;>by_cases h1:a1=b1<;>by_cases h2:a2=b2<;>by_cases h3:a3=b3<;>simp[h0,h1,h2,h3]
theorem MR {n:Nat}{c:Cx}{l:Fr}{H:List Ent}{d:Option Nat}{ty rty:TypeId}{pos:String}{af:Array Edge}{g:Option (Nat×Bool)}{x y:Operand}{a0 b0:Int}{a1 b1:Int}{a2 b2:Ae}{a3 b3:Int}(hx:ev l x=some (Bq [Ak a0,Ak a1,rS a2,Ak a3]))(hy:ev l y=some (Bq [Ak b0,Ak b1,rS b2,Ak b3])):B1 Tryz.prog n c l H { dst:=d,op:=.binOp .neq 63 x y rty,type:=ty,pos:=pos,after:=af,guard:=g } (rB (!(decide (a0=b0)&&decide (a1=b1)&&decide (a2=b2)&&decide (a3=b3)))):=λa w Z ha hw=>by
  obtain⟨us,e1,q1⟩:=ha.ev hx;obtain⟨vs,e2,q2⟩:=ha.ev hy;have k1:=Bt.eq_rv (us:=[.int .i64 a0,.int .i64 a1,.string (B a2),.int .i64 a3]) q1;have k2:=Bt.eq_rv (us:=[.int .i64 b0,.int .i64 b1,.string (B b2),.int .i64 b3]) q2;subst k1;subst k2;have hm:Tryz.prog.eqGuardType Tryz.prog.depth 63=false:=by kernel_rfl
  have hb:=X9 (a0:=a0) (a1:=a1) (a2:=a2) (a3:=a3) (b0:=b0) (b1:=b1) (b2:=b2) (b3:=b3) w;refine⟨.bool (!(decide (a0=b0)&&decide (a1=b1)&&decide (a2=b2)&&decide (a3=b3))),rfl,?_⟩;have hg:=run_eqGuard_agg (P:=Tryz.prog) w .neq 63 x y #[.int .i64 a0,.int .i64 a1,.string (B a2),.int .i64 a3] #[.int .i64 b0,.int .i64 b1,.string (B b2),.int .i64 b3] hm;simp only[execOp,e1,e2,Sem.run_bind,hg,Result.andThen_ok,run_neq_struct,hb,Sem.run_pure]
theorem OW (F:Nat)(a:(List Ab))(b:(List Ab))(r:Bool)(h:Jc F a b=some r):Fn Tryz.prog GE 89 [AX 4 (A1 Ac a),AX 4 (A1 Ac b)] [] (λR H=>R=rB r∧H=[]):=by
 refine enter (n:=26) Tryz.func89 Aa Tryz.ntmps89 Aa (λw Z=>?_);unfold Jc at h;refine Af (wa Aa (Ao (Ai (Af (wm Aa (wv (Bv (ys:=a) (enc:=Ac) BK Aa) (wm Aa (wv (Bv (ys:=b) (enc:=Ac) BK Aa) (wv (CR Aa Aa) (Ao (cz h Aa (λc1 h2=>?_) (λc1 h3=>?_))))))))))))
 ·refine Af (wa Aa (Ao (As (Ad ?_))));obtain rfl:=At h2;exact Ar (BY Tryz.results89 (AB Aa)) sN ⟨Aa,Aa⟩
 ·refine Ap (AJ (Ai (Af (wm Aa (wv (Bv (ys:=a) (enc:=Ac) BK Aa) (wv (r:=Ak 0) (Aq Aa) (Ao (AL (ob h3 λhg hh hf=>B4 (S:=Nat×(Int)×(Unit)) (V:=(Unit)×(Unit)) 0 (λσ=>Ca (λσ=>Ey a b σ) σ.1 σ.2.1=some hg) (λσ=>[(0,AX 4 (A1 Ac a)),(1,AX 4 (A1 Ac b)),(12,Ak (a.length:Int)),(13,Ak σ.2.1)]) (λσ=>[]) (λσ=>σ.1) (F,0,()) hh (AM.c Aa (AM.c Aa (AM.c Aa (AM.c Aa AM.nil)))) sN (λσ=>HG =some r) (λσ=>[]) (λσ=>[]) ?_ ?_)))))))))
  ·rintro⟨h1,ha,⟨⟩⟩ hi;refine Cd (l':=[(0,AX 4 (A1 Ac a)),(1,AX 4 (A1 Ac b)),(12,Ak (a.length:Int)),(13,Ak ha)]) (H':=[]) Aa Aa ?_;obtain⟨hj,rfl,hk,hb,he⟩:=Cz hi;replace hb:Ey a b ha=some hk:=hb;unfold Ey at hb;refine Af (wv (Ch Aa Aa) (Ao (Ai (cz hb Aa (λhl hm=>?_) (λhl hn=>?_)))))
   ·refine Ap (AJ (Ai (AL (Af (wm Aa (wa Aa (Ao (Ai (ck hm λho hp=>ck hp λhq hr=>Df [0,1,5,12,13] [⟨[],AX 4 (A1 Ac a),0⟩,⟨[],Ak ha,0⟩,⟨[0,1],O5 (Ac (Am a ha)),0⟩,⟨[2],Bq (Ac (Am a ha)),0⟩,⟨[],AX 4 (A1 Ac b),0⟩,⟨[],Ak ha,0⟩,⟨[4,5],O5 (Ac (Am b ha)),0⟩,⟨[6],Bq (Ac (Am b ha)),0⟩,⟨[3,7],rB (!(decide (((Am a ha).fKind)=((Am b ha).fKind))&&decide (((Am a ha).fInt)=((Am b ha).fInt))&&decide (((Am a ha).fStr)=((Am b ha).fStr))&&decide (((Am a ha).fN)=((Am b ha).fN)))),0⟩] [16,17,18,19,20,21,22,23,24,0,1,12,13] ?_ ?_)))))))))
    ·refine oq (Aq Aa) (oq (Aq Aa) (oq (B3 (enc:=Ac) (ys:=a) BK BU Aa Aa ho) (oq (DI J7 BU Aa Aa Aa) (oq (Aq Aa) (oq (Aq Aa) (oq (B3 (enc:=Ac) (ys:=b) BK BU Aa Aa hq) (oq (DI J7 BU Aa Aa Aa) (oq (MR Aa Aa) ?_))))))));exact CE
    refine AJ (cz hr Aa (λhs ht=>?_) (λhs hu=>?_))
    ·refine Af (wa Aa (Ao (As (A3 (Ad (Ad (Bc ?_)))))));have hw:=Bz ht he hf;refine A3 (Ad ?_);obtain rfl:=At hw;exact Ar (BY Tryz.results89 (AB Aa)) sN ⟨Aa,Aa⟩
    ·refine Ap (AF (AJ (Ah (ck hu λhx hy=>wv (Bh Aa Aa hx) (wm Aa (Aj ?_))))));have hz:=Bg hy he;exact Au (AD (hj,ha+1,()) ⟨hz,Abo _⟩ (AM.c Aa (AM.c Aa (AM.c Aa (AM.c Aa AM.nil)))) sN)
   ·refine BB (A2 ?_);have h0:=Cb hn he hf;exact A2 (Bn (AD ((),()) h0 AM.nil sN))
  ·rintro⟨⟨⟩,⟨⟩⟩ hd;refine C4 (l':=[]) (H':=[]) Aa Aa ?_;replace hd:HG =some r:=hd;unfold HG at hd;refine Bi (AJ (Af (wa Aa (Ao (As ?_)))));obtain rfl:=At hd;exact Ar (BY Tryz.results89 (AB Aa)) sN ⟨Aa,Aa⟩
theorem XZ (F:Nat)(a:(List Ab))(b:(List Ab))(r:Bool)(h:VH F a b=some r):Fn Tryz.prog GE 79 [AX 4 (A1 Ac a),AX 4 (A1 Ac b)] [] (λR H=>R=rB r∧H=[]):=by
 refine enter (n:=8) Tryz.func79 Aa Tryz.ntmps79 Aa (λw Z=>?_);unfold VH at h;refine Af (wa Aa (Bs (wm Aa (wm Aa (ob h λr1 e3 h2=>Cn Tryz.call89 (OW F a b r1 e3) Aa (wa Aa (Ao (As ?_))))))));obtain rfl:=At h2;exact Ar (BY Tryz.results79 (AB Aa)) sN ⟨Aa,Aa⟩
theorem Yg (F:Nat)(a:(List Ab))(b:(List Ab))(r:Bool)(h:QU F a b=some r):Fn Tryz.prog GE 15 [AX 4 (A1 Ac a),AX 4 (A1 Ac b)] [] (λR H=>R=rB r∧H=[]):=by
 refine enter (n:=26) Tryz.func15 Aa Tryz.ntmps15 Aa (λw Z=>?_);unfold QU at h;refine Af (wa Aa (Ao (Ai (Af (wm Aa (wv (Bv (ys:=a) (enc:=Ac) BK Aa) (wm Aa (wv (Bv (ys:=b) (enc:=Ac) BK Aa) (wv (CR Aa Aa) (Ao (cz h Aa (λc1 h2=>?_) (λc1 h3=>?_))))))))))))
 ·refine Af (wa Aa (Ao (As (Ad ?_))));obtain rfl:=At h2;exact Ar (BY Tryz.results15 (AB Aa)) sN ⟨Aa,Aa⟩
 ·refine Ap (AJ (Ai (Af (wa Aa (Ao (AL (ob h3 λhg hh hf=>B4 (S:=Nat×(Int)×(Unit)) (V:=(Unit)×(Unit)) 0 (λσ=>Ca (λσ=>Lx a b σ) σ.1 σ.2.1=some hg) (λσ=>[(0,AX 4 (A1 Ac a)),(1,AX 4 (A1 Ac b)),(5,Ak σ.2.1)]) (λσ=>[]) (λσ=>σ.1) (F,0,()) hh (AM.c Aa (AM.c Aa (AM.c Aa AM.nil))) sN (λσ=>Lw =some r) (λσ=>[]) (λσ=>[]) ?_ ?_)))))))
  ·rintro⟨h1,ha,⟨⟩⟩ hi;refine Cd (l':=[(0,AX 4 (A1 Ac a)),(1,AX 4 (A1 Ac b)),(5,Ak ha)]) (H':=[]) Aa Aa ?_;obtain⟨hj,rfl,hk,hb,he⟩:=Cz hi;replace hb:Lx a b ha=some hk:=hb;unfold Lx at hb;refine Ai (Af (wm Aa (wm Aa (wv (Bv (ys:=a) (enc:=Ac) BK Aa) (wv (Ch Aa Aa) (Ao (cz hb Aa (λhl hm=>?_) (λhl hn=>?_))))))))
   ·refine Ap (AJ (Ai (AL (Ai (ck hm λho hp=>ck hp λhq hr=>Df [0,1,5] [⟨[],AX 4 (A1 Ac a),0⟩,⟨[],Ak ha,0⟩,⟨[0,1],O5 (Ac (Am a ha)),0⟩,⟨[2],Bq (Ac (Am a ha)),0⟩,⟨[],AX 4 (A1 Ac b),0⟩,⟨[],Ak ha,0⟩,⟨[4,5],O5 (Ac (Am b ha)),0⟩,⟨[6],Bq (Ac (Am b ha)),0⟩,⟨[3,7],rB (!(decide (((Am a ha).fKind)=((Am b ha).fKind))&&decide (((Am a ha).fInt)=((Am b ha).fInt))&&decide (((Am a ha).fStr)=((Am b ha).fStr))&&decide (((Am a ha).fN)=((Am b ha).fN)))),0⟩] [17,18,19,20,21,22,23,24,25,0,1,5] ?_ ?_)))))
    ·refine oq (Aq Aa) (oq (Aq Aa) (oq (B3 (enc:=Ac) (ys:=a) BK BU Aa Aa ho) (oq (DI J7 BU Aa Aa Aa) (oq (Aq Aa) (oq (Aq Aa) (oq (B3 (enc:=Ac) (ys:=b) BK BU Aa Aa hq) (oq (DI J7 BU Aa Aa Aa) (oq (MR Aa Aa) ?_))))))));exact CE
    refine AJ (cz hr Aa (λhs ht=>?_) (λhs hu=>?_))
    ·refine Af (wa Aa (Ao (As (A3 (Ad (Ad (Bc ?_)))))));have hw:=Bz ht he hf;refine A3 (Ad ?_);obtain rfl:=At hw;exact Ar (BY Tryz.results15 (AB Aa)) sN ⟨Aa,Aa⟩
    ·refine Ap (AF (AJ (Ah (wm Aa (ck hu λhx hy=>wv (Bh Aa Aa hx) (wa Aa (Aj ?_)))))));have hz:=Bg hy he;exact Au (AD (hj,ha+1,()) ⟨hz,Abo _⟩ (AM.c Aa (AM.c Aa (AM.c Aa AM.nil))) sN)
   ·refine BB (A2 ?_);have h0:=Cb hn he hf;exact A2 (Bn (AD ((),()) h0 AM.nil sN))
  ·rintro⟨⟨⟩,⟨⟩⟩ hd;refine C4 (l':=[]) (H':=[]) Aa Aa ?_;replace hd:Lw =some r:=hd;unfold Lw at hd;refine Bi (AJ (Af (wa Aa (Ao (As ?_)))));obtain rfl:=At hd;exact Ar (BY Tryz.results15 (AB Aa)) sN ⟨Aa,Aa⟩
end Go.Proofs.YtogdediiodmnbaaGreatDoor.Q
namespace Go.Proofs.YtogdediiodmnbaaGreatDoor
open Go
set_option linter.unusedVariables false
def L3 (F:Nat)(v:(List Ab)):Option ((List Ab)×Int):=
 B0 (KQ F v) λr1=>Bl (!decide (r1=0)) (some (([]:List Ab),r1)) (some (v,0))
def QX :Option ((List Ab)):=
 some ([(Ab.mk 1 0 ([]:Ae) 0)]:List Ab)
def MP (b:Bool):Option ((List Ab)):=
 Bl (b) (some ([(Ab.mk 2 1 ([]:Ae) 0)]:List Ab)) (some ([(Ab.mk 2 0 ([]:Ae) 0)]:List Ab))
def B5 (s:Ae)(at_:Int)(word:Ae):Option (Bool):=
 AY (B2 .i64 (at_+(word.length:Int)))<|AY (imp (decide ((at_+(word.length:Int))≤(s.length:Int))) (HX at_ (at_+(word.length:Int))))<|AY (imp (decide ((at_+(word.length:Int))≤(s.length:Int))) (HX (at_+(word.length:Int)) (s.length:Int)))<|some ((decide ((at_+(word.length:Int))≤(s.length:Int)))&&(decide ((List.take (Int.toNat (at_+(word.length:Int))-Int.toNat at_) (List.drop (Int.toNat at_) s))=word)))
def CD (s:Ae)(hb:Ae)(ha:Int):Option (Stp (Ae×Int) (Out (Ae×Int) (Ae×Int))):=
 AY (imp (decide (ha<(s.length:Int))) (Cp ha (s.length:Int)))<|Bl (((decide (ha<(s.length:Int)))&&(!decide ((Be s ha)=34)))) (AY (Cp ha (s.length:Int))<|Bl (decide ((Be s ha)=92)) (AY (B2 .i64 (ha+1))<|AY (imp (!(decide ((s.length:Int)≤(ha+1)))) (Cp (ha+1) (s.length:Int)))<|Bl (((decide ((s.length:Int)≤(ha+1)))||((!decide ((Be s (ha+1))=34))&&(!decide ((Be s (ha+1))=92))))) (some (.out (.ret (([]:Ae),(-1))))) (AY (B2 .i64 ((ha+1)+1))<|AY (HX (ha+1) ((ha+1)+1))<|AY (HX ((ha+1)+1) (s.length:Int))<|AY (B2 .i64 ((hb.length:Int)+((List.take (Int.toNat ((ha+1)+1)-Int.toNat (ha+1)) (List.drop (Int.toNat (ha+1)) s)).length:Int)))<|some (.next (hb++(List.take (Int.toNat ((ha+1)+1)-Int.toNat (ha+1)) (List.drop (Int.toNat (ha+1)) s)),(ha+1)+1)))) (AY (B2 .i64 (ha+1))<|AY (HX ha (ha+1))<|AY (HX (ha+1) (s.length:Int))<|AY (B2 .i64 ((hb.length:Int)+((List.take (Int.toNat (ha+1)-Int.toNat ha) (List.drop (Int.toNat ha) s)).length:Int)))<|some (.next (hb++(List.take (Int.toNat (ha+1)-Int.toNat ha) (List.drop (Int.toNat ha) s)),ha+1)))) (some (.out (.go (hb,ha))))
def CT (s:Ae)(hb:Ae)(ha:Int):Option (Ae×Int):=
 Bl (decide ((s.length:Int)≤ha)) (some (([]:Ae),(-1))) (AY (B2 .i64 (ha+1))<|some (hb,ha+1))
def Dl (F:Nat)(s:Ae)(at_:Int):Option (Ae×Int):=
 AY (imp (!(decide ((s.length:Int)≤at_))) (Cp at_ (s.length:Int)))<|Bl (((decide ((s.length:Int)≤at_))||(!decide ((Be s at_)=34)))) (some (([]:Ae),(-1))) (AY (B2 .i64 (at_+1))<|B0 (Ca (λσ=>CD s σ.1 σ.2) F (([]:Ae),at_+1)) (BT λν=>CT s ν.1 ν.2))
def Gi (s:Ae)(at_:Int)(ha:Int)(hb:Int):Option (Stp (Int×Int) (Out ((List Ab)×Int) (Int×Int))):=
 AY (imp (decide (ha<(s.length:Int))) (Cp ha (s.length:Int)))<|Bl (((decide (ha<(s.length:Int)))&&((decide (48≤(Be s ha)))&&(decide ((Be s ha)≤57))))) (AY (B2 .i64 (ha-(at_+1)))<|Bl (decide ((ha-(at_+1))<18)) (AY (B2 .i64 (10*hb))<|AY (Cp ha (s.length:Int))<|AY (B2 .u8 ((Be s ha)-48))<|AY (B2 .i64 ((Be s ha)-48))<|AY (B2 .i64 ((10*hb)+((Be s ha)-48)))<|AY (B2 .i64 (ha+1))<|some (.next (ha+1,(10*hb)+((Be s ha)-48)))) (AY (B2 .i64 (ha+1))<|some (.next (ha+1,hb)))) (some (.out (.go (ha,hb))))
def Gg (s:Ae)(at_:Int)(ha:Int)(hb:Int):Option ((List Ab)×Int):=
 AY (imp (!(decide (ha=(at_+1)))) (Cp (at_+1) (s.length:Int)))<|AY (imp (!(decide (ha=(at_+1)))) (imp (decide ((Be s (at_+1))=48)) (B2 .i64 ((at_+1)+1))))<|Bl (((decide (ha=(at_+1)))||((decide ((Be s (at_+1))=48))&&((decide (((at_+1)+1)<ha))||(decide (at_<(at_+1))))))) (some (([]:List Ab),(-1))) (AY (B2 .i64 (ha-(at_+1)))<|Bl (decide (18<(ha-(at_+1)))) (Bl (decide (at_<(at_+1))) (AY (B2 .i64 (-2000000000000))<|some (([(Ab.mk 3 (-2000000000000) ([]:Ae) 0)]:List Ab),ha)) (some (([(Ab.mk 3 2000000000000 ([]:Ae) 0)]:List Ab),ha))) (Bl (decide (at_<(at_+1))) (AY (B2 .i64 (-hb))<|some (([(Ab.mk 3 (-hb) ([]:Ae) 0)]:List Ab),ha)) (some (([(Ab.mk 3 hb ([]:Ae) 0)]:List Ab),ha))))
def Gh (s:Ae)(at_:Int)(ha:Int)(hb:Int):Option (Stp (Int×Int) (Out ((List Ab)×Int) (Int×Int))):=
 AY (imp (decide (ha<(s.length:Int))) (Cp ha (s.length:Int)))<|Bl (((decide (ha<(s.length:Int)))&&((decide (48≤(Be s ha)))&&(decide ((Be s ha)≤57))))) (AY (B2 .i64 (ha-at_))<|Bl (decide ((ha-at_)<18)) (AY (B2 .i64 (10*hb))<|AY (Cp ha (s.length:Int))<|AY (B2 .u8 ((Be s ha)-48))<|AY (B2 .i64 ((Be s ha)-48))<|AY (B2 .i64 ((10*hb)+((Be s ha)-48)))<|AY (B2 .i64 (ha+1))<|some (.next (ha+1,(10*hb)+((Be s ha)-48)))) (AY (B2 .i64 (ha+1))<|some (.next (ha+1,hb)))) (some (.out (.go (ha,hb))))
def Gf (s:Ae)(at_:Int)(ha:Int)(hb:Int):Option ((List Ab)×Int):=
 AY (imp (!(decide (ha=at_))) (imp (decide ((Be s at_)=48)) (B2 .i64 (at_+1))))<|Bl (((decide (ha=at_))||((decide ((Be s at_)=48))&&((decide ((at_+1)<ha))||(decide (at_<at_)))))) (some (([]:List Ab),(-1))) (AY (B2 .i64 (ha-at_))<|Bl (decide (18<(ha-at_))) (Bl (decide (at_<at_)) (AY (B2 .i64 (-2000000000000))<|some (([(Ab.mk 3 (-2000000000000) ([]:Ae) 0)]:List Ab),ha)) (some (([(Ab.mk 3 2000000000000 ([]:Ae) 0)]:List Ab),ha))) (Bl (decide (at_<at_)) (AY (B2 .i64 (-hb))<|some (([(Ab.mk 3 (-hb) ([]:Ae) 0)]:List Ab),ha)) (some (([(Ab.mk 3 hb ([]:Ae) 0)]:List Ab),ha))))
def IF (F:Nat)(s:Ae)(at_:Int):Option ((List Ab)×Int):=
 AY (Cp at_ (s.length:Int))<|Bl (decide ((Be s at_)=45)) (AY (B2 .i64 (at_+1))<|B0 (Ca (λσ=>Gi s at_ σ.1 σ.2) F (at_+1,0)) (BT λν=>Gg s at_ ν.1 ν.2)) (B0 (Ca (λσ=>Gh s at_ σ.1 σ.2) F (at_,0)) (BT λν=>Gf s at_ ν.1 ν.2))
def PD (F:Nat)(he:Ae→Int→Option ((List Ab)×Int))(s:Ae)(at_:Int):Option ((List Ab)×Int):=
 Bl (decide ((s.length:Int)≤at_)) (some (([]:List Ab),(-1))) (B0 (B5 s at_ ([110,117,108,108]:Ae)) λr4=>Bl (r4) (B0 (QX) λr9=>AY (B2 .i64 (at_+4))<|some (r9,at_+4)) (B0 (B5 s at_ ([116,114,117,101]:Ae)) λhf=>Bl (hf) (B0 (MP true) λhg=>AY (B2 .i64 (at_+4))<|some (hg,at_+4)) (B0 (B5 s at_ ([102,97,108,115,101]:Ae)) λhh=>Bl (hh) (B0 (MP false) λhi=>AY (B2 .i64 (at_+5))<|some (hi,at_+5)) (AY (Cp at_ (s.length:Int))<|Bl (decide ((Be s at_)=34)) (B0 (Dl F s at_) λha=>some (([(Ab.mk 4 0 ha.1 0)]:List Ab),ha.2)) (Bl (((decide ((Be s at_)=91))||(decide ((Be s at_)=123)))) (B0 (he s at_) λhb=>some (hb.1,hb.2)) (B0 (IF F s at_) λhd=>some (hd.1,hd.2)))))))
def Hq (F:Nat)(s:Ae)(hh:Ae→Int→Option ((List Ab)×Int))(hg:(List Ab))(hb:Int)(ha:Ab):Option (Stp ((List Ab)×Int×Ab) (Out ((List Ab)×Int) ((List Ab)×Int×Ab))):=
 AY ((B5 s hb ([125]:Ae)).isSome)<|AY (imp (!(!(ov (B5 s hb ([125]:Ae))))) (imp (decide (0<ha.fN)) (B2 .i64 (hb-1))))<|AY (imp (!(!(ov (B5 s hb ([125]:Ae))))) (imp (decide (0<ha.fN)) (Cp (hb-1) (s.length:Int))))<|Bl (((!(ov (B5 s hb ([125]:Ae))))||((decide (0<ha.fN))&&(decide ((Be s (hb-1))=44))))) (Bl (decide (ha.fKind=6)) (B0 (Dl F s hb) λhd=>AY (imp (!(decide (hd.2<0))) ((B5 s hd.2 ([58]:Ae)).isSome))<|Bl (((decide (hd.2<0))||(!(ov (B5 s hd.2 ([58]:Ae)))))) (some (.out (.ret (([]:List Ab),(-1))))) (AY (Dz 40 (hg.length+([(Ab.mk 4 0 hd.1 0)]:List Ab).length))<|AY (B2 .i64 (hd.2+1))<|B0 (hh s (hd.2+1)) λhe=>Bl (decide (he.2<0)) (some (.out (.ret (([]:List Ab),(-1))))) (AY (Dz 40 ((hg++([(Ab.mk 4 0 hd.1 0)]:List Ab)).length+he.1.length))<|AY (B2 .i64 (ha.fN+1))<|B0 (B5 s he.2 ([44]:Ae)) λhi=>Bl (hi) (AY (B2 .i64 (he.2+1))<|some (.next ((hg++([(Ab.mk 4 0 hd.1 0)]:List Ab))++he.1,he.2+1,(Ab.mk ha.fKind ha.fInt ha.fStr (ha.fN+1))))) (B0 (B5 s he.2 ([125]:Ae)) λhj=>Bl (!hj) (some (.out (.ret (([]:List Ab),(-1))))) (some (.next ((hg++([(Ab.mk 4 0 hd.1 0)]:List Ab))++he.1,he.2,(Ab.mk ha.fKind ha.fInt ha.fStr (ha.fN+1))))))))) (B0 (hh s hb) λhf=>Bl (decide (hf.2<0)) (some (.out (.ret (([]:List Ab),(-1))))) (AY (Dz 40 (hg.length+hf.1.length))<|AY (B2 .i64 (ha.fN+1))<|B0 (B5 s hf.2 ([44]:Ae)) λhk=>Bl (hk) (AY (B2 .i64 (hf.2+1))<|some (.next (hg++hf.1,hf.2+1,(Ab.mk ha.fKind ha.fInt ha.fStr (ha.fN+1))))) (B0 (B5 s hf.2 ([125]:Ae)) λhl=>Bl (!hl) (some (.out (.ret (([]:List Ab),(-1))))) (some (.next (hg++hf.1,hf.2,(Ab.mk ha.fKind ha.fInt ha.fStr (ha.fN+1))))))))) (some (.out (.go (hg,hb,ha))))
def Hn (ha:(List Ab))(hb:Int)(hd:Ab):Option ((List Ab)×Int):=
 AY (Dz 40 (([hd]:List Ab).length+ha.length))<|AY (B2 .i64 (hb+1))<|some (([hd]:List Ab)++ha,hb+1)
def Hp (F:Nat)(s:Ae)(hh:Ae→Int→Option ((List Ab)×Int))(hg:(List Ab))(hb:Int)(ha:Ab):Option (Stp ((List Ab)×Int×Ab) (Out ((List Ab)×Int) ((List Ab)×Int×Ab))):=
 AY ((B5 s hb ([93]:Ae)).isSome)<|AY (imp (!(!(ov (B5 s hb ([93]:Ae))))) (imp (decide (0<ha.fN)) (B2 .i64 (hb-1))))<|AY (imp (!(!(ov (B5 s hb ([93]:Ae))))) (imp (decide (0<ha.fN)) (Cp (hb-1) (s.length:Int))))<|Bl (((!(ov (B5 s hb ([93]:Ae))))||((decide (0<ha.fN))&&(decide ((Be s (hb-1))=44))))) (Bl (decide (ha.fKind=6)) (B0 (Dl F s hb) λhd=>AY (imp (!(decide (hd.2<0))) ((B5 s hd.2 ([58]:Ae)).isSome))<|Bl (((decide (hd.2<0))||(!(ov (B5 s hd.2 ([58]:Ae)))))) (some (.out (.ret (([]:List Ab),(-1))))) (AY (Dz 40 (hg.length+([(Ab.mk 4 0 hd.1 0)]:List Ab).length))<|AY (B2 .i64 (hd.2+1))<|B0 (hh s (hd.2+1)) λhe=>Bl (decide (he.2<0)) (some (.out (.ret (([]:List Ab),(-1))))) (AY (Dz 40 ((hg++([(Ab.mk 4 0 hd.1 0)]:List Ab)).length+he.1.length))<|AY (B2 .i64 (ha.fN+1))<|B0 (B5 s he.2 ([44]:Ae)) λhi=>Bl (hi) (AY (B2 .i64 (he.2+1))<|some (.next ((hg++([(Ab.mk 4 0 hd.1 0)]:List Ab))++he.1,he.2+1,(Ab.mk ha.fKind ha.fInt ha.fStr (ha.fN+1))))) (B0 (B5 s he.2 ([93]:Ae)) λhj=>Bl (!hj) (some (.out (.ret (([]:List Ab),(-1))))) (some (.next ((hg++([(Ab.mk 4 0 hd.1 0)]:List Ab))++he.1,he.2,(Ab.mk ha.fKind ha.fInt ha.fStr (ha.fN+1))))))))) (B0 (hh s hb) λhf=>Bl (decide (hf.2<0)) (some (.out (.ret (([]:List Ab),(-1))))) (AY (Dz 40 (hg.length+hf.1.length))<|AY (B2 .i64 (ha.fN+1))<|B0 (B5 s hf.2 ([44]:Ae)) λhk=>Bl (hk) (AY (B2 .i64 (hf.2+1))<|some (.next (hg++hf.1,hf.2+1,(Ab.mk ha.fKind ha.fInt ha.fStr (ha.fN+1))))) (B0 (B5 s hf.2 ([93]:Ae)) λhl=>Bl (!hl) (some (.out (.ret (([]:List Ab),(-1))))) (some (.next (hg++hf.1,hf.2,(Ab.mk ha.fKind ha.fInt ha.fStr (ha.fN+1))))))))) (some (.out (.go (hg,hb,ha))))
def Hm (ha:(List Ab))(hb:Int)(hd:Ab):Option ((List Ab)×Int):=
 AY (Dz 40 (([hd]:List Ab).length+ha.length))<|AY (B2 .i64 (hb+1))<|some (([hd]:List Ab)++ha,hb+1)
def Je (F:Nat)(ha:Ae→Int→Option ((List Ab)×Int))(s:Ae)(at_:Int):Option ((List Ab)×Int):=
 AY (Cp at_ (s.length:Int))<|Bl (decide ((Be s at_)=123)) (AY (B2 .i64 (at_+1))<|B0 (Ca (λσ=>Hq F s ha σ.1 σ.2.1 σ.2.2) F (([]:List Ab),at_+1,(Ab.mk 6 0 ([]:Ae) 0))) (BT λν=>Hn ν.1 ν.2.1 ν.2.2)) (AY (B2 .i64 (at_+1))<|B0 (Ca (λσ=>Hp F s ha σ.1 σ.2.1 σ.2.2) F (([]:List Ab),at_+1,(Ab.mk 5 0 ([]:Ae) 0))) (BT λν=>Hm ν.1 ν.2.1 ν.2.2))
mutual
def Hd:Nat→Ae→Int→Option ((List Ab)×Int)
 | 0,_,_=>none
 | nn+1,s,at_=>PD nn (DF nn) s at_
def DF:Nat→Ae→Int→Option ((List Ab)×Int)
 | 0,_,_=>none
 | nn+1,s,at_=>Je nn (Hd nn) s at_
end
def L2 (F:Nat)(s:Ae):Option ((List Ab)×Int):=
 Bl (decide (4000<(s.length:Int))) (some (([]:List Ab),3)) (B0 (Hd F s 0) λr4=>Bl (!decide (r4.2=(s.length:Int))) (some (([]:List Ab),1)) (B0 (L3 F r4.1) λha=>some (ha.1,ha.2)))
end Go.Proofs.YtogdediiodmnbaaGreatDoor
namespace Go.Proofs.YtogdediiodmnbaaGreatDoor.Q
open Go Go.RowKit
set_option linter.unusedVariables false
set_option linter.unusedSimpArgs false
set_option maxRecDepth 100000
set_option maxHeartbeats 4000000
theorem S5 (F:Nat)(v:(List Ab))(r:(List Ab)×Int)(h:L3 F v=some r):Fn Tryz.prog GE 103 [AX 4 (A1 Ac v)] [] (λR H=>R=Cs [AX 4 (A1 Ac r.1),Ak r.2]∧H=[]):=by
 refine enter (n:=11) Tryz.func103 Aa Tryz.ntmps103 Aa (λw Z=>?_);unfold L3 at h;refine Af (wa Aa (wa Aa (Bs (wm Aa (ob h λr1 e3 h2=>Cn Tryz.call48 (NM F v r1 e3) Aa (wa Aa (Ao (Ai (Af (wm Aa (wv (CR Aa Aa) (Ao (cz h2 Aa (λc4 h5=>?_) (λc4 h6=>?_))))))))))))))
 ·refine Af (wm Aa (wa Aa (wa Aa (Ao (As (Ad (WK.up (d:=2) (r:=AX 4 (A1 Ac ([]:List Ab))) Aa (Up.le (DZ.nil _)) ?_)))))));obtain rfl:=At h5;exact Ar (CS Tryz.results103 (AB Aa) (AB Aa)) sN ⟨Aa,Aa⟩
 ·refine Ap (AJ (Af (wm Aa (wa Aa (wa Aa (Ao (As ?_)))))));obtain rfl:=At h6;exact Ar (CS Tryz.results103 (AB Aa) (AB Aa)) sN ⟨Aa,Aa⟩
theorem Yi  (r:(List Ab))(h:QX=some r):Fn Tryz.prog GE 36 [] [] (λR H=>R=AX 4 (A1 Ac r)∧H=[]):=by
 refine enter (n:=3) Tryz.func36 Aa Tryz.ntmps36 Aa (λw Z=>?_);unfold QX at h;refine Af (wa Aa (Bs (wv (r:=Bq [Ak 1,Ak 0,rS ([]:Ae),Ak 0]) (D5 Aa Aa) (AQ (ys:=([(Ab.mk 1 0 ([]:Ae) 0)]:List Ab)) (enc:=Ac) (css:=[[Ak 1,Ak 0,rS ([]:Ae),Ak 0]]) (xs:=[.tmp 1]) BK BU Eb Aa Aa Aa ⟨Eo.agg ⟨Up.refl _,Up.refl _,Up.refl _,Up.refl _,trivial⟩,trivial⟩ Aa AR Aa Aa Aa (λb1=>?_)))));refine wa Aa (Ao (As (WK.freeze (i:=0) Aa (WK.up (d:=0) (r:=AX 4 (A1 Ac ([(Ab.mk 1 0 ([]:Ae) 0)]:List Ab))) Aa (Up.fact (i:=0) Aa) ?_))));obtain rfl:=At h;exact Ar (BY Tryz.results36 (AB Aa)) (sS sN) ⟨Aa,Aa⟩
theorem Tr (b:Bool)(r:(List Ab))(h:MP b=some r):Fn Tryz.prog GE 50 [rB b] [] (λR H=>R=AX 4 (A1 Ac r)∧H=[]):=by
 refine enter (n:=8) Tryz.func50 Aa Tryz.ntmps50 Aa (λw Z=>?_);unfold MP at h;refine Af (wa Aa (Ao (Ai (Af (wm Aa (Ao (cz h Aa (λc1 h2=>?_) (λc1 h4=>?_))))))))
 ·refine Af (wv (r:=Bq [Ak 2,Ak 1,rS ([]:Ae),Ak 0]) (Cf Aa Aa Aa Aa) (AQ (ys:=([(Ab.mk 2 1 ([]:Ae) 0)]:List Ab)) (enc:=Ac) (css:=[[Ak 2,Ak 1,rS ([]:Ae),Ak 0]]) (xs:=[.tmp 4]) BK BU Eb Aa Aa Aa ⟨Eo.agg ⟨Up.refl _,Up.refl _,Up.refl _,Up.refl _,trivial⟩,trivial⟩ Aa AR Aa Aa Aa (λb3=>?_)));refine wa Aa (Ao (As (Ad (WK.freeze (i:=0) Aa (WK.up (d:=2) (r:=AX 4 (A1 Ac ([(Ab.mk 2 1 ([]:Ae) 0)]:List Ab))) Aa (Up.fact (i:=0) Aa) ?_)))));obtain rfl:=At h2;exact Ar (BY Tryz.results50 (AB Aa)) (sS sN) ⟨Aa,Aa⟩
 ·refine Ap (AJ (Af (wv (r:=Bq [Ak 2,Ak 0,rS ([]:Ae),Ak 0]) (D5 Aa Aa) (AQ (ys:=([(Ab.mk 2 0 ([]:Ae) 0)]:List Ab)) (enc:=Ac) (css:=[[Ak 2,Ak 0,rS ([]:Ae),Ak 0]]) (xs:=[.tmp 6]) BK BU Eb Aa Aa Aa ⟨Eo.agg ⟨Up.refl _,Up.refl _,Up.refl _,Up.refl _,trivial⟩,trivial⟩ Aa AR Aa Aa Aa (λb5=>?_)))));refine wa Aa (Ao (As (WK.freeze (i:=0) Aa (WK.up (d:=2) (r:=AX 4 (A1 Ac ([(Ab.mk 2 0 ([]:Ae) 0)]:List Ab))) Aa (Up.fact (i:=0) Aa) ?_))));obtain rfl:=At h4;exact Ar (BY Tryz.results50 (AB Aa)) (sS sN) ⟨Aa,Aa⟩
theorem CO (s:Ae)(at_:Int)(word:Ae)(r:Bool)(h:B5 s at_ word=some r):Fn Tryz.prog GE 127 [rS s,Ak at_,rS word] [] (λR H=>R=rB r∧H=[]):=by
 refine enter (n:=25) Tryz.func127 Aa Tryz.ntmps127 Aa (λw Z=>?_);unfold B5 at h;refine Af (wa Aa (Ao (ck h λg1 h2=>ck h2 λg3 h4=>ck h4 λg5 h6=>AG [(6,rB ((decide ((at_+(word.length:Int))≤(s.length:Int)))&&(decide ((List.take (B6 (at_+(word.length:Int))-B6 at_) (List.drop (B6 at_) s))=word))))] [] ?_ ?_)))
 ·refine Ah (wm Aa (wm Aa (wv (Bm BZ Aa) (wv (Bh Aa Aa g1) (wm Aa (wv (Bm BZ Aa) (wv (K6 Aa Aa) (wm Aa (AO (decide ((at_+(word.length:Int))≤(s.length:Int))) (λc7=>?_) (λc7=>?_))))))))))
  ·refine wo c7 (wm Aa (wo c7 (wm Aa (wo c7 (wm Aa (wo c7 (wm Aa (wo c7 (wv (Bm BZ Aa) (wo c7 (wv (Bh Aa Aa g1) (wo c7 (wv (DX BZ Aa Aa Aa (Cr g3 c7) (Cr g5 c7)) (wo c7 (wm Aa (wo c7 (wv (DN Aa Aa) (En Aa c7 Aa (wa Aa (Aj ?_))))))))))))))))))));exact Cc c7
  ·refine wf c7 (wf c7 (wf c7 (wf c7 (wf c7 (wf c7 (wf c7 (wf c7 (wf c7 (wv (r:=rB false) (A7 Aa c7 Aa) (wa Aa (Aj ?_)))))))))));exact Cc c7
 refine As ?_;obtain rfl:=At h6;exact Ar (BY Tryz.results127 (AB Aa)) sN ⟨Aa,Aa⟩
theorem Iv (F:Nat)(s:Ae)(at_:Int)(r:Ae×Int)(h:Dl F s at_=some r):Fn Tryz.prog GE 128 [rS s,Ak at_] [] (λR H=>R=Cs [rS r.1,Ak r.2]∧H=[]):=by
 refine enter (n:=68) Tryz.func128 Aa Tryz.ntmps128 Aa (λw Z=>?_);unfold Dl at h;refine Af (wv (r:=rS ([]:Ae)) (Av Aa) (wa Aa (Ao (Ai (ck h λg1 h2=>AG [(0,rS s),(1,Ak at_),(17,rB ((decide ((s.length:Int)≤at_))||(!decide ((Be s at_)=34))))] [] ?_ ?_)))))
 ·refine Ah (wm Aa (wm Aa (wv (Bm BZ Aa) (wv (GR Aa Aa) (wm Aa (AO (decide ((s.length:Int)≤at_)) (λc3=>?_) (λc3=>?_)))))))
  ·refine wf c3 (wf c3 (wf c3 (wf c3 (wv (r:=rB true) (Ax Aa c3 Aa) (Aj ?_)))));exact Cc c3
  ·refine wo c3 (wm Aa (wo c3 (wm Aa (wo c3 (wv (Bb BZ Aa Aa (Dw g1 c3)) (wo c3 (wv (CR Aa Aa) (Ea Aa c3 Aa (Aj ?_)))))))));exact Cc c3
 refine cz h2 Aa (λc4 h5=>?_) (λc4 h6=>?_)
 ·refine Af (wv (r:=rS ([]:Ae)) (Av Aa) (wv (r:=Ak (-1)) (Av Aa) (Ao (As (Ad ?_)))));obtain rfl:=At h5;exact Ar (CS Tf (AB Aa) (AB Aa)) sN ⟨Aa,Aa⟩
 ·refine Ap (AJ (Af (wv (r:=rS ([]:Ae)) (Av Aa) (Bs (wm Aa (ck h6 λg7 h8=>wv (Bh Aa Aa g7) (wa Aa (Ao (Ai (AL (ob h8 λhq hr hj=>B4 (S:=Nat×(Ae×Int)×(Unit)) (V:=(Ae×Int)×(Unit)) 0 (λσ=>Ca (λσ=>CD s σ.1 σ.2) σ.1 σ.2.1=some hq) (λσ=>[(0,rS s),(6,rS σ.2.1.1),(7,Ak σ.2.1.2)]) (λσ=>[]) (λσ=>σ.1) (F,(([]:Ae),at_+1),()) hr (AM.c Aa (AM.c Aa (AM.c Aa AM.nil))) sN (λσ=>CT s σ.1.1 σ.1.2=some r) (λσ=>[(0,rS s),(6,rS σ.1.1),(7,Ak σ.1.2)]) (λσ=>[]) ?_ ?_)))))))))))
  ·rintro⟨ge,⟨hf,hb⟩,⟨⟩⟩ hs;refine Cd (l':=[(0,rS s),(6,rS hf),(7,Ak hb)]) (H':=[]) Aa Aa ?_;obtain⟨hk,rfl,ht,hg,hh⟩:=Cz hs;replace hg:CD s hf hb=some ht:=hg;unfold CD at hg;refine Ai (ck hg λhu hw=>AG [(0,rS s),(6,rS hf),(7,Ak hb),(29,rB ((decide (hb<(s.length:Int)))&&(!decide ((Be s hb)=34))))] [] ?_ ?_)
   ·refine Ah (wm Aa (wm Aa (wv (Bm BZ Aa) (wv (Ch Aa Aa) (wm Aa (AO (decide (hb<(s.length:Int))) (λhd=>?_) (λhd=>?_)))))))
    ·refine wo hd (wm Aa (wo hd (wm Aa (wo hd (wv (Bb BZ Aa Aa (Cr hu hd)) (wo hd (wv (CR Aa Aa) (En Aa hd Aa (Aj ?_)))))))));exact Cc hd
    ·refine wf hd (wf hd (wf hd (wf hd (wv (r:=rB false) (A7 Aa hd Aa) (Aj ?_)))));exact Cc hd
   refine cz hw Aa (λhx hy=>?_) (λhx hz=>?_)
   ·refine Ap (AJ (AL (Ai (Af (wm Aa (wm Aa (ck hy λh0 h1=>wv (Bb BZ Aa Aa h0) (wv (BE Aa Aa) (Ao (cz h1 Aa (λh3 h4=>?_) (λh3 h7=>?_)))))))))))
    ·refine Af (wm Aa (ck h4 λh9 hA=>wv (Bh Aa Aa h9) (wa Aa (Ao (ck hA λhl hB=>AG [(0,rS s),(6,rS hf),(7,Ak (hb+1)),(51,rB ((decide ((s.length:Int)≤(hb+1)))||((!decide ((Be s (hb+1))=34))&&(!decide ((Be s (hb+1))=92)))))] [] ?_ ?_)))))
     ·refine Ah (wm Aa (wm Aa (wv (Bm BZ Aa) (wv (GR Aa Aa) (wm Aa (AO (decide ((s.length:Int)≤(hb+1))) (λha=>?_) (λha=>?_)))))))
      ·refine wf ha (wf ha (wf ha (wf ha (wf ha (wu (wu (wu (wu (wf ha (wv (r:=rB true) (Ax Aa ha Aa) (Aj ?_)))))))))));exact Cc ha
      ·refine wo ha (wm Aa (wo ha (wm Aa (wo ha (wv (Bb BZ Aa Aa (Dw hl ha)) (wo ha (wv (CR Aa Aa) (wo ha (wm Aa (AO (!decide ((Be s (hb+1))=34)) (λhe=>?_) (λhe=>?_)))))))))))
       ·refine wo he (wm Aa (wo he (wm Aa (wo he (wv (Bb BZ Aa Aa (Dw hl ha)) (wo he (wv (CR Aa Aa) (wo ha (En Aa he Aa (Ea Aa ha Aa (Aj ?_)))))))))));exact Cc (And.intro ha he)
       ·refine wf he (wf he (wf he (wf he (wo ha (wv (r:=rB false) (A7 Aa he Aa) (Ea Aa ha Aa (Aj ?_)))))));exact Cc (And.intro ha he)
     refine cz hB Aa (λhC hD=>?_) (λhC hE=>?_)
     ·refine Af (wv (r:=rS ([]:Ae)) (Av Aa) (wv (r:=Ak (-1)) (Av Aa) (Ao (As (Ad (A3 (Ad (Bc ?_))))))));have hG:=Bz hD hh hj;refine A3 (Ad ?_);obtain rfl:=At hG;exact Ar (CS Tf (AB Aa) (AB Aa)) sN ⟨Aa,Aa⟩
     ·refine Ap (AJ (Af (wm Aa (wm Aa (wm Aa (wm Aa (ck hE λhm hH=>wv (Bh Aa Aa hm) (ck hH λhI hJ=>ck hJ λhK hL=>wv (DX BZ Aa Aa Aa hI hK) (ck hL λhN hO=>wv (Dx Aa Aa hN) (wa Aa (Ao (Ah (wm Aa (wv (Bh Aa Aa hm) (wa Aa (Aj (AF ?_)))))))))))))))));have hP:=Bg hO hh;exact Au (AD (hk,(hf++(List.take (B6 ((hb+1)+1)-B6 (hb+1)) (List.drop (B6 (hb+1)) s)),(hb+1)+1),()) ⟨hP,Abo _⟩ (AM.c Aa (AM.c Aa (AM.c Aa AM.nil))) sN)
    ·refine Ap (AJ (Af (wm Aa (wm Aa (wm Aa (wm Aa (ck h7 λhn hQ=>wv (Bh Aa Aa hn) (ck hQ λhR hS=>ck hS λhT hU=>wv (DX BZ Aa Aa Aa hR hT) (ck hU λhV hW=>wv (Dx Aa Aa hV) (wa Aa (Ao (Ah (wm Aa (wv (Bh Aa Aa hn) (wa Aa (Aj (AF ?_)))))))))))))))));have hX:=Bg hW hh;exact Au (AD (hk,(hf++(List.take (B6 (hb+1)-B6 hb) (List.drop (B6 hb) s)),hb+1),()) ⟨hX,Abo _⟩ (AM.c Aa (AM.c Aa (AM.c Aa AM.nil))) sN)
   ·refine BB (A2 ?_);have hY:=Cb hz hh hj;exact A2 (Bn (AD ((hf,hb),()) hY (AM.c Aa (AM.c Aa (AM.c Aa AM.nil))) sN))
  ·rintro⟨⟨ho,hp⟩,⟨⟩⟩ hi;refine C4 (l':=[(0,rS s),(6,rS ho),(7,Ak hp)]) (H':=[]) Aa Aa ?_;replace hi:CT s ho hp=some r:=hi;unfold CT at hi;refine Bi (AJ (Ai (Af (wm Aa (wm Aa (wv (Bm BZ Aa) (wv (GR Aa Aa) (Ao (cz hi Aa (λhZ ga=>?_) (λhZ gb=>?_))))))))))
   ·refine Af (wv (r:=rS ([]:Ae)) (Av Aa) (wv (r:=Ak (-1)) (Av Aa) (Ao (As (Ad ?_)))));obtain rfl:=At ga;exact Ar (CS Tf (AB Aa) (AB Aa)) sN ⟨Aa,Aa⟩
   ·refine Ap (AJ (Af (wm Aa (wm Aa (ck gb λgc gd=>wv (Bh Aa Aa gc) (wa Aa (wa Aa (Ao (As ?_)))))))));obtain rfl:=At gd;exact Ar (CS Tf (AB Aa) (AB Aa)) sN ⟨Aa,Aa⟩
theorem Sz (F:Nat)(s:Ae)(at_:Int)(r:(List Ab)×Int)(h:IF F s at_=some r):Fn Tryz.prog GE 130 [rS s,Ak at_] [] (λR H=>R=Cs [AX 4 (A1 Ac r.1),Ak r.2]∧H=[]):=by
 refine enter (n:=80) Tryz.func130 Aa Tryz.ntmps130 Aa (λw Z=>?_);unfold IF at h;refine Af (wa Aa (wa Aa (Bs (wm Aa (wa Aa (Ao (Ai (Af (wm Aa (wm Aa (ck h λg1 h2=>wv (Bb BZ Aa Aa g1) (wv (BE Aa Aa) (Ao (cz h2 Aa (λc3 h4=>?_) (λc3 h7=>?_)))))))))))))))
 ·refine Ah (wm Aa (ck h4 λg5 h6=>wv (Bh Aa Aa g5) (wa Aa (Bs (wm Aa (wa Aa (Bs (wa Aa (Ao (Ai (AL (ob h6 λh8 h9 hA=>B4 (S:=Nat×(Int×Int)×(Unit)) (V:=(Int×Int)×(Unit)) 0 (λσ=>Ca (λσ=>Gi s at_ σ.1 σ.2) σ.1 σ.2.1=some h8) (λσ=>[(0,rS s),(1,Ak at_),(6,Ak σ.2.1.1),(7,Ak (at_+1)),(8,Ak σ.2.1.2)]) (λσ=>[]) (λσ=>σ.1) (F,(at_+1,0),()) h9 (AM.c5 Aa Aa Aa Aa Aa AM.nil) sN (λσ=>Gg s at_ σ.1.1 σ.1.2=some r) (λσ=>[(0,rS s),(1,Ak at_),(6,Ak σ.1.1),(7,Ak (at_+1)),(8,Ak σ.1.2)]) (λσ=>[]) ?_ ?_))))))))))))
  ·rintro⟨cv,⟨hj,hr⟩,⟨⟩⟩ hB;refine Cd (l':=[(0,rS s),(1,Ak at_),(6,Ak hj),(7,Ak (at_+1)),(8,Ak hr)]) (H':=[]) Aa Aa ?_;obtain⟨h0,rfl,t213,ht,hy⟩:=Cz hB;replace ht:Gi s at_ hj hr=some t213:=ht;unfold Gi at ht;refine Ai (ck ht λh1 hC=>AG [(0,rS s),(1,Ak at_),(6,Ak hj),(7,Ak (at_+1)),(8,Ak hr),(32,rB ((decide (hj<(s.length:Int)))&&((decide (48≤(Be s hj)))&&(decide ((Be s hj)≤57)))))] [] ?_ ?_)
   ·refine Ah (wm Aa (wm Aa (wv (Bm BZ Aa) (wv (Ch Aa Aa) (wm Aa (AO (decide (hj<(s.length:Int))) (λhf=>?_) (λhf=>?_)))))))
    ·refine wo hf (wm Aa (wo hf (wm Aa (wo hf (wv (Bb BZ Aa Aa (Cr h1 hf)) (wo hf (wv (GR Aa Aa) (En Aa hf Aa (wm Aa (AO (decide (48≤(Be s hj))) (λhh=>?_) (λhh=>?_)))))))))))
     ·refine wo hh (wm Aa (wo hh (wm Aa (wo hh (wv (Bb BZ Aa Aa (Cr h1 hf)) (wo hh (wv (K6 Aa Aa) (En Aa hh Aa (Aj ?_)))))))));exact Cc (And.intro hf hh)
     ·refine wf hh (wf hh (wf hh (wf hh (wv (r:=rB false) (A7 Aa hh Aa) (Aj ?_)))));exact Cc (And.intro hf hh)
    ·refine wf hf (wf hf (wf hf (wf hf (wv (r:=rB false) (A7 Aa hf Aa) (wm Aa (wz Aa Aa (wz Aa Aa (wz Aa Aa (wz Aa Aa (wv (r:=rB false) (A7 (b:=false) Aa Aa Aa) (Aj ?_)))))))))));exact Cc hf
   refine cz hC Aa (λhD hE=>?_) (λhD hG=>?_)
   ·refine Ap (AJ (AL (Ai (Af (wm Aa (wm Aa (ck hE λhH hI=>wv (G6 Aa Aa hH) (wv (Ch Aa Aa) (Ao (cz hI Aa (λhJ hK=>?_) (λhJ hL=>?_)))))))))))
    ·refine Ah (wm Aa (ck hK λhN hO=>wv (Ro Aa Aa hN) (wm Aa (wm Aa (ck hO λhP hQ=>wv (Bb BZ Aa Aa hP) (ck hQ λhR hS=>wv (G6 Aa Aa hR) (ck hS λhT hU=>wv (DB ⟨_,Qq⟩ Qr Aa hT) (ck hU λhV hW=>wv (Bh Aa Aa hV) (wa Aa (Ao (Ah (wm Aa (ck hW λhX hY=>wv (Bh Aa Aa hX) (wa Aa (Aj (AF ?_))))))))))))))));have hZ:=Bg hY hy;exact Au (AD (h0,(hj+1,(10*hr)+((Be s hj)-48)),()) ⟨hZ,Abo _⟩ (AM.c5 Aa Aa Aa Aa Aa AM.nil) sN)
    ·refine Ap (AJ (Ah (wm Aa (ck hL λga gb=>wv (Bh Aa Aa ga) (wa Aa (Aj (AF ?_)))))));have gc:=Bg gb hy;exact Au (AD (h0,(hj+1,hr),()) ⟨gc,Abo _⟩ (AM.c5 Aa Aa Aa Aa Aa AM.nil) sN)
   ·refine BB (A2 ?_);have gd:=Cb hG hy hA;exact A2 (Bn (AD ((hj,hr),()) gd (AM.c5 Aa Aa Aa Aa Aa AM.nil) sN))
  ·rintro⟨⟨hp,hl⟩,⟨⟩⟩ hu;refine C4 (l':=[(0,rS s),(1,Ak at_),(6,Ak hp),(7,Ak (at_+1)),(8,Ak hl)]) (H':=[]) Aa Aa ?_;replace hu:Gg s at_ hp hl=some r:=hu;unfold Gg at hu;refine Bi (AJ (Ai (ck hu λge gf=>ck gf λgg gh=>AG [(1,Ak at_),(6,Ak hp),(7,Ak (at_+1)),(8,Ak hl),(66,rB ((decide (hp=(at_+1)))||((decide ((Be s (at_+1))=48))&&((decide (((at_+1)+1)<hp))||(decide (at_<(at_+1)))))))] [] ?_ ?_)))
   ·refine Ah (wm Aa (wm Aa (wv (BE Aa Aa) (wm Aa (AO (decide (hp=(at_+1))) (λha=>?_) (λha=>?_))))))
    ·refine wf ha (wf ha (wf ha (wf ha (wf ha (wu (wu (wu (wu (wu (wu (wu (wu (wu (wf ha (wv (r:=rB true) (Ax Aa ha Aa) (Aj ?_))))))))))))))));exact Cc ha
    ·refine wo ha (wm Aa (wo ha (wm Aa (wo ha (wv (Bb BZ Aa Aa (Dw ge ha)) (wo ha (wv (BE Aa Aa) (wo ha (wm Aa (AO (decide ((Be s (at_+1))=48)) (λhd=>?_) (λhd=>?_)))))))))))
     ·refine wo hd (wm Aa (wo hd (wm Aa (wo hd (wv (Bh Aa Aa (Cr (Dw gg ha) hd)) (wo hd (wv (Cv Aa Aa) (wo hd (wm Aa (AO (decide (((at_+1)+1)<hp)) (λhm=>?_) (λhm=>?_)))))))))))
      ·refine wf hm (wf hm (wf hm (wo hd (wv (r:=rB true) (Ax Aa hm Aa) (wo ha (En Aa hd Aa (Ea Aa ha Aa (Aj ?_))))))));exact Cc (And.intro ha (And.intro hd hm))
      ·refine wo hm (wm Aa (wo hm (wm Aa (wo hm (wv (Cv Aa Aa) (wo hd (Ea Aa hm Aa (wo ha (En Aa hd Aa (Ea Aa ha Aa (Aj ?_)))))))))));exact Cc (And.intro ha (And.intro hd hm))
     ·refine wf hd (wf hd (wf hd (wf hd (wf hd (wu (wu (wu (wf hd (wo ha (wv (r:=rB false) (A7 Aa hd Aa) (Ea Aa ha Aa (Aj ?_))))))))))));exact Cc (And.intro ha hd)
   refine cz gh Aa (λgi gj=>?_) (λgi gl=>?_)
   ·refine Af (wa Aa (wv (r:=Ak (-1)) (Av Aa) (Ao (As (Ad (WK.up (d:=4) (r:=AX 4 (A1 Ac ([]:List Ab))) Aa (Up.le (DZ.nil _)) ?_))))));obtain rfl:=At gj;exact Ar (CS K9 (AB Aa) (AB Aa)) sN ⟨Aa,Aa⟩
   ·refine Ap (AJ (Ai (Af (wm Aa (wm Aa (ck gl λgm gp=>wv (G6 Aa Aa gm) (wv (Cv Aa Aa) (Ao (cz gp Aa (λgq gr=>?_) (λgq gs=>?_))))))))))
    ·refine Ah (wa Aa (Ao (Ai (Af (wm Aa (wm Aa (wv (Cv Aa Aa) (Ao (cz gr Aa (λgt gu=>?_) (λgt gv=>?_))))))))))
     ·refine Ah (wm Aa (ck gu λgw gx=>wv (NT Aa gw) (wa Aa (Bs (wm Aa (wv (r:=Bq [Ak 3,Ak (-2000000000000),rS ([]:Ae),Ak 0]) (Cf Aa Aa Aa Aa) (AQ (ys:=([(Ab.mk 3 (-2000000000000) ([]:Ae) 0)]:List Ab)) (enc:=Ac) (css:=[[Ak 3,Ak (-2000000000000),rS ([]:Ae),Ak 0]]) (xs:=[.tmp 77]) BK BU Eb Aa Aa Aa ⟨Eo.agg ⟨Up.refl _,Up.refl _,Up.refl _,Up.refl _,trivial⟩,trivial⟩ Aa AR Aa Aa Aa (λcw=>?_))))))));refine wm Aa (wa Aa (wa Aa (Ao (As (WK.freeze (i:=0) Aa (WK.up (d:=4) (r:=AX 4 (A1 Ac ([(Ab.mk 3 (-2000000000000) ([]:Ae) 0)]:List Ab))) Aa (Up.fact (i:=0) Aa) ?_))))));obtain rfl:=At gx;exact Ar (CS K9 (AB Aa) (AB Aa)) (sS sN) ⟨Aa,Aa⟩
     ·refine Ap (AJ (Af (wm Aa (wv (r:=Bq [Ak 3,Ak 2000000000000,rS ([]:Ae),Ak 0]) (Cf Aa Aa Aa Aa) (AQ (ys:=([(Ab.mk 3 2000000000000 ([]:Ae) 0)]:List Ab)) (enc:=Ac) (css:=[[Ak 3,Ak 2000000000000,rS ([]:Ae),Ak 0]]) (xs:=[.tmp 77]) BK BU Eb Aa Aa Aa ⟨Eo.agg ⟨Up.refl _,Up.refl _,Up.refl _,Up.refl _,trivial⟩,trivial⟩ Aa AR Aa Aa Aa (λcx=>?_))))));refine wm Aa (wa Aa (wa Aa (Ao (As (WK.freeze (i:=0) Aa (WK.up (d:=4) (r:=AX 4 (A1 Ac ([(Ab.mk 3 2000000000000 ([]:Ae) 0)]:List Ab))) Aa (Up.fact (i:=0) Aa) ?_))))));obtain rfl:=At gv;exact Ar (CS K9 (AB Aa) (AB Aa)) (sS sN) ⟨Aa,Aa⟩
    ·refine Ap (AJ (Ai (Af (wm Aa (wm Aa (wv (Cv Aa Aa) (Ao (cz gs Aa (λgy gz=>?_) (λgy g0=>?_)))))))))
     ·refine Ah (wm Aa (ck gz λg2 g3=>wv (NT Aa g2) (wa Aa (Bs (wm Aa (wv (r:=Bq [Ak 3,Ak (-hl),rS ([]:Ae),Ak 0]) (Cf Aa Aa Aa Aa) (AQ (ys:=([(Ab.mk 3 (-hl) ([]:Ae) 0)]:List Ab)) (enc:=Ac) (css:=[[Ak 3,Ak (-hl),rS ([]:Ae),Ak 0]]) (xs:=[.tmp 77]) BK BU Eb Aa Aa Aa ⟨Eo.agg ⟨Up.refl _,Up.refl _,Up.refl _,Up.refl _,trivial⟩,trivial⟩ Aa AR Aa Aa Aa (λcy=>?_))))))));refine wm Aa (wa Aa (wa Aa (Ao (As (WK.freeze (i:=0) Aa (WK.up (d:=4) (r:=AX 4 (A1 Ac ([(Ab.mk 3 (-hl) ([]:Ae) 0)]:List Ab))) Aa (Up.fact (i:=0) Aa) ?_))))));obtain rfl:=At g3;exact Ar (CS K9 (AB Aa) (AB Aa)) (sS sN) ⟨Aa,Aa⟩
     ·refine Ap (AJ (Af (wm Aa (wv (r:=Bq [Ak 3,Ak hl,rS ([]:Ae),Ak 0]) (Cf Aa Aa Aa Aa) (AQ (ys:=([(Ab.mk 3 hl ([]:Ae) 0)]:List Ab)) (enc:=Ac) (css:=[[Ak 3,Ak hl,rS ([]:Ae),Ak 0]]) (xs:=[.tmp 77]) BK BU Eb Aa Aa Aa ⟨Eo.agg ⟨Up.refl _,Up.refl _,Up.refl _,Up.refl _,trivial⟩,trivial⟩ Aa AR Aa Aa Aa (λc0=>?_))))));refine wm Aa (wa Aa (wa Aa (Ao (As (WK.freeze (i:=0) Aa (WK.up (d:=4) (r:=AX 4 (A1 Ac ([(Ab.mk 3 hl ([]:Ae) 0)]:List Ab))) Aa (Up.fact (i:=0) Aa) ?_))))));obtain rfl:=At g0;exact Ar (CS K9 (AB Aa) (AB Aa)) (sS sN) ⟨Aa,Aa⟩
 ·refine Ap (AJ (Af (wm Aa (wa Aa (Bs (wa Aa (Ao (Ai (AL (ob h7 λg4 g6 g7=>B4 (S:=Nat×(Int×Int)×(Unit)) (V:=(Int×Int)×(Unit)) 0 (λσ=>Ca (λσ=>Gh s at_ σ.1 σ.2) σ.1 σ.2.1=some g4) (λσ=>[(0,rS s),(1,Ak at_),(6,Ak σ.2.1.1),(7,Ak at_),(8,Ak σ.2.1.2)]) (λσ=>[]) (λσ=>σ.1) (F,(at_,0),()) g6 (AM.c5 Aa Aa Aa Aa Aa AM.nil) sN (λσ=>Gf s at_ σ.1.1 σ.1.2=some r) (λσ=>[(0,rS s),(1,Ak at_),(6,Ak σ.1.1),(7,Ak at_),(8,Ak σ.1.2)]) (λσ=>[]) ?_ ?_))))))))))
  ·rintro⟨c1,⟨hk,hs⟩,⟨⟩⟩ g8;refine Cd (l':=[(0,rS s),(1,Ak at_),(6,Ak hk),(7,Ak at_),(8,Ak hs)]) (H':=[]) Aa Aa ?_;obtain⟨h3,rfl,g9,hw,hz⟩:=Cz g8;replace hw:Gh s at_ hk hs=some g9:=hw;unfold Gh at hw;refine Ai (ck hw λh5 gA=>AG [(0,rS s),(1,Ak at_),(6,Ak hk),(7,Ak at_),(8,Ak hs),(32,rB ((decide (hk<(s.length:Int)))&&((decide (48≤(Be s hk)))&&(decide ((Be s hk)≤57)))))] [] ?_ ?_)
   ·refine Ah (wm Aa (wm Aa (wv (Bm BZ Aa) (wv (Ch Aa Aa) (wm Aa (AO (decide (hk<(s.length:Int))) (λhg=>?_) (λhg=>?_)))))))
    ·refine wo hg (wm Aa (wo hg (wm Aa (wo hg (wv (Bb BZ Aa Aa (Cr h5 hg)) (wo hg (wv (GR Aa Aa) (En Aa hg Aa (wm Aa (AO (decide (48≤(Be s hk))) (λhi=>?_) (λhi=>?_)))))))))))
     ·refine wo hi (wm Aa (wo hi (wm Aa (wo hi (wv (Bb BZ Aa Aa (Cr h5 hg)) (wo hi (wv (K6 Aa Aa) (En Aa hi Aa (Aj ?_)))))))));exact Cc (And.intro hg hi)
     ·refine wf hi (wf hi (wf hi (wf hi (wv (r:=rB false) (A7 Aa hi Aa) (Aj ?_)))));exact Cc (And.intro hg hi)
    ·refine wf hg (wf hg (wf hg (wf hg (wv (r:=rB false) (A7 Aa hg Aa) (wm Aa (wz Aa Aa (wz Aa Aa (wz Aa Aa (wz Aa Aa (wv (r:=rB false) (A7 (b:=false) Aa Aa Aa) (Aj ?_)))))))))));exact Cc hg
   refine cz gA Aa (λgB gC=>?_) (λgB gD=>?_)
   ·refine Ap (AJ (AL (Ai (Af (wm Aa (wm Aa (ck gC λgE gF=>wv (G6 Aa Aa gE) (wv (Ch Aa Aa) (Ao (cz gF Aa (λgG gH=>?_) (λgG gI=>?_)))))))))))
    ·refine Ah (wm Aa (ck gH λgJ gK=>wv (Ro Aa Aa gJ) (wm Aa (wm Aa (ck gK λgL gM=>wv (Bb BZ Aa Aa gL) (ck gM λgN gO=>wv (G6 Aa Aa gN) (ck gO λgP gQ=>wv (DB ⟨_,Qq⟩ Qr Aa gP) (ck gQ λgR gS=>wv (Bh Aa Aa gR) (wa Aa (Ao (Ah (wm Aa (ck gS λgT gU=>wv (Bh Aa Aa gT) (wa Aa (Aj (AF ?_))))))))))))))));have gV:=Bg gU hz;exact Au (AD (h3,(hk+1,(10*hs)+((Be s hk)-48)),()) ⟨gV,Abo _⟩ (AM.c5 Aa Aa Aa Aa Aa AM.nil) sN)
    ·refine Ap (AJ (Ah (wm Aa (ck gI λgW gX=>wv (Bh Aa Aa gW) (wa Aa (Aj (AF ?_)))))));have gY:=Bg gX hz;exact Au (AD (h3,(hk+1,hs),()) ⟨gY,Abo _⟩ (AM.c5 Aa Aa Aa Aa Aa AM.nil) sN)
   ·refine BB (A2 ?_);have gZ:=Cb gD hz g7;exact A2 (Bn (AD ((hk,hs),()) gZ (AM.c5 Aa Aa Aa Aa Aa AM.nil) sN))
  ·rintro⟨⟨hq,hn⟩,⟨⟩⟩ hx;refine C4 (l':=[(0,rS s),(1,Ak at_),(6,Ak hq),(7,Ak at_),(8,Ak hn)]) (H':=[]) Aa Aa ?_;replace hx:Gf s at_ hq hn=some r:=hx;unfold Gf at hx;refine Bi (AJ (Ai (ck hx λca cb=>AG [(1,Ak at_),(6,Ak hq),(7,Ak at_),(8,Ak hn),(66,rB ((decide (hq=at_))||((decide ((Be s at_)=48))&&((decide ((at_+1)<hq))||(decide (at_<at_))))))] [] ?_ ?_)))
   ·refine Ah (wm Aa (wm Aa (wv (BE Aa Aa) (wm Aa (AO (decide (hq=at_)) (λhb=>?_) (λhb=>?_))))))
    ·refine wf hb (wf hb (wf hb (wf hb (wf hb (wu (wu (wu (wu (wu (wu (wu (wu (wu (wf hb (wv (r:=rB true) (Ax Aa hb Aa) (Aj ?_))))))))))))))));exact Cc hb
    ·refine wo hb (wm Aa (wo hb (wm Aa (wo hb (wv (Bb BZ Aa Aa g1) (wo hb (wv (BE Aa Aa) (wo hb (wm Aa (AO (decide ((Be s at_)=48)) (λhe=>?_) (λhe=>?_)))))))))))
     ·refine wo he (wm Aa (wo he (wm Aa (wo he (wv (Bh Aa Aa (Cr (Dw ca hb) he)) (wo he (wv (Cv Aa Aa) (wo he (wm Aa (AO (decide ((at_+1)<hq)) (λho=>?_) (λho=>?_)))))))))))
      ·refine wf ho (wf ho (wf ho (wo he (wv (r:=rB true) (Ax Aa ho Aa) (wo hb (En Aa he Aa (Ea Aa hb Aa (Aj ?_))))))));exact Cc (And.intro hb (And.intro he ho))
      ·refine wo ho (wm Aa (wo ho (wm Aa (wo ho (wv (Cv Aa Aa) (wo he (Ea Aa ho Aa (wo hb (En Aa he Aa (Ea Aa hb Aa (Aj ?_)))))))))));exact Cc (And.intro hb (And.intro he ho))
     ·refine wf he (wf he (wf he (wf he (wf he (wu (wu (wu (wf he (wo hb (wv (r:=rB false) (A7 Aa he Aa) (Ea Aa hb Aa (Aj ?_))))))))))));exact Cc (And.intro hb he)
   refine cz cb Aa (λcc cd=>?_) (λcc ce=>?_)
   ·refine Af (wa Aa (wv (r:=Ak (-1)) (Av Aa) (Ao (As (Ad (WK.up (d:=4) (r:=AX 4 (A1 Ac ([]:List Ab))) Aa (Up.le (DZ.nil _)) ?_))))));obtain rfl:=At cd;exact Ar (CS K9 (AB Aa) (AB Aa)) sN ⟨Aa,Aa⟩
   ·refine Ap (AJ (Ai (Af (wm Aa (wm Aa (ck ce λcf cg=>wv (G6 Aa Aa cf) (wv (Cv Aa Aa) (Ao (cz cg Aa (λch ci=>?_) (λch cj=>?_))))))))))
    ·refine Ah (wa Aa (Ao (Ai (Af (wm Aa (wm Aa (wv (Cv Aa Aa) (Ao (cz ci Aa (λcl cm=>?_) (λcl cn=>?_))))))))))
     ·refine Ah (wm Aa (ck cm λco cp=>wv (NT Aa co) (wa Aa (Bs (wm Aa (wv (r:=Bq [Ak 3,Ak (-2000000000000),rS ([]:Ae),Ak 0]) (Cf Aa Aa Aa Aa) (AQ (ys:=([(Ab.mk 3 (-2000000000000) ([]:Ae) 0)]:List Ab)) (enc:=Ac) (css:=[[Ak 3,Ak (-2000000000000),rS ([]:Ae),Ak 0]]) (xs:=[.tmp 77]) BK BU Eb Aa Aa Aa ⟨Eo.agg ⟨Up.refl _,Up.refl _,Up.refl _,Up.refl _,trivial⟩,trivial⟩ Aa AR Aa Aa Aa (λc2=>?_))))))));refine wm Aa (wa Aa (wa Aa (Ao (As (WK.freeze (i:=0) Aa (WK.up (d:=4) (r:=AX 4 (A1 Ac ([(Ab.mk 3 (-2000000000000) ([]:Ae) 0)]:List Ab))) Aa (Up.fact (i:=0) Aa) ?_))))));obtain rfl:=At cp;exact Ar (CS K9 (AB Aa) (AB Aa)) (sS sN) ⟨Aa,Aa⟩
     ·refine Ap (AJ (Af (wm Aa (wv (r:=Bq [Ak 3,Ak 2000000000000,rS ([]:Ae),Ak 0]) (Cf Aa Aa Aa Aa) (AQ (ys:=([(Ab.mk 3 2000000000000 ([]:Ae) 0)]:List Ab)) (enc:=Ac) (css:=[[Ak 3,Ak 2000000000000,rS ([]:Ae),Ak 0]]) (xs:=[.tmp 77]) BK BU Eb Aa Aa Aa ⟨Eo.agg ⟨Up.refl _,Up.refl _,Up.refl _,Up.refl _,trivial⟩,trivial⟩ Aa AR Aa Aa Aa (λc4=>?_))))));refine wm Aa (wa Aa (wa Aa (Ao (As (WK.freeze (i:=0) Aa (WK.up (d:=4) (r:=AX 4 (A1 Ac ([(Ab.mk 3 2000000000000 ([]:Ae) 0)]:List Ab))) Aa (Up.fact (i:=0) Aa) ?_))))));obtain rfl:=At cn;exact Ar (CS K9 (AB Aa) (AB Aa)) (sS sN) ⟨Aa,Aa⟩
    ·refine Ap (AJ (Ai (Af (wm Aa (wm Aa (wv (Cv Aa Aa) (Ao (cz cj Aa (λcq cr=>?_) (λcq cs=>?_)))))))))
     ·refine Ah (wm Aa (ck cr λct cu=>wv (NT Aa ct) (wa Aa (Bs (wm Aa (wv (r:=Bq [Ak 3,Ak (-hn),rS ([]:Ae),Ak 0]) (Cf Aa Aa Aa Aa) (AQ (ys:=([(Ab.mk 3 (-hn) ([]:Ae) 0)]:List Ab)) (enc:=Ac) (css:=[[Ak 3,Ak (-hn),rS ([]:Ae),Ak 0]]) (xs:=[.tmp 77]) BK BU Eb Aa Aa Aa ⟨Eo.agg ⟨Up.refl _,Up.refl _,Up.refl _,Up.refl _,trivial⟩,trivial⟩ Aa AR Aa Aa Aa (λc6=>?_))))))));refine wm Aa (wa Aa (wa Aa (Ao (As (WK.freeze (i:=0) Aa (WK.up (d:=4) (r:=AX 4 (A1 Ac ([(Ab.mk 3 (-hn) ([]:Ae) 0)]:List Ab))) Aa (Up.fact (i:=0) Aa) ?_))))));obtain rfl:=At cu;exact Ar (CS K9 (AB Aa) (AB Aa)) (sS sN) ⟨Aa,Aa⟩
     ·refine Ap (AJ (Af (wm Aa (wv (r:=Bq [Ak 3,Ak hn,rS ([]:Ae),Ak 0]) (Cf Aa Aa Aa Aa) (AQ (ys:=([(Ab.mk 3 hn ([]:Ae) 0)]:List Ab)) (enc:=Ac) (css:=[[Ak 3,Ak hn,rS ([]:Ae),Ak 0]]) (xs:=[.tmp 77]) BK BU Eb Aa Aa Aa ⟨Eo.agg ⟨Up.refl _,Up.refl _,Up.refl _,Up.refl _,trivial⟩,trivial⟩ Aa AR Aa Aa Aa (λc7=>?_))))));refine wm Aa (wa Aa (wa Aa (Ao (As (WK.freeze (i:=0) Aa (WK.up (d:=4) (r:=AX 4 (A1 Ac ([(Ab.mk 3 hn ([]:Ae) 0)]:List Ab))) Aa (Up.fact (i:=0) Aa) ?_))))));obtain rfl:=At cs;exact Ar (CS K9 (AB Aa) (AB Aa)) (sS sN) ⟨Aa,Aa⟩
theorem VZ (F:Nat)(hd:Ae→Int→Option ((List Ab)×Int))(he:(∀(s:Ae) (at_:Int) (r:(List Ab)×Int),hd s at_=some r→Fn Tryz.prog GE 129 [rS s,Ak at_] [] (λR H=>R=Cs [AX 4 (A1 Ac r.1),Ak r.2]∧H=[])))(s:Ae)(at_:Int)(r:(List Ab)×Int)(h:PD F hd s at_=some r):Fn Tryz.prog GE 102 [rS s,Ak at_] [] (λR H=>R=Cs [AX 4 (A1 Ac r.1),Ak r.2]∧H=[]):=by
 refine enter (n:=64) Tryz.func102 Aa Tryz.ntmps102 Aa (λw Z=>?_);unfold PD at h;refine Af (wa Aa (wa Aa (Ao (Ai (Af (wm Aa (wm Aa (wv (Bm BZ Aa) (wv (GR Aa Aa) (Ao (cz h Aa (λc1 h2=>?_) (λc1 h3=>?_))))))))))))
 ·refine Af (wa Aa (wv (r:=Ak (-1)) (Av Aa) (Ao (As (Ad (WK.up (d:=4) (r:=AX 4 (A1 Ac ([]:List Ab))) Aa (Up.le (DZ.nil _)) ?_))))));obtain rfl:=At h2;exact Ar (CS N5 (AB Aa) (AB Aa)) sN ⟨Aa,Aa⟩
 ·refine Ap (AJ (Ai (Af (wm Aa (wm Aa (ob h3 λr4 e6 h5=>Cn H9 (CO s at_ ([110,117,108,108]:Ae) r4 e6) Aa (Ao (cz h5 Aa (λc7 h8=>?_) (λc7 hf=>?_)))))))))
  ·refine Af (ob h8 λr9 hg hh=>Cn Tryz.call36 (Yi r9 hg) Aa (wm Aa (ck hh λhi hj=>wv (Bh Aa Aa hi) (wa Aa (wa Aa (Ao (As (Ad ?_))))))));obtain rfl:=At hj;exact Ar (CS N5 (AB Aa) (AB Aa)) sN ⟨Aa,Aa⟩
  ·refine Ap (AJ (Ai (Af (wm Aa (wm Aa (ob hf λhk hl hm=>Cn H9 (CO s at_ ([116,114,117,101]:Ae) hk hl) Aa (Ao (cz hm Aa (λhn ho=>?_) (λhn hp=>?_)))))))))
   ·refine Af (ob ho λhq hr hs=>Cn Tryz.call50 (Tr true hq hr) Aa (wm Aa (ck hs λht hu=>wv (Bh Aa Aa ht) (wa Aa (wa Aa (Ao (As (Ad ?_))))))));obtain rfl:=At hu;exact Ar (CS N5 (AB Aa) (AB Aa)) sN ⟨Aa,Aa⟩
   ·refine Ap (AJ (Ai (Af (wm Aa (wm Aa (ob hp λhw hx hy=>Cn H9 (CO s at_ ([102,97,108,115,101]:Ae) hw hx) Aa (Ao (cz hy Aa (λhz h0=>?_) (λhz h1=>?_)))))))))
    ·refine Af (ob h0 λh4 h6 h7=>Cn Tryz.call50 (Tr false h4 h6) Aa (wm Aa (ck h7 λh9 hA=>wv (Bh Aa Aa h9) (wa Aa (wa Aa (Ao (As (Ad ?_))))))));obtain rfl:=At hA;exact Ar (CS N5 (AB Aa) (AB Aa)) sN ⟨Aa,Aa⟩
    ·refine Ap (AJ (Ai (Af (wm Aa (wm Aa (ck h1 λhb hB=>wv (Bb BZ Aa Aa hb) (wv (BE Aa Aa) (Ao (cz hB Aa (λhC hD=>?_) (λhC hE=>?_))))))))))
     ·refine Af (wm Aa (wm Aa (ob hD λha hG hH=>Cn Tryz.call128 (Iv F s at_ ha hG) Aa (wm Aa (wv (AA Aa Aa) (wv (AA Aa Aa) (wa Aa (wa Aa (Bs (wm Aa (wv (r:=Bq [Ak 4,Ak 0,rS ha.1,Ak 0]) (EQ Aa Aa Aa Aa) (AQ (ys:=([(Ab.mk 4 0 ha.1 0)]:List Ab)) (enc:=Ac) (css:=[[Ak 4,Ak 0,rS ha.1,Ak 0]]) (xs:=[.tmp 41]) BK BU Eb Aa Aa Aa ⟨Eo.agg ⟨Up.refl _,Up.refl _,Up.refl _,Up.refl _,trivial⟩,trivial⟩ Aa AR Aa Aa Aa (λhS=>?_)))))))))))));refine wm Aa (wa Aa (wa Aa (Ao (As (Ad (WK.freeze (i:=0) Aa (WK.up (d:=4) (r:=AX 4 (A1 Ac ([(Ab.mk 4 0 ha.1 0)]:List Ab))) Aa (Up.fact (i:=0) Aa) ?_)))))));obtain rfl:=At hH;exact Ar (CS N5 (AB Aa) (AB Aa)) (sS sN) ⟨Aa,Aa⟩
     ·refine Ap (AJ (Ai (AG [(0,rS s),(1,Ak at_),(53,rB ((decide ((Be s at_)=91))||(decide ((Be s at_)=123))))] [] ?_ ?_)))
      ·refine Ah (wm Aa (wm Aa (wv (Bb BZ Aa Aa hb) (wv (BE Aa Aa) (wm Aa (AO (decide ((Be s at_)=91)) (λc46=>?_) (λc46=>?_)))))))
       ·refine wf c46 (wf c46 (wf c46 (wf c46 (wv (r:=rB true) (Ax Aa c46 Aa) (Aj ?_)))));exact Cc c46
       ·refine wo c46 (wm Aa (wo c46 (wm Aa (wo c46 (wv (Bb BZ Aa Aa hb) (wo c46 (wv (BE Aa Aa) (Ea Aa c46 Aa (Aj ?_)))))))));exact Cc c46
      refine cz hE Aa (λhI hJ=>?_) (λhI hK=>?_)
      ·refine Af (wm Aa (wm Aa (ob hJ λhL hN hO=>Cn Tryz.call129 (he s at_ hL hN) Aa (wv (AA Aa Aa) (wv (AA Aa Aa) (wa Aa (wa Aa (Ao (As (Ad ?_))))))))));obtain rfl:=At hO;exact Ar (CS N5 (AB Aa) (AB Aa)) sN ⟨Aa,Aa⟩
      ·refine Ap (AJ (Af (wm Aa (wm Aa (ob hK λhP hQ hR=>Cn Tryz.call130 (Sz F s at_ hP hQ) Aa (wv (AA Aa Aa) (wv (AA Aa Aa) (wa Aa (wa Aa (Ao (As ?_)))))))))));obtain rfl:=At hR;exact Ar (CS N5 (AB Aa) (AB Aa)) sN ⟨Aa,Aa⟩
theorem PE (F:Nat)(h0:Ae→Int→Option ((List Ab)×Int))(hA:(∀(s:Ae) (at_:Int) (r:(List Ab)×Int),h0 s at_=some r→Fn Tryz.prog GE 102 [rS s,Ak at_] [] (λR H=>R=Cs [AX 4 (A1 Ac r.1),Ak r.2]∧H=[])))(s:Ae)(at_:Int)(r:(List Ab)×Int)(h:Je F h0 s at_=some r):Fn Tryz.prog GE 129 [rS s,Ak at_] [] (λR H=>R=Cs [AX 4 (A1 Ac r.1),Ak r.2]∧H=[]):=by
 refine enter (n:=98) Tryz.func129 Aa Tryz.ntmps129 Aa (λw Z=>?_);unfold Je at h;refine Af (wa Aa (wa Aa (Bs (wv (r:=Bq [Ak 5,Ak 0,rS ([]:Ae),Ak 0]) (D5 Aa Aa) (Ce (cs:=[Ak 0,Ak 0,rS ([]:Ae),Ak 0]) Eb Aa Aa (λb1=>?_))))));refine AP (i:=0) BU Aa Aa Aa (Bx.c Aa) Aa Aa (cs':=[Ak 5,Ak 0,rS ([]:Ae),Ak 0]) Aa (H':=[.blk b1 [Ak 5,Ak 0,rS ([]:Ae),Ak 0] 63]) Aa (Bs (wv (r:=rS ([93]:Ae)) (Av Aa) (Ao (Ai (Af (wm Aa (wm Aa (ck h λg2 h3=>wv (Bb BZ Aa Aa g2) (wv (BE Aa Aa) (Ao (cz h3 Aa (λc4 h5=>?_) (λc4 hR=>?_))))))))))))
 ·refine Af (vF BA Aa DQ (BC (i:=0) DQ Aa Aa (Cl Aa) Aa Aa (cs':=[Ak 6,Ak 0,rS ([]:Ae),Ak 0]) Aa (H':=[.blk b1 [Ak 6,Ak 0,rS ([]:Ae),Ak 0] 63]) Aa (Ao (Ah (wv (r:=rS ([125]:Ae)) (Av Aa) (Bs (wa Aa (Bs (wm Aa (ck h5 λg6 h7=>wv (Bh Aa Aa g6) (wa Aa (Ao (Ai (AL (WC.nilrow (e:=63) (sz:=4) (GH (H2:=[.blk b1 [Ak 6,Ak 0,rS ([]:Ae),Ak 0] 63,.row (.slice none 0 0                                                               ) 63 4 (A1 Ac ([]:List Ab))]) ((Al (i:=1) Aa).trans (Abe _ (Abg _))) (ob h7 λhS hT h1=>B4 (S:=Nat×((List Ab)×Int×Ab)×(Value)) (V:=((List Ab)×Int×Ab)×(Value)) 0 (λσ=>Ca (λσ=>Hq F s h0 σ.1 σ.2.1 σ.2.2) σ.1 σ.2.1=some hS) (λσ=>[(0,rS s),(6,rP b1 0),(7,rS ([125]:Ae)),(8,rv σ.2.2),(9,Ak σ.2.1.2.1)]) (λσ=>[.blk b1 (Ac σ.2.1.2.2) 63,.row σ.2.2 63 4 (A1 Ac σ.2.1.1)]) (λσ=>σ.1) (F,(([]:List Ab),at_+1,(Ab.mk 6 0 ([]:Ae) 0)),(.slice none 0 0                                                               )) hT (AM.c5 Aa Aa Aa Aa Aa AM.nil) (sC (sC sN)) (λσ=>Hn σ.1.1 σ.1.2.1 σ.1.2.2=some r) (λσ=>[(6,rP b1 0),(8,rv σ.2),(9,Ak σ.1.2.1)]) (λσ=>[.blk b1 (Ac σ.1.2.2) 63,.row σ.2 63 4 (A1 Ac σ.1.1)]) ?_ ?_)))))))))))))))))
  ·rintro⟨xT,⟨hh,hn,ha⟩,hy⟩ hU;refine Cd (l':=[(0,rS s),(6,rP b1 0),(7,rS ([125]:Ae)),(8,rv hy),(9,Ak hn)]) (H':=[.blk b1 (Ac ha) 63,.row hy 63 4 (A1 Ac hh)]) Aa Aa ?_;obtain⟨hB,rfl,hV,hC,ht⟩:=Cz hU;replace hC:Hq F s h0 hh hn ha=some hV:=hC;unfold Hq at hC;refine Ai (ck hC λhW hX=>ck hX λhY hZ=>ck hZ λga gb=>AG [(0,rS s),(6,rP b1 0),(7,rS ([125]:Ae)),(8,rv hy),(9,Ak hn),(39,rB ((!(ov (B5 s hn ([125]:Ae))))||((decide (0<ha.fN))&&(decide ((Be s (hn-1))=44)))))] [.blk b1 (Ac ha) 63,.row hy 63 4 (A1 Ac hh)] ?_ ?_)
   ·refine Ah (wm Aa (wm Aa (wm Aa (Cn H9 (CO s hn ([125]:Ae) (ov (B5 s hn ([125]:Ae))) (GQ hW)) Aa (wv (BW Aa) (wm Aa (AO (!(ov (B5 s hn ([125]:Ae)))) (λhf=>?_) (λhf=>?_))))))))
    ·refine wf hf (wf hf (wf hf (wf hf (wu (wu (wu (wu (wu (wf hf (wv (r:=rB true) (Ax Aa hf Aa) (Aj ?_)))))))))));exact Cc hf
    ·refine wo hf (vF BA Aa Ct (wo hf (vL 0 Dm Aa (wo hf (wv (Cv Aa Aa) (wo hf (wm Aa (AO (decide (0<ha.fN)) (λhj=>?_) (λhj=>?_)))))))))
     ·refine wo hj (wm Aa (wo hj (wm Aa (wo hj (wv (G6 Aa Aa (Cr (Dw hY hf) hj)) (wo hj (wv (Bb BZ Aa Aa (Cr (Dw ga hf) hj)) (wo hj (wv (BE Aa Aa) (wo hf (En Aa hj Aa (Ea Aa hf Aa (Aj ?_)))))))))))));exact Cc (And.intro hf hj)
     ·refine wf hj (wf hj (wf hj (wf hj (wf hj (wo hf (wv (r:=rB false) (A7 Aa hj Aa) (Ea Aa hf Aa (Aj ?_))))))));exact Cc (And.intro hf hj)
   refine cz gb Aa (λgc gd=>?_) (λgc ge=>?_)
   ·refine Ap (AJ (AL (Ai (Af (vF BA Aa DQ (vL 0 Eh Aa (wv (BE Aa Aa) (Ao (cz gd Aa (λgf gg=>?_) (λgf gh=>?_))))))))))
    ·refine Af (wm Aa (wm Aa (ob gg λhd gi gj=>Cn Tryz.call128 (Iv F s hn hd gi) Aa (wm Aa (wv (AA Aa Aa) (wv (AA Aa Aa) (wa Aa (wa Aa (Ao (Ai (ck gj λgl gm=>AG [(0,rS s),(6,rP b1 0),(7,rS ([125]:Ae)),(8,rv hy),(10,rS hd.1),(11,Ak hd.2),(56,rB ((decide (hd.2<0))||(!(ov (B5 s hd.2 ([58]:Ae))))))] [.blk b1 (Ac ha) 63,.row hy 63 4 (A1 Ac hh)] ?_ ?_)))))))))))
     ·refine Ah (wm Aa (wv (Ch Aa Aa) (wm Aa (AO (decide (hd.2<0)) (λhl=>?_) (λhl=>?_)))))
      ·refine wf hl (wf hl (wf hl (wf hl (wv (r:=rB true) (Ax Aa hl Aa) (Aj ?_)))));exact Cc hl
      ·refine wo hl (wm Aa (wo hl (wm Aa (wo hl (Cn H9 (CO s hd.2 ([58]:Ae) (ov (B5 s hd.2 ([58]:Ae))) (GQ (Dw gl hl))) Aa (wo hl (wv (BW Aa) (Ea Aa hl Aa (Aj ?_)))))))));exact Cc hl
     refine cz gm Aa (λgp gq=>?_) (λgp gr=>?_)
     ·refine Af (wa Aa (wv (r:=Ak (-1)) (Av Aa) (Ao (As (Ad (Ad (A3 (Ad (Bc ?_)))))))));have gs:=Bz gq ht h1;refine A3 (Ad (WK.up (d:=4) (r:=AX 4 (A1 Ac ([]:List Ab))) Aa (Up.le (DZ.nil _)) ?_));obtain rfl:=At gs;exact Ar (CS Ju (AB Aa) (AB Aa)) (sS (sS sN)) ⟨Aa,Aa⟩
     ·refine Ap (AJ (Af (wm Aa (wm Aa (wv (r:=Bq [Ak 4,Ak 0,rS hd.1,Ak 0]) (EQ Aa Aa Aa Aa) (AQ (ys:=([(Ab.mk 4 0 hd.1 0)]:List Ab)) (enc:=Ac) (css:=[[Ak 4,Ak 0,rS hd.1,Ak 0]]) (xs:=[.tmp 59]) BK BU Eb Aa Aa Aa ⟨Eo.agg ⟨Up.refl _,Up.refl _,Up.refl _,Up.refl _,trivial⟩,trivial⟩ Aa AR Aa Aa Aa (λhK=>?_)))))));refine ck gr λgt gu=>Exists.elim E9 λinf hinf=>BL (xs:=hh) (ys:=([(Ab.mk 4 0 hd.1 0)]:List Ab)) (enc:=Ac) (i:=2) BK hinf.1 hinf.2.1 hinf.2.2.1 hinf.2.2.2 Aa Aa Aa Aa Aa (I5.w (i:=0) Aa Aa) AR BP gt Aa (λxU=>?_);refine wa Aa (Ao (Ah (wm Aa (ck gu λgv gw=>wv (Bh Aa Aa gv) (wa Aa (Bs (wm Aa (wm Aa (ob gw λho gx gy=>Cn Q8 (hA s (hd.2+1) ho gx) Aa (wm Aa (wv (AA Aa Aa) (wv (AA Aa Aa) (wa Aa (wa Aa (Ao (Ai (Af (wm Aa (wv (Ch Aa Aa) (Ao (cz gy Aa (λgz g0=>?_) (λgz g1=>?_))))))))))))))))))))))
      ·refine Af (wa Aa (wv (r:=Ak (-1)) (Av Aa) (Ao (As (Ad (A3 (Ad (Bc ?_))))))));have g3:=Bz g0 ht h1;refine A3 (Ad (WK.up (d:=4) (r:=AX 4 (A1 Ac ([]:List Ab))) Aa (Up.le (DZ.nil _)) ?_));obtain rfl:=At g3;exact Ar (CS Ju (AB Aa) (AB Aa)) (sS (sS (sS sN))) ⟨Aa,Aa⟩
      ·refine Ap (AJ (Af (wm Aa (wm Aa (ck g1 λg4 g5=>Exists.elim E9 λinf hinf=>BL (xs:=hh++([(Ab.mk 4 0 hd.1 0)]:List Ab)) (ys:=ho.1) (enc:=Ac) (i:=0) BK hinf.1 hinf.2.1 hinf.2.2.1 hinf.2.2.2 Aa Aa Aa Aa Aa (I5.z Aa Aa) AR BP g4 Aa (λh4=>?_))))));refine wa Aa (Bs (vF BA Aa Ct (vL 2 Dm Aa (ck g5 λg7 g8=>wv (Bh Aa Aa g7) (vF BA Aa Ct (BC (i:=2) Ct Aa Aa (Cl Aa) Aa Aa (cs':=[Ak ha.fKind,Ak ha.fInt,rS ha.fStr,Ak (ha.fN+1)]) Aa (H':=[.row h4 63 4 (A1 Ac ((hh++([(Ab.mk 4 0 hd.1 0)]:List Ab))++ho.1)),.row (.slice (some ⟨hK,0,none⟩) 1 1) 63 4 (A1 Ac ([(Ab.mk 4 0 hd.1 0)]:List Ab)),.blk b1 [Ak ha.fKind,Ak ha.fInt,rS ha.fStr,Ak (ha.fN+1)] 63]) Aa (Bs (wm Aa (wa Aa (Bs (wm Aa (wm Aa (ob g8 λg9 gA gB=>Cn H9 (CO s ho.2 ([44]:Ae) g9 gA) Aa (Ao (cz gB Aa (λgC gD=>?_) (λgC gE=>?_))))))))))))))))
       ·refine Ah (wm Aa (ck gD λgF gG=>wv (Bh Aa Aa gF) (wa Aa (Aj (AF (BO (H2:=[.blk b1 [Ak ha.fKind,Ak ha.fInt,rS ha.fStr,Ak (ha.fN+1)] 63,.row h4 63 4 (A1 Ac ((hh++([(Ab.mk 4 0 hd.1 0)]:List Ab))++ho.1)),.row (.slice (some ⟨hK,0,none⟩) 1 1) 63 4 (A1 Ac ([(Ab.mk 4 0 hd.1 0)]:List Ab))]) ((Al (i:=2) Aa).trans (Abe _ (Abg _))) ?_))))));have gH:=Bg gG ht;exact Au (AD (hB,((hh++([(Ab.mk 4 0 hd.1 0)]:List Ab))++ho.1,ho.2+1,(Ab.mk ha.fKind ha.fInt ha.fStr (ha.fN+1))),h4) ⟨gH,Abo _⟩ (AM.c5 Aa Aa Aa Aa Aa AM.nil) (sC (sC (sS sN))))
       ·refine Af (wm Aa (wm Aa (wm Aa (ob gE λgI gJ gK=>Cn H9 (CO s ho.2 ([125]:Ae) gI gJ) Aa (wv (BW Aa) (Ao (cz gK Aa (λgL gM=>?_) (λgL gN=>?_))))))))
        ·refine Af (wa Aa (wv (r:=Ak (-1)) (Av Aa) (Ao (As (A3 (Ad (Bc ?_)))))));have gO:=Bz gM ht h1;refine A3 (Ad (WK.up (d:=4) (r:=AX 4 (A1 Ac ([]:List Ab))) Aa (Up.le (DZ.nil _)) ?_));obtain rfl:=At gO;exact Ar (CS Ju (AB Aa) (AB Aa)) (sS (sS (sS sN))) ⟨Aa,Aa⟩
        ·refine Ap (AF (BO (H2:=[.blk b1 [Ak ha.fKind,Ak ha.fInt,rS ha.fStr,Ak (ha.fN+1)] 63,.row h4 63 4 (A1 Ac ((hh++([(Ab.mk 4 0 hd.1 0)]:List Ab))++ho.1)),.row (.slice (some ⟨hK,0,none⟩) 1 1) 63 4 (A1 Ac ([(Ab.mk 4 0 hd.1 0)]:List Ab))]) ((Al (i:=2) Aa).trans (Abe _ (Abg _))) ?_));have gP:=Bg gN ht;exact Au (AD (hB,((hh++([(Ab.mk 4 0 hd.1 0)]:List Ab))++ho.1,ho.2,(Ab.mk ha.fKind ha.fInt ha.fStr (ha.fN+1))),h4) ⟨gP,Abo _⟩ (AM.c5 Aa Aa Aa Aa Aa AM.nil) (sC (sC (sS sN))))
    ·refine Ap (AJ (Af (wm Aa (wm Aa (ob gh λhp gQ gR=>Cn Q8 (hA s hn hp gQ) Aa (wm Aa (wv (AA Aa Aa) (wv (AA Aa Aa) (wa Aa (wa Aa (Ao (Ai (Af (wm Aa (wv (Ch Aa Aa) (Ao (cz gR Aa (λgS gT=>?_) (λgS gU=>?_))))))))))))))))))
     ·refine Af (wa Aa (wv (r:=Ak (-1)) (Av Aa) (Ao (As (Ad (A3 (Ad (Bc ?_))))))));have gV:=Bz gT ht h1;refine A3 (Ad (WK.up (d:=4) (r:=AX 4 (A1 Ac ([]:List Ab))) Aa (Up.le (DZ.nil _)) ?_));obtain rfl:=At gV;exact Ar (CS Ju (AB Aa) (AB Aa)) (sS (sS sN)) ⟨Aa,Aa⟩
     ·refine Ap (AJ (Af (wm Aa (wm Aa (ck gU λgW gX=>Exists.elim E9 λinf hinf=>BL (xs:=hh) (ys:=hp.1) (enc:=Ac) (i:=1) BK hinf.1 hinf.2.1 hinf.2.2.1 hinf.2.2.2 Aa Aa Aa Aa Aa (I5.z Aa Aa) AR BP gW Aa (λh6=>?_))))));refine wa Aa (Bs (vF BA Aa Ct (vL 1 Dm Aa (ck gX λgY gZ=>wv (Bh Aa Aa gY) (vF BA Aa Ct (BC (i:=1) Ct Aa Aa (Cl Aa) Aa Aa (cs':=[Ak ha.fKind,Ak ha.fInt,rS ha.fStr,Ak (ha.fN+1)]) Aa (H':=[.row h6 63 4 (A1 Ac (hh++hp.1)),.blk b1 [Ak ha.fKind,Ak ha.fInt,rS ha.fStr,Ak (ha.fN+1)] 63]) Aa (Bs (wm Aa (wa Aa (Bs (wm Aa (wm Aa (ob gZ λca cb cc=>Cn H9 (CO s hp.2 ([44]:Ae) ca cb) Aa (Ao (cz cc Aa (λcd ce=>?_) (λcd cf=>?_))))))))))))))))
      ·refine Ah (wm Aa (ck ce λcg ch=>wv (Bh Aa Aa cg) (wa Aa (Aj (AF (BO (H2:=[.blk b1 [Ak ha.fKind,Ak ha.fInt,rS ha.fStr,Ak (ha.fN+1)] 63,.row h6 63 4 (A1 Ac (hh++hp.1))]) ((Al (i:=1) Aa).trans (Abe _ (Abg _))) ?_))))));have ci:=Bg ch ht;exact Au (AD (hB,(hh++hp.1,hp.2+1,(Ab.mk ha.fKind ha.fInt ha.fStr (ha.fN+1))),h6) ⟨ci,Abo _⟩ (AM.c5 Aa Aa Aa Aa Aa AM.nil) (sC (sC sN)))
      ·refine Af (wm Aa (wm Aa (wm Aa (ob cf λcj cl cm=>Cn H9 (CO s hp.2 ([125]:Ae) cj cl) Aa (wv (BW Aa) (Ao (cz cm Aa (λcn co=>?_) (λcn cp=>?_))))))))
       ·refine Af (wa Aa (wv (r:=Ak (-1)) (Av Aa) (Ao (As (A3 (Ad (Bc ?_)))))));have cq:=Bz co ht h1;refine A3 (Ad (WK.up (d:=4) (r:=AX 4 (A1 Ac ([]:List Ab))) Aa (Up.le (DZ.nil _)) ?_));obtain rfl:=At cq;exact Ar (CS Ju (AB Aa) (AB Aa)) (sS (sS sN)) ⟨Aa,Aa⟩
       ·refine Ap (AF (BO (H2:=[.blk b1 [Ak ha.fKind,Ak ha.fInt,rS ha.fStr,Ak (ha.fN+1)] 63,.row h6 63 4 (A1 Ac (hh++hp.1))]) ((Al (i:=1) Aa).trans (Abe _ (Abg _))) ?_));have cr:=Bg cp ht;exact Au (AD (hB,(hh++hp.1,hp.2,(Ab.mk ha.fKind ha.fInt ha.fStr (ha.fN+1))),h6) ⟨cr,Abo _⟩ (AM.c5 Aa Aa Aa Aa Aa AM.nil) (sC (sC sN)))
   ·refine BB (A2 ?_);have ct:=Cb ge ht h1;exact A2 (Bn (AD ((hh,hn,ha),hy) ct (AM.c Aa (AM.c Aa (AM.c Aa AM.nil))) (sC (sC sN))))
  ·rintro⟨⟨hD,hN,hw⟩,hO⟩ hE;refine C4 (l':=[(6,rP b1 0),(8,rv hO),(9,Ak hN)]) (H':=[.blk b1 (Ac hw) 63,.row hO 63 4 (A1 Ac hD)]) Aa Aa ?_;replace hE:Hn hD hN hw=some r:=hE;unfold Hn at hE;refine Bi (AJ (Af (wv (Bw (i:=0) J7 BU Aa Aa Aa Aa) (AQ (ys:=([hw]:List Ab)) (enc:=Ac) (css:=[[Ak hw.fKind,Ak hw.fInt,rS hw.fStr,Ak hw.fN]]) (xs:=[.tmp 90]) BK BU Eb Aa Aa Aa ⟨Eo.agg ⟨Up.refl _,Up.refl _,Up.refl _,Up.refl _,trivial⟩,trivial⟩ Aa AR Aa Aa Aa (λxV=>?_)))));refine wa Aa (Bs (wm Aa (wm Aa (ck hE λcu cv=>Exists.elim E9 λinf hinf=>BL (xs:=([hw]:List Ab)) (ys:=hD) (enc:=Ac) (i:=0) BK hinf.1 hinf.2.1 hinf.2.2.1 hinf.2.2.2 Aa Aa Aa Aa Aa (I5.w (i:=2) Aa Aa) AR BP cu Aa (λxW=>?_)))));refine wa Aa (Bs (wm Aa (wm Aa (ck cv λcw cx=>wv (Bh Aa Aa cw) (wa Aa (wa Aa (Ao (As (WK.freeze (i:=0) Aa (WK.up (d:=4) (r:=AX 4 (A1 Ac (([hw]:List Ab)++hD))) Aa (Up.fact (i:=0) Aa) ?_))))))))));obtain rfl:=At cx;exact Ar (CS Ju (AB Aa) (AB Aa)) (sS (sS (sS sN))) ⟨Aa,Aa⟩
 ·refine Ap (AJ (Af (wa Aa (Bs (wm Aa (ck hR λcy c0=>wv (Bh Aa Aa cy) (wa Aa (Ao (Ai (AL (WC.nilrow (e:=63) (sz:=4) (GH (H2:=[.blk b1 [Ak 5,Ak 0,rS ([]:Ae),Ak 0] 63,.row (.slice none 0 0                                                               ) 63 4 (A1 Ac ([]:List Ab))]) ((Al (i:=1) Aa).trans (Abe _ (Abg _))) (ob c0 λc1 c2 h2=>B4 (S:=Nat×((List Ab)×Int×Ab)×(Value)) (V:=((List Ab)×Int×Ab)×(Value)) 0 (λσ=>Ca (λσ=>Hp F s h0 σ.1 σ.2.1 σ.2.2) σ.1 σ.2.1=some c1) (λσ=>[(0,rS s),(6,rP b1 0),(7,rS ([93]:Ae)),(8,rv σ.2.2),(9,Ak σ.2.1.2.1)]) (λσ=>[.blk b1 (Ac σ.2.1.2.2) 63,.row σ.2.2 63 4 (A1 Ac σ.2.1.1)]) (λσ=>σ.1) (F,(([]:List Ab),at_+1,(Ab.mk 5 0 ([]:Ae) 0)),(.slice none 0 0                                                               )) c2 (AM.c5 Aa Aa Aa Aa Aa AM.nil) (sC (sC sN)) (λσ=>Hm σ.1.1 σ.1.2.1 σ.1.2.2=some r) (λσ=>[(6,rP b1 0),(8,rv σ.2),(9,Ak σ.1.2.1)]) (λσ=>[.blk b1 (Ac σ.1.2.2) 63,.row σ.2 63 4 (A1 Ac σ.1.1)]) ?_ ?_)))))))))))))
  ·rintro⟨xX,⟨hi,hq,hb⟩,hz⟩ c3;refine Cd (l':=[(0,rS s),(6,rP b1 0),(7,rS ([93]:Ae)),(8,rv hz),(9,Ak hq)]) (H':=[.blk b1 (Ac hb) 63,.row hz 63 4 (A1 Ac hi)]) Aa Aa ?_;obtain⟨hG,rfl,c6,hH,hu⟩:=Cz c3;replace hH:Hp F s h0 hi hq hb=some c6:=hH;unfold Hp at hH;refine Ai (ck hH λc7 c8=>ck c8 λc9 cA=>ck cA λcB cC=>AG [(0,rS s),(6,rP b1 0),(7,rS ([93]:Ae)),(8,rv hz),(9,Ak hq),(39,rB ((!(ov (B5 s hq ([93]:Ae))))||((decide (0<hb.fN))&&(decide ((Be s (hq-1))=44)))))] [.blk b1 (Ac hb) 63,.row hz 63 4 (A1 Ac hi)] ?_ ?_)
   ·refine Ah (wm Aa (wm Aa (wm Aa (Cn H9 (CO s hq ([93]:Ae) (ov (B5 s hq ([93]:Ae))) (GQ c7)) Aa (wv (BW Aa) (wm Aa (AO (!(ov (B5 s hq ([93]:Ae)))) (λhg=>?_) (λhg=>?_))))))))
    ·refine wf hg (wf hg (wf hg (wf hg (wu (wu (wu (wu (wu (wf hg (wv (r:=rB true) (Ax Aa hg Aa) (Aj ?_)))))))))));exact Cc hg
    ·refine wo hg (vF BA Aa Ct (wo hg (vL 0 Dm Aa (wo hg (wv (Cv Aa Aa) (wo hg (wm Aa (AO (decide (0<hb.fN)) (λhk=>?_) (λhk=>?_)))))))))
     ·refine wo hk (wm Aa (wo hk (wm Aa (wo hk (wv (G6 Aa Aa (Cr (Dw c9 hg) hk)) (wo hk (wv (Bb BZ Aa Aa (Cr (Dw cB hg) hk)) (wo hk (wv (BE Aa Aa) (wo hg (En Aa hk Aa (Ea Aa hg Aa (Aj ?_)))))))))))));exact Cc (And.intro hg hk)
     ·refine wf hk (wf hk (wf hk (wf hk (wf hk (wo hg (wv (r:=rB false) (A7 Aa hk Aa) (Ea Aa hg Aa (Aj ?_))))))));exact Cc (And.intro hg hk)
   refine cz cC Aa (λcD cE=>?_) (λcD cF=>?_)
   ·refine Ap (AJ (AL (Ai (Af (vF BA Aa DQ (vL 0 Eh Aa (wv (BE Aa Aa) (Ao (cz cE Aa (λcG cH=>?_) (λcG cI=>?_))))))))))
    ·refine Af (wm Aa (wm Aa (ob cH λhe cJ cK=>Cn Tryz.call128 (Iv F s hq he cJ) Aa (wm Aa (wv (AA Aa Aa) (wv (AA Aa Aa) (wa Aa (wa Aa (Ao (Ai (ck cK λcL cM=>AG [(0,rS s),(6,rP b1 0),(7,rS ([93]:Ae)),(8,rv hz),(10,rS he.1),(11,Ak he.2),(56,rB ((decide (he.2<0))||(!(ov (B5 s he.2 ([58]:Ae))))))] [.blk b1 (Ac hb) 63,.row hz 63 4 (A1 Ac hi)] ?_ ?_)))))))))))
     ·refine Ah (wm Aa (wv (Ch Aa Aa) (wm Aa (AO (decide (he.2<0)) (λhm=>?_) (λhm=>?_)))))
      ·refine wf hm (wf hm (wf hm (wf hm (wv (r:=rB true) (Ax Aa hm Aa) (Aj ?_)))));exact Cc hm
      ·refine wo hm (wm Aa (wo hm (wm Aa (wo hm (Cn H9 (CO s he.2 ([58]:Ae) (ov (B5 s he.2 ([58]:Ae))) (GQ (Dw cL hm))) Aa (wo hm (wv (BW Aa) (Ea Aa hm Aa (Aj ?_)))))))));exact Cc hm
     refine cz cM Aa (λcN cO=>?_) (λcN cP=>?_)
     ·refine Af (wa Aa (wv (r:=Ak (-1)) (Av Aa) (Ao (As (Ad (Ad (A3 (Ad (Bc ?_)))))))));have cQ:=Bz cO hu h2;refine A3 (Ad (WK.up (d:=4) (r:=AX 4 (A1 Ac ([]:List Ab))) Aa (Up.le (DZ.nil _)) ?_));obtain rfl:=At cQ;exact Ar (CS Ju (AB Aa) (AB Aa)) (sS (sS sN)) ⟨Aa,Aa⟩
     ·refine Ap (AJ (Af (wm Aa (wm Aa (wv (r:=Bq [Ak 4,Ak 0,rS he.1,Ak 0]) (EQ Aa Aa Aa Aa) (AQ (ys:=([(Ab.mk 4 0 he.1 0)]:List Ab)) (enc:=Ac) (css:=[[Ak 4,Ak 0,rS he.1,Ak 0]]) (xs:=[.tmp 59]) BK BU Eb Aa Aa Aa ⟨Eo.agg ⟨Up.refl _,Up.refl _,Up.refl _,Up.refl _,trivial⟩,trivial⟩ Aa AR Aa Aa Aa (λhL=>?_)))))));refine ck cP λcR cS=>Exists.elim E9 λinf hinf=>BL (xs:=hi) (ys:=([(Ab.mk 4 0 he.1 0)]:List Ab)) (enc:=Ac) (i:=2) BK hinf.1 hinf.2.1 hinf.2.2.1 hinf.2.2.2 Aa Aa Aa Aa Aa (I5.w (i:=0) Aa Aa) AR BP cR Aa (λxY=>?_);refine wa Aa (Ao (Ah (wm Aa (ck cS λcT cU=>wv (Bh Aa Aa cT) (wa Aa (Bs (wm Aa (wm Aa (ob cU λhr cV cW=>Cn Q8 (hA s (he.2+1) hr cV) Aa (wm Aa (wv (AA Aa Aa) (wv (AA Aa Aa) (wa Aa (wa Aa (Ao (Ai (Af (wm Aa (wv (Ch Aa Aa) (Ao (cz cW Aa (λcX cY=>?_) (λcX cZ=>?_))))))))))))))))))))))
      ·refine Af (wa Aa (wv (r:=Ak (-1)) (Av Aa) (Ao (As (Ad (A3 (Ad (Bc ?_))))))));have xa:=Bz cY hu h2;refine A3 (Ad (WK.up (d:=4) (r:=AX 4 (A1 Ac ([]:List Ab))) Aa (Up.le (DZ.nil _)) ?_));obtain rfl:=At xa;exact Ar (CS Ju (AB Aa) (AB Aa)) (sS (sS (sS sN))) ⟨Aa,Aa⟩
      ·refine Ap (AJ (Af (wm Aa (wm Aa (ck cZ λxb xc=>Exists.elim E9 λinf hinf=>BL (xs:=hi++([(Ab.mk 4 0 he.1 0)]:List Ab)) (ys:=hr.1) (enc:=Ac) (i:=0) BK hinf.1 hinf.2.1 hinf.2.2.1 hinf.2.2.2 Aa Aa Aa Aa Aa (I5.z Aa Aa) AR BP xb Aa (λh8=>?_))))));refine wa Aa (Bs (vF BA Aa Ct (vL 2 Dm Aa (ck xc λxd xe=>wv (Bh Aa Aa xd) (vF BA Aa Ct (BC (i:=2) Ct Aa Aa (Cl Aa) Aa Aa (cs':=[Ak hb.fKind,Ak hb.fInt,rS hb.fStr,Ak (hb.fN+1)]) Aa (H':=[.row h8 63 4 (A1 Ac ((hi++([(Ab.mk 4 0 he.1 0)]:List Ab))++hr.1)),.row (.slice (some ⟨hL,0,none⟩) 1 1) 63 4 (A1 Ac ([(Ab.mk 4 0 he.1 0)]:List Ab)),.blk b1 [Ak hb.fKind,Ak hb.fInt,rS hb.fStr,Ak (hb.fN+1)] 63]) Aa (Bs (wm Aa (wa Aa (Bs (wm Aa (wm Aa (ob xe λxf xg xh=>Cn H9 (CO s hr.2 ([44]:Ae) xf xg) Aa (Ao (cz xh Aa (λxi xj=>?_) (λxi xk=>?_))))))))))))))))
       ·refine Ah (wm Aa (ck xj λxl xm=>wv (Bh Aa Aa xl) (wa Aa (Aj (AF (BO (H2:=[.blk b1 [Ak hb.fKind,Ak hb.fInt,rS hb.fStr,Ak (hb.fN+1)] 63,.row h8 63 4 (A1 Ac ((hi++([(Ab.mk 4 0 he.1 0)]:List Ab))++hr.1)),.row (.slice (some ⟨hL,0,none⟩) 1 1) 63 4 (A1 Ac ([(Ab.mk 4 0 he.1 0)]:List Ab))]) ((Al (i:=2) Aa).trans (Abe _ (Abg _))) ?_))))));have xn:=Bg xm hu;exact Au (AD (hG,((hi++([(Ab.mk 4 0 he.1 0)]:List Ab))++hr.1,hr.2+1,(Ab.mk hb.fKind hb.fInt hb.fStr (hb.fN+1))),h8) ⟨xn,Abo _⟩ (AM.c5 Aa Aa Aa Aa Aa AM.nil) (sC (sC (sS sN))))
       ·refine Af (wm Aa (wm Aa (wm Aa (ob xk λxo xp xq=>Cn H9 (CO s hr.2 ([93]:Ae) xo xp) Aa (wv (BW Aa) (Ao (cz xq Aa (λxr xt=>?_) (λxr xu=>?_))))))))
        ·refine Af (wa Aa (wv (r:=Ak (-1)) (Av Aa) (Ao (As (A3 (Ad (Bc ?_)))))));have xv:=Bz xt hu h2;refine A3 (Ad (WK.up (d:=4) (r:=AX 4 (A1 Ac ([]:List Ab))) Aa (Up.le (DZ.nil _)) ?_));obtain rfl:=At xv;exact Ar (CS Ju (AB Aa) (AB Aa)) (sS (sS (sS sN))) ⟨Aa,Aa⟩
        ·refine Ap (AF (BO (H2:=[.blk b1 [Ak hb.fKind,Ak hb.fInt,rS hb.fStr,Ak (hb.fN+1)] 63,.row h8 63 4 (A1 Ac ((hi++([(Ab.mk 4 0 he.1 0)]:List Ab))++hr.1)),.row (.slice (some ⟨hL,0,none⟩) 1 1) 63 4 (A1 Ac ([(Ab.mk 4 0 he.1 0)]:List Ab))]) ((Al (i:=2) Aa).trans (Abe _ (Abg _))) ?_));have xw:=Bg xu hu;exact Au (AD (hG,((hi++([(Ab.mk 4 0 he.1 0)]:List Ab))++hr.1,hr.2,(Ab.mk hb.fKind hb.fInt hb.fStr (hb.fN+1))),h8) ⟨xw,Abo _⟩ (AM.c5 Aa Aa Aa Aa Aa AM.nil) (sC (sC (sS sN))))
    ·refine Ap (AJ (Af (wm Aa (wm Aa (ob cI λhs xx xy=>Cn Q8 (hA s hq hs xx) Aa (wm Aa (wv (AA Aa Aa) (wv (AA Aa Aa) (wa Aa (wa Aa (Ao (Ai (Af (wm Aa (wv (Ch Aa Aa) (Ao (cz xy Aa (λxz x0=>?_) (λxz x1=>?_))))))))))))))))))
     ·refine Af (wa Aa (wv (r:=Ak (-1)) (Av Aa) (Ao (As (Ad (A3 (Ad (Bc ?_))))))));have x2:=Bz x0 hu h2;refine A3 (Ad (WK.up (d:=4) (r:=AX 4 (A1 Ac ([]:List Ab))) Aa (Up.le (DZ.nil _)) ?_));obtain rfl:=At x2;exact Ar (CS Ju (AB Aa) (AB Aa)) (sS (sS sN)) ⟨Aa,Aa⟩
     ·refine Ap (AJ (Af (wm Aa (wm Aa (ck x1 λx3 x4=>Exists.elim E9 λinf hinf=>BL (xs:=hi) (ys:=hs.1) (enc:=Ac) (i:=1) BK hinf.1 hinf.2.1 hinf.2.2.1 hinf.2.2.2 Aa Aa Aa Aa Aa (I5.z Aa Aa) AR BP x3 Aa (λh9=>?_))))));refine wa Aa (Bs (vF BA Aa Ct (vL 1 Dm Aa (ck x4 λx5 x6=>wv (Bh Aa Aa x5) (vF BA Aa Ct (BC (i:=1) Ct Aa Aa (Cl Aa) Aa Aa (cs':=[Ak hb.fKind,Ak hb.fInt,rS hb.fStr,Ak (hb.fN+1)]) Aa (H':=[.row h9 63 4 (A1 Ac (hi++hs.1)),.blk b1 [Ak hb.fKind,Ak hb.fInt,rS hb.fStr,Ak (hb.fN+1)] 63]) Aa (Bs (wm Aa (wa Aa (Bs (wm Aa (wm Aa (ob x6 λx7 x8 x9=>Cn H9 (CO s hs.2 ([44]:Ae) x7 x8) Aa (Ao (cz x9 Aa (λxA xB=>?_) (λxA xC=>?_))))))))))))))))
      ·refine Ah (wm Aa (ck xB λxD xE=>wv (Bh Aa Aa xD) (wa Aa (Aj (AF (BO (H2:=[.blk b1 [Ak hb.fKind,Ak hb.fInt,rS hb.fStr,Ak (hb.fN+1)] 63,.row h9 63 4 (A1 Ac (hi++hs.1))]) ((Al (i:=1) Aa).trans (Abe _ (Abg _))) ?_))))));have xF:=Bg xE hu;exact Au (AD (hG,(hi++hs.1,hs.2+1,(Ab.mk hb.fKind hb.fInt hb.fStr (hb.fN+1))),h9) ⟨xF,Abo _⟩ (AM.c5 Aa Aa Aa Aa Aa AM.nil) (sC (sC sN)))
      ·refine Af (wm Aa (wm Aa (wm Aa (ob xC λxG xH xI=>Cn H9 (CO s hs.2 ([93]:Ae) xG xH) Aa (wv (BW Aa) (Ao (cz xI Aa (λxJ xK=>?_) (λxJ xL=>?_))))))))
       ·refine Af (wa Aa (wv (r:=Ak (-1)) (Av Aa) (Ao (As (A3 (Ad (Bc ?_)))))));have xM:=Bz xK hu h2;refine A3 (Ad (WK.up (d:=4) (r:=AX 4 (A1 Ac ([]:List Ab))) Aa (Up.le (DZ.nil _)) ?_));obtain rfl:=At xM;exact Ar (CS Ju (AB Aa) (AB Aa)) (sS (sS sN)) ⟨Aa,Aa⟩
       ·refine Ap (AF (BO (H2:=[.blk b1 [Ak hb.fKind,Ak hb.fInt,rS hb.fStr,Ak (hb.fN+1)] 63,.row h9 63 4 (A1 Ac (hi++hs.1))]) ((Al (i:=1) Aa).trans (Abe _ (Abg _))) ?_));have xN:=Bg xL hu;exact Au (AD (hG,(hi++hs.1,hs.2,(Ab.mk hb.fKind hb.fInt hb.fStr (hb.fN+1))),h9) ⟨xN,Abo _⟩ (AM.c5 Aa Aa Aa Aa Aa AM.nil) (sC (sC sN)))
   ·refine BB (A2 ?_);have xO:=Cb cF hu h2;exact A2 (Bn (AD ((hi,hq,hb),hz) xO (AM.c Aa (AM.c Aa (AM.c Aa AM.nil))) (sC (sC sN))))
  ·rintro⟨⟨hI,hP,hx⟩,hQ⟩ hJ;refine C4 (l':=[(6,rP b1 0),(8,rv hQ),(9,Ak hP)]) (H':=[.blk b1 (Ac hx) 63,.row hQ 63 4 (A1 Ac hI)]) Aa Aa ?_;replace hJ:Hm hI hP hx=some r:=hJ;unfold Hm at hJ;refine Bi (AJ (Af (wv (Bw (i:=0) J7 BU Aa Aa Aa Aa) (AQ (ys:=([hx]:List Ab)) (enc:=Ac) (css:=[[Ak hx.fKind,Ak hx.fInt,rS hx.fStr,Ak hx.fN]]) (xs:=[.tmp 90]) BK BU Eb Aa Aa Aa ⟨Eo.agg ⟨Up.refl _,Up.refl _,Up.refl _,Up.refl _,trivial⟩,trivial⟩ Aa AR Aa Aa Aa (λxZ=>?_)))));refine wa Aa (Bs (wm Aa (wm Aa (ck hJ λxP xQ=>Exists.elim E9 λinf hinf=>BL (xs:=([hx]:List Ab)) (ys:=hI) (enc:=Ac) (i:=0) BK hinf.1 hinf.2.1 hinf.2.2.1 hinf.2.2.2 Aa Aa Aa Aa Aa (I5.w (i:=2) Aa Aa) AR BP xP Aa (λva=>?_)))));refine wa Aa (Bs (wm Aa (wm Aa (ck xQ λxR xS=>wv (Bh Aa Aa xR) (wa Aa (wa Aa (Ao (As (WK.freeze (i:=0) Aa (WK.up (d:=4) (r:=AX 4 (A1 Ac (([hx]:List Ab)++hI))) Aa (Up.fact (i:=0) Aa) ?_))))))))));obtain rfl:=At xS;exact Ar (CS Ju (AB Aa) (AB Aa)) (sS (sS (sS sN))) ⟨Aa,Aa⟩
theorem Mh:∀F:Nat,(∀(s:Ae) (at_:Int) (r:(List Ab)×Int),Hd F s at_=some r→Fn Tryz.prog GE 102 [rS s,Ak at_] [] (λR H=>R=Cs [AX 4 (A1 Ac r.1),Ak r.2]∧H=[]))∧(∀(s:Ae) (at_:Int) (r:(List Ab)×Int),DF F s at_=some r→Fn Tryz.prog GE 129 [rS s,Ak at_] [] (λR H=>R=Cs [AX 4 (A1 Ac r.1),Ak r.2]∧H=[]))
  | 0=>⟨(λ_ _ _ h=>by simp[Hd] at h),(λ_ _ _ h=>by simp[DF] at h)⟩
  | nn+1=>⟨(λs at_ r h=>VZ nn (DF nn) (Mh nn).2 s at_ r (by rw[Hd] at h;exact h)),(λs at_ r h=>PE nn (Hd nn) (Mh nn).1 s at_ r (by rw[DF] at h;exact h))⟩
theorem Yh (F:Nat)(s:Ae)(at_:Int)(r:(List Ab)×Int)(h:Hd F s at_=some r):Fn Tryz.prog GE 102 [rS s,Ak at_] [] (λR H=>R=Cs [AX 4 (A1 Ac r.1),Ak r.2]∧H=[]):=(Mh F).1 s at_ r h
theorem U7 (F:Nat)(s:Ae)(r:(List Ab)×Int)(h:L2 F s=some r):Fn Tryz.prog GE 71 [rS s] [] (λR H=>R=Cs [AX 4 (A1 Ac r.1),Ak r.2]∧H=[]):=by
 refine enter (n:=22) Tryz.func71 Aa Tryz.ntmps71 Aa (λw Z=>?_);unfold L2 at h;refine Af (wa Aa (wa Aa (Ao (Ai (Af (wm Aa (wv (Bm BZ Aa) (wv (Cv Aa Aa) (Ao (cz h Aa (λc1 h2=>?_) (λc1 h3=>?_)))))))))))
 ·refine Af (wa Aa (wa Aa (Ao (As (Ad (WK.up (d:=2) (r:=AX 4 (A1 Ac ([]:List Ab))) Aa (Up.le (DZ.nil _)) ?_))))));obtain rfl:=At h2;exact Ar (CS Tryz.results71 (AB Aa) (AB Aa)) sN ⟨Aa,Aa⟩
 ·refine Ap (AJ (Af (wm Aa (ob h3 λr4 e6 h5=>Cn Q8 (Yh F s 0 r4 e6) Aa (wm Aa (wv (AA Aa Aa) (wv (AA Aa Aa) (wa Aa (wa Aa (Ao (Ai (Af (wm Aa (wm Aa (wv (Bm BZ Aa) (wv (CR Aa Aa) (Ao (cz h5 Aa (λc7 h8=>?_) (λc7 h9=>?_)))))))))))))))))))
  ·refine Af (wa Aa (wa Aa (Ao (As (Ad (WK.up (d:=2) (r:=AX 4 (A1 Ac ([]:List Ab))) Aa (Up.le (DZ.nil _)) ?_))))));obtain rfl:=At h8;exact Ar (CS Tryz.results71 (AB Aa) (AB Aa)) sN ⟨Aa,Aa⟩
  ·refine Ap (AJ (Af (wm Aa (ob h9 λha hb hd=>Cn Tryz.call103 (S5 F r4.1 ha hb) Aa (wv (AA Aa Aa) (wv (AA Aa Aa) (wa Aa (wa Aa (Ao (As ?_))))))))));obtain rfl:=At hd;exact Ar (CS Tryz.results71 (AB Aa) (AB Aa)) sN ⟨Aa,Aa⟩
end Go.Proofs.YtogdediiodmnbaaGreatDoor.Q
namespace Go.Proofs.YtogdediiodmnbaaGreatDoor
open Go
def MS (k:IntKind)(x y:Int):Int:=k.wrap ((BitVec.ofInt k.bits x||| BitVec.ofInt k.bits y).toNat:Int)
def G2 (k:IntKind)(x n:Int):Int:=k.wrap (x*2 ^ (min n.toNat k.bits))
def KZ (k:IntKind)(x n:Int):Int:=x.fdiv (2 ^ (min n.toNat k.bits))
set_option linter.unusedVariables false
def GV (fields:(List Ae))(hb:(List Int))(ha:Int):Option (Stp ((List Int)×Int) (Out (Ae×Int) ((List Int)))):=
 Bl (decide (ha<(fields.length:Int))) (AY (Cp ha (fields.length:Int))<|Bl (decide (4000<((Am fields ha).length:Int))) (some (.out (.ret (([]:Ae),3)))) (AY (Dz 1 (hb.length+([IntKind.wrap .u8 (KZ .i64 ((Am fields ha).length:Int) 8),IntKind.wrap .u8 ((Am fields ha).length:Int)]:List Int).length))<|AY (Dz 1 ((hb++([IntKind.wrap .u8 (KZ .i64 ((Am fields ha).length:Int) 8),IntKind.wrap .u8 ((Am fields ha).length:Int)]:List Int)).length+(Am fields ha).length))<|AY (B2 .i64 (ha+1))<|some (.next ((hb++([IntKind.wrap .u8 (KZ .i64 ((Am fields ha).length:Int) 8),IntKind.wrap .u8 ((Am fields ha).length:Int)]:List Int))++D9 (Am fields ha),ha+1)))) (some (.out (.go hb)))
def LS (ha:(List Int)):Option (Ae×Int):=
 some (Qs ha,0)
def RF (F:Nat)(fields:(List Ae)):Option (Ae×Int):=
 Bl (decide (64<(fields.length:Int))) (some (([]:Ae),3)) (B0 (Ca (λσ=>GV fields σ.1 σ.2) F (([IntKind.wrap .u8 (fields.length:Int)]:List Int),0)) (BT λν=>LS ν))
def DY (ha:Int):Option ((List Ae)×Int):=
 some (([]:List Ae),ha)
def CP (s:Ae)(ha:Ae)(hb:(List Ae))(hh:Int)(hd:Int):Option (Stp (Ae×(List Ae)×Int×Int) (Out ((List Ae)×Int) (Ae×(List Ae)))):=
 Bl (decide (hd<(Be s 0))) (Bl (decide ((ha.length:Int)<2)) (B0 (DY 14) λhe=>some (.out (.ret he))) (AY (Cp 0 (ha.length:Int))<|AY (B2 .i64 (Be ha 0))<|AY (Cp 1 (ha.length:Int))<|AY (B2 .i64 (Be ha 1))<|AY (HX 2 (ha.length:Int))<|Bl (decide (4000<(MS .i64 (G2 .i64 (Be ha 0) 8) (Be ha 1)))) (B0 (DY 13) λhf=>some (.out (.ret hf))) (Bl (decide (((List.drop (Int.toNat 2) ha).length:Int)<(MS .i64 (G2 .i64 (Be ha 0) 8) (Be ha 1)))) (B0 (DY 14) λhg=>some (.out (.ret hg))) (AY (HX (MS .i64 (G2 .i64 (Be ha 0) 8) (Be ha 1)) ((List.drop (Int.toNat 2) ha).length:Int))<|AY (Dz 16 (hb.length+([List.take (Int.toNat (MS .i64 (G2 .i64 (Be ha 0) 8) (Be ha 1))) (List.drop (Int.toNat 2) ha)]:List Ae).length))<|AY (B2 .i64 (hd+1))<|some (.next (List.drop (Int.toNat (MS .i64 (G2 .i64 (Be ha 0) 8) (Be ha 1))) (List.drop (Int.toNat 2) ha),hb++([List.take (Int.toNat (MS .i64 (G2 .i64 (Be ha 0) 8) (Be ha 1))) (List.drop (Int.toNat 2) ha)]:List Ae),MS .i64 (G2 .i64 (Be ha 0) 8) (Be ha 1),hd+1)))))) (some (.out (.go (ha,hb))))
def Ga (hb:Ae)(ha:(List Ae)):Option ((List Ae)×Int):=
 Bl (!decide (hb=([]:Ae))) (DY 13) (AY (HX (ha.length:Int) (ha.length:Int))<|some (List.take (Int.toNat (ha.length:Int)) ha,0))
def LR (F:Nat)(s:Ae):Option ((List Ae)×Int):=
 Bl (decide (s=([]:Ae))) (DY 14) (AY (Cp 0 (s.length:Int))<|AY (B2 .i64 (Be s 0))<|AY (HX 1 (s.length:Int))<|Bl (decide (64<(Be s 0))) (DY 13) (B0 (Ca (λσ=>CP s σ.1 σ.2.1 σ.2.2.1 σ.2.2.2) F (List.drop (Int.toNat 1) s,([]:List Ae),0,0)) (BT λν=>Ga ν.1 ν.2)))
def Gk (fields:(List Ae))(hb:(List Int))(ha:Int):Option (Stp ((List Int)×Int) (Out (Ae×Int) ((List Int)))):=
 Bl (decide (ha<(fields.length:Int))) (AY (Cp ha (fields.length:Int))<|Bl (decide (4000<((Am fields ha).length:Int))) (some (.out (.ret (([]:Ae),3)))) (AY (B2 .i64 (Int.tdiv ((Am fields ha).length:Int) 256))<|AY (Dz 1 (hb.length+([IntKind.wrap .u8 (Int.tdiv ((Am fields ha).length:Int) 256),IntKind.wrap .u8 (Int.tmod ((Am fields ha).length:Int) 256)]:List Int).length))<|AY (Dz 1 ((hb++([IntKind.wrap .u8 (Int.tdiv ((Am fields ha).length:Int) 256),IntKind.wrap .u8 (Int.tmod ((Am fields ha).length:Int) 256)]:List Int)).length+(Am fields ha).length))<|AY (B2 .i64 (ha+1))<|some (.next ((hb++([IntKind.wrap .u8 (Int.tdiv ((Am fields ha).length:Int) 256),IntKind.wrap .u8 (Int.tmod ((Am fields ha).length:Int) 256)]:List Int))++D9 (Am fields ha),ha+1)))) (some (.out (.go hb)))
def Ke (ha:(List Int)):Option (Ae×Int):=
 some (Qs ha,0)
def NO (F:Nat)(fields:(List Ae)):Option (Ae×Int):=
 Bl (decide (64<(fields.length:Int))) (some (([]:Ae),3)) (B0 (Ca (λσ=>Gk fields σ.1 σ.2) F (([IntKind.wrap .u8 (fields.length:Int)]:List Int),0)) (BT λν=>Ke ν))
def C7 (s:Ae)(hb:(List Ae))(ha:Int)(hd:Int):Option (Stp ((List Ae)×Int×Int) (Out ((List Ae)×Int) ((List Ae)×Int))):=
 Bl (decide (hd<(Be s 0))) (AY (B2 .i64 ((s.length:Int)-ha))<|Bl (decide (((s.length:Int)-ha)<2)) (some (.out (.ret (([]:List Ae),14)))) (AY (Cp ha (s.length:Int))<|AY (B2 .i64 (Be s ha))<|AY (B2 .i64 ((Be s ha)*256))<|AY (B2 .i64 (ha+1))<|AY (Cp (ha+1) (s.length:Int))<|AY (B2 .i64 (Be s (ha+1)))<|AY (B2 .i64 (((Be s ha)*256)+(Be s (ha+1))))<|Bl (decide (4000<(((Be s ha)*256)+(Be s (ha+1))))) (some (.out (.ret (([]:List Ae),13)))) (AY (B2 .i64 (((s.length:Int)-ha)-2))<|Bl (decide ((((s.length:Int)-ha)-2)<(((Be s ha)*256)+(Be s (ha+1))))) (some (.out (.ret (([]:List Ae),14)))) (AY (B2 .i64 (ha+2))<|AY (B2 .i64 ((ha+2)+(((Be s ha)*256)+(Be s (ha+1)))))<|AY (HX (ha+2) ((ha+2)+(((Be s ha)*256)+(Be s (ha+1)))))<|AY (HX ((ha+2)+(((Be s ha)*256)+(Be s (ha+1)))) (s.length:Int))<|AY (Dz 16 (hb.length+([List.take (Int.toNat ((ha+2)+(((Be s ha)*256)+(Be s (ha+1))))-Int.toNat (ha+2)) (List.drop (Int.toNat (ha+2)) s)]:List Ae).length))<|AY (B2 .i64 (hd+1))<|some (.next (hb++([List.take (Int.toNat ((ha+2)+(((Be s ha)*256)+(Be s (ha+1))))-Int.toNat (ha+2)) (List.drop (Int.toNat (ha+2)) s)]:List Ae),(ha+2)+(((Be s ha)*256)+(Be s (ha+1))),hd+1)))))) (some (.out (.go (hb,ha))))
def E3 (s:Ae)(ha:(List Ae))(hb:Int):Option ((List Ae)×Int):=
 Bl (decide (hb<(s.length:Int))) (some (([]:List Ae),13)) (some (ha,0))
def JE (F:Nat)(s:Ae):Option ((List Ae)×Int):=
 Bl (decide ((s.length:Int)<1)) (some (([]:List Ae),14)) (AY (Cp 0 (s.length:Int))<|Bl (decide (64<(Be s 0))) (some (([]:List Ae),13)) (AY (B2 .i64 (Be s 0))<|B0 (Ca (λσ=>C7 s σ.1 σ.2.1 σ.2.2) F (([]:List Ae),1,0)) (BT λν=>E3 s ν.1 ν.2)))
end Go.Proofs.YtogdediiodmnbaaGreatDoor
namespace Go.Proofs.YtogdediiodmnbaaGreatDoor.Q
open Go Go.RowKit
set_option linter.unusedVariables false
set_option linter.unusedSimpArgs false
section
variable {P : Program} {n : Nat} {c : Cx} {l : Fr} {H : List Ent} {d : Option Nat} {x y : Operand} {t t' ty : TypeId} {pos : String} {af : Array Edge} {g : Option (Nat × Bool)} {k k' : IntKind} {p q : Int}
theorem AaI (hx:ev l x=some (rI k p))(hy:ev l y=some (rI k q)):B1 P n c l H { dst:=d,op:=.binOp .or t x y t',type:=ty,pos:=pos,after:=af,guard:=g } (rI k (MS k p q)):=λa w Z ha _=>Dn<|by
 simp[execOp,ha.eval hx,ha.eval hy,BF,binOp,Op.intBits,MS]
theorem Aal (hx:ev l x=some (rI k p))(hy:ev l y=some (rI k' q))(h0:decide (0≤q)=true):B1 P n c l H { dst:=d,op:=.binOp .shl t x y t',type:=ty,pos:=pos,after:=af,guard:=g } (rI k (G2 k p q)):=λa w Z ha _=>Dn<|by
 have h1 : ¬ q<0:=by have:=AbE h0;omega
 simp[execOp,ha.eval hx,ha.eval hy,BF,binOp,Op.shift,G2,h1]
theorem Aak (hx:ev l x=some (rI k p))(hy:ev l y=some (rI k' q))(h0:decide (0≤q)=true):B1 P n c l H { dst:=d,op:=.binOp .shr t x y t',type:=ty,pos:=pos,after:=af,guard:=g } (rI k (KZ k p q)):=λa w Z ha _=>Dn<|by
 have h1 : ¬ q<0:=by have:=AbE h0;omega
 simp[execOp,ha.eval hx,ha.eval hy,BF,binOp,Op.shift,KZ,h1]
end
section
variable {P : Program} {n : Nat} {c : Cx} {ops : Array Oper} {Q : Exit → Act → World → Prop} {rest : List Oper} {l : Fr} {H H' : List Ent} {d : Nat} {d' : Option Nat} {x y : Operand} {t ty e : TypeId} {pos : String} {af : Array Edge} {g : Option (Nat × Bool)} {k : IntKind} {b i len : Nat} {j : Int}
end
def Qf (ops:List Oper)(N:Nat):Bool:=
 let cl:=Ov ops []
 (List.range ops.length).all (λi=>(Gr (ops.getD i default)).all (·<i))&&
 (List.range ops.length).all (λi=>i<N||(List.range i).all (λj=>(cl.getD i 0).testBit j))
section
variable {P : Program} {Q : Exit → Act → World → Prop}
theorem RL {listed:Array Bool}{len m:Nat}(hs:listed.size=len)(hm:m≤len)(h:∀j,j<len→(listed.getD j true=true↔j<m)):listed.toList.count false=len-m:=by
 have:listed.toList=List.replicate m true++List.replicate (len-m) false:=by
  apply List.ext_getElem
  ·simp[hs];omega
  ·intro j h1 h2;have hj:j<len:=by simpa[hs] using h1
   have:=h j hj;rw[Array.getD_eq_getD_getElem?,Array.getElem?_eq_getElem (by omega)] at this;simp only[AbI] at this;rw[Array.getElem_toList,List.getElem_append]
   split
   ·rename_i h3
    simp at h3;simp[this.2 h3]
   ·rename_i h3
    simp at h3;simp only[List.getElem_replicate]
    cases hb:listed[j] with
    | false=>rfl
    | true=>have:=this.1 hb;omega
 rw[this];simp[List.count_append,List.count_replicate]
theorem TI {listed:Array Bool}{j:Nat}(h:j<listed.size)(d d':Bool):listed.getD j d=listed.getD j d':=by
 simp[Array.getD_eq_getD_getElem?,Array.getElem?_eq_getElem h]
theorem O1 {ops:List Oper}{listed:Array Bool}{i:Nat}{o:Oper}(ho:ops[i]? =some o)(hb:∀e∈Gr o,listed.getD e true=true)
  (hcl:∀j o,ops[j]? =some o→listed.getD j true=true→∀e∈Gr o,listed.getD e true=true) (j:Nat) (h:((Ov ops []).getD i 0).testBit j=true):j=i∨listed.getD j true=true:=
 IV ops (λk=>k=i∨listed.getD k true=true) ops [] (λt o' ht e he hF=>by
  rcases hF with hF | hF
  ·simp at hF;subst hF;rw[ho] at ht;simp at ht;subst ht;exact .inr (hb e he)
  ·exact .inr (hcl t o' ht (by simpa using hF) e he)) (λj i hb=>by simp at hb) i j h (.inl rfl)
theorem KO {ops:List Oper}{listed:Array Bool}{i:Nat}(hsz:listed.size=ops.length)(hlt:∀i,i<ops.length→∀e∈Gr (ops.getD i default),e<i)(h:i∈Region.ready .any ops.toArray listed) :
  listed.getD i true=false∧i<ops.length∧∃o,ops[i]? =some o∧∀e∈Gr o,listed.getD e true=true:=by
 obtain⟨h1,o,ho,h2⟩:=mem_ready.1 h;have ho':ops[i]? =some o:=by simpa using ho
 have hil:=(List.getElem?_eq_some_iff.1 ho').1;refine⟨h1,hil,o,ho',λe he=>?_⟩;have hei:=hlt i hil e (by rw[Abr,ho'];exact he);simp only[Gr,List.mem_map,List.mem_filter] at he;obtain⟨x,⟨hx1,hx2⟩,rfl⟩:=he;have h3:=h2 x (by simpa using hx1) hx2;rw[TI (by omega) true false];exact h3
theorem KE {ops:List Oper}{listed:Array Bool}(hsz:listed.size=ops.length)(hlt:∀i,i<ops.length→∀e∈Gr (ops.getD i default),e<i)(h:Region.ready .any ops.toArray listed=[]) :
  ∀j,j<ops.length→listed.getD j true=true:=by
 intro j
 induction j using Nat.strongRecOn with
 | ind j ih=>
  intro hj
  cases hb:listed.getD j true with
  | true=>rfl
  | false=>
   have:j∈Region.ready .any ops.toArray listed:=mem_ready.2 ⟨hb,ops[j],by simp[hj],λe he hbn=>by
    have hel:e.on<j:=hlt j hj e.on (by
     rw[Abr,Abn hj];simp only[Gr,AbI,List.mem_map,List.mem_filter];exact⟨e,⟨by simpa using he,hbn⟩,rfl⟩)
    rw[TI (by omega) false true];exact ih e.on hel (by omega)⟩
   rw[h] at this;cases this
theorem Nn {listed:Array Bool}{i j:Nat}(hi:i<listed.size):(listed.setIfInBounds i true).getD j true=true↔(j=i∨listed.getD j true=true):=by
 by_cases hj:i=j
 ·subst hj;simp[hi]
 ·rw[getD_set_ne true hj];exact⟨.inr,λh=>h.elim (λh=>absurd h.symm hj) id⟩
theorem Uu {listed:Array Bool}{i fuel:Nat}(hi:i<listed.size)(hun:listed.getD i true=false)(hc:listed.toList.count false=fuel+1):(listed.setIfInBounds i true).toList.count false=fuel:=by
 have hfi:listed.toList[i]? =some false:=by
  rw[Array.getD_eq_getD_getElem?,Array.getElem?_eq_getElem hi] at hun;simp at hun;simp[hi,hun]
 rw[Array.toList_setIfInBounds];have h1:=List.count_set (a:=true) (b:=false) (l:=listed.toList) (i:=i) (by simpa using hi);have h2:listed.toList[i]'(by simpa using hi)=false:=by
  have:=List.getElem?_eq_some_iff.1 hfi;exact this.2
 rw[h1,h2,hc];rfl
theorem ME {ops:List Oper}{N:Nat}(hlt:∀i,i<ops.length→∀e∈Gr (ops.getD i default),e<i)
  (hch:∀i,N≤i→i<ops.length→∀j,j<i→((Ov ops []).getD i 0).testBit j=true):∀(k m:Nat) (listed:Array Bool) (a:Act) (w:World),m+k=ops.length→N≤m→listed.size=ops.length→
   (∀j,j<ops.length→(listed.getD j true=true↔j<m))→(∀j o,ops[j]? =some o→listed.getD j true=true→∀e∈Gr o,listed.getD e true=true)→wpList P ops.toArray Q (ops.drop m) a w→wpAny P .any ops.toArray Q k listed a w
 | 0,m,listed,a,w,hk,hN,hsz,hl,hcl,h=>by
  refine⟨?_,?_⟩
  ·cases hr:Region.ready .any ops.toArray listed with
   | nil=>rfl
   | cons i r=>
    obtain⟨h1,h2,_⟩:=KO hsz hlt (i:=i) (by rw[hr];simp);rw[(hl i h2).2 (by omega)] at h1;cases h1
  ·rw[List.drop_of_length_le (by omega)] at h;exact h
 | k+1,m,listed,a,w,hk,hN,hsz,hl,hcl,h=>by
  refine⟨λhr=>?_,λi hi=>?_⟩
  ·have:=(hl m (by omega)).1 (KE hsz hlt hr m (by omega));omega
  ·obtain⟨h1,h2,o,ho,hb⟩:=KO hsz hlt hi;have him:i=m:=by
    have hmi : ¬ i<m:=λh'=>by rw[(hl i h2).2 h'] at h1;cases h1
    by_cases e:i=m
    ·exact e
    ·rcases O1 ho hb hcl m (hch i (by omega) h2 m (by omega)) with h3 | h3
     ·exact h3.symm
     ·have:=(hl m (by omega)).1 h3;omega
   subst him;have hd:ops.drop i=o::ops.drop (i+1):=by
    rw[List.drop_eq_getElem_cons h2]
    congr 1
    exact(List.getElem?_eq_some_iff.1 ho).2
   rw[hd] at h;have ih:∀a' w',wpList P ops.toArray Q (ops.drop (i+1)) a' w'→wpAny P .any ops.toArray Q k (listed.setIfInBounds i true) a' w':=λa' w' h'=>by
    refine ME hlt hch k (i+1) _ a' w' (by omega) (by omega) (by simpa using hsz) (λj hj=>?_) (λj o' hj hlj e he=>?_) h'
    ·rw[Nn (by omega),hl j hj];omega
    ·rw[Nn (by omega)] at hlj ⊢;rcases hlj with rfl | hlj
     ·rw[ho] at hj;simp at hj;subst hj;exact .inr (hb e he)
     ·exact .inr (hcl j o' hj hlj e he)
   unfold wpOp;have hoA:ops.toArray[i]? =some o:=by simpa using ho
   simp only[hoA];simp only[wpList] at h
   split
   ·rename_i hw'
    rw[AbB hw'] at h;exact h.imp (λh=>Oper.wp_mono ih h) (λh=>h)
   ·rename_i hw'
    rw[Ab6 hw'] at h;exact ih _ _ h
theorem VB {id:Nat}{ops:List Oper}{N:Nat}(hm:P.follows .mixedOrders=true)(hB:Qf ops N=true)(hN:N≤ops.length)(I:(Nat→Bool)→Act→World→Prop)
  (hext:∀S S' a w,(∀j,j<N→S j=S' j)→I S a w→I S' a w) {a:Act} {w:World} (h0:I (λ_=>false) a { w with drawn:=w.drawn+1 })
  (step:∀S i o a w,i<N→S i=false→ops[i]? =some o→(∀e∈Gr o,e<i∧S e=true)→I S a w→∀K:Act→World→Prop,(∀a' w',I (λj=>j ==i||S j) a' w'→K a' w')→
   (Region.wanted o (yielded ops.toArray a.tmps)=true→o.wp P a w K Q)∧(Region.wanted o (yielded ops.toArray a.tmps)=false→K (a.put o.dst undef) w))
  (fin:∀a w,I (λ_=>true) a w→wpList P ops.toArray Q (ops.drop N) a w):(Code.region id ops.toArray true).wp P Q a w:=by
 simp only[Qf,Abk,AbO,List.mem_range,Abd,AbC] at hB;obtain⟨hlt,hch0⟩:=hB;have hch:∀i,N≤i→i<ops.length→∀j,j<i→((Ov ops []).getD i 0).testBit j=true:=λi h1 h2 j hj=>by
  rcases hch0 i h2 with h3 | h3
  ·omega
  ·exact h3 j hj
 refine wp_region_any hm ?_;have main:∀(fuel:Nat) (listed:Array Bool) (a:Act) (w:World),listed.size=ops.length→listed.toList.count false=fuel→I (λj=>listed.getD j true) a w→
   (∀j o,ops[j]? =some o→listed.getD j true=true→∀e∈Gr o,listed.getD e true=true)→(∀j,N≤j→j<ops.length→listed.getD j true=false)→wpAny P .any ops.toArray Q fuel listed a w:=by
  intro fuel;have allin:∀(fuel:Nat) (listed:Array Bool) (a:Act) (w:World),listed.size=ops.length→listed.toList.count false=fuel→I (λj=>listed.getD j true) a w→
   (∀j o,ops[j]? =some o→listed.getD j true=true→∀e∈Gr o,listed.getD e true=true)→(∀j,N≤j→j<ops.length→listed.getD j true=false)→(∀j,j<N→listed.getD j true=true)→wpAny P .any ops.toArray Q fuel listed a w:=by
   intro fuel listed a w hsz hc hI hcl hlast hall;have hl:∀j,j<ops.length→(listed.getD j true=true↔j<N):=λj hj=>by
    constructor
    ·intro h
     by_cases hjN:j<N
     ·exact hjN
     ·rw[hlast j (by omega) hj] at h;cases h
    ·exact hall j
   have:=RL hsz hN hl;refine ME hlt hch fuel N listed a w (by omega) (AbA _) hsz hl hcl (fin a w (hext _ _ a w (λj hj=>hall j hj) hI))
  induction fuel with
  | zero=>
   intro listed a w hsz hc hI hcl hlast;refine allin 0 listed a w hsz hc hI hcl hlast (λj hj=>?_)
   cases hb:listed.getD j true with
   | true=>rfl
   | false=>
    have:false∈listed.toList:=by
     rw[Array.getD_eq_getD_getElem?,Array.getElem?_eq_getElem (by omega)] at hb;simp at hb;rw[← hb];simp
    have:=List.count_pos_iff.2 this;omega
  | succ fuel ih=>
   intro listed a w hsz hc hI hcl hlast
   by_cases hall:∀j,j<N→listed.getD j true=true
   ·exact allin (fuel+1) listed a w hsz hc hI hcl hlast hall
   ·refine⟨λhr=>absurd (λj hj=>KE hsz hlt hr j (by omega)) hall,λi hi=>?_⟩;obtain⟨h1,h2,o,ho,hb⟩:=KO hsz hlt hi;have hiN:i<N:=by
     by_cases h:i<N
     ·exact h
     ·refine absurd (λj hj=>?_) hall;rcases O1 ho hb hcl j (hch i (by omega) h2 j (by omega)) with h3 | h3
      ·omega
      ·exact h3
    have K':∀a' w',I (λj=>j ==i||listed.getD j true) a' w'→wpAny P .any ops.toArray Q fuel (listed.setIfInBounds i true) a' w':=λa' w' hI'=>by
     refine ih _ a' w' (by simpa using hsz) (Uu (by omega) h1 hc) (hext _ _ a' w' (λj hj=>?_) hI') (λj o' hj hlj e he=>?_) (λj h3 h4=>?_)
     ·have:=Nn (listed:=listed) (i:=i) (j:=j) (by omega)
      cases hq:(listed.setIfInBounds i true).getD j true with
      | true=>
       rw[hq] at this;rcases this.1 rfl with h | h
       ·simp[h]
       ·simp[h]
      | false=>
       rw[hq] at this;have h5 : ¬ (j=i∨listed.getD j true=true):=λh=>by have:=this.2 h;cases this
       cases hz:listed.getD j true with
       | true=>exact absurd (.inr hz) h5
       | false=>
        have:j≠i:=λh=>h5 (.inl h);simp[this]
     ·rw[Nn (by omega)] at hlj ⊢;rcases hlj with rfl | hlj
      ·rw[ho] at hj;simp at hj;subst hj;exact .inr (hb e he)
      ·exact .inr (hcl j o' hj hlj e he)
     ·rw[getD_set_ne true (by omega)];exact hlast j h3 h4
    obtain⟨k1,k2⟩:=step _ i o a w hiN h1 ho (λe he=>⟨hlt i h2 e (by rw[Abr,ho];exact he),hb e he⟩) hI _ K';unfold wpOp;have hoA:ops.toArray[i]? =some o:=by simpa using ho
    simp only[hoA]
    split
    ·rename_i hw';exact .inl (k1 hw')
    ·rename_i hw';exact k2 (by simpa using hw')
 have e0:∀j,j<ops.length→(Array.replicate ops.length false).getD j true=false:=λj hj=>by simp[hj]
 have hsz0:ops.toArray.size=ops.length:=by simp
 rw[hsz0];refine main ops.length (Array.replicate ops.length false) a _ (by simp) (by simp) (hext _ _ _ _ (λj hj=>(e0 j (by omega)).symm) h0) (λj o hj hl=>?_) (λj _ h2=>e0 j h2);rw[e0 j (List.getElem?_eq_some_iff.1 hj).1] at hl;cases hl
end
structure Sa where
 deps:List Nat
 r:Rp
 al:Option (List Rp×TypeId):=none
 late:Option (Nat×List Rp):=none
 sto:Option Nat:=none
def G5 (sp:List Sa)(i:Nat):Sa:=sp.getD i { deps:=[],r:=rv undef }
def Vy (sp:List Sa):List Sp:=sp.map λs=>⟨s.deps,s.r,0⟩
def Mf (β:Nat→Nat)(s:Sa)(i:Nat):Rp:=match s.al with
 | none=>s.r
 | some _=>rv (.pointer (some ⟨β i,0,none⟩))
def M4 (S:Nat→Bool)(late:Option (Nat×List Rp))(cs:List Rp):List Rp:=match late with
 | none=>cs
 | some q=>if S q.1 then q.2 else cs
def Hw (S:Nat→Bool)(β:Nat→Nat):List Sa→Nat→List Ent
 | [],_=>[]
 | s::r,t=>match s.al with
  | some p=>if S t then .blk (β t) (M4 S s.late p.1) p.2::Hw S β r (t+1) else Hw S β r (t+1)
  | none=>Hw S β r (t+1)
def Vk (β:Nat→Nat):List Sa→Nat→List Ent
 | [],_=>[]
 | s::r,t=>match s.al with
  | some p=>.blk (β t) (match s.late with | none=>p.1 | some q=>q.2) p.2::Vk β r (t+1)
  | none=>Vk β r (t+1)
def MY (β:Nat→Nat):List Oper→List Sa→Nat→Fr→Fr
 | o::os,s::sp,i,l=>match o.dst with
  | some d=>(d,Mf β s i)::MY β os sp (i+1) l
  | none=>MY β os sp (i+1) l
 | _,_,_,l=>l
theorem Lb {S S':Nat→Bool}{late:Option (Nat×List Rp)}{cs:List Rp}(h:∀q,late=some q→S q.1=S' q.1):M4 S late cs=M4 S' late cs:=by
 unfold M4
 cases late with
 | none=>rfl
 | some q=>simp only[];rw[h q rfl]
theorem Gp (S:Nat→Bool)(β:Nat→Nat)(s:Sa)(r:List Sa)(t:Nat):Hw S β (s::r) t=match s.al with
  | some p=>if S t then .blk (β t) (M4 S s.late p.1) p.2::Hw S β r (t+1) else Hw S β r (t+1)
  | none=>Hw S β r (t+1):=rfl
theorem HS {S S':Nat→Bool}{β β':Nat→Nat}:∀(r:List Sa) (t0:Nat),(∀(t:Nat) (s:Sa),r[t]? =some s→s.al≠none→S (t0+t)=S' (t0+t)∧(S (t0+t)=true→β (t0+t)=β' (t0+t)∧∀q,s.late=some q→S q.1=S' q.1))→Hw S β r t0=Hw S' β' r t0
 | [],_,_=>rfl
 | s::r,t0,h=>by
  have ih:=HS r (t0+1) (λt s hs hn=>by
   have:=h (t+1) s (by simpa using hs) hn;rw[show t0+1+t=t0+(t+1) from by omega];exact this)
  unfold Hw;rw[ih]
  cases ha:s.al with
  | none=>rfl
  | some p=>
   obtain⟨h1,h2⟩:=h 0 s rfl (by rw[ha];exact nofun);simp only[Nat.add_zero] at h1 h2;simp only[];rw[← h1]
   split
   ·rename_i hS;rw[(h2 hS).1,Lb (h2 hS).2]
   ·rfl
theorem RJ (β:Nat→Nat):∀(r:List Sa) (t0:Nat),Hw (λ_=>true) β r t0=Vk β r t0
 | [],_=>rfl
 | s::r,t0=>by
  unfold Hw Vk;rw[RJ β r (t0+1)]
  cases s.al with
  | none=>rfl
  | some p=>cases hl:s.late<;>simp[M4,hl]
theorem Pt (β:Nat→Nat):∀(r:List Sa) (t0:Nat),Hw (λ_=>false) β r t0=[]
 | [],_=>rfl
 | s::r,t0=>by
  unfold Hw;rw[Pt β r (t0+1)]
  cases s.al<;>simp
theorem RI {S:Nat→Bool}{β:Nat→Nat}{i b:Nat}{p:List Rp×TypeId}:∀(r:List Sa) (t0 k:Nat) (s:Sa),i=t0+k→r[k]? =some s→s.al=some p→S i=false→(∀(t:Nat) (s:Sa) (q:Nat×List Rp),r[t]? =some s→s.al≠none→s.late=some q→q.1≠i)→(∀q,s.late=some q→S q.1=false∧q.1≠i)→
  (Hw (λj=>j ==i||S j) (λj=>if j=i then b else β j) r t0).Perm (.blk b p.1 p.2::Hw S β r t0)
 | [],_,_,_,_,h,_,_,_,_=>by simp at h
 | s'::r,t0,0,s,hi,h,ha,hS,hne,hl=>by
  simp at h hi;subst h;subst hi;have e:=HS (S:=λj=>j ==i||S j) (S':=S) (β:=λj=>if j=i then b else β j) (β':=β) r (i+1) (λt s hs hn=>by
   have:i+1+t≠i:=by omega
   refine⟨by simp[this],λ_=>⟨by simp[this],λq hq=>?_⟩⟩;have:=hne (t+1) s q (by simpa using hs) hn hq;simp[this])
  have ec:M4 (λj=>j ==i||S j) s'.late p.1=p.1:=by
   unfold M4
   cases hq:s'.late with
   | none=>rfl
   | some q=>
    obtain⟨h1,h2⟩:=hl q hq;simp[h1,h2]
  unfold Hw;rw[e,ha];simp only[hS,BEq.rfl,Ab5,AbN,ec];simp
 | s'::r,t0,k+1,s,hi,h,ha,hS,hne,hl=>by
  have ih:=RI (S:=S) (β:=β) (i:=i) (b:=b) (p:=p) r (t0+1) k s (by omega) (by simpa using h) ha hS (λt s q hs=>hne (t+1) s q (by simpa using hs)) hl;have hne0:t0≠i:=by omega
  have hne':(t0 ==i)=false:=by simpa using hne0
  unfold Hw
  cases ha':s'.al with
  | none=>exact ih
  | some q=>
   simp only[hne',Abt,Ab6 hne0];rw[Lb (S:=λj=>j ==i||S j) (S':=S) (λq hq=>by
    have:=hne 0 s' q rfl (by rw[ha'];exact nofun) hq;simp[this])]
   cases hS':S t0 with
   | true=>simpa using(Abe _ ih).trans (List.Perm.swap _ _ _)
   | false=>simpa using ih
theorem RH {S:Nat→Bool}{β:Nat→Nat}{i j:Nat}{p:List Rp×TypeId}{ncs:List Rp}:∀(r:List Sa) (t0 k:Nat) (s:Sa),j=t0+k→r[k]? =some s→s.al=some p→s.late=some (i,ncs)→S j=true→S i=false→(∀(t:Nat) (s:Sa) (q:Nat×List Rp),r[t]? =some s→s.al≠none→s.late=some q→t0+t≠j→q.1≠i)→(∀(t:Nat) (s:Sa),r[t]? =some s→s.al≠none→t0+t≠i)→
  ∃H',(Hw S β r t0).Perm (.blk (β j) p.1 p.2::H')∧(Hw (λj=>j ==i||S j) β r t0).Perm (.blk (β j) ncs p.2::H')
 | [],_,_,_,_,h,_,_,_,_,_,_=>by simp at h
 | s'::r,t0,0,s,hj,h,ha,hl,hSj,hSi,hne,hni=>by
  simp at h hj;subst h;subst hj;have e:=HS (S:=λx=>x ==i||S x) (S':=S) (β:=β) (β':=β) r (j+1) (λt s hs hn=>by
   have h1:=hni (t+1) s (by simpa using hs) hn;have h1':j+1+t≠i:=by omega
   refine⟨by simp[h1'],λ_=>⟨rfl,λq hq=>?_⟩⟩;have:=hne (t+1) s q (by simpa using hs) hn hq (by omega);simp[this])
  refine⟨Hw S β r (j+1),?_,?_⟩
  ·rw[Gp];rw[ha];simp[hSj,M4,hl,hSi]
  ·rw[Gp];rw[ha,e];simp[hSj,M4,hl]
 | s'::r,t0,k+1,s,hj,h,ha,hl,hSj,hSi,hne,hni=>by
  obtain⟨H',h1,h2⟩:=RH (S:=S) (β:=β) (i:=i) (j:=j) (p:=p) (ncs:=ncs) r (t0+1) k s (by omega) (by simpa using h) ha hl hSj hSi (λt s q hs hn hq hx=>hne (t+1) s q (by simpa using hs) hn hq (by omega)) (λt s hs hn=>by
   have:=hni (t+1) s (by simpa using hs) hn;omega)
  cases ha':s'.al with
  | none=>exact⟨H',by rw[Gp,ha'];exact h1,by rw[Gp,ha'];exact h2⟩
  | some q=>
   have hi0:=hni 0 s' rfl (by rw[ha'];exact nofun);have hi0':(t0 ==i)=false:=by simpa using hi0
   have ec:M4 (λx=>x ==i||S x) s'.late q.1=M4 S s'.late q.1:=Lb (λq hq=>by
    have:=hne 0 s' q rfl (by rw[ha'];exact nofun) hq (by omega);simp[this])
   cases hS':S t0 with
   | true=>
    refine⟨.blk (β t0) (M4 S s'.late q.1) q.2::H',?_,?_⟩
    ·rw[Gp];rw[ha'];simpa[hS'] using(Abe _ h1).trans (List.Perm.swap _ _ _)
    ·rw[Gp];rw[ha'];simp only[hi0',Abt,hS',AbN,ec];exact(Abe _ h2).trans (List.Perm.swap _ _ _)
   | false=>
    refine⟨H',?_,?_⟩
    ·rw[Gp];rw[ha'];simpa[hS'] using h1
    ·rw[Gp];rw[ha'];simp only[hi0',Abt,hS'];simpa using h2
def okA (n:Nat)(ops:List Oper)(N:Nat)(keys:List Nat)(deps:List (List Nat))(als:List Bool)(lates stos:List (Option Nat)):Bool:=
 Qf ops N&&decide (N≤ops.length)&&
 (List.range N).all (λi=>match CQ ops i with
  | some d=>decide (d<n)&&!keys.contains d&&(List.range N).all (λj=>j ==i||CQ ops j !=some d)
  | none=>true)&&
 (List.range N).all (λi=>(deps.getD i []).all (λj=>decide (j<N)&&(Gr (ops.getD i default)).contains j&&!als.getD j true))&&
 (List.range N).all (λi=>match stos.getD i none with
  | some j=>decide (j<N)&&(Gr (ops.getD i default)).contains j&&als.getD j false&&!als.getD i true
  | none=>true)&&
 (List.range N).all (λj=>match lates.getD j none with
  | some k=>decide (k<N)&&als.getD j false&&stos.getD k none ==some j
  | none=>true)
def ZY (P:Program)(n:Nat)(c:Cx)(opsA:Array Oper)(Q:Exit→Act→World→Prop)(l:Fr)(o:Oper)(p:List Rp×TypeId):Prop:=
 ∀H a w Z (K:Act→World→Prop),Da n l a Z→St c H Z w→(∀b w',St c (.blk b p.1 p.2::H) Z w'→K (a.put o.dst (.pointer (some ⟨b,0,none⟩))) w')→
  Region.wanted o (yielded opsA a.tmps)=true∧o.wp P a w K Q
def Zn (P:Program)(n:Nat)(c:Cx)(opsA:Array Oper)(Q:Exit→Act→World→Prop)(ops:List Oper)(sp:List Sa)(l0:Fr)(H:List Ent)(i:Nat)(o:Oper):Prop:=
 match (G5 sp i).sto with
 | some j=>o.dst=none∧∃d p ncs,CQ ops j=some d∧(G5 sp j).al=some p∧(G5 sp j).late=some (i,ncs)∧
   ∀b H,EV P n c opsA Q ((d,rv (.pointer (some ⟨b,0,none⟩)))::Cm ops (Vy sp) (G5 sp i).deps l0) (.blk b p.1 p.2::H) o (rv undef) (.blk b ncs p.2::H)
 | none=>match (G5 sp i).al with
  | none=>∀E,EV P n c opsA Q (Cm ops (Vy sp) (G5 sp i).deps l0) (H++E) o (G5 sp i).r (H++E)
  | some p=>ZY P n c opsA Q (Cm ops (Vy sp) (G5 sp i).deps l0) o p
def JT (P:Program)(n:Nat)(c:Cx)(opsA:Array Oper)(Q:Exit→Act→World→Prop)(ops:List Oper)(sp:List Sa)(l0:Fr)(H:List Ent):Nat→List Oper→Prop
 | i,o::rest=>Zn P n c opsA Q ops sp l0 H i o∧JT P n c opsA Q ops sp l0 H (i+1) rest
 | _,[]=>True
section
variable {P : Program} {n : Nat} {c : Cx} {opsA : Array Oper} {Q : Exit → Act → World → Prop} {l l0 : Fr} {H : List Ent} {sp : List Sa}
theorem JT.at {ops:List Oper}:∀{k:Nat} {rest:List Oper},JT P n c opsA Q ops sp l0 H k rest→∀(t:Nat) o,rest[t]? =some o→Zn P n c opsA Q ops sp l0 H (k+t) o
 | k,o::rest,⟨h1,h2⟩,t,o',ht=>by
  cases t with
  | zero=>simp at ht;subst ht;exact h1
  | succ t=>
   have:=JT.at h2 t o' (by simpa using ht);rw[show k+(t+1)=k+1+t from by omega];exact this
 | _,[],_,t,o,h=>by simp at h
theorem Qm {β:Nat→Nat}{a:Act}{Z:Fz}(h0:Da n l0 a Z):∀(os:List Oper) (ss:List Sa) (k:Nat),(∀(t:Nat) o s d,os[t]? =some o→ss[t]? =some s→o.dst=some d→∃v,a.tmps[d]? =some v∧(Mf β s (k+t)).p Z v)→Da n (MY β os ss k l0) a Z
 | [],_,_,_=>by unfold MY;exact h0
 | _::_,[],_,_=>by unfold MY;exact h0
 | o::os,s::ss,k,h=>by
  have ih:=Qm h0 os ss (k+1) (λt o' s' d h1 h2 h3=>by
   have:=h (t+1) o' s' d (by simpa using h1) (by simpa using h2) h3;rw[show k+1+t=k+(t+1) from by omega];exact this)
  unfold MY
  cases hd:o.dst with
  | none=>exact ih
  | some d=>
   refine⟨ih.size,ih.defers,λi r hi=>?_⟩;rw[Cq] at hi
   split at hi
   ·rename_i e;subst e;simp at hi;subst hi;exact h 0 o s d rfl rfl hd
   ·exact ih.tm i r hi
theorem Zv {id:Nat}{ops:List Oper}(N:Nat)(sp:List Sa)(hm:P.follows .mixedOrders=true)(hB:okA n ops N (Gw l0) (sp.map (·.deps)) (sp.map (·.al.isSome)) (sp.map (·.late.map (·.1))) (sp.map (·.sto))=true)(hl0:Vt l0 l)(hsp:sp.length=N)
  (hob:JT P n c ops.toArray Q ops sp l0 H 0 (ops.take N)) (h:∀β,WL P n c ops.toArray Q (ops.drop N) (MY β (ops.take N) sp 0 l0) (H++Vk β sp 0)):WC P n c (.region id ops.toArray true) Q l H:=by
 intro a w Z ha hw;simp only[okA,Abk,AbO,List.mem_range,Abd] at hB;obtain⟨⟨⟨⟨⟨b1,bN⟩,b2⟩,b3⟩,b4⟩,b5⟩:=hB;have hget:∀i,i<N→(ops.take N)[i]? =ops[i]?:=λi hi=>by rw[AbQ,AbB hi]
 have hsa:∀i,i<N→sp[i]? =some (G5 sp i):=λi hi=>by
  simp[G5,Abr,Abn (show i<sp.length by omega)]
 have hspq:∀i,i<N→(Ek (Vy sp) i)=⟨(G5 sp i).deps,(G5 sp i).r,0⟩:=λi hi=>by
  simp[Ek,Vy,Abr,AbM,hsa i hi]
 have hals:∀j b,j<N→(sp.map (·.al.isSome)).getD j b=(G5 sp j).al.isSome:=λj b hj=>by simp[Abr,AbM,hsa j hj]
 have hstos:∀j,j<N→(sp.map (·.sto)).getD j none=(G5 sp j).sto:=λj hj=>by simp[Abr,AbM,hsa j hj]
 have hlates:∀j,j<N→(sp.map (·.late.map (·.1))).getD j none=(G5 sp j).late.map (·.1):=λj hj=>by simp[Abr,AbM,hsa j hj]
 have S1:∀i o j,i<N→ops[i]? =some o→(G5 sp i).sto=some j→j<N∧j∈Gr o∧(G5 sp j).al≠none∧(G5 sp i).al=none:=λi o j hi ho hs=>by
  have h1:=b4 i hi;rw[hstos i hi,hs] at h1;simp only[Abk,Abz,Abd] at h1;obtain⟨⟨⟨h2,h3⟩,h4⟩,h5⟩:=h1;rw[hals j _ h2] at h4;rw[hals i _ hi] at h5;rw[Abr,ho,AbI,List.contains_iff_mem] at h3;exact⟨h2,h3,λe=>(by rw[e] at h4;cases h4),(by simpa using h5)⟩
 have L1:∀t q,t<N→(G5 sp t).late=some q→q.1<N∧(G5 sp q.1).sto=some t:=λt q ht hq=>by
  have h1:=b5 t ht;rw[hlates t ht,hq] at h1;simp only[Option.map_some,Abk,Abd,beq_iff_eq] at h1;obtain⟨⟨h2,h3⟩,h4⟩:=h1;rw[hstos _ h2] at h4;exact⟨h2,h4⟩
 have hops:∀j,j<N→∃o,ops[j]? =some o:=λj hj=>⟨ops[j]'(by omega),Abn (by omega)⟩
 have lt_of:∀(t:Nat) (s:Sa),sp[t]? =some s→t<N∧s=G5 sp t:=λt s hs=>by
  have h1:t<N:=by have:=(List.getElem?_eq_some_iff.1 hs).1;omega
  refine⟨h1,?_⟩;rw[hsa t h1] at hs;simpa using hs.symm
 have hdst:∀i o d,i<N→ops[i]? =some o→o.dst=some d→(d<n∧d ∉ Gw l0)∧∀j,j<N→j≠i→CQ ops j≠some d:=λi o d hi ho hd=>by
  have h3:=b2 i hi;have:CQ ops i=some d:=by simp[CQ,ho,hd]
  rw[this] at h3;simp only[Abk,Abz,AbO,List.mem_range,Abd] at h3;refine⟨⟨h3.1.1,λhmem=>by rw[← List.contains_iff_mem] at hmem;rw[hmem] at h3;cases h3.1.2⟩,λj hj hne he=>?_⟩;have:=h3.2 j hj;simp[hne,he] at this
 refine VB (N:=N) hm b1 bN (λS a w=>∃ (β:Nat→Nat) (Z:Fz),St c (H++Hw S β sp 0) Z w∧Da n l0 a Z∧(∀j o d,j<N→S j=true→ops[j]? =some o→o.dst=some d→∃v,a.tmps[d]? =some v∧(Mf β (G5 sp j) j).p Z v)∧
   ∀k j,k<N→(G5 sp k).sto=some j→S k=true→S j=true)
  (λS S' a w hS hI=>?_) ⟨λ_=>0,Z,?_,ha.subL hl0,λj o d _ hS=>(by cases hS),λk j _ _ hS=>(by cases hS)⟩ (λS i o a w hi hun ho hb hI K hK=>?_) (λa w hI=>?_)
 ·obtain⟨β,Z,h1,h2,h3,h4⟩:=hI;refine⟨β,Z,?_,h2,λj o d hj hS'=>h3 j o d hj (by rw[hS j hj];exact hS'),λk j hk hs hSk=>?_⟩
  ·rw[← HS (S:=S) (β:=β) (β':=β) sp 0 (λt s hs _=>by
    obtain⟨ht,rfl⟩:=lt_of t s hs;exact⟨hS _ (by omega),λ_=>⟨rfl,λq hq=>hS _ (L1 t q ht hq).1⟩⟩)]
   exact h1
  ·obtain⟨o,ho⟩:=hops k hk;rw[← hS j (S1 k o j hk ho hs).1];exact h4 k j hk hs (by rw[hS k hk];exact hSk)
 ·rw[Pt,AbL];exact hw.drawn _
 ·obtain⟨β,Z,h1,h2,h3,hx⟩:=hI;have hput:∀k u v,a.tmps[k]? =some u→o.dst≠some k→(a.put o.dst v).tmps[k]? =some u:=λk u v hk hne=>by
   cases hd:o.dst with
   | none=>simpa[Act.put] using hk
   | some d=>
    simp only[Act.put,Array.getElem?_setIfInBounds];rw[Ab6 (λe=>hne (by rw[hd,e]))];exact hk
  have hagr:∀v Z',Fz.le Z Z'→Da n l0 (a.put o.dst v) Z':=λv Z' hz=>by
   refine⟨?_,?_,λk r hk=>?_⟩
   ·cases o.dst<;>simp[Act.put,h2.size]
   ·cases o.dst<;>simp[Act.put,h2.defers]
   ·obtain⟨u,hu,hpu⟩:=h2.tm k r hk;exact⟨u,hput k u v hu (λe=>((hdst i o k hi ho e).1).2 (LI hk)),r.mono hz hpu⟩
  have hvals:∀(v:Value) (Z':Fz) (β':Nat→Nat),Fz.le Z Z'→(∀j,j≠i→β' j=β j)→(o.dst≠none→(Mf β' (G5 sp i) i).p Z' v)→∀j o' d,j<N→(j ==i||S j)=true→ops[j]? =some o'→o'.dst=some d→∃u,(a.put o.dst v).tmps[d]? =some u∧(Mf β' (G5 sp j) j).p Z' u:=by
   intro v Z' β' hz hβ hp j o' d hj hS' ho' hd
   by_cases hji:j=i
   ·subst hji;rw[ho] at ho';simp at ho';subst ho';refine⟨v,?_,hp (by simp[hd])⟩;have hdn:d<a.tmps.size:=by rw[h2.size];exact(hdst j o d hi ho hd).1.1
    simp[Act.put,hd,hdn]
   ·have hSj:S j=true:=by simpa[hji] using hS'
    obtain⟨u,hu,hpu⟩:=h3 j o' d hj hSj ho' hd;refine⟨u,hput d u v hu (λe=>(hdst i o d hi ho e).2 j hj hji (by simp[CQ,ho',hd])),?_⟩;have:Mf β' (G5 sp j) j=Mf β (G5 sp j) j:=by unfold Mf;rw[hβ j hji]
    rw[this];exact(Mf β (G5 sp j) j).mono hz hpu
  have hx':∀k j,k<N→(G5 sp k).sto=some j→(k ==i||S k)=true→(j ==i||S j)=true:=λk j hk hs hSk=>by
   by_cases hki:k=i
   ·subst hki;have:=(hb j (S1 k o j hk ho hs).2.1).2;simp[this]
   ·have:S j=true:=hx k j hk hs (by simpa[hki] using hSk);simp[this]
  have hat:=hob.at i o (by rw[hget i hi];exact ho);rw[AbR] at hat;unfold Zn at hat;have hag':Da n (Cm ops (Vy sp) (G5 sp i).deps l0) a Z:=LW h2 (λj hj d hd=>by
    have h4:=b3 i hi j (by simpa[Abr,AbM,hsa i hi] using hj);simp only[Abk,Abz,Abd] at h4;obtain⟨⟨h5,h6⟩,h7⟩:=h4;rw[Abr,ho,AbI,List.contains_iff_mem] at h6;have hjal:(G5 sp j).al=none:=by
     rw[hals j _ h5] at h7;simpa using h7
    obtain⟨o2,ho2⟩:=hops j h5;obtain⟨v,hv1,hv2⟩:=h3 j o2 d h5 (hb j h6).2 ho2 (by simpa[CQ,ho2] using hd);refine⟨v,hv1,?_⟩;rw[hspq j h5];simpa[Mf,hjal] using hv2)
  cases hst:(G5 sp i).sto with
  | some j=>
   rw[hst] at hat;obtain⟨hod,d,p,ncs,hd,hal,hlate,hok⟩:=hat;obtain⟨hjN,hjb,_,hial⟩:=S1 i o j hi ho hst;have hSj:=(hb j hjb).2;obtain⟨H',p1,p2⟩:=RH (S:=S) (β:=β) (i:=i) (j:=j) (p:=p) (ncs:=ncs) sp 0 j (G5 sp j) (by omega) (hsa j hjN) hal hlate hSj hun (λt s q hs _ hq hne he=>by
     obtain⟨ht,rfl⟩:=lt_of t s hs;have:=(L1 t q ht hq).2;rw[he,hst] at this;simp at this;omega) (λt s hs hn he=>by
     obtain⟨ht,rfl⟩:=lt_of t s hs;rw[AbR] at he;subst he;exact hn hial)
   obtain⟨o2,ho2⟩:=hops j hjN;obtain⟨v,hv1,hv2⟩:=h3 j o2 d hjN hSj ho2 (by simpa[CQ,ho2] using hd);have hag2:Da n ((d,rv (.pointer (some ⟨β j,0,none⟩)))::Cm ops (Vy sp) (G5 sp i).deps l0) a Z:=⟨hag'.size,hag'.defers,λk r hk=>by
    rw[Cq] at hk
    split at hk
    ·rename_i e;subst e;simp at hk;subst hk
     exact⟨v,hv1,by simpa[Mf,hal] using hv2⟩
    ·exact hag'.tm k r hk⟩
   refine hok (β j) (H++H') a w Z K hag2 (h1.perm ((List.Perm.append_left H p1).trans List.perm_middle)) (λv w' Z' hz _ hs'=>hK _ _ ⟨β,Z',?_,hagr v Z' hz,hvals v Z' β hz (λ_ _=>rfl) (λhne=>absurd hod hne),hx'⟩);exact hs'.perm (List.perm_middle.symm.trans (List.Perm.append_left H p2.symm))
  | none=>
   rw[hst] at hat;have latene:∀t q,t<N→(G5 sp t).late=some q→q.1≠i:=λt q ht hq he=>by
    have:=(L1 t q ht hq).2;rw[he,hst] at this;cases this
   cases hal:(G5 sp i).al with
   | none=>
    rw[hal] at hat;refine hat _ a w Z K hag' h1 (λv w' Z' hz hp hst'=>hK _ _ ⟨β,Z',?_,hagr v Z' hz,hvals v Z' β hz (λ_ _=>rfl) (λ_=>by unfold Mf;rw[hal];exact hp),hx'⟩);rw[HS (S':=S) (β':=β) sp 0 (λt s hs hn=>by
     obtain⟨ht,rfl⟩:=lt_of t s hs;have:t≠i:=λe=>by subst e;exact hn hal
     refine⟨by simp[this],λ_=>⟨rfl,λq hq=>?_⟩⟩;have:=latene t q ht hq;simp[this])]
    exact hst'
   | some p=>
    rw[hal] at hat;have key:=λK' hK'=>hat (H++Hw S β sp 0) a w Z K' hag' h1 hK';have h5:∀b w',St c (.blk b p.1 p.2::(H++Hw S β sp 0)) Z w'→K (a.put o.dst (.pointer (some ⟨b,0,none⟩))) w':=λb w' hst'=>by
     refine hK _ _ ⟨λj=>if j=i then b else β j,Z,?_,hagr _ Z (Fz.le.refl _),hvals _ Z _ (Fz.le.refl _) (λj hj=>by simp[hj]) (λ_=>by simp[Mf,hal,rv]),hx'⟩;have hp:=RI (S:=S) (β:=β) (i:=i) (b:=b) (p:=p) sp 0 i (G5 sp i) (by omega) (hsa i hi) hal hun (λt s q hs _ hq=>by
      obtain⟨ht,rfl⟩:=lt_of t s hs;exact latene t q ht hq) (λq hq=>by
       refine⟨?_,latene i q hi hq⟩
       cases hS:S q.1 with
       | false=>rfl
       | true=>
        obtain⟨h6,h7⟩:=L1 i q hi hq;have:=hx q.1 i h6 h7 hS;rw[this] at hun;cases hun)
     exact hst'.perm ((List.perm_middle.symm).trans (List.Perm.append_left H hp.symm))
    refine⟨λ_=>(key K h5).2,λhw'=>?_⟩;rw[(key K h5).1] at hw';cases hw'
 ·obtain⟨β,Z,h1,h2,h3,_⟩:=hI;refine h β a w Z (Qm h2 _ _ 0 (λt o s d ht hs hd=>?_)) (by rw[← RJ];exact h1);obtain⟨htN,rfl⟩:=lt_of t s hs;rw[AbR];exact h3 t o d htN rfl (by rw[← hget t htN];exact ht) hd
end
theorem O2 {l:Fr}{P:Program}{n:Nat}{c:Cx}{opsA:Array Oper}{Q:Exit→Act→World→Prop}{d:Nat}{e:TypeId}{ty:TypeId}{pos:String}{af:Array Edge}{z:Value}{cs:List Rp}(hz:∀w,(zeroValue e).run P w = .ok z w)(hcs:z.cells.toList.map rv=cs) :
  ZY P n c opsA Q l { dst:=some d,op:=.alloc e,type:=ty,pos:=pos,after:=af,guard:=none } (cs,e):=λH a w Z K _ hw hK=>by
 refine⟨by simp[Region.wanted],?_⟩;unfold Oper.wp;rw[show(execOp a.eval { dst:=some d,op:=.alloc e,type:=ty,pos:=pos,after:=af,guard:=none }).run P w = .ok (.value (.pointer (some ⟨w.heap.size,0,none⟩))) (w.alloc (.cells z.cells e)) from by simp[execOp,Instr.alloc,hz,newVar,newRow,newObj,Sem.run,Sem.run_bind]];exact hK _ _ (hw.alloc _ (e:=.blk w.heap.size cs e) ⟨z.cells.toList,by simpa using heap_alloc_new w _,by subst hcs;exact Bt.rvs Z _⟩ rfl)
section
variable {P : Program} {n : Nat} {c : Cx} {opsA : Array Oper} {Q : Exit → Act → World → Prop} {l l0 : Fr} {H : List Ent} {sp : List Sa}
theorem CK {id:Nat}{ops:List Oper}(N:Nat)(ks0:List Nat)(sp:List Sa)(hob:JT P n c ops.toArray Q ops sp l0 H 0 (ops.take N))(h:∀β,WL P n c ops.toArray Q (ops.drop N) (MY β (ops.take N) sp 0 l0) (H++Vk β sp 0))
  (h0:Kp ks0 l l0:=by repeat (first | exact OL | (apply Mu;rfl) | (apply Nd;rfl))) (hm:P.follows .mixedOrders=true:=by kernel_rfl) (hB:okA n ops N (Gw l0) (sp.map (·.deps)) (sp.map (·.al.isSome)) (sp.map (·.late.map (·.1))) (sp.map (·.sto))=true:=by kernel_rfl)
  (hsp:sp.length=N:=by rfl):WC P n c (.region id ops.toArray true) Q l H:=Zv N sp hm hB h0.one hsp hob h
theorem Cu {all rest:List Oper}{d:Nat}{op:Op}{ty:TypeId}{pos:String}{af:Array Edge}{i:Nat}
  (hr:∀{H},B1 P n c (Cm all (Vy sp) (G5 sp i).deps l0) H { dst:=some d,op:=op,type:=ty,pos:=pos,after:=af,guard:=none } (G5 sp i).r) (h:JT P n c opsA Q all sp l0 H (i+1) rest) (ha:(G5 sp i).al=none:=by rfl) (hs:(G5 sp i).sto=none:=by rfl) :
  JT P n c opsA Q all sp l0 H i ({ dst:=some d,op:=op,type:=ty,pos:=pos,after:=af,guard:=none }::rest):=by
 refine⟨?_,h⟩;unfold Zn;rw[hs,ha];exact λ_=>KR hr
theorem KT {all rest:List Oper}{d:Nat}{op:Op}{ty:TypeId}{pos:String}{af:Array Edge}{i:Nat}
  (hr:∀{E},B1 P n c (Cm all (Vy sp) (G5 sp i).deps l0) (H++E) { dst:=some d,op:=op,type:=ty,pos:=pos,after:=af,guard:=none } (G5 sp i).r) (h:JT P n c opsA Q all sp l0 H (i+1) rest) (ha:(G5 sp i).al=none:=by rfl) (hs:(G5 sp i).sto=none:=by rfl) :
  JT P n c opsA Q all sp l0 H i ({ dst:=some d,op:=op,type:=ty,pos:=pos,after:=af,guard:=none }::rest):=by
 refine⟨?_,h⟩;unfold Zn;rw[hs,ha];exact λ_=>KR hr
theorem Z3 {all rest:List Oper}{o:Oper}{p:List Rp×TypeId}{i:Nat}(hr:ZY P n c opsA Q (Cm all (Vy sp) (G5 sp i).deps l0) o p)(h:JT P n c opsA Q all sp l0 H (i+1) rest)(ha:(G5 sp i).al=some p:=by rfl)(hs:(G5 sp i).sto=none:=by rfl):JT P n c opsA Q all sp l0 H i (o::rest):=by
 refine⟨?_,h⟩;unfold Zn;rw[hs,ha];exact hr
theorem oas {all rest:List Oper}{op:Op}{ty:TypeId}{pos:String}{af:Array Edge}{g:Option (Nat×Bool)}{i j d:Nat}{p:List Rp×TypeId}{ncs:List Rp}
  (hr:∀{b H},EV P n c opsA Q ((d,rv (.pointer (some ⟨b,0,none⟩)))::Cm all (Vy sp) (G5 sp i).deps l0) (.blk b p.1 p.2::H) { dst:=none,op:=op,type:=ty,pos:=pos,after:=af,guard:=g } (rv undef) (.blk b ncs p.2::H))
  (h:JT P n c opsA Q all sp l0 H (i+1) rest) (hs:(G5 sp i).sto=some j:=by rfl) (hd:CQ all j=some d:=by rfl) (ha:(G5 sp j).al=some p:=by rfl) (hl:(G5 sp j).late=some (i,ncs):=by rfl) :
  JT P n c opsA Q all sp l0 H i ({ dst:=none,op:=op,type:=ty,pos:=pos,after:=af,guard:=g }::rest):=by
 refine⟨?_,h⟩;unfold Zn;rw[hs];exact⟨rfl,d,p,ncs,hd,ha,hl,λ_ _=>hr⟩
theorem O6 {all:List Oper}{i:Nat}:JT P n c opsA Q all sp l0 H i []:=trivial
end
structure XF (ks:List Nat) (β:Nat→Nat) (os:List Oper) (sp:List Sa) (i:Nat) (l0 l1:Fr):Prop where
 go:Kp ks (MY β os sp i l0) l1
section
variable {ks : List Nat} {β : Nat → Nat} {os : List Oper} {sp : List Sa} {i d : Nat} {l0 l1 : Fr} {ds : List Nat} {r : Rp} {p : List Rp × TypeId} {lt : Option (Nat × List Rp)} {so : Option Nat} {op : Op} {ty : TypeId} {pos : String} {af : Array Edge} {g : Option (Nat × Bool)}
theorem Aan (h:ks.contains d=true)(t:XF ks β os sp (i+1) l0 l1):XF ks β ({ dst:=some d,op:=op,type:=ty,pos:=pos,after:=af,guard:=g }::os) ({ deps:=ds,r:=r,sto:=so }::sp) i l0 ((d,r)::l1):=⟨Mu h t.go⟩
theorem Aaq (h:ks.contains d=true)(t:XF ks β os sp (i+1) l0 l1):XF ks β ({ dst:=some d,op:=op,type:=ty,pos:=pos,after:=af,guard:=g }::os) ({ deps:=ds,r:=r,al:=some p,late:=lt,sto:=so }::sp) i l0 ((d,rv (.pointer (some ⟨β i,0,none⟩)))::l1):=⟨Mu h t.go⟩
theorem Aap {s:Sa}(h:ks.contains d=false)(t:XF ks β os sp (i+1) l0 l1):XF ks β ({ dst:=some d,op:=op,type:=ty,pos:=pos,after:=af,guard:=g }::os) (s::sp) i l0 l1:=⟨Nd h t.go⟩
theorem Aao {s:Sa}(t:XF ks β os sp (i+1) l0 l1):XF ks β ({ dst:=none,op:=op,type:=ty,pos:=pos,after:=af,guard:=g }::os) (s::sp) i l0 l1:=⟨t.go⟩
theorem Aar (t:Kp ks l0 l1):XF ks β [] [] i l0 l1:=⟨t⟩
theorem Dp {P:Program}{n:Nat}{c:Cx}{opsA:Array Oper}{Q:Exit→Act→World→Prop}{rest:List Oper}{H H1:List Ent}(ks:List Nat)(h:WL P n c opsA Q rest l1 H1)
  (hz:XF ks β os sp i l0 l1:=by repeat (first | (apply Aan;rfl) | (apply Aaq;rfl) | (apply Aap;rfl) | apply Aao | apply Aar | exact OL | (apply Mu;rfl) | (apply Nd;rfl))) (hH:H=H1:=by rfl) :
  WL P n c opsA Q rest (MY β os sp i l0) H:=λa w Z ha hw=>h a w Z (ha.subL hz.go.one) (hH▸hw)
end
section
variable {P : Program} {n : Nat} {c : Cx} {opsA : Array Oper} {Q : Exit → Act → World → Prop} {l l0 : Fr} {H : List Ent} {sp : List Sa}
theorem Qt {all rest:List Oper}{o:Oper}{i:Nat}(hr:∀{E},EV P n c opsA Q (Cm all (Vy sp) (G5 sp i).deps l0) (H++E) o (G5 sp i).r (H++E))(h:JT P n c opsA Q all sp l0 H (i+1) rest)(ha:(G5 sp i).al=none:=by rfl)(hs:(G5 sp i).sto=none:=by rfl):JT P n c opsA Q all sp l0 H i (o::rest):=by
 refine⟨?_,h⟩;unfold Zn;rw[hs,ha];exact λ_=>hr
end
section
variable {P : Program} {n : Nat} {c : Cx} {opsA : Array Oper} {Q : Exit → Act → World → Prop} {l : Fr} {H : List Ent} {d : Nat} {ty : TypeId} {pos : String} {af : Array Edge}
end
section
variable {P : Program} {n : Nat} {c : Cx} {ops : Array Oper} {Q : Exit → Act → World → Prop} {rest : List Oper} {l : Fr} {H H' : List Ent} {d : Nat} {d' : Option Nat} {x y z3 : Operand} {ty t t' e : TypeId} {pos : String} {af : Array Edge} {g : Option (Nat × Bool)} {v u : Value} {r : Rp} {sz : Nat}
end
def rBx (p:Bool→Prop):Rp:=⟨λ_ v=>∃b,v = .bool b∧p b,λ_ h=>h,true,λ_ Z v ⟨b,e,_⟩=>by rw[e];rfl⟩
section
variable {P : Program} {n : Nat} {c : Cx} {ops : Array Oper} {Q : Exit → Act → World → Prop} {rest : List Oper} {l : Fr} {H : List Ent} {d : Option Nat} {ty rty t e : TypeId} {pos : String} {af : Array Edge} {g : Option (Nat × Bool)} {r : Rp} {x : Operand} {cx cy : Code} {sz : Nat} {xs : List (List Rp)}
theorem VE {o:Operand}{p:Bool→Prop}(ho:ev l o=some (rBx p))(h1:p true→WC P n c cx Q l H)(h2:p false→WC P n c cy Q l H):WC P n c (.cond o cx cy) Q l H:=λa w Z ha hw=>by
 obtain⟨b,e,hp⟩:=ha.ev ho;exact wp_cond_split e (λe=>h1 (e▸hp) a w Z ha hw) (λe=>h2 (e▸hp) a w Z ha hw)
theorem UG (ht:P.underlying t=some (.slice e))(h:ev l x=some (AX sz xs)):B1 P n c l H { dst:=d,op:=.binOp .eql t x (.const (.slice none 0 0)) rty,type:=ty,pos:=pos,after:=af,guard:=g } (rBx (λb=>b=true→xs=[])):=λa w Z ha hw=>by
 obtain⟨A,cap,e1,h1,h2,h3,h4⟩:=ha.ev h;refine⟨.bool A.isNone,⟨_,rfl,λhb=>?_⟩,?_⟩
 ·cases A with
  | some a=>cases hb
  | none=>
   have:=h3 rfl;exact List.length_eq_zero_iff.1 (by omega)
 ·have:=run_equal_slice_nil (P:=P) w t e A xs.length cap ht;have e2:a.eval (.const (.slice none 0 0)) = .slice none 0 0:=rfl;simp[execOp,e1,e2,binOp,this,eqGuard]
end
section
variable {P : Program} {n : Nat} {c : Cx} {Q : Exit → Act → World → Prop} {l : Fr} {H : List Ent} {x rest' : Code} {K : Act → World → Prop}
theorem JZ {lb:Nat}(h:WK n c (Q (.goto lb)) l H):WC P n c (.goto lb) Q l H:=λa w Z ha hw=>wp_goto (h a w Z ha hw)
theorem Cj {lb:Nat}(h:WK n c (Q (.goto lb)) l H):WK n c (Exit.then K Q (.goto lb)) l H:=h
theorem G9 {id lb:Nat}(h:WK n c (Q (.goto lb)) l H):WK n c (Exit.inBlock id Q (.goto lb)) l H:=h
theorem J8 {id lb:Nat}(h:WK n c (Q (.goto lb)) l H):WK n c (Xy id K Q (.goto lb)) l H:=h
theorem XT {lb:Nat}(h:WK n c (Q .ret) l H):WK n c (Exit.jump lb K Q .ret) l H:=h
theorem JX {lb:Nat}(h:WK n c K l H):WK n c (Exit.jump lb K Q (.goto lb)) l H:=λa w Z ha hw=>⟨rfl,h a w Z ha hw⟩
theorem OC {S:Type}(lb:Nat)(inv:S→Prop)(fr:S→Fr)(hp:S→List Ent)(hf:findLabel x lb=some rest')
  (h1:WC P n c x (Exit.jump lb (Iq n c inv fr hp) Q) l H) (h2:∀s,inv s→WC P n c rest' (Exit.noGoto Q) (fr s) (hp s)):WC P n c (.scope x) Q l H:=λa w Z ha hw=>
 wp_scope_jumps lb (Iq n c inv fr hp) (λ_ _=>0) hf (h1 a w Z ha hw) (by
  rintro a w ⟨s,Z,hi,ha,hw⟩;refine wp_mono (h2 s hi a w Z ha hw) λe a w q=>?_
  cases e with
  | goto _=>exact q.elim
  | _=>exact q)
end
section
variable {P : Program} {n : Nat} {c : Cx} {ops : Array Oper} {Q : Exit → Act → World → Prop} {rest : List Oper} {l : Fr} {H H' : List Ent} {d : Nat} {d' : Option Nat} {x y z3 z4 : Operand} {ty t t' e : TypeId} {pos : String} {af : Array Edge} {g : Option (Nat × Bool)} {v u : Value} {r : Rp} {sz : Nat}
theorem Rn {α:Type}{ys:List α}{enc:α→List Rp}{k' k'':IntKind}{j:Int}(ht:P.underlying t=some (.slice e))(hz:∀w,(sizeOf e).run P w = .ok sz w)(h:ev l x=some (AX sz (ys.map enc)))(hj:ev l z3=some (rI k' j))(hm:ev l z4=some (rI k'' j))(hg2:HX j (ys.length:Int)=true) :
  B1 P n c l H { dst:=d',op:=.slice t x none (some z3) (some z4),type:=ty,pos:=pos,after:=af,guard:=g } (AX sz ((ys.take j.toNat).map enc)):=λa w Z ha hw=>by
 obtain⟨A,cap,e1,hc1,hc2,hA,hc⟩:=ha.ev h;have h0:=(DD hg2).1;have h2:=(DD hg2).2;simp only[Ab3] at e1 hc1;have h3:j≤(cap:Int):=by omega
 refine⟨.slice A j.toNat j.toNat,⟨A,j.toNat,?_,?_,by omega,?_,λq cl hq=>?_⟩,?_⟩
 ·congr 1
  simp;omega
 ·simp;omega
 ·intro hn;have:=hA hn;omega
 ·rw[AbM,AbQ] at hq
  split at hq
  ·exact hc q cl (by rw[AbM];exact hq)
  ·cases hq
 ·have hA':A.map (λb=>b.add 0)=A:=by
   cases A with
   | none=>rfl
   | some ad=>obtain⟨b,o,sp⟩:=ad;cases sp<;>rfl
  simp[execOp,e1,ha.eval hj,ha.eval hm,Instr.sliceAt,Instr.slice,run_underlying ht,Instr.sliceBounds,BN (m:=cap) _ _ h0 h3,BN (m:=j.toNat) _ _ h0 (by omega),hz]
  try (intro _;cases A<;>rfl)
end
structure Sx (U:Type) where
 deps:List Nat
 r:U→Rp
 dyn:Bool:=false
 old:List Nat:=[]
def I4 {U:Type}(sp:List (Sx U))(i:Nat):Sx U:=sp.getD i { deps:=[],r:=λ_=>rv undef }
def XD {U:Type}(sp:List (Sx U))(u:U):List Sp:=sp.map λs=>⟨s.deps,s.r u,0⟩
def saU {U:Type}(sp:List (Sx U))(u:U):List Sa:=sp.map λs=>{ deps:=s.deps,r:=s.r u }
def O3 {U:Type}:List (Sx U)→Prop
 | []=>True
 | s::r=>(s.dyn=false→∀u u',s.r u=s.r u')∧O3 r
theorem O3.at {U:Type}:∀{sp:List (Sx U)},O3 sp→∀{i:Nat} {s:Sx U},sp[i]? =some s→s.dyn=false→∀u u',s.r u=s.r u'
 | [],_,i,s,h=>by simp at h
 | x::sp,⟨h1,h2⟩,0,s,h=>by simp at h;subst h;exact h1
 | x::sp,⟨h1,h2⟩,i+1,s,h=>O3.at h2 (by simpa using h)
theorem AaE {U:Type}{ds os:List Nat}{r:Rp}{sp:List (Sx U)}(h:O3 sp):O3 ({ deps:=ds,r:=λ_=>r,old:=os }::sp):=⟨λ_ _ _=>rfl,h⟩
theorem AaD {U:Type}{ds os:List Nat}{r:U→Rp}{sp:List (Sx U)}(h:O3 sp):O3 ({ deps:=ds,r:=r,dyn:=true,old:=os }::sp):=⟨λh'=>(by cases h'),h⟩
def HK (lw:Fr):List Nat→Fr→Fr
 | [],l=>l
 | d::r,l=>match look lw d with
  | some q=>(d,q)::HK lw r l
  | none=>HK lw r l
theorem TT {n:Nat}{lw l:Fr}{a:Act}{Z:Fz}(h0:Da n l a Z):∀{ds:List Nat},(∀d∈ds,∀q,look lw d=some q→∃v,a.tmps[d]? =some v∧q.p Z v)→Da n (HK lw ds l) a Z
 | [],_=>h0
 | d::ds,h=>by
  have ih:=TT h0 (ds:=ds) (λd' hd'=>h d' (by simp[hd']));unfold HK
  cases hd:look lw d with
  | none=>exact ih
  | some q=>
   refine⟨ih.size,ih.defers,λi r hi=>?_⟩;rw[Cq] at hi
   split at hi
   ·rename_i e;subst e;simp at hi;subst hi;exact h d (by simp) q hd
   ·exact ih.tm i r hi
theorem AaC {U:Type}:O3 ([]:List (Sx U)):=trivial
def okX (n:Nat)(ops:List Oper)(N i0:Nat)(keys:List Nat)(deps:List (List Nat))(dyns:List Bool)(olds:List (List Nat)):Bool:=
 Qf ops N&&decide (N≤ops.length)&&decide (i0<N)&&
 (List.range N).all (λi=>match CQ ops i with
  | some d=>decide (d<n)&&!keys.contains d&&(List.range N).all (λj=>j ==i||CQ ops j !=some d)
  | none=>true)&&
 (List.range N).all (λi=>(deps.getD i []).all (λj=>decide (j<N)&&(Gr (ops.getD i default)).contains j))&&
 (List.range N).all (λi=>!dyns.getD i false||i ==i0||(Gr (ops.getD i default)).any (λe=>decide (e<N)&&(e ==i0||dyns.getD e false)))&&
 (List.range N).all (λi=>(olds.getD i []).all (λd=>(List.range N).all (λw=>CQ ops w !=some d||(Gr (ops.getD w default)).contains i)))
section
variable (P : Program) (n : Nat) (c : Cx) (opsA : Array Oper) (Q : Exit → Act → World → Prop)
def OpX {U:Type}(l:Fr)(H:List Ent)(o:Oper)(r:U→Rp)(H1:U→List Ent):Prop:=
 ∀a w Z (K:Act→World→Prop),Da n l a Z→St c H Z w→(∀u v w' Z',Fz.le Z Z'→(r u).p Z' v→St c (H1 u) Z' w'→K (a.put o.dst v) w')→
  Region.wanted o (yielded opsA a.tmps)=true∧o.wp P a w K Q
def M9 {U:Type}(ops:List Oper)(sp:List (Sx U))(l0 lw:Fr)(i0:Nat)(H:List Ent)(H1:U→List Ent):Nat→List Oper→Prop
 | i,o::rest=>(if i=i0 then(∀u,OpX P n c opsA Q (HK lw (I4 sp i).old (Cm ops (XD sp u) (I4 sp i).deps l0)) H o (I4 sp i).r H1) else ∀u H',(H'=H∨H'=H1 u)→EV P n c opsA Q (HK lw (I4 sp i).old (Cm ops (XD sp u) (I4 sp i).deps l0)) H' o ((I4 sp i).r u) H')∧M9 ops sp l0 lw i0 H H1 (i+1) rest
 | _,[]=>True
end
section
variable {P : Program} {n : Nat} {c : Cx} {opsA : Array Oper} {Q : Exit → Act → World → Prop} {l l0 lw : Fr} {U : Type} {H : List Ent} {H1 : U → List Ent} {sp : List (Sx U)} {i0 : Nat}
theorem M9.at {ops:List Oper}:∀{k:Nat} {rest:List Oper},M9 P n c opsA Q ops sp l0 lw i0 H H1 k rest→∀(t:Nat) o,rest[t]? =some o→
  (if k+t=i0 then(∀u,OpX P n c opsA Q (HK lw (I4 sp (k+t)).old (Cm ops (XD sp u) (I4 sp (k+t)).deps l0)) H o (I4 sp (k+t)).r H1) else ∀u H',(H'=H∨H'=H1 u)→EV P n c opsA Q (HK lw (I4 sp (k+t)).old (Cm ops (XD sp u) (I4 sp (k+t)).deps l0)) H' o ((I4 sp (k+t)).r u) H')
 | k,o::rest,⟨h1,h2⟩,t,o',ht=>by
  cases t with
  | zero=>simp at ht;subst ht;exact h1
  | succ t=>
   have:=M9.at h2 t o' (by simpa using ht);rw[show k+(t+1)=k+1+t from by omega];exact this
 | _,[],_,t,o,h=>by simp at h
theorem XU {id:Nat}{ops:List Oper}[Inhabited U](N i0:Nat)(sp:List (Sx U))(hm:P.follows .mixedOrders=true)(hB:okX n ops N i0 (Gw l0) (sp.map (·.deps)) (sp.map (·.dyn)) (sp.map (·.old))=true)(hl0:Vt l0 l)(hlw:Vt lw l)(hsp:sp.length=N)(hst:O3 sp)
  (hob:M9 P n c ops.toArray Q ops sp l0 lw i0 H H1 0 (ops.take N)) (h:∀u,WL P n c ops.toArray Q (ops.drop N) (MY (λ_=>0) (ops.take N) (saU sp u) 0 l0) (H1 u)):WC P n c (.region id ops.toArray true) Q l H:=by
 intro a w Z ha hw;simp only[okX,Abk,AbO,List.mem_range,Abd] at hB;obtain⟨⟨⟨⟨⟨⟨b1,bN⟩,b0⟩,b2⟩,b3⟩,b4⟩,b5⟩:=hB;have hget:∀i,i<N→(ops.take N)[i]? =ops[i]?:=λi hi=>by rw[AbQ,AbB hi]
 have hsa:∀i,i<N→sp[i]? =some (I4 sp i):=λi hi=>by
  simp[I4,Abr,Abn (show i<sp.length by omega)]
 have hspq:∀u i,i<N→(Ek (XD sp u) i)=⟨(I4 sp i).deps,(I4 sp i).r u,0⟩:=λu i hi=>by
  simp[Ek,XD,Abr,AbM,hsa i hi]
 have hdyn:∀j,j<N→(sp.map (·.dyn)).getD j false=(I4 sp j).dyn:=λj hj=>by simp[Abr,AbM,hsa j hj]
 have hdep:∀j,j<N→(sp.map (·.deps)).getD j []=(I4 sp j).deps:=λj hj=>by simp[Abr,AbM,hsa j hj]
 have hops:∀j,j<N→∃o,ops[j]? =some o:=λj hj=>⟨ops[j]'(by omega),Abn (by omega)⟩
 have hdst:∀i o d,i<N→ops[i]? =some o→o.dst=some d→(d<n∧d ∉ Gw l0)∧∀j,j<N→j≠i→CQ ops j≠some d:=λi o d hi ho hd=>by
  have h3:=b2 i hi;have:CQ ops i=some d:=by simp[CQ,ho,hd]
  rw[this] at h3;simp only[Abk,Abz,AbO,List.mem_range,Abd] at h3;refine⟨⟨h3.1.1,λhmem=>by rw[← List.contains_iff_mem] at hmem;rw[hmem] at h3;cases h3.1.2⟩,λj hj hne he=>?_⟩;have:=h3.2 j hj;simp[hne,he] at this
 refine VB (N:=N) hm b1 bN (λS a w=>∃ (u:U) (Z:Fz),St c (if S i0=true then H1 u else H) Z w∧Da n l0 a Z∧(∀j o d,j<N→S j=true→ops[j]? =some o→o.dst=some d→∃v,a.tmps[d]? =some v∧((I4 sp j).r u).p Z v)∧
   (∀j,j<N→(I4 sp j).dyn=true→S j=true→S i0=true)∧
   (∀d q,look lw d=some q→(∀wr,wr<N→CQ ops wr=some d→S wr=false)→∃v,a.tmps[d]? =some v∧q.p Z v)∧
   ∀wr i d,wr<N→i<N→CQ ops wr=some d→d∈(I4 sp i).old→S wr=true→S i=true)
  (λS S' a w hS hI=>?_) ⟨default,Z,?_,ha.subL hl0,λj o d _ hS=>(by cases hS),λj _ _ hS=>(by cases hS),λd q hd _=>(ha.subL hlw).tm d q hd,λwr i d _ _ _ _ hS=>(by cases hS)⟩ (λS i o a w hi hun ho hb hI K hK=>?_) (λa w hI=>?_)
 ·obtain⟨u,Z,h1,h2,h3,h4,h5,h6⟩:=hI;refine⟨u,Z,?_,h2,λj o d hj hS'=>h3 j o d hj (by rw[hS j hj];exact hS'),λj hj hd hSj=>?_,λd q hd hw'=>h5 d q hd (λwr hwr hdw=>by rw[hS wr hwr];exact hw' wr hwr hdw),λwr i d hwr hi hdw hold hSw=>by rw[← hS i hi];exact h6 wr i d hwr hi hdw hold (by rw[hS wr hwr];exact hSw)⟩
  ·rw[← hS i0 b0];exact h1
  ·rw[← hS i0 b0];exact h4 j hj hd (by rw[hS j hj];exact hSj)
 ·exact hw.drawn _
 ·obtain⟨u,Z,h1,h2,h3,hx,ho5,ho6⟩:=hI;have hput:∀k u v,a.tmps[k]? =some u→o.dst≠some k→(a.put o.dst v).tmps[k]? =some u:=λk u v hk hne=>by
   cases hd:o.dst with
   | none=>simpa[Act.put] using hk
   | some d=>
    simp only[Act.put,Array.getElem?_setIfInBounds];rw[Ab6 (λe=>hne (by rw[hd,e]))];exact hk
  have hagr:∀v Z',Fz.le Z Z'→Da n l0 (a.put o.dst v) Z':=λv Z' hz=>by
   refine⟨?_,?_,λk r hk=>?_⟩
   ·cases o.dst<;>simp[Act.put,h2.size]
   ·cases o.dst<;>simp[Act.put,h2.defers]
   ·obtain⟨u,hu,hpu⟩:=h2.tm k r hk;exact⟨u,hput k u v hu (λe=>((hdst i o k hi ho e).1).2 (LI hk)),r.mono hz hpu⟩
  have hvals:∀(v:Value) (Z':Fz) (u':U),Fz.le Z Z'→(∀j,j<N→j≠i→S j=true→(I4 sp j).r u'=(I4 sp j).r u)→(o.dst≠none→((I4 sp i).r u').p Z' v)→∀j o' d,j<N→(j ==i||S j)=true→ops[j]? =some o'→o'.dst=some d→∃q,(a.put o.dst v).tmps[d]? =some q∧((I4 sp j).r u').p Z' q:=by
   intro v Z' u' hz hβ hp j o' d hj hS' ho' hd
   by_cases hji:j=i
   ·subst hji;rw[ho] at ho';simp at ho';subst ho';refine⟨v,?_,hp (by simp[hd])⟩;have hdn:d<a.tmps.size:=by rw[h2.size];exact(hdst j o d hi ho hd).1.1
    simp[Act.put,hd,hdn]
   ·have hSj:S j=true:=by simpa[hji] using hS'
    obtain⟨q,hu,hpu⟩:=h3 j o' d hj hSj ho' hd;refine⟨q,hput d q v hu (λe=>(hdst i o d hi ho e).2 j hj hji (by simp[CQ,ho',hd])),?_⟩;rw[hβ j hj hji hSj];exact((I4 sp j).r u).mono hz hpu
  have hat:=hob.at i o (by rw[hget i hi];exact ho);rw[AbR] at hat;have hold':∀Z',Fz.le Z Z'→∀v d q,look lw d=some q→(∀wr,wr<N→CQ ops wr=some d→(wr ==i||S wr)=false)→∃v',(a.put o.dst v).tmps[d]? =some v'∧q.p Z' v':=λZ' hz v d q hd hw'=>by
   obtain⟨v',e1,e2⟩:=ho5 d q hd (λwr hwr hdw=>by have:=hw' wr hwr hdw;simp only[Ab1] at this;exact this.2);refine⟨v',hput d v' v e1 (λe=>?_),q.mono hz e2⟩;have:=hw' i hi (by simp[CQ,ho,e]);simp at this
  have hord:∀wr k d,wr<N→k<N→CQ ops wr=some d→d∈(I4 sp k).old→(wr ==i||S wr)=true→(k ==i||S k)=true:=λwr k d hwr hk hdw hmem hSw=>by
   by_cases hwi:wr=i
   ·subst hwi;have h7:=b5 k hk d (by simpa[Abr,AbM,hsa k hk] using hmem) wr hwr;simp only[AbC,bne_iff_ne,ne_eq,hdw,not_true_eq_false,false_or] at h7;rw[Abr,ho,AbI,List.contains_iff_mem] at h7;simp[(hb k h7).2]
   ·have:S k=true:=ho6 wr k d hwr hk hdw hmem (by simpa[hwi] using hSw);simp[this]
  have hag':Da n (HK lw (I4 sp i).old (Cm ops (XD sp u) (I4 sp i).deps l0)) a Z:=TT (LW h2 (λj hj d hd=>by
    obtain⟨h5,h6⟩:=b3 i hi j (by rw[hdep i hi];exact hj);rw[Abr,ho,AbI,List.contains_iff_mem] at h6;obtain⟨o2,ho2⟩:=hops j h5;obtain⟨v,hv1,hv2⟩:=h3 j o2 d h5 (hb j h6).2 ho2 (by simpa[CQ,ho2] using hd);refine⟨v,hv1,?_⟩;rw[hspq u j h5];exact hv2)) (λd hd q hq=>ho5 d q hq (λwr hwr hdw=>by
     cases hS:S wr with
     | false=>rfl
     | true=>have:=ho6 wr i d hwr hi hdw hd hS;rw[this] at hun;cases hun))
  by_cases hi0:i=i0
  ·subst hi0;rw[AbB rfl] at hat;rw[hun] at h1;have h1':St c H Z w:=by simpa using h1
   have key:=λK' hK'=>hat u a w Z K' hag' h1' hK';have h5:∀u' v w' Z',Fz.le Z Z'→((I4 sp i).r u').p Z' v→St c (H1 u') Z' w'→K (a.put o.dst v) w':=λu' v w' Z' hz hpv hs'=>by
    refine hK _ _ ⟨u',Z',by simpa using hs',hagr v Z' hz,hvals v Z' u' hz (λj hj hji hSj=>?_) (λ_=>hpv),λj _ _ _=>by simp,hold' Z' hz v,hord⟩;refine hst.at (hsa j hj) ?_ u' u
    cases hd:(I4 sp j).dyn with
    | false=>rfl
    | true=>have:=hx j hj hd hSj;rw[this] at hun;cases hun
   refine⟨λ_=>(key K h5).2,λhw'=>?_⟩;rw[(key K h5).1] at hw';cases hw'
  ·rw[Ab6 hi0] at hat;refine hat u _ (by split;exact .inr rfl;exact .inl rfl) a w Z K hag' h1 (λv w' Z' hz hp hst'=>hK _ _ ⟨u,Z',?_,hagr v Z' hz,hvals v Z' u hz (λ_ _ _ _=>rfl) (λ_=>hp),λj hj hd hSj=>?_,hold' Z' hz v,hord⟩)
   ·have hiS:(i0 ==i||S i0)=S i0:=by
     have:(i0 ==i)=false:=by simpa using λe=>hi0 e.symm
     rw[this];rfl
    show St c (if (i0 ==i||S i0)=true then H1 u else H) Z' w';rw[hiS];exact hst'
   ·have hii:(i0 ==i)=false:=by simpa using λe=>hi0 e.symm
    show(i0 ==i||S i0)=true;rw[hii,Abt]
    by_cases hji:j=i
    ·subst hji;have h7:=b4 j hj;rw[hdyn j hj,hd] at h7;simp only[Abq,Abt,AbC,beq_iff_eq,hi0,false_or,List.any_eq_true,Abk,Abd] at h7;obtain⟨e,he,heN,h8⟩:=h7;rw[Abr,ho,AbI] at he;have hSe:=(hb e he).2;rcases h8 with h8 | h8
     ·subst h8;exact hSe
     ·rw[hdyn e heN] at h8;exact hx e heN h8 hSe
    ·exact hx j hj hd (by simpa[hji] using hSj)
 ·obtain⟨u,Z,h1,h2,h3,_,_,_⟩:=hI;have hsl:(saU sp u).length=N:=by simp[saU,hsp]
  refine h u a w Z (Qm h2 _ _ 0 (λt o s d ht hs hd=>?_)) (by simpa using h1);have htN:t<N:=by have:=(List.getElem?_eq_some_iff.1 hs).1;omega
  have hs':s = { deps:=(I4 sp t).deps,r:=(I4 sp t).r u }:=by
   simp only[saU,AbM,hsa t htN,Option.map_some,Option.some.injEq] at hs;exact hs.symm
  subst hs';rw[AbR];exact h3 t o d htN rfl (by rw[← hget t htN];exact ht) hd
theorem Zu [Inhabited U]{id:Nat}{ops:List Oper}(N i0:Nat)(ks0 ksw:List Nat)(sp:List (Sx U))(H1:U→List Ent)(hob:M9 P n c ops.toArray Q ops sp l0 lw i0 H H1 0 (ops.take N))(h:∀u,WL P n c ops.toArray Q (ops.drop N) (MY (λ_=>0) (ops.take N) (saU sp u) 0 l0) (H1 u))
  (h0:Kp ks0 l l0:=by repeat (first | exact OL | (apply Mu;rfl) | (apply Nd;rfl))) (hw:Kp ksw l lw:=by repeat (first | exact OL | (apply Mu;rfl) | (apply Nd;rfl))) (hm:P.follows .mixedOrders=true:=by kernel_rfl) (hB:okX n ops N i0 (Gw l0) (sp.map (·.deps)) (sp.map (·.dyn)) (sp.map (·.old))=true:=by kernel_rfl)
  (hsp:sp.length=N:=by rfl) (hst:O3 sp:=by repeat (first | exact AaC | apply AaE | apply AaD)):WC P n c (.region id ops.toArray true) Q l H:=XU N i0 sp hm hB h0.one hw.one hsp hst hob h
theorem Zd {all rest:List Oper}{d:Nat}{op:Op}{ty:TypeId}{pos:String}{af:Array Edge}{i:Nat}(hr:∀{u H},B1 P n c (HK lw (I4 sp i).old (Cm all (XD sp u) (I4 sp i).deps l0)) H { dst:=some d,op:=op,type:=ty,pos:=pos,after:=af,guard:=none } ((I4 sp i).r u))(h:M9 P n c opsA Q all sp l0 lw i0 H H1 (i+1) rest)(hne:Nat.beq i i0=false:=by rfl) :
  M9 P n c opsA Q all sp l0 lw i0 H H1 i ({ dst:=some d,op:=op,type:=ty,pos:=pos,after:=af,guard:=none }::rest):=by
 refine⟨?_,h⟩;rw[Ab6 (λe=>by subst e;simp at hne)];exact λu H _=>KR hr
theorem oxc {all rest:List Oper}{o:Oper}{i:Nat}(hr:∀{u H},EV P n c opsA Q (HK lw (I4 sp i).old (Cm all (XD sp u) (I4 sp i).deps l0)) H o ((I4 sp i).r u) H)(h:M9 P n c opsA Q all sp l0 lw i0 H H1 (i+1) rest)(hne:Nat.beq i i0=false:=by rfl):M9 P n c opsA Q all sp l0 lw i0 H H1 i (o::rest):=by
 refine⟨?_,h⟩;rw[Ab6 (λe=>by subst e;simp at hne)];exact λu H _=>hr
theorem oxx {all rest:List Oper}{o:Oper}(hr:∀{u},OpX P n c opsA Q (HK lw (I4 sp i0).old (Cm all (XD sp u) (I4 sp i0).deps l0)) H o (I4 sp i0).r H1)(h:M9 P n c opsA Q all sp l0 lw i0 H H1 (i0+1) rest):M9 P n c opsA Q all sp l0 lw i0 H H1 i0 (o::rest):=by
 refine⟨?_,h⟩;rw[AbB rfl];exact λu=>hr
theorem oxe {all:List Oper}{i:Nat}:M9 P n c opsA Q all sp l0 lw i0 H H1 i []:=trivial
end
section
variable {P : Program} {n : Nat} {c : Cx} {opsA : Array Oper} {Q : Exit → Act → World → Prop} {l : Fr} {H : List Ent} {d : Nat} {x y : Operand} {ty t e : TypeId} {pos : String} {af : Array Edge} {v : Value} {sz : Nat}
theorem VA {α:Type}{xs ys:List α}{enc:α→List Rp}{i:Nat}{inf:TypeInfo}{z:Value}{bytes:Nat}(ht:P.underlying t=some (.slice e))(hinf:P.info? e=some inf)(hz:inf.zero=some z)(hsize:inf.size=sz)(hby:inf.bytes=bytes)(hzs:z.cells.size=sz)(hsz:Nat.blt 0 sz=true)(hbp:Nat.blt 0 bytes=true)
  (hx:ev l x=some (rv v)) (hi:H[i]? =some (.row v e sz (xs.map enc))) (hy:I5 P n c l H y sz ys.length (ys.map enc).flatten) (henc:∀z,(enc z).length=sz) (hone:∀z,(enc z).all (·.one)=true) (hg:Dz bytes (xs.length+ys.length)=true) :
  OpX P n c opsA Q l H { dst:=some d,op:=.call { callee:=.builtin .append,args:=#[x,y],argTypes:=#[t,t] },type:=ty,pos:=pos,after:=af,guard:=none } (λv'=>rv v') (λv'=>.row v' e sz ((xs++ys).map enc)::H.eraseIdx i):=λa w Z K ha hw hK=>by
  obtain⟨h0,us,h1,h2⟩:=hw.ent hi;obtain⟨ws,h3,h4⟩:=hy a w Z ha hw;have hsz':0<sz:=by simpa using hsz
  have hbp':0<bytes:=by simpa using hbp
  have hb:(xs.length+ys.length)*bytes≤140737488355328:=by simpa[Dz] using hg
  have hle:xs.length+ys.length≤(xs.length+ys.length)*bytes:=Nat.le_mul_of_pos_right _ hbp';have hws:∀y∈ws,y.oneCell'=true:=Bt.one (rs:=(ys.map enc).flatten) (by
   rw[AbO];intro r hr;obtain⟨cl,hcl,hrc⟩:=List.mem_flatten.1 hr;obtain⟨z',_,rfl⟩:=List.mem_map.1 hcl;exact List.all_eq_true.1 (hone z') r hrc) h3
  have hxl:(xs.map enc).length=xs.length:=Ab3 ..;rw[hxl] at h1;obtain⟨v',w',e1,e2,e3,e4⟩:=Iu (P:=P) ty ht hinf hz hsize hby hzs hsz' h1 h4 hws hb (by simp only[maxLen];omega);have hent:(Ent.row v' e sz ((xs++ys).map enc)).holds Z w':=⟨λcl hcl=>by obtain⟨z',_,rfl⟩:=List.mem_map.1 hcl;exact henc z',us++ws,by simpa using e2,by rw[Acc,List.flatten_append];exact h2.append h3⟩
  have hst:=hw.callF hi (St.one (e':=.row v' e sz ((xs++ys).map enc)) (M:=(Ent.row v e sz (xs.map enc)).foot) hw.frz hw.env hw.emono e3.os e3.tape e3.output e3.size (λk hk hne=>e3.block k hk (λe1=>hne (by simp[Ent.foot,← e1])))
   (hw.zdis _ (Abs hi)) hent (λk hk=>by
    simp only[Ent.foot,Option.mem_toList] at hk ⊢;rcases e4 with e4 | e4
    ·exact .inl (e4▸hk)
    ·exact .inr (e4 k hk)))
  refine⟨by simp[Region.wanted],?_⟩;unfold Oper.wp;rw[show(execOp a.eval { dst:=some d,op:=.call { callee:=.builtin .append,args:=#[x,y],argTypes:=#[t,t] },type:=ty,pos:=pos,after:=af,guard:=none }).run P w = .ok (.value v') w' from by simp[execOp,resolve,invoke,builtin,ha.eval hx,e1]];exact hK v' v' w' Z (Fz.le.refl _) rfl hst
end
set_option maxRecDepth 100000
set_option maxHeartbeats 4000000
theorem RC:∃inf,Tryz.prog.info? 9=some inf∧inf.zero=some (.string ⟨#[]⟩)∧inf.size=1∧inf.bytes=16:=by
  have key:(Tryz.prog.info? 9).map (λi=>(i.zero,i.size,i.bytes))=some (some (.string ⟨#[]⟩),1,16):=by kernel_rfl
  obtain⟨inf,h1,h2⟩:=Option.map_eq_some_iff.1 key;simp only[Prod.mk.injEq] at h2;exact⟨inf,h1,h2.1,h2.2.1,h2.2.2⟩
theorem YH (F:Nat)(fields:(List Ae))(r:Ae×Int)(h:RF F fields=some r):Fn Tryz.prog GE 62 [AX 1 (A1 eS fields)] [] (λR H=>R=Cs [rS r.1,Ak r.2]∧H=[]):=by
 refine enter (n:=39) Tryz.func62 Aa Tryz.ntmps62 Aa (λw Z=>?_);unfold RF at h;refine Af (wv (r:=rS ([]:Ae)) (Av Aa) (wa Aa (Ao (Ai (Af (wm Aa (wv (Bv (ys:=fields) (enc:=eS) Db Aa) (wv (Cv Aa Aa) (Ao (cz h Aa (λc1 h2=>?_) (λc1 h3=>?_)))))))))))
 ·refine Af (wv (r:=rS ([]:Ae)) (Av Aa) (wa Aa (Ao (As (Ad ?_)))));obtain rfl:=At h2;exact Ar (CS Tryz.results62 (AB Aa) (AB Aa)) sN ⟨Aa,Aa⟩
 ·refine Ap (AJ (Af (wm Aa (wv (Bv (ys:=fields) (enc:=eS) Db Aa) (wv (r:=rI .u8 (IntKind.wrap .u8 (fields.length:Int))) (Gm ⟨_,Qr⟩ Qq Aa) (AQ (ys:=([IntKind.wrap .u8 (fields.length:Int)]:List Int)) (enc:=B9) (css:=[[rI .u8 (IntKind.wrap .u8 (fields.length:Int))]]) (xs:=[.tmp 12]) EK Zt Zs Aa Aa Aa ⟨Eo.one Aa (Up.refl _),trivial⟩ Aa D1 Aa Aa Aa (λb4=>?_)))))));refine wa Aa (Ao (Ai (Af (wm Aa (wv (Bv (ys:=fields) (enc:=eS) Db Aa) (wv (r:=Ak 0) (Aq Aa) (Ao (AL (ob h3 λhj hk hh=>B4 (S:=Nat×((List Int)×Int)×(Value)) (V:=((List Int))×(Value)) 0 (λσ=>Ca (λσ=>GV fields σ.1 σ.2) σ.1 σ.2.1=some hj) (λσ=>[(2,rS ([]:Ae)),(3,Ak 0),(4,rv σ.2.2),(14,AX 1 (A1 eS fields)),(15,Ak (fields.length:Int)),(16,Ak σ.2.1.2)]) (λσ=>[.row σ.2.2 5 1 (A1 B9 σ.2.1.1)]) (λσ=>σ.1) (F,(([IntKind.wrap .u8 (fields.length:Int)]:List Int),0),(.slice (some ⟨b4,0,none⟩) 1 1)) hk (AM.c Aa (AM.c5 Aa Aa Aa Aa Aa AM.nil)) (sC sN) (λσ=>LS σ.1=some r) (λσ=>[(2,rS ([]:Ae)),(3,Ak 0),(4,rv σ.2)]) (λσ=>[.row σ.2 5 1 (A1 B9 σ.1)]) ?_ ?_)))))))))
  ·rintro⟨h8,⟨hb,ha⟩,v41⟩ hl;refine Cd (l':=[(2,rS ([]:Ae)),(3,Ak 0),(4,rv v41),(14,AX 1 (A1 eS fields)),(15,Ak (fields.length:Int)),(16,Ak ha)]) (H':=[.row v41 5 1 (A1 B9 hb)]) Aa Aa ?_;obtain⟨hm,rfl,hn,hd,hg⟩:=Cz hl;replace hd:GV fields hb ha=some hn:=hd;unfold GV at hd;refine Af (wv (Ch Aa Aa) (Ao (Ai (cz hd Aa (λho hp=>?_) (λho hq=>?_)))))
   ·refine Ap (AJ (Ai (AL (Af (ck hp λhr hs=>wv (B3 (enc:=eS) (ys:=fields) Db CG Aa Aa hr) (wv (Bo CV Aa Aa) (wa Aa (Ao (Ai (Af (wm Aa (wv (Bm BZ Aa) (wv (Cv Aa Aa) (Ao (cz hs Aa (λc75 ht=>?_) (λc75 hu=>?_))))))))))))))))
    ·refine Af (wv (r:=rS ([]:Ae)) (Av Aa) (wa Aa (Ao (As (Ad (A3 (Ad (Ad (Bc ?_)))))))));have hw:=Bz ht hg hh;refine A3 (Ad ?_);obtain rfl:=At hw;exact Ar (CS Tryz.results62 (AB Aa) (AB Aa)) (sS sN) ⟨Aa,Aa⟩
    ·refine Ap (AJ (Af (wm Aa (wm Aa (wv (Bm BZ Aa) (wv (r:=Ak (KZ .i64 ((Am fields ha).length:Int) 8)) (Aak Aa Aa (by decide)) (wv (r:=rI .u8 (IntKind.wrap .u8 (KZ .i64 ((Am fields ha).length:Int) 8))) (Gm ⟨_,Qr⟩ Qq Aa) (wm Aa (wv (Bm BZ Aa) (wv (r:=rI .u8 (IntKind.wrap .u8 ((Am fields ha).length:Int))) (Gm ⟨_,Qr⟩ Qq Aa) (AQ (ys:=([IntKind.wrap .u8 (KZ .i64 ((Am fields ha).length:Int) 8),IntKind.wrap .u8 ((Am fields ha).length:Int)]:List Int)) (enc:=B9) (css:=[[rI .u8 (IntKind.wrap .u8 (KZ .i64 ((Am fields ha).length:Int) 8))],[rI .u8 (IntKind.wrap .u8 ((Am fields ha).length:Int))]]) (xs:=[.tmp 27,.tmp 30]) EK Zt Zs Aa Aa Aa ⟨Eo.one Aa (Up.refl _),Eo.one Aa (Up.refl _),trivial⟩ Aa D1 Aa Aa Aa (λh9=>?_))))))))))));refine ck hu λhx hy=>Exists.elim LN λinf hinf=>BL (xs:=hb) (ys:=([IntKind.wrap .u8 (KZ .i64 ((Am fields ha).length:Int) 8),IntKind.wrap .u8 ((Am fields ha).length:Int)]:List Int)) (enc:=B9) (i:=1) EK hinf.1 hinf.2.1 hinf.2.2.1 hinf.2.2.2 Aa Aa Aa Aa Aa (I5.w (i:=0) Aa Aa) D1 IR hx Aa (λv80=>?_);refine wa Aa (Ao (Ah (wm Aa (wm Aa (ck hy λhz h0=>Exists.elim LN λinf hinf=>Hi (xs:=hb++([IntKind.wrap .u8 (KZ .i64 ((Am fields ha).length:Int) 8),IntKind.wrap .u8 ((Am fields ha).length:Int)]:List Int)) (i:=0) EK BZ hinf.1 hinf.2.1 hinf.2.2.1 hinf.2.2.2 Aa Aa Aa hz Aa (λh1=>?_))))));refine wa Aa (Aj (AF (AJ (Ah (ck h0 λh4 h5=>wv (Bh Aa Aa h4) (wm Aa (Aj ?_)))))));have h6:=Bg h5 hg;exact Au (AD (hm,((hb++([IntKind.wrap .u8 (KZ .i64 ((Am fields ha).length:Int) 8),IntKind.wrap .u8 ((Am fields ha).length:Int)]:List Int))++D9 (Am fields ha),ha+1),h1) ⟨h6,Abo _⟩ (AM.c Aa (AM.c5 Aa Aa Aa Aa Aa AM.nil)) (sC (sS sN)))
   ·refine BB (A2 ?_);have h7:=Cb hq hg hh;exact A2 (Bn (AD (hb,v41) h7 (AM.c Aa (AM.c Aa (AM.c Aa AM.nil))) (sC sN)))
  ·rintro⟨he,hi⟩ hf;refine C4 (l':=[(2,rS ([]:Ae)),(3,Ak 0),(4,rv hi)]) (H':=[.row hi 5 1 (A1 B9 he)]) Aa Aa ?_;replace hf:LS he=some r:=hf;unfold LS at hf;refine Bi (AJ (Af (wm Aa (wv (r:=rS (Qs he)) (Wx (xs:=he) (i:=0) EK BZ Qq Aa Aa) (wa Aa (wa Aa (Ao (As ?_))))))));obtain rfl:=At hf;exact Ar (CS Tryz.results62 (AB Aa) (AB Aa)) (sS sN) ⟨Aa,Aa⟩
theorem Vj (F:Nat)(s:Ae)(r:(List Ae)×Int)(h:LR F s=some r):Fn Tryz.prog GE 66 [rS s] [] (λR H=>R=Cs [AX 1 (A1 eS r.1),Ak r.2]∧H=[]):=by
 refine enter (n:=58) Tryz.func66 Aa Tryz.ntmps66 Aa (λw Z=>?_);unfold LR at h;refine Af (wa Aa (wa Aa (Ao (OC (S:=(Int)×(Unit)) 0 (λσ=>DY σ.1=some r) (λσ=>[(2,rv (.slice none 0 0)),(3,Ak 0),(7,Ak σ.1)]) (λσ=>[]) Aa ?_ ?_))))
 ·refine Af (wa Aa (Bs (wa Aa (wa Aa (Bs (wa Aa (Ao (Ai (Af (wm Aa (wv (DN Aa Aa) (Ao (cz h Aa (λhq hr=>?_) (λhq hs=>?_))))))))))))))
  ·exact JZ (Cj (JX (AD (14,()) hr (AM.c Aa (AM.c Aa (AM.c Aa AM.nil))) sN)))
  ·refine Ap (AJ (Ai (ck hs λht hu=>ck hu λhw hx=>ck hx λhy hz=>CK 6 [0,2,3,4,6,7] [⟨[],rS s,none,none,none⟩,⟨[0],rI .u8 (Be s 0),none,none,none⟩,⟨[1],Ak (Be s 0),none,none,none⟩,⟨[],rS s,none,none,none⟩,⟨[3],rS (List.drop (B6 1) s),none,none,none⟩,⟨[2],Ak (Be s 0),none,none,none⟩] ?_ (λβ=>?_))))
   ·refine Cu (Aq Aa) (Cu (Bb BZ Aa Aa ht) (Cu (DB ⟨_,Qq⟩ Qr Aa hw) (Cu (Aq Aa) (Cu (E5 BZ Aa Aa hy) (Cu (Av Aa) ?_)))));exact O6
   refine Dp (H1:=[]) [10,11,12,13,14,5,0,2,3,4,6,7] ?_;refine wa Aa (Ao (Ai (Af (wm Aa (wv (Cv Aa Aa) (Ao (cz hz Aa (λc167 h0=>?_) (λc167 h1=>?_))))))))
   ·exact Af (wa Aa (Ao (JZ (Cj (JX (AD (13,()) h0 (AM.c Aa (AM.c Aa (AM.c Aa AM.nil))) sN))))))
   ·refine Ap (AJ (Ai (Af (wm Aa (wv (r:=Ak 0) (Aq Aa) (Ao (AL (WC.nilrow (e:=9) (sz:=1) (ob h1 λh2 h3 hg=>B4 (S:=Nat×(Ae×(List Ae)×Int×Int)×(Value)) (V:=(Ae×(List Ae))×(Value)) 0 (λσ=>Ca (λσ=>CP s σ.1 σ.2.1 σ.2.2.1 σ.2.2.2) σ.1 σ.2.1=some h2) (λσ=>[(0,rS σ.2.1.1),(2,rv (.slice none 0 0)),(3,Ak 0),(4,rv σ.2.2),(6,Ak σ.2.1.2.2.1),(7,Ak 14),(17,Ak (Be s 0)),(18,Ak σ.2.1.2.2.2)]) (λσ=>[.row σ.2.2 9 1 (A1 eS σ.2.1.2.1)]) (λσ=>σ.1) (F,(List.drop (B6 1) s,([]:List Ae),0,0),(.slice none 0 0         )) h3 (AM.c Aa (AM.c Aa (AM.c Aa (AM.c5 Aa Aa Aa Aa Aa AM.nil)))) (sC sN) (λσ=>Ga σ.1.1 σ.1.2=some r) (λσ=>[(0,rS σ.1.1),(2,rv (.slice none 0 0)),(3,Ak 0),(4,rv σ.2),(7,Ak 14)]) (λσ=>[.row σ.2 9 1 (A1 eS σ.1.2)]) ?_ ?_)))))))))
    ·rintro⟨gt,⟨ha,hd,hl,hk⟩,v233⟩ h4;refine Cd (l':=[(0,rS ha),(2,rv (.slice none 0 0)),(3,Ak 0),(4,rv v233),(6,Ak hl),(7,Ak 14),(17,Ak (Be s 0)),(18,Ak hk)]) (H':=[.row v233 9 1 (A1 eS hd)]) Aa Aa ?_;obtain⟨h5,rfl,h6,hh,hf⟩:=Cz h4;replace hh:CP s ha hd hl hk=some h6:=hh;unfold CP at hh;refine Af (wv (Ch Aa Aa) (Ao (Ai (cz hh Aa (λh7 h8=>?_) (λh7 h9=>?_)))))
     ·refine Ap (AJ (Ai (AL (Ai (Af (wm Aa (wv (Bm BZ Aa) (wv (Ch Aa Aa) (Ao (cz h8 Aa (λhA hB=>?_) (λhA hC=>?_)))))))))))
      ·refine JZ (Cj (G9 (Cj (Cj (J8 (G9 (Cj (JX (ob hB λgu hD hE=>?_)))))))));have hG:=Bz hE hf hg;obtain rfl:=At hG;exact AD (14,()) hD (AM.c Aa (AM.c Aa (AM.c Aa AM.nil))) (sS sN)
      ·refine Ap (AJ (Ai (ck hC λhH hI=>ck hI λhJ hK=>ck hK λhL hN=>ck hN λhO hP=>ck hP λhQ hR=>CK 11 [0,2,3,4,7,17,18,19,20,21,22] [⟨[],rS ha,none,none,none⟩,⟨[0],rI .u8 (Be ha 0),none,none,none⟩,⟨[1],Ak (Be ha 0),none,none,none⟩,⟨[2],Ak (G2 .i64 (Be ha 0) 8),none,none,none⟩,⟨[],rS ha,none,none,none⟩,⟨[4],rI .u8 (Be ha 1),none,none,none⟩,⟨[5],Ak (Be ha 1),none,none,none⟩,⟨[3,6],Ak (MS .i64 (G2 .i64 (Be ha 0) 8) (Be ha 1)),none,none,none⟩,⟨[],rS ha,none,none,none⟩,⟨[8],rS (List.drop (B6 2) ha),none,none,none⟩,⟨[7],Ak (MS .i64 (G2 .i64 (Be ha 0) 8) (Be ha 1)),none,none,none⟩] ?_ (λβ=>?_))))
       ·refine Cu (Aq Aa) (Cu (Bb BZ Aa Aa hH) (Cu (DB ⟨_,Qq⟩ Qr Aa hJ) (Cu (Aal Aa Aa (by decide)) (Cu (Aq Aa) (Cu (Bb BZ Aa Aa hL) (Cu (DB ⟨_,Qq⟩ Qr Aa hO) (Cu (AaI Aa Aa) (Cu (Aq Aa) (Cu (E5 BZ Aa Aa hQ) (Cu (Av Aa) ?_))))))))));exact O6
       refine Dp (H1:=[.row v233 9 1 (A1 eS hd)]) [23,24,25,26,27,28,29,30,31,32,6,0,2,3,4,7,17,18,19,20,21,22] ?_;refine wa Aa (Ao (Ai (Af (wm Aa (wv (Cv Aa Aa) (Ao (cz hR Aa (λhS hT=>?_) (λhS hU=>?_))))))))
       ·refine Af (wa Aa (Ao (JZ (Cj (G9 (Cj (Cj (J8 (G9 (Cj (JX (ob hT λgv hV hW=>?_))))))))))));have hX:=Bz hW hf hg;obtain rfl:=At hX;exact AD (13,()) hV (AM.c Aa (AM.c Aa (AM.c Aa AM.nil))) (sS sN)
       ·refine Ap (AJ (Ai (Af (wm Aa (wv (Bm BZ Aa) (wm Aa (wv (Ch Aa Aa) (Ao (cz hU Aa (λhY hZ=>?_) (λhY ga=>?_))))))))))
        ·refine JZ (Cj (G9 (Cj (Cj (J8 (G9 (Cj (JX (ob hZ λgw gb gc=>?_)))))))));have gd:=Bz gc hf hg;obtain rfl:=At gd;exact AD (14,()) gb (AM.c Aa (AM.c Aa (AM.c Aa AM.nil))) (sS sN)
        ·refine Ap (AJ (ck ga λhm ge=>ck ge λgf gg=>Exists.elim RC λinf hinf=>Zu 10 5 [0,2,3,6,7,17,18,20,21,22,23,24,25,26,27,28,29,30,31,32,33,34,35,36,37,38] [4] [{ deps:=[],r:=λ_=>rv v233,old:=[4] },{ deps:=[],r:=λ_=>rS (List.drop (B6 2) ha) },{ deps:=[],r:=λ_=>Ak (MS .i64 (G2 .i64 (Be ha 0) 8) (Be ha 1)) },{ deps:=[1,2],r:=λ_=>rS (List.take (B6 (MS .i64 (G2 .i64 (Be ha 0) 8) (Be ha 1))) (List.drop (B6 2) ha)) },{ deps:=[3],r:=λ_=>AX 1 (A1 eS ([List.take (B6 (MS .i64 (G2 .i64 (Be ha 0) 8) (Be ha 1))) (List.drop (B6 2) ha)]:List Ae)) },{ deps:=[0,4],r:=λhb=>rv hb,dyn:=true },{ deps:=[],r:=λ_=>rS (List.drop (B6 2) ha) },{ deps:=[],r:=λ_=>Ak (MS .i64 (G2 .i64 (Be ha 0) 8) (Be ha 1)) },{ deps:=[6,7],r:=λ_=>rS (List.drop (B6 (MS .i64 (G2 .i64 (Be ha 0) 8) (Be ha 1))) (List.drop (B6 2) ha)) },{ deps:=[5],r:=λhb=>rv hb,dyn:=true }] (λhb=>[.row hb 9 1 (A1 eS (hd++([List.take (B6 (MS .i64 (G2 .i64 (Be ha 0) 8) (Be ha 1))) (List.drop (B6 2) ha)]:List Ae)))]) ?_ (λhb=>?_)))
         ·refine Zd (Aq Aa) (Zd (Aq Aa) (Zd (Aq Aa) (Zd (KV BZ Aa Aa hm) (oxc (GJ (ys:=([List.take (B6 (MS .i64 (G2 .i64 (Be ha 0) 8) (Be ha 1))) (List.drop (B6 2) ha)]:List Ae)) (enc:=eS) (css:=[[rS (List.take (B6 (MS .i64 (G2 .i64 (Be ha 0) 8) (Be ha 1))) (List.drop (B6 2) ha))]]) (xs:=[.tmp 42]) Db CG XC Aa Aa Aa ⟨Eo.one Aa (Up.refl _),trivial⟩ Aa Gb Aa Aa) (oxx (VA (xs:=hd) (ys:=([List.take (B6 (MS .i64 (G2 .i64 (Be ha 0) 8) (Be ha 1))) (List.drop (B6 2) ha)]:List Ae)) (enc:=eS) (i:=0) Db hinf.1 hinf.2.1 hinf.2.2.1 hinf.2.2.2 Aa Aa Aa Aa Aa (I5.z Aa Aa) Gb Oq gf) (Zd (Aq Aa) (Zd (Aq Aa) (Zd (E5 BZ Aa Aa hm) (Zd (fun {hb _}=>(Av Aa)) ?_)))))))));exact oxe
         refine Dp (H1:=[.row hb 9 1 (A1 eS (hd++([List.take (B6 (MS .i64 (G2 .i64 (Be ha 0) 8) (Be ha 1))) (List.drop (B6 2) ha)]:List Ae)))]) [39,40,41,42,43,44,45,46,47,4,0,2,3,6,7,17,18,20,21,22,23,24,25,26,27,28,29,30,31,32,33,34,35,36,37,38] ?_;refine wa Aa (Aj (AF (AJ (Ah (ck gg λgh gi=>wv (Bh Aa Aa gh) (wm Aa (Aj ?_)))))));have gj:=Bg gi hf;exact Au (AD (h5,(List.drop (B6 (MS .i64 (G2 .i64 (Be ha 0) 8) (Be ha 1))) (List.drop (B6 2) ha),hd++([List.take (B6 (MS .i64 (G2 .i64 (Be ha 0) 8) (Be ha 1))) (List.drop (B6 2) ha)]:List Ae),MS .i64 (G2 .i64 (Be ha 0) 8) (Be ha 1),hk+1),hb) ⟨gj,Abo _⟩ (AM.c Aa (AM.c Aa (AM.c Aa (AM.c5 Aa Aa Aa Aa Aa AM.nil)))) (sC sN))
     ·refine BB (A2 ?_);have gl:=Cb h9 hf hg;exact A2 (Bn (AD ((ha,hd),v233) gl (AM.c5 Aa Aa Aa Aa Aa AM.nil) (sC sN)))
    ·rintro⟨⟨hn,he⟩,ho⟩ hi;refine C4 (l':=[(0,rS hn),(2,rv (.slice none 0 0)),(3,Ak 0),(4,rv ho),(7,Ak 14)]) (H':=[.row ho 9 1 (A1 eS he)]) Aa Aa ?_;replace hi:Ga hn he=some r:=hi;unfold Ga at hi;refine Bi (AJ (Ai (Af (wm Aa (wv (NR Aa Aa) (Ao (cz hi Aa (λgm gp=>?_) (λgm gq=>?_))))))))
     ·exact Af (wa Aa (Ao (JZ (Cj (JX (AD (13,()) gp (AM.c Aa (AM.c Aa (AM.c Aa AM.nil))) (sS sN)))))))
     ·refine Ap (AJ (Ai (Af (wm Aa (wm Aa (wv (D4 (ys:=he) (enc:=eS) (i:=0) Db Aa Aa) (wm Aa (wv (D4 (ys:=he) (enc:=eS) (i:=0) Db Aa Aa) (WL.freeze (i:=0) Aa (WL.up (d:=51) (r:=AX 1 (A1 eS he)) Aa (Up.fact (i:=0) Aa) (ck gq λgr gs=>wv (r:=AX 1 (A1 eS (List.take (B6 (he.length:Int)) he))) (Rn Db CG Aa Aa Aa gr) (wa Aa (wa Aa (Ao (As (Ad (XT ?_)))))))))))))))));obtain rfl:=At gs;exact Ar (CS Tryz.results66 (AB Aa) (AB Aa)) (sS sN) ⟨Aa,Aa⟩
 ·rintro⟨hp,⟨⟩⟩ hj;refine Cd (l':=[(2,rv (.slice none 0 0)),(3,Ak 0),(7,Ak hp)]) (H':=[]) Aa Aa ?_;replace hj:DY hp=some r:=hj;unfold DY at hj;refine Ai (Ap (AJ (Af (wm Aa (wa Aa (wa Aa (Ao (As (JW (WK.up (d:=2) (r:=AX 1 (A1 eS ([]:List Ae))) Aa (Up.le (DZ.nil _)) ?_))))))))));obtain rfl:=At hj;exact Ar (CS Tryz.results66 (AB Aa) (AB Aa)) sN ⟨Aa,Aa⟩
theorem We (F:Nat)(fields:(List Ae))(r:Ae×Int)(h:NO F fields=some r):Fn Tryz.prog GE 65 [AX 1 (A1 eS fields)] [] (λR H=>R=Cs [rS r.1,Ak r.2]∧H=[]):=by
 refine enter (n:=50) Tryz.func65 Aa Tryz.ntmps65 Aa (λw Z=>?_);unfold NO at h;refine Af (wv (r:=rS ([]:Ae)) (Av Aa) (wa Aa (Ao (Ai (Af (wm Aa (wv (Bv (ys:=fields) (enc:=eS) Db Aa) (wv (Cv Aa Aa) (Ao (cz h Aa (λc1 h2=>?_) (λc1 h3=>?_)))))))))))
 ·refine Af (wv (r:=rS ([]:Ae)) (Av Aa) (wa Aa (Ao (As (Ad ?_)))));obtain rfl:=At h2;exact Ar (CS Tryz.results65 (AB Aa) (AB Aa)) sN ⟨Aa,Aa⟩
 ·refine Ap (AJ (Af (wm Aa (wv (Bv (ys:=fields) (enc:=eS) Db Aa) (wv (r:=rI .u8 (IntKind.wrap .u8 (fields.length:Int))) (Gm ⟨_,Qr⟩ Qq Aa) (AQ (ys:=([IntKind.wrap .u8 (fields.length:Int)]:List Int)) (enc:=B9) (css:=[[rI .u8 (IntKind.wrap .u8 (fields.length:Int))]]) (xs:=[.tmp 11]) EK Zt Zs Aa Aa Aa ⟨Eo.one Aa (Up.refl _),trivial⟩ Aa D1 Aa Aa Aa (λb4=>?_)))))));refine wa Aa (Ao (Ai (Af (wm Aa (wv (Bv (ys:=fields) (enc:=eS) Db Aa) (wv (r:=Ak 0) (Aq Aa) (Ao (AL (ob h3 λhk hl hj=>B4 (S:=Nat×((List Int)×Int)×(Value)) (V:=((List Int))×(Value)) 0 (λσ=>Ca (λσ=>Gk fields σ.1 σ.2) σ.1 σ.2.1=some hk) (λσ=>[(0,AX 1 (A1 eS fields)),(4,rv σ.2.2),(14,Ak (fields.length:Int)),(15,Ak σ.2.1.2)]) (λσ=>[.row σ.2.2 5 1 (A1 B9 σ.2.1.1)]) (λσ=>σ.1) (F,(([IntKind.wrap .u8 (fields.length:Int)]:List Int),0),(.slice (some ⟨b4,0,none⟩) 1 1)) hl (AM.c Aa (AM.c Aa (AM.c Aa (AM.c Aa AM.nil)))) (sC sN) (λσ=>Ke σ.1=some r) (λσ=>[(4,rv σ.2)]) (λσ=>[.row σ.2 5 1 (A1 B9 σ.1)]) ?_ ?_)))))))))
  ·rintro⟨hB,⟨hb,ha⟩,hd⟩ hm;refine Cd (l':=[(0,AX 1 (A1 eS fields)),(4,rv hd),(14,Ak (fields.length:Int)),(15,Ak ha)]) (H':=[.row hd 5 1 (A1 B9 hb)]) Aa Aa ?_;obtain⟨hn,rfl,ho,he,hi⟩:=Cz hm;replace he:Gk fields hb ha=some ho:=he;unfold Gk at he;refine Af (wv (Ch Aa Aa) (Ao (Ai (cz he Aa (λhp hq=>?_) (λhp hr=>?_)))))
   ·refine Ap (AJ (Ai (AL (Af (wm Aa (wa Aa (Ao (Ai (Af (wm Aa (wm Aa (ck hq λhf hs=>wv (B3 (enc:=eS) (ys:=fields) Db CG Aa Aa hf) (wv (Bo CV Aa Aa) (wv (Bm BZ Aa) (wv (Cv Aa Aa) (Ao (cz hs Aa (λht hu=>?_) (λht hw=>?_))))))))))))))))))
    ·refine Af (wv (r:=rS ([]:Ae)) (Av Aa) (wa Aa (Ao (As (Ad (A3 (Ad (Ad (Bc ?_)))))))));have hx:=Bz hu hi hj;refine A3 (Ad ?_);obtain rfl:=At hx;exact Ar (CS Tryz.results65 (AB Aa) (AB Aa)) (sS sN) ⟨Aa,Aa⟩
    ·refine Ap (AJ (Ai (ck hw λhy hz=>CK 16 [0,4,5,14,15] [⟨[],rv hd,none,none,none⟩,⟨[],AX 1 (A1 eS fields),none,none,none⟩,⟨[],Ak ha,none,none,none⟩,⟨[1,2],O5 [rS (Am fields ha)],none,none,none⟩,⟨[3],rS (Am fields ha),none,none,none⟩,⟨[4],Ak ((Am fields ha).length:Int),none,none,none⟩,⟨[5],Ak (Int.tdiv ((Am fields ha).length:Int) 256),none,none,none⟩,⟨[6],rI .u8 (IntKind.wrap .u8 (Int.tdiv ((Am fields ha).length:Int) 256)),none,none,none⟩,⟨[],AX 1 (A1 eS fields),none,none,none⟩,⟨[],Ak ha,none,none,none⟩,⟨[8,9],O5 [rS (Am fields ha)],none,none,none⟩,⟨[10],rS (Am fields ha),none,none,none⟩,⟨[11],Ak ((Am fields ha).length:Int),none,none,none⟩,⟨[12],Ak (Int.tmod ((Am fields ha).length:Int) 256),none,none,none⟩,⟨[13],rI .u8 (IntKind.wrap .u8 (Int.tmod ((Am fields ha).length:Int) 256)),none,none,none⟩,⟨[7,14],AX 1 (A1 B9 ([IntKind.wrap .u8 (Int.tdiv ((Am fields ha).length:Int) 256),IntKind.wrap .u8 (Int.tmod ((Am fields ha).length:Int) 256)]:List Int)),none,none,none⟩] ?_ (λβ=>?_))))
     ·refine Cu (Aq Aa) (Cu (Aq Aa) (Cu (Aq Aa) (Cu (B3 (enc:=eS) (ys:=fields) Db CG Aa Aa hf) (Cu (Bo CV Aa Aa) (Cu (Bm BZ Aa) (Cu (Wu Aa Aa (by decide) hy) (Cu (Gm ⟨_,Qr⟩ Qq Aa) (Cu (Aq Aa) (Cu (Aq Aa) (Cu (B3 (enc:=eS) (ys:=fields) Db CG Aa Aa hf) (Cu (Bo CV Aa Aa) (Cu (Bm BZ Aa) (Cu (Wt Aa Aa (by decide)) (Cu (Gm ⟨_,Qr⟩ Qq Aa) (Qt (GJ (ys:=([IntKind.wrap .u8 (Int.tdiv ((Am fields ha).length:Int) 256),IntKind.wrap .u8 (Int.tmod ((Am fields ha).length:Int) 256)]:List Int)) (enc:=B9) (css:=[[rI .u8 (IntKind.wrap .u8 (Int.tdiv ((Am fields ha).length:Int) 256))],[rI .u8 (IntKind.wrap .u8 (Int.tmod ((Am fields ha).length:Int) 256))]]) (xs:=[.tmp 31,.tmp 38]) EK Zt Zs Aa Aa Aa ⟨Eo.one Aa (Up.refl _),Eo.one Aa (Up.refl _),trivial⟩ Aa D1 Aa Aa) ?_)))))))))))))));exact O6
     refine Dp (H1:=[.row hd 5 1 (A1 B9 hb)]) [24,25,26,27,28,29,30,31,32,33,34,35,36,37,38,39,0,4,5,14,15] ?_;refine ck hz λh0 h1=>Exists.elim LN λinf hinf=>BL (xs:=hb) (ys:=([IntKind.wrap .u8 (Int.tdiv ((Am fields ha).length:Int) 256),IntKind.wrap .u8 (Int.tmod ((Am fields ha).length:Int) 256)]:List Int)) (enc:=B9) (i:=0) EK hinf.1 hinf.2.1 hinf.2.2.1 hinf.2.2.2 Aa Aa Aa Aa Aa (I5.z Aa Aa) D1 IR h0 Aa (λhC=>?_);refine wa Aa (Ao (Ah (wm Aa (wm Aa (wm Aa (wv (B3 (enc:=eS) (ys:=fields) Db CG Aa Aa hf) (wv (Bo CV Aa Aa) (ck h1 λh4 h5=>Exists.elim LN λinf hinf=>Hi (xs:=hb++([IntKind.wrap .u8 (Int.tdiv ((Am fields ha).length:Int) 256),IntKind.wrap .u8 (Int.tmod ((Am fields ha).length:Int) 256)]:List Int)) (i:=0) EK BZ hinf.1 hinf.2.1 hinf.2.2.1 hinf.2.2.2 Aa Aa Aa h4 Aa (λh6=>?_)))))))));refine wa Aa (Aj (AF (AJ (Ah (ck h5 λh7 h8=>wv (Bh Aa Aa h7) (wm Aa (Aj ?_)))))));have h9:=Bg h8 hi;exact Au (AD (hn,((hb++([IntKind.wrap .u8 (Int.tdiv ((Am fields ha).length:Int) 256),IntKind.wrap .u8 (Int.tmod ((Am fields ha).length:Int) 256)]:List Int))++D9 (Am fields ha),ha+1),h6) ⟨h9,Abo _⟩ (AM.c Aa (AM.c Aa (AM.c Aa (AM.c Aa AM.nil)))) (sC sN))
   ·refine BB (A2 ?_);have hA:=Cb hr hi hj;exact A2 (Bn (AD (hb,hd) hA (AM.c Aa AM.nil) (sC sN)))
  ·rintro⟨hg,v64⟩ hh;refine C4 (l':=[(4,rv v64)]) (H':=[.row v64 5 1 (A1 B9 hg)]) Aa Aa ?_;replace hh:Ke hg=some r:=hh;unfold Ke at hh;refine Bi (AJ (Af (wm Aa (wv (r:=rS (Qs hg)) (Wx (xs:=hg) (i:=0) EK BZ Qq Aa Aa) (wa Aa (wa Aa (Ao (As ?_))))))));obtain rfl:=At hh;exact Ar (CS Tryz.results65 (AB Aa) (AB Aa)) (sS sN) ⟨Aa,Aa⟩
theorem S7 (F:Nat)(s:Ae)(r:(List Ae)×Int)(h:JE F s=some r):Fn Tryz.prog GE 69 [rS s] [] (λR H=>R=Cs [AX 1 (A1 eS r.1),Ak r.2]∧H=[]):=by
 refine enter (n:=64) Tryz.func69 Aa Tryz.ntmps69 Aa (λw Z=>?_);unfold JE at h;refine Af (wa Aa (wa Aa (Ao (Ai (Af (wm Aa (wv (Bm BZ Aa) (wv (Ch Aa Aa) (Ao (cz h Aa (λc1 h2=>?_) (λc1 h3=>?_)))))))))))
 ·refine Af (wa Aa (wa Aa (Ao (As (Ad (WK.up (d:=2) (r:=AX 1 (A1 eS ([]:List Ae))) Aa (Up.le (DZ.nil _)) ?_))))));obtain rfl:=At h2;exact Ar (CS Sb (AB Aa) (AB Aa)) sN ⟨Aa,Aa⟩
 ·refine Ap (AJ (Ai (Af (wm Aa (ck h3 λg4 h5=>wv (Bb BZ Aa Aa g4) (wv (Cv Aa Aa) (Ao (cz h5 Aa (λc6 h7=>?_) (λc6 h8=>?_)))))))))
  ·refine Af (wa Aa (wa Aa (Ao (As (Ad (WK.up (d:=2) (r:=AX 1 (A1 eS ([]:List Ae))) Aa (Up.le (DZ.nil _)) ?_))))));obtain rfl:=At h7;exact Ar (CS Sb (AB Aa) (AB Aa)) sN ⟨Aa,Aa⟩
  ·refine Ap (AJ (Af (wa Aa (Bs (wa Aa (Ao (Ai (Af (wm Aa (wv (Bb BZ Aa Aa g4) (ck h8 λg9 ho=>wv (DB ⟨_,Qq⟩ Qr Aa g9) (wv (r:=Ak 0) (Aq Aa) (Ao (AL (WC.nilrow (e:=9) (sz:=1) (ob ho λhp hq he=>B4 (S:=Nat×((List Ae)×Int×Int)×(Value)) (V:=((List Ae)×Int)×(Value)) 0 (λσ=>Ca (λσ=>C7 s σ.1 σ.2.1 σ.2.2) σ.1 σ.2.1=some hp) (λσ=>[(0,rS s),(4,rv σ.2.2),(5,Ak σ.2.1.2.1),(15,Ak (Be s 0)),(16,Ak σ.2.1.2.2)]) (λσ=>[.row σ.2.2 9 1 (A1 eS σ.2.1.1)]) (λσ=>σ.1) (F,(([]:List Ae),1,0),(.slice none 0 0         )) hq (AM.c5 Aa Aa Aa Aa Aa AM.nil) (sC sN) (λσ=>E3 s σ.1.1 σ.1.2=some r) (λσ=>[(0,rS s),(4,rv σ.2),(5,Ak σ.1.2)]) (λσ=>[.row σ.2 9 1 (A1 eS σ.1.1)]) ?_ ?_))))))))))))))))
   ·rintro⟨gr,⟨hb,ha,hh⟩,hi⟩ hr;refine Cd (l':=[(0,rS s),(4,rv hi),(5,Ak ha),(15,Ak (Be s 0)),(16,Ak hh)]) (H':=[.row hi 9 1 (A1 eS hb)]) Aa Aa ?_;obtain⟨hs,rfl,ht,hf,hd⟩:=Cz hr;replace hf:C7 s hb ha hh=some ht:=hf;unfold C7 at hf;refine Af (wv (Ch Aa Aa) (Ao (Ai (cz hf Aa (λhu hw=>?_) (λhu hx=>?_)))))
    ·refine Ap (AJ (Ai (AL (Ai (Af (wm Aa (wv (Bm BZ Aa) (wm Aa (ck hw λhl hy=>wv (G6 Aa Aa hl) (wv (Ch Aa Aa) (Ao (cz hy Aa (λhz h0=>?_) (λhz h1=>?_)))))))))))))
     ·refine Af (wa Aa (wa Aa (Ao (As (Ad (A3 (Ad (Ad (Bc ?_)))))))));have h4:=Bz h0 hd he;refine A3 (Ad (WK.up (d:=2) (r:=AX 1 (A1 eS ([]:List Ae))) Aa (Up.le (DZ.nil _)) ?_));obtain rfl:=At h4;exact Ar (CS Sb (AB Aa) (AB Aa)) (sS sN) ⟨Aa,Aa⟩
     ·refine Ap (AJ (Ai (ck h1 λh6 h9=>ck h9 λhA hB=>ck hB λhC hD=>ck hD λhE hG=>ck hG λhH hI=>ck hI λhJ hK=>ck hK λhL hN=>Df [0,4,5,15,16] [⟨[],rS s,0⟩,⟨[],Ak ha,0⟩,⟨[0,1],rI .u8 (Be s ha),0⟩,⟨[2],Ak (Be s ha),0⟩,⟨[3],Ak ((Be s ha)*256),0⟩,⟨[],rS s,0⟩,⟨[],Ak ha,0⟩,⟨[6],Ak (ha+1),0⟩,⟨[5,7],rI .u8 (Be s (ha+1)),0⟩,⟨[8],Ak (Be s (ha+1)),0⟩,⟨[4,9],Ak (((Be s ha)*256)+(Be s (ha+1))),0⟩,⟨[10],Ak (((Be s ha)*256)+(Be s (ha+1))),0⟩] [23,24,25,26,27,28,29,30,31,32,33,6,0,4,5,15,16] ?_ ?_)))
      ·refine oq (Aq Aa) (oq (Aq Aa) (oq (Bb BZ Aa Aa h6) (oq (DB ⟨_,Qq⟩ Qr Aa hA) (oq (Ro Aa Aa hC) (oq (Aq Aa) (oq (Aq Aa) (oq (Bh Aa Aa hE) (oq (Bb BZ Aa Aa hH) (oq (DB ⟨_,Qq⟩ Qr Aa hJ) (oq (Bh Aa Aa hL) (oq (Av Aa) ?_)))))))))));exact CE
      refine AJ (Ai (Af (wm Aa (wv (Cv Aa Aa) (Ao (cz hN Aa (λhO hP=>?_) (λhO hQ=>?_)))))))
      ·refine Af (wa Aa (wa Aa (Ao (As (Ad (A3 (Ad (Ad (Bc ?_)))))))));have hR:=Bz hP hd he;refine A3 (Ad (WK.up (d:=2) (r:=AX 1 (A1 eS ([]:List Ae))) Aa (Up.le (DZ.nil _)) ?_));obtain rfl:=At hR;exact Ar (CS Sb (AB Aa) (AB Aa)) (sS sN) ⟨Aa,Aa⟩
      ·refine Ap (AJ (Ai (Af (wm Aa (wv (Bm BZ Aa) (wm Aa (wv (G6 Aa Aa hl) (ck hQ λhS hT=>wv (G6 Aa Aa hS) (wm Aa (wv (Ch Aa Aa) (Ao (cz hT Aa (λhU hV=>?_) (λhU hW=>?_)))))))))))))
       ·refine Af (wa Aa (wa Aa (Ao (As (Ad (A3 (Ad (Ad (Bc ?_)))))))));have hX:=Bz hV hd he;refine A3 (Ad (WK.up (d:=2) (r:=AX 1 (A1 eS ([]:List Ae))) Aa (Up.le (DZ.nil _)) ?_));obtain rfl:=At hX;exact Ar (CS Sb (AB Aa) (AB Aa)) (sS sN) ⟨Aa,Aa⟩
       ·refine Ap (AJ (Af (wm Aa (wm Aa (wm Aa (ck hW λhj hY=>wv (Bh Aa Aa hj) (wm Aa (wv (Bh Aa Aa hj) (wm Aa (ck hY λhm hZ=>wv (Bh Aa Aa hm) (ck hZ λga gb=>ck gb λgc gd=>wv (DX BZ Aa Aa Aa ga gc) (AQ (ys:=([List.take (B6 ((ha+2)+(((Be s ha)*256)+(Be s (ha+1))))-B6 (ha+2)) (List.drop (B6 (ha+2)) s)]:List Ae)) (enc:=eS) (css:=[[rS (List.take (B6 ((ha+2)+(((Be s ha)*256)+(Be s (ha+1))))-B6 (ha+2)) (List.drop (B6 (ha+2)) s))]]) (xs:=[.tmp 51]) Db CG XC Aa Aa Aa ⟨Eo.one Aa (Up.refl _),trivial⟩ Aa Gb Aa Aa Aa (λgs=>?_)))))))))))));refine ck gd λge gf=>Exists.elim RC λinf hinf=>BL (xs:=hb) (ys:=([List.take (B6 ((ha+2)+(((Be s ha)*256)+(Be s (ha+1))))-B6 (ha+2)) (List.drop (B6 (ha+2)) s)]:List Ae)) (enc:=eS) (i:=1) Db hinf.1 hinf.2.1 hinf.2.2.1 hinf.2.2.2 Aa Aa Aa Aa Aa (I5.w (i:=0) Aa Aa) Gb Oq ge Aa (λgg=>?_);refine wa Aa (Ao (Ah (wm Aa (wv (Bh Aa Aa hj) (wm Aa (wv (Bh Aa Aa hm) (wa Aa (Aj (AF (AJ (Ah (ck gf λgh gi=>wv (Bh Aa Aa gh) (wm Aa (Aj ?_))))))))))))));have gj:=Bg gi hd;exact Au (AD (hs,(hb++([List.take (B6 ((ha+2)+(((Be s ha)*256)+(Be s (ha+1))))-B6 (ha+2)) (List.drop (B6 (ha+2)) s)]:List Ae),(ha+2)+(((Be s ha)*256)+(Be s (ha+1))),hh+1),gg) ⟨gj,Abo _⟩ (AM.c5 Aa Aa Aa Aa Aa AM.nil) (sC (sS sN)))
    ·refine BB (A2 ?_);have gl:=Cb hx hd he;exact A2 (Bn (AD ((hb,ha),hi) gl (AM.c Aa (AM.c Aa (AM.c Aa AM.nil))) (sC sN)))
   ·rintro⟨⟨hk,hn⟩,v146⟩ hg;refine C4 (l':=[(0,rS s),(4,rv v146),(5,Ak hn)]) (H':=[.row v146 9 1 (A1 eS hk)]) Aa Aa ?_;replace hg:E3 s hk hn=some r:=hg;unfold E3 at hg;refine Bi (AJ (Ai (Af (wm Aa (wm Aa (wv (Bm BZ Aa) (wv (Ch Aa Aa) (Ao (cz hg Aa (λgm gp=>?_) (λgm gq=>?_))))))))))
    ·refine Af (wa Aa (wa Aa (Ao (As (Ad (WK.up (d:=2) (r:=AX 1 (A1 eS ([]:List Ae))) Aa (Up.le (DZ.nil _)) ?_))))));obtain rfl:=At gp;exact Ar (CS Sb (AB Aa) (AB Aa)) (sS sN) ⟨Aa,Aa⟩
    ·refine Ap (AJ (Af (wm Aa (wa Aa (wa Aa (Ao (As (WK.freeze (i:=0) Aa (WK.up (d:=2) (r:=AX 1 (A1 eS hk)) Aa (Up.fact (i:=0) Aa) ?_)))))))));obtain rfl:=At gq;exact Ar (CS Sb (AB Aa) (AB Aa)) (sS sN) ⟨Aa,Aa⟩
end Go.Proofs.YtogdediiodmnbaaGreatDoor.Q
namespace Go.Proofs.YtogdediiodmnbaaGreatDoor
open Go
set_option linter.unusedVariables false
set_option linter.unusedSimpArgs false
section
variable {T S : Type}
def G1:List (Ae×T)→Ae→Option T
 | [],_=>none
 | p::r,k=>bif decide (p.1=k) then some p.2 else G1 r k
def AN (xs:List (Ae×T))(k:Ae)(z:T):T:=(G1 xs k).getD z
def C2 (xs:List (Ae×T))(k:Ae):Bool:=(G1 xs k).isSome
def Rz (k:Ae)(v:T):List (Ae×T)→List (Ae×T)
 | []=>[(k,v)]
 | p::r=>bif CW k p.1 then(k,v)::p::r else p::Rz k v r
def Ms (xs:List (Ae×T))(k:Ae)(v:T):List (Ae×T):=xs.map λp=>bif decide (p.1=k) then(k,v) else p
def By (xs:List (Ae×T))(k:Ae)(v:T):List (Ae×T):=bif C2 xs k then Ms xs k v else Rz k v xs
def Ba (f:T→S)(xs:List (Ae×T)):List (Ae×S):=xs.map λp=>(p.1,f p.2)
theorem JK (f:T→S):∀(xs:List (Ae×T)) (k:Ae),G1 (Ba f xs) k=(G1 xs k).map f
 | [],k=>rfl
 | p::r,k=>by
  show(bif decide (p.1=k) then some (f p.2) else G1 (Ba f r) k)=_;rw[G1,JK f r k]
  cases decide (p.1=k)<;>rfl
theorem WB (f:T→S)(xs:List (Ae×T))(k:Ae):C2 (Ba f xs) k=C2 xs k:=by
 unfold C2;rw[JK];cases G1 xs k<;>rfl
theorem Ry (f:T→S)(k:Ae)(v:T):∀xs:List (Ae×T),Ba f (Rz k v xs)=Rz k (f v) (Ba f xs)
 | []=>rfl
 | p::r=>by
  show Ba f (bif CW k p.1 then(k,v)::p::r else p::Rz k v r)=(bif CW k p.1 then(k,f v)::(p.1,f p.2)::Ba f r else(p.1,f p.2)::Rz k (f v) (Ba f r));rw[← Ry f k v r]
  cases CW k p.1<;>rfl
theorem WA (f:T→S)(xs:List (Ae×T))(k:Ae)(v:T):Ba f (By xs k v)=By (Ba f xs) k (f v):=by
 unfold By;rw[WB]
 cases C2 xs k with
 | false=>exact Ry f k v xs
 | true=>
  show Ba f (Ms xs k v)=Ms (Ba f xs) k (f v);unfold Ba Ms;rw[Acb,Acb];refine List.map_congr_left λp _=>?_;show _=(bif decide (p.1=k) then(k,f v) else(p.1,f p.2));simp only[Function.comp]
  cases decide (p.1=k)<;>rfl
theorem JL (f:T→S)(xs:List (Ae×T)):(Ba f xs).length=xs.length:=by simp[Ba]
theorem Pi (k:Ae)(v:T):∀xs:List (Ae×T),(Rz k v xs).Perm ((k,v)::xs)
 | []=>Abg _
 | p::r=>by
  rw[Rz]
  cases CW k p.1 with
  | true=>exact Abg _
  | false=>exact((Pi k v r).cons p).trans (List.Perm.swap _ _ _)
end
structure A0 where
 fEntity:Ae
 fID:Ae
 fOp:Ae
 fArgs:(List (List Ab))
 deriving DecidableEq,Inhabited
structure Bk where
 fErr:Int
 fValue:(List Ab)
 deriving DecidableEq,Inhabited
structure AV where
 fOp:A0
 fAnswer:Bk
 fFrom:Int
 fTo:Int
 deriving DecidableEq,Inhabited
def Gy (ys:(List Ab)):Option ((List Ab)):=
 AY (Dz 40 (([]:List Ab).length+ys.length))<|some (([]:List Ab)++ys)
def PY (c:Int):Option (Bool):=
 some ((decide (97≤c))&&(decide (c≤122)))
def N0 (c:Int):Option (Bool):=
 some ((decide (48≤c))&&(decide (c≤57)))
def C8 (ha:Bool):Option (Bool):=
 some ha
def PZ (c:Int):Option (Bool):=
 B0 (PY c) λha=>Bl (ha) (C8 true) (Bl (decide (65≤c)) (Bl (decide (c≤90)) (C8 true) (B0 (N0 c) λhb=>Bl (hb) (C8 true) (Bl (decide (c=45)) (C8 true) (Bl (decide (c=95)) (C8 true) (Bl (decide (c=46)) (C8 true) (Bl (decide (c=58)) (C8 true) (C8 (decide (c=47))))))))) (B0 (N0 c) λhd=>Bl (hd) (C8 true) (Bl (decide (c=45)) (C8 true) (Bl (decide (c=95)) (C8 true) (Bl (decide (c=46)) (C8 true) (Bl (decide (c=58)) (C8 true) (C8 (decide (c=47)))))))))
def Kw (s:Ae)(ha:Int):Option (Stp (Int) (Out (Bool) (Unit))):=
 Bl (decide (ha<(s.length:Int))) (AY (Cp ha (s.length:Int))<|B0 (PZ (Be s ha)) λhb=>Bl (!hb) (some (.out (.ret false))) (AY (B2 .i64 (ha+1))<|some (.next (ha+1)))) (some (.out (.go ())))
def Nz :Option (Bool):=
 some true
def La (F:Nat)(s:Ae):Option (Bool):=
 Bl (((decide ((s.length:Int)<1))||(decide (64<(s.length:Int))))) (some false) (B0 (Ca (λσ=>Kw s σ) F 0) (BT λν=>Nz ))
def Oc (op:Ae):Option (Int×Bool):=
 some (AN (By (By (By (By ([]:List (Ae×Int)) ([114,101,97,100]:Ae) 0) ([119,114,105,116,101]:Ae) 1) ([97,100,100]:Ae) 1) ([99,97,115]:Ae) 2) op 0,C2 (By (By (By (By ([]:List (Ae×Int)) ([114,101,97,100]:Ae) 0) ([119,114,105,116,101]:Ae) 1) ([97,100,100]:Ae) 1) ([99,97,115]:Ae) 2) op)
def H3 (F:Nat)(op:A0)(ha:Int):Option (Stp (Int) (Out (Int) (Unit))):=
 Bl (decide (ha<(op.fArgs.length:Int))) (AY (Cp ha (op.fArgs.length:Int))<|B0 (JA F (Am op.fArgs ha)) λhb=>Bl (!decide (hb=0)) (some (.out (.ret hb))) (AY (B2 .i64 (ha+1))<|some (.next (ha+1)))) (some (.out (.go ())))
def Kn :Option (Int):=
 some 0
def Jn (F:Nat)(op:A0):Option (Int):=
 B0 (Oc op.fOp) λr2=>Bl (((!(J4 op.fEntity))||((!(J4 op.fID))||(!r2.2)))) (some 4) (Bl (!decide ((op.fArgs.length:Int)=r2.1)) (some 7) (B0 (Ca (λσ=>H3 F op σ) F 0) (BT λν=>Kn )))
def Mr (state:(List Ab))(args:(List (List Ab))):Option ((List Ab)×Bk):=
 B0 (Gy state) λr2=>some (state,(Bk.mk 0 r2))
def KW (state:(List Ab))(args:(List (List Ab))):Option ((List Ab)×Bk):=
 AY (Cp 0 (args.length:Int))<|B0 (Gy (Am args 0)) λr4=>B0 (QH) λr7=>some (r4,(Bk.mk 0 r7))
def NZ (F:Nat)(state:(List Ab))(args:(List (List Ab))):Option ((List Ab)×Bk):=
 AY (Cp 0 (args.length:Int))<|B0 (VH F state (Am args 0)) λr4=>Bl (!r4) (B0 (Tj false) λr9=>some (state,(Bk.mk 0 r9))) (AY (Cp 1 (args.length:Int))<|B0 (Gy (Am args 1)) λha=>B0 (Tj true) λhb=>some (ha,(Bk.mk 0 hb)))
def Ih (n:(List Int))(ha:Int):Option (Stp (Int) (Out (Bool) (Unit))):=
 Bl (decide (ha<(n.length:Int))) (AY (Cp ha (n.length:Int))<|B0 (BQ (Am n ha)) λhb=>Bl (!hb) (some (.out (.ret false))) (AY (B2 .i64 (ha+1))<|some (.next (ha+1)))) (some (.out (.go ())))
def Ig :Option (Bool):=
 some true
def NW (F:Nat)(n:(List Int)):Option (Bool):=
 B0 (Ca (λσ=>Ih n σ) F 0) (BT λν=>Ig )
def Mp (n:Int):Option (Int×Int):=
 B0 (BQ n) λr1=>Bl (!r1) (some (0,8)) (some (n,0))
def PU (F:Nat)(a:Int)(b:Int):Option (Int×Int):=
 B0 (NW F ([a,b]:List Int)) λr2=>Bl (!r2) (some (0,2)) (AY (B2 .i64 (a+b))<|B0 (Mp (a+b)) λha=>some (ha.1,ha.2))
def SM (F:Nat)(state:(List Ab))(args:(List (List Ab))):Option ((List Ab)×Bk):=
 AY (Cp 0 (state.length:Int))<|Bl (decide (((Am state 0).fKind)=3)) (AY (Cp 0 (args.length:Int))<|AY (Cp 0 ((Am args 0).length:Int))<|Bl (!decide (((Am (Am args 0) 0).fKind)=3)) (some (state,(Bk.mk 7 ([]:List Ab)))) (B0 (PU F ((Am state 0).fInt) ((Am (Am args 0) 0).fInt)) λha=>Bl (!decide (ha.2=0)) (some (state,(Bk.mk ha.2 ([]:List Ab)))) (B0 (Gy ([(Ab.mk 3 ha.1 ([]:Ae) 0)]:List Ab)) λhd=>some (([(Ab.mk 3 ha.1 ([]:Ae) 0)]:List Ab),(Bk.mk 0 hd))))) (Bl (decide (((Am state 0).fKind)=1)) (AY (Cp 0 (args.length:Int))<|AY (Cp 0 ((Am args 0).length:Int))<|Bl (!decide (((Am (Am args 0) 0).fKind)=3)) (some (state,(Bk.mk 7 ([]:List Ab)))) (B0 (PU F 0 ((Am (Am args 0) 0).fInt)) λhb=>Bl (!decide (hb.2=0)) (some (state,(Bk.mk hb.2 ([]:List Ab)))) (B0 (Gy ([(Ab.mk 3 hb.1 ([]:Ae) 0)]:List Ab)) λhe=>some (([(Ab.mk 3 hb.1 ([]:Ae) 0)]:List Ab),(Bk.mk 0 he))))) (some (state,(Bk.mk 7 ([]:List Ab)))))
def W1 :Option ((List (Ae×Nat))):=
 some (By (By (By (By ([]:List (Ae×Nat)) ([114,101,97,100]:Ae) 75) ([119,114,105,116,101]:Ae) 76) ([97,100,100]:Ae) 77) ([99,97,115]:Ae) 78)
def nDo (F:Nat)(state:(List Ab))(op:A0):Option ((List Ab)×Bk×Int):=
 B0 (Jn F op) λr3=>Bl (!decide (r3=0)) (some (([]:List Ab),(Bk.mk 0 ([]:List Ab)),r3)) (B0 (JA F state) λr9=>Bl (!decide (r9=0)) (some (([]:List Ab),(Bk.mk 0 ([]:List Ab)),r9)) (Bl (decide (op.fOp=([114,101,97,100]:Ae))) (B0 (Gy state) λhf=>B0 (Mr hf op.fArgs) λha=>some (ha.1,ha.2,0)) (Bl (decide (op.fOp=([119,114,105,116,101]:Ae))) (B0 (Gy state) λhg=>B0 (KW hg op.fArgs) λhb=>some (hb.1,hb.2,0)) (Bl (decide (op.fOp=([97,100,100]:Ae))) (B0 (Gy state) λhh=>B0 (SM F hh op.fArgs) λhd=>some (hd.1,hd.2,0)) (AY (decide (op.fOp=([99,97,115]:Ae)))<|B0 (Gy state) λhi=>B0 (NZ F hi op.fArgs) λhe=>some (he.1,he.2,0))))))
def Km (op:A0)(ha:Int)(hb:(List (List Ab))):Option (Stp (Int×(List (List Ab))) (Out (A0) ((List (List Ab))))):=
 Bl (decide (ha<(op.fArgs.length:Int))) (AY (Cp ha (op.fArgs.length:Int))<|B0 (Gy (Am op.fArgs ha)) λhd=>AY (Dz 24 (hb.length+([hd]:List (List Ab)).length))<|AY (B2 .i64 (ha+1))<|some (.next (ha+1,hb++([hd]:List (List Ab))))) (some (.out (.go hb)))
def Kl (op:A0)(ha:(List (List Ab))):Option (A0):=
 some (A0.mk op.fEntity op.fID op.fOp ha)
def Ob (F:Nat)(op:A0):Option (A0):=
 B0 (Ca (λσ=>Km op σ.1 σ.2) F (0,([]:List (List Ab)))) (BT λν=>Kl op ν)
def Nw (F:Nat)(c:AV):Option (AV):=
 B0 (Ob F c.fOp) λr3=>B0 (Gy c.fAnswer.fValue) λr6=>some (AV.mk r3 (Bk.mk c.fAnswer.fErr r6) c.fFrom c.fTo)
def SH (F:Nat)(x:(List Ab))(y:(List Ab)):Option (Bool):=
 B0 (Jc F x y) λr1=>some r1
def Ky (F:Nat)(a:(List (List Ab)))(b:(List (List Ab)))(ha:Int):Option (Stp (Int) (Out (Bool) (Unit))):=
 Bl (decide (ha<(a.length:Int))) (AY (Cp ha (a.length:Int))<|AY (Cp ha (b.length:Int))<|B0 (SH F (Am a ha) (Am b ha)) λhb=>Bl (!hb) (some (.out (.ret false))) (AY (B2 .i64 (ha+1))<|some (.next (ha+1)))) (some (.out (.go ())))
def Kx :Option (Bool):=
 some true
def Mz (F:Nat)(a:(List (List Ab)))(b:(List (List Ab))):Option (Bool):=
 Bl (!decide ((a.length:Int)=(b.length:Int))) (some false) (B0 (Ca (λσ=>Ky F a b σ) F 0) (BT λν=>Kx ))
def W4 (F:Nat)(a:A0)(b:A0):Option (Bool):=
 AY (imp (decide (a.fEntity=b.fEntity)) (imp (decide (a.fID=b.fID)) (imp (decide (a.fOp=b.fOp)) ((Mz F a.fArgs b.fArgs).isSome))))<|some ((decide (a.fEntity=b.fEntity))&&((decide (a.fID=b.fID))&&((decide (a.fOp=b.fOp))&&(ov (Mz F a.fArgs b.fArgs)))))
def E6 (F:Nat)(op:A0)(hd:(List Ae))(ha:Int):Option (Stp ((List Ae)×Int) (Out (Ae×Int) ((List Ae)))):=
 Bl (decide (ha<(op.fArgs.length:Int))) (AY (Cp ha (op.fArgs.length:Int))<|B0 (Ln F (Am op.fArgs ha)) λhb=>Bl (!decide (hb.2=0)) (some (.out (.ret (([]:Ae),hb.2)))) (AY (Dz 16 (hd.length+([hb.1]:List Ae).length))<|AY (B2 .i64 (ha+1))<|some (.next (hd++([hb.1]:List Ae),ha+1)))) (some (.out (.go hd)))
def HN (F:Nat)(hb:(List Ae)):Option (Ae×Int):=
 B0 (RF F hb) λha=>some (ha.1,ha.2)
def LE (F:Nat)(op:A0)(now:Int):Option (Ae×Int):=
 B0 (Jn F op) λr2=>Bl (!decide (r2=0)) (some (([]:Ae),r2)) (Bl (((decide (now<0))||(decide (1073741824<now)))) (some (([]:Ae),2)) (AY (B2 .i64 now)<|B0 (Ca (λσ=>E6 F op σ.1 σ.2) F (([op.fEntity,op.fID,op.fOp,Lib.itoa now]:List Ae),0)) (BT λν=>HN F ν)))
def E7 (F:Nat)(r2:(List Ae)×Int)(ha:Int)(hd:(List (List Ab))):Option (Stp (Int×(List (List Ab))) (Out (A0×Int×Int) ((List (List Ab))))):=
 Bl (decide (ha<((List.drop (Int.toNat 4) r2.1).length:Int))) (AY (Cp ha ((List.drop (Int.toNat 4) r2.1).length:Int))<|B0 (Lo F (Am (List.drop (Int.toNat 4) r2.1) ha)) λhb=>Bl (!decide (hb.2=0)) (some (.out (.ret ((A0.mk ([]:Ae) ([]:Ae) ([]:Ae) ([]:List (List Ab))),0,hb.2)))) (AY (Dz 24 (hd.length+([hb.1]:List (List Ab)).length))<|AY (B2 .i64 (ha+1))<|some (.next (ha+1,hd++([hb.1]:List (List Ab)))))) (some (.out (.go hd)))
def HO (F:Nat)(r2:(List Ae)×Int)(ha:(List (List Ab))):Option (A0×Int×Int):=
 B0 (Jn F (A0.mk (Am r2.1 0) (Am r2.1 1) (Am r2.1 2) ha)) λhb=>Bl (!decide (hb=0)) (some ((A0.mk ([]:Ae) ([]:Ae) ([]:Ae) ([]:List (List Ab))),0,hb)) (Bl (((decide ((B7 (Am r2.1 3))<0))||(decide (1073741824<(B7 (Am r2.1 3)))))) (some ((A0.mk ([]:Ae) ([]:Ae) ([]:Ae) ([]:List (List Ab))),0,2)) (some ((A0.mk (Am r2.1 0) (Am r2.1 1) (Am r2.1 2) ha),B7 (Am r2.1 3),0)))
def LF (F:Nat)(rec:Ae):Option (A0×Int×Int):=
 B0 (LR F rec) λr2=>Bl (!decide (r2.2=0)) (some ((A0.mk ([]:Ae) ([]:Ae) ([]:Ae) ([]:List (List Ab))),0,r2.2)) (Bl (decide ((r2.1.length:Int)<4)) (some ((A0.mk ([]:Ae) ([]:Ae) ([]:Ae) ([]:List (List Ab))),0,13)) (AY (Cp 3 (r2.1.length:Int))<|AY (Dz 1 (Am r2.1 3).length)<|Bl (!decide ((BR (Am r2.1 3))=0)) (some ((A0.mk ([]:Ae) ([]:Ae) ([]:Ae) ([]:List (List Ab))),0,BR (Am r2.1 3))) (AY (Cp 0 (r2.1.length:Int))<|AY (Cp 1 (r2.1.length:Int))<|AY (Cp 2 (r2.1.length:Int))<|AY (HX 4 (r2.1.length:Int))<|B0 (Ca (λσ=>E7 F r2 σ.1 σ.2) F (0,([]:List (List Ab)))) (BT λν=>HO F r2 ν))))
end Go.Proofs.YtogdediiodmnbaaGreatDoor
namespace Go.Proofs.YtogdediiodmnbaaGreatDoor.Q
open Go Go.RowKit
set_option linter.unusedVariables false
section
variable {P : Program} {n : Nat} {c : Cx} {l : Fr} {H : List Ent} {d : Option Nat} {ty rty t e : TypeId} {pos : String} {af : Array Edge} {g : Option (Nat × Bool)} {x : Operand} {sz : Nat}
end
set_option linter.unusedSimpArgs false
theorem GF (s:ByteArray):MapKept.IsKey .string (.string s):=by simp[MapKept.IsKey]
theorem Lf.keys {Z:Fz}:∀{f:List (List UInt8×Rp)} {es:List MapEntry},Lf Z f es→∀x∈es,MapKept.IsKey .string x.key
 | [],[],_,x,hx=>by cases hx
 | p::f,e::es,⟨⟨h1,h2⟩,h3⟩,x,hx=>by
  rcases List.mem_cons.1 hx with rfl | hx
  ·rw[h1];exact GF _
  ·exact Lf.keys h3 x hx
theorem Lf.at {Z:Fz}:∀{f:List (List UInt8×Rp)} {es:List MapEntry},Lf Z f es→f.length=es.length∧∀(j:Nat) (e:MapEntry),es[j]? =some e→∃k r,f[j]? =some (k,r)∧e.key = .string (B k)∧r.p Z e.val
 | [],[],_=>⟨rfl,λj e h=>by simp at h⟩
 | p::f,e::es,⟨⟨h1,h2⟩,h3⟩=>by
  obtain⟨hl,ha⟩:=Lf.at h3;refine⟨by simp[hl],λj e' hj=>?_⟩
  cases j with
  | zero=>simp at hj;subst hj;exact⟨p.1,p.2,rfl,h1,h2⟩
  | succ j=>simp at hj;simpa using ha j e' hj
theorem Lf.of {Z:Fz}:∀{f:List (List UInt8×Rp)} {es:List MapEntry},f.length=es.length→(∀(j:Nat) (e:MapEntry),es[j]? =some e→∃k r,f[j]? =some (k,r)∧e.key = .string (B k)∧r.p Z e.val)→Lf Z f es
 | [],[],_,_=>trivial
 | p::f,e::es,hl,h=>by
  obtain⟨k,r,h1,h2,h3⟩:=h 0 e rfl;simp at h1;subst h1;exact⟨⟨h2,h3⟩,Lf.of (by simpa using hl) λj e' hj=>by simpa using h (j+1) e' (by simpa using hj)⟩
 | [],_::_,hl,_=>by simp at hl
 | _::_,[],hl,_=>by simp at hl
theorem Lf.snoc {Z:Fz}{k:List UInt8}{r:Rp}{e:MapEntry}(h1:e.key = .string (B k))(h2:r.p Z e.val):∀{f:List (List UInt8×Rp)} {es:List MapEntry},Lf Z f es→Lf Z (f++[(k,r)]) (es++[e])
 | [],[],_=>⟨⟨h1,h2⟩,trivial⟩
 | p::f,e'::es,⟨h,h3⟩=>⟨h,Lf.snoc h1 h2 h3⟩
theorem Lf.filter {Z:Fz}(q:MapEntry→Bool):∀{f:List (List UInt8×Rp)} {es:List MapEntry},Lf Z f es→∃g,Lf Z g (es.filter q)∧g.Sublist f
 | [],[],_=>⟨[],trivial,List.Sublist.refl _⟩
 | p::f,e::es,⟨h,h3⟩=>by
  obtain⟨g,hg,hs⟩:=Lf.filter q h3
  cases hq:q e with
  | true=>exact⟨p::g,by rw[List.filter_cons_of_pos hq];exact⟨h,hg⟩,hs.cons_cons p⟩
  | false=>exact⟨g,by rw[List.filter_cons_of_neg (by simp[hq])];exact hg,hs.cons p⟩
theorem R0 {T:Type}:∀{m:List (Ae×T)} {k:Ae} {r:T},(m.map (·.1)).Nodup→(k,r)∈m→G1 m k=some r
 | p::m,k,r,hn,h=>by
  rw[AbV,List.nodup_cons] at hn;rw[G1];rcases List.mem_cons.1 h with h | h
  ·subst h;rw[Abm rfl];rfl
  ·have hne : ¬ p.1=k:=λe=>hn.1 (by rw[e];exact List.mem_map.2 ⟨(k,r),h,rfl⟩);rw[Abi hne];exact R0 hn.2 h
theorem Pj {T:Type}:∀{m:List (Ae×T)} {k:Ae},(∀p∈m,p.1≠k)→G1 m k=none
 | [],_,_=>rfl
 | p::m,k,h=>by
  rw[G1,Abi (h p (by simp))];exact Pj λq hq=>h q (by simp[hq])
theorem Aa6 {a b:List UInt8}(h:B a=B b):a=b:=by
 have:=congrArg ByteArray.toList h
 rwa [Gz,Gz] at this
theorem QN {a b:List UInt8}(h:Value.string (B a) = .string (B b)):a=b:=Aa6 (by cases h;rfl)
theorem Qc {Z:Fz}{m:List (List UInt8×Rp)}{es:List MapEntry}{ck:Nat}(h:GW Z m es ck)(k:List UInt8) :
  (Instr.findNow .string (.string (B k)) es 0=some none∧G1 m k=none∧∀p∈m,p.1≠k)∨∃j e r,Instr.findNow .string (.string (B k)) es 0=some (some (j,e.val))∧es[j]? =some e∧e.key = .string (B k)∧G1 m k=some r∧r.p Z e.val:=by
 obtain⟨h1,h2,h3,f,h4,h5⟩:=h;obtain⟨hl,ha⟩:=h5.at;rcases MapKept.findNow_spec (GF (B k)) es 0 h5.keys with⟨q1,q2⟩ | ⟨j,e,q1,q2,q3⟩
 ·have hne:∀p∈m,p.1≠k:=λp hp e=>by
   obtain⟨j,hj⟩:=List.mem_iff_getElem?.1 (h4.symm.subset hp);have hjl:j<es.length:=by rw[← hl];exact(List.getElem?_eq_some_iff.1 hj).1
   obtain⟨k',r',e1,e2,_⟩:=ha j es[j] (Abn hjl);rw[hj] at e1;cases e1;exact q2 es[j] (List.getElem_mem hjl) (by rw[e2,← e])
  exact .inl ⟨q1,Pj hne,hne⟩
 ·obtain⟨k',r,e1,e2,e3⟩:=ha j e q2;rw[q3] at e2;obtain rfl:=QN e2;exact .inr ⟨j,e,r,by simpa using q1,q2,q3,R0 h1 (h4.subset (Abs e1)),e3⟩
section
variable {P : Program} {n : Nat} {c : Cx} {ops : Array Oper} {Q : Exit → Act → World → Prop} {rest : List Oper} {l : Fr} {H : List Ent} {d : Nat} {d' : Option Nat} {ty t kt et rty : TypeId} {pos : String} {af : Array Edge} {g : Option (Nat × Bool)} {x y u : Operand} {K : Act → World → Prop} {cx : Code}
variable {T : Type} {enc : T → Rp} {xs : List (Ae × T)} {z : T} {k : Ae} {zv : Value} {i b : Nat}
theorem OH {Z:Fz}{w:World}{m:List (List UInt8×Rp)}{rz:Rp}(ht:P.underlying t=some (.map kt et))(hk:P.underlying kt=some .string)(hz:∀w,(zeroValue et).run P w = .ok zv w)(hzr:rz.p Z zv)(hm:(Ent.map b m).holds Z w)(ok:Bool) :
  ∃v,((G1 m k).getD rz).p Z v∧(Instr.lookup t (.map (some b)) (.string (B k)) ok).run P w = .ok (if ok then .tuple #[v,.bool (G1 m k).isSome] else v) w:=by
 obtain⟨es,ck,h1,h2⟩:=hm;rcases Qc h2 k with⟨q1,q2,_⟩ | ⟨j,e,r,q1,_,_,q2,q3⟩
 ·exact⟨zv,by rw[q2];exact hzr,by simp[Instr.lookup,run_underlying ht,MapKept.run_getObj_map h1,MapKept.run_checkKey hk (GF _),MapKept.run_findKey hk q1,hz,q2]⟩
 ·exact⟨e.val,by rw[q2];exact q3,by simp[Instr.lookup,run_underlying ht,MapKept.run_getObj_map h1,MapKept.run_checkKey hk (GF _),MapKept.run_findKey hk q1,q2]⟩
theorem WZ (enc:T→Rp)(xs:List (Ae×T))(k:Ae)(z:T):(G1 (Ba enc xs) k).getD (enc z)=enc (AN xs k z):=by
 rw[JK];unfold AN;cases G1 xs k<;>rfl
theorem SR (enc:T→Rp)(xs:List (Ae×T))(k:Ae):(G1 (Ba enc xs) k).isSome=C2 xs k:=by
 rw[JK];unfold C2;cases G1 xs k<;>rfl
theorem Kh (ht:P.underlying t=some (.map kt et))(hk:P.underlying kt=some .string)(hz:∀w,(zeroValue et).run P w = .ok zv w)(hzr:∀Z,(enc z).p Z zv)(hx:ev l x=some (rv (.map (some b))))(hi:H[i]? =some (.map b (Ba enc xs)))(hy:ev l y=some (rS k)) :
  B1 P n c l H { dst:=d',op:=.lookup t x y true,type:=ty,pos:=pos,after:=af,guard:=g } (Cs [enc (AN xs k z),rB (C2 xs k)]):=λa w Z ha hw=>by
 obtain⟨v,h1,h2⟩:=OH (k:=k) ht hk hz (hzr Z) (hw.ent hi) true;rw[WZ] at h1;refine⟨.tuple #[v,.bool (C2 xs k)],⟨[v,.bool (C2 xs k)],rfl,h1,rfl,trivial⟩,?_⟩;rw[SR] at h2;simp[execOp,ha.eval hx,ha.eval hy,h2]
theorem GW.length {Z:Fz}{m:List (List UInt8×Rp)}{es:List MapEntry}{ck:Nat}(h:GW Z m es ck):es.length=m.length:=by
 obtain⟨_,_,_,f,h4,h5⟩:=h;rw[← h5.at.1,h4.length_eq]
theorem Ww {m:List (List UInt8×Rp)}{N:Nat}(ht:P.underlying t=some (.map kt et))(hx:ev l x=some (rv (.map (some b))))(hi:H[i]? =some (.map b m))(hN:m.length=N) :
  B1 P n c l H { dst:=d',op:=.call { callee:=.builtin .len,args:=#[x],argTypes:=#[t] },type:=ty,pos:=pos,after:=af,guard:=g } (rI .i64 N):=λa w Z ha hw=>Dn<|by
 obtain⟨es,ck,h1,h2⟩:=hw.ent hi;have hl:es.size=N:=by rw[← hN,← h2.length];simp
 simp[execOp,resolve,invoke,builtin,ha.eval hx,Builtin.len_,run_underlying ht,goInt,MapKept.run_getObj_map h1,hl]
theorem UI {v:Option Nat}(ht:P.underlying t=some (.map kt et))(hx:ev l x=some (rv (.map v))):B1 P n c l H { dst:=d',op:=.binOp .neq t x (.const (.map none)) rty,type:=ty,pos:=pos,after:=af,guard:=g } (rB (!v.isNone)):=λa w Z ha hw=>Dn<|by
 have e2:a.eval (.const (.map none)) = .map none:=rfl;have h:=run_equal_map_nil (P:=P) w t kt et v ht;simp[execOp,ha.eval hx,e2,eqGuard,binOp,h]
theorem OQ (hn:Nat.blt d n=true)(h:∀b,WL P n c ops Q rest ((d,rv (.map (some b)))::l) (.map b []::H)) :
  WL P n c ops Q ({ dst:=some d,op:=.makeMap t none,type:=ty,pos:=pos,after:=af,guard:=none }::rest) l H:=
 K5 (λa w Z ha hw=>⟨_,w.alloc (.map #[] 0),_,_,Z,by simp[execOp,run_makeMap],Fz.le.refl _,rfl,
  hw.alloc _ (e:=.map w.heap.size []) ⟨#[],0,by simpa using heap_alloc_new w _,by simp,by simp,by simp,[],Abg _,trivial⟩ rfl,h w.heap.size⟩) hn
theorem Wk {m f:List (Ae×Rp)}(h:f.Perm m)(k:Ae)(r:Rp):(Ms f k r).Perm (Ms m k r):=h.map _
theorem T9 {T:Type}:∀{f:List (Ae×T)} {j:Nat} {k:Ae} {r0:T} (r:T),(f.map (·.1)).Nodup→f[j]? =some (k,r0)→Ms f k r=f.set j (k,r)
 | p::f,0,k,r0,r,hn,h=>by
  simp at h;subst h;rw[AbV,List.nodup_cons] at hn;have:Ms f k r=f:=by
   unfold Ms;rw[List.map_congr_left (g:=id) (λq hq=>?_),List.map_id];have hne : ¬ q.1=k:=λe=>hn.1 (by rw[← e];exact List.mem_map.2 ⟨q,hq,rfl⟩);rw[Abi hne];rfl
  show(bif decide (k=k) then(k,r) else(k,r0))::Ms f k r=_;rw[Abm rfl,this];rfl
 | p::f,j+1,k,r0,r,hn,h=>by
  rw[AbV,List.nodup_cons] at hn;simp at h;have hne : ¬ p.1=k:=λe=>hn.1 (by rw[e];exact List.mem_map.2 ⟨(k,r0),Abs h,rfl⟩);show(bif decide (p.1=k) then(k,r) else p)::Ms f k r=_;rw[Abi hne,T9 r hn.2 h];rfl
theorem UR {T:Type}(m:List (Ae×T))(k:Ae)(r:T):(Ms m k r).map (·.1)=m.map (·.1):=by
 unfold Ms;rw[Acb];refine List.map_congr_left λp _=>?_;simp only[Function.comp]
 by_cases h:p.1=k
 ·rw[Abm h];exact h.symm
 ·rw[Abi h];rfl
theorem US {T:Type}{m:List (Ae×T)}{k:Ae}{r:T}(h:G1 m k=some r):C2 m k=true:=by unfold C2;rw[h];rfl
theorem UT {T:Type}{m:List (Ae×T)}{k:Ae}(h:G1 m k=none):C2 m k=false:=by unfold C2;rw[h];rfl
theorem GW.put {Z:Fz}{m:List (Ae×Rp)}{es:List MapEntry}{ck j:Nat}{e:MapEntry}{k:Ae}{r0 r:Rp}{v:Value}(h:GW Z m es ck)(he:es[j]? =some e)(hk:e.key = .string (B k))(hm:G1 m k=some r0)(hr:r.p Z v) :
  GW Z (By m k r) (es.set j { e with key:=.string (B k),val:=v }) ck:=by
 obtain⟨h1,h2,h3,f,h4,h5⟩:=h;obtain⟨hl,ha⟩:=h5.at;have hjl:=(List.getElem?_eq_some_iff.1 he).1;unfold By;rw[US hm,Abj];obtain⟨k',r',e1,e2,_⟩:=ha j e he;rw[hk] at e2;obtain rfl:=QN e2;have hfn:(f.map (·.1)).Nodup:=(h4.map (·.1)).nodup_iff.2 h1;refine⟨by rw[UR];exact h1,?_,?_,f.set j (k,r),?_,Lf.of (by simp[hl]) λi x hx=>?_⟩
 ·rw[List.map_set];have:(es.map (·.born)).set j e.born=es.map (·.born):=by
   apply List.ext_getElem?;intro i;rw[Acd]
   split
   ·rename_i hij;subst hij
    simp[hjl,List.getElem?_eq_some_iff.1 he |>.2]
   ·rfl
  show((es.map (·.born)).set j e.born).Nodup;rw[this];exact h2
 ·intro x hx;rcases List.mem_or_eq_of_mem_set hx with hx | rfl
  ·exact h3 x hx
  ·exact h3 e (Abs he)
 ·have:=Wk h4 k r
  rwa [T9 r hfn e1] at this
 ·rw[Acd] at hx ⊢
  split at hx
  ·rename_i hij;subst hij
   cases hx
   exact⟨k,r,by rw[AbB rfl,AbB (by rw[hl];exact hjl)],rfl,hr⟩
  ·rename_i hij
   rw[Ab6 hij];exact ha i x hx
theorem GW.ins {Z:Fz}{m:List (Ae×Rp)}{es:List MapEntry}{ck:Nat}{k:Ae}{r:Rp}{v:Value}(h:GW Z m es ck)(hm:G1 m k=none)(hk:∀p∈m,p.1≠k)(hr:r.p Z v) :
  GW Z (By m k r) (es++[{ key:=.string (B k),val:=v,born:=ck }]) (ck+1):=by
 obtain⟨h1,h2,h3,f,h4,h5⟩:=h;unfold By;rw[UT hm,Abh];have hp:=Pi k r m;refine⟨?_,?_,?_,f++[(k,r)],?_,Lf.snoc rfl hr h5⟩
 ·rw[(hp.map (·.1)).nodup_iff,AbV,List.nodup_cons];exact⟨λhx=>by obtain⟨p,hp,e⟩:=List.mem_map.1 hx;exact hk p hp e,h1⟩
 ·rw[Acc,List.nodup_append];refine⟨h2,by simp,λa ha b hb e=>?_⟩;simp at hb;subst hb;obtain⟨x,hx,e'⟩:=List.mem_map.1 ha;have:=h3 x hx;omega
 ·intro x hx;rcases List.mem_append.1 hx with hx | hx
  ·have:=h3 x hx;omega
  ·simp at hx;subst hx;exact Abo _
 ·exact(List.perm_append_comm (l₁:=f) (l₂:=[(k,r)])).trans ((h4.cons (k,r)).trans hp.symm)
theorem St.mapset {Z:Fz}{w:World}(h:St c H Z w){m m':List (Ae×Rp)}(hi:H[i]? =some (.map b m)){es es':Array MapEntry}{ck ck':Nat}(h1:w.heap[b]? =some (.map es ck))(h2:GW Z m' es'.toList ck') :
  St c (H.set i (.map b m')) Z { w with heap:=w.heap.setIfInBounds b (.map es' ck') }:=by
 obtain⟨q1,q2⟩:=MapKept.heap_set (o':=.map es' ck') h1;exact h.set hi rfl rfl rfl (by simp) (λk _ hk=>q2 k (by simpa[Ent.foot] using hk)) ⟨es',ck',q1,h2⟩ (by simp[Ent.foot])
theorem PC (s:ByteArray):Instr.sameBits 10000 (.string s) (.string s)=true:=by
 show(s ==s)=true;exact(MapKept.bytes_beq s s).2 rfl |> λh=>by simpa using h
theorem Zw {r:Rp}{m:List (Ae×Rp)}(ht:P.underlying t=some (.map kt et))(hk:P.underlying kt=some .string)(hx:ev l x=some (rv (.map (some b))))(hi:H[i]? =some (.map b m))(hy:ev l y=some (rS k))(hu:ev l u=some r){H':List Ent}(hH:H.set i (.map b (By m k r))=H')(h:WL P n c ops Q rest l H') :
  WL P n c ops Q ({ dst:=none,op:=.mapUpdate t x y u,type:=ty,pos:=pos,after:=af,guard:=none }::rest) l H:=
 OB λa w Z ha hw=>by
  obtain⟨es,ck,h1,h2⟩:=hw.ent hi;have hv:=ha.ev hu;subst hH;rcases Qc h2 k with⟨q1,q2,q3⟩ | ⟨j,e,r0,q1,q2,q3,q4,_⟩
  ·refine⟨_,_,?_,hw.mapset hi h1 (es':=es.push { key:=.string (B k),val:=a.eval u,born:=ck }) (by simpa using h2.ins q2 q3 hv),h⟩;simp[execOp,ha.eval hx,ha.eval hy,Instr.mapUpdate,run_underlying ht,MapKept.run_getObj_map h1,MapKept.run_checkKey hk (GF _),MapKept.run_findKey hk q1,MapKept.run_setObj_map _ h1]
  ·have hje:es[j]? =some e:=by simpa using q2
   refine⟨_,_,?_,hw.mapset hi h1 (es':=es.modify j λe=>{ e with key:=.string (B k),val:=a.eval u }) (ck':=ck) (by
    have:=h2.put q2 q3 q4 hv;have e1:(es.modify j λe=>{ e with key:=.string (B k),val:=a.eval u }).toList=es.toList.set j { e with key:=.string (B k),val:=a.eval u }:=by
     rw[Array.toList_modify];rw[List.modify_eq_set,q2];rfl
    rw[e1];exact this),h⟩
   have hkey:((es[j]?).map (·.key)).getD (.string (B k)) = .string (B k):=by rw[hje];exact q3
   simp[execOp,ha.eval hx,ha.eval hy,Instr.mapUpdate,run_underlying ht,MapKept.run_getObj_map h1,MapKept.run_checkKey hk (GF _),MapKept.run_findKey hk q1,MapKept.run_setObj_map _ h1,hkey,Instr.keyThatStays,PC]
theorem Nl {v:T}(ht:P.underlying t=some (.map kt et))(hk:P.underlying kt=some .string)(hx:ev l x=some (rv (.map (some b))))(hi:H[i]? =some (.map b (Ba enc xs)))(hy:ev l y=some (rS k))(hu:ev l u=some (enc v)){H':List Ent}(hH:H.set i (.map b (Ba enc (By xs k v)))=H')(h:WL P n c ops Q rest l H') :
  WL P n c ops Q ({ dst:=none,op:=.mapUpdate t x y u,type:=ty,pos:=pos,after:=af,guard:=none }::rest) l H:=Zw ht hk hx hi hy hu (by rw[← WA];exact hH) h
end
section
variable {P : Program} {n : Nat} {c : Cx} {ops : Array Oper} {Q : Exit → Act → World → Prop} {rest : List Oper} {l : Fr} {H : List Ent} {d : Nat} {ty t kt et rty : TypeId} {pos : String} {af : Array Edge} {x y u : Operand} {K : Act → World → Prop} {cx : Code}
variable {T : Type} {enc : T → Rp} {xs ys : List (Ae × T)} {i b it : Nat} {m lf : List (List UInt8 × Rp)} {cur : Option (List UInt8 × Rp)} {k : Ae} {r : Rp}
end
theorem Bt.d1 {Z:Fz}{r0:Rp}{us:List Value}(h:Bt Z [r0] us):∃y0,us=[y0]∧Bt Z [r0] [y0]:=by
 match us,h.length with
 | [y0],_=>exact⟨_,rfl,h⟩
theorem Bt.d2 {Z:Fz}{r0 r1:Rp}{us:List Value}(h:Bt Z [r0,r1] us):∃y0 y1,us=[y0,y1]∧Bt Z [r0,r1] [y0,y1]:=by
 match us,h.length with
 | [y0,y1],_=>exact⟨_,_,rfl,h⟩
theorem Bt.d3 {Z:Fz}{r0 r1 r2:Rp}{us:List Value}(h:Bt Z [r0,r1,r2] us):∃y0 y1 y2,us=[y0,y1,y2]∧Bt Z [r0,r1,r2] [y0,y1,y2]:=by
 match us,h.length with
 | [y0,y1,y2],_=>exact⟨_,_,_,rfl,h⟩
theorem Bt.d4 {Z:Fz}{r0 r1 r2 r3:Rp}{us:List Value}(h:Bt Z [r0,r1,r2,r3] us):∃y0 y1 y2 y3,us=[y0,y1,y2,y3]∧Bt Z [r0,r1,r2,r3] [y0,y1,y2,y3]:=by
 match us,h.length with
 | [y0,y1,y2,y3],_=>exact⟨_,_,_,_,rfl,h⟩
section
variable {P : Program} {n : Nat} {c : Cx} {ops : Array Oper} {Q : Exit → Act → World → Prop} {rest : List Oper} {l : Fr} {H H' : List Ent} {d : Nat} {d' : Option Nat} {ty t e rty : TypeId} {pos : String} {af : Array Edge} {g : Option (Nat × Bool)} {x y u : Operand} {v : Value} {sz m : Nat}
end
end Go.Proofs.YtogdediiodmnbaaGreatDoor.Q
