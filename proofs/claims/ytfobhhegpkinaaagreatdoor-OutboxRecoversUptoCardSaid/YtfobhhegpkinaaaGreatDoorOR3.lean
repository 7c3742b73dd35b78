/-
  Texts of the proof, put together: PVe, WVe, PVf, WVf, PH, PFr, QH, QY, QU, QW, QT, QJ, QX, WFr, PM, POa, QN, QM, QI, QV, QL, PI, QF, Q6, Q9, WOa, POb, Qy, WOb, POc, WOc, ShelfS, FwI.
-/
import Derived.Test.YtfobhhegpkinaaaGreatDoorOR2
import Derived.Laws.StructEq
import GoSem.Op.IntBits
import GoSem.Op.Shift
import Derived.Laws.Cover3
import Derived.ScopeJumps
import Derived.Laws.CopyRow
import Derived.Laws.IdiomCopy
import Derived.Laws.OwnMore
import Derived.MapKept
import Derived.Maps.RangeRun
import Derived.LoopN
import Derived.Shelf.Sort.Plain
import Derived.Shelf.Slices.CompactS
import Derived.Shelf.Slices.Clone
import Derived.Shelf.Slices.Turned
import Derived.Shelf.Slices.In.SortNone
import Derived.Test.YtfobhhegpkinaaaGreatDoorProg
import Derived.Sort.OwnSorted
import Derived.Lib.OwnBridge
import Derived.Lib.RowBridge
namespace Go.Proofs.YtfobhhegpkinaaaGreatDoor
open Go
set_option linter.unusedVariables false
def IY (a:(List Ab))(b:(List Ab))(ha:Int):Option (Stp (Int) (Out (Bool) (Unit))):=
 Bw (decide (ha<(a.length:Int))) (Bd (CY ha (a.length:Int))<|Bd (CY ha (b.length:Int))<|Bw (!(decide (((Aq a ha).fKind)=((Aq b ha).fKind))&&decide (((Aq a ha).fInt)=((Aq b ha).fInt))&&decide (((Aq a ha).fStr)=((Aq b ha).fStr))&&decide (((Aq a ha).fN)=((Aq b ha).fN)))) (some (.out (.ret false))) (Bd (Cb .i64 (ha+1))<|some (.next (ha+1)))) (some (.out (.go ())))
def Mq :Option (Bool):=
 some true
def HV (F:Nat)(a:(List Ab))(b:(List Ab)):Option (Bool):=
 Bw (!decide ((a.length:Int)=(b.length:Int))) (some false) (Bq (Ci (λσ=>IY a b σ) F 0) (BO λν=>Mq ))
end Go.Proofs.YtfobhhegpkinaaaGreatDoor
namespace Go.Proofs.YtfobhhegpkinaaaGreatDoor.Q
open Go Go.RowKit
set_option linter.unusedVariables false
set_option linter.unusedSimpArgs false
set_option maxRecDepth 100000
set_option maxHeartbeats 4000000
theorem Abn {a0 b0:Int}{a1 b1:Int}{a2 b2:Ai}{a3 b3:Int}(w:World):(Op.equalIn 10000 83 (.agg #[.int .i64 a0,.int .i64 a1,.string (B a2),.int .i64 a3]) (.agg #[.int .i64 b0,.int .i64 b1,.string (B b2),.int .i64 b3])).run Tryz.prog w = .ok (decide (a0=b0)&&decide (a1=b1)&&decide (a2=b2)&&decide (a3=b3)) w:=by
  have hS:Tryz.prog.underlying 83=some (.struct (Tryz.prog.fieldsOf 83)):=by kernel_rfl
  have hp:Tryz.prog.stoodInHeld 83=false:=by kernel_rfl
  have u3:=Y2;have ia3:=CO;have so3:=Cy;have u9:=CT;have ia9:=Cf;have so9:=BX;have ha:=Tryz.underlying81;have hb:=Lo;have hd:=Ln;rw[show(10000:Nat)=9999+1 from rfl,run_equalIn_agg w 9999 83 _ _ hS hp];simp only[Program.fieldsOf,CU]
  go_simp
  simp only[G8]
  by_cases h0:a0=b0<;>by_cases h1:a1=b1<;>by_cases h2:a2=b2<;>by_cases h3:a3=b3<;>simp[h0,h1,h2,h3]
theorem T2 {n:Nat}{c:Cx}{l:Fr}{H:List Ent}{d:Option Nat}{ty rty:TypeId}{pos:String}{af:Array Edge}{g:Option (Nat×Bool)}{x y:Operand}{a0 b0:Int}{a1 b1:Int}{a2 b2:Ai}{a3 b3:Int}(hx:ev l x=some (BL [AD a0,AD a1,rS a2,AD a3]))(hy:ev l y=some (BL [AD b0,AD b1,rS b2,AD b3])):Bv Tryz.prog n c l H { dst:=d,op:=.binOp .neq 83 x y rty,type:=ty,pos:=pos,after:=af,guard:=g } (rB (!(decide (a0=b0)&&decide (a1=b1)&&decide (a2=b2)&&decide (a3=b3)))):=λa w Z ha hw=>by
  obtain⟨us,e1,q1⟩:=ha.ev hx;obtain⟨vs,e2,q2⟩:=ha.ev hy;have k1:=Bj.eq_rv (us:=[.int .i64 a0,.int .i64 a1,.string (B a2),.int .i64 a3]) q1;have k2:=Bj.eq_rv (us:=[.int .i64 b0,.int .i64 b1,.string (B b2),.int .i64 b3]) q2;subst k1;subst k2;have hm:Tryz.prog.eqGuardType Tryz.prog.depth 83=false:=by kernel_rfl
  have hb:=Abn (a0:=a0) (a1:=a1) (a2:=a2) (a3:=a3) (b0:=b0) (b1:=b1) (b2:=b2) (b3:=b3) w;refine⟨.bool (!(decide (a0=b0)&&decide (a1=b1)&&decide (a2=b2)&&decide (a3=b3))),rfl,?_⟩;have hg:=run_eqGuard_agg (P:=Tryz.prog) w .neq 83 x y #[.int .i64 a0,.int .i64 a1,.string (B a2),.int .i64 a3] #[.int .i64 b0,.int .i64 b1,.string (B b2),.int .i64 b3] hm;simp only[execOp,e1,e2,Sem.run_bind,hg,Result.andThen_ok,run_neq_struct,hb,Sem.run_pure]
theorem Ov (F:Nat)(a:(List Ab))(b:(List Ab))(r:Bool)(h:HV F a b=some r):Fn Tryz.prog GE 15 [Br 4 (AH Ah a),Br 4 (AH Ah b)] [] (λR H=>R=rB r∧H=[]):=by
 refine enter (n:=26) Tryz.func15 Aa Tryz.ntmps15 Aa (λw Z=>?_);unfold HV at h;refine Am (wa Aa (Aw (Ao (Am (wm Aa (wv (Bx (ys:=a) (enc:=Ah) D5 Aa) (wm Aa (wv (Bx (ys:=b) (enc:=Ah) D5 Aa) (wv (BQ Aa Aa) (Aw (cz h Aa (λc1 h2=>?_) (λc1 h3=>?_))))))))))))
 ·refine Am (wa Aa (Aw (A4 (Ae ?_))));obtain rfl:=A7 h2;exact A3 (Ch Tryz.results15 (AR Aa)) sN ⟨Aa,Aa⟩
 refine A0 (AX (Ao (Am (wa Aa (Aw (AS (ob h3 λhg hh hf=>B4 (S:=Nat×(Int)×(Unit)) (V:=(Unit)×(Unit)) 0 (λσ=>Ci (λσ=>IY a b σ) σ.1 σ.2.1=some hg) (λσ=>[(0,Br 4 (AH Ah a)),(1,Br 4 (AH Ah b)),(5,AD σ.2.1)]) (λσ=>[]) (λσ=>σ.1) (F,0,()) hh (AG.c Aa (AG.c Aa (AG.c Aa AG.nil))) sN (λσ=>Mq =some r) (λσ=>[]) (λσ=>[]) ?_ ?_)))))))
 ·rintro⟨h1,ha,⟨⟩⟩ hi;refine GC ?_;obtain⟨hj,rfl,hk,hb,he⟩:=Di hi;replace hb:IY a b ha=some hk:=hb;unfold IY at hb;refine Ao (Am (wm Aa (wm Aa (wv (Bx (ys:=a) (enc:=Ah) D5 Aa) (wv (Dh Aa Aa) (Aw (cz hb Aa (λhl hm=>?_) (λhl hn=>?_))))))))
  ·refine A0 (AX (Ao (AS (Ao (ck hm λho hp=>ck hp λhq hr=>D0 [0,1,5] ?_)))));refine rq (Aj Aa) (rq (Aj Aa) (rq (AW (enc:=Ah) (ys:=a) D5 EB Aa Aa ho) (rq (Dm WO EB Aa Aa Aa) (rq (Aj Aa) (rq (Aj Aa) (rq (AW (enc:=Ah) (ys:=b) D5 EB Aa Aa hq) (rq (Dm WO EB Aa Aa Aa) (rq (r:=rB (!(decide (((Aq a ha).fKind)=((Aq b ha).fKind))&&decide (((Aq a ha).fInt)=((Aq b ha).fInt))&&decide (((Aq a ha).fStr)=((Aq b ha).fStr))&&decide (((Aq a ha).fN)=((Aq b ha).fN))))) (T2 Aa Aa) (re [17,18,19,20,21,22,23,24,25,0,1,5] ?_)))))))));refine AX (cz hr Aa (λhs ht=>?_) (λhs hu=>?_))
   ·refine Am (wa Aa (Aw (A4 (AB (Ae (Ae (Be ?_)))))));have hw:=B1 ht he hf;refine AB (Ae ?_);obtain rfl:=A7 hw;exact A3 (Ch Tryz.results15 (AR Aa)) sN ⟨Aa,Aa⟩
   refine A0 (AK (AX (An (wm Aa (ck hu λhx hy=>wv (BW Aa Aa hx) (wa Aa (As ?_)))))));have hz:=B9 hy he;exact Ay (AE (hj,ha+1,()) ⟨hz,AfV _⟩ (AG.c Aa (AG.c Aa (AG.c Aa AG.nil))) sN)
  refine B3 (A9 ?_);have h0:=Cw hn he hf;exact A9 (Bo (AE ((),()) h0 AG.nil sN))
 rintro⟨⟨⟩,⟨⟩⟩ hd;refine JZ ?_;replace hd:Mq =some r:=hd;unfold Mq at hd;refine Bn (AX (Am (wa Aa (Aw (A4 ?_)))));obtain rfl:=A7 hd;exact A3 (Ch Tryz.results15 (AR Aa)) sN ⟨Aa,Aa⟩
end Go.Proofs.YtfobhhegpkinaaaGreatDoor.Q
namespace Go.Proofs.YtfobhhegpkinaaaGreatDoor
open Go
set_option linter.unusedVariables false
end Go.Proofs.YtfobhhegpkinaaaGreatDoor
namespace Go.Proofs.YtfobhhegpkinaaaGreatDoor.Q
open Go Go.RowKit
set_option linter.unusedVariables false
set_option linter.unusedSimpArgs false
set_option maxRecDepth 100000
set_option maxHeartbeats 4000000
end Go.Proofs.YtfobhhegpkinaaaGreatDoor.Q
namespace Go.Proofs.YtfobhhegpkinaaaGreatDoor
open Go
def Qy (k:IntKind)(x y:Int):Int:=k.wrap ((BitVec.ofInt k.bits x&&& BitVec.ofInt k.bits y).toNat:Int)
def JX (k:IntKind)(x y:Int):Int:=k.wrap ((BitVec.ofInt k.bits x||| BitVec.ofInt k.bits y).toNat:Int)
def Hn (k:IntKind)(x y:Int):Int:=k.wrap ((BitVec.ofInt k.bits x^^^BitVec.ofInt k.bits y).toNat:Int)
def XS (k:IntKind)(x:Int):Int:=Hn k (if k.signed then -1 else k.max) x
def D2 (k:IntKind)(x n:Int):Int:=k.wrap (x*2 ^ (min n.toNat k.bits))
def CA (k:IntKind)(x n:Int):Int:=x.fdiv (2 ^ (min n.toNat k.bits))
set_option linter.unusedVariables false
def GS (hb:Int)(ha:Int):Option (Stp (Int×Int) (Out (Stp (Int×(List Int)) (Out ((List Int)) ((List Int)))) (Int×Int×Bool))):=
 Bw (decide (ha<8)) (Bd (Cb .i64 (ha+1))<|some (.next ((bif decide ((Qy .u32 hb 1)=1) then Hn .u32 (CA .u32 hb 1) 3988292384 else CA .u32 hb 1),ha+1))) (some (.out (.go (hb,ha,decide (ha<8)))))
def Jk (ha:Int)(hb:(List Int))(hd:Int)(he:Int)(hf:Bool):Option (Stp (Int×(List Int)) (Out ((List Int)) ((List Int)))):=
 Bd (CY ha 256)<|Bd (CY ha (hb.length:Int))<|Bd (Cb .i64 (ha+1))<|some (.next (ha+1,List.set hb (Int.toNat ha) hd))
def GT (F:Nat)(ha:Int)(hb:(List Int)):Option (Stp (Int×(List Int)) (Out ((List Int)) ((List Int)))):=
 Bw (decide (ha<256)) (Bq (Ci (λσ=>GS σ.1 σ.2) F (IntKind.wrap .u32 ha,0)) (BO λν=>Jk ha hb ν.1 ν.2.1 ν.2.2)) (some (.out (.go hb)))
def Jl (ha:(List Int)):Option ((List Int)):=
 Bd (decide (ha.length=256))<|Bd (decide ((List.replicate 256 (0:Int)).length=256))<|some ha
def PC (F:Nat) :Option ((List Int)):=
 Bq (Ci (λσ=>GT F σ.1 σ.2) F (0,List.replicate 256 (0:Int))) (BO λν=>Jl ν)
def HA (s:Ai)(r1:(List Int))(hb:Int)(ha:Int):Option (Stp (Int×Int) (Out (Int) (Int))):=
 Bw (decide (ha<(s.length:Int))) (Bd (CY ha (s.length:Int))<|Bd (CY (Hn .u8 (IntKind.wrap .u8 hb) (B8 s ha)) 256)<|Bd (CY (Hn .u8 (IntKind.wrap .u8 hb) (B8 s ha)) (r1.length:Int))<|Bd (Cb .i64 (ha+1))<|some (.next (Hn .u32 (Aq r1 (Hn .u8 (IntKind.wrap .u8 hb) (B8 s ha))) (CA .u32 hb 8),ha+1))) (some (.out (.go hb)))
def O6 (ha:Int):Option (Int):=
 some (XS .u32 ha)
def XV (F:Nat)(s:Ai):Option (Int):=
 Bq (PC F) λr1=>Bd (decide ((List.replicate 256 (0:Int)).length=256))<|Bd (decide (r1.length=256))<|Bq (Ci (λσ=>HA s r1 σ.1 σ.2) F (4294967295,0)) (BO λν=>O6 ν)
def Li (n:Int):Option (Ai):=
 some (Qm ([IntKind.wrap .u8 (CA .u32 n 24),IntKind.wrap .u8 (CA .u32 n 16),IntKind.wrap .u8 (CA .u32 n 8),IntKind.wrap .u8 n]:List Int))
def Lh (s:Ai):Option (Int):=
 Bd (CY 0 (s.length:Int))<|Bd (CY 1 (s.length:Int))<|Bd (CY 2 (s.length:Int))<|Bd (CY 3 (s.length:Int))<|some (JX .u32 (JX .u32 (JX .u32 (D2 .u32 (IntKind.wrap .u32 (B8 s 0)) 24) (D2 .u32 (IntKind.wrap .u32 (B8 s 1)) 16)) (D2 .u32 (IntKind.wrap .u32 (B8 s 2)) 8)) (IntKind.wrap .u32 (B8 s 3)))
def Hi (fields:(List Ai))(hb:(List Int))(ha:Int):Option (Stp ((List Int)×Int) (Out (Ai×Int) ((List Int)))):=
 Bw (decide (ha<(fields.length:Int))) (Bd (CY ha (fields.length:Int))<|Bw (decide (4000<((Aq fields ha).length:Int))) (some (.out (.ret (([]:Ai),3)))) (Bd (Dz 1 (hb.length+([IntKind.wrap .u8 (CA .i64 ((Aq fields ha).length:Int) 8),IntKind.wrap .u8 ((Aq fields ha).length:Int)]:List Int).length))<|Bd (Dz 1 ((hb++([IntKind.wrap .u8 (CA .i64 ((Aq fields ha).length:Int) 8),IntKind.wrap .u8 ((Aq fields ha).length:Int)]:List Int)).length+(Aq fields ha).length))<|Bd (Cb .i64 (ha+1))<|some (.next ((hb++([IntKind.wrap .u8 (CA .i64 ((Aq fields ha).length:Int) 8),IntKind.wrap .u8 ((Aq fields ha).length:Int)]:List Int))++D7 (Aq fields ha),ha+1)))) (some (.out (.go hb)))
def MF (ha:(List Int)):Option (Ai×Int):=
 some (Qm ha,0)
def TZ (F:Nat)(fields:(List Ai)):Option (Ai×Int):=
 Bw (decide (64<(fields.length:Int))) (some (([]:Ai),3)) (Bq (Ci (λσ=>Hi fields σ.1 σ.2) F (([IntKind.wrap .u8 (fields.length:Int)]:List Int),0)) (BO λν=>MF ν))
def DW (ha:Int):Option ((List Ai)×Int):=
 some (([]:List Ai),ha)
def Da (s:Ai)(ha:Ai)(hb:(List Ai))(hh:Int)(hd:Int):Option (Stp (Ai×(List Ai)×Int×Int) (Out ((List Ai)×Int) (Ai×(List Ai)))):=
 Bw (decide (hd<(B8 s 0))) (Bw (decide ((ha.length:Int)<2)) (Bq (DW 14) λhe=>some (.out (.ret he))) (Bd (CY 0 (ha.length:Int))<|Bd (Cb .i64 (B8 ha 0))<|Bd (CY 1 (ha.length:Int))<|Bd (Cb .i64 (B8 ha 1))<|Bd (Gs 2 (ha.length:Int))<|Bw (decide (4000<(JX .i64 (D2 .i64 (B8 ha 0) 8) (B8 ha 1)))) (Bq (DW 13) λhf=>some (.out (.ret hf))) (Bw (decide (((List.drop (Int.toNat 2) ha).length:Int)<(JX .i64 (D2 .i64 (B8 ha 0) 8) (B8 ha 1)))) (Bq (DW 14) λhg=>some (.out (.ret hg))) (Bd (Gs (JX .i64 (D2 .i64 (B8 ha 0) 8) (B8 ha 1)) ((List.drop (Int.toNat 2) ha).length:Int))<|Bd (Dz 16 (hb.length+([List.take (Int.toNat (JX .i64 (D2 .i64 (B8 ha 0) 8) (B8 ha 1))) (List.drop (Int.toNat 2) ha)]:List Ai).length))<|Bd (Cb .i64 (hd+1))<|some (.next (List.drop (Int.toNat (JX .i64 (D2 .i64 (B8 ha 0) 8) (B8 ha 1))) (List.drop (Int.toNat 2) ha),hb++([List.take (Int.toNat (JX .i64 (D2 .i64 (B8 ha 0) 8) (B8 ha 1))) (List.drop (Int.toNat 2) ha)]:List Ai),JX .i64 (D2 .i64 (B8 ha 0) 8) (B8 ha 1),hd+1)))))) (some (.out (.go (ha,hb))))
def Gc (hb:Ai)(ha:(List Ai)):Option ((List Ai)×Int):=
 Bw (!decide (hb=([]:Ai))) (DW 13) (Bd (Gs (ha.length:Int) (ha.length:Int))<|some (List.take (Int.toNat (ha.length:Int)) ha,0))
def ME (F:Nat)(s:Ai):Option ((List Ai)×Int):=
 Bw (decide (s=([]:Ai))) (DW 14) (Bd (CY 0 (s.length:Int))<|Bd (Cb .i64 (B8 s 0))<|Bd (Gs 1 (s.length:Int))<|Bw (decide (64<(B8 s 0))) (DW 13) (Bq (Ci (λσ=>Da s σ.1 σ.2.1 σ.2.2.1 σ.2.2.2) F (List.drop (Int.toNat 1) s,([]:List Ai),0,0)) (BO λν=>Gc ν.1 ν.2)))
def PF (F:Nat)(body:Ai):Option (Ai×Int):=
 Bw (decide (262136<(body.length:Int))) (some (([]:Ai),3)) (Bq (Li (IntKind.wrap .u32 (body.length:Int))) λr4=>Bq (XV F body) λr7=>Bq (Li r7) λha=>Bd (Cb .i64 ((r4.length:Int)+(ha.length:Int)))<|Bd (Cb .i64 (((r4++ha).length:Int)+(body.length:Int)))<|some ((r4++ha)++body,0))
def Ua (F:Nat)(s:Ai):Option (Ai×Int×Int):=
 Bw (decide ((s.length:Int)<8)) (some (([]:Ai),0,14)) (Bq (Lh s) λr4=>Bw (decide (262136<(IntKind.wrap .i64 r4))) (some (([]:Ai),0,13)) (Bd (Cb .i64 ((s.length:Int)-8))<|Bw (decide (((s.length:Int)-8)<(IntKind.wrap .i64 r4))) (some (([]:Ai),0,14)) (Bd (Cb .i64 (8+(IntKind.wrap .i64 r4)))<|Bd (Gs 8 (8+(IntKind.wrap .i64 r4)))<|Bd (Gs (8+(IntKind.wrap .i64 r4)) (s.length:Int))<|Bq (XV F (List.take (Int.toNat (8+(IntKind.wrap .i64 r4))-Int.toNat 8) (List.drop (Int.toNat 8) s))) λha=>Bd (Gs 4 (s.length:Int))<|Bq (Lh (List.drop (Int.toNat 4) s)) λhb=>Bw (!decide (ha=hb)) (some (([]:Ai),0,13)) (some (List.take (Int.toNat (8+(IntKind.wrap .i64 r4))-Int.toNat 8) (List.drop (Int.toNat 8) s),8+(IntKind.wrap .i64 r4),0)))))
def GU (F:Nat)(s:Ai)(hd:(List Ai))(ha:Int):Option (Stp ((List Ai)×Int) (Out ((List Ai)×Int) ((List Ai)×Int))):=
 Bw (decide (ha<(s.length:Int))) (Bd (Gs ha (s.length:Int))<|Bq (Ua F (List.drop (Int.toNat ha) s)) λhb=>Bw (!decide (hb.2.2=0)) (some (.out (.go (hd,ha)))) (Bd (Dz 16 (hd.length+([hb.1]:List Ai).length))<|Bd (Cb .i64 (ha+hb.2.1))<|some (.next (hd++([hb.1]:List Ai),ha+hb.2.1)))) (some (.out (.go (hd,ha))))
def Jn (ha:(List Ai))(hb:Int):Option ((List Ai)×Int):=
 Bd (Gs (ha.length:Int) (ha.length:Int))<|some (List.take (Int.toNat (ha.length:Int)) ha,hb)
def PE (F:Nat)(s:Ai):Option ((List Ai)×Int):=
 Bq (Ci (λσ=>GU F s σ.1 σ.2) F (([]:List Ai),0)) (BO λν=>Jn ν.1 ν.2)
def G6 (F:Nat)(bodies:(List Ai))(hb:(List Int))(hd:Int):Option (Stp ((List Int)×Int) (Out (Ai×Int) ((List Int)))):=
 Bw (decide (hd<(bodies.length:Int))) (Bd (CY hd (bodies.length:Int))<|Bq (PF F (Aq bodies hd)) λha=>Bd (imp (!(!decide (ha.2=0))) (Cb .i64 ((hb.length:Int)+(ha.1.length:Int))))<|Bw (((!decide (ha.2=0))||(decide (262144<((hb.length:Int)+(ha.1.length:Int)))))) (some (.out (.ret (([]:Ai),3)))) (Bd (Dz 1 (hb.length+ha.1.length))<|Bd (Cb .i64 (hd+1))<|some (.next (hb++D7 ha.1,hd+1)))) (some (.out (.go hb)))
def K6 (ha:(List Int)):Option (Ai×Int):=
 some (Qm ha,0)
def Ub (F:Nat)(bodies:(List Ai)):Option (Ai×Int):=
 Bq (Ci (λσ=>G6 F bodies σ.1 σ.2) F (([]:List Int),0)) (BO λν=>K6 ν)
end Go.Proofs.YtfobhhegpkinaaaGreatDoor
namespace Go.Proofs.YtfobhhegpkinaaaGreatDoor.Q
open Go Go.RowKit
set_option linter.unusedVariables false
set_option linter.unusedSimpArgs false
section
variable {P : Program} {n : Nat} {c : Cx} {l : Fr} {H : List Ent} {d : Option Nat} {x y : Operand} {t t' ty : TypeId} {pos : String} {af : Array Edge} {g : Option (Nat × Bool)} {k k' : IntKind} {p q : Int}
theorem Ae6 (hx:ev l x=some (rI k p))(hy:ev l y=some (rI k q)):Bv P n c l H { dst:=d,op:=.binOp .and t x y t',type:=ty,pos:=pos,after:=af,guard:=g } (rI k (Qy k p q)):=λa w Z ha _=>Dg<|by
 simp[execOp,ha.eval hx,ha.eval hy,BD,binOp,Op.intBits,Qy]
theorem AbW (hx:ev l x=some (rI k p))(hy:ev l y=some (rI k q)):Bv P n c l H { dst:=d,op:=.binOp .or t x y t',type:=ty,pos:=pos,after:=af,guard:=g } (rI k (JX k p q)):=λa w Z ha _=>Dg<|by
 simp[execOp,ha.eval hx,ha.eval hy,BD,binOp,Op.intBits,JX]
theorem ZI (hx:ev l x=some (rI k p))(hy:ev l y=some (rI k q)):Bv P n c l H { dst:=d,op:=.binOp .xor t x y t',type:=ty,pos:=pos,after:=af,guard:=g } (rI k (Hn k p q)):=λa w Z ha _=>Dg<|by
 simp[execOp,ha.eval hx,ha.eval hy,BD,binOp,Op.intBits,Hn]
theorem VY (hx:ev l x=some (rI k p))(hy:ev l y=some (rI k' q))(h0:decide (0≤q)=true):Bv P n c l H { dst:=d,op:=.binOp .shl t x y t',type:=ty,pos:=pos,after:=af,guard:=g } (rI k (D2 k p q)):=λa w Z ha _=>Dg<|by
 have h1 : ¬ q<0:=by have:=AfS h0;omega
 simp[execOp,ha.eval hx,ha.eval hy,BD,binOp,Op.shift,D2,h1]
theorem QU (hx:ev l x=some (rI k p))(hy:ev l y=some (rI k' q))(h0:decide (0≤q)=true):Bv P n c l H { dst:=d,op:=.binOp .shr t x y t',type:=ty,pos:=pos,after:=af,guard:=g } (rI k (CA k p q)):=λa w Z ha _=>Dg<|by
 have h1 : ¬ q<0:=by have:=AfS h0;omega
 simp[execOp,ha.eval hx,ha.eval hy,BD,binOp,Op.shift,CA,h1]
theorem Aca (hx:ev l x=some (rI k p)):Bv P n c l H { dst:=d,op:=.unOp .xor t x,type:=ty,pos:=pos,after:=af,guard:=g } (rI k (XS k p)):=λa w Z ha _=>Dg<|by
 simp[execOp,ha.eval hx,Op.unary,Op.intBits,XS,Hn]
end
theorem Ad3 {α:Type}[Inhabited α]{enc:α→Rp}{ys:List α}{j:Int}(hg:CY j (ys.length:Int)=true):(List.map enc ys)[j.toNat]? =some (enc (Aq ys j)):=by
 have h0:=(De hg).1;have h1:=(De hg).2;have hl:j.toNat<ys.length:=by omega
 simp[Aq,AfN hl]
theorem Acj {α:Type}{enc:α→Rp}{ys:List α}{j:Int}(hg:CY j (ys.length:Int)=true):Nat.blt j.toNat (List.map enc ys).length=true:=by
 have h0:=(De hg).1;have h1:=(De hg).2;simp;omega
section
variable {P : Program} {n : Nat} {c : Cx} {ops : Array Oper} {Q : Exit → Act → World → Prop} {rest : List Oper} {l : Fr} {H H' : List Ent} {d : Nat} {d' : Option Nat} {x y : Operand} {t ty e : TypeId} {pos : String} {af : Array Edge} {g : Option (Nat × Bool)} {k : IntKind} {b i len : Nat} {j : Int}
theorem ZQ (ht:P.underlying t=some (.array len e))(hz:∀w,(sizeOf e).run P w = .ok 1 w)(hx:ev l x=some (rv (.pointer (some ⟨b,0,none⟩))))(hy:ev l y=some (rI k j))(hg:CY j (len:Int)=true) :
  Bv P n c l H { dst:=d',op:=.indexAddr t x y,type:=ty,pos:=pos,after:=af,guard:=g } (rv (.pointer (some ⟨b,j.toNat,none⟩))):=λa w Z ha hw=>Dg<|by
 have h0:=(De hg).1;have h1:=(De hg).2;simp[execOp,ha.eval hx,ha.eval hy,Instr.indexAt,Instr.sureAddr,asIntOf,run_underlying ht,h0,h1,hz,Iv]
theorem ZO {α:Type}[Inhabited α]{enc:α→Rp}{ys:List α}(hag:∀w,(isAgg t).run P w = .ok false w)(hx:ev l x=some (rv (.pointer (some ⟨b,j.toNat,none⟩))))(hi:H[i]? =some (.blk b (List.map enc ys) e))(hg:CY j (ys.length:Int)=true) :
  Bv P n c l H { dst:=d',op:=.load t x,type:=ty,pos:=pos,after:=af,guard:=g } (enc (Aq ys j)):=AM hag hx hi (Ad3 hg)
theorem Xa {α:Type}[Inhabited α]{enc:α→Rp}{ys:List α}{v:α}(hag:∀w,(sizeOf t).run P w = .ok 1 w)(hx:ev l x=some (rv (.pointer (some ⟨b,j.toNat,none⟩))))(hy:ev l y=some (enc v))(hv:SF H (enc v))
  (hi:H[i]? =some (.blk b (List.map enc ys) e)) (hg:CY j (ys.length:Int)=true) (hH:H.set i (.blk b (List.map enc (List.set ys j.toNat v)) e)=H')
  (h:WL P n c ops Q rest l H'):WL P n c ops Q ({ dst:=none,op:=.store t x y,type:=ty,pos:=pos,after:=af,guard:=none }::rest) l H:=
 RM hag hx hy hv hi (Acj hg) (cs':=List.map enc (List.set ys j.toNat v)) (by rw[List.map_set]) hH h
theorem UP {α:Type}{enc:α→Rp}{ys:List α}{sz:Nat}(hag:∀w,(isAgg t).run P w = .ok true w)(hsz:∀w,(sizeOf t).run P w = .ok sz w)(hx:ev l x=some (rv (.pointer (some ⟨b,0,none⟩))))(hi:H[i]? =some (.blk b (List.map enc ys) e))(hl:decide (ys.length=sz)=true) :
  Bv P n c l H { dst:=d',op:=.load t x,type:=ty,pos:=pos,after:=af,guard:=g } (BL (List.map enc ys)):=Bi hag hsz hx hi (by rw[List.drop_zero,List.take_of_length_le (by rw[AfP];have:=AfS hl;omega)]) (by rw[AfP];exact AfS hl)
theorem NE {α:Type}{enc:α→Rp}{ys zs:List α}{sz:Nat}(hsz:∀w,(sizeOf t).run P w = .ok sz w)(hx:ev l x=some (rv (.pointer (some ⟨b,0,none⟩))))(hy:ev l y=some (BL (List.map enc zs)))(h1:∀x,(enc x).one=true)
  (hi:H[i]? =some (.blk b (List.map enc ys) e)) (hl:decide (ys.length=sz)=true) (hl2:decide (zs.length=sz)=true) (hH:H.set i (.blk b (List.map enc zs) e)=H')
  (h:WL P n c ops Q rest l H'):WL P n c ops Q ({ dst:=none,op:=.store t x y,type:=ty,pos:=pos,after:=af,guard:=none }::rest) l H:=
 Kj hsz hx hy (by rw[AfP];exact AfS hl2) (Cm.c (by simp[List.all_map,h1])) hi (by have:=AfS hl;simp;omega)
  (cs':=List.map enc zs) (by have:=AfS hl;rw[List.take_zero,Agz,List.drop_of_length_le (by rw[AfP];omega),Ag4]) hH h
theorem Acm {α:Type}{enc:α→Rp}{ys:List α}{sz:Nat}(hl:decide (ys.length=sz)=true):(List.map enc ys).length=sz:=by rw[AfP];exact AfS hl
end
def S8 (ops:List Oper)(N:Nat):Bool:=
 let cl:=PS ops []
 (List.range ops.length).all (λi=>(D6 (ops.getD i default)).all (·<i))&&
 (List.range ops.length).all (λi=>i<N||(List.range i).all (λj=>(cl.getD i 0).testBit j))
section
variable {P : Program} {Q : Exit → Act → World → Prop}
theorem Uj {listed:Array Bool}{len m:Nat}(hs:listed.size=len)(hm:m≤len)(h:∀j,j<len→(listed.getD j true=true↔j<m)):listed.toList.count false=len-m:=by
 have:listed.toList=List.replicate m true++List.replicate (len-m) false:=by
  apply List.ext_getElem
  ·simp[hs];omega
  ·intro j h1 h2;have hj:j<len:=by simpa[hs] using h1
   have:=h j hj;rw[Array.getD_eq_getD_getElem?,Array.getElem?_eq_getElem (by omega)] at this;simp only[Agm] at this;rw[Array.getElem_toList,List.getElem_append]
   split
   ·rename_i h3
    simp at h3;simp[this.2 h3]
   ·rename_i h3
    simp at h3;simp only[List.getElem_replicate]
    cases hb:listed[j] with
    | false=>rfl
    | true=>have:=this.1 hb;omega
 rw[this];simp[List.count_append,List.count_replicate]
theorem Wq {listed:Array Bool}{j:Nat}(h:j<listed.size)(d d':Bool):listed.getD j d=listed.getD j d':=by
 simp[Array.getD_eq_getD_getElem?,Array.getElem?_eq_getElem h]
theorem PY {ops:List Oper}{listed:Array Bool}{i:Nat}{o:Oper}(ho:ops[i]? =some o)(hb:∀e∈D6 o,listed.getD e true=true)
  (hcl:∀j o,ops[j]? =some o→listed.getD j true=true→∀e∈D6 o,listed.getD e true=true) (j:Nat) (h:((PS ops []).getD i 0).testBit j=true):j=i∨listed.getD j true=true:=
 Jp ops (λk=>k=i∨listed.getD k true=true) ops [] (λt o' ht e he hF=>by
  rcases hF with hF | hF
  ·simp at hF;subst hF;rw[ho] at ht;simp at ht;subst ht;exact .inr (hb e he)
  ·exact .inr (hcl t o' ht (by simpa using hF) e he)) (λj i hb=>by simp at hb) i j h (.inl rfl)
theorem LH {ops:List Oper}{listed:Array Bool}{i:Nat}(hsz:listed.size=ops.length)(hlt:∀i,i<ops.length→∀e∈D6 (ops.getD i default),e<i)(h:i∈Region.ready .any ops.toArray listed) :
  listed.getD i true=false∧i<ops.length∧∃o,ops[i]? =some o∧∀e∈D6 o,listed.getD e true=true:=by
 obtain⟨h1,o,ho,h2⟩:=mem_ready.1 h;have ho':ops[i]? =some o:=by simpa using ho
 have hil:=(List.getElem?_eq_some_iff.1 ho').1;refine⟨h1,hil,o,ho',λe he=>?_⟩;have hei:=hlt i hil e (by rw[AfO,ho'];exact he);simp only[D6,List.mem_map,List.mem_filter] at he;obtain⟨x,⟨hx1,hx2⟩,rfl⟩:=he;have h3:=h2 x (by simpa using hx1) hx2;rw[Wq (by omega) true false];exact h3
theorem Lz {ops:List Oper}{listed:Array Bool}(hsz:listed.size=ops.length)(hlt:∀i,i<ops.length→∀e∈D6 (ops.getD i default),e<i)(h:Region.ready .any ops.toArray listed=[]) :
  ∀j,j<ops.length→listed.getD j true=true:=by
 intro j
 induction j using Nat.strongRecOn with
 | ind j ih=>
  intro hj
  cases hb:listed.getD j true with
  | true=>rfl
  | false=>
   have:j∈Region.ready .any ops.toArray listed:=mem_ready.2 ⟨hb,ops[j],by simp[hj],λe he hbn=>by
    have hel:e.on<j:=hlt j hj e.on (by
     rw[AfO,AfN hj];simp only[D6,Agm,List.mem_map,List.mem_filter];exact⟨e,⟨by simpa using he,hbn⟩,rfl⟩)
    rw[Wq (by omega) false true];exact ih e.on hel (by omega)⟩
   rw[h] at this;cases this
theorem Ot {listed:Array Bool}{i j:Nat}(hi:i<listed.size):(listed.setIfInBounds i true).getD j true=true↔(j=i∨listed.getD j true=true):=by
 by_cases hj:i=j
 ·subst hj;simp[hi]
 ·rw[getD_set_ne true hj];exact⟨.inr,λh=>h.elim (λh=>absurd h.symm hj) id⟩
theorem Xh {listed:Array Bool}{i fuel:Nat}(hi:i<listed.size)(hun:listed.getD i true=false)(hc:listed.toList.count false=fuel+1):(listed.setIfInBounds i true).toList.count false=fuel:=by
 have hfi:listed.toList[i]? =some false:=by
  rw[Array.getD_eq_getD_getElem?,Array.getElem?_eq_getElem hi] at hun;simp at hun;simp[hi,hun]
 rw[Array.toList_setIfInBounds];have h1:=List.count_set (a:=true) (b:=false) (l:=listed.toList) (i:=i) (by simpa using hi);have h2:listed.toList[i]'(by simpa using hi)=false:=by
  have:=List.getElem?_eq_some_iff.1 hfi;exact this.2
 rw[h1,h2,hc];rfl
theorem N8 {ops:List Oper}{N:Nat}(hlt:∀i,i<ops.length→∀e∈D6 (ops.getD i default),e<i)
  (hch:∀i,N≤i→i<ops.length→∀j,j<i→((PS ops []).getD i 0).testBit j=true):∀(k m:Nat) (listed:Array Bool) (a:Act) (w:World),m+k=ops.length→N≤m→listed.size=ops.length→
   (∀j,j<ops.length→(listed.getD j true=true↔j<m))→(∀j o,ops[j]? =some o→listed.getD j true=true→∀e∈D6 o,listed.getD e true=true)→wpList P ops.toArray Q (ops.drop m) a w→wpAny P .any ops.toArray Q k listed a w
 | 0,m,listed,a,w,hk,hN,hsz,hl,hcl,h=>by
  refine⟨?_,?_⟩
  ·cases hr:Region.ready .any ops.toArray listed with
   | nil=>rfl
   | cons i r=>
    obtain⟨h1,h2,_⟩:=LH hsz hlt (i:=i) (by rw[hr];simp);rw[(hl i h2).2 (by omega)] at h1;cases h1
  ·rw[List.drop_of_length_le (by omega)] at h;exact h
 | k+1,m,listed,a,w,hk,hN,hsz,hl,hcl,h=>by
  refine⟨λhr=>?_,λi hi=>?_⟩
  ·have:=(hl m (by omega)).1 (Lz hsz hlt hr m (by omega));omega
  ·obtain⟨h1,h2,o,ho,hb⟩:=LH hsz hlt hi;have him:i=m:=by
    have hmi : ¬ i<m:=λh'=>by rw[(hl i h2).2 h'] at h1;cases h1
    by_cases e:i=m
    ·exact e
    ·rcases PY ho hb hcl m (hch i (by omega) h2 m (by omega)) with h3 | h3
     ·exact h3.symm
     ·have:=(hl m (by omega)).1 h3;omega
   subst him;have hd:ops.drop i=o::ops.drop (i+1):=by
    rw[List.drop_eq_getElem_cons h2]
    congr 1
    exact(List.getElem?_eq_some_iff.1 ho).2
   rw[hd] at h;have ih:∀a' w',wpList P ops.toArray Q (ops.drop (i+1)) a' w'→wpAny P .any ops.toArray Q k (listed.setIfInBounds i true) a' w':=λa' w' h'=>by
    refine N8 hlt hch k (i+1) _ a' w' (by omega) (by omega) (by simpa using hsz) (λj hj=>?_) (λj o' hj hlj e he=>?_) h'
    ·rw[Ot (by omega),hl j hj];omega
    ·rw[Ot (by omega)] at hlj ⊢;rcases hlj with rfl | hlj
     ·rw[ho] at hj;simp at hj;subst hj;exact .inr (hb e he)
     ·exact .inr (hcl j o' hj hlj e he)
   unfold wpOp;have hoA:ops.toArray[i]? =some o:=by simpa using ho
   simp only[hoA];simp only[wpList] at h
   split
   ·rename_i hw'
    rw[Ag9 hw'] at h;exact h.imp (λh=>Oper.wp_mono ih h) (λh=>h)
   ·rename_i hw'
    rw[Agt hw'] at h;exact ih _ _ h
theorem YO {id:Nat}{ops:List Oper}{N:Nat}(hm:P.follows .mixedOrders=true)(hB:S8 ops N=true)(hN:N≤ops.length)(I:(Nat→Bool)→Act→World→Prop)
  (hext:∀S S' a w,(∀j,j<N→S j=S' j)→I S a w→I S' a w) {a:Act} {w:World} (h0:I (λ_=>false) a { w with drawn:=w.drawn+1 })
  (step:∀S i o a w,i<N→S i=false→ops[i]? =some o→(∀e∈D6 o,e<i∧S e=true)→I S a w→∀K:Act→World→Prop,(∀a' w',I (λj=>j ==i||S j) a' w'→K a' w')→
   (Region.wanted o (yielded ops.toArray a.tmps)=true→o.wp P a w K Q)∧(Region.wanted o (yielded ops.toArray a.tmps)=false→K (a.put o.dst undef) w))
  (fin:∀a w,I (λ_=>true) a w→wpList P ops.toArray Q (ops.drop N) a w):(Code.region id ops.toArray true).wp P Q a w:=by
 simp only[S8,AfM,Ags,List.mem_range,AfF,Agv] at hB;obtain⟨hlt,hch0⟩:=hB;have hch:∀i,N≤i→i<ops.length→∀j,j<i→((PS ops []).getD i 0).testBit j=true:=λi h1 h2 j hj=>by
  rcases hch0 i h2 with h3 | h3
  ·omega
  ·exact h3 j hj
 refine wp_region_any hm ?_;have main:∀(fuel:Nat) (listed:Array Bool) (a:Act) (w:World),listed.size=ops.length→listed.toList.count false=fuel→I (λj=>listed.getD j true) a w→
   (∀j o,ops[j]? =some o→listed.getD j true=true→∀e∈D6 o,listed.getD e true=true)→(∀j,N≤j→j<ops.length→listed.getD j true=false)→wpAny P .any ops.toArray Q fuel listed a w:=by
  intro fuel;have allin:∀(fuel:Nat) (listed:Array Bool) (a:Act) (w:World),listed.size=ops.length→listed.toList.count false=fuel→I (λj=>listed.getD j true) a w→
   (∀j o,ops[j]? =some o→listed.getD j true=true→∀e∈D6 o,listed.getD e true=true)→(∀j,N≤j→j<ops.length→listed.getD j true=false)→(∀j,j<N→listed.getD j true=true)→wpAny P .any ops.toArray Q fuel listed a w:=by
   intro fuel listed a w hsz hc hI hcl hlast hall;have hl:∀j,j<ops.length→(listed.getD j true=true↔j<N):=λj hj=>by
    constructor
    ·intro h
     by_cases hjN:j<N
     ·exact hjN
     ·rw[hlast j (by omega) hj] at h;cases h
    ·exact hall j
   have:=Uj hsz hN hl;refine N8 hlt hch fuel N listed a w (by omega) (AfZ _) hsz hl hcl (fin a w (hext _ _ a w (λj hj=>hall j hj) hI))
  induction fuel with
  | zero=>
   intro listed a w hsz hc hI hcl hlast;refine allin 0 listed a w hsz hc hI hcl hlast (λj hj=>?_)
   cases hb:listed.getD j true with
   | true=>rfl
   | false=>
    have:false∈listed.toList:=by
     rw[Array.getD_eq_getD_getElem?,Array.getElem?_eq_getElem (by omega)] at hb;simp at hb;rw[← hb];simp
    have:=List.count_pos_iff.2 this;omega
  | succ fuel ih=>
   intro listed a w hsz hc hI hcl hlast
   by_cases hall:∀j,j<N→listed.getD j true=true
   ·exact allin (fuel+1) listed a w hsz hc hI hcl hlast hall
   ·refine⟨λhr=>absurd (λj hj=>Lz hsz hlt hr j (by omega)) hall,λi hi=>?_⟩;obtain⟨h1,h2,o,ho,hb⟩:=LH hsz hlt hi;have hiN:i<N:=by
     by_cases h:i<N
     ·exact h
     ·refine absurd (λj hj=>?_) hall;rcases PY ho hb hcl j (hch i (by omega) h2 j (by omega)) with h3 | h3
      ·omega
      ·exact h3
    have K':∀a' w',I (λj=>j ==i||listed.getD j true) a' w'→wpAny P .any ops.toArray Q fuel (listed.setIfInBounds i true) a' w':=λa' w' hI'=>by
     refine ih _ a' w' (by simpa using hsz) (Xh (by omega) h1 hc) (hext _ _ a' w' (λj hj=>?_) hI') (λj o' hj hlj e he=>?_) (λj h3 h4=>?_)
     ·have:=Ot (listed:=listed) (i:=i) (j:=j) (by omega)
      cases hq:(listed.setIfInBounds i true).getD j true with
      | true=>
       rw[hq] at this;rcases this.1 rfl with h | h
       ·simp[h]
       ·simp[h]
      | false=>
       rw[hq] at this;have h5 : ¬ (j=i∨listed.getD j true=true):=λh=>by have:=this.2 h;cases this
       cases hz:listed.getD j true with
       | true=>exact absurd (.inr hz) h5
       | false=>
        have:j≠i:=λh=>h5 (.inl h);simp[this]
     ·rw[Ot (by omega)] at hlj ⊢;rcases hlj with rfl | hlj
      ·rw[ho] at hj;simp at hj;subst hj;exact .inr (hb e he)
      ·exact .inr (hcl j o' hj hlj e he)
     ·rw[getD_set_ne true (by omega)];exact hlast j h3 h4
    obtain⟨k1,k2⟩:=step _ i o a w hiN h1 ho (λe he=>⟨hlt i h2 e (by rw[AfO,ho];exact he),hb e he⟩) hI _ K';unfold wpOp;have hoA:ops.toArray[i]? =some o:=by simpa using ho
    simp only[hoA]
    split
    ·rename_i hw';exact .inl (k1 hw')
    ·rename_i hw';exact k2 (by simpa using hw')
 have e0:∀j,j<ops.length→(Array.replicate ops.length false).getD j true=false:=λj hj=>by simp[hj]
 have hsz0:ops.toArray.size=ops.length:=by simp
 rw[hsz0];refine main ops.length (Array.replicate ops.length false) a _ (by simp) (by simp) (hext _ _ _ _ (λj hj=>(e0 j (by omega)).symm) h0) (λj o hj hl=>?_) (λj _ h2=>e0 j h2);rw[e0 j (List.getElem?_eq_some_iff.1 hj).1] at hl;cases hl
end
structure Sa where
 deps:List Nat
 r:Rp
 al:Option (List Rp×TypeId):=none
 late:Option (Nat×List Rp):=none
 sto:Option Nat:=none
def H5 (sp:List Sa)(i:Nat):Sa:=sp.getD i { deps:=[],r:=rv undef }
def spq (sp:List Sa):List Sp:=sp.map λs=>⟨s.deps,s.r,0⟩
def MY (β:Nat→Nat)(s:Sa)(i:Nat):Rp:=match s.al with
 | none=>s.r
 | some _=>rv (.pointer (some ⟨β i,0,none⟩))
def Nz (S:Nat→Bool)(late:Option (Nat×List Rp))(cs:List Rp):List Rp:=match late with
 | none=>cs
 | some q=>if S q.1 then q.2 else cs
def HB (S:Nat→Bool)(β:Nat→Nat):List Sa→Nat→List Ent
 | [],_=>[]
 | s::r,t=>match s.al with
  | some p=>if S t then .blk (β t) (Nz S s.late p.1) p.2::HB S β r (t+1) else HB S β r (t+1)
  | none=>HB S β r (t+1)
def Ya (β:Nat→Nat):List Sa→Nat→List Ent
 | [],_=>[]
 | s::r,t=>match s.al with
  | some p=>.blk (β t) (match s.late with | none=>p.1 | some q=>q.2) p.2::Ya β r (t+1)
  | none=>Ya β r (t+1)
def NZ (β:Nat→Nat):List Oper→List Sa→Nat→Fr→Fr
 | o::os,s::sp,i,l=>match o.dst with
  | some d=>(d,MY β s i)::NZ β os sp (i+1) l
  | none=>NZ β os sp (i+1) l
 | _,_,_,l=>l
theorem LU {S S':Nat→Bool}{late:Option (Nat×List Rp)}{cs:List Rp}(h:∀q,late=some q→S q.1=S' q.1):Nz S late cs=Nz S' late cs:=by
 unfold Nz
 cases late with
 | none=>rfl
 | some q=>simp only[];rw[h q rfl]
theorem Gu (S:Nat→Bool)(β:Nat→Nat)(s:Sa)(r:List Sa)(t:Nat):HB S β (s::r) t=match s.al with
  | some p=>if S t then .blk (β t) (Nz S s.late p.1) p.2::HB S β r (t+1) else HB S β r (t+1)
  | none=>HB S β r (t+1):=rfl
theorem Ih {S S':Nat→Bool}{β β':Nat→Nat}:∀(r:List Sa) (t0:Nat),(∀(t:Nat) (s:Sa),r[t]? =some s→s.al≠none→S (t0+t)=S' (t0+t)∧(S (t0+t)=true→β (t0+t)=β' (t0+t)∧∀q,s.late=some q→S q.1=S' q.1))→HB S β r t0=HB S' β' r t0
 | [],_,_=>rfl
 | s::r,t0,h=>by
  have ih:=Ih r (t0+1) (λt s hs hn=>by
   have:=h (t+1) s (by simpa using hs) hn;rw[show t0+1+t=t0+(t+1) from by omega];exact this)
  unfold HB;rw[ih]
  cases ha:s.al with
  | none=>rfl
  | some p=>
   obtain⟨h1,h2⟩:=h 0 s rfl (by rw[ha];exact nofun);simp only[Nat.add_zero] at h1 h2;simp only[];rw[← h1]
   split
   ·rename_i hS;rw[(h2 hS).1,LU (h2 hS).2]
   ·rfl
theorem Uf (β:Nat→Nat):∀(r:List Sa) (t0:Nat),HB (λ_=>true) β r t0=Ya β r t0
 | [],_=>rfl
 | s::r,t0=>by
  unfold HB Ya;rw[Uf β r (t0+1)]
  cases s.al with
  | none=>rfl
  | some p=>cases hl:s.late<;>simp[Nz,hl]
theorem R2 (β:Nat→Nat):∀(r:List Sa) (t0:Nat),HB (λ_=>false) β r t0=[]
 | [],_=>rfl
 | s::r,t0=>by
  unfold HB;rw[R2 β r (t0+1)]
  cases s.al<;>simp
theorem Ue {S:Nat→Bool}{β:Nat→Nat}{i b:Nat}{p:List Rp×TypeId}:∀(r:List Sa) (t0 k:Nat) (s:Sa),i=t0+k→r[k]? =some s→s.al=some p→S i=false→(∀(t:Nat) (s:Sa) (q:Nat×List Rp),r[t]? =some s→s.al≠none→s.late=some q→q.1≠i)→(∀q,s.late=some q→S q.1=false∧q.1≠i)→
  (HB (λj=>j ==i||S j) (λj=>if j=i then b else β j) r t0).Perm (.blk b p.1 p.2::HB S β r t0)
 | [],_,_,_,_,h,_,_,_,_=>by simp at h
 | s'::r,t0,0,s,hi,h,ha,hS,hne,hl=>by
  simp at h hi;subst h;subst hi;have e:=Ih (S:=λj=>j ==i||S j) (S':=S) (β:=λj=>if j=i then b else β j) (β':=β) r (i+1) (λt s hs hn=>by
   have:i+1+t≠i:=by omega
   refine⟨by simp[this],λ_=>⟨by simp[this],λq hq=>?_⟩⟩;have:=hne (t+1) s q (by simpa using hs) hn hq;simp[this])
  have ec:Nz (λj=>j ==i||S j) s'.late p.1=p.1:=by
   unfold Nz
   cases hq:s'.late with
   | none=>rfl
   | some q=>
    obtain⟨h1,h2⟩:=hl q hq;simp[h1,h2]
  unfold HB;rw[e,ha];simp only[hS,BEq.rfl,Ago,AgB,ec];simp
 | s'::r,t0,k+1,s,hi,h,ha,hS,hne,hl=>by
  have ih:=Ue (S:=S) (β:=β) (i:=i) (b:=b) (p:=p) r (t0+1) k s (by omega) (by simpa using h) ha hS (λt s q hs=>hne (t+1) s q (by simpa using hs)) hl;have hne0:t0≠i:=by omega
  have hne':(t0 ==i)=false:=by simpa using hne0
  unfold HB
  cases ha':s'.al with
  | none=>exact ih
  | some q=>
   simp only[hne',AfW,Agt hne0];rw[LU (S:=λj=>j ==i||S j) (S':=S) (λq hq=>by
    have:=hne 0 s' q rfl (by rw[ha'];exact nofun) hq;simp[this])]
   cases hS':S t0 with
   | true=>simpa using(AfQ _ ih).trans (List.Perm.swap _ _ _)
   | false=>simpa using ih
theorem Ud {S:Nat→Bool}{β:Nat→Nat}{i j:Nat}{p:List Rp×TypeId}{ncs:List Rp}:∀(r:List Sa) (t0 k:Nat) (s:Sa),j=t0+k→r[k]? =some s→s.al=some p→s.late=some (i,ncs)→S j=true→S i=false→(∀(t:Nat) (s:Sa) (q:Nat×List Rp),r[t]? =some s→s.al≠none→s.late=some q→t0+t≠j→q.1≠i)→(∀(t:Nat) (s:Sa),r[t]? =some s→s.al≠none→t0+t≠i)→
  ∃H',(HB S β r t0).Perm (.blk (β j) p.1 p.2::H')∧(HB (λj=>j ==i||S j) β r t0).Perm (.blk (β j) ncs p.2::H')
 | [],_,_,_,_,h,_,_,_,_,_,_=>by simp at h
 | s'::r,t0,0,s,hj,h,ha,hl,hSj,hSi,hne,hni=>by
  simp at h hj;subst h;subst hj;have e:=Ih (S:=λx=>x ==i||S x) (S':=S) (β:=β) (β':=β) r (j+1) (λt s hs hn=>by
   have h1:=hni (t+1) s (by simpa using hs) hn;have h1':j+1+t≠i:=by omega
   refine⟨by simp[h1'],λ_=>⟨rfl,λq hq=>?_⟩⟩;have:=hne (t+1) s q (by simpa using hs) hn hq (by omega);simp[this])
  refine⟨HB S β r (j+1),?_,?_⟩
  ·rw[Gu];rw[ha];simp[hSj,Nz,hl,hSi]
  ·rw[Gu];rw[ha,e];simp[hSj,Nz,hl]
 | s'::r,t0,k+1,s,hj,h,ha,hl,hSj,hSi,hne,hni=>by
  obtain⟨H',h1,h2⟩:=Ud (S:=S) (β:=β) (i:=i) (j:=j) (p:=p) (ncs:=ncs) r (t0+1) k s (by omega) (by simpa using h) ha hl hSj hSi (λt s q hs hn hq hx=>hne (t+1) s q (by simpa using hs) hn hq (by omega)) (λt s hs hn=>by
   have:=hni (t+1) s (by simpa using hs) hn;omega)
  cases ha':s'.al with
  | none=>exact⟨H',by rw[Gu,ha'];exact h1,by rw[Gu,ha'];exact h2⟩
  | some q=>
   have hi0:=hni 0 s' rfl (by rw[ha'];exact nofun);have hi0':(t0 ==i)=false:=by simpa using hi0
   have ec:Nz (λx=>x ==i||S x) s'.late q.1=Nz S s'.late q.1:=LU (λq hq=>by
    have:=hne 0 s' q rfl (by rw[ha'];exact nofun) hq (by omega);simp[this])
   cases hS':S t0 with
   | true=>
    refine⟨.blk (β t0) (Nz S s'.late q.1) q.2::H',?_,?_⟩
    ·rw[Gu];rw[ha'];simpa[hS'] using(AfQ _ h1).trans (List.Perm.swap _ _ _)
    ·rw[Gu];rw[ha'];simp only[hi0',AfW,hS',AgB,ec];exact(AfQ _ h2).trans (List.Perm.swap _ _ _)
   | false=>
    refine⟨H',?_,?_⟩
    ·rw[Gu];rw[ha'];simpa[hS'] using h1
    ·rw[Gu];rw[ha'];simp only[hi0',AfW,hS'];simpa using h2
def okA (n:Nat)(ops:List Oper)(N:Nat)(keys:List Nat)(deps:List (List Nat))(als:List Bool)(lates stos:List (Option Nat)):Bool:=
 S8 ops N&&decide (N≤ops.length)&&
 (List.range N).all (λi=>match CW ops i with
  | some d=>decide (d<n)&&!keys.contains d&&(List.range N).all (λj=>j ==i||CW ops j !=some d)
  | none=>true)&&
 (List.range N).all (λi=>(deps.getD i []).all (λj=>decide (j<N)&&(D6 (ops.getD i default)).contains j&&!als.getD j true))&&
 (List.range N).all (λi=>match stos.getD i none with
  | some j=>decide (j<N)&&(D6 (ops.getD i default)).contains j&&als.getD j false&&!als.getD i true
  | none=>true)&&
 (List.range N).all (λj=>match lates.getD j none with
  | some k=>decide (k<N)&&als.getD j false&&stos.getD k none ==some j
  | none=>true)
def Af3 (P:Program)(n:Nat)(c:Cx)(opsA:Array Oper)(Q:Exit→Act→World→Prop)(l:Fr)(o:Oper)(p:List Rp×TypeId):Prop:=
 ∀H a w Z (K:Act→World→Prop),Dy n l a Z→St c H Z w→(∀b w',St c (.blk b p.1 p.2::H) Z w'→K (a.put o.dst (.pointer (some ⟨b,0,none⟩))) w')→
  Region.wanted o (yielded opsA a.tmps)=true∧o.wp P a w K Q
def ObA (P:Program)(n:Nat)(c:Cx)(opsA:Array Oper)(Q:Exit→Act→World→Prop)(ops:List Oper)(sp:List Sa)(l0:Fr)(H:List Ent)(i:Nat)(o:Oper):Prop:=
 match (H5 sp i).sto with
 | some j=>o.dst=none∧∃d p ncs,CW ops j=some d∧(H5 sp j).al=some p∧(H5 sp j).late=some (i,ncs)∧
   ∀b H,DY P n c opsA Q ((d,rv (.pointer (some ⟨b,0,none⟩)))::Ck ops (spq sp) (H5 sp i).deps l0) (.blk b p.1 p.2::H) o (rv undef) (.blk b ncs p.2::H)
 | none=>match (H5 sp i).al with
  | none=>∀E,DY P n c opsA Q (Ck ops (spq sp) (H5 sp i).deps l0) (H++E) o (H5 sp i).r (H++E)
  | some p=>Af3 P n c opsA Q (Ck ops (spq sp) (H5 sp i).deps l0) o p
def N5 (P:Program)(n:Nat)(c:Cx)(opsA:Array Oper)(Q:Exit→Act→World→Prop)(ops:List Oper)(sp:List Sa)(l0:Fr)(H:List Ent):Nat→List Oper→Prop
 | i,o::rest=>ObA P n c opsA Q ops sp l0 H i o∧N5 P n c opsA Q ops sp l0 H (i+1) rest
 | _,[]=>True
section
variable {P : Program} {n : Nat} {c : Cx} {opsA : Array Oper} {Q : Exit → Act → World → Prop} {l l0 : Fr} {H : List Ent} {sp : List Sa}
theorem N5.at {ops:List Oper}:∀{k:Nat} {rest:List Oper},N5 P n c opsA Q ops sp l0 H k rest→∀(t:Nat) o,rest[t]? =some o→ObA P n c opsA Q ops sp l0 H (k+t) o
 | k,o::rest,⟨h1,h2⟩,t,o',ht=>by
  cases t with
  | zero=>simp at ht;subst ht;exact h1
  | succ t=>
   have:=N5.at h2 t o' (by simpa using ht);rw[show k+(t+1)=k+1+t from by omega];exact this
 | _,[],_,t,o,h=>by simp at h
theorem SD {β:Nat→Nat}{a:Act}{Z:Fz}(h0:Dy n l0 a Z):∀(os:List Oper) (ss:List Sa) (k:Nat),(∀(t:Nat) o s d,os[t]? =some o→ss[t]? =some s→o.dst=some d→∃v,a.tmps[d]? =some v∧(MY β s (k+t)).p Z v)→Dy n (NZ β os ss k l0) a Z
 | [],_,_,_=>by unfold NZ;exact h0
 | _::_,[],_,_=>by unfold NZ;exact h0
 | o::os,s::ss,k,h=>by
  have ih:=SD h0 os ss (k+1) (λt o' s' d h1 h2 h3=>by
   have:=h (t+1) o' s' d (by simpa using h1) (by simpa using h2) h3;rw[show k+1+t=k+(t+1) from by omega];exact this)
  unfold NZ
  cases hd:o.dst with
  | none=>exact ih
  | some d=>
   refine⟨ih.size,ih.defers,λi r hi=>?_⟩;rw[CC] at hi
   split at hi
   ·rename_i e;subst e;simp at hi;subst hi;exact h 0 o s d rfl rfl hd
   ·exact ih.tm i r hi
theorem Ade {id:Nat}{ops:List Oper}(N:Nat)(sp:List Sa)(hm:P.follows .mixedOrders=true)(hB:okA n ops N (G5 l0) (sp.map (·.deps)) (sp.map (·.al.isSome)) (sp.map (·.late.map (·.1))) (sp.map (·.sto))=true)(hl0:Yw l0 l)(hsp:sp.length=N)
  (hob:N5 P n c ops.toArray Q ops sp l0 H 0 (ops.take N)) (h:∀β,WL P n c ops.toArray Q (ops.drop N) (NZ β (ops.take N) sp 0 l0) (H++Ya β sp 0)):WC P n c (.region id ops.toArray true) Q l H:=by
 intro a w Z ha hw;simp only[okA,AfM,Ags,List.mem_range,AfF] at hB;obtain⟨⟨⟨⟨⟨b1,bN⟩,b2⟩,b3⟩,b4⟩,b5⟩:=hB;have hget:∀i,i<N→(ops.take N)[i]? =ops[i]?:=λi hi=>by rw[Ag1,Ag9 hi]
 have hsa:∀i,i<N→sp[i]? =some (H5 sp i):=λi hi=>by
  simp[H5,AfO,AfN (show i<sp.length by omega)]
 have hspq:∀i,i<N→(El (spq sp) i)=⟨(H5 sp i).deps,(H5 sp i).r,0⟩:=λi hi=>by
  simp[El,spq,AfO,Agw,hsa i hi]
 have hals:∀j b,j<N→(sp.map (·.al.isSome)).getD j b=(H5 sp j).al.isSome:=λj b hj=>by simp[AfO,Agw,hsa j hj]
 have hstos:∀j,j<N→(sp.map (·.sto)).getD j none=(H5 sp j).sto:=λj hj=>by simp[AfO,Agw,hsa j hj]
 have hlates:∀j,j<N→(sp.map (·.late.map (·.1))).getD j none=(H5 sp j).late.map (·.1):=λj hj=>by simp[AfO,Agw,hsa j hj]
 have S1:∀i o j,i<N→ops[i]? =some o→(H5 sp i).sto=some j→j<N∧j∈D6 o∧(H5 sp j).al≠none∧(H5 sp i).al=none:=λi o j hi ho hs=>by
  have h1:=b4 i hi;rw[hstos i hi,hs] at h1;simp only[AfM,Agd,AfF] at h1;obtain⟨⟨⟨h2,h3⟩,h4⟩,h5⟩:=h1;rw[hals j _ h2] at h4;rw[hals i _ hi] at h5;rw[AfO,ho,Agm,List.contains_iff_mem] at h3;exact⟨h2,h3,λe=>(by rw[e] at h4;cases h4),(by simpa using h5)⟩
 have L1:∀t q,t<N→(H5 sp t).late=some q→q.1<N∧(H5 sp q.1).sto=some t:=λt q ht hq=>by
  have h1:=b5 t ht;rw[hlates t ht,hq] at h1;simp only[Option.map_some,AfM,AfF,beq_iff_eq] at h1;obtain⟨⟨h2,h3⟩,h4⟩:=h1;rw[hstos _ h2] at h4;exact⟨h2,h4⟩
 have hops:∀j,j<N→∃o,ops[j]? =some o:=λj hj=>⟨ops[j]'(by omega),AfN (by omega)⟩
 have lt_of:∀(t:Nat) (s:Sa),sp[t]? =some s→t<N∧s=H5 sp t:=λt s hs=>by
  have h1:t<N:=by have:=(List.getElem?_eq_some_iff.1 hs).1;omega
  refine⟨h1,?_⟩;rw[hsa t h1] at hs;simpa using hs.symm
 have hdst:∀i o d,i<N→ops[i]? =some o→o.dst=some d→(d<n∧d ∉ G5 l0)∧∀j,j<N→j≠i→CW ops j≠some d:=λi o d hi ho hd=>by
  have h3:=b2 i hi;have:CW ops i=some d:=by simp[CW,ho,hd]
  rw[this] at h3;simp only[AfM,Agd,Ags,List.mem_range,AfF] at h3;refine⟨⟨h3.1.1,λhmem=>by rw[← List.contains_iff_mem] at hmem;rw[hmem] at h3;cases h3.1.2⟩,λj hj hne he=>?_⟩;have:=h3.2 j hj;simp[hne,he] at this
 refine YO (N:=N) hm b1 bN (λS a w=>∃ (β:Nat→Nat) (Z:Fz),St c (H++HB S β sp 0) Z w∧Dy n l0 a Z∧(∀j o d,j<N→S j=true→ops[j]? =some o→o.dst=some d→∃v,a.tmps[d]? =some v∧(MY β (H5 sp j) j).p Z v)∧
   ∀k j,k<N→(H5 sp k).sto=some j→S k=true→S j=true)
  (λS S' a w hS hI=>?_) ⟨λ_=>0,Z,?_,ha.subL hl0,λj o d _ hS=>(by cases hS),λk j _ _ hS=>(by cases hS)⟩ (λS i o a w hi hun ho hb hI K hK=>?_) (λa w hI=>?_)
 ·obtain⟨β,Z,h1,h2,h3,h4⟩:=hI;refine⟨β,Z,?_,h2,λj o d hj hS'=>h3 j o d hj (by rw[hS j hj];exact hS'),λk j hk hs hSk=>?_⟩
  ·rw[← Ih (S:=S) (β:=β) (β':=β) sp 0 (λt s hs _=>by
    obtain⟨ht,rfl⟩:=lt_of t s hs;exact⟨hS _ (by omega),λ_=>⟨rfl,λq hq=>hS _ (L1 t q ht hq).1⟩⟩)]
   exact h1
  ·obtain⟨o,ho⟩:=hops k hk;rw[← hS j (S1 k o j hk ho hs).1];exact h4 k j hk hs (by rw[hS k hk];exact hSk)
 ·rw[R2,Ag4];exact hw.drawn _
 ·obtain⟨β,Z,h1,h2,h3,hx⟩:=hI;have hput:∀k u v,a.tmps[k]? =some u→o.dst≠some k→(a.put o.dst v).tmps[k]? =some u:=λk u v hk hne=>by
   cases hd:o.dst with
   | none=>simpa[Act.put] using hk
   | some d=>
    simp only[Act.put,Array.getElem?_setIfInBounds];rw[Agt (λe=>hne (by rw[hd,e]))];exact hk
  have hagr:∀v Z',Fz.le Z Z'→Dy n l0 (a.put o.dst v) Z':=λv Z' hz=>by
   refine⟨?_,?_,λk r hk=>?_⟩
   ·cases o.dst<;>simp[Act.put,h2.size]
   ·cases o.dst<;>simp[Act.put,h2.defers]
   ·obtain⟨u,hu,hpu⟩:=h2.tm k r hk;exact⟨u,hput k u v hu (λe=>((hdst i o k hi ho e).1).2 (M7 hk)),r.mono hz hpu⟩
  have hvals:∀(v:Value) (Z':Fz) (β':Nat→Nat),Fz.le Z Z'→(∀j,j≠i→β' j=β j)→(o.dst≠none→(MY β' (H5 sp i) i).p Z' v)→∀j o' d,j<N→(j ==i||S j)=true→ops[j]? =some o'→o'.dst=some d→∃u,(a.put o.dst v).tmps[d]? =some u∧(MY β' (H5 sp j) j).p Z' u:=by
   intro v Z' β' hz hβ hp j o' d hj hS' ho' hd
   by_cases hji:j=i
   ·subst hji;rw[ho] at ho';simp at ho';subst ho';refine⟨v,?_,hp (by simp[hd])⟩;have hdn:d<a.tmps.size:=by rw[h2.size];exact(hdst j o d hi ho hd).1.1
    simp[Act.put,hd,hdn]
   ·have hSj:S j=true:=by simpa[hji] using hS'
    obtain⟨u,hu,hpu⟩:=h3 j o' d hj hSj ho' hd;refine⟨u,hput d u v hu (λe=>(hdst i o d hi ho e).2 j hj hji (by simp[CW,ho',hd])),?_⟩;have:MY β' (H5 sp j) j=MY β (H5 sp j) j:=by unfold MY;rw[hβ j hji]
    rw[this];exact(MY β (H5 sp j) j).mono hz hpu
  have hx':∀k j,k<N→(H5 sp k).sto=some j→(k ==i||S k)=true→(j ==i||S j)=true:=λk j hk hs hSk=>by
   by_cases hki:k=i
   ·subst hki;have:=(hb j (S1 k o j hk ho hs).2.1).2;simp[this]
   ·have:S j=true:=hx k j hk hs (by simpa[hki] using hSk);simp[this]
  have hat:=hob.at i o (by rw[hget i hi];exact ho);rw[Agx] at hat;unfold ObA at hat;have hag':Dy n (Ck ops (spq sp) (H5 sp i).deps l0) a Z:=MP h2 (λj hj d hd=>by
    have h4:=b3 i hi j (by simpa[AfO,Agw,hsa i hi] using hj);simp only[AfM,Agd,AfF] at h4;obtain⟨⟨h5,h6⟩,h7⟩:=h4;rw[AfO,ho,Agm,List.contains_iff_mem] at h6;have hjal:(H5 sp j).al=none:=by
     rw[hals j _ h5] at h7;simpa using h7
    obtain⟨o2,ho2⟩:=hops j h5;obtain⟨v,hv1,hv2⟩:=h3 j o2 d h5 (hb j h6).2 ho2 (by simpa[CW,ho2] using hd);refine⟨v,hv1,?_⟩;rw[hspq j h5];simpa[MY,hjal] using hv2)
  cases hst:(H5 sp i).sto with
  | some j=>
   rw[hst] at hat;obtain⟨hod,d,p,ncs,hd,hal,hlate,hok⟩:=hat;obtain⟨hjN,hjb,_,hial⟩:=S1 i o j hi ho hst;have hSj:=(hb j hjb).2;obtain⟨H',p1,p2⟩:=Ud (S:=S) (β:=β) (i:=i) (j:=j) (p:=p) (ncs:=ncs) sp 0 j (H5 sp j) (by omega) (hsa j hjN) hal hlate hSj hun (λt s q hs _ hq hne he=>by
     obtain⟨ht,rfl⟩:=lt_of t s hs;have:=(L1 t q ht hq).2;rw[he,hst] at this;simp at this;omega) (λt s hs hn he=>by
     obtain⟨ht,rfl⟩:=lt_of t s hs;rw[Agx] at he;subst he;exact hn hial)
   obtain⟨o2,ho2⟩:=hops j hjN;obtain⟨v,hv1,hv2⟩:=h3 j o2 d hjN hSj ho2 (by simpa[CW,ho2] using hd);have hag2:Dy n ((d,rv (.pointer (some ⟨β j,0,none⟩)))::Ck ops (spq sp) (H5 sp i).deps l0) a Z:=⟨hag'.size,hag'.defers,λk r hk=>by
    rw[CC] at hk
    split at hk
    ·rename_i e;subst e;simp at hk;subst hk
     exact⟨v,hv1,by simpa[MY,hal] using hv2⟩
    ·exact hag'.tm k r hk⟩
   refine hok (β j) (H++H') a w Z K hag2 (h1.perm ((List.Perm.append_left H p1).trans List.perm_middle)) (λv w' Z' hz _ hs'=>hK _ _ ⟨β,Z',?_,hagr v Z' hz,hvals v Z' β hz (λ_ _=>rfl) (λhne=>absurd hod hne),hx'⟩);exact hs'.perm (List.perm_middle.symm.trans (List.Perm.append_left H p2.symm))
  | none=>
   rw[hst] at hat;have latene:∀t q,t<N→(H5 sp t).late=some q→q.1≠i:=λt q ht hq he=>by
    have:=(L1 t q ht hq).2;rw[he,hst] at this;cases this
   cases hal:(H5 sp i).al with
   | none=>
    rw[hal] at hat;refine hat _ a w Z K hag' h1 (λv w' Z' hz hp hst'=>hK _ _ ⟨β,Z',?_,hagr v Z' hz,hvals v Z' β hz (λ_ _=>rfl) (λ_=>by unfold MY;rw[hal];exact hp),hx'⟩);rw[Ih (S':=S) (β':=β) sp 0 (λt s hs hn=>by
     obtain⟨ht,rfl⟩:=lt_of t s hs;have:t≠i:=λe=>by subst e;exact hn hal
     refine⟨by simp[this],λ_=>⟨rfl,λq hq=>?_⟩⟩;have:=latene t q ht hq;simp[this])]
    exact hst'
   | some p=>
    rw[hal] at hat;have key:=λK' hK'=>hat (H++HB S β sp 0) a w Z K' hag' h1 hK';have h5:∀b w',St c (.blk b p.1 p.2::(H++HB S β sp 0)) Z w'→K (a.put o.dst (.pointer (some ⟨b,0,none⟩))) w':=λb w' hst'=>by
     refine hK _ _ ⟨λj=>if j=i then b else β j,Z,?_,hagr _ Z (Fz.le.refl _),hvals _ Z _ (Fz.le.refl _) (λj hj=>by simp[hj]) (λ_=>by simp[MY,hal,rv]),hx'⟩;have hp:=Ue (S:=S) (β:=β) (i:=i) (b:=b) (p:=p) sp 0 i (H5 sp i) (by omega) (hsa i hi) hal hun (λt s q hs _ hq=>by
      obtain⟨ht,rfl⟩:=lt_of t s hs;exact latene t q ht hq) (λq hq=>by
       refine⟨?_,latene i q hi hq⟩
       cases hS:S q.1 with
       | false=>rfl
       | true=>
        obtain⟨h6,h7⟩:=L1 i q hi hq;have:=hx q.1 i h6 h7 hS;rw[this] at hun;cases hun)
     exact hst'.perm ((List.perm_middle.symm).trans (List.Perm.append_left H hp.symm))
    refine⟨λ_=>(key K h5).2,λhw'=>?_⟩;rw[(key K h5).1] at hw';cases hw'
 ·obtain⟨β,Z,h1,h2,h3,_⟩:=hI;refine h β a w Z (SD h2 _ _ 0 (λt o s d ht hs hd=>?_)) (by rw[← Uf];exact h1);obtain⟨htN,rfl⟩:=lt_of t s hs;rw[Agx];exact h3 t o d htN rfl (by rw[← hget t htN];exact ht) hd
end
section
variable {P : Program} {n : Nat} {c : Cx} {opsA : Array Oper} {Q : Exit → Act → World → Prop} {l l0 : Fr} {H : List Ent} {sp : List Sa}
theorem Dr {id:Nat}{ops:List Oper}(N:Nat)(ks0:List Nat)(sp:List Sa)(hob:N5 P n c ops.toArray Q ops sp l0 H 0 (ops.take N))(h:∀β,WL P n c ops.toArray Q (ops.drop N) (NZ β (ops.take N) sp 0 l0) (H++Ya β sp 0))
  (h0:Kp ks0 l l0:=by repeat (first | exact Qu | (apply Nr;rfl) | (apply Ok;rfl))) (hm:P.follows .mixedOrders=true:=by kernel_rfl) (hB:okA n ops N (G5 l0) (sp.map (·.deps)) (sp.map (·.al.isSome)) (sp.map (·.late.map (·.1))) (sp.map (·.sto))=true:=by kernel_rfl)
  (hsp:sp.length=N:=by rfl):WC P n c (.region id ops.toArray true) Q l H:=Ade N sp hm hB h0.one hsp hob h
theorem Do {all rest:List Oper}{d:Nat}{op:Op}{ty:TypeId}{pos:String}{af:Array Edge}{i:Nat}
  (hr:∀{H},Bv P n c (Ck all (spq sp) (H5 sp i).deps l0) H { dst:=some d,op:=op,type:=ty,pos:=pos,after:=af,guard:=none } (H5 sp i).r) (h:N5 P n c opsA Q all sp l0 H (i+1) rest) (ha:(H5 sp i).al=none:=by rfl) (hs:(H5 sp i).sto=none:=by rfl) :
  N5 P n c opsA Q all sp l0 H i ({ dst:=some d,op:=op,type:=ty,pos:=pos,after:=af,guard:=none }::rest):=by
 refine⟨?_,h⟩;unfold ObA;rw[hs,ha];exact λ_=>Es hr
theorem HW {all rest:List Oper}{d:Nat}{op:Op}{ty:TypeId}{pos:String}{af:Array Edge}{i:Nat}
  (hr:∀{E},Bv P n c (Ck all (spq sp) (H5 sp i).deps l0) (H++E) { dst:=some d,op:=op,type:=ty,pos:=pos,after:=af,guard:=none } (H5 sp i).r) (h:N5 P n c opsA Q all sp l0 H (i+1) rest) (ha:(H5 sp i).al=none:=by rfl) (hs:(H5 sp i).sto=none:=by rfl) :
  N5 P n c opsA Q all sp l0 H i ({ dst:=some d,op:=op,type:=ty,pos:=pos,after:=af,guard:=none }::rest):=by
 refine⟨?_,h⟩;unfold ObA;rw[hs,ha];exact λ_=>Es hr
theorem Sh {all:List Oper}{i:Nat}:N5 P n c opsA Q all sp l0 H i []:=trivial
end
structure Kza (ks:List Nat) (β:Nat→Nat) (os:List Oper) (sp:List Sa) (i:Nat) (l0 l1:Fr):Prop where
 go:Kp ks (NZ β os sp i l0) l1
section
variable {ks : List Nat} {β : Nat → Nat} {os : List Oper} {sp : List Sa} {i d : Nat} {l0 l1 : Fr} {ds : List Nat} {r : Rp} {p : List Rp × TypeId} {lt : Option (Nat × List Rp)} {so : Option Nat} {op : Op} {ty : TypeId} {pos : String} {af : Array Edge} {g : Option (Nat × Bool)}
theorem Ae8 (h:ks.contains d=true)(t:Kza ks β os sp (i+1) l0 l1):Kza ks β ({ dst:=some d,op:=op,type:=ty,pos:=pos,after:=af,guard:=g }::os) ({ deps:=ds,r:=r,sto:=so }::sp) i l0 ((d,r)::l1):=⟨Nr h t.go⟩
theorem AeB (h:ks.contains d=true)(t:Kza ks β os sp (i+1) l0 l1):Kza ks β ({ dst:=some d,op:=op,type:=ty,pos:=pos,after:=af,guard:=g }::os) ({ deps:=ds,r:=r,al:=some p,late:=lt,sto:=so }::sp) i l0 ((d,rv (.pointer (some ⟨β i,0,none⟩)))::l1):=⟨Nr h t.go⟩
theorem AeA {s:Sa}(h:ks.contains d=false)(t:Kza ks β os sp (i+1) l0 l1):Kza ks β ({ dst:=some d,op:=op,type:=ty,pos:=pos,after:=af,guard:=g }::os) (s::sp) i l0 l1:=⟨Ok h t.go⟩
theorem Ae9 {s:Sa}(t:Kza ks β os sp (i+1) l0 l1):Kza ks β ({ dst:=none,op:=op,type:=ty,pos:=pos,after:=af,guard:=g }::os) (s::sp) i l0 l1:=⟨t.go⟩
theorem AeC (t:Kp ks l0 l1):Kza ks β [] [] i l0 l1:=⟨t⟩
theorem Dq {P:Program}{n:Nat}{c:Cx}{opsA:Array Oper}{Q:Exit→Act→World→Prop}{rest:List Oper}{H H1:List Ent}(ks:List Nat)(h:WL P n c opsA Q rest l1 H1)
  (hz:Kza ks β os sp i l0 l1:=by repeat (first | (apply Ae8;rfl) | (apply AeB;rfl) | (apply AeA;rfl) | apply Ae9 | apply AeC | exact Qu | (apply Nr;rfl) | (apply Ok;rfl))) (hH:H=H1:=by rfl) :
  WL P n c opsA Q rest (NZ β os sp i l0) H:=λa w Z ha hw=>h a w Z (ha.subL hz.go.one) (hH▸hw)
end
section
variable {P : Program} {n : Nat} {c : Cx} {opsA : Array Oper} {Q : Exit → Act → World → Prop} {l l0 : Fr} {H : List Ent} {sp : List Sa}
theorem NL {all rest:List Oper}{o:Oper}{i:Nat}(hr:∀{E},DY P n c opsA Q (Ck all (spq sp) (H5 sp i).deps l0) (H++E) o (H5 sp i).r (H++E))(h:N5 P n c opsA Q all sp l0 H (i+1) rest)(ha:(H5 sp i).al=none:=by rfl)(hs:(H5 sp i).sto=none:=by rfl):N5 P n c opsA Q all sp l0 H i (o::rest):=by
 refine⟨?_,h⟩;unfold ObA;rw[hs,ha];exact λ_=>hr
end
section
variable {P : Program} {n : Nat} {c : Cx} {opsA : Array Oper} {Q : Exit → Act → World → Prop} {l : Fr} {H : List Ent} {d : Nat} {ty : TypeId} {pos : String} {af : Array Edge}
theorem ZE {f:FuncId}{args:List Operand}{ats:Array TypeId}{rs:List Rp}{r:Rp}{Hin Hout Hr:List Ent}(hcall:∀(as1:Array Value) (w:World),(callFunc f as1).run P w = .ok (.enter f as1) w)(hv:Ol l args=some rs)
  (hp:H.Perm (Hin++Hr)) (hc:Fn P c.E f rs Hin (λr' H'=>r'=r∧H'=Hout)) {H':List Ent} (hH:Hout++Hr=H'):DY P n c opsA Q l H { dst:=some d,op:=.call { callee:=.value (.func f),args:=args.toArray,argTypes:=ats },type:=ty,pos:=pos,after:=af,guard:=none } r H':=λa w Z K ha hw hK=>
 ⟨λ_=>by
  subst hH;unfold Oper.wp;rw[EW rfl hcall w];refine(hc w Z _ (IB ha hv) (hw.perm hp).enter).mono ?_;rintro e w' ⟨r2,v,Ho,Z',rfl,⟨rfl,rfl⟩,hr2,hs⟩;exact hK v w' Z' hs.le hr2 ((hw.perm hp).call hs),λh=>by simp[Region.wanted] at h⟩
theorem ZD {f:FuncId}{args:List Operand}{ats:Array TypeId}{rs:List Rp}{r:Rp}{Hin Hr:List Ent}(hcall:∀(as1:Array Value) (w:World),(callFunc f as1).run P w = .ok (.enter f as1) w)(hv:Ol l args=some rs)
  (hp:H.Perm (Hin++Hr)) (hc:Fn P c.E f rs Hin (λr' H'=>r'=r∧H'=Hin)):DY P n c opsA Q l H { dst:=some d,op:=.call { callee:=.value (.func f),args:=args.toArray,argTypes:=ats },type:=ty,pos:=pos,after:=af,guard:=none } r H:=λa w Z K ha hw hK=>
 ZE (Hout:=Hin) hcall hv hp hc rfl a w Z K ha hw (λv w' Z' hz hr hs=>hK v w' Z' hz hr (hs.perm hp.symm))
theorem QR {f:FuncId}{args:List Operand}{ats:Array TypeId}{rs:List Rp}{r:Rp}{Hin Hr E:List Ent}(hcall:∀(as1:Array Value) (w:World),(callFunc f as1).run P w = .ok (.enter f as1) w)(hv:Ol l args=some rs)
  (hp:H.Perm (Hin++Hr)) (hc:Fn P c.E f rs Hin (λr' H'=>r'=r∧H'=Hin)):DY P n c opsA Q l (H++E) { dst:=some d,op:=.call { callee:=.value (.func f),args:=args.toArray,argTypes:=ats },type:=ty,pos:=pos,after:=af,guard:=none } r (H++E):=
 ZD (Hin:=Hin) (Hr:=Hr++E) hcall hv (by rw[← Agk];exact hp.append_right E) hc
end
section
variable {P : Program} {n : Nat} {c : Cx} {ops : Array Oper} {Q : Exit → Act → World → Prop} {rest : List Oper} {l : Fr} {H H' : List Ent} {d : Nat} {d' : Option Nat} {x y z3 : Operand} {ty t t' e : TypeId} {pos : String} {af : Array Edge} {g : Option (Nat × Bool)} {v u : Value} {r : Rp} {sz : Nat}
end
def rBx (p:Bool→Prop):Rp:=⟨λ_ v=>∃b,v = .bool b∧p b,λ_ h=>h,true,λ_ Z v ⟨b,e,_⟩=>by rw[e];rfl⟩
section
variable {P : Program} {n : Nat} {c : Cx} {ops : Array Oper} {Q : Exit → Act → World → Prop} {rest : List Oper} {l : Fr} {H : List Ent} {d : Option Nat} {ty rty t e : TypeId} {pos : String} {af : Array Edge} {g : Option (Nat × Bool)} {r : Rp} {x : Operand} {cx cy : Code} {sz : Nat} {xs : List (List Rp)}
theorem OM {o:Operand}{p:Bool→Prop}(ho:ev l o=some (rBx p))(h1:p true→WC P n c cx Q l H)(h2:p false→WC P n c cy Q l H):WC P n c (.cond o cx cy) Q l H:=λa w Z ha hw=>by
 obtain⟨b,e,hp⟩:=ha.ev ho;exact wp_cond_split e (λe=>h1 (e▸hp) a w Z ha hw) (λe=>h2 (e▸hp) a w Z ha hw)
theorem Xu (ht:P.underlying t=some (.slice e))(h:ev l x=some (Br sz xs)):Bv P n c l H { dst:=d,op:=.binOp .eql t x (.const (.slice none 0 0)) rty,type:=ty,pos:=pos,after:=af,guard:=g } (rBx (λb=>b=true→xs=[])):=λa w Z ha hw=>by
 obtain⟨A,cap,e1,h1,h2,h3,h4⟩:=ha.ev h;refine⟨.bool A.isNone,⟨_,rfl,λhb=>?_⟩,?_⟩
 ·cases A with
  | some a=>cases hb
  | none=>
   have:=h3 rfl;exact List.length_eq_zero_iff.1 (by omega)
 ·have:=run_equal_slice_nil (P:=P) w t e A xs.length cap ht;have e2:a.eval (.const (.slice none 0 0)) = .slice none 0 0:=rfl;simp[execOp,e1,e2,binOp,this,eqGuard]
end
section
variable {P : Program} {n : Nat} {c : Cx} {Q : Exit → Act → World → Prop} {l : Fr} {H : List Ent} {x rest' : Code} {K : Act → World → Prop}
theorem KL {lb:Nat}(h:WK n c (Q (.goto lb)) l H):WC P n c (.goto lb) Q l H:=λa w Z ha hw=>wp_goto (h a w Z ha hw)
theorem Cg {lb:Nat}(h:WK n c (Q (.goto lb)) l H):WK n c (Exit.then K Q (.goto lb)) l H:=h
theorem GH {id lb:Nat}(h:WK n c (Q (.goto lb)) l H):WK n c (Exit.inBlock id Q (.goto lb)) l H:=h
theorem Kf {id lb:Nat}(h:WK n c (Q (.goto lb)) l H):WK n c (AaX id K Q (.goto lb)) l H:=h
theorem Ab5 {lb:Nat}(h:WK n c (Q .ret) l H):WK n c (Exit.jump lb K Q .ret) l H:=h
theorem KJ {lb:Nat}(h:WK n c K l H):WK n c (Exit.jump lb K Q (.goto lb)) l H:=λa w Z ha hw=>⟨rfl,h a w Z ha hw⟩
theorem Qf {S:Type}(lb:Nat)(inv:S→Prop)(fr:S→Fr)(hp:S→List Ent)(hf:findLabel x lb=some rest')
  (h1:WC P n c x (Exit.jump lb (IE n c inv fr hp) Q) l H) (h2:∀s,inv s→WC P n c rest' (Exit.noGoto Q) (fr s) (hp s)):WC P n c (.scope x) Q l H:=λa w Z ha hw=>
 wp_scope_jumps lb (IE n c inv fr hp) (λ_ _=>0) hf (h1 a w Z ha hw) (by
  rintro a w ⟨s,Z,hi,ha,hw⟩;refine wp_mono (h2 s hi a w Z ha hw) λe a w q=>?_
  cases e with
  | goto _=>exact q.elim
  | _=>exact q)
end
section
variable {P : Program} {n : Nat} {c : Cx} {ops : Array Oper} {Q : Exit → Act → World → Prop} {rest : List Oper} {l : Fr} {H H' : List Ent} {d : Nat} {d' : Option Nat} {x y z3 z4 : Operand} {ty t t' e : TypeId} {pos : String} {af : Array Edge} {g : Option (Nat × Bool)} {v u : Value} {r : Rp} {sz : Nat}
theorem NM {α:Type}{ys:List α}{enc:α→List Rp}{k' k'':IntKind}{j:Int}(ht:P.underlying t=some (.slice e))(hz:∀w,(sizeOf e).run P w = .ok sz w)(h:ev l x=some (Br sz (ys.map enc)))(hj:ev l z3=some (rI k' j))(hm:ev l z4=some (rI k'' j))(hg2:Gs j (ys.length:Int)=true) :
  Bv P n c l H { dst:=d',op:=.slice t x none (some z3) (some z4),type:=ty,pos:=pos,after:=af,guard:=g } (Br sz ((ys.take j.toNat).map enc)):=λa w Z ha hw=>by
 obtain⟨A,cap,e1,hc1,hc2,hA,hc⟩:=ha.ev h;have h0:=(BM hg2).1;have h2:=(BM hg2).2;simp only[AfP] at e1 hc1;have h3:j≤(cap:Int):=by omega
 refine⟨.slice A j.toNat j.toNat,⟨A,j.toNat,?_,?_,by omega,?_,λq cl hq=>?_⟩,?_⟩
 ·congr 1
  simp;omega
 ·simp;omega
 ·intro hn;have:=hA hn;omega
 ·rw[Agw,Ag1] at hq
  split at hq
  ·exact hc q cl (by rw[Agw];exact hq)
  ·cases hq
 ·have hA':A.map (λb=>b.add 0)=A:=by
   cases A with
   | none=>rfl
   | some ad=>obtain⟨b,o,sp⟩:=ad;cases sp<;>rfl
  simp[execOp,e1,ha.eval hj,ha.eval hm,Instr.sliceAt,Instr.slice,run_underlying ht,Instr.sliceBounds,Bg (m:=cap) _ _ h0 h3,Bg (m:=j.toNat) _ _ h0 (by omega),hz]
  try (intro _;cases A<;>rfl)
theorem Wa {i:Nat}{rs:List Rp}{fs:Array Field}{f:Field}(hu:P.underlying t=some (.struct fs))(hf:fs[i]? =some f)(hag:∀w,(isAgg f.type).run P w = .ok false w)(hx:ev l x=some (BL rs))(hr:rs[f.offset]? =some r) :
  Bv P n c l H { dst:=d',op:=.field t x i,type:=ty,pos:=pos,after:=af,guard:=g } r:=λa w Z ha hw=>by
 obtain⟨us,e1,hus⟩:=ha.ev hx;obtain⟨v,hv,hp⟩:=hus.at hr;exact⟨v,hp,by simp[execOp,e1,Instr.field,run_underlying hu,hf,asAgg,part,hag,hv]⟩
end
structure Sx (U:Type) where
 deps:List Nat
 r:U→Rp
 dyn:Bool:=false
 old:List Nat:=[]
def HF {U:Type}(sp:List (Sx U))(i:Nat):Sx U:=sp.getD i { deps:=[],r:=λ_=>rv undef }
def Y4 {U:Type}(sp:List (Sx U))(u:U):List Sp:=sp.map λs=>⟨s.deps,s.r u,0⟩
def saU {U:Type}(sp:List (Sx U))(u:U):List Sa:=sp.map λs=>{ deps:=s.deps,r:=s.r u }
def Qb {U:Type}:List (Sx U)→Prop
 | []=>True
 | s::r=>(s.dyn=false→∀u u',s.r u=s.r u')∧Qb r
theorem Qb.at {U:Type}:∀{sp:List (Sx U)},Qb sp→∀{i:Nat} {s:Sx U},sp[i]? =some s→s.dyn=false→∀u u',s.r u=s.r u'
 | [],_,i,s,h=>by simp at h
 | x::sp,⟨h1,h2⟩,0,s,h=>by simp at h;subst h;exact h1
 | x::sp,⟨h1,h2⟩,i+1,s,h=>Qb.at h2 (by simpa using h)
theorem Afk {U:Type}{ds os:List Nat}{r:Rp}{sp:List (Sx U)}(h:Qb sp):Qb ({ deps:=ds,r:=λ_=>r,old:=os }::sp):=⟨λ_ _ _=>rfl,h⟩
theorem Afj {U:Type}{ds os:List Nat}{r:U→Rp}{sp:List (Sx U)}(h:Qb sp):Qb ({ deps:=ds,r:=r,dyn:=true,old:=os }::sp):=⟨λh'=>(by cases h'),h⟩
def Ha (lw:Fr):List Nat→Fr→Fr
 | [],l=>l
 | d::r,l=>match look lw d with
  | some q=>(d,q)::Ha lw r l
  | none=>Ha lw r l
theorem W5 {n:Nat}{lw l:Fr}{a:Act}{Z:Fz}(h0:Dy n l a Z):∀{ds:List Nat},(∀d∈ds,∀q,look lw d=some q→∃v,a.tmps[d]? =some v∧q.p Z v)→Dy n (Ha lw ds l) a Z
 | [],_=>h0
 | d::ds,h=>by
  have ih:=W5 h0 (ds:=ds) (λd' hd'=>h d' (by simp[hd']));unfold Ha
  cases hd:look lw d with
  | none=>exact ih
  | some q=>
   refine⟨ih.size,ih.defers,λi r hi=>?_⟩;rw[CC] at hi
   split at hi
   ·rename_i e;subst e;simp at hi;subst hi;exact h d (by simp) q hd
   ·exact ih.tm i r hi
theorem Afi {U:Type}:Qb ([]:List (Sx U)):=trivial
def okX (n:Nat)(ops:List Oper)(N i0:Nat)(keys:List Nat)(deps:List (List Nat))(dyns:List Bool)(olds:List (List Nat)):Bool:=
 S8 ops N&&decide (N≤ops.length)&&decide (i0<N)&&
 (List.range N).all (λi=>match CW ops i with
  | some d=>decide (d<n)&&!keys.contains d&&(List.range N).all (λj=>j ==i||CW ops j !=some d)
  | none=>true)&&
 (List.range N).all (λi=>(deps.getD i []).all (λj=>decide (j<N)&&(D6 (ops.getD i default)).contains j))&&
 (List.range N).all (λi=>!dyns.getD i false||i ==i0||(D6 (ops.getD i default)).any (λe=>decide (e<N)&&(e ==i0||dyns.getD e false)))&&
 (List.range N).all (λi=>(olds.getD i []).all (λd=>(List.range N).all (λw=>CW ops w !=some d||(D6 (ops.getD w default)).contains i)))
section
variable (P : Program) (n : Nat) (c : Cx) (opsA : Array Oper) (Q : Exit → Act → World → Prop)
def OpX {U:Type}(l:Fr)(H:List Ent)(o:Oper)(r:U→Rp)(H1:U→List Ent):Prop:=
 ∀a w Z (K:Act→World→Prop),Dy n l a Z→St c H Z w→(∀u v w' Z',Fz.le Z Z'→(r u).p Z' v→St c (H1 u) Z' w'→K (a.put o.dst v) w')→
  Region.wanted o (yielded opsA a.tmps)=true∧o.wp P a w K Q
def LY {U:Type}(ops:List Oper)(sp:List (Sx U))(l0 lw:Fr)(i0:Nat)(H:List Ent)(H1:U→List Ent):Nat→List Oper→Prop
 | i,o::rest=>(if i=i0 then(∀u,OpX P n c opsA Q (Ha lw (HF sp i).old (Ck ops (Y4 sp u) (HF sp i).deps l0)) H o (HF sp i).r H1) else ∀u H',(H'=H∨H'=H1 u)→DY P n c opsA Q (Ha lw (HF sp i).old (Ck ops (Y4 sp u) (HF sp i).deps l0)) H' o ((HF sp i).r u) H')∧LY ops sp l0 lw i0 H H1 (i+1) rest
 | _,[]=>True
end
section
variable {P : Program} {n : Nat} {c : Cx} {opsA : Array Oper} {Q : Exit → Act → World → Prop} {l l0 lw : Fr} {U : Type} {H : List Ent} {H1 : U → List Ent} {sp : List (Sx U)} {i0 : Nat}
theorem LY.at {ops:List Oper}:∀{k:Nat} {rest:List Oper},LY P n c opsA Q ops sp l0 lw i0 H H1 k rest→∀(t:Nat) o,rest[t]? =some o→
  (if k+t=i0 then(∀u,OpX P n c opsA Q (Ha lw (HF sp (k+t)).old (Ck ops (Y4 sp u) (HF sp (k+t)).deps l0)) H o (HF sp (k+t)).r H1) else ∀u H',(H'=H∨H'=H1 u)→DY P n c opsA Q (Ha lw (HF sp (k+t)).old (Ck ops (Y4 sp u) (HF sp (k+t)).deps l0)) H' o ((HF sp (k+t)).r u) H')
 | k,o::rest,⟨h1,h2⟩,t,o',ht=>by
  cases t with
  | zero=>simp at ht;subst ht;exact h1
  | succ t=>
   have:=LY.at h2 t o' (by simpa using ht);rw[show k+(t+1)=k+1+t from by omega];exact this
 | _,[],_,t,o,h=>by simp at h
theorem Ab6 {id:Nat}{ops:List Oper}[Inhabited U](N i0:Nat)(sp:List (Sx U))(hm:P.follows .mixedOrders=true)(hB:okX n ops N i0 (G5 l0) (sp.map (·.deps)) (sp.map (·.dyn)) (sp.map (·.old))=true)(hl0:Yw l0 l)(hlw:Yw lw l)(hsp:sp.length=N)(hst:Qb sp)
  (hob:LY P n c ops.toArray Q ops sp l0 lw i0 H H1 0 (ops.take N)) (h:∀u,WL P n c ops.toArray Q (ops.drop N) (NZ (λ_=>0) (ops.take N) (saU sp u) 0 l0) (H1 u)):WC P n c (.region id ops.toArray true) Q l H:=by
 intro a w Z ha hw;simp only[okX,AfM,Ags,List.mem_range,AfF] at hB;obtain⟨⟨⟨⟨⟨⟨b1,bN⟩,b0⟩,b2⟩,b3⟩,b4⟩,b5⟩:=hB;have hget:∀i,i<N→(ops.take N)[i]? =ops[i]?:=λi hi=>by rw[Ag1,Ag9 hi]
 have hsa:∀i,i<N→sp[i]? =some (HF sp i):=λi hi=>by
  simp[HF,AfO,AfN (show i<sp.length by omega)]
 have hspq:∀u i,i<N→(El (Y4 sp u) i)=⟨(HF sp i).deps,(HF sp i).r u,0⟩:=λu i hi=>by
  simp[El,Y4,AfO,Agw,hsa i hi]
 have hdyn:∀j,j<N→(sp.map (·.dyn)).getD j false=(HF sp j).dyn:=λj hj=>by simp[AfO,Agw,hsa j hj]
 have hdep:∀j,j<N→(sp.map (·.deps)).getD j []=(HF sp j).deps:=λj hj=>by simp[AfO,Agw,hsa j hj]
 have hops:∀j,j<N→∃o,ops[j]? =some o:=λj hj=>⟨ops[j]'(by omega),AfN (by omega)⟩
 have hdst:∀i o d,i<N→ops[i]? =some o→o.dst=some d→(d<n∧d ∉ G5 l0)∧∀j,j<N→j≠i→CW ops j≠some d:=λi o d hi ho hd=>by
  have h3:=b2 i hi;have:CW ops i=some d:=by simp[CW,ho,hd]
  rw[this] at h3;simp only[AfM,Agd,Ags,List.mem_range,AfF] at h3;refine⟨⟨h3.1.1,λhmem=>by rw[← List.contains_iff_mem] at hmem;rw[hmem] at h3;cases h3.1.2⟩,λj hj hne he=>?_⟩;have:=h3.2 j hj;simp[hne,he] at this
 refine YO (N:=N) hm b1 bN (λS a w=>∃ (u:U) (Z:Fz),St c (if S i0=true then H1 u else H) Z w∧Dy n l0 a Z∧(∀j o d,j<N→S j=true→ops[j]? =some o→o.dst=some d→∃v,a.tmps[d]? =some v∧((HF sp j).r u).p Z v)∧
   (∀j,j<N→(HF sp j).dyn=true→S j=true→S i0=true)∧
   (∀d q,look lw d=some q→(∀wr,wr<N→CW ops wr=some d→S wr=false)→∃v,a.tmps[d]? =some v∧q.p Z v)∧
   ∀wr i d,wr<N→i<N→CW ops wr=some d→d∈(HF sp i).old→S wr=true→S i=true)
  (λS S' a w hS hI=>?_) ⟨default,Z,?_,ha.subL hl0,λj o d _ hS=>(by cases hS),λj _ _ hS=>(by cases hS),λd q hd _=>(ha.subL hlw).tm d q hd,λwr i d _ _ _ _ hS=>(by cases hS)⟩ (λS i o a w hi hun ho hb hI K hK=>?_) (λa w hI=>?_)
 ·obtain⟨u,Z,h1,h2,h3,h4,h5,h6⟩:=hI;refine⟨u,Z,?_,h2,λj o d hj hS'=>h3 j o d hj (by rw[hS j hj];exact hS'),λj hj hd hSj=>?_,λd q hd hw'=>h5 d q hd (λwr hwr hdw=>by rw[hS wr hwr];exact hw' wr hwr hdw),λwr i d hwr hi hdw hold hSw=>by rw[← hS i hi];exact h6 wr i d hwr hi hdw hold (by rw[hS wr hwr];exact hSw)⟩
  ·rw[← hS i0 b0];exact h1
  ·rw[← hS i0 b0];exact h4 j hj hd (by rw[hS j hj];exact hSj)
 ·exact hw.drawn _
 ·obtain⟨u,Z,h1,h2,h3,hx,ho5,ho6⟩:=hI;have hput:∀k u v,a.tmps[k]? =some u→o.dst≠some k→(a.put o.dst v).tmps[k]? =some u:=λk u v hk hne=>by
   cases hd:o.dst with
   | none=>simpa[Act.put] using hk
   | some d=>
    simp only[Act.put,Array.getElem?_setIfInBounds];rw[Agt (λe=>hne (by rw[hd,e]))];exact hk
  have hagr:∀v Z',Fz.le Z Z'→Dy n l0 (a.put o.dst v) Z':=λv Z' hz=>by
   refine⟨?_,?_,λk r hk=>?_⟩
   ·cases o.dst<;>simp[Act.put,h2.size]
   ·cases o.dst<;>simp[Act.put,h2.defers]
   ·obtain⟨u,hu,hpu⟩:=h2.tm k r hk;exact⟨u,hput k u v hu (λe=>((hdst i o k hi ho e).1).2 (M7 hk)),r.mono hz hpu⟩
  have hvals:∀(v:Value) (Z':Fz) (u':U),Fz.le Z Z'→(∀j,j<N→j≠i→S j=true→(HF sp j).r u'=(HF sp j).r u)→(o.dst≠none→((HF sp i).r u').p Z' v)→∀j o' d,j<N→(j ==i||S j)=true→ops[j]? =some o'→o'.dst=some d→∃q,(a.put o.dst v).tmps[d]? =some q∧((HF sp j).r u').p Z' q:=by
   intro v Z' u' hz hβ hp j o' d hj hS' ho' hd
   by_cases hji:j=i
   ·subst hji;rw[ho] at ho';simp at ho';subst ho';refine⟨v,?_,hp (by simp[hd])⟩;have hdn:d<a.tmps.size:=by rw[h2.size];exact(hdst j o d hi ho hd).1.1
    simp[Act.put,hd,hdn]
   ·have hSj:S j=true:=by simpa[hji] using hS'
    obtain⟨q,hu,hpu⟩:=h3 j o' d hj hSj ho' hd;refine⟨q,hput d q v hu (λe=>(hdst i o d hi ho e).2 j hj hji (by simp[CW,ho',hd])),?_⟩;rw[hβ j hj hji hSj];exact((HF sp j).r u).mono hz hpu
  have hat:=hob.at i o (by rw[hget i hi];exact ho);rw[Agx] at hat;have hold':∀Z',Fz.le Z Z'→∀v d q,look lw d=some q→(∀wr,wr<N→CW ops wr=some d→(wr ==i||S wr)=false)→∃v',(a.put o.dst v).tmps[d]? =some v'∧q.p Z' v':=λZ' hz v d q hd hw'=>by
   obtain⟨v',e1,e2⟩:=ho5 d q hd (λwr hwr hdw=>by have:=hw' wr hwr hdw;simp only[Agj] at this;exact this.2);refine⟨v',hput d v' v e1 (λe=>?_),q.mono hz e2⟩;have:=hw' i hi (by simp[CW,ho,e]);simp at this
  have hord:∀wr k d,wr<N→k<N→CW ops wr=some d→d∈(HF sp k).old→(wr ==i||S wr)=true→(k ==i||S k)=true:=λwr k d hwr hk hdw hmem hSw=>by
   by_cases hwi:wr=i
   ·subst hwi;have h7:=b5 k hk d (by simpa[AfO,Agw,hsa k hk] using hmem) wr hwr;simp only[Agv,bne_iff_ne,ne_eq,hdw,not_true_eq_false,false_or] at h7;rw[AfO,ho,Agm,List.contains_iff_mem] at h7;simp[(hb k h7).2]
   ·have:S k=true:=ho6 wr k d hwr hk hdw hmem (by simpa[hwi] using hSw);simp[this]
  have hag':Dy n (Ha lw (HF sp i).old (Ck ops (Y4 sp u) (HF sp i).deps l0)) a Z:=W5 (MP h2 (λj hj d hd=>by
    obtain⟨h5,h6⟩:=b3 i hi j (by rw[hdep i hi];exact hj);rw[AfO,ho,Agm,List.contains_iff_mem] at h6;obtain⟨o2,ho2⟩:=hops j h5;obtain⟨v,hv1,hv2⟩:=h3 j o2 d h5 (hb j h6).2 ho2 (by simpa[CW,ho2] using hd);refine⟨v,hv1,?_⟩;rw[hspq u j h5];exact hv2)) (λd hd q hq=>ho5 d q hq (λwr hwr hdw=>by
     cases hS:S wr with
     | false=>rfl
     | true=>have:=ho6 wr i d hwr hi hdw hd hS;rw[this] at hun;cases hun))
  by_cases hi0:i=i0
  ·subst hi0;rw[Ag9 rfl] at hat;rw[hun] at h1;have h1':St c H Z w:=by simpa using h1
   have key:=λK' hK'=>hat u a w Z K' hag' h1' hK';have h5:∀u' v w' Z',Fz.le Z Z'→((HF sp i).r u').p Z' v→St c (H1 u') Z' w'→K (a.put o.dst v) w':=λu' v w' Z' hz hpv hs'=>by
    refine hK _ _ ⟨u',Z',by simpa using hs',hagr v Z' hz,hvals v Z' u' hz (λj hj hji hSj=>?_) (λ_=>hpv),λj _ _ _=>by simp,hold' Z' hz v,hord⟩;refine hst.at (hsa j hj) ?_ u' u
    cases hd:(HF sp j).dyn with
    | false=>rfl
    | true=>have:=hx j hj hd hSj;rw[this] at hun;cases hun
   refine⟨λ_=>(key K h5).2,λhw'=>?_⟩;rw[(key K h5).1] at hw';cases hw'
  ·rw[Agt hi0] at hat;refine hat u _ (by split;exact .inr rfl;exact .inl rfl) a w Z K hag' h1 (λv w' Z' hz hp hst'=>hK _ _ ⟨u,Z',?_,hagr v Z' hz,hvals v Z' u hz (λ_ _ _ _=>rfl) (λ_=>hp),λj hj hd hSj=>?_,hold' Z' hz v,hord⟩)
   ·have hiS:(i0 ==i||S i0)=S i0:=by
     have:(i0 ==i)=false:=by simpa using λe=>hi0 e.symm
     rw[this];rfl
    show St c (if (i0 ==i||S i0)=true then H1 u else H) Z' w';rw[hiS];exact hst'
   ·have hii:(i0 ==i)=false:=by simpa using λe=>hi0 e.symm
    show(i0 ==i||S i0)=true;rw[hii,AfW]
    by_cases hji:j=i
    ·subst hji;have h7:=b4 j hj;rw[hdyn j hj,hd] at h7;simp only[AfR,AfW,Agv,beq_iff_eq,hi0,false_or,List.any_eq_true,AfM,AfF] at h7;obtain⟨e,he,heN,h8⟩:=h7;rw[AfO,ho,Agm] at he;have hSe:=(hb e he).2;rcases h8 with h8 | h8
     ·subst h8;exact hSe
     ·rw[hdyn e heN] at h8;exact hx e heN h8 hSe
    ·exact hx j hj hd (by simpa[hji] using hSj)
 ·obtain⟨u,Z,h1,h2,h3,_,_,_⟩:=hI;have hsl:(saU sp u).length=N:=by simp[saU,hsp]
  refine h u a w Z (SD h2 _ _ 0 (λt o s d ht hs hd=>?_)) (by simpa using h1);have htN:t<N:=by have:=(List.getElem?_eq_some_iff.1 hs).1;omega
  have hs':s = { deps:=(HF sp t).deps,r:=(HF sp t).r u }:=by
   simp only[saU,Agw,hsa t htN,Option.map_some,Option.some.injEq] at hs;exact hs.symm
  subst hs';rw[Agx];exact h3 t o d htN rfl (by rw[← hget t htN];exact ht) hd
theorem OL [Inhabited U]{id:Nat}{ops:List Oper}(N i0:Nat)(ks0 ksw:List Nat)(sp:List (Sx U))(H1:U→List Ent)(hob:LY P n c ops.toArray Q ops sp l0 lw i0 H H1 0 (ops.take N))(h:∀u,WL P n c ops.toArray Q (ops.drop N) (NZ (λ_=>0) (ops.take N) (saU sp u) 0 l0) (H1 u))
  (h0:Kp ks0 l l0:=by repeat (first | exact Qu | (apply Nr;rfl) | (apply Ok;rfl))) (hw:Kp ksw l lw:=by repeat (first | exact Qu | (apply Nr;rfl) | (apply Ok;rfl))) (hm:P.follows .mixedOrders=true:=by kernel_rfl) (hB:okX n ops N i0 (G5 l0) (sp.map (·.deps)) (sp.map (·.dyn)) (sp.map (·.old))=true:=by kernel_rfl)
  (hsp:sp.length=N:=by rfl) (hst:Qb sp:=by repeat (first | exact Afi | apply Afk | apply Afj)):WC P n c (.region id ops.toArray true) Q l H:=Ab6 N i0 sp hm hB h0.one hw.one hsp hst hob h
theorem Ka {all rest:List Oper}{d:Nat}{op:Op}{ty:TypeId}{pos:String}{af:Array Edge}{i:Nat}(hr:∀{u H},Bv P n c (Ha lw (HF sp i).old (Ck all (Y4 sp u) (HF sp i).deps l0)) H { dst:=some d,op:=op,type:=ty,pos:=pos,after:=af,guard:=none } ((HF sp i).r u))(h:LY P n c opsA Q all sp l0 lw i0 H H1 (i+1) rest)(hne:Nat.beq i i0=false:=by rfl) :
  LY P n c opsA Q all sp l0 lw i0 H H1 i ({ dst:=some d,op:=op,type:=ty,pos:=pos,after:=af,guard:=none }::rest):=by
 refine⟨?_,h⟩;rw[Agt (λe=>by subst e;simp at hne)];exact λu H _=>Es hr
theorem oxc {all rest:List Oper}{o:Oper}{i:Nat}(hr:∀{u H},DY P n c opsA Q (Ha lw (HF sp i).old (Ck all (Y4 sp u) (HF sp i).deps l0)) H o ((HF sp i).r u) H)(h:LY P n c opsA Q all sp l0 lw i0 H H1 (i+1) rest)(hne:Nat.beq i i0=false:=by rfl):LY P n c opsA Q all sp l0 lw i0 H H1 i (o::rest):=by
 refine⟨?_,h⟩;rw[Agt (λe=>by subst e;simp at hne)];exact λu H _=>hr
theorem VW {all rest:List Oper}{o:Oper}{i:Nat}(hr:∀{u},DY P n c opsA Q (Ha lw (HF sp i).old (Ck all (Y4 sp u) (HF sp i).deps l0)) H o ((HF sp i).r u) H)(hr1:∀{u},DY P n c opsA Q (Ha lw (HF sp i).old (Ck all (Y4 sp u) (HF sp i).deps l0)) (H1 u) o ((HF sp i).r u) (H1 u))(h:LY P n c opsA Q all sp l0 lw i0 H H1 (i+1) rest)(hne:Nat.beq i i0=false:=by rfl):LY P n c opsA Q all sp l0 lw i0 H H1 i (o::rest):=by
 refine⟨?_,h⟩;rw[Agt (λe=>by subst e;simp at hne)];intro u H' hH';rcases hH' with e | e
 ·subst e;exact hr
 ·subst e;exact hr1
theorem oxx {all rest:List Oper}{o:Oper}(hr:∀{u},OpX P n c opsA Q (Ha lw (HF sp i0).old (Ck all (Y4 sp u) (HF sp i0).deps l0)) H o (HF sp i0).r H1)(h:LY P n c opsA Q all sp l0 lw i0 H H1 (i0+1) rest):LY P n c opsA Q all sp l0 lw i0 H H1 i0 (o::rest):=by
 refine⟨?_,h⟩;rw[Ag9 rfl];exact λu=>hr
theorem oxe {all:List Oper}{i:Nat}:LY P n c opsA Q all sp l0 lw i0 H H1 i []:=trivial
end
section
variable {P : Program} {n : Nat} {c : Cx} {opsA : Array Oper} {Q : Exit → Act → World → Prop} {l : Fr} {H : List Ent} {d : Nat} {x y : Operand} {ty t e : TypeId} {pos : String} {af : Array Edge} {v : Value} {sz : Nat}
theorem Kd {α:Type}{xs ys:List α}{enc:α→List Rp}{i:Nat}{inf:TypeInfo}{z:Value}{bytes:Nat}(ht:P.underlying t=some (.slice e))(hinf:P.info? e=some inf)(hz:inf.zero=some z)(hsize:inf.size=sz)(hby:inf.bytes=bytes)(hzs:z.cells.size=sz)(hsz:Nat.blt 0 sz=true)(hbp:Nat.blt 0 bytes=true)
  (hx:ev l x=some (rv v)) (hi:H[i]? =some (.row v e sz (xs.map enc))) (hy:JG P n c l H y sz ys.length (ys.map enc).flatten) (henc:∀z,(enc z).length=sz) (hone:∀z,(enc z).all (·.one)=true) (hg:Dz bytes (xs.length+ys.length)=true) :
  OpX P n c opsA Q l H { dst:=some d,op:=.call { callee:=.builtin .append,args:=#[x,y],argTypes:=#[t,t] },type:=ty,pos:=pos,after:=af,guard:=none } (λv'=>rv v') (λv'=>.row v' e sz ((xs++ys).map enc)::H.eraseIdx i):=λa w Z K ha hw hK=>by
  obtain⟨h0,us,h1,h2⟩:=hw.ent hi;obtain⟨ws,h3,h4⟩:=hy a w Z ha hw;have hsz':0<sz:=by simpa using hsz
  have hbp':0<bytes:=by simpa using hbp
  have hb:(xs.length+ys.length)*bytes≤140737488355328:=by simpa[Dz] using hg
  have hle:xs.length+ys.length≤(xs.length+ys.length)*bytes:=Nat.le_mul_of_pos_right _ hbp';have hws:∀y∈ws,y.oneCell'=true:=Bj.one (rs:=(ys.map enc).flatten) (by
   rw[Ags];intro r hr;obtain⟨cl,hcl,hrc⟩:=List.mem_flatten.1 hr;obtain⟨z',_,rfl⟩:=List.mem_map.1 hcl;exact List.all_eq_true.1 (hone z') r hrc) h3
  have hxl:(xs.map enc).length=xs.length:=AfP ..;rw[hxl] at h1;obtain⟨v',w',e1,e2,e3,e4⟩:=IH (P:=P) ty ht hinf hz hsize hby hzs hsz' h1 h4 hws hb (by simp only[maxLen];omega);have hent:(Ent.row v' e sz ((xs++ys).map enc)).holds Z w':=⟨λcl hcl=>by obtain⟨z',_,rfl⟩:=List.mem_map.1 hcl;exact henc z',us++ws,by simpa using e2,by rw[Ag8,List.flatten_append];exact h2.append h3⟩
  have hst:=hw.callF hi (St.one (e':=.row v' e sz ((xs++ys).map enc)) (M:=(Ent.row v e sz (xs.map enc)).foot) hw.frz hw.env hw.emono e3.os e3.tape e3.output e3.size (λk hk hne=>e3.block k hk (λe1=>hne (by simp[Ent.foot,← e1])))
   (hw.zdis _ (AfU hi)) hent (λk hk=>by
    simp only[Ent.foot,Option.mem_toList] at hk ⊢;rcases e4 with e4 | e4
    ·exact .inl (e4▸hk)
    ·exact .inr (e4 k hk)))
  refine⟨by simp[Region.wanted],?_⟩;unfold Oper.wp;rw[show(execOp a.eval { dst:=some d,op:=.call { callee:=.builtin .append,args:=#[x,y],argTypes:=#[t,t] },type:=ty,pos:=pos,after:=af,guard:=none }).run P w = .ok (.value v') w' from by simp[execOp,resolve,invoke,builtin,ha.eval hx,e1]];exact hK v' v' w' Z (Fz.le.refl _) rfl hst
end
set_option maxRecDepth 100000
set_option maxHeartbeats 4000000
theorem P9:∃inf,Tryz.prog.info? 9=some inf∧inf.zero=some (.string ⟨#[]⟩)∧inf.size=1∧inf.bytes=16:=by
  have key:(Tryz.prog.info? 9).map (λi=>(i.zero,i.size,i.bytes))=some (some (.string ⟨#[]⟩),1,16):=by kernel_rfl
  obtain⟨inf,h1,h2⟩:=Option.map_eq_some_iff.1 key;simp only[Prod.mk.injEq] at h2;exact⟨inf,h1,h2.1,h2.2.1,h2.2.2⟩
theorem Aa7 (F:Nat)  (r:(List Int))(h:PC F=some r):Fn Tryz.prog GE 156 [] [] (λR H=>R=BL (AH (rI .u32) r)∧H=[]):=by
 refine enter (n:=26) Tryz.func156 Aa Tryz.ntmps156 Aa (λw Z=>?_);unfold PC at h;refine Am (BZ (cs:=AH (rI .u32) (List.replicate 256 (0:Int))) Tryz.zeroValue191 (by kernel_rfl) Aa (λb1=>?_));refine B0 (BZ (cs:=AH (rI .u32) (List.replicate 256 (0:Int))) Tryz.zeroValue191 (by kernel_rfl) Aa (λb2=>?_));refine Aw (Ao (Am (wv (r:=AD 0) (Aj Aa) (Aw (AS (ob h λhq hr hs=>B4 (S:=Nat×(Int×(List Int))×(Unit)) (V:=((List Int))×(Unit)) 0 (λσ=>Ci (λσ=>GT F σ.1 σ.2) σ.1 σ.2.1=some hq) (λσ=>[(0,rP b1 0),(1,rP b2 0),(5,AD σ.2.1.1)]) (λσ=>[.blk b2 (AH (rI .u32) σ.2.1.2) 191,.blk b1 (AH (rI .u32) (List.replicate 256 (0:Int))) 191]) (λσ=>σ.1) (F,(0,List.replicate 256 (0:Int)),()) hr (AG.c Aa (AG.c Aa (AG.c Aa AG.nil))) (sC (sC sN)) (λσ=>Jl σ.1=some r) (λσ=>[(0,rP b1 0),(1,rP b2 0)]) (λσ=>[.blk b2 (AH (rI .u32) σ.1) 191,.blk b1 (AH (rI .u32) (List.replicate 256 (0:Int))) 191]) ?_ ?_))))))
 ·rintro⟨hR,⟨ha,hd⟩,⟨⟩⟩ ht;refine GC ?_;obtain⟨hu,rfl,hl,hg,ho⟩:=Di ht;replace hg:GT F ha hd=some hl:=hg;unfold GT at hg;refine Am (wv (Dh Aa Aa) (Aw (Ao (cz hg Aa (λhw hx=>?_) (λhw hy=>?_)))))
  ·refine A0 (AX (Ao (AS (Am (wm Aa (wa Aa (B0 (wm Aa (wv (r:=rI .u32 (IntKind.wrap .u32 ha)) (Cu ⟨_,Y2⟩ JI Aa) (wa Aa (Aw (Ao (Am (wv (r:=AD 0) (Aj Aa) (Aw (AS (ob hx λhz h0 h1=>B4 (S:=Nat×(Int×Int)×(Unit)) (V:=(Int×Int×Bool)×(Unit)) 2 (λσ=>Ci (λσ=>GS σ.1 σ.2) σ.1 σ.2.1=some hz) (λσ=>[(0,rP b1 0),(1,rP b2 0),(2,AD ha),(3,rI .u32 σ.2.1.1),(5,AD ha),(10,AD σ.2.1.2)]) (λσ=>[.blk b2 (AH (rI .u32) hd) 191,.blk b1 (AH (rI .u32) (List.replicate 256 (0:Int))) 191]) (λσ=>σ.1) (F,(IntKind.wrap .u32 ha,0),()) h0 (AG.c Aa (AG.c5 Aa Aa Aa Aa Aa AG.nil)) (sC (sC sN)) (λσ=>Jk ha hd σ.1.1 σ.1.2.1 σ.1.2.2=some hl) (λσ=>[(0,rP b1 0),(1,rP b2 0),(2,AD ha),(3,rI .u32 σ.1.1),(5,AD ha),(10,AD σ.1.2.1),(11,rB σ.1.2.2)]) (λσ=>[.blk b2 (AH (rI .u32) hd) 191,.blk b1 (AH (rI .u32) (List.replicate 256 (0:Int))) 191]) ?_ ?_)))))))))))))))))
   ·rintro⟨hS,⟨hb,hf⟩,⟨⟩⟩ h2;refine GC ?_;obtain⟨h3,rfl,h4,hh,hp⟩:=Di h2;replace hh:GS hb hf=some h4:=hh;unfold GS at hh;refine Am (wv (Dh Aa Aa) (Aw (Ao (cz hh Aa (λh5 h6=>?_) (λh5 h7=>?_)))))
    ·refine A0 (AX (AV [(0,rP b1 0),(1,rP b2 0),(2,AD ha),(3,rI .u32 (bif decide ((Qy .u32 hb 1)=1) then Hn .u32 (CA .u32 hb 1) 3988292384 else CA .u32 hb 1)),(5,AD ha),(10,AD hf)] [.blk b2 (AH (rI .u32) hd) 191,.blk b1 (AH (rI .u32) (List.replicate 256 (0:Int))) 191] ?_ ?_))
     ·refine AS (Am (wm Aa (wv (r:=rI .u32 (Qy .u32 hb 1)) (Ae6 Aa Aa) (wa Aa (B0 (wm Aa (wv (r:=rI .u32 (CA .u32 hb 1)) (QU Aa Aa (by decide)) (wa Aa (B0 (wm Aa (wv (BR Aa Aa) (Aw (Ek (b:=decide ((Qy .u32 hb 1)=1)) Aa (λhm=>?_) (λhm=>?_))))))))))))))
      ·refine An (wm Aa (wv (r:=rI .u32 (Hn .u32 (CA .u32 hb 1) 3988292384)) (ZI Aa Aa) (wa Aa (As (AK ?_)))));exact CI hm
      refine A0 (AK ?_);exact CI hm
     refine An (ck h6 λh8 h9=>wv (BW Aa Aa h8) (wm Aa (As ?_)));have hA:=B9 h9 hp;exact Ay (AE (h3,((bif decide ((Qy .u32 hb 1)=1) then Hn .u32 (CA .u32 hb 1) 3988292384 else CA .u32 hb 1),hf+1),()) ⟨hA,AfV _⟩ (AG.c Aa (AG.c5 Aa Aa Aa Aa Aa AG.nil)) (sC (sC sN)))
    refine B3 (A9 ?_);have hB:=Cw h7 hp h1;exact A9 (Bo (AE ((hb,hf,decide (hf<8)),()) hB (AG.c Aa (AG.c Aa (AG.c5 Aa Aa Aa Aa Aa AG.nil))) (sC (sC sN))))
   rintro⟨⟨hi,hC,hD⟩,⟨⟩⟩ hj;refine JZ ?_;replace hj:Jk ha hd hi hC hD=some hl:=hj;unfold Jk at hj;refine Bn (AX (An (wm Aa (wm Aa (ck hj λhE hG=>wv (r:=rv (.pointer (some ⟨b2,BC ha,none⟩))) (ZQ Tryz.underlying191 Tryz.sizeOf158 Aa Aa hE) (ck hG λhH hI=>Xa (enc:=(rI .u32)) (ys:=hd) (v:=hi) (i:=0) Tryz.sizeOf158 Aa Aa (B5 Aa) Aa hH (H':=[.blk b2 (AH (rI .u32) (List.set hd (BC ha) hi)) 191,.blk b1 (AH (rI .u32) (List.replicate 256 (0:Int))) 191]) Aa (As (AK (AX (An (ck hI λhJ hK=>wv (BW Aa Aa hJ) (wm Aa (As ?_)))))))))))));have hL:=B9 hK ho;exact Ay (AE (hu,(ha+1,List.set hd (BC ha) hi),()) ⟨hL,AfV _⟩ (AG.c Aa (AG.c Aa (AG.c Aa AG.nil))) (sC (sC sN)))
  refine B3 (A9 ?_);have hN:=Cw hy ho hs;exact A9 (Bo (AE (hd,()) hN (AG.c Aa (AG.c Aa AG.nil)) (sC (sC sN))))
 rintro⟨he,⟨⟩⟩ hk;refine JZ ?_;replace hk:Jl he=some r:=hk;unfold Jl at hk;refine Bn (AX (Am (ck hk λhn hO=>wv (r:=BL (AH (rI .u32) he)) (UP (enc:=(rI .u32)) (ys:=he) (i:=0) Tryz.isAgg191 V5 Aa Aa hn) (ck hO λhP hQ=>NE (enc:=(rI .u32)) (ys:=List.replicate 256 (0:Int)) (zs:=he) (i:=1) V5 Aa Aa (λ_=>Aa) Aa hP hn (H':=[.blk b2 (AH (rI .u32) he) 191,.blk b1 (AH (rI .u32) he) 191]) Aa (Aw (A4 ?_))))));obtain rfl:=A7 hQ;exact A3 (Ch Tryz.results156 (IW (i:=1) Tryz.isAgg191 V5 Aa Aa (Acm hn))) (sS (sS sN)) ⟨Aa,Aa⟩
theorem Aa8 (F:Nat)(s:Ai)(r:Int)(h:XV F s=some r):Fn Tryz.prog GE 122 [rS s] [] (λR H=>R=rI .u32 r∧H=[]):=by
 refine enter (n:=26) Tryz.func122 Aa Tryz.ntmps122 Aa (λw Z=>?_);unfold XV at h;refine Am (wa Aa (B0 (ob h λr1 e3 h2=>DI Tryz.call156 (Aa7 F r1 e3) Aa (BZ (cs:=AH (rI .u32) (List.replicate 256 (0:Int))) Tryz.zeroValue191 (by kernel_rfl) Aa (λb4=>?_)))));refine ck h2 λg5 h6=>ck h6 λg7 h8=>NE (enc:=(rI .u32)) (ys:=List.replicate 256 (0:Int)) (zs:=r1) (i:=0) V5 Aa Aa (λ_=>Aa) Aa g5 g7 (H':=[.blk b4 (AH (rI .u32) r1) 191]) Aa (B0 (wa Aa (Aw (Ao (Am (wm Aa (wv (BF CT Aa) (wv (r:=AD 0) (Aj Aa) (Aw (AS (ob h8 λhh hi hj=>B4 (S:=Nat×(Int×Int)×(Unit)) (V:=(Int)×(Unit)) 0 (λσ=>Ci (λσ=>HA s r1 σ.1 σ.2) σ.1 σ.2.1=some hh) (λσ=>[(0,rS s),(2,rI .u32 0),(3,rP b4 0),(4,rI .u32 σ.2.1.1),(8,AD (s.length:Int)),(9,AD σ.2.1.2)]) (λσ=>[.blk b4 (AH (rI .u32) r1) 191]) (λσ=>σ.1) (F,(4294967295,0),()) hi (AG.c Aa (AG.c5 Aa Aa Aa Aa Aa AG.nil)) (sC sN) (λσ=>O6 σ.1=some r) (λσ=>[(2,rI .u32 0),(4,rI .u32 σ.1)]) (λσ=>[]) ?_ ?_)))))))))))
 ·rintro⟨h1,⟨ha,hb⟩,⟨⟩⟩ hk;refine GC ?_;obtain⟨hl,rfl,hm,hd,hf⟩:=Di hk;replace hd:HA s r1 ha hb=some hm:=hd;unfold HA at hd;refine Am (wv (Dh Aa Aa) (Aw (Ao (cz hd Aa (λhn ho=>?_) (λhn hp=>?_)))))
  ·refine A0 (AX (Ao (AS (Am (wm Aa (wa Aa (Aw (An (wm Aa (wv (r:=rI .u8 (IntKind.wrap .u8 ha)) (Cu ⟨_,JI⟩ RF Aa) (wm Aa (wm Aa (ck ho λhq hr=>wv (BA CT Aa Aa hq) (wv (r:=rI .u8 (Hn .u8 (IntKind.wrap .u8 ha) (B8 s hb))) (ZI Aa Aa) (ck hr λhs ht=>wv (r:=rv (.pointer (some ⟨b4,BC (Hn .u8 (IntKind.wrap .u8 ha) (B8 s hb)),none⟩))) (ZQ Tryz.underlying191 Tryz.sizeOf158 Aa Aa hs) (ck ht λhu hw=>wv (r:=rI .u32 (Aq r1 (Hn .u8 (IntKind.wrap .u8 ha) (B8 s hb)))) (ZO (enc:=(rI .u32)) (ys:=r1) (i:=0) Tryz.isAgg158 Aa Aa hu) (wm Aa (wv (r:=rI .u32 (CA .u32 ha 8)) (QU Aa Aa (by decide)) (wv (r:=rI .u32 (Hn .u32 (Aq r1 (Hn .u8 (IntKind.wrap .u8 ha) (B8 s hb))) (CA .u32 ha 8))) (ZI Aa Aa) (wa Aa ?_))))))))))))))))))));refine As (AK (AX (An (ck hw λhx hy=>wv (BW Aa Aa hx) (wm Aa (As ?_))))));have hz:=B9 hy hf;exact Ay (AE (hl,(Hn .u32 (Aq r1 (Hn .u8 (IntKind.wrap .u8 ha) (B8 s hb))) (CA .u32 ha 8),hb+1),()) ⟨hz,AfV _⟩ (AG.c Aa (AG.c5 Aa Aa Aa Aa Aa AG.nil)) (sC sN))
  refine B3 (A9 ?_);have h0:=Cw hp hf hj;exact A9 (Bo (AE (ha,()) h0 (AG.c Aa (AG.c Aa AG.nil)) (sS sN)))
 rintro⟨hg,⟨⟩⟩ he;refine JZ ?_;replace he:O6 hg=some r:=he;unfold O6 at he;refine Bn (AX (Am (wm Aa (wv (r:=rI .u32 (XS .u32 hg)) (Aca Aa) (wa Aa (Aw (A4 ?_)))))));obtain rfl:=A7 he;exact A3 (Ch Tryz.results122 (AR Aa)) sN ⟨Aa,Aa⟩
theorem R0 (n:Int)(r:Ai)(h:Li n=some r):Fn Tryz.prog GE 147 [rI .u32 n] [] (λR H=>R=rS r∧H=[]):=by
 refine enter (n:=16) Tryz.func147 Aa Tryz.ntmps147 Aa (λw Z=>?_);unfold Li at h;refine Am (wv (r:=rS ([]:Ai)) (AA Aa) (B0 (wm Aa (wv (r:=rI .u32 (CA .u32 n 24)) (QU Aa Aa (by decide)) (wv (r:=rI .u8 (IntKind.wrap .u8 (CA .u32 n 24))) (Cu ⟨_,JI⟩ RF Aa) (wm Aa (wv (r:=rI .u32 (CA .u32 n 16)) (QU Aa Aa (by decide)) (wv (r:=rI .u8 (IntKind.wrap .u8 (CA .u32 n 16))) (Cu ⟨_,JI⟩ RF Aa) (wm Aa (wv (r:=rI .u32 (CA .u32 n 8)) (QU Aa Aa (by decide)) (wv (r:=rI .u8 (IntKind.wrap .u8 (CA .u32 n 8))) (Cu ⟨_,JI⟩ RF Aa) (wm Aa (wv (r:=rI .u8 (IntKind.wrap .u8 n)) (Cu ⟨_,JI⟩ RF Aa) (Bf (ys:=([IntKind.wrap .u8 (CA .u32 n 24),IntKind.wrap .u8 (CA .u32 n 16),IntKind.wrap .u8 (CA .u32 n 8),IntKind.wrap .u8 n]:List Int)) (enc:=BN) (css:=[[rI .u8 (IntKind.wrap .u8 (CA .u32 n 24))],[rI .u8 (IntKind.wrap .u8 (CA .u32 n 16))],[rI .u8 (IntKind.wrap .u8 (CA .u32 n 8))],[rI .u8 (IntKind.wrap .u8 n)]]) (xs:=[.tmp 5,.tmp 8,.tmp 11,.tmp 13]) EF ys5 yz5 Aa Aa Aa ⟨E4.one Aa (Up.refl _),E4.one Aa (Up.refl _),E4.one Aa (Up.refl _),E4.one Aa (Up.refl _),trivial⟩ Aa Ej Aa Aa Aa (λb1=>?_)))))))))))))));refine wv (r:=rS (Qm ([IntKind.wrap .u8 (CA .u32 n 24),IntKind.wrap .u8 (CA .u32 n 16),IntKind.wrap .u8 (CA .u32 n 8),IntKind.wrap .u8 n]:List Int))) (Wb (xs:=([IntKind.wrap .u8 (CA .u32 n 24),IntKind.wrap .u8 (CA .u32 n 16),IntKind.wrap .u8 (CA .u32 n 8),IntKind.wrap .u8 n]:List Int)) (i:=0) EF CT RF Aa Aa) (wa Aa (Aw (A4 ?_)));obtain rfl:=A7 h;exact A3 (Ch Tryz.results147 (AR Aa)) (sS sN) ⟨Aa,Aa⟩
theorem Rz (s:Ai)(r:Int)(h:Lh s=some r):Fn Tryz.prog GE 121 [rS s] [] (λR H=>R=rI .u32 r∧H=[]):=by
 refine enter (n:=21) Tryz.func121 Aa Tryz.ntmps121 Aa (λw Z=>?_);unfold Lh at h;refine Am (wa Aa (Aw (Ao (ck h λg1 h2=>ck h2 λg3 h4=>ck h4 λg5 h6=>ck h6 λg7 h8=>D0 [0] ?_))));refine rq (Aj Aa) (rq (BA CT Aa Aa g1) (rq (r:=rI .u32 (IntKind.wrap .u32 (B8 s 0))) (Cu ⟨_,RF⟩ JI Aa) (rq (r:=rI .u32 (D2 .u32 (IntKind.wrap .u32 (B8 s 0)) 24)) (VY Aa Aa (by decide)) (rq (Aj Aa) (rq (BA CT Aa Aa g3) (rq (r:=rI .u32 (IntKind.wrap .u32 (B8 s 1))) (Cu ⟨_,RF⟩ JI Aa) (rq (r:=rI .u32 (D2 .u32 (IntKind.wrap .u32 (B8 s 1)) 16)) (VY Aa Aa (by decide)) (rq (r:=rI .u32 (JX .u32 (D2 .u32 (IntKind.wrap .u32 (B8 s 0)) 24) (D2 .u32 (IntKind.wrap .u32 (B8 s 1)) 16))) (AbW Aa Aa) (rq (Aj Aa) (rq (BA CT Aa Aa g5) (rq (r:=rI .u32 (IntKind.wrap .u32 (B8 s 2))) (Cu ⟨_,RF⟩ JI Aa) (rq (r:=rI .u32 (D2 .u32 (IntKind.wrap .u32 (B8 s 2)) 8)) (VY Aa Aa (by decide)) (rq (r:=rI .u32 (JX .u32 (JX .u32 (D2 .u32 (IntKind.wrap .u32 (B8 s 0)) 24) (D2 .u32 (IntKind.wrap .u32 (B8 s 1)) 16)) (D2 .u32 (IntKind.wrap .u32 (B8 s 2)) 8))) (AbW Aa Aa) (rq (Aj Aa) (rq (BA CT Aa Aa g7) (rq (r:=rI .u32 (IntKind.wrap .u32 (B8 s 3))) (Cu ⟨_,RF⟩ JI Aa) (rq (r:=rI .u32 (JX .u32 (JX .u32 (JX .u32 (D2 .u32 (IntKind.wrap .u32 (B8 s 0)) 24) (D2 .u32 (IntKind.wrap .u32 (B8 s 1)) 16)) (D2 .u32 (IntKind.wrap .u32 (B8 s 2)) 8)) (IntKind.wrap .u32 (B8 s 3)))) (AbW Aa Aa) (rq (AA Aa) (re [2] ?_)))))))))))))))))));refine AX (A4 ?_);obtain rfl:=A7 h8;exact A3 (Ch Tryz.results121 (AR Aa)) sN ⟨Aa,Aa⟩
theorem Ac1 (F:Nat)(fields:(List Ai))(r:Ai×Int)(h:TZ F fields=some r):Fn Tryz.prog GE 81 [Br 1 (AH eS fields)] [] (λR H=>R=CZ [rS r.1,AD r.2]∧H=[]):=by
 refine enter (n:=39) Tryz.func81 Aa Tryz.ntmps81 Aa (λw Z=>?_);unfold TZ at h;refine Am (wv (r:=rS ([]:Ai)) (AA Aa) (wa Aa (Aw (Ao (Am (wm Aa (wv (Bx (ys:=fields) (enc:=eS) CD Aa) (wv (DT Aa Aa) (Aw (cz h Aa (λc1 h2=>?_) (λc1 h3=>?_)))))))))))
 ·refine Am (wv (r:=rS ([]:Ai)) (AA Aa) (wa Aa (Aw (A4 (Ae ?_)))));obtain rfl:=A7 h2;exact A3 (E3 Tryz.results81 (AR Aa) (AR Aa)) sN ⟨Aa,Aa⟩
 refine A0 (AX (Am (wm Aa (wv (Bx (ys:=fields) (enc:=eS) CD Aa) (wv (r:=rI .u8 (IntKind.wrap .u8 (fields.length:Int))) (Cu ⟨_,Y2⟩ RF Aa) (Bf (ys:=([IntKind.wrap .u8 (fields.length:Int)]:List Int)) (enc:=BN) (css:=[[rI .u8 (IntKind.wrap .u8 (fields.length:Int))]]) (xs:=[.tmp 12]) EF ys5 yz5 Aa Aa Aa ⟨E4.one Aa (Up.refl _),trivial⟩ Aa Ej Aa Aa Aa (λb4=>?_)))))));refine wa Aa (Aw (Ao (Am (wm Aa (wv (Bx (ys:=fields) (enc:=eS) CD Aa) (wv (r:=AD 0) (Aj Aa) (Aw (AS (ob h3 λhi hj hh=>B4 (S:=Nat×((List Int)×Int)×(Value)) (V:=((List Int))×(Value)) 0 (λσ=>Ci (λσ=>Hi fields σ.1 σ.2) σ.1 σ.2.1=some hi) (λσ=>[(2,rS ([]:Ai)),(3,AD 0),(4,rv σ.2.2),(14,Br 1 (AH eS fields)),(15,AD (fields.length:Int)),(16,AD σ.2.1.2)]) (λσ=>[.row σ.2.2 5 1 (AH BN σ.2.1.1)]) (λσ=>σ.1) (F,(([IntKind.wrap .u8 (fields.length:Int)]:List Int),0),(.slice (some ⟨b4,0,none⟩) 1 1)) hj (AG.c Aa (AG.c5 Aa Aa Aa Aa Aa AG.nil)) (sC sN) (λσ=>MF σ.1=some r) (λσ=>[(2,rS ([]:Ai)),(3,AD 0),(4,rv σ.2)]) (λσ=>[.row σ.2 5 1 (AH BN σ.1)]) ?_ ?_)))))))))
 ·rintro⟨h8,⟨hb,ha⟩,hk⟩ hl;refine GC ?_;obtain⟨hm,rfl,hn,hd,hf⟩:=Di hl;replace hd:Hi fields hb ha=some hn:=hd;unfold Hi at hd;refine Am (wv (Dh Aa Aa) (Aw (Ao (cz hd Aa (λho hp=>?_) (λho hq=>?_)))))
  ·refine A0 (AX (Ao (AS (Am (ck hp λhr hs=>wv (AW (enc:=eS) (ys:=fields) CD BX Aa Aa hr) (wv (AJ Cf Aa Aa) (wa Aa (Aw (Ao (Am (wm Aa (wv (BF CT Aa) (wv (DT Aa Aa) (Aw (cz hs Aa (λc75 ht=>?_) (λc75 hu=>?_))))))))))))))))
   ·refine Am (wv (r:=rS ([]:Ai)) (AA Aa) (wa Aa (Aw (A4 (Ae (AB (Ae (Ae (Be ?_)))))))));have hw:=B1 ht hf hh;refine AB (Ae ?_);obtain rfl:=A7 hw;exact A3 (E3 Tryz.results81 (AR Aa) (AR Aa)) (sS sN) ⟨Aa,Aa⟩
   refine A0 (AX (Am (wm Aa (wm Aa (wv (BF CT Aa) (wv (r:=AD (CA .i64 ((Aq fields ha).length:Int) 8)) (QU Aa Aa (by decide)) (wv (r:=rI .u8 (IntKind.wrap .u8 (CA .i64 ((Aq fields ha).length:Int) 8))) (Cu ⟨_,Y2⟩ RF Aa) (wm Aa (wv (BF CT Aa) (wv (r:=rI .u8 (IntKind.wrap .u8 ((Aq fields ha).length:Int))) (Cu ⟨_,Y2⟩ RF Aa) (Bf (ys:=([IntKind.wrap .u8 (CA .i64 ((Aq fields ha).length:Int) 8),IntKind.wrap .u8 ((Aq fields ha).length:Int)]:List Int)) (enc:=BN) (css:=[[rI .u8 (IntKind.wrap .u8 (CA .i64 ((Aq fields ha).length:Int) 8))],[rI .u8 (IntKind.wrap .u8 ((Aq fields ha).length:Int))]]) (xs:=[.tmp 27,.tmp 30]) EF ys5 yz5 Aa Aa Aa ⟨E4.one Aa (Up.refl _),E4.one Aa (Up.refl _),trivial⟩ Aa Ej Aa Aa Aa (λh9=>?_))))))))))));refine ck hu λhx hy=>Exists.elim NT λinf hinf=>Cc (xs:=hb) (ys:=([IntKind.wrap .u8 (CA .i64 ((Aq fields ha).length:Int) 8),IntKind.wrap .u8 ((Aq fields ha).length:Int)]:List Int)) (enc:=BN) (i:=1) EF hinf.1 hinf.2.1 hinf.2.2.1 hinf.2.2.2 Aa Aa Aa Aa Aa (JG.w (i:=0) Aa Aa) Ej Lj hx Aa (λv80=>?_);refine wa Aa (Aw (An (wm Aa (wm Aa (ck hy λhz h0=>Exists.elim NT λinf hinf=>H0 (xs:=hb++([IntKind.wrap .u8 (CA .i64 ((Aq fields ha).length:Int) 8),IntKind.wrap .u8 ((Aq fields ha).length:Int)]:List Int)) (i:=0) EF CT hinf.1 hinf.2.1 hinf.2.2.1 hinf.2.2.2 Aa Aa Aa hz Aa (λh1=>?_))))));refine wa Aa (As (AK (AX (An (ck h0 λh4 h5=>wv (BW Aa Aa h4) (wm Aa (As ?_)))))));have h6:=B9 h5 hf;exact Ay (AE (hm,((hb++([IntKind.wrap .u8 (CA .i64 ((Aq fields ha).length:Int) 8),IntKind.wrap .u8 ((Aq fields ha).length:Int)]:List Int))++D7 (Aq fields ha),ha+1),h1) ⟨h6,AfV _⟩ (AG.c Aa (AG.c5 Aa Aa Aa Aa Aa AG.nil)) (sC (sS sN)))
  refine B3 (A9 ?_);have h7:=Cw hq hf hh;exact A9 (Bo (AE (hb,hk) h7 (AG.c Aa (AG.c Aa (AG.c Aa AG.nil))) (sC sN)))
 rintro⟨hg,hA⟩ he;refine JZ ?_;replace he:MF hg=some r:=he;unfold MF at he;refine Bn (AX (Am (wm Aa (wv (r:=rS (Qm hg)) (Wb (xs:=hg) (i:=0) EF CT RF Aa Aa) (wa Aa (wa Aa (Aw (A4 ?_))))))));obtain rfl:=A7 he;exact A3 (E3 Tryz.results81 (AR Aa) (AR Aa)) (sS sN) ⟨Aa,Aa⟩
theorem XY (F:Nat)(s:Ai)(r:(List Ai)×Int)(h:ME F s=some r):Fn Tryz.prog GE 63 [rS s] [] (λR H=>R=CZ [Br 1 (AH eS r.1),AD r.2]∧H=[]):=by
 refine enter (n:=58) Tryz.func63 Aa Tryz.ntmps63 Aa (λw Z=>?_);unfold ME at h;refine Am (wa Aa (wa Aa (Aw (Qf (S:=(Int)×(Unit)) 0 (λσ=>DW σ.1=some r) (λσ=>[(2,rv (.slice none 0 0)),(3,AD 0),(7,AD σ.1)]) (λσ=>[]) Aa ?_ ?_))))
 ·refine Am (wa Aa (B0 (wa Aa (wa Aa (B0 (wa Aa (Aw (Ao (Am (wm Aa (wv (Kr Aa Aa) (Aw (cz h Aa (λhm hn=>?_) (λhm ho=>?_))))))))))))))
  ·exact KL (Cg (KJ (AE (14,()) hn (AG.c Aa (AG.c Aa (AG.c Aa AG.nil))) sN)))
  refine A0 (AX (Ao (ck ho λhp hq=>ck hq λhr hs=>ck hs λht hu=>Dr 6 [0,2,3,4,6,7] [⟨[],rS s,none,none,none⟩,⟨[0],rI .u8 (B8 s 0),none,none,none⟩,⟨[1],AD (B8 s 0),none,none,none⟩,⟨[],rS s,none,none,none⟩,⟨[3],rS (List.drop (BC 1) s),none,none,none⟩,⟨[2],AD (B8 s 0),none,none,none⟩] ?_ (λβ=>?_))))
  ·refine Do (Aj Aa) (Do (BA CT Aa Aa hp) (Do (J5 ⟨_,RF⟩ Y2 Aa hr) (Do (Aj Aa) (Do (DS CT Aa Aa ht) (Do (AA Aa) ?_)))));exact Sh
  refine Dq (H1:=[]) [10,11,12,13,14,5,0,2,3,4,6,7] ?_;refine wa Aa (Aw (Ao (Am (wm Aa (wv (DT Aa Aa) (Aw (cz hu Aa (λc167 hw=>?_) (λc167 hx=>?_))))))))
  ·exact Am (wa Aa (Aw (KL (Cg (KJ (AE (13,()) hw (AG.c Aa (AG.c Aa (AG.c Aa AG.nil))) sN))))))
  refine A0 (AX (Ao (Am (wm Aa (wv (r:=AD 0) (Aj Aa) (Aw (AS (WC.nilrow (e:=9) (sz:=1) (ob hx λhy hz hg=>B4 (S:=Nat×(Ai×(List Ai)×Int×Int)×(Value)) (V:=(Ai×(List Ai))×(Value)) 0 (λσ=>Ci (λσ=>Da s σ.1 σ.2.1 σ.2.2.1 σ.2.2.2) σ.1 σ.2.1=some hy) (λσ=>[(0,rS σ.2.1.1),(2,rv (.slice none 0 0)),(3,AD 0),(4,rv σ.2.2),(6,AD σ.2.1.2.2.1),(7,AD 14),(17,AD (B8 s 0)),(18,AD σ.2.1.2.2.2)]) (λσ=>[.row σ.2.2 9 1 (AH eS σ.2.1.2.1)]) (λσ=>σ.1) (F,(List.drop (BC 1) s,([]:List Ai),0,0),(.slice none 0 0         )) hz (AG.c Aa (AG.c Aa (AG.c Aa (AG.c5 Aa Aa Aa Aa Aa AG.nil)))) (sC sN) (λσ=>Gc σ.1.1 σ.1.2=some r) (λσ=>[(0,rS σ.1.1),(2,rv (.slice none 0 0)),(3,AD 0),(4,rv σ.2),(7,AD 14)]) (λσ=>[.row σ.2 9 1 (AH eS σ.1.2)]) ?_ ?_)))))))))
  ·rintro⟨gs,⟨ha,hd,h0,hk⟩,v233⟩ h1;refine GC ?_;obtain⟨h2,rfl,h3,hh,hf⟩:=Di h1;replace hh:Da s ha hd h0 hk=some h3:=hh;unfold Da at hh;refine Am (wv (Dh Aa Aa) (Aw (Ao (cz hh Aa (λh4 h5=>?_) (λh4 h6=>?_)))))
   ·refine A0 (AX (Ao (AS (Ao (Am (wm Aa (wv (BF CT Aa) (wv (Dh Aa Aa) (Aw (cz h5 Aa (λh7 h8=>?_) (λh7 h9=>?_)))))))))))
    ·refine KL (Cg (GH (Cg (Cg (Kf (GH (Cg (KJ (ob h8 λgt hA hB=>?_)))))))));have hC:=B1 hB hf hg;obtain rfl:=A7 hC;exact AE (14,()) hA (AG.c Aa (AG.c Aa (AG.c Aa AG.nil))) (sS sN)
    refine A0 (AX (Ao (ck h9 λhD hE=>ck hE λhG hH=>ck hH λhI hJ=>ck hJ λhK hL=>ck hL λhN hO=>Dr 11 [0,2,3,4,7,17,18,19,20,21,22] [⟨[],rS ha,none,none,none⟩,⟨[0],rI .u8 (B8 ha 0),none,none,none⟩,⟨[1],AD (B8 ha 0),none,none,none⟩,⟨[2],AD (D2 .i64 (B8 ha 0) 8),none,none,none⟩,⟨[],rS ha,none,none,none⟩,⟨[4],rI .u8 (B8 ha 1),none,none,none⟩,⟨[5],AD (B8 ha 1),none,none,none⟩,⟨[3,6],AD (JX .i64 (D2 .i64 (B8 ha 0) 8) (B8 ha 1)),none,none,none⟩,⟨[],rS ha,none,none,none⟩,⟨[8],rS (List.drop (BC 2) ha),none,none,none⟩,⟨[7],AD (JX .i64 (D2 .i64 (B8 ha 0) 8) (B8 ha 1)),none,none,none⟩] ?_ (λβ=>?_))))
    ·refine Do (Aj Aa) (Do (BA CT Aa Aa hD) (Do (J5 ⟨_,RF⟩ Y2 Aa hG) (Do (VY Aa Aa (by decide)) (Do (Aj Aa) (Do (BA CT Aa Aa hI) (Do (J5 ⟨_,RF⟩ Y2 Aa hK) (Do (AbW Aa Aa) (Do (Aj Aa) (Do (DS CT Aa Aa hN) (Do (AA Aa) ?_))))))))));exact Sh
    refine Dq (H1:=[.row v233 9 1 (AH eS hd)]) [23,24,25,26,27,28,29,30,31,32,6,0,2,3,4,7,17,18,19,20,21,22] ?_;refine wa Aa (Aw (Ao (Am (wm Aa (wv (DT Aa Aa) (Aw (cz hO Aa (λhP hQ=>?_) (λhP hR=>?_))))))))
    ·refine Am (wa Aa (Aw (KL (Cg (GH (Cg (Cg (Kf (GH (Cg (KJ (ob hQ λgu hS hT=>?_))))))))))));have hU:=B1 hT hf hg;obtain rfl:=A7 hU;exact AE (13,()) hS (AG.c Aa (AG.c Aa (AG.c Aa AG.nil))) (sS sN)
    refine A0 (AX (Ao (Am (wm Aa (wv (BF CT Aa) (wm Aa (wv (Dh Aa Aa) (Aw (cz hR Aa (λhV hW=>?_) (λhV hX=>?_))))))))))
    ·refine KL (Cg (GH (Cg (Cg (Kf (GH (Cg (KJ (ob hW λgv hY hZ=>?_)))))))));have ga:=B1 hZ hf hg;obtain rfl:=A7 ga;exact AE (14,()) hY (AG.c Aa (AG.c Aa (AG.c Aa AG.nil))) (sS sN)
    refine A0 (AX (ck hX λhl gb=>ck gb λgc gd=>Exists.elim P9 λinf hinf=>OL 10 5 [0,2,3,6,7,17,18,20,21,22,23,24,25,26,27,28,29,30,31,32,33,34,35,36,37,38] [4] [{ deps:=[],r:=λ_=>rv v233,old:=[4] },{ deps:=[],r:=λ_=>rS (List.drop (BC 2) ha) },{ deps:=[],r:=λ_=>AD (JX .i64 (D2 .i64 (B8 ha 0) 8) (B8 ha 1)) },{ deps:=[1,2],r:=λ_=>rS (List.take (BC (JX .i64 (D2 .i64 (B8 ha 0) 8) (B8 ha 1))) (List.drop (BC 2) ha)) },{ deps:=[3],r:=λ_=>Br 1 (AH eS ([List.take (BC (JX .i64 (D2 .i64 (B8 ha 0) 8) (B8 ha 1))) (List.drop (BC 2) ha)]:List Ai)) },{ deps:=[0,4],r:=λhb=>rv hb,dyn:=true },{ deps:=[],r:=λ_=>rS (List.drop (BC 2) ha) },{ deps:=[],r:=λ_=>AD (JX .i64 (D2 .i64 (B8 ha 0) 8) (B8 ha 1)) },{ deps:=[6,7],r:=λ_=>rS (List.drop (BC (JX .i64 (D2 .i64 (B8 ha 0) 8) (B8 ha 1))) (List.drop (BC 2) ha)) },{ deps:=[5],r:=λhb=>rv hb,dyn:=true }] (λhb=>[.row hb 9 1 (AH eS (hd++([List.take (BC (JX .i64 (D2 .i64 (B8 ha 0) 8) (B8 ha 1))) (List.drop (BC 2) ha)]:List Ai)))]) ?_ (λhb=>?_)))
    ·refine Ka (Aj Aa) (Ka (Aj Aa) (Ka (Aj Aa) (Ka (LM CT Aa Aa hl) (oxc (C4 (ys:=([List.take (BC (JX .i64 (D2 .i64 (B8 ha 0) 8) (B8 ha 1))) (List.drop (BC 2) ha)]:List Ai)) (enc:=eS) (css:=[[rS (List.take (BC (JX .i64 (D2 .i64 (B8 ha 0) 8) (B8 ha 1))) (List.drop (BC 2) ha))]]) (xs:=[.tmp 42]) CD BX V4 Aa Aa Aa ⟨E4.one Aa (Up.refl _),trivial⟩ Aa DC Aa Aa) (oxx (Kd (xs:=hd) (ys:=([List.take (BC (JX .i64 (D2 .i64 (B8 ha 0) 8) (B8 ha 1))) (List.drop (BC 2) ha)]:List Ai)) (enc:=eS) (i:=0) CD hinf.1 hinf.2.1 hinf.2.2.1 hinf.2.2.2 Aa Aa Aa Aa Aa (JG.z Aa Aa) DC LR gc) (Ka (Aj Aa) (Ka (Aj Aa) (Ka (DS CT Aa Aa hl) (Ka (fun {hb _}=>(AA Aa)) ?_)))))))));exact oxe
    refine Dq (H1:=[.row hb 9 1 (AH eS (hd++([List.take (BC (JX .i64 (D2 .i64 (B8 ha 0) 8) (B8 ha 1))) (List.drop (BC 2) ha)]:List Ai)))]) [39,40,41,42,43,44,45,46,47,4,0,2,3,6,7,17,18,20,21,22,23,24,25,26,27,28,29,30,31,32,33,34,35,36,37,38] ?_;refine wa Aa (As (AK (AX (An (ck gd λge gf=>wv (BW Aa Aa ge) (wm Aa (As ?_)))))));have gg:=B9 gf hf;exact Ay (AE (h2,(List.drop (BC (JX .i64 (D2 .i64 (B8 ha 0) 8) (B8 ha 1))) (List.drop (BC 2) ha),hd++([List.take (BC (JX .i64 (D2 .i64 (B8 ha 0) 8) (B8 ha 1))) (List.drop (BC 2) ha)]:List Ai),JX .i64 (D2 .i64 (B8 ha 0) 8) (B8 ha 1),hk+1),hb) ⟨gg,AfV _⟩ (AG.c Aa (AG.c Aa (AG.c Aa (AG.c5 Aa Aa Aa Aa Aa AG.nil)))) (sC sN))
   refine B3 (A9 ?_);have gh:=Cw h6 hf hg;exact A9 (Bo (AE ((ha,hd),v233) gh (AG.c5 Aa Aa Aa Aa Aa AG.nil) (sC sN)))
  rintro⟨⟨gi,he⟩,gw⟩ hi;refine JZ ?_;replace hi:Gc gi he=some r:=hi;unfold Gc at hi;refine Bn (AX (Ao (Am (wm Aa (wv (CQ Aa Aa) (Aw (cz hi Aa (λgj gl=>?_) (λgj gm=>?_))))))))
  ·exact Am (wa Aa (Aw (KL (Cg (KJ (AE (13,()) gl (AG.c Aa (AG.c Aa (AG.c Aa AG.nil))) (sS sN)))))))
  refine A0 (AX (Ao (Am (wm Aa (wm Aa (wv (Ca (ys:=he) (enc:=eS) (i:=0) CD Aa Aa) (wm Aa (wv (Ca (ys:=he) (enc:=eS) (i:=0) CD Aa Aa) (WL.freeze (i:=0) Aa (WL.up (d:=51) (r:=Br 1 (AH eS he)) Aa (Up.fact (i:=0) Aa) (ck gm λgp gq=>wv (r:=Br 1 (AH eS (List.take (BC (he.length:Int)) he))) (NM CD BX Aa Aa Aa gp) (wa Aa (wa Aa (Aw (A4 (Ae (Ab5 ?_)))))))))))))))));obtain rfl:=A7 gq;exact A3 (E3 Tryz.results63 (AR Aa) (AR Aa)) (sS sN) ⟨Aa,Aa⟩
 rintro⟨gr,⟨⟩⟩ hj;refine GC ?_;replace hj:DW gr=some r:=hj;unfold DW at hj;refine Ao (A0 (AX (Am (wm Aa (wa Aa (wa Aa (Aw (A4 (KI (WK.up (d:=2) (r:=Br 1 (AH eS ([]:List Ai))) Aa (Up.le (LW.nil _)) ?_))))))))));obtain rfl:=A7 hj;exact A3 (E3 Tryz.results63 (AR Aa) (AR Aa)) sN ⟨Aa,Aa⟩
theorem Ac0 (F:Nat)(body:Ai)(r:Ai×Int)(h:PF F body=some r):Fn Tryz.prog GE 112 [rS body] [] (λR H=>R=CZ [rS r.1,AD r.2]∧H=[]):=by
 refine enter (n:=17) Tryz.func112 Aa Tryz.ntmps112 Aa (λw Z=>?_);unfold PF at h;refine Am (wv (r:=rS ([]:Ai)) (AA Aa) (wa Aa (Aw (Ao (Am (wm Aa (wv (BF CT Aa) (wv (DT Aa Aa) (Aw (cz h Aa (λc1 h2=>?_) (λc1 h3=>?_)))))))))))
 ·refine Am (wv (r:=rS ([]:Ai)) (AA Aa) (wa Aa (Aw (A4 (Ae ?_)))));obtain rfl:=A7 h2;exact A3 (E3 Tryz.results112 (AR Aa) (AR Aa)) sN ⟨Aa,Aa⟩
 refine A0 (AX (Am (wm Aa (wv (BF CT Aa) (wv (r:=rI .u32 (IntKind.wrap .u32 (body.length:Int))) (Cu ⟨_,Y2⟩ JI Aa) (ob h3 λr4 e6 h5=>DI Tryz.call147 (R0 (IntKind.wrap .u32 (body.length:Int)) r4 e6) Aa (wm Aa (ob h5 λr7 e9 h8=>DI Tryz.call122 (Aa8 F body r7 e9) Aa (ob h8 λha hb hd=>DI Tryz.call147 (R0 r7 ha hb) Aa (ck hd λhe hf=>wv (Pp Aa Aa he) (wm Aa (ck hf λg15 hg=>wv (Pp Aa Aa g15) (wa Aa (wa Aa (Aw (A4 ?_))))))))))))))));obtain rfl:=A7 hg;exact A3 (E3 Tryz.results112 (AR Aa) (AR Aa)) sN ⟨Aa,Aa⟩
theorem Ac2 (F:Nat)(s:Ai)(r:Ai×Int×Int)(h:Ua F s=some r):Fn Tryz.prog GE 98 [rS s] [] (λR H=>R=CZ [rS r.1,AD r.2.1,AD r.2.2]∧H=[]):=by
 refine enter (n:=35) Tryz.func98 Aa Tryz.ntmps98 Aa (λw Z=>?_);unfold Ua at h;refine Am (wv (r:=rS ([]:Ai)) (AA Aa) (wa Aa (wa Aa (Aw (Ao (Am (wm Aa (wv (BF CT Aa) (wv (Dh Aa Aa) (Aw (cz h Aa (λc1 h2=>?_) (λc1 h3=>?_))))))))))))
 ·refine Am (wv (r:=rS ([]:Ai)) (AA Aa) (wa Aa (wa Aa (Aw (A4 (Ae ?_))))));obtain rfl:=A7 h2;exact A3 (Zq YB (AR Aa) (AR Aa) (AR Aa)) sN ⟨Aa,Aa⟩
 refine A0 (AX (Am (wm Aa (ob h3 λr4 e6 h5=>DI Tryz.call121 (Rz s r4 e6) Aa (wv (r:=AD (IntKind.wrap .i64 r4)) (Cu ⟨_,JI⟩ Y2 Aa) (wa Aa (Aw (Ao (AS (Am (wm Aa (wv (DT Aa Aa) (wa Aa (Aw (cz h5 Aa (λc7 h8=>?_) (λc7 h9=>?_))))))))))))))))
 ·refine Am (wv (r:=rS ([]:Ai)) (AA Aa) (wa Aa (wa Aa (Aw (A4 (AB (Ae ?_)))))));obtain rfl:=A7 h8;exact A3 (Zq YB (AR Aa) (AR Aa) (AR Aa)) sN ⟨Aa,Aa⟩
 refine Am (wm Aa (wm Aa (wv (BF CT Aa) (ck h9 λhb hd=>wv (Pm Aa Aa hb) (wv (DT Aa Aa) (wa Aa (Aw (cz hd Aa (λhe hf=>?_) (λhe hg=>?_)))))))))
 ·refine Am (wv (r:=rS ([]:Ai)) (AA Aa) (wa Aa (wa Aa (Aw (A4 (AB (Ae ?_)))))));obtain rfl:=A7 hf;exact A3 (Zq YB (AR Aa) (AR Aa) (AR Aa)) sN ⟨Aa,Aa⟩
 refine A0 (AK (AX (Am (wm Aa (wm Aa (ck hg λg15 hh=>wv (BW Aa Aa g15) (ck hh λg17 hi=>ck hi λg19 hj=>wv (LL CT Aa Aa Aa g17 g19) (wa Aa (Aw (Ao (Ao (ob hj λha hk hl=>ck hl λhm hn=>Dr 4 [0,5,6] [⟨[],rS (List.take (BC (8+(IntKind.wrap .i64 r4))-BC 8) (List.drop (BC 8) s)),none,none,none⟩,⟨[0],rI .u32 ha,none,none,none⟩,⟨[],rS s,none,none,none⟩,⟨[2],rS (List.drop (BC 4) s),none,none,none⟩] ?_ (λβ=>?_)))))))))))))
 ·refine Do (Aj Aa) (NL (G0 Tryz.call122 (Aa8 F (List.take (BC (8+(IntKind.wrap .i64 r4))-BC 8) (List.drop (BC 8) s)) ha hk) Aa) (Do (Aj Aa) (Do (DS CT Aa Aa hm) ?_)));exact Sh
 refine Dq (H1:=[]) [26,27,28,29,0,5,6] ?_;refine ob hn λho hp hq=>DI Tryz.call121 (Rz (List.drop (BC 4) s) ho hp) Aa (wv (BQ Aa Aa) (Aw (cz hq Aa (λhr hs=>?_) (λhr ht=>?_))))
 ·refine Am (wv (r:=rS ([]:Ai)) (AA Aa) (wa Aa (wa Aa (Aw (A4 (Ae ?_))))));obtain rfl:=A7 hs;exact A3 (Zq YB (AR Aa) (AR Aa) (AR Aa)) sN ⟨Aa,Aa⟩
 refine A0 (AX (Am (wm Aa (wm Aa (wv (BW Aa Aa g15) (wa Aa (wa Aa (wa Aa (Aw (A4 ?_))))))))));obtain rfl:=A7 ht;exact A3 (Zq YB (AR Aa) (AR Aa) (AR Aa)) sN ⟨Aa,Aa⟩
theorem AaG (F:Nat)(s:Ai)(r:(List Ai)×Int)(h:PE F s=some r):Fn Tryz.prog GE 62 [rS s] [] (λR H=>R=CZ [Br 1 (AH eS r.1),AD r.2]∧H=[]):=by
 refine enter (n:=37) Tryz.func62 Aa Tryz.ntmps62 Aa (λw Z=>?_);unfold PE at h;refine Am (wa Aa (wa Aa (B0 (wa Aa (B0 (wa Aa (Aw (Ao (AS (WC.nilrow (e:=9) (sz:=1) (ob h λhk hl hi=>B4 (S:=Nat×((List Ai)×Int)×(Value)) (V:=((List Ai)×Int)×(Value)) 0 (λσ=>Ci (λσ=>GU F s σ.1 σ.2) σ.1 σ.2.1=some hk) (λσ=>[(0,rS s),(2,rv (.slice none 0 0)),(3,AD 0),(4,rv σ.2.2),(5,AD σ.2.1.2)]) (λσ=>[.row σ.2.2 9 1 (AH eS σ.2.1.1)]) (λσ=>σ.1) (F,(([]:List Ai),0),(.slice none 0 0         )) hl (AG.c5 Aa Aa Aa Aa Aa AG.nil) (sC sN) (λσ=>Jn σ.1.1 σ.1.2=some r) (λσ=>[(2,rv (.slice none 0 0)),(3,AD 0),(4,rv σ.2),(5,AD σ.1.2)]) (λσ=>[.row σ.2 9 1 (AH eS σ.1.1)]) ?_ ?_)))))))))))
 ·rintro⟨hA,⟨hd,he⟩,hj⟩ hm;refine GC ?_;obtain⟨hn,rfl,ho,hf,hh⟩:=Di hm;replace hf:GU F s hd he=some ho:=hf;unfold GU at hf;refine Ao (Am (wm Aa (wm Aa (wv (BF CT Aa) (wv (Dh Aa Aa) (Aw (cz hf Aa (λhp hq=>?_) (λhp hr=>?_))))))))
  ·refine A0 (AX (AS (Am (wm Aa (wm Aa (ck hq λhs ht=>wv (DS CT Aa Aa hs) (ob ht λha hu hw=>DI Tryz.call98 (Ac2 F (List.drop (BC he) s) ha hu) Aa (wm Aa (wv (A8 Aa Aa) (wv (A8 Aa Aa) (wv (A8 Aa Aa) (wa Aa (wa Aa (wa Aa (Aw (Ao (Am (wm Aa (wv (BQ Aa Aa) (Aw (cz hw Aa (λc167 hx=>?_) (λc167 hy=>?_))))))))))))))))))))))
   ·refine B3 (A9 (OJ Aa ?_));have hz:=Cw hx hh hi;exact A9 (Bo (AE ((hd,he),hj) hz (AG.c Aa (AG.c Aa (AG.c Aa (AG.c Aa AG.nil)))) (sC sN)))
   refine A0 (AX (An (wm Aa (wm Aa (Bf (ys:=([ha.1]:List Ai)) (enc:=eS) (css:=[[rS ha.1]]) (xs:=[.tmp 24]) CD BX V4 Aa Aa Aa ⟨E4.one Aa (Up.refl _),trivial⟩ Aa DC Aa Aa Aa (λhB=>?_))))));refine ck hy λh0 h1=>Exists.elim P9 λinf hinf=>Cc (xs:=hd) (ys:=([ha.1]:List Ai)) (enc:=eS) (i:=1) CD hinf.1 hinf.2.1 hinf.2.2.1 hinf.2.2.2 Aa Aa Aa Aa Aa (JG.w (i:=0) Aa Aa) DC LR h0 Aa (λh2=>?_);refine wm Aa (wm Aa (ck h1 λh3 h4=>wv (BW Aa Aa h3) (wa Aa (wa Aa (As (AK ?_))))));have h5:=B9 h4 hh;exact Ay (AE (hn,(hd++([ha.1]:List Ai),he+ha.2.1),h2) ⟨h5,AfV _⟩ (AG.c5 Aa Aa Aa Aa Aa AG.nil) (sC (sS sN)))
  refine B3 (A9 ?_);have h6:=Cw hr hh hi;exact A9 (Bo (AE ((hd,he),hj) h6 (AG.c Aa (AG.c Aa (AG.c Aa (AG.c Aa AG.nil)))) (sC sN)))
 rintro⟨⟨hb,h7⟩,hC⟩ hg;refine JZ ?_;replace hg:Jn hb h7=some r:=hg;unfold Jn at hg;refine Bn (AX (Am (wm Aa (wm Aa (wv (Ca (ys:=hb) (enc:=eS) (i:=0) CD Aa Aa) (wm Aa (wv (Ca (ys:=hb) (enc:=eS) (i:=0) CD Aa Aa) (WL.freeze (i:=0) Aa (WL.up (d:=30) (r:=Br 1 (AH eS hb)) Aa (Up.fact (i:=0) Aa) (ck hg λh8 h9=>wv (r:=Br 1 (AH eS (List.take (BC (hb.length:Int)) hb))) (NM CD BX Aa Aa Aa h8) (wm Aa (wa Aa (wa Aa (Aw (A4 ?_)))))))))))))));obtain rfl:=A7 h9;exact A3 (E3 Tryz.results62 (AR Aa) (AR Aa)) (sS sN) ⟨Aa,Aa⟩
theorem Ac3 (F:Nat)(bodies:(List Ai))(r:Ai×Int)(h:Ub F bodies=some r):Fn Tryz.prog GE 82 [Br 1 (AH eS bodies)] [] (λR H=>R=CZ [rS r.1,AD r.2]∧H=[]):=by
 refine enter (n:=36) Tryz.func82 Aa Tryz.ntmps82 Aa (λw Z=>?_);unfold Ub at h;refine Am (wv (r:=rS ([]:Ai)) (AA Aa) (wa Aa (B0 (wa Aa (Aw (Ao (Am (wm Aa (wv (Bx (ys:=bodies) (enc:=eS) CD Aa) (wv (r:=AD 0) (Aj Aa) (Aw (AS (WC.nilrow (e:=5) (sz:=1) (ob h λhl hm hk=>B4 (S:=Nat×((List Int)×Int)×(Value)) (V:=((List Int))×(Value)) 0 (λσ=>Ci (λσ=>G6 F bodies σ.1 σ.2) σ.1 σ.2.1=some hl) (λσ=>[(4,rv σ.2.2),(9,Br 1 (AH eS bodies)),(10,AD (bodies.length:Int)),(11,AD σ.2.1.2)]) (λσ=>[.row σ.2.2 5 1 (AH BN σ.2.1.1)]) (λσ=>σ.1) (F,(([]:List Int),0),(.slice none 0 0     )) hm (AG.c Aa (AG.c Aa (AG.c Aa (AG.c Aa AG.nil)))) (sC sN) (λσ=>K6 σ.1=some r) (λσ=>[(4,rv σ.2)]) (λσ=>[.row σ.2 5 1 (AH BN σ.1)]) ?_ ?_))))))))))))))
 ·rintro⟨hB,⟨hb,he⟩,hh⟩ hn;refine GC ?_;obtain⟨ho,rfl,hp,hf,hi⟩:=Di hn;replace hf:G6 F bodies hb he=some hp:=hf;unfold G6 at hf;refine Am (wv (Dh Aa Aa) (Aw (Ao (cz hf Aa (λhq hr=>?_) (λhq hs=>?_)))))
  ·refine A0 (AX (Ao (AS (Am (ck hr λht hu=>wv (AW (enc:=eS) (ys:=bodies) CD BX Aa Aa ht) (wv (AJ Cf Aa Aa) (wa Aa (B0 (wm Aa (ob hu λhd hw hx=>DI Tryz.call112 (Ac0 F (Aq bodies he) hd hw) Aa (wm Aa (wv (A8 Aa Aa) (wv (A8 Aa Aa) (wa Aa (wa Aa (Aw (Ao (ck hx λhy hz=>AV [(4,rv hh),(7,rS hd.1),(9,Br 1 (AH eS bodies)),(10,AD (bodies.length:Int)),(11,AD he),(29,rB ((!decide (hd.2=0))||(decide (262144<((hb.length:Int)+(hd.1.length:Int))))))] [.row hh 5 1 (AH BN hb)] ?_ ?_))))))))))))))))))
   ·refine An (wm Aa (wv (BQ Aa Aa) (wm Aa (AY (!decide (hd.2=0)) (λha=>?_) (λha=>?_)))))
    ·refine wf ha (wf ha (wf ha (wf ha (wf ha (wf ha (wv (r:=rB true) (A5 Aa ha Aa) (As ?_)))))));exact CI ha
    refine wo ha (wm Aa (wo ha (wv (Ca (ys:=hb) (enc:=BN) (i:=0) EF Aa Aa) (wo ha (wm Aa (wo ha (wv (BF CT Aa) (wo ha (wv (BW Aa Aa (EA hy ha)) (wo ha (wv (DT Aa Aa) (G9 Aa ha Aa (As ?_)))))))))))));exact CI ha
   refine cz hz Aa (λh0 h1=>?_) (λh0 h2=>?_)
   ·refine Am (wv (r:=rS ([]:Ai)) (AA Aa) (wa Aa (Aw (A4 (Ae (AB (Ae (Ae (Be ?_)))))))));have h3:=B1 h1 hi hk;refine AB (Ae ?_);obtain rfl:=A7 h3;exact A3 (E3 Tryz.results82 (AR Aa) (AR Aa)) (sS sN) ⟨Aa,Aa⟩
   refine A0 (AX (An (wm Aa (wm Aa (ck h2 λh4 h5=>Exists.elim NT λinf hinf=>H0 (xs:=hb) (i:=0) EF CT hinf.1 hinf.2.1 hinf.2.2.1 hinf.2.2.2 Aa Aa Aa h4 Aa (λh6=>?_))))));refine wa Aa (As (AK (AX (An (ck h5 λh7 h8=>wv (BW Aa Aa h7) (wm Aa (As ?_)))))));have h9:=B9 h8 hi;exact Ay (AE (ho,(hb++D7 hd.1,he+1),h6) ⟨h9,AfV _⟩ (AG.c Aa (AG.c Aa (AG.c Aa (AG.c Aa AG.nil)))) (sC sN))
  refine B3 (A9 ?_);have hA:=Cw hs hi hk;exact A9 (Bo (AE (hb,hh) hA (AG.c Aa AG.nil) (sC sN)))
 rintro⟨hj,hC⟩ hg;refine JZ ?_;replace hg:K6 hj=some r:=hg;unfold K6 at hg;refine Bn (AX (Am (wm Aa (wv (r:=rS (Qm hj)) (Wb (xs:=hj) (i:=0) EF CT RF Aa Aa) (wa Aa (wa Aa (Aw (A4 ?_))))))));obtain rfl:=A7 hg;exact A3 (E3 Tryz.results82 (AR Aa) (AR Aa)) (sS sN) ⟨Aa,Aa⟩
end Go.Proofs.YtfobhhegpkinaaaGreatDoor.Q
namespace Go.Proofs.YtfobhhegpkinaaaGreatDoor
open Go
set_option linter.unusedVariables false
set_option linter.unusedSimpArgs false
section
variable {T S : Type}
def Cd:List (Ai×T)→Ai→Option T
 | [],_=>none
 | p::r,k=>bif decide (p.1=k) then some p.2 else Cd r k
def B2 (xs:List (Ai×T))(k:Ai)(z:T):T:=(Cd xs k).getD z
def E6 (xs:List (Ai×T))(k:Ai):Bool:=(Cd xs k).isSome
def mins (k:Ai)(v:T):List (Ai×T)→List (Ai×T)
 | []=>[(k,v)]
 | p::r=>bif Cz k p.1 then(k,v)::p::r else p::mins k v r
def mput (xs:List (Ai×T))(k:Ai)(v:T):List (Ai×T):=xs.map λp=>bif decide (p.1=k) then(k,v) else p
def mset (xs:List (Ai×T))(k:Ai)(v:T):List (Ai×T):=bif E6 xs k then mput xs k v else mins k v xs
def mdel (xs:List (Ai×T))(k:Ai):List (Ai×T):=xs.filter λp=>!decide (p.1=k)
def AL (f:T→S)(xs:List (Ai×T)):List (Ai×S):=xs.map λp=>(p.1,f p.2)
theorem M5 (f:T→S):∀(xs:List (Ai×T)) (k:Ai),Cd (AL f xs) k=(Cd xs k).map f
 | [],k=>rfl
 | p::r,k=>by
  show(bif decide (p.1=k) then some (f p.2) else Cd (AL f r) k)=_;rw[Cd,M5 f r k]
  cases decide (p.1=k)<;>rfl
theorem Aaf (f:T→S)(xs:List (Ai×T))(k:Ai):E6 (AL f xs) k=E6 xs k:=by
 unfold E6;rw[M5];cases Cd xs k<;>rfl
theorem TC (f:T→S)(k:Ai)(v:T):∀xs:List (Ai×T),AL f (mins k v xs)=mins k (f v) (AL f xs)
 | []=>rfl
 | p::r=>by
  show AL f (bif Cz k p.1 then(k,v)::p::r else p::mins k v r)=(bif Cz k p.1 then(k,f v)::(p.1,f p.2)::AL f r else(p.1,f p.2)::mins k (f v) (AL f r));rw[← TC f k v r]
  cases Cz k p.1<;>rfl
theorem Aad (f:T→S)(xs:List (Ai×T))(k:Ai)(v:T):AL f (mset xs k v)=mset (AL f xs) k (f v):=by
 unfold mset;rw[Aaf]
 cases E6 xs k with
 | false=>exact TC f k v xs
 | true=>
  show AL f (mput xs k v)=mput (AL f xs) k (f v);unfold AL mput;rw[AgD,AgD];refine List.map_congr_left λp _=>?_;show _=(bif decide (p.1=k) then(k,f v) else(p.1,f p.2));simp only[Function.comp]
  cases decide (p.1=k)<;>rfl
theorem Aai (f:T→S)(xs:List (Ai×T))(k:Ai):AL f (mdel xs k)=mdel (AL f xs) k:=by
 unfold AL mdel;rw[List.filter_map];rfl
theorem Hg (f:T→S)(xs:List (Ai×T)):(AL f xs).length=xs.length:=by simp[AL]
theorem Nl (k:Ai)(v:T):∀xs:List (Ai×T),(mins k v xs).Perm ((k,v)::xs)
 | []=>AfX _
 | p::r=>by
  rw[mins]
  cases Cz k p.1 with
  | true=>exact AfX _
  | false=>exact((Nl k v r).cons p).trans (List.Perm.swap _ _ _)
def H9 (x:T):List T→List (List T)
 | []=>[[x]]
 | y::r=>(x::y::r)::(H9 x r).map (y::·)
def Lv:List T→List (List T)
 | []=>[[]]
 | x::r=>(Lv r).flatMap (H9 x)
theorem NQ (x:T):∀(a b:List T),a++x::b∈H9 x (a++b)
 | [],[]=>by simp[H9]
 | [],y::b=>by simp[H9]
 | y::a,b=>by
  simp only[Ag2,H9,AgH,List.mem_map];exact .inr ⟨_,NQ x a b,rfl⟩
theorem Re:∀(xs ys:List T),ys.Perm xs→ys∈Lv xs
 | [],ys,h=>by rw[h.eq_nil];simp[Lv]
 | x::r,ys,h=>by
  have hx:x∈ys:=h.symm.subset (List.mem_cons_self ..);obtain⟨a,b,rfl⟩:=List.append_of_mem hx;have h2:(a++b).Perm r:=(List.perm_middle.symm.trans h).cons_inv;simp only[Lv,List.mem_flatMap];exact⟨a++b,Re r _ h2,NQ x a b⟩
def TA {R:Type}[DecidableEq R](xs:List T)(K:List T→Option R):Option R:=match K xs with
 | none=>none
 | some r=>bif (Lv xs).all (λp=>decide (K p=some r)) then some r else none
theorem Vb {R:Type}[DecidableEq R]{xs:List T}{K:List T→Option R}{r:R}(h:TA xs K=some r):∀p:List T,p.Perm xs→K p=some r:=λp hp=>by
 unfold TA at h
 cases hk:K xs with
 | none=>rw[hk] at h;cases h
 | some q=>
  rw[hk] at h;simp only at h
  cases ha:(Lv xs).all (λp=>decide (K p=some q)) with
  | false=>rw[ha] at h;cases h
  | true=>
   rw[ha] at h;cases h;exact AfS (List.all_eq_true.1 ha p (Re xs p hp))
theorem Jf (x:T):∀(xs ys:List T),ys∈H9 x xs→ys.Perm (x::xs)
 | [],ys,h=>by simp[H9] at h;rw[h]
 | y::r,ys,h=>by
  simp only[H9,AgH,List.mem_map] at h;rcases h with rfl | ⟨z,hz,rfl⟩
  ·exact AfX _
  ·exact((Jf x r z hz).cons y).trans (List.Perm.swap _ _ _)
theorem Ph:∀(xs ys:List T),ys∈Lv xs→ys.Perm xs
 | [],ys,h=>by simp[Lv] at h;rw[h]
 | x::r,ys,h=>by
  simp only[Lv,List.mem_flatMap] at h;obtain⟨z,hz,hy⟩:=h;exact(Jf x z ys hy).trans ((Ph r z hz).cons x)
theorem Aae {R:Type}[DecidableEq R]{xs:List T}{K:List T→Option R}{r:R}(h:∀p:List T,p.Perm xs→K p=some r):TA xs K=some r:=by
 unfold TA;rw[h xs (AfX _)];have:(Lv xs).all (λp=>decide (K p=some r))=true:=List.all_eq_true.2 λp hp=>AfI (h p (Ph xs p hp));simp only[this];rfl
def Rk {St O:Type}(body:T→St→Option (Stp St (Out O St))):List T→St→Option (Out O St)
 | [],s=>some (.go s)
 | x::r,s=>match body x s with
  | none=>none
  | some (.next s')=>Rk body r s'
  | some (.out o)=>some o
def AeV {St R:Type}(body:T→St→Option (Stp St (Out R St)))(ys:List T)(K:St→Option R)(r:R):Stp St (Out R St)→Prop
 | .next s'=>∀q:List T,q.Perm ys→Bq (Rk body q s') (BO K)=some r
 | .out o=>BO K o=some r
theorem Aas {St R:Type}{body:T→St→Option (Stp St (Out R St))}{ys ys':List T}{p:T}{s:St}{K:St→Option R}{r:R}(h:∀q:List T,q.Perm ys→Bq (Rk body q s) (BO K)=some r)(hp:ys.Perm (p::ys')):∃t,body p s=some t∧AeV body ys' K r t:=by
 have h1:∀q:List T,q.Perm ys'→Bq (Rk body (p::q) s) (BO K)=some r:=λq hq=>h _ ((hq.cons p).trans hp.symm)
 cases hb:body p s with
 | none=>
  have:=h1 ys' (AfX _);rw[Rk,hb] at this;cases this
 | some t=>
  refine⟨t,rfl,?_⟩
  cases t with
  | next s'=>
   intro q hq;have:=h1 q hq;rw[Rk,hb] at this;exact this
  | out o=>
   have:=h1 ys' (AfX _);rw[Rk,hb] at this;exact this
theorem Ss {St R:Type}{body:T→St→Option (Stp St (Out R St))}{ys:List T}{s:St}{K:St→Option R}{r:R}(h:∀q:List T,q.Perm ys→Bq (Rk body q s) (BO K)=some r)(hy:ys=[]):K s=some r:=by
 subst hy;exact h [] (AfX _)
theorem Nn {St R:Type}{body:T→St→Option (Stp St (Out R St))}{ys:List T}{s':St}{K:St→Option R}{r:R}{t:Stp St (Out R St)}(h:some (Stp.next s')=some t)(ht:AeV body ys K r t):∀q:List T,q.Perm ys→Bq (Rk body q s') (BO K)=some r:=by cases h;exact ht
theorem Sd {ys ys':List T}{p:T}(h:ys.Perm (p::ys')):ys'.length<ys.length:=by rw[h.length_eq];exact AfV _
end
structure Ap where
 fKind:Int
 fKey:Ai
 fValue:(List Ab)
 fDelay:Int
 deriving DecidableEq,Inhabited
structure Ak where
 fID:Ai
 fTenant:Ai
 fCause:Ai
 fAt:Int
 fEffect:Ap
 deriving DecidableEq,Inhabited
structure AC where
 fEvent:Ai
 fTenant:Ai
 fAttempt:Int
 fResult:(List Ab)
 fEffects:(List Ap)
 fAt:Int
 deriving DecidableEq,Inhabited
def Hp (ys:(List Ab)):Option ((List Ab)):=
 Bd (Dz 40 (([]:List Ab).length+ys.length))<|some (([]:List Ab)++ys)
def BI (n:Int):Option (Bool):=
 some ((decide (0≤n))&&(decide (n≤1073741824)))
def Gj (k:Int):Option (Bool):=
 some ((decide (k=3))||((decide (k=4))||(decide (k=5))))
def Sm (x:Ap):Option (Bool):=
 Bw (((decide (x.fKind=3))||(decide (x.fKind=4)))) (some (Hf x.fKey)) (some (K3 x.fKey))
def CL (v:(List Ab)):Option (Bool):=
 Bd (imp (decide (1<(v.length:Int))) (CY 0 (v.length:Int)))<|Bd (imp (decide (1<(v.length:Int))) (imp (decide (((Aq v 0).fKind)=5)) (CY 1 (v.length:Int))))<|some ((decide (1<(v.length:Int)))&&((decide (((Aq v 0).fKind)=5))&&(decide (((Aq v 1).fKind)=4))))
def KW (F:Nat)(event:Ai)(x:Ap)(i:Int):Option (Int):=
 Bw (((decide (x.fKind<1))||(decide (5<x.fKind)))) (some 7) (Bq (Sm x) λr6=>Bw (!r6) (some 4) (Bw (decide (x.fKind=2)) (Bw (decide (0<(x.fValue.length:Int))) (some 7) (Bd (imp (decide (x.fKind=5)) ((CL x.fValue).isSome))<|Bw (((decide (x.fKind=5))&&(!(ov (CL x.fValue))))) (some 7) (Bd (imp (!decide (x.fKind=4)) (imp (!(!decide (x.fDelay=0))) ((BI x.fDelay).isSome)))<|Bd (imp (!(!decide (x.fKind=4))) ((BI x.fDelay).isSome))<|Bw ((bif !decide (x.fKind=4) then((!decide (x.fDelay=0))||(!(ov (BI x.fDelay)))) else !(ov (BI x.fDelay)))) (some 2) (Bq (Gj x.fKind) λhb=>Bw (hb) (Bd (Dz 1 event.length)<|Bd (Cb .i64 i)<|some (C1 event i)) (some 0))))) (Bq (Jw F x.fValue) λha=>Bw (!decide (ha=0)) (some ha) (Bd (imp (decide (x.fKind=5)) ((CL x.fValue).isSome))<|Bw (((decide (x.fKind=5))&&(!(ov (CL x.fValue))))) (some 7) (Bd (imp (!decide (x.fKind=4)) (imp (!(!decide (x.fDelay=0))) ((BI x.fDelay).isSome)))<|Bd (imp (!(!decide (x.fKind=4))) ((BI x.fDelay).isSome))<|Bw ((bif !decide (x.fKind=4) then((!decide (x.fDelay=0))||(!(ov (BI x.fDelay)))) else !(ov (BI x.fDelay)))) (some 2) (Bq (Gj x.fKind) λhd=>Bw (hd) (Bd (Dz 1 event.length)<|Bd (Cb .i64 i)<|some (C1 event i)) (some 0)))))))
def Gn (F:Nat)(c:AC)(ha:Int):Option (Stp (Int) (Out (Int) (Unit))):=
 Bw (decide (ha<(c.fEffects.length:Int))) (Bd (CY ha (c.fEffects.length:Int))<|Bq (KW F c.fEvent (Aq c.fEffects ha) ha) λhb=>Bw (!decide (hb=0)) (some (.out (.ret hb))) (Bd (Cb .i64 (ha+1))<|some (.next (ha+1)))) (some (.out (.go ())))
def Jd :Option (Int):=
 some 0
def Nk (F:Nat)(c:AC):Option (Int):=
 Bw (((!(K3 c.fEvent))||(!(Hf c.fTenant)))) (some 4) (Bd (imp (!(decide (c.fAttempt<1))) (imp (!(decide (1073741824<c.fAttempt))) ((BI c.fAt).isSome)))<|Bw (((decide (c.fAttempt<1))||((decide (1073741824<c.fAttempt))||(!(ov (BI c.fAt)))))) (some 2) (Bq (Jw F c.fResult) λha=>Bw (!decide (ha=0)) (some ha) (Bw (decide (32<(c.fEffects.length:Int))) (some 3) (Bq (Ci (λσ=>Gn F c σ) F 0) (BO λν=>Jd )))))
def UT (x:Ap):Option (Ap):=
 Bq (Hp x.fValue) λr3=>some (Ap.mk x.fKind x.fKey r3 x.fDelay)
def NO (F:Nat)(v:(List Ab)):Option (Ai):=
 Bq (Mi F v) λr1=>some r1.1
def Hd (F:Nat)(records:(List (List Ai)))(hb:(List Ai))(ha:Int):Option (Stp ((List Ai)×Int) (Out (Ai×Int) ((List Ai)))):=
 Bw (decide (ha<(records.length:Int))) (Bd (CY ha (records.length:Int))<|Bq (TZ F (Aq records ha)) λhd=>Bw (!decide (hd.2=0)) (some (.out (.ret (([]:Ai),3)))) (Bd (Dz 16 (hb.length+([hd.1]:List Ai).length))<|Bd (Cb .i64 (ha+1))<|some (.next (hb++([hd.1]:List Ai),ha+1)))) (some (.out (.go hb)))
def HY (F:Nat)(hb:(List Ai)):Option (Ai×Int):=
 Bq (Ub F hb) λha=>Bw (!decide (ha.2=0)) (some (([]:Ai),3)) (some (ha.1,0))
def Pr (F:Nat)(records:(List (List Ai))):Option (Ai×Int):=
 Bq (Ci (λσ=>Hd F records σ.1 σ.2) F (([]:List Ai),0)) (BO λν=>HY F ν)
def Ew (F:Nat)(c:AC)(hb:(List (List Ai)))(ha:Int):Option (Stp ((List (List Ai))×Int) (Out (Ai×Int) ((List (List Ai))))):=
 Bw (decide (ha<(c.fEffects.length:Int))) (Bd (CY ha (c.fEffects.length:Int))<|Bd (Cb .i64 ((Aq c.fEffects ha).fKind))<|Bd (Cb .i64 ((Aq c.fEffects ha).fDelay))<|Bq (NO F ((Aq c.fEffects ha).fValue)) λhd=>Bd (Dz 24 (hb.length+([([Lib.itoa ((Aq c.fEffects ha).fKind),(Aq c.fEffects ha).fKey,Lib.itoa ((Aq c.fEffects ha).fDelay),hd]:List Ai)]:List (List Ai)).length))<|Bd (Cb .i64 (ha+1))<|some (.next (hb++([([Lib.itoa ((Aq c.fEffects ha).fKind),(Aq c.fEffects ha).fKey,Lib.itoa ((Aq c.fEffects ha).fDelay),hd]:List Ai)]:List (List Ai)),ha+1))) (some (.out (.go hb)))
def EZ (F:Nat)(hb:(List (List Ai))):Option (Ai×Int):=
 Bq (Pr F hb) λha=>some (ha.1,ha.2)
def H7 (F:Nat)(c:AC):Option (Ai×Int):=
 Bq (Nk F c) λr2=>Bw (!decide (r2=0)) (some (([]:Ai),r2)) (Bd (Cb .i64 c.fAttempt)<|Bd (Cb .i64 c.fAt)<|Bq (NO F c.fResult) λha=>Bq (Ci (λσ=>Ew F c σ.1 σ.2) F (([([([99,111,109,109,105,116]:Ai),c.fEvent,c.fTenant,Lib.itoa c.fAttempt,Lib.itoa c.fAt,ha]:List Ai)]:List (List Ai)),0)) (BO λν=>EZ F ν))
def DV (F:Nat)(id:Ai):Option (Ai×Int):=
 Bw (!(K3 id)) (some (([]:Ai),4)) (Bq (Pr F ([([([97,99,107]:Ai),id]:List Ai)]:List (List Ai))) λr6=>some (r6.1,r6.2))
def Ex (ha:Int)(hb:Ai)(hd:Ai)(he:Int)(hf:(List Ab))(hg:(List Ap))(hh:Int):Option (Stp (Int×Ai×Ai×Int×(List Ab)×(List Ap)×Int) (Out (AC×Bool) (Ai×Ai×Int×(List Ab)×(List Ap)×Int))):=
 Bd (Cb .i64 (ha+1))<|some (.next (ha+1,hb,hd,he,hf,hg,hh))
def Ey (F:Nat)(l:(List (List Ai)))(ha:Int)(hd:Ai)(he:Ai)(hf:Int)(hg:(List Ab))(hb:(List Ap))(hh:Int):Option (Stp (Int×Ai×Ai×Int×(List Ab)×(List Ap)×Int) (Out (AC×Bool) (Ai×Ai×Int×(List Ab)×(List Ap)×Int))):=
 Bw (decide (ha<(l.length:Int))) (Bd (CY ha (l.length:Int))<|Bw (((decide (ha=0))&&(decide (((Aq l ha).length:Int)=6)))) (Bd (CY 1 ((Aq l ha).length:Int))<|Bd (CY 2 ((Aq l ha).length:Int))<|Bd (CY 3 ((Aq l ha).length:Int))<|Bd (Dz 1 (Aq (Aq l ha) 3).length)<|Bd (CY 4 ((Aq l ha).length:Int))<|Bd (Dz 1 (Aq (Aq l ha) 4).length)<|Bd (CY 5 ((Aq l ha).length:Int))<|Bq (Jv F (Aq (Aq l ha) 5)) λhi=>Bw (((!decide ((BH (Aq (Aq l ha) 3))=0))||((!decide ((BH (Aq (Aq l ha) 4))=0))||(!decide (hi.2=0))))) (some (.out (.ret ((AC.mk (Aq (Aq l ha) 1) (Aq (Aq l ha) 2) (Bu (Aq (Aq l ha) 3)) hi.1 hb (Bu (Aq (Aq l ha) 4))),false)))) (Ex ha (Aq (Aq l ha) 1) (Aq (Aq l ha) 2) (Bu (Aq (Aq l ha) 3)) hi.1 hb (Bu (Aq (Aq l ha) 4)))) (Bw (((decide (0<ha))&&(decide (((Aq l ha).length:Int)=4)))) (Bd (CY 0 ((Aq l ha).length:Int))<|Bd (Dz 1 (Aq (Aq l ha) 0).length)<|Bw (!decide ((BH (Aq (Aq l ha) 0))=0)) (some (.out (.ret ((AC.mk hd he hf hg hb hh),false)))) (Bd (CY 1 ((Aq l ha).length:Int))<|Bd (CY 2 ((Aq l ha).length:Int))<|Bd (Dz 1 (Aq (Aq l ha) 2).length)<|Bw (!decide ((BH (Aq (Aq l ha) 2))=0)) (some (.out (.ret ((AC.mk hd he hf hg hb hh),false)))) (Bd (CY 3 ((Aq l ha).length:Int))<|Bw (!decide ((Aq (Aq l ha) 3)=([]:Ai))) (Bq (Jv F (Aq (Aq l ha) 3)) λhj=>Bw (!decide (hj.2=0)) (some (.out (.ret ((AC.mk hd he hf hg hb hh),false)))) (Bd (Dz 56 (hb.length+([(Ap.mk (Bu (Aq (Aq l ha) 0)) (Aq (Aq l ha) 1) hj.1 (Bu (Aq (Aq l ha) 2)))]:List Ap).length))<|Ex ha hd he hf hg (hb++([(Ap.mk (Bu (Aq (Aq l ha) 0)) (Aq (Aq l ha) 1) hj.1 (Bu (Aq (Aq l ha) 2)))]:List Ap)) hh)) (Bd (Dz 56 (hb.length+([(Ap.mk (Bu (Aq (Aq l ha) 0)) (Aq (Aq l ha) 1) ([]:List Ab) (Bu (Aq (Aq l ha) 2)))]:List Ap).length))<|Ex ha hd he hf hg (hb++([(Ap.mk (Bu (Aq (Aq l ha) 0)) (Aq (Aq l ha) 1) ([]:List Ab) (Bu (Aq (Aq l ha) 2)))]:List Ap)) hh)))) (some (.out (.ret ((AC.mk hd he hf hg hb hh),false)))))) (some (.out (.go (hd,he,hf,hg,hb,hh))))
def HZ (ha:Ai)(hb:Ai)(hd:Int)(he:(List Ab))(hf:(List Ap))(hg:Int):Option (AC×Bool):=
 some ((AC.mk ha hb hd he hf hg),true)
def M0 (F:Nat)(l:(List (List Ai))):Option (AC×Bool):=
 Bq (Ci (λσ=>Ey F l σ.1 σ.2.1 σ.2.2.1 σ.2.2.2.1 σ.2.2.2.2.1 σ.2.2.2.2.2.1 σ.2.2.2.2.2.2) F (0,([]:Ai),([]:Ai),0,([]:List Ab),([]:List Ap),0)) (BO λν=>HZ ν.1 ν.2.1 ν.2.2.1 ν.2.2.2.1 ν.2.2.2.2.1 ν.2.2.2.2.2)
end Go.Proofs.YtfobhhegpkinaaaGreatDoor
namespace Go.Proofs.YtfobhhegpkinaaaGreatDoor.Q
open Go Go.RowKit
set_option linter.unusedVariables false
section
variable {P : Program} {n : Nat} {c : Cx} {l : Fr} {H : List Ent} {d : Option Nat} {ty rty t e : TypeId} {pos : String} {af : Array Edge} {g : Option (Nat × Bool)} {x : Operand} {sz : Nat}
end
set_option linter.unusedSimpArgs false
theorem E8 (s:ByteArray):MapKept.IsKey .string (.string s):=by simp[MapKept.IsKey]
theorem L5.keys {Z:Fz}:∀{f:List (List UInt8×Rp)} {es:List MapEntry},L5 Z f es→∀x∈es,MapKept.IsKey .string x.key
 | [],[],_,x,hx=>by cases hx
 | p::f,e::es,⟨⟨h1,h2⟩,h3⟩,x,hx=>by
  rcases List.mem_cons.1 hx with rfl | hx
  ·rw[h1];exact E8 _
  ·exact L5.keys h3 x hx
theorem L5.at {Z:Fz}:∀{f:List (List UInt8×Rp)} {es:List MapEntry},L5 Z f es→f.length=es.length∧∀(j:Nat) (e:MapEntry),es[j]? =some e→∃k r,f[j]? =some (k,r)∧e.key = .string (B k)∧r.p Z e.val
 | [],[],_=>⟨rfl,λj e h=>by simp at h⟩
 | p::f,e::es,⟨⟨h1,h2⟩,h3⟩=>by
  obtain⟨hl,ha⟩:=L5.at h3;refine⟨by simp[hl],λj e' hj=>?_⟩
  cases j with
  | zero=>simp at hj;subst hj;exact⟨p.1,p.2,rfl,h1,h2⟩
  | succ j=>simp at hj;simpa using ha j e' hj
theorem L5.of {Z:Fz}:∀{f:List (List UInt8×Rp)} {es:List MapEntry},f.length=es.length→(∀(j:Nat) (e:MapEntry),es[j]? =some e→∃k r,f[j]? =some (k,r)∧e.key = .string (B k)∧r.p Z e.val)→L5 Z f es
 | [],[],_,_=>trivial
 | p::f,e::es,hl,h=>by
  obtain⟨k,r,h1,h2,h3⟩:=h 0 e rfl;simp at h1;subst h1;exact⟨⟨h2,h3⟩,L5.of (by simpa using hl) λj e' hj=>by simpa using h (j+1) e' (by simpa using hj)⟩
 | [],_::_,hl,_=>by simp at hl
 | _::_,[],hl,_=>by simp at hl
theorem L5.snoc {Z:Fz}{k:List UInt8}{r:Rp}{e:MapEntry}(h1:e.key = .string (B k))(h2:r.p Z e.val):∀{f:List (List UInt8×Rp)} {es:List MapEntry},L5 Z f es→L5 Z (f++[(k,r)]) (es++[e])
 | [],[],_=>⟨⟨h1,h2⟩,trivial⟩
 | p::f,e'::es,⟨h,h3⟩=>⟨h,L5.snoc h1 h2 h3⟩
theorem L5.filter {Z:Fz}(q:MapEntry→Bool):∀{f:List (List UInt8×Rp)} {es:List MapEntry},L5 Z f es→∃g,L5 Z g (es.filter q)∧g.Sublist f
 | [],[],_=>⟨[],trivial,List.Sublist.refl _⟩
 | p::f,e::es,⟨h,h3⟩=>by
  obtain⟨g,hg,hs⟩:=L5.filter q h3
  cases hq:q e with
  | true=>exact⟨p::g,by rw[List.filter_cons_of_pos hq];exact⟨h,hg⟩,hs.cons_cons p⟩
  | false=>exact⟨g,by rw[List.filter_cons_of_neg (by simp[hq])];exact hg,hs.cons p⟩
theorem TD {T:Type}:∀{m:List (Ai×T)} {k:Ai} {r:T},(m.map (·.1)).Nodup→(k,r)∈m→Cd m k=some r
 | p::m,k,r,hn,h=>by
  rw[Ag3,List.nodup_cons] at hn;rw[Cd];rcases List.mem_cons.1 h with h | h
  ·subst h;rw[AfI rfl];rfl
  ·have hne : ¬ p.1=k:=λe=>hn.1 (by rw[e];exact List.mem_map.2 ⟨(k,r),h,rfl⟩);rw[AfG hne];exact TD hn.2 h
theorem Rd {T:Type}:∀{m:List (Ai×T)} {k:Ai},(∀p∈m,p.1≠k)→Cd m k=none
 | [],_,_=>rfl
 | p::m,k,h=>by
  rw[Cd,AfG (h p (by simp))];exact Rd λq hq=>h q (by simp[hq])
theorem AeY {a b:List UInt8}(h:B a=B b):a=b:=by
 have:=congrArg ByteArray.toList h
 rwa [G8,G8] at this
theorem OX {a b:List UInt8}(h:Value.string (B a) = .string (B b)):a=b:=AeY (by cases h;rfl)
theorem S5 {Z:Fz}{m:List (List UInt8×Rp)}{es:List MapEntry}{ck:Nat}(h:EP Z m es ck)(k:List UInt8) :
  (Instr.findNow .string (.string (B k)) es 0=some none∧Cd m k=none∧∀p∈m,p.1≠k)∨∃j e r,Instr.findNow .string (.string (B k)) es 0=some (some (j,e.val))∧es[j]? =some e∧e.key = .string (B k)∧Cd m k=some r∧r.p Z e.val:=by
 obtain⟨h1,h2,h3,f,h4,h5⟩:=h;obtain⟨hl,ha⟩:=h5.at;rcases MapKept.findNow_spec (E8 (B k)) es 0 h5.keys with⟨q1,q2⟩ | ⟨j,e,q1,q2,q3⟩
 ·have hne:∀p∈m,p.1≠k:=λp hp e=>by
   obtain⟨j,hj⟩:=List.mem_iff_getElem?.1 (h4.symm.subset hp);have hjl:j<es.length:=by rw[← hl];exact(List.getElem?_eq_some_iff.1 hj).1
   obtain⟨k',r',e1,e2,_⟩:=ha j es[j] (AfN hjl);rw[hj] at e1;cases e1;exact q2 es[j] (List.getElem_mem hjl) (by rw[e2,← e])
  exact .inl ⟨q1,Rd hne,hne⟩
 ·obtain⟨k',r,e1,e2,e3⟩:=ha j e q2;rw[q3] at e2;obtain rfl:=OX e2;exact .inr ⟨j,e,r,by simpa using q1,q2,q3,TD h1 (h4.subset (AfU e1)),e3⟩
section
variable {P : Program} {n : Nat} {c : Cx} {ops : Array Oper} {Q : Exit → Act → World → Prop} {rest : List Oper} {l : Fr} {H : List Ent} {d : Nat} {d' : Option Nat} {ty t kt et rty : TypeId} {pos : String} {af : Array Edge} {g : Option (Nat × Bool)} {x y u : Operand} {K : Act → World → Prop} {cx : Code}
variable {T : Type} {enc : T → Rp} {xs : List (Ai × T)} {z : T} {k : Ai} {zv : Value} {i b : Nat}
theorem IG {Z:Fz}{w:World}{m:List (List UInt8×Rp)}{rz:Rp}(ht:P.underlying t=some (.map kt et))(hk:P.underlying kt=some .string)(hz:∀w,(zeroValue et).run P w = .ok zv w)(hzr:rz.p Z zv)(hm:(Ent.map b m).holds Z w)(ok:Bool) :
  ∃v,((Cd m k).getD rz).p Z v∧(Instr.lookup t (.map (some b)) (.string (B k)) ok).run P w = .ok (if ok then .tuple #[v,.bool (Cd m k).isSome] else v) w:=by
 obtain⟨es,ck,h1,h2⟩:=hm;rcases S5 h2 k with⟨q1,q2,_⟩ | ⟨j,e,r,q1,_,_,q2,q3⟩
 ·exact⟨zv,by rw[q2];exact hzr,by simp[Instr.lookup,run_underlying ht,MapKept.run_getObj_map h1,MapKept.run_checkKey hk (E8 _),MapKept.run_findKey hk q1,hz,q2]⟩
 ·exact⟨e.val,by rw[q2];exact q3,by simp[Instr.lookup,run_underlying ht,MapKept.run_getObj_map h1,MapKept.run_checkKey hk (E8 _),MapKept.run_findKey hk q1,q2]⟩
theorem PD (enc:T→Rp)(xs:List (Ai×T))(k:Ai)(z:T):(Cd (AL enc xs) k).getD (enc z)=enc (B2 xs k z):=by
 rw[M5];unfold B2;cases Cd xs k<;>rfl
theorem Vi (enc:T→Rp)(xs:List (Ai×T))(k:Ai):(Cd (AL enc xs) k).isSome=E6 xs k:=by
 rw[M5];unfold E6;cases Cd xs k<;>rfl
theorem Sj (ht:P.underlying t=some (.map kt et))(hk:P.underlying kt=some .string)(hz:∀w,(zeroValue et).run P w = .ok zv w)(hzr:∀Z,(enc z).p Z zv)(hx:ev l x=some (rv (.map (some b))))(hi:H[i]? =some (.map b (AL enc xs)))(hy:ev l y=some (rS k)) :
  Bv P n c l H { dst:=d',op:=.lookup t x y true,type:=ty,pos:=pos,after:=af,guard:=g } (CZ [enc (B2 xs k z),rB (E6 xs k)]):=λa w Z ha hw=>by
 obtain⟨v,h1,h2⟩:=IG (k:=k) ht hk hz (hzr Z) (hw.ent hi) true;rw[PD] at h1;refine⟨.tuple #[v,.bool (E6 xs k)],⟨[v,.bool (E6 xs k)],rfl,h1,rfl,trivial⟩,?_⟩;rw[Vi] at h2;simp[execOp,ha.eval hx,ha.eval hy,h2]
theorem Nf (ht:P.underlying t=some (.map kt et))(hk:P.underlying kt=some .string)(hz:∀w,(zeroValue et).run P w = .ok zv w)(hzr:∀Z,(enc z).p Z zv)(hx:ev l x=some (rv (.map (some b))))(hi:H[i]? =some (.map b (AL enc xs)))(hy:ev l y=some (rS k)) :
  Bv P n c l H { dst:=d',op:=.lookup t x y false,type:=ty,pos:=pos,after:=af,guard:=g } (enc (B2 xs k z)):=λa w Z ha hw=>by
 obtain⟨v,h1,h2⟩:=IG (k:=k) ht hk hz (hzr Z) (hw.ent hi) false;rw[PD] at h1;simp only[Agb,Ag5] at h2;exact⟨v,h1,by simp[execOp,ha.eval hx,ha.eval hy,h2]⟩
theorem EP.length {Z:Fz}{m:List (List UInt8×Rp)}{es:List MapEntry}{ck:Nat}(h:EP Z m es ck):es.length=m.length:=by
 obtain⟨_,_,_,f,h4,h5⟩:=h;rw[← h5.at.1,h4.length_eq]
theorem ZM {m:List (List UInt8×Rp)}{N:Nat}(ht:P.underlying t=some (.map kt et))(hx:ev l x=some (rv (.map (some b))))(hi:H[i]? =some (.map b m))(hN:m.length=N) :
  Bv P n c l H { dst:=d',op:=.call { callee:=.builtin .len,args:=#[x],argTypes:=#[t] },type:=ty,pos:=pos,after:=af,guard:=g } (rI .i64 N):=λa w Z ha hw=>Dg<|by
 obtain⟨es,ck,h1,h2⟩:=hw.ent hi;have hl:es.size=N:=by rw[← hN,← h2.length];simp
 simp[execOp,resolve,invoke,builtin,ha.eval hx,Builtin.len_,run_underlying ht,goInt,MapKept.run_getObj_map h1,hl]
theorem KM (hn:Nat.blt d n=true)(h:∀b,WL P n c ops Q rest ((d,rv (.map (some b)))::l) (.map b []::H)) :
  WL P n c ops Q ({ dst:=some d,op:=.makeMap t none,type:=ty,pos:=pos,after:=af,guard:=none }::rest) l H:=
 Ke (λa w Z ha hw=>⟨_,w.alloc (.map #[] 0),_,_,Z,by simp[execOp,run_makeMap],Fz.le.refl _,rfl,
  hw.alloc _ (e:=.map w.heap.size []) ⟨#[],0,by simpa using heap_alloc_new w _,by simp,by simp,by simp,[],AfX _,trivial⟩ rfl,h w.heap.size⟩) hn
theorem Z1 {m f:List (Ai×Rp)}(h:f.Perm m)(k:Ai)(r:Rp):(mput f k r).Perm (mput m k r):=h.map _
theorem Wf {T:Type}:∀{f:List (Ai×T)} {j:Nat} {k:Ai} {r0:T} (r:T),(f.map (·.1)).Nodup→f[j]? =some (k,r0)→mput f k r=f.set j (k,r)
 | p::f,0,k,r0,r,hn,h=>by
  simp at h;subst h;rw[Ag3,List.nodup_cons] at hn;have:mput f k r=f:=by
   unfold mput;rw[List.map_congr_left (g:=id) (λq hq=>?_),List.map_id];have hne : ¬ q.1=k:=λe=>hn.1 (by rw[← e];exact List.mem_map.2 ⟨q,hq,rfl⟩);rw[AfG hne];rfl
  show(bif decide (k=k) then(k,r) else(k,r0))::mput f k r=_;rw[AfI rfl,this];rfl
 | p::f,j+1,k,r0,r,hn,h=>by
  rw[Ag3,List.nodup_cons] at hn;simp at h;have hne : ¬ p.1=k:=λe=>hn.1 (by rw[e];exact List.mem_map.2 ⟨(k,r0),AfU h,rfl⟩);show(bif decide (p.1=k) then(k,r) else p)::mput f k r=_;rw[AfG hne,Wf r hn.2 h];rfl
theorem Wg {T:Type}:∀{f:List (Ai×T)} {j:Nat} {k:Ai} {r0:T},(f.map (·.1)).Nodup→f[j]? =some (k,r0)→mdel f k=f.eraseIdx j
 | p::f,0,k,r0,hn,h=>by
  simp at h;subst h;rw[Ag3,List.nodup_cons] at hn;have:f.filter (λq=>!decide (q.1=k))=f:=List.filter_eq_self.2 λq hq=>by
   have hne : ¬ q.1=k:=λe=>hn.1 (by rw[← e];exact List.mem_map.2 ⟨q,hq,rfl⟩);simp[hne]
  unfold mdel;rw[List.filter_cons_of_neg (by simp),this];rfl
 | p::f,j+1,k,r0,hn,h=>by
  rw[Ag3,List.nodup_cons] at hn;simp at h;have hne : ¬ p.1=k:=λe=>hn.1 (by rw[e];exact List.mem_map.2 ⟨(k,r0),AfU h,rfl⟩);unfold mdel;rw[List.filter_cons_of_pos (by simp[hne])];show p::mdel f k=_;rw[Wg hn.2 h];rfl
theorem X7 {T:Type}(m:List (Ai×T))(k:Ai)(r:T):(mput m k r).map (·.1)=m.map (·.1):=by
 unfold mput;rw[AgD];refine List.map_congr_left λp _=>?_;simp only[Function.comp]
 by_cases h:p.1=k
 ·rw[AfI h];exact h.symm
 ·rw[AfG h];rfl
theorem X9 {T:Type}{m:List (Ai×T)}{k:Ai}{r:T}(h:Cd m k=some r):E6 m k=true:=by unfold E6;rw[h];rfl
theorem XA {T:Type}{m:List (Ai×T)}{k:Ai}(h:Cd m k=none):E6 m k=false:=by unfold E6;rw[h];rfl
theorem EP.put {Z:Fz}{m:List (Ai×Rp)}{es:List MapEntry}{ck j:Nat}{e:MapEntry}{k:Ai}{r0 r:Rp}{v:Value}(h:EP Z m es ck)(he:es[j]? =some e)(hk:e.key = .string (B k))(hm:Cd m k=some r0)(hr:r.p Z v) :
  EP Z (mset m k r) (es.set j { e with key:=.string (B k),val:=v }) ck:=by
 obtain⟨h1,h2,h3,f,h4,h5⟩:=h;obtain⟨hl,ha⟩:=h5.at;have hjl:=(List.getElem?_eq_some_iff.1 he).1;unfold mset;rw[X9 hm,AfL];obtain⟨k',r',e1,e2,_⟩:=ha j e he;rw[hk] at e2;obtain rfl:=OX e2;have hfn:(f.map (·.1)).Nodup:=(h4.map (·.1)).nodup_iff.2 h1;refine⟨by rw[X7];exact h1,?_,?_,f.set j (k,r),?_,L5.of (by simp[hl]) λi x hx=>?_⟩
 ·rw[List.map_set];have:(es.map (·.born)).set j e.born=es.map (·.born):=by
   apply List.ext_getElem?;intro i;rw[List.getElem?_set]
   split
   ·rename_i hij;subst hij
    simp[hjl,List.getElem?_eq_some_iff.1 he |>.2]
   ·rfl
  show((es.map (·.born)).set j e.born).Nodup;rw[this];exact h2
 ·intro x hx;rcases List.mem_or_eq_of_mem_set hx with hx | rfl
  ·exact h3 x hx
  ·exact h3 e (AfU he)
 ·have:=Z1 h4 k r
  rwa [Wf r hfn e1] at this
 ·rw[List.getElem?_set] at hx ⊢
  split at hx
  ·rename_i hij;subst hij
   cases hx
   exact⟨k,r,by rw[Ag9 rfl,Ag9 (by rw[hl];exact hjl)],rfl,hr⟩
  ·rename_i hij
   rw[Agt hij];exact ha i x hx
theorem EP.ins {Z:Fz}{m:List (Ai×Rp)}{es:List MapEntry}{ck:Nat}{k:Ai}{r:Rp}{v:Value}(h:EP Z m es ck)(hm:Cd m k=none)(hk:∀p∈m,p.1≠k)(hr:r.p Z v) :
  EP Z (mset m k r) (es++[{ key:=.string (B k),val:=v,born:=ck }]) (ck+1):=by
 obtain⟨h1,h2,h3,f,h4,h5⟩:=h;unfold mset;rw[XA hm,AfH];have hp:=Nl k r m;refine⟨?_,?_,?_,f++[(k,r)],?_,L5.snoc rfl hr h5⟩
 ·rw[(hp.map (·.1)).nodup_iff,Ag3,List.nodup_cons];exact⟨λhx=>by obtain⟨p,hp,e⟩:=List.mem_map.1 hx;exact hk p hp e,h1⟩
 ·rw[Ag8,List.nodup_append];refine⟨h2,by simp,λa ha b hb e=>?_⟩;simp at hb;subst hb;obtain⟨x,hx,e'⟩:=List.mem_map.1 ha;have:=h3 x hx;omega
 ·intro x hx;rcases List.mem_append.1 hx with hx | hx
  ·have:=h3 x hx;omega
  ·simp at hx;subst hx;exact AfV _
 ·exact(List.perm_append_comm (l₁:=f) (l₂:=[(k,r)])).trans ((h4.cons (k,r)).trans hp.symm)
theorem EP.del {Z:Fz}{m:List (Ai×Rp)}{es:List MapEntry}{ck j:Nat}{e:MapEntry}{k:Ai}(h:EP Z m es ck)(he:es[j]? =some e)(hk:e.key = .string (B k)):EP Z (mdel m k) (es.eraseIdx j) ck:=by
 obtain⟨h1,h2,h3,f,h4,h5⟩:=h;obtain⟨hl,ha⟩:=h5.at;obtain⟨k',r',e1,e2,_⟩:=ha j e he;rw[hk] at e2;obtain rfl:=OX e2;have hfn:(f.map (·.1)).Nodup:=(h4.map (·.1)).nodup_iff.2 h1;have hs:=List.eraseIdx_sublist es j;refine⟨h1.sublist ((List.filter_sublist ..).map _),h2.sublist (hs.map _),λx hx=>h3 x (hs.subset hx),f.eraseIdx j,?_,L5.of (by rw[List.length_eraseIdx,List.length_eraseIdx,hl]) λi x hx=>?_⟩
 ·rw[← Wg hfn e1];exact h4.filter _
 ·rw[List.getElem?_eraseIdx] at hx ⊢
  split at hx
  ·rename_i hij;rw[Ag9 hij];exact ha i x hx
  ·rename_i hij;rw[Agt hij];exact ha (i+1) x hx
theorem XH {m:List (Ai×Rp)}{k:Ai}(hk:∀p∈m,p.1≠k):mdel m k=m:=List.filter_eq_self.2 λp hp=>by simp[hk p hp]
theorem St.mapset {Z:Fz}{w:World}(h:St c H Z w){m m':List (Ai×Rp)}(hi:H[i]? =some (.map b m)){es es':Array MapEntry}{ck ck':Nat}(h1:w.heap[b]? =some (.map es ck))(h2:EP Z m' es'.toList ck') :
  St c (H.set i (.map b m')) Z { w with heap:=w.heap.setIfInBounds b (.map es' ck') }:=by
 obtain⟨q1,q2⟩:=MapKept.heap_set (o':=.map es' ck') h1;exact h.set hi rfl rfl rfl (by simp) (λk _ hk=>q2 k (by simpa[Ent.foot] using hk)) ⟨es',ck',q1,h2⟩ (by simp[Ent.foot])
theorem RS (s:ByteArray):Instr.sameBits 10000 (.string s) (.string s)=true:=by
 show(s ==s)=true;exact(MapKept.bytes_beq s s).2 rfl |> λh=>by simpa using h
theorem Adg {r:Rp}{m:List (Ai×Rp)}(ht:P.underlying t=some (.map kt et))(hk:P.underlying kt=some .string)(hx:ev l x=some (rv (.map (some b))))(hi:H[i]? =some (.map b m))(hy:ev l y=some (rS k))(hu:ev l u=some r){H':List Ent}(hH:H.set i (.map b (mset m k r))=H')(h:WL P n c ops Q rest l H') :
  WL P n c ops Q ({ dst:=none,op:=.mapUpdate t x y u,type:=ty,pos:=pos,after:=af,guard:=none }::rest) l H:=
 ST λa w Z ha hw=>by
  obtain⟨es,ck,h1,h2⟩:=hw.ent hi;have hv:=ha.ev hu;subst hH;rcases S5 h2 k with⟨q1,q2,q3⟩ | ⟨j,e,r0,q1,q2,q3,q4,_⟩
  ·refine⟨_,_,?_,hw.mapset hi h1 (es':=es.push { key:=.string (B k),val:=a.eval u,born:=ck }) (by simpa using h2.ins q2 q3 hv),h⟩;simp[execOp,ha.eval hx,ha.eval hy,Instr.mapUpdate,run_underlying ht,MapKept.run_getObj_map h1,MapKept.run_checkKey hk (E8 _),MapKept.run_findKey hk q1,MapKept.run_setObj_map _ h1]
  ·have hje:es[j]? =some e:=by simpa using q2
   refine⟨_,_,?_,hw.mapset hi h1 (es':=es.modify j λe=>{ e with key:=.string (B k),val:=a.eval u }) (ck':=ck) (by
    have:=h2.put q2 q3 q4 hv;have e1:(es.modify j λe=>{ e with key:=.string (B k),val:=a.eval u }).toList=es.toList.set j { e with key:=.string (B k),val:=a.eval u }:=by
     rw[Array.toList_modify];rw[List.modify_eq_set,q2];rfl
    rw[e1];exact this),h⟩
   have hkey:((es[j]?).map (·.key)).getD (.string (B k)) = .string (B k):=by rw[hje];exact q3
   simp[execOp,ha.eval hx,ha.eval hy,Instr.mapUpdate,run_underlying ht,MapKept.run_getObj_map h1,MapKept.run_checkKey hk (E8 _),MapKept.run_findKey hk q1,MapKept.run_setObj_map _ h1,hkey,Instr.keyThatStays,RS]
theorem AcN {op:Op}{ty:TypeId}{pos:String}{af:Array Edge}
  (hr:∀a w Z,Dy n l a Z→St c H Z w→∃v w' H',(execOp a.eval { dst:=none,op:=op,type:=ty,pos:=pos,after:=af,guard:=none }).run P w = .ok (.value v) w'∧St c H' Z w'∧WL P n c ops Q rest l H') :
  WL P n c ops Q ({ dst:=none,op:=op,type:=ty,pos:=pos,after:=af,guard:=none }::rest) l H:=λa w Z ha hw=>
 wpList_plain rfl λK hK=>by
  obtain⟨v,w',H',h1,h2,h3⟩:=hr a w Z ha hw;unfold Oper.wp;rw[h1];exact hK _ _ (h3 _ w' Z (ha.put_none _) h2)
theorem Adh {m:List (Ai×Rp)}(ht:P.underlying t=some (.map kt et))(hk:P.underlying kt=some .string){kt':TypeId}(hx:ev l x=some (rv (.map (some b))))(hi:H[i]? =some (.map b m))(hy:ev l y=some (rS k)){H':List Ent}(hH:H.set i (.map b (mdel m k))=H')(h:WL P n c ops Q rest l H') :
  WL P n c ops Q ({ dst:=none,op:=.call { callee:=.builtin .delete,args:=#[x,y],argTypes:=#[t,kt'] },type:=ty,pos:=pos,after:=af,guard:=none }::rest) l H:=
 AcN (λa w Z ha hw=>by
  obtain⟨es,ck,h1,h2⟩:=hw.ent hi;subst hH;rcases S5 h2 k with⟨q1,q2,q3⟩ | ⟨j,e,r0,q1,q2,q3,q4,_⟩
  ·refine⟨.tuple #[],_,_,?_,hw.mapset hi h1 (es':=es) (ck':=ck) (by rw[XH q3];exact h2),h⟩;simp[execOp,resolve,invoke,builtin,ha.eval hx,ha.eval hy,Builtin.delete_,run_underlying ht,MapKept.run_getObj_map h1,MapKept.run_checkKey hk (E8 _),MapKept.run_findKey hk q1,MapKept.run_setObj_map _ h1]
  ·refine⟨.tuple #[],_,_,?_,hw.mapset hi h1 (es':=es.eraseIdxIfInBounds j) (ck':=ck) (by
    have e1:(es.eraseIdxIfInBounds j).toList=es.toList.eraseIdx j:=by simp
    rw[e1];exact h2.del q2 q3),h⟩
   simp[execOp,resolve,invoke,builtin,ha.eval hx,ha.eval hy,Builtin.delete_,run_underlying ht,MapKept.run_getObj_map h1,MapKept.run_checkKey hk (E8 _),MapKept.run_findKey hk q1,MapKept.run_setObj_map _ h1])
theorem Iz {v:T}(ht:P.underlying t=some (.map kt et))(hk:P.underlying kt=some .string)(hx:ev l x=some (rv (.map (some b))))(hi:H[i]? =some (.map b (AL enc xs)))(hy:ev l y=some (rS k))(hu:ev l u=some (enc v)){H':List Ent}(hH:H.set i (.map b (AL enc (mset xs k v)))=H')(h:WL P n c ops Q rest l H') :
  WL P n c ops Q ({ dst:=none,op:=.mapUpdate t x y u,type:=ty,pos:=pos,after:=af,guard:=none }::rest) l H:=Adg ht hk hx hi hy hu (by rw[← Aad];exact hH) h
theorem VD (ht:P.underlying t=some (.map kt et))(hk:P.underlying kt=some .string){kt':TypeId}(hx:ev l x=some (rv (.map (some b))))(hi:H[i]? =some (.map b (AL enc xs)))(hy:ev l y=some (rS k)){H':List Ent}(hH:H.set i (.map b (AL enc (mdel xs k)))=H')(h:WL P n c ops Q rest l H') :
  WL P n c ops Q ({ dst:=none,op:=.call { callee:=.builtin .delete,args:=#[x,y],argTypes:=#[t,kt'] },type:=ty,pos:=pos,after:=af,guard:=none }::rest) l H:=Adh ht hk hx hi hy (by rw[← Aai];exact hH) h
end
theorem MD {q:MapEntry→Bool}:∀{l:List MapEntry} {j:Nat} {e:MapEntry},(l.map (·.born)).Nodup→l[j]? =some e→l.filter (λx=>!(x.born ==e.born))=l.eraseIdx j
 | x::l,0,e,hn,h=>by
  simp at h;subst h;rw[Ag3,List.nodup_cons] at hn;rw[List.filter_cons_of_neg (by simp),List.filter_eq_self.2 λy hy=>?_];rfl;have:y.born≠x.born:=λe=>hn.1 (by rw[← e];exact List.mem_map.2 ⟨y,hy,rfl⟩);simp[this]
 | x::l,j+1,e,hn,h=>by
  rw[Ag3,List.nodup_cons] at hn;simp at h;have hne:x.born≠e.born:=λe'=>hn.1 (by rw[e'];exact List.mem_map.2 ⟨e,AfU h,rfl⟩);rw[List.filter_cons_of_pos (by simp[hne]),MD (q:=q) hn.2 h];rfl
theorem L5.erase {Z:Fz}:∀{f:List (List UInt8×Rp)} {es:List MapEntry} (j:Nat),L5 Z f es→L5 Z (f.eraseIdx j) (es.eraseIdx j)
 | [],[],j,_=>by simp[L5]
 | p::f,e::es,0,⟨_,h⟩=>h
 | p::f,e::es,j+1,⟨h,h3⟩=>⟨h,L5.erase j h3⟩
theorem VV {α:Type}:∀{l:List α} {j:Nat} {a:α},l[j]? =some a→l.Perm (a::l.eraseIdx j)
 | x::l,0,a,h=>by simp at h;subst h;exact AfX _
 | x::l,j+1,a,h=>by
  simp at h;exact((VV h).cons x).trans (List.Perm.swap a x _)
theorem Z2 {T:Type}{enc:T→Rp}{ys:List (Ai×T)}{f:List (Ai×Rp)}{j:Nat}{k:Ai}{r:Rp}(h:f.Perm (AL enc ys))(hj:f[j]? =some (k,r)):∃ (p:Ai×T) (ys':List (Ai×T)),ys.Perm (p::ys')∧p.1=k∧enc p.2=r∧(f.eraseIdx j).Perm (AL enc ys'):=by
 have hm:(k,r)∈AL enc ys:=h.subset (AfU hj);obtain⟨p,hp,e⟩:=List.mem_map.1 hm;simp only[Prod.mk.injEq] at e;obtain⟨a,b,rfl⟩:=List.append_of_mem hp;refine⟨p,a++b,List.perm_middle,e.1,e.2,?_⟩;have h1:f.Perm ((k,r)::f.eraseIdx j):=by
  exact VV hj
 have h2:(AL enc (a++p::b)).Perm ((k,r)::AL enc (a++b)):=by
  have:(AL enc (a++p::b)).Perm (AL enc (p::(a++b))):=List.perm_middle.map _;refine this.trans ?_;show((p.1,enc p.2)::AL enc (a++b)).Perm _;rw[e.1,e.2]
 exact((h1.symm.trans h).trans h2).cons_inv
section
variable {P : Program} {n : Nat} {c : Cx} {ops : Array Oper} {Q : Exit → Act → World → Prop} {rest : List Oper} {l : Fr} {H : List Ent} {d : Nat} {ty t kt et rty : TypeId} {pos : String} {af : Array Edge} {x y u : Operand} {K : Act → World → Prop} {cx : Code}
variable {T : Type} {enc : T → Rp} {xs ys : List (Ai × T)} {i b it : Nat} {m lf : List (List UInt8 × Rp)} {cur : Option (List UInt8 × Rp)} {k : Ai} {r : Rp}
end
theorem Bj.d1 {Z:Fz}{r0:Rp}{us:List Value}(h:Bj Z [r0] us):∃y0,us=[y0]∧Bj Z [r0] [y0]:=by
 match us,h.length with
 | [y0],_=>exact⟨_,rfl,h⟩
theorem Bj.d2 {Z:Fz}{r0 r1:Rp}{us:List Value}(h:Bj Z [r0,r1] us):∃y0 y1,us=[y0,y1]∧Bj Z [r0,r1] [y0,y1]:=by
 match us,h.length with
 | [y0,y1],_=>exact⟨_,_,rfl,h⟩
theorem Bj.d3 {Z:Fz}{r0 r1 r2:Rp}{us:List Value}(h:Bj Z [r0,r1,r2] us):∃y0 y1 y2,us=[y0,y1,y2]∧Bj Z [r0,r1,r2] [y0,y1,y2]:=by
 match us,h.length with
 | [y0,y1,y2],_=>exact⟨_,_,_,rfl,h⟩
theorem Bj.d4 {Z:Fz}{r0 r1 r2 r3:Rp}{us:List Value}(h:Bj Z [r0,r1,r2,r3] us):∃y0 y1 y2 y3,us=[y0,y1,y2,y3]∧Bj Z [r0,r1,r2,r3] [y0,y1,y2,y3]:=by
 match us,h.length with
 | [y0,y1,y2,y3],_=>exact⟨_,_,_,_,rfl,h⟩
theorem TX {α:Type}{sz:Nat}:∀{xs:List (List α)} (hs:∀c∈xs,c.length=sz) {k:Nat} {cl:List α},xs[k]? =some cl→∀(off m:Nat),off+m≤sz→((xs.flatten).drop (k*sz+off)).take m=(cl.drop off).take m
 | [],_,k,cl,h,_,_,_=>by simp at h
 | x::r,hs,0,cl,h,off,m,hm=>by
  simp at h;subst h;have hx:=hs x (by simp);simp only[List.flatten_cons,Nat.zero_mul,Agx];rw[List.drop_append_of_le_length (by omega),List.take_append_of_le_length (by simp;omega)]
 | x::r,hs,k+1,cl,h,off,m,hm=>by
  have hx:=hs x (by simp);simp only[List.flatten_cons];have e:(k+1)*sz+off=x.length+(k*sz+off):=by rw[hx,Nat.succ_mul];omega
  rw[e,List.drop_length_add_append];exact TX (λc hc=>hs c (by simp[hc])) (by simpa using h) off m hm
section
variable {P : Program} {n : Nat} {c : Cx} {ops : Array Oper} {Q : Exit → Act → World → Prop} {rest : List Oper} {l : Fr} {H H' : List Ent} {d : Nat} {d' : Option Nat} {ty t e rty : TypeId} {pos : String} {af : Array Edge} {g : Option (Nat × Bool)} {x y u : Operand} {v : Value} {sz m : Nat}
theorem KU {α:Type}[Inhabited α]{ys:List α}{enc:α→List Rp}{i off:Nat}{j:Int}{rs:List Rp}(hag:∀w,(isAgg t).run P w = .ok true w)(hsz:∀w,(sizeOf t).run P w = .ok m w)(hx:ev l x=some (rv (Gd sz v j.toNat off)))(hi:H[i]? =some (.row v e sz (ys.map enc)))(hg:CY j (ys.length:Int)=true)
  (hle:Nat.ble (off+m) sz=true) (hr:((enc (Aq ys j)).drop off).take m=rs) :
  Bv P n c l H { dst:=d',op:=.load t x,type:=ty,pos:=pos,after:=af,guard:=g } (BL rs):=λa w Z ha hw=>by
 obtain⟨hs,us,⟨h1,h2⟩,h3⟩:=hw.ent hi;have h0:=(De hg).1;have hlt:j.toNat<ys.length:=by have:=(De hg).2;omega
 have eat:Aq ys j=ys[j.toNat]:=by simp[Aq,hlt]
 have hle':off+m≤sz:=by simpa using hle
 have hcl:(ys.map enc)[j.toNat]? =some (enc ys[j.toNat]):=by simp[hlt]
 have hcz:(enc ys[j.toNat]).length=sz:=hs _ (AfU hcl);have hseg:=TX hs hcl off m hle';rw[← eat,hr] at hseg;have h4:=(h3.drop (j.toNat*sz+off)).take m;rw[hseg] at h4;have hrl:rs.length=m:=by rw[← hr,eat];simp;omega
 rcases h2 with⟨rfl,hz⟩ | ⟨b,cap,cur,rfl,_,hg',hcap,hm,hcs,htk⟩
 ·simp at hz;subst hz;simp at hlt
 ·have h5:=run_loadCells_list (P:=P) w ⟨b,j.toNat*sz+off,none⟩ ((us.drop (j.toNat*sz+off)).take m) (λq w' hq=>by
   rw[Iv,cell_of_row w b _ cur e (0,0) hg'];rw[Ag1] at hq
   split at hq
   ·rw[List.getElem?_drop,← htk,Ag1] at hq
    split at hq
    ·simpa using hq
    ·cases hq
   ·cases hq)
  rw[h4.length,hrl] at h5;exact⟨.agg ((us.drop (j.toNat*sz+off)).take m).toArray,⟨_,rfl,h4⟩,by simp[execOp,ha.eval hx,Gd,Instr.loadAt,Instr.sureAddr,loadVar,hag,hsz,h5]⟩
def IV (sz:Nat)(v:Value)(j:Nat):Value:=match v with
 | .slice A len cap=>.slice (if cap=j then A else A.map (·.add (j*sz))) (len-j) (cap-j)
 | v=>v
theorem Adv {α:Type}{ys:List α}{enc:α→List Rp}{i:Nat}{k:IntKind}{j:Int}(ht:P.underlying t=some (.slice e))(hz:∀w,(sizeOf e).run P w = .ok sz w)(hx:ev l x=some (rv v))(hy:ev l y=some (rI k j))(hi:H[i]? =some (.row v e sz (ys.map enc)))(hg:Gs j (ys.length:Int)=true) :
  Bv P n c l H { dst:=d',op:=.slice t x (some y) none none,type:=ty,pos:=pos,after:=af,guard:=g } (rv (IV sz v j.toNat)):=λa w Z ha hw=>Dg<|by
 obtain⟨h0,us,⟨h1,h2⟩,h3⟩:=hw.ent hi;have g0:=(BM hg).1;have g1:=(BM hg).2;rcases h2 with⟨rfl,hz0⟩ | ⟨b,cap,cur,rfl,_,hb,hcap,hm,hcs,htk⟩
 ·simp at hz0;subst hz0;obtain rfl:j=0:=by simp at g1;omega
  simp[execOp,ha.eval hx,ha.eval hy,Instr.sliceAt,Instr.slice,run_underlying ht,Instr.sliceBounds,Bg (m:=0) _ _ (Agp 0) (Agp 0),hz,IV]
 ·simp only[AfP] at h1 hcap htk;simp[execOp,ha.eval hx,ha.eval hy,Instr.sliceAt,Instr.slice,run_underlying ht,Instr.sliceBounds,Bg (m:=ys.length) _ _ g0 g1,hz,IV]
theorem Qd (zc:List Value)(hz:0<zc.length):∀k,(Builtin.zeroCells zc.toArray k).toList=(List.replicate k zc).flatten:=by
 intro k;have hl:((List.replicate k zc).flatten).length=k*zc.length:=by simp
 apply List.ext_getElem
 ·simp[Builtin.zeroCells]
 ·intro i h1 h2;have hi:i<k*zc.length:=by rw[← hl];exact h2
  have hm:i % zc.length<zc.length:=Nat.mod_lt _ hz;have hq:i/zc.length<k:=by rw[Nat.div_lt_iff_lt_mul hz];exact hi
  have e1:(Builtin.zeroCells zc.toArray k).toList[i]=zc[i % zc.length]:=by
   simp[Builtin.zeroCells,hm]
  have e2:=K4 (sz:=zc.length) (vs:=List.replicate k zc) (λc hc=>by rw[List.eq_of_mem_replicate hc]) (i:=i/zc.length) (c:=zc) (by simp[hq]) (j:=i % zc.length) (u:=zc[i % zc.length]) (by simp[hm]);have e3:i/zc.length*zc.length+i % zc.length=i:=Nat.div_add_mod' i zc.length;rw[e3] at e2;rw[e1];exact(Option.some.inj ((AfN h2).symm.trans e2)).symm
theorem RN {α:Type}{ys:List α}{enc:α→List Rp}{i:Nat}{j:Int}{z0:α}{zz:Value}{zc:List Value}(ht:P.underlying t=some (.slice e))(hzv:∀w,(zeroValue e).run P w = .ok zz w)(hzz:zz.cells.toList=zc)(hzl:zc.length=sz)(hsz:Nat.blt 0 sz=true)(hone:∀v∈zc,v.oneCell'=true)(hzr:∀Z,Bj Z (enc z0) zc)(hel:(enc z0).length=sz)
  (hx:ev l x=some (rv (IV sz v j.toNat))) (hi:H[i]? =some (.row v e sz (ys.map enc))) (hg:Gs j (ys.length:Int)=true) (hH:H.set i (.row v e sz ((ys.take j.toNat++List.replicate (ys.length-j.toNat) z0).map enc))=H') (h:WL P n c ops Q rest l H') :
  WL P n c ops Q ({ dst:=none,op:=.call { callee:=.builtin .clear,args:=#[x],argTypes:=#[t] },type:=ty,pos:=pos,after:=af,guard:=none }::rest) l H:=
 AcN (λa w Z ha hw=>by
  obtain⟨h0,us,⟨h1,h2⟩,h3⟩:=hw.ent hi;have g0:=(BM hg).1;have g1:=(BM hg).2;subst hH;have hz0:0<sz:=by simpa using hsz
  have hcells:zz.cells=zc.toArray:=by rw[← hzz]
  rcases h2 with⟨rfl,hz1⟩ | ⟨b,cap,cur,rfl,_,hb,hcap,hm,hcs,htk⟩
  ·simp at hz1;subst hz1;refine⟨.tuple #[],w,_,?_,hw.set (e':=.row (.slice none 0 0) e sz ((([]:List α).take j.toNat++List.replicate (([]:List α).length-j.toNat) z0).map enc)) hi rfl rfl rfl (AfZ _) (λ_ _ _=>rfl) ⟨by simp,[],⟨by simp,.inl ⟨rfl,by simp⟩⟩,by simp[Bj]⟩ (by simp[Ent.foot,Value.ownBlock]),h⟩
   ·have e0:IV sz (.slice none 0 0) j.toNat = .slice none 0 0:=by simp[IV]
    simp[execOp,resolve,invoke,builtin,ha.eval hx,e0,Builtin.clear_,run_underlying ht]
  ·simp only[AfP] at h1 hcap htk;have hjl:j.toNat≤ys.length:=by omega
   by_cases hjn:ys.length=j.toNat
   ·refine⟨.tuple #[],w,_,?_,?_,h⟩
    ·have hn0:ys.length-j.toNat=0:=by omega
     simp only[execOp,resolve,invoke,builtin,ha.eval hx,IV,hn0]
     by_cases hc:cap=j.toNat
     ·simp[ha.eval hx,IV,hn0,hc,Builtin.clear_,run_underlying ht]
     ·simp[ha.eval hx,IV,hn0,hc,Builtin.clear_,run_underlying ht]
    ·have e0:ys.take j.toNat++List.replicate (ys.length-j.toNat) z0=ys:=by rw[← hjn];simp
     rw[e0];have:H.set i (.row (.slice (some ⟨b,0,none⟩) (ys.map enc).length cap) e sz (ys.map enc))=H:=by
      obtain⟨hl,he⟩:=List.getElem?_eq_some_iff.1 hi;rw[← he,List.set_getElem_self]
     rw[this];exact hw
   ·have hc : ¬ cap=j.toNat:=by omega
    obtain⟨q,hq⟩:∃q,ys.length-j.toNat=q+1:=⟨ys.length-j.toNat-1,by omega⟩
    have hin:j.toNat*sz+(q+1)*sz=ys.length*sz:=by rw[← Nat.add_mul];congr 1;omega
    have hlen:((List.replicate (q+1) zc).flatten).length=(q+1)*sz:=by simp[hzl]
    have hcc:ys.length*sz≤cap*sz:=Nat.mul_le_mul_right _ hcap;have h5:=run_storeCells_at P b (j.toNat*sz) e ((List.replicate (q+1) zc).flatten) 0 cur w hb (by rw[hlen];omega) (λv hv=>by
     obtain⟨cl,hcl,hv'⟩:=List.mem_flatten.1 hv;rw[List.eq_of_mem_replicate hcl] at hv';exact hone v hv')
    simp only[Nat.add_zero] at h5;rw[hlen,hin] at h5;refine⟨.tuple #[],w.setRow b (cur.toList.take (j.toNat*sz)++(List.replicate (q+1) zc).flatten++cur.toList.drop (ys.length*sz)).toArray,_,?_,?_,h⟩
    ·have hzc:=Qd zc (by omega) (q+1);have e1:(a.eval x) = .slice (some ⟨b,j.toNat*sz,none⟩) (q+1) (cap-j.toNat):=by
      rw[ha.eval hx];simp[IV,hc,hq,Iv]
     simp[execOp,resolve,invoke,builtin,e1,Builtin.clear_,run_underlying ht,hzv,hcells,hzc,h5]
    ·refine hw.set hi rfl rfl rfl (by simp[World.setRow]) (λk _ hk=>?_) ⟨?_,us.take (j.toNat*sz)++(List.replicate (q+1) zc).flatten,⟨?_,.inr ⟨b,cap,_,?_,Agn _,setRow_heap w b cur _ e (0,0) hb,?_,hm,?_,?_⟩⟩,?_⟩ (by simp[Ent.foot,Value.ownBlock])
     ·simp only[Ent.foot,Value.ownBlock,Option.mem_toList,Option.mem_def,Option.some.injEq] at hk;simp only[World.setRow,Array.getElem?_modify];rw[Agt hk]
     ·intro cl hcl;rw[Ag8] at hcl;rcases List.mem_append.1 hcl with h' | h'
      ·rw[List.map_take] at h';exact h0 cl (List.mem_of_mem_take h')
      ·rw[List.map_replicate] at h';rw[List.eq_of_mem_replicate h'];exact hel
     ·rw[AfK,hlen];simp[Nat.min_eq_left hjl,h1,hq];have:j.toNat*sz≤ys.length*sz:=Nat.mul_le_mul_right _ hjl
      first | rw[← Nat.add_mul] | (rw[Nat.min_eq_left this,← Nat.add_mul])
     ·simp[Nat.min_eq_left hjl];omega
     ·simp;omega
     ·have:j.toNat*sz≤ys.length*sz:=Nat.mul_le_mul_right _ hjl;rw[List.size_toArray,AfK,AfK,hlen,Ag6,Agy,Array.length_toList,Nat.min_eq_left (by omega)];omega
     ·have:j.toNat*sz≤ys.length*sz:=Nat.mul_le_mul_right _ hjl;have e2:((ys.take j.toNat++List.replicate (ys.length-j.toNat) z0).map enc).length*sz=(cur.toList.take (j.toNat*sz)++(List.replicate (q+1) zc).flatten).length:=by
       rw[AfK,hlen];simp[Nat.min_eq_left hjl,hq];rw[Nat.min_eq_left (by omega),← Nat.add_mul]
      rw[e2,List.take_left' rfl]
      congr 1
      rw[← htk,List.take_take,Nat.min_eq_left this]
     ·rw[Ag8,List.flatten_append,List.map_take,List.map_replicate,hq];refine Bj.append ?_ ?_
      ·have:((ys.map enc).take j.toNat).flatten=(ys.map enc).flatten.take (j.toNat*sz):=by
        clear h3 h1 htk hcs hcap g1 hi hw h5 hin hcc hlen hjn hc hq hjl hm hb;generalize ys.map enc=zs at h0;have key:∀(zs:List (List Rp)) (k:Nat),(∀c∈zs,c.length=sz)→(zs.take k).flatten=zs.flatten.take (k*sz):=by
         intro zs
         induction zs with
         | nil=>intro k _;simp
         | cons z zs ih=>
          intro k hk
          cases k with
          | zero=>simp
          | succ k=>
           have hzl:=hk z (by simp);simp only[List.take_succ_cons,List.flatten_cons];rw[ih k (λc hc=>hk c (by simp[hc]))];have e1:(k+1)*sz=z.length+k*sz:=by rw[hzl,Nat.succ_mul];omega
           rw[e1,List.take_length_add_append]
        exact key zs _ h0
       rw[this];exact h3.take _
      ·clear h5 hin hlen hq;generalize q+1=k
       induction k with
       | zero=>exact trivial
       | succ k ih=>rw[List.replicate_succ,List.replicate_succ,List.flatten_cons,List.flatten_cons];exact(hzr Z).append ih)
end
abbrev Ux:=Nat→Nat→Value×Nat
def Ag (k:Nat)(u u':Ux):Prop:=∀j,j<k→u j=u' j
structure Sy where
 deps:List Nat
 r:Ux→Rp
 lv:Nat:=0
 fx:Bool:=false
 old:List Nat:=[]
def Y3 (sp:List Sy)(i:Nat):Sy:=sp.getD i { deps:=[],r:=λ_=>rv undef }
def syu (sp:List Sy)(u:Ux):List Sp:=sp.map λs=>⟨s.deps,s.r u,0⟩
def W8:List Sy→Prop
 | []=>True
 | s::r=>(∀u u',Ag s.lv u u'→s.r u=s.r u')∧W8 r
theorem W8.at:∀{sp:List Sy},W8 sp→∀{i:Nat} {s:Sy},sp[i]? =some s→∀u u',Ag s.lv u u'→s.r u=s.r u'
 | [],_,i,s,h=>by simp at h
 | x::sp,⟨h1,h2⟩,0,s,h=>by simp at h;subst h;exact h1
 | x::sp,⟨h1,h2⟩,i+1,s,h=>W8.at h2 (by simpa using h)
def cnt (S:Nat→Bool)(is:List Nat):Nat:=(is.filter S).length
section
variable (P : Program) (n : Nat) (c : Cx) (opsA : Array Oper) (Q : Exit → Act → World → Prop)
def OpY (l:Fr)(H:List Ent)(o:Oper)(k:Nat)(u:Ux)(r:Ux→Rp)(H1:Ux→List Ent):Prop:=
 ∀a w Z (K:Act→World→Prop),Dy n l a Z→St c H Z w→(∀u' v w' Z',Ag k u u'→Fz.le Z Z'→(r u').p Z' v→St c (H1 u') Z' w'→K (a.put o.dst v) w')→
  Region.wanted o (yielded opsA a.tmps)=true∧o.wp P a w K Q
def ObY (ops:List Oper)(sp:List Sy)(l0 lw:Fr)(is:List Nat)(hs:List (Ux→List Ent))(i:Nat)(o:Oper):Prop:=
 match is.findIdx? (λx=>Nat.beq x i) with
 | some k=>∀u,OpY P n c opsA Q (Ha lw (Y3 sp i).old (Ck ops (syu sp u) (Y3 sp i).deps l0)) (hs.getD k (λ_=>[]) u) o k u (Y3 sp i).r (hs.getD (k+1) (λ_=>[]))
 | none=>if (Y3 sp i).fx=true then ∀u,DY P n c opsA Q (Ha lw (Y3 sp i).old (Ck ops (syu sp u) (Y3 sp i).deps l0)) (hs.getD (Y3 sp i).lv (λ_=>[]) u) o ((Y3 sp i).r u) (hs.getD (Y3 sp i).lv (λ_=>[]) u)
  else ∀u k,k≤is.length→DY P n c opsA Q (Ha lw (Y3 sp i).old (Ck ops (syu sp u) (Y3 sp i).deps l0)) (hs.getD k (λ_=>[]) u) o ((Y3 sp i).r u) (hs.getD k (λ_=>[]) u)
def AcK (ops:List Oper)(sp:List Sy)(l0 lw:Fr)(is:List Nat)(hs:List (Ux→List Ent)):Nat→List Oper→Prop
 | i,o::rest=>ObY P n c opsA Q ops sp l0 lw is hs i o∧AcK ops sp l0 lw is hs (i+1) rest
 | _,[]=>True
end
section
variable {P : Program} {n : Nat} {c : Cx} {opsA : Array Oper} {Q : Exit → Act → World → Prop} {l l0 lw : Fr} {H : List Ent} {hs : List (Ux → List Ent)} {sp : List Sy} {is : List Nat}
theorem AcK.at {ops:List Oper}:∀{k:Nat} {rest:List Oper},AcK P n c opsA Q ops sp l0 lw is hs k rest→∀(t:Nat) o,rest[t]? =some o→ObY P n c opsA Q ops sp l0 lw is hs (k+t) o
 | k,o::rest,⟨h1,h2⟩,t,o',ht=>by
  cases t with
  | zero=>simp at ht;subst ht;exact h1
  | succ t=>
   have:=AcK.at h2 t o' (by simpa using ht);rw[show k+(t+1)=k+1+t from by omega];exact this
 | _,[],_,t,o,h=>by simp at h
def AcM (p:List Ent→Prop)(u:Ux):List (Ux→List Ent)→Prop
 | []=>True
 | f::r=>p (f u)∧AcM p u r
theorem AcM.at {p:List Ent→Prop}{u:Ux}:∀{hs:List (Ux→List Ent)},AcM p u hs→∀k,k<hs.length→p (hs.getD k (λ_=>[]) u)
 | [],_,k,h=>absurd h (Nat.not_lt_zero _)
 | f::r,⟨h1,h2⟩,0,_=>h1
 | f::r,⟨h1,h2⟩,k+1,h=>AcM.at h2 k (by simpa using h)
end
section
variable {P : Program} {n : Nat} {c : Cx} {opsA : Array Oper} {Q : Exit → Act → World → Prop} {l : Fr} {H : List Ent} {d : Nat} {x y : Operand} {ty t e : TypeId} {pos : String} {af : Array Edge} {v : Value} {sz : Nat}
end
end Go.Proofs.YtfobhhegpkinaaaGreatDoor.Q
namespace Go.Proofs.YtfobhhegpkinaaaGreatDoor
open Go
end Go.Proofs.YtfobhhegpkinaaaGreatDoor
namespace Go.Proofs.YtfobhhegpkinaaaGreatDoor.Q
open Go Go.RowKit
set_option linter.unusedVariables false
section
variable {P : Program} {n : Nat} {c : Cx} {ops : Array Oper} {Q : Exit → Act → World → Prop} {rest : List Oper} {l : Fr} {H : List Ent} {d : Nat} {d' : Option Nat} {t kt et ty : TypeId} {pos : String} {af : Array Edge} {g : Option (Nat × Bool)} {x y u : Operand} {b i : Nat} {T : Type} {enc : T → Rp} {xs : List (Int × T)} {z : T} {zv : Value}
theorem SG.push {Z:Fz}{k:Int}{r:Rp}{v:Value}(hv:r.p Z v)(ck:Nat):∀{m:List (Int×Rp)} {es:List MapEntry},SG Z m es→SG Z (m++[(k,r)]) (es++[⟨.int .i64 k,v,ck⟩])
 | [],[],_=>⟨⟨rfl,hv⟩,trivial⟩
 | p::m,e::es,⟨h1,h2⟩=>⟨h1,h2.push hv ck⟩
end
set_option linter.unusedSimpArgs false
def PtZ (k:Nat)(i:Int)(off:Nat)(Z:Fz)(v:Value):Prop:=if i<0 then v = .pointer none else ∃b,Z.nm k i.toNat=some b∧v = .pointer (some ⟨b,off,none⟩)
def rPt (k:Nat)(i:Int)(off:Nat):Rp:=⟨PtZ k i off,fun {Z Z' v} h hp=>by
 unfold PtZ at *
 split
 ·rename_i h0;rwa [Ag9 h0] at hp
 ·rename_i h0;rw[Agt h0] at hp;obtain⟨b,h1,h2⟩:=hp;exact⟨b,h.nm k _ b h1,h2⟩,true,λ_ Z v hp=>by
 change PtZ k i off Z v at hp
 unfold PtZ at hp
 split at hp
 ·rw[hp];rfl
 ·obtain⟨b,_,h2⟩:=hp;rw[h2];rfl⟩
section
variable {P : Program} {n : Nat} {c : Cx} {ops : Array Oper} {Q : Exit → Act → World → Prop} {rest : List Oper} {l : Fr} {H H' : List Ent} {d : Nat} {d' : Option Nat} {x y : Operand} {ty t t' e : TypeId} {pos : String} {af : Array Edge} {g : Option (Nat × Bool)} {v u : Value} {r : Rp} {sz k : Nat} {pv : Value} {α : Type} [Inhabited α] {xs : List α} {enc : α → List Rp}
theorem Dy.re {a:Act}{Z:Fz}{d:Nat}{q r:Rp}(h:Dy n l a Z)(hl:look l d=some q)(hq:∀v,q.p Z v→r.p Z v):Dy n ((d,r)::l) a Z:=⟨h.size,h.defers,λi u hi=>by
 rw[CC] at hi
 split at hi
 ·rename_i e;subst e;simp at hi;subst hi
  obtain⟨v,h1,h2⟩:=h.tm d q hl;exact⟨v,h1,hq v h2⟩
 ·exact h.tm i u hi⟩
theorem PtZ.of {Z:Fz}{b N:Nat}(h:Z.nm k N=some b):∀v,(rv (.pointer (some ⟨b,0,none⟩))).p Z v→(rPt k (N:Int) 0).p Z v:=λv hv=>by
 show PtZ k N 0 Z v;unfold PtZ;rw[Agt (by omega)];exact⟨b,by simpa using h,hv⟩
end
def MpZ (m:List (List UInt8×Rp))(Z:Fz)(v:Value):Prop:=(v = .map none∧m=[])∨∃b es ck,v = .map (some b)∧Z b=some (.map es ck)∧EP Z m es.toList ck
def NJ (m:List (List UInt8×Rp)):Rp:=⟨MpZ m,λh h0=>h0.imp id λ⟨b,es,ck,h1,h2,h3⟩=>⟨b,es,ck,h1,h.f b _ h2,h3.mono h⟩,true,λ_ Z v h0=>by rcases h0 with⟨h1,_⟩ | ⟨b,es,ck,h1,_⟩<;>(rw[h1];rfl)⟩
theorem AbM (Z:Fz):(NJ []).p Z (.map none):=.inl ⟨rfl,rfl⟩
section
variable {P : Program} {n : Nat} {c : Cx} {ops opsA : Array Oper} {Q : Exit → Act → World → Prop} {rest : List Oper} {l : Fr} {H : List Ent} {d : Nat} {d' : Option Nat} {ty t kt et rty : TypeId} {pos : String} {af : Array Edge} {g : Option (Nat × Bool)} {x y u : Operand} {K : Act → World → Prop} {cx : Code} {r : Rp}
variable {T : Type} {enc : T → Rp} {xs : List (Ai × T)} {z : T} {k : Ai} {zv : Value} {i b : Nat}
theorem St.freezeM {Z:Fz}{w:World}(h:St c H Z w){m:List (List UInt8×Rp)}(hi:H[i]? =some (.map b m)):∃Z',Fz.le Z Z'∧St c (.fact (.map (some b)) (NJ m)::H.eraseIdx i) Z' w:=by
 obtain⟨es,ck,hg,hm⟩:=h.ent hi;have hmem:=AfU hi;have hgz:Z b=none:=h.zdis _ hmem b (by simp[Ent.foot])
 let Z':Fz:=⟨λq=>if q=b then some (.map es ck) else Z q,Z.nm⟩
 have hle:Fz.le Z Z':=⟨λq o hb=>by
  have:q≠b:=λe=>by subst e;rw[hgz] at hb;cases hb
  simpa[Z',this] using hb,λ_ _ _ h=>h⟩
 have hfr:=h.front hi;have hd:=List.pairwise_cons.1 hfr.dis;have hs:=hfr.sub (List.sublist_cons_self _ _);have hs':St c (H.eraseIdx i) Z' w:=by
  refine { hs with has:=λen he=>Ent.keep (hs.has en he) hle λ_ _=>rfl,frz:=⟨λq o hb=>?_,h.frz.nm⟩,gst:=hs.gst.names rfl,le:=hs.le.trans hle,new:=λq o hb=>?_,zdis:=λen he k hk=>?_,env:=hs.emono hle hs.env }
  ·by_cases hbg:q=b
   ·subst hbg;simp[Z'] at hb;rw[← hb];exact hg
   ·simp[Z',hbg] at hb;exact h.frz q o hb
  ·by_cases hbg:q=b
   ·subst hbg;exact .inr (h.own _ hmem q (by simp[Ent.foot]))
   ·simp[Z',hbg] at hb;exact h.new q o hb
  ·have hkg:k≠b:=λe=>hd.1 en he b (by simp[Ent.foot]) (e▸hk);simp only[Z',hkg,Ag5];exact hs.zdis en he k hk
 exact⟨Z',hle,hs'.add rfl rfl rfl (AfZ _) (λ_ _=>rfl) (e':=.fact (.map (some b)) (NJ m)) (.inr ⟨b,es,ck,rfl,by simp[Z'],hm.mono hle⟩) (by simp[Ent.foot])⟩
theorem WK.freezeM {m:List (List UInt8×Rp)}(hi:H[i]? =some (.map b m))(h:WK n c K l (.fact (.map (some b)) (NJ m)::H.eraseIdx i)):WK n c K l H:=λa w Z ha hw=>by
 obtain⟨Z',hz,hs⟩:=St.freezeM hw hi;exact h a w Z' (ha.mono hz) hs
theorem WC.freezeM {m:List (List UInt8×Rp)}(hi:H[i]? =some (.map b m))(h:WC P n c cx Q l (.fact (.map (some b)) (NJ m)::H.eraseIdx i)):WC P n c cx Q l H:=λa w Z ha hw=>by
 obtain⟨Z',hz,hs⟩:=St.freezeM hw hi;exact h a w Z' (ha.mono hz) hs
theorem WL.freezeM {m:List (List UInt8×Rp)}(hi:H[i]? =some (.map b m))(h:WL P n c ops Q rest l (.fact (.map (some b)) (NJ m)::H.eraseIdx i)):WL P n c ops Q rest l H:=λa w Z ha hw=>by
 obtain⟨Z',hz,hs⟩:=St.freezeM hw hi;exact h a w Z' (ha.mono hz) hs
theorem MpZ.heap {Z:Fz}{w:World}(hf:WB Z w){m:List (List UInt8×Rp)}{v:Value}(h:(NJ m).p Z v):(v = .map none∧m=[])∨∃b,v = .map (some b)∧(Ent.map b m).holds Z w:=by
 rcases h with h | ⟨b,es,ck,h1,h2,h3⟩
 ·exact .inl h
 ·exact .inr ⟨b,h1,es,ck,hf b _ h2,h3⟩
theorem Aah {xs:List (Ai×T)}(h:AL enc xs=[]):xs=[]:=by
 have:=congrArg List.length h;rw[Hg] at this;exact List.length_eq_zero_iff.1 this
theorem ZN (ht:P.underlying t=some (.map kt et))(hk:P.underlying kt=some .string)(hz:∀w,(zeroValue et).run P w = .ok zv w)(hzr:∀Z,(enc z).p Z zv)(hx:ev l x=some (NJ (AL enc xs)))(hy:ev l y=some (rS k)) :
  Bv P n c l H { dst:=d',op:=.lookup t x y false,type:=ty,pos:=pos,after:=af,guard:=g } (enc (B2 xs k z)):=λa w Z ha hw=>by
 rcases MpZ.heap hw.frz (ha.ev hx) with⟨e1,e2⟩ | ⟨b,e1,hb⟩
 ·obtain rfl:=Aah e2;refine⟨zv,hzr Z,?_⟩;have hf:Instr.findNow .string (.string (B k)) ([]:List MapEntry) 0=some none:=rfl;simp[execOp,e1,ha.eval hy,Instr.lookup,run_underlying ht,MapKept.run_checkKey hk (E8 _),MapKept.run_findKey hk hf,hz]
 obtain⟨v,h1,h2⟩:=IG (k:=k) ht hk hz (hzr Z) hb false;rw[PD] at h1;simp only[Agb,Ag5] at h2;exact⟨v,h1,by simp[execOp,e1,ha.eval hy,h2]⟩
end
set_option maxRecDepth 100000
set_option maxHeartbeats 4000000
@[reducible] def Ad (x:Ak):List Rp:=[rS x.fID,rS x.fTenant,rS x.fCause,AD x.fAt,AD x.fEffect.fKind,rS x.fEffect.fKey,Br 4 (AH Ah x.fEffect.fValue),AD x.fEffect.fDelay]
theorem Cp (x:Ak):(Ad x).length=8:=rfl
theorem DB (x:Ak):(Ad x).all (·.one)=true:=rfl
@[reducible] def Av (x:Ap):List Rp:=[AD x.fKind,rS x.fKey,Br 4 (AH Ah x.fValue),AD x.fDelay]
theorem DA (x:Ap):(Av x).length=4:=rfl
theorem JP (x:Ap):(Av x).all (·.one)=true:=rfl
@[reducible] def B6 (x:AC):List Rp:=[rS x.fEvent,rS x.fTenant,AD x.fAttempt,Br 4 (AH Ah x.fResult),Br 4 (AH Av x.fEffects),AD x.fAt]
@[reducible] def BS (x:(List Ai)):List Rp:=[Br 1 (AH eS x)]
theorem DX (x:(List Ai)):(BS x).length=1:=rfl
theorem LS (x:(List Ai)):(BS x).all (·.one)=true:=rfl
theorem Vj:∃inf,Tryz.prog.info? 42=some inf∧inf.zero=some (.slice none 0 0)∧inf.size=1∧inf.bytes=24:=by
  have key:(Tryz.prog.info? 42).map (λi=>(i.zero,i.size,i.bytes))=some (some (.slice none 0 0),1,24):=by kernel_rfl
  obtain⟨inf,h1,h2⟩:=Option.map_eq_some_iff.1 key;simp only[Prod.mk.injEq] at h2;exact⟨inf,h1,h2.1,h2.2.1,h2.2.2⟩
theorem Aa2:∃inf,Tryz.prog.info? 65=some inf∧inf.zero=some (.agg #[(.int .i64 0),(.string ⟨#[]⟩),(.slice none 0 0),(.int .i64 0)])∧inf.size=4∧inf.bytes=56:=by
  have key:(Tryz.prog.info? 65).map (λi=>(i.zero,i.size,i.bytes))=some (some (.agg #[(.int .i64 0),(.string ⟨#[]⟩),(.slice none 0 0),(.int .i64 0)]),4,56):=by kernel_rfl
  obtain⟨inf,h1,h2⟩:=Option.map_eq_some_iff.1 key;simp only[Prod.mk.injEq] at h2;exact⟨inf,h1,h2.1,h2.2.1,h2.2.2⟩
theorem PA:∃inf,Tryz.prog.info? 67=some inf∧inf.zero=some (.agg #[(.string ⟨#[]⟩),(.string ⟨#[]⟩),(.string ⟨#[]⟩),(.int .i64 0),(.int .i64 0),(.string ⟨#[]⟩),(.slice none 0 0),(.int .i64 0)])∧inf.size=8∧inf.bytes=112:=by
  have key:(Tryz.prog.info? 67).map (λi=>(i.zero,i.size,i.bytes))=some (some (.agg #[(.string ⟨#[]⟩),(.string ⟨#[]⟩),(.string ⟨#[]⟩),(.int .i64 0),(.int .i64 0),(.string ⟨#[]⟩),(.slice none 0 0),(.int .i64 0)]),8,112):=by kernel_rfl
  obtain⟨inf,h1,h2⟩:=Option.map_eq_some_iff.1 key;simp only[Prod.mk.injEq] at h2;exact⟨inf,h1,h2.1,h2.2.1,h2.2.2⟩
theorem W3 (parts:List (Nat×Value)):Tryz.prog.built 65 parts=Instr.fill (λi=>(#[(0,1),(1,1),(2,1),(3,1)]:Array (Nat×Nat))[i]?) #[(.int .i64 0),(.string ⟨#[]⟩),((.slice none 0 0)),(.int .i64 0)] parts:=by kernel_rfl
theorem Qp {n:Nat}{c:Cx}{l:Fr}{H:List Ent}{d:Option Nat}{ty:TypeId}{pos:String}{af:Array Edge}{g:Option (Nat×Bool)}{x0:Operand}{r0:Rp}(h0:ev l x0=some r0)(u0:r0.one=true){x1:Operand}{r1:Rp}(h1:ev l x1=some r1)(u1:r1.one=true):Bv Tryz.prog n c l H { dst:=d,op:=.build 65 #[(0,x0),(1,x1)],type:=ty,pos:=pos,after:=af,guard:=g } (BL [r0,r1,rv (.slice none 0 0),AD 0]):=λa w Z ha _=>by
  have p0:=ha.ev h0;have c0:=Bz (r0.hone u0 Z _ p0);have p1:=ha.ev h1;have c1:=Bz (r1.hone u1 Z _ p1);have hb:Tryz.prog.built 65 [(0,a.eval x0),(1,a.eval x1)]=some #[a.eval x0,a.eval x1,((.slice none 0 0)),(.int .i64 0)]:=by
    rw[W3];generalize a.eval x0=v0 at *;generalize a.eval x1=v1 at *;simp[Instr.fill,c0,c1]
  refine⟨.agg #[a.eval x0,a.eval x1,((.slice none 0 0)),(.int .i64 0)],⟨[a.eval x0,a.eval x1,((.slice none 0 0)),(.int .i64 0)],rfl,p0,p1,rfl,rfl,trivial⟩,?_⟩;have:=run_build w 65 #[(0,a.eval x0),(1,a.eval x1)] _ (by simpa using hb);simp[execOp,this]
theorem Ij (ys:(List Ab))(r:(List Ab))(h:Hp ys=some r):Fn Tryz.prog GE 41 [Br 4 (AH Ah ys)] [] (λR H=>R=Br 4 (AH Ah r)∧H=[]):=by
 refine enter (n:=8) Tryz.func41 Aa Tryz.ntmps41 Aa (λw Z=>?_);unfold Hp at h;refine Am (wa Aa (Aw (Ao (Am (wm Aa (wv (Xu D5 Aa) (Aw (OM Aa (λc1=>?_) (λc1=>?_)))))))))
 ·have e2:ys=[]:=List.map_eq_nil_iff.1 (c1 rfl);have h3:some ([]:List Ab)=some r:=by rw[e2] at h;exact(Uk h).2
  refine Am (wa Aa (Aw (A4 (Ae (WK.up (d:=2) (r:=Br 4 (AH Ah ([]:List Ab))) Aa (Up.le (LW.nil _)) ?_)))));obtain rfl:=A7 h3;exact A3 (Ch Tryz.results41 (AR Aa)) sN ⟨Aa,Aa⟩
 refine A0 (AX (Am (Bf (ys:=([]:List Ab)) (enc:=Ah) (css:=[]) (xs:=[]) D5 EB Oa Aa Aa Aa trivial Aa B7 Aa Aa Aa (λb4=>?_))));refine wm Aa (ck h λg6 h7=>Exists.elim JD λinf hinf=>Cc (xs:=([]:List Ab)) (ys:=ys) (enc:=Ah) (i:=0) D5 hinf.1 hinf.2.1 hinf.2.2.1 hinf.2.2.2 Aa Aa Aa Aa Aa (JG.z Aa Aa) B7 Df g6 Aa (λv5=>?_));refine wa Aa (Aw (A4 (WK.freeze (i:=0) Aa (WK.up (d:=2) (r:=Br 4 (AH Ah (([]:List Ab)++ys))) Aa (Up.fact (i:=0) Aa) ?_))));obtain rfl:=A7 h7;exact A3 (Ch Tryz.results41 (AR Aa)) (sS sN) ⟨Aa,Aa⟩
theorem GM (n:Int)(r:Bool)(h:BI n=some r):Fn Tryz.prog GE 54 [AD n] [] (λR H=>R=rB r∧H=[]):=by
 refine enter (n:=9) Tryz.func54 Aa Tryz.ntmps54 Aa (λw Z=>?_);unfold BI at h;refine Am (wa Aa (Aw (AV [(2,rB ((decide (0≤n))&&(decide (n≤1073741824))))] [] ?_ ?_)))
 ·refine An (wm Aa (wv (JV Aa Aa) (wm Aa (AY (decide (0≤n)) (λc1=>?_) (λc1=>?_)))))
  ·refine wo c1 (wm Aa (wo c1 (wv (Oh Aa Aa) (It Aa c1 Aa (wa Aa (As ?_))))));exact CI c1
  refine wf c1 (wf c1 (wv (r:=rB false) (A2 Aa c1 Aa) (wa Aa (As ?_))));exact CI c1
 refine A4 ?_;obtain rfl:=A7 h;exact A3 (Ch Tryz.results54 (AR Aa)) sN ⟨Aa,Aa⟩
theorem I2 (k:Int)(r:Bool)(h:Gj k=some r):Fn Tryz.prog GE 66 [AD k] [] (λR H=>R=rB r∧H=[]):=by
 refine enter (n:=13) Tryz.func66 Aa Tryz.ntmps66 Aa (λw Z=>?_);unfold Gj at h;refine Am (wa Aa (Aw (AV [(2,rB ((decide (k=3))||((decide (k=4))||(decide (k=5)))))] [] ?_ ?_)))
 ·refine An (wm Aa (wv (BR Aa Aa) (wm Aa (AY (decide (k=3)) (λc1=>?_) (λc1=>?_)))))
  ·refine wf c1 (wf c1 (wv (r:=rB true) (A5 Aa c1 Aa) (wm Aa (wz Aa Aa (wz Aa Aa (wv (r:=rB true) (A5 (b:=true) Aa Aa Aa) (wa Aa (As ?_))))))));exact CI c1
  refine wo c1 (wm Aa (wo c1 (wv (BR Aa Aa) (G9 Aa c1 Aa (wm Aa (AY (decide (k=4)) (λc2=>?_) (λc2=>?_)))))))
  ·refine wf c2 (wf c2 (wv (r:=rB true) (A5 Aa c2 Aa) (wa Aa (As ?_))));exact CI (And.intro c1 c2)
  refine wo c2 (wm Aa (wo c2 (wv (BR Aa Aa) (G9 Aa c2 Aa (wa Aa (As ?_))))));exact CI (And.intro c1 c2)
 refine A4 ?_;obtain rfl:=A7 h;exact A3 (Ch Tryz.results66 (AR Aa)) sN ⟨Aa,Aa⟩
theorem ZT (x:Ap)(r:Bool)(h:Sm x=some r):Fn Tryz.prog GE 90 [BL (Av x)] [] (λR H=>R=rB r∧H=[]):=by
 refine enter (n:=17) Tryz.func90 Aa Tryz.ntmps90 Aa (λw Z=>?_);unfold Sm at h;refine Am (CN Aa Aa (λb1=>?_));refine wa Aa (Aw (Ao (AV [(1,rP b1 0),(10,rB ((decide (x.fKind=3))||(decide (x.fKind=4))))] [.blk b1 (Av x) 65] ?_ ?_)))
 ·refine An (vF Cv Aa Hk (vL 0 Hl Aa (wv (BR Aa Aa) (wm Aa (AY (decide (x.fKind=3)) (λc2=>?_) (λc2=>?_))))))
  ·refine wf c2 (wf c2 (wf c2 (wv (r:=rB true) (A5 Aa c2 Aa) (As ?_))));exact CI c2
  refine wo c2 (vF Cv Aa Hk (wo c2 (vL 0 Hl Aa (wo c2 (wv (BR Aa Aa) (G9 Aa c2 Aa (As ?_)))))));exact CI c2
 refine cz h Aa (λc3 h4=>?_) (λc3 h5=>?_)
 ·refine Am (vF Cv Aa BX (vL 0 Cf Aa (Ds (rs:=[rS x.fKey]) (r:=rB (Hf x.fKey)) Tryz.call53 Aa (UZ x.fKey) Aa Aa (wa Aa (Aw (A4 (Ae ?_)))))));obtain rfl:=A7 h4;exact A3 (Ch Tryz.results90 (AR Aa)) (sS sN) ⟨Aa,Aa⟩
 refine A0 (AX (Am (vF Cv Aa BX (vL 0 Cf Aa (Ds (rs:=[rS x.fKey]) (r:=rB (K3 x.fKey)) YF Aa (Acv x.fKey) Aa Aa (wa Aa (Aw (A4 ?_))))))));obtain rfl:=A7 h5;exact A3 (Ch Tryz.results90 (AR Aa)) (sS sN) ⟨Aa,Aa⟩
theorem Mz (v:(List Ab))(r:Bool)(h:CL v=some r):Fn Tryz.prog GE 91 [Br 4 (AH Ah v)] [] (λR H=>R=rB r∧H=[]):=by
 refine enter (n:=20) Tryz.func91 Aa Tryz.ntmps91 Aa (λw Z=>?_);unfold CL at h;refine Am (wa Aa (Aw (ck h λg1 h2=>ck h2 λg3 h4=>AV [(2,rB ((decide (1<(v.length:Int)))&&((decide (((Aq v 0).fKind)=5))&&(decide (((Aq v 1).fKind)=4)))))] [] ?_ ?_)))
 ·refine An (wm Aa (wv (Bx (ys:=v) (enc:=Ah) D5 Aa) (wv (DT Aa Aa) (wm Aa (AY (decide (1<(v.length:Int))) (λc5=>?_) (λc5=>?_))))))
  ·refine wo c5 (wm Aa (wo c5 (wv (AW (enc:=Ah) (ys:=v) D5 EB Aa Aa (Gt g1 c5)) (wo c5 (wv (A1 CU Aa Ln Aa Aa) (wo c5 (wv (AJ Lo Aa Aa) (wo c5 (wv (BR Aa Aa) (It Aa c5 Aa (wm Aa (AY (decide (((Aq v 0).fKind)=5)) (λc6=>?_) (λc6=>?_)))))))))))))
   ·refine wo c6 (wm Aa (wo c6 (wv (AW (enc:=Ah) (ys:=v) D5 EB Aa Aa (Gt (Gt g3 c5) c6)) (wo c6 (wv (A1 CU Aa Ln Aa Aa) (wo c6 (wv (AJ Lo Aa Aa) (wo c6 (wv (BR Aa Aa) (It Aa c6 Aa (wa Aa (As ?_))))))))))));exact CI (And.intro c5 c6)
   refine wf c6 (wf c6 (wf c6 (wf c6 (wf c6 (wv (r:=rB false) (A2 Aa c6 Aa) (wa Aa (As ?_)))))));exact CI (And.intro c5 c6)
  refine wf c5 (wf c5 (wf c5 (wf c5 (wf c5 (wv (r:=rB false) (A2 Aa c5 Aa) (wm Aa (wz Aa Aa (wz Aa Aa (wz Aa Aa (wz Aa Aa (wz Aa Aa (wv (r:=rB false) (A2 (b:=false) Aa Aa Aa) (wa Aa (As ?_))))))))))))));exact CI c5
 refine A4 ?_;obtain rfl:=A7 h4;exact A3 (Ch Tryz.results91 (AR Aa)) sN ⟨Aa,Aa⟩
theorem QW (F:Nat)(event:Ai)(x:Ap)(i:Int)(r:Int)(h:KW F event x i=some r):Fn Tryz.prog GE 56 [rS event,BL (Av x),AD i] [] (λR H=>R=AD r∧H=[]):=by
 refine enter (n:=67) Tryz.func56 Aa Tryz.ntmps56 Aa (λw Z=>?_);unfold KW at h;refine Am (CN Aa Aa (λb1=>?_));refine wa Aa (Aw (Ao (AV [(0,rS event),(2,AD i),(4,rP b1 0),(17,rB ((decide (x.fKind<1))||(decide (5<x.fKind))))] [.blk b1 (Av x) 65] ?_ ?_)))
 ·refine An (vF Cv Aa Hk (vL 0 Hl Aa (wv (Dh Aa Aa) (wm Aa (AY (decide (x.fKind<1)) (λc2=>?_) (λc2=>?_))))))
  ·refine wf c2 (wf c2 (wf c2 (wv (r:=rB true) (A5 Aa c2 Aa) (As ?_))));exact CI c2
  refine wo c2 (vF Cv Aa Hk (wo c2 (vL 0 Hl Aa (wo c2 (wv (DT Aa Aa) (G9 Aa c2 Aa (As ?_)))))));exact CI c2
 refine cz h Aa (λc3 h4=>?_) (λc3 h5=>?_)
 ·refine Am (wa Aa (Aw (A4 (Ae ?_))));obtain rfl:=A7 h4;exact A3 (Ch Ob (AR Aa)) (sS sN) ⟨Aa,Aa⟩
 refine A0 (AX (Ao (Am (wv (Bi (i:=0) Is Dj Aa Aa Aa Aa) (ob h5 λr6 e8 h7=>DI Tryz.call90 (ZT x r6 e8) Aa (wv (BT Aa) (Aw (cz h7 Aa (λc9 hg=>?_) (λc9 hh=>?_)))))))))
 ·refine Am (wa Aa (Aw (A4 (Ae ?_))));obtain rfl:=A7 hg;exact A3 (Ch Ob (AR Aa)) (sS sN) ⟨Aa,Aa⟩
 refine A0 (AX (Ao (Am (vF Cv Aa Hk (vL 0 Hl Aa (wv (BR Aa Aa) (Aw (cz hh Aa (λhi hj=>?_) (λhi hk=>?_)))))))))
 ·refine Am (vF Cv Aa CR (vL 0 EC Aa (wv (Bx (ys:=x.fValue) (enc:=Ah) D5 Aa) (wv (DT Aa Aa) (Aw (cz hj Aa (λhl hm=>?_) (λhl hn=>?_)))))))
  ·refine Am (wa Aa (Aw (A4 (Ae ?_))));obtain rfl:=A7 hm;exact A3 (Ch Ob (AR Aa)) (sS sN) ⟨Aa,Aa⟩
  refine A0 (AX (Ao (ck hn λg17 ho=>AV [(0,rS event),(2,AD i),(4,rP b1 0),(42,rB ((decide (x.fKind=5))&&(!(ov (CL x.fValue)))))] [.blk b1 (Av x) 65] ?_ ?_)))
  ·refine An (vF Cv Aa Hk (vL 0 Hl Aa (wv (BR Aa Aa) (wm Aa (AY (decide (x.fKind=5)) (λha=>?_) (λha=>?_))))))
   ·refine wo ha (vF Cv Aa CR (wo ha (vL 0 EC Aa (wo ha (DI Tryz.call91 (Mz x.fValue (ov (CL x.fValue)) (Og (Gt g17 ha))) Aa (wo ha (wv (BT Aa) (It Aa ha Aa (As ?_)))))))));exact CI ha
   refine wf ha (wf ha (wf ha (wf ha (wv (r:=rB false) (A2 Aa ha Aa) (As ?_)))));exact CI ha
  refine cz ho Aa (λc20 hp=>?_) (λc20 hq=>?_)
  ·refine Am (wa Aa (Aw (A4 (Ae ?_))));obtain rfl:=A7 hp;exact A3 (Ch Ob (AR Aa)) (sS sN) ⟨Aa,Aa⟩
  refine A0 (AX (Ao (ck hq λhr hs=>ck hs λht hu=>AV [(0,rS event),(2,AD i),(4,rP b1 0),(56,rB (bif !decide (x.fKind=4) then((!decide (x.fDelay=0))||(!(ov (BI x.fDelay)))) else !(ov (BI x.fDelay))))] [.blk b1 (Av x) 65] ?_ ?_)))
  ·refine An (vF Cv Aa Hk (vL 0 Hl Aa (wv (BQ Aa Aa) (wm Aa (AY (!decide (x.fKind=4)) (λhb=>?_) (λhb=>?_))))))
   ·refine wo hb (vF Cv Aa Cy (wo hb (vL 0 CO Aa (wo hb (wv (BQ Aa Aa) (It Aa hb Aa (wm Aa (AY (!decide (x.fDelay=0)) (λhd=>?_) (λhd=>?_)))))))))
    ·refine wf hd (wf hd (wf hd (wf hd (wv (r:=rB true) (A5 Aa hd Aa) (As ?_)))));exact CI (And.intro hb hd)
    refine wo hd (vF Cv Aa Cy (wo hd (vL 0 CO Aa (wo hd (DI WN (GM x.fDelay (ov (BI x.fDelay)) (Og (EA (Gt hr hb) hd))) Aa (wo hd (wv (BT Aa) (G9 Aa hd Aa (As ?_)))))))));exact CI (And.intro hb hd)
   refine wf hb (wf hb (wf hb (wv (r:=rB false) (A2 Aa hb Aa) (wm Aa (AQ (b:=false) Aa Aa Aa (vF Cv Aa Cy (AQ (b:=false) Aa Aa Aa (vL 0 CO Aa (AQ (b:=false) Aa Aa Aa (DI WN (GM x.fDelay (ov (BI x.fDelay)) (Og (EA ht hb))) Aa (AQ (b:=false) Aa Aa Aa (wv (BT Aa) (wv (r:=rB (!(ov (BI x.fDelay)))) (A2 (b:=false) Aa Aa Aa) (As ?_))))))))))))));exact CI hb
  refine cz hu Aa (λhw hx=>?_) (λhw hy=>?_)
  ·refine Am (wa Aa (Aw (A4 (Ae ?_))));obtain rfl:=A7 hx;exact A3 (Ch Ob (AR Aa)) (sS sN) ⟨Aa,Aa⟩
  refine A0 (AX (Ao (Am (vF Cv Aa Hk (vL 0 Hl Aa (ob hy λhz h0 h1=>DI Tryz.call66 (I2 x.fKind hz h0) Aa (Aw (cz h1 Aa (λh2 h3=>?_) (λh2 h6=>?_)))))))))
  ·refine Am (wm Aa (wm Aa (ck h3 λh8 h9=>ck h9 λhA hB=>Ds (rs:=[rS event,AD i]) (r:=CZ [rS (BK event i),AD (C1 event i)]) Tryz.call67 Aa (O9 event i h8 hA) Aa Aa (wm Aa (wv (A8 Aa Aa) (wv (A8 Aa Aa) (wa Aa (wa Aa (B0 (wm Aa (wa Aa (Aw (A4 (Ae ?_))))))))))))));obtain rfl:=A7 hB;exact A3 (Ch Ob (AR Aa)) (sS sN) ⟨Aa,Aa⟩
  refine A0 (AX (Am (wa Aa (Aw (A4 ?_)))));obtain rfl:=A7 h6;exact A3 (Ch Ob (AR Aa)) (sS sN) ⟨Aa,Aa⟩
 refine Am (vF Cv Aa CR (vL 0 EC Aa (ob hk λhC hD hE=>DI YE (Kh F x.fValue hC hD) Aa (wa Aa (B0 (wm Aa (wv (BQ Aa Aa) (Aw (cz hE Aa (λc46 hG=>?_) (λc46 hH=>?_))))))))))
 ·refine Am (wm Aa (wa Aa (Aw (A4 (Ae ?_)))));obtain rfl:=A7 hG;exact A3 (Ch Ob (AR Aa)) (sS sN) ⟨Aa,Aa⟩
 refine A0 (AX (Ao (ck hH λhI hJ=>AV [(0,rS event),(2,AD i),(4,rP b1 0),(42,rB ((decide (x.fKind=5))&&(!(ov (CL x.fValue)))))] [.blk b1 (Av x) 65] ?_ ?_)))
 ·refine An (vF Cv Aa Hk (vL 0 Hl Aa (wv (BR Aa Aa) (wm Aa (AY (decide (x.fKind=5)) (λc51=>?_) (λc51=>?_))))))
  ·refine wo c51 (vF Cv Aa CR (wo c51 (vL 0 EC Aa (wo c51 (DI Tryz.call91 (Mz x.fValue (ov (CL x.fValue)) (Og (Gt hI c51))) Aa (wo c51 (wv (BT Aa) (It Aa c51 Aa (As ?_)))))))));exact CI c51
  refine wf c51 (wf c51 (wf c51 (wf c51 (wv (r:=rB false) (A2 Aa c51 Aa) (As ?_)))));exact CI c51
 refine cz hJ Aa (λhK hL=>?_) (λhK hN=>?_)
 ·refine Am (wa Aa (Aw (A4 (Ae ?_))));obtain rfl:=A7 hL;exact A3 (Ch Ob (AR Aa)) (sS sN) ⟨Aa,Aa⟩
 refine A0 (AX (Ao (ck hN λhO hP=>ck hP λhQ hR=>AV [(0,rS event),(2,AD i),(4,rP b1 0),(56,rB (bif !decide (x.fKind=4) then((!decide (x.fDelay=0))||(!(ov (BI x.fDelay)))) else !(ov (BI x.fDelay))))] [.blk b1 (Av x) 65] ?_ ?_)))
 ·refine An (vF Cv Aa Hk (vL 0 Hl Aa (wv (BQ Aa Aa) (wm Aa (AY (!decide (x.fKind=4)) (λhe=>?_) (λhe=>?_))))))
  ·refine wo he (vF Cv Aa Cy (wo he (vL 0 CO Aa (wo he (wv (BQ Aa Aa) (It Aa he Aa (wm Aa (AY (!decide (x.fDelay=0)) (λhf=>?_) (λhf=>?_)))))))))
   ·refine wf hf (wf hf (wf hf (wf hf (wv (r:=rB true) (A5 Aa hf Aa) (As ?_)))));exact CI (And.intro he hf)
   refine wo hf (vF Cv Aa Cy (wo hf (vL 0 CO Aa (wo hf (DI WN (GM x.fDelay (ov (BI x.fDelay)) (Og (EA (Gt hO he) hf))) Aa (wo hf (wv (BT Aa) (G9 Aa hf Aa (As ?_)))))))));exact CI (And.intro he hf)
  refine wf he (wf he (wf he (wv (r:=rB false) (A2 Aa he Aa) (wm Aa (AQ (b:=false) Aa Aa Aa (vF Cv Aa Cy (AQ (b:=false) Aa Aa Aa (vL 0 CO Aa (AQ (b:=false) Aa Aa Aa (DI WN (GM x.fDelay (ov (BI x.fDelay)) (Og (EA hQ he))) Aa (AQ (b:=false) Aa Aa Aa (wv (BT Aa) (wv (r:=rB (!(ov (BI x.fDelay)))) (A2 (b:=false) Aa Aa Aa) (As ?_))))))))))))));exact CI he
 refine cz hR Aa (λhS hT=>?_) (λhS hU=>?_)
 ·refine Am (wa Aa (Aw (A4 (Ae ?_))));obtain rfl:=A7 hT;exact A3 (Ch Ob (AR Aa)) (sS sN) ⟨Aa,Aa⟩
 refine A0 (AX (Ao (Am (vF Cv Aa Hk (vL 0 Hl Aa (ob hU λhV hW hX=>DI Tryz.call66 (I2 x.fKind hV hW) Aa (Aw (cz hX Aa (λhY hZ=>?_) (λhY ga=>?_)))))))))
 ·refine Am (wm Aa (wm Aa (ck hZ λgb gc=>ck gc λgd ge=>Ds (rs:=[rS event,AD i]) (r:=CZ [rS (BK event i),AD (C1 event i)]) Tryz.call67 Aa (O9 event i gb gd) Aa Aa (wm Aa (wv (A8 Aa Aa) (wv (A8 Aa Aa) (wa Aa (wa Aa (B0 (wm Aa (wa Aa (Aw (A4 (Ae ?_))))))))))))));obtain rfl:=A7 ge;exact A3 (Ch Ob (AR Aa)) (sS sN) ⟨Aa,Aa⟩
 refine A0 (AX (Am (wa Aa (Aw (A4 ?_)))));obtain rfl:=A7 ga;exact A3 (Ch Ob (AR Aa)) (sS sN) ⟨Aa,Aa⟩
theorem T6 (F:Nat)(c:AC)(r:Int)(h:Nk F c=some r):Fn Tryz.prog GE 27 [BL (B6 c)] [] (λR H=>R=AD r∧H=[]):=by
 refine enter (n:=58) Tryz.func27 Aa Tryz.ntmps27 Aa (λw Z=>?_);unfold Nk at h;refine Am (CN Aa Aa (λb1=>?_));refine wa Aa (Aw (Ao (AV [(1,rP b1 0),(16,rB ((!(K3 c.fEvent))||(!(Hf c.fTenant))))] [.blk b1 (B6 c) 34] ?_ ?_)))
 ·refine An (vF C6 Aa BX (vL 0 Cf Aa (Ds (rs:=[rS c.fEvent]) (r:=rB (K3 c.fEvent)) YF Aa (Acv c.fEvent) Aa Aa (wv (BT Aa) (wm Aa (AY (!(K3 c.fEvent)) (λc2=>?_) (λc2=>?_)))))))
  ·refine wf c2 (wf c2 (wf c2 (wf c2 (wv (r:=rB true) (A5 Aa c2 Aa) (As ?_)))));exact CI c2
  refine wo c2 (vF C6 Aa BX (wo c2 (vL 0 Cf Aa (wo c2 (Ds (rs:=[rS c.fTenant]) (r:=rB (Hf c.fTenant)) Tryz.call53 Aa (UZ c.fTenant) Aa Aa (wo c2 (wv (BT Aa) (G9 Aa c2 Aa (As ?_)))))))));exact CI c2
 refine cz h Aa (λc3 h4=>?_) (λc3 h5=>?_)
 ·refine Am (wa Aa (Aw (A4 (Ae ?_))));obtain rfl:=A7 h4;exact A3 (Ch Oc (AR Aa)) (sS sN) ⟨Aa,Aa⟩
 refine A0 (AX (Ao (ck h5 λg6 h7=>AV [(1,rP b1 0),(30,rB ((decide (c.fAttempt<1))||((decide (1073741824<c.fAttempt))||(!(ov (BI c.fAt))))))] [.blk b1 (B6 c) 34] ?_ ?_)))
 ·refine An (vF C6 Aa Cy (vL 0 CO Aa (wv (Dh Aa Aa) (wm Aa (AY (decide (c.fAttempt<1)) (λc8=>?_) (λc8=>?_))))))
  ·refine wf c8 (wf c8 (wf c8 (wv (r:=rB true) (A5 Aa c8 Aa) (wm Aa (wz Aa Aa (wz Aa Aa (wz Aa Aa (wz Aa Aa (wv (r:=rB true) (A5 (b:=true) Aa Aa Aa) (As ?_))))))))));exact CI c8
  refine wo c8 (vF C6 Aa Cy (wo c8 (vL 0 CO Aa (wo c8 (wv (DT Aa Aa) (G9 Aa c8 Aa (wm Aa (AY (decide (1073741824<c.fAttempt)) (λc9=>?_) (λc9=>?_)))))))))
  ·refine wf c9 (wf c9 (wf c9 (wf c9 (wv (r:=rB true) (A5 Aa c9 Aa) (As ?_)))));exact CI (And.intro c8 c9)
  refine wo c9 (vF C6 Aa Cy (wo c9 (vL 0 CO Aa (wo c9 (DI WN (GM c.fAt (ov (BI c.fAt)) (Og (EA (EA g6 c8) c9))) Aa (wo c9 (wv (BT Aa) (G9 Aa c9 Aa (As ?_)))))))));exact CI (And.intro c8 c9)
 refine cz h7 Aa (λhg hh=>?_) (λhg hi=>?_)
 ·refine Am (wa Aa (Aw (A4 (Ae ?_))));obtain rfl:=A7 hh;exact A3 (Ch Oc (AR Aa)) (sS sN) ⟨Aa,Aa⟩
 refine A0 (AX (Ao (Am (vF C6 Aa CR (vL 0 EC Aa (ob hi λhj hk hl=>DI YE (Kh F c.fResult hj hk) Aa (wa Aa (B0 (wm Aa (wv (BQ Aa Aa) (Aw (cz hl Aa (λhm hn=>?_) (λhm ho=>?_)))))))))))))
 ·refine Am (wm Aa (wa Aa (Aw (A4 (Ae ?_)))));obtain rfl:=A7 hn;exact A3 (Ch Oc (AR Aa)) (sS sN) ⟨Aa,Aa⟩
 refine A0 (AX (Ao (Am (vF C6 Aa Kc (vL 0 MU Aa (wv (Bx (ys:=c.fEffects) (enc:=Av) Hy Aa) (wv (DT Aa Aa) (Aw (cz ho Aa (λhp hq=>?_) (λhp hr=>?_))))))))))
 ·refine Am (wa Aa (Aw (A4 (Ae ?_))));obtain rfl:=A7 hq;exact A3 (Ch Oc (AR Aa)) (sS sN) ⟨Aa,Aa⟩
 refine A0 (AX (Ao (Am (vF C6 Aa Kc (vL 0 MU Aa (wv (Bx (ys:=c.fEffects) (enc:=Av) Hy Aa) (wv (r:=AD 0) (Aj Aa) (Aw (AS (ob hr λhs ht hf=>B4 (S:=Nat×(Int)×(Unit)) (V:=(Unit)×(Unit)) 0 (λσ=>Ci (λσ=>Gn F c σ) σ.1 σ.2.1=some hs) (λσ=>[(1,rP b1 0),(42,Br 4 (AH Av c.fEffects)),(43,AD (c.fEffects.length:Int)),(44,AD σ.2.1)]) (λσ=>[.blk b1 (B6 c) 34]) (λσ=>σ.1) (F,0,()) ht (AG.c Aa (AG.c Aa (AG.c Aa (AG.c Aa AG.nil)))) (sC sN) (λσ=>Jd =some r) (λσ=>[]) (λσ=>[]) ?_ ?_))))))))))
 ·rintro⟨hI,ha,⟨⟩⟩ hu;refine GC ?_;obtain⟨hw,rfl,hx,hb,he⟩:=Di hu;replace hb:Gn F c ha=some hx:=hb;unfold Gn at hb;refine Am (wv (Dh Aa Aa) (Aw (Ao (cz hb Aa (λhy hz=>?_) (λhy h0=>?_)))))
  ·refine A0 (AX (Ao (AS (Am (wm Aa (ck hz λh1 h2=>wv (AW (enc:=Av) (ys:=c.fEffects) Hy Dj Aa Aa h1) (wv (Dm Is Dj Aa Aa Aa) (BZ (cs:=[AD 0,rS ([]:Ai),rv (.slice none 0 0),AD 0]) L7 Aa Aa (λhJ=>?_)))))))));refine wa Aa (LZ (i:=0) Dj Aa Aa Aa (Cm.c Aa) Aa Aa ?_);refine B0 (vF C6 Aa BX (vL 1 Cf Aa (wv (Bi (i:=0) Is Dj Aa Aa Aa Aa) (wm Aa (ob h2 λh3 h6 h8=>DI Tryz.call56 (QW F c.fEvent (Aq c.fEffects ha) ha h3 h6) Aa (wa Aa (B0 (wm Aa (wv (BQ Aa Aa) (Aw (cz h8 Aa (λh9 hA=>?_) (λh9 hB=>?_))))))))))))
   ·refine Am (wm Aa (wa Aa (Aw (A4 (AB (Ae (Ae (Be ?_))))))));have hC:=B1 hA he hf;refine AB (Ae ?_);obtain rfl:=A7 hC;exact A3 (Ch Oc (AR Aa)) (sS (sS sN)) ⟨Aa,Aa⟩
   refine A0 (AK (AX (An (ck hB λhD hE=>wv (BW Aa Aa hD) (wm Aa (As ?_))))));have hG:=B9 hE he;exact Ay (AE (hw,ha+1,()) ⟨hG,AfV _⟩ (AG.c Aa (AG.c Aa (AG.c Aa (AG.c Aa AG.nil)))) (sS (sC sN)))
  refine B3 (A9 ?_);have hH:=Cw h0 he hf;exact A9 (Bo (AE ((),()) hH AG.nil (sS sN)))
 rintro⟨⟨⟩,⟨⟩⟩ hd;refine JZ ?_;replace hd:Jd =some r:=hd;unfold Jd at hd;refine Bn (AX (Am (wa Aa (Aw (A4 ?_)))));obtain rfl:=A7 hd;exact A3 (Ch Oc (AR Aa)) sN ⟨Aa,Aa⟩
theorem US (x:Ap)(r:Ap)(h:UT x=some r):Fn Tryz.prog GE 44 [BL (Av x)] [] (λR H=>R=BL (Av r)∧H=[]):=by
 refine enter (n:=8) Tryz.func44 Aa Tryz.ntmps44 Aa (λw Z=>?_);unfold UT at h;refine Am (CN Aa Aa (λb1=>?_));refine BZ (cs:=[AD 0,rS ([]:Ai),rv (.slice none 0 0),AD 0]) L7 Aa Aa (λb2=>?_);refine B0 (vF Cv Aa CR (vL 1 EC Aa (ob h λr3 e5 h4=>DI U1 (Ij x.fValue r3 e5) Aa (vF Cv Aa CR (us (i:=1) CR Aa Aa (B5 Aa) Aa Aa ?_)))));refine B0 (wv (Bi (i:=1) Is Dj Aa Aa Aa Aa) (LZ (i:=0) Dj Aa Aa Aa (Cm.c Aa) Aa Aa ?_));refine Aw (A4 ?_);obtain rfl:=A7 h4;exact A3 (Ch Tryz.results44 (IW (i:=0) Is Dj Aa Aa Aa)) (sS (sS sN)) ⟨Aa,Aa⟩
theorem O1 (F:Nat)(v:(List Ab))(r:Ai)(h:NO F v=some r):Fn Tryz.prog GE 47 [Br 4 (AH Ah v)] [] (λR H=>R=rS r∧H=[]):=by
 refine enter (n:=11) Tryz.func47 Aa Tryz.ntmps47 Aa (λw Z=>?_);unfold NO at h;refine Am (wv (r:=rS ([]:Ai)) (AA Aa) (B0 (wm Aa (ob h λr1 e3 h2=>DI Tryz.call80 (WX F v r1 e3) Aa (wm Aa (wv (A8 Aa Aa) (wv (A8 Aa Aa) (wa Aa (wa Aa (B0 (wm Aa (wa Aa (Aw (A4 ?_))))))))))))));obtain rfl:=A7 h2;exact A3 (Ch Tryz.results47 (AR Aa)) sN ⟨Aa,Aa⟩
theorem Sn (F:Nat)(records:(List (List Ai)))(r:Ai×Int)(h:Pr F records=some r):Fn Tryz.prog GE 48 [Br 1 (AH BS records)] [] (λR H=>R=CZ [rS r.1,AD r.2]∧H=[]):=by
 refine enter (n:=37) Tryz.func48 Aa Tryz.ntmps48 Aa (λw Z=>?_);unfold Pr at h;refine Am (wv (r:=rS ([]:Ai)) (AA Aa) (wa Aa (B0 (wa Aa (Aw (Ao (Am (wm Aa (wv (Bx (ys:=records) (enc:=BS) Kb Aa) (wv (r:=AD 0) (Aj Aa) (Aw (AS (WC.nilrow (e:=9) (sz:=1) (ob h λhj hk hi=>B4 (S:=Nat×((List Ai)×Int)×(Value)) (V:=((List Ai))×(Value)) 0 (λσ=>Ci (λσ=>Hd F records σ.1 σ.2) σ.1 σ.2.1=some hj) (λσ=>[(4,rv σ.2.2),(11,Br 1 (AH BS records)),(12,AD (records.length:Int)),(13,AD σ.2.1.2)]) (λσ=>[.row σ.2.2 9 1 (AH eS σ.2.1.1)]) (λσ=>σ.1) (F,(([]:List Ai),0),(.slice none 0 0         )) hk (AG.c Aa (AG.c Aa (AG.c Aa (AG.c Aa AG.nil)))) (sC sN) (λσ=>HY F σ.1=some r) (λσ=>[(4,rv σ.2)]) (λσ=>[.row σ.2 9 1 (AH eS σ.1)]) ?_ ?_))))))))))))))
 ·rintro⟨hD,⟨hb,hf⟩,v37⟩ hl;refine GC ?_;obtain⟨hm,rfl,hn,hd,hg⟩:=Di hl;replace hd:Hd F records hb hf=some hn:=hd;unfold Hd at hd;refine Am (wv (Dh Aa Aa) (Aw (Ao (cz hd Aa (λho hp=>?_) (λho hq=>?_)))))
  ·refine A0 (AX (Ao (AS (Am (ck hp λhr hs=>wv (AW (enc:=BS) (ys:=records) Kb IN Aa Aa hr) (wv (AJ Od Aa Aa) (wa Aa (B0 (wm Aa (ob hs λha ht hu=>DI Tryz.call81 (Ac1 F (Aq records hf) ha ht) Aa (wm Aa (wv (A8 Aa Aa) (wv (A8 Aa Aa) (wa Aa (wa Aa (Aw (Ao (Am (wm Aa (wv (BQ Aa Aa) (Aw ?_)))))))))))))))))))));refine cz hu Aa (λhw hx=>?_) (λhw hy=>?_)
   ·refine Am (wv (r:=rS ([]:Ai)) (AA Aa) (wa Aa (Aw (A4 (Ae (AB (Ae (Ae (Be ?_)))))))));have hz:=B1 hx hg hi;refine AB (Ae ?_);obtain rfl:=A7 hz;exact A3 (E3 Tryz.results48 (AR Aa) (AR Aa)) (sS sN) ⟨Aa,Aa⟩
   refine A0 (AX (An (wm Aa (wm Aa (Bf (ys:=([ha.1]:List Ai)) (enc:=eS) (css:=[[rS ha.1]]) (xs:=[.tmp 25]) CD BX V4 Aa Aa Aa ⟨E4.one Aa (Up.refl _),trivial⟩ Aa DC Aa Aa Aa (λhE=>?_))))));refine ck hy λh0 h1=>Exists.elim P9 λinf hinf=>Cc (xs:=hb) (ys:=([ha.1]:List Ai)) (enc:=eS) (i:=1) CD hinf.1 hinf.2.1 hinf.2.2.1 hinf.2.2.2 Aa Aa Aa Aa Aa (JG.w (i:=0) Aa Aa) DC LR h0 Aa (λh2=>?_);refine wa Aa (As (AK (AX (An (ck h1 λh3 h4=>wv (BW Aa Aa h3) (wm Aa (As ?_)))))));have h5:=B9 h4 hg;exact Ay (AE (hm,(hb++([ha.1]:List Ai),hf+1),h2) ⟨h5,AfV _⟩ (AG.c Aa (AG.c Aa (AG.c Aa (AG.c Aa AG.nil)))) (sC (sS sN)))
  refine B3 (A9 ?_);have h6:=Cw hq hg hi;exact A9 (Bo (AE (hb,v37) h6 (AG.c Aa AG.nil) (sC sN)))
 rintro⟨hh,hG⟩ he;refine JZ ?_;replace he:HY F hh=some r:=he;unfold HY at he;refine Bn (AX (Am (wm Aa (WL.freeze (i:=0) Aa (WL.up (d:=30) (r:=Br 1 (AH eS hh)) Aa (Up.fact (i:=0) Aa) (ob he λh7 h8 h9=>DI Tryz.call82 (Ac3 F hh h7 h8) Aa (wm Aa (wv (A8 Aa Aa) (wv (A8 Aa Aa) (wa Aa (wa Aa (Aw (Ao (Am (wm Aa (wv (BQ Aa Aa) (Aw (cz h9 Aa (λhA hB=>?_) (λhA hC=>?_)))))))))))))))))))
 ·refine Am (wv (r:=rS ([]:Ai)) (AA Aa) (wa Aa (Aw (A4 (Ae ?_)))));obtain rfl:=A7 hB;exact A3 (E3 Tryz.results48 (AR Aa) (AR Aa)) (sS sN) ⟨Aa,Aa⟩
 refine A0 (AX (Am (wm Aa (wa Aa (wa Aa (Aw (A4 ?_)))))));obtain rfl:=A7 hC;exact A3 (E3 Tryz.results48 (AR Aa) (AR Aa)) (sS sN) ⟨Aa,Aa⟩
theorem KV (F:Nat)(c:AC)(r:Ai×Int)(h:H7 F c=some r):Fn Tryz.prog GE 25 [BL (B6 c)] [] (λR H=>R=CZ [rS r.1,AD r.2]∧H=[]):=by
 refine enter (n:=55) Tryz.func25 Aa Tryz.ntmps25 Aa (λw Z=>?_);unfold H7 at h;refine Am (CN Aa Aa (λb1=>?_));refine wv (r:=rS ([]:Ai)) (AA Aa) (wa Aa (Aw (Ao (Am (wv (Bi (i:=0) GG DM Aa Aa Aa Aa) (ob h λr2 e4 h3=>DI YJ (T6 F c r2 e4) Aa (wa Aa (B0 (wm Aa (wv (BQ Aa Aa) (Aw (cz h3 Aa (λc5 h6=>?_) (λc5 h7=>?_)))))))))))))
 ·refine Am (wm Aa (wv (r:=rS ([]:Ai)) (AA Aa) (wa Aa (Aw (A4 (Ae ?_))))));obtain rfl:=A7 h6;exact A3 (E3 Ab3 (AR Aa) (AR Aa)) (sS sN) ⟨Aa,Aa⟩
 refine A0 (AX (Ao (ck h7 λg8 h9=>ck h9 λhl hm=>ob hm λhd hn ho=>Dr 13 [1] [⟨[],rP b1 0,none,none,none⟩,⟨[0],rS c.fEvent,none,none,none⟩,⟨[],rP b1 1,none,none,none⟩,⟨[2],rS c.fTenant,none,none,none⟩,⟨[],rP b1 2,none,none,none⟩,⟨[4],AD c.fAttempt,none,none,none⟩,⟨[5],rS (Lib.itoa c.fAttempt),none,none,none⟩,⟨[],rP b1 5,none,none,none⟩,⟨[7],AD c.fAt,none,none,none⟩,⟨[8],rS (Lib.itoa c.fAt),none,none,none⟩,⟨[],rP b1 3,none,none,none⟩,⟨[10],Br 4 (AH Ah c.fResult),none,none,none⟩,⟨[11],rS hd,none,none,none⟩] ?_ (λβ=>?_))))
 ·refine Do (Au C6 Aa BX Aa Aa) (HW (AM (i:=0) Cf Aa Aa Aa) (Do (Au C6 Aa BX Aa Aa) (HW (AM (i:=0) Cf Aa Aa Aa) (Do (Au C6 Aa Cy Aa Aa) (HW (AM (i:=0) CO Aa Aa Aa) (NL (Et (rs:=[AD c.fAttempt]) (r:=rS (Lib.itoa c.fAttempt)) OG Aa (EL c.fAttempt g8) Aa) (Do (Au C6 Aa Cy Aa Aa) (HW (AM (i:=0) CO Aa Aa Aa) (NL (Et (rs:=[AD c.fAt]) (r:=rS (Lib.itoa c.fAt)) OG Aa (EL c.fAt hl) Aa) (Do (Au C6 Aa CR Aa Aa) (HW (AM (i:=0) EC Aa Aa Aa) (NL (G0 Tryz.call47 (O1 F c.fResult hd hn) Aa) ?_))))))))))));exact Sh
 refine Dq (H1:=[.blk b1 (B6 c) 34]) [13,14,15,16,17,18,19,20,21,22,23,24,25,1] ?_;refine Bf (ys:=([([99,111,109,109,105,116]:Ai),c.fEvent,c.fTenant,Lib.itoa c.fAttempt,Lib.itoa c.fAt,hd]:List Ai)) (enc:=eS) (css:=[[rS ([99,111,109,109,105,116]:Ai)],[rS c.fEvent],[rS c.fTenant],[rS (Lib.itoa c.fAttempt)],[rS (Lib.itoa c.fAt)],[rS hd]]) (xs:=[.const (.string ⟨#[99,111,109,109,105,116]⟩),.tmp 14,.tmp 16,.tmp 19,.tmp 22,.tmp 25]) CD BX V4 Aa Aa Aa ⟨E4.one Aa (Up.refl _),E4.one Aa (Up.refl _),E4.one Aa (Up.refl _),E4.one Aa (Up.refl _),E4.one Aa (Up.refl _),E4.one Aa (Up.refl _),trivial⟩ Aa DC Aa Aa Aa (λhN=>?_);refine WL.freeze (i:=0) Aa (Bf (ys:=([([([99,111,109,109,105,116]:Ai),c.fEvent,c.fTenant,Lib.itoa c.fAttempt,Lib.itoa c.fAt,hd]:List Ai)]:List (List Ai))) (enc:=BS) (css:=[[Br 1 (AH eS ([([99,111,109,109,105,116]:Ai),c.fEvent,c.fTenant,Lib.itoa c.fAttempt,Lib.itoa c.fAt,hd]:List Ai))]]) (xs:=[.tmp 26]) Kb IN WF Aa Aa Aa ⟨E4.one Aa (Up.fact (i:=0) Aa),trivial⟩ Aa DX Aa Aa Aa (λhp=>?_));refine wa Aa (Aw (Ao (Am (vF C6 Aa Kc (vL 2 MU Aa (wv (Bx (ys:=c.fEffects) (enc:=Av) Hy Aa) (wv (r:=AD 0) (Aj Aa) (Aw (AS (ob ho λhq hr hs=>B4 (S:=Nat×((List (List Ai))×Int)×(Value)) (V:=((List (List Ai)))×(Value)) 0 (λσ=>Ci (λσ=>Ew F c σ.1 σ.2) σ.1 σ.2.1=some hq) (λσ=>[(5,rv σ.2.2),(29,Br 4 (AH Av c.fEffects)),(30,AD (c.fEffects.length:Int)),(31,AD σ.2.1.2)]) (λσ=>[.row σ.2.2 42 1 (AH BS σ.2.1.1)]) (λσ=>σ.1) (F,(([([([99,111,109,109,105,116]:Ai),c.fEvent,c.fTenant,Lib.itoa c.fAttempt,Lib.itoa c.fAt,hd]:List Ai)]:List (List Ai)),0),(.slice (some ⟨hp,0,none⟩) 1 1)) hr (AG.c Aa (AG.c Aa (AG.c Aa (AG.c Aa AG.nil)))) (sC (sS (sS sN))) (λσ=>EZ F σ.1=some r) (λσ=>[(5,rv σ.2)]) (λσ=>[.row σ.2 42 1 (AH BS σ.1)]) ?_ ?_))))))))))
 ·rintro⟨hO,⟨he,ha⟩,hi⟩ ht;refine GC ?_;obtain⟨hu,rfl,t80,hg,hk⟩:=Di ht;replace hg:Ew F c he ha=some t80:=hg;unfold Ew at hg;refine Am (wv (Dh Aa Aa) (Aw (Ao (cz hg Aa (λhw hx=>?_) (λhw hy=>?_)))))
  ·refine A0 (AX (Ao (AS (Am (ck hx λhz h0=>wv (AW (enc:=Av) (ys:=c.fEffects) Hy Dj Aa Aa hz) (wv (Dm Is Dj Aa Aa Aa) (BZ (cs:=[AD 0,rS ([]:Ai),rv (.slice none 0 0),AD 0]) L7 Aa Aa (λhf=>?_))))))));refine LZ (i:=0) Dj Aa Aa Aa (Cm.c Aa) Aa Aa ?_;refine Aw (ck h0 λh1 h2=>ck h2 λh4 h5=>ob h5 λhb h8 hA=>Dr 14 [5,7,29,30,31] [⟨[],rv hi,none,none,none⟩,⟨[],rP hf 0,none,none,none⟩,⟨[1],AD ((Aq c.fEffects ha).fKind),none,none,none⟩,⟨[2],rS (Lib.itoa ((Aq c.fEffects ha).fKind)),none,none,none⟩,⟨[],rP hf 1,none,none,none⟩,⟨[4],rS ((Aq c.fEffects ha).fKey),none,none,none⟩,⟨[],rP hf 3,none,none,none⟩,⟨[6],AD ((Aq c.fEffects ha).fDelay),none,none,none⟩,⟨[7],rS (Lib.itoa ((Aq c.fEffects ha).fDelay)),none,none,none⟩,⟨[],rP hf 2,none,none,none⟩,⟨[9],Br 4 (AH Ah ((Aq c.fEffects ha).fValue)),none,none,none⟩,⟨[10],rS hb,none,none,none⟩,⟨[3,5,8,11],Br 1 (AH eS ([Lib.itoa ((Aq c.fEffects ha).fKind),(Aq c.fEffects ha).fKey,Lib.itoa ((Aq c.fEffects ha).fDelay),hb]:List Ai)),none,none,none⟩,⟨[12],Br 1 (AH BS ([([Lib.itoa ((Aq c.fEffects ha).fKind),(Aq c.fEffects ha).fKey,Lib.itoa ((Aq c.fEffects ha).fDelay),hb]:List Ai)]:List (List Ai))),none,none,none⟩] ?_ (λβ=>?_))
   ·refine Do (Aj Aa) (Do (Au Cv Aa Hk Aa Aa) (HW (AM (i:=0) Hl Aa Aa Aa) (NL (Et (rs:=[AD ((Aq c.fEffects ha).fKind)]) (r:=rS (Lib.itoa ((Aq c.fEffects ha).fKind))) OG Aa (EL ((Aq c.fEffects ha).fKind) h1) Aa) (Do (Au Cv Aa BX Aa Aa) (HW (AM (i:=0) Cf Aa Aa Aa) (Do (Au Cv Aa Cy Aa Aa) (HW (AM (i:=0) CO Aa Aa Aa) (NL (Et (rs:=[AD ((Aq c.fEffects ha).fDelay)]) (r:=rS (Lib.itoa ((Aq c.fEffects ha).fDelay))) OG Aa (EL ((Aq c.fEffects ha).fDelay) h4) Aa) (Do (Au Cv Aa CR Aa Aa) (HW (AM (i:=0) EC Aa Aa Aa) (NL (G0 Tryz.call47 (O1 F ((Aq c.fEffects ha).fValue) hb h8) Aa) (NL (C4 (ys:=([Lib.itoa ((Aq c.fEffects ha).fKind),(Aq c.fEffects ha).fKey,Lib.itoa ((Aq c.fEffects ha).fDelay),hb]:List Ai)) (enc:=eS) (css:=[[rS (Lib.itoa ((Aq c.fEffects ha).fKind))],[rS ((Aq c.fEffects ha).fKey)],[rS (Lib.itoa ((Aq c.fEffects ha).fDelay))],[rS hb]]) (xs:=[.tmp 38,.tmp 40,.tmp 43,.tmp 46]) CD BX V4 Aa Aa Aa ⟨E4.one Aa (Up.refl _),E4.one Aa (Up.refl _),E4.one Aa (Up.refl _),E4.one Aa (Up.refl _),trivial⟩ Aa DC Aa Aa) (NL (C4 (ys:=([([Lib.itoa ((Aq c.fEffects ha).fKind),(Aq c.fEffects ha).fKey,Lib.itoa ((Aq c.fEffects ha).fDelay),hb]:List Ai)]:List (List Ai))) (enc:=BS) (css:=[[Br 1 (AH eS ([Lib.itoa ((Aq c.fEffects ha).fKind),(Aq c.fEffects ha).fKey,Lib.itoa ((Aq c.fEffects ha).fDelay),hb]:List Ai))]]) (xs:=[.tmp 47]) Kb IN WF Aa Aa Aa ⟨E4.one Aa (Up.refl _),trivial⟩ Aa DX Aa Aa) ?_)))))))))))));exact Sh
   refine Dq (H1:=[.blk hf (Av (Aq c.fEffects ha)) 65,.row hi 42 1 (AH BS he)]) [35,36,37,38,39,40,41,42,43,44,45,46,47,48,5,7,29,30,31] ?_;refine ck hA λhB hC=>Exists.elim Vj λinf hinf=>Cc (xs:=he) (ys:=([([Lib.itoa ((Aq c.fEffects ha).fKind),(Aq c.fEffects ha).fKey,Lib.itoa ((Aq c.fEffects ha).fDelay),hb]:List Ai)]:List (List Ai))) (enc:=BS) (i:=1) Kb hinf.1 hinf.2.1 hinf.2.2.1 hinf.2.2.2 Aa Aa Aa Aa Aa (JG.z Aa Aa) DX LS hB Aa (λhD=>?_);refine wa Aa (As (AK (AX (An (ck hC λhE hG=>wv (BW Aa Aa hE) (wm Aa (As ?_)))))));have hH:=B9 hG hk;exact Ay (AE (hu,(he++([([Lib.itoa ((Aq c.fEffects ha).fKind),(Aq c.fEffects ha).fKey,Lib.itoa ((Aq c.fEffects ha).fDelay),hb]:List Ai)]:List (List Ai)),ha+1),hD) ⟨hH,AfV _⟩ (AG.c Aa (AG.c Aa (AG.c Aa (AG.c Aa AG.nil)))) (sC (sS sN)))
  refine B3 (A9 ?_);have hI:=Cw hy hk hs;exact A9 (Bo (AE (he,hi) hI (AG.c Aa AG.nil) (sC sN)))
 rintro⟨hj,v76⟩ hh;refine JZ ?_;replace hh:EZ F hj=some r:=hh;unfold EZ at hh;refine Bn (AX (Am (wm Aa (WL.freeze (i:=0) Aa (WL.up (d:=51) (r:=Br 1 (AH BS hj)) Aa (Up.fact (i:=0) Aa) (ob hh λhJ hK hL=>DI Tryz.call48 (Sn F hj hJ hK) Aa (wv (A8 Aa Aa) (wv (A8 Aa Aa) (wa Aa (wa Aa (Aw (A4 ?_))))))))))));obtain rfl:=A7 hL;exact A3 (E3 Ab3 (AR Aa) (AR Aa)) (sS sN) ⟨Aa,Aa⟩
theorem G1 (F:Nat)(id:Ai)(r:Ai×Int)(h:DV F id=some r):Fn Tryz.prog GE 29 [rS id] [] (λR H=>R=CZ [rS r.1,AD r.2]∧H=[]):=by
 refine enter (n:=13) Tryz.func29 Aa Tryz.ntmps29 Aa (λw Z=>?_);unfold DV at h;refine Am (wv (r:=rS ([]:Ai)) (AA Aa) (wa Aa (Aw (Ao (Am (wm Aa (Ds (rs:=[rS id]) (r:=rB (K3 id)) YF Aa (Acv id) Aa Aa (wv (BT Aa) (Aw (cz h Aa (λc1 h2=>?_) (λc1 h3=>?_)))))))))))
 ·refine Am (wv (r:=rS ([]:Ai)) (AA Aa) (wa Aa (Aw (A4 (Ae ?_)))));obtain rfl:=A7 h2;exact A3 (E3 Tryz.results29 (AR Aa) (AR Aa)) sN ⟨Aa,Aa⟩
 refine A0 (AX (Am (wm Aa (Bf (ys:=([([97,99,107]:Ai),id]:List Ai)) (enc:=eS) (css:=[[rS ([97,99,107]:Ai)],[rS id]]) (xs:=[.const (.string ⟨#[97,99,107]⟩),.tmp 7]) CD BX V4 Aa Aa Aa ⟨E4.one Aa (Up.refl _),E4.one Aa (Up.refl _),trivial⟩ Aa DC Aa Aa Aa (λb4=>?_)))));refine WL.freeze (i:=0) Aa (Bf (ys:=([([([97,99,107]:Ai),id]:List Ai)]:List (List Ai))) (enc:=BS) (css:=[[Br 1 (AH eS ([([97,99,107]:Ai),id]:List Ai))]]) (xs:=[.tmp 8]) Kb IN WF Aa Aa Aa ⟨E4.one Aa (Up.fact (i:=0) Aa),trivial⟩ Aa DX Aa Aa Aa (λb5=>?_));refine WL.freeze (i:=0) Aa (WL.up (d:=9) (r:=Br 1 (AH BS ([([([97,99,107]:Ai),id]:List Ai)]:List (List Ai)))) Aa (Up.fact (i:=0) Aa) (ob h3 λr6 e8 h7=>DI Tryz.call48 (Sn F ([([([97,99,107]:Ai),id]:List Ai)]:List (List Ai)) r6 e8) Aa (wv (A8 Aa Aa) (wv (A8 Aa Aa) (wa Aa (wa Aa (Aw (A4 ?_))))))));obtain rfl:=A7 h7;exact A3 (E3 Tryz.results29 (AR Aa) (AR Aa)) (sS (sS sN)) ⟨Aa,Aa⟩
theorem Xz (F:Nat)(l:(List (List Ai)))(r:AC×Bool)(h:M0 F l=some r):Fn Tryz.prog GE 64 [Br 1 (AH BS l)] [] (λR H=>R=CZ [BL (B6 r.1),rB r.2]∧H=[]):=by
 refine enter (n:=131) Tryz.func64 Aa Tryz.ntmps64 Aa (λw Z=>?_);unfold M0 at h;refine Am (BZ (cs:=[rS ([]:Ai),rS ([]:Ai),AD 0,rv (.slice none 0 0),rv (.slice none 0 0),AD 0]) Abz Aa Aa (λb1=>?_));refine wa Aa (B0 (BZ (cs:=[rS ([]:Ai),rS ([]:Ai),AD 0,rv (.slice none 0 0),rv (.slice none 0 0),AD 0]) Abz Aa Aa (λb2=>?_)));refine Aw (Ao (Am (wm Aa (wv (Bx (ys:=l) (enc:=BS) Kb Aa) (wv (r:=AD 0) (Aj Aa) (Aw (AS (WC.nilrow (e:=65) (sz:=4) (WC.upBlk (i:=1) (cs':=[rS ([]:Ai),rS ([]:Ai),AD 0,Br 4 (AH Ah ([]:List Ab)),rv (.slice none 0 0),AD 0]) Aa ⟨Up.refl _,Up.refl _,Up.refl _,Up.le (LW.nil _),Up.refl _,Up.refl _,trivial⟩ (Hz (H2:=[.blk b2 [rS ([]:Ai),rS ([]:Ai),AD 0,Br 4 (AH Ah ([]:List Ab)),rv (.slice none 0 0),AD 0] 34,.blk b1 [rS ([]:Ai),rS ([]:Ai),AD 0,rv (.slice none 0 0),rv (.slice none 0 0),AD 0] 34,.row (.slice none 0 0                                                                 ) 65 4 (AH Av ([]:List Ap))]) ((AP (i:=1) Aa).trans (AfQ _ ((AP (i:=1) Aa).trans (AfQ _ (AfX _))))) (ob h λh9 hA ho=>B4 (S:=Nat×(Int×Ai×Ai×Int×(List Ab)×(List Ap)×Int)×(Value)) (V:=(Ai×Ai×Int×(List Ab)×(List Ap)×Int)×(Value)) 0 (λσ=>Ci (λσ=>Ey F l σ.1 σ.2.1 σ.2.2.1 σ.2.2.2.1 σ.2.2.2.2.1 σ.2.2.2.2.2.1 σ.2.2.2.2.2.2) σ.1 σ.2.1=some h9) (λσ=>[(2,rP b1 0),(4,rP b2 0),(14,Br 1 (AH BS l)),(15,AD (l.length:Int)),(16,AD σ.2.1.1)]) (λσ=>[.blk b2 [rS σ.2.1.2.1,rS σ.2.1.2.2.1,AD σ.2.1.2.2.2.1,Br 4 (AH Ah σ.2.1.2.2.2.2.1),rv σ.2.2,AD σ.2.1.2.2.2.2.2.2] 34,.blk b1 [rS ([]:Ai),rS ([]:Ai),AD 0,rv (.slice none 0 0),rv (.slice none 0 0),AD 0] 34,.row σ.2.2 65 4 (AH Av σ.2.1.2.2.2.2.2.1)]) (λσ=>σ.1) (F,(0,([]:Ai),([]:Ai),0,([]:List Ab),([]:List Ap),0),(.slice none 0 0                                                                 )) hA (AG.c5 Aa Aa Aa Aa Aa AG.nil) (sC (sC (sC sN))) (λσ=>HZ σ.1.1 σ.1.2.1 σ.1.2.2.1 σ.1.2.2.2.1 σ.1.2.2.2.2.1 σ.1.2.2.2.2.2=some r) (λσ=>[(2,rP b1 0),(4,rP b2 0)]) (λσ=>[.blk b2 [rS σ.1.1,rS σ.1.2.1,AD σ.1.2.2.1,Br 4 (AH Ah σ.1.2.2.2.1),rv σ.2,AD σ.1.2.2.2.2.2] 34,.blk b1 [rS ([]:Ai),rS ([]:Ai),AD 0,rv (.slice none 0 0),rv (.slice none 0 0),AD 0] 34,.row σ.2 65 4 (AH Av σ.1.2.2.2.2.1)]) ?_ ?_)))))))))))
 ·rintro⟨gR,⟨ha,hk,hh,he,hf,hb,hg⟩,hd⟩ hB;refine GC ?_;obtain⟨hC,rfl,hu,hr,hn⟩:=Di hB;replace hr:Ey F l ha hk hh he hf hb hg=some hu:=hr;unfold Ey at hr;refine Am (wv (Dh Aa Aa) (Aw (Ao (cz hr Aa (λhD hE=>?_) (λhD hG=>?_)))))
  ·refine A0 (AX (Cn (S:=(Ai×Ai×Int×(List Ab)×(List Ap)×Int)×(Value)) (λσ=>Ex ha σ.1.1 σ.1.2.1 σ.1.2.2.1 σ.1.2.2.2.1 σ.1.2.2.2.2.1 σ.1.2.2.2.2.2=some hu) (λσ=>[(2,rP b1 0),(4,rP b2 0),(14,Br 1 (AH BS l)),(15,AD (l.length:Int)),(16,AD ha)]) (λσ=>[.blk b2 [rS σ.1.1,rS σ.1.2.1,AD σ.1.2.2.1,Br 4 (AH Ah σ.1.2.2.2.1),rv σ.2,AD σ.1.2.2.2.2.2] 34,.blk b1 [rS ([]:Ai),rS ([]:Ai),AD 0,rv (.slice none 0 0),rv (.slice none 0 0),AD 0] 34,.row σ.2 65 4 (AH Av σ.1.2.2.2.2.1)]) ?_ ?_))
   ·refine AS (Am (wm Aa (ck hE λhH hI=>wv (AW (enc:=BS) (ys:=l) Kb IN Aa Aa hH) (wv (AJ Od Aa Aa) (wa Aa (wa Aa (B0 (wa Aa (B0 (wa Aa (wa Aa (Aw (AS (AV [(2,rP b1 0),(4,rP b2 0),(5,AD ha),(6,Br 1 (AH eS (Aq l ha))),(7,rv (.slice none 0 0)),(14,Br 1 (AH BS l)),(15,AD (l.length:Int)),(16,AD ha),(22,rB ((decide (ha=0))&&(decide (((Aq l ha).length:Int)=6))))] [.blk b2 [rS hk,rS hh,AD he,Br 4 (AH Ah hf),rv hd,AD hg] 34,.blk b1 [rS ([]:Ai),rS ([]:Ai),AD 0,rv (.slice none 0 0),rv (.slice none 0 0),AD 0] 34,.row hd 65 4 (AH Av hb)] ?_ ?_))))))))))))))
    ·refine An (wm Aa (wv (BR Aa Aa) (wm Aa (AY (decide (ha=0)) (λhi=>?_) (λhi=>?_)))))
     ·refine wo hi (wm Aa (wo hi (wv (Bx (ys:=Aq l ha) (enc:=eS) CD Aa) (wo hi (wv (BR Aa Aa) (It Aa hi Aa (wa Aa (As ?_))))))));exact CI hi
     refine wf hi (wf hi (wf hi (wv (r:=rB false) (A2 Aa hi Aa) (wa Aa (As ?_)))));exact CI hi
    refine cz hI Aa (λhJ hK=>?_) (λhJ hL=>?_)
    ·refine Ao (ck hK λhN hO=>ck hO λhP hQ=>HQ (H1:=[.blk b2 [rS (Aq (Aq l ha) 1),rS (Aq (Aq l ha) 2),AD he,Br 4 (AH Ah hf),rv hd,AD hg] 34,.blk b1 [rS ([]:Ai),rS ([]:Ai),AD 0,rv (.slice none 0 0),rv (.slice none 0 0),AD 0] 34,.row hd 65 4 (AH Av hb)]) [2,4,6,14,15,16] [⟨[],Br 1 (AH eS (Aq l ha)),0⟩,⟨[0],rAt [rS (Aq (Aq l ha) 1)],0⟩,⟨[1],rS (Aq (Aq l ha) 1),0⟩,⟨[],Br 1 (AH eS (Aq l ha)),0⟩,⟨[3],rAt [rS (Aq (Aq l ha) 2)],0⟩,⟨[4],rS (Aq (Aq l ha) 2),0⟩,⟨[],rP b2 0,0⟩,⟨[6,2],rv undef,2⟩,⟨[],rP b2 1,0⟩,⟨[8,5],rv undef,2⟩] (rle [(8,_),(2,[.blk b2 [rS (Aq (Aq l ha) 1),rS hh,AD he,Br 4 (AH Ah hf),rv hd,AD hg] 34,.blk b1 [rS ([]:Ai),rS ([]:Ai),AD 0,rv (.slice none 0 0),rv (.slice none 0 0),AD 0] 34,.row hd 65 4 (AH Av hb)]),(1,[.blk b2 [rS (Aq (Aq l ha) 1),rS (Aq (Aq l ha) 2),AD he,Br 4 (AH Ah hf),rv hd,AD hg] 34,.blk b1 [rS ([]:Ai),rS ([]:Ai),AD 0,rv (.slice none 0 0),rv (.slice none 0 0),AD 0] 34,.row hd 65 4 (AH Av hb)])]) [2,4,6,14,15,16] ?_ ?_)
     ·refine oq (Aj Aa) (oq (AW (enc:=eS) (ys:=Aq l ha) CD BX Aa Aa hN) (oq (AJ Cf Aa Aa) (oq (Aj Aa) (oq (AW (enc:=eS) (ys:=Aq l ha) CD BX Aa Aa hP) (oq (AJ Cf Aa Aa) (oq (Au C6 Aa BX Aa Aa) (Kq Aa (Sf (Lm (i:=0) BX Aa Aa (B5 Aa) Aa Aa (cs':=[rS (Aq (Aq l ha) 1),rS hh,AD he,Br 4 (AH Ah hf),rv hd,AD hg]) Aa (H':=[.blk b2 [rS (Aq (Aq l ha) 1),rS hh,AD he,Br 4 (AH Ah hf),rv hd,AD hg] 34,.blk b1 [rS ([]:Ai),rS ([]:Ai),AD 0,rv (.slice none 0 0),rv (.slice none 0 0),AD 0] 34,.row hd 65 4 (AH Av hb)]) Aa)) ?_)))))));refine oq (Au C6 Aa BX Aa Aa) (Kq Aa (Sf (Lm (i:=0) BX Aa Aa (B5 Aa) Aa Aa (cs':=[rS (Aq (Aq l ha) 1),rS (Aq (Aq l ha) 2),AD he,Br 4 (AH Ah hf),rv hd,AD hg]) Aa (H':=[.blk b2 [rS (Aq (Aq l ha) 1),rS (Aq (Aq l ha) 2),AD he,Br 4 (AH Ah hf),rv hd,AD hg] 34,.blk b1 [rS ([]:Ai),rS ([]:Ai),AD 0,rv (.slice none 0 0),rv (.slice none 0 0),AD 0] 34,.row hd 65 4 (AH Av hb)]) Aa)) ?_);exact Hu
     refine AX (Am (wa Aa (wa Aa (wa Aa (B0 (wm Aa (ck hQ λhR hS=>wv (AW (enc:=eS) (ys:=Aq l ha) CD BX Aa Aa hR) (wv (AJ Cf Aa Aa) (ck hS λhT hU=>Ds (rs:=[rS (Aq (Aq l ha) 3)]) (r:=CZ [AD (Bu (Aq (Aq l ha) 3)),AD (BH (Aq (Aq l ha) 3))]) YD Aa (Mw (Aq (Aq l ha) 3) hT) Aa Aa (wm Aa (wv (A8 Aa Aa) (wv (A8 Aa Aa) (vF C6 Aa Cy (us (i:=0) Cy Aa Aa (B5 Aa) Aa Aa ?_))))))))))))));refine wa Aa (B0 (wm Aa (ck hU λhV hW=>wv (AW (enc:=eS) (ys:=Aq l ha) CD BX Aa Aa hV) (wv (AJ Cf Aa Aa) (ck hW λhX hY=>Ds (rs:=[rS (Aq (Aq l ha) 4)]) (r:=CZ [AD (Bu (Aq (Aq l ha) 4)),AD (BH (Aq (Aq l ha) 4))]) YD Aa (Mw (Aq (Aq l ha) 4) hX) Aa Aa (wm Aa (wv (A8 Aa Aa) (wv (A8 Aa Aa) (vF C6 Aa Cy (us (i:=0) Cy Aa Aa (B5 Aa) Aa Aa ?_))))))))));refine wa Aa (B0 (wm Aa (ck hY λhZ ga=>wv (AW (enc:=eS) (ys:=Aq l ha) CD BX Aa Aa hZ) (wv (AJ Cf Aa Aa) (ob ga λhp gb gc=>DI Tryz.call100 (QA F (Aq (Aq l ha) 5) hp gb) Aa (wm Aa (wv (A8 Aa Aa) (wv (A8 Aa Aa) (vF C6 Aa CR (us (i:=0) CR Aa Aa (B5 Aa) Aa Aa ?_))))))))));refine wa Aa (Aw (AV [(2,rP b1 0),(4,rP b2 0),(14,Br 1 (AH BS l)),(15,AD (l.length:Int)),(16,AD ha),(71,rB ((!decide ((BH (Aq (Aq l ha) 3))=0))||((!decide ((BH (Aq (Aq l ha) 4))=0))||(!decide (hp.2=0)))))] [.blk b2 [rS (Aq (Aq l ha) 1),rS (Aq (Aq l ha) 2),AD (Bu (Aq (Aq l ha) 3)),Br 4 (AH Ah hp.1),rv hd,AD (Bu (Aq (Aq l ha) 4))] 34,.blk b1 [rS ([]:Ai),rS ([]:Ai),AD 0,rv (.slice none 0 0),rv (.slice none 0 0),AD 0] 34,.row hd 65 4 (AH Av hb)] ?_ ?_))
     ·refine An (wm Aa (wv (BQ Aa Aa) (wm Aa (AY (!decide ((BH (Aq (Aq l ha) 3))=0)) (λhl=>?_) (λhl=>?_)))))
      ·refine wf hl (wf hl (wv (r:=rB true) (A5 Aa hl Aa) (wm Aa (wz Aa Aa (wz Aa Aa (wv (r:=rB true) (A5 (b:=true) Aa Aa Aa) (As ?_)))))));exact CI hl
      refine wo hl (wm Aa (wo hl (wv (BQ Aa Aa) (G9 Aa hl Aa (wm Aa (AY (!decide ((BH (Aq (Aq l ha) 4))=0)) (λhm=>?_) (λhm=>?_)))))))
      ·refine wf hm (wf hm (wv (r:=rB true) (A5 Aa hm Aa) (As ?_)));exact CI (And.intro hl hm)
      refine wo hm (wm Aa (wo hm (wv (BQ Aa Aa) (G9 Aa hm Aa (As ?_)))));exact CI (And.intro hl hm)
     refine cz gc Aa (λgd ge=>?_) (λgd gf=>?_)
     ·refine Am (wv (Bi (i:=0) GG DM Aa Aa Aa Aa) (LZ (i:=1) DM Aa Aa Aa ⟨(B5 Aa),(B5 Aa),(B5 Aa),(B5 Aa),(C2 (i:=2) Aa),(B5 Aa),trivial⟩ Aa Aa ?_));refine wa Aa (Aw (A4 (AB (AB (Ae (Ae (Be ?_)))))));have gg:=B1 ge hn ho;refine AB (Ae (WK.freeze (i:=2) Aa (WK.upBlk (i:=2) (cs':=[rS (Aq (Aq l ha) 1),rS (Aq (Aq l ha) 2),AD (Bu (Aq (Aq l ha) 3)),Br 4 (AH Ah hp.1),Br 4 (AH Av hb),AD (Bu (Aq (Aq l ha) 4))]) Aa ⟨Up.refl _,Up.refl _,Up.refl _,Up.refl _,Up.fact (i:=0) Aa,Up.refl _,trivial⟩ ?_)));obtain rfl:=A7 gg;exact A3 (E3 WI (IW (i:=2) GG DM Aa Aa Aa) (AR Aa)) (sS (sS (sS sN))) ⟨Aa,Aa⟩
     exact A0 (AK (AK (Ay (AE ((Aq (Aq l ha) 1,Aq (Aq l ha) 2,Bu (Aq (Aq l ha) 3),hp.1,hb,Bu (Aq (Aq l ha) 4)),hd) gf (AG.c5 Aa Aa Aa Aa Aa AG.nil) (sC (sC (sC sN)))))))
    refine AV [(2,rP b1 0),(4,rP b2 0),(6,Br 1 (AH eS (Aq l ha))),(7,rv (.slice none 0 0)),(14,Br 1 (AH BS l)),(15,AD (l.length:Int)),(16,AD ha),(73,rB ((decide (0<ha))&&(decide (((Aq l ha).length:Int)=4))))] [.blk b2 [rS hk,rS hh,AD he,Br 4 (AH Ah hf),rv hd,AD hg] 34,.blk b1 [rS ([]:Ai),rS ([]:Ai),AD 0,rv (.slice none 0 0),rv (.slice none 0 0),AD 0] 34,.row hd 65 4 (AH Av hb)] ?_ ?_
    ·refine An (wm Aa (wv (DT Aa Aa) (wm Aa (AY (decide (0<ha)) (λhj=>?_) (λhj=>?_)))))
     ·refine wo hj (wm Aa (wo hj (wv (Bx (ys:=Aq l ha) (enc:=eS) CD Aa) (wo hj (wv (BR Aa Aa) (It Aa hj Aa (wa Aa (As ?_))))))));exact CI hj
     refine wf hj (wf hj (wf hj (wv (r:=rB false) (A2 Aa hj Aa) (wa Aa (As ?_)))));exact CI hj
    refine cz hL Aa (λgh gi=>?_) (λgh gj=>?_)
    ·refine Ao (Am (wm Aa (ck gi λgl gm=>wv (AW (enc:=eS) (ys:=Aq l ha) CD BX Aa Aa gl) (wv (AJ Cf Aa Aa) (ck gm λgp gq=>Ds (rs:=[rS (Aq (Aq l ha) 0)]) (r:=CZ [AD (Bu (Aq (Aq l ha) 0)),AD (BH (Aq (Aq l ha) 0))]) YD Aa (Mw (Aq (Aq l ha) 0) gp) Aa Aa (wm Aa (wv (A8 Aa Aa) (wv (A8 Aa Aa) (wa Aa (wa Aa (B0 (wm Aa (wv (BQ Aa Aa) (Aw (cz gq Aa (λgr gs=>?_) (λgr gt=>?_))))))))))))))))
     ·refine Am (wv (Bi (i:=0) GG DM Aa Aa Aa Aa) (LZ (i:=1) DM Aa Aa Aa ⟨(B5 Aa),(B5 Aa),(B5 Aa),(B5 Aa),(C2 (i:=2) Aa),(B5 Aa),trivial⟩ Aa Aa ?_));refine wa Aa (Aw (A4 (Ae (AB (AB (Ae (Ae (Be ?_))))))));have gu:=B1 gs hn ho;refine AB (Ae (WK.freeze (i:=2) Aa (WK.upBlk (i:=2) (cs':=[rS hk,rS hh,AD he,Br 4 (AH Ah hf),Br 4 (AH Av hb),AD hg]) Aa ⟨Up.refl _,Up.refl _,Up.refl _,Up.refl _,Up.fact (i:=0) Aa,Up.refl _,trivial⟩ ?_)));obtain rfl:=A7 gu;exact A3 (E3 WI (IW (i:=2) GG DM Aa Aa Aa) (AR Aa)) (sS (sS (sS sN))) ⟨Aa,Aa⟩
     refine A0 (AX (Am (wm Aa (wm Aa (ck gt λgv gw=>wv (AW (enc:=eS) (ys:=Aq l ha) CD BX Aa Aa gv) (wv (AJ Cf Aa Aa) (wv (r:=BL [AD (Bu (Aq (Aq l ha) 0)),rS (Aq (Aq l ha) 1),rv (.slice none 0 0),AD 0]) (Qp Aa Aa Aa Aa) (BZ (cs:=[AD 0,rS ([]:Ai),rv (.slice none 0 0),AD 0]) L7 Aa Aa (λgS=>?_)))))))));refine LZ (i:=0) Dj Aa Aa Aa (Cm.c Aa) Aa Aa ?_;refine Aw (Ao (Am (wm Aa (ck gw λgx gy=>wv (AW (enc:=eS) (ys:=Aq l ha) CD BX Aa Aa gx) (wv (AJ Cf Aa Aa) (ck gy λgz g0=>Ds (rs:=[rS (Aq (Aq l ha) 2)]) (r:=CZ [AD (Bu (Aq (Aq l ha) 2)),AD (BH (Aq (Aq l ha) 2))]) YD Aa (Mw (Aq (Aq l ha) 2) gz) Aa Aa (wm Aa (wv (A8 Aa Aa) (wv (A8 Aa Aa) (vF Cv Aa Cy (us (i:=0) Cy Aa Aa (B5 Aa) Aa Aa ?_)))))))))));refine wa Aa (B0 (wm Aa (wv (BQ Aa Aa) (Aw (cz g0 Aa (λg1 g2=>?_) (λg1 g3=>?_))))))
     ·refine Am (wv (Bi (i:=1) GG DM Aa Aa Aa Aa) (LZ (i:=2) DM Aa Aa Aa ⟨(B5 Aa),(B5 Aa),(B5 Aa),(B5 Aa),(C2 (i:=3) Aa),(B5 Aa),trivial⟩ Aa Aa ?_));refine wa Aa (Aw (A4 (Ae (AB (AB (Ae (Ae (Be ?_))))))));have g4:=B1 g2 hn ho;refine AB (Ae (WK.freeze (i:=3) Aa (WK.upBlk (i:=3) (cs':=[rS hk,rS hh,AD he,Br 4 (AH Ah hf),Br 4 (AH Av hb),AD hg]) Aa ⟨Up.refl _,Up.refl _,Up.refl _,Up.refl _,Up.fact (i:=0) Aa,Up.refl _,trivial⟩ ?_)));obtain rfl:=A7 g4;exact A3 (E3 WI (IW (i:=3) GG DM Aa Aa Aa) (AR Aa)) (sS (sS (sS (sS sN)))) ⟨Aa,Aa⟩
     refine A0 (AX (Ao (Am (wm Aa (ck g3 λhw g5=>wv (AW (enc:=eS) (ys:=Aq l ha) CD BX Aa Aa hw) (wv (AJ Cf Aa Aa) (wv (CQ Aa Aa) (Aw (cz g5 Aa (λg6 g7=>?_) (λg6 g8=>?_))))))))))
     ·refine Am (wm Aa (wv (AW (enc:=eS) (ys:=Aq l ha) CD BX Aa Aa hw) (wv (AJ Cf Aa Aa) (ob g7 λhq g9 gA=>DI Tryz.call100 (QA F (Aq (Aq l ha) 3) hq g9) Aa (wm Aa (wv (A8 Aa Aa) (wv (A8 Aa Aa) (wa Aa (wa Aa (B0 (wm Aa (wv (BQ Aa Aa) (Aw (cz gA Aa (λgB gC=>?_) (λgB gD=>?_)))))))))))))))
      ·refine Am (wv (Bi (i:=1) GG DM Aa Aa Aa Aa) (LZ (i:=2) DM Aa Aa Aa ⟨(B5 Aa),(B5 Aa),(B5 Aa),(B5 Aa),(C2 (i:=3) Aa),(B5 Aa),trivial⟩ Aa Aa ?_));refine wa Aa (Aw (A4 (Ae (AB (AB (Ae (Ae (Be ?_))))))));have gE:=B1 gC hn ho;refine AB (Ae (WK.freeze (i:=3) Aa (WK.upBlk (i:=3) (cs':=[rS hk,rS hh,AD he,Br 4 (AH Ah hf),Br 4 (AH Av hb),AD hg]) Aa ⟨Up.refl _,Up.refl _,Up.refl _,Up.refl _,Up.fact (i:=0) Aa,Up.refl _,trivial⟩ ?_)));obtain rfl:=A7 gE;exact A3 (E3 WI (IW (i:=3) GG DM Aa Aa Aa) (AR Aa)) (sS (sS (sS (sS sN)))) ⟨Aa,Aa⟩
      refine A0 (AX (Am (wm Aa (vF Cv Aa CR (us (i:=0) CR Aa Aa (B5 Aa) Aa Aa ?_)))));refine Aw (An (vF C6 Aa Kc (vL 1 MU Aa (wv (Bi (i:=0) Is Dj Aa Aa Aa Aa) (Bf (ys:=([(Ap.mk (Bu (Aq (Aq l ha) 0)) (Aq (Aq l ha) 1) hq.1 (Bu (Aq (Aq l ha) 2)))]:List Ap)) (enc:=Av) (css:=[[AD (Bu (Aq (Aq l ha) 0)),rS (Aq (Aq l ha) 1),Br 4 (AH Ah hq.1),AD (Bu (Aq (Aq l ha) 2))]]) (xs:=[.tmp 125]) Hy Dj L7 Aa Aa Aa ⟨E4.agg ⟨Up.refl _,Up.refl _,Up.refl _,Up.refl _,trivial⟩,trivial⟩ Aa DA Aa Aa Aa (λgT=>?_))))));refine ck gD λgF gG=>Exists.elim Aa2 λinf hinf=>Cc (xs:=hb) (ys:=([(Ap.mk (Bu (Aq (Aq l ha) 0)) (Aq (Aq l ha) 1) hq.1 (Bu (Aq (Aq l ha) 2)))]:List Ap)) (enc:=Av) (i:=4) Hy hinf.1 hinf.2.1 hinf.2.2.1 hinf.2.2.2 Aa Aa Aa Aa Aa (JG.w (i:=0) Aa Aa) DA JP gF Aa (λgH=>?_);refine vF C6 Aa Kc (us (i:=3) Kc Aa Aa (C2 (i:=0) Aa) Aa Aa ?_);refine As (AK (AK (Gx [3,3] ?_)));exact Ay (AE ((hk,hh,he,hf,hb++([(Ap.mk (Bu (Aq (Aq l ha) 0)) (Aq (Aq l ha) 1) hq.1 (Bu (Aq (Aq l ha) 2)))]:List Ap),hg),gH) gG (AG.c5 Aa Aa Aa Aa Aa AG.nil) (sC (sC (sC (sS (sS sN))))))
     refine A0 (AX (Am (wm Aa (vF Cv Aa CR (us (i:=0) CR Aa Aa (B5 Aa) Aa Aa ?_)))));refine Aw (An (vF C6 Aa Kc (vL 1 MU Aa (wv (Bi (i:=0) Is Dj Aa Aa Aa Aa) (Bf (ys:=([(Ap.mk (Bu (Aq (Aq l ha) 0)) (Aq (Aq l ha) 1) ([]:List Ab) (Bu (Aq (Aq l ha) 2)))]:List Ap)) (enc:=Av) (css:=[[AD (Bu (Aq (Aq l ha) 0)),rS (Aq (Aq l ha) 1),Br 4 (AH Ah ([]:List Ab)),AD (Bu (Aq (Aq l ha) 2))]]) (xs:=[.tmp 125]) Hy Dj L7 Aa Aa Aa ⟨E4.agg ⟨Up.refl _,Up.refl _,Up.le (LW.nil _),Up.refl _,trivial⟩,trivial⟩ Aa DA Aa Aa Aa (λgU=>?_))))));refine ck g8 λgI gJ=>Exists.elim Aa2 λinf hinf=>Cc (xs:=hb) (ys:=([(Ap.mk (Bu (Aq (Aq l ha) 0)) (Aq (Aq l ha) 1) ([]:List Ab) (Bu (Aq (Aq l ha) 2)))]:List Ap)) (enc:=Av) (i:=4) Hy hinf.1 hinf.2.1 hinf.2.2.1 hinf.2.2.2 Aa Aa Aa Aa Aa (JG.w (i:=0) Aa Aa) DA JP gI Aa (λgK=>?_);refine vF C6 Aa Kc (us (i:=3) Kc Aa Aa (C2 (i:=0) Aa) Aa Aa ?_);refine As (AK (AK (Gx [3,3] ?_)));exact Ay (AE ((hk,hh,he,hf,hb++([(Ap.mk (Bu (Aq (Aq l ha) 0)) (Aq (Aq l ha) 1) ([]:List Ab) (Bu (Aq (Aq l ha) 2)))]:List Ap),hg),gK) gJ (AG.c5 Aa Aa Aa Aa Aa AG.nil) (sC (sC (sC (sS (sS sN))))))
    refine Am (wv (Bi (i:=0) GG DM Aa Aa Aa Aa) (LZ (i:=1) DM Aa Aa Aa ⟨(B5 Aa),(B5 Aa),(B5 Aa),(B5 Aa),(C2 (i:=2) Aa),(B5 Aa),trivial⟩ Aa Aa ?_));refine wa Aa (Aw (A4 (AB (AB (Ae (Ae (Be ?_)))))));have gL:=B1 gj hn ho;refine AB (Ae (WK.freeze (i:=2) Aa (WK.upBlk (i:=2) (cs':=[rS hk,rS hh,AD he,Br 4 (AH Ah hf),Br 4 (AH Av hb),AD hg]) Aa ⟨Up.refl _,Up.refl _,Up.refl _,Up.refl _,Up.fact (i:=0) Aa,Up.refl _,trivial⟩ ?_)));obtain rfl:=A7 gL;exact A3 (E3 WI (IW (i:=2) GG DM Aa Aa Aa) (AR Aa)) (sS (sS (sS sN))) ⟨Aa,Aa⟩
   rintro⟨⟨hx,hy,hz,h0,h1,h2⟩,gM⟩ hs;refine GC ?_;replace hs:Ex ha hx hy hz h0 h1 h2=some hu:=hs;unfold Ex at hs;refine An (ck hs λgN gO=>wv (BW Aa Aa gN) (wm Aa (As ?_)));have gP:=B9 gO hn;exact Ay (AE (hC,(ha+1,hx,hy,hz,h0,h1,h2),gM) ⟨gP,AfV _⟩ (AG.c5 Aa Aa Aa Aa Aa AG.nil) (sC (sC (sC sN))))
  refine B3 (A9 ?_);have gQ:=Cw hG hn ho;exact A9 (Bo (AE ((hk,hh,he,hf,hb,hg),hd) gQ (AG.c Aa (AG.c Aa AG.nil)) (sC (sC (sC sN)))))
 rintro⟨⟨h3,h4,h5,h6,h7,h8⟩,gV⟩ ht;refine JZ ?_;replace ht:HZ h3 h4 h5 h6 h7 h8=some r:=ht;unfold HZ at ht;refine Bn (AX (Am (wv (Bi (i:=0) GG DM Aa Aa Aa Aa) (LZ (i:=1) DM Aa Aa Aa ⟨(B5 Aa),(B5 Aa),(B5 Aa),(B5 Aa),(C2 (i:=2) Aa),(B5 Aa),trivial⟩ Aa Aa ?_))));refine wa Aa (Aw (A4 (WK.freeze (i:=2) Aa (WK.upBlk (i:=2) (cs':=[rS h3,rS h4,AD h5,Br 4 (AH Ah h6),Br 4 (AH Av h7),AD h8]) Aa ⟨Up.refl _,Up.refl _,Up.refl _,Up.refl _,Up.fact (i:=0) Aa,Up.refl _,trivial⟩ ?_))));obtain rfl:=A7 ht;exact A3 (E3 WI (IW (i:=2) GG DM Aa Aa Aa) (AR Aa)) (sS (sS (sS sN))) ⟨Aa,Aa⟩
end Go.Proofs.YtfobhhegpkinaaaGreatDoor.Q
namespace Go.Proofs.YtfobhhegpkinaaaGreatDoor
open Go
set_option linter.unusedVariables false
structure Bt where
 fKey:Ai
 fValue:(List Ab)
 fVersion:Int
 deriving DecidableEq,Inhabited
structure Oq where
 fTenant:Ai
 fItem:Bt
 deriving DecidableEq,Inhabited
structure PZ where
 fEvent:Ai
 fResult:(List Ab)
 deriving DecidableEq,Inhabited
structure Yv where
 fMade:Bool
 fEvents:(List PZ)
 fItems:(List Oq)
 fPending:(List Ak)
 deriving DecidableEq,Inhabited
end Go.Proofs.YtfobhhegpkinaaaGreatDoor
namespace Go.Proofs.YtfobhhegpkinaaaGreatDoor.Q
open Go Go.RowKit
set_option linter.unusedVariables false
section
variable {P : Program} {n : Nat} {c : Cx} {x : Code} {Q : Exit → Act → World → Prop} {l : Fr} {H : List Ent}
end
section
variable {P : Program} {n : Nat} {c : Cx} {opsA : Array Oper} {Q : Exit → Act → World → Prop} {l : Fr} {H : List Ent} {d : Nat} {ty : TypeId} {pos : String} {af : Array Edge}
end
section
variable {P : Program} {n : Nat} {c : Cx} {l : Fr} {H : List Ent} {d : Option Nat} {ty rty t e e' : TypeId} {pos : String} {af : Array Edge} {g : Option (Nat × Bool)} {x : Operand} {sz : Nat} {xs : List (List Rp)} {v : Value}
theorem QT (i:Nat)(ht:P.underlying t=some (.slice e))(h:ev l x=some (rv v))(hi:H[i]? =some (.row v e' sz xs)):Bv P n c l H { dst:=d,op:=.binOp .eql t x (.const (.slice none 0 0)) rty,type:=ty,pos:=pos,after:=af,guard:=g } (rBx (λb=>b=true→xs=[])):=λa w Z ha hw=>by
 obtain⟨_,_,_,A,cap,e0,h1,h2,h3,h4⟩:=hw.freeze hi;have e1:a.eval x = .slice A xs.length cap:=(ha.ev h:a.eval x=v).trans e0;refine⟨.bool A.isNone,⟨_,rfl,λhb=>?_⟩,?_⟩
 ·cases A with
  | some a=>cases hb
  | none=>
   have:=h3 rfl;exact List.length_eq_zero_iff.1 (by omega)
 ·have:=run_equal_slice_nil (P:=P) w t e A xs.length cap ht;have e2:a.eval (.const (.slice none 0 0)) = .slice none 0 0:=rfl;simp[execOp,e1,e2,binOp,this,eqGuard]
end
set_option linter.unusedSimpArgs false
set_option maxRecDepth 100000
set_option maxHeartbeats 4000000
@[reducible] def By (x:Bt):List Rp:=[rS x.fKey,Br 4 (AH Ah x.fValue),AD x.fVersion]
theorem L2 (x:Bt):(By x).length=3:=rfl
theorem Q0 (x:Bt):(By x).all (·.one)=true:=rfl
theorem AdB:∃inf,Tryz.prog.info? 75=some inf∧inf.zero=some (.agg #[(.string ⟨#[]⟩),(.slice none 0 0),(.int .i64 0)])∧inf.size=3∧inf.bytes=48:=by
  have key:(Tryz.prog.info? 75).map (λi=>(i.zero,i.size,i.bytes))=some (some (.agg #[(.string ⟨#[]⟩),(.slice none 0 0),(.int .i64 0)]),3,48):=by kernel_rfl
  obtain⟨inf,h1,h2⟩:=Option.map_eq_some_iff.1 key;simp only[Prod.mk.injEq] at h2;exact⟨inf,h1,h2.1,h2.2.1,h2.2.2⟩
theorem AcG (parts:List (Nat×Value)):Tryz.prog.built 34 parts=Instr.fill (λi=>(#[(0,1),(1,1),(2,1),(3,1),(4,1),(5,1)]:Array (Nat×Nat))[i]?) #[(.string ⟨#[]⟩),(.string ⟨#[]⟩),(.int .i64 0),((.slice none 0 0)),((.slice none 0 0)),(.int .i64 0)] parts:=by kernel_rfl
theorem AcE (parts:List (Nat×Value)):Tryz.prog.built 67 parts=Instr.fill (λi=>(#[(0,1),(1,1),(2,1),(3,1),(4,4)]:Array (Nat×Nat))[i]?) #[(.string ⟨#[]⟩),(.string ⟨#[]⟩),(.string ⟨#[]⟩),(.int .i64 0),(.int .i64 0),(.string ⟨#[]⟩),((.slice none 0 0)),(.int .i64 0)] parts:=by kernel_rfl
theorem Hv {n:Nat}{c:Cx}{l:Fr}{H:List Ent}{d:Option Nat}{ty:TypeId}{pos:String}{af:Array Edge}{g:Option (Nat×Bool)}{x0:Operand}{r0:Rp}(h0:ev l x0=some r0)(u0:r0.one=true){x1:Operand}{r1:Rp}(h1:ev l x1=some r1)(u1:r1.one=true){x2:Operand}{r2:Rp}(h2:ev l x2=some r2)(u2:r2.one=true){x3:Operand}{r3:Rp}(h3:ev l x3=some r3)(u3:r3.one=true){x4:Operand}{r4_0 r4_1 r4_2 r4_3:Rp}(h4:ev l x4=some (BL [r4_0,r4_1,r4_2,r4_3])):Bv Tryz.prog n c l H { dst:=d,op:=.build 67 #[(0,x0),(1,x1),(2,x2),(3,x3),(4,x4)],type:=ty,pos:=pos,after:=af,guard:=g } (BL [r0,r1,r2,r3,r4_0,r4_1,r4_2,r4_3]):=λa w Z ha _=>by
  have p0:=ha.ev h0;have c0:=Bz (r0.hone u0 Z _ p0);have p1:=ha.ev h1;have c1:=Bz (r1.hone u1 Z _ p1);have p2:=ha.ev h2;have c2:=Bz (r2.hone u2 Z _ p2);have p3:=ha.ev h3;have c3:=Bz (r3.hone u3 Z _ p3);obtain⟨us4,e4,q4⟩:=ha.ev h4;obtain⟨y4_0,y4_1,y4_2,y4_3,rfl,q4⟩:=Bj.d4 q4;have cg:∀cs:Array Value,(Value.agg cs).cells=cs:=λ_=>rfl;have hb:Tryz.prog.built 67 [(0,a.eval x0),(1,a.eval x1),(2,a.eval x2),(3,a.eval x3),(4,a.eval x4)]=some #[a.eval x0,a.eval x1,a.eval x2,a.eval x3,y4_0,y4_1,y4_2,y4_3]:=by
    rw[AcE];generalize a.eval x0=v0 at *;generalize a.eval x1=v1 at *;generalize a.eval x2=v2 at *;generalize a.eval x3=v3 at *;simp[Instr.fill,c0,c1,c2,c3,e4,cg]
  refine⟨.agg #[a.eval x0,a.eval x1,a.eval x2,a.eval x3,y4_0,y4_1,y4_2,y4_3],⟨[a.eval x0,a.eval x1,a.eval x2,a.eval x3,y4_0,y4_1,y4_2,y4_3],rfl,p0,p1,p2,p3,q4.1,q4.2.1,q4.2.2.1,q4.2.2.2.1,trivial⟩,?_⟩;have:=run_build w 67 #[(0,a.eval x0),(1,a.eval x1),(2,a.eval x2),(3,a.eval x3),(4,a.eval x4)] _ (by simpa using hb);simp[execOp,this]
theorem AcD (parts:List (Nat×Value)):Tryz.prog.built 75 parts=Instr.fill (λi=>(#[(0,1),(1,1),(2,1)]:Array (Nat×Nat))[i]?) #[(.string ⟨#[]⟩),((.slice none 0 0)),(.int .i64 0)] parts:=by kernel_rfl
theorem Oi {n:Nat}{c:Cx}{l:Fr}{H:List Ent}{d:Option Nat}{ty:TypeId}{pos:String}{af:Array Edge}{g:Option (Nat×Bool)}{x0:Operand}{r0:Rp}(h0:ev l x0=some r0)(u0:r0.one=true){x1:Operand}{r1:Rp}(h1:ev l x1=some r1)(u1:r1.one=true){x2:Operand}{r2:Rp}(h2:ev l x2=some r2)(u2:r2.one=true):Bv Tryz.prog n c l H { dst:=d,op:=.build 75 #[(0,x0),(1,x1),(2,x2)],type:=ty,pos:=pos,after:=af,guard:=g } (BL [r0,r1,r2]):=λa w Z ha _=>by
  have p0:=ha.ev h0;have c0:=Bz (r0.hone u0 Z _ p0);have p1:=ha.ev h1;have c1:=Bz (r1.hone u1 Z _ p1);have p2:=ha.ev h2;have c2:=Bz (r2.hone u2 Z _ p2);have hb:Tryz.prog.built 75 [(0,a.eval x0),(1,a.eval x1),(2,a.eval x2)]=some #[a.eval x0,a.eval x1,a.eval x2]:=by
    rw[AcD];generalize a.eval x0=v0 at *;generalize a.eval x1=v1 at *;generalize a.eval x2=v2 at *;simp[Instr.fill,c0,c1,c2]
  refine⟨.agg #[a.eval x0,a.eval x1,a.eval x2],⟨[a.eval x0,a.eval x1,a.eval x2],rfl,p0,p1,p2,trivial⟩,?_⟩;have:=run_build w 75 #[(0,a.eval x0),(1,a.eval x1),(2,a.eval x2)] _ (by simpa using hb);simp[execOp,this]
end Go.Proofs.YtfobhhegpkinaaaGreatDoor.Q
namespace Go.Proofs.YtfobhhegpkinaaaGreatDoor
open Go
set_option linter.unusedVariables false
def HJ (n:Int):Option ((List Ab)):=
 some ([(Ab.mk 3 n ([]:Ai) 0)]:List Ab)
def Gr (F:Nat)(a:(List Bt))(b:(List Bt))(ha:Int):Option (Stp (Int) (Out (Bool) (Unit))):=
 Bw (decide (ha<(a.length:Int))) (Bd (CY ha (a.length:Int))<|Bd (CY ha (b.length:Int))<|Bd (imp (!(!decide (((Aq a ha).fKey)=((Aq b ha).fKey)))) (imp (!(!decide (((Aq a ha).fVersion)=((Aq b ha).fVersion)))) ((HV F ((Aq a ha).fValue) ((Aq b ha).fValue)).isSome)))<|Bw (((!decide (((Aq a ha).fKey)=((Aq b ha).fKey)))||((!decide (((Aq a ha).fVersion)=((Aq b ha).fVersion)))||(!(ov (HV F ((Aq a ha).fValue) ((Aq b ha).fValue))))))) (some (.out (.ret false))) (Bd (Cb .i64 (ha+1))<|some (.next (ha+1)))) (some (.out (.go ())))
def IA :Option (Bool):=
 some true
def K2 (F:Nat)(a:(List Bt))(b:(List Bt)):Option (Bool):=
 Bw (!decide ((a.length:Int)=(b.length:Int))) (some false) (Bq (Ci (λσ=>Gr F a b σ) F 0) (BO λν=>IA ))
def Eh (F:Nat)(a:(List Ak))(b:(List Ak))(ha:Int):Option (Stp (Int) (Out (Bool) (Unit))):=
 Bw (decide (ha<(a.length:Int))) (Bd (CY ha (a.length:Int))<|Bd (CY ha (b.length:Int))<|Bd (imp (!(!decide (((Aq a ha).fID)=((Aq b ha).fID)))) (imp (!(!decide (((Aq a ha).fTenant)=((Aq b ha).fTenant)))) (imp (!(!decide (((Aq a ha).fCause)=((Aq b ha).fCause)))) (imp (!(!decide (((Aq a ha).fAt)=((Aq b ha).fAt)))) (imp (!(!decide ((((Aq a ha).fEffect).fKind)=(((Aq b ha).fEffect).fKind)))) (imp (!(!decide ((((Aq a ha).fEffect).fKey)=(((Aq b ha).fEffect).fKey)))) (imp (!(!decide ((((Aq a ha).fEffect).fDelay)=(((Aq b ha).fEffect).fDelay)))) ((HV F (((Aq a ha).fEffect).fValue) (((Aq b ha).fEffect).fValue)).isSome))))))))<|Bw (((!decide (((Aq a ha).fID)=((Aq b ha).fID)))||((!decide (((Aq a ha).fTenant)=((Aq b ha).fTenant)))||((!decide (((Aq a ha).fCause)=((Aq b ha).fCause)))||((!decide (((Aq a ha).fAt)=((Aq b ha).fAt)))||((!decide ((((Aq a ha).fEffect).fKind)=(((Aq b ha).fEffect).fKind)))||((!decide ((((Aq a ha).fEffect).fKey)=(((Aq b ha).fEffect).fKey)))||((!decide ((((Aq a ha).fEffect).fDelay)=(((Aq b ha).fEffect).fDelay)))||(!(ov (HV F (((Aq a ha).fEffect).fValue) (((Aq b ha).fEffect).fValue)))))))))))) (some (.out (.ret false))) (Bd (Cb .i64 (ha+1))<|some (.next (ha+1)))) (some (.out (.go ())))
def GZ :Option (Bool):=
 some true
def Id (F:Nat)(a:(List Ak))(b:(List Ak)):Option (Bool):=
 Bw (!decide ((a.length:Int)=(b.length:Int))) (some false) (Bq (Ci (λσ=>Eh F a b σ) F 0) (BO λν=>GZ ))
def Nq (l:(List Ak))(n:Int):Option (Ai):=
 Bw (((decide (n<0))||(decide ((l.length:Int)≤n)))) (some ([]:Ai)) (Bd (CY n (l.length:Int))<|some ((Aq l n).fID))
def HL (a:(List Ai))(b:(List Ai))(ha:Int):Option (Stp (Int) (Out (Bool) (Unit))):=
 Bw (decide (ha<(a.length:Int))) (Bd (CY ha (a.length:Int))<|Bd (CY ha (b.length:Int))<|Bw (!decide ((Aq a ha)=(Aq b ha))) (some (.out (.ret false))) (Bd (Cb .i64 (ha+1))<|some (.next (ha+1)))) (some (.out (.go ())))
def Lg :Option (Bool):=
 some true
def Nw (F:Nat)(a:(List Ai))(b:(List Ai)):Option (Bool):=
 Bw (!decide ((a.length:Int)=(b.length:Int))) (some false) (Bq (Ci (λσ=>HL a b σ) F 0) (BO λν=>Lg ))
end Go.Proofs.YtfobhhegpkinaaaGreatDoor
namespace Go.Proofs.YtfobhhegpkinaaaGreatDoor.Q
open Go Go.RowKit
set_option linter.unusedVariables false
set_option linter.unusedSimpArgs false
set_option maxRecDepth 100000
set_option maxHeartbeats 4000000
theorem I9 (n:Int)(r:(List Ab))(h:HJ n=some r):Fn Tryz.prog GE 34 [AD n] [] (λR H=>R=Br 4 (AH Ah r)∧H=[]):=by
 refine enter (n:=6) Tryz.func34 Aa Tryz.ntmps34 Aa (λw Z=>?_);unfold HJ at h;refine Am (wa Aa (B0 (wm Aa (wv (r:=BL [AD 3,AD n,rS ([]:Ai),AD 0]) (IJ Aa Aa Aa Aa) (Bf (ys:=([(Ab.mk 3 n ([]:Ai) 0)]:List Ab)) (enc:=Ah) (css:=[[AD 3,AD n,rS ([]:Ai),AD 0]]) (xs:=[.tmp 4]) D5 EB Oa Aa Aa Aa ⟨E4.agg ⟨Up.refl _,Up.refl _,Up.refl _,Up.refl _,trivial⟩,trivial⟩ Aa B7 Aa Aa Aa (λb1=>?_))))));refine wa Aa (Aw (A4 (WK.freeze (i:=0) Aa (WK.up (d:=2) (r:=Br 4 (AH Ah ([(Ab.mk 3 n ([]:Ai) 0)]:List Ab))) Aa (Up.fact (i:=0) Aa) ?_))));obtain rfl:=A7 h;exact A3 (Ch Tryz.results34 (AR Aa)) (sS sN) ⟨Aa,Aa⟩
theorem Vg (F:Nat)(a:(List Bt))(b:(List Bt))(r:Bool)(h:K2 F a b=some r):Fn Tryz.prog GE 22 [Br 3 (AH By a),Br 3 (AH By b)] [] (λR H=>R=rB r∧H=[]):=by
 refine enter (n:=55) Tryz.func22 Aa Tryz.ntmps22 Aa (λw Z=>?_);unfold K2 at h;refine Am (wa Aa (Aw (Ao (Am (wm Aa (wv (Bx (ys:=a) (enc:=By) Iq Aa) (wm Aa (wv (Bx (ys:=b) (enc:=By) Iq Aa) (wv (BQ Aa Aa) (Aw (cz h Aa (λc1 h2=>?_) (λc1 h3=>?_))))))))))))
 ·refine Am (wa Aa (Aw (A4 (Ae ?_))));obtain rfl:=A7 h2;exact A3 (Ch Tryz.results22 (AR Aa)) sN ⟨Aa,Aa⟩
 refine A0 (AX (Ao (Am (wa Aa (Aw (AS (ob h3 λhk hl hj=>B4 (S:=Nat×(Int)×(Unit)) (V:=(Unit)×(Unit)) 0 (λσ=>Ci (λσ=>Gr F a b σ) σ.1 σ.2.1=some hk) (λσ=>[(0,Br 3 (AH By a)),(1,Br 3 (AH By b)),(5,AD σ.2.1)]) (λσ=>[]) (λσ=>σ.1) (F,0,()) hl (AG.c Aa (AG.c Aa (AG.c Aa AG.nil))) sN (λσ=>IA =some r) (λσ=>[]) (λσ=>[]) ?_ ?_)))))))
 ·rintro⟨h7,hd,⟨⟩⟩ hm;refine GC ?_;obtain⟨hn,rfl,ho,hg,hi⟩:=Di hm;replace hg:Gr F a b hd=some ho:=hg;unfold Gr at hg;refine Ao (Am (wm Aa (wm Aa (wv (Bx (ys:=a) (enc:=By) Iq Aa) (wv (Dh Aa Aa) (Aw (cz hg Aa (λhp hq=>?_) (λhp hr=>?_))))))))
  ·refine A0 (AX (Ao (AS (ck hq λhe hs=>ck hs λhf ht=>ck ht λhu hw=>AV [(0,Br 3 (AH By a)),(1,Br 3 (AH By b)),(5,AD hd),(54,rB ((!decide (((Aq a hd).fKey)=((Aq b hd).fKey)))||((!decide (((Aq a hd).fVersion)=((Aq b hd).fVersion)))||(!(ov (HV F ((Aq a hd).fValue) ((Aq b hd).fValue)))))))] [] ?_ ?_))))
   ·refine AY (!decide (((Aq a hd).fKey)=((Aq b hd).fKey))) (λha=>?_) (λha=>?_)
    ·refine D0 [0,1,5] ?_;refine rq (Aj Aa) (rq (Aj Aa) (rq (AW (enc:=By) (ys:=a) Iq L9 Aa Aa he) (rq (A1 Mc Aa BX Aa Aa) (rq (AJ Cf Aa Aa) (rq (Aj Aa) (rq (Aj Aa) (rq (AW (enc:=By) (ys:=b) Iq L9 Aa Aa hf) (rq (A1 Mc Aa BX Aa Aa) (rq (AJ Cf Aa Aa) (rq (CQ Aa Aa) (rq (Aj Aa) (rz ha (rz ha (rz ha (rz ha (rz ha (rz ha (rz ha (rz ha (rz ha (rz ha (rz ha (rq (r:=rB true) (A5 (b:=!decide (((Aq a hd).fKey)=((Aq b hd).fKey))) Aa ha Aa) ?_)))))))))))))))))))))));refine rq (Aj Aa) (rz Aa (rz Aa (rz Aa (rz Aa (rz Aa (rz Aa (rz Aa (rz Aa (rz Aa (rz Aa (rz Aa (rz Aa (rq (r:=rB true) (A5 (b:=true) Aa Aa Aa) (re [54,0,1,5] ?_))))))))))))));exact CI ha
    refine AY (!decide (((Aq a hd).fVersion)=((Aq b hd).fVersion))) (λhb=>?_) (λhb=>?_)
    ·refine D0 [0,1,5] ?_;refine rq (Aj Aa) (rq (Aj Aa) (rq (AW (enc:=By) (ys:=a) Iq L9 Aa Aa he) (rq (A1 Mc Aa BX Aa Aa) (rq (AJ Cf Aa Aa) (rq (Aj Aa) (rq (Aj Aa) (rq (AW (enc:=By) (ys:=b) Iq L9 Aa Aa hf) (rq (A1 Mc Aa BX Aa Aa) (rq (AJ Cf Aa Aa) (rq (CQ Aa Aa) (rq (Aj Aa) (rg ha (Aj Aa) (rg ha (Aj Aa) (rg ha (AW (enc:=By) (ys:=a) Iq L9 Aa Aa he) (rg ha (A1 Mc Aa Cy Aa Aa) (rg ha (AJ CO Aa Aa) (rg ha (Aj Aa) (rg ha (Aj Aa) (rg ha (AW (enc:=By) (ys:=b) Iq L9 Aa Aa hf) (rg ha (A1 Mc Aa Cy Aa Aa) (rg ha (AJ CO Aa Aa) (rg ha (BQ Aa Aa) (rq (A2 Aa ha Aa) ?_)))))))))))))))))))))));refine rq (Aj Aa) (rz hb (rz hb (rz hb (rz hb (rz hb (rz hb (rz hb (rz hb (rz hb (rz hb (rz hb (rz hb (rq (r:=rB true) (A5 (b:=!decide (((Aq a hd).fVersion)=((Aq b hd).fVersion))) Aa hb Aa) (re [54,0,1,5] ?_))))))))))))));exact CI (And.intro ha hb)
    refine D0 [0,1,5] ?_;refine rq (Aj Aa) (rq (Aj Aa) (rq (AW (enc:=By) (ys:=a) Iq L9 Aa Aa he) (rq (A1 Mc Aa BX Aa Aa) (rq (AJ Cf Aa Aa) (rq (Aj Aa) (rq (Aj Aa) (rq (AW (enc:=By) (ys:=b) Iq L9 Aa Aa hf) (rq (A1 Mc Aa BX Aa Aa) (rq (AJ Cf Aa Aa) (rq (CQ Aa Aa) (rq (Aj Aa) (rg ha (Aj Aa) (rg ha (Aj Aa) (rg ha (AW (enc:=By) (ys:=a) Iq L9 Aa Aa he) (rg ha (A1 Mc Aa Cy Aa Aa) (rg ha (AJ CO Aa Aa) (rg ha (Aj Aa) (rg ha (Aj Aa) (rg ha (AW (enc:=By) (ys:=b) Iq L9 Aa Aa hf) (rg ha (A1 Mc Aa Cy Aa Aa) (rg ha (AJ CO Aa Aa) (rg ha (BQ Aa Aa) (rq (A2 Aa ha Aa) ?_)))))))))))))))))))))));refine rq (Aj Aa) (rg hb (Aj Aa) (rg hb (Aj Aa) (rg hb (AW (enc:=By) (ys:=a) Iq L9 Aa Aa he) (rg hb (A1 Mc Aa CR Aa Aa) (rg hb (AJ EC Aa Aa) (rg hb (Aj Aa) (rg hb (Aj Aa) (rg hb (AW (enc:=By) (ys:=b) Iq L9 Aa Aa hf) (rg hb (A1 Mc Aa CR Aa Aa) (rg hb (AJ EC Aa Aa) (ro hb (G0 Tryz.call15 (Ov F ((Aq a hd).fValue) ((Aq b hd).fValue) (ov (HV F ((Aq a hd).fValue) ((Aq b hd).fValue))) (Og (EA (EA hu ha) hb))) Aa) (rg hb (BT Aa) (rq (A2 Aa hb Aa) (re [54,0,1,5] ?_))))))))))))));exact CI (And.intro ha hb)
   refine cz hw Aa (λhx hy=>?_) (λhx hz=>?_)
   ·refine Am (wa Aa (Aw (A4 (AB (Ae (Ae (Be ?_)))))));have h0:=B1 hy hi hj;refine AB (Ae ?_);obtain rfl:=A7 h0;exact A3 (Ch Tryz.results22 (AR Aa)) sN ⟨Aa,Aa⟩
   refine A0 (AK (AX (An (wm Aa (ck hz λh1 h4=>wv (BW Aa Aa h1) (wa Aa (As ?_)))))));have h5:=B9 h4 hi;exact Ay (AE (hn,hd+1,()) ⟨h5,AfV _⟩ (AG.c Aa (AG.c Aa (AG.c Aa AG.nil))) sN)
  refine B3 (A9 ?_);have h6:=Cw hr hi hj;exact A9 (Bo (AE ((),()) h6 AG.nil sN))
 rintro⟨⟨⟩,⟨⟩⟩ hh;refine JZ ?_;replace hh:IA =some r:=hh;unfold IA at hh;refine Bn (AX (Am (wa Aa (Aw (A4 ?_)))));obtain rfl:=A7 hh;exact A3 (Ch Tryz.results22 (AR Aa)) sN ⟨Aa,Aa⟩
theorem Su (F:Nat)(a:(List Ak))(b:(List Ak))(r:Bool)(h:Id F a b=some r):Fn Tryz.prog GE 19 [Br 8 (AH Ad a),Br 8 (AH Ad b)] [] (λR H=>R=rB r∧H=[]):=by
 refine enter (n:=108) Tryz.func19 Aa Tryz.ntmps19 Aa (λw Z=>?_);unfold Id at h;refine Am (wa Aa (Aw (Ao (Am (wm Aa (wv (Bx (ys:=a) (enc:=Ad) BY Aa) (wm Aa (wv (Bx (ys:=b) (enc:=Ad) BY Aa) (wv (BQ Aa Aa) (Aw (cz h Aa (λc1 h2=>?_) (λc1 h3=>?_))))))))))))
 ·refine Am (wa Aa (Aw (A4 (Ae ?_))));obtain rfl:=A7 h2;exact A3 (Ch Tryz.results19 (AR Aa)) sN ⟨Aa,Aa⟩
 refine A0 (AX (Ao (Am (wa Aa (Aw (AS (ob h3 λhp hq ho=>B4 (S:=Nat×(Int)×(Unit)) (V:=(Unit)×(Unit)) 0 (λσ=>Ci (λσ=>Eh F a b σ) σ.1 σ.2.1=some hp) (λσ=>[(0,Br 8 (AH Ad a)),(1,Br 8 (AH Ad b)),(5,AD σ.2.1)]) (λσ=>[]) (λσ=>σ.1) (F,0,()) hq (AG.c Aa (AG.c Aa (AG.c Aa AG.nil))) sN (λσ=>GZ =some r) (λσ=>[]) (λσ=>[]) ?_ ?_)))))))
 ·rintro⟨hB,he,⟨⟩⟩ hr;refine GC ?_;obtain⟨hs,rfl,t76,hl,hn⟩:=Di hr;replace hl:Eh F a b he=some t76:=hl;unfold Eh at hl;refine Ao (Am (wm Aa (wm Aa (wv (Bx (ys:=a) (enc:=Ad) BY Aa) (wv (Dh Aa Aa) (Aw (cz hl Aa (λht hu=>?_) (λht hw=>?_))))))))
  ·refine A0 (AX (Ao (AS (Am (wm Aa (wm Aa (ck hu λhh hx=>wv (AW (enc:=Ad) (ys:=a) BY Cr Aa Aa hh) (wv (A1 CB Aa Dj Aa Aa) (wv (Dm Is Dj Aa Aa Aa) (BZ (cs:=[AD 0,rS ([]:Ai),rv (.slice none 0 0),AD 0]) L7 Aa Aa (λhC=>?_)))))))))));refine LZ (i:=0) Dj Aa Aa Aa (Cm.c Aa) Aa Aa ?_;refine B0 (wm Aa (wm Aa (ck hx λhi hy=>wv (AW (enc:=Ad) (ys:=b) BY Cr Aa Aa hi) (wv (A1 CB Aa Dj Aa Aa) (wv (Dm Is Dj Aa Aa Aa) (BZ (cs:=[AD 0,rS ([]:Ai),rv (.slice none 0 0),AD 0]) L7 Aa Aa (λhD=>?_)))))));refine LZ (i:=0) Dj Aa Aa Aa (Cm.c Aa) Aa Aa ?_;refine Aw (ck hy λhz h0=>AV [(0,Br 8 (AH Ad a)),(1,Br 8 (AH Ad b)),(5,AD he),(107,rB ((!decide (((Aq a he).fID)=((Aq b he).fID)))||((!decide (((Aq a he).fTenant)=((Aq b he).fTenant)))||((!decide (((Aq a he).fCause)=((Aq b he).fCause)))||((!decide (((Aq a he).fAt)=((Aq b he).fAt)))||((!decide ((((Aq a he).fEffect).fKind)=(((Aq b he).fEffect).fKind)))||((!decide ((((Aq a he).fEffect).fKey)=(((Aq b he).fEffect).fKey)))||((!decide ((((Aq a he).fEffect).fDelay)=(((Aq b he).fEffect).fDelay)))||(!(ov (HV F (((Aq a he).fEffect).fValue) (((Aq b he).fEffect).fValue))))))))))))] [] ?_ ?_)
   ·refine AY (!decide (((Aq a he).fID)=((Aq b he).fID))) (λha=>?_) (λha=>?_)
    ·refine D0 [0,1,5,6,7] ?_;refine rq (Aj Aa) (rq (Aj Aa) (rq (AW (enc:=Ad) (ys:=a) BY Cr Aa Aa hh) (rq (A1 CB Aa BX Aa Aa) (rq (AJ Cf Aa Aa) (rq (Aj Aa) (rq (Aj Aa) (rq (AW (enc:=Ad) (ys:=b) BY Cr Aa Aa hi) (rq (A1 CB Aa BX Aa Aa) (rq (AJ Cf Aa Aa) (rq (CQ Aa Aa) (rq (Aj Aa) (rz ha (rz ha (rz ha (rz ha (rz ha (rz ha (rz ha (rz ha (rz ha (rz ha (rz ha (rq (r:=rB true) (A5 (b:=!decide (((Aq a he).fID)=((Aq b he).fID))) Aa ha Aa) ?_)))))))))))))))))))))));refine rq (Aj Aa) (rz Aa (rz Aa (rz Aa (rz Aa (rz Aa (rz Aa (rz Aa (rz Aa (rz Aa (rz Aa (rz Aa (rq (r:=rB true) (A5 (b:=true) Aa Aa Aa) (rq (Aj Aa) (rz Aa (rz Aa (rz Aa (rz Aa (rz Aa (rz Aa (rz Aa (rz Aa (rz Aa (rz Aa ?_)))))))))))))))))))))));refine rz Aa (rq (r:=rB true) (A5 (b:=true) Aa Aa Aa) (rq (Aj Aa) (rz Aa (rz Aa (rz Aa (rz Aa (rz Aa (rq (r:=rB true) (A5 (b:=true) Aa Aa Aa) (rq (Aj Aa) (rz Aa (rz Aa (rz Aa (rz Aa (rz Aa (rq (r:=rB true) (A5 (b:=true) Aa Aa Aa) (rq (Aj Aa) (rz Aa (rz Aa (rz Aa (rz Aa (rz Aa (rq (r:=rB true) (A5 (b:=true) Aa Aa Aa) (rq (Aj Aa) ?_)))))))))))))))))))))));refine rz Aa (rz Aa (rz Aa (rz Aa (rz Aa (rz Aa (rq (r:=rB true) (A5 (b:=true) Aa Aa Aa) (re [107,0,1,5] ?_)))))));exact CI ha
    refine AY (!decide (((Aq a he).fTenant)=((Aq b he).fTenant))) (λhb=>?_) (λhb=>?_)
    ·refine D0 [0,1,5,6,7] ?_;refine rq (Aj Aa) (rq (Aj Aa) (rq (AW (enc:=Ad) (ys:=a) BY Cr Aa Aa hh) (rq (A1 CB Aa BX Aa Aa) (rq (AJ Cf Aa Aa) (rq (Aj Aa) (rq (Aj Aa) (rq (AW (enc:=Ad) (ys:=b) BY Cr Aa Aa hi) (rq (A1 CB Aa BX Aa Aa) (rq (AJ Cf Aa Aa) (rq (CQ Aa Aa) (rq (Aj Aa) (rg ha (Aj Aa) (rg ha (Aj Aa) (rg ha (AW (enc:=Ad) (ys:=a) BY Cr Aa Aa hh) (rg ha (A1 CB Aa BX Aa Aa) (rg ha (AJ Cf Aa Aa) (rg ha (Aj Aa) (rg ha (Aj Aa) (rg ha (AW (enc:=Ad) (ys:=b) BY Cr Aa Aa hi) (rg ha (A1 CB Aa BX Aa Aa) (rg ha (AJ Cf Aa Aa) (rg ha (CQ Aa Aa) (rq (A2 Aa ha Aa) ?_)))))))))))))))))))))));refine rq (Aj Aa) (rz hb (rz hb (rz hb (rz hb (rz hb (rz hb (rz hb (rz hb (rz hb (rz hb (rz hb (rq (r:=rB true) (A5 (b:=!decide (((Aq a he).fTenant)=((Aq b he).fTenant))) Aa hb Aa) (rq (Aj Aa) (rz Aa (rz Aa (rz Aa (rz Aa (rz Aa (rz Aa (rz Aa (rz Aa (rz Aa (rz Aa ?_)))))))))))))))))))))));refine rz Aa (rq (r:=rB true) (A5 (b:=true) Aa Aa Aa) (rq (Aj Aa) (rz Aa (rz Aa (rz Aa (rz Aa (rz Aa (rq (r:=rB true) (A5 (b:=true) Aa Aa Aa) (rq (Aj Aa) (rz Aa (rz Aa (rz Aa (rz Aa (rz Aa (rq (r:=rB true) (A5 (b:=true) Aa Aa Aa) (rq (Aj Aa) (rz Aa (rz Aa (rz Aa (rz Aa (rz Aa (rq (r:=rB true) (A5 (b:=true) Aa Aa Aa) (rq (Aj Aa) ?_)))))))))))))))))))))));refine rz Aa (rz Aa (rz Aa (rz Aa (rz Aa (rz Aa (rq (r:=rB true) (A5 (b:=true) Aa Aa Aa) (re [107,0,1,5] ?_)))))));exact CI (And.intro ha hb)
    refine AY (!decide (((Aq a he).fCause)=((Aq b he).fCause))) (λhd=>?_) (λhd=>?_)
    ·refine D0 [0,1,5,6,7] ?_;refine rq (Aj Aa) (rq (Aj Aa) (rq (AW (enc:=Ad) (ys:=a) BY Cr Aa Aa hh) (rq (A1 CB Aa BX Aa Aa) (rq (AJ Cf Aa Aa) (rq (Aj Aa) (rq (Aj Aa) (rq (AW (enc:=Ad) (ys:=b) BY Cr Aa Aa hi) (rq (A1 CB Aa BX Aa Aa) (rq (AJ Cf Aa Aa) (rq (CQ Aa Aa) (rq (Aj Aa) (rg ha (Aj Aa) (rg ha (Aj Aa) (rg ha (AW (enc:=Ad) (ys:=a) BY Cr Aa Aa hh) (rg ha (A1 CB Aa BX Aa Aa) (rg ha (AJ Cf Aa Aa) (rg ha (Aj Aa) (rg ha (Aj Aa) (rg ha (AW (enc:=Ad) (ys:=b) BY Cr Aa Aa hi) (rg ha (A1 CB Aa BX Aa Aa) (rg ha (AJ Cf Aa Aa) (rg ha (CQ Aa Aa) (rq (A2 Aa ha Aa) ?_)))))))))))))))))))))));refine rq (Aj Aa) (rg hb (Aj Aa) (rg hb (Aj Aa) (rg hb (AW (enc:=Ad) (ys:=a) BY Cr Aa Aa hh) (rg hb (A1 CB Aa BX Aa Aa) (rg hb (AJ Cf Aa Aa) (rg hb (Aj Aa) (rg hb (Aj Aa) (rg hb (AW (enc:=Ad) (ys:=b) BY Cr Aa Aa hi) (rg hb (A1 CB Aa BX Aa Aa) (rg hb (AJ Cf Aa Aa) (rg hb (CQ Aa Aa) (rq (A2 Aa hb Aa) (rq (Aj Aa) (rz hd (rz hd (rz hd (rz hd (rz hd (rz hd (rz hd (rz hd (rz hd (rz hd ?_)))))))))))))))))))))));refine rz hd (rq (r:=rB true) (A5 (b:=!decide (((Aq a he).fCause)=((Aq b he).fCause))) Aa hd Aa) (rq (Aj Aa) (rz Aa (rz Aa (rz Aa (rz Aa (rz Aa (rq (r:=rB true) (A5 (b:=true) Aa Aa Aa) (rq (Aj Aa) (rz Aa (rz Aa (rz Aa (rz Aa (rz Aa (rq (r:=rB true) (A5 (b:=true) Aa Aa Aa) (rq (Aj Aa) (rz Aa (rz Aa (rz Aa (rz Aa (rz Aa (rq (r:=rB true) (A5 (b:=true) Aa Aa Aa) (rq (Aj Aa) ?_)))))))))))))))))))))));refine rz Aa (rz Aa (rz Aa (rz Aa (rz Aa (rz Aa (rq (r:=rB true) (A5 (b:=true) Aa Aa Aa) (re [107,0,1,5] ?_)))))));exact CI (And.intro ha (And.intro hb hd))
    refine AY (!decide (((Aq a he).fAt)=((Aq b he).fAt))) (λhf=>?_) (λhf=>?_)
    ·refine D0 [0,1,5,6,7] ?_;refine rq (Aj Aa) (rq (Aj Aa) (rq (AW (enc:=Ad) (ys:=a) BY Cr Aa Aa hh) (rq (A1 CB Aa BX Aa Aa) (rq (AJ Cf Aa Aa) (rq (Aj Aa) (rq (Aj Aa) (rq (AW (enc:=Ad) (ys:=b) BY Cr Aa Aa hi) (rq (A1 CB Aa BX Aa Aa) (rq (AJ Cf Aa Aa) (rq (CQ Aa Aa) (rq (Aj Aa) (rg ha (Aj Aa) (rg ha (Aj Aa) (rg ha (AW (enc:=Ad) (ys:=a) BY Cr Aa Aa hh) (rg ha (A1 CB Aa BX Aa Aa) (rg ha (AJ Cf Aa Aa) (rg ha (Aj Aa) (rg ha (Aj Aa) (rg ha (AW (enc:=Ad) (ys:=b) BY Cr Aa Aa hi) (rg ha (A1 CB Aa BX Aa Aa) (rg ha (AJ Cf Aa Aa) (rg ha (CQ Aa Aa) (rq (A2 Aa ha Aa) ?_)))))))))))))))))))))));refine rq (Aj Aa) (rg hb (Aj Aa) (rg hb (Aj Aa) (rg hb (AW (enc:=Ad) (ys:=a) BY Cr Aa Aa hh) (rg hb (A1 CB Aa BX Aa Aa) (rg hb (AJ Cf Aa Aa) (rg hb (Aj Aa) (rg hb (Aj Aa) (rg hb (AW (enc:=Ad) (ys:=b) BY Cr Aa Aa hi) (rg hb (A1 CB Aa BX Aa Aa) (rg hb (AJ Cf Aa Aa) (rg hb (CQ Aa Aa) (rq (A2 Aa hb Aa) (rq (Aj Aa) (rg hd (Aj Aa) (rg hd (Aj Aa) (rg hd (AW (enc:=Ad) (ys:=a) BY Cr Aa Aa hh) (rg hd (A1 CB Aa Cy Aa Aa) (rg hd (AJ CO Aa Aa) (rg hd (Aj Aa) (rg hd (Aj Aa) (rg hd (AW (enc:=Ad) (ys:=b) BY Cr Aa Aa hi) (rg hd (A1 CB Aa Cy Aa Aa) (rg hd (AJ CO Aa Aa) ?_)))))))))))))))))))))));refine rg hd (BQ Aa Aa) (rq (A2 Aa hd Aa) (rq (Aj Aa) (rz hf (rz hf (rz hf (rz hf (rz hf (rq (r:=rB true) (A5 (b:=!decide (((Aq a he).fAt)=((Aq b he).fAt))) Aa hf Aa) (rq (Aj Aa) (rz Aa (rz Aa (rz Aa (rz Aa (rz Aa (rq (r:=rB true) (A5 (b:=true) Aa Aa Aa) (rq (Aj Aa) (rz Aa (rz Aa (rz Aa (rz Aa (rz Aa (rq (r:=rB true) (A5 (b:=true) Aa Aa Aa) (rq (Aj Aa) ?_)))))))))))))))))))))));refine rz Aa (rz Aa (rz Aa (rz Aa (rz Aa (rz Aa (rq (r:=rB true) (A5 (b:=true) Aa Aa Aa) (re [107,0,1,5] ?_)))))));exact CI (And.intro ha (And.intro hb (And.intro hd hf)))
    refine AY (!decide ((((Aq a he).fEffect).fKind)=(((Aq b he).fEffect).fKind))) (λhg=>?_) (λhg=>?_)
    ·refine D0 [0,1,5,6,7] ?_;refine rq (Aj Aa) (rq (Aj Aa) (rq (AW (enc:=Ad) (ys:=a) BY Cr Aa Aa hh) (rq (A1 CB Aa BX Aa Aa) (rq (AJ Cf Aa Aa) (rq (Aj Aa) (rq (Aj Aa) (rq (AW (enc:=Ad) (ys:=b) BY Cr Aa Aa hi) (rq (A1 CB Aa BX Aa Aa) (rq (AJ Cf Aa Aa) (rq (CQ Aa Aa) (rq (Aj Aa) (rg ha (Aj Aa) (rg ha (Aj Aa) (rg ha (AW (enc:=Ad) (ys:=a) BY Cr Aa Aa hh) (rg ha (A1 CB Aa BX Aa Aa) (rg ha (AJ Cf Aa Aa) (rg ha (Aj Aa) (rg ha (Aj Aa) (rg ha (AW (enc:=Ad) (ys:=b) BY Cr Aa Aa hi) (rg ha (A1 CB Aa BX Aa Aa) (rg ha (AJ Cf Aa Aa) (rg ha (CQ Aa Aa) (rq (A2 Aa ha Aa) ?_)))))))))))))))))))))));refine rq (Aj Aa) (rg hb (Aj Aa) (rg hb (Aj Aa) (rg hb (AW (enc:=Ad) (ys:=a) BY Cr Aa Aa hh) (rg hb (A1 CB Aa BX Aa Aa) (rg hb (AJ Cf Aa Aa) (rg hb (Aj Aa) (rg hb (Aj Aa) (rg hb (AW (enc:=Ad) (ys:=b) BY Cr Aa Aa hi) (rg hb (A1 CB Aa BX Aa Aa) (rg hb (AJ Cf Aa Aa) (rg hb (CQ Aa Aa) (rq (A2 Aa hb Aa) (rq (Aj Aa) (rg hd (Aj Aa) (rg hd (Aj Aa) (rg hd (AW (enc:=Ad) (ys:=a) BY Cr Aa Aa hh) (rg hd (A1 CB Aa Cy Aa Aa) (rg hd (AJ CO Aa Aa) (rg hd (Aj Aa) (rg hd (Aj Aa) (rg hd (AW (enc:=Ad) (ys:=b) BY Cr Aa Aa hi) (rg hd (A1 CB Aa Cy Aa Aa) (rg hd (AJ CO Aa Aa) ?_)))))))))))))))))))))));refine rg hd (BQ Aa Aa) (rq (A2 Aa hd Aa) (rq (Aj Aa) (rg hf (Au Cv Aa Hk Aa Aa) (rg hf (AM (i:=1) Hl Aa Aa Aa) (rg hf (Au Cv Aa Hk Aa Aa) (rg hf (AM (i:=0) Hl Aa Aa Aa) (rg hf (BQ Aa Aa) (rq (A2 Aa hf Aa) (rq (Aj Aa) (rz hg (rz hg (rz hg (rz hg (rz hg (rq (r:=rB true) (A5 (b:=!decide ((((Aq a he).fEffect).fKind)=(((Aq b he).fEffect).fKind))) Aa hg Aa) (rq (Aj Aa) (rz Aa (rz Aa (rz Aa (rz Aa (rz Aa (rq (r:=rB true) (A5 (b:=true) Aa Aa Aa) (rq (Aj Aa) ?_)))))))))))))))))))))));refine rz Aa (rz Aa (rz Aa (rz Aa (rz Aa (rz Aa (rq (r:=rB true) (A5 (b:=true) Aa Aa Aa) (re [107,0,1,5] ?_)))))));exact CI (And.intro ha (And.intro hb (And.intro hd (And.intro hf hg))))
    refine AY (!decide ((((Aq a he).fEffect).fKey)=(((Aq b he).fEffect).fKey))) (λhj=>?_) (λhj=>?_)
    ·refine D0 [0,1,5,6,7] ?_;refine rq (Aj Aa) (rq (Aj Aa) (rq (AW (enc:=Ad) (ys:=a) BY Cr Aa Aa hh) (rq (A1 CB Aa BX Aa Aa) (rq (AJ Cf Aa Aa) (rq (Aj Aa) (rq (Aj Aa) (rq (AW (enc:=Ad) (ys:=b) BY Cr Aa Aa hi) (rq (A1 CB Aa BX Aa Aa) (rq (AJ Cf Aa Aa) (rq (CQ Aa Aa) (rq (Aj Aa) (rg ha (Aj Aa) (rg ha (Aj Aa) (rg ha (AW (enc:=Ad) (ys:=a) BY Cr Aa Aa hh) (rg ha (A1 CB Aa BX Aa Aa) (rg ha (AJ Cf Aa Aa) (rg ha (Aj Aa) (rg ha (Aj Aa) (rg ha (AW (enc:=Ad) (ys:=b) BY Cr Aa Aa hi) (rg ha (A1 CB Aa BX Aa Aa) (rg ha (AJ Cf Aa Aa) (rg ha (CQ Aa Aa) (rq (A2 Aa ha Aa) ?_)))))))))))))))))))))));refine rq (Aj Aa) (rg hb (Aj Aa) (rg hb (Aj Aa) (rg hb (AW (enc:=Ad) (ys:=a) BY Cr Aa Aa hh) (rg hb (A1 CB Aa BX Aa Aa) (rg hb (AJ Cf Aa Aa) (rg hb (Aj Aa) (rg hb (Aj Aa) (rg hb (AW (enc:=Ad) (ys:=b) BY Cr Aa Aa hi) (rg hb (A1 CB Aa BX Aa Aa) (rg hb (AJ Cf Aa Aa) (rg hb (CQ Aa Aa) (rq (A2 Aa hb Aa) (rq (Aj Aa) (rg hd (Aj Aa) (rg hd (Aj Aa) (rg hd (AW (enc:=Ad) (ys:=a) BY Cr Aa Aa hh) (rg hd (A1 CB Aa Cy Aa Aa) (rg hd (AJ CO Aa Aa) (rg hd (Aj Aa) (rg hd (Aj Aa) (rg hd (AW (enc:=Ad) (ys:=b) BY Cr Aa Aa hi) (rg hd (A1 CB Aa Cy Aa Aa) (rg hd (AJ CO Aa Aa) ?_)))))))))))))))))))))));refine rg hd (BQ Aa Aa) (rq (A2 Aa hd Aa) (rq (Aj Aa) (rg hf (Au Cv Aa Hk Aa Aa) (rg hf (AM (i:=1) Hl Aa Aa Aa) (rg hf (Au Cv Aa Hk Aa Aa) (rg hf (AM (i:=0) Hl Aa Aa Aa) (rg hf (BQ Aa Aa) (rq (A2 Aa hf Aa) (rq (Aj Aa) (rg hg (Au Cv Aa BX Aa Aa) (rg hg (AM (i:=1) Cf Aa Aa Aa) (rg hg (Au Cv Aa BX Aa Aa) (rg hg (AM (i:=0) Cf Aa Aa Aa) (rg hg (CQ Aa Aa) (rq (A2 Aa hg Aa) (rq (Aj Aa) (rz hj (rz hj (rz hj (rz hj (rz hj (rq (r:=rB true) (A5 (b:=!decide ((((Aq a he).fEffect).fKey)=(((Aq b he).fEffect).fKey))) Aa hj Aa) (rq (Aj Aa) ?_)))))))))))))))))))))));refine rz Aa (rz Aa (rz Aa (rz Aa (rz Aa (rz Aa (rq (r:=rB true) (A5 (b:=true) Aa Aa Aa) (re [107,0,1,5] ?_)))))));exact CI (And.intro ha (And.intro hb (And.intro hd (And.intro hf (And.intro hg hj)))))
    refine AY (!decide ((((Aq a he).fEffect).fDelay)=(((Aq b he).fEffect).fDelay))) (λhk=>?_) (λhk=>?_)
    ·refine D0 [0,1,5,6,7] ?_;refine rq (Aj Aa) (rq (Aj Aa) (rq (AW (enc:=Ad) (ys:=a) BY Cr Aa Aa hh) (rq (A1 CB Aa BX Aa Aa) (rq (AJ Cf Aa Aa) (rq (Aj Aa) (rq (Aj Aa) (rq (AW (enc:=Ad) (ys:=b) BY Cr Aa Aa hi) (rq (A1 CB Aa BX Aa Aa) (rq (AJ Cf Aa Aa) (rq (CQ Aa Aa) (rq (Aj Aa) (rg ha (Aj Aa) (rg ha (Aj Aa) (rg ha (AW (enc:=Ad) (ys:=a) BY Cr Aa Aa hh) (rg ha (A1 CB Aa BX Aa Aa) (rg ha (AJ Cf Aa Aa) (rg ha (Aj Aa) (rg ha (Aj Aa) (rg ha (AW (enc:=Ad) (ys:=b) BY Cr Aa Aa hi) (rg ha (A1 CB Aa BX Aa Aa) (rg ha (AJ Cf Aa Aa) (rg ha (CQ Aa Aa) (rq (A2 Aa ha Aa) ?_)))))))))))))))))))))));refine rq (Aj Aa) (rg hb (Aj Aa) (rg hb (Aj Aa) (rg hb (AW (enc:=Ad) (ys:=a) BY Cr Aa Aa hh) (rg hb (A1 CB Aa BX Aa Aa) (rg hb (AJ Cf Aa Aa) (rg hb (Aj Aa) (rg hb (Aj Aa) (rg hb (AW (enc:=Ad) (ys:=b) BY Cr Aa Aa hi) (rg hb (A1 CB Aa BX Aa Aa) (rg hb (AJ Cf Aa Aa) (rg hb (CQ Aa Aa) (rq (A2 Aa hb Aa) (rq (Aj Aa) (rg hd (Aj Aa) (rg hd (Aj Aa) (rg hd (AW (enc:=Ad) (ys:=a) BY Cr Aa Aa hh) (rg hd (A1 CB Aa Cy Aa Aa) (rg hd (AJ CO Aa Aa) (rg hd (Aj Aa) (rg hd (Aj Aa) (rg hd (AW (enc:=Ad) (ys:=b) BY Cr Aa Aa hi) (rg hd (A1 CB Aa Cy Aa Aa) (rg hd (AJ CO Aa Aa) ?_)))))))))))))))))))))));refine rg hd (BQ Aa Aa) (rq (A2 Aa hd Aa) (rq (Aj Aa) (rg hf (Au Cv Aa Hk Aa Aa) (rg hf (AM (i:=1) Hl Aa Aa Aa) (rg hf (Au Cv Aa Hk Aa Aa) (rg hf (AM (i:=0) Hl Aa Aa Aa) (rg hf (BQ Aa Aa) (rq (A2 Aa hf Aa) (rq (Aj Aa) (rg hg (Au Cv Aa BX Aa Aa) (rg hg (AM (i:=1) Cf Aa Aa Aa) (rg hg (Au Cv Aa BX Aa Aa) (rg hg (AM (i:=0) Cf Aa Aa Aa) (rg hg (CQ Aa Aa) (rq (A2 Aa hg Aa) (rq (Aj Aa) (rg hj (Au Cv Aa Cy Aa Aa) (rg hj (AM (i:=1) CO Aa Aa Aa) (rg hj (Au Cv Aa Cy Aa Aa) (rg hj (AM (i:=0) CO Aa Aa Aa) (rg hj (BQ Aa Aa) (rq (A2 Aa hj Aa) (rq (Aj Aa) ?_)))))))))))))))))))))));refine rz hk (rz hk (rz hk (rz hk (rz hk (rz hk (rq (r:=rB true) (A5 (b:=!decide ((((Aq a he).fEffect).fDelay)=(((Aq b he).fEffect).fDelay))) Aa hk Aa) (re [107,0,1,5] ?_)))))));exact CI (And.intro ha (And.intro hb (And.intro hd (And.intro hf (And.intro hg (And.intro hj hk))))))
    refine D0 [0,1,5,6,7] ?_;refine rq (Aj Aa) (rq (Aj Aa) (rq (AW (enc:=Ad) (ys:=a) BY Cr Aa Aa hh) (rq (A1 CB Aa BX Aa Aa) (rq (AJ Cf Aa Aa) (rq (Aj Aa) (rq (Aj Aa) (rq (AW (enc:=Ad) (ys:=b) BY Cr Aa Aa hi) (rq (A1 CB Aa BX Aa Aa) (rq (AJ Cf Aa Aa) (rq (CQ Aa Aa) (rq (Aj Aa) (rg ha (Aj Aa) (rg ha (Aj Aa) (rg ha (AW (enc:=Ad) (ys:=a) BY Cr Aa Aa hh) (rg ha (A1 CB Aa BX Aa Aa) (rg ha (AJ Cf Aa Aa) (rg ha (Aj Aa) (rg ha (Aj Aa) (rg ha (AW (enc:=Ad) (ys:=b) BY Cr Aa Aa hi) (rg ha (A1 CB Aa BX Aa Aa) (rg ha (AJ Cf Aa Aa) (rg ha (CQ Aa Aa) (rq (A2 Aa ha Aa) ?_)))))))))))))))))))))));refine rq (Aj Aa) (rg hb (Aj Aa) (rg hb (Aj Aa) (rg hb (AW (enc:=Ad) (ys:=a) BY Cr Aa Aa hh) (rg hb (A1 CB Aa BX Aa Aa) (rg hb (AJ Cf Aa Aa) (rg hb (Aj Aa) (rg hb (Aj Aa) (rg hb (AW (enc:=Ad) (ys:=b) BY Cr Aa Aa hi) (rg hb (A1 CB Aa BX Aa Aa) (rg hb (AJ Cf Aa Aa) (rg hb (CQ Aa Aa) (rq (A2 Aa hb Aa) (rq (Aj Aa) (rg hd (Aj Aa) (rg hd (Aj Aa) (rg hd (AW (enc:=Ad) (ys:=a) BY Cr Aa Aa hh) (rg hd (A1 CB Aa Cy Aa Aa) (rg hd (AJ CO Aa Aa) (rg hd (Aj Aa) (rg hd (Aj Aa) (rg hd (AW (enc:=Ad) (ys:=b) BY Cr Aa Aa hi) (rg hd (A1 CB Aa Cy Aa Aa) (rg hd (AJ CO Aa Aa) ?_)))))))))))))))))))))));refine rg hd (BQ Aa Aa) (rq (A2 Aa hd Aa) (rq (Aj Aa) (rg hf (Au Cv Aa Hk Aa Aa) (rg hf (AM (i:=1) Hl Aa Aa Aa) (rg hf (Au Cv Aa Hk Aa Aa) (rg hf (AM (i:=0) Hl Aa Aa Aa) (rg hf (BQ Aa Aa) (rq (A2 Aa hf Aa) (rq (Aj Aa) (rg hg (Au Cv Aa BX Aa Aa) (rg hg (AM (i:=1) Cf Aa Aa Aa) (rg hg (Au Cv Aa BX Aa Aa) (rg hg (AM (i:=0) Cf Aa Aa Aa) (rg hg (CQ Aa Aa) (rq (A2 Aa hg Aa) (rq (Aj Aa) (rg hj (Au Cv Aa Cy Aa Aa) (rg hj (AM (i:=1) CO Aa Aa Aa) (rg hj (Au Cv Aa Cy Aa Aa) (rg hj (AM (i:=0) CO Aa Aa Aa) (rg hj (BQ Aa Aa) (rq (A2 Aa hj Aa) (rq (Aj Aa) ?_)))))))))))))))))))))));refine rg hk (Au Cv Aa CR Aa Aa) (rg hk (AM (i:=1) EC Aa Aa Aa) (rg hk (Au Cv Aa CR Aa Aa) (rg hk (AM (i:=0) EC Aa Aa Aa) (ro hk (G0 Tryz.call15 (Ov F (((Aq a he).fEffect).fValue) (((Aq b he).fEffect).fValue) (ov (HV F (((Aq a he).fEffect).fValue) (((Aq b he).fEffect).fValue))) (Og (EA (EA (EA (EA (EA (EA (EA hz ha) hb) hd) hf) hg) hj) hk))) Aa) (rg hk (BT Aa) (rq (A2 Aa hk Aa) (re [107,0,1,5] ?_)))))));exact CI (And.intro ha (And.intro hb (And.intro hd (And.intro hf (And.intro hg (And.intro hj hk))))))
   refine cz h0 Aa (λh1 h4=>?_) (λh1 h5=>?_)
   ·refine Am (wa Aa (Aw (A4 (AB (Ae (Ae (Be ?_)))))));have h6:=B1 h4 hn ho;refine AB (Ae ?_);obtain rfl:=A7 h6;exact A3 (Ch Tryz.results19 (AR Aa)) sN ⟨Aa,Aa⟩
   refine A0 (AK (AX (An (wm Aa (ck h5 λh7 h8=>wv (BW Aa Aa h7) (wa Aa (As ?_)))))));have h9:=B9 h8 hn;exact Ay (AE (hs,he+1,()) ⟨h9,AfV _⟩ (AG.c Aa (AG.c Aa (AG.c Aa AG.nil))) sN)
  refine B3 (A9 ?_);have hA:=Cw hw hn ho;exact A9 (Bo (AE ((),()) hA AG.nil sN))
 rintro⟨⟨⟩,⟨⟩⟩ hm;refine JZ ?_;replace hm:GZ =some r:=hm;unfold GZ at hm;refine Bn (AX (Am (wa Aa (Aw (A4 ?_)))));obtain rfl:=A7 hm;exact A3 (Ch Tryz.results19 (AR Aa)) sN ⟨Aa,Aa⟩
theorem TK (l:(List Ak))(n:Int)(r:Ai)(h:Nq l n=some r):Fn Tryz.prog GE 32 [Br 8 (AH Ad l),AD n] [] (λR H=>R=rS r∧H=[]):=by
 refine enter (n:=18) Tryz.func32 Aa Tryz.ntmps32 Aa (λw Z=>?_);unfold Nq at h;refine Am (wv (r:=rS ([]:Ai)) (AA Aa) (Aw (Ao (AV [(0,Br 8 (AH Ad l)),(1,AD n),(12,rB ((decide (n<0))||(decide ((l.length:Int)≤n))))] [] ?_ ?_))))
 ·refine An (wm Aa (wv (Dh Aa Aa) (wm Aa (AY (decide (n<0)) (λc1=>?_) (λc1=>?_)))))
  ·refine wf c1 (wf c1 (wf c1 (wf c1 (wv (r:=rB true) (A5 Aa c1 Aa) (As ?_)))));exact CI c1
  refine wo c1 (wm Aa (wo c1 (wm Aa (wo c1 (wv (Bx (ys:=l) (enc:=Ad) BY Aa) (wo c1 (wv (JV Aa Aa) (G9 Aa c1 Aa (As ?_)))))))));exact CI c1
 refine cz h Aa (λc2 h3=>?_) (λc2 h4=>?_)
 ·refine Am (wv (r:=rS ([]:Ai)) (AA Aa) (Aw (A4 (Ae ?_))));obtain rfl:=A7 h3;exact A3 (Ch Tryz.results32 (AR Aa)) sN ⟨Aa,Aa⟩
 refine A0 (AX (Am (wm Aa (wm Aa (ck h4 λg5 h6=>wv (AW (enc:=Ad) (ys:=l) BY Cr Aa Aa g5) (wv (A1 CB Aa BX Aa Aa) (wv (AJ Cf Aa Aa) (wa Aa (Aw (A4 ?_))))))))));obtain rfl:=A7 h6;exact A3 (Ch Tryz.results32 (AR Aa)) sN ⟨Aa,Aa⟩
theorem TT (F:Nat)(a:(List Ai))(b:(List Ai))(r:Bool)(h:Nw F a b=some r):Fn Tryz.prog GE 16 [Br 1 (AH eS a),Br 1 (AH eS b)] [] (λR H=>R=rB r∧H=[]):=by
 refine enter (n:=26) Tryz.func16 Aa Tryz.ntmps16 Aa (λw Z=>?_);unfold Nw at h;refine Am (wa Aa (Aw (Ao (Am (wm Aa (wv (Bx (ys:=a) (enc:=eS) CD Aa) (wm Aa (wv (Bx (ys:=b) (enc:=eS) CD Aa) (wv (BQ Aa Aa) (Aw (cz h Aa (λc1 h2=>?_) (λc1 h3=>?_))))))))))))
 ·refine Am (wa Aa (Aw (A4 (Ae ?_))));obtain rfl:=A7 h2;exact A3 (Ch Tryz.results16 (AR Aa)) sN ⟨Aa,Aa⟩
 refine A0 (AX (Ao (Am (wa Aa (Aw (AS (ob h3 λhg hh he=>B4 (S:=Nat×(Int)×(Unit)) (V:=(Unit)×(Unit)) 0 (λσ=>Ci (λσ=>HL a b σ) σ.1 σ.2.1=some hg) (λσ=>[(0,Br 1 (AH eS a)),(1,Br 1 (AH eS b)),(5,AD σ.2.1)]) (λσ=>[]) (λσ=>σ.1) (F,0,()) hh (AG.c Aa (AG.c Aa (AG.c Aa AG.nil))) sN (λσ=>Lg =some r) (λσ=>[]) (λσ=>[]) ?_ ?_)))))))
 ·rintro⟨h1,hf,⟨⟩⟩ hi;refine GC ?_;obtain⟨hj,rfl,hk,ha,hd⟩:=Di hi;replace ha:HL a b hf=some hk:=ha;unfold HL at ha;refine Ao (Am (wm Aa (wm Aa (wv (Bx (ys:=a) (enc:=eS) CD Aa) (wv (Dh Aa Aa) (Aw (cz ha Aa (λhl hm=>?_) (λhl hn=>?_))))))))
  ·refine A0 (AX (Ao (AS (Ao (ck hm λho hp=>ck hp λhq hr=>D0 [0,1,5] ?_)))));refine rq (Aj Aa) (rq (Aj Aa) (rq (AW (enc:=eS) (ys:=a) CD BX Aa Aa ho) (rq (AJ Cf Aa Aa) (rq (Aj Aa) (rq (Aj Aa) (rq (AW (enc:=eS) (ys:=b) CD BX Aa Aa hq) (rq (AJ Cf Aa Aa) (rq (CQ Aa Aa) (re [25,0,1,5] ?_)))))))));refine AX (cz hr Aa (λhs ht=>?_) (λhs hu=>?_))
   ·refine Am (wa Aa (Aw (A4 (AB (Ae (Ae (Be ?_)))))));have hw:=B1 ht hd he;refine AB (Ae ?_);obtain rfl:=A7 hw;exact A3 (Ch Tryz.results16 (AR Aa)) sN ⟨Aa,Aa⟩
   refine A0 (AK (AX (An (wm Aa (ck hu λhx hy=>wv (BW Aa Aa hx) (wa Aa (As ?_)))))));have hz:=B9 hy hd;exact Ay (AE (hj,hf+1,()) ⟨hz,AfV _⟩ (AG.c Aa (AG.c Aa (AG.c Aa AG.nil))) sN)
  refine B3 (A9 ?_);have h0:=Cw hn hd he;exact A9 (Bo (AE ((),()) h0 AG.nil sN))
 rintro⟨⟨⟩,⟨⟩⟩ hb;refine JZ ?_;replace hb:Lg =some r:=hb;unfold Lg at hb;refine Bn (AX (Am (wa Aa (Aw (A4 ?_)))));obtain rfl:=A7 hb;exact A3 (Ch Tryz.results16 (AR Aa)) sN ⟨Aa,Aa⟩
end Go.Proofs.YtfobhhegpkinaaaGreatDoor.Q
namespace Go.Proofs
open Go.Shelf
def Tryz.lays190_ren:Go.Shelf.Ren:=⟨fun | 190=>77 | 125=>108 | 258=>107 | 128=>139 | 129=>140 | 302=>130 | 303=>131 | 304=>132 | 305=>133 | 306=>134 | 307=>135 | 308=>136 | 309=>137 | 310=>138 | 333=>164 | 329=>165 | 330=>166 | 334=>167 | 335=>168 | 336=>169 | 344=>192 | n=>n,fun | 31=>42 | 9=>9 | 3=>3 | 46=>134 | 0=>0 | 51=>158 | 53=>179 | 4=>4 | 183=>170 | 182=>169 | 131=>175 | 5=>5 | 218=>198 | 222=>202 | 228=>220 | 229=>221 | n=>n,fun | n=>n⟩
theorem Tryz.lays190:Go.Proofs.Lays.n190 Tryz.prog Tryz.lays190_ren:={
 mixed:=by kernel_rfl
 f125:=Tryz.func108.trans (congrArg some (by kernel_rfl))
 f128:=Tryz.func139.trans (congrArg some (by kernel_rfl))
 f129:=Tryz.func140.trans (congrArg some (by kernel_rfl))
 f190:=Tryz.func77.trans (congrArg some (by kernel_rfl))
 f258:=Tryz.func107.trans (congrArg some (by kernel_rfl))
 f302:=Tryz.func130.trans (congrArg some (by kernel_rfl))
 f303:=Tryz.func131.trans (congrArg some (by kernel_rfl))
 f304:=Tryz.func132.trans (congrArg some (by kernel_rfl))
 f305:=Tryz.func133.trans (congrArg some (by kernel_rfl))
 f306:=Tryz.func134.trans (congrArg some (by kernel_rfl))
 f307:=Tryz.func135.trans (congrArg some (by kernel_rfl))
 f308:=Tryz.func136.trans (congrArg some (by kernel_rfl))
 f309:=Tryz.func137.trans (congrArg some (by kernel_rfl))
 f310:=Tryz.func138.trans (congrArg some (by kernel_rfl))
 f329:=Tryz.func165.trans (congrArg some (by kernel_rfl))
 f330:=Tryz.func166.trans (congrArg some (by kernel_rfl))
 f333:=Tryz.func164.trans (congrArg some (by kernel_rfl))
 f334:=Tryz.func167.trans (congrArg some (by kernel_rfl))
 f335:=Tryz.func168.trans (congrArg some (by kernel_rfl))
 f336:=Tryz.func169.trans (congrArg some (by kernel_rfl))
 f344:=Tryz.func192.trans (congrArg some (by kernel_rfl))
 t0:=Tryz.underlying0
 a0:=Tryz.isAgg0
 z0:=Tryz.sizeOf0
 v0:=Tryz.zeroValue0
 t3:=Tryz.underlying3
 a3:=Tryz.isAgg3
 z3:=Tryz.sizeOf3
 v3:=Tryz.zeroValue3
 t4:=Tryz.underlying4
 a4:=Tryz.isAgg4
 z4:=Tryz.sizeOf4
 v4:=Tryz.zeroValue4
 t5:=Tryz.underlying5
 a5:=Tryz.isAgg5
 z5:=Tryz.sizeOf5
 v5:=Tryz.zeroValue5
 t9:=Tryz.underlying9
 a9:=Tryz.isAgg9
 z9:=Tryz.sizeOf9
 v9:=Tryz.zeroValue9
 t31:=Tryz.underlying42
 a31:=Tryz.isAgg42
 z31:=Tryz.sizeOf42
 v31:=Tryz.zeroValue42
 t46:=Tryz.underlying134
 a46:=Tryz.isAgg134
 z46:=Tryz.sizeOf134
 v46:=Tryz.zeroValue134
 t51:=Tryz.underlying158
 a51:=Tryz.isAgg158
 z51:=Tryz.sizeOf158
 v51:=Tryz.zeroValue158
 t53:=Tryz.underlying179
 a53:=Tryz.isAgg179
 z53:=Tryz.sizeOf179
 v53:=Tryz.zeroValue179
 t131:=Tryz.underlying175
 a131:=Tryz.isAgg175
 z131:=Tryz.sizeOf175
 v131:=Tryz.zeroValue175
 t182:=Tryz.underlying169
 a182:=Tryz.isAgg169
 z182:=Tryz.sizeOf169
 v182:=Tryz.zeroValue169
 t183:=Tryz.underlying170
 a183:=Tryz.isAgg170
 z183:=Tryz.sizeOf170
 v183:=Tryz.zeroValue170
 t218:=Tryz.underlying198
 a218:=Tryz.isAgg198
 z218:=Tryz.sizeOf198
 v218:=Tryz.zeroValue198
 t222:=Tryz.underlying202
 a222:=Tryz.isAgg202
 z222:=Tryz.sizeOf202
 v222:=Tryz.zeroValue202
 t228:=Tryz.underlying220
 a228:=Tryz.isAgg220
 z228:=Tryz.sizeOf220
 v228:=Tryz.zeroValue220
 t229:=Tryz.underlying221
 a229:=Tryz.isAgg221
 z229:=Tryz.sizeOf221
 v229:=Tryz.zeroValue221 }
open Go.Sort Go.RowKit in
theorem Tryz.slices_Sort_string (blk off cap:Nat)(ss:List (List UInt8))(w:World)(hH:Holds encStr w blk off ss.toArray)(hblk:blk<w.heap.size)(hsz:ss.length<4611686018427387904) :
  Calls Tryz.prog 77 #[.slice (some ⟨blk,off,none⟩) ss.length cap] w λe w'=>
   e = .returned (.tuple #[])∧∃n os,w'=grow (putRow encStr (Sort.ahead w n) blk off (ss.mergeSort λx y=>decide (x≤y)).toArray) os:=Any.slices_Sort_string Tryz.lays190 blk off cap ss w hH hblk hsz
def Tryz.laysNm216_ren:Go.Shelf.Ren:=⟨fun | 16=>43 | n=>n,fun | 24=>42 | 9=>9 | 4=>4 | n=>n,fun | n=>n⟩
theorem Tryz.laysNm216:Go.Proofs.Lays2.n16 Tryz.prog Tryz.laysNm216_ren:={
 mixed:=by kernel_rfl
 f16:=Tryz.func43.trans (congrArg some (by kernel_rfl))
 t4:=Tryz.underlying4
 a4:=Tryz.isAgg4
 z4:=Tryz.sizeOf4
 v4:=Tryz.zeroValue4
 t9:=Tryz.underlying9
 a9:=Tryz.isAgg9
 z9:=Tryz.sizeOf9
 v9:=Tryz.zeroValue9
 t24:=Tryz.underlying42
 a24:=Tryz.isAgg42
 z24:=Tryz.sizeOf42
 v24:=Tryz.zeroValue42
 i9:=by kernel_rfl }
open Go.RowKit Go.Lib in
theorem Tryz.slices_Clone_string (b off n c:Nat)(zs:List ByteArray)(w:World)(hz:n≤zs.length)(hbig:n*16≤140737488355328)(hc:∀j,j<zs.length→w.cell? ⟨b,off+j,none⟩=some (.string (zs.getD j ByteArray.empty))) :
  Calls Tryz.prog 43 #[.slice (some ⟨b,off,none⟩) n c] w λe w'=>∃v',e = .returned v'∧w'.ownsRow w.heap.size 9 1 v' n ((zs.take n).map (Value.string))∧v'≠.slice none 0 0∧Below w.heap.size w w':=Any.slices_Clone_string Tryz.laysNm216 b off n c zs w hz hbig hc
open Go.RowKit Go.Lib in
theorem Tryz.slices_Clone_string_nil (n c:Nat)(w:World) :
  Calls Tryz.prog 43 #[.slice none n c] w λe w'=>e = .returned (.slice none 0 0)∧w'=w:=Any.slices_Clone_string_nil Tryz.laysNm216 n c w
open Go.RowKit Go.Lib in
theorem Tryz.slices_Clone_string_zero (a:Addr)(c:Nat)(w:World) :
  Calls Tryz.prog 43 #[.slice (some a) 0 c] w λe w'=>∃v',e = .returned v'∧w'.ownsRow w.heap.size 9 1 v' 0 []∧v'≠.slice none 0 0∧Below w.heap.size w w':=Any.slices_Clone_string_zero Tryz.laysNm216 a c w
def Tryz.lays194_ren:Go.Shelf.Ren:=⟨fun | 194=>78 | n=>n,fun | 31=>42 | 9=>9 | 3=>3 | 4=>4 | 0=>0 | n=>n,fun | n=>n⟩
theorem Tryz.lays194:Go.Proofs.Lays.n194 Tryz.prog Tryz.lays194_ren:={
 mixed:=by kernel_rfl
 f194:=Tryz.func78.trans (congrArg some (by kernel_rfl))
 t0:=Tryz.underlying0
 a0:=Tryz.isAgg0
 z0:=Tryz.sizeOf0
 v0:=Tryz.zeroValue0
 t3:=Tryz.underlying3
 a3:=Tryz.isAgg3
 z3:=Tryz.sizeOf3
 v3:=Tryz.zeroValue3
 t4:=Tryz.underlying4
 a4:=Tryz.isAgg4
 z4:=Tryz.sizeOf4
 v4:=Tryz.zeroValue4
 t9:=Tryz.underlying9
 a9:=Tryz.isAgg9
 z9:=Tryz.sizeOf9
 v9:=Tryz.zeroValue9
 t31:=Tryz.underlying42
 a31:=Tryz.isAgg42
 z31:=Tryz.sizeOf42
 v31:=Tryz.zeroValue42 }
open Go.RowKit Go.Lib Go.Sort in
theorem Tryz.slices_Compact_string (blk off cap:Nat)(zs:List (List UInt8))(w:World)(hH:Holds encStr w blk off zs.toArray)(hsz:zs.length≤9223372036854775807)(hcap:zs.length≤cap) :
  Calls Tryz.prog 78 #[.slice (some ⟨blk,off,none⟩) zs.length cap] w λe w'=>e = .returned (.slice (some ⟨blk,off,none⟩) (Lib.compact zs).length cap)∧∃q,w'=putRow encStr (Sort.ahead w q) blk off (Lib.compact zs++List.replicate (zs.length-(Lib.compact zs).length) []).toArray:=Any.slices_Compact_string Tryz.lays194 blk off cap zs w hH hsz hcap
open Go.RowKit Go.Lib Go.Sort in
theorem Tryz.slices_Compact_string_empty (a:Option Addr)(cap:Nat)(w:World) :
  Calls Tryz.prog 78 #[.slice a 0 cap] w λe w'=>e = .returned (.slice a 0 cap)∧w'=w:=Any.slices_Compact_string_empty Tryz.lays194 a cap w
open Go.RowKit Go.Sort in
theorem Tryz.slices_Sort_string_none (p:Option Addr)(cap:Nat)(w:World) :
  Calls Tryz.prog 77 #[.slice p 0 cap] w λe w'=>e = .returned (.tuple #[])∧w'=w:=Any.slices_Sort_string_none Tryz.lays190 p cap w
end Go.Proofs
namespace Go.Proofs.YtfobhhegpkinaaaGreatDoor
open Go Go.RowKit Go.Sort
set_option linter.unusedVariables false
set_option linter.unusedSimpArgs false
theorem XX (ss:List (List UInt8)):flat (ss.map Th)=ss.map encStr:=by
 induction ss with
 | nil=>rfl
 | cons s r ih=>simp[flat,Th,B,encStr] at ih ⊢;exact ih
theorem Zd (ss:List (List UInt8)):∀c∈ss.map Th,c.length=1:=by
 intro c hc;obtain⟨s,_,rfl⟩:=List.mem_map.1 hc;rfl
theorem St.of_row {w w':World}{e:TypeId}{sz n:Nat}{v:Value}{xs:List Value}(hb:Below w.heap.size w w')(h:w'.ownsRow w.heap.size e sz v n xs):St w [] [.row v e sz n xs] w':=by
 have h0:=St.of_below hb;refine⟨h0.os,h0.tape,h0.output,h0.size,h0.old,?_,?_,by simp⟩
 ·intro en he;simp only[Aga] at he;subst he;refine⟨h.1,?_⟩;rcases h.2 with hn | ⟨g,cap,cur,rfl,hb,rest⟩
  ·exact .inl hn
  ·exact .inr ⟨g,cap,cur,rfl,Agn _,rest⟩
 ·intro en he k hk;simp only[Aga] at he;subst he;simp[Ent.foot,Option.mem_toList] at hk;exact .inl (h.lt k hk).1
theorem Qa.of_row {w:World}{v:Value}{ss:List (List UInt8)}(h:(Ent.row v 9 1 ss.length (ss.map encStr)).holds w):Qa w v ss:=by
 have h2:=Yx.of_row (sz:=1) (e:=9) (vs:=ss.map Th) (w:=w) (v:=v) (by rw[XX];simpa using h) (Zd ss);exact h2
theorem Qa.cells {w:World}{v:Value}{ss:List (List UInt8)}(h:Qa w v ss):(∃cap,v = .slice none 0 cap∧ss=[])∨(∃a cap,v = .slice (some a) ss.length cap∧ss=[])∨
  (∃b off cap,v = .slice (some ⟨b,off,none⟩) ss.length cap∧∀j,j<ss.length→w.cell? ⟨b,off+j,none⟩=some (.string ((ss.map B).getD j ByteArray.empty))):=by
 obtain⟨A,cap,rfl,hc,hm,hi⟩:=h
 cases A with
 | none=>
  have:ss=[]:=by
   cases ss with
   | nil=>rfl
   | cons s r=>obtain⟨_,a,h,_⟩:=hi 0 (Th s) (by simp);cases h
  subst this;exact .inl ⟨cap,rfl,rfl⟩
 | some a=>
  cases hs:ss with
  | nil=>subst hs;exact .inr (.inl ⟨a,cap,rfl,rfl⟩)
  | cons s r=>
   obtain⟨_,a',h,hsp,_,_⟩:=hi 0 (Th s) (by simp[hs]);simp at h;subst h;obtain⟨b,off,spot⟩:=a;simp only at hsp;subst hsp;refine .inr (.inr ⟨b,off,cap,by simp[hs],λj hj=>?_⟩);rw[← hs] at hj ⊢;obtain⟨_,a',h,_,_,hcell⟩:=hi j (Th ss[j]) (by simp[hj]);simp at h;subst h;have:=hcell 0 _ rfl;simpa[hj] using this
theorem AcA (v:Value)(ss:List (List UInt8))(hl:ss.length≤8796093022208)(w:World)(h:Qa w v ss) :
  Calls Tryz.prog 43 [v].toArray w (Y7 w [] (λu H=>H=[.row u 9 1 ss.length (ss.map encStr)])):=by
 rcases h.cells with⟨cap,rfl,rfl⟩ | ⟨a,cap,rfl,rfl⟩ | ⟨b,off,cap,rfl,hc⟩
 ·refine(Tryz.slices_Clone_string_nil 0 cap w).mono λe w' ⟨he,hw⟩=>?_;subst hw;exact⟨_,_,he,St.of_row (Below.refl _ _) ⟨rfl,.inl ⟨rfl,rfl⟩⟩,rfl⟩
 ·refine(Tryz.slices_Clone_string_zero a cap w).mono λe w' ⟨v',he,ho,_,hb⟩=>?_;exact⟨_,_,he,St.of_row hb ho,rfl⟩
 ·refine(Tryz.slices_Clone_string b off ss.length cap (ss.map B) w (by simp) (by omega) (λj hj=>hc j (by simpa using hj))).mono λe w' ⟨v',he,ho,_,hb⟩=>?_;refine⟨_,_,he,St.of_row hb ho,?_⟩;simp[List.take_of_length_le,B]
theorem Adm (v:Value)(ss:List (List UInt8))(hl:ss.length≤8796093022208)(w:World)(h:(Ent.row v 9 1 ss.length (ss.map encStr)).holds w) :
  Calls Tryz.prog 77 [v].toArray w (Y7 w (Ent.row v 9 1 ss.length (ss.map encStr)).foot (λu H=>u = .tuple #[]∧H=[.row v 9 1 (ss.mergeSort λx y=>decide (x≤y)).length ((ss.mergeSort λx y=>decide (x≤y)).map encStr)])):=by
 obtain⟨h1,h2⟩:=h;rcases h2 with⟨rfl,hn⟩ | ⟨g,cap,cur,rfl,_,hg,hc,hm,hsz,ht⟩
 ·have:ss=[]:=Agf hn;subst this;refine(Tryz.slices_Sort_string_none none 0 w).mono λe w' ⟨he,hw⟩=>?_;subst hw;exact⟨_,_,he,St.of_row (e:=9) (sz:=1) (n:=0) (xs:=[]) (Below.refl _ _) ⟨rfl,.inl ⟨rfl,rfl⟩⟩,rfl,by simp⟩
 ·have hb:=(Array.getElem?_eq_some_iff.1 hg).1;refine(Tryz.slices_Sort_string g 0 cap ss w (holds_of_block hg (by simpa using ht)) hb (by omega)).mono λe w' ⟨he,n,os,hw⟩=>?_;subst hw;have hgb:=grownBy_sorted (w:=w) (g:=g) (n:=n) (os:=os) (ss.mergeSort λx y=>decide (x≤y)).toArray;have ho:=ownsRow_sorted (w:=w) (base:=0) (g:=g) (cap:=cap) (n:=n) (e:=9) (os:=os) (cur:=cur) (ss:=ss) (ts:=ss.mergeSort λx y=>decide (x≤y)) (by simp) (Agn _) hg hc hm hsz;refine⟨_,_,he,⟨hgb.os,hgb.tape,hgb.output,hgb.size,λk hk hne=>hgb.block k hk (λe=>hne ?_),?_,?_,by simp⟩,rfl,rfl⟩
  ·simp only[Option.some.injEq] at e;simp[Ent.foot,Value.ownBlock,e]
  ·intro en he;simp only[Aga] at he;subst he;rw[List.length_mergeSort];exact ho
  ·intro en he k hk;simp only[Aga] at he;subst he;exact .inr hk
theorem Yh (v:Value)(ss:List (List UInt8))(hl:ss.length≤8796093022208)(w:World)(h:(Ent.row v 9 1 ss.length (ss.map encStr)).holds w) :
  Calls Tryz.prog 78 [v].toArray w (Y7 w (Ent.row v 9 1 ss.length (ss.map encStr)).foot (λu H=>H=[.row u 9 1 (Lib.compact ss).length ((Lib.compact ss).map encStr)])):=by
 obtain⟨h1,h2⟩:=h;rcases h2 with⟨rfl,hn⟩ | ⟨g,cap,cur,rfl,_,hg,hc,hm,hsz,ht⟩
 ·have:ss=[]:=Agf hn;subst this;refine(Tryz.slices_Compact_string_empty none 0 w).mono λe w' ⟨he,hw⟩=>?_;subst hw;exact⟨_,_,he,St.of_row (Below.refl _ _) ⟨rfl,.inl ⟨rfl,rfl⟩⟩,rfl⟩
 ·have hb:=(Array.getElem?_eq_some_iff.1 hg).1;have hcl:(Lib.compact ss).length≤ss.length:=Lib.compact_length_le ss;refine(Tryz.slices_Compact_string g 0 cap ss w (holds_of_block hg (by simpa using ht)) (by omega) hc).mono λe w' ⟨he,q,hw⟩=>?_;subst hw;have ho:=Lib.ownsRow_putRow (enc:=encStr) (w:=w) (base:=0) (e:=9) (g:=g) (n:=ss.length) (cap:=cap) (q:=q) (k:=(Lib.compact ss).length) (zs:=ss) (ys:=Lib.compact ss++List.replicate (ss.length-(Lib.compact ss).length) [])
   ⟨h1,.inr ⟨g,cap,cur,rfl,Agn _,hg,hc,hm,hsz,ht⟩⟩ (by simp;omega) hcl
  rw[List.take_left] at ho;refine⟨_,_,he,⟨rfl,rfl,rfl,by simp[Sort.ahead],λk hk hne=>?_,?_,?_,by simp⟩,rfl⟩
  ·have:g≠k:=λe=>hne (by simp[Ent.foot,Value.ownBlock,e]);simp[putRow,mapBlock,Sort.ahead,Array.getElem?_modify,this]
  ·intro en he;simp only[Aga] at he;subst he;exact ho
  ·intro en he k hk;simp only[Aga] at he;subst he;exact .inr (by simpa[Ent.foot,Value.ownBlock] using hk)
section
variable {P : Program} {n : Nat} {w0 : World} {M : List Nat} {l : Fr} {H : List Ent} {d : Option Nat} {x y : Operand} {ty t e : TypeId} {pos : String} {af : Array Edge} {g : Option (Nat × Bool)} {v : Value} {ss : List (List UInt8)} {i : Int}
end
def BJ (ss:List (List UInt8)):List (List UInt8):=Lib.compact (ss.mergeSort λx y=>decide (x≤y))
end Go.Proofs.YtfobhhegpkinaaaGreatDoor
