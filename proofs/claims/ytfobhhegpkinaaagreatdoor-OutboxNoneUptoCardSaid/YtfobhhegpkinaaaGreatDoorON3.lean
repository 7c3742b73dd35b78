/-
  Texts of the proof, put together: WVe, PVf, WVf, PH, PFr, QH, QY, QU, QW, QT, QJ, QX, WFr, PM, POa, QN, QM, QI, QV, QL, PI, QF, Q6, Q9, WOa, POb, Qy, WOb, POc, WOc, ShelfS, FwI, POd, QK.
-/
import Derived.Test.YtfobhhegpkinaaaGreatDoorON2
import Derived.Laws.StructEq
import GoSem.Op.IntBits
import GoSem.Op.Shift
import Derived.Laws.Cover3
import Derived.ScopeJumps
import Derived.Laws.CopyRow
import Derived.Laws.IdiomCopy
import Derived.Laws.OwnMore
import Derived.MapKept
import Derived.Maps.RangeRun
import Derived.LoopN
import Derived.Shelf.Sort.Plain
import Derived.Shelf.Slices.CompactS
import Derived.Shelf.Slices.Clone
import Derived.Shelf.Slices.Turned
import Derived.Shelf.Slices.In.SortNone
import Derived.Test.YtfobhhegpkinaaaGreatDoorProg
import Derived.Sort.OwnSorted
import Derived.Lib.OwnBridge
import Derived.Lib.RowBridge
import Derived.Sort.KeysCollected
namespace Go.Proofs.YtfobhhegpkinaaaGreatDoor.Q
open Go Go.RowKit
set_option linter.unusedVariables false
set_option linter.unusedSimpArgs false
set_option maxRecDepth 100000
set_option maxHeartbeats 4000000
theorem VB {a0 b0:Int}{a1 b1:Int}{a2 b2:An}{a3 b3:Int}(w:World):(Op.equalIn 10000 83 (.agg #[.int .i64 a0,.int .i64 a1,.string (B a2),.int .i64 a3]) (.agg #[.int .i64 b0,.int .i64 b1,.string (B b2),.int .i64 b3])).run Tryz.prog w = .ok (decide (a0=b0)&&decide (a1=b1)&&decide (a2=b2)&&decide (a3=b3)) w:=by
  have hS:Tryz.prog.underlying 83=some (.struct (Tryz.prog.fieldsOf 83)):=by kernel_rfl
  have hp:Tryz.prog.stoodInHeld 83=false:=by kernel_rfl
  have u3:=T9;have ia3:=CQ;have so3:=C2;have u9:=C4;have ia9:=C7;have so9:=Cs;have ha:=Tryz.underlying81;have hb:=Jy;have hd:=Jx;rw[show(10000:Nat)=9999+1 from rfl,run_equalIn_agg w 9999 83 _ _ hS hp];simp only[Program.fieldsOf,C5]
  go_simp
  simp only[E1]
  by_cases h0:a0=b0<;>by_cases h1:a1=b1<;>by_cases h2:a2=b2<;>by_cases h3:a3=b3<;>simp[h0,h1,h2,h3]
theorem PQ {n:Nat}{c:Cx}{l:Fr}{H:List Ent}{d:Option Nat}{ty rty:TypeId}{pos:String}{af:Array Edge}{g:Option (Nat×Bool)}{x y:Operand}{a0 b0:Int}{a1 b1:Int}{a2 b2:An}{a3 b3:Int}(hx:ev l x=some (B9 [As a0,As a1,rS a2,As a3]))(hy:ev l y=some (B9 [As b0,As b1,rS b2,As b3])):Be Tryz.prog n c l H { dst:=d,op:=.binOp .neq 83 x y rty,type:=ty,pos:=pos,after:=af,guard:=g } (rB (!(decide (a0=b0)&&decide (a1=b1)&&decide (a2=b2)&&decide (a3=b3)))):=λa w Z ha hw=>by
  obtain⟨us,e1,q1⟩:=ha.ev hx;obtain⟨vs,e2,q2⟩:=ha.ev hy;have k1:=Bd.eq_rv (us:=[.int .i64 a0,.int .i64 a1,.string (B a2),.int .i64 a3]) q1;have k2:=Bd.eq_rv (us:=[.int .i64 b0,.int .i64 b1,.string (B b2),.int .i64 b3]) q2;subst k1;subst k2;have hm:Tryz.prog.eqGuardType Tryz.prog.depth 83=false:=by kernel_rfl
  have hb:=VB (a0:=a0) (a1:=a1) (a2:=a2) (a3:=a3) (b0:=b0) (b1:=b1) (b2:=b2) (b3:=b3) w;refine⟨.bool (!(decide (a0=b0)&&decide (a1=b1)&&decide (a2=b2)&&decide (a3=b3))),rfl,?_⟩;have hg:=run_eqGuard_agg (P:=Tryz.prog) w .neq 83 x y #[.int .i64 a0,.int .i64 a1,.string (B a2),.int .i64 a3] #[.int .i64 b0,.int .i64 b1,.string (B b2),.int .i64 b3] hm;simp only[execOp,e1,e2,Sem.run_bind,hg,Result.andThen_ok,run_neq_struct,hb,Sem.run_pure]
theorem Wj (F:Nat)(a:(List Ac))(b:(List Ac))(r:Bool)(h:Un F a b=some r):Fn Tryz.prog GE 15 [AU 4 (Ax Ab a),AU 4 (Ax Ab b)] [] (λR H=>R=rB r∧H=[]):=by
 refine enter (n:=26) Tryz.func15 Aa Tryz.ntmps15 Aa (λw Z=>?_);unfold Un at h;refine Al (wa Aa (Au (Aq (Al (wm Aa (wv (Bt (ys:=a) (enc:=Ab) CX Aa) (wm Aa (wv (Bt (ys:=b) (enc:=Ab) CX Aa) (wv (Cr Aa Aa) (Au (cz h Aa (λc1 h2=>?_) (λc1 h3=>?_))))))))))))
 ·refine Al (wa Aa (Au (A0 (Af ?_))));obtain rfl:=A1 h2;exact Az (BW Tryz.results15 (AI Aa)) sN ⟨Aa,Aa⟩
 ·refine A3 (AT (Aq (Al (wa Aa (Au (AO (ob h3 λhg hh hf=>B4 (S:=Nat×(Int)×(Unit)) (V:=(Unit)×(Unit)) 0 (λσ=>Cz (λσ=>Kq a b σ) σ.1 σ.2.1=some hg) (λσ=>[(0,AU 4 (Ax Ab a)),(1,AU 4 (Ax Ab b)),(5,As σ.2.1)]) (λσ=>[]) (λσ=>σ.1) (F,0,()) hh (AL.c Aa (AL.c Aa (AL.c Aa AL.nil))) sN (λσ=>Ko =some r) (λσ=>[]) (λσ=>[]) ?_ ?_)))))))
  ·rintro⟨h1,ha,⟨⟩⟩ hi;refine Cf (l':=[(0,AU 4 (Ax Ab a)),(1,AU 4 (Ax Ab b)),(5,As ha)]) (H':=[]) Aa Aa ?_;obtain⟨hj,rfl,hk,hb,he⟩:=CO hi;replace hb:Kq a b ha=some hk:=hb;unfold Kq at hb;refine Aq (Al (wm Aa (wm Aa (wv (Bt (ys:=a) (enc:=Ab) CX Aa) (wv (CZ Aa Aa) (Au (cz hb Aa (λhl hm=>?_) (λhl hn=>?_))))))))
   ·refine A3 (AT (Aq (AO (Aq (ck hm λho hp=>ck hp λhq hr=>Dm [0,1,5] [⟨[],AU 4 (Ax Ab a),0⟩,⟨[],As ha,0⟩,⟨[0,1],TC (Ab (Ap a ha)),0⟩,⟨[2],B9 (Ab (Ap a ha)),0⟩,⟨[],AU 4 (Ax Ab b),0⟩,⟨[],As ha,0⟩,⟨[4,5],TC (Ab (Ap b ha)),0⟩,⟨[6],B9 (Ab (Ap b ha)),0⟩,⟨[3,7],rB (!(decide (((Ap a ha).fKind)=((Ap b ha).fKind))&&decide (((Ap a ha).fInt)=((Ap b ha).fInt))&&decide (((Ap a ha).fStr)=((Ap b ha).fStr))&&decide (((Ap a ha).fN)=((Ap b ha).fN)))),0⟩] [17,18,19,20,21,22,23,24,25,0,1,5] ?_ ?_)))))
    ·refine oq (Aw Aa) (oq (Aw Aa) (oq (BT (enc:=Ab) (ys:=a) CX DL Aa Aa ho) (oq (Eh S8 DL Aa Aa Aa) (oq (Aw Aa) (oq (Aw Aa) (oq (BT (enc:=Ab) (ys:=b) CX DL Aa Aa hq) (oq (Eh S8 DL Aa Aa Aa) (oq (PQ Aa Aa) ?_))))))));exact C9
    refine AT (cz hr Aa (λhs ht=>?_) (λhs hu=>?_))
    ·refine Al (wa Aa (Au (A0 (AD (Af (Af (Bg ?_)))))));have hw:=BG ht he hf;refine AD (Af ?_);obtain rfl:=A1 hw;exact Az (BW Tryz.results15 (AI Aa)) sN ⟨Aa,Aa⟩
    ·refine A3 (AH (AT (At (wm Aa (ck hu λhx hy=>wv (BJ Aa Aa hx) (wa Aa (Av ?_)))))));have hz:=B8 hy he;exact A5 (AK (hj,ha+1,()) ⟨hz,Z3 _⟩ (AL.c Aa (AL.c Aa (AL.c Aa AL.nil))) sN)
   ·refine BB (A9 ?_);have h0:=Cv hn he hf;exact A9 (Bh (AK ((),()) h0 AL.nil sN))
  ·rintro⟨⟨⟩,⟨⟩⟩ hd;refine CJ (l':=[]) (H':=[]) Aa Aa ?_;replace hd:Ko =some r:=hd;unfold Ko at hd;refine Bf (AT (Al (wa Aa (Au (A0 ?_)))));obtain rfl:=A1 hd;exact Az (BW Tryz.results15 (AI Aa)) sN ⟨Aa,Aa⟩
end Go.Proofs.YtfobhhegpkinaaaGreatDoor.Q
namespace Go.Proofs.YtfobhhegpkinaaaGreatDoor
open Go
set_option linter.unusedVariables false
end Go.Proofs.YtfobhhegpkinaaaGreatDoor
namespace Go.Proofs.YtfobhhegpkinaaaGreatDoor.Q
open Go Go.RowKit
set_option linter.unusedVariables false
set_option linter.unusedSimpArgs false
set_option maxRecDepth 100000
set_option maxHeartbeats 4000000
end Go.Proofs.YtfobhhegpkinaaaGreatDoor.Q
namespace Go.Proofs.YtfobhhegpkinaaaGreatDoor
open Go
def N9 (k:IntKind)(x y:Int):Int:=k.wrap ((BitVec.ofInt k.bits x&&& BitVec.ofInt k.bits y).toNat:Int)
def It (k:IntKind)(x y:Int):Int:=k.wrap ((BitVec.ofInt k.bits x||| BitVec.ofInt k.bits y).toNat:Int)
def EQ (k:IntKind)(x y:Int):Int:=k.wrap ((BitVec.ofInt k.bits x^^^BitVec.ofInt k.bits y).toNat:Int)
def Tn (k:IntKind)(x:Int):Int:=EQ k (if k.signed then -1 else k.max) x
def Dj (k:IntKind)(x n:Int):Int:=k.wrap (x*2 ^ (min n.toNat k.bits))
def Cw (k:IntKind)(x n:Int):Int:=x.fdiv (2 ^ (min n.toNat k.bits))
set_option linter.unusedVariables false
def ED (hb:Int)(ha:Int):Option (Stp (Int×Int) (Out (Stp (Int×(List Int)) (Out ((List Int)) ((List Int)))) (Int×Int×Bool))):=
 B0 (decide (ha<8)) (Bc (BS .i64 (ha+1))<|some (.next ((bif decide ((N9 .u32 hb 1)=1) then EQ .u32 (Cw .u32 hb 1) 3988292384 else Cw .u32 hb 1),ha+1))) (some (.out (.go (hb,ha,decide (ha<8)))))
def Hx (ha:Int)(hb:(List Int))(hd:Int)(he:Int)(hf:Bool):Option (Stp (Int×(List Int)) (Out ((List Int)) ((List Int)))):=
 Bc (CR ha 256)<|Bc (CR ha (hb.length:Int))<|Bc (BS .i64 (ha+1))<|some (.next (ha+1,List.set hb (Int.toNat ha) hd))
def EE (F:Nat)(ha:Int)(hb:(List Int)):Option (Stp (Int×(List Int)) (Out ((List Int)) ((List Int)))):=
 B0 (decide (ha<256)) (Bq (Cz (λσ=>ED σ.1 σ.2) F (IntKind.wrap .u32 ha,0)) (Ch λν=>Hx ha hb ν.1 ν.2.1 ν.2.2)) (some (.out (.go hb)))
def Hy (ha:(List Int)):Option ((List Int)):=
 Bc (decide (ha.length=256))<|Bc (decide ((List.replicate 256 (0:Int)).length=256))<|some ha
def MZ (F:Nat) :Option ((List Int)):=
 Bq (Cz (λσ=>EE F σ.1 σ.2) F (0,List.replicate 256 (0:Int))) (Ch λν=>Hy ν)
def Gd (s:An)(r1:(List Int))(hb:Int)(ha:Int):Option (Stp (Int×Int) (Out (Int) (Int))):=
 B0 (decide (ha<(s.length:Int))) (Bc (CR ha (s.length:Int))<|Bc (CR (EQ .u8 (IntKind.wrap .u8 hb) (Bu s ha)) 256)<|Bc (CR (EQ .u8 (IntKind.wrap .u8 hb) (Bu s ha)) (r1.length:Int))<|Bc (BS .i64 (ha+1))<|some (.next (EQ .u32 (Ap r1 (EQ .u8 (IntKind.wrap .u8 hb) (Bu s ha))) (Cw .u32 hb 8),ha+1))) (some (.out (.go hb)))
def Mc (ha:Int):Option (Int):=
 some (Tn .u32 ha)
def Tp (F:Nat)(s:An):Option (Int):=
 Bq (MZ F) λr1=>Bc (decide ((List.replicate 256 (0:Int)).length=256))<|Bc (decide (r1.length=256))<|Bq (Cz (λσ=>Gd s r1 σ.1 σ.2) F (4294967295,0)) (Ch λν=>Mc ν)
def Jt (n:Int):Option (An):=
 some (OG ([IntKind.wrap .u8 (Cw .u32 n 24),IntKind.wrap .u8 (Cw .u32 n 16),IntKind.wrap .u8 (Cw .u32 n 8),IntKind.wrap .u8 n]:List Int))
def Md (s:An):Option (Int):=
 Bc (CR 0 (s.length:Int))<|Bc (CR 1 (s.length:Int))<|Bc (CR 2 (s.length:Int))<|Bc (CR 3 (s.length:Int))<|some (It .u32 (It .u32 (It .u32 (Dj .u32 (IntKind.wrap .u32 (Bu s 0)) 24) (Dj .u32 (IntKind.wrap .u32 (Bu s 1)) 16)) (Dj .u32 (IntKind.wrap .u32 (Bu s 2)) 8)) (IntKind.wrap .u32 (Bu s 3)))
def EO (fields:(List An))(hb:(List Int))(ha:Int):Option (Stp ((List Int)×Int) (Out (An×Int) ((List Int)))):=
 B0 (decide (ha<(fields.length:Int))) (Bc (CR ha (fields.length:Int))<|B0 (decide (4000<((Ap fields ha).length:Int))) (some (.out (.ret (([]:An),3)))) (Bc (Dp 1 (hb.length+([IntKind.wrap .u8 (Cw .i64 ((Ap fields ha).length:Int) 8),IntKind.wrap .u8 ((Ap fields ha).length:Int)]:List Int).length))<|Bc (Dp 1 ((hb++([IntKind.wrap .u8 (Cw .i64 ((Ap fields ha).length:Int) 8),IntKind.wrap .u8 ((Ap fields ha).length:Int)]:List Int)).length+(Ap fields ha).length))<|Bc (BS .i64 (ha+1))<|some (.next ((hb++([IntKind.wrap .u8 (Cw .i64 ((Ap fields ha).length:Int) 8),IntKind.wrap .u8 ((Ap fields ha).length:Int)]:List Int))++Do (Ap fields ha),ha+1)))) (some (.out (.go hb)))
def KE (ha:(List Int)):Option (An×Int):=
 some (OG ha,0)
def Qm (F:Nat)(fields:(List An)):Option (An×Int):=
 B0 (decide (64<(fields.length:Int))) (some (([]:An),3)) (Bq (Cz (λσ=>EO fields σ.1 σ.2) F (([IntKind.wrap .u8 (fields.length:Int)]:List Int),0)) (Ch λν=>KE ν))
def Dz (ha:Int):Option ((List An)×Int):=
 some (([]:List An),ha)
def HV (s:An)(ha:An)(hb:(List An))(hh:Int)(hd:Int):Option (Stp (An×(List An)×Int×Int) (Out ((List An)×Int) (An×(List An)))):=
 B0 (decide (hd<(Bu s 0))) (B0 (decide ((ha.length:Int)<2)) (Bq (Dz 14) λhe=>some (.out (.ret he))) (Bc (CR 0 (ha.length:Int))<|Bc (BS .i64 (Bu ha 0))<|Bc (CR 1 (ha.length:Int))<|Bc (BS .i64 (Bu ha 1))<|Bc (Ep 2 (ha.length:Int))<|B0 (decide (4000<(It .i64 (Dj .i64 (Bu ha 0) 8) (Bu ha 1)))) (Bq (Dz 13) λhf=>some (.out (.ret hf))) (B0 (decide (((List.drop (Int.toNat 2) ha).length:Int)<(It .i64 (Dj .i64 (Bu ha 0) 8) (Bu ha 1)))) (Bq (Dz 14) λhg=>some (.out (.ret hg))) (Bc (Ep (It .i64 (Dj .i64 (Bu ha 0) 8) (Bu ha 1)) ((List.drop (Int.toNat 2) ha).length:Int))<|Bc (Dp 16 (hb.length+([List.take (Int.toNat (It .i64 (Dj .i64 (Bu ha 0) 8) (Bu ha 1))) (List.drop (Int.toNat 2) ha)]:List An).length))<|Bc (BS .i64 (hd+1))<|some (.next (List.drop (Int.toNat (It .i64 (Dj .i64 (Bu ha 0) 8) (Bu ha 1))) (List.drop (Int.toNat 2) ha),hb++([List.take (Int.toNat (It .i64 (Dj .i64 (Bu ha 0) 8) (Bu ha 1))) (List.drop (Int.toNat 2) ha)]:List An),It .i64 (Dj .i64 (Bu ha 0) 8) (Bu ha 1),hd+1)))))) (some (.out (.go (ha,hb))))
def HU (hb:An)(ha:(List An)):Option ((List An)×Int):=
 B0 (!decide (hb=([]:An))) (Dz 13) (Bc (Ep (ha.length:Int) (ha.length:Int))<|some (List.take (Int.toNat (ha.length:Int)) ha,0))
def Pc (F:Nat)(s:An):Option ((List An)×Int):=
 B0 (decide (s=([]:An))) (Dz 14) (Bc (CR 0 (s.length:Int))<|Bc (BS .i64 (Bu s 0))<|Bc (Ep 1 (s.length:Int))<|B0 (decide (64<(Bu s 0))) (Dz 13) (Bq (Cz (λσ=>HV s σ.1 σ.2.1 σ.2.2.1 σ.2.2.2) F (List.drop (Int.toNat 1) s,([]:List An),0,0)) (Ch λν=>HU ν.1 ν.2)))
def Nb (F:Nat)(body:An):Option (An×Int):=
 B0 (decide (262136<(body.length:Int))) (some (([]:An),3)) (Bq (Jt (IntKind.wrap .u32 (body.length:Int))) λr4=>Bq (Tp F body) λr7=>Bq (Jt r7) λha=>Bc (BS .i64 ((r4.length:Int)+(ha.length:Int)))<|Bc (BS .i64 (((r4++ha).length:Int)+(body.length:Int)))<|some ((r4++ha)++body,0))
def Vp (F:Nat)(s:An):Option (An×Int×Int):=
 B0 (decide ((s.length:Int)<8)) (some (([]:An),0,14)) (Bq (Md s) λr4=>B0 (decide (262136<(IntKind.wrap .i64 r4))) (some (([]:An),0,13)) (Bc (BS .i64 ((s.length:Int)-8))<|B0 (decide (((s.length:Int)-8)<(IntKind.wrap .i64 r4))) (some (([]:An),0,14)) (Bc (BS .i64 (8+(IntKind.wrap .i64 r4)))<|Bc (Ep 8 (8+(IntKind.wrap .i64 r4)))<|Bc (Ep (8+(IntKind.wrap .i64 r4)) (s.length:Int))<|Bq (Tp F (List.take (Int.toNat (8+(IntKind.wrap .i64 r4))-Int.toNat 8) (List.drop (Int.toNat 8) s))) λha=>Bc (Ep 4 (s.length:Int))<|Bq (Md (List.drop (Int.toNat 4) s)) λhb=>B0 (!decide (ha=hb)) (some (([]:An),0,13)) (some (List.take (Int.toNat (8+(IntKind.wrap .i64 r4))-Int.toNat 8) (List.drop (Int.toNat 8) s),8+(IntKind.wrap .i64 r4),0)))))
def Js (F:Nat)(s:An)(hd:(List An))(ha:Int):Option (Stp ((List An)×Int) (Out ((List An)×Int) ((List An)×Int))):=
 B0 (decide (ha<(s.length:Int))) (Bc (Ep ha (s.length:Int))<|Bq (Vp F (List.drop (Int.toNat ha) s)) λhb=>B0 (!decide (hb.2.2=0)) (some (.out (.go (hd,ha)))) (Bc (Dp 16 (hd.length+([hb.1]:List An).length))<|Bc (BS .i64 (ha+hb.2.1))<|some (.next (hd++([hb.1]:List An),ha+hb.2.1)))) (some (.out (.go (hd,ha))))
def Jr (ha:(List An))(hb:Int):Option ((List An)×Int):=
 Bc (Ep (ha.length:Int) (ha.length:Int))<|some (List.take (Int.toNat (ha.length:Int)) ha,hb)
def Rm (F:Nat)(s:An):Option ((List An)×Int):=
 Bq (Cz (λσ=>Js F s σ.1 σ.2) F (([]:List An),0)) (Ch λν=>Jr ν.1 ν.2)
def Ey (F:Nat)(bodies:(List An))(hb:(List Int))(hd:Int):Option (Stp ((List Int)×Int) (Out (An×Int) ((List Int)))):=
 B0 (decide (hd<(bodies.length:Int))) (Bc (CR hd (bodies.length:Int))<|Bq (Nb F (Ap bodies hd)) λha=>Bc (imp (!(!decide (ha.2=0))) (BS .i64 ((hb.length:Int)+(ha.1.length:Int))))<|B0 (((!decide (ha.2=0))||(decide (262144<((hb.length:Int)+(ha.1.length:Int)))))) (some (.out (.ret (([]:An),3)))) (Bc (Dp 1 (hb.length+ha.1.length))<|Bc (BS .i64 (hd+1))<|some (.next (hb++Do ha.1,hd+1)))) (some (.out (.go hb)))
def II (ha:(List Int)):Option (An×Int):=
 some (OG ha,0)
def Qn (F:Nat)(bodies:(List An)):Option (An×Int):=
 Bq (Cz (λσ=>Ey F bodies σ.1 σ.2) F (([]:List Int),0)) (Ch λν=>II ν)
end Go.Proofs.YtfobhhegpkinaaaGreatDoor
namespace Go.Proofs.YtfobhhegpkinaaaGreatDoor.Q
open Go Go.RowKit
set_option linter.unusedVariables false
set_option linter.unusedSimpArgs false
section
variable {P : Program} {n : Nat} {c : Cx} {l : Fr} {H : List Ent} {d : Option Nat} {x y : Operand} {t t' ty : TypeId} {pos : String} {af : Array Edge} {g : Option (Nat × Bool)} {k k' : IntKind} {p q : Int}
theorem Yo (hx:ev l x=some (rI k p))(hy:ev l y=some (rI k q)):Be P n c l H { dst:=d,op:=.binOp .and t x y t',type:=ty,pos:=pos,after:=af,guard:=g } (rI k (N9 k p q)):=λa w Z ha _=>CG<|by
 simp[execOp,ha.eval hx,ha.eval hy,B5,binOp,Op.intBits,N9]
theorem Wt (hx:ev l x=some (rI k p))(hy:ev l y=some (rI k q)):Be P n c l H { dst:=d,op:=.binOp .or t x y t',type:=ty,pos:=pos,after:=af,guard:=g } (rI k (It k p q)):=λa w Z ha _=>CG<|by
 simp[execOp,ha.eval hx,ha.eval hy,B5,binOp,Op.intBits,It]
theorem U4 (hx:ev l x=some (rI k p))(hy:ev l y=some (rI k q)):Be P n c l H { dst:=d,op:=.binOp .xor t x y t',type:=ty,pos:=pos,after:=af,guard:=g } (rI k (EQ k p q)):=λa w Z ha _=>CG<|by
 simp[execOp,ha.eval hx,ha.eval hy,B5,binOp,Op.intBits,EQ]
theorem RR (hx:ev l x=some (rI k p))(hy:ev l y=some (rI k' q))(h0:decide (0≤q)=true):Be P n c l H { dst:=d,op:=.binOp .shl t x y t',type:=ty,pos:=pos,after:=af,guard:=g } (rI k (Dj k p q)):=λa w Z ha _=>CG<|by
 have h1 : ¬ q<0:=by have:=ZO h0;omega
 simp[execOp,ha.eval hx,ha.eval hy,B5,binOp,Op.shift,Dj,h1]
theorem NR (hx:ev l x=some (rI k p))(hy:ev l y=some (rI k' q))(h0:decide (0≤q)=true):Be P n c l H { dst:=d,op:=.binOp .shr t x y t',type:=ty,pos:=pos,after:=af,guard:=g } (rI k (Cw k p q)):=λa w Z ha _=>CG<|by
 have h1 : ¬ q<0:=by have:=ZO h0;omega
 simp[execOp,ha.eval hx,ha.eval hy,B5,binOp,Op.shift,Cw,h1]
theorem Wx (hx:ev l x=some (rI k p)):Be P n c l H { dst:=d,op:=.unOp .xor t x,type:=ty,pos:=pos,after:=af,guard:=g } (rI k (Tn k p)):=λa w Z ha _=>CG<|by
 simp[execOp,ha.eval hx,Op.unary,Op.intBits,Tn,EQ]
end
theorem X3 {α:Type}[Inhabited α]{enc:α→Rp}{ys:List α}{j:Int}(hg:CR j (ys.length:Int)=true):(List.map enc ys)[j.toNat]? =some (enc (Ap ys j)):=by
 have h0:=(CB hg).1;have h1:=(CB hg).2;have hl:j.toNat<ys.length:=by omega
 simp[Ap,Zt hl]
theorem W2 {α:Type}{enc:α→Rp}{ys:List α}{j:Int}(hg:CR j (ys.length:Int)=true):Nat.blt j.toNat (List.map enc ys).length=true:=by
 have h0:=(CB hg).1;have h1:=(CB hg).2;simp;omega
section
variable {P : Program} {n : Nat} {c : Cx} {ops : Array Oper} {Q : Exit → Act → World → Prop} {rest : List Oper} {l : Fr} {H H' : List Ent} {d : Nat} {d' : Option Nat} {x y : Operand} {t ty e : TypeId} {pos : String} {af : Array Edge} {g : Option (Nat × Bool)} {k : IntKind} {b i len : Nat} {j : Int}
theorem UC (ht:P.underlying t=some (.array len e))(hz:∀w,(sizeOf e).run P w = .ok 1 w)(hx:ev l x=some (rv (.pointer (some ⟨b,0,none⟩))))(hy:ev l y=some (rI k j))(hg:CR j (len:Int)=true) :
  Be P n c l H { dst:=d',op:=.indexAddr t x y,type:=ty,pos:=pos,after:=af,guard:=g } (rv (.pointer (some ⟨b,j.toNat,none⟩))):=λa w Z ha hw=>CG<|by
 have h0:=(CB hg).1;have h1:=(CB hg).2;simp[execOp,ha.eval hx,ha.eval hy,Instr.indexAt,Instr.sureAddr,asIntOf,run_underlying ht,h0,h1,hz,G4]
theorem UA {α:Type}[Inhabited α]{enc:α→Rp}{ys:List α}(hag:∀w,(isAgg t).run P w = .ok false w)(hx:ev l x=some (rv (.pointer (some ⟨b,j.toNat,none⟩))))(hi:H[i]? =some (.blk b (List.map enc ys) e))(hg:CR j (ys.length:Int)=true) :
  Be P n c l H { dst:=d',op:=.load t x,type:=ty,pos:=pos,after:=af,guard:=g } (enc (Ap ys j)):=AQ hag hx hi (X3 hg)
theorem SG {α:Type}[Inhabited α]{enc:α→Rp}{ys:List α}{v:α}(hag:∀w,(sizeOf t).run P w = .ok 1 w)(hx:ev l x=some (rv (.pointer (some ⟨b,j.toNat,none⟩))))(hy:ev l y=some (enc v))(hv:Q5 H (enc v))
  (hi:H[i]? =some (.blk b (List.map enc ys) e)) (hg:CR j (ys.length:Int)=true) (hH:H.set i (.blk b (List.map enc (List.set ys j.toNat v)) e)=H')
  (h:WL P n c ops Q rest l H'):WL P n c ops Q ({ dst:=none,op:=.store t x y,type:=ty,pos:=pos,after:=af,guard:=none }::rest) l H:=
 Bv hag hx hy hv hi (W2 hg) (cs':=List.map enc (List.set ys j.toNat v)) (by rw[List.map_set]) hH h
theorem QQ {α:Type}{enc:α→Rp}{ys:List α}{sz:Nat}(hag:∀w,(isAgg t).run P w = .ok true w)(hsz:∀w,(sizeOf t).run P w = .ok sz w)(hx:ev l x=some (rv (.pointer (some ⟨b,0,none⟩))))(hi:H[i]? =some (.blk b (List.map enc ys) e))(hl:decide (ys.length=sz)=true) :
  Be P n c l H { dst:=d',op:=.load t x,type:=ty,pos:=pos,after:=af,guard:=g } (B9 (List.map enc ys)):=AZ hag hsz hx hi (by rw[List.drop_zero,List.take_of_length_le (by rw[Zw];have:=ZO hl;omega)]) (by rw[Zw];exact ZO hl)
theorem Lu {α:Type}{enc:α→Rp}{ys zs:List α}{sz:Nat}(hsz:∀w,(sizeOf t).run P w = .ok sz w)(hx:ev l x=some (rv (.pointer (some ⟨b,0,none⟩))))(hy:ev l y=some (B9 (List.map enc zs)))(h1:∀x,(enc x).one=true)
  (hi:H[i]? =some (.blk b (List.map enc ys) e)) (hl:decide (ys.length=sz)=true) (hl2:decide (zs.length=sz)=true) (hH:H.set i (.blk b (List.map enc zs) e)=H')
  (h:WL P n c ops Q rest l H'):WL P n c ops Q ({ dst:=none,op:=.store t x y,type:=ty,pos:=pos,after:=af,guard:=none }::rest) l H:=
 Bj hsz hx hy (by rw[Zw];exact ZO hl2) (Cj.c (by simp[List.all_map,h1])) hi (by have:=ZO hl;simp;omega)
  (cs':=List.map enc zs) (by have:=ZO hl;rw[List.take_zero,Aaj,List.drop_of_length_le (by rw[Zw];omega),Aag]) hH h
theorem W4 {α:Type}{enc:α→Rp}{ys:List α}{sz:Nat}(hl:decide (ys.length=sz)=true):(List.map enc ys).length=sz:=by rw[Zw];exact ZO hl
end
def Ph (ops:List Oper)(N:Nat):Bool:=
 let cl:=Nj ops []
 (List.range ops.length).all (λi=>(Er (ops.getD i default)).all (·<i))&&
 (List.range ops.length).all (λi=>i<N||(List.range i).all (λj=>(cl.getD i 0).testBit j))
section
variable {P : Program} {Q : Exit → Act → World → Prop}
theorem Qw {listed:Array Bool}{len m:Nat}(hs:listed.size=len)(hm:m≤len)(h:∀j,j<len→(listed.getD j true=true↔j<m)):listed.toList.count false=len-m:=by
 have:listed.toList=List.replicate m true++List.replicate (len-m) false:=by
  apply List.ext_getElem
  ·simp[hs];omega
  ·intro j h1 h2;have hj:j<len:=by simpa[hs] using h1
   have:=h j hj;rw[Array.getD_eq_getD_getElem?,Array.getElem?_eq_getElem (by omega)] at this;simp only[ZM] at this;rw[Array.getElem_toList,List.getElem_append]
   split
   ·rename_i h3
    simp at h3;simp[this.2 h3]
   ·rename_i h3
    simp at h3;simp only[List.getElem_replicate]
    cases hb:listed[j] with
    | false=>rfl
    | true=>have:=this.1 hb;omega
 rw[this];simp[List.count_append,List.count_replicate]
theorem Si {listed:Array Bool}{j:Nat}(h:j<listed.size)(d d':Bool):listed.getD j d=listed.getD j d':=by
 simp[Array.getD_eq_getD_getElem?,Array.getElem?_eq_getElem h]
theorem Nn {ops:List Oper}{listed:Array Bool}{i:Nat}{o:Oper}(ho:ops[i]? =some o)(hb:∀e∈Er o,listed.getD e true=true)
  (hcl:∀j o,ops[j]? =some o→listed.getD j true=true→∀e∈Er o,listed.getD e true=true) (j:Nat) (h:((Nj ops []).getD i 0).testBit j=true):j=i∨listed.getD j true=true:=
 H0 ops (λk=>k=i∨listed.getD k true=true) ops [] (λt o' ht e he hF=>by
  rcases hF with hF | hF
  ·simp at hF;subst hF;rw[ho] at ht;simp at ht;subst ht;exact .inr (hb e he)
  ·exact .inr (hcl t o' ht (by simpa using hF) e he)) (λj i hb=>by simp at hb) i j h (.inl rfl)
theorem JJ {ops:List Oper}{listed:Array Bool}{i:Nat}(hsz:listed.size=ops.length)(hlt:∀i,i<ops.length→∀e∈Er (ops.getD i default),e<i)(h:i∈Region.ready .any ops.toArray listed) :
  listed.getD i true=false∧i<ops.length∧∃o,ops[i]? =some o∧∀e∈Er o,listed.getD e true=true:=by
 obtain⟨h1,o,ho,h2⟩:=mem_ready.1 h;have ho':ops[i]? =some o:=by simpa using ho
 have hil:=(List.getElem?_eq_some_iff.1 ho').1;refine⟨h1,hil,o,ho',λe he=>?_⟩;have hei:=hlt i hil e (by rw[Zv,ho'];exact he);simp only[Er,List.mem_map,List.mem_filter] at he;obtain⟨x,⟨hx1,hx2⟩,rfl⟩:=he;have h3:=h2 x (by simpa using hx1) hx2;rw[Si (by omega) true false];exact h3
theorem J8 {ops:List Oper}{listed:Array Bool}(hsz:listed.size=ops.length)(hlt:∀i,i<ops.length→∀e∈Er (ops.getD i default),e<i)(h:Region.ready .any ops.toArray listed=[]) :
  ∀j,j<ops.length→listed.getD j true=true:=by
 intro j
 induction j using Nat.strongRecOn with
 | ind j ih=>
  intro hj
  cases hb:listed.getD j true with
  | true=>rfl
  | false=>
   have:j∈Region.ready .any ops.toArray listed:=mem_ready.2 ⟨hb,ops[j],by simp[hj],λe he hbn=>by
    have hel:e.on<j:=hlt j hj e.on (by
     rw[Zv,Zt hj];simp only[Er,ZM,List.mem_map,List.mem_filter];exact⟨e,⟨by simpa using he,hbn⟩,rfl⟩)
    rw[Si (by omega) false true];exact ih e.on hel (by omega)⟩
   rw[h] at this;cases this
theorem LU {listed:Array Bool}{i j:Nat}(hi:i<listed.size):(listed.setIfInBounds i true).getD j true=true↔(j=i∨listed.getD j true=true):=by
 by_cases hj:i=j
 ·subst hj;simp[hi]
 ·rw[getD_set_ne true hj];exact⟨.inr,λh=>h.elim (λh=>absurd h.symm hj) id⟩
theorem SI {listed:Array Bool}{i fuel:Nat}(hi:i<listed.size)(hun:listed.getD i true=false)(hc:listed.toList.count false=fuel+1):(listed.setIfInBounds i true).toList.count false=fuel:=by
 have hfi:listed.toList[i]? =some false:=by
  rw[Array.getD_eq_getD_getElem?,Array.getElem?_eq_getElem hi] at hun;simp at hun;simp[hi,hun]
 rw[Array.toList_setIfInBounds];have h1:=List.count_set (a:=true) (b:=false) (l:=listed.toList) (i:=i) (by simpa using hi);have h2:listed.toList[i]'(by simpa using hi)=false:=by
  have:=List.getElem?_eq_some_iff.1 hfi;exact this.2
 rw[h1,h2,hc];rfl
theorem Lo {ops:List Oper}{N:Nat}(hlt:∀i,i<ops.length→∀e∈Er (ops.getD i default),e<i)
  (hch:∀i,N≤i→i<ops.length→∀j,j<i→((Nj ops []).getD i 0).testBit j=true):∀(k m:Nat) (listed:Array Bool) (a:Act) (w:World),m+k=ops.length→N≤m→listed.size=ops.length→
   (∀j,j<ops.length→(listed.getD j true=true↔j<m))→(∀j o,ops[j]? =some o→listed.getD j true=true→∀e∈Er o,listed.getD e true=true)→wpList P ops.toArray Q (ops.drop m) a w→wpAny P .any ops.toArray Q k listed a w
 | 0,m,listed,a,w,hk,hN,hsz,hl,hcl,h=>by
  refine⟨?_,?_⟩
  ·cases hr:Region.ready .any ops.toArray listed with
   | nil=>rfl
   | cons i r=>
    obtain⟨h1,h2,_⟩:=JJ hsz hlt (i:=i) (by rw[hr];simp);rw[(hl i h2).2 (by omega)] at h1;cases h1
  ·rw[List.drop_of_length_le (by omega)] at h;exact h
 | k+1,m,listed,a,w,hk,hN,hsz,hl,hcl,h=>by
  refine⟨λhr=>?_,λi hi=>?_⟩
  ·have:=(hl m (by omega)).1 (J8 hsz hlt hr m (by omega));omega
  ·obtain⟨h1,h2,o,ho,hb⟩:=JJ hsz hlt hi;have him:i=m:=by
    have hmi : ¬ i<m:=λh'=>by rw[(hl i h2).2 h'] at h1;cases h1
    by_cases e:i=m
    ·exact e
    ·rcases Nn ho hb hcl m (hch i (by omega) h2 m (by omega)) with h3 | h3
     ·exact h3.symm
     ·have:=(hl m (by omega)).1 h3;omega
   subst him;have hd:ops.drop i=o::ops.drop (i+1):=by
    rw[List.drop_eq_getElem_cons h2]
    congr 1
    exact(List.getElem?_eq_some_iff.1 ho).2
   rw[hd] at h;have ih:∀a' w',wpList P ops.toArray Q (ops.drop (i+1)) a' w'→wpAny P .any ops.toArray Q k (listed.setIfInBounds i true) a' w':=λa' w' h'=>by
    refine Lo hlt hch k (i+1) _ a' w' (by omega) (by omega) (by simpa using hsz) (λj hj=>?_) (λj o' hj hlj e he=>?_) h'
    ·rw[LU (by omega),hl j hj];omega
    ·rw[LU (by omega)] at hlj ⊢;rcases hlj with rfl | hlj
     ·rw[ho] at hj;simp at hj;subst hj;exact .inr (hb e he)
     ·exact .inr (hcl j o' hj hlj e he)
   unfold wpOp;have hoA:ops.toArray[i]? =some o:=by simpa using ho
   simp only[hoA];simp only[wpList] at h
   split
   ·rename_i hw'
    rw[Aai hw'] at h;exact h.imp (λh=>Oper.wp_mono ih h) (λh=>h)
   ·rename_i hw'
    rw[Aaa hw'] at h;exact ih _ _ h
theorem TU {id:Nat}{ops:List Oper}{N:Nat}(hm:P.follows .mixedOrders=true)(hB:Ph ops N=true)(hN:N≤ops.length)(I:(Nat→Bool)→Act→World→Prop)
  (hext:∀S S' a w,(∀j,j<N→S j=S' j)→I S a w→I S' a w) {a:Act} {w:World} (h0:I (λ_=>false) a { w with drawn:=w.drawn+1 })
  (step:∀S i o a w,i<N→S i=false→ops[i]? =some o→(∀e∈Er o,e<i∧S e=true)→I S a w→∀K:Act→World→Prop,(∀a' w',I (λj=>j ==i||S j) a' w'→K a' w')→
   (Region.wanted o (yielded ops.toArray a.tmps)=true→o.wp P a w K Q)∧(Region.wanted o (yielded ops.toArray a.tmps)=false→K (a.put o.dst undef) w))
  (fin:∀a w,I (λ_=>true) a w→wpList P ops.toArray Q (ops.drop N) a w):(Code.region id ops.toArray true).wp P Q a w:=by
 simp only[Ph,Zu,ZQ,List.mem_range,Zr,ZX] at hB;obtain⟨hlt,hch0⟩:=hB;have hch:∀i,N≤i→i<ops.length→∀j,j<i→((Nj ops []).getD i 0).testBit j=true:=λi h1 h2 j hj=>by
  rcases hch0 i h2 with h3 | h3
  ·omega
  ·exact h3 j hj
 refine wp_region_any hm ?_;have main:∀(fuel:Nat) (listed:Array Bool) (a:Act) (w:World),listed.size=ops.length→listed.toList.count false=fuel→I (λj=>listed.getD j true) a w→
   (∀j o,ops[j]? =some o→listed.getD j true=true→∀e∈Er o,listed.getD e true=true)→(∀j,N≤j→j<ops.length→listed.getD j true=false)→wpAny P .any ops.toArray Q fuel listed a w:=by
  intro fuel;have allin:∀(fuel:Nat) (listed:Array Bool) (a:Act) (w:World),listed.size=ops.length→listed.toList.count false=fuel→I (λj=>listed.getD j true) a w→
   (∀j o,ops[j]? =some o→listed.getD j true=true→∀e∈Er o,listed.getD e true=true)→(∀j,N≤j→j<ops.length→listed.getD j true=false)→(∀j,j<N→listed.getD j true=true)→wpAny P .any ops.toArray Q fuel listed a w:=by
   intro fuel listed a w hsz hc hI hcl hlast hall;have hl:∀j,j<ops.length→(listed.getD j true=true↔j<N):=λj hj=>by
    constructor
    ·intro h
     by_cases hjN:j<N
     ·exact hjN
     ·rw[hlast j (by omega) hj] at h;cases h
    ·exact hall j
   have:=Qw hsz hN hl;refine Lo hlt hch fuel N listed a w (by omega) (ZC _) hsz hl hcl (fin a w (hext _ _ a w (λj hj=>hall j hj) hI))
  induction fuel with
  | zero=>
   intro listed a w hsz hc hI hcl hlast;refine allin 0 listed a w hsz hc hI hcl hlast (λj hj=>?_)
   cases hb:listed.getD j true with
   | true=>rfl
   | false=>
    have:false∈listed.toList:=by
     rw[Array.getD_eq_getD_getElem?,Array.getElem?_eq_getElem (by omega)] at hb;simp at hb;rw[← hb];simp
    have:=List.count_pos_iff.2 this;omega
  | succ fuel ih=>
   intro listed a w hsz hc hI hcl hlast
   by_cases hall:∀j,j<N→listed.getD j true=true
   ·exact allin (fuel+1) listed a w hsz hc hI hcl hlast hall
   ·refine⟨λhr=>absurd (λj hj=>J8 hsz hlt hr j (by omega)) hall,λi hi=>?_⟩;obtain⟨h1,h2,o,ho,hb⟩:=JJ hsz hlt hi;have hiN:i<N:=by
     by_cases h:i<N
     ·exact h
     ·refine absurd (λj hj=>?_) hall;rcases Nn ho hb hcl j (hch i (by omega) h2 j (by omega)) with h3 | h3
      ·omega
      ·exact h3
    have K':∀a' w',I (λj=>j ==i||listed.getD j true) a' w'→wpAny P .any ops.toArray Q fuel (listed.setIfInBounds i true) a' w':=λa' w' hI'=>by
     refine ih _ a' w' (by simpa using hsz) (SI (by omega) h1 hc) (hext _ _ a' w' (λj hj=>?_) hI') (λj o' hj hlj e he=>?_) (λj h3 h4=>?_)
     ·have:=LU (listed:=listed) (i:=i) (j:=j) (by omega)
      cases hq:(listed.setIfInBounds i true).getD j true with
      | true=>
       rw[hq] at this;rcases this.1 rfl with h | h
       ·simp[h]
       ·simp[h]
      | false=>
       rw[hq] at this;have h5 : ¬ (j=i∨listed.getD j true=true):=λh=>by have:=this.2 h;cases this
       cases hz:listed.getD j true with
       | true=>exact absurd (.inr hz) h5
       | false=>
        have:j≠i:=λh=>h5 (.inl h);simp[this]
     ·rw[LU (by omega)] at hlj ⊢;rcases hlj with rfl | hlj
      ·rw[ho] at hj;simp at hj;subst hj;exact .inr (hb e he)
      ·exact .inr (hcl j o' hj hlj e he)
     ·rw[getD_set_ne true (by omega)];exact hlast j h3 h4
    obtain⟨k1,k2⟩:=step _ i o a w hiN h1 ho (λe he=>⟨hlt i h2 e (by rw[Zv,ho];exact he),hb e he⟩) hI _ K';unfold wpOp;have hoA:ops.toArray[i]? =some o:=by simpa using ho
    simp only[hoA]
    split
    ·rename_i hw';exact .inl (k1 hw')
    ·rename_i hw';exact k2 (by simpa using hw')
 have e0:∀j,j<ops.length→(Array.replicate ops.length false).getD j true=false:=λj hj=>by simp[hj]
 have hsz0:ops.toArray.size=ops.length:=by simp
 rw[hsz0];refine main ops.length (Array.replicate ops.length false) a _ (by simp) (by simp) (hext _ _ _ _ (λj hj=>(e0 j (by omega)).symm) h0) (λj o hj hl=>?_) (λj _ h2=>e0 j h2);rw[e0 j (List.getElem?_eq_some_iff.1 hj).1] at hl;cases hl
end
structure Sa where
 deps:List Nat
 r:Rp
 al:Option (List Rp×TypeId):=none
 late:Option (Nat×List Rp):=none
 sto:Option Nat:=none
def Gb (sp:List Sa)(i:Nat):Sa:=sp.getD i { deps:=[],r:=rv undef }
def VD (sp:List Sa):List Sp:=sp.map λs=>⟨s.deps,s.r,0⟩
def KP (β:Nat→Nat)(s:Sa)(i:Nat):Rp:=match s.al with
 | none=>s.r
 | some _=>rv (.pointer (some ⟨β i,0,none⟩))
def Lg (S:Nat→Bool)(late:Option (Nat×List Rp))(cs:List Rp):List Rp:=match late with
 | none=>cs
 | some q=>if S q.1 then q.2 else cs
def Ge (S:Nat→Bool)(β:Nat→Nat):List Sa→Nat→List Ent
 | [],_=>[]
 | s::r,t=>match s.al with
  | some p=>if S t then .blk (β t) (Lg S s.late p.1) p.2::Ge S β r (t+1) else Ge S β r (t+1)
  | none=>Ge S β r (t+1)
def Tt (β:Nat→Nat):List Sa→Nat→List Ent
 | [],_=>[]
 | s::r,t=>match s.al with
  | some p=>.blk (β t) (match s.late with | none=>p.1 | some q=>q.2) p.2::Tt β r (t+1)
  | none=>Tt β r (t+1)
def L9 (β:Nat→Nat):List Oper→List Sa→Nat→Fr→Fr
 | o::os,s::sp,i,l=>match o.dst with
  | some d=>(d,KP β s i)::L9 β os sp (i+1) l
  | none=>L9 β os sp (i+1) l
 | _,_,_,l=>l
theorem JU {S S':Nat→Bool}{late:Option (Nat×List Rp)}{cs:List Rp}(h:∀q,late=some q→S q.1=S' q.1):Lg S late cs=Lg S' late cs:=by
 unfold Lg
 cases late with
 | none=>rfl
 | some q=>simp only[];rw[h q rfl]
theorem En (S:Nat→Bool)(β:Nat→Nat)(s:Sa)(r:List Sa)(t:Nat):Ge S β (s::r) t=match s.al with
  | some p=>if S t then .blk (β t) (Lg S s.late p.1) p.2::Ge S β r (t+1) else Ge S β r (t+1)
  | none=>Ge S β r (t+1):=rfl
theorem G0 {S S':Nat→Bool}{β β':Nat→Nat}:∀(r:List Sa) (t0:Nat),(∀(t:Nat) (s:Sa),r[t]? =some s→s.al≠none→S (t0+t)=S' (t0+t)∧(S (t0+t)=true→β (t0+t)=β' (t0+t)∧∀q,s.late=some q→S q.1=S' q.1))→Ge S β r t0=Ge S' β' r t0
 | [],_,_=>rfl
 | s::r,t0,h=>by
  have ih:=G0 r (t0+1) (λt s hs hn=>by
   have:=h (t+1) s (by simpa using hs) hn;rw[show t0+1+t=t0+(t+1) from by omega];exact this)
  unfold Ge;rw[ih]
  cases ha:s.al with
  | none=>rfl
  | some p=>
   obtain⟨h1,h2⟩:=h 0 s rfl (by rw[ha];exact nofun);simp only[Nat.add_zero] at h1 h2;simp only[];rw[← h1]
   split
   ·rename_i hS;rw[(h2 hS).1,JU (h2 hS).2]
   ·rfl
theorem Qu (β:Nat→Nat):∀(r:List Sa) (t0:Nat),Ge (λ_=>true) β r t0=Tt β r t0
 | [],_=>rfl
 | s::r,t0=>by
  unfold Ge Tt;rw[Qu β r (t0+1)]
  cases s.al with
  | none=>rfl
  | some p=>cases hl:s.late<;>simp[Lg,hl]
theorem Om (β:Nat→Nat):∀(r:List Sa) (t0:Nat),Ge (λ_=>false) β r t0=[]
 | [],_=>rfl
 | s::r,t0=>by
  unfold Ge;rw[Om β r (t0+1)]
  cases s.al<;>simp
theorem Qt {S:Nat→Bool}{β:Nat→Nat}{i b:Nat}{p:List Rp×TypeId}:∀(r:List Sa) (t0 k:Nat) (s:Sa),i=t0+k→r[k]? =some s→s.al=some p→S i=false→(∀(t:Nat) (s:Sa) (q:Nat×List Rp),r[t]? =some s→s.al≠none→s.late=some q→q.1≠i)→(∀q,s.late=some q→S q.1=false∧q.1≠i)→
  (Ge (λj=>j ==i||S j) (λj=>if j=i then b else β j) r t0).Perm (.blk b p.1 p.2::Ge S β r t0)
 | [],_,_,_,_,h,_,_,_,_=>by simp at h
 | s'::r,t0,0,s,hi,h,ha,hS,hne,hl=>by
  simp at h hi;subst h;subst hi;have e:=G0 (S:=λj=>j ==i||S j) (S':=S) (β:=λj=>if j=i then b else β j) (β':=β) r (i+1) (λt s hs hn=>by
   have:i+1+t≠i:=by omega
   refine⟨by simp[this],λ_=>⟨by simp[this],λq hq=>?_⟩⟩;have:=hne (t+1) s q (by simpa using hs) hn hq;simp[this])
  have ec:Lg (λj=>j ==i||S j) s'.late p.1=p.1:=by
   unfold Lg
   cases hq:s'.late with
   | none=>rfl
   | some q=>
    obtain⟨h1,h2⟩:=hl q hq;simp[h1,h2]
  unfold Ge;rw[e,ha];simp only[hS,BEq.rfl,ZI,Aac,ec];simp
 | s'::r,t0,k+1,s,hi,h,ha,hS,hne,hl=>by
  have ih:=Qt (S:=S) (β:=β) (i:=i) (b:=b) (p:=p) r (t0+1) k s (by omega) (by simpa using h) ha hS (λt s q hs=>hne (t+1) s q (by simpa using hs)) hl;have hne0:t0≠i:=by omega
  have hne':(t0 ==i)=false:=by simpa using hne0
  unfold Ge
  cases ha':s'.al with
  | none=>exact ih
  | some q=>
   simp only[hne',Z6,Aaa hne0];rw[JU (S:=λj=>j ==i||S j) (S':=S) (λq hq=>by
    have:=hne 0 s' q rfl (by rw[ha'];exact nofun) hq;simp[this])]
   cases hS':S t0 with
   | true=>simpa using(Zo _ ih).trans (List.Perm.swap _ _ _)
   | false=>simpa using ih
theorem Qs {S:Nat→Bool}{β:Nat→Nat}{i j:Nat}{p:List Rp×TypeId}{ncs:List Rp}:∀(r:List Sa) (t0 k:Nat) (s:Sa),j=t0+k→r[k]? =some s→s.al=some p→s.late=some (i,ncs)→S j=true→S i=false→(∀(t:Nat) (s:Sa) (q:Nat×List Rp),r[t]? =some s→s.al≠none→s.late=some q→t0+t≠j→q.1≠i)→(∀(t:Nat) (s:Sa),r[t]? =some s→s.al≠none→t0+t≠i)→
  ∃H',(Ge S β r t0).Perm (.blk (β j) p.1 p.2::H')∧(Ge (λj=>j ==i||S j) β r t0).Perm (.blk (β j) ncs p.2::H')
 | [],_,_,_,_,h,_,_,_,_,_,_=>by simp at h
 | s'::r,t0,0,s,hj,h,ha,hl,hSj,hSi,hne,hni=>by
  simp at h hj;subst h;subst hj;have e:=G0 (S:=λx=>x ==i||S x) (S':=S) (β:=β) (β':=β) r (j+1) (λt s hs hn=>by
   have h1:=hni (t+1) s (by simpa using hs) hn;have h1':j+1+t≠i:=by omega
   refine⟨by simp[h1'],λ_=>⟨rfl,λq hq=>?_⟩⟩;have:=hne (t+1) s q (by simpa using hs) hn hq (by omega);simp[this])
  refine⟨Ge S β r (j+1),?_,?_⟩
  ·rw[En];rw[ha];simp[hSj,Lg,hl,hSi]
  ·rw[En];rw[ha,e];simp[hSj,Lg,hl]
 | s'::r,t0,k+1,s,hj,h,ha,hl,hSj,hSi,hne,hni=>by
  obtain⟨H',h1,h2⟩:=Qs (S:=S) (β:=β) (i:=i) (j:=j) (p:=p) (ncs:=ncs) r (t0+1) k s (by omega) (by simpa using h) ha hl hSj hSi (λt s q hs hn hq hx=>hne (t+1) s q (by simpa using hs) hn hq (by omega)) (λt s hs hn=>by
   have:=hni (t+1) s (by simpa using hs) hn;omega)
  cases ha':s'.al with
  | none=>exact⟨H',by rw[En,ha'];exact h1,by rw[En,ha'];exact h2⟩
  | some q=>
   have hi0:=hni 0 s' rfl (by rw[ha'];exact nofun);have hi0':(t0 ==i)=false:=by simpa using hi0
   have ec:Lg (λx=>x ==i||S x) s'.late q.1=Lg S s'.late q.1:=JU (λq hq=>by
    have:=hne 0 s' q rfl (by rw[ha'];exact nofun) hq (by omega);simp[this])
   cases hS':S t0 with
   | true=>
    refine⟨.blk (β t0) (Lg S s'.late q.1) q.2::H',?_,?_⟩
    ·rw[En];rw[ha'];simpa[hS'] using(Zo _ h1).trans (List.Perm.swap _ _ _)
    ·rw[En];rw[ha'];simp only[hi0',Z6,hS',Aac,ec];exact(Zo _ h2).trans (List.Perm.swap _ _ _)
   | false=>
    refine⟨H',?_,?_⟩
    ·rw[En];rw[ha'];simpa[hS'] using h1
    ·rw[En];rw[ha'];simp only[hi0',Z6,hS'];simpa using h2
def YS (n:Nat)(ops:List Oper)(N:Nat)(keys:List Nat)(deps:List (List Nat))(als:List Bool)(lates stos:List (Option Nat)):Bool:=
 Ph ops N&&decide (N≤ops.length)&&
 (List.range N).all (λi=>match CE ops i with
  | some d=>decide (d<n)&&!keys.contains d&&(List.range N).all (λj=>j ==i||CE ops j !=some d)
  | none=>true)&&
 (List.range N).all (λi=>(deps.getD i []).all (λj=>decide (j<N)&&(Er (ops.getD i default)).contains j&&!als.getD j true))&&
 (List.range N).all (λi=>match stos.getD i none with
  | some j=>decide (j<N)&&(Er (ops.getD i default)).contains j&&als.getD j false&&!als.getD i true
  | none=>true)&&
 (List.range N).all (λj=>match lates.getD j none with
  | some k=>decide (k<N)&&als.getD j false&&stos.getD k none ==some j
  | none=>true)
def Zc (P:Program)(n:Nat)(c:Cx)(opsA:Array Oper)(Q:Exit→Act→World→Prop)(l:Fr)(o:Oper)(p:List Rp×TypeId):Prop:=
 ∀H a w Z (K:Act→World→Prop),CP n l a Z→St c H Z w→(∀b w',St c (.blk b p.1 p.2::H) Z w'→K (a.put o.dst (.pointer (some ⟨b,0,none⟩))) w')→
  Region.wanted o (yielded opsA a.tmps)=true∧o.wp P a w K Q
def XZ (P:Program)(n:Nat)(c:Cx)(opsA:Array Oper)(Q:Exit→Act→World→Prop)(ops:List Oper)(sp:List Sa)(l0:Fr)(H:List Ent)(i:Nat)(o:Oper):Prop:=
 match (Gb sp i).sto with
 | some j=>o.dst=none∧∃d p ncs,CE ops j=some d∧(Gb sp j).al=some p∧(Gb sp j).late=some (i,ncs)∧
   ∀b H,DG P n c opsA Q ((d,rv (.pointer (some ⟨b,0,none⟩)))::BV ops (VD sp) (Gb sp i).deps l0) (.blk b p.1 p.2::H) o (rv undef) (.blk b ncs p.2::H)
 | none=>match (Gb sp i).al with
  | none=>∀E,DG P n c opsA Q (BV ops (VD sp) (Gb sp i).deps l0) (H++E) o (Gb sp i).r (H++E)
  | some p=>Zc P n c opsA Q (BV ops (VD sp) (Gb sp i).deps l0) o p
def Ll (P:Program)(n:Nat)(c:Cx)(opsA:Array Oper)(Q:Exit→Act→World→Prop)(ops:List Oper)(sp:List Sa)(l0:Fr)(H:List Ent):Nat→List Oper→Prop
 | i,o::rest=>XZ P n c opsA Q ops sp l0 H i o∧Ll P n c opsA Q ops sp l0 H (i+1) rest
 | _,[]=>True
section
variable {P : Program} {n : Nat} {c : Cx} {opsA : Array Oper} {Q : Exit → Act → World → Prop} {l l0 : Fr} {H : List Ent} {sp : List Sa}
theorem Ll.at {ops:List Oper}:∀{k:Nat} {rest:List Oper},Ll P n c opsA Q ops sp l0 H k rest→∀(t:Nat) o,rest[t]? =some o→XZ P n c opsA Q ops sp l0 H (k+t) o
 | k,o::rest,⟨h1,h2⟩,t,o',ht=>by
  cases t with
  | zero=>simp at ht;subst ht;exact h1
  | succ t=>
   have:=Ll.at h2 t o' (by simpa using ht);rw[show k+(t+1)=k+1+t from by omega];exact this
 | _,[],_,t,o,h=>by simp at h
theorem Pn {β:Nat→Nat}{a:Act}{Z:Fz}(h0:CP n l0 a Z):∀(os:List Oper) (ss:List Sa) (k:Nat),(∀(t:Nat) o s d,os[t]? =some o→ss[t]? =some s→o.dst=some d→∃v,a.tmps[d]? =some v∧(KP β s (k+t)).p Z v)→CP n (L9 β os ss k l0) a Z
 | [],_,_,_=>by unfold L9;exact h0
 | _::_,[],_,_=>by unfold L9;exact h0
 | o::os,s::ss,k,h=>by
  have ih:=Pn h0 os ss (k+1) (λt o' s' d h1 h2 h3=>by
   have:=h (t+1) o' s' d (by simpa using h1) (by simpa using h2) h3;rw[show k+1+t=k+(t+1) from by omega];exact this)
  unfold L9
  cases hd:o.dst with
  | none=>exact ih
  | some d=>
   refine⟨ih.size,ih.defers,λi r hi=>?_⟩;rw[Cy] at hi
   split at hi
   ·rename_i e;subst e;simp at hi;subst hi;exact h 0 o s d rfl rfl hd
   ·exact ih.tm i r hi
theorem Xj {id:Nat}{ops:List Oper}(N:Nat)(sp:List Sa)(hm:P.follows .mixedOrders=true)(hB:YS n ops N (Ex l0) (sp.map (·.deps)) (sp.map (·.al.isSome)) (sp.map (·.late.map (·.1))) (sp.map (·.sto))=true)(hl0:T6 l0 l)(hsp:sp.length=N)
  (hob:Ll P n c ops.toArray Q ops sp l0 H 0 (ops.take N)) (h:∀β,WL P n c ops.toArray Q (ops.drop N) (L9 β (ops.take N) sp 0 l0) (H++Tt β sp 0)):WC P n c (.region id ops.toArray true) Q l H:=by
 intro a w Z ha hw;simp only[YS,Zu,ZQ,List.mem_range,Zr] at hB;obtain⟨⟨⟨⟨⟨b1,bN⟩,b2⟩,b3⟩,b4⟩,b5⟩:=hB;have hget:∀i,i<N→(ops.take N)[i]? =ops[i]?:=λi hi=>by rw[ZP,Aai hi]
 have hsa:∀i,i<N→sp[i]? =some (Gb sp i):=λi hi=>by
  simp[Gb,Zv,Zt (show i<sp.length by omega)]
 have hspq:∀i,i<N→(D6 (VD sp) i)=⟨(Gb sp i).deps,(Gb sp i).r,0⟩:=λi hi=>by
  simp[D6,VD,Zv,ZK,hsa i hi]
 have hals:∀j b,j<N→(sp.map (·.al.isSome)).getD j b=(Gb sp j).al.isSome:=λj b hj=>by simp[Zv,ZK,hsa j hj]
 have hstos:∀j,j<N→(sp.map (·.sto)).getD j none=(Gb sp j).sto:=λj hj=>by simp[Zv,ZK,hsa j hj]
 have hlates:∀j,j<N→(sp.map (·.late.map (·.1))).getD j none=(Gb sp j).late.map (·.1):=λj hj=>by simp[Zv,ZK,hsa j hj]
 have S1:∀i o j,i<N→ops[i]? =some o→(Gb sp i).sto=some j→j<N∧j∈Er o∧(Gb sp j).al≠none∧(Gb sp i).al=none:=λi o j hi ho hs=>by
  have h1:=b4 i hi;rw[hstos i hi,hs] at h1;simp only[Zu,ZL,Zr] at h1;obtain⟨⟨⟨h2,h3⟩,h4⟩,h5⟩:=h1;rw[hals j _ h2] at h4;rw[hals i _ hi] at h5;rw[Zv,ho,ZM,List.contains_iff_mem] at h3;exact⟨h2,h3,λe=>(by rw[e] at h4;cases h4),(by simpa using h5)⟩
 have L1:∀t q,t<N→(Gb sp t).late=some q→q.1<N∧(Gb sp q.1).sto=some t:=λt q ht hq=>by
  have h1:=b5 t ht;rw[hlates t ht,hq] at h1;simp only[Option.map_some,Zu,Zr,beq_iff_eq] at h1;obtain⟨⟨h2,h3⟩,h4⟩:=h1;rw[hstos _ h2] at h4;exact⟨h2,h4⟩
 have hops:∀j,j<N→∃o,ops[j]? =some o:=λj hj=>⟨ops[j]'(by omega),Zt (by omega)⟩
 have lt_of:∀(t:Nat) (s:Sa),sp[t]? =some s→t<N∧s=Gb sp t:=λt s hs=>by
  have h1:t<N:=by have:=(List.getElem?_eq_some_iff.1 hs).1;omega
  refine⟨h1,?_⟩;rw[hsa t h1] at hs;simpa using hs.symm
 have hdst:∀i o d,i<N→ops[i]? =some o→o.dst=some d→(d<n∧d ∉ Ex l0)∧∀j,j<N→j≠i→CE ops j≠some d:=λi o d hi ho hd=>by
  have h3:=b2 i hi;have:CE ops i=some d:=by simp[CE,ho,hd]
  rw[this] at h3;simp only[Zu,ZL,ZQ,List.mem_range,Zr] at h3;refine⟨⟨h3.1.1,λhmem=>by rw[← List.contains_iff_mem] at hmem;rw[hmem] at h3;cases h3.1.2⟩,λj hj hne he=>?_⟩;have:=h3.2 j hj;simp[hne,he] at this
 refine TU (N:=N) hm b1 bN (λS a w=>∃ (β:Nat→Nat) (Z:Fz),St c (H++Ge S β sp 0) Z w∧CP n l0 a Z∧(∀j o d,j<N→S j=true→ops[j]? =some o→o.dst=some d→∃v,a.tmps[d]? =some v∧(KP β (Gb sp j) j).p Z v)∧
   ∀k j,k<N→(Gb sp k).sto=some j→S k=true→S j=true)
  (λS S' a w hS hI=>?_) ⟨λ_=>0,Z,?_,ha.subL hl0,λj o d _ hS=>(by cases hS),λk j _ _ hS=>(by cases hS)⟩ (λS i o a w hi hun ho hb hI K hK=>?_) (λa w hI=>?_)
 ·obtain⟨β,Z,h1,h2,h3,h4⟩:=hI;refine⟨β,Z,?_,h2,λj o d hj hS'=>h3 j o d hj (by rw[hS j hj];exact hS'),λk j hk hs hSk=>?_⟩
  ·rw[← G0 (S:=S) (β:=β) (β':=β) sp 0 (λt s hs _=>by
    obtain⟨ht,rfl⟩:=lt_of t s hs;exact⟨hS _ (by omega),λ_=>⟨rfl,λq hq=>hS _ (L1 t q ht hq).1⟩⟩)]
   exact h1
  ·obtain⟨o,ho⟩:=hops k hk;rw[← hS j (S1 k o j hk ho hs).1];exact h4 k j hk hs (by rw[hS k hk];exact hSk)
 ·rw[Om,Aag];exact hw.drawn _
 ·obtain⟨β,Z,h1,h2,h3,hx⟩:=hI;have hput:∀k u v,a.tmps[k]? =some u→o.dst≠some k→(a.put o.dst v).tmps[k]? =some u:=λk u v hk hne=>by
   cases hd:o.dst with
   | none=>simpa[Act.put] using hk
   | some d=>
    simp only[Act.put,Array.getElem?_setIfInBounds];rw[Aaa (λe=>hne (by rw[hd,e]))];exact hk
  have hagr:∀v Z',Fz.le Z Z'→CP n l0 (a.put o.dst v) Z':=λv Z' hz=>by
   refine⟨?_,?_,λk r hk=>?_⟩
   ·cases o.dst<;>simp[Act.put,h2.size]
   ·cases o.dst<;>simp[Act.put,h2.defers]
   ·obtain⟨u,hu,hpu⟩:=h2.tm k r hk;exact⟨u,hput k u v hu (λe=>((hdst i o k hi ho e).1).2 (K8 hk)),r.mono hz hpu⟩
  have hvals:∀(v:Value) (Z':Fz) (β':Nat→Nat),Fz.le Z Z'→(∀j,j≠i→β' j=β j)→(o.dst≠none→(KP β' (Gb sp i) i).p Z' v)→∀j o' d,j<N→(j ==i||S j)=true→ops[j]? =some o'→o'.dst=some d→∃u,(a.put o.dst v).tmps[d]? =some u∧(KP β' (Gb sp j) j).p Z' u:=by
   intro v Z' β' hz hβ hp j o' d hj hS' ho' hd
   by_cases hji:j=i
   ·subst hji;rw[ho] at ho';simp at ho';subst ho';refine⟨v,?_,hp (by simp[hd])⟩;have hdn:d<a.tmps.size:=by rw[h2.size];exact(hdst j o d hi ho hd).1.1
    simp[Act.put,hd,hdn]
   ·have hSj:S j=true:=by simpa[hji] using hS'
    obtain⟨u,hu,hpu⟩:=h3 j o' d hj hSj ho' hd;refine⟨u,hput d u v hu (λe=>(hdst i o d hi ho e).2 j hj hji (by simp[CE,ho',hd])),?_⟩;have:KP β' (Gb sp j) j=KP β (Gb sp j) j:=by unfold KP;rw[hβ j hji]
    rw[this];exact(KP β (Gb sp j) j).mono hz hpu
  have hx':∀k j,k<N→(Gb sp k).sto=some j→(k ==i||S k)=true→(j ==i||S j)=true:=λk j hk hs hSk=>by
   by_cases hki:k=i
   ·subst hki;have:=(hb j (S1 k o j hk ho hs).2.1).2;simp[this]
   ·have:S j=true:=hx k j hk hs (by simpa[hki] using hSk);simp[this]
  have hat:=hob.at i o (by rw[hget i hi];exact ho);rw[ZT] at hat;unfold XZ at hat;have hag':CP n (BV ops (VD sp) (Gb sp i).deps l0) a Z:=KH h2 (λj hj d hd=>by
    have h4:=b3 i hi j (by simpa[Zv,ZK,hsa i hi] using hj);simp only[Zu,ZL,Zr] at h4;obtain⟨⟨h5,h6⟩,h7⟩:=h4;rw[Zv,ho,ZM,List.contains_iff_mem] at h6;have hjal:(Gb sp j).al=none:=by
     rw[hals j _ h5] at h7;simpa using h7
    obtain⟨o2,ho2⟩:=hops j h5;obtain⟨v,hv1,hv2⟩:=h3 j o2 d h5 (hb j h6).2 ho2 (by simpa[CE,ho2] using hd);refine⟨v,hv1,?_⟩;rw[hspq j h5];simpa[KP,hjal] using hv2)
  cases hst:(Gb sp i).sto with
  | some j=>
   rw[hst] at hat;obtain⟨hod,d,p,ncs,hd,hal,hlate,hok⟩:=hat;obtain⟨hjN,hjb,_,hial⟩:=S1 i o j hi ho hst;have hSj:=(hb j hjb).2;obtain⟨H',p1,p2⟩:=Qs (S:=S) (β:=β) (i:=i) (j:=j) (p:=p) (ncs:=ncs) sp 0 j (Gb sp j) (by omega) (hsa j hjN) hal hlate hSj hun (λt s q hs _ hq hne he=>by
     obtain⟨ht,rfl⟩:=lt_of t s hs;have:=(L1 t q ht hq).2;rw[he,hst] at this;simp at this;omega) (λt s hs hn he=>by
     obtain⟨ht,rfl⟩:=lt_of t s hs;rw[ZT] at he;subst he;exact hn hial)
   obtain⟨o2,ho2⟩:=hops j hjN;obtain⟨v,hv1,hv2⟩:=h3 j o2 d hjN hSj ho2 (by simpa[CE,ho2] using hd);have hag2:CP n ((d,rv (.pointer (some ⟨β j,0,none⟩)))::BV ops (VD sp) (Gb sp i).deps l0) a Z:=⟨hag'.size,hag'.defers,λk r hk=>by
    rw[Cy] at hk
    split at hk
    ·rename_i e;subst e;simp at hk;subst hk
     exact⟨v,hv1,by simpa[KP,hal] using hv2⟩
    ·exact hag'.tm k r hk⟩
   refine hok (β j) (H++H') a w Z K hag2 (h1.perm ((List.Perm.append_left H p1).trans List.perm_middle)) (λv w' Z' hz _ hs'=>hK _ _ ⟨β,Z',?_,hagr v Z' hz,hvals v Z' β hz (λ_ _=>rfl) (λhne=>absurd hod hne),hx'⟩);exact hs'.perm (List.perm_middle.symm.trans (List.Perm.append_left H p2.symm))
  | none=>
   rw[hst] at hat;have latene:∀t q,t<N→(Gb sp t).late=some q→q.1≠i:=λt q ht hq he=>by
    have:=(L1 t q ht hq).2;rw[he,hst] at this;cases this
   cases hal:(Gb sp i).al with
   | none=>
    rw[hal] at hat;refine hat _ a w Z K hag' h1 (λv w' Z' hz hp hst'=>hK _ _ ⟨β,Z',?_,hagr v Z' hz,hvals v Z' β hz (λ_ _=>rfl) (λ_=>by unfold KP;rw[hal];exact hp),hx'⟩);rw[G0 (S':=S) (β':=β) sp 0 (λt s hs hn=>by
     obtain⟨ht,rfl⟩:=lt_of t s hs;have:t≠i:=λe=>by subst e;exact hn hal
     refine⟨by simp[this],λ_=>⟨rfl,λq hq=>?_⟩⟩;have:=latene t q ht hq;simp[this])]
    exact hst'
   | some p=>
    rw[hal] at hat;have key:=λK' hK'=>hat (H++Ge S β sp 0) a w Z K' hag' h1 hK';have h5:∀b w',St c (.blk b p.1 p.2::(H++Ge S β sp 0)) Z w'→K (a.put o.dst (.pointer (some ⟨b,0,none⟩))) w':=λb w' hst'=>by
     refine hK _ _ ⟨λj=>if j=i then b else β j,Z,?_,hagr _ Z (Fz.le.refl _),hvals _ Z _ (Fz.le.refl _) (λj hj=>by simp[hj]) (λ_=>by simp[KP,hal,rv]),hx'⟩;have hp:=Qt (S:=S) (β:=β) (i:=i) (b:=b) (p:=p) sp 0 i (Gb sp i) (by omega) (hsa i hi) hal hun (λt s q hs _ hq=>by
      obtain⟨ht,rfl⟩:=lt_of t s hs;exact latene t q ht hq) (λq hq=>by
       refine⟨?_,latene i q hi hq⟩
       cases hS:S q.1 with
       | false=>rfl
       | true=>
        obtain⟨h6,h7⟩:=L1 i q hi hq;have:=hx q.1 i h6 h7 hS;rw[this] at hun;cases hun)
     exact hst'.perm ((List.perm_middle.symm).trans (List.Perm.append_left H hp.symm))
    refine⟨λ_=>(key K h5).2,λhw'=>?_⟩;rw[(key K h5).1] at hw';cases hw'
 ·obtain⟨β,Z,h1,h2,h3,_⟩:=hI;refine h β a w Z (Pn h2 _ _ 0 (λt o s d ht hs hd=>?_)) (by rw[← Qu];exact h1);obtain⟨htN,rfl⟩:=lt_of t s hs;rw[ZT];exact h3 t o d htN rfl (by rw[← hget t htN];exact ht) hd
end
section
variable {P : Program} {n : Nat} {c : Cx} {opsA : Array Oper} {Q : Exit → Act → World → Prop} {l l0 : Fr} {H : List Ent} {sp : List Sa}
theorem CL {id:Nat}{ops:List Oper}(N:Nat)(ks0:List Nat)(sp:List Sa)(hob:Ll P n c ops.toArray Q ops sp l0 H 0 (ops.take N))(h:∀β,WL P n c ops.toArray Q (ops.drop N) (L9 β (ops.take N) sp 0 l0) (H++Tt β sp 0))
  (h0:Kp ks0 l l0:=by repeat (first | exact N8 | (apply Ld;rfl) | (apply LJ;rfl))) (hm:P.follows .mixedOrders=true:=by kernel_rfl) (hB:YS n ops N (Ex l0) (sp.map (·.deps)) (sp.map (·.al.isSome)) (sp.map (·.late.map (·.1))) (sp.map (·.sto))=true:=by kernel_rfl)
  (hsp:sp.length=N:=by rfl):WC P n c (.region id ops.toArray true) Q l H:=Xj N sp hm hB h0.one hsp hob h
theorem CN {all rest:List Oper}{d:Nat}{op:Op}{ty:TypeId}{pos:String}{af:Array Edge}{i:Nat}
  (hr:∀{H},Be P n c (BV all (VD sp) (Gb sp i).deps l0) H { dst:=some d,op:=op,type:=ty,pos:=pos,after:=af,guard:=none } (Gb sp i).r) (h:Ll P n c opsA Q all sp l0 H (i+1) rest) (ha:(Gb sp i).al=none:=by rfl) (hs:(Gb sp i).sto=none:=by rfl) :
  Ll P n c opsA Q all sp l0 H i ({ dst:=some d,op:=op,type:=ty,pos:=pos,after:=af,guard:=none }::rest):=by
 refine⟨?_,h⟩;unfold XZ;rw[hs,ha];exact λ_=>DM hr
theorem Gi {all rest:List Oper}{d:Nat}{op:Op}{ty:TypeId}{pos:String}{af:Array Edge}{i:Nat}
  (hr:∀{E},Be P n c (BV all (VD sp) (Gb sp i).deps l0) (H++E) { dst:=some d,op:=op,type:=ty,pos:=pos,after:=af,guard:=none } (Gb sp i).r) (h:Ll P n c opsA Q all sp l0 H (i+1) rest) (ha:(Gb sp i).al=none:=by rfl) (hs:(Gb sp i).sto=none:=by rfl) :
  Ll P n c opsA Q all sp l0 H i ({ dst:=some d,op:=op,type:=ty,pos:=pos,after:=af,guard:=none }::rest):=by
 refine⟨?_,h⟩;unfold XZ;rw[hs,ha];exact λ_=>DM hr
theorem OH {all:List Oper}{i:Nat}:Ll P n c opsA Q all sp l0 H i []:=trivial
end
structure VF (ks:List Nat) (β:Nat→Nat) (os:List Oper) (sp:List Sa) (i:Nat) (l0 l1:Fr):Prop where
 go:Kp ks (L9 β os sp i l0) l1
section
variable {ks : List Nat} {β : Nat → Nat} {os : List Oper} {sp : List Sa} {i d : Nat} {l0 l1 : Fr} {ds : List Nat} {r : Rp} {p : List Rp × TypeId} {lt : Option (Nat × List Rp)} {so : Option Nat} {op : Op} {ty : TypeId} {pos : String} {af : Array Edge} {g : Option (Nat × Bool)}
theorem Ys (h:ks.contains d=true)(t:VF ks β os sp (i+1) l0 l1):VF ks β ({ dst:=some d,op:=op,type:=ty,pos:=pos,after:=af,guard:=g }::os) ({ deps:=ds,r:=r,sto:=so }::sp) i l0 ((d,r)::l1):=⟨Ld h t.go⟩
theorem Yv (h:ks.contains d=true)(t:VF ks β os sp (i+1) l0 l1):VF ks β ({ dst:=some d,op:=op,type:=ty,pos:=pos,after:=af,guard:=g }::os) ({ deps:=ds,r:=r,al:=some p,late:=lt,sto:=so }::sp) i l0 ((d,rv (.pointer (some ⟨β i,0,none⟩)))::l1):=⟨Ld h t.go⟩
theorem Yu {s:Sa}(h:ks.contains d=false)(t:VF ks β os sp (i+1) l0 l1):VF ks β ({ dst:=some d,op:=op,type:=ty,pos:=pos,after:=af,guard:=g }::os) (s::sp) i l0 l1:=⟨LJ h t.go⟩
theorem Yt {s:Sa}(t:VF ks β os sp (i+1) l0 l1):VF ks β ({ dst:=none,op:=op,type:=ty,pos:=pos,after:=af,guard:=g }::os) (s::sp) i l0 l1:=⟨t.go⟩
theorem Yw (t:Kp ks l0 l1):VF ks β [] [] i l0 l1:=⟨t⟩
theorem CK {P:Program}{n:Nat}{c:Cx}{opsA:Array Oper}{Q:Exit→Act→World→Prop}{rest:List Oper}{H H1:List Ent}(ks:List Nat)(h:WL P n c opsA Q rest l1 H1)
  (hz:VF ks β os sp i l0 l1:=by repeat (first | (apply Ys;rfl) | (apply Yv;rfl) | (apply Yu;rfl) | apply Yt | apply Yw | exact N8 | (apply Ld;rfl) | (apply LJ;rfl))) (hH:H=H1:=by rfl) :
  WL P n c opsA Q rest (L9 β os sp i l0) H:=λa w Z ha hw=>h a w Z (ha.subL hz.go.one) (hH▸hw)
end
section
variable {P : Program} {n : Nat} {c : Cx} {opsA : Array Oper} {Q : Exit → Act → World → Prop} {l l0 : Fr} {H : List Ent} {sp : List Sa}
theorem KU {all rest:List Oper}{o:Oper}{i:Nat}(hr:∀{E},DG P n c opsA Q (BV all (VD sp) (Gb sp i).deps l0) (H++E) o (Gb sp i).r (H++E))(h:Ll P n c opsA Q all sp l0 H (i+1) rest)(ha:(Gb sp i).al=none:=by rfl)(hs:(Gb sp i).sto=none:=by rfl):Ll P n c opsA Q all sp l0 H i (o::rest):=by
 refine⟨?_,h⟩;unfold XZ;rw[hs,ha];exact λ_=>hr
end
section
variable {P : Program} {n : Nat} {c : Cx} {opsA : Array Oper} {Q : Exit → Act → World → Prop} {l : Fr} {H : List Ent} {d : Nat} {ty : TypeId} {pos : String} {af : Array Edge}
theorem U1 {f:FuncId}{args:List Operand}{ats:Array TypeId}{rs:List Rp}{r:Rp}{Hin Hout Hr:List Ent}(hcall:∀(as1:Array Value) (w:World),(callFunc f as1).run P w = .ok (.enter f as1) w)(hv:LM l args=some rs)
  (hp:H.Perm (Hin++Hr)) (hc:Fn P c.E f rs Hin (λr' H'=>r'=r∧H'=Hout)) {H':List Ent} (hH:Hout++Hr=H'):DG P n c opsA Q l H { dst:=some d,op:=.call { callee:=.value (.func f),args:=args.toArray,argTypes:=ats },type:=ty,pos:=pos,after:=af,guard:=none } r H':=λa w Z K ha hw hK=>
 ⟨λ_=>by
  subst hH;unfold Oper.wp;rw[DY rfl hcall w];refine(hc w Z _ (GN ha hv) (hw.perm hp).enter).mono ?_;rintro e w' ⟨r2,v,Ho,Z',rfl,⟨rfl,rfl⟩,hr2,hs⟩;exact hK v w' Z' hs.le hr2 ((hw.perm hp).call hs),λh=>by simp[Region.wanted] at h⟩
theorem U0 {f:FuncId}{args:List Operand}{ats:Array TypeId}{rs:List Rp}{r:Rp}{Hin Hr:List Ent}(hcall:∀(as1:Array Value) (w:World),(callFunc f as1).run P w = .ok (.enter f as1) w)(hv:LM l args=some rs)
  (hp:H.Perm (Hin++Hr)) (hc:Fn P c.E f rs Hin (λr' H'=>r'=r∧H'=Hin)):DG P n c opsA Q l H { dst:=some d,op:=.call { callee:=.value (.func f),args:=args.toArray,argTypes:=ats },type:=ty,pos:=pos,after:=af,guard:=none } r H:=λa w Z K ha hw hK=>
 U1 (Hout:=Hin) hcall hv hp hc rfl a w Z K ha hw (λv w' Z' hz hr hs=>hK v w' Z' hz hr (hs.perm hp.symm))
theorem ST {f:FuncId}{args:List Operand}{ats:Array TypeId}{rs:List Rp}{r:Rp}{Hin Hr E:List Ent}(hcall:∀(as1:Array Value) (w:World),(callFunc f as1).run P w = .ok (.enter f as1) w)(hv:LM l args=some rs)
  (hp:H.Perm (Hin++Hr)) (hc:Fn P c.E f rs Hin (λr' H'=>r'=r∧H'=Hin)):DG P n c opsA Q l (H++E) { dst:=some d,op:=.call { callee:=.value (.func f),args:=args.toArray,argTypes:=ats },type:=ty,pos:=pos,after:=af,guard:=none } r (H++E):=
 U0 (Hin:=Hin) (Hr:=Hr++E) hcall hv (by rw[← ZZ];exact hp.append_right E) hc
end
section
variable {P : Program} {n : Nat} {c : Cx} {ops : Array Oper} {Q : Exit → Act → World → Prop} {rest : List Oper} {l : Fr} {H H' : List Ent} {d : Nat} {d' : Option Nat} {x y z3 : Operand} {ty t t' e : TypeId} {pos : String} {af : Array Edge} {g : Option (Nat × Bool)} {v u : Value} {r : Rp} {sz : Nat}
end
def Yd (p:Bool→Prop):Rp:=⟨λ_ v=>∃b,v = .bool b∧p b,λ_ h=>h,true,λ_ Z v ⟨b,e,_⟩=>by rw[e];rfl⟩
section
variable {P : Program} {n : Nat} {c : Cx} {ops : Array Oper} {Q : Exit → Act → World → Prop} {rest : List Oper} {l : Fr} {H : List Ent} {d : Option Nat} {ty rty t e : TypeId} {pos : String} {af : Array Edge} {g : Option (Nat × Bool)} {r : Rp} {x : Operand} {cx cy : Code} {sz : Nat} {xs : List (List Rp)}
theorem Mt {o:Operand}{p:Bool→Prop}(ho:ev l o=some (Yd p))(h1:p true→WC P n c cx Q l H)(h2:p false→WC P n c cy Q l H):WC P n c (.cond o cx cy) Q l H:=λa w Z ha hw=>by
 obtain⟨b,e,hp⟩:=ha.ev ho;exact wp_cond_split e (λe=>h1 (e▸hp) a w Z ha hw) (λe=>h2 (e▸hp) a w Z ha hw)
theorem SU (ht:P.underlying t=some (.slice e))(h:ev l x=some (AU sz xs)):Be P n c l H { dst:=d,op:=.binOp .eql t x (.const (.slice none 0 0)) rty,type:=ty,pos:=pos,after:=af,guard:=g } (Yd (λb=>b=true→xs=[])):=λa w Z ha hw=>by
 obtain⟨A,cap,e1,h1,h2,h3,h4⟩:=ha.ev h;refine⟨.bool A.isNone,⟨_,rfl,λhb=>?_⟩,?_⟩
 ·cases A with
  | some a=>cases hb
  | none=>
   have:=h3 rfl;exact List.length_eq_zero_iff.1 (by omega)
 ·have:=run_equal_slice_nil (P:=P) w t e A xs.length cap ht;have e2:a.eval (.const (.slice none 0 0)) = .slice none 0 0:=rfl;simp[execOp,e1,e2,binOp,this,eqGuard]
end
section
variable {P : Program} {n : Nat} {c : Cx} {Q : Exit → Act → World → Prop} {l : Fr} {H : List Ent} {x rest' : Code} {K : Act → World → Prop}
theorem IT {lb:Nat}(h:WK n c (Q (.goto lb)) l H):WC P n c (.goto lb) Q l H:=λa w Z ha hw=>wp_goto (h a w Z ha hw)
theorem BU {lb:Nat}(h:WK n c (Q (.goto lb)) l H):WK n c (Exit.then K Q (.goto lb)) l H:=h
theorem E6 {id lb:Nat}(h:WK n c (Q (.goto lb)) l H):WK n c (Exit.inBlock id Q (.goto lb)) l H:=h
theorem I0 {id lb:Nat}(h:WK n c (Q (.goto lb)) l H):WK n c (Vx id K Q (.goto lb)) l H:=h
theorem VR {lb:Nat}(h:WK n c (Q .ret) l H):WK n c (Exit.jump lb K Q .ret) l H:=h
theorem IR {lb:Nat}(h:WK n c K l H):WK n c (Exit.jump lb K Q (.goto lb)) l H:=λa w Z ha hw=>⟨rfl,h a w Z ha hw⟩
theorem Nu {S:Type}(lb:Nat)(inv:S→Prop)(fr:S→Fr)(hp:S→List Ent)(hf:findLabel x lb=some rest')
  (h1:WC P n c x (Exit.jump lb (GQ n c inv fr hp) Q) l H) (h2:∀s,inv s→WC P n c rest' (Exit.noGoto Q) (fr s) (hp s)):WC P n c (.scope x) Q l H:=λa w Z ha hw=>
 wp_scope_jumps lb (GQ n c inv fr hp) (λ_ _=>0) hf (h1 a w Z ha hw) (by
  rintro a w ⟨s,Z,hi,ha,hw⟩;refine wp_mono (h2 s hi a w Z ha hw) λe a w q=>?_
  cases e with
  | goto _=>exact q.elim
  | _=>exact q)
end
section
variable {P : Program} {n : Nat} {c : Cx} {ops : Array Oper} {Q : Exit → Act → World → Prop} {rest : List Oper} {l : Fr} {H H' : List Ent} {d : Nat} {d' : Option Nat} {x y z3 z4 : Operand} {ty t t' e : TypeId} {pos : String} {af : Array Edge} {g : Option (Nat × Bool)} {v u : Value} {r : Rp} {sz : Nat}
theorem Lx {α:Type}{ys:List α}{enc:α→List Rp}{k' k'':IntKind}{j:Int}(ht:P.underlying t=some (.slice e))(hz:∀w,(sizeOf e).run P w = .ok sz w)(h:ev l x=some (AU sz (ys.map enc)))(hj:ev l z3=some (rI k' j))(hm:ev l z4=some (rI k'' j))(hg2:Ep j (ys.length:Int)=true) :
  Be P n c l H { dst:=d',op:=.slice t x none (some z3) (some z4),type:=ty,pos:=pos,after:=af,guard:=g } (AU sz ((ys.take j.toNat).map enc)):=λa w Z ha hw=>by
 obtain⟨A,cap,e1,hc1,hc2,hA,hc⟩:=ha.ev h;have h0:=(BH hg2).1;have h2:=(BH hg2).2;simp only[Zw] at e1 hc1;have h3:j≤(cap:Int):=by omega
 refine⟨.slice A j.toNat j.toNat,⟨A,j.toNat,?_,?_,by omega,?_,λq cl hq=>?_⟩,?_⟩
 ·congr 1
  simp;omega
 ·simp;omega
 ·intro hn;have:=hA hn;omega
 ·rw[ZK,ZP] at hq
  split at hq
  ·exact hc q cl (by rw[ZK];exact hq)
  ·cases hq
 ·have hA':A.map (λb=>b.add 0)=A:=by
   cases A with
   | none=>rfl
   | some ad=>obtain⟨b,o,sp⟩:=ad;cases sp<;>rfl
  simp[execOp,e1,ha.eval hj,ha.eval hm,Instr.sliceAt,Instr.slice,run_underlying ht,Instr.sliceBounds,Bb (m:=cap) _ _ h0 h3,Bb (m:=j.toNat) _ _ h0 (by omega),hz]
  try (intro _;cases A<;>rfl)
theorem RT {i:Nat}{rs:List Rp}{fs:Array Field}{f:Field}(hu:P.underlying t=some (.struct fs))(hf:fs[i]? =some f)(hag:∀w,(isAgg f.type).run P w = .ok false w)(hx:ev l x=some (B9 rs))(hr:rs[f.offset]? =some r) :
  Be P n c l H { dst:=d',op:=.field t x i,type:=ty,pos:=pos,after:=af,guard:=g } r:=λa w Z ha hw=>by
 obtain⟨us,e1,hus⟩:=ha.ev hx;obtain⟨v,hv,hp⟩:=hus.at hr;exact⟨v,hp,by simp[execOp,e1,Instr.field,run_underlying hu,hf,asAgg,part,hag,hv]⟩
end
structure Sx (U:Type) where
 deps:List Nat
 r:U→Rp
 dyn:Bool:=false
 old:List Nat:=[]
def Gf {U:Type}(sp:List (Sx U))(i:Nat):Sx U:=sp.getD i { deps:=[],r:=λ_=>rv undef }
def TB {U:Type}(sp:List (Sx U))(u:U):List Sp:=sp.map λs=>⟨s.deps,s.r u,0⟩
def Yc {U:Type}(sp:List (Sx U))(u:U):List Sa:=sp.map λs=>{ deps:=s.deps,r:=s.r u }
def Nq {U:Type}:List (Sx U)→Prop
 | []=>True
 | s::r=>(s.dyn=false→∀u u',s.r u=s.r u')∧Nq r
theorem Nq.at {U:Type}:∀{sp:List (Sx U)},Nq sp→∀{i:Nat} {s:Sx U},sp[i]? =some s→s.dyn=false→∀u u',s.r u=s.r u'
 | [],_,i,s,h=>by simp at h
 | x::sp,⟨h1,h2⟩,0,s,h=>by simp at h;subst h;exact h1
 | x::sp,⟨h1,h2⟩,i+1,s,h=>Nq.at h2 (by simpa using h)
theorem YN {U:Type}{ds os:List Nat}{r:Rp}{sp:List (Sx U)}(h:Nq sp):Nq ({ deps:=ds,r:=λ_=>r,old:=os }::sp):=⟨λ_ _ _=>rfl,h⟩
theorem YM {U:Type}{ds os:List Nat}{r:U→Rp}{sp:List (Sx U)}(h:Nq sp):Nq ({ deps:=ds,r:=r,dyn:=true,old:=os }::sp):=⟨λh'=>(by cases h'),h⟩
def EI (lw:Fr):List Nat→Fr→Fr
 | [],l=>l
 | d::r,l=>match look lw d with
  | some q=>(d,q)::EI lw r l
  | none=>EI lw r l
theorem Sr {n:Nat}{lw l:Fr}{a:Act}{Z:Fz}(h0:CP n l a Z):∀{ds:List Nat},(∀d∈ds,∀q,look lw d=some q→∃v,a.tmps[d]? =some v∧q.p Z v)→CP n (EI lw ds l) a Z
 | [],_=>h0
 | d::ds,h=>by
  have ih:=Sr h0 (ds:=ds) (λd' hd'=>h d' (by simp[hd']));unfold EI
  cases hd:look lw d with
  | none=>exact ih
  | some q=>
   refine⟨ih.size,ih.defers,λi r hi=>?_⟩;rw[Cy] at hi
   split at hi
   ·rename_i e;subst e;simp at hi;subst hi;exact h d (by simp) q hd
   ·exact ih.tm i r hi
theorem YL {U:Type}:Nq ([]:List (Sx U)):=trivial
def YR (n:Nat)(ops:List Oper)(N i0:Nat)(keys:List Nat)(deps:List (List Nat))(dyns:List Bool)(olds:List (List Nat)):Bool:=
 Ph ops N&&decide (N≤ops.length)&&decide (i0<N)&&
 (List.range N).all (λi=>match CE ops i with
  | some d=>decide (d<n)&&!keys.contains d&&(List.range N).all (λj=>j ==i||CE ops j !=some d)
  | none=>true)&&
 (List.range N).all (λi=>(deps.getD i []).all (λj=>decide (j<N)&&(Er (ops.getD i default)).contains j))&&
 (List.range N).all (λi=>!dyns.getD i false||i ==i0||(Er (ops.getD i default)).any (λe=>decide (e<N)&&(e ==i0||dyns.getD e false)))&&
 (List.range N).all (λi=>(olds.getD i []).all (λd=>(List.range N).all (λw=>CE ops w !=some d||(Er (ops.getD w default)).contains i)))
section
variable (P : Program) (n : Nat) (c : Cx) (opsA : Array Oper) (Q : Exit → Act → World → Prop)
def YH {U:Type}(l:Fr)(H:List Ent)(o:Oper)(r:U→Rp)(H1:U→List Ent):Prop:=
 ∀a w Z (K:Act→World→Prop),CP n l a Z→St c H Z w→(∀u v w' Z',Fz.le Z Z'→(r u).p Z' v→St c (H1 u) Z' w'→K (a.put o.dst v) w')→
  Region.wanted o (yielded opsA a.tmps)=true∧o.wp P a w K Q
def JW {U:Type}(ops:List Oper)(sp:List (Sx U))(l0 lw:Fr)(i0:Nat)(H:List Ent)(H1:U→List Ent):Nat→List Oper→Prop
 | i,o::rest=>(if i=i0 then(∀u,YH P n c opsA Q (EI lw (Gf sp i).old (BV ops (TB sp u) (Gf sp i).deps l0)) H o (Gf sp i).r H1) else ∀u H',(H'=H∨H'=H1 u)→DG P n c opsA Q (EI lw (Gf sp i).old (BV ops (TB sp u) (Gf sp i).deps l0)) H' o ((Gf sp i).r u) H')∧JW ops sp l0 lw i0 H H1 (i+1) rest
 | _,[]=>True
end
section
variable {P : Program} {n : Nat} {c : Cx} {opsA : Array Oper} {Q : Exit → Act → World → Prop} {l l0 lw : Fr} {U : Type} {H : List Ent} {H1 : U → List Ent} {sp : List (Sx U)} {i0 : Nat}
theorem JW.at {ops:List Oper}:∀{k:Nat} {rest:List Oper},JW P n c opsA Q ops sp l0 lw i0 H H1 k rest→∀(t:Nat) o,rest[t]? =some o→
  (if k+t=i0 then(∀u,YH P n c opsA Q (EI lw (Gf sp (k+t)).old (BV ops (TB sp u) (Gf sp (k+t)).deps l0)) H o (Gf sp (k+t)).r H1) else ∀u H',(H'=H∨H'=H1 u)→DG P n c opsA Q (EI lw (Gf sp (k+t)).old (BV ops (TB sp u) (Gf sp (k+t)).deps l0)) H' o ((Gf sp (k+t)).r u) H')
 | k,o::rest,⟨h1,h2⟩,t,o',ht=>by
  cases t with
  | zero=>simp at ht;subst ht;exact h1
  | succ t=>
   have:=JW.at h2 t o' (by simpa using ht);rw[show k+(t+1)=k+1+t from by omega];exact this
 | _,[],_,t,o,h=>by simp at h
theorem VU {id:Nat}{ops:List Oper}[Inhabited U](N i0:Nat)(sp:List (Sx U))(hm:P.follows .mixedOrders=true)(hB:YR n ops N i0 (Ex l0) (sp.map (·.deps)) (sp.map (·.dyn)) (sp.map (·.old))=true)(hl0:T6 l0 l)(hlw:T6 lw l)(hsp:sp.length=N)(hst:Nq sp)
  (hob:JW P n c ops.toArray Q ops sp l0 lw i0 H H1 0 (ops.take N)) (h:∀u,WL P n c ops.toArray Q (ops.drop N) (L9 (λ_=>0) (ops.take N) (Yc sp u) 0 l0) (H1 u)):WC P n c (.region id ops.toArray true) Q l H:=by
 intro a w Z ha hw;simp only[YR,Zu,ZQ,List.mem_range,Zr] at hB;obtain⟨⟨⟨⟨⟨⟨b1,bN⟩,b0⟩,b2⟩,b3⟩,b4⟩,b5⟩:=hB;have hget:∀i,i<N→(ops.take N)[i]? =ops[i]?:=λi hi=>by rw[ZP,Aai hi]
 have hsa:∀i,i<N→sp[i]? =some (Gf sp i):=λi hi=>by
  simp[Gf,Zv,Zt (show i<sp.length by omega)]
 have hspq:∀u i,i<N→(D6 (TB sp u) i)=⟨(Gf sp i).deps,(Gf sp i).r u,0⟩:=λu i hi=>by
  simp[D6,TB,Zv,ZK,hsa i hi]
 have hdyn:∀j,j<N→(sp.map (·.dyn)).getD j false=(Gf sp j).dyn:=λj hj=>by simp[Zv,ZK,hsa j hj]
 have hdep:∀j,j<N→(sp.map (·.deps)).getD j []=(Gf sp j).deps:=λj hj=>by simp[Zv,ZK,hsa j hj]
 have hops:∀j,j<N→∃o,ops[j]? =some o:=λj hj=>⟨ops[j]'(by omega),Zt (by omega)⟩
 have hdst:∀i o d,i<N→ops[i]? =some o→o.dst=some d→(d<n∧d ∉ Ex l0)∧∀j,j<N→j≠i→CE ops j≠some d:=λi o d hi ho hd=>by
  have h3:=b2 i hi;have:CE ops i=some d:=by simp[CE,ho,hd]
  rw[this] at h3;simp only[Zu,ZL,ZQ,List.mem_range,Zr] at h3;refine⟨⟨h3.1.1,λhmem=>by rw[← List.contains_iff_mem] at hmem;rw[hmem] at h3;cases h3.1.2⟩,λj hj hne he=>?_⟩;have:=h3.2 j hj;simp[hne,he] at this
 refine TU (N:=N) hm b1 bN (λS a w=>∃ (u:U) (Z:Fz),St c (if S i0=true then H1 u else H) Z w∧CP n l0 a Z∧(∀j o d,j<N→S j=true→ops[j]? =some o→o.dst=some d→∃v,a.tmps[d]? =some v∧((Gf sp j).r u).p Z v)∧
   (∀j,j<N→(Gf sp j).dyn=true→S j=true→S i0=true)∧
   (∀d q,look lw d=some q→(∀wr,wr<N→CE ops wr=some d→S wr=false)→∃v,a.tmps[d]? =some v∧q.p Z v)∧
   ∀wr i d,wr<N→i<N→CE ops wr=some d→d∈(Gf sp i).old→S wr=true→S i=true)
  (λS S' a w hS hI=>?_) ⟨default,Z,?_,ha.subL hl0,λj o d _ hS=>(by cases hS),λj _ _ hS=>(by cases hS),λd q hd _=>(ha.subL hlw).tm d q hd,λwr i d _ _ _ _ hS=>(by cases hS)⟩ (λS i o a w hi hun ho hb hI K hK=>?_) (λa w hI=>?_)
 ·obtain⟨u,Z,h1,h2,h3,h4,h5,h6⟩:=hI;refine⟨u,Z,?_,h2,λj o d hj hS'=>h3 j o d hj (by rw[hS j hj];exact hS'),λj hj hd hSj=>?_,λd q hd hw'=>h5 d q hd (λwr hwr hdw=>by rw[hS wr hwr];exact hw' wr hwr hdw),λwr i d hwr hi hdw hold hSw=>by rw[← hS i hi];exact h6 wr i d hwr hi hdw hold (by rw[hS wr hwr];exact hSw)⟩
  ·rw[← hS i0 b0];exact h1
  ·rw[← hS i0 b0];exact h4 j hj hd (by rw[hS j hj];exact hSj)
 ·exact hw.drawn _
 ·obtain⟨u,Z,h1,h2,h3,hx,ho5,ho6⟩:=hI;have hput:∀k u v,a.tmps[k]? =some u→o.dst≠some k→(a.put o.dst v).tmps[k]? =some u:=λk u v hk hne=>by
   cases hd:o.dst with
   | none=>simpa[Act.put] using hk
   | some d=>
    simp only[Act.put,Array.getElem?_setIfInBounds];rw[Aaa (λe=>hne (by rw[hd,e]))];exact hk
  have hagr:∀v Z',Fz.le Z Z'→CP n l0 (a.put o.dst v) Z':=λv Z' hz=>by
   refine⟨?_,?_,λk r hk=>?_⟩
   ·cases o.dst<;>simp[Act.put,h2.size]
   ·cases o.dst<;>simp[Act.put,h2.defers]
   ·obtain⟨u,hu,hpu⟩:=h2.tm k r hk;exact⟨u,hput k u v hu (λe=>((hdst i o k hi ho e).1).2 (K8 hk)),r.mono hz hpu⟩
  have hvals:∀(v:Value) (Z':Fz) (u':U),Fz.le Z Z'→(∀j,j<N→j≠i→S j=true→(Gf sp j).r u'=(Gf sp j).r u)→(o.dst≠none→((Gf sp i).r u').p Z' v)→∀j o' d,j<N→(j ==i||S j)=true→ops[j]? =some o'→o'.dst=some d→∃q,(a.put o.dst v).tmps[d]? =some q∧((Gf sp j).r u').p Z' q:=by
   intro v Z' u' hz hβ hp j o' d hj hS' ho' hd
   by_cases hji:j=i
   ·subst hji;rw[ho] at ho';simp at ho';subst ho';refine⟨v,?_,hp (by simp[hd])⟩;have hdn:d<a.tmps.size:=by rw[h2.size];exact(hdst j o d hi ho hd).1.1
    simp[Act.put,hd,hdn]
   ·have hSj:S j=true:=by simpa[hji] using hS'
    obtain⟨q,hu,hpu⟩:=h3 j o' d hj hSj ho' hd;refine⟨q,hput d q v hu (λe=>(hdst i o d hi ho e).2 j hj hji (by simp[CE,ho',hd])),?_⟩;rw[hβ j hj hji hSj];exact((Gf sp j).r u).mono hz hpu
  have hat:=hob.at i o (by rw[hget i hi];exact ho);rw[ZT] at hat;have hold':∀Z',Fz.le Z Z'→∀v d q,look lw d=some q→(∀wr,wr<N→CE ops wr=some d→(wr ==i||S wr)=false)→∃v',(a.put o.dst v).tmps[d]? =some v'∧q.p Z' v':=λZ' hz v d q hd hw'=>by
   obtain⟨v',e1,e2⟩:=ho5 d q hd (λwr hwr hdw=>by have:=hw' wr hwr hdw;simp only[Aab] at this;exact this.2);refine⟨v',hput d v' v e1 (λe=>?_),q.mono hz e2⟩;have:=hw' i hi (by simp[CE,ho,e]);simp at this
  have hord:∀wr k d,wr<N→k<N→CE ops wr=some d→d∈(Gf sp k).old→(wr ==i||S wr)=true→(k ==i||S k)=true:=λwr k d hwr hk hdw hmem hSw=>by
   by_cases hwi:wr=i
   ·subst hwi;have h7:=b5 k hk d (by simpa[Zv,ZK,hsa k hk] using hmem) wr hwr;simp only[ZX,bne_iff_ne,ne_eq,hdw,not_true_eq_false,false_or] at h7;rw[Zv,ho,ZM,List.contains_iff_mem] at h7;simp[(hb k h7).2]
   ·have:S k=true:=ho6 wr k d hwr hk hdw hmem (by simpa[hwi] using hSw);simp[this]
  have hag':CP n (EI lw (Gf sp i).old (BV ops (TB sp u) (Gf sp i).deps l0)) a Z:=Sr (KH h2 (λj hj d hd=>by
    obtain⟨h5,h6⟩:=b3 i hi j (by rw[hdep i hi];exact hj);rw[Zv,ho,ZM,List.contains_iff_mem] at h6;obtain⟨o2,ho2⟩:=hops j h5;obtain⟨v,hv1,hv2⟩:=h3 j o2 d h5 (hb j h6).2 ho2 (by simpa[CE,ho2] using hd);refine⟨v,hv1,?_⟩;rw[hspq u j h5];exact hv2)) (λd hd q hq=>ho5 d q hq (λwr hwr hdw=>by
     cases hS:S wr with
     | false=>rfl
     | true=>have:=ho6 wr i d hwr hi hdw hd hS;rw[this] at hun;cases hun))
  by_cases hi0:i=i0
  ·subst hi0;rw[Aai rfl] at hat;rw[hun] at h1;have h1':St c H Z w:=by simpa using h1
   have key:=λK' hK'=>hat u a w Z K' hag' h1' hK';have h5:∀u' v w' Z',Fz.le Z Z'→((Gf sp i).r u').p Z' v→St c (H1 u') Z' w'→K (a.put o.dst v) w':=λu' v w' Z' hz hpv hs'=>by
    refine hK _ _ ⟨u',Z',by simpa using hs',hagr v Z' hz,hvals v Z' u' hz (λj hj hji hSj=>?_) (λ_=>hpv),λj _ _ _=>by simp,hold' Z' hz v,hord⟩;refine hst.at (hsa j hj) ?_ u' u
    cases hd:(Gf sp j).dyn with
    | false=>rfl
    | true=>have:=hx j hj hd hSj;rw[this] at hun;cases hun
   refine⟨λ_=>(key K h5).2,λhw'=>?_⟩;rw[(key K h5).1] at hw';cases hw'
  ·rw[Aaa hi0] at hat;refine hat u _ (by split;exact .inr rfl;exact .inl rfl) a w Z K hag' h1 (λv w' Z' hz hp hst'=>hK _ _ ⟨u,Z',?_,hagr v Z' hz,hvals v Z' u hz (λ_ _ _ _=>rfl) (λ_=>hp),λj hj hd hSj=>?_,hold' Z' hz v,hord⟩)
   ·have hiS:(i0 ==i||S i0)=S i0:=by
     have:(i0 ==i)=false:=by simpa using λe=>hi0 e.symm
     rw[this];rfl
    show St c (if (i0 ==i||S i0)=true then H1 u else H) Z' w';rw[hiS];exact hst'
   ·have hii:(i0 ==i)=false:=by simpa using λe=>hi0 e.symm
    show(i0 ==i||S i0)=true;rw[hii,Z6]
    by_cases hji:j=i
    ·subst hji;have h7:=b4 j hj;rw[hdyn j hj,hd] at h7;simp only[Z2,Z6,ZX,beq_iff_eq,hi0,false_or,List.any_eq_true,Zu,Zr] at h7;obtain⟨e,he,heN,h8⟩:=h7;rw[Zv,ho,ZM] at he;have hSe:=(hb e he).2;rcases h8 with h8 | h8
     ·subst h8;exact hSe
     ·rw[hdyn e heN] at h8;exact hx e heN h8 hSe
    ·exact hx j hj hd (by simpa[hji] using hSj)
 ·obtain⟨u,Z,h1,h2,h3,_,_,_⟩:=hI;have hsl:(Yc sp u).length=N:=by simp[Yc,hsp]
  refine h u a w Z (Pn h2 _ _ 0 (λt o s d ht hs hd=>?_)) (by simpa using h1);have htN:t<N:=by have:=(List.getElem?_eq_some_iff.1 hs).1;omega
  have hs':s = { deps:=(Gf sp t).deps,r:=(Gf sp t).r u }:=by
   simp only[Yc,ZK,hsa t htN,Option.map_some,Option.some.injEq] at hs;exact hs.symm
  subst hs';rw[ZT];exact h3 t o d htN rfl (by rw[← hget t htN];exact ht) hd
theorem Mr [Inhabited U]{id:Nat}{ops:List Oper}(N i0:Nat)(ks0 ksw:List Nat)(sp:List (Sx U))(H1:U→List Ent)(hob:JW P n c ops.toArray Q ops sp l0 lw i0 H H1 0 (ops.take N))(h:∀u,WL P n c ops.toArray Q (ops.drop N) (L9 (λ_=>0) (ops.take N) (Yc sp u) 0 l0) (H1 u))
  (h0:Kp ks0 l l0:=by repeat (first | exact N8 | (apply Ld;rfl) | (apply LJ;rfl))) (hw:Kp ksw l lw:=by repeat (first | exact N8 | (apply Ld;rfl) | (apply LJ;rfl))) (hm:P.follows .mixedOrders=true:=by kernel_rfl) (hB:YR n ops N i0 (Ex l0) (sp.map (·.deps)) (sp.map (·.dyn)) (sp.map (·.old))=true:=by kernel_rfl)
  (hsp:sp.length=N:=by rfl) (hst:Nq sp:=by repeat (first | exact YL | apply YN | apply YM)):WC P n c (.region id ops.toArray true) Q l H:=VU N i0 sp hm hB h0.one hw.one hsp hst hob h
theorem Is {all rest:List Oper}{d:Nat}{op:Op}{ty:TypeId}{pos:String}{af:Array Edge}{i:Nat}(hr:∀{u H},Be P n c (EI lw (Gf sp i).old (BV all (TB sp u) (Gf sp i).deps l0)) H { dst:=some d,op:=op,type:=ty,pos:=pos,after:=af,guard:=none } ((Gf sp i).r u))(h:JW P n c opsA Q all sp l0 lw i0 H H1 (i+1) rest)(hne:Nat.beq i i0=false:=by rfl) :
  JW P n c opsA Q all sp l0 lw i0 H H1 i ({ dst:=some d,op:=op,type:=ty,pos:=pos,after:=af,guard:=none }::rest):=by
 refine⟨?_,h⟩;rw[Aaa (λe=>by subst e;simp at hne)];exact λu H _=>DM hr
theorem Xr {all rest:List Oper}{o:Oper}{i:Nat}(hr:∀{u H},DG P n c opsA Q (EI lw (Gf sp i).old (BV all (TB sp u) (Gf sp i).deps l0)) H o ((Gf sp i).r u) H)(h:JW P n c opsA Q all sp l0 lw i0 H H1 (i+1) rest)(hne:Nat.beq i i0=false:=by rfl):JW P n c opsA Q all sp l0 lw i0 H H1 i (o::rest):=by
 refine⟨?_,h⟩;rw[Aaa (λe=>by subst e;simp at hne)];exact λu H _=>hr
theorem RN {all rest:List Oper}{o:Oper}{i:Nat}(hr:∀{u},DG P n c opsA Q (EI lw (Gf sp i).old (BV all (TB sp u) (Gf sp i).deps l0)) H o ((Gf sp i).r u) H)(hr1:∀{u},DG P n c opsA Q (EI lw (Gf sp i).old (BV all (TB sp u) (Gf sp i).deps l0)) (H1 u) o ((Gf sp i).r u) (H1 u))(h:JW P n c opsA Q all sp l0 lw i0 H H1 (i+1) rest)(hne:Nat.beq i i0=false:=by rfl):JW P n c opsA Q all sp l0 lw i0 H H1 i (o::rest):=by
 refine⟨?_,h⟩;rw[Aaa (λe=>by subst e;simp at hne)];intro u H' hH';rcases hH' with e | e
 ·subst e;exact hr
 ·subst e;exact hr1
theorem Yg {all rest:List Oper}{o:Oper}(hr:∀{u},YH P n c opsA Q (EI lw (Gf sp i0).old (BV all (TB sp u) (Gf sp i0).deps l0)) H o (Gf sp i0).r H1)(h:JW P n c opsA Q all sp l0 lw i0 H H1 (i0+1) rest):JW P n c opsA Q all sp l0 lw i0 H H1 i0 (o::rest):=by
 refine⟨?_,h⟩;rw[Aai rfl];exact λu=>hr
theorem Yh {all:List Oper}{i:Nat}:JW P n c opsA Q all sp l0 lw i0 H H1 i []:=trivial
end
section
variable {P : Program} {n : Nat} {c : Cx} {opsA : Array Oper} {Q : Exit → Act → World → Prop} {l : Fr} {H : List Ent} {d : Nat} {x y : Operand} {ty t e : TypeId} {pos : String} {af : Array Edge} {v : Value} {sz : Nat}
theorem Iy {α:Type}{xs ys:List α}{enc:α→List Rp}{i:Nat}{inf:TypeInfo}{z:Value}{bytes:Nat}(ht:P.underlying t=some (.slice e))(hinf:P.info? e=some inf)(hz:inf.zero=some z)(hsize:inf.size=sz)(hby:inf.bytes=bytes)(hzs:z.cells.size=sz)(hsz:Nat.blt 0 sz=true)(hbp:Nat.blt 0 bytes=true)
  (hx:ev l x=some (rv v)) (hi:H[i]? =some (.row v e sz (xs.map enc))) (hy:HY P n c l H y sz ys.length (ys.map enc).flatten) (henc:∀z,(enc z).length=sz) (hone:∀z,(enc z).all (·.one)=true) (hg:Dp bytes (xs.length+ys.length)=true) :
  YH P n c opsA Q l H { dst:=some d,op:=.call { callee:=.builtin .append,args:=#[x,y],argTypes:=#[t,t] },type:=ty,pos:=pos,after:=af,guard:=none } (λv'=>rv v') (λv'=>.row v' e sz ((xs++ys).map enc)::H.eraseIdx i):=λa w Z K ha hw hK=>by
  obtain⟨h0,us,h1,h2⟩:=hw.ent hi;obtain⟨ws,h3,h4⟩:=hy a w Z ha hw;have hsz':0<sz:=by simpa using hsz
  have hbp':0<bytes:=by simpa using hbp
  have hb:(xs.length+ys.length)*bytes≤140737488355328:=by simpa[Dp] using hg
  have hle:xs.length+ys.length≤(xs.length+ys.length)*bytes:=Nat.le_mul_of_pos_right _ hbp';have hws:∀y∈ws,y.oneCell'=true:=Bd.one (rs:=(ys.map enc).flatten) (by
   rw[ZQ];intro r hr;obtain⟨cl,hcl,hrc⟩:=List.mem_flatten.1 hr;obtain⟨z',_,rfl⟩:=List.mem_map.1 hcl;exact List.all_eq_true.1 (hone z') r hrc) h3
  have hxl:(xs.map enc).length=xs.length:=Zw ..;rw[hxl] at h1;obtain⟨v',w',e1,e2,e3,e4⟩:=GT (P:=P) ty ht hinf hz hsize hby hzs hsz' h1 h4 hws hb (by simp only[maxLen];omega);have hent:(Ent.row v' e sz ((xs++ys).map enc)).holds Z w':=⟨λcl hcl=>by obtain⟨z',_,rfl⟩:=List.mem_map.1 hcl;exact henc z',us++ws,by simpa using e2,by rw[Aaf,List.flatten_append];exact h2.append h3⟩
  have hst:=hw.callF hi (St.one (e':=.row v' e sz ((xs++ys).map enc)) (M:=(Ent.row v e sz (xs.map enc)).foot) hw.frz hw.env hw.emono e3.os e3.tape e3.output e3.size (λk hk hne=>e3.block k hk (λe1=>hne (by simp[Ent.foot,← e1])))
   (hw.zdis _ (Z4 hi)) hent (λk hk=>by
    simp only[Ent.foot,Option.mem_toList] at hk ⊢;rcases e4 with e4 | e4
    ·exact .inl (e4▸hk)
    ·exact .inr (e4 k hk)))
  refine⟨by simp[Region.wanted],?_⟩;unfold Oper.wp;rw[show(execOp a.eval { dst:=some d,op:=.call { callee:=.builtin .append,args:=#[x,y],argTypes:=#[t,t] },type:=ty,pos:=pos,after:=af,guard:=none }).run P w = .ok (.value v') w' from by simp[execOp,resolve,invoke,builtin,ha.eval hx,e1]];exact hK v' v' w' Z (Fz.le.refl _) rfl hst
end
set_option maxRecDepth 100000
set_option maxHeartbeats 4000000
theorem MX:∃inf,Tryz.prog.info? 9=some inf∧inf.zero=some (.string ⟨#[]⟩)∧inf.size=1∧inf.bytes=16:=by
  have key:(Tryz.prog.info? 9).map (λi=>(i.zero,i.size,i.bytes))=some (some (.string ⟨#[]⟩),1,16):=by kernel_rfl
  obtain⟨inf,h1,h2⟩:=Option.map_eq_some_iff.1 key;simp only[Prod.mk.injEq] at h2;exact⟨inf,h1,h2.1,h2.2.1,h2.2.2⟩
theorem Vh (F:Nat)  (r:(List Int))(h:MZ F=some r):Fn Tryz.prog GE 156 [] [] (λR H=>R=B9 (Ax (rI .u32) r)∧H=[]):=by
 refine enter (n:=26) Tryz.func156 Aa Tryz.ntmps156 Aa (λw Z=>?_);unfold MZ at h;refine Al (BR (cs:=Ax (rI .u32) (List.replicate 256 (0:Int))) Tryz.zeroValue191 (by kernel_rfl) Aa (λb1=>?_));refine Bk (BR (cs:=Ax (rI .u32) (List.replicate 256 (0:Int))) Tryz.zeroValue191 (by kernel_rfl) Aa (λb2=>?_));refine Au (Aq (Al (wv (r:=As 0) (Aw Aa) (Au (AO (ob h λhs ht hu=>B4 (S:=Nat×(Int×(List Int))×(Unit)) (V:=((List Int))×(Unit)) 0 (λσ=>Cz (λσ=>EE F σ.1 σ.2) σ.1 σ.2.1=some hs) (λσ=>[(0,rP b1 0),(1,rP b2 0),(5,As σ.2.1.1)]) (λσ=>[.blk b2 (Ax (rI .u32) σ.2.1.2) 191,.blk b1 (Ax (rI .u32) (List.replicate 256 (0:Int))) 191]) (λσ=>σ.1) (F,(0,List.replicate 256 (0:Int)),()) ht (AL.c Aa (AL.c Aa (AL.c Aa AL.nil))) (sC (sC sN)) (λσ=>Hy σ.1=some r) (λσ=>[(0,rP b1 0),(1,rP b2 0)]) (λσ=>[.blk b2 (Ax (rI .u32) σ.1) 191,.blk b1 (Ax (rI .u32) (List.replicate 256 (0:Int))) 191]) ?_ ?_))))))
 ·rintro⟨hR,⟨ha,hb⟩,⟨⟩⟩ hw;refine Cf (l':=[(0,rP b1 0),(1,rP b2 0),(5,As ha)]) (H':=[.blk b2 (Ax (rI .u32) hb) 191,.blk b1 (Ax (rI .u32) (List.replicate 256 (0:Int))) 191]) Aa Aa ?_;obtain⟨hx,rfl,hl,hh,ho⟩:=CO hw;replace hh:EE F ha hb=some hl:=hh;unfold EE at hh;refine Al (wv (CZ Aa Aa) (Au (Aq (cz hh Aa (λhy hz=>?_) (λhy h0=>?_)))))
  ·refine A3 (AT (Aq (AO (Al (wm Aa (wa Aa (Bk (wm Aa (wv (r:=rI .u32 (IntKind.wrap .u32 ha)) (Ci ⟨_,T9⟩ Ib Aa) (wa Aa (Au (Aq (Al (wv (r:=As 0) (Aw Aa) (Au (AO (ob hz λh1 h2 h3=>B4 (S:=Nat×(Int×Int)×(Unit)) (V:=(Int×Int×Bool)×(Unit)) 2 (λσ=>Cz (λσ=>ED σ.1 σ.2) σ.1 σ.2.1=some h1) (λσ=>[(0,rP b1 0),(1,rP b2 0),(2,As ha),(3,rI .u32 σ.2.1.1),(5,As ha),(10,As σ.2.1.2)]) (λσ=>[.blk b2 (Ax (rI .u32) hb) 191,.blk b1 (Ax (rI .u32) (List.replicate 256 (0:Int))) 191]) (λσ=>σ.1) (F,(IntKind.wrap .u32 ha,0),()) h2 (AL.c Aa (AL.c5 Aa Aa Aa Aa Aa AL.nil)) (sC (sC sN)) (λσ=>Hx ha hb σ.1.1 σ.1.2.1 σ.1.2.2=some hl) (λσ=>[(0,rP b1 0),(1,rP b2 0),(2,As ha),(3,rI .u32 σ.1.1),(5,As ha),(10,As σ.1.2.1),(11,rB σ.1.2.2)]) (λσ=>[.blk b2 (Ax (rI .u32) hb) 191,.blk b1 (Ax (rI .u32) (List.replicate 256 (0:Int))) 191]) ?_ ?_)))))))))))))))))
   ·rintro⟨hS,⟨hd,hf⟩,⟨⟩⟩ h4;refine Cf (l':=[(0,rP b1 0),(1,rP b2 0),(2,As ha),(3,rI .u32 hd),(5,As ha),(10,As hf)]) (H':=[.blk b2 (Ax (rI .u32) hb) 191,.blk b1 (Ax (rI .u32) (List.replicate 256 (0:Int))) 191]) Aa Aa ?_;obtain⟨h5,rfl,h6,hi,hp⟩:=CO h4;replace hi:ED hd hf=some h6:=hi;unfold ED at hi;refine Al (wv (CZ Aa Aa) (Au (Aq (cz hi Aa (λh7 h8=>?_) (λh7 h9=>?_)))))
    ·refine A3 (AT (AR [(0,rP b1 0),(1,rP b2 0),(2,As ha),(3,rI .u32 (bif decide ((N9 .u32 hd 1)=1) then EQ .u32 (Cw .u32 hd 1) 3988292384 else Cw .u32 hd 1)),(5,As ha),(10,As hf)] [.blk b2 (Ax (rI .u32) hb) 191,.blk b1 (Ax (rI .u32) (List.replicate 256 (0:Int))) 191] ?_ ?_))
     ·refine AO (Al (wm Aa (wv (r:=rI .u32 (N9 .u32 hd 1)) (Yo Aa Aa) (wa Aa (Bk (wm Aa (wv (r:=rI .u32 (Cw .u32 hd 1)) (NR Aa Aa (by decide)) (wa Aa (Bk (wm Aa (wv (BN Aa Aa) (Au (D5 (b:=decide ((N9 .u32 hd 1)=1)) Aa (λhm=>?_) (λhm=>?_))))))))))))))
      ·refine At (wm Aa (wv (r:=rI .u32 (EQ .u32 (Cw .u32 hd 1) 3988292384)) (U4 Aa Aa) (wa Aa (Av (AH ?_)))));exact CF hm
      ·refine A3 (AH ?_);exact CF hm
     refine At (ck h8 λhA hB=>wv (BJ Aa Aa hA) (wm Aa (Av ?_)));have hC:=B8 hB hp;exact A5 (AK (h5,((bif decide ((N9 .u32 hd 1)=1) then EQ .u32 (Cw .u32 hd 1) 3988292384 else Cw .u32 hd 1),hf+1),()) ⟨hC,Z3 _⟩ (AL.c Aa (AL.c5 Aa Aa Aa Aa Aa AL.nil)) (sC (sC sN)))
    ·refine BB (A9 ?_);have hD:=Cv h9 hp h3;exact A9 (Bh (AK ((hd,hf,decide (hf<8)),()) hD (AL.c Aa (AL.c Aa (AL.c5 Aa Aa Aa Aa Aa AL.nil))) (sC (sC sN))))
   ·rintro⟨⟨hg,hq,hr⟩,⟨⟩⟩ hj;refine CJ (l':=[(0,rP b1 0),(1,rP b2 0),(2,As ha),(3,rI .u32 hg),(5,As ha),(10,As hq),(11,rB hr)]) (H':=[.blk b2 (Ax (rI .u32) hb) 191,.blk b1 (Ax (rI .u32) (List.replicate 256 (0:Int))) 191]) Aa Aa ?_;replace hj:Hx ha hb hg hq hr=some hl:=hj;unfold Hx at hj;refine Bf (AT (At (wm Aa (wm Aa (ck hj λhE hG=>wv (r:=rv (.pointer (some ⟨b2,Bi ha,none⟩))) (UC Tryz.underlying191 Tryz.sizeOf158 Aa Aa hE) (ck hG λhH hI=>SG (enc:=(rI .u32)) (ys:=hb) (v:=hg) (i:=0) Tryz.sizeOf158 Aa Aa (Bw Aa) Aa hH (H':=[.blk b2 (Ax (rI .u32) (List.set hb (Bi ha) hg)) 191,.blk b1 (Ax (rI .u32) (List.replicate 256 (0:Int))) 191]) Aa (Av (AH (AT (At (ck hI λhJ hK=>wv (BJ Aa Aa hJ) (wm Aa (Av ?_)))))))))))));have hL:=B8 hK ho;exact A5 (AK (hx,(ha+1,List.set hb (Bi ha) hg),()) ⟨hL,Z3 _⟩ (AL.c Aa (AL.c Aa (AL.c Aa AL.nil))) (sC (sC sN)))
  ·refine BB (A9 ?_);have hN:=Cv h0 ho hu;exact A9 (Bh (AK (hb,()) hN (AL.c Aa (AL.c Aa AL.nil)) (sC (sC sN))))
 ·rintro⟨he,⟨⟩⟩ hk;refine CJ (l':=[(0,rP b1 0),(1,rP b2 0)]) (H':=[.blk b2 (Ax (rI .u32) he) 191,.blk b1 (Ax (rI .u32) (List.replicate 256 (0:Int))) 191]) Aa Aa ?_;replace hk:Hy he=some r:=hk;unfold Hy at hk;refine Bf (AT (Al (ck hk λhn hO=>wv (r:=B9 (Ax (rI .u32) he)) (QQ (enc:=(rI .u32)) (ys:=he) (i:=0) Tryz.isAgg191 R3 Aa Aa hn) (ck hO λhP hQ=>Lu (enc:=(rI .u32)) (ys:=List.replicate 256 (0:Int)) (zs:=he) (i:=1) R3 Aa Aa (λ_=>Aa) Aa hP hn (H':=[.blk b2 (Ax (rI .u32) he) 191,.blk b1 (Ax (rI .u32) he) 191]) Aa (Au (A0 ?_))))));obtain rfl:=A1 hQ;exact Az (BW Tryz.results156 (Hm (i:=1) Tryz.isAgg191 R3 Aa Aa (W4 hn))) (sS (sS sN)) ⟨Aa,Aa⟩
theorem Vi (F:Nat)(s:An)(r:Int)(h:Tp F s=some r):Fn Tryz.prog GE 122 [rS s] [] (λR H=>R=rI .u32 r∧H=[]):=by
 refine enter (n:=26) Tryz.func122 Aa Tryz.ntmps122 Aa (λw Z=>?_);unfold Tp at h;refine Al (wa Aa (Bk (ob h λr1 e3 h2=>Di Tryz.call156 (Vh F r1 e3) Aa (BR (cs:=Ax (rI .u32) (List.replicate 256 (0:Int))) Tryz.zeroValue191 (by kernel_rfl) Aa (λb4=>?_)))));refine ck h2 λg5 h6=>ck h6 λg7 h8=>Lu (enc:=(rI .u32)) (ys:=List.replicate 256 (0:Int)) (zs:=r1) (i:=0) R3 Aa Aa (λ_=>Aa) Aa g5 g7 (H':=[.blk b4 (Ax (rI .u32) r1) 191]) Aa (Bk (wa Aa (Au (Aq (Al (wm Aa (wv (BA C4 Aa) (wv (r:=As 0) (Aw Aa) (Au (AO (ob h8 λhh hi hj=>B4 (S:=Nat×(Int×Int)×(Unit)) (V:=(Int)×(Unit)) 0 (λσ=>Cz (λσ=>Gd s r1 σ.1 σ.2) σ.1 σ.2.1=some hh) (λσ=>[(0,rS s),(2,rI .u32 0),(3,rP b4 0),(4,rI .u32 σ.2.1.1),(8,As (s.length:Int)),(9,As σ.2.1.2)]) (λσ=>[.blk b4 (Ax (rI .u32) r1) 191]) (λσ=>σ.1) (F,(4294967295,0),()) hi (AL.c Aa (AL.c5 Aa Aa Aa Aa Aa AL.nil)) (sC sN) (λσ=>Mc σ.1=some r) (λσ=>[(2,rI .u32 0),(4,rI .u32 σ.1)]) (λσ=>[]) ?_ ?_)))))))))))
 ·rintro⟨h1,⟨ha,hb⟩,⟨⟩⟩ hk;refine Cf (l':=[(0,rS s),(2,rI .u32 0),(3,rP b4 0),(4,rI .u32 ha),(8,As (s.length:Int)),(9,As hb)]) (H':=[.blk b4 (Ax (rI .u32) r1) 191]) Aa Aa ?_;obtain⟨hl,rfl,hm,hd,hg⟩:=CO hk;replace hd:Gd s r1 ha hb=some hm:=hd;unfold Gd at hd;refine Al (wv (CZ Aa Aa) (Au (Aq (cz hd Aa (λhn ho=>?_) (λhn hp=>?_)))))
  ·refine A3 (AT (Aq (AO (Al (wm Aa (wa Aa (Au (At (wm Aa (wv (r:=rI .u8 (IntKind.wrap .u8 ha)) (Ci ⟨_,Ib⟩ Ov Aa) (wm Aa (wm Aa (ck ho λhq hr=>wv (B1 C4 Aa Aa hq) (wv (r:=rI .u8 (EQ .u8 (IntKind.wrap .u8 ha) (Bu s hb))) (U4 Aa Aa) (ck hr λhs ht=>wv (r:=rv (.pointer (some ⟨b4,Bi (EQ .u8 (IntKind.wrap .u8 ha) (Bu s hb)),none⟩))) (UC Tryz.underlying191 Tryz.sizeOf158 Aa Aa hs) (ck ht λhu hw=>wv (r:=rI .u32 (Ap r1 (EQ .u8 (IntKind.wrap .u8 ha) (Bu s hb)))) (UA (enc:=(rI .u32)) (ys:=r1) (i:=0) Tryz.isAgg158 Aa Aa hu) (wm Aa (wv (r:=rI .u32 (Cw .u32 ha 8)) (NR Aa Aa (by decide)) (wv (r:=rI .u32 (EQ .u32 (Ap r1 (EQ .u8 (IntKind.wrap .u8 ha) (Bu s hb))) (Cw .u32 ha 8))) (U4 Aa Aa) (wa Aa ?_))))))))))))))))))));refine Av (AH (AT (At (ck hw λhx hy=>wv (BJ Aa Aa hx) (wm Aa (Av ?_))))));have hz:=B8 hy hg;exact A5 (AK (hl,(EQ .u32 (Ap r1 (EQ .u8 (IntKind.wrap .u8 ha) (Bu s hb))) (Cw .u32 ha 8),hb+1),()) ⟨hz,Z3 _⟩ (AL.c Aa (AL.c5 Aa Aa Aa Aa Aa AL.nil)) (sC sN))
  ·refine BB (A9 ?_);have h0:=Cv hp hg hj;exact A9 (Bh (AK (ha,()) h0 (AL.c Aa (AL.c Aa AL.nil)) (sS sN)))
 ·rintro⟨hf,⟨⟩⟩ he;refine CJ (l':=[(2,rI .u32 0),(4,rI .u32 hf)]) (H':=[]) Aa Aa ?_;replace he:Mc hf=some r:=he;unfold Mc at he;refine Bf (AT (Al (wm Aa (wv (r:=rI .u32 (Tn .u32 hf)) (Wx Aa) (wa Aa (Au (A0 ?_)))))));obtain rfl:=A1 he;exact Az (BW Tryz.results122 (AI Aa)) sN ⟨Aa,Aa⟩
theorem Ok (n:Int)(r:An)(h:Jt n=some r):Fn Tryz.prog GE 147 [rI .u32 n] [] (λR H=>R=rS r∧H=[]):=by
 refine enter (n:=16) Tryz.func147 Aa Tryz.ntmps147 Aa (λw Z=>?_);unfold Jt at h;refine Al (wv (r:=rS ([]:An)) (A7 Aa) (Bk (wm Aa (wv (r:=rI .u32 (Cw .u32 n 24)) (NR Aa Aa (by decide)) (wv (r:=rI .u8 (IntKind.wrap .u8 (Cw .u32 n 24))) (Ci ⟨_,Ib⟩ Ov Aa) (wm Aa (wv (r:=rI .u32 (Cw .u32 n 16)) (NR Aa Aa (by decide)) (wv (r:=rI .u8 (IntKind.wrap .u8 (Cw .u32 n 16))) (Ci ⟨_,Ib⟩ Ov Aa) (wm Aa (wv (r:=rI .u32 (Cw .u32 n 8)) (NR Aa Aa (by decide)) (wv (r:=rI .u8 (IntKind.wrap .u8 (Cw .u32 n 8))) (Ci ⟨_,Ib⟩ Ov Aa) (wm Aa (wv (r:=rI .u8 (IntKind.wrap .u8 n)) (Ci ⟨_,Ib⟩ Ov Aa) (Ba (ys:=([IntKind.wrap .u8 (Cw .u32 n 24),IntKind.wrap .u8 (Cw .u32 n 16),IntKind.wrap .u8 (Cw .u32 n 8),IntKind.wrap .u8 n]:List Int)) (enc:=Bp) (css:=[[rI .u8 (IntKind.wrap .u8 (Cw .u32 n 24))],[rI .u8 (IntKind.wrap .u8 (Cw .u32 n 16))],[rI .u8 (IntKind.wrap .u8 (Cw .u32 n 8))],[rI .u8 (IntKind.wrap .u8 n)]]) (xs:=[.tmp 5,.tmp 8,.tmp 11,.tmp 13]) DO XV XU Aa Aa Aa ⟨DH.one Aa (Up.refl _),DH.one Aa (Up.refl _),DH.one Aa (Up.refl _),DH.one Aa (Up.refl _),trivial⟩ Aa D2 Aa Aa Aa (λb1=>?_)))))))))))))));refine wv (r:=rS (OG ([IntKind.wrap .u8 (Cw .u32 n 24),IntKind.wrap .u8 (Cw .u32 n 16),IntKind.wrap .u8 (Cw .u32 n 8),IntKind.wrap .u8 n]:List Int))) (RU (xs:=([IntKind.wrap .u8 (Cw .u32 n 24),IntKind.wrap .u8 (Cw .u32 n 16),IntKind.wrap .u8 (Cw .u32 n 8),IntKind.wrap .u8 n]:List Int)) (i:=0) DO C4 Ov Aa Aa) (wa Aa (Au (A0 ?_)));obtain rfl:=A1 h;exact Az (BW Tryz.results147 (AI Aa)) (sS sN) ⟨Aa,Aa⟩
theorem Oj (s:An)(r:Int)(h:Md s=some r):Fn Tryz.prog GE 121 [rS s] [] (λR H=>R=rI .u32 r∧H=[]):=by
 refine enter (n:=21) Tryz.func121 Aa Tryz.ntmps121 Aa (λw Z=>?_);unfold Md at h;refine Al (wa Aa (Au (Aq (ck h λg1 h2=>ck h2 λg3 h4=>ck h4 λg5 h6=>ck h6 λg7 h8=>Dm [0] [⟨[],rS s,0⟩,⟨[0],rI .u8 (Bu s 0),0⟩,⟨[1],rI .u32 (IntKind.wrap .u32 (Bu s 0)),0⟩,⟨[2],rI .u32 (Dj .u32 (IntKind.wrap .u32 (Bu s 0)) 24),0⟩,⟨[],rS s,0⟩,⟨[4],rI .u8 (Bu s 1),0⟩,⟨[5],rI .u32 (IntKind.wrap .u32 (Bu s 1)),0⟩,⟨[6],rI .u32 (Dj .u32 (IntKind.wrap .u32 (Bu s 1)) 16),0⟩,⟨[3,7],rI .u32 (It .u32 (Dj .u32 (IntKind.wrap .u32 (Bu s 0)) 24) (Dj .u32 (IntKind.wrap .u32 (Bu s 1)) 16)),0⟩,⟨[],rS s,0⟩,⟨[9],rI .u8 (Bu s 2),0⟩,⟨[10],rI .u32 (IntKind.wrap .u32 (Bu s 2)),0⟩,⟨[11],rI .u32 (Dj .u32 (IntKind.wrap .u32 (Bu s 2)) 8),0⟩,⟨[8,12],rI .u32 (It .u32 (It .u32 (Dj .u32 (IntKind.wrap .u32 (Bu s 0)) 24) (Dj .u32 (IntKind.wrap .u32 (Bu s 1)) 16)) (Dj .u32 (IntKind.wrap .u32 (Bu s 2)) 8)),0⟩,⟨[],rS s,0⟩,⟨[14],rI .u8 (Bu s 3),0⟩,⟨[15],rI .u32 (IntKind.wrap .u32 (Bu s 3)),0⟩,⟨[13,16],rI .u32 (It .u32 (It .u32 (It .u32 (Dj .u32 (IntKind.wrap .u32 (Bu s 0)) 24) (Dj .u32 (IntKind.wrap .u32 (Bu s 1)) 16)) (Dj .u32 (IntKind.wrap .u32 (Bu s 2)) 8)) (IntKind.wrap .u32 (Bu s 3))),0⟩,⟨[17],rI .u32 (It .u32 (It .u32 (It .u32 (Dj .u32 (IntKind.wrap .u32 (Bu s 0)) 24) (Dj .u32 (IntKind.wrap .u32 (Bu s 1)) 16)) (Dj .u32 (IntKind.wrap .u32 (Bu s 2)) 8)) (IntKind.wrap .u32 (Bu s 3))),0⟩] [2] ?_ ?_))))
 ·refine oq (Aw Aa) (oq (B1 C4 Aa Aa g1) (oq (Ci ⟨_,Ov⟩ Ib Aa) (oq (RR Aa Aa (by decide)) (oq (Aw Aa) (oq (B1 C4 Aa Aa g3) (oq (Ci ⟨_,Ov⟩ Ib Aa) (oq (RR Aa Aa (by decide)) (oq (Wt Aa Aa) (oq (Aw Aa) (oq (B1 C4 Aa Aa g5) (oq (Ci ⟨_,Ov⟩ Ib Aa) (oq (RR Aa Aa (by decide)) (oq (Wt Aa Aa) (oq (Aw Aa) (oq (B1 C4 Aa Aa g7) (oq (Ci ⟨_,Ov⟩ Ib Aa) (oq (Wt Aa Aa) (oq (A7 Aa) ?_))))))))))))))))));exact C9
 refine AT (A0 ?_);obtain rfl:=A1 h8;exact Az (BW Tryz.results121 (AI Aa)) sN ⟨Aa,Aa⟩
theorem WH (F:Nat)(fields:(List An))(r:An×Int)(h:Qm F fields=some r):Fn Tryz.prog GE 81 [AU 1 (Ax eS fields)] [] (λR H=>R=Cn [rS r.1,As r.2]∧H=[]):=by
 refine enter (n:=39) Tryz.func81 Aa Tryz.ntmps81 Aa (λw Z=>?_);unfold Qm at h;refine Al (wv (r:=rS ([]:An)) (A7 Aa) (wa Aa (Au (Aq (Al (wm Aa (wv (Bt (ys:=fields) (enc:=eS) Ct Aa) (wv (D4 Aa Aa) (Au (cz h Aa (λc1 h2=>?_) (λc1 h3=>?_)))))))))))
 ·refine Al (wv (r:=rS ([]:An)) (A7 Aa) (wa Aa (Au (A0 (Af ?_)))));obtain rfl:=A1 h2;exact Az (Dq Tryz.results81 (AI Aa) (AI Aa)) sN ⟨Aa,Aa⟩
 ·refine A3 (AT (Al (wm Aa (wv (Bt (ys:=fields) (enc:=eS) Ct Aa) (wv (r:=rI .u8 (IntKind.wrap .u8 (fields.length:Int))) (Ci ⟨_,T9⟩ Ov Aa) (Ba (ys:=([IntKind.wrap .u8 (fields.length:Int)]:List Int)) (enc:=Bp) (css:=[[rI .u8 (IntKind.wrap .u8 (fields.length:Int))]]) (xs:=[.tmp 12]) DO XV XU Aa Aa Aa ⟨DH.one Aa (Up.refl _),trivial⟩ Aa D2 Aa Aa Aa (λb4=>?_)))))));refine wa Aa (Au (Aq (Al (wm Aa (wv (Bt (ys:=fields) (enc:=eS) Ct Aa) (wv (r:=As 0) (Aw Aa) (Au (AO (ob h3 λhk hl hi=>B4 (S:=Nat×((List Int)×Int)×(Value)) (V:=((List Int))×(Value)) 0 (λσ=>Cz (λσ=>EO fields σ.1 σ.2) σ.1 σ.2.1=some hk) (λσ=>[(2,rS ([]:An)),(3,As 0),(4,rv σ.2.2),(14,AU 1 (Ax eS fields)),(15,As (fields.length:Int)),(16,As σ.2.1.2)]) (λσ=>[.row σ.2.2 5 1 (Ax Bp σ.2.1.1)]) (λσ=>σ.1) (F,(([IntKind.wrap .u8 (fields.length:Int)]:List Int),0),(.slice (some ⟨b4,0,none⟩) 1 1)) hl (AL.c Aa (AL.c5 Aa Aa Aa Aa Aa AL.nil)) (sC sN) (λσ=>KE σ.1=some r) (λσ=>[(2,rS ([]:An)),(3,As 0),(4,rv σ.2)]) (λσ=>[.row σ.2 5 1 (Ax Bp σ.1)]) ?_ ?_)))))))))
  ·rintro⟨h9,⟨hb,ha⟩,hg⟩ hm;refine Cf (l':=[(2,rS ([]:An)),(3,As 0),(4,rv hg),(14,AU 1 (Ax eS fields)),(15,As (fields.length:Int)),(16,As ha)]) (H':=[.row hg 5 1 (Ax Bp hb)]) Aa Aa ?_;obtain⟨hn,rfl,ho,hd,hh⟩:=CO hm;replace hd:EO fields hb ha=some ho:=hd;unfold EO at hd;refine Al (wv (CZ Aa Aa) (Au (Aq (cz hd Aa (λhp hq=>?_) (λhp hr=>?_)))))
   ·refine A3 (AT (Aq (AO (Al (ck hq λhs ht=>wv (BT (enc:=eS) (ys:=fields) Ct Cs Aa Aa hs) (wv (BD C7 Aa Aa) (wa Aa (Au (Aq (Al (wm Aa (wv (BA C4 Aa) (wv (D4 Aa Aa) (Au (cz ht Aa (λc75 hu=>?_) (λc75 hw=>?_))))))))))))))))
    ·refine Al (wv (r:=rS ([]:An)) (A7 Aa) (wa Aa (Au (A0 (Af (AD (Af (Af (Bg ?_)))))))));have hx:=BG hu hh hi;refine AD (Af ?_);obtain rfl:=A1 hx;exact Az (Dq Tryz.results81 (AI Aa) (AI Aa)) (sS sN) ⟨Aa,Aa⟩
    ·refine A3 (AT (Al (wm Aa (wm Aa (wv (BA C4 Aa) (wv (r:=As (Cw .i64 ((Ap fields ha).length:Int) 8)) (NR Aa Aa (by decide)) (wv (r:=rI .u8 (IntKind.wrap .u8 (Cw .i64 ((Ap fields ha).length:Int) 8))) (Ci ⟨_,T9⟩ Ov Aa) (wm Aa (wv (BA C4 Aa) (wv (r:=rI .u8 (IntKind.wrap .u8 ((Ap fields ha).length:Int))) (Ci ⟨_,T9⟩ Ov Aa) (Ba (ys:=([IntKind.wrap .u8 (Cw .i64 ((Ap fields ha).length:Int) 8),IntKind.wrap .u8 ((Ap fields ha).length:Int)]:List Int)) (enc:=Bp) (css:=[[rI .u8 (IntKind.wrap .u8 (Cw .i64 ((Ap fields ha).length:Int) 8))],[rI .u8 (IntKind.wrap .u8 ((Ap fields ha).length:Int))]]) (xs:=[.tmp 27,.tmp 30]) DO XV XU Aa Aa Aa ⟨DH.one Aa (Up.refl _),DH.one Aa (Up.refl _),trivial⟩ Aa D2 Aa Aa Aa (λhA=>?_))))))))))));refine ck hw λhy hz=>Exists.elim L4 λinf hinf=>BQ (xs:=hb) (ys:=([IntKind.wrap .u8 (Cw .i64 ((Ap fields ha).length:Int) 8),IntKind.wrap .u8 ((Ap fields ha).length:Int)]:List Int)) (enc:=Bp) (i:=1) DO hinf.1 hinf.2.1 hinf.2.2.1 hinf.2.2.2 Aa Aa Aa Aa Aa (HY.w (i:=0) Aa Aa) D2 Ju hy Aa (λv80=>?_);refine wa Aa (Au (At (wm Aa (wm Aa (ck hz λh0 h1=>Exists.elim L4 λinf hinf=>EZ (xs:=hb++([IntKind.wrap .u8 (Cw .i64 ((Ap fields ha).length:Int) 8),IntKind.wrap .u8 ((Ap fields ha).length:Int)]:List Int)) (i:=0) DO C4 hinf.1 hinf.2.1 hinf.2.2.1 hinf.2.2.2 Aa Aa Aa h0 Aa (λh4=>?_))))));refine wa Aa (Av (AH (AT (At (ck h1 λh5 h6=>wv (BJ Aa Aa h5) (wm Aa (Av ?_)))))));have h7:=B8 h6 hh;exact A5 (AK (hn,((hb++([IntKind.wrap .u8 (Cw .i64 ((Ap fields ha).length:Int) 8),IntKind.wrap .u8 ((Ap fields ha).length:Int)]:List Int))++Do (Ap fields ha),ha+1),h4) ⟨h7,Z3 _⟩ (AL.c Aa (AL.c5 Aa Aa Aa Aa Aa AL.nil)) (sC (sS sN)))
   ·refine BB (A9 ?_);have h8:=Cv hr hh hi;exact A9 (Bh (AK (hb,hg) h8 (AL.c Aa (AL.c Aa (AL.c Aa AL.nil))) (sC sN)))
  ·rintro⟨he,hj⟩ hf;refine CJ (l':=[(2,rS ([]:An)),(3,As 0),(4,rv hj)]) (H':=[.row hj 5 1 (Ax Bp he)]) Aa Aa ?_;replace hf:KE he=some r:=hf;unfold KE at hf;refine Bf (AT (Al (wm Aa (wv (r:=rS (OG he)) (RU (xs:=he) (i:=0) DO C4 Ov Aa Aa) (wa Aa (wa Aa (Au (A0 ?_))))))));obtain rfl:=A1 hf;exact Az (Dq Tryz.results81 (AI Aa) (AI Aa)) (sS sN) ⟨Aa,Aa⟩
theorem Ts (F:Nat)(s:An)(r:(List An)×Int)(h:Pc F s=some r):Fn Tryz.prog GE 63 [rS s] [] (λR H=>R=Cn [AU 1 (Ax eS r.1),As r.2]∧H=[]):=by
 refine enter (n:=58) Tryz.func63 Aa Tryz.ntmps63 Aa (λw Z=>?_);unfold Pc at h;refine Al (wa Aa (wa Aa (Au (Nu (S:=(Int)×(Unit)) 0 (λσ=>Dz σ.1=some r) (λσ=>[(2,rv (.slice none 0 0)),(3,As 0),(7,As σ.1)]) (λσ=>[]) Aa ?_ ?_))))
 ·refine Al (wa Aa (Bk (wa Aa (wa Aa (Bk (wa Aa (Au (Aq (Al (wm Aa (wv (I8 Aa Aa) (Au (cz h Aa (λhq hr=>?_) (λhq hs=>?_))))))))))))))
  ·exact IT (BU (IR (AK (14,()) hr (AL.c Aa (AL.c Aa (AL.c Aa AL.nil))) sN)))
  ·refine A3 (AT (Aq (ck hs λht hu=>ck hu λhw hx=>ck hx λhy hz=>CL 6 [0,2,3,4,6,7] [⟨[],rS s,none,none,none⟩,⟨[0],rI .u8 (Bu s 0),none,none,none⟩,⟨[1],As (Bu s 0),none,none,none⟩,⟨[],rS s,none,none,none⟩,⟨[3],rS (List.drop (Bi 1) s),none,none,none⟩,⟨[2],As (Bu s 0),none,none,none⟩] ?_ (λβ=>?_))))
   ·refine CN (Aw Aa) (CN (B1 C4 Aa Aa ht) (CN (HF ⟨_,Ov⟩ T9 Aa hw) (CN (Aw Aa) (CN (Dx C4 Aa Aa hy) (CN (A7 Aa) ?_)))));exact OH
   refine CK (H1:=[]) [10,11,12,13,14,5,0,2,3,4,6,7] ?_;refine wa Aa (Au (Aq (Al (wm Aa (wv (D4 Aa Aa) (Au (cz hz Aa (λc167 h0=>?_) (λc167 h1=>?_))))))))
   ·exact Al (wa Aa (Au (IT (BU (IR (AK (13,()) h0 (AL.c Aa (AL.c Aa (AL.c Aa AL.nil))) sN))))))
   ·refine A3 (AT (Aq (Al (wm Aa (wv (r:=As 0) (Aw Aa) (Au (AO (WC.nilrow (e:=9) (sz:=1) (ob h1 λh2 h3 hg=>B4 (S:=Nat×(An×(List An)×Int×Int)×(Value)) (V:=(An×(List An))×(Value)) 0 (λσ=>Cz (λσ=>HV s σ.1 σ.2.1 σ.2.2.1 σ.2.2.2) σ.1 σ.2.1=some h2) (λσ=>[(0,rS σ.2.1.1),(2,rv (.slice none 0 0)),(3,As 0),(4,rv σ.2.2),(6,As σ.2.1.2.2.1),(7,As 14),(17,As (Bu s 0)),(18,As σ.2.1.2.2.2)]) (λσ=>[.row σ.2.2 9 1 (Ax eS σ.2.1.2.1)]) (λσ=>σ.1) (F,(List.drop (Bi 1) s,([]:List An),0,0),(.slice none 0 0         )) h3 (AL.c Aa (AL.c Aa (AL.c Aa (AL.c5 Aa Aa Aa Aa Aa AL.nil)))) (sC sN) (λσ=>HU σ.1.1 σ.1.2=some r) (λσ=>[(0,rS σ.1.1),(2,rv (.slice none 0 0)),(3,As 0),(4,rv σ.2),(7,As 14)]) (λσ=>[.row σ.2 9 1 (Ax eS σ.1.2)]) ?_ ?_)))))))))
    ·rintro⟨gt,⟨ha,hd,hl,hk⟩,v233⟩ h4;refine Cf (l':=[(0,rS ha),(2,rv (.slice none 0 0)),(3,As 0),(4,rv v233),(6,As hl),(7,As 14),(17,As (Bu s 0)),(18,As hk)]) (H':=[.row v233 9 1 (Ax eS hd)]) Aa Aa ?_;obtain⟨h5,rfl,h6,hh,hf⟩:=CO h4;replace hh:HV s ha hd hl hk=some h6:=hh;unfold HV at hh;refine Al (wv (CZ Aa Aa) (Au (Aq (cz hh Aa (λh7 h8=>?_) (λh7 h9=>?_)))))
     ·refine A3 (AT (Aq (AO (Aq (Al (wm Aa (wv (BA C4 Aa) (wv (CZ Aa Aa) (Au (cz h8 Aa (λhA hB=>?_) (λhA hC=>?_)))))))))))
      ·refine IT (BU (E6 (BU (BU (I0 (E6 (BU (IR (ob hB λgu hD hE=>?_)))))))));have hG:=BG hE hf hg;obtain rfl:=A1 hG;exact AK (14,()) hD (AL.c Aa (AL.c Aa (AL.c Aa AL.nil))) (sS sN)
      ·refine A3 (AT (Aq (ck hC λhH hI=>ck hI λhJ hK=>ck hK λhL hN=>ck hN λhO hP=>ck hP λhQ hR=>CL 11 [0,2,3,4,7,17,18,19,20,21,22] [⟨[],rS ha,none,none,none⟩,⟨[0],rI .u8 (Bu ha 0),none,none,none⟩,⟨[1],As (Bu ha 0),none,none,none⟩,⟨[2],As (Dj .i64 (Bu ha 0) 8),none,none,none⟩,⟨[],rS ha,none,none,none⟩,⟨[4],rI .u8 (Bu ha 1),none,none,none⟩,⟨[5],As (Bu ha 1),none,none,none⟩,⟨[3,6],As (It .i64 (Dj .i64 (Bu ha 0) 8) (Bu ha 1)),none,none,none⟩,⟨[],rS ha,none,none,none⟩,⟨[8],rS (List.drop (Bi 2) ha),none,none,none⟩,⟨[7],As (It .i64 (Dj .i64 (Bu ha 0) 8) (Bu ha 1)),none,none,none⟩] ?_ (λβ=>?_))))
       ·refine CN (Aw Aa) (CN (B1 C4 Aa Aa hH) (CN (HF ⟨_,Ov⟩ T9 Aa hJ) (CN (RR Aa Aa (by decide)) (CN (Aw Aa) (CN (B1 C4 Aa Aa hL) (CN (HF ⟨_,Ov⟩ T9 Aa hO) (CN (Wt Aa Aa) (CN (Aw Aa) (CN (Dx C4 Aa Aa hQ) (CN (A7 Aa) ?_))))))))));exact OH
       refine CK (H1:=[.row v233 9 1 (Ax eS hd)]) [23,24,25,26,27,28,29,30,31,32,6,0,2,3,4,7,17,18,19,20,21,22] ?_;refine wa Aa (Au (Aq (Al (wm Aa (wv (D4 Aa Aa) (Au (cz hR Aa (λhS hT=>?_) (λhS hU=>?_))))))))
       ·refine Al (wa Aa (Au (IT (BU (E6 (BU (BU (I0 (E6 (BU (IR (ob hT λgv hV hW=>?_))))))))))));have hX:=BG hW hf hg;obtain rfl:=A1 hX;exact AK (13,()) hV (AL.c Aa (AL.c Aa (AL.c Aa AL.nil))) (sS sN)
       ·refine A3 (AT (Aq (Al (wm Aa (wv (BA C4 Aa) (wm Aa (wv (CZ Aa Aa) (Au (cz hU Aa (λhY hZ=>?_) (λhY ga=>?_))))))))))
        ·refine IT (BU (E6 (BU (BU (I0 (E6 (BU (IR (ob hZ λgw gb gc=>?_)))))))));have gd:=BG gc hf hg;obtain rfl:=A1 gd;exact AK (14,()) gb (AL.c Aa (AL.c Aa (AL.c Aa AL.nil))) (sS sN)
        ·refine A3 (AT (ck ga λhm ge=>ck ge λgf gg=>Exists.elim MX λinf hinf=>Mr 10 5 [0,2,3,6,7,17,18,20,21,22,23,24,25,26,27,28,29,30,31,32,33,34,35,36,37,38] [4] [{ deps:=[],r:=λ_=>rv v233,old:=[4] },{ deps:=[],r:=λ_=>rS (List.drop (Bi 2) ha) },{ deps:=[],r:=λ_=>As (It .i64 (Dj .i64 (Bu ha 0) 8) (Bu ha 1)) },{ deps:=[1,2],r:=λ_=>rS (List.take (Bi (It .i64 (Dj .i64 (Bu ha 0) 8) (Bu ha 1))) (List.drop (Bi 2) ha)) },{ deps:=[3],r:=λ_=>AU 1 (Ax eS ([List.take (Bi (It .i64 (Dj .i64 (Bu ha 0) 8) (Bu ha 1))) (List.drop (Bi 2) ha)]:List An)) },{ deps:=[0,4],r:=λhb=>rv hb,dyn:=true },{ deps:=[],r:=λ_=>rS (List.drop (Bi 2) ha) },{ deps:=[],r:=λ_=>As (It .i64 (Dj .i64 (Bu ha 0) 8) (Bu ha 1)) },{ deps:=[6,7],r:=λ_=>rS (List.drop (Bi (It .i64 (Dj .i64 (Bu ha 0) 8) (Bu ha 1))) (List.drop (Bi 2) ha)) },{ deps:=[5],r:=λhb=>rv hb,dyn:=true }] (λhb=>[.row hb 9 1 (Ax eS (hd++([List.take (Bi (It .i64 (Dj .i64 (Bu ha 0) 8) (Bu ha 1))) (List.drop (Bi 2) ha)]:List An)))]) ?_ (λhb=>?_)))
         ·refine Is (Aw Aa) (Is (Aw Aa) (Is (Aw Aa) (Is (JM C4 Aa Aa hm) (Xr (Cq (ys:=([List.take (Bi (It .i64 (Dj .i64 (Bu ha 0) 8) (Bu ha 1))) (List.drop (Bi 2) ha)]:List An)) (enc:=eS) (css:=[[rS (List.take (Bi (It .i64 (Dj .i64 (Bu ha 0) 8) (Bu ha 1))) (List.drop (Bi 2) ha))]]) (xs:=[.tmp 42]) Ct Cs R2 Aa Aa Aa ⟨DH.one Aa (Up.refl _),trivial⟩ Aa Dg Aa Aa) (Yg (Iy (xs:=hd) (ys:=([List.take (Bi (It .i64 (Dj .i64 (Bu ha 0) 8) (Bu ha 1))) (List.drop (Bi 2) ha)]:List An)) (enc:=eS) (i:=0) Ct hinf.1 hinf.2.1 hinf.2.2.1 hinf.2.2.2 Aa Aa Aa Aa Aa (HY.z Aa Aa) Dg JS gf) (Is (Aw Aa) (Is (Aw Aa) (Is (Dx C4 Aa Aa hm) (Is (fun {hb _}=>(A7 Aa)) ?_)))))))));exact Yh
         refine CK (H1:=[.row hb 9 1 (Ax eS (hd++([List.take (Bi (It .i64 (Dj .i64 (Bu ha 0) 8) (Bu ha 1))) (List.drop (Bi 2) ha)]:List An)))]) [39,40,41,42,43,44,45,46,47,4,0,2,3,6,7,17,18,20,21,22,23,24,25,26,27,28,29,30,31,32,33,34,35,36,37,38] ?_;refine wa Aa (Av (AH (AT (At (ck gg λgh gi=>wv (BJ Aa Aa gh) (wm Aa (Av ?_)))))));have gj:=B8 gi hf;exact A5 (AK (h5,(List.drop (Bi (It .i64 (Dj .i64 (Bu ha 0) 8) (Bu ha 1))) (List.drop (Bi 2) ha),hd++([List.take (Bi (It .i64 (Dj .i64 (Bu ha 0) 8) (Bu ha 1))) (List.drop (Bi 2) ha)]:List An),It .i64 (Dj .i64 (Bu ha 0) 8) (Bu ha 1),hk+1),hb) ⟨gj,Z3 _⟩ (AL.c Aa (AL.c Aa (AL.c Aa (AL.c5 Aa Aa Aa Aa Aa AL.nil)))) (sC sN))
     ·refine BB (A9 ?_);have gl:=Cv h9 hf hg;exact A9 (Bh (AK ((ha,hd),v233) gl (AL.c5 Aa Aa Aa Aa Aa AL.nil) (sC sN)))
    ·rintro⟨⟨hn,he⟩,ho⟩ hi;refine CJ (l':=[(0,rS hn),(2,rv (.slice none 0 0)),(3,As 0),(4,rv ho),(7,As 14)]) (H':=[.row ho 9 1 (Ax eS he)]) Aa Aa ?_;replace hi:HU hn he=some r:=hi;unfold HU at hi;refine Bf (AT (Aq (Al (wm Aa (wv (I7 Aa Aa) (Au (cz hi Aa (λgm gp=>?_) (λgm gq=>?_))))))))
     ·exact Al (wa Aa (Au (IT (BU (IR (AK (13,()) gp (AL.c Aa (AL.c Aa (AL.c Aa AL.nil))) (sS sN)))))))
     ·refine A3 (AT (Aq (Al (wm Aa (wm Aa (wv (BP (ys:=he) (enc:=eS) (i:=0) Ct Aa Aa) (wm Aa (wv (BP (ys:=he) (enc:=eS) (i:=0) Ct Aa Aa) (WL.freeze (i:=0) Aa (WL.up (d:=51) (r:=AU 1 (Ax eS he)) Aa (Up.fact (i:=0) Aa) (ck gq λgr gs=>wv (r:=AU 1 (Ax eS (List.take (Bi (he.length:Int)) he))) (Lx Ct Cs Aa Aa Aa gr) (wa Aa (wa Aa (Au (A0 (Af (VR ?_)))))))))))))))));obtain rfl:=A1 gs;exact Az (Dq Tryz.results63 (AI Aa) (AI Aa)) (sS sN) ⟨Aa,Aa⟩
 ·rintro⟨hp,⟨⟩⟩ hj;refine Cf (l':=[(2,rv (.slice none 0 0)),(3,As 0),(7,As hp)]) (H':=[]) Aa Aa ?_;replace hj:Dz hp=some r:=hj;unfold Dz at hj;refine Aq (A3 (AT (Al (wm Aa (wa Aa (wa Aa (Au (A0 (IQ (WK.up (d:=2) (r:=AU 1 (Ax eS ([]:List An))) Aa (Up.le (HZ.nil _)) ?_))))))))));obtain rfl:=A1 hj;exact Az (Dq Tryz.results63 (AI Aa) (AI Aa)) sN ⟨Aa,Aa⟩
theorem WG (F:Nat)(body:An)(r:An×Int)(h:Nb F body=some r):Fn Tryz.prog GE 112 [rS body] [] (λR H=>R=Cn [rS r.1,As r.2]∧H=[]):=by
 refine enter (n:=17) Tryz.func112 Aa Tryz.ntmps112 Aa (λw Z=>?_);unfold Nb at h;refine Al (wv (r:=rS ([]:An)) (A7 Aa) (wa Aa (Au (Aq (Al (wm Aa (wv (BA C4 Aa) (wv (D4 Aa Aa) (Au (cz h Aa (λc1 h2=>?_) (λc1 h3=>?_)))))))))))
 ·refine Al (wv (r:=rS ([]:An)) (A7 Aa) (wa Aa (Au (A0 (Af ?_)))));obtain rfl:=A1 h2;exact Az (Dq Tryz.results112 (AI Aa) (AI Aa)) sN ⟨Aa,Aa⟩
 ·refine A3 (AT (Al (wm Aa (wv (BA C4 Aa) (wv (r:=rI .u32 (IntKind.wrap .u32 (body.length:Int))) (Ci ⟨_,T9⟩ Ib Aa) (ob h3 λr4 e6 h5=>Di Tryz.call147 (Ok (IntKind.wrap .u32 (body.length:Int)) r4 e6) Aa (wm Aa (ob h5 λr7 e9 h8=>Di Tryz.call122 (Vi F body r7 e9) Aa (ob h8 λha hb hd=>Di Tryz.call147 (Ok r7 ha hb) Aa (ck hd λhe hf=>wv (MJ Aa Aa he) (wm Aa (ck hf λg15 hg=>wv (MJ Aa Aa g15) (wa Aa (wa Aa (Au (A0 ?_))))))))))))))));obtain rfl:=A1 hg;exact Az (Dq Tryz.results112 (AI Aa) (AI Aa)) sN ⟨Aa,Aa⟩
theorem WI (F:Nat)(s:An)(r:An×Int×Int)(h:Vp F s=some r):Fn Tryz.prog GE 98 [rS s] [] (λR H=>R=Cn [rS r.1,As r.2.1,As r.2.2]∧H=[]):=by
 refine enter (n:=35) Tryz.func98 Aa Tryz.ntmps98 Aa (λw Z=>?_);unfold Vp at h;refine Al (wv (r:=rS ([]:An)) (A7 Aa) (wa Aa (wa Aa (Au (Aq (Al (wm Aa (wv (BA C4 Aa) (wv (CZ Aa Aa) (Au (cz h Aa (λc1 h2=>?_) (λc1 h3=>?_))))))))))))
 ·refine Al (wv (r:=rS ([]:An)) (A7 Aa) (wa Aa (wa Aa (Au (A0 (Af ?_))))));obtain rfl:=A1 h2;exact Az (Um TI (AI Aa) (AI Aa) (AI Aa)) sN ⟨Aa,Aa⟩
 ·refine A3 (AT (Al (wm Aa (ob h3 λr4 e6 h5=>Di Tryz.call121 (Oj s r4 e6) Aa (wv (r:=As (IntKind.wrap .i64 r4)) (Ci ⟨_,Ib⟩ T9 Aa) (wa Aa (Au (Aq (AO (Al (wm Aa (wv (D4 Aa Aa) (wa Aa (Au (cz h5 Aa (λc7 h8=>?_) (λc7 h9=>?_))))))))))))))))
  ·refine Al (wv (r:=rS ([]:An)) (A7 Aa) (wa Aa (wa Aa (Au (A0 (AD (Af ?_)))))));obtain rfl:=A1 h8;exact Az (Um TI (AI Aa) (AI Aa) (AI Aa)) sN ⟨Aa,Aa⟩
  ·refine Al (wm Aa (wm Aa (wv (BA C4 Aa) (ck h9 λhb hd=>wv (MG Aa Aa hb) (wv (D4 Aa Aa) (wa Aa (Au (cz hd Aa (λhe hf=>?_) (λhe hg=>?_)))))))))
   ·refine Al (wv (r:=rS ([]:An)) (A7 Aa) (wa Aa (wa Aa (Au (A0 (AD (Af ?_)))))));obtain rfl:=A1 hf;exact Az (Um TI (AI Aa) (AI Aa) (AI Aa)) sN ⟨Aa,Aa⟩
   ·refine A3 (AH (AT (Al (wm Aa (wm Aa (ck hg λg15 hh=>wv (BJ Aa Aa g15) (ck hh λg17 hi=>ck hi λg19 hj=>wv (JL C4 Aa Aa Aa g17 g19) (wa Aa (Au (Aq (Aq (ob hj λha hk hl=>ck hl λhm hn=>CL 4 [0,5,6] [⟨[],rS (List.take (Bi (8+(IntKind.wrap .i64 r4))-Bi 8) (List.drop (Bi 8) s)),none,none,none⟩,⟨[0],rI .u32 ha,none,none,none⟩,⟨[],rS s,none,none,none⟩,⟨[2],rS (List.drop (Bi 4) s),none,none,none⟩] ?_ (λβ=>?_)))))))))))))
    ·refine CN (Aw Aa) (KU (Et Tryz.call122 (Vi F (List.take (Bi (8+(IntKind.wrap .i64 r4))-Bi 8) (List.drop (Bi 8) s)) ha hk) Aa) (CN (Aw Aa) (CN (Dx C4 Aa Aa hm) ?_)));exact OH
    refine CK (H1:=[]) [26,27,28,29,0,5,6] ?_;refine ob hn λho hp hq=>Di Tryz.call121 (Oj (List.drop (Bi 4) s) ho hp) Aa (wv (Cr Aa Aa) (Au (cz hq Aa (λhr hs=>?_) (λhr ht=>?_))))
    ·refine Al (wv (r:=rS ([]:An)) (A7 Aa) (wa Aa (wa Aa (Au (A0 (Af ?_))))));obtain rfl:=A1 hs;exact Az (Um TI (AI Aa) (AI Aa) (AI Aa)) sN ⟨Aa,Aa⟩
    ·refine A3 (AT (Al (wm Aa (wm Aa (wv (BJ Aa Aa g15) (wa Aa (wa Aa (wa Aa (Au (A0 ?_))))))))));obtain rfl:=A1 ht;exact Az (Um TI (AI Aa) (AI Aa) (AI Aa)) sN ⟨Aa,Aa⟩
theorem Vn (F:Nat)(s:An)(r:(List An)×Int)(h:Rm F s=some r):Fn Tryz.prog GE 62 [rS s] [] (λR H=>R=Cn [AU 1 (Ax eS r.1),As r.2]∧H=[]):=by
 refine enter (n:=37) Tryz.func62 Aa Tryz.ntmps62 Aa (λw Z=>?_);unfold Rm at h;refine Al (wa Aa (wa Aa (Bk (wa Aa (Bk (wa Aa (Au (Aq (AO (WC.nilrow (e:=9) (sz:=1) (ob h λhm hn hj=>B4 (S:=Nat×((List An)×Int)×(Value)) (V:=((List An)×Int)×(Value)) 0 (λσ=>Cz (λσ=>Js F s σ.1 σ.2) σ.1 σ.2.1=some hm) (λσ=>[(0,rS s),(2,rv (.slice none 0 0)),(3,As 0),(4,rv σ.2.2),(5,As σ.2.1.2)]) (λσ=>[.row σ.2.2 9 1 (Ax eS σ.2.1.1)]) (λσ=>σ.1) (F,(([]:List An),0),(.slice none 0 0         )) hn (AL.c5 Aa Aa Aa Aa Aa AL.nil) (sC sN) (λσ=>Jr σ.1.1 σ.1.2=some r) (λσ=>[(2,rv (.slice none 0 0)),(3,As 0),(4,rv σ.2),(5,As σ.1.2)]) (λσ=>[.row σ.2 9 1 (Ax eS σ.1.1)]) ?_ ?_)))))))))))
 ·rintro⟨hB,⟨hb,hd⟩,hf⟩ ho;refine Cf (l':=[(0,rS s),(2,rv (.slice none 0 0)),(3,As 0),(4,rv hf),(5,As hd)]) (H':=[.row hf 9 1 (Ax eS hb)]) Aa Aa ?_;obtain⟨hp,rfl,hq,hg,hi⟩:=CO ho;replace hg:Js F s hb hd=some hq:=hg;unfold Js at hg;refine Aq (Al (wm Aa (wm Aa (wv (BA C4 Aa) (wv (CZ Aa Aa) (Au (cz hg Aa (λhr hs=>?_) (λhr ht=>?_))))))))
  ·refine A3 (AT (AO (Al (wm Aa (wm Aa (ck hs λhu hw=>wv (Dx C4 Aa Aa hu) (ob hw λhe hx hy=>Di Tryz.call98 (WI F (List.drop (Bi hd) s) he hx) Aa (wm Aa (wv (A4 Aa Aa) (wv (A4 Aa Aa) (wv (A4 Aa Aa) (wa Aa (wa Aa (wa Aa (Au (Aq (Al (wm Aa (wv (Cr Aa Aa) (Au (cz hy Aa (λc167 hz=>?_) (λc167 h0=>?_))))))))))))))))))))))
   ·refine BB (A9 (Mq Aa ?_));have h1:=Cv hz hi hj;exact A9 (Bh (AK ((hb,hd),hf) h1 (AL.c Aa (AL.c Aa (AL.c Aa (AL.c Aa AL.nil)))) (sC sN)))
   ·refine A3 (AT (At (wm Aa (wm Aa (Ba (ys:=([he.1]:List An)) (enc:=eS) (css:=[[rS he.1]]) (xs:=[.tmp 24]) Ct Cs R2 Aa Aa Aa ⟨DH.one Aa (Up.refl _),trivial⟩ Aa Dg Aa Aa Aa (λhC=>?_))))));refine ck h0 λh2 h3=>Exists.elim MX λinf hinf=>BQ (xs:=hb) (ys:=([he.1]:List An)) (enc:=eS) (i:=1) Ct hinf.1 hinf.2.1 hinf.2.2.1 hinf.2.2.2 Aa Aa Aa Aa Aa (HY.w (i:=0) Aa Aa) Dg JS h2 Aa (λh4=>?_);refine wm Aa (wm Aa (ck h3 λh5 h6=>wv (BJ Aa Aa h5) (wa Aa (wa Aa (Av (AH ?_))))));have h7:=B8 h6 hi;exact A5 (AK (hp,(hb++([he.1]:List An),hd+he.2.1),h4) ⟨h7,Z3 _⟩ (AL.c5 Aa Aa Aa Aa Aa AL.nil) (sC (sS sN)))
  ·refine BB (A9 ?_);have h8:=Cv ht hi hj;exact A9 (Bh (AK ((hb,hd),hf) h8 (AL.c Aa (AL.c Aa (AL.c Aa (AL.c Aa AL.nil)))) (sC sN)))
 ·rintro⟨⟨ha,hk⟩,hl⟩ hh;refine CJ (l':=[(2,rv (.slice none 0 0)),(3,As 0),(4,rv hl),(5,As hk)]) (H':=[.row hl 9 1 (Ax eS ha)]) Aa Aa ?_;replace hh:Jr ha hk=some r:=hh;unfold Jr at hh;refine Bf (AT (Al (wm Aa (wm Aa (wv (BP (ys:=ha) (enc:=eS) (i:=0) Ct Aa Aa) (wm Aa (wv (BP (ys:=ha) (enc:=eS) (i:=0) Ct Aa Aa) (WL.freeze (i:=0) Aa (WL.up (d:=30) (r:=AU 1 (Ax eS ha)) Aa (Up.fact (i:=0) Aa) (ck hh λh9 hA=>wv (r:=AU 1 (Ax eS (List.take (Bi (ha.length:Int)) ha))) (Lx Ct Cs Aa Aa Aa h9) (wm Aa (wa Aa (wa Aa (Au (A0 ?_)))))))))))))));obtain rfl:=A1 hA;exact Az (Dq Tryz.results62 (AI Aa) (AI Aa)) (sS sN) ⟨Aa,Aa⟩
theorem WJ (F:Nat)(bodies:(List An))(r:An×Int)(h:Qn F bodies=some r):Fn Tryz.prog GE 82 [AU 1 (Ax eS bodies)] [] (λR H=>R=Cn [rS r.1,As r.2]∧H=[]):=by
 refine enter (n:=36) Tryz.func82 Aa Tryz.ntmps82 Aa (λw Z=>?_);unfold Qn at h;refine Al (wv (r:=rS ([]:An)) (A7 Aa) (wa Aa (Bk (wa Aa (Au (Aq (Al (wm Aa (wv (Bt (ys:=bodies) (enc:=eS) Ct Aa) (wv (r:=As 0) (Aw Aa) (Au (AO (WC.nilrow (e:=5) (sz:=1) (ob h λhm hn hk=>B4 (S:=Nat×((List Int)×Int)×(Value)) (V:=((List Int))×(Value)) 0 (λσ=>Cz (λσ=>Ey F bodies σ.1 σ.2) σ.1 σ.2.1=some hm) (λσ=>[(4,rv σ.2.2),(9,AU 1 (Ax eS bodies)),(10,As (bodies.length:Int)),(11,As σ.2.1.2)]) (λσ=>[.row σ.2.2 5 1 (Ax Bp σ.2.1.1)]) (λσ=>σ.1) (F,(([]:List Int),0),(.slice none 0 0     )) hn (AL.c Aa (AL.c Aa (AL.c Aa (AL.c Aa AL.nil)))) (sC sN) (λσ=>II σ.1=some r) (λσ=>[(4,rv σ.2)]) (λσ=>[.row σ.2 5 1 (Ax Bp σ.1)]) ?_ ?_))))))))))))))
 ·rintro⟨hC,⟨hb,he⟩,hf⟩ ho;refine Cf (l':=[(4,rv hf),(9,AU 1 (Ax eS bodies)),(10,As (bodies.length:Int)),(11,As he)]) (H':=[.row hf 5 1 (Ax Bp hb)]) Aa Aa ?_;obtain⟨hp,rfl,hq,hg,hj⟩:=CO ho;replace hg:Ey F bodies hb he=some hq:=hg;unfold Ey at hg;refine Al (wv (CZ Aa Aa) (Au (Aq (cz hg Aa (λhr hs=>?_) (λhr ht=>?_)))))
  ·refine A3 (AT (Aq (AO (Al (ck hs λhu hw=>wv (BT (enc:=eS) (ys:=bodies) Ct Cs Aa Aa hu) (wv (BD C7 Aa Aa) (wa Aa (Bk (wm Aa (ob hw λhd hx hy=>Di Tryz.call112 (WG F (Ap bodies he) hd hx) Aa (wm Aa (wv (A4 Aa Aa) (wv (A4 Aa Aa) (wa Aa (wa Aa (Au (Aq (ck hy λhz h0=>AR [(4,rv hf),(7,rS hd.1),(9,AU 1 (Ax eS bodies)),(10,As (bodies.length:Int)),(11,As he),(29,rB ((!decide (hd.2=0))||(decide (262144<((hb.length:Int)+(hd.1.length:Int))))))] [.row hf 5 1 (Ax Bp hb)] ?_ ?_))))))))))))))))))
   ·refine At (wm Aa (wv (Cr Aa Aa) (wm Aa (AX (!decide (hd.2=0)) (λha=>?_) (λha=>?_)))))
    ·refine wf ha (wf ha (wf ha (wf ha (wf ha (wf ha (wv (r:=rB true) (AA Aa ha Aa) (Av ?_)))))));exact CF ha
    ·refine wo ha (wm Aa (wo ha (wv (BP (ys:=hb) (enc:=Bp) (i:=0) DO Aa Aa) (wo ha (wm Aa (wo ha (wv (BA C4 Aa) (wo ha (wv (BJ Aa Aa (Hw hz ha)) (wo ha (wv (D4 Aa Aa) (Hc Aa ha Aa (Av ?_)))))))))))));exact CF ha
   refine cz h0 Aa (λh1 h2=>?_) (λh1 h3=>?_)
   ·refine Al (wv (r:=rS ([]:An)) (A7 Aa) (wa Aa (Au (A0 (Af (AD (Af (Af (Bg ?_)))))))));have h4:=BG h2 hj hk;refine AD (Af ?_);obtain rfl:=A1 h4;exact Az (Dq Tryz.results82 (AI Aa) (AI Aa)) (sS sN) ⟨Aa,Aa⟩
   ·refine A3 (AT (At (wm Aa (wm Aa (ck h3 λh5 h6=>Exists.elim L4 λinf hinf=>EZ (xs:=hb) (i:=0) DO C4 hinf.1 hinf.2.1 hinf.2.2.1 hinf.2.2.2 Aa Aa Aa h5 Aa (λh7=>?_))))));refine wa Aa (Av (AH (AT (At (ck h6 λh8 h9=>wv (BJ Aa Aa h8) (wm Aa (Av ?_)))))));have hA:=B8 h9 hj;exact A5 (AK (hp,(hb++Do hd.1,he+1),h7) ⟨hA,Z3 _⟩ (AL.c Aa (AL.c Aa (AL.c Aa (AL.c Aa AL.nil)))) (sC sN))
  ·refine BB (A9 ?_);have hB:=Cv ht hj hk;exact A9 (Bh (AK (hb,hf) hB (AL.c Aa AL.nil) (sC sN)))
 ·rintro⟨hh,hl⟩ hi;refine CJ (l':=[(4,rv hl)]) (H':=[.row hl 5 1 (Ax Bp hh)]) Aa Aa ?_;replace hi:II hh=some r:=hi;unfold II at hi;refine Bf (AT (Al (wm Aa (wv (r:=rS (OG hh)) (RU (xs:=hh) (i:=0) DO C4 Ov Aa Aa) (wa Aa (wa Aa (Au (A0 ?_))))))));obtain rfl:=A1 hi;exact Az (Dq Tryz.results82 (AI Aa) (AI Aa)) (sS sN) ⟨Aa,Aa⟩
end Go.Proofs.YtfobhhegpkinaaaGreatDoor.Q
namespace Go.Proofs.YtfobhhegpkinaaaGreatDoor
open Go
set_option linter.unusedVariables false
set_option linter.unusedSimpArgs false
section
variable {T S : Type}
def CT:List (An×T)→An→Option T
 | [],_=>none
 | p::r,k=>bif decide (p.1=k) then some p.2 else CT r k
def B3 (xs:List (An×T))(k:An)(z:T):T:=(CT xs k).getD z
def E3 (xs:List (An×T))(k:An):Bool:=(CT xs k).isSome
def mins (k:An)(v:T):List (An×T)→List (An×T)
 | []=>[(k,v)]
 | p::r=>bif Cp k p.1 then(k,v)::p::r else p::mins k v r
def mput (xs:List (An×T))(k:An)(v:T):List (An×T):=xs.map λp=>bif decide (p.1=k) then(k,v) else p
def mset (xs:List (An×T))(k:An)(v:T):List (An×T):=bif E3 xs k then mput xs k v else mins k v xs
def mdel (xs:List (An×T))(k:An):List (An×T):=xs.filter λp=>!decide (p.1=k)
def A8 (f:T→S)(xs:List (An×T)):List (An×S):=xs.map λp=>(p.1,f p.2)
theorem K7 (f:T→S):∀(xs:List (An×T)) (k:An),CT (A8 f xs) k=(CT xs k).map f
 | [],k=>rfl
 | p::r,k=>by
  show(bif decide (p.1=k) then some (f p.2) else CT (A8 f r) k)=_;rw[CT,K7 f r k]
  cases decide (p.1=k)<;>rfl
theorem UQ (f:T→S)(xs:List (An×T))(k:An):E3 (A8 f xs) k=E3 xs k:=by
 unfold E3;rw[K7];cases CT xs k<;>rfl
theorem PW (f:T→S)(k:An)(v:T):∀xs:List (An×T),A8 f (mins k v xs)=mins k (f v) (A8 f xs)
 | []=>rfl
 | p::r=>by
  show A8 f (bif Cp k p.1 then(k,v)::p::r else p::mins k v r)=(bif Cp k p.1 then(k,f v)::(p.1,f p.2)::A8 f r else(p.1,f p.2)::mins k (f v) (A8 f r));rw[← PW f k v r]
  cases Cp k p.1<;>rfl
theorem UO (f:T→S)(xs:List (An×T))(k:An)(v:T):A8 f (mset xs k v)=mset (A8 f xs) k (f v):=by
 unfold mset;rw[UQ]
 cases E3 xs k with
 | false=>exact PW f k v xs
 | true=>
  show A8 f (mput xs k v)=mput (A8 f xs) k (f v);unfold A8 mput;rw[Aak,Aak];refine List.map_congr_left λp _=>?_;show _=(bif decide (p.1=k) then(k,f v) else(p.1,f p.2));simp only[Function.comp]
  cases decide (p.1=k)<;>rfl
theorem US (f:T→S)(xs:List (An×T))(k:An):A8 f (mdel xs k)=mdel (A8 f xs) k:=by
 unfold A8 mdel;rw[List.filter_map];rfl
theorem EN (f:T→S)(xs:List (An×T)):(A8 f xs).length=xs.length:=by simp[A8]
theorem NZ (k:An)(v:T):∀xs:List (An×T),(mins k v xs).Perm ((k,v)::xs)
 | []=>Zp _
 | p::r=>by
  rw[mins]
  cases Cp k p.1 with
  | true=>exact Zp _
  | false=>exact((NZ k v r).cons p).trans (List.Perm.swap _ _ _)
def Jk (x:T):List T→List (List T)
 | []=>[[x]]
 | y::r=>(x::y::r)::(Jk x r).map (y::·)
def NP:List T→List (List T)
 | []=>[[]]
 | x::r=>(NP r).flatMap (Jk x)
theorem L2 (x:T):∀(a b:List T),a++x::b∈Jk x (a++b)
 | [],[]=>by simp[Jk]
 | [],y::b=>by simp[Jk]
 | y::a,b=>by
  simp only[List.cons_append,Jk,Aal,List.mem_map];exact .inr ⟨_,L2 x a b,rfl⟩
theorem Ob:∀(xs ys:List T),ys.Perm xs→ys∈NP xs
 | [],ys,h=>by rw[h.eq_nil];simp[NP]
 | x::r,ys,h=>by
  have hx:x∈ys:=h.symm.subset (List.mem_cons_self ..);obtain⟨a,b,rfl⟩:=List.append_of_mem hx;have h2:(a++b).Perm r:=(List.perm_middle.symm.trans h).cons_inv;simp only[NP,List.mem_flatMap];exact⟨a++b,Ob r _ h2,L2 x a b⟩
def UP {R:Type}[DecidableEq R](xs:List T)(K:List T→Option R):Option R:=match K xs with
 | none=>none
 | some r=>bif (NP xs).all (λp=>decide (K p=some r)) then some r else none
theorem Ra {R:Type}[DecidableEq R]{xs:List T}{K:List T→Option R}{r:R}(h:UP xs K=some r):∀p:List T,p.Perm xs→K p=some r:=λp hp=>by
 unfold UP at h
 cases hk:K xs with
 | none=>rw[hk] at h;cases h
 | some q=>
  rw[hk] at h;simp only at h
  cases ha:(NP xs).all (λp=>decide (K p=some q)) with
  | false=>rw[ha] at h;cases h
  | true=>
   rw[ha] at h;cases h;exact ZO (List.all_eq_true.1 ha p (Ob xs p hp))
def Rc {St O:Type}(body:T→St→Option (Stp St (Out O St))):List T→St→Option (Out O St)
 | [],s=>some (.go s)
 | x::r,s=>match body x s with
  | none=>none
  | some (.next s')=>Rc body r s'
  | some (.out o)=>some o
def YA {St R:Type}(body:T→St→Option (Stp St (Out R St)))(ys:List T)(K:St→Option R)(r:R):Stp St (Out R St)→Prop
 | .next s'=>∀q:List T,q.Perm ys→Bq (Rc body q s') (Ch K)=some r
 | .out o=>Ch K o=some r
theorem UX {St R:Type}{body:T→St→Option (Stp St (Out R St))}{ys ys':List T}{p:T}{s:St}{K:St→Option R}{r:R}(h:∀q:List T,q.Perm ys→Bq (Rc body q s) (Ch K)=some r)(hp:ys.Perm (p::ys')):∃t,body p s=some t∧YA body ys' K r t:=by
 have h1:∀q:List T,q.Perm ys'→Bq (Rc body (p::q) s) (Ch K)=some r:=λq hq=>h _ ((hq.cons p).trans hp.symm)
 cases hb:body p s with
 | none=>
  have:=h1 ys' (Zp _);rw[Rc,hb] at this;cases this
 | some t=>
  refine⟨t,rfl,?_⟩
  cases t with
  | next s'=>
   intro q hq;have:=h1 q hq;rw[Rc,hb] at this;exact this
  | out o=>
   have:=h1 ys' (Zp _);rw[Rc,hb] at this;exact this
theorem OX {St R:Type}{body:T→St→Option (Stp St (Out R St))}{ys:List T}{s:St}{K:St→Option R}{r:R}(h:∀q:List T,q.Perm ys→Bq (Rc body q s) (Ch K)=some r)(hy:ys=[]):K s=some r:=by
 subst hy;exact h [] (Zp _)
theorem La {St R:Type}{body:T→St→Option (Stp St (Out R St))}{ys:List T}{s':St}{K:St→Option R}{r:R}{t:Stp St (Out R St)}(h:some (Stp.next s')=some t)(ht:YA body ys K r t):∀q:List T,q.Perm ys→Bq (Rc body q s') (Ch K)=some r:=by cases h;exact ht
theorem OD {ys ys':List T}{p:T}(h:ys.Perm (p::ys')):ys'.length<ys.length:=by rw[h.length_eq];exact Z3 _
end
structure Am where
 fKind:Int
 fKey:An
 fValue:(List Ac)
 fDelay:Int
 deriving DecidableEq,Inhabited
structure Ar where
 fID:An
 fTenant:An
 fCause:An
 fAt:Int
 fEffect:Am
 deriving DecidableEq,Inhabited
structure AP where
 fEvent:An
 fTenant:An
 fAttempt:Int
 fResult:(List Ac)
 fEffects:(List Am)
 fAt:Int
 deriving DecidableEq,Inhabited
def HW (ys:(List Ac)):Option ((List Ac)):=
 Bc (Dp 40 (([]:List Ac).length+ys.length))<|some (([]:List Ac)++ys)
def BC (n:Int):Option (Bool):=
 some ((decide (0≤n))&&(decide (n≤1073741824)))
def Ej (k:Int):Option (Bool):=
 some ((decide (k=3))||((decide (k=4))||(decide (k=5))))
def OO (x:Am):Option (Bool):=
 B0 (((decide (x.fKind=3))||(decide (x.fKind=4)))) (some (EM x.fKey)) (some (LK x.fKey))
def C1 (v:(List Ac)):Option (Bool):=
 Bc (imp (decide (1<(v.length:Int))) (CR 0 (v.length:Int)))<|Bc (imp (decide (1<(v.length:Int))) (imp (decide (((Ap v 0).fKind)=5)) (CR 1 (v.length:Int))))<|some ((decide (1<(v.length:Int)))&&((decide (((Ap v 0).fKind)=5))&&(decide (((Ap v 1).fKind)=4))))
def Je (F:Nat)(event:An)(x:Am)(i:Int):Option (Int):=
 B0 (((decide (x.fKind<1))||(decide (5<x.fKind)))) (some 7) (Bq (OO x) λr6=>B0 (!r6) (some 4) (B0 (decide (x.fKind=2)) (B0 (decide (0<(x.fValue.length:Int))) (some 7) (Bc (imp (decide (x.fKind=5)) ((C1 x.fValue).isSome))<|B0 (((decide (x.fKind=5))&&(!(ov (C1 x.fValue))))) (some 7) (Bc (imp (!decide (x.fKind=4)) (imp (!(!decide (x.fDelay=0))) ((BC x.fDelay).isSome)))<|Bc (imp (!(!decide (x.fKind=4))) ((BC x.fDelay).isSome))<|B0 ((bif !decide (x.fKind=4) then((!decide (x.fDelay=0))||(!(ov (BC x.fDelay)))) else !(ov (BC x.fDelay)))) (some 2) (Bq (Ej x.fKind) λhb=>B0 (hb) (Bc (Dp 1 event.length)<|Bc (BS .i64 i)<|some (Da event i)) (some 0))))) (Bq (H9 F x.fValue) λha=>B0 (!decide (ha=0)) (some ha) (Bc (imp (decide (x.fKind=5)) ((C1 x.fValue).isSome))<|B0 (((decide (x.fKind=5))&&(!(ov (C1 x.fValue))))) (some 7) (Bc (imp (!decide (x.fKind=4)) (imp (!(!decide (x.fDelay=0))) ((BC x.fDelay).isSome)))<|Bc (imp (!(!decide (x.fKind=4))) ((BC x.fDelay).isSome))<|B0 ((bif !decide (x.fKind=4) then((!decide (x.fDelay=0))||(!(ov (BC x.fDelay)))) else !(ov (BC x.fDelay)))) (some 2) (Bq (Ej x.fKind) λhd=>B0 (hd) (Bc (Dp 1 event.length)<|Bc (BS .i64 i)<|some (Da event i)) (some 0)))))))
def El (F:Nat)(c:AP)(ha:Int):Option (Stp (Int) (Out (Int) (Unit))):=
 B0 (decide (ha<(c.fEffects.length:Int))) (Bc (CR ha (c.fEffects.length:Int))<|Bq (Je F c.fEvent (Ap c.fEffects ha) ha) λhb=>B0 (!decide (hb=0)) (some (.out (.ret hb))) (Bc (BS .i64 (ha+1))<|some (.next (ha+1)))) (some (.out (.go ())))
def Hu :Option (Int):=
 some 0
def KZ (F:Nat)(c:AP):Option (Int):=
 B0 (((!(LK c.fEvent))||(!(EM c.fTenant)))) (some 4) (Bc (imp (!(decide (c.fAttempt<1))) (imp (!(decide (1073741824<c.fAttempt))) ((BC c.fAt).isSome)))<|B0 (((decide (c.fAttempt<1))||((decide (1073741824<c.fAttempt))||(!(ov (BC c.fAt)))))) (some 2) (Bq (H9 F c.fResult) λha=>B0 (!decide (ha=0)) (some ha) (B0 (decide (32<(c.fEffects.length:Int))) (some 3) (Bq (Cz (λσ=>El F c σ) F 0) (Ch λν=>Hu )))))
def UF (x:Am):Option (Am):=
 Bq (HW x.fValue) λr3=>some (Am.mk x.fKind x.fKey r3 x.fDelay)
def Lz (F:Nat)(v:(List Ac)):Option (An):=
 Bq (Ki F v) λr1=>some r1.1
def EK (F:Nat)(records:(List (List An)))(hb:(List An))(ha:Int):Option (Stp ((List An)×Int) (Out (An×Int) ((List An)))):=
 B0 (decide (ha<(records.length:Int))) (Bc (CR ha (records.length:Int))<|Bq (Qm F (Ap records ha)) λhd=>B0 (!decide (hd.2=0)) (some (.out (.ret (([]:An),3)))) (Bc (Dp 16 (hb.length+([hd.1]:List An).length))<|Bc (BS .i64 (ha+1))<|some (.next (hb++([hd.1]:List An),ha+1)))) (some (.out (.go hb)))
def Gw (F:Nat)(hb:(List An)):Option (An×Int):=
 Bq (Qn F hb) λha=>B0 (!decide (ha.2=0)) (some (([]:An),3)) (some (ha.1,0))
def MM (F:Nat)(records:(List (List An))):Option (An×Int):=
 Bq (Cz (λσ=>EK F records σ.1 σ.2) F (([]:List An),0)) (Ch λν=>Gw F ν)
def DD (F:Nat)(c:AP)(hb:(List (List An)))(ha:Int):Option (Stp ((List (List An))×Int) (Out (An×Int) ((List (List An))))):=
 B0 (decide (ha<(c.fEffects.length:Int))) (Bc (CR ha (c.fEffects.length:Int))<|Bc (BS .i64 ((Ap c.fEffects ha).fKind))<|Bc (BS .i64 ((Ap c.fEffects ha).fDelay))<|Bq (Lz F ((Ap c.fEffects ha).fValue)) λhd=>Bc (Dp 24 (hb.length+([([Lib.itoa ((Ap c.fEffects ha).fKind),(Ap c.fEffects ha).fKey,Lib.itoa ((Ap c.fEffects ha).fDelay),hd]:List An)]:List (List An)).length))<|Bc (BS .i64 (ha+1))<|some (.next (hb++([([Lib.itoa ((Ap c.fEffects ha).fKind),(Ap c.fEffects ha).fKey,Lib.itoa ((Ap c.fEffects ha).fDelay),hd]:List An)]:List (List An)),ha+1))) (some (.out (.go hb)))
def Ea (F:Nat)(hb:(List (List An))):Option (An×Int):=
 Bq (MM F hb) λha=>some (ha.1,ha.2)
def GG (F:Nat)(c:AP):Option (An×Int):=
 Bq (KZ F c) λr2=>B0 (!decide (r2=0)) (some (([]:An),r2)) (Bc (BS .i64 c.fAttempt)<|Bc (BS .i64 c.fAt)<|Bq (Lz F c.fResult) λha=>Bq (Cz (λσ=>DD F c σ.1 σ.2) F (([([([99,111,109,109,105,116]:An),c.fEvent,c.fTenant,Lib.itoa c.fAttempt,Lib.itoa c.fAt,ha]:List An)]:List (List An)),0)) (Ch λν=>Ea F ν))
def DE (F:Nat)(id:An):Option (An×Int):=
 B0 (!(LK id)) (some (([]:An),4)) (Bq (MM F ([([([97,99,107]:An),id]:List An)]:List (List An))) λr6=>some (r6.1,r6.2))
def E9 (ha:Int)(hb:An)(hd:An)(he:Int)(hf:(List Ac))(hg:(List Am))(hh:Int):Option (Stp (Int×An×An×Int×(List Ac)×(List Am)×Int) (Out (AP×Bool) (An×An×Int×(List Ac)×(List Am)×Int))):=
 Bc (BS .i64 (ha+1))<|some (.next (ha+1,hb,hd,he,hf,hg,hh))
def HK (F:Nat)(l:(List (List An)))(ha:Int)(hd:An)(he:An)(hf:Int)(hg:(List Ac))(hb:(List Am))(hh:Int):Option (Stp (Int×An×An×Int×(List Ac)×(List Am)×Int) (Out (AP×Bool) (An×An×Int×(List Ac)×(List Am)×Int))):=
 B0 (decide (ha<(l.length:Int))) (Bc (CR ha (l.length:Int))<|B0 (((decide (ha=0))&&(decide (((Ap l ha).length:Int)=6)))) (Bc (CR 1 ((Ap l ha).length:Int))<|Bc (CR 2 ((Ap l ha).length:Int))<|Bc (CR 3 ((Ap l ha).length:Int))<|Bc (Dp 1 (Ap (Ap l ha) 3).length)<|Bc (CR 4 ((Ap l ha).length:Int))<|Bc (Dp 1 (Ap (Ap l ha) 4).length)<|Bc (CR 5 ((Ap l ha).length:Int))<|Bq (LS F (Ap (Ap l ha) 5)) λhi=>B0 (((!decide ((Ce (Ap (Ap l ha) 3))=0))||((!decide ((Ce (Ap (Ap l ha) 4))=0))||(!decide (hi.2=0))))) (some (.out (.ret ((AP.mk (Ap (Ap l ha) 1) (Ap (Ap l ha) 2) (AS (Ap (Ap l ha) 3)) hi.1 hb (AS (Ap (Ap l ha) 4))),false)))) (E9 ha (Ap (Ap l ha) 1) (Ap (Ap l ha) 2) (AS (Ap (Ap l ha) 3)) hi.1 hb (AS (Ap (Ap l ha) 4)))) (B0 (((decide (0<ha))&&(decide (((Ap l ha).length:Int)=4)))) (Bc (CR 0 ((Ap l ha).length:Int))<|Bc (Dp 1 (Ap (Ap l ha) 0).length)<|B0 (!decide ((Ce (Ap (Ap l ha) 0))=0)) (some (.out (.ret ((AP.mk hd he hf hg hb hh),false)))) (Bc (CR 1 ((Ap l ha).length:Int))<|Bc (CR 2 ((Ap l ha).length:Int))<|Bc (Dp 1 (Ap (Ap l ha) 2).length)<|B0 (!decide ((Ce (Ap (Ap l ha) 2))=0)) (some (.out (.ret ((AP.mk hd he hf hg hb hh),false)))) (Bc (CR 3 ((Ap l ha).length:Int))<|B0 (!decide ((Ap (Ap l ha) 3)=([]:An))) (Bq (LS F (Ap (Ap l ha) 3)) λhj=>B0 (!decide (hj.2=0)) (some (.out (.ret ((AP.mk hd he hf hg hb hh),false)))) (Bc (Dp 56 (hb.length+([(Am.mk (AS (Ap (Ap l ha) 0)) (Ap (Ap l ha) 1) hj.1 (AS (Ap (Ap l ha) 2)))]:List Am).length))<|E9 ha hd he hf hg (hb++([(Am.mk (AS (Ap (Ap l ha) 0)) (Ap (Ap l ha) 1) hj.1 (AS (Ap (Ap l ha) 2)))]:List Am)) hh)) (Bc (Dp 56 (hb.length+([(Am.mk (AS (Ap (Ap l ha) 0)) (Ap (Ap l ha) 1) ([]:List Ac) (AS (Ap (Ap l ha) 2)))]:List Am).length))<|E9 ha hd he hf hg (hb++([(Am.mk (AS (Ap (Ap l ha) 0)) (Ap (Ap l ha) 1) ([]:List Ac) (AS (Ap (Ap l ha) 2)))]:List Am)) hh)))) (some (.out (.ret ((AP.mk hd he hf hg hb hh),false)))))) (some (.out (.go (hd,he,hf,hg,hb,hh))))
def HJ (ha:An)(hb:An)(hd:Int)(he:(List Ac))(hf:(List Am))(hg:Int):Option (AP×Bool):=
 some ((AP.mk ha hb hd he hf hg),true)
def OT (F:Nat)(l:(List (List An))):Option (AP×Bool):=
 Bq (Cz (λσ=>HK F l σ.1 σ.2.1 σ.2.2.1 σ.2.2.2.1 σ.2.2.2.2.1 σ.2.2.2.2.2.1 σ.2.2.2.2.2.2) F (0,([]:An),([]:An),0,([]:List Ac),([]:List Am),0)) (Ch λν=>HJ ν.1 ν.2.1 ν.2.2.1 ν.2.2.2.1 ν.2.2.2.2.1 ν.2.2.2.2.2)
end Go.Proofs.YtfobhhegpkinaaaGreatDoor
namespace Go.Proofs.YtfobhhegpkinaaaGreatDoor.Q
open Go Go.RowKit
set_option linter.unusedVariables false
section
variable {P : Program} {n : Nat} {c : Cx} {l : Fr} {H : List Ent} {d : Option Nat} {ty rty t e : TypeId} {pos : String} {af : Array Edge} {g : Option (Nat × Bool)} {x : Operand} {sz : Nat}
end
set_option linter.unusedSimpArgs false
theorem DJ (s:ByteArray):MapKept.IsKey .string (.string s):=by simp[MapKept.IsKey]
theorem JC.keys {Z:Fz}:∀{f:List (List UInt8×Rp)} {es:List MapEntry},JC Z f es→∀x∈es,MapKept.IsKey .string x.key
 | [],[],_,x,hx=>by cases hx
 | p::f,e::es,⟨⟨h1,h2⟩,h3⟩,x,hx=>by
  rcases List.mem_cons.1 hx with rfl | hx
  ·rw[h1];exact DJ _
  ·exact JC.keys h3 x hx
theorem JC.at {Z:Fz}:∀{f:List (List UInt8×Rp)} {es:List MapEntry},JC Z f es→f.length=es.length∧∀(j:Nat) (e:MapEntry),es[j]? =some e→∃k r,f[j]? =some (k,r)∧e.key = .string (B k)∧r.p Z e.val
 | [],[],_=>⟨rfl,λj e h=>by simp at h⟩
 | p::f,e::es,⟨⟨h1,h2⟩,h3⟩=>by
  obtain⟨hl,ha⟩:=JC.at h3;refine⟨by simp[hl],λj e' hj=>?_⟩
  cases j with
  | zero=>simp at hj;subst hj;exact⟨p.1,p.2,rfl,h1,h2⟩
  | succ j=>simp at hj;simpa using ha j e' hj
theorem JC.of {Z:Fz}:∀{f:List (List UInt8×Rp)} {es:List MapEntry},f.length=es.length→(∀(j:Nat) (e:MapEntry),es[j]? =some e→∃k r,f[j]? =some (k,r)∧e.key = .string (B k)∧r.p Z e.val)→JC Z f es
 | [],[],_,_=>trivial
 | p::f,e::es,hl,h=>by
  obtain⟨k,r,h1,h2,h3⟩:=h 0 e rfl;simp at h1;subst h1;exact⟨⟨h2,h3⟩,JC.of (by simpa using hl) λj e' hj=>by simpa using h (j+1) e' (by simpa using hj)⟩
 | [],_::_,hl,_=>by simp at hl
 | _::_,[],hl,_=>by simp at hl
theorem JC.snoc {Z:Fz}{k:List UInt8}{r:Rp}{e:MapEntry}(h1:e.key = .string (B k))(h2:r.p Z e.val):∀{f:List (List UInt8×Rp)} {es:List MapEntry},JC Z f es→JC Z (f++[(k,r)]) (es++[e])
 | [],[],_=>⟨⟨h1,h2⟩,trivial⟩
 | p::f,e'::es,⟨h,h3⟩=>⟨h,JC.snoc h1 h2 h3⟩
theorem JC.filter {Z:Fz}(q:MapEntry→Bool):∀{f:List (List UInt8×Rp)} {es:List MapEntry},JC Z f es→∃g,JC Z g (es.filter q)∧g.Sublist f
 | [],[],_=>⟨[],trivial,List.Sublist.refl _⟩
 | p::f,e::es,⟨h,h3⟩=>by
  obtain⟨g,hg,hs⟩:=JC.filter q h3
  cases hq:q e with
  | true=>exact⟨p::g,by rw[List.filter_cons_of_pos hq];exact⟨h,hg⟩,hs.cons_cons p⟩
  | false=>exact⟨g,by rw[List.filter_cons_of_neg (by simp[hq])];exact hg,hs.cons p⟩
theorem PX {T:Type}:∀{m:List (An×T)} {k:An} {r:T},(m.map (·.1)).Nodup→(k,r)∈m→CT m k=some r
 | p::m,k,r,hn,h=>by
  rw[Aad,List.nodup_cons] at hn;rw[CT];rcases List.mem_cons.1 h with h | h
  ·subst h;rw[Zz rfl];rfl
  ·have hne : ¬ p.1=k:=λe=>hn.1 (by rw[e];exact List.mem_map.2 ⟨(k,r),h,rfl⟩);rw[Zy hne];exact PX hn.2 h
theorem Oa {T:Type}:∀{m:List (An×T)} {k:An},(∀p∈m,p.1≠k)→CT m k=none
 | [],_,_=>rfl
 | p::m,k,h=>by
  rw[CT,Zy (h p (by simp))];exact Oa λq hq=>h q (by simp[hq])
theorem YE {a b:List UInt8}(h:B a=B b):a=b:=by
 have:=congrArg ByteArray.toList h
 rwa [E1,E1] at this
theorem M8 {a b:List UInt8}(h:Value.string (B a) = .string (B b)):a=b:=YE (by cases h;rfl)
theorem Pb {Z:Fz}{m:List (List UInt8×Rp)}{es:List MapEntry}{ck:Nat}(h:Eo Z m es ck)(k:List UInt8) :
  (Instr.findNow .string (.string (B k)) es 0=some none∧CT m k=none∧∀p∈m,p.1≠k)∨∃j e r,Instr.findNow .string (.string (B k)) es 0=some (some (j,e.val))∧es[j]? =some e∧e.key = .string (B k)∧CT m k=some r∧r.p Z e.val:=by
 obtain⟨h1,h2,h3,f,h4,h5⟩:=h;obtain⟨hl,ha⟩:=h5.at;rcases MapKept.findNow_spec (DJ (B k)) es 0 h5.keys with⟨q1,q2⟩ | ⟨j,e,q1,q2,q3⟩
 ·have hne:∀p∈m,p.1≠k:=λp hp e=>by
   obtain⟨j,hj⟩:=List.mem_iff_getElem?.1 (h4.symm.subset hp);have hjl:j<es.length:=by rw[← hl];exact(List.getElem?_eq_some_iff.1 hj).1
   obtain⟨k',r',e1,e2,_⟩:=ha j es[j] (Zt hjl);rw[hj] at e1;cases e1;exact q2 es[j] (List.getElem_mem hjl) (by rw[e2,← e])
  exact .inl ⟨q1,Oa hne,hne⟩
 ·obtain⟨k',r,e1,e2,e3⟩:=ha j e q2;rw[q3] at e2;obtain rfl:=M8 e2;exact .inr ⟨j,e,r,by simpa using q1,q2,q3,PX h1 (h4.subset (Z4 e1)),e3⟩
section
variable {P : Program} {n : Nat} {c : Cx} {ops : Array Oper} {Q : Exit → Act → World → Prop} {rest : List Oper} {l : Fr} {H : List Ent} {d : Nat} {d' : Option Nat} {ty t kt et rty : TypeId} {pos : String} {af : Array Edge} {g : Option (Nat × Bool)} {x y u : Operand} {K : Act → World → Prop} {cx : Code}
variable {T : Type} {enc : T → Rp} {xs : List (An × T)} {z : T} {k : An} {zv : Value} {i b : Nat}
theorem GS {Z:Fz}{w:World}{m:List (List UInt8×Rp)}{rz:Rp}(ht:P.underlying t=some (.map kt et))(hk:P.underlying kt=some .string)(hz:∀w,(zeroValue et).run P w = .ok zv w)(hzr:rz.p Z zv)(hm:(Ent.map b m).holds Z w)(ok:Bool) :
  ∃v,((CT m k).getD rz).p Z v∧(Instr.lookup t (.map (some b)) (.string (B k)) ok).run P w = .ok (if ok then .tuple #[v,.bool (CT m k).isSome] else v) w:=by
 obtain⟨es,ck,h1,h2⟩:=hm;rcases Pb h2 k with⟨q1,q2,_⟩ | ⟨j,e,r,q1,_,_,q2,q3⟩
 ·exact⟨zv,by rw[q2];exact hzr,by simp[Instr.lookup,run_underlying ht,MapKept.run_getObj_map h1,MapKept.run_checkKey hk (DJ _),MapKept.run_findKey hk q1,hz,q2]⟩
 ·exact⟨e.val,by rw[q2];exact q3,by simp[Instr.lookup,run_underlying ht,MapKept.run_getObj_map h1,MapKept.run_checkKey hk (DJ _),MapKept.run_findKey hk q1,q2]⟩
theorem Na (enc:T→Rp)(xs:List (An×T))(k:An)(z:T):(CT (A8 enc xs) k).getD (enc z)=enc (B3 xs k z):=by
 rw[K7];unfold B3;cases CT xs k<;>rfl
theorem Rg (enc:T→Rp)(xs:List (An×T))(k:An):(CT (A8 enc xs) k).isSome=E3 xs k:=by
 rw[K7];unfold E3;cases CT xs k<;>rfl
theorem OJ (ht:P.underlying t=some (.map kt et))(hk:P.underlying kt=some .string)(hz:∀w,(zeroValue et).run P w = .ok zv w)(hzr:∀Z,(enc z).p Z zv)(hx:ev l x=some (rv (.map (some b))))(hi:H[i]? =some (.map b (A8 enc xs)))(hy:ev l y=some (rS k)) :
  Be P n c l H { dst:=d',op:=.lookup t x y true,type:=ty,pos:=pos,after:=af,guard:=g } (Cn [enc (B3 xs k z),rB (E3 xs k)]):=λa w Z ha hw=>by
 obtain⟨v,h1,h2⟩:=GS (k:=k) ht hk hz (hzr Z) (hw.ent hi) true;rw[Na] at h1;refine⟨.tuple #[v,.bool (E3 xs k)],⟨[v,.bool (E3 xs k)],rfl,h1,rfl,trivial⟩,?_⟩;rw[Rg] at h2;simp[execOp,ha.eval hx,ha.eval hy,h2]
theorem KV (ht:P.underlying t=some (.map kt et))(hk:P.underlying kt=some .string)(hz:∀w,(zeroValue et).run P w = .ok zv w)(hzr:∀Z,(enc z).p Z zv)(hx:ev l x=some (rv (.map (some b))))(hi:H[i]? =some (.map b (A8 enc xs)))(hy:ev l y=some (rS k)) :
  Be P n c l H { dst:=d',op:=.lookup t x y false,type:=ty,pos:=pos,after:=af,guard:=g } (enc (B3 xs k z)):=λa w Z ha hw=>by
 obtain⟨v,h1,h2⟩:=GS (k:=k) ht hk hz (hzr Z) (hw.ent hi) false;rw[Na] at h1;simp only[Z8,ZU] at h2;exact⟨v,h1,by simp[execOp,ha.eval hx,ha.eval hy,h2]⟩
theorem Eo.length {Z:Fz}{m:List (List UInt8×Rp)}{es:List MapEntry}{ck:Nat}(h:Eo Z m es ck):es.length=m.length:=by
 obtain⟨_,_,_,f,h4,h5⟩:=h;rw[← h5.at.1,h4.length_eq]
theorem U8 {m:List (List UInt8×Rp)}{N:Nat}(ht:P.underlying t=some (.map kt et))(hx:ev l x=some (rv (.map (some b))))(hi:H[i]? =some (.map b m))(hN:m.length=N) :
  Be P n c l H { dst:=d',op:=.call { callee:=.builtin .len,args:=#[x],argTypes:=#[t] },type:=ty,pos:=pos,after:=af,guard:=g } (rI .i64 N):=λa w Z ha hw=>CG<|by
 obtain⟨es,ck,h1,h2⟩:=hw.ent hi;have hl:es.size=N:=by rw[← hN,← h2.length];simp
 simp[execOp,resolve,invoke,builtin,ha.eval hx,Builtin.len_,run_underlying ht,goInt,MapKept.run_getObj_map h1,hl]
theorem IU (hn:Nat.blt d n=true)(h:∀b,WL P n c ops Q rest ((d,rv (.map (some b)))::l) (.map b []::H)) :
  WL P n c ops Q ({ dst:=some d,op:=.makeMap t none,type:=ty,pos:=pos,after:=af,guard:=none }::rest) l H:=
 Iz (λa w Z ha hw=>⟨_,w.alloc (.map #[] 0),_,_,Z,by simp[execOp,run_makeMap],Fz.le.refl _,rfl,
  hw.alloc _ (e:=.map w.heap.size []) ⟨#[],0,by simpa using heap_alloc_new w _,by simp,by simp,by simp,[],Zp _,trivial⟩ rfl,h w.heap.size⟩) hn
theorem Uv {m f:List (An×Rp)}(h:f.Perm m)(k:An)(r:Rp):(mput f k r).Perm (mput m k r):=h.map _
theorem RW {T:Type}:∀{f:List (An×T)} {j:Nat} {k:An} {r0:T} (r:T),(f.map (·.1)).Nodup→f[j]? =some (k,r0)→mput f k r=f.set j (k,r)
 | p::f,0,k,r0,r,hn,h=>by
  simp at h;subst h;rw[Aad,List.nodup_cons] at hn;have:mput f k r=f:=by
   unfold mput;rw[List.map_congr_left (g:=id) (λq hq=>?_),List.map_id];have hne : ¬ q.1=k:=λe=>hn.1 (by rw[← e];exact List.mem_map.2 ⟨q,hq,rfl⟩);rw[Zy hne];rfl
  show(bif decide (k=k) then(k,r) else(k,r0))::mput f k r=_;rw[Zz rfl,this];rfl
 | p::f,j+1,k,r0,r,hn,h=>by
  rw[Aad,List.nodup_cons] at hn;simp at h;have hne : ¬ p.1=k:=λe=>hn.1 (by rw[e];exact List.mem_map.2 ⟨(k,r0),Z4 h,rfl⟩);show(bif decide (p.1=k) then(k,r) else p)::mput f k r=_;rw[Zy hne,RW r hn.2 h];rfl
theorem RX {T:Type}:∀{f:List (An×T)} {j:Nat} {k:An} {r0:T},(f.map (·.1)).Nodup→f[j]? =some (k,r0)→mdel f k=f.eraseIdx j
 | p::f,0,k,r0,hn,h=>by
  simp at h;subst h;rw[Aad,List.nodup_cons] at hn;have:f.filter (λq=>!decide (q.1=k))=f:=List.filter_eq_self.2 λq hq=>by
   have hne : ¬ q.1=k:=λe=>hn.1 (by rw[← e];exact List.mem_map.2 ⟨q,hq,rfl⟩);simp[hne]
  unfold mdel;rw[List.filter_cons_of_neg (by simp),this];rfl
 | p::f,j+1,k,r0,hn,h=>by
  rw[Aad,List.nodup_cons] at hn;simp at h;have hne : ¬ p.1=k:=λe=>hn.1 (by rw[e];exact List.mem_map.2 ⟨(k,r0),Z4 h,rfl⟩);unfold mdel;rw[List.filter_cons_of_pos (by simp[hne])];show p::mdel f k=_;rw[RX hn.2 h];rfl
theorem Tg {T:Type}(m:List (An×T))(k:An)(r:T):(mput m k r).map (·.1)=m.map (·.1):=by
 unfold mput;rw[Aak];refine List.map_congr_left λp _=>?_;simp only[Function.comp]
 by_cases h:p.1=k
 ·rw[Zz h];exact h.symm
 ·rw[Zy h];rfl
theorem Th {T:Type}{m:List (An×T)}{k:An}{r:T}(h:CT m k=some r):E3 m k=true:=by unfold E3;rw[h];rfl
theorem Ti {T:Type}{m:List (An×T)}{k:An}(h:CT m k=none):E3 m k=false:=by unfold E3;rw[h];rfl
theorem Eo.put {Z:Fz}{m:List (An×Rp)}{es:List MapEntry}{ck j:Nat}{e:MapEntry}{k:An}{r0 r:Rp}{v:Value}(h:Eo Z m es ck)(he:es[j]? =some e)(hk:e.key = .string (B k))(hm:CT m k=some r0)(hr:r.p Z v) :
  Eo Z (mset m k r) (es.set j { e with key:=.string (B k),val:=v }) ck:=by
 obtain⟨h1,h2,h3,f,h4,h5⟩:=h;obtain⟨hl,ha⟩:=h5.at;have hjl:=(List.getElem?_eq_some_iff.1 he).1;unfold mset;rw[Th hm,Z1];obtain⟨k',r',e1,e2,_⟩:=ha j e he;rw[hk] at e2;obtain rfl:=M8 e2;have hfn:(f.map (·.1)).Nodup:=(h4.map (·.1)).nodup_iff.2 h1;refine⟨by rw[Tg];exact h1,?_,?_,f.set j (k,r),?_,JC.of (by simp[hl]) λi x hx=>?_⟩
 ·rw[List.map_set];have:(es.map (·.born)).set j e.born=es.map (·.born):=by
   apply List.ext_getElem?;intro i;rw[List.getElem?_set]
   split
   ·rename_i hij;subst hij
    simp[hjl,List.getElem?_eq_some_iff.1 he |>.2]
   ·rfl
  show((es.map (·.born)).set j e.born).Nodup;rw[this];exact h2
 ·intro x hx;rcases List.mem_or_eq_of_mem_set hx with hx | rfl
  ·exact h3 x hx
  ·exact h3 e (Z4 he)
 ·have:=Uv h4 k r
  rwa [RW r hfn e1] at this
 ·rw[List.getElem?_set] at hx ⊢
  split at hx
  ·rename_i hij;subst hij
   cases hx
   exact⟨k,r,by rw[Aai rfl,Aai (by rw[hl];exact hjl)],rfl,hr⟩
  ·rename_i hij
   rw[Aaa hij];exact ha i x hx
theorem Eo.ins {Z:Fz}{m:List (An×Rp)}{es:List MapEntry}{ck:Nat}{k:An}{r:Rp}{v:Value}(h:Eo Z m es ck)(hm:CT m k=none)(hk:∀p∈m,p.1≠k)(hr:r.p Z v) :
  Eo Z (mset m k r) (es++[{ key:=.string (B k),val:=v,born:=ck }]) (ck+1):=by
 obtain⟨h1,h2,h3,f,h4,h5⟩:=h;unfold mset;rw[Ti hm,Zx];have hp:=NZ k r m;refine⟨?_,?_,?_,f++[(k,r)],?_,JC.snoc rfl hr h5⟩
 ·rw[(hp.map (·.1)).nodup_iff,Aad,List.nodup_cons];exact⟨λhx=>by obtain⟨p,hp,e⟩:=List.mem_map.1 hx;exact hk p hp e,h1⟩
 ·rw[Aaf,List.nodup_append];refine⟨h2,by simp,λa ha b hb e=>?_⟩;simp at hb;subst hb;obtain⟨x,hx,e'⟩:=List.mem_map.1 ha;have:=h3 x hx;omega
 ·intro x hx;rcases List.mem_append.1 hx with hx | hx
  ·have:=h3 x hx;omega
  ·simp at hx;subst hx;exact Z3 _
 ·exact(List.perm_append_comm (l₁:=f) (l₂:=[(k,r)])).trans ((h4.cons (k,r)).trans hp.symm)
theorem Eo.del {Z:Fz}{m:List (An×Rp)}{es:List MapEntry}{ck j:Nat}{e:MapEntry}{k:An}(h:Eo Z m es ck)(he:es[j]? =some e)(hk:e.key = .string (B k)):Eo Z (mdel m k) (es.eraseIdx j) ck:=by
 obtain⟨h1,h2,h3,f,h4,h5⟩:=h;obtain⟨hl,ha⟩:=h5.at;obtain⟨k',r',e1,e2,_⟩:=ha j e he;rw[hk] at e2;obtain rfl:=M8 e2;have hfn:(f.map (·.1)).Nodup:=(h4.map (·.1)).nodup_iff.2 h1;have hs:=List.eraseIdx_sublist es j;refine⟨h1.sublist ((List.filter_sublist ..).map _),h2.sublist (hs.map _),λx hx=>h3 x (hs.subset hx),f.eraseIdx j,?_,JC.of (by rw[List.length_eraseIdx,List.length_eraseIdx,hl]) λi x hx=>?_⟩
 ·rw[← RX hfn e1];exact h4.filter _
 ·rw[List.getElem?_eraseIdx] at hx ⊢
  split at hx
  ·rename_i hij;rw[Aai hij];exact ha i x hx
  ·rename_i hij;rw[Aaa hij];exact ha (i+1) x hx
theorem Tj {m:List (An×Rp)}{k:An}(hk:∀p∈m,p.1≠k):mdel m k=m:=List.filter_eq_self.2 λp hp=>by simp[hk p hp]
theorem St.mapset {Z:Fz}{w:World}(h:St c H Z w){m m':List (An×Rp)}(hi:H[i]? =some (.map b m)){es es':Array MapEntry}{ck ck':Nat}(h1:w.heap[b]? =some (.map es ck))(h2:Eo Z m' es'.toList ck') :
  St c (H.set i (.map b m')) Z { w with heap:=w.heap.setIfInBounds b (.map es' ck') }:=by
 obtain⟨q1,q2⟩:=MapKept.heap_set (o':=.map es' ck') h1;exact h.set hi rfl rfl rfl (by simp) (λk _ hk=>q2 k (by simpa[Ent.foot] using hk)) ⟨es',ck',q1,h2⟩ (by simp[Ent.foot])
theorem O6 (s:ByteArray):Instr.sameBits 10000 (.string s) (.string s)=true:=by
 show(s ==s)=true;exact(MapKept.bytes_beq s s).2 rfl |> λh=>by simpa using h
theorem Xk {r:Rp}{m:List (An×Rp)}(ht:P.underlying t=some (.map kt et))(hk:P.underlying kt=some .string)(hx:ev l x=some (rv (.map (some b))))(hi:H[i]? =some (.map b m))(hy:ev l y=some (rS k))(hu:ev l u=some r){H':List Ent}(hH:H.set i (.map b (mset m k r))=H')(h:WL P n c ops Q rest l H') :
  WL P n c ops Q ({ dst:=none,op:=.mapUpdate t x y u,type:=ty,pos:=pos,after:=af,guard:=none }::rest) l H:=
 P3 λa w Z ha hw=>by
  obtain⟨es,ck,h1,h2⟩:=hw.ent hi;have hv:=ha.ev hu;subst hH;rcases Pb h2 k with⟨q1,q2,q3⟩ | ⟨j,e,r0,q1,q2,q3,q4,_⟩
  ·refine⟨_,_,?_,hw.mapset hi h1 (es':=es.push { key:=.string (B k),val:=a.eval u,born:=ck }) (by simpa using h2.ins q2 q3 hv),h⟩;simp[execOp,ha.eval hx,ha.eval hy,Instr.mapUpdate,run_underlying ht,MapKept.run_getObj_map h1,MapKept.run_checkKey hk (DJ _),MapKept.run_findKey hk q1,MapKept.run_setObj_map _ h1]
  ·have hje:es[j]? =some e:=by simpa using q2
   refine⟨_,_,?_,hw.mapset hi h1 (es':=es.modify j λe=>{ e with key:=.string (B k),val:=a.eval u }) (ck':=ck) (by
    have:=h2.put q2 q3 q4 hv;have e1:(es.modify j λe=>{ e with key:=.string (B k),val:=a.eval u }).toList=es.toList.set j { e with key:=.string (B k),val:=a.eval u }:=by
     rw[Array.toList_modify];rw[List.modify_eq_set,q2];rfl
    rw[e1];exact this),h⟩
   have hkey:((es[j]?).map (·.key)).getD (.string (B k)) = .string (B k):=by rw[hje];exact q3
   simp[execOp,ha.eval hx,ha.eval hy,Instr.mapUpdate,run_underlying ht,MapKept.run_getObj_map h1,MapKept.run_checkKey hk (DJ _),MapKept.run_findKey hk q1,MapKept.run_setObj_map _ h1,hkey,Instr.keyThatStays,O6]
theorem Xa {op:Op}{ty:TypeId}{pos:String}{af:Array Edge}
  (hr:∀a w Z,CP n l a Z→St c H Z w→∃v w' H',(execOp a.eval { dst:=none,op:=op,type:=ty,pos:=pos,after:=af,guard:=none }).run P w = .ok (.value v) w'∧St c H' Z w'∧WL P n c ops Q rest l H') :
  WL P n c ops Q ({ dst:=none,op:=op,type:=ty,pos:=pos,after:=af,guard:=none }::rest) l H:=λa w Z ha hw=>
 wpList_plain rfl λK hK=>by
  obtain⟨v,w',H',h1,h2,h3⟩:=hr a w Z ha hw;unfold Oper.wp;rw[h1];exact hK _ _ (h3 _ w' Z (ha.put_none _) h2)
theorem Xl {m:List (An×Rp)}(ht:P.underlying t=some (.map kt et))(hk:P.underlying kt=some .string){kt':TypeId}(hx:ev l x=some (rv (.map (some b))))(hi:H[i]? =some (.map b m))(hy:ev l y=some (rS k)){H':List Ent}(hH:H.set i (.map b (mdel m k))=H')(h:WL P n c ops Q rest l H') :
  WL P n c ops Q ({ dst:=none,op:=.call { callee:=.builtin .delete,args:=#[x,y],argTypes:=#[t,kt'] },type:=ty,pos:=pos,after:=af,guard:=none }::rest) l H:=
 Xa (λa w Z ha hw=>by
  obtain⟨es,ck,h1,h2⟩:=hw.ent hi;subst hH;rcases Pb h2 k with⟨q1,q2,q3⟩ | ⟨j,e,r0,q1,q2,q3,q4,_⟩
  ·refine⟨.tuple #[],_,_,?_,hw.mapset hi h1 (es':=es) (ck':=ck) (by rw[Tj q3];exact h2),h⟩;simp[execOp,resolve,invoke,builtin,ha.eval hx,ha.eval hy,Builtin.delete_,run_underlying ht,MapKept.run_getObj_map h1,MapKept.run_checkKey hk (DJ _),MapKept.run_findKey hk q1,MapKept.run_setObj_map _ h1]
  ·refine⟨.tuple #[],_,_,?_,hw.mapset hi h1 (es':=es.eraseIdxIfInBounds j) (ck':=ck) (by
    have e1:(es.eraseIdxIfInBounds j).toList=es.toList.eraseIdx j:=by simp
    rw[e1];exact h2.del q2 q3),h⟩
   simp[execOp,resolve,invoke,builtin,ha.eval hx,ha.eval hy,Builtin.delete_,run_underlying ht,MapKept.run_getObj_map h1,MapKept.run_checkKey hk (DJ _),MapKept.run_findKey hk q1,MapKept.run_setObj_map _ h1])
theorem G6 {v:T}(ht:P.underlying t=some (.map kt et))(hk:P.underlying kt=some .string)(hx:ev l x=some (rv (.map (some b))))(hi:H[i]? =some (.map b (A8 enc xs)))(hy:ev l y=some (rS k))(hu:ev l u=some (enc v)){H':List Ent}(hH:H.set i (.map b (A8 enc (mset xs k v)))=H')(h:WL P n c ops Q rest l H') :
  WL P n c ops Q ({ dst:=none,op:=.mapUpdate t x y u,type:=ty,pos:=pos,after:=af,guard:=none }::rest) l H:=Xk ht hk hx hi hy hu (by rw[← UO];exact hH) h
theorem RC (ht:P.underlying t=some (.map kt et))(hk:P.underlying kt=some .string){kt':TypeId}(hx:ev l x=some (rv (.map (some b))))(hi:H[i]? =some (.map b (A8 enc xs)))(hy:ev l y=some (rS k)){H':List Ent}(hH:H.set i (.map b (A8 enc (mdel xs k)))=H')(h:WL P n c ops Q rest l H') :
  WL P n c ops Q ({ dst:=none,op:=.call { callee:=.builtin .delete,args:=#[x,y],argTypes:=#[t,kt'] },type:=ty,pos:=pos,after:=af,guard:=none }::rest) l H:=Xl ht hk hx hi hy (by rw[← US];exact hH) h
end
theorem KD {q:MapEntry→Bool}:∀{l:List MapEntry} {j:Nat} {e:MapEntry},(l.map (·.born)).Nodup→l[j]? =some e→l.filter (λx=>!(x.born ==e.born))=l.eraseIdx j
 | x::l,0,e,hn,h=>by
  simp at h;subst h;rw[Aad,List.nodup_cons] at hn;rw[List.filter_cons_of_neg (by simp),List.filter_eq_self.2 λy hy=>?_];rfl;have:y.born≠x.born:=λe=>hn.1 (by rw[← e];exact List.mem_map.2 ⟨y,hy,rfl⟩);simp[this]
 | x::l,j+1,e,hn,h=>by
  rw[Aad,List.nodup_cons] at hn;simp at h;have hne:x.born≠e.born:=λe'=>hn.1 (by rw[e'];exact List.mem_map.2 ⟨e,Z4 h,rfl⟩);rw[List.filter_cons_of_pos (by simp[hne]),KD (q:=q) hn.2 h];rfl
theorem JC.erase {Z:Fz}:∀{f:List (List UInt8×Rp)} {es:List MapEntry} (j:Nat),JC Z f es→JC Z (f.eraseIdx j) (es.eraseIdx j)
 | [],[],j,_=>by simp[JC]
 | p::f,e::es,0,⟨_,h⟩=>h
 | p::f,e::es,j+1,⟨h,h3⟩=>⟨h,JC.erase j h3⟩
theorem RM {α:Type}:∀{l:List α} {j:Nat} {a:α},l[j]? =some a→l.Perm (a::l.eraseIdx j)
 | x::l,0,a,h=>by simp at h;subst h;exact Zp _
 | x::l,j+1,a,h=>by
  simp at h;exact((RM h).cons x).trans (List.Perm.swap a x _)
theorem Uw {T:Type}{enc:T→Rp}{ys:List (An×T)}{f:List (An×Rp)}{j:Nat}{k:An}{r:Rp}(h:f.Perm (A8 enc ys))(hj:f[j]? =some (k,r)):∃ (p:An×T) (ys':List (An×T)),ys.Perm (p::ys')∧p.1=k∧enc p.2=r∧(f.eraseIdx j).Perm (A8 enc ys'):=by
 have hm:(k,r)∈A8 enc ys:=h.subset (Z4 hj);obtain⟨p,hp,e⟩:=List.mem_map.1 hm;simp only[Prod.mk.injEq] at e;obtain⟨a,b,rfl⟩:=List.append_of_mem hp;refine⟨p,a++b,List.perm_middle,e.1,e.2,?_⟩;have h1:f.Perm ((k,r)::f.eraseIdx j):=by
  exact RM hj
 have h2:(A8 enc (a++p::b)).Perm ((k,r)::A8 enc (a++b)):=by
  have:(A8 enc (a++p::b)).Perm (A8 enc (p::(a++b))):=List.perm_middle.map _;refine this.trans ?_;show((p.1,enc p.2)::A8 enc (a++b)).Perm _;rw[e.1,e.2]
 exact((h1.symm.trans h).trans h2).cons_inv
section
variable {P : Program} {n : Nat} {c : Cx} {ops : Array Oper} {Q : Exit → Act → World → Prop} {rest : List Oper} {l : Fr} {H : List Ent} {d : Nat} {ty t kt et rty : TypeId} {pos : String} {af : Array Edge} {x y u : Operand} {K : Act → World → Prop} {cx : Code}
variable {T : Type} {enc : T → Rp} {xs ys : List (An × T)} {i b it : Nat} {m lf : List (List UInt8 × Rp)} {cur : Option (List UInt8 × Rp)} {k : An} {r : Rp}
end
theorem Bd.d1 {Z:Fz}{r0:Rp}{us:List Value}(h:Bd Z [r0] us):∃y0,us=[y0]∧Bd Z [r0] [y0]:=by
 match us,h.length with
 | [y0],_=>exact⟨_,rfl,h⟩
theorem Bd.d4 {Z:Fz}{r0 r1 r2 r3:Rp}{us:List Value}(h:Bd Z [r0,r1,r2,r3] us):∃y0 y1 y2 y3,us=[y0,y1,y2,y3]∧Bd Z [r0,r1,r2,r3] [y0,y1,y2,y3]:=by
 match us,h.length with
 | [y0,y1,y2,y3],_=>exact⟨_,_,_,_,rfl,h⟩
theorem Qk {α:Type}{sz:Nat}:∀{xs:List (List α)} (hs:∀c∈xs,c.length=sz) {k:Nat} {cl:List α},xs[k]? =some cl→∀(off m:Nat),off+m≤sz→((xs.flatten).drop (k*sz+off)).take m=(cl.drop off).take m
 | [],_,k,cl,h,_,_,_=>by simp at h
 | x::r,hs,0,cl,h,off,m,hm=>by
  simp at h;subst h;have hx:=hs x (by simp);simp only[List.flatten_cons,Nat.zero_mul,ZT];rw[List.drop_append_of_le_length (by omega),List.take_append_of_le_length (by simp;omega)]
 | x::r,hs,k+1,cl,h,off,m,hm=>by
  have hx:=hs x (by simp);simp only[List.flatten_cons];have e:(k+1)*sz+off=x.length+(k*sz+off):=by rw[hx,Nat.succ_mul];omega
  rw[e,List.drop_length_add_append];exact Qk (λc hc=>hs c (by simp[hc])) (by simpa using h) off m hm
section
variable {P : Program} {n : Nat} {c : Cx} {ops : Array Oper} {Q : Exit → Act → World → Prop} {rest : List Oper} {l : Fr} {H H' : List Ent} {d : Nat} {d' : Option Nat} {ty t e rty : TypeId} {pos : String} {af : Array Edge} {g : Option (Nat × Bool)} {x y u : Operand} {v : Value} {sz m : Nat}
theorem IZ {α:Type}[Inhabited α]{ys:List α}{enc:α→List Rp}{i off:Nat}{j:Int}{rs:List Rp}(hag:∀w,(isAgg t).run P w = .ok true w)(hsz:∀w,(sizeOf t).run P w = .ok m w)(hx:ev l x=some (rv (DN sz v j.toNat off)))(hi:H[i]? =some (.row v e sz (ys.map enc)))(hg:CR j (ys.length:Int)=true)
  (hle:Nat.ble (off+m) sz=true) (hr:((enc (Ap ys j)).drop off).take m=rs) :
  Be P n c l H { dst:=d',op:=.load t x,type:=ty,pos:=pos,after:=af,guard:=g } (B9 rs):=λa w Z ha hw=>by
 obtain⟨hs,us,⟨h1,h2⟩,h3⟩:=hw.ent hi;have h0:=(CB hg).1;have hlt:j.toNat<ys.length:=by have:=(CB hg).2;omega
 have eat:Ap ys j=ys[j.toNat]:=by simp[Ap,hlt]
 have hle':off+m≤sz:=by simpa using hle
 have hcl:(ys.map enc)[j.toNat]? =some (enc ys[j.toNat]):=by simp[hlt]
 have hcz:(enc ys[j.toNat]).length=sz:=hs _ (Z4 hcl);have hseg:=Qk hs hcl off m hle';rw[← eat,hr] at hseg;have h4:=(h3.drop (j.toNat*sz+off)).take m;rw[hseg] at h4;have hrl:rs.length=m:=by rw[← hr,eat];simp;omega
 rcases h2 with⟨rfl,hz⟩ | ⟨b,cap,cur,rfl,_,hg',hcap,hm,hcs,htk⟩
 ·simp at hz;subst hz;simp at hlt
 ·have h5:=run_loadCells_list (P:=P) w ⟨b,j.toNat*sz+off,none⟩ ((us.drop (j.toNat*sz+off)).take m) (λq w' hq=>by
   rw[G4,cell_of_row w b _ cur e (0,0) hg'];rw[ZP] at hq
   split at hq
   ·rw[List.getElem?_drop,← htk,ZP] at hq
    split at hq
    ·simpa using hq
    ·cases hq
   ·cases hq)
  rw[h4.length,hrl] at h5;exact⟨.agg ((us.drop (j.toNat*sz+off)).take m).toArray,⟨_,rfl,h4⟩,by simp[execOp,ha.eval hx,DN,Instr.loadAt,Instr.sureAddr,loadVar,hag,hsz,h5]⟩
def Hl (sz:Nat)(v:Value)(j:Nat):Value:=match v with
 | .slice A len cap=>.slice (if cap=j then A else A.map (·.add (j*sz))) (len-j) (cap-j)
 | v=>v
theorem Xx {α:Type}{ys:List α}{enc:α→List Rp}{i:Nat}{k:IntKind}{j:Int}(ht:P.underlying t=some (.slice e))(hz:∀w,(sizeOf e).run P w = .ok sz w)(hx:ev l x=some (rv v))(hy:ev l y=some (rI k j))(hi:H[i]? =some (.row v e sz (ys.map enc)))(hg:Ep j (ys.length:Int)=true) :
  Be P n c l H { dst:=d',op:=.slice t x (some y) none none,type:=ty,pos:=pos,after:=af,guard:=g } (rv (Hl sz v j.toNat)):=λa w Z ha hw=>CG<|by
 obtain⟨h0,us,⟨h1,h2⟩,h3⟩:=hw.ent hi;have g0:=(BH hg).1;have g1:=(BH hg).2;rcases h2 with⟨rfl,hz0⟩ | ⟨b,cap,cur,rfl,_,hb,hcap,hm,hcs,htk⟩
 ·simp at hz0;subst hz0;obtain rfl:j=0:=by simp at g1;omega
  simp[execOp,ha.eval hx,ha.eval hy,Instr.sliceAt,Instr.slice,run_underlying ht,Instr.sliceBounds,Bb (m:=0) _ _ (ZJ 0) (ZJ 0),hz,Hl]
 ·simp only[Zw] at h1 hcap htk;simp[execOp,ha.eval hx,ha.eval hy,Instr.sliceAt,Instr.slice,run_underlying ht,Instr.sliceBounds,Bb (m:=ys.length) _ _ g0 g1,hz,Hl]
theorem Ns (zc:List Value)(hz:0<zc.length):∀k,(Builtin.zeroCells zc.toArray k).toList=(List.replicate k zc).flatten:=by
 intro k;have hl:((List.replicate k zc).flatten).length=k*zc.length:=by simp
 apply List.ext_getElem
 ·simp[Builtin.zeroCells]
 ·intro i h1 h2;have hi:i<k*zc.length:=by rw[← hl];exact h2
  have hm:i % zc.length<zc.length:=Nat.mod_lt _ hz;have hq:i/zc.length<k:=by rw[Nat.div_lt_iff_lt_mul hz];exact hi
  have e1:(Builtin.zeroCells zc.toArray k).toList[i]=zc[i % zc.length]:=by
   simp[Builtin.zeroCells,hm]
  have e2:=IG (sz:=zc.length) (vs:=List.replicate k zc) (λc hc=>by rw[List.eq_of_mem_replicate hc]) (i:=i/zc.length) (c:=zc) (by simp[hq]) (j:=i % zc.length) (u:=zc[i % zc.length]) (by simp[hm]);have e3:i/zc.length*zc.length+i % zc.length=i:=Nat.div_add_mod' i zc.length;rw[e3] at e2;rw[e1];exact(Option.some.inj ((Zt h2).symm.trans e2)).symm
theorem O1 {α:Type}{ys:List α}{enc:α→List Rp}{i:Nat}{j:Int}{z0:α}{zz:Value}{zc:List Value}(ht:P.underlying t=some (.slice e))(hzv:∀w,(zeroValue e).run P w = .ok zz w)(hzz:zz.cells.toList=zc)(hzl:zc.length=sz)(hsz:Nat.blt 0 sz=true)(hone:∀v∈zc,v.oneCell'=true)(hzr:∀Z,Bd Z (enc z0) zc)(hel:(enc z0).length=sz)
  (hx:ev l x=some (rv (Hl sz v j.toNat))) (hi:H[i]? =some (.row v e sz (ys.map enc))) (hg:Ep j (ys.length:Int)=true) (hH:H.set i (.row v e sz ((ys.take j.toNat++List.replicate (ys.length-j.toNat) z0).map enc))=H') (h:WL P n c ops Q rest l H') :
  WL P n c ops Q ({ dst:=none,op:=.call { callee:=.builtin .clear,args:=#[x],argTypes:=#[t] },type:=ty,pos:=pos,after:=af,guard:=none }::rest) l H:=
 Xa (λa w Z ha hw=>by
  obtain⟨h0,us,⟨h1,h2⟩,h3⟩:=hw.ent hi;have g0:=(BH hg).1;have g1:=(BH hg).2;subst hH;have hz0:0<sz:=by simpa using hsz
  have hcells:zz.cells=zc.toArray:=by rw[← hzz]
  rcases h2 with⟨rfl,hz1⟩ | ⟨b,cap,cur,rfl,_,hb,hcap,hm,hcs,htk⟩
  ·simp at hz1;subst hz1;refine⟨.tuple #[],w,_,?_,hw.set (e':=.row (.slice none 0 0) e sz ((([]:List α).take j.toNat++List.replicate (([]:List α).length-j.toNat) z0).map enc)) hi rfl rfl rfl (ZC _) (λ_ _ _=>rfl) ⟨by simp,[],⟨by simp,.inl ⟨rfl,by simp⟩⟩,by simp[Bd]⟩ (by simp[Ent.foot,Value.ownBlock]),h⟩
   ·have e0:Hl sz (.slice none 0 0) j.toNat = .slice none 0 0:=by simp[Hl]
    simp[execOp,resolve,invoke,builtin,ha.eval hx,e0,Builtin.clear_,run_underlying ht]
  ·simp only[Zw] at h1 hcap htk;have hjl:j.toNat≤ys.length:=by omega
   by_cases hjn:ys.length=j.toNat
   ·refine⟨.tuple #[],w,_,?_,?_,h⟩
    ·have hn0:ys.length-j.toNat=0:=by omega
     simp only[execOp,resolve,invoke,builtin,ha.eval hx,Hl,hn0]
     by_cases hc:cap=j.toNat
     ·simp[ha.eval hx,Hl,hn0,hc,Builtin.clear_,run_underlying ht]
     ·simp[ha.eval hx,Hl,hn0,hc,Builtin.clear_,run_underlying ht]
    ·have e0:ys.take j.toNat++List.replicate (ys.length-j.toNat) z0=ys:=by rw[← hjn];simp
     rw[e0];have:H.set i (.row (.slice (some ⟨b,0,none⟩) (ys.map enc).length cap) e sz (ys.map enc))=H:=by
      obtain⟨hl,he⟩:=List.getElem?_eq_some_iff.1 hi;rw[← he,List.set_getElem_self]
     rw[this];exact hw
   ·have hc : ¬ cap=j.toNat:=by omega
    obtain⟨q,hq⟩:∃q,ys.length-j.toNat=q+1:=⟨ys.length-j.toNat-1,by omega⟩
    have hin:j.toNat*sz+(q+1)*sz=ys.length*sz:=by rw[← Nat.add_mul];congr 1;omega
    have hlen:((List.replicate (q+1) zc).flatten).length=(q+1)*sz:=by simp[hzl]
    have hcc:ys.length*sz≤cap*sz:=Nat.mul_le_mul_right _ hcap;have h5:=run_storeCells_at P b (j.toNat*sz) e ((List.replicate (q+1) zc).flatten) 0 cur w hb (by rw[hlen];omega) (λv hv=>by
     obtain⟨cl,hcl,hv'⟩:=List.mem_flatten.1 hv;rw[List.eq_of_mem_replicate hcl] at hv';exact hone v hv')
    simp only[Nat.add_zero] at h5;rw[hlen,hin] at h5;refine⟨.tuple #[],w.setRow b (cur.toList.take (j.toNat*sz)++(List.replicate (q+1) zc).flatten++cur.toList.drop (ys.length*sz)).toArray,_,?_,?_,h⟩
    ·have hzc:=Ns zc (by omega) (q+1);have e1:(a.eval x) = .slice (some ⟨b,j.toNat*sz,none⟩) (q+1) (cap-j.toNat):=by
      rw[ha.eval hx];simp[Hl,hc,hq,G4]
     simp[execOp,resolve,invoke,builtin,e1,Builtin.clear_,run_underlying ht,hzv,hcells,hzc,h5]
    ·refine hw.set hi rfl rfl rfl (by simp[World.setRow]) (λk _ hk=>?_) ⟨?_,us.take (j.toNat*sz)++(List.replicate (q+1) zc).flatten,⟨?_,.inr ⟨b,cap,_,?_,ZV _,setRow_heap w b cur _ e (0,0) hb,?_,hm,?_,?_⟩⟩,?_⟩ (by simp[Ent.foot,Value.ownBlock])
     ·simp only[Ent.foot,Value.ownBlock,Option.mem_toList,Option.mem_def,Option.some.injEq] at hk;simp only[World.setRow,Array.getElem?_modify];rw[Aaa hk]
     ·intro cl hcl;rw[Aaf] at hcl;rcases List.mem_append.1 hcl with h' | h'
      ·rw[List.map_take] at h';exact h0 cl (List.mem_of_mem_take h')
      ·rw[List.map_replicate] at h';rw[List.eq_of_mem_replicate h'];exact hel
     ·rw[Zs,hlen];simp[Nat.min_eq_left hjl,h1,hq];have:j.toNat*sz≤ys.length*sz:=Nat.mul_le_mul_right _ hjl
      first | rw[← Nat.add_mul] | (rw[Nat.min_eq_left this,← Nat.add_mul])
     ·simp[Nat.min_eq_left hjl];omega
     ·simp;omega
     ·have:j.toNat*sz≤ys.length*sz:=Nat.mul_le_mul_right _ hjl;rw[List.size_toArray,Zs,Zs,hlen,ZY,ZS,Array.length_toList,Nat.min_eq_left (by omega)];omega
     ·have:j.toNat*sz≤ys.length*sz:=Nat.mul_le_mul_right _ hjl;have e2:((ys.take j.toNat++List.replicate (ys.length-j.toNat) z0).map enc).length*sz=(cur.toList.take (j.toNat*sz)++(List.replicate (q+1) zc).flatten).length:=by
       rw[Zs,hlen];simp[Nat.min_eq_left hjl,hq];rw[Nat.min_eq_left (by omega),← Nat.add_mul]
      rw[e2,List.take_left' rfl]
      congr 1
      rw[← htk,List.take_take,Nat.min_eq_left this]
     ·rw[Aaf,List.flatten_append,List.map_take,List.map_replicate,hq];refine Bd.append ?_ ?_
      ·have:((ys.map enc).take j.toNat).flatten=(ys.map enc).flatten.take (j.toNat*sz):=by
        clear h3 h1 htk hcs hcap g1 hi hw h5 hin hcc hlen hjn hc hq hjl hm hb;generalize ys.map enc=zs at h0;have key:∀(zs:List (List Rp)) (k:Nat),(∀c∈zs,c.length=sz)→(zs.take k).flatten=zs.flatten.take (k*sz):=by
         intro zs
         induction zs with
         | nil=>intro k _;simp
         | cons z zs ih=>
          intro k hk
          cases k with
          | zero=>simp
          | succ k=>
           have hzl:=hk z (by simp);simp only[List.take_succ_cons,List.flatten_cons];rw[ih k (λc hc=>hk c (by simp[hc]))];have e1:(k+1)*sz=z.length+k*sz:=by rw[hzl,Nat.succ_mul];omega
           rw[e1,List.take_length_add_append]
        exact key zs _ h0
       rw[this];exact h3.take _
      ·clear h5 hin hlen hq;generalize q+1=k
       induction k with
       | zero=>exact trivial
       | succ k ih=>rw[List.replicate_succ,List.replicate_succ,List.flatten_cons,List.flatten_cons];exact(hzr Z).append ih)
end
abbrev Ux:=Nat→Nat→Value×Nat
def Ag (k:Nat)(u u':Ux):Prop:=∀j,j<k→u j=u' j
structure Sy where
 deps:List Nat
 r:Ux→Rp
 lv:Nat:=0
 fx:Bool:=false
 old:List Nat:=[]
def TA (sp:List Sy)(i:Nat):Sy:=sp.getD i { deps:=[],r:=λ_=>rv undef }
def YK (sp:List Sy)(u:Ux):List Sp:=sp.map λs=>⟨s.deps,s.r u,0⟩
def Su:List Sy→Prop
 | []=>True
 | s::r=>(∀u u',Ag s.lv u u'→s.r u=s.r u')∧Su r
theorem Su.at:∀{sp:List Sy},Su sp→∀{i:Nat} {s:Sy},sp[i]? =some s→∀u u',Ag s.lv u u'→s.r u=s.r u'
 | [],_,i,s,h=>by simp at h
 | x::sp,⟨h1,h2⟩,0,s,h=>by simp at h;subst h;exact h1
 | x::sp,⟨h1,h2⟩,i+1,s,h=>Su.at h2 (by simpa using h)
def cnt (S:Nat→Bool)(is:List Nat):Nat:=(is.filter S).length
section
variable (P : Program) (n : Nat) (c : Cx) (opsA : Array Oper) (Q : Exit → Act → World → Prop)
def Zj (l:Fr)(H:List Ent)(o:Oper)(k:Nat)(u:Ux)(r:Ux→Rp)(H1:Ux→List Ent):Prop:=
 ∀a w Z (K:Act→World→Prop),CP n l a Z→St c H Z w→(∀u' v w' Z',Ag k u u'→Fz.le Z Z'→(r u').p Z' v→St c (H1 u') Z' w'→K (a.put o.dst v) w')→
  Region.wanted o (yielded opsA a.tmps)=true∧o.wp P a w K Q
def Zg (ops:List Oper)(sp:List Sy)(l0 lw:Fr)(is:List Nat)(hs:List (Ux→List Ent))(i:Nat)(o:Oper):Prop:=
 match is.findIdx? (λx=>Nat.beq x i) with
 | some k=>∀u,Zj P n c opsA Q (EI lw (TA sp i).old (BV ops (YK sp u) (TA sp i).deps l0)) (hs.getD k (λ_=>[]) u) o k u (TA sp i).r (hs.getD (k+1) (λ_=>[]))
 | none=>if (TA sp i).fx=true then ∀u,DG P n c opsA Q (EI lw (TA sp i).old (BV ops (YK sp u) (TA sp i).deps l0)) (hs.getD (TA sp i).lv (λ_=>[]) u) o ((TA sp i).r u) (hs.getD (TA sp i).lv (λ_=>[]) u)
  else ∀u k,k≤is.length→DG P n c opsA Q (EI lw (TA sp i).old (BV ops (YK sp u) (TA sp i).deps l0)) (hs.getD k (λ_=>[]) u) o ((TA sp i).r u) (hs.getD k (λ_=>[]) u)
def WX (ops:List Oper)(sp:List Sy)(l0 lw:Fr)(is:List Nat)(hs:List (Ux→List Ent)):Nat→List Oper→Prop
 | i,o::rest=>Zg P n c opsA Q ops sp l0 lw is hs i o∧WX ops sp l0 lw is hs (i+1) rest
 | _,[]=>True
end
section
variable {P : Program} {n : Nat} {c : Cx} {opsA : Array Oper} {Q : Exit → Act → World → Prop} {l l0 lw : Fr} {H : List Ent} {hs : List (Ux → List Ent)} {sp : List Sy} {is : List Nat}
theorem WX.at {ops:List Oper}:∀{k:Nat} {rest:List Oper},WX P n c opsA Q ops sp l0 lw is hs k rest→∀(t:Nat) o,rest[t]? =some o→Zg P n c opsA Q ops sp l0 lw is hs (k+t) o
 | k,o::rest,⟨h1,h2⟩,t,o',ht=>by
  cases t with
  | zero=>simp at ht;subst ht;exact h1
  | succ t=>
   have:=WX.at h2 t o' (by simpa using ht);rw[show k+(t+1)=k+1+t from by omega];exact this
 | _,[],_,t,o,h=>by simp at h
def WZ (p:List Ent→Prop)(u:Ux):List (Ux→List Ent)→Prop
 | []=>True
 | f::r=>p (f u)∧WZ p u r
theorem WZ.at {p:List Ent→Prop}{u:Ux}:∀{hs:List (Ux→List Ent)},WZ p u hs→∀k,k<hs.length→p (hs.getD k (λ_=>[]) u)
 | [],_,k,h=>absurd h (Nat.not_lt_zero _)
 | f::r,⟨h1,h2⟩,0,_=>h1
 | f::r,⟨h1,h2⟩,k+1,h=>WZ.at h2 k (by simpa using h)
end
section
variable {P : Program} {n : Nat} {c : Cx} {opsA : Array Oper} {Q : Exit → Act → World → Prop} {l : Fr} {H : List Ent} {d : Nat} {x y : Operand} {ty t e : TypeId} {pos : String} {af : Array Edge} {v : Value} {sz : Nat}
end
end Go.Proofs.YtfobhhegpkinaaaGreatDoor.Q
namespace Go.Proofs.YtfobhhegpkinaaaGreatDoor
open Go
end Go.Proofs.YtfobhhegpkinaaaGreatDoor
namespace Go.Proofs.YtfobhhegpkinaaaGreatDoor.Q
open Go Go.RowKit
set_option linter.unusedVariables false
section
variable {P : Program} {n : Nat} {c : Cx} {ops : Array Oper} {Q : Exit → Act → World → Prop} {rest : List Oper} {l : Fr} {H : List Ent} {d : Nat} {d' : Option Nat} {t kt et ty : TypeId} {pos : String} {af : Array Edge} {g : Option (Nat × Bool)} {x y u : Operand} {b i : Nat} {T : Type} {enc : T → Rp} {xs : List (Int × T)} {z : T} {zv : Value}
theorem Pq.push {Z:Fz}{k:Int}{r:Rp}{v:Value}(hv:r.p Z v)(ck:Nat):∀{m:List (Int×Rp)} {es:List MapEntry},Pq Z m es→Pq Z (m++[(k,r)]) (es++[⟨.int .i64 k,v,ck⟩])
 | [],[],_=>⟨⟨rfl,hv⟩,trivial⟩
 | p::m,e::es,⟨h1,h2⟩=>⟨h1,h2.push hv ck⟩
end
set_option linter.unusedSimpArgs false
def XQ (k:Nat)(i:Int)(off:Nat)(Z:Fz)(v:Value):Prop:=if i<0 then v = .pointer none else ∃b,Z.nm k i.toNat=some b∧v = .pointer (some ⟨b,off,none⟩)
def Zh (k:Nat)(i:Int)(off:Nat):Rp:=⟨XQ k i off,fun {Z Z' v} h hp=>by
 unfold XQ at *
 split
 ·rename_i h0;rwa [Aai h0] at hp
 ·rename_i h0;rw[Aaa h0] at hp;obtain⟨b,h1,h2⟩:=hp;exact⟨b,h.nm k _ b h1,h2⟩,true,λ_ Z v hp=>by
 change XQ k i off Z v at hp
 unfold XQ at hp
 split at hp
 ·rw[hp];rfl
 ·obtain⟨b,_,h2⟩:=hp;rw[h2];rfl⟩
section
variable {P : Program} {n : Nat} {c : Cx} {ops : Array Oper} {Q : Exit → Act → World → Prop} {rest : List Oper} {l : Fr} {H H' : List Ent} {d : Nat} {d' : Option Nat} {x y : Operand} {ty t t' e : TypeId} {pos : String} {af : Array Edge} {g : Option (Nat × Bool)} {v u : Value} {r : Rp} {sz k : Nat} {pv : Value} {α : Type} [Inhabited α] {xs : List α} {enc : α → List Rp}
theorem CP.re {a:Act}{Z:Fz}{d:Nat}{q r:Rp}(h:CP n l a Z)(hl:look l d=some q)(hq:∀v,q.p Z v→r.p Z v):CP n ((d,r)::l) a Z:=⟨h.size,h.defers,λi u hi=>by
 rw[Cy] at hi
 split at hi
 ·rename_i e;subst e;simp at hi;subst hi
  obtain⟨v,h1,h2⟩:=h.tm d q hl;exact⟨v,h1,hq v h2⟩
 ·exact h.tm i u hi⟩
theorem XQ.of {Z:Fz}{b N:Nat}(h:Z.nm k N=some b):∀v,(rv (.pointer (some ⟨b,0,none⟩))).p Z v→(Zh k (N:Int) 0).p Z v:=λv hv=>by
 show XQ k N 0 Z v;unfold XQ;rw[Aaa (by omega)];exact⟨b,by simpa using h,hv⟩
end
def Zb (m:List (List UInt8×Rp))(Z:Fz)(v:Value):Prop:=(v = .map none∧m=[])∨∃b es ck,v = .map (some b)∧Z b=some (.map es ck)∧Eo Z m es.toList ck
def KI (m:List (List UInt8×Rp)):Rp:=⟨Zb m,λh h0=>h0.imp id λ⟨b,es,ck,h1,h2,h3⟩=>⟨b,es,ck,h1,h.f b _ h2,h3.mono h⟩,true,λ_ Z v h0=>by rcases h0 with⟨h1,_⟩ | ⟨b,es,ck,h1,_⟩<;>(rw[h1];rfl)⟩
theorem Wk (Z:Fz):(KI []).p Z (.map none):=.inl ⟨rfl,rfl⟩
section
variable {P : Program} {n : Nat} {c : Cx} {ops opsA : Array Oper} {Q : Exit → Act → World → Prop} {rest : List Oper} {l : Fr} {H : List Ent} {d : Nat} {d' : Option Nat} {ty t kt et rty : TypeId} {pos : String} {af : Array Edge} {g : Option (Nat × Bool)} {x y u : Operand} {K : Act → World → Prop} {cx : Code} {r : Rp}
variable {T : Type} {enc : T → Rp} {xs : List (An × T)} {z : T} {k : An} {zv : Value} {i b : Nat}
theorem St.freezeM {Z:Fz}{w:World}(h:St c H Z w){m:List (List UInt8×Rp)}(hi:H[i]? =some (.map b m)):∃Z',Fz.le Z Z'∧St c (.fact (.map (some b)) (KI m)::H.eraseIdx i) Z' w:=by
 obtain⟨es,ck,hg,hm⟩:=h.ent hi;have hmem:=Z4 hi;have hgz:Z b=none:=h.zdis _ hmem b (by simp[Ent.foot])
 let Z':Fz:=⟨λq=>if q=b then some (.map es ck) else Z q,Z.nm⟩
 have hle:Fz.le Z Z':=⟨λq o hb=>by
  have:q≠b:=λe=>by subst e;rw[hgz] at hb;cases hb
  simpa[Z',this] using hb,λ_ _ _ h=>h⟩
 have hfr:=h.front hi;have hd:=List.pairwise_cons.1 hfr.dis;have hs:=hfr.sub (List.sublist_cons_self _ _);have hs':St c (H.eraseIdx i) Z' w:=by
  refine { hs with has:=λen he=>Ent.keep (hs.has en he) hle λ_ _=>rfl,frz:=⟨λq o hb=>?_,h.frz.nm⟩,gst:=hs.gst.names rfl,le:=hs.le.trans hle,new:=λq o hb=>?_,zdis:=λen he k hk=>?_,env:=hs.emono hle hs.env }
  ·by_cases hbg:q=b
   ·subst hbg;simp[Z'] at hb;rw[← hb];exact hg
   ·simp[Z',hbg] at hb;exact h.frz q o hb
  ·by_cases hbg:q=b
   ·subst hbg;exact .inr (h.own _ hmem q (by simp[Ent.foot]))
   ·simp[Z',hbg] at hb;exact h.new q o hb
  ·have hkg:k≠b:=λe=>hd.1 en he b (by simp[Ent.foot]) (e▸hk);simp only[Z',hkg,ZU];exact hs.zdis en he k hk
 exact⟨Z',hle,hs'.add rfl rfl rfl (ZC _) (λ_ _=>rfl) (e':=.fact (.map (some b)) (KI m)) (.inr ⟨b,es,ck,rfl,by simp[Z'],hm.mono hle⟩) (by simp[Ent.foot])⟩
theorem WK.freezeM {m:List (List UInt8×Rp)}(hi:H[i]? =some (.map b m))(h:WK n c K l (.fact (.map (some b)) (KI m)::H.eraseIdx i)):WK n c K l H:=λa w Z ha hw=>by
 obtain⟨Z',hz,hs⟩:=St.freezeM hw hi;exact h a w Z' (ha.mono hz) hs
theorem WC.freezeM {m:List (List UInt8×Rp)}(hi:H[i]? =some (.map b m))(h:WC P n c cx Q l (.fact (.map (some b)) (KI m)::H.eraseIdx i)):WC P n c cx Q l H:=λa w Z ha hw=>by
 obtain⟨Z',hz,hs⟩:=St.freezeM hw hi;exact h a w Z' (ha.mono hz) hs
theorem WL.freezeM {m:List (List UInt8×Rp)}(hi:H[i]? =some (.map b m))(h:WL P n c ops Q rest l (.fact (.map (some b)) (KI m)::H.eraseIdx i)):WL P n c ops Q rest l H:=λa w Z ha hw=>by
 obtain⟨Z',hz,hs⟩:=St.freezeM hw hi;exact h a w Z' (ha.mono hz) hs
theorem Zb.heap {Z:Fz}{w:World}(hf:Sw Z w){m:List (List UInt8×Rp)}{v:Value}(h:(KI m).p Z v):(v = .map none∧m=[])∨∃b,v = .map (some b)∧(Ent.map b m).holds Z w:=by
 rcases h with h | ⟨b,es,ck,h1,h2,h3⟩
 ·exact .inl h
 ·exact .inr ⟨b,h1,es,ck,hf b _ h2,h3⟩
theorem UR {xs:List (An×T)}(h:A8 enc xs=[]):xs=[]:=by
 have:=congrArg List.length h;rw[EN] at this;exact List.length_eq_zero_iff.1 this
theorem U9 (ht:P.underlying t=some (.map kt et))(hk:P.underlying kt=some .string)(hz:∀w,(zeroValue et).run P w = .ok zv w)(hzr:∀Z,(enc z).p Z zv)(hx:ev l x=some (KI (A8 enc xs)))(hy:ev l y=some (rS k)) :
  Be P n c l H { dst:=d',op:=.lookup t x y false,type:=ty,pos:=pos,after:=af,guard:=g } (enc (B3 xs k z)):=λa w Z ha hw=>by
 rcases Zb.heap hw.frz (ha.ev hx) with⟨e1,e2⟩ | ⟨b,e1,hb⟩
 ·obtain rfl:=UR e2;refine⟨zv,hzr Z,?_⟩;have hf:Instr.findNow .string (.string (B k)) ([]:List MapEntry) 0=some none:=rfl;simp[execOp,e1,ha.eval hy,Instr.lookup,run_underlying ht,MapKept.run_checkKey hk (DJ _),MapKept.run_findKey hk hf,hz]
 obtain⟨v,h1,h2⟩:=GS (k:=k) ht hk hz (hzr Z) hb false;rw[Na] at h1;simp only[Z8,ZU] at h2;exact⟨v,h1,by simp[execOp,e1,ha.eval hy,h2]⟩
end
set_option maxRecDepth 100000
set_option maxHeartbeats 4000000
@[reducible] def Ae (x:Ar):List Rp:=[rS x.fID,rS x.fTenant,rS x.fCause,As x.fAt,As x.fEffect.fKind,rS x.fEffect.fKey,AU 4 (Ax Ab x.fEffect.fValue),As x.fEffect.fDelay]
theorem Cb (x:Ar):(Ae x).length=8:=rfl
theorem Dd (x:Ar):(Ae x).all (·.one)=true:=rfl
@[reducible] def Ai (x:Am):List Rp:=[As x.fKind,rS x.fKey,AU 4 (Ax Ab x.fValue),As x.fDelay]
theorem Dc (x:Am):(Ai x).length=4:=rfl
theorem Ii (x:Am):(Ai x).all (·.one)=true:=rfl
@[reducible] def AW (x:AP):List Rp:=[rS x.fEvent,rS x.fTenant,As x.fAttempt,AU 4 (Ax Ab x.fResult),AU 4 (Ax Ai x.fEffects),As x.fAt]
@[reducible] def Bs (x:(List An)):List Rp:=[AU 1 (Ax eS x)]
theorem D0 (x:(List An)):(Bs x).length=1:=rfl
theorem JT (x:(List An)):(Bs x).all (·.one)=true:=rfl
theorem Rh:∃inf,Tryz.prog.info? 42=some inf∧inf.zero=some (.slice none 0 0)∧inf.size=1∧inf.bytes=24:=by
  have key:(Tryz.prog.info? 42).map (λi=>(i.zero,i.size,i.bytes))=some (some (.slice none 0 0),1,24):=by kernel_rfl
  obtain⟨inf,h1,h2⟩:=Option.map_eq_some_iff.1 key;simp only[Prod.mk.injEq] at h2;exact⟨inf,h1,h2.1,h2.2.1,h2.2.2⟩
theorem Vc:∃inf,Tryz.prog.info? 65=some inf∧inf.zero=some (.agg #[(.int .i64 0),(.string ⟨#[]⟩),(.slice none 0 0),(.int .i64 0)])∧inf.size=4∧inf.bytes=56:=by
  have key:(Tryz.prog.info? 65).map (λi=>(i.zero,i.size,i.bytes))=some (some (.agg #[(.int .i64 0),(.string ⟨#[]⟩),(.slice none 0 0),(.int .i64 0)]),4,56):=by kernel_rfl
  obtain⟨inf,h1,h2⟩:=Option.map_eq_some_iff.1 key;simp only[Prod.mk.injEq] at h2;exact⟨inf,h1,h2.1,h2.2.1,h2.2.2⟩
theorem MY:∃inf,Tryz.prog.info? 67=some inf∧inf.zero=some (.agg #[(.string ⟨#[]⟩),(.string ⟨#[]⟩),(.string ⟨#[]⟩),(.int .i64 0),(.int .i64 0),(.string ⟨#[]⟩),(.slice none 0 0),(.int .i64 0)])∧inf.size=8∧inf.bytes=112:=by
  have key:(Tryz.prog.info? 67).map (λi=>(i.zero,i.size,i.bytes))=some (some (.agg #[(.string ⟨#[]⟩),(.string ⟨#[]⟩),(.string ⟨#[]⟩),(.int .i64 0),(.int .i64 0),(.string ⟨#[]⟩),(.slice none 0 0),(.int .i64 0)]),8,112):=by kernel_rfl
  obtain⟨inf,h1,h2⟩:=Option.map_eq_some_iff.1 key;simp only[Prod.mk.injEq] at h2;exact⟨inf,h1,h2.1,h2.2.1,h2.2.2⟩
theorem So (parts:List (Nat×Value)):Tryz.prog.built 65 parts=Instr.fill (λi=>(#[(0,1),(1,1),(2,1),(3,1)]:Array (Nat×Nat))[i]?) #[(.int .i64 0),(.string ⟨#[]⟩),((.slice none 0 0)),(.int .i64 0)] parts:=by kernel_rfl
theorem N1 {n:Nat}{c:Cx}{l:Fr}{H:List Ent}{d:Option Nat}{ty:TypeId}{pos:String}{af:Array Edge}{g:Option (Nat×Bool)}{x0:Operand}{r0:Rp}(h0:ev l x0=some r0)(u0:r0.one=true){x1:Operand}{r1:Rp}(h1:ev l x1=some r1)(u1:r1.one=true):Be Tryz.prog n c l H { dst:=d,op:=.build 65 #[(0,x0),(1,x1)],type:=ty,pos:=pos,after:=af,guard:=g } (B9 [r0,r1,rv (.slice none 0 0),As 0]):=λa w Z ha _=>by
  have p0:=ha.ev h0;have c0:=Bl (r0.hone u0 Z _ p0);have p1:=ha.ev h1;have c1:=Bl (r1.hone u1 Z _ p1);have hb:Tryz.prog.built 65 [(0,a.eval x0),(1,a.eval x1)]=some #[a.eval x0,a.eval x1,((.slice none 0 0)),(.int .i64 0)]:=by
    rw[So];generalize a.eval x0=v0 at *;generalize a.eval x1=v1 at *;simp[Instr.fill,c0,c1]
  refine⟨.agg #[a.eval x0,a.eval x1,((.slice none 0 0)),(.int .i64 0)],⟨[a.eval x0,a.eval x1,((.slice none 0 0)),(.int .i64 0)],rfl,p0,p1,rfl,rfl,trivial⟩,?_⟩;have:=run_build w 65 #[(0,a.eval x0),(1,a.eval x1)] _ (by simpa using hb);simp[execOp,this]
theorem G1 (ys:(List Ac))(r:(List Ac))(h:HW ys=some r):Fn Tryz.prog GE 41 [AU 4 (Ax Ab ys)] [] (λR H=>R=AU 4 (Ax Ab r)∧H=[]):=by
 refine enter (n:=8) Tryz.func41 Aa Tryz.ntmps41 Aa (λw Z=>?_);unfold HW at h;refine Al (wa Aa (Au (Aq (Al (wm Aa (wv (SU CX Aa) (Au (Mt Aa (λc1=>?_) (λc1=>?_)))))))))
 ·have e2:ys=[]:=List.map_eq_nil_iff.1 (c1 rfl);have h3:some ([]:List Ac)=some r:=by rw[e2] at h;exact(Qx h).2
  refine Al (wa Aa (Au (A0 (Af (WK.up (d:=2) (r:=AU 4 (Ax Ab ([]:List Ac))) Aa (Up.le (HZ.nil _)) ?_)))));obtain rfl:=A1 h3;exact Az (BW Tryz.results41 (AI Aa)) sN ⟨Aa,Aa⟩
 ·refine A3 (AT (Al (Ba (ys:=([]:List Ac)) (enc:=Ab) (css:=[]) (xs:=[]) CX DL LA Aa Aa Aa trivial Aa By Aa Aa Aa (λb4=>?_))));refine wm Aa (ck h λg6 h7=>Exists.elim HT λinf hinf=>BQ (xs:=([]:List Ac)) (ys:=ys) (enc:=Ab) (i:=0) CX hinf.1 hinf.2.1 hinf.2.2.1 hinf.2.2.2 Aa Aa Aa Aa Aa (HY.z Aa Aa) By CC g6 Aa (λv5=>?_));refine wa Aa (Au (A0 (WK.freeze (i:=0) Aa (WK.up (d:=2) (r:=AU 4 (Ax Ab (([]:List Ac)++ys))) Aa (Up.fact (i:=0) Aa) ?_))));obtain rfl:=A1 h7;exact Az (BW Tryz.results41 (AI Aa)) (sS sN) ⟨Aa,Aa⟩
theorem E8 (n:Int)(r:Bool)(h:BC n=some r):Fn Tryz.prog GE 54 [As n] [] (λR H=>R=rB r∧H=[]):=by
 refine enter (n:=9) Tryz.func54 Aa Tryz.ntmps54 Aa (λw Z=>?_);unfold BC at h;refine Al (wa Aa (Au (AR [(2,rB ((decide (0≤n))&&(decide (n≤1073741824))))] [] ?_ ?_)))
 ·refine At (wm Aa (wv (Iq Aa Aa) (wm Aa (AX (decide (0≤n)) (λc1=>?_) (λc1=>?_)))))
  ·refine wo c1 (wm Aa (wo c1 (wv (LG Aa Aa) (JF Aa c1 Aa (wa Aa (Av ?_))))));exact CF c1
  ·refine wf c1 (wf c1 (wv (r:=rB false) (AF Aa c1 Aa) (wa Aa (Av ?_))));exact CF c1
 refine A0 ?_;obtain rfl:=A1 h;exact Az (BW Tryz.results54 (AI Aa)) sN ⟨Aa,Aa⟩
theorem GB (k:Int)(r:Bool)(h:Ej k=some r):Fn Tryz.prog GE 66 [As k] [] (λR H=>R=rB r∧H=[]):=by
 refine enter (n:=13) Tryz.func66 Aa Tryz.ntmps66 Aa (λw Z=>?_);unfold Ej at h;refine Al (wa Aa (Au (AR [(2,rB ((decide (k=3))||((decide (k=4))||(decide (k=5)))))] [] ?_ ?_)))
 ·refine At (wm Aa (wv (BN Aa Aa) (wm Aa (AX (decide (k=3)) (λc1=>?_) (λc1=>?_)))))
  ·refine wf c1 (wf c1 (wv (r:=rB true) (AA Aa c1 Aa) (wm Aa (wz Aa Aa (wz Aa Aa (wv (r:=rB true) (AA (b:=true) Aa Aa Aa) (wa Aa (Av ?_))))))));exact CF c1
  ·refine wo c1 (wm Aa (wo c1 (wv (BN Aa Aa) (Hc Aa c1 Aa (wm Aa (AX (decide (k=4)) (λc2=>?_) (λc2=>?_)))))))
   ·refine wf c2 (wf c2 (wv (r:=rB true) (AA Aa c2 Aa) (wa Aa (Av ?_))));exact CF (And.intro c1 c2)
   ·refine wo c2 (wm Aa (wo c2 (wv (BN Aa Aa) (Hc Aa c2 Aa (wa Aa (Av ?_))))));exact CF (And.intro c1 c2)
 refine A0 ?_;obtain rfl:=A1 h;exact Az (BW Tryz.results66 (AI Aa)) sN ⟨Aa,Aa⟩
theorem UH (x:Am)(r:Bool)(h:OO x=some r):Fn Tryz.prog GE 90 [B9 (Ai x)] [] (λR H=>R=rB r∧H=[]):=by
 refine enter (n:=17) Tryz.func90 Aa Tryz.ntmps90 Aa (λw Z=>?_);unfold OO at h;refine Al (BX Aa Aa (λb1=>?_));refine wa Aa (Au (Aq (AR [(1,rP b1 0),(10,rB ((decide (x.fKind=3))||(decide (x.fKind=4))))] [.blk b1 (Ai x) 65] ?_ ?_)))
 ·refine At (vF CI Aa Iv (vL 0 Ix Aa (wv (BN Aa Aa) (wm Aa (AX (decide (x.fKind=3)) (λc2=>?_) (λc2=>?_))))))
  ·refine wf c2 (wf c2 (wf c2 (wv (r:=rB true) (AA Aa c2 Aa) (Av ?_))));exact CF c2
  ·refine wo c2 (vF CI Aa Iv (wo c2 (vL 0 Ix Aa (wo c2 (wv (BN Aa Aa) (Hc Aa c2 Aa (Av ?_)))))));exact CF c2
 refine cz h Aa (λc3 h4=>?_) (λc3 h5=>?_)
 ·refine Al (vF CI Aa Cs (vL 0 C7 Aa (CM (rs:=[rS x.fKey]) (r:=rB (EM x.fKey)) Tryz.call53 Aa (QZ x.fKey) Aa Aa (wa Aa (Au (A0 (Af ?_)))))));obtain rfl:=A1 h4;exact Az (BW Tryz.results90 (AI Aa)) (sS sN) ⟨Aa,Aa⟩
 ·refine A3 (AT (Al (vF CI Aa Cs (vL 0 C7 Aa (CM (rs:=[rS x.fKey]) (r:=rB (LK x.fKey)) TO Aa (WA x.fKey) Aa Aa (wa Aa (Au (A0 ?_))))))));obtain rfl:=A1 h5;exact Az (BW Tryz.results90 (AI Aa)) (sS sN) ⟨Aa,Aa⟩
theorem Kw (v:(List Ac))(r:Bool)(h:C1 v=some r):Fn Tryz.prog GE 91 [AU 4 (Ax Ab v)] [] (λR H=>R=rB r∧H=[]):=by
 refine enter (n:=20) Tryz.func91 Aa Tryz.ntmps91 Aa (λw Z=>?_);unfold C1 at h;refine Al (wa Aa (Au (ck h λg1 h2=>ck h2 λg3 h4=>AR [(2,rB ((decide (1<(v.length:Int)))&&((decide (((Ap v 0).fKind)=5))&&(decide (((Ap v 1).fKind)=4)))))] [] ?_ ?_)))
 ·refine At (wm Aa (wv (Bt (ys:=v) (enc:=Ab) CX Aa) (wv (D4 Aa Aa) (wm Aa (AX (decide (1<(v.length:Int))) (λc5=>?_) (λc5=>?_))))))
  ·refine wo c5 (wm Aa (wo c5 (wv (BT (enc:=Ab) (ys:=v) CX DL Aa Aa (Em g1 c5)) (wo c5 (wv (BY C5 Aa Jx Aa Aa) (wo c5 (wv (BD Jy Aa Aa) (wo c5 (wv (BN Aa Aa) (JF Aa c5 Aa (wm Aa (AX (decide (((Ap v 0).fKind)=5)) (λc6=>?_) (λc6=>?_)))))))))))))
   ·refine wo c6 (wm Aa (wo c6 (wv (BT (enc:=Ab) (ys:=v) CX DL Aa Aa (Em (Em g3 c5) c6)) (wo c6 (wv (BY C5 Aa Jx Aa Aa) (wo c6 (wv (BD Jy Aa Aa) (wo c6 (wv (BN Aa Aa) (JF Aa c6 Aa (wa Aa (Av ?_))))))))))));exact CF (And.intro c5 c6)
   ·refine wf c6 (wf c6 (wf c6 (wf c6 (wf c6 (wv (r:=rB false) (AF Aa c6 Aa) (wa Aa (Av ?_)))))));exact CF (And.intro c5 c6)
  ·refine wf c5 (wf c5 (wf c5 (wf c5 (wf c5 (wv (r:=rB false) (AF Aa c5 Aa) (wm Aa (wz Aa Aa (wz Aa Aa (wz Aa Aa (wz Aa Aa (wz Aa Aa (wv (r:=rB false) (AF (b:=false) Aa Aa Aa) (wa Aa (Av ?_))))))))))))));exact CF c5
 refine A0 ?_;obtain rfl:=A1 h4;exact Az (BW Tryz.results91 (AI Aa)) sN ⟨Aa,Aa⟩
theorem NV (F:Nat)(event:An)(x:Am)(i:Int)(r:Int)(h:Je F event x i=some r):Fn Tryz.prog GE 56 [rS event,B9 (Ai x),As i] [] (λR H=>R=As r∧H=[]):=by
 refine enter (n:=67) Tryz.func56 Aa Tryz.ntmps56 Aa (λw Z=>?_);unfold Je at h;refine Al (BX Aa Aa (λb1=>?_));refine wa Aa (Au (Aq (AR [(0,rS event),(2,As i),(4,rP b1 0),(17,rB ((decide (x.fKind<1))||(decide (5<x.fKind))))] [.blk b1 (Ai x) 65] ?_ ?_)))
 ·refine At (vF CI Aa Iv (vL 0 Ix Aa (wv (CZ Aa Aa) (wm Aa (AX (decide (x.fKind<1)) (λc2=>?_) (λc2=>?_))))))
  ·refine wf c2 (wf c2 (wf c2 (wv (r:=rB true) (AA Aa c2 Aa) (Av ?_))));exact CF c2
  ·refine wo c2 (vF CI Aa Iv (wo c2 (vL 0 Ix Aa (wo c2 (wv (D4 Aa Aa) (Hc Aa c2 Aa (Av ?_)))))));exact CF c2
 refine cz h Aa (λc3 h4=>?_) (λc3 h5=>?_)
 ·refine Al (wa Aa (Au (A0 (Af ?_))));obtain rfl:=A1 h4;exact Az (BW LB (AI Aa)) (sS sN) ⟨Aa,Aa⟩
 ·refine A3 (AT (Aq (Al (wv (AZ (i:=0) Hf CY Aa Aa Aa Aa) (ob h5 λr6 e8 h7=>Di Tryz.call90 (UH x r6 e8) Aa (wv (B7 Aa) (Au (cz h7 Aa (λc9 hg=>?_) (λc9 hh=>?_)))))))))
  ·refine Al (wa Aa (Au (A0 (Af ?_))));obtain rfl:=A1 hg;exact Az (BW LB (AI Aa)) (sS sN) ⟨Aa,Aa⟩
  ·refine A3 (AT (Aq (Al (vF CI Aa Iv (vL 0 Ix Aa (wv (BN Aa Aa) (Au (cz hh Aa (λhi hj=>?_) (λhi hk=>?_)))))))))
   ·refine Al (vF CI Aa CD (vL 0 Es Aa (wv (Bt (ys:=x.fValue) (enc:=Ab) CX Aa) (wv (D4 Aa Aa) (Au (cz hj Aa (λhl hm=>?_) (λhl hn=>?_)))))))
    ·refine Al (wa Aa (Au (A0 (Af ?_))));obtain rfl:=A1 hm;exact Az (BW LB (AI Aa)) (sS sN) ⟨Aa,Aa⟩
    ·refine A3 (AT (Aq (ck hn λg17 ho=>AR [(0,rS event),(2,As i),(4,rP b1 0),(42,rB ((decide (x.fKind=5))&&(!(ov (C1 x.fValue)))))] [.blk b1 (Ai x) 65] ?_ ?_)))
     ·refine At (vF CI Aa Iv (vL 0 Ix Aa (wv (BN Aa Aa) (wm Aa (AX (decide (x.fKind=5)) (λha=>?_) (λha=>?_))))))
      ·refine wo ha (vF CI Aa CD (wo ha (vL 0 Es Aa (wo ha (Di Tryz.call91 (Kw x.fValue (ov (C1 x.fValue)) (Nz (Em g17 ha))) Aa (wo ha (wv (B7 Aa) (JF Aa ha Aa (Av ?_)))))))));exact CF ha
      ·refine wf ha (wf ha (wf ha (wf ha (wv (r:=rB false) (AF Aa ha Aa) (Av ?_)))));exact CF ha
     refine cz ho Aa (λc20 hp=>?_) (λc20 hq=>?_)
     ·refine Al (wa Aa (Au (A0 (Af ?_))));obtain rfl:=A1 hp;exact Az (BW LB (AI Aa)) (sS sN) ⟨Aa,Aa⟩
     ·refine A3 (AT (Aq (ck hq λhr hs=>ck hs λht hu=>AR [(0,rS event),(2,As i),(4,rP b1 0),(56,rB (bif !decide (x.fKind=4) then((!decide (x.fDelay=0))||(!(ov (BC x.fDelay)))) else !(ov (BC x.fDelay))))] [.blk b1 (Ai x) 65] ?_ ?_)))
      ·refine At (vF CI Aa Iv (vL 0 Ix Aa (wv (Cr Aa Aa) (wm Aa (AX (!decide (x.fKind=4)) (λhb=>?_) (λhb=>?_))))))
       ·refine wo hb (vF CI Aa C2 (wo hb (vL 0 CQ Aa (wo hb (wv (Cr Aa Aa) (JF Aa hb Aa (wm Aa (AX (!decide (x.fDelay=0)) (λhd=>?_) (λhd=>?_)))))))))
        ·refine wf hd (wf hd (wf hd (wf hd (wv (r:=rB true) (AA Aa hd Aa) (Av ?_)))));exact CF (And.intro hb hd)
        ·refine wo hd (vF CI Aa C2 (wo hd (vL 0 CQ Aa (wo hd (Di S6 (E8 x.fDelay (ov (BC x.fDelay)) (Nz (Hw (Em hr hb) hd))) Aa (wo hd (wv (B7 Aa) (Hc Aa hd Aa (Av ?_)))))))));exact CF (And.intro hb hd)
       ·refine wf hb (wf hb (wf hb (wv (r:=rB false) (AF Aa hb Aa) (wm Aa (AJ (b:=false) Aa Aa Aa (vF CI Aa C2 (AJ (b:=false) Aa Aa Aa (vL 0 CQ Aa (AJ (b:=false) Aa Aa Aa (Di S6 (E8 x.fDelay (ov (BC x.fDelay)) (Nz (Hw ht hb))) Aa (AJ (b:=false) Aa Aa Aa (wv (B7 Aa) (wv (r:=rB (!(ov (BC x.fDelay)))) (AF (b:=false) Aa Aa Aa) (Av ?_))))))))))))));exact CF hb
      refine cz hu Aa (λhw hx=>?_) (λhw hy=>?_)
      ·refine Al (wa Aa (Au (A0 (Af ?_))));obtain rfl:=A1 hx;exact Az (BW LB (AI Aa)) (sS sN) ⟨Aa,Aa⟩
      ·refine A3 (AT (Aq (Al (vF CI Aa Iv (vL 0 Ix Aa (ob hy λhz h0 h1=>Di Tryz.call66 (GB x.fKind hz h0) Aa (Au (cz h1 Aa (λh2 h3=>?_) (λh2 h6=>?_)))))))))
       ·refine Al (wm Aa (wm Aa (ck h3 λh8 h9=>ck h9 λhA hB=>CM (rs:=[rS event,As i]) (r:=Cn [rS (BZ event i),As (Da event i)]) Tryz.call67 Aa (Mf event i h8 hA) Aa Aa (wm Aa (wv (A4 Aa Aa) (wv (A4 Aa Aa) (wa Aa (wa Aa (Bk (wm Aa (wa Aa (Au (A0 (Af ?_))))))))))))));obtain rfl:=A1 hB;exact Az (BW LB (AI Aa)) (sS sN) ⟨Aa,Aa⟩
       ·refine A3 (AT (Al (wa Aa (Au (A0 ?_)))));obtain rfl:=A1 h6;exact Az (BW LB (AI Aa)) (sS sN) ⟨Aa,Aa⟩
   ·refine Al (vF CI Aa CD (vL 0 Es Aa (ob hk λhC hD hE=>Di TN (I2 F x.fValue hC hD) Aa (wa Aa (Bk (wm Aa (wv (Cr Aa Aa) (Au (cz hE Aa (λc46 hG=>?_) (λc46 hH=>?_))))))))))
    ·refine Al (wm Aa (wa Aa (Au (A0 (Af ?_)))));obtain rfl:=A1 hG;exact Az (BW LB (AI Aa)) (sS sN) ⟨Aa,Aa⟩
    ·refine A3 (AT (Aq (ck hH λhI hJ=>AR [(0,rS event),(2,As i),(4,rP b1 0),(42,rB ((decide (x.fKind=5))&&(!(ov (C1 x.fValue)))))] [.blk b1 (Ai x) 65] ?_ ?_)))
     ·refine At (vF CI Aa Iv (vL 0 Ix Aa (wv (BN Aa Aa) (wm Aa (AX (decide (x.fKind=5)) (λc51=>?_) (λc51=>?_))))))
      ·refine wo c51 (vF CI Aa CD (wo c51 (vL 0 Es Aa (wo c51 (Di Tryz.call91 (Kw x.fValue (ov (C1 x.fValue)) (Nz (Em hI c51))) Aa (wo c51 (wv (B7 Aa) (JF Aa c51 Aa (Av ?_)))))))));exact CF c51
      ·refine wf c51 (wf c51 (wf c51 (wf c51 (wv (r:=rB false) (AF Aa c51 Aa) (Av ?_)))));exact CF c51
     refine cz hJ Aa (λhK hL=>?_) (λhK hN=>?_)
     ·refine Al (wa Aa (Au (A0 (Af ?_))));obtain rfl:=A1 hL;exact Az (BW LB (AI Aa)) (sS sN) ⟨Aa,Aa⟩
     ·refine A3 (AT (Aq (ck hN λhO hP=>ck hP λhQ hR=>AR [(0,rS event),(2,As i),(4,rP b1 0),(56,rB (bif !decide (x.fKind=4) then((!decide (x.fDelay=0))||(!(ov (BC x.fDelay)))) else !(ov (BC x.fDelay))))] [.blk b1 (Ai x) 65] ?_ ?_)))
      ·refine At (vF CI Aa Iv (vL 0 Ix Aa (wv (Cr Aa Aa) (wm Aa (AX (!decide (x.fKind=4)) (λhe=>?_) (λhe=>?_))))))
       ·refine wo he (vF CI Aa C2 (wo he (vL 0 CQ Aa (wo he (wv (Cr Aa Aa) (JF Aa he Aa (wm Aa (AX (!decide (x.fDelay=0)) (λhf=>?_) (λhf=>?_)))))))))
        ·refine wf hf (wf hf (wf hf (wf hf (wv (r:=rB true) (AA Aa hf Aa) (Av ?_)))));exact CF (And.intro he hf)
        ·refine wo hf (vF CI Aa C2 (wo hf (vL 0 CQ Aa (wo hf (Di S6 (E8 x.fDelay (ov (BC x.fDelay)) (Nz (Hw (Em hO he) hf))) Aa (wo hf (wv (B7 Aa) (Hc Aa hf Aa (Av ?_)))))))));exact CF (And.intro he hf)
       ·refine wf he (wf he (wf he (wv (r:=rB false) (AF Aa he Aa) (wm Aa (AJ (b:=false) Aa Aa Aa (vF CI Aa C2 (AJ (b:=false) Aa Aa Aa (vL 0 CQ Aa (AJ (b:=false) Aa Aa Aa (Di S6 (E8 x.fDelay (ov (BC x.fDelay)) (Nz (Hw hQ he))) Aa (AJ (b:=false) Aa Aa Aa (wv (B7 Aa) (wv (r:=rB (!(ov (BC x.fDelay)))) (AF (b:=false) Aa Aa Aa) (Av ?_))))))))))))));exact CF he
      refine cz hR Aa (λhS hT=>?_) (λhS hU=>?_)
      ·refine Al (wa Aa (Au (A0 (Af ?_))));obtain rfl:=A1 hT;exact Az (BW LB (AI Aa)) (sS sN) ⟨Aa,Aa⟩
      ·refine A3 (AT (Aq (Al (vF CI Aa Iv (vL 0 Ix Aa (ob hU λhV hW hX=>Di Tryz.call66 (GB x.fKind hV hW) Aa (Au (cz hX Aa (λhY hZ=>?_) (λhY ga=>?_)))))))))
       ·refine Al (wm Aa (wm Aa (ck hZ λgb gc=>ck gc λgd ge=>CM (rs:=[rS event,As i]) (r:=Cn [rS (BZ event i),As (Da event i)]) Tryz.call67 Aa (Mf event i gb gd) Aa Aa (wm Aa (wv (A4 Aa Aa) (wv (A4 Aa Aa) (wa Aa (wa Aa (Bk (wm Aa (wa Aa (Au (A0 (Af ?_))))))))))))));obtain rfl:=A1 ge;exact Az (BW LB (AI Aa)) (sS sN) ⟨Aa,Aa⟩
       ·refine A3 (AT (Al (wa Aa (Au (A0 ?_)))));obtain rfl:=A1 ga;exact Az (BW LB (AI Aa)) (sS sN) ⟨Aa,Aa⟩
theorem PU (F:Nat)(c:AP)(r:Int)(h:KZ F c=some r):Fn Tryz.prog GE 27 [B9 (AW c)] [] (λR H=>R=As r∧H=[]):=by
 refine enter (n:=58) Tryz.func27 Aa Tryz.ntmps27 Aa (λw Z=>?_);unfold KZ at h;refine Al (BX Aa Aa (λb1=>?_));refine wa Aa (Au (Aq (AR [(1,rP b1 0),(16,rB ((!(LK c.fEvent))||(!(EM c.fTenant))))] [.blk b1 (AW c) 34] ?_ ?_)))
 ·refine At (vF Cm Aa Cs (vL 0 C7 Aa (CM (rs:=[rS c.fEvent]) (r:=rB (LK c.fEvent)) TO Aa (WA c.fEvent) Aa Aa (wv (B7 Aa) (wm Aa (AX (!(LK c.fEvent)) (λc2=>?_) (λc2=>?_)))))))
  ·refine wf c2 (wf c2 (wf c2 (wf c2 (wv (r:=rB true) (AA Aa c2 Aa) (Av ?_)))));exact CF c2
  ·refine wo c2 (vF Cm Aa Cs (wo c2 (vL 0 C7 Aa (wo c2 (CM (rs:=[rS c.fTenant]) (r:=rB (EM c.fTenant)) Tryz.call53 Aa (QZ c.fTenant) Aa Aa (wo c2 (wv (B7 Aa) (Hc Aa c2 Aa (Av ?_)))))))));exact CF c2
 refine cz h Aa (λc3 h4=>?_) (λc3 h5=>?_)
 ·refine Al (wa Aa (Au (A0 (Af ?_))));obtain rfl:=A1 h4;exact Az (BW LC (AI Aa)) (sS sN) ⟨Aa,Aa⟩
 ·refine A3 (AT (Aq (ck h5 λg6 h7=>AR [(1,rP b1 0),(30,rB ((decide (c.fAttempt<1))||((decide (1073741824<c.fAttempt))||(!(ov (BC c.fAt))))))] [.blk b1 (AW c) 34] ?_ ?_)))
  ·refine At (vF Cm Aa C2 (vL 0 CQ Aa (wv (CZ Aa Aa) (wm Aa (AX (decide (c.fAttempt<1)) (λc8=>?_) (λc8=>?_))))))
   ·refine wf c8 (wf c8 (wf c8 (wv (r:=rB true) (AA Aa c8 Aa) (wm Aa (wz Aa Aa (wz Aa Aa (wz Aa Aa (wz Aa Aa (wv (r:=rB true) (AA (b:=true) Aa Aa Aa) (Av ?_))))))))));exact CF c8
   ·refine wo c8 (vF Cm Aa C2 (wo c8 (vL 0 CQ Aa (wo c8 (wv (D4 Aa Aa) (Hc Aa c8 Aa (wm Aa (AX (decide (1073741824<c.fAttempt)) (λc9=>?_) (λc9=>?_)))))))))
    ·refine wf c9 (wf c9 (wf c9 (wf c9 (wv (r:=rB true) (AA Aa c9 Aa) (Av ?_)))));exact CF (And.intro c8 c9)
    ·refine wo c9 (vF Cm Aa C2 (wo c9 (vL 0 CQ Aa (wo c9 (Di S6 (E8 c.fAt (ov (BC c.fAt)) (Nz (Hw (Hw g6 c8) c9))) Aa (wo c9 (wv (B7 Aa) (Hc Aa c9 Aa (Av ?_)))))))));exact CF (And.intro c8 c9)
  refine cz h7 Aa (λhg hh=>?_) (λhg hi=>?_)
  ·refine Al (wa Aa (Au (A0 (Af ?_))));obtain rfl:=A1 hh;exact Az (BW LC (AI Aa)) (sS sN) ⟨Aa,Aa⟩
  ·refine A3 (AT (Aq (Al (vF Cm Aa CD (vL 0 Es Aa (ob hi λhj hk hl=>Di TN (I2 F c.fResult hj hk) Aa (wa Aa (Bk (wm Aa (wv (Cr Aa Aa) (Au (cz hl Aa (λhm hn=>?_) (λhm ho=>?_)))))))))))))
   ·refine Al (wm Aa (wa Aa (Au (A0 (Af ?_)))));obtain rfl:=A1 hn;exact Az (BW LC (AI Aa)) (sS sN) ⟨Aa,Aa⟩
   ·refine A3 (AT (Aq (Al (vF Cm Aa Iw (vL 0 KL Aa (wv (Bt (ys:=c.fEffects) (enc:=Ai) EY Aa) (wv (D4 Aa Aa) (Au (cz ho Aa (λhp hq=>?_) (λhp hr=>?_))))))))))
    ·refine Al (wa Aa (Au (A0 (Af ?_))));obtain rfl:=A1 hq;exact Az (BW LC (AI Aa)) (sS sN) ⟨Aa,Aa⟩
    ·refine A3 (AT (Aq (Al (vF Cm Aa Iw (vL 0 KL Aa (wv (Bt (ys:=c.fEffects) (enc:=Ai) EY Aa) (wv (r:=As 0) (Aw Aa) (Au (AO (ob hr λhs ht hf=>B4 (S:=Nat×(Int)×(Unit)) (V:=(Unit)×(Unit)) 0 (λσ=>Cz (λσ=>El F c σ) σ.1 σ.2.1=some hs) (λσ=>[(1,rP b1 0),(42,AU 4 (Ax Ai c.fEffects)),(43,As (c.fEffects.length:Int)),(44,As σ.2.1)]) (λσ=>[.blk b1 (AW c) 34]) (λσ=>σ.1) (F,0,()) ht (AL.c Aa (AL.c Aa (AL.c Aa (AL.c Aa AL.nil)))) (sC sN) (λσ=>Hu =some r) (λσ=>[]) (λσ=>[]) ?_ ?_))))))))))
     ·rintro⟨hJ,ha,⟨⟩⟩ hu;refine Cf (l':=[(1,rP b1 0),(42,AU 4 (Ax Ai c.fEffects)),(43,As (c.fEffects.length:Int)),(44,As ha)]) (H':=[.blk b1 (AW c) 34]) Aa Aa ?_;obtain⟨hw,rfl,hx,hb,he⟩:=CO hu;replace hb:El F c ha=some hx:=hb;unfold El at hb;refine Al (wv (CZ Aa Aa) (Au (Aq (cz hb Aa (λhy hz=>?_) (λhy h0=>?_)))))
      ·refine A3 (AT (Aq (AO (Al (wm Aa (ck hz λh1 h2=>wv (BT (enc:=Ai) (ys:=c.fEffects) EY CY Aa Aa h1) (wv (Eh Hf CY Aa Aa Aa) (BR (cs:=[As 0,rS ([]:An),rv (.slice none 0 0),As 0]) KK Aa Aa (λh3=>?_)))))))));refine wa Aa (Bj (i:=0) CY Aa Aa Aa (Cj.c Aa) Aa Aa (cs':=[As ((Ap c.fEffects ha).fKind),rS ((Ap c.fEffects ha).fKey),AU 4 (Ax Ab ((Ap c.fEffects ha).fValue)),As ((Ap c.fEffects ha).fDelay)]) Aa (H':=[.blk h3 (Ai (Ap c.fEffects ha)) 65,.blk b1 (AW c) 34]) Aa (Bk (vF Cm Aa Cs (vL 1 C7 Aa (wv (AZ (i:=0) Hf CY Aa Aa Aa Aa) (wm Aa (ob h2 λh6 h8 h9=>Di Tryz.call56 (NV F c.fEvent (Ap c.fEffects ha) ha h6 h8) Aa (wa Aa (Bk (wm Aa (wv (Cr Aa Aa) (Au (cz h9 Aa (λhA hB=>?_) (λhA hC=>?_))))))))))))))
       ·refine Al (wm Aa (wa Aa (Au (A0 (AD (Af (Af (Bg ?_))))))));have hD:=BG hB he hf;refine AD (Af ?_);obtain rfl:=A1 hD;exact Az (BW LC (AI Aa)) (sS (sS sN)) ⟨Aa,Aa⟩
       ·refine A3 (AH (AT (At (ck hC λhE hG=>wv (BJ Aa Aa hE) (wm Aa (Av ?_))))));have hH:=B8 hG he;exact A5 (AK (hw,ha+1,()) ⟨hH,Z3 _⟩ (AL.c Aa (AL.c Aa (AL.c Aa (AL.c Aa AL.nil)))) (sS (sC sN)))
      ·refine BB (A9 ?_);have hI:=Cv h0 he hf;exact A9 (Bh (AK ((),()) hI AL.nil (sS sN)))
     ·rintro⟨⟨⟩,⟨⟩⟩ hd;refine CJ (l':=[]) (H':=[]) Aa Aa ?_;replace hd:Hu =some r:=hd;unfold Hu at hd;refine Bf (AT (Al (wa Aa (Au (A0 ?_)))));obtain rfl:=A1 hd;exact Az (BW LC (AI Aa)) sN ⟨Aa,Aa⟩
theorem QT (x:Am)(r:Am)(h:UF x=some r):Fn Tryz.prog GE 44 [B9 (Ai x)] [] (λR H=>R=B9 (Ai r)∧H=[]):=by
 refine enter (n:=8) Tryz.func44 Aa Tryz.ntmps44 Aa (λw Z=>?_);unfold UF at h;refine Al (BX Aa Aa (λb1=>?_));refine BR (cs:=[As 0,rS ([]:An),rv (.slice none 0 0),As 0]) KK Aa Aa (λb2=>?_);refine Bk (vF CI Aa CD (vL 1 Es Aa (ob h λr3 e5 h4=>Di Q9 (G1 x.fValue r3 e5) Aa (vF CI Aa CD (Bv (i:=1) CD Aa Aa (Bw Aa) Aa Aa (cs':=[As x.fKind,rS x.fKey,AU 4 (Ax Ab r3),As x.fDelay]) Aa (H':=[.blk b2 [As 0,rS ([]:An),rv (.slice none 0 0),As 0] 65,.blk b1 [As x.fKind,rS x.fKey,AU 4 (Ax Ab r3),As x.fDelay] 65]) Aa (Bk (wv (AZ (i:=1) Hf CY Aa Aa Aa Aa) (Bj (i:=0) CY Aa Aa Aa (Cj.c Aa) Aa Aa (cs':=[As x.fKind,rS x.fKey,AU 4 (Ax Ab r3),As x.fDelay]) Aa (H':=[.blk b2 [As x.fKind,rS x.fKey,AU 4 (Ax Ab r3),As x.fDelay] 65,.blk b1 [As x.fKind,rS x.fKey,AU 4 (Ax Ab r3),As x.fDelay] 65]) Aa (Au (A0 ?_))))))))));obtain rfl:=A1 h4;exact Az (BW Tryz.results44 (Hm (i:=0) Hf CY Aa Aa Aa)) (sS (sS sN)) ⟨Aa,Aa⟩
theorem LY (F:Nat)(v:(List Ac))(r:An)(h:Lz F v=some r):Fn Tryz.prog GE 47 [AU 4 (Ax Ab v)] [] (λR H=>R=rS r∧H=[]):=by
 refine enter (n:=11) Tryz.func47 Aa Tryz.ntmps47 Aa (λw Z=>?_);unfold Lz at h;refine Al (wv (r:=rS ([]:An)) (A7 Aa) (Bk (wm Aa (ob h λr1 e3 h2=>Di Tryz.call80 (SE F v r1 e3) Aa (wm Aa (wv (A4 Aa Aa) (wv (A4 Aa Aa) (wa Aa (wa Aa (Bk (wm Aa (wa Aa (Au (A0 ?_))))))))))))));obtain rfl:=A1 h2;exact Az (BW Tryz.results47 (AI Aa)) sN ⟨Aa,Aa⟩
theorem OP (F:Nat)(records:(List (List An)))(r:An×Int)(h:MM F records=some r):Fn Tryz.prog GE 48 [AU 1 (Ax Bs records)] [] (λR H=>R=Cn [rS r.1,As r.2]∧H=[]):=by
 refine enter (n:=37) Tryz.func48 Aa Tryz.ntmps48 Aa (λw Z=>?_);unfold MM at h;refine Al (wv (r:=rS ([]:An)) (A7 Aa) (wa Aa (Bk (wa Aa (Au (Aq (Al (wm Aa (wv (Bt (ys:=records) (enc:=Bs) Iu Aa) (wv (r:=As 0) (Aw Aa) (Au (AO (WC.nilrow (e:=9) (sz:=1) (ob h λhk hl hi=>B4 (S:=Nat×((List An)×Int)×(Value)) (V:=((List An))×(Value)) 0 (λσ=>Cz (λσ=>EK F records σ.1 σ.2) σ.1 σ.2.1=some hk) (λσ=>[(4,rv σ.2.2),(11,AU 1 (Ax Bs records)),(12,As (records.length:Int)),(13,As σ.2.1.2)]) (λσ=>[.row σ.2.2 9 1 (Ax eS σ.2.1.1)]) (λσ=>σ.1) (F,(([]:List An),0),(.slice none 0 0         )) hl (AL.c Aa (AL.c Aa (AL.c Aa (AL.c Aa AL.nil)))) (sC sN) (λσ=>Gw F σ.1=some r) (λσ=>[(4,rv σ.2)]) (λσ=>[.row σ.2 9 1 (Ax eS σ.1)]) ?_ ?_))))))))))))))
 ·rintro⟨hE,⟨ha,hd⟩,v37⟩ hm;refine Cf (l':=[(4,rv v37),(11,AU 1 (Ax Bs records)),(12,As (records.length:Int)),(13,As hd)]) (H':=[.row v37 9 1 (Ax eS ha)]) Aa Aa ?_;obtain⟨hn,rfl,ho,he,hh⟩:=CO hm;replace he:EK F records ha hd=some ho:=he;unfold EK at he;refine Al (wv (CZ Aa Aa) (Au (Aq (cz he Aa (λhp hq=>?_) (λhp hr=>?_)))))
  ·refine A3 (AT (Aq (AO (Al (ck hq λhs ht=>wv (BT (enc:=Bs) (ys:=records) Iu Hd Aa Aa hs) (wv (BD LE Aa Aa) (wa Aa (Bk (wm Aa (ob ht λhb hu hw=>Di Tryz.call81 (WH F (Ap records hd) hb hu) Aa (wm Aa (wv (A4 Aa Aa) (wv (A4 Aa Aa) (wa Aa (wa Aa (Au (Aq (Al (wm Aa (wv (Cr Aa Aa) (Au ?_)))))))))))))))))))));refine cz hw Aa (λhx hy=>?_) (λhx hz=>?_)
   ·refine Al (wv (r:=rS ([]:An)) (A7 Aa) (wa Aa (Au (A0 (Af (AD (Af (Af (Bg ?_)))))))));have h0:=BG hy hh hi;refine AD (Af ?_);obtain rfl:=A1 h0;exact Az (Dq Tryz.results48 (AI Aa) (AI Aa)) (sS sN) ⟨Aa,Aa⟩
   ·refine A3 (AT (At (wm Aa (wm Aa (Ba (ys:=([hb.1]:List An)) (enc:=eS) (css:=[[rS hb.1]]) (xs:=[.tmp 25]) Ct Cs R2 Aa Aa Aa ⟨DH.one Aa (Up.refl _),trivial⟩ Aa Dg Aa Aa Aa (λhG=>?_))))));refine ck hz λh1 h2=>Exists.elim MX λinf hinf=>BQ (xs:=ha) (ys:=([hb.1]:List An)) (enc:=eS) (i:=1) Ct hinf.1 hinf.2.1 hinf.2.2.1 hinf.2.2.2 Aa Aa Aa Aa Aa (HY.w (i:=0) Aa Aa) Dg JS h1 Aa (λh3=>?_);refine wa Aa (Av (AH (AT (At (ck h2 λh4 h5=>wv (BJ Aa Aa h4) (wm Aa (Av ?_)))))));have h6:=B8 h5 hh;exact A5 (AK (hn,(ha++([hb.1]:List An),hd+1),h3) ⟨h6,Z3 _⟩ (AL.c Aa (AL.c Aa (AL.c Aa (AL.c Aa AL.nil)))) (sC (sS sN)))
  ·refine BB (A9 ?_);have h7:=Cv hr hh hi;exact A9 (Bh (AK (ha,v37) h7 (AL.c Aa AL.nil) (sC sN)))
 ·rintro⟨hf,hj⟩ hg;refine CJ (l':=[(4,rv hj)]) (H':=[.row hj 9 1 (Ax eS hf)]) Aa Aa ?_;replace hg:Gw F hf=some r:=hg;unfold Gw at hg;refine Bf (AT (Al (wm Aa (WL.freeze (i:=0) Aa (WL.up (d:=30) (r:=AU 1 (Ax eS hf)) Aa (Up.fact (i:=0) Aa) (ob hg λh8 h9 hA=>Di Tryz.call82 (WJ F hf h8 h9) Aa (wm Aa (wv (A4 Aa Aa) (wv (A4 Aa Aa) (wa Aa (wa Aa (Au (Aq (Al (wm Aa (wv (Cr Aa Aa) (Au (cz hA Aa (λhB hC=>?_) (λhB hD=>?_)))))))))))))))))))
  ·refine Al (wv (r:=rS ([]:An)) (A7 Aa) (wa Aa (Au (A0 (Af ?_)))));obtain rfl:=A1 hC;exact Az (Dq Tryz.results48 (AI Aa) (AI Aa)) (sS sN) ⟨Aa,Aa⟩
  ·refine A3 (AT (Al (wm Aa (wa Aa (wa Aa (Au (A0 ?_)))))));obtain rfl:=A1 hD;exact Az (Dq Tryz.results48 (AI Aa) (AI Aa)) (sS sN) ⟨Aa,Aa⟩
theorem KX (F:Nat)(c:AP)(r:An×Int)(h:GG F c=some r):Fn Tryz.prog GE 25 [B9 (AW c)] [] (λR H=>R=Cn [rS r.1,As r.2]∧H=[]):=by
 refine enter (n:=55) Tryz.func25 Aa Tryz.ntmps25 Aa (λw Z=>?_);unfold GG at h;refine Al (BX Aa Aa (λb1=>?_));refine wv (r:=rS ([]:An)) (A7 Aa) (wa Aa (Au (Aq (Al (wv (AZ (i:=0) E5 Dl Aa Aa Aa Aa) (ob h λr2 e4 h3=>Di TP (PU F c r2 e4) Aa (wa Aa (Bk (wm Aa (wv (Cr Aa Aa) (Au (cz h3 Aa (λc5 h6=>?_) (λc5 h7=>?_)))))))))))))
 ·refine Al (wm Aa (wv (r:=rS ([]:An)) (A7 Aa) (wa Aa (Au (A0 (Af ?_))))));obtain rfl:=A1 h6;exact Az (Dq VL (AI Aa) (AI Aa)) (sS sN) ⟨Aa,Aa⟩
 ·refine A3 (AT (Aq (ck h7 λg8 h9=>ck h9 λhl hm=>ob hm λhd hn ho=>CL 13 [1] [⟨[],rP b1 0,none,none,none⟩,⟨[0],rS c.fEvent,none,none,none⟩,⟨[],rP b1 1,none,none,none⟩,⟨[2],rS c.fTenant,none,none,none⟩,⟨[],rP b1 2,none,none,none⟩,⟨[4],As c.fAttempt,none,none,none⟩,⟨[5],rS (Lib.itoa c.fAttempt),none,none,none⟩,⟨[],rP b1 5,none,none,none⟩,⟨[7],As c.fAt,none,none,none⟩,⟨[8],rS (Lib.itoa c.fAt),none,none,none⟩,⟨[],rP b1 3,none,none,none⟩,⟨[10],AU 4 (Ax Ab c.fResult),none,none,none⟩,⟨[11],rS hd,none,none,none⟩] ?_ (λβ=>?_))))
  ·refine CN (Ay Cm Aa Cs Aa Aa) (Gi (AQ (i:=0) C7 Aa Aa Aa) (CN (Ay Cm Aa Cs Aa Aa) (Gi (AQ (i:=0) C7 Aa Aa Aa) (CN (Ay Cm Aa C2 Aa Aa) (Gi (AQ (i:=0) CQ Aa Aa Aa) (KU (DB (rs:=[As c.fAttempt]) (r:=rS (Lib.itoa c.fAttempt)) Mn Aa (DQ c.fAttempt g8) Aa) (CN (Ay Cm Aa C2 Aa Aa) (Gi (AQ (i:=0) CQ Aa Aa Aa) (KU (DB (rs:=[As c.fAt]) (r:=rS (Lib.itoa c.fAt)) Mn Aa (DQ c.fAt hl) Aa) (CN (Ay Cm Aa CD Aa Aa) (Gi (AQ (i:=0) Es Aa Aa Aa) (KU (Et Tryz.call47 (LY F c.fResult hd hn) Aa) ?_))))))))))));exact OH
  refine CK (H1:=[.blk b1 (AW c) 34]) [13,14,15,16,17,18,19,20,21,22,23,24,25,1] ?_;refine Ba (ys:=([([99,111,109,109,105,116]:An),c.fEvent,c.fTenant,Lib.itoa c.fAttempt,Lib.itoa c.fAt,hd]:List An)) (enc:=eS) (css:=[[rS ([99,111,109,109,105,116]:An)],[rS c.fEvent],[rS c.fTenant],[rS (Lib.itoa c.fAttempt)],[rS (Lib.itoa c.fAt)],[rS hd]]) (xs:=[.const (.string ⟨#[99,111,109,109,105,116]⟩),.tmp 14,.tmp 16,.tmp 19,.tmp 22,.tmp 25]) Ct Cs R2 Aa Aa Aa ⟨DH.one Aa (Up.refl _),DH.one Aa (Up.refl _),DH.one Aa (Up.refl _),DH.one Aa (Up.refl _),DH.one Aa (Up.refl _),DH.one Aa (Up.refl _),trivial⟩ Aa Dg Aa Aa Aa (λhN=>?_);refine WL.freeze (i:=0) Aa (Ba (ys:=([([([99,111,109,109,105,116]:An),c.fEvent,c.fTenant,Lib.itoa c.fAttempt,Lib.itoa c.fAt,hd]:List An)]:List (List An))) (enc:=Bs) (css:=[[AU 1 (Ax eS ([([99,111,109,109,105,116]:An),c.fEvent,c.fTenant,Lib.itoa c.fAttempt,Lib.itoa c.fAt,hd]:List An))]]) (xs:=[.tmp 26]) Iu Hd S2 Aa Aa Aa ⟨DH.one Aa (Up.fact (i:=0) Aa),trivial⟩ Aa D0 Aa Aa Aa (λhp=>?_));refine wa Aa (Au (Aq (Al (vF Cm Aa Iw (vL 2 KL Aa (wv (Bt (ys:=c.fEffects) (enc:=Ai) EY Aa) (wv (r:=As 0) (Aw Aa) (Au (AO (ob ho λhq hr hs=>B4 (S:=Nat×((List (List An))×Int)×(Value)) (V:=((List (List An)))×(Value)) 0 (λσ=>Cz (λσ=>DD F c σ.1 σ.2) σ.1 σ.2.1=some hq) (λσ=>[(5,rv σ.2.2),(29,AU 4 (Ax Ai c.fEffects)),(30,As (c.fEffects.length:Int)),(31,As σ.2.1.2)]) (λσ=>[.row σ.2.2 42 1 (Ax Bs σ.2.1.1)]) (λσ=>σ.1) (F,(([([([99,111,109,109,105,116]:An),c.fEvent,c.fTenant,Lib.itoa c.fAttempt,Lib.itoa c.fAt,hd]:List An)]:List (List An)),0),(.slice (some ⟨hp,0,none⟩) 1 1)) hr (AL.c Aa (AL.c Aa (AL.c Aa (AL.c Aa AL.nil)))) (sC (sS (sS sN))) (λσ=>Ea F σ.1=some r) (λσ=>[(5,rv σ.2)]) (λσ=>[.row σ.2 42 1 (Ax Bs σ.1)]) ?_ ?_))))))))))
  ·rintro⟨hO,⟨he,ha⟩,hf⟩ ht;refine Cf (l':=[(5,rv hf),(29,AU 4 (Ax Ai c.fEffects)),(30,As (c.fEffects.length:Int)),(31,As ha)]) (H':=[.row hf 42 1 (Ax Bs he)]) Aa Aa ?_;obtain⟨hu,rfl,t80,hh,hk⟩:=CO ht;replace hh:DD F c he ha=some t80:=hh;unfold DD at hh;refine Al (wv (CZ Aa Aa) (Au (Aq (cz hh Aa (λhw hx=>?_) (λhw hy=>?_)))))
   ·refine A3 (AT (Aq (AO (Al (ck hx λhz h0=>wv (BT (enc:=Ai) (ys:=c.fEffects) EY CY Aa Aa hz) (wv (Eh Hf CY Aa Aa Aa) (BR (cs:=[As 0,rS ([]:An),rv (.slice none 0 0),As 0]) KK Aa Aa (λhg=>?_))))))));refine Bj (i:=0) CY Aa Aa Aa (Cj.c Aa) Aa Aa (cs':=[As ((Ap c.fEffects ha).fKind),rS ((Ap c.fEffects ha).fKey),AU 4 (Ax Ab ((Ap c.fEffects ha).fValue)),As ((Ap c.fEffects ha).fDelay)]) Aa (H':=[.blk hg (Ai (Ap c.fEffects ha)) 65,.row hf 42 1 (Ax Bs he)]) Aa (Au (ck h0 λh1 h2=>ck h2 λh4 h5=>ob h5 λhb h8 hA=>CL 14 [5,7,29,30,31] [⟨[],rv hf,none,none,none⟩,⟨[],rP hg 0,none,none,none⟩,⟨[1],As ((Ap c.fEffects ha).fKind),none,none,none⟩,⟨[2],rS (Lib.itoa ((Ap c.fEffects ha).fKind)),none,none,none⟩,⟨[],rP hg 1,none,none,none⟩,⟨[4],rS ((Ap c.fEffects ha).fKey),none,none,none⟩,⟨[],rP hg 3,none,none,none⟩,⟨[6],As ((Ap c.fEffects ha).fDelay),none,none,none⟩,⟨[7],rS (Lib.itoa ((Ap c.fEffects ha).fDelay)),none,none,none⟩,⟨[],rP hg 2,none,none,none⟩,⟨[9],AU 4 (Ax Ab ((Ap c.fEffects ha).fValue)),none,none,none⟩,⟨[10],rS hb,none,none,none⟩,⟨[3,5,8,11],AU 1 (Ax eS ([Lib.itoa ((Ap c.fEffects ha).fKind),(Ap c.fEffects ha).fKey,Lib.itoa ((Ap c.fEffects ha).fDelay),hb]:List An)),none,none,none⟩,⟨[12],AU 1 (Ax Bs ([([Lib.itoa ((Ap c.fEffects ha).fKind),(Ap c.fEffects ha).fKey,Lib.itoa ((Ap c.fEffects ha).fDelay),hb]:List An)]:List (List An))),none,none,none⟩] ?_ (λβ=>?_)))
    ·refine CN (Aw Aa) (CN (Ay CI Aa Iv Aa Aa) (Gi (AQ (i:=0) Ix Aa Aa Aa) (KU (DB (rs:=[As ((Ap c.fEffects ha).fKind)]) (r:=rS (Lib.itoa ((Ap c.fEffects ha).fKind))) Mn Aa (DQ ((Ap c.fEffects ha).fKind) h1) Aa) (CN (Ay CI Aa Cs Aa Aa) (Gi (AQ (i:=0) C7 Aa Aa Aa) (CN (Ay CI Aa C2 Aa Aa) (Gi (AQ (i:=0) CQ Aa Aa Aa) (KU (DB (rs:=[As ((Ap c.fEffects ha).fDelay)]) (r:=rS (Lib.itoa ((Ap c.fEffects ha).fDelay))) Mn Aa (DQ ((Ap c.fEffects ha).fDelay) h4) Aa) (CN (Ay CI Aa CD Aa Aa) (Gi (AQ (i:=0) Es Aa Aa Aa) (KU (Et Tryz.call47 (LY F ((Ap c.fEffects ha).fValue) hb h8) Aa) (KU (Cq (ys:=([Lib.itoa ((Ap c.fEffects ha).fKind),(Ap c.fEffects ha).fKey,Lib.itoa ((Ap c.fEffects ha).fDelay),hb]:List An)) (enc:=eS) (css:=[[rS (Lib.itoa ((Ap c.fEffects ha).fKind))],[rS ((Ap c.fEffects ha).fKey)],[rS (Lib.itoa ((Ap c.fEffects ha).fDelay))],[rS hb]]) (xs:=[.tmp 38,.tmp 40,.tmp 43,.tmp 46]) Ct Cs R2 Aa Aa Aa ⟨DH.one Aa (Up.refl _),DH.one Aa (Up.refl _),DH.one Aa (Up.refl _),DH.one Aa (Up.refl _),trivial⟩ Aa Dg Aa Aa) (KU (Cq (ys:=([([Lib.itoa ((Ap c.fEffects ha).fKind),(Ap c.fEffects ha).fKey,Lib.itoa ((Ap c.fEffects ha).fDelay),hb]:List An)]:List (List An))) (enc:=Bs) (css:=[[AU 1 (Ax eS ([Lib.itoa ((Ap c.fEffects ha).fKind),(Ap c.fEffects ha).fKey,Lib.itoa ((Ap c.fEffects ha).fDelay),hb]:List An))]]) (xs:=[.tmp 47]) Iu Hd S2 Aa Aa Aa ⟨DH.one Aa (Up.refl _),trivial⟩ Aa D0 Aa Aa) ?_)))))))))))));exact OH
    refine CK (H1:=[.blk hg (Ai (Ap c.fEffects ha)) 65,.row hf 42 1 (Ax Bs he)]) [35,36,37,38,39,40,41,42,43,44,45,46,47,48,5,7,29,30,31] ?_;refine ck hA λhB hC=>Exists.elim Rh λinf hinf=>BQ (xs:=he) (ys:=([([Lib.itoa ((Ap c.fEffects ha).fKind),(Ap c.fEffects ha).fKey,Lib.itoa ((Ap c.fEffects ha).fDelay),hb]:List An)]:List (List An))) (enc:=Bs) (i:=1) Iu hinf.1 hinf.2.1 hinf.2.2.1 hinf.2.2.2 Aa Aa Aa Aa Aa (HY.z Aa Aa) D0 JT hB Aa (λhD=>?_);refine wa Aa (Av (AH (AT (At (ck hC λhE hG=>wv (BJ Aa Aa hE) (wm Aa (Av ?_)))))));have hH:=B8 hG hk;exact A5 (AK (hu,(he++([([Lib.itoa ((Ap c.fEffects ha).fKind),(Ap c.fEffects ha).fKey,Lib.itoa ((Ap c.fEffects ha).fDelay),hb]:List An)]:List (List An)),ha+1),hD) ⟨hH,Z3 _⟩ (AL.c Aa (AL.c Aa (AL.c Aa (AL.c Aa AL.nil)))) (sC (sS sN)))
   ·refine BB (A9 ?_);have hI:=Cv hy hk hs;exact A9 (Bh (AK (he,hf) hI (AL.c Aa AL.nil) (sC sN)))
  ·rintro⟨hi,v76⟩ hj;refine CJ (l':=[(5,rv v76)]) (H':=[.row v76 42 1 (Ax Bs hi)]) Aa Aa ?_;replace hj:Ea F hi=some r:=hj;unfold Ea at hj;refine Bf (AT (Al (wm Aa (WL.freeze (i:=0) Aa (WL.up (d:=51) (r:=AU 1 (Ax Bs hi)) Aa (Up.fact (i:=0) Aa) (ob hj λhJ hK hL=>Di Tryz.call48 (OP F hi hJ hK) Aa (wv (A4 Aa Aa) (wv (A4 Aa Aa) (wa Aa (wa Aa (Au (A0 ?_))))))))))));obtain rfl:=A1 hL;exact Az (Dq VL (AI Aa) (AI Aa)) (sS sN) ⟨Aa,Aa⟩
theorem Gc (F:Nat)(id:An)(r:An×Int)(h:DE F id=some r):Fn Tryz.prog GE 29 [rS id] [] (λR H=>R=Cn [rS r.1,As r.2]∧H=[]):=by
 refine enter (n:=13) Tryz.func29 Aa Tryz.ntmps29 Aa (λw Z=>?_);unfold DE at h;refine Al (wv (r:=rS ([]:An)) (A7 Aa) (wa Aa (Au (Aq (Al (wm Aa (CM (rs:=[rS id]) (r:=rB (LK id)) TO Aa (WA id) Aa Aa (wv (B7 Aa) (Au (cz h Aa (λc1 h2=>?_) (λc1 h3=>?_)))))))))))
 ·refine Al (wv (r:=rS ([]:An)) (A7 Aa) (wa Aa (Au (A0 (Af ?_)))));obtain rfl:=A1 h2;exact Az (Dq Tryz.results29 (AI Aa) (AI Aa)) sN ⟨Aa,Aa⟩
 ·refine A3 (AT (Al (wm Aa (Ba (ys:=([([97,99,107]:An),id]:List An)) (enc:=eS) (css:=[[rS ([97,99,107]:An)],[rS id]]) (xs:=[.const (.string ⟨#[97,99,107]⟩),.tmp 7]) Ct Cs R2 Aa Aa Aa ⟨DH.one Aa (Up.refl _),DH.one Aa (Up.refl _),trivial⟩ Aa Dg Aa Aa Aa (λb4=>?_)))));refine WL.freeze (i:=0) Aa (Ba (ys:=([([([97,99,107]:An),id]:List An)]:List (List An))) (enc:=Bs) (css:=[[AU 1 (Ax eS ([([97,99,107]:An),id]:List An))]]) (xs:=[.tmp 8]) Iu Hd S2 Aa Aa Aa ⟨DH.one Aa (Up.fact (i:=0) Aa),trivial⟩ Aa D0 Aa Aa Aa (λb5=>?_));refine WL.freeze (i:=0) Aa (WL.up (d:=9) (r:=AU 1 (Ax Bs ([([([97,99,107]:An),id]:List An)]:List (List An)))) Aa (Up.fact (i:=0) Aa) (ob h3 λr6 e8 h7=>Di Tryz.call48 (OP F ([([([97,99,107]:An),id]:List An)]:List (List An)) r6 e8) Aa (wv (A4 Aa Aa) (wv (A4 Aa Aa) (wa Aa (wa Aa (Au (A0 ?_))))))));obtain rfl:=A1 h7;exact Az (Dq Tryz.results29 (AI Aa) (AI Aa)) (sS (sS sN)) ⟨Aa,Aa⟩
theorem SZ (F:Nat)(l:(List (List An)))(r:AP×Bool)(h:OT F l=some r):Fn Tryz.prog GE 64 [AU 1 (Ax Bs l)] [] (λR H=>R=Cn [B9 (AW r.1),rB r.2]∧H=[]):=by
 refine enter (n:=131) Tryz.func64 Aa Tryz.ntmps64 Aa (λw Z=>?_);unfold OT at h;refine Al (BR (cs:=[rS ([]:An),rS ([]:An),As 0,rv (.slice none 0 0),rv (.slice none 0 0),As 0]) VH Aa Aa (λb1=>?_));refine wa Aa (Bk (BR (cs:=[rS ([]:An),rS ([]:An),As 0,rv (.slice none 0 0),rv (.slice none 0 0),As 0]) VH Aa Aa (λb2=>?_)));refine Au (Aq (Al (wm Aa (wv (Bt (ys:=l) (enc:=Bs) Iu Aa) (wv (r:=As 0) (Aw Aa) (Au (AO (WC.nilrow (e:=65) (sz:=4) (WC.upBlk (i:=1) (cs':=[rS ([]:An),rS ([]:An),As 0,AU 4 (Ax Ab ([]:List Ac)),rv (.slice none 0 0),As 0]) Aa ⟨Up.refl _,Up.refl _,Up.refl _,Up.le (HZ.nil _),Up.refl _,Up.refl _,trivial⟩ (G5 (H2:=[.blk b2 [rS ([]:An),rS ([]:An),As 0,AU 4 (Ax Ab ([]:List Ac)),rv (.slice none 0 0),As 0] 34,.blk b1 [rS ([]:An),rS ([]:An),As 0,rv (.slice none 0 0),rv (.slice none 0 0),As 0] 34,.row (.slice none 0 0                                                                 ) 65 4 (Ax Ai ([]:List Am))]) ((Ak (i:=1) Aa).trans (Zo _ ((Ak (i:=1) Aa).trans (Zo _ (Zp _))))) (ob h λhH hI hr=>B4 (S:=Nat×(Int×An×An×Int×(List Ac)×(List Am)×Int)×(Value)) (V:=(An×An×Int×(List Ac)×(List Am)×Int)×(Value)) 0 (λσ=>Cz (λσ=>HK F l σ.1 σ.2.1 σ.2.2.1 σ.2.2.2.1 σ.2.2.2.2.1 σ.2.2.2.2.2.1 σ.2.2.2.2.2.2) σ.1 σ.2.1=some hH) (λσ=>[(2,rP b1 0),(4,rP b2 0),(14,AU 1 (Ax Bs l)),(15,As (l.length:Int)),(16,As σ.2.1.1)]) (λσ=>[.blk b2 [rS σ.2.1.2.1,rS σ.2.1.2.2.1,As σ.2.1.2.2.2.1,AU 4 (Ax Ab σ.2.1.2.2.2.2.1),rv σ.2.2,As σ.2.1.2.2.2.2.2.2] 34,.blk b1 [rS ([]:An),rS ([]:An),As 0,rv (.slice none 0 0),rv (.slice none 0 0),As 0] 34,.row σ.2.2 65 4 (Ax Ai σ.2.1.2.2.2.2.2.1)]) (λσ=>σ.1) (F,(0,([]:An),([]:An),0,([]:List Ac),([]:List Am),0),(.slice none 0 0                                                                 )) hI (AL.c5 Aa Aa Aa Aa Aa AL.nil) (sC (sC (sC sN))) (λσ=>HJ σ.1.1 σ.1.2.1 σ.1.2.2.1 σ.1.2.2.2.1 σ.1.2.2.2.2.1 σ.1.2.2.2.2.2=some r) (λσ=>[(2,rP b1 0),(4,rP b2 0)]) (λσ=>[.blk b2 [rS σ.1.1,rS σ.1.2.1,As σ.1.2.2.1,AU 4 (Ax Ab σ.1.2.2.2.1),rv σ.2,As σ.1.2.2.2.2.2] 34,.blk b1 [rS ([]:An),rS ([]:An),As 0,rv (.slice none 0 0),rv (.slice none 0 0),As 0] 34,.row σ.2 65 4 (Ax Ai σ.1.2.2.2.2.1)]) ?_ ?_)))))))))))
 ·rintro⟨gV,⟨ha,hi,hh,hf,hd,hg,he⟩,hb⟩ hJ;refine Cf (l':=[(2,rP b1 0),(4,rP b2 0),(14,AU 1 (Ax Bs l)),(15,As (l.length:Int)),(16,As ha)]) (H':=[.blk b2 [rS hi,rS hh,As hf,AU 4 (Ax Ab hd),rv hb,As he] 34,.blk b1 [rS ([]:An),rS ([]:An),As 0,rv (.slice none 0 0),rv (.slice none 0 0),As 0] 34,.row hb 65 4 (Ax Ai hg)]) Aa Aa ?_;obtain⟨hK,rfl,h5,h1,hq⟩:=CO hJ;replace h1:HK F l ha hi hh hf hd hg he=some h5:=h1;unfold HK at h1;refine Al (wv (CZ Aa Aa) (Au (Aq (cz h1 Aa (λhL hN=>?_) (λhL hO=>?_)))))
  ·refine A3 (AT (C8 (S:=(An×An×Int×(List Ac)×(List Am)×Int)×(Value)) (λσ=>E9 ha σ.1.1 σ.1.2.1 σ.1.2.2.1 σ.1.2.2.2.1 σ.1.2.2.2.2.1 σ.1.2.2.2.2.2=some h5) (λσ=>[(2,rP b1 0),(4,rP b2 0),(14,AU 1 (Ax Bs l)),(15,As (l.length:Int)),(16,As ha)]) (λσ=>[.blk b2 [rS σ.1.1,rS σ.1.2.1,As σ.1.2.2.1,AU 4 (Ax Ab σ.1.2.2.2.1),rv σ.2,As σ.1.2.2.2.2.2] 34,.blk b1 [rS ([]:An),rS ([]:An),As 0,rv (.slice none 0 0),rv (.slice none 0 0),As 0] 34,.row σ.2 65 4 (Ax Ai σ.1.2.2.2.2.1)]) ?_ ?_))
   ·refine AO (Al (wm Aa (ck hN λhP hQ=>wv (BT (enc:=Bs) (ys:=l) Iu Hd Aa Aa hP) (wv (BD LE Aa Aa) (wa Aa (wa Aa (Bk (wa Aa (Bk (wa Aa (wa Aa (Au (AO (AR [(2,rP b1 0),(4,rP b2 0),(5,As ha),(6,AU 1 (Ax eS (Ap l ha))),(7,rv (.slice none 0 0)),(14,AU 1 (Ax Bs l)),(15,As (l.length:Int)),(16,As ha),(22,rB ((decide (ha=0))&&(decide (((Ap l ha).length:Int)=6))))] [.blk b2 [rS hi,rS hh,As hf,AU 4 (Ax Ab hd),rv hb,As he] 34,.blk b1 [rS ([]:An),rS ([]:An),As 0,rv (.slice none 0 0),rv (.slice none 0 0),As 0] 34,.row hb 65 4 (Ax Ai hg)] ?_ ?_))))))))))))))
    ·refine At (wm Aa (wv (BN Aa Aa) (wm Aa (AX (decide (ha=0)) (λhk=>?_) (λhk=>?_)))))
     ·refine wo hk (wm Aa (wo hk (wv (Bt (ys:=Ap l ha) (enc:=eS) Ct Aa) (wo hk (wv (BN Aa Aa) (JF Aa hk Aa (wa Aa (Av ?_))))))));exact CF hk
     ·refine wf hk (wf hk (wf hk (wv (r:=rB false) (AF Aa hk Aa) (wa Aa (Av ?_)))));exact CF hk
    refine cz hQ Aa (λhR hS=>?_) (λhR hT=>?_)
    ·refine Aq (ck hS λhU hV=>ck hV λhW hX=>Gr (H1:=[.blk b2 [rS (Ap (Ap l ha) 1),rS (Ap (Ap l ha) 2),As hf,AU 4 (Ax Ab hd),rv hb,As he] 34,.blk b1 [rS ([]:An),rS ([]:An),As 0,rv (.slice none 0 0),rv (.slice none 0 0),As 0] 34,.row hb 65 4 (Ax Ai hg)]) [2,4,6,14,15,16] [⟨[],AU 1 (Ax eS (Ap l ha)),0⟩,⟨[0],TC [rS (Ap (Ap l ha) 1)],0⟩,⟨[1],rS (Ap (Ap l ha) 1),0⟩,⟨[],AU 1 (Ax eS (Ap l ha)),0⟩,⟨[3],TC [rS (Ap (Ap l ha) 2)],0⟩,⟨[4],rS (Ap (Ap l ha) 2),0⟩,⟨[],rP b2 0,0⟩,⟨[6,2],rv undef,2⟩,⟨[],rP b2 1,0⟩,⟨[8,5],rv undef,2⟩] (rle [(8,_),(2,[.blk b2 [rS (Ap (Ap l ha) 1),rS hh,As hf,AU 4 (Ax Ab hd),rv hb,As he] 34,.blk b1 [rS ([]:An),rS ([]:An),As 0,rv (.slice none 0 0),rv (.slice none 0 0),As 0] 34,.row hb 65 4 (Ax Ai hg)]),(1,[.blk b2 [rS (Ap (Ap l ha) 1),rS (Ap (Ap l ha) 2),As hf,AU 4 (Ax Ab hd),rv hb,As he] 34,.blk b1 [rS ([]:An),rS ([]:An),As 0,rv (.slice none 0 0),rv (.slice none 0 0),As 0] 34,.row hb 65 4 (Ax Ai hg)])]) [2,4,6,14,15,16] ?_ ?_)
     ·refine oq (Aw Aa) (oq (BT (enc:=eS) (ys:=Ap l ha) Ct Cs Aa Aa hU) (oq (BD C7 Aa Aa) (oq (Aw Aa) (oq (BT (enc:=eS) (ys:=Ap l ha) Ct Cs Aa Aa hW) (oq (BD C7 Aa Aa) (oq (Ay Cm Aa Cs Aa Aa) (I6 Aa (OE (Jw (i:=0) Cs Aa Aa (Bw Aa) Aa Aa (cs':=[rS (Ap (Ap l ha) 1),rS hh,As hf,AU 4 (Ax Ab hd),rv hb,As he]) Aa (H':=[.blk b2 [rS (Ap (Ap l ha) 1),rS hh,As hf,AU 4 (Ax Ab hd),rv hb,As he] 34,.blk b1 [rS ([]:An),rS ([]:An),As 0,rv (.slice none 0 0),rv (.slice none 0 0),As 0] 34,.row hb 65 4 (Ax Ai hg)]) Aa)) ?_)))))));refine oq (Ay Cm Aa Cs Aa Aa) (I6 Aa (OE (Jw (i:=0) Cs Aa Aa (Bw Aa) Aa Aa (cs':=[rS (Ap (Ap l ha) 1),rS (Ap (Ap l ha) 2),As hf,AU 4 (Ax Ab hd),rv hb,As he]) Aa (H':=[.blk b2 [rS (Ap (Ap l ha) 1),rS (Ap (Ap l ha) 2),As hf,AU 4 (Ax Ab hd),rv hb,As he] 34,.blk b1 [rS ([]:An),rS ([]:An),As 0,rv (.slice none 0 0),rv (.slice none 0 0),As 0] 34,.row hb 65 4 (Ax Ai hg)]) Aa)) ?_);exact C9
     refine AT (Al (wa Aa (wa Aa (wa Aa (Bk (wm Aa (ck hX λhY hZ=>wv (BT (enc:=eS) (ys:=Ap l ha) Ct Cs Aa Aa hY) (wv (BD C7 Aa Aa) (ck hZ λga gb=>CM (rs:=[rS (Ap (Ap l ha) 3)]) (r:=Cn [As (AS (Ap (Ap l ha) 3)),As (Ce (Ap (Ap l ha) 3))]) TM Aa (Kt (Ap (Ap l ha) 3) ga) Aa Aa (wm Aa (wv (A4 Aa Aa) (wv (A4 Aa Aa) (vF Cm Aa C2 (Bv (i:=0) C2 Aa Aa (Bw Aa) Aa Aa (cs':=[rS (Ap (Ap l ha) 1),rS (Ap (Ap l ha) 2),As (AS (Ap (Ap l ha) 3)),AU 4 (Ax Ab hd),rv hb,As he]) Aa (H':=[.blk b2 [rS (Ap (Ap l ha) 1),rS (Ap (Ap l ha) 2),As (AS (Ap (Ap l ha) 3)),AU 4 (Ax Ab hd),rv hb,As he] 34,.blk b1 [rS ([]:An),rS ([]:An),As 0,rv (.slice none 0 0),rv (.slice none 0 0),As 0] 34,.row hb 65 4 (Ax Ai hg)]) Aa (wa Aa (Bk (wm Aa (ck gb λgc gd=>wv (BT (enc:=eS) (ys:=Ap l ha) Ct Cs Aa Aa gc) (wv (BD C7 Aa Aa) (ck gd λge gf=>?_))))))))))))))))))));refine CM (rs:=[rS (Ap (Ap l ha) 4)]) (r:=Cn [As (AS (Ap (Ap l ha) 4)),As (Ce (Ap (Ap l ha) 4))]) TM Aa (Kt (Ap (Ap l ha) 4) ge) Aa Aa (wm Aa (wv (A4 Aa Aa) (wv (A4 Aa Aa) (vF Cm Aa C2 (Bv (i:=0) C2 Aa Aa (Bw Aa) Aa Aa (cs':=[rS (Ap (Ap l ha) 1),rS (Ap (Ap l ha) 2),As (AS (Ap (Ap l ha) 3)),AU 4 (Ax Ab hd),rv hb,As (AS (Ap (Ap l ha) 4))]) Aa (H':=[.blk b2 [rS (Ap (Ap l ha) 1),rS (Ap (Ap l ha) 2),As (AS (Ap (Ap l ha) 3)),AU 4 (Ax Ab hd),rv hb,As (AS (Ap (Ap l ha) 4))] 34,.blk b1 [rS ([]:An),rS ([]:An),As 0,rv (.slice none 0 0),rv (.slice none 0 0),As 0] 34,.row hb 65 4 (Ax Ai hg)]) Aa (wa Aa (Bk (wm Aa (ck gf λgg gh=>wv (BT (enc:=eS) (ys:=Ap l ha) Ct Cs Aa Aa gg) (wv (BD C7 Aa Aa) (ob gh λhm gi gj=>Di Tryz.call100 (NG F (Ap (Ap l ha) 5) hm gi) Aa (wm Aa (wv (A4 Aa Aa) (wv (A4 Aa Aa) (vF Cm Aa CD (Bv (i:=0) CD Aa Aa (Bw Aa) Aa Aa (cs':=[rS (Ap (Ap l ha) 1),rS (Ap (Ap l ha) 2),As (AS (Ap (Ap l ha) 3)),AU 4 (Ax Ab hm.1),rv hb,As (AS (Ap (Ap l ha) 4))]) Aa (H':=[.blk b2 [rS (Ap (Ap l ha) 1),rS (Ap (Ap l ha) 2),As (AS (Ap (Ap l ha) 3)),AU 4 (Ax Ab hm.1),rv hb,As (AS (Ap (Ap l ha) 4))] 34,.blk b1 [rS ([]:An),rS ([]:An),As 0,rv (.slice none 0 0),rv (.slice none 0 0),As 0] 34,.row hb 65 4 (Ax Ai hg)]) Aa (wa Aa (Au (AR [(2,rP b1 0),(4,rP b2 0),(14,AU 1 (Ax Bs l)),(15,As (l.length:Int)),(16,As ha),(71,rB ((!decide ((Ce (Ap (Ap l ha) 3))=0))||((!decide ((Ce (Ap (Ap l ha) 4))=0))||(!decide (hm.2=0)))))] [.blk b2 [rS (Ap (Ap l ha) 1),rS (Ap (Ap l ha) 2),As (AS (Ap (Ap l ha) 3)),AU 4 (Ax Ab hm.1),rv hb,As (AS (Ap (Ap l ha) 4))] 34,.blk b1 [rS ([]:An),rS ([]:An),As 0,rv (.slice none 0 0),rv (.slice none 0 0),As 0] 34,.row hb 65 4 (Ax Ai hg)] ?_ ?_)))))))))))))))))))
     ·refine At (wm Aa (wv (Cr Aa Aa) (wm Aa (AX (!decide ((Ce (Ap (Ap l ha) 3))=0)) (λhn=>?_) (λhn=>?_)))))
      ·refine wf hn (wf hn (wv (r:=rB true) (AA Aa hn Aa) (wm Aa (wz Aa Aa (wz Aa Aa (wv (r:=rB true) (AA (b:=true) Aa Aa Aa) (Av ?_)))))));exact CF hn
      ·refine wo hn (wm Aa (wo hn (wv (Cr Aa Aa) (Hc Aa hn Aa (wm Aa (AX (!decide ((Ce (Ap (Ap l ha) 4))=0)) (λhp=>?_) (λhp=>?_)))))))
       ·refine wf hp (wf hp (wv (r:=rB true) (AA Aa hp Aa) (Av ?_)));exact CF (And.intro hn hp)
       ·refine wo hp (wm Aa (wo hp (wv (Cr Aa Aa) (Hc Aa hp Aa (Av ?_)))));exact CF (And.intro hn hp)
     refine cz gj Aa (λgl gm=>?_) (λgl gp=>?_)
     ·refine Al (wv (AZ (i:=0) E5 Dl Aa Aa Aa Aa) (Bj (i:=1) Dl Aa Aa Aa ⟨(Bw Aa),(Bw Aa),(Bw Aa),(Bw Aa),(Cl (i:=2) Aa),(Bw Aa),trivial⟩ Aa Aa (cs':=[rS (Ap (Ap l ha) 1),rS (Ap (Ap l ha) 2),As (AS (Ap (Ap l ha) 3)),AU 4 (Ax Ab hm.1),rv hb,As (AS (Ap (Ap l ha) 4))]) Aa (H':=[.blk b2 [rS (Ap (Ap l ha) 1),rS (Ap (Ap l ha) 2),As (AS (Ap (Ap l ha) 3)),AU 4 (Ax Ab hm.1),rv hb,As (AS (Ap (Ap l ha) 4))] 34,.blk b1 [rS (Ap (Ap l ha) 1),rS (Ap (Ap l ha) 2),As (AS (Ap (Ap l ha) 3)),AU 4 (Ax Ab hm.1),rv hb,As (AS (Ap (Ap l ha) 4))] 34,.row hb 65 4 (Ax Ai hg)]) Aa (wa Aa (Au (A0 (AD (AD (Af (Af (Bg ?_))))))))));have gq:=BG gm hq hr;refine AD (Af (WK.freeze (i:=2) Aa (WK.upBlk (i:=2) (cs':=[rS (Ap (Ap l ha) 1),rS (Ap (Ap l ha) 2),As (AS (Ap (Ap l ha) 3)),AU 4 (Ax Ab hm.1),AU 4 (Ax Ai hg),As (AS (Ap (Ap l ha) 4))]) Aa ⟨Up.refl _,Up.refl _,Up.refl _,Up.refl _,Up.fact (i:=0) Aa,Up.refl _,trivial⟩ ?_)));obtain rfl:=A1 gq;exact Az (Dq S5 (Hm (i:=2) E5 Dl Aa Aa Aa) (AI Aa)) (sS (sS (sS sN))) ⟨Aa,Aa⟩
     ·exact A3 (AH (AH (A5 (AK ((Ap (Ap l ha) 1,Ap (Ap l ha) 2,AS (Ap (Ap l ha) 3),hm.1,hg,AS (Ap (Ap l ha) 4)),hb) gp (AL.c5 Aa Aa Aa Aa Aa AL.nil) (sC (sC (sC sN)))))))
    ·refine AR [(2,rP b1 0),(4,rP b2 0),(6,AU 1 (Ax eS (Ap l ha))),(7,rv (.slice none 0 0)),(14,AU 1 (Ax Bs l)),(15,As (l.length:Int)),(16,As ha),(73,rB ((decide (0<ha))&&(decide (((Ap l ha).length:Int)=4))))] [.blk b2 [rS hi,rS hh,As hf,AU 4 (Ax Ab hd),rv hb,As he] 34,.blk b1 [rS ([]:An),rS ([]:An),As 0,rv (.slice none 0 0),rv (.slice none 0 0),As 0] 34,.row hb 65 4 (Ax Ai hg)] ?_ ?_
     ·refine At (wm Aa (wv (D4 Aa Aa) (wm Aa (AX (decide (0<ha)) (λhl=>?_) (λhl=>?_)))))
      ·refine wo hl (wm Aa (wo hl (wv (Bt (ys:=Ap l ha) (enc:=eS) Ct Aa) (wo hl (wv (BN Aa Aa) (JF Aa hl Aa (wa Aa (Av ?_))))))));exact CF hl
      ·refine wf hl (wf hl (wf hl (wv (r:=rB false) (AF Aa hl Aa) (wa Aa (Av ?_)))));exact CF hl
     refine cz hT Aa (λgr gs=>?_) (λgr gt=>?_)
     ·refine Aq (Al (wm Aa (ck gs λgu gv=>wv (BT (enc:=eS) (ys:=Ap l ha) Ct Cs Aa Aa gu) (wv (BD C7 Aa Aa) (ck gv λgw gx=>CM (rs:=[rS (Ap (Ap l ha) 0)]) (r:=Cn [As (AS (Ap (Ap l ha) 0)),As (Ce (Ap (Ap l ha) 0))]) TM Aa (Kt (Ap (Ap l ha) 0) gw) Aa Aa (wm Aa (wv (A4 Aa Aa) (wv (A4 Aa Aa) (wa Aa (wa Aa (Bk (wm Aa (wv (Cr Aa Aa) (Au (cz gx Aa (λgy gz=>?_) (λgy g0=>?_))))))))))))))))
      ·refine Al (wv (AZ (i:=0) E5 Dl Aa Aa Aa Aa) (Bj (i:=1) Dl Aa Aa Aa ⟨(Bw Aa),(Bw Aa),(Bw Aa),(Bw Aa),(Cl (i:=2) Aa),(Bw Aa),trivial⟩ Aa Aa (cs':=[rS hi,rS hh,As hf,AU 4 (Ax Ab hd),rv hb,As he]) Aa (H':=[.blk b2 [rS hi,rS hh,As hf,AU 4 (Ax Ab hd),rv hb,As he] 34,.blk b1 [rS hi,rS hh,As hf,AU 4 (Ax Ab hd),rv hb,As he] 34,.row hb 65 4 (Ax Ai hg)]) Aa (wa Aa (Au (A0 (Af (AD (AD (Af (Af (Bg ?_)))))))))));have g1:=BG gz hq hr;refine AD (Af (WK.freeze (i:=2) Aa (WK.upBlk (i:=2) (cs':=[rS hi,rS hh,As hf,AU 4 (Ax Ab hd),AU 4 (Ax Ai hg),As he]) Aa ⟨Up.refl _,Up.refl _,Up.refl _,Up.refl _,Up.fact (i:=0) Aa,Up.refl _,trivial⟩ ?_)));obtain rfl:=A1 g1;exact Az (Dq S5 (Hm (i:=2) E5 Dl Aa Aa Aa) (AI Aa)) (sS (sS (sS sN))) ⟨Aa,Aa⟩
      ·refine A3 (AT (Al (wm Aa (wm Aa (ck g0 λg2 g3=>wv (BT (enc:=eS) (ys:=Ap l ha) Ct Cs Aa Aa g2) (wv (BD C7 Aa Aa) (wv (r:=B9 [As (AS (Ap (Ap l ha) 0)),rS (Ap (Ap l ha) 1),rv (.slice none 0 0),As 0]) (N1 Aa Aa Aa Aa) (BR (cs:=[As 0,rS ([]:An),rv (.slice none 0 0),As 0]) KK Aa Aa (λho=>?_)))))))));refine Bj (i:=0) CY Aa Aa Aa (Cj.c Aa) Aa Aa (cs':=[As (AS (Ap (Ap l ha) 0)),rS (Ap (Ap l ha) 1),rv (.slice none 0 0),As 0]) Aa (H':=[.blk ho [As (AS (Ap (Ap l ha) 0)),rS (Ap (Ap l ha) 1),rv (.slice none 0 0),As 0] 65,.blk b2 [rS hi,rS hh,As hf,AU 4 (Ax Ab hd),rv hb,As he] 34,.blk b1 [rS ([]:An),rS ([]:An),As 0,rv (.slice none 0 0),rv (.slice none 0 0),As 0] 34,.row hb 65 4 (Ax Ai hg)]) Aa (Au (Aq (Al (wm Aa (ck g3 λg4 g5=>wv (BT (enc:=eS) (ys:=Ap l ha) Ct Cs Aa Aa g4) (wv (BD C7 Aa Aa) (ck g5 λg6 g7=>CM (rs:=[rS (Ap (Ap l ha) 2)]) (r:=Cn [As (AS (Ap (Ap l ha) 2)),As (Ce (Ap (Ap l ha) 2))]) TM Aa (Kt (Ap (Ap l ha) 2) g6) Aa Aa (wm Aa (wv (A4 Aa Aa) (wv (A4 Aa Aa) (vF CI Aa C2 (Bv (i:=0) C2 Aa Aa (Bw Aa) Aa Aa (cs':=[As (AS (Ap (Ap l ha) 0)),rS (Ap (Ap l ha) 1),rv (.slice none 0 0),As (AS (Ap (Ap l ha) 2))]) Aa (H':=[.blk ho [As (AS (Ap (Ap l ha) 0)),rS (Ap (Ap l ha) 1),rv (.slice none 0 0),As (AS (Ap (Ap l ha) 2))] 65,.blk b2 [rS hi,rS hh,As hf,AU 4 (Ax Ab hd),rv hb,As he] 34,.blk b1 [rS ([]:An),rS ([]:An),As 0,rv (.slice none 0 0),rv (.slice none 0 0),As 0] 34,.row hb 65 4 (Ax Ai hg)]) Aa (wa Aa (Bk (wm Aa (wv (Cr Aa Aa) (Au (cz g7 Aa (λg8 g9=>?_) (λg8 gA=>?_)))))))))))))))))))
       ·refine Al (wv (AZ (i:=1) E5 Dl Aa Aa Aa Aa) (Bj (i:=2) Dl Aa Aa Aa ⟨(Bw Aa),(Bw Aa),(Bw Aa),(Bw Aa),(Cl (i:=3) Aa),(Bw Aa),trivial⟩ Aa Aa (cs':=[rS hi,rS hh,As hf,AU 4 (Ax Ab hd),rv hb,As he]) Aa (H':=[.blk ho [As (AS (Ap (Ap l ha) 0)),rS (Ap (Ap l ha) 1),rv (.slice none 0 0),As (AS (Ap (Ap l ha) 2))] 65,.blk b2 [rS hi,rS hh,As hf,AU 4 (Ax Ab hd),rv hb,As he] 34,.blk b1 [rS hi,rS hh,As hf,AU 4 (Ax Ab hd),rv hb,As he] 34,.row hb 65 4 (Ax Ai hg)]) Aa (wa Aa (Au (A0 (Af (AD (AD (Af (Af (Bg ?_)))))))))));have gB:=BG g9 hq hr;refine AD (Af (WK.freeze (i:=3) Aa (WK.upBlk (i:=3) (cs':=[rS hi,rS hh,As hf,AU 4 (Ax Ab hd),AU 4 (Ax Ai hg),As he]) Aa ⟨Up.refl _,Up.refl _,Up.refl _,Up.refl _,Up.fact (i:=0) Aa,Up.refl _,trivial⟩ ?_)));obtain rfl:=A1 gB;exact Az (Dq S5 (Hm (i:=3) E5 Dl Aa Aa Aa) (AI Aa)) (sS (sS (sS (sS sN)))) ⟨Aa,Aa⟩
       ·refine A3 (AT (Aq (Al (wm Aa (ck gA λhD gC=>wv (BT (enc:=eS) (ys:=Ap l ha) Ct Cs Aa Aa hD) (wv (BD C7 Aa Aa) (wv (I7 Aa Aa) (Au (cz gC Aa (λgD gE=>?_) (λgD gF=>?_))))))))))
        ·refine Al (wm Aa (wv (BT (enc:=eS) (ys:=Ap l ha) Ct Cs Aa Aa hD) (wv (BD C7 Aa Aa) (ob gE λhj gG gH=>Di Tryz.call100 (NG F (Ap (Ap l ha) 3) hj gG) Aa (wm Aa (wv (A4 Aa Aa) (wv (A4 Aa Aa) (wa Aa (wa Aa (Bk (wm Aa (wv (Cr Aa Aa) (Au (cz gH Aa (λgI gJ=>?_) (λgI gK=>?_)))))))))))))))
         ·refine Al (wv (AZ (i:=1) E5 Dl Aa Aa Aa Aa) (Bj (i:=2) Dl Aa Aa Aa ⟨(Bw Aa),(Bw Aa),(Bw Aa),(Bw Aa),(Cl (i:=3) Aa),(Bw Aa),trivial⟩ Aa Aa (cs':=[rS hi,rS hh,As hf,AU 4 (Ax Ab hd),rv hb,As he]) Aa (H':=[.blk ho [As (AS (Ap (Ap l ha) 0)),rS (Ap (Ap l ha) 1),rv (.slice none 0 0),As (AS (Ap (Ap l ha) 2))] 65,.blk b2 [rS hi,rS hh,As hf,AU 4 (Ax Ab hd),rv hb,As he] 34,.blk b1 [rS hi,rS hh,As hf,AU 4 (Ax Ab hd),rv hb,As he] 34,.row hb 65 4 (Ax Ai hg)]) Aa (wa Aa (Au (A0 (Af (AD (AD (Af (Af (Bg ?_)))))))))));have gL:=BG gJ hq hr;refine AD (Af (WK.freeze (i:=3) Aa (WK.upBlk (i:=3) (cs':=[rS hi,rS hh,As hf,AU 4 (Ax Ab hd),AU 4 (Ax Ai hg),As he]) Aa ⟨Up.refl _,Up.refl _,Up.refl _,Up.refl _,Up.fact (i:=0) Aa,Up.refl _,trivial⟩ ?_)));obtain rfl:=A1 gL;exact Az (Dq S5 (Hm (i:=3) E5 Dl Aa Aa Aa) (AI Aa)) (sS (sS (sS (sS sN)))) ⟨Aa,Aa⟩
         ·refine A3 (AT (Al (wm Aa (vF CI Aa CD (Bv (i:=0) CD Aa Aa (Bw Aa) Aa Aa (cs':=[As (AS (Ap (Ap l ha) 0)),rS (Ap (Ap l ha) 1),AU 4 (Ax Ab hj.1),As (AS (Ap (Ap l ha) 2))]) Aa (H':=[.blk ho [As (AS (Ap (Ap l ha) 0)),rS (Ap (Ap l ha) 1),AU 4 (Ax Ab hj.1),As (AS (Ap (Ap l ha) 2))] 65,.blk b2 [rS hi,rS hh,As hf,AU 4 (Ax Ab hd),rv hb,As he] 34,.blk b1 [rS ([]:An),rS ([]:An),As 0,rv (.slice none 0 0),rv (.slice none 0 0),As 0] 34,.row hb 65 4 (Ax Ai hg)]) Aa (Au (At (vF Cm Aa Iw (vL 1 KL Aa (wv (AZ (i:=0) Hf CY Aa Aa Aa Aa) (Ba (ys:=([(Am.mk (AS (Ap (Ap l ha) 0)) (Ap (Ap l ha) 1) hj.1 (AS (Ap (Ap l ha) 2)))]:List Am)) (enc:=Ai) (css:=[[As (AS (Ap (Ap l ha) 0)),rS (Ap (Ap l ha) 1),AU 4 (Ax Ab hj.1),As (AS (Ap (Ap l ha) 2))]]) (xs:=[.tmp 125]) EY CY KK Aa Aa Aa ⟨DH.agg ⟨Up.refl _,Up.refl _,Up.refl _,Up.refl _,trivial⟩,trivial⟩ Aa Dc Aa Aa Aa (λhE=>?_))))))))))));refine ck gK λgM gN=>Exists.elim Vc λinf hinf=>BQ (xs:=hg) (ys:=([(Am.mk (AS (Ap (Ap l ha) 0)) (Ap (Ap l ha) 1) hj.1 (AS (Ap (Ap l ha) 2)))]:List Am)) (enc:=Ai) (i:=4) EY hinf.1 hinf.2.1 hinf.2.2.1 hinf.2.2.2 Aa Aa Aa Aa Aa (HY.w (i:=0) Aa Aa) Dc Ii gM Aa (λhs=>?_);exact vF Cm Aa Iw (Bv (i:=3) Iw Aa Aa (Cl (i:=0) Aa) Aa Aa (cs':=[rS hi,rS hh,As hf,AU 4 (Ax Ab hd),rv hs,As he]) Aa (H':=[.row hs 65 4 (Ax Ai (hg++([(Am.mk (AS (Ap (Ap l ha) 0)) (Ap (Ap l ha) 1) hj.1 (AS (Ap (Ap l ha) 2)))]:List Am))),.row (.slice (some ⟨hE,0,none⟩) 1 1) 65 4 (Ax Ai ([(Am.mk (AS (Ap (Ap l ha) 0)) (Ap (Ap l ha) 1) hj.1 (AS (Ap (Ap l ha) 2)))]:List Am)),.blk ho [As (AS (Ap (Ap l ha) 0)),rS (Ap (Ap l ha) 1),AU 4 (Ax Ab hj.1),As (AS (Ap (Ap l ha) 2))] 65,.blk b2 [rS hi,rS hh,As hf,AU 4 (Ax Ab hd),rv hs,As he] 34,.blk b1 [rS ([]:An),rS ([]:An),As 0,rv (.slice none 0 0),rv (.slice none 0 0),As 0] 34]) Aa (Av (AH (AH (BF (H2:=[.blk b2 [rS hi,rS hh,As hf,AU 4 (Ax Ab hd),rv hs,As he] 34,.blk b1 [rS ([]:An),rS ([]:An),As 0,rv (.slice none 0 0),rv (.slice none 0 0),As 0] 34,.row hs 65 4 (Ax Ai (hg++([(Am.mk (AS (Ap (Ap l ha) 0)) (Ap (Ap l ha) 1) hj.1 (AS (Ap (Ap l ha) 2)))]:List Am))),.row (.slice (some ⟨hE,0,none⟩) 1 1) 65 4 (Ax Ai ([(Am.mk (AS (Ap (Ap l ha) 0)) (Ap (Ap l ha) 1) hj.1 (AS (Ap (Ap l ha) 2)))]:List Am)),.blk ho [As (AS (Ap (Ap l ha) 0)),rS (Ap (Ap l ha) 1),AU 4 (Ax Ab hj.1),As (AS (Ap (Ap l ha) 2))] 65]) ((Ak (i:=3) Aa).trans (Zo _ ((Ak (i:=3) Aa).trans (Zo _ (Zp _))))) (A5 (AK ((hi,hh,hf,hd,hg++([(Am.mk (AS (Ap (Ap l ha) 0)) (Ap (Ap l ha) 1) hj.1 (AS (Ap (Ap l ha) 2)))]:List Am),he),hs) gN (AL.c5 Aa Aa Aa Aa Aa AL.nil) (sC (sC (sC (sS (sS sN))))))))))))
        ·refine A3 (AT (Al (wm Aa (vF CI Aa CD (Bv (i:=0) CD Aa Aa (Bw Aa) Aa Aa (cs':=[As (AS (Ap (Ap l ha) 0)),rS (Ap (Ap l ha) 1),rv (.slice none 0 0),As (AS (Ap (Ap l ha) 2))]) Aa (H':=[.blk ho [As (AS (Ap (Ap l ha) 0)),rS (Ap (Ap l ha) 1),rv (.slice none 0 0),As (AS (Ap (Ap l ha) 2))] 65,.blk b2 [rS hi,rS hh,As hf,AU 4 (Ax Ab hd),rv hb,As he] 34,.blk b1 [rS ([]:An),rS ([]:An),As 0,rv (.slice none 0 0),rv (.slice none 0 0),As 0] 34,.row hb 65 4 (Ax Ai hg)]) Aa (Au (At (vF Cm Aa Iw (vL 1 KL Aa (wv (AZ (i:=0) Hf CY Aa Aa Aa Aa) (Ba (ys:=([(Am.mk (AS (Ap (Ap l ha) 0)) (Ap (Ap l ha) 1) ([]:List Ac) (AS (Ap (Ap l ha) 2)))]:List Am)) (enc:=Ai) (css:=[[As (AS (Ap (Ap l ha) 0)),rS (Ap (Ap l ha) 1),AU 4 (Ax Ab ([]:List Ac)),As (AS (Ap (Ap l ha) 2))]]) (xs:=[.tmp 125]) EY CY KK Aa Aa Aa ⟨DH.agg ⟨Up.refl _,Up.refl _,Up.le (HZ.nil _),Up.refl _,trivial⟩,trivial⟩ Aa Dc Aa Aa Aa (λhG=>?_))))))))))));refine ck gF λgO gP=>Exists.elim Vc λinf hinf=>BQ (xs:=hg) (ys:=([(Am.mk (AS (Ap (Ap l ha) 0)) (Ap (Ap l ha) 1) ([]:List Ac) (AS (Ap (Ap l ha) 2)))]:List Am)) (enc:=Ai) (i:=4) EY hinf.1 hinf.2.1 hinf.2.2.1 hinf.2.2.2 Aa Aa Aa Aa Aa (HY.w (i:=0) Aa Aa) Dc Ii gO Aa (λht=>?_);exact vF Cm Aa Iw (Bv (i:=3) Iw Aa Aa (Cl (i:=0) Aa) Aa Aa (cs':=[rS hi,rS hh,As hf,AU 4 (Ax Ab hd),rv ht,As he]) Aa (H':=[.row ht 65 4 (Ax Ai (hg++([(Am.mk (AS (Ap (Ap l ha) 0)) (Ap (Ap l ha) 1) ([]:List Ac) (AS (Ap (Ap l ha) 2)))]:List Am))),.row (.slice (some ⟨hG,0,none⟩) 1 1) 65 4 (Ax Ai ([(Am.mk (AS (Ap (Ap l ha) 0)) (Ap (Ap l ha) 1) ([]:List Ac) (AS (Ap (Ap l ha) 2)))]:List Am)),.blk ho [As (AS (Ap (Ap l ha) 0)),rS (Ap (Ap l ha) 1),rv (.slice none 0 0),As (AS (Ap (Ap l ha) 2))] 65,.blk b2 [rS hi,rS hh,As hf,AU 4 (Ax Ab hd),rv ht,As he] 34,.blk b1 [rS ([]:An),rS ([]:An),As 0,rv (.slice none 0 0),rv (.slice none 0 0),As 0] 34]) Aa (Av (AH (AH (BF (H2:=[.blk b2 [rS hi,rS hh,As hf,AU 4 (Ax Ab hd),rv ht,As he] 34,.blk b1 [rS ([]:An),rS ([]:An),As 0,rv (.slice none 0 0),rv (.slice none 0 0),As 0] 34,.row ht 65 4 (Ax Ai (hg++([(Am.mk (AS (Ap (Ap l ha) 0)) (Ap (Ap l ha) 1) ([]:List Ac) (AS (Ap (Ap l ha) 2)))]:List Am))),.row (.slice (some ⟨hG,0,none⟩) 1 1) 65 4 (Ax Ai ([(Am.mk (AS (Ap (Ap l ha) 0)) (Ap (Ap l ha) 1) ([]:List Ac) (AS (Ap (Ap l ha) 2)))]:List Am)),.blk ho [As (AS (Ap (Ap l ha) 0)),rS (Ap (Ap l ha) 1),rv (.slice none 0 0),As (AS (Ap (Ap l ha) 2))] 65]) ((Ak (i:=3) Aa).trans (Zo _ ((Ak (i:=3) Aa).trans (Zo _ (Zp _))))) (A5 (AK ((hi,hh,hf,hd,hg++([(Am.mk (AS (Ap (Ap l ha) 0)) (Ap (Ap l ha) 1) ([]:List Ac) (AS (Ap (Ap l ha) 2)))]:List Am),he),ht) gP (AL.c5 Aa Aa Aa Aa Aa AL.nil) (sC (sC (sC (sS (sS sN))))))))))))
     ·refine Al (wv (AZ (i:=0) E5 Dl Aa Aa Aa Aa) (Bj (i:=1) Dl Aa Aa Aa ⟨(Bw Aa),(Bw Aa),(Bw Aa),(Bw Aa),(Cl (i:=2) Aa),(Bw Aa),trivial⟩ Aa Aa (cs':=[rS hi,rS hh,As hf,AU 4 (Ax Ab hd),rv hb,As he]) Aa (H':=[.blk b2 [rS hi,rS hh,As hf,AU 4 (Ax Ab hd),rv hb,As he] 34,.blk b1 [rS hi,rS hh,As hf,AU 4 (Ax Ab hd),rv hb,As he] 34,.row hb 65 4 (Ax Ai hg)]) Aa (wa Aa (Au (A0 (AD (AD (Af (Af (Bg ?_))))))))));have gQ:=BG gt hq hr;refine AD (Af (WK.freeze (i:=2) Aa (WK.upBlk (i:=2) (cs':=[rS hi,rS hh,As hf,AU 4 (Ax Ab hd),AU 4 (Ax Ai hg),As he]) Aa ⟨Up.refl _,Up.refl _,Up.refl _,Up.refl _,Up.fact (i:=0) Aa,Up.refl _,trivial⟩ ?_)));obtain rfl:=A1 gQ;exact Az (Dq S5 (Hm (i:=2) E5 Dl Aa Aa Aa) (AI Aa)) (sS (sS (sS sN))) ⟨Aa,Aa⟩
   ·rintro⟨⟨h6,h7,h8,h9,hA,hB⟩,hC⟩ h2;refine Cf (l':=[(2,rP b1 0),(4,rP b2 0),(14,AU 1 (Ax Bs l)),(15,As (l.length:Int)),(16,As ha)]) (H':=[.blk b2 [rS h6,rS h7,As h8,AU 4 (Ax Ab h9),rv hC,As hB] 34,.blk b1 [rS ([]:An),rS ([]:An),As 0,rv (.slice none 0 0),rv (.slice none 0 0),As 0] 34,.row hC 65 4 (Ax Ai hA)]) Aa Aa ?_;replace h2:E9 ha h6 h7 h8 h9 hA hB=some h5:=h2;unfold E9 at h2;refine At (ck h2 λgR gS=>wv (BJ Aa Aa gR) (wm Aa (Av ?_)));have gT:=B8 gS hq;exact A5 (AK (hK,(ha+1,h6,h7,h8,h9,hA,hB),hC) ⟨gT,Z3 _⟩ (AL.c5 Aa Aa Aa Aa Aa AL.nil) (sC (sC (sC sN))))
  ·refine BB (A9 ?_);have gU:=Cv hO hq hr;exact A9 (Bh (AK ((hi,hh,hf,hd,hg,he),hb) gU (AL.c Aa (AL.c Aa AL.nil)) (sC (sC (sC sN)))))
 ·rintro⟨⟨hu,hw,hx,hy,h3,hz⟩,h0⟩ h4;refine CJ (l':=[(2,rP b1 0),(4,rP b2 0)]) (H':=[.blk b2 [rS hu,rS hw,As hx,AU 4 (Ax Ab hy),rv h0,As hz] 34,.blk b1 [rS ([]:An),rS ([]:An),As 0,rv (.slice none 0 0),rv (.slice none 0 0),As 0] 34,.row h0 65 4 (Ax Ai h3)]) Aa Aa ?_;replace h4:HJ hu hw hx hy h3 hz=some r:=h4;unfold HJ at h4;refine Bf (AT (Al (wv (AZ (i:=0) E5 Dl Aa Aa Aa Aa) (Bj (i:=1) Dl Aa Aa Aa ⟨(Bw Aa),(Bw Aa),(Bw Aa),(Bw Aa),(Cl (i:=2) Aa),(Bw Aa),trivial⟩ Aa Aa (cs':=[rS hu,rS hw,As hx,AU 4 (Ax Ab hy),rv h0,As hz]) Aa (H':=[.blk b2 [rS hu,rS hw,As hx,AU 4 (Ax Ab hy),rv h0,As hz] 34,.blk b1 [rS hu,rS hw,As hx,AU 4 (Ax Ab hy),rv h0,As hz] 34,.row h0 65 4 (Ax Ai h3)]) Aa (wa Aa (Au (A0 (WK.freeze (i:=2) Aa (WK.upBlk (i:=2) (cs':=[rS hu,rS hw,As hx,AU 4 (Ax Ab hy),AU 4 (Ax Ai h3),As hz]) Aa ⟨Up.refl _,Up.refl _,Up.refl _,Up.refl _,Up.fact (i:=0) Aa,Up.refl _,trivial⟩ ?_)))))))));obtain rfl:=A1 h4;exact Az (Dq S5 (Hm (i:=2) E5 Dl Aa Aa Aa) (AI Aa)) (sS (sS (sS sN))) ⟨Aa,Aa⟩
end Go.Proofs.YtfobhhegpkinaaaGreatDoor.Q
namespace Go.Proofs.YtfobhhegpkinaaaGreatDoor
open Go
set_option linter.unusedVariables false
structure Bn where
 fKey:An
 fValue:(List Ac)
 fVersion:Int
 deriving DecidableEq,Inhabited
structure LQ where
 fTenant:An
 fItem:Bn
 deriving DecidableEq,Inhabited
structure No where
 fEvent:An
 fResult:(List Ac)
 deriving DecidableEq,Inhabited
structure T5 where
 fMade:Bool
 fEvents:(List No)
 fItems:(List LQ)
 fPending:(List Ar)
 deriving DecidableEq,Inhabited
end Go.Proofs.YtfobhhegpkinaaaGreatDoor
namespace Go.Proofs.YtfobhhegpkinaaaGreatDoor.Q
open Go Go.RowKit
set_option linter.unusedVariables false
section
variable {P : Program} {n : Nat} {c : Cx} {x : Code} {Q : Exit → Act → World → Prop} {l : Fr} {H : List Ent}
end
section
variable {P : Program} {n : Nat} {c : Cx} {opsA : Array Oper} {Q : Exit → Act → World → Prop} {l : Fr} {H : List Ent} {d : Nat} {ty : TypeId} {pos : String} {af : Array Edge}
end
section
variable {P : Program} {n : Nat} {c : Cx} {l : Fr} {H : List Ent} {d : Option Nat} {ty rty t e e' : TypeId} {pos : String} {af : Array Edge} {g : Option (Nat × Bool)} {x : Operand} {sz : Nat} {xs : List (List Rp)} {v : Value}
theorem NQ (i:Nat)(ht:P.underlying t=some (.slice e))(h:ev l x=some (rv v))(hi:H[i]? =some (.row v e' sz xs)):Be P n c l H { dst:=d,op:=.binOp .eql t x (.const (.slice none 0 0)) rty,type:=ty,pos:=pos,after:=af,guard:=g } (Yd (λb=>b=true→xs=[])):=λa w Z ha hw=>by
 obtain⟨_,_,_,A,cap,e0,h1,h2,h3,h4⟩:=hw.freeze hi;have e1:a.eval x = .slice A xs.length cap:=(ha.ev h:a.eval x=v).trans e0;refine⟨.bool A.isNone,⟨_,rfl,λhb=>?_⟩,?_⟩
 ·cases A with
  | some a=>cases hb
  | none=>
   have:=h3 rfl;exact List.length_eq_zero_iff.1 (by omega)
 ·have:=run_equal_slice_nil (P:=P) w t e A xs.length cap ht;have e2:a.eval (.const (.slice none 0 0)) = .slice none 0 0:=rfl;simp[execOp,e1,e2,binOp,this,eqGuard]
end
set_option linter.unusedSimpArgs false
set_option maxRecDepth 100000
set_option maxHeartbeats 4000000
@[reducible] def BE (x:Bn):List Rp:=[rS x.fKey,AU 4 (Ax Ab x.fValue),As x.fVersion]
theorem JB (x:Bn):(BE x).length=3:=rfl
theorem NA (x:Bn):(BE x).all (·.one)=true:=rfl
theorem XB:∃inf,Tryz.prog.info? 75=some inf∧inf.zero=some (.agg #[(.string ⟨#[]⟩),(.slice none 0 0),(.int .i64 0)])∧inf.size=3∧inf.bytes=48:=by
  have key:(Tryz.prog.info? 75).map (λi=>(i.zero,i.size,i.bytes))=some (some (.agg #[(.string ⟨#[]⟩),(.slice none 0 0),(.int .i64 0)]),3,48):=by kernel_rfl
  obtain⟨inf,h1,h2⟩:=Option.map_eq_some_iff.1 key;simp only[Prod.mk.injEq] at h2;exact⟨inf,h1,h2.1,h2.2.1,h2.2.2⟩
theorem WU (parts:List (Nat×Value)):Tryz.prog.built 34 parts=Instr.fill (λi=>(#[(0,1),(1,1),(2,1),(3,1),(4,1),(5,1)]:Array (Nat×Nat))[i]?) #[(.string ⟨#[]⟩),(.string ⟨#[]⟩),(.int .i64 0),((.slice none 0 0)),((.slice none 0 0)),(.int .i64 0)] parts:=by kernel_rfl
theorem WT (parts:List (Nat×Value)):Tryz.prog.built 67 parts=Instr.fill (λi=>(#[(0,1),(1,1),(2,1),(3,1),(4,4)]:Array (Nat×Nat))[i]?) #[(.string ⟨#[]⟩),(.string ⟨#[]⟩),(.string ⟨#[]⟩),(.int .i64 0),(.int .i64 0),(.string ⟨#[]⟩),((.slice none 0 0)),(.int .i64 0)] parts:=by kernel_rfl
theorem ET {n:Nat}{c:Cx}{l:Fr}{H:List Ent}{d:Option Nat}{ty:TypeId}{pos:String}{af:Array Edge}{g:Option (Nat×Bool)}{x0:Operand}{r0:Rp}(h0:ev l x0=some r0)(u0:r0.one=true){x1:Operand}{r1:Rp}(h1:ev l x1=some r1)(u1:r1.one=true){x2:Operand}{r2:Rp}(h2:ev l x2=some r2)(u2:r2.one=true){x3:Operand}{r3:Rp}(h3:ev l x3=some r3)(u3:r3.one=true){x4:Operand}{r4_0 r4_1 r4_2 r4_3:Rp}(h4:ev l x4=some (B9 [r4_0,r4_1,r4_2,r4_3])):Be Tryz.prog n c l H { dst:=d,op:=.build 67 #[(0,x0),(1,x1),(2,x2),(3,x3),(4,x4)],type:=ty,pos:=pos,after:=af,guard:=g } (B9 [r0,r1,r2,r3,r4_0,r4_1,r4_2,r4_3]):=λa w Z ha _=>by
  have p0:=ha.ev h0;have c0:=Bl (r0.hone u0 Z _ p0);have p1:=ha.ev h1;have c1:=Bl (r1.hone u1 Z _ p1);have p2:=ha.ev h2;have c2:=Bl (r2.hone u2 Z _ p2);have p3:=ha.ev h3;have c3:=Bl (r3.hone u3 Z _ p3);obtain⟨us4,e4,q4⟩:=ha.ev h4;obtain⟨y4_0,y4_1,y4_2,y4_3,rfl,q4⟩:=Bd.d4 q4;have cg:∀cs:Array Value,(Value.agg cs).cells=cs:=λ_=>rfl;have hb:Tryz.prog.built 67 [(0,a.eval x0),(1,a.eval x1),(2,a.eval x2),(3,a.eval x3),(4,a.eval x4)]=some #[a.eval x0,a.eval x1,a.eval x2,a.eval x3,y4_0,y4_1,y4_2,y4_3]:=by
    rw[WT];generalize a.eval x0=v0 at *;generalize a.eval x1=v1 at *;generalize a.eval x2=v2 at *;generalize a.eval x3=v3 at *;simp[Instr.fill,c0,c1,c2,c3,e4,cg]
  refine⟨.agg #[a.eval x0,a.eval x1,a.eval x2,a.eval x3,y4_0,y4_1,y4_2,y4_3],⟨[a.eval x0,a.eval x1,a.eval x2,a.eval x3,y4_0,y4_1,y4_2,y4_3],rfl,p0,p1,p2,p3,q4.1,q4.2.1,q4.2.2.1,q4.2.2.2.1,trivial⟩,?_⟩;have:=run_build w 67 #[(0,a.eval x0),(1,a.eval x1),(2,a.eval x2),(3,a.eval x3),(4,a.eval x4)] _ (by simpa using hb);simp[execOp,this]
theorem WS (parts:List (Nat×Value)):Tryz.prog.built 75 parts=Instr.fill (λi=>(#[(0,1),(1,1),(2,1)]:Array (Nat×Nat))[i]?) #[(.string ⟨#[]⟩),((.slice none 0 0)),(.int .i64 0)] parts:=by kernel_rfl
theorem LH {n:Nat}{c:Cx}{l:Fr}{H:List Ent}{d:Option Nat}{ty:TypeId}{pos:String}{af:Array Edge}{g:Option (Nat×Bool)}{x0:Operand}{r0:Rp}(h0:ev l x0=some r0)(u0:r0.one=true){x1:Operand}{r1:Rp}(h1:ev l x1=some r1)(u1:r1.one=true){x2:Operand}{r2:Rp}(h2:ev l x2=some r2)(u2:r2.one=true):Be Tryz.prog n c l H { dst:=d,op:=.build 75 #[(0,x0),(1,x1),(2,x2)],type:=ty,pos:=pos,after:=af,guard:=g } (B9 [r0,r1,r2]):=λa w Z ha _=>by
  have p0:=ha.ev h0;have c0:=Bl (r0.hone u0 Z _ p0);have p1:=ha.ev h1;have c1:=Bl (r1.hone u1 Z _ p1);have p2:=ha.ev h2;have c2:=Bl (r2.hone u2 Z _ p2);have hb:Tryz.prog.built 75 [(0,a.eval x0),(1,a.eval x1),(2,a.eval x2)]=some #[a.eval x0,a.eval x1,a.eval x2]:=by
    rw[WS];generalize a.eval x0=v0 at *;generalize a.eval x1=v1 at *;generalize a.eval x2=v2 at *;simp[Instr.fill,c0,c1,c2]
  refine⟨.agg #[a.eval x0,a.eval x1,a.eval x2],⟨[a.eval x0,a.eval x1,a.eval x2],rfl,p0,p1,p2,trivial⟩,?_⟩;have:=run_build w 75 #[(0,a.eval x0),(1,a.eval x1),(2,a.eval x2)] _ (by simpa using hb);simp[execOp,this]
end Go.Proofs.YtfobhhegpkinaaaGreatDoor.Q
namespace Go.Proofs.YtfobhhegpkinaaaGreatDoor
open Go
set_option linter.unusedVariables false
def Gl (n:Int):Option ((List Ac)):=
 some ([(Ac.mk 3 n ([]:An) 0)]:List Ac)
def Lc (l:(List Ar))(n:Int):Option (An):=
 B0 (((decide (n<0))||(decide ((l.length:Int)≤n)))) (some ([]:An)) (Bc (CR n (l.length:Int))<|some ((Ap l n).fID))
def Jp (a:(List An))(b:(List An))(ha:Int):Option (Stp (Int) (Out (Bool) (Unit))):=
 B0 (decide (ha<(a.length:Int))) (Bc (CR ha (a.length:Int))<|Bc (CR ha (b.length:Int))<|B0 (!decide ((Ap a ha)=(Ap b ha))) (some (.out (.ret false))) (Bc (BS .i64 (ha+1))<|some (.next (ha+1)))) (some (.out (.go ())))
def Jo :Option (Bool):=
 some true
def Rk (F:Nat)(a:(List An))(b:(List An)):Option (Bool):=
 B0 (!decide ((a.length:Int)=(b.length:Int))) (some false) (Bq (Cz (λσ=>Jp a b σ) F 0) (Ch λν=>Jo ))
end Go.Proofs.YtfobhhegpkinaaaGreatDoor
namespace Go.Proofs.YtfobhhegpkinaaaGreatDoor.Q
open Go Go.RowKit
set_option linter.unusedVariables false
set_option linter.unusedSimpArgs false
set_option maxRecDepth 100000
set_option maxHeartbeats 4000000
theorem GM (n:Int)(r:(List Ac))(h:Gl n=some r):Fn Tryz.prog GE 34 [As n] [] (λR H=>R=AU 4 (Ax Ab r)∧H=[]):=by
 refine enter (n:=6) Tryz.func34 Aa Tryz.ntmps34 Aa (λw Z=>?_);unfold Gl at h;refine Al (wa Aa (Bk (wm Aa (wv (r:=B9 [As 3,As n,rS ([]:An),As 0]) (GV Aa Aa Aa Aa) (Ba (ys:=([(Ac.mk 3 n ([]:An) 0)]:List Ac)) (enc:=Ab) (css:=[[As 3,As n,rS ([]:An),As 0]]) (xs:=[.tmp 4]) CX DL LA Aa Aa Aa ⟨DH.agg ⟨Up.refl _,Up.refl _,Up.refl _,Up.refl _,trivial⟩,trivial⟩ Aa By Aa Aa Aa (λb1=>?_))))));refine wa Aa (Au (A0 (WK.freeze (i:=0) Aa (WK.up (d:=2) (r:=AU 4 (Ax Ab ([(Ac.mk 3 n ([]:An) 0)]:List Ac))) Aa (Up.fact (i:=0) Aa) ?_))));obtain rfl:=A1 h;exact Az (BW Tryz.results34 (AI Aa)) (sS sN) ⟨Aa,Aa⟩
theorem Qc (l:(List Ar))(n:Int)(r:An)(h:Lc l n=some r):Fn Tryz.prog GE 32 [AU 8 (Ax Ae l),As n] [] (λR H=>R=rS r∧H=[]):=by
 refine enter (n:=18) Tryz.func32 Aa Tryz.ntmps32 Aa (λw Z=>?_);unfold Lc at h;refine Al (wv (r:=rS ([]:An)) (A7 Aa) (Au (Aq (AR [(0,AU 8 (Ax Ae l)),(1,As n),(12,rB ((decide (n<0))||(decide ((l.length:Int)≤n))))] [] ?_ ?_))))
 ·refine At (wm Aa (wv (CZ Aa Aa) (wm Aa (AX (decide (n<0)) (λc1=>?_) (λc1=>?_)))))
  ·refine wf c1 (wf c1 (wf c1 (wf c1 (wv (r:=rB true) (AA Aa c1 Aa) (Av ?_)))));exact CF c1
  ·refine wo c1 (wm Aa (wo c1 (wm Aa (wo c1 (wv (Bt (ys:=l) (enc:=Ae) DK Aa) (wo c1 (wv (Iq Aa Aa) (Hc Aa c1 Aa (Av ?_)))))))));exact CF c1
 refine cz h Aa (λc2 h3=>?_) (λc2 h4=>?_)
 ·refine Al (wv (r:=rS ([]:An)) (A7 Aa) (Au (A0 (Af ?_))));obtain rfl:=A1 h3;exact Az (BW Tryz.results32 (AI Aa)) sN ⟨Aa,Aa⟩
 ·refine A3 (AT (Al (wm Aa (wm Aa (ck h4 λg5 h6=>wv (BT (enc:=Ae) (ys:=l) DK H4 Aa Aa g5) (wv (BY Pv Aa Cs Aa Aa) (wv (BD C7 Aa Aa) (wa Aa (Au (A0 ?_))))))))));obtain rfl:=A1 h6;exact Az (BW Tryz.results32 (AI Aa)) sN ⟨Aa,Aa⟩
theorem Vf (F:Nat)(a:(List An))(b:(List An))(r:Bool)(h:Rk F a b=some r):Fn Tryz.prog GE 16 [AU 1 (Ax eS a),AU 1 (Ax eS b)] [] (λR H=>R=rB r∧H=[]):=by
 refine enter (n:=26) Tryz.func16 Aa Tryz.ntmps16 Aa (λw Z=>?_);unfold Rk at h;refine Al (wa Aa (Au (Aq (Al (wm Aa (wv (Bt (ys:=a) (enc:=eS) Ct Aa) (wm Aa (wv (Bt (ys:=b) (enc:=eS) Ct Aa) (wv (Cr Aa Aa) (Au (cz h Aa (λc1 h2=>?_) (λc1 h3=>?_))))))))))))
 ·refine Al (wa Aa (Au (A0 (Af ?_))));obtain rfl:=A1 h2;exact Az (BW Tryz.results16 (AI Aa)) sN ⟨Aa,Aa⟩
 ·refine A3 (AT (Aq (Al (wa Aa (Au (AO (ob h3 λhg hh hf=>B4 (S:=Nat×(Int)×(Unit)) (V:=(Unit)×(Unit)) 0 (λσ=>Cz (λσ=>Jp a b σ) σ.1 σ.2.1=some hg) (λσ=>[(0,AU 1 (Ax eS a)),(1,AU 1 (Ax eS b)),(5,As σ.2.1)]) (λσ=>[]) (λσ=>σ.1) (F,0,()) hh (AL.c Aa (AL.c Aa (AL.c Aa AL.nil))) sN (λσ=>Jo =some r) (λσ=>[]) (λσ=>[]) ?_ ?_)))))))
  ·rintro⟨h1,ha,⟨⟩⟩ hi;refine Cf (l':=[(0,AU 1 (Ax eS a)),(1,AU 1 (Ax eS b)),(5,As ha)]) (H':=[]) Aa Aa ?_;obtain⟨hj,rfl,hk,hb,he⟩:=CO hi;replace hb:Jp a b ha=some hk:=hb;unfold Jp at hb;refine Aq (Al (wm Aa (wm Aa (wv (Bt (ys:=a) (enc:=eS) Ct Aa) (wv (CZ Aa Aa) (Au (cz hb Aa (λhl hm=>?_) (λhl hn=>?_))))))))
   ·refine A3 (AT (Aq (AO (Aq (ck hm λho hp=>ck hp λhq hr=>Dm [0,1,5] [⟨[],AU 1 (Ax eS a),0⟩,⟨[],As ha,0⟩,⟨[0,1],TC [rS (Ap a ha)],0⟩,⟨[2],rS (Ap a ha),0⟩,⟨[],AU 1 (Ax eS b),0⟩,⟨[],As ha,0⟩,⟨[4,5],TC [rS (Ap b ha)],0⟩,⟨[6],rS (Ap b ha),0⟩,⟨[3,7],rB (!decide ((Ap a ha)=(Ap b ha))),0⟩] [25,0,1,5] ?_ ?_)))))
    ·refine oq (Aw Aa) (oq (Aw Aa) (oq (BT (enc:=eS) (ys:=a) Ct Cs Aa Aa ho) (oq (BD C7 Aa Aa) (oq (Aw Aa) (oq (Aw Aa) (oq (BT (enc:=eS) (ys:=b) Ct Cs Aa Aa hq) (oq (BD C7 Aa Aa) (oq (I7 Aa Aa) ?_))))))));exact C9
    refine AT (cz hr Aa (λhs ht=>?_) (λhs hu=>?_))
    ·refine Al (wa Aa (Au (A0 (AD (Af (Af (Bg ?_)))))));have hw:=BG ht he hf;refine AD (Af ?_);obtain rfl:=A1 hw;exact Az (BW Tryz.results16 (AI Aa)) sN ⟨Aa,Aa⟩
    ·refine A3 (AH (AT (At (wm Aa (ck hu λhx hy=>wv (BJ Aa Aa hx) (wa Aa (Av ?_)))))));have hz:=B8 hy he;exact A5 (AK (hj,ha+1,()) ⟨hz,Z3 _⟩ (AL.c Aa (AL.c Aa (AL.c Aa AL.nil))) sN)
   ·refine BB (A9 ?_);have h0:=Cv hn he hf;exact A9 (Bh (AK ((),()) h0 AL.nil sN))
  ·rintro⟨⟨⟩,⟨⟩⟩ hd;refine CJ (l':=[]) (H':=[]) Aa Aa ?_;replace hd:Jo =some r:=hd;unfold Jo at hd;refine Bf (AT (Al (wa Aa (Au (A0 ?_)))));obtain rfl:=A1 hd;exact Az (BW Tryz.results16 (AI Aa)) sN ⟨Aa,Aa⟩
end Go.Proofs.YtfobhhegpkinaaaGreatDoor.Q
namespace Go.Proofs
open Go.Shelf
def Tryz.lays190_ren:Go.Shelf.Ren:=⟨fun | 190=>77 | 125=>108 | 258=>107 | 128=>139 | 129=>140 | 302=>130 | 303=>131 | 304=>132 | 305=>133 | 306=>134 | 307=>135 | 308=>136 | 309=>137 | 310=>138 | 333=>164 | 329=>165 | 330=>166 | 334=>167 | 335=>168 | 336=>169 | 344=>192 | n=>n,fun | 31=>42 | 9=>9 | 3=>3 | 46=>134 | 0=>0 | 51=>158 | 53=>179 | 4=>4 | 183=>170 | 182=>169 | 131=>175 | 5=>5 | 218=>198 | 222=>202 | 228=>220 | 229=>221 | n=>n,fun | n=>n⟩
theorem Tryz.lays190:Go.Proofs.Lays.n190 Tryz.prog Tryz.lays190_ren:={
 mixed:=by kernel_rfl
 f125:=Tryz.func108.trans (congrArg some (by kernel_rfl))
 f128:=Tryz.func139.trans (congrArg some (by kernel_rfl))
 f129:=Tryz.func140.trans (congrArg some (by kernel_rfl))
 f190:=Tryz.func77.trans (congrArg some (by kernel_rfl))
 f258:=Tryz.func107.trans (congrArg some (by kernel_rfl))
 f302:=Tryz.func130.trans (congrArg some (by kernel_rfl))
 f303:=Tryz.func131.trans (congrArg some (by kernel_rfl))
 f304:=Tryz.func132.trans (congrArg some (by kernel_rfl))
 f305:=Tryz.func133.trans (congrArg some (by kernel_rfl))
 f306:=Tryz.func134.trans (congrArg some (by kernel_rfl))
 f307:=Tryz.func135.trans (congrArg some (by kernel_rfl))
 f308:=Tryz.func136.trans (congrArg some (by kernel_rfl))
 f309:=Tryz.func137.trans (congrArg some (by kernel_rfl))
 f310:=Tryz.func138.trans (congrArg some (by kernel_rfl))
 f329:=Tryz.func165.trans (congrArg some (by kernel_rfl))
 f330:=Tryz.func166.trans (congrArg some (by kernel_rfl))
 f333:=Tryz.func164.trans (congrArg some (by kernel_rfl))
 f334:=Tryz.func167.trans (congrArg some (by kernel_rfl))
 f335:=Tryz.func168.trans (congrArg some (by kernel_rfl))
 f336:=Tryz.func169.trans (congrArg some (by kernel_rfl))
 f344:=Tryz.func192.trans (congrArg some (by kernel_rfl))
 t0:=Tryz.underlying0
 a0:=Tryz.isAgg0
 z0:=Tryz.sizeOf0
 v0:=Tryz.zeroValue0
 t3:=Tryz.underlying3
 a3:=Tryz.isAgg3
 z3:=Tryz.sizeOf3
 v3:=Tryz.zeroValue3
 t4:=Tryz.underlying4
 a4:=Tryz.isAgg4
 z4:=Tryz.sizeOf4
 v4:=Tryz.zeroValue4
 t5:=Tryz.underlying5
 a5:=Tryz.isAgg5
 z5:=Tryz.sizeOf5
 v5:=Tryz.zeroValue5
 t9:=Tryz.underlying9
 a9:=Tryz.isAgg9
 z9:=Tryz.sizeOf9
 v9:=Tryz.zeroValue9
 t31:=Tryz.underlying42
 a31:=Tryz.isAgg42
 z31:=Tryz.sizeOf42
 v31:=Tryz.zeroValue42
 t46:=Tryz.underlying134
 a46:=Tryz.isAgg134
 z46:=Tryz.sizeOf134
 v46:=Tryz.zeroValue134
 t51:=Tryz.underlying158
 a51:=Tryz.isAgg158
 z51:=Tryz.sizeOf158
 v51:=Tryz.zeroValue158
 t53:=Tryz.underlying179
 a53:=Tryz.isAgg179
 z53:=Tryz.sizeOf179
 v53:=Tryz.zeroValue179
 t131:=Tryz.underlying175
 a131:=Tryz.isAgg175
 z131:=Tryz.sizeOf175
 v131:=Tryz.zeroValue175
 t182:=Tryz.underlying169
 a182:=Tryz.isAgg169
 z182:=Tryz.sizeOf169
 v182:=Tryz.zeroValue169
 t183:=Tryz.underlying170
 a183:=Tryz.isAgg170
 z183:=Tryz.sizeOf170
 v183:=Tryz.zeroValue170
 t218:=Tryz.underlying198
 a218:=Tryz.isAgg198
 z218:=Tryz.sizeOf198
 v218:=Tryz.zeroValue198
 t222:=Tryz.underlying202
 a222:=Tryz.isAgg202
 z222:=Tryz.sizeOf202
 v222:=Tryz.zeroValue202
 t228:=Tryz.underlying220
 a228:=Tryz.isAgg220
 z228:=Tryz.sizeOf220
 v228:=Tryz.zeroValue220
 t229:=Tryz.underlying221
 a229:=Tryz.isAgg221
 z229:=Tryz.sizeOf221
 v229:=Tryz.zeroValue221 }
open Go.Sort Go.RowKit in
theorem Tryz.slices_Sort_string (blk off cap:Nat)(ss:List (List UInt8))(w:World)(hH:Holds encStr w blk off ss.toArray)(hblk:blk<w.heap.size)(hsz:ss.length<4611686018427387904) :
  Calls Tryz.prog 77 #[.slice (some ⟨blk,off,none⟩) ss.length cap] w λe w'=>
   e = .returned (.tuple #[])∧∃n os,w'=grow (putRow encStr (Sort.ahead w n) blk off (ss.mergeSort λx y=>decide (x≤y)).toArray) os:=Any.slices_Sort_string Tryz.lays190 blk off cap ss w hH hblk hsz
def Tryz.laysNm216_ren:Go.Shelf.Ren:=⟨fun | 16=>43 | n=>n,fun | 24=>42 | 9=>9 | 4=>4 | n=>n,fun | n=>n⟩
theorem Tryz.laysNm216:Go.Proofs.Lays2.n16 Tryz.prog Tryz.laysNm216_ren:={
 mixed:=by kernel_rfl
 f16:=Tryz.func43.trans (congrArg some (by kernel_rfl))
 t4:=Tryz.underlying4
 a4:=Tryz.isAgg4
 z4:=Tryz.sizeOf4
 v4:=Tryz.zeroValue4
 t9:=Tryz.underlying9
 a9:=Tryz.isAgg9
 z9:=Tryz.sizeOf9
 v9:=Tryz.zeroValue9
 t24:=Tryz.underlying42
 a24:=Tryz.isAgg42
 z24:=Tryz.sizeOf42
 v24:=Tryz.zeroValue42
 i9:=by kernel_rfl }
open Go.RowKit Go.Lib in
theorem Tryz.slices_Clone_string (b off n c:Nat)(zs:List ByteArray)(w:World)(hz:n≤zs.length)(hbig:n*16≤140737488355328)(hc:∀j,j<zs.length→w.cell? ⟨b,off+j,none⟩=some (.string (zs.getD j ByteArray.empty))) :
  Calls Tryz.prog 43 #[.slice (some ⟨b,off,none⟩) n c] w λe w'=>∃v',e = .returned v'∧w'.ownsRow w.heap.size 9 1 v' n ((zs.take n).map (Value.string))∧v'≠.slice none 0 0∧Below w.heap.size w w':=Any.slices_Clone_string Tryz.laysNm216 b off n c zs w hz hbig hc
open Go.RowKit Go.Lib in
theorem Tryz.slices_Clone_string_nil (n c:Nat)(w:World) :
  Calls Tryz.prog 43 #[.slice none n c] w λe w'=>e = .returned (.slice none 0 0)∧w'=w:=Any.slices_Clone_string_nil Tryz.laysNm216 n c w
open Go.RowKit Go.Lib in
theorem Tryz.slices_Clone_string_zero (a:Addr)(c:Nat)(w:World) :
  Calls Tryz.prog 43 #[.slice (some a) 0 c] w λe w'=>∃v',e = .returned v'∧w'.ownsRow w.heap.size 9 1 v' 0 []∧v'≠.slice none 0 0∧Below w.heap.size w w':=Any.slices_Clone_string_zero Tryz.laysNm216 a c w
def Tryz.lays194_ren:Go.Shelf.Ren:=⟨fun | 194=>78 | n=>n,fun | 31=>42 | 9=>9 | 3=>3 | 4=>4 | 0=>0 | n=>n,fun | n=>n⟩
theorem Tryz.lays194:Go.Proofs.Lays.n194 Tryz.prog Tryz.lays194_ren:={
 mixed:=by kernel_rfl
 f194:=Tryz.func78.trans (congrArg some (by kernel_rfl))
 t0:=Tryz.underlying0
 a0:=Tryz.isAgg0
 z0:=Tryz.sizeOf0
 v0:=Tryz.zeroValue0
 t3:=Tryz.underlying3
 a3:=Tryz.isAgg3
 z3:=Tryz.sizeOf3
 v3:=Tryz.zeroValue3
 t4:=Tryz.underlying4
 a4:=Tryz.isAgg4
 z4:=Tryz.sizeOf4
 v4:=Tryz.zeroValue4
 t9:=Tryz.underlying9
 a9:=Tryz.isAgg9
 z9:=Tryz.sizeOf9
 v9:=Tryz.zeroValue9
 t31:=Tryz.underlying42
 a31:=Tryz.isAgg42
 z31:=Tryz.sizeOf42
 v31:=Tryz.zeroValue42 }
open Go.RowKit Go.Lib Go.Sort in
theorem Tryz.slices_Compact_string (blk off cap:Nat)(zs:List (List UInt8))(w:World)(hH:Holds encStr w blk off zs.toArray)(hsz:zs.length≤9223372036854775807)(hcap:zs.length≤cap) :
  Calls Tryz.prog 78 #[.slice (some ⟨blk,off,none⟩) zs.length cap] w λe w'=>e = .returned (.slice (some ⟨blk,off,none⟩) (Lib.compact zs).length cap)∧∃q,w'=putRow encStr (Sort.ahead w q) blk off (Lib.compact zs++List.replicate (zs.length-(Lib.compact zs).length) []).toArray:=Any.slices_Compact_string Tryz.lays194 blk off cap zs w hH hsz hcap
open Go.RowKit Go.Lib Go.Sort in
theorem Tryz.slices_Compact_string_empty (a:Option Addr)(cap:Nat)(w:World) :
  Calls Tryz.prog 78 #[.slice a 0 cap] w λe w'=>e = .returned (.slice a 0 cap)∧w'=w:=Any.slices_Compact_string_empty Tryz.lays194 a cap w
open Go.RowKit Go.Sort in
theorem Tryz.slices_Sort_string_none (p:Option Addr)(cap:Nat)(w:World) :
  Calls Tryz.prog 77 #[.slice p 0 cap] w λe w'=>e = .returned (.tuple #[])∧w'=w:=Any.slices_Sort_string_none Tryz.lays190 p cap w
end Go.Proofs
namespace Go.Proofs.YtfobhhegpkinaaaGreatDoor
open Go Go.RowKit Go.Sort
set_option linter.unusedVariables false
set_option linter.unusedSimpArgs false
theorem Tr (ss:List (List UInt8)):flat (ss.map PC)=ss.map encStr:=by
 induction ss with
 | nil=>rfl
 | cons s r ih=>simp[flat,PC,B,encStr] at ih ⊢;exact ih
theorem Ue (ss:List (List UInt8)):∀c∈ss.map PC,c.length=1:=by
 intro c hc;obtain⟨s,_,rfl⟩:=List.mem_map.1 hc;rfl
theorem St.of_row {w w':World}{e:TypeId}{sz n:Nat}{v:Value}{xs:List Value}(hb:Below w.heap.size w w')(h:w'.ownsRow w.heap.size e sz v n xs):St w [] [.row v e sz n xs] w':=by
 have h0:=St.of_below hb;refine⟨h0.os,h0.tape,h0.output,h0.size,h0.old,?_,?_,by simp⟩
 ·intro en he;simp only[ZE] at he;subst he;refine⟨h.1,?_⟩;rcases h.2 with hn | ⟨g,cap,cur,rfl,hb,rest⟩
  ·exact .inl hn
  ·exact .inr ⟨g,cap,cur,rfl,ZV _,rest⟩
 ·intro en he k hk;simp only[ZE] at he;subst he;simp[Ent.foot,Option.mem_toList] at hk;exact .inl (h.lt k hk).1
theorem Np.of_row {w:World}{v:Value}{ss:List (List UInt8)}(h:(Ent.row v 9 1 ss.length (ss.map encStr)).holds w):Np w v ss:=by
 have h2:=T7.of_row (sz:=1) (e:=9) (vs:=ss.map PC) (w:=w) (v:=v) (by rw[Tr];simpa using h) (Ue ss);exact h2
theorem Np.cells {w:World}{v:Value}{ss:List (List UInt8)}(h:Np w v ss):(∃cap,v = .slice none 0 cap∧ss=[])∨(∃a cap,v = .slice (some a) ss.length cap∧ss=[])∨
  (∃b off cap,v = .slice (some ⟨b,off,none⟩) ss.length cap∧∀j,j<ss.length→w.cell? ⟨b,off+j,none⟩=some (.string ((ss.map B).getD j ByteArray.empty))):=by
 obtain⟨A,cap,rfl,hc,hm,hi⟩:=h
 cases A with
 | none=>
  have:ss=[]:=by
   cases ss with
   | nil=>rfl
   | cons s r=>obtain⟨_,a,h,_⟩:=hi 0 (PC s) (by simp);cases h
  subst this;exact .inl ⟨cap,rfl,rfl⟩
 | some a=>
  cases hs:ss with
  | nil=>subst hs;exact .inr (.inl ⟨a,cap,rfl,rfl⟩)
  | cons s r=>
   obtain⟨_,a',h,hsp,_,_⟩:=hi 0 (PC s) (by simp[hs]);simp at h;subst h;obtain⟨b,off,spot⟩:=a;simp only at hsp;subst hsp;refine .inr (.inr ⟨b,off,cap,by simp[hs],λj hj=>?_⟩);rw[← hs] at hj ⊢;obtain⟨_,a',h,_,_,hcell⟩:=hi j (PC ss[j]) (by simp[hj]);simp at h;subst h;have:=hcell 0 _ rfl;simpa[hj] using this
theorem WO (v:Value)(ss:List (List UInt8))(hl:ss.length≤8796093022208)(w:World)(h:Np w v ss) :
  Calls Tryz.prog 43 [v].toArray w (TE w [] (λu H=>H=[.row u 9 1 ss.length (ss.map encStr)])):=by
 rcases h.cells with⟨cap,rfl,rfl⟩ | ⟨a,cap,rfl,rfl⟩ | ⟨b,off,cap,rfl,hc⟩
 ·refine(Tryz.slices_Clone_string_nil 0 cap w).mono λe w' ⟨he,hw⟩=>?_;subst hw;exact⟨_,_,he,St.of_row (Below.refl _ _) ⟨rfl,.inl ⟨rfl,rfl⟩⟩,rfl⟩
 ·refine(Tryz.slices_Clone_string_zero a cap w).mono λe w' ⟨v',he,ho,_,hb⟩=>?_;exact⟨_,_,he,St.of_row hb ho,rfl⟩
 ·refine(Tryz.slices_Clone_string b off ss.length cap (ss.map B) w (by simp) (by omega) (λj hj=>hc j (by simpa using hj))).mono λe w' ⟨v',he,ho,_,hb⟩=>?_;refine⟨_,_,he,St.of_row hb ho,?_⟩;simp[List.take_of_length_le,B]
theorem Xo (v:Value)(ss:List (List UInt8))(hl:ss.length≤8796093022208)(w:World)(h:(Ent.row v 9 1 ss.length (ss.map encStr)).holds w) :
  Calls Tryz.prog 77 [v].toArray w (TE w (Ent.row v 9 1 ss.length (ss.map encStr)).foot (λu H=>u = .tuple #[]∧H=[.row v 9 1 (ss.mergeSort λx y=>decide (x≤y)).length ((ss.mergeSort λx y=>decide (x≤y)).map encStr)])):=by
 obtain⟨h1,h2⟩:=h;rcases h2 with⟨rfl,hn⟩ | ⟨g,cap,cur,rfl,_,hg,hc,hm,hsz,ht⟩
 ·have:ss=[]:=Z9 hn;subst this;refine(Tryz.slices_Sort_string_none none 0 w).mono λe w' ⟨he,hw⟩=>?_;subst hw;exact⟨_,_,he,St.of_row (e:=9) (sz:=1) (n:=0) (xs:=[]) (Below.refl _ _) ⟨rfl,.inl ⟨rfl,rfl⟩⟩,rfl,by simp⟩
 ·have hb:=(Array.getElem?_eq_some_iff.1 hg).1;refine(Tryz.slices_Sort_string g 0 cap ss w (holds_of_block hg (by simpa using ht)) hb (by omega)).mono λe w' ⟨he,n,os,hw⟩=>?_;subst hw;have hgb:=grownBy_sorted (w:=w) (g:=g) (n:=n) (os:=os) (ss.mergeSort λx y=>decide (x≤y)).toArray;have ho:=ownsRow_sorted (w:=w) (base:=0) (g:=g) (cap:=cap) (n:=n) (e:=9) (os:=os) (cur:=cur) (ss:=ss) (ts:=ss.mergeSort λx y=>decide (x≤y)) (by simp) (ZV _) hg hc hm hsz;refine⟨_,_,he,⟨hgb.os,hgb.tape,hgb.output,hgb.size,λk hk hne=>hgb.block k hk (λe=>hne ?_),?_,?_,by simp⟩,rfl,rfl⟩
  ·simp only[Option.some.injEq] at e;simp[Ent.foot,Value.ownBlock,e]
  ·intro en he;simp only[ZE] at he;subst he;rw[List.length_mergeSort];exact ho
  ·intro en he k hk;simp only[ZE] at he;subst he;exact .inr hk
theorem Tw (v:Value)(ss:List (List UInt8))(hl:ss.length≤8796093022208)(w:World)(h:(Ent.row v 9 1 ss.length (ss.map encStr)).holds w) :
  Calls Tryz.prog 78 [v].toArray w (TE w (Ent.row v 9 1 ss.length (ss.map encStr)).foot (λu H=>H=[.row u 9 1 (Lib.compact ss).length ((Lib.compact ss).map encStr)])):=by
 obtain⟨h1,h2⟩:=h;rcases h2 with⟨rfl,hn⟩ | ⟨g,cap,cur,rfl,_,hg,hc,hm,hsz,ht⟩
 ·have:ss=[]:=Z9 hn;subst this;refine(Tryz.slices_Compact_string_empty none 0 w).mono λe w' ⟨he,hw⟩=>?_;subst hw;exact⟨_,_,he,St.of_row (Below.refl _ _) ⟨rfl,.inl ⟨rfl,rfl⟩⟩,rfl⟩
 ·have hb:=(Array.getElem?_eq_some_iff.1 hg).1;have hcl:(Lib.compact ss).length≤ss.length:=Lib.compact_length_le ss;refine(Tryz.slices_Compact_string g 0 cap ss w (holds_of_block hg (by simpa using ht)) (by omega) hc).mono λe w' ⟨he,q,hw⟩=>?_;subst hw;have ho:=Lib.ownsRow_putRow (enc:=encStr) (w:=w) (base:=0) (e:=9) (g:=g) (n:=ss.length) (cap:=cap) (q:=q) (k:=(Lib.compact ss).length) (zs:=ss) (ys:=Lib.compact ss++List.replicate (ss.length-(Lib.compact ss).length) [])
   ⟨h1,.inr ⟨g,cap,cur,rfl,ZV _,hg,hc,hm,hsz,ht⟩⟩ (by simp;omega) hcl
  rw[List.take_left] at ho;refine⟨_,_,he,⟨rfl,rfl,rfl,by simp[Sort.ahead],λk hk hne=>?_,?_,?_,by simp⟩,rfl⟩
  ·have:g≠k:=λe=>hne (by simp[Ent.foot,Value.ownBlock,e]);simp[putRow,mapBlock,Sort.ahead,Array.getElem?_modify,this]
  ·intro en he;simp only[ZE] at he;subst he;exact ho
  ·intro en he k hk;simp only[ZE] at he;subst he;exact .inr (by simpa[Ent.foot,Value.ownBlock] using hk)
section
variable {P : Program} {n : Nat} {w0 : World} {M : List Nat} {l : Fr} {H : List Ent} {d : Option Nat} {x y : Operand} {ty t e : TypeId} {pos : String} {af : Array Edge} {g : Option (Nat × Bool)} {v : Value} {ss : List (List UInt8)} {i : Int}
end
def Bz (ss:List (List UInt8)):List (List UInt8):=Lib.compact (ss.mergeSort λx y=>decide (x≤y))
open Go
structure Ah where
 fValue:(List Ac)
 fVersion:Int
 deriving DecidableEq,Inhabited
structure AG where
 fMade:Bool
 fEvents:(List An)
 fResults:(List (An×(List Ac)))
 fKeys:(List (An×(List (An×Ah))))
 fPending:(List Ar)
 deriving DecidableEq,Inhabited
structure Cd where
 fKind:Int
 fC:AP
 fS:An
 fN:Int
 deriving DecidableEq,Inhabited
def Pf (ys:(List An)):Option ((List An)):=
 Bc (Dp 16 (([]:List An).length+ys.length))<|some (([]:List An)++ys)
def Pg (ys:(List Ar)):Option ((List Ar)):=
 Bc (Dp 112 (([]:List Ar).length+ys.length))<|some (([]:List Ar)++ys)
def Wy :Option (AG):=
 some (AG.mk true ([]:List An) ([]:List (An×(List Ac))) ([]:List (An×(List (An×Ah)))) ([]:List Ar))
def NT :Option (Bool):=
 some false
def ML :Option (Bool):=
 some false
def GW (o:AG):Option (Bool):=
 some o.fMade
def Gk (ha:Int)(hb:(List (An×Ah))):Option (Stp (Int×(List (An×Ah))) (Out (Int×(List (An×Ah))) ((List (An×Ah))))):=
 Bc (BS .i64 (ha+1))<|some (.next (ha+1,hb))
def Jg (l:(List Am))(ha:Int)(hb:(List (An×Ah))):Option (Stp (Int×(List (An×Ah))) (Out (Int×(List (An×Ah))) ((List (An×Ah))))):=
 B0 (decide (ha<(l.length:Int))) (Bc (CR ha (l.length:Int))<|B0 (decide (((Ap l ha).fKind)=1)) (Bq (HW ((Ap l ha).fValue)) λhd=>Bc (BS .i64 (((B3 hb ((Ap l ha).fKey) (Ah.mk ([]:(List Ac)) 0)).fVersion)+1))<|B0 (decide (256<((mset hb ((Ap l ha).fKey) (Ah.mk hd (((B3 hb ((Ap l ha).fKey) (Ah.mk ([]:(List Ac)) 0)).fVersion)+1))).length:Int))) (some (.out (.ret (3,mset hb ((Ap l ha).fKey) (Ah.mk hd (((B3 hb ((Ap l ha).fKey) (Ah.mk ([]:(List Ac)) 0)).fVersion)+1)))))) (Gk ha (mset hb ((Ap l ha).fKey) (Ah.mk hd (((B3 hb ((Ap l ha).fKey) (Ah.mk ([]:(List Ac)) 0)).fVersion)+1))))) (B0 (decide (((Ap l ha).fKind)=2)) (Gk ha (mdel hb ((Ap l ha).fKey))) (Gk ha hb))) (some (.out (.go hb)))
def Jf (ha:(List (An×Ah))):Option (Int×(List (An×Ah))):=
 some (0,ha)
def QX (F:Nat)(keys:(List (An×Ah)))(l:(List Am)):Option (Int×(List (An×Ah))):=
 Bq (Cz (λσ=>Jg l σ.1 σ.2) F (0,keys)) (Ch λν=>Jf ν)
def UJ (x:Ar)(id:An):Option (Bool):=
 some (decide (x.fID=id))
def Jm (ys:(List Ar))(id:An)(ha:Int):Option (Stp (Int) (Out (Int) (Unit))):=
 B0 (decide (ha<(ys.length:Int))) (Bc (CR ha (ys.length:Int))<|Bq (UJ (Ar.mk ((Ap ys ha).fID) ((Ap ys ha).fTenant) ((Ap ys ha).fCause) ((Ap ys ha).fAt) ((Ap ys ha).fEffect)) id) λhb=>B0 (hb) (some (.out (.ret ha))) (Bc (BS .i64 (ha+1))<|some (.next (ha+1)))) (some (.out (.go ())))
def Jl :Option (Int):=
 some (-1)
def Ri (F:Nat)(ys:(List Ar))(id:An):Option (Int):=
 Bq (Cz (λσ=>Jm ys id σ) F 0) (Ch λν=>Jl )
def Pd (ys:(List Ar))(i:Int)(j:Int):Option ((List Ar)):=
 Bc (Ep i j)<|Bc (Ep j (ys.length:Int))<|Bc (Ep (ys.length:Int) (ys.length:Int))<|B0 (decide (i=j)) (some ys) (Bc (Ep i (ys.length:Int))<|Bc (Ep ((Int.toNat i+(ys.length-Int.toNat j):Nat):Int) (ys.length:Int))<|some (List.take (Int.toNat i+(ys.length-Int.toNat j)) (List.take (Int.toNat ((Int.toNat i+(ys.length-Int.toNat j):Nat):Int)) (List.take (Int.toNat i) ys++List.drop (Int.toNat j) ys++List.drop (Int.toNat i+(ys.length-Int.toNat j)) ys)++List.replicate ((List.take (Int.toNat i) ys++List.drop (Int.toNat j) ys++List.drop (Int.toNat i+(ys.length-Int.toNat j)) ys).length-Int.toNat ((Int.toNat i+(ys.length-Int.toNat j):Nat):Int)) (Ar.mk ([]:An) ([]:An) ([]:An) 0 (Am.mk 0 ([]:An) ([]:(List Ac)) 0)))))
def OM (o:AG)(event:An):Option ((List Ac)×Bool):=
 Bq (GW o) λr1=>B0 (!r1) (some (([]:List Ac),false)) (Bq (HW (B3 o.fResults event ([]:(List Ac)))) λr7=>some (r7,E3 o.fResults event))
def GA (o:AG)(hb:(List Ar))(ha:Int):Option (Stp ((List Ar)×Int) (Out ((List Ar)) ((List Ar)))):=
 B0 (decide (ha<(o.fPending.length:Int))) (Bc (CR ha (o.fPending.length:Int))<|Bq (UF ((Ap o.fPending ha).fEffect)) λhd=>Bc (Dp 112 (hb.length+([(Ar.mk ((Ap o.fPending ha).fID) ((Ap o.fPending ha).fTenant) ((Ap o.fPending ha).fCause) ((Ap o.fPending ha).fAt) hd)]:List Ar).length))<|Bc (BS .i64 (ha+1))<|some (.next (hb++([(Ar.mk ((Ap o.fPending ha).fID) ((Ap o.fPending ha).fTenant) ((Ap o.fPending ha).fCause) ((Ap o.fPending ha).fAt) hd)]:List Ar),ha+1))) (some (.out (.go hb)))
def G9 (ha:(List Ar)):Option ((List Ar)):=
 some ha
def IA (F:Nat)(o:AG):Option ((List Ar)):=
 Bq (GW o) λr1=>B0 (!r1) (some ([]:List Ar)) (Bq (Cz (λσ=>GA o σ.1 σ.2) F (([]:List Ar),0)) (Ch λν=>G9 ν))
def OS (o:AG):Option ((List An)):=
 Bq (GW o) λr1=>B0 (!r1) (some ([]:List An)) (Bq (Pf o.fEvents) λr7=>some r7)
def UK (F:Nat)(o:AG)(id:An):Option (Int×AG):=
 Bq (GW o) λr2=>B0 (!r2) (some (10,o)) (Bq (Ri F o.fPending id) λr8=>B0 (decide (r8<0)) (some (5,o)) (Bq (Pg o.fPending) λha=>Bc (BS .i64 (r8+1))<|Bq (Pd ha r8 (r8+1)) λhb=>some (0,(AG.mk o.fMade o.fEvents o.fResults o.fKeys hb))))
def Jb (o:AG)(tenant:An)(hb:(List An))(hd:(List Bn))(ha:Int):Option (Stp ((List Bn)×Int) (Out ((List Bn)) ((List Bn)))):=
 B0 (decide (ha<((Bz hb).length:Int))) (Bc (CR ha ((Bz hb).length:Int))<|Bq (HW ((B3 (B3 o.fKeys tenant ([]:(List (An×Ah)))) (Ap (Bz hb) ha) (Ah.mk ([]:(List Ac)) 0)).fValue)) λhe=>Bc (Dp 48 (hd.length+([(Bn.mk (Ap (Bz hb) ha) he ((B3 (B3 o.fKeys tenant ([]:(List (An×Ah)))) (Ap (Bz hb) ha) (Ah.mk ([]:(List Ac)) 0)).fVersion))]:List Bn).length))<|Bc (BS .i64 (ha+1))<|some (.next (hd++([(Bn.mk (Ap (Bz hb) ha) he ((B3 (B3 o.fKeys tenant ([]:(List (An×Ah)))) (Ap (Bz hb) ha) (Ah.mk ([]:(List Ac)) 0)).fVersion))]:List Bn),ha+1))) (some (.out (.go hd)))
def Ja (ha:(List Bn)):Option ((List Bn)):=
 some ha
def Jc (ha:An)(hd:Ah)(hb:(List An)):Option (Stp ((List An)) (Out ((List Bn)) ((List An)))):=
 Bc (Dp 16 (hb.length+([ha]:List An).length))<|some (.next (hb++([ha]:List An)))
def Gj (F:Nat)(o:AG)(tenant:An)(ha:(List An)):Option ((List Bn)):=
 Bc (Dp 16 ha.length)<|Bq (Cz (λσ=>Jb o tenant ha σ.1 σ.2) F (([]:List Bn),0)) (Ch λν=>Ja ν)
def MO (F:Nat)(o:AG)(tenant:An):Option ((List Bn)):=
 Bq (GW o) λr1=>B0 (!r1) (some ([]:List Bn)) (UP (B3 o.fKeys tenant ([]:(List (An×Ah)))) λord=>Bq (Rc (λpe τ=>Jc pe.1 pe.2 τ) ord ([]:List An)) (Ch λν=>Gj F o tenant ν))
def Gx (ha:Int)(hb:(List Ar)):Option (Stp (Int×(List Ar)) (Out (Bool×Int×AG) ((List Ar)))):=
 Bc (BS .i64 (ha+1))<|some (.next (ha+1,hb))
def HM (c:AP)(ha:Int)(hb:(List Ar)):Option (Stp (Int×(List Ar)) (Out (Bool×Int×AG) ((List Ar)))):=
 B0 (decide (ha<(c.fEffects.length:Int))) (Bc (CR ha (c.fEffects.length:Int))<|Bq (Ej ((Ap c.fEffects ha).fKind)) λhe=>B0 (he) (Bc (Dp 1 c.fEvent.length)<|Bc (BS .i64 ha)<|Bq (UF (Ap c.fEffects ha)) λhd=>Bc (Dp 112 (hb.length+([(Ar.mk (BZ c.fEvent ha) c.fTenant c.fEvent c.fAt hd)]:List Ar).length))<|Gx ha (hb++([(Ar.mk (BZ c.fEvent ha) c.fTenant c.fEvent c.fAt hd)]:List Ar))) (Gx ha hb)) (some (.out (.go hb)))
def HL (o:AG)(c:AP)(ha:Int×(List (An×Ah)))(hb:(List Ac))(hd:(List Ar)):Option (Bool×Int×AG):=
 some (true,0,(AG.mk o.fMade (o.fEvents++([c.fEvent]:List An)) (mset o.fResults c.fEvent hb) (mset o.fKeys c.fTenant ha.2) hd))
def HN (ha:An)(hb:Ah)(hd:(List (An×Ah))):Option (Stp ((List (An×Ah))) (Out (Bool×Int×AG) ((List (An×Ah))))):=
 some (.next (mset hd ha hb))
def EA (F:Nat)(o:AG)(c:AP)(hb:(List (An×Ah))):Option (Bool×Int×AG):=
 Bq (QX F hb c.fEffects) λha=>B0 (!decide (ha.1=0)) (some (false,ha.1,o)) (Bc (Dp 16 (o.fEvents.length+([c.fEvent]:List An).length))<|Bq (HW c.fResult) λhd=>Bq (Cz (λσ=>HM c σ.1 σ.2) F (0,o.fPending)) (Ch λν=>HL o c ha hd ν))
def OV (F:Nat)(o:AG)(c:AP):Option (Bool×Int×AG):=
 Bq (GW o) λr2=>B0 (!r2) (some (false,10,o)) (Bq (KZ F c) λr8=>B0 (!decide (r8=0)) (some (false,r8,o)) (B0 (E3 o.fResults c.fEvent) (some (false,0,o)) (B0 (decide (4000≤(o.fEvents.length:Int))) (some (false,3,o)) (UP (B3 o.fKeys c.fTenant ([]:(List (An×Ah)))) λord=>Bq (Rc (λpe τ=>HN pe.1 pe.2 τ) ord ([]:List (An×Ah))) (Ch λν=>EA F o c ν)))))
def Ky (F:Nat)(o:AG)(r7:(List An)×Int)(hb:(List (List An)))(ha:Int):Option (Stp ((List (List An))×Int) (Out (Int×AG) ((List (List An))))):=
 B0 (decide (ha<(r7.1.length:Int))) (Bc (CR ha (r7.1.length:Int))<|Bq (Pc F (Ap r7.1 ha)) λhd=>B0 (!decide (hd.2=0)) (some (.out (.ret (13,o)))) (Bc (Dp 24 (hb.length+([hd.1]:List (List An)).length))<|Bc (BS .i64 (ha+1))<|some (.next (hb++([hd.1]:List (List An)),ha+1)))) (some (.out (.go hb)))
def Kx (F:Nat)(o:AG)(rc:An)(ha:(List (List An))):Option (Int×AG):=
 Bc (imp (decide ((ha.length:Int)=1)) (CR 0 (ha.length:Int)))<|B0 (((decide ((ha.length:Int)=1))&&(decide (((Ap ha 0).length:Int)=2)))) (Bc (CR 0 (ha.length:Int))<|Bc (CR 1 ((Ap ha 0).length:Int))<|Bq (DE F (Ap (Ap ha 0) 1)) λhd=>B0 (((!decide (hd.2=0))||(!decide (hd.1=rc)))) (some (13,o)) (Bq (UK F o (Ap (Ap ha 0) 1)) λhg=>some (0,hg.2))) (Bq (OT F ha) λhb=>Bq (GG F hb.1) λhe=>B0 (((!hb.2)||((!decide (he.2=0))||(!decide (he.1=rc))))) (some (13,o)) (Bq (OV F o hb.1) λhf=>some (hf.2.1,hf.2.2)))
def NU (F:Nat)(o:AG)(rc:An):Option (Int×AG):=
 Bq (GW o) λr1=>B0 (!r1) (some (10,o)) (Bq (Rm F rc) λr7=>Bq (Cz (λσ=>Ky F o r7 σ.1 σ.2) F (([]:List (List An)),0)) (Ch λν=>Kx F o rc ν))
end Go.Proofs.YtfobhhegpkinaaaGreatDoor
namespace Go.Proofs.YtfobhhegpkinaaaGreatDoor
open Go
end Go.Proofs.YtfobhhegpkinaaaGreatDoor
namespace Go.Proofs.YtfobhhegpkinaaaGreatDoor.Q
open Go Go.RowKit Go.ChangeMaps
set_option linter.unusedVariables false
set_option linter.unusedSimpArgs false
end Go.Proofs.YtfobhhegpkinaaaGreatDoor.Q
