/-
  Texts of the proof, put together: PVe, WVe, PVf, WVf, PH, PFr, QH, QY, QU, QW, QT, QJ, QX, WFr, PM, POa, QN, QM, QI, QV, QL, PI, QF, Q6, Q9, WOa, POb, Qy, WOb, POc.
-/
import Derived.Test.YtfobhhegpkinaaaGreatDoorOO2
import Derived.Laws.StructEq
import GoSem.Op.IntBits
import GoSem.Op.Shift
import Derived.Laws.Cover3
import Derived.ScopeJumps
import Derived.Laws.CopyRow
import Derived.Laws.IdiomCopy
import Derived.Laws.OwnMore
import Derived.MapKept
import Derived.Maps.RangeRun
import Derived.LoopN
namespace Go.Proofs.YtfobhhegpkinaaaGreatDoor
open Go
set_option linter.unusedVariables false
def Jl (a:(List Ac))(b:(List Ac))(ha:Int):Option (Stp (Int) (Out (Bool) (Unit))):=
 B0 (decide (ha<(a.length:Int))) (Bi (Da ha (a.length:Int))<|Bi (Da ha (b.length:Int))<|B0 (!(decide (((Al a ha).fKind)=((Al b ha).fKind))&&decide (((Al a ha).fInt)=((Al b ha).fInt))&&decide (((Al a ha).fStr)=((Al b ha).fStr))&&decide (((Al a ha).fN)=((Al b ha).fN)))) (some (.out (.ret false))) (Bi (Ch .i64 (ha+1))<|some (.next (ha+1)))) (some (.out (.go ())))
def MM :Option (Bool):=
 some true
def Jm (F:Nat)(a:(List Ac))(b:(List Ac)):Option (Bool):=
 B0 (!decide ((a.length:Int)=(b.length:Int))) (some false) (Bs (Cj (λσ=>Jl a b σ) F 0) (BQ λν=>MM ))
end Go.Proofs.YtfobhhegpkinaaaGreatDoor
namespace Go.Proofs.YtfobhhegpkinaaaGreatDoor.Q
open Go Go.RowKit
set_option linter.unusedVariables false
set_option linter.unusedSimpArgs false
set_option maxRecDepth 100000
set_option maxHeartbeats 4000000
theorem AbD {a0 b0:Int}{a1 b1:Int}{a2 b2:Aj}{a3 b3:Int}(w:World):(Op.equalIn 10000 83 (.agg #[.int .i64 a0,.int .i64 a1,.string (B a2),.int .i64 a3]) (.agg #[.int .i64 b0,.int .i64 b1,.string (B b2),.int .i64 b3])).run Tryz.prog w = .ok (decide (a0=b0)&&decide (a1=b1)&&decide (a2=b2)&&decide (a3=b3)) w:=by
  have hS:Tryz.prog.underlying 83=some (.struct (Tryz.prog.fieldsOf 83)):=by kernel_rfl
  have hp:Tryz.prog.stoodInHeld 83=false:=by kernel_rfl
  have u3:=YW;have ia3:=CO;have so3:=C2;have u9:=CX;have ia9:=Cf;have so9:=BS;have ha:=Tryz.underlying81;have hb:=LI;have hd:=LH;rw[show(10000:Nat)=9999+1 from rfl,run_equalIn_agg w 9999 83 _ _ hS hp];simp only[Program.fieldsOf,CY]
  go_simp
  simp only[GN]
  by_cases h0:a0=b0<;>by_cases h1:a1=b1<;>by_cases h2:a2=b2<;>by_cases h3:a3=b3<;>simp[h0,h1,h2,h3]
theorem TS {n:Nat}{c:Cx}{l:Fr}{H:List Ent}{d:Option Nat}{ty rty:TypeId}{pos:String}{af:Array Edge}{g:Option (Nat×Bool)}{x y:Operand}{a0 b0:Int}{a1 b1:Int}{a2 b2:Aj}{a3 b3:Int}(hx:ev l x=some (BW [A4 a0,A4 a1,rS a2,A4 a3]))(hy:ev l y=some (BW [A4 b0,A4 b1,rS b2,A4 b3])):B1 Tryz.prog n c l H { dst:=d,op:=.binOp .neq 83 x y rty,type:=ty,pos:=pos,after:=af,guard:=g } (rB (!(decide (a0=b0)&&decide (a1=b1)&&decide (a2=b2)&&decide (a3=b3)))):=λa w Z ha hw=>by
  obtain⟨us,e1,q1⟩:=ha.ev hx;obtain⟨vs,e2,q2⟩:=ha.ev hy;have k1:=Bq.eq_rv (us:=[.int .i64 a0,.int .i64 a1,.string (B a2),.int .i64 a3]) q1;have k2:=Bq.eq_rv (us:=[.int .i64 b0,.int .i64 b1,.string (B b2),.int .i64 b3]) q2;subst k1;subst k2;have hm:Tryz.prog.eqGuardType Tryz.prog.depth 83=false:=by kernel_rfl
  have hb:=AbD (a0:=a0) (a1:=a1) (a2:=a2) (a3:=a3) (b0:=b0) (b1:=b1) (b2:=b2) (b3:=b3) w;refine⟨.bool (!(decide (a0=b0)&&decide (a1=b1)&&decide (a2=b2)&&decide (a3=b3))),rfl,?_⟩;have hg:=run_eqGuard_agg (P:=Tryz.prog) w .neq 83 x y #[.int .i64 a0,.int .i64 a1,.string (B a2),.int .i64 a3] #[.int .i64 b0,.int .i64 b1,.string (B b2),.int .i64 b3] hm;simp only[execOp,e1,e2,Sem.run_bind,hg,Result.andThen_ok,run_neq_struct,hb,Sem.run_pure]
theorem S5 (F:Nat)(a:(List Ac))(b:(List Ac))(r:Bool)(h:Jm F a b=some r):Fn Tryz.prog GE 15 [Be 4 (A8 Af a),Be 4 (A8 Af b)] [] (λR H=>R=rB r∧H=[]):=by
 refine enter (n:=26) Tryz.func15 Aa Tryz.ntmps15 Aa (λw Z=>?_);unfold Jm at h;refine Am (wa Aa (Ax (Aq (Am (wm Aa (wv (By (ys:=a) (enc:=Af) D7 Aa) (wm Aa (wv (By (ys:=b) (enc:=Af) D7 Aa) (wv (Cl Aa Aa) (Ax (cz h Aa (λc1 h2=>?_) (λc1 h3=>?_))))))))))))
 ·refine Am (wa Aa (Ax (A6 (Ae ?_))));obtain rfl:=AA h2;exact A5 (Cp Tryz.results15 (AT Aa)) sN ⟨Aa,Aa⟩
 refine A0 (AY (Aq (Am (wa Aa (Ax (AO (ob h3 λhg hh hf=>B5 (S:=Nat×(Int)×(Unit)) (V:=(Unit)×(Unit)) 0 (λσ=>Cj (λσ=>Jl a b σ) σ.1 σ.2.1=some hg) (λσ=>[(0,Be 4 (A8 Af a)),(1,Be 4 (A8 Af b)),(5,A4 σ.2.1)]) (λσ=>[]) (λσ=>σ.1) (F,0,()) hh (AI.c Aa (AI.c Aa (AI.c Aa AI.nil))) sN (λσ=>MM =some r) (λσ=>[]) (λσ=>[]) ?_ ?_)))))))
 ·rintro⟨h1,ha,⟨⟩⟩ hi;refine EL ?_;obtain⟨hj,rfl,hk,hb,he⟩:=CM hi;replace hb:Jl a b ha=some hk:=hb;unfold Jl at hb;refine Aq (Am (wm Aa (wm Aa (wv (By (ys:=a) (enc:=Af) D7 Aa) (wv (De Aa Aa) (Ax (cz hb Aa (λhl hm=>?_) (λhl hn=>?_))))))))
  ·refine A0 (AY (Aq (AO (Aq (ck hm λho hp=>ck hp λhq hr=>Dy [0,1,5] ?_)))));refine rq (Ah Aa) (rq (Ah Aa) (rq (AU (enc:=Af) (ys:=a) D7 EE Aa Aa ho) (rq (DB Xq EE Aa Aa Aa) (rq (Ah Aa) (rq (Ah Aa) (rq (AU (enc:=Af) (ys:=b) D7 EE Aa Aa hq) (rq (DB Xq EE Aa Aa Aa) (rq (r:=rB (!(decide (((Al a ha).fKind)=((Al b ha).fKind))&&decide (((Al a ha).fInt)=((Al b ha).fInt))&&decide (((Al a ha).fStr)=((Al b ha).fStr))&&decide (((Al a ha).fN)=((Al b ha).fN))))) (TS Aa Aa) (re [17,18,19,20,21,22,23,24,25,0,1,5] ?_)))))))));refine AY (cz hr Aa (λhs ht=>?_) (λhs hu=>?_))
   ·refine Am (wa Aa (Ax (A6 (A7 (Ae (Ae (Bc ?_)))))));have hw:=B4 ht he hf;refine A7 (Ae ?_);obtain rfl:=AA hw;exact A5 (Cp Tryz.results15 (AT Aa)) sN ⟨Aa,Aa⟩
   refine A0 (AK (AY (Ap (wm Aa (ck hu λhx hy=>wv (BU Aa Aa hx) (wa Aa (Ar ?_)))))));have hz:=B8 hy he;exact A1 (AG (hj,ha+1,()) ⟨hz,Ago _⟩ (AI.c Aa (AI.c Aa (AI.c Aa AI.nil))) sN)
  refine B9 (A9 ?_);have h0:=Co hn he hf;exact A9 (Bj (AG ((),()) h0 AI.nil sN))
 rintro⟨⟨⟩,⟨⟩⟩ hd;refine IY ?_;replace hd:MM =some r:=hd;unfold MM at hd;refine Bm (AY (Am (wa Aa (Ax (A6 ?_)))));obtain rfl:=AA hd;exact A5 (Cp Tryz.results15 (AT Aa)) sN ⟨Aa,Aa⟩
end Go.Proofs.YtfobhhegpkinaaaGreatDoor.Q
namespace Go.Proofs.YtfobhhegpkinaaaGreatDoor
open Go
set_option linter.unusedVariables false
end Go.Proofs.YtfobhhegpkinaaaGreatDoor
namespace Go.Proofs.YtfobhhegpkinaaaGreatDoor.Q
open Go Go.RowKit
set_option linter.unusedVariables false
set_option linter.unusedSimpArgs false
set_option maxRecDepth 100000
set_option maxHeartbeats 4000000
end Go.Proofs.YtfobhhegpkinaaaGreatDoor.Q
namespace Go.Proofs.YtfobhhegpkinaaaGreatDoor
open Go
def QS (k:IntKind)(x y:Int):Int:=k.wrap ((BitVec.ofInt k.bits x&&& BitVec.ofInt k.bits y).toNat:Int)
def Ky (k:IntKind)(x y:Int):Int:=k.wrap ((BitVec.ofInt k.bits x||| BitVec.ofInt k.bits y).toNat:Int)
def H9 (k:IntKind)(x y:Int):Int:=k.wrap ((BitVec.ofInt k.bits x^^^BitVec.ofInt k.bits y).toNat:Int)
def Yx (k:IntKind)(x:Int):Int:=H9 k (if k.signed then -1 else k.max) x
def D2 (k:IntKind)(x n:Int):Int:=k.wrap (x*2 ^ (min n.toNat k.bits))
def CL (k:IntKind)(x n:Int):Int:=x.fdiv (2 ^ (min n.toNat k.bits))
set_option linter.unusedVariables false
def Hi (hb:Int)(ha:Int):Option (Stp (Int×Int) (Out (Stp (Int×(List Int)) (Out ((List Int)) ((List Int)))) (Int×Int×Bool))):=
 B0 (decide (ha<8)) (Bi (Ch .i64 (ha+1))<|some (.next ((bif decide ((QS .u32 hb 1)=1) then H9 .u32 (CL .u32 hb 1) 3988292384 else CL .u32 hb 1),ha+1))) (some (.out (.go (hb,ha,decide (ha<8)))))
def J6 (ha:Int)(hb:(List Int))(hd:Int)(he:Int)(hf:Bool):Option (Stp (Int×(List Int)) (Out ((List Int)) ((List Int)))):=
 Bi (Da ha 256)<|Bi (Da ha (hb.length:Int))<|Bi (Ch .i64 (ha+1))<|some (.next (ha+1,List.set hb (Int.toNat ha) hd))
def Hj (F:Nat)(ha:Int)(hb:(List Int)):Option (Stp (Int×(List Int)) (Out ((List Int)) ((List Int)))):=
 B0 (decide (ha<256)) (Bs (Cj (λσ=>Hi σ.1 σ.2) F (IntKind.wrap .u32 ha,0)) (BQ λν=>J6 ha hb ν.1 ν.2.1 ν.2.2)) (some (.out (.go hb)))
def J7 (ha:(List Int)):Option ((List Int)):=
 Bi (decide (ha.length=256))<|Bi (decide ((List.replicate 256 (0:Int)).length=256))<|some ha
def Qe (F:Nat) :Option ((List Int)):=
 Bs (Cj (λσ=>Hj F σ.1 σ.2) F (0,List.replicate 256 (0:Int))) (BQ λν=>J7 ν)
def HR (s:Aj)(r1:(List Int))(hb:Int)(ha:Int):Option (Stp (Int×Int) (Out (Int) (Int))):=
 B0 (decide (ha<(s.length:Int))) (Bi (Da ha (s.length:Int))<|Bi (Da (H9 .u8 (IntKind.wrap .u8 hb) (BD s ha)) 256)<|Bi (Da (H9 .u8 (IntKind.wrap .u8 hb) (BD s ha)) (r1.length:Int))<|Bi (Ch .i64 (ha+1))<|some (.next (H9 .u32 (Al r1 (H9 .u8 (IntKind.wrap .u8 hb) (BD s ha))) (CL .u32 hb 8),ha+1))) (some (.out (.go hb)))
def OU (ha:Int):Option (Int):=
 some (Yx .u32 ha)
def Y1 (F:Nat)(s:Aj):Option (Int):=
 Bs (Qe F) λr1=>Bi (decide ((List.replicate 256 (0:Int)).length=256))<|Bi (decide (r1.length=256))<|Bs (Cj (λσ=>HR s r1 σ.1 σ.2) F (4294967295,0)) (BQ λν=>OU ν)
def LA (n:Int):Option (Aj):=
 some (QI ([IntKind.wrap .u8 (CL .u32 n 24),IntKind.wrap .u8 (CL .u32 n 16),IntKind.wrap .u8 (CL .u32 n 8),IntKind.wrap .u8 n]:List Int))
def L9 (s:Aj):Option (Int):=
 Bi (Da 0 (s.length:Int))<|Bi (Da 1 (s.length:Int))<|Bi (Da 2 (s.length:Int))<|Bi (Da 3 (s.length:Int))<|some (Ky .u32 (Ky .u32 (Ky .u32 (D2 .u32 (IntKind.wrap .u32 (BD s 0)) 24) (D2 .u32 (IntKind.wrap .u32 (BD s 1)) 16)) (D2 .u32 (IntKind.wrap .u32 (BD s 2)) 8)) (IntKind.wrap .u32 (BD s 3)))
def H0 (fields:(List Aj))(hb:(List Int))(ha:Int):Option (Stp ((List Int)×Int) (Out (Aj×Int) ((List Int)))):=
 B0 (decide (ha<(fields.length:Int))) (Bi (Da ha (fields.length:Int))<|B0 (decide (4000<((Al fields ha).length:Int))) (some (.out (.ret (([]:Aj),3)))) (Bi (Dv 1 (hb.length+([IntKind.wrap .u8 (CL .i64 ((Al fields ha).length:Int) 8),IntKind.wrap .u8 ((Al fields ha).length:Int)]:List Int).length))<|Bi (Dv 1 ((hb++([IntKind.wrap .u8 (CL .i64 ((Al fields ha).length:Int) 8),IntKind.wrap .u8 ((Al fields ha).length:Int)]:List Int)).length+(Al fields ha).length))<|Bi (Ch .i64 (ha+1))<|some (.next ((hb++([IntKind.wrap .u8 (CL .i64 ((Al fields ha).length:Int) 8),IntKind.wrap .u8 ((Al fields ha).length:Int)]:List Int))++D8 (Al fields ha),ha+1)))) (some (.out (.go hb)))
def Nm (ha:(List Int)):Option (Aj×Int):=
 some (QI ha,0)
def U0 (F:Nat)(fields:(List Aj)):Option (Aj×Int):=
 B0 (decide (64<(fields.length:Int))) (some (([]:Aj),3)) (Bs (Cj (λσ=>H0 fields σ.1 σ.2) F (([IntKind.wrap .u8 (fields.length:Int)]:List Int),0)) (BQ λν=>Nm ν))
def DW (ha:Int):Option ((List Aj)×Int):=
 some (([]:List Aj),ha)
def Dc (s:Aj)(ha:Aj)(hb:(List Aj))(hh:Int)(hd:Int):Option (Stp (Aj×(List Aj)×Int×Int) (Out ((List Aj)×Int) (Aj×(List Aj)))):=
 B0 (decide (hd<(BD s 0))) (B0 (decide ((ha.length:Int)<2)) (Bs (DW 14) λhe=>some (.out (.ret he))) (Bi (Da 0 (ha.length:Int))<|Bi (Ch .i64 (BD ha 0))<|Bi (Da 1 (ha.length:Int))<|Bi (Ch .i64 (BD ha 1))<|Bi (G8 2 (ha.length:Int))<|B0 (decide (4000<(Ky .i64 (D2 .i64 (BD ha 0) 8) (BD ha 1)))) (Bs (DW 13) λhf=>some (.out (.ret hf))) (B0 (decide (((List.drop (Int.toNat 2) ha).length:Int)<(Ky .i64 (D2 .i64 (BD ha 0) 8) (BD ha 1)))) (Bs (DW 14) λhg=>some (.out (.ret hg))) (Bi (G8 (Ky .i64 (D2 .i64 (BD ha 0) 8) (BD ha 1)) ((List.drop (Int.toNat 2) ha).length:Int))<|Bi (Dv 16 (hb.length+([List.take (Int.toNat (Ky .i64 (D2 .i64 (BD ha 0) 8) (BD ha 1))) (List.drop (Int.toNat 2) ha)]:List Aj).length))<|Bi (Ch .i64 (hd+1))<|some (.next (List.drop (Int.toNat (Ky .i64 (D2 .i64 (BD ha 0) 8) (BD ha 1))) (List.drop (Int.toNat 2) ha),hb++([List.take (Int.toNat (Ky .i64 (D2 .i64 (BD ha 0) 8) (BD ha 1))) (List.drop (Int.toNat 2) ha)]:List Aj),Ky .i64 (D2 .i64 (BD ha 0) 8) (BD ha 1),hd+1)))))) (some (.out (.go (ha,hb))))
def Gq (hb:Aj)(ha:(List Aj)):Option ((List Aj)×Int):=
 B0 (!decide (hb=([]:Aj))) (DW 13) (Bi (G8 (ha.length:Int) (ha.length:Int))<|some (List.take (Int.toNat (ha.length:Int)) ha,0))
def Nl (F:Nat)(s:Aj):Option ((List Aj)×Int):=
 B0 (decide (s=([]:Aj))) (DW 14) (Bi (Da 0 (s.length:Int))<|Bi (Ch .i64 (BD s 0))<|Bi (G8 1 (s.length:Int))<|B0 (decide (64<(BD s 0))) (DW 13) (Bs (Cj (λσ=>Dc s σ.1 σ.2.1 σ.2.2.1 σ.2.2.2) F (List.drop (Int.toNat 1) s,([]:List Aj),0,0)) (BQ λν=>Gq ν.1 ν.2)))
def Qh (F:Nat)(body:Aj):Option (Aj×Int):=
 B0 (decide (262136<(body.length:Int))) (some (([]:Aj),3)) (Bs (LA (IntKind.wrap .u32 (body.length:Int))) λr4=>Bs (Y1 F body) λr7=>Bs (LA r7) λha=>Bi (Ch .i64 ((r4.length:Int)+(ha.length:Int)))<|Bi (Ch .i64 (((r4++ha).length:Int)+(body.length:Int)))<|some ((r4++ha)++body,0))
def U1 (F:Nat)(s:Aj):Option (Aj×Int×Int):=
 B0 (decide ((s.length:Int)<8)) (some (([]:Aj),0,14)) (Bs (L9 s) λr4=>B0 (decide (262136<(IntKind.wrap .i64 r4))) (some (([]:Aj),0,13)) (Bi (Ch .i64 ((s.length:Int)-8))<|B0 (decide (((s.length:Int)-8)<(IntKind.wrap .i64 r4))) (some (([]:Aj),0,14)) (Bi (Ch .i64 (8+(IntKind.wrap .i64 r4)))<|Bi (G8 8 (8+(IntKind.wrap .i64 r4)))<|Bi (G8 (8+(IntKind.wrap .i64 r4)) (s.length:Int))<|Bs (Y1 F (List.take (Int.toNat (8+(IntKind.wrap .i64 r4))-Int.toNat 8) (List.drop (Int.toNat 8) s))) λha=>Bi (G8 4 (s.length:Int))<|Bs (L9 (List.drop (Int.toNat 4) s)) λhb=>B0 (!decide (ha=hb)) (some (([]:Aj),0,13)) (some (List.take (Int.toNat (8+(IntKind.wrap .i64 r4))-Int.toNat 8) (List.drop (Int.toNat 8) s),8+(IntKind.wrap .i64 r4),0)))))
def Hk (F:Nat)(s:Aj)(hd:(List Aj))(ha:Int):Option (Stp ((List Aj)×Int) (Out ((List Aj)×Int) ((List Aj)×Int))):=
 B0 (decide (ha<(s.length:Int))) (Bi (G8 ha (s.length:Int))<|Bs (U1 F (List.drop (Int.toNat ha) s)) λhb=>B0 (!decide (hb.2.2=0)) (some (.out (.go (hd,ha)))) (Bi (Dv 16 (hd.length+([hb.1]:List Aj).length))<|Bi (Ch .i64 (ha+hb.2.1))<|some (.next (hd++([hb.1]:List Aj),ha+hb.2.1)))) (some (.out (.go (hd,ha))))
def J9 (ha:(List Aj))(hb:Int):Option ((List Aj)×Int):=
 Bi (G8 (ha.length:Int) (ha.length:Int))<|some (List.take (Int.toNat (ha.length:Int)) ha,hb)
def Qg (F:Nat)(s:Aj):Option ((List Aj)×Int):=
 Bs (Cj (λσ=>Hk F s σ.1 σ.2) F (([]:List Aj),0)) (BQ λν=>J9 ν.1 ν.2)
def GL (F:Nat)(bodies:(List Aj))(hb:(List Int))(hd:Int):Option (Stp ((List Int)×Int) (Out (Aj×Int) ((List Int)))):=
 B0 (decide (hd<(bodies.length:Int))) (Bi (Da hd (bodies.length:Int))<|Bs (Qh F (Al bodies hd)) λha=>Bi (imp (!(!decide (ha.2=0))) (Ch .i64 ((hb.length:Int)+(ha.1.length:Int))))<|B0 (((!decide (ha.2=0))||(decide (262144<((hb.length:Int)+(ha.1.length:Int)))))) (some (.out (.ret (([]:Aj),3)))) (Bi (Dv 1 (hb.length+ha.1.length))<|Bi (Ch .i64 (hd+1))<|some (.next (hb++D8 ha.1,hd+1)))) (some (.out (.go hb)))
def KT (ha:(List Int)):Option (Aj×Int):=
 some (QI ha,0)
def U2 (F:Nat)(bodies:(List Aj)):Option (Aj×Int):=
 Bs (Cj (λσ=>GL F bodies σ.1 σ.2) F (([]:List Int),0)) (BQ λν=>KT ν)
end Go.Proofs.YtfobhhegpkinaaaGreatDoor
namespace Go.Proofs.YtfobhhegpkinaaaGreatDoor.Q
open Go Go.RowKit
set_option linter.unusedVariables false
set_option linter.unusedSimpArgs false
section
variable {P : Program} {n : Nat} {c : Cx} {l : Fr} {H : List Ent} {d : Option Nat} {x y : Operand} {t t' ty : TypeId} {pos : String} {af : Array Edge} {g : Option (Nat × Bool)} {k k' : IntKind} {p q : Int}
theorem AeR (hx:ev l x=some (rI k p))(hy:ev l y=some (rI k q)):B1 P n c l H { dst:=d,op:=.binOp .and t x y t',type:=ty,pos:=pos,after:=af,guard:=g } (rI k (QS k p q)):=λa w Z ha _=>Dl<|by
 simp[execOp,ha.eval hx,ha.eval hy,BK,binOp,Op.intBits,QS]
theorem Acv (hx:ev l x=some (rI k p))(hy:ev l y=some (rI k q)):B1 P n c l H { dst:=d,op:=.binOp .or t x y t',type:=ty,pos:=pos,after:=af,guard:=g } (rI k (Ky k p q)):=λa w Z ha _=>Dl<|by
 simp[execOp,ha.eval hx,ha.eval hy,BK,binOp,Op.intBits,Ky]
theorem Aag (hx:ev l x=some (rI k p))(hy:ev l y=some (rI k q)):B1 P n c l H { dst:=d,op:=.binOp .xor t x y t',type:=ty,pos:=pos,after:=af,guard:=g } (rI k (H9 k p q)):=λa w Z ha _=>Dl<|by
 simp[execOp,ha.eval hx,ha.eval hy,BK,binOp,Op.intBits,H9]
theorem W0 (hx:ev l x=some (rI k p))(hy:ev l y=some (rI k' q))(h0:decide (0≤q)=true):B1 P n c l H { dst:=d,op:=.binOp .shl t x y t',type:=ty,pos:=pos,after:=af,guard:=g } (rI k (D2 k p q)):=λa w Z ha _=>Dl<|by
 have h1 : ¬ q<0:=by have:=Agm h0;omega
 simp[execOp,ha.eval hx,ha.eval hy,BK,binOp,Op.shift,D2,h1]
theorem Ry (hx:ev l x=some (rI k p))(hy:ev l y=some (rI k' q))(h0:decide (0≤q)=true):B1 P n c l H { dst:=d,op:=.binOp .shr t x y t',type:=ty,pos:=pos,after:=af,guard:=g } (rI k (CL k p q)):=λa w Z ha _=>Dl<|by
 have h1 : ¬ q<0:=by have:=Agm h0;omega
 simp[execOp,ha.eval hx,ha.eval hy,BK,binOp,Op.shift,CL,h1]
theorem Acz (hx:ev l x=some (rI k p)):B1 P n c l H { dst:=d,op:=.unOp .xor t x,type:=ty,pos:=pos,after:=af,guard:=g } (rI k (Yx k p)):=λa w Z ha _=>Dl<|by
 simp[execOp,ha.eval hx,Op.unary,Op.intBits,Yx,H9]
end
theorem AdS {α:Type}[Inhabited α]{enc:α→Rp}{ys:List α}{j:Int}(hg:Da j (ys.length:Int)=true):(List.map enc ys)[j.toNat]? =some (enc (Al ys j)):=by
 have h0:=(Dg hg).1;have h1:=(Dg hg).2;have hl:j.toNat<ys.length:=by omega
 simp[Al,Agi hl]
theorem AcA {α:Type}{enc:α→Rp}{ys:List α}{j:Int}(hg:Da j (ys.length:Int)=true):Nat.blt j.toNat (List.map enc ys).length=true:=by
 have h0:=(Dg hg).1;have h1:=(Dg hg).2;simp;omega
section
variable {P : Program} {n : Nat} {c : Cx} {ops : Array Oper} {Q : Exit → Act → World → Prop} {rest : List Oper} {l : Fr} {H H' : List Ent} {d : Nat} {d' : Option Nat} {x y : Operand} {t ty e : TypeId} {pos : String} {af : Array Edge} {g : Option (Nat × Bool)} {k : IntKind} {b i len : Nat} {j : Int}
theorem Aao (ht:P.underlying t=some (.array len e))(hz:∀w,(sizeOf e).run P w = .ok 1 w)(hx:ev l x=some (rv (.pointer (some ⟨b,0,none⟩))))(hy:ev l y=some (rI k j))(hg:Da j (len:Int)=true) :
  B1 P n c l H { dst:=d',op:=.indexAddr t x y,type:=ty,pos:=pos,after:=af,guard:=g } (rv (.pointer (some ⟨b,j.toNat,none⟩))):=λa w Z ha hw=>Dl<|by
 have h0:=(Dg hg).1;have h1:=(Dg hg).2;simp[execOp,ha.eval hx,ha.eval hy,Instr.indexAt,Instr.sureAddr,asIntOf,run_underlying ht,h0,h1,hz,I8]
theorem Aam {α:Type}[Inhabited α]{enc:α→Rp}{ys:List α}(hag:∀w,(isAgg t).run P w = .ok false w)(hx:ev l x=some (rv (.pointer (some ⟨b,j.toNat,none⟩))))(hi:H[i]? =some (.blk b (List.map enc ys) e))(hg:Da j (ys.length:Int)=true) :
  B1 P n c l H { dst:=d',op:=.load t x,type:=ty,pos:=pos,after:=af,guard:=g } (enc (Al ys j)):=AQ hag hx hi (AdS hg)
theorem X2 {α:Type}[Inhabited α]{enc:α→Rp}{ys:List α}{v:α}(hag:∀w,(sizeOf t).run P w = .ok 1 w)(hx:ev l x=some (rv (.pointer (some ⟨b,j.toNat,none⟩))))(hy:ev l y=some (enc v))(hv:Te H (enc v))
  (hi:H[i]? =some (.blk b (List.map enc ys) e)) (hg:Da j (ys.length:Int)=true) (hH:H.set i (.blk b (List.map enc (List.set ys j.toNat v)) e)=H')
  (h:WL P n c ops Q rest l H'):WL P n c ops Q ({ dst:=none,op:=.store t x y,type:=ty,pos:=pos,after:=af,guard:=none }::rest) l H:=
 Ss hag hx hy hv hi (AcA hg) (cs':=List.map enc (List.set ys j.toNat v)) (by rw[List.map_set]) hH h
theorem Vr {α:Type}{enc:α→Rp}{ys:List α}{sz:Nat}(hag:∀w,(isAgg t).run P w = .ok true w)(hsz:∀w,(sizeOf t).run P w = .ok sz w)(hx:ev l x=some (rv (.pointer (some ⟨b,0,none⟩))))(hi:H[i]? =some (.blk b (List.map enc ys) e))(hl:decide (ys.length=sz)=true) :
  B1 P n c l H { dst:=d',op:=.load t x,type:=ty,pos:=pos,after:=af,guard:=g } (BW (List.map enc ys)):=Bl hag hsz hx hi (by rw[List.drop_zero,List.take_of_length_le (by rw[Agj];have:=Agm hl;omega)]) (by rw[Agj];exact Agm hl)
theorem Od {α:Type}{enc:α→Rp}{ys zs:List α}{sz:Nat}(hsz:∀w,(sizeOf t).run P w = .ok sz w)(hx:ev l x=some (rv (.pointer (some ⟨b,0,none⟩))))(hy:ev l y=some (BW (List.map enc zs)))(h1:∀x,(enc x).one=true)
  (hi:H[i]? =some (.blk b (List.map enc ys) e)) (hl:decide (ys.length=sz)=true) (hl2:decide (zs.length=sz)=true) (hH:H.set i (.blk b (List.map enc zs) e)=H')
  (h:WL P n c ops Q rest l H'):WL P n c ops Q ({ dst:=none,op:=.store t x y,type:=ty,pos:=pos,after:=af,guard:=none }::rest) l H:=
 KA hsz hx hy (by rw[Agj];exact Agm hl2) (Cv.c (by simp[List.all_map,h1])) hi (by have:=Agm hl;simp;omega)
  (cs':=List.map enc zs) (by have:=Agm hl;rw[List.take_zero,AgK,List.drop_of_length_le (by rw[Agj];omega),AgP]) hH h
theorem AcD {α:Type}{enc:α→Rp}{ys:List α}{sz:Nat}(hl:decide (ys.length=sz)=true):(List.map enc ys).length=sz:=by rw[Agj];exact Agm hl
end
def Qz (ops:List Oper)(N:Nat):Bool:=
 let cl:=M0 ops []
 (List.range ops.length).all (λi=>(Dj (ops.getD i default)).all (·<i))&&
 (List.range ops.length).all (λi=>i<N||(List.range i).all (λj=>(cl.getD i 0).testBit j))
section
variable {P : Program} {Q : Exit → Act → World → Prop}
theorem UB {listed:Array Bool}{len m:Nat}(hs:listed.size=len)(hm:m≤len)(h:∀j,j<len→(listed.getD j true=true↔j<m)):listed.toList.count false=len-m:=by
 have:listed.toList=List.replicate m true++List.replicate (len-m) false:=by
  apply List.ext_getElem
  ·simp[hs];omega
  ·intro j h1 h2;have hj:j<len:=by simpa[hs] using h1
   have:=h j hj;rw[Array.getD_eq_getD_getElem?,Array.getElem?_eq_getElem (by omega)] at this;simp only[Ag5] at this;rw[Array.getElem_toList,List.getElem_append]
   split
   ·rename_i h3
    simp at h3;simp[this.2 h3]
   ·rename_i h3
    simp at h3;simp only[List.getElem_replicate]
    cases hb:listed[j] with
    | false=>rfl
    | true=>have:=this.1 hb;omega
 rw[this];simp[List.count_append,List.count_replicate]
theorem WJ {listed:Array Bool}{j:Nat}(h:j<listed.size)(d d':Bool):listed.getD j d=listed.getD j d':=by
 simp[Array.getD_eq_getD_getElem?,Array.getElem?_eq_getElem h]
theorem Q3 {ops:List Oper}{listed:Array Bool}{i:Nat}{o:Oper}(ho:ops[i]? =some o)(hb:∀e∈Dj o,listed.getD e true=true)
  (hcl:∀j o,ops[j]? =some o→listed.getD j true=true→∀e∈Dj o,listed.getD e true=true) (j:Nat) (h:((M0 ops []).getD i 0).testBit j=true):j=i∨listed.getD j true=true:=
 Hl ops (λk=>k=i∨listed.getD k true=true) ops [] (λt o' ht e he hF=>by
  rcases hF with hF | hF
  ·simp at hF;subst hF;rw[ho] at ht;simp at ht;subst ht;exact .inr (hb e he)
  ·exact .inr (hcl t o' ht (by simpa using hF) e he)) (λj i hb=>by simp at hb) i j h (.inl rfl)
theorem Mm {ops:List Oper}{listed:Array Bool}{i:Nat}(hsz:listed.size=ops.length)(hlt:∀i,i<ops.length→∀e∈Dj (ops.getD i default),e<i)(h:i∈Region.ready .any ops.toArray listed) :
  listed.getD i true=false∧i<ops.length∧∃o,ops[i]? =some o∧∀e∈Dj o,listed.getD e true=true:=by
 obtain⟨h1,o,ho,h2⟩:=mem_ready.1 h;have ho':ops[i]? =some o:=by simpa using ho
 have hil:=(List.getElem?_eq_some_iff.1 ho').1;refine⟨h1,hil,o,ho',λe he=>?_⟩;have hei:=hlt i hil e (by rw[Agh,ho'];exact he);simp only[Dj,List.mem_map,List.mem_filter] at he;obtain⟨x,⟨hx1,hx2⟩,rfl⟩:=he;have h3:=h2 x (by simpa using hx1) hx2;rw[WJ (by omega) true false];exact h3
theorem LX {ops:List Oper}{listed:Array Bool}(hsz:listed.size=ops.length)(hlt:∀i,i<ops.length→∀e∈Dj (ops.getD i default),e<i)(h:Region.ready .any ops.toArray listed=[]) :
  ∀j,j<ops.length→listed.getD j true=true:=by
 intro j
 induction j using Nat.strongRecOn with
 | ind j ih=>
  intro hj
  cases hb:listed.getD j true with
  | true=>rfl
  | false=>
   have:j∈Region.ready .any ops.toArray listed:=mem_ready.2 ⟨hb,ops[j],by simp[hj],λe he hbn=>by
    have hel:e.on<j:=hlt j hj e.on (by
     rw[Agh,Agi hj];simp only[Dj,Ag5,List.mem_map,List.mem_filter];exact⟨e,⟨by simpa using he,hbn⟩,rfl⟩)
    rw[WJ (by omega) false true];exact ih e.on hel (by omega)⟩
   rw[h] at this;cases this
theorem OI {listed:Array Bool}{i j:Nat}(hi:i<listed.size):(listed.setIfInBounds i true).getD j true=true↔(j=i∨listed.getD j true=true):=by
 by_cases hj:i=j
 ·subst hj;simp[hi]
 ·rw[getD_set_ne true hj];exact⟨.inr,λh=>h.elim (λh=>absurd h.symm hj) id⟩
theorem X8 {listed:Array Bool}{i fuel:Nat}(hi:i<listed.size)(hun:listed.getD i true=false)(hc:listed.toList.count false=fuel+1):(listed.setIfInBounds i true).toList.count false=fuel:=by
 have hfi:listed.toList[i]? =some false:=by
  rw[Array.getD_eq_getD_getElem?,Array.getElem?_eq_getElem hi] at hun;simp at hun;simp[hi,hun]
 rw[Array.toList_setIfInBounds];have h1:=List.count_set (a:=true) (b:=false) (l:=listed.toList) (i:=i) (by simpa using hi);have h2:listed.toList[i]'(by simpa using hi)=false:=by
  have:=List.getElem?_eq_some_iff.1 hfi;exact this.2
 rw[h1,h2,hc];rfl
theorem NX {ops:List Oper}{N:Nat}(hlt:∀i,i<ops.length→∀e∈Dj (ops.getD i default),e<i)
  (hch:∀i,N≤i→i<ops.length→∀j,j<i→((M0 ops []).getD i 0).testBit j=true):∀(k m:Nat) (listed:Array Bool) (a:Act) (w:World),m+k=ops.length→N≤m→listed.size=ops.length→
   (∀j,j<ops.length→(listed.getD j true=true↔j<m))→(∀j o,ops[j]? =some o→listed.getD j true=true→∀e∈Dj o,listed.getD e true=true)→wpList P ops.toArray Q (ops.drop m) a w→wpAny P .any ops.toArray Q k listed a w
 | 0,m,listed,a,w,hk,hN,hsz,hl,hcl,h=>by
  refine⟨?_,?_⟩
  ·cases hr:Region.ready .any ops.toArray listed with
   | nil=>rfl
   | cons i r=>
    obtain⟨h1,h2,_⟩:=Mm hsz hlt (i:=i) (by rw[hr];simp);rw[(hl i h2).2 (by omega)] at h1;cases h1
  ·rw[List.drop_of_length_le (by omega)] at h;exact h
 | k+1,m,listed,a,w,hk,hN,hsz,hl,hcl,h=>by
  refine⟨λhr=>?_,λi hi=>?_⟩
  ·have:=(hl m (by omega)).1 (LX hsz hlt hr m (by omega));omega
  ·obtain⟨h1,h2,o,ho,hb⟩:=Mm hsz hlt hi;have him:i=m:=by
    have hmi : ¬ i<m:=λh'=>by rw[(hl i h2).2 h'] at h1;cases h1
    by_cases e:i=m
    ·exact e
    ·rcases Q3 ho hb hcl m (hch i (by omega) h2 m (by omega)) with h3 | h3
     ·exact h3.symm
     ·have:=(hl m (by omega)).1 h3;omega
   subst him;have hd:ops.drop i=o::ops.drop (i+1):=by
    rw[List.drop_eq_getElem_cons h2]
    congr 1
    exact(List.getElem?_eq_some_iff.1 ho).2
   rw[hd] at h;have ih:∀a' w',wpList P ops.toArray Q (ops.drop (i+1)) a' w'→wpAny P .any ops.toArray Q k (listed.setIfInBounds i true) a' w':=λa' w' h'=>by
    refine NX hlt hch k (i+1) _ a' w' (by omega) (by omega) (by simpa using hsz) (λj hj=>?_) (λj o' hj hlj e he=>?_) h'
    ·rw[OI (by omega),hl j hj];omega
    ·rw[OI (by omega)] at hlj ⊢;rcases hlj with rfl | hlj
     ·rw[ho] at hj;simp at hj;subst hj;exact .inr (hb e he)
     ·exact .inr (hcl j o' hj hlj e he)
   unfold wpOp;have hoA:ops.toArray[i]? =some o:=by simpa using ho
   simp only[hoA];simp only[wpList] at h
   split
   ·rename_i hw'
    rw[AgT hw'] at h;exact h.imp (λh=>Oper.wp_mono ih h) (λh=>h)
   ·rename_i hw'
    rw[AgF hw'] at h;exact ih _ _ h
theorem UX {id:Nat}{ops:List Oper}{N:Nat}(hm:P.follows .mixedOrders=true)(hB:Qz ops N=true)(hN:N≤ops.length)(I:(Nat→Bool)→Act→World→Prop)
  (hext:∀S S' a w,(∀j,j<N→S j=S' j)→I S a w→I S' a w) {a:Act} {w:World} (h0:I (λ_=>false) a { w with drawn:=w.drawn+1 })
  (step:∀S i o a w,i<N→S i=false→ops[i]? =some o→(∀e∈Dj o,e<i∧S e=true)→I S a w→∀K:Act→World→Prop,(∀a' w',I (λj=>j ==i||S j) a' w'→K a' w')→
   (Region.wanted o (yielded ops.toArray a.tmps)=true→o.wp P a w K Q)∧(Region.wanted o (yielded ops.toArray a.tmps)=false→K (a.put o.dst undef) w))
  (fin:∀a w,I (λ_=>true) a w→wpList P ops.toArray Q (ops.drop N) a w):(Code.region id ops.toArray true).wp P Q a w:=by
 simp only[Qz,Agf,AgC,List.mem_range,AfY,Ag4] at hB;obtain⟨hlt,hch0⟩:=hB;have hch:∀i,N≤i→i<ops.length→∀j,j<i→((M0 ops []).getD i 0).testBit j=true:=λi h1 h2 j hj=>by
  rcases hch0 i h2 with h3 | h3
  ·omega
  ·exact h3 j hj
 refine wp_region_any hm ?_;have main:∀(fuel:Nat) (listed:Array Bool) (a:Act) (w:World),listed.size=ops.length→listed.toList.count false=fuel→I (λj=>listed.getD j true) a w→
   (∀j o,ops[j]? =some o→listed.getD j true=true→∀e∈Dj o,listed.getD e true=true)→(∀j,N≤j→j<ops.length→listed.getD j true=false)→wpAny P .any ops.toArray Q fuel listed a w:=by
  intro fuel;have allin:∀(fuel:Nat) (listed:Array Bool) (a:Act) (w:World),listed.size=ops.length→listed.toList.count false=fuel→I (λj=>listed.getD j true) a w→
   (∀j o,ops[j]? =some o→listed.getD j true=true→∀e∈Dj o,listed.getD e true=true)→(∀j,N≤j→j<ops.length→listed.getD j true=false)→(∀j,j<N→listed.getD j true=true)→wpAny P .any ops.toArray Q fuel listed a w:=by
   intro fuel listed a w hsz hc hI hcl hlast hall;have hl:∀j,j<ops.length→(listed.getD j true=true↔j<N):=λj hj=>by
    constructor
    ·intro h
     by_cases hjN:j<N
     ·exact hjN
     ·rw[hlast j (by omega) hj] at h;cases h
    ·exact hall j
   have:=UB hsz hN hl;refine NX hlt hch fuel N listed a w (by omega) (Agu _) hsz hl hcl (fin a w (hext _ _ a w (λj hj=>hall j hj) hI))
  induction fuel with
  | zero=>
   intro listed a w hsz hc hI hcl hlast;refine allin 0 listed a w hsz hc hI hcl hlast (λj hj=>?_)
   cases hb:listed.getD j true with
   | true=>rfl
   | false=>
    have:false∈listed.toList:=by
     rw[Array.getD_eq_getD_getElem?,Array.getElem?_eq_getElem (by omega)] at hb;simp at hb;rw[← hb];simp
    have:=List.count_pos_iff.2 this;omega
  | succ fuel ih=>
   intro listed a w hsz hc hI hcl hlast
   by_cases hall:∀j,j<N→listed.getD j true=true
   ·exact allin (fuel+1) listed a w hsz hc hI hcl hlast hall
   ·refine⟨λhr=>absurd (λj hj=>LX hsz hlt hr j (by omega)) hall,λi hi=>?_⟩;obtain⟨h1,h2,o,ho,hb⟩:=Mm hsz hlt hi;have hiN:i<N:=by
     by_cases h:i<N
     ·exact h
     ·refine absurd (λj hj=>?_) hall;rcases Q3 ho hb hcl j (hch i (by omega) h2 j (by omega)) with h3 | h3
      ·omega
      ·exact h3
    have K':∀a' w',I (λj=>j ==i||listed.getD j true) a' w'→wpAny P .any ops.toArray Q fuel (listed.setIfInBounds i true) a' w':=λa' w' hI'=>by
     refine ih _ a' w' (by simpa using hsz) (X8 (by omega) h1 hc) (hext _ _ a' w' (λj hj=>?_) hI') (λj o' hj hlj e he=>?_) (λj h3 h4=>?_)
     ·have:=OI (listed:=listed) (i:=i) (j:=j) (by omega)
      cases hq:(listed.setIfInBounds i true).getD j true with
      | true=>
       rw[hq] at this;rcases this.1 rfl with h | h
       ·simp[h]
       ·simp[h]
      | false=>
       rw[hq] at this;have h5 : ¬ (j=i∨listed.getD j true=true):=λh=>by have:=this.2 h;cases this
       cases hz:listed.getD j true with
       | true=>exact absurd (.inr hz) h5
       | false=>
        have:j≠i:=λh=>h5 (.inl h);simp[this]
     ·rw[OI (by omega)] at hlj ⊢;rcases hlj with rfl | hlj
      ·rw[ho] at hj;simp at hj;subst hj;exact .inr (hb e he)
      ·exact .inr (hcl j o' hj hlj e he)
     ·rw[getD_set_ne true (by omega)];exact hlast j h3 h4
    obtain⟨k1,k2⟩:=step _ i o a w hiN h1 ho (λe he=>⟨hlt i h2 e (by rw[Agh,ho];exact he),hb e he⟩) hI _ K';unfold wpOp;have hoA:ops.toArray[i]? =some o:=by simpa using ho
    simp only[hoA]
    split
    ·rename_i hw';exact .inl (k1 hw')
    ·rename_i hw';exact k2 (by simpa using hw')
 have e0:∀j,j<ops.length→(Array.replicate ops.length false).getD j true=false:=λj hj=>by simp[hj]
 have hsz0:ops.toArray.size=ops.length:=by simp
 rw[hsz0];refine main ops.length (Array.replicate ops.length false) a _ (by simp) (by simp) (hext _ _ _ _ (λj hj=>(e0 j (by omega)).symm) h0) (λj o hj hl=>?_) (λj _ h2=>e0 j h2);rw[e0 j (List.getElem?_eq_some_iff.1 hj).1] at hl;cases hl
end
structure Sa where
 deps:List Nat
 r:Rp
 al:Option (List Rp×TypeId):=none
 late:Option (Nat×List Rp):=none
 sto:Option Nat:=none
def HN (sp:List Sa)(i:Nat):Sa:=sp.getD i { deps:=[],r:=rv undef }
def spq (sp:List Sa):List Sp:=sp.map λs=>⟨s.deps,s.r,0⟩
def N2 (β:Nat→Nat)(s:Sa)(i:Nat):Rp:=match s.al with
 | none=>s.r
 | some _=>rv (.pointer (some ⟨β i,0,none⟩))
def NN (S:Nat→Bool)(late:Option (Nat×List Rp))(cs:List Rp):List Rp:=match late with
 | none=>cs
 | some q=>if S q.1 then q.2 else cs
def HS (S:Nat→Bool)(β:Nat→Nat):List Sa→Nat→List Ent
 | [],_=>[]
 | s::r,t=>match s.al with
  | some p=>if S t then .blk (β t) (NN S s.late p.1) p.2::HS S β r (t+1) else HS S β r (t+1)
  | none=>HS S β r (t+1)
def Y6 (β:Nat→Nat):List Sa→Nat→List Ent
 | [],_=>[]
 | s::r,t=>match s.al with
  | some p=>.blk (β t) (match s.late with | none=>p.1 | some q=>q.2) p.2::Y6 β r (t+1)
  | none=>Y6 β r (t+1)
def M6 (β:Nat→Nat):List Oper→List Sa→Nat→Fr→Fr
 | o::os,s::sp,i,l=>match o.dst with
  | some d=>(d,N2 β s i)::M6 β os sp (i+1) l
  | none=>M6 β os sp (i+1) l
 | _,_,_,l=>l
theorem Mz {S S':Nat→Bool}{late:Option (Nat×List Rp)}{cs:List Rp}(h:∀q,late=some q→S q.1=S' q.1):NN S late cs=NN S' late cs:=by
 unfold NN
 cases late with
 | none=>rfl
 | some q=>simp only[];rw[h q rfl]
theorem GA (S:Nat→Bool)(β:Nat→Nat)(s:Sa)(r:List Sa)(t:Nat):HS S β (s::r) t=match s.al with
  | some p=>if S t then .blk (β t) (NN S s.late p.1) p.2::HS S β r (t+1) else HS S β r (t+1)
  | none=>HS S β r (t+1):=rfl
theorem I0 {S S':Nat→Bool}{β β':Nat→Nat}:∀(r:List Sa) (t0:Nat),(∀(t:Nat) (s:Sa),r[t]? =some s→s.al≠none→S (t0+t)=S' (t0+t)∧(S (t0+t)=true→β (t0+t)=β' (t0+t)∧∀q,s.late=some q→S q.1=S' q.1))→HS S β r t0=HS S' β' r t0
 | [],_,_=>rfl
 | s::r,t0,h=>by
  have ih:=I0 r (t0+1) (λt s hs hn=>by
   have:=h (t+1) s (by simpa using hs) hn;rw[show t0+1+t=t0+(t+1) from by omega];exact this)
  unfold HS;rw[ih]
  cases ha:s.al with
  | none=>rfl
  | some p=>
   obtain⟨h1,h2⟩:=h 0 s rfl (by rw[ha];exact nofun);simp only[Nat.add_zero] at h1 h2;simp only[];rw[← h1]
   split
   ·rename_i hS;rw[(h2 hS).1,Mz (h2 hS).2]
   ·rfl
theorem U6 (β:Nat→Nat):∀(r:List Sa) (t0:Nat),HS (λ_=>true) β r t0=Y6 β r t0
 | [],_=>rfl
 | s::r,t0=>by
  unfold HS Y6;rw[U6 β r (t0+1)]
  cases s.al with
  | none=>rfl
  | some p=>cases hl:s.late<;>simp[NN,hl]
theorem RW (β:Nat→Nat):∀(r:List Sa) (t0:Nat),HS (λ_=>false) β r t0=[]
 | [],_=>rfl
 | s::r,t0=>by
  unfold HS;rw[RW β r (t0+1)]
  cases s.al<;>simp
theorem U5 {S:Nat→Bool}{β:Nat→Nat}{i b:Nat}{p:List Rp×TypeId}:∀(r:List Sa) (t0 k:Nat) (s:Sa),i=t0+k→r[k]? =some s→s.al=some p→S i=false→(∀(t:Nat) (s:Sa) (q:Nat×List Rp),r[t]? =some s→s.al≠none→s.late=some q→q.1≠i)→(∀q,s.late=some q→S q.1=false∧q.1≠i)→
  (HS (λj=>j ==i||S j) (λj=>if j=i then b else β j) r t0).Perm (.blk b p.1 p.2::HS S β r t0)
 | [],_,_,_,_,h,_,_,_,_=>by simp at h
 | s'::r,t0,0,s,hi,h,ha,hS,hne,hl=>by
  simp at h hi;subst h;subst hi;have e:=I0 (S:=λj=>j ==i||S j) (S':=S) (β:=λj=>if j=i then b else β j) (β':=β) r (i+1) (λt s hs hn=>by
   have:i+1+t≠i:=by omega
   refine⟨by simp[this],λ_=>⟨by simp[this],λq hq=>?_⟩⟩;have:=hne (t+1) s q (by simpa using hs) hn hq;simp[this])
  have ec:NN (λj=>j ==i||S j) s'.late p.1=p.1:=by
   unfold NN
   cases hq:s'.late with
   | none=>rfl
   | some q=>
    obtain⟨h1,h2⟩:=hl q hq;simp[h1,h2]
  unfold HS;rw[e,ha];simp only[hS,BEq.rfl,AgB,AgU,ec];simp
 | s'::r,t0,k+1,s,hi,h,ha,hS,hne,hl=>by
  have ih:=U5 (S:=S) (β:=β) (i:=i) (b:=b) (p:=p) r (t0+1) k s (by omega) (by simpa using h) ha hS (λt s q hs=>hne (t+1) s q (by simpa using hs)) hl;have hne0:t0≠i:=by omega
  have hne':(t0 ==i)=false:=by simpa using hne0
  unfold HS
  cases ha':s'.al with
  | none=>exact ih
  | some q=>
   simp only[hne',Ags,AgF hne0];rw[Mz (S:=λj=>j ==i||S j) (S':=S) (λq hq=>by
    have:=hne 0 s' q rfl (by rw[ha'];exact nofun) hq;simp[this])]
   cases hS':S t0 with
   | true=>simpa using(Agk _ ih).trans (List.Perm.swap _ _ _)
   | false=>simpa using ih
theorem U4 {S:Nat→Bool}{β:Nat→Nat}{i j:Nat}{p:List Rp×TypeId}{ncs:List Rp}:∀(r:List Sa) (t0 k:Nat) (s:Sa),j=t0+k→r[k]? =some s→s.al=some p→s.late=some (i,ncs)→S j=true→S i=false→(∀(t:Nat) (s:Sa) (q:Nat×List Rp),r[t]? =some s→s.al≠none→s.late=some q→t0+t≠j→q.1≠i)→(∀(t:Nat) (s:Sa),r[t]? =some s→s.al≠none→t0+t≠i)→
  ∃H',(HS S β r t0).Perm (.blk (β j) p.1 p.2::H')∧(HS (λj=>j ==i||S j) β r t0).Perm (.blk (β j) ncs p.2::H')
 | [],_,_,_,_,h,_,_,_,_,_,_=>by simp at h
 | s'::r,t0,0,s,hj,h,ha,hl,hSj,hSi,hne,hni=>by
  simp at h hj;subst h;subst hj;have e:=I0 (S:=λx=>x ==i||S x) (S':=S) (β:=β) (β':=β) r (j+1) (λt s hs hn=>by
   have h1:=hni (t+1) s (by simpa using hs) hn;have h1':j+1+t≠i:=by omega
   refine⟨by simp[h1'],λ_=>⟨rfl,λq hq=>?_⟩⟩;have:=hne (t+1) s q (by simpa using hs) hn hq (by omega);simp[this])
  refine⟨HS S β r (j+1),?_,?_⟩
  ·rw[GA];rw[ha];simp[hSj,NN,hl,hSi]
  ·rw[GA];rw[ha,e];simp[hSj,NN,hl]
 | s'::r,t0,k+1,s,hj,h,ha,hl,hSj,hSi,hne,hni=>by
  obtain⟨H',h1,h2⟩:=U4 (S:=S) (β:=β) (i:=i) (j:=j) (p:=p) (ncs:=ncs) r (t0+1) k s (by omega) (by simpa using h) ha hl hSj hSi (λt s q hs hn hq hx=>hne (t+1) s q (by simpa using hs) hn hq (by omega)) (λt s hs hn=>by
   have:=hni (t+1) s (by simpa using hs) hn;omega)
  cases ha':s'.al with
  | none=>exact⟨H',by rw[GA,ha'];exact h1,by rw[GA,ha'];exact h2⟩
  | some q=>
   have hi0:=hni 0 s' rfl (by rw[ha'];exact nofun);have hi0':(t0 ==i)=false:=by simpa using hi0
   have ec:NN (λx=>x ==i||S x) s'.late q.1=NN S s'.late q.1:=Mz (λq hq=>by
    have:=hne 0 s' q rfl (by rw[ha'];exact nofun) hq (by omega);simp[this])
   cases hS':S t0 with
   | true=>
    refine⟨.blk (β t0) (NN S s'.late q.1) q.2::H',?_,?_⟩
    ·rw[GA];rw[ha'];simpa[hS'] using(Agk _ h1).trans (List.Perm.swap _ _ _)
    ·rw[GA];rw[ha'];simp only[hi0',Ags,hS',AgU,ec];exact(Agk _ h2).trans (List.Perm.swap _ _ _)
   | false=>
    refine⟨H',?_,?_⟩
    ·rw[GA];rw[ha'];simpa[hS'] using h1
    ·rw[GA];rw[ha'];simp only[hi0',Ags,hS'];simpa using h2
def okA (n:Nat)(ops:List Oper)(N:Nat)(keys:List Nat)(deps:List (List Nat))(als:List Bool)(lates stos:List (Option Nat)):Bool:=
 Qz ops N&&decide (N≤ops.length)&&
 (List.range N).all (λi=>match Cw ops i with
  | some d=>decide (d<n)&&!keys.contains d&&(List.range N).all (λj=>j ==i||Cw ops j !=some d)
  | none=>true)&&
 (List.range N).all (λi=>(deps.getD i []).all (λj=>decide (j<N)&&(Dj (ops.getD i default)).contains j&&!als.getD j true))&&
 (List.range N).all (λi=>match stos.getD i none with
  | some j=>decide (j<N)&&(Dj (ops.getD i default)).contains j&&als.getD j false&&!als.getD i true
  | none=>true)&&
 (List.range N).all (λj=>match lates.getD j none with
  | some k=>decide (k<N)&&als.getD j false&&stos.getD k none ==some j
  | none=>true)
def AfQ (P:Program)(n:Nat)(c:Cx)(opsA:Array Oper)(Q:Exit→Act→World→Prop)(l:Fr)(o:Oper)(p:List Rp×TypeId):Prop:=
 ∀H a w Z (K:Act→World→Prop),Dq n l a Z→St c H Z w→(∀b w',St c (.blk b p.1 p.2::H) Z w'→K (a.put o.dst (.pointer (some ⟨b,0,none⟩))) w')→
  Region.wanted o (yielded opsA a.tmps)=true∧o.wp P a w K Q
def ObA (P:Program)(n:Nat)(c:Cx)(opsA:Array Oper)(Q:Exit→Act→World→Prop)(ops:List Oper)(sp:List Sa)(l0:Fr)(H:List Ent)(i:Nat)(o:Oper):Prop:=
 match (HN sp i).sto with
 | some j=>o.dst=none∧∃d p ncs,Cw ops j=some d∧(HN sp j).al=some p∧(HN sp j).late=some (i,ncs)∧
   ∀b H,DL P n c opsA Q ((d,rv (.pointer (some ⟨b,0,none⟩)))::Cn ops (spq sp) (HN sp i).deps l0) (.blk b p.1 p.2::H) o (rv undef) (.blk b ncs p.2::H)
 | none=>match (HN sp i).al with
  | none=>∀E,DL P n c opsA Q (Cn ops (spq sp) (HN sp i).deps l0) (H++E) o (HN sp i).r (H++E)
  | some p=>AfQ P n c opsA Q (Cn ops (spq sp) (HN sp i).deps l0) o p
def NU (P:Program)(n:Nat)(c:Cx)(opsA:Array Oper)(Q:Exit→Act→World→Prop)(ops:List Oper)(sp:List Sa)(l0:Fr)(H:List Ent):Nat→List Oper→Prop
 | i,o::rest=>ObA P n c opsA Q ops sp l0 H i o∧NU P n c opsA Q ops sp l0 H (i+1) rest
 | _,[]=>True
section
variable {P : Program} {n : Nat} {c : Cx} {opsA : Array Oper} {Q : Exit → Act → World → Prop} {l l0 : Fr} {H : List Ent} {sp : List Sa}
theorem NU.at {ops:List Oper}:∀{k:Nat} {rest:List Oper},NU P n c opsA Q ops sp l0 H k rest→∀(t:Nat) o,rest[t]? =some o→ObA P n c opsA Q ops sp l0 H (k+t) o
 | k,o::rest,⟨h1,h2⟩,t,o',ht=>by
  cases t with
  | zero=>simp at ht;subst ht;exact h1
  | succ t=>
   have:=NU.at h2 t o' (by simpa using ht);rw[show k+(t+1)=k+1+t from by omega];exact this
 | _,[],_,t,o,h=>by simp at h
theorem Pa {β:Nat→Nat}{a:Act}{Z:Fz}(h0:Dq n l0 a Z):∀(os:List Oper) (ss:List Sa) (k:Nat),(∀(t:Nat) o s d,os[t]? =some o→ss[t]? =some s→o.dst=some d→∃v,a.tmps[d]? =some v∧(N2 β s (k+t)).p Z v)→Dq n (M6 β os ss k l0) a Z
 | [],_,_,_=>by unfold M6;exact h0
 | _::_,[],_,_=>by unfold M6;exact h0
 | o::os,s::ss,k,h=>by
  have ih:=Pa h0 os ss (k+1) (λt o' s' d h1 h2 h3=>by
   have:=h (t+1) o' s' d (by simpa using h1) (by simpa using h2) h3;rw[show k+1+t=k+(t+1) from by omega];exact this)
  unfold M6
  cases hd:o.dst with
  | none=>exact ih
  | some d=>
   refine⟨ih.size,ih.defers,λi r hi=>?_⟩;rw[CN] at hi
   split at hi
   ·rename_i e;subst e;simp at hi;subst hi;exact h 0 o s d rfl rfl hd
   ·exact ih.tm i r hi
theorem Ad5 {id:Nat}{ops:List Oper}(N:Nat)(sp:List Sa)(hm:P.follows .mixedOrders=true)(hB:okA n ops N (E2 l0) (sp.map (·.deps)) (sp.map (·.al.isSome)) (sp.map (·.late.map (·.1))) (sp.map (·.sto))=true)(hl0:UN l0 l)(hsp:sp.length=N)
  (hob:NU P n c ops.toArray Q ops sp l0 H 0 (ops.take N)) (h:∀β,WL P n c ops.toArray Q (ops.drop N) (M6 β (ops.take N) sp 0 l0) (H++Y6 β sp 0)):WC P n c (.region id ops.toArray true) Q l H:=by
 intro a w Z ha hw;simp only[okA,Agf,AgC,List.mem_range,AfY] at hB;obtain⟨⟨⟨⟨⟨b1,bN⟩,b2⟩,b3⟩,b4⟩,b5⟩:=hB;have hget:∀i,i<N→(ops.take N)[i]? =ops[i]?:=λi hi=>by rw[AgI,AgT hi]
 have hsa:∀i,i<N→sp[i]? =some (HN sp i):=λi hi=>by
  simp[HN,Agh,Agi (show i<sp.length by omega)]
 have hspq:∀i,i<N→(El (spq sp) i)=⟨(HN sp i).deps,(HN sp i).r,0⟩:=λi hi=>by
  simp[El,spq,Agh,Ag6,hsa i hi]
 have hals:∀j b,j<N→(sp.map (·.al.isSome)).getD j b=(HN sp j).al.isSome:=λj b hj=>by simp[Agh,Ag6,hsa j hj]
 have hstos:∀j,j<N→(sp.map (·.sto)).getD j none=(HN sp j).sto:=λj hj=>by simp[Agh,Ag6,hsa j hj]
 have hlates:∀j,j<N→(sp.map (·.late.map (·.1))).getD j none=(HN sp j).late.map (·.1):=λj hj=>by simp[Agh,Ag6,hsa j hj]
 have S1:∀i o j,i<N→ops[i]? =some o→(HN sp i).sto=some j→j<N∧j∈Dj o∧(HN sp j).al≠none∧(HN sp i).al=none:=λi o j hi ho hs=>by
  have h1:=b4 i hi;rw[hstos i hi,hs] at h1;simp only[Agf,Agy,AfY] at h1;obtain⟨⟨⟨h2,h3⟩,h4⟩,h5⟩:=h1;rw[hals j _ h2] at h4;rw[hals i _ hi] at h5;rw[Agh,ho,Ag5,List.contains_iff_mem] at h3;exact⟨h2,h3,λe=>(by rw[e] at h4;cases h4),(by simpa using h5)⟩
 have L1:∀t q,t<N→(HN sp t).late=some q→q.1<N∧(HN sp q.1).sto=some t:=λt q ht hq=>by
  have h1:=b5 t ht;rw[hlates t ht,hq] at h1;simp only[Option.map_some,Agf,AfY,beq_iff_eq] at h1;obtain⟨⟨h2,h3⟩,h4⟩:=h1;rw[hstos _ h2] at h4;exact⟨h2,h4⟩
 have hops:∀j,j<N→∃o,ops[j]? =some o:=λj hj=>⟨ops[j]'(by omega),Agi (by omega)⟩
 have lt_of:∀(t:Nat) (s:Sa),sp[t]? =some s→t<N∧s=HN sp t:=λt s hs=>by
  have h1:t<N:=by have:=(List.getElem?_eq_some_iff.1 hs).1;omega
  refine⟨h1,?_⟩;rw[hsa t h1] at hs;simpa using hs.symm
 have hdst:∀i o d,i<N→ops[i]? =some o→o.dst=some d→(d<n∧d ∉ E2 l0)∧∀j,j<N→j≠i→Cw ops j≠some d:=λi o d hi ho hd=>by
  have h3:=b2 i hi;have:Cw ops i=some d:=by simp[Cw,ho,hd]
  rw[this] at h3;simp only[Agf,Agy,AgC,List.mem_range,AfY] at h3;refine⟨⟨h3.1.1,λhmem=>by rw[← List.contains_iff_mem] at hmem;rw[hmem] at h3;cases h3.1.2⟩,λj hj hne he=>?_⟩;have:=h3.2 j hj;simp[hne,he] at this
 refine UX (N:=N) hm b1 bN (λS a w=>∃ (β:Nat→Nat) (Z:Fz),St c (H++HS S β sp 0) Z w∧Dq n l0 a Z∧(∀j o d,j<N→S j=true→ops[j]? =some o→o.dst=some d→∃v,a.tmps[d]? =some v∧(N2 β (HN sp j) j).p Z v)∧
   ∀k j,k<N→(HN sp k).sto=some j→S k=true→S j=true)
  (λS S' a w hS hI=>?_) ⟨λ_=>0,Z,?_,ha.subL hl0,λj o d _ hS=>(by cases hS),λk j _ _ hS=>(by cases hS)⟩ (λS i o a w hi hun ho hb hI K hK=>?_) (λa w hI=>?_)
 ·obtain⟨β,Z,h1,h2,h3,h4⟩:=hI;refine⟨β,Z,?_,h2,λj o d hj hS'=>h3 j o d hj (by rw[hS j hj];exact hS'),λk j hk hs hSk=>?_⟩
  ·rw[← I0 (S:=S) (β:=β) (β':=β) sp 0 (λt s hs _=>by
    obtain⟨ht,rfl⟩:=lt_of t s hs;exact⟨hS _ (by omega),λ_=>⟨rfl,λq hq=>hS _ (L1 t q ht hq).1⟩⟩)]
   exact h1
  ·obtain⟨o,ho⟩:=hops k hk;rw[← hS j (S1 k o j hk ho hs).1];exact h4 k j hk hs (by rw[hS k hk];exact hSk)
 ·rw[RW,AgP];exact hw.drawn _
 ·obtain⟨β,Z,h1,h2,h3,hx⟩:=hI;have hput:∀k u v,a.tmps[k]? =some u→o.dst≠some k→(a.put o.dst v).tmps[k]? =some u:=λk u v hk hne=>by
   cases hd:o.dst with
   | none=>simpa[Act.put] using hk
   | some d=>
    simp only[Act.put,Array.getElem?_setIfInBounds];rw[AgF (λe=>hne (by rw[hd,e]))];exact hk
  have hagr:∀v Z',Fz.le Z Z'→Dq n l0 (a.put o.dst v) Z':=λv Z' hz=>by
   refine⟨?_,?_,λk r hk=>?_⟩
   ·cases o.dst<;>simp[Act.put,h2.size]
   ·cases o.dst<;>simp[Act.put,h2.defers]
   ·obtain⟨u,hu,hpu⟩:=h2.tm k r hk;exact⟨u,hput k u v hu (λe=>((hdst i o k hi ho e).1).2 (KL hk)),r.mono hz hpu⟩
  have hvals:∀(v:Value) (Z':Fz) (β':Nat→Nat),Fz.le Z Z'→(∀j,j≠i→β' j=β j)→(o.dst≠none→(N2 β' (HN sp i) i).p Z' v)→∀j o' d,j<N→(j ==i||S j)=true→ops[j]? =some o'→o'.dst=some d→∃u,(a.put o.dst v).tmps[d]? =some u∧(N2 β' (HN sp j) j).p Z' u:=by
   intro v Z' β' hz hβ hp j o' d hj hS' ho' hd
   by_cases hji:j=i
   ·subst hji;rw[ho] at ho';simp at ho';subst ho';refine⟨v,?_,hp (by simp[hd])⟩;have hdn:d<a.tmps.size:=by rw[h2.size];exact(hdst j o d hi ho hd).1.1
    simp[Act.put,hd,hdn]
   ·have hSj:S j=true:=by simpa[hji] using hS'
    obtain⟨u,hu,hpu⟩:=h3 j o' d hj hSj ho' hd;refine⟨u,hput d u v hu (λe=>(hdst i o d hi ho e).2 j hj hji (by simp[Cw,ho',hd])),?_⟩;have:N2 β' (HN sp j) j=N2 β (HN sp j) j:=by unfold N2;rw[hβ j hji]
    rw[this];exact(N2 β (HN sp j) j).mono hz hpu
  have hx':∀k j,k<N→(HN sp k).sto=some j→(k ==i||S k)=true→(j ==i||S j)=true:=λk j hk hs hSk=>by
   by_cases hki:k=i
   ·subst hki;have:=(hb j (S1 k o j hk ho hs).2.1).2;simp[this]
   ·have:S j=true:=hx k j hk hs (by simpa[hki] using hSk);simp[this]
  have hat:=hob.at i o (by rw[hget i hi];exact ho);rw[AgH] at hat;unfold ObA at hat;have hag':Dq n (Cn ops (spq sp) (HN sp i).deps l0) a Z:=LE h2 (λj hj d hd=>by
    have h4:=b3 i hi j (by simpa[Agh,Ag6,hsa i hi] using hj);simp only[Agf,Agy,AfY] at h4;obtain⟨⟨h5,h6⟩,h7⟩:=h4;rw[Agh,ho,Ag5,List.contains_iff_mem] at h6;have hjal:(HN sp j).al=none:=by
     rw[hals j _ h5] at h7;simpa using h7
    obtain⟨o2,ho2⟩:=hops j h5;obtain⟨v,hv1,hv2⟩:=h3 j o2 d h5 (hb j h6).2 ho2 (by simpa[Cw,ho2] using hd);refine⟨v,hv1,?_⟩;rw[hspq j h5];simpa[N2,hjal] using hv2)
  cases hst:(HN sp i).sto with
  | some j=>
   rw[hst] at hat;obtain⟨hod,d,p,ncs,hd,hal,hlate,hok⟩:=hat;obtain⟨hjN,hjb,_,hial⟩:=S1 i o j hi ho hst;have hSj:=(hb j hjb).2;obtain⟨H',p1,p2⟩:=U4 (S:=S) (β:=β) (i:=i) (j:=j) (p:=p) (ncs:=ncs) sp 0 j (HN sp j) (by omega) (hsa j hjN) hal hlate hSj hun (λt s q hs _ hq hne he=>by
     obtain⟨ht,rfl⟩:=lt_of t s hs;have:=(L1 t q ht hq).2;rw[he,hst] at this;simp at this;omega) (λt s hs hn he=>by
     obtain⟨ht,rfl⟩:=lt_of t s hs;rw[AgH] at he;subst he;exact hn hial)
   obtain⟨o2,ho2⟩:=hops j hjN;obtain⟨v,hv1,hv2⟩:=h3 j o2 d hjN hSj ho2 (by simpa[Cw,ho2] using hd);have hag2:Dq n ((d,rv (.pointer (some ⟨β j,0,none⟩)))::Cn ops (spq sp) (HN sp i).deps l0) a Z:=⟨hag'.size,hag'.defers,λk r hk=>by
    rw[CN] at hk
    split at hk
    ·rename_i e;subst e;simp at hk;subst hk
     exact⟨v,hv1,by simpa[N2,hal] using hv2⟩
    ·exact hag'.tm k r hk⟩
   refine hok (β j) (H++H') a w Z K hag2 (h1.perm ((List.Perm.append_left H p1).trans List.perm_middle)) (λv w' Z' hz _ hs'=>hK _ _ ⟨β,Z',?_,hagr v Z' hz,hvals v Z' β hz (λ_ _=>rfl) (λhne=>absurd hod hne),hx'⟩);exact hs'.perm (List.perm_middle.symm.trans (List.Perm.append_left H p2.symm))
  | none=>
   rw[hst] at hat;have latene:∀t q,t<N→(HN sp t).late=some q→q.1≠i:=λt q ht hq he=>by
    have:=(L1 t q ht hq).2;rw[he,hst] at this;cases this
   cases hal:(HN sp i).al with
   | none=>
    rw[hal] at hat;refine hat _ a w Z K hag' h1 (λv w' Z' hz hp hst'=>hK _ _ ⟨β,Z',?_,hagr v Z' hz,hvals v Z' β hz (λ_ _=>rfl) (λ_=>by unfold N2;rw[hal];exact hp),hx'⟩);rw[I0 (S':=S) (β':=β) sp 0 (λt s hs hn=>by
     obtain⟨ht,rfl⟩:=lt_of t s hs;have:t≠i:=λe=>by subst e;exact hn hal
     refine⟨by simp[this],λ_=>⟨rfl,λq hq=>?_⟩⟩;have:=latene t q ht hq;simp[this])]
    exact hst'
   | some p=>
    rw[hal] at hat;have key:=λK' hK'=>hat (H++HS S β sp 0) a w Z K' hag' h1 hK';have h5:∀b w',St c (.blk b p.1 p.2::(H++HS S β sp 0)) Z w'→K (a.put o.dst (.pointer (some ⟨b,0,none⟩))) w':=λb w' hst'=>by
     refine hK _ _ ⟨λj=>if j=i then b else β j,Z,?_,hagr _ Z (Fz.le.refl _),hvals _ Z _ (Fz.le.refl _) (λj hj=>by simp[hj]) (λ_=>by simp[N2,hal,rv]),hx'⟩;have hp:=U5 (S:=S) (β:=β) (i:=i) (b:=b) (p:=p) sp 0 i (HN sp i) (by omega) (hsa i hi) hal hun (λt s q hs _ hq=>by
      obtain⟨ht,rfl⟩:=lt_of t s hs;exact latene t q ht hq) (λq hq=>by
       refine⟨?_,latene i q hi hq⟩
       cases hS:S q.1 with
       | false=>rfl
       | true=>
        obtain⟨h6,h7⟩:=L1 i q hi hq;have:=hx q.1 i h6 h7 hS;rw[this] at hun;cases hun)
     exact hst'.perm ((List.perm_middle.symm).trans (List.Perm.append_left H hp.symm))
    refine⟨λ_=>(key K h5).2,λhw'=>?_⟩;rw[(key K h5).1] at hw';cases hw'
 ·obtain⟨β,Z,h1,h2,h3,_⟩:=hI;refine h β a w Z (Pa h2 _ _ 0 (λt o s d ht hs hd=>?_)) (by rw[← U6];exact h1);obtain⟨htN,rfl⟩:=lt_of t s hs;rw[AgH];exact h3 t o d htN rfl (by rw[← hget t htN];exact ht) hd
end
section
variable {P : Program} {n : Nat} {c : Cx} {opsA : Array Oper} {Q : Exit → Act → World → Prop} {l l0 : Fr} {H : List Ent} {sp : List Sa}
theorem D3 {id:Nat}{ops:List Oper}(N:Nat)(ks0:List Nat)(sp:List Sa)(hob:NU P n c ops.toArray Q ops sp l0 H 0 (ops.take N))(h:∀β,WL P n c ops.toArray Q (ops.drop N) (M6 β (ops.take N) sp 0 l0) (H++Y6 β sp 0))
  (h0:Kp ks0 l l0:=by repeat (first | exact OB | (apply Mt;rfl) | (apply Nd;rfl))) (hm:P.follows .mixedOrders=true:=by kernel_rfl) (hB:okA n ops N (E2 l0) (sp.map (·.deps)) (sp.map (·.al.isSome)) (sp.map (·.late.map (·.1))) (sp.map (·.sto))=true:=by kernel_rfl)
  (hsp:sp.length=N:=by rfl):WC P n c (.region id ops.toArray true) Q l H:=Ad5 N sp hm hB h0.one hsp hob h
theorem Dx {all rest:List Oper}{d:Nat}{op:Op}{ty:TypeId}{pos:String}{af:Array Edge}{i:Nat}
  (hr:∀{H},B1 P n c (Cn all (spq sp) (HN sp i).deps l0) H { dst:=some d,op:=op,type:=ty,pos:=pos,after:=af,guard:=none } (HN sp i).r) (h:NU P n c opsA Q all sp l0 H (i+1) rest) (ha:(HN sp i).al=none:=by rfl) (hs:(HN sp i).sto=none:=by rfl) :
  NU P n c opsA Q all sp l0 H i ({ dst:=some d,op:=op,type:=ty,pos:=pos,after:=af,guard:=none }::rest):=by
 refine⟨?_,h⟩;unfold ObA;rw[hs,ha];exact λ_=>Bg hr
theorem Ik {all rest:List Oper}{d:Nat}{op:Op}{ty:TypeId}{pos:String}{af:Array Edge}{i:Nat}
  (hr:∀{E},B1 P n c (Cn all (spq sp) (HN sp i).deps l0) (H++E) { dst:=some d,op:=op,type:=ty,pos:=pos,after:=af,guard:=none } (HN sp i).r) (h:NU P n c opsA Q all sp l0 H (i+1) rest) (ha:(HN sp i).al=none:=by rfl) (hs:(HN sp i).sto=none:=by rfl) :
  NU P n c opsA Q all sp l0 H i ({ dst:=some d,op:=op,type:=ty,pos:=pos,after:=af,guard:=none }::rest):=by
 refine⟨?_,h⟩;unfold ObA;rw[hs,ha];exact λ_=>Bg hr
theorem Tg {all:List Oper}{i:Nat}:NU P n c opsA Q all sp l0 H i []:=trivial
end
structure Kza (ks:List Nat) (β:Nat→Nat) (os:List Oper) (sp:List Sa) (i:Nat) (l0 l1:Fr):Prop where
 go:Kp ks (M6 β os sp i l0) l1
section
variable {ks : List Nat} {β : Nat → Nat} {os : List Oper} {sp : List Sa} {i d : Nat} {l0 l1 : Fr} {ds : List Nat} {r : Rp} {p : List Rp × TypeId} {lt : Option (Nat × List Rp)} {so : Option Nat} {op : Op} {ty : TypeId} {pos : String} {af : Array Edge} {g : Option (Nat × Bool)}
theorem AeT (h:ks.contains d=true)(t:Kza ks β os sp (i+1) l0 l1):Kza ks β ({ dst:=some d,op:=op,type:=ty,pos:=pos,after:=af,guard:=g }::os) ({ deps:=ds,r:=r,sto:=so }::sp) i l0 ((d,r)::l1):=⟨Mt h t.go⟩
theorem AeW (h:ks.contains d=true)(t:Kza ks β os sp (i+1) l0 l1):Kza ks β ({ dst:=some d,op:=op,type:=ty,pos:=pos,after:=af,guard:=g }::os) ({ deps:=ds,r:=r,al:=some p,late:=lt,sto:=so }::sp) i l0 ((d,rv (.pointer (some ⟨β i,0,none⟩)))::l1):=⟨Mt h t.go⟩
theorem AeV {s:Sa}(h:ks.contains d=false)(t:Kza ks β os sp (i+1) l0 l1):Kza ks β ({ dst:=some d,op:=op,type:=ty,pos:=pos,after:=af,guard:=g }::os) (s::sp) i l0 l1:=⟨Nd h t.go⟩
theorem AeU {s:Sa}(t:Kza ks β os sp (i+1) l0 l1):Kza ks β ({ dst:=none,op:=op,type:=ty,pos:=pos,after:=af,guard:=g }::os) (s::sp) i l0 l1:=⟨t.go⟩
theorem AeX (t:Kp ks l0 l1):Kza ks β [] [] i l0 l1:=⟨t⟩
theorem Cr {P:Program}{n:Nat}{c:Cx}{opsA:Array Oper}{Q:Exit→Act→World→Prop}{rest:List Oper}{H H1:List Ent}(ks:List Nat)(h:WL P n c opsA Q rest l1 H1)
  (hz:Kza ks β os sp i l0 l1:=by repeat (first | (apply AeT;rfl) | (apply AeW;rfl) | (apply AeV;rfl) | apply AeU | apply AeX | exact OB | (apply Mt;rfl) | (apply Nd;rfl))) (hH:H=H1:=by rfl) :
  WL P n c opsA Q rest (M6 β os sp i l0) H:=λa w Z ha hw=>h a w Z (ha.subL hz.go.one) (hH▸hw)
end
section
variable {P : Program} {n : Nat} {c : Cx} {opsA : Array Oper} {Q : Exit → Act → World → Prop} {l l0 : Fr} {H : List Ent} {sp : List Sa}
theorem O7 {all rest:List Oper}{o:Oper}{i:Nat}(hr:∀{E},DL P n c opsA Q (Cn all (spq sp) (HN sp i).deps l0) (H++E) o (HN sp i).r (H++E))(h:NU P n c opsA Q all sp l0 H (i+1) rest)(ha:(HN sp i).al=none:=by rfl)(hs:(HN sp i).sto=none:=by rfl):NU P n c opsA Q all sp l0 H i (o::rest):=by
 refine⟨?_,h⟩;unfold ObA;rw[hs,ha];exact λ_=>hr
end
section
variable {P : Program} {n : Nat} {c : Cx} {opsA : Array Oper} {Q : Exit → Act → World → Prop} {l : Fr} {H : List Ent} {d : Nat} {ty : TypeId} {pos : String} {af : Array Edge}
theorem Aac {f:FuncId}{args:List Operand}{ats:Array TypeId}{rs:List Rp}{r:Rp}{Hin Hout Hr:List Ent}(hcall:∀(as1:Array Value) (w:World),(callFunc f as1).run P w = .ok (.enter f as1) w)(hv:OC l args=some rs)
  (hp:H.Perm (Hin++Hr)) (hc:Fn P c.E f rs Hin (λr' H'=>r'=r∧H'=Hout)) {H':List Ent} (hH:Hout++Hr=H'):DL P n c opsA Q l H { dst:=some d,op:=.call { callee:=.value (.func f),args:=args.toArray,argTypes:=ats },type:=ty,pos:=pos,after:=af,guard:=none } r H':=λa w Z K ha hw hK=>
 ⟨λ_=>by
  subst hH;unfold Oper.wp;rw[Gf rfl hcall w];refine(hc w Z _ (IM ha hv) (hw.perm hp).enter).mono ?_;rintro e w' ⟨r2,v,Ho,Z',rfl,⟨rfl,rfl⟩,hr2,hs⟩;exact hK v w' Z' hs.le hr2 ((hw.perm hp).call hs),λh=>by simp[Region.wanted] at h⟩
theorem D0 {f:FuncId}{args:List Operand}{ats:Array TypeId}{rs:List Rp}{r:Rp}{Hin Hr:List Ent}(hcall:∀(as1:Array Value) (w:World),(callFunc f as1).run P w = .ok (.enter f as1) w)(hv:OC l args=some rs)
  (hp:H.Perm (Hin++Hr)) (hc:Fn P c.E f rs Hin (λr' H'=>r'=r∧H'=Hin)):DL P n c opsA Q l H { dst:=some d,op:=.call { callee:=.value (.func f),args:=args.toArray,argTypes:=ats },type:=ty,pos:=pos,after:=af,guard:=none } r H:=λa w Z K ha hw hK=>
 Aac (Hout:=Hin) hcall hv hp hc rfl a w Z K ha hw (λv w' Z' hz hr hs=>hK v w' Z' hz hr (hs.perm hp.symm))
theorem XM {f:FuncId}{args:List Operand}{ats:Array TypeId}{rs:List Rp}{r:Rp}{Hin Hr E:List Ent}(hcall:∀(as1:Array Value) (w:World),(callFunc f as1).run P w = .ok (.enter f as1) w)(hv:OC l args=some rs)
  (hp:H.Perm (Hin++Hr)) (hc:Fn P c.E f rs Hin (λr' H'=>r'=r∧H'=Hin)):DL P n c opsA Q l (H++E) { dst:=some d,op:=.call { callee:=.value (.func f),args:=args.toArray,argTypes:=ats },type:=ty,pos:=pos,after:=af,guard:=none } r (H++E):=
 D0 (Hin:=Hin) (Hr:=Hr++E) hcall hv (by rw[← Ag8];exact hp.append_right E) hc
end
section
variable {P : Program} {n : Nat} {c : Cx} {ops : Array Oper} {Q : Exit → Act → World → Prop} {rest : List Oper} {l : Fr} {H H' : List Ent} {d : Nat} {d' : Option Nat} {x y z3 : Operand} {ty t t' e : TypeId} {pos : String} {af : Array Edge} {g : Option (Nat × Bool)} {v u : Value} {r : Rp} {sz : Nat}
end
def rBx (p:Bool→Prop):Rp:=⟨λ_ v=>∃b,v = .bool b∧p b,λ_ h=>h,true,λ_ Z v ⟨b,e,_⟩=>by rw[e];rfl⟩
section
variable {P : Program} {n : Nat} {c : Cx} {ops : Array Oper} {Q : Exit → Act → World → Prop} {rest : List Oper} {l : Fr} {H : List Ent} {d : Option Nat} {ty rty t e : TypeId} {pos : String} {af : Array Edge} {g : Option (Nat × Bool)} {r : Rp} {x : Operand} {cx cy : Code} {sz : Nat} {xs : List (List Rp)}
theorem Po {o:Operand}{p:Bool→Prop}(ho:ev l o=some (rBx p))(h1:p true→WC P n c cx Q l H)(h2:p false→WC P n c cy Q l H):WC P n c (.cond o cx cy) Q l H:=λa w Z ha hw=>by
 obtain⟨b,e,hp⟩:=ha.ev ho;exact wp_cond_split e (λe=>h1 (e▸hp) a w Z ha hw) (λe=>h2 (e▸hp) a w Z ha hw)
theorem XN (ht:P.underlying t=some (.slice e))(h:ev l x=some (Be sz xs)):B1 P n c l H { dst:=d,op:=.binOp .eql t x (.const (.slice none 0 0)) rty,type:=ty,pos:=pos,after:=af,guard:=g } (rBx (λb=>b=true→xs=[])):=λa w Z ha hw=>by
 obtain⟨A,cap,e1,h1,h2,h3,h4⟩:=ha.ev h;refine⟨.bool A.isNone,⟨_,rfl,λhb=>?_⟩,?_⟩
 ·cases A with
  | some a=>cases hb
  | none=>
   have:=h3 rfl;exact List.length_eq_zero_iff.1 (by omega)
 ·have:=run_equal_slice_nil (P:=P) w t e A xs.length cap ht;have e2:a.eval (.const (.slice none 0 0)) = .slice none 0 0:=rfl;simp[execOp,e1,e2,binOp,this,eqGuard]
end
section
variable {P : Program} {n : Nat} {c : Cx} {Q : Exit → Act → World → Prop} {l : Fr} {H : List Ent} {x rest' : Code} {K : Act → World → Prop}
theorem Ll {lb:Nat}(h:WK n c (Q (.goto lb)) l H):WC P n c (.goto lb) Q l H:=λa w Z ha hw=>wp_goto (h a w Z ha hw)
theorem Cs {lb:Nat}(h:WK n c (Q (.goto lb)) l H):WK n c (Exit.then K Q (.goto lb)) l H:=h
theorem GT {id lb:Nat}(h:WK n c (Q (.goto lb)) l H):WK n c (Exit.inBlock id Q (.goto lb)) l H:=h
theorem K6 {id lb:Nat}(h:WK n c (Q (.goto lb)) l H):WK n c (Abx id K Q (.goto lb)) l H:=h
theorem AbS {lb:Nat}(h:WK n c (Q .ret) l H):WK n c (Exit.jump lb K Q .ret) l H:=h
theorem Lj {lb:Nat}(h:WK n c K l H):WK n c (Exit.jump lb K Q (.goto lb)) l H:=λa w Z ha hw=>⟨rfl,h a w Z ha hw⟩
theorem QC {S:Type}(lb:Nat)(inv:S→Prop)(fr:S→Fr)(hp:S→List Ent)(hf:findLabel x lb=some rest')
  (h1:WC P n c x (Exit.jump lb (IP n c inv fr hp) Q) l H) (h2:∀s,inv s→WC P n c rest' (Exit.noGoto Q) (fr s) (hp s)):WC P n c (.scope x) Q l H:=λa w Z ha hw=>
 wp_scope_jumps lb (IP n c inv fr hp) (λ_ _=>0) hf (h1 a w Z ha hw) (by
  rintro a w ⟨s,Z,hi,ha,hw⟩;refine wp_mono (h2 s hi a w Z ha hw) λe a w q=>?_
  cases e with
  | goto _=>exact q.elim
  | _=>exact q)
end
section
variable {P : Program} {n : Nat} {c : Cx} {ops : Array Oper} {Q : Exit → Act → World → Prop} {rest : List Oper} {l : Fr} {H H' : List Ent} {d : Nat} {d' : Option Nat} {x y z3 z4 : Operand} {ty t t' e : TypeId} {pos : String} {af : Array Edge} {g : Option (Nat × Bool)} {v u : Value} {r : Rp} {sz : Nat}
theorem Ok {α:Type}{ys:List α}{enc:α→List Rp}{k' k'':IntKind}{j:Int}(ht:P.underlying t=some (.slice e))(hz:∀w,(sizeOf e).run P w = .ok sz w)(h:ev l x=some (Be sz (ys.map enc)))(hj:ev l z3=some (rI k' j))(hm:ev l z4=some (rI k'' j))(hg2:G8 j (ys.length:Int)=true) :
  B1 P n c l H { dst:=d',op:=.slice t x none (some z3) (some z4),type:=ty,pos:=pos,after:=af,guard:=g } (Be sz ((ys.take j.toNat).map enc)):=λa w Z ha hw=>by
 obtain⟨A,cap,e1,hc1,hc2,hA,hc⟩:=ha.ev h;have h0:=(BX hg2).1;have h2:=(BX hg2).2;simp only[Agj] at e1 hc1;have h3:j≤(cap:Int):=by omega
 refine⟨.slice A j.toNat j.toNat,⟨A,j.toNat,?_,?_,by omega,?_,λq cl hq=>?_⟩,?_⟩
 ·congr 1
  simp;omega
 ·simp;omega
 ·intro hn;have:=hA hn;omega
 ·rw[Ag6,AgI] at hq
  split at hq
  ·exact hc q cl (by rw[Ag6];exact hq)
  ·cases hq
 ·have hA':A.map (λb=>b.add 0)=A:=by
   cases A with
   | none=>rfl
   | some ad=>obtain⟨b,o,sp⟩:=ad;cases sp<;>rfl
  simp[execOp,e1,ha.eval hj,ha.eval hm,Instr.sliceAt,Instr.slice,run_underlying ht,Instr.sliceBounds,Bk (m:=cap) _ _ h0 h3,Bk (m:=j.toNat) _ _ h0 (by omega),hz]
  try (intro _;cases A<;>rfl)
theorem W2 {i:Nat}{rs:List Rp}{fs:Array Field}{f:Field}(hu:P.underlying t=some (.struct fs))(hf:fs[i]? =some f)(hag:∀w,(isAgg f.type).run P w = .ok false w)(hx:ev l x=some (BW rs))(hr:rs[f.offset]? =some r) :
  B1 P n c l H { dst:=d',op:=.field t x i,type:=ty,pos:=pos,after:=af,guard:=g } r:=λa w Z ha hw=>by
 obtain⟨us,e1,hus⟩:=ha.ev hx;obtain⟨v,hv,hp⟩:=hus.at hr;exact⟨v,hp,by simp[execOp,e1,Instr.field,run_underlying hu,hf,asAgg,part,hag,hv]⟩
end
structure Sx (U:Type) where
 deps:List Nat
 r:U→Rp
 dyn:Bool:=false
 old:List Nat:=[]
def HU {U:Type}(sp:List (Sx U))(i:Nat):Sx U:=sp.getD i { deps:=[],r:=λ_=>rv undef }
def YY {U:Type}(sp:List (Sx U))(u:U):List Sp:=sp.map λs=>⟨s.deps,s.r u,0⟩
def saU {U:Type}(sp:List (Sx U))(u:U):List Sa:=sp.map λs=>{ deps:=s.deps,r:=s.r u }
def Q6 {U:Type}:List (Sx U)→Prop
 | []=>True
 | s::r=>(s.dyn=false→∀u u',s.r u=s.r u')∧Q6 r
theorem Q6.at {U:Type}:∀{sp:List (Sx U)},Q6 sp→∀{i:Nat} {s:Sx U},sp[i]? =some s→s.dyn=false→∀u u',s.r u=s.r u'
 | [],_,i,s,h=>by simp at h
 | x::sp,⟨h1,h2⟩,0,s,h=>by simp at h;subst h;exact h1
 | x::sp,⟨h1,h2⟩,i+1,s,h=>Q6.at h2 (by simpa using h)
theorem Af5 {U:Type}{ds os:List Nat}{r:Rp}{sp:List (Sx U)}(h:Q6 sp):Q6 ({ deps:=ds,r:=λ_=>r,old:=os }::sp):=⟨λ_ _ _=>rfl,h⟩
theorem Af4 {U:Type}{ds os:List Nat}{r:U→Rp}{sp:List (Sx U)}(h:Q6 sp):Q6 ({ deps:=ds,r:=r,dyn:=true,old:=os }::sp):=⟨λh'=>(by cases h'),h⟩
def Gx (lw:Fr):List Nat→Fr→Fr
 | [],l=>l
 | d::r,l=>match look lw d with
  | some q=>(d,q)::Gx lw r l
  | none=>Gx lw r l
theorem Tb {n:Nat}{lw l:Fr}{a:Act}{Z:Fz}(h0:Dq n l a Z):∀{ds:List Nat},(∀d∈ds,∀q,look lw d=some q→∃v,a.tmps[d]? =some v∧q.p Z v)→Dq n (Gx lw ds l) a Z
 | [],_=>h0
 | d::ds,h=>by
  have ih:=Tb h0 (ds:=ds) (λd' hd'=>h d' (by simp[hd']));unfold Gx
  cases hd:look lw d with
  | none=>exact ih
  | some q=>
   refine⟨ih.size,ih.defers,λi r hi=>?_⟩;rw[CN] at hi
   split at hi
   ·rename_i e;subst e;simp at hi;subst hi;exact h d (by simp) q hd
   ·exact ih.tm i r hi
theorem Af3 {U:Type}:Q6 ([]:List (Sx U)):=trivial
def okX (n:Nat)(ops:List Oper)(N i0:Nat)(keys:List Nat)(deps:List (List Nat))(dyns:List Bool)(olds:List (List Nat)):Bool:=
 Qz ops N&&decide (N≤ops.length)&&decide (i0<N)&&
 (List.range N).all (λi=>match Cw ops i with
  | some d=>decide (d<n)&&!keys.contains d&&(List.range N).all (λj=>j ==i||Cw ops j !=some d)
  | none=>true)&&
 (List.range N).all (λi=>(deps.getD i []).all (λj=>decide (j<N)&&(Dj (ops.getD i default)).contains j))&&
 (List.range N).all (λi=>!dyns.getD i false||i ==i0||(Dj (ops.getD i default)).any (λe=>decide (e<N)&&(e ==i0||dyns.getD e false)))&&
 (List.range N).all (λi=>(olds.getD i []).all (λd=>(List.range N).all (λw=>Cw ops w !=some d||(Dj (ops.getD w default)).contains i)))
section
variable (P : Program) (n : Nat) (c : Cx) (opsA : Array Oper) (Q : Exit → Act → World → Prop)
def OpX {U:Type}(l:Fr)(H:List Ent)(o:Oper)(r:U→Rp)(H1:U→List Ent):Prop:=
 ∀a w Z (K:Act→World→Prop),Dq n l a Z→St c H Z w→(∀u v w' Z',Fz.le Z Z'→(r u).p Z' v→St c (H1 u) Z' w'→K (a.put o.dst v) w')→
  Region.wanted o (yielded opsA a.tmps)=true∧o.wp P a w K Q
def M4 {U:Type}(ops:List Oper)(sp:List (Sx U))(l0 lw:Fr)(i0:Nat)(H:List Ent)(H1:U→List Ent):Nat→List Oper→Prop
 | i,o::rest=>(if i=i0 then(∀u,OpX P n c opsA Q (Gx lw (HU sp i).old (Cn ops (YY sp u) (HU sp i).deps l0)) H o (HU sp i).r H1) else ∀u H',(H'=H∨H'=H1 u)→DL P n c opsA Q (Gx lw (HU sp i).old (Cn ops (YY sp u) (HU sp i).deps l0)) H' o ((HU sp i).r u) H')∧M4 ops sp l0 lw i0 H H1 (i+1) rest
 | _,[]=>True
end
section
variable {P : Program} {n : Nat} {c : Cx} {opsA : Array Oper} {Q : Exit → Act → World → Prop} {l l0 lw : Fr} {U : Type} {H : List Ent} {H1 : U → List Ent} {sp : List (Sx U)} {i0 : Nat}
theorem M4.at {ops:List Oper}:∀{k:Nat} {rest:List Oper},M4 P n c opsA Q ops sp l0 lw i0 H H1 k rest→∀(t:Nat) o,rest[t]? =some o→
  (if k+t=i0 then(∀u,OpX P n c opsA Q (Gx lw (HU sp (k+t)).old (Cn ops (YY sp u) (HU sp (k+t)).deps l0)) H o (HU sp (k+t)).r H1) else ∀u H',(H'=H∨H'=H1 u)→DL P n c opsA Q (Gx lw (HU sp (k+t)).old (Cn ops (YY sp u) (HU sp (k+t)).deps l0)) H' o ((HU sp (k+t)).r u) H')
 | k,o::rest,⟨h1,h2⟩,t,o',ht=>by
  cases t with
  | zero=>simp at ht;subst ht;exact h1
  | succ t=>
   have:=M4.at h2 t o' (by simpa using ht);rw[show k+(t+1)=k+1+t from by omega];exact this
 | _,[],_,t,o,h=>by simp at h
theorem AbU {id:Nat}{ops:List Oper}[Inhabited U](N i0:Nat)(sp:List (Sx U))(hm:P.follows .mixedOrders=true)(hB:okX n ops N i0 (E2 l0) (sp.map (·.deps)) (sp.map (·.dyn)) (sp.map (·.old))=true)(hl0:UN l0 l)(hlw:UN lw l)(hsp:sp.length=N)(hst:Q6 sp)
  (hob:M4 P n c ops.toArray Q ops sp l0 lw i0 H H1 0 (ops.take N)) (h:∀u,WL P n c ops.toArray Q (ops.drop N) (M6 (λ_=>0) (ops.take N) (saU sp u) 0 l0) (H1 u)):WC P n c (.region id ops.toArray true) Q l H:=by
 intro a w Z ha hw;simp only[okX,Agf,AgC,List.mem_range,AfY] at hB;obtain⟨⟨⟨⟨⟨⟨b1,bN⟩,b0⟩,b2⟩,b3⟩,b4⟩,b5⟩:=hB;have hget:∀i,i<N→(ops.take N)[i]? =ops[i]?:=λi hi=>by rw[AgI,AgT hi]
 have hsa:∀i,i<N→sp[i]? =some (HU sp i):=λi hi=>by
  simp[HU,Agh,Agi (show i<sp.length by omega)]
 have hspq:∀u i,i<N→(El (YY sp u) i)=⟨(HU sp i).deps,(HU sp i).r u,0⟩:=λu i hi=>by
  simp[El,YY,Agh,Ag6,hsa i hi]
 have hdyn:∀j,j<N→(sp.map (·.dyn)).getD j false=(HU sp j).dyn:=λj hj=>by simp[Agh,Ag6,hsa j hj]
 have hdep:∀j,j<N→(sp.map (·.deps)).getD j []=(HU sp j).deps:=λj hj=>by simp[Agh,Ag6,hsa j hj]
 have hops:∀j,j<N→∃o,ops[j]? =some o:=λj hj=>⟨ops[j]'(by omega),Agi (by omega)⟩
 have hdst:∀i o d,i<N→ops[i]? =some o→o.dst=some d→(d<n∧d ∉ E2 l0)∧∀j,j<N→j≠i→Cw ops j≠some d:=λi o d hi ho hd=>by
  have h3:=b2 i hi;have:Cw ops i=some d:=by simp[Cw,ho,hd]
  rw[this] at h3;simp only[Agf,Agy,AgC,List.mem_range,AfY] at h3;refine⟨⟨h3.1.1,λhmem=>by rw[← List.contains_iff_mem] at hmem;rw[hmem] at h3;cases h3.1.2⟩,λj hj hne he=>?_⟩;have:=h3.2 j hj;simp[hne,he] at this
 refine UX (N:=N) hm b1 bN (λS a w=>∃ (u:U) (Z:Fz),St c (if S i0=true then H1 u else H) Z w∧Dq n l0 a Z∧(∀j o d,j<N→S j=true→ops[j]? =some o→o.dst=some d→∃v,a.tmps[d]? =some v∧((HU sp j).r u).p Z v)∧
   (∀j,j<N→(HU sp j).dyn=true→S j=true→S i0=true)∧
   (∀d q,look lw d=some q→(∀wr,wr<N→Cw ops wr=some d→S wr=false)→∃v,a.tmps[d]? =some v∧q.p Z v)∧
   ∀wr i d,wr<N→i<N→Cw ops wr=some d→d∈(HU sp i).old→S wr=true→S i=true)
  (λS S' a w hS hI=>?_) ⟨default,Z,?_,ha.subL hl0,λj o d _ hS=>(by cases hS),λj _ _ hS=>(by cases hS),λd q hd _=>(ha.subL hlw).tm d q hd,λwr i d _ _ _ _ hS=>(by cases hS)⟩ (λS i o a w hi hun ho hb hI K hK=>?_) (λa w hI=>?_)
 ·obtain⟨u,Z,h1,h2,h3,h4,h5,h6⟩:=hI;refine⟨u,Z,?_,h2,λj o d hj hS'=>h3 j o d hj (by rw[hS j hj];exact hS'),λj hj hd hSj=>?_,λd q hd hw'=>h5 d q hd (λwr hwr hdw=>by rw[hS wr hwr];exact hw' wr hwr hdw),λwr i d hwr hi hdw hold hSw=>by rw[← hS i hi];exact h6 wr i d hwr hi hdw hold (by rw[hS wr hwr];exact hSw)⟩
  ·rw[← hS i0 b0];exact h1
  ·rw[← hS i0 b0];exact h4 j hj hd (by rw[hS j hj];exact hSj)
 ·exact hw.drawn _
 ·obtain⟨u,Z,h1,h2,h3,hx,ho5,ho6⟩:=hI;have hput:∀k u v,a.tmps[k]? =some u→o.dst≠some k→(a.put o.dst v).tmps[k]? =some u:=λk u v hk hne=>by
   cases hd:o.dst with
   | none=>simpa[Act.put] using hk
   | some d=>
    simp only[Act.put,Array.getElem?_setIfInBounds];rw[AgF (λe=>hne (by rw[hd,e]))];exact hk
  have hagr:∀v Z',Fz.le Z Z'→Dq n l0 (a.put o.dst v) Z':=λv Z' hz=>by
   refine⟨?_,?_,λk r hk=>?_⟩
   ·cases o.dst<;>simp[Act.put,h2.size]
   ·cases o.dst<;>simp[Act.put,h2.defers]
   ·obtain⟨u,hu,hpu⟩:=h2.tm k r hk;exact⟨u,hput k u v hu (λe=>((hdst i o k hi ho e).1).2 (KL hk)),r.mono hz hpu⟩
  have hvals:∀(v:Value) (Z':Fz) (u':U),Fz.le Z Z'→(∀j,j<N→j≠i→S j=true→(HU sp j).r u'=(HU sp j).r u)→(o.dst≠none→((HU sp i).r u').p Z' v)→∀j o' d,j<N→(j ==i||S j)=true→ops[j]? =some o'→o'.dst=some d→∃q,(a.put o.dst v).tmps[d]? =some q∧((HU sp j).r u').p Z' q:=by
   intro v Z' u' hz hβ hp j o' d hj hS' ho' hd
   by_cases hji:j=i
   ·subst hji;rw[ho] at ho';simp at ho';subst ho';refine⟨v,?_,hp (by simp[hd])⟩;have hdn:d<a.tmps.size:=by rw[h2.size];exact(hdst j o d hi ho hd).1.1
    simp[Act.put,hd,hdn]
   ·have hSj:S j=true:=by simpa[hji] using hS'
    obtain⟨q,hu,hpu⟩:=h3 j o' d hj hSj ho' hd;refine⟨q,hput d q v hu (λe=>(hdst i o d hi ho e).2 j hj hji (by simp[Cw,ho',hd])),?_⟩;rw[hβ j hj hji hSj];exact((HU sp j).r u).mono hz hpu
  have hat:=hob.at i o (by rw[hget i hi];exact ho);rw[AgH] at hat;have hold':∀Z',Fz.le Z Z'→∀v d q,look lw d=some q→(∀wr,wr<N→Cw ops wr=some d→(wr ==i||S wr)=false)→∃v',(a.put o.dst v).tmps[d]? =some v'∧q.p Z' v':=λZ' hz v d q hd hw'=>by
   obtain⟨v',e1,e2⟩:=ho5 d q hd (λwr hwr hdw=>by have:=hw' wr hwr hdw;simp only[Ag7] at this;exact this.2);refine⟨v',hput d v' v e1 (λe=>?_),q.mono hz e2⟩;have:=hw' i hi (by simp[Cw,ho,e]);simp at this
  have hord:∀wr k d,wr<N→k<N→Cw ops wr=some d→d∈(HU sp k).old→(wr ==i||S wr)=true→(k ==i||S k)=true:=λwr k d hwr hk hdw hmem hSw=>by
   by_cases hwi:wr=i
   ·subst hwi;have h7:=b5 k hk d (by simpa[Agh,Ag6,hsa k hk] using hmem) wr hwr;simp only[Ag4,bne_iff_ne,ne_eq,hdw,not_true_eq_false,false_or] at h7;rw[Agh,ho,Ag5,List.contains_iff_mem] at h7;simp[(hb k h7).2]
   ·have:S k=true:=ho6 wr k d hwr hk hdw hmem (by simpa[hwi] using hSw);simp[this]
  have hag':Dq n (Gx lw (HU sp i).old (Cn ops (YY sp u) (HU sp i).deps l0)) a Z:=Tb (LE h2 (λj hj d hd=>by
    obtain⟨h5,h6⟩:=b3 i hi j (by rw[hdep i hi];exact hj);rw[Agh,ho,Ag5,List.contains_iff_mem] at h6;obtain⟨o2,ho2⟩:=hops j h5;obtain⟨v,hv1,hv2⟩:=h3 j o2 d h5 (hb j h6).2 ho2 (by simpa[Cw,ho2] using hd);refine⟨v,hv1,?_⟩;rw[hspq u j h5];exact hv2)) (λd hd q hq=>ho5 d q hq (λwr hwr hdw=>by
     cases hS:S wr with
     | false=>rfl
     | true=>have:=ho6 wr i d hwr hi hdw hd hS;rw[this] at hun;cases hun))
  by_cases hi0:i=i0
  ·subst hi0;rw[AgT rfl] at hat;rw[hun] at h1;have h1':St c H Z w:=by simpa using h1
   have key:=λK' hK'=>hat u a w Z K' hag' h1' hK';have h5:∀u' v w' Z',Fz.le Z Z'→((HU sp i).r u').p Z' v→St c (H1 u') Z' w'→K (a.put o.dst v) w':=λu' v w' Z' hz hpv hs'=>by
    refine hK _ _ ⟨u',Z',by simpa using hs',hagr v Z' hz,hvals v Z' u' hz (λj hj hji hSj=>?_) (λ_=>hpv),λj _ _ _=>by simp,hold' Z' hz v,hord⟩;refine hst.at (hsa j hj) ?_ u' u
    cases hd:(HU sp j).dyn with
    | false=>rfl
    | true=>have:=hx j hj hd hSj;rw[this] at hun;cases hun
   refine⟨λ_=>(key K h5).2,λhw'=>?_⟩;rw[(key K h5).1] at hw';cases hw'
  ·rw[AgF hi0] at hat;refine hat u _ (by split;exact .inr rfl;exact .inl rfl) a w Z K hag' h1 (λv w' Z' hz hp hst'=>hK _ _ ⟨u,Z',?_,hagr v Z' hz,hvals v Z' u hz (λ_ _ _ _=>rfl) (λ_=>hp),λj hj hd hSj=>?_,hold' Z' hz v,hord⟩)
   ·have hiS:(i0 ==i||S i0)=S i0:=by
     have:(i0 ==i)=false:=by simpa using λe=>hi0 e.symm
     rw[this];rfl
    show St c (if (i0 ==i||S i0)=true then H1 u else H) Z' w';rw[hiS];exact hst'
   ·have hii:(i0 ==i)=false:=by simpa using λe=>hi0 e.symm
    show(i0 ==i||S i0)=true;rw[hii,Ags]
    by_cases hji:j=i
    ·subst hji;have h7:=b4 j hj;rw[hdyn j hj,hd] at h7;simp only[Agl,Ags,Ag4,beq_iff_eq,hi0,false_or,List.any_eq_true,Agf,AfY] at h7;obtain⟨e,he,heN,h8⟩:=h7;rw[Agh,ho,Ag5] at he;have hSe:=(hb e he).2;rcases h8 with h8 | h8
     ·subst h8;exact hSe
     ·rw[hdyn e heN] at h8;exact hx e heN h8 hSe
    ·exact hx j hj hd (by simpa[hji] using hSj)
 ·obtain⟨u,Z,h1,h2,h3,_,_,_⟩:=hI;have hsl:(saU sp u).length=N:=by simp[saU,hsp]
  refine h u a w Z (Pa h2 _ _ 0 (λt o s d ht hs hd=>?_)) (by simpa using h1);have htN:t<N:=by have:=(List.getElem?_eq_some_iff.1 hs).1;omega
  have hs':s = { deps:=(HU sp t).deps,r:=(HU sp t).r u }:=by
   simp only[saU,Ag6,hsa t htN,Option.map_some,Option.some.injEq] at hs;exact hs.symm
  subst hs';rw[AgH];exact h3 t o d htN rfl (by rw[← hget t htN];exact ht) hd
theorem Pn [Inhabited U]{id:Nat}{ops:List Oper}(N i0:Nat)(ks0 ksw:List Nat)(sp:List (Sx U))(H1:U→List Ent)(hob:M4 P n c ops.toArray Q ops sp l0 lw i0 H H1 0 (ops.take N))(h:∀u,WL P n c ops.toArray Q (ops.drop N) (M6 (λ_=>0) (ops.take N) (saU sp u) 0 l0) (H1 u))
  (h0:Kp ks0 l l0:=by repeat (first | exact OB | (apply Mt;rfl) | (apply Nd;rfl))) (hw:Kp ksw l lw:=by repeat (first | exact OB | (apply Mt;rfl) | (apply Nd;rfl))) (hm:P.follows .mixedOrders=true:=by kernel_rfl) (hB:okX n ops N i0 (E2 l0) (sp.map (·.deps)) (sp.map (·.dyn)) (sp.map (·.old))=true:=by kernel_rfl)
  (hsp:sp.length=N:=by rfl) (hst:Q6 sp:=by repeat (first | exact Af3 | apply Af5 | apply Af4)):WC P n c (.region id ops.toArray true) Q l H:=AbU N i0 sp hm hB h0.one hw.one hsp hst hob h
theorem K1 {all rest:List Oper}{d:Nat}{op:Op}{ty:TypeId}{pos:String}{af:Array Edge}{i:Nat}(hr:∀{u H},B1 P n c (Gx lw (HU sp i).old (Cn all (YY sp u) (HU sp i).deps l0)) H { dst:=some d,op:=op,type:=ty,pos:=pos,after:=af,guard:=none } ((HU sp i).r u))(h:M4 P n c opsA Q all sp l0 lw i0 H H1 (i+1) rest)(hne:Nat.beq i i0=false:=by rfl) :
  M4 P n c opsA Q all sp l0 lw i0 H H1 i ({ dst:=some d,op:=op,type:=ty,pos:=pos,after:=af,guard:=none }::rest):=by
 refine⟨?_,h⟩;rw[AgF (λe=>by subst e;simp at hne)];exact λu H _=>Bg hr
theorem oxc {all rest:List Oper}{o:Oper}{i:Nat}(hr:∀{u H},DL P n c opsA Q (Gx lw (HU sp i).old (Cn all (YY sp u) (HU sp i).deps l0)) H o ((HU sp i).r u) H)(h:M4 P n c opsA Q all sp l0 lw i0 H H1 (i+1) rest)(hne:Nat.beq i i0=false:=by rfl):M4 P n c opsA Q all sp l0 lw i0 H H1 i (o::rest):=by
 refine⟨?_,h⟩;rw[AgF (λe=>by subst e;simp at hne)];exact λu H _=>hr
theorem Wy {all rest:List Oper}{o:Oper}{i:Nat}(hr:∀{u},DL P n c opsA Q (Gx lw (HU sp i).old (Cn all (YY sp u) (HU sp i).deps l0)) H o ((HU sp i).r u) H)(hr1:∀{u},DL P n c opsA Q (Gx lw (HU sp i).old (Cn all (YY sp u) (HU sp i).deps l0)) (H1 u) o ((HU sp i).r u) (H1 u))(h:M4 P n c opsA Q all sp l0 lw i0 H H1 (i+1) rest)(hne:Nat.beq i i0=false:=by rfl):M4 P n c opsA Q all sp l0 lw i0 H H1 i (o::rest):=by
 refine⟨?_,h⟩;rw[AgF (λe=>by subst e;simp at hne)];intro u H' hH';rcases hH' with e | e
 ·subst e;exact hr
 ·subst e;exact hr1
theorem oxx {all rest:List Oper}{o:Oper}(hr:∀{u},OpX P n c opsA Q (Gx lw (HU sp i0).old (Cn all (YY sp u) (HU sp i0).deps l0)) H o (HU sp i0).r H1)(h:M4 P n c opsA Q all sp l0 lw i0 H H1 (i0+1) rest):M4 P n c opsA Q all sp l0 lw i0 H H1 i0 (o::rest):=by
 refine⟨?_,h⟩;rw[AgT rfl];exact λu=>hr
theorem oxe {all:List Oper}{i:Nat}:M4 P n c opsA Q all sp l0 lw i0 H H1 i []:=trivial
end
section
variable {P : Program} {n : Nat} {c : Cx} {opsA : Array Oper} {Q : Exit → Act → World → Prop} {l : Fr} {H : List Ent} {d : Nat} {x y : Operand} {ty t e : TypeId} {pos : String} {af : Array Edge} {v : Value} {sz : Nat}
theorem K4 {α:Type}{xs ys:List α}{enc:α→List Rp}{i:Nat}{inf:TypeInfo}{z:Value}{bytes:Nat}(ht:P.underlying t=some (.slice e))(hinf:P.info? e=some inf)(hz:inf.zero=some z)(hsize:inf.size=sz)(hby:inf.bytes=bytes)(hzs:z.cells.size=sz)(hsz:Nat.blt 0 sz=true)(hbp:Nat.blt 0 bytes=true)
  (hx:ev l x=some (rv v)) (hi:H[i]? =some (.row v e sz (xs.map enc))) (hy:JD P n c l H y sz ys.length (ys.map enc).flatten) (henc:∀z,(enc z).length=sz) (hone:∀z,(enc z).all (·.one)=true) (hg:Dv bytes (xs.length+ys.length)=true) :
  OpX P n c opsA Q l H { dst:=some d,op:=.call { callee:=.builtin .append,args:=#[x,y],argTypes:=#[t,t] },type:=ty,pos:=pos,after:=af,guard:=none } (λv'=>rv v') (λv'=>.row v' e sz ((xs++ys).map enc)::H.eraseIdx i):=λa w Z K ha hw hK=>by
  obtain⟨h0,us,h1,h2⟩:=hw.ent hi;obtain⟨ws,h3,h4⟩:=hy a w Z ha hw;have hsz':0<sz:=by simpa using hsz
  have hbp':0<bytes:=by simpa using hbp
  have hb:(xs.length+ys.length)*bytes≤140737488355328:=by simpa[Dv] using hg
  have hle:xs.length+ys.length≤(xs.length+ys.length)*bytes:=Nat.le_mul_of_pos_right _ hbp';have hws:∀y∈ws,y.oneCell'=true:=Bq.one (rs:=(ys.map enc).flatten) (by
   rw[AgC];intro r hr;obtain⟨cl,hcl,hrc⟩:=List.mem_flatten.1 hr;obtain⟨z',_,rfl⟩:=List.mem_map.1 hcl;exact List.all_eq_true.1 (hone z') r hrc) h3
  have hxl:(xs.map enc).length=xs.length:=Agj ..;rw[hxl] at h1;obtain⟨v',w',e1,e2,e3,e4⟩:=IS (P:=P) ty ht hinf hz hsize hby hzs hsz' h1 h4 hws hb (by simp only[maxLen];omega);have hent:(Ent.row v' e sz ((xs++ys).map enc)).holds Z w':=⟨λcl hcl=>by obtain⟨z',_,rfl⟩:=List.mem_map.1 hcl;exact henc z',us++ws,by simpa using e2,by rw[AgS,List.flatten_append];exact h2.append h3⟩
  have hst:=hw.callF hi (St.one (e':=.row v' e sz ((xs++ys).map enc)) (M:=(Ent.row v e sz (xs.map enc)).foot) hw.frz hw.env hw.emono e3.os e3.tape e3.output e3.size (λk hk hne=>e3.block k hk (λe1=>hne (by simp[Ent.foot,← e1])))
   (hw.zdis _ (Agq hi)) hent (λk hk=>by
    simp only[Ent.foot,Option.mem_toList] at hk ⊢;rcases e4 with e4 | e4
    ·exact .inl (e4▸hk)
    ·exact .inr (e4 k hk)))
  refine⟨by simp[Region.wanted],?_⟩;unfold Oper.wp;rw[show(execOp a.eval { dst:=some d,op:=.call { callee:=.builtin .append,args:=#[x,y],argTypes:=#[t,t] },type:=ty,pos:=pos,after:=af,guard:=none }).run P w = .ok (.value v') w' from by simp[execOp,resolve,invoke,builtin,ha.eval hx,e1]];exact hK v' v' w' Z (Fz.le.refl _) rfl hst
end
set_option maxRecDepth 100000
set_option maxHeartbeats 4000000
theorem Ng:∃inf,Tryz.prog.info? 9=some inf∧inf.zero=some (.string ⟨#[]⟩)∧inf.size=1∧inf.bytes=16:=by
  have key:(Tryz.prog.info? 9).map (λi=>(i.zero,i.size,i.bytes))=some (some (.string ⟨#[]⟩),1,16):=by kernel_rfl
  obtain⟨inf,h1,h2⟩:=Option.map_eq_some_iff.1 key;simp only[Prod.mk.injEq] at h2;exact⟨inf,h1,h2.1,h2.2.1,h2.2.2⟩
theorem AaU (F:Nat)  (r:(List Int))(h:Qe F=some r):Fn Tryz.prog GE 156 [] [] (λR H=>R=BW (A8 (rI .u32) r)∧H=[]):=by
 refine enter (n:=26) Tryz.func156 Aa Tryz.ntmps156 Aa (λw Z=>?_);unfold Qe at h;refine Am (Ci (cs:=A8 (rI .u32) (List.replicate 256 (0:Int))) Tryz.zeroValue191 (by kernel_rfl) Aa (λb1=>?_));refine B3 (Ci (cs:=A8 (rI .u32) (List.replicate 256 (0:Int))) Tryz.zeroValue191 (by kernel_rfl) Aa (λb2=>?_));refine Ax (Aq (Am (wv (r:=A4 0) (Ah Aa) (Ax (AO (ob h λhq hr hs=>B5 (S:=Nat×(Int×(List Int))×(Unit)) (V:=((List Int))×(Unit)) 0 (λσ=>Cj (λσ=>Hj F σ.1 σ.2) σ.1 σ.2.1=some hq) (λσ=>[(0,rP b1 0),(1,rP b2 0),(5,A4 σ.2.1.1)]) (λσ=>[.blk b2 (A8 (rI .u32) σ.2.1.2) 191,.blk b1 (A8 (rI .u32) (List.replicate 256 (0:Int))) 191]) (λσ=>σ.1) (F,(0,List.replicate 256 (0:Int)),()) hr (AI.c Aa (AI.c Aa (AI.c Aa AI.nil))) (sC (sC sN)) (λσ=>J7 σ.1=some r) (λσ=>[(0,rP b1 0),(1,rP b2 0)]) (λσ=>[.blk b2 (A8 (rI .u32) σ.1) 191,.blk b1 (A8 (rI .u32) (List.replicate 256 (0:Int))) 191]) ?_ ?_))))))
 ·rintro⟨hR,⟨ha,hd⟩,⟨⟩⟩ ht;refine EL ?_;obtain⟨hu,rfl,hl,hg,ho⟩:=CM ht;replace hg:Hj F ha hd=some hl:=hg;unfold Hj at hg;refine Am (wv (De Aa Aa) (Ax (Aq (cz hg Aa (λhw hx=>?_) (λhw hy=>?_)))))
  ·refine A0 (AY (Aq (AO (Am (wm Aa (wa Aa (B3 (wm Aa (wv (r:=rI .u32 (IntKind.wrap .u32 ha)) (C5 ⟨_,YW⟩ Ki Aa) (wa Aa (Ax (Aq (Am (wv (r:=A4 0) (Ah Aa) (Ax (AO (ob hx λhz h0 h1=>B5 (S:=Nat×(Int×Int)×(Unit)) (V:=(Int×Int×Bool)×(Unit)) 2 (λσ=>Cj (λσ=>Hi σ.1 σ.2) σ.1 σ.2.1=some hz) (λσ=>[(0,rP b1 0),(1,rP b2 0),(2,A4 ha),(3,rI .u32 σ.2.1.1),(5,A4 ha),(10,A4 σ.2.1.2)]) (λσ=>[.blk b2 (A8 (rI .u32) hd) 191,.blk b1 (A8 (rI .u32) (List.replicate 256 (0:Int))) 191]) (λσ=>σ.1) (F,(IntKind.wrap .u32 ha,0),()) h0 (AI.c Aa (AI.c5 Aa Aa Aa Aa Aa AI.nil)) (sC (sC sN)) (λσ=>J6 ha hd σ.1.1 σ.1.2.1 σ.1.2.2=some hl) (λσ=>[(0,rP b1 0),(1,rP b2 0),(2,A4 ha),(3,rI .u32 σ.1.1),(5,A4 ha),(10,A4 σ.1.2.1),(11,rB σ.1.2.2)]) (λσ=>[.blk b2 (A8 (rI .u32) hd) 191,.blk b1 (A8 (rI .u32) (List.replicate 256 (0:Int))) 191]) ?_ ?_)))))))))))))))))
   ·rintro⟨hS,⟨hb,hf⟩,⟨⟩⟩ h2;refine EL ?_;obtain⟨h3,rfl,h4,hh,hp⟩:=CM h2;replace hh:Hi hb hf=some h4:=hh;unfold Hi at hh;refine Am (wv (De Aa Aa) (Ax (Aq (cz hh Aa (λh5 h6=>?_) (λh5 h7=>?_)))))
    ·refine A0 (AY (AV [(0,rP b1 0),(1,rP b2 0),(2,A4 ha),(3,rI .u32 (bif decide ((QS .u32 hb 1)=1) then H9 .u32 (CL .u32 hb 1) 3988292384 else CL .u32 hb 1)),(5,A4 ha),(10,A4 hf)] [.blk b2 (A8 (rI .u32) hd) 191,.blk b1 (A8 (rI .u32) (List.replicate 256 (0:Int))) 191] ?_ ?_))
     ·refine AO (Am (wm Aa (wv (r:=rI .u32 (QS .u32 hb 1)) (AeR Aa Aa) (wa Aa (B3 (wm Aa (wv (r:=rI .u32 (CL .u32 hb 1)) (Ry Aa Aa (by decide)) (wa Aa (B3 (wm Aa (wv (BT Aa Aa) (Ax (Ek (b:=decide ((QS .u32 hb 1)=1)) Aa (λhm=>?_) (λhm=>?_))))))))))))))
      ·refine Ap (wm Aa (wv (r:=rI .u32 (H9 .u32 (CL .u32 hb 1) 3988292384)) (Aag Aa Aa) (wa Aa (Ar (AK ?_)))));exact C8 hm
      refine A0 (AK ?_);exact C8 hm
     refine Ap (ck h6 λh8 h9=>wv (BU Aa Aa h8) (wm Aa (Ar ?_)));have hA:=B8 h9 hp;exact A1 (AG (h3,((bif decide ((QS .u32 hb 1)=1) then H9 .u32 (CL .u32 hb 1) 3988292384 else CL .u32 hb 1),hf+1),()) ⟨hA,Ago _⟩ (AI.c Aa (AI.c5 Aa Aa Aa Aa Aa AI.nil)) (sC (sC sN)))
    refine B9 (A9 ?_);have hB:=Co h7 hp h1;exact A9 (Bj (AG ((hb,hf,decide (hf<8)),()) hB (AI.c Aa (AI.c Aa (AI.c5 Aa Aa Aa Aa Aa AI.nil))) (sC (sC sN))))
   rintro⟨⟨hi,hC,hD⟩,⟨⟩⟩ hj;refine IY ?_;replace hj:J6 ha hd hi hC hD=some hl:=hj;unfold J6 at hj;refine Bm (AY (Ap (wm Aa (wm Aa (ck hj λhE hG=>wv (r:=rv (.pointer (some ⟨b2,BH ha,none⟩))) (Aao Tryz.underlying191 Tryz.sizeOf158 Aa Aa hE) (ck hG λhH hI=>X2 (enc:=(rI .u32)) (ys:=hd) (v:=hi) (i:=0) Tryz.sizeOf158 Aa Aa (BA Aa) Aa hH (H':=[.blk b2 (A8 (rI .u32) (List.set hd (BH ha) hi)) 191,.blk b1 (A8 (rI .u32) (List.replicate 256 (0:Int))) 191]) Aa (Ar (AK (AY (Ap (ck hI λhJ hK=>wv (BU Aa Aa hJ) (wm Aa (Ar ?_)))))))))))));have hL:=B8 hK ho;exact A1 (AG (hu,(ha+1,List.set hd (BH ha) hi),()) ⟨hL,Ago _⟩ (AI.c Aa (AI.c Aa (AI.c Aa AI.nil))) (sC (sC sN)))
  refine B9 (A9 ?_);have hN:=Co hy ho hs;exact A9 (Bj (AG (hd,()) hN (AI.c Aa (AI.c Aa AI.nil)) (sC (sC sN))))
 rintro⟨he,⟨⟩⟩ hk;refine IY ?_;replace hk:J7 he=some r:=hk;unfold J7 at hk;refine Bm (AY (Am (ck hk λhn hO=>wv (r:=BW (A8 (rI .u32) he)) (Vr (enc:=(rI .u32)) (ys:=he) (i:=0) Tryz.isAgg191 VW Aa Aa hn) (ck hO λhP hQ=>Od (enc:=(rI .u32)) (ys:=List.replicate 256 (0:Int)) (zs:=he) (i:=1) VW Aa Aa (λ_=>Aa) Aa hP hn (H':=[.blk b2 (A8 (rI .u32) he) 191,.blk b1 (A8 (rI .u32) he) 191]) Aa (Ax (A6 ?_))))));obtain rfl:=AA hQ;exact A5 (Cp Tryz.results156 (Jj (i:=1) Tryz.isAgg191 VW Aa Aa (AcD hn))) (sS (sS sN)) ⟨Aa,Aa⟩
theorem AaV (F:Nat)(s:Aj)(r:Int)(h:Y1 F s=some r):Fn Tryz.prog GE 122 [rS s] [] (λR H=>R=rI .u32 r∧H=[]):=by
 refine enter (n:=26) Tryz.func122 Aa Tryz.ntmps122 Aa (λw Z=>?_);unfold Y1 at h;refine Am (wa Aa (B3 (ob h λr1 e3 h2=>DM Tryz.call156 (AaU F r1 e3) Aa (Ci (cs:=A8 (rI .u32) (List.replicate 256 (0:Int))) Tryz.zeroValue191 (by kernel_rfl) Aa (λb4=>?_)))));refine ck h2 λg5 h6=>ck h6 λg7 h8=>Od (enc:=(rI .u32)) (ys:=List.replicate 256 (0:Int)) (zs:=r1) (i:=0) VW Aa Aa (λ_=>Aa) Aa g5 g7 (H':=[.blk b4 (A8 (rI .u32) r1) 191]) Aa (B3 (wa Aa (Ax (Aq (Am (wm Aa (wv (BM CX Aa) (wv (r:=A4 0) (Ah Aa) (Ax (AO (ob h8 λhh hi hj=>B5 (S:=Nat×(Int×Int)×(Unit)) (V:=(Int)×(Unit)) 0 (λσ=>Cj (λσ=>HR s r1 σ.1 σ.2) σ.1 σ.2.1=some hh) (λσ=>[(0,rS s),(2,rI .u32 0),(3,rP b4 0),(4,rI .u32 σ.2.1.1),(8,A4 (s.length:Int)),(9,A4 σ.2.1.2)]) (λσ=>[.blk b4 (A8 (rI .u32) r1) 191]) (λσ=>σ.1) (F,(4294967295,0),()) hi (AI.c Aa (AI.c5 Aa Aa Aa Aa Aa AI.nil)) (sC sN) (λσ=>OU σ.1=some r) (λσ=>[(2,rI .u32 0),(4,rI .u32 σ.1)]) (λσ=>[]) ?_ ?_)))))))))))
 ·rintro⟨h1,⟨ha,hb⟩,⟨⟩⟩ hk;refine EL ?_;obtain⟨hl,rfl,hm,hd,hf⟩:=CM hk;replace hd:HR s r1 ha hb=some hm:=hd;unfold HR at hd;refine Am (wv (De Aa Aa) (Ax (Aq (cz hd Aa (λhn ho=>?_) (λhn hp=>?_)))))
  ·refine A0 (AY (Aq (AO (Am (wm Aa (wa Aa (Ax (Ap (wm Aa (wv (r:=rI .u8 (IntKind.wrap .u8 ha)) (C5 ⟨_,Ki⟩ Sk Aa) (wm Aa (wm Aa (ck ho λhq hr=>wv (BF CX Aa Aa hq) (wv (r:=rI .u8 (H9 .u8 (IntKind.wrap .u8 ha) (BD s hb))) (Aag Aa Aa) (ck hr λhs ht=>wv (r:=rv (.pointer (some ⟨b4,BH (H9 .u8 (IntKind.wrap .u8 ha) (BD s hb)),none⟩))) (Aao Tryz.underlying191 Tryz.sizeOf158 Aa Aa hs) (ck ht λhu hw=>wv (r:=rI .u32 (Al r1 (H9 .u8 (IntKind.wrap .u8 ha) (BD s hb)))) (Aam (enc:=(rI .u32)) (ys:=r1) (i:=0) Tryz.isAgg158 Aa Aa hu) (wm Aa (wv (r:=rI .u32 (CL .u32 ha 8)) (Ry Aa Aa (by decide)) (wv (r:=rI .u32 (H9 .u32 (Al r1 (H9 .u8 (IntKind.wrap .u8 ha) (BD s hb))) (CL .u32 ha 8))) (Aag Aa Aa) (wa Aa ?_))))))))))))))))))));refine Ar (AK (AY (Ap (ck hw λhx hy=>wv (BU Aa Aa hx) (wm Aa (Ar ?_))))));have hz:=B8 hy hf;exact A1 (AG (hl,(H9 .u32 (Al r1 (H9 .u8 (IntKind.wrap .u8 ha) (BD s hb))) (CL .u32 ha 8),hb+1),()) ⟨hz,Ago _⟩ (AI.c Aa (AI.c5 Aa Aa Aa Aa Aa AI.nil)) (sC sN))
  refine B9 (A9 ?_);have h0:=Co hp hf hj;exact A9 (Bj (AG (ha,()) h0 (AI.c Aa (AI.c Aa AI.nil)) (sS sN)))
 rintro⟨hg,⟨⟩⟩ he;refine IY ?_;replace he:OU hg=some r:=he;unfold OU at he;refine Bm (AY (Am (wm Aa (wv (r:=rI .u32 (Yx .u32 hg)) (Acz Aa) (wa Aa (Ax (A6 ?_)))))));obtain rfl:=AA he;exact A5 (Cp Tryz.results122 (AT Aa)) sN ⟨Aa,Aa⟩
theorem RT (n:Int)(r:Aj)(h:LA n=some r):Fn Tryz.prog GE 147 [rI .u32 n] [] (λR H=>R=rS r∧H=[]):=by
 refine enter (n:=16) Tryz.func147 Aa Tryz.ntmps147 Aa (λw Z=>?_);unfold LA at h;refine Am (wv (r:=rS ([]:Aj)) (AC Aa) (B3 (wm Aa (wv (r:=rI .u32 (CL .u32 n 24)) (Ry Aa Aa (by decide)) (wv (r:=rI .u8 (IntKind.wrap .u8 (CL .u32 n 24))) (C5 ⟨_,Ki⟩ Sk Aa) (wm Aa (wv (r:=rI .u32 (CL .u32 n 16)) (Ry Aa Aa (by decide)) (wv (r:=rI .u8 (IntKind.wrap .u8 (CL .u32 n 16))) (C5 ⟨_,Ki⟩ Sk Aa) (wm Aa (wv (r:=rI .u32 (CL .u32 n 8)) (Ry Aa Aa (by decide)) (wv (r:=rI .u8 (IntKind.wrap .u8 (CL .u32 n 8))) (C5 ⟨_,Ki⟩ Sk Aa) (wm Aa (wv (r:=rI .u8 (IntKind.wrap .u8 n)) (C5 ⟨_,Ki⟩ Sk Aa) (Bf (ys:=([IntKind.wrap .u8 (CL .u32 n 24),IntKind.wrap .u8 (CL .u32 n 16),IntKind.wrap .u8 (CL .u32 n 8),IntKind.wrap .u8 n]:List Int)) (enc:=BY) (css:=[[rI .u8 (IntKind.wrap .u8 (CL .u32 n 24))],[rI .u8 (IntKind.wrap .u8 (CL .u32 n 16))],[rI .u8 (IntKind.wrap .u8 (CL .u32 n 8))],[rI .u8 (IntKind.wrap .u8 n)]]) (xs:=[.tmp 5,.tmp 8,.tmp 11,.tmp 13]) EK ys5 yz5 Aa Aa Aa ⟨Em.one Aa (Up.refl _),Em.one Aa (Up.refl _),Em.one Aa (Up.refl _),Em.one Aa (Up.refl _),trivial⟩ Aa Ei Aa Aa Aa (λb1=>?_)))))))))))))));refine wv (r:=rS (QI ([IntKind.wrap .u8 (CL .u32 n 24),IntKind.wrap .u8 (CL .u32 n 16),IntKind.wrap .u8 (CL .u32 n 8),IntKind.wrap .u8 n]:List Int))) (W3 (xs:=([IntKind.wrap .u8 (CL .u32 n 24),IntKind.wrap .u8 (CL .u32 n 16),IntKind.wrap .u8 (CL .u32 n 8),IntKind.wrap .u8 n]:List Int)) (i:=0) EK CX Sk Aa Aa) (wa Aa (Ax (A6 ?_)));obtain rfl:=AA h;exact A5 (Cp Tryz.results147 (AT Aa)) (sS sN) ⟨Aa,Aa⟩
theorem RS (s:Aj)(r:Int)(h:L9 s=some r):Fn Tryz.prog GE 121 [rS s] [] (λR H=>R=rI .u32 r∧H=[]):=by
 refine enter (n:=21) Tryz.func121 Aa Tryz.ntmps121 Aa (λw Z=>?_);unfold L9 at h;refine Am (wa Aa (Ax (Aq (ck h λg1 h2=>ck h2 λg3 h4=>ck h4 λg5 h6=>ck h6 λg7 h8=>Dy [0] ?_))));refine rq (Ah Aa) (rq (BF CX Aa Aa g1) (rq (r:=rI .u32 (IntKind.wrap .u32 (BD s 0))) (C5 ⟨_,Sk⟩ Ki Aa) (rq (r:=rI .u32 (D2 .u32 (IntKind.wrap .u32 (BD s 0)) 24)) (W0 Aa Aa (by decide)) (rq (Ah Aa) (rq (BF CX Aa Aa g3) (rq (r:=rI .u32 (IntKind.wrap .u32 (BD s 1))) (C5 ⟨_,Sk⟩ Ki Aa) (rq (r:=rI .u32 (D2 .u32 (IntKind.wrap .u32 (BD s 1)) 16)) (W0 Aa Aa (by decide)) (rq (r:=rI .u32 (Ky .u32 (D2 .u32 (IntKind.wrap .u32 (BD s 0)) 24) (D2 .u32 (IntKind.wrap .u32 (BD s 1)) 16))) (Acv Aa Aa) (rq (Ah Aa) (rq (BF CX Aa Aa g5) (rq (r:=rI .u32 (IntKind.wrap .u32 (BD s 2))) (C5 ⟨_,Sk⟩ Ki Aa) (rq (r:=rI .u32 (D2 .u32 (IntKind.wrap .u32 (BD s 2)) 8)) (W0 Aa Aa (by decide)) (rq (r:=rI .u32 (Ky .u32 (Ky .u32 (D2 .u32 (IntKind.wrap .u32 (BD s 0)) 24) (D2 .u32 (IntKind.wrap .u32 (BD s 1)) 16)) (D2 .u32 (IntKind.wrap .u32 (BD s 2)) 8))) (Acv Aa Aa) (rq (Ah Aa) (rq (BF CX Aa Aa g7) (rq (r:=rI .u32 (IntKind.wrap .u32 (BD s 3))) (C5 ⟨_,Sk⟩ Ki Aa) (rq (r:=rI .u32 (Ky .u32 (Ky .u32 (Ky .u32 (D2 .u32 (IntKind.wrap .u32 (BD s 0)) 24) (D2 .u32 (IntKind.wrap .u32 (BD s 1)) 16)) (D2 .u32 (IntKind.wrap .u32 (BD s 2)) 8)) (IntKind.wrap .u32 (BD s 3)))) (Acv Aa Aa) (rq (AC Aa) (re [2] ?_)))))))))))))))))));refine AY (A6 ?_);obtain rfl:=AA h8;exact A5 (Cp Tryz.results121 (AT Aa)) sN ⟨Aa,Aa⟩
theorem AcR (F:Nat)(fields:(List Aj))(r:Aj×Int)(h:U0 F fields=some r):Fn Tryz.prog GE 81 [Be 1 (A8 eS fields)] [] (λR H=>R=Db [rS r.1,A4 r.2]∧H=[]):=by
 refine enter (n:=39) Tryz.func81 Aa Tryz.ntmps81 Aa (λw Z=>?_);unfold U0 at h;refine Am (wv (r:=rS ([]:Aj)) (AC Aa) (wa Aa (Ax (Aq (Am (wm Aa (wv (By (ys:=fields) (enc:=eS) C7 Aa) (wv (Ec Aa Aa) (Ax (cz h Aa (λc1 h2=>?_) (λc1 h3=>?_)))))))))))
 ·refine Am (wv (r:=rS ([]:Aj)) (AC Aa) (wa Aa (Ax (A6 (Ae ?_)))));obtain rfl:=AA h2;exact A5 (E4 Tryz.results81 (AT Aa) (AT Aa)) sN ⟨Aa,Aa⟩
 refine A0 (AY (Am (wm Aa (wv (By (ys:=fields) (enc:=eS) C7 Aa) (wv (r:=rI .u8 (IntKind.wrap .u8 (fields.length:Int))) (C5 ⟨_,YW⟩ Sk Aa) (Bf (ys:=([IntKind.wrap .u8 (fields.length:Int)]:List Int)) (enc:=BY) (css:=[[rI .u8 (IntKind.wrap .u8 (fields.length:Int))]]) (xs:=[.tmp 12]) EK ys5 yz5 Aa Aa Aa ⟨Em.one Aa (Up.refl _),trivial⟩ Aa Ei Aa Aa Aa (λb4=>?_)))))));refine wa Aa (Ax (Aq (Am (wm Aa (wv (By (ys:=fields) (enc:=eS) C7 Aa) (wv (r:=A4 0) (Ah Aa) (Ax (AO (ob h3 λhi hj hh=>B5 (S:=Nat×((List Int)×Int)×(Value)) (V:=((List Int))×(Value)) 0 (λσ=>Cj (λσ=>H0 fields σ.1 σ.2) σ.1 σ.2.1=some hi) (λσ=>[(2,rS ([]:Aj)),(3,A4 0),(4,rv σ.2.2),(14,Be 1 (A8 eS fields)),(15,A4 (fields.length:Int)),(16,A4 σ.2.1.2)]) (λσ=>[.row σ.2.2 5 1 (A8 BY σ.2.1.1)]) (λσ=>σ.1) (F,(([IntKind.wrap .u8 (fields.length:Int)]:List Int),0),(.slice (some ⟨b4,0,none⟩) 1 1)) hj (AI.c Aa (AI.c5 Aa Aa Aa Aa Aa AI.nil)) (sC sN) (λσ=>Nm σ.1=some r) (λσ=>[(2,rS ([]:Aj)),(3,A4 0),(4,rv σ.2)]) (λσ=>[.row σ.2 5 1 (A8 BY σ.1)]) ?_ ?_)))))))))
 ·rintro⟨h8,⟨hb,ha⟩,hk⟩ hl;refine EL ?_;obtain⟨hm,rfl,hn,hd,hf⟩:=CM hl;replace hd:H0 fields hb ha=some hn:=hd;unfold H0 at hd;refine Am (wv (De Aa Aa) (Ax (Aq (cz hd Aa (λho hp=>?_) (λho hq=>?_)))))
  ·refine A0 (AY (Aq (AO (Am (ck hp λhr hs=>wv (AU (enc:=eS) (ys:=fields) C7 BS Aa Aa hr) (wv (AH Cf Aa Aa) (wa Aa (Ax (Aq (Am (wm Aa (wv (BM CX Aa) (wv (Ec Aa Aa) (Ax (cz hs Aa (λc75 ht=>?_) (λc75 hu=>?_))))))))))))))))
   ·refine Am (wv (r:=rS ([]:Aj)) (AC Aa) (wa Aa (Ax (A6 (Ae (A7 (Ae (Ae (Bc ?_)))))))));have hw:=B4 ht hf hh;refine A7 (Ae ?_);obtain rfl:=AA hw;exact A5 (E4 Tryz.results81 (AT Aa) (AT Aa)) (sS sN) ⟨Aa,Aa⟩
   refine A0 (AY (Am (wm Aa (wm Aa (wv (BM CX Aa) (wv (r:=A4 (CL .i64 ((Al fields ha).length:Int) 8)) (Ry Aa Aa (by decide)) (wv (r:=rI .u8 (IntKind.wrap .u8 (CL .i64 ((Al fields ha).length:Int) 8))) (C5 ⟨_,YW⟩ Sk Aa) (wm Aa (wv (BM CX Aa) (wv (r:=rI .u8 (IntKind.wrap .u8 ((Al fields ha).length:Int))) (C5 ⟨_,YW⟩ Sk Aa) (Bf (ys:=([IntKind.wrap .u8 (CL .i64 ((Al fields ha).length:Int) 8),IntKind.wrap .u8 ((Al fields ha).length:Int)]:List Int)) (enc:=BY) (css:=[[rI .u8 (IntKind.wrap .u8 (CL .i64 ((Al fields ha).length:Int) 8))],[rI .u8 (IntKind.wrap .u8 ((Al fields ha).length:Int))]]) (xs:=[.tmp 27,.tmp 30]) EK ys5 yz5 Aa Aa Aa ⟨Em.one Aa (Up.refl _),Em.one Aa (Up.refl _),trivial⟩ Aa Ei Aa Aa Aa (λh9=>?_))))))))))));refine ck hu λhx hy=>Exists.elim Ov λinf hinf=>Cc (xs:=hb) (ys:=([IntKind.wrap .u8 (CL .i64 ((Al fields ha).length:Int) 8),IntKind.wrap .u8 ((Al fields ha).length:Int)]:List Int)) (enc:=BY) (i:=1) EK hinf.1 hinf.2.1 hinf.2.2.1 hinf.2.2.2 Aa Aa Aa Aa Aa (JD.w (i:=0) Aa Aa) Ei LB hx Aa (λv80=>?_);refine wa Aa (Ax (Ap (wm Aa (wm Aa (ck hy λhz h0=>Exists.elim Ov λinf hinf=>HK (xs:=hb++([IntKind.wrap .u8 (CL .i64 ((Al fields ha).length:Int) 8),IntKind.wrap .u8 ((Al fields ha).length:Int)]:List Int)) (i:=0) EK CX hinf.1 hinf.2.1 hinf.2.2.1 hinf.2.2.2 Aa Aa Aa hz Aa (λh1=>?_))))));refine wa Aa (Ar (AK (AY (Ap (ck h0 λh4 h5=>wv (BU Aa Aa h4) (wm Aa (Ar ?_)))))));have h6:=B8 h5 hf;exact A1 (AG (hm,((hb++([IntKind.wrap .u8 (CL .i64 ((Al fields ha).length:Int) 8),IntKind.wrap .u8 ((Al fields ha).length:Int)]:List Int))++D8 (Al fields ha),ha+1),h1) ⟨h6,Ago _⟩ (AI.c Aa (AI.c5 Aa Aa Aa Aa Aa AI.nil)) (sC (sS sN)))
  refine B9 (A9 ?_);have h7:=Co hq hf hh;exact A9 (Bj (AG (hb,hk) h7 (AI.c Aa (AI.c Aa (AI.c Aa AI.nil))) (sC sN)))
 rintro⟨hg,hA⟩ he;refine IY ?_;replace he:Nm hg=some r:=he;unfold Nm at he;refine Bm (AY (Am (wm Aa (wv (r:=rS (QI hg)) (W3 (xs:=hg) (i:=0) EK CX Sk Aa Aa) (wa Aa (wa Aa (Ax (A6 ?_))))))));obtain rfl:=AA he;exact A5 (E4 Tryz.results81 (AT Aa) (AT Aa)) (sS sN) ⟨Aa,Aa⟩
theorem Y4 (F:Nat)(s:Aj)(r:(List Aj)×Int)(h:Nl F s=some r):Fn Tryz.prog GE 63 [rS s] [] (λR H=>R=Db [Be 1 (A8 eS r.1),A4 r.2]∧H=[]):=by
 refine enter (n:=58) Tryz.func63 Aa Tryz.ntmps63 Aa (λw Z=>?_);unfold Nl at h;refine Am (wa Aa (wa Aa (Ax (QC (S:=(Int)×(Unit)) 0 (λσ=>DW σ.1=some r) (λσ=>[(2,rv (.slice none 0 0)),(3,A4 0),(7,A4 σ.1)]) (λσ=>[]) Aa ?_ ?_))))
 ·refine Am (wa Aa (B3 (wa Aa (wa Aa (B3 (wa Aa (Ax (Aq (Am (wm Aa (wv (Jq Aa Aa) (Ax (cz h Aa (λhm hn=>?_) (λhm ho=>?_))))))))))))))
  ·exact Ll (Cs (Lj (AG (14,()) hn (AI.c Aa (AI.c Aa (AI.c Aa AI.nil))) sN)))
  refine A0 (AY (Aq (ck ho λhp hq=>ck hq λhr hs=>ck hs λht hu=>D3 6 [0,2,3,4,6,7] [⟨[],rS s,none,none,none⟩,⟨[0],rI .u8 (BD s 0),none,none,none⟩,⟨[1],A4 (BD s 0),none,none,none⟩,⟨[],rS s,none,none,none⟩,⟨[3],rS (List.drop (BH 1) s),none,none,none⟩,⟨[2],A4 (BD s 0),none,none,none⟩] ?_ (λβ=>?_))))
  ·refine Dx (Ah Aa) (Dx (BF CX Aa Aa hp) (Dx (JS ⟨_,Sk⟩ YW Aa hr) (Dx (Ah Aa) (Dx (DV CX Aa Aa ht) (Dx (AC Aa) ?_)))));exact Tg
  refine Cr (H1:=[]) [10,11,12,13,14,5,0,2,3,4,6,7] ?_;refine wa Aa (Ax (Aq (Am (wm Aa (wv (Ec Aa Aa) (Ax (cz hu Aa (λc167 hw=>?_) (λc167 hx=>?_))))))))
  ·exact Am (wa Aa (Ax (Ll (Cs (Lj (AG (13,()) hw (AI.c Aa (AI.c Aa (AI.c Aa AI.nil))) sN))))))
  refine A0 (AY (Aq (Am (wm Aa (wv (r:=A4 0) (Ah Aa) (Ax (AO (WC.nilrow (e:=9) (sz:=1) (ob hx λhy hz hg=>B5 (S:=Nat×(Aj×(List Aj)×Int×Int)×(Value)) (V:=(Aj×(List Aj))×(Value)) 0 (λσ=>Cj (λσ=>Dc s σ.1 σ.2.1 σ.2.2.1 σ.2.2.2) σ.1 σ.2.1=some hy) (λσ=>[(0,rS σ.2.1.1),(2,rv (.slice none 0 0)),(3,A4 0),(4,rv σ.2.2),(6,A4 σ.2.1.2.2.1),(7,A4 14),(17,A4 (BD s 0)),(18,A4 σ.2.1.2.2.2)]) (λσ=>[.row σ.2.2 9 1 (A8 eS σ.2.1.2.1)]) (λσ=>σ.1) (F,(List.drop (BH 1) s,([]:List Aj),0,0),(.slice none 0 0         )) hz (AI.c Aa (AI.c Aa (AI.c Aa (AI.c5 Aa Aa Aa Aa Aa AI.nil)))) (sC sN) (λσ=>Gq σ.1.1 σ.1.2=some r) (λσ=>[(0,rS σ.1.1),(2,rv (.slice none 0 0)),(3,A4 0),(4,rv σ.2),(7,A4 14)]) (λσ=>[.row σ.2 9 1 (A8 eS σ.1.2)]) ?_ ?_)))))))))
  ·rintro⟨gs,⟨ha,hd,h0,hk⟩,v233⟩ h1;refine EL ?_;obtain⟨h2,rfl,h3,hh,hf⟩:=CM h1;replace hh:Dc s ha hd h0 hk=some h3:=hh;unfold Dc at hh;refine Am (wv (De Aa Aa) (Ax (Aq (cz hh Aa (λh4 h5=>?_) (λh4 h6=>?_)))))
   ·refine A0 (AY (Aq (AO (Aq (Am (wm Aa (wv (BM CX Aa) (wv (De Aa Aa) (Ax (cz h5 Aa (λh7 h8=>?_) (λh7 h9=>?_)))))))))))
    ·refine Ll (Cs (GT (Cs (Cs (K6 (GT (Cs (Lj (ob h8 λgt hA hB=>?_)))))))));have hC:=B4 hB hf hg;obtain rfl:=AA hC;exact AG (14,()) hA (AI.c Aa (AI.c Aa (AI.c Aa AI.nil))) (sS sN)
    refine A0 (AY (Aq (ck h9 λhD hE=>ck hE λhG hH=>ck hH λhI hJ=>ck hJ λhK hL=>ck hL λhN hO=>D3 11 [0,2,3,4,7,17,18,19,20,21,22] [⟨[],rS ha,none,none,none⟩,⟨[0],rI .u8 (BD ha 0),none,none,none⟩,⟨[1],A4 (BD ha 0),none,none,none⟩,⟨[2],A4 (D2 .i64 (BD ha 0) 8),none,none,none⟩,⟨[],rS ha,none,none,none⟩,⟨[4],rI .u8 (BD ha 1),none,none,none⟩,⟨[5],A4 (BD ha 1),none,none,none⟩,⟨[3,6],A4 (Ky .i64 (D2 .i64 (BD ha 0) 8) (BD ha 1)),none,none,none⟩,⟨[],rS ha,none,none,none⟩,⟨[8],rS (List.drop (BH 2) ha),none,none,none⟩,⟨[7],A4 (Ky .i64 (D2 .i64 (BD ha 0) 8) (BD ha 1)),none,none,none⟩] ?_ (λβ=>?_))))
    ·refine Dx (Ah Aa) (Dx (BF CX Aa Aa hD) (Dx (JS ⟨_,Sk⟩ YW Aa hG) (Dx (W0 Aa Aa (by decide)) (Dx (Ah Aa) (Dx (BF CX Aa Aa hI) (Dx (JS ⟨_,Sk⟩ YW Aa hK) (Dx (Acv Aa Aa) (Dx (Ah Aa) (Dx (DV CX Aa Aa hN) (Dx (AC Aa) ?_))))))))));exact Tg
    refine Cr (H1:=[.row v233 9 1 (A8 eS hd)]) [23,24,25,26,27,28,29,30,31,32,6,0,2,3,4,7,17,18,19,20,21,22] ?_;refine wa Aa (Ax (Aq (Am (wm Aa (wv (Ec Aa Aa) (Ax (cz hO Aa (λhP hQ=>?_) (λhP hR=>?_))))))))
    ·refine Am (wa Aa (Ax (Ll (Cs (GT (Cs (Cs (K6 (GT (Cs (Lj (ob hQ λgu hS hT=>?_))))))))))));have hU:=B4 hT hf hg;obtain rfl:=AA hU;exact AG (13,()) hS (AI.c Aa (AI.c Aa (AI.c Aa AI.nil))) (sS sN)
    refine A0 (AY (Aq (Am (wm Aa (wv (BM CX Aa) (wm Aa (wv (De Aa Aa) (Ax (cz hR Aa (λhV hW=>?_) (λhV hX=>?_))))))))))
    ·refine Ll (Cs (GT (Cs (Cs (K6 (GT (Cs (Lj (ob hW λgv hY hZ=>?_)))))))));have ga:=B4 hZ hf hg;obtain rfl:=AA ga;exact AG (14,()) hY (AI.c Aa (AI.c Aa (AI.c Aa AI.nil))) (sS sN)
    refine A0 (AY (ck hX λhl gb=>ck gb λgc gd=>Exists.elim Ng λinf hinf=>Pn 10 5 [0,2,3,6,7,17,18,20,21,22,23,24,25,26,27,28,29,30,31,32,33,34,35,36,37,38] [4] [{ deps:=[],r:=λ_=>rv v233,old:=[4] },{ deps:=[],r:=λ_=>rS (List.drop (BH 2) ha) },{ deps:=[],r:=λ_=>A4 (Ky .i64 (D2 .i64 (BD ha 0) 8) (BD ha 1)) },{ deps:=[1,2],r:=λ_=>rS (List.take (BH (Ky .i64 (D2 .i64 (BD ha 0) 8) (BD ha 1))) (List.drop (BH 2) ha)) },{ deps:=[3],r:=λ_=>Be 1 (A8 eS ([List.take (BH (Ky .i64 (D2 .i64 (BD ha 0) 8) (BD ha 1))) (List.drop (BH 2) ha)]:List Aj)) },{ deps:=[0,4],r:=λhb=>rv hb,dyn:=true },{ deps:=[],r:=λ_=>rS (List.drop (BH 2) ha) },{ deps:=[],r:=λ_=>A4 (Ky .i64 (D2 .i64 (BD ha 0) 8) (BD ha 1)) },{ deps:=[6,7],r:=λ_=>rS (List.drop (BH (Ky .i64 (D2 .i64 (BD ha 0) 8) (BD ha 1))) (List.drop (BH 2) ha)) },{ deps:=[5],r:=λhb=>rv hb,dyn:=true }] (λhb=>[.row hb 9 1 (A8 eS (hd++([List.take (BH (Ky .i64 (D2 .i64 (BD ha 0) 8) (BD ha 1))) (List.drop (BH 2) ha)]:List Aj)))]) ?_ (λhb=>?_)))
    ·refine K1 (Ah Aa) (K1 (Ah Aa) (K1 (Ah Aa) (K1 (Mq CX Aa Aa hl) (oxc (CF (ys:=([List.take (BH (Ky .i64 (D2 .i64 (BD ha 0) 8) (BD ha 1))) (List.drop (BH 2) ha)]:List Aj)) (enc:=eS) (css:=[[rS (List.take (BH (Ky .i64 (D2 .i64 (BD ha 0) 8) (BD ha 1))) (List.drop (BH 2) ha))]]) (xs:=[.tmp 42]) C7 BS Tk Aa Aa Aa ⟨Em.one Aa (Up.refl _),trivial⟩ Aa Di Aa Aa) (oxx (K4 (xs:=hd) (ys:=([List.take (BH (Ky .i64 (D2 .i64 (BD ha 0) 8) (BD ha 1))) (List.drop (BH 2) ha)]:List Aj)) (enc:=eS) (i:=0) C7 hinf.1 hinf.2.1 hinf.2.2.1 hinf.2.2.2 Aa Aa Aa Aa Aa (JD.z Aa Aa) Di Kd gc) (K1 (Ah Aa) (K1 (Ah Aa) (K1 (DV CX Aa Aa hl) (K1 (fun {hb _}=>(AC Aa)) ?_)))))))));exact oxe
    refine Cr (H1:=[.row hb 9 1 (A8 eS (hd++([List.take (BH (Ky .i64 (D2 .i64 (BD ha 0) 8) (BD ha 1))) (List.drop (BH 2) ha)]:List Aj)))]) [39,40,41,42,43,44,45,46,47,4,0,2,3,6,7,17,18,20,21,22,23,24,25,26,27,28,29,30,31,32,33,34,35,36,37,38] ?_;refine wa Aa (Ar (AK (AY (Ap (ck gd λge gf=>wv (BU Aa Aa ge) (wm Aa (Ar ?_)))))));have gg:=B8 gf hf;exact A1 (AG (h2,(List.drop (BH (Ky .i64 (D2 .i64 (BD ha 0) 8) (BD ha 1))) (List.drop (BH 2) ha),hd++([List.take (BH (Ky .i64 (D2 .i64 (BD ha 0) 8) (BD ha 1))) (List.drop (BH 2) ha)]:List Aj),Ky .i64 (D2 .i64 (BD ha 0) 8) (BD ha 1),hk+1),hb) ⟨gg,Ago _⟩ (AI.c Aa (AI.c Aa (AI.c Aa (AI.c5 Aa Aa Aa Aa Aa AI.nil)))) (sC sN))
   refine B9 (A9 ?_);have gh:=Co h6 hf hg;exact A9 (Bj (AG ((ha,hd),v233) gh (AI.c5 Aa Aa Aa Aa Aa AI.nil) (sC sN)))
  rintro⟨⟨gi,he⟩,gw⟩ hi;refine IY ?_;replace hi:Gq gi he=some r:=hi;unfold Gq at hi;refine Bm (AY (Aq (Am (wm Aa (wv (CV Aa Aa) (Ax (cz hi Aa (λgj gl=>?_) (λgj gm=>?_))))))))
  ·exact Am (wa Aa (Ax (Ll (Cs (Lj (AG (13,()) gl (AI.c Aa (AI.c Aa (AI.c Aa AI.nil))) (sS sN)))))))
  refine A0 (AY (Aq (Am (wm Aa (wm Aa (wv (Ce (ys:=he) (enc:=eS) (i:=0) C7 Aa Aa) (wm Aa (wv (Ce (ys:=he) (enc:=eS) (i:=0) C7 Aa Aa) (WL.freeze (i:=0) Aa (WL.up (d:=51) (r:=Be 1 (A8 eS he)) Aa (Up.fact (i:=0) Aa) (ck gm λgp gq=>wv (r:=Be 1 (A8 eS (List.take (BH (he.length:Int)) he))) (Ok C7 BS Aa Aa Aa gp) (wa Aa (wa Aa (Ax (A6 (Ae (AbS ?_)))))))))))))))));obtain rfl:=AA gq;exact A5 (E4 Tryz.results63 (AT Aa) (AT Aa)) (sS sN) ⟨Aa,Aa⟩
 rintro⟨gr,⟨⟩⟩ hj;refine EL ?_;replace hj:DW gr=some r:=hj;unfold DW at hj;refine Aq (A0 (AY (Am (wm Aa (wa Aa (wa Aa (Ax (A6 (Li (WK.up (d:=2) (r:=Be 1 (A8 eS ([]:List Aj))) Aa (Up.le (M1.nil _)) ?_))))))))));obtain rfl:=AA hj;exact A5 (E4 Tryz.results63 (AT Aa) (AT Aa)) sN ⟨Aa,Aa⟩
theorem AcQ (F:Nat)(body:Aj)(r:Aj×Int)(h:Qh F body=some r):Fn Tryz.prog GE 112 [rS body] [] (λR H=>R=Db [rS r.1,A4 r.2]∧H=[]):=by
 refine enter (n:=17) Tryz.func112 Aa Tryz.ntmps112 Aa (λw Z=>?_);unfold Qh at h;refine Am (wv (r:=rS ([]:Aj)) (AC Aa) (wa Aa (Ax (Aq (Am (wm Aa (wv (BM CX Aa) (wv (Ec Aa Aa) (Ax (cz h Aa (λc1 h2=>?_) (λc1 h3=>?_)))))))))))
 ·refine Am (wv (r:=rS ([]:Aj)) (AC Aa) (wa Aa (Ax (A6 (Ae ?_)))));obtain rfl:=AA h2;exact A5 (E4 Tryz.results112 (AT Aa) (AT Aa)) sN ⟨Aa,Aa⟩
 refine A0 (AY (Am (wm Aa (wv (BM CX Aa) (wv (r:=rI .u32 (IntKind.wrap .u32 (body.length:Int))) (C5 ⟨_,YW⟩ Ki Aa) (ob h3 λr4 e6 h5=>DM Tryz.call147 (RT (IntKind.wrap .u32 (body.length:Int)) r4 e6) Aa (wm Aa (ob h5 λr7 e9 h8=>DM Tryz.call122 (AaV F body r7 e9) Aa (ob h8 λha hb hd=>DM Tryz.call147 (RT r7 ha hb) Aa (ck hd λhe hf=>wv (PF Aa Aa he) (wm Aa (ck hf λg15 hg=>wv (PF Aa Aa g15) (wa Aa (wa Aa (Ax (A6 ?_))))))))))))))));obtain rfl:=AA hg;exact A5 (E4 Tryz.results112 (AT Aa) (AT Aa)) sN ⟨Aa,Aa⟩
theorem AcS (F:Nat)(s:Aj)(r:Aj×Int×Int)(h:U1 F s=some r):Fn Tryz.prog GE 98 [rS s] [] (λR H=>R=Db [rS r.1,A4 r.2.1,A4 r.2.2]∧H=[]):=by
 refine enter (n:=35) Tryz.func98 Aa Tryz.ntmps98 Aa (λw Z=>?_);unfold U1 at h;refine Am (wv (r:=rS ([]:Aj)) (AC Aa) (wa Aa (wa Aa (Ax (Aq (Am (wm Aa (wv (BM CX Aa) (wv (De Aa Aa) (Ax (cz h Aa (λc1 h2=>?_) (λc1 h3=>?_))))))))))))
 ·refine Am (wv (r:=rS ([]:Aj)) (AC Aa) (wa Aa (wa Aa (Ax (A6 (Ae ?_))))));obtain rfl:=AA h2;exact A5 (ZG Zg (AT Aa) (AT Aa) (AT Aa)) sN ⟨Aa,Aa⟩
 refine A0 (AY (Am (wm Aa (ob h3 λr4 e6 h5=>DM Tryz.call121 (RS s r4 e6) Aa (wv (r:=A4 (IntKind.wrap .i64 r4)) (C5 ⟨_,Ki⟩ YW Aa) (wa Aa (Ax (Aq (AO (Am (wm Aa (wv (Ec Aa Aa) (wa Aa (Ax (cz h5 Aa (λc7 h8=>?_) (λc7 h9=>?_))))))))))))))))
 ·refine Am (wv (r:=rS ([]:Aj)) (AC Aa) (wa Aa (wa Aa (Ax (A6 (A7 (Ae ?_)))))));obtain rfl:=AA h8;exact A5 (ZG Zg (AT Aa) (AT Aa) (AT Aa)) sN ⟨Aa,Aa⟩
 refine Am (wm Aa (wm Aa (wv (BM CX Aa) (ck h9 λhb hd=>wv (PC Aa Aa hb) (wv (Ec Aa Aa) (wa Aa (Ax (cz hd Aa (λhe hf=>?_) (λhe hg=>?_)))))))))
 ·refine Am (wv (r:=rS ([]:Aj)) (AC Aa) (wa Aa (wa Aa (Ax (A6 (A7 (Ae ?_)))))));obtain rfl:=AA hf;exact A5 (ZG Zg (AT Aa) (AT Aa) (AT Aa)) sN ⟨Aa,Aa⟩
 refine A0 (AK (AY (Am (wm Aa (wm Aa (ck hg λg15 hh=>wv (BU Aa Aa g15) (ck hh λg17 hi=>ck hi λg19 hj=>wv (Mp CX Aa Aa Aa g17 g19) (wa Aa (Ax (Aq (Aq (ob hj λha hk hl=>ck hl λhm hn=>D3 4 [0,5,6] [⟨[],rS (List.take (BH (8+(IntKind.wrap .i64 r4))-BH 8) (List.drop (BH 8) s)),none,none,none⟩,⟨[0],rI .u32 ha,none,none,none⟩,⟨[],rS s,none,none,none⟩,⟨[2],rS (List.drop (BH 4) s),none,none,none⟩] ?_ (λβ=>?_)))))))))))))
 ·refine Dx (Ah Aa) (O7 (GI Tryz.call122 (AaV F (List.take (BH (8+(IntKind.wrap .i64 r4))-BH 8) (List.drop (BH 8) s)) ha hk) Aa) (Dx (Ah Aa) (Dx (DV CX Aa Aa hm) ?_)));exact Tg
 refine Cr (H1:=[]) [26,27,28,29,0,5,6] ?_;refine ob hn λho hp hq=>DM Tryz.call121 (RS (List.drop (BH 4) s) ho hp) Aa (wv (Cl Aa Aa) (Ax (cz hq Aa (λhr hs=>?_) (λhr ht=>?_))))
 ·refine Am (wv (r:=rS ([]:Aj)) (AC Aa) (wa Aa (wa Aa (Ax (A6 (Ae ?_))))));obtain rfl:=AA hs;exact A5 (ZG Zg (AT Aa) (AT Aa) (AT Aa)) sN ⟨Aa,Aa⟩
 refine A0 (AY (Am (wm Aa (wm Aa (wv (BU Aa Aa g15) (wa Aa (wa Aa (wa Aa (Ax (A6 ?_))))))))));obtain rfl:=AA ht;exact A5 (ZG Zg (AT Aa) (AT Aa) (AT Aa)) sN ⟨Aa,Aa⟩
theorem Abd (F:Nat)(s:Aj)(r:(List Aj)×Int)(h:Qg F s=some r):Fn Tryz.prog GE 62 [rS s] [] (λR H=>R=Db [Be 1 (A8 eS r.1),A4 r.2]∧H=[]):=by
 refine enter (n:=37) Tryz.func62 Aa Tryz.ntmps62 Aa (λw Z=>?_);unfold Qg at h;refine Am (wa Aa (wa Aa (B3 (wa Aa (B3 (wa Aa (Ax (Aq (AO (WC.nilrow (e:=9) (sz:=1) (ob h λhk hl hi=>B5 (S:=Nat×((List Aj)×Int)×(Value)) (V:=((List Aj)×Int)×(Value)) 0 (λσ=>Cj (λσ=>Hk F s σ.1 σ.2) σ.1 σ.2.1=some hk) (λσ=>[(0,rS s),(2,rv (.slice none 0 0)),(3,A4 0),(4,rv σ.2.2),(5,A4 σ.2.1.2)]) (λσ=>[.row σ.2.2 9 1 (A8 eS σ.2.1.1)]) (λσ=>σ.1) (F,(([]:List Aj),0),(.slice none 0 0         )) hl (AI.c5 Aa Aa Aa Aa Aa AI.nil) (sC sN) (λσ=>J9 σ.1.1 σ.1.2=some r) (λσ=>[(2,rv (.slice none 0 0)),(3,A4 0),(4,rv σ.2),(5,A4 σ.1.2)]) (λσ=>[.row σ.2 9 1 (A8 eS σ.1.1)]) ?_ ?_)))))))))))
 ·rintro⟨hA,⟨hd,he⟩,hj⟩ hm;refine EL ?_;obtain⟨hn,rfl,ho,hf,hh⟩:=CM hm;replace hf:Hk F s hd he=some ho:=hf;unfold Hk at hf;refine Aq (Am (wm Aa (wm Aa (wv (BM CX Aa) (wv (De Aa Aa) (Ax (cz hf Aa (λhp hq=>?_) (λhp hr=>?_))))))))
  ·refine A0 (AY (AO (Am (wm Aa (wm Aa (ck hq λhs ht=>wv (DV CX Aa Aa hs) (ob ht λha hu hw=>DM Tryz.call98 (AcS F (List.drop (BH he) s) ha hu) Aa (wm Aa (wv (AD Aa Aa) (wv (AD Aa Aa) (wv (AD Aa Aa) (wa Aa (wa Aa (wa Aa (Ax (Aq (Am (wm Aa (wv (Cl Aa Aa) (Ax (cz hw Aa (λc167 hx=>?_) (λc167 hy=>?_))))))))))))))))))))))
   ·refine B9 (A9 (Pj Aa ?_));have hz:=Co hx hh hi;exact A9 (Bj (AG ((hd,he),hj) hz (AI.c Aa (AI.c Aa (AI.c Aa (AI.c Aa AI.nil)))) (sC sN)))
   refine A0 (AY (Ap (wm Aa (wm Aa (Bf (ys:=([ha.1]:List Aj)) (enc:=eS) (css:=[[rS ha.1]]) (xs:=[.tmp 24]) C7 BS Tk Aa Aa Aa ⟨Em.one Aa (Up.refl _),trivial⟩ Aa Di Aa Aa Aa (λhB=>?_))))));refine ck hy λh0 h1=>Exists.elim Ng λinf hinf=>Cc (xs:=hd) (ys:=([ha.1]:List Aj)) (enc:=eS) (i:=1) C7 hinf.1 hinf.2.1 hinf.2.2.1 hinf.2.2.2 Aa Aa Aa Aa Aa (JD.w (i:=0) Aa Aa) Di Kd h0 Aa (λh2=>?_);refine wm Aa (wm Aa (ck h1 λh3 h4=>wv (BU Aa Aa h3) (wa Aa (wa Aa (Ar (AK ?_))))));have h5:=B8 h4 hh;exact A1 (AG (hn,(hd++([ha.1]:List Aj),he+ha.2.1),h2) ⟨h5,Ago _⟩ (AI.c5 Aa Aa Aa Aa Aa AI.nil) (sC (sS sN)))
  refine B9 (A9 ?_);have h6:=Co hr hh hi;exact A9 (Bj (AG ((hd,he),hj) h6 (AI.c Aa (AI.c Aa (AI.c Aa (AI.c Aa AI.nil)))) (sC sN)))
 rintro⟨⟨hb,h7⟩,hC⟩ hg;refine IY ?_;replace hg:J9 hb h7=some r:=hg;unfold J9 at hg;refine Bm (AY (Am (wm Aa (wm Aa (wv (Ce (ys:=hb) (enc:=eS) (i:=0) C7 Aa Aa) (wm Aa (wv (Ce (ys:=hb) (enc:=eS) (i:=0) C7 Aa Aa) (WL.freeze (i:=0) Aa (WL.up (d:=30) (r:=Be 1 (A8 eS hb)) Aa (Up.fact (i:=0) Aa) (ck hg λh8 h9=>wv (r:=Be 1 (A8 eS (List.take (BH (hb.length:Int)) hb))) (Ok C7 BS Aa Aa Aa h8) (wm Aa (wa Aa (wa Aa (Ax (A6 ?_)))))))))))))));obtain rfl:=AA h9;exact A5 (E4 Tryz.results62 (AT Aa) (AT Aa)) (sS sN) ⟨Aa,Aa⟩
theorem AcT (F:Nat)(bodies:(List Aj))(r:Aj×Int)(h:U2 F bodies=some r):Fn Tryz.prog GE 82 [Be 1 (A8 eS bodies)] [] (λR H=>R=Db [rS r.1,A4 r.2]∧H=[]):=by
 refine enter (n:=36) Tryz.func82 Aa Tryz.ntmps82 Aa (λw Z=>?_);unfold U2 at h;refine Am (wv (r:=rS ([]:Aj)) (AC Aa) (wa Aa (B3 (wa Aa (Ax (Aq (Am (wm Aa (wv (By (ys:=bodies) (enc:=eS) C7 Aa) (wv (r:=A4 0) (Ah Aa) (Ax (AO (WC.nilrow (e:=5) (sz:=1) (ob h λhl hm hk=>B5 (S:=Nat×((List Int)×Int)×(Value)) (V:=((List Int))×(Value)) 0 (λσ=>Cj (λσ=>GL F bodies σ.1 σ.2) σ.1 σ.2.1=some hl) (λσ=>[(4,rv σ.2.2),(9,Be 1 (A8 eS bodies)),(10,A4 (bodies.length:Int)),(11,A4 σ.2.1.2)]) (λσ=>[.row σ.2.2 5 1 (A8 BY σ.2.1.1)]) (λσ=>σ.1) (F,(([]:List Int),0),(.slice none 0 0     )) hm (AI.c Aa (AI.c Aa (AI.c Aa (AI.c Aa AI.nil)))) (sC sN) (λσ=>KT σ.1=some r) (λσ=>[(4,rv σ.2)]) (λσ=>[.row σ.2 5 1 (A8 BY σ.1)]) ?_ ?_))))))))))))))
 ·rintro⟨hB,⟨hb,he⟩,hh⟩ hn;refine EL ?_;obtain⟨ho,rfl,hp,hf,hi⟩:=CM hn;replace hf:GL F bodies hb he=some hp:=hf;unfold GL at hf;refine Am (wv (De Aa Aa) (Ax (Aq (cz hf Aa (λhq hr=>?_) (λhq hs=>?_)))))
  ·refine A0 (AY (Aq (AO (Am (ck hr λht hu=>wv (AU (enc:=eS) (ys:=bodies) C7 BS Aa Aa ht) (wv (AH Cf Aa Aa) (wa Aa (B3 (wm Aa (ob hu λhd hw hx=>DM Tryz.call112 (AcQ F (Al bodies he) hd hw) Aa (wm Aa (wv (AD Aa Aa) (wv (AD Aa Aa) (wa Aa (wa Aa (Ax (Aq (ck hx λhy hz=>AV [(4,rv hh),(7,rS hd.1),(9,Be 1 (A8 eS bodies)),(10,A4 (bodies.length:Int)),(11,A4 he),(29,rB ((!decide (hd.2=0))||(decide (262144<((hb.length:Int)+(hd.1.length:Int))))))] [.row hh 5 1 (A8 BY hb)] ?_ ?_))))))))))))))))))
   ·refine Ap (wm Aa (wv (Cl Aa Aa) (wm Aa (AZ (!decide (hd.2=0)) (λha=>?_) (λha=>?_)))))
    ·refine wf ha (wf ha (wf ha (wf ha (wf ha (wf ha (wv (r:=rB true) (A3 Aa ha Aa) (Ar ?_)))))));exact C8 ha
    refine wo ha (wm Aa (wo ha (wv (Ce (ys:=hb) (enc:=BY) (i:=0) EK Aa Aa) (wo ha (wm Aa (wo ha (wv (BM CX Aa) (wo ha (wv (BU Aa Aa (ED hy ha)) (wo ha (wv (Ec Aa Aa) (GO Aa ha Aa (Ar ?_)))))))))))));exact C8 ha
   refine cz hz Aa (λh0 h1=>?_) (λh0 h2=>?_)
   ·refine Am (wv (r:=rS ([]:Aj)) (AC Aa) (wa Aa (Ax (A6 (Ae (A7 (Ae (Ae (Bc ?_)))))))));have h3:=B4 h1 hi hk;refine A7 (Ae ?_);obtain rfl:=AA h3;exact A5 (E4 Tryz.results82 (AT Aa) (AT Aa)) (sS sN) ⟨Aa,Aa⟩
   refine A0 (AY (Ap (wm Aa (wm Aa (ck h2 λh4 h5=>Exists.elim Ov λinf hinf=>HK (xs:=hb) (i:=0) EK CX hinf.1 hinf.2.1 hinf.2.2.1 hinf.2.2.2 Aa Aa Aa h4 Aa (λh6=>?_))))));refine wa Aa (Ar (AK (AY (Ap (ck h5 λh7 h8=>wv (BU Aa Aa h7) (wm Aa (Ar ?_)))))));have h9:=B8 h8 hi;exact A1 (AG (ho,(hb++D8 hd.1,he+1),h6) ⟨h9,Ago _⟩ (AI.c Aa (AI.c Aa (AI.c Aa (AI.c Aa AI.nil)))) (sC sN))
  refine B9 (A9 ?_);have hA:=Co hs hi hk;exact A9 (Bj (AG (hb,hh) hA (AI.c Aa AI.nil) (sC sN)))
 rintro⟨hj,hC⟩ hg;refine IY ?_;replace hg:KT hj=some r:=hg;unfold KT at hg;refine Bm (AY (Am (wm Aa (wv (r:=rS (QI hj)) (W3 (xs:=hj) (i:=0) EK CX Sk Aa Aa) (wa Aa (wa Aa (Ax (A6 ?_))))))));obtain rfl:=AA hg;exact A5 (E4 Tryz.results82 (AT Aa) (AT Aa)) (sS sN) ⟨Aa,Aa⟩
end Go.Proofs.YtfobhhegpkinaaaGreatDoor.Q
namespace Go.Proofs.YtfobhhegpkinaaaGreatDoor
open Go
set_option linter.unusedVariables false
set_option linter.unusedSimpArgs false
section
variable {T S : Type}
def Cm:List (Aj×T)→Aj→Option T
 | [],_=>none
 | p::r,k=>bif decide (p.1=k) then some p.2 else Cm r k
def BE (xs:List (Aj×T))(k:Aj)(z:T):T:=(Cm xs k).getD z
def EP (xs:List (Aj×T))(k:Aj):Bool:=(Cm xs k).isSome
def mins (k:Aj)(v:T):List (Aj×T)→List (Aj×T)
 | []=>[(k,v)]
 | p::r=>bif C9 k p.1 then(k,v)::p::r else p::mins k v r
def mput (xs:List (Aj×T))(k:Aj)(v:T):List (Aj×T):=xs.map λp=>bif decide (p.1=k) then(k,v) else p
def mset (xs:List (Aj×T))(k:Aj)(v:T):List (Aj×T):=bif EP xs k then mput xs k v else mins k v xs
def mdel (xs:List (Aj×T))(k:Aj):List (Aj×T):=xs.filter λp=>!decide (p.1=k)
def AF (f:T→S)(xs:List (Aj×T)):List (Aj×S):=xs.map λp=>(p.1,f p.2)
theorem MZ (f:T→S):∀(xs:List (Aj×T)) (k:Aj),Cm (AF f xs) k=(Cm xs k).map f
 | [],k=>rfl
 | p::r,k=>by
  show(bif decide (p.1=k) then some (f p.2) else Cm (AF f r) k)=_;rw[Cm,MZ f r k]
  cases decide (p.1=k)<;>rfl
theorem Aa1 (f:T→S)(xs:List (Aj×T))(k:Aj):EP (AF f xs) k=EP xs k:=by
 unfold EP;rw[MZ];cases Cm xs k<;>rfl
theorem Uc (f:T→S)(k:Aj)(v:T):∀xs:List (Aj×T),AF f (mins k v xs)=mins k (f v) (AF f xs)
 | []=>rfl
 | p::r=>by
  show AF f (bif C9 k p.1 then(k,v)::p::r else p::mins k v r)=(bif C9 k p.1 then(k,f v)::(p.1,f p.2)::AF f r else(p.1,f p.2)::mins k (f v) (AF f r));rw[← Uc f k v r]
  cases C9 k p.1<;>rfl
theorem Aaz (f:T→S)(xs:List (Aj×T))(k:Aj)(v:T):AF f (mset xs k v)=mset (AF f xs) k (f v):=by
 unfold mset;rw[Aa1]
 cases EP xs k with
 | false=>exact Uc f k v xs
 | true=>
  show AF f (mput xs k v)=mput (AF f xs) k (f v);unfold AF mput;rw[AgX,AgX];refine List.map_congr_left λp _=>?_;show _=(bif decide (p.1=k) then(k,f v) else(p.1,f p.2));simp only[Function.comp]
  cases decide (p.1=k)<;>rfl
theorem Aa4 (f:T→S)(xs:List (Aj×T))(k:Aj):AF f (mdel xs k)=mdel (AF f xs) k:=by
 unfold AF mdel;rw[List.filter_map];rfl
theorem Hy (f:T→S)(xs:List (Aj×T)):(AF f xs).length=xs.length:=by simp[AF]
theorem NB (k:Aj)(v:T):∀xs:List (Aj×T),(mins k v xs).Perm ((k,v)::xs)
 | []=>Agn _
 | p::r=>by
  rw[mins]
  cases C9 k p.1 with
  | true=>exact Agn _
  | false=>exact((NB k v r).cons p).trans (List.Perm.swap _ _ _)
def HQ (x:T):List T→List (List T)
 | []=>[[x]]
 | y::r=>(x::y::r)::(HQ x r).map (y::·)
def LS:List T→List (List T)
 | []=>[[]]
 | x::r=>(LS r).flatMap (HQ x)
theorem Oo (x:T):∀(a b:List T),a++x::b∈HQ x (a++b)
 | [],[]=>by simp[HQ]
 | [],y::b=>by simp[HQ]
 | y::a,b=>by
  simp only[AgL,HQ,Ahb,List.mem_map];exact .inr ⟨_,Oo x a b,rfl⟩
theorem RA:∀(xs ys:List T),ys.Perm xs→ys∈LS xs
 | [],ys,h=>by rw[h.eq_nil];simp[LS]
 | x::r,ys,h=>by
  have hx:x∈ys:=h.symm.subset (List.mem_cons_self ..);obtain⟨a,b,rfl⟩:=List.append_of_mem hx;have h2:(a++b).Perm r:=(List.perm_middle.symm.trans h).cons_inv;simp only[LS,List.mem_flatMap];exact⟨a++b,RA r _ h2,Oo x a b⟩
def Ub {R:Type}[DecidableEq R](xs:List T)(K:List T→Option R):Option R:=match K xs with
 | none=>none
 | some r=>bif (LS xs).all (λp=>decide (K p=some r)) then some r else none
theorem V1 {R:Type}[DecidableEq R]{xs:List T}{K:List T→Option R}{r:R}(h:Ub xs K=some r):∀p:List T,p.Perm xs→K p=some r:=λp hp=>by
 unfold Ub at h
 cases hk:K xs with
 | none=>rw[hk] at h;cases h
 | some q=>
  rw[hk] at h;simp only at h
  cases ha:(LS xs).all (λp=>decide (K p=some q)) with
  | false=>rw[ha] at h;cases h
  | true=>
   rw[ha] at h;cases h;exact Agm (List.all_eq_true.1 ha p (RA xs p hp))
theorem Jw (x:T):∀(xs ys:List T),ys∈HQ x xs→ys.Perm (x::xs)
 | [],ys,h=>by simp[HQ] at h;rw[h]
 | y::r,ys,h=>by
  simp only[HQ,Ahb,List.mem_map] at h;rcases h with rfl | ⟨z,hz,rfl⟩
  ·exact Agn _
  ·exact((Jw x r z hz).cons y).trans (List.Perm.swap _ _ _)
theorem P9:∀(xs ys:List T),ys∈LS xs→ys.Perm xs
 | [],ys,h=>by simp[LS] at h;rw[h]
 | x::r,ys,h=>by
  simp only[LS,List.mem_flatMap] at h;obtain⟨z,hz,hy⟩:=h;exact(Jw x z ys hy).trans ((P9 r z hz).cons x)
theorem Aa0 {R:Type}[DecidableEq R]{xs:List T}{K:List T→Option R}{r:R}(h:∀p:List T,p.Perm xs→K p=some r):Ub xs K=some r:=by
 unfold Ub;rw[h xs (Agn _)];have:(LS xs).all (λp=>decide (K p=some r))=true:=List.all_eq_true.2 λp hp=>Agc (h p (P9 xs p hp));simp only[this];rfl
def RE {St O:Type}(body:T→St→Option (Stp St (Out O St))):List T→St→Option (Out O St)
 | [],s=>some (.go s)
 | x::r,s=>match body x s with
  | none=>none
  | some (.next s')=>RE body r s'
  | some (.out o)=>some o
def Afs {St R:Type}(body:T→St→Option (Stp St (Out R St)))(ys:List T)(K:St→Option R)(r:R):Stp St (Out R St)→Prop
 | .next s'=>∀q:List T,q.Perm ys→Bs (RE body q s') (BQ K)=some r
 | .out o=>BQ K o=some r
theorem AaF {St R:Type}{body:T→St→Option (Stp St (Out R St))}{ys ys':List T}{p:T}{s:St}{K:St→Option R}{r:R}(h:∀q:List T,q.Perm ys→Bs (RE body q s) (BQ K)=some r)(hp:ys.Perm (p::ys')):∃t,body p s=some t∧Afs body ys' K r t:=by
 have h1:∀q:List T,q.Perm ys'→Bs (RE body (p::q) s) (BQ K)=some r:=λq hq=>h _ ((hq.cons p).trans hp.symm)
 cases hb:body p s with
 | none=>
  have:=h1 ys' (Agn _);rw[RE,hb] at this;cases this
 | some t=>
  refine⟨t,rfl,?_⟩
  cases t with
  | next s'=>
   intro q hq;have:=h1 q hq;rw[RE,hb] at this;exact this
  | out o=>
   have:=h1 ys' (Agn _);rw[RE,hb] at this;exact this
theorem SO {St R:Type}{body:T→St→Option (Stp St (Out R St))}{ys:List T}{s:St}{K:St→Option R}{r:R}(h:∀q:List T,q.Perm ys→Bs (RE body q s) (BQ K)=some r)(hy:ys=[]):K s=some r:=by
 subst hy;exact h [] (Agn _)
theorem ND {St R:Type}{body:T→St→Option (Stp St (Out R St))}{ys:List T}{s':St}{K:St→Option R}{r:R}{t:Stp St (Out R St)}(h:some (Stp.next s')=some t)(ht:Afs body ys K r t):∀q:List T,q.Perm ys→Bs (RE body q s') (BQ K)=some r:=by cases h;exact ht
theorem SB {ys ys':List T}{p:T}(h:ys.Perm (p::ys')):ys'.length<ys.length:=by rw[h.length_eq];exact Ago _
end
structure As where
 fKind:Int
 fKey:Aj
 fValue:(List Ac)
 fDelay:Int
 deriving DecidableEq,Inhabited
structure An where
 fID:Aj
 fTenant:Aj
 fCause:Aj
 fAt:Int
 fEffect:As
 deriving DecidableEq,Inhabited
structure AE where
 fEvent:Aj
 fTenant:Aj
 fAttempt:Int
 fResult:(List Ac)
 fEffects:(List As)
 fAt:Int
 deriving DecidableEq,Inhabited
def HA (ys:(List Ac)):Option ((List Ac)):=
 Bi (Dv 40 (([]:List Ac).length+ys.length))<|some (([]:List Ac)++ys)
def BP (n:Int):Option (Bool):=
 some ((decide (0≤n))&&(decide (n≤1073741824)))
def Gz (k:Int):Option (Bool):=
 some ((decide (k=3))||((decide (k=4))||(decide (k=5))))
def SJ (x:As):Option (Bool):=
 B0 (((decide (x.fKind=3))||(decide (x.fKind=4)))) (some (Hx x.fKey)) (some (Mw x.fKey))
def CS (v:(List Ac)):Option (Bool):=
 Bi (imp (decide (1<(v.length:Int))) (Da 0 (v.length:Int)))<|Bi (imp (decide (1<(v.length:Int))) (imp (decide (((Al v 0).fKind)=5)) (Da 1 (v.length:Int))))<|some ((decide (1<(v.length:Int)))&&((decide (((Al v 0).fKind)=5))&&(decide (((Al v 1).fKind)=4))))
def Lv (F:Nat)(event:Aj)(x:As)(i:Int):Option (Int):=
 B0 (((decide (x.fKind<1))||(decide (5<x.fKind)))) (some 7) (Bs (SJ x) λr6=>B0 (!r6) (some 4) (B0 (decide (x.fKind=2)) (B0 (decide (0<(x.fValue.length:Int))) (some 7) (Bi (imp (decide (x.fKind=5)) ((CS x.fValue).isSome))<|B0 (((decide (x.fKind=5))&&(!(ov (CS x.fValue))))) (some 7) (Bi (imp (!decide (x.fKind=4)) (imp (!(!decide (x.fDelay=0))) ((BP x.fDelay).isSome)))<|Bi (imp (!(!decide (x.fKind=4))) ((BP x.fDelay).isSome))<|B0 ((bif !decide (x.fKind=4) then((!decide (x.fDelay=0))||(!(ov (BP x.fDelay)))) else !(ov (BP x.fDelay)))) (some 2) (Bs (Gz x.fKind) λhb=>B0 (hb) (Bi (Dv 1 event.length)<|Bi (Ch .i64 i)<|some (CC event i)) (some 0))))) (Bs (JJ F x.fValue) λha=>B0 (!decide (ha=0)) (some ha) (Bi (imp (decide (x.fKind=5)) ((CS x.fValue).isSome))<|B0 (((decide (x.fKind=5))&&(!(ov (CS x.fValue))))) (some 7) (Bi (imp (!decide (x.fKind=4)) (imp (!(!decide (x.fDelay=0))) ((BP x.fDelay).isSome)))<|Bi (imp (!(!decide (x.fKind=4))) ((BP x.fDelay).isSome))<|B0 ((bif !decide (x.fKind=4) then((!decide (x.fDelay=0))||(!(ov (BP x.fDelay)))) else !(ov (BP x.fDelay)))) (some 2) (Bs (Gz x.fKind) λhd=>B0 (hd) (Bi (Dv 1 event.length)<|Bi (Ch .i64 i)<|some (CC event i)) (some 0)))))))
def G3 (F:Nat)(c:AE)(ha:Int):Option (Stp (Int) (Out (Int) (Unit))):=
 B0 (decide (ha<(c.fEffects.length:Int))) (Bi (Da ha (c.fEffects.length:Int))<|Bs (Lv F c.fEvent (Al c.fEffects ha) ha) λhb=>B0 (!decide (hb=0)) (some (.out (.ret hb))) (Bi (Ch .i64 (ha+1))<|some (.next (ha+1)))) (some (.out (.go ())))
def Jt :Option (Int):=
 some 0
def NA (F:Nat)(c:AE):Option (Int):=
 B0 (((!(Mw c.fEvent))||(!(Hx c.fTenant)))) (some 4) (Bi (imp (!(decide (c.fAttempt<1))) (imp (!(decide (1073741824<c.fAttempt))) ((BP c.fAt).isSome)))<|B0 (((decide (c.fAttempt<1))||((decide (1073741824<c.fAttempt))||(!(ov (BP c.fAt)))))) (some 2) (Bs (JJ F c.fResult) λha=>B0 (!decide (ha=0)) (some ha) (B0 (decide (32<(c.fEffects.length:Int))) (some 3) (Bs (Cj (λσ=>G3 F c σ) F 0) (BQ λν=>Jt )))))
def Vu (x:As):Option (As):=
 Bs (HA x.fValue) λr3=>some (As.mk x.fKind x.fKey r3 x.fDelay)
def Om (F:Nat)(v:(List Ac)):Option (Aj):=
 Bs (ME F v) λr1=>some r1.1
def Hv (F:Nat)(records:(List (List Aj)))(hb:(List Aj))(ha:Int):Option (Stp ((List Aj)×Int) (Out (Aj×Int) ((List Aj)))):=
 B0 (decide (ha<(records.length:Int))) (Bi (Da ha (records.length:Int))<|Bs (U0 F (Al records ha)) λhd=>B0 (!decide (hd.2=0)) (some (.out (.ret (([]:Aj),3)))) (Bi (Dv 16 (hb.length+([hd.1]:List Aj).length))<|Bi (Ch .i64 (ha+1))<|some (.next (hb++([hd.1]:List Aj),ha+1)))) (some (.out (.go hb)))
def Im (F:Nat)(hb:(List Aj)):Option (Aj×Int):=
 Bs (U2 F hb) λha=>B0 (!decide (ha.2=0)) (some (([]:Aj),3)) (some (ha.1,0))
def PI (F:Nat)(records:(List (List Aj))):Option (Aj×Int):=
 Bs (Cj (λσ=>Hv F records σ.1 σ.2) F (([]:List Aj),0)) (BQ λν=>Im F ν)
def Ev (F:Nat)(c:AE)(hb:(List (List Aj)))(ha:Int):Option (Stp ((List (List Aj))×Int) (Out (Aj×Int) ((List (List Aj))))):=
 B0 (decide (ha<(c.fEffects.length:Int))) (Bi (Da ha (c.fEffects.length:Int))<|Bi (Ch .i64 ((Al c.fEffects ha).fKind))<|Bi (Ch .i64 ((Al c.fEffects ha).fDelay))<|Bs (Om F ((Al c.fEffects ha).fValue)) λhd=>Bi (Dv 24 (hb.length+([([Lib.itoa ((Al c.fEffects ha).fKind),(Al c.fEffects ha).fKey,Lib.itoa ((Al c.fEffects ha).fDelay),hd]:List Aj)]:List (List Aj)).length))<|Bi (Ch .i64 (ha+1))<|some (.next (hb++([([Lib.itoa ((Al c.fEffects ha).fKind),(Al c.fEffects ha).fKey,Lib.itoa ((Al c.fEffects ha).fDelay),hd]:List Aj)]:List (List Aj)),ha+1))) (some (.out (.go hb)))
def Gi (F:Nat)(hb:(List (List Aj))):Option (Aj×Int):=
 Bs (PI F hb) λha=>some (ha.1,ha.2)
def JW (F:Nat)(c:AE):Option (Aj×Int):=
 Bs (NA F c) λr2=>B0 (!decide (r2=0)) (some (([]:Aj),r2)) (Bi (Ch .i64 c.fAttempt)<|Bi (Ch .i64 c.fAt)<|Bs (Om F c.fResult) λha=>Bs (Cj (λσ=>Ev F c σ.1 σ.2) F (([([([99,111,109,109,105,116]:Aj),c.fEvent,c.fTenant,Lib.itoa c.fAttempt,Lib.itoa c.fAt,ha]:List Aj)]:List (List Aj)),0)) (BQ λν=>Gi F ν))
def Gj (F:Nat)(id:Aj):Option (Aj×Int):=
 B0 (!(Mw id)) (some (([]:Aj),4)) (Bs (PI F ([([([97,99,107]:Aj),id]:List Aj)]:List (List Aj))) λr6=>some (r6.1,r6.2))
def Ew (ha:Int)(hb:Aj)(hd:Aj)(he:Int)(hf:(List Ac))(hg:(List As))(hh:Int):Option (Stp (Int×Aj×Aj×Int×(List Ac)×(List As)×Int) (Out (AE×Bool) (Aj×Aj×Int×(List Ac)×(List As)×Int))):=
 Bi (Ch .i64 (ha+1))<|some (.next (ha+1,hb,hd,he,hf,hg,hh))
def Ex (F:Nat)(l:(List (List Aj)))(ha:Int)(hd:Aj)(he:Aj)(hf:Int)(hg:(List Ac))(hb:(List As))(hh:Int):Option (Stp (Int×Aj×Aj×Int×(List Ac)×(List As)×Int) (Out (AE×Bool) (Aj×Aj×Int×(List Ac)×(List As)×Int))):=
 B0 (decide (ha<(l.length:Int))) (Bi (Da ha (l.length:Int))<|B0 (((decide (ha=0))&&(decide (((Al l ha).length:Int)=6)))) (Bi (Da 1 ((Al l ha).length:Int))<|Bi (Da 2 ((Al l ha).length:Int))<|Bi (Da 3 ((Al l ha).length:Int))<|Bi (Dv 1 (Al (Al l ha) 3).length)<|Bi (Da 4 ((Al l ha).length:Int))<|Bi (Dv 1 (Al (Al l ha) 4).length)<|Bi (Da 5 ((Al l ha).length:Int))<|Bs (JI F (Al (Al l ha) 5)) λhi=>B0 (((!decide ((BO (Al (Al l ha) 3))=0))||((!decide ((BO (Al (Al l ha) 4))=0))||(!decide (hi.2=0))))) (some (.out (.ret ((AE.mk (Al (Al l ha) 1) (Al (Al l ha) 2) (Bx (Al (Al l ha) 3)) hi.1 hb (Bx (Al (Al l ha) 4))),false)))) (Ew ha (Al (Al l ha) 1) (Al (Al l ha) 2) (Bx (Al (Al l ha) 3)) hi.1 hb (Bx (Al (Al l ha) 4)))) (B0 (((decide (0<ha))&&(decide (((Al l ha).length:Int)=4)))) (Bi (Da 0 ((Al l ha).length:Int))<|Bi (Dv 1 (Al (Al l ha) 0).length)<|B0 (!decide ((BO (Al (Al l ha) 0))=0)) (some (.out (.ret ((AE.mk hd he hf hg hb hh),false)))) (Bi (Da 1 ((Al l ha).length:Int))<|Bi (Da 2 ((Al l ha).length:Int))<|Bi (Dv 1 (Al (Al l ha) 2).length)<|B0 (!decide ((BO (Al (Al l ha) 2))=0)) (some (.out (.ret ((AE.mk hd he hf hg hb hh),false)))) (Bi (Da 3 ((Al l ha).length:Int))<|B0 (!decide ((Al (Al l ha) 3)=([]:Aj))) (Bs (JI F (Al (Al l ha) 3)) λhj=>B0 (!decide (hj.2=0)) (some (.out (.ret ((AE.mk hd he hf hg hb hh),false)))) (Bi (Dv 56 (hb.length+([(As.mk (Bx (Al (Al l ha) 0)) (Al (Al l ha) 1) hj.1 (Bx (Al (Al l ha) 2)))]:List As).length))<|Ew ha hd he hf hg (hb++([(As.mk (Bx (Al (Al l ha) 0)) (Al (Al l ha) 1) hj.1 (Bx (Al (Al l ha) 2)))]:List As)) hh)) (Bi (Dv 56 (hb.length+([(As.mk (Bx (Al (Al l ha) 0)) (Al (Al l ha) 1) ([]:List Ac) (Bx (Al (Al l ha) 2)))]:List As).length))<|Ew ha hd he hf hg (hb++([(As.mk (Bx (Al (Al l ha) 0)) (Al (Al l ha) 1) ([]:List Ac) (Bx (Al (Al l ha) 2)))]:List As)) hh)))) (some (.out (.ret ((AE.mk hd he hf hg hb hh),false)))))) (some (.out (.go (hd,he,hf,hg,hb,hh))))
def Ip (ha:Aj)(hb:Aj)(hd:Int)(he:(List Ac))(hf:(List As))(hg:Int):Option (AE×Bool):=
 some ((AE.mk ha hb hd he hf hg),true)
def MV (F:Nat)(l:(List (List Aj))):Option (AE×Bool):=
 Bs (Cj (λσ=>Ex F l σ.1 σ.2.1 σ.2.2.1 σ.2.2.2.1 σ.2.2.2.2.1 σ.2.2.2.2.2.1 σ.2.2.2.2.2.2) F (0,([]:Aj),([]:Aj),0,([]:List Ac),([]:List As),0)) (BQ λν=>Ip ν.1 ν.2.1 ν.2.2.1 ν.2.2.2.1 ν.2.2.2.2.1 ν.2.2.2.2.2)
end Go.Proofs.YtfobhhegpkinaaaGreatDoor
namespace Go.Proofs.YtfobhhegpkinaaaGreatDoor.Q
open Go Go.RowKit
set_option linter.unusedVariables false
section
variable {P : Program} {n : Nat} {c : Cx} {l : Fr} {H : List Ent} {d : Option Nat} {ty rty t e : TypeId} {pos : String} {af : Array Edge} {g : Option (Nat × Bool)} {x : Operand} {sz : Nat}
end
set_option linter.unusedSimpArgs false
theorem EA (s:ByteArray):MapKept.IsKey .string (.string s):=by simp[MapKept.IsKey]
theorem Mc.keys {Z:Fz}:∀{f:List (List UInt8×Rp)} {es:List MapEntry},Mc Z f es→∀x∈es,MapKept.IsKey .string x.key
 | [],[],_,x,hx=>by cases hx
 | p::f,e::es,⟨⟨h1,h2⟩,h3⟩,x,hx=>by
  rcases List.mem_cons.1 hx with rfl | hx
  ·rw[h1];exact EA _
  ·exact Mc.keys h3 x hx
theorem Mc.at {Z:Fz}:∀{f:List (List UInt8×Rp)} {es:List MapEntry},Mc Z f es→f.length=es.length∧∀(j:Nat) (e:MapEntry),es[j]? =some e→∃k r,f[j]? =some (k,r)∧e.key = .string (B k)∧r.p Z e.val
 | [],[],_=>⟨rfl,λj e h=>by simp at h⟩
 | p::f,e::es,⟨⟨h1,h2⟩,h3⟩=>by
  obtain⟨hl,ha⟩:=Mc.at h3;refine⟨by simp[hl],λj e' hj=>?_⟩
  cases j with
  | zero=>simp at hj;subst hj;exact⟨p.1,p.2,rfl,h1,h2⟩
  | succ j=>simp at hj;simpa using ha j e' hj
theorem Mc.of {Z:Fz}:∀{f:List (List UInt8×Rp)} {es:List MapEntry},f.length=es.length→(∀(j:Nat) (e:MapEntry),es[j]? =some e→∃k r,f[j]? =some (k,r)∧e.key = .string (B k)∧r.p Z e.val)→Mc Z f es
 | [],[],_,_=>trivial
 | p::f,e::es,hl,h=>by
  obtain⟨k,r,h1,h2,h3⟩:=h 0 e rfl;simp at h1;subst h1;exact⟨⟨h2,h3⟩,Mc.of (by simpa using hl) λj e' hj=>by simpa using h (j+1) e' (by simpa using hj)⟩
 | [],_::_,hl,_=>by simp at hl
 | _::_,[],hl,_=>by simp at hl
theorem Mc.snoc {Z:Fz}{k:List UInt8}{r:Rp}{e:MapEntry}(h1:e.key = .string (B k))(h2:r.p Z e.val):∀{f:List (List UInt8×Rp)} {es:List MapEntry},Mc Z f es→Mc Z (f++[(k,r)]) (es++[e])
 | [],[],_=>⟨⟨h1,h2⟩,trivial⟩
 | p::f,e'::es,⟨h,h3⟩=>⟨h,Mc.snoc h1 h2 h3⟩
theorem Mc.filter {Z:Fz}(q:MapEntry→Bool):∀{f:List (List UInt8×Rp)} {es:List MapEntry},Mc Z f es→∃g,Mc Z g (es.filter q)∧g.Sublist f
 | [],[],_=>⟨[],trivial,List.Sublist.refl _⟩
 | p::f,e::es,⟨h,h3⟩=>by
  obtain⟨g,hg,hs⟩:=Mc.filter q h3
  cases hq:q e with
  | true=>exact⟨p::g,by rw[List.filter_cons_of_pos hq];exact⟨h,hg⟩,hs.cons_cons p⟩
  | false=>exact⟨g,by rw[List.filter_cons_of_neg (by simp[hq])];exact hg,hs.cons p⟩
theorem Ud {T:Type}:∀{m:List (Aj×T)} {k:Aj} {r:T},(m.map (·.1)).Nodup→(k,r)∈m→Cm m k=some r
 | p::m,k,r,hn,h=>by
  rw[AgO,List.nodup_cons] at hn;rw[Cm];rcases List.mem_cons.1 h with h | h
  ·subst h;rw[Agc rfl];rfl
  ·have hne : ¬ p.1=k:=λe=>hn.1 (by rw[e];exact List.mem_map.2 ⟨(k,r),h,rfl⟩);rw[Aga hne];exact Ud hn.2 h
theorem R9 {T:Type}:∀{m:List (Aj×T)} {k:Aj},(∀p∈m,p.1≠k)→Cm m k=none
 | [],_,_=>rfl
 | p::m,k,h=>by
  rw[Cm,Aga (h p (by simp))];exact R9 λq hq=>h q (by simp[hq])
theorem Afv {a b:List UInt8}(h:B a=B b):a=b:=by
 have:=congrArg ByteArray.toList h
 rwa [GN,GN] at this
theorem Pz {a b:List UInt8}(h:Value.string (B a) = .string (B b)):a=b:=Afv (by cases h;rfl)
theorem SV {Z:Fz}{m:List (List UInt8×Rp)}{es:List MapEntry}{ck:Nat}(h:EW Z m es ck)(k:List UInt8) :
  (Instr.findNow .string (.string (B k)) es 0=some none∧Cm m k=none∧∀p∈m,p.1≠k)∨∃j e r,Instr.findNow .string (.string (B k)) es 0=some (some (j,e.val))∧es[j]? =some e∧e.key = .string (B k)∧Cm m k=some r∧r.p Z e.val:=by
 obtain⟨h1,h2,h3,f,h4,h5⟩:=h;obtain⟨hl,ha⟩:=h5.at;rcases MapKept.findNow_spec (EA (B k)) es 0 h5.keys with⟨q1,q2⟩ | ⟨j,e,q1,q2,q3⟩
 ·have hne:∀p∈m,p.1≠k:=λp hp e=>by
   obtain⟨j,hj⟩:=List.mem_iff_getElem?.1 (h4.symm.subset hp);have hjl:j<es.length:=by rw[← hl];exact(List.getElem?_eq_some_iff.1 hj).1
   obtain⟨k',r',e1,e2,_⟩:=ha j es[j] (Agi hjl);rw[hj] at e1;cases e1;exact q2 es[j] (List.getElem_mem hjl) (by rw[e2,← e])
  exact .inl ⟨q1,R9 hne,hne⟩
 ·obtain⟨k',r,e1,e2,e3⟩:=ha j e q2;rw[q3] at e2;obtain rfl:=Pz e2;exact .inr ⟨j,e,r,by simpa using q1,q2,q3,Ud h1 (h4.subset (Agq e1)),e3⟩
section
variable {P : Program} {n : Nat} {c : Cx} {ops : Array Oper} {Q : Exit → Act → World → Prop} {rest : List Oper} {l : Fr} {H : List Ent} {d : Nat} {d' : Option Nat} {ty t kt et rty : TypeId} {pos : String} {af : Array Edge} {g : Option (Nat × Bool)} {x y u : Operand} {K : Act → World → Prop} {cx : Code}
variable {T : Type} {enc : T → Rp} {xs : List (Aj × T)} {z : T} {k : Aj} {zv : Value} {i b : Nat}
theorem IR {Z:Fz}{w:World}{m:List (List UInt8×Rp)}{rz:Rp}(ht:P.underlying t=some (.map kt et))(hk:P.underlying kt=some .string)(hz:∀w,(zeroValue et).run P w = .ok zv w)(hzr:rz.p Z zv)(hm:(Ent.map b m).holds Z w)(ok:Bool) :
  ∃v,((Cm m k).getD rz).p Z v∧(Instr.lookup t (.map (some b)) (.string (B k)) ok).run P w = .ok (if ok then .tuple #[v,.bool (Cm m k).isSome] else v) w:=by
 obtain⟨es,ck,h1,h2⟩:=hm;rcases SV h2 k with⟨q1,q2,_⟩ | ⟨j,e,r,q1,_,_,q2,q3⟩
 ·exact⟨zv,by rw[q2];exact hzr,by simp[Instr.lookup,run_underlying ht,MapKept.run_getObj_map h1,MapKept.run_checkKey hk (EA _),MapKept.run_findKey hk q1,hz,q2]⟩
 ·exact⟨e.val,by rw[q2];exact q3,by simp[Instr.lookup,run_underlying ht,MapKept.run_getObj_map h1,MapKept.run_checkKey hk (EA _),MapKept.run_findKey hk q1,q2]⟩
theorem Qf (enc:T→Rp)(xs:List (Aj×T))(k:Aj)(z:T):(Cm (AF enc xs) k).getD (enc z)=enc (BE xs k z):=by
 rw[MZ];unfold BE;cases Cm xs k<;>rfl
theorem V8 (enc:T→Rp)(xs:List (Aj×T))(k:Aj):(Cm (AF enc xs) k).isSome=EP xs k:=by
 rw[MZ];unfold EP;cases Cm xs k<;>rfl
theorem SG (ht:P.underlying t=some (.map kt et))(hk:P.underlying kt=some .string)(hz:∀w,(zeroValue et).run P w = .ok zv w)(hzr:∀Z,(enc z).p Z zv)(hx:ev l x=some (rv (.map (some b))))(hi:H[i]? =some (.map b (AF enc xs)))(hy:ev l y=some (rS k)) :
  B1 P n c l H { dst:=d',op:=.lookup t x y true,type:=ty,pos:=pos,after:=af,guard:=g } (Db [enc (BE xs k z),rB (EP xs k)]):=λa w Z ha hw=>by
 obtain⟨v,h1,h2⟩:=IR (k:=k) ht hk hz (hzr Z) (hw.ent hi) true;rw[Qf] at h1;refine⟨.tuple #[v,.bool (EP xs k)],⟨[v,.bool (EP xs k)],rfl,h1,rfl,trivial⟩,?_⟩;rw[V8] at h2;simp[execOp,ha.eval hx,ha.eval hy,h2]
theorem N7 (ht:P.underlying t=some (.map kt et))(hk:P.underlying kt=some .string)(hz:∀w,(zeroValue et).run P w = .ok zv w)(hzr:∀Z,(enc z).p Z zv)(hx:ev l x=some (rv (.map (some b))))(hi:H[i]? =some (.map b (AF enc xs)))(hy:ev l y=some (rS k)) :
  B1 P n c l H { dst:=d',op:=.lookup t x y false,type:=ty,pos:=pos,after:=af,guard:=g } (enc (BE xs k z)):=λa w Z ha hw=>by
 obtain⟨v,h1,h2⟩:=IR (k:=k) ht hk hz (hzr Z) (hw.ent hi) false;rw[Qf] at h1;simp only[Agv,AgM] at h2;exact⟨v,h1,by simp[execOp,ha.eval hx,ha.eval hy,h2]⟩
theorem EW.length {Z:Fz}{m:List (List UInt8×Rp)}{es:List MapEntry}{ck:Nat}(h:EW Z m es ck):es.length=m.length:=by
 obtain⟨_,_,_,f,h4,h5⟩:=h;rw[← h5.at.1,h4.length_eq]
theorem Aak {m:List (List UInt8×Rp)}{N:Nat}(ht:P.underlying t=some (.map kt et))(hx:ev l x=some (rv (.map (some b))))(hi:H[i]? =some (.map b m))(hN:m.length=N) :
  B1 P n c l H { dst:=d',op:=.call { callee:=.builtin .len,args:=#[x],argTypes:=#[t] },type:=ty,pos:=pos,after:=af,guard:=g } (rI .i64 N):=λa w Z ha hw=>Dl<|by
 obtain⟨es,ck,h1,h2⟩:=hw.ent hi;have hl:es.size=N:=by rw[← hN,← h2.length];simp
 simp[execOp,resolve,invoke,builtin,ha.eval hx,Builtin.len_,run_underlying ht,goInt,MapKept.run_getObj_map h1,hl]
theorem Lm (hn:Nat.blt d n=true)(h:∀b,WL P n c ops Q rest ((d,rv (.map (some b)))::l) (.map b []::H)) :
  WL P n c ops Q ({ dst:=some d,op:=.makeMap t none,type:=ty,pos:=pos,after:=af,guard:=none }::rest) l H:=
 K5 (λa w Z ha hw=>⟨_,w.alloc (.map #[] 0),_,_,Z,by simp[execOp,run_makeMap],Fz.le.refl _,rfl,
  hw.alloc _ (e:=.map w.heap.size []) ⟨#[],0,by simpa using heap_alloc_new w _,by simp,by simp,by simp,[],Agn _,trivial⟩ rfl,h w.heap.size⟩) hn
theorem ZQ {m f:List (Aj×Rp)}(h:f.Perm m)(k:Aj)(r:Rp):(mput f k r).Perm (mput m k r):=h.map _
theorem W7 {T:Type}:∀{f:List (Aj×T)} {j:Nat} {k:Aj} {r0:T} (r:T),(f.map (·.1)).Nodup→f[j]? =some (k,r0)→mput f k r=f.set j (k,r)
 | p::f,0,k,r0,r,hn,h=>by
  simp at h;subst h;rw[AgO,List.nodup_cons] at hn;have:mput f k r=f:=by
   unfold mput;rw[List.map_congr_left (g:=id) (λq hq=>?_),List.map_id];have hne : ¬ q.1=k:=λe=>hn.1 (by rw[← e];exact List.mem_map.2 ⟨q,hq,rfl⟩);rw[Aga hne];rfl
  show(bif decide (k=k) then(k,r) else(k,r0))::mput f k r=_;rw[Agc rfl,this];rfl
 | p::f,j+1,k,r0,r,hn,h=>by
  rw[AgO,List.nodup_cons] at hn;simp at h;have hne : ¬ p.1=k:=λe=>hn.1 (by rw[e];exact List.mem_map.2 ⟨(k,r0),Agq h,rfl⟩);show(bif decide (p.1=k) then(k,r) else p)::mput f k r=_;rw[Aga hne,W7 r hn.2 h];rfl
theorem W8 {T:Type}:∀{f:List (Aj×T)} {j:Nat} {k:Aj} {r0:T},(f.map (·.1)).Nodup→f[j]? =some (k,r0)→mdel f k=f.eraseIdx j
 | p::f,0,k,r0,hn,h=>by
  simp at h;subst h;rw[AgO,List.nodup_cons] at hn;have:f.filter (λq=>!decide (q.1=k))=f:=List.filter_eq_self.2 λq hq=>by
   have hne : ¬ q.1=k:=λe=>hn.1 (by rw[← e];exact List.mem_map.2 ⟨q,hq,rfl⟩);simp[hne]
  unfold mdel;rw[List.filter_cons_of_neg (by simp),this];rfl
 | p::f,j+1,k,r0,hn,h=>by
  rw[AgO,List.nodup_cons] at hn;simp at h;have hne : ¬ p.1=k:=λe=>hn.1 (by rw[e];exact List.mem_map.2 ⟨(k,r0),Agq h,rfl⟩);unfold mdel;rw[List.filter_cons_of_pos (by simp[hne])];show p::mdel f k=_;rw[W8 hn.2 h];rfl
theorem Yb {T:Type}(m:List (Aj×T))(k:Aj)(r:T):(mput m k r).map (·.1)=m.map (·.1):=by
 unfold mput;rw[AgX];refine List.map_congr_left λp _=>?_;simp only[Function.comp]
 by_cases h:p.1=k
 ·rw[Agc h];exact h.symm
 ·rw[Aga h];rfl
theorem Yd {T:Type}{m:List (Aj×T)}{k:Aj}{r:T}(h:Cm m k=some r):EP m k=true:=by unfold EP;rw[h];rfl
theorem Ye {T:Type}{m:List (Aj×T)}{k:Aj}(h:Cm m k=none):EP m k=false:=by unfold EP;rw[h];rfl
theorem EW.put {Z:Fz}{m:List (Aj×Rp)}{es:List MapEntry}{ck j:Nat}{e:MapEntry}{k:Aj}{r0 r:Rp}{v:Value}(h:EW Z m es ck)(he:es[j]? =some e)(hk:e.key = .string (B k))(hm:Cm m k=some r0)(hr:r.p Z v) :
  EW Z (mset m k r) (es.set j { e with key:=.string (B k),val:=v }) ck:=by
 obtain⟨h1,h2,h3,f,h4,h5⟩:=h;obtain⟨hl,ha⟩:=h5.at;have hjl:=(List.getElem?_eq_some_iff.1 he).1;unfold mset;rw[Yd hm,Agg];obtain⟨k',r',e1,e2,_⟩:=ha j e he;rw[hk] at e2;obtain rfl:=Pz e2;have hfn:(f.map (·.1)).Nodup:=(h4.map (·.1)).nodup_iff.2 h1;refine⟨by rw[Yb];exact h1,?_,?_,f.set j (k,r),?_,Mc.of (by simp[hl]) λi x hx=>?_⟩
 ·rw[List.map_set];have:(es.map (·.born)).set j e.born=es.map (·.born):=by
   apply List.ext_getElem?;intro i;rw[List.getElem?_set]
   split
   ·rename_i hij;subst hij
    simp[hjl,List.getElem?_eq_some_iff.1 he |>.2]
   ·rfl
  show((es.map (·.born)).set j e.born).Nodup;rw[this];exact h2
 ·intro x hx;rcases List.mem_or_eq_of_mem_set hx with hx | rfl
  ·exact h3 x hx
  ·exact h3 e (Agq he)
 ·have:=ZQ h4 k r
  rwa [W7 r hfn e1] at this
 ·rw[List.getElem?_set] at hx ⊢
  split at hx
  ·rename_i hij;subst hij
   cases hx
   exact⟨k,r,by rw[AgT rfl,AgT (by rw[hl];exact hjl)],rfl,hr⟩
  ·rename_i hij
   rw[AgF hij];exact ha i x hx
theorem EW.ins {Z:Fz}{m:List (Aj×Rp)}{es:List MapEntry}{ck:Nat}{k:Aj}{r:Rp}{v:Value}(h:EW Z m es ck)(hm:Cm m k=none)(hk:∀p∈m,p.1≠k)(hr:r.p Z v) :
  EW Z (mset m k r) (es++[{ key:=.string (B k),val:=v,born:=ck }]) (ck+1):=by
 obtain⟨h1,h2,h3,f,h4,h5⟩:=h;unfold mset;rw[Ye hm,Agb];have hp:=NB k r m;refine⟨?_,?_,?_,f++[(k,r)],?_,Mc.snoc rfl hr h5⟩
 ·rw[(hp.map (·.1)).nodup_iff,AgO,List.nodup_cons];exact⟨λhx=>by obtain⟨p,hp,e⟩:=List.mem_map.1 hx;exact hk p hp e,h1⟩
 ·rw[AgS,List.nodup_append];refine⟨h2,by simp,λa ha b hb e=>?_⟩;simp at hb;subst hb;obtain⟨x,hx,e'⟩:=List.mem_map.1 ha;have:=h3 x hx;omega
 ·intro x hx;rcases List.mem_append.1 hx with hx | hx
  ·have:=h3 x hx;omega
  ·simp at hx;subst hx;exact Ago _
 ·exact(List.perm_append_comm (l₁:=f) (l₂:=[(k,r)])).trans ((h4.cons (k,r)).trans hp.symm)
theorem EW.del {Z:Fz}{m:List (Aj×Rp)}{es:List MapEntry}{ck j:Nat}{e:MapEntry}{k:Aj}(h:EW Z m es ck)(he:es[j]? =some e)(hk:e.key = .string (B k)):EW Z (mdel m k) (es.eraseIdx j) ck:=by
 obtain⟨h1,h2,h3,f,h4,h5⟩:=h;obtain⟨hl,ha⟩:=h5.at;obtain⟨k',r',e1,e2,_⟩:=ha j e he;rw[hk] at e2;obtain rfl:=Pz e2;have hfn:(f.map (·.1)).Nodup:=(h4.map (·.1)).nodup_iff.2 h1;have hs:=List.eraseIdx_sublist es j;refine⟨h1.sublist ((List.filter_sublist ..).map _),h2.sublist (hs.map _),λx hx=>h3 x (hs.subset hx),f.eraseIdx j,?_,Mc.of (by rw[List.length_eraseIdx,List.length_eraseIdx,hl]) λi x hx=>?_⟩
 ·rw[← W8 hfn e1];exact h4.filter _
 ·rw[List.getElem?_eraseIdx] at hx ⊢
  split at hx
  ·rename_i hij;rw[AgT hij];exact ha i x hx
  ·rename_i hij;rw[AgF hij];exact ha (i+1) x hx
theorem Yl {m:List (Aj×Rp)}{k:Aj}(hk:∀p∈m,p.1≠k):mdel m k=m:=List.filter_eq_self.2 λp hp=>by simp[hk p hp]
theorem St.mapset {Z:Fz}{w:World}(h:St c H Z w){m m':List (Aj×Rp)}(hi:H[i]? =some (.map b m)){es es':Array MapEntry}{ck ck':Nat}(h1:w.heap[b]? =some (.map es ck))(h2:EW Z m' es'.toList ck') :
  St c (H.set i (.map b m')) Z { w with heap:=w.heap.setIfInBounds b (.map es' ck') }:=by
 obtain⟨q1,q2⟩:=MapKept.heap_set (o':=.map es' ck') h1;exact h.set hi rfl rfl rfl (by simp) (λk _ hk=>q2 k (by simpa[Ent.foot] using hk)) ⟨es',ck',q1,h2⟩ (by simp[Ent.foot])
theorem S2 (s:ByteArray):Instr.sameBits 10000 (.string s) (.string s)=true:=by
 show(s ==s)=true;exact(MapKept.bytes_beq s s).2 rfl |> λh=>by simpa using h
theorem Ad7 {r:Rp}{m:List (Aj×Rp)}(ht:P.underlying t=some (.map kt et))(hk:P.underlying kt=some .string)(hx:ev l x=some (rv (.map (some b))))(hi:H[i]? =some (.map b m))(hy:ev l y=some (rS k))(hu:ev l u=some r){H':List Ent}(hH:H.set i (.map b (mset m k r))=H')(h:WL P n c ops Q rest l H') :
  WL P n c ops Q ({ dst:=none,op:=.mapUpdate t x y u,type:=ty,pos:=pos,after:=af,guard:=none }::rest) l H:=
 Ts λa w Z ha hw=>by
  obtain⟨es,ck,h1,h2⟩:=hw.ent hi;have hv:=ha.ev hu;subst hH;rcases SV h2 k with⟨q1,q2,q3⟩ | ⟨j,e,r0,q1,q2,q3,q4,_⟩
  ·refine⟨_,_,?_,hw.mapset hi h1 (es':=es.push { key:=.string (B k),val:=a.eval u,born:=ck }) (by simpa using h2.ins q2 q3 hv),h⟩;simp[execOp,ha.eval hx,ha.eval hy,Instr.mapUpdate,run_underlying ht,MapKept.run_getObj_map h1,MapKept.run_checkKey hk (EA _),MapKept.run_findKey hk q1,MapKept.run_setObj_map _ h1]
  ·have hje:es[j]? =some e:=by simpa using q2
   refine⟨_,_,?_,hw.mapset hi h1 (es':=es.modify j λe=>{ e with key:=.string (B k),val:=a.eval u }) (ck':=ck) (by
    have:=h2.put q2 q3 q4 hv;have e1:(es.modify j λe=>{ e with key:=.string (B k),val:=a.eval u }).toList=es.toList.set j { e with key:=.string (B k),val:=a.eval u }:=by
     rw[Array.toList_modify];rw[List.modify_eq_set,q2];rfl
    rw[e1];exact this),h⟩
   have hkey:((es[j]?).map (·.key)).getD (.string (B k)) = .string (B k):=by rw[hje];exact q3
   simp[execOp,ha.eval hx,ha.eval hy,Instr.mapUpdate,run_underlying ht,MapKept.run_getObj_map h1,MapKept.run_checkKey hk (EA _),MapKept.run_findKey hk q1,MapKept.run_setObj_map _ h1,hkey,Instr.keyThatStays,S2]
theorem Adn {op:Op}{ty:TypeId}{pos:String}{af:Array Edge}
  (hr:∀a w Z,Dq n l a Z→St c H Z w→∃v w' H',(execOp a.eval { dst:=none,op:=op,type:=ty,pos:=pos,after:=af,guard:=none }).run P w = .ok (.value v) w'∧St c H' Z w'∧WL P n c ops Q rest l H') :
  WL P n c ops Q ({ dst:=none,op:=op,type:=ty,pos:=pos,after:=af,guard:=none }::rest) l H:=λa w Z ha hw=>
 wpList_plain rfl λK hK=>by
  obtain⟨v,w',H',h1,h2,h3⟩:=hr a w Z ha hw;unfold Oper.wp;rw[h1];exact hK _ _ (h3 _ w' Z (ha.put_none _) h2)
theorem Ad8 {m:List (Aj×Rp)}(ht:P.underlying t=some (.map kt et))(hk:P.underlying kt=some .string){kt':TypeId}(hx:ev l x=some (rv (.map (some b))))(hi:H[i]? =some (.map b m))(hy:ev l y=some (rS k)){H':List Ent}(hH:H.set i (.map b (mdel m k))=H')(h:WL P n c ops Q rest l H') :
  WL P n c ops Q ({ dst:=none,op:=.call { callee:=.builtin .delete,args:=#[x,y],argTypes:=#[t,kt'] },type:=ty,pos:=pos,after:=af,guard:=none }::rest) l H:=
 Adn (λa w Z ha hw=>by
  obtain⟨es,ck,h1,h2⟩:=hw.ent hi;subst hH;rcases SV h2 k with⟨q1,q2,q3⟩ | ⟨j,e,r0,q1,q2,q3,q4,_⟩
  ·refine⟨.tuple #[],_,_,?_,hw.mapset hi h1 (es':=es) (ck':=ck) (by rw[Yl q3];exact h2),h⟩;simp[execOp,resolve,invoke,builtin,ha.eval hx,ha.eval hy,Builtin.delete_,run_underlying ht,MapKept.run_getObj_map h1,MapKept.run_checkKey hk (EA _),MapKept.run_findKey hk q1,MapKept.run_setObj_map _ h1]
  ·refine⟨.tuple #[],_,_,?_,hw.mapset hi h1 (es':=es.eraseIdxIfInBounds j) (ck':=ck) (by
    have e1:(es.eraseIdxIfInBounds j).toList=es.toList.eraseIdx j:=by simp
    rw[e1];exact h2.del q2 q3),h⟩
   simp[execOp,resolve,invoke,builtin,ha.eval hx,ha.eval hy,Builtin.delete_,run_underlying ht,MapKept.run_getObj_map h1,MapKept.run_checkKey hk (EA _),MapKept.run_findKey hk q1,MapKept.run_setObj_map _ h1])
theorem IA {v:T}(ht:P.underlying t=some (.map kt et))(hk:P.underlying kt=some .string)(hx:ev l x=some (rv (.map (some b))))(hi:H[i]? =some (.map b (AF enc xs)))(hy:ev l y=some (rS k))(hu:ev l u=some (enc v)){H':List Ent}(hH:H.set i (.map b (AF enc (mset xs k v)))=H')(h:WL P n c ops Q rest l H') :
  WL P n c ops Q ({ dst:=none,op:=.mapUpdate t x y u,type:=ty,pos:=pos,after:=af,guard:=none }::rest) l H:=Ad7 ht hk hx hi hy hu (by rw[← Aaz];exact hH) h
theorem We (ht:P.underlying t=some (.map kt et))(hk:P.underlying kt=some .string){kt':TypeId}(hx:ev l x=some (rv (.map (some b))))(hi:H[i]? =some (.map b (AF enc xs)))(hy:ev l y=some (rS k)){H':List Ent}(hH:H.set i (.map b (AF enc (mdel xs k)))=H')(h:WL P n c ops Q rest l H') :
  WL P n c ops Q ({ dst:=none,op:=.call { callee:=.builtin .delete,args:=#[x,y],argTypes:=#[t,kt'] },type:=ty,pos:=pos,after:=af,guard:=none }::rest) l H:=Ad8 ht hk hx hi hy (by rw[← Aa4];exact hH) h
end
theorem Nk {q:MapEntry→Bool}:∀{l:List MapEntry} {j:Nat} {e:MapEntry},(l.map (·.born)).Nodup→l[j]? =some e→l.filter (λx=>!(x.born ==e.born))=l.eraseIdx j
 | x::l,0,e,hn,h=>by
  simp at h;subst h;rw[AgO,List.nodup_cons] at hn;rw[List.filter_cons_of_neg (by simp),List.filter_eq_self.2 λy hy=>?_];rfl;have:y.born≠x.born:=λe=>hn.1 (by rw[← e];exact List.mem_map.2 ⟨y,hy,rfl⟩);simp[this]
 | x::l,j+1,e,hn,h=>by
  rw[AgO,List.nodup_cons] at hn;simp at h;have hne:x.born≠e.born:=λe'=>hn.1 (by rw[e'];exact List.mem_map.2 ⟨e,Agq h,rfl⟩);rw[List.filter_cons_of_pos (by simp[hne]),Nk (q:=q) hn.2 h];rfl
theorem Mc.erase {Z:Fz}:∀{f:List (List UInt8×Rp)} {es:List MapEntry} (j:Nat),Mc Z f es→Mc Z (f.eraseIdx j) (es.eraseIdx j)
 | [],[],j,_=>by simp[Mc]
 | p::f,e::es,0,⟨_,h⟩=>h
 | p::f,e::es,j+1,⟨h,h3⟩=>⟨h,Mc.erase j h3⟩
theorem Ww {α:Type}:∀{l:List α} {j:Nat} {a:α},l[j]? =some a→l.Perm (a::l.eraseIdx j)
 | x::l,0,a,h=>by simp at h;subst h;exact Agn _
 | x::l,j+1,a,h=>by
  simp at h;exact((Ww h).cons x).trans (List.Perm.swap a x _)
theorem ZR {T:Type}{enc:T→Rp}{ys:List (Aj×T)}{f:List (Aj×Rp)}{j:Nat}{k:Aj}{r:Rp}(h:f.Perm (AF enc ys))(hj:f[j]? =some (k,r)):∃ (p:Aj×T) (ys':List (Aj×T)),ys.Perm (p::ys')∧p.1=k∧enc p.2=r∧(f.eraseIdx j).Perm (AF enc ys'):=by
 have hm:(k,r)∈AF enc ys:=h.subset (Agq hj);obtain⟨p,hp,e⟩:=List.mem_map.1 hm;simp only[Prod.mk.injEq] at e;obtain⟨a,b,rfl⟩:=List.append_of_mem hp;refine⟨p,a++b,List.perm_middle,e.1,e.2,?_⟩;have h1:f.Perm ((k,r)::f.eraseIdx j):=by
  exact Ww hj
 have h2:(AF enc (a++p::b)).Perm ((k,r)::AF enc (a++b)):=by
  have:(AF enc (a++p::b)).Perm (AF enc (p::(a++b))):=List.perm_middle.map _;refine this.trans ?_;show((p.1,enc p.2)::AF enc (a++b)).Perm _;rw[e.1,e.2]
 exact((h1.symm.trans h).trans h2).cons_inv
section
variable {P : Program} {n : Nat} {c : Cx} {ops : Array Oper} {Q : Exit → Act → World → Prop} {rest : List Oper} {l : Fr} {H : List Ent} {d : Nat} {ty t kt et rty : TypeId} {pos : String} {af : Array Edge} {x y u : Operand} {K : Act → World → Prop} {cx : Code}
variable {T : Type} {enc : T → Rp} {xs ys : List (Aj × T)} {i b it : Nat} {m lf : List (List UInt8 × Rp)} {cur : Option (List UInt8 × Rp)} {k : Aj} {r : Rp}
end
theorem Bq.d1 {Z:Fz}{r0:Rp}{us:List Value}(h:Bq Z [r0] us):∃y0,us=[y0]∧Bq Z [r0] [y0]:=by
 match us,h.length with
 | [y0],_=>exact⟨_,rfl,h⟩
theorem Bq.d2 {Z:Fz}{r0 r1:Rp}{us:List Value}(h:Bq Z [r0,r1] us):∃y0 y1,us=[y0,y1]∧Bq Z [r0,r1] [y0,y1]:=by
 match us,h.length with
 | [y0,y1],_=>exact⟨_,_,rfl,h⟩
theorem Bq.d4 {Z:Fz}{r0 r1 r2 r3:Rp}{us:List Value}(h:Bq Z [r0,r1,r2,r3] us):∃y0 y1 y2 y3,us=[y0,y1,y2,y3]∧Bq Z [r0,r1,r2,r3] [y0,y1,y2,y3]:=by
 match us,h.length with
 | [y0,y1,y2,y3],_=>exact⟨_,_,_,_,rfl,h⟩
theorem Uy {α:Type}{sz:Nat}:∀{xs:List (List α)} (hs:∀c∈xs,c.length=sz) {k:Nat} {cl:List α},xs[k]? =some cl→∀(off m:Nat),off+m≤sz→((xs.flatten).drop (k*sz+off)).take m=(cl.drop off).take m
 | [],_,k,cl,h,_,_,_=>by simp at h
 | x::r,hs,0,cl,h,off,m,hm=>by
  simp at h;subst h;have hx:=hs x (by simp);simp only[List.flatten_cons,Nat.zero_mul,AgH];rw[List.drop_append_of_le_length (by omega),List.take_append_of_le_length (by simp;omega)]
 | x::r,hs,k+1,cl,h,off,m,hm=>by
  have hx:=hs x (by simp);simp only[List.flatten_cons];have e:(k+1)*sz+off=x.length+(k*sz+off):=by rw[hx,Nat.succ_mul];omega
  rw[e,List.drop_length_add_append];exact Uy (λc hc=>hs c (by simp[hc])) (by simpa using h) off m hm
section
variable {P : Program} {n : Nat} {c : Cx} {ops : Array Oper} {Q : Exit → Act → World → Prop} {rest : List Oper} {l : Fr} {H H' : List Ent} {d : Nat} {d' : Option Nat} {ty t e rty : TypeId} {pos : String} {af : Array Edge} {g : Option (Nat × Bool)} {x y u : Operand} {v : Value} {sz m : Nat}
theorem Lu {α:Type}[Inhabited α]{ys:List α}{enc:α→List Rp}{i off:Nat}{j:Int}{rs:List Rp}(hag:∀w,(isAgg t).run P w = .ok true w)(hsz:∀w,(sizeOf t).run P w = .ok m w)(hx:ev l x=some (rv (EZ sz v j.toNat off)))(hi:H[i]? =some (.row v e sz (ys.map enc)))(hg:Da j (ys.length:Int)=true)
  (hle:Nat.ble (off+m) sz=true) (hr:((enc (Al ys j)).drop off).take m=rs) :
  B1 P n c l H { dst:=d',op:=.load t x,type:=ty,pos:=pos,after:=af,guard:=g } (BW rs):=λa w Z ha hw=>by
 obtain⟨hs,us,⟨h1,h2⟩,h3⟩:=hw.ent hi;have h0:=(Dg hg).1;have hlt:j.toNat<ys.length:=by have:=(Dg hg).2;omega
 have eat:Al ys j=ys[j.toNat]:=by simp[Al,hlt]
 have hle':off+m≤sz:=by simpa using hle
 have hcl:(ys.map enc)[j.toNat]? =some (enc ys[j.toNat]):=by simp[hlt]
 have hcz:(enc ys[j.toNat]).length=sz:=hs _ (Agq hcl);have hseg:=Uy hs hcl off m hle';rw[← eat,hr] at hseg;have h4:=(h3.drop (j.toNat*sz+off)).take m;rw[hseg] at h4;have hrl:rs.length=m:=by rw[← hr,eat];simp;omega
 rcases h2 with⟨rfl,hz⟩ | ⟨b,cap,cur,rfl,_,hg',hcap,hm,hcs,htk⟩
 ·simp at hz;subst hz;simp at hlt
 ·have h5:=run_loadCells_list (P:=P) w ⟨b,j.toNat*sz+off,none⟩ ((us.drop (j.toNat*sz+off)).take m) (λq w' hq=>by
   rw[I8,cell_of_row w b _ cur e (0,0) hg'];rw[AgI] at hq
   split at hq
   ·rw[List.getElem?_drop,← htk,AgI] at hq
    split at hq
    ·simpa using hq
    ·cases hq
   ·cases hq)
  rw[h4.length,hrl] at h5;exact⟨.agg ((us.drop (j.toNat*sz+off)).take m).toArray,⟨_,rfl,h4⟩,by simp[execOp,ha.eval hx,EZ,Instr.loadAt,Instr.sureAddr,loadVar,hag,hsz,h5]⟩
def Ji (sz:Nat)(v:Value)(j:Nat):Value:=match v with
 | .slice A len cap=>.slice (if cap=j then A else A.map (·.add (j*sz))) (len-j) (cap-j)
 | v=>v
theorem AdL {α:Type}{ys:List α}{enc:α→List Rp}{i:Nat}{k:IntKind}{j:Int}(ht:P.underlying t=some (.slice e))(hz:∀w,(sizeOf e).run P w = .ok sz w)(hx:ev l x=some (rv v))(hy:ev l y=some (rI k j))(hi:H[i]? =some (.row v e sz (ys.map enc)))(hg:G8 j (ys.length:Int)=true) :
  B1 P n c l H { dst:=d',op:=.slice t x (some y) none none,type:=ty,pos:=pos,after:=af,guard:=g } (rv (Ji sz v j.toNat)):=λa w Z ha hw=>Dl<|by
 obtain⟨h0,us,⟨h1,h2⟩,h3⟩:=hw.ent hi;have g0:=(BX hg).1;have g1:=(BX hg).2;rcases h2 with⟨rfl,hz0⟩ | ⟨b,cap,cur,rfl,_,hb,hcap,hm,hcs,htk⟩
 ·simp at hz0;subst hz0;obtain rfl:j=0:=by simp at g1;omega
  simp[execOp,ha.eval hx,ha.eval hy,Instr.sliceAt,Instr.slice,run_underlying ht,Instr.sliceBounds,Bk (m:=0) _ _ (AgD 0) (AgD 0),hz,Ji]
 ·simp only[Agj] at h1 hcap htk;simp[execOp,ha.eval hx,ha.eval hy,Instr.sliceAt,Instr.slice,run_underlying ht,Instr.sliceBounds,Bk (m:=ys.length) _ _ g0 g1,hz,Ji]
theorem Q9 (zc:List Value)(hz:0<zc.length):∀k,(Builtin.zeroCells zc.toArray k).toList=(List.replicate k zc).flatten:=by
 intro k;have hl:((List.replicate k zc).flatten).length=k*zc.length:=by simp
 apply List.ext_getElem
 ·simp[Builtin.zeroCells]
 ·intro i h1 h2;have hi:i<k*zc.length:=by rw[← hl];exact h2
  have hm:i % zc.length<zc.length:=Nat.mod_lt _ hz;have hq:i/zc.length<k:=by rw[Nat.div_lt_iff_lt_mul hz];exact hi
  have e1:(Builtin.zeroCells zc.toArray k).toList[i]=zc[i % zc.length]:=by
   simp[Builtin.zeroCells,hm]
  have e2:=KQ (sz:=zc.length) (vs:=List.replicate k zc) (λc hc=>by rw[List.eq_of_mem_replicate hc]) (i:=i/zc.length) (c:=zc) (by simp[hq]) (j:=i % zc.length) (u:=zc[i % zc.length]) (by simp[hm]);have e3:i/zc.length*zc.length+i % zc.length=i:=Nat.div_add_mod' i zc.length;rw[e3] at e2;rw[e1];exact(Option.some.inj ((Agi h2).symm.trans e2)).symm
theorem Su {α:Type}{ys:List α}{enc:α→List Rp}{i:Nat}{j:Int}{z0:α}{zz:Value}{zc:List Value}(ht:P.underlying t=some (.slice e))(hzv:∀w,(zeroValue e).run P w = .ok zz w)(hzz:zz.cells.toList=zc)(hzl:zc.length=sz)(hsz:Nat.blt 0 sz=true)(hone:∀v∈zc,v.oneCell'=true)(hzr:∀Z,Bq Z (enc z0) zc)(hel:(enc z0).length=sz)
  (hx:ev l x=some (rv (Ji sz v j.toNat))) (hi:H[i]? =some (.row v e sz (ys.map enc))) (hg:G8 j (ys.length:Int)=true) (hH:H.set i (.row v e sz ((ys.take j.toNat++List.replicate (ys.length-j.toNat) z0).map enc))=H') (h:WL P n c ops Q rest l H') :
  WL P n c ops Q ({ dst:=none,op:=.call { callee:=.builtin .clear,args:=#[x],argTypes:=#[t] },type:=ty,pos:=pos,after:=af,guard:=none }::rest) l H:=
 Adn (λa w Z ha hw=>by
  obtain⟨h0,us,⟨h1,h2⟩,h3⟩:=hw.ent hi;have g0:=(BX hg).1;have g1:=(BX hg).2;subst hH;have hz0:0<sz:=by simpa using hsz
  have hcells:zz.cells=zc.toArray:=by rw[← hzz]
  rcases h2 with⟨rfl,hz1⟩ | ⟨b,cap,cur,rfl,_,hb,hcap,hm,hcs,htk⟩
  ·simp at hz1;subst hz1;refine⟨.tuple #[],w,_,?_,hw.set (e':=.row (.slice none 0 0) e sz ((([]:List α).take j.toNat++List.replicate (([]:List α).length-j.toNat) z0).map enc)) hi rfl rfl rfl (Agu _) (λ_ _ _=>rfl) ⟨by simp,[],⟨by simp,.inl ⟨rfl,by simp⟩⟩,by simp[Bq]⟩ (by simp[Ent.foot,Value.ownBlock]),h⟩
   ·have e0:Ji sz (.slice none 0 0) j.toNat = .slice none 0 0:=by simp[Ji]
    simp[execOp,resolve,invoke,builtin,ha.eval hx,e0,Builtin.clear_,run_underlying ht]
  ·simp only[Agj] at h1 hcap htk;have hjl:j.toNat≤ys.length:=by omega
   by_cases hjn:ys.length=j.toNat
   ·refine⟨.tuple #[],w,_,?_,?_,h⟩
    ·have hn0:ys.length-j.toNat=0:=by omega
     simp only[execOp,resolve,invoke,builtin,ha.eval hx,Ji,hn0]
     by_cases hc:cap=j.toNat
     ·simp[ha.eval hx,Ji,hn0,hc,Builtin.clear_,run_underlying ht]
     ·simp[ha.eval hx,Ji,hn0,hc,Builtin.clear_,run_underlying ht]
    ·have e0:ys.take j.toNat++List.replicate (ys.length-j.toNat) z0=ys:=by rw[← hjn];simp
     rw[e0];have:H.set i (.row (.slice (some ⟨b,0,none⟩) (ys.map enc).length cap) e sz (ys.map enc))=H:=by
      obtain⟨hl,he⟩:=List.getElem?_eq_some_iff.1 hi;rw[← he,List.set_getElem_self]
     rw[this];exact hw
   ·have hc : ¬ cap=j.toNat:=by omega
    obtain⟨q,hq⟩:∃q,ys.length-j.toNat=q+1:=⟨ys.length-j.toNat-1,by omega⟩
    have hin:j.toNat*sz+(q+1)*sz=ys.length*sz:=by rw[← Nat.add_mul];congr 1;omega
    have hlen:((List.replicate (q+1) zc).flatten).length=(q+1)*sz:=by simp[hzl]
    have hcc:ys.length*sz≤cap*sz:=Nat.mul_le_mul_right _ hcap;have h5:=run_storeCells_at P b (j.toNat*sz) e ((List.replicate (q+1) zc).flatten) 0 cur w hb (by rw[hlen];omega) (λv hv=>by
     obtain⟨cl,hcl,hv'⟩:=List.mem_flatten.1 hv;rw[List.eq_of_mem_replicate hcl] at hv';exact hone v hv')
    simp only[Nat.add_zero] at h5;rw[hlen,hin] at h5;refine⟨.tuple #[],w.setRow b (cur.toList.take (j.toNat*sz)++(List.replicate (q+1) zc).flatten++cur.toList.drop (ys.length*sz)).toArray,_,?_,?_,h⟩
    ·have hzc:=Q9 zc (by omega) (q+1);have e1:(a.eval x) = .slice (some ⟨b,j.toNat*sz,none⟩) (q+1) (cap-j.toNat):=by
      rw[ha.eval hx];simp[Ji,hc,hq,I8]
     simp[execOp,resolve,invoke,builtin,e1,Builtin.clear_,run_underlying ht,hzv,hcells,hzc,h5]
    ·refine hw.set hi rfl rfl rfl (by simp[World.setRow]) (λk _ hk=>?_) ⟨?_,us.take (j.toNat*sz)++(List.replicate (q+1) zc).flatten,⟨?_,.inr ⟨b,cap,_,?_,AgA _,setRow_heap w b cur _ e (0,0) hb,?_,hm,?_,?_⟩⟩,?_⟩ (by simp[Ent.foot,Value.ownBlock])
     ·simp only[Ent.foot,Value.ownBlock,Option.mem_toList,Option.mem_def,Option.some.injEq] at hk;simp only[World.setRow,Array.getElem?_modify];rw[AgF hk]
     ·intro cl hcl;rw[AgS] at hcl;rcases List.mem_append.1 hcl with h' | h'
      ·rw[List.map_take] at h';exact h0 cl (List.mem_of_mem_take h')
      ·rw[List.map_replicate] at h';rw[List.eq_of_mem_replicate h'];exact hel
     ·rw[Age,hlen];simp[Nat.min_eq_left hjl,h1,hq];have:j.toNat*sz≤ys.length*sz:=Nat.mul_le_mul_right _ hjl
      first | rw[← Nat.add_mul] | (rw[Nat.min_eq_left this,← Nat.add_mul])
     ·simp[Nat.min_eq_left hjl];omega
     ·simp;omega
     ·have:j.toNat*sz≤ys.length*sz:=Nat.mul_le_mul_right _ hjl;rw[List.size_toArray,Age,Age,hlen,AgQ,AgJ,Array.length_toList,Nat.min_eq_left (by omega)];omega
     ·have:j.toNat*sz≤ys.length*sz:=Nat.mul_le_mul_right _ hjl;have e2:((ys.take j.toNat++List.replicate (ys.length-j.toNat) z0).map enc).length*sz=(cur.toList.take (j.toNat*sz)++(List.replicate (q+1) zc).flatten).length:=by
       rw[Age,hlen];simp[Nat.min_eq_left hjl,hq];rw[Nat.min_eq_left (by omega),← Nat.add_mul]
      rw[e2,List.take_left' rfl]
      congr 1
      rw[← htk,List.take_take,Nat.min_eq_left this]
     ·rw[AgS,List.flatten_append,List.map_take,List.map_replicate,hq];refine Bq.append ?_ ?_
      ·have:((ys.map enc).take j.toNat).flatten=(ys.map enc).flatten.take (j.toNat*sz):=by
        clear h3 h1 htk hcs hcap g1 hi hw h5 hin hcc hlen hjn hc hq hjl hm hb;generalize ys.map enc=zs at h0;have key:∀(zs:List (List Rp)) (k:Nat),(∀c∈zs,c.length=sz)→(zs.take k).flatten=zs.flatten.take (k*sz):=by
         intro zs
         induction zs with
         | nil=>intro k _;simp
         | cons z zs ih=>
          intro k hk
          cases k with
          | zero=>simp
          | succ k=>
           have hzl:=hk z (by simp);simp only[List.take_succ_cons,List.flatten_cons];rw[ih k (λc hc=>hk c (by simp[hc]))];have e1:(k+1)*sz=z.length+k*sz:=by rw[hzl,Nat.succ_mul];omega
           rw[e1,List.take_length_add_append]
        exact key zs _ h0
       rw[this];exact h3.take _
      ·clear h5 hin hlen hq;generalize q+1=k
       induction k with
       | zero=>exact trivial
       | succ k ih=>rw[List.replicate_succ,List.replicate_succ,List.flatten_cons,List.flatten_cons];exact(hzr Z).append ih)
end
abbrev Ux:=Nat→Nat→Value×Nat
def Ag (k:Nat)(u u':Ux):Prop:=∀j,j<k→u j=u' j
structure Sy where
 deps:List Nat
 r:Ux→Rp
 lv:Nat:=0
 fx:Bool:=false
 old:List Nat:=[]
def H7 (sp:List Sy)(i:Nat):Sy:=sp.getD i { deps:=[],r:=λ_=>rv undef }
def syu (sp:List Sy)(u:Ux):List Sp:=sp.map λs=>⟨s.deps,s.r u,0⟩
def saY (sp:List Sy)(u:Ux):List Sa:=sp.map λs=>{ deps:=s.deps,r:=s.r u }
def Sj:List Sy→Prop
 | []=>True
 | s::r=>(∀u u',Ag s.lv u u'→s.r u=s.r u')∧Sj r
theorem Sj.at:∀{sp:List Sy},Sj sp→∀{i:Nat} {s:Sy},sp[i]? =some s→∀u u',Ag s.lv u u'→s.r u=s.r u'
 | [],_,i,s,h=>by simp at h
 | x::sp,⟨h1,h2⟩,0,s,h=>by simp at h;subst h;exact h1
 | x::sp,⟨h1,h2⟩,i+1,s,h=>Sj.at h2 (by simpa using h)
theorem B2 {r:Rp}{m:Nat}:∀u u':Ux,Ag m u u'→(λ_:Ux=>r) u=(λ_:Ux=>r) u':=λ_ _ _=>rfl
def okY (n:Nat)(ops:List Oper)(N:Nat)(is:List Nat)(keys:List Nat)(deps:List (List Nat))(lvs:List Nat)(fxs:List Bool)(olds:List (List Nat)):Bool:=
 let cl:=M0 ops []
 Qz ops N&&decide (N≤ops.length)&&is.all (λi=>decide (i<N))&&decide is.Nodup&&
 (List.range is.length).all (λk=>k ==0||(cl.getD (is.getD k 0) 0).testBit (is.getD (k-1) 0))&&
 (List.range N).all (λi=>match Cw ops i with
  | some d=>decide (d<n)&&!keys.contains d&&(List.range N).all (λj=>j ==i||Cw ops j !=some d)
  | none=>true)&&
 (List.range N).all (λi=>(deps.getD i []).all (λj=>decide (j<N)&&(Dj (ops.getD i default)).contains j))&&
 (List.range N).all (λi=>decide (lvs.getD i 0≤is.length)&&(lvs.getD i 0 ==0||i ==is.getD (lvs.getD i 0-1) 0||(cl.getD i 0).testBit (is.getD (lvs.getD i 0-1) 0)))&&
 (List.range N).all (λi=>!fxs.getD i false||lvs.getD i 0 ==is.length||(cl.getD (is.getD (lvs.getD i 0) 0) 0).testBit i)&&
 (List.range N).all (λi=>(olds.getD i []).all (λd=>(List.range N).all (λw=>Cw ops w !=some d||(Dj (ops.getD w default)).contains i)))
def cnt (S:Nat→Bool)(is:List Nat):Nat:=(is.filter S).length
theorem Qu {S:Nat→Bool}{is:List Nat}{k:Nat}(hk:k≤is.length)(h1:∀j (h:j<is.length),j<k→S is[j]=true)(h2:∀j (h:j<is.length),k≤j→S is[j]=false):cnt S is=k:=by
 unfold cnt;rw[← AgN k is,List.filter_append,List.filter_eq_self.2 (λx hx=>?_),List.filter_eq_nil_iff.2 (λx hx=>?_)]
 ·simp;omega
 ·obtain⟨j,hj⟩:=List.mem_iff_getElem?.1 hx;rw[List.getElem?_drop] at hj;obtain⟨h3,h4⟩:=List.getElem?_eq_some_iff.1 hj;have:=h2 (k+j) h3 (by omega);rw[h4] at this;simp[this]
 ·obtain⟨j,hj⟩:=List.mem_iff_getElem?.1 hx;rw[AgI] at hj
  split at hj
  ·rename_i hjk
   obtain⟨h3,h4⟩:=List.getElem?_eq_some_iff.1 hj;have:=h1 j h3 hjk;rw[h4] at this;exact this
  ·cases hj
theorem Se {S S':Nat→Bool}{is:List Nat}(h:∀i∈is,S i=S' i):cnt S is=cnt S' is:=by
 unfold cnt;rw[List.filter_congr h]
section
variable (P : Program) (n : Nat) (c : Cx) (opsA : Array Oper) (Q : Exit → Act → World → Prop)
def OpY (l:Fr)(H:List Ent)(o:Oper)(k:Nat)(u:Ux)(r:Ux→Rp)(H1:Ux→List Ent):Prop:=
 ∀a w Z (K:Act→World→Prop),Dq n l a Z→St c H Z w→(∀u' v w' Z',Ag k u u'→Fz.le Z Z'→(r u').p Z' v→St c (H1 u') Z' w'→K (a.put o.dst v) w')→
  Region.wanted o (yielded opsA a.tmps)=true∧o.wp P a w K Q
def ObY (ops:List Oper)(sp:List Sy)(l0 lw:Fr)(is:List Nat)(hs:List (Ux→List Ent))(i:Nat)(o:Oper):Prop:=
 match is.findIdx? (λx=>Nat.beq x i) with
 | some k=>∀u,OpY P n c opsA Q (Gx lw (H7 sp i).old (Cn ops (syu sp u) (H7 sp i).deps l0)) (hs.getD k (λ_=>[]) u) o k u (H7 sp i).r (hs.getD (k+1) (λ_=>[]))
 | none=>if (H7 sp i).fx=true then ∀u,DL P n c opsA Q (Gx lw (H7 sp i).old (Cn ops (syu sp u) (H7 sp i).deps l0)) (hs.getD (H7 sp i).lv (λ_=>[]) u) o ((H7 sp i).r u) (hs.getD (H7 sp i).lv (λ_=>[]) u)
  else ∀u k,k≤is.length→DL P n c opsA Q (Gx lw (H7 sp i).old (Cn ops (syu sp u) (H7 sp i).deps l0)) (hs.getD k (λ_=>[]) u) o ((H7 sp i).r u) (hs.getD k (λ_=>[]) u)
def Q7 (ops:List Oper)(sp:List Sy)(l0 lw:Fr)(is:List Nat)(hs:List (Ux→List Ent)):Nat→List Oper→Prop
 | i,o::rest=>ObY P n c opsA Q ops sp l0 lw is hs i o∧Q7 ops sp l0 lw is hs (i+1) rest
 | _,[]=>True
end
section
variable {P : Program} {n : Nat} {c : Cx} {opsA : Array Oper} {Q : Exit → Act → World → Prop} {l l0 lw : Fr} {H : List Ent} {hs : List (Ux → List Ent)} {sp : List Sy} {is : List Nat}
theorem Q7.at {ops:List Oper}:∀{k:Nat} {rest:List Oper},Q7 P n c opsA Q ops sp l0 lw is hs k rest→∀(t:Nat) o,rest[t]? =some o→ObY P n c opsA Q ops sp l0 lw is hs (k+t) o
 | k,o::rest,⟨h1,h2⟩,t,o',ht=>by
  cases t with
  | zero=>simp at ht;subst ht;exact h1
  | succ t=>
   have:=Q7.at h2 t o' (by simpa using ht);rw[show k+(t+1)=k+1+t from by omega];exact this
 | _,[],_,t,o,h=>by simp at h
theorem AbT {id:Nat}{ops:List Oper}(N:Nat)(is:List Nat)(sp:List Sy)(hs:List (Ux→List Ent))(hm:P.follows .mixedOrders=true)(hB:okY n ops N is (E2 l0) (sp.map (·.deps)) (sp.map (·.lv)) (sp.map (·.fx)) (sp.map (·.old))=true)(hl0:UN l0 l)(hlw:UN lw l)(hsp:sp.length=N)(hst:Sj sp)
    (hH:∀u,hs.getD 0 (λ_=>[]) u=H) (hob:Q7 P n c ops.toArray Q ops sp l0 lw is hs 0 (ops.take N)) (h:∀u,WL P n c ops.toArray Q (ops.drop N) (M6 (λ_=>0) (ops.take N) (saY sp u) 0 l0) (hs.getD is.length (λ_=>[]) u)):WC P n c (.region id ops.toArray true) Q l H:=by
  intro a w Z ha hw;simp only[okY,Agf,AgC,List.mem_range,AfY] at hB;obtain⟨⟨⟨⟨⟨⟨⟨⟨⟨b1,bN⟩,bis⟩,LL⟩,bch⟩,b2⟩,b3⟩,b4⟩,b6⟩,b5⟩:=hB;have hget:∀i,i<N→(ops.take N)[i]? =ops[i]?:=λi hi=>by rw[AgI,AgT hi]
  have hsa:∀i,i<N→sp[i]? =some (H7 sp i):=λi hi=>by
    simp[H7,Agh,Agi (show i<sp.length by omega)]
  have hspq:∀u i,i<N→(El (syu sp u) i)=⟨(H7 sp i).deps,(H7 sp i).r u,0⟩:=λu i hi=>by
    simp[El,syu,Agh,Ag6,hsa i hi]
  have hlv:∀j,j<N→(sp.map (·.lv)).getD j 0=(H7 sp j).lv:=λj hj=>by simp[Agh,Ag6,hsa j hj]
  have hfx:∀j,j<N→(sp.map (·.fx)).getD j false=(H7 sp j).fx:=λj hj=>by simp[Agh,Ag6,hsa j hj]
  have hdep:∀j,j<N→(sp.map (·.deps)).getD j []=(H7 sp j).deps:=λj hj=>by simp[Agh,Ag6,hsa j hj]
  have hops:∀j,j<N→∃o,ops[j]? =some o:=λj hj=>⟨ops[j]'(by omega),Agi (by omega)⟩
  have hisN:∀k (hk:k<is.length),is[k]<N:=λk hk=>bis _ (List.getElem_mem hk);have hisD:∀k (hk:k<is.length),is.getD k 0=is[k]:=λk hk=>by rw[Agh,Agi hk];rfl
  have hdst:∀i o d,i<N→ops[i]? =some o→o.dst=some d→(d<n∧d ∉ E2 l0)∧∀j,j<N→j≠i→Cw ops j≠some d:=λi o d hi ho hd=>by
    have h3:=b2 i hi;have:Cw ops i=some d:=by simp[Cw,ho,hd]
    rw[this] at h3;simp only[Agf,Agy,AgC,List.mem_range,AfY] at h3;refine⟨⟨h3.1.1,λhmem=>by rw[← List.contains_iff_mem] at hmem;rw[hmem] at h3;cases h3.1.2⟩,λj hj hne he=>?_⟩;have:=h3.2 j hj;simp[hne,he] at this
  have clo:∀S:Nat→Bool,(∀t o,ops[t]? =some o→S t=true→∀e∈Dj o,S e=true)→∀j i,((M0 ops []).getD j 0).testBit i=true→S j=true→S i=true:=λS hc j i hb hj=>
    Hl ops (λk=>S k=true) ops [] (λt o ht e he hF=>hc t o ht (by simpa using hF) e he) (λj i hb=>by simp at hb) j i hb hj
  have pre1:∀S:Nat→Bool,(∀t o,ops[t]? =some o→S t=true→∀e∈Dj o,S e=true)→∀k (hk:k<is.length),S is[k]=true→∀j (hj:j<is.length),j≤k→S is[j]=true:=by
    intro S hc k
    induction k with
    | zero=>
              intro hk h0 j hj hle;have:j=0:=by omega
              subst this;exact h0
    | succ k ih=>
      intro hk h0 j hj hle
      by_cases e:j=k+1
      · subst e;exact h0
      · have h3:=bch (k+1) hk
        rw[hisD (k+1) hk] at h3;simp only[Ag4,beq_iff_eq,Nat.succ_ne_zero,false_or,Nat.add_sub_cancel] at h3;rw[hisD k (by omega)] at h3;exact ih (by omega) (clo S hc _ _ h3 h0) j hj (by omega)
  refine UX (N:=N) hm b1 bN (λS a w=>∃ (u:Ux) (Z:Fz),St c (hs.getD (cnt S is) (λ_=>[]) u) Z w∧Dq n l0 a Z∧(∀j o d,j<N→S j=true→ops[j]? =some o→o.dst=some d→∃v,a.tmps[d]? =some v∧((H7 sp j).r u).p Z v)∧
      (∀t o,t<N→ops[t]? =some o→S t=true→∀e∈Dj o,e<t∧S e=true)∧
      (∀d q,look lw d=some q→(∀wr,wr<N→Cw ops wr=some d→S wr=false)→∃v,a.tmps[d]? =some v∧q.p Z v)∧
      ∀wr i d,wr<N→i<N→Cw ops wr=some d→d∈(H7 sp i).old→S wr=true→S i=true)
    (λS S' a w hS hI=>?_) ⟨default,Z,?_,ha.subL hl0,λj o d _ hS=>(by cases hS),λt o _ _ hS=>(by cases hS),λd q hd _=>(ha.subL hlw).tm d q hd,λwr i d _ _ _ _ hS=>(by cases hS)⟩ (λS i o a w hi hun ho hb hI K hK=>?_) (λa w hI=>?_)
  · obtain⟨u,Z,h1,h2,h3,h4,h5,h6⟩:=hI
    refine⟨u,Z,?_,h2,λj o d hj hS'=>h3 j o d hj (by rw[hS j hj];exact hS'),λt o ht hto hSt e he=>?_,λd q hd hw'=>h5 d q hd (λwr hwr hdw=>by rw[hS wr hwr];exact hw' wr hwr hdw),λwr i d hwr hi hdw hold hSw=>by rw[← hS i hi];exact h6 wr i d hwr hi hdw hold (by rw[hS wr hwr];exact hSw)⟩
    · rw[← Se (S:=S) (S':=S') λi hi=>hS i (bis i hi)];exact h1
    · obtain⟨h7,h8⟩:=h4 t o ht hto (by rw[hS t ht];exact hSt) e he
      exact⟨h7,by rw[← hS e (by omega)];exact h8⟩
  · have:cnt (λ_=>false) is=0:=Qu (AgA _) (λj _ h=>absurd h (Nat.not_lt_zero _)) (λ_ _ _=>rfl)
    rw[this,hH];exact hw.drawn _
  · obtain⟨u,Z,h1,h2,h3,hc,ho5,ho6⟩:=hI
    have hcl:∀t o,ops[t]? =some o→(decide (t<N)&&S t)=true→∀e∈Dj o,(decide (e<N)&&S e)=true:=λt o hto hSt e he=>by
      simp only[Agf,AfY] at hSt ⊢;obtain⟨h7,h8⟩:=hc t o hSt.1 hto hSt.2 e he;exact⟨by omega,h8⟩
    have hcl2:∀k q,((M0 ops []).getD k 0).testBit q=true→(k=i∨(decide (k<N)&&S k)=true)→(q=i∨(decide (q<N)&&S q)=true):=
      Hl ops (λk=>k=i∨(decide (k<N)&&S k)=true) ops [] (λt o' ht e he hF=>by
        rcases hF with hF | hF
        · simp at hF;subst hF
          rw[ho] at ht;simp at ht;subst ht;obtain⟨h7,h8⟩:=hb e he;exact .inr (by simp only[Agf,AfY];exact⟨by omega,h8⟩)
        · exact .inr (hcl t o' ht (by simpa using hF) e he)) (λj i hb=>by simp at hb)
    have hanc:∀q,((M0 ops []).getD i 0).testBit q=true→q≠i→S q=true:=λq hq hne=>by
      rcases hcl2 i q hq (.inl rfl) with h7 | h7
      · exact absurd h7 hne
      · simp only[Agf] at h7;exact h7.2
    have hSis:∀k (hk:k<is.length),(decide (is[k]<N)&&S is[k])=S is[k]:=λk hk=>by simp[hisN k hk]
    have hpre:∀k (hk:k<is.length),S is[k]=true→∀j (hj:j<is.length),j≤k→S is[j]=true:=λk hk hSk j hj hle=>by
      have:=pre1 (λk=>decide (k<N)&&S k) hcl k hk (by show(decide (is[k]<N)&&S is[k])=true;rw[hSis k hk];exact hSk) j hj hle
      rwa [show(decide (is[j]<N)&&S is[j])=S is[j] from hSis j hj] at this
    have hput:∀k u v,a.tmps[k]? =some u→o.dst≠some k→(a.put o.dst v).tmps[k]? =some u:=λk u v hk hne=>by
      cases hd:o.dst with
      | none=>simpa[Act.put] using hk
      | some d=>
        simp only[Act.put,Array.getElem?_setIfInBounds];rw[AgF (λe=>hne (by rw[hd,e]))];exact hk
    have hagr:∀v Z',Fz.le Z Z'→Dq n l0 (a.put o.dst v) Z':=λv Z' hz=>by
      refine⟨?_,?_,λk r hk=>?_⟩
      · cases o.dst<;>simp[Act.put,h2.size]
      · cases o.dst<;>simp[Act.put,h2.defers]
      · obtain⟨u,hu,hpu⟩:=h2.tm k r hk
        exact⟨u,hput k u v hu (λe=>((hdst i o k hi ho e).1).2 (KL hk)),r.mono hz hpu⟩
    have hvals:∀(v:Value) (Z':Fz) (u':Ux),Fz.le Z Z'→(∀j,j<N→j≠i→S j=true→(H7 sp j).r u'=(H7 sp j).r u)→(o.dst≠none→((H7 sp i).r u').p Z' v)→∀j o' d,j<N→(j ==i||S j)=true→ops[j]? =some o'→o'.dst=some d→∃q,(a.put o.dst v).tmps[d]? =some q∧((H7 sp j).r u').p Z' q:=by
      intro v Z' u' hz hβ hp j o' d hj hS' ho' hd
      by_cases hji:j=i
      · subst hji
        rw[ho] at ho';simp at ho';subst ho';refine⟨v,?_,hp (by simp[hd])⟩;have hdn:d<a.tmps.size:=by rw[h2.size];exact(hdst j o d hi ho hd).1.1
        simp[Act.put,hd,hdn]
      · have hSj:S j=true:=by simpa[hji] using hS'
        obtain⟨q,hu,hpu⟩:=h3 j o' d hj hSj ho' hd;refine⟨q,hput d q v hu (λe=>(hdst i o d hi ho e).2 j hj hji (by simp[Cw,ho',hd])),?_⟩;rw[hβ j hj hji hSj];exact((H7 sp j).r u).mono hz hpu
    have hat:=hob.at i o (by rw[hget i hi];exact ho);rw[AgH] at hat;have hold':∀Z',Fz.le Z Z'→∀v d q,look lw d=some q→(∀wr,wr<N→Cw ops wr=some d→(wr ==i||S wr)=false)→∃v',(a.put o.dst v).tmps[d]? =some v'∧q.p Z' v':=λZ' hz v d q hd hw'=>by
      obtain⟨v',e1,e2⟩:=ho5 d q hd (λwr hwr hdw=>by have:=hw' wr hwr hdw;simp only[Ag7] at this;exact this.2);refine⟨v',hput d v' v e1 (λe=>?_),q.mono hz e2⟩;have:=hw' i hi (by simp[Cw,ho,e]);simp at this
    have hord:∀wr k d,wr<N→k<N→Cw ops wr=some d→d∈(H7 sp k).old→(wr ==i||S wr)=true→(k ==i||S k)=true:=λwr k d hwr hk hdw hmem hSw=>by
      by_cases hwi:wr=i
      · subst hwi
        have h7:=b5 k hk d (by simpa[Agh,Ag6,hsa k hk] using hmem) wr hwr;simp only[Ag4,bne_iff_ne,ne_eq,hdw,not_true_eq_false,false_or] at h7;rw[Agh,ho,Ag5,List.contains_iff_mem] at h7;simp[(hb k h7).2]
      · have:S k=true:=ho6 wr k d hwr hk hdw hmem (by simpa[hwi] using hSw)
        simp[this]
    have hcl':∀t o',t<N→ops[t]? =some o'→(t ==i||S t)=true→∀e∈Dj o',e<t∧(e ==i||S e)=true:=λt o' ht hto hSt e he=>by
      by_cases hti:t=i
      · subst hti
        rw[ho] at hto;simp at hto;subst hto;obtain⟨h7,h8⟩:=hb e he;exact⟨h7,by simp[h8]⟩
      · obtain⟨h7,h8⟩:=hc t o' ht hto (by simpa[hti] using hSt) e he
        exact⟨h7,by simp[h8]⟩
    have hag':Dq n (Gx lw (H7 sp i).old (Cn ops (syu sp u) (H7 sp i).deps l0)) a Z:=Tb (LE h2 (λj hj d hd=>by
        obtain⟨h5,h6⟩:=b3 i hi j (by rw[hdep i hi];exact hj);rw[Agh,ho,Ag5,List.contains_iff_mem] at h6;obtain⟨o2,ho2⟩:=hops j h5;obtain⟨v,hv1,hv2⟩:=h3 j o2 d h5 (hb j h6).2 ho2 (by simpa[Cw,ho2] using hd);refine⟨v,hv1,?_⟩;rw[hspq u j h5];exact hv2)) (λd hd q hq=>ho5 d q hq (λwr hwr hdw=>by
          cases hS:S wr with
          | false=>rfl
          | true=>have:=ho6 wr i d hwr hi hdw hd hS;rw[this] at hun;cases hun))
    have hlev:∀j,j<N→S j=true→∀m (hm:m<is.length),m<(H7 sp j).lv→S is[m]=true:=λj hj hSj m hm hlt=>by
      have h7:=b4 j hj;rw[hlv j hj] at h7;have h8:=h7.1;have hm1:(H7 sp j).lv-1<is.length:=by omega
      rw[hisD _ hm1] at h7;have h9:S is[(H7 sp j).lv-1]=true:=by
        have hg:=h7.2;simp only[Ag4,beq_iff_eq] at hg;rcases hg with(hg | hg) | hg
        · omega
        · rw[← hg];exact hSj
        · have:=clo (λk=>decide (k<N)&&S k) hcl j _ hg (by simp[hj,hSj])
          simp only[Agf] at this;exact this.2
      exact hpre _ hm1 h9 m hm (by omega)
    unfold ObY at hat
    cases hf:is.findIdx? (λx=>Nat.beq x i) with
    | some k=>
      rw[hf] at hat;obtain⟨hk,hki,_⟩:=List.findIdx?_eq_some_iff_getElem.1 hf;have hik:is[k]=i:=Nat.eq_of_beq_eq_true hki;have hlow:∀j (hj:j<is.length),j<k→S is[j]=true:=λj hj hjk=>by
        obtain⟨k',rfl⟩:∃k',k=k'+1:=⟨k-1,by omega⟩
        have h7:=bch (k'+1) hk;rw[hisD _ hk] at h7;simp only[Ag4,beq_iff_eq,Nat.succ_ne_zero,false_or,Nat.add_sub_cancel] at h7;have hk':k'<is.length:=by omega
        rw[hisD k' hk',hik] at h7;have hne:is[k']≠i:=λe=>by
          have:=(List.getElem_inj LL).1 (e.trans hik.symm);omega
        exact hpre k' hk' (hanc _ h7 hne) j hj (by omega)
      have hhigh:∀j (hj:j<is.length),k≤j→S is[j]=false:=λj hj hle=>by
        cases hS:S is[j] with
        | false=>rfl
        | true=>have:=hpre j hj hS k hk hle;rw[hik,hun] at this;cases this
      have hcnt:cnt S is=k:=Qu (by omega) (λj hj h=>hlow j hj h) (λj hj h=>hhigh j hj h);have hcnt':cnt (λj=>j ==i||S j) is=k+1:=Qu (by omega) (λj hj h=>by
        by_cases e:j=k
        · subst e;simp[hik]
        · simp[hlow j hj (by omega)]) (λj hj h=>by
        have hne:is[j]≠i:=λe=>by have:=(List.getElem_inj LL).1 (e.trans hik.symm);omega
        simp[hne,hhigh j hj (by omega)])
      rw[hcnt] at h1;have key:=λK' hK'=>hat u a w Z K' hag' h1 hK';have h5:∀u' v w' Z',Ag k u u'→Fz.le Z Z'→((H7 sp i).r u').p Z' v→St c (hs.getD (k+1) (λ_=>[]) u') Z' w'→K (a.put o.dst v) w':=λu' v w' Z' hag hz hpv hs'=>by
        refine hK _ _ ⟨u',Z',by rw[hcnt'];exact hs',hagr v Z' hz,hvals v Z' u' hz (λj hj hji hSj=>?_) (λ_=>hpv),hcl',hold' Z' hz v,hord⟩;refine(hst.at (hsa j hj) u u' (λm hm=>hag m ?_)).symm;have hlj:=(b4 j hj).1;rw[hlv j hj] at hlj;have hml:m<is.length:=by omega
        cases Nat.lt_or_ge m k with
        | inl h7=>exact h7
        | inr h7=>have:=hlev j hj hSj m hml hm;rw[hhigh m hml h7] at this;cases this
      refine⟨λ_=>(key K h5).2,λhw'=>?_⟩;rw[(key K h5).1] at hw';cases hw'
    | none=>
      rw[hf] at hat;have hni:∀x∈is,x≠i:=λx hx e=>by
        have:=List.findIdx?_eq_none_iff.1 hf x hx;subst e;simp at this
      have hcnt':cnt (λj=>j ==i||S j) is=cnt S is:=Se λx hx=>by simp[hni x hx]
      by_cases hfi:(H7 sp i).fx=true
      · simp only[hfi,AgU] at hat
        have hli:=b4 i hi;rw[hlv i hi] at hli;have hcnt:cnt S is=(H7 sp i).lv:=Qu hli.1 (λj hj h=>?_) (λj hj h=>?_)
        · rw[hcnt] at h1
          refine hat u a w Z K hag' h1 (λv w' Z' hz hp hst'=>hK _ _ ⟨u,Z',?_,hagr v Z' hz,hvals v Z' u hz (λ_ _ _ _=>rfl) (λ_=>hp),hcl',hold' Z' hz v,hord⟩);rw[hcnt',hcnt];exact hst'
        · have h7:=hli.2
          have hm1:(H7 sp i).lv-1<is.length:=by omega
          rw[hisD _ hm1] at h7;simp only[Ag4,beq_iff_eq] at h7;rcases h7 with(h7 | h7) | h7
          · omega
          · exact absurd h7.symm (hni _ (List.getElem_mem hm1))
          · exact hpre _ hm1 (hanc _ h7 (hni _ (List.getElem_mem hm1))) j hj (by omega)
        · have h7:=b6 i hi
          rw[hfx i hi,hfi,hlv i hi] at h7;simp only[Agl,Ags,Ag4,beq_iff_eq] at h7;rcases h7 with h7 | h7
          · omega
          · have hm1:(H7 sp i).lv<is.length:=by omega
            rw[hisD _ hm1] at h7
            cases hS:S is[j] with
            | false=>rfl
            | true=>
              have h8:=hpre j hj hS _ hm1 h;have:=clo (λk=>decide (k<N)&&S k) hcl _ _ h7 (by show(decide (is[(H7 sp i).lv]<N)&&S is[(H7 sp i).lv])=true;rw[hSis _ hm1];exact h8);simp only[Agf,hun] at this;exact absurd this.2 (by simp)
      · simp only[hfi,AgM] at hat
        refine hat u (cnt S is) (List.length_filter_le _ _) a w Z K hag' h1 (λv w' Z' hz hp hst'=>hK _ _ ⟨u,Z',?_,hagr v Z' hz,hvals v Z' u hz (λ_ _ _ _=>rfl) (λ_=>hp),hcl',hold' Z' hz v,hord⟩);rw[hcnt'];exact hst'
  · obtain⟨u,Z,h1,h2,h3,_,_,_⟩:=hI
    have hsl:(saY sp u).length=N:=by simp[saY,hsp]
    have hcnt:cnt (λ_=>true) is=is.length:=Qu (Agu _) (λ_ _ _=>rfl) (λj hj h=>by omega);rw[hcnt] at h1;refine h u a w Z (Pa h2 _ _ 0 (λt o s d ht hs hd=>?_)) h1;have htN:t<N:=by have:=(List.getElem?_eq_some_iff.1 hs).1;omega
    have hs':s = { deps:=(H7 sp t).deps,r:=(H7 sp t).r u }:=by
      simp only[saY,Ag6,hsa t htN,Option.map_some,Option.some.injEq] at hs;exact hs.symm
    subst hs';rw[AgH];exact h3 t o d htN rfl (by rw[← hget t htN];exact ht) hd
theorem EG {id:Nat}{ops:List Oper}(N:Nat)(is ks0 ksw:List Nat)(sp:List Sy)(hs:List (Ux→List Ent))(hst:Sj sp)(hob:Q7 P n c ops.toArray Q ops sp l0 lw is hs 0 (ops.take N))(h:∀u,WL P n c ops.toArray Q (ops.drop N) (M6 (λ_=>0) (ops.take N) (saY sp u) 0 l0) (hs.getD is.length (λ_=>[]) u))
  (h0:Kp ks0 l l0:=by repeat (first | exact OB | (apply Mt;rfl) | (apply Nd;rfl))) (hw:Kp ksw l lw:=by repeat (first | exact OB | (apply Mt;rfl) | (apply Nd;rfl))) (hm:P.follows .mixedOrders=true:=by kernel_rfl) (hB:okY n ops N is (E2 l0) (sp.map (·.deps)) (sp.map (·.lv)) (sp.map (·.fx)) (sp.map (·.old))=true:=by kernel_rfl)
  (hsp:sp.length=N:=by rfl) (hH:∀u,hs.getD 0 (λ_=>[]) u=H:=by exact λ_=>rfl):WC P n c (.region id ops.toArray true) Q l H:=AbT N is sp hs hm hB h0.one hw.one hsp hst hH hob h
theorem B6 {all rest:List Oper}{o:Oper}{i:Nat}(hr:∀{u H},DL P n c opsA Q (Gx lw (H7 sp i).old (Cn all (syu sp u) (H7 sp i).deps l0)) H o ((H7 sp i).r u) H)(h:Q7 P n c opsA Q all sp l0 lw is hs (i+1) rest)(hne:is.findIdx? (λx=>Nat.beq x i)=none:=by rfl)(hf:(H7 sp i).fx=false:=by rfl):Q7 P n c opsA Q all sp l0 lw is hs i (o::rest):=by
 refine⟨?_,h⟩;unfold ObY;rw[hne];simp only[hf,Agv,AgM];exact λu _ _=>hr
def Adm (p:List Ent→Prop)(u:Ux):List (Ux→List Ent)→Prop
 | []=>True
 | f::r=>p (f u)∧Adm p u r
theorem Adm.at {p:List Ent→Prop}{u:Ux}:∀{hs:List (Ux→List Ent)},Adm p u hs→∀k,k<hs.length→p (hs.getD k (λ_=>[]) u)
 | [],_,k,h=>absurd h (Nat.not_lt_zero _)
 | f::r,⟨h1,h2⟩,0,_=>h1
 | f::r,⟨h1,h2⟩,k+1,h=>Adm.at h2 k (by simpa using h)
theorem Wx {all rest:List Oper}{o:Oper}{i:Nat}(hr:∀{u},DL P n c opsA Q (Gx lw (H7 sp i).old (Cn all (syu sp u) (H7 sp i).deps l0)) (hs.getD (H7 sp i).lv (λ_=>[]) u) o ((H7 sp i).r u) (hs.getD (H7 sp i).lv (λ_=>[]) u))(h:Q7 P n c opsA Q all sp l0 lw is hs (i+1) rest)(hne:is.findIdx? (λx=>Nat.beq x i)=none:=by rfl)(hf:(H7 sp i).fx=true:=by rfl):Q7 P n c opsA Q all sp l0 lw is hs i (o::rest):=by
 refine⟨?_,h⟩;unfold ObY;rw[hne];simp only[hf,AgU];exact λu=>hr
theorem US {all:List Oper}{i:Nat}:Q7 P n c opsA Q all sp l0 lw is hs i []:=trivial
end
section
variable {P : Program} {n : Nat} {c : Cx} {opsA : Array Oper} {Q : Exit → Act → World → Prop} {l : Fr} {H : List Ent} {d : Nat} {x y : Operand} {ty t e : TypeId} {pos : String} {af : Array Edge} {v : Value} {sz : Nat}
end
end Go.Proofs.YtfobhhegpkinaaaGreatDoor.Q
namespace Go.Proofs.YtfobhhegpkinaaaGreatDoor
open Go
end Go.Proofs.YtfobhhegpkinaaaGreatDoor
namespace Go.Proofs.YtfobhhegpkinaaaGreatDoor.Q
open Go Go.RowKit
set_option linter.unusedVariables false
section
variable {P : Program} {n : Nat} {c : Cx} {ops : Array Oper} {Q : Exit → Act → World → Prop} {rest : List Oper} {l : Fr} {H : List Ent} {d : Nat} {d' : Option Nat} {t kt et ty : TypeId} {pos : String} {af : Array Edge} {g : Option (Nat × Bool)} {x y u : Operand} {b i : Nat} {T : Type} {enc : T → Rp} {xs : List (Int × T)} {z : T} {zv : Value}
theorem Tf.push {Z:Fz}{k:Int}{r:Rp}{v:Value}(hv:r.p Z v)(ck:Nat):∀{m:List (Int×Rp)} {es:List MapEntry},Tf Z m es→Tf Z (m++[(k,r)]) (es++[⟨.int .i64 k,v,ck⟩])
 | [],[],_=>⟨⟨rfl,hv⟩,trivial⟩
 | p::m,e::es,⟨h1,h2⟩=>⟨h1,h2.push hv ck⟩
end
set_option linter.unusedSimpArgs false
def PtZ (k:Nat)(i:Int)(off:Nat)(Z:Fz)(v:Value):Prop:=if i<0 then v = .pointer none else ∃b,Z.nm k i.toNat=some b∧v = .pointer (some ⟨b,off,none⟩)
def rPt (k:Nat)(i:Int)(off:Nat):Rp:=⟨PtZ k i off,fun {Z Z' v} h hp=>by
 unfold PtZ at *
 split
 ·rename_i h0;rwa [AgT h0] at hp
 ·rename_i h0;rw[AgF h0] at hp;obtain⟨b,h1,h2⟩:=hp;exact⟨b,h.nm k _ b h1,h2⟩,true,λ_ Z v hp=>by
 change PtZ k i off Z v at hp
 unfold PtZ at hp
 split at hp
 ·rw[hp];rfl
 ·obtain⟨b,_,h2⟩:=hp;rw[h2];rfl⟩
section
variable {P : Program} {n : Nat} {c : Cx} {ops : Array Oper} {Q : Exit → Act → World → Prop} {rest : List Oper} {l : Fr} {H H' : List Ent} {d : Nat} {d' : Option Nat} {x y : Operand} {ty t t' e : TypeId} {pos : String} {af : Array Edge} {g : Option (Nat × Bool)} {v u : Value} {r : Rp} {sz k : Nat} {pv : Value} {α : Type} [Inhabited α] {xs : List α} {enc : α → List Rp}
theorem Dq.re {a:Act}{Z:Fz}{d:Nat}{q r:Rp}(h:Dq n l a Z)(hl:look l d=some q)(hq:∀v,q.p Z v→r.p Z v):Dq n ((d,r)::l) a Z:=⟨h.size,h.defers,λi u hi=>by
 rw[CN] at hi
 split at hi
 ·rename_i e;subst e;simp at hi;subst hi
  obtain⟨v,h1,h2⟩:=h.tm d q hl;exact⟨v,h1,hq v h2⟩
 ·exact h.tm i u hi⟩
theorem PtZ.of {Z:Fz}{b N:Nat}(h:Z.nm k N=some b):∀v,(rv (.pointer (some ⟨b,0,none⟩))).p Z v→(rPt k (N:Int) 0).p Z v:=λv hv=>by
 show PtZ k N 0 Z v;unfold PtZ;rw[AgF (by omega)];exact⟨b,by simpa using h,hv⟩
end
def MpZ (m:List (List UInt8×Rp))(Z:Fz)(v:Value):Prop:=(v = .map none∧m=[])∨∃b es ck,v = .map (some b)∧Z b=some (.map es ck)∧EW Z m es.toList ck
def Oi (m:List (List UInt8×Rp)):Rp:=⟨MpZ m,λh h0=>h0.imp id λ⟨b,es,ck,h1,h2,h3⟩=>⟨b,es,ck,h1,h.f b _ h2,h3.mono h⟩,true,λ_ Z v h0=>by rcases h0 with⟨h1,_⟩ | ⟨b,es,ck,h1,_⟩<;>(rw[h1];rfl)⟩
theorem Ack (Z:Fz):(Oi []).p Z (.map none):=.inl ⟨rfl,rfl⟩
section
variable {P : Program} {n : Nat} {c : Cx} {ops opsA : Array Oper} {Q : Exit → Act → World → Prop} {rest : List Oper} {l : Fr} {H : List Ent} {d : Nat} {d' : Option Nat} {ty t kt et rty : TypeId} {pos : String} {af : Array Edge} {g : Option (Nat × Bool)} {x y u : Operand} {K : Act → World → Prop} {cx : Code} {r : Rp}
variable {T : Type} {enc : T → Rp} {xs : List (Aj × T)} {z : T} {k : Aj} {zv : Value} {i b : Nat}
theorem St.freezeM {Z:Fz}{w:World}(h:St c H Z w){m:List (List UInt8×Rp)}(hi:H[i]? =some (.map b m)):∃Z',Fz.le Z Z'∧St c (.fact (.map (some b)) (Oi m)::H.eraseIdx i) Z' w:=by
 obtain⟨es,ck,hg,hm⟩:=h.ent hi;have hmem:=Agq hi;have hgz:Z b=none:=h.zdis _ hmem b (by simp[Ent.foot])
 let Z':Fz:=⟨λq=>if q=b then some (.map es ck) else Z q,Z.nm⟩
 have hle:Fz.le Z Z':=⟨λq o hb=>by
  have:q≠b:=λe=>by subst e;rw[hgz] at hb;cases hb
  simpa[Z',this] using hb,λ_ _ _ h=>h⟩
 have hfr:=h.front hi;have hd:=List.pairwise_cons.1 hfr.dis;have hs:=hfr.sub (List.sublist_cons_self _ _);have hs':St c (H.eraseIdx i) Z' w:=by
  refine { hs with has:=λen he=>Ent.keep (hs.has en he) hle λ_ _=>rfl,frz:=⟨λq o hb=>?_,h.frz.nm⟩,gst:=hs.gst.names rfl,le:=hs.le.trans hle,new:=λq o hb=>?_,zdis:=λen he k hk=>?_,env:=hs.emono hle hs.env }
  ·by_cases hbg:q=b
   ·subst hbg;simp[Z'] at hb;rw[← hb];exact hg
   ·simp[Z',hbg] at hb;exact h.frz q o hb
  ·by_cases hbg:q=b
   ·subst hbg;exact .inr (h.own _ hmem q (by simp[Ent.foot]))
   ·simp[Z',hbg] at hb;exact h.new q o hb
  ·have hkg:k≠b:=λe=>hd.1 en he b (by simp[Ent.foot]) (e▸hk);simp only[Z',hkg,AgM];exact hs.zdis en he k hk
 exact⟨Z',hle,hs'.add rfl rfl rfl (Agu _) (λ_ _=>rfl) (e':=.fact (.map (some b)) (Oi m)) (.inr ⟨b,es,ck,rfl,by simp[Z'],hm.mono hle⟩) (by simp[Ent.foot])⟩
theorem WK.freezeM {m:List (List UInt8×Rp)}(hi:H[i]? =some (.map b m))(h:WK n c K l (.fact (.map (some b)) (Oi m)::H.eraseIdx i)):WK n c K l H:=λa w Z ha hw=>by
 obtain⟨Z',hz,hs⟩:=St.freezeM hw hi;exact h a w Z' (ha.mono hz) hs
theorem WC.freezeM {m:List (List UInt8×Rp)}(hi:H[i]? =some (.map b m))(h:WC P n c cx Q l (.fact (.map (some b)) (Oi m)::H.eraseIdx i)):WC P n c cx Q l H:=λa w Z ha hw=>by
 obtain⟨Z',hz,hs⟩:=St.freezeM hw hi;exact h a w Z' (ha.mono hz) hs
theorem WL.freezeM {m:List (List UInt8×Rp)}(hi:H[i]? =some (.map b m))(h:WL P n c ops Q rest l (.fact (.map (some b)) (Oi m)::H.eraseIdx i)):WL P n c ops Q rest l H:=λa w Z ha hw=>by
 obtain⟨Z',hz,hs⟩:=St.freezeM hw hi;exact h a w Z' (ha.mono hz) hs
theorem MpZ.heap {Z:Fz}{w:World}(hf:Xf Z w){m:List (List UInt8×Rp)}{v:Value}(h:(Oi m).p Z v):(v = .map none∧m=[])∨∃b,v = .map (some b)∧(Ent.map b m).holds Z w:=by
 rcases h with h | ⟨b,es,ck,h1,h2,h3⟩
 ·exact .inl h
 ·exact .inr ⟨b,h1,es,ck,hf b _ h2,h3⟩
theorem Aa3 {xs:List (Aj×T)}(h:AF enc xs=[]):xs=[]:=by
 have:=congrArg List.length h;rw[Hy] at this;exact List.length_eq_zero_iff.1 this
theorem Aal (ht:P.underlying t=some (.map kt et))(hk:P.underlying kt=some .string)(hz:∀w,(zeroValue et).run P w = .ok zv w)(hzr:∀Z,(enc z).p Z zv)(hx:ev l x=some (Oi (AF enc xs)))(hy:ev l y=some (rS k)) :
  B1 P n c l H { dst:=d',op:=.lookup t x y false,type:=ty,pos:=pos,after:=af,guard:=g } (enc (BE xs k z)):=λa w Z ha hw=>by
 rcases MpZ.heap hw.frz (ha.ev hx) with⟨e1,e2⟩ | ⟨b,e1,hb⟩
 ·obtain rfl:=Aa3 e2;refine⟨zv,hzr Z,?_⟩;have hf:Instr.findNow .string (.string (B k)) ([]:List MapEntry) 0=some none:=rfl;simp[execOp,e1,ha.eval hy,Instr.lookup,run_underlying ht,MapKept.run_checkKey hk (EA _),MapKept.run_findKey hk hf,hz]
 obtain⟨v,h1,h2⟩:=IR (k:=k) ht hk hz (hzr Z) hb false;rw[Qf] at h1;simp only[Agv,AgM] at h2;exact⟨v,h1,by simp[execOp,e1,ha.eval hy,h2]⟩
end
set_option maxRecDepth 100000
set_option maxHeartbeats 4000000
@[reducible] def Ab (x:An):List Rp:=[rS x.fID,rS x.fTenant,rS x.fCause,A4 x.fAt,A4 x.fEffect.fKind,rS x.fEffect.fKey,Be 4 (A8 Af x.fEffect.fValue),A4 x.fEffect.fDelay]
theorem C0 (x:An):(Ab x).length=8:=rfl
theorem DE (x:An):(Ab x).all (·.one)=true:=rfl
@[reducible] def Au (x:As):List Rp:=[A4 x.fKind,rS x.fKey,Be 4 (A8 Af x.fValue),A4 x.fDelay]
theorem DC (x:As):(Au x).length=4:=rfl
theorem Kr (x:As):(Au x).all (·.one)=true:=rfl
@[reducible] def BB (x:AE):List Rp:=[rS x.fEvent,rS x.fTenant,A4 x.fAttempt,Be 4 (A8 Af x.fResult),Be 4 (A8 Au x.fEffects),A4 x.fAt]
@[reducible] def Ca (x:(List Aj)):List Rp:=[Be 1 (A8 eS x)]
theorem DX (x:(List Aj)):(Ca x).length=1:=rfl
theorem Mx (x:(List Aj)):(Ca x).all (·.one)=true:=rfl
theorem VA:∃inf,Tryz.prog.info? 42=some inf∧inf.zero=some (.slice none 0 0)∧inf.size=1∧inf.bytes=24:=by
  have key:(Tryz.prog.info? 42).map (λi=>(i.zero,i.size,i.bytes))=some (some (.slice none 0 0),1,24):=by kernel_rfl
  obtain⟨inf,h1,h2⟩:=Option.map_eq_some_iff.1 key;simp only[Prod.mk.injEq] at h2;exact⟨inf,h1,h2.1,h2.2.1,h2.2.2⟩
theorem AaP:∃inf,Tryz.prog.info? 65=some inf∧inf.zero=some (.agg #[(.int .i64 0),(.string ⟨#[]⟩),(.slice none 0 0),(.int .i64 0)])∧inf.size=4∧inf.bytes=56:=by
  have key:(Tryz.prog.info? 65).map (λi=>(i.zero,i.size,i.bytes))=some (some (.agg #[(.int .i64 0),(.string ⟨#[]⟩),(.slice none 0 0),(.int .i64 0)]),4,56):=by kernel_rfl
  obtain⟨inf,h1,h2⟩:=Option.map_eq_some_iff.1 key;simp only[Prod.mk.injEq] at h2;exact⟨inf,h1,h2.1,h2.2.1,h2.2.2⟩
theorem Qb:∃inf,Tryz.prog.info? 67=some inf∧inf.zero=some (.agg #[(.string ⟨#[]⟩),(.string ⟨#[]⟩),(.string ⟨#[]⟩),(.int .i64 0),(.int .i64 0),(.string ⟨#[]⟩),(.slice none 0 0),(.int .i64 0)])∧inf.size=8∧inf.bytes=112:=by
  have key:(Tryz.prog.info? 67).map (λi=>(i.zero,i.size,i.bytes))=some (some (.agg #[(.string ⟨#[]⟩),(.string ⟨#[]⟩),(.string ⟨#[]⟩),(.int .i64 0),(.int .i64 0),(.string ⟨#[]⟩),(.slice none 0 0),(.int .i64 0)]),8,112):=by kernel_rfl
  obtain⟨inf,h1,h2⟩:=Option.map_eq_some_iff.1 key;simp only[Prod.mk.injEq] at h2;exact⟨inf,h1,h2.1,h2.2.1,h2.2.2⟩
theorem WZ (parts:List (Nat×Value)):Tryz.prog.built 65 parts=Instr.fill (λi=>(#[(0,1),(1,1),(2,1),(3,1)]:Array (Nat×Nat))[i]?) #[(.int .i64 0),(.string ⟨#[]⟩),((.slice none 0 0)),(.int .i64 0)] parts:=by kernel_rfl
theorem QK {n:Nat}{c:Cx}{l:Fr}{H:List Ent}{d:Option Nat}{ty:TypeId}{pos:String}{af:Array Edge}{g:Option (Nat×Bool)}{x0:Operand}{r0:Rp}(h0:ev l x0=some r0)(u0:r0.one=true){x1:Operand}{r1:Rp}(h1:ev l x1=some r1)(u1:r1.one=true):B1 Tryz.prog n c l H { dst:=d,op:=.build 65 #[(0,x0),(1,x1)],type:=ty,pos:=pos,after:=af,guard:=g } (BW [r0,r1,rv (.slice none 0 0),A4 0]):=λa w Z ha _=>by
  have p0:=ha.ev h0;have c0:=B7 (r0.hone u0 Z _ p0);have p1:=ha.ev h1;have c1:=B7 (r1.hone u1 Z _ p1);have hb:Tryz.prog.built 65 [(0,a.eval x0),(1,a.eval x1)]=some #[a.eval x0,a.eval x1,((.slice none 0 0)),(.int .i64 0)]:=by
    rw[WZ];generalize a.eval x0=v0 at *;generalize a.eval x1=v1 at *;simp[Instr.fill,c0,c1]
  refine⟨.agg #[a.eval x0,a.eval x1,((.slice none 0 0)),(.int .i64 0)],⟨[a.eval x0,a.eval x1,((.slice none 0 0)),(.int .i64 0)],rfl,p0,p1,rfl,rfl,trivial⟩,?_⟩;have:=run_build w 65 #[(0,a.eval x0),(1,a.eval x1)] _ (by simpa using hb);simp[execOp,this]
theorem I1 (ys:(List Ac))(r:(List Ac))(h:HA ys=some r):Fn Tryz.prog GE 41 [Be 4 (A8 Af ys)] [] (λR H=>R=Be 4 (A8 Af r)∧H=[]):=by
 refine enter (n:=8) Tryz.func41 Aa Tryz.ntmps41 Aa (λw Z=>?_);unfold HA at h;refine Am (wa Aa (Ax (Aq (Am (wm Aa (wv (XN D7 Aa) (Ax (Po Aa (λc1=>?_) (λc1=>?_)))))))))
 ·have e2:ys=[]:=List.map_eq_nil_iff.1 (c1 rfl);have h3:some ([]:List Ac)=some r:=by rw[e2] at h;exact(UC h).2
  refine Am (wa Aa (Ax (A6 (Ae (WK.up (d:=2) (r:=Be 4 (A8 Af ([]:List Ac))) Aa (Up.le (M1.nil _)) ?_)))));obtain rfl:=AA h3;exact A5 (Cp Tryz.results41 (AT Aa)) sN ⟨Aa,Aa⟩
 refine A0 (AY (Am (Bf (ys:=([]:List Ac)) (enc:=Af) (css:=[]) (xs:=[]) D7 EE O0 Aa Aa Aa trivial Aa BC Aa Aa Aa (λb4=>?_))));refine wm Aa (ck h λg6 h7=>Exists.elim Kb λinf hinf=>Cc (xs:=([]:List Ac)) (ys:=ys) (enc:=Af) (i:=0) D7 hinf.1 hinf.2.1 hinf.2.2.1 hinf.2.2.2 Aa Aa Aa Aa Aa (JD.z Aa Aa) BC Dh g6 Aa (λv5=>?_));refine wa Aa (Ax (A6 (WK.freeze (i:=0) Aa (WK.up (d:=2) (r:=Be 4 (A8 Af (([]:List Ac)++ys))) Aa (Up.fact (i:=0) Aa) ?_))));obtain rfl:=AA h7;exact A5 (Cp Tryz.results41 (AT Aa)) (sS sN) ⟨Aa,Aa⟩
theorem GZ (n:Int)(r:Bool)(h:BP n=some r):Fn Tryz.prog GE 54 [A4 n] [] (λR H=>R=rB r∧H=[]):=by
 refine enter (n:=9) Tryz.func54 Aa Tryz.ntmps54 Aa (λw Z=>?_);unfold BP at h;refine Am (wa Aa (Ax (AV [(2,rB ((decide (0≤n))&&(decide (n≤1073741824))))] [] ?_ ?_)))
 ·refine Ap (wm Aa (wv (Kw Aa Aa) (wm Aa (AZ (decide (0≤n)) (λc1=>?_) (λc1=>?_)))))
  ·refine wo c1 (wm Aa (wo c1 (wv (O8 Aa Aa) (GC Aa c1 Aa (wa Aa (Ar ?_))))));exact C8 c1
  refine wf c1 (wf c1 (wv (r:=rB false) (Ay Aa c1 Aa) (wa Aa (Ar ?_))));exact C8 c1
 refine A6 ?_;obtain rfl:=AA h;exact A5 (Cp Tryz.results54 (AT Aa)) sN ⟨Aa,Aa⟩
theorem ID (k:Int)(r:Bool)(h:Gz k=some r):Fn Tryz.prog GE 66 [A4 k] [] (λR H=>R=rB r∧H=[]):=by
 refine enter (n:=13) Tryz.func66 Aa Tryz.ntmps66 Aa (λw Z=>?_);unfold Gz at h;refine Am (wa Aa (Ax (AV [(2,rB ((decide (k=3))||((decide (k=4))||(decide (k=5)))))] [] ?_ ?_)))
 ·refine Ap (wm Aa (wv (BT Aa Aa) (wm Aa (AZ (decide (k=3)) (λc1=>?_) (λc1=>?_)))))
  ·refine wf c1 (wf c1 (wv (r:=rB true) (A3 Aa c1 Aa) (wm Aa (wz Aa Aa (wz Aa Aa (wv (r:=rB true) (A3 (b:=true) Aa Aa Aa) (wa Aa (Ar ?_))))))));exact C8 c1
  refine wo c1 (wm Aa (wo c1 (wv (BT Aa Aa) (GO Aa c1 Aa (wm Aa (AZ (decide (k=4)) (λc2=>?_) (λc2=>?_)))))))
  ·refine wf c2 (wf c2 (wv (r:=rB true) (A3 Aa c2 Aa) (wa Aa (Ar ?_))));exact C8 (And.intro c1 c2)
  refine wo c2 (wm Aa (wo c2 (wv (BT Aa Aa) (GO Aa c2 Aa (wa Aa (Ar ?_))))));exact C8 (And.intro c1 c2)
 refine A6 ?_;obtain rfl:=AA h;exact A5 (Cp Tryz.results66 (AT Aa)) sN ⟨Aa,Aa⟩
theorem Aar (x:As)(r:Bool)(h:SJ x=some r):Fn Tryz.prog GE 90 [BW (Au x)] [] (λR H=>R=rB r∧H=[]):=by
 refine enter (n:=17) Tryz.func90 Aa Tryz.ntmps90 Aa (λw Z=>?_);unfold SJ at h;refine Am (CT Aa Aa (λb1=>?_));refine wa Aa (Ax (Aq (AV [(1,rP b1 0),(10,rB ((decide (x.fKind=3))||(decide (x.fKind=4))))] [.blk b1 (Au x) 65] ?_ ?_)))
 ·refine Ap (vF C6 Aa H4 (vL 0 H5 Aa (wv (BT Aa Aa) (wm Aa (AZ (decide (x.fKind=3)) (λc2=>?_) (λc2=>?_))))))
  ·refine wf c2 (wf c2 (wf c2 (wv (r:=rB true) (A3 Aa c2 Aa) (Ar ?_))));exact C8 c2
  refine wo c2 (vF C6 Aa H4 (wo c2 (vL 0 H5 Aa (wo c2 (wv (BT Aa Aa) (GO Aa c2 Aa (Ar ?_)))))));exact C8 c2
 refine cz h Aa (λc3 h4=>?_) (λc3 h5=>?_)
 ·refine Am (vF C6 Aa BS (vL 0 Cf Aa (Dr (rs:=[rS x.fKey]) (r:=rB (Hx x.fKey)) Tryz.call53 Aa (Vz x.fKey) Aa Aa (wa Aa (Ax (A6 (Ae ?_)))))));obtain rfl:=AA h4;exact A5 (Cp Tryz.results90 (AT Aa)) (sS sN) ⟨Aa,Aa⟩
 refine A0 (AY (Am (vF C6 Aa BS (vL 0 Cf Aa (Dr (rs:=[rS x.fKey]) (r:=rB (Mw x.fKey)) Zk Aa (AcL x.fKey) Aa Aa (wa Aa (Ax (A6 ?_))))))));obtain rfl:=AA h5;exact A5 (Cp Tryz.results90 (AT Aa)) (sS sN) ⟨Aa,Aa⟩
theorem MU (v:(List Ac))(r:Bool)(h:CS v=some r):Fn Tryz.prog GE 91 [Be 4 (A8 Af v)] [] (λR H=>R=rB r∧H=[]):=by
 refine enter (n:=20) Tryz.func91 Aa Tryz.ntmps91 Aa (λw Z=>?_);unfold CS at h;refine Am (wa Aa (Ax (ck h λg1 h2=>ck h2 λg3 h4=>AV [(2,rB ((decide (1<(v.length:Int)))&&((decide (((Al v 0).fKind)=5))&&(decide (((Al v 1).fKind)=4)))))] [] ?_ ?_)))
 ·refine Ap (wm Aa (wv (By (ys:=v) (enc:=Af) D7 Aa) (wv (Ec Aa Aa) (wm Aa (AZ (decide (1<(v.length:Int))) (λc5=>?_) (λc5=>?_))))))
  ·refine wo c5 (wm Aa (wo c5 (wv (AU (enc:=Af) (ys:=v) D7 EE Aa Aa (G9 g1 c5)) (wo c5 (wv (Av CY Aa LH Aa Aa) (wo c5 (wv (AH LI Aa Aa) (wo c5 (wv (BT Aa Aa) (GC Aa c5 Aa (wm Aa (AZ (decide (((Al v 0).fKind)=5)) (λc6=>?_) (λc6=>?_)))))))))))))
   ·refine wo c6 (wm Aa (wo c6 (wv (AU (enc:=Af) (ys:=v) D7 EE Aa Aa (G9 (G9 g3 c5) c6)) (wo c6 (wv (Av CY Aa LH Aa Aa) (wo c6 (wv (AH LI Aa Aa) (wo c6 (wv (BT Aa Aa) (GC Aa c6 Aa (wa Aa (Ar ?_))))))))))));exact C8 (And.intro c5 c6)
   refine wf c6 (wf c6 (wf c6 (wf c6 (wf c6 (wv (r:=rB false) (Ay Aa c6 Aa) (wa Aa (Ar ?_)))))));exact C8 (And.intro c5 c6)
  refine wf c5 (wf c5 (wf c5 (wf c5 (wf c5 (wv (r:=rB false) (Ay Aa c5 Aa) (wm Aa (wz Aa Aa (wz Aa Aa (wz Aa Aa (wz Aa Aa (wz Aa Aa (wv (r:=rB false) (Ay (b:=false) Aa Aa Aa) (wa Aa (Ar ?_))))))))))))));exact C8 c5
 refine A6 ?_;obtain rfl:=AA h4;exact A5 (Cp Tryz.results91 (AT Aa)) sN ⟨Aa,Aa⟩
theorem R2 (F:Nat)(event:Aj)(x:As)(i:Int)(r:Int)(h:Lv F event x i=some r):Fn Tryz.prog GE 56 [rS event,BW (Au x),A4 i] [] (λR H=>R=A4 r∧H=[]):=by
 refine enter (n:=67) Tryz.func56 Aa Tryz.ntmps56 Aa (λw Z=>?_);unfold Lv at h;refine Am (CT Aa Aa (λb1=>?_));refine wa Aa (Ax (Aq (AV [(0,rS event),(2,A4 i),(4,rP b1 0),(17,rB ((decide (x.fKind<1))||(decide (5<x.fKind))))] [.blk b1 (Au x) 65] ?_ ?_)))
 ·refine Ap (vF C6 Aa H4 (vL 0 H5 Aa (wv (De Aa Aa) (wm Aa (AZ (decide (x.fKind<1)) (λc2=>?_) (λc2=>?_))))))
  ·refine wf c2 (wf c2 (wf c2 (wv (r:=rB true) (A3 Aa c2 Aa) (Ar ?_))));exact C8 c2
  refine wo c2 (vF C6 Aa H4 (wo c2 (vL 0 H5 Aa (wo c2 (wv (Ec Aa Aa) (GO Aa c2 Aa (Ar ?_)))))));exact C8 c2
 refine cz h Aa (λc3 h4=>?_) (λc3 h5=>?_)
 ·refine Am (wa Aa (Ax (A6 (Ae ?_))));obtain rfl:=AA h4;exact A5 (Cp O1 (AT Aa)) (sS sN) ⟨Aa,Aa⟩
 refine A0 (AY (Aq (Am (wv (Bl (i:=0) I6 Dk Aa Aa Aa Aa) (ob h5 λr6 e8 h7=>DM Tryz.call90 (Aar x r6 e8) Aa (wv (BJ Aa) (Ax (cz h7 Aa (λc9 hg=>?_) (λc9 hh=>?_)))))))))
 ·refine Am (wa Aa (Ax (A6 (Ae ?_))));obtain rfl:=AA hg;exact A5 (Cp O1 (AT Aa)) (sS sN) ⟨Aa,Aa⟩
 refine A0 (AY (Aq (Am (vF C6 Aa H4 (vL 0 H5 Aa (wv (BT Aa Aa) (Ax (cz hh Aa (λhi hj=>?_) (λhi hk=>?_)))))))))
 ·refine Am (vF C6 Aa CW (vL 0 EF Aa (wv (By (ys:=x.fValue) (enc:=Af) D7 Aa) (wv (Ec Aa Aa) (Ax (cz hj Aa (λhl hm=>?_) (λhl hn=>?_)))))))
  ·refine Am (wa Aa (Ax (A6 (Ae ?_))));obtain rfl:=AA hm;exact A5 (Cp O1 (AT Aa)) (sS sN) ⟨Aa,Aa⟩
  refine A0 (AY (Aq (ck hn λg17 ho=>AV [(0,rS event),(2,A4 i),(4,rP b1 0),(42,rB ((decide (x.fKind=5))&&(!(ov (CS x.fValue)))))] [.blk b1 (Au x) 65] ?_ ?_)))
  ·refine Ap (vF C6 Aa H4 (vL 0 H5 Aa (wv (BT Aa Aa) (wm Aa (AZ (decide (x.fKind=5)) (λha=>?_) (λha=>?_))))))
   ·refine wo ha (vF C6 Aa CW (wo ha (vL 0 EF Aa (wo ha (DM Tryz.call91 (MU x.fValue (ov (CS x.fValue)) (O6 (G9 g17 ha))) Aa (wo ha (wv (BJ Aa) (GC Aa ha Aa (Ar ?_)))))))));exact C8 ha
   refine wf ha (wf ha (wf ha (wf ha (wv (r:=rB false) (Ay Aa ha Aa) (Ar ?_)))));exact C8 ha
  refine cz ho Aa (λc20 hp=>?_) (λc20 hq=>?_)
  ·refine Am (wa Aa (Ax (A6 (Ae ?_))));obtain rfl:=AA hp;exact A5 (Cp O1 (AT Aa)) (sS sN) ⟨Aa,Aa⟩
  refine A0 (AY (Aq (ck hq λhr hs=>ck hs λht hu=>AV [(0,rS event),(2,A4 i),(4,rP b1 0),(56,rB (bif !decide (x.fKind=4) then((!decide (x.fDelay=0))||(!(ov (BP x.fDelay)))) else !(ov (BP x.fDelay))))] [.blk b1 (Au x) 65] ?_ ?_)))
  ·refine Ap (vF C6 Aa H4 (vL 0 H5 Aa (wv (Cl Aa Aa) (wm Aa (AZ (!decide (x.fKind=4)) (λhb=>?_) (λhb=>?_))))))
   ·refine wo hb (vF C6 Aa C2 (wo hb (vL 0 CO Aa (wo hb (wv (Cl Aa Aa) (GC Aa hb Aa (wm Aa (AZ (!decide (x.fDelay=0)) (λhd=>?_) (λhd=>?_)))))))))
    ·refine wf hd (wf hd (wf hd (wf hd (wv (r:=rB true) (A3 Aa hd Aa) (Ar ?_)))));exact C8 (And.intro hb hd)
    refine wo hd (vF C6 Aa C2 (wo hd (vL 0 CO Aa (wo hd (DM Xo (GZ x.fDelay (ov (BP x.fDelay)) (O6 (ED (G9 hr hb) hd))) Aa (wo hd (wv (BJ Aa) (GO Aa hd Aa (Ar ?_)))))))));exact C8 (And.intro hb hd)
   refine wf hb (wf hb (wf hb (wv (r:=rB false) (Ay Aa hb Aa) (wm Aa (AM (b:=false) Aa Aa Aa (vF C6 Aa C2 (AM (b:=false) Aa Aa Aa (vL 0 CO Aa (AM (b:=false) Aa Aa Aa (DM Xo (GZ x.fDelay (ov (BP x.fDelay)) (O6 (ED ht hb))) Aa (AM (b:=false) Aa Aa Aa (wv (BJ Aa) (wv (r:=rB (!(ov (BP x.fDelay)))) (Ay (b:=false) Aa Aa Aa) (Ar ?_))))))))))))));exact C8 hb
  refine cz hu Aa (λhw hx=>?_) (λhw hy=>?_)
  ·refine Am (wa Aa (Ax (A6 (Ae ?_))));obtain rfl:=AA hx;exact A5 (Cp O1 (AT Aa)) (sS sN) ⟨Aa,Aa⟩
  refine A0 (AY (Aq (Am (vF C6 Aa H4 (vL 0 H5 Aa (ob hy λhz h0 h1=>DM Tryz.call66 (ID x.fKind hz h0) Aa (Ax (cz h1 Aa (λh2 h3=>?_) (λh2 h6=>?_)))))))))
  ·refine Am (wm Aa (wm Aa (ck h3 λh8 h9=>ck h9 λhA hB=>Dr (rs:=[rS event,A4 i]) (r:=Db [rS (BV event i),A4 (CC event i)]) Tryz.call67 Aa (OX event i h8 hA) Aa Aa (wm Aa (wv (AD Aa Aa) (wv (AD Aa Aa) (wa Aa (wa Aa (B3 (wm Aa (wa Aa (Ax (A6 (Ae ?_))))))))))))));obtain rfl:=AA hB;exact A5 (Cp O1 (AT Aa)) (sS sN) ⟨Aa,Aa⟩
  refine A0 (AY (Am (wa Aa (Ax (A6 ?_)))));obtain rfl:=AA h6;exact A5 (Cp O1 (AT Aa)) (sS sN) ⟨Aa,Aa⟩
 refine Am (vF C6 Aa CW (vL 0 EF Aa (ob hk λhC hD hE=>DM Zj (K8 F x.fValue hC hD) Aa (wa Aa (B3 (wm Aa (wv (Cl Aa Aa) (Ax (cz hE Aa (λc46 hG=>?_) (λc46 hH=>?_))))))))))
 ·refine Am (wm Aa (wa Aa (Ax (A6 (Ae ?_)))));obtain rfl:=AA hG;exact A5 (Cp O1 (AT Aa)) (sS sN) ⟨Aa,Aa⟩
 refine A0 (AY (Aq (ck hH λhI hJ=>AV [(0,rS event),(2,A4 i),(4,rP b1 0),(42,rB ((decide (x.fKind=5))&&(!(ov (CS x.fValue)))))] [.blk b1 (Au x) 65] ?_ ?_)))
 ·refine Ap (vF C6 Aa H4 (vL 0 H5 Aa (wv (BT Aa Aa) (wm Aa (AZ (decide (x.fKind=5)) (λc51=>?_) (λc51=>?_))))))
  ·refine wo c51 (vF C6 Aa CW (wo c51 (vL 0 EF Aa (wo c51 (DM Tryz.call91 (MU x.fValue (ov (CS x.fValue)) (O6 (G9 hI c51))) Aa (wo c51 (wv (BJ Aa) (GC Aa c51 Aa (Ar ?_)))))))));exact C8 c51
  refine wf c51 (wf c51 (wf c51 (wf c51 (wv (r:=rB false) (Ay Aa c51 Aa) (Ar ?_)))));exact C8 c51
 refine cz hJ Aa (λhK hL=>?_) (λhK hN=>?_)
 ·refine Am (wa Aa (Ax (A6 (Ae ?_))));obtain rfl:=AA hL;exact A5 (Cp O1 (AT Aa)) (sS sN) ⟨Aa,Aa⟩
 refine A0 (AY (Aq (ck hN λhO hP=>ck hP λhQ hR=>AV [(0,rS event),(2,A4 i),(4,rP b1 0),(56,rB (bif !decide (x.fKind=4) then((!decide (x.fDelay=0))||(!(ov (BP x.fDelay)))) else !(ov (BP x.fDelay))))] [.blk b1 (Au x) 65] ?_ ?_)))
 ·refine Ap (vF C6 Aa H4 (vL 0 H5 Aa (wv (Cl Aa Aa) (wm Aa (AZ (!decide (x.fKind=4)) (λhe=>?_) (λhe=>?_))))))
  ·refine wo he (vF C6 Aa C2 (wo he (vL 0 CO Aa (wo he (wv (Cl Aa Aa) (GC Aa he Aa (wm Aa (AZ (!decide (x.fDelay=0)) (λhf=>?_) (λhf=>?_)))))))))
   ·refine wf hf (wf hf (wf hf (wf hf (wv (r:=rB true) (A3 Aa hf Aa) (Ar ?_)))));exact C8 (And.intro he hf)
   refine wo hf (vF C6 Aa C2 (wo hf (vL 0 CO Aa (wo hf (DM Xo (GZ x.fDelay (ov (BP x.fDelay)) (O6 (ED (G9 hO he) hf))) Aa (wo hf (wv (BJ Aa) (GO Aa hf Aa (Ar ?_)))))))));exact C8 (And.intro he hf)
  refine wf he (wf he (wf he (wv (r:=rB false) (Ay Aa he Aa) (wm Aa (AM (b:=false) Aa Aa Aa (vF C6 Aa C2 (AM (b:=false) Aa Aa Aa (vL 0 CO Aa (AM (b:=false) Aa Aa Aa (DM Xo (GZ x.fDelay (ov (BP x.fDelay)) (O6 (ED hQ he))) Aa (AM (b:=false) Aa Aa Aa (wv (BJ Aa) (wv (r:=rB (!(ov (BP x.fDelay)))) (Ay (b:=false) Aa Aa Aa) (Ar ?_))))))))))))));exact C8 he
 refine cz hR Aa (λhS hT=>?_) (λhS hU=>?_)
 ·refine Am (wa Aa (Ax (A6 (Ae ?_))));obtain rfl:=AA hT;exact A5 (Cp O1 (AT Aa)) (sS sN) ⟨Aa,Aa⟩
 refine A0 (AY (Aq (Am (vF C6 Aa H4 (vL 0 H5 Aa (ob hU λhV hW hX=>DM Tryz.call66 (ID x.fKind hV hW) Aa (Ax (cz hX Aa (λhY hZ=>?_) (λhY ga=>?_)))))))))
 ·refine Am (wm Aa (wm Aa (ck hZ λgb gc=>ck gc λgd ge=>Dr (rs:=[rS event,A4 i]) (r:=Db [rS (BV event i),A4 (CC event i)]) Tryz.call67 Aa (OX event i gb gd) Aa Aa (wm Aa (wv (AD Aa Aa) (wv (AD Aa Aa) (wa Aa (wa Aa (B3 (wm Aa (wa Aa (Ax (A6 (Ae ?_))))))))))))));obtain rfl:=AA ge;exact A5 (Cp O1 (AT Aa)) (sS sN) ⟨Aa,Aa⟩
 refine A0 (AY (Am (wa Aa (Ax (A6 ?_)))));obtain rfl:=AA ga;exact A5 (Cp O1 (AT Aa)) (sS sN) ⟨Aa,Aa⟩
theorem TW (F:Nat)(c:AE)(r:Int)(h:NA F c=some r):Fn Tryz.prog GE 27 [BW (BB c)] [] (λR H=>R=A4 r∧H=[]):=by
 refine enter (n:=58) Tryz.func27 Aa Tryz.ntmps27 Aa (λw Z=>?_);unfold NA at h;refine Am (CT Aa Aa (λb1=>?_));refine wa Aa (Ax (Aq (AV [(1,rP b1 0),(16,rB ((!(Mw c.fEvent))||(!(Hx c.fTenant))))] [.blk b1 (BB c) 34] ?_ ?_)))
 ·refine Ap (vF CB Aa BS (vL 0 Cf Aa (Dr (rs:=[rS c.fEvent]) (r:=rB (Mw c.fEvent)) Zk Aa (AcL c.fEvent) Aa Aa (wv (BJ Aa) (wm Aa (AZ (!(Mw c.fEvent)) (λc2=>?_) (λc2=>?_)))))))
  ·refine wf c2 (wf c2 (wf c2 (wf c2 (wv (r:=rB true) (A3 Aa c2 Aa) (Ar ?_)))));exact C8 c2
  refine wo c2 (vF CB Aa BS (wo c2 (vL 0 Cf Aa (wo c2 (Dr (rs:=[rS c.fTenant]) (r:=rB (Hx c.fTenant)) Tryz.call53 Aa (Vz c.fTenant) Aa Aa (wo c2 (wv (BJ Aa) (GO Aa c2 Aa (Ar ?_)))))))));exact C8 c2
 refine cz h Aa (λc3 h4=>?_) (λc3 h5=>?_)
 ·refine Am (wa Aa (Ax (A6 (Ae ?_))));obtain rfl:=AA h4;exact A5 (Cp O2 (AT Aa)) (sS sN) ⟨Aa,Aa⟩
 refine A0 (AY (Aq (ck h5 λg6 h7=>AV [(1,rP b1 0),(30,rB ((decide (c.fAttempt<1))||((decide (1073741824<c.fAttempt))||(!(ov (BP c.fAt))))))] [.blk b1 (BB c) 34] ?_ ?_)))
 ·refine Ap (vF CB Aa C2 (vL 0 CO Aa (wv (De Aa Aa) (wm Aa (AZ (decide (c.fAttempt<1)) (λc8=>?_) (λc8=>?_))))))
  ·refine wf c8 (wf c8 (wf c8 (wv (r:=rB true) (A3 Aa c8 Aa) (wm Aa (wz Aa Aa (wz Aa Aa (wz Aa Aa (wz Aa Aa (wv (r:=rB true) (A3 (b:=true) Aa Aa Aa) (Ar ?_))))))))));exact C8 c8
  refine wo c8 (vF CB Aa C2 (wo c8 (vL 0 CO Aa (wo c8 (wv (Ec Aa Aa) (GO Aa c8 Aa (wm Aa (AZ (decide (1073741824<c.fAttempt)) (λc9=>?_) (λc9=>?_)))))))))
  ·refine wf c9 (wf c9 (wf c9 (wf c9 (wv (r:=rB true) (A3 Aa c9 Aa) (Ar ?_)))));exact C8 (And.intro c8 c9)
  refine wo c9 (vF CB Aa C2 (wo c9 (vL 0 CO Aa (wo c9 (DM Xo (GZ c.fAt (ov (BP c.fAt)) (O6 (ED (ED g6 c8) c9))) Aa (wo c9 (wv (BJ Aa) (GO Aa c9 Aa (Ar ?_)))))))));exact C8 (And.intro c8 c9)
 refine cz h7 Aa (λhg hh=>?_) (λhg hi=>?_)
 ·refine Am (wa Aa (Ax (A6 (Ae ?_))));obtain rfl:=AA hh;exact A5 (Cp O2 (AT Aa)) (sS sN) ⟨Aa,Aa⟩
 refine A0 (AY (Aq (Am (vF CB Aa CW (vL 0 EF Aa (ob hi λhj hk hl=>DM Zj (K8 F c.fResult hj hk) Aa (wa Aa (B3 (wm Aa (wv (Cl Aa Aa) (Ax (cz hl Aa (λhm hn=>?_) (λhm ho=>?_)))))))))))))
 ·refine Am (wm Aa (wa Aa (Ax (A6 (Ae ?_)))));obtain rfl:=AA hn;exact A5 (Cp O2 (AT Aa)) (sS sN) ⟨Aa,Aa⟩
 refine A0 (AY (Aq (Am (vF CB Aa K3 (vL 0 Ny Aa (wv (By (ys:=c.fEffects) (enc:=Au) HG Aa) (wv (Ec Aa Aa) (Ax (cz ho Aa (λhp hq=>?_) (λhp hr=>?_))))))))))
 ·refine Am (wa Aa (Ax (A6 (Ae ?_))));obtain rfl:=AA hq;exact A5 (Cp O2 (AT Aa)) (sS sN) ⟨Aa,Aa⟩
 refine A0 (AY (Aq (Am (vF CB Aa K3 (vL 0 Ny Aa (wv (By (ys:=c.fEffects) (enc:=Au) HG Aa) (wv (r:=A4 0) (Ah Aa) (Ax (AO (ob hr λhs ht hf=>B5 (S:=Nat×(Int)×(Unit)) (V:=(Unit)×(Unit)) 0 (λσ=>Cj (λσ=>G3 F c σ) σ.1 σ.2.1=some hs) (λσ=>[(1,rP b1 0),(42,Be 4 (A8 Au c.fEffects)),(43,A4 (c.fEffects.length:Int)),(44,A4 σ.2.1)]) (λσ=>[.blk b1 (BB c) 34]) (λσ=>σ.1) (F,0,()) ht (AI.c Aa (AI.c Aa (AI.c Aa (AI.c Aa AI.nil)))) (sC sN) (λσ=>Jt =some r) (λσ=>[]) (λσ=>[]) ?_ ?_))))))))))
 ·rintro⟨hI,ha,⟨⟩⟩ hu;refine EL ?_;obtain⟨hw,rfl,hx,hb,he⟩:=CM hu;replace hb:G3 F c ha=some hx:=hb;unfold G3 at hb;refine Am (wv (De Aa Aa) (Ax (Aq (cz hb Aa (λhy hz=>?_) (λhy h0=>?_)))))
  ·refine A0 (AY (Aq (AO (Am (wm Aa (ck hz λh1 h2=>wv (AU (enc:=Au) (ys:=c.fEffects) HG Dk Aa Aa h1) (wv (DB I6 Dk Aa Aa Aa) (Ci (cs:=[A4 0,rS ([]:Aj),rv (.slice none 0 0),A4 0]) Me Aa Aa (λhJ=>?_)))))))));refine wa Aa (M5 (i:=0) Dk Aa Aa Aa (Cv.c Aa) Aa Aa ?_);refine B3 (vF CB Aa BS (vL 1 Cf Aa (wv (Bl (i:=0) I6 Dk Aa Aa Aa Aa) (wm Aa (ob h2 λh3 h6 h8=>DM Tryz.call56 (R2 F c.fEvent (Al c.fEffects ha) ha h3 h6) Aa (wa Aa (B3 (wm Aa (wv (Cl Aa Aa) (Ax (cz h8 Aa (λh9 hA=>?_) (λh9 hB=>?_))))))))))))
   ·refine Am (wm Aa (wa Aa (Ax (A6 (A7 (Ae (Ae (Bc ?_))))))));have hC:=B4 hA he hf;refine A7 (Ae ?_);obtain rfl:=AA hC;exact A5 (Cp O2 (AT Aa)) (sS (sS sN)) ⟨Aa,Aa⟩
   refine A0 (AK (AY (Ap (ck hB λhD hE=>wv (BU Aa Aa hD) (wm Aa (Ar ?_))))));have hG:=B8 hE he;exact A1 (AG (hw,ha+1,()) ⟨hG,Ago _⟩ (AI.c Aa (AI.c Aa (AI.c Aa (AI.c Aa AI.nil)))) (sS (sC sN)))
  refine B9 (A9 ?_);have hH:=Co h0 he hf;exact A9 (Bj (AG ((),()) hH AI.nil (sS sN)))
 rintro⟨⟨⟩,⟨⟩⟩ hd;refine IY ?_;replace hd:Jt =some r:=hd;unfold Jt at hd;refine Bm (AY (Am (wa Aa (Ax (A6 ?_)))));obtain rfl:=AA hd;exact A5 (Cp O2 (AT Aa)) sN ⟨Aa,Aa⟩
theorem Vt (x:As)(r:As)(h:Vu x=some r):Fn Tryz.prog GE 44 [BW (Au x)] [] (λR H=>R=BW (Au r)∧H=[]):=by
 refine enter (n:=8) Tryz.func44 Aa Tryz.ntmps44 Aa (λw Z=>?_);unfold Vu at h;refine Am (CT Aa Aa (λb1=>?_));refine Ci (cs:=[A4 0,rS ([]:Aj),rv (.slice none 0 0),A4 0]) Me Aa Aa (λb2=>?_);refine B3 (vF C6 Aa CW (vL 1 EF Aa (ob h λr3 e5 h4=>DM UU (I1 x.fValue r3 e5) Aa (vF C6 Aa CW (us (i:=1) CW Aa Aa (BA Aa) Aa Aa ?_)))));refine B3 (wv (Bl (i:=1) I6 Dk Aa Aa Aa Aa) (M5 (i:=0) Dk Aa Aa Aa (Cv.c Aa) Aa Aa ?_));refine Ax (A6 ?_);obtain rfl:=AA h4;exact A5 (Cp Tryz.results44 (Jj (i:=0) I6 Dk Aa Aa Aa)) (sS (sS sN)) ⟨Aa,Aa⟩
theorem OP (F:Nat)(v:(List Ac))(r:Aj)(h:Om F v=some r):Fn Tryz.prog GE 47 [Be 4 (A8 Af v)] [] (λR H=>R=rS r∧H=[]):=by
 refine enter (n:=11) Tryz.func47 Aa Tryz.ntmps47 Aa (λw Z=>?_);unfold Om at h;refine Am (wv (r:=rS ([]:Aj)) (AC Aa) (B3 (wm Aa (ob h λr1 e3 h2=>DM Tryz.call80 (Xz F v r1 e3) Aa (wm Aa (wv (AD Aa Aa) (wv (AD Aa Aa) (wa Aa (wa Aa (B3 (wm Aa (wa Aa (Ax (A6 ?_))))))))))))));obtain rfl:=AA h2;exact A5 (Cp Tryz.results47 (AT Aa)) sN ⟨Aa,Aa⟩
theorem SK (F:Nat)(records:(List (List Aj)))(r:Aj×Int)(h:PI F records=some r):Fn Tryz.prog GE 48 [Be 1 (A8 Ca records)] [] (λR H=>R=Db [rS r.1,A4 r.2]∧H=[]):=by
 refine enter (n:=37) Tryz.func48 Aa Tryz.ntmps48 Aa (λw Z=>?_);unfold PI at h;refine Am (wv (r:=rS ([]:Aj)) (AC Aa) (wa Aa (B3 (wa Aa (Ax (Aq (Am (wm Aa (wv (By (ys:=records) (enc:=Ca) K2 Aa) (wv (r:=A4 0) (Ah Aa) (Ax (AO (WC.nilrow (e:=9) (sz:=1) (ob h λhj hk hi=>B5 (S:=Nat×((List Aj)×Int)×(Value)) (V:=((List Aj))×(Value)) 0 (λσ=>Cj (λσ=>Hv F records σ.1 σ.2) σ.1 σ.2.1=some hj) (λσ=>[(4,rv σ.2.2),(11,Be 1 (A8 Ca records)),(12,A4 (records.length:Int)),(13,A4 σ.2.1.2)]) (λσ=>[.row σ.2.2 9 1 (A8 eS σ.2.1.1)]) (λσ=>σ.1) (F,(([]:List Aj),0),(.slice none 0 0         )) hk (AI.c Aa (AI.c Aa (AI.c Aa (AI.c Aa AI.nil)))) (sC sN) (λσ=>Im F σ.1=some r) (λσ=>[(4,rv σ.2)]) (λσ=>[.row σ.2 9 1 (A8 eS σ.1)]) ?_ ?_))))))))))))))
 ·rintro⟨hD,⟨hb,hf⟩,v37⟩ hl;refine EL ?_;obtain⟨hm,rfl,hn,hd,hg⟩:=CM hl;replace hd:Hv F records hb hf=some hn:=hd;unfold Hv at hd;refine Am (wv (De Aa Aa) (Ax (Aq (cz hd Aa (λho hp=>?_) (λho hq=>?_)))))
  ·refine A0 (AY (Aq (AO (Am (ck hp λhr hs=>wv (AU (enc:=Ca) (ys:=records) K2 IZ Aa Aa hr) (wv (AH O3 Aa Aa) (wa Aa (B3 (wm Aa (ob hs λha ht hu=>DM Tryz.call81 (AcR F (Al records hf) ha ht) Aa (wm Aa (wv (AD Aa Aa) (wv (AD Aa Aa) (wa Aa (wa Aa (Ax (Aq (Am (wm Aa (wv (Cl Aa Aa) (Ax ?_)))))))))))))))))))));refine cz hu Aa (λhw hx=>?_) (λhw hy=>?_)
   ·refine Am (wv (r:=rS ([]:Aj)) (AC Aa) (wa Aa (Ax (A6 (Ae (A7 (Ae (Ae (Bc ?_)))))))));have hz:=B4 hx hg hi;refine A7 (Ae ?_);obtain rfl:=AA hz;exact A5 (E4 Tryz.results48 (AT Aa) (AT Aa)) (sS sN) ⟨Aa,Aa⟩
   refine A0 (AY (Ap (wm Aa (wm Aa (Bf (ys:=([ha.1]:List Aj)) (enc:=eS) (css:=[[rS ha.1]]) (xs:=[.tmp 25]) C7 BS Tk Aa Aa Aa ⟨Em.one Aa (Up.refl _),trivial⟩ Aa Di Aa Aa Aa (λhE=>?_))))));refine ck hy λh0 h1=>Exists.elim Ng λinf hinf=>Cc (xs:=hb) (ys:=([ha.1]:List Aj)) (enc:=eS) (i:=1) C7 hinf.1 hinf.2.1 hinf.2.2.1 hinf.2.2.2 Aa Aa Aa Aa Aa (JD.w (i:=0) Aa Aa) Di Kd h0 Aa (λh2=>?_);refine wa Aa (Ar (AK (AY (Ap (ck h1 λh3 h4=>wv (BU Aa Aa h3) (wm Aa (Ar ?_)))))));have h5:=B8 h4 hg;exact A1 (AG (hm,(hb++([ha.1]:List Aj),hf+1),h2) ⟨h5,Ago _⟩ (AI.c Aa (AI.c Aa (AI.c Aa (AI.c Aa AI.nil)))) (sC (sS sN)))
  refine B9 (A9 ?_);have h6:=Co hq hg hi;exact A9 (Bj (AG (hb,v37) h6 (AI.c Aa AI.nil) (sC sN)))
 rintro⟨hh,hG⟩ he;refine IY ?_;replace he:Im F hh=some r:=he;unfold Im at he;refine Bm (AY (Am (wm Aa (WL.freeze (i:=0) Aa (WL.up (d:=30) (r:=Be 1 (A8 eS hh)) Aa (Up.fact (i:=0) Aa) (ob he λh7 h8 h9=>DM Tryz.call82 (AcT F hh h7 h8) Aa (wm Aa (wv (AD Aa Aa) (wv (AD Aa Aa) (wa Aa (wa Aa (Ax (Aq (Am (wm Aa (wv (Cl Aa Aa) (Ax (cz h9 Aa (λhA hB=>?_) (λhA hC=>?_)))))))))))))))))))
 ·refine Am (wv (r:=rS ([]:Aj)) (AC Aa) (wa Aa (Ax (A6 (Ae ?_)))));obtain rfl:=AA hB;exact A5 (E4 Tryz.results48 (AT Aa) (AT Aa)) (sS sN) ⟨Aa,Aa⟩
 refine A0 (AY (Am (wm Aa (wa Aa (wa Aa (Ax (A6 ?_)))))));obtain rfl:=AA hC;exact A5 (E4 Tryz.results48 (AT Aa) (AT Aa)) (sS sN) ⟨Aa,Aa⟩
theorem R1 (F:Nat)(c:AE)(r:Aj×Int)(h:JW F c=some r):Fn Tryz.prog GE 25 [BW (BB c)] [] (λR H=>R=Db [rS r.1,A4 r.2]∧H=[]):=by
 refine enter (n:=55) Tryz.func25 Aa Tryz.ntmps25 Aa (λw Z=>?_);unfold JW at h;refine Am (CT Aa Aa (λb1=>?_));refine wv (r:=rS ([]:Aj)) (AC Aa) (wa Aa (Ax (Aq (Am (wv (Bl (i:=0) H6 DY Aa Aa Aa Aa) (ob h λr2 e4 h3=>DM Zn (TW F c r2 e4) Aa (wa Aa (B3 (wm Aa (wv (Cl Aa Aa) (Ax (cz h3 Aa (λc5 h6=>?_) (λc5 h7=>?_)))))))))))))
 ·refine Am (wm Aa (wv (r:=rS ([]:Aj)) (AC Aa) (wa Aa (Ax (A6 (Ae ?_))))));obtain rfl:=AA h6;exact A5 (E4 AbQ (AT Aa) (AT Aa)) (sS sN) ⟨Aa,Aa⟩
 refine A0 (AY (Aq (ck h7 λg8 h9=>ck h9 λhl hm=>ob hm λhd hn ho=>D3 13 [1] [⟨[],rP b1 0,none,none,none⟩,⟨[0],rS c.fEvent,none,none,none⟩,⟨[],rP b1 1,none,none,none⟩,⟨[2],rS c.fTenant,none,none,none⟩,⟨[],rP b1 2,none,none,none⟩,⟨[4],A4 c.fAttempt,none,none,none⟩,⟨[5],rS (Lib.itoa c.fAttempt),none,none,none⟩,⟨[],rP b1 5,none,none,none⟩,⟨[7],A4 c.fAt,none,none,none⟩,⟨[8],rS (Lib.itoa c.fAt),none,none,none⟩,⟨[],rP b1 3,none,none,none⟩,⟨[10],Be 4 (A8 Af c.fResult),none,none,none⟩,⟨[11],rS hd,none,none,none⟩] ?_ (λβ=>?_))))
 ·refine Dx (Aw CB Aa BS Aa Aa) (Ik (AQ (i:=0) Cf Aa Aa Aa) (Dx (Aw CB Aa BS Aa Aa) (Ik (AQ (i:=0) Cf Aa Aa Aa) (Dx (Aw CB Aa C2 Aa Aa) (Ik (AQ (i:=0) CO Aa Aa Aa) (O7 (Et (rs:=[A4 c.fAttempt]) (r:=rS (Lib.itoa c.fAttempt)) Pf Aa (EQ c.fAttempt g8) Aa) (Dx (Aw CB Aa C2 Aa Aa) (Ik (AQ (i:=0) CO Aa Aa Aa) (O7 (Et (rs:=[A4 c.fAt]) (r:=rS (Lib.itoa c.fAt)) Pf Aa (EQ c.fAt hl) Aa) (Dx (Aw CB Aa CW Aa Aa) (Ik (AQ (i:=0) EF Aa Aa Aa) (O7 (GI Tryz.call47 (OP F c.fResult hd hn) Aa) ?_))))))))))));exact Tg
 refine Cr (H1:=[.blk b1 (BB c) 34]) [13,14,15,16,17,18,19,20,21,22,23,24,25,1] ?_;refine Bf (ys:=([([99,111,109,109,105,116]:Aj),c.fEvent,c.fTenant,Lib.itoa c.fAttempt,Lib.itoa c.fAt,hd]:List Aj)) (enc:=eS) (css:=[[rS ([99,111,109,109,105,116]:Aj)],[rS c.fEvent],[rS c.fTenant],[rS (Lib.itoa c.fAttempt)],[rS (Lib.itoa c.fAt)],[rS hd]]) (xs:=[.const (.string ⟨#[99,111,109,109,105,116]⟩),.tmp 14,.tmp 16,.tmp 19,.tmp 22,.tmp 25]) C7 BS Tk Aa Aa Aa ⟨Em.one Aa (Up.refl _),Em.one Aa (Up.refl _),Em.one Aa (Up.refl _),Em.one Aa (Up.refl _),Em.one Aa (Up.refl _),Em.one Aa (Up.refl _),trivial⟩ Aa Di Aa Aa Aa (λhN=>?_);refine WL.freeze (i:=0) Aa (Bf (ys:=([([([99,111,109,109,105,116]:Aj),c.fEvent,c.fTenant,Lib.itoa c.fAttempt,Lib.itoa c.fAt,hd]:List Aj)]:List (List Aj))) (enc:=Ca) (css:=[[Be 1 (A8 eS ([([99,111,109,109,105,116]:Aj),c.fEvent,c.fTenant,Lib.itoa c.fAttempt,Lib.itoa c.fAt,hd]:List Aj))]]) (xs:=[.tmp 26]) K2 IZ Xi Aa Aa Aa ⟨Em.one Aa (Up.fact (i:=0) Aa),trivial⟩ Aa DX Aa Aa Aa (λhp=>?_));refine wa Aa (Ax (Aq (Am (vF CB Aa K3 (vL 2 Ny Aa (wv (By (ys:=c.fEffects) (enc:=Au) HG Aa) (wv (r:=A4 0) (Ah Aa) (Ax (AO (ob ho λhq hr hs=>B5 (S:=Nat×((List (List Aj))×Int)×(Value)) (V:=((List (List Aj)))×(Value)) 0 (λσ=>Cj (λσ=>Ev F c σ.1 σ.2) σ.1 σ.2.1=some hq) (λσ=>[(5,rv σ.2.2),(29,Be 4 (A8 Au c.fEffects)),(30,A4 (c.fEffects.length:Int)),(31,A4 σ.2.1.2)]) (λσ=>[.row σ.2.2 42 1 (A8 Ca σ.2.1.1)]) (λσ=>σ.1) (F,(([([([99,111,109,109,105,116]:Aj),c.fEvent,c.fTenant,Lib.itoa c.fAttempt,Lib.itoa c.fAt,hd]:List Aj)]:List (List Aj)),0),(.slice (some ⟨hp,0,none⟩) 1 1)) hr (AI.c Aa (AI.c Aa (AI.c Aa (AI.c Aa AI.nil)))) (sC (sS (sS sN))) (λσ=>Gi F σ.1=some r) (λσ=>[(5,rv σ.2)]) (λσ=>[.row σ.2 42 1 (A8 Ca σ.1)]) ?_ ?_))))))))))
 ·rintro⟨hO,⟨he,ha⟩,hi⟩ ht;refine EL ?_;obtain⟨hu,rfl,t80,hg,hk⟩:=CM ht;replace hg:Ev F c he ha=some t80:=hg;unfold Ev at hg;refine Am (wv (De Aa Aa) (Ax (Aq (cz hg Aa (λhw hx=>?_) (λhw hy=>?_)))))
  ·refine A0 (AY (Aq (AO (Am (ck hx λhz h0=>wv (AU (enc:=Au) (ys:=c.fEffects) HG Dk Aa Aa hz) (wv (DB I6 Dk Aa Aa Aa) (Ci (cs:=[A4 0,rS ([]:Aj),rv (.slice none 0 0),A4 0]) Me Aa Aa (λhf=>?_))))))));refine M5 (i:=0) Dk Aa Aa Aa (Cv.c Aa) Aa Aa ?_;refine Ax (ck h0 λh1 h2=>ck h2 λh4 h5=>ob h5 λhb h8 hA=>D3 14 [5,7,29,30,31] [⟨[],rv hi,none,none,none⟩,⟨[],rP hf 0,none,none,none⟩,⟨[1],A4 ((Al c.fEffects ha).fKind),none,none,none⟩,⟨[2],rS (Lib.itoa ((Al c.fEffects ha).fKind)),none,none,none⟩,⟨[],rP hf 1,none,none,none⟩,⟨[4],rS ((Al c.fEffects ha).fKey),none,none,none⟩,⟨[],rP hf 3,none,none,none⟩,⟨[6],A4 ((Al c.fEffects ha).fDelay),none,none,none⟩,⟨[7],rS (Lib.itoa ((Al c.fEffects ha).fDelay)),none,none,none⟩,⟨[],rP hf 2,none,none,none⟩,⟨[9],Be 4 (A8 Af ((Al c.fEffects ha).fValue)),none,none,none⟩,⟨[10],rS hb,none,none,none⟩,⟨[3,5,8,11],Be 1 (A8 eS ([Lib.itoa ((Al c.fEffects ha).fKind),(Al c.fEffects ha).fKey,Lib.itoa ((Al c.fEffects ha).fDelay),hb]:List Aj)),none,none,none⟩,⟨[12],Be 1 (A8 Ca ([([Lib.itoa ((Al c.fEffects ha).fKind),(Al c.fEffects ha).fKey,Lib.itoa ((Al c.fEffects ha).fDelay),hb]:List Aj)]:List (List Aj))),none,none,none⟩] ?_ (λβ=>?_))
   ·refine Dx (Ah Aa) (Dx (Aw C6 Aa H4 Aa Aa) (Ik (AQ (i:=0) H5 Aa Aa Aa) (O7 (Et (rs:=[A4 ((Al c.fEffects ha).fKind)]) (r:=rS (Lib.itoa ((Al c.fEffects ha).fKind))) Pf Aa (EQ ((Al c.fEffects ha).fKind) h1) Aa) (Dx (Aw C6 Aa BS Aa Aa) (Ik (AQ (i:=0) Cf Aa Aa Aa) (Dx (Aw C6 Aa C2 Aa Aa) (Ik (AQ (i:=0) CO Aa Aa Aa) (O7 (Et (rs:=[A4 ((Al c.fEffects ha).fDelay)]) (r:=rS (Lib.itoa ((Al c.fEffects ha).fDelay))) Pf Aa (EQ ((Al c.fEffects ha).fDelay) h4) Aa) (Dx (Aw C6 Aa CW Aa Aa) (Ik (AQ (i:=0) EF Aa Aa Aa) (O7 (GI Tryz.call47 (OP F ((Al c.fEffects ha).fValue) hb h8) Aa) (O7 (CF (ys:=([Lib.itoa ((Al c.fEffects ha).fKind),(Al c.fEffects ha).fKey,Lib.itoa ((Al c.fEffects ha).fDelay),hb]:List Aj)) (enc:=eS) (css:=[[rS (Lib.itoa ((Al c.fEffects ha).fKind))],[rS ((Al c.fEffects ha).fKey)],[rS (Lib.itoa ((Al c.fEffects ha).fDelay))],[rS hb]]) (xs:=[.tmp 38,.tmp 40,.tmp 43,.tmp 46]) C7 BS Tk Aa Aa Aa ⟨Em.one Aa (Up.refl _),Em.one Aa (Up.refl _),Em.one Aa (Up.refl _),Em.one Aa (Up.refl _),trivial⟩ Aa Di Aa Aa) (O7 (CF (ys:=([([Lib.itoa ((Al c.fEffects ha).fKind),(Al c.fEffects ha).fKey,Lib.itoa ((Al c.fEffects ha).fDelay),hb]:List Aj)]:List (List Aj))) (enc:=Ca) (css:=[[Be 1 (A8 eS ([Lib.itoa ((Al c.fEffects ha).fKind),(Al c.fEffects ha).fKey,Lib.itoa ((Al c.fEffects ha).fDelay),hb]:List Aj))]]) (xs:=[.tmp 47]) K2 IZ Xi Aa Aa Aa ⟨Em.one Aa (Up.refl _),trivial⟩ Aa DX Aa Aa) ?_)))))))))))));exact Tg
   refine Cr (H1:=[.blk hf (Au (Al c.fEffects ha)) 65,.row hi 42 1 (A8 Ca he)]) [35,36,37,38,39,40,41,42,43,44,45,46,47,48,5,7,29,30,31] ?_;refine ck hA λhB hC=>Exists.elim VA λinf hinf=>Cc (xs:=he) (ys:=([([Lib.itoa ((Al c.fEffects ha).fKind),(Al c.fEffects ha).fKey,Lib.itoa ((Al c.fEffects ha).fDelay),hb]:List Aj)]:List (List Aj))) (enc:=Ca) (i:=1) K2 hinf.1 hinf.2.1 hinf.2.2.1 hinf.2.2.2 Aa Aa Aa Aa Aa (JD.z Aa Aa) DX Mx hB Aa (λhD=>?_);refine wa Aa (Ar (AK (AY (Ap (ck hC λhE hG=>wv (BU Aa Aa hE) (wm Aa (Ar ?_)))))));have hH:=B8 hG hk;exact A1 (AG (hu,(he++([([Lib.itoa ((Al c.fEffects ha).fKind),(Al c.fEffects ha).fKey,Lib.itoa ((Al c.fEffects ha).fDelay),hb]:List Aj)]:List (List Aj)),ha+1),hD) ⟨hH,Ago _⟩ (AI.c Aa (AI.c Aa (AI.c Aa (AI.c Aa AI.nil)))) (sC (sS sN)))
  refine B9 (A9 ?_);have hI:=Co hy hk hs;exact A9 (Bj (AG (he,hi) hI (AI.c Aa AI.nil) (sC sN)))
 rintro⟨hj,v76⟩ hh;refine IY ?_;replace hh:Gi F hj=some r:=hh;unfold Gi at hh;refine Bm (AY (Am (wm Aa (WL.freeze (i:=0) Aa (WL.up (d:=51) (r:=Be 1 (A8 Ca hj)) Aa (Up.fact (i:=0) Aa) (ob hh λhJ hK hL=>DM Tryz.call48 (SK F hj hJ hK) Aa (wv (AD Aa Aa) (wv (AD Aa Aa) (wa Aa (wa Aa (Ax (A6 ?_))))))))))));obtain rfl:=AA hL;exact A5 (E4 AbQ (AT Aa) (AT Aa)) (sS sN) ⟨Aa,Aa⟩
theorem JV (F:Nat)(id:Aj)(r:Aj×Int)(h:Gj F id=some r):Fn Tryz.prog GE 29 [rS id] [] (λR H=>R=Db [rS r.1,A4 r.2]∧H=[]):=by
 refine enter (n:=13) Tryz.func29 Aa Tryz.ntmps29 Aa (λw Z=>?_);unfold Gj at h;refine Am (wv (r:=rS ([]:Aj)) (AC Aa) (wa Aa (Ax (Aq (Am (wm Aa (Dr (rs:=[rS id]) (r:=rB (Mw id)) Zk Aa (AcL id) Aa Aa (wv (BJ Aa) (Ax (cz h Aa (λc1 h2=>?_) (λc1 h3=>?_)))))))))))
 ·refine Am (wv (r:=rS ([]:Aj)) (AC Aa) (wa Aa (Ax (A6 (Ae ?_)))));obtain rfl:=AA h2;exact A5 (E4 Tryz.results29 (AT Aa) (AT Aa)) sN ⟨Aa,Aa⟩
 refine A0 (AY (Am (wm Aa (Bf (ys:=([([97,99,107]:Aj),id]:List Aj)) (enc:=eS) (css:=[[rS ([97,99,107]:Aj)],[rS id]]) (xs:=[.const (.string ⟨#[97,99,107]⟩),.tmp 7]) C7 BS Tk Aa Aa Aa ⟨Em.one Aa (Up.refl _),Em.one Aa (Up.refl _),trivial⟩ Aa Di Aa Aa Aa (λb4=>?_)))));refine WL.freeze (i:=0) Aa (Bf (ys:=([([([97,99,107]:Aj),id]:List Aj)]:List (List Aj))) (enc:=Ca) (css:=[[Be 1 (A8 eS ([([97,99,107]:Aj),id]:List Aj))]]) (xs:=[.tmp 8]) K2 IZ Xi Aa Aa Aa ⟨Em.one Aa (Up.fact (i:=0) Aa),trivial⟩ Aa DX Aa Aa Aa (λb5=>?_));refine WL.freeze (i:=0) Aa (WL.up (d:=9) (r:=Be 1 (A8 Ca ([([([97,99,107]:Aj),id]:List Aj)]:List (List Aj)))) Aa (Up.fact (i:=0) Aa) (ob h3 λr6 e8 h7=>DM Tryz.call48 (SK F ([([([97,99,107]:Aj),id]:List Aj)]:List (List Aj)) r6 e8) Aa (wv (AD Aa Aa) (wv (AD Aa Aa) (wa Aa (wa Aa (Ax (A6 ?_))))))));obtain rfl:=AA h7;exact A5 (E4 Tryz.results29 (AT Aa) (AT Aa)) (sS (sS sN)) ⟨Aa,Aa⟩
theorem XT (F:Nat)(l:(List (List Aj)))(r:AE×Bool)(h:MV F l=some r):Fn Tryz.prog GE 64 [Be 1 (A8 Ca l)] [] (λR H=>R=Db [BW (BB r.1),rB r.2]∧H=[]):=by
 refine enter (n:=131) Tryz.func64 Aa Tryz.ntmps64 Aa (λw Z=>?_);unfold MV at h;refine Am (Ci (cs:=[rS ([]:Aj),rS ([]:Aj),A4 0,rv (.slice none 0 0),rv (.slice none 0 0),A4 0]) AbL Aa Aa (λb1=>?_));refine wa Aa (B3 (Ci (cs:=[rS ([]:Aj),rS ([]:Aj),A4 0,rv (.slice none 0 0),rv (.slice none 0 0),A4 0]) AbL Aa Aa (λb2=>?_)));refine Ax (Aq (Am (wm Aa (wv (By (ys:=l) (enc:=Ca) K2 Aa) (wv (r:=A4 0) (Ah Aa) (Ax (AO (WC.nilrow (e:=65) (sz:=4) (WC.upBlk (i:=1) (cs':=[rS ([]:Aj),rS ([]:Aj),A4 0,Be 4 (A8 Af ([]:List Ac)),rv (.slice none 0 0),A4 0]) Aa ⟨Up.refl _,Up.refl _,Up.refl _,Up.le (M1.nil _),Up.refl _,Up.refl _,trivial⟩ (HJ (H2:=[.blk b2 [rS ([]:Aj),rS ([]:Aj),A4 0,Be 4 (A8 Af ([]:List Ac)),rv (.slice none 0 0),A4 0] 34,.blk b1 [rS ([]:Aj),rS ([]:Aj),A4 0,rv (.slice none 0 0),rv (.slice none 0 0),A4 0] 34,.row (.slice none 0 0                                                                 ) 65 4 (A8 Au ([]:List As))]) ((AS (i:=1) Aa).trans (Agk _ ((AS (i:=1) Aa).trans (Agk _ (Agn _))))) (ob h λh9 hA ho=>B5 (S:=Nat×(Int×Aj×Aj×Int×(List Ac)×(List As)×Int)×(Value)) (V:=(Aj×Aj×Int×(List Ac)×(List As)×Int)×(Value)) 0 (λσ=>Cj (λσ=>Ex F l σ.1 σ.2.1 σ.2.2.1 σ.2.2.2.1 σ.2.2.2.2.1 σ.2.2.2.2.2.1 σ.2.2.2.2.2.2) σ.1 σ.2.1=some h9) (λσ=>[(2,rP b1 0),(4,rP b2 0),(14,Be 1 (A8 Ca l)),(15,A4 (l.length:Int)),(16,A4 σ.2.1.1)]) (λσ=>[.blk b2 [rS σ.2.1.2.1,rS σ.2.1.2.2.1,A4 σ.2.1.2.2.2.1,Be 4 (A8 Af σ.2.1.2.2.2.2.1),rv σ.2.2,A4 σ.2.1.2.2.2.2.2.2] 34,.blk b1 [rS ([]:Aj),rS ([]:Aj),A4 0,rv (.slice none 0 0),rv (.slice none 0 0),A4 0] 34,.row σ.2.2 65 4 (A8 Au σ.2.1.2.2.2.2.2.1)]) (λσ=>σ.1) (F,(0,([]:Aj),([]:Aj),0,([]:List Ac),([]:List As),0),(.slice none 0 0                                                                 )) hA (AI.c5 Aa Aa Aa Aa Aa AI.nil) (sC (sC (sC sN))) (λσ=>Ip σ.1.1 σ.1.2.1 σ.1.2.2.1 σ.1.2.2.2.1 σ.1.2.2.2.2.1 σ.1.2.2.2.2.2=some r) (λσ=>[(2,rP b1 0),(4,rP b2 0)]) (λσ=>[.blk b2 [rS σ.1.1,rS σ.1.2.1,A4 σ.1.2.2.1,Be 4 (A8 Af σ.1.2.2.2.1),rv σ.2,A4 σ.1.2.2.2.2.2] 34,.blk b1 [rS ([]:Aj),rS ([]:Aj),A4 0,rv (.slice none 0 0),rv (.slice none 0 0),A4 0] 34,.row σ.2 65 4 (A8 Au σ.1.2.2.2.2.1)]) ?_ ?_)))))))))))
 ·rintro⟨gR,⟨ha,hk,hh,he,hf,hb,hg⟩,hd⟩ hB;refine EL ?_;obtain⟨hC,rfl,hu,hr,hn⟩:=CM hB;replace hr:Ex F l ha hk hh he hf hb hg=some hu:=hr;unfold Ex at hr;refine Am (wv (De Aa Aa) (Ax (Aq (cz hr Aa (λhD hE=>?_) (λhD hG=>?_)))))
  ·refine A0 (AY (Cg (S:=(Aj×Aj×Int×(List Ac)×(List As)×Int)×(Value)) (λσ=>Ew ha σ.1.1 σ.1.2.1 σ.1.2.2.1 σ.1.2.2.2.1 σ.1.2.2.2.2.1 σ.1.2.2.2.2.2=some hu) (λσ=>[(2,rP b1 0),(4,rP b2 0),(14,Be 1 (A8 Ca l)),(15,A4 (l.length:Int)),(16,A4 ha)]) (λσ=>[.blk b2 [rS σ.1.1,rS σ.1.2.1,A4 σ.1.2.2.1,Be 4 (A8 Af σ.1.2.2.2.1),rv σ.2,A4 σ.1.2.2.2.2.2] 34,.blk b1 [rS ([]:Aj),rS ([]:Aj),A4 0,rv (.slice none 0 0),rv (.slice none 0 0),A4 0] 34,.row σ.2 65 4 (A8 Au σ.1.2.2.2.2.1)]) ?_ ?_))
   ·refine AO (Am (wm Aa (ck hE λhH hI=>wv (AU (enc:=Ca) (ys:=l) K2 IZ Aa Aa hH) (wv (AH O3 Aa Aa) (wa Aa (wa Aa (B3 (wa Aa (B3 (wa Aa (wa Aa (Ax (AO (AV [(2,rP b1 0),(4,rP b2 0),(5,A4 ha),(6,Be 1 (A8 eS (Al l ha))),(7,rv (.slice none 0 0)),(14,Be 1 (A8 Ca l)),(15,A4 (l.length:Int)),(16,A4 ha),(22,rB ((decide (ha=0))&&(decide (((Al l ha).length:Int)=6))))] [.blk b2 [rS hk,rS hh,A4 he,Be 4 (A8 Af hf),rv hd,A4 hg] 34,.blk b1 [rS ([]:Aj),rS ([]:Aj),A4 0,rv (.slice none 0 0),rv (.slice none 0 0),A4 0] 34,.row hd 65 4 (A8 Au hb)] ?_ ?_))))))))))))))
    ·refine Ap (wm Aa (wv (BT Aa Aa) (wm Aa (AZ (decide (ha=0)) (λhi=>?_) (λhi=>?_)))))
     ·refine wo hi (wm Aa (wo hi (wv (By (ys:=Al l ha) (enc:=eS) C7 Aa) (wo hi (wv (BT Aa Aa) (GC Aa hi Aa (wa Aa (Ar ?_))))))));exact C8 hi
     refine wf hi (wf hi (wf hi (wv (r:=rB false) (Ay Aa hi Aa) (wa Aa (Ar ?_)))));exact C8 hi
    refine cz hI Aa (λhJ hK=>?_) (λhJ hL=>?_)
    ·refine Aq (ck hK λhN hO=>ck hO λhP hQ=>If (H1:=[.blk b2 [rS (Al (Al l ha) 1),rS (Al (Al l ha) 2),A4 he,Be 4 (A8 Af hf),rv hd,A4 hg] 34,.blk b1 [rS ([]:Aj),rS ([]:Aj),A4 0,rv (.slice none 0 0),rv (.slice none 0 0),A4 0] 34,.row hd 65 4 (A8 Au hb)]) [2,4,6,14,15,16] [⟨[],Be 1 (A8 eS (Al l ha)),0⟩,⟨[0],I4 [rS (Al (Al l ha) 1)],0⟩,⟨[1],rS (Al (Al l ha) 1),0⟩,⟨[],Be 1 (A8 eS (Al l ha)),0⟩,⟨[3],I4 [rS (Al (Al l ha) 2)],0⟩,⟨[4],rS (Al (Al l ha) 2),0⟩,⟨[],rP b2 0,0⟩,⟨[6,2],rv undef,2⟩,⟨[],rP b2 1,0⟩,⟨[8,5],rv undef,2⟩] (rle [(8,_),(2,[.blk b2 [rS (Al (Al l ha) 1),rS hh,A4 he,Be 4 (A8 Af hf),rv hd,A4 hg] 34,.blk b1 [rS ([]:Aj),rS ([]:Aj),A4 0,rv (.slice none 0 0),rv (.slice none 0 0),A4 0] 34,.row hd 65 4 (A8 Au hb)]),(1,[.blk b2 [rS (Al (Al l ha) 1),rS (Al (Al l ha) 2),A4 he,Be 4 (A8 Af hf),rv hd,A4 hg] 34,.blk b1 [rS ([]:Aj),rS ([]:Aj),A4 0,rv (.slice none 0 0),rv (.slice none 0 0),A4 0] 34,.row hd 65 4 (A8 Au hb)])]) [2,4,6,14,15,16] ?_ ?_)
     ·refine oq (Ah Aa) (oq (AU (enc:=eS) (ys:=Al l ha) C7 BS Aa Aa hN) (oq (AH Cf Aa Aa) (oq (Ah Aa) (oq (AU (enc:=eS) (ys:=Al l ha) C7 BS Aa Aa hP) (oq (AH Cf Aa Aa) (oq (Aw CB Aa BS Aa Aa) (KG Aa (SD (LF (i:=0) BS Aa Aa (BA Aa) Aa Aa (cs':=[rS (Al (Al l ha) 1),rS hh,A4 he,Be 4 (A8 Af hf),rv hd,A4 hg]) Aa (H':=[.blk b2 [rS (Al (Al l ha) 1),rS hh,A4 he,Be 4 (A8 Af hf),rv hd,A4 hg] 34,.blk b1 [rS ([]:Aj),rS ([]:Aj),A4 0,rv (.slice none 0 0),rv (.slice none 0 0),A4 0] 34,.row hd 65 4 (A8 Au hb)]) Aa)) ?_)))))));refine oq (Aw CB Aa BS Aa Aa) (KG Aa (SD (LF (i:=0) BS Aa Aa (BA Aa) Aa Aa (cs':=[rS (Al (Al l ha) 1),rS (Al (Al l ha) 2),A4 he,Be 4 (A8 Af hf),rv hd,A4 hg]) Aa (H':=[.blk b2 [rS (Al (Al l ha) 1),rS (Al (Al l ha) 2),A4 he,Be 4 (A8 Af hf),rv hd,A4 hg] 34,.blk b1 [rS ([]:Aj),rS ([]:Aj),A4 0,rv (.slice none 0 0),rv (.slice none 0 0),A4 0] 34,.row hd 65 4 (A8 Au hb)]) Aa)) ?_);exact HD
     refine AY (Am (wa Aa (wa Aa (wa Aa (B3 (wm Aa (ck hQ λhR hS=>wv (AU (enc:=eS) (ys:=Al l ha) C7 BS Aa Aa hR) (wv (AH Cf Aa Aa) (ck hS λhT hU=>Dr (rs:=[rS (Al (Al l ha) 3)]) (r:=Db [A4 (Bx (Al (Al l ha) 3)),A4 (BO (Al (Al l ha) 3))]) Zi Aa (MQ (Al (Al l ha) 3) hT) Aa Aa (wm Aa (wv (AD Aa Aa) (wv (AD Aa Aa) (vF CB Aa C2 (us (i:=0) C2 Aa Aa (BA Aa) Aa Aa ?_))))))))))))));refine wa Aa (B3 (wm Aa (ck hU λhV hW=>wv (AU (enc:=eS) (ys:=Al l ha) C7 BS Aa Aa hV) (wv (AH Cf Aa Aa) (ck hW λhX hY=>Dr (rs:=[rS (Al (Al l ha) 4)]) (r:=Db [A4 (Bx (Al (Al l ha) 4)),A4 (BO (Al (Al l ha) 4))]) Zi Aa (MQ (Al (Al l ha) 4) hX) Aa Aa (wm Aa (wv (AD Aa Aa) (wv (AD Aa Aa) (vF CB Aa C2 (us (i:=0) C2 Aa Aa (BA Aa) Aa Aa ?_))))))))));refine wa Aa (B3 (wm Aa (ck hY λhZ ga=>wv (AU (enc:=eS) (ys:=Al l ha) C7 BS Aa Aa hZ) (wv (AH Cf Aa Aa) (ob ga λhp gb gc=>DM Tryz.call100 (Re F (Al (Al l ha) 5) hp gb) Aa (wm Aa (wv (AD Aa Aa) (wv (AD Aa Aa) (vF CB Aa CW (us (i:=0) CW Aa Aa (BA Aa) Aa Aa ?_))))))))));refine wa Aa (Ax (AV [(2,rP b1 0),(4,rP b2 0),(14,Be 1 (A8 Ca l)),(15,A4 (l.length:Int)),(16,A4 ha),(71,rB ((!decide ((BO (Al (Al l ha) 3))=0))||((!decide ((BO (Al (Al l ha) 4))=0))||(!decide (hp.2=0)))))] [.blk b2 [rS (Al (Al l ha) 1),rS (Al (Al l ha) 2),A4 (Bx (Al (Al l ha) 3)),Be 4 (A8 Af hp.1),rv hd,A4 (Bx (Al (Al l ha) 4))] 34,.blk b1 [rS ([]:Aj),rS ([]:Aj),A4 0,rv (.slice none 0 0),rv (.slice none 0 0),A4 0] 34,.row hd 65 4 (A8 Au hb)] ?_ ?_))
     ·refine Ap (wm Aa (wv (Cl Aa Aa) (wm Aa (AZ (!decide ((BO (Al (Al l ha) 3))=0)) (λhl=>?_) (λhl=>?_)))))
      ·refine wf hl (wf hl (wv (r:=rB true) (A3 Aa hl Aa) (wm Aa (wz Aa Aa (wz Aa Aa (wv (r:=rB true) (A3 (b:=true) Aa Aa Aa) (Ar ?_)))))));exact C8 hl
      refine wo hl (wm Aa (wo hl (wv (Cl Aa Aa) (GO Aa hl Aa (wm Aa (AZ (!decide ((BO (Al (Al l ha) 4))=0)) (λhm=>?_) (λhm=>?_)))))))
      ·refine wf hm (wf hm (wv (r:=rB true) (A3 Aa hm Aa) (Ar ?_)));exact C8 (And.intro hl hm)
      refine wo hm (wm Aa (wo hm (wv (Cl Aa Aa) (GO Aa hm Aa (Ar ?_)))));exact C8 (And.intro hl hm)
     refine cz gc Aa (λgd ge=>?_) (λgd gf=>?_)
     ·refine Am (wv (Bl (i:=0) H6 DY Aa Aa Aa Aa) (M5 (i:=1) DY Aa Aa Aa ⟨(BA Aa),(BA Aa),(BA Aa),(BA Aa),(CD (i:=2) Aa),(BA Aa),trivial⟩ Aa Aa ?_));refine wa Aa (Ax (A6 (A7 (A7 (Ae (Ae (Bc ?_)))))));have gg:=B4 ge hn ho;refine A7 (Ae (WK.freeze (i:=2) Aa (WK.upBlk (i:=2) (cs':=[rS (Al (Al l ha) 1),rS (Al (Al l ha) 2),A4 (Bx (Al (Al l ha) 3)),Be 4 (A8 Af hp.1),Be 4 (A8 Au hb),A4 (Bx (Al (Al l ha) 4))]) Aa ⟨Up.refl _,Up.refl _,Up.refl _,Up.refl _,Up.fact (i:=0) Aa,Up.refl _,trivial⟩ ?_)));obtain rfl:=AA gg;exact A5 (E4 Xl (Jj (i:=2) H6 DY Aa Aa Aa) (AT Aa)) (sS (sS (sS sN))) ⟨Aa,Aa⟩
     exact A0 (AK (AK (A1 (AG ((Al (Al l ha) 1,Al (Al l ha) 2,Bx (Al (Al l ha) 3),hp.1,hb,Bx (Al (Al l ha) 4)),hd) gf (AI.c5 Aa Aa Aa Aa Aa AI.nil) (sC (sC (sC sN)))))))
    refine AV [(2,rP b1 0),(4,rP b2 0),(6,Be 1 (A8 eS (Al l ha))),(7,rv (.slice none 0 0)),(14,Be 1 (A8 Ca l)),(15,A4 (l.length:Int)),(16,A4 ha),(73,rB ((decide (0<ha))&&(decide (((Al l ha).length:Int)=4))))] [.blk b2 [rS hk,rS hh,A4 he,Be 4 (A8 Af hf),rv hd,A4 hg] 34,.blk b1 [rS ([]:Aj),rS ([]:Aj),A4 0,rv (.slice none 0 0),rv (.slice none 0 0),A4 0] 34,.row hd 65 4 (A8 Au hb)] ?_ ?_
    ·refine Ap (wm Aa (wv (Ec Aa Aa) (wm Aa (AZ (decide (0<ha)) (λhj=>?_) (λhj=>?_)))))
     ·refine wo hj (wm Aa (wo hj (wv (By (ys:=Al l ha) (enc:=eS) C7 Aa) (wo hj (wv (BT Aa Aa) (GC Aa hj Aa (wa Aa (Ar ?_))))))));exact C8 hj
     refine wf hj (wf hj (wf hj (wv (r:=rB false) (Ay Aa hj Aa) (wa Aa (Ar ?_)))));exact C8 hj
    refine cz hL Aa (λgh gi=>?_) (λgh gj=>?_)
    ·refine Aq (Am (wm Aa (ck gi λgl gm=>wv (AU (enc:=eS) (ys:=Al l ha) C7 BS Aa Aa gl) (wv (AH Cf Aa Aa) (ck gm λgp gq=>Dr (rs:=[rS (Al (Al l ha) 0)]) (r:=Db [A4 (Bx (Al (Al l ha) 0)),A4 (BO (Al (Al l ha) 0))]) Zi Aa (MQ (Al (Al l ha) 0) gp) Aa Aa (wm Aa (wv (AD Aa Aa) (wv (AD Aa Aa) (wa Aa (wa Aa (B3 (wm Aa (wv (Cl Aa Aa) (Ax (cz gq Aa (λgr gs=>?_) (λgr gt=>?_))))))))))))))))
     ·refine Am (wv (Bl (i:=0) H6 DY Aa Aa Aa Aa) (M5 (i:=1) DY Aa Aa Aa ⟨(BA Aa),(BA Aa),(BA Aa),(BA Aa),(CD (i:=2) Aa),(BA Aa),trivial⟩ Aa Aa ?_));refine wa Aa (Ax (A6 (Ae (A7 (A7 (Ae (Ae (Bc ?_))))))));have gu:=B4 gs hn ho;refine A7 (Ae (WK.freeze (i:=2) Aa (WK.upBlk (i:=2) (cs':=[rS hk,rS hh,A4 he,Be 4 (A8 Af hf),Be 4 (A8 Au hb),A4 hg]) Aa ⟨Up.refl _,Up.refl _,Up.refl _,Up.refl _,Up.fact (i:=0) Aa,Up.refl _,trivial⟩ ?_)));obtain rfl:=AA gu;exact A5 (E4 Xl (Jj (i:=2) H6 DY Aa Aa Aa) (AT Aa)) (sS (sS (sS sN))) ⟨Aa,Aa⟩
     refine A0 (AY (Am (wm Aa (wm Aa (ck gt λgv gw=>wv (AU (enc:=eS) (ys:=Al l ha) C7 BS Aa Aa gv) (wv (AH Cf Aa Aa) (wv (r:=BW [A4 (Bx (Al (Al l ha) 0)),rS (Al (Al l ha) 1),rv (.slice none 0 0),A4 0]) (QK Aa Aa Aa Aa) (Ci (cs:=[A4 0,rS ([]:Aj),rv (.slice none 0 0),A4 0]) Me Aa Aa (λgS=>?_)))))))));refine M5 (i:=0) Dk Aa Aa Aa (Cv.c Aa) Aa Aa ?_;refine Ax (Aq (Am (wm Aa (ck gw λgx gy=>wv (AU (enc:=eS) (ys:=Al l ha) C7 BS Aa Aa gx) (wv (AH Cf Aa Aa) (ck gy λgz g0=>Dr (rs:=[rS (Al (Al l ha) 2)]) (r:=Db [A4 (Bx (Al (Al l ha) 2)),A4 (BO (Al (Al l ha) 2))]) Zi Aa (MQ (Al (Al l ha) 2) gz) Aa Aa (wm Aa (wv (AD Aa Aa) (wv (AD Aa Aa) (vF C6 Aa C2 (us (i:=0) C2 Aa Aa (BA Aa) Aa Aa ?_)))))))))));refine wa Aa (B3 (wm Aa (wv (Cl Aa Aa) (Ax (cz g0 Aa (λg1 g2=>?_) (λg1 g3=>?_))))))
     ·refine Am (wv (Bl (i:=1) H6 DY Aa Aa Aa Aa) (M5 (i:=2) DY Aa Aa Aa ⟨(BA Aa),(BA Aa),(BA Aa),(BA Aa),(CD (i:=3) Aa),(BA Aa),trivial⟩ Aa Aa ?_));refine wa Aa (Ax (A6 (Ae (A7 (A7 (Ae (Ae (Bc ?_))))))));have g4:=B4 g2 hn ho;refine A7 (Ae (WK.freeze (i:=3) Aa (WK.upBlk (i:=3) (cs':=[rS hk,rS hh,A4 he,Be 4 (A8 Af hf),Be 4 (A8 Au hb),A4 hg]) Aa ⟨Up.refl _,Up.refl _,Up.refl _,Up.refl _,Up.fact (i:=0) Aa,Up.refl _,trivial⟩ ?_)));obtain rfl:=AA g4;exact A5 (E4 Xl (Jj (i:=3) H6 DY Aa Aa Aa) (AT Aa)) (sS (sS (sS (sS sN)))) ⟨Aa,Aa⟩
     refine A0 (AY (Aq (Am (wm Aa (ck g3 λhw g5=>wv (AU (enc:=eS) (ys:=Al l ha) C7 BS Aa Aa hw) (wv (AH Cf Aa Aa) (wv (CV Aa Aa) (Ax (cz g5 Aa (λg6 g7=>?_) (λg6 g8=>?_))))))))))
     ·refine Am (wm Aa (wv (AU (enc:=eS) (ys:=Al l ha) C7 BS Aa Aa hw) (wv (AH Cf Aa Aa) (ob g7 λhq g9 gA=>DM Tryz.call100 (Re F (Al (Al l ha) 3) hq g9) Aa (wm Aa (wv (AD Aa Aa) (wv (AD Aa Aa) (wa Aa (wa Aa (B3 (wm Aa (wv (Cl Aa Aa) (Ax (cz gA Aa (λgB gC=>?_) (λgB gD=>?_)))))))))))))))
      ·refine Am (wv (Bl (i:=1) H6 DY Aa Aa Aa Aa) (M5 (i:=2) DY Aa Aa Aa ⟨(BA Aa),(BA Aa),(BA Aa),(BA Aa),(CD (i:=3) Aa),(BA Aa),trivial⟩ Aa Aa ?_));refine wa Aa (Ax (A6 (Ae (A7 (A7 (Ae (Ae (Bc ?_))))))));have gE:=B4 gC hn ho;refine A7 (Ae (WK.freeze (i:=3) Aa (WK.upBlk (i:=3) (cs':=[rS hk,rS hh,A4 he,Be 4 (A8 Af hf),Be 4 (A8 Au hb),A4 hg]) Aa ⟨Up.refl _,Up.refl _,Up.refl _,Up.refl _,Up.fact (i:=0) Aa,Up.refl _,trivial⟩ ?_)));obtain rfl:=AA gE;exact A5 (E4 Xl (Jj (i:=3) H6 DY Aa Aa Aa) (AT Aa)) (sS (sS (sS (sS sN)))) ⟨Aa,Aa⟩
      refine A0 (AY (Am (wm Aa (vF C6 Aa CW (us (i:=0) CW Aa Aa (BA Aa) Aa Aa ?_)))));refine Ax (Ap (vF CB Aa K3 (vL 1 Ny Aa (wv (Bl (i:=0) I6 Dk Aa Aa Aa Aa) (Bf (ys:=([(As.mk (Bx (Al (Al l ha) 0)) (Al (Al l ha) 1) hq.1 (Bx (Al (Al l ha) 2)))]:List As)) (enc:=Au) (css:=[[A4 (Bx (Al (Al l ha) 0)),rS (Al (Al l ha) 1),Be 4 (A8 Af hq.1),A4 (Bx (Al (Al l ha) 2))]]) (xs:=[.tmp 125]) HG Dk Me Aa Aa Aa ⟨Em.agg ⟨Up.refl _,Up.refl _,Up.refl _,Up.refl _,trivial⟩,trivial⟩ Aa DC Aa Aa Aa (λgT=>?_))))));refine ck gD λgF gG=>Exists.elim AaP λinf hinf=>Cc (xs:=hb) (ys:=([(As.mk (Bx (Al (Al l ha) 0)) (Al (Al l ha) 1) hq.1 (Bx (Al (Al l ha) 2)))]:List As)) (enc:=Au) (i:=4) HG hinf.1 hinf.2.1 hinf.2.2.1 hinf.2.2.2 Aa Aa Aa Aa Aa (JD.w (i:=0) Aa Aa) DC Kr gF Aa (λgH=>?_);refine vF CB Aa K3 (us (i:=3) K3 Aa Aa (CD (i:=0) Aa) Aa Aa ?_);refine Ar (AK (AK (Ja [3,3] ?_)));exact A1 (AG ((hk,hh,he,hf,hb++([(As.mk (Bx (Al (Al l ha) 0)) (Al (Al l ha) 1) hq.1 (Bx (Al (Al l ha) 2)))]:List As),hg),gH) gG (AI.c5 Aa Aa Aa Aa Aa AI.nil) (sC (sC (sC (sS (sS sN))))))
     refine A0 (AY (Am (wm Aa (vF C6 Aa CW (us (i:=0) CW Aa Aa (BA Aa) Aa Aa ?_)))));refine Ax (Ap (vF CB Aa K3 (vL 1 Ny Aa (wv (Bl (i:=0) I6 Dk Aa Aa Aa Aa) (Bf (ys:=([(As.mk (Bx (Al (Al l ha) 0)) (Al (Al l ha) 1) ([]:List Ac) (Bx (Al (Al l ha) 2)))]:List As)) (enc:=Au) (css:=[[A4 (Bx (Al (Al l ha) 0)),rS (Al (Al l ha) 1),Be 4 (A8 Af ([]:List Ac)),A4 (Bx (Al (Al l ha) 2))]]) (xs:=[.tmp 125]) HG Dk Me Aa Aa Aa ⟨Em.agg ⟨Up.refl _,Up.refl _,Up.le (M1.nil _),Up.refl _,trivial⟩,trivial⟩ Aa DC Aa Aa Aa (λgU=>?_))))));refine ck g8 λgI gJ=>Exists.elim AaP λinf hinf=>Cc (xs:=hb) (ys:=([(As.mk (Bx (Al (Al l ha) 0)) (Al (Al l ha) 1) ([]:List Ac) (Bx (Al (Al l ha) 2)))]:List As)) (enc:=Au) (i:=4) HG hinf.1 hinf.2.1 hinf.2.2.1 hinf.2.2.2 Aa Aa Aa Aa Aa (JD.w (i:=0) Aa Aa) DC Kr gI Aa (λgK=>?_);refine vF CB Aa K3 (us (i:=3) K3 Aa Aa (CD (i:=0) Aa) Aa Aa ?_);refine Ar (AK (AK (Ja [3,3] ?_)));exact A1 (AG ((hk,hh,he,hf,hb++([(As.mk (Bx (Al (Al l ha) 0)) (Al (Al l ha) 1) ([]:List Ac) (Bx (Al (Al l ha) 2)))]:List As),hg),gK) gJ (AI.c5 Aa Aa Aa Aa Aa AI.nil) (sC (sC (sC (sS (sS sN))))))
    refine Am (wv (Bl (i:=0) H6 DY Aa Aa Aa Aa) (M5 (i:=1) DY Aa Aa Aa ⟨(BA Aa),(BA Aa),(BA Aa),(BA Aa),(CD (i:=2) Aa),(BA Aa),trivial⟩ Aa Aa ?_));refine wa Aa (Ax (A6 (A7 (A7 (Ae (Ae (Bc ?_)))))));have gL:=B4 gj hn ho;refine A7 (Ae (WK.freeze (i:=2) Aa (WK.upBlk (i:=2) (cs':=[rS hk,rS hh,A4 he,Be 4 (A8 Af hf),Be 4 (A8 Au hb),A4 hg]) Aa ⟨Up.refl _,Up.refl _,Up.refl _,Up.refl _,Up.fact (i:=0) Aa,Up.refl _,trivial⟩ ?_)));obtain rfl:=AA gL;exact A5 (E4 Xl (Jj (i:=2) H6 DY Aa Aa Aa) (AT Aa)) (sS (sS (sS sN))) ⟨Aa,Aa⟩
   rintro⟨⟨hx,hy,hz,h0,h1,h2⟩,gM⟩ hs;refine EL ?_;replace hs:Ew ha hx hy hz h0 h1 h2=some hu:=hs;unfold Ew at hs;refine Ap (ck hs λgN gO=>wv (BU Aa Aa gN) (wm Aa (Ar ?_)));have gP:=B8 gO hn;exact A1 (AG (hC,(ha+1,hx,hy,hz,h0,h1,h2),gM) ⟨gP,Ago _⟩ (AI.c5 Aa Aa Aa Aa Aa AI.nil) (sC (sC (sC sN))))
  refine B9 (A9 ?_);have gQ:=Co hG hn ho;exact A9 (Bj (AG ((hk,hh,he,hf,hb,hg),hd) gQ (AI.c Aa (AI.c Aa AI.nil)) (sC (sC (sC sN)))))
 rintro⟨⟨h3,h4,h5,h6,h7,h8⟩,gV⟩ ht;refine IY ?_;replace ht:Ip h3 h4 h5 h6 h7 h8=some r:=ht;unfold Ip at ht;refine Bm (AY (Am (wv (Bl (i:=0) H6 DY Aa Aa Aa Aa) (M5 (i:=1) DY Aa Aa Aa ⟨(BA Aa),(BA Aa),(BA Aa),(BA Aa),(CD (i:=2) Aa),(BA Aa),trivial⟩ Aa Aa ?_))));refine wa Aa (Ax (A6 (WK.freeze (i:=2) Aa (WK.upBlk (i:=2) (cs':=[rS h3,rS h4,A4 h5,Be 4 (A8 Af h6),Be 4 (A8 Au h7),A4 h8]) Aa ⟨Up.refl _,Up.refl _,Up.refl _,Up.refl _,Up.fact (i:=0) Aa,Up.refl _,trivial⟩ ?_))));obtain rfl:=AA ht;exact A5 (E4 Xl (Jj (i:=2) H6 DY Aa Aa Aa) (AT Aa)) (sS (sS (sS sN))) ⟨Aa,Aa⟩
end Go.Proofs.YtfobhhegpkinaaaGreatDoor.Q
namespace Go.Proofs.YtfobhhegpkinaaaGreatDoor
open Go
set_option linter.unusedVariables false
structure Bt where
 fKey:Aj
 fValue:(List Ac)
 fVersion:Int
 deriving DecidableEq,Inhabited
structure OG where
 fTenant:Aj
 fItem:Bt
 deriving DecidableEq,Inhabited
structure Q4 where
 fEvent:Aj
 fResult:(List Ac)
 deriving DecidableEq,Inhabited
structure YQ where
 fMade:Bool
 fEvents:(List Q4)
 fItems:(List OG)
 fPending:(List An)
 deriving DecidableEq,Inhabited
end Go.Proofs.YtfobhhegpkinaaaGreatDoor
namespace Go.Proofs.YtfobhhegpkinaaaGreatDoor.Q
open Go Go.RowKit
set_option linter.unusedVariables false
section
variable {P : Program} {n : Nat} {c : Cx} {x : Code} {Q : Exit → Act → World → Prop} {l : Fr} {H : List Ent}
end
section
variable {P : Program} {n : Nat} {c : Cx} {opsA : Array Oper} {Q : Exit → Act → World → Prop} {l : Fr} {H : List Ent} {d : Nat} {ty : TypeId} {pos : String} {af : Array Edge}
end
section
variable {P : Program} {n : Nat} {c : Cx} {l : Fr} {H : List Ent} {d : Option Nat} {ty rty t e e' : TypeId} {pos : String} {af : Array Edge} {g : Option (Nat × Bool)} {x : Operand} {sz : Nat} {xs : List (List Rp)} {v : Value}
theorem Rx (i:Nat)(ht:P.underlying t=some (.slice e))(h:ev l x=some (rv v))(hi:H[i]? =some (.row v e' sz xs)):B1 P n c l H { dst:=d,op:=.binOp .eql t x (.const (.slice none 0 0)) rty,type:=ty,pos:=pos,after:=af,guard:=g } (rBx (λb=>b=true→xs=[])):=λa w Z ha hw=>by
 obtain⟨_,_,_,A,cap,e0,h1,h2,h3,h4⟩:=hw.freeze hi;have e1:a.eval x = .slice A xs.length cap:=(ha.ev h:a.eval x=v).trans e0;refine⟨.bool A.isNone,⟨_,rfl,λhb=>?_⟩,?_⟩
 ·cases A with
  | some a=>cases hb
  | none=>
   have:=h3 rfl;exact List.length_eq_zero_iff.1 (by omega)
 ·have:=run_equal_slice_nil (P:=P) w t e A xs.length cap ht;have e2:a.eval (.const (.slice none 0 0)) = .slice none 0 0:=rfl;simp[execOp,e1,e2,binOp,this,eqGuard]
end
set_option linter.unusedSimpArgs false
set_option maxRecDepth 100000
set_option maxHeartbeats 4000000
@[reducible] def Bz (x:Bt):List Rp:=[rS x.fKey,Be 4 (A8 Af x.fValue),A4 x.fVersion]
theorem Ma (x:Bt):(Bz x).length=3:=rfl
theorem QU (x:Bt):(Bz x).all (·.one)=true:=rfl
theorem Aea:∃inf,Tryz.prog.info? 75=some inf∧inf.zero=some (.agg #[(.string ⟨#[]⟩),(.slice none 0 0),(.int .i64 0)])∧inf.size=3∧inf.bytes=48:=by
  have key:(Tryz.prog.info? 75).map (λi=>(i.zero,i.size,i.bytes))=some (some (.agg #[(.string ⟨#[]⟩),(.slice none 0 0),(.int .i64 0)]),3,48):=by kernel_rfl
  obtain⟨inf,h1,h2⟩:=Option.map_eq_some_iff.1 key;simp only[Prod.mk.injEq] at h2;exact⟨inf,h1,h2.1,h2.2.1,h2.2.2⟩
theorem Adg (parts:List (Nat×Value)):Tryz.prog.built 34 parts=Instr.fill (λi=>(#[(0,1),(1,1),(2,1),(3,1),(4,1),(5,1)]:Array (Nat×Nat))[i]?) #[(.string ⟨#[]⟩),(.string ⟨#[]⟩),(.int .i64 0),((.slice none 0 0)),((.slice none 0 0)),(.int .i64 0)] parts:=by kernel_rfl
theorem Ade (parts:List (Nat×Value)):Tryz.prog.built 67 parts=Instr.fill (λi=>(#[(0,1),(1,1),(2,1),(3,1),(4,4)]:Array (Nat×Nat))[i]?) #[(.string ⟨#[]⟩),(.string ⟨#[]⟩),(.string ⟨#[]⟩),(.int .i64 0),(.int .i64 0),(.string ⟨#[]⟩),((.slice none 0 0)),(.int .i64 0)] parts:=by kernel_rfl
theorem HE {n:Nat}{c:Cx}{l:Fr}{H:List Ent}{d:Option Nat}{ty:TypeId}{pos:String}{af:Array Edge}{g:Option (Nat×Bool)}{x0:Operand}{r0:Rp}(h0:ev l x0=some r0)(u0:r0.one=true){x1:Operand}{r1:Rp}(h1:ev l x1=some r1)(u1:r1.one=true){x2:Operand}{r2:Rp}(h2:ev l x2=some r2)(u2:r2.one=true){x3:Operand}{r3:Rp}(h3:ev l x3=some r3)(u3:r3.one=true){x4:Operand}{r4_0 r4_1 r4_2 r4_3:Rp}(h4:ev l x4=some (BW [r4_0,r4_1,r4_2,r4_3])):B1 Tryz.prog n c l H { dst:=d,op:=.build 67 #[(0,x0),(1,x1),(2,x2),(3,x3),(4,x4)],type:=ty,pos:=pos,after:=af,guard:=g } (BW [r0,r1,r2,r3,r4_0,r4_1,r4_2,r4_3]):=λa w Z ha _=>by
  have p0:=ha.ev h0;have c0:=B7 (r0.hone u0 Z _ p0);have p1:=ha.ev h1;have c1:=B7 (r1.hone u1 Z _ p1);have p2:=ha.ev h2;have c2:=B7 (r2.hone u2 Z _ p2);have p3:=ha.ev h3;have c3:=B7 (r3.hone u3 Z _ p3);obtain⟨us4,e4,q4⟩:=ha.ev h4;obtain⟨y4_0,y4_1,y4_2,y4_3,rfl,q4⟩:=Bq.d4 q4;have cg:∀cs:Array Value,(Value.agg cs).cells=cs:=λ_=>rfl;have hb:Tryz.prog.built 67 [(0,a.eval x0),(1,a.eval x1),(2,a.eval x2),(3,a.eval x3),(4,a.eval x4)]=some #[a.eval x0,a.eval x1,a.eval x2,a.eval x3,y4_0,y4_1,y4_2,y4_3]:=by
    rw[Ade];generalize a.eval x0=v0 at *;generalize a.eval x1=v1 at *;generalize a.eval x2=v2 at *;generalize a.eval x3=v3 at *;simp[Instr.fill,c0,c1,c2,c3,e4,cg]
  refine⟨.agg #[a.eval x0,a.eval x1,a.eval x2,a.eval x3,y4_0,y4_1,y4_2,y4_3],⟨[a.eval x0,a.eval x1,a.eval x2,a.eval x3,y4_0,y4_1,y4_2,y4_3],rfl,p0,p1,p2,p3,q4.1,q4.2.1,q4.2.2.1,q4.2.2.2.1,trivial⟩,?_⟩;have:=run_build w 67 #[(0,a.eval x0),(1,a.eval x1),(2,a.eval x2),(3,a.eval x3),(4,a.eval x4)] _ (by simpa using hb);simp[execOp,this]
theorem Add (parts:List (Nat×Value)):Tryz.prog.built 75 parts=Instr.fill (λi=>(#[(0,1),(1,1),(2,1)]:Array (Nat×Nat))[i]?) #[(.string ⟨#[]⟩),((.slice none 0 0)),(.int .i64 0)] parts:=by kernel_rfl
theorem O9 {n:Nat}{c:Cx}{l:Fr}{H:List Ent}{d:Option Nat}{ty:TypeId}{pos:String}{af:Array Edge}{g:Option (Nat×Bool)}{x0:Operand}{r0:Rp}(h0:ev l x0=some r0)(u0:r0.one=true){x1:Operand}{r1:Rp}(h1:ev l x1=some r1)(u1:r1.one=true){x2:Operand}{r2:Rp}(h2:ev l x2=some r2)(u2:r2.one=true):B1 Tryz.prog n c l H { dst:=d,op:=.build 75 #[(0,x0),(1,x1),(2,x2)],type:=ty,pos:=pos,after:=af,guard:=g } (BW [r0,r1,r2]):=λa w Z ha _=>by
  have p0:=ha.ev h0;have c0:=B7 (r0.hone u0 Z _ p0);have p1:=ha.ev h1;have c1:=B7 (r1.hone u1 Z _ p1);have p2:=ha.ev h2;have c2:=B7 (r2.hone u2 Z _ p2);have hb:Tryz.prog.built 75 [(0,a.eval x0),(1,a.eval x1),(2,a.eval x2)]=some #[a.eval x0,a.eval x1,a.eval x2]:=by
    rw[Add];generalize a.eval x0=v0 at *;generalize a.eval x1=v1 at *;generalize a.eval x2=v2 at *;simp[Instr.fill,c0,c1,c2]
  refine⟨.agg #[a.eval x0,a.eval x1,a.eval x2],⟨[a.eval x0,a.eval x1,a.eval x2],rfl,p0,p1,p2,trivial⟩,?_⟩;have:=run_build w 75 #[(0,a.eval x0),(1,a.eval x1),(2,a.eval x2)] _ (by simpa using hb);simp[execOp,this]
end Go.Proofs.YtfobhhegpkinaaaGreatDoor.Q
namespace Go.Proofs.YtfobhhegpkinaaaGreatDoor
open Go
set_option linter.unusedVariables false
def HY (n:Int):Option ((List Ac)):=
 some ([(Ac.mk 3 n ([]:Aj) 0)]:List Ac)
def G7 (F:Nat)(a:(List Bt))(b:(List Bt))(ha:Int):Option (Stp (Int) (Out (Bool) (Unit))):=
 B0 (decide (ha<(a.length:Int))) (Bi (Da ha (a.length:Int))<|Bi (Da ha (b.length:Int))<|Bi (imp (!(!decide (((Al a ha).fKey)=((Al b ha).fKey)))) (imp (!(!decide (((Al a ha).fVersion)=((Al b ha).fVersion)))) ((Jm F ((Al a ha).fValue) ((Al b ha).fValue)).isSome)))<|B0 (((!decide (((Al a ha).fKey)=((Al b ha).fKey)))||((!decide (((Al a ha).fVersion)=((Al b ha).fVersion)))||(!(ov (Jm F ((Al a ha).fValue) ((Al b ha).fValue))))))) (some (.out (.ret false))) (Bi (Ch .i64 (ha+1))<|some (.next (ha+1)))) (some (.out (.go ())))
def IL :Option (Bool):=
 some true
def Ix (F:Nat)(a:(List Bt))(b:(List Bt)):Option (Bool):=
 B0 (!decide ((a.length:Int)=(b.length:Int))) (some false) (Bs (Cj (λσ=>G7 F a b σ) F 0) (BQ λν=>IL ))
def Eh (F:Nat)(a:(List An))(b:(List An))(ha:Int):Option (Stp (Int) (Out (Bool) (Unit))):=
 B0 (decide (ha<(a.length:Int))) (Bi (Da ha (a.length:Int))<|Bi (Da ha (b.length:Int))<|Bi (imp (!(!decide (((Al a ha).fID)=((Al b ha).fID)))) (imp (!(!decide (((Al a ha).fTenant)=((Al b ha).fTenant)))) (imp (!(!decide (((Al a ha).fCause)=((Al b ha).fCause)))) (imp (!(!decide (((Al a ha).fAt)=((Al b ha).fAt)))) (imp (!(!decide ((((Al a ha).fEffect).fKind)=(((Al b ha).fEffect).fKind)))) (imp (!(!decide ((((Al a ha).fEffect).fKey)=(((Al b ha).fEffect).fKey)))) (imp (!(!decide ((((Al a ha).fEffect).fDelay)=(((Al b ha).fEffect).fDelay)))) ((Jm F (((Al a ha).fEffect).fValue) (((Al b ha).fEffect).fValue)).isSome))))))))<|B0 (((!decide (((Al a ha).fID)=((Al b ha).fID)))||((!decide (((Al a ha).fTenant)=((Al b ha).fTenant)))||((!decide (((Al a ha).fCause)=((Al b ha).fCause)))||((!decide (((Al a ha).fAt)=((Al b ha).fAt)))||((!decide ((((Al a ha).fEffect).fKind)=(((Al b ha).fEffect).fKind)))||((!decide ((((Al a ha).fEffect).fKey)=(((Al b ha).fEffect).fKey)))||((!decide ((((Al a ha).fEffect).fDelay)=(((Al b ha).fEffect).fDelay)))||(!(ov (Jm F (((Al a ha).fEffect).fValue) (((Al b ha).fEffect).fValue)))))))))))) (some (.out (.ret false))) (Bi (Ch .i64 (ha+1))<|some (.next (ha+1)))) (some (.out (.go ())))
def Hq :Option (Bool):=
 some true
def Gl (F:Nat)(a:(List An))(b:(List An)):Option (Bool):=
 B0 (!decide ((a.length:Int)=(b.length:Int))) (some false) (Bs (Cj (λσ=>Eh F a b σ) F 0) (BQ λν=>Hq ))
def NG (l:(List An))(n:Int):Option (Aj):=
 B0 (((decide (n<0))||(decide ((l.length:Int)≤n)))) (some ([]:Aj)) (Bi (Da n (l.length:Int))<|some ((Al l n).fID))
def J4 (a:(List Aj))(b:Aj)(ha:Int):Option (Stp (Int) (Out (Bool) (Unit))):=
 B0 (decide (ha<(a.length:Int))) (Bi (Da ha (a.length:Int))<|B0 (decide ((Al a ha)=b)) (some (.out (.ret true))) (Bi (Ch .i64 (ha+1))<|some (.next (ha+1)))) (some (.out (.go ())))
def Nh :Option (Bool):=
 some false
def J5 (F:Nat)(a:(List Aj))(b:Aj):Option (Bool):=
 Bs (Cj (λσ=>J4 a b σ) F 0) (BQ λν=>Nh )
def Ia (a:(List Aj))(b:(List Aj))(ha:Int):Option (Stp (Int) (Out (Bool) (Unit))):=
 B0 (decide (ha<(a.length:Int))) (Bi (Da ha (a.length:Int))<|Bi (Da ha (b.length:Int))<|B0 (!decide ((Al a ha)=(Al b ha))) (some (.out (.ret false))) (Bi (Ch .i64 (ha+1))<|some (.next (ha+1)))) (some (.out (.go ())))
def L6 :Option (Bool):=
 some true
def KO (F:Nat)(a:(List Aj))(b:(List Aj)):Option (Bool):=
 B0 (!decide ((a.length:Int)=(b.length:Int))) (some false) (Bs (Cj (λσ=>Ia a b σ) F 0) (BQ λν=>L6 ))
end Go.Proofs.YtfobhhegpkinaaaGreatDoor
