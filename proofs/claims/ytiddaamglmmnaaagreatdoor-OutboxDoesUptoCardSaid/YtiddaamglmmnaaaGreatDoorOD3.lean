/-
  Texts of the proof, put together: WVd, PVe, WVe, PVf, WVf, PH, PFr, QH, QY, QU, QW, QT, QJ, QX, WFr, PM, POa, QN, QM, QI, QV, QL, PI, QF, Q6.
-/
import Derived.Test.YtiddaamglmmnaaaGreatDoorOD2
import Derived.Laws.StructEq
import GoSem.Op.IntBits
import GoSem.Op.Shift
import Derived.Laws.Cover3
import Derived.ScopeJumps
import Derived.Laws.CopyRow
import Derived.Laws.IdiomCopy
import Derived.Laws.OwnMore
import Derived.MapKept
import Derived.Maps.RangeRun
open Decidable renaming decide → Ac
open Option renaming some → Ad, none → Ai
open Bool renaming true → Af, false → Ah
open List renaming length → Ae, drop → Ap, take → Aq, replicate → Au, range → As
open Int renaming toNat → Ao
open UInt8 renaming ofNat → Ar
open Go.Proofs.Tryz
namespace Go.Proofs.YtiddaamglmmnaaaGreatDoor.Q
open Go Go.RowKit
set_option linter.unusedVariables false
set_option linter.unusedSimpArgs false
set_option maxRecDepth 100000
set_option maxHeartbeats 4000000
theorem Hc:ifI 77 (.agg #[(.int .i64 0),(.int .i64 0),(.string ⟨#[]⟩),(.int .i64 0)]) 4 40:=PF Ak
theorem DP (parts:List (Nat×Value)):prog.built 77 parts=Instr.fill (λi=>(#[(0,1),(1,1),(2,1),(3,1)]:Array (Nat×Nat))[i]?) #[(.int .i64 0),(.int .i64 0),(.string ⟨#[]⟩),(.int .i64 0)] parts:=Ak
theorem AjC (parts:List (Nat×Value)):prog.built 149 parts=Instr.fill (λi=>(#[(0,1),(1,1),(2,1),(3,1)]:Array (Nat×Nat))[i]?) #[(.string ⟨#[]⟩),(.int .i64 0),((.slice Ai 0 0)),(.bool Ah)] parts:=Ak
theorem Wb (s p:Aw)(r:Bool)(h:NN s p=Ad r):FN 195 [rS s,rS p] [] (PO (rB r)):=en func195 ntmps195 Aa λw Z=>AY Aa<|Be<|ck h λg1 h2=>AM [(4,rB ((Br ((Ae p:Int)≤(Ae s:Int)))&&(Br ((Aq (CV (Ae p:Int)) s)=p))))] [] (BD Aa<|wv B6<|ms Aa<|wv B6<|wv Gs<|ms Aa<|Ba (Br ((Ae p:Int)≤(Ae s:Int))) (λc3=>wo c3<|ms Aa<|wo c3<|ms Aa<|Bt c3 B6<|Bt c3 (UY GB Aa Aa (C3 g1 c3))<|wo c3<|ms Aa<|Bt c3 Es<|EA Aa c3 Aa<|B9 Aa<|Ce c3) λc3=>CI c3 Aa<|wv (A9 c3)<|B9 Aa<|Ce c3)<|CM<|cs h2▸Gd results195 ⟨Aa,Aa⟩
theorem Ta (s p:Aw)(r:Bool)(h:MI s p=Ad r):FN 171 [rS s,rS p] [] (PO (rB r)):=en func171 ntmps171 Aa λw Z=>AY Aa<|Ca Aa<|ob h λr1 e3 h2=>CS call195 (Wb s p r1 e3)<|Bw Aa<|cs h2▸Gd results171 ⟨Aa,Aa⟩
abbrev DK (x0:Nat)(x1:Aw)(x2:Int)(x3:Value)(x4:Bool)(x5:List Av):List Ent:=[.blk x0 [rS x1,Bn x2,rv x3,rB x4] 149,.row x3 77 4 (BP A7 x5)]
theorem GI (ha:Nat)(hb:Value)(q:AN)(s:Aw)(r:Bool×AN)(h:HG q s=Ad r):FN 144 [rP ha 0,rS s] (DK ha q.fS q.aG hb q.aB q.aw) (λR H=>∃w0_2:Value,R=rB r.1∧H=(DK ha r.2.fS r.2.aG w0_2 r.2.aB r.2.aw)):=en func144 ntmps144 Aa λw Z=>by refine AY Aa<|Cz<|Bl<|ck h λg1 h2=>ob h2 λr3 e5 h4=>Et [0,1] ?_;refine rq AS<|rq AJ<|rq AB<|rq (Ay 0)<|rq AS<|rq AJ<|rq AB<|rq (Ay 0)<|rq (Gx GB Aa Aa g1)<|rq AS<|RM (Ge call171 (Ta (Ap (CV q.aG) q.fS) s r3 e5) Aa)<|rq BO<|re [16,0,1] ?_;exact CL<|BG h4 (λc6 h7=>Bz Aa<|cs h7▸AC (Dj results144 AW) (sK 3) ⟨hb,Aa,Aa⟩) λc6 h8=>by refine BQ<|AY Aa<|wv AJ<|wv AB<|wv (Ay 0)<|ms Aa<|wv B6<|ck h8 λg9 hd=>wv (Bg g9)<|wv AJ<|wv AB<|us 0 H6 Aa Aa (Cs Aa) Aa Aa ?_;exact Dt<|Bw Aa<|cs hd▸AC (Dj results144 AW) (sK 3) ⟨hb,Aa,Aa⟩
theorem Ade (F ha:Nat)(hq:Value)(q:AN)(r:Aw×Bool×AN)(h:Wp F q=Ad r):FN 146 [rP ha 0] (DK ha q.fS q.aG hq q.aB q.aw) (λR H=>∃w0_2:Value,R=Du [rS r.1,rB r.2.1]∧H=(DK ha r.2.2.fS r.2.2.aG w0_2 r.2.2.aB r.2.2.aw)):=en func146 ntmps146 Aa λw Z=>by refine AT<|wv (r:=rS ([]:Aw)) Bd<|ms Aa<|BH Aa<|ob h λr1 e3 h2=>EG [0,0] KP (GI ha hq q ([34]:Aw) r1 e3) ?_;rintro _ _ ⟨v4,rfl,rfl⟩;exact wv BO<|Be<|BG h2 (λc5 h6=>AT<|wv (r:=rS ([]:Aw)) Bd<|Bw Aa<|A5<|cs h6▸AC (Eb Zv AW AW) (sK 3) ⟨v4,Aa,Aa⟩) λc5 h7=>BQ<|AY Aa<|Cz<|AL<|WC.nilrow (e:=5) (sz:=1)<|JH [1,1] Aa<|ob h7 λhs ht hj=>B8 (V:=Int×Unit) 0 (λσ=>Cp (λσ=>HQ r1 σ.1 σ.2) σ.1 σ.2.1=Ad hs) (λσ=>[(0,rP ha 0),(4,rv σ.2.2)]) (λσ=>[.blk ha [rS r1.2.fS,Bn σ.2.1.2,rv v4,rB r1.2.aB] 149,.row v4 77 4 (BP A7 r1.2.aw),.row σ.2.2 5 1 (BP CO σ.2.1.1)]) (λσ=>σ.1) (F,(([]:List Int),r1.2.aG),(.slice Ai 0 0     )) ht (AP Aa) (sC (sC (sC sN))) (λσ=>Mm r1 σ.1=Ad r) (λσ=>[]) (λσ=>(DK ha r1.2.fS σ.1 v4 r1.2.aB r1.2.aw)) (by rintro⟨hZ,⟨hf,hd⟩,hh⟩ hu;refine EM ?_;obtain⟨hw,rfl,hn,hk,hi⟩:=C5 hu;have hk:HQ r1 hf hd=Ad hn:=hk;unfold HQ at hk;refine Bl<|Bl<|Et [0,4] ?_;refine rq AS<|rq AJ<|rq AB<|rq (Ay 0)<|rq AS<|rq AJ<|rq AB<|rq (Ay 0)<|rq B6<|rq BS<|re [9,10,11,12,13,14,15,16,17,18,0,4] ?_;exact CL<|BG hk (λhx hy=>by refine BQ<|AL<|Bl<|ck hy λhz h0=>Et [0,4,9,10,11,12,13,14,15,16,17] ?_;refine rq AS<|rq AJ<|rq AB<|rq (Ay 0)<|rq AS<|rq AJ<|rq AB<|rq (Ay 0)<|rq (B0 hz)<|rq Bd<|re [19,20,21,22,23,24,25,26,27,5,0,4,9,10,11,12,13,14,15,16,17] ?_;refine CL<|AY Aa<|wv AJ<|wv AB<|wv (Ay 0)<|ck h0 λh1 h3=>wv (Bg h1)<|wv AJ<|wv AB<|us 0 H6 Aa Aa (Cs Aa) Aa Aa ?_;exact Be<|D2 (S:=(Int×Int)×Unit) (λσ=>IM hf σ.1.1 σ.1.2=Ad hn) (λσ=>[(0,rP ha 0),(4,rv hh),(5,rI .u8 σ.1.1),(9,rP ha 0),(10,rP ha 0),(11,rP ha 1),(12,Bn hd),(13,rP ha 0),(14,rP ha 0),(15,rP ha 0),(16,rS r1.2.fS),(17,Bn (Ae r1.2.fS:Int)),(19,rP ha 0),(20,rP ha 0),(21,rP ha 0),(22,rS r1.2.fS),(23,rP ha 0),(24,rP ha 0),(25,rP ha 1),(26,Bn hd),(27,rI .u8 (BA r1.2.fS hd))]) (λσ=>[.blk ha [rS r1.2.fS,Bn σ.1.2,rv v4,rB r1.2.aB] 149,.row v4 77 4 (BP A7 r1.2.aw),.row hh 5 1 (BP CO hf)]) (AL<|AY Aa<|wv Bx<|CW Aa<|BG h3 (λh4 h5=>AY Aa<|wv (WV (xs:=hf) (i:=2) EH GB Mi Aa Aa)<|Bw Aa<|BW<|BW<|Bj<|have h8:=BK h5 hi hj;BW<|cs h8▸AC (Eb Zv AW AW) (sK 3) ⟨v4,Aa,Aa⟩) λh4 h9=>AM [(0,rP ha 0),(4,rv hh),(5,rI .u8 (BA r1.2.fS hd)),(9,rP ha 0),(10,rP ha 0),(11,rP ha 1),(12,Bn hd),(13,rP ha 0),(14,rP ha 0),(15,rP ha 0),(16,rS r1.2.fS),(17,Bn (Ae r1.2.fS:Int)),(19,rP ha 0),(20,rP ha 0),(21,rP ha 0),(22,rS r1.2.fS),(23,rP ha 0),(24,rP ha 0),(25,rP ha 1),(26,Bn hd),(27,rI .u8 (BA r1.2.fS hd)),(40,rB ((Br ((BA r1.2.fS hd)<32))||(Br (126<(BA r1.2.fS hd)))))] [.blk ha [rS r1.2.fS,Bn (hd+1),rv v4,rB r1.2.aB] 149,.row v4 77 4 (BP A7 r1.2.aw),.row hh 5 1 (BP CO hf)] (BD Aa<|wv BS<|ms Aa<|Ba (Br ((BA r1.2.fS hd)<32)) (λhg=>CI hg Aa<|wv (Ax hg)<|B9 Aa<|Ce hg) λhg=>wo hg<|ms Aa<|Bt hg Cw<|D7 Aa hg Aa<|B9 Aa<|Ce hg)<|BG h9 (λhA hB=>AT<|wv (r:=rS ([]:Aw)) Bd<|Bw Aa<|BW<|BW<|Bj<|have hC:=BK hB hi hj;BW<|cs hC▸AC (Eb Zv AW AW) (sK 3) ⟨v4,Aa,Aa⟩) λhA hD=>AY Aa<|wv Bx<|CW Aa<|BG hD (λhE hG=>Bl<|ck hG λho hH=>AM [(0,rP ha 0),(4,rv hh),(9,rP ha 0),(10,rP ha 0),(11,rP ha 1),(12,Bn hd),(13,rP ha 0),(14,rP ha 0),(15,rP ha 0),(16,rS r1.2.fS),(17,Bn (Ae r1.2.fS:Int)),(19,rP ha 0),(20,rP ha 0),(21,rP ha 0),(22,rS r1.2.fS),(23,rP ha 0),(24,rP ha 0),(25,rP ha 1),(26,Bn hd),(27,rI .u8 (BA r1.2.fS hd)),(50,rP ha 0),(51,rP ha 0),(52,rP ha 1),(53,Bn (hd+1)),(54,rP ha 0),(55,rP ha 0),(56,rP ha 0),(57,rS r1.2.fS),(58,Bn (Ae r1.2.fS:Int)),(59,rB (Br ((Ae r1.2.fS:Int)≤(hd+1)))),(60,rB (Br ((Ae r1.2.fS:Int)≤(hd+1)))),(83,rB ((Br ((Ae r1.2.fS:Int)≤(hd+1)))||((!Br ((BA r1.2.fS (hd+1))=34))&&(!Br ((BA r1.2.fS (hd+1))=92)))))] [.blk ha [rS r1.2.fS,Bn (hd+1),rv v4,rB r1.2.aB] 149,.row v4 77 4 (BP A7 r1.2.aw),.row hh 5 1 (BP CO hf)] (Ba (Br ((Ae r1.2.fS:Int)≤(hd+1))) (λhb=>by refine Et [0,4,9,10,11,12,13,14,15,16,17,19,20,21,22,23,24,25,26,27] ?_;exact rq AS<|rq AJ<|rq AB<|rq (Ay 0)<|rq AS<|rq AJ<|rq AB<|rq (Ay 0)<|rq B6<|rq Gs<|rq AS<|rz hb<|rz hb<|rz hb<|rz hb<|rz hb<|rz hb<|rz hb<|rz hb<|rz hb<|rz hb<|rz hb<|ru<|ru<|by refine ru<|ru<|ru<|ru<|ru<|ru<|ru<|ru<|rz hb<|rq (Ax hb)<|re [50,51,52,53,54,55,56,57,58,59,60,61,62,63,64,65,66,67,68,69,70,71,72,73,74,75,76,77,78,79,80,81,82,83,0,4,9,10,11,12,13,14,15,16,17,19,20,21,22,23,24,25,26,27] ?_;exact Ce hb) λhb=>Ba (!Br ((BA r1.2.fS (hd+1))=34)) (λhe=>by refine Et [0,4,9,10,11,12,13,14,15,16,17,19,20,21,22,23,24,25,26,27] ?_;exact rq AS<|rq AJ<|rq AB<|rq (Ay 0)<|rq AS<|rq AJ<|rq AB<|rq (Ay 0)<|rq B6<|rq Gs<|rq AS<|rg hb (AQ Aa)<|rg hb (C4 Aa)<|rg hb (AI Mj Aa DS Aa Aa)<|rg hb (Bq 0 Gb Aa Aa Aa)<|rg hb (AQ Aa)<|rg hb (C4 Aa)<|rg hb (AI Mj Aa H6 Aa Aa)<|rg hb (Bq 0 Kh Aa Aa Aa)<|rg hb (E8 GB Aa Aa (CA ho hb))<|rg hb (M4 Aa Aa)<|rg hb (AQ Aa)<|rg he (AQ Aa)<|rg he (C4 Aa)<|by refine rg he (AI Mj Aa DS Aa Aa)<|rg he (Bq 0 Gb Aa Aa Aa)<|rg he (AQ Aa)<|rg he (C4 Aa)<|rg he (AI Mj Aa H6 Aa Aa)<|rg he (Bq 0 Kh Aa Aa Aa)<|rg he (E8 GB Aa Aa (CA ho hb))<|rg he (M4 Aa Aa)<|rg hb (E2 Aa he Aa)<|rq (A9 hb)<|re [50,51,52,53,54,55,56,57,58,59,60,61,62,63,64,65,66,67,68,69,70,71,72,73,74,75,76,77,78,79,80,81,82,83,0,4,9,10,11,12,13,14,15,16,17,19,20,21,22,23,24,25,26,27] ?_;exact Ce (CU hb he)) λhe=>by refine Et [0,4,9,10,11,12,13,14,15,16,17,19,20,21,22,23,24,25,26,27] ?_;exact rq AS<|rq AJ<|rq AB<|rq (Ay 0)<|rq AS<|rq AJ<|rq AB<|rq (Ay 0)<|rq B6<|rq Gs<|rq AS<|rg hb (AQ Aa)<|rg hb (C4 Aa)<|rg hb (AI Mj Aa DS Aa Aa)<|rg hb (Bq 0 Gb Aa Aa Aa)<|rg hb (AQ Aa)<|rg hb (C4 Aa)<|rg hb (AI Mj Aa H6 Aa Aa)<|rg hb (Bq 0 Kh Aa Aa Aa)<|rg hb (E8 GB Aa Aa (CA ho hb))<|rg hb (M4 Aa Aa)<|rg hb (AQ Aa)<|rz he<|rz he<|by refine rz he<|rz he<|rz he<|rz he<|rz he<|rz he<|rz he<|rz he<|rg hb (r:=rB Ah) (DE (b:=!Br ((BA r1.2.fS (hd+1))=34)) Aa he Aa)<|rq (A9 hb)<|re [50,51,52,53,54,55,56,57,58,59,60,61,62,63,64,65,66,67,68,69,70,71,72,73,74,75,76,77,78,79,80,81,82,83,0,4,9,10,11,12,13,14,15,16,17,19,20,21,22,23,24,25,26,27] ?_;exact Ce (CU hb he))<|BG hH (λhI hJ=>AT<|wv (r:=rS ([]:Aw)) Bd<|Bw Aa<|A5<|BW<|BW<|Bj<|have hK:=BK hJ hi hj;BW<|cs hK▸AC (Eb Zv AW AW) (sK 3) ⟨v4,Aa,Aa⟩) λhI hL=>by refine B5<|ck hL λhN hO=>Et [0,4,9,10,11,12,13,14,15,16,17,19,20,21,22,23,24,25,26,27,50,51,52,53,54,55,56,57,58,59,60] ?_;refine rq AS<|rq AJ<|rq AB<|rq (Ay 0)<|rq AS<|rq AJ<|rq AB<|rq (Ay 0)<|rq (B0 hN)<|rq Bd<|re [84,85,86,87,88,89,90,91,92,5,0,4,9,10,11,12,13,14,15,16,17,19,20,21,22,23,24,25,26,27,50,51,52,53,54,55,56,57,58,59,60] ?_;refine CL<|BD Aa<|wv AJ<|wv AB<|wv (Ay 0)<|ck hO λhP hQ=>wv (Bg hP)<|wv AJ<|wv AB<|us 0 H6 Aa Aa (Cs Aa) Aa Aa ?_;exact AD<|Bm<|AG (AA ((BA r1.2.fS (hd+1),(hd+1)+1),()) hQ (AP Aa) (sC (sC (sC sN))))) λhE hR=>Cf<|Bm<|AG (AA ((BA r1.2.fS hd,hd+1),()) hR (AP Aa) (sC (sC (sC sN)))))<|by rintro⟨⟨hp,hr⟩,⟨⟩⟩ hl;refine EM ?_;exact have hl:IM hf hp hr=Ad hn:=hl;by unfold IM at hl;exact BD Aa<|Dy ([hp]:List Int) CO EH ys5 yz5 Aa ⟨cO Aa,trivial⟩ E9 λga=>ck hl λhS hT=>E0 3 EH N7 Aa Aa (HJ.w 0 Aa Aa) E9 MK hS λhU=>by refine B9 Aa<|Bm<|Jp [2,2] ?_;exact have hV:=Bp hT hi;AG (AA (hw,(hf++([hp]:List Int),hr),hU) ⟨hV,Aqw _⟩ (AP Aa) (sC (sC (sC (sS sN)))))) λhx hW=>BE<|A3<|have hX:=Ci hW hi hj;A3 (Bk (AA (hd,()) hX Hj.nil (sC (sC (sS sN))))))<|by rintro⟨hY,⟨⟩⟩ hm;refine Hb ?_;exact have hm:Mm r1 hY=Ad r:=hm;by unfold Mm at hm;exact Bo<|CL<|AT<|wv (r:=rS ([]:Aw)) Bd<|Bw Aa<|cs hm▸AC (Eb Zv AW AW) (sK 3) ⟨v4,Aa,Aa⟩
theorem Aks (F hd:Nat)(hl:Value)(q:AN)(r:Bool×AN)(h:Wr F q=Ad r):FN 172 [rP hd 0] (DK hd q.fS q.aG hl q.aB q.aw) (λR H=>∃w0_2:Value,R=rB r.1∧H=(DK hd r.2.fS r.2.aG w0_2 r.2.aB r.2.aw)):=en func172 ntmps172 Aa λw Z=>by refine AY Aa<|Ca Aa<|wv AJ<|wv AB<|wv (Ay 0)<|ms Aa<|Ca Aa<|ob h λr1 e3 h2=>EG [0,0] KP (GI hd hl q ([45]:Aw) r1 e3) ?_;rintro _ _ ⟨v4,rfl,rfl⟩;exact Ca Aa<|wv AJ<|wv AB<|wv (Ay 0)<|ms Aa<|Cz<|AL<|ob h2 λhn ho hp=>B8 (V:=Int×Unit) 0 (λσ=>Cp (λσ=>IN r1 σ) σ.1 σ.2.1=Ad hn) (λσ=>[(0,rP hd 0),(3,Bn q.aG),(4,Bn r1.2.aG)]) (λσ=>(DK hd r1.2.fS σ.2.1 v4 r1.2.aB r1.2.aw)) (λσ=>σ.1) (F,r1.2.aG,()) ho (AP Aa) (sC (sC sN)) (λσ=>Q1 q r1 σ.1=Ad r) (λσ=>[(0,rP hd 0),(3,Bn q.aG),(4,Bn r1.2.aG)]) (λσ=>(DK hd r1.2.fS σ.1 v4 r1.2.aB r1.2.aw)) (by rintro⟨hG,hf,⟨⟩⟩ hq;refine EM ?_;obtain⟨hr,rfl,hs,hi,hm⟩:=C5 hq;have hi:IN r1 hf=Ad hs:=hi;exact Bl<|ck hi λhj ht=>AM [(0,rP hd 0),(3,Bn q.aG),(4,Bn r1.2.aG),(17,rP hd 0),(18,rP hd 0),(19,rP hd 1),(20,Bn hf),(21,rP hd 0),(22,rP hd 0),(23,rP hd 0),(24,rS r1.2.fS),(25,Bn (Ae r1.2.fS:Int)),(26,rB (Br (hf<(Ae r1.2.fS:Int)))),(27,rB (Br (hf<(Ae r1.2.fS:Int)))),(38,rB ((Br (hf<(Ae r1.2.fS:Int)))&&(Br (48≤(BA r1.2.fS hf))))),(39,rB ((Br (hf<(Ae r1.2.fS:Int)))&&(Br (48≤(BA r1.2.fS hf))))),(50,rB ((Br (hf<(Ae r1.2.fS:Int)))&&((Br (48≤(BA r1.2.fS hf)))&&(Br ((BA r1.2.fS hf)≤57)))))] (DK hd r1.2.fS hf v4 r1.2.aB r1.2.aw) (Ba (Br (hf<(Ae r1.2.fS:Int))) (λha=>Ba (Br (48≤(BA r1.2.fS hf))) (λhb=>by refine Et [0,3,4] ?_;exact rq AS<|rq AJ<|rq AB<|rq (Ay 0)<|rq AS<|rq AJ<|rq AB<|rq (Ay 0)<|rq B6<|rq BS<|rq AS<|rg ha (AQ Aa)<|rg ha (C4 Aa)<|rg ha (AI Mj Aa DS Aa Aa)<|rg ha (Bq 0 Gb Aa Aa Aa)<|rg ha (AQ Aa)<|rg ha (C4 Aa)<|rg ha (AI Mj Aa H6 Aa Aa)<|rg ha (Bq 0 Kh Aa Aa Aa)<|rg ha (E8 GB Aa Aa (C3 hj ha))<|rg ha (Aft Aa Aa)<|rq (Ax ha)<|rq AS<|rg hb (AQ Aa)<|by refine rg hb (C4 Aa)<|rg hb (AI Mj Aa DS Aa Aa)<|rg hb (Bq 0 Gb Aa Aa Aa)<|rg hb (AQ Aa)<|rg hb (C4 Aa)<|rg hb (AI Mj Aa H6 Aa Aa)<|rg hb (Bq 0 Kh Aa Aa Aa)<|rg hb (E8 GB Aa Aa (C3 hj ha))<|rg hb (Aie Aa Aa)<|rq (Ax hb)<|re [17,18,19,20,21,22,23,24,25,26,27,28,29,30,31,32,33,34,35,36,37,38,39,40,41,42,43,44,45,46,47,48,49,50,0,3,4] ?_;exact Ce (CU ha hb)) λhb=>by refine Et [0,3,4] ?_;exact rq AS<|rq AJ<|rq AB<|rq (Ay 0)<|rq AS<|rq AJ<|rq AB<|rq (Ay 0)<|rq B6<|rq BS<|rq AS<|rg ha (AQ Aa)<|rg ha (C4 Aa)<|rg ha (AI Mj Aa DS Aa Aa)<|rg ha (Bq 0 Gb Aa Aa Aa)<|rg ha (AQ Aa)<|rg ha (C4 Aa)<|rg ha (AI Mj Aa H6 Aa Aa)<|rg ha (Bq 0 Kh Aa Aa Aa)<|rg ha (E8 GB Aa Aa (C3 hj ha))<|rg ha (Aft Aa Aa)<|rq (Ax ha)<|rq AS<|rz hb<|by refine rz hb<|rz hb<|rz hb<|rz hb<|rz hb<|rz hb<|rz hb<|rz hb<|rz hb<|rq (A9 hb)<|re [17,18,19,20,21,22,23,24,25,26,27,28,29,30,31,32,33,34,35,36,37,38,39,40,41,42,43,44,45,46,47,48,49,50,0,3,4] ?_;exact Ce (CU ha hb)) λha=>by refine Et [0,3,4] ?_;exact rq AS<|rq AJ<|rq AB<|rq (Ay 0)<|rq AS<|rq AJ<|rq AB<|rq (Ay 0)<|rq B6<|rq BS<|rq AS<|rz ha<|rz ha<|rz ha<|rz ha<|rz ha<|rz ha<|rz ha<|rz ha<|rz ha<|rz ha<|rq (A9 ha)<|rq AS<|rz Aa<|by refine rz Aa<|rz Aa<|rz Aa<|rz Aa<|rz Aa<|rz Aa<|rz Aa<|rz Aa<|rz Aa<|rq (A9 Aa)<|re [17,18,19,20,21,22,23,24,25,26,27,28,29,30,31,32,33,34,35,36,37,38,39,40,41,42,43,44,45,46,47,48,49,50,0,3,4] ?_;exact Ce ha)<|BG ht (λhu hw=>by refine BQ<|AL<|BD Aa<|wv AJ<|wv AB<|wv (Ay 0)<|ck hw λhx hy=>wv (Bg hx)<|wv AJ<|wv AB<|us 0 H6 Aa Aa (Cs Aa) Aa Aa ?_;exact AD<|Bm<|have hz:=Bp hy hm;AG (AA (hr,hf+1,()) ⟨hz,Aqw _⟩ (AP Aa) (sC (sC sN)))) λhu h0=>BE<|A3<|have h1:=Ci h0 hm hp;A3 (Bk (AA (hf,()) h1 (AP Aa) (sC (sC sN)))))<|by rintro⟨he,⟨⟩⟩ hk;refine Hb ?_;exact have hk:Q1 q r1 he=Ad r:=hk;by refine Bo<|CL<|Bl<|ck hk λh3 h4=>ck h4 λh5 h6=>ck h6 λh7 h8=>Et [0,3,4] ?_;refine rq AS<|rq AJ<|rq AB<|rq (Ay 0)<|rq AS<|rq AS<|rq AJ<|rq AB<|rq (Ay 0)<|rq (EC GB Aa Aa Aa h3 h5)<|RM (EU (rs:=[rS (Aq (CV he-CV q.aG) (Ap (CV q.aG) r1.2.fS))]) (r:=Du [Bn (BN (Aq (CV he-CV q.aG) (Ap (CV q.aG) r1.2.fS))),Bn (Cr (Aq (CV he-CV q.aG) (Ap (CV q.aG) r1.2.fS)))]) AgM Aa (QT (Aq (CV he-CV q.aG) (Ap (CV q.aG) r1.2.fS)) h7) Aa)<|rq AS<|rq A4<|rq A4<|rq Bd<|rq Bd<|re [5,6,0,4] ?_;exact CL<|Bl<|AM [(0,rP hd 0),(5,Bn (BN (Aq (CV he-CV q.aG) (Ap (CV q.aG) r1.2.fS)))),(6,Bn (Cr (Aq (CV he-CV q.aG) (Ap (CV q.aG) r1.2.fS)))),(81,rB ((Br ((Cr (Aq (CV he-CV q.aG) (Ap (CV q.aG) r1.2.fS)))=1))||(Br (r1.2.aG=he))))] (DK hd r1.2.fS he v4 r1.2.aB r1.2.aw) (BD Aa<|wv Bx<|ms Aa<|Ba (Br ((Cr (Aq (CV he-CV q.aG) (Ap (CV q.aG) r1.2.fS)))=1)) (λhg=>CI hg Aa<|wv (Ax hg)<|AD<|Ce hg) λhg=>wo hg<|ms Aa<|wo hg<|ms Aa<|Bt hg AJ<|Bt hg AB<|Bt hg (Ay 0)<|Bt hg Bx<|D7 Aa hg Aa<|AD<|Ce hg)<|BG h8 (λh9 hA=>Bz Aa<|cs hA▸AC (Dj results172 AW) (sK 3) ⟨v4,Aa,Aa⟩) λh9 hB=>BQ<|AM [(0,rP hd 0),(5,Bn (BN (Aq (CV he-CV q.aG) (Ap (CV q.aG) r1.2.fS))))] (DK hd r1.2.fS he v4 (r1.2.aB||(!Br ((Cr (Aq (CV he-CV q.aG) (Ap (CV q.aG) r1.2.fS)))=0))) r1.2.aw) (BD Aa<|wv AJ<|wv AB<|wv (Ay 0)<|ms Aa<|Ba r1.2.aB (λhh=>by refine CI hh Aa<|wv (Ax hh)<|wv AJ<|wv AB<|us 0 Tk Aa Aa (Cs Aa) Aa Aa ?_;exact AD<|MT (H':=(DK hd r1.2.fS he v4 (r1.2.aB||(!Br ((Cr (Aq (CV he-CV q.aG) (Ap (CV q.aG) r1.2.fS)))=0))) r1.2.aw)) (by simp only[hh,Aq3,AqN,Arg,Aq9,AqQ,AqW,Arb,AqZ,Aq5,AqR,Aqv,Aqr])<|wt) λhh=>by refine wo hh<|ms Aa<|Bt hh BU<|D7 Aa hh Aa<|wv AJ<|wv AB<|us 0 Tk Aa Aa (Cs Aa) Aa Aa ?_;exact AD<|MT (H':=(DK hd r1.2.fS he v4 (r1.2.aB||(!Br ((Cr (Aq (CV he-CV q.aG) (Ap (CV q.aG) r1.2.fS)))=0))) r1.2.aw)) (by simp only[hh,Aq3,AqN,Arg,Aq9,AqQ,AqW,Arb,AqZ,Aq5,AqR,Aqv,Aqr])<|wt)<|AY Aa<|wv AJ<|wv AB<|wv (Ay 0)<|ms Aa<|wv (D1 DP Aa (EL Aa (EL Aa cN)) Aa)<|Dy ([(Av.mk 3 (BN (Aq (CV he-CV q.aG) (Ap (CV q.aG) r1.2.fS))) ([]:Aw) 0)]:List Av) A7 El G0 HK Aa ⟨cA,trivial⟩ B2 λhH=>ck hB λhC hD=>E0 2 El Hc Aa Aa (HJ.w 0 Aa Aa) B2 CK hC λhE=>by refine wv AJ<|wv AB<|us 2 Hf Aa Aa (Dp 0 Aa) Aa Aa ?_;refine Dt<|Bw Aa<|Jp [2] ?_;exact cs hD▸AC (Dj results172 AW) (sK 3) ⟨hE,Aa,Aa⟩
theorem Ab9 (F ha:Nat)(hh:Value)(q:AN)(r:Bool×AN)(h:Mn F q=Ad r):FN 145 [rP ha 0] (DK ha q.fS q.aG hh q.aB q.aw) (λR H=>∃w0_2:Value,R=rB r.1∧H=(DK ha r.2.fS r.2.aG w0_2 r.2.aB r.2.aw)):=en func145 ntmps145 Aa λw Z=>by unfold Mn at h;exact AY Aa<|Be<|D2 (S:=(Aw×Int×(List Av)×Bool)×Value) (λσ=>Hm σ.1.1 σ.1.2.1 σ.1.2.2.1 σ.1.2.2.2=Ad r) (λσ=>[]) (λσ=>(DK ha σ.1.1 σ.1.2.1 σ.2 σ.1.2.2.2 σ.1.2.2.1)) (by refine AL<|AY Aa<|ob h λhe hj hk=>EG [0,0] KP (GI ha hh q ([110,117,108,108]:Aw) he hj) ?_;rintro _ _ ⟨hl,rfl,rfl⟩;exact CW Aa<|BG hk (λhm hn=>BD Aa<|wv AJ<|wv AB<|wv (Ay 0)<|wv (D1 DP Aa (EL Aa cN) Aa)<|Dy ([(Av.mk 1 0 ([]:Aw) 0)]:List Av) A7 El G0 HK Aa ⟨cA,trivial⟩ B2 λga=>ck hn λho hp=>E0 2 El Hc Aa Aa (HJ.w 0 Aa Aa) B2 CK ho λhq=>by refine wv AJ<|wv AB<|us 2 Hf Aa Aa (Dp 0 Aa) Aa Aa ?_;refine AD<|Bm<|Jp [2] ?_;exact AG (AA ((he.2.fS,he.2.aG,he.2.aw++([(Av.mk 1 0 ([]:Aw) 0)]:List Av),he.2.aB),hq) hp Hj.nil (sC (sC (sS sN))))) λhm hr=>by refine AY Aa<|ob hr λhf hs ht=>EG [0,0] KP (GI ha hl he.2 ([116,114,117,101]:Aw) hf hs) ?_;rintro _ _ ⟨v76,rfl,rfl⟩;exact CW Aa<|BG ht (λhu hw=>BD Aa<|wv AJ<|wv AB<|wv (Ay 0)<|wv (D1 DP Aa (EL Aa (EL Aa cN)) Aa)<|Dy ([(Av.mk 2 1 ([]:Aw) 0)]:List Av) A7 El G0 HK Aa ⟨cA,trivial⟩ B2 λgb=>ck hw λhx hy=>E0 2 El Hc Aa Aa (HJ.w 0 Aa Aa) B2 CK hx λv80=>by refine wv AJ<|wv AB<|us 2 Hf Aa Aa (Dp 0 Aa) Aa Aa ?_;refine AD<|Bm<|Jp [2] ?_;exact AG (AA ((hf.2.fS,hf.2.aG,hf.2.aw++([(Av.mk 2 1 ([]:Aw) 0)]:List Av),hf.2.aB),v80) hy Hj.nil (sC (sC (sS sN))))) λhu hz=>by refine AY Aa<|ob hz λhb h0 h1=>EG [0,0] KP (GI ha v76 hf.2 ([102,97,108,115,101]:Aw) hb h0) ?_;rintro _ _ ⟨hi,rfl,rfl⟩;exact CW Aa<|BG h1 (λh2 h3=>BD Aa<|wv AJ<|wv AB<|wv (Ay 0)<|wv (D1 DP Aa (EL Aa cN) Aa)<|Dy ([(Av.mk 2 0 ([]:Aw) 0)]:List Av) A7 El G0 HK Aa ⟨cA,trivial⟩ B2 λgc=>ck h3 λh4 h5=>E0 2 El Hc Aa Aa (HJ.w 0 Aa Aa) B2 CK h4 λh6=>by refine wv AJ<|wv AB<|us 2 Hf Aa Aa (Dp 0 Aa) Aa Aa ?_;refine AD<|Bm<|Jp [2] ?_;exact AG (AA ((hb.2.fS,hb.2.aG,hb.2.aw++([(Av.mk 2 0 ([]:Aw) 0)]:List Av),hb.2.aB),h6) h5 Hj.nil (sC (sC (sS sN))))) λh2 h7=>by refine Bl<|ck h7 λh8 h9=>ob h9 λhA hB hC=>Et [0] ?_;refine rq AS<|rq AJ<|rq AB<|rq (Ay 0)<|rq AS<|rq AJ<|rq AB<|rq (Ay 0)<|rq (Gx GB Aa Aa h8)<|RM (Ge call171 (Ta (Ap (CV hb.2.aG) hb.2.fS) ([34]:Aw) hA hB) Aa)<|rq Bd<|re [46,0] ?_;exact CL<|BG hC (λhD hE=>by refine AY Aa<|ob hE λhd hG hH=>EG [0,0] call146 (Ade F ha hi hb.2 hd hG) ?_;rintro _ _ ⟨hI,rfl,rfl⟩;exact ms Aa<|wv A4<|wv A4<|ms Aa<|BH Aa<|wv BO<|Be<|BG hH (λhJ hK=>Bz Aa<|BW<|cs hK▸AC (Dj results145 AW) (sK 3) ⟨hI,Aa,Aa⟩) λhJ hL=>BQ<|BD Aa<|wv AJ<|wv AB<|wv (Ay 0)<|ms Aa<|wv (D1 DP Aa (EL Aa (EL Aa cN)) Aa)<|Dy ([(Av.mk 4 0 hd.1 0)]:List Av) A7 El G0 HK Aa ⟨cA,trivial⟩ B2 λgd=>ck hL λhN hO=>E0 2 El Hc Aa Aa (HJ.w 0 Aa Aa) B2 CK hN λhP=>by refine wv AJ<|wv AB<|us 2 Hf Aa Aa (Dp 0 Aa) Aa Aa ?_;refine AD<|Bm<|Jp [2] ?_;exact AG (AA ((hd.2.2.fS,hd.2.2.aG,hd.2.2.aw++([(Av.mk 4 0 hd.1 0)]:List Av),hd.2.2.aB),hP) hO Hj.nil (sC (sC (sS sN))))) λhD hQ=>by refine AY Aa<|ob hQ λhR hS hT=>EG [0,0] call172 (Aks F ha hi hb.2 hR hS) ?_;rintro _ _ ⟨hU,rfl,rfl⟩;exact Bw Aa<|BW<|cs hT▸AC (Dj results145 AW) (sK 3) ⟨hU,Aa,Aa⟩)<|by rintro⟨⟨hV,hW,hX,hY⟩,hZ⟩ hg;refine EM ?_;exact have hg:Hm hV hW hX hY=Ad r:=hg;by unfold Hm at hg;exact Cy Aa<|cs hg▸AC (Dj results145 AW) (sK 3) ⟨hZ,Aa,Aa⟩
theorem Ab7 (F:Nat)(hg:AN→Option (Bool×AN))(hG:(∀(hb:Nat) (hu:Value) (q:AN) (r:Bool×AN),hg q=Ad r→FN 108 [rP hb 0] (DK hb q.fS q.aG hu q.aB q.aw) (λR H=>∃w0_2:Value,R=rB r.1∧H=(DK hb r.2.fS r.2.aG w0_2 r.2.aB r.2.aw))))(hb:Nat)(hu:Value)(q:AN)(r:Bool×AN)(h:Q0 F hg q=Ad r):FN 108 [rP hb 0] (DK hb q.fS q.aG hu q.aB q.aw) (λR H=>∃w0_2:Value,R=rB r.1∧H=(DK hb r.2.fS r.2.aG w0_2 r.2.aB r.2.aw)):=by
 refine en func108 ntmps108 Aa λw Z=>?_;unfold Q0 at h;refine AY Aa<|Ca Aa<|ob h λr1 e3 h2=>EG [0,0] KP (GI hb hu q ([91]:Aw) r1 e3) ?_;rintro _ _ ⟨v4,rfl,rfl⟩;refine ms Aa<|Cz<|D2 (S:=(Bool×Aw×Int×(List Av)×Bool)×Value) (λσ=>Hl F hg r1 σ.1.1 σ.1.2.1 σ.1.2.2.1 σ.1.2.2.2.1 σ.1.2.2.2.2=Ad r) (λσ=>[(0,rP hb 0),(2,rB Ah),(3,rB r1.1),(19,rB σ.1.1)]) (λσ=>(DK hb σ.1.2.1 σ.1.2.2.1 σ.2 σ.1.2.2.2.2 σ.1.2.2.2.1)) ?_ ?_
 ·refine BD Aa<|wv BO<|ms Aa<|bz h2 (λhi gc=>?_) (λhi gd=>?_)
  ·refine wo hi<|ms Aa<|wo hi<|ob gc λhm gf gg=>EG [0,0] KP (GI hb v4 r1.2 ([123]:Aw) hm gf) ?_;rintro _ _ ⟨v24,rfl,rfl⟩;exact Bt hi BO<|EA Aa hi Aa<|AD<|AG (AA ((!hm.1,hm.2.fS,hm.2.aG,hm.2.aw,hm.2.aB),v24) gg (AP Aa) (sC (sC sN)))
  exact CI hi Aa<|wv (A9 hi)<|AD<|AG (AA ((Ah,r1.2.fS,r1.2.aG,r1.2.aw,r1.2.aB),v4) gd (AP Aa) (sC (sC sN)))
 rintro⟨⟨gh,hw,hx,x16,hy⟩,gi⟩ hz;refine EM ?_;replace hz:Hl F hg r1 gh hw hx x16 hy=Ad r:=hz;unfold Hl at hz;refine BG hz (λgj gl=>?_) (λgj gm=>?_)
 ·refine AY Aa<|ob gl λgp gq gr=>EG [0,0] call145 (Ab9 F hb gi (AN.mk hw hx x16 hy) gp gq) ?_;rintro _ _ ⟨gs,rfl,rfl⟩;refine Bw Aa<|A5 ?_
  cases gr
  exact AC (Dj P0 AW) (sK 3) ⟨gs,Aa,Aa⟩
 refine BQ<|AY Aa<|wv (r:=rS ([125]:Aw)) Bd<|BH Aa<|Be<|BG gm (λh9 gu=>?_) (λh9 gv=>?_)
 ·refine BD Aa<|wv (r:=rS ([93]:Aw)) Bd<|Ca Aa<|wv AJ<|wv AB<|wv (Ay 0)<|wv (CC 1 El Aa Aa)<|ms Aa<|Ca Aa<|wv AJ<|wv AB<|wv (Ay 0)<|ms Aa<|wv (D1 DP Aa (EL Aa cN) Aa)<|Dy ([(Av.mk 5 0 ([]:Aw) 0)]:List Av) A7 El G0 HK Aa ⟨cA,trivial⟩ B2 (λxe=>?_);refine ck gu λgw gx=>E0 2 El Hc Aa Aa (HJ.w 0 Aa Aa) B2 CK gw (λv37=>?_);refine wv AJ<|wv AB<|us 2 Hf Aa Aa (Dp 0 Aa) Aa Aa ?_;refine BH Aa<|ob gx λhp gy gz=>EG [2,0] KP (GI hb v37 (AN.mk hw hx (x16++([(Av.mk 5 0 ([]:Aw) 0)]:List Av)) hy) ([93]:Aw) hp gy) ?_;rintro _ _ ⟨hH,rfl,rfl⟩;refine Be<|BG gz (λg0 g1=>?_) (λg0 g2=>?_)
  ·refine Bz Aa ?_
   cases g1
   exact AC (Dj P0 AW) (sK 3) ⟨hH,Aa,Aa⟩
  refine BQ<|AT<|wv (r:=rS ([]:Aw)) Bd<|Ca Aa<|Be<|AL<|ob g2 λg3 g4 hA=>B8 (V:=Unit×Unit) 0 (λσ=>Cp (λσ=>Im hg x16 σ.1 σ.2.1 σ.2.2.1 σ.2.2.2.1 σ.2.2.2.2) σ.1 σ.2.1=Ad g3) (λσ=>[(0,rP hb 0),(2,rB Ah),(3,rB r1.1),(5,rS ([93]:Aw)),(6,Bn (Ae x16:Int)),(7,rS ([]:Aw)),(8,Bn σ.2.1.1)]) (λσ=>(DK hb σ.2.1.2.1 σ.2.1.2.2.1 σ.2.2 σ.2.1.2.2.2.2 σ.2.1.2.2.2.1)) (λσ=>σ.1) (F,(1,hp.2.fS,hp.2.aG,hp.2.aw,hp.2.aB),hH) g4 (AP Aa) (sC (sC (sS sN))) (λσ=>KW =Ad r) (λσ=>[]) (λσ=>[]) ?_ ?_
  ·rintro⟨xf,⟨h0,hI,hJ,hK,hL⟩,g5⟩ g6;refine EM ?_;obtain⟨g7,rfl,g8,h1,h3⟩:=C5 g6;replace h1:Im hg x16 h0 hI hJ hK hL=Ad g8:=h1;unfold Im at h1;refine Bl<|AL<|Bl<|AY Aa<|wv BO<|Be<|DZ Aa (JZ h9)<|B5<|AY Aa<|ob h1 λhd g9 gA=>EG [0,0] call108 (hG hb g5 (AN.mk hI hJ hK hL) hd g9) ?_;rintro _ _ ⟨hB,rfl,rfl⟩;refine wv BO<|Be<|BG gA (λgB gC=>?_) (λgB gD=>?_)
   ·refine Bz Aa<|BW<|A5<|Bj ?_;have gE:=BK gC h3 hA;refine Dc ?_
    cases gE
    exact AC (Dj P0 AW) (sK 3) ⟨hB,Aa,Aa⟩
   refine BQ<|AY Aa<|wv AJ<|wv AB<|wv (Ay 0)<|ms Aa<|ck gD λhC gF=>wv (EO 1 El G0 Aa Aa Aa (Cl hC))<|wv (Gg (k:=1) Zp Aa H6 Aa (Cl hC) Aa Aa Aa)<|NK (enc:=A7) (ys:=hd.2.aw) (y':=(Av.mk (A2 hd.2.aw (Ae x16:Int)).aa (A2 hd.2.aw (Ae x16:Int)).ay (A2 hd.2.aw (Ae x16:Int)).au h0)) (i:=1) (j:=(Ae x16:Int)) H6 Aa Aa (Cs Aa) Aa hC Aa Aa (H':=(DK hb hd.2.fS hd.2.aG hB hd.2.aB (List.set hd.2.aw (CV (Ae x16:Int)) (Av.mk (A2 hd.2.aw (Ae x16:Int)).aa (A2 hd.2.aw (Ae x16:Int)).ay (A2 hd.2.aw (Ae x16:Int)).au h0)))) Aa<|bd gF λgG gH gI=>?_;rw[← gH];refine BH Aa<|ob gI λhN gJ gK=>EG [0,0] KP (GI hb hB (AN.mk hd.2.fS hd.2.aG gG hd.2.aB) ([93]:Aw) hN gJ) ?_;rintro _ _ ⟨hO,rfl,rfl⟩;refine Be<|BG gK (λc167 gL=>?_) (λc167 gM=>?_)
   ·refine Bz Aa<|BW<|A5<|Bj ?_;have gN:=BK gL h3 hA;refine Dc ?_
    cases gN
    exact AC (Dj P0 AW) (sK 3) ⟨hO,Aa,Aa⟩
   refine BQ<|AY Aa<|ob gM λhq gO gP=>EG [0,0] KP (GI hb hO hN.2 ([44]:Aw) hq gO) ?_;rintro _ _ ⟨hP,rfl,rfl⟩;refine wv BO<|Be<|BG gP (λc175 gQ=>?_) (λc175 gR=>?_)
   ·refine Cy Aa<|BW<|A5<|Bj ?_;have gS:=BK gQ h3 hA;refine Dc ?_
    cases gS
    exact AC (Dj P0 AW) (sK 3) ⟨hP,Aa,Aa⟩
   refine Cf<|DB<|BD Aa<|ck gR λgT gU=>wv (Bg gT)<|B9 Aa ?_;have gV:=Bp gU h3;exact AG (AA (g7,(h0+1,hq.2.fS,hq.2.aG,hq.2.aw,hq.2.aB),hP) ⟨gV,Aqw _⟩ (AP Aa) (sC (sC sN)))
  rintro⟨⟨⟩,⟨⟩⟩ gW
  cases gW
 refine BQ<|AY Aa<|wv AJ<|wv AB<|wv (Ay 0)<|wv (CC 1 El Aa Aa)<|ms Aa<|Ca Aa<|wv AJ<|wv AB<|wv (Ay 0)<|ms Aa<|wv (D1 DP Aa (EL Aa cN) Aa)<|Dy ([(Av.mk 6 0 ([]:Aw) 0)]:List Av) A7 El G0 HK Aa ⟨cA,trivial⟩ B2 (λxg=>?_);refine ck gv λgX gY=>E0 2 El Hc Aa Aa (HJ.w 0 Aa Aa) B2 CK gX (λgZ=>?_);refine wv AJ<|wv AB<|us 2 Hf Aa Aa (Dp 0 Aa) Aa Aa ?_;refine BH Aa<|ob gY λhr ca cb=>EG [2,0] KP (GI hb gZ (AN.mk hw hx (x16++([(Av.mk 6 0 ([]:Aw) 0)]:List Av)) hy) ([125]:Aw) hr ca) ?_;rintro _ _ ⟨hQ,rfl,rfl⟩;refine Be<|BG cb (λcc cd=>?_) (λcc ce=>?_)
 ·refine Bz Aa ?_
  cases cd
  exact AC (Dj P0 AW) (sK 3) ⟨hQ,Aa,Aa⟩
 refine BQ<|AT<|wv (r:=rS ([]:Aw)) Bd<|Ca Aa<|Be<|AL<|ob ce λcf cg h4=>B8 (V:=Unit×Unit) 0 (λσ=>Cp (λσ=>Il F hg x16 σ.1 σ.2.1 σ.2.2.1 σ.2.2.2.1 σ.2.2.2.2.1 σ.2.2.2.2.2) σ.1 σ.2.1=Ad cf) (λσ=>[(0,rP hb 0),(2,rB Ah),(3,rB r1.1),(5,rS ([125]:Aw)),(6,Bn (Ae x16:Int)),(7,rS σ.2.1.1),(8,Bn σ.2.1.2.1)]) (λσ=>(DK hb σ.2.1.2.2.1 σ.2.1.2.2.2.1 σ.2.2 σ.2.1.2.2.2.2.2 σ.2.1.2.2.2.2.1)) (λσ=>σ.1) (F,(([]:Aw),1,hr.2.fS,hr.2.aG,hr.2.aw,hr.2.aB),hQ) cg (AP Aa) (sC (sC (sS sN))) (λσ=>KV =Ad r) (λσ=>[]) (λσ=>[]) ?_ ?_
 ·rintro⟨xh,⟨hh,hj,hR,hS,hT,hU⟩,ch⟩ ci;refine EM ?_;obtain⟨cj,rfl,hD,h5,hs⟩:=C5 ci;replace h5:Il F hg x16 hh hj hR hS hT hU=Ad hD:=h5;unfold Il at h5;refine Bl<|AL<|Bl<|AY Aa<|wv BO<|Be<|G4 Aa (Jl h9)<|AY Aa<|ob h5 λha cl cm=>EG [0,0] call146 (Ade F hb ch (AN.mk hR hS hT hU) ha cl) ?_;rintro _ _ ⟨h6,rfl,rfl⟩;refine ms Aa<|wv A4<|wv A4<|ms Aa<|Cz<|D2 (S:=(Bool×Bool×Bool×Aw×Int×(List Av)×Bool)×Value) (λσ=>DI hg x16 hj ha σ.1.1 σ.1.2.1 σ.1.2.2.1 σ.1.2.2.2.1 σ.1.2.2.2.2.1 σ.1.2.2.2.2.2.1 σ.1.2.2.2.2.2.2=Ad hD) (λσ=>[(0,rP hb 0),(2,rB Ah),(3,rB r1.1),(5,rS ([125]:Aw)),(6,Bn (Ae x16:Int)),(7,rS hh),(8,Bn hj),(9,rS ha.1),(10,rB ha.2.1),(44,rB r1.1),(45,rB (!r1.1)),(46,Du [rS ha.1,rB ha.2.1]),(47,rP hb 0),(48,Du [rS ha.1,rB ha.2.1]),(49,rS ha.1),(50,rB ha.2.1),(51,rB ha.2.1),(52,rB (!ha.2.1)),(53,rB (!ha.2.1)),(61,rB σ.1.1),(62,rB σ.1.2.1),(66,rB σ.1.2.2.1)]) (λσ=>(DK hb σ.1.2.2.2.1 σ.1.2.2.2.2.1 σ.2 σ.1.2.2.2.2.2.2 σ.1.2.2.2.2.2.1)) ?_ ?_
  ·refine BD Aa<|wv BO<|ms Aa<|bz cm (λhf cn=>?_) (λhf co=>?_)
   ·exact CI hf Aa<|wu<|wu<|wu<|wf hf<|wv (Ax hf)<|ms Aa<|Ea Aa<|wv (Ax Aa)<|AD<|AG (AA ((Af,Af,Af,ha.2.2.fS,ha.2.2.aG,ha.2.2.aw,ha.2.2.aB),h6) cn (AP Aa) (sC (sC sN)))
   refine wo hf<|ms Aa<|Bt hf Cw<|wo hf<|ms Aa<|bz co (λhk cp=>?_) (λhk cq=>?_)
   ·refine wo hk<|ms Aa<|wo hk<|ms Aa<|Bt hk (AhX Aa Aa)<|wo hf<|EA Aa hk Aa<|D7 Aa hf Aa<|ms Aa<|bz cp (λhl cr=>?_) (λhl cs=>?_)
    ·exact CI hl Aa<|wv (Ax hl)<|AD<|AG (AA ((CH ha.1 hh||Br (ha.1=hh),CH ha.1 hh||Br (ha.1=hh),Af,ha.2.2.fS,ha.2.2.aG,ha.2.2.aw,ha.2.2.aB),h6) cr (AP Aa) (sC (sC sN)))
    refine wo hl<|ms Aa<|wo hl<|ob cs λhn ct cu=>EG [0,0] KP (GI hb h6 ha.2.2 ([58]:Aw) hn ct) ?_;rintro _ _ ⟨cv,rfl,rfl⟩;exact Bt hl BO<|D7 Aa hl Aa<|AD<|AG (AA ((CH ha.1 hh||Br (ha.1=hh),CH ha.1 hh||Br (ha.1=hh),!hn.1,hn.2.fS,hn.2.aG,hn.2.aw,hn.2.aB),cv) cu (AP Aa) (sC (sC sN)))
   refine CI hk Aa<|Bt hf (A9 hk)<|D7 Aa hf Aa<|ms Aa<|HP Aa<|ms Aa<|HP Aa<|ob cq λho cw cx=>EG [0,0] KP (GI hb h6 ha.2.2 ([58]:Aw) ho cw) ?_;rintro _ _ ⟨cy,rfl,rfl⟩;exact HP Aa<|wv BO<|wv (A9 Aa)<|AD<|AG (AA ((Ah,Ah,!ho.1,ho.2.fS,ho.2.aG,ho.2.aw,ho.2.aB),cy) cx (AP Aa) (sC (sC sN)))
  rintro⟨⟨cz,c0,c1,hV,hW,hX,hY⟩,c2⟩ h7;refine EM ?_;replace h7:DI hg x16 hj ha cz c0 c1 hV hW hX hY=Ad hD:=h7;unfold DI at h7;refine BG h7 (λc3 c4=>?_) (λc3 c6=>?_)
  ·refine Bz Aa<|A5<|BW<|A5<|Bj ?_;have c7:=BK c4 hs h4;refine Dc ?_
   cases c7
   exact AC (Dj P0 AW) (sK 3) ⟨c2,Aa,Aa⟩
  refine BQ<|AY Aa<|Be<|BD Aa<|wv AJ<|wv AB<|wv (Ay 0)<|ms Aa<|wv (D1 DP Aa (EL Aa (EL Aa cN)) Aa)<|Dy ([(Av.mk 4 0 ha.1 0)]:List Av) A7 El G0 HK Aa ⟨cA,trivial⟩ B2 (λc8=>?_);refine ck c6 λc9 cB=>E0 2 El Hc Aa Aa (HJ.w 0 Aa Aa) B2 CK c9 (λcC=>?_);refine wv AJ<|wv AB<|us 2 Hf Aa Aa (Dp 0 Aa) Aa Aa ?_;refine BH Aa<|ob cB λhe cD cE=>EG [2,0] call108 (hG hb cC (AN.mk hV hW (hX++([(Av.mk 4 0 ha.1 0)]:List Av)) hY) he cD) ?_;rintro _ _ ⟨h8,rfl,rfl⟩;refine wv BO<|Be<|BG cE (λcF cG=>?_) (λcF cH=>?_)
  ·refine Bz Aa<|BW<|A5<|Bj ?_;have cI:=BK cG hs h4;refine Dc ?_
   cases cI
   exact AC (Dj P0 AW) (sK 3) ⟨h8,Aa,Aa⟩
  refine BQ<|AY Aa<|wv AJ<|wv AB<|wv (Ay 0)<|ms Aa<|ck cH λhE cJ=>wv (EO 1 El G0 Aa Aa Aa (Cl hE))<|wv (Gg (k:=1) Zp Aa H6 Aa (Cl hE) Aa Aa Aa)<|NK (enc:=A7) (ys:=he.2.aw) (y':=(Av.mk (A2 he.2.aw (Ae x16:Int)).aa (A2 he.2.aw (Ae x16:Int)).ay (A2 he.2.aw (Ae x16:Int)).au hj)) (i:=1) (j:=(Ae x16:Int)) H6 Aa Aa (Cs Aa) Aa hE Aa Aa (H':=[.blk hb [rS he.2.fS,Bn he.2.aG,rv h8,rB he.2.aB] 149,.row h8 77 4 (BP A7 (List.set he.2.aw (CV (Ae x16:Int)) (Av.mk (A2 he.2.aw (Ae x16:Int)).aa (A2 he.2.aw (Ae x16:Int)).ay (A2 he.2.aw (Ae x16:Int)).au hj))),.row (.slice (Ad ⟨c8,0,Ai⟩) 1 1) 77 4 (BP A7 ([(Av.mk 4 0 ha.1 0)]:List Av))]) Aa<|bd cJ λcK cL cM=>?_;rw[← cL];refine BH Aa<|ob cM λhZ cO cP=>EG [0,0] KP (GI hb h8 (AN.mk he.2.fS he.2.aG cK he.2.aB) ([125]:Aw) hZ cO) ?_;rintro _ _ ⟨ga,rfl,rfl⟩;refine Be<|BG cP (λcQ cR=>?_) (λcQ cS=>?_)
  ·refine Bz Aa<|BW<|A5<|Bj ?_;have cT:=BK cR hs h4;refine Dc ?_
   cases cT
   exact AC (Dj P0 AW) (sK 3) ⟨ga,Aa,Aa⟩
  refine BQ<|AY Aa<|ob cS λht cU cV=>EG [0,0] KP (GI hb ga hZ.2 ([44]:Aw) ht cU) ?_;rintro _ _ ⟨gb,rfl,rfl⟩;refine wv BO<|Be<|BG cV (λcW cX=>?_) (λcW cY=>?_)
  ·refine Cy Aa<|BW<|A5<|Bj ?_;have cZ:=BK cX hs h4;refine Dc ?_
   cases cZ
   exact AC (Dj P0 AW) (sK 3) ⟨gb,Aa,Aa⟩
  refine Cf<|DB<|BD Aa<|ck cY λxa xb=>wv (Bg xa)<|B9 Aa ?_;have xc:=Bp xb hs;exact AG (AA (cj,(ha.1,hj+1,ht.2.fS,ht.2.aG,ht.2.aw,ht.2.aB),gb) ⟨xc,Aqw _⟩ (AP Aa) (sC (sC (sS sN))))
 rintro⟨⟨⟩,⟨⟩⟩ xd
 cases xd
theorem SF:∀F:Nat,(∀(ha:Nat) (hb:Value) (q:AN) (r:Bool×AN),DT F q=Ad r→FN 108 [rP ha 0] (DK ha q.fS q.aG hb q.aB q.aw) (λR H=>∃w0_2:Value,R=rB r.1∧H=(DK ha r.2.fS r.2.aG w0_2 r.2.aB r.2.aw)))
  | 0=>(λ_ _ _ _ h=>by simp[DT] at h)
  | nn+1=>(λha hb q r h=>Ab7 nn (DT nn) (SF nn) ha hb q r (by rw[DT] at h;exact h))
theorem Ae7 (F ha:Nat)(hb:Value)(q:AN)(r:Bool×AN)(h:DT F q=Ad r):FN 108 [rP ha 0] (DK ha q.fS q.aG hb q.aB q.aw) (λR H=>∃w0_2:Value,R=rB r.1∧H=(DK ha r.2.fS r.2.aG w0_2 r.2.aB r.2.aw)):=(SF F) ha hb q r h
theorem Wt (F:Nat)(s:Aw)(r:(List Av)×Int)(h:OB F s=Ad r):FN 77 [rS s] [] (PO (Du (Eg r.1 r.2))):=en func77 ntmps77 Aa λw Z=>AY Aa<|BH Aa<|wv B6<|wv Cw<|Be<|BG h (λc1 h2=>Bz Aa<|WK.up (d:=2) (r:=Cg 4 (BP A7 ([]:List Av))) Aa (Up.le (If.nil _))<|cs h2▸Ki AjY ⟨Aa,Aa⟩) λc1 h3=>BQ<|AY Aa<|wv (D1 AjC Aa (EL Aa cN) Aa)<|Dd Aa Aa λb4=>ms Aa<|Cz<|D2 (S:=(Bool×Aw×Int×(List Av)×Bool)×Value) (λσ=>KX F σ.1.1 σ.1.2.1 σ.1.2.2.1 σ.1.2.2.2.1 σ.1.2.2.2.2=Ad r) (λσ=>[(2,rv (.slice Ai 0 0)),(3,Bn 0),(4,rP b4 0),(22,rB σ.1.1)]) (λσ=>(DK b4 σ.1.2.1 σ.1.2.2.1 σ.2 σ.1.2.2.2.2 σ.1.2.2.2.1)) (by refine BD Aa<|WL.nilrow (e:=77) (sz:=4)<|ob h3 λhb hf hg=>EG [1,0] call108 (Ae7 F b4 (.slice Ai 0 0                                                                             ) (AN.mk s 0 ([]:List Av) Ah) hb hf) ?_;rintro _ _ ⟨v21,rfl,rfl⟩;exact wv BO<|ms Aa<|bz hg (λha hh=>CI ha Aa<|wv (Ax ha)<|AD<|AG (AA ((Af,hb.2.fS,hb.2.aG,hb.2.aw,hb.2.aB),v21) hh (AP Aa) (sC (sC sN)))) λha hi=>wo ha<|ms Aa<|Bt ha AJ<|Bt ha AB<|Bt ha (Ay 0)<|wo ha<|ms Aa<|Bt ha B6<|Bt ha BU<|D7 Aa ha Aa<|AD<|AG (AA ((!Br (hb.2.aG=(Ae s:Int)),hb.2.fS,hb.2.aG,hb.2.aw,hb.2.aB),v21) hi (AP Aa) (sC (sC sN))))<|by rintro⟨⟨hj,hk,hl,he,hm⟩,hx⟩ hd;refine EM ?_;exact have hd:KX F hj hk hl he hm=Ad r:=hd;BG hd (λhn ho=>Bz Aa<|WK.up (d:=2) (r:=Cg 4 (BP A7 ([]:List Av))) Aa (Up.le (If.nil _))<|cs ho▸AC (Eb AjY AW AW) (sK 0) ⟨Aa,Aa⟩) λhn hp=>B5<|AY Aa<|wv AJ<|wv AB<|wv (Ay 0)<|Be<|BG hp (λhq hr=>Bz Aa<|WK.up (d:=2) (r:=Cg 4 (BP A7 ([]:List Av))) Aa (Up.le (If.nil _))<|cs hr▸AC (Eb AjY AW AW) (sK 0) ⟨Aa,Aa⟩) λhq hs=>BQ<|AY Aa<|wv AJ<|wv AB<|wv (Ay 0)<|WL.freeze (i:=1) Aa<|WL.up (d:=30) Aa (Up.fact 0 Aa)<|ob hs λht hu hw=>CS call109 (AbB F he ht hu)<|wv A4<|wv A4<|Bw Aa<|cs hw▸AC (Eb AjY AW AW) (sK 0) ⟨Aa,Aa⟩
end Go.Proofs.YtiddaamglmmnaaaGreatDoor.Q
namespace Go.Proofs.YtiddaamglmmnaaaGreatDoor
open Go
set_option linter.unusedVariables false
def NP (a b:(List Av))(ha:Int):Option (Stp Int (Out Bool Unit)):=
 By (Ac (ha<(Ae a:Int))) (Bc (CE ha (Ae a:Int))<|Bc (CE ha (Ae b:Int))<|By (!(Ac ((A2 a ha).aa=(A2 b ha).aa)&&Ac ((A2 a ha).ay=(A2 b ha).ay)&&Ac ((A2 a ha).au=(A2 b ha).au)&&Ac ((A2 a ha).fN=(A2 b ha).fN))) (Ad (.out (.ret Ah))) (Bc (BJ .i64 (ha+1))<|some (.next (ha+1)))) (Ad (.out (.go ())))
def Q9 :Option Bool:=
 Ad Af
def LA (F:Nat)(a b:(List Av)):Option Bool:=
 By (!Ac ((Ae a:Int)=(Ae b:Int))) (Ad Ah) (BB (Cp (λσ=>NP a b σ) F 0) (Cb λν=>Q9 ))
end Go.Proofs.YtiddaamglmmnaaaGreatDoor
namespace Go.Proofs.YtiddaamglmmnaaaGreatDoor.Q
open Go Go.RowKit
set_option linter.unusedVariables false
set_option linter.unusedSimpArgs false
set_option maxRecDepth 100000
set_option maxHeartbeats 4000000
theorem AjJ {a0 b0 a1 b1:Int}{a2 b2:Aw}{a3 b3:Int}(w:World):(Op.equalIn 10000 77 (.agg #[.int .i64 a0,.int .i64 a1,.string (B a2),.int .i64 a3]) (.agg #[.int .i64 b0,.int .i64 b1,.string (B b2),.int .i64 b3])).run prog w = .ok (Br (a0=b0)&&Br (a1=b1)&&Br (a2=b2)&&Br (a3=b3)) w:=by
  have hS:prog.underlying 77=Ad (.struct (prog.fieldsOf 77)):=Ak
  have hp:prog.stoodInHeld 77=Ah:=Ak
  have u3:=S7;have ia3:=Kh;have so3:=H6;have u9:=GB;have ia9:=Gb;have so9:=DS;have ha:=underlying75;have hb:=isAgg75;have hd:=AjT;rw[show(10000:Nat)=9999+1 from rfl,run_equalIn_agg w 9999 77 _ _ hS hp];simp only[Program.fieldsOf,Zp]
  go_simp
  simp only[Ke]
  by_cases h0:a0=b0<;>by_cases h1:a1=b1<;>by_cases h2:a2=b2<;>by_cases h3:a3=b3<;>simp[h0,h1,h2,h3]
theorem Aax {n:Nat}{c:Cx}{l:Fr}{H:List Ent}{d:Option Nat}{ty rty:TypeId}{pos:String}{af:Array Edge}{g:Option (Nat×Bool)}{x y:Operand}{a0 b0 a1 b1:Int}{a2 b2:Aw}{a3 b3:Int}(hx:ev l x=Ad (Dr [Bn a0,Bn a1,rS a2,Bn a3]))(hy:ev l y=Ad (Dr [Bn b0,Bn b1,rS b2,Bn b3])):Ck prog n c l H { dst:=d,op:=.binOp .neq 77 x y rty,type:=ty,pos:=pos,after:=af,guard:=g } (rB (!(Br (a0=b0)&&Br (a1=b1)&&Br (a2=b2)&&Br (a3=b3)))):=λa w Z ha hw=>by
  obtain⟨us,e1,q1⟩:=ha.ev hx;obtain⟨vs,e2,q2⟩:=ha.ev hy;have k1:=BM.eq_rv (us:=[.int .i64 a0,.int .i64 a1,.string (B a2),.int .i64 a3]) q1;have k2:=BM.eq_rv (us:=[.int .i64 b0,.int .i64 b1,.string (B b2),.int .i64 b3]) q2;subst k1;subst k2;have hm:prog.eqGuardType prog.depth 77=Ah:=Ak
  have hb:=AjJ (a0:=a0) (a1:=a1) (a2:=a2) (a3:=a3) (b0:=b0) (b1:=b1) (b2:=b2) (b3:=b3) w;refine⟨.bool (!(Br (a0=b0)&&Br (a1=b1)&&Br (a2=b2)&&Br (a3=b3))),rfl,?_⟩;have hg:=run_eqGuard_agg (P:=prog) w .neq 77 x y #[.int .i64 a0,.int .i64 a1,.string (B a2),.int .i64 a3] #[.int .i64 b0,.int .i64 b1,.string (B b2),.int .i64 b3] hm;simp only[execOp,e1,e2,Sem.run_bind,hg,Result.andThen_ok,run_neq_struct,hb,Sem.run_pure]
theorem T6 (F:Nat)(a b:(List Av))(r:Bool)(h:LA F a b=Ad r):FN 11 [Cg 4 (BP A7 a),Cg 4 (BP A7 b)] [] (PO (rB r)):=en func11 ntmps11 Aa λw Z=>AY Aa<|BH Aa<|wv B1<|ms Aa<|wv B1<|wv BU<|Be<|BG h (λc1 h2=>Bz Aa<|cs h2▸Gd results11 ⟨Aa,Aa⟩) λc1 h3=>B5<|AY Aa<|Be<|AL<|ob h3 λhg hh he=>B8 (V:=Unit×Unit) 0 (λσ=>Cp (λσ=>NP a b σ) σ.1 σ.2.1=Ad hg) (λσ=>[(0,Cg 4 (BP A7 a)),(1,Cg 4 (BP A7 b)),(5,Bn σ.2.1)]) (λσ=>[]) (λσ=>σ.1) (F,0,()) hh (AP Aa) sN (λσ=>Q9 =Ad r) (λσ=>[]) (λσ=>[]) (by rintro⟨h1,hf,⟨⟩⟩ hi;refine EM ?_;obtain⟨hj,rfl,hk,hb,hd⟩:=C5 hi;have hb:NP a b hf=Ad hk:=hb;exact Bl<|AY Aa<|wv B1<|wv BS<|Be<|BG hb (λhl hm=>by refine B5<|AL<|Bl<|ck hm λhn ho=>ck ho λhp hq=>Et [0,1,5] ?_;refine rq AS<|rq AS<|rq (Bh hn)<|rq Dq<|rq AS<|rq AS<|rq (Bh hp)<|rq Dq<|rq (Aax Aa Aa)<|re [17,18,19,20,21,22,23,24,25,0,1,5] ?_;exact CL<|BG hq (λhr hs=>Cy Aa<|BW<|A5<|Bj<|have ht:=BK hs hd he;BW<|cs ht▸Gd results11 ⟨Aa,Aa⟩) λhr hu=>Cf<|DB<|BD Aa<|ck hu λhw hx=>wv (Bg hw)<|B9 Aa<|have hy:=Bp hx hd;AG (AA (hj,hf+1,()) ⟨hy,Aqw _⟩ (AP Aa) sN)) λhl hz=>BE<|A3<|have h0:=Ci hz hd he;A3 (Bk (AA ((),()) h0 Hj.nil sN)))<|by rintro⟨⟨⟩,⟨⟩⟩ ha;refine Hb ?_;exact have ha:Q9 =Ad r:=ha;by unfold Q9 at ha;exact Bo<|CL<|Cy Aa<|cs ha▸Gd results11 ⟨Aa,Aa⟩
end Go.Proofs.YtiddaamglmmnaaaGreatDoor.Q
namespace Go.Proofs.YtiddaamglmmnaaaGreatDoor
open Go
set_option linter.unusedVariables false
def UL (F:Nat)(v:(List Av)):Option ((List Av)×Int):=
 BB (NZ F v) λr1=>By (!Ac (r1=0)) (Ad (([]:List Av),r1)) (Ad (v,0))
def ZX :Option ((List Av)):=
 Ad ([(Av.mk 1 0 ([]:Aw) 0)]:List Av)
def UO (b:Bool):Option ((List Av)):=
 By b (Ad ([(Av.mk 2 1 ([]:Aw) 0)]:List Av)) (Ad ([(Av.mk 2 0 ([]:Aw) 0)]:List Av))
def Cv (s:Aw)(at_:Int)(word:Aw):Option Bool:=
 Bc (BJ .i64 (at_+(Ae word:Int)))<|Bc (imp (Ac ((at_+(Ae word:Int))≤(Ae s:Int))) (Gk at_ (at_+(Ae word:Int))))<|Bc (imp (Ac ((at_+(Ae word:Int))≤(Ae s:Int))) (Gk (at_+(Ae word:Int)) (Ae s:Int)))<|some ((Ac ((at_+(Ae word:Int))≤(Ae s:Int)))&&(Ac ((Aq (Ao (at_+(Ae word:Int))-Ao at_) (Ap (Ao at_) s))=word)))
def E1 (s hb:Aw)(ha:Int):Option (Stp (Aw×Int) (Out (Aw×Int) (Aw×Int))):=
 Bc (imp (Ac (ha<(Ae s:Int))) (CE ha (Ae s:Int)))<|By (((Ac (ha<(Ae s:Int)))&&(!Ac ((BA s ha)=34)))) (Bc (CE ha (Ae s:Int))<|By (Ac ((BA s ha)=92)) (Bc (BJ .i64 (ha+1))<|Bc (imp (!(Ac ((Ae s:Int)≤(ha+1)))) (CE (ha+1) (Ae s:Int)))<|By (((Ac ((Ae s:Int)≤(ha+1)))||((!Ac ((BA s (ha+1))=34))&&(!Ac ((BA s (ha+1))=92))))) (Ad (.out (.ret (([]:Aw),(-1))))) (Bc (BJ .i64 ((ha+1)+1))<|Bc (Gk (ha+1) ((ha+1)+1))<|Bc (Gk ((ha+1)+1) (Ae s:Int))<|Bc (BJ .i64 ((hb.length:Int)+(Ae (Aq (Ao ((ha+1)+1)-Ao (ha+1)) (Ap (Ao (ha+1)) s)):Int)))<|some (.next (hb++(Aq (Ao ((ha+1)+1)-Ao (ha+1)) (Ap (Ao (ha+1)) s)),(ha+1)+1)))) (Bc (BJ .i64 (ha+1))<|Bc (Gk ha (ha+1))<|Bc (Gk (ha+1) (Ae s:Int))<|Bc (BJ .i64 ((hb.length:Int)+(Ae (Aq (Ao (ha+1)-Ao ha) (Ap (Ao ha) s)):Int)))<|some (.next (hb++(Aq (Ao (ha+1)-Ao ha) (Ap (Ao ha) s)),ha+1)))) (Ad (.out (.go (hb,ha))))
def ER (s hb:Aw)(ha:Int):Option (Aw×Int):=
 By (Ac ((Ae s:Int)≤ha)) (Ad (([]:Aw),(-1))) (Bc (BJ .i64 (ha+1))<|some (hb,ha+1))
def Gn (F:Nat)(s:Aw)(at_:Int):Option (Aw×Int):=
 Bc (imp (!(Ac ((Ae s:Int)≤at_))) (CE at_ (Ae s:Int)))<|By (((Ac ((Ae s:Int)≤at_))||(!Ac ((BA s at_)=34)))) (Ad (([]:Aw),(-1))) (Bc (BJ .i64 (at_+1))<|BB (Cp (λσ=>E1 s σ.1 σ.2) F (([]:Aw),at_+1)) (Cb λν=>ER s ν.1 ν.2))
def JM (s:Aw)(at_ ha hb:Int):Option (Stp (Int×Int) (Out ((List Av)×Int) (Int×Int))):=
 Bc (imp (Ac (ha<(Ae s:Int))) (CE ha (Ae s:Int)))<|By (((Ac (ha<(Ae s:Int)))&&((Ac (48≤(BA s ha)))&&(Ac ((BA s ha)≤57))))) (Bc (BJ .i64 (ha-(at_+1)))<|By (Ac ((ha-(at_+1))<18)) (Bc (BJ .i64 (10*hb))<|Bc (CE ha (Ae s:Int))<|Bc (BJ .u8 ((BA s ha)-48))<|Bc (BJ .i64 ((BA s ha)-48))<|Bc (BJ .i64 ((10*hb)+((BA s ha)-48)))<|Bc (BJ .i64 (ha+1))<|some (.next (ha+1,(10*hb)+((BA s ha)-48)))) (Bc (BJ .i64 (ha+1))<|some (.next (ha+1,hb)))) (Ad (.out (.go (ha,hb))))
def JK (s:Aw)(at_ ha hb:Int):Option ((List Av)×Int):=
 Bc (imp (!(Ac (ha=(at_+1)))) (CE (at_+1) (Ae s:Int)))<|Bc (imp (!(Ac (ha=(at_+1)))) (imp (Ac ((BA s (at_+1))=48)) (BJ .i64 ((at_+1)+1))))<|By (((Ac (ha=(at_+1)))||((Ac ((BA s (at_+1))=48))&&((Ac (((at_+1)+1)<ha))||(Ac (at_<(at_+1))))))) (Ad (([]:List Av),(-1))) (Bc (BJ .i64 (ha-(at_+1)))<|By (Ac (18<(ha-(at_+1)))) (By (Ac (at_<(at_+1))) (Bc (BJ .i64 (-2000000000000))<|some (([(Av.mk 3 (-2000000000000) ([]:Aw) 0)]:List Av),ha)) (Ad (([(Av.mk 3 2000000000000 ([]:Aw) 0)]:List Av),ha))) (By (Ac (at_<(at_+1))) (Bc (BJ .i64 (-hb))<|some (([(Av.mk 3 (-hb) ([]:Aw) 0)]:List Av),ha)) (Ad (([(Av.mk 3 hb ([]:Aw) 0)]:List Av),ha))))
def JL (s:Aw)(at_ ha hb:Int):Option (Stp (Int×Int) (Out ((List Av)×Int) (Int×Int))):=
 Bc (imp (Ac (ha<(Ae s:Int))) (CE ha (Ae s:Int)))<|By (((Ac (ha<(Ae s:Int)))&&((Ac (48≤(BA s ha)))&&(Ac ((BA s ha)≤57))))) (Bc (BJ .i64 (ha-at_))<|By (Ac ((ha-at_)<18)) (Bc (BJ .i64 (10*hb))<|Bc (CE ha (Ae s:Int))<|Bc (BJ .u8 ((BA s ha)-48))<|Bc (BJ .i64 ((BA s ha)-48))<|Bc (BJ .i64 ((10*hb)+((BA s ha)-48)))<|Bc (BJ .i64 (ha+1))<|some (.next (ha+1,(10*hb)+((BA s ha)-48)))) (Bc (BJ .i64 (ha+1))<|some (.next (ha+1,hb)))) (Ad (.out (.go (ha,hb))))
def JJ (s:Aw)(at_ ha hb:Int):Option ((List Av)×Int):=
 Bc (imp (!(Ac (ha=at_))) (imp (Ac ((BA s at_)=48)) (BJ .i64 (at_+1))))<|By (((Ac (ha=at_))||((Ac ((BA s at_)=48))&&((Ac ((at_+1)<ha))||(Ac (at_<at_)))))) (Ad (([]:List Av),(-1))) (Bc (BJ .i64 (ha-at_))<|By (Ac (18<(ha-at_))) (By (Ac (at_<at_)) (Bc (BJ .i64 (-2000000000000))<|some (([(Av.mk 3 (-2000000000000) ([]:Aw) 0)]:List Av),ha)) (Ad (([(Av.mk 3 2000000000000 ([]:Aw) 0)]:List Av),ha))) (By (Ac (at_<at_)) (Bc (BJ .i64 (-hb))<|some (([(Av.mk 3 (-hb) ([]:Aw) 0)]:List Av),ha)) (Ad (([(Av.mk 3 hb ([]:Aw) 0)]:List Av),ha))))
def NR (F:Nat)(s:Aw)(at_:Int):Option ((List Av)×Int):=
 Bc (CE at_ (Ae s:Int))<|By (Ac ((BA s at_)=45)) (Bc (BJ .i64 (at_+1))<|BB (Cp (λσ=>JM s at_ σ.1 σ.2) F (at_+1,0)) (Cb λν=>JK s at_ ν.1 ν.2)) (BB (Cp (λσ=>JL s at_ σ.1 σ.2) F (at_,0)) (Cb λν=>JJ s at_ ν.1 ν.2))
def AbL (F:Nat)(he:Aw→Int→Option ((List Av)×Int))(s:Aw)(at_:Int):Option ((List Av)×Int):=
 By (Ac ((Ae s:Int)≤at_)) (Ad (([]:List Av),(-1))) (BB (Cv s at_ ([110,117,108,108]:Aw)) λr4=>By r4 (BB ZX λr9=>Bc (BJ .i64 (at_+4))<|some (r9,at_+4)) (BB (Cv s at_ ([116,114,117,101]:Aw)) λhf=>By hf (BB (UO Af) λhg=>Bc (BJ .i64 (at_+4))<|some (hg,at_+4)) (BB (Cv s at_ ([102,97,108,115,101]:Aw)) λhh=>By hh (BB (UO Ah) λhi=>Bc (BJ .i64 (at_+5))<|some (hi,at_+5)) (Bc (CE at_ (Ae s:Int))<|By (Ac ((BA s at_)=34)) (BB (Gn F s at_) λha=>Ad (([(Av.mk 4 0 ha.1 0)]:List Av),ha.2)) (By (((Ac ((BA s at_)=91))||(Ac ((BA s at_)=123)))) (BB (he s at_) λhb=>Ad (hb.1,hb.2)) (BB (NR F s at_) λhd=>Ad (hd.1,hd.2)))))))
def MZ (F:Nat)(s:Aw)(hh:Aw→Int→Option ((List Av)×Int))(hg:(List Av))(hb:Int)(ha:Av):Option (Stp ((List Av)×Int×Av) (Out ((List Av)×Int) ((List Av)×Int×Av))):=
 Bc (Cv s hb ([125]:Aw)).isSome<|Bc (imp (!(!(ov (Cv s hb ([125]:Aw))))) (imp (Ac (0<ha.fN)) (BJ .i64 (hb-1))))<|Bc (imp (!(!(ov (Cv s hb ([125]:Aw))))) (imp (Ac (0<ha.fN)) (CE (hb-1) (Ae s:Int))))<|By (((!(ov (Cv s hb ([125]:Aw))))||((Ac (0<ha.fN))&&(Ac ((BA s (hb-1))=44))))) (By (Ac (ha.aa=6)) (BB (Gn F s hb) λhd=>Bc (imp (!(Ac (hd.2<0))) (Cv s hd.2 ([58]:Aw)).isSome)<|By (((Ac (hd.2<0))||(!(ov (Cv s hd.2 ([58]:Aw)))))) (Ad (.out (.ret (([]:List Av),(-1))))) (Bc (De 40 (hg.length+Ae ([(Av.mk 4 0 hd.1 0)]:List Av)))<|Bc (BJ .i64 (hd.2+1))<|BB (hh s (hd.2+1)) λhe=>By (Ac (he.2<0)) (Ad (.out (.ret (([]:List Av),(-1))))) (Bc (De 40 (Ae (hg++([(Av.mk 4 0 hd.1 0)]:List Av))+he.1.length))<|Bc (BJ .i64 (ha.fN+1))<|BB (Cv s he.2 ([44]:Aw)) λhi=>By hi (Bc (BJ .i64 (he.2+1))<|some (.next ((hg++([(Av.mk 4 0 hd.1 0)]:List Av))++he.1,he.2+1,(Av.mk ha.aa ha.ay ha.au (ha.fN+1))))) (BB (Cv s he.2 ([125]:Aw)) λhj=>By (!hj) (Ad (.out (.ret (([]:List Av),(-1))))) (Ad (.next ((hg++([(Av.mk 4 0 hd.1 0)]:List Av))++he.1,he.2,(Av.mk ha.aa ha.ay ha.au (ha.fN+1))))))))) (BB (hh s hb) λhf=>By (Ac (hf.2<0)) (Ad (.out (.ret (([]:List Av),(-1))))) (Bc (De 40 (hg.length+hf.1.length))<|Bc (BJ .i64 (ha.fN+1))<|BB (Cv s hf.2 ([44]:Aw)) λhk=>By hk (Bc (BJ .i64 (hf.2+1))<|some (.next (hg++hf.1,hf.2+1,(Av.mk ha.aa ha.ay ha.au (ha.fN+1))))) (BB (Cv s hf.2 ([125]:Aw)) λhl=>By (!hl) (Ad (.out (.ret (([]:List Av),(-1))))) (Ad (.next (hg++hf.1,hf.2,(Av.mk ha.aa ha.ay ha.au (ha.fN+1))))))))) (Ad (.out (.go (hg,hb,ha))))
def K3 (ha:(List Av))(hb:Int)(hd:Av):Option ((List Av)×Int):=
 Bc (De 40 (Ae ([hd]:List Av)+ha.length))<|Bc (BJ .i64 (hb+1))<|some (([hd]:List Av)++ha,hb+1)
def MY (F:Nat)(s:Aw)(hh:Aw→Int→Option ((List Av)×Int))(hg:(List Av))(hb:Int)(ha:Av):Option (Stp ((List Av)×Int×Av) (Out ((List Av)×Int) ((List Av)×Int×Av))):=
 Bc (Cv s hb ([93]:Aw)).isSome<|Bc (imp (!(!(ov (Cv s hb ([93]:Aw))))) (imp (Ac (0<ha.fN)) (BJ .i64 (hb-1))))<|Bc (imp (!(!(ov (Cv s hb ([93]:Aw))))) (imp (Ac (0<ha.fN)) (CE (hb-1) (Ae s:Int))))<|By (((!(ov (Cv s hb ([93]:Aw))))||((Ac (0<ha.fN))&&(Ac ((BA s (hb-1))=44))))) (By (Ac (ha.aa=6)) (BB (Gn F s hb) λhd=>Bc (imp (!(Ac (hd.2<0))) (Cv s hd.2 ([58]:Aw)).isSome)<|By (((Ac (hd.2<0))||(!(ov (Cv s hd.2 ([58]:Aw)))))) (Ad (.out (.ret (([]:List Av),(-1))))) (Bc (De 40 (hg.length+Ae ([(Av.mk 4 0 hd.1 0)]:List Av)))<|Bc (BJ .i64 (hd.2+1))<|BB (hh s (hd.2+1)) λhe=>By (Ac (he.2<0)) (Ad (.out (.ret (([]:List Av),(-1))))) (Bc (De 40 (Ae (hg++([(Av.mk 4 0 hd.1 0)]:List Av))+he.1.length))<|Bc (BJ .i64 (ha.fN+1))<|BB (Cv s he.2 ([44]:Aw)) λhi=>By hi (Bc (BJ .i64 (he.2+1))<|some (.next ((hg++([(Av.mk 4 0 hd.1 0)]:List Av))++he.1,he.2+1,(Av.mk ha.aa ha.ay ha.au (ha.fN+1))))) (BB (Cv s he.2 ([93]:Aw)) λhj=>By (!hj) (Ad (.out (.ret (([]:List Av),(-1))))) (Ad (.next ((hg++([(Av.mk 4 0 hd.1 0)]:List Av))++he.1,he.2,(Av.mk ha.aa ha.ay ha.au (ha.fN+1))))))))) (BB (hh s hb) λhf=>By (Ac (hf.2<0)) (Ad (.out (.ret (([]:List Av),(-1))))) (Bc (De 40 (hg.length+hf.1.length))<|Bc (BJ .i64 (ha.fN+1))<|BB (Cv s hf.2 ([44]:Aw)) λhk=>By hk (Bc (BJ .i64 (hf.2+1))<|some (.next (hg++hf.1,hf.2+1,(Av.mk ha.aa ha.ay ha.au (ha.fN+1))))) (BB (Cv s hf.2 ([93]:Aw)) λhl=>By (!hl) (Ad (.out (.ret (([]:List Av),(-1))))) (Ad (.next (hg++hf.1,hf.2,(Av.mk ha.aa ha.ay ha.au (ha.fN+1))))))))) (Ad (.out (.go (hg,hb,ha))))
def K2 (ha:(List Av))(hb:Int)(hd:Av):Option ((List Av)×Int):=
 Bc (De 40 (Ae ([hd]:List Av)+ha.length))<|Bc (BJ .i64 (hb+1))<|some (([hd]:List Av)++ha,hb+1)
def MX (F:Nat)(ha:Aw→Int→Option ((List Av)×Int))(s:Aw)(at_:Int):Option ((List Av)×Int):=
 Bc (CE at_ (Ae s:Int))<|By (Ac ((BA s at_)=123)) (Bc (BJ .i64 (at_+1))<|BB (Cp (λσ=>MZ F s ha σ.1 σ.2.1 σ.2.2) F (([]:List Av),at_+1,(Av.mk 6 0 ([]:Aw) 0))) (Cb λν=>K3 ν.1 ν.2.1 ν.2.2)) (Bc (BJ .i64 (at_+1))<|BB (Cp (λσ=>MY F s ha σ.1 σ.2.1 σ.2.2) F (([]:List Av),at_+1,(Av.mk 5 0 ([]:Aw) 0))) (Cb λν=>K2 ν.1 ν.2.1 ν.2.2))
mutual
def Ks:Nat→Aw→Int→Option ((List Av)×Int)
 | 0,_,_=>Ai
 | nn+1,s,at_=>AbL nn (G5 nn) s at_
def G5:Nat→Aw→Int→Option ((List Av)×Int)
 | 0,_,_=>Ai
 | nn+1,s,at_=>MX nn (Ks nn) s at_
end
def QI (F:Nat)(s:Aw):Option ((List Av)×Int):=
 By (Ac (4000<(Ae s:Int))) (Ad (([]:List Av),3)) (BB (Ks F s 0) λr4=>By (!Ac (r4.2=(Ae s:Int))) (Ad (([]:List Av),1)) (BB (UL F r4.1) λha=>Ad (ha.1,ha.2)))
end Go.Proofs.YtiddaamglmmnaaaGreatDoor
namespace Go.Proofs.YtiddaamglmmnaaaGreatDoor.Q
open Go Go.RowKit
set_option linter.unusedVariables false
set_option linter.unusedSimpArgs false
set_option maxRecDepth 100000
set_option maxHeartbeats 4000000
theorem AbX (F:Nat)(v:(List Av))(r:(List Av)×Int)(h:UL F v=Ad r):FN 154 (J8 v) [] (PO (Du (Eg r.1 r.2))):=en func154 ntmps154 Aa λw Z=>AY Aa<|Ca Aa<|ob h λr1 e3 h2=>CS AgK (NY F v r1 e3)<|ms Aa<|BH Aa<|wv BU<|Be<|BG h2 (λc4 h5=>Bz Aa<|WK.up (d:=2) (r:=Cg 4 (BP A7 ([]:List Av))) Aa (Up.le (If.nil _))<|cs h5▸Ki results154 ⟨Aa,Aa⟩) λc4 h6=>BQ<|Cy Aa<|cs h6▸Ki results154 ⟨Aa,Aa⟩
theorem AkB (r:(List Av))(h:ZX=Ad r):FN 181 [] [] (PO (Cg 4 (BP A7 r))):=en func181 ntmps181 Aa λw Z=>by unfold ZX at h;exact AY Aa<|Dt<|wv (D1 DP Aa (EL Aa cN) Aa)<|Dy ([(Av.mk 1 0 ([]:Aw) 0)]:List Av) A7 El G0 HK Aa ⟨cA,trivial⟩ B2 λb1=>Bw Aa<|WK.freeze (i:=0) Aa<|WK.up (d:=0) Aa (Up.fact 0 Aa)<|cs h▸AC (Dj results181 AW) (sS sN) ⟨Aa,Aa⟩
theorem Adu (b:Bool)(r:(List Av))(h:UO b=Ad r):FN 182 [rB b] [] (PO (Cg 4 (BP A7 r))):=en func182 ntmps182 Aa λw Z=>AY Aa<|BH Aa<|Be<|BG h (λc1 h2=>AT<|wv (D1 DP Aa (EL Aa (EL Aa cN)) Aa)<|Dy ([(Av.mk 2 1 ([]:Aw) 0)]:List Av) A7 El G0 HK Aa ⟨cA,trivial⟩ B2 λb3=>Bw Aa<|A5<|WK.freeze (i:=0) Aa<|WK.up (d:=2) Aa (Up.fact 0 Aa)<|cs h2▸AC (Dj results182 AW) (sS sN) ⟨Aa,Aa⟩) λc1 h4=>BQ<|AT<|wv (D1 DP Aa (EL Aa cN) Aa)<|Dy ([(Av.mk 2 0 ([]:Aw) 0)]:List Av) A7 El G0 HK Aa ⟨cA,trivial⟩ B2 λb5=>Bw Aa<|WK.freeze (i:=0) Aa<|WK.up (d:=2) Aa (Up.fact 0 Aa)<|cs h4▸AC (Dj results182 AW) (sS sN) ⟨Aa,Aa⟩
theorem En (s:Aw)(at_:Int)(word:Aw)(r:Bool)(h:Cv s at_ word=Ad r):FN 180 [rS s,Bn at_,rS word] [] (PO (rB r)):=en func180 ntmps180 Aa λw Z=>AY Aa<|Be<|ck h λg1 h2=>ck h2 λg3 h4=>ck h4 λg5 h6=>AM [(6,rB ((Br ((at_+(Ae word:Int))≤(Ae s:Int)))&&(Br ((Aq (CV (at_+(Ae word:Int))-CV at_) (Ap (CV at_) s))=word))))] [] (BD Aa<|wv B6<|wv (Bg g1)<|ms Aa<|wv B6<|wv LP<|ms Aa<|Ba (Br ((at_+(Ae word:Int))≤(Ae s:Int))) (λc7=>wo c7<|ms Aa<|wo c7<|ms Aa<|wo c7<|ms Aa<|wo c7<|ms Aa<|Bt c7 B6<|Bt c7 (Bg g1)<|Bt c7 (EC GB Aa Aa Aa (C3 g3 c7) (C3 g5 c7))<|wo c7<|ms Aa<|Bt c7 Es<|EA Aa c7 Aa<|B9 Aa<|Ce c7) λc7=>CI c7 Aa<|wv (A9 c7)<|B9 Aa<|Ce c7)<|CM<|cs h6▸Gd results180 ⟨Aa,Aa⟩
theorem Ma (F:Nat)(s:Aw)(at_:Int)(r:Aw×Int)(h:Gn F s at_=Ad r):FN 183 (D8 s at_) [] (PO (Du (D8 r.1 r.2))):=en func183 ntmps183 Aa λw Z=>AT<|wv (r:=rS ([]:Aw)) Bd<|ms Aa<|Cz<|ck h λg1 h2=>AM [(0,rS s),(1,Bn at_),(17,rB ((Br ((Ae s:Int)≤at_))||(!Br ((BA s at_)=34))))] [] (BD Aa<|wv B6<|wv Gs<|ms Aa<|Ba (Br ((Ae s:Int)≤at_)) (λc3=>CI c3 Aa<|wv (Ax c3)<|AD<|Ce c3) λc3=>wo c3<|ms Aa<|wo c3<|ms Aa<|Bt c3 (B0 (CA g1 c3))<|Bt c3 BU<|D7 Aa c3 Aa<|AD<|Ce c3)<|BG h2 (λc4 h5=>AT<|wv (r:=rS ([]:Aw)) Bd<|Bw Aa<|A5<|cs h5▸Ki AcZ ⟨Aa,Aa⟩) λc4 h6=>BQ<|AT<|wv (r:=rS ([]:Aw)) Bd<|Ca Aa<|ck h6 λg7 h8=>wv (Bg g7)<|ms Aa<|Cz<|AL<|ob h8 λho hp hj=>B8 (V:=(Aw×Int)×Unit) 0 (λσ=>Cp (λσ=>E1 s σ.1 σ.2) σ.1 σ.2.1=Ad ho) (λσ=>[(0,rS s),(6,rS σ.2.1.1),(7,Bn σ.2.1.2)]) (λσ=>[]) (λσ=>σ.1) (F,(([]:Aw),at_+1),()) hp (AP Aa) sN (λσ=>ER s σ.1.1 σ.1.2=Ad r) (λσ=>[(0,rS s),(6,rS σ.1.1),(7,Bn σ.1.2)]) (λσ=>[]) (by rintro⟨gf,⟨hf,ha⟩,⟨⟩⟩ hq;refine EM ?_;obtain⟨hk,rfl,hr,hh,hg⟩:=C5 hq;have hh:E1 s hf ha=Ad hr:=hh;exact Bl<|ck hh λhs ht=>AM [(0,rS s),(6,rS hf),(7,Bn ha),(29,rB ((Br (ha<(Ae s:Int)))&&(!Br ((BA s ha)=34))))] [] (BD Aa<|wv B6<|wv BS<|ms Aa<|Ba (Br (ha<(Ae s:Int))) (λhd=>wo hd<|ms Aa<|wo hd<|ms Aa<|Bt hd (B0 (C3 hs hd))<|Bt hd BU<|EA Aa hd Aa<|AD<|Ce hd) λhd=>CI hd Aa<|wv (A9 hd)<|AD<|Ce hd)<|BG ht (λhu hw=>BQ<|AL<|Bl<|AY Aa<|ck hw λhx hy=>wv (B0 hx)<|wv Bx<|Be<|BG hy (λhz h0=>AY Aa<|ck h0 λh1 h3=>wv (Bg h1)<|CW Aa<|ck h3 λhl h4=>AM [(0,rS s),(6,rS hf),(7,Bn (ha+1)),(51,rB ((Br ((Ae s:Int)≤(ha+1)))||((!Br ((BA s (ha+1))=34))&&(!Br ((BA s (ha+1))=92)))))] [] (BD Aa<|wv B6<|wv Gs<|ms Aa<|Ba (Br ((Ae s:Int)≤(ha+1))) (λhb=>CI hb Aa<|wu<|wu<|wu<|wu<|wf hb<|wv (Ax hb)<|AD<|Ce hb) λhb=>wo hb<|ms Aa<|wo hb<|ms Aa<|Bt hb (B0 (CA hl hb))<|Bt hb BU<|wo hb<|ms Aa<|Ba (!Br ((BA s (ha+1))=34)) (λhe=>wo he<|ms Aa<|wo he<|ms Aa<|Bt he (B0 (CA hl hb))<|Bt he BU<|wo hb<|EA Aa he Aa<|D7 Aa hb Aa<|AD<|by exact Ce (CU hb he)) λhe=>CI he Aa<|Bt hb (A9 he)<|D7 Aa hb Aa<|AD<|by exact Ce (CU hb he))<|BG h4 (λh7 h9=>AT<|wv (r:=rS ([]:Aw)) Bd<|Bw Aa<|A5<|BW<|Bj<|have hA:=BK h9 hg hj;BW<|cs hA▸Ki AcZ ⟨Aa,Aa⟩) λh7 hB=>BQ<|AY Aa<|ck hB λhm hC=>wv (Bg hm)<|ck hC λhD hE=>ck hE λhG hH=>wv (EC GB Aa Aa Aa hD hG)<|ck hH λhI hJ=>wv (Dz hI)<|CW Aa<|BD Aa<|wv (Bg hm)<|B9 Aa<|Bm<|have hK:=Bp hJ hg;AG (AA (hk,(hf++(Aq (CV ((ha+1)+1)-CV (ha+1)) (Ap (CV (ha+1)) s)),(ha+1)+1),()) ⟨hK,Aqw _⟩ (AP Aa) sN)) λhz hL=>BQ<|AY Aa<|ck hL λhn hN=>wv (Bg hn)<|ck hN λhO hP=>ck hP λhQ hR=>wv (EC GB Aa Aa Aa hO hQ)<|ck hR λhS hT=>wv (Dz hS)<|CW Aa<|BD Aa<|wv (Bg hn)<|B9 Aa<|Bm<|have hU:=Bp hT hg;AG (AA (hk,(hf++(Aq (CV (ha+1)-CV ha) (Ap (CV ha) s)),ha+1),()) ⟨hU,Aqw _⟩ (AP Aa) sN)) λhu hV=>BE<|A3<|have hW:=Ci hV hg hj;A3 (Bk (AA ((hf,ha),()) hW (AP Aa) sN)))<|by rintro⟨⟨hX,hY⟩,⟨⟩⟩ hi;refine Hb ?_;exact have hi:ER s hX hY=Ad r:=hi;Bo<|CL<|Bl<|AY Aa<|wv B6<|wv Gs<|Be<|BG hi (λhZ ga=>AT<|wv (r:=rS ([]:Aw)) Bd<|Bw Aa<|A5<|cs ga▸Ki AcZ ⟨Aa,Aa⟩) λhZ gb=>BQ<|AY Aa<|ck gb λgc gd=>wv (Bg gc)<|Bw Aa<|cs gd▸Ki AcZ ⟨Aa,Aa⟩
theorem AbM (F:Nat)(s:Aw)(at_:Int)(r:(List Av)×Int)(h:NR F s at_=Ad r):FN 185 (D8 s at_) [] (PO (Du (Eg r.1 r.2))):=en func185 ntmps185 Aa λw Z=>AY Aa<|Ca Aa<|BH Aa<|ck h λg1 h2=>wv (B0 g1)<|wv Bx<|Be<|BG h2 (λc3 h4=>BD Aa<|ck h4 λg5 h6=>wv (Bg g5)<|ms Aa<|Ca Aa<|Ca Aa<|Cz<|AL<|ob h6 λh7 h8 h9=>B8 (V:=(Int×Int)×Unit) 0 (λσ=>Cp (λσ=>JM s at_ σ.1 σ.2) σ.1 σ.2.1=Ad h7) (λσ=>[(0,rS s),(1,Bn at_),(6,Bn σ.2.1.1),(7,Bn (at_+1)),(8,Bn σ.2.1.2)]) (λσ=>[]) (λσ=>σ.1) (F,(at_+1,0),()) h8 (AP Aa) sN (λσ=>JK s at_ σ.1.1 σ.1.2=Ad r) (λσ=>[(0,rS s),(1,Bn at_),(6,Bn σ.1.1),(7,Bn (at_+1)),(8,Bn σ.1.2)]) (λσ=>[]) (by rintro⟨cy,⟨hh,hp⟩,⟨⟩⟩ hA;refine EM ?_;obtain⟨h0,rfl,t213,ht,hu⟩:=C5 hA;have ht:JM s at_ hh hp=Ad t213:=ht;exact Bl<|ck ht λh1 hB=>AM [(0,rS s),(1,Bn at_),(6,Bn hh),(7,Bn (at_+1)),(8,Bn hp),(32,rB ((Br (hh<(Ae s:Int)))&&((Br (48≤(BA s hh)))&&(Br ((BA s hh)≤57)))))] [] (BD Aa<|wv B6<|wv BS<|ms Aa<|Ba (Br (hh<(Ae s:Int))) (λhf=>wo hf<|ms Aa<|wo hf<|ms Aa<|Bt hf (B0 (C3 h1 hf))<|Bt hf Gs<|EA Aa hf Aa<|ms Aa<|Ba (Br (48≤(BA s hh))) (λhj=>wo hj<|ms Aa<|wo hj<|ms Aa<|Bt hj (B0 (C3 h1 hf))<|Bt hj LP<|EA Aa hj Aa<|AD<|Ce (CU hf hj)) λhj=>CI hj Aa<|wv (A9 hj)<|AD<|Ce (CU hf hj)) λhf=>CI hf Aa<|wv (A9 hf)<|ms Aa<|Ea Aa<|wv (A9 Aa)<|AD<|Ce hf)<|BG hB (λhC hD=>BQ<|AL<|Bl<|AY Aa<|ck hD λhE hG=>wv (G7 hE)<|wv BS<|Be<|BG hG (λhH hI=>BD Aa<|ck hI λhJ hK=>wv (UZ Aa Aa hJ)<|ms Aa<|ck hK λhL hN=>wv (B0 hL)<|ck hN λhO hP=>wv (G7 hO)<|ck hP λhQ hR=>wv (Eo ⟨_,Mi⟩ S7 Aa hQ)<|ck hR λhS hT=>wv (Bg hS)<|CW Aa<|BD Aa<|ck hT λhU hV=>wv (Bg hU)<|B9 Aa<|Bm<|have hW:=Bp hV hu;AG (AA (h0,(hh+1,(10*hp)+((BA s hh)-48)),()) ⟨hW,Aqw _⟩ (AP Aa) sN)) λhH hX=>BQ<|BD Aa<|ck hX λhY hZ=>wv (Bg hY)<|B9 Aa<|Bm<|have ga:=Bp hZ hu;AG (AA (h0,(hh+1,hp),()) ⟨ga,Aqw _⟩ (AP Aa) sN)) λhC gb=>BE<|A3<|have gc:=Ci gb hu h9;A3 (Bk (AA ((hh,hp),()) gc (AP Aa) sN)))<|by rintro⟨⟨hn,hr⟩,⟨⟩⟩ hw;refine Hb ?_;exact have hw:JK s at_ hn hr=Ad r:=hw;Bo<|CL<|Bl<|ck hw λgd gf=>ck gf λgg gh=>AM [(1,Bn at_),(6,Bn hn),(7,Bn (at_+1)),(8,Bn hr),(66,rB ((Br (hn=(at_+1)))||((Br ((BA s (at_+1))=48))&&((Br (((at_+1)+1)<hn))||(Br (at_<(at_+1)))))))] [] (BD Aa<|wv Bx<|ms Aa<|Ba (Br (hn=(at_+1))) (λha=>CI ha Aa<|wu<|wu<|wu<|wu<|wu<|wu<|wu<|wu<|wu<|wf ha<|wv (Ax ha)<|AD<|Ce ha) λha=>wo ha<|ms Aa<|wo ha<|ms Aa<|Bt ha (B0 (CA gd ha))<|Bt ha Bx<|wo ha<|ms Aa<|Ba (Br ((BA s (at_+1))=48)) (λhd=>wo hd<|ms Aa<|wo hd<|ms Aa<|Bt hd (Bg (C3 (CA gg ha) hd))<|Bt hd Cw<|wo hd<|ms Aa<|Ba (Br (((at_+1)+1)<hn)) (λhl=>CI hl Aa<|Bt hd (Ax hl)<|wo ha<|EA Aa hd Aa<|D7 Aa ha Aa<|AD<|Ce (CU ha (CU hd hl))) λhl=>wo hl<|ms Aa<|wo hl<|ms Aa<|Bt hl Cw<|wo hd<|D7 Aa hl Aa<|wo ha<|EA Aa hd Aa<|D7 Aa ha Aa<|AD<|by exact Ce (CU ha (CU hd hl))) λhd=>CI hd Aa<|wu<|wu<|wu<|wf hd<|Bt ha (A9 hd)<|D7 Aa ha Aa<|AD<|Ce (CU ha hd))<|BG gh (λgi gj=>Bz Aa<|WK.up (d:=4) (r:=Cg 4 (BP A7 ([]:List Av))) Aa (Up.le (If.nil _))<|cs gj▸Ki Pz ⟨Aa,Aa⟩) λgi gl=>B5<|AY Aa<|ck gl λgm gp=>wv (G7 gm)<|wv Cw<|Be<|BG gp (λgq gr=>BD Aa<|BH Aa<|wv Cw<|Be<|BG gr (λgs gu=>BD Aa<|ck gu λgv gw=>wv (WT Aa gv)<|ms Aa<|Ca Aa<|wv (D1 DP Aa (EL Aa (EL Aa cN)) Aa)<|Dy ([(Av.mk 3 (-2000000000000) ([]:Aw) 0)]:List Av) A7 El G0 HK Aa ⟨cA,trivial⟩ B2 λcz=>Bw Aa<|WK.freeze (i:=0) Aa<|WK.up (d:=4) Aa (Up.fact 0 Aa)<|cs gw▸AC (Eb Pz AW AW) (sS sN) ⟨Aa,Aa⟩) λgs gx=>BQ<|AY Aa<|wv (D1 DP Aa (EL Aa (EL Aa cN)) Aa)<|Dy ([(Av.mk 3 2000000000000 ([]:Aw) 0)]:List Av) A7 El G0 HK Aa ⟨cA,trivial⟩ B2 λc0=>Bw Aa<|WK.freeze (i:=0) Aa<|WK.up (d:=4) Aa (Up.fact 0 Aa)<|cs gx▸AC (Eb Pz AW AW) (sS sN) ⟨Aa,Aa⟩) λgq gy=>B5<|AY Aa<|wv Cw<|Be<|BG gy (λgz g0=>BD Aa<|ck g0 λg2 g3=>wv (WT Aa g2)<|ms Aa<|Ca Aa<|wv (D1 DP Aa (EL Aa (EL Aa cN)) Aa)<|Dy ([(Av.mk 3 (-hr) ([]:Aw) 0)]:List Av) A7 El G0 HK Aa ⟨cA,trivial⟩ B2 λc1=>Bw Aa<|WK.freeze (i:=0) Aa<|WK.up (d:=4) Aa (Up.fact 0 Aa)<|cs g3▸AC (Eb Pz AW AW) (sS sN) ⟨Aa,Aa⟩) λgz g4=>BQ<|AY Aa<|wv (D1 DP Aa (EL Aa (EL Aa cN)) Aa)<|Dy ([(Av.mk 3 hr ([]:Aw) 0)]:List Av) A7 El G0 HK Aa ⟨cA,trivial⟩ B2 λc2=>Bw Aa<|WK.freeze (i:=0) Aa<|WK.up (d:=4) Aa (Up.fact 0 Aa)<|cs g4▸AC (Eb Pz AW AW) (sS sN) ⟨Aa,Aa⟩) λc3 g6=>BQ<|AY Aa<|Ca Aa<|Cz<|AL<|ob g6 λg7 g8 g9=>B8 (V:=(Int×Int)×Unit) 0 (λσ=>Cp (λσ=>JL s at_ σ.1 σ.2) σ.1 σ.2.1=Ad g7) (λσ=>[(0,rS s),(1,Bn at_),(6,Bn σ.2.1.1),(7,Bn at_),(8,Bn σ.2.1.2)]) (λσ=>[]) (λσ=>σ.1) (F,(at_,0),()) g8 (AP Aa) sN (λσ=>JJ s at_ σ.1.1 σ.1.2=Ad r) (λσ=>[(0,rS s),(1,Bn at_),(6,Bn σ.1.1),(7,Bn at_),(8,Bn σ.1.2)]) (λσ=>[]) (by rintro⟨c4,⟨hi,hq⟩,⟨⟩⟩ gA;refine EM ?_;obtain⟨h3,rfl,gB,hx,hy⟩:=C5 gA;have hx:JL s at_ hi hq=Ad gB:=hx;exact Bl<|ck hx λh5 gC=>AM [(0,rS s),(1,Bn at_),(6,Bn hi),(7,Bn at_),(8,Bn hq),(32,rB ((Br (hi<(Ae s:Int)))&&((Br (48≤(BA s hi)))&&(Br ((BA s hi)≤57)))))] [] (BD Aa<|wv B6<|wv BS<|ms Aa<|Ba (Br (hi<(Ae s:Int))) (λhg=>wo hg<|ms Aa<|wo hg<|ms Aa<|Bt hg (B0 (C3 h5 hg))<|Bt hg Gs<|EA Aa hg Aa<|ms Aa<|Ba (Br (48≤(BA s hi))) (λhk=>wo hk<|ms Aa<|wo hk<|ms Aa<|Bt hk (B0 (C3 h5 hg))<|Bt hk LP<|EA Aa hk Aa<|AD<|Ce (CU hg hk)) λhk=>CI hk Aa<|wv (A9 hk)<|AD<|Ce (CU hg hk)) λhg=>CI hg Aa<|wv (A9 hg)<|ms Aa<|Ea Aa<|wv (A9 Aa)<|AD<|Ce hg)<|BG gC (λgD gE=>BQ<|AL<|Bl<|AY Aa<|ck gE λgF gG=>wv (G7 gF)<|wv BS<|Be<|BG gG (λgH gI=>BD Aa<|ck gI λgJ gK=>wv (UZ Aa Aa gJ)<|ms Aa<|ck gK λgL gM=>wv (B0 gL)<|ck gM λgN gO=>wv (G7 gN)<|ck gO λgP gQ=>wv (Eo ⟨_,Mi⟩ S7 Aa gP)<|ck gQ λgR gS=>wv (Bg gR)<|CW Aa<|BD Aa<|ck gS λgT gU=>wv (Bg gT)<|B9 Aa<|Bm<|have gV:=Bp gU hy;AG (AA (h3,(hi+1,(10*hq)+((BA s hi)-48)),()) ⟨gV,Aqw _⟩ (AP Aa) sN)) λgH gW=>BQ<|BD Aa<|ck gW λgX gY=>wv (Bg gX)<|B9 Aa<|Bm<|have gZ:=Bp gY hy;AG (AA (h3,(hi+1,hq),()) ⟨gZ,Aqw _⟩ (AP Aa) sN)) λgD ca=>BE<|A3<|have cb:=Ci ca hy g9;A3 (Bk (AA ((hi,hq),()) cb (AP Aa) sN)))<|by rintro⟨⟨ho,hs⟩,⟨⟩⟩ hz;refine Hb ?_;exact have hz:JJ s at_ ho hs=Ad r:=hz;Bo<|CL<|Bl<|ck hz λcc cd=>AM [(1,Bn at_),(6,Bn ho),(7,Bn at_),(8,Bn hs),(66,rB ((Br (ho=at_))||((Br ((BA s at_)=48))&&((Br ((at_+1)<ho))||(Br (at_<at_))))))] [] (BD Aa<|wv Bx<|ms Aa<|Ba (Br (ho=at_)) (λhb=>CI hb Aa<|wu<|wu<|wu<|wu<|wu<|wu<|wu<|wu<|wu<|wf hb<|wv (Ax hb)<|AD<|Ce hb) λhb=>wo hb<|ms Aa<|wo hb<|ms Aa<|Bt hb (B0 g1)<|Bt hb Bx<|wo hb<|ms Aa<|Ba (Br ((BA s at_)=48)) (λhe=>wo he<|ms Aa<|wo he<|ms Aa<|Bt he (Bg (C3 (CA cc hb) he))<|Bt he Cw<|wo he<|ms Aa<|Ba (Br ((at_+1)<ho)) (λhm=>CI hm Aa<|Bt he (Ax hm)<|wo hb<|EA Aa he Aa<|D7 Aa hb Aa<|AD<|Ce (CU hb (CU he hm))) λhm=>wo hm<|ms Aa<|wo hm<|ms Aa<|Bt hm Cw<|wo he<|D7 Aa hm Aa<|wo hb<|EA Aa he Aa<|D7 Aa hb Aa<|AD<|by exact Ce (CU hb (CU he hm))) λhe=>CI he Aa<|wu<|wu<|wu<|wf he<|Bt hb (A9 he)<|D7 Aa hb Aa<|AD<|Ce (CU hb he))<|BG cd (λce cf=>Bz Aa<|WK.up (d:=4) (r:=Cg 4 (BP A7 ([]:List Av))) Aa (Up.le (If.nil _))<|cs cf▸Ki Pz ⟨Aa,Aa⟩) λce cg=>B5<|AY Aa<|ck cg λch ci=>wv (G7 ch)<|wv Cw<|Be<|BG ci (λcj cl=>BD Aa<|BH Aa<|wv Cw<|Be<|BG cl (λcm cn=>BD Aa<|ck cn λco cp=>wv (WT Aa co)<|ms Aa<|Ca Aa<|wv (D1 DP Aa (EL Aa (EL Aa cN)) Aa)<|Dy ([(Av.mk 3 (-2000000000000) ([]:Aw) 0)]:List Av) A7 El G0 HK Aa ⟨cA,trivial⟩ B2 λc6=>Bw Aa<|WK.freeze (i:=0) Aa<|WK.up (d:=4) Aa (Up.fact 0 Aa)<|cs cp▸AC (Eb Pz AW AW) (sS sN) ⟨Aa,Aa⟩) λcm cq=>BQ<|AY Aa<|wv (D1 DP Aa (EL Aa (EL Aa cN)) Aa)<|Dy ([(Av.mk 3 2000000000000 ([]:Aw) 0)]:List Av) A7 El G0 HK Aa ⟨cA,trivial⟩ B2 λc7=>Bw Aa<|WK.freeze (i:=0) Aa<|WK.up (d:=4) Aa (Up.fact 0 Aa)<|cs cq▸AC (Eb Pz AW AW) (sS sN) ⟨Aa,Aa⟩) λcj cr=>B5<|AY Aa<|wv Cw<|Be<|BG cr (λct cu=>BD Aa<|ck cu λcv cw=>wv (WT Aa cv)<|ms Aa<|Ca Aa<|wv (D1 DP Aa (EL Aa (EL Aa cN)) Aa)<|Dy ([(Av.mk 3 (-hs) ([]:Aw) 0)]:List Av) A7 El G0 HK Aa ⟨cA,trivial⟩ B2 λc8=>Bw Aa<|WK.freeze (i:=0) Aa<|WK.up (d:=4) Aa (Up.fact 0 Aa)<|cs cw▸AC (Eb Pz AW AW) (sS sN) ⟨Aa,Aa⟩) λct cx=>BQ<|AY Aa<|wv (D1 DP Aa (EL Aa (EL Aa cN)) Aa)<|Dy ([(Av.mk 3 hs ([]:Aw) 0)]:List Av) A7 El G0 HK Aa ⟨cA,trivial⟩ B2 λc9=>Bw Aa<|WK.freeze (i:=0) Aa<|WK.up (d:=4) Aa (Up.fact 0 Aa)<|cs cx▸AC (Eb Pz AW AW) (sS sN) ⟨Aa,Aa⟩
theorem Ah4 (F:Nat)(hb:Aw→Int→Option ((List Av)×Int))(he:(∀(s:Aw) (at_:Int) (r:(List Av)×Int),hb s at_=Ad r→FN 184 (D8 s at_) [] (PO (Du (Eg r.1 r.2)))))(s:Aw)(at_:Int)(r:(List Av)×Int)(h:AbL F hb s at_=Ad r):FN 153 (D8 s at_) [] (PO (Du (Eg r.1 r.2))):=en func153 ntmps153 Aa λw Z=>AY Aa<|BH Aa<|wv B6<|wv Gs<|Be<|BG h (λc1 h2=>Bz Aa<|WK.up (d:=4) (r:=Cg 4 (BP A7 ([]:List Av))) Aa (Up.le (If.nil _))<|cs h2▸Ki Uf ⟨Aa,Aa⟩) λc1 h3=>B5<|AY Aa<|ob h3 λr4 e6 h5=>CS KO (En s at_ ([110,117,108,108]:Aw) r4 e6)<|Be<|BG h5 (λc7 h8=>AT<|ob h8 λr9 hf hg=>CS call181 (AkB r9 hf)<|ms Aa<|ck hg λhh hi=>wv (Bg hh)<|Bw Aa<|A5<|cs hi▸Ki Uf ⟨Aa,Aa⟩) λc7 hj=>B5<|AY Aa<|ob hj λhk hl hm=>CS KO (En s at_ ([116,114,117,101]:Aw) hk hl)<|Be<|BG hm (λhn ho=>AT<|ob ho λhp hq hr=>CS call182 (Adu Af hp hq)<|ms Aa<|ck hr λhs ht=>wv (Bg hs)<|Bw Aa<|A5<|cs ht▸Ki Uf ⟨Aa,Aa⟩) λhn hu=>B5<|AY Aa<|ob hu λhw hx hy=>CS KO (En s at_ ([102,97,108,115,101]:Aw) hw hx)<|Be<|BG hy (λhz h0=>AT<|ob h0 λh1 h4 h6=>CS call182 (Adu Ah h1 h4)<|ms Aa<|ck h6 λh7 h9=>wv (Bg h7)<|Bw Aa<|A5<|by exact cs h9▸Ki Uf ⟨Aa,Aa⟩) λhz hA=>B5<|AY Aa<|ck hA λha hB=>wv (B0 ha)<|wv Bx<|Be<|BG hB (λhC hD=>by exact AY Aa<|ob hD λhd hE hG=>CS call183 (Ma F s at_ hd hE)<|ms Aa<|wv A4<|wv A4<|ms Aa<|Ca Aa<|wv (D1 DP Aa (EL Aa (EL Aa cN)) Aa)<|Dy ([(Av.mk 4 0 hd.1 0)]:List Av) A7 El G0 HK Aa ⟨cA,trivial⟩ B2 λhS=>Bw Aa<|A5<|WK.freeze (i:=0) Aa<|WK.up (d:=4) Aa (Up.fact 0 Aa)<|cs hG▸AC (Eb Uf AW AW) (sS sN) ⟨Aa,Aa⟩) λhC hH=>by exact B5<|AM [(0,rS s),(1,Bn at_),(53,rB ((Br ((BA s at_)=91))||(Br ((BA s at_)=123))))] [] (BD Aa<|wv (B0 ha)<|wv Bx<|ms Aa<|Ba (Br ((BA s at_)=91)) (λc46=>CI c46 Aa<|wv (Ax c46)<|AD<|Ce c46) λc46=>wo c46<|ms Aa<|wo c46<|ms Aa<|Bt c46 (B0 ha)<|Bt c46 Bx<|D7 Aa c46 Aa<|AD<|Ce c46)<|BG hH (λhI hJ=>AY Aa<|ob hJ λhK hL hN=>CS call184 (he s at_ hK hL)<|wv A4<|wv A4<|Bw Aa<|A5<|cs hN▸Ki Uf ⟨Aa,Aa⟩) λhI hO=>BQ<|AY Aa<|ob hO λhP hQ hR=>CS call185 (AbM F s at_ hP hQ)<|wv A4<|wv A4<|Bw Aa<|cs hR▸Ki Uf ⟨Aa,Aa⟩
abbrev Ou (x0:Nat)(x1:Av)(x2:Value)(x3:List Av):List Ent:=[EE x0 x1,.row x2 77 4 (BP A7 x3)]
theorem Yf (F:Nat)(hw:Aw→Int→Option ((List Av)×Int))(h1:(∀(s:Aw) (at_:Int) (r:(List Av)×Int),hw s at_=Ad r→FN 153 (D8 s at_) [] (PO (Du (Eg r.1 r.2)))))(s:Aw)(at_:Int)(r:(List Av)×Int)(h:MX F hw s at_=Ad r):FN 184 (D8 s at_) [] (PO (Du (Eg r.1 r.2))):=en func184 ntmps184 Aa λw Z=>by unfold MX at h;exact AY Aa<|Dt<|wv (D1 DP Aa (EL Aa cN) Aa)<|CD (cs:=(Sq ([]:Aw))) HK Aa Aa λb1=>by refine L5 0 G0 Aa Aa Aa (CB.c Aa) Aa Aa ?_;exact Dt<|wv (r:=rS ([93]:Aw)) Bd<|BH Aa<|ck h λg2 h3=>wv (B0 g2)<|wv Bx<|Be<|BG h3 (λc4 h5=>by refine AT<|wv AB<|us 0 AjT Aa Aa (Cs Aa) Aa Aa ?_;exact Be<|AU<|wv (r:=rS ([125]:Aw)) Bd<|Ca Aa<|Ca Aa<|ck h5 λg6 h7=>wv (Bg g6)<|ms Aa<|Cz<|AL<|WC.nilrow (e:=77) (sz:=4)<|JH [1] Aa<|ob h7 λhI hJ hx=>B8 (V:=((List Av)×Int×Av)×Value) 0 (λσ=>Cp (λσ=>MZ F s hw σ.1 σ.2.1 σ.2.2) σ.1 σ.2.1=Ad hI) (λσ=>[(0,rS s),(6,rP b1 0),(7,rS ([125]:Aw)),(8,rv σ.2.2),(9,Bn σ.2.1.2.1)]) (λσ=>(Ou b1 σ.2.1.2.2 σ.2.2 σ.2.1.1)) (λσ=>σ.1) (F,(([]:List Av),at_+1,(Av.mk 6 0 ([]:Aw) 0)),(.slice Ai 0 0                                                                             )) hJ (AP Aa) (sC (sC sN)) (λσ=>K3 σ.1.1 σ.1.2.1 σ.1.2.2=Ad r) (λσ=>[(6,rP b1 0),(8,rv σ.2),(9,Bn σ.1.2.1)]) (λσ=>(Ou b1 σ.1.2.2 σ.2 σ.1.1)) (by rintro⟨xR,⟨hp,hl,ha⟩,hz⟩ hK;refine EM ?_;obtain⟨h2,rfl,hL,h9,hm⟩:=C5 hK;have h9:MZ F s hw hp hl ha=Ad hL:=h9;exact Bl<|ck h9 λhN hO=>ck hO λhP hQ=>ck hQ λhR hS=>AM [(0,rS s),(6,rP b1 0),(7,rS ([125]:Aw)),(8,rv hz),(9,Bn hl),(39,rB ((!(ov (Cv s hl ([125]:Aw))))||((Br (0<ha.fN))&&(Br ((BA s (hl-1))=44)))))] (Ou b1 ha hz hp) (BD Aa<|CS KO (En s hl ([125]:Aw) (ov (Cv s hl ([125]:Aw))) (GR hN))<|wv BO<|ms Aa<|Ba (!(ov (Cv s hl ([125]:Aw)))) (λhd=>CI hd Aa<|wu<|wu<|wu<|wu<|wu<|wf hd<|wv (Ax hd)<|AD<|Ce hd) λhd=>Bt hd AB<|Bt hd (Ay 0)<|Bt hd Cw<|wo hd<|ms Aa<|Ba (Br (0<ha.fN)) (λhf=>wo hf<|ms Aa<|wo hf<|ms Aa<|Bt hf (G7 (C3 (CA hP hd) hf))<|Bt hf (B0 (C3 (CA hR hd) hf))<|Bt hf Bx<|wo hd<|EA Aa hf Aa<|D7 Aa hd Aa<|AD<|Ce (CU hd hf)) λhf=>CI hf Aa<|Bt hd (A9 hf)<|D7 Aa hd Aa<|AD<|Ce (CU hd hf))<|BG hS (λhT hU=>BQ<|AL<|Bl<|AT<|wv AB<|wv (Ay 0)<|wv Bx<|Be<|BG hU (λhV hW=>AY Aa<|ob hW λhh hX hY=>CS call183 (Ma F s hl hh hX)<|ms Aa<|wv A4<|wv A4<|ms Aa<|Cz<|ck hY λhZ ga=>AM [(0,rS s),(6,rP b1 0),(7,rS ([125]:Aw)),(8,rv hz),(10,rS hh.1),(11,Bn hh.2),(56,rB ((Br (hh.2<0))||(!(ov (Cv s hh.2 ([58]:Aw))))))] (Ou b1 ha hz hp) (BD Aa<|wv BS<|ms Aa<|Ba (Br (hh.2<0)) (λhj=>CI hj Aa<|wv (Ax hj)<|AD<|Ce hj) λhj=>wo hj<|ms Aa<|wo hj<|ms Aa<|wo hj<|CS KO (En s hh.2 ([58]:Aw) (ov (Cv s hh.2 ([58]:Aw))) (GR (CA hZ hj)))<|Bt hj BO<|D7 Aa hj Aa<|AD<|Ce hj)<|BG ga (λgb gc=>Bz Aa<|A5<|BW<|Bj<|have gd:=BK gc hm hx;BW<|WK.up (d:=4) (r:=Cg 4 (BP A7 ([]:List Av))) Aa (Up.le (If.nil _))<|cs gd▸AC (Eb N2 AW AW) (sK 0) ⟨Aa,Aa⟩) λgb gf=>BQ<|AY Aa<|wv (D1 DP Aa (EL Aa (EL Aa cN)) Aa)<|Dy ([(Av.mk 4 0 hh.1 0)]:List Av) A7 El G0 HK Aa ⟨cA,trivial⟩ B2 λxS=>ck gf λgg gh=>E0 2 El Hc Aa Aa (HJ.w 0 Aa Aa) B2 CK gg λxT=>CW Aa<|BD Aa<|ck gh λgi gj=>wv (Bg gi)<|ms Aa<|Ca Aa<|ob gj λhr gl gm=>CS Zy (h1 s (hh.2+1) hr gl)<|ms Aa<|wv A4<|wv A4<|ms Aa<|BH Aa<|wv BS<|Be<|BG gm (λgp gq=>by exact Bz Aa<|BW<|Bj<|have gr:=BK gq hm hx;BW<|WK.up (d:=4) (r:=Cg 4 (BP A7 ([]:List Av))) Aa (Up.le (If.nil _))<|cs gr▸AC (Eb N2 AW AW) (sK 0) ⟨Aa,Aa⟩) λgp gs=>by exact BQ<|AY Aa<|ck gs λgu gv=>E0 0 El Hc Aa Aa (HJ.z Aa Aa) B2 CK gu λhB=>by refine ms Aa<|Dt<|wv AB<|wv (Ay 2)<|ck gv λgw gx=>wv (Bg gw)<|wv AB<|us 2 H6 Aa Aa (Cs Aa) Aa Aa ?_;exact Ca Aa<|Ca Aa<|ob gx λgy gz g0=>CS KO (En s hr.2 ([44]:Aw) gy gz)<|Be<|BG g0 (λg1 g3=>by refine BD Aa<|ck g3 λg4 g5=>wv (Bg g4)<|B9 Aa<|Bm<|Jp [2] ?_;exact have g7:=Bp g5 hm;AG (AA (h2,((hp++([(Av.mk 4 0 hh.1 0)]:List Av))++hr.1,hr.2+1,(Av.mk ha.aa ha.ay ha.au (ha.fN+1))),hB) ⟨g7,Aqw _⟩ (AP Aa) (sC (sC (sS sN))))) λg1 g8=>AY Aa<|ob g8 λg9 gA gB=>CS KO (En s hr.2 ([125]:Aw) g9 gA)<|wv BO<|Be<|BG gB (λgC gD=>Cy Aa<|BW<|Bj<|have gE:=BK gD hm hx;BW<|WK.up (d:=4) (r:=Cg 4 (BP A7 ([]:List Av))) Aa (Up.le (If.nil _))<|cs gE▸AC (Eb N2 AW AW) (sK 0) ⟨Aa,Aa⟩) λgC gF=>by refine Cf<|Bm<|Jp [2] ?_;exact have gG:=Bp gF hm;AG (AA (h2,((hp++([(Av.mk 4 0 hh.1 0)]:List Av))++hr.1,hr.2,(Av.mk ha.aa ha.ay ha.au (ha.fN+1))),hB) ⟨gG,Aqw _⟩ (AP Aa) (sC (sC (sS sN))))) λhV gH=>BQ<|AY Aa<|ob gH λhs gI gJ=>CS Zy (h1 s hl hs gI)<|ms Aa<|wv A4<|wv A4<|ms Aa<|BH Aa<|wv BS<|Be<|BG gJ (λgK gL=>Bz Aa<|BW<|Bj<|have gM:=BK gL hm hx;BW<|WK.up (d:=4) (r:=Cg 4 (BP A7 ([]:List Av))) Aa (Up.le (If.nil _))<|cs gM▸AC (Eb N2 AW AW) (sK 0) ⟨Aa,Aa⟩) λgK gN=>BQ<|AY Aa<|ck gN λgO gP=>E0 1 El Hc Aa Aa (HJ.z Aa Aa) B2 CK gO λhC=>by refine ms Aa<|Dt<|wv AB<|wv (Ay 1)<|ck gP λgQ gR=>wv (Bg gQ)<|wv AB<|us 1 H6 Aa Aa (Cs Aa) Aa Aa ?_;exact Ca Aa<|Ca Aa<|ob gR λgS gT gU=>CS KO (En s hs.2 ([44]:Aw) gS gT)<|Be<|BG gU (λgV gW=>by refine BD Aa<|ck gW λgX gY=>wv (Bg gX)<|B9 Aa<|Bm<|Jp [1] ?_;exact have gZ:=Bp gY hm;AG (AA (h2,(hp++hs.1,hs.2+1,(Av.mk ha.aa ha.ay ha.au (ha.fN+1))),hC) ⟨gZ,Aqw _⟩ (AP Aa) (sC (sC sN)))) λgV ca=>AY Aa<|ob ca λcb cc cd=>CS KO (En s hs.2 ([125]:Aw) cb cc)<|wv BO<|Be<|BG cd (λce cf=>Cy Aa<|BW<|Bj<|have cg:=BK cf hm hx;BW<|WK.up (d:=4) (r:=Cg 4 (BP A7 ([]:List Av))) Aa (Up.le (If.nil _))<|cs cg▸AC (Eb N2 AW AW) (sK 0) ⟨Aa,Aa⟩) λce ch=>by refine Cf<|Bm<|Jp [1] ?_;exact have ci:=Bp ch hm;AG (AA (h2,(hp++hs.1,hs.2,(Av.mk ha.aa ha.ay ha.au (ha.fN+1))),hC) ⟨ci,Aqw _⟩ (AP Aa) (sC (sC sN)))) λhT cj=>BE<|A3<|have cl:=Ci cj hm hx;A3 (Bk (AA ((hp,hl,ha),hz) cl (AP Aa) (sC (sC sN)))))<|by rintro⟨⟨cm,cn,hD⟩,xU⟩ h4;refine Hb ?_;exact have h4:K3 cm cn hD=Ad r:=h4;by unfold K3 at h4;exact Bo<|CL<|AT<|wv (BI 0)<|Dy ([hD]:List Av) A7 El G0 HK Aa ⟨cA,trivial⟩ B2 λxV=>ms Aa<|Ca Aa<|ck h4 λco cp=>E0 0 El Hc Aa Aa (HJ.w 2 Aa Aa) B2 CK co λxW=>ms Aa<|Ca Aa<|ck cp λcq cr=>wv (Bg cq)<|Bw Aa<|WK.freeze (i:=0) Aa<|WK.up (d:=4) Aa (Up.fact 0 Aa)<|cs cr▸AC (Eb N2 AW AW) (sK 0) ⟨Aa,Aa⟩) λc4 ct=>BQ<|AY Aa<|Ca Aa<|ck ct λcu cv=>wv (Bg cu)<|ms Aa<|Cz<|AL<|WC.nilrow (e:=77) (sz:=4)<|JH [1] Aa<|ob cv λcw cx hy=>B8 (V:=((List Av)×Int×Av)×Value) 0 (λσ=>Cp (λσ=>MY F s hw σ.1 σ.2.1 σ.2.2) σ.1 σ.2.1=Ad cw) (λσ=>[(0,rS s),(6,rP b1 0),(7,rS ([93]:Aw)),(8,rv σ.2.2),(9,Bn σ.2.1.2.1)]) (λσ=>(Ou b1 σ.2.1.2.2 σ.2.2 σ.2.1.1)) (λσ=>σ.1) (F,(([]:List Av),at_+1,(Av.mk 5 0 ([]:Aw) 0)),(.slice Ai 0 0                                                                             )) cx (AP Aa) (sC (sC sN)) (λσ=>K2 σ.1.1 σ.1.2.1 σ.1.2.2=Ad r) (λσ=>[(6,rP b1 0),(8,rv σ.2),(9,Bn σ.1.2.1)]) (λσ=>(Ou b1 σ.1.2.2 σ.2 σ.1.1)) (by rintro⟨xX,⟨hq,hn,hb⟩,h0⟩ cy;refine EM ?_;obtain⟨h6,rfl,cz,hA,ho⟩:=C5 cy;have hA:MY F s hw hq hn hb=Ad cz:=hA;exact Bl<|ck hA λc0 c1=>ck c1 λc2 c3=>ck c3 λc6 c7=>AM [(0,rS s),(6,rP b1 0),(7,rS ([93]:Aw)),(8,rv h0),(9,Bn hn),(39,rB ((!(ov (Cv s hn ([93]:Aw))))||((Br (0<hb.fN))&&(Br ((BA s (hn-1))=44)))))] (Ou b1 hb h0 hq) (BD Aa<|CS KO (En s hn ([93]:Aw) (ov (Cv s hn ([93]:Aw))) (GR c0))<|wv BO<|ms Aa<|Ba (!(ov (Cv s hn ([93]:Aw)))) (λhe=>CI he Aa<|wu<|wu<|wu<|wu<|wu<|wf he<|wv (Ax he)<|AD<|Ce he) λhe=>Bt he AB<|Bt he (Ay 0)<|Bt he Cw<|wo he<|ms Aa<|Ba (Br (0<hb.fN)) (λhg=>wo hg<|ms Aa<|wo hg<|ms Aa<|Bt hg (G7 (C3 (CA c2 he) hg))<|Bt hg (B0 (C3 (CA c6 he) hg))<|Bt hg Bx<|wo he<|EA Aa hg Aa<|D7 Aa he Aa<|AD<|Ce (CU he hg)) λhg=>CI hg Aa<|Bt he (A9 hg)<|D7 Aa he Aa<|AD<|Ce (CU he hg))<|BG c7 (λc8 c9=>BQ<|AL<|Bl<|AT<|wv AB<|wv (Ay 0)<|wv Bx<|Be<|BG c9 (λcB cC=>AY Aa<|ob cC λhi cD cE=>CS call183 (Ma F s hn hi cD)<|ms Aa<|wv A4<|wv A4<|ms Aa<|Cz<|ck cE λcF cG=>AM [(0,rS s),(6,rP b1 0),(7,rS ([93]:Aw)),(8,rv h0),(10,rS hi.1),(11,Bn hi.2),(56,rB ((Br (hi.2<0))||(!(ov (Cv s hi.2 ([58]:Aw))))))] (Ou b1 hb h0 hq) (BD Aa<|wv BS<|ms Aa<|Ba (Br (hi.2<0)) (λhk=>CI hk Aa<|wv (Ax hk)<|AD<|Ce hk) λhk=>wo hk<|ms Aa<|wo hk<|ms Aa<|wo hk<|CS KO (En s hi.2 ([58]:Aw) (ov (Cv s hi.2 ([58]:Aw))) (GR (CA cF hk)))<|Bt hk BO<|D7 Aa hk Aa<|AD<|Ce hk)<|BG cG (λcH cI=>Bz Aa<|A5<|BW<|Bj<|have cJ:=BK cI ho hy;BW<|WK.up (d:=4) (r:=Cg 4 (BP A7 ([]:List Av))) Aa (Up.le (If.nil _))<|cs cJ▸AC (Eb N2 AW AW) (sK 0) ⟨Aa,Aa⟩) λcH cK=>BQ<|AY Aa<|wv (D1 DP Aa (EL Aa (EL Aa cN)) Aa)<|Dy ([(Av.mk 4 0 hi.1 0)]:List Av) A7 El G0 HK Aa ⟨cA,trivial⟩ B2 λxY=>ck cK λcL cM=>E0 2 El Hc Aa Aa (HJ.w 0 Aa Aa) B2 CK cL λxZ=>CW Aa<|BD Aa<|ck cM λcO cP=>wv (Bg cO)<|ms Aa<|Ca Aa<|ob cP λht cQ cR=>CS Zy (h1 s (hi.2+1) ht cQ)<|ms Aa<|wv A4<|wv A4<|ms Aa<|BH Aa<|wv BS<|Be<|BG cR (λcS cT=>by exact Bz Aa<|BW<|Bj<|have cU:=BK cT ho hy;BW<|WK.up (d:=4) (r:=Cg 4 (BP A7 ([]:List Av))) Aa (Up.le (If.nil _))<|cs cU▸AC (Eb N2 AW AW) (sK 0) ⟨Aa,Aa⟩) λcS cV=>by exact BQ<|AY Aa<|ck cV λcW cX=>E0 0 El Hc Aa Aa (HJ.z Aa Aa) B2 CK cW λhE=>by refine ms Aa<|Dt<|wv AB<|wv (Ay 2)<|ck cX λcY cZ=>wv (Bg cY)<|wv AB<|us 2 H6 Aa Aa (Cs Aa) Aa Aa ?_;exact Ca Aa<|Ca Aa<|ob cZ λxa xb xc=>CS KO (En s ht.2 ([44]:Aw) xa xb)<|Be<|BG xc (λxd xe=>by refine BD Aa<|ck xe λxf xg=>wv (Bg xf)<|B9 Aa<|Bm<|Jp [2] ?_;exact have xh:=Bp xg ho;AG (AA (h6,((hq++([(Av.mk 4 0 hi.1 0)]:List Av))++ht.1,ht.2+1,(Av.mk hb.aa hb.ay hb.au (hb.fN+1))),hE) ⟨xh,Aqw _⟩ (AP Aa) (sC (sC (sS sN))))) λxd xi=>AY Aa<|ob xi λxj xk xl=>CS KO (En s ht.2 ([93]:Aw) xj xk)<|wv BO<|Be<|BG xl (λxm xn=>Cy Aa<|BW<|Bj<|have xo:=BK xn ho hy;BW<|WK.up (d:=4) (r:=Cg 4 (BP A7 ([]:List Av))) Aa (Up.le (If.nil _))<|cs xo▸AC (Eb N2 AW AW) (sK 0) ⟨Aa,Aa⟩) λxm xp=>by refine Cf<|Bm<|Jp [2] ?_;exact have xq:=Bp xp ho;AG (AA (h6,((hq++([(Av.mk 4 0 hi.1 0)]:List Av))++ht.1,ht.2,(Av.mk hb.aa hb.ay hb.au (hb.fN+1))),hE) ⟨xq,Aqw _⟩ (AP Aa) (sC (sC (sS sN))))) λcB xr=>BQ<|AY Aa<|ob xr λhu xs xt=>CS Zy (h1 s hn hu xs)<|ms Aa<|wv A4<|wv A4<|ms Aa<|BH Aa<|wv BS<|Be<|BG xt (λxu xv=>Bz Aa<|BW<|Bj<|have xw:=BK xv ho hy;BW<|WK.up (d:=4) (r:=Cg 4 (BP A7 ([]:List Av))) Aa (Up.le (If.nil _))<|cs xw▸AC (Eb N2 AW AW) (sK 0) ⟨Aa,Aa⟩) λxu xx=>BQ<|AY Aa<|ck xx λxy xz=>E0 1 El Hc Aa Aa (HJ.z Aa Aa) B2 CK xy λhG=>by refine ms Aa<|Dt<|wv AB<|wv (Ay 1)<|ck xz λx0 x1=>wv (Bg x0)<|wv AB<|us 1 H6 Aa Aa (Cs Aa) Aa Aa ?_;exact Ca Aa<|Ca Aa<|ob x1 λx2 x3 x4=>CS KO (En s hu.2 ([44]:Aw) x2 x3)<|Be<|BG x4 (λx5 x6=>by refine BD Aa<|ck x6 λx7 x8=>wv (Bg x7)<|B9 Aa<|Bm<|Jp [1] ?_;exact have x9:=Bp x8 ho;AG (AA (h6,(hq++hu.1,hu.2+1,(Av.mk hb.aa hb.ay hb.au (hb.fN+1))),hG) ⟨x9,Aqw _⟩ (AP Aa) (sC (sC sN)))) λx5 xA=>AY Aa<|ob xA λxB xC xD=>CS KO (En s hu.2 ([93]:Aw) xB xC)<|wv BO<|Be<|BG xD (λxE xF=>Cy Aa<|BW<|Bj<|have xG:=BK xF ho hy;BW<|WK.up (d:=4) (r:=Cg 4 (BP A7 ([]:List Av))) Aa (Up.le (If.nil _))<|cs xG▸AC (Eb N2 AW AW) (sK 0) ⟨Aa,Aa⟩) λxE xH=>by refine Cf<|Bm<|Jp [1] ?_;exact have xI:=Bp xH ho;AG (AA (h6,(hq++hu.1,hu.2,(Av.mk hb.aa hb.ay hb.au (hb.fN+1))),hG) ⟨xI,Aqw _⟩ (AP Aa) (sC (sC sN)))) λc8 xJ=>BE<|A3<|have xK:=Ci xJ ho hy;A3 (Bk (AA ((hq,hn,hb),h0) xK (AP Aa) (sC (sC sN)))))<|by rintro⟨⟨xL,xM,hH⟩,va⟩ h8;refine Hb ?_;exact have h8:K2 xL xM hH=Ad r:=h8;by unfold K2 at h8;exact Bo<|CL<|AT<|wv (BI 0)<|Dy ([hH]:List Av) A7 El G0 HK Aa ⟨cA,trivial⟩ B2 λvb=>ms Aa<|Ca Aa<|ck h8 λxN xO=>E0 0 El Hc Aa Aa (HJ.w 2 Aa Aa) B2 CK xN λvc=>ms Aa<|Ca Aa<|ck xO λxP xQ=>wv (Bg xP)<|Bw Aa<|WK.freeze (i:=0) Aa<|WK.up (d:=4) Aa (Up.fact 0 Aa)<|cs xQ▸AC (Eb N2 AW AW) (sK 0) ⟨Aa,Aa⟩
theorem RP:∀F:Nat,(∀(s:Aw) (at_:Int) (r:(List Av)×Int),Ks F s at_=Ad r→FN 153 (D8 s at_) [] (PO (Du (Eg r.1 r.2))))∧(∀(s:Aw) (at_:Int) (r:(List Av)×Int),G5 F s at_=Ad r→FN 184 (D8 s at_) [] (PO (Du (Eg r.1 r.2))))
  | 0=>⟨(λ_ _ _ h=>by simp[Ks] at h),(λ_ _ _ h=>by simp[G5] at h)⟩
  | nn+1=>⟨(λs at_ r h=>Ah4 nn (G5 nn) (RP nn).2 s at_ r (by rw[Ks] at h;exact h)),(λs at_ r h=>Yf nn (Ks nn) (RP nn).1 s at_ r (by rw[G5] at h;exact h))⟩
theorem AkA (F:Nat)(s:Aw)(at_:Int)(r:(List Av)×Int)(h:Ks F s at_=Ad r):FN 153 (D8 s at_) [] (PO (Du (Eg r.1 r.2))):=(RP F).1 s at_ r h
theorem Afa (F:Nat)(s:Aw)(r:(List Av)×Int)(h:QI F s=Ad r):FN 121 [rS s] [] (PO (Du (Eg r.1 r.2))):=en func121 ntmps121 Aa λw Z=>AY Aa<|BH Aa<|wv B6<|wv Cw<|Be<|BG h (λc1 h2=>Bz Aa<|WK.up (d:=2) (r:=Cg 4 (BP A7 ([]:List Av))) Aa (Up.le (If.nil _))<|cs h2▸Ki results121 ⟨Aa,Aa⟩) λc1 h3=>BQ<|AY Aa<|ob h3 λr4 e6 h5=>CS Zy (AkA F s 0 r4 e6)<|ms Aa<|wv A4<|wv A4<|ms Aa<|BH Aa<|wv B6<|wv BU<|Be<|BG h5 (λc7 h8=>Bz Aa<|WK.up (d:=2) (r:=Cg 4 (BP A7 ([]:List Av))) Aa (Up.le (If.nil _))<|cs h8▸Ki results121 ⟨Aa,Aa⟩) λc7 h9=>BQ<|AY Aa<|ob h9 λha hb hd=>CS call154 (AbX F r4.1 ha hb)<|wv A4<|wv A4<|Bw Aa<|cs hd▸Ki results121 ⟨Aa,Aa⟩
end Go.Proofs.YtiddaamglmmnaaaGreatDoor.Q
namespace Go.Proofs.YtiddaamglmmnaaaGreatDoor
open Go
def Sk (k:IntKind)(x y:Int):Int:=k.wrap ((BitVec.ofInt k.bits x&&& BitVec.ofInt k.bits y).toNat:Int)
def Rt (k:IntKind)(x y:Int):Int:=k.wrap ((BitVec.ofInt k.bits x||| BitVec.ofInt k.bits y).toNat:Int)
def Kn (k:IntKind)(x y:Int):Int:=k.wrap ((BitVec.ofInt k.bits x^^^BitVec.ofInt k.bits y).toNat:Int)
def Ac9 (k:IntKind)(x:Int):Int:=Kn k (if k.signed then -1 else k.max) x
def HF (k:IntKind)(x n:Int):Int:=k.wrap (x*2 ^ (min n.toNat k.bits))
def Er (k:IntKind)(x n:Int):Int:=x.fdiv (2 ^ (min n.toNat k.bits))
set_option linter.unusedVariables false
def KI (hb ha:Int):Option (Stp (Int×Int) (Out (Stp (Int×(List Int)) (Out ((List Int)) ((List Int)))) (Int×Int×Bool))):=
 By (Ac (ha<8)) (Bc (BJ .i64 (ha+1))<|some (.next ((bif Ac ((Sk .u32 hb 1)=1) then Kn .u32 (Er .u32 hb 1) 3988292384 else Er .u32 hb 1),ha+1))) (Ad (.out (.go (hb,ha,Ac (ha<8)))))
def Pd (ha:Int)(hb:(List Int))(hd he:Int)(hf:Bool):Option (Stp (Int×(List Int)) (Out ((List Int)) ((List Int)))):=
 Bc (CE ha 256)<|Bc (CE ha (hb.length:Int))<|Bc (BJ .i64 (ha+1))<|some (.next (ha+1,List.set hb (Ao ha) hd))
def KJ (F:Nat)(ha:Int)(hb:(List Int)):Option (Stp (Int×(List Int)) (Out ((List Int)) ((List Int)))):=
 By (Ac (ha<256)) (BB (Cp (λσ=>KI σ.1 σ.2) F (IntKind.wrap .u32 ha,0)) (Cb λν=>Pd ha hb ν.1 ν.2.1 ν.2.2)) (Ad (.out (.go hb)))
def Pe (ha:(List Int)):Option ((List Int)):=
 Bc (Ac (ha.length=256))<|Bc (Ac (Ae (Au 256 (0:Int))=256))<|some ha
def V2 (F:Nat) :Option ((List Int)):=
 BB (Cp (λσ=>KJ F σ.1 σ.2) F (0,Au 256 (0:Int))) (Cb λν=>Pe ν)
def LN (s:Aw)(r1:(List Int))(hb ha:Int):Option (Stp (Int×Int) (Out Int Int)):=
 By (Ac (ha<(Ae s:Int))) (Bc (CE ha (Ae s:Int))<|Bc (CE (Kn .u8 (IntKind.wrap .u8 hb) (BA s ha)) 256)<|Bc (CE (Kn .u8 (IntKind.wrap .u8 hb) (BA s ha)) (Ae r1:Int))<|Bc (BJ .i64 (ha+1))<|some (.next (Kn .u32 (A2 r1 (Kn .u8 (IntKind.wrap .u8 hb) (BA s ha))) (Er .u32 hb 8),ha+1))) (Ad (.out (.go hb)))
def TQ (ha:Int):Option Int:=
 Ad (Ac9 .u32 ha)
def Aja (F:Nat)(s:Aw):Option Int:=
 BB (V2 F) λr1=>Bc (Ac (Ae (Au 256 (0:Int))=256))<|Bc (Ac (Ae r1=256))<|BB (Cp (λσ=>LN s r1 σ.1 σ.2) F (4294967295,0)) (Cb λν=>TQ ν)
def Ph (n:Int):Option Aw:=
 Ad (Qv ([IntKind.wrap .u8 (Er .u32 n 24),IntKind.wrap .u8 (Er .u32 n 16),IntKind.wrap .u8 (Er .u32 n 8),IntKind.wrap .u8 n]:List Int))
def Rz (s:Aw):Option Int:=
 Bc (CE 0 (Ae s:Int))<|Bc (CE 1 (Ae s:Int))<|Bc (CE 2 (Ae s:Int))<|Bc (CE 3 (Ae s:Int))<|some (Rt .u32 (Rt .u32 (Rt .u32 (HF .u32 (IntKind.wrap .u32 (BA s 0)) 24) (HF .u32 (IntKind.wrap .u32 (BA s 1)) 16)) (HF .u32 (IntKind.wrap .u32 (BA s 2)) 8)) (IntKind.wrap .u32 (BA s 3)))
def Ls (fields:(List Aw))(hb:(List Int))(ha:Int):Option (Stp ((List Int)×Int) (Out (Aw×Int) ((List Int)))):=
 By (Ac (ha<(Ae fields:Int))) (Bc (CE ha (Ae fields:Int))<|By (Ac (4000<(Ae (A2 fields ha):Int))) (Ad (.out (.ret (([]:Aw),3)))) (Bc (De 1 (hb.length+Ae ([IntKind.wrap .u8 (Er .i64 (Ae (A2 fields ha):Int) 8),IntKind.wrap .u8 (Ae (A2 fields ha):Int)]:List Int)))<|Bc (De 1 (Ae (hb++([IntKind.wrap .u8 (Er .i64 (Ae (A2 fields ha):Int) 8),IntKind.wrap .u8 (Ae (A2 fields ha):Int)]:List Int))+Ae (A2 fields ha)))<|Bc (BJ .i64 (ha+1))<|some (.next ((hb++([IntKind.wrap .u8 (Er .i64 (Ae (A2 fields ha):Int) 8),IntKind.wrap .u8 (Ae (A2 fields ha):Int)]:List Int))++E7 (A2 fields ha),ha+1)))) (Ad (.out (.go hb)))
def Ry (ha:(List Int)):Option (Aw×Int):=
 Ad (Qv ha,0)
def Aeg (F:Nat)(fields:(List Aw)):Option (Aw×Int):=
 By (Ac (64<(Ae fields:Int))) (Ad (([]:Aw),3)) (BB (Cp (λσ=>Ls fields σ.1 σ.2) F (([IntKind.wrap .u8 (Ae fields:Int)]:List Int),0)) (Cb λν=>Ry ν))
def GO (ha:Int):Option ((List Aw)×Int):=
 Ad (([]:List Aw),ha)
def EF (s ha:Aw)(hb:(List Aw))(hh hd:Int):Option (Stp (Aw×(List Aw)×Int×Int) (Out ((List Aw)×Int) (Aw×(List Aw)))):=
 By (Ac (hd<(BA s 0))) (By (Ac ((ha.length:Int)<2)) (BB (GO 14) λhe=>Ad (.out (.ret he))) (Bc (CE 0 (ha.length:Int))<|Bc (BJ .i64 (BA ha 0))<|Bc (CE 1 (ha.length:Int))<|Bc (BJ .i64 (BA ha 1))<|Bc (Gk 2 (ha.length:Int))<|By (Ac (4000<(Rt .i64 (HF .i64 (BA ha 0) 8) (BA ha 1)))) (BB (GO 13) λhf=>Ad (.out (.ret hf))) (By (Ac ((Ae (Ap (Ao 2) ha):Int)<(Rt .i64 (HF .i64 (BA ha 0) 8) (BA ha 1)))) (BB (GO 14) λhg=>Ad (.out (.ret hg))) (Bc (Gk (Rt .i64 (HF .i64 (BA ha 0) 8) (BA ha 1)) (Ae (Ap (Ao 2) ha):Int))<|Bc (De 16 (hb.length+Ae ([Aq (Ao (Rt .i64 (HF .i64 (BA ha 0) 8) (BA ha 1))) (Ap (Ao 2) ha)]:List Aw)))<|Bc (BJ .i64 (hd+1))<|some (.next (Ap (Ao (Rt .i64 (HF .i64 (BA ha 0) 8) (BA ha 1))) (Ap (Ao 2) ha),hb++([Aq (Ao (Rt .i64 (HF .i64 (BA ha 0) 8) (BA ha 1))) (Ap (Ao 2) ha)]:List Aw),Rt .i64 (HF .i64 (BA ha 0) 8) (BA ha 1),hd+1)))))) (Ad (.out (.go (ha,hb))))
def J9 (hb:Aw)(ha:(List Aw)):Option ((List Aw)×Int):=
 By (!Ac (hb=([]:Aw))) (GO 13) (Bc (Gk (ha.length:Int) (ha.length:Int))<|some (Aq (Ao (ha.length:Int)) ha,0))
def Rx (F:Nat)(s:Aw):Option ((List Aw)×Int):=
 By (Ac (s=([]:Aw))) (GO 14) (Bc (CE 0 (Ae s:Int))<|Bc (BJ .i64 (BA s 0))<|Bc (Gk 1 (Ae s:Int))<|By (Ac (64<(BA s 0))) (GO 13) (BB (Cp (λσ=>EF s σ.1 σ.2.1 σ.2.2.1 σ.2.2.2) F (Ap (Ao 1) s,([]:List Aw),0,0)) (Cb λν=>J9 ν.1 ν.2)))
def X5 (F:Nat)(body:Aw):Option (Aw×Int):=
 By (Ac (262136<(Ae body:Int))) (Ad (([]:Aw),3)) (BB (Ph (IntKind.wrap .u32 (Ae body:Int))) λr4=>BB (Aja F body) λr7=>BB (Ph r7) λha=>Bc (BJ .i64 ((Ae r4:Int)+(ha.length:Int)))<|Bc (BJ .i64 ((Ae (r4++ha):Int)+(Ae body:Int)))<|some ((r4++ha)++body,0))
def Aeh (F:Nat)(s:Aw):Option (Aw×Int×Int):=
 By (Ac ((Ae s:Int)<8)) (Ad (([]:Aw),0,14)) (BB (Rz s) λr4=>By (Ac (262136<(IntKind.wrap .i64 r4))) (Ad (([]:Aw),0,13)) (Bc (BJ .i64 ((Ae s:Int)-8))<|By (Ac (((Ae s:Int)-8)<(IntKind.wrap .i64 r4))) (Ad (([]:Aw),0,14)) (Bc (BJ .i64 (8+(IntKind.wrap .i64 r4)))<|Bc (Gk 8 (8+(IntKind.wrap .i64 r4)))<|Bc (Gk (8+(IntKind.wrap .i64 r4)) (Ae s:Int))<|BB (Aja F (Aq (Ao (8+(IntKind.wrap .i64 r4))-Ao 8) (Ap (Ao 8) s))) λha=>Bc (Gk 4 (Ae s:Int))<|BB (Rz (Ap (Ao 4) s)) λhb=>By (!Ac (ha=hb)) (Ad (([]:Aw),0,13)) (Ad (Aq (Ao (8+(IntKind.wrap .i64 r4))-Ao 8) (Ap (Ao 8) s),8+(IntKind.wrap .i64 r4),0)))))
def KL (F:Nat)(s:Aw)(hd:(List Aw))(ha:Int):Option (Stp ((List Aw)×Int) (Out ((List Aw)×Int) ((List Aw)×Int))):=
 By (Ac (ha<(Ae s:Int))) (Bc (Gk ha (Ae s:Int))<|BB (Aeh F (Ap (Ao ha) s)) λhb=>By (!Ac (hb.2.2=0)) (Ad (.out (.go (hd,ha)))) (Bc (De 16 (hd.length+Ae ([hb.1]:List Aw)))<|Bc (BJ .i64 (ha+hb.2.1))<|some (.next (hd++([hb.1]:List Aw),ha+hb.2.1)))) (Ad (.out (.go (hd,ha))))
def Pg (ha:(List Aw))(hb:Int):Option ((List Aw)×Int):=
 Bc (Gk (ha.length:Int) (ha.length:Int))<|some (Aq (Ao (ha.length:Int)) ha,hb)
def YT (F:Nat)(s:Aw):Option ((List Aw)×Int):=
 BB (Cp (λσ=>KL F s σ.1 σ.2) F (([]:List Aw),0)) (Cb λν=>Pg ν.1 ν.2)
def Kd (F:Nat)(bodies:(List Aw))(hb:(List Int))(hd:Int):Option (Stp ((List Int)×Int) (Out (Aw×Int) ((List Int)))):=
 By (Ac (hd<(Ae bodies:Int))) (Bc (CE hd (Ae bodies:Int))<|BB (X5 F (A2 bodies hd)) λha=>Bc (imp (!(!Ac (ha.2=0))) (BJ .i64 ((hb.length:Int)+(ha.1.length:Int))))<|By (((!Ac (ha.2=0))||(Ac (262144<((hb.length:Int)+(ha.1.length:Int)))))) (Ad (.out (.ret (([]:Aw),3)))) (Bc (De 1 (hb.length+ha.1.length))<|Bc (BJ .i64 (hd+1))<|some (.next (hb++E7 ha.1,hd+1)))) (Ad (.out (.go hb)))
def Ox (ha:(List Int)):Option (Aw×Int):=
 Ad (Qv ha,0)
def Aei (F:Nat)(bodies:(List Aw)):Option (Aw×Int):=
 BB (Cp (λσ=>Kd F bodies σ.1 σ.2) F (([]:List Int),0)) (Cb λν=>Ox ν)
def Mz (hb ha:Int):Option (Stp (Int×Int) (Out (Stp (Int×Int) (Out Int Int)) (Int×Int×Int×Bool))):=
 By (Ac (ha<8)) (Bc (BJ .i64 (ha+1))<|some (.next ((bif Ac ((Sk .u32 hb 1)=1) then Kn .u32 (Er .u32 hb 1) 3988292384 else Er .u32 hb 1),ha+1))) (Ad (.out (.go (hb,ha,ha,Ac (ha<8)))))
def QP (ha hb hd he:Int)(hf:Bool):Option (Stp (Int×Int) (Out Int Int)):=
 Bc (BJ .i64 (ha+1))<|some (.next (hb,ha+1))
def JV (F:Nat)(s:Aw)(hb ha:Int):Option (Stp (Int×Int) (Out Int Int)):=
 By (Ac (ha<(Ae s:Int))) (Bc (CE ha (Ae s:Int))<|BB (Cp (λσ=>Mz σ.1 σ.2) F (Kn .u32 hb (IntKind.wrap .u32 (BA s ha)),0)) (Cb λν=>QP ha ν.1 ν.2.1 ν.2.2.1 ν.2.2.2)) (Ad (.out (.go hb)))
def QQ (ha:Int):Option Int:=
 Ad (Ac9 .u32 ha)
def Aag (F:Nat)(s:Aw):Option Int:=
 BB (Cp (λσ=>JV F s σ.1 σ.2) F (4294967295,0)) (Cb λν=>QQ ν)
def Qa (n:Int):Option ((List Int)):=
 Ad ([IntKind.wrap .u8 (Er .u32 n 24),IntKind.wrap .u8 (Er .u32 n 16),IntKind.wrap .u8 (Er .u32 n 8),IntKind.wrap .u8 n]:List Int)
def Jw (fields:(List Aw))(hb:(List Int))(ha:Int):Option (Stp ((List Int)×Int) (Out (Aw×Int) ((List Int)))):=
 By (Ac (ha<(Ae fields:Int))) (Bc (CE ha (Ae fields:Int))<|By (Ac (4000<(Ae (A2 fields ha):Int))) (Ad (.out (.ret (([]:Aw),3)))) (Bc (BJ .i64 (Int.tdiv (Ae (A2 fields ha):Int) 256))<|Bc (De 1 (hb.length+Ae ([IntKind.wrap .u8 (Int.tdiv (Ae (A2 fields ha):Int) 256),IntKind.wrap .u8 (Int.tmod (Ae (A2 fields ha):Int) 256)]:List Int)))<|Bc (De 1 (Ae (hb++([IntKind.wrap .u8 (Int.tdiv (Ae (A2 fields ha):Int) 256),IntKind.wrap .u8 (Int.tmod (Ae (A2 fields ha):Int) 256)]:List Int))+Ae (A2 fields ha)))<|Bc (BJ .i64 (ha+1))<|some (.next ((hb++([IntKind.wrap .u8 (Int.tdiv (Ae (A2 fields ha):Int) 256),IntKind.wrap .u8 (Int.tmod (Ae (A2 fields ha):Int) 256)]:List Int))++E7 (A2 fields ha),ha+1)))) (Ad (.out (.go hb)))
def OK (ha:(List Int)):Option (Aw×Int):=
 Ad (Qv ha,0)
def Yo (F:Nat)(fields:(List Aw)):Option (Aw×Int):=
 By (Ac (64<(Ae fields:Int))) (Ad (([]:Aw),3)) (BB (Cp (λσ=>Jw fields σ.1 σ.2) F (([IntKind.wrap .u8 (Ae fields:Int)]:List Int),0)) (Cb λν=>OK ν))
def Ed (s:Aw)(hb:(List Aw))(ha hd:Int):Option (Stp ((List Aw)×Int×Int) (Out ((List Aw)×Int) ((List Aw)×Int))):=
 By (Ac (hd<(BA s 0))) (Bc (BJ .i64 ((Ae s:Int)-ha))<|By (Ac (((Ae s:Int)-ha)<2)) (Ad (.out (.ret (([]:List Aw),14)))) (Bc (CE ha (Ae s:Int))<|Bc (BJ .i64 (BA s ha))<|Bc (BJ .i64 ((BA s ha)*256))<|Bc (BJ .i64 (ha+1))<|Bc (CE (ha+1) (Ae s:Int))<|Bc (BJ .i64 (BA s (ha+1)))<|Bc (BJ .i64 (((BA s ha)*256)+(BA s (ha+1))))<|By (Ac (4000<(((BA s ha)*256)+(BA s (ha+1))))) (Ad (.out (.ret (([]:List Aw),13)))) (Bc (BJ .i64 (((Ae s:Int)-ha)-2))<|By (Ac ((((Ae s:Int)-ha)-2)<(((BA s ha)*256)+(BA s (ha+1))))) (Ad (.out (.ret (([]:List Aw),14)))) (Bc (BJ .i64 (ha+2))<|Bc (BJ .i64 ((ha+2)+(((BA s ha)*256)+(BA s (ha+1)))))<|Bc (Gk (ha+2) ((ha+2)+(((BA s ha)*256)+(BA s (ha+1)))))<|Bc (Gk ((ha+2)+(((BA s ha)*256)+(BA s (ha+1)))) (Ae s:Int))<|Bc (De 16 (hb.length+Ae ([Aq (Ao ((ha+2)+(((BA s ha)*256)+(BA s (ha+1))))-Ao (ha+2)) (Ap (Ao (ha+2)) s)]:List Aw)))<|Bc (BJ .i64 (hd+1))<|some (.next (hb++([Aq (Ao ((ha+2)+(((BA s ha)*256)+(BA s (ha+1))))-Ao (ha+2)) (Ap (Ao (ha+2)) s)]:List Aw),(ha+2)+(((BA s ha)*256)+(BA s (ha+1))),hd+1)))))) (Ad (.out (.go (hb,ha))))
def IB (s:Aw)(ha:(List Aw))(hb:Int):Option ((List Aw)×Int):=
 By (Ac (hb<(Ae s:Int))) (Ad (([]:List Aw),13)) (Ad (ha,0))
def QL (F:Nat)(s:Aw):Option ((List Aw)×Int):=
 By (Ac ((Ae s:Int)<1)) (Ad (([]:List Aw),14)) (Bc (CE 0 (Ae s:Int))<|By (Ac (64<(BA s 0))) (Ad (([]:List Aw),13)) (Bc (BJ .i64 (BA s 0))<|BB (Cp (λσ=>Ed s σ.1 σ.2.1 σ.2.2) F (([]:List Aw),1,0)) (Cb λν=>IB s ν.1 ν.2)))
def UQ (F:Nat)(body:Aw):Option (Aw×Int):=
 By (Ac (262136<(Ae body:Int))) (Ad (([]:Aw),3)) (BB (Qa (IntKind.wrap .u32 (Ae body:Int))) λr4=>BB (Aag F body) λr7=>BB (Qa r7) λha=>Bc (BJ .i64 ((Ae (Qv r4):Int)+(Ae (Qv ha):Int)))<|Bc (BJ .i64 ((Ae ((Qv r4)++(Qv ha)):Int)+(Ae body:Int)))<|some (((Qv r4)++(Qv ha))++body,0))
def Yp (F:Nat)(s:Aw):Option (Aw×Int×Int):=
 By (Ac ((Ae s:Int)<8)) (Ad (([]:Aw),0,14)) (Bc (CE 0 (Ae s:Int))<|Bc (BJ .i64 (BA s 0))<|Bc (BJ .i64 ((BA s 0)*256))<|Bc (CE 1 (Ae s:Int))<|Bc (BJ .i64 (BA s 1))<|Bc (BJ .i64 (((BA s 0)*256)+(BA s 1)))<|Bc (BJ .i64 ((((BA s 0)*256)+(BA s 1))*256))<|Bc (CE 2 (Ae s:Int))<|Bc (BJ .i64 (BA s 2))<|Bc (BJ .i64 (((((BA s 0)*256)+(BA s 1))*256)+(BA s 2)))<|Bc (BJ .i64 ((((((BA s 0)*256)+(BA s 1))*256)+(BA s 2))*256))<|Bc (CE 3 (Ae s:Int))<|Bc (BJ .i64 (BA s 3))<|Bc (BJ .i64 (((((((BA s 0)*256)+(BA s 1))*256)+(BA s 2))*256)+(BA s 3)))<|By (Ac (262136<(((((((BA s 0)*256)+(BA s 1))*256)+(BA s 2))*256)+(BA s 3)))) (Ad (([]:Aw),0,13)) (Bc (BJ .i64 ((Ae s:Int)-8))<|By (Ac (((Ae s:Int)-8)<(((((((BA s 0)*256)+(BA s 1))*256)+(BA s 2))*256)+(BA s 3)))) (Ad (([]:Aw),0,14)) (Bc (BJ .i64 (8+(((((((BA s 0)*256)+(BA s 1))*256)+(BA s 2))*256)+(BA s 3))))<|Bc (Gk 8 (8+(((((((BA s 0)*256)+(BA s 1))*256)+(BA s 2))*256)+(BA s 3))))<|Bc (Gk (8+(((((((BA s 0)*256)+(BA s 1))*256)+(BA s 2))*256)+(BA s 3))) (Ae s:Int))<|BB (Aag F (Aq (Ao (8+(((((((BA s 0)*256)+(BA s 1))*256)+(BA s 2))*256)+(BA s 3)))-Ao 8) (Ap (Ao 8) s))) λha=>BB (Qa ha) λhb=>Bc (Gk 4 8)<|Bc (Gk 8 (Ae s:Int))<|By (!Ac ((Qv hb)=(Aq (Ao 8-Ao 4) (Ap (Ao 4) s)))) (Ad (([]:Aw),0,13)) (Ad (Aq (Ao (8+(((((((BA s 0)*256)+(BA s 1))*256)+(BA s 2))*256)+(BA s 3)))-Ao 8) (Ap (Ao 8) s),8+(((((((BA s 0)*256)+(BA s 1))*256)+(BA s 2))*256)+(BA s 3)),0)))))
def Iu (F:Nat)(s:Aw)(hd:(List Aw))(ha:Int):Option (Stp ((List Aw)×Int) (Out ((List Aw)×Int) Unit)):=
 Bc (Gk ha (Ae s:Int))<|BB (Yp F (Ap (Ao ha) s)) λhb=>By (!Ac (hb.2.2=0)) (Ad (.out (.ret (hd,ha)))) (Bc (De 16 (hd.length+Ae ([hb.1]:List Aw)))<|Bc (BJ .i64 (ha+hb.2.1))<|some (.next (hd++([hb.1]:List Aw),ha+hb.2.1)))
def UP :Option ((List Aw)×Int):=
 Ai
def QM (F:Nat)(s:Aw):Option ((List Aw)×Int):=
 BB (Cp (λσ=>Iu F s σ.1 σ.2) F (([]:List Aw),0)) (Cb λν=>UP )
def IC (F:Nat)(bodies:(List Aw))(hb:(List Int))(ha:Int):Option (Stp ((List Int)×Int) (Out (Aw×Int) ((List Int)))):=
 By (Ac (ha<(Ae bodies:Int))) (Bc (CE ha (Ae bodies:Int))<|BB (UQ F (A2 bodies ha)) λhd=>Bc (De 1 (hb.length+hd.1.length))<|Bc (BJ .i64 (ha+1))<|some (.next (hb++E7 hd.1,ha+1))) (Ad (.out (.go hb)))
def Mx (ha:(List Int)):Option (Aw×Int):=
 Ad (Qv ha,0)
def ID (bodies:(List Aw))(hb ha:Int):Option (Stp (Int×Int) (Out (Aw×Int) Int)):=
 By (Ac (ha<(Ae bodies:Int))) (Bc (CE ha (Ae bodies:Int))<|Bc (imp (!(Ac (262136<(Ae (A2 bodies ha):Int)))) (BJ .i64 (hb+8)))<|Bc (imp (!(Ac (262136<(Ae (A2 bodies ha):Int)))) (BJ .i64 ((hb+8)+(Ae (A2 bodies ha):Int))))<|By (((Ac (262136<(Ae (A2 bodies ha):Int)))||(Ac (262144<((hb+8)+(Ae (A2 bodies ha):Int)))))) (Ad (.out (.ret (([]:Aw),3)))) (Bc (BJ .i64 (hb+8))<|Bc (BJ .i64 ((hb+8)+(Ae (A2 bodies ha):Int)))<|Bc (BJ .i64 (ha+1))<|some (.next ((hb+8)+(Ae (A2 bodies ha):Int),ha+1)))) (Ad (.out (.go hb)))
def My (F:Nat)(bodies:(List Aw))(ha:Int):Option (Aw×Int):=
 Bc (De 1 (Ao ha))<|Bc (Ac (0≤ha))<|BB (Cp (λσ=>IC F bodies σ.1 σ.2) F (([]:List Int),0)) (Cb λν=>Mx ν)
def Yq (F:Nat)(bodies:(List Aw)):Option (Aw×Int):=
 BB (Cp (λσ=>ID bodies σ.1 σ.2) F (0,0)) (Cb λν=>My F bodies ν)
end Go.Proofs.YtiddaamglmmnaaaGreatDoor
namespace Go.Proofs.YtiddaamglmmnaaaGreatDoor.Q
open Go Go.RowKit
set_option linter.unusedVariables false
set_option linter.unusedSimpArgs false
section
variable {P : Program} {n : Nat} {c : Cx} {l : Fr} {H : List Ent} {d : Option Nat} {x y : Operand} {t t' ty : TypeId} {pos : String} {af : Array Edge} {g : Option (Nat × Bool)} {k k' : IntKind} {p q : Int}
theorem Amb (hx:ev l x=Ad (rI k p))(hy:ev l y=Ad (rI k q)):Ck P n c l H { dst:=d,op:=.binOp .and t x y t',type:=ty,pos:=pos,after:=af,guard:=g } (rI k (Sk k p q)):=λa w Z ha _=>DX<|by
 simp[execOp,ha.eval hx,ha.eval hy,CN,binOp,Op.intBits,Sk]
theorem AkL (hx:ev l x=Ad (rI k p))(hy:ev l y=Ad (rI k q)):Ck P n c l H { dst:=d,op:=.binOp .or t x y t',type:=ty,pos:=pos,after:=af,guard:=g } (rI k (Rt k p q)):=λa w Z ha _=>DX<|by
 simp[execOp,ha.eval hx,ha.eval hy,CN,binOp,Op.intBits,Rt]
theorem Aat (hx:ev l x=Ad (rI k p))(hy:ev l y=Ad (rI k q)):Ck P n c l H { dst:=d,op:=.binOp .xor t x y t',type:=ty,pos:=pos,after:=af,guard:=g } (rI k (Kn k p q)):=λa w Z ha _=>DX<|by
 simp[execOp,ha.eval hx,ha.eval hy,CN,binOp,Op.intBits,Kn]
theorem Ad7 (hx:ev l x=Ad (rI k p))(hy:ev l y=Ad (rI k' q))(h0:Ac (0≤q)=Af):Ck P n c l H { dst:=d,op:=.binOp .shl t x y t',type:=ty,pos:=pos,after:=af,guard:=g } (rI k (HF k p q)):=λa w Z ha _=>DX<|by
 have h1 : ¬ q<0:=by have:=Aq0 h0;omega
 simp[execOp,ha.eval hx,ha.eval hy,CN,binOp,Op.shift,HF,h1]
theorem Oe (hx:ev l x=Ad (rI k p))(hy:ev l y=Ad (rI k' q))(h0:Ac (0≤q)=Af):Ck P n c l H { dst:=d,op:=.binOp .shr t x y t',type:=ty,pos:=pos,after:=af,guard:=g } (rI k (Er k p q)):=λa w Z ha _=>DX<|by
 have h1 : ¬ q<0:=by have:=Aq0 h0;omega
 simp[execOp,ha.eval hx,ha.eval hy,CN,binOp,Op.shift,Er,h1]
theorem Ad9 (hx:ev l x=Ad (rI k p)):Ck P n c l H { dst:=d,op:=.unOp .xor t x,type:=ty,pos:=pos,after:=af,guard:=g } (rI k (Ac9 k p)):=λa w Z ha _=>DX<|by
 simp[execOp,ha.eval hx,Op.unary,Op.intBits,Ac9,Kn]
end
variable{α:Type}{enc:α→Rp}{ys:List α}
theorem AmN [Inhabited α]{j:Int}(hg:CE j (Ae ys:Int)=Af):(List.map enc ys)[j.toNat]? =Ad (enc (A2 ys j)):=by
 have h0:=(DY hg).1;have h1:=(DY hg).2;have hl:j.toNat<Ae ys:=Ab
 simp[A2,Aqx hl]
theorem AkZ {j:Int}(hg:CE j (Ae ys:Int)=Af):Nat.blt j.toNat (Ae (List.map enc ys))=Af:=by
 have h0:=(DY hg).1;have h1:=(DY hg).2;simp;omega
section
variable {P : Program} {n : Nat} {c : Cx} {ops : Array Oper} {Q : Exit → Act → World → Prop} {rest : List Oper} {l : Fr} {H H' : List Ent} {d : Nat} {d' : Option Nat} {x y : Operand} {t ty e : TypeId} {pos : String} {af : Array Edge} {g : Option (Nat × Bool)} {k : IntKind} {b i len : Nat} {j : Int}
theorem Aif (ht:P.underlying t=Ad (.array len e))(hz:∀w,(sizeOf e).run P w = .ok 1 w)(hx:ev l x=Ad (rv (.pointer (Ad ⟨b,0,Ai⟩))))(hy:ev l y=Ad (rI k j))(hg:CE j (len:Int)=Af) :
  Ck P n c l H { dst:=d',op:=.indexAddr t x y,type:=ty,pos:=pos,after:=af,guard:=g } (rv (.pointer (Ad ⟨b,j.toNat,Ai⟩))):=λa w Z ha hw=>DX<|by
 have h0:=(DY hg).1;have h1:=(DY hg).2;simp[execOp,ha.eval hx,ha.eval hy,Instr.indexAt,Instr.sureAddr,asIntOf,run_underlying ht,h0,h1,hz,MP]
theorem Aib [Inhabited α](hag:∀w,(isAgg t).run P w = .ok Ah w)(hx:ev l x=Ad (rv (.pointer (Ad ⟨b,j.toNat,Ai⟩))))(hi:H[i]? =Ad (.blk b (List.map enc ys) e))(hg:CE j (Ae ys:Int)=Af) :
  Ck P n c l H { dst:=d',op:=.load t x,type:=ty,pos:=pos,after:=af,guard:=g } (enc (A2 ys j)):=Bq _ hag hx hi (AmN hg)
theorem AeD [Inhabited α]{v:α}(hag:∀w,(sizeOf t).run P w = .ok 1 w)(hx:ev l x=Ad (rv (.pointer (Ad ⟨b,j.toNat,Ai⟩))))(hy:ev l y=Ad (enc v))(hv:Zg H (enc v))
  (hi:H[i]? =Ad (.blk b (List.map enc ys) e)) (hg:CE j (Ae ys:Int)=Af) (hH:H.set i (.blk b (List.map enc (List.set ys j.toNat v)) e)=H')
  (h:WL P n c ops Q rest l H'):WL P n c ops Q ({ dst:=Ai,op:=.store t x y,type:=ty,pos:=pos,after:=af,guard:=Ai }::rest) l H:=
 Adf hag hx hy hv hi (AkZ hg) (cs':=List.map enc (List.set ys j.toNat v)) (by rw[List.map_set]) hH h
theorem Acg {sz:Nat}(hag:∀w,(isAgg t).run P w = .ok Af w)(hsz:∀w,(sizeOf t).run P w = .ok sz w)(hx:ev l x=Ad (rv (.pointer (Ad ⟨b,0,Ai⟩))))(hi:H[i]? =Ad (.blk b (List.map enc ys) e))(hl:Ac (Ae ys=sz)=Af) :
  Ck P n c l H { dst:=d',op:=.load t x,type:=ty,pos:=pos,after:=af,guard:=g } (Dr (List.map enc ys)):=DJ _ hag hsz hx hi (by rw[List.drop_zero,List.take_of_length_le (by rw[Aqz];have:=Aq0 hl;omega)]) (by rw[Aqz];exact Aq0 hl)
theorem SH {zs:List α}{sz:Nat}(hsz:∀w,(sizeOf t).run P w = .ok sz w)(hx:ev l x=Ad (rv (.pointer (Ad ⟨b,0,Ai⟩))))(hy:ev l y=Ad (Dr (List.map enc zs)))(h1:∀x,(enc x).one=Af)
  (hi:H[i]? =Ad (.blk b (List.map enc ys) e)) (hl:Ac (Ae ys=sz)=Af) (hl2:Ac (Ae zs=sz)=Af) (hH:H.set i (.blk b (List.map enc zs) e)=H')
  (h:WL P n c ops Q rest l H'):WL P n c ops Q ({ dst:=Ai,op:=.store t x y,type:=ty,pos:=pos,after:=af,guard:=Ai }::rest) l H:=
 SI hsz hx hy (by rw[Aqz];exact Aq0 hl2) (CB.c (by simp[List.all_map,h1])) hi (by have:=Aq0 hl;simp;omega)
  (cs':=List.map enc zs) (by have:=Aq0 hl;rw[List.take_zero,AqH,List.drop_of_length_le (by rw[Aqz];omega),AqJ]) hH h
theorem Ale {sz:Nat}(hl:Ac (Ae ys=sz)=Af):Ae (List.map enc ys)=sz:=by rw[Aqz];exact Aq0 hl
end
def VH (ops:List Oper)(N:Nat):Bool:=
 let cl:=Qn ops []
 (As (Ae ops)).all (λi=>(E5 (ops.getD i default)).all (·<i))&&
 (As (Ae ops)).all (λi=>i<N||(As i).all (λj=>(cl.getD i 0).testBit j))
variable{listed:Array Bool}{o:Oper}{ops:List Oper}{i id:Nat}
section
variable {P : Program} {Q : Exit → Act → World → Prop}
theorem Abf {len m:Nat}(hs:listed.size=len)(hm:m≤len)(h:∀j,j<len→(listed.getD j Af=Af↔j<m)):listed.toList.count Ah=len-m:=by
 have:listed.toList=Au m Af++Au (len-m) Ah:=by
  apply List.ext_getElem
  ·simp[hs];omega
  ·intro j h1 h2;have hj:j<len:=by simpa[hs] using h1
   have:=h j hj;rw[Array.getD_eq_getD_getElem?,Array.getElem?_eq_getElem Ab] at this;simp only[AqE] at this;rw[Array.getElem_toList,List.getElem_append]
   split
   ·rename_i h3
    simp at h3;simp[this.2 h3]
   ·rename_i h3
    simp at h3;simp only[List.getElem_replicate]
    cases hb:listed[j] with
    | false=>rfl
    | true=>have:=this.1 hb;omega
 rw[this];simp[List.count_append,List.count_replicate]
theorem AdZ {j:Nat}(h:j<listed.size)(d d':Bool):listed.getD j d=listed.getD j d':=by
 simp[Array.getD_eq_getD_getElem?,Array.getElem?_eq_getElem h]
theorem VN (ho:ops[i]? =Ad o)(hb:∀e∈E5 o,listed.getD e Af=Af)
  (hcl:∀j o,ops[j]? =Ad o→listed.getD j Af=Af→∀e∈E5 o,listed.getD e Af=Af) (j:Nat) (h:((Qn ops []).getD i 0).testBit j=Af):j=i∨listed.getD j Af=Af:=
 JA ops (λk=>k=i∨listed.getD k Af=Af) ops [] (λt o' ht e he hF=>by
  rcases hF with hF | hF
  ·simp at hF;subst hF;rw[ho] at ht;simp at ht;subst ht;exact .inr (hb e he)
  ·exact .inr (hcl t o' ht (by simpa using hF) e he)) (λj i hb=>by simp at hb) i j h (.inl rfl)
theorem PW (hsz:listed.size=Ae ops)(hlt:∀i,i<Ae ops→∀e∈E5 (ops.getD i default),e<i)(h:i∈Region.ready .any ops.toArray listed) :
  listed.getD i Af=Ah∧i<Ae ops∧∃o,ops[i]? =Ad o∧∀e∈E5 o,listed.getD e Af=Af:=by
 obtain⟨h1,o,ho,h2⟩:=mem_ready.1 h;have ho':ops[i]? =Ad o:=by simpa using ho
 have hil:=(List.getElem?_eq_some_iff.1 ho').1;refine⟨h1,hil,o,ho',λe he=>?_⟩;have hei:=hlt i hil e (by rw[Aqy,ho'];exact he);simp only[E5,List.mem_map,List.mem_filter] at he;obtain⟨x,⟨hx1,hx2⟩,rfl⟩:=he;have h3:=h2 x (by simpa using hx1) hx2;rw[AdZ Ab Af Ah];exact h3
theorem PC (hsz:listed.size=Ae ops)(hlt:∀i,i<Ae ops→∀e∈E5 (ops.getD i default),e<i)(h:Region.ready .any ops.toArray listed=[]) :
  ∀j,j<Ae ops→listed.getD j Af=Af:=by
 intro j
 induction j using Nat.strongRecOn with
 | ind j ih=>
  intro hj
  cases hb:listed.getD j Af with
  | true=>rfl
  | false=>
   have:j∈Region.ready .any ops.toArray listed:=mem_ready.2 ⟨hb,ops[j],by simp[hj],λe he hbn=>by
    have hel:e.on<j:=hlt j hj e.on (by
     rw[Aqy,Aqx hj];simp only[E5,AqE,List.mem_map,List.mem_filter];exact⟨e,⟨by simpa using he,hbn⟩,rfl⟩)
    rw[AdZ Ab Ah Af];exact ih e.on hel Ab⟩
   rw[h] at this;cases this
theorem T4 {j:Nat}(hi:i<listed.size):(listed.setIfInBounds i Af).getD j Af=Af↔(j=i∨listed.getD j Af=Af):=by
 by_cases hj:i=j
 ·subst hj;simp[hi]
 ·rw[getD_set_ne Af hj];exact⟨.inr,λh=>h.elim (λh=>absurd h.symm hj) id⟩
theorem AeK {fuel:Nat}(hi:i<listed.size)(hun:listed.getD i Af=Ah)(hc:listed.toList.count Ah=fuel+1):(listed.setIfInBounds i Af).toList.count Ah=fuel:=by
 have hfi:listed.toList[i]? =Ad Ah:=by
  rw[Array.getD_eq_getD_getElem?,Array.getElem?_eq_getElem hi] at hun;simp at hun;simp[hi,hun]
 rw[Array.toList_setIfInBounds];have h1:=List.count_set (a:=Af) (b:=Ah) (l:=listed.toList) (i:=i) (by simpa using hi);have h2:listed.toList[i]'(by simpa using hi)=Ah:=by
  have:=List.getElem?_eq_some_iff.1 hfi;exact this.2
 rw[h1,h2,hc];rfl
theorem S9 {ops:List Oper}{N:Nat}(hlt:∀i,i<Ae ops→∀e∈E5 (ops.getD i default),e<i)
  (hch:∀i,N≤i→i<Ae ops→∀j,j<i→((Qn ops []).getD i 0).testBit j=Af):∀(k m:Nat) (listed:Array Bool) (a:Act) (w:World),m+k=Ae ops→N≤m→listed.size=Ae ops→
   (∀j,j<Ae ops→(listed.getD j Af=Af↔j<m))→(∀j o,ops[j]? =Ad o→listed.getD j Af=Af→∀e∈E5 o,listed.getD e Af=Af)→wpList P ops.toArray Q (ops.drop m) a w→wpAny P .any ops.toArray Q k listed a w
 | 0,m,listed,a,w,hk,hN,hsz,hl,hcl,h=>by
  refine⟨?_,?_⟩
  ·cases hr:Region.ready .any ops.toArray listed with
   | nil=>rfl
   | cons i r=>
    obtain⟨h1,h2,_⟩:=PW hsz hlt (i:=i) (by rw[hr];simp);rw[(hl i h2).2 Ab] at h1;cases h1
  ·rw[List.drop_of_length_le Ab] at h;exact h
 | k+1,m,listed,a,w,hk,hN,hsz,hl,hcl,h=>by
  refine⟨λhr=>?_,λi hi=>?_⟩
  ·have:=(hl m Ab).1 (PC hsz hlt hr m Ab);omega
  ·obtain⟨h1,h2,o,ho,hb⟩:=PW hsz hlt hi;have him:i=m:=by
    have hmi : ¬ i<m:=λh'=>by rw[(hl i h2).2 h'] at h1;cases h1
    by_cases e:i=m
    ·exact e
    ·rcases VN ho hb hcl m (hch i Ab h2 m Ab) with h3 | h3
     ·exact h3.symm
     ·have:=(hl m Ab).1 h3;omega
   subst him;have hd:ops.drop i=o::ops.drop (i+1):=by
    rw[List.drop_eq_getElem_cons h2]
    congr 1
    exact(List.getElem?_eq_some_iff.1 ho).2
   rw[hd] at h;have ih:∀a' w',wpList P ops.toArray Q (ops.drop (i+1)) a' w'→wpAny P .any ops.toArray Q k (listed.setIfInBounds i Af) a' w':=λa' w' h'=>by
    refine S9 hlt hch k (i+1) _ a' w' Ab Ab (by simpa using hsz) (λj hj=>?_) (λj o' hj hlj e he=>?_) h'
    ·rw[T4 Ab,hl j hj];omega
    ·rw[T4 Ab] at hlj ⊢;rcases hlj with rfl | hlj
     ·rw[ho] at hj;simp at hj;subst hj;exact .inr (hb e he)
     ·exact .inr (hcl j o' hj hlj e he)
   unfold wpOp;have hoA:ops.toArray[i]? =Ad o:=by simpa using ho
   simp only[hoA];simp only[wpList] at h
   split
   ·rename_i hw'
    rw[Arc hw'] at h;exact h.imp (λh=>Oper.wp_mono ih h) (λh=>h)
   ·rename_i hw'
    rw[AqM hw'] at h;exact ih _ _ h
theorem Ab1 {N:Nat}(hm:P.follows .mixedOrders=Af)(hB:VH ops N=Af)(hN:N≤Ae ops)(I:(Nat→Bool)→Act→World→Prop)
  (hext:∀S S' a w,(∀j,j<N→S j=S' j)→I S a w→I S' a w) {a:Act} {w:World} (h0:I (λ_=>Ah) a { w with drawn:=w.drawn+1 })
  (step:∀S i o a w,i<N→S i=Ah→ops[i]? =Ad o→(∀e∈E5 o,e<i∧S e=Af)→I S a w→∀K:Act→World→Prop,(∀a' w',I (λj=>j ==i||S j) a' w'→K a' w')→
   (Region.wanted o (yielded ops.toArray a.tmps)=Af→o.wp P a w K Q)∧(Region.wanted o (yielded ops.toArray a.tmps)=Ah→K (a.put o.dst undef) w))
  (fin:∀a w,I (λ_=>Af) a w→wpList P ops.toArray Q (ops.drop N) a w):(Code.region id ops.toArray Af).wp P Q a w:=by
 simp only[VH,Aqu,AqX,List.mem_range,Aqq,AqF] at hB;obtain⟨hlt,hch0⟩:=hB;have hch:∀i,N≤i→i<Ae ops→∀j,j<i→((Qn ops []).getD i 0).testBit j=Af:=λi h1 h2 j hj=>by
  rcases hch0 i h2 with h3 | h3
  ·omega
  ·exact h3 j hj
 refine wp_region_any hm ?_;have main:∀(fuel:Nat) (listed:Array Bool) (a:Act) (w:World),listed.size=Ae ops→listed.toList.count Ah=fuel→I (λj=>listed.getD j Af) a w→
   (∀j o,ops[j]? =Ad o→listed.getD j Af=Af→∀e∈E5 o,listed.getD e Af=Af)→(∀j,N≤j→j<Ae ops→listed.getD j Af=Ah)→wpAny P .any ops.toArray Q fuel listed a w:=by
  intro fuel;have allin:∀(fuel:Nat) (listed:Array Bool) (a:Act) (w:World),listed.size=Ae ops→listed.toList.count Ah=fuel→I (λj=>listed.getD j Af) a w→
   (∀j o,ops[j]? =Ad o→listed.getD j Af=Af→∀e∈E5 o,listed.getD e Af=Af)→(∀j,N≤j→j<Ae ops→listed.getD j Af=Ah)→(∀j,j<N→listed.getD j Af=Af)→wpAny P .any ops.toArray Q fuel listed a w:=by
   intro fuel listed a w hsz hc hI hcl hlast hall;have hl:∀j,j<Ae ops→(listed.getD j Af=Af↔j<N):=λj hj=>by
    constructor
    ·intro h
     by_cases hjN:j<N
     ·exact hjN
     ·rw[hlast j Ab hj] at h;cases h
    ·exact hall j
   have:=Abf hsz hN hl;refine S9 hlt hch fuel N listed a w Ab (Aq7 _) hsz hl hcl (fin a w (hext _ _ a w (λj hj=>hall j hj) hI))
  induction fuel with
  | zero=>
   intro listed a w hsz hc hI hcl hlast;refine allin 0 listed a w hsz hc hI hcl hlast (λj hj=>?_)
   cases hb:listed.getD j Af with
   | true=>rfl
   | false=>
    have:Ah∈listed.toList:=by
     rw[Array.getD_eq_getD_getElem?,Array.getElem?_eq_getElem Ab] at hb;simp at hb;rw[← hb];simp
    have:=List.count_pos_iff.2 this;omega
  | succ fuel ih=>
   intro listed a w hsz hc hI hcl hlast
   by_cases hall:∀j,j<N→listed.getD j Af=Af
   ·exact allin (fuel+1) listed a w hsz hc hI hcl hlast hall
   ·refine⟨λhr=>absurd (λj hj=>PC hsz hlt hr j Ab) hall,λi hi=>?_⟩;obtain⟨h1,h2,o,ho,hb⟩:=PW hsz hlt hi;have hiN:i<N:=by
     by_cases h:i<N
     ·exact h
     ·refine absurd (λj hj=>?_) hall;rcases VN ho hb hcl j (hch i Ab h2 j Ab) with h3 | h3
      ·omega
      ·exact h3
    have K':∀a' w',I (λj=>j ==i||listed.getD j Af) a' w'→wpAny P .any ops.toArray Q fuel (listed.setIfInBounds i Af) a' w':=λa' w' hI'=>by
     refine ih _ a' w' (by simpa using hsz) (AeK Ab h1 hc) (hext _ _ a' w' (λj hj=>?_) hI') (λj o' hj hlj e he=>?_) (λj h3 h4=>?_)
     ·have:=T4 (listed:=listed) (i:=i) (j:=j) Ab
      cases hq:(listed.setIfInBounds i Af).getD j Af with
      | true=>
       rw[hq] at this;rcases this.1 rfl with h | h
       ·simp[h]
       ·simp[h]
      | false=>
       rw[hq] at this;have h5 : ¬ (j=i∨listed.getD j Af=Af):=λh=>by have:=this.2 h;cases this
       cases hz:listed.getD j Af with
       | true=>exact absurd (.inr hz) h5
       | false=>
        have:j≠i:=λh=>h5 (.inl h);simp[this]
     ·rw[T4 Ab] at hlj ⊢;rcases hlj with rfl | hlj
      ·rw[ho] at hj;simp at hj;subst hj;exact .inr (hb e he)
      ·exact .inr (hcl j o' hj hlj e he)
     ·rw[getD_set_ne Af Ab];exact hlast j h3 h4
    obtain⟨k1,k2⟩:=step _ i o a w hiN h1 ho (λe he=>⟨hlt i h2 e (by rw[Aqy,ho];exact he),hb e he⟩) hI _ K';unfold wpOp;have hoA:ops.toArray[i]? =Ad o:=by simpa using ho
    simp only[hoA]
    split
    ·rename_i hw';exact .inl (k1 hw')
    ·rename_i hw';exact k2 (by simpa using hw')
 have e0:∀j,j<Ae ops→(Array.replicate (Ae ops) Ah).getD j Af=Ah:=λj hj=>by simp[hj]
 have hsz0:ops.toArray.size=Ae ops:=Aj
 rw[hsz0];refine main (Ae ops) (Array.replicate (Ae ops) Ah) a _ Aj Aj (hext _ _ _ _ (λj hj=>(e0 j Ab).symm) h0) (λj o hj hl=>?_) (λj _ h2=>e0 j h2);rw[e0 j (List.getElem?_eq_some_iff.1 hj).1] at hl;cases hl
end
structure Sa where
 deps:List Nat
 r:Rp
 al:Option (List Rp×TypeId):=Ai
 late:Option (Nat×List Rp):=Ai
 sto:Option Nat:=Ai
def Kg (sp:List Sa)(i:Nat):Sa:=sp.getD i { deps:=[],r:=rv undef }
def spq (sp:List Sa):List Sp:=sp.map λs=>⟨s.deps,s.r,0⟩
def RN (β:Nat→Nat)(s:Sa)(i:Nat):Rp:=match s.al with
 | none=>s.r
 | some _=>rv (.pointer (Ad ⟨β i,0,Ai⟩))
def Sw (S:Nat→Bool)(late:Option (Nat×List Rp))(cs:List Rp):List Rp:=match late with
 | none=>cs
 | some q=>if S q.1 then q.2 else cs
def K7 (S:Nat→Bool)(β:Nat→Nat):List Sa→Nat→List Ent
 | [],_=>[]
 | s::r,t=>match s.al with
  | some p=>if S t then .blk (β t) (Sw S s.late p.1) p.2::K7 S β r (t+1) else K7 S β r (t+1)
  | none=>K7 S β r (t+1)
def Agl (β:Nat→Nat):List Sa→Nat→List Ent
 | [],_=>[]
 | s::r,t=>match s.al with
  | some p=>.blk (β t) (match s.late with | none=>p.1 | some q=>q.2) p.2::Agl β r (t+1)
  | none=>Agl β r (t+1)
def PL (β:Nat→Nat):List Oper→List Sa→Nat→Fr→Fr
 | o::os,s::sp,i,l=>match o.dst with
  | some d=>(d,RN β s i)::PL β os sp (i+1) l
  | none=>PL β os sp (i+1) l
 | _,_,_,l=>l
theorem Qm {S S':Nat→Bool}{late:Option (Nat×List Rp)}{cs:List Rp}(h:∀q,late=Ad q→S q.1=S' q.1):Sw S late cs=Sw S' late cs:=by
 unfold Sw
 cases late with
 | none=>rfl
 | some q=>simp only[];rw[h q rfl]
theorem IJ (S:Nat→Bool)(β:Nat→Nat)(s:Sa)(r:List Sa)(t:Nat):K7 S β (s::r) t=match s.al with
  | some p=>if S t then .blk (β t) (Sw S s.late p.1) p.2::K7 S β r (t+1) else K7 S β r (t+1)
  | none=>K7 S β r (t+1):=rfl
theorem Lu {S S':Nat→Bool}{β β':Nat→Nat}:∀(r:List Sa) (t0:Nat),(∀(t:Nat) (s:Sa),r[t]? =Ad s→s.al≠Ai→S (t0+t)=S' (t0+t)∧(S (t0+t)=Af→β (t0+t)=β' (t0+t)∧∀q,s.late=Ad q→S q.1=S' q.1))→K7 S β r t0=K7 S' β' r t0
 | [],_,_=>rfl
 | s::r,t0,h=>by
  have ih:=Lu r (t0+1) (λt s hs hn=>by
   have:=h (t+1) s (by simpa using hs) hn;rw[show t0+1+t=t0+(t+1) from Ab];exact this)
  unfold K7;rw[ih]
  cases ha:s.al with
  | none=>rfl
  | some p=>
   obtain⟨h1,h2⟩:=h 0 s rfl (by rw[ha];exact nofun);simp only[Nat.add_zero] at h1 h2;simp only[];rw[← h1]
   split
   ·rename_i hS;rw[(h2 hS).1,Qm (h2 hS).2]
   ·rfl
theorem Abb (β:Nat→Nat):∀(r:List Sa) (t0:Nat),K7 (λ_=>Af) β r t0=Agl β r t0
 | [],_=>rfl
 | s::r,t0=>by
  unfold K7 Agl;rw[Abb β r (t0+1)]
  cases s.al with
  | none=>rfl
  | some p=>cases hl:s.late<;>simp[Sw,hl]
theorem X8 (β:Nat→Nat):∀(r:List Sa) (t0:Nat),K7 (λ_=>Ah) β r t0=[]
 | [],_=>rfl
 | s::r,t0=>by
  unfold K7;rw[X8 β r (t0+1)]
  cases s.al<;>simp
theorem Aba {S:Nat→Bool}{β:Nat→Nat}{i b:Nat}{p:List Rp×TypeId}:∀(r:List Sa) (t0 k:Nat) (s:Sa),i=t0+k→r[k]? =Ad s→s.al=Ad p→S i=Ah→(∀(t:Nat) (s:Sa) (q:Nat×List Rp),r[t]? =Ad s→s.al≠Ai→s.late=Ad q→q.1≠i)→(∀q,s.late=Ad q→S q.1=Ah∧q.1≠i)→
  (K7 (λj=>j ==i||S j) (λj=>if j=i then b else β j) r t0).Perm (.blk b p.1 p.2::K7 S β r t0)
 | [],_,_,_,_,h,_,_,_,_=>by simp at h
 | s'::r,t0,0,s,hi,h,ha,hS,hne,hl=>by
  simp at h hi;subst h;subst hi;have e:=Lu (S:=λj=>j ==i||S j) (S':=S) (β:=λj=>if j=i then b else β j) (β':=β) r (i+1) (λt s hs hn=>by
   have:i+1+t≠i:=Ab
   refine⟨by simp[this],λ_=>⟨by simp[this],λq hq=>?_⟩⟩;have:=hne (t+1) s q (by simpa using hs) hn hq;simp[this])
  have ec:Sw (λj=>j ==i||S j) s'.late p.1=p.1:=by
   unfold Sw
   cases hq:s'.late with
   | none=>rfl
   | some q=>
    obtain⟨h1,h2⟩:=hl q hq;simp[h1,h2]
  unfold K7;rw[e,ha];simp only[hS,BEq.rfl,Arg,Arp,ec];simp
 | s'::r,t0,k+1,s,hi,h,ha,hS,hne,hl=>by
  have ih:=Aba (S:=S) (β:=β) (i:=i) (b:=b) (p:=p) r (t0+1) k s Ab (by simpa using h) ha hS (λt s q hs=>hne (t+1) s q (by simpa using hs)) hl;have hne0:t0≠i:=Ab
  have hne':(t0 ==i)=Ah:=by simpa using hne0
  unfold K7
  cases ha':s'.al with
  | none=>exact ih
  | some q=>
   simp only[hne',Aq9,AqM hne0];rw[Qm (S:=λj=>j ==i||S j) (S':=S) (λq hq=>by
    have:=hne 0 s' q rfl (by rw[ha'];exact nofun) hq;simp[this])]
   cases hS':S t0 with
   | true=>simpa using(AqK _ ih).trans (List.Perm.swap _ _ _)
   | false=>simpa using ih
theorem AaZ {S:Nat→Bool}{β:Nat→Nat}{i j:Nat}{p:List Rp×TypeId}{ncs:List Rp}:∀(r:List Sa) (t0 k:Nat) (s:Sa),j=t0+k→r[k]? =Ad s→s.al=Ad p→s.late=Ad (i,ncs)→S j=Af→S i=Ah→(∀(t:Nat) (s:Sa) (q:Nat×List Rp),r[t]? =Ad s→s.al≠Ai→s.late=Ad q→t0+t≠j→q.1≠i)→(∀(t:Nat) (s:Sa),r[t]? =Ad s→s.al≠Ai→t0+t≠i)→
  ∃H',(K7 S β r t0).Perm (.blk (β j) p.1 p.2::H')∧(K7 (λj=>j ==i||S j) β r t0).Perm (.blk (β j) ncs p.2::H')
 | [],_,_,_,_,h,_,_,_,_,_,_=>by simp at h
 | s'::r,t0,0,s,hj,h,ha,hl,hSj,hSi,hne,hni=>by
  simp at h hj;subst h;subst hj;have e:=Lu (S:=λx=>x ==i||S x) (S':=S) (β:=β) (β':=β) r (j+1) (λt s hs hn=>by
   have h1:=hni (t+1) s (by simpa using hs) hn;have h1':j+1+t≠i:=Ab
   refine⟨by simp[h1'],λ_=>⟨rfl,λq hq=>?_⟩⟩;have:=hne (t+1) s q (by simpa using hs) hn hq Ab;simp[this])
  refine⟨K7 S β r (j+1),?_,?_⟩
  ·rw[IJ];rw[ha];simp[hSj,Sw,hl,hSi]
  ·rw[IJ];rw[ha,e];simp[hSj,Sw,hl]
 | s'::r,t0,k+1,s,hj,h,ha,hl,hSj,hSi,hne,hni=>by
  obtain⟨H',h1,h2⟩:=AaZ (S:=S) (β:=β) (i:=i) (j:=j) (p:=p) (ncs:=ncs) r (t0+1) k s Ab (by simpa using h) ha hl hSj hSi (λt s q hs hn hq hx=>hne (t+1) s q (by simpa using hs) hn hq Ab) (λt s hs hn=>by
   have:=hni (t+1) s (by simpa using hs) hn;omega)
  cases ha':s'.al with
  | none=>exact⟨H',by rw[IJ,ha'];exact h1,by rw[IJ,ha'];exact h2⟩
  | some q=>
   have hi0:=hni 0 s' rfl (by rw[ha'];exact nofun);have hi0':(t0 ==i)=Ah:=by simpa using hi0
   have ec:Sw (λx=>x ==i||S x) s'.late q.1=Sw S s'.late q.1:=Qm (λq hq=>by
    have:=hne 0 s' q rfl (by rw[ha'];exact nofun) hq Ab;simp[this])
   cases hS':S t0 with
   | true=>
    refine⟨.blk (β t0) (Sw S s'.late q.1) q.2::H',?_,?_⟩
    ·rw[IJ];rw[ha'];simpa[hS'] using(AqK _ h1).trans (List.Perm.swap _ _ _)
    ·rw[IJ];rw[ha'];simp only[hi0',Aq9,hS',Arp,ec];exact(AqK _ h2).trans (List.Perm.swap _ _ _)
   | false=>
    refine⟨H',?_,?_⟩
    ·rw[IJ];rw[ha'];simpa[hS'] using h1
    ·rw[IJ];rw[ha'];simp only[hi0',Aq9,hS'];simpa using h2
def okA (n:Nat)(ops:List Oper)(N:Nat)(keys:List Nat)(deps:List (List Nat))(als:List Bool)(lates stos:List (Option Nat)):Bool:=
 VH ops N&&Ac (N≤Ae ops)&&
 (As N).all (λi=>match Dw ops i with
  | some d=>Ac (d<n)&&!keys.contains d&&(As N).all (λj=>j ==i||Dw ops j !=Ad d)
  | none=>Af)&&
 (As N).all (λi=>(deps.getD i []).all (λj=>Ac (j<N)&&(E5 (ops.getD i default)).contains j&&!als.getD j Af))&&
 (As N).all (λi=>match stos.getD i Ai with
  | some j=>Ac (j<N)&&(E5 (ops.getD i default)).contains j&&als.getD j Ah&&!als.getD i Af
  | none=>Af)&&
 (As N).all (λj=>match lates.getD j Ai with
  | some k=>Ac (k<N)&&als.getD j Ah&&stos.getD k Ai ==Ad j
  | none=>Af)
def An4 (P:Program)(n:Nat)(c:Cx)(opsA:Array Oper)(Q:Exit→Act→World→Prop)(l:Fr)(o:Oper)(p:List Rp×TypeId):Prop:=
 ∀H a w Z (K:Act→World→Prop),Gl n l a Z→St c H Z w→(∀b w',St c (.blk b p.1 p.2::H) Z w'→K (a.put o.dst (.pointer (Ad ⟨b,0,Ai⟩))) w')→
  Region.wanted o (yielded opsA a.tmps)=Af∧o.wp P a w K Q
def ObA (P:Program)(n:Nat)(c:Cx)(opsA:Array Oper)(Q:Exit→Act→World→Prop)(ops:List Oper)(sp:List Sa)(l0:Fr)(H:List Ent)(i:Nat)(o:Oper):Prop:=
 match (Kg sp i).sto with
 | some j=>o.dst=Ai∧∃d p ncs,Dw ops j=Ad d∧(Kg sp j).al=Ad p∧(Kg sp j).late=Ad (i,ncs)∧
   ∀b H,GA P n c opsA Q ((d,rv (.pointer (Ad ⟨b,0,Ai⟩)))::Di ops (spq sp) (Kg sp i).deps l0) (.blk b p.1 p.2::H) o (rv undef) (.blk b ncs p.2::H)
 | none=>match (Kg sp i).al with
  | none=>∀E,GA P n c opsA Q (Di ops (spq sp) (Kg sp i).deps l0) (H++E) o (Kg sp i).r (H++E)
  | some p=>An4 P n c opsA Q (Di ops (spq sp) (Kg sp i).deps l0) o p
def Qu (P:Program)(n:Nat)(c:Cx)(opsA:Array Oper)(Q:Exit→Act→World→Prop)(ops:List Oper)(sp:List Sa)(l0:Fr)(H:List Ent):Nat→List Oper→Prop
 | i,o::rest=>ObA P n c opsA Q ops sp l0 H i o∧Qu P n c opsA Q ops sp l0 H (i+1) rest
 | _,[]=>True
section
variable {P : Program} {n : Nat} {c : Cx} {opsA : Array Oper} {Q : Exit → Act → World → Prop} {l l0 : Fr} {H : List Ent} {sp : List Sa}
theorem Qu.at {ops:List Oper}:∀{k:Nat} {rest:List Oper},Qu P n c opsA Q ops sp l0 H k rest→∀(t:Nat) o,rest[t]? =Ad o→ObA P n c opsA Q ops sp l0 H (k+t) o
 | k,o::rest,⟨h1,h2⟩,t,o',ht=>by
  cases t with
  | zero=>simp at ht;subst ht;exact h1
  | succ t=>
   have:=Qu.at h2 t o' (by simpa using ht);rw[show k+(t+1)=k+1+t from Ab];exact this
 | _,[],_,t,o,h=>by simp at h
theorem TZ {β:Nat→Nat}{a:Act}{Z:Fz}(h0:Gl n l0 a Z):∀(os:List Oper) (ss:List Sa) (k:Nat),(∀(t:Nat) o s d,os[t]? =Ad o→ss[t]? =Ad s→o.dst=Ad d→∃v,a.tmps[d]? =Ad v∧(RN β s (k+t)).p Z v)→Gl n (PL β os ss k l0) a Z
 | [],_,_,_=>by unfold PL;exact h0
 | _::_,[],_,_=>by unfold PL;exact h0
 | o::os,s::ss,k,h=>by
  have ih:=TZ h0 os ss (k+1) (λt o' s' d h1 h2 h3=>by
   have:=h (t+1) o' s' d (by simpa using h1) (by simpa using h2) h3;rw[show k+1+t=k+(t+1) from Ab];exact this)
  unfold PL
  cases hd:o.dst with
  | none=>exact ih
  | some d=>
   refine⟨ih.size,ih.defers,λi r hi=>?_⟩;rw[DO] at hi
   split at hi
   ·rename_i e;subst e;simp at hi;subst hi;exact h 0 o s d rfl rfl hd
   ·exact ih.tm i r hi
theorem Amw (N:Nat)(sp:List Sa)(hm:P.follows .mixedOrders=Af)(hB:okA n ops N (Hz l0) (sp.map (·.deps)) (sp.map (·.al.isSome)) (sp.map (·.late.map (·.1))) (sp.map (·.sto))=Af)(hl0:Abo l0 l)(hsp:Ae sp=N)
  (hob:Qu P n c ops.toArray Q ops sp l0 H 0 (ops.take N)) (h:∀β,WL P n c ops.toArray Q (ops.drop N) (PL β (ops.take N) sp 0 l0) (H++Agl β sp 0)):WC P n c (.region id ops.toArray Af) Q l H:=by
 intro a w Z ha hw;simp only[okA,Aqu,AqX,List.mem_range,Aqq] at hB;obtain⟨⟨⟨⟨⟨b1,bN⟩,b2⟩,b3⟩,b4⟩,b5⟩:=hB;have hget:∀i,i<N→(ops.take N)[i]? =ops[i]?:=λi hi=>by rw[AqU,Arc hi]
 have hsa:∀i,i<N→sp[i]? =Ad (Kg sp i):=λi hi=>by
  simp[Kg,Aqy,Aqx (show i<Ae sp by omega)]
 have hspq:∀i,i<N→(Hg (spq sp) i)=⟨(Kg sp i).deps,(Kg sp i).r,0⟩:=λi hi=>by
  simp[Hg,spq,Aqy,AqI,hsa i hi]
 have hals:∀j b,j<N→(sp.map (·.al.isSome)).getD j b=(Kg sp j).al.isSome:=λj b hj=>by simp[Aqy,AqI,hsa j hj]
 have hstos:∀j,j<N→(sp.map (·.sto)).getD j Ai=(Kg sp j).sto:=λj hj=>by simp[Aqy,AqI,hsa j hj]
 have hlates:∀j,j<N→(sp.map (·.late.map (·.1))).getD j Ai=(Kg sp j).late.map (·.1):=λj hj=>by simp[Aqy,AqI,hsa j hj]
 have S1:∀i o j,i<N→ops[i]? =Ad o→(Kg sp i).sto=Ad j→j<N∧j∈E5 o∧(Kg sp j).al≠Ai∧(Kg sp i).al=Ai:=λi o j hi ho hs=>by
  have h1:=b4 i hi;rw[hstos i hi,hs] at h1;simp only[Aqu,Aq6,Aqq] at h1;obtain⟨⟨⟨h2,h3⟩,h4⟩,h5⟩:=h1;rw[hals j _ h2] at h4;rw[hals i _ hi] at h5;rw[Aqy,ho,AqE,List.contains_iff_mem] at h3;exact⟨h2,h3,λe=>(by rw[e] at h4;cases h4),(by simpa using h5)⟩
 have L1:∀t q,t<N→(Kg sp t).late=Ad q→q.1<N∧(Kg sp q.1).sto=Ad t:=λt q ht hq=>by
  have h1:=b5 t ht;rw[hlates t ht,hq] at h1;simp only[Option.map_some,Aqu,Aqq,beq_iff_eq] at h1;obtain⟨⟨h2,h3⟩,h4⟩:=h1;rw[hstos _ h2] at h4;exact⟨h2,h4⟩
 have hops:∀j,j<N→∃o,ops[j]? =Ad o:=λj hj=>⟨ops[j]'(Ab),Aqx Ab⟩
 have lt_of:∀(t:Nat) (s:Sa),sp[t]? =Ad s→t<N∧s=Kg sp t:=λt s hs=>by
  have h1:t<N:=by have:=(List.getElem?_eq_some_iff.1 hs).1;omega
  refine⟨h1,?_⟩;rw[hsa t h1] at hs;simpa using hs.symm
 have hdst:∀i o d,i<N→ops[i]? =Ad o→o.dst=Ad d→(d<n∧d ∉ Hz l0)∧∀j,j<N→j≠i→Dw ops j≠Ad d:=λi o d hi ho hd=>by
  have h3:=b2 i hi;have:Dw ops i=Ad d:=by simp[Dw,ho,hd]
  rw[this] at h3;simp only[Aqu,Aq6,AqX,List.mem_range,Aqq] at h3;refine⟨⟨h3.1.1,λhmem=>by rw[← List.contains_iff_mem] at hmem;rw[hmem] at h3;cases h3.1.2⟩,λj hj hne he=>?_⟩;have:=h3.2 j hj;simp[hne,he] at this
 refine Ab1 (N:=N) hm b1 bN (λS a w=>∃ (β:Nat→Nat) (Z:Fz),St c (H++K7 S β sp 0) Z w∧Gl n l0 a Z∧(∀j o d,j<N→S j=Af→ops[j]? =Ad o→o.dst=Ad d→∃v,a.tmps[d]? =Ad v∧(RN β (Kg sp j) j).p Z v)∧
   ∀k j,k<N→(Kg sp k).sto=Ad j→S k=Af→S j=Af)
  (λS S' a w hS hI=>?_) ⟨λ_=>0,Z,?_,ha.subL hl0,λj o d _ hS=>(by cases hS),λk j _ _ hS=>(by cases hS)⟩ (λS i o a w hi hun ho hb hI K hK=>?_) (λa w hI=>?_)
 ·obtain⟨β,Z,h1,h2,h3,h4⟩:=hI;refine⟨β,Z,?_,h2,λj o d hj hS'=>h3 j o d hj (by rw[hS j hj];exact hS'),λk j hk hs hSk=>?_⟩
  ·rw[← Lu (S:=S) (β:=β) (β':=β) sp 0 (λt s hs _=>by
    obtain⟨ht,rfl⟩:=lt_of t s hs;exact⟨hS _ Ab,λ_=>⟨rfl,λq hq=>hS _ (L1 t q ht hq).1⟩⟩)]
   exact h1
  ·obtain⟨o,ho⟩:=hops k hk;rw[← hS j (S1 k o j hk ho hs).1];exact h4 k j hk hs (by rw[hS k hk];exact hSk)
 ·rw[X8,AqJ];exact hw.drawn _
 ·obtain⟨β,Z,h1,h2,h3,hx⟩:=hI;have hput:∀k u v,a.tmps[k]? =Ad u→o.dst≠Ad k→(a.put o.dst v).tmps[k]? =Ad u:=λk u v hk hne=>by
   cases hd:o.dst with
   | none=>simpa[Act.put] using hk
   | some d=>
    simp only[Act.put,Array.getElem?_setIfInBounds];rw[AqM (λe=>hne (by rw[hd,e]))];exact hk
  have hagr:∀v Z',Fz.le Z Z'→Gl n l0 (a.put o.dst v) Z':=λv Z' hz=>by
   refine⟨?_,?_,λk r hk=>?_⟩
   ·cases o.dst<;>simp[Act.put,h2.size]
   ·cases o.dst<;>simp[Act.put,h2.defers]
   ·obtain⟨u,hu,hpu⟩:=h2.tm k r hk;exact⟨u,hput k u v hu (λe=>((hdst i o k hi ho e).1).2 (Om hk)),r.mono hz hpu⟩
  have hvals:∀(v:Value) (Z':Fz) (β':Nat→Nat),Fz.le Z Z'→(∀j,j≠i→β' j=β j)→(o.dst≠Ai→(RN β' (Kg sp i) i).p Z' v)→∀j o' d,j<N→(j ==i||S j)=Af→ops[j]? =Ad o'→o'.dst=Ad d→∃u,(a.put o.dst v).tmps[d]? =Ad u∧(RN β' (Kg sp j) j).p Z' u:=by
   intro v Z' β' hz hβ hp j o' d hj hS' ho' hd
   by_cases hji:j=i
   ·subst hji;rw[ho] at ho';simp at ho';subst ho';refine⟨v,?_,hp (by simp[hd])⟩;have hdn:d<a.tmps.size:=by rw[h2.size];exact(hdst j o d hi ho hd).1.1
    simp[Act.put,hd,hdn]
   ·have hSj:S j=Af:=by simpa[hji] using hS'
    obtain⟨u,hu,hpu⟩:=h3 j o' d hj hSj ho' hd;refine⟨u,hput d u v hu (λe=>(hdst i o d hi ho e).2 j hj hji (by simp[Dw,ho',hd])),?_⟩;have:RN β' (Kg sp j) j=RN β (Kg sp j) j:=by unfold RN;rw[hβ j hji]
    rw[this];exact(RN β (Kg sp j) j).mono hz hpu
  have hx':∀k j,k<N→(Kg sp k).sto=Ad j→(k ==i||S k)=Af→(j ==i||S j)=Af:=λk j hk hs hSk=>by
   by_cases hki:k=i
   ·subst hki;have:=(hb j (S1 k o j hk ho hs).2.1).2;simp[this]
   ·have:S j=Af:=hx k j hk hs (by simpa[hki] using hSk);simp[this]
  have hat:=hob.at i o (by rw[hget i hi];exact ho);rw[AqT] at hat;unfold ObA at hat;have hag':Gl n (Di ops (spq sp) (Kg sp i).deps l0) a Z:=Pq h2 (λj hj d hd=>by
    have h4:=b3 i hi j (by simpa[Aqy,AqI,hsa i hi] using hj);simp only[Aqu,Aq6,Aqq] at h4;obtain⟨⟨h5,h6⟩,h7⟩:=h4;rw[Aqy,ho,AqE,List.contains_iff_mem] at h6;have hjal:(Kg sp j).al=Ai:=by
     rw[hals j _ h5] at h7;simpa using h7
    obtain⟨o2,ho2⟩:=hops j h5;obtain⟨v,hv1,hv2⟩:=h3 j o2 d h5 (hb j h6).2 ho2 (by simpa[Dw,ho2] using hd);refine⟨v,hv1,?_⟩;rw[hspq j h5];simpa[RN,hjal] using hv2)
  cases hst:(Kg sp i).sto with
  | some j=>
   rw[hst] at hat;obtain⟨hod,d,p,ncs,hd,hal,hlate,hok⟩:=hat;obtain⟨hjN,hjb,_,hial⟩:=S1 i o j hi ho hst;have hSj:=(hb j hjb).2;obtain⟨H',p1,p2⟩:=AaZ (S:=S) (β:=β) (i:=i) (j:=j) (p:=p) (ncs:=ncs) sp 0 j (Kg sp j) Ab (hsa j hjN) hal hlate hSj hun (λt s q hs _ hq hne he=>by
     obtain⟨ht,rfl⟩:=lt_of t s hs;have:=(L1 t q ht hq).2;rw[he,hst] at this;simp at this;omega) (λt s hs hn he=>by
     obtain⟨ht,rfl⟩:=lt_of t s hs;rw[AqT] at he;subst he;exact hn hial)
   obtain⟨o2,ho2⟩:=hops j hjN;obtain⟨v,hv1,hv2⟩:=h3 j o2 d hjN hSj ho2 (by simpa[Dw,ho2] using hd);have hag2:Gl n ((d,rv (.pointer (Ad ⟨β j,0,Ai⟩)))::Di ops (spq sp) (Kg sp i).deps l0) a Z:=⟨hag'.size,hag'.defers,λk r hk=>by
    rw[DO] at hk
    split at hk
    ·rename_i e;subst e;simp at hk;subst hk
     exact⟨v,hv1,by simpa[RN,hal] using hv2⟩
    ·exact hag'.tm k r hk⟩
   refine hok (β j) (H++H') a w Z K hag2 (h1.perm ((List.Perm.append_left H p1).trans List.perm_middle)) (λv w' Z' hz _ hs'=>hK _ _ ⟨β,Z',?_,hagr v Z' hz,hvals v Z' β hz (λ_ _=>rfl) (λhne=>absurd hod hne),hx'⟩);exact hs'.perm (List.perm_middle.symm.trans (List.Perm.append_left H p2.symm))
  | none=>
   rw[hst] at hat;have latene:∀t q,t<N→(Kg sp t).late=Ad q→q.1≠i:=λt q ht hq he=>by
    have:=(L1 t q ht hq).2;rw[he,hst] at this;cases this
   cases hal:(Kg sp i).al with
   | none=>
    rw[hal] at hat;refine hat _ a w Z K hag' h1 (λv w' Z' hz hp hst'=>hK _ _ ⟨β,Z',?_,hagr v Z' hz,hvals v Z' β hz (λ_ _=>rfl) (λ_=>by unfold RN;rw[hal];exact hp),hx'⟩);rw[Lu (S':=S) (β':=β) sp 0 (λt s hs hn=>by
     obtain⟨ht,rfl⟩:=lt_of t s hs;have:t≠i:=λe=>by subst e;exact hn hal
     refine⟨by simp[this],λ_=>⟨rfl,λq hq=>?_⟩⟩;have:=latene t q ht hq;simp[this])]
    exact hst'
   | some p=>
    rw[hal] at hat;have key:=λK' hK'=>hat (H++K7 S β sp 0) a w Z K' hag' h1 hK';have h5:∀b w',St c (.blk b p.1 p.2::(H++K7 S β sp 0)) Z w'→K (a.put o.dst (.pointer (Ad ⟨b,0,Ai⟩))) w':=λb w' hst'=>by
     refine hK _ _ ⟨λj=>if j=i then b else β j,Z,?_,hagr _ Z (Fz.le.refl _),hvals _ Z _ (Fz.le.refl _) (λj hj=>by simp[hj]) (λ_=>by simp[RN,hal,rv]),hx'⟩;have hp:=Aba (S:=S) (β:=β) (i:=i) (b:=b) (p:=p) sp 0 i (Kg sp i) Ab (hsa i hi) hal hun (λt s q hs _ hq=>by
      obtain⟨ht,rfl⟩:=lt_of t s hs;exact latene t q ht hq) (λq hq=>by
       refine⟨?_,latene i q hi hq⟩
       cases hS:S q.1 with
       | false=>rfl
       | true=>
        obtain⟨h6,h7⟩:=L1 i q hi hq;have:=hx q.1 i h6 h7 hS;rw[this] at hun;cases hun)
     exact hst'.perm ((List.perm_middle.symm).trans (List.Perm.append_left H hp.symm))
    refine⟨λ_=>(key K h5).2,λhw'=>?_⟩;rw[(key K h5).1] at hw';cases hw'
 ·obtain⟨β,Z,h1,h2,h3,_⟩:=hI;refine h β a w Z (TZ h2 _ _ 0 (λt o s d ht hs hd=>?_)) (by rw[← Abb];exact h1);obtain⟨htN,rfl⟩:=lt_of t s hs;rw[AqT];exact h3 t o d htN rfl (by rw[← hget t htN];exact ht) hd
end
variable{af:Array Edge}{pos:String}{Q:Exit→Act→World→Prop}{ty:TypeId}
theorem Amk {l:Fr}{P:Program}{n:Nat}{c:Cx}{opsA:Array Oper}{d:Nat}{e:TypeId}{z:Value}{cs:List Rp}(hz:∀w,(zeroValue e).run P w = .ok z w)(hcs:z.cells.toList.map rv=cs) :
  An4 P n c opsA Q l { dst:=Ad d,op:=.alloc e,type:=ty,pos:=pos,after:=af,guard:=Ai } (cs,e):=λH a w Z K _ hw hK=>by
 refine⟨by simp[Region.wanted],?_⟩;unfold Oper.wp;rw[show(execOp a.eval { dst:=Ad d,op:=.alloc e,type:=ty,pos:=pos,after:=af,guard:=Ai }).run P w = .ok (.value (.pointer (Ad ⟨w.heap.size,0,Ai⟩))) (w.alloc (.cells z.cells e)) from by simp[execOp,Instr.alloc,hz,newVar,newRow,newObj,Sem.run,Sem.run_bind]];exact hK _ _ (hw.alloc _ (e:=.blk w.heap.size cs e) ⟨z.cells.toList,by simpa using heap_alloc_new w _,by subst hcs;exact BM.rvs Z _⟩ rfl)
variable{all rest:List Oper}
section
variable {P : Program} {n : Nat} {c : Cx} {opsA : Array Oper} {Q : Exit → Act → World → Prop} {l l0 : Fr} {H : List Ent} {sp : List Sa}
theorem D5 (N:Nat)(ks0:List Nat)(sp:List Sa)(hob:Qu P n c ops.toArray Q ops sp l0 H 0 (ops.take N))(h:∀β,WL P n c ops.toArray Q (ops.drop N) (PL β (ops.take N) sp 0 l0) (H++Agl β sp 0))
  (h0:Kp ks0 l l0:=by repeat (first | exact Sh | (apply Ps;rfl) | (apply Rq;rfl))) (hm:P.follows .mixedOrders=Af:=by kernel_rfl) (hB:okA n ops N (Hz l0) (sp.map (·.deps)) (sp.map (·.al.isSome)) (sp.map (·.late.map (·.1))) (sp.map (·.sto))=Af:=by kernel_rfl)
  (hsp:Ae sp=N:=by rfl):WC P n c (.region id ops.toArray Af) Q l H:=Amw N sp hm hB h0.one hsp hob h
theorem Dg {d:Nat}{op:Op}
  (hr:∀{H},Ck P n c (Di all (spq sp) (Kg sp i).deps l0) H { dst:=Ad d,op:=op,type:=ty,pos:=pos,after:=af,guard:=Ai } (Kg sp i).r) (h:Qu P n c opsA Q all sp l0 H (i+1) rest) (ha:(Kg sp i).al=Ai:=by rfl) (hs:(Kg sp i).sto=Ai:=by rfl) :
  Qu P n c opsA Q all sp l0 H i ({ dst:=Ad d,op:=op,type:=ty,pos:=pos,after:=af,guard:=Ai }::rest):=by
 refine⟨?_,h⟩;unfold ObA;rw[hs,ha];exact λ_=>ET hr
theorem Ij {d:Nat}{op:Op}
  (hr:∀{E},Ck P n c (Di all (spq sp) (Kg sp i).deps l0) (H++E) { dst:=Ad d,op:=op,type:=ty,pos:=pos,after:=af,guard:=Ai } (Kg sp i).r) (h:Qu P n c opsA Q all sp l0 H (i+1) rest) (ha:(Kg sp i).al=Ai:=by rfl) (hs:(Kg sp i).sto=Ai:=by rfl) :
  Qu P n c opsA Q all sp l0 H i ({ dst:=Ad d,op:=op,type:=ty,pos:=pos,after:=af,guard:=Ai }::rest):=by
 refine⟨?_,h⟩;unfold ObA;rw[hs,ha];exact λ_=>ET hr
theorem oal {p:List Rp×TypeId}(hr:An4 P n c opsA Q (Di all (spq sp) (Kg sp i).deps l0) o p)(h:Qu P n c opsA Q all sp l0 H (i+1) rest)(ha:(Kg sp i).al=Ad p:=by rfl)(hs:(Kg sp i).sto=Ai:=by rfl):Qu P n c opsA Q all sp l0 H i (o::rest):=by
 refine⟨?_,h⟩;unfold ObA;rw[hs,ha];exact hr
theorem RX:Qu P n c opsA Q all sp l0 H i []:=trivial
end
structure Kza (ks:List Nat) (β:Nat→Nat) (os:List Oper) (sp:List Sa) (i:Nat) (l0 l1:Fr):Prop where
 go:Kp ks (PL β os sp i l0) l1
section
variable {ks : List Nat} {β : Nat → Nat} {os : List Oper} {sp : List Sa} {i d : Nat} {l0 l1 : Fr} {ds : List Nat} {r : Rp} {p : List Rp × TypeId} {lt : Option (Nat × List Rp)} {so : Option Nat} {op : Op} {ty : TypeId} {pos : String} {af : Array Edge} {g : Option (Nat × Bool)}
theorem Amd (h:ks.contains d=Af)(t:Kza ks β os sp (i+1) l0 l1):Kza ks β ({ dst:=Ad d,op:=op,type:=ty,pos:=pos,after:=af,guard:=g }::os) ({ deps:=ds,r:=r,sto:=so }::sp) i l0 ((d,r)::l1):=⟨Ps h t.go⟩
theorem Ame (h:ks.contains d=Af)(t:Kza ks β os sp (i+1) l0 l1):Kza ks β ({ dst:=Ad d,op:=op,type:=ty,pos:=pos,after:=af,guard:=g }::os) ({ deps:=ds,r:=r,al:=Ad p,late:=lt,sto:=so }::sp) i l0 ((d,rv (.pointer (Ad ⟨β i,0,Ai⟩)))::l1):=⟨Ps h t.go⟩
theorem Amf (t:Kp ks l0 l1):Kza ks β [] [] i l0 l1:=⟨t⟩
theorem Amu {P:Program}{n:Nat}{c:Cx}{opsA:Array Oper}{H H1:List Ent}(ks:List Nat)(h:WL P n c opsA Q rest l1 H1)
  (hz:Kza ks β os sp i l0 l1:=by repeat (first | (apply Amd;rfl) | (apply Ame;rfl) | (apply kza_d;rfl) | apply kza_u | apply Amf | exact Sh | (apply Ps;rfl) | (apply Rq;rfl))) (hH:H=H1:=by rfl) :
  WL P n c opsA Q rest (PL β os sp i l0) H:=λa w Z ha hw=>h a w Z (ha.subL hz.go.one) (hH▸hw)
end
section
variable {P : Program} {n : Nat} {c : Cx} {opsA : Array Oper} {Q : Exit → Act → World → Prop} {l l0 : Fr} {H : List Ent} {sp : List Sa}
theorem Ni (hr:∀{E},GA P n c opsA Q (Di all (spq sp) (Kg sp i).deps l0) (H++E) o (Kg sp i).r (H++E))(h:Qu P n c opsA Q all sp l0 H (i+1) rest)(ha:(Kg sp i).al=Ai:=by rfl)(hs:(Kg sp i).sto=Ai:=by rfl):Qu P n c opsA Q all sp l0 H i (o::rest):=by
 refine⟨?_,h⟩;unfold ObA;rw[hs,ha];exact λ_=>hr
end
variable{ats:Array TypeId}{Hin:List Ent}{args:List Operand}{Hr:List Ent}{rs:List Rp}
section
variable {P : Program} {n : Nat} {c : Cx} {opsA : Array Oper} {Q : Exit → Act → World → Prop} {l : Fr} {H : List Ent} {d : Nat} {ty : TypeId} {pos : String} {af : Array Edge}
theorem AhS {f:FuncId}{r:Rp}{Hout:List Ent}(hcall:∀(as1:Array Value) (w:World),(callFunc f as1).run P w = .ok (.enter f as1) w)(hv:R0 l args=Ad rs)
  (hp:H.Perm (Hin++Hr)) (hc:Fn P c.E f rs Hin (λr' H'=>r'=r∧H'=Hout)) {H':List Ent} (hH:Hout++Hr=H'):GA P n c opsA Q l H { dst:=Ad d,op:=.call { callee:=.value (.func f),args:=args.toArray,argTypes:=ats },type:=ty,pos:=pos,after:=af,guard:=Ai } r H':=λa w Z K ha hw hK=>
 ⟨λ_=>by
  subst hH;unfold Oper.wp;rw[Iq rfl hcall w];refine(hc w Z _ (JG ha hv) (hw.perm hp).enter).mono ?_;rintro e w' ⟨r2,v,Ho,Z',rfl,⟨rfl,rfl⟩,hr2,hs⟩;exact hK v w' Z' hs.le hr2 ((hw.perm hp).call hs),λh=>by simp[Region.wanted] at h⟩
theorem AhR {f:FuncId}{r:Rp}(hcall:∀(as1:Array Value) (w:World),(callFunc f as1).run P w = .ok (.enter f as1) w)(hv:R0 l args=Ad rs)
  (hp:H.Perm (Hin++Hr)) (hc:Fn P c.E f rs Hin (λr' H'=>r'=r∧H'=Hin)):GA P n c opsA Q l H { dst:=Ad d,op:=.call { callee:=.value (.func f),args:=args.toArray,argTypes:=ats },type:=ty,pos:=pos,after:=af,guard:=Ai } r H:=λa w Z K ha hw hK=>
 AhS (Hout:=Hin) hcall hv hp hc rfl a w Z K ha hw (λv w' Z' hz hr hs=>hK v w' Z' hz hr (hs.perm hp.symm))
theorem WP {f:FuncId}{r:Rp}{E:List Ent}(hcall:∀(as1:Array Value) (w:World),(callFunc f as1).run P w = .ok (.enter f as1) w)(hv:R0 l args=Ad rs)
  (hp:H.Perm (Hin++Hr)) (hc:Fn P c.E f rs Hin (λr' H'=>r'=r∧H'=Hin)):GA P n c opsA Q l (H++E) { dst:=Ad d,op:=.call { callee:=.value (.func f),args:=args.toArray,argTypes:=ats },type:=ty,pos:=pos,after:=af,guard:=Ai } r (H++E):=
 AhR (Hin:=Hin) (Hr:=Hr++E) hcall hv (by rw[← Aq4];exact hp.append_right E) hc
end
section
variable {P : Program} {n : Nat} {c : Cx} {ops : Array Oper} {Q : Exit → Act → World → Prop} {rest : List Oper} {l : Fr} {H H' : List Ent} {d : Nat} {d' : Option Nat} {x y z3 : Operand} {ty t t' e : TypeId} {pos : String} {af : Array Edge} {g : Option (Nat × Bool)} {v u : Value} {r : Rp} {sz : Nat}
theorem UX {enc:α→List Rp}{k':IntKind}{j:Int}(ht:P.underlying t=Ad (.slice e))(hz:∀w,(sizeOf e).run P w = .ok sz w)(h:ev l x=Ad (Cg sz (ys.map enc)))(hj:ev l z3=Ad (rI k' j))(hg2:Gk j (Ae ys:Int)=Af) :
  Ck P n c l H { dst:=d',op:=.slice t x Ai (Ad z3) Ai,type:=ty,pos:=pos,after:=af,guard:=g } (Cg sz ((ys.take j.toNat).map enc)):=λa w Z ha hw=>by
 obtain⟨A,cap,e1,hc1,hc2,hA,hc⟩:=ha.ev h;have h2:=(CP hg2).2;have hj0:0≤j:=(CP hg2).1;simp only[Aqz] at e1 hc1;have h3:j≤(cap:Int):=Ab
 refine⟨.slice (if cap=0 then A else A.map (·.add (0*sz))) j.toNat cap,⟨if cap=0 then A else A.map (·.add (0*sz)),cap,?_,?_,Ab,?_,λq cl hq=>?_⟩,by simp[execOp,e1,ha.eval hj,Instr.sliceAt,Instr.slice,run_underlying ht,Instr.sliceBounds,Cc (m:=cap) _ _ hj0 h3,hz]⟩
 ·congr 1
  simp;omega
 ·simp;omega
 ·intro hn
  split at hn
  ·have:=hA hn;omega
  ·have:=hA (by simpa using hn);omega
 ·rw[AqI] at hq
  cases hq':(Aq j.toNat ys)[q]? with
  | none=>rw[hq'] at hq;cases hq
  | some yy=>
   rw[hq'] at hq;simp only[Option.map_some,Option.some.injEq] at hq;subst hq;rw[AqU] at hq'
   split at hq'
   ·rename_i hlt
    obtain⟨hl,ad,rfl,hs,hcs⟩:=hc q (enc yy) (by simp[hq']);obtain⟨b,off,spot⟩:=ad;simp only at hs;subst hs;have hne : ¬ cap=0:=Ab
    refine⟨hl,⟨b,off+0*sz,Ai⟩,by simp[hne,MP],rfl,λq' r' hr'=>?_⟩;obtain⟨u,hu,hp⟩:=hcs q' r' hr';refine⟨u,?_,hp⟩;have:off+0*sz+(q*sz+q')=off+(q*sz+q'):=Ab
    simp only;rw[this];exact hu
   ·cases hq'
theorem Y1 {xs:List Int}(hs:P.underlying t=Ad (.slice e))(hd:P.underlying t'=Ad .string)(he:P.underlying e=Ad (.int .u8))(hx:ev l x=Ad (Cg 1 (xs.map CO))) :
  Ck P n c l H { dst:=d',op:=.convert t t' x,type:=ty,pos:=pos,after:=af,guard:=g } (rS (Qv xs)):=λa w Z ha hw=>by
 obtain⟨us,h3,h4⟩:=HJ.z (P:=P) (ys:=xs) (enc:=CO) hx rfl a w Z ha hw;rw[Abd] at h3;have e2:=BM.eq_rv h3;subst e2;refine⟨.string (B (Qv xs)),rfl,?_⟩;obtain⟨_,h2⟩:=h4;rcases h2 with⟨hv,hz⟩ | ⟨b,cap,hv,hcell⟩
 ·have hx0:xs=[]:=AqB hz;subst hx0;have:=run_convert_bytes_string w t t' e Ai 0 0 hs he hd;simp only[execOp,hv];have e3:(Conv.bytesToString (.slice Ai 0 0)).run P w = .ok (.string (B [])) w:=rfl;rw[e3] at this;simp[this,Qv]
 ·have hld:=run_loadCells_list (P:=P) w b (xs.map λc=>Value.int .u8 c) hcell;rw[Aqz] at hld;have h4:=run_bytesToString w b (Ae xs) cap xs hld;have h5:=run_convert_bytes_string w t t' e (Ad b) (Ae xs) cap hs he hd;have h6:=Ajj xs [];rw[h4,show ByteArray.empty=B [] from rfl,h6] at h5;simp[execOp,hv,h5]
end
def rBx (p:Bool→Prop):Rp:=⟨λ_ v=>∃b,v = .bool b∧p b,λ_ h=>h,Af,λ_ Z v ⟨b,e,_⟩=>by rw[e];rfl⟩
section
variable {P : Program} {n : Nat} {c : Cx} {ops : Array Oper} {Q : Exit → Act → World → Prop} {rest : List Oper} {l : Fr} {H : List Ent} {d : Option Nat} {ty rty t e : TypeId} {pos : String} {af : Array Edge} {g : Option (Nat × Bool)} {r : Rp} {x : Operand} {cx cy : Code} {sz : Nat} {xs : List (List Rp)}
theorem Un {o:Operand}{p:Bool→Prop}(ho:ev l o=Ad (rBx p))(h1:p Af→WC P n c cx Q l H)(h2:p Ah→WC P n c cy Q l H):WC P n c (.cond o cx cy) Q l H:=λa w Z ha hw=>by
 obtain⟨b,e,hp⟩:=ha.ev ho;exact wp_cond_split e (λe=>h1 (e▸hp) a w Z ha hw) (λe=>h2 (e▸hp) a w Z ha hw)
theorem Afr (ht:P.underlying t=Ad (.slice e))(h:ev l x=Ad (Cg sz xs)):Ck P n c l H { dst:=d,op:=.binOp .eql t x (.const (.slice Ai 0 0)) rty,type:=ty,pos:=pos,after:=af,guard:=g } (rBx (λb=>b=Af→xs=[])):=λa w Z ha hw=>by
 obtain⟨A,cap,e1,h1,h2,h3,h4⟩:=ha.ev h;refine⟨.bool A.isNone,⟨_,rfl,λhb=>?_⟩,?_⟩
 ·cases A with
  | some a=>cases hb
  | none=>
   have:=h3 rfl;exact List.length_eq_zero_iff.1 Ab
 ·have:=run_equal_slice_nil (P:=P) w t e A (Ae xs) cap ht;have e2:a.eval (.const (.slice Ai 0 0)) = .slice Ai 0 0:=rfl;simp[execOp,e1,e2,binOp,this,eqGuard]
end
variable{lb:Nat}
section
variable {P : Program} {n : Nat} {c : Cx} {Q : Exit → Act → World → Prop} {l : Fr} {H : List Ent} {x rest' : Code} {K : Act → World → Prop}
theorem O8 (h:WK n c (Q (.goto lb)) l H):WC P n c (.goto lb) Q l H:=λa w Z ha hw=>wp_goto (h a w Z ha hw)
theorem Do (h:WK n c (Q (.goto lb)) l H):WK n c (Exit.then K Q (.goto lb)) l H:=h
theorem Jq (h:WK n c (Q (.goto lb)) l H):WK n c (Exit.inBlock id Q (.goto lb)) l H:=h
theorem NF (h:WK n c (Q (.goto lb)) l H):WK n c (Aj2 id K Q (.goto lb)) l H:=h
theorem Akj (h:WK n c (Q .ret) l H):WK n c (Exit.jump lb K Q .ret) l H:=h
theorem O6 (h:WK n c K l H):WK n c (Exit.jump lb K Q (.goto lb)) l H:=λa w Z ha hw=>⟨rfl,h a w Z ha hw⟩
theorem VV {S:Type}(lb:Nat)(inv:S→Prop)(fr:S→Fr)(hp:S→List Ent)(hf:findLabel x lb=Ad rest')
  (h1:WC P n c x (Exit.jump lb (LU n c inv fr hp) Q) l H) (h2:∀s,inv s→WC P n c rest' (Exit.noGoto Q) (fr s) (hp s)):WC P n c (.scope x) Q l H:=λa w Z ha hw=>
 wp_scope_jumps lb (LU n c inv fr hp) (λ_ _=>0) hf (h1 a w Z ha hw) (by
  rintro a w ⟨s,Z,hi,ha,hw⟩;refine wp_mono (h2 s hi a w Z ha hw) λe a w q=>?_
  cases e with
  | goto _=>exact q.elim
  | _=>exact q)
end
section
variable {P : Program} {n : Nat} {c : Cx} {ops : Array Oper} {Q : Exit → Act → World → Prop} {rest : List Oper} {l : Fr} {H H' : List Ent} {d : Nat} {d' : Option Nat} {x y z3 z4 : Operand} {ty t t' e : TypeId} {pos : String} {af : Array Edge} {g : Option (Nat × Bool)} {v u : Value} {r : Rp} {sz : Nat}
theorem ST {enc:α→List Rp}{k' k'':IntKind}{j:Int}(ht:P.underlying t=Ad (.slice e))(hz:∀w,(sizeOf e).run P w = .ok sz w)(h:ev l x=Ad (Cg sz (ys.map enc)))(hj:ev l z3=Ad (rI k' j))(hm:ev l z4=Ad (rI k'' j))(hg2:Gk j (Ae ys:Int)=Af) :
  Ck P n c l H { dst:=d',op:=.slice t x Ai (Ad z3) (Ad z4),type:=ty,pos:=pos,after:=af,guard:=g } (Cg sz ((ys.take j.toNat).map enc)):=λa w Z ha hw=>by
 obtain⟨A,cap,e1,hc1,hc2,hA,hc⟩:=ha.ev h;have h0:=(CP hg2).1;have h2:=(CP hg2).2;simp only[Aqz] at e1 hc1;have h3:j≤(cap:Int):=Ab
 refine⟨.slice A j.toNat j.toNat,⟨A,j.toNat,?_,?_,Ab,?_,λq cl hq=>?_⟩,?_⟩
 ·congr 1
  simp;omega
 ·simp;omega
 ·intro hn;have:=hA hn;omega
 ·rw[AqI,AqU] at hq
  split at hq
  ·exact hc q cl (by rw[AqI];exact hq)
  ·cases hq
 ·have hA':A.map (λb=>b.add 0)=A:=by
   cases A with
   | none=>rfl
   | some ad=>obtain⟨b,o,sp⟩:=ad;cases sp<;>rfl
  simp[execOp,e1,ha.eval hj,ha.eval hm,Instr.sliceAt,Instr.slice,run_underlying ht,Instr.sliceBounds,Cc (m:=cap) _ _ h0 h3,Cc (m:=j.toNat) _ _ h0 Ab,hz]
  try (intro _;cases A<;>rfl)
theorem Ad8 {fs:Array Field}{f:Field}(hu:P.underlying t=Ad (.struct fs))(hf:fs[i]? =Ad f)(hag:∀w,(isAgg f.type).run P w = .ok Ah w)(hx:ev l x=Ad (Dr rs))(hr:rs[f.offset]? =Ad r) :
  Ck P n c l H { dst:=d',op:=.field t x i,type:=ty,pos:=pos,after:=af,guard:=g } r:=λa w Z ha hw=>by
 obtain⟨us,e1,hus⟩:=ha.ev hx;obtain⟨v,hv,hp⟩:=hus.at hr;exact⟨v,hp,by simp[execOp,e1,Instr.field,run_underlying hu,hf,asAgg,part,hag,hv]⟩
theorem Ako {enc:α→List Rp}{inf:TypeInfo}{z:Value}{kl kc:IntKind}{m:Int}{bytes:Nat}(ht:P.underlying t=Ad (.slice e))(hinf:P.info? e=Ad inf)(hz:inf.zero=Ad z)(hsize:inf.size=sz)(hby:inf.bytes=bytes)(hbp:Nat.blt 0 bytes=Af)
  (hx:ev l x=Ad (rI kl 0)) (hy:ev l y=Ad (rI kc m)) (hg:De bytes m.toNat=Af) (hg0:Ac (0≤m)=Af) (hn:Nat.blt d n=Af)
  (h:∀v',WL P n c ops Q rest ((d,rv v')::l) (.row v' e sz (([]:List α).map enc)::H)) :
  WL P n c ops Q ({ dst:=Ad d,op:=.makeSlice t x y,type:=ty,pos:=pos,after:=af,guard:=Ai }::rest) l H:=
 PP (λa w Z ha hw=>by
  have hm0:0≤m:=by simpa using hg0
  have hb:m.toNat*bytes≤140737488355328:=by simpa[De] using hg
  have hbp':0<bytes:=by simpa using hbp
  have hle:m.toNat≤m.toNat*bytes:=Nat.le_mul_of_pos_right _ hbp';obtain⟨w',e1,e2,e3⟩:=run_make_own (P:=P) w 0 t e inf z sz ht hinf hz hsize kl kc m.toNat (by rw[hby,Nat.mul_comm];omega) (by simp only[maxLen];omega) (AqL _);have em:(m.toNat:Int)=m:=Int.toNat_of_nonneg hm0;rw[em] at e1;refine⟨_,w',_,_,Z,by simp[execOp,ha.eval hx,ha.eval hy,e1],Fz.le.refl _,rfl,hw.add e3.os e3.tape e3.output e3.size (λk hk=>e3.block k hk Aj) (e':=.row _ e sz (([]:List α).map enc)) ⟨Aj,[],e2,trivial⟩ (by simp[Ent.foot,Value.ownBlock]),h _⟩) hn
end
structure Sx (U:Type) where
 deps:List Nat
 r:U→Rp
 dyn:Bool:=Ah
 old:List Nat:=[]
def K8 {U:Type}(sp:List (Sx U))(i:Nat):Sx U:=sp.getD i { deps:=[],r:=λ_=>rv undef }
def sxu {U:Type}(sp:List (Sx U))(u:U):List Sp:=sp.map λs=>⟨s.deps,s.r u,0⟩
def saU {U:Type}(sp:List (Sx U))(u:U):List Sa:=sp.map λs=>{ deps:=s.deps,r:=s.r u }
def VR {U:Type}:List (Sx U)→Prop
 | []=>True
 | s::r=>(s.dyn=Ah→∀u u',s.r u=s.r u')∧VR r
theorem VR.at {U:Type}:∀{sp:List (Sx U)},VR sp→∀{i:Nat} {s:Sx U},sp[i]? =Ad s→s.dyn=Ah→∀u u',s.r u=s.r u'
 | [],_,i,s,h=>by simp at h
 | x::sp,⟨h1,h2⟩,0,s,h=>by simp at h;subst h;exact h1
 | x::sp,⟨h1,h2⟩,i+1,s,h=>VR.at h2 (by simpa using h)
variable{U:Type}{sp:List (Sx U)}
theorem AoL {ds os:List Nat}{r:Rp}(h:VR sp):VR ({ deps:=ds,r:=λ_=>r,old:=os }::sp):=⟨λ_ _ _=>rfl,h⟩
theorem AoK {ds os:List Nat}{r:U→Rp}(h:VR sp):VR ({ deps:=ds,r:=r,dyn:=Af,old:=os }::sp):=⟨λh'=>(by cases h'),h⟩
def HV (lw:Fr):List Nat→Fr→Fr
 | [],l=>l
 | d::r,l=>match look lw d with
  | some q=>(d,q)::HV lw r l
  | none=>HV lw r l
theorem Ze {n:Nat}{lw l:Fr}{a:Act}{Z:Fz}(h0:Gl n l a Z):∀{ds:List Nat},(∀d∈ds,∀q,look lw d=Ad q→∃v,a.tmps[d]? =Ad v∧q.p Z v)→Gl n (HV lw ds l) a Z
 | [],_=>h0
 | d::ds,h=>by
  have ih:=Ze h0 (ds:=ds) (λd' hd'=>h d' (by simp[hd']));unfold HV
  cases hd:look lw d with
  | none=>exact ih
  | some q=>
   refine⟨ih.size,ih.defers,λi r hi=>?_⟩;rw[DO] at hi
   split at hi
   ·rename_i e;subst e;simp at hi;subst hi;exact h d Aj q hd
   ·exact ih.tm i r hi
theorem AoJ:VR ([]:List (Sx U)):=trivial
def okX (n:Nat)(ops:List Oper)(N i0:Nat)(keys:List Nat)(deps:List (List Nat))(dyns:List Bool)(olds:List (List Nat)):Bool:=
 VH ops N&&Ac (N≤Ae ops)&&Ac (i0<N)&&
 (As N).all (λi=>match Dw ops i with
  | some d=>Ac (d<n)&&!keys.contains d&&(As N).all (λj=>j ==i||Dw ops j !=Ad d)
  | none=>Af)&&
 (As N).all (λi=>(deps.getD i []).all (λj=>Ac (j<N)&&(E5 (ops.getD i default)).contains j))&&
 (As N).all (λi=>!dyns.getD i Ah||i ==i0||(E5 (ops.getD i default)).any (λe=>Ac (e<N)&&(e ==i0||dyns.getD e Ah)))&&
 (As N).all (λi=>(olds.getD i []).all (λd=>(As N).all (λw=>Dw ops w !=Ad d||(E5 (ops.getD w default)).contains i)))
section
variable (P : Program) (n : Nat) (c : Cx) (opsA : Array Oper) (Q : Exit → Act → World → Prop)
def OpX {U:Type}(l:Fr)(H:List Ent)(o:Oper)(r:U→Rp)(H1:U→List Ent):Prop:=
 ∀a w Z (K:Act→World→Prop),Gl n l a Z→St c H Z w→(∀u v w' Z',Fz.le Z Z'→(r u).p Z' v→St c (H1 u) Z' w'→K (a.put o.dst v) w')→
  Region.wanted o (yielded opsA a.tmps)=Af∧o.wp P a w K Q
def Qt {U:Type}(ops:List Oper)(sp:List (Sx U))(l0 lw:Fr)(i0:Nat)(H:List Ent)(H1:U→List Ent):Nat→List Oper→Prop
 | i,o::rest=>(if i=i0 then(∀u,OpX P n c opsA Q (HV lw (K8 sp i).old (Di ops (sxu sp u) (K8 sp i).deps l0)) H o (K8 sp i).r H1) else ∀u H',(H'=H∨H'=H1 u)→GA P n c opsA Q (HV lw (K8 sp i).old (Di ops (sxu sp u) (K8 sp i).deps l0)) H' o ((K8 sp i).r u) H')∧Qt ops sp l0 lw i0 H H1 (i+1) rest
 | _,[]=>True
end
section
variable {P : Program} {n : Nat} {c : Cx} {opsA : Array Oper} {Q : Exit → Act → World → Prop} {l l0 lw : Fr} {U : Type} {H : List Ent} {H1 : U → List Ent} {sp : List (Sx U)} {i0 : Nat}
theorem Qt.at {ops:List Oper}:∀{k:Nat} {rest:List Oper},Qt P n c opsA Q ops sp l0 lw i0 H H1 k rest→∀(t:Nat) o,rest[t]? =Ad o→
  (if k+t=i0 then(∀u,OpX P n c opsA Q (HV lw (K8 sp (k+t)).old (Di ops (sxu sp u) (K8 sp (k+t)).deps l0)) H o (K8 sp (k+t)).r H1) else ∀u H',(H'=H∨H'=H1 u)→GA P n c opsA Q (HV lw (K8 sp (k+t)).old (Di ops (sxu sp u) (K8 sp (k+t)).deps l0)) H' o ((K8 sp (k+t)).r u) H')
 | k,o::rest,⟨h1,h2⟩,t,o',ht=>by
  cases t with
  | zero=>simp at ht;subst ht;exact h1
  | succ t=>
   have:=Qt.at h2 t o' (by simpa using ht);rw[show k+(t+1)=k+1+t from Ab];exact this
 | _,[],_,t,o,h=>by simp at h
theorem Akl [Inhabited U](N i0:Nat)(sp:List (Sx U))(hm:P.follows .mixedOrders=Af)(hB:okX n ops N i0 (Hz l0) (sp.map (·.deps)) (sp.map (·.dyn)) (sp.map (·.old))=Af)(hl0:Abo l0 l)(hlw:Abo lw l)(hsp:Ae sp=N)(hst:VR sp)
  (hob:Qt P n c ops.toArray Q ops sp l0 lw i0 H H1 0 (ops.take N)) (h:∀u,WL P n c ops.toArray Q (ops.drop N) (PL (λ_=>0) (ops.take N) (saU sp u) 0 l0) (H1 u)):WC P n c (.region id ops.toArray Af) Q l H:=by
 intro a w Z ha hw;simp only[okX,Aqu,AqX,List.mem_range,Aqq] at hB;obtain⟨⟨⟨⟨⟨⟨b1,bN⟩,b0⟩,b2⟩,b3⟩,b4⟩,b5⟩:=hB;have hget:∀i,i<N→(ops.take N)[i]? =ops[i]?:=λi hi=>by rw[AqU,Arc hi]
 have hsa:∀i,i<N→sp[i]? =Ad (K8 sp i):=λi hi=>by
  simp[K8,Aqy,Aqx (show i<Ae sp by omega)]
 have hspq:∀u i,i<N→(Hg (sxu sp u) i)=⟨(K8 sp i).deps,(K8 sp i).r u,0⟩:=λu i hi=>by
  simp[Hg,sxu,Aqy,AqI,hsa i hi]
 have hdyn:∀j,j<N→(sp.map (·.dyn)).getD j Ah=(K8 sp j).dyn:=λj hj=>by simp[Aqy,AqI,hsa j hj]
 have hdep:∀j,j<N→(sp.map (·.deps)).getD j []=(K8 sp j).deps:=λj hj=>by simp[Aqy,AqI,hsa j hj]
 have hops:∀j,j<N→∃o,ops[j]? =Ad o:=λj hj=>⟨ops[j]'(Ab),Aqx Ab⟩
 have hdst:∀i o d,i<N→ops[i]? =Ad o→o.dst=Ad d→(d<n∧d ∉ Hz l0)∧∀j,j<N→j≠i→Dw ops j≠Ad d:=λi o d hi ho hd=>by
  have h3:=b2 i hi;have:Dw ops i=Ad d:=by simp[Dw,ho,hd]
  rw[this] at h3;simp only[Aqu,Aq6,AqX,List.mem_range,Aqq] at h3;refine⟨⟨h3.1.1,λhmem=>by rw[← List.contains_iff_mem] at hmem;rw[hmem] at h3;cases h3.1.2⟩,λj hj hne he=>?_⟩;have:=h3.2 j hj;simp[hne,he] at this
 refine Ab1 (N:=N) hm b1 bN (λS a w=>∃ (u:U) (Z:Fz),St c (if S i0=Af then H1 u else H) Z w∧Gl n l0 a Z∧(∀j o d,j<N→S j=Af→ops[j]? =Ad o→o.dst=Ad d→∃v,a.tmps[d]? =Ad v∧((K8 sp j).r u).p Z v)∧
   (∀j,j<N→(K8 sp j).dyn=Af→S j=Af→S i0=Af)∧
   (∀d q,look lw d=Ad q→(∀wr,wr<N→Dw ops wr=Ad d→S wr=Ah)→∃v,a.tmps[d]? =Ad v∧q.p Z v)∧
   ∀wr i d,wr<N→i<N→Dw ops wr=Ad d→d∈(K8 sp i).old→S wr=Af→S i=Af)
  (λS S' a w hS hI=>?_) ⟨default,Z,?_,ha.subL hl0,λj o d _ hS=>(by cases hS),λj _ _ hS=>(by cases hS),λd q hd _=>(ha.subL hlw).tm d q hd,λwr i d _ _ _ _ hS=>(by cases hS)⟩ (λS i o a w hi hun ho hb hI K hK=>?_) (λa w hI=>?_)
 ·obtain⟨u,Z,h1,h2,h3,h4,h5,h6⟩:=hI;refine⟨u,Z,?_,h2,λj o d hj hS'=>h3 j o d hj (by rw[hS j hj];exact hS'),λj hj hd hSj=>?_,λd q hd hw'=>h5 d q hd (λwr hwr hdw=>by rw[hS wr hwr];exact hw' wr hwr hdw),λwr i d hwr hi hdw hold hSw=>by rw[← hS i hi];exact h6 wr i d hwr hi hdw hold (by rw[hS wr hwr];exact hSw)⟩
  ·rw[← hS i0 b0];exact h1
  ·rw[← hS i0 b0];exact h4 j hj hd (by rw[hS j hj];exact hSj)
 ·exact hw.drawn _
 ·obtain⟨u,Z,h1,h2,h3,hx,ho5,ho6⟩:=hI;have hput:∀k u v,a.tmps[k]? =Ad u→o.dst≠Ad k→(a.put o.dst v).tmps[k]? =Ad u:=λk u v hk hne=>by
   cases hd:o.dst with
   | none=>simpa[Act.put] using hk
   | some d=>
    simp only[Act.put,Array.getElem?_setIfInBounds];rw[AqM (λe=>hne (by rw[hd,e]))];exact hk
  have hagr:∀v Z',Fz.le Z Z'→Gl n l0 (a.put o.dst v) Z':=λv Z' hz=>by
   refine⟨?_,?_,λk r hk=>?_⟩
   ·cases o.dst<;>simp[Act.put,h2.size]
   ·cases o.dst<;>simp[Act.put,h2.defers]
   ·obtain⟨u,hu,hpu⟩:=h2.tm k r hk;exact⟨u,hput k u v hu (λe=>((hdst i o k hi ho e).1).2 (Om hk)),r.mono hz hpu⟩
  have hvals:∀(v:Value) (Z':Fz) (u':U),Fz.le Z Z'→(∀j,j<N→j≠i→S j=Af→(K8 sp j).r u'=(K8 sp j).r u)→(o.dst≠Ai→((K8 sp i).r u').p Z' v)→∀j o' d,j<N→(j ==i||S j)=Af→ops[j]? =Ad o'→o'.dst=Ad d→∃q,(a.put o.dst v).tmps[d]? =Ad q∧((K8 sp j).r u').p Z' q:=by
   intro v Z' u' hz hβ hp j o' d hj hS' ho' hd
   by_cases hji:j=i
   ·subst hji;rw[ho] at ho';simp at ho';subst ho';refine⟨v,?_,hp (by simp[hd])⟩;have hdn:d<a.tmps.size:=by rw[h2.size];exact(hdst j o d hi ho hd).1.1
    simp[Act.put,hd,hdn]
   ·have hSj:S j=Af:=by simpa[hji] using hS'
    obtain⟨q,hu,hpu⟩:=h3 j o' d hj hSj ho' hd;refine⟨q,hput d q v hu (λe=>(hdst i o d hi ho e).2 j hj hji (by simp[Dw,ho',hd])),?_⟩;rw[hβ j hj hji hSj];exact((K8 sp j).r u).mono hz hpu
  have hat:=hob.at i o (by rw[hget i hi];exact ho);rw[AqT] at hat;have hold':∀Z',Fz.le Z Z'→∀v d q,look lw d=Ad q→(∀wr,wr<N→Dw ops wr=Ad d→(wr ==i||S wr)=Ah)→∃v',(a.put o.dst v).tmps[d]? =Ad v'∧q.p Z' v':=λZ' hz v d q hd hw'=>by
   obtain⟨v',e1,e2⟩:=ho5 d q hd (λwr hwr hdw=>by have:=hw' wr hwr hdw;simp only[AqD] at this;exact this.2);refine⟨v',hput d v' v e1 (λe=>?_),q.mono hz e2⟩;have:=hw' i hi (by simp[Dw,ho,e]);simp at this
  have hord:∀wr k d,wr<N→k<N→Dw ops wr=Ad d→d∈(K8 sp k).old→(wr ==i||S wr)=Af→(k ==i||S k)=Af:=λwr k d hwr hk hdw hmem hSw=>by
   by_cases hwi:wr=i
   ·subst hwi;have h7:=b5 k hk d (by simpa[Aqy,AqI,hsa k hk] using hmem) wr hwr;simp only[AqF,bne_iff_ne,ne_eq,hdw,not_true_eq_false,false_or] at h7;rw[Aqy,ho,AqE,List.contains_iff_mem] at h7;simp[(hb k h7).2]
   ·have:S k=Af:=ho6 wr k d hwr hk hdw hmem (by simpa[hwi] using hSw);simp[this]
  have hag':Gl n (HV lw (K8 sp i).old (Di ops (sxu sp u) (K8 sp i).deps l0)) a Z:=Ze (Pq h2 (λj hj d hd=>by
    obtain⟨h5,h6⟩:=b3 i hi j (by rw[hdep i hi];exact hj);rw[Aqy,ho,AqE,List.contains_iff_mem] at h6;obtain⟨o2,ho2⟩:=hops j h5;obtain⟨v,hv1,hv2⟩:=h3 j o2 d h5 (hb j h6).2 ho2 (by simpa[Dw,ho2] using hd);refine⟨v,hv1,?_⟩;rw[hspq u j h5];exact hv2)) (λd hd q hq=>ho5 d q hq (λwr hwr hdw=>by
     cases hS:S wr with
     | false=>rfl
     | true=>have:=ho6 wr i d hwr hi hdw hd hS;rw[this] at hun;cases hun))
  by_cases hi0:i=i0
  ·subst hi0;rw[Arc rfl] at hat;rw[hun] at h1;have h1':St c H Z w:=by simpa using h1
   have key:=λK' hK'=>hat u a w Z K' hag' h1' hK';have h5:∀u' v w' Z',Fz.le Z Z'→((K8 sp i).r u').p Z' v→St c (H1 u') Z' w'→K (a.put o.dst v) w':=λu' v w' Z' hz hpv hs'=>by
    refine hK _ _ ⟨u',Z',by simpa using hs',hagr v Z' hz,hvals v Z' u' hz (λj hj hji hSj=>?_) (λ_=>hpv),λj _ _ _=>by simp,hold' Z' hz v,hord⟩;refine hst.at (hsa j hj) ?_ u' u
    cases hd:(K8 sp j).dyn with
    | false=>rfl
    | true=>have:=hx j hj hd hSj;rw[this] at hun;cases hun
   refine⟨λ_=>(key K h5).2,λhw'=>?_⟩;rw[(key K h5).1] at hw';cases hw'
  ·rw[AqM hi0] at hat;refine hat u _ (by split;exact .inr rfl;exact .inl rfl) a w Z K hag' h1 (λv w' Z' hz hp hst'=>hK _ _ ⟨u,Z',?_,hagr v Z' hz,hvals v Z' u hz (λ_ _ _ _=>rfl) (λ_=>hp),λj hj hd hSj=>?_,hold' Z' hz v,hord⟩)
   ·have hiS:(i0 ==i||S i0)=S i0:=by
     have:(i0 ==i)=Ah:=by simpa using λe=>hi0 e.symm
     rw[this];rfl
    show St c (if (i0 ==i||S i0)=Af then H1 u else H) Z' w';rw[hiS];exact hst'
   ·have hii:(i0 ==i)=Ah:=by simpa using λe=>hi0 e.symm
    show(i0 ==i||S i0)=Af;rw[hii,Aq9]
    by_cases hji:j=i
    ·subst hji;have h7:=b4 j hj;rw[hdyn j hj,hd] at h7;simp only[Aq5,Aq9,AqF,beq_iff_eq,hi0,false_or,List.any_eq_true,Aqu,Aqq] at h7;obtain⟨e,he,heN,h8⟩:=h7;rw[Aqy,ho,AqE] at he;have hSe:=(hb e he).2;rcases h8 with h8 | h8
     ·subst h8;exact hSe
     ·rw[hdyn e heN] at h8;exact hx e heN h8 hSe
    ·exact hx j hj hd (by simpa[hji] using hSj)
 ·obtain⟨u,Z,h1,h2,h3,_,_,_⟩:=hI;have hsl:Ae (saU sp u)=N:=by simp[saU,hsp]
  refine h u a w Z (TZ h2 _ _ 0 (λt o s d ht hs hd=>?_)) (by simpa using h1);have htN:t<N:=by have:=(List.getElem?_eq_some_iff.1 hs).1;omega
  have hs':s = { deps:=(K8 sp t).deps,r:=(K8 sp t).r u }:=by
   simp only[saU,AqI,hsa t htN,Option.map_some,Option.some.injEq] at hs;exact hs.symm
  subst hs';rw[AqT];exact h3 t o d htN rfl (by rw[← hget t htN];exact ht) hd
theorem RI [Inhabited U](N i0:Nat)(ks0 ksw:List Nat)(sp:List (Sx U))(H1:U→List Ent)(hob:Qt P n c ops.toArray Q ops sp l0 lw i0 H H1 0 (ops.take N))(h:∀u,WL P n c ops.toArray Q (ops.drop N) (PL (λ_=>0) (ops.take N) (saU sp u) 0 l0) (H1 u))
  (h0:Kp ks0 l l0:=by repeat (first | exact Sh | (apply Ps;rfl) | (apply Rq;rfl))) (hw:Kp ksw l lw:=by repeat (first | exact Sh | (apply Ps;rfl) | (apply Rq;rfl))) (hm:P.follows .mixedOrders=Af:=by kernel_rfl) (hB:okX n ops N i0 (Hz l0) (sp.map (·.deps)) (sp.map (·.dyn)) (sp.map (·.old))=Af:=by kernel_rfl)
  (hsp:Ae sp=N:=by rfl) (hst:VR sp:=by repeat (first | exact AoJ | apply AoL | apply AoK)):WC P n c (.region id ops.toArray Af) Q l H:=Akl N i0 sp hm hB h0.one hw.one hsp hst hob h
theorem Md {d:Nat}{op:Op}(hr:∀{u H},Ck P n c (HV lw (K8 sp i).old (Di all (sxu sp u) (K8 sp i).deps l0)) H { dst:=Ad d,op:=op,type:=ty,pos:=pos,after:=af,guard:=Ai } ((K8 sp i).r u))(h:Qt P n c opsA Q all sp l0 lw i0 H H1 (i+1) rest)(hne:Nat.beq i i0=Ah:=by rfl) :
  Qt P n c opsA Q all sp l0 lw i0 H H1 i ({ dst:=Ad d,op:=op,type:=ty,pos:=pos,after:=af,guard:=Ai }::rest):=by
 refine⟨?_,h⟩;rw[AqM (λe=>by subst e;simp at hne)];exact λu H _=>ET hr
theorem oxc (hr:∀{u H},GA P n c opsA Q (HV lw (K8 sp i).old (Di all (sxu sp u) (K8 sp i).deps l0)) H o ((K8 sp i).r u) H)(h:Qt P n c opsA Q all sp l0 lw i0 H H1 (i+1) rest)(hne:Nat.beq i i0=Ah:=by rfl):Qt P n c opsA Q all sp l0 lw i0 H H1 i (o::rest):=by
 refine⟨?_,h⟩;rw[AqM (λe=>by subst e;simp at hne)];exact λu H _=>hr
theorem oxr (hr:∀{u},GA P n c opsA Q (HV lw (K8 sp i).old (Di all (sxu sp u) (K8 sp i).deps l0)) H o ((K8 sp i).r u) H)(hr1:∀{u},GA P n c opsA Q (HV lw (K8 sp i).old (Di all (sxu sp u) (K8 sp i).deps l0)) (H1 u) o ((K8 sp i).r u) (H1 u))(h:Qt P n c opsA Q all sp l0 lw i0 H H1 (i+1) rest)(hne:Nat.beq i i0=Ah:=by rfl):Qt P n c opsA Q all sp l0 lw i0 H H1 i (o::rest):=by
 refine⟨?_,h⟩;rw[AqM (λe=>by subst e;simp at hne)];intro u H' hH';rcases hH' with e | e
 ·subst e;exact hr
 ·subst e;exact hr1
theorem oxx (hr:∀{u},OpX P n c opsA Q (HV lw (K8 sp i0).old (Di all (sxu sp u) (K8 sp i0).deps l0)) H o (K8 sp i0).r H1)(h:Qt P n c opsA Q all sp l0 lw i0 H H1 (i0+1) rest):Qt P n c opsA Q all sp l0 lw i0 H H1 i0 (o::rest):=by
 refine⟨?_,h⟩;rw[Arc rfl];exact λu=>hr
theorem oxe:Qt P n c opsA Q all sp l0 lw i0 H H1 i []:=trivial
end
section
variable {P : Program} {n : Nat} {c : Cx} {opsA : Array Oper} {Q : Exit → Act → World → Prop} {l : Fr} {H : List Ent} {d : Nat} {x y : Operand} {ty t e : TypeId} {pos : String} {af : Array Edge} {v : Value} {sz : Nat}
theorem KQ {xs:List α}{enc:α→List Rp}{inf:TypeInfo}{z:Value}{bytes:Nat}(ht:P.underlying t=Ad (.slice e))(hinf:P.info? e=Ad inf)(hz:inf.zero=Ad z)(hsize:inf.size=sz)(hby:inf.bytes=bytes)(hzs:z.cells.size=sz)(hsz:Nat.blt 0 sz=Af)(hbp:Nat.blt 0 bytes=Af)
  (hx:ev l x=Ad (rv v)) (hi:H[i]? =Ad (.row v e sz (xs.map enc))) (hy:HJ P n c l H y sz (Ae ys) (ys.map enc).flatten) (henc:∀z,Ae (enc z)=sz) (hone:∀z,(enc z).all (·.one)=Af) (hg:De bytes (Ae xs+Ae ys)=Af) :
  OpX P n c opsA Q l H { dst:=Ad d,op:=.call { callee:=.builtin .append,args:=#[x,y],argTypes:=#[t,t] },type:=ty,pos:=pos,after:=af,guard:=Ai } (λv'=>rv v') (λv'=>.row v' e sz ((xs++ys).map enc)::H.eraseIdx i):=λa w Z K ha hw hK=>by
  obtain⟨h0,us,h1,h2⟩:=hw.ent hi;obtain⟨ws,h3,h4⟩:=hy a w Z ha hw;have hsz':0<sz:=by simpa using hsz
  have hbp':0<bytes:=by simpa using hbp
  have hb:(Ae xs+Ae ys)*bytes≤140737488355328:=by simpa[De] using hg
  have hle:Ae xs+Ae ys≤(Ae xs+Ae ys)*bytes:=Nat.le_mul_of_pos_right _ hbp';have hws:∀y∈ws,y.oneCell'=Af:=BM.one (rs:=(ys.map enc).flatten) (by
   rw[AqX];intro r hr;obtain⟨cl,hcl,hrc⟩:=List.mem_flatten.1 hr;obtain⟨z',_,rfl⟩:=List.mem_map.1 hcl;exact List.all_eq_true.1 (hone z') r hrc) h3
  have hxl:Ae (xs.map enc)=Ae xs:=Aqz ..;rw[hxl] at h1;obtain⟨v',w',e1,e2,e3,e4⟩:=P5 (P:=P) ty ht hinf hz hsize hby hzs hsz' h1 h4 hws hb (by simp only[maxLen];omega);have hent:(Ent.row v' e sz ((xs++ys).map enc)).holds Z w':=⟨λcl hcl=>by obtain⟨z',_,rfl⟩:=List.mem_map.1 hcl;exact henc z',us++ws,by simpa using e2,by rw[Arf,List.flatten_append];exact h2.append h3⟩
  have hst:=hw.callF hi (St.one (e':=.row v' e sz ((xs++ys).map enc)) (M:=(Ent.row v e sz (xs.map enc)).foot) hw.frz hw.env hw.emono e3.os e3.tape e3.output e3.size (λk hk hne=>e3.block k hk (λe1=>hne (by simp[Ent.foot,← e1])))
   (hw.zdis _ (Aq1 hi)) hent (λk hk=>by
    simp only[Ent.foot,Option.mem_toList] at hk ⊢;rcases e4 with e4 | e4
    ·exact .inl (e4▸hk)
    ·exact .inr (e4 k hk)))
  refine⟨by simp[Region.wanted],?_⟩;unfold Oper.wp;rw[show(execOp a.eval { dst:=Ad d,op:=.call { callee:=.builtin .append,args:=#[x,y],argTypes:=#[t,t] },type:=ty,pos:=pos,after:=af,guard:=Ai }).run P w = .ok (.value v') w' from by simp[execOp,resolve,invoke,builtin,ha.eval hx,e1]];exact hK v' v' w' Z (Fz.le.refl _) rfl hst
end
set_option maxRecDepth 100000
set_option maxHeartbeats 4000000
theorem Oq:ifI 9 (.string ⟨#[]⟩) 1 16:=PF Ak
theorem AiY (F:Nat)  (r:(List Int))(h:V2 F=Ad r):FN 141 [] [] (PO (Dr (BP (rI .u32) r))):=en func141 ntmps141 Aa λw Z=>by unfold V2 at h;exact AT<|CD (cs:=BP (rI .u32) (Au 256 (0:Int))) zeroValue180 Ak Aa λb1=>Dt<|CD (cs:=BP (rI .u32) (Au 256 (0:Int))) zeroValue180 Ak Aa λb2=>BH Aa<|Be<|AL<|ob h λhq hr hs=>B8 (V:=((List Int))×(Unit)) 0 (λσ=>Cp (λσ=>KJ F σ.1 σ.2) σ.1 σ.2.1=Ad hq) (λσ=>[(0,rP b1 0),(1,rP b2 0),(5,Bn σ.2.1.1)]) (λσ=>[.blk b2 (BP (rI .u32) σ.2.1.2) 180,.blk b1 (BP (rI .u32) (Au 256 (0:Int))) 180]) (λσ=>σ.1) (F,(0,Au 256 (0:Int)),()) hr (AP Aa) (sC (sC sN)) (λσ=>Pe σ.1=Ad r) (λσ=>[(0,rP b1 0),(1,rP b2 0)]) (λσ=>[.blk b2 (BP (rI .u32) σ.1) 180,.blk b1 (BP (rI .u32) (Au 256 (0:Int))) 180]) (by rintro⟨hR,⟨ha,hb⟩,⟨⟩⟩ ht;refine EM ?_;obtain⟨hu,rfl,hh,hi,ho⟩:=C5 ht;have hi:KJ F ha hb=Ad hh:=hi;exact AT<|wv BS<|Cz<|BG hi (λhw hx=>B5<|AL<|AY Aa<|Ca Aa<|wv (C9 ⟨_,S7⟩ Jh Aa)<|ms Aa<|BH Aa<|Be<|AL<|ob hx λhy hz h0=>B8 (V:=(Int×Int×Bool)×(Unit)) 2 (λσ=>Cp (λσ=>KI σ.1 σ.2) σ.1 σ.2.1=Ad hy) (λσ=>[(0,rP b1 0),(1,rP b2 0),(2,Bn ha),(3,rI .u32 σ.2.1.1),(5,Bn ha),(10,Bn σ.2.1.2)]) (λσ=>[.blk b2 (BP (rI .u32) hb) 180,.blk b1 (BP (rI .u32) (Au 256 (0:Int))) 180]) (λσ=>σ.1) (F,(Hi .u32 ha,0),()) hz (AP Aa) (sC (sC sN)) (λσ=>Pd ha hb σ.1.1 σ.1.2.1 σ.1.2.2=Ad hh) (λσ=>[(0,rP b1 0),(1,rP b2 0),(2,Bn ha),(3,rI .u32 σ.1.1),(5,Bn ha),(10,Bn σ.1.2.1),(11,rB σ.1.2.2)]) (λσ=>[.blk b2 (BP (rI .u32) hb) 180,.blk b1 (BP (rI .u32) (Au 256 (0:Int))) 180]) (by rintro⟨hS,⟨hd,he⟩,⟨⟩⟩ h1;refine EM ?_;obtain⟨h2,rfl,h3,hj,hp⟩:=C5 h1;have hj:KI hd he=Ad h3:=hj;exact AT<|wv BS<|Cz<|BG hj (λh4 h5=>BQ<|AM [(0,rP b1 0),(1,rP b2 0),(2,Bn ha),(3,rI .u32 (bif Br ((Sk .u32 hd 1)=1) then Kn .u32 (Er .u32 hd 1) 3988292384 else Er .u32 hd 1)),(5,Bn ha),(10,Bn he)] [.blk b2 (BP (rI .u32) hb) 180,.blk b1 (BP (rI .u32) (Au 256 (0:Int))) 180] (AL<|AY Aa<|wv (Amb Aa Aa)<|ms Aa<|Ca Aa<|wv (Oe Aa Aa Al)<|ms Aa<|Ca Aa<|wv Bx<|Be<|JD (b:=Br ((Sk .u32 hd 1)=1)) Aa (λhk=>BD Aa<|wv (Aat Aa Aa)<|B9 Aa<|Bm<|Ce hk) λhk=>Cf<|Bm<|Ce hk)<|AU<|ck h5 λh6 h7=>wv (Bg h6)<|B9 Aa<|have h8:=Bp h7 hp;AG (AA (h2,((bif Br ((Sk .u32 hd 1)=1) then Kn .u32 (Er .u32 hd 1) 3988292384 else Er .u32 hd 1),he+1),()) ⟨h8,Aqw _⟩ (AP Aa) (sC (sC sN)))) λh4 h9=>BE<|A3<|have hA:=Ci h9 hp h0;A3 (Bk (AA ((hd,he,Br (he<8)),()) hA (AP Aa) (sC (sC sN)))))<|by rintro⟨⟨hg,hB,hC⟩,⟨⟩⟩ hl;refine Hb ?_;exact have hl:Pd ha hb hg hB hC=Ad hh:=hl;Bo<|CL<|BD Aa<|ck hl λhD hE=>wv (Aif underlying180 sizeOf141 Aa Aa hD)<|ck hE λhG hH=>AeD (enc:=(rI .u32)) (ys:=hb) (v:=hg) (i:=0) sizeOf141 Aa Aa (Cs Aa) Aa hG (H':=[.blk b2 (BP (rI .u32) (List.set hb (CV ha) hg)) 180,.blk b1 (BP (rI .u32) (Au 256 (0:Int))) 180]) Aa<|AD<|DB<|AU<|ck hH λhI hJ=>wv (Bg hI)<|B9 Aa<|have hK:=Bp hJ ho;AG (AA (hu,(ha+1,List.set hb (CV ha) hg),()) ⟨hK,Aqw _⟩ (AP Aa) (sC (sC sN)))) λhw hL=>BE<|A3<|have hN:=Ci hL ho hs;A3 (Bk (AA (hb,()) hN (AP Aa) (sC (sC sN)))))<|by rintro⟨hf,⟨⟩⟩ hm;refine Hb ?_;exact have hm:Pe hf=Ad r:=hm;Bo<|CL<|AT<|ck hm λhn hO=>wv (Acg (enc:=(rI .u32)) (ys:=hf) (i:=0) isAgg180 AcY Aa Aa hn)<|ck hO λhP hQ=>SH (enc:=(rI .u32)) (ys:=Au 256 (0:Int)) (zs:=hf) (i:=1) AcY Aa Aa (λ_=>Aa) Aa hP hn (H':=[.blk b2 (BP (rI .u32) hf) 180,.blk b1 (BP (rI .u32) hf) 180]) Aa<|Acb<|cs hQ▸AC (Dj results141 (Jk (i:=1) isAgg180 AcY Aa Aa (Ale hn))) (sK 0) ⟨Aa,Aa⟩
theorem AiZ (F:Nat)(s:Aw)(r:Int)(h:Aja F s=Ad r):FN 104 [rS s] [] (PO (rI .u32 r)):=en func104 ntmps104 Aa λw Z=>AY Aa<|Dt<|ob h λr1 e3 h2=>CS call141 (AiY F r1 e3)<|CD (cs:=BP (rI .u32) (Au 256 (0:Int))) zeroValue180 Ak Aa λb4=>ck h2 λg5 h6=>ck h6 λg7 h8=>SH (enc:=(rI .u32)) (ys:=Au 256 (0:Int)) (zs:=r1) (i:=0) AcY Aa Aa (λ_=>Aa) Aa g5 g7 (H':=[.blk b4 (BP (rI .u32) r1) 180]) Aa<|Ca Aa<|BH Aa<|wv B6<|CW Aa<|AL<|ob h8 λhg hh hi=>B8 (V:=(Int)×(Unit)) 0 (λσ=>Cp (λσ=>LN s r1 σ.1 σ.2) σ.1 σ.2.1=Ad hg) (λσ=>[(0,rS s),(2,rI .u32 0),(3,rP b4 0),(4,rI .u32 σ.2.1.1),(8,Bn (Ae s:Int)),(9,Bn σ.2.1.2)]) (λσ=>[.blk b4 (BP (rI .u32) r1) 180]) (λσ=>σ.1) (F,(4294967295,0),()) hh (AP Aa) (sC sN) (λσ=>TQ σ.1=Ad r) (λσ=>[(2,rI .u32 0),(4,rI .u32 σ.1)]) (λσ=>[]) (by rintro⟨h1,⟨ha,hd⟩,⟨⟩⟩ hj;refine EM ?_;obtain⟨hk,rfl,hl,he,hf⟩:=C5 hj;have he:LN s r1 ha hd=Ad hl:=he;exact AT<|wv BS<|Cz<|BG he (λhm hn=>B5<|AL<|AY Aa<|Be<|BD Aa<|wv (C9 ⟨_,Jh⟩ Mi Aa)<|ms Aa<|ck hn λho hp=>wv (B0 ho)<|wv (Aat Aa Aa)<|ck hp λhq hr=>wv (Aif underlying180 sizeOf141 Aa Aa hq)<|ck hr λhs ht=>wv (Aib (enc:=(rI .u32)) (ys:=r1) (i:=0) isAgg141 Aa Aa hs)<|ms Aa<|wv (Oe Aa Aa Al)<|wv (Aat Aa Aa)<|B9 Aa<|DB<|AU<|ck ht λhu hw=>wv (Bg hu)<|B9 Aa<|have hx:=Bp hw hf;AG (AA (hk,(Kn .u32 (A2 r1 (Kn .u8 (Hi .u8 ha) (BA s hd))) (Er .u32 ha 8),hd+1),()) ⟨hx,Aqw _⟩ (AP Aa) (sC sN))) λhm hy=>BE<|A3<|have hz:=Ci hy hf hi;A3 (Bk (AA (ha,()) hz (AP Aa) (sS sN))))<|by rintro⟨h0,⟨⟩⟩ hb;refine Hb ?_;exact have hb:TQ h0=Ad r:=hb;by unfold TQ at hb;exact Bo<|CL<|AY Aa<|wv (Ad9 Aa)<|Bw Aa<|cs hb▸Gd results104 ⟨Aa,Aa⟩
theorem X7 (n:Int)(r:Aw)(h:Ph n=Ad r):FN 140 [rI .u32 n] [] (PO (rS r)):=en func140 ntmps140 Aa λw Z=>by unfold Ph at h;exact AT<|wv (r:=rS ([]:Aw)) Bd<|Ca Aa<|wv (Oe Aa Aa Al)<|wv (C9 ⟨_,Jh⟩ Mi Aa)<|ms Aa<|wv (Oe Aa Aa Al)<|wv (C9 ⟨_,Jh⟩ Mi Aa)<|ms Aa<|wv (Oe Aa Aa Al)<|wv (C9 ⟨_,Jh⟩ Mi Aa)<|ms Aa<|wv (C9 ⟨_,Jh⟩ Mi Aa)<|Dy ([Hi .u8 (Er .u32 n 24),Hi .u8 (Er .u32 n 16),Hi .u8 (Er .u32 n 8),Hi .u8 n]:List Int) CO EH ys5 yz5 Aa ⟨cO Aa,cO Aa,cO Aa,cO Aa,trivial⟩ E9 λb1=>wv (WV (xs:=([Hi .u8 (Er .u32 n 24),Hi .u8 (Er .u32 n 16),Hi .u8 (Er .u32 n 8),Hi .u8 n]:List Int)) (i:=0) EH GB Mi Aa Aa)<|Bw Aa<|cs h▸AC (Dj results140 AW) (sS sN) ⟨Aa,Aa⟩
theorem X6 (s:Aw)(r:Int)(h:Rz s=Ad r):FN 103 [rS s] [] (PO (rI .u32 r)):=en func103 ntmps103 Aa λw Z=>by refine AY Aa<|Cz<|ck h λg1 h2=>ck h2 λg3 h4=>ck h4 λg5 h6=>ck h6 λg7 h8=>Et [0] ?_;refine rq AS<|rq (B0 g1)<|rq (C9 ⟨_,Mi⟩ Jh Aa)<|rq (Ad7 Aa Aa Al)<|rq AS<|rq (B0 g3)<|rq (C9 ⟨_,Mi⟩ Jh Aa)<|rq (Ad7 Aa Aa Al)<|rq (AkL Aa Aa)<|rq AS<|rq (B0 g5)<|rq (C9 ⟨_,Mi⟩ Jh Aa)<|rq (Ad7 Aa Aa Al)<|rq (AkL Aa Aa)<|rq AS<|rq (B0 g7)<|rq (C9 ⟨_,Mi⟩ Jh Aa)<|rq (AkL Aa Aa)<|rq Bd<|re [2] ?_;exact CL<|CM<|cs h8▸Gd results103 ⟨Aa,Aa⟩
abbrev Lq (x0:List Aw):List Rp:=[Cg 1 (BP eS x0)]
theorem Al0 (F:Nat)(fields:(List Aw))(r:Aw×Int)(h:Aeg F fields=Ad r):FN 72 (Lq fields) [] (PO (Du (D8 r.1 r.2))):=en func72 ntmps72 Aa λw Z=>AT<|wv (r:=rS ([]:Aw)) Bd<|ms Aa<|BH Aa<|wv B1<|wv Cw<|Be<|BG h (λc1 h2=>AT<|wv (r:=rS ([]:Aw)) Bd<|Bw Aa<|A5<|cs h2▸Ki results72 ⟨Aa,Aa⟩) λc1 h3=>BQ<|AY Aa<|wv B1<|wv (C9 ⟨_,S7⟩ Mi Aa)<|Dy ([Hi .u8 (Ae fields:Int)]:List Int) CO EH ys5 yz5 Aa ⟨cO Aa,trivial⟩ E9 λb4=>ms Aa<|BH Aa<|wv B1<|CW Aa<|AL<|ob h3 λhi hj hg=>B8 (V:=((List Int))×(Value)) 0 (λσ=>Cp (λσ=>Ls fields σ.1 σ.2) σ.1 σ.2.1=Ad hi) (λσ=>[(2,rS ([]:Aw)),(3,Bn 0),(4,rv σ.2.2),(14,Cg 1 (BP eS fields)),(15,Bn (Ae fields:Int)),(16,Bn σ.2.1.2)]) (λσ=>[.row σ.2.2 5 1 (BP CO σ.2.1.1)]) (λσ=>σ.1) (F,(([Hi .u8 (Ae fields:Int)]:List Int),0),(.slice (Ad ⟨b4,0,Ai⟩) 1 1)) hj (AP Aa) (sC sN) (λσ=>Ry σ.1=Ad r) (λσ=>[(2,rS ([]:Aw)),(3,Bn 0),(4,rv σ.2)]) (λσ=>[.row σ.2 5 1 (BP CO σ.1)]) (by rintro⟨h8,⟨hb,ha⟩,hk⟩ hl;refine EM ?_;obtain⟨hm,rfl,hn,he,hf⟩:=C5 hl;have he:Ls fields hb ha=Ad hn:=he;exact AT<|wv BS<|Cz<|BG he (λho hp=>B5<|AL<|AT<|ck hp λhq hr=>wv (Bh hq)<|wv Bb<|ms Aa<|BH Aa<|wv B6<|wv Cw<|Be<|BG hr (λc75 hs=>AT<|wv (r:=rS ([]:Aw)) Bd<|Bw Aa<|A5<|BW<|A5<|Bj<|have ht:=BK hs hf hg;BW<|cs ht▸AC (Eb results72 AW AW) (sS sN) ⟨Aa,Aa⟩) λc75 hu=>BQ<|AY Aa<|wv B6<|wv (Oe Aa Aa Al)<|wv (C9 ⟨_,S7⟩ Mi Aa)<|ms Aa<|wv B6<|wv (C9 ⟨_,S7⟩ Mi Aa)<|Dy ([Hi .u8 (Er .i64 (Ae (A2 fields ha):Int) 8),Hi .u8 (Ae (A2 fields ha):Int)]:List Int) CO EH ys5 yz5 Aa ⟨cO Aa,cO Aa,trivial⟩ E9 λh9=>ck hu λhw hx=>E0 1 EH N7 Aa Aa (HJ.w 0 Aa Aa) E9 MK hw λv80=>CW Aa<|BD Aa<|ck hx λhy hz=>Exists.elim N7 λinf hinf=>H7 (xs:=hb++([Hi .u8 (Er .i64 (Ae (A2 fields ha):Int) 8),Hi .u8 (Ae (A2 fields ha):Int)]:List Int)) (i:=0) EH GB hinf.1 hinf.2.1 hinf.2.2.1 hinf.2.2.2 Aa Aa Aa hy Aa λh0=>B9 Aa<|DB<|AU<|ck hz λh1 h4=>wv (Bg h1)<|B9 Aa<|by exact have h5:=Bp h4 hf;AG (AA (hm,((hb++([Hi .u8 (Er .i64 (Ae (A2 fields ha):Int) 8),Hi .u8 (Ae (A2 fields ha):Int)]:List Int))++E7 (A2 fields ha),ha+1),h0) ⟨h5,Aqw _⟩ (AP Aa) (sC (sS sN)))) λho h6=>BE<|A3<|have h7:=Ci h6 hf hg;A3 (Bk (AA (hb,hk) h7 (AP Aa) (sC sN))))<|by rintro⟨hh,hA⟩ hd;refine Hb ?_;exact have hd:Ry hh=Ad r:=hd;by unfold Ry at hd;exact Bo<|CL<|AY Aa<|wv (WV (xs:=hh) (i:=0) EH GB Mi Aa Aa)<|Bw Aa<|cs hd▸AC (Eb results72 AW AW) (sS sN) ⟨Aa,Aa⟩
abbrev Co (x0:Value)(x1:List Aw):Ent:=.row x0 9 1 (BP eS x1)
theorem D4 {P:Program}{n:Nat}{c:Cx}{ops:Array Oper}{H H1:List Ent}{β:Nat→Nat}{os:List Oper}{sp:List Sa}{l0 l1:Fr}(ks:List Nat)(h:WL P n c ops Q rest l1 H1)
    (hz:Kza ks β os sp i l0 l1:=by repeat (first | (apply Amd;rfl) | (apply Ame;rfl) | (apply kza_d;rfl) | apply kza_u | apply Amf | exact Sh | (apply Ps;rfl) | (apply Rq;rfl))) (hH:Ail H=Ad H1:=by rfl) :
    WL P n c ops Q rest (PL β os sp i l0) H:=Amu ks h hz (AdD hH)
abbrev Cu (d:List Nat)(r:Rp):Sa:=⟨d,r,Ai,Ai,Ai⟩
theorem Agj (F:Nat)(s:Aw)(r:(List Aw)×Int)(h:Rx F s=Ad r):FN 52 [rS s] [] (PO (Du [Cg 1 (BP eS r.1),Bn r.2])):=en func52 ntmps52 Aa λw Z=>by unfold Rx at h;exact AY Aa<|Be<|VV (S:=(Int)×(Unit)) 0 (λσ=>GO σ.1=Ad r) (λσ=>[(2,rv (.slice Ai 0 0)),(3,Bn 0),(7,Bn σ.1)]) (λσ=>[]) Aa (AY Aa<|Ca Aa<|Ca Aa<|BH Aa<|wv Es<|Be<|BG h (λhl hm=>O8<|Do<|O6<|AA (14,()) hm (AP Aa) sN) λhl hn=>by refine B5<|ck hn λho hp=>ck hp λhq hr=>ck hr λhs ht=>D5 6 [0,2,3,4,6,7] [Cu [] (rS s),Cu [0] (rI .u8 (BA s 0)),Cu [1] (Bn (BA s 0)),Cu [] (rS s),Cu [3] (rS (Ap (CV 1) s)),Cu [2] (Bn (BA s 0))] ?_ (λβ=>?_);exact Dg (AQ Aa)<|Dg (E8 GB Aa Aa ho)<|Dg (Eo ⟨_,Mi⟩ S7 Aa hq)<|Dg (AQ Aa)<|Dg (Gx GB Aa Aa hs)<|Dg (Cj Aa)<|RX;refine D4 [10,11,12,13,14,5,0,2,3,4,6,7] ?_;exact ms Aa<|BH Aa<|wv Cw<|Be<|BG ht (λc167 hu=>AY Aa<|Be<|O8<|Do<|O6<|AA (13,()) hu (AP Aa) sN) λc167 hw=>B5<|AY Aa<|Be<|AL<|WC.nilrow (e:=9) (sz:=1)<|ob hw λhx hy he=>B8 (V:=(Aw×(List Aw))×(Value)) 0 (λσ=>Cp (λσ=>EF s σ.1 σ.2.1 σ.2.2.1 σ.2.2.2) σ.1 σ.2.1=Ad hx) (λσ=>[(0,rS σ.2.1.1),(2,rv (.slice Ai 0 0)),(3,Bn 0),(4,rv σ.2.2),(6,Bn σ.2.1.2.2.1),(7,Bn 14),(17,Bn (BA s 0)),(18,Bn σ.2.1.2.2.2)]) (λσ=>[Co σ.2.2 σ.2.1.2.1]) (λσ=>σ.1) (F,(Ap (CV 1) s,([]:List Aw),0,0),(.slice Ai 0 0         )) hy (AP Aa) (sC sN) (λσ=>J9 σ.1.1 σ.1.2=Ad r) (λσ=>[(0,rS σ.1.1),(2,rv (.slice Ai 0 0)),(3,Bn 0),(4,rv σ.2),(7,Bn 14)]) (λσ=>[Co σ.2 σ.1.2]) (by rintro⟨gu,⟨ha,hf,hz,hj⟩,v233⟩ h0;refine EM ?_;obtain⟨h1,rfl,h2,hh,hd⟩:=C5 h0;have hh:EF s ha hf hz hj=Ad h2:=hh;exact AT<|wv BS<|Cz<|BG hh (λh3 h4=>B5<|AL<|Bl<|AY Aa<|wv B6<|wv BS<|Be<|BG h4 (λh5 h6=>O8<|Do<|Jq<|Do<|Do<|NF<|Jq<|Do<|O6<|ob h6 λgv h7 h8=>have h9:=BK h8 hd he;by cases h9;exact AA (14,()) h7 (AP Aa) (sS sN)) λh5 hA=>by refine B5<|ck hA λhB hC=>ck hC λhD hE=>ck hE λhG hH=>ck hH λhI hJ=>ck hJ λhK hL=>D5 11 [0,2,3,4,7,17,18,19,20,21,22] [Cu [] (rS ha),Cu [0] (rI .u8 (BA ha 0)),Cu [1] (Bn (BA ha 0)),Cu [2] (Bn (HF .i64 (BA ha 0) 8)),Cu [] (rS ha),Cu [4] (rI .u8 (BA ha 1)),Cu [5] (Bn (BA ha 1)),Cu [3,6] (Bn (Rt .i64 (HF .i64 (BA ha 0) 8) (BA ha 1))),Cu [] (rS ha),Cu [8] (rS (Ap (CV 2) ha)),Cu [7] (Bn (Rt .i64 (HF .i64 (BA ha 0) 8) (BA ha 1)))] ?_ (λβ=>?_);exact Dg (AQ Aa)<|Dg (E8 GB Aa Aa hB)<|Dg (Eo ⟨_,Mi⟩ S7 Aa hD)<|Dg (Ad7 Aa Aa Al)<|Dg (AQ Aa)<|Dg (E8 GB Aa Aa hG)<|Dg (Eo ⟨_,Mi⟩ S7 Aa hI)<|Dg (AkL Aa Aa)<|Dg (AQ Aa)<|Dg (Gx GB Aa Aa hK)<|Dg (Cj Aa)<|RX;refine D4 [23,24,25,26,27,28,29,30,31,32,6,0,2,3,4,7,17,18,19,20,21,22] ?_;exact ms Aa<|BH Aa<|wv Cw<|Be<|BG hL (λhN hO=>AY Aa<|Be<|O8<|Do<|Jq<|Do<|Do<|NF<|Jq<|Do<|O6<|ob hO λgw hP hQ=>have hR:=BK hQ hd he;by cases hR;exact AA (13,()) hP (AP Aa) (sS sN)) λhN hS=>B5<|AY Aa<|wv B6<|ms Aa<|wv BS<|Be<|BG hS (λhT hU=>O8<|Do<|Jq<|Do<|Do<|NF<|Jq<|Do<|O6<|ob hU λgx hV hW=>have hX:=BK hW hd he;by cases hX;exact AA (14,()) hV (AP Aa) (sS sN)) λhT hY=>by refine BQ<|ck hY λhk hZ=>ck hZ λga gb=>Exists.elim Oq λinf hinf=>RI 10 5 [0,2,3,6,7,17,18,20,21,22,23,24,25,26,27,28,29,30,31,32,33,34,35,36,37,38] [4] [{ deps:=[],r:=λ_=>rv v233,old:=[4] },{ deps:=[],r:=λ_=>rS (Ap (CV 2) ha) },{ deps:=[],r:=λ_=>Bn (Rt .i64 (HF .i64 (BA ha 0) 8) (BA ha 1)) },{ deps:=[1,2],r:=λ_=>rS (Aq (CV (Rt .i64 (HF .i64 (BA ha 0) 8) (BA ha 1))) (Ap (CV 2) ha)) },{ deps:=[3],r:=λ_=>Cg 1 (BP eS ([Aq (CV (Rt .i64 (HF .i64 (BA ha 0) 8) (BA ha 1))) (Ap (CV 2) ha)]:List Aw)) },{ deps:=[0,4],r:=λhb=>rv hb,dyn:=Af },{ deps:=[],r:=λ_=>rS (Ap (CV 2) ha) },{ deps:=[],r:=λ_=>Bn (Rt .i64 (HF .i64 (BA ha 0) 8) (BA ha 1)) },{ deps:=[6,7],r:=λ_=>rS (Ap (CV (Rt .i64 (HF .i64 (BA ha 0) 8) (BA ha 1))) (Ap (CV 2) ha)) },{ deps:=[5],r:=λhb=>rv hb,dyn:=Af }] (λhb=>[Co hb (hf++([Aq (CV (Rt .i64 (HF .i64 (BA ha 0) 8) (BA ha 1))) (Ap (CV 2) ha)]:List Aw))]) ?_ (λhb=>?_);exact Md (AQ Aa)<|Md (AQ Aa)<|Md (AQ Aa)<|Md (UY GB Aa Aa hk)<|oxc (CQ (ys:=([Aq (CV (Rt .i64 (HF .i64 (BA ha 0) 8) (BA ha 1))) (Ap (CV 2) ha)]:List Aw)) (enc:=eS) (css:=[[rS (Aq (CV (Rt .i64 (HF .i64 (BA ha 0) 8) (BA ha 1))) (Ap (CV 2) ha))]]) (xs:=[.tmp 42]) Ev DS Uc Aa Aa Aa ⟨cO Aa,trivial⟩ Aa D6 Aa Aa)<|oxx (KQ (i:=0) Ev hinf.1 hinf.2.1 hinf.2.2.1 hinf.2.2.2 Aa Aa Aa Aa Aa (HJ.z Aa Aa) D6 Lw ga)<|Md (AQ Aa)<|Md (AQ Aa)<|Md (Gx GB Aa Aa hk)<|Md (fun {hb _}=>(Cj Aa))<|oxe;refine D4 [39,40,41,42,43,44,45,46,47,4,0,2,3,6,7,17,18,20,21,22,23,24,25,26,27,28,29,30,31,32,33,34,35,36,37,38] ?_;exact B9 Aa<|DB<|AU<|ck gb λgc gd=>wv (Bg gc)<|B9 Aa<|have gf:=Bp gd hd;AG (AA (h1,(Ap (CV (Rt .i64 (HF .i64 (BA ha 0) 8) (BA ha 1))) (Ap (CV 2) ha),hf++([Aq (CV (Rt .i64 (HF .i64 (BA ha 0) 8) (BA ha 1))) (Ap (CV 2) ha)]:List Aw),Rt .i64 (HF .i64 (BA ha 0) 8) (BA ha 1),hj+1),hb) ⟨gf,Aqw _⟩ (AP Aa) (sC sN))) λh3 gg=>BE<|A3<|have gh:=Ci gg hd he;A3 (Bk (AA ((ha,hf),v233) gh (AP Aa) (sC sN))))<|by rintro⟨⟨gi,gj⟩,gy⟩ hi;refine Hb ?_;exact have hi:J9 gi gj=Ad r:=hi;Bo<|CL<|Bl<|AY Aa<|wv (DN Aa Aa)<|Be<|BG hi (λgl gm=>AY Aa<|Be<|O8<|Do<|O6<|AA (13,()) gm (AP Aa) (sS sN)) λgl gp=>B5<|AY Aa<|wv (CC 0 Ev Aa Aa)<|ms Aa<|wv (CC 0 Ev Aa Aa)<|WL.freeze (i:=0) Aa<|WL.up (d:=51) Aa (Up.fact 0 Aa)<|ck gp λgq gr=>wv (ST Ev DS Aa Aa Aa gq)<|Bw Aa<|A5<|Akj<|cs gr▸AC (Eb results52 AW AW) (sS sN) ⟨Aa,Aa⟩)<|by rintro⟨gs,⟨⟩⟩ hg;refine EM ?_;exact have hg:GO gs=Ad r:=hg;by unfold GO at hg;exact Bl<|BQ<|Cy Aa<|O5<|WK.up (d:=2) (r:=Cg 1 (BP eS ([]:List Aw))) Aa (Up.le (If.nil _))<|cs hg▸Ki results52 ⟨Aa,Aa⟩
theorem Alz (F:Nat)(body:Aw)(r:Aw×Int)(h:X5 F body=Ad r):FN 102 [rS body] [] (PO (Du (D8 r.1 r.2))):=en func102 ntmps102 Aa λw Z=>AT<|wv (r:=rS ([]:Aw)) Bd<|ms Aa<|BH Aa<|wv B6<|wv Cw<|Be<|BG h (λc1 h2=>AT<|wv (r:=rS ([]:Aw)) Bd<|Bw Aa<|A5<|cs h2▸Ki results102 ⟨Aa,Aa⟩) λc1 h3=>BQ<|AY Aa<|wv B6<|wv (C9 ⟨_,S7⟩ Jh Aa)<|ob h3 λr4 e6 h5=>CS call140 (X7 (Hi .u32 (Ae body:Int)) r4 e6)<|ms Aa<|ob h5 λr7 e9 h8=>CS call104 (AiZ F body r7 e9)<|ob h8 λha hb hd=>CS call140 (X7 r7 ha hb)<|ck hd λhe hf=>wv (Dz he)<|ms Aa<|ck hf λg15 hg=>wv (Dz g15)<|Bw Aa<|cs hg▸Ki results102 ⟨Aa,Aa⟩
theorem Al1 (F:Nat)(s:Aw)(r:Aw×Int×Int)(h:Aeh F s=Ad r):FN 75 [rS s] [] (PO (Du [rS r.1,Bn r.2.1,Bn r.2.2])):=en func75 ntmps75 Aa λw Z=>AT<|wv (r:=rS ([]:Aw)) Bd<|ms Aa<|BH Aa<|wv B6<|wv BS<|Be<|BG h (λc1 h2=>AT<|wv (r:=rS ([]:Aw)) Bd<|Bw Aa<|A5<|cs h2▸AC (r_3 AgI AW AW AW) sN ⟨Aa,Aa⟩) λc1 h3=>BQ<|AY Aa<|ob h3 λr4 e6 h5=>CS call103 (X6 s r4 e6)<|wv (C9 ⟨_,Jh⟩ S7 Aa)<|ms Aa<|Cz<|AL<|AY Aa<|wv Cw<|CW Aa<|BG h5 (λc7 h8=>AT<|wv (r:=rS ([]:Aw)) Bd<|Bw Aa<|BW<|cs h8▸AC (r_3 AgI AW AW AW) sN ⟨Aa,Aa⟩) λc7 h9=>AY Aa<|wv B6<|ck h9 λhb hd=>wv (G7 hb)<|wv Cw<|CW Aa<|BG hd (λhe hf=>AT<|wv (r:=rS ([]:Aw)) Bd<|Bw Aa<|BW<|by exact cs hf▸AC (r_3 AgI AW AW AW) sN ⟨Aa,Aa⟩) λhe hg=>by refine Cf<|DB<|AY Aa<|ck hg λg15 hh=>wv (Bg g15)<|ck hh λg17 hi=>ck hi λg19 hj=>wv (EC GB Aa Aa Aa g17 g19)<|ms Aa<|Cz<|Bl<|ob hj λha hk hl=>ck hl λhm hn=>D5 4 [0,5,6] [Cu [] (rS (Aq (CV (8+(Hi .i64 r4))-CV 8) (Ap (CV 8) s))),Cu [0] (rI .u32 ha),Cu [] (rS s),Cu [2] (rS (Ap (CV 4) s))] ?_ (λβ=>?_);exact Dg (AQ Aa)<|Ni (Ge call104 (AiZ F (Aq (CV (8+(Hi .i64 r4))-CV 8) (Ap (CV 8) s)) ha hk) Aa)<|Dg (AQ Aa)<|Dg (Gx GB Aa Aa hm)<|RX;refine D4 [26,27,28,29,0,5,6] ?_;exact ob hn λho hp hq=>CS call103 (X6 (Ap (CV 4) s) ho hp)<|wv BU<|Be<|BG hq (λhr hs=>AT<|wv (r:=rS ([]:Aw)) Bd<|Bw Aa<|A5<|cs hs▸AC (r_3 AgI AW AW AW) sN ⟨Aa,Aa⟩) λhr ht=>BQ<|AY Aa<|wv (Bg g15)<|Bw Aa<|cs ht▸AC (r_3 AgI AW AW AW) sN ⟨Aa,Aa⟩
theorem Ajn (F:Nat)(s:Aw)(r:(List Aw)×Int)(h:YT F s=Ad r):FN 51 [rS s] [] (PO (Du [Cg 1 (BP eS r.1),Bn r.2])):=en func51 ntmps51 Aa λw Z=>AY Aa<|Ca Aa<|Ca Aa<|Cz<|AL<|WC.nilrow (e:=9) (sz:=1)<|ob h λhj hk hh=>B8 (V:=((List Aw)×Int)×(Value)) 0 (λσ=>Cp (λσ=>KL F s σ.1 σ.2) σ.1 σ.2.1=Ad hj) (λσ=>[(0,rS s),(2,rv (.slice Ai 0 0)),(3,Bn 0),(4,rv σ.2.2),(5,Bn σ.2.1.2)]) (λσ=>[Co σ.2.2 σ.2.1.1]) (λσ=>σ.1) (F,(([]:List Aw),0),(.slice Ai 0 0         )) hk (AP Aa) (sC sN) (λσ=>Pg σ.1.1 σ.1.2=Ad r) (λσ=>[(2,rv (.slice Ai 0 0)),(3,Bn 0),(4,rv σ.2),(5,Bn σ.1.2)]) (λσ=>[Co σ.2 σ.1.1]) (by rintro⟨hA,⟨hb,ha⟩,hi⟩ hl;refine EM ?_;obtain⟨hm,rfl,hn,he,hf⟩:=C5 hl;have he:KL F s hb ha=Ad hn:=he;exact Bl<|AY Aa<|wv B6<|wv BS<|Be<|BG he (λho hp=>BQ<|AL<|AY Aa<|ck hp λhq hr=>wv (Gx GB Aa Aa hq)<|ob hr λhd hs ht=>CS call75 (Al1 F (Ap (CV ha) s) hd hs)<|ms Aa<|wv A4<|wv A4<|wv A4<|ms Aa<|BH Aa<|wv BU<|Be<|BG ht (λc167 hu=>BE<|A3<|Ab3 Aa<|have hw:=Ci hu hf hh;A3 (Bk (AA ((hb,ha),hi) hw (AP Aa) (sC sN)))) λc167 hx=>BQ<|BD Aa<|Dy ([hd.1]:List Aw) eS Ev DS Uc Aa ⟨cO Aa,trivial⟩ D6 λhB=>ck hx λhy hz=>E0 1 Ev Oq Aa Aa (HJ.w 0 Aa Aa) D6 Lw hy λh0=>ms Aa<|ck hz λh1 h2=>wv (Bg h1)<|B9 Aa<|Bm<|have h3:=Bp h2 hf;AG (AA (hm,(hb++([hd.1]:List Aw),ha+hd.2.1),h0) ⟨h3,Aqw _⟩ (AP Aa) (sC (sS sN)))) λho h4=>BE<|A3<|have h5:=Ci h4 hf hh;A3 (Bk (AA ((hb,ha),hi) h5 (AP Aa) (sC sN))))<|by rintro⟨⟨h6,h7⟩,hC⟩ hg;refine Hb ?_;exact have hg:Pg h6 h7=Ad r:=hg;Bo<|CL<|AY Aa<|wv (CC 0 Ev Aa Aa)<|ms Aa<|wv (CC 0 Ev Aa Aa)<|WL.freeze (i:=0) Aa<|WL.up (d:=30) Aa (Up.fact 0 Aa)<|ck hg λh8 h9=>wv (ST Ev DS Aa Aa Aa h8)<|Bw Aa<|cs h9▸AC (Eb results51 AW AW) (sS sN) ⟨Aa,Aa⟩
theorem Al2 (F:Nat)(bodies:(List Aw))(r:Aw×Int)(h:Aei F bodies=Ad r):FN 73 (Lq bodies) [] (PO (Du (D8 r.1 r.2))):=en func73 ntmps73 Aa λw Z=>AT<|wv (r:=rS ([]:Aw)) Bd<|ms Aa<|Ca Aa<|BH Aa<|wv B1<|CW Aa<|AL<|WC.nilrow (e:=5) (sz:=1)<|ob h λhl hm hj=>B8 (V:=((List Int))×(Value)) 0 (λσ=>Cp (λσ=>Kd F bodies σ.1 σ.2) σ.1 σ.2.1=Ad hl) (λσ=>[(4,rv σ.2.2),(9,Cg 1 (BP eS bodies)),(10,Bn (Ae bodies:Int)),(11,Bn σ.2.1.2)]) (λσ=>[.row σ.2.2 5 1 (BP CO σ.2.1.1)]) (λσ=>σ.1) (F,(([]:List Int),0),(.slice Ai 0 0     )) hm (AP Aa) (sC sN) (λσ=>Ox σ.1=Ad r) (λσ=>[(4,rv σ.2)]) (λσ=>[.row σ.2 5 1 (BP CO σ.1)]) (by rintro⟨hB,⟨hb,he⟩,hg⟩ hn;refine EM ?_;obtain⟨ho,rfl,hp,hh,hi⟩:=C5 hn;have hh:Kd F bodies hb he=Ad hp:=hh;exact AT<|wv BS<|Cz<|BG hh (λhq hr=>B5<|AL<|AT<|ck hr λhs ht=>wv (Bh hs)<|wv Bb<|ms Aa<|Ca Aa<|ob ht λhd hu hw=>CS call102 (Alz F (A2 bodies he) hd hu)<|ms Aa<|wv A4<|wv A4<|ms Aa<|Cz<|ck hw λhx hy=>AM [(4,rv hg),(7,rS hd.1),(9,Cg 1 (BP eS bodies)),(10,Bn (Ae bodies:Int)),(11,Bn he),(29,rB ((!Br (hd.2=0))||(Br (262144<((hb.length:Int)+(hd.1.length:Int))))))] [.row hg 5 1 (BP CO hb)] (BD Aa<|wv BU<|ms Aa<|Ba (!Br (hd.2=0)) (λha=>CI ha Aa<|wv (Ax ha)<|AD<|Ce ha) λha=>wo ha<|ms Aa<|Bt ha (CC 0 EH Aa Aa)<|wo ha<|ms Aa<|Bt ha B6<|Bt ha (Bg (CA hx ha))<|Bt ha Cw<|D7 Aa ha Aa<|AD<|by exact Ce ha)<|BG hy (λhz h0=>AT<|wv (r:=rS ([]:Aw)) Bd<|Bw Aa<|A5<|BW<|A5<|Bj<|have h1:=BK h0 hi hj;BW<|cs h1▸AC (Eb results73 AW AW) (sS sN) ⟨Aa,Aa⟩) λhz h2=>BQ<|BD Aa<|ck h2 λh3 h4=>Exists.elim N7 λinf hinf=>H7 (xs:=hb) (i:=0) EH GB hinf.1 hinf.2.1 hinf.2.2.1 hinf.2.2.2 Aa Aa Aa h3 Aa λh5=>B9 Aa<|DB<|AU<|ck h4 λh6 h7=>wv (Bg h6)<|B9 Aa<|have h8:=Bp h7 hi;AG (AA (ho,(hb++E7 hd.1,he+1),h5) ⟨h8,Aqw _⟩ (AP Aa) (sC sN))) λhq h9=>BE<|A3<|have hA:=Ci h9 hi hj;A3 (Bk (AA (hb,hg) hA (AP Aa) (sC sN))))<|by rintro⟨hk,hC⟩ hf;refine Hb ?_;exact have hf:Ox hk=Ad r:=hf;by unfold Ox at hf;exact Bo<|CL<|AY Aa<|wv (WV (xs:=hk) (i:=0) EH GB Mi Aa Aa)<|Bw Aa<|cs hf▸AC (Eb results73 AW AW) (sS sN) ⟨Aa,Aa⟩
theorem Adv (F:Nat)(s:Aw)(r:Int)(h:Aag F s=Ad r):FN 152 [rS s] [] (PO (rI .u32 r)):=en func152 ntmps152 Aa λw Z=>AY Aa<|Ca Aa<|BH Aa<|Be<|AL<|ob h λho hp hq=>B8 (V:=(Int)×(Unit)) 0 (λσ=>Cp (λσ=>JV F s σ.1 σ.2) σ.1 σ.2.1=Ad ho) (λσ=>[(0,rS s),(3,rI .u32 σ.2.1.1),(4,Bn σ.2.1.2)]) (λσ=>[]) (λσ=>σ.1) (F,(4294967295,0),()) hp (AP Aa) sN (λσ=>QQ σ.1=Ad r) (λσ=>[(3,rI .u32 σ.1)]) (λσ=>[]) (by rintro⟨hL,⟨hf,hb⟩,⟨⟩⟩ hr;refine EM ?_;obtain⟨hs,rfl,hg,hh,hl⟩:=C5 hr;have hh:JV F s hf hb=Ad hg:=hh;exact Bl<|AY Aa<|wv B6<|wv BS<|Be<|BG hh (λht hu=>B5<|AL<|AY Aa<|ck hu λhw hx=>wv (B0 hw)<|wv (C9 ⟨_,Mi⟩ Jh Aa)<|wv (Aat Aa Aa)<|ms Aa<|Ca Aa<|Be<|AL<|ob hx λhy hz h0=>B8 (V:=(Int×Int×Int×Bool)×(Unit)) 2 (λσ=>Cp (λσ=>Mz σ.1 σ.2) σ.1 σ.2.1=Ad hy) (λσ=>[(0,rS s),(3,rI .u32 σ.2.1.1),(4,Bn hb),(5,Bn σ.2.1.2)]) (λσ=>[]) (λσ=>σ.1) (F,(Kn .u32 hf (Hi .u32 (BA s hb)),0),()) hz (AP Aa) sN (λσ=>QP hb σ.1.1 σ.1.2.1 σ.1.2.2.1 σ.1.2.2.2=Ad hg) (λσ=>[(0,rS s),(3,rI .u32 σ.1.1),(4,Bn hb),(5,Bn σ.1.2.1),(18,Bn σ.1.2.2.1),(19,rB σ.1.2.2.2)]) (λσ=>[]) (by rintro⟨hN,⟨ha,hd⟩,⟨⟩⟩ h1;refine EM ?_;obtain⟨h2,rfl,h3,hi,hm⟩:=C5 h1;have hi:Mz ha hd=Ad h3:=hi;exact Bl<|AY Aa<|wv BS<|Be<|BG hi (λh4 h5=>BQ<|AM [(0,rS s),(3,rI .u32 (bif Br ((Sk .u32 ha 1)=1) then Kn .u32 (Er .u32 ha 1) 3988292384 else Er .u32 ha 1)),(4,Bn hb),(5,Bn hd)] [] (AL<|AY Aa<|wv (Amb Aa Aa)<|wv Bx<|Be<|JD (b:=Br ((Sk .u32 ha 1)=1)) Aa (λhj=>BD Aa<|wv (Oe Aa Aa Al)<|wv (Aat Aa Aa)<|B9 Aa<|Bm<|Ce hj) λhj=>BD Aa<|wv (Oe Aa Aa Al)<|B9 Aa<|Bm<|Ce hj)<|BD Aa<|ck h5 λh6 h7=>wv (Bg h6)<|B9 Aa<|have h8:=Bp h7 hm;AG (AA (h2,((bif Br ((Sk .u32 ha 1)=1) then Kn .u32 (Er .u32 ha 1) 3988292384 else Er .u32 ha 1),hd+1),()) ⟨h8,Aqw _⟩ (AP Aa) sN)) λh4 h9=>BE<|A3<|have hA:=Ci h9 hm h0;A3 (Bk (AA ((ha,hd,hd,Br (hd<8)),()) hA (AP Aa) sN)))<|by rintro⟨⟨hn,hB,hC,hD⟩,⟨⟩⟩ hk;refine Hb ?_;exact have hk:QP hb hn hB hC hD=Ad hg:=hk;Bo<|DB<|BD Aa<|ck hk λhE hG=>wv (Bg hE)<|B9 Aa<|have hH:=Bp hG hl;AG (AA (hs,(hn,hb+1),()) ⟨hH,Aqw _⟩ (AP Aa) sN)) λht hI=>BE<|A3<|have hJ:=Ci hI hl hq;A3 (Bk (AA (hf,()) hJ (AP Aa) sN)))<|by rintro⟨hK,⟨⟩⟩ he;refine Hb ?_;exact have he:QQ hK=Ad r:=he;by unfold QQ at he;exact Bo<|CL<|AY Aa<|wv (Ad9 Aa)<|Bw Aa<|cs he▸Gd results152 ⟨Aa,Aa⟩
theorem UR (n:Int)(r:(List Int))(h:Qa n=Ad r):FN 151 [rI .u32 n] [] (PO (Cg 1 (BP CO r))):=en func151 ntmps151 Aa λw Z=>by unfold Qa at h;exact AY Aa<|Ca Aa<|wv (Oe Aa Aa Al)<|wv (C9 ⟨_,Jh⟩ Mi Aa)<|ms Aa<|wv (Oe Aa Aa Al)<|wv (C9 ⟨_,Jh⟩ Mi Aa)<|ms Aa<|wv (Oe Aa Aa Al)<|wv (C9 ⟨_,Jh⟩ Mi Aa)<|ms Aa<|wv (C9 ⟨_,Jh⟩ Mi Aa)<|Dy ([Hi .u8 (Er .u32 n 24),Hi .u8 (Er .u32 n 16),Hi .u8 (Er .u32 n 8),Hi .u8 n]:List Int) CO EH ys5 yz5 Aa ⟨cO Aa,cO Aa,cO Aa,cO Aa,trivial⟩ E9 λb1=>Bw Aa<|WK.freeze (i:=0) Aa<|WK.up (d:=2) Aa (Up.fact 0 Aa)<|cs h▸AC (Dj results151 AW) (sS sN) ⟨Aa,Aa⟩
theorem AhB (F:Nat)(fields:(List Aw))(r:Aw×Int)(h:Yo F fields=Ad r):FN 94 (Lq fields) [] (PO (Du (D8 r.1 r.2))):=en func94 ntmps94 Aa λw Z=>AT<|wv (r:=rS ([]:Aw)) Bd<|ms Aa<|BH Aa<|wv B1<|wv Cw<|Be<|BG h (λc1 h2=>AT<|wv (r:=rS ([]:Aw)) Bd<|Bw Aa<|A5<|cs h2▸Ki results94 ⟨Aa,Aa⟩) λc1 h3=>BQ<|AY Aa<|wv B1<|wv (C9 ⟨_,S7⟩ Mi Aa)<|Dy ([Hi .u8 (Ae fields:Int)]:List Int) CO EH ys5 yz5 Aa ⟨cO Aa,trivial⟩ E9 λb4=>ms Aa<|BH Aa<|wv B1<|CW Aa<|AL<|ob h3 λhk hl hh=>B8 (V:=((List Int))×(Value)) 0 (λσ=>Cp (λσ=>Jw fields σ.1 σ.2) σ.1 σ.2.1=Ad hk) (λσ=>[(0,Cg 1 (BP eS fields)),(4,rv σ.2.2),(14,Bn (Ae fields:Int)),(15,Bn σ.2.1.2)]) (λσ=>[.row σ.2.2 5 1 (BP CO σ.2.1.1)]) (λσ=>σ.1) (F,(([Hi .u8 (Ae fields:Int)]:List Int),0),(.slice (Ad ⟨b4,0,Ai⟩) 1 1)) hl (AP Aa) (sC sN) (λσ=>OK σ.1=Ad r) (λσ=>[(4,rv σ.2)]) (λσ=>[.row σ.2 5 1 (BP CO σ.1)]) (by rintro⟨hB,⟨hb,ha⟩,hi⟩ hm;refine EM ?_;obtain⟨hn,rfl,ho,hf,hg⟩:=C5 hm;have hf:Jw fields hb ha=Ad ho:=hf;exact AT<|wv BS<|Cz<|BG hf (λhp hq=>B5<|AL<|AY Aa<|BH Aa<|ck hq λhd hr=>wv (Bh hd)<|wv Bb<|wv B6<|wv Cw<|Be<|BG hr (λhs ht=>AT<|wv (r:=rS ([]:Aw)) Bd<|Bw Aa<|A5<|BW<|A5<|Bj<|have hu:=BK ht hg hh;BW<|cs hu▸AC (Eb results94 AW AW) (sS sN) ⟨Aa,Aa⟩) λhs hw=>by refine B5<|ck hw λhx hy=>D5 16 [0,4,5,14,15] [Cu [] (rv hi),Cu [] (Cg 1 (BP eS fields)),Cu [] (Bn ha),Cu [1,2] (Ts [rS (A2 fields ha)]),Cu [3] (rS (A2 fields ha)),Cu [4] (Bn (Ae (A2 fields ha):Int)),Cu [5] (Bn (Int.tdiv (Ae (A2 fields ha):Int) 256)),Cu [6] (rI .u8 (Hi .u8 (Int.tdiv (Ae (A2 fields ha):Int) 256))),Cu [] (Cg 1 (BP eS fields)),Cu [] (Bn ha),Cu [8,9] (Ts [rS (A2 fields ha)]),Cu [10] (rS (A2 fields ha)),Cu [11] (Bn (Ae (A2 fields ha):Int)),Cu [12] (Bn (Int.tmod (Ae (A2 fields ha):Int) 256)),Cu [13] (rI .u8 (Hi .u8 (Int.tmod (Ae (A2 fields ha):Int) 256))),Cu [7,14] (Cg 1 (BP CO ([Hi .u8 (Int.tdiv (Ae (A2 fields ha):Int) 256),Hi .u8 (Int.tmod (Ae (A2 fields ha):Int) 256)]:List Int)))] ?_ (λβ=>?_);exact Dg (AQ Aa)<|Dg (AQ Aa)<|Dg (AQ Aa)<|Dg (C7 (enc:=eS) (ys:=fields) Ev DS Aa Aa hd)<|Dg (BT Gb Aa Aa)<|Dg (LD GB Aa)<|Dg (AlY Aa Aa Al hx)<|Dg (C9 ⟨_,S7⟩ Mi Aa)<|Dg (AQ Aa)<|Dg (AQ Aa)<|Dg (C7 (enc:=eS) (ys:=fields) Ev DS Aa Aa hd)<|Dg (BT Gb Aa Aa)<|Dg (LD GB Aa)<|Dg (AlX Aa Aa Al)<|Dg (C9 ⟨_,S7⟩ Mi Aa)<|Ni (CQ (ys:=([Hi .u8 (Int.tdiv (Ae (A2 fields ha):Int) 256),Hi .u8 (Int.tmod (Ae (A2 fields ha):Int) 256)]:List Int)) (enc:=CO) (css:=[[rI .u8 (Hi .u8 (Int.tdiv (Ae (A2 fields ha):Int) 256))],[rI .u8 (Hi .u8 (Int.tmod (Ae (A2 fields ha):Int) 256))]]) (xs:=[.tmp 31,.tmp 38]) EH ys5 yz5 Aa Aa Aa ⟨cO Aa,cO Aa,trivial⟩ Aa E9 Aa Aa)<|RX;refine D4 [24,25,26,27,28,29,30,31,32,33,34,35,36,37,38,39,0,4,5,14,15] ?_;exact ck hy λhz h0=>E0 0 EH N7 Aa Aa (HJ.z Aa Aa) E9 MK hz λhC=>CW Aa<|BD Aa<|wv (Bh hd)<|wv Bb<|ck h0 λh1 h4=>Exists.elim N7 λinf hinf=>H7 (xs:=hb++([Hi .u8 (Int.tdiv (Ae (A2 fields ha):Int) 256),Hi .u8 (Int.tmod (Ae (A2 fields ha):Int) 256)]:List Int)) (i:=0) EH GB hinf.1 hinf.2.1 hinf.2.2.1 hinf.2.2.2 Aa Aa Aa h1 Aa λh5=>B9 Aa<|DB<|AU<|ck h4 λh6 h7=>wv (Bg h6)<|B9 Aa<|have h8:=Bp h7 hg;AG (AA (hn,((hb++([Hi .u8 (Int.tdiv (Ae (A2 fields ha):Int) 256),Hi .u8 (Int.tmod (Ae (A2 fields ha):Int) 256)]:List Int))++E7 (A2 fields ha),ha+1),h5) ⟨h8,Aqw _⟩ (AP Aa) (sC sN))) λhp h9=>BE<|A3<|have hA:=Ci h9 hg hh;A3 (Bk (AA (hb,hi) hA (AP Aa) (sC sN))))<|by rintro⟨hj,hD⟩ he;refine Hb ?_;exact have he:OK hj=Ad r:=he;by unfold OK at he;exact Bo<|CL<|AY Aa<|wv (WV (xs:=hj) (i:=0) EH GB Mi Aa Aa)<|Bw Aa<|cs he▸AC (Eb results94 AW AW) (sS sN) ⟨Aa,Aa⟩
theorem AbY (F:Nat)(s:Aw)(r:(List Aw)×Int)(h:QL F s=Ad r):FN 90 [rS s] [] (PO (Du [Cg 1 (BP eS r.1),Bn r.2])):=en func90 ntmps90 Aa λw Z=>AY Aa<|BH Aa<|wv B6<|wv BS<|Be<|BG h (λc1 h2=>Bz Aa<|WK.up (d:=2) (r:=Cg 1 (BP eS ([]:List Aw))) Aa (Up.le (If.nil _))<|cs h2▸Ki Abw ⟨Aa,Aa⟩) λc1 h3=>B5<|AY Aa<|ck h3 λg4 h5=>wv (B0 g4)<|wv Cw<|Be<|BG h5 (λc6 h7=>Bz Aa<|WK.up (d:=2) (r:=Cg 1 (BP eS ([]:List Aw))) Aa (Up.le (If.nil _))<|cs h7▸Ki Abw ⟨Aa,Aa⟩) λc6 h8=>BQ<|AY Aa<|Ca Aa<|BH Aa<|wv (B0 g4)<|ck h8 λg9 hl=>wv (Eo ⟨_,Mi⟩ S7 Aa g9)<|CW Aa<|AL<|WC.nilrow (e:=9) (sz:=1)<|ob hl λhm hn hd=>B8 (V:=((List Aw)×Int)×(Value)) 0 (λσ=>Cp (λσ=>Ed s σ.1 σ.2.1 σ.2.2) σ.1 σ.2.1=Ad hm) (λσ=>[(0,rS s),(4,rv σ.2.2),(5,Bn σ.2.1.2.1),(15,Bn (BA s 0)),(16,Bn σ.2.1.2.2)]) (λσ=>[Co σ.2.2 σ.2.1.1]) (λσ=>σ.1) (F,(([]:List Aw),1,0),(.slice Ai 0 0         )) hn (AP Aa) (sC sN) (λσ=>IB s σ.1.1 σ.1.2=Ad r) (λσ=>[(0,rS s),(4,rv σ.2),(5,Bn σ.1.2)]) (λσ=>[Co σ.2 σ.1.1]) (by rintro⟨gs,⟨he,ha,hi⟩,ho⟩ hp;refine EM ?_;obtain⟨hq,rfl,hr,hf,hb⟩:=C5 hp;have hf:Ed s he ha hi=Ad hr:=hf;exact AT<|wv BS<|Cz<|BG hf (λhs ht=>B5<|AL<|Bl<|AY Aa<|wv B6<|ms Aa<|ck ht λhj hu=>wv (G7 hj)<|wv BS<|Be<|BG hu (λhw hx=>Bz Aa<|BW<|A5<|Bj<|have hy:=BK hx hb hd;BW<|WK.up (d:=2) (r:=Cg 1 (BP eS ([]:List Aw))) Aa (Up.le (If.nil _))<|cs hy▸AC (Eb Abw AW AW) (sS sN) ⟨Aa,Aa⟩) λhw hz=>by refine B5<|ck hz λh0 h1=>ck h1 λh4 h6=>ck h6 λh9 hA=>ck hA λhB hC=>ck hC λhD hE=>ck hE λhG hH=>ck hH λhI hJ=>Et [0,4,5,15,16] ?_;refine rq AS<|rq AS<|rq (B0 h0)<|rq (Eo ⟨_,Mi⟩ S7 Aa h4)<|rq (UZ Aa Aa h9)<|rq AS<|rq AS<|rq (Bg hB)<|rq (B0 hD)<|rq (Eo ⟨_,Mi⟩ S7 Aa hG)<|rq (Bg hI)<|rq Bd<|re [23,24,25,26,27,28,29,30,31,32,33,6,0,4,5,15,16] ?_;exact CL<|Bl<|AY Aa<|wv Cw<|Be<|BG hJ (λhK hL=>Bz Aa<|BW<|A5<|Bj<|have hN:=BK hL hb hd;BW<|WK.up (d:=2) (r:=Cg 1 (BP eS ([]:List Aw))) Aa (Up.le (If.nil _))<|cs hN▸AC (Eb Abw AW AW) (sS sN) ⟨Aa,Aa⟩) λhK hO=>B5<|AY Aa<|wv B6<|ms Aa<|wv (G7 hj)<|ck hO λhP hQ=>wv (G7 hP)<|ms Aa<|wv BS<|Be<|BG hQ (λhR hS=>Bz Aa<|BW<|A5<|Bj<|have hT:=BK hS hb hd;BW<|WK.up (d:=2) (r:=Cg 1 (BP eS ([]:List Aw))) Aa (Up.le (If.nil _))<|cs hT▸AC (Eb Abw AW AW) (sS sN) ⟨Aa,Aa⟩) λhR hU=>BQ<|AY Aa<|ck hU λhg hV=>wv (Bg hg)<|ms Aa<|wv (Bg hg)<|ms Aa<|ck hV λhk hW=>wv (Bg hk)<|ck hW λhX hY=>ck hY λhZ ga=>wv (EC GB Aa Aa Aa hX hZ)<|Dy ([Aq (CV ((ha+2)+(((BA s ha)*256)+(BA s (ha+1))))-CV (ha+2)) (Ap (CV (ha+2)) s)]:List Aw) eS Ev DS Uc Aa ⟨cO Aa,trivial⟩ D6 λgu=>ck ga λgb gc=>E0 1 Ev Oq Aa Aa (HJ.w 0 Aa Aa) D6 Lw gb λgd=>CW Aa<|BD Aa<|wv (Bg hg)<|ms Aa<|wv (Bg hk)<|B9 Aa<|DB<|AU<|ck gc λgf gg=>wv (Bg gf)<|B9 Aa<|by exact have gh:=Bp gg hb;AG (AA (hq,(he++([Aq (CV ((ha+2)+(((BA s ha)*256)+(BA s (ha+1))))-CV (ha+2)) (Ap (CV (ha+2)) s)]:List Aw),(ha+2)+(((BA s ha)*256)+(BA s (ha+1))),hi+1),gd) ⟨gh,Aqw _⟩ (AP Aa) (sC (sS sN)))) λhs gi=>BE<|A3<|have gj:=Ci gi hb hd;A3 (Bk (AA ((he,ha),ho) gj (AP Aa) (sC sN))))<|by rintro⟨⟨gl,gm⟩,v146⟩ hh;refine Hb ?_;exact have hh:IB s gl gm=Ad r:=hh;Bo<|CL<|Bl<|AY Aa<|wv B6<|wv BS<|Be<|BG hh (λgp gq=>Bz Aa<|WK.up (d:=2) (r:=Cg 1 (BP eS ([]:List Aw))) Aa (Up.le (If.nil _))<|cs gq▸AC (Eb Abw AW AW) (sS sN) ⟨Aa,Aa⟩) λgp gr=>BQ<|Cy Aa<|WK.freeze (i:=0) Aa<|WK.up (d:=2) Aa (Up.fact 0 Aa)<|cs gr▸AC (Eb Abw AW AW) (sS sN) ⟨Aa,Aa⟩
theorem AhA (F:Nat)(body:Aw)(r:Aw×Int)(h:UQ F body=Ad r):FN 122 [rS body] [] (PO (Du (D8 r.1 r.2))):=en func122 ntmps122 Aa λw Z=>AT<|wv (r:=rS ([]:Aw)) Bd<|ms Aa<|BH Aa<|wv B6<|wv Cw<|Be<|BG h (λc1 h2=>AT<|wv (r:=rS ([]:Aw)) Bd<|Bw Aa<|A5<|cs h2▸Ki results122 ⟨Aa,Aa⟩) λc1 h3=>by refine B5<|ob h3 λr4 e6 h5=>ob h5 λr7 e9 h8=>ob h8 λha hb hd=>ck hd λhe hf=>ck hf λg15 hg=>Et [0] ?_;refine rq AS<|rq B6<|rq (C9 ⟨_,S7⟩ Jh Aa)<|RM (Ge call151 (UR (Hi .u32 (Ae body:Int)) r4 e6) Aa)<|rq (Y1 (xs:=r4) EH GB Mi Aa)<|rq AS<|RM (Ge call152 (Adv F body r7 e9) Aa)<|RM (Ge call151 (UR r7 ha hb) Aa)<|rq (Y1 (xs:=ha) EH GB Mi Aa)<|rq (Dz he)<|rq AS<|rq (Dz g15)<|rq Bd<|rq (r:=Bn 0) Bd<|re [2,3] ?_;exact CL<|CM<|cs hg▸Ki results122 ⟨Aa,Aa⟩
theorem AhC (F:Nat)(s:Aw)(r:Aw×Int×Int)(h:Yp F s=Ad r):FN 119 [rS s] [] (PO (Du [rS r.1,Bn r.2.1,Bn r.2.2])):=en func119 ntmps119 Aa λw Z=>AT<|wv (r:=rS ([]:Aw)) Bd<|ms Aa<|BH Aa<|wv B6<|wv BS<|Be<|BG h (λc1 h2=>AT<|wv (r:=rS ([]:Aw)) Bd<|Bw Aa<|A5<|cs h2▸AC (r_3 Zw AW AW AW) sN ⟨Aa,Aa⟩) λc1 h3=>by refine B5<|ck h3 λg4 h5=>ck h5 λg6 h7=>ck h7 λg8 h9=>ck h9 λhg hh=>ck hh λhi hj=>ck hj λhk hl=>ck hl λg16 hm=>ck hm λg18 hn=>ck hn λho hp=>ck hp λhq hr=>ck hr λhs ht=>ck ht λhu hw=>ck hw λhx hy=>ck hy λhz h0=>Et [0] ?_;refine rq AS<|rq (B0 g4)<|rq (Eo ⟨_,Mi⟩ S7 Aa g6)<|rq (UZ Aa Aa g8)<|rq AS<|rq (B0 hg)<|rq (Eo ⟨_,Mi⟩ S7 Aa hi)<|rq (Bg hk)<|rq (UZ Aa Aa g16)<|rq AS<|rq (B0 g18)<|rq (Eo ⟨_,Mi⟩ S7 Aa ho)<|rq (Bg hq)<|rq (UZ Aa Aa hs)<|rq AS<|rq (B0 hu)<|rq (Eo ⟨_,Mi⟩ S7 Aa hx)<|rq (Bg hz)<|rq Bd<|re [5,0] ?_;exact CL<|Bl<|AY Aa<|wv Cw<|Be<|BG h0 (λh1 h4=>AT<|wv (r:=rS ([]:Aw)) Bd<|Bw Aa<|A5<|cs h4▸AC (r_3 Zw AW AW AW) sN ⟨Aa,Aa⟩) λh1 h6=>B5<|AY Aa<|wv B6<|ck h6 λh8 hA=>wv (G7 h8)<|ms Aa<|wv BS<|Be<|BG hA (λc37 hB=>AT<|wv (r:=rS ([]:Aw)) Bd<|Bw Aa<|A5<|cs hB▸AC (r_3 Zw AW AW AW) sN ⟨Aa,Aa⟩) λc37 hC=>by refine B5<|Bl<|ck hC λha hD=>ck hD λhb hE=>ck hE λhd hG=>ob hG λhe hH hI=>ob hI λhf hJ hK=>ck hK λhL hN=>ck hN λhO hP=>Et [0,5] ?_;refine rq AS<|rq AS<|rq (Bg ha)<|rq (EC GB Aa Aa Aa hb hd)<|RM (Ge call152 (Adv F (Aq (CV (8+(((((((BA s 0)*256)+(BA s 1))*256)+(BA s 2))*256)+(BA s 3)))-CV 8) (Ap (CV 8) s)) he hH) Aa)<|RM (Ge call151 (UR he hf hJ) Aa)<|rq (Y1 (xs:=hf) EH GB Mi Aa)<|rq AS<|rq (EC GB Aa Aa Aa hL hO)<|rq (DN Aa Aa)<|re [43,0,5] ?_;exact CL<|BG hP (λhQ hR=>AT<|wv (r:=rS ([]:Aw)) Bd<|Bw Aa<|A5<|cs hR▸AC (r_3 Zw AW AW AW) sN ⟨Aa,Aa⟩) λhQ hS=>BQ<|AY Aa<|wv (Bg ha)<|wv (EC GB Aa Aa Aa hb hd)<|ms Aa<|wv (Bg ha)<|Bw Aa<|cs hS▸AC (r_3 Zw AW AW AW) sN ⟨Aa,Aa⟩
theorem Aff (F:Nat)(s:Aw)(r:(List Aw)×Int)(h:QM F s=Ad r):FN 89 [rS s] [] (PO (Du [Cg 1 (BP eS r.1),Bn r.2])):=by
 refine en func89 ntmps89 Aa λw Z=>?_;unfold QM at h;refine AY Aa<|Ca Aa<|Ca Aa<|Be<|AL<|WC.nilrow (e:=9) (sz:=1)<|ob h λhg hh hi=>B8 (V:=(Unit)×(Unit)) 0 (λσ=>Cp (λσ=>Iu F s σ.1 σ.2) σ.1 σ.2.1=Ad hg) (λσ=>[(0,rS s),(2,rv (.slice Ai 0 0)),(3,Bn 0),(4,rv σ.2.2),(5,Bn σ.2.1.2)]) (λσ=>[Co σ.2.2 σ.2.1.1]) (λσ=>σ.1) (F,(([]:List Aw),0),(.slice Ai 0 0         )) hh (AP Aa) (sC sN) (λσ=>UP =Ad r) (λσ=>[]) (λσ=>[]) ?_ ?_
 ·rintro⟨h2,⟨he,hd⟩,h3⟩ hj;refine EM ?_;obtain⟨hk,rfl,hl,ha,hf⟩:=C5 hj;replace ha:Iu F s he hd=Ad hl:=ha;unfold Iu at ha;refine AL<|AY Aa<|ck ha λhm hn=>wv (Gx GB Aa Aa hm)<|ob hn λhb ho hp=>CS call119 (AhC F (Ap (CV hd) s) hb ho)<|ms Aa<|wv A4<|wv A4<|wv A4<|ms Aa<|BH Aa<|wv BU<|Be<|BG hp (λhq hr=>?_) (λhq hs=>?_)
  ·refine Bz Aa<|BW<|Bj ?_;have ht:=BK hr hf hi;refine Dc<|WK.freeze (i:=0) Aa<|WK.up (d:=2) Aa (Up.fact 0 Aa) ?_
   cases ht
   exact AC (Eb results89 AW AW) (sS sN) ⟨Aa,Aa⟩
  refine BQ<|AY Aa<|Dy ([hb.1]:List Aw) eS Ev DS Uc Aa ⟨cO Aa,trivial⟩ D6 (λh4=>?_);refine ck hs λhu hw=>E0 1 Ev Oq Aa Aa (HJ.w 0 Aa Aa) D6 Lw hu (λhx=>?_);refine CW Aa<|BD Aa<|ck hw λhy hz=>wv (Bg hy)<|B9 Aa<|Bm ?_;have h0:=Bp hz hf;exact AG (AA (hk,(he++([hb.1]:List Aw),hd+hb.2.1),hx) ⟨h0,Aqw _⟩ (AP Aa) (sC (sS sN)))
 rintro⟨⟨⟩,⟨⟩⟩ h1
 cases h1
theorem AhD (F:Nat)(bodies:(List Aw))(r:Aw×Int)(h:Yq F bodies=Ad r):FN 95 (Lq bodies) [] (PO (Du (D8 r.1 r.2))):=en func95 ntmps95 Aa λw Z=>AT<|wv (r:=rS ([]:Aw)) Bd<|ms Aa<|Ca Aa<|BH Aa<|wv B1<|CW Aa<|AL<|ob h λhq hr hm=>B8 (V:=(Int)×(Unit)) 0 (λσ=>Cp (λσ=>ID bodies σ.1 σ.2) σ.1 σ.2.1=Ad hq) (λσ=>[(0,Cg 1 (BP eS bodies)),(4,Bn σ.2.1.1),(11,Bn (Ae bodies:Int)),(12,Bn σ.2.1.2)]) (λσ=>[]) (λσ=>σ.1) (F,(0,0),()) hr (AP Aa) sN (λσ=>My F bodies σ.1=Ad r) (λσ=>[(0,Cg 1 (BP eS bodies)),(4,Bn σ.1)]) (λσ=>[]) (by rintro⟨gj,⟨hd,hb⟩,⟨⟩⟩ hs;refine EM ?_;obtain⟨ht,rfl,hu,hg,hh⟩:=C5 hs;have hg:ID bodies hd hb=Ad hu:=hg;exact AT<|wv BS<|Cz<|BG hg (λhw hx=>B5<|AL<|AY Aa<|Cz<|ck hx λhi hy=>ck hy λhz h0=>ck h0 λh1 h2=>AM [(0,Cg 1 (BP eS bodies)),(4,Bn hd),(5,Bn hb),(11,Bn (Ae bodies:Int)),(12,Bn hb),(31,rB ((Br (262136<(Ae (A2 bodies hb):Int)))||(Br (262144<((hd+8)+(Ae (A2 bodies hb):Int))))))] [] (BD Aa<|wv (Bh hi)<|wv Bb<|wv B6<|wv Cw<|ms Aa<|Ba (Br (262136<(Ae (A2 bodies hb):Int))) (λha=>CI ha Aa<|wv (Ax ha)<|AD<|Ce ha) λha=>wo ha<|ms Aa<|Bt ha (Bg (CA hz ha))<|wo ha<|ms Aa<|wo ha<|ms Aa<|Bt ha (Bh hi)<|Bt ha Bb<|Bt ha B6<|Bt ha (Bg (CA h1 ha))<|Bt ha Cw<|D7 Aa ha Aa<|AD<|by exact Ce ha)<|BG h2 (λc75 h3=>AT<|wv (r:=rS ([]:Aw)) Bd<|Bw Aa<|A5<|BW<|A5<|Bj<|have h4:=BK h3 hh hm;BW<|cs h4▸Ki results95 ⟨Aa,Aa⟩) λc75 h5=>BQ<|BD Aa<|ck h5 λh6 h7=>wv (Bg h6)<|ms Aa<|wv (Bh hi)<|wv Bb<|wv B6<|ck h7 λh8 h9=>wv (Bg h8)<|B9 Aa<|DB<|AU<|ck h9 λhA hB=>wv (Bg hA)<|B9 Aa<|have hC:=Bp hB hh;AG (AA (ht,((hd+8)+(Ae (A2 bodies hb):Int),hb+1),()) ⟨hC,Aqw _⟩ (AP Aa) sN)) λhw hD=>BE<|A3<|have hE:=Ci hD hh hm;A3 (Bk (AA (hd,()) hE (AP Aa) sN)))<|by rintro⟨hG,⟨⟩⟩ hj;refine Hb ?_;exact have hj:My F bodies hG=Ad r:=hj;Bo<|CL<|AY Aa<|ck hj λhH hI=>ck hI λhJ hK=>Exists.elim N7 λinf hinf=>Ako (α:=Int) (enc:=CO) EH hinf.1 hinf.2.1 hinf.2.2.1 hinf.2.2.2 Aa Aa Aa hH hJ Aa λhL=>ms Aa<|BH Aa<|wv B1<|CW Aa<|AL<|ob hK λhN hO hP=>B8 (V:=((List Int))×(Value)) 2 (λσ=>Cp (λσ=>IC F bodies σ.1 σ.2) σ.1 σ.2.1=Ad hN) (λσ=>[(0,Cg 1 (BP eS bodies)),(6,rv σ.2.2),(44,Bn (Ae bodies:Int)),(45,Bn σ.2.1.2)]) (λσ=>[.row σ.2.2 5 1 (BP CO σ.2.1.1)]) (λσ=>σ.1) (F,(([]:List Int),0),hL) hO (AP Aa) (sC sN) (λσ=>Mx σ.1=Ad r) (λσ=>[(6,rv σ.2)]) (λσ=>[.row σ.2 5 1 (BP CO σ.1)]) (by rintro⟨gl,⟨he,hk⟩,hQ⟩ hR;refine EM ?_;obtain⟨hS,rfl,hT,hl,hn⟩:=C5 hR;have hl:IC F bodies he hk=Ad hT:=hl;exact AT<|wv BS<|Cz<|BG hl (λhU hV=>B5<|AL<|AY Aa<|Ca Aa<|ck hV λhW hX=>wv (Bh hW)<|wv Bb<|ob hX λho hY hZ=>CS call122 (AhA F (A2 bodies hk) ho hY)<|ms Aa<|wv A4<|wv A4<|CW Aa<|BD Aa<|ck hZ λga gb=>Exists.elim N7 λinf hinf=>H7 (xs:=he) (i:=0) EH GB hinf.1 hinf.2.1 hinf.2.2.1 hinf.2.2.2 Aa Aa Aa ga Aa λgc=>B9 Aa<|DB<|AU<|ck gb λgd gf=>wv (Bg gd)<|B9 Aa<|have gg:=Bp gf hn;AG (AA (hS,(he++E7 ho.1,hk+1),gc) ⟨gg,Aqw _⟩ (AP Aa) (sC sN))) λhU gh=>BE<|A3<|have gi:=Ci gh hn hP;A3 (Bk (AA (he,hQ) gi (AP Aa) (sC sN))))<|by rintro⟨hp,gm⟩ hf;refine Hb ?_;exact have hf:Mx hp=Ad r:=hf;by unfold Mx at hf;exact Bo<|CL<|AY Aa<|wv (WV (xs:=hp) (i:=0) EH GB Mi Aa Aa)<|Bw Aa<|cs hf▸AC (Eb results95 AW AW) (sS sN) ⟨Aa,Aa⟩
end Go.Proofs.YtiddaamglmmnaaaGreatDoor.Q
namespace Go.Proofs.YtiddaamglmmnaaaGreatDoor
open Go
set_option linter.unusedVariables false
set_option linter.unusedSimpArgs false
variable{St R:Type}{K:St→Option R}
section
variable {T S : Type}
def CZ:List (Aw×T)→Aw→Option T
 | [],_=>Ai
 | p::r,k=>bif Ac (p.1=k) then Ad p.2 else CZ r k
def C8 (xs:List (Aw×T))(k:Aw)(z:T):T:=(CZ xs k).getD z
def Hh (xs:List (Aw×T))(k:Aw):Bool:=(CZ xs k).isSome
def mins (k:Aw)(v:T):List (Aw×T)→List (Aw×T)
 | []=>[(k,v)]
 | p::r=>bif CH k p.1 then(k,v)::p::r else p::mins k v r
def mput (xs:List (Aw×T))(k:Aw)(v:T):List (Aw×T):=xs.map λp=>bif Ac (p.1=k) then(k,v) else p
def mset (xs:List (Aw×T))(k:Aw)(v:T):List (Aw×T):=bif Hh xs k then mput xs k v else mins k v xs
def mdel (xs:List (Aw×T))(k:Aw):List (Aw×T):=xs.filter λp=>!Ac (p.1=k)
def BF (f:T→S)(xs:List (Aw×T)):List (Aw×S):=xs.map λp=>(p.1,f p.2)
theorem Rj (f:T→S):∀(xs:List (Aw×T)) (k:Aw),CZ (BF f xs) k=(CZ xs k).map f
 | [],k=>rfl
 | p::r,k=>by
  show(bif Ac (p.1=k) then Ad (f p.2) else CZ (BF f r) k)=_;rw[CZ,Rj f r k]
  cases Ac (p.1=k)<;>rfl
theorem Aix (f:T→S)(xs:List (Aw×T))(k:Aw):Hh (BF f xs) k=Hh xs k:=by
 unfold Hh;rw[Rj];cases CZ xs k<;>rfl
theorem Aa7 (f:T→S)(k:Aw)(v:T):∀xs:List (Aw×T),BF f (mins k v xs)=mins k (f v) (BF f xs)
 | []=>rfl
 | p::r=>by
  show BF f (bif CH k p.1 then(k,v)::p::r else p::mins k v r)=(bif CH k p.1 then(k,f v)::(p.1,f p.2)::BF f r else(p.1,f p.2)::mins k (f v) (BF f r));rw[← Aa7 f k v r]
  cases CH k p.1<;>rfl
theorem Aiu (f:T→S)(xs:List (Aw×T))(k:Aw)(v:T):BF f (mset xs k v)=mset (BF f xs) k (f v):=by
 unfold mset;rw[Aix]
 cases Hh xs k with
 | false=>exact Aa7 f k v xs
 | true=>
  show BF f (mput xs k v)=mput (BF f xs) k (f v);unfold BF mput;rw[Aro,Aro];refine List.map_congr_left λp _=>?_;show _=(bif Ac (p.1=k) then(k,f v) else(p.1,f p.2));simp only[Function.comp]
  cases Ac (p.1=k)<;>rfl
theorem Ai0 (f:T→S)(xs:List (Aw×T))(k:Aw):BF f (mdel xs k)=mdel (BF f xs) k:=by
 unfold BF mdel;rw[List.filter_map];rfl
theorem Kb (f:T→S)(xs:List (Aw×T)):Ae (BF f xs)=Ae xs:=by simp[BF]
theorem OU (k:Aw)(v:T):∀xs:List (Aw×T),(mins k v xs).Perm ((k,v)::xs)
 | []=>AqC _
 | p::r=>by
  rw[mins]
  cases CH k p.1 with
  | true=>exact AqC _
  | false=>exact((OU k v r).cons p).trans (List.Perm.swap _ _ _)
def K5 (x:T):List T→List (List T)
 | []=>[[x]]
 | y::r=>(x::y::r)::(K5 x r).map (y::·)
def P7:List T→List (List T)
 | []=>[[]]
 | x::r=>(P7 r).flatMap (K5 x)
theorem SX (x:T):∀(a b:List T),a++x::b∈K5 x (a++b)
 | [],[]=>by simp[K5]
 | [],y::b=>by simp[K5]
 | y::a,b=>by
  simp only[Ara,K5,Ars,List.mem_map];exact .inr ⟨_,SX x a b,rfl⟩
theorem Xk:∀(xs ys:List T),ys.Perm xs→ys∈P7 xs
 | [],ys,h=>by rw[h.eq_nil];simp[P7]
 | x::r,ys,h=>by
  have hx:x∈ys:=h.symm.subset (List.mem_cons_self ..);obtain⟨a,b,rfl⟩:=List.append_of_mem hx;have h2:(a++b).Perm r:=(List.perm_middle.symm.trans h).cons_inv;simp only[P7,List.mem_flatMap];exact⟨a++b,Xk r _ h2,SX x a b⟩
def Aa6 {R:Type}[DecidableEq R](xs:List T)(K:List T→Option R):Option R:=match K xs with
 | none=>Ai
 | some r=>bif (P7 xs).all (λp=>Ac (K p=Ad r)) then Ad r else Ai
theorem Acw [DecidableEq R]{xs:List T}{K:List T→Option R}{r:R}(h:Aa6 xs K=Ad r):∀p:List T,p.Perm xs→K p=Ad r:=λp hp=>by
 unfold Aa6 at h
 cases hk:K xs with
 | none=>rw[hk] at h;cases h
 | some q=>
  rw[hk] at h;simp only at h
  cases ha:(P7 xs).all (λp=>Ac (K p=Ad q)) with
  | false=>rw[ha] at h;cases h
  | true=>
   rw[ha] at h;cases h;exact Aq0 (List.all_eq_true.1 ha p (Xk xs p hp))
theorem MA (x:T):∀(xs ys:List T),ys∈K5 x xs→ys.Perm (x::xs)
 | [],ys,h=>by simp[K5] at h;rw[h]
 | y::r,ys,h=>by
  simp only[K5,Ars,List.mem_map] at h;rcases h with rfl | ⟨z,hz,rfl⟩
  ·exact AqC _
  ·exact((MA x r z hz).cons y).trans (List.Perm.swap _ _ _)
theorem UU:∀(xs ys:List T),ys∈P7 xs→ys.Perm xs
 | [],ys,h=>by simp[P7] at h;rw[h]
 | x::r,ys,h=>by
  simp only[P7,List.mem_flatMap] at h;obtain⟨z,hz,hy⟩:=h;exact(MA x z ys hy).trans ((UU r z hz).cons x)
theorem Aiv [DecidableEq R]{xs:List T}{K:List T→Option R}{r:R}(h:∀p:List T,p.Perm xs→K p=Ad r):Aa6 xs K=Ad r:=by
 unfold Aa6;rw[h xs (AqC _)];have:(P7 xs).all (λp=>Ac (K p=Ad r))=Af:=List.all_eq_true.2 λp hp=>Aqo (h p (UU xs p hp));simp only[this];rfl
def Xn {St O:Type}(body:T→St→Option (Stp St (Out O St))):List T→St→Option (Out O St)
 | [],s=>Ad (.go s)
 | x::r,s=>match body x s with
  | none=>Ai
  | some (.next s')=>Xn body r s'
  | some (.out o)=>Ad o
def Ao8 {St R:Type}(body:T→St→Option (Stp St (Out R St)))(ys:List T)(K:St→Option R)(r:R):Stp St (Out R St)→Prop
 | .next s'=>∀q:List T,q.Perm ys→BB (Xn body q s') (Cb K)=Ad r
 | .out o=>Cb K o=Ad r
theorem Ai7 {body:T→St→Option (Stp St (Out R St))}{ys ys':List T}{p:T}{s:St}{r:R}(h:∀q:List T,q.Perm ys→BB (Xn body q s) (Cb K)=Ad r)(hp:ys.Perm (p::ys')):∃t,body p s=Ad t∧Ao8 body ys' K r t:=by
 have h1:∀q:List T,q.Perm ys'→BB (Xn body (p::q) s) (Cb K)=Ad r:=λq hq=>h _ ((hq.cons p).trans hp.symm)
 cases hb:body p s with
 | none=>
  have:=h1 ys' (AqC _);rw[Xn,hb] at this;cases this
 | some t=>
  refine⟨t,rfl,?_⟩
  cases t with
  | next s'=>
   intro q hq;have:=h1 q hq;rw[Xn,hb] at this;exact this
  | out o=>
   have:=h1 ys' (AqC _);rw[Xn,hb] at this;exact this
theorem YE {body:T→St→Option (Stp St (Out R St))}{ys:List T}{s:St}{r:R}(h:∀q:List T,q.Perm ys→BB (Xn body q s) (Cb K)=Ad r)(hy:ys=[]):K s=Ad r:=by
 subst hy;exact h [] (AqC _)
theorem Sc {body:T→St→Option (Stp St (Out R St))}{ys:List T}{s':St}{r:R}{t:Stp St (Out R St)}(h:Ad (Stp.next s')=Ad t)(ht:Ao8 body ys K r t):∀q:List T,q.Perm ys→BB (Xn body q s') (Cb K)=Ad r:=by cases h;exact ht
theorem Yv {ys ys':List T}{p:T}(h:ys.Perm (p::ys')):Ae ys'<Ae ys:=by rw[h.length_eq];exact Aqw _
end
structure A1 where
 aa:Int
 ap:Aw
 aj:(List Av)
 an:Int
 deriving DecidableEq,Inhabited
structure A0 where
 aO:Aw
 ag:Aw
 aM:Aw
 aG:Int
 aA:A1
 deriving DecidableEq,Inhabited
structure AO where
 ai:Aw
 ag:Aw
 ar:Int
 az:(List Av)
 ac:(List A1)
 aG:Int
 deriving DecidableEq,Inhabited
def Kq (ys:(List Av)):Option ((List Av)):=
 Bc (De 40 (Ae ([]:List Av)+Ae ys))<|some (([]:List Av)++ys)
def CT (n:Int):Option Bool:=
 Ad ((Ac (0≤n))&&(Ac (n≤1073741824)))
def IG (k:Int):Option Bool:=
 Ad ((Ac (k=3))||((Ac (k=4))||(Ac (k=5))))
def Y2 (x:A1):Option Bool:=
 By (((Ac (x.aa=3))||(Ac (x.aa=4)))) (Ad (GS x.ap)) (Ad (KH x.ap))
def Ep (v:(List Av)):Option Bool:=
 Bc (imp (Ac (1<(Ae v:Int))) (CE 0 (Ae v:Int)))<|Bc (imp (Ac (1<(Ae v:Int))) (imp (Ac ((A2 v 0).aa=5)) (CE 1 (Ae v:Int))))<|some ((Ac (1<(Ae v:Int)))&&((Ac ((A2 v 0).aa=5))&&(Ac ((A2 v 1).aa=4))))
def OO (F:Nat)(event:Aw)(x:A1)(i:Int):Option Int:=
 By (((Ac (x.aa<1))||(Ac (5<x.aa)))) (Ad 7) (BB (Y2 x) λr6=>By (!r6) (Ad 4) (By (Ac (x.aa=2)) (By (Ac (0<(Ae x.aj:Int))) (Ad 7) (Bc (imp (Ac (x.aa=5)) (Ep x.aj).isSome)<|By (((Ac (x.aa=5))&&(!(ov (Ep x.aj))))) (Ad 7) (Bc (imp (!Ac (x.aa=4)) (imp (!(!Ac (x.an=0))) (CT x.an).isSome))<|Bc (imp (!(!Ac (x.aa=4))) (CT x.an).isSome)<|By ((bif !Ac (x.aa=4) then((!Ac (x.an=0))||(!(ov (CT x.an)))) else !(ov (CT x.an)))) (Ad 2) (BB (IG x.aa) λhb=>By hb (Bc (De 1 (Ae event))<|Bc (BJ .i64 i)<|some (DR event i)) (Ad 0))))) (BB (NJ F x.aj) λha=>By (!Ac (ha=0)) (Ad ha) (Bc (imp (Ac (x.aa=5)) (Ep x.aj).isSome)<|By (((Ac (x.aa=5))&&(!(ov (Ep x.aj))))) (Ad 7) (Bc (imp (!Ac (x.aa=4)) (imp (!(!Ac (x.an=0))) (CT x.an).isSome))<|Bc (imp (!(!Ac (x.aa=4))) (CT x.an).isSome)<|By ((bif !Ac (x.aa=4) then((!Ac (x.an=0))||(!(ov (CT x.an)))) else !(ov (CT x.an)))) (Ad 2) (BB (IG x.aa) λhd=>By hd (Bc (De 1 (Ae event))<|Bc (BJ .i64 i)<|some (DR event i)) (Ad 0)))))))
def J4 (F:Nat)(c:AO)(ha:Int):Option (Stp Int (Out Int Unit)):=
 By (Ac (ha<(Ae c.ac:Int))) (Bc (CE ha (Ae c.ac:Int))<|BB (OO F c.ai (A2 c.ac ha) ha) λhb=>By (!Ac (hb=0)) (Ad (.out (.ret hb))) (Bc (BJ .i64 (ha+1))<|some (.next (ha+1)))) (Ad (.out (.go ())))
def M8 :Option Int:=
 Ad 0
def Sb (F:Nat)(c:AO):Option Int:=
 By (((!(KH c.ai))||(!(GS c.ag)))) (Ad 4) (Bc (imp (!(Ac (c.ar<1))) (imp (!(Ac (1073741824<c.ar))) (CT c.aG).isSome))<|By (((Ac (c.ar<1))||((Ac (1073741824<c.ar))||(!(ov (CT c.aG)))))) (Ad 2) (BB (NJ F c.az) λha=>By (!Ac (ha=0)) (Ad ha) (By (Ac (32<(Ae c.ac:Int))) (Ad 3) (BB (Cp (λσ=>J4 F c σ) F 0) (Cb λν=>M8 )))))
def Ack (x:A1):Option A1:=
 BB (Kq x.aj) λr3=>Ad (A1.mk x.aa x.ap r3 x.an)
def Vb (F:Nat)(v:(List Av)):Option Aw:=
 BB (T1 F v) λr1=>Ad r1.1
def Lf (F:Nat)(records:(List (List Aw)))(hb:(List Aw))(ha:Int):Option (Stp ((List Aw)×Int) (Out (Aw×Int) ((List Aw)))):=
 By (Ac (ha<(Ae records:Int))) (Bc (CE ha (Ae records:Int))<|BB (Aeg F (A2 records ha)) λhd=>By (!Ac (hd.2=0)) (Ad (.out (.ret (([]:Aw),3)))) (Bc (De 16 (hb.length+Ae ([hd.1]:List Aw)))<|Bc (BJ .i64 (ha+1))<|some (.next (hb++([hd.1]:List Aw),ha+1)))) (Ad (.out (.go hb)))
def M6 (F:Nat)(hb:(List Aw)):Option (Aw×Int):=
 BB (Aei F hb) λha=>By (!Ac (ha.2=0)) (Ad (([]:Aw),3)) (Ad (ha.1,0))
def WZ (F:Nat)(records:(List (List Aw))):Option (Aw×Int):=
 BB (Cp (λσ=>Lf F records σ.1 σ.2) F (([]:List Aw),0)) (Cb λν=>M6 F ν)
def Iv (F:Nat)(c:AO)(hb:(List (List Aw)))(ha:Int):Option (Stp ((List (List Aw))×Int) (Out (Aw×Int) ((List (List Aw))))):=
 By (Ac (ha<(Ae c.ac:Int))) (Bc (CE ha (Ae c.ac:Int))<|Bc (BJ .i64 (A2 c.ac ha).aa)<|Bc (BJ .i64 (A2 c.ac ha).an)<|BB (Vb F (A2 c.ac ha).aj) λhd=>Bc (De 24 (hb.length+Ae ([([Lib.itoa (A2 c.ac ha).aa,(A2 c.ac ha).ap,Lib.itoa (A2 c.ac ha).an,hd]:List Aw)]:List (List Aw))))<|Bc (BJ .i64 (ha+1))<|some (.next (hb++([([Lib.itoa (A2 c.ac ha).aa,(A2 c.ac ha).ap,Lib.itoa (A2 c.ac ha).an,hd]:List Aw)]:List (List Aw)),ha+1))) (Ad (.out (.go hb)))
def J2 (F:Nat)(hb:(List (List Aw))):Option (Aw×Int):=
 BB (WZ F hb) λha=>Ad (ha.1,ha.2)
def Nn (F:Nat)(c:AO):Option (Aw×Int):=
 BB (Sb F c) λr2=>By (!Ac (r2=0)) (Ad (([]:Aw),r2)) (Bc (BJ .i64 c.ar)<|Bc (BJ .i64 c.aG)<|BB (Vb F c.az) λha=>BB (Cp (λσ=>Iv F c σ.1 σ.2) F (([([([99,111,109,109,105,116]:Aw),c.ai,c.ag,Lib.itoa c.ar,Lib.itoa c.aG,ha]:List Aw)]:List (List Aw)),0)) (Cb λν=>J2 F ν))
def J3 (F:Nat)(id:Aw):Option (Aw×Int):=
 By (!(KH id)) (Ad (([]:Aw),4)) (BB (WZ F ([([([97,99,107]:Aw),id]:List Aw)]:List (List Aw))) λr6=>Ad (r6.1,r6.2))
def Iw (ha:Int)(hb hd:Aw)(he:Int)(hf:(List Av))(hg:(List A1))(hh:Int):Option (Stp (Int×Aw×Aw×Int×(List Av)×(List A1)×Int) (Out (AO×Bool) (Aw×Aw×Int×(List Av)×(List A1)×Int))):=
 Bc (BJ .i64 (ha+1))<|some (.next (ha+1,hb,hd,he,hf,hg,hh))
def Ix (F:Nat)(l:(List (List Aw)))(ha:Int)(hd he:Aw)(hf:Int)(hg:(List Av))(hb:(List A1))(hh:Int):Option (Stp (Int×Aw×Aw×Int×(List Av)×(List A1)×Int) (Out (AO×Bool) (Aw×Aw×Int×(List Av)×(List A1)×Int))):=
 By (Ac (ha<(Ae l:Int))) (Bc (CE ha (Ae l:Int))<|By (((Ac (ha=0))&&(Ac ((Ae (A2 l ha):Int)=6)))) (Bc (CE 1 (Ae (A2 l ha):Int))<|Bc (CE 2 (Ae (A2 l ha):Int))<|Bc (CE 3 (Ae (A2 l ha):Int))<|Bc (De 1 (Ae (A2 (A2 l ha) 3)))<|Bc (CE 4 (Ae (A2 l ha):Int))<|Bc (De 1 (Ae (A2 (A2 l ha) 4)))<|Bc (CE 5 (Ae (A2 l ha):Int))<|BB (OB F (A2 (A2 l ha) 5)) λhi=>By (((!Ac ((Cr (A2 (A2 l ha) 3))=0))||((!Ac ((Cr (A2 (A2 l ha) 4))=0))||(!Ac (hi.2=0))))) (Ad (.out (.ret ((AO.mk (A2 (A2 l ha) 1) (A2 (A2 l ha) 2) (BN (A2 (A2 l ha) 3)) hi.1 hb (BN (A2 (A2 l ha) 4))),Ah)))) (Iw ha (A2 (A2 l ha) 1) (A2 (A2 l ha) 2) (BN (A2 (A2 l ha) 3)) hi.1 hb (BN (A2 (A2 l ha) 4)))) (By (((Ac (0<ha))&&(Ac ((Ae (A2 l ha):Int)=4)))) (Bc (CE 0 (Ae (A2 l ha):Int))<|Bc (De 1 (Ae (A2 (A2 l ha) 0)))<|By (!Ac ((Cr (A2 (A2 l ha) 0))=0)) (Ad (.out (.ret ((AO.mk hd he hf hg hb hh),Ah)))) (Bc (CE 1 (Ae (A2 l ha):Int))<|Bc (CE 2 (Ae (A2 l ha):Int))<|Bc (De 1 (Ae (A2 (A2 l ha) 2)))<|By (!Ac ((Cr (A2 (A2 l ha) 2))=0)) (Ad (.out (.ret ((AO.mk hd he hf hg hb hh),Ah)))) (Bc (CE 3 (Ae (A2 l ha):Int))<|By (!Ac ((A2 (A2 l ha) 3)=([]:Aw))) (BB (OB F (A2 (A2 l ha) 3)) λhj=>By (!Ac (hj.2=0)) (Ad (.out (.ret ((AO.mk hd he hf hg hb hh),Ah)))) (Bc (De 56 (hb.length+Ae ([(A1.mk (BN (A2 (A2 l ha) 0)) (A2 (A2 l ha) 1) hj.1 (BN (A2 (A2 l ha) 2)))]:List A1)))<|Iw ha hd he hf hg (hb++([(A1.mk (BN (A2 (A2 l ha) 0)) (A2 (A2 l ha) 1) hj.1 (BN (A2 (A2 l ha) 2)))]:List A1)) hh)) (Bc (De 56 (hb.length+Ae ([(A1.mk (BN (A2 (A2 l ha) 0)) (A2 (A2 l ha) 1) ([]:List Av) (BN (A2 (A2 l ha) 2)))]:List A1)))<|Iw ha hd he hf hg (hb++([(A1.mk (BN (A2 (A2 l ha) 0)) (A2 (A2 l ha) 1) ([]:List Av) (BN (A2 (A2 l ha) 2)))]:List A1)) hh)))) (Ad (.out (.ret ((AO.mk hd he hf hg hb hh),Ah)))))) (Ad (.out (.go (hd,he,hf,hg,hb,hh))))
def Lg (ha hb:Aw)(hd:Int)(he:(List Av))(hf:(List A1))(hg:Int):Option (AO×Bool):=
 Ad ((AO.mk ha hb hd he hf hg),Af)
def Rd (F:Nat)(l:(List (List Aw))):Option (AO×Bool):=
 BB (Cp (λσ=>Ix F l σ.1 σ.2.1 σ.2.2.1 σ.2.2.2.1 σ.2.2.2.2.1 σ.2.2.2.2.2.1 σ.2.2.2.2.2.2) F (0,([]:Aw),([]:Aw),0,([]:List Av),([]:List A1),0)) (Cb λν=>Lg ν.1 ν.2.1 ν.2.2.1 ν.2.2.2.1 ν.2.2.2.2.1 ν.2.2.2.2.2)
end Go.Proofs.YtiddaamglmmnaaaGreatDoor
namespace Go.Proofs.YtiddaamglmmnaaaGreatDoor.Q
open Go Go.RowKit
set_option linter.unusedVariables false
section
variable {P : Program} {n : Nat} {c : Cx} {l : Fr} {H : List Ent} {d : Option Nat} {ty rty t e : TypeId} {pos : String} {af : Array Edge} {g : Option (Nat × Bool)} {x : Operand} {sz : Nat}
end
set_option linter.unusedSimpArgs false
theorem HE (s:ByteArray):MapKept.IsKey .string (.string s):=by simp[MapKept.IsKey]
theorem RF.keys {Z:Fz}:∀{f:List (List UInt8×Rp)} {es:List MapEntry},RF Z f es→∀x∈es,MapKept.IsKey .string x.key
 | [],[],_,x,hx=>by cases hx
 | p::f,e::es,⟨⟨h1,h2⟩,h3⟩,x,hx=>by
  rcases List.mem_cons.1 hx with rfl | hx
  ·rw[h1];exact HE _
  ·exact RF.keys h3 x hx
theorem RF.at {Z:Fz}:∀{f:List (List UInt8×Rp)} {es:List MapEntry},RF Z f es→Ae f=Ae es∧∀(j:Nat) (e:MapEntry),es[j]? =Ad e→∃k r,f[j]? =Ad (k,r)∧e.key = .string (B k)∧r.p Z e.val
 | [],[],_=>⟨rfl,λj e h=>by simp at h⟩
 | p::f,e::es,⟨⟨h1,h2⟩,h3⟩=>by
  obtain⟨hl,ha⟩:=RF.at h3;refine⟨by simp[hl],λj e' hj=>?_⟩
  cases j with
  | zero=>simp at hj;subst hj;exact⟨p.1,p.2,rfl,h1,h2⟩
  | succ j=>simp at hj;simpa using ha j e' hj
theorem RF.of {Z:Fz}:∀{f:List (List UInt8×Rp)} {es:List MapEntry},Ae f=Ae es→(∀(j:Nat) (e:MapEntry),es[j]? =Ad e→∃k r,f[j]? =Ad (k,r)∧e.key = .string (B k)∧r.p Z e.val)→RF Z f es
 | [],[],_,_=>trivial
 | p::f,e::es,hl,h=>by
  obtain⟨k,r,h1,h2,h3⟩:=h 0 e rfl;simp at h1;subst h1;exact⟨⟨h2,h3⟩,RF.of (by simpa using hl) λj e' hj=>by simpa using h (j+1) e' (by simpa using hj)⟩
 | [],_::_,hl,_=>by simp at hl
 | _::_,[],hl,_=>by simp at hl
theorem RF.snoc {Z:Fz}{k:List UInt8}{r:Rp}{e:MapEntry}(h1:e.key = .string (B k))(h2:r.p Z e.val):∀{f:List (List UInt8×Rp)} {es:List MapEntry},RF Z f es→RF Z (f++[(k,r)]) (es++[e])
 | [],[],_=>⟨⟨h1,h2⟩,trivial⟩
 | p::f,e'::es,⟨h,h3⟩=>⟨h,RF.snoc h1 h2 h3⟩
theorem Aa8 {T:Type}:∀{m:List (Aw×T)} {k:Aw} {r:T},(m.map (·.1)).Nodup→(k,r)∈m→CZ m k=Ad r
 | p::m,k,r,hn,h=>by
  rw[AqY,List.nodup_cons] at hn;rw[CZ];rcases List.mem_cons.1 h with h | h
  ·subst h;rw[Aqo rfl];rfl
  ·have hne : ¬ p.1=k:=λe=>hn.1 (by rw[e];exact List.mem_map.2 ⟨(k,r),h,rfl⟩);rw[Aqn hne];exact Aa8 hn.2 h
theorem Xj {T:Type}:∀{m:List (Aw×T)} {k:Aw},(∀p∈m,p.1≠k)→CZ m k=Ai
 | [],_,_=>rfl
 | p::m,k,h=>by
  rw[CZ,Aqn (h p Aj)];exact Xj λq hq=>h q (by simp[hq])
theorem AoA {a b:List UInt8}(h:B a=B b):a=b:=by
 have:=congrArg ByteArray.toList h
 rwa [Ke,Ke] at this
theorem U3 {a b:List UInt8}(h:Value.string (B a) = .string (B b)):a=b:=AoA (by cases h;rfl)
variable{es:List MapEntry}{ck:Nat}{Z:Fz}
theorem YS {m:List (List UInt8×Rp)}(h:Ih Z m es ck)(k:List UInt8) :
  (Instr.findNow .string (.string (B k)) es 0=Ad Ai∧CZ m k=Ai∧∀p∈m,p.1≠k)∨∃j e r,Instr.findNow .string (.string (B k)) es 0=Ad (Ad (j,e.val))∧es[j]? =Ad e∧e.key = .string (B k)∧CZ m k=Ad r∧r.p Z e.val:=by
 obtain⟨h1,h2,h3,f,h4,h5⟩:=h;obtain⟨hl,ha⟩:=h5.at;rcases MapKept.findNow_spec (HE (B k)) es 0 h5.keys with⟨q1,q2⟩ | ⟨j,e,q1,q2,q3⟩
 ·have hne:∀p∈m,p.1≠k:=λp hp e=>by
   obtain⟨j,hj⟩:=List.mem_iff_getElem?.1 (h4.symm.subset hp);have hjl:j<Ae es:=by rw[← hl];exact(List.getElem?_eq_some_iff.1 hj).1
   obtain⟨k',r',e1,e2,_⟩:=ha j es[j] (Aqx hjl);rw[hj] at e1;cases e1;exact q2 es[j] (List.getElem_mem hjl) (by rw[e2,← e])
  exact .inl ⟨q1,Xj hne,hne⟩
 ·obtain⟨k',r,e1,e2,e3⟩:=ha j e q2;rw[q3] at e2;obtain rfl:=U3 e2;exact .inr ⟨j,e,r,by simpa using q1,q2,q3,Aa8 h1 (h4.subset (Aq1 e1)),e3⟩
variable{m:List (Aw×Rp)}{r:Rp}{H':List Ent}
section
variable {P : Program} {n : Nat} {c : Cx} {ops : Array Oper} {Q : Exit → Act → World → Prop} {rest : List Oper} {l : Fr} {H : List Ent} {d : Nat} {d' : Option Nat} {ty t kt et rty : TypeId} {pos : String} {af : Array Edge} {g : Option (Nat × Bool)} {x y u : Operand} {K : Act → World → Prop} {cx : Code}
variable {T : Type} {enc : T → Rp} {xs : List (Aw × T)} {z : T} {k : Aw} {zv : Value} {i b : Nat}
theorem LZ {w:World}{m:List (List UInt8×Rp)}{rz:Rp}(ht:P.underlying t=Ad (.map kt et))(hk:P.underlying kt=Ad .string)(hz:∀w,(zeroValue et).run P w = .ok zv w)(hzr:rz.p Z zv)(hm:(Ent.map b m).holds Z w)(ok:Bool) :
  ∃v,((CZ m k).getD rz).p Z v∧(Instr.lookup t (.map (Ad b)) (.string (B k)) ok).run P w = .ok (if ok then .tuple #[v,.bool (CZ m k).isSome] else v) w:=by
 obtain⟨es,ck,h1,h2⟩:=hm;rcases YS h2 k with⟨q1,q2,_⟩ | ⟨j,e,r,q1,_,_,q2,q3⟩
 ·exact⟨zv,by rw[q2];exact hzr,by simp[Instr.lookup,run_underlying ht,MapKept.run_getObj_map h1,MapKept.run_checkKey hk (HE _),MapKept.run_findKey hk q1,hz,q2]⟩
 ·exact⟨e.val,by rw[q2];exact q3,by simp[Instr.lookup,run_underlying ht,MapKept.run_getObj_map h1,MapKept.run_checkKey hk (HE _),MapKept.run_findKey hk q1,q2]⟩
theorem V3 (enc:T→Rp)(xs:List (Aw×T))(k:Aw)(z:T):(CZ (BF enc xs) k).getD (enc z)=enc (C8 xs k z):=by
 rw[Rj];unfold C8;cases CZ xs k<;>rfl
theorem Ac6 (enc:T→Rp)(xs:List (Aw×T))(k:Aw):(CZ (BF enc xs) k).isSome=Hh xs k:=by
 rw[Rj];unfold Hh;cases CZ xs k<;>rfl
theorem Y0 (ht:P.underlying t=Ad (.map kt et))(hk:P.underlying kt=Ad .string)(hz:∀w,(zeroValue et).run P w = .ok zv w)(hzr:∀Z,(enc z).p Z zv)(hx:ev l x=Ad (rv (.map (Ad b))))(hi:H[i]? =Ad (.map b (BF enc xs)))(hy:ev l y=Ad (rS k)) :
  Ck P n c l H { dst:=d',op:=.lookup t x y Af,type:=ty,pos:=pos,after:=af,guard:=g } (Du [enc (C8 xs k z),rB (Hh xs k)]):=λa w Z ha hw=>by
 obtain⟨v,h1,h2⟩:=LZ (k:=k) ht hk hz (hzr Z) (hw.ent hi) Af;rw[V3] at h1;refine⟨.tuple #[v,.bool (Hh xs k)],⟨[v,.bool (Hh xs k)],rfl,h1,rfl,trivial⟩,?_⟩;rw[Ac6] at h2;simp[execOp,ha.eval hx,ha.eval hy,h2]
theorem RY (ht:P.underlying t=Ad (.map kt et))(hk:P.underlying kt=Ad .string)(hz:∀w,(zeroValue et).run P w = .ok zv w)(hzr:∀Z,(enc z).p Z zv)(hx:ev l x=Ad (rv (.map (Ad b))))(hi:H[i]? =Ad (.map b (BF enc xs)))(hy:ev l y=Ad (rS k)) :
  Ck P n c l H { dst:=d',op:=.lookup t x y Ah,type:=ty,pos:=pos,after:=af,guard:=g } (enc (C8 xs k z)):=λa w Z ha hw=>by
 obtain⟨v,h1,h2⟩:=LZ (k:=k) ht hk hz (hzr Z) (hw.ent hi) Ah;rw[V3] at h1;simp only[AqP,Arl] at h2;exact⟨v,h1,by simp[execOp,ha.eval hx,ha.eval hy,h2]⟩
theorem Ih.length {m:List (List UInt8×Rp)}(h:Ih Z m es ck):Ae es=Ae m:=by
 obtain⟨_,_,_,f,h4,h5⟩:=h;rw[← h5.at.1,h4.length_eq]
theorem AhZ {m:List (List UInt8×Rp)}{N:Nat}(ht:P.underlying t=Ad (.map kt et))(hx:ev l x=Ad (rv (.map (Ad b))))(hi:H[i]? =Ad (.map b m))(hN:Ae m=N) :
  Ck P n c l H { dst:=d',op:=.call { callee:=.builtin .len,args:=#[x],argTypes:=#[t] },type:=ty,pos:=pos,after:=af,guard:=g } (rI .i64 N):=λa w Z ha hw=>DX<|by
 obtain⟨es,ck,h1,h2⟩:=hw.ent hi;have hl:es.size=N:=by rw[← hN,← h2.length];simp
 simp[execOp,resolve,invoke,builtin,ha.eval hx,Builtin.len_,run_underlying ht,goInt,MapKept.run_getObj_map h1,hl]
theorem O9 (hn:Nat.blt d n=Af)(h:∀b,WL P n c ops Q rest ((d,rv (.map (Ad b)))::l) (.map b []::H)) :
  WL P n c ops Q ({ dst:=Ad d,op:=.makeMap t Ai,type:=ty,pos:=pos,after:=af,guard:=Ai }::rest) l H:=
 PP (λa w Z ha hw=>⟨_,w.alloc (.map #[] 0),_,_,Z,by simp[execOp,run_makeMap],Fz.le.refl _,rfl,
  hw.alloc _ (e:=.map w.heap.size []) ⟨#[],0,by simpa using heap_alloc_new w _,Aj,Aj,Aj,[],AqC _,trivial⟩ rfl,h w.heap.size⟩) hn
theorem AhI {f:List (Aw×Rp)}(h:f.Perm m)(k:Aw)(r:Rp):(mput f k r).Perm (mput m k r):=h.map _
theorem AdI {T:Type}:∀{f:List (Aw×T)} {j:Nat} {k:Aw} {r0:T} (r:T),(f.map (·.1)).Nodup→f[j]? =Ad (k,r0)→mput f k r=f.set j (k,r)
 | p::f,0,k,r0,r,hn,h=>by
  simp at h;subst h;rw[AqY,List.nodup_cons] at hn;have:mput f k r=f:=by
   unfold mput;rw[List.map_congr_left (g:=id) (λq hq=>?_),List.map_id];have hne : ¬ q.1=k:=λe=>hn.1 (by rw[← e];exact List.mem_map.2 ⟨q,hq,rfl⟩);rw[Aqn hne];rfl
  show(bif Ac (k=k) then(k,r) else(k,r0))::mput f k r=_;rw[Aqo rfl,this];rfl
 | p::f,j+1,k,r0,r,hn,h=>by
  rw[AqY,List.nodup_cons] at hn;simp at h;have hne : ¬ p.1=k:=λe=>hn.1 (by rw[e];exact List.mem_map.2 ⟨(k,r0),Aq1 h,rfl⟩);show(bif Ac (p.1=k) then(k,r) else p)::mput f k r=_;rw[Aqn hne,AdI r hn.2 h];rfl
theorem AdK {T:Type}:∀{f:List (Aw×T)} {j:Nat} {k:Aw} {r0:T},(f.map (·.1)).Nodup→f[j]? =Ad (k,r0)→mdel f k=f.eraseIdx j
 | p::f,0,k,r0,hn,h=>by
  simp at h;subst h;rw[AqY,List.nodup_cons] at hn;have:f.filter (λq=>!Ac (q.1=k))=f:=List.filter_eq_self.2 λq hq=>by
   have hne : ¬ q.1=k:=λe=>hn.1 (by rw[← e];exact List.mem_map.2 ⟨q,hq,rfl⟩);simp[hne]
  unfold mdel;rw[List.filter_cons_of_neg Aj,this];rfl
 | p::f,j+1,k,r0,hn,h=>by
  rw[AqY,List.nodup_cons] at hn;simp at h;have hne : ¬ p.1=k:=λe=>hn.1 (by rw[e];exact List.mem_map.2 ⟨(k,r0),Aq1 h,rfl⟩);unfold mdel;rw[List.filter_cons_of_pos (by simp[hne])];show p::mdel f k=_;rw[AdK hn.2 h];rfl
theorem AfB {T:Type}(m:List (Aw×T))(k:Aw)(r:T):(mput m k r).map (·.1)=m.map (·.1):=by
 unfold mput;rw[Aro];refine List.map_congr_left λp _=>?_;simp only[Function.comp]
 by_cases h:p.1=k
 ·rw[Aqo h];exact h.symm
 ·rw[Aqn h];rfl
theorem AfD {T:Type}{m:List (Aw×T)}{k:Aw}{r:T}(h:CZ m k=Ad r):Hh m k=Af:=by unfold Hh;rw[h];rfl
theorem AfE {T:Type}{m:List (Aw×T)}{k:Aw}(h:CZ m k=Ai):Hh m k=Ah:=by unfold Hh;rw[h];rfl
theorem Ih.put {j:Nat}{e:MapEntry}{k:Aw}{r0:Rp}{v:Value}(h:Ih Z m es ck)(he:es[j]? =Ad e)(hk:e.key = .string (B k))(hm:CZ m k=Ad r0)(hr:r.p Z v) :
  Ih Z (mset m k r) (es.set j { e with key:=.string (B k),val:=v }) ck:=by
 obtain⟨h1,h2,h3,f,h4,h5⟩:=h;obtain⟨hl,ha⟩:=h5.at;have hjl:=(List.getElem?_eq_some_iff.1 he).1;unfold mset;rw[AfD hm,Aqv];obtain⟨k',r',e1,e2,_⟩:=ha j e he;rw[hk] at e2;obtain rfl:=U3 e2;have hfn:(f.map (·.1)).Nodup:=(h4.map (·.1)).nodup_iff.2 h1;refine⟨by rw[AfB];exact h1,?_,?_,f.set j (k,r),?_,RF.of (by simp[hl]) λi x hx=>?_⟩
 ·rw[List.map_set];have:(es.map (·.born)).set j e.born=es.map (·.born):=by
   apply List.ext_getElem?;intro i;rw[List.getElem?_set]
   split
   ·rename_i hij;subst hij
    simp[hjl,List.getElem?_eq_some_iff.1 he |>.2]
   ·rfl
  show((es.map (·.born)).set j e.born).Nodup;rw[this];exact h2
 ·intro x hx;rcases List.mem_or_eq_of_mem_set hx with hx | rfl
  ·exact h3 x hx
  ·exact h3 e (Aq1 he)
 ·have:=AhI h4 k r
  rwa [AdI r hfn e1] at this
 ·rw[List.getElem?_set] at hx ⊢
  split at hx
  ·rename_i hij;subst hij
   cases hx
   exact⟨k,r,by rw[Arc rfl,Arc (by rw[hl];exact hjl)],rfl,hr⟩
  ·rename_i hij
   rw[AqM hij];exact ha i x hx
theorem Ih.ins {k:Aw}{v:Value}(h:Ih Z m es ck)(hm:CZ m k=Ai)(hk:∀p∈m,p.1≠k)(hr:r.p Z v) :
  Ih Z (mset m k r) (es++[{ key:=.string (B k),val:=v,born:=ck }]) (ck+1):=by
 obtain⟨h1,h2,h3,f,h4,h5⟩:=h;unfold mset;rw[AfE hm,Aqr];have hp:=OU k r m;refine⟨?_,?_,?_,f++[(k,r)],?_,RF.snoc rfl hr h5⟩
 ·rw[(hp.map (·.1)).nodup_iff,AqY,List.nodup_cons];exact⟨λhx=>by obtain⟨p,hp,e⟩:=List.mem_map.1 hx;exact hk p hp e,h1⟩
 ·rw[Arf,List.nodup_append];refine⟨h2,Aj,λa ha b hb e=>?_⟩;simp at hb;subst hb;obtain⟨x,hx,e'⟩:=List.mem_map.1 ha;have:=h3 x hx;omega
 ·intro x hx;rcases List.mem_append.1 hx with hx | hx
  ·have:=h3 x hx;omega
  ·simp at hx;subst hx;exact Aqw _
 ·exact(List.perm_append_comm (l₁:=f) (l₂:=[(k,r)])).trans ((h4.cons (k,r)).trans hp.symm)
theorem Ih.del {j:Nat}{e:MapEntry}{k:Aw}(h:Ih Z m es ck)(he:es[j]? =Ad e)(hk:e.key = .string (B k)):Ih Z (mdel m k) (es.eraseIdx j) ck:=by
 obtain⟨h1,h2,h3,f,h4,h5⟩:=h;obtain⟨hl,ha⟩:=h5.at;obtain⟨k',r',e1,e2,_⟩:=ha j e he;rw[hk] at e2;obtain rfl:=U3 e2;have hfn:(f.map (·.1)).Nodup:=(h4.map (·.1)).nodup_iff.2 h1;have hs:=List.eraseIdx_sublist es j;refine⟨h1.sublist ((List.filter_sublist ..).map _),h2.sublist (hs.map _),λx hx=>h3 x (hs.subset hx),f.eraseIdx j,?_,RF.of (by rw[List.length_eraseIdx,List.length_eraseIdx,hl]) λi x hx=>?_⟩
 ·rw[← AdK hfn e1];exact h4.filter _
 ·rw[List.getElem?_eraseIdx] at hx ⊢
  split at hx
  ·rename_i hij;rw[Arc hij];exact ha i x hx
  ·rename_i hij;rw[AqM hij];exact ha (i+1) x hx
theorem AfL {k:Aw}(hk:∀p∈m,p.1≠k):mdel m k=m:=List.filter_eq_self.2 λp hp=>by simp[hk p hp]
theorem St.mapset {w:World}(h:St c H Z w){m':List (Aw×Rp)}(hi:H[i]? =Ad (.map b m)){es es':Array MapEntry}{ck':Nat}(h1:w.heap[b]? =Ad (.map es ck))(h2:Ih Z m' es'.toList ck') :
  St c (H.set i (.map b m')) Z { w with heap:=w.heap.setIfInBounds b (.map es' ck') }:=by
 obtain⟨q1,q2⟩:=MapKept.heap_set (o':=.map es' ck') h1;exact h.set hi rfl rfl rfl Aj (λk _ hk=>q2 k (by simpa[Ent.foot] using hk)) ⟨es',ck',q1,h2⟩ (by simp[Ent.foot])
theorem Yc (s:ByteArray):Instr.sameBits 10000 (.string s) (.string s)=Af:=by
 show(s ==s)=Af;exact(MapKept.bytes_beq s s).2 rfl |> λh=>by simpa using h
theorem Amx (ht:P.underlying t=Ad (.map kt et))(hk:P.underlying kt=Ad .string)(hx:ev l x=Ad (rv (.map (Ad b))))(hi:H[i]? =Ad (.map b m))(hy:ev l y=Ad (rS k))(hu:ev l u=Ad r)(hH:H.set i (.map b (mset m k r))=H')(h:WL P n c ops Q rest l H') :
  WL P n c ops Q ({ dst:=Ai,op:=.mapUpdate t x y u,type:=ty,pos:=pos,after:=af,guard:=Ai }::rest) l H:=
 AgZ λa w Z ha hw=>by
  obtain⟨es,ck,h1,h2⟩:=hw.ent hi;have hv:=ha.ev hu;subst hH;rcases YS h2 k with⟨q1,q2,q3⟩ | ⟨j,e,r0,q1,q2,q3,q4,_⟩
  ·refine⟨_,_,?_,hw.mapset hi h1 (es':=es.push { key:=.string (B k),val:=a.eval u,born:=ck }) (by simpa using h2.ins q2 q3 hv),h⟩;simp[execOp,ha.eval hx,ha.eval hy,Instr.mapUpdate,run_underlying ht,MapKept.run_getObj_map h1,MapKept.run_checkKey hk (HE _),MapKept.run_findKey hk q1,MapKept.run_setObj_map _ h1]
  ·have hje:es[j]? =Ad e:=by simpa using q2
   refine⟨_,_,?_,hw.mapset hi h1 (es':=es.modify j λe=>{ e with key:=.string (B k),val:=a.eval u }) (ck':=ck) (by
    have:=h2.put q2 q3 q4 hv;have e1:(es.modify j λe=>{ e with key:=.string (B k),val:=a.eval u }).toList=es.toList.set j { e with key:=.string (B k),val:=a.eval u }:=by
     rw[Array.toList_modify];rw[List.modify_eq_set,q2];rfl
    rw[e1];exact this),h⟩
   have hkey:((es[j]?).map (·.key)).getD (.string (B k)) = .string (B k):=by rw[hje];exact q3
   simp[execOp,ha.eval hx,ha.eval hy,Instr.mapUpdate,run_underlying ht,MapKept.run_getObj_map h1,MapKept.run_checkKey hk (HE _),MapKept.run_findKey hk q1,MapKept.run_setObj_map _ h1,hkey,Instr.keyThatStays,Yc]
theorem AlM {op:Op}{ty:TypeId}{pos:String}{af:Array Edge}
  (hr:∀a w Z,Gl n l a Z→St c H Z w→∃v w' H',(execOp a.eval { dst:=Ai,op:=op,type:=ty,pos:=pos,after:=af,guard:=Ai }).run P w = .ok (.value v) w'∧St c H' Z w'∧WL P n c ops Q rest l H') :
  WL P n c ops Q ({ dst:=Ai,op:=op,type:=ty,pos:=pos,after:=af,guard:=Ai }::rest) l H:=λa w Z ha hw=>
 wpList_plain rfl λK hK=>by
  obtain⟨v,w',H',h1,h2,h3⟩:=hr a w Z ha hw;unfold Oper.wp;rw[h1];exact hK _ _ (h3 _ w' Z (ha.put_none _) h2)
theorem Amy (ht:P.underlying t=Ad (.map kt et))(hk:P.underlying kt=Ad .string){kt':TypeId}(hx:ev l x=Ad (rv (.map (Ad b))))(hi:H[i]? =Ad (.map b m))(hy:ev l y=Ad (rS k))(hH:H.set i (.map b (mdel m k))=H')(h:WL P n c ops Q rest l H') :
  WL P n c ops Q ({ dst:=Ai,op:=.call { callee:=.builtin .delete,args:=#[x,y],argTypes:=#[t,kt'] },type:=ty,pos:=pos,after:=af,guard:=Ai }::rest) l H:=
 AlM (λa w Z ha hw=>by
  obtain⟨es,ck,h1,h2⟩:=hw.ent hi;subst hH;rcases YS h2 k with⟨q1,q2,q3⟩ | ⟨j,e,r0,q1,q2,q3,q4,_⟩
  ·refine⟨.tuple #[],_,_,?_,hw.mapset hi h1 (es':=es) (ck':=ck) (by rw[AfL q3];exact h2),h⟩;simp[execOp,resolve,invoke,builtin,ha.eval hx,ha.eval hy,Builtin.delete_,run_underlying ht,MapKept.run_getObj_map h1,MapKept.run_checkKey hk (HE _),MapKept.run_findKey hk q1,MapKept.run_setObj_map _ h1]
  ·refine⟨.tuple #[],_,_,?_,hw.mapset hi h1 (es':=es.eraseIdxIfInBounds j) (ck':=ck) (by
    have e1:(es.eraseIdxIfInBounds j).toList=es.toList.eraseIdx j:=Aj
    rw[e1];exact h2.del q2 q3),h⟩
   simp[execOp,resolve,invoke,builtin,ha.eval hx,ha.eval hy,Builtin.delete_,run_underlying ht,MapKept.run_getObj_map h1,MapKept.run_checkKey hk (HE _),MapKept.run_findKey hk q1,MapKept.run_setObj_map _ h1])
theorem L8 {v:T}(ht:P.underlying t=Ad (.map kt et))(hk:P.underlying kt=Ad .string)(hx:ev l x=Ad (rv (.map (Ad b))))(hi:H[i]? =Ad (.map b (BF enc xs)))(hy:ev l y=Ad (rS k))(hu:ev l u=Ad (enc v))(hH:H.set i (.map b (BF enc (mset xs k v)))=H')(h:WL P n c ops Q rest l H') :
  WL P n c ops Q ({ dst:=Ai,op:=.mapUpdate t x y u,type:=ty,pos:=pos,after:=af,guard:=Ai }::rest) l H:=Amx ht hk hx hi hy hu (by rw[← Aiu];exact hH) h
theorem Adg (ht:P.underlying t=Ad (.map kt et))(hk:P.underlying kt=Ad .string){kt':TypeId}(hx:ev l x=Ad (rv (.map (Ad b))))(hi:H[i]? =Ad (.map b (BF enc xs)))(hy:ev l y=Ad (rS k))(hH:H.set i (.map b (BF enc (mdel xs k)))=H')(h:WL P n c ops Q rest l H') :
  WL P n c ops Q ({ dst:=Ai,op:=.call { callee:=.builtin .delete,args:=#[x,y],argTypes:=#[t,kt'] },type:=ty,pos:=pos,after:=af,guard:=Ai }::rest) l H:=Amy ht hk hx hi hy (by rw[← Ai0];exact hH) h
end
theorem Rw {q:MapEntry→Bool}:∀{l:List MapEntry} {j:Nat} {e:MapEntry},(l.map (·.born)).Nodup→l[j]? =Ad e→l.filter (λx=>!(x.born ==e.born))=l.eraseIdx j
 | x::l,0,e,hn,h=>by
  simp at h;subst h;rw[AqY,List.nodup_cons] at hn;rw[List.filter_cons_of_neg Aj,List.filter_eq_self.2 λy hy=>?_];rfl;have:y.born≠x.born:=λe=>hn.1 (by rw[← e];exact List.mem_map.2 ⟨y,hy,rfl⟩);simp[this]
 | x::l,j+1,e,hn,h=>by
  rw[AqY,List.nodup_cons] at hn;simp at h;have hne:x.born≠e.born:=λe'=>hn.1 (by rw[e'];exact List.mem_map.2 ⟨e,Aq1 h,rfl⟩);rw[List.filter_cons_of_pos (by simp[hne]),Rw (q:=q) hn.2 h];rfl
theorem RF.erase {Z:Fz}:∀{f:List (List UInt8×Rp)} {es:List MapEntry} (j:Nat),RF Z f es→RF Z (f.eraseIdx j) (es.eraseIdx j)
 | [],[],j,_=>by simp[RF]
 | p::f,e::es,0,⟨_,h⟩=>h
 | p::f,e::es,j+1,⟨h,h3⟩=>⟨h,RF.erase j h3⟩
theorem Ad4 {α:Type}:∀{l:List α} {j:Nat} {a:α},l[j]? =Ad a→l.Perm (a::l.eraseIdx j)
 | x::l,0,a,h=>by simp at h;subst h;exact AqC _
 | x::l,j+1,a,h=>by
  simp at h;exact((Ad4 h).cons x).trans (List.Perm.swap a x _)
theorem AhJ {T:Type}{enc:T→Rp}{ys:List (Aw×T)}{f:List (Aw×Rp)}{j:Nat}{k:Aw}(h:f.Perm (BF enc ys))(hj:f[j]? =Ad (k,r)):∃ (p:Aw×T) (ys':List (Aw×T)),ys.Perm (p::ys')∧p.1=k∧enc p.2=r∧(f.eraseIdx j).Perm (BF enc ys'):=by
 have hm:(k,r)∈BF enc ys:=h.subset (Aq1 hj);obtain⟨p,hp,e⟩:=List.mem_map.1 hm;simp only[Prod.mk.injEq] at e;obtain⟨a,b,rfl⟩:=List.append_of_mem hp;refine⟨p,a++b,List.perm_middle,e.1,e.2,?_⟩;have h1:f.Perm ((k,r)::f.eraseIdx j):=by
  exact Ad4 hj
 have h2:(BF enc (a++p::b)).Perm ((k,r)::BF enc (a++b)):=by
  have:(BF enc (a++p::b)).Perm (BF enc (p::(a++b))):=List.perm_middle.map _;refine this.trans ?_;show((p.1,enc p.2)::BF enc (a++b)).Perm _;rw[e.1,e.2]
 exact((h1.symm.trans h).trans h2).cons_inv
section
variable {P : Program} {n : Nat} {c : Cx} {ops : Array Oper} {Q : Exit → Act → World → Prop} {rest : List Oper} {l : Fr} {H : List Ent} {d : Nat} {ty t kt et rty : TypeId} {pos : String} {af : Array Edge} {x y u : Operand} {K : Act → World → Prop} {cx : Code}
variable {T : Type} {enc : T → Rp} {xs ys : List (Aw × T)} {i b it : Nat} {m lf : List (List UInt8 × Rp)} {cur : Option (List UInt8 × Rp)} {k : Aw} {r : Rp}
end
theorem BM.d3 {r0 r1 r2:Rp}{us:List Value}(h:BM Z [r0,r1,r2] us):∃y0 y1 y2,us=[y0,y1,y2]∧BM Z [r0,r1,r2] [y0,y1,y2]:=by
 match us,h.length with
 | [y0,y1,y2],_=>exact⟨_,_,_,rfl,h⟩
theorem BM.d4 {r0 r1 r2 r3:Rp}{us:List Value}(h:BM Z [r0,r1,r2,r3] us):∃y0 y1 y2 y3,us=[y0,y1,y2,y3]∧BM Z [r0,r1,r2,r3] [y0,y1,y2,y3]:=by
 match us,h.length with
 | [y0,y1,y2,y3],_=>exact⟨_,_,_,_,rfl,h⟩
theorem AaU {α:Type}{sz:Nat}:∀{xs:List (List α)} (hs:∀c∈xs,Ae c=sz) {k:Nat} {cl:List α},xs[k]? =Ad cl→∀(off m:Nat),off+m≤sz→((xs.flatten).drop (k*sz+off)).take m=(cl.drop off).take m
 | [],_,k,cl,h,_,_,_=>by simp at h
 | x::r,hs,0,cl,h,off,m,hm=>by
  simp at h;subst h;have hx:=hs x Aj;simp only[List.flatten_cons,Nat.zero_mul,AqT];rw[List.drop_append_of_le_length Ab,List.take_append_of_le_length Am]
 | x::r,hs,k+1,cl,h,off,m,hm=>by
  have hx:=hs x Aj;simp only[List.flatten_cons];have e:(k+1)*sz+off=Ae x+(k*sz+off):=by rw[hx,Nat.succ_mul];omega
  rw[e,List.drop_length_add_append];exact AaU (λc hc=>hs c (by simp[hc])) (by simpa using h) off m hm
theorem AaV {α:Type}{sz:Nat}:∀{xs:List (List α)} (hs:∀c∈xs,Ae c=sz) {k:Nat} {cl rs:List α},xs[k]? =Ad cl→∀(off:Nat),off+Ae rs≤sz→(xs.set k (cl.take off++rs++cl.drop (off+Ae rs))).flatten=xs.flatten.take (k*sz+off)++rs++xs.flatten.drop (k*sz+off+Ae rs)
 | [],_,k,cl,rs,h,_,_=>by simp at h
 | x::r,hs,0,cl,rs,h,off,hm=>by
  simp at h;subst h;have hx:=hs x Aj;simp only[List.set_cons_zero,List.flatten_cons,Nat.zero_mul,AqT];rw[List.take_append_of_le_length Ab,List.drop_append_of_le_length Ab];simp[Aq4]
 | x::r,hs,k+1,cl,rs,h,off,hm=>by
  have hx:=hs x Aj;simp only[List.set_cons_succ,List.flatten_cons];have e:(k+1)*sz+off=Ae x+(k*sz+off):=by rw[hx,Nat.succ_mul];omega
  have e2:Ae x+(k*sz+off)+Ae rs=Ae x+(k*sz+off+Ae rs):=Ab
  rw[AaV (λc hc=>hs c (by simp[hc])) (by simpa using h) off hm,e,e2,List.take_length_add_append,List.drop_length_add_append];simp[Aq4]
variable{α:Type}{enc:α→List Rp}{i:Nat}{ys:List α}
section
variable {P : Program} {n : Nat} {c : Cx} {ops : Array Oper} {Q : Exit → Act → World → Prop} {rest : List Oper} {l : Fr} {H H' : List Ent} {d : Nat} {d' : Option Nat} {ty t e rty : TypeId} {pos : String} {af : Array Edge} {g : Option (Nat × Bool)} {x y u : Operand} {v : Value} {sz m : Nat}
theorem Nk [Inhabited α]{off:Nat}{j:Int}{rs:List Rp}(hag:∀w,(isAgg t).run P w = .ok Af w)(hsz:∀w,(sizeOf t).run P w = .ok m w)(hx:ev l x=Ad (rv (VA sz v j.toNat off)))(hi:H[i]? =Ad (.row v e sz (ys.map enc)))(hg:CE j (Ae ys:Int)=Af)
  (hle:Nat.ble (off+m) sz=Af) (hr:((enc (A2 ys j)).drop off).take m=rs) :
  Ck P n c l H { dst:=d',op:=.load t x,type:=ty,pos:=pos,after:=af,guard:=g } (Dr rs):=λa w Z ha hw=>by
 obtain⟨hs,us,⟨h1,h2⟩,h3⟩:=hw.ent hi;have h0:=(DY hg).1;have hlt:j.toNat<Ae ys:=by have:=(DY hg).2;omega
 have eat:A2 ys j=ys[j.toNat]:=by simp[A2,hlt]
 have hle':off+m≤sz:=by simpa using hle
 have hcl:(ys.map enc)[j.toNat]? =Ad (enc ys[j.toNat]):=by simp[hlt]
 have hcz:Ae (enc ys[j.toNat])=sz:=hs _ (Aq1 hcl);have hseg:=AaU hs hcl off m hle';rw[← eat,hr] at hseg;have h4:=(h3.drop (j.toNat*sz+off)).take m;rw[hseg] at h4;have hrl:Ae rs=m:=by rw[← hr,eat];simp;omega
 rcases h2 with⟨rfl,hz⟩ | ⟨b,cap,cur,rfl,_,hg',hcap,hm,hcs,htk⟩
 ·simp at hz;subst hz;simp at hlt
 ·have h5:=run_loadCells_list (P:=P) w ⟨b,j.toNat*sz+off,Ai⟩ ((us.drop (j.toNat*sz+off)).take m) (λq w' hq=>by
   rw[MP,cell_of_row w b _ cur e (0,0) hg'];rw[AqU] at hq
   split at hq
   ·rw[List.getElem?_drop,← htk,AqU] at hq
    split at hq
    ·simpa using hq
    ·cases hq
   ·cases hq)
  rw[h4.length,hrl] at h5;exact⟨.agg ((us.drop (j.toNat*sz+off)).take m).toArray,⟨_,rfl,h4⟩,by simp[execOp,ha.eval hx,VA,Instr.loadAt,Instr.sureAddr,loadVar,hag,hsz,h5]⟩
theorem Akt [Inhabited α]{off:Nat}{j:Int}{rs:List Rp}{y':α}(hsz:∀w,(sizeOf t).run P w = .ok m w)(hx:ev l x=Ad (rv (VA sz v j.toNat off)))(hy:ev l y=Ad (Dr rs))(hv:CB H rs)(hi:H[i]? =Ad (.row v e sz (ys.map enc)))(hg:CE j (Ae ys:Int)=Af)
  (hl:Ae rs=m) (hy':(enc (A2 ys j)).take off++rs++(enc (A2 ys j)).drop (off+m)=enc y') (hle:Nat.ble (off+m) sz=Af) (hH:H.set i (.row v e sz ((ys.set j.toNat y').map enc))=H') (h:WL P n c ops Q rest l H') :
  WL P n c ops Q ({ dst:=Ai,op:=.store t x y,type:=ty,pos:=pos,after:=af,guard:=Ai }::rest) l H:=
 AgZ λa w Z ha hw=>by
  obtain⟨hs,us,⟨h1,h2⟩,h3⟩:=hw.ent hi;have h0:=(DY hg).1;have hlj:j.toNat<Ae ys:=by have:=(DY hg).2;omega
  have hle':off+m≤sz:=by simpa using hle
  have eat:A2 ys j=ys[j.toNat]:=by simp[A2,hlj]
  obtain⟨vs,e1,h4⟩:=ha.ev hy;have hvl:=h4.length;have hone:∀v∈vs,v.oneCell'=Af:=λv hv'=>hv.at hw h4 v hv';have hcl:(ys.map enc)[j.toNat]? =Ad (enc ys[j.toNat]):=by simp[hlj]
  have hcz:Ae (enc ys[j.toNat])=sz:=hs _ (Aq1 hcl);rcases h2 with⟨rfl,hz⟩ | ⟨b,cap,cur,rfl,_,hg',hcap,hm,hcs,htk⟩
  ·simp at hz;subst hz;simp at hlj
  ·simp only[Aqz] at h1 hcap htk;have hin:j.toNat*sz+off+m≤Ae ys*sz:=by
    have:(j.toNat+1)*sz≤Ae ys*sz:=Nat.mul_le_mul_right _ hlj;rw[Nat.succ_mul] at this;omega
   have hlc:j.toNat*sz+off+m≤cur.size:=by
    have:Ae ys*sz≤cap*sz:=Nat.mul_le_mul_right _ hcap;omega
   have hvm:Ae vs=m:=Ab
   have h5:=run_storeCells_at P b (j.toNat*sz+off) e vs 0 cur w hg' Ab hone;simp only[Nat.add_zero] at h5;have hset:((ys.set j.toNat y').map enc).flatten=(ys.map enc).flatten.take (j.toNat*sz+off)++rs++(ys.map enc).flatten.drop (j.toNat*sz+off+m):=by
    have:=AaV hs hcl (rs:=rs) off Ab;rw[hl] at this;rw[← this,List.map_set,← hy',eat]
   refine⟨w.setRow b (cur.toList.take (j.toNat*sz+off)++vs++cur.toList.drop (j.toNat*sz+off+Ae vs)).toArray,H',?_,?_,h⟩
   ·simp only[Aq4] at h5 ⊢;rw[hvm] at h5 ⊢;simp[execOp,ha.eval hx,e1,VA,Instr.storeAt,Instr.sureAddr,storeVar,hsz,Value.cells,hvm,h5]
   ·subst hH;refine hw.set hi rfl rfl rfl (by simp[World.setRow]) (λk _ hk=>?_) ⟨?_,us.take (j.toNat*sz+off)++vs++us.drop (j.toNat*sz+off+m),⟨?_,.inr ⟨b,cap,_,Aj,AqL _,setRow_heap w b cur _ e (0,0) hg',by simpa using hcap,hm,?_,?_⟩⟩,?_⟩ (by simp[Ent.foot,Value.ownBlock])
    ·simp only[Ent.foot,Value.ownBlock,Option.mem_toList,Option.mem_def,Option.some.injEq] at hk;simp only[World.setRow,Array.getElem?_modify];rw[AqM hk]
    ·intro cl hcl';rw[List.map_set] at hcl';rcases List.mem_or_eq_of_mem_set hcl' with h' | rfl
     ·exact hs cl h'
     ·rw[← hy',eat];simp;omega
    ·simp;omega
    ·simp;omega
    ·have hu1:us.take (j.toNat*sz+off)=cur.toList.take (j.toNat*sz+off):=by rw[← htk,List.take_take,Nat.min_eq_left Ab]
     have hu2:us.drop (j.toNat*sz+off+m)=(cur.toList.drop (j.toNat*sz+off+m)).take (Ae ys*sz-(j.toNat*sz+off+m)):=by rw[← htk,List.drop_take]
     rw[hu1,hu2,Aqz,List.length_set,hvm];have e2:Ae (Aq (j.toNat*sz+off) cur.toList++vs)=j.toNat*sz+off+m:=Am
     have e3:Ae ys*sz=Ae (Aq (j.toNat*sz+off) cur.toList++vs)+(Ae ys*sz-(j.toNat*sz+off+m)):=by rw[e2];omega
     conv=>lhs;rw[show (Ae ys)*sz=Ae (Aq (j.toNat*sz+off) cur.toList++vs)+(Ae ys*sz-(j.toNat*sz+off+m)) from e3]
     rw[List.take_length_add_append]
    ·rw[hset];exact((h3.take _).append h4).append (h3.drop _)
def MV (sz:Nat)(v:Value)(j:Nat):Value:=match v with
 | .slice A len cap=>.slice (if cap=j then A else A.map (·.add (j*sz))) (len-j) (cap-j)
 | v=>v
theorem AmG {k:IntKind}{j:Int}(ht:P.underlying t=Ad (.slice e))(hz:∀w,(sizeOf e).run P w = .ok sz w)(hx:ev l x=Ad (rv v))(hy:ev l y=Ad (rI k j))(hi:H[i]? =Ad (.row v e sz (ys.map enc)))(hg:Gk j (Ae ys:Int)=Af) :
  Ck P n c l H { dst:=d',op:=.slice t x (Ad y) Ai Ai,type:=ty,pos:=pos,after:=af,guard:=g } (rv (MV sz v j.toNat)):=λa w Z ha hw=>DX<|by
 obtain⟨h0,us,⟨h1,h2⟩,h3⟩:=hw.ent hi;have g0:=(CP hg).1;have g1:=(CP hg).2;rcases h2 with⟨rfl,hz0⟩ | ⟨b,cap,cur,rfl,_,hb,hcap,hm,hcs,htk⟩
 ·simp at hz0;subst hz0;obtain rfl:j=0:=by simp at g1;omega
  simp[execOp,ha.eval hx,ha.eval hy,Instr.sliceAt,Instr.slice,run_underlying ht,Instr.sliceBounds,Cc (m:=0) _ _ (Aq8 0) (Aq8 0),hz,MV]
 ·simp only[Aqz] at h1 hcap htk;simp[execOp,ha.eval hx,ha.eval hy,Instr.sliceAt,Instr.slice,run_underlying ht,Instr.sliceBounds,Cc (m:=Ae ys) _ _ g0 g1,hz,MV]
theorem VS (zc:List Value)(hz:0<Ae zc):∀k,(Builtin.zeroCells zc.toArray k).toList=(Au k zc).flatten:=by
 intro k;have hl:Ae ((Au k zc).flatten)=k*Ae zc:=Aj
 apply List.ext_getElem
 ·simp[Builtin.zeroCells]
 ·intro i h1 h2;have hi:i<k*Ae zc:=by rw[← hl];exact h2
  have hm:i % (Ae zc)<Ae zc:=Nat.mod_lt _ hz;have hq:i/Ae zc<k:=by rw[Nat.div_lt_iff_lt_mul hz];exact hi
  have e1:(Builtin.zeroCells zc.toArray k).toList[i]=zc[i % (Ae zc)]:=by
   simp[Builtin.zeroCells,hm]
  have e2:=Ow (sz:=Ae zc) (vs:=Au k zc) (λc hc=>by rw[List.eq_of_mem_replicate hc]) (i:=i/Ae zc) (c:=zc) (by simp[hq]) (j:=i % (Ae zc)) (u:=zc[i % (Ae zc)]) (by simp[hm]);have e3:i/Ae zc*Ae zc+i % (Ae zc)=i:=Nat.div_add_mod' i (Ae zc);rw[e3] at e2;rw[e1];exact(Option.some.inj ((Aqx h2).symm.trans e2)).symm
theorem XV {j:Int}{z0:α}{zz:Value}{zc:List Value}(ht:P.underlying t=Ad (.slice e))(hzv:∀w,(zeroValue e).run P w = .ok zz w)(hzz:zz.cells.toList=zc)(hzl:Ae zc=sz)(hsz:Nat.blt 0 sz=Af)(hone:∀v∈zc,v.oneCell'=Af)(hzr:∀Z,BM Z (enc z0) zc)(hel:Ae (enc z0)=sz)
  (hx:ev l x=Ad (rv (MV sz v j.toNat))) (hi:H[i]? =Ad (.row v e sz (ys.map enc))) (hg:Gk j (Ae ys:Int)=Af) (hH:H.set i (.row v e sz ((ys.take j.toNat++Au (Ae ys-j.toNat) z0).map enc))=H') (h:WL P n c ops Q rest l H') :
  WL P n c ops Q ({ dst:=Ai,op:=.call { callee:=.builtin .clear,args:=#[x],argTypes:=#[t] },type:=ty,pos:=pos,after:=af,guard:=Ai }::rest) l H:=
 AlM (λa w Z ha hw=>by
  obtain⟨h0,us,⟨h1,h2⟩,h3⟩:=hw.ent hi;have g0:=(CP hg).1;have g1:=(CP hg).2;subst hH;have hz0:0<sz:=by simpa using hsz
  have hcells:zz.cells=zc.toArray:=by rw[← hzz]
  rcases h2 with⟨rfl,hz1⟩ | ⟨b,cap,cur,rfl,_,hb,hcap,hm,hcs,htk⟩
  ·simp at hz1;subst hz1;refine⟨.tuple #[],w,_,?_,hw.set (e':=.row (.slice Ai 0 0) e sz ((([]:List α).take j.toNat++Au (Ae ([]:List α)-j.toNat) z0).map enc)) hi rfl rfl rfl (Aq7 _) (λ_ _ _=>rfl) ⟨Aj,[],⟨Aj,.inl ⟨rfl,Aj⟩⟩,by simp[BM]⟩ (by simp[Ent.foot,Value.ownBlock]),h⟩
   ·have e0:MV sz (.slice Ai 0 0) j.toNat = .slice Ai 0 0:=by simp[MV]
    simp[execOp,resolve,invoke,builtin,ha.eval hx,e0,Builtin.clear_,run_underlying ht]
  ·simp only[Aqz] at h1 hcap htk;have hjl:j.toNat≤Ae ys:=Ab
   by_cases hjn:Ae ys=j.toNat
   ·refine⟨.tuple #[],w,_,?_,?_,h⟩
    ·have hn0:Ae ys-j.toNat=0:=Ab
     simp only[execOp,resolve,invoke,builtin,ha.eval hx,MV,hn0]
     by_cases hc:cap=j.toNat
     ·simp[ha.eval hx,MV,hn0,hc,Builtin.clear_,run_underlying ht]
     ·simp[ha.eval hx,MV,hn0,hc,Builtin.clear_,run_underlying ht]
    ·have e0:ys.take j.toNat++Au (Ae ys-j.toNat) z0=ys:=by rw[← hjn];simp
     rw[e0];have:H.set i (.row (.slice (Ad ⟨b,0,Ai⟩) (Ae (ys.map enc)) cap) e sz (ys.map enc))=H:=by
      obtain⟨hl,he⟩:=List.getElem?_eq_some_iff.1 hi;rw[← he,List.set_getElem_self]
     rw[this];exact hw
   ·have hc : ¬ cap=j.toNat:=Ab
    obtain⟨q,hq⟩:∃q,Ae ys-j.toNat=q+1:=⟨Ae ys-j.toNat-1,Ab⟩
    have hin:j.toNat*sz+(q+1)*sz=Ae ys*sz:=by rw[← Nat.add_mul];congr 1;omega
    have hlen:Ae ((Au (q+1) zc).flatten)=(q+1)*sz:=by simp[hzl]
    have hcc:Ae ys*sz≤cap*sz:=Nat.mul_le_mul_right _ hcap;have h5:=run_storeCells_at P b (j.toNat*sz) e ((Au (q+1) zc).flatten) 0 cur w hb (by rw[hlen];omega) (λv hv=>by
     obtain⟨cl,hcl,hv'⟩:=List.mem_flatten.1 hv;rw[List.eq_of_mem_replicate hcl] at hv';exact hone v hv')
    simp only[Nat.add_zero] at h5;rw[hlen,hin] at h5;refine⟨.tuple #[],w.setRow b (cur.toList.take (j.toNat*sz)++(Au (q+1) zc).flatten++cur.toList.drop (Ae ys*sz)).toArray,_,?_,?_,h⟩
    ·have hzc:=VS zc Ab (q+1);have e1:(a.eval x) = .slice (Ad ⟨b,j.toNat*sz,Ai⟩) (q+1) (cap-j.toNat):=by
      rw[ha.eval hx];simp[MV,hc,hq,MP]
     simp[execOp,resolve,invoke,builtin,e1,Builtin.clear_,run_underlying ht,hzv,hcells,hzc,h5]
    ·refine hw.set hi rfl rfl rfl (by simp[World.setRow]) (λk _ hk=>?_) ⟨?_,us.take (j.toNat*sz)++(Au (q+1) zc).flatten,⟨?_,.inr ⟨b,cap,_,?_,AqL _,setRow_heap w b cur _ e (0,0) hb,?_,hm,?_,?_⟩⟩,?_⟩ (by simp[Ent.foot,Value.ownBlock])
     ·simp only[Ent.foot,Value.ownBlock,Option.mem_toList,Option.mem_def,Option.some.injEq] at hk;simp only[World.setRow,Array.getElem?_modify];rw[AqM hk]
     ·intro cl hcl;rw[Arf] at hcl;rcases List.mem_append.1 hcl with h' | h'
      ·rw[List.map_take] at h';exact h0 cl (List.mem_of_mem_take h')
      ·rw[List.map_replicate] at h';rw[List.eq_of_mem_replicate h'];exact hel
     ·rw[Aqs,hlen];simp[Nat.min_eq_left hjl,h1,hq];have:j.toNat*sz≤Ae ys*sz:=Nat.mul_le_mul_right _ hjl
      first | rw[← Nat.add_mul] | (rw[Nat.min_eq_left this,← Nat.add_mul])
     ·simp[Nat.min_eq_left hjl];omega
     ·simp;omega
     ·have:j.toNat*sz≤Ae ys*sz:=Nat.mul_le_mul_right _ hjl;rw[List.size_toArray,Aqs,Aqs,hlen,AqV,AqO,Array.length_toList,Nat.min_eq_left Ab];omega
     ·have:j.toNat*sz≤Ae ys*sz:=Nat.mul_le_mul_right _ hjl;have e2:Ae ((ys.take j.toNat++Au (Ae ys-j.toNat) z0).map enc)*sz=Ae (cur.toList.take (j.toNat*sz)++(Au (q+1) zc).flatten):=by
       rw[Aqs,hlen];simp[Nat.min_eq_left hjl,hq];rw[Nat.min_eq_left Ab,← Nat.add_mul]
      rw[e2,List.take_left' rfl]
      congr 1
      rw[← htk,List.take_take,Nat.min_eq_left this]
     ·rw[Arf,List.flatten_append,List.map_take,List.map_replicate,hq];refine BM.append ?_ ?_
      ·have:((ys.map enc).take j.toNat).flatten=(ys.map enc).flatten.take (j.toNat*sz):=by
        clear h3 h1 htk hcs hcap g1 hi hw h5 hin hcc hlen hjn hc hq hjl hm hb;generalize ys.map enc=zs at h0;have key:∀(zs:List (List Rp)) (k:Nat),(∀c∈zs,Ae c=sz)→(zs.take k).flatten=zs.flatten.take (k*sz):=by
         intro zs
         induction zs with
         | nil=>intro k _;simp
         | cons z zs ih=>
          intro k hk
          cases k with
          | zero=>simp
          | succ k=>
           have hzl:=hk z Aj;simp only[List.take_succ_cons,List.flatten_cons];rw[ih k (λc hc=>hk c (by simp[hc]))];have e1:(k+1)*sz=Ae z+k*sz:=by rw[hzl,Nat.succ_mul];omega
           rw[e1,List.take_length_add_append]
        exact key zs _ h0
       rw[this];exact h3.take _
      ·clear h5 hin hlen hq;generalize q+1=k
       induction k with
       | zero=>exact trivial
       | succ k ih=>rw[List.replicate_succ,List.replicate_succ,List.flatten_cons,List.flatten_cons];exact(hzr Z).append ih)
end
abbrev Ux:=Nat→Nat→Value×Nat
def Ag (k:Nat)(u u':Ux):Prop:=∀j,j<k→u j=u' j
def ux (u:Ux)(k:Nat)(f:List (Value×Nat)):Ux:=λj=>bif Nat.beq j k then λq=>f.getD q (undef,0) else u j
theorem Aml {u:Ux}{k:Nat}{f:List (Value×Nat)}:Ag k u (ux u k f):=λj hj=>by
 unfold ux;have:Nat.beq j k=Ah:=by
  cases h:Nat.beq j k with
  | false=>rfl
  | true=>have:=Nat.eq_of_beq_eq_true h;omega
 rw[this];rfl
structure Sy where
 deps:List Nat
 r:Ux→Rp
 lv:Nat:=0
 fx:Bool:=Ah
 old:List Nat:=[]
def Kf (sp:List Sy)(i:Nat):Sy:=sp.getD i { deps:=[],r:=λ_=>rv undef }
def syu (sp:List Sy)(u:Ux):List Sp:=sp.map λs=>⟨s.deps,s.r u,0⟩
def saY (sp:List Sy)(u:Ux):List Sa:=sp.map λs=>{ deps:=s.deps,r:=s.r u }
def XI:List Sy→Prop
 | []=>True
 | s::r=>(∀u u',Ag s.lv u u'→s.r u=s.r u')∧XI r
theorem XI.at:∀{sp:List Sy},XI sp→∀{i:Nat} {s:Sy},sp[i]? =Ad s→∀u u',Ag s.lv u u'→s.r u=s.r u'
 | [],_,i,s,h=>by simp at h
 | x::sp,⟨h1,h2⟩,0,s,h=>by simp at h;subst h;exact h1
 | x::sp,⟨h1,h2⟩,i+1,s,h=>XI.at h2 (by simpa using h)
theorem syc {m:Nat}:∀u u':Ux,Ag m u u'→(λ_:Ux=>r) u=(λ_:Ux=>r) u':=λ_ _ _=>rfl
def okY (n:Nat)(ops:List Oper)(N:Nat)(is keys:List Nat)(deps:List (List Nat))(lvs:List Nat)(fxs:List Bool)(olds:List (List Nat)):Bool:=
 let cl:=Qn ops []
 VH ops N&&Ac (N≤Ae ops)&&is.all (λi=>Ac (i<N))&&decide is.Nodup&&
 (As (Ae is)).all (λk=>k ==0||(cl.getD (is.getD k 0) 0).testBit (is.getD (k-1) 0))&&
 (As N).all (λi=>match Dw ops i with
  | some d=>Ac (d<n)&&!keys.contains d&&(As N).all (λj=>j ==i||Dw ops j !=Ad d)
  | none=>Af)&&
 (As N).all (λi=>(deps.getD i []).all (λj=>Ac (j<N)&&(E5 (ops.getD i default)).contains j))&&
 (As N).all (λi=>Ac (lvs.getD i 0≤Ae is)&&(lvs.getD i 0 ==0||i ==is.getD (lvs.getD i 0-1) 0||(cl.getD i 0).testBit (is.getD (lvs.getD i 0-1) 0)))&&
 (As N).all (λi=>!fxs.getD i Ah||lvs.getD i 0 ==Ae is||(cl.getD (is.getD (lvs.getD i 0) 0) 0).testBit i)&&
 (As N).all (λi=>(olds.getD i []).all (λd=>(As N).all (λw=>Dw ops w !=Ad d||(E5 (ops.getD w default)).contains i)))
def cnt (S:Nat→Bool)(is:List Nat):Nat:=Ae (is.filter S)
theorem VD {S:Nat→Bool}{is:List Nat}{k:Nat}(hk:k≤Ae is)(h1:∀j (h:j<Ae is),j<k→S is[j]=Af)(h2:∀j (h:j<Ae is),k≤j→S is[j]=Ah):cnt S is=k:=by
 unfold cnt;rw[← Ard k is,List.filter_append,List.filter_eq_self.2 (λx hx=>?_),List.filter_eq_nil_iff.2 (λx hx=>?_)]
 ·simp;omega
 ·obtain⟨j,hj⟩:=List.mem_iff_getElem?.1 hx;rw[List.getElem?_drop] at hj;obtain⟨h3,h4⟩:=List.getElem?_eq_some_iff.1 hj;have:=h2 (k+j) h3 Ab;rw[h4] at this;simp[this]
 ·obtain⟨j,hj⟩:=List.mem_iff_getElem?.1 hx;rw[AqU] at hj
  split at hj
  ·rename_i hjk
   obtain⟨h3,h4⟩:=List.getElem?_eq_some_iff.1 hj;have:=h1 j h3 hjk;rw[h4] at this;exact this
  ·cases hj
theorem XD {S S':Nat→Bool}{is:List Nat}(h:∀i∈is,S i=S' i):cnt S is=cnt S' is:=by
 unfold cnt;rw[List.filter_congr h]
section
variable (P : Program) (n : Nat) (c : Cx) (opsA : Array Oper) (Q : Exit → Act → World → Prop)
def OpY (l:Fr)(H:List Ent)(o:Oper)(k:Nat)(u:Ux)(r:Ux→Rp)(H1:Ux→List Ent):Prop:=
 ∀a w Z (K:Act→World→Prop),Gl n l a Z→St c H Z w→(∀u' v w' Z',Ag k u u'→Fz.le Z Z'→(r u').p Z' v→St c (H1 u') Z' w'→K (a.put o.dst v) w')→
  Region.wanted o (yielded opsA a.tmps)=Af∧o.wp P a w K Q
def ObY (ops:List Oper)(sp:List Sy)(l0 lw:Fr)(is:List Nat)(hs:List (Ux→List Ent))(i:Nat)(o:Oper):Prop:=
 match is.findIdx? (λx=>Nat.beq x i) with
 | some k=>∀u,OpY P n c opsA Q (HV lw (Kf sp i).old (Di ops (syu sp u) (Kf sp i).deps l0)) (hs.getD k (λ_=>[]) u) o k u (Kf sp i).r (hs.getD (k+1) (λ_=>[]))
 | none=>if (Kf sp i).fx=Af then ∀u,GA P n c opsA Q (HV lw (Kf sp i).old (Di ops (syu sp u) (Kf sp i).deps l0)) (hs.getD (Kf sp i).lv (λ_=>[]) u) o ((Kf sp i).r u) (hs.getD (Kf sp i).lv (λ_=>[]) u)
  else ∀u k,k≤Ae is→GA P n c opsA Q (HV lw (Kf sp i).old (Di ops (syu sp u) (Kf sp i).deps l0)) (hs.getD k (λ_=>[]) u) o ((Kf sp i).r u) (hs.getD k (λ_=>[]) u)
def S3 (ops:List Oper)(sp:List Sy)(l0 lw:Fr)(is:List Nat)(hs:List (Ux→List Ent)):Nat→List Oper→Prop
 | i,o::rest=>ObY P n c opsA Q ops sp l0 lw is hs i o∧S3 ops sp l0 lw is hs (i+1) rest
 | _,[]=>True
end
variable{rest all:List Oper}
section
variable {P : Program} {n : Nat} {c : Cx} {opsA : Array Oper} {Q : Exit → Act → World → Prop} {l l0 lw : Fr} {H : List Ent} {hs : List (Ux → List Ent)} {sp : List Sy} {is : List Nat}
theorem S3.at {ops:List Oper}:∀{k:Nat} {rest:List Oper},S3 P n c opsA Q ops sp l0 lw is hs k rest→∀(t:Nat) o,rest[t]? =Ad o→ObY P n c opsA Q ops sp l0 lw is hs (k+t) o
 | k,o::rest,⟨h1,h2⟩,t,o',ht=>by
  cases t with
  | zero=>simp at ht;subst ht;exact h1
  | succ t=>
   have:=S3.at h2 t o' (by simpa using ht);rw[show k+(t+1)=k+1+t from Ab];exact this
 | _,[],_,t,o,h=>by simp at h
theorem Akk {id:Nat}{ops:List Oper}(N:Nat)(is:List Nat)(sp:List Sy)(hs:List (Ux→List Ent))(hm:P.follows .mixedOrders=Af)(hB:okY n ops N is (Hz l0) (sp.map (·.deps)) (sp.map (·.lv)) (sp.map (·.fx)) (sp.map (·.old))=Af)(hl0:Abo l0 l)(hlw:Abo lw l)(hsp:Ae sp=N)(hst:XI sp)
    (hH:∀u,hs.getD 0 (λ_=>[]) u=H) (hob:S3 P n c ops.toArray Q ops sp l0 lw is hs 0 (ops.take N)) (h:∀u,WL P n c ops.toArray Q (ops.drop N) (PL (λ_=>0) (ops.take N) (saY sp u) 0 l0) (hs.getD (Ae is) (λ_=>[]) u)):WC P n c (.region id ops.toArray Af) Q l H:=by
  intro a w Z ha hw;simp only[okY,Aqu,AqX,List.mem_range,Aqq] at hB;obtain⟨⟨⟨⟨⟨⟨⟨⟨⟨b1,bN⟩,bis⟩,Pp⟩,bch⟩,b2⟩,b3⟩,b4⟩,b6⟩,b5⟩:=hB;have hget:∀i,i<N→(ops.take N)[i]? =ops[i]?:=λi hi=>by rw[AqU,Arc hi]
  have hsa:∀i,i<N→sp[i]? =Ad (Kf sp i):=λi hi=>by
    simp[Kf,Aqy,Aqx (show i<Ae sp by omega)]
  have hspq:∀u i,i<N→(Hg (syu sp u) i)=⟨(Kf sp i).deps,(Kf sp i).r u,0⟩:=λu i hi=>by
    simp[Hg,syu,Aqy,AqI,hsa i hi]
  have hlv:∀j,j<N→(sp.map (·.lv)).getD j 0=(Kf sp j).lv:=λj hj=>by simp[Aqy,AqI,hsa j hj]
  have hfx:∀j,j<N→(sp.map (·.fx)).getD j Ah=(Kf sp j).fx:=λj hj=>by simp[Aqy,AqI,hsa j hj]
  have hdep:∀j,j<N→(sp.map (·.deps)).getD j []=(Kf sp j).deps:=λj hj=>by simp[Aqy,AqI,hsa j hj]
  have hops:∀j,j<N→∃o,ops[j]? =Ad o:=λj hj=>⟨ops[j]'(Ab),Aqx Ab⟩
  have hisN:∀k (hk:k<Ae is),is[k]<N:=λk hk=>bis _ (List.getElem_mem hk);have hisD:∀k (hk:k<Ae is),is.getD k 0=is[k]:=λk hk=>by rw[Aqy,Aqx hk];rfl
  have hdst:∀i o d,i<N→ops[i]? =Ad o→o.dst=Ad d→(d<n∧d ∉ Hz l0)∧∀j,j<N→j≠i→Dw ops j≠Ad d:=λi o d hi ho hd=>by
    have h3:=b2 i hi;have:Dw ops i=Ad d:=by simp[Dw,ho,hd]
    rw[this] at h3;simp only[Aqu,Aq6,AqX,List.mem_range,Aqq] at h3;refine⟨⟨h3.1.1,λhmem=>by rw[← List.contains_iff_mem] at hmem;rw[hmem] at h3;cases h3.1.2⟩,λj hj hne he=>?_⟩;have:=h3.2 j hj;simp[hne,he] at this
  have clo:∀S:Nat→Bool,(∀t o,ops[t]? =Ad o→S t=Af→∀e∈E5 o,S e=Af)→∀j i,((Qn ops []).getD j 0).testBit i=Af→S j=Af→S i=Af:=λS hc j i hb hj=>
    JA ops (λk=>S k=Af) ops [] (λt o ht e he hF=>hc t o ht (by simpa using hF) e he) (λj i hb=>by simp at hb) j i hb hj
  have pre1:∀S:Nat→Bool,(∀t o,ops[t]? =Ad o→S t=Af→∀e∈E5 o,S e=Af)→∀k (hk:k<Ae is),S is[k]=Af→∀j (hj:j<Ae is),j≤k→S is[j]=Af:=by
    intro S hc k
    induction k with
    | zero=>
              intro hk h0 j hj hle;have:j=0:=Ab
              subst this;exact h0
    | succ k ih=>
      intro hk h0 j hj hle
      by_cases e:j=k+1
      · subst e;exact h0
      · have h3:=bch (k+1) hk
        rw[hisD (k+1) hk] at h3;simp only[AqF,beq_iff_eq,Nat.succ_ne_zero,false_or,Nat.add_sub_cancel] at h3;rw[hisD k Ab] at h3;exact ih Ab (clo S hc _ _ h3 h0) j hj Ab
  refine Ab1 (N:=N) hm b1 bN (λS a w=>∃ (u:Ux) (Z:Fz),St c (hs.getD (cnt S is) (λ_=>[]) u) Z w∧Gl n l0 a Z∧(∀j o d,j<N→S j=Af→ops[j]? =Ad o→o.dst=Ad d→∃v,a.tmps[d]? =Ad v∧((Kf sp j).r u).p Z v)∧
      (∀t o,t<N→ops[t]? =Ad o→S t=Af→∀e∈E5 o,e<t∧S e=Af)∧
      (∀d q,look lw d=Ad q→(∀wr,wr<N→Dw ops wr=Ad d→S wr=Ah)→∃v,a.tmps[d]? =Ad v∧q.p Z v)∧
      ∀wr i d,wr<N→i<N→Dw ops wr=Ad d→d∈(Kf sp i).old→S wr=Af→S i=Af)
    (λS S' a w hS hI=>?_) ⟨default,Z,?_,ha.subL hl0,λj o d _ hS=>(by cases hS),λt o _ _ hS=>(by cases hS),λd q hd _=>(ha.subL hlw).tm d q hd,λwr i d _ _ _ _ hS=>(by cases hS)⟩ (λS i o a w hi hun ho hb hI K hK=>?_) (λa w hI=>?_)
  · obtain⟨u,Z,h1,h2,h3,h4,h5,h6⟩:=hI
    refine⟨u,Z,?_,h2,λj o d hj hS'=>h3 j o d hj (by rw[hS j hj];exact hS'),λt o ht hto hSt e he=>?_,λd q hd hw'=>h5 d q hd (λwr hwr hdw=>by rw[hS wr hwr];exact hw' wr hwr hdw),λwr i d hwr hi hdw hold hSw=>by rw[← hS i hi];exact h6 wr i d hwr hi hdw hold (by rw[hS wr hwr];exact hSw)⟩
    · rw[← XD (S:=S) (S':=S') λi hi=>hS i (bis i hi)];exact h1
    · obtain⟨h7,h8⟩:=h4 t o ht hto (by rw[hS t ht];exact hSt) e he
      exact⟨h7,by rw[← hS e Ab];exact h8⟩
  · have:cnt (λ_=>Ah) is=0:=VD (AqL _) (λj _ h=>absurd h (Nat.not_lt_zero _)) (λ_ _ _=>rfl)
    rw[this,hH];exact hw.drawn _
  · obtain⟨u,Z,h1,h2,h3,hc,ho5,ho6⟩:=hI
    have hcl:∀t o,ops[t]? =Ad o→(Ac (t<N)&&S t)=Af→∀e∈E5 o,(Ac (e<N)&&S e)=Af:=λt o hto hSt e he=>by
      simp only[Aqu,Aqq] at hSt ⊢;obtain⟨h7,h8⟩:=hc t o hSt.1 hto hSt.2 e he;exact⟨Ab,h8⟩
    have hcl2:∀k q,((Qn ops []).getD k 0).testBit q=Af→(k=i∨(Ac (k<N)&&S k)=Af)→(q=i∨(Ac (q<N)&&S q)=Af):=
      JA ops (λk=>k=i∨(Ac (k<N)&&S k)=Af) ops [] (λt o' ht e he hF=>by
        rcases hF with hF | hF
        · simp at hF;subst hF
          rw[ho] at ht;simp at ht;subst ht;obtain⟨h7,h8⟩:=hb e he;exact .inr (by simp only[Aqu,Aqq];exact⟨Ab,h8⟩)
        · exact .inr (hcl t o' ht (by simpa using hF) e he)) (λj i hb=>by simp at hb)
    have hanc:∀q,((Qn ops []).getD i 0).testBit q=Af→q≠i→S q=Af:=λq hq hne=>by
      rcases hcl2 i q hq (.inl rfl) with h7 | h7
      · exact absurd h7 hne
      · simp only[Aqu] at h7;exact h7.2
    have hSis:∀k (hk:k<Ae is),(Ac (is[k]<N)&&S is[k])=S is[k]:=λk hk=>by simp[hisN k hk]
    have hpre:∀k (hk:k<Ae is),S is[k]=Af→∀j (hj:j<Ae is),j≤k→S is[j]=Af:=λk hk hSk j hj hle=>by
      have:=pre1 (λk=>Ac (k<N)&&S k) hcl k hk (by show(Ac (is[k]<N)&&S is[k])=Af;rw[hSis k hk];exact hSk) j hj hle
      rwa [show(Ac (is[j]<N)&&S is[j])=S is[j] from hSis j hj] at this
    have hput:∀k u v,a.tmps[k]? =Ad u→o.dst≠Ad k→(a.put o.dst v).tmps[k]? =Ad u:=λk u v hk hne=>by
      cases hd:o.dst with
      | none=>simpa[Act.put] using hk
      | some d=>
        simp only[Act.put,Array.getElem?_setIfInBounds];rw[AqM (λe=>hne (by rw[hd,e]))];exact hk
    have hagr:∀v Z',Fz.le Z Z'→Gl n l0 (a.put o.dst v) Z':=λv Z' hz=>by
      refine⟨?_,?_,λk r hk=>?_⟩
      · cases o.dst<;>simp[Act.put,h2.size]
      · cases o.dst<;>simp[Act.put,h2.defers]
      · obtain⟨u,hu,hpu⟩:=h2.tm k r hk
        exact⟨u,hput k u v hu (λe=>((hdst i o k hi ho e).1).2 (Om hk)),r.mono hz hpu⟩
    have hvals:∀(v:Value) (Z':Fz) (u':Ux),Fz.le Z Z'→(∀j,j<N→j≠i→S j=Af→(Kf sp j).r u'=(Kf sp j).r u)→(o.dst≠Ai→((Kf sp i).r u').p Z' v)→∀j o' d,j<N→(j ==i||S j)=Af→ops[j]? =Ad o'→o'.dst=Ad d→∃q,(a.put o.dst v).tmps[d]? =Ad q∧((Kf sp j).r u').p Z' q:=by
      intro v Z' u' hz hβ hp j o' d hj hS' ho' hd
      by_cases hji:j=i
      · subst hji
        rw[ho] at ho';simp at ho';subst ho';refine⟨v,?_,hp (by simp[hd])⟩;have hdn:d<a.tmps.size:=by rw[h2.size];exact(hdst j o d hi ho hd).1.1
        simp[Act.put,hd,hdn]
      · have hSj:S j=Af:=by simpa[hji] using hS'
        obtain⟨q,hu,hpu⟩:=h3 j o' d hj hSj ho' hd;refine⟨q,hput d q v hu (λe=>(hdst i o d hi ho e).2 j hj hji (by simp[Dw,ho',hd])),?_⟩;rw[hβ j hj hji hSj];exact((Kf sp j).r u).mono hz hpu
    have hat:=hob.at i o (by rw[hget i hi];exact ho);rw[AqT] at hat;have hold':∀Z',Fz.le Z Z'→∀v d q,look lw d=Ad q→(∀wr,wr<N→Dw ops wr=Ad d→(wr ==i||S wr)=Ah)→∃v',(a.put o.dst v).tmps[d]? =Ad v'∧q.p Z' v':=λZ' hz v d q hd hw'=>by
      obtain⟨v',e1,e2⟩:=ho5 d q hd (λwr hwr hdw=>by have:=hw' wr hwr hdw;simp only[AqD] at this;exact this.2);refine⟨v',hput d v' v e1 (λe=>?_),q.mono hz e2⟩;have:=hw' i hi (by simp[Dw,ho,e]);simp at this
    have hord:∀wr k d,wr<N→k<N→Dw ops wr=Ad d→d∈(Kf sp k).old→(wr ==i||S wr)=Af→(k ==i||S k)=Af:=λwr k d hwr hk hdw hmem hSw=>by
      by_cases hwi:wr=i
      · subst hwi
        have h7:=b5 k hk d (by simpa[Aqy,AqI,hsa k hk] using hmem) wr hwr;simp only[AqF,bne_iff_ne,ne_eq,hdw,not_true_eq_false,false_or] at h7;rw[Aqy,ho,AqE,List.contains_iff_mem] at h7;simp[(hb k h7).2]
      · have:S k=Af:=ho6 wr k d hwr hk hdw hmem (by simpa[hwi] using hSw)
        simp[this]
    have hcl':∀t o',t<N→ops[t]? =Ad o'→(t ==i||S t)=Af→∀e∈E5 o',e<t∧(e ==i||S e)=Af:=λt o' ht hto hSt e he=>by
      by_cases hti:t=i
      · subst hti
        rw[ho] at hto;simp at hto;subst hto;obtain⟨h7,h8⟩:=hb e he;exact⟨h7,by simp[h8]⟩
      · obtain⟨h7,h8⟩:=hc t o' ht hto (by simpa[hti] using hSt) e he
        exact⟨h7,by simp[h8]⟩
    have hag':Gl n (HV lw (Kf sp i).old (Di ops (syu sp u) (Kf sp i).deps l0)) a Z:=Ze (Pq h2 (λj hj d hd=>by
        obtain⟨h5,h6⟩:=b3 i hi j (by rw[hdep i hi];exact hj);rw[Aqy,ho,AqE,List.contains_iff_mem] at h6;obtain⟨o2,ho2⟩:=hops j h5;obtain⟨v,hv1,hv2⟩:=h3 j o2 d h5 (hb j h6).2 ho2 (by simpa[Dw,ho2] using hd);refine⟨v,hv1,?_⟩;rw[hspq u j h5];exact hv2)) (λd hd q hq=>ho5 d q hq (λwr hwr hdw=>by
          cases hS:S wr with
          | false=>rfl
          | true=>have:=ho6 wr i d hwr hi hdw hd hS;rw[this] at hun;cases hun))
    have hlev:∀j,j<N→S j=Af→∀m (hm:m<Ae is),m<(Kf sp j).lv→S is[m]=Af:=λj hj hSj m hm hlt=>by
      have h7:=b4 j hj;rw[hlv j hj] at h7;have h8:=h7.1;have hm1:(Kf sp j).lv-1<Ae is:=Ab
      rw[hisD _ hm1] at h7;have h9:S is[(Kf sp j).lv-1]=Af:=by
        have hg:=h7.2;simp only[AqF,beq_iff_eq] at hg;rcases hg with(hg | hg) | hg
        · omega
        · rw[← hg];exact hSj
        · have:=clo (λk=>Ac (k<N)&&S k) hcl j _ hg (by simp[hj,hSj])
          simp only[Aqu] at this;exact this.2
      exact hpre _ hm1 h9 m hm Ab
    unfold ObY at hat
    cases hf:is.findIdx? (λx=>Nat.beq x i) with
    | some k=>
      rw[hf] at hat;obtain⟨hk,hki,_⟩:=List.findIdx?_eq_some_iff_getElem.1 hf;have hik:is[k]=i:=Nat.eq_of_beq_eq_true hki;have hlow:∀j (hj:j<Ae is),j<k→S is[j]=Af:=λj hj hjk=>by
        obtain⟨k',rfl⟩:∃k',k=k'+1:=⟨k-1,Ab⟩
        have h7:=bch (k'+1) hk;rw[hisD _ hk] at h7;simp only[AqF,beq_iff_eq,Nat.succ_ne_zero,false_or,Nat.add_sub_cancel] at h7;have hk':k'<Ae is:=Ab
        rw[hisD k' hk',hik] at h7;have hne:is[k']≠i:=λe=>by
          have:=(List.getElem_inj Pp).1 (e.trans hik.symm);omega
        exact hpre k' hk' (hanc _ h7 hne) j hj Ab
      have hhigh:∀j (hj:j<Ae is),k≤j→S is[j]=Ah:=λj hj hle=>by
        cases hS:S is[j] with
        | false=>rfl
        | true=>have:=hpre j hj hS k hk hle;rw[hik,hun] at this;cases this
      have hcnt:cnt S is=k:=VD Ab (λj hj h=>hlow j hj h) (λj hj h=>hhigh j hj h);have hcnt':cnt (λj=>j ==i||S j) is=k+1:=VD Ab (λj hj h=>by
        by_cases e:j=k
        · subst e;simp[hik]
        · simp[hlow j hj Ab]) (λj hj h=>by
        have hne:is[j]≠i:=λe=>by have:=(List.getElem_inj Pp).1 (e.trans hik.symm);omega
        simp[hne,hhigh j hj Ab])
      rw[hcnt] at h1;have key:=λK' hK'=>hat u a w Z K' hag' h1 hK';have h5:∀u' v w' Z',Ag k u u'→Fz.le Z Z'→((Kf sp i).r u').p Z' v→St c (hs.getD (k+1) (λ_=>[]) u') Z' w'→K (a.put o.dst v) w':=λu' v w' Z' hag hz hpv hs'=>by
        refine hK _ _ ⟨u',Z',by rw[hcnt'];exact hs',hagr v Z' hz,hvals v Z' u' hz (λj hj hji hSj=>?_) (λ_=>hpv),hcl',hold' Z' hz v,hord⟩;refine(hst.at (hsa j hj) u u' (λm hm=>hag m ?_)).symm;have hlj:=(b4 j hj).1;rw[hlv j hj] at hlj;have hml:m<Ae is:=Ab
        cases Nat.lt_or_ge m k with
        | inl h7=>exact h7
        | inr h7=>have:=hlev j hj hSj m hml hm;rw[hhigh m hml h7] at this;cases this
      refine⟨λ_=>(key K h5).2,λhw'=>?_⟩;rw[(key K h5).1] at hw';cases hw'
    | none=>
      rw[hf] at hat;have hni:∀x∈is,x≠i:=λx hx e=>by
        have:=List.findIdx?_eq_none_iff.1 hf x hx;subst e;simp at this
      have hcnt':cnt (λj=>j ==i||S j) is=cnt S is:=XD λx hx=>by simp[hni x hx]
      by_cases hfi:(Kf sp i).fx=Af
      · simp only[hfi,Arp] at hat
        have hli:=b4 i hi;rw[hlv i hi] at hli;have hcnt:cnt S is=(Kf sp i).lv:=VD hli.1 (λj hj h=>?_) (λj hj h=>?_)
        · rw[hcnt] at h1
          refine hat u a w Z K hag' h1 (λv w' Z' hz hp hst'=>hK _ _ ⟨u,Z',?_,hagr v Z' hz,hvals v Z' u hz (λ_ _ _ _=>rfl) (λ_=>hp),hcl',hold' Z' hz v,hord⟩);rw[hcnt',hcnt];exact hst'
        · have h7:=hli.2
          have hm1:(Kf sp i).lv-1<Ae is:=Ab
          rw[hisD _ hm1] at h7;simp only[AqF,beq_iff_eq] at h7;rcases h7 with(h7 | h7) | h7
          · omega
          · exact absurd h7.symm (hni _ (List.getElem_mem hm1))
          · exact hpre _ hm1 (hanc _ h7 (hni _ (List.getElem_mem hm1))) j hj Ab
        · have h7:=b6 i hi
          rw[hfx i hi,hfi,hlv i hi] at h7;simp only[Aq5,Aq9,AqF,beq_iff_eq] at h7;rcases h7 with h7 | h7
          · omega
          · have hm1:(Kf sp i).lv<Ae is:=Ab
            rw[hisD _ hm1] at h7
            cases hS:S is[j] with
            | false=>rfl
            | true=>
              have h8:=hpre j hj hS _ hm1 h;have:=clo (λk=>Ac (k<N)&&S k) hcl _ _ h7 (by show(Ac (is[(Kf sp i).lv]<N)&&S is[(Kf sp i).lv])=Af;rw[hSis _ hm1];exact h8);simp only[Aqu,hun] at this;exact absurd this.2 Aj
      · simp only[hfi,Arl] at hat
        refine hat u (cnt S is) (List.length_filter_le _ _) a w Z K hag' h1 (λv w' Z' hz hp hst'=>hK _ _ ⟨u,Z',?_,hagr v Z' hz,hvals v Z' u hz (λ_ _ _ _=>rfl) (λ_=>hp),hcl',hold' Z' hz v,hord⟩);rw[hcnt'];exact hst'
  · obtain⟨u,Z,h1,h2,h3,_,_,_⟩:=hI
    have hsl:Ae (saY sp u)=N:=by simp[saY,hsp]
    have hcnt:cnt (λ_=>Af) is=Ae is:=VD (Aq7 _) (λ_ _ _=>rfl) (λj hj h=>by omega);rw[hcnt] at h1;refine h u a w Z (TZ h2 _ _ 0 (λt o s d ht hs hd=>?_)) h1;have htN:t<N:=by have:=(List.getElem?_eq_some_iff.1 hs).1;omega
    have hs':s = { deps:=(Kf sp t).deps,r:=(Kf sp t).r u }:=by
      simp only[saY,AqI,hsa t htN,Option.map_some,Option.some.injEq] at hs;exact hs.symm
    subst hs';rw[AqT];exact h3 t o d htN rfl (by rw[← hget t htN];exact ht) hd
theorem Amv {id:Nat}{ops:List Oper}(N:Nat)(is ks0 ksw:List Nat)(sp:List Sy)(hs:List (Ux→List Ent))(hst:XI sp)(hob:S3 P n c ops.toArray Q ops sp l0 lw is hs 0 (ops.take N))(h:∀u,WL P n c ops.toArray Q (ops.drop N) (PL (λ_=>0) (ops.take N) (saY sp u) 0 l0) (hs.getD (Ae is) (λ_=>[]) u))
  (h0:Kp ks0 l l0:=by repeat (first | exact Sh | (apply Ps;rfl) | (apply Rq;rfl))) (hw:Kp ksw l lw:=by repeat (first | exact Sh | (apply Ps;rfl) | (apply Rq;rfl))) (hm:P.follows .mixedOrders=Af:=by kernel_rfl) (hB:okY n ops N is (Hz l0) (sp.map (·.deps)) (sp.map (·.lv)) (sp.map (·.fx)) (sp.map (·.old))=Af:=by kernel_rfl)
  (hsp:Ae sp=N:=by rfl) (hH:∀u,hs.getD 0 (λ_=>[]) u=H:=by exact λ_=>rfl):WC P n c (.region id ops.toArray Af) Q l H:=Akk N is sp hs hm hB h0.one hw.one hsp hst hH hob h
theorem oyc {o:Oper}(hr:∀{u H},GA P n c opsA Q (HV lw (Kf sp i).old (Di all (syu sp u) (Kf sp i).deps l0)) H o ((Kf sp i).r u) H)(h:S3 P n c opsA Q all sp l0 lw is hs (i+1) rest)(hne:is.findIdx? (λx=>Nat.beq x i)=Ai:=by rfl)(hf:(Kf sp i).fx=Ah:=by rfl):S3 P n c opsA Q all sp l0 lw is hs i (o::rest):=by
 refine⟨?_,h⟩;unfold ObY;rw[hne];simp only[hf,AqP,Arl];exact λu _ _=>hr
def Ag6 (p:List Ent→Prop)(u:Ux):List (Ux→List Ent)→Prop
 | []=>True
 | f::r=>p (f u)∧Ag6 p u r
theorem Ag6.at {p:List Ent→Prop}{u:Ux}:∀{hs:List (Ux→List Ent)},Ag6 p u hs→∀k,k<hs.length→p (hs.getD k (λ_=>[]) u)
 | [],_,k,h=>absurd h (Nat.not_lt_zero _)
 | f::r,⟨h1,h2⟩,0,_=>h1
 | f::r,⟨h1,h2⟩,k+1,h=>Ag6.at h2 k (by simpa using h)
theorem oya {o:Oper}(hr:∀{u},Ag6 (λH'=>GA P n c opsA Q (HV lw (Kf sp i).old (Di all (syu sp u) (Kf sp i).deps l0)) H' o ((Kf sp i).r u) H') u hs)(h:S3 P n c opsA Q all sp l0 lw is hs (i+1) rest)(hne:is.findIdx? (λx=>Nat.beq x i)=Ai:=by rfl)(hf:(Kf sp i).fx=Ah:=by rfl)(hl:hs.length=Ae is+1:=by rfl):S3 P n c opsA Q all sp l0 lw is hs i (o::rest):=by
 refine⟨?_,h⟩;unfold ObY;rw[hne];simp only[hf,AqP,Arl];exact λu k hk=>Ag6.at hr k Ab
theorem oyx {o:Oper}(k:Nat)(hr:∀{u},OpY P n c opsA Q (HV lw (Kf sp i).old (Di all (syu sp u) (Kf sp i).deps l0)) (hs.getD k (λ_=>[]) u) o k u (Kf sp i).r (hs.getD (k+1) (λ_=>[])))(h:S3 P n c opsA Q all sp l0 lw is hs (i+1) rest)(hne:is.findIdx? (λx=>Nat.beq x i)=Ad k:=by rfl):S3 P n c opsA Q all sp l0 lw is hs i (o::rest):=by
 refine⟨?_,h⟩;unfold ObY;rw[hne];exact λu=>hr
theorem oye:S3 P n c opsA Q all sp l0 lw is hs i []:=trivial
end
section
variable {P : Program} {n : Nat} {c : Cx} {opsA : Array Oper} {Q : Exit → Act → World → Prop} {l : Fr} {H : List Ent} {d : Nat} {x y : Operand} {ty t e : TypeId} {pos : String} {af : Array Edge} {v : Value} {sz : Nat}
end
end Go.Proofs.YtiddaamglmmnaaaGreatDoor.Q
namespace Go.Proofs.YtiddaamglmmnaaaGreatDoor
open Go
end Go.Proofs.YtiddaamglmmnaaaGreatDoor
namespace Go.Proofs.YtiddaamglmmnaaaGreatDoor.Q
open Go Go.RowKit
set_option linter.unusedVariables false
section
variable {P : Program} {n : Nat} {c : Cx} {ops : Array Oper} {Q : Exit → Act → World → Prop} {rest : List Oper} {l : Fr} {H : List Ent} {d : Nat} {d' : Option Nat} {t kt et ty : TypeId} {pos : String} {af : Array Edge} {g : Option (Nat × Bool)} {x y u : Operand} {b i : Nat} {T : Type} {enc : T → Rp} {xs : List (Int × T)} {z : T} {zv : Value}
end
set_option linter.unusedSimpArgs false
section
variable {P : Program} {n : Nat} {c : Cx} {ops : Array Oper} {Q : Exit → Act → World → Prop} {rest : List Oper} {l : Fr} {H H' : List Ent} {d : Nat} {d' : Option Nat} {x y : Operand} {ty t t' e : TypeId} {pos : String} {af : Array Edge} {g : Option (Nat × Bool)} {v u : Value} {r : Rp} {sz k : Nat} {pv : Value} {α : Type} [Inhabited α] {xs : List α} {enc : α → List Rp}
end
end Go.Proofs.YtiddaamglmmnaaaGreatDoor.Q
