/-
  Texts of the proof, put together: WHh, PHi, WHi, PHj, WHj, OkHostDoes, LvA, LvB, LvC, LvD, LvE, LvF, LvG, LvH, LvI, LvJ, LvK, LvL, LvM, LvN, LvO, LvP.
-/
import Derived.Test.YtphnhpcjnmmhiaaGreatDoorHD4
import GoSem.ClaimData
namespace Go.Proofs.YtphnhpcjnmmhiaaGreatDoor.Q
open Go Go.RowKit
set_option linter.unusedVariables false
set_option linter.unusedSimpArgs false
set_option maxRecDepth 100000
set_option maxHeartbeats 4000000
@[reducible] def D4 (x:Be):List Rp:=[rS x.fName,rS x.fText,rS x.fPrevious,rB x.fRotated,AZ x.fUntil,AZ x.fSince,AZ x.fVersion,B4 1 (Bu eS x.fBound)]
theorem EF (x:Be):(D4 x).length=8:=rfl
theorem GP (x:Be):(D4 x).all (·.one)=true:=rfl
theorem AhF:ifI 78 (.agg #[(.string ⟨#[]⟩),(.slice none 0 0),(.int .i64 0)]) 3 48:=Ra (by kernel_rfl)
theorem Yg:ifI 124 (.agg #[(.string ⟨#[]⟩),(.string ⟨#[]⟩),(.string ⟨#[]⟩),(.bool false),(.int .i64 0),(.int .i64 0),(.int .i64 0),(.slice none 0 0)]) 8 104:=Ra (by kernel_rfl)
theorem AdA (parts:List (Nat×Value)):Tryz.prog.built 84 parts=Instr.fill (λi=>(#[(0,6),(6,1),(7,1),(8,1),(9,1),(10,1),(11,1),(12,1)]:Array (Nat×Nat))[i]?) #[(.string ⟨#[]⟩),(.string ⟨#[]⟩),((.slice none 0 0)),((.slice none 0 0)),((.slice none 0 0)),(.int .i64 0),((.slice none 0 0)),((.pointer none)),(.bool false),(.int .i64 0),((.slice none 0 0)),((.slice none 0 0)),((.slice none 0 0))] parts:=by kernel_rfl
theorem Aki (parts:List (Nat×Value)):Tryz.prog.built 90 parts=Instr.fill (λi=>(#[(0,1),(1,1),(2,1),(3,1)]:Array (Nat×Nat))[i]?) #[(.int .i64 0),(.string ⟨#[]⟩),((.slice none 0 0)),(.int .i64 0)] parts:=by kernel_rfl
theorem Aiv (parts:List (Nat×Value)):Tryz.prog.built 113 parts=Instr.fill (λi=>(#[(0,1),(1,1)]:Array (Nat×Nat))[i]?) #[(.bool false),((.slice none 0 0))] parts:=by kernel_rfl
theorem Ait (parts:List (Nat×Value)):Tryz.prog.built 124 parts=Instr.fill (λi=>(#[(0,1),(1,1),(2,1),(3,1),(4,1),(5,1),(6,1),(7,1)]:Array (Nat×Nat))[i]?) #[(.string ⟨#[]⟩),(.string ⟨#[]⟩),(.string ⟨#[]⟩),(.bool false),(.int .i64 0),(.int .i64 0),(.int .i64 0),((.slice none 0 0))] parts:=by kernel_rfl
theorem Aep (F:Nat)(s:Ac)(r:Bool)(h:T3 F s=some r):FN 60 [rS s] [] (PO (rB r)):=en Tryz.func60 Tryz.ntmps60 Aa λw Z=>AA Aa<|BD Aa<|wv Bo<|Cs Aa<|Au<|ob h λhk hl hi=>Bk (V:=Unit×Unit) 0 (λσ=>Cg (λσ=>IQ s σ) σ.1 σ.2.1=some hk) (λσ=>[(0,rS s),(5,AZ (s.length:Int)),(6,AZ σ.2.1)]) (λσ=>[]) (λσ=>σ.1) (F,0,()) hl (A7 Aa) sN (λσ=>IP s =some r) (λσ=>[(0,rS s)]) (λσ=>[]) (by rintro⟨h2,he,⟨⟩⟩ hm;refine EG ?_;obtain⟨hn,rfl,t37,hg,hh⟩:=Cq hm;have hg:IQ s he=some t37:=hg;exact Ay<|wv BI<|BU<|B2 hg (λhp hq=>Bt<|Au<|AA Aa<|AJ<|ck hq λhj hr=>Ar [(0,rS s),(5,AZ (s.length:Int)),(6,AZ he),(18,rB ((Bm ((C0 s he)<33))||(Bm (126<(C0 s he)))))] [] (B7 Aa<|wv (BH hj)<|wv BI<|ms Aa<|AF (Bm ((C0 s he)<33)) (λhb=>CB hb Aa<|wv (Aj hb)<|Az<|BR hb) λhb=>wo hb<|ms Aa<|wo hb<|ms Aa<|Bq hb (BH hj)<|Bq hb C9<|Ep Aa hb Aa<|Az<|BR hb)<|B2 hr (λhs ht=>B6 Aa<|B8<|Ao<|Bf<|have hu:=BE ht hh hi;B8<|cs hu▸CY Tryz.results60 ⟨Aa,Aa⟩) λhs hw=>B3<|CR<|A4<|ck hw λhx hy=>wv (Bh hx)<|Bg Aa<|have hz:=Bd hy hh;Ax (As (hn,he+1,()) ⟨hz,Apu _⟩ (A7 Aa) sN)) λhp h0=>Bs<|Ah<|have h1:=BG h0 hh hi;Ah (AN (As ((),()) h1 (A7 Aa) sN)))<|by rintro⟨⟨⟩,⟨⟩⟩ hf;refine Gw ?_;exact have hf:IP s =some r:=hf;by unfold IP at hf;exact AR<|Cy<|Ar [(2,rB ((Bm (1≤(s.length:Int)))&&(Bm ((s.length:Int)≤200))))] [] (B7 Aa<|wv Bo<|wv DK<|ms Aa<|AF (Bm (1≤(s.length:Int))) (λhd=>wo hd<|ms Aa<|Bq hd Bo<|Bq hd Iu<|Ej Aa hd Aa<|Bg Aa<|BR hd) λhd=>CB hd Aa<|wv (Am hd)<|Bg Aa<|BR hd)<|BO<|cs hf▸CY Tryz.results60 ⟨Aa,Aa⟩
theorem YY (F:Nat)(l:(List Ac))(s:Ac)(r:Int×Bool)(h:R6 F l s=some r):FN 62 [B4 1 (Bu eS l),rS s] [] (PO (DW [AZ r.1,rB r.2])):=en Tryz.func62 Tryz.ntmps62 Aa λw Z=>AA Aa<|BM Aa<|BU<|Au<|ob h λhj hk hl=>Bk (V:=Int×Unit) 0 (λσ=>Cg (λσ=>LH l s σ) σ.1 σ.2.1=some hj) (λσ=>[(0,B4 1 (Bu eS l)),(1,rS s),(6,AZ σ.2.1)]) (λσ=>[]) (λσ=>σ.1) (F,0,()) hk (A7 Aa) sN (λσ=>LG l s σ.1=some r) (λσ=>[(0,B4 1 (Bu eS l)),(1,rS s),(6,AZ σ.1)]) (λσ=>[]) (by rintro⟨h2,he,⟨⟩⟩ hm;refine EG ?_;obtain⟨hn,rfl,hp,hg,hi⟩:=Cq hm;have hg:LH l s he=some hp:=hg;exact AV<|ck hg λhq hr=>Ar [(0,B4 1 (Bu eS l)),(1,rS s),(6,AZ he),(18,rB ((Bm (he<(l.length:Int)))&&(Cr (Af l he) s)))] [] (B7 Aa<|wv AU<|wv BI<|ms Aa<|AF (Bm (he<(l.length:Int))) (λhd=>wo hd<|ms Aa<|wo hd<|ms Aa<|Bq hd (AX (BL hq hd))<|Bq hd AS<|wo hd<|ms Aa<|Bq hd (Ahd Aa Aa)<|Ej Aa hd Aa<|Az<|BR hd) λhd=>CB hd Aa<|wv (Am hd)<|Az<|BR hd)<|B2 hr (λhs ht=>BW<|Au<|B7 Aa<|ck ht λhu hw=>wv (Bh hu)<|Bg Aa<|Ca<|have hx:=Bd hw hi;Ax (As (hn,he+1,()) ⟨hx,Apu _⟩ (A7 Aa) sN)) λhs hy=>Bs<|Ah<|have hz:=BG hy hi hl;Ah (AN (As (he,()) hz (A7 Aa) sN)))<|by rintro⟨hf,⟨⟩⟩ hh;refine Gw ?_;exact have hh:LG l s hf=some r:=hh;AR<|Cy<|ck hh λh0 h1=>Ar [(4,AZ hf),(5,rB ((Bm (hf<(l.length:Int)))&&(Bm ((Af l hf)=s))))] [] (AF (Bm (hf<(l.length:Int))) (λhb=>by refine Dn [0,1,6] ?_;refine rq AD<|rq AD<|rq AD<|rq AU<|rq BI<|rq AD<|rg hb (AE Aa)<|rg hb (AE Aa)<|rg hb (CJ (enc:=eS) (ys:=l) Dm Ew Aa Aa (BL h0 hb))<|rg hb (BZ IK Aa Aa)<|rg hb (AE Aa)<|rg hb (Ahe Aa Aa)<|rq (Aj hb)<|rq AT<|rq AT<|re [4,5] ?_;exact BR hb) λhb=>by refine Dn [0,1,6] ?_;refine rq AD<|rq AD<|rq AD<|rq AU<|rq BI<|rq AD<|rz hb<|rz hb<|rz hb<|rz hb<|rz hb<|rz hb<|rq (Am hb)<|rq AT<|rq AT<|re [4,5] ?_;exact BR hb)<|BO<|cs h1▸VH Tryz.results62 ⟨Aa,Aa⟩
abbrev MJ (x0:Value)(x1:List Be):Ent:=.row x0 124 8 (Bu D4 x1)
abbrev Df (x0:Nat)(x1:Bool)(x2:Value)(x3:List Be):List Ent:=[.blk x0 [rB x1,rv x2] 113,MJ x2 x3]
theorem Agp (r:AP)(h:AiQ=some r):FN 20 [] [] (λR H=>∃u0:Nat,∃u0_1:Value,R=rP u0 0∧H=(Df u0 r.fMade u0_1 r.fSecrets)):=en Tryz.func20 Tryz.ntmps20 Aa λw Z=>by unfold AiQ at h;exact AA Aa<|Dc<|wv (CD Aiv Aa (Eo Aa cN) Aa)<|Cb Aa Aa λb1=>by refine By Aa<|WK.nilrow (e:=124) (sz:=8)<|JL [1] ?_;exact cs h▸Ap (Ct Tryz.results20 AW) (sK 3) ⟨b1,(.slice none 0 0                                                                                                                            ),Aa,Aa⟩
theorem Xw (F he:Nat)(hf:Value)(v:AP)(name:Ac)(r:Int×Bool)(h:Wr F v name=some r):FN 61 [rP he 0,rS name] (Df he v.fMade hf v.fSecrets) (λR H=>R=DW [AZ r.1,rB r.2]∧H=(Df he v.fMade hf v.fSecrets)):=en Tryz.func61 Tryz.ntmps61 Aa λw Z=>AA Aa<|BM Aa<|BU<|Au<|ob h λhn hp hq=>Bk (V:=Int×Unit) 0 (λσ=>Cg (λσ=>N6 v name σ) σ.1 σ.2.1=some hn) (λσ=>[(0,rP he 0),(1,rS name),(6,AZ σ.2.1)]) (λσ=>(Df he v.fMade hf v.fSecrets)) (λσ=>σ.1) (F,0,()) hp (A7 Aa) (sC (sC sN)) (λσ=>N5 v name σ.1=some r) (λσ=>[(0,rP he 0),(1,rS name),(6,AZ σ.1)]) (λσ=>(Df he v.fMade hf v.fSecrets)) (by rintro⟨h4,hh,⟨⟩⟩ hr;refine EG ?_;obtain⟨hs,rfl,ht,hi,hm⟩:=Cq hr;have hi:N6 v name hh=some ht:=hi;exact AV<|ck hi λhj hu=>Ar [(0,rP he 0),(1,rS name),(6,AZ hh),(25,rB ((Bm (hh<(v.fSecrets.length:Int)))&&(Cr (Af v.fSecrets hh).fName name)))] (Df he v.fMade hf v.fSecrets) (B7 Aa<|wv Aw<|wv An<|wv (Ae 0)<|wv (CS 1 GX Aa Aa)<|wv BI<|ms Aa<|AF (Bm (hh<(v.fSecrets.length:Int))) (λhd=>wo hd<|ms Aa<|Bq hd Aw<|Bq hd An<|Bq hd (Ae 0)<|wo hd<|ms Aa<|Bq hd (Dj 1 GX KA Aa Aa Aa (Bz (BL hj hd)))<|Bq hd (DI (k:=1) MY Aa Ew Aa (Bz (BL hj hd)) Aa Aa Aa)<|Bq hd (DU 1 IK Aa Aa (BL hj hd) Aa)<|wo hd<|ms Aa<|Bq hd (Ahd Aa Aa)<|Ej Aa hd Aa<|Az<|BR hd) λhd=>CB hd Aa<|wv (Am hd)<|Az<|BR hd)<|B2 hu (λhw hx=>BW<|Au<|B7 Aa<|ck hx λhy hz=>wv (Bh hy)<|Bg Aa<|Ca<|have h0:=Bd hz hm;Ax (As (hs,hh+1,()) ⟨h0,Apu _⟩ (A7 Aa) (sC (sC sN)))) λhw h1=>Bs<|Ah<|have h2:=BG h1 hm hq;Ah (AN (As (hh,()) h2 (A7 Aa) (sC (sC sN)))))<|by rintro⟨hg,⟨⟩⟩ hk;refine Gw ?_;exact have hk:N5 v name hg=some r:=hk;AR<|Cy<|ck hk λhl h3=>Ar [(4,AZ hg),(5,rB ((Bm (hg<(v.fSecrets.length:Int)))&&(Bm ((Af v.fSecrets hg).fName=name))))] (Df he v.fMade hf v.fSecrets) (AF (Bm (hg<(v.fSecrets.length:Int))) (λhb=>by refine Dn [0,1,6] ?_;refine rq AD<|rq AD<|rq AD<|rq Aw<|rq An<|rq (Ae 0)<|rq (CS 1 GX Aa Aa)<|rq BI<|rq AD<|rg hb (AE Aa)<|rg hb (BK Aa)<|rg hb (Aq Tryz.underlying113 Aa Acw Aa Aa)<|rg hb (AY 0 Tryz.isAgg111 Aa Aa Aa)<|rg hb (AE Aa)<|rg hb (r:=rv (Nr 8 hf (D3 hg) 0)) (Dj 1 GX KA Aa Aa Aa (Bz (BL hl hb)))<|rg hb (r:=rv (Nr 8 hf (D3 hg) 0)) (DI (k:=1) MY Aa Ew Aa (Bz (BL hl hb)) Aa Aa Aa)<|rg hb (r:=rS (Af v.fSecrets hg).fName) (DU 1 IK Aa Aa (BL hl hb) Aa)<|rg hb (AE Aa)<|rg hb (Ahe Aa Aa)<|rq (Aj hb)<|rq AT<|rq AT<|re [4,5] ?_;exact BR hb) λhb=>by refine Dn [0,1,6] ?_;refine rq AD<|rq AD<|rq AD<|rq Aw<|rq An<|rq (Ae 0)<|rq (CS 1 GX Aa Aa)<|rq BI<|rq AD<|rz hb<|rz hb<|rz hb<|rz hb<|rz hb<|rz hb<|rz hb<|rz hb<|rz hb<|rz hb<|rq (Am hb)<|rq AT<|rq AT<|re [4,5] ?_;exact BR hb)<|BO<|cs h3▸Ap (LA Tryz.results61 AW AW) (sK 3) ⟨Aa,Aa⟩
theorem Agn (F hd:Nat)(hb:Value)(v:AP)(name text:Ac)(r:Int×AP)(h:Ael F v name text=some r):FN 22 [rP hd 0,rS name,rS text] (Df hd v.fMade hb v.fSecrets) (λR H=>∃w0_1:Value,R=AZ r.1∧H=(Df hd r.2.fMade w0_1 r.2.fSecrets)):=en Tryz.func22 Tryz.ntmps22 Aa λw Z=>by unfold Ael at h;exact AA Aa<|BU<|Ar [(0,rP hd 0),(1,rS name),(2,rS text),(18,rB (!v.fMade))] (Df hd v.fMade hb v.fSecrets) (B7 Aa<|wv (Hk ⟨_,AdN⟩ Aa)<|ms Aa<|Iw Aa<|ms Aa<|Iw Aa<|wv Aw<|Iw Aa<|wv An<|Iw Aa<|wv (Ae 0)<|Iw Aa<|wv BQ<|wv (Am Aa)<|Az<|wt)<|B2 h (λc1 h2=>Bw Aa<|cs h2▸Ap (Ct Aeb AW) (sK 3) ⟨hb,Aa,Aa⟩) λc1 h3=>Bt<|AA Aa<|ck h3 λg4 h5=>CC AfU Aa (QR name g4) Aa Aa<|wv BQ<|AJ<|B2 h5 (λc6 h7=>Bw Aa<|cs h7▸Ap (Ct Aeb AW) (sK 3) ⟨hb,Aa,Aa⟩) λc6 h8=>Bt<|AA Aa<|ob h8 λr9 hf hg=>BV Tryz.call60 (Aep F text r9 hf)<|wv BQ<|AJ<|B2 hg (λhh hi=>Bw Aa<|cs hi▸Ap (Ct Aeb AW) (sK 3) ⟨hb,Aa,Aa⟩) λhh hj=>by refine BW<|AA Aa<|ob hj λhk hl hm=>EX [0,0] Tryz.call61 (Xw F hd hb v name hk hl) ?_;rintro _ _ ⟨rfl,rfl⟩;exact ms Aa<|wv Al<|wv Al<|ms Aa<|BD Aa<|AJ<|B2 hm (λhn hp=>Bw Aa<|cs hp▸Ap (Ct Aeb AW) (sK 3) ⟨hb,Aa,Aa⟩) λhn hq=>Bt<|AA Aa<|wv Aw<|wv An<|wv (Ae 0)<|wv (CS 1 GX Aa Aa)<|wv Bx<|AJ<|B2 hq (λc21 hr=>Bw Aa<|cs hr▸Ap (Ct Aeb AW) (sK 3) ⟨hb,Aa,Aa⟩) λc21 hs=>BW<|AA Aa<|BM Aa<|wv Aw<|wv An<|wv (Ae 0)<|ms Aa<|WL.freeze (i:=1) Aa<|WL.up (d:=42) Aa (Up.fact 0 Aa)<|ck hs λhe ht=>wv (PZ GX KA Aa Aa he)<|WL.nilrow (e:=124) (sz:=8)<|ck ht λhu hw=>IM 0 GX Yg Aa Aa (K8.z Aa Aa) EF GP hu λh4=>ms Aa<|BM Aa<|wv (CD Ait Aa (Eo Aa (Eo Aa (Eo Aa cN))) Aa)<|DP ([(Be.mk name text ([]:Ac) false 0 0 1 ([]:List Ac))]:List Be) D4 GX KA Tryz.zeroValue124 Aa ⟨Cel.agg ⟨Up.refl _,Up.refl _,Up.refl _,Up.refl _,Up.refl _,Up.refl _,Up.refl _,Up.le (Hx.nil _),trivial⟩,trivial⟩ EF λh6=>by exact ck hw λhx hy=>IM 1 GX Yg Aa Aa (K8.w 0 Aa Aa) EF GP hx λh9=>ms Aa<|BM Aa<|wv Aw<|wv An<|wv (Ae 3)<|ms Aa<|WL.up (d:=56) Aa (Up.fact 2 Aa)<|wv (KK GX KA Aa Aa he)<|ck hy λhz h0=>IM 0 GX Yg Aa Aa (K8.z Aa Aa) EF GP hz λh1=>by refine ms Aa<|BM Aa<|wv Aw<|wv An<|us 3 Acw Aa Aa (DA 0 Aa) Aa Aa ?_;refine Dc<|By Aa<|JL [3] ?_;exact cs h0▸Ap (Ct Aeb AW) (sK 3) ⟨h1,Aa,Aa⟩
theorem Ac7 (F hd:Nat)(hb:Value)(v:AP)(name function:Ac)(r:Int×AP)(h:Wu F v name function=some r):FN 24 [rP hd 0,rS name,rS function] (Df hd v.fMade hb v.fSecrets) (λR H=>∃w0_1:Value,R=AZ r.1∧H=(Df hd r.2.fMade w0_1 r.2.fSecrets)):=en Tryz.func24 Tryz.ntmps24 Aa λw Z=>by unfold Wu at h;exact AA Aa<|BU<|Ar [(0,rP hd 0),(1,rS name),(2,rS function),(19,rB (!v.fMade))] (Df hd v.fMade hb v.fSecrets) (B7 Aa<|wv (Hk ⟨_,AdN⟩ Aa)<|ms Aa<|Iw Aa<|ms Aa<|Iw Aa<|wv Aw<|Iw Aa<|wv An<|Iw Aa<|wv (Ae 0)<|Iw Aa<|wv BQ<|wv (Am Aa)<|Az<|wt)<|B2 h (λc1 h2=>Bw Aa<|cs h2▸Ap (Ct Aea AW) (sK 3) ⟨hb,Aa,Aa⟩) λc1 h3=>by refine BW<|AA Aa<|ob h3 λr4 e6 h5=>EX [0,0] Tryz.call61 (Xw F hd hb v name r4 e6) ?_;rintro _ _ ⟨rfl,rfl⟩;exact ms Aa<|wv Al<|wv Al<|ms Aa<|BD Aa<|wv BQ<|AJ<|B2 h5 (λc7 h8=>Bw Aa<|cs h8▸Ap (Ct Aea AW) (sK 3) ⟨hb,Aa,Aa⟩) λc7 h9=>Bt<|AA Aa<|ck h9 λhg hh=>CC AfU Aa (QR function hg) Aa Aa<|wv BQ<|AJ<|B2 hh (λhi hj=>Bw Aa<|cs hj▸Ap (Ct Aea AW) (sK 3) ⟨hb,Aa,Aa⟩) λhi hk=>BW<|AA Aa<|wv Aw<|wv An<|wv (Ae 0)<|ms Aa<|ck hk λg15 hl=>wv (Dj 1 GX KA Aa Aa Aa (Bz g15))<|wv (DI (k:=1) MY Aa Ge Aa (Bz g15) Aa Aa Aa)<|wv (DU 1 Ka Aa Aa g15 Aa)<|ms Aa<|ob hl λhe hm hn=>BV Tryz.call62 (YY F (Af v.fSecrets r4.1).fBound function he hm)<|ms Aa<|wv Al<|wv Al<|ms Aa<|BD Aa<|AJ<|by exact B2 hn (λc20 hp=>Bw Aa<|cs hp▸Ap (Ct Aea AW) (sK 3) ⟨hb,Aa,Aa⟩) λc20 hq=>Bt<|AA Aa<|wv Aw<|wv An<|wv (Ae 0)<|ms Aa<|wv (Dj 1 GX KA Aa Aa Aa (Bz g15))<|wv (DI (k:=1) MY Aa Ge Aa (Bz g15) Aa Aa Aa)<|wv (DU 1 Ka Aa Aa g15 Aa)<|wv AU<|wv Bx<|AJ<|B2 hq (λhr hs=>Bw Aa<|cs hs▸Ap (Ct Aea AW) (sK 3) ⟨hb,Aa,Aa⟩) λhr ht=>BW<|AA Aa<|BM Aa<|wv Aw<|wv An<|wv (Ae 0)<|ms Aa<|wv (Dj 1 GX KA Aa Aa Aa (Bz g15))<|wv (DI (k:=1) MY Aa Ge Aa (Bz g15) Aa Aa Aa)<|wv (DU 1 Ka Aa Aa g15 Aa)<|ms Aa<|ck ht λhf hu=>wv (PZ Dm Ew Aa Aa hf)<|WL.nilrow (e:=9) (sz:=1)<|ck hu λhw hx=>IM 0 Dm Ir Aa Aa (K8.z Aa Aa) CK G3 hw λhB=>ms Aa<|BM Aa<|DP ([function]:List Ac) eS Dm Ew SE Aa ⟨cO Aa,trivial⟩ CK λhy=>ck hx λhz h0=>IM 1 Dm Ir Aa Aa (K8.w 0 Aa Aa) CK G3 hz λhC=>ms Aa<|BM Aa<|wv Aw<|wv An<|wv (Ae 2)<|ms Aa<|wv (Dj 3 GX KA Aa Aa Aa (Bz g15))<|wv (DI (k:=3) MY Aa Ge Aa (Bz g15) Aa Aa Aa)<|wv (DU 3 Ka Aa Aa g15 Aa)<|ms Aa<|wv (KK Dm Ew Aa Aa hf)<|ck h0 λh1 h4=>IM 0 Dm Ir Aa Aa (K8.z Aa Aa) CK G3 h1 λh6=>by exact ms Aa<|BM Aa<|wv Aw<|wv An<|wv (Ae 2)<|ms Aa<|wv (Dj 3 GX KA Aa Aa Aa (Bz g15))<|wv (DI (k:=3) MY Aa Ge Aa (Bz g15) Aa Aa Aa)<|WL.freeze (i:=0) Aa<|WL.up (d:=88) Aa (Up.fact 0 Aa)<|N8 (enc:=D4) (ys:=v.fSecrets) (y':=(Be.mk (Af v.fSecrets r4.1).fName (Af v.fSecrets r4.1).fText (Af v.fSecrets r4.1).fPrevious (Af v.fSecrets r4.1).fRotated (Af v.fSecrets r4.1).fUntil (Af v.fSecrets r4.1).fSince (Af v.fSecrets r4.1).fVersion (((([]:List Ac)++(List.take (D3 he.1) (Af v.fSecrets r4.1).fBound))++([function]:List Ac))++(List.drop (D3 he.1) (Af v.fSecrets r4.1).fBound)))) (i:=3) (j:=r4.1) Ge Aa Aa (Cl Aa) Aa g15 Aa Aa (H':=[.fact h6 (B4 1 (Bu eS (((([]:List Ac)++(List.take (D3 he.1) (Af v.fSecrets r4.1).fBound))++([function]:List Ac))++(List.drop (D3 he.1) (Af v.fSecrets r4.1).fBound)))),.row (.slice (some ⟨hy,0,none⟩) 1 1) 9 1 (Bu eS ([function]:List Ac)),.blk hd [rB v.fMade,rv hb] 113,.row hb 124 8 (Bu D4 (List.set v.fSecrets (D3 r4.1) (Be.mk (Af v.fSecrets r4.1).fName (Af v.fSecrets r4.1).fText (Af v.fSecrets r4.1).fPrevious (Af v.fSecrets r4.1).fRotated (Af v.fSecrets r4.1).fUntil (Af v.fSecrets r4.1).fSince (Af v.fSecrets r4.1).fVersion (((([]:List Ac)++(List.take (D3 he.1) (Af v.fSecrets r4.1).fBound))++([function]:List Ac))++(List.drop (D3 he.1) (Af v.fSecrets r4.1).fBound)))))]) Aa<|bd h4 λhD h7 hA=>by rw[← h7];exact Dc<|By Aa<|cs hA▸Ap (Ct Aea AW) (sK 12) ⟨hb,Aa,Aa⟩
theorem Abe (name function:Ac)(r:Ac×Int×Int)(h:Q3 name function=some r):FN 93 [rv (.pointer none),rS name,rS function] [] (PO (DW [rS r.1,AZ r.2.1,AZ r.2.2])):=en Tryz.func93 Tryz.ntmps93 Aa λw Z=>by unfold Q3 at h;exact Ay<|wv (r:=rS ([]:Ac)) AT<|ms Aa<|BU<|Ar [(0,rv (.pointer none)),(1,rS name),(2,rS function),(19,rB true)] [] (B7 Aa<|wv (LU ⟨_,AdN⟩ Aa)<|ms Aa<|Dx Aa<|wv (Aj Aa)<|Az<|wt)<|CG Aa Aa<|Ay<|wv (r:=rS ([]:Ac)) AT<|By Aa<|Ao<|cs h▸Ap (VK AfP AW AW AW) sN ⟨Aa,Aa⟩
theorem AiP (F hd:Nat)(he:Value)(v:AP)(name function:Ac)(r:Ac×Int×Int)(h:Wo F v name function=some r):FN 93 [rP hd 0,rS name,rS function] (Df hd v.fMade he v.fSecrets) (λR H=>R=DW [rS r.1,AZ r.2.1,AZ r.2.2]∧H=(Df hd v.fMade he v.fSecrets)):=en Tryz.func93 Tryz.ntmps93 Aa λw Z=>by unfold Wo at h;exact Ay<|wv (r:=rS ([]:Ac)) AT<|ms Aa<|BU<|Ar [(0,rP hd 0),(1,rS name),(2,rS function),(19,rB (!v.fMade))] (Df hd v.fMade he v.fSecrets) (B7 Aa<|wv (Hk ⟨_,AdN⟩ Aa)<|ms Aa<|Iw Aa<|ms Aa<|Iw Aa<|wv Aw<|Iw Aa<|wv An<|Iw Aa<|wv (Ae 0)<|Iw Aa<|wv BQ<|wv (Am Aa)<|Az<|wt)<|B2 h (λc1 h2=>Ay<|wv (r:=rS ([]:Ac)) AT<|By Aa<|Ao<|cs h2▸Ap (VK AfP AW AW AW) (sK 3) ⟨Aa,Aa⟩) λc1 h3=>by refine BW<|AA Aa<|ob h3 λr4 e6 h5=>EX [0,0] Tryz.call61 (Xw F hd he v name r4 e6) ?_;rintro _ _ ⟨rfl,rfl⟩;exact ms Aa<|wv Al<|wv Al<|ms Aa<|BD Aa<|wv BQ<|AJ<|B2 h5 (λc7 h8=>Ay<|wv (r:=rS ([]:Ac)) AT<|By Aa<|Ao<|cs h8▸Ap (VK AfP AW AW AW) (sK 3) ⟨Aa,Aa⟩) λc7 h9=>BW<|AA Aa<|wv Aw<|wv An<|wv (Ae 0)<|ms Aa<|ck h9 λhb hf=>wv (Dj 1 GX KA Aa Aa Aa (Bz hb))<|wv (DI (k:=1) MY Aa Ge Aa (Bz hb) Aa Aa Aa)<|wv (DU 1 Ka Aa Aa hb Aa)<|ms Aa<|ob hf λhg hh hi=>BV Tryz.call62 (YY F (Af v.fSecrets r4.1).fBound function hg hh)<|ms Aa<|wv Al<|wv Al<|ms Aa<|BD Aa<|wv BQ<|AJ<|B2 hi (λhj hk=>Ay<|wv (r:=rS ([]:Ac)) AT<|By Aa<|Ao<|by exact cs hk▸Ap (VK AfP AW AW AW) (sK 3) ⟨Aa,Aa⟩) λhj hl=>by refine Bt<|Dn [0,9] ?_;refine rq AD<|rq Aw<|rq An<|rq (Ae 0)<|rq AD<|rq (Dj 1 GX KA Aa Aa Aa (Bz hb))<|rq (DI (k:=1) MY Aa Ew Aa (Bz hb) Aa Aa Aa)<|rq (DU 1 IK Aa Aa hb Aa)<|rq AD<|rq Aw<|rq An<|rq (Ae 0)<|rq AD<|rq (Dj 1 GX KA Aa Aa Aa (Bz hb))<|rq (DI (k:=1) MY Aa K9 Aa (Bz hb) Aa Aa Aa)<|rq (DU 1 Qy Aa Aa hb Aa)<|rq AT<|rq AT<|rq (r:=AZ 0) AT<|re [6,7,8] ?_;exact Cy<|BO<|cs hl▸Ap (VK AfP AW AW AW) (sK 3) ⟨Aa,Aa⟩
theorem Abf (F hj:Nat)(hl:Value)(v:AP)(s:Ac)(k r:Int)(h:Q7 F v s k=some r):FN 91 [rP hj 0,rS s,AZ k] (Df hj v.fMade hl v.fSecrets) (λR H=>R=AZ r∧H=(Df hj v.fMade hl v.fSecrets)):=en Tryz.func91 Tryz.ntmps91 Aa λw Z=>AA Aa<|BM Aa<|BD Aa<|wv Aw<|wv An<|wv (Ae 0)<|wv (CS 1 GX Aa Aa)<|Cs Aa<|Au<|ob h λhu hw hx=>Bk (V:=Int×Unit) 0 (λσ=>Cg (λσ=>EL v s k σ.1 σ.2) σ.1 σ.2.1=some hu) (λσ=>[(0,rP hj 0),(1,rS s),(2,AZ k),(7,AZ σ.2.1.1),(15,AZ (v.fSecrets.length:Int)),(16,AZ σ.2.1.2)]) (λσ=>(Df hj v.fMade hl v.fSecrets)) (λσ=>σ.1) (F,(0,0),()) hw (A7 Aa) (sC (sC sN)) (λσ=>Ld σ.1=some r) (λσ=>[(7,AZ σ.1)]) (λσ=>(Df hj v.fMade hl v.fSecrets)) (by rintro⟨gj,⟨hk,hb⟩,⟨⟩⟩ hy;refine EG ?_;obtain⟨hz,rfl,hp,hq,hs⟩:=Cq hy;have hq:EL v s k hk hb=some hp:=hq;exact Ay<|wv BI<|BU<|B2 hq (λh0 h1=>BW<|EY (S:=Int×Unit) (λσ=>Gs hb σ.1=some hp) (λσ=>[(0,rP hj 0),(1,rS s),(2,AZ k),(7,AZ σ.1),(15,AZ (v.fSecrets.length:Int)),(16,AZ hb)]) (λσ=>(Df hj v.fMade hl v.fSecrets)) (by refine Au<|AA Aa<|BU<|ck h1 λhm h2=>Dn [0,1,2,7,8,15,16] ?_;refine rq AD<|rq Aw<|rq An<|rq (Ae 0)<|rq AD<|rq (Dj 1 GX KA Aa Aa Aa (Bz hm))<|rq (DI (k:=1) MY Aa Ew Aa (Bz hm) Aa Aa Aa)<|rq (DU 1 IK Aa Aa hm Aa)<|rq AD<|rq Aw<|rq An<|rq (Ae 0)<|rq AD<|rq (Dj 1 GX KA Aa Aa Aa (Bz hm))<|rq (DI (k:=1) MY Aa Ew Aa (Bz hm) Aa Aa Aa)<|rq (DU 1 IK Aa Aa hm Aa)<|rq AT<|rq AT<|re [9,10,0,1,2,7,15,16] ?_;exact Cy<|AV<|ck h2 λh3 h4=>ck h4 λh5 h6=>ck h6 λh7 h8=>ck h8 λh9 hA=>Ar [(0,rP hj 0),(1,rS s),(2,AZ k),(7,AZ hk),(9,rS (Af v.fSecrets hb).fText),(10,rS (Af v.fSecrets hb).fPrevious),(15,AZ (v.fSecrets.length:Int)),(16,AZ hb),(58,rB ((Bm (hk<((Af v.fSecrets hb).fText.length:Int)))&&((Bm (((Af v.fSecrets hb).fText.length:Int)≤((s.length:Int)-k)))&&(Bm ((List.take (D3 (k+((Af v.fSecrets hb).fText.length:Int))-D3 k) (List.drop (D3 k) s))=(Af v.fSecrets hb).fText)))))] (Df hj v.fMade hl v.fSecrets) (B7 Aa<|wv Bo<|ms Aa<|wv C9<|ms Aa<|AF (Bm (hk<((Af v.fSecrets hb).fText.length:Int))) (λhd=>wo hd<|ms Aa<|Bq hd Bo<|wo hd<|ms Aa<|Bq hd Bo<|wo hd<|ms Aa<|Bq hd (DV (BL h3 hd))<|Bq hd Iu<|Ej Aa hd Aa<|ms Aa<|AF (Bm (((Af v.fSecrets hb).fText.length:Int)≤((s.length:Int)-k))) (λhe=>wo he<|ms Aa<|wo he<|ms Aa<|wo he<|ms Aa<|wo he<|ms Aa<|Bq he Bo<|Bq he (Bh (BL (BL h5 hd) he))<|Bq he (HY Lb Aa Aa Aa (BL (BL h7 hd) he) (BL (BL h9 hd) he))<|wo he<|ms Aa<|Bq he BA<|Ej Aa he Aa<|Az<|by exact BR (Db hd he)) λhe=>CB he Aa<|wv (Am he)<|Az<|BR (Db hd he)) λhd=>CB hd Aa<|wv (Am hd)<|ms Aa<|Dx Aa<|wv (Am Aa)<|Az<|BR hd)<|B2 hA (λhB hC=>B7 Aa<|wv Bo<|Cs Aa<|ck hC λhD hE=>ck hE λhG hH=>ck hH λhI hJ=>ck hJ λhK hL=>Ar [(0,rP hj 0),(1,rS s),(2,AZ k),(7,AZ ((Af v.fSecrets hb).fText.length:Int)),(10,rS (Af v.fSecrets hb).fPrevious),(15,AZ (v.fSecrets.length:Int)),(16,AZ hb),(84,rB ((Bm (((Af v.fSecrets hb).fText.length:Int)<((Af v.fSecrets hb).fPrevious.length:Int)))&&((Bm (((Af v.fSecrets hb).fPrevious.length:Int)≤((s.length:Int)-k)))&&(Bm ((List.take (D3 (k+((Af v.fSecrets hb).fPrevious.length:Int))-D3 k) (List.drop (D3 k) s))=(Af v.fSecrets hb).fPrevious)))))] (Df hj v.fMade hl v.fSecrets) (B7 Aa<|wv Bo<|ms Aa<|wv C9<|ms Aa<|AF (Bm (((Af v.fSecrets hb).fText.length:Int)<((Af v.fSecrets hb).fPrevious.length:Int))) (λhf=>wo hf<|ms Aa<|Bq hf Bo<|wo hf<|ms Aa<|Bq hf Bo<|wo hf<|ms Aa<|Bq hf (DV (BL hD hf))<|Bq hf Iu<|Ej Aa hf Aa<|ms Aa<|AF (Bm (((Af v.fSecrets hb).fPrevious.length:Int)≤((s.length:Int)-k))) (λhg=>wo hg<|ms Aa<|wo hg<|ms Aa<|wo hg<|ms Aa<|wo hg<|ms Aa<|Bq hg Bo<|Bq hg (Bh (BL (BL hG hf) hg))<|Bq hg (HY Lb Aa Aa Aa (BL (BL hI hf) hg) (BL (BL hK hf) hg))<|wo hg<|ms Aa<|Bq hg BA<|Ej Aa hg Aa<|Az<|by exact BR (Db hf hg)) λhg=>CB hg Aa<|wv (Am hg)<|Az<|by exact BR (Db hf hg)) λhf=>CB hf Aa<|wv (Am hf)<|ms Aa<|Dx Aa<|wv (Am Aa)<|Az<|BR hf)<|B2 hL (λhN hO=>B7 Aa<|wv Bo<|Bg Aa<|Ca<|Ax (As (((Af v.fSecrets hb).fPrevious.length:Int),()) hO (A7 Aa) (sC (sC sN)))) λhN hP=>B3<|Ca<|Ax (As (((Af v.fSecrets hb).fText.length:Int),()) hP (A7 Aa) (sC (sC sN)))) λhB hQ=>BW<|ck hQ λhR hS=>ck hS λhT hU=>ck hU λhV hW=>ck hW λhX hY=>Ar [(0,rP hj 0),(1,rS s),(2,AZ k),(7,AZ hk),(10,rS (Af v.fSecrets hb).fPrevious),(15,AZ (v.fSecrets.length:Int)),(16,AZ hb),(84,rB ((Bm (hk<((Af v.fSecrets hb).fPrevious.length:Int)))&&((Bm (((Af v.fSecrets hb).fPrevious.length:Int)≤((s.length:Int)-k)))&&(Bm ((List.take (D3 (k+((Af v.fSecrets hb).fPrevious.length:Int))-D3 k) (List.drop (D3 k) s))=(Af v.fSecrets hb).fPrevious)))))] (Df hj v.fMade hl v.fSecrets) (B7 Aa<|wv Bo<|ms Aa<|wv C9<|ms Aa<|AF (Bm (hk<((Af v.fSecrets hb).fPrevious.length:Int))) (λhh=>wo hh<|ms Aa<|Bq hh Bo<|wo hh<|ms Aa<|Bq hh Bo<|wo hh<|ms Aa<|Bq hh (DV (BL hR hh))<|Bq hh Iu<|Ej Aa hh Aa<|ms Aa<|AF (Bm (((Af v.fSecrets hb).fPrevious.length:Int)≤((s.length:Int)-k))) (λhi=>wo hi<|ms Aa<|wo hi<|ms Aa<|wo hi<|ms Aa<|wo hi<|ms Aa<|Bq hi Bo<|Bq hi (Bh (BL (BL hT hh) hi))<|Bq hi (HY Lb Aa Aa Aa (BL (BL hV hh) hi) (BL (BL hX hh) hi))<|wo hi<|ms Aa<|Bq hi BA<|Ej Aa hi Aa<|Az<|by exact BR (Db hh hi)) λhi=>CB hi Aa<|wv (Am hi)<|Az<|by exact BR (Db hh hi)) λhh=>CB hh Aa<|wv (Am hh)<|ms Aa<|Dx Aa<|wv (Am Aa)<|Az<|BR hh)<|B2 hY (λhZ ga=>B7 Aa<|wv Bo<|Bg Aa<|Ca<|Ax (As (((Af v.fSecrets hb).fPrevious.length:Int),()) ga (A7 Aa) (sC (sC sN)))) λhZ gb=>B3<|Ca<|Ax (As (hk,()) gb (A7 Aa) (sC (sC sN))))<|by rintro⟨ht,⟨⟩⟩ hr;refine EG ?_;exact have hr:Gs hb ht=some hp:=hr;A4<|ck hr λgc gd=>wv (Bh gc)<|Bg Aa<|have gf:=Bd gd hs;Ax (As (hz,(ht,hb+1),()) ⟨gf,Apu _⟩ (A7 Aa) (sC (sC sN)))) λh0 gg=>Bs<|Ah<|have gh:=BG gg hs hx;Ah (AN (As (hk,()) gh (A7 Aa) (sC (sC sN)))))<|by rintro⟨gi,⟨⟩⟩ hn;refine Gw ?_;exact have hn:Ld gi=some r:=hn;by unfold Ld at hn;exact AR<|Cy<|B6 Aa<|cs hn▸Ap (Ct Tryz.results91 AW) (sK 3) ⟨Aa,Aa⟩
theorem Xu (s r:Ac)(h:M0 s=some r):FN 49 [rv (.pointer none),rS s] [] (PO (rS r)):=en Tryz.func49 Tryz.ntmps49 Aa λw Z=>by unfold M0 at h;exact Ay<|wv (r:=rS ([]:Ac)) AT<|BU<|Ar [(0,rv (.pointer none)),(1,rS s),(16,rB true)] [] (B7 Aa<|wv (LU ⟨_,AdN⟩ Aa)<|ms Aa<|Dx Aa<|wv (Aj Aa)<|Az<|wt)<|CG Aa Aa<|Bw Aa<|cs h▸CY Tryz.results49 ⟨Aa,Aa⟩
theorem Wn (F hb:Nat)(he:Value)(v:AP)(s r:Ac)(h:Ou F v s=some r):FN 49 [rP hb 0,rS s] (Df hb v.fMade he v.fSecrets) (λR H=>R=rS r∧H=(Df hb v.fMade he v.fSecrets)):=en Tryz.func49 Tryz.ntmps49 Aa λw Z=>by unfold Ou at h;exact Ay<|wv (r:=rS ([]:Ac)) AT<|BU<|Ar [(0,rP hb 0),(1,rS s),(16,rB (!v.fMade))] (Df hb v.fMade he v.fSecrets) (B7 Aa<|wv (Hk ⟨_,AdN⟩ Aa)<|ms Aa<|Iw Aa<|ms Aa<|Iw Aa<|wv Aw<|Iw Aa<|wv An<|Iw Aa<|wv (Ae 0)<|Iw Aa<|wv BQ<|wv (Am Aa)<|Az<|wt)<|B2 h (λc1 h2=>Bw Aa<|cs h2▸Ap (Ct Tryz.results49 AW) (sK 3) ⟨Aa,Aa⟩) λc1 h3=>BW<|Ay<|wv (r:=rS ([]:Ac)) AT<|BM Aa<|BU<|Au<|ob h3 λhm hn hp=>Bk (V:=Ac×Unit) 0 (λσ=>Cg (λσ=>Er F v s σ.1 σ.2) σ.1 σ.2.1=some hm) (λσ=>[(0,rP hb 0),(1,rS s),(5,rS σ.2.1.1),(6,AZ σ.2.1.2)]) (λσ=>(Df hb v.fMade he v.fSecrets)) (λσ=>σ.1) (F,(([]:Ac),0),()) hn (A7 Aa) (sC (sC sN)) (λσ=>Mz σ.1=some r) (λσ=>[(5,rS σ.1)]) (λσ=>(Df hb v.fMade he v.fSecrets)) (by rintro⟨hI,⟨hf,hd⟩,⟨⟩⟩ hq;refine EG ?_;obtain⟨hj,rfl,t173,hh,hi⟩:=Cq hq;have hh:Er F v s hf hd=some t173:=hh;exact AV<|AA Aa<|wv Bo<|wv BI<|AJ<|B2 hh (λhr hs=>by refine BW<|Au<|AA Aa<|ob hs λhk ht hu=>EX [0,0] Tryz.call91 (Abf F hb he v s hd hk ht) ?_;rintro _ _ ⟨rfl,rfl⟩;exact ms Aa<|BM Aa<|wv C9<|AJ<|B2 hu (λhw hx=>AA Aa<|ck hx λhy hz=>wv (Dz hy)<|Cs Aa<|B7 Aa<|ck hz λh0 h1=>wv (Bh h0)<|Bg Aa<|Ca<|have h4:=Bd h1 hi;Ax (As (hj,(hf++([42,42,42]:Ac),hd+hk),()) ⟨h4,Apu _⟩ (A7 Aa) (sC (sC sN)))) λhw h5=>AA Aa<|ck h5 λhl h6=>wv (Bh hl)<|ck h6 λh7 h8=>ck h8 λh9 hA=>wv (HY Lb Aa Aa Aa h7 h9)<|ck hA λhB hC=>wv (Dz hB)<|Cs Aa<|B7 Aa<|wv (Bh hl)<|Bg Aa<|Ca<|have hD:=Bd hC hi;Ax (As (hj,(hf++(List.take (D3 (hd+1)-D3 hd) (List.drop (D3 hd) s)),hd+1),()) ⟨hD,Apu _⟩ (A7 Aa) (sC (sC sN)))) λhr hE=>Bs<|Ah<|have hG:=BG hE hi hp;Ah (AN (As (hf,()) hG (A7 Aa) (sC (sC sN)))))<|by rintro⟨hH,⟨⟩⟩ hg;refine Gw ?_;exact have hg:Mz hH=some r:=hg;by unfold Mz at hg;exact AR<|Cy<|B6 Aa<|cs hg▸Ap (Ct Tryz.results49 AW) (sK 3) ⟨Aa,Aa⟩
theorem AbS (F:Nat)(hg:Value)(l r:(List Ac))(h:Mg F l=some r):FN 92 [rv hg] [Bl hg l] (λR H=>∃u0:Value,R=rv u0∧H=[Bl u0 r,Bl hg l]):=en Tryz.func92 Tryz.ntmps92 Aa λw Z=>by unfold Mg at h;exact AA Aa<|Dc<|DP ([]:List Ac) eS Dm Ew SE Aa trivial CK λb1=>ms Aa<|BD Aa<|AJ<|Au<|Pq [1] Aa<|ob h λh1 h2 h3=>Bk (V:=((List Ac))×Value) 0 (λσ=>Cg (λσ=>JF F l σ.1 σ.2) σ.1 σ.2.1=some h1) (λσ=>[(0,rv hg),(3,rv σ.2.2),(4,AZ σ.2.1.2)]) (λσ=>[Bl hg l,Bl σ.2.2 σ.2.1.1]) (λσ=>σ.1) (F,(([]:List Ac),0),(.slice (some ⟨b1,0,none⟩) 0 0)) h2 (A7 Aa) (sC (sC sN)) (λσ=>Ls σ.1=some r) (λσ=>[(3,rv σ.2)]) (λσ=>[Bl hg l,Bl σ.2 σ.1]) (by rintro⟨gq,⟨he,hf⟩,hh⟩ h4;refine EG ?_;obtain⟨h5,rfl,hk,hm,hr⟩:=Cq h4;have hm:JF F l he hf=some hk:=hm;exact AV<|AA Aa<|wv (CS 0 Dm Aa Aa)<|wv BI<|AJ<|B2 hm (λh6 h7=>BW<|EY (S:=((List Ac))×Value) (λσ=>JE hf σ.1=some hk) (λσ=>[(0,rv hg),(3,rv σ.2),(4,AZ hf)]) (λσ=>[Bl hg l,Bl σ.2 σ.1]) (Au<|AA Aa<|BU<|Au<|ob h7 λh8 h9 hA=>Bk (V:=(Int×Bool)×Unit) 2 (λσ=>Cg (λσ=>Is l he hf σ) σ.1 σ.2.1=some h8) (λσ=>[(0,rv hg),(3,rv hh),(4,AZ hf),(5,AZ σ.2.1)]) (λσ=>[Bl hg l,Bl hh he]) (λσ=>σ.1) (F,0,()) h9 (A7 Aa) (sC (sC sN)) (λσ=>JD l he hf σ.1.1 σ.1.2=some hk) (λσ=>[(0,rv hg),(3,rv hh),(4,AZ hf),(5,AZ σ.1.1),(28,rB σ.1.2)]) (λσ=>[Bl hg l,Bl hh he]) (by rintro⟨gr,hi,⟨⟩⟩ hB;refine EG ?_;obtain⟨hC,rfl,hD,hn,hs⟩:=Cq hB;have hn:Is l he hf hi=some hD:=hn;exact AV<|ck hn λht hE=>ck hE λhu hG=>Ar [(0,rv hg),(3,rv hh),(4,AZ hf),(5,AZ hi),(28,rB ((Bm (hi<(he.length:Int)))&&(Cr (Af he hi) (Af l hf))))] [Bl hg l,Bl hh he] (AF (Bm (hi<(he.length:Int))) (λhb=>by refine Dn [0,3,4,5] ?_;refine rq AD<|rq AD<|rq (CS 1 Dm Aa Aa)<|rq BI<|rq AD<|rg hb (AE Aa)<|rg hb (AE Aa)<|rg hb (r:=rv (Nr 1 hh (D3 hi) 0)) (Dj 1 Dm Ew Aa Aa Aa (Bz (BL ht hb)))<|rg hb (r:=rS (Af he hi)) (DU 1 IK Aa Aa (BL ht hb) Aa)<|rg hb (AE Aa)<|rg hb (AE Aa)<|rg hb (r:=rv (Nr 1 hg (D3 hf) 0)) (Dj 0 Dm Ew Aa Aa Aa (Bz (BL hu hb)))<|rg hb (r:=rS (Af l hf)) (DU 0 IK Aa Aa (BL hu hb) Aa)<|rg hb (Ahd Aa Aa)<|rq (Aj hb)<|re [28,0,3,4,5] ?_;exact BR hb) λhb=>by refine Dn [0,3,4,5] ?_;refine rq AD<|rq AD<|rq (CS 1 Dm Aa Aa)<|rq BI<|rq AD<|rz hb<|rz hb<|rz hb<|rz hb<|rz hb<|rz hb<|rz hb<|rz hb<|rz hb<|rq (Am hb)<|re [28,0,3,4,5] ?_;exact BR hb)<|B2 hG (λhH hI=>BW<|Au<|B7 Aa<|ck hI λhJ hK=>wv (Bh hJ)<|Bg Aa<|Ca<|have hL:=Bd hK hs;Ax (As (hC,hi+1,()) ⟨hL,Apu _⟩ (A7 Aa) (sC (sC sN)))) λhH hN=>Bs<|Ah<|have hO:=BG hN hs hA;Ah (AN (As ((hi,((Bm (hi<(he.length:Int)))&&(Cr (Af he hi) (Af l hf)))),()) hO (A7 Aa) (sC (sC sN)))))<|by rintro⟨⟨hj,hP⟩,⟨⟩⟩ hp;refine Gw ?_;exact have hp:JD l he hf hj hP=some hk:=hp;AR<|Cy<|ck hp λhw hQ=>ck hQ λhx hR=>Ar [(0,rv hg),(3,rv hh),(4,AZ hf),(5,AZ hj),(45,rB ((Bm (hj=(he.length:Int)))||(!Bm ((Af he hj)=(Af l hf)))))] [Bl hg l,Bl hh he] (AF (Bm (hj=(he.length:Int))) (λhd=>by refine Dn [0,3,4,5] ?_;refine rq AD<|rq AD<|rq (CS 1 Dm Aa Aa)<|rq Bx<|rq AD<|rz hd<|rz hd<|rz hd<|rz hd<|rz hd<|rz hd<|rz hd<|rz hd<|rz hd<|rq (Aj hd)<|re [45,0,3,4,5] ?_;exact BR hd) λhd=>by refine Dn [0,3,4,5] ?_;refine rq AD<|rq AD<|rq (CS 1 Dm Aa Aa)<|rq Bx<|rq AD<|rg hd (AE Aa)<|rg hd (AE Aa)<|rg hd (r:=rv (Nr 1 hh (D3 hj) 0)) (Dj 1 Dm Ew Aa Aa Aa (Bz (CM hw hd)))<|rg hd (r:=rS (Af he hj)) (DU 1 IK Aa Aa (CM hw hd) Aa)<|rg hd (AE Aa)<|rg hd (AE Aa)<|rg hd (r:=rv (Nr 1 hg (D3 hf) 0)) (Dj 0 Dm Ew Aa Aa Aa (Bz (CM hx hd)))<|rg hd (r:=rS (Af l hf)) (DU 0 IK Aa Aa (CM hx hd) Aa)<|rg hd (JB Aa Aa)<|rq (Am hd)<|re [45,0,3,4,5] ?_;exact BR hd)<|B2 hR (λhS hT=>Ay<|DP ([]:List Ac) eS Dm Ew SE Aa trivial CK λgs=>ms Aa<|WL.freeze (i:=2) Aa<|WL.up (d:=47) Aa (Up.fact 0 Aa)<|ck hT λhy hU=>wv (PZ Dm Ew Aa Aa hy)<|ck hU λhV hW=>IM 1 Dm Ir Aa Aa (K8.z Aa Aa) CK G3 hV λgu=>ms Aa<|BM Aa<|ck hW λhz hX=>wv (Dj 2 Dm Ew Aa Aa Aa (Bz hz))<|wv (DU 2 IK Aa Aa hz Aa)<|DP ([Af l hf]:List Ac) eS Dm Ew SE Aa ⟨cO Aa,trivial⟩ CK λgv=>ck hX λhY hZ=>IM 1 Dm Ir Aa Aa (K8.w 0 Aa Aa) CK G3 hY λgw=>Cs Aa<|B7 Aa<|WL.up (d:=59) Aa (Up.fact 2 Aa)<|wv (KK Dm Ew Aa Aa hy)<|ck hZ λga gb=>IM 0 Dm Ir Aa Aa (K8.z Aa Aa) CK G3 ga λgc=>by refine Bg Aa<|Ca<|JL [3] ?_;exact Ax (As (((([]:List Ac)++(List.take (D3 hj) he))++([Af l hf]:List Ac))++(List.drop (D3 hj) he),gc) gb (A7 Aa) (sC (sC (sS (sS sN)))))) λhS gd=>B3<|Ca<|Ax (As (he,hh) gd (A7 Aa) (sC (sC sN))))<|by rintro⟨h0,gf⟩ hq;refine EG ?_;exact have hq:JE hf h0=some hk:=hq;B7 Aa<|ck hq λgg gh=>wv (Bh gg)<|Bg Aa<|have gi:=Bd gh hr;Ax (As (h5,(h0,hf+1),gf) ⟨gi,Apu _⟩ (A7 Aa) (sC (sC sN)))) λh6 gj=>Bs<|Ah<|have gl:=BG gj hr h3;Ah (AN (As (he,hh) gl (A7 Aa) (sC (sC sN)))))<|by rintro⟨gm,gp⟩ hl;refine Gw ?_;exact have hl:Ls gm=some r:=hl;by unfold Ls at hl;refine AR<|Cy<|B6 Aa<|JL [1] ?_;exact cs hl▸Ap (Ct Tryz.results92 AW) (sK 3) ⟨gp,Aa,Aa⟩
abbrev Et (x0 x1:Ac)(x2:List Ac)(x3:List Ad)(x4:List A1)(x5:Int)(x6:Value)(x7:Option Addr)(x8:Bool)(x9:Int)(hb hd he:Value):List Rp:=[rS x0,rS x1,B4 1 (Bu eS x2),B4 3 (Bu AK x3),B4 5 (Bu B1 x4),AZ x5,rv x6,rv (.pointer x7),rB x8,AZ x9,rv hb,rv hd,rv he]
abbrev CA (x0:Value)(x1:List AB):Ent:=.row x0 78 3 (Bu BJ x1)
abbrev Sl (x0:Nat)(x1 x2:Ac)(x3:List Ac)(x4:List Ad)(x5:List A1)(x6:Int)(x7:Value)(x8:Option Addr):Ent:=.blk x0 [rS x1,rS x2,B4 1 (Bu eS x3),B4 3 (Bu AK x4),B4 5 (Bu B1 x5),AZ x6,rv x7,rv (.pointer x8),rB true,AZ 0,rv (.slice none 0 0),rv (.slice none 0 0),rv (.slice none 0 0)] 84
theorem O2 (F:Nat)(pv_v:Option Addr)(a:A0)(l:(List AB))(r:Ai×Unit)(h:HR F a l=some r):FN 6 [Cz (Cv a),B4 3 (Bu BJ l),rv (.pointer pv_v)] [] (λR H=>∃u0:Nat,∃u0_6:Value,∃u0_10:Value,∃u0_11:Value,∃u0_12:Value,R=DW [rP u0 0,AZ 0]∧H=(.blk u0 (Et r.1.fAccess.fTenant r.1.fAccess.fFunction r.1.fAccess.fOps r.1.fAccess.fPolicy r.1.fAccess.fNet r.1.fAccess.fNow u0_6 pv_v r.1.fMade r.1.fAsked u0_10 u0_11 u0_12) 84::CA u0_6 r.1.fItems::CO u0_10 r.1.fEffects u0_11 r.1.fReads u0_12 r.1.fLog)):=en Tryz.func6 Tryz.ntmps6 Aa λw Z=>by unfold HR at h;exact Ay<|Cb Aa Aa λb1=>ms Aa<|Dc<|wv (B0 0)<|ob h λr2 e4 h3=>BV Tryz.call31 (IV F a r2 e4)<|ms Aa<|BD Aa<|wv Ci<|AJ<|B2 h3 (λc5 h6=>Bw Aa<|nomatch h6) λc5 h7=>BW<|AA Aa<|ob h7 λr8 hj h9=>BV Tryz.call32 (Nc F l r8 hj)<|ms Aa<|BD Aa<|wv Ci<|AJ<|B2 h9 (λhk hl=>Bw Aa<|nomatch hl) λhk hm=>BW<|Ay<|wv (B0 0)<|ms Aa<|wv (CD AdA Aa (cCA (Eo Aa (Eo Aa cN))) Aa)<|Cb Aa Aa λhd=>ms Aa<|BD Aa<|AJ<|Au<|WC.nilrow (e:=78) (sz:=3)<|Pq [1] Aa<|ob hm λhn hp hq=>Bk (V:=((List AB))×Value) 0 (λσ=>Cg (λσ=>IT l σ.1 σ.2) σ.1 σ.2.1=some hn) (λσ=>[(1,B4 3 (Bu BJ l)),(9,rP hd 0),(10,AZ σ.2.1.1)]) (λσ=>[Sl hd a.fTenant a.fFunction a.fOps a.fPolicy a.fNet a.fNow σ.2.2 pv_v,CA σ.2.2 σ.2.1.2]) (λσ=>σ.1) (F,(0,([]:List AB)),(.slice none 0 0                                                                              )) hp (A7 Aa) (sC (sC (sS sN))) (λσ=>M6 a σ.1=some r) (λσ=>[(9,rP hd 0)]) (λσ=>[Sl hd a.fTenant a.fFunction a.fOps a.fPolicy a.fNet a.fNow σ.2 pv_v,CA σ.2 σ.1]) (by rintro⟨hG,⟨hb,hf⟩,v46⟩ hr;refine EG ?_;obtain⟨hs,rfl,ht,hh,hi⟩:=Cq hr;have hh:IT l hb hf=some ht:=hh;exact AV<|AA Aa<|wv AU<|wv BI<|AJ<|B2 hh (λhu hw=>Bt<|Au<|AA Aa<|ck hw λhx hy=>wv (AX hx)<|wv C2<|BY (cs:=(Vf ([]:Ac))) YB Aa Aa λhz=>by refine Eu 0 Mx Aa Aa Aa (Bn.c Aa) Aa Aa ?_;refine Dc<|wv An<|wv (Ae 0)<|ob hy λhe h0 h1=>BV TX (He (Af l hb).fValue he h0)<|wv An<|us 0 EW Aa Aa (Cl Aa) Aa Aa ?_;refine AJ<|ck h1 λh2 h4=>Exists.elim AhF λinf hinf=>Iy 8 7 [1,9,10,11] [] [{ deps:=[],r:=λ_=>rP hd 0 },{ deps:=[],r:=λ_=>rP hd 0 },{ deps:=[1],r:=λ_=>rP hd 0 },{ deps:=[2],r:=λ_=>rP hd 6 },{ deps:=[3],r:=λ_=>rv v46 },{ deps:=[],r:=λ_=>Cz (Qh (Af l hb).fKey he (Af l hb).fVersion) },{ deps:=[5],r:=λ_=>B4 3 (Bu BJ ([(AB.mk (Af l hb).fKey he (Af l hb).fVersion)]:List AB)) },{ deps:=[4,6],r:=λv80=>rv v80,dyn:=true }] (λv80=>[CA v80 (hf++([(AB.mk (Af l hb).fKey he (Af l hb).fVersion)]:List AB)),.blk hz (Qh (Af l hb).fKey he (Af l hb).fVersion) 78,Sl hd a.fTenant a.fFunction a.fOps a.fPolicy a.fNet a.fNow v46 pv_v]) ?_ (λv80=>?_);exact GW (AE Aa)<|GW (AE Aa)<|GW (BK Aa)<|GW (Aq PF Aa AdR Aa Aa)<|Qz (fun {v80}=>CP (AY 1 Agb Aa Aa Aa)) (fun {v80}=>CP (AY 2 Agb Aa Aa Aa))<|Qz (fun {v80}=>CP (BP 0 AfX Mx Aa Aa Aa Aa)) (fun {v80}=>CP (BP 1 AfX Mx Aa Aa Aa Aa))<|oxc (C8 (ys:=([(AB.mk (Af l hb).fKey he (Af l hb).fVersion)]:List AB)) (enc:=BJ) (css:=[(Qh (Af l hb).fKey he (Af l hb).fVersion)]) (xs:=[.tmp 45]) Tp Mx YB Aa Aa Aa ⟨cA,trivial⟩ Aa GI Aa Aa)<|oxx (EK (i:=2) Tp hinf.1 hinf.2.1 hinf.2.2.1 hinf.2.2.2 Aa Aa Aa Aa Aa (K8.z Aa Aa) GI P6 h2)<|oxe;refine E3 [40,41,42,43,44,45,46,47,1,9,10,11] ?_;refine wv Aw<|wv An<|us 2 AdR Aa Aa (DA 0 Aa) Aa Aa ?_;refine Az<|CR<|B7 Aa<|ck h4 λh5 h8=>wv (Bh h5)<|Bg Aa<|JL [2] ?_;exact have hA:=Bd h8 hi;Ax (As (hs,(hb+1,hf++([(AB.mk (Af l hb).fKey he (Af l hb).fVersion)]:List AB)),v80) ⟨hA,Apu _⟩ (A7 Aa) (sC (sC (sS sN))))) λhu hB=>Bs<|Ah<|have hC:=BG hB hi hq;Ah (AN (As (hf,v46) hC (A7 Aa) (sC (sC sN)))))<|by rintro⟨hD,hE⟩ hg;refine Gw ?_;exact have hg:M6 a hD=some r:=hg;by unfold M6 at hg;refine AR<|Cy<|B6 Aa<|WK.nilrow (e:=90) (sz:=4)<|WK.nilrow (e:=9) (sz:=1)<|WK.nilrow (e:=9) (sz:=1)<|JL [3,3,2,1] ?_;exact cs hg▸Ap (LA Tryz.results6 AW AW) (sK 31) ⟨hd,hE,(.slice none 0 0                                                                                          ),(.slice none 0 0         ),(.slice none 0 0         ),Aa,Aa⟩
theorem O3 (F:Nat)(pv_v:Option Addr)(a:A0)(l:(List AB))(r:Unit×Int)(h:Li F a l=some r):FN 6 [Cz (Cv a),B4 3 (Bu BJ l),rv (.pointer pv_v)] [] (PO (DW [rv (.pointer none),AZ r.2])):=en Tryz.func6 Tryz.ntmps6 Aa λw Z=>by unfold Li at h;exact Ay<|Cb Aa Aa λb1=>ms Aa<|Dc<|wv (B0 0)<|ob h λr2 e4 h3=>BV Tryz.call31 (IV F a r2 e4)<|ms Aa<|BD Aa<|wv Ci<|AJ<|B2 h3 (λc5 h6=>Bw Aa<|cs h6▸Ap (LA Tryz.results6 AW AW) (sS sN) ⟨Aa,Aa⟩) λc5 h7=>BW<|AA Aa<|ob h7 λr8 hj h9=>BV Tryz.call32 (Nc F l r8 hj)<|ms Aa<|BD Aa<|wv Ci<|AJ<|B2 h9 (λhk hl=>Bw Aa<|cs hl▸Ap (LA Tryz.results6 AW AW) (sS sN) ⟨Aa,Aa⟩) λhk hm=>BW<|Ay<|wv (B0 0)<|ms Aa<|wv (CD AdA Aa (cCA (Eo Aa (Eo Aa cN))) Aa)<|Cb Aa Aa λhd=>ms Aa<|BD Aa<|AJ<|Au<|WC.nilrow (e:=78) (sz:=3)<|Pq [1] Aa<|ob hm λhn hp hq=>Bk (V:=((List AB))×Value) 0 (λσ=>Cg (λσ=>PV l σ.1 σ.2) σ.1 σ.2.1=some hn) (λσ=>[(1,B4 3 (Bu BJ l)),(9,rP hd 0),(10,AZ σ.2.1.1)]) (λσ=>[Sl hd a.fTenant a.fFunction a.fOps a.fPolicy a.fNet a.fNow σ.2.2 pv_v,CA σ.2.2 σ.2.1.2]) (λσ=>σ.1) (F,(0,([]:List AB)),(.slice none 0 0                                                                              )) hp (A7 Aa) (sC (sC (sS sN))) (λσ=>M7 σ.1=some r) (λσ=>[(9,rP hd 0)]) (λσ=>[Sl hd a.fTenant a.fFunction a.fOps a.fPolicy a.fNet a.fNow σ.2 pv_v,CA σ.2 σ.1]) (by rintro⟨hE,⟨hb,hf⟩,v46⟩ hr;refine EG ?_;obtain⟨hs,rfl,ht,hh,hi⟩:=Cq hr;have hh:PV l hb hf=some ht:=hh;exact AV<|AA Aa<|wv AU<|wv BI<|AJ<|B2 hh (λhu hw=>Bt<|Au<|AA Aa<|ck hw λhx hy=>wv (AX hx)<|wv C2<|BY (cs:=(Vf ([]:Ac))) YB Aa Aa λhz=>by refine Eu 0 Mx Aa Aa Aa (Bn.c Aa) Aa Aa ?_;refine Dc<|wv An<|wv (Ae 0)<|ob hy λhe h0 h1=>BV TX (He (Af l hb).fValue he h0)<|wv An<|us 0 EW Aa Aa (Cl Aa) Aa Aa ?_;refine AJ<|ck h1 λh2 h4=>Exists.elim AhF λinf hinf=>Iy 8 7 [1,9,10,11] [] [{ deps:=[],r:=λ_=>rP hd 0 },{ deps:=[],r:=λ_=>rP hd 0 },{ deps:=[1],r:=λ_=>rP hd 0 },{ deps:=[2],r:=λ_=>rP hd 6 },{ deps:=[3],r:=λ_=>rv v46 },{ deps:=[],r:=λ_=>Cz (Qh (Af l hb).fKey he (Af l hb).fVersion) },{ deps:=[5],r:=λ_=>B4 3 (Bu BJ ([(AB.mk (Af l hb).fKey he (Af l hb).fVersion)]:List AB)) },{ deps:=[4,6],r:=λv80=>rv v80,dyn:=true }] (λv80=>[CA v80 (hf++([(AB.mk (Af l hb).fKey he (Af l hb).fVersion)]:List AB)),.blk hz (Qh (Af l hb).fKey he (Af l hb).fVersion) 78,Sl hd a.fTenant a.fFunction a.fOps a.fPolicy a.fNet a.fNow v46 pv_v]) ?_ (λv80=>?_);exact GW (AE Aa)<|GW (AE Aa)<|GW (BK Aa)<|GW (Aq PF Aa AdR Aa Aa)<|Qz (fun {v80}=>CP (AY 1 Agb Aa Aa Aa)) (fun {v80}=>CP (AY 2 Agb Aa Aa Aa))<|Qz (fun {v80}=>CP (BP 0 AfX Mx Aa Aa Aa Aa)) (fun {v80}=>CP (BP 1 AfX Mx Aa Aa Aa Aa))<|oxc (C8 (ys:=([(AB.mk (Af l hb).fKey he (Af l hb).fVersion)]:List AB)) (enc:=BJ) (css:=[(Qh (Af l hb).fKey he (Af l hb).fVersion)]) (xs:=[.tmp 45]) Tp Mx YB Aa Aa Aa ⟨cA,trivial⟩ Aa GI Aa Aa)<|oxx (EK (i:=2) Tp hinf.1 hinf.2.1 hinf.2.2.1 hinf.2.2.2 Aa Aa Aa Aa Aa (K8.z Aa Aa) GI P6 h2)<|oxe;refine E3 [40,41,42,43,44,45,46,47,1,9,10,11] ?_;refine wv Aw<|wv An<|us 2 AdR Aa Aa (DA 0 Aa) Aa Aa ?_;refine Az<|CR<|B7 Aa<|ck h4 λh5 h8=>wv (Bh h5)<|Bg Aa<|JL [2] ?_;exact have hA:=Bd h8 hi;Ax (As (hs,(hb+1,hf++([(AB.mk (Af l hb).fKey he (Af l hb).fVersion)]:List AB)),v80) ⟨hA,Apu _⟩ (A7 Aa) (sC (sC (sS sN))))) λhu hB=>Bs<|Ah<|have hC:=BG hB hi hq;Ah (AN (As (hf,v46) hC (A7 Aa) (sC (sC sN)))))<|by rintro⟨hD,hG⟩ hg;refine Gw ?_;exact have hg:M7 hD=some r:=hg;by unfold M7 at hg;exact AR<|Cy<|B6 Aa<|nomatch hg
theorem Z1 (F hf:Nat)(hb hd hh he:Value)(pv_v:Option Addr)(o:Ai)(key:Ac)(r:(List Ab)×Ai)(h:RM F o key=some r):FN 52 [rP hf 0,rS key] (.blk hf (Et o.fAccess.fTenant o.fAccess.fFunction o.fAccess.fOps o.fAccess.fPolicy o.fAccess.fNet o.fAccess.fNow hb pv_v o.fMade o.fAsked hd hh he) 84::CA hb o.fItems::CO hd o.fEffects hh o.fReads he o.fLog) (λR H=>∃w0_6:Value,∃w0_10:Value,∃w0_11:Value,∃w0_12:Value,R=B4 4 (Bu A5 r.1)∧H=(.blk hf (Et r.2.fAccess.fTenant r.2.fAccess.fFunction r.2.fAccess.fOps r.2.fAccess.fPolicy r.2.fAccess.fNet r.2.fAccess.fNow w0_6 pv_v r.2.fMade r.2.fAsked w0_10 w0_11 w0_12) 84::CA w0_6 r.2.fItems::CO w0_10 r.2.fEffects w0_11 r.2.fReads w0_12 r.2.fLog)):=en Tryz.func52 Tryz.ntmps52 Aa λw Z=>AA Aa<|BD Aa<|wv Aw<|wv An<|wv (Ae 0)<|wv (CS 2 E1 Aa Aa)<|ck h λg1 h2=>wv (DV g1)<|Cs Aa<|Au<|ob h2 λhz h0 hp=>Bk (V:=Unit×Unit) 0 (λσ=>Cg (λσ=>GD o key σ) σ.1 σ.2.1=some hz) (λσ=>[(0,rP hf 0),(1,rS key),(5,AZ σ.2.1)]) (λσ=>(.blk hf (Et o.fAccess.fTenant o.fAccess.fFunction o.fAccess.fOps o.fAccess.fPolicy o.fAccess.fNet o.fAccess.fNow hb pv_v o.fMade o.fAsked hd hh he) 84::CA hb o.fItems::CO hd o.fEffects hh o.fReads he o.fLog)) (λσ=>σ.1) (F,(o.fEffects.length:Int)-1,()) h0 (A7 Aa) (sM 31 Aa) (λσ=>Kn F o key =some r) (λσ=>[(0,rP hf 0),(1,rS key)]) (λσ=>(.blk hf (Et o.fAccess.fTenant o.fAccess.fFunction o.fAccess.fOps o.fAccess.fPolicy o.fAccess.fNet o.fAccess.fNow hb pv_v o.fMade o.fAsked hd hh he) 84::CA hb o.fItems::CO hd o.fEffects hh o.fReads he o.fLog)) (by rintro⟨gz,hg,⟨⟩⟩ h1;refine EG ?_;obtain⟨h3,rfl,h4,hq,hm⟩:=Cq h1;have hq:GD o key hg=some h4:=hq;exact AV<|AA Aa<|wv DK<|AJ<|B2 hq (λc80 h5=>Bt<|Au<|AA Aa<|wv Aw<|wv An<|wv (Ae 0)<|ms Aa<|ck h5 λhw h6=>wv (Dj 2 E1 Dq Aa Aa Aa (Bz hw))<|wv (OE (enc:=AQ) (ys:=o.fEffects) (i:=2) (j:=hg) IL Dq Aa Aa hw Aa Aa)<|BY (cs:=(L5 ([]:Ac))) LC Aa Aa λhx=>by refine Eu 0 Dq Aa Aa Aa (Bn.c Aa) Aa Aa ?_;exact BU<|Ar [(0,rP hf 0),(1,rS key),(5,AZ hg),(6,rP hx 0),(33,rB ((Bm ((Af o.fEffects hg).fKey=key))&&(Bm ((Af o.fEffects hg).fKind=1))))] (.blk hx (AQ (Af o.fEffects hg)) 90::.blk hf (Et o.fAccess.fTenant o.fAccess.fFunction o.fAccess.fOps o.fAccess.fPolicy o.fAccess.fNet o.fAccess.fNow hb pv_v o.fMade o.fAsked hd hh he) 84::CA hb o.fItems::CO hd o.fEffects hh o.fReads he o.fLog) (A4<|wv An<|wv (Ae 0)<|ms Aa<|wv BA<|ms Aa<|AF (Bm ((Af o.fEffects hg).fKey=key)) (λc85=>Bq c85 An<|Bq c85 (Ae 0)<|Bq c85 Bx<|Ej Aa c85 Aa<|Az<|BR c85) λc85=>CB c85 Aa<|wv (Am c85)<|Az<|BR c85)<|B2 h6 (λh7 h8=>Ay<|wv An<|wv (Ae 0)<|ob h8 λh9 hA hB=>BV TX (He (Af o.fEffects hg).fValue h9 hA)<|By Aa<|Ao<|B8<|Ao<|Bf<|have hC:=BE hB hm hp;B8<|cs hC▸Ap (Ct AiC AW) (sK 62) ⟨hb,hd,hh,he,Aa,Aa⟩) λh7 hD=>BW<|Ar [(0,rP hf 0),(1,rS key),(5,AZ hg),(45,rB ((Bm ((Af o.fEffects hg).fKey=key))&&(Bm ((Af o.fEffects hg).fKind=2))))] (.blk hf (Et o.fAccess.fTenant o.fAccess.fFunction o.fAccess.fOps o.fAccess.fPolicy o.fAccess.fNet o.fAccess.fNow hb pv_v o.fMade o.fAsked hd hh he) 84::CA hb o.fItems::CO hd o.fEffects hh o.fReads he o.fLog) (A4<|wv An<|wv (Ae 0)<|ms Aa<|wv BA<|ms Aa<|AF (Bm ((Af o.fEffects hg).fKey=key)) (λhi=>Bq hi An<|Bq hi (Ae 0)<|Bq hi Bx<|Ej Aa hi Aa<|Az<|BR hi) λhi=>CB hi Aa<|wv (Am hi)<|Az<|BR hi)<|B2 hD (λhE hG=>Ay<|ob hG λhH hI hJ=>BV Aee (O1 hH hI)<|By Aa<|B8<|Ao<|Bf<|have hK:=BE hJ hm hp;B8<|cs hK▸Ap (Ct AiC AW) (sK 31) ⟨hb,hd,hh,he,Aa,Aa⟩) λhE hL=>B3<|CR<|B7 Aa<|ck hL λhN hO=>wv (DV hN)<|Bg Aa<|have hP:=Bd hO hm;Ax (As (h3,hg-1,()) ⟨hP,Apu _⟩ (A7 Aa) (sC (sC (sC (sC (sC sN))))))) λc80 hQ=>Bs<|Ah<|have hR:=BG hQ hm hp;Ah (AN (As ((),()) hR (A7 Aa) (sC (sC (sC (sC (sC sN))))))))<|by rintro⟨⟨⟩,⟨⟩⟩ hn;refine Gw ?_;exact have hn:Kn F o key =some r:=hn;by unfold Kn at hn;exact AR<|Cy<|AA Aa<|DP ([]:List Ac) eS Dm Ew SE Aa trivial CK λg0=>ms Aa<|wv Aw<|wv An<|wv (Ae 1)<|ck hn λhS hT=>IM 0 Dm Ir Aa Aa (K8.w 4 Aa Aa) CK G3 hS λg2=>ms Aa<|DP ([key]:List Ac) eS Dm Ew SE Aa ⟨cO Aa,trivial⟩ CK λg3=>ck hT λhU hV=>IM 1 Dm Ir Aa Aa (K8.w 0 Aa Aa) CK G3 hU λhW=>by refine ob hV λhj hX hY=>EX [0] Tryz.call92 (AbS F hW ((([]:List Ac)++o.fReads)++([key]:List Ac)) hj hX) ?_;rintro _ _ ⟨hk,rfl,rfl⟩;refine wv Aw<|wv An<|us 3 Ge Aa Aa (DA 0 Aa) Aa Aa ?_;exact BD Aa<|AJ<|Au<|ob hY λhZ ga hy=>Bk (V:=Unit×Unit) 2 (λσ=>Cg (λσ=>Ko o key hj σ) σ.1 σ.2.1=some hZ) (λσ=>[(0,rP hf 0),(1,rS key),(7,AZ σ.2.1)]) (λσ=>[Bl hk hj,.blk hf (Et o.fAccess.fTenant o.fAccess.fFunction o.fAccess.fOps o.fAccess.fPolicy o.fAccess.fNet o.fAccess.fNow hb pv_v o.fMade o.fAsked hd hk he) 84,CA hb o.fItems,CW hd o.fEffects,Bl he o.fLog]) (λσ=>σ.1) (F,0,()) ga (A7 Aa) (sM 185 Aa) (λσ=>RL o hj =some r) (λσ=>[]) (λσ=>[Bl hk hj,.blk hf (Et o.fAccess.fTenant o.fAccess.fFunction o.fAccess.fOps o.fAccess.fPolicy o.fAccess.fNet o.fAccess.fNow hb pv_v o.fMade o.fAsked hd hk he) 84,CA hb o.fItems,CW hd o.fEffects,Bl he o.fLog]) (by rintro⟨g4,hr,⟨⟩⟩ gb;refine EG ?_;obtain⟨gc,rfl,gd,hs,ht⟩:=Cq gb;have hs:Ko o key hj hr=some gd:=hs;exact AV<|AA Aa<|wv Aw<|wv An<|wv (Ae 1)<|wv (CS 2 Tp Aa Aa)<|wv BI<|AJ<|B2 hs (λc167 gf=>Bt<|Au<|AA Aa<|wv Aw<|wv An<|wv (Ae 1)<|ms Aa<|ck gf λhl gg=>wv (Dj 2 Tp Mx Aa Aa Aa (Bz hl))<|wv (DI (k:=2) TS Aa Ew Aa (Bz hl) Aa Aa Aa)<|wv (DU 2 IK Aa Aa hl Aa)<|ms Aa<|wv BA<|AJ<|B2 gg (λc171 gh=>AA Aa<|wv Aw<|wv An<|wv (Ae 1)<|ms Aa<|wv (Dj 2 Tp Mx Aa Aa Aa (Bz hl))<|wv (DI (k:=2) TS Aa EW Aa (Bz hl) Aa Aa Aa)<|wv (DU 2 Q0 Aa Aa hl Aa)<|ob gh λgi gj gl=>BV TX (He (Af o.fItems hr).fValue gi gj)<|By Aa<|B8<|Ao<|Bf<|by exact have gm:=BE gl ht hy;by refine B8<|JL [1,1,1] ?_;exact cs gm▸Ap (Ct AiC AW) (sK 31) ⟨hb,hd,hk,he,Aa,Aa⟩) λc171 gp=>B3<|CR<|B7 Aa<|ck gp λgq gr=>wv (Bh gq)<|Bg Aa<|have gs:=Bd gr ht;Ax (As (gc,hr+1,()) ⟨gs,Apu _⟩ (A7 Aa) (sC (sC (sC (sC (sC sN))))))) λc167 gu=>Bs<|Ah<|have gv:=BG gu ht hy;Ah (AN (As ((),()) gv Hw.nil (sC (sC (sC (sC (sC sN))))))))<|by rintro⟨⟨⟩,⟨⟩⟩ hu;refine Gw ?_;exact have hu:RL o hj =some r:=hu;by refine AR<|Cy<|Ay<|ob hu λgw gx gy=>BV Aee (O1 gw gx)<|By Aa<|JL [1,1,1] ?_;exact cs gy▸Ap (Ct AiC AW) (sK 31) ⟨hb,hd,hk,he,Aa,Aa⟩
theorem SR (hb:Nat)(hd hg he hf:Value)(pv_v:Option Addr)(o:Ai)(q:A6)(s:Ac)(r:Ai)(h:IU o q s=some r):FN 54 [rP hb 0,Cz (Ce q),rS s] (.blk hb (Et o.fAccess.fTenant o.fAccess.fFunction o.fAccess.fOps o.fAccess.fPolicy o.fAccess.fNet o.fAccess.fNow hd pv_v o.fMade o.fAsked hg he hf) 84::CA hd o.fItems::CO hg o.fEffects he o.fReads hf o.fLog) (λR H=>∃w0_6:Value,∃w0_10:Value,∃w0_11:Value,∃w0_12:Value,R=rv (.tuple #[])∧H=(.blk hb (Et r.fAccess.fTenant r.fAccess.fFunction r.fAccess.fOps r.fAccess.fPolicy r.fAccess.fNet r.fAccess.fNow w0_6 pv_v r.fMade r.fAsked w0_10 w0_11 w0_12) 84::CA w0_6 r.fItems::CO w0_10 r.fEffects w0_11 r.fReads w0_12 r.fLog)):=en Tryz.func54 Tryz.ntmps54 Aa λw Z=>by unfold IU at h;exact Ay<|Cb Aa Aa λb1=>BM Aa<|wv (CD Aki Aa (Eo Aa cN) Aa)<|BY (cs:=(L5 ([]:Ac))) LC Aa Aa λb2=>by refine Eu 0 Dq Aa Aa Aa (Bn.c Aa) Aa Aa ?_;exact BU<|Ay<|wv An<|wv (Ae 1)<|wv BA<|AJ<|B2 h (λc3 h4=>by refine A4<|wv An<|us 0 Nj Aa Aa (Cl Aa) Aa Aa ?_;exact BU<|Ay<|wv An<|wv (Ae 1)<|wv (JB Aa Aa)<|AJ<|B2 h4 (λc5 h6=>by refine A4<|wv An<|wv (Ae 1)<|wv An<|wv (Ae 1)<|wv AU<|ck h6 λg7 h8=>wv (DV g7)<|ck h8 λg9 hr=>wv (AX g9)<|wv AS<|ob hr λhl hs ht=>BV TX (He (Af q.fArgs ((q.fArgs.length:Int)-1)) hl hs)<|wv An<|us 0 EW Aa Aa (Cl Aa) Aa Aa ?_;refine AJ<|ck ht λg15 hu=>Exists.elim L2 λinf hinf=>Iy 8 7 [0,6] [] [{ deps:=[],r:=λ_=>rP hb 0 },{ deps:=[],r:=λ_=>rP hb 0 },{ deps:=[1],r:=λ_=>rP hb 0 },{ deps:=[2],r:=λ_=>rP hb 10 },{ deps:=[3],r:=λ_=>rv hg },{ deps:=[],r:=λ_=>Cz (Qj s hl) },{ deps:=[5],r:=λ_=>B4 4 (Bu AQ ([(Ak.mk 1 s hl 0)]:List Ak)) },{ deps:=[4,6],r:=λhh=>rv hh,dyn:=true }] (λhh=>[CW hh (o.fEffects++([(Ak.mk 1 s hl 0)]:List Ak)),.blk b2 (Qj s hl) 90,EH b1 q,.blk hb (Et o.fAccess.fTenant o.fAccess.fFunction o.fAccess.fOps o.fAccess.fPolicy o.fAccess.fNet o.fAccess.fNow hd pv_v o.fMade o.fAsked hg he hf) 84,CA hd o.fItems,Bl he o.fReads,Bl hf o.fLog]) ?_ (λhh=>?_);exact GW (AE Aa)<|GW (AE Aa)<|GW (BK Aa)<|GW (Aq PF Aa Nk Aa Aa)<|Qz (fun {hh}=>CP (AY 2 Nz Aa Aa Aa)) (fun {hh}=>CP (AY 3 Nz Aa Aa Aa))<|Qz (fun {hh}=>CP (BP 0 IL Dq Aa Aa Aa Aa)) (fun {hh}=>CP (BP 1 IL Dq Aa Aa Aa Aa))<|oxc (C8 (ys:=([(Ak.mk 1 s hl 0)]:List Ak)) (enc:=AQ) (css:=[(Qj s hl)]) (xs:=[.tmp 52]) E1 Dq LC Aa Aa Aa ⟨cA,trivial⟩ Aa BX Aa Aa)<|oxx (EK (i:=4) E1 hinf.1 hinf.2.1 hinf.2.2.1 hinf.2.2.2 Aa Aa Aa Aa Aa (K8.z Aa Aa) BX Dw g15)<|oxe;refine E3 [47,48,49,50,51,52,53,54,0,6] ?_;refine wv Aw<|wv An<|us 3 Nk Aa Aa (DA 0 Aa) Aa Aa ?_;refine Az<|JL [3,3,0,2,2] ?_;cases hu;exact H7 (Y7 AdV) (sM 31 Aa) ⟨hd,hh,he,hf,Aa,Aa⟩) λc5 hw=>by refine BW<|ck hw λg19 hx=>Exists.elim L2 λinf hinf=>Iy 8 7 [0,6] [] [{ deps:=[],r:=λ_=>rP hb 0 },{ deps:=[],r:=λ_=>rP hb 0 },{ deps:=[1],r:=λ_=>rP hb 0 },{ deps:=[2],r:=λ_=>rP hb 10 },{ deps:=[3],r:=λ_=>rv hg },{ deps:=[],r:=λ_=>Cz (Vh s) },{ deps:=[5],r:=λ_=>B4 4 (Bu AQ ([(Ak.mk 1 s ([]:List Ab) 0)]:List Ak)) },{ deps:=[4,6],r:=λhi=>rv hi,dyn:=true }] (λhi=>[CW hi (o.fEffects++([(Ak.mk 1 s ([]:List Ab) 0)]:List Ak)),.blk b2 (Vh s) 90,EH b1 q,.blk hb (Et o.fAccess.fTenant o.fAccess.fFunction o.fAccess.fOps o.fAccess.fPolicy o.fAccess.fNet o.fAccess.fNow hd pv_v o.fMade o.fAsked hg he hf) 84,CA hd o.fItems,Bl he o.fReads,Bl hf o.fLog]) ?_ (λhi=>?_);exact GW (AE Aa)<|GW (AE Aa)<|GW (BK Aa)<|GW (Aq PF Aa Nk Aa Aa)<|Qz (fun {hi}=>CP (AY 2 Nz Aa Aa Aa)) (fun {hi}=>CP (AY 3 Nz Aa Aa Aa))<|Qz (fun {hi}=>CP (BP 0 IL Dq Aa Aa Aa Aa)) (fun {hi}=>CP (BP 1 IL Dq Aa Aa Aa Aa))<|oxc (C8 (ys:=([(Ak.mk 1 s ([]:List Ab) 0)]:List Ak)) (enc:=AQ) (css:=[(Qj s ([]:List Ab))]) (xs:=[.tmp 52]) E1 Dq LC Aa Aa Aa ⟨Cel.agg ⟨Up.refl _,Up.refl _,Up.le (Hx.nil _),Up.refl _,trivial⟩,trivial⟩ Aa BX Aa Aa)<|oxx (EK (i:=4) E1 hinf.1 hinf.2.1 hinf.2.2.1 hinf.2.2.2 Aa Aa Aa Aa Aa (K8.z Aa Aa) BX Dw g19)<|oxe;refine E3 [47,48,49,50,51,52,53,54,0,6] ?_;refine wv Aw<|wv An<|us 3 Nk Aa Aa (DA 0 Aa) Aa Aa ?_;refine Az<|JL [3,3,0,2,2] ?_;cases hx;exact H7 (Y7 AdV) (sM 31 Aa) ⟨hd,hi,he,hf,Aa,Aa⟩) λc3 hy=>Ay<|wv An<|wv (Ae 1)<|wv BA<|AJ<|B2 hy (λhq hz=>by refine A4<|wv An<|us 0 Nj Aa Aa (Cl Aa) Aa Aa ?_;refine BU<|Ay<|wv An<|wv (Ae 1)<|wv (JB Aa Aa)<|AJ<|CV Aa (JW hq)<|BW<|ck hz λh0 h1=>Exists.elim L2 λinf hinf=>Iy 8 7 [0,6] [] [{ deps:=[],r:=λ_=>rP hb 0 },{ deps:=[],r:=λ_=>rP hb 0 },{ deps:=[1],r:=λ_=>rP hb 0 },{ deps:=[2],r:=λ_=>rP hb 10 },{ deps:=[3],r:=λ_=>rv hg },{ deps:=[],r:=λ_=>Cz [AZ 2,rS s,rv (.slice none 0 0),AZ 0] },{ deps:=[5],r:=λ_=>B4 4 (Bu AQ ([(Ak.mk 2 s ([]:List Ab) 0)]:List Ak)) },{ deps:=[4,6],r:=λv24=>rv v24,dyn:=true }] (λv24=>[CW v24 (o.fEffects++([(Ak.mk 2 s ([]:List Ab) 0)]:List Ak)),.blk b2 [AZ 2,rS s,rv (.slice none 0 0),AZ 0] 90,EH b1 q,.blk hb (Et o.fAccess.fTenant o.fAccess.fFunction o.fAccess.fOps o.fAccess.fPolicy o.fAccess.fNet o.fAccess.fNow hd pv_v o.fMade o.fAsked hg he hf) 84,CA hd o.fItems,Bl he o.fReads,Bl hf o.fLog]) ?_ (λv24=>?_);exact GW (AE Aa)<|GW (AE Aa)<|GW (BK Aa)<|GW (Aq PF Aa Nk Aa Aa)<|Qz (fun {v24}=>CP (AY 2 Nz Aa Aa Aa)) (fun {v24}=>CP (AY 3 Nz Aa Aa Aa))<|Qz (fun {v24}=>CP (BP 0 IL Dq Aa Aa Aa Aa)) (fun {v24}=>CP (BP 1 IL Dq Aa Aa Aa Aa))<|oxc (C8 (ys:=([(Ak.mk 2 s ([]:List Ab) 0)]:List Ak)) (enc:=AQ) (css:=[[AZ 2,rS s,B4 4 (Bu A5 ([]:List Ab)),AZ 0]]) (xs:=[.tmp 52]) E1 Dq LC Aa Aa Aa ⟨Cel.agg ⟨Up.refl _,Up.refl _,Up.le (Hx.nil _),Up.refl _,trivial⟩,trivial⟩ Aa BX Aa Aa)<|oxx (EK (i:=4) E1 hinf.1 hinf.2.1 hinf.2.2.1 hinf.2.2.2 Aa Aa Aa Aa Aa (K8.z Aa Aa) BX Dw h0)<|oxe;refine E3 [47,48,49,50,51,52,53,54,0,6] ?_;refine wv Aw<|wv An<|us 3 Nk Aa Aa (DA 0 Aa) Aa Aa ?_;refine Az<|JL [3,3,0,2,2] ?_;cases h1;exact H7 (Y7 AdV) (sM 31 Aa) ⟨hd,v24,he,hf,Aa,Aa⟩) λhq h2=>Ay<|wv An<|wv (Ae 1)<|wv BA<|AJ<|B2 h2 (λh3 h5=>by refine A4<|wv An<|us 0 Nj Aa Aa (Cl Aa) Aa Aa ?_;refine BU<|Ay<|wv An<|wv (Ae 1)<|wv (JB Aa Aa)<|AJ<|CG Aa (Add hq)<|A4<|wv An<|wv (Ae 1)<|wv An<|wv (Ae 1)<|wv AU<|ck h5 λh7 h9=>wv (DV h7)<|ck h9 λhA hB=>wv (AX hA)<|wv AS<|ob hB λhm hC hD=>BV TX (He (Af q.fArgs ((q.fArgs.length:Int)-1)) hm hC)<|wv An<|us 0 EW Aa Aa (Cl Aa) Aa Aa ?_;refine AJ<|ck hD λhE hG=>Exists.elim L2 λinf hinf=>Iy 8 7 [0,6] [] [{ deps:=[],r:=λ_=>rP hb 0 },{ deps:=[],r:=λ_=>rP hb 0 },{ deps:=[1],r:=λ_=>rP hb 0 },{ deps:=[2],r:=λ_=>rP hb 10 },{ deps:=[3],r:=λ_=>rv hg },{ deps:=[],r:=λ_=>Cz (Sk s hm) },{ deps:=[5],r:=λ_=>B4 4 (Bu AQ ([(Ak.mk 3 s hm 0)]:List Ak)) },{ deps:=[4,6],r:=λv37=>rv v37,dyn:=true }] (λv37=>[CW v37 (o.fEffects++([(Ak.mk 3 s hm 0)]:List Ak)),.blk b2 (Sk s hm) 90,EH b1 q,.blk hb (Et o.fAccess.fTenant o.fAccess.fFunction o.fAccess.fOps o.fAccess.fPolicy o.fAccess.fNet o.fAccess.fNow hd pv_v o.fMade o.fAsked hg he hf) 84,CA hd o.fItems,Bl he o.fReads,Bl hf o.fLog]) ?_ (λv37=>?_);exact GW (AE Aa)<|GW (AE Aa)<|GW (BK Aa)<|GW (Aq PF Aa Nk Aa Aa)<|Qz (fun {v37}=>CP (AY 2 Nz Aa Aa Aa)) (fun {v37}=>CP (AY 3 Nz Aa Aa Aa))<|Qz (fun {v37}=>CP (BP 0 IL Dq Aa Aa Aa Aa)) (fun {v37}=>CP (BP 1 IL Dq Aa Aa Aa Aa))<|oxc (C8 (ys:=([(Ak.mk 3 s hm 0)]:List Ak)) (enc:=AQ) (css:=[(Sk s hm)]) (xs:=[.tmp 52]) E1 Dq LC Aa Aa Aa ⟨cA,trivial⟩ Aa BX Aa Aa)<|oxx (EK (i:=4) E1 hinf.1 hinf.2.1 hinf.2.2.1 hinf.2.2.2 Aa Aa Aa Aa Aa (K8.z Aa Aa) BX Dw hE)<|oxe;refine E3 [47,48,49,50,51,52,53,54,0,6] ?_;refine wv Aw<|wv An<|us 3 Nk Aa Aa (DA 0 Aa) Aa Aa ?_;refine Az<|JL [3,3,0,2,2] ?_;cases hG;exact H7 (Y7 AdV) (sM 31 Aa) ⟨hd,v37,he,hf,Aa,Aa⟩) λh3 hH=>Ay<|wv An<|wv (Ae 1)<|wv BA<|AJ<|B2 hH (λhI hJ=>by refine A4<|wv An<|us 0 Nj Aa Aa (Cl Aa) Aa Aa ?_;refine BU<|Ay<|wv An<|wv (Ae 1)<|wv (JB Aa Aa)<|AJ<|CG Aa (Add hq)<|A4<|wv An<|wv (Ae 1)<|wv An<|wv (Ae 1)<|wv AU<|ck hJ λhK hL=>wv (DV hK)<|ck hL λhN hO=>wv (AX hN)<|wv AS<|ob hO λhn hP hQ=>BV TX (He (Af q.fArgs ((q.fArgs.length:Int)-1)) hn hP)<|wv An<|us 0 EW Aa Aa (Cl Aa) Aa Aa ?_;refine AJ<|ck hQ λhR hS=>Exists.elim L2 λinf hinf=>Iy 8 7 [0,6] [] [{ deps:=[],r:=λ_=>rP hb 0 },{ deps:=[],r:=λ_=>rP hb 0 },{ deps:=[1],r:=λ_=>rP hb 0 },{ deps:=[2],r:=λ_=>rP hb 10 },{ deps:=[3],r:=λ_=>rv hg },{ deps:=[],r:=λ_=>Cz (Sj s hn) },{ deps:=[5],r:=λ_=>B4 4 (Bu AQ ([(Ak.mk 5 s hn 0)]:List Ak)) },{ deps:=[4,6],r:=λhj=>rv hj,dyn:=true }] (λhj=>[CW hj (o.fEffects++([(Ak.mk 5 s hn 0)]:List Ak)),.blk b2 (Sj s hn) 90,EH b1 q,.blk hb (Et o.fAccess.fTenant o.fAccess.fFunction o.fAccess.fOps o.fAccess.fPolicy o.fAccess.fNet o.fAccess.fNow hd pv_v o.fMade o.fAsked hg he hf) 84,CA hd o.fItems,Bl he o.fReads,Bl hf o.fLog]) ?_ (λhj=>?_);exact GW (AE Aa)<|GW (AE Aa)<|GW (BK Aa)<|GW (Aq PF Aa Nk Aa Aa)<|Qz (fun {hj}=>CP (AY 2 Nz Aa Aa Aa)) (fun {hj}=>CP (AY 3 Nz Aa Aa Aa))<|Qz (fun {hj}=>CP (BP 0 IL Dq Aa Aa Aa Aa)) (fun {hj}=>CP (BP 1 IL Dq Aa Aa Aa Aa))<|oxc (C8 (ys:=([(Ak.mk 5 s hn 0)]:List Ak)) (enc:=AQ) (css:=[(Sj s hn)]) (xs:=[.tmp 52]) E1 Dq LC Aa Aa Aa ⟨cA,trivial⟩ Aa BX Aa Aa)<|oxx (EK (i:=4) E1 hinf.1 hinf.2.1 hinf.2.2.1 hinf.2.2.2 Aa Aa Aa Aa Aa (K8.z Aa Aa) BX Dw hR)<|oxe;refine E3 [47,48,49,50,51,52,53,54,0,6] ?_;refine wv Aw<|wv An<|us 3 Nk Aa Aa (DA 0 Aa) Aa Aa ?_;refine Az<|JL [3,3,0,2,2] ?_;cases hS;exact H7 (Y7 AdV) (sM 31 Aa) ⟨hd,hj,he,hf,Aa,Aa⟩) λhI hT=>by refine Ay<|wv An<|us 0 Nj Aa Aa (Cl Aa) Aa Aa ?_;refine AJ<|A4<|wv An<|wv (Ae 1)<|ck hT λhU hV=>wv (AX hU)<|wv AS<|ck hV λhW hX=>wv (AX hW)<|wv CL<|wv AS<|wv An<|us 0 K9 Aa Aa (Cl Aa) Aa Aa ?_;refine BU<|Ay<|wv An<|wv (Ae 1)<|wv (JB Aa Aa)<|AJ<|CG Aa (Add hq)<|A4<|wv An<|wv (Ae 1)<|wv An<|wv (Ae 1)<|wv AU<|ck hX λhY hZ=>wv (DV hY)<|ck hZ λga gb=>wv (AX ga)<|wv AS<|ob gb λhp gc gd=>BV TX (He (Af q.fArgs ((q.fArgs.length:Int)-1)) hp gc)<|wv An<|us 0 EW Aa Aa (Cl Aa) Aa Aa ?_;refine AJ<|ck gd λgf gg=>Exists.elim L2 λinf hinf=>Iy 8 7 [0,6] [] [{ deps:=[],r:=λ_=>rP hb 0 },{ deps:=[],r:=λ_=>rP hb 0 },{ deps:=[1],r:=λ_=>rP hb 0 },{ deps:=[2],r:=λ_=>rP hb 10 },{ deps:=[3],r:=λ_=>rv hg },{ deps:=[],r:=λ_=>Cz (Si s hp (Af (Af q.fArgs 1) 0).fInt) },{ deps:=[5],r:=λ_=>B4 4 (Bu AQ ([(Ak.mk 4 s hp (Af (Af q.fArgs 1) 0).fInt)]:List Ak)) },{ deps:=[4,6],r:=λhk=>rv hk,dyn:=true }] (λhk=>[CW hk (o.fEffects++([(Ak.mk 4 s hp (Af (Af q.fArgs 1) 0).fInt)]:List Ak)),.blk b2 (Si s hp (Af (Af q.fArgs 1) 0).fInt) 90,EH b1 q,.blk hb (Et o.fAccess.fTenant o.fAccess.fFunction o.fAccess.fOps o.fAccess.fPolicy o.fAccess.fNet o.fAccess.fNow hd pv_v o.fMade o.fAsked hg he hf) 84,CA hd o.fItems,Bl he o.fReads,Bl hf o.fLog]) ?_ (λhk=>?_);exact GW (AE Aa)<|GW (AE Aa)<|GW (BK Aa)<|GW (Aq PF Aa Nk Aa Aa)<|Qz (fun {hk}=>CP (AY 2 Nz Aa Aa Aa)) (fun {hk}=>CP (AY 3 Nz Aa Aa Aa))<|Qz (fun {hk}=>CP (BP 0 IL Dq Aa Aa Aa Aa)) (fun {hk}=>CP (BP 1 IL Dq Aa Aa Aa Aa))<|oxc (C8 (ys:=([(Ak.mk 4 s hp (Af (Af q.fArgs 1) 0).fInt)]:List Ak)) (enc:=AQ) (css:=[(Si s hp (Af (Af q.fArgs 1) 0).fInt)]) (xs:=[.tmp 52]) E1 Dq LC Aa Aa Aa ⟨cA,trivial⟩ Aa BX Aa Aa)<|oxx (EK (i:=4) E1 hinf.1 hinf.2.1 hinf.2.2.1 hinf.2.2.2 Aa Aa Aa Aa Aa (K8.z Aa Aa) BX Dw gf)<|oxe;refine E3 [47,48,49,50,51,52,53,54,0,6] ?_;refine wv Aw<|wv An<|us 3 Nk Aa Aa (DA 0 Aa) Aa Aa ?_;refine Az<|JL [3,3,0,2,2] ?_;cases gg;exact H7 (Y7 AdV) (sM 31 Aa) ⟨hd,hk,he,hf,Aa,Aa⟩
abbrev Jf (x0 x1:Ac)(x2:List Ac)(x3:List Ad)(x4:List A1)(x5:Int)(x6:Value)(x7:Nat)(x8:Bool)(x9:Int)(hb hd he:Value):List Rp:=[rS x0,rS x1,B4 1 (Bu eS x2),B4 3 (Bu AK x3),B4 5 (Bu B1 x4),AZ x5,rv x6,rP x7 0,rB x8,AZ x9,rv hb,rv hd,rv he]
theorem XC (F hh:Nat)(hb hd he hf:Value)(hg:Nat)(hi:Value)(o:Ai)(v:AP)(name:Ac)(r:Bb×Ai)(h:PR F o v name=some r):FN 53 [rP hh 0,rS name] (.blk hh (Jf o.fAccess.fTenant o.fAccess.fFunction o.fAccess.fOps o.fAccess.fPolicy o.fAccess.fNet o.fAccess.fNow hb hg o.fMade o.fAsked hd he hf) 84::.row hb 78 3 (Bu BJ o.fItems)::.row hd 90 4 (Bu AQ o.fEffects)::Bl he o.fReads::Bl hf o.fLog::Df hg v.fMade hi v.fSecrets) (λR H=>∃w0_6:Value,∃w0_10:Value,∃w0_11:Value,∃w0_12:Value,R=Cz (DR r.1)∧H=(.blk hh (Jf r.2.fAccess.fTenant r.2.fAccess.fFunction r.2.fAccess.fOps r.2.fAccess.fPolicy r.2.fAccess.fNet r.2.fAccess.fNow w0_6 hg r.2.fMade r.2.fAsked w0_10 w0_11 w0_12) 84::.row w0_6 78 3 (Bu BJ r.2.fItems)::.row w0_10 90 4 (Bu AQ r.2.fEffects)::Bl w0_11 r.2.fReads::Bl w0_12 r.2.fLog::Df hg v.fMade hi v.fSecrets)):=en Tryz.func53 Tryz.ntmps53 Aa λw Z=>by unfold PR at h;exact Ay<|BY (cs:=D2) Pa Aa Aa λb1=>by refine BU<|ob h λr2 e4 h3=>Dn [0,1,4] ?_;refine rq AD<|rq Aw<|rq An<|rq (Ae 1)<|rq AD<|rq AD<|rq Aw<|rq An<|rq An<|rq (Ae 1)<|IS (QO (Hin:=(Df hg v.fMade hi v.fSecrets)) (Hr:=(.blk b1 D2 46::.blk hh (Jf o.fAccess.fTenant o.fAccess.fFunction o.fAccess.fOps o.fAccess.fPolicy o.fAccess.fNet o.fAccess.fNow hb hg o.fMade o.fAsked hd he hf) 84::CA hb o.fItems::CO hd o.fEffects he o.fReads hf o.fLog)) Tryz.call93 Aa ((Br 6 Aa).trans (Ap5 _ ((Br 6 Aa).trans (Ap5 _ (Ap3 _))))) (AiP F hg hi v name o.fAccess.fFunction r2 e4))<|rq AD<|rq Al<|rq Al<|rq Al<|rq AT<|rq AT<|rq AT<|re [5,7,4] ?_;exact Cy<|AV<|AA Aa<|wv Ci<|AJ<|B2 h3 (λc5 h6=>by refine AA Aa<|wv (CD DG Aa (Eo Aa cN) Aa)<|Eu 0 C3 Aa Aa Aa (Bn.c Aa) Aa Aa ?_;exact DQ<|Ao<|WK.upBlk (i:=0) (cs':=(Of r2.2.2 ([]:List Ab))) Aa ⟨Up.refl _,Up.le (Hx.nil _),trivial⟩<|cs h6▸Ap (Ct AdW (C7 (i:=0) E2 C3 Aa Aa Aa)) (sK 254) ⟨hb,hd,he,hf,Aa,Aa⟩) λc5 h7=>BW<|AA Aa<|ob h7 λr8 hj h9=>BV Tryz.call94 (AgG F r2.1 r8 hj)<|ms Aa<|wv Al<|wv Al<|ms Aa<|BD Aa<|wv Ci<|AJ<|B2 h9 (λhk hl=>by refine AA Aa<|wv (CD DG Aa (Eo Aa cN) Aa)<|Eu 0 C3 Aa Aa Aa (Bn.c Aa) Aa Aa ?_;exact DQ<|Ao<|WK.upBlk (i:=0) (cs':=(Of r8.2 ([]:List Ab))) Aa ⟨Up.refl _,Up.le (Hx.nil _),trivial⟩<|cs hl▸Ap (Ct AdW (C7 (i:=0) E2 C3 Aa Aa Aa)) (sK 254) ⟨hb,hd,he,hf,Aa,Aa⟩) λhk hm=>by refine BW<|AA Aa<|wv (CD DG Aa (Eo Aa cN) Aa)<|Eu 0 C3 Aa Aa Aa (Bn.c Aa) Aa Aa ?_;exact DQ<|cs hm▸Ap (Ct AdW (C7 (i:=0) E2 C3 Aa Aa Aa)) (sK 254) ⟨hb,hd,he,hf,Aa,Aa⟩
abbrev L6 (x0:Nat)(x1 x2:Ac)(x3:List Ac)(x4:List Ad)(x5:List A1)(x6:Int)(x7:Value)(x8:Bool)(x9:Int)(hb hd he:Value):Ent:=.blk x0 [rS x1,rS x2,B4 1 (Bu eS x3),B4 3 (Bu AK x4),B4 5 (Bu B1 x5),AZ x6,rv x7,rv (.pointer none),rB x8,AZ x9,rv hb,rv hd,rv he] 84
theorem XD (F hg:Nat)(hb hd he hf:Value)(o:Ai)(name:Ac)(r:Bb×Ai)(h:PS F o name=some r):FN 53 [rP hg 0,rS name] (L6 hg o.fAccess.fTenant o.fAccess.fFunction o.fAccess.fOps o.fAccess.fPolicy o.fAccess.fNet o.fAccess.fNow hb o.fMade o.fAsked hd he hf::CA hb o.fItems::CO hd o.fEffects he o.fReads hf o.fLog) (λR H=>∃w0_6:Value,∃w0_10:Value,∃w0_11:Value,∃w0_12:Value,R=Cz (DR r.1)∧H=(L6 hg r.2.fAccess.fTenant r.2.fAccess.fFunction r.2.fAccess.fOps r.2.fAccess.fPolicy r.2.fAccess.fNet r.2.fAccess.fNow w0_6 r.2.fMade r.2.fAsked w0_10 w0_11 w0_12::CA w0_6 r.2.fItems::CO w0_10 r.2.fEffects w0_11 r.2.fReads w0_12 r.2.fLog)):=en Tryz.func53 Tryz.ntmps53 Aa λw Z=>by unfold PS at h;exact Ay<|BY (cs:=D2) Pa Aa Aa λb1=>by refine BU<|ob h λr2 e4 h3=>Dn [0,1,4] ?_;refine rq AD<|rq Aw<|rq An<|rq (Ae 1)<|rq AD<|rq AD<|rq Aw<|rq An<|rq An<|rq (Ae 1)<|IS (Dy Tryz.call93 (Abe name o.fAccess.fFunction r2 e4) Aa)<|rq AD<|rq Al<|rq Al<|rq Al<|rq AT<|rq AT<|rq AT<|re [5,7,4] ?_;exact Cy<|AV<|AA Aa<|wv Ci<|AJ<|B2 h3 (λc5 h6=>by refine AA Aa<|wv (CD DG Aa (Eo Aa cN) Aa)<|Eu 0 C3 Aa Aa Aa (Bn.c Aa) Aa Aa ?_;exact DQ<|Ao<|WK.upBlk (i:=0) (cs':=(Of r2.2.2 ([]:List Ab))) Aa ⟨Up.refl _,Up.le (Hx.nil _),trivial⟩<|cs h6▸Ap (Ct AdW (C7 (i:=0) E2 C3 Aa Aa Aa)) (sK 62) ⟨hb,hd,he,hf,Aa,Aa⟩) λc5 h7=>BW<|AA Aa<|ob h7 λr8 hh h9=>BV Tryz.call94 (AgG F r2.1 r8 hh)<|ms Aa<|wv Al<|wv Al<|ms Aa<|BD Aa<|wv Ci<|AJ<|B2 h9 (λhi hj=>by refine AA Aa<|wv (CD DG Aa (Eo Aa cN) Aa)<|Eu 0 C3 Aa Aa Aa (Bn.c Aa) Aa Aa ?_;exact DQ<|Ao<|WK.upBlk (i:=0) (cs':=(Of r8.2 ([]:List Ab))) Aa ⟨Up.refl _,Up.le (Hx.nil _),trivial⟩<|cs hj▸Ap (Ct AdW (C7 (i:=0) E2 C3 Aa Aa Aa)) (sK 62) ⟨hb,hd,he,hf,Aa,Aa⟩) λhi hk=>by refine BW<|AA Aa<|wv (CD DG Aa (Eo Aa cN) Aa)<|Eu 0 C3 Aa Aa Aa (Bn.c Aa) Aa Aa ?_;exact DQ<|cs hk▸Ap (Ct AdW (C7 (i:=0) E2 C3 Aa Aa Aa)) (sK 62) ⟨hb,hd,he,hf,Aa,Aa⟩
theorem AgL (F hb:Nat)(hd he hf hh:Value)(hg:Nat)(hj:Value)(o:Ai)(v:AP)(q:A6)(r:Bb×Ai)(h:U2 F o v q=some r):FN 9 [rP hb 0,Cz (Ce q)] (.blk hb (Jf o.fAccess.fTenant o.fAccess.fFunction o.fAccess.fOps o.fAccess.fPolicy o.fAccess.fNet o.fAccess.fNow hd hg o.fMade o.fAsked he hf hh) 84::.row hd 78 3 (Bu BJ o.fItems)::.row he 90 4 (Bu AQ o.fEffects)::Bl hf o.fReads::Bl hh o.fLog::Df hg v.fMade hj v.fSecrets) (λR H=>∃w0_6:Value,∃w0_10:Value,∃w0_11:Value,∃w0_12:Value,R=Cz (DR r.1)∧H=(.blk hb (Jf r.2.fAccess.fTenant r.2.fAccess.fFunction r.2.fAccess.fOps r.2.fAccess.fPolicy r.2.fAccess.fNet r.2.fAccess.fNow w0_6 hg r.2.fMade r.2.fAsked w0_10 w0_11 w0_12) 84::.row w0_6 78 3 (Bu BJ r.2.fItems)::.row w0_10 90 4 (Bu AQ r.2.fEffects)::Bl w0_11 r.2.fReads::Bl w0_12 r.2.fLog::Df hg v.fMade hj v.fSecrets)):=en Tryz.func9 Tryz.ntmps9 Aa λw Z=>by unfold U2 at h;exact Ay<|Cb Aa Aa λb1=>BY (cs:=D2) Pa Aa Aa λb2=>BU<|Ar [(0,rP hb 0),(3,rP b1 0),(4,rP b2 0),(20,rB (!o.fMade))] (.blk b2 D2 46::.blk b1 (Ce q) 50::.blk hb (Jf o.fAccess.fTenant o.fAccess.fFunction o.fAccess.fOps o.fAccess.fPolicy o.fAccess.fNet o.fAccess.fNow hd hg o.fMade o.fAsked he hf hh) 84::.row hd 78 3 (Bu BJ o.fItems)::.row he 90 4 (Bu AQ o.fEffects)::Bl hf o.fReads::Bl hh o.fLog::Df hg v.fMade hj v.fSecrets) (B7 Aa<|wv (Hk ⟨_,AfN⟩ Aa)<|ms Aa<|Iw Aa<|ms Aa<|Iw Aa<|wv Aw<|Iw Aa<|wv An<|Iw Aa<|wv (Ae 2)<|Iw Aa<|wv BQ<|wv (Am Aa)<|Az<|wt)<|B2 h (λc3 h4=>by refine Ay<|wv (CD DG Aa (Eo Aa cN) Aa)<|Eu 0 C3 Aa Aa Aa (Bn.c Aa) Aa Aa ?_;exact DQ<|Ao<|WK.upBlk (i:=0) (cs':=[AZ 10,B4 4 (Bu A5 ([]:List Ab))]) Aa ⟨Up.refl _,Up.le (Hx.nil _),trivial⟩<|cs h4▸Ap (Ct Y6 (C7 (i:=0) E2 C3 Aa Aa Aa)) (sK 508) ⟨hd,he,hf,hh,Aa,Aa⟩) λc3 h5=>Bt<|AA Aa<|wv Aw<|wv An<|wv (Ae 2)<|wv DK<|AJ<|B2 h5 (λc6 h7=>by refine Ay<|wv (CD DG Aa (Eo Aa cN) Aa)<|Eu 0 C3 Aa Aa Aa (Bn.c Aa) Aa Aa ?_;exact DQ<|Ao<|WK.upBlk (i:=0) (cs':=[AZ 3,B4 4 (Bu A5 ([]:List Ab))]) Aa ⟨Up.refl _,Up.le (Hx.nil _),trivial⟩<|cs h7▸Ap (Ct Y6 (C7 (i:=0) E2 C3 Aa Aa Aa)) (sK 508) ⟨hd,he,hf,hh,Aa,Aa⟩) λc6 h8=>by refine BW<|AA Aa<|wv Aw<|wv An<|wv (Ae 2)<|ck h8 λg9 hq=>wv (Bh g9)<|wv Aw<|wv An<|us 2 K9 Aa Aa (Cl Aa) Aa Aa ?_;refine BU<|Lc 5 [0,3,4] [I0 [] (rP hb 0),I0 [0] (rP hb 0),I0 [1] (rP hb 0),I0 [2] (Cz (Cv o.fAccess)),I0 [] (Cz (Ce q))] ?_ (λβ=>?_);exact P1 (AE Aa)<|P1 (BK Aa)<|P1 (Aq PF Aa LD Aa Aa)<|V8 (BP 2 Aeh LD Aa Aa Aa Aa)<|V8 (BP 1 AfZ AdP Aa Aa Aa Aa)<|oae;refine E3 [36,37,38,39,40,0,3,4] ?_;exact ob hq λhn hr hs=>BV Tryz.call46 (QK F o.fAccess q hn hr)<|ms Aa<|BD Aa<|wv Ci<|AJ<|B2 hs (λht hu=>by refine AA Aa<|wv (CD DG Aa (Eo Aa cN) Aa)<|Eu 0 C3 Aa Aa Aa (Bn.c Aa) Aa Aa ?_;exact DQ<|Ao<|WK.upBlk (i:=0) (cs':=(Of hn ([]:List Ab))) Aa ⟨Up.refl _,Up.le (Hx.nil _),trivial⟩<|cs hu▸Ap (Ct Y6 (C7 (i:=0) E2 C3 Aa Aa Aa)) (sK 508) ⟨hd,he,hf,hh,Aa,Aa⟩) λht hw=>Bt<|Ay<|wv An<|wv (Ae 1)<|wv BA<|AJ<|B2 hw (λhx hy=>by refine AA Aa<|wv Aw<|wv An<|wv An<|wv (Ae 2)<|ob hy λhz h0 h1=>BV Tryz.call47 (AgK F o.fAccess.fNow hz h0)<|ms Aa<|wv Al<|wv Al<|ms Aa<|BM Aa<|wv (CD DG Aa (Eo Aa cN) Aa)<|Eu 0 C3 Aa Aa Aa (Bn.c Aa) Aa Aa ?_;exact DQ<|Ao<|cs h1▸Ap (Ct Y6 (C7 (i:=0) E2 C3 Aa Aa Aa)) (sK 508) ⟨hd,he,hf,hh,Aa,Aa⟩) λhx h2=>Bt<|Ay<|wv An<|wv (Ae 1)<|wv BA<|AJ<|B2 h2 (λh3 h6=>by refine Ay<|wv An<|wv (Ae 1)<|ck h6 λh9 hA=>wv (AX h9)<|wv AS<|ob hA λhl hB hC=>BV Tryz.call48 (W4 F (Af q.fArgs 0) hl hB)<|ms Aa<|wv Al<|wv Al<|ms Aa<|BU<|ob hC λhk hp hD=>ck hD λhE hG=>Exists.elim Ir λinf hinf=>Iy 13 12 [0,4,8] [] [{ deps:=[],r:=λ_=>rP hb 0 },{ deps:=[],r:=λ_=>rP hb 0 },{ deps:=[1],r:=λ_=>rP hb 0 },{ deps:=[2],r:=λ_=>rP hb 12 },{ deps:=[3],r:=λ_=>rv hh },{ deps:=[],r:=λ_=>rP hb 0 },{ deps:=[5],r:=λ_=>rP hb 0 },{ deps:=[6],r:=λ_=>rP hb 7 },{ deps:=[7],r:=λ_=>rP hg 0 },{ deps:=[],r:=λ_=>rS hl.1 },{ deps:=[8,9],r:=λ_=>rS hk },{ deps:=[10],r:=λ_=>B4 1 (Bu eS ([hk]:List Ac)) },{ deps:=[4,11],r:=λhi=>rv hi,dyn:=true }] (λhi=>(Bl hi (o.fLog++([hk]:List Ac))::.blk b2 D2 46::.blk b1 (Ce q) 50::.blk hb (Jf o.fAccess.fTenant o.fAccess.fFunction o.fAccess.fOps o.fAccess.fPolicy o.fAccess.fNet o.fAccess.fNow hd hg o.fMade (o.fAsked+1) he hf hh) 84::.row hd 78 3 (Bu BJ o.fItems)::.row he 90 4 (Bu AQ o.fEffects)::Bl hf o.fReads::Df hg v.fMade hj v.fSecrets)) ?_ (λhi=>?_);exact GW (AE Aa)<|GW (AE Aa)<|GW (BK Aa)<|GW (Aq PF Aa Ge Aa Aa)<|Qz (fun {hi}=>CP (AY 2 Ka Aa Aa Aa)) (fun {hi}=>CP (AY 3 Ka Aa Aa Aa))<|GW (AE Aa)<|GW (BK Aa)<|GW (Aq PF Aa AiA Aa Aa)<|Qz (fun {hi}=>CP (AY 2 Aga Aa Aa Aa)) (fun {hi}=>CP (AY 3 Aga Aa Aa Aa))<|GW (AE Aa)<|Qz (fun {hi}=>QO (Hin:=(Df hg v.fMade hj v.fSecrets)) (Hr:=(.blk b2 D2 46::.blk b1 (Ce q) 50::.blk hb (Jf o.fAccess.fTenant o.fAccess.fFunction o.fAccess.fOps o.fAccess.fPolicy o.fAccess.fNet o.fAccess.fNow hd hg o.fMade (o.fAsked+1) he hf hh) 84::CA hd o.fItems::CO he o.fEffects hf o.fReads hh o.fLog)) Tryz.call49 Aa ((Br 7 Aa).trans (Ap5 _ ((Br 7 Aa).trans (Ap5 _ (Ap3 _))))) (Wn F hg hj v hl.1 hk hp)) (fun {hi}=>QO (Hin:=(Df hg v.fMade hj v.fSecrets)) (Hr:=[Bl hi (o.fLog++([hk]:List Ac)),.blk b2 D2 46,EH b1 q,.blk hb (Jf o.fAccess.fTenant o.fAccess.fFunction o.fAccess.fOps o.fAccess.fPolicy o.fAccess.fNet o.fAccess.fNow hd hg o.fMade (o.fAsked+1) he hf hh) 84,CA hd o.fItems,CW he o.fEffects,Bl hf o.fReads]) Tryz.call49 Aa ((Br 7 Aa).trans (Ap5 _ ((Br 7 Aa).trans (Ap5 _ (Ap3 _))))) (Wn F hg hj v hl.1 hk hp))<|oxc (C8 (ys:=([hk]:List Ac)) (enc:=eS) (css:=[[rS hk]]) (xs:=[.tmp 81]) Dm Ew SE Aa Aa Aa ⟨cO Aa,trivial⟩ Aa CK Aa Aa)<|oxx (EK (i:=6) Dm hinf.1 hinf.2.1 hinf.2.2.1 hinf.2.2.2 Aa Aa Aa Aa Aa (K8.z Aa Aa) CK G3 hE)<|oxe;refine E3 [71,72,73,74,75,76,77,78,79,80,81,82,83,0,4,8] ?_;refine wv Aw<|wv An<|us 3 Ge Aa Aa (DA 0 Aa) Aa Aa ?_;refine Dc<|ob hG λhH hI hJ=>BV Aee (O1 hH hI)<|wv (CD DG Aa (Eo Aa cN) Aa)<|Eu 1 C3 Aa Aa Aa (Bn.c Aa) Aa Aa ?_;refine DQ<|Ao<|JL [3,3,3,3,0,2,2] ?_;exact cs hJ▸Ap (Ct Y6 (C7 (i:=7) E2 C3 Aa Aa Aa)) (sK 127) ⟨hd,he,hf,hi,Aa,Aa⟩) λh3 hK=>BW<|Ay<|wv An<|wv (Ae 1)<|ck hK λhL hN=>wv (AX hL)<|wv AS<|ob hN λhm hO hP=>BV Tryz.call51 (QI F (Af q.fArgs 0) hm hO)<|ms Aa<|wv Al<|wv Al<|ms Aa<|BU<|Ay<|wv An<|wv (Ae 1)<|wv BA<|AJ<|B2 hP (λhQ hR=>by refine AA Aa<|ob hR λhS hT hU=>EX [2,2,2,2,2] Tryz.call52 (Z1 F hb hd he hf hh (some ⟨hg,0,none⟩) (Ai.mk o.fAccess o.fItems () o.fMade (o.fAsked+1) o.fEffects o.fReads o.fLog) hm.1 hS hT) ?_;rintro _ _ ⟨hV,v51,hW,v53,rfl,rfl⟩;refine wv (CD DG Aa (Eo Aa cN) Aa)<|Eu 5 C3 Aa Aa Aa (Bn.c Aa) Aa Aa ?_;exact DQ<|Ao<|cs hU▸Ap (Ct Y6 (C7 (i:=5) E2 C3 Aa Aa Aa)) (sK 415) ⟨hV,v51,hW,v53,Aa,Aa⟩) λhQ hX=>by exact Bt<|Ay<|wv An<|wv (Ae 1)<|wv BA<|AJ<|B2 hX (λhY hZ=>by refine AA Aa<|ob hZ λga gb gc=>EX [2,2,2,2,2,2,2] Tryz.call53 (XC F hb hd he hf hh hg hj (Ai.mk o.fAccess o.fItems () o.fMade (o.fAsked+1) o.fEffects o.fReads o.fLog) v hm.1 ga gb) ?_;rintro _ _ ⟨gd,gf,gg,gh,rfl,rfl⟩;refine Eu 7 C3 Aa Aa Aa (Bn.c Aa) Aa Aa ?_;exact DQ<|Ao<|cs gc▸Ap (Ct Y6 (C7 (i:=7) E2 C3 Aa Aa Aa)) (sK 127) ⟨gd,gf,gg,gh,Aa,Aa⟩) λhY gi=>Bt<|Ay<|wv An<|wv (Ae 1)<|wv BA<|AJ<|B2 gi (λgj gl=>by refine Ay<|wv An<|wv (Ae 1)<|ck gl λgm gp=>wv (AX gm)<|wv AS<|ob gp λgq gr gs=>BV TX (He (Af q.fArgs 1) gq gr)<|wv (CD DG Aa (Eo Aa cN) Aa)<|Eu 0 C3 Aa Aa Aa (Bn.c Aa) Aa Aa ?_;exact DQ<|Ao<|cs gs▸Ap (Ct Y6 (C7 (i:=0) E2 C3 Aa Aa Aa)) (sK 508) ⟨hd,he,hf,hh,Aa,Aa⟩) λgj gu=>by refine BW<|AA Aa<|wv (B0 1)<|ms Aa<|ob gu λgv gw gx=>EX [2,2,2,2,2] Tryz.call54 (SR hb hd he hf hh (some ⟨hg,0,none⟩) (Ai.mk o.fAccess o.fItems () o.fMade (o.fAsked+1) o.fEffects o.fReads o.fLog) q hm.1 gv gw) ?_;rintro _ _ ⟨v76,gy,gz,g0,rfl,rfl⟩;refine Dc<|ob gx λg1 g2 g3=>BV Aee (O1 g1 g2)<|wv (CD DG Aa (Eo Aa cN) Aa)<|Eu 5 C3 Aa Aa Aa (Bn.c Aa) Aa Aa ?_;exact DQ<|cs g3▸Ap (Ct Y6 (C7 (i:=5) E2 C3 Aa Aa Aa)) (sK 415) ⟨v76,gy,gz,g0,Aa,Aa⟩
theorem AgN (F hb:Nat)(hd he hf hg:Value)(o:Ai)(q:A6)(r:Bb×Ai)(h:U3 F o q=some r):FN 9 [rP hb 0,Cz (Ce q)] (L6 hb o.fAccess.fTenant o.fAccess.fFunction o.fAccess.fOps o.fAccess.fPolicy o.fAccess.fNet o.fAccess.fNow hd o.fMade o.fAsked he hf hg::CA hd o.fItems::CO he o.fEffects hf o.fReads hg o.fLog) (λR H=>∃w0_6:Value,∃w0_10:Value,∃w0_11:Value,∃w0_12:Value,R=Cz (DR r.1)∧H=(L6 hb r.2.fAccess.fTenant r.2.fAccess.fFunction r.2.fAccess.fOps r.2.fAccess.fPolicy r.2.fAccess.fNet r.2.fAccess.fNow w0_6 r.2.fMade r.2.fAsked w0_10 w0_11 w0_12::CA w0_6 r.2.fItems::CO w0_10 r.2.fEffects w0_11 r.2.fReads w0_12 r.2.fLog)):=en Tryz.func9 Tryz.ntmps9 Aa λw Z=>by unfold U3 at h;exact Ay<|Cb Aa Aa λb1=>BY (cs:=D2) Pa Aa Aa λb2=>BU<|Ar [(0,rP hb 0),(3,rP b1 0),(4,rP b2 0),(20,rB (!o.fMade))] (.blk b2 D2 46::.blk b1 (Ce q) 50::L6 hb o.fAccess.fTenant o.fAccess.fFunction o.fAccess.fOps o.fAccess.fPolicy o.fAccess.fNet o.fAccess.fNow hd o.fMade o.fAsked he hf hg::CA hd o.fItems::CO he o.fEffects hf o.fReads hg o.fLog) (B7 Aa<|wv (Hk ⟨_,AfN⟩ Aa)<|ms Aa<|Iw Aa<|ms Aa<|Iw Aa<|wv Aw<|Iw Aa<|wv An<|Iw Aa<|wv (Ae 2)<|Iw Aa<|wv BQ<|wv (Am Aa)<|Az<|wt)<|B2 h (λc3 h4=>by refine Ay<|wv (CD DG Aa (Eo Aa cN) Aa)<|Eu 0 C3 Aa Aa Aa (Bn.c Aa) Aa Aa ?_;exact DQ<|Ao<|WK.upBlk (i:=0) (cs':=[AZ 10,B4 4 (Bu A5 ([]:List Ab))]) Aa ⟨Up.refl _,Up.le (Hx.nil _),trivial⟩<|cs h4▸Ap (Ct Y6 (C7 (i:=0) E2 C3 Aa Aa Aa)) (sK 124) ⟨hd,he,hf,hg,Aa,Aa⟩) λc3 h5=>Bt<|AA Aa<|wv Aw<|wv An<|wv (Ae 2)<|wv DK<|AJ<|B2 h5 (λc6 h7=>by refine Ay<|wv (CD DG Aa (Eo Aa cN) Aa)<|Eu 0 C3 Aa Aa Aa (Bn.c Aa) Aa Aa ?_;exact DQ<|Ao<|WK.upBlk (i:=0) (cs':=[AZ 3,B4 4 (Bu A5 ([]:List Ab))]) Aa ⟨Up.refl _,Up.le (Hx.nil _),trivial⟩<|cs h7▸Ap (Ct Y6 (C7 (i:=0) E2 C3 Aa Aa Aa)) (sK 124) ⟨hd,he,hf,hg,Aa,Aa⟩) λc6 h8=>by refine BW<|AA Aa<|wv Aw<|wv An<|wv (Ae 2)<|ck h8 λg9 hm=>wv (Bh g9)<|wv Aw<|wv An<|us 2 K9 Aa Aa (Cl Aa) Aa Aa ?_;refine BU<|Lc 5 [0,3,4] [I0 [] (rP hb 0),I0 [0] (rP hb 0),I0 [1] (rP hb 0),I0 [2] (Cz (Cv o.fAccess)),I0 [] (Cz (Ce q))] ?_ (λβ=>?_);exact P1 (AE Aa)<|P1 (BK Aa)<|P1 (Aq PF Aa LD Aa Aa)<|V8 (BP 2 Aeh LD Aa Aa Aa Aa)<|V8 (BP 1 AfZ AdP Aa Aa Aa Aa)<|oae;refine E3 [36,37,38,39,40,0,3,4] ?_;exact ob hm λhl hn hp=>BV Tryz.call46 (QK F o.fAccess q hl hn)<|ms Aa<|BD Aa<|wv Ci<|AJ<|B2 hp (λhq hr=>by refine AA Aa<|wv (CD DG Aa (Eo Aa cN) Aa)<|Eu 0 C3 Aa Aa Aa (Bn.c Aa) Aa Aa ?_;exact DQ<|Ao<|WK.upBlk (i:=0) (cs':=(Of hl ([]:List Ab))) Aa ⟨Up.refl _,Up.le (Hx.nil _),trivial⟩<|cs hr▸Ap (Ct Y6 (C7 (i:=0) E2 C3 Aa Aa Aa)) (sK 124) ⟨hd,he,hf,hg,Aa,Aa⟩) λhq hs=>Bt<|Ay<|wv An<|wv (Ae 1)<|wv BA<|AJ<|B2 hs (λht hu=>by refine AA Aa<|wv Aw<|wv An<|wv An<|wv (Ae 2)<|ob hu λhw hx hy=>BV Tryz.call47 (AgK F o.fAccess.fNow hw hx)<|ms Aa<|wv Al<|wv Al<|ms Aa<|BM Aa<|wv (CD DG Aa (Eo Aa cN) Aa)<|Eu 0 C3 Aa Aa Aa (Bn.c Aa) Aa Aa ?_;exact DQ<|Ao<|cs hy▸Ap (Ct Y6 (C7 (i:=0) E2 C3 Aa Aa Aa)) (sK 124) ⟨hd,he,hf,hg,Aa,Aa⟩) λht hz=>Bt<|Ay<|wv An<|wv (Ae 1)<|wv BA<|AJ<|B2 hz (λh0 h1=>by refine Ay<|wv An<|wv (Ae 1)<|ck h1 λh2 h3=>wv (AX h2)<|wv AS<|ob h3 λhk h6 h9=>BV Tryz.call48 (W4 F (Af q.fArgs 0) hk h6)<|ms Aa<|wv Al<|wv Al<|ms Aa<|BU<|ob h9 λhi hA hB=>ck hB λhC hD=>Exists.elim Ir λinf hinf=>Iy 13 12 [0,4,8] [] [{ deps:=[],r:=λ_=>rP hb 0 },{ deps:=[],r:=λ_=>rP hb 0 },{ deps:=[1],r:=λ_=>rP hb 0 },{ deps:=[2],r:=λ_=>rP hb 12 },{ deps:=[3],r:=λ_=>rv hg },{ deps:=[],r:=λ_=>rP hb 0 },{ deps:=[5],r:=λ_=>rP hb 0 },{ deps:=[6],r:=λ_=>rP hb 7 },{ deps:=[7],r:=λ_=>rv (.pointer none) },{ deps:=[],r:=λ_=>rS hk.1 },{ deps:=[8,9],r:=λ_=>rS hi },{ deps:=[10],r:=λ_=>B4 1 (Bu eS ([hi]:List Ac)) },{ deps:=[4,11],r:=λhh=>rv hh,dyn:=true }] (λhh=>[Bl hh (o.fLog++([hi]:List Ac)),.blk b2 D2 46,EH b1 q,L6 hb o.fAccess.fTenant o.fAccess.fFunction o.fAccess.fOps o.fAccess.fPolicy o.fAccess.fNet o.fAccess.fNow hd o.fMade (o.fAsked+1) he hf hg,CA hd o.fItems,CW he o.fEffects,Bl hf o.fReads]) ?_ (λhh=>?_);exact GW (AE Aa)<|GW (AE Aa)<|GW (BK Aa)<|GW (Aq PF Aa Ge Aa Aa)<|Qz (fun {hh}=>CP (AY 2 Ka Aa Aa Aa)) (fun {hh}=>CP (AY 3 Ka Aa Aa Aa))<|GW (AE Aa)<|GW (BK Aa)<|GW (Aq PF Aa AiA Aa Aa)<|Qz (fun {hh}=>CP (AY 2 Aga Aa Aa Aa)) (fun {hh}=>CP (AY 3 Aga Aa Aa Aa))<|GW (AE Aa)<|oxc (Dy Tryz.call49 (Xu hk.1 hi hA) Aa)<|oxc (C8 (ys:=([hi]:List Ac)) (enc:=eS) (css:=[[rS hi]]) (xs:=[.tmp 81]) Dm Ew SE Aa Aa Aa ⟨cO Aa,trivial⟩ Aa CK Aa Aa)<|oxx (EK (i:=6) Dm hinf.1 hinf.2.1 hinf.2.2.1 hinf.2.2.2 Aa Aa Aa Aa Aa (K8.z Aa Aa) CK G3 hC)<|oxe;refine E3 [71,72,73,74,75,76,77,78,79,80,81,82,83,0,4,8] ?_;refine wv Aw<|wv An<|us 3 Ge Aa Aa (DA 0 Aa) Aa Aa ?_;refine Dc<|ob hD λhE hG hH=>BV Aee (O1 hE hG)<|wv (CD DG Aa (Eo Aa cN) Aa)<|Eu 1 C3 Aa Aa Aa (Bn.c Aa) Aa Aa ?_;refine DQ<|Ao<|JL [3,3,3,3] ?_;exact cs hH▸Ap (Ct Y6 (C7 (i:=5) E2 C3 Aa Aa Aa)) (sK 31) ⟨hd,he,hf,hh,Aa,Aa⟩) λh0 hI=>BW<|Ay<|wv An<|wv (Ae 1)<|ck hI λhJ hK=>wv (AX hJ)<|wv AS<|ob hK λhj hL hN=>BV Tryz.call51 (QI F (Af q.fArgs 0) hj hL)<|ms Aa<|wv Al<|wv Al<|ms Aa<|BU<|Ay<|wv An<|wv (Ae 1)<|wv BA<|AJ<|B2 hN (λhO hP=>by refine AA Aa<|ob hP λhQ hR hS=>EX [2,2,2,2,2] Tryz.call52 (Z1 F hb hd he hf hg none (Ai.mk o.fAccess o.fItems () o.fMade (o.fAsked+1) o.fEffects o.fReads o.fLog) hj.1 hQ hR) ?_;rintro _ _ ⟨hT,v51,hU,v53,rfl,rfl⟩;refine wv (CD DG Aa (Eo Aa cN) Aa)<|Eu 5 C3 Aa Aa Aa (Bn.c Aa) Aa Aa ?_;exact DQ<|Ao<|cs hS▸Ap (Ct Y6 (C7 (i:=5) E2 C3 Aa Aa Aa)) (sK 31) ⟨hT,v51,hU,v53,Aa,Aa⟩) λhO hV=>by exact Bt<|Ay<|wv An<|wv (Ae 1)<|wv BA<|AJ<|B2 hV (λhW hX=>by refine AA Aa<|ob hX λhY hZ ga=>EX [2,2,2,2,2] Tryz.call53 (XD F hb hd he hf hg (Ai.mk o.fAccess o.fItems () o.fMade (o.fAsked+1) o.fEffects o.fReads o.fLog) hj.1 hY hZ) ?_;rintro _ _ ⟨gb,gc,gd,gf,rfl,rfl⟩;refine Eu 5 C3 Aa Aa Aa (Bn.c Aa) Aa Aa ?_;exact DQ<|Ao<|cs ga▸Ap (Ct Y6 (C7 (i:=5) E2 C3 Aa Aa Aa)) (sK 31) ⟨gb,gc,gd,gf,Aa,Aa⟩) λhW gg=>Bt<|Ay<|wv An<|wv (Ae 1)<|wv BA<|AJ<|B2 gg (λgh gi=>by refine Ay<|wv An<|wv (Ae 1)<|ck gi λgj gl=>wv (AX gj)<|wv AS<|ob gl λgm gp gq=>BV TX (He (Af q.fArgs 1) gm gp)<|wv (CD DG Aa (Eo Aa cN) Aa)<|Eu 0 C3 Aa Aa Aa (Bn.c Aa) Aa Aa ?_;exact DQ<|Ao<|cs gq▸Ap (Ct Y6 (C7 (i:=0) E2 C3 Aa Aa Aa)) (sK 124) ⟨hd,he,hf,hg,Aa,Aa⟩) λgh gr=>by refine BW<|AA Aa<|wv (B0 1)<|ms Aa<|ob gr λgs gu gv=>EX [2,2,2,2,2] Tryz.call54 (SR hb hd he hf hg none (Ai.mk o.fAccess o.fItems () o.fMade (o.fAsked+1) o.fEffects o.fReads o.fLog) q hj.1 gs gu) ?_;rintro _ _ ⟨v76,gw,gx,gy,rfl,rfl⟩;refine Dc<|ob gv λgz g0 g1=>BV Aee (O1 gz g0)<|wv (CD DG Aa (Eo Aa cN) Aa)<|Eu 5 C3 Aa Aa Aa (Bn.c Aa) Aa Aa ?_;exact DQ<|cs g1▸Ap (Ct Y6 (C7 (i:=5) E2 C3 Aa Aa Aa)) (sK 31) ⟨v76,gw,gx,gy,Aa,Aa⟩
theorem QG (F hh:Nat)(hd he hf hg:Value)(pv_v:Option Addr)(o:Ai)(r:(List Ak))(h:Hc F o=some r):FN 13 [rP hh 0] (.blk hh (Et o.fAccess.fTenant o.fAccess.fFunction o.fAccess.fOps o.fAccess.fPolicy o.fAccess.fNet o.fAccess.fNow hd pv_v o.fMade o.fAsked he hf hg) 84::CA hd o.fItems::CO he o.fEffects hf o.fReads hg o.fLog) (λR H=>R=B4 4 (Bu AQ r)∧H=(.blk hh (Et o.fAccess.fTenant o.fAccess.fFunction o.fAccess.fOps o.fAccess.fPolicy o.fAccess.fNet o.fAccess.fNow hd pv_v o.fMade o.fAsked he hf hg) 84::CA hd o.fItems::CO he o.fEffects hf o.fReads hg o.fLog)):=en Tryz.func13 Tryz.ntmps13 Aa λw Z=>by unfold Hc at h;exact AA Aa<|Dc<|DP ([]:List Ak) AQ E1 Dq LC Aa trivial BX λb1=>ms Aa<|BD Aa<|wv (Hk ⟨_,AfN⟩ Aa)<|AJ<|CV Aa Aa<|Bt<|AA Aa<|AJ<|Au<|Pq [1,1,1,1,1] Aa<|ob h λhp hq hr=>Bk (V:=((List Ak))×Value) 0 (λσ=>Cg (λσ=>Ee o σ.1 σ.2) σ.1 σ.2.1=some hp) (λσ=>[(0,rP hh 0),(3,rv σ.2.2),(4,AZ σ.2.1.2)]) (λσ=>[.blk hh (Et o.fAccess.fTenant o.fAccess.fFunction o.fAccess.fOps o.fAccess.fPolicy o.fAccess.fNet o.fAccess.fNow hd pv_v o.fMade o.fAsked he hf hg) 84,CA hd o.fItems,CW he o.fEffects,Bl hf o.fReads,Bl hg o.fLog,CW σ.2.2 σ.2.1.1]) (λσ=>σ.1) (F,(([]:List Ak),0),(.slice (some ⟨b1,0,none⟩) 0 0)) hq (A7 Aa) (sM 63 Aa) (λσ=>Ju σ.1=some r) (λσ=>[(3,rv σ.2)]) (λσ=>[.blk hh (Et o.fAccess.fTenant o.fAccess.fFunction o.fAccess.fOps o.fAccess.fPolicy o.fAccess.fNet o.fAccess.fNow hd pv_v o.fMade o.fAsked he hf hg) 84,CA hd o.fItems,CW he o.fEffects,Bl hf o.fReads,Bl hg o.fLog,CW σ.2 σ.1]) (by rintro⟨hB,⟨hj,hb⟩,hs⟩ ht;refine EG ?_;obtain⟨hu,rfl,hw,hk,hm⟩:=Cq ht;have hk:Ee o hj hb=some hw:=hk;exact AV<|AA Aa<|wv Aw<|wv An<|wv (Ae 0)<|wv (CS 2 E1 Aa Aa)<|wv BI<|AJ<|B2 hk (λhx hy=>Bt<|Au<|AA Aa<|wv Aw<|wv An<|wv (Ae 0)<|ms Aa<|ck hy λhn hz=>wv (Dj 2 E1 Dq Aa Aa Aa (Bz hn))<|wv (OE (enc:=AQ) (ys:=o.fEffects) (i:=2) (j:=hb) IL Dq Aa Aa hn Aa Aa)<|BY (cs:=(L5 ([]:Ac))) LC Aa Aa λhC=>by refine Eu 0 Dq Aa Aa Aa (Bn.c Aa) Aa Aa ?_;refine Dc<|wv An<|wv (Ae 0)<|ob hz λhl h0 h1=>BV TX (He (Af o.fEffects hb).fValue hl h0)<|wv An<|us 0 EW Aa Aa (Cl Aa) Aa Aa ?_;exact AJ<|B7 Aa<|wv (B0 0)<|DP ([(Ak.mk (Af o.fEffects hb).fKind (Af o.fEffects hb).fKey hl (Af o.fEffects hb).fDelay)]:List Ak) AQ E1 Dq LC Aa ⟨cA,trivial⟩ BX λhD=>ck h1 λh2 h3=>IM 7 E1 L2 Aa Aa (K8.w 0 Aa Aa) BX Dw h2 λh4=>by refine Bg Aa<|CR<|B7 Aa<|ck h3 λh5 h6=>wv (Bh h5)<|Bg Aa<|JL [3,3,3,3,3] ?_;exact have h7:=Bd h6 hm;Ax (As (hu,(hj++([(Ak.mk (Af o.fEffects hb).fKind (Af o.fEffects hb).fKey hl (Af o.fEffects hb).fDelay)]:List Ak),hb+1),h4) ⟨h7,Apu _⟩ (A7 Aa) (sC (sC (sC (sC (sC (sC (sS (sS sN)))))))))) λhx h8=>Bs<|Ah<|have h9:=BG h8 hm hr;Ah (AN (As (hj,hs) h9 (A7 Aa) (sC (sC (sC (sC (sC (sC sN)))))))))<|by rintro⟨hA,hE⟩ hi;refine Gw ?_;exact have hi:Ju hA=some r:=hi;by unfold Ju at hi;exact AR<|Cy<|B6 Aa<|WK.freeze (i:=5) Aa<|WK.up (d:=2) Aa (Up.fact 0 Aa)<|cs hi▸Ap (Ct Tryz.results13 AW) (sK 62) ⟨Aa,Aa⟩
theorem Uz (hg:Nat)(hb hd he hf:Value)(pv_v:Option Addr)(o:Ai)(r:(List Ac))(h:KH o=some r):FN 16 [rP hg 0] (.blk hg (Et o.fAccess.fTenant o.fAccess.fFunction o.fAccess.fOps o.fAccess.fPolicy o.fAccess.fNet o.fAccess.fNow hb pv_v o.fMade o.fAsked hd he hf) 84::CA hb o.fItems::CO hd o.fEffects he o.fReads hf o.fLog) (λR H=>R=B4 1 (Bu eS r)∧H=(.blk hg (Et o.fAccess.fTenant o.fAccess.fFunction o.fAccess.fOps o.fAccess.fPolicy o.fAccess.fNet o.fAccess.fNow hb pv_v o.fMade o.fAsked hd he hf) 84::CA hb o.fItems::CO hd o.fEffects he o.fReads hf o.fLog)):=en Tryz.func16 Tryz.ntmps16 Aa λw Z=>by unfold KH at h;exact AA Aa<|BD Aa<|wv (Hk ⟨_,AfN⟩ Aa)<|AJ<|CV Aa Aa<|BW<|Ay<|DP ([]:List Ac) eS Dm Ew SE Aa trivial CK λb1=>ms Aa<|wv Aw<|wv An<|wv (Ae 1)<|ck h λg3 h4=>IM 0 Dm Ir Aa Aa (K8.w 4 Aa Aa) CK G3 g3 λv2=>By Aa<|WK.freeze (i:=0) Aa<|WK.up (d:=2) Aa (Up.fact 0 Aa)<|cs h4▸Ap (Ct Tryz.results16 AW) (sK 62) ⟨Aa,Aa⟩
theorem Zy (hg:Nat)(hb hd he hf:Value)(pv_v:Option Addr)(o:Ai)(r:(List Ac))(h:PW o=some r):FN 18 [rP hg 0] (.blk hg (Et o.fAccess.fTenant o.fAccess.fFunction o.fAccess.fOps o.fAccess.fPolicy o.fAccess.fNet o.fAccess.fNow hb pv_v o.fMade o.fAsked hd he hf) 84::CA hb o.fItems::CO hd o.fEffects he o.fReads hf o.fLog) (λR H=>R=B4 1 (Bu eS r)∧H=(.blk hg (Et o.fAccess.fTenant o.fAccess.fFunction o.fAccess.fOps o.fAccess.fPolicy o.fAccess.fNet o.fAccess.fNow hb pv_v o.fMade o.fAsked hd he hf) 84::CA hb o.fItems::CO hd o.fEffects he o.fReads hf o.fLog)):=en Tryz.func18 Tryz.ntmps18 Aa λw Z=>by unfold PW at h;exact AA Aa<|BD Aa<|wv (Hk ⟨_,AfN⟩ Aa)<|AJ<|CV Aa Aa<|BW<|Ay<|DP ([]:List Ac) eS Dm Ew SE Aa trivial CK λb1=>ms Aa<|wv Aw<|wv An<|wv (Ae 1)<|ck h λg3 h4=>IM 0 Dm Ir Aa Aa (K8.w 5 Aa Aa) CK G3 g3 λv2=>By Aa<|WK.freeze (i:=0) Aa<|WK.up (d:=2) Aa (Up.fact 0 Aa)<|cs h4▸Ap (Ct Tryz.results18 AW) (sK 62) ⟨Aa,Aa⟩
end Go.Proofs.YtphnhpcjnmmhiaaGreatDoor.Q
namespace Go.Proofs.YtphnhpcjnmmhiaaGreatDoor
open Go
set_option linter.unusedVariables false
structure CX where
 fName:Ac
 fText:Ac
 fFunction:Ac
 deriving DecidableEq,Inhabited
structure Co where
 fA:A0
 fItems:(List AB)
 fSecrets:(List CX)
 fNone:Bool
 fL:(List A6)
 deriving DecidableEq,Inhabited
def EQ (F:Nat)(x:Co)(hb:Int)(hd:Bool)(he:(List Be))(hf:(List (Ac×Int)))(hg:(List AG)):Option (Stp (Int×Bool×(List Be)×(List (Ac×Int))×(List AG)) (Out ((Bp×(List AG))×AP) (Bool×(List Be)×(List (Ac×Int))×(List AG)))):=
 Bj (((decide (hb<(x.fSecrets.length:Int)))&&(decide (hb<20)))) (AM (Cn hb (x.fSecrets.length:Int))<|Ba (Wz F (Bp.mk hf) hg (Af x.fSecrets hb).fName (Af x.fSecrets hb).fText) λhh=>Ba (Ael F (AP.mk hd he) (Af x.fSecrets hb).fName (Af x.fSecrets hb).fText) λhk=>Ba (RE hh.2.1 hh.2.2 (Af x.fSecrets hb).fName (Af x.fSecrets hb).fFunction) λhi=>Ba (Wu F hk.2 (Af x.fSecrets hb).fName (Af x.fSecrets hb).fFunction) λhj=>AM (BT .i64 (hb+1))<|some (.next (hb+1,hj.2.fMade,hj.2.fSecrets,hi.2.1.fSecrets,hi.2.2))) (some (.out (.go (hd,he,hf,hg))))
def Lo (hb:Bool)(hd:(List Be))(he:(List (Ac×Int)))(hf:(List AG)):Option ((Bp×(List AG))×AP):=
 some (((Bp.mk he),hf),(AP.mk hb hd))
def NX (F:Nat)(x:Co):Option ((Bp×(List AG))×AP):=
 Bj x.fNone none (Ba Zj λr5=>Ba AiQ λhb=>Ba (Cg (λσ=>EQ F x σ.1 σ.2.1 σ.2.2.1 σ.2.2.2.1 σ.2.2.2.2) F (0,hb.fMade,hb.fSecrets,r5.1.fSecrets,r5.2)) (Cm λν=>Lo ν.1 ν.2.1 ν.2.2.1 ν.2.2.2))
def Lq (F:Nat)(x:Co)(hb:Int)(hd:Bool)(he:(List Be))(hf:(List (Ac×Int)))(hg:(List AG)):Option (Stp (Int×Bool×(List Be)×(List (Ac×Int))×(List AG)) (Out (Unit×Unit) (Bool×(List Be)×(List (Ac×Int))×(List AG)))):=
 Bj (((decide (hb<(x.fSecrets.length:Int)))&&(decide (hb<20)))) (AM (Cn hb (x.fSecrets.length:Int))<|Ba (Wz F (Bp.mk hf) hg (Af x.fSecrets hb).fName (Af x.fSecrets hb).fText) λhh=>Ba (Ael F (AP.mk hd he) (Af x.fSecrets hb).fName (Af x.fSecrets hb).fText) λhk=>Ba (RE hh.2.1 hh.2.2 (Af x.fSecrets hb).fName (Af x.fSecrets hb).fFunction) λhi=>Ba (Wu F hk.2 (Af x.fSecrets hb).fName (Af x.fSecrets hb).fFunction) λhj=>AM (BT .i64 (hb+1))<|some (.next (hb+1,hj.2.fMade,hj.2.fSecrets,hi.2.1.fSecrets,hi.2.2))) (some (.out (.go (hd,he,hf,hg))))
def Lp (hb:Bool)(hd:(List Be))(he:(List (Ac×Int)))(hf:(List AG)):Option (Unit×Unit):=
 none
def NY (F:Nat)(x:Co):Option (Unit×Unit):=
 Bj x.fNone (some ((),())) (Ba Zj λr5=>Ba AiQ λhb=>Ba (Cg (λσ=>Lq F x σ.1 σ.2.1 σ.2.2.1 σ.2.2.2.1 σ.2.2.2.2) F (0,hb.fMade,hb.fSecrets,r5.1.fSecrets,r5.2)) (Cm λν=>Lp ν.1 ν.2.1 ν.2.2.1 ν.2.2.2))
def GG (F:Nat)(a b:(List Ak))(hb:Int):Option (Stp Int (Out Bool Unit)):=
 Bj (decide (hb<(a.length:Int))) (AM (Cn hb (a.length:Int))<|AM (Cn hb (b.length:Int))<|AM (imp (!(!decide ((Af a hb).fKind=(Af b hb).fKind))) (imp (!(!decide ((Af a hb).fKey=(Af b hb).fKey))) (imp (!(!decide ((Af a hb).fDelay=(Af b hb).fDelay))) (HE F (Af a hb).fValue (Af b hb).fValue).isSome)))<|Bj (((!decide ((Af a hb).fKind=(Af b hb).fKind))||((!decide ((Af a hb).fKey=(Af b hb).fKey))||((!decide ((Af a hb).fDelay=(Af b hb).fDelay))||(!(ov (HE F (Af a hb).fValue (Af b hb).fValue))))))) (some (.out (.ret false))) (AM (BT .i64 (hb+1))<|some (.next (hb+1)))) (some (.out (.go ())))
def HJ :Option Bool:=
 some true
def Jd (F:Nat)(a b:(List Ak)):Option Bool:=
 Bj (!decide ((a.length:Int)=(b.length:Int))) (some false) (Ba (Cg (λσ=>GG F a b σ) F 0) (Cm λν=>HJ ))
end Go.Proofs.YtphnhpcjnmmhiaaGreatDoor
namespace Go.Proofs.YtphnhpcjnmmhiaaGreatDoor.Q
open Go Go.RowKit
set_option linter.unusedVariables false
set_option linter.unusedSimpArgs false
set_option maxRecDepth 100000
set_option maxHeartbeats 4000000
@[reducible] def A2 (x:CX):List Rp:=[rS x.fName,rS x.fText,rS x.fFunction]
theorem Ns (x:CX):(A2 x).length=3:=rfl
@[reducible] def C5 (x:Co):List Rp:=[rS x.fA.fTenant,rS x.fA.fFunction,B4 1 (Bu eS x.fA.fOps),B4 3 (Bu AK x.fA.fPolicy),B4 5 (Bu B1 x.fA.fNet),AZ x.fA.fNow,B4 3 (Bu BJ x.fItems),B4 3 (Bu A2 x.fSecrets),rB x.fNone,B4 2 (Bu Ce x.fL)]
theorem AbJ (F:Nat)(x:Co)(r:(Bp×(List AG))×AP)(h:NX F x=some r):FN 4 [Cz (C5 x)] [] (λR H=>∃u0:Nat,∃u0_0:Nat,∃u0_p0:Value,∃u1:Nat,∃u1_1:Value,R=DW [rP u0 0,rP u1 0]∧H=(.blk u0 [rv (.map (some u0_0))] 110::.map u0_0 (BC (mP u0_0) r.1.1.fSecrets)::.poolm u0_0 u0_p0 120 (Bu AH r.1.2) none::Df u1 r.2.fMade u1_1 r.2.fSecrets)):=en Tryz.func4 Tryz.ntmps4 Aa λw Z=>by unfold NX at h;exact Ay<|Cb Aa Aa λb1=>ms Aa<|BU<|Ay<|wv An<|wv (Ae 0)<|AJ<|B2 h (λc2 h3=>Bw Aa<|nomatch h3) λc2 h4=>by refine BW<|Ay<|ob h4 λr5 e7 h6=>EX [] Tryz.call19 (X4 r5 e7) ?_;rintro _ _ ⟨b8,b9,hu,rfl,rfl⟩;refine ms Aa<|Dc<|ob h6 λhn hw hx=>EX [] Tryz.call20 (Agp hn hw) ?_;rintro _ _ ⟨hd,hy,rfl,rfl⟩;exact ms Aa<|BD Aa<|AJ<|Au<|Pq [0,1,1,1,1] Aa<|ob hx λhz h0 h1=>Bk (V:=(Bool×(List Be)×(List (Ac×Int))×(List AG))×(Value×Value)) 0 (λσ=>Cg (λσ=>EQ F x σ.1 σ.2.1 σ.2.2.1 σ.2.2.2.1 σ.2.2.2.2) σ.1 σ.2.1=some hz) (λσ=>[(1,rP b1 0),(4,rP b8 0),(5,rP hd 0),(6,AZ σ.2.1.1)]) (λσ=>[.blk hd [rB σ.2.1.2.1,rv σ.2.2.1] 113,Cp b8 b9,.map b9 (BC (mP b9) σ.2.1.2.2.2.1),.poolm b9 σ.2.2.2 120 (Bu AH σ.2.1.2.2.2.2) none,.blk b1 (C5 x) 31,MJ σ.2.2.1 σ.2.1.2.2.1]) (λσ=>σ.1) (F,(0,hn.fMade,hn.fSecrets,r5.1.fSecrets,r5.2),(hy,hu)) h0 (A7 Aa) (sM 63 Aa) (λσ=>Lo σ.1.1 σ.1.2.1 σ.1.2.2.1 σ.1.2.2.2=some r) (λσ=>[(4,rP b8 0),(5,rP hd 0)]) (λσ=>[.blk hd [rB σ.1.1,rv σ.2.1] 113,Cp b8 b9,.map b9 (BC (mP b9) σ.1.2.2.1),.poolm b9 σ.2.2 120 (Bu AH σ.1.2.2.2) none,MJ σ.2.1 σ.1.2.1]) (by rintro⟨hY,⟨hb,hg,hh,hi,hj⟩,⟨hk,v75⟩⟩ h2;refine EG ?_;obtain⟨h5,rfl,h7,hl,hs⟩:=Cq h2;have hl:EQ F x hb hg hh hi hj=some h7:=hl;unfold EQ at hl;exact AV<|Ar [(1,rP b1 0),(4,rP b8 0),(5,rP hd 0),(6,AZ hb),(19,rB ((Bm (hb<(x.fSecrets.length:Int)))&&(Bm (hb<20))))] [.blk hd [rB hg,rv hk] 113,Cp b8 b9,.map b9 (BC (mP b9) hi),.poolm b9 v75 120 (Bu AH hj) none,.blk b1 (C5 x) 31,MJ hk hh] (B7 Aa<|wv An<|wv (Ae 4)<|wv AU<|wv BI<|ms Aa<|AF (Bm (hb<(x.fSecrets.length:Int))) (λhe=>wo he<|ms Aa<|Bq he BI<|Ej Aa he Aa<|Az<|BR he) λhe=>CB he Aa<|wv (Am he)<|Az<|BR he)<|B2 hl (λh8 h9=>by refine Bt<|Au<|AV<|ck h9 λhf hA=>GT 13 [1,4,5,6] [⟨[],rP b8 0,0⟩,⟨[],rP b1 7,0⟩,⟨[1],B4 3 (Bu A2 x.fSecrets),1⟩,⟨[],AZ hb,0⟩,⟨[2,3],JV (A2 (Af x.fSecrets hb)),0⟩,⟨[4],JV (A2 (Af x.fSecrets hb)),0⟩,⟨[5],rS (Af x.fSecrets hb).fName,0⟩,⟨[],rP b1 7,0⟩,⟨[7],B4 3 (Bu A2 x.fSecrets),1⟩,⟨[],AZ hb,0⟩,⟨[8,9],JV (A2 (Af x.fSecrets hb)),0⟩,⟨[10],JV [rS (Af x.fSecrets hb).fText,rS (Af x.fSecrets hb).fFunction],0⟩,⟨[11],rS (Af x.fSecrets hb).fText,0⟩] (rle [(14,_)]) [22,23,24,25,26,27,28,29,30,31,32,33,34,1,4,5,6] ?_ ?_;exact oq (AE Aa)<|oq (Aq Nv Aa Nl Aa Aa)<|of (AY 4 N0 Aa Aa Aa)<|oq (AE Aa)<|oq (CJ (enc:=A2) (ys:=x.fSecrets) Nw Pc Aa Aa hf)<|oq (Bv Pb Aa Ew Aa Aa)<|oq (BZ IK Aa Aa)<|oq (Aq Nv Aa Nl Aa Aa)<|of (AY 4 N0 Aa Aa Aa)<|oq (AE Aa)<|oq (CJ (enc:=A2) (ys:=x.fSecrets) Nw Pc Aa Aa hf)<|oq (Bv Pb Aa Ew Aa Aa)<|oq (BZ IK Aa Aa)<|E8;refine ob hA λhp hB hC=>EX [1,1,1] Tryz.call21 (X3 F b8 b9 v75 (Bp.mk hi) hj (Af x.fSecrets hb).fName (Af x.fSecrets hb).fText hp hB) ?_;rintro _ _ ⟨hD,rfl,rfl⟩;refine BU<|GT 13 [1,4,5,6] [⟨[],rP hd 0,0⟩,⟨[],rP b1 7,0⟩,⟨[1],B4 3 (Bu A2 x.fSecrets),1⟩,⟨[],AZ hb,0⟩,⟨[2,3],JV (A2 (Af x.fSecrets hb)),0⟩,⟨[4],JV (A2 (Af x.fSecrets hb)),0⟩,⟨[5],rS (Af x.fSecrets hb).fName,0⟩,⟨[],rP b1 7,0⟩,⟨[7],B4 3 (Bu A2 x.fSecrets),1⟩,⟨[],AZ hb,0⟩,⟨[8,9],JV (A2 (Af x.fSecrets hb)),0⟩,⟨[10],JV [rS (Af x.fSecrets hb).fText,rS (Af x.fSecrets hb).fFunction],0⟩,⟨[11],rS (Af x.fSecrets hb).fText,0⟩] (rle [(14,_)]) [36,37,38,39,40,41,42,43,44,45,46,47,48,1,4,5,6] ?_ ?_;exact oq (AE Aa)<|oq (Aq Nv Aa Nl Aa Aa)<|of (AY 4 N0 Aa Aa Aa)<|oq (AE Aa)<|oq (CJ (enc:=A2) (ys:=x.fSecrets) Nw Pc Aa Aa hf)<|oq (Bv Pb Aa Ew Aa Aa)<|oq (BZ IK Aa Aa)<|oq (Aq Nv Aa Nl Aa Aa)<|of (AY 4 N0 Aa Aa Aa)<|oq (AE Aa)<|oq (CJ (enc:=A2) (ys:=x.fSecrets) Nw Pc Aa Aa hf)<|oq (Bv Pb Aa Ew Aa Aa)<|oq (BZ IK Aa Aa)<|E8;refine ob hC λht hE hG=>EX [3,4] Tryz.call22 (Agn F hd hk (AP.mk hg hh) (Af x.fSecrets hb).fName (Af x.fSecrets hb).fText ht hE) ?_;rintro _ _ ⟨v127,rfl,rfl⟩;refine BU<|GT 13 [1,4,5,6] [⟨[],rP b8 0,0⟩,⟨[],rP b1 7,0⟩,⟨[1],B4 3 (Bu A2 x.fSecrets),1⟩,⟨[],AZ hb,0⟩,⟨[2,3],JV (A2 (Af x.fSecrets hb)),0⟩,⟨[4],JV (A2 (Af x.fSecrets hb)),0⟩,⟨[5],rS (Af x.fSecrets hb).fName,0⟩,⟨[],rP b1 7,0⟩,⟨[7],B4 3 (Bu A2 x.fSecrets),1⟩,⟨[],AZ hb,0⟩,⟨[8,9],JV (A2 (Af x.fSecrets hb)),0⟩,⟨[10],JV [rS (Af x.fSecrets hb).fFunction],0⟩,⟨[11],rS (Af x.fSecrets hb).fFunction,0⟩] (rle [(14,_)]) [50,51,52,53,54,55,56,57,58,59,60,61,62,1,4,5,6] ?_ ?_;exact oq (AE Aa)<|oq (Aq Nv Aa Nl Aa Aa)<|of (AY 5 N0 Aa Aa Aa)<|oq (AE Aa)<|oq (CJ (enc:=A2) (ys:=x.fSecrets) Nw Pc Aa Aa hf)<|oq (Bv Pb Aa Ew Aa Aa)<|oq (BZ IK Aa Aa)<|oq (Aq Nv Aa Nl Aa Aa)<|of (AY 5 N0 Aa Aa Aa)<|oq (AE Aa)<|oq (CJ (enc:=A2) (ys:=x.fSecrets) Nw Pc Aa Aa hf)<|oq (Bv Pb Aa Ew Aa Aa)<|oq (BZ IK Aa Aa)<|E8;refine ob hG λhq hH hI=>EX [2,2,2] Tryz.call23 (Ut b8 b9 hD hp.2.1 hp.2.2 (Af x.fSecrets hb).fName (Af x.fSecrets hb).fFunction hq hH) ?_;rintro _ _ ⟨v131,rfl,rfl⟩;refine AJ<|GT 13 [1,4,5,6] [⟨[],rP hd 0,0⟩,⟨[],rP b1 7,0⟩,⟨[1],B4 3 (Bu A2 x.fSecrets),1⟩,⟨[],AZ hb,0⟩,⟨[2,3],JV (A2 (Af x.fSecrets hb)),0⟩,⟨[4],JV (A2 (Af x.fSecrets hb)),0⟩,⟨[5],rS (Af x.fSecrets hb).fName,0⟩,⟨[],rP b1 7,0⟩,⟨[7],B4 3 (Bu A2 x.fSecrets),1⟩,⟨[],AZ hb,0⟩,⟨[8,9],JV (A2 (Af x.fSecrets hb)),0⟩,⟨[10],JV [rS (Af x.fSecrets hb).fFunction],0⟩,⟨[11],rS (Af x.fSecrets hb).fFunction,0⟩] (rle [(14,_)]) [64,65,66,67,68,69,70,71,72,73,74,75,76,1,4,5,6] ?_ ?_;exact oq (AE Aa)<|oq (Aq Nv Aa Nl Aa Aa)<|of (AY 5 N0 Aa Aa Aa)<|oq (AE Aa)<|oq (CJ (enc:=A2) (ys:=x.fSecrets) Nw Pc Aa Aa hf)<|oq (Bv Pb Aa Ew Aa Aa)<|oq (BZ IK Aa Aa)<|oq (Aq Nv Aa Nl Aa Aa)<|of (AY 5 N0 Aa Aa Aa)<|oq (AE Aa)<|oq (CJ (enc:=A2) (ys:=x.fSecrets) Nw Pc Aa Aa hf)<|oq (Bv Pb Aa Ew Aa Aa)<|oq (BZ IK Aa Aa)<|E8;refine ob hI λhr hJ hK=>EX [3,3] Tryz.call24 (Ac7 F hd v127 ht.2 (Af x.fSecrets hb).fName (Af x.fSecrets hb).fFunction hr hJ) ?_;rintro _ _ ⟨hL,rfl,rfl⟩;refine Az<|CR<|B7 Aa<|ck hK λhN hO=>wv (Bh hN)<|Bg Aa<|JL [0,1,1,1,1] ?_;exact have hP:=Bd hO hs;Ax (As (h5,(hb+1,hr.2.fMade,hr.2.fSecrets,hq.2.1.fSecrets,hq.2.2),(hL,v131)) ⟨hP,Apu _⟩ (A7 Aa) (sC (sC (sC (sC (sC (sC sN)))))))) λh8 hQ=>Bs<|Ah<|have hR:=BG hQ hs h1;Ah (AN (As ((hg,hh,hi,hj),(hk,v75)) hR (A7 Aa) (sC (sC (sC (sC (sS (sC sN)))))))))<|by rintro⟨⟨hS,hT,hU,hV⟩,⟨hW,hX⟩⟩ hm;refine Gw ?_;exact have hm:Lo hS hT hU hV=some r:=hm;by unfold Lo at hm;refine AR<|Cy<|B6 Aa<|JL [1,1,1] ?_;exact cs hm▸Ap (LA Tryz.results4 AW AW) (sK 31) ⟨b8,b9,hX,hd,hW,Aa,Aa⟩
theorem AbK (F:Nat)(x:Co)(r:Unit×Unit)(h:NY F x=some r):FN 4 [Cz (C5 x)] [] (PO (DW [rv (.pointer none),rv (.pointer none)])):=en Tryz.func4 Tryz.ntmps4 Aa λw Z=>by unfold NY at h;exact Ay<|Cb Aa Aa λb1=>ms Aa<|BU<|Ay<|wv An<|wv (Ae 0)<|AJ<|B2 h (λc2 h3=>Bw Aa<|by cases h3;exact Ap (LA Tryz.results4 AW AW) (sS sN) ⟨Aa,Aa⟩) λc2 h4=>by refine BW<|Ay<|ob h4 λr5 e7 h6=>EX [] Tryz.call19 (X4 r5 e7) ?_;rintro _ _ ⟨b8,b9,hu,rfl,rfl⟩;refine ms Aa<|Dc<|ob h6 λhn hw hx=>EX [] Tryz.call20 (Agp hn hw) ?_;rintro _ _ ⟨hd,hy,rfl,rfl⟩;exact ms Aa<|BD Aa<|AJ<|Au<|Pq [0,1,1,1,1] Aa<|ob hx λhz h0 h1=>Bk (V:=(Bool×(List Be)×(List (Ac×Int))×(List AG))×(Value×Value)) 0 (λσ=>Cg (λσ=>Lq F x σ.1 σ.2.1 σ.2.2.1 σ.2.2.2.1 σ.2.2.2.2) σ.1 σ.2.1=some hz) (λσ=>[(1,rP b1 0),(4,rP b8 0),(5,rP hd 0),(6,AZ σ.2.1.1)]) (λσ=>[.blk hd [rB σ.2.1.2.1,rv σ.2.2.1] 113,Cp b8 b9,.map b9 (BC (mP b9) σ.2.1.2.2.2.1),.poolm b9 σ.2.2.2 120 (Bu AH σ.2.1.2.2.2.2) none,.blk b1 (C5 x) 31,MJ σ.2.2.1 σ.2.1.2.2.1]) (λσ=>σ.1) (F,(0,hn.fMade,hn.fSecrets,r5.1.fSecrets,r5.2),(hy,hu)) h0 (A7 Aa) (sM 63 Aa) (λσ=>Lp σ.1.1 σ.1.2.1 σ.1.2.2.1 σ.1.2.2.2=some r) (λσ=>[(4,rP b8 0),(5,rP hd 0)]) (λσ=>[.blk hd [rB σ.1.1,rv σ.2.1] 113,Cp b8 b9,.map b9 (BC (mP b9) σ.1.2.2.1),.poolm b9 σ.2.2 120 (Bu AH σ.1.2.2.2) none,MJ σ.2.1 σ.1.2.1]) (by rintro⟨hW,⟨hb,hg,hh,hi,hj⟩,⟨hk,v75⟩⟩ h2;refine EG ?_;obtain⟨h5,rfl,h7,hl,hs⟩:=Cq h2;have hl:Lq F x hb hg hh hi hj=some h7:=hl;unfold Lq at hl;exact AV<|Ar [(1,rP b1 0),(4,rP b8 0),(5,rP hd 0),(6,AZ hb),(19,rB ((Bm (hb<(x.fSecrets.length:Int)))&&(Bm (hb<20))))] [.blk hd [rB hg,rv hk] 113,Cp b8 b9,.map b9 (BC (mP b9) hi),.poolm b9 v75 120 (Bu AH hj) none,.blk b1 (C5 x) 31,MJ hk hh] (B7 Aa<|wv An<|wv (Ae 4)<|wv AU<|wv BI<|ms Aa<|AF (Bm (hb<(x.fSecrets.length:Int))) (λhe=>wo he<|ms Aa<|Bq he BI<|Ej Aa he Aa<|Az<|BR he) λhe=>CB he Aa<|wv (Am he)<|Az<|BR he)<|B2 hl (λh8 h9=>by refine Bt<|Au<|AV<|ck h9 λhf hA=>GT 13 [1,4,5,6] [⟨[],rP b8 0,0⟩,⟨[],rP b1 7,0⟩,⟨[1],B4 3 (Bu A2 x.fSecrets),1⟩,⟨[],AZ hb,0⟩,⟨[2,3],JV (A2 (Af x.fSecrets hb)),0⟩,⟨[4],JV (A2 (Af x.fSecrets hb)),0⟩,⟨[5],rS (Af x.fSecrets hb).fName,0⟩,⟨[],rP b1 7,0⟩,⟨[7],B4 3 (Bu A2 x.fSecrets),1⟩,⟨[],AZ hb,0⟩,⟨[8,9],JV (A2 (Af x.fSecrets hb)),0⟩,⟨[10],JV [rS (Af x.fSecrets hb).fText,rS (Af x.fSecrets hb).fFunction],0⟩,⟨[11],rS (Af x.fSecrets hb).fText,0⟩] (rle [(14,_)]) [22,23,24,25,26,27,28,29,30,31,32,33,34,1,4,5,6] ?_ ?_;exact oq (AE Aa)<|oq (Aq Nv Aa Nl Aa Aa)<|of (AY 4 N0 Aa Aa Aa)<|oq (AE Aa)<|oq (CJ (enc:=A2) (ys:=x.fSecrets) Nw Pc Aa Aa hf)<|oq (Bv Pb Aa Ew Aa Aa)<|oq (BZ IK Aa Aa)<|oq (Aq Nv Aa Nl Aa Aa)<|of (AY 4 N0 Aa Aa Aa)<|oq (AE Aa)<|oq (CJ (enc:=A2) (ys:=x.fSecrets) Nw Pc Aa Aa hf)<|oq (Bv Pb Aa Ew Aa Aa)<|oq (BZ IK Aa Aa)<|E8;refine ob hA λhp hB hC=>EX [1,1,1] Tryz.call21 (X3 F b8 b9 v75 (Bp.mk hi) hj (Af x.fSecrets hb).fName (Af x.fSecrets hb).fText hp hB) ?_;rintro _ _ ⟨hD,rfl,rfl⟩;refine BU<|GT 13 [1,4,5,6] [⟨[],rP hd 0,0⟩,⟨[],rP b1 7,0⟩,⟨[1],B4 3 (Bu A2 x.fSecrets),1⟩,⟨[],AZ hb,0⟩,⟨[2,3],JV (A2 (Af x.fSecrets hb)),0⟩,⟨[4],JV (A2 (Af x.fSecrets hb)),0⟩,⟨[5],rS (Af x.fSecrets hb).fName,0⟩,⟨[],rP b1 7,0⟩,⟨[7],B4 3 (Bu A2 x.fSecrets),1⟩,⟨[],AZ hb,0⟩,⟨[8,9],JV (A2 (Af x.fSecrets hb)),0⟩,⟨[10],JV [rS (Af x.fSecrets hb).fText,rS (Af x.fSecrets hb).fFunction],0⟩,⟨[11],rS (Af x.fSecrets hb).fText,0⟩] (rle [(14,_)]) [36,37,38,39,40,41,42,43,44,45,46,47,48,1,4,5,6] ?_ ?_;exact oq (AE Aa)<|oq (Aq Nv Aa Nl Aa Aa)<|of (AY 4 N0 Aa Aa Aa)<|oq (AE Aa)<|oq (CJ (enc:=A2) (ys:=x.fSecrets) Nw Pc Aa Aa hf)<|oq (Bv Pb Aa Ew Aa Aa)<|oq (BZ IK Aa Aa)<|oq (Aq Nv Aa Nl Aa Aa)<|of (AY 4 N0 Aa Aa Aa)<|oq (AE Aa)<|oq (CJ (enc:=A2) (ys:=x.fSecrets) Nw Pc Aa Aa hf)<|oq (Bv Pb Aa Ew Aa Aa)<|oq (BZ IK Aa Aa)<|E8;refine ob hC λht hE hG=>EX [3,4] Tryz.call22 (Agn F hd hk (AP.mk hg hh) (Af x.fSecrets hb).fName (Af x.fSecrets hb).fText ht hE) ?_;rintro _ _ ⟨v127,rfl,rfl⟩;refine BU<|GT 13 [1,4,5,6] [⟨[],rP b8 0,0⟩,⟨[],rP b1 7,0⟩,⟨[1],B4 3 (Bu A2 x.fSecrets),1⟩,⟨[],AZ hb,0⟩,⟨[2,3],JV (A2 (Af x.fSecrets hb)),0⟩,⟨[4],JV (A2 (Af x.fSecrets hb)),0⟩,⟨[5],rS (Af x.fSecrets hb).fName,0⟩,⟨[],rP b1 7,0⟩,⟨[7],B4 3 (Bu A2 x.fSecrets),1⟩,⟨[],AZ hb,0⟩,⟨[8,9],JV (A2 (Af x.fSecrets hb)),0⟩,⟨[10],JV [rS (Af x.fSecrets hb).fFunction],0⟩,⟨[11],rS (Af x.fSecrets hb).fFunction,0⟩] (rle [(14,_)]) [50,51,52,53,54,55,56,57,58,59,60,61,62,1,4,5,6] ?_ ?_;exact oq (AE Aa)<|oq (Aq Nv Aa Nl Aa Aa)<|of (AY 5 N0 Aa Aa Aa)<|oq (AE Aa)<|oq (CJ (enc:=A2) (ys:=x.fSecrets) Nw Pc Aa Aa hf)<|oq (Bv Pb Aa Ew Aa Aa)<|oq (BZ IK Aa Aa)<|oq (Aq Nv Aa Nl Aa Aa)<|of (AY 5 N0 Aa Aa Aa)<|oq (AE Aa)<|oq (CJ (enc:=A2) (ys:=x.fSecrets) Nw Pc Aa Aa hf)<|oq (Bv Pb Aa Ew Aa Aa)<|oq (BZ IK Aa Aa)<|E8;refine ob hG λhq hH hI=>EX [2,2,2] Tryz.call23 (Ut b8 b9 hD hp.2.1 hp.2.2 (Af x.fSecrets hb).fName (Af x.fSecrets hb).fFunction hq hH) ?_;rintro _ _ ⟨v131,rfl,rfl⟩;refine AJ<|GT 13 [1,4,5,6] [⟨[],rP hd 0,0⟩,⟨[],rP b1 7,0⟩,⟨[1],B4 3 (Bu A2 x.fSecrets),1⟩,⟨[],AZ hb,0⟩,⟨[2,3],JV (A2 (Af x.fSecrets hb)),0⟩,⟨[4],JV (A2 (Af x.fSecrets hb)),0⟩,⟨[5],rS (Af x.fSecrets hb).fName,0⟩,⟨[],rP b1 7,0⟩,⟨[7],B4 3 (Bu A2 x.fSecrets),1⟩,⟨[],AZ hb,0⟩,⟨[8,9],JV (A2 (Af x.fSecrets hb)),0⟩,⟨[10],JV [rS (Af x.fSecrets hb).fFunction],0⟩,⟨[11],rS (Af x.fSecrets hb).fFunction,0⟩] (rle [(14,_)]) [64,65,66,67,68,69,70,71,72,73,74,75,76,1,4,5,6] ?_ ?_;exact oq (AE Aa)<|oq (Aq Nv Aa Nl Aa Aa)<|of (AY 5 N0 Aa Aa Aa)<|oq (AE Aa)<|oq (CJ (enc:=A2) (ys:=x.fSecrets) Nw Pc Aa Aa hf)<|oq (Bv Pb Aa Ew Aa Aa)<|oq (BZ IK Aa Aa)<|oq (Aq Nv Aa Nl Aa Aa)<|of (AY 5 N0 Aa Aa Aa)<|oq (AE Aa)<|oq (CJ (enc:=A2) (ys:=x.fSecrets) Nw Pc Aa Aa hf)<|oq (Bv Pb Aa Ew Aa Aa)<|oq (BZ IK Aa Aa)<|E8;refine ob hI λhr hJ hK=>EX [3,3] Tryz.call24 (Ac7 F hd v127 ht.2 (Af x.fSecrets hb).fName (Af x.fSecrets hb).fFunction hr hJ) ?_;rintro _ _ ⟨hL,rfl,rfl⟩;refine Az<|CR<|B7 Aa<|ck hK λhN hO=>wv (Bh hN)<|Bg Aa<|JL [0,1,1,1,1] ?_;exact have hP:=Bd hO hs;Ax (As (h5,(hb+1,hr.2.fMade,hr.2.fSecrets,hq.2.1.fSecrets,hq.2.2),(hL,v131)) ⟨hP,Apu _⟩ (A7 Aa) (sC (sC (sC (sC (sC (sC sN)))))))) λh8 hQ=>Bs<|Ah<|have hR:=BG hQ hs h1;Ah (AN (As ((hg,hh,hi,hj),(hk,v75)) hR (A7 Aa) (sC (sC (sC (sC (sS (sC sN)))))))))<|by rintro⟨⟨hS,hT,hU,hV⟩,⟨hX,hY⟩⟩ hm;refine Gw ?_;exact have hm:Lp hS hT hU hV=some r:=hm;by unfold Lp at hm;exact AR<|Cy<|B6 Aa<|nomatch hm
theorem QX (F:Nat)(a b:(List Ak))(r:Bool)(h:Jd F a b=some r):FN 11 [B4 4 (Bu AQ a),B4 4 (Bu AQ b)] [] (PO (rB r)):=en Tryz.func11 Tryz.ntmps11 Aa λw Z=>AA Aa<|BD Aa<|wv AU<|ms Aa<|wv AU<|wv Ci<|AJ<|B2 h (λc1 h2=>Bw Aa<|cs h2▸CY Tryz.results11 ⟨Aa,Aa⟩) λc1 h3=>Bt<|AA Aa<|AJ<|Au<|ob h3 λhm hn hl=>Bk (V:=Unit×Unit) 0 (λσ=>Cg (λσ=>GG F a b σ) σ.1 σ.2.1=some hm) (λσ=>[(0,B4 4 (Bu AQ a)),(1,B4 4 (Bu AQ b)),(5,AZ σ.2.1)]) (λσ=>[]) (λσ=>σ.1) (F,0,()) hn (A7 Aa) sN (λσ=>HJ =some r) (λσ=>[]) (λσ=>[]) (by rintro⟨h9,hf,⟨⟩⟩ hp;refine EG ?_;obtain⟨hq,rfl,hr,hj,hk⟩:=Cq hp;have hj:GG F a b hf=some hr:=hj;exact AV<|AA Aa<|wv AU<|wv BI<|AJ<|B2 hj (λhs ht=>Bt<|Au<|ck ht λhg hu=>ck hu λhh hw=>ck hw λhx hy=>Ar [(0,B4 4 (Bu AQ a)),(1,B4 4 (Bu AQ b)),(5,AZ hf),(67,rB ((!Bm ((Af a hf).fKind=(Af b hf).fKind))||((!Bm ((Af a hf).fKey=(Af b hf).fKey))||((!Bm ((Af a hf).fDelay=(Af b hf).fDelay))||(!(ov (HE F (Af a hf).fValue (Af b hf).fValue)))))))] [] (AF (!Bm ((Af a hf).fKind=(Af b hf).fKind)) (λhb=>by refine Dn [0,1,5] ?_;exact rq AD<|rq AD<|rq (AX hg)<|rq CL<|rq AS<|rq AD<|rq AD<|rq (AX hh)<|rq CL<|rq AS<|rq Ci<|rq AD<|rz hb<|rz hb<|rz hb<|rz hb<|rz hb<|rz hb<|rz hb<|rz hb<|rz hb<|rz hb<|rz hb<|rq (Aj hb)<|rq AD<|rz Aa<|rz Aa<|rz Aa<|rz Aa<|rz Aa<|rz Aa<|rz Aa<|rz Aa<|rz Aa<|rz Aa<|rz Aa<|rq (Aj Aa)<|rq AD<|rz Aa<|rz Aa<|rz Aa<|rz Aa<|rz Aa<|rz Aa<|rz Aa<|rz Aa<|rz Aa<|rz Aa<|by refine rz Aa<|rz Aa<|rq (Aj Aa)<|re [67,0,1,5] ?_;exact BR hb) λhb=>AF (!Bm ((Af a hf).fKey=(Af b hf).fKey)) (λhd=>by refine Dn [0,1,5] ?_;exact rq AD<|rq AD<|rq (AX hg)<|rq CL<|rq AS<|rq AD<|rq AD<|rq (AX hh)<|rq CL<|rq AS<|rq Ci<|rq AD<|rg hb (AE Aa)<|rg hb (AE Aa)<|rg hb (CJ (enc:=AQ) (ys:=a) E1 Dq Aa Aa hg)<|rg hb (Bv J0 Aa Ew Aa Aa)<|rg hb (BZ IK Aa Aa)<|rg hb (AE Aa)<|rg hb (AE Aa)<|rg hb (CJ (enc:=AQ) (ys:=b) E1 Dq Aa Aa hh)<|rg hb (Bv J0 Aa Ew Aa Aa)<|rg hb (BZ IK Aa Aa)<|rg hb (JB Aa Aa)<|rq (Am hb)<|rq AD<|rz hd<|rz hd<|rz hd<|rz hd<|rz hd<|rz hd<|rz hd<|rz hd<|rz hd<|rz hd<|rz hd<|rq (Aj hd)<|rq AD<|rz Aa<|rz Aa<|rz Aa<|rz Aa<|rz Aa<|rz Aa<|rz Aa<|rz Aa<|rz Aa<|rz Aa<|by refine rz Aa<|rz Aa<|rq (Aj Aa)<|re [67,0,1,5] ?_;exact BR (Db hb hd)) λhd=>AF (!Bm ((Af a hf).fDelay=(Af b hf).fDelay)) (λhe=>by refine Dn [0,1,5] ?_;exact rq AD<|rq AD<|rq (AX hg)<|rq CL<|rq AS<|rq AD<|rq AD<|rq (AX hh)<|rq CL<|rq AS<|rq Ci<|rq AD<|rg hb (AE Aa)<|rg hb (AE Aa)<|rg hb (CJ (enc:=AQ) (ys:=a) E1 Dq Aa Aa hg)<|rg hb (Bv J0 Aa Ew Aa Aa)<|rg hb (BZ IK Aa Aa)<|rg hb (AE Aa)<|rg hb (AE Aa)<|rg hb (CJ (enc:=AQ) (ys:=b) E1 Dq Aa Aa hh)<|rg hb (Bv J0 Aa Ew Aa Aa)<|rg hb (BZ IK Aa Aa)<|rg hb (JB Aa Aa)<|rq (Am hb)<|rq AD<|rg hd (AE Aa)<|rg hd (AE Aa)<|rg hd (CJ (enc:=AQ) (ys:=a) E1 Dq Aa Aa hg)<|rg hd (Bv J0 Aa K9 Aa Aa)<|rg hd (BZ Qy Aa Aa)<|rg hd (AE Aa)<|rg hd (AE Aa)<|rg hd (CJ (enc:=AQ) (ys:=b) E1 Dq Aa Aa hh)<|rg hd (Bv J0 Aa K9 Aa Aa)<|rg hd (BZ Qy Aa Aa)<|rg hd (Qa Aa Aa)<|rq (Am hd)<|rq AD<|rz he<|rz he<|rz he<|rz he<|rz he<|rz he<|rz he<|rz he<|rz he<|rz he<|by refine rz he<|rz he<|rq (Aj he)<|re [67,0,1,5] ?_;exact BR (Db hb (Db hd he))) λhe=>by refine Dn [0,1,5] ?_;exact rq AD<|rq AD<|rq (AX hg)<|rq CL<|rq AS<|rq AD<|rq AD<|rq (AX hh)<|rq CL<|rq AS<|rq Ci<|rq AD<|rg hb (AE Aa)<|rg hb (AE Aa)<|rg hb (CJ (enc:=AQ) (ys:=a) E1 Dq Aa Aa hg)<|rg hb (Bv J0 Aa Ew Aa Aa)<|rg hb (BZ IK Aa Aa)<|rg hb (AE Aa)<|rg hb (AE Aa)<|rg hb (CJ (enc:=AQ) (ys:=b) E1 Dq Aa Aa hh)<|rg hb (Bv J0 Aa Ew Aa Aa)<|rg hb (BZ IK Aa Aa)<|rg hb (JB Aa Aa)<|rq (Am hb)<|rq AD<|rg hd (AE Aa)<|rg hd (AE Aa)<|rg hd (CJ (enc:=AQ) (ys:=a) E1 Dq Aa Aa hg)<|rg hd (Bv J0 Aa K9 Aa Aa)<|rg hd (BZ Qy Aa Aa)<|rg hd (AE Aa)<|rg hd (AE Aa)<|rg hd (CJ (enc:=AQ) (ys:=b) E1 Dq Aa Aa hh)<|rg hd (Bv J0 Aa K9 Aa Aa)<|rg hd (BZ Qy Aa Aa)<|rg hd (Qa Aa Aa)<|rq (Am hd)<|rq AD<|rg he (AE Aa)<|rg he (AE Aa)<|rg he (CJ (enc:=AQ) (ys:=a) E1 Dq Aa Aa hg)<|rg he (Bv J0 Aa EW Aa Aa)<|rg he (BZ Q0 Aa Aa)<|rg he (AE Aa)<|rg he (AE Aa)<|rg he (CJ (enc:=AQ) (ys:=b) E1 Dq Aa Aa hh)<|rg he (Bv J0 Aa EW Aa Aa)<|rg he (BZ Q0 Aa Aa)<|by refine ro he (Dy AaW (M5 F (Af a hf).fValue (Af b hf).fValue (ov (HE F (Af a hf).fValue (Af b hf).fValue)) (Dr (CM (CM (CM hx hb) hd) he))) Aa)<|rg he (Nd Aa)<|rq (Am he)<|re [67,0,1,5] ?_;exact BR (Db hb (Db hd he)))<|B2 hy (λc75 hz=>B6 Aa<|B8<|Ao<|Bf<|have h0:=BE hz hk hl;B8<|cs h0▸CY Tryz.results11 ⟨Aa,Aa⟩) λc75 h1=>B3<|CR<|B7 Aa<|ck h1 λh4 h5=>wv (Bh h4)<|Bg Aa<|have h6:=Bd h5 hk;Ax (As (hq,hf+1,()) ⟨h6,Apu _⟩ (A7 Aa) sN)) λhs h7=>Bs<|Ah<|have h8:=BG h7 hk hl;Ah (AN (As ((),()) h8 Hw.nil sN)))<|by rintro⟨⟨⟩,⟨⟩⟩ hi;refine Gw ?_;exact have hi:HJ =some r:=hi;by unfold HJ at hi;exact AR<|Cy<|B6 Aa<|cs hi▸CY Tryz.results11 ⟨Aa,Aa⟩
end Go.Proofs.YtphnhpcjnmmhiaaGreatDoor.Q
namespace Go.Proofs.YtphnhpcjnmmhiaaGreatDoor
open Go
set_option linter.unusedVariables false
def Gn (hb:Bool):Option Bool:=
 some hb
def OO (F:Nat)(x:Co)(r4:(Bp×(List AG))×AP)(he:Int)(hf hg:Ac)(hh:(List Ac))(hi:(List Ad))(hj:(List A1))(hk:Int)(hl:(List AB))(hm:Bool)(hn:Int)(hp:(List Ak))(hq hr:(List Ac))(hs:Bool)(ht hu:Ac)(hw:(List Ac))(hx:(List Ad))(hy:(List A1))(hz h0:Int)(h1:(List Ak))(h2 h3:(List Ac))(h4:(List (Ac×(List Ab)))):Option (Stp (Int×Ac×Ac×(List Ac)×(List Ad)×(List A1)×Int×(List AB)×Bool×Int×(List Ak)×(List Ac)×(List Ac)×Bool×Ac×Ac×(List Ac)×(List Ad)×(List A1)×Int×Int×(List Ak)×(List Ac)×(List Ac)×(List (Ac×(List Ab)))) (Out Bool (Ac×Ac×(List Ac)×(List Ad)×(List A1)×Int×(List AB)×Bool×Int×(List Ak)×(List Ac)×(List Ac)×Bool×Ac×Ac×(List Ac)×(List Ad)×(List A1)×Int×Int×(List Ak)×(List Ac)×(List Ac)×(List (Ac×(List Ab)))))):=
 Bj (decide (he<(x.fL.length:Int))) (AM (Cn he (x.fL.length:Int))<|Ba (Sn F (Av.mk hs (A0.mk ht hu hw hx hy hz) h4 () h0 h1 h2 h3) r4.1.1 r4.1.2 (Af x.fL he)) λhb=>Ba (U2 F (Ai.mk (A0.mk hf hg hh hi hj hk) hl () hm hn hp hq hr) r4.2 (Af x.fL he)) λhd=>AM (imp (!(!decide (hb.1.fErr=hd.1.fErr))) (HE F hb.1.fValue hd.1.fValue).isSome)<|Bj (((!decide (hb.1.fErr=hd.1.fErr))||(!(ov (HE F hb.1.fValue hd.1.fValue))))) (some (.out (.ret false))) (AM (BT .i64 (he+1))<|some (.next (he+1,hd.2.fAccess.fTenant,hd.2.fAccess.fFunction,hd.2.fAccess.fOps,hd.2.fAccess.fPolicy,hd.2.fAccess.fNet,hd.2.fAccess.fNow,hd.2.fItems,hd.2.fMade,hd.2.fAsked,hd.2.fEffects,hd.2.fReads,hd.2.fLog,hb.2.fMade,hb.2.fA.fTenant,hb.2.fA.fFunction,hb.2.fA.fOps,hb.2.fA.fPolicy,hb.2.fA.fNet,hb.2.fA.fNow,hb.2.fCalls,hb.2.fEffects,hb.2.fReads,hb.2.fLog,hb.2.fItems)))) (some (.out (.go (hf,hg,hh,hi,hj,hk,hl,hm,hn,hp,hq,hr,hs,ht,hu,hw,hx,hy,hz,h0,h1,h2,h3,h4))))
def Kx (F:Nat)(hb hd:Ac)(he:(List Ac))(hf:(List Ad))(hg:(List A1))(hh:Int)(hi:(List AB))(hj:Bool)(hk:Int)(hl:(List Ak))(hm hn:(List Ac))(hp:Bool)(hq hr:Ac)(hs:(List Ac))(ht:(List Ad))(hu:(List A1))(hw hx:Int)(hy:(List Ak))(hz h0:(List Ac))(h1:(List (Ac×(List Ab)))):Option Bool:=
 Ba (IE F (Av.mk hp (A0.mk hq hr hs ht hu hw) h1 () hx hy hz h0)) λh2=>Ba (Hc F (Ai.mk (A0.mk hb hd he hf hg hh) hi () hj hk hl hm hn)) λh3=>Ba (Jd F h2 h3) λh4=>Bj h4 (Ba (MN (Av.mk hp (A0.mk hq hr hs ht hu hw) h1 () hx hy hz h0)) λh5=>Ba (KH (Ai.mk (A0.mk hb hd he hf hg hh) hi () hj hk hl hm hn)) λh6=>Ba (L4 F h5 h6) λh7=>Bj h7 (Ba (Afu (Av.mk hp (A0.mk hq hr hs ht hu hw) h1 () hx hy hz h0)) λh8=>Ba (PW (Ai.mk (A0.mk hb hd he hf hg hh) hi () hj hk hl hm hn)) λh9=>Ba (L4 F h8 h9) λhA=>Bj hA (Ba (HK F) λhB=>Gn hB) (Gn false)) (Gn false)) (Gn false)
def Jc (hb:Bool):Option Bool:=
 some hb
def ON (F:Nat)(x:Co)(he:Int)(hf hg:Ac)(hh:(List Ac))(hi:(List Ad))(hj:(List A1))(hk:Int)(hl:(List AB))(hm:Bool)(hn:Int)(hp:(List Ak))(hq hr:(List Ac))(hs:Bool)(ht hu:Ac)(hw:(List Ac))(hx:(List Ad))(hy:(List A1))(hz h0:Int)(h1:(List Ak))(h2 h3:(List Ac))(h4:(List (Ac×(List Ab)))):Option (Stp (Int×Ac×Ac×(List Ac)×(List Ad)×(List A1)×Int×(List AB)×Bool×Int×(List Ak)×(List Ac)×(List Ac)×Bool×Ac×Ac×(List Ac)×(List Ad)×(List A1)×Int×Int×(List Ak)×(List Ac)×(List Ac)×(List (Ac×(List Ab)))) (Out Bool (Ac×Ac×(List Ac)×(List Ad)×(List A1)×Int×(List AB)×Bool×Int×(List Ak)×(List Ac)×(List Ac)×Bool×Ac×Ac×(List Ac)×(List Ad)×(List A1)×Int×Int×(List Ak)×(List Ac)×(List Ac)×(List (Ac×(List Ab)))))):=
 Bj (decide (he<(x.fL.length:Int))) (AM (Cn he (x.fL.length:Int))<|Ba (AhV F (Av.mk hs (A0.mk ht hu hw hx hy hz) h4 () h0 h1 h2 h3) (Af x.fL he)) λhb=>Ba (U3 F (Ai.mk (A0.mk hf hg hh hi hj hk) hl () hm hn hp hq hr) (Af x.fL he)) λhd=>AM (imp (!(!decide (hb.1.fErr=hd.1.fErr))) (HE F hb.1.fValue hd.1.fValue).isSome)<|Bj (((!decide (hb.1.fErr=hd.1.fErr))||(!(ov (HE F hb.1.fValue hd.1.fValue))))) (some (.out (.ret false))) (AM (BT .i64 (he+1))<|some (.next (he+1,hd.2.fAccess.fTenant,hd.2.fAccess.fFunction,hd.2.fAccess.fOps,hd.2.fAccess.fPolicy,hd.2.fAccess.fNet,hd.2.fAccess.fNow,hd.2.fItems,hd.2.fMade,hd.2.fAsked,hd.2.fEffects,hd.2.fReads,hd.2.fLog,hb.2.fMade,hb.2.fA.fTenant,hb.2.fA.fFunction,hb.2.fA.fOps,hb.2.fA.fPolicy,hb.2.fA.fNet,hb.2.fA.fNow,hb.2.fCalls,hb.2.fEffects,hb.2.fReads,hb.2.fLog,hb.2.fItems)))) (some (.out (.go (hf,hg,hh,hi,hj,hk,hl,hm,hn,hp,hq,hr,hs,ht,hu,hw,hx,hy,hz,h0,h1,h2,h3,h4))))
def OM (F:Nat)(hb hd:Ac)(he:(List Ac))(hf:(List Ad))(hg:(List A1))(hh:Int)(hi:(List AB))(hj:Bool)(hk:Int)(hl:(List Ak))(hm hn:(List Ac))(hp:Bool)(hq hr:Ac)(hs:(List Ac))(ht:(List Ad))(hu:(List A1))(hw hx:Int)(hy:(List Ak))(hz h0:(List Ac))(h1:(List (Ac×(List Ab)))):Option Bool:=
 Ba (IE F (Av.mk hp (A0.mk hq hr hs ht hu hw) h1 () hx hy hz h0)) λh2=>Ba (Hc F (Ai.mk (A0.mk hb hd he hf hg hh) hi () hj hk hl hm hn)) λh3=>Ba (Jd F h2 h3) λh4=>Bj h4 (Ba (MN (Av.mk hp (A0.mk hq hr hs ht hu hw) h1 () hx hy hz h0)) λh5=>Ba (KH (Ai.mk (A0.mk hb hd he hf hg hh) hi () hj hk hl hm hn)) λh6=>Ba (L4 F h5 h6) λh7=>Bj h7 (Ba (Afu (Av.mk hp (A0.mk hq hr hs ht hu hw) h1 () hx hy hz h0)) λh8=>Ba (PW (Ai.mk (A0.mk hb hd he hf hg hh) hi () hj hk hl hm hn)) λh9=>Ba (L4 F h8 h9) λhA=>Bj hA (Ba (HK F) λhB=>Jc hB) (Jc false)) (Jc false)) (Jc false)
def UX (F:Nat)(x:Co):Option Bool:=
 Bj (!x.fNone) (Ba (NX F x) λr4=>Bj (Oj F x.fA x.fItems).isSome (Ba (Oj F x.fA x.fItems) λhb=>Bj (HR F x.fA x.fItems).isSome (Ba (HR F x.fA x.fItems) λhd=>Bj (decide (50<(x.fL.length:Int))) (Ba (HK F) λhi=>some hi) (Ba (Cg (λσ=>OO F x r4 σ.1 σ.2.1 σ.2.2.1 σ.2.2.2.1 σ.2.2.2.2.1 σ.2.2.2.2.2.1 σ.2.2.2.2.2.2.1 σ.2.2.2.2.2.2.2.1 σ.2.2.2.2.2.2.2.2.1 σ.2.2.2.2.2.2.2.2.2.1 σ.2.2.2.2.2.2.2.2.2.2.1 σ.2.2.2.2.2.2.2.2.2.2.2.1 σ.2.2.2.2.2.2.2.2.2.2.2.2.1 σ.2.2.2.2.2.2.2.2.2.2.2.2.2.1 σ.2.2.2.2.2.2.2.2.2.2.2.2.2.2.1 σ.2.2.2.2.2.2.2.2.2.2.2.2.2.2.2.1 σ.2.2.2.2.2.2.2.2.2.2.2.2.2.2.2.2.1 σ.2.2.2.2.2.2.2.2.2.2.2.2.2.2.2.2.2.1 σ.2.2.2.2.2.2.2.2.2.2.2.2.2.2.2.2.2.2.1 σ.2.2.2.2.2.2.2.2.2.2.2.2.2.2.2.2.2.2.2.1 σ.2.2.2.2.2.2.2.2.2.2.2.2.2.2.2.2.2.2.2.2.1 σ.2.2.2.2.2.2.2.2.2.2.2.2.2.2.2.2.2.2.2.2.2.1 σ.2.2.2.2.2.2.2.2.2.2.2.2.2.2.2.2.2.2.2.2.2.2.1 σ.2.2.2.2.2.2.2.2.2.2.2.2.2.2.2.2.2.2.2.2.2.2.2.1 σ.2.2.2.2.2.2.2.2.2.2.2.2.2.2.2.2.2.2.2.2.2.2.2.2) F (0,hd.1.fAccess.fTenant,hd.1.fAccess.fFunction,hd.1.fAccess.fOps,hd.1.fAccess.fPolicy,hd.1.fAccess.fNet,hd.1.fAccess.fNow,hd.1.fItems,hd.1.fMade,hd.1.fAsked,hd.1.fEffects,hd.1.fReads,hd.1.fLog,hb.1.fMade,hb.1.fA.fTenant,hb.1.fA.fFunction,hb.1.fA.fOps,hb.1.fA.fPolicy,hb.1.fA.fNet,hb.1.fA.fNow,hb.1.fCalls,hb.1.fEffects,hb.1.fReads,hb.1.fLog,hb.1.fItems)) (Cm λν=>Kx F ν.1 ν.2.1 ν.2.2.1 ν.2.2.2.1 ν.2.2.2.2.1 ν.2.2.2.2.2.1 ν.2.2.2.2.2.2.1 ν.2.2.2.2.2.2.2.1 ν.2.2.2.2.2.2.2.2.1 ν.2.2.2.2.2.2.2.2.2.1 ν.2.2.2.2.2.2.2.2.2.2.1 ν.2.2.2.2.2.2.2.2.2.2.2.1 ν.2.2.2.2.2.2.2.2.2.2.2.2.1 ν.2.2.2.2.2.2.2.2.2.2.2.2.2.1 ν.2.2.2.2.2.2.2.2.2.2.2.2.2.2.1 ν.2.2.2.2.2.2.2.2.2.2.2.2.2.2.2.1 ν.2.2.2.2.2.2.2.2.2.2.2.2.2.2.2.2.1 ν.2.2.2.2.2.2.2.2.2.2.2.2.2.2.2.2.2.1 ν.2.2.2.2.2.2.2.2.2.2.2.2.2.2.2.2.2.2.1 ν.2.2.2.2.2.2.2.2.2.2.2.2.2.2.2.2.2.2.2.1 ν.2.2.2.2.2.2.2.2.2.2.2.2.2.2.2.2.2.2.2.2.1 ν.2.2.2.2.2.2.2.2.2.2.2.2.2.2.2.2.2.2.2.2.2.1 ν.2.2.2.2.2.2.2.2.2.2.2.2.2.2.2.2.2.2.2.2.2.2.1 ν.2.2.2.2.2.2.2.2.2.2.2.2.2.2.2.2.2.2.2.2.2.2.2))) (Ba (Li F x.fA x.fItems) λhj=>AM (!decide (0=hj.2))<|some false)) (Ba (Vn F x.fA x.fItems) λhg=>Bj (HR F x.fA x.fItems).isSome (Ba (HR F x.fA x.fItems) λhr=>AM (!decide (hg.2=0))<|some false) (Ba (Li F x.fA x.fItems) λhk=>Bj (!decide (hg.2=hk.2)) (some false) (AM (((!decide (hg.2=0))||(decide (50<(x.fL.length:Int)))))<|Ba (HK F) λhl=>some hl)))) (Ba (NY F x) λhs=>Bj (Oj F x.fA x.fItems).isSome (Ba (Oj F x.fA x.fItems) λhe=>Bj (HR F x.fA x.fItems).isSome (Ba (HR F x.fA x.fItems) λhf=>Bj (decide (50<(x.fL.length:Int))) (Ba (HK F) λhm=>some hm) (Ba (Cg (λσ=>ON F x σ.1 σ.2.1 σ.2.2.1 σ.2.2.2.1 σ.2.2.2.2.1 σ.2.2.2.2.2.1 σ.2.2.2.2.2.2.1 σ.2.2.2.2.2.2.2.1 σ.2.2.2.2.2.2.2.2.1 σ.2.2.2.2.2.2.2.2.2.1 σ.2.2.2.2.2.2.2.2.2.2.1 σ.2.2.2.2.2.2.2.2.2.2.2.1 σ.2.2.2.2.2.2.2.2.2.2.2.2.1 σ.2.2.2.2.2.2.2.2.2.2.2.2.2.1 σ.2.2.2.2.2.2.2.2.2.2.2.2.2.2.1 σ.2.2.2.2.2.2.2.2.2.2.2.2.2.2.2.1 σ.2.2.2.2.2.2.2.2.2.2.2.2.2.2.2.2.1 σ.2.2.2.2.2.2.2.2.2.2.2.2.2.2.2.2.2.1 σ.2.2.2.2.2.2.2.2.2.2.2.2.2.2.2.2.2.2.1 σ.2.2.2.2.2.2.2.2.2.2.2.2.2.2.2.2.2.2.2.1 σ.2.2.2.2.2.2.2.2.2.2.2.2.2.2.2.2.2.2.2.2.1 σ.2.2.2.2.2.2.2.2.2.2.2.2.2.2.2.2.2.2.2.2.2.1 σ.2.2.2.2.2.2.2.2.2.2.2.2.2.2.2.2.2.2.2.2.2.2.1 σ.2.2.2.2.2.2.2.2.2.2.2.2.2.2.2.2.2.2.2.2.2.2.2.1 σ.2.2.2.2.2.2.2.2.2.2.2.2.2.2.2.2.2.2.2.2.2.2.2.2) F (0,hf.1.fAccess.fTenant,hf.1.fAccess.fFunction,hf.1.fAccess.fOps,hf.1.fAccess.fPolicy,hf.1.fAccess.fNet,hf.1.fAccess.fNow,hf.1.fItems,hf.1.fMade,hf.1.fAsked,hf.1.fEffects,hf.1.fReads,hf.1.fLog,he.1.fMade,he.1.fA.fTenant,he.1.fA.fFunction,he.1.fA.fOps,he.1.fA.fPolicy,he.1.fA.fNet,he.1.fA.fNow,he.1.fCalls,he.1.fEffects,he.1.fReads,he.1.fLog,he.1.fItems)) (Cm λν=>OM F ν.1 ν.2.1 ν.2.2.1 ν.2.2.2.1 ν.2.2.2.2.1 ν.2.2.2.2.2.1 ν.2.2.2.2.2.2.1 ν.2.2.2.2.2.2.2.1 ν.2.2.2.2.2.2.2.2.1 ν.2.2.2.2.2.2.2.2.2.1 ν.2.2.2.2.2.2.2.2.2.2.1 ν.2.2.2.2.2.2.2.2.2.2.2.1 ν.2.2.2.2.2.2.2.2.2.2.2.2.1 ν.2.2.2.2.2.2.2.2.2.2.2.2.2.1 ν.2.2.2.2.2.2.2.2.2.2.2.2.2.2.1 ν.2.2.2.2.2.2.2.2.2.2.2.2.2.2.2.1 ν.2.2.2.2.2.2.2.2.2.2.2.2.2.2.2.2.1 ν.2.2.2.2.2.2.2.2.2.2.2.2.2.2.2.2.2.1 ν.2.2.2.2.2.2.2.2.2.2.2.2.2.2.2.2.2.2.1 ν.2.2.2.2.2.2.2.2.2.2.2.2.2.2.2.2.2.2.2.1 ν.2.2.2.2.2.2.2.2.2.2.2.2.2.2.2.2.2.2.2.2.1 ν.2.2.2.2.2.2.2.2.2.2.2.2.2.2.2.2.2.2.2.2.2.1 ν.2.2.2.2.2.2.2.2.2.2.2.2.2.2.2.2.2.2.2.2.2.2.1 ν.2.2.2.2.2.2.2.2.2.2.2.2.2.2.2.2.2.2.2.2.2.2.2))) (Ba (Li F x.fA x.fItems) λhn=>AM (!decide (0=hn.2))<|some false)) (Ba (Vn F x.fA x.fItems) λhh=>Bj (HR F x.fA x.fItems).isSome (Ba (HR F x.fA x.fItems) λht=>AM (!decide (hh.2=0))<|some false) (Ba (Li F x.fA x.fItems) λhp=>Bj (!decide (hh.2=hp.2)) (some false) (AM (((!decide (hh.2=0))||(decide (50<(x.fL.length:Int)))))<|Ba (HK F) λhq=>some hq))))
end Go.Proofs.YtphnhpcjnmmhiaaGreatDoor
namespace Go.Proofs.YtphnhpcjnmmhiaaGreatDoor.Q
open Go Go.RowKit
set_option linter.unusedVariables false
set_option linter.unusedSimpArgs false
set_option maxRecDepth 100000
set_option maxHeartbeats 4000000
theorem Ah3 (F:Nat)(x:Co)(r:Bool)(h:UX F x=some r):FN 3 [Cz (C5 x)] [] (PO (rB r)):=en Tryz.func3 Tryz.ntmps3 Aa λw Z=>by unfold UX at h;exact Ay<|Cb Aa Aa λb1=>ms Aa<|Dc<|wv (B0 0)<|bz h (λc2 h3=>by refine ob h3 λr4 e6 h5=>EX [] Tryz.call4 (AbJ F x r4 e6) ?_;rintro _ _ ⟨b7,b8,v9,hk,hx,rfl,rfl⟩;exact ms Aa<|wv Al<|wv Al<|ms Aa<|Dc<|wv An<|wv (B0 5)<|wv An<|wv (Ae 5)<|ms Aa<|bz h5 (λx8 x9=>by refine ob x9 λhg xA xB=>EX [] yk5 (Yq F (some ⟨b7,0,none⟩) x.fA x.fItems hg xA) ?_;rintro _ _ ⟨hn,hp,g5,v20,v21,rfl,rfl⟩;exact ms Aa<|wv Al<|wv Al<|ms Aa<|Dc<|wv An<|wv (B0 10)<|wv An<|wv (Ae 10)<|ms Aa<|bz xB (λxC xD=>by refine ob xD λhh xE xF=>EX [] yk6 (O2 F (some ⟨hk,0,none⟩) x.fA x.fItems hh xE) ?_;rintro _ _ ⟨hq,g6,g7,g8,v31,rfl,rfl⟩;exact ms Aa<|wv Al<|wv Al<|ms Aa<|BD Aa<|wv Ci<|AJ<|CV Aa (JW (by decide))<|Bt<|Ar [(1,rP b1 0),(5,rP hn 0),(7,rP hq 0),(45,rB (Bm (50<(x.fL.length:Int))))] [.blk hq (Jf hh.1.fAccess.fTenant hh.1.fAccess.fFunction hh.1.fAccess.fOps hh.1.fAccess.fPolicy hh.1.fAccess.fNet hh.1.fAccess.fNow g6 hk hh.1.fMade hh.1.fAsked g7 g8 v31) 84,CA g6 hh.1.fItems,CW g7 hh.1.fEffects,Bl g8 hh.1.fReads,Bl v31 hh.1.fLog,.blk hn (IA hg.1.fMade hg.1.fA.fTenant hg.1.fA.fFunction hg.1.fA.fOps hg.1.fA.fPolicy hg.1.fA.fNet hg.1.fA.fNow hp b7 hg.1.fCalls g5 v20 v21) 69,.map hp (BC A9 hg.1.fItems),CW g5 hg.1.fEffects,Bl v20 hg.1.fReads,Bl v21 hg.1.fLog,Cp b7 b8,.map b8 (BC (mP b8) r4.1.1.fSecrets),.poolm b8 v9 120 (Bu AH r4.1.2) none,.blk hk [rB r4.2.fMade,rv hx] 113,MJ hx r4.2.fSecrets,.blk b1 (C5 x) 31] (B7 Aa<|wv Ci<|ms Aa<|Dd Aa Aa (JW (by decide))<|wv An<|Dd Aa Aa (JW (by decide))<|wv (Ae 15)<|Dd Aa Aa (JW (by decide))<|wv AU<|Dd Aa Aa (JW (by decide))<|wv C9<|wv (Am (JW (by decide)))<|Az<|wt)<|B2 xF (λxG xH=>Ay<|ob xH λxI xJ xK=>BV yk7 (Je F xI xJ)<|By Aa<|Ao<|cs xK▸Ap (Ct yr3 AW) (sK 0) ⟨Aa,Aa⟩) λxG xL=>Bt<|AA Aa<|AJ<|Au<|Pq [0,4,4,7,7,7,7,7,7] Aa<|ob xL λxM xN xc=>Bk (V:=(Ac×Ac×(List Ac)×(List Ad)×(List A1)×Int×(List AB)×Bool×Int×(List Ak)×(List Ac)×(List Ac)×Bool×Ac×Ac×(List Ac)×(List Ad)×(List A1)×Int×Int×(List Ak)×(List Ac)×(List Ac)×(List (Ac×(List Ab))))×(Value×Value×Value×Value×Value×Value×Value)) 0 (λσ=>Cg (λσ=>OO F x r4 σ.1 σ.2.1 σ.2.2.1 σ.2.2.2.1 σ.2.2.2.2.1 σ.2.2.2.2.2.1 σ.2.2.2.2.2.2.1 σ.2.2.2.2.2.2.2.1 σ.2.2.2.2.2.2.2.2.1 σ.2.2.2.2.2.2.2.2.2.1 σ.2.2.2.2.2.2.2.2.2.2.1 σ.2.2.2.2.2.2.2.2.2.2.2.1 σ.2.2.2.2.2.2.2.2.2.2.2.2.1 σ.2.2.2.2.2.2.2.2.2.2.2.2.2.1 σ.2.2.2.2.2.2.2.2.2.2.2.2.2.2.1 σ.2.2.2.2.2.2.2.2.2.2.2.2.2.2.2.1 σ.2.2.2.2.2.2.2.2.2.2.2.2.2.2.2.2.1 σ.2.2.2.2.2.2.2.2.2.2.2.2.2.2.2.2.2.1 σ.2.2.2.2.2.2.2.2.2.2.2.2.2.2.2.2.2.2.1 σ.2.2.2.2.2.2.2.2.2.2.2.2.2.2.2.2.2.2.2.1 σ.2.2.2.2.2.2.2.2.2.2.2.2.2.2.2.2.2.2.2.2.1 σ.2.2.2.2.2.2.2.2.2.2.2.2.2.2.2.2.2.2.2.2.2.1 σ.2.2.2.2.2.2.2.2.2.2.2.2.2.2.2.2.2.2.2.2.2.2.1 σ.2.2.2.2.2.2.2.2.2.2.2.2.2.2.2.2.2.2.2.2.2.2.2.1 σ.2.2.2.2.2.2.2.2.2.2.2.2.2.2.2.2.2.2.2.2.2.2.2.2) σ.1 σ.2.1=some xM) (λσ=>[(1,rP b1 0),(5,rP hn 0),(7,rP hq 0),(9,AZ σ.2.1.1)]) (λσ=>(.blk hq (Jf σ.2.1.2.1 σ.2.1.2.2.1 σ.2.1.2.2.2.1 σ.2.1.2.2.2.2.1 σ.2.1.2.2.2.2.2.1 σ.2.1.2.2.2.2.2.2.1 σ.2.2.1 hk σ.2.1.2.2.2.2.2.2.2.2.1 σ.2.1.2.2.2.2.2.2.2.2.2.1 σ.2.2.2.1 σ.2.2.2.2.1 σ.2.2.2.2.2.1) 84::.blk hn (IA σ.2.1.2.2.2.2.2.2.2.2.2.2.2.2.2.1 σ.2.1.2.2.2.2.2.2.2.2.2.2.2.2.2.2.1 σ.2.1.2.2.2.2.2.2.2.2.2.2.2.2.2.2.2.1 σ.2.1.2.2.2.2.2.2.2.2.2.2.2.2.2.2.2.2.1 σ.2.1.2.2.2.2.2.2.2.2.2.2.2.2.2.2.2.2.2.1 σ.2.1.2.2.2.2.2.2.2.2.2.2.2.2.2.2.2.2.2.2.1 σ.2.1.2.2.2.2.2.2.2.2.2.2.2.2.2.2.2.2.2.2.2.1 hp b7 σ.2.1.2.2.2.2.2.2.2.2.2.2.2.2.2.2.2.2.2.2.2.2.1 σ.2.2.2.2.2.2.1 σ.2.2.2.2.2.2.2.1 σ.2.2.2.2.2.2.2.2) 69::.map hp (BC A9 σ.2.1.2.2.2.2.2.2.2.2.2.2.2.2.2.2.2.2.2.2.2.2.2.2.2.2)::Cp b7 b8::.map b8 (BC (mP b8) r4.1.1.fSecrets)::.poolm b8 v9 120 (Bu AH r4.1.2) none::.blk hk [rB r4.2.fMade,rv hx] 113::.row hx 124 8 (Bu D4 r4.2.fSecrets)::.blk b1 (C5 x) 31::CA σ.2.2.1 σ.2.1.2.2.2.2.2.2.2.1::CW σ.2.2.2.1 σ.2.1.2.2.2.2.2.2.2.2.2.2.1::Bl σ.2.2.2.2.1 σ.2.1.2.2.2.2.2.2.2.2.2.2.2.1::Bl σ.2.2.2.2.2.1 σ.2.1.2.2.2.2.2.2.2.2.2.2.2.2.1::CO σ.2.2.2.2.2.2.1 σ.2.1.2.2.2.2.2.2.2.2.2.2.2.2.2.2.2.2.2.2.2.2.2.1 σ.2.2.2.2.2.2.2.1 σ.2.1.2.2.2.2.2.2.2.2.2.2.2.2.2.2.2.2.2.2.2.2.2.2.1 σ.2.2.2.2.2.2.2.2 σ.2.1.2.2.2.2.2.2.2.2.2.2.2.2.2.2.2.2.2.2.2.2.2.2.2.1)) (λσ=>σ.1) (F,(0,hh.1.fAccess.fTenant,hh.1.fAccess.fFunction,hh.1.fAccess.fOps,hh.1.fAccess.fPolicy,hh.1.fAccess.fNet,hh.1.fAccess.fNow,hh.1.fItems,hh.1.fMade,hh.1.fAsked,hh.1.fEffects,hh.1.fReads,hh.1.fLog,hg.1.fMade,hg.1.fA.fTenant,hg.1.fA.fFunction,hg.1.fA.fOps,hg.1.fA.fPolicy,hg.1.fA.fNet,hg.1.fA.fNow,hg.1.fCalls,hg.1.fEffects,hg.1.fReads,hg.1.fLog,hg.1.fItems),(g6,g7,g8,v31,g5,v20,v21)) xN (A7 Aa) (sM 65535 Aa) (λσ=>Kx F σ.1.1 σ.1.2.1 σ.1.2.2.1 σ.1.2.2.2.1 σ.1.2.2.2.2.1 σ.1.2.2.2.2.2.1 σ.1.2.2.2.2.2.2.1 σ.1.2.2.2.2.2.2.2.1 σ.1.2.2.2.2.2.2.2.2.1 σ.1.2.2.2.2.2.2.2.2.2.1 σ.1.2.2.2.2.2.2.2.2.2.2.1 σ.1.2.2.2.2.2.2.2.2.2.2.2.1 σ.1.2.2.2.2.2.2.2.2.2.2.2.2.1 σ.1.2.2.2.2.2.2.2.2.2.2.2.2.2.1 σ.1.2.2.2.2.2.2.2.2.2.2.2.2.2.2.1 σ.1.2.2.2.2.2.2.2.2.2.2.2.2.2.2.2.1 σ.1.2.2.2.2.2.2.2.2.2.2.2.2.2.2.2.2.1 σ.1.2.2.2.2.2.2.2.2.2.2.2.2.2.2.2.2.2.1 σ.1.2.2.2.2.2.2.2.2.2.2.2.2.2.2.2.2.2.2.1 σ.1.2.2.2.2.2.2.2.2.2.2.2.2.2.2.2.2.2.2.2.1 σ.1.2.2.2.2.2.2.2.2.2.2.2.2.2.2.2.2.2.2.2.2.1 σ.1.2.2.2.2.2.2.2.2.2.2.2.2.2.2.2.2.2.2.2.2.2.1 σ.1.2.2.2.2.2.2.2.2.2.2.2.2.2.2.2.2.2.2.2.2.2.2.1 σ.1.2.2.2.2.2.2.2.2.2.2.2.2.2.2.2.2.2.2.2.2.2.2.2=some r) (λσ=>[(5,rP hn 0),(7,rP hq 0)]) (λσ=>(.blk hq (Jf σ.1.1 σ.1.2.1 σ.1.2.2.1 σ.1.2.2.2.1 σ.1.2.2.2.2.1 σ.1.2.2.2.2.2.1 σ.2.1 hk σ.1.2.2.2.2.2.2.2.1 σ.1.2.2.2.2.2.2.2.2.1 σ.2.2.1 σ.2.2.2.1 σ.2.2.2.2.1) 84::.blk hn (IA σ.1.2.2.2.2.2.2.2.2.2.2.2.2.1 σ.1.2.2.2.2.2.2.2.2.2.2.2.2.2.1 σ.1.2.2.2.2.2.2.2.2.2.2.2.2.2.2.1 σ.1.2.2.2.2.2.2.2.2.2.2.2.2.2.2.2.1 σ.1.2.2.2.2.2.2.2.2.2.2.2.2.2.2.2.2.1 σ.1.2.2.2.2.2.2.2.2.2.2.2.2.2.2.2.2.2.1 σ.1.2.2.2.2.2.2.2.2.2.2.2.2.2.2.2.2.2.2.1 hp b7 σ.1.2.2.2.2.2.2.2.2.2.2.2.2.2.2.2.2.2.2.2.1 σ.2.2.2.2.2.1 σ.2.2.2.2.2.2.1 σ.2.2.2.2.2.2.2) 69::.map hp (BC A9 σ.1.2.2.2.2.2.2.2.2.2.2.2.2.2.2.2.2.2.2.2.2.2.2.2)::Cp b7 b8::.map b8 (BC (mP b8) r4.1.1.fSecrets)::.poolm b8 v9 120 (Bu AH r4.1.2) none::.blk hk [rB r4.2.fMade,rv hx] 113::.row hx 124 8 (Bu D4 r4.2.fSecrets)::CA σ.2.1 σ.1.2.2.2.2.2.2.1::CW σ.2.2.1 σ.1.2.2.2.2.2.2.2.2.2.1::Bl σ.2.2.2.1 σ.1.2.2.2.2.2.2.2.2.2.2.1::Bl σ.2.2.2.2.1 σ.1.2.2.2.2.2.2.2.2.2.2.2.1::CO σ.2.2.2.2.2.1 σ.1.2.2.2.2.2.2.2.2.2.2.2.2.2.2.2.2.2.2.2.2.1 σ.2.2.2.2.2.2.1 σ.1.2.2.2.2.2.2.2.2.2.2.2.2.2.2.2.2.2.2.2.2.2.1 σ.2.2.2.2.2.2.2 σ.1.2.2.2.2.2.2.2.2.2.2.2.2.2.2.2.2.2.2.2.2.2.2.1)) (by rintro⟨rT,⟨h2,g9,gA,gB,gC,gD,gE,gF,gG,gH,gI,gJ,gK,gL,gM,gN,gO,gP,gQ,gR,gS,gT,gU,gV,gW⟩,⟨xd,xe,xf,xg,xh,xi,xj⟩⟩ xO;refine EG ?_;obtain⟨xP,rfl,t218,gX,gY⟩:=Cq xO;have gX:OO F x r4 h2 g9 gA gB gC gD gE gF gG gH gI gJ gK gL gM gN gO gP gQ gR gS gT gU gV gW=some t218:=gX;exact AV<|AA Aa<|wv An<|wv (Ae 8)<|wv AU<|wv BI<|AJ<|B2 gX (λxQ xR=>by refine Bt<|Au<|AA Aa<|wv An<|wv (Ae 8)<|ms Aa<|ck xR λxk xS=>wv (AX xk)<|wv C2<|ob xS λhb xT xU=>EX [1,1,11,11,11,1,1,1] yk8 (MR F hn hp xh xi xj b7 b8 v9 (Av.mk gL (A0.mk gM gN gO gP gQ gR) gW () gS gT gU gV) r4.1.1 r4.1.2 (Af x.fL h2) hb xT) ?_;rintro _ _ ⟨gZ,v232,v233,rfl,rfl⟩;exact BY (cs:=D2) Pa Aa Aa λrU=>by refine Eu 0 C3 Aa Aa Aa (Bn.c Aa) Aa Aa ?_;refine BM Aa<|wv An<|wv (Ae 12)<|ms Aa<|wv (AX xk)<|wv C2<|ob xU λhd xV xW=>EX [9,12,12,12,12,9,9] Tryz.call9 (AgL F hq xd xe xf xg hk hx (Ai.mk (A0.mk g9 gA gB gC gD gE) gF () gG gH gI gJ gK) r4.2 (Af x.fL h2) hd xV) ?_;rintro _ _ ⟨ca,cb,cc,cd,rfl,rfl⟩;exact BY (cs:=D2) Pa Aa Aa λrV=>by refine Eu 0 C3 Aa Aa Aa (Bn.c Aa) Aa Aa ?_;exact AJ<|ck xW λxX xY=>Ar [(1,rP b1 0),(5,rP hn 0),(7,rP hq 0),(9,AZ h2),(80,rB ((!Bm (hb.1.fErr=hd.1.fErr))||(!(ov (HE F hb.1.fValue hd.1.fValue)))))] [.blk hq (Jf hd.2.fAccess.fTenant hd.2.fAccess.fFunction hd.2.fAccess.fOps hd.2.fAccess.fPolicy hd.2.fAccess.fNet hd.2.fAccess.fNow ca hk hd.2.fMade hd.2.fAsked cb cc cd) 84,CA ca hd.2.fItems,CW cb hd.2.fEffects,Bl cc hd.2.fReads,Bl cd hd.2.fLog,.blk hk [rB r4.2.fMade,rv hx] 113,MJ hx r4.2.fSecrets,.blk hn (IA hb.2.fMade hb.2.fA.fTenant hb.2.fA.fFunction hb.2.fA.fOps hb.2.fA.fPolicy hb.2.fA.fNet hb.2.fA.fNow hp b7 hb.2.fCalls gZ v232 v233) 69,.map hp (BC A9 hb.2.fItems),CW gZ hb.2.fEffects,Bl v232 hb.2.fReads,Bl v233 hb.2.fLog,Cp b7 b8,.map b8 (BC (mP b8) r4.1.1.fSecrets),.poolm b8 v9 120 (Bu AH r4.1.2) none,.blk b1 (C5 x) 31] (A4<|wv An<|wv (Ae 8)<|wv An<|wv (Ae 0)<|wv Ci<|ms Aa<|AF (!Bm (hb.1.fErr=hd.1.fErr)) (λhl=>CB hl Aa<|wv (Aj hl)<|Az<|BR hl) λhl=>Bq hl An<|Bq hl (Ae 8)<|Bq hl An<|Bq hl (Ae 0)<|wo hl<|BV AaW (M5 F hb.1.fValue hd.1.fValue (ov (HE F hb.1.fValue hd.1.fValue)) (Dr (CM xX hl)))<|Bq hl BQ<|Ep Aa hl Aa<|Az<|BR hl)<|B2 xY (λxZ va=>B6 Aa<|B8<|Ao<|Bf<|have vb:=BE va gY xc;B8<|cs vb▸Ap (Ct yr3 AW) (sK 0) ⟨Aa,Aa⟩) λxZ vc=>by refine B3<|CR<|B7 Aa<|ck vc λvd ve=>wv (Bh vd)<|Bg Aa<|JL [0,6,6,9,9,9,4,4,7] ?_;exact have vf:=Bd ve gY;Ax (As (xP,(h2+1,hd.2.fAccess.fTenant,hd.2.fAccess.fFunction,hd.2.fAccess.fOps,hd.2.fAccess.fPolicy,hd.2.fAccess.fNet,hd.2.fAccess.fNow,hd.2.fItems,hd.2.fMade,hd.2.fAsked,hd.2.fEffects,hd.2.fReads,hd.2.fLog,hb.2.fMade,hb.2.fA.fTenant,hb.2.fA.fFunction,hb.2.fA.fOps,hb.2.fA.fPolicy,hb.2.fA.fNet,hb.2.fA.fNow,hb.2.fCalls,hb.2.fEffects,hb.2.fReads,hb.2.fLog,hb.2.fItems),(ca,cb,cc,cd,gZ,v232,v233)) ⟨vf,Apu _⟩ (A7 Aa) (sC (sC (sC (sC (sC (sC (sC (sC (sC (sC (sC (sC (sC (sC (sC (sC sN)))))))))))))))))) λxQ vg=>Bs<|Ah<|have vh:=BG vg gY xc;Ah (AN (As ((g9,gA,gB,gC,gD,gE,gF,gG,gH,gI,gJ,gK,gL,gM,gN,gO,gP,gQ,gR,gS,gT,gU,gV,gW),(xd,xe,xf,xg,xh,xi,xj)) vh (A7 Aa) (sC (sC (sC (sC (sC (sC (sC (sC (sS (sC (sC (sC (sC (sC (sC (sC sN)))))))))))))))))))<|by rintro⟨⟨h8,h9,hA,hB,hC,hD,hE,hG,hH,hI,hJ,hK,hL,hN,hO,hP,hQ,hR,hS,hT,hU,hV,hW,hX⟩,⟨ce,cf,cg,ch,ci,cj,cl⟩⟩ hY;refine Gw ?_;exact have hY:Kx F h8 h9 hA hB hC hD hE hG hH hI hJ hK hL hN hO hP hQ hR hS hT hU hV hW hX=some r:=hY;by unfold Kx at hY;exact AR<|Cy<|EY (S:=Bool×Unit) (λσ=>Gn σ.1=some r) (λσ=>[(2,rB σ.1)]) (λσ=>[.poolm b8 v9 120 (Bu AH r4.1.2) none]) (by refine B7 Aa<|ob hY λxl vi vj=>EX [1,1,10,10,10] Tryz.call12 (Qn F hn hp ci cj cl (some ⟨b7,0,none⟩) (Av.mk hL (A0.mk hN hO hP hQ hR hS) hX () hT hU hV hW) xl vi) ?_;rintro _ _ ⟨rfl,rfl⟩;refine ms Aa<|ob vj λxm vl vm=>EX [5,10,10,10,10] Tryz.call13 (QG F hq ce cf cg ch (some ⟨hk,0,none⟩) (Ai.mk (A0.mk h8 h9 hA hB hC hD) hE () hG hH hI hJ hK) xm vl) ?_;rintro _ _ ⟨rfl,rfl⟩;exact ob vm λvn vo vp=>BV Tryz.call11 (QX F xl xm vn vo)<|ms Aa<|bz vp (λhy vq=>by refine wo hy<|ms Aa<|wo hy<|ob vq λxn vr vs=>EX [5,5,5,5,5] Tryz.call15 (Rh hn hp ci cj cl (some ⟨b7,0,none⟩) (Av.mk hL (A0.mk hN hO hP hQ hR hS) hX () hT hU hV hW) xn vr) ?_;rintro _ _ ⟨rfl,rfl⟩;refine wo hy<|ms Aa<|wo hy<|ob vs λxo vt vu=>EX [5,5,5,5,5] Tryz.call16 (Uz hq ce cf cg ch (some ⟨hk,0,none⟩) (Ai.mk (A0.mk h8 h9 hA hB hC hD) hE () hG hH hI hJ hK) xo vt) ?_;rintro _ _ ⟨rfl,rfl⟩;exact wo hy<|ob vu λvv vw vx=>BV AfW (Od F xn xo vv vw)<|Ej Aa hy Aa<|ms Aa<|bz vx (λhz vy=>by refine wo hz<|ms Aa<|wo hz<|ob vy λxp v0 v1=>EX [5,5,5,5,5] Tryz.call17 (AhS hn hp ci cj cl (some ⟨b7,0,none⟩) (Av.mk hL (A0.mk hN hO hP hQ hR hS) hX () hT hU hV hW) xp v0) ?_;rintro _ _ ⟨rfl,rfl⟩;refine wo hz<|ms Aa<|wo hz<|ob v1 λxq v2 v3=>EX [5,5,5,5,5] Tryz.call18 (Zy hq ce cf cg ch (some ⟨hk,0,none⟩) (Ai.mk (A0.mk h8 h9 hA hB hC hD) hE () hG hH hI hJ hK) xq v2) ?_;rintro _ _ ⟨rfl,rfl⟩;exact wo hz<|ob v3 λv4 v5 v6=>BV AfW (Od F xp xq v4 v5)<|Ej Aa hz Aa<|ms Aa<|bz v6 (λh4 v7=>wo h4<|ob v7 λxr v8 vA=>BV yk7 (Je F xr v8)<|Ej Aa h4 Aa<|Bg Aa<|Ax (As (xr,()) vA (A7 Aa) (sS (sS (sS (sS (sS (sS (sS (sS (sS (sS (sS (sS (sC (sS (sS sN))))))))))))))))) λh4 vB=>wf h4<|wv (Am h4)<|Bg Aa<|Ax (As (false,()) vB (A7 Aa) (sS (sS (sS (sS (sS (sS (sS (sS (sS (sS (sS (sS (sC (sS (sS sN))))))))))))))))) λhz vC=>CB hz Aa<|wv (Am hz)<|ms Aa<|vz Aa<|wv (Am Aa)<|Bg Aa<|Ax (As (false,()) vC (A7 Aa) (sS (sS (sS (sS (sS (sS (sS (sS (sS (sS (sS (sS (sC (sS (sS sN))))))))))))))))) λhy vD=>CB hy Aa<|wv (Am hy)<|ms Aa<|Dx Aa<|wv (Am Aa)<|ms Aa<|vz Aa<|wv (Am Aa)<|Bg Aa<|Ax (As (false,()) vD (A7 Aa) (sS (sS (sS (sS (sS (sS (sS (sS (sS (sS (sS (sS (sC (sS (sS sN)))))))))))))))))<|by rintro⟨vE,⟨⟩⟩ hZ;refine EG ?_;exact have hZ:Gn vE=some r:=hZ;by unfold Gn at hZ;exact BO<|cs hZ▸Ap (Ct yr3 AW) (sS sN) ⟨Aa,Aa⟩) λxC vF=>ob vF λvG vH vI=>BV yk6 (O3 F (some ⟨hk,0,none⟩) x.fA x.fItems vG vH)<|ms Aa<|wv Al<|wv Al<|ms Aa<|BD Aa<|wv Ci<|AJ<|ck vI λvJ vK=>CG Aa vJ<|Bw Aa<|cs vK▸Ap (Ct yr3 AW) (sK 0) ⟨Aa,Aa⟩) λx8 vL=>ob vL λcm vM vN=>BV yk5 (Yr F (some ⟨b7,0,none⟩) x.fA x.fItems cm vM)<|ms Aa<|wv Al<|wv Al<|ms Aa<|Dc<|wv An<|wv (B0 5)<|wv An<|wv (Ae 5)<|ms Aa<|bz vN (λvO vP=>by refine ob vP λvQ vR vS=>EX [] yk6 (O2 F (some ⟨hk,0,none⟩) x.fA x.fItems vQ vR) ?_;rintro _ _ ⟨rW,rX,rY,rZ,ta,rfl,rfl⟩;exact ms Aa<|wv Al<|wv Al<|ms Aa<|BD Aa<|wv Ci<|AJ<|ck vS λvT vU=>CG Aa vT<|Bw Aa<|cs vU▸Ap (Ct yr3 AW) (sK 0) ⟨Aa,Aa⟩) λvO vV=>ob vV λvW vX vY=>BV yk6 (O3 F (some ⟨hk,0,none⟩) x.fA x.fItems vW vX)<|ms Aa<|wv Al<|wv Al<|ms Aa<|BD Aa<|wv Ci<|AJ<|B2 vY (λvZ ba=>Bw Aa<|cs ba▸Ap (Ct yr3 AW) (sK 0) ⟨Aa,Aa⟩) λvZ bb=>Bt<|Ar [(1,rP b1 0),(5,rv (.pointer none)),(7,rv (.pointer none)),(45,rB ((!Bm (cm.2=0))||(Bm (50<(x.fL.length:Int)))))] [.poolm b8 v9 120 (Bu AH r4.1.2) none,.blk b1 (C5 x) 31] (B7 Aa<|wv Ci<|ms Aa<|AF (!Bm (cm.2=0)) (λhu=>by exact CB hu Aa<|wv (Aj hu)<|Az<|BR hu) λhu=>by exact Bq hu An<|Bq hu (Ae 5)<|Bq hu AU<|Bq hu C9<|Ep Aa hu Aa<|Az<|BR hu)<|ck bb λbc bd=>CG Aa bc<|Ay<|ob bd λbe bf bg=>BV yk7 (Je F be bf)<|By Aa<|Ao<|by exact cs bg▸Ap (Ct yr3 AW) (sK 0) ⟨Aa,Aa⟩) λc2 bh=>ob bh λbi bj bk=>BV Tryz.call4 (AbK F x bi bj)<|ms Aa<|wv Al<|wv Al<|ms Aa<|Dc<|wv An<|wv (B0 0)<|wv An<|wv (Ae 0)<|ms Aa<|bz bk (λbl bm=>by refine ob bm λhi bn bo=>EX [] yk5 (Yq F none x.fA x.fItems hi bn) ?_;rintro _ _ ⟨hr,hs,cn,co,cp,rfl,rfl⟩;exact ms Aa<|wv Al<|wv Al<|ms Aa<|Dc<|wv An<|wv (B0 5)<|wv An<|wv (Ae 5)<|ms Aa<|bz bo (λbp bq=>by refine ob bq λhj br bs=>EX [] yk6 (O2 F none x.fA x.fItems hj br) ?_;rintro _ _ ⟨ht,cq,cr,ct,cu,rfl,rfl⟩;exact ms Aa<|wv Al<|wv Al<|ms Aa<|BD Aa<|wv Ci<|AJ<|CV Aa (JW (by decide))<|Bt<|Ar [(1,rP b1 0),(5,rP hr 0),(7,rP ht 0),(45,rB (Bm (50<(x.fL.length:Int))))] [L6 ht hj.1.fAccess.fTenant hj.1.fAccess.fFunction hj.1.fAccess.fOps hj.1.fAccess.fPolicy hj.1.fAccess.fNet hj.1.fAccess.fNow cq hj.1.fMade hj.1.fAsked cr ct cu,CA cq hj.1.fItems,CW cr hj.1.fEffects,Bl ct hj.1.fReads,Bl cu hj.1.fLog,MK hr hi.1.fMade hi.1.fA.fTenant hi.1.fA.fFunction hi.1.fA.fOps hi.1.fA.fPolicy hi.1.fA.fNet hi.1.fA.fNow hs hi.1.fCalls cn co cp,.map hs (BC A9 hi.1.fItems),CW cn hi.1.fEffects,Bl co hi.1.fReads,Bl cp hi.1.fLog,.blk b1 (C5 x) 31] (B7 Aa<|wv Ci<|ms Aa<|Dd Aa Aa (JW (by decide))<|wv An<|Dd Aa Aa (JW (by decide))<|wv (Ae 10)<|Dd Aa Aa (JW (by decide))<|wv AU<|Dd Aa Aa (JW (by decide))<|wv C9<|wv (Am (JW (by decide)))<|Az<|wt)<|B2 bs (λbt bu=>Ay<|ob bu λbv bw bx=>BV yk7 (Je F bv bw)<|By Aa<|Ao<|cs bx▸Ap (Ct yr3 AW) (sK 0) ⟨Aa,Aa⟩) λbt b0=>Bt<|AA Aa<|AJ<|Au<|Pq [0,4,4,7] Aa<|ob b0 λb2 b3 xs=>Bk (V:=(Ac×Ac×(List Ac)×(List Ad)×(List A1)×Int×(List AB)×Bool×Int×(List Ak)×(List Ac)×(List Ac)×Bool×Ac×Ac×(List Ac)×(List Ad)×(List A1)×Int×Int×(List Ak)×(List Ac)×(List Ac)×(List (Ac×(List Ab))))×(Value×Value×Value×Value×Value×Value×Value)) 0 (λσ=>Cg (λσ=>ON F x σ.1 σ.2.1 σ.2.2.1 σ.2.2.2.1 σ.2.2.2.2.1 σ.2.2.2.2.2.1 σ.2.2.2.2.2.2.1 σ.2.2.2.2.2.2.2.1 σ.2.2.2.2.2.2.2.2.1 σ.2.2.2.2.2.2.2.2.2.1 σ.2.2.2.2.2.2.2.2.2.2.1 σ.2.2.2.2.2.2.2.2.2.2.2.1 σ.2.2.2.2.2.2.2.2.2.2.2.2.1 σ.2.2.2.2.2.2.2.2.2.2.2.2.2.1 σ.2.2.2.2.2.2.2.2.2.2.2.2.2.2.1 σ.2.2.2.2.2.2.2.2.2.2.2.2.2.2.2.1 σ.2.2.2.2.2.2.2.2.2.2.2.2.2.2.2.2.1 σ.2.2.2.2.2.2.2.2.2.2.2.2.2.2.2.2.2.1 σ.2.2.2.2.2.2.2.2.2.2.2.2.2.2.2.2.2.2.1 σ.2.2.2.2.2.2.2.2.2.2.2.2.2.2.2.2.2.2.2.1 σ.2.2.2.2.2.2.2.2.2.2.2.2.2.2.2.2.2.2.2.2.1 σ.2.2.2.2.2.2.2.2.2.2.2.2.2.2.2.2.2.2.2.2.2.1 σ.2.2.2.2.2.2.2.2.2.2.2.2.2.2.2.2.2.2.2.2.2.2.1 σ.2.2.2.2.2.2.2.2.2.2.2.2.2.2.2.2.2.2.2.2.2.2.2.1 σ.2.2.2.2.2.2.2.2.2.2.2.2.2.2.2.2.2.2.2.2.2.2.2.2) σ.1 σ.2.1=some b2) (λσ=>[(1,rP b1 0),(5,rP hr 0),(7,rP ht 0),(9,AZ σ.2.1.1)]) (λσ=>(L6 ht σ.2.1.2.1 σ.2.1.2.2.1 σ.2.1.2.2.2.1 σ.2.1.2.2.2.2.1 σ.2.1.2.2.2.2.2.1 σ.2.1.2.2.2.2.2.2.1 σ.2.2.1 σ.2.1.2.2.2.2.2.2.2.2.1 σ.2.1.2.2.2.2.2.2.2.2.2.1 σ.2.2.2.1 σ.2.2.2.2.1 σ.2.2.2.2.2.1::MK hr σ.2.1.2.2.2.2.2.2.2.2.2.2.2.2.2.1 σ.2.1.2.2.2.2.2.2.2.2.2.2.2.2.2.2.1 σ.2.1.2.2.2.2.2.2.2.2.2.2.2.2.2.2.2.1 σ.2.1.2.2.2.2.2.2.2.2.2.2.2.2.2.2.2.2.1 σ.2.1.2.2.2.2.2.2.2.2.2.2.2.2.2.2.2.2.2.1 σ.2.1.2.2.2.2.2.2.2.2.2.2.2.2.2.2.2.2.2.2.1 σ.2.1.2.2.2.2.2.2.2.2.2.2.2.2.2.2.2.2.2.2.2.1 hs σ.2.1.2.2.2.2.2.2.2.2.2.2.2.2.2.2.2.2.2.2.2.2.1 σ.2.2.2.2.2.2.1 σ.2.2.2.2.2.2.2.1 σ.2.2.2.2.2.2.2.2::.map hs (BC A9 σ.2.1.2.2.2.2.2.2.2.2.2.2.2.2.2.2.2.2.2.2.2.2.2.2.2.2)::.blk b1 (C5 x) 31::CA σ.2.2.1 σ.2.1.2.2.2.2.2.2.2.1::CW σ.2.2.2.1 σ.2.1.2.2.2.2.2.2.2.2.2.2.1::Bl σ.2.2.2.2.1 σ.2.1.2.2.2.2.2.2.2.2.2.2.2.1::Bl σ.2.2.2.2.2.1 σ.2.1.2.2.2.2.2.2.2.2.2.2.2.2.1::CO σ.2.2.2.2.2.2.1 σ.2.1.2.2.2.2.2.2.2.2.2.2.2.2.2.2.2.2.2.2.2.2.2.1 σ.2.2.2.2.2.2.2.1 σ.2.1.2.2.2.2.2.2.2.2.2.2.2.2.2.2.2.2.2.2.2.2.2.2.1 σ.2.2.2.2.2.2.2.2 σ.2.1.2.2.2.2.2.2.2.2.2.2.2.2.2.2.2.2.2.2.2.2.2.2.2.1)) (λσ=>σ.1) (F,(0,hj.1.fAccess.fTenant,hj.1.fAccess.fFunction,hj.1.fAccess.fOps,hj.1.fAccess.fPolicy,hj.1.fAccess.fNet,hj.1.fAccess.fNow,hj.1.fItems,hj.1.fMade,hj.1.fAsked,hj.1.fEffects,hj.1.fReads,hj.1.fLog,hi.1.fMade,hi.1.fA.fTenant,hi.1.fA.fFunction,hi.1.fA.fOps,hi.1.fA.fPolicy,hi.1.fA.fNet,hi.1.fA.fNow,hi.1.fCalls,hi.1.fEffects,hi.1.fReads,hi.1.fLog,hi.1.fItems),(cq,cr,ct,cu,cn,co,cp)) b3 (A7 Aa) (sM 2047 Aa) (λσ=>OM F σ.1.1 σ.1.2.1 σ.1.2.2.1 σ.1.2.2.2.1 σ.1.2.2.2.2.1 σ.1.2.2.2.2.2.1 σ.1.2.2.2.2.2.2.1 σ.1.2.2.2.2.2.2.2.1 σ.1.2.2.2.2.2.2.2.2.1 σ.1.2.2.2.2.2.2.2.2.2.1 σ.1.2.2.2.2.2.2.2.2.2.2.1 σ.1.2.2.2.2.2.2.2.2.2.2.2.1 σ.1.2.2.2.2.2.2.2.2.2.2.2.2.1 σ.1.2.2.2.2.2.2.2.2.2.2.2.2.2.1 σ.1.2.2.2.2.2.2.2.2.2.2.2.2.2.2.1 σ.1.2.2.2.2.2.2.2.2.2.2.2.2.2.2.2.1 σ.1.2.2.2.2.2.2.2.2.2.2.2.2.2.2.2.2.1 σ.1.2.2.2.2.2.2.2.2.2.2.2.2.2.2.2.2.2.1 σ.1.2.2.2.2.2.2.2.2.2.2.2.2.2.2.2.2.2.2.1 σ.1.2.2.2.2.2.2.2.2.2.2.2.2.2.2.2.2.2.2.2.1 σ.1.2.2.2.2.2.2.2.2.2.2.2.2.2.2.2.2.2.2.2.2.1 σ.1.2.2.2.2.2.2.2.2.2.2.2.2.2.2.2.2.2.2.2.2.2.1 σ.1.2.2.2.2.2.2.2.2.2.2.2.2.2.2.2.2.2.2.2.2.2.2.1 σ.1.2.2.2.2.2.2.2.2.2.2.2.2.2.2.2.2.2.2.2.2.2.2.2=some r) (λσ=>[(5,rP hr 0),(7,rP ht 0)]) (λσ=>(L6 ht σ.1.1 σ.1.2.1 σ.1.2.2.1 σ.1.2.2.2.1 σ.1.2.2.2.2.1 σ.1.2.2.2.2.2.1 σ.2.1 σ.1.2.2.2.2.2.2.2.1 σ.1.2.2.2.2.2.2.2.2.1 σ.2.2.1 σ.2.2.2.1 σ.2.2.2.2.1::MK hr σ.1.2.2.2.2.2.2.2.2.2.2.2.2.1 σ.1.2.2.2.2.2.2.2.2.2.2.2.2.2.1 σ.1.2.2.2.2.2.2.2.2.2.2.2.2.2.2.1 σ.1.2.2.2.2.2.2.2.2.2.2.2.2.2.2.2.1 σ.1.2.2.2.2.2.2.2.2.2.2.2.2.2.2.2.2.1 σ.1.2.2.2.2.2.2.2.2.2.2.2.2.2.2.2.2.2.1 σ.1.2.2.2.2.2.2.2.2.2.2.2.2.2.2.2.2.2.2.1 hs σ.1.2.2.2.2.2.2.2.2.2.2.2.2.2.2.2.2.2.2.2.1 σ.2.2.2.2.2.1 σ.2.2.2.2.2.2.1 σ.2.2.2.2.2.2.2::.map hs (BC A9 σ.1.2.2.2.2.2.2.2.2.2.2.2.2.2.2.2.2.2.2.2.2.2.2.2)::CA σ.2.1 σ.1.2.2.2.2.2.2.1::CW σ.2.2.1 σ.1.2.2.2.2.2.2.2.2.2.1::Bl σ.2.2.2.1 σ.1.2.2.2.2.2.2.2.2.2.2.1::Bl σ.2.2.2.2.1 σ.1.2.2.2.2.2.2.2.2.2.2.2.1::CO σ.2.2.2.2.2.1 σ.1.2.2.2.2.2.2.2.2.2.2.2.2.2.2.2.2.2.2.2.2.1 σ.2.2.2.2.2.2.1 σ.1.2.2.2.2.2.2.2.2.2.2.2.2.2.2.2.2.2.2.2.2.2.1 σ.2.2.2.2.2.2.2 σ.1.2.2.2.2.2.2.2.2.2.2.2.2.2.2.2.2.2.2.2.2.2.2.1)) (by rintro⟨tb,⟨h6,cv,cw,cx,cy,cz,c0,c1,c3,c4,c6,c7,c8,c9,cA,cB,cC,cD,cE,cF,cG,cH,cI,cJ,cK⟩,⟨xt,xu,xv,xw,xx,xy,xz⟩⟩ b4;refine EG ?_;obtain⟨b5,rfl,b6,cL,cM⟩:=Cq b4;have cL:ON F x h6 cv cw cx cy cz c0 c1 c3 c4 c6 c7 c8 c9 cA cB cC cD cE cF cG cH cI cJ cK=some b6:=cL;exact AV<|AA Aa<|wv An<|wv (Ae 3)<|wv AU<|wv BI<|AJ<|B2 cL (λb9 bA=>by refine Bt<|Au<|AA Aa<|wv An<|wv (Ae 3)<|ms Aa<|ck bA λx0 bB=>wv (AX x0)<|wv C2<|ob bB λhe bC bD=>EX [1,1,6,6,6] yk8 (AlI F hr hs xx xy xz (Av.mk c9 (A0.mk cA cB cC cD cE cF) cK () cG cH cI cJ) (Af x.fL h6) he bC) ?_;rintro _ _ ⟨cN,cO,cP,rfl,rfl⟩;exact BY (cs:=D2) Pa Aa Aa λtc=>by refine Eu 0 C3 Aa Aa Aa (Bn.c Aa) Aa Aa ?_;refine BM Aa<|wv An<|wv (Ae 7)<|ms Aa<|wv (AX x0)<|wv C2<|ob bD λhf bE bF=>EX [6,7,7,7,7] Tryz.call9 (AgN F ht xt xu xv xw (Ai.mk (A0.mk cv cw cx cy cz c0) c1 () c3 c4 c6 c7 c8) (Af x.fL h6) hf bE) ?_;rintro _ _ ⟨cQ,cR,cS,cT,rfl,rfl⟩;exact BY (cs:=D2) Pa Aa Aa λtd=>by refine Eu 0 C3 Aa Aa Aa (Bn.c Aa) Aa Aa ?_;exact AJ<|ck bF λbG bH=>Ar [(1,rP b1 0),(5,rP hr 0),(7,rP ht 0),(9,AZ h6),(80,rB ((!Bm (he.1.fErr=hf.1.fErr))||(!(ov (HE F he.1.fValue hf.1.fValue)))))] [L6 ht hf.2.fAccess.fTenant hf.2.fAccess.fFunction hf.2.fAccess.fOps hf.2.fAccess.fPolicy hf.2.fAccess.fNet hf.2.fAccess.fNow cQ hf.2.fMade hf.2.fAsked cR cS cT,CA cQ hf.2.fItems,CW cR hf.2.fEffects,Bl cS hf.2.fReads,Bl cT hf.2.fLog,MK hr he.2.fMade he.2.fA.fTenant he.2.fA.fFunction he.2.fA.fOps he.2.fA.fPolicy he.2.fA.fNet he.2.fA.fNow hs he.2.fCalls cN cO cP,.map hs (BC A9 he.2.fItems),CW cN he.2.fEffects,Bl cO he.2.fReads,Bl cP he.2.fLog,.blk b1 (C5 x) 31] (A4<|wv An<|wv (Ae 6)<|wv An<|wv (Ae 0)<|wv Ci<|ms Aa<|AF (!Bm (he.1.fErr=hf.1.fErr)) (λhm=>CB hm Aa<|wv (Aj hm)<|Az<|BR hm) λhm=>Bq hm An<|Bq hm (Ae 6)<|Bq hm An<|Bq hm (Ae 0)<|wo hm<|BV AaW (M5 F he.1.fValue hf.1.fValue (ov (HE F he.1.fValue hf.1.fValue)) (Dr (CM bG hm)))<|Bq hm BQ<|Ep Aa hm Aa<|Az<|BR hm)<|B2 bH (λbI bJ=>B6 Aa<|B8<|Ao<|Bf<|have bK:=BE bJ cM xs;B8<|cs bK▸Ap (Ct yr3 AW) (sK 0) ⟨Aa,Aa⟩) λbI bL=>by refine B3<|CR<|B7 Aa<|ck bL λbM bN=>wv (Bh bM)<|Bg Aa<|JL [0,4,4,7] ?_;exact have bO:=Bd bN cM;Ax (As (b5,(h6+1,hf.2.fAccess.fTenant,hf.2.fAccess.fFunction,hf.2.fAccess.fOps,hf.2.fAccess.fPolicy,hf.2.fAccess.fNet,hf.2.fAccess.fNow,hf.2.fItems,hf.2.fMade,hf.2.fAsked,hf.2.fEffects,hf.2.fReads,hf.2.fLog,he.2.fMade,he.2.fA.fTenant,he.2.fA.fFunction,he.2.fA.fOps,he.2.fA.fPolicy,he.2.fA.fNet,he.2.fA.fNow,he.2.fCalls,he.2.fEffects,he.2.fReads,he.2.fLog,he.2.fItems),(cQ,cR,cS,cT,cN,cO,cP)) ⟨bO,Apu _⟩ (A7 Aa) (sC (sC (sC (sC (sC (sC (sC (sC (sC (sC (sC sN))))))))))))) λb9 bP=>Bs<|Ah<|have bQ:=BG bP cM xs;Ah (AN (As ((cv,cw,cx,cy,cz,c0,c1,c3,c4,c6,c7,c8,c9,cA,cB,cC,cD,cE,cF,cG,cH,cI,cJ,cK),(xt,xu,xv,xw,xx,xy,xz)) bQ (A7 Aa) (sC (sC (sC (sS (sC (sC (sC (sC (sC (sC (sC sN))))))))))))))<|by rintro⟨⟨ga,gb,gc,gd,gf,gg,gh,gi,gj,gl,gm,gp,gq,gr,gs,gu,gv,gw,gx,gy,gz,g0,g1,g2⟩,⟨cU,cV,cW,cX,cY,cZ,xa⟩⟩ g3;refine Gw ?_;exact have g3:OM F ga gb gc gd gf gg gh gi gj gl gm gp gq gr gs gu gv gw gx gy gz g0 g1 g2=some r:=g3;by unfold OM at g3;exact AR<|Cy<|EY (S:=Bool×Unit) (λσ=>Jc σ.1=some r) (λσ=>[(2,rB σ.1)]) (λσ=>[]) (by refine B7 Aa<|ob g3 λx1 bR bS=>EX [1,1,5,5,5] Tryz.call12 (Qn F hr hs cY cZ xa none (Av.mk gq (A0.mk gr gs gu gv gw gx) g2 () gy gz g0 g1) x1 bR) ?_;rintro _ _ ⟨rfl,rfl⟩;refine ms Aa<|ob bS λx2 bT bU=>EX [5,5,5,5,5] Tryz.call13 (QG F ht cU cV cW cX none (Ai.mk (A0.mk ga gb gc gd gf gg) gh () gi gj gl gm gp) x2 bT) ?_;rintro _ _ ⟨rfl,rfl⟩;exact ob bU λbV bW bX=>BV Tryz.call11 (QX F x1 x2 bV bW)<|ms Aa<|bz bX (λh0 bY=>by refine wo h0<|ms Aa<|wo h0<|ob bY λx3 bZ ra=>EX [5,5,5,5,5] Tryz.call15 (Rh hr hs cY cZ xa none (Av.mk gq (A0.mk gr gs gu gv gw gx) g2 () gy gz g0 g1) x3 bZ) ?_;rintro _ _ ⟨rfl,rfl⟩;refine wo h0<|ms Aa<|wo h0<|ob ra λx4 rb rc=>EX [5,5,5,5,5] Tryz.call16 (Uz ht cU cV cW cX none (Ai.mk (A0.mk ga gb gc gd gf gg) gh () gi gj gl gm gp) x4 rb) ?_;rintro _ _ ⟨rfl,rfl⟩;exact wo h0<|ob rc λrd re rg=>BV AfW (Od F x3 x4 rd re)<|Ej Aa h0 Aa<|ms Aa<|bz rg (λh1 rh=>by refine wo h1<|ms Aa<|wo h1<|ob rh λx5 ri rj=>EX [5,5,5,5,5] Tryz.call17 (AhS hr hs cY cZ xa none (Av.mk gq (A0.mk gr gs gu gv gw gx) g2 () gy gz g0 g1) x5 ri) ?_;rintro _ _ ⟨rfl,rfl⟩;refine wo h1<|ms Aa<|wo h1<|ob rj λx6 rk rl=>EX [5,5,5,5,5] Tryz.call18 (Zy ht cU cV cW cX none (Ai.mk (A0.mk ga gb gc gd gf gg) gh () gi gj gl gm gp) x6 rk) ?_;rintro _ _ ⟨rfl,rfl⟩;exact wo h1<|ob rl λrm rn ro=>BV AfW (Od F x5 x6 rm rn)<|Ej Aa h1 Aa<|ms Aa<|bz ro (λh7 rp=>wo h7<|ob rp λx7 rq rr=>BV yk7 (Je F x7 rq)<|Ej Aa h7 Aa<|Bg Aa<|Ax (As (x7,()) rr (A7 Aa) (sS (sS (sS (sS (sS (sS (sS (sS (sS (sS sN)))))))))))) λh7 rs=>wf h7<|wv (Am h7)<|Bg Aa<|Ax (As (false,()) rs (A7 Aa) (sS (sS (sS (sS (sS (sS (sS (sS (sS (sS sN)))))))))))) λh1 rt=>CB h1 Aa<|wv (Am h1)<|ms Aa<|vz Aa<|wv (Am Aa)<|Bg Aa<|Ax (As (false,()) rt (A7 Aa) (sS (sS (sS (sS (sS (sS (sS (sS (sS (sS sN)))))))))))) λh0 ru=>CB h0 Aa<|wv (Am h0)<|ms Aa<|Dx Aa<|wv (Am Aa)<|ms Aa<|vz Aa<|wv (Am Aa)<|Bg Aa<|Ax (As (false,()) ru (A7 Aa) (sS (sS (sS (sS (sS (sS (sS (sS (sS (sS sN))))))))))))<|by rintro⟨rx,⟨⟩⟩ g4;refine EG ?_;exact have g4:Jc rx=some r:=g4;by unfold Jc at g4;exact BO<|cs g4▸CY yr3 ⟨Aa,Aa⟩) λbp ry=>ob ry λrz r0 r1=>BV yk6 (O3 F none x.fA x.fItems rz r0)<|ms Aa<|wv Al<|wv Al<|ms Aa<|BD Aa<|wv Ci<|AJ<|ck r1 λr2 r3=>CG Aa r2<|Bw Aa<|cs r3▸Ap (Ct yr3 AW) (sK 0) ⟨Aa,Aa⟩) λbl r5=>ob r5 λxb r6 r7=>BV yk5 (Yr F none x.fA x.fItems xb r6)<|ms Aa<|wv Al<|wv Al<|ms Aa<|Dc<|wv An<|wv (B0 0)<|wv An<|wv (Ae 0)<|ms Aa<|bz r7 (λr8 r9=>by refine ob r9 λrA rC rD=>EX [] yk6 (O2 F none x.fA x.fItems rA rC) ?_;rintro _ _ ⟨te,tf,tg,th,ti,rfl,rfl⟩;exact ms Aa<|wv Al<|wv Al<|ms Aa<|BD Aa<|wv Ci<|AJ<|ck rD λrE rF=>CG Aa rE<|Bw Aa<|cs rF▸Ap (Ct yr3 AW) (sK 0) ⟨Aa,Aa⟩) λr8 rG=>ob rG λrH rI rJ=>BV yk6 (O3 F none x.fA x.fItems rH rI)<|ms Aa<|wv Al<|wv Al<|ms Aa<|BD Aa<|wv Ci<|AJ<|B2 rJ (λrK rL=>by exact Bw Aa<|cs rL▸Ap (Ct yr3 AW) (sS sN) ⟨Aa,Aa⟩) λrK rM=>by exact Bt<|Ar [(1,rP b1 0),(5,rv (.pointer none)),(7,rv (.pointer none)),(45,rB ((!Bm (xb.2=0))||(Bm (50<(x.fL.length:Int)))))] [.blk b1 (C5 x) 31] (B7 Aa<|wv Ci<|ms Aa<|AF (!Bm (xb.2=0)) (λhw=>CB hw Aa<|wv (Aj hw)<|Az<|BR hw) λhw=>Bq hw An<|Bq hw (Ae 0)<|Bq hw AU<|Bq hw C9<|Ep Aa hw Aa<|Az<|BR hw)<|ck rM λrN rO=>CG Aa rN<|Ay<|ob rO λrQ rR rS=>BV yk7 (Je F rQ rR)<|By Aa<|Ao<|cs rS▸Ap (Ct yr3 AW) (sS sN) ⟨Aa,Aa⟩
end Go.Proofs.YtphnhpcjnmmhiaaGreatDoor.Q
namespace Go.Proofs.YtphnhpcjnmmhiaaGreatDoor.lawHostDoes
open Go
set_option linter.unusedVariables false
def Ajq (y:Ad):Bool:=(λ_=>true) y.fAllow&&(λys:(List Ac)=>ys.all Jb&&decide (ys.length≤1048576)) y.fActions&&(λys:(List Ac)=>ys.all Jb&&decide (ys.length≤1048576)) y.fResources
def Ajr (y:A1):Bool:=(λ_=>true) y.fAllow&&(BT .i64) y.fAddr&&(BT .i64) y.fBits&&(BT .i64) y.fLow&&(BT .i64) y.fHigh
def Alr (y:A0):Bool:=Jb y.fTenant&&Jb y.fFunction&&(λys:(List Ac)=>ys.all Jb&&decide (ys.length≤1048576)) y.fOps&&(λys:(List Ad)=>ys.all Ajq&&decide (ys.length≤1048576)) y.fPolicy&&(λys:(List A1)=>ys.all Ajr&&decide (ys.length≤1048576)) y.fNet&&(BT .i64) y.fNow
def AeO (y:Ab):Bool:=(BT .i64) y.fKind&&(BT .i64) y.fInt&&Jb y.fStr&&(BT .i64) y.fN
def Ajp (y:AB):Bool:=Jb y.fKey&&(λys:(List Ab)=>ys.all AeO&&decide (ys.length≤1048576)) y.fValue&&(BT .i64) y.fVersion
def Ajs (y:CX):Bool:=Jb y.fName&&Jb y.fText&&Jb y.fFunction
def Ajt (y:A6):Bool:=Jb y.fOp&&(λys:(List (List Ab))=>ys.all (λys:(List Ab)=>ys.all AeO&&decide (ys.length≤1048576))&&decide (ys.length≤1048576)) y.fArgs
def Alq (y:Co):Bool:=Alr y.fA&&(λys:(List AB)=>ys.all Ajp&&decide (ys.length≤1048576)) y.fItems&&(λys:(List CX)=>ys.all Ajs&&decide (ys.length≤1048576)) y.fSecrets&&(λ_=>true) y.fNone&&(λys:(List A6)=>ys.all Ajt&&decide (ys.length≤1048576)) y.fL
def Law:Prop:=∀(y0:Co) (o0:Alq y0=true),∃F,UX F y0=some true
end Go.Proofs.YtphnhpcjnmmhiaaGreatDoor.lawHostDoes
namespace Go.Proofs.YtphnhpcjnmmhiaaGreatDoor
open Go
set_option linter.unusedVariables false
set_option linter.unusedSimpArgs false
def okc (c:UInt8):Bool:=decide (32≤c.toNat)&&decide (c.toNat≤126)
variable{s:Ac}{x:Int}
theorem TO {c:UInt8}(h:s[x.toNat]? =some c):C0 s x=(c.toNat:Int):=by simp[C0,h]
variable{α:Type}
theorem VE {p:α→Bool}{s:List α}{k:Nat}{c:α}(h:s[k]? =some c):(s.take (k+1)).all p=((s.take k).all p&&p c):=by
 rw[List.take_add_one,h];simp
theorem Y3 {p:α→Bool}{s:List α}{k:Nat}{c:α}(h:s[k]? =some c)(hp:p c=false):s.all p=false:=by
 rw[List.all_eq_false];exact⟨c,Ap4 h,by simp[hp]⟩
variable{F:Nat}
theorem YU (hF:s.length<F)(hs:s.length≤9223372036854775807):SN F s=some (s.all okc):=by
 obtain⟨o,h1,h2⟩:=H3 (body:=λσ=>N3 s σ) (λx=>0≤x∧x≤(s.length:Int)∧(s.take x.toNat).all okc=true) (λx=>s.length-x.toNat)
  (λo=>Cm (λ_=>LF) o=some (s.all okc)) (λx ⟨h0,hl,ha⟩=>by
   unfold N3
   by_cases hx:x<(s.length:Int)
   ·obtain⟨c,hc⟩:∃c,s[x.toNat]? =some c:=⟨s[x.toNat]'(by omega),Apw (by omega)⟩
    rw[AO (by simpa using hx),AI h0 hx,TO hc]
    cases ho:okc c with
    | false=>
     refine .inr ⟨.ret false,?_,?_⟩
     ·rw[AO];simp only[okc,ApN,Apx] at ho;simp only[ApD,Apt];omega
     ·simp[Cm,Y3 hc ho]
    | true=>
     refine .inl ⟨x+1,?_,⟨by omega,by omega,?_⟩,by omega⟩
     ·rw[AC,A8 (by omega) (by omega)];simp only[okc,Aps,Apt] at ho;simp only[ApB,Apx];omega
     ·rw[show(x+1).toNat=x.toNat+1 from by omega,VE hc,ha,ho];rfl
   ·refine .inr ⟨.go (),by rw[AC (by simpa using hx)],?_⟩;rw[show x.toNat=s.length from by omega,Aqi] at ha;simp[Cm,LF,ha]) F 0 ⟨by omega,by omega,by simp⟩ (by simpa using hF)
 unfold SN;rw[Ck h1,h2]
theorem XG (F:Nat)(s:Ac):PU F s=SN F s:=rfl
theorem Ae4 (hF:s.length<F)(hs:s.length≤9223372036854775807):PU F s=some (s.all okc):=by rw[XG];exact YU hF hs
def pl (c:Ab):Bool:=
 bif decide (c.fKind=1) then(decide (c.fInt=0)&&(decide (c.fStr=[])&&decide (c.fN=0))) else
 bif decide (c.fKind=2) then((decide (c.fInt=0)||decide (c.fInt=1))&&(decide (c.fStr=[])&&decide (c.fN=0))) else
 bif decide (c.fKind=3) then(decide (c.fStr=[])&&decide (c.fN=0)) else
 bif decide (c.fKind=4) then(decide (c.fInt=0)&&(decide (c.fN=0)&&c.fStr.all okc)) else
 bif decide (c.fKind=5) then(decide (c.fInt=0)&&(decide (c.fStr=[])&&decide (0≤c.fN))) else
 bif decide (c.fKind=6) then(decide (c.fInt=0)&&(decide (c.fStr=[])&&decide (0≤c.fN))) else false
theorem HM {p:Bool}{x y:Option α}{a b:α}(h:x=some a)(h':y=some b):Bj p x y=some (bif p then a else b):=by cases p<;>simp[Bj,h,h']
variable{c:Ab}
theorem Aem (hF:c.fStr.length<F)(hs:c.fStr.length≤9223372036854775807):Ue F c=some (pl c):=by
 unfold Ue pl;rw[YU hF hs];refine HM rfl (HM ?_ (HM rfl (HM ?_ (HM rfl (HM rfl rfl)))))
 ·cases h:decide (c.fInt=0)<;>simp
 ·simp[imp,AM,ov]
def Tj:List AL→List AL
 | []=>[]
 | e::S=>bif decide (1<e.fLeft) then⟨e.fPairs,e.fLeft-1,e.fPairs,e.fLast,e.fStarted⟩::S else Tj S
theorem TP [Inhabited α](xs:List α)(e:α):Af (xs++[e]) (xs.length:Int)=e:=by simp[Af]
theorem QC (xs:List α)(e e':α):List.set (xs++[e]) (Int.toNat (xs.length:Int)) e'=xs++[e']:=by simp
theorem QW (xs:List α)(e:α):((xs++[e]).length:Int)-1=(xs.length:Int):=by simp
theorem Aer (xs:List α)(e:α):List.take (Int.toNat (xs.length:Int)) (xs++[e])=xs:=by simp
theorem SO:∀(S:List AL) (F:Nat),S.length<F→(∀e∈S,1≤e.fLeft∧e.fLeft≤9223372036854775807)→S.length≤4611686018427387904→
  ∃o,Cg (λσ=>HU σ) F S.reverse=some o∧Cm (λν=>HT ν) o=some (Tj S).reverse
 | [],F+1,_,_,_=>⟨.go [],by simp[Cg,HU,Bj],by simp[Cm,HT,Tj]⟩
 | e::S,F+1,hF,hb,hl=>by
  obtain⟨h1,h2⟩:=hb e (by simp);simp only[Ap2] at hF hl;have hx:S.reverse.length=S.length:=by simp
  generalize hxs:S.reverse=xs at hx;have hr:(e::S).reverse=xs++[e]:=by simp[hxs]
  rw[hr];have hb1:HU (xs++[e])=bif decide (1<e.fLeft) then some (.out (.ret (xs++[⟨e.fPairs,e.fLeft-1,e.fPairs,e.fLast,e.fStarted⟩]))) else some (.next xs):=by
   unfold HU;rw[AO (by simp)];simp only[QW,TP,QC,Nu];rw[A8 (by omega) (by omega),AI (by omega) (by simp;omega),A8 (by omega) (by omega)]
   cases hd:decide (1<e.fLeft) with
   | true=>
    rw[AO (by simp at hd ⊢;omega)];rfl
   | false=>
    rw[AC (by simp at hd ⊢;omega),A8 (by omega) (by omega),CU (by omega) (by simp;omega),Aer];rfl
  rw[Cg,hb1]
  cases hd:decide (1<e.fLeft) with
  | true=>exact⟨_,rfl,by simp[Cm,HT,Tj,hd,hxs]⟩
  | false=>
   obtain⟨o,ho1,ho2⟩:=SO S F (by omega) (λe he=>hb e (by simp[he])) (by omega);rw[hxs] at ho1;exact⟨o,ho1,by rw[ho2];simp[Tj,hd]⟩
variable{S:List AL}
theorem Uh (hF:S.length<F)(hb:∀e∈S,1≤e.fLeft∧e.fLeft≤9223372036854775807)(hl:S.length≤4611686018427387904):T1 F S.reverse=some (Tj S).reverse:=by
 obtain⟨o,h1,h2⟩:=SO S F hF hb hl;unfold T1;rw[Ck h1,h2]
def RQ (s:Ac):Int:=s.length+2+s.count 34+s.count 92
theorem Uc (hs:s.length≤1152921504606846976):Q4 s=some (RQ s):=by
 have h1:s.count 34≤s.length:=List.count_le_length;have h2:s.count 92≤s.length:=List.count_le_length;unfold Q4 Lib.countByte;rw[A8 (by omega) (by omega),A8 (by omega) (by omega),A8 (by omega) (by omega)];rfl
def szc (c:Ab):Int:=
 bif decide (c.fKind=1) then 4 else bif decide (c.fKind=2) then IntKind.wrap .i64 (5-c.fInt) else bif decide (c.fKind=3) then((Lib.itoa c.fInt).length:Int) else
 bif decide (c.fKind=4) then RQ c.fStr else IntKind.wrap .i64 (2+max 0 (IntKind.wrap .i64 (c.fN-1)))
theorem YV (hs:c.fStr.length≤1152921504606846976)(hi:BT .i64 c.fInt=true):YW c=some (szc c):=by
 unfold YW szc;rw[Uc hs];refine HM rfl (HM rfl (HM ?_ (HM rfl rfl)));rw[BN hi]
def Nn (d:Nat)(sh:Bc)(c:Ab):Bc:=
 ⟨max sh.fDepth ((d:Int)+1),IntKind.wrap .i64 (sh.fBytes+szc c),sh.fOutside||(decide (c.fKind=3)&&!(decide ((-1000000000000)≤c.fInt)&&decide (c.fInt≤1000000000000))),sh.fLong||decide (200<(c.fStr.length:Int))⟩
def shk (sh:Bc)(c:Ab):Bc:=⟨sh.fDepth,IntKind.wrap .i64 (sh.fBytes+(RQ c.fStr+1)),sh.fOutside,sh.fLong||decide (200<(c.fStr.length:Int))⟩
def RZ:List AL→Bool
 | []=>false
 | e::_=>e.fKey
abbrev Y9:=List AL×Int×Bc
abbrev LkO:=Out (Int×Bc×Bool) Bc
def lkc (n:Int)(S:List AL)(i:Int)(sh:Bc)(c:Ab):Stp Y9 LkO:=
 bif !pl c then .out (.ret (0,sh,false)) else
 match S with
 | e::S'=>
  bif e.fKey then
   bif !decide (c.fKind=4)||(e.fStarted&&(Cr c.fStr e.fLast||decide (c.fStr=e.fLast))) then .out (.ret (0,sh,false))
   else .next ((⟨e.fPairs,e.fLeft,false,c.fStr,true⟩::S').reverse,i+1,shk sh c)
  else bif decide (0<c.fN) then
   bif decide (n<c.fN) then .out (.ret (0,Nn S.length sh c,false))
   else .next ((⟨decide (c.fKind=6),c.fN,decide (c.fKind=6),[],false⟩::S).reverse,i+1,Nn S.length sh c)
  else bif decide (Tj S=[]) then .out (.ret (i+1,Nn S.length sh c,true)) else .next ((Tj S).reverse,i+1,Nn S.length sh c)
 | []=>
  bif decide (0<c.fN) then
   bif decide (n<c.fN) then .out (.ret (0,Nn 0 sh c,false))
   else .next ([⟨decide (c.fKind=6),c.fN,decide (c.fKind=6),[],false⟩],i+1,Nn 0 sh c)
  else .out (.ret (i+1,Nn 0 sh c,true))
theorem Vx:decide (((Tj S).reverse.length:Int)=0)=decide (Tj S=[]):=by
 rw[ApM];simp
variable{M:Nat}
theorem AmC {xs:List α}{e x:α}(h:xs.length+1≤M)(hM2:(M+2)*48≤140737488355328):Dl 48 ((xs++[e]).length+([x]:List α).length)=true:=by
 refine Apr (Nat.le_trans (Nat.mul_le_mul_right 48 ?_) hM2);rw[Apz,ApC,ApC];omega
set_option maxHeartbeats 600000 in
theorem YZ {F:Nat}{v:List Ab}{S:List AL}{i:Int}{sh:Bc}{c:Ab}(h0:0≤i)(hc:v[i.toNat]? =some c){M:Nat}(hM:M≤1152921504606846976)(hM2:(M+2)*48≤140737488355328)(hv:v.length≤M)(hS:S.length≤M)(hF:M<F)
  (hs:c.fStr.length≤M) (hi:BT .i64 c.fInt=true) (hb:∀e∈S,1≤e.fLeft∧e.fLeft≤9223372036854775807):HC F v S.reverse i sh=some (lkc v.length S i sh c):=by
 have hil:i.toNat<v.length:=(List.getElem?_eq_some_iff.1 hc).1;have hat:Af v i=c:=by simp[Af,hc]
 unfold HC lkc;rw[AO (by simp;omega),AI h0 (by omega),hat,Aem (by omega) (by omega),Ck rfl]
 cases hp:pl c with
 | false=>rw[AO (by simp)];rfl
 | true=>
  rw[AC (by simp)]
  cases S with
  | nil=>
   rw[BN (by simp[imp]),BN (by simp[imp]),AC (by simp),A8 (by simp) (by simp),YV (by omega) hi,Ck rfl,BN (by simp[imp,DJ])];simp only[DJ,ov,ApE,Ap0,Apv]
   cases hn:decide (0<c.fN) with
   | true=>
    rw[AO rfl]
    cases hm:decide ((v.length:Int)<c.fN) with
    | true=>rw[AO rfl];simp[Nn]
    | false=>rw[AC rfl,BN (by simp[Dl])];unfold Iz;rw[A8 (by omega) (by omega)];simp[Nn]
   | false=>
    rw[AC rfl,Ck (Uh (S:=[]) (by simp;omega) (by simp) (by simp)),AO (by simp[Tj]),A8 (by omega) (by omega)];simp[Nn]
  | cons e S'=>
   have hx:S'.reverse.length=S'.length:=by simp
   generalize hxs:S'.reverse=xs at hx;have hr:(e::S').reverse=xs++[e]:=by simp[hxs]
   simp only[Ap2] at hS;have hlen:((xs++[e]).length:Int)=(xs.length:Int)+1:=by simp
   rw[hr,BN (by simp only[imp,QW];rw[I6 (by omega) (by omega)];simp),BN (by simp only[imp,QW];rw[Me (by omega) (by omega)];simp)];rw[QW,TP]
   cases hk:e.fKey with
   | true=>
    rw[AO (by simp),A8 (by omega) (by omega),AI (by omega) (by omega)];simp only[hk,Ap0,Apv,Ap1]
    cases ht : !decide (c.fKind=4)||(e.fStarted&&(Cr c.fStr e.fLast||decide (c.fStr=e.fLast))) with
    | true=>rw[AO rfl];rfl
    | false=>
     rw[AC rfl,QC,Nu,TP,QC,Nu,TP,QC,Nu,Uc (by omega),Ck rfl,A8 (by unfold RQ;omega) (by unfold RQ;have:=@List.count_le_length UInt8 _ 34 c.fStr;have:=@List.count_le_length UInt8 _ 92 c.fStr;omega)];unfold Iz;rw[A8 (by omega) (by omega)];simp[shk,hxs]
   | false=>
    rw[AC (by simp),hlen,A8 (by omega) (by omega),YV (by omega) hi,Ck rfl,BN (by simp[imp,DJ])];simp only[hk,DJ,ov,ApE,Ap0,Apv,Ap1]
    cases hn:decide (0<c.fN) with
    | true=>
     rw[AO rfl]
     cases hm:decide ((v.length:Int)<c.fN) with
     | true=>rw[AO rfl];simp[Nn,hx]
     | false=>rw[AC rfl,BN (AmC (by omega) hM2)];unfold Iz;rw[A8 (by omega) (by omega)];simp[Nn,hx,hxs]
    | false=>
     have hcl:=Uh (S:=e::S') (F:=F) (by simp;omega) hb (by simp;omega);rw[hr] at hcl;rw[AC rfl,hcl,Ck rfl,Vx]
     cases hq:decide (Tj (e::S')=[]) with
     | true=>rw[AO rfl,A8 (by omega) (by omega)];simp[Nn,hx]
     | false=>rw[AC rfl];unfold Iz;rw[A8 (by omega) (by omega)];simp[Nn,hx]
section
variable {S O : Type} {body : S → Option (Stp S O)} {s t u : S} {o : O}
def HP (body:S→Option (Stp S O))(s t:S):Prop:=∃k,∀n,Cg body (n+k) s=Cg body n t
def Fin (body:S→Option (Stp S O))(s:S)(o:O):Prop:=∃k,∀n,Cg body (n+k) s=some o
theorem HP.refl (s:S):HP body s s:=⟨0,λ_=>rfl⟩
theorem HP.trans (h:HP body s t)(h':HP body t u):HP body s u:=by
 obtain⟨k,hk⟩:=h;obtain⟨j,hj⟩:=h';exact⟨j+k,λn=>by rw[← Nat.add_assoc,hk,hj]⟩
theorem HP.step (h:body s=some (.next t)):HP body s t:=⟨1,λn=>by rw[Cg,h]⟩
theorem Fin.step (h:body s=some (.out o)):Fin body s o:=⟨1,λn=>by rw[Cg,h]⟩
theorem HP.fin (h:HP body s t)(h':Fin body t o):Fin body s o:=by
 obtain⟨k,hk⟩:=h;obtain⟨j,hj⟩:=h';exact⟨j+k,λn=>by rw[← Nat.add_assoc,hk,hj]⟩
end
inductive Fo where
 | nil
 | cell (k:Option Ac) (c:Ab) (r:Fo)
 | node (k:Option Ac) (c:Ab) (kids r:Fo)
def C1:Option Ac→List Ab
 | none=>[]
 | some s=>[⟨4,0,s,0⟩]
def Fo.flat:Fo→List Ab
 | .nil=>[]
 | .cell k c r=>C1 k++c::r.flat
 | .node k c kids r=>C1 k++c::(kids.flat++r.flat)
def Fo.cnt:Fo→Nat
 | .nil=>0
 | .cell _ _ r=>r.cnt+1
 | .node _ _ _ r=>r.cnt+1
def DF (m:Bool)(last:Option Ac):Option Ac→Bool
 | none=>!m
 | some s=>m&&s.all okc&&(match last with
  | none=>true
  | some p=>!(Cr s p||decide (s=p)))
def Fo.wf:Bool→Option Ac→Fo→Bool
 | _,_,.nil=>true
 | m,last,.cell k c r=>DF m last k&&pl c&&!decide (0<c.fN)&&r.wf m k
 | m,last,.node k c kids r=>DF m last k&&pl c&&decide (0<c.fN)&&decide (c.fN=kids.cnt)&&kids.wf (decide (c.fKind=6)) none&&r.wf m k
def SP (k:Option Ac)(sh:Bc):Bc:=match k with
 | none=>sh
 | some s=>shk sh ⟨4,0,s,0⟩
def Fo.sh (d:Nat):Bc→Fo→Bc
 | s,.nil=>s
 | s,.cell k c r=>r.sh d (Nn d (SP k s) c)
 | s,.node k c kids r=>r.sh d (kids.sh (d+1) (Nn d (SP k s) c))
def L9 (body:Y9→Option (Stp Y9 LkO))(s:Y9)(S:List AL)(i:Int)(sh:Bc):Prop:=
 if Tj S=[] then Fin body s (.ret (i,sh,true)) else HP body s ((Tj S).reverse,i,sh)
variable{body:Y9→Option (Stp Y9 LkO)}{i:Int}
theorem L9.of {s t:Y9}{sh:Bc}(h:HP body s t)(h':L9 body t S i sh):L9 body s S i sh:=by
 unfold L9 at *
 split
 ·rename_i e;rw[ApW e] at h';exact h.fin h'
 ·rename_i e;rw[ApP e] at h';exact h.trans h'
theorem L9.pop {s:Y9}{e:AL}{sh:Bc}(h:L9 body s (e::S) i sh)(h1:e.fLeft=1):L9 body s S i sh:=by
 have:Tj (e::S)=Tj S:=by simp[Tj,h1]
 unfold L9 at *;rw[this] at h;exact h
theorem L9.more {s:Y9}{e:AL}{sh:Bc}(h:L9 body s (e::S) i sh)(h1:1<e.fLeft):HP body s ((⟨e.fPairs,e.fLeft-1,e.fPairs,e.fLast,e.fStarted⟩::S).reverse,i,sh):=by
 have:Tj (e::S)=⟨e.fPairs,e.fLeft-1,e.fPairs,e.fLast,e.fStarted⟩::S:=by simp[Tj,h1]
 unfold L9 at *;rw[this,ApP (by simp)] at h;exact h
structure LkA (F M:Nat) (v:List Ab):Prop where
 hM:M≤1152921504606846976
 hM2:(M+2)*48≤140737488355328
 hv:v.length≤M
 hF:M<F
 hc:∀c∈v,c.fStr.length≤M∧BT .i64 c.fInt=true∧c.fN≤9223372036854775807
abbrev lkB (F:Nat)(v:List Ab):Y9→Option (Stp Y9 LkO):=λσ=>HC F v σ.1 σ.2.1 σ.2.2
def Hm (S:List AL):Prop:=∀e∈S,1≤e.fLeft∧e.fLeft≤9223372036854775807
variable{k last:Option Ac}
section
variable {F M : Nat} {v : List Ab} {S : List AL} {i : Int} {sh : Bc} {c : Ab} {r : List Ab} {e : AL}
theorem D8 (h0:0≤i)(h:v.drop i.toNat=c::r):v[i.toNat]? =some c∧v.drop (i+1).toNat=r∧i<v.length:=by
 have h1:(v.drop i.toNat)[0]? =some c:=by rw[h];rfl
 have h2:v[i.toNat]? =some c:=by simpa using h1
 have h3:=(List.getElem?_eq_some_iff.1 h2).1;refine⟨h2,?_,by omega⟩;rw[show(i+1).toNat=i.toNat+1 from by omega,← List.drop_drop,h];rfl
theorem round (hA:LkA F M v)(h0:0≤i)(h:v.drop i.toNat=c::r)(hS:(S.length:Int)≤i)(hb:Hm S):lkB F v (S.reverse,i,sh)=some (lkc v.length S i sh c):=by
 obtain⟨h1,_,h3⟩:=D8 h0 h;obtain⟨a,b,_⟩:=hA.hc c (Ap4 h1);have:=hA.hv;exact YZ h0 h1 hA.hM hA.hM2 hA.hv (by omega) hA.hF a b hb
def JX (e:AL):Option Ac→AL
 | none=>e
 | some s=>⟨e.fPairs,e.fLeft,false,s,true⟩
def NW (e:AL):Option Ac→Prop
 | none=>e.fStarted=false
 | some p=>e.fStarted=true∧e.fLast=p
theorem UY (hA:LkA F M v)(h0:0≤i)(h:v.drop i.toNat=C1 k++r)(hS:(S.length:Int)+1≤i)(hb:Hm (e::S))(hk:DF e.fKey last k=true)(hl:NW e last) :
  HP (lkB F v) ((e::S).reverse,i,sh) ((JX e k::S).reverse,i+(C1 k).length,SP k sh):=by
 cases k with
 | none=>simpa[JX,C1,SP] using HP.refl _
 | some s=>
  simp only[DF,Aps] at hk;obtain⟨⟨hm,hok⟩,hcmp⟩:=hk;refine HP.step ?_;rw[round hA h0 (by simpa[C1] using h) (by simpa using hS) hb];have hp:pl ⟨4,0,s,0⟩=true:=by simp[pl,hok]
  have ht:(e.fStarted&&(Cr s e.fLast||decide (s=e.fLast)))=false:=by
   cases last with
   | none=>simp only[NW] at hl;rw[hl];rfl
   | some p=>obtain⟨h1,h2⟩:=hl;rw[h1,h2];simpa using hcmp
  simp only[lkc,hp,hm,ht,Ap0,Apv,Ap1,decide_true,Aqc,Bool.or_self];rfl
theorem RY (hk:DF e.fKey last k=true):(JX e k).fKey=false:=by
 cases k with
 | none=>simpa[JX,DF] using hk
 | some s=>rfl
theorem Qf (k:Option Ac):(JX e k).fLeft=e.fLeft∧(JX e k).fPairs=e.fPairs:=by cases k<;>exact⟨rfl,rfl⟩
theorem RW (hA:LkA F M v)(h0:0≤i)(h:v.drop i.toNat=c::r)(hS:(S.length:Int)≤i)(hb:Hm S)(hk:RZ S=false)(hp:pl c=true)(hn:decide (0<c.fN)=false) :
  L9 (lkB F v) (S.reverse,i,sh) S (i+1) (Nn S.length sh c):=by
 have hr:=round (sh:=sh) hA h0 h hS hb;unfold L9
 cases S with
 | nil=>
  rw[ApW (by simp[Tj])];refine Fin.step ?_;rw[hr];simp[lkc,hp,hn]
 | cons e S=>
  simp only[RZ] at hk
  split
  ·rename_i hc
   refine Fin.step ?_;rw[hr];simp[lkc,hp,hn,hk,hc]
  ·rename_i hc
   refine HP.step ?_;rw[hr];simp[lkc,hp,hn,hk,hc]
theorem OF (hA:LkA F M v)(h0:0≤i)(h:v.drop i.toNat=c::r)(hS:(S.length:Int)≤i)(hb:Hm S)(hk:RZ S=false)(hp:pl c=true)(hn:decide (0<c.fN)=true)(hv:c.fN≤v.length) :
  HP (lkB F v) (S.reverse,i,sh) ((⟨decide (c.fKind=6),c.fN,decide (c.fKind=6),[],false⟩::S).reverse,i+1,Nn S.length sh c):=by
 have hr:=round (sh:=sh) hA h0 h hS hb;have hv':decide ((v.length:Int)<c.fN)=false:=by simpa using hv
 refine HP.step ?_;rw[hr]
 cases S with
 | nil=>simp only[lkc,hp,hn,hv',Ap0,Apv,Ap1];rfl
 | cons e S=>
  simp only[RZ] at hk;simp only[lkc,hp,hn,hv',hk,Ap0,Apv,Ap1]
theorem D6:∀f:Fo,f.cnt≤f.flat.length
 | .nil=>Ap8 _
 | .cell k c r=>by have:=D6 r;simp[Fo.cnt,Fo.flat];omega
 | .node k c kids r=>by have:=D6 r;simp[Fo.cnt,Fo.flat];omega
theorem DY {v xs r:List α}{i:Int}(h0:0≤i)(h:v.drop i.toNat=xs++r):v.drop (i+xs.length).toNat=r:=by
 rw[show(i+(xs.length:Int)).toNat=i.toNat+xs.length from by omega,← List.drop_drop,h,List.drop_left]
theorem Zr (hA:LkA F M v){e':AL}{s:Y9}{r':Fo}
  (ih:∀(e:AL) (S:List AL) (i:Int) (sh:Bc) (last:Option Ac) (r:List Ab),1≤r'.cnt→r'.wf e.fPairs last=true→e.fKey=e.fPairs→e.fLeft=r'.cnt→NW e last→(e.fPairs=false→last=none)→v.drop i.toNat=r'.flat++r→0≤i→(S.length:Int)+1≤i→Hm S→
   L9 (lkB F v) ((e::S).reverse,i,sh) S (i+r'.flat.length) (r'.sh (S.length+1) sh))
  (hd:L9 (lkB F v) s (e'::S) i sh) (hl:e'.fLeft=r'.cnt+1) (hw:r'.wf e'.fPairs k=true) (hk:NW e' k) (hm:e'.fPairs=false→k=none) (hv:v.drop i.toNat=r'.flat++r) (h0:0≤i) (hS:(S.length:Int)+1≤i) (hb:Hm S) :
  L9 (lkB F v) s S (i+r'.flat.length) (r'.sh (S.length+1) sh):=by
 by_cases h1:r'.cnt=0
 ·cases r' with
  | nil=>simpa[Fo.flat,Fo.sh] using hd.pop (by rw[hl];rfl)
  | cell _ _ _=>simp[Fo.cnt] at h1
  | node _ _ _ _=>simp[Fo.cnt] at h1
 ·have:=hd.more (by omega);refine L9.of this (ih _ S i sh k r (by omega) hw rfl (by simp only;omega) ?_ hm hv h0 hS hb)
  cases k with
  | none=>exact hk
  | some p=>exact hk
theorem Qg (hl:NW e last)(hm:e.fPairs=false→last=none)(hk:DF e.fPairs last k=true):NW (JX e k) k∧((JX e k).fPairs=false→k=none):=by
 cases k with
 | none=>
  have:e.fPairs=false:=by simpa[DF] using hk
  rw[hm this] at hl;exact⟨hl,λ_=>rfl⟩
 | some s=>
  refine⟨⟨rfl,rfl⟩,λh=>?_⟩;have h:e.fPairs=false:=h;simp[DF,h] at hk
theorem Ti (hA:LkA F M v):∀(f:Fo) (e:AL) (S:List AL) (i:Int) (sh:Bc) (last:Option Ac) (r:List Ab),1≤f.cnt→f.wf e.fPairs last=true→e.fKey=e.fPairs→e.fLeft=f.cnt→NW e last→(e.fPairs=false→last=none)→v.drop i.toNat=f.flat++r→0≤i→(S.length:Int)+1≤i→Hm S→
   L9 (lkB F v) ((e::S).reverse,i,sh) S (i+f.flat.length) (f.sh (S.length+1) sh):=by
 have hmax:∀(i:Int) (xs:List Ab),0≤i→v.drop i.toNat=xs→xs.length≤v.length:=λi xs _ h=>by rw[← h,ApU];omega
 intro f
 induction f with
 | nil=>intro e S i sh last r h1;simp[Fo.cnt] at h1
 | cell k c r' ih=>
  intro e S i sh last r h1 hw hk hl hlo hm hv h0 hS hb;simp only[Fo.wf,Aps,Ap6] at hw;obtain⟨⟨⟨w1,w2⟩,w3⟩,w4⟩:=hw;simp only[Fo.flat,ApR,Aqn] at hv;have hcnt:=hmax i _ h0 hv;have hcf:=D6 r';simp only[Apz,Ap2] at hcnt;have hvM:=hA.hv;have hMM:=hA.hM;simp only[Fo.cnt] at hl;have hb':Hm (e::S):=λx hx=>by
   rcases List.mem_cons.1 hx with rfl | hx
   ·constructor<;>omega
   ·exact hb x hx
  have hkr:=UY (sh:=sh) hA h0 hv hS hb' (by rw[hk];exact w1) hlo;have hv1:=DY h0 hv;obtain⟨kl,kp⟩:=Qf (e:=e) k;have hbk:Hm (JX e k::S):=λx hx=>by
   rcases List.mem_cons.1 hx with rfl | hx
   ·rw[kl];exact hb' e (by simp)
   ·exact hb x hx
  have hd:=RW (sh:=SP k sh) hA (by omega) hv1 (by simp only[Ap2];omega) hbk (RY (by rw[hk];exact w1)) w2 w3;obtain⟨q1,q2⟩:=Qg hlo hm w1;have hv2:=(D8 (by omega) hv1).2.1;have:=Zr hA ih (hd.of hkr) (by rw[kl,hl];rfl) (by rw[kp];exact w4) q1 q2 hv2 (by omega) (by omega) hb;simp only[Fo.flat,Fo.sh,Apz,Ap2];rw[show i+((((C1 k).length+(r'.flat.length+1):Nat)):Int)=i+(C1 k).length+1+r'.flat.length from by omega];exact this
 | node k c kids r' ihk ih=>
  intro e S i sh last r h1 hw hk hl hlo hm hv h0 hS hb;simp only[Fo.wf,Aps,Apt] at hw;obtain⟨⟨⟨⟨⟨w1,w2⟩,w3⟩,w5⟩,w6⟩,w4⟩:=hw;simp only[Fo.flat,ApR,Aqn] at hv;have hcnt:=hmax i _ h0 hv;have hcf:=D6 r';have hck:=D6 kids;simp only[Apz,Ap2] at hcnt;have hvM:=hA.hv;have hMM:=hA.hM;simp only[Fo.cnt] at hl;have hb':Hm (e::S):=λx hx=>by
   rcases List.mem_cons.1 hx with rfl | hx
   ·constructor<;>omega
   ·exact hb x hx
  have hkr:=UY (sh:=sh) hA h0 hv hS hb' (by rw[hk];exact w1) hlo;have hv1:=DY h0 hv;obtain⟨kl,kp⟩:=Qf (e:=e) k;have hbk:Hm (JX e k::S):=λx hx=>by
   rcases List.mem_cons.1 hx with rfl | hx
   ·rw[kl];exact hb' e (by simp)
   ·exact hb x hx
  have hn:=OF (sh:=SP k sh) hA (by omega) hv1 (by simp only[Ap2];omega) hbk (RY (by rw[hk];exact w1)) w2 (by simpa using w3) (by omega);have hv2:=(D8 (by omega) hv1).2.1;have hd:=ihk ⟨decide (c.fKind=6),c.fN,decide (c.fKind=6),[],false⟩ (JX e k::S) (i+(C1 k).length+1) (Nn (S.length+1) (SP k sh) c) none _ (by omega) w6 rfl w5 rfl (λ_=>rfl) hv2 (by omega) (by simp only[Ap2];omega) hbk;obtain⟨q1,q2⟩:=Qg hlo hm w1;have hv3:=DY (by omega) hv2;have:=Zr hA ih ((hd.of hn).of hkr) (by rw[kl,hl];rfl) (by rw[kp];exact w4) q1 q2 hv3 (by omega) (by omega) hb;simp only[Fo.flat,Fo.sh,Apz,Ap2];rw[show i+((((C1 k).length+(kids.flat.length+r'.flat.length+1):Nat)):Int)=i+(C1 k).length+1+kids.flat.length+r'.flat.length from by omega];exact this
end
theorem ZZ {S O:Type}{body:S→Option (Stp S O)}{o:O}:∀{n:Nat} {s:S} (k:Nat),Cg body n s=some o→Cg body (n+k) s=some o
 | 0,s,k,h=>by cases h
 | n+1,s,k,h=>by
  rw[show n+1+k=n+k+1 from by omega,Cg];rw[Cg] at h
  cases hb:body s with
  | none=>rw[hb] at h;cases h
  | some t=>
   rw[hb] at h
   cases t with
   | next s'=>exact ZZ k h
   | out o'=>exact h
variable{O:Type}{o:O}
theorem Fin.eq {S:Type}{body:S→Option (Stp S O)}{s:S}{o':O}{n:Nat}(h:Fin body s o)(h':Cg body n s=some o'):o'=o:=by
 obtain⟨k,hk⟩:=h;have:=ZZ k h';rw[hk n] at this;exact(Ag0 this).symm
theorem Xi:∀{S:List AL},Hm S→Hm (Tj S)∧(Tj S).length≤S.length
 | [],h=>⟨h,Ap8 _⟩
 | e::S,h=>by
  have hS:Hm S:=λx hx=>h x (by simp[hx]);have he:=h e (by simp);unfold Tj
  cases hd:decide (1<e.fLeft) with
  | true=>
   simp only[Apt] at hd;refine⟨λx hx=>?_,by simp⟩;rcases List.mem_cons.1 hx with rfl | hx
   ·simp only;omega
   ·exact hS x hx
  | false=>
   obtain⟨h1,h2⟩:=Xi hS;exact⟨h1,by simp only[Apv,Ap2];omega⟩
theorem Ahz {n:Int}{sh:Bc}{σ:Y9}(hb:Hm S)(hS:(S.length:Int)≤i)(hN:c.fN≤9223372036854775807)(h:lkc n S i sh c = .next σ):∃S' sh',σ=(S'.reverse,i+1,sh')∧Hm S'∧(S'.length:Int)≤i+1:=by
 unfold lkc at h
 cases hp:pl c with
 | false=>simp[hp] at h
 | true=>
  simp only[hp,Ap0,Apv] at h
  cases S with
  | nil=>
   simp only at h
   cases hn:decide (0<c.fN) with
   | false=>simp[hn] at h
   | true=>
    simp only[hn,Ap1] at h
    cases hm:decide (n<c.fN) with
    | true=>simp[hm] at h
    | false=>
     simp only[hm,Apv,Stp.next.injEq] at h;refine⟨[_],_,h.symm,λx hx=>?_,by simp at hS ⊢;omega⟩;simp only[ApF] at hx;subst hx;simp only[Apt] at hn;exact⟨by simp only;omega,hN⟩
  | cons e S=>
   have he:=hb e (by simp);have hbS:Hm S:=λx hx=>hb x (by simp[hx]);simp only[Ap2] at hS
   cases hk:e.fKey with
   | true=>
    simp only[hk,Ap1] at h
    cases hq:(!decide (c.fKind=4)||(e.fStarted&&(Cr c.fStr e.fLast||decide (c.fStr=e.fLast)))) with
    | true=>rw[hq] at h;simp at h
    | false=>
     rw[hq] at h;simp only[Apv,Stp.next.injEq] at h;refine⟨_::S,_,h.symm,λx hx=>?_,by simp only[Ap2];omega⟩;rcases List.mem_cons.1 hx with rfl | hx
     ·exact he
     ·exact hbS x hx
   | false=>
    simp only[hk,Apv] at h
    cases hn:decide (0<c.fN) with
    | true=>
     simp only[hn,Ap1] at h
     cases hm:decide (n<c.fN) with
     | true=>simp[hm] at h
     | false=>
      simp only[hm,Apv,Stp.next.injEq] at h;refine⟨_::e::S,_,h.symm,λx hx=>?_,by simp only[Ap2];omega⟩;rcases List.mem_cons.1 hx with rfl | hx
      ·simp only[Apt] at hn;exact⟨by simp only;omega,hN⟩
      ·exact hb x hx
    | false=>
     simp only[hn,Apv] at h
     cases hq:decide (Tj (e::S)=[]) with
     | true=>rw[hq] at h;simp at h
     | false=>
      rw[hq] at h;simp only[Apv,Stp.next.injEq] at h;obtain⟨h1,h2⟩:=Xi hb;simp only[Ap2] at h2;exact⟨_,_,h.symm,h1,by omega⟩
variable{v:List Ab}
theorem UV (hA:LkA F M v):∃o,Cg (lkB F v) F (([]:List AL),0,(⟨0,0,false,false⟩:Bc))=some o∧True:=by
 refine H3 (λσ=>∃S i sh,σ=(S.reverse,i,sh)∧Hm S∧(S.length:Int)≤i∧0≤i∧i≤v.length) (λσ=>v.length-σ.2.1.toNat) (λ_=>True) (λσ hI=>?_) F _ ⟨[],0,_,rfl,(λx hx=>by cases hx),ApA _,ApA _,by omega⟩ (by have:=hA.hv;have:=hA.hF;simp;omega);obtain⟨S,i,sh,rfl,hb,hS,h0,hi⟩:=hI
 by_cases hx:i<v.length
 ·obtain⟨c,hc⟩:∃c,v[i.toNat]? =some c:=⟨v[i.toNat]'(by omega),Apw (by omega)⟩
  have hdr:v.drop i.toNat=c::v.drop (i.toNat+1):=by rw[List.drop_eq_getElem_cons (by omega)];congr 1;exact(List.getElem?_eq_some_iff.1 hc).2
  have hr:=round (sh:=sh) hA h0 hdr hS hb
  cases hl:lkc v.length S i sh c with
  | next τ=>
   obtain⟨S',sh',rfl,h1,h2⟩:=Ahz hb hS (hA.hc c (Ap4 hc)).2.2 hl;exact .inl ⟨_,by rw[hr,hl],⟨S',i+1,sh',rfl,h1,h2,by omega,by omega⟩,by simp only;omega⟩
  | out o=>exact .inr ⟨o,by rw[hr,hl],trivial⟩
 ·refine .inr ⟨.go sh,?_,trivial⟩;show HC F v S.reverse i sh=_;unfold HC;rw[AC (by simpa using hx)]
def Fo.one:Fo→Bool
 | .cell none _ .nil=>true
 | .node none _ _ .nil=>true
 | _=>false
def Uq:Bc:=⟨0,0,false,false⟩
variable{r:List Ab}{f:Fo}
theorem Ahy (hA:LkA F M v)(h1:f.one=true)(hw:f.wf false none=true)(hv:v=f.flat++r):Fin (lkB F v) ([],0,Uq) (.ret (f.flat.length,f.sh 0 Uq,true)):=by
 have h0:v.drop (0:Int).toNat=f.flat++r:=by rw[hv];rfl
 have hlen:f.flat.length≤v.length:=by rw[hv];simp
 cases f with
 | nil=>cases h1
 | cell k c r'=>
  cases k with
  | some s=>cases h1
  | none=>
   cases r' with
   | nil=>
    simp only[Fo.wf,Aps,Ap6] at hw;have:=RW (S:=[]) (sh:=Uq) hA (ApA 0) h0 (by simp) (λx hx=>by cases hx) rfl hw.1.1.2 hw.1.2;unfold L9 at this;rw[ApW (show Tj []=[] from rfl)] at this;simpa[Fo.flat,Fo.sh,C1,SP] using this
   | cell _ _ _=>cases h1
   | node _ _ _ _=>cases h1
 | node k c kids r'=>
  cases k with
  | some s=>cases h1
  | none=>
   cases r' with
   | nil=>
    simp only[Fo.wf,Aps,Apt] at hw;obtain⟨⟨⟨⟨⟨w1,w2⟩,w3⟩,w5⟩,w6⟩,w4⟩:=hw;have hck:=D6 kids;simp only[Fo.flat,C1,Aqm,ApZ,Ap2] at hlen;have hvM:=hA.hv;have hMM:=hA.hM;have hn:=OF (S:=[]) (sh:=Uq) hA (ApA 0) h0 (by simp) (λx hx=>by cases hx) rfl w2 (by simpa using w3) (by omega);have hv2:=(D8 (ApA 0) h0).2.1;have hd:=Ti hA kids ⟨decide (c.fKind=6),c.fN,decide (c.fKind=6),[],false⟩ [] (0+1) (Nn 0 Uq c) none r (by omega) w6 rfl w5 rfl (λ_=>rfl) (by rw[hv2];simp[Fo.flat]) (by omega) (by simp) (λx hx=>by cases hx);unfold L9 at hd;rw[ApW (show Tj []=[] from rfl)] at hd;have:=hn.fin hd;have e:((0:Int)+1+kids.flat.length)=((Fo.node none c kids .nil).flat.length:Int):=by simp[Fo.flat,C1];omega
    rw[e] at this;exact this
   | cell _ _ _=>cases h1
   | node _ _ _ _=>cases h1
theorem Aaa (hA:LkA F M v)(h1:f.one=true)(hw:f.wf false none=true)(hv:v=f.flat++r):Na F v=some ((f.flat.length:Int),f.sh 0 Uq,true):=by
 obtain⟨o,ho,_⟩:=UV hA;have e:=(Ahy hA h1 hw hv).eq ho;subst e;unfold Na;rw[Ck ho];rfl
def MA (m:Bool)(last:Option Ac)(xs:List Ab):Option (Option Ac×List Ab):=
 bif m then match xs with
  | []=>none
  | c::r=>bif pl c&&decide (c.fKind=4)&&DF true last (some c.fStr) then some (some c.fStr,r) else none
 else some (none,xs)
def Mt:Nat→Bool→Option Ac→Nat→List Ab→Option (Fo×List Ab)
 | 0,_,_,_,_=>none
 | _+1,_,_,0,xs=>some (.nil,xs)
 | F+1,m,last,k+1,xs=>
  match MA m last xs with
  | none=>none
  | some (_,[])=>none
  | some (key,c::xs')=>
   bif !pl c then none else
   bif decide (0<c.fN) then
    match Mt F (decide (c.fKind=6)) none c.fN.toNat xs' with
    | none=>none
    | some (kids,ys)=>match Mt F m key k ys with
     | none=>none
     | some (r,zs)=>some (.node key c kids r,zs)
   else match Mt F m key k xs' with
    | none=>none
    | some (r,zs)=>some (.cell key c r,zs)
theorem XT (hp:pl c=true)(hk:c.fKind=4):c=⟨4,0,c.fStr,0⟩∧c.fStr.all okc=true:=by
 cases c
 simp only at hk;subst hk;simp[pl] at hp;obtain⟨h1,h2,h3⟩:=hp;subst h1;subst h2;exact⟨rfl,by simpa using h3⟩
variable{m:Bool}{key:Option Ac}{xs:List Ab}
theorem TC (h:MA m last xs=some (key,r)):xs=C1 key++r∧DF m last key=true:=by
 unfold MA at h
 cases m with
 | false=>cases h;exact⟨rfl,rfl⟩
 | true=>
  simp only[Ap1] at h
  cases xs with
  | nil=>cases h
  | cons c r'=>
   simp only at h
   cases hb:(pl c&&decide (c.fKind=4)&&DF true last (some c.fStr)) with
   | false=>rw[hb] at h;cases h
   | true=>
    rw[hb] at h;simp only[Aps,Apt] at hb
    cases h
    exact⟨by rw[(XT hb.1.1 hb.1.2).1];rfl,hb.2⟩
theorem L0:∀(F:Nat) (m:Bool) (last:Option Ac) (k:Nat) (xs:List Ab) (f:Fo) (ys:List Ab),Mt F m last k xs=some (f,ys)→xs=f.flat++ys∧f.wf m last=true∧f.cnt=k
 | 0,_,_,_,_,_,_,h=>by cases h
 | F+1,m,last,0,xs,f,ys,h=>by cases h;exact⟨rfl,rfl,rfl⟩
 | F+1,m,last,k+1,xs,f,ys,h=>by
  rw[Mt] at h
  cases hk:MA m last xs with
  | none=>rw[hk] at h;cases h
  | some p=>
   obtain⟨key,r⟩:=p;obtain⟨h1,h2⟩:=TC hk;rw[hk] at h
   cases r with
   | nil=>cases h
   | cons c xs'=>
    simp only at h
    cases hp:pl c with
    | false=>rw[hp] at h;cases h
    | true=>
     rw[hp] at h;simp only[Ap0,Apv] at h
     cases hn:decide (0<c.fN) with
     | true=>
      rw[hn] at h;simp only[Ap1] at h
      cases hq:Mt F (decide (c.fKind=6)) none c.fN.toNat xs' with
      | none=>rw[hq] at h;cases h
      | some q=>
       obtain⟨kids,zs⟩:=q;rw[hq] at h;simp only at h
       cases hr:Mt F m key k zs with
       | none=>rw[hr] at h;cases h
       | some q2=>
        obtain⟨r2,us⟩:=q2;rw[hr] at h;cases h;obtain⟨a1,a2,a3⟩:=L0 F _ _ _ _ _ _ hq;obtain⟨b1,b2,b3⟩:=L0 F _ _ _ _ _ _ hr;refine⟨by rw[h1,a1,b1];simp[Fo.flat],?_,by simp[Fo.cnt,b3]⟩;simp only[Apt] at hn;simp only[Fo.wf,h2,hp,a2,b2,ApT,Ap7,Aps,Apt];omega
     | false=>
      rw[hn] at h;simp only[Apv] at h
      cases hr:Mt F m key k xs' with
      | none=>rw[hr] at h;cases h
      | some q2=>
       obtain⟨r2,us⟩:=q2;rw[hr] at h;cases h;obtain⟨b1,b2,b3⟩:=L0 F _ _ _ _ _ _ hr;exact⟨by rw[h1,b1];simp[Fo.flat],by simp[Fo.wf,h2,hp,b2,hn],by simp[Fo.cnt,b3]⟩
theorem LQ:∀(F F':Nat) (m:Bool) (last:Option Ac) (k:Nat) (xs:List Ab),xs.length<F→xs.length<F'→Mt F m last k xs=Mt F' m last k xs
 | 0,_,_,_,_,_,h,_=>by omega
 | _+1,0,_,_,_,_,_,h=>by omega
 | F+1,F'+1,m,last,0,xs,_,_=>rfl
 | F+1,F'+1,m,last,k+1,xs,h,h'=>by
  rw[Mt,Mt]
  cases hk:MA m last xs with
  | none=>rfl
  | some p=>
   obtain⟨key,r⟩:=p;obtain⟨h1,h2⟩:=TC hk
   cases r with
   | nil=>rfl
   | cons c xs'=>
    have hl:xs'.length<xs.length:=by rw[h1];simp;omega
    simp only
    cases hp:pl c with
    | false=>rfl
    | true=>
     simp only[Ap0,Apv]
     cases hn:decide (0<c.fN) with
     | true=>
      simp only[Ap1];rw[LQ F F' _ _ _ xs' (by omega) (by omega)]
      cases hq:Mt F' (decide (c.fKind=6)) none c.fN.toNat xs' with
      | none=>rfl
      | some q=>
       obtain⟨kids,zs⟩:=q;have:=(L0 _ _ _ _ _ _ _ hq).1;have hz:zs.length≤xs'.length:=by rw[this];simp
       simp only;rw[LQ F F' m key k zs (by omega) (by omega)]
     | false=>
      simp only[Apv];rw[LQ F F' m key k xs' (by omega) (by omega)]
def Bad {S:Type}(body:S→Option (Stp S LkO))(s:S):Prop:=∃sh',Fin body s (.ret (0,sh',false))∨Fin body s (.go sh')
theorem HP.bad {S:Type}{body:S→Option (Stp S LkO)}{s t:S}(h:HP body s t)(h':Bad body t):Bad body s:=by
 obtain⟨sh',h' | h'⟩:=h'
 ·exact⟨sh',.inl (h.fin h')⟩
 ·exact⟨sh',.inr (h.fin h')⟩
variable{ys:List Ab}
section
variable {F M : Nat} {v : List Ab}
theorem Bad.end_ {sh:Bc}(h0:0≤i)(h:v.drop i.toNat=[]):Bad (lkB F v) (S.reverse,i,sh):=by
 refine⟨sh,.inr (Fin.step ?_)⟩;show HC F v S.reverse i sh=_;unfold HC;rw[AC];have:v.length≤i.toNat:=by simpa using h
 simp;omega
theorem Bad.pl_ (hA:LkA F M v){sh:Bc}(h0:0≤i)(h:v.drop i.toNat=c::r)(hS:(S.length:Int)≤i)(hb:Hm S)(hp:pl c=false):Bad (lkB F v) (S.reverse,i,sh):=by
 refine⟨sh,.inl (Fin.step ?_)⟩;rw[round hA h0 h hS hb];simp[lkc,hp]
theorem Acb (hA:LkA F M v):∀(P:Nat) (k:Nat) (e:AL) (S:List AL) (i:Int) (sh:Bc) (last:Option Ac) (xs:List Ab),xs.length<P→Mt P e.fPairs last (k+1) xs=none→e.fKey=e.fPairs→e.fLeft=(k:Int)+1→(k:Int)+1≤9223372036854775807→NW e last→(e.fPairs=false→last=none)→v.drop i.toNat=xs→0≤i→(S.length:Int)+1≤i→Hm S→
  Bad (lkB F v) ((e::S).reverse,i,sh):=by
 intro P
 induction P with
 | zero=>intro k e S i sh last xs h;omega
 | succ P ih=>
  intro k e S i sh last xs hP hn hk hl hkm hlo hm hv h0 hS hb;have hb':Hm (e::S):=λx hx=>by
   rcases List.mem_cons.1 hx with rfl | hx
   ·constructor<;>omega
   ·exact hb x hx
  rw[Mt] at hn
  cases hq:MA e.fPairs last xs with
  | none=>
   unfold MA at hq
   cases hpr:e.fPairs with
   | false=>rw[hpr] at hq;cases hq
   | true=>
    rw[hpr] at hq hk;simp only[Ap1] at hq
    cases xs with
    | nil=>exact Bad.end_ h0 hv
    | cons c r=>
     simp only at hq
     cases hp:pl c with
     | false=>exact Bad.pl_ hA h0 hv (by simpa using hS) hb' hp
     | true=>
      refine⟨sh,.inl (Fin.step ?_)⟩;rw[round hA h0 hv (by simpa using hS) hb'];have ht:(!decide (c.fKind=4)||(e.fStarted&&(Cr c.fStr e.fLast||decide (c.fStr=e.fLast))))=true:=by
       rw[hp] at hq
       cases h4:decide (c.fKind=4) with
       | false=>rfl
       | true=>
        rw[h4] at hq;simp only[Bool.and_self,Ap7] at hq;have hok:=(XT hp (by simpa using h4)).2
        cases last with
        | none=>simp[DF,hok] at hq
        | some p=>
         obtain⟨q1,q2⟩:=hlo;rw[q1,q2]
         cases hc:(Cr c.fStr p||decide (c.fStr=p)) with
         | true=>rfl
         | false=>simp[DF,hok,hc] at hq
      simp only[lkc,hp,hk,ht,Ap0,Apv,Ap1]
  | some q=>
   obtain⟨key,r⟩:=q;obtain⟨h1,h2⟩:=TC hq;rw[hq] at hn;have hkr:=UY (sh:=sh) hA h0 (by rw[hv];exact h1) hS hb' (by rw[hk];exact h2) hlo;have hv1:=DY h0 (hv.trans h1);obtain⟨kl,kp⟩:=Qf (e:=e) key;obtain⟨q1,q2⟩:=Qg hlo hm h2;have hbk:Hm (JX e key::S):=λx hx=>by
    rcases List.mem_cons.1 hx with rfl | hx
    ·rw[kl];exact hb' e (by simp)
    ·exact hb x hx
   refine hkr.bad ?_
   cases r with
   | nil=>exact Bad.end_ (by omega) hv1
   | cons c xs'=>
    have hlen:xs'.length+1≤xs.length:=by rw[h1];simp
    have hvl:xs.length≤v.length:=by rw[← hv,ApU];omega
    have hvM:=hA.hv;have hMM:=hA.hM;have hkk:=RY (e:=e) (last:=last) (k:=key) (by rw[hk];exact h2);simp only at hn;have hSk:(((JX e key::S).length:Nat):Int)≤i+(C1 key).length:=by simp only[Ap2];omega
    cases hp:pl c with
    | false=>exact Bad.pl_ hA (by omega) hv1 hSk hbk hp
    | true=>
     rw[hp] at hn;simp only[Ap0,Apv] at hn;obtain⟨g1,g2,g3⟩:=D8 (by omega) hv1;have hcN:=(hA.hc c (Ap4 g1)).2.2;have more:∀(s:Y9) (j:Int) (sh':Bc) (zs:List Ab),L9 (lkB F v) s (JX e key::S) j sh'→v.drop j.toNat=zs→zs.length<P→0≤j→(S.length:Int)+1≤j→Mt P e.fPairs key k zs=none→Bad (lkB F v) s:=λs j sh' zs hd hz hzl hj hSj hnone=>by
      cases k with
      | zero=>
       cases P with
       | zero=>omega
       | succ P=>cases hnone
      | succ k=>
       have:=hd.more (by rw[kl];omega);refine this.bad (ih k _ S j sh' key zs hzl (by rw[kp];exact hnone) rfl (by simp only[kl];omega) (by omega) ?_ (by simpa using q2) hz hj hSj hb)
       cases key with
       | none=>exact q1
       | some p=>exact q1
     cases hN:decide (0<c.fN) with
     | true=>
      rw[hN] at hn;simp only[Ap1] at hn;simp only[Apt] at hN
      by_cases hbig:c.fN≤v.length
      ·have hnd:=OF (sh:=SP key sh) hA (by omega) hv1 hSk hbk (by simpa[RZ] using hkk) hp (by simpa using hN) hbig;refine hnd.bad ?_
       cases hks:Mt P (decide (c.fKind=6)) none c.fN.toNat xs' with
       | none=>
        obtain⟨n',hn'⟩:∃n',c.fN.toNat=n'+1:=⟨c.fN.toNat-1,by omega⟩
        rw[hn'] at hks;exact ih n' _ _ _ _ none xs' (by omega) hks rfl (by simp only;omega) (by omega) rfl (λ_=>rfl) g2 (by omega) (by simp only[Ap2];omega) hbk
       | some q=>
        obtain⟨kids,zs⟩:=q;rw[hks] at hn;simp only at hn;have hn2:Mt P e.fPairs key k zs=none:=by
         cases hz:Mt P e.fPairs key k zs with
         | none=>rfl
         | some q=>rw[hz] at hn;cases hn
        obtain⟨a1,a2,a3⟩:=L0 _ _ _ _ _ _ _ hks;have hd:=Ti hA kids ⟨decide (c.fKind=6),c.fN,decide (c.fKind=6),[],false⟩ (JX e key::S) (i+(C1 key).length+1) (Nn (S.length+1) (SP key sh) c) none zs (by omega) a2 rfl (by simp only;omega) rfl (λ_=>rfl) (by rw[g2];exact a1) (by omega) (by simp only[Ap2];omega) hbk;have hz:v.drop (i+(C1 key).length+1+kids.flat.length).toNat=zs:=DY (by omega) (g2.trans a1);have hzl:zs.length≤xs'.length:=by rw[a1];simp
        exact more _ _ _ zs hd hz (by omega) (by omega) (by omega) hn2
      ·refine⟨Nn (JX e key::S).length (SP key sh) c,.inl (Fin.step ?_)⟩;rw[round hA (by omega) hv1 hSk hbk];have hbig':decide ((v.length:Int)<c.fN)=true:=by simpa using hbig
       simp only[lkc,hp,hkk,hbig',hN,Ap0,Apv,Ap1,decide_true]
     | false=>
      rw[hN] at hn;simp only[Apv] at hn;have hn2:Mt P e.fPairs key k xs'=none:=by
       cases hz:Mt P e.fPairs key k xs' with
       | none=>rfl
       | some q=>rw[hz] at hn;cases hn
      have hd:=RW (sh:=SP key sh) hA (by omega) hv1 hSk hbk (by simpa[RZ] using hkk) hp hN;exact more _ _ _ xs' hd g2 (by omega) (by omega) (by omega) hn2
def LS (xs:List Ab):Option (Fo×List Ab):=Mt (xs.length+1) false none 1 xs
theorem AcO {P:Nat}(h:Mt P false none 1 xs=some (f,ys)):f.one=true:=by
 obtain⟨h1,h2,h3⟩:=L0 _ _ _ _ _ _ _ h
 cases f with
 | nil=>cases h3
 | cell k c r=>
  cases r with
  | nil=>
   cases k with
   | none=>rfl
   | some s=>simp[Fo.wf,DF] at h2
  | cell _ _ _=>simp[Fo.cnt] at h3
  | node _ _ _ _=>simp[Fo.cnt] at h3
 | node k c kids r=>
  cases r with
  | nil=>
   cases k with
   | none=>rfl
   | some s=>simp[Fo.wf,DF] at h2
  | cell _ _ _=>simp[Fo.cnt] at h3
  | node _ _ _ _=>simp[Fo.cnt] at h3
theorem Afi (hA:LkA F M v)(h:LS v=none):Bad (lkB F v) ([],0,Uq):=by
 have hlf:Hm []:=λx hx=>by cases hx
 unfold LS at h;rw[Mt] at h;simp only[MA,Apv] at h
 cases v with
 | nil=>exact Bad.end_ (S:=[]) (ApA 0) rfl
 | cons c xs'=>
  have hv1:(c::xs').drop (0:Int).toNat=c::xs':=rfl;have hvM:=hA.hv;have hMM:=hA.hM;simp only at h
  cases hp:pl c with
  | false=>exact Bad.pl_ (S:=[]) hA (ApA 0) hv1 (by simp) hlf hp
  | true=>
   rw[hp] at h;simp only[Ap0,Apv] at h;have hcN:=(hA.hc c (by simp)).2.2
   cases hN:decide (0<c.fN) with
   | true=>
    rw[hN] at h;simp only[Ap1] at h;simp only[Apt] at hN
    by_cases hbig:c.fN≤(c::xs').length
    ·have hnd:=OF (S:=[]) (sh:=Uq) hA (ApA 0) hv1 (by simp) hlf rfl hp (by simpa using hN) hbig;refine hnd.bad ?_
     cases hks:Mt (c::xs').length (decide (c.fKind=6)) none c.fN.toNat xs' with
     | none=>
      obtain⟨n',hn'⟩:∃n',c.fN.toNat=n'+1:=⟨c.fN.toNat-1,by omega⟩
      rw[hn'] at hks;exact Acb hA (c::xs').length n' ⟨decide (c.fKind=6),c.fN,decide (c.fKind=6),[],false⟩ [] (0+1) _ none xs' (by simp) hks rfl (by simp only;omega) (by omega) rfl (λ_=>rfl) rfl (by omega) (by simp) hlf
     | some q=>rw[hks] at h;cases h
    ·refine⟨Nn 0 Uq c,.inl (Fin.step ?_)⟩;rw[show lkB F (c::xs') (([]:List AL),0,Uq)=_ from round (S:=[]) hA (ApA 0) hv1 (by simp) hlf];have hbig':decide (((c::xs').length:Int)<c.fN)=true:=by simpa using hbig
     simp only[lkc,hp,hbig',hN,Ap0,Apv,Ap1,decide_true]
   | false=>rw[hN] at h;cases h
theorem AjB (hA:LkA F M v):(∃f ys,LS v=some (f,ys)∧Na F v=some ((f.flat.length:Int),f.sh 0 Uq,true))∨(LS v=none∧∃sh',Na F v=some (0,sh',false)):=by
 cases h:LS v with
 | some q=>
  obtain⟨f,ys⟩:=q;obtain⟨h1,h2,h3⟩:=L0 _ _ _ _ _ _ _ h;exact .inl ⟨f,ys,rfl,Aaa hA (AcO h) h2 h1⟩
 | none=>
  refine .inr ⟨rfl,?_⟩;obtain⟨o,ho,_⟩:=UV hA;obtain⟨sh',hb | hb⟩:=Afi hA h
  ·have e:=hb.eq ho;subst e;exact⟨sh',by unfold Na;rw[Ck ho];rfl⟩
  ·have e:=hb.eq ho;subst e;exact⟨sh',by unfold Na;rw[Ck ho];rfl⟩
end
theorem Oo (h:-9223372036854775808≤x)(h':x≤9223372036854775807):IntKind.wrap .i64 x=x:=by
 simp only[IntKind.wrap,IntKind.bits,IntKind.signed];simp;omega
def Fo.dep:Fo→Nat
 | .nil=>0
 | .cell _ _ r=>max 1 r.dep
 | .node _ _ kids r=>max (kids.dep+1) r.dep
theorem Kl (k:Option Ac)(s:Bc):(SP k s).fDepth=s.fDepth∧(SP k s).fOutside=s.fOutside∧(SP k s).fLong=(s.fLong||(C1 k).any λc=>decide (200<(c.fStr.length:Int))):=by
 cases k with
 | none=>simp[SP,C1]
 | some x=>simp[SP,shk,C1]
theorem QA:∀(f:Fo) (d:Nat) (s:Bc),(d:Int)≤s.fDepth→(f.sh d s).fDepth=max s.fDepth ((d:Int)+f.dep)
 | .nil,d,s,h=>by simp only[Fo.sh,Fo.dep];omega
 | .cell k c r,d,s,h=>by
  have hk:=(Kl k s).1;have e:(Nn d (SP k s) c).fDepth=max s.fDepth ((d:Int)+1):=by rw[Nn,hk]
  rw[Fo.sh,QA r d _ (by rw[e];omega),e,Fo.dep];omega
 | .node k c kids r,d,s,h=>by
  have hk:=(Kl k s).1;have e:(Nn d (SP k s) c).fDepth=max s.fDepth ((d:Int)+1):=by rw[Nn,hk]
  have e2:=QA kids (d+1) (Nn d (SP k s) c) (by rw[e];omega);rw[e] at e2;rw[Fo.sh,QA r d _ (by rw[e2];omega),e2,Fo.dep];omega
def MF (c:Ab):Bool:=decide (c.fKind=3)&&!(decide ((-1000000000000)≤c.fInt)&&decide (c.fInt≤1000000000000))
def KQ (c:Ab):Bool:=decide (200<(c.fStr.length:Int))
theorem Aag (k:Option Ac):(C1 k).any MF=false:=by cases k<;>simp[C1,MF]
theorem X2:∀(f:Fo) (d:Nat) (s:Bc),(f.sh d s).fOutside=(s.fOutside||f.flat.any MF)
 | .nil,d,s=>by simp[Fo.sh,Fo.flat]
 | .cell k c r,d,s=>by
  rw[Fo.sh,X2 r,Nn,(Kl k s).2.1];simp only[Fo.flat,List.any_append,List.any_cons,Aag,ApJ,Bool.or_assoc];rfl
 | .node k c kids r,d,s=>by
  rw[Fo.sh,X2 r,X2 kids,Nn,(Kl k s).2.1];simp only[Fo.flat,List.any_append,List.any_cons,Aag,ApJ,Bool.or_assoc];rfl
theorem T7:∀(f:Fo) (d:Nat) (s:Bc),(f.sh d s).fLong=(s.fLong||f.flat.any KQ)
 | .nil,d,s=>by simp[Fo.sh,Fo.flat]
 | .cell k c r,d,s=>by
  rw[Fo.sh,T7 r,Nn,(Kl k s).2.2];simp only[Fo.flat,List.any_append,List.any_cons,Bool.or_assoc];rfl
 | .node k c kids r,d,s=>by
  rw[Fo.sh,T7 r,T7 kids,Nn,(Kl k s).2.2];simp only[Fo.flat,List.any_append,List.any_cons,Bool.or_assoc];rfl
def lsz (c:Ab):Int:=
 bif decide (c.fKind=1) then 4 else bif decide (c.fKind=2) then 5-c.fInt else bif decide (c.fKind=3) then((Lib.itoa c.fInt).length:Int) else
 bif decide (c.fKind=4) then RQ c.fStr else 2
def Ye:Option Ac→Int
 | none=>0
 | some s=>RQ s+1
def Fo.byt:Fo→Int
 | .nil=>0
 | .cell k c r=>Ye k+lsz c+r.byt
 | .node k c kids r=>Ye k+(c.fN+1)+kids.byt+r.byt
theorem QM (s:Ac):2≤RQ s:=by unfold RQ;omega
theorem TI (k:Option Ac):0≤Ye k:=by
 cases k with
 | none=>exact ApA 0
 | some s=>have:=QM s;simp only[Ye];omega
theorem Adh (hp:pl c=true):0≤lsz c:=by
 unfold lsz
 cases h1:decide (c.fKind=1) with
 | true=>simp
 | false=>
  cases h2:decide (c.fKind=2) with
  | true=>
   simp[pl,h1,h2] at hp;simp only[Apv,Ap1];omega
  | false=>
   cases h3:decide (c.fKind=3) with
   | true=>simp
   | false=>
    cases h4:decide (c.fKind=4) with
    | true=>have:=QM c.fStr;simp only[Apv,Ap1];omega
    | false=>simp
theorem Aji (hp:pl c=true):0≤c.fN:=by
 simp only[pl,← Bool.decide_or] at hp
 cases h1:decide (c.fKind=1)<;>cases h2:decide (c.fKind=2)<;>cases h3:decide (c.fKind=3)<;>cases h4:decide (c.fKind=4)<;>cases h5:decide (c.fKind=5)<;>cases h6:decide (c.fKind=6)<;>simp[h1,h2,h3,h4,h5,h6] at hp<;>omega
theorem MD (hp:pl c=true)(hn:0<c.fN):(c.fKind=5∨c.fKind=6)∧c.fInt=0∧c.fStr=[]:=by
 cases h1:decide (c.fKind=1)<;>cases h2:decide (c.fKind=2)<;>cases h3:decide (c.fKind=3)<;>cases h4:decide (c.fKind=4)<;>cases h5:decide (c.fKind=5)<;>cases h6:decide (c.fKind=6)<;>simp[pl,h1,h2,h3,h4,h5,h6] at hp<;>(simp only[Apt,Apx] at *;first | omega | exact⟨by omega,hp.1,hp.2.1⟩)
theorem Agu (hp:pl c=true)(hn:decide (0<c.fN)=false):szc c=lsz c:=by
 have hN:=Aji hp;have h0:c.fN=0:=by simp only[Apx] at hn;omega
 unfold szc lsz;rw[h0]
 cases h1:decide (c.fKind=1) with
 | true=>rfl
 | false=>
  cases h2:decide (c.fKind=2) with
  | true=>
   simp[pl,h1,h2] at hp;simp only[Apv,Ap1];exact Oo (by omega) (by omega)
  | false=>rfl
theorem Agt (hp:pl c=true)(hn:0<c.fN)(hm:c.fN≤9223372036854775000):szc c=c.fN+1:=by
 obtain⟨hk,_,_⟩:=MD hp hn;unfold szc;rw[Apq (by omega),Apq (by omega),Apq (by omega),Apq (by omega)];simp only[Apv];rw[Oo (x:=c.fN-1) (by omega) (by omega),Oo (by omega) (by omega)];omega
theorem Lw:∀{f:Fo} {m:Bool} {l:Option Ac},f.wf m l=true→0≤f.byt
 | .nil,_,_,_=>ApA 0
 | .cell k c r,m,l,h=>by
  simp only[Fo.wf,Aps] at h;have h1:=Lw h.2;have h2:=Adh h.1.1.2;have h3:=TI k;simp only[Fo.byt];omega
 | .node k c kids r,m,l,h=>by
  simp only[Fo.wf,Aps,Apt] at h;have h1:=Lw h.2;have h2:=Lw h.1.2;have h3:=TI k;simp only[Fo.byt];omega
theorem Wy (k:Option Ac)(s:Bc)(h0:0≤s.fBytes)(h:s.fBytes+Ye k≤9223372036854775807):(SP k s).fBytes=s.fBytes+Ye k:=by
 cases k with
 | none=>simp[SP,Ye]
 | some x=>
  have:=QM x;simp only[Ye] at h;simp only[SP,shk,Ye];exact Oo (by omega) (by omega)
theorem QB:∀(f:Fo) (m:Bool) (l:Option Ac) (d:Nat) (s:Bc),f.wf m l=true→0≤s.fBytes→s.fBytes+f.byt≤9223372036854775000→(f.sh d s).fBytes=s.fBytes+f.byt
 | .nil,_,_,d,s,_,_,_=>by simp[Fo.sh,Fo.byt]
 | .cell k c r,m,l,d,s,hw,h0,h=>by
  simp only[Fo.wf,Aps,Ap6] at hw;obtain⟨⟨⟨w1,w2⟩,w3⟩,w4⟩:=hw;have h1:=Lw w4;have h2:=Adh w2;have h3:=TI k;simp only[Fo.byt] at h;have e1:=Wy k s h0 (by omega);have e:(Nn d (SP k s) c).fBytes=s.fBytes+Ye k+lsz c:=by
   rw[Nn,e1,Agu w2 w3];exact Oo (by omega) (by omega)
  rw[Fo.sh,QB r _ _ d _ w4 (by rw[e];omega) (by rw[e];omega),e,Fo.byt];omega
 | .node k c kids r,m,l,d,s,hw,h0,h=>by
  simp only[Fo.wf,Aps,Apt] at hw;obtain⟨⟨⟨⟨⟨w1,w2⟩,w3⟩,w5⟩,w6⟩,w4⟩:=hw;have h1:=Lw w4;have h2:=Lw w6;have h3:=TI k;simp only[Fo.byt] at h;have e1:=Wy k s h0 (by omega);have e:(Nn d (SP k s) c).fBytes=s.fBytes+Ye k+(c.fN+1):=by
   rw[Nn,e1,Agt w2 w3 (by omega)];exact Oo (by omega) (by omega)
  have e2:=QB kids _ _ (d+1) (Nn d (SP k s) c) w6 (by rw[e];omega) (by rw[e];omega);rw[Fo.sh,QB r _ _ d _ w4 (by rw[e2,e];omega) (by rw[e2,e];omega),e2,e,Fo.byt];omega
def JH (s:Ac):Ac:=s.flatMap λc=>bif (decide (c=34)||decide (c=92)) then[92,c] else[c]
def J9 (s:Ac):Ac:=34::(JH s++[34])
theorem Rs:∀s:Ac,(JH s).length=s.length+s.count 34+s.count 92
 | []=>rfl
 | c::s=>by
  have ih:=Rs s;unfold JH at ih ⊢;rw[List.flatMap_cons,Apz,ih]
  by_cases h1:c=34
  ·subst h1;simp;omega
  ·by_cases h2:c=92
   ·subst h2;simp;omega
   ·simp[h1,h2,List.count_cons];omega
theorem Z6 (s:Ac):((J9 s).length:Int)=RQ s:=by
 simp only[J9,Ap2,Apz,Rs,Aqh,RQ];omega
def Ip (c:Ab):Ac:=
 bif decide (c.fKind=1) then[110,117,108,108] else
 bif decide (c.fKind=2) then(bif decide (c.fInt=1) then[116,114,117,101] else[102,97,108,115,101]) else
 bif decide (c.fKind=3) then Lib.itoa c.fInt else
 bif decide (c.fKind=4) then J9 c.fStr else
 bif decide (c.fKind=6) then[123,125] else[91,93]
def Np:Option Ac→Ac
 | none=>[]
 | some s=>J9 s++[58]
def V9 (c:Ab)(s:Ac):Ac:=bif decide (c.fKind=6) then 123::(s++[125]) else 91::(s++[93])
def GV (first:Bool):Ac:=bif first then[] else[44]
def Fo.txt:Bool→Fo→Ac
 | _,.nil=>[]
 | b,.cell k c r=>GV b++Np k++Ip c++r.txt false
 | b,.node k c kids r=>GV b++Np k++V9 c (kids.txt true)++r.txt false
theorem Adk (k:Option Ac):((Np k).length:Int)=Ye k:=by
 cases k with
 | none=>rfl
 | some s=>simp only[Np,Apz,Ye,ApC];have:=Z6 s;omega
theorem WO (hp:pl c=true):((Ip c).length:Int)=lsz c:=by
  unfold Ip lsz
  cases h1:decide (c.fKind=1) with
  | true=>rfl
  | false=>
    cases h2:decide (c.fKind=2) with
    | true=>
      simp[pl,h1,h2] at hp;simp only[Apv,Ap1]
      cases h7:decide (c.fInt=1) with
      | true=>simp only[Apt] at h7;simp[h7]
      | false=>
                 simp only[Apx] at h7;have:c.fInt=0:=by omega
                 simp[this]
    | false=>
      cases h3:decide (c.fKind=3) with
      | true=>rfl
      | false=>
        cases h4:decide (c.fKind=4) with
        | true=>simpa using Z6 c.fStr
        | false=>cases h6:decide (c.fKind=6)<;>rfl
theorem MU (c:Ab)(s:Ac):(V9 c s).length=s.length+2:=by
 unfold V9
 cases decide (c.fKind=6)<;>simp
theorem Le:∀(f:Fo) (m:Bool) (l:Option Ac) (b:Bool),f.wf m l=true→((f.txt b).length:Int)=f.byt+(bif b then((f.cnt-1:Nat):Int) else(f.cnt:Int))
 | .nil,m,l,b,_=>by cases b<;>rfl
 | .cell k c r,m,l,b,hw=>by
  simp only[Fo.wf,Aps,Ap6] at hw;obtain⟨⟨⟨w1,w2⟩,w3⟩,w4⟩:=hw;have ih:=Le r _ _ false w4;have a:=Adk k;have d:=WO w2;simp only[Apv] at ih
  cases b<;>simp only[Fo.txt,Fo.byt,Fo.cnt,GV,Ap1,Apv,Apz,Aqh,ApC]<;>omega
 | .node k c kids r,m,l,b,hw=>by
  simp only[Fo.wf,Aps,Apt] at hw;obtain⟨⟨⟨⟨⟨w1,w2⟩,w3⟩,w5⟩,w6⟩,w4⟩:=hw;have ih:=Le r _ _ false w4;have ih2:=Le kids _ _ true w6;have a:=Adk k;have d:=MU c (kids.txt true);simp only[Apv,Ap1] at ih ih2
  cases b<;>simp only[Fo.txt,Fo.byt,Fo.cnt,GV,Ap1,Apv,Apz,Aqh,ApC]<;>omega
def Fo.put (k:Option Ac):Fo→Fo→Fo
 | .cell _ c _,r=>.cell k c r
 | .node _ c kids _,r=>.node k c kids r
 | .nil,_=>.nil
theorem AgR (P:Nat)(m:Bool)(last:Option Ac)(k:Nat)(xs:List Ab):Mt (P+2) m last (k+1) xs =
  match MA m last xs with
  | none=>none
  | some (key,ys)=>match Mt (P+2) false none 1 ys with
   | none=>none
   | some (f,zs)=>match Mt (P+1) m key k zs with
    | none=>none
    | some (r,us)=>some (f.put key r,us):=by
 rw[Mt]
 cases hk:MA m last xs with
 | none=>rfl
 | some p=>
  obtain⟨key,ys⟩:=p;simp only;rw[Mt];simp only[MA,Apv]
  cases ys with
  | nil=>rfl
  | cons c ys=>
   simp only
   cases hp:pl c with
   | false=>rfl
   | true=>
    simp only[Ap0,Apv]
    cases hn:decide (0<c.fN) with
    | true=>
     simp only[Ap1]
     cases hq:Mt (P+1) (decide (c.fKind=6)) none c.fN.toNat ys with
     | none=>rfl
     | some q=>
      obtain⟨kids,zs⟩:=q;simp only[Mt]
      cases hr:Mt (P+1) m key k zs with
      | none=>rfl
      | some q=>obtain⟨a,b⟩:=q;rfl
    | false=>
     simp only[Apv,Mt]
     cases hr:Mt (P+1) m key k ys with
     | none=>rfl
     | some q=>obtain⟨a,b⟩:=q;rfl
def UA (m:Bool)(last:Option Ac)(k:Nat)(xs:List Ab):Option (Fo×List Ab):=Mt (xs.length+1) m last k xs
theorem RR (m:Bool)(last:Option Ac)(xs:List Ab):UA m last 0 xs=some (.nil,xs):=rfl
theorem Kv (m:Bool)(last:Option Ac)(k:Nat)(xs:List Ab):UA m last (k+1) xs =
  match MA m last xs with
  | none=>none
  | some (key,ys)=>match LS ys with
   | none=>none
   | some (f,zs)=>match UA m key k zs with
    | none=>none
    | some (r,us)=>some (f.put key r,us):=by
 unfold UA LS;rw[LQ (xs.length+1) (xs.length+2) m last (k+1) xs (by omega) (by omega),AgR]
 cases hk:MA m last xs with
 | none=>rfl
 | some p=>
  obtain⟨key,ys⟩:=p;have h1:=(TC hk).1;have hy:ys.length≤xs.length:=by rw[h1];simp
  simp only;rw[LQ (xs.length+2) (ys.length+1) false none 1 ys (by omega) (by omega)]
  cases hf:Mt (ys.length+1) false none 1 ys with
  | none=>rfl
  | some q=>
   obtain⟨f,zs⟩:=q;have h2:=(L0 _ _ _ _ _ _ _ hf).1;have hz:zs.length≤ys.length:=by rw[h2];simp
   simp only;rw[LQ (xs.length+1) (zs.length+1) m key k zs (by omega) (by omega)]
   all_goals (cases Mt (zs.length+1) m key k zs<;>rfl)
theorem SZ {S:Type}{body:S→Option (Stp S O)}{n:Nat}{s s':S}(h:body s=some (.next s'))(h':Cg body n s'=some o):Cg body (n+1) s=some o:=by rw[Cg,h];exact h'
theorem Ng {S:Type}{body:S→Option (Stp S O)}{n:Nat}{s:S}(h:body s=some (.out o)):Cg body (n+1) s=some o:=by rw[Cg,h]
theorem Z9:LS []=none:=rfl
theorem LR (c:Ab)(r:List Ab):LS (c::r)=bif !pl c then none else bif decide (0<c.fN) then(match UA (decide (c.fKind=6)) none c.fN.toNat r with
  | none=>none
  | some (kids,zs)=>some (.node none c kids .nil,zs)) else some (.cell none c .nil,r):=by
 unfold LS;rw[Mt];simp only[MA,Apv]
 cases hp:pl c with
 | false=>rfl
 | true=>
  simp only[Ap0,Apv]
  cases hn:decide (0<c.fN) with
  | true=>
   simp only[Ap1];unfold UA;rw[Ap2]
   cases hq:Mt (r.length+1) (decide (c.fKind=6)) none c.fN.toNat r with
   | none=>rfl
   | some q=>obtain⟨kids,zs⟩:=q;rfl
  | false=>rfl
theorem Z7 (h:f.one=true)(key:Option Ac)(r:Fo):(f.put key r).flat=C1 key++(f.flat++r.flat):=by
 cases f with
 | nil=>cases h
 | cell k c r'=>
  cases k with
  | some s=>cases h
  | none=>cases r' with
   | nil=>simp[Fo.put,Fo.flat,C1]
   | cell _ _ _=>cases h
   | node _ _ _ _=>cases h
 | node k c kids r'=>
  cases k with
  | some s=>cases h
  | none=>cases r' with
   | nil=>simp[Fo.put,Fo.flat,C1]
   | cell _ _ _=>cases h
   | node _ _ _ _=>cases h
theorem ZF (h:f.one=true):1≤f.flat.length:=by
 cases f with
 | nil=>cases h
 | cell k c r'=>simp[Fo.flat];omega
 | node k c kids r'=>simp[Fo.flat];omega
theorem O7 (h:LS xs=some (f,ys)):xs=f.flat++ys∧f.wf false none=true∧f.one=true:=
 ⟨(L0 _ _ _ _ _ _ _ h).1,(L0 _ _ _ _ _ _ _ h).2.1,AcO h⟩
def Nf (v:List Ab)(i:Int):Int:=match LS (v.drop i.toNat) with
 | none=>-1
 | some (f,_)=>i+f.flat.length
def QQ (m:Bool)(last:Option Ac)(v:List Ab)(i:Int)(k:Nat):Int:=match UA m last k (v.drop i.toNat) with
 | none=>-1
 | some (f,_)=>i+f.flat.length
theorem WF (h0:0≤i)(h1:i≤v.length):Nf v i = -1∨(i<Nf v i∧Nf v i≤v.length):=by
 unfold Nf
 cases h:LS (v.drop i.toNat) with
 | none=>exact .inl rfl
 | some q=>
  obtain⟨f,ys⟩:=q;obtain⟨h2,_,h3⟩:=O7 h;have:=ZF h3;have hl:(v.drop i.toNat).length=f.flat.length+ys.length:=by rw[h2];simp
  rw[ApU] at hl
  right;simp only;omega
structure RfA (F M:Nat) (v:List Ab):Prop where
 hM:M≤1152921504606846976
 hv:v.length≤M
 hF:M<F
 hc:∀c∈v,c.fStr.length≤M
theorem AeD (ok:Bool)(h0:0≤i)(h1:i≤1152921504606846976):CN ok i=some (bif ok then i+1 else -1):=by
 unfold CN
 cases ok
 ·rfl
 ·rw[AO rfl,A8 (by omega) (by omega)];rfl
theorem AcL (hF:c.fStr.length<F)(hs:c.fStr.length≤1152921504606846976):VL F c=some (decide (c.fKind=4)&&pl c):=by
 unfold VL;rw[Ae4 hF (by omega)];simp only[Option.isSome_some,ov,ApE,imp,Aqd,AM,Ap1]
 cases h4:decide (c.fKind=4) with
 | false=>rfl
 | true=>
  simp only[Apt] at h4;simp[pl,h4]
theorem EU (h0:0≤i)(h:v.drop i.toNat=c::r):Af v i=c:=by
 have:=(D8 h0 h).1;simp[Af,this]
section
variable {M : Nat} {v : List Ab}
theorem Px {F:Nat}(hA:RfA F M v){g:List Ab→Int→Option Int}{n:Int}(hn:n≤9223372036854775807):∀(L:Nat) (i x:Int),0≤i→i≤v.length→0≤x→x≤n→(∀j,i≤j→j≤v.length→g v j=some (Nf v j))→v.length-i.toNat<L→
  ∃o,Cg (λσ=>EN v n g σ.1 σ.2) L (i,x)=some o∧Cm (λν=>Hy ν) o=some (QQ false none v i (n-x).toNat)
 | 0,i,x,_,_,_,_,_,h=>by omega
 | L+1,i,x,h0,h1,hx,hxn,hg,hL=>by
  cases hxl:decide (x<n) with
  | false=>
   refine⟨.go i,Ng (by show EN v n g i x=_;unfold EN;rw[AC hxl]),?_⟩;simp only[Apx] at hxl;rw[show(n-x).toNat=0 from by omega];simp[Cm,Hy,QQ,RR,Fo.flat]
  | true=>
   have hb:EN v n g i x=Bj (decide (Nf v i<0)) (some (.out (.ret (-1)))) (AM (BT .i64 (x+1))<|some (.next (Nf v i,x+1))):=by unfold EN;rw[AO hxl,hg i (ApA i) h1,Ck rfl]
   simp only[Apt] at hxl;obtain⟨k,hk⟩:∃k,(n-x).toNat=k+1:=⟨(n-x).toNat-1,by omega⟩
   rw[hk];have e:QQ false none v i (k+1)=bif decide (Nf v i<0) then -1 else QQ false none v (Nf v i) k:=by
    unfold QQ;rw[Kv];simp only[MA,Apv]
    cases hp:LS (v.drop i.toNat) with
    | none=>simp[Nf,hp]
    | some q=>
     obtain⟨f,ys⟩:=q;obtain⟨q1,q2,q3⟩:=O7 hp;have hi:Nf v i=i+f.flat.length:=by simp[Nf,hp]
     have hd:v.drop (Nf v i).toNat=ys:=by rw[hi];exact DY h0 q1
     rw[hd,Apq (by omega)];simp only[Apv]
     cases hr:UA false none k ys with
     | none=>rfl
     | some q=>
      obtain⟨r,zs⟩:=q;simp only[Z7 q3,C1,Aqm,Apz,hi];omega
   rw[e];rcases WF (v:=v) h0 h1 with hneg | ⟨hlt,hle⟩
   ·exact⟨.ret (-1),Ng (hb.trans (by rw[hneg,AO (by decide)])),by rw[hneg];rfl⟩
   ·have hM:=hA.hM;have hvM:=hA.hv;obtain⟨o,ho1,ho2⟩:=Px hA hn L (Nf v i) (x+1) (by omega) hle (by omega) (by omega) (λj hj=>hg j (by omega)) (by omega);exact⟨o,SZ (hb.trans (by rw[AC (Apq (by omega)),A8 (by omega) (by omega)])) ho1,by rw[ho2,show(n-(x+1)).toNat=k from by omega,Apq (by omega)];rfl⟩
theorem U0 {F:Nat}(hA:RfA F M v){g:List Ab→Int→Option Int}{n:Int}(hn:n≤9223372036854775807):∀(L:Nat) (i x:Int) (last:Ac),0≤i→i≤v.length→0≤x→x≤n→(∀j,i≤j→j≤v.length→g v j=some (Nf v j))→v.length-i.toNat<L→
  ∃o,Cg (λσ=>GC F v n g σ.1 σ.2.1 σ.2.2) L (i,last,x)=some o∧Cm (λν=>Km ν) o=some (QQ true (bif decide (0<x) then some last else none) v i (n-x).toNat)
 | 0,i,x,_,_,_,_,_,_,h=>by omega
 | L+1,i,x,last,h0,h1,hx,hxn,hg,hL=>by
  have hM:=hA.hM;have hvM:=hA.hv;have hMF:=hA.hF
  cases hxl:decide (x<n) with
  | false=>
   refine⟨.go i,Ng (by show GC F v n g i last x=_;unfold GC;rw[AC hxl]),?_⟩;simp only[Apx] at hxl;rw[show(n-x).toNat=0 from by omega];simp[Cm,Km,QQ,RR,Fo.flat]
  | true=>
   have hxl':=hxl;simp only[Apt] at hxl;obtain⟨k,hk⟩:∃k,(n-x).toNat=k+1:=⟨(n-x).toNat-1,by omega⟩
   rw[hk]
   cases hd:v.drop i.toNat with
   | nil=>
    have hl:v.length≤i.toNat:=by simpa using hd
    refine⟨.ret (-1),Ng (by
     show GC F v n g i last x=_;unfold GC;rw[AO hxl',BN (by simp[imp,show(v.length:Int)≤i from by omega]),BN (by simp[imp,show(v.length:Int)≤i from by omega]),AO (by simp[show(v.length:Int)≤i from by omega])]),?_⟩
    simp[Cm,QQ,hd,Kv,MA]
   | cons c r=>
    obtain⟨g1,g2,g3⟩:=D8 h0 hd;have hcM:=hA.hc c (Ap4 g1);have hat:=EU h0 hd;have hnl:decide ((v.length:Int)≤i)=false:=by simp;omega
    have hb:GC F v n g i last x=Bj (!(decide (c.fKind=4)&&pl c)||decide (0<x)&&(Cr c.fStr last||decide (c.fStr=last))) (some (.out (.ret (-1)))) (Ba (g v (i+1)) λhe=>Bj (decide (he<0)) (some (.out (.ret (-1)))) (AM (BT .i64 (x+1))<|some (.next (he,c.fStr,x+1)))):=by
     unfold GC;rw[AO hxl',BN (by simp only[imp];rw[Me h0 g3];simp),hat,AcL (by omega) (by omega),BN (by simp[imp])];simp only[hnl,ov,ApE,ApJ];rw[AI h0 g3,A8 (by omega) (by omega)]
    have hpk:MA true (bif decide (0<x) then some last else none) (c::r)=bif (!(decide (c.fKind=4)&&pl c)||decide (0<x)&&(Cr c.fStr last||decide (c.fStr=last))) then none else some (some c.fStr,r):=by
     simp only[MA,Ap1]
     cases h4:decide (c.fKind=4) with
     | false=>simp
     | true=>
      cases hp:pl c with
      | false=>simp
      | true=>
       have hok:=(XT hp (by simpa using h4)).2
       cases h0x:decide (0<x) with
       | false=>simp[DF,hok]
       | true=>cases hs:(Cr c.fStr last||decide (c.fStr=last))<;>simp[DF,hok,hs]
    cases ht:(!(decide (c.fKind=4)&&pl c)||decide (0<x)&&(Cr c.fStr last||decide (c.fStr=last))) with
    | true=>
     rw[ht] at hpk;refine⟨.ret (-1),Ng (hb.trans (AO ht)),?_⟩;simp only[QQ,hd,Kv,hpk,Ap1];rfl
    | false=>
     rw[ht] at hpk;rw[AC ht,hg (i+1) (by omega) (by omega),Ck rfl] at hb;have e:QQ true (bif decide (0<x) then some last else none) v i (k+1)=bif decide (Nf v (i+1)<0) then -1 else QQ true (some c.fStr) v (Nf v (i+1)) k:=by
      unfold QQ;rw[hd,Kv,hpk];simp only[Apv];have hx:Nf v (i+1)=match LS r with | none=>-1 | some (f,_)=>i+1+f.flat.length:=by unfold Nf;rw[g2]
      cases hp:LS r with
      | none=>rw[hp] at hx;simp[hx]
      | some q=>
       obtain⟨f,ys⟩:=q;obtain⟨q1,q2,q3⟩:=O7 hp;rw[hp] at hx;simp only at hx;have hd2:v.drop (Nf v (i+1)).toNat=ys:=by rw[hx];exact DY (by omega) (g2.trans q1)
       rw[hd2,Apq (by omega)];simp only[Apv]
       cases hr:UA true (some c.fStr) k ys with
       | none=>rfl
       | some q=>
        obtain⟨r',zs⟩:=q;simp only[Z7 q3,C1,Apz,Ap2,Aqh,hx];omega
     rw[e];rcases WF (v:=v) (i:=i+1) (by omega) (by omega) with hneg | ⟨hlt,hle⟩
     ·exact⟨.ret (-1),Ng (hb.trans (by rw[hneg,AO (by decide)])),by rw[hneg];rfl⟩
     ·obtain⟨o,ho1,ho2⟩:=U0 hA hn L (Nf v (i+1)) (x+1) c.fStr (by omega) hle (by omega) (by omega) (λj hj=>hg j (by omega)) (by omega);exact⟨o,SZ (hb.trans (by rw[AC (Apq (by omega)),A8 (by omega) (by omega)])) ho1,by rw[ho2,show(n-(x+1)).toNat=k from by omega,Apr (show(0:Int)<x+1 from by omega),Apq (by omega)];rfl⟩
theorem ZM (h0:0≤i)(hd:v.drop i.toNat=c::r)(hp:pl c=true):Nf v i=QQ (decide (c.fKind=6)) none v (i+1) c.fN.toNat:=by
 have g2:=(D8 h0 hd).2.1;have hN:=Aji hp;unfold Nf QQ;rw[hd,LR,g2,hp];simp only[Ap0,Apv]
 cases hn:decide (0<c.fN) with
 | true=>
  simp only[Ap1]
  cases hq:UA (decide (c.fKind=6)) none c.fN.toNat r with
  | none=>rfl
  | some q=>
   obtain⟨kids,zs⟩:=q;simp only[Fo.flat,C1,Aqm,Ap2,ApZ];omega
 | false=>
  simp only[Apx] at hn;rw[show c.fN.toNat=0 from by omega,RR];simp[Fo.flat,C1]
theorem Zx (hA:RfA (M+1) M v)(hN:∀c∈v,c.fN≤9223372036854775807):∀(d F:Nat) (i:Int),0≤i→i≤v.length→v.length-i.toNat=d→M+2*d+3<F→Gt F v i=some (Nf v i):=by
 have hM:=hA.hM;have hvM:=hA.hv;intro d
 induction d using Nat.strongRecOn with
 | ind d ih=>
  intro F i h0 h1 hd hF;obtain⟨F,rfl⟩:∃G,F=G+1:=⟨F-1,by omega⟩
  obtain⟨F,rfl⟩:∃G,F=G+1:=⟨F-1,by omega⟩
  rw[Gt];unfold XI
  cases hdr:v.drop i.toNat with
  | nil=>
   have hl:v.length≤i.toNat:=by simpa using hdr
   rw[AO (by simp;omega)];simp[Nf,hdr,Z9]
  | cons c r=>
   obtain⟨g1,g2,g3⟩:=D8 h0 hdr;have hcM:=hA.hc c (Ap4 g1);have hcN:=hN c (Ap4 g1);rw[AC (by simp;omega),AI h0 g3,EU h0 hdr];simp only[AeD _ h0 (show i≤1152921504606846976 by omega),Option.isSome_some,ov,ApE,imp,Aqd,BN (x:=_) (rfl:true=true)];have hg:∀j,i+1≤j→j≤v.length→Gt F v j=some (Nf v j):=λj hj hj2=>ih (v.length-j.toNat) (by omega) F j (by omega) hj2 rfl (by omega);have hpl0:pl c=false→Nf v i = -1:=λhp=>by simp[Nf,hdr,LR,hp]
   have hleaf:pl c=true→c.fN=0→Nf v i=i+1:=λhp h0'=>by simp[Nf,hdr,LR,hp,h0',Fo.flat,C1]
   have hscal:∀b:Bool,pl c=b→(b=true→c.fN=0)→Nf v i=bif b then i+1 else -1:=λb hb hz=>by
    cases b
    ·exact hpl0 hb
    ·exact hleaf hb (hz rfl)
   by_cases k1:c.fKind=1
   ·rw[AO (by simp[k1])];have hp:pl c=(decide (c.fInt=0)&&(decide (c.fStr=[])&&decide (c.fN=0))):=by simp[pl,k1]
    rw[hscal _ hp (λh=>by simp at h;exact h.2.2)]
    cases decide (c.fInt=0)<;>cases decide (c.fStr=[])<;>cases decide (c.fN=0)<;>rfl
   rw[AC (by simp[k1])]
   by_cases k2:c.fKind=2
   ·rw[AO (by simp[k2])];have hp:pl c=((decide (c.fInt=0)||decide (c.fInt=1))&&(decide (c.fStr=[])&&decide (c.fN=0))):=by simp[pl,k2]
    rw[hscal _ hp (λh=>by simp at h;exact h.2.2)]
    cases decide (c.fInt=0)<;>cases decide (c.fInt=1)<;>cases decide (c.fStr=[])<;>cases decide (c.fN=0)<;>rfl
   rw[AC (by simp[k2])]
   by_cases k3:c.fKind=3
   ·rw[AO (by simp[k3])];have hp:pl c=(decide (c.fStr=[])&&decide (c.fN=0)):=by simp[pl,k3]
    rw[hscal _ hp (λh=>by simp at h;exact h.2)]
    cases decide (c.fStr=[])<;>cases decide (c.fN=0)<;>rfl
   rw[AC (by simp[k3])]
   by_cases k4:c.fKind=4
   ·rw[AO (by simp[k4]),AcL (by omega) (by omega),Ck rfl,Ck rfl];rw[Apr k4,Ap7,hscal (pl c) rfl (λhp=>by have:=(XT hp k4).1;rw[this])]
   rw[AC (by simp[k4])]
   by_cases k5:c.fKind=5
   ·have hp:pl c=(decide (c.fInt=0)&&(decide (c.fStr=[])&&decide (0≤c.fN))):=by simp[pl,k5]
    rw[show(decide (c.fKind=5)&&(decide (c.fInt=0)&&(decide (c.fStr=[])&&decide (0≤c.fN))))=pl c from by rw[hp,Apr k5,Ap7]];have k5' : ¬ c.fKind=6:=by omega
    cases hb:pl c with
    | false=>rw[AC rfl,AC (by simp[k5]),hpl0 hb]
    | true=>
     have hn0:=Aji hb;rw[AO rfl,A8 (by omega) (by omega),Kq];unfold PX;obtain⟨o,ho1,ho2⟩:=Px (F:=F) ⟨hM,hvM,by omega,hA.hc⟩ hcN F (i+1) 0 (by omega) (by omega) (ApA 0) hn0 hg (by omega);rw[Ck ho1,ho2,Ck rfl,ZM h0 hdr hb,Apq k5',Int.sub_zero]
   rw[AC (by simp[k5])]
   by_cases k6:c.fKind=6
   ·have hp:pl c=(decide (c.fInt=0)&&(decide (c.fStr=[])&&decide (0≤c.fN))):=by simp[pl,k6]
    rw[show(decide (c.fKind=6)&&(decide (c.fInt=0)&&(decide (c.fStr=[])&&decide (0≤c.fN))))=pl c from by rw[hp,Apr k6,Ap7]]
    cases hb:pl c with
    | false=>rw[AC rfl,hpl0 hb]
    | true=>
     have hn0:=Aji hb;rw[AO rfl,A8 (by omega) (by omega),RK];unfold XH;obtain⟨o,ho1,ho2⟩:=U0 (F:=F) ⟨hM,hvM,by omega,hA.hc⟩ hcN F (i+1) 0 [] (by omega) (by omega) (ApA 0) hn0 hg (by omega);rw[Ck ho1,ho2,Ck rfl,ZM h0 hdr hb,Apr k6,Int.sub_zero];rfl
   ·rw[AC (by simp[k6]),hpl0 (by simp[pl,k1,k2,k3,k4,k5,k6])]
theorem Abz (hA:RfA (M+1) M v)(hN:∀c∈v,c.fN≤9223372036854775807)(hF:3*M+3<F):TA F v=some (decide (Nf v 0=v.length)):=by
 have hvM:=hA.hv;unfold TA;rw[Zx hA hN v.length F 0 (ApA 0) (by omega) (by simp) (by omega)];simp only[imp,Option.isSome_some,Aqd,BN,ov,ApE]
 cases v with
 | nil=>simp[Nf,Z9]
 | cons c r=>
  rw[show decide (0<((c::r).length:Int))=true from by simp,Ap7]
  first | done | rfl
end
theorem AcP (h:DF m last key=true):MA m last (C1 key++r)=some (key,r):=by
 cases key with
 | none=>
  have:m=false:=by simpa[DF] using h
  subst this;rfl
 | some s=>
  have h':=h;simp only[DF,Aps] at h;obtain⟨⟨h1,h2⟩,h3⟩:=h;subst h1;have hp:pl ⟨4,0,s,0⟩=true:=by simp[pl,h2]
  show(bif pl ⟨4,0,s,0⟩&&decide ((4:Int)=4)&&DF true last (some s) then _ else _)=_;rw[hp,h'];rfl
theorem TD:∀(f:Fo) (m:Bool) (last:Option Ac) (ys:List Ab),f.wf m last=true→UA m last f.cnt (f.flat++ys)=some (f,ys)
 | .nil,_,_,_,_=>rfl
 | .cell k c r,m,last,ys,hw=>by
  simp only[Fo.wf,Aps,Ap6] at hw;obtain⟨⟨⟨w1,w2⟩,w3⟩,w4⟩:=hw;simp only[Fo.cnt,Fo.flat,ApR,Aqn];rw[Kv,AcP w1];simp only[LR,w2,w3,Ap0,Apv,TD r m k ys w4,Fo.put]
 | .node k c kids r,m,last,ys,hw=>by
  simp only[Fo.wf,Aps,Apt] at hw;obtain⟨⟨⟨⟨⟨w1,w2⟩,w3⟩,w5⟩,w6⟩,w4⟩:=hw;simp only[Fo.cnt,Fo.flat,ApR,Aqn];rw[Kv,AcP w1];have e:c.fN.toNat=kids.cnt:=by omega
  simp only[LR,w2,Apr w3,Ap0,Apv,Ap1,e,TD kids _ none (r.flat++ys) w6,TD r m k ys w4,Fo.put]
theorem AcQ (h1:f.one=true)(hw:f.wf false none=true):LS (f.flat++ys)=some (f,ys):=by
 have:=TD f false none ys hw;have hc:f.cnt=1:=by
  cases f with
  | nil=>cases h1
  | cell k c r=>cases k with
   | some _=>cases h1
   | none=>cases r with
    | nil=>rfl
    | _=>cases h1
  | node k c kids r=>cases k with
   | some _=>cases h1
   | none=>cases r with
    | nil=>rfl
    | _=>cases h1
 rw[hc] at this;exact this
structure G8 (M:Nat) (v:List Ab):Prop where
 hM:M≤1000000000
 hv:v.length≤M
 hc:∀c∈v,c.fStr.length≤M∧BT .i64 c.fInt=true∧c.fN≤9223372036854775807
theorem G8.lk (h:G8 M v)(hF:M<F):LkA F M v:=⟨by have:=h.hM;omega,by have:=h.hM;omega,h.hv,hF,h.hc⟩
theorem G8.rf (h:G8 M v)(hF:M<F):RfA F M v:=⟨by have:=h.hM;omega,h.hv,hF,λc hc=>(h.hc c hc).1⟩
theorem G8.drop (h:G8 M v)(k:Nat):G8 M (v.drop k):=⟨h.hM,by have:=h.hv;rw[ApU];omega,λc hc=>h.hc c (List.mem_of_mem_drop hc)⟩
theorem G8.take (h:G8 M v)(k:Nat):G8 M (v.take k):=⟨h.hM,by have:=h.hv;rw[Aqq];omega,λc hc=>h.hc c (List.mem_of_mem_take hc)⟩
def whole (v:List Ab):Option Fo:=match LS v with
 | some (f,[])=>some f
 | _=>none
theorem KB (h:whole v=some f):v=f.flat∧f.wf false none=true∧f.one=true:=by
 unfold whole at h
 cases hp:LS v with
 | none=>rw[hp] at h;cases h
 | some q=>
  obtain⟨g,ys⟩:=q;rw[hp] at h
  cases ys with
  | cons _ _=>cases h
  | nil=>
   cases h
   obtain⟨h1,h2,h3⟩:=O7 hp;exact⟨by simpa using h1,h2,h3⟩
theorem Agc (h1:f.one=true)(hw:f.wf false none=true):whole f.flat=some f:=by
 have:=AcQ (ys:=[]) h1 hw;rw[ApZ] at this;simp[whole,this]
def Nq (f:Fo):Int:=
 bif f.flat.any MF then 2 else bif f.flat.any KQ||(decide (200<f.flat.length)||(decide (8<f.dep)||decide (4000<(f.txt true).length))) then 3 else 0
def DC (v:List Ab):Int:=match whole v with
 | none=>1
 | some f=>Nq f
theorem TF (h1:f.one=true):f.cnt=1:=by
 cases f with
 | nil=>cases h1
 | cell k c r=>cases k with
  | some _=>cases h1
  | none=>cases r with
   | nil=>rfl
   | _=>cases h1
 | node k c kids r=>cases k with
  | some _=>cases h1
  | none=>cases r with
   | nil=>rfl
   | _=>cases h1
theorem XQ (s:Ac):RQ s≤2*s.length+2+s.length:=by
 have h1:s.count 34≤s.length:=List.count_le_length;have h2:s.count 92≤s.length:=List.count_le_length;unfold RQ;omega
theorem Al2 (hp:pl c=true)(hs:c.fStr.length≤M)(hi:(Lib.itoa c.fInt).length≤21):lsz c≤3*M+21:=by
 have:=XQ c.fStr;unfold lsz
 cases h1:decide (c.fKind=1) with
 | true=>simp only[Ap1];omega
 | false=>
  cases h2:decide (c.fKind=2) with
  | true=>
   simp[pl,h1,h2] at hp;simp only[Apv,Ap1];omega
  | false=>
   cases h3:decide (c.fKind=3) with
   | true=>simp only[Apv,Ap1];omega
   | false=>cases h4:decide (c.fKind=4)<;>simp only[Apv,Ap1]<;>omega
theorem Y0 {M:Nat}:∀{f:Fo} {m:Bool} {l:Option Ac},f.wf m l=true→(∀c∈f.flat,c.fStr.length≤M∧BT .i64 c.fInt=true∧c.fN≤9223372036854775807)→f.byt+f.cnt≤(3*M+24)*f.flat.length
 | .nil,_,_,_,_=>by simp[Fo.byt,Fo.flat,Fo.cnt]
 | .cell k c r,m,l,hw,hc=>by
  simp only[Fo.wf,Aps,Ap6] at hw;obtain⟨⟨⟨w1,w2⟩,w3⟩,w4⟩:=hw;simp only[Fo.flat] at hc;have ih:=Y0 w4 (λx hx=>hc x (by simp[hx]));obtain⟨c1,c2,c3⟩:=hc c (by simp);have i64:=MI c2;have hl:=Al2 w2 c1 (Lib.itoa_length_le c.fInt i64.1 i64.2);have hk:Ye k≤(3*M+24)*(C1 k).length:=by
   cases k with
   | none=>simp[Ye,C1]
   | some s=>
    have:=(hc ⟨4,0,s,0⟩ (by simp[C1])).1;have h2:=XQ s;simp only at this;simp only[Ye,C1,ApC];omega
  simp only[Fo.byt,Fo.flat,Fo.cnt,Apz,Ap2];have e:((3*(M:Int)+24)*(((C1 k).length+(r.flat.length+1):Nat):Int))=(3*(M:Int)+24)*(C1 k).length+((3*(M:Int)+24)*r.flat.length+(3*(M:Int)+24)):=by
   push_cast;rw[Int.mul_add,Int.mul_add,Int.mul_one]
  rw[e]
  push_cast at *
  omega
 | .node k c kids r,m,l,hw,hc=>by
  simp only[Fo.wf,Aps,Apt] at hw;obtain⟨⟨⟨⟨⟨w1,w2⟩,w3⟩,w5⟩,w6⟩,w4⟩:=hw;simp only[Fo.flat] at hc;have ih:=Y0 w4 (λx hx=>hc x (by simp[hx]));have ih2:=Y0 w6 (λx hx=>hc x (by simp[hx]));have hcf:=D6 kids;have hk:Ye k≤(3*M+24)*(C1 k).length:=by
   cases k with
   | none=>simp[Ye,C1]
   | some s=>
    have:=(hc ⟨4,0,s,0⟩ (by simp[C1])).1;have h2:=XQ s;simp only at this;simp only[Ye,C1,ApC];omega
  simp only[Fo.byt,Fo.flat,Fo.cnt,Apz,Ap2];have e:((3*(M:Int)+24)*(((C1 k).length+(kids.flat.length+r.flat.length+1):Nat):Int))=(3*(M:Int)+24)*(C1 k).length+((3*(M:Int)+24)*kids.flat.length+(3*(M:Int)+24)*r.flat.length+(3*(M:Int)+24)):=by
   push_cast;rw[Int.mul_add,Int.mul_add,Int.mul_add,Int.mul_one]
  rw[e]
  push_cast at *
  omega
theorem OX (hM:M≤2000000){l:Option Ac}(hw:f.wf m l=true)(hl:f.flat.length≤M)(hc:∀c∈f.flat,c.fStr.length≤M∧BT .i64 c.fInt=true∧c.fN≤9223372036854775807):f.byt≤16000000000000:=by
 have:=Y0 (M:=M) hw hc;have h2:(3*M+24)*f.flat.length≤(3*2000000+24)*2000000:=Nat.mul_le_mul (by omega) (by omega);have h3:(((3*M+24)*f.flat.length:Nat):Int)=(3*(M:Int)+24)*f.flat.length:=by push_cast;rfl
 omega
theorem Wt (hA:G8 M v)(hM:M≤2000000)(hF:M<F):N7 F v=some (DC v):=by
 unfold N7 DC whole;have hvM:=hA.hv;rcases AjB (hA.lk hF) with⟨f,ys,hp,hl⟩ | ⟨hp,sh',hl⟩
 ·rw[hl,Ck rfl,hp];obtain⟨h1,h2,h3⟩:=O7 hp;have hlen:v.length=f.flat.length+ys.length:=by rw[h1];simp
  cases ys with
  | cons c r=>
   rw[AO];simp only[Ap2] at hlen;simp;omega
  | nil=>
   simp only[Aqh,Nat.add_zero] at hlen;rw[AC (by simp[hlen])];have hc:∀c∈f.flat,c.fStr.length≤M∧BT .i64 c.fInt=true∧c.fN≤9223372036854775807:=λc hc=>hA.hc c (by rw[h1];simp[hc]);have hb:=OX hM h2 (by omega) hc;have hb0:=Lw h2;have e1:(f.sh 0 Uq).fOutside=f.flat.any MF:=by rw[X2];rfl
   have e2:(f.sh 0 Uq).fLong=f.flat.any KQ:=by rw[T7];rfl
   have e3:(f.sh 0 Uq).fDepth=f.dep:=by rw[QA f 0 Uq (by simp[Uq])];simp[Uq]
   have e4:(f.sh 0 Uq).fBytes=(f.txt true).length:=by
    rw[QB f false none 0 Uq h2 (by simp[Uq]) (by simp[Uq];omega),Le f false none true h2,TF h3];simp[Uq]
   simp only;rw[e1,e2,e3,e4,hlen];unfold Nq
   cases f.flat.any MF with
   | true=>rw[AO rfl];rfl
   | false=>
    rw[AC rfl];have a1:decide ((200:Int)<(f.flat.length:Int))=decide (200<f.flat.length):=by rw[ApM];simp;omega
    have a2:decide ((8:Int)<(f.dep:Int))=decide (8<f.dep):=by rw[ApM];simp;omega
    have a3:decide ((4000:Int)<((f.txt true).length:Int))=decide (4000<(f.txt true).length):=by rw[ApM];simp;omega
    rw[a1,a2,a3]
    cases(f.flat.any KQ||(decide (200<f.flat.length)||(decide (8<f.dep)||decide (4000<(f.txt true).length))))<;>rfl
 ·rw[hl,Ck rfl,hp];rfl
variable{p:Int}
theorem XV (h1:f.one=true)(hw:f.wf false none=true)(hd:v.drop p.toNat=f.flat++ys):Nf v p=p+f.flat.length:=by
 unfold Nf;rw[hd,AcQ h1 hw]
theorem Xs (hp:pl c=true)(hn:decide (0<c.fN)=false):(Fo.cell none c .nil).wf false none=true:=by simp[Fo.wf,DF,hp,hn]
theorem Xr {kids:Fo}(hp:pl c=true)(hn:0<c.fN)(hk:c.fN=kids.cnt)(hw:kids.wf (decide (c.fKind=6)) none=true):(Fo.node none c kids .nil).wf false none=true:=by simp[Fo.wf,DF,hp,hn,hk,hw];omega
variable{at_:Int}
section
variable {M : Nat} {v : List Ab}
theorem G8.next (hA:G8 M v)(hF:3*M+3<F)(h0:0≤p)(h1:p≤v.length):Gt F v p=some (Nf v p):=by
 have hM:=hA.hM;have hvM:=hA.hv;exact Zx (hA.rf (Apu M)) (λc hc=>(hA.hc c hc).2.2) (v.length-p.toNat) F p h0 h1 rfl (by omega)
theorem QF (h0:0≤p)(hpM:p≤1152921504606846976)(hd:v.drop p.toNat=c::r)(hp:pl c=true)(hn:decide (0<c.fN)=false):EC (F+2) v p=some 1:=by
 obtain⟨g1,g2,g3⟩:=D8 h0 hd;rw[EC];unfold NF;rw[AI h0 g3,EU h0 hd]
 cases hk:(!decide (c.fKind=5)&&!decide (c.fKind=6)) with
 | true=>rw[AO rfl]
 | false=>
  rw[AC rfl,A8 (by omega) (by omega),Ck (Ng (o:=.go 0) (by
   show E4 (F+1) v p _ 0 (p+1) 0=_;unfold E4;rw[EU h0 hd,AC hn]))]
  simp only[Cm,HW];rw[A8 (by omega) (by omega)];rfl
theorem W3 {rec:List Ab→Int→Option Int}{most L q:Int}{pc:Ab}(hpc:Af v i=pc)(hm:decide (pc.fKind=6)=m)(hx:x<pc.fN)(hx0:0≤x)(hpcN:pc.fN≤9223372036854775807)
  (ha0:0≤at_) (haM:at_≤1152921504606846976) (hp:p=bif m then at_+1 else at_) (hr:rec v p=some L) (hq:Gt F v p=some q):E4 F v i rec most at_ x=some (.next (max most L,q,x+1)):=by
 unfold E4;rw[hpc,AO (by simpa using hx),hm]
 cases m with
 | true=>
  simp only[Ap1] at hp;rw[AO rfl,A8 (by omega) (by omega),← hp,hr,Ck rfl]
  cases hl:decide (most<L) with
  | true=>rw[AO rfl,hq,Ck rfl,A8 (by omega) (by omega),Int.max_eq_right (by simp at hl;omega)]
  | false=>rw[AC rfl,hq,Ck rfl,A8 (by omega) (by omega),Int.max_eq_left (by simp at hl;omega)]
 | false=>
  simp only[Apv] at hp;rw[AC rfl,← hp,hr,Ck rfl]
  cases hl:decide (most<L) with
  | true=>rw[AO rfl,hq,Ck rfl,A8 (by omega) (by omega),Int.max_eq_right (by simp at hl;omega)]
  | false=>rw[AC rfl,hq,Ck rfl,A8 (by omega) (by omega),Int.max_eq_left (by simp at hl;omega)]
theorem QZ (h:DF m last key=true):((C1 key).length:Int)=bif m then 1 else 0:=by
  cases key with
  | none=>
            have:m=false:=by simpa[DF] using h
            subst this;rfl
  | some s=>simp only[DF,Aps] at h;rw[h.1.1];rfl
theorem Zz (hA:G8 M v):∀(g:Fo) (F L:Nat) (i at_ x most:Int) (m:Bool) (last:Option Ac) (ys:List Ab) (pc:Ab),Af v i=pc→decide (pc.fKind=6)=m→pc.fN≤9223372036854775807→g.wf m last=true→v.drop at_.toNat=g.flat++ys→0≤at_→at_≤v.length→pc.fN=x+g.cnt→0≤x→0≤most→most≤1152921504606846976→g.cnt<L→3*M+5+g.flat.length<F→
  ∃o,Cg (λσ=>E4 F v i (EC F) σ.1 σ.2.1 σ.2.2) L (most,at_,x)=some o∧Cm (λν=>HW ν) o=some (max most (g.dep:Int)+1):=by
 have hM:=hA.hM;have hvM:=hA.hv;have fin:∀(F L:Nat) (i at_ x most:Int) (pc:Ab),Af v i=pc→pc.fN≤x→0≤most→most≤1152921504606846976→0<L→∃o,Cg (λσ=>E4 F v i (EC F) σ.1 σ.2.1 σ.2.2) L (most,at_,x)=some o∧Cm (λν=>HW ν) o=some (most+1):=λF L i at_ x most pc hpc hx h0 hb hL=>by
  obtain⟨L,rfl⟩:∃K,L=K+1:=⟨L-1,by omega⟩
  refine⟨.go most,Ng (by show E4 F v i _ most at_ x=_;unfold E4;rw[hpc,AC (by simp;omega)]),?_⟩;simp only[Cm,HW];rw[A8 (by omega) (by omega)]
 have depM:∀g:Fo,g.dep≤g.flat.length:=by
  intro g
  induction g with
  | nil=>simp[Fo.dep]
  | cell k c r ih=>simp[Fo.dep,Fo.flat];omega
  | node k c kids r ih1 ih2=>simp[Fo.dep,Fo.flat];omega
 intro g
 induction g with
 | nil=>
  intro F L i at_ x most m last ys pc hpc hm hpN hw hd h0 h1 hN hx hmo hmM hL hF;obtain⟨o,h1,h2⟩:=fin F L i at_ x most pc hpc (by simp[Fo.cnt] at hN;omega) hmo hmM (by omega);exact⟨o,h1,by rw[h2];simp only[Fo.dep];congr 2<;>omega⟩
 | cell k c r ih=>
  intro F L i at_ x most m last ys pc hpc hm hpN hw hd h0 h1 hN hx hmo hmM hL hF;simp only[Fo.wf,Aps,Ap6] at hw;obtain⟨⟨⟨w1,w2⟩,w3⟩,w4⟩:=hw;simp only[Fo.flat,ApR,Aqn] at hd;simp only[Fo.cnt] at hN hL;simp only[Fo.flat,Apz,Ap2] at hF;obtain⟨L,rfl⟩:∃K,L=K+1:=⟨L-1,by omega⟩
  obtain⟨F,rfl⟩:∃K,F=K+2:=⟨F-2,by omega⟩
  have hd1:=DY h0 hd;have hkl:=QZ w1;obtain⟨g1,g2,g3⟩:=D8 (by omega) hd1;have hlen:at_+(C1 k).length=bif m then at_+1 else at_:=by rw[hkl];cases m<;>simp
  have hq:=hA.next (F:=F+2) (by omega) (p:=at_+(C1 k).length) (by omega) (by omega);rw[XV (f:=.cell none c .nil) (ys:=r.flat++ys) rfl (Xs w2 w3) hd1] at hq;have hb:=W3 (most:=most) (x:=x) hpc hm (by omega) hx hpN h0 (by omega) hlen (QF (F:=F) (by omega) (by omega) hd1 w2 w3) hq;have hdd:=depM r;obtain⟨o,ho1,ho2⟩:=ih (F+2) L i (at_+(C1 k).length+((Fo.cell none c .nil).flat.length:Int)) (x+1) (max most 1) m k ys pc hpc hm hpN w4 (by rw[show(Fo.cell none c .nil).flat.length=1 from rfl];exact g2) (by omega) (by rw[show(Fo.cell none c .nil).flat.length=1 from rfl];omega) (by omega) (by omega) (by omega) (by omega) (by omega) (by omega);refine⟨o,SZ hb ho1,?_⟩;rw[ho2,Fo.dep];congr 2<;>omega
 | node k c kids r ihk ih=>
  intro F L i at_ x most m last ys pc hpc hm hpN hw hd h0 h1 hN hx hmo hmM hL hF;simp only[Fo.wf,Aps,Apt] at hw;obtain⟨⟨⟨⟨⟨w1,w2⟩,w3⟩,w5⟩,w6⟩,w4⟩:=hw;simp only[Fo.flat,ApR,Aqn] at hd;simp only[Fo.cnt] at hN hL;simp only[Fo.flat,Apz,Ap2] at hF;obtain⟨L,rfl⟩:∃K,L=K+1:=⟨L-1,by omega⟩
  obtain⟨F,rfl⟩:∃K,F=K+1:=⟨F-1,by omega⟩
  have hd1:=DY h0 hd;have hkl:=QZ w1;obtain⟨g1,g2,g3⟩:=D8 (by omega) hd1;have hcN:=(hA.hc c (Ap4 g1)).2.2;have hlen:at_+(C1 k).length=bif m then at_+1 else at_:=by rw[hkl];cases m<;>simp
  have hq:=hA.next (F:=F+1) (by omega) (p:=at_+(C1 k).length) (by omega) (by omega);have hfl:(Fo.node none c kids .nil).flat=c::kids.flat:=by simp[Fo.flat,C1]
  rw[XV (f:=.node none c kids .nil) (ys:=r.flat++ys) rfl (Xr w2 w3 w5 w6) (by rw[hd1,hfl];simp)] at hq;have hdk:=depM kids;have hdd:=depM r;have hcf:=D6 kids;have hvl:(v.drop (at_+(C1 k).length+1).toNat).length=kids.flat.length+(r.flat.length+ys.length):=by rw[g2];simp
  rw[ApU] at hvl;have hrec:EC (F+1) v (at_+(C1 k).length)=some ((kids.dep:Int)+1):=by
   rw[EC];unfold NF;rw[AI (by omega) g3,EU (by omega) hd1];have he:=(MD w2 w3).1;rw[AC (by simp;omega),A8 (by omega) (by omega)];obtain⟨o,ho1,ho2⟩:=ihk F F (at_+(C1 k).length) (at_+(C1 k).length+1) 0 0 _ none (r.flat++ys) c (EU (by omega) hd1) rfl hcN w6 (by rw[g2]) (by omega) (by omega) (by omega) (ApA 0) (ApA 0) (by omega) (by omega) (by omega);rw[Ck ho1,ho2];congr 2<;>omega
  have hb:=W3 (most:=most) (x:=x) hpc hm (by omega) hx hpN h0 (by omega) hlen hrec hq;obtain⟨o,ho1,ho2⟩:=ih (F+1) L i (at_+(C1 k).length+((Fo.node none c kids .nil).flat.length:Int)) (x+1) (max most ((kids.dep:Int)+1)) m k ys pc hpc hm hpN w4 (by
   have:=DY (by omega) g2;rw[hfl,Ap2,show at_+(C1 k).length+((kids.flat.length+1:Nat):Int)=at_+(C1 k).length+1+kids.flat.length from by omega];exact this) (by omega) (by rw[hfl,Ap2];omega) (by omega) (by omega) (by omega) (by omega) (by omega) (by omega)
  refine⟨o,SZ hb ho1,?_⟩;rw[ho2,Fo.dep];congr 2<;>omega
theorem Abx (hA:G8 M v)(h0:0≤p)(h1:f.one=true)(hw:f.wf false none=true)(hd:v.drop p.toNat=f.flat++ys)(hF:3*M+6+f.flat.length<F):EC F v p=some (f.dep:Int):=by
 have hM:=hA.hM;have hvM:=hA.hv
 cases f with
 | nil=>cases h1
 | cell k c r=>
  cases k with
  | some s=>cases h1
  | none=>
   cases r with
   | nil=>
    simp only[Fo.wf,Aps,Ap6] at hw;obtain⟨F,rfl⟩:∃K,F=K+2:=⟨F-2,by omega⟩
    have hd':v.drop p.toNat=c::ys:=by simpa[Fo.flat,C1] using hd
    rw[QF h0 (by have:=(D8 h0 hd').2.2;omega) hd' hw.1.1.2 hw.1.2];rfl
   | cell _ _ _=>cases h1
   | node _ _ _ _=>cases h1
 | node k c kids r=>
  cases k with
  | some s=>cases h1
  | none=>
   cases r with
   | nil=>
    simp only[Fo.wf,Aps,Apt] at hw;obtain⟨⟨⟨⟨⟨w1,w2⟩,w3⟩,w5⟩,w6⟩,w4⟩:=hw;have hd':v.drop p.toNat=c::(kids.flat++ys):=by simpa[Fo.flat,C1] using hd
    obtain⟨g1,g2,g3⟩:=D8 h0 hd';have hcN:=(hA.hc c (Ap4 g1)).2.2;have hcf:=D6 kids;simp only[Fo.flat,C1,Aqm,ApZ,Ap2] at hF;obtain⟨F,rfl⟩:∃K,F=K+1:=⟨F-1,by omega⟩
    rw[EC];unfold NF;have hb:=(MD w2 w3).1;rw[AI h0 g3,EU h0 hd',AC (by simp;omega),A8 (by omega) (by omega)];obtain⟨o,ho1,ho2⟩:=Zz hA kids F F p (p+1) 0 0 _ none ys c (EU h0 hd') rfl hcN w6 g2 (by omega) (by omega) (by omega) (ApA 0) (ApA 0) (by omega) (by omega) (by omega);rw[Ck ho1,ho2];simp only[Fo.dep];congr 1<;>omega
   | cell _ _ _=>cases h1
   | node _ _ _ _=>cases h1
end
def Tu (c:UInt8):Ac:=bif (decide (c=34)||decide (c=92)) then[92,c] else[c]
theorem Ss {k:Nat}{c:UInt8}(h:s[k]? =some c):JH (s.take (k+1))=JH (s.take k)++Tu c:=by
 rw[List.take_add_one,h];simp[JH,List.flatMap_append,Tu]
theorem Aa9 (s:Ac):(JH s).length≤3*s.length:=by
 rw[Rs];have h1:s.count 34≤s.length:=List.count_le_length;have h2:s.count 92≤s.length:=List.count_le_length;omega
theorem Abj {c:UInt8}(h0:0≤x)(h:s[x.toNat]? =some c):List.take (Int.toNat (x+1)-Int.toNat x) (List.drop (Int.toNat x) s)=[c]:=by
 have hl:=(List.getElem?_eq_some_iff.1 h).1;have hc:=(List.getElem?_eq_some_iff.1 h).2;rw[show Int.toNat (x+1)-Int.toNat x=1 from by omega,List.drop_eq_getElem_cons hl,hc];rfl
theorem AkM {c:UInt8}(h:s[x.toNat]? =some c):decide (C0 s x=34)=decide (c=34):=by
 rw[TO h,ApM,decide_eq_true_iff,decide_eq_true_iff,← UInt8.toNat_inj];show _↔c.toNat=34;omega
theorem AkL {c:UInt8}(h:s[x.toNat]? =some c):decide (C0 s x=92)=decide (c=92):=by
 rw[TO h,ApM,decide_eq_true_iff,decide_eq_true_iff,← UInt8.toNat_inj];show _↔c.toNat=92;omega
variable{out:Ac}
theorem XF {c:UInt8}(h0:0≤x)(hx:x<(s.length:Int))(hs:s.length≤1152921504606846976)(ho:out.length≤3*s.length+1)(hc:s[x.toNat]? =some c):EZ s out x=some (.next (out++Tu c,x+1)):=by
 unfold EZ Tu;rw[AO (Apr hx),AI h0 hx,AkM hc,AkL hc,Abj h0 hc];have l1:(([92]:Ac).length:Int)=1:=rfl;have l2:(([c]:Ac).length:Int)=1:=rfl
 cases hq:(decide (c=34)||decide (c=92)) with
 | true=>
  have l3:((out++([92]:Ac)).length:Int)=out.length+1:=by rw[Apz,ApC,Int.natCast_add];rfl
  rw[AO rfl,l1,l2,l3,A8 (by omega) (by omega),A8 (by omega) (by omega),CU (by omega) (by omega),CU (by omega) (by omega),A8 (by omega) (by omega),ApR];rfl
 | false=>
  rw[AC rfl,l2,A8 (by omega) (by omega),CU (by omega) (by omega),CU (by omega) (by omega),A8 (by omega) (by omega)];rfl
theorem Jw {R V:Type}(K:V→Option R)(v:V):Cm K (.go v)=K v:=rfl
theorem ZE {R V:Type}(K:V→Option R)(r:R):Cm K (.ret r)=some r:=rfl
theorem Zw (hx:¬ x<(s.length:Int)):EZ s out x=some (.out (.go out)):=by
 unfold EZ;rw[AC (Apq hx)]
theorem Ae3 (h:out.length≤4611686018427387904):Hb out=some (out++[34]):=by
 unfold Hb;have l1:(([34]:Ac).length:Int)=1:=rfl;rw[l1,A8 (by omega) (by omega)]
theorem PT (hF:s.length<F)(hs:s.length≤1152921504606846976):Oz F s=some (J9 s):=by
 obtain⟨o,h1,h2⟩:=H3 (body:=λσ=>EZ s σ.1 σ.2) (λσ=>0≤σ.2∧σ.2≤(s.length:Int)∧σ.1=34::JH (s.take σ.2.toNat)) (λσ=>s.length-σ.2.toNat)
  (λo=>Cm (λν=>Hb ν) o=some (J9 s)) (λσ ⟨h0,hl,ha⟩=>by
   obtain⟨out,x⟩:=σ;simp only at h0 hl ha;show(∃s',EZ s out x=_∧_)∨∃o,EZ s out x=_∧_;have hb:=Aa9 (s.take x.toNat);have hb2:(s.take x.toNat).length≤s.length:=by rw[Aqq];omega
   have hol:out.length≤3*s.length+1:=by rw[ha,Ap2];omega
   by_cases hx:x<(s.length:Int)
   ·obtain⟨c,hc⟩:∃c,s[x.toNat]? =some c:=⟨s[x.toNat]'(by omega),Apw (by omega)⟩
    have a1:0≤x+1:=by omega
    have a2:x+1≤s.length:=by omega
    have a3:s.length-(x+1).toNat<s.length-x.toNat:=by omega
    have a4:out++Tu c=34::JH (s.take (x+1).toNat):=by rw[show(x+1).toNat=x.toNat+1 from by omega,Ss hc,ha];rfl
    exact .inl ⟨(out++Tu c,x+1),XF h0 hx hs hol hc,⟨a1,a2,a4⟩,a3⟩
   ·have e:x.toNat=s.length:=by omega
    have hk:Hb out=some (out++[34]):=Ae3 (by omega);have hf:out++[34]=J9 s:=by rw[ha,e,Aqi];rfl
    exact .inr ⟨.go out,Zw hx,(Jw (λν=>Hb ν) out).trans (hk.trans (congrArg some hf))⟩) F ([34],0) ⟨ApA 0,by show(0:Int)≤s.length;omega,by show([34]:Ac)=34::JH (s.take 0);simp[JH]⟩ (by show s.length-0<F;omega)
 unfold Oz;rw[Ck h1,h2]
section
variable {M : Nat} {v : List Ab}
theorem Anb (a b c d e:Ac):(((a++b)++c)++d)++e=a++(b++(c++d)++e):=by simp
theorem Anc (a b c d:Ac):((a++b)++c)++d=a++([]++(b++c)++d):=by simp
theorem Ane (a b c:Ac):(a++b)++c=a++(b++[]++c):=by simp
theorem Anf (a b:Ac):a++b=a++([]++[]++b):=by simp
theorem AjE (a:Ac)(c:UInt8):((a++[c]).length:Int)=a.length+1:=by rw[Apz,ApC,Int.natCast_add];rfl
theorem len2 (a b:Ac):((a++b).length:Int)=a.length+b.length:=by rw[Apz,Int.natCast_add]
theorem W1 {rec:List Ab→Int→Option Ac}{tx:Ac}{q:Int}{pc:Ab}(hpc:Af v i=pc)(hm:decide (pc.fKind=6)=m)(hx:x<pc.fN)(hx0:0≤x)(hpcN:pc.fN≤9223372036854775807)
  (ha0:0≤at_) (haM:at_<v.length) (hvM:(v.length:Int)≤1152921504606846976) (hk:DF m last key=true) (hkey:∀s,key=some s→(Af v at_).fStr=s∧s.length<F∧s.length≤1152921504606846976) (hp:p=bif m then at_+1 else at_) (hr:rec v p=some tx) (hq:Gt F v p=some q)
  (hlen:((out++(GV (decide (x=0))++Np key++tx)).length:Int)≤4611686018427387904):HD F v i rec out at_ x=some (.next (out++(GV (decide (x=0))++Np key++tx),q,x+1)):=by
 have hd:(([44]:Ac).length:Int)=1:=rfl;have he:(([58]:Ac).length:Int)=1:=rfl;have hx1:AM (BT .i64 (x+1)) (some (Stp.next (out++(GV (decide (x=0))++Np key++tx),q,x+1)):Option (Stp (Ac×Int×Int) (Out Ac Ac)))=some (Stp.next (out++(GV (decide (x=0))++Np key++tx),q,x+1)):=A8 (by omega) (by omega);unfold HD;rw[hpc,AO (Apr hx),hm]
 cases hb:decide (x=0) with
 | true=>
  rw[hb] at hx1 hlen;simp only[Apt] at hb;rw[AC (Apq (by omega))]
  cases m with
  | true=>
   cases key with
   | none=>simp[DF] at hk
   | some s=>
    obtain⟨e1,e2,e3⟩:=hkey s rfl;simp only[Ap1] at hp;have e:((out++J9 s)++[58])++tx=out++(GV true++Np (some s)++tx):=Anc _ _ _ _;rw[← e] at hx1 hlen ⊢;have h1:=len2 ((out++J9 s)++[58]) tx;have h2:=AjE (out++J9 s) 58;have h3:=len2 out (J9 s);rw[AO rfl,AI ha0 haM,e1,PT e2 e3,Ck rfl,A8 (by omega) (by omega),he,A8 (by omega) (by omega),A8 (by omega) (by omega),← hp,hr,Ck rfl,A8 (by omega) (by omega),hq,Ck rfl,hx1]
  | false=>
   cases key with
   | some s=>simp[DF] at hk
   | none=>
    simp only[Apv] at hp;have e:out++tx=out++(GV true++Np none++tx):=Anf _ _;rw[← e] at hx1 hlen ⊢;have h1:=len2 out tx;rw[AC rfl,← hp,hr,Ck rfl,A8 (by omega) (by omega),hq,Ck rfl,hx1]
 | false=>
  rw[hb] at hx1 hlen;simp only[Apx] at hb;rw[AO (Apr (by omega))]
  cases m with
  | true=>
   cases key with
   | none=>simp[DF] at hk
   | some s=>
    obtain⟨e1,e2,e3⟩:=hkey s rfl;simp only[Ap1] at hp;have e:(((out++[44])++J9 s)++[58])++tx=out++(GV false++Np (some s)++tx):=Anb _ _ _ _ _;rw[← e] at hx1 hlen ⊢;have h1:=len2 (((out++[44])++J9 s)++[58]) tx;have h2:=AjE ((out++[44])++J9 s) 58;have h3:=len2 (out++[44]) (J9 s);have h4:=AjE out 44;rw[hd,A8 (by omega) (by omega),AO rfl,AI ha0 haM,e1,PT e2 e3,Ck rfl,A8 (by omega) (by omega),he,A8 (by omega) (by omega),A8 (by omega) (by omega),← hp,hr,Ck rfl,A8 (by omega) (by omega),hq,Ck rfl,hx1]
  | false=>
   cases key with
   | some s=>simp[DF] at hk
   | none=>
    simp only[Apv] at hp;have e:(out++[44])++tx=out++(GV false++Np none++tx):=Ane _ _ _;rw[← e] at hx1 hlen ⊢;have h1:=len2 (out++[44]) tx;have h4:=AjE out 44;rw[hd,A8 (by omega) (by omega),AC rfl,← hp,hr,Ck rfl,A8 (by omega) (by omega),hq,Ck rfl,hx1]
theorem AcK {pc:Ab}(hpc:Af v i=pc)(h:out.length≤4611686018427387904):LK v i out=some (V9 pc out):=by
 unfold LK V9;have l1:(([123]:Ac).length:Int)=1:=rfl;have l2:(([91]:Ac).length:Int)=1:=rfl;have l3:(([125]:Ac).length:Int)=1:=rfl;have l4:(([93]:Ac).length:Int)=1:=rfl;have h1:=len2 [123] out;have h2:=len2 [91] out;rw[hpc]
 cases hk:decide (pc.fKind=6) with
 | true=>rw[AO rfl,A8 (by omega) (by omega),A8 (by omega) (by omega)];rfl
 | false=>rw[AC rfl,A8 (by omega) (by omega),A8 (by omega) (by omega)];rfl
theorem Uv (h0:0≤p)(hpM:p≤1152921504606846976)(hd:v.drop p.toNat=c::r)(hp:pl c=true)(hn:decide (0<c.fN)=false)(hs:c.fStr.length<F+1)(hs2:c.fStr.length≤1152921504606846976)(hi:BT .i64 c.fInt=true):J5 (F+2) v p=some (Ip c):=by
 obtain⟨g1,g2,g3⟩:=D8 h0 hd;rw[J5];unfold Uu Ip;rw[AI h0 g3,EU h0 hd]
 cases k1:decide (c.fKind=1) with
 | true=>rw[AO rfl];rfl
 | false=>
 rw[AC rfl]
 cases k2:decide (c.fKind=2) with
 | true=>rw[AO rfl];cases decide (c.fInt=1)<;>rfl
 | false=>
 rw[AC rfl]
 cases k3:decide (c.fKind=3) with
 | true=>rw[AO rfl,BN hi];rfl
 | false=>
 rw[AC rfl]
 cases k4:decide (c.fKind=4) with
 | true=>rw[AO rfl,PT hs hs2,Ck rfl];rfl
 | false=>
 have hgo:HD (F+1) v p (J5 (F+1)) [] (p+1) 0=some (.out (.go [])):=by
  unfold HD;rw[EU h0 hd,AC hn]
 rw[AC rfl,A8 (by omega) (by omega),Ck (Ng (o:=.go []) hgo),Jw,AcK (EU h0 hd) (by simp)];simp only[Apv,V9]
 cases decide (c.fKind=6)<;>rfl
end
section
variable {M : Nat} {v : List Ab}
theorem DN [Inhabited α](a:α):ov (some a)=a:=rfl
theorem Ah4 (h0:0≤at_)(hA:G8 M v)(hF:M<F)(hd:v.drop at_.toNat=C1 k++r):∀s,k=some s→(Af v at_).fStr=s∧s.length<F∧s.length≤1152921504606846976:=λs e=>by
 subst e;have hd':v.drop at_.toNat=⟨4,0,s,0⟩::r:=by simpa[C1] using hd
 have h1:=EU h0 hd';have h2:=(hA.hc _ (Ap4 (D8 h0 hd').1)).1;have hM:=hA.hM;simp only at h2;exact⟨by rw[h1],by omega,by omega⟩
theorem Zu (hA:G8 M v):∀(g:Fo) (F L:Nat) (i at_ x:Int) (out:Ac) (m:Bool) (last:Option Ac) (ys:List Ab) (pc:Ab),Af v i=pc→decide (pc.fKind=6)=m→pc.fN≤9223372036854775807→g.wf m last=true→v.drop at_.toNat=g.flat++ys→0≤at_→at_≤v.length→pc.fN=x+g.cnt→0≤x→(out++g.txt (decide (x=0))).length≤4611686018427387904→g.cnt<L→3*M+5+g.flat.length<F→
  ∃o,Cg (λσ=>HD F v i (J5 F) σ.1 σ.2.1 σ.2.2) L (out,at_,x)=some o∧Cm (λν=>LK v i ν) o=some (V9 pc (out++g.txt (decide (x=0)))):=by
 have hM:=hA.hM;have hvM:=hA.hv;intro g
 induction g with
 | nil=>
  intro F L i at_ x out m last ys pc hpc hm hpN hw hd h0 h1 hN hx hlen hL hF;obtain⟨L,rfl⟩:∃K,L=K+1:=⟨L-1,by omega⟩
  have hgo:HD F v i (J5 F) out at_ x=some (.out (.go out)):=by
   simp only[Fo.cnt] at hN;unfold HD;rw[hpc,AC (Apq (by omega))]
  refine⟨.go out,Ng hgo,?_⟩;simp only[Fo.txt,ApZ] at hlen ⊢;rw[Jw,AcK hpc hlen]
 | cell k c r ih=>
  intro F L i at_ x out m last ys pc hpc hm hpN hw hd h0 h1 hN hx hlen hL hF;simp only[Fo.wf,Aps,Ap6] at hw;obtain⟨⟨⟨w1,w2⟩,w3⟩,w4⟩:=hw;simp only[Fo.flat,ApR,Aqn] at hd;simp only[Fo.cnt] at hN hL;simp only[Fo.flat,Apz,Ap2] at hF;obtain⟨L,rfl⟩:∃K,L=K+1:=⟨L-1,by omega⟩
  obtain⟨F,rfl⟩:∃K,F=K+2:=⟨F-2,by omega⟩
  have hd1:=DY h0 hd;have hkl:=QZ w1;obtain⟨g1,g2,g3⟩:=D8 (by omega) hd1;have hcM:=hA.hc c (Ap4 g1);have hp:at_+(C1 k).length=bif m then at_+1 else at_:=by rw[hkl];cases m<;>simp
  have hq:=hA.next (F:=F+2) (by omega) (p:=at_+(C1 k).length) (by omega) (by omega);rw[XV (f:=.cell none c .nil) (ys:=r.flat++ys) rfl (Xs w2 w3) hd1] at hq;have e:out++(Fo.cell k c r).txt (decide (x=0))=(out++(GV (decide (x=0))++Np k++Ip c))++r.txt (decide (x+1=0)):=by
   rw[Apq (show ¬ x+1=0 by omega)];simp[Fo.txt]
  rw[e] at hlen ⊢;have hl2:((out++(GV (decide (x=0))++Np k++Ip c)).length:Int)≤4611686018427387904:=by rw[Apz] at hlen;omega
  have hat:at_<v.length:=by omega
  have hb:=W1 hpc hm (by omega) hx hpN h0 hat (by omega) w1 (Ah4 h0 hA (F:=F+2) (by omega) hd) hp (Uv (F:=F) (by omega) (by omega) hd1 w2 w3 (by omega) (by omega) hcM.2.1) hq hl2;obtain⟨o,ho1,ho2⟩:=ih (F+2) L i (at_+(C1 k).length+((Fo.cell none c .nil).flat.length:Int)) (x+1) (out++(GV (decide (x=0))++Np k++Ip c)) m k ys pc hpc hm hpN w4 (by rw[show(Fo.cell none c .nil).flat.length=1 from rfl];exact g2) (by omega) (by rw[show(Fo.cell none c .nil).flat.length=1 from rfl];omega) (by omega) (by omega) hlen (by omega) (by omega);exact⟨o,SZ hb ho1,ho2⟩
 | node k c kids r ihk ih=>
  intro F L i at_ x out m last ys pc hpc hm hpN hw hd h0 h1 hN hx hlen hL hF;simp only[Fo.wf,Aps,Apt] at hw;obtain⟨⟨⟨⟨⟨w1,w2⟩,w3⟩,w5⟩,w6⟩,w4⟩:=hw;simp only[Fo.flat,ApR,Aqn] at hd;simp only[Fo.cnt] at hN hL;simp only[Fo.flat,Apz,Ap2] at hF;obtain⟨L,rfl⟩:∃K,L=K+1:=⟨L-1,by omega⟩
  obtain⟨F,rfl⟩:∃K,F=K+1:=⟨F-1,by omega⟩
  have hd1:=DY h0 hd;have hkl:=QZ w1;obtain⟨g1,g2,g3⟩:=D8 (by omega) hd1;have hcN:=(hA.hc c (Ap4 g1)).2.2;have hp:at_+(C1 k).length=bif m then at_+1 else at_:=by rw[hkl];cases m<;>simp
  have hq:=hA.next (F:=F+1) (by omega) (p:=at_+(C1 k).length) (by omega) (by omega);have hfl:(Fo.node none c kids .nil).flat=c::kids.flat:=by simp[Fo.flat,C1]
  rw[XV (f:=.node none c kids .nil) (ys:=r.flat++ys) rfl (Xr w2 w3 w5 w6) (by rw[hd1,hfl];simp)] at hq;have hcf:=D6 kids;have hvl:(v.drop (at_+(C1 k).length+1).toNat).length=kids.flat.length+(r.flat.length+ys.length):=by rw[g2];simp
  rw[ApU] at hvl;have e:out++(Fo.node k c kids r).txt (decide (x=0))=(out++(GV (decide (x=0))++Np k++V9 c (kids.txt true)))++r.txt (decide (x+1=0)):=by
   rw[Apq (show ¬ x+1=0 by omega)];simp[Fo.txt]
  rw[e] at hlen ⊢;have hl2:((out++(GV (decide (x=0))++Np k++V9 c (kids.txt true))).length:Int)≤4611686018427387904:=by rw[Apz] at hlen;omega
  have hl3:(kids.txt true).length≤4611686018427387904:=by
   have:=MU c (kids.txt true);rw[Apz,Apz] at hl2;omega
  have hat:at_<v.length:=by omega
  have hrec:J5 (F+1) v (at_+(C1 k).length)=some (V9 c (kids.txt true)):=by
   rw[J5];unfold Uu;have he:=(MD w2 w3).1;rw[AI (by omega) g3,EU (by omega) hd1,AC (Apq (by omega)),AC (Apq (by omega)),AC (Apq (by omega)),AC (Apq (by omega)),A8 (by omega) (by omega)];obtain⟨o,ho1,ho2⟩:=ihk F F (at_+(C1 k).length) (at_+(C1 k).length+1) 0 [] _ none (r.flat++ys) c (EU (by omega) hd1) rfl hcN w6 (by rw[g2]) (by omega) (by omega) (by omega) (ApA 0) hl3 (by omega) (by omega);rw[Ck ho1,ho2];rfl
  have hb:=W1 hpc hm (by omega) hx hpN h0 hat (by omega) w1 (Ah4 h0 hA (F:=F+1) (by omega) hd) hp hrec hq hl2;obtain⟨o,ho1,ho2⟩:=ih (F+1) L i (at_+(C1 k).length+((Fo.node none c kids .nil).flat.length:Int)) (x+1) (out++(GV (decide (x=0))++Np k++V9 c (kids.txt true))) m k ys pc hpc hm hpN w4 (by
   have:=DY (by omega) g2;rw[hfl,Ap2,show at_+(C1 k).length+((kids.flat.length+1:Nat):Int)=at_+(C1 k).length+1+kids.flat.length from by omega];exact this) (by omega) (by rw[hfl,Ap2];omega) (by omega) (by omega) hlen (by omega) (by omega)
  exact⟨o,SZ hb ho1,ho2⟩
theorem Zv (hA:G8 M v)(h0:0≤p)(h1:f.one=true)(hw:f.wf false none=true)(hd:v.drop p.toNat=f.flat++ys)(hF:3*M+6+f.flat.length<F)(hlen:(f.txt true).length≤4611686018427387904):J5 F v p=some (f.txt true):=by
 have hM:=hA.hM;have hvM:=hA.hv
 cases f with
 | nil=>cases h1
 | cell k c r=>
  cases k with
  | some s=>cases h1
  | none=>
   cases r with
   | nil=>
    simp only[Fo.wf,Aps,Ap6] at hw;obtain⟨F,rfl⟩:∃K,F=K+2:=⟨F-2,by omega⟩
    have hd':v.drop p.toNat=c::ys:=by simpa[Fo.flat,C1] using hd
    have hcM:=hA.hc c (Ap4 (D8 h0 hd').1);rw[Uv h0 (by have:=(D8 h0 hd').2.2;omega) hd' hw.1.1.2 hw.1.2 (by omega) (by omega) hcM.2.1];simp[Fo.txt,GV,Np]
   | cell _ _ _=>cases h1
   | node _ _ _ _=>cases h1
 | node k c kids r=>
  cases k with
  | some s=>cases h1
  | none=>
   cases r with
   | nil=>
    simp only[Fo.wf,Aps,Apt] at hw;obtain⟨⟨⟨⟨⟨w1,w2⟩,w3⟩,w5⟩,w6⟩,w4⟩:=hw;have hd':v.drop p.toNat=c::(kids.flat++ys):=by simpa[Fo.flat,C1] using hd
    obtain⟨g1,g2,g3⟩:=D8 h0 hd';have hcN:=(hA.hc c (Ap4 g1)).2.2;have hcf:=D6 kids;simp only[Fo.flat,C1,Aqm,ApZ,Ap2] at hF;have et:(Fo.node none c kids .nil).txt true=V9 c (kids.txt true):=by simp[Fo.txt,GV,Np]
    rw[et] at hlen ⊢;have hbl:=MU c (kids.txt true);obtain⟨F,rfl⟩:∃K,F=K+1:=⟨F-1,by omega⟩
    rw[J5];unfold Uu;have hb:=(MD w2 w3).1;rw[AI h0 g3,EU h0 hd',AC (Apq (by omega)),AC (Apq (by omega)),AC (Apq (by omega)),AC (Apq (by omega)),A8 (by omega) (by omega)];obtain⟨o,ho1,ho2⟩:=Zu hA kids F F p (p+1) 0 [] _ none ys c (EU h0 hd') rfl hcN w6 g2 (by omega) (by omega) (by omega) (ApA 0) (by show(kids.txt true).length≤_;omega) (by omega) (by omega);rw[Ck ho1,ho2];rfl
   | cell _ _ _=>cases h1
   | node _ _ _ _=>cases h1
theorem AeC {K:Option Int}(hF:v.length<F)(hv:v.length≤1152921504606846976):Ba (Cg (λσ=>Ij v σ) F 0) (Cm λ_=>K)=bif v.any MF then some 2 else K:=by
 obtain⟨o,h1,h2⟩:=H3 (body:=λσ=>Ij v σ) (λx=>0≤x∧x≤(v.length:Int)∧(v.take x.toNat).any MF=false) (λx=>v.length-x.toNat)
  (λo=>Cm (λ_=>K) o=bif v.any MF then some 2 else K) (λx ⟨h0,hl,ha⟩=>by
   by_cases hx:x<(v.length:Int)
   ·obtain⟨c,hc⟩:∃c,v[x.toNat]? =some c:=⟨v[x.toNat]'(by omega),Apw (by omega)⟩
    have hat:Af v x=c:=by simp[Af,hc]
    have ho:(decide (c.fKind=3)&&(decide (c.fInt<(-1000000000000))||decide (1000000000000<c.fInt)))=MF c:=by
     unfold MF
     cases decide (c.fKind=3) with
     | false=>rfl
     | true=>
      rw[Ap7,Ap7,ApM];simp only[ApD,Apt,Ap6,ApN,Apx];omega
    have hb:Ij v x=Bj (MF c) (some (.out (.ret 2))) (some (.next (x+1))):=by
     unfold Ij;rw[AO (Apr hx),AI h0 hx,hat,ho,A8 (by omega) (by omega)]
    cases hq:MF c with
    | true=>
     refine .inr ⟨.ret 2,hb.trans (AO hq),?_⟩;have:v.any MF=true:=List.any_eq_true.2 ⟨c,Ap4 hc,hq⟩;rw[ZE,this];rfl
    | false=>
     have a3:(v.take (x+1).toNat).any MF=false:=by
      rw[show(x+1).toNat=x.toNat+1 from by omega,List.take_add_one,hc,List.any_append,ha];simp[hq]
     exact .inl ⟨x+1,hb.trans (AC hq),⟨by omega,by omega,a3⟩,by omega⟩
   ·refine .inr ⟨.go (),by unfold Ij;rw[AC (Apq hx)],?_⟩;rw[show x.toNat=v.length from by omega,Aqi] at ha;rw[Jw,ha];rfl) F 0 ⟨ApA 0,by omega,by simp⟩ (by simpa using hF)
 rw[Ck h1,h2]
theorem AeB {K:Option Int}(hF:v.length<F)(hv:v.length≤1152921504606846976):Ba (Cg (λσ=>Ii v σ) F 0) (Cm λ_=>K)=bif v.any KQ then some 3 else K:=by
 obtain⟨o,h1,h2⟩:=H3 (body:=λσ=>Ii v σ) (λx=>0≤x∧x≤(v.length:Int)∧(v.take x.toNat).any KQ=false) (λx=>v.length-x.toNat)
  (λo=>Cm (λ_=>K) o=bif v.any KQ then some 3 else K) (λx ⟨h0,hl,ha⟩=>by
   by_cases hx:x<(v.length:Int)
   ·obtain⟨c,hc⟩:∃c,v[x.toNat]? =some c:=⟨v[x.toNat]'(by omega),Apw (by omega)⟩
    have hat:Af v x=c:=by simp[Af,hc]
    have hb:Ii v x=Bj (KQ c) (some (.out (.ret 3))) (some (.next (x+1))):=by
     unfold Ii;rw[AO (Apr hx),AI h0 hx,hat,A8 (by omega) (by omega)];rfl
    cases hq:KQ c with
    | true=>
     refine .inr ⟨.ret 3,hb.trans (AO hq),?_⟩;have:v.any KQ=true:=List.any_eq_true.2 ⟨c,Ap4 hc,hq⟩;rw[ZE,this];rfl
    | false=>
     have a3:(v.take (x+1).toNat).any KQ=false:=by
      rw[show(x+1).toNat=x.toNat+1 from by omega,List.take_add_one,hc,List.any_append,ha];simp[hq]
     exact .inl ⟨x+1,hb.trans (AC hq),⟨by omega,by omega,a3⟩,by omega⟩
   ·refine .inr ⟨.go (),by unfold Ii;rw[AC (Apq hx)],?_⟩;rw[show x.toNat=v.length from by omega,Aqi] at ha;rw[Jw,ha];rfl) F 0 ⟨ApA 0,by omega,by simp⟩ (by simpa using hF)
 rw[Ck h1,h2]
theorem Yu:decide (Nf v 0=v.length)=(whole v).isSome:=by
 unfold Nf whole;rw[show v.drop (0:Int).toNat=v from rfl]
 cases hp:LS v with
 | none=>simp
 | some q=>
  obtain⟨f,ys⟩:=q;have h1:=(O7 hp).1;have hl:v.length=f.flat.length+ys.length:=by rw[h1];simp
  cases ys with
  | nil=>simp at hl ⊢;omega
  | cons c r=>simp at hl ⊢;omega
theorem W5 (hA:G8 M v)(hM:M≤2000000)(hF:4*M+6<F):I1 F v=some (DC v):=by
 have hvM:=hA.hv;unfold I1;rw[Abz (hA.rf (Apu M)) (λc hc=>(hA.hc c hc).2.2) (by omega),Ck rfl,Yu];unfold DC
 cases hwh:whole v with
 | none=>rfl
 | some f=>
  obtain⟨h1,h2,h3⟩:=KB hwh;rw[AC (p:=!(some f).isSome) rfl]
  change _=some (Nq f)
  have hl:v.length=f.flat.length:=by rw[h1]
  have hc:∀c∈f.flat,c.fStr.length≤M∧BT .i64 c.fInt=true∧c.fN≤9223372036854775807:=λc hc=>hA.hc c (by rw[h1];exact hc);have hb:=OX hM h2 (by omega) hc;have htl:((f.txt true).length:Int)=f.byt:=by rw[Le f false none true h2,TF h3];simp
  have hd0:v.drop (0:Int).toNat=f.flat++[]:=by rw[ApZ];exact h1
  rw[AeC (by omega) (by omega)];unfold Nq O6;rw[Abx hA (ApA 0) h3 h2 hd0 (by omega),BN (by simp[imp]),AeB (by omega) (by omega)];unfold O5;rw[Zv hA (ApA 0) h3 h2 hd0 (by omega) (by omega),Ck rfl];rw[DN,hl,← h1];have a1:decide ((200:Int)<(v.length:Int))=decide (200<v.length):=by rw[ApM];simp;omega
  have a2:decide ((8:Int)<(f.dep:Int))=decide (8<f.dep):=by rw[ApM];simp;omega
  have a3:decide ((4000:Int)<((f.txt true).length:Int))=decide (4000<(f.txt true).length):=by rw[ApM];simp;omega
  rw[a1,a2,a3]
  cases v.any MF<;>cases v.any KQ<;>cases decide (200<v.length)<;>cases decide (8<f.dep)<;>cases decide (4000<(f.txt true).length)<;>rfl
end
theorem Gi {n:Nat}{x:Option α}(h:n≤140737488355328):AM (Dl 1 n) x=x:=BN (Apr (by omega))
theorem JY {β:Type}(a:α)(k:α→Option β):Nu a k=k a:=rfl
theorem JU {n:Int}{x:Option α}(h:0≤n)(h':n≤255):AM (BT .u8 n) x=x:=BN (Adq h h')
theorem Aiy {c:UInt8}(h:s[x.toNat]? =some c):UInt8.ofNat (Int.toNat (C0 s x))=c∧0≤C0 s x∧C0 s x≤255:=by
 have:=UInt8.toNat_lt c;rw[TO h];refine⟨?_,by omega,by omega⟩;rw[← UInt8.toNat_inj];simp
variable{l:Ac}
theorem YX {c:UInt8}(h0:0≤x)(hx:x<(s.length:Int))(hs:s.length≤1152921504606846976)(hl:l.length+2≤140737488355328)(hc:s[x.toNat]? =some c):GA s x l=some (.next (x+1,l++Tu c)):=by
 obtain⟨b1,b2,b3⟩:=Aiy hc;unfold GA Tu;rw[AO (Apr hx),AI h0 hx,AkM hc,AkL hc];have l1:(l++[UInt8.ofNat (Int.toNat 92)]).length=l.length+1:=by simp
 cases hq:(decide (c=34)||decide (c=92)) with
 | true=>
  rw[AO rfl,Gi (by omega),JU (by decide) (by decide),JY,l1,Gi (by omega),JU b2 b3,JY,b1,A8 (by omega) (by omega),ApR];rfl
 | false=>
  rw[AC rfl,Gi (by omega),JU b2 b3,JY,b1,A8 (by omega) (by omega)];rfl
theorem Agm (h:l.length+1≤140737488355328):IO l=some (l++[34]):=by
 unfold IO;rw[Gi h,JY];rfl
theorem R4 (hF:s.length<F)(hl:(l++J9 s).length≤140737488355328):R5 F l s=some (l++J9 s):=by
 have hq:(J9 s).length=(JH s).length+2:=by simp[J9]
 rw[Apz,hq] at hl;have hesc:∀k,(JH (s.take k)).length≤(JH s).length:=λk=>by
  have:JH s=JH (s.take k)++JH (s.drop k):=by rw[JH,JH,JH,← List.flatMap_append,Aqk]
  rw[this,Apz];omega
 have hsl:s.length≤(JH s).length:=by rw[Rs];omega
 obtain⟨o,h1,h2⟩:=H3 (body:=λσ=>GA s σ.1 σ.2) (λσ=>0≤σ.1∧σ.1≤(s.length:Int)∧σ.2=l++[34]++JH (s.take σ.1.toNat)) (λσ=>s.length-σ.1.toNat)
  (λo=>Cm (λν=>IO ν) o=some (l++J9 s)) (λσ ⟨h0,hlx,ha⟩=>by
   obtain⟨x,out⟩:=σ;simp only at h0 hlx ha;show(∃s',GA s x out=_∧_)∨∃o,GA s x out=_∧_;have hol:out.length=l.length+1+(JH (s.take x.toNat)).length:=by rw[ha];simp;omega
   have he:=hesc x.toNat
   by_cases hx:x<(s.length:Int)
   ·obtain⟨c,hc⟩:∃c,s[x.toNat]? =some c:=⟨s[x.toNat]'(by omega),Apw (by omega)⟩
    have he2:=hesc (x.toNat+1);rw[Ss hc,Apz] at he2;have hc1:1≤(Tu c).length:=by unfold Tu;cases(decide (c=34)||decide (c=92))<;>simp
    have a1:0≤x+1:=by omega
    have a2:x+1≤s.length:=by omega
    have a3:s.length-(x+1).toNat<s.length-x.toNat:=by omega
    have a4:out++Tu c=l++[34]++JH (s.take (x+1).toNat):=by rw[show(x+1).toNat=x.toNat+1 from by omega,Ss hc,ha,ApR]
    exact .inl ⟨(x+1,out++Tu c),YX h0 hx (by omega) (by omega) hc,⟨a1,a2,a4⟩,a3⟩
   ·have e:x.toNat=s.length:=by omega
    rw[e,Aqi] at ha;have hf:out++[34]=l++J9 s:=by rw[ha];simp[J9]
    have hgo:GA s x out=some (.out (.go out)):=by unfold GA;rw[AC (Apq hx)]
    exact .inr ⟨.go out,hgo,(Jw (λν=>IO ν) out).trans ((Agm (by omega)).trans (congrArg some hf))⟩) F (0,l++[34]) ⟨ApA 0,by show(0:Int)≤s.length;omega,by show l++[34]=l++[34]++JH (s.take 0);simp[JH]⟩ (by show s.length-0<F;omega)
 unfold R5;rw[Gi (by omega),JU (by decide) (by decide),JY];have hb:[UInt8.ofNat (Int.toNat 34)]=([34]:Ac):=rfl;rw[hb,Ck h1,h2]
variable{first:Bool}
theorem Ub {key:Ac}{x:List Ab}{tx:Ac}(hk:DF (decide (c.fKind=6)) last k=true)(hkey:∀s,k=some s→key=s∧s.length<F)
  (hlen:(l++(GV first++Np k++tx)).length≤140737488355328) (hw:∀l':Ac,(l'++tx).length≤140737488355328→IN F l' x=some (l'++tx)):HQ (F+1) key x first l c=some (true,false,l++(GV first++Np k++tx)):=by
 rw[HQ];unfold Ua;have hd:[UInt8.ofNat (Int.toNat 44)]=([44]:Ac):=rfl;have hb:[UInt8.ofNat (Int.toNat 58)]=([58]:Ac):=rfl;have hlen':=hlen;simp only[Apz] at hlen'
 cases first with
 | true=>
  rw[AC (p:=!true) rfl]
  cases hm:decide (c.fKind=6) with
  | true=>
   rw[hm] at hk
   cases k with
   | none=>simp[DF] at hk
   | some s=>
    obtain⟨e1,e2⟩:=hkey s rfl;subst e1;simp only[Np,Apz,ApC] at hlen';have h1:(l++J9 key).length≤140737488355328:=by rw[Apz];omega
    have e:((l++J9 key)++[58])++tx=l++(GV true++Np (some key)++tx):=Anc _ _ _ _;rw[← e] at hlen ⊢;rw[AO rfl,R4 e2 h1,Ck rfl,Gi (by rw[Apz];omega),JU (by decide) (by decide),JY,hb,hw _ hlen,Ck rfl]
  | false=>
   rw[hm] at hk
   cases k with
   | some s=>simp[DF] at hk
   | none=>
    have e:l++tx=l++(GV true++Np none++tx):=Anf _ _;rw[← e] at hlen ⊢;rw[AC rfl,hw _ hlen,Ck rfl]
 | false=>
  simp only[GV,Apv,ApC] at hlen';rw[AO (p:=!false) rfl,Gi (by omega),JU (by decide) (by decide),JY,hd]
  cases hm:decide (c.fKind=6) with
  | true=>
   rw[hm] at hk
   cases k with
   | none=>simp[DF] at hk
   | some s=>
    obtain⟨e1,e2⟩:=hkey s rfl;subst e1;simp only[Np,Apz,ApC] at hlen';have h1:((l++[44])++J9 key).length≤140737488355328:=by simp only[Apz,ApC];omega
    have e:(((l++[44])++J9 key)++[58])++tx=l++(GV false++Np (some key)++tx):=Anb _ _ _ _ _;rw[← e] at hlen ⊢;rw[AO rfl,R4 e2 h1,Ck rfl,Gi (by simp only[Apz,ApC];omega),JU (by decide) (by decide),JY,hb,hw _ hlen,Ck rfl]
  | false=>
   rw[hm] at hk
   cases k with
   | some s=>simp[DF] at hk
   | none=>
    have e:(l++[44])++tx=l++(GV false++Np none++tx):=Ane _ _ _;rw[← e] at hlen ⊢;rw[AC rfl,hw _ hlen,Ck rfl]
section
variable {M : Nat}
theorem Uf {l2:Ac}{f1:Fo}(hA:G8 M v)(hF:M<F)(hpc:Af v 0=c)(hx:x<c.fN)(hx0:0≤x)(hcN:c.fN≤9223372036854775807)(h0:0≤at_)(hk:DF (decide (c.fKind=6)) last k=true)
  (hd:v.drop at_.toNat=C1 k++(f1.flat++ys)) (h1:f1.one=true) (hw:f1.wf false none=true) (hr:∀key,(∀s,k=some s→key=s)→HQ F key f1.flat first l c=some (true,false,l2)) :
  GY F v c (HQ F) at_ x first l=some (.next (at_+(C1 k).length+f1.flat.length,x+1,false,l2)):=by
 have hM:=hA.hM;have hvM:=hA.hv;have hd1:=DY h0 hd;have hkl:=QZ hk;have hfl:=ZF h1;have hll:(v.drop (at_+(C1 k).length).toNat).length=f1.flat.length+ys.length:=by rw[hd1];simp
 rw[ApU] at hll;have hlook:Na F (v.drop (at_+(C1 k).length).toNat)=some ((f1.flat.length:Int),f1.sh 0 Uq,true):=Aaa ((hA.drop _).lk hF) h1 hw hd1;have htake:List.take (Int.toNat (at_+(C1 k).length+(f1.flat.length:Int))-Int.toNat (at_+(C1 k).length)) (v.drop (at_+(C1 k).length).toNat)=f1.flat:=by
  rw[hd1,show Int.toNat (at_+(C1 k).length+(f1.flat.length:Int))-Int.toNat (at_+(C1 k).length)=f1.flat.length from by omega,List.take_left]
 have hmono:0≤at_+(C1 k).length+f1.flat.length:=by omega
 unfold GY;rw[hpc,AO (Apr hx)]
 cases hm:decide (c.fKind=6) with
 | true=>
  rw[hm] at hk hkl
  cases k with
  | none=>simp[DF] at hk
  | some s=>
   have e1:((C1 (some s)).length:Int)=1:=rfl;rw[e1] at hlook htake hll hmono ⊢;have hats:(Af v at_).fStr=s:=by
    have:v.drop at_.toNat=⟨4,0,s,0⟩::(f1.flat++ys):=by simpa[C1] using hd
    rw[EU h0 this]
   have hin:at_<v.length:=by omega
   rw[AO rfl,AI h0 hin,A8 (by omega) (by omega),CU (by omega) (by omega),hlook,Ck rfl,A8 (by omega) (by omega),CU (by omega) (by omega),CU (by omega) (by omega),htake,hats,hr s (λs' h=>by cases h;rfl),Ck rfl];rw[AC (p:=!true) rfl,A8 (by omega) (by omega)]
 | false=>
  rw[hm] at hk hkl
  cases k with
  | some s=>simp[DF] at hk
  | none=>
   have e1:((C1 none).length:Int)=0:=rfl;rw[e1,Int.add_zero] at hlook htake hll hmono ⊢;rw[AC rfl,CU (by omega) (by omega),hlook,Ck rfl,A8 (by omega) (by omega),CU (by omega) (by omega),CU (by omega) (by omega),htake,hr [] (λs' h=>by cases h),Ck rfl];rw[AC (p:=!true) rfl,A8 (by omega) (by omega)]
end
section
variable {M : Nat}
theorem Rv (l:Ac)(c:UInt8):(l++[c]).length=l.length+1:=by rw[Apz,ApC]
theorem PI {p:Ac}{rf:Ac→(List Ab)→Bool→Ac→Ab→Option (Bool×Bool×Ac)}{rp:(List Ab)→Bool→Ac→Ab→Option (Bool×Ac)}(hc:Af v 0=c)(hv:0<v.length)(hk:c.fKind=5∨c.fKind=6)(hlen:(l++V9 c p).length≤140737488355328)
  (hp:∀l':Ac,l'.length=l.length+1→∃b,rp v true l' c=some (b,l'++p)):Ot F rf rp l v=some (l++V9 c p):=by
 have hbl:=MU c p;rw[Apz,hbl] at hlen;have i0:(0:Int)<(v.length:Int):=by omega
 unfold Ot;rw[AI (ApA 0) i0,hc,AC (Apq (by omega)),AC (Apq (by omega)),AC (Apq (by omega)),AC (Apq (by omega))];have b1:[UInt8.ofNat (Int.toNat (C0 ([123,125]:Ac) 0))]=([123]:Ac):=rfl;have b2:[UInt8.ofNat (Int.toNat (C0 ([123,125]:Ac) 1))]=([125]:Ac):=rfl;have b3:[UInt8.ofNat (Int.toNat (C0 ([91,93]:Ac) 0))]=([91]:Ac):=rfl;have b4:[UInt8.ofNat (Int.toNat (C0 ([91,93]:Ac) 1))]=([93]:Ac):=rfl;have c1:C0 ([123,125]:Ac) 0=123:=rfl;have c2:C0 ([123,125]:Ac) 1=125:=rfl;have c3:C0 ([91,93]:Ac) 0=91:=rfl;have c4:C0 ([91,93]:Ac) 1=93:=rfl;have n2:(([123,125]:Ac).length:Int)=2:=rfl;have n3:(([91,93]:Ac).length:Int)=2:=rfl
 cases h6:decide (c.fKind=6) with
 | true=>
  obtain⟨b,hb⟩:=hp _ (Rv l 123);rw[AO rfl,n2,AI (by decide) (by decide),Gi (by omega),b1,b2,c1,c2,JU (by decide) (by decide),JY,hb,Ck rfl,AI (by decide) (by decide)];have e:((l++[123])++p).length=l.length+1+p.length:=by rw[Apz,Rv]
  rw[e,Gi (by omega),JU (by decide) (by decide),JY];simp[V9,h6]
 | false=>
  obtain⟨b,hb⟩:=hp _ (Rv l 91);rw[AC rfl,n3,AI (by decide) (by decide),Gi (by omega),b3,b4,c3,c4,JU (by decide) (by decide),JY,hb,Ck rfl,AI (by decide) (by decide)];have e:((l++[91])++p).length=l.length+1+p.length:=by rw[Apz,Rv]
  rw[e,Gi (by omega),JU (by decide) (by decide),JY];simp[V9,h6]
theorem SM {rf:Ac→(List Ab)→Bool→Ac→Ab→Option (Bool×Bool×Ac)}(hc:Af v 0=c)(hx:¬ x<c.fN):GY F v c rf at_ x first l=some (.out (.go (first,l))):=by
 unfold GY;rw[hc,AC (Apq hx)]
theorem SL (hp:pl c=true)(hn:decide (0<c.fN)=false)(hs:c.fStr.length<F+2)(hi:BT .i64 c.fInt=true)(hlen:(l++Ip c).length≤140737488355328):IN (F+3) l [c]=some (l++Ip c):=by
 rw[IN];have hat:Af [c] 0=c:=rfl;have i0:(0:Int)<(([c]:List Ab).length:Int):=by simp
 have hN : ¬ (0:Int)<c.fN:=by simpa using hn
 by_cases hb:c.fKind=5∨c.fKind=6
 ·have el:Ip c=V9 c []:=by
   have k1:decide (c.fKind=1)=false:=Apq (by omega);have k2:decide (c.fKind=2)=false:=Apq (by omega);have k3:decide (c.fKind=3)=false:=Apq (by omega);have k4:decide (c.fKind=4)=false:=Apq (by omega);unfold Ip V9;rw[k1,k2,k3,k4];rfl
  rw[el] at hlen ⊢;refine PI hat (by simp) hb hlen (λl' hl'=>⟨true,?_⟩);rw[Kb];unfold N2;rw[AI (ApA 0) i0,Ck (Ng (o:=.go (true,l')) (SM hat hN)),Jw,ApZ];rfl
 ·unfold Ot Ip;unfold Ip at hlen;rw[AI (ApA 0) i0,hat]
  cases k1:decide (c.fKind=1) with
  | true=>
   rw[k1] at hlen;simp only[Ap1] at hlen;rw[AO rfl,Gi (by rw[Apz] at hlen;exact hlen),JY];rfl
  | false=>
  rw[k1] at hlen;simp only[Apv] at hlen;rw[AC rfl]
  cases k2:decide (c.fKind=2) with
  | true=>
   rw[k2] at hlen;simp only[Ap1] at hlen;rw[AO rfl];simp[pl,k1,k2] at hp;simp only[Apz] at hlen;rcases hp.1 with h0 | h1
   ·rw[h0] at hlen ⊢;have a:Af ([([102,97,108,115,101]:Ac),([116,114,117,101]:Ac)]:List Ac) 0=[102,97,108,115,101]:=rfl;have hlen2:l.length+([102,97,108,115,101]:Ac).length≤140737488355328:=hlen;rw[AI (by decide) (by decide),a,Gi hlen2,JY];rfl
   ·rw[h1] at hlen ⊢;have a:Af ([([102,97,108,115,101]:Ac),([116,114,117,101]:Ac)]:List Ac) 1=[116,114,117,101]:=rfl;have hlen2:l.length+([116,114,117,101]:Ac).length≤140737488355328:=hlen;rw[AI (by decide) (by decide),a,Gi hlen2,JY];rfl
  | false=>
  rw[k2] at hlen;simp only[Apv] at hlen;rw[AC rfl]
  cases k3:decide (c.fKind=3) with
  | true=>
   rw[k3] at hlen;simp only[Ap1,Apz] at hlen;rw[AO rfl,BN hi,Gi hlen,JY];rfl
  | false=>
  rw[k3] at hlen;simp only[Apv] at hlen;rw[AC rfl]
  cases k4:decide (c.fKind=4) with
  | true=>
   rw[k4] at hlen;simp only[Ap1] at hlen;rw[AO rfl,R4 hs hlen,Ck rfl];rfl
  | false=>
   exfalso;simp only[Apx] at k1 k2 k3 k4;simp[pl,k1,k2,k3,k4,show ¬ c.fKind=5 by omega,show ¬ c.fKind=6 by omega] at hp
theorem G8.mem (hA:G8 M v){a b:List Ab}(h:v.drop p.toNat=a++b):G8 M a:=by
 have:=(hA.drop p.toNat).take a.length
 rwa [h,List.take_left] at this
theorem VD:∀(g:Fo) (v:List Ab) (c:Ab) (F L:Nat) (at_ x:Int) (first:Bool) (l:Ac) (m:Bool) (last:Option Ac) (ys:List Ab),G8 M v→Af v 0=c→decide (c.fKind=6)=m→c.fN≤9223372036854775807→g.wf m last=true→v.drop at_.toNat=g.flat++ys→0≤at_→c.fN=x+g.cnt→0≤x→(l++g.txt first).length≤140737488355328→g.cnt<L→M+5+3*g.flat.length<F→
  ∃o b,Cg (λσ=>GY F v c (HQ F) σ.1 σ.2.1 σ.2.2.1 σ.2.2.2) L (at_,x,first,l)=some o∧Cm (λν=>KD ν.1 ν.2) o=some (b,l++g.txt first):=by
 intro g
 induction g with
 | nil=>
  intro v c F L at_ x first l m last ys hA hpc hm hcN hw hd h0 hN hx hlen hL hF
  obtain⟨L,rfl⟩:∃K,L=K+1:=⟨L-1,by omega⟩
  simp only[Fo.cnt] at hN;have hx' : ¬ x<c.fN:=by omega
  refine⟨.go (first,l),first,Ng (SM hpc hx'),?_⟩;rw[Jw,Fo.txt,ApZ];rfl
 | cell k cc r ih=>
  intro v c F L at_ x first l m last ys hA hpc hm hcN hw hd h0 hN hx hlen hL hF
  simp only[Fo.wf,Aps,Ap6] at hw;obtain⟨⟨⟨w1,w2⟩,w3⟩,w4⟩:=hw;have hd2:v.drop at_.toNat=C1 k++((Fo.cell none cc .nil).flat++(r.flat++ys)):=by rw[hd];simp[Fo.flat,C1]
  have hd1:=DY h0 hd2;simp only[Fo.cnt] at hN hL;simp only[Fo.flat,Apz,Ap2] at hF;obtain⟨L,rfl⟩:∃K,L=K+1:=⟨L-1,by omega⟩
  obtain⟨F,rfl⟩:∃K,F=K+4:=⟨F-4,by omega⟩
  have hAe:=hA.mem hd1;have hcM:=hAe.hc cc (by simp[Fo.flat,C1]);have e:l++(Fo.cell k cc r).txt first=(l++(GV first++Np k++Ip cc))++r.txt false:=by simp[Fo.txt]
  rw[e] at hlen ⊢;have hl2:(l++(GV first++Np k++Ip cc)).length≤140737488355328:=by rw[Apz] at hlen;omega
  have hb:=Uf (F:=F+4) (last:=last) hA (by omega) hpc (by omega) hx hcN h0 (by rw[hm];exact w1) hd2 rfl (Xs w2 w3) (first:=first) (l:=l) (λkey hkey=>
   Ub (last:=last) (by rw[hm];exact w1) (λs hs=>⟨hkey s hs,by
    have hM:=hA.hM;subst hs;have:=(hA.hc ⟨4,0,s,0⟩ (List.mem_of_mem_drop (by rw[hd2];simp[C1]))).1;simp only at this;omega⟩) hl2 (λl' hl'=>SL (F:=F) w2 w3 (by omega) hcM.2.1 hl'))
  obtain⟨o,b,ho1,ho2⟩:=ih v c (F+4) L (at_+(C1 k).length+((Fo.cell none cc .nil).flat.length:Int)) (x+1) false (l++(GV first++Np k++Ip cc)) m k ys hA hpc hm hcN w4 (DY (by omega) hd1) (by omega) (by omega) (by omega) hlen (by omega) (by omega);exact⟨o,b,SZ hb ho1,ho2⟩
 | node k cc kids r ihk ih=>
  intro v c F L at_ x first l m last ys hA hpc hm hcN hw hd h0 hN hx hlen hL hF
  simp only[Fo.wf,Aps,Apt] at hw;obtain⟨⟨⟨⟨⟨w1,w2⟩,w3⟩,w5⟩,w6⟩,w4⟩:=hw;have hd2:v.drop at_.toNat=C1 k++((Fo.node none cc kids .nil).flat++(r.flat++ys)):=by rw[hd];simp[Fo.flat,C1]
  have hd1:=DY h0 hd2;simp only[Fo.cnt] at hN hL;simp only[Fo.flat,Apz,Ap2] at hF;obtain⟨L,rfl⟩:∃K,L=K+1:=⟨L-1,by omega⟩
  obtain⟨F,rfl⟩:∃K,F=K+3:=⟨F-3,by omega⟩
  have hAe:=hA.mem hd1;have hfl:(Fo.node none cc kids .nil).flat=cc::kids.flat:=by simp[Fo.flat,C1]
  have hcM:=hAe.hc cc (by rw[hfl];simp);have hcf:=D6 kids;have e:l++(Fo.node k cc kids r).txt first=(l++(GV first++Np k++V9 cc (kids.txt true)))++r.txt false:=by simp[Fo.txt]
  rw[e] at hlen ⊢;have hl2:(l++(GV first++Np k++V9 cc (kids.txt true))).length≤140737488355328:=by rw[Apz] at hlen;omega
  have hb:=Uf (F:=F+3) (last:=last) hA (by omega) hpc (by omega) hx hcN h0 (by rw[hm];exact w1) hd2 rfl (Xr w2 w3 w5 w6) (first:=first) (l:=l) (λkey hkey=>
   Ub (last:=last) (by rw[hm];exact w1) (λs hs=>⟨hkey s hs,by
    have hM:=hA.hM;subst hs;have:=(hA.hc ⟨4,0,s,0⟩ (List.mem_of_mem_drop (by rw[hd2];simp[C1]))).1;simp only at this;omega⟩) hl2 (λl' hl'=>by
     rw[IN];have hat:Af (Fo.node none cc kids .nil).flat 0=cc:=by rw[hfl];rfl
     have hlen0:0<(Fo.node none cc kids .nil).flat.length:=by rw[hfl];simp
     have hbl:=MU cc (kids.txt true);rw[Apz,hbl] at hl';have hb:∀l2:Ac,l2.length=l'.length+1→∃b,Kb (F+1) (Fo.node none cc kids .nil).flat true l2 cc=some (b,l2++kids.txt true):=λl2 hl2'=>by
       rw[Kb];unfold N2;have i0:(0:Int)<((Fo.node none cc kids .nil).flat.length:Int):=by omega
       obtain⟨o,b,ho1,ho2⟩:=ihk (Fo.node none cc kids .nil).flat cc F F 1 0 true l2 _ none [] hAe hat rfl hcM.2.2 w6 (by rw[hfl];simp) (by decide) (by omega) (ApA 0) (by rw[Apz];omega) (by omega) (by omega);exact⟨b,by rw[AI (ApA 0) i0,Ck ho1,ho2]⟩
     exact PI hat hlen0 (MD w2 w3).1 (by rw[Apz,hbl];exact hl') hb))
  obtain⟨o,b,ho1,ho2⟩:=ih v c (F+3) L (at_+(C1 k).length+((Fo.node none cc kids .nil).flat.length:Int)) (x+1) false (l++(GV first++Np k++V9 cc (kids.txt true))) m k ys hA hpc hm hcN w4 (DY (by omega) hd1) (by omega) (by omega) (by omega) hlen (by omega) (by omega);exact⟨o,b,SZ hb ho1,ho2⟩
theorem Aej (hA:G8 M f.flat)(h1:f.one=true)(hw:f.wf false none=true)(hF:M+8+3*f.flat.length<F)(hlen:(l++f.txt true).length≤140737488355328):IN F l f.flat=some (l++f.txt true):=by
 have hM:=hA.hM;have hvM:=hA.hv
 cases f with
 | nil=>cases h1
 | cell k c r=>
  cases k with
  | some s=>cases h1
  | none=>
   cases r with
   | nil=>
    simp only[Fo.wf,Aps,Ap6] at hw;have hfl:(Fo.cell none c .nil).flat=[c]:=by simp[Fo.flat,C1]
    have hcM:=hA.hc c (by rw[hfl];simp);have et:(Fo.cell none c .nil).txt true=Ip c:=by simp[Fo.txt,GV,Np]
    rw[et] at hlen ⊢;obtain⟨F,rfl⟩:∃K,F=K+3:=⟨F-3,by omega⟩
    rw[hfl];exact SL hw.1.1.2 hw.1.2 (by omega) hcM.2.1 hlen
   | cell _ _ _=>cases h1
   | node _ _ _ _=>cases h1
 | node k c kids r=>
  cases k with
  | some s=>cases h1
  | none=>
   cases r with
   | nil=>
    simp only[Fo.wf,Aps,Apt] at hw;obtain⟨⟨⟨⟨⟨w1,w2⟩,w3⟩,w5⟩,w6⟩,w4⟩:=hw;have hfl:(Fo.node none c kids .nil).flat=c::kids.flat:=by simp[Fo.flat,C1]
    have hcM:=hA.hc c (by rw[hfl];simp);have et:(Fo.node none c kids .nil).txt true=V9 c (kids.txt true):=by simp[Fo.txt,GV,Np]
    rw[et] at hlen ⊢;have hcf:=D6 kids;have hat:Af (Fo.node none c kids .nil).flat 0=c:=by rw[hfl];rfl
    have hlen0:0<(Fo.node none c kids .nil).flat.length:=by rw[hfl];simp
    have hl1:(Fo.node none c kids .nil).flat.length=kids.flat.length+1:=by rw[hfl];simp
    have hbl:=MU c (kids.txt true);obtain⟨F,rfl⟩:∃K,F=K+2:=⟨F-2,by omega⟩
    rw[IN];refine PI hat hlen0 (MD w2 w3).1 hlen (λl2 hl2=>?_);rw[Apz,hbl] at hlen;rw[Kb];unfold N2;have i0:(0:Int)<((Fo.node none c kids .nil).flat.length:Int):=by omega
    obtain⟨o,b,ho1,ho2⟩:=VD kids (Fo.node none c kids .nil).flat c F F 1 0 true l2 _ none [] hA hat rfl hcM.2.2 w6 (by rw[hfl];simp) (by decide) (by omega) (ApA 0) (by rw[Apz];omega) (by omega) (by omega);exact⟨b,by rw[AI (ApA 0) i0,Ck ho1,ho2]⟩
   | cell _ _ _=>cases h1
   | node _ _ _ _=>cases h1
def Wd (v:List Ab):Ac×Int:=match whole v with
 | none=>([],1)
 | some f=>bif decide (Nq f=0) then(f.txt true,0) else([],Nq f)
theorem AjL (n:Int):Lib.itoa n≠[]:=by
 unfold Lib.itoa
 split
 ·simp
 ·intro h;have:=congrArg List.length h;rw[Lib.decDigits_length] at this;have:=Lib.nDigits_pos n.toNat;simp at *;omega
theorem Ac9 (hw:f.wf false none=true)(h1:f.one=true):0<(f.txt true).length:=by
 have e:=Le f false none true hw
 cases f with
 | nil=>cases h1
 | cell k c r=>
  have h2:=Lw hw;simp only[Fo.txt,Apz];simp only[Fo.wf,Aps] at hw;have hp:=hw.1.1.2;have:0<(Ip c).length:=by
   have hl:=WO hp;have:0<lsz c:=by
    unfold lsz
    cases h1:decide (c.fKind=1) with
    | true=>simp
    | false=>
     cases h2:decide (c.fKind=2) with
     | true=>
      simp[pl,h1,h2] at hp;simp only[Apv,Ap1];omega
     | false=>
      cases h3:decide (c.fKind=3) with
      | true=>
       simp only[Apv,Ap1];have:Lib.itoa c.fInt≠[]:=AjL _;have:=List.length_pos_iff.2 this;omega
      | false=>
       cases h4:decide (c.fKind=4) with
       | true=>have:=QM c.fStr;simp only[Apv,Ap1];omega
       | false=>simp
   omega
  omega
 | node k c kids r=>
  have:=MU c (kids.txt true);simp only[Fo.txt,Apz];omega
theorem Abg (hA:G8 M v)(hM:M≤2000000)(hF:4*M+8<F):Ow F v=some (Wd v):=by
 have hvM:=hA.hv;unfold Ow Wd;rw[Wt hA hM (by omega),Ck rfl];unfold DC
 cases hwh:whole v with
 | none=>rfl
 | some f=>
  change Bj (!decide (Nq f=0)) _ _=some (bif decide (Nq f=0) then(f.txt true,0) else([],Nq f))
  cases he:decide (Nq f=0) with
  | false=>rw[AO (p:=!false) rfl];rfl
  | true=>
   obtain⟨h1,h2,h3⟩:=KB hwh;have hl:v.length=f.flat.length:=by rw[h1]
   have hc:∀c∈f.flat,c.fStr.length≤M∧BT .i64 c.fInt=true∧c.fN≤9223372036854775807:=λc hc=>hA.hc c (by rw[h1];exact hc);have hb:=OX hM h2 (by omega) hc;have htl:((f.txt true).length:Int)=f.byt:=by rw[Le f false none true h2,TF h3];simp
   have hA':G8 M f.flat:=by rw[← h1];exact hA
   have hw:=Aej (F:=F) (l:=[]) hA' h3 h2 (by omega) (by rw[Aqm];omega);rw[AC (p:=!true) rfl,h1,hw,Ck rfl,Aqm,BN (Apr (Ac9 h2 h3))];rfl
end
theorem Uy (hF:v.length<F)(hv:v.length≤1152921504606846976):HE F v v=some true:=by
 unfold HE;rw[AC (by simp)];obtain⟨o,h1,h2⟩:=H3 (body:=λσ=>LL v v σ) (λx=>0≤x∧x≤(v.length:Int)) (λx=>v.length-x.toNat) (λo=>Cm (λ_=>NE) o=some true) (λx ⟨h0,hl⟩=>by
  by_cases hx:x<(v.length:Int)
  ·refine .inl ⟨x+1,?_,⟨by omega,by omega⟩,by omega⟩;unfold LL;rw[AO (Apr hx),AI h0 hx,AI h0 hx,AC (by simp),A8 (by omega) (by omega)]
  ·exact .inr ⟨.go (),by unfold LL;rw[AC (Apq hx)],rfl⟩) F 0 ⟨ApA 0,by omega⟩ (by show v.length-0<F;omega)
 rw[Ck h1,h2]
section
variable {M : Nat}
end
end Go.Proofs.YtphnhpcjnmmhiaaGreatDoor
