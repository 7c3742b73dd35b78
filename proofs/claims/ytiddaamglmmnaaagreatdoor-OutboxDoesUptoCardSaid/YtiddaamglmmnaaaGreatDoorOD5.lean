/-
  Texts of the proof, put together: WOe, POf, WOf, OkOutboxDoes, LvA, LvB, LvC, LvD, LvE, LvF, LvG, LvH, LvI, LvJ, LvK, LvL, LvM, LvN, LvO, LvP, LdA, LdB, LdC, LdD, LdE, LdF, LdG, LdH, LdI.
-/
import Derived.Test.YtiddaamglmmnaaaGreatDoorOD4
import GoSem.ClaimData
open Decidable renaming decide → Ac
open Option renaming some → Ad, none → Ai
open Bool renaming true → Af, false → Ah
open List renaming length → Ae, drop → Ap, take → Aq, replicate → Au, range → As
open Int renaming toNat → Ao
open UInt8 renaming ofNat → Ar
open Go.Proofs.Tryz
namespace Go.Proofs.YtiddaamglmmnaaaGreatDoor.Q
open Go Go.RowKit
set_option linter.unusedVariables false
set_option linter.unusedSimpArgs false
set_option maxRecDepth 100000
set_option maxHeartbeats 4000000
theorem RZ (F:Nat)(ha:Value)(c:AO)(r:Int)(h:Rf F c=Ad r):FN 27 [Dr (DF c.ai c.ag c.ar c.az ha c.aG)] [Db ha c.ac] (λR H=>R=Bn r∧H=[Db ha c.ac]):=en func27 ntmps27 Aa λw Z=>by unfold Rf at h;exact AT<|Dd Aa Aa λb1=>ms Aa<|Cz<|AM [(1,rP b1 0),(16,rB ((!(KH c.ai))||(!(GS c.ag))))] [.blk b1 (DF c.ai c.ag c.ar c.az ha c.aG) 34,Db ha c.ac] (AU<|wv AB<|wv (Ay 0)<|CR AgR Aa (AiM c.ai) Aa Aa<|wv BO<|ms Aa<|Ba (!(KH c.ai)) (λc2=>CI c2 Aa<|wv (Ax c2)<|AD<|Ce c2) λc2=>Bt c2 AB<|Bt c2 (Ay 0)<|wo c2<|CR call54 Aa (Acq c.ag) Aa Aa<|Bt c2 BO<|D7 Aa c2 Aa<|AD<|Ce c2)<|BG h (λc3 h4=>Bz Aa<|cs h4▸AC (Dj Tm AW) (sK 2) ⟨Aa,Aa⟩) λc3 h5=>B5<|ck h5 λg6 h7=>AM [(1,rP b1 0),(30,rB ((Br (c.ar<1))||((Br (1073741824<c.ar))||(!(ov (CT c.aG))))))] [.blk b1 (DF c.ai c.ag c.ar c.az ha c.aG) 34,Db ha c.ac] (AU<|wv AB<|wv (Ay 0)<|wv BS<|ms Aa<|Ba (Br (c.ar<1)) (λc8=>CI c8 Aa<|wv (Ax c8)<|ms Aa<|Ea Aa<|wv (Ax Aa)<|AD<|Ce c8) λc8=>Bt c8 AB<|Bt c8 (Ay 0)<|Bt c8 Cw<|D7 Aa c8 Aa<|ms Aa<|Ba (Br (1073741824<c.ar)) (λc9=>CI c9 Aa<|wv (Ax c9)<|AD<|Ce (CU c8 c9)) λc9=>Bt c9 AB<|Bt c9 (Ay 0)<|wo c9<|CS Ae3 (J1 c.aG (ov (CT c.aG)) (GR (CA (CA g6 c8) c9)))<|Bt c9 BO<|D7 Aa c9 Aa<|AD<|Ce (CU c8 c9))<|BG h7 (λhi hj=>Bz Aa<|cs hj▸AC (Dj Tm AW) (sK 2) ⟨Aa,Aa⟩) λhi hk=>B5<|AT<|wv AB<|wv (Ay 0)<|ob hk λhl hm hn=>CS AgQ (NI F c.az hl hm)<|ms Aa<|Ca Aa<|wv BU<|Be<|BG hn (λho hp=>Bz Aa<|cs hp▸AC (Dj Tm AW) (sK 2) ⟨Aa,Aa⟩) λho hq=>B5<|AT<|wv AB<|wv (Ay 0)<|wv (CC 1 MR Aa Aa)<|wv Cw<|Be<|BG hq (λhr hs=>Bz Aa<|cs hs▸AC (Dj Tm AW) (sK 2) ⟨Aa,Aa⟩) λhr ht=>B5<|AT<|wv AB<|wv (Ay 0)<|wv (CC 1 MR Aa Aa)<|CW Aa<|AL<|ob ht λhu hw hg=>B8 (V:=Unit×Unit) 0 (λσ=>Cp (λσ=>Qf F c σ) σ.1 σ.2.1=Ad hu) (λσ=>[(1,rP b1 0),(42,rv ha),(43,Bn (Ae c.ac:Int)),(44,Bn σ.2.1)]) (λσ=>[.blk b1 (DF c.ai c.ag c.ar c.az ha c.aG) 34,Db ha c.ac]) (λσ=>σ.1) (F,0,()) hw (AP Aa) (sC (sC sN)) (λσ=>No =Ad r) (λσ=>[]) (λσ=>[Db ha c.ac]) (by rintro⟨hJ,hb,⟨⟩⟩ hx;refine EM ?_;obtain⟨hy,rfl,hz,he,hf⟩:=C5 hx;have he:Qf F c hb=Ad hz:=he;exact AT<|wv BS<|Cz<|BG he (λh0 h1=>B5<|AL<|AY Aa<|ck h1 λhh h2=>wv (EO 1 MR Ha Aa Aa Aa (Cl hh))<|wv (Nk (enc:=B7) (ys:=c.ac) (i:=1) (j:=hb) Uj Ha Aa Aa hh Aa Aa)<|CD (cs:=(IW ([]:Aw))) NA Aa Aa λhK=>by refine ms Aa<|L5 0 Ha Aa Aa Aa (CB.c Aa) Aa Aa ?_;exact Dt<|wv AB<|wv (Ay 1)<|wv (BI 0)<|ms Aa<|ob h2 λh3 h6 h8=>CS call57 (Xc F c.ai (A2 c.ac hb) hb h3 h6)<|ms Aa<|Ca Aa<|wv BU<|Be<|BG h8 (λh9 hA=>Cy Aa<|BW<|A5<|Bj<|have hB:=BK hA hf hg;BW<|cs hB▸AC (Dj Tm AW) (sK 4) ⟨Aa,Aa⟩) λh9 hC=>Cf<|DB<|AU<|ck hC λhD hE=>wv (Bg hD)<|B9 Aa<|have hG:=Bp hE hf;AG (AA (hy,hb+1,()) ⟨hG,Aqw _⟩ (AP Aa) (sS (sC (sC sN))))) λh0 hH=>BE<|A3<|have hI:=Ci hH hf hg;A3 (Bk (AA ((),()) hI Hj.nil (sS (sC sN)))))<|by rintro⟨⟨⟩,⟨⟩⟩ hd;refine Hb ?_;exact have hd:No =Ad r:=hd;by unfold No at hd;exact Bo<|CL<|Cy Aa<|cs hd▸AC (Dj Tm AW) (sC sN) ⟨Aa,Aa⟩
theorem Acn (F:Nat)(hd:Value)(c:AO)(r:Aw×Int)(h:Ve F c=Ad r):FN 24 [Dr (DF c.ai c.ag c.ar c.az hd c.aG)] [Db hd c.ac] (λR H=>R=Du (D8 r.1 r.2)∧H=[Db hd c.ac]):=en func24 ntmps24 Aa λw Z=>by unfold Ve at h;exact AT<|Dd Aa Aa λb1=>by refine wv (r:=rS ([]:Aw)) Bd<|ms Aa<|Cz<|AT<|wv (BI 0)<|ob h λr2 e4 h3=>EG [1] AgS (RZ F hd c r2 e4) ?_;rintro _ _ ⟨rfl,rfl⟩;exact ms Aa<|Ca Aa<|wv BU<|Be<|BG h3 (λc5 h6=>AY Aa<|wv (r:=rS ([]:Aw)) Bd<|Bw Aa<|A5<|cs h6▸AC (Eb Ake AW AW) (sK 1) ⟨Aa,Aa⟩) λc5 h7=>by refine B5<|ck h7 λg8 h9=>ck h9 λhn ho=>ob ho λhe hp hq=>D5 13 [1] [Cu [] (rP b1 0),Cu [0] (rS c.ai),Cu [] (rP b1 1),Cu [2] (rS c.ag),Cu [] (rP b1 2),Cu [4] (Bn c.ar),Cu [5] (rS (Lib.itoa c.ar)),Cu [] (rP b1 5),Cu [7] (Bn c.aG),Cu [8] (rS (Lib.itoa c.aG)),Cu [] (rP b1 3),Cu [10] (Cg 4 (BP A7 c.az)),Cu [11] (rS he)] ?_ (λβ=>?_);exact Dg (AI GG Aa DS Aa Aa)<|Ij (Bq 1 Gb Aa Aa Aa)<|Dg (AI GG Aa DS Aa Aa)<|Ij (Bq 1 Gb Aa Aa Aa)<|Dg (AI GG Aa H6 Aa Aa)<|Ij (Bq 1 Kh Aa Aa Aa)<|Ni (EU (rs:=[Bn c.ar]) (r:=rS (Lib.itoa c.ar)) Ui Aa (H4 c.ar g8) Aa)<|Dg (AI GG Aa H6 Aa Aa)<|Ij (Bq 1 Kh Aa Aa Aa)<|Ni (EU (rs:=[Bn c.aG]) (r:=rS (Lib.itoa c.aG)) Ui Aa (H4 c.aG hn) Aa)<|Dg (AI GG Aa Hf Aa Aa)<|Ij (Bq 1 LV Aa Aa Aa)<|Ni (Ge call48 (TJ F c.az he hp) Aa)<|RX;refine D4 [13,14,15,16,17,18,19,20,21,22,23,24,25,1] ?_;exact Dy ([([99,111,109,109,105,116]:Aw),c.ai,c.ag,Lib.itoa c.ar,Lib.itoa c.aG,he]:List Aw) eS Ev DS Uc Aa ⟨cO Aa,cO Aa,cO Aa,cO Aa,cO Aa,cO Aa,trivial⟩ D6 λhO=>WL.freeze (i:=0) Aa<|Dy ([([([99,111,109,109,105,116]:Aw),c.ai,c.ag,Lib.itoa c.ar,Lib.itoa c.aG,he]:List Aw)]:List (List Aw)) CG Ky KM Ud Aa ⟨Cel.one Aa (Up.fact 0 Aa),trivial⟩ D9 λhr=>ms Aa<|Cz<|AT<|wv AB<|wv (Ay 3)<|wv (CC 2 MR Aa Aa)<|CW Aa<|AL<|JH [2] Aa<|ob hq λhs ht hu=>B8 (V:=((List (List Aw)))×Value) 0 (λσ=>Cp (λσ=>Oh F c σ.1 σ.2) σ.1 σ.2.1=Ad hs) (λσ=>[(5,rv σ.2.2),(29,rv hd),(30,Bn (Ae c.ac:Int)),(31,Bn σ.2.1.2)]) (λσ=>[Db hd c.ac,.row σ.2.2 42 1 (BP CG σ.2.1.1)]) (λσ=>σ.1) (F,(([([([99,111,109,109,105,116]:Aw),c.ai,c.ag,Lib.itoa c.ar,Lib.itoa c.aG,he]:List Aw)]:List (List Aw)),0),(.slice (Ad ⟨hr,0,Ai⟩) 1 1)) ht (AP Aa) (sM 3 Aa) (λσ=>Og F σ.1=Ad r) (λσ=>[(5,rv σ.2)]) (λσ=>[Db hd c.ac,.row σ.2 42 1 (BP CG σ.1)]) (by rintro⟨hP,⟨hg,ha⟩,hj⟩ hw;refine EM ?_;obtain⟨hx,rfl,t80,hh,hk⟩:=C5 hw;have hh:Oh F c hg ha=Ad t80:=hh;exact AT<|wv BS<|Cz<|BG hh (λhy hz=>B5<|AL<|AT<|ck hz λhl h0=>wv (EO 0 MR Ha Aa Aa Aa (Cl hl))<|wv (Nk (enc:=B7) (ys:=c.ac) (i:=0) (j:=ha) Uj Ha Aa Aa hl Aa Aa)<|CD (cs:=(IW ([]:Aw))) NA Aa Aa λhf=>by refine L5 0 Ha Aa Aa Aa (CB.c Aa) Aa Aa ?_;refine Be<|ck h0 λh1 h2=>ck h2 λh4 h5=>ob h5 λhb h8 hA=>D5 14 [5,7,29,30,31] [Cu [] (rv hj),Cu [] (rP hf 0),Cu [1] (Bn (A2 c.ac ha).aa),Cu [2] (rS (Lib.itoa (A2 c.ac ha).aa)),Cu [] (rP hf 1),Cu [4] (rS (A2 c.ac ha).ap),Cu [] (rP hf 3),Cu [6] (Bn (A2 c.ac ha).an),Cu [7] (rS (Lib.itoa (A2 c.ac ha).an)),Cu [] (rP hf 2),Cu [9] (Cg 4 (BP A7 (A2 c.ac ha).aj)),Cu [10] (rS hb),Cu [3,5,8,11] (Cg 1 (BP eS ([Lib.itoa (A2 c.ac ha).aa,(A2 c.ac ha).ap,Lib.itoa (A2 c.ac ha).an,hb]:List Aw))),Cu [12] (Cg 1 (BP CG ([([Lib.itoa (A2 c.ac ha).aa,(A2 c.ac ha).ap,Lib.itoa (A2 c.ac ha).an,hb]:List Aw)]:List (List Aw))))] ?_ (λβ=>?_);exact Dg (AQ Aa)<|Dg (AI Gm Aa RG Aa Aa)<|Ij (Bq 0 To Aa Aa Aa)<|Ni (EU (rs:=[Bn (A2 c.ac ha).aa]) (r:=rS (Lib.itoa (A2 c.ac ha).aa)) Ui Aa (H4 (A2 c.ac ha).aa h1) Aa)<|Dg (AI Gm Aa DS Aa Aa)<|Ij (Bq 0 Gb Aa Aa Aa)<|Dg (AI Gm Aa H6 Aa Aa)<|Ij (Bq 0 Kh Aa Aa Aa)<|Ni (EU (rs:=[Bn (A2 c.ac ha).an]) (r:=rS (Lib.itoa (A2 c.ac ha).an)) Ui Aa (H4 (A2 c.ac ha).an h4) Aa)<|Dg (AI Gm Aa Hf Aa Aa)<|Ij (Bq 0 LV Aa Aa Aa)<|Ni (Ge call48 (TJ F (A2 c.ac ha).aj hb h8) Aa)<|Ni (CQ (ys:=([Lib.itoa (A2 c.ac ha).aa,(A2 c.ac ha).ap,Lib.itoa (A2 c.ac ha).an,hb]:List Aw)) (enc:=eS) (css:=[[rS (Lib.itoa (A2 c.ac ha).aa)],[rS (A2 c.ac ha).ap],[rS (Lib.itoa (A2 c.ac ha).an)],[rS hb]]) (xs:=[.tmp 38,.tmp 40,.tmp 43,.tmp 46]) Ev DS Uc Aa Aa Aa ⟨cO Aa,cO Aa,cO Aa,cO Aa,trivial⟩ Aa D6 Aa Aa)<|Ni (CQ (ys:=([([Lib.itoa (A2 c.ac ha).aa,(A2 c.ac ha).ap,Lib.itoa (A2 c.ac ha).an,hb]:List Aw)]:List (List Aw))) (enc:=CG) (css:=[(Lq ([Lib.itoa (A2 c.ac ha).aa,(A2 c.ac ha).ap,Lib.itoa (A2 c.ac ha).an,hb]:List Aw))]) (xs:=[.tmp 47]) Ky KM Ud Aa Aa Aa ⟨cO Aa,trivial⟩ Aa D9 Aa Aa)<|RX;refine D4 [35,36,37,38,39,40,41,42,43,44,45,46,47,48,5,7,29,30,31] ?_;exact ck hA λhB hC=>E0 2 Ky Vy Aa Aa (HJ.z Aa Aa) D9 Lx hB λhD=>by refine B9 Aa<|DB<|AU<|ck hC λhE hG=>wv (Bg hE)<|B9 Aa<|Jp [2] ?_;exact have hH:=Bp hG hk;AG (AA (hx,(hg++([([Lib.itoa (A2 c.ac ha).aa,(A2 c.ac ha).ap,Lib.itoa (A2 c.ac ha).an,hb]:List Aw)]:List (List Aw)),ha+1),hD) ⟨hH,Aqw _⟩ (AP Aa) (sC (sC (sS sN))))) λhy hI=>BE<|A3<|have hJ:=Ci hI hk hu;A3 (Bk (AA (hg,hj) hJ (AP Aa) (sC (sC sN)))))<|by rintro⟨hm,v76⟩ hi;refine Hb ?_;exact have hi:Og F hm=Ad r:=hi;Bo<|CL<|AY Aa<|WL.freeze (i:=1) Aa<|WL.up (d:=51) Aa (Up.fact 0 Aa)<|ob hi λhK hL hN=>CS call49 (Y3 F hm hK hL)<|wv A4<|wv A4<|Bw Aa<|cs hN▸AC (Eb Ake AW AW) (sK 2) ⟨Aa,Aa⟩
theorem Afz (F hd:Nat)(he:Value)(keys:(List (Aw×Az)))(l:(List A1))(r:Int×(List (Aw×Az)))(h:AdB F keys l=Ad r):FN 40 [rv (.map (Ad hd)),rv he] [.map hd (BF AV keys),Db he l] (λR H=>R=Bn r.1∧H=[.map hd (BF AV r.2),Db he l]):=en func40 ntmps40 Aa λw Z=>AY Aa<|BH Aa<|wv (CC 1 MR Aa Aa)<|CW Aa<|AL<|ob h λhp hq hm=>B8 (V:=((List (Aw×Az)))×Unit) 0 (λσ=>Cp (λσ=>Qg l σ.1 σ.2) σ.1 σ.2.1=Ad hp) (λσ=>[(0,rv (.map (Ad hd))),(7,rv he),(8,Bn (Ae l:Int)),(9,Bn σ.2.1.1)]) (λσ=>[.map hd (BF AV σ.2.1.2),Db he l]) (λσ=>σ.1) (F,(0,keys),()) hq (AP Aa) (sC (sC sN)) (λσ=>Np σ.1=Ad r) (λσ=>[]) (λσ=>[.map hd (BF AV σ.1),Db he l]) (by rintro⟨hH,⟨ha,hb⟩,⟨⟩⟩ hr;refine EM ?_;obtain⟨hs,rfl,hi,hj,hk⟩:=C5 hr;have hj:Qg l ha hb=Ad hi:=hj;exact AT<|wv BS<|Cz<|BG hj (λht hu=>BQ<|D2 (S:=((List (Aw×Az)))×Unit) (λσ=>Lk ha σ.1=Ad hi) (λσ=>[(0,rv (.map (Ad hd))),(7,rv he),(8,Bn (Ae l:Int)),(9,Bn ha)]) (λσ=>[.map hd (BF AV σ.1),Db he l]) (AL<|AT<|ck hu λhn hw=>wv (EO 1 MR Ha Aa Aa Aa (Cl hn))<|wv (Nk (enc:=B7) (ys:=l) (i:=1) (j:=ha) Uj Ha Aa Aa hn Aa Aa)<|CD (cs:=(IW ([]:Aw))) NA Aa Aa λhg=>by refine L5 0 Ha Aa Aa Aa (CB.c Aa) Aa Aa ?_;exact Dt<|wv AB<|wv (Ay 0)<|Be<|AL<|AT<|wv Bx<|CW Aa<|BG hw (λhx hy=>by refine Bl<|ob hy λhf hz h0=>ck h0 λh1 h2=>D5 13 [0,6,7,8,9] [Cu [] (rv (.map (Ad hd))),Cu [] (rP hg 1),Cu [1] (rS (A2 l ha).ap),Cu [] (rP hg 2),Cu [3] (Cg 4 (BP A7 (A2 l ha).aj)),Cu [4] (Cg 4 (BP A7 hf)),Cu [] (rv (.map (Ad hd))),Cu [] (rP hg 1),Cu [7] (rS (A2 l ha).ap),Cu [6,8] (Dr (H5 (C8 hb (A2 l ha).ap (Az.mk ([]:(List Av)) 0)))),Cu [9] (Bn (C8 hb (A2 l ha).ap (Az.mk ([]:(List Av)) 0)).aq),⟨[10],Bn ((C8 hb (A2 l ha).ap (Az.mk ([]:(List Av)) 0)).aq+1),Ai,Ai,Ai⟩,Cu [5,11] (Dr (Eg hf ((C8 hb (A2 l ha).ap (Az.mk ([]:(List Av)) 0)).aq+1)))] ?_ (λβ=>?_);exact Dg (AQ Aa)<|Dg (AI Gm Aa DS Aa Aa)<|Ij (Bq 0 Gb Aa Aa Aa)<|Dg (AI Gm Aa Hf Aa Aa)<|Ij (Bq 0 LV Aa Aa Aa)<|Ni (Ge Aby (Ly (A2 l ha).aj hf hz) Aa)<|Dg (AQ Aa)<|Dg (AI Gm Aa DS Aa Aa)<|Ij (Bq 0 Gb Aa Aa Aa)<|Ij (RY (enc:=AV) (xs:=hb) (z:=Az.mk ([]:(List Av)) 0) (i:=1) Qx GB Aev IT Aa Aa Aa)<|Dg (Ad8 AjR Aa Kh Aa Aa)<|Dg (WW Aa Aa h1)<|Dg (D1 Aeo Aa (EL Aa (EL Aa cN)) Aa)<|RX;refine D4 [17,18,19,20,21,22,23,24,25,26,27,28,29,0,6,7,8,9] ?_;exact L8 (enc:=AV) (xs:=hb) (v:=(Az.mk hf ((C8 hb (A2 l ha).ap (Az.mk ([]:(List Av)) 0)).aq+1))) (i:=1) Qx GB Aa Aa Aa Aa (H':=[.blk hg (B7 (A2 l ha)) 54,.map hd (BF AV (mset hb (A2 l ha).ap (Az.mk hf ((C8 hb (A2 l ha).ap (Az.mk ([]:(List Av)) 0)).aq+1)))),Db he l]) Aa<|Ca Aa<|wv (AhZ (N:=Ae (mset hb (A2 l ha).ap (Az.mk hf ((C8 hb (A2 l ha).ap (Az.mk ([]:(List Av)) 0)).aq+1)))) (i:=1) Qx Aa Aa (Kb _ _))<|wv Cw<|Be<|BG h2 (λh3 h4=>Cy Aa<|Dc<|BW<|A5<|Bj<|have h5:=BK h4 hk hm;BW<|cs h5▸AC (Dj Akd AW) (sK 6) ⟨Aa,Aa⟩) λh3 h6=>Cf<|Bm<|Bm<|AG (AA (mset hb (A2 l ha).ap (Az.mk hf ((C8 hb (A2 l ha).ap (Az.mk ([]:(List Av)) 0)).aq+1)),()) h6 (AP Aa) (sS (sC (sC sN))))) λhx h7=>AT<|wv Bx<|CW Aa<|BG h7 (λc171 h8=>BD Aa<|wv AB<|wv (Ay 0)<|Adg (enc:=AV) (xs:=hb) (i:=1) Qx GB Aa Aa Aa (H':=[.blk hg (B7 (A2 l ha)) 54,.map hd (BF AV (mdel hb (A2 l ha).ap)),Db he l]) Aa<|AD<|Bm<|Bm<|AG (AA (mdel hb (A2 l ha).ap,()) h8 (AP Aa) (sS (sC (sC sN))))) λc171 h9=>Cf<|Bm<|Bm<|AG (AA (hb,()) h9 (AP Aa) (sS (sC (sC sN)))))<|by rintro⟨ho,⟨⟩⟩ hl;refine EM ?_;exact have hl:Lk ha ho=Ad hi:=hl;AU<|ck hl λhA hB=>wv (Bg hA)<|B9 Aa<|have hC:=Bp hB hk;AG (AA (hs,(ha+1,ho),()) ⟨hC,Aqw _⟩ (AP Aa) (sC (sC sN)))) λht hD=>BE<|A3<|have hE:=Ci hD hk hm;A3 (Bk (AA (hb,()) hE Hj.nil (sC (sC sN)))))<|by rintro⟨hG,⟨⟩⟩ hh;refine Hb ?_;exact have hh:Np hG=Ad r:=hh;by unfold Np at hh;exact Bo<|CL<|Cy Aa<|cs hh▸AC (Dj Akd AW) (sK 3) ⟨Aa,Aa⟩
theorem Vg (F ha:Nat)(hg:Value)(hd hb:Nat)(hf he:Value)(o:AE)(c:AO)(r:Bool×Int×AE)(h:Re F o c=Ad r):FN 22 [rP ha 0,Dr (DF c.ai c.ag c.ar c.az he c.aG)] [CF ha o.ax hg hd hb hf,Co hg o.ah,.map hd (BF AZ o.ao),.map hb (BF A6 o.aC),BX hf o.ae,Db he c.ac] (λR H=>∃w0_1:Value,∃w0_4:Value,R=Du [rB r.1,Bn r.2.1]∧H=[CF ha r.2.2.ax w0_1 hd hb w0_4,Co w0_1 r.2.2.ah,.map hd (BF AZ r.2.2.ao),.map hb (BF A6 r.2.2.aC),BX w0_4 r.2.2.ae,Db he c.ac]):=en func22 ntmps22 Aa λw Z=>by unfold Re at h;exact AT<|Dd Aa Aa λb1=>by refine ms Aa<|BH Aa<|ob h λr2 e4 h3=>EG [1] XN (JW ha hg hd hb hf o r2 e4) ?_;rintro _ _ ⟨rfl,rfl⟩;exact wv BO<|Be<|BG h3 (λc5 h6=>Bz Aa<|cs h6▸AC (Eb RH AW AW) (sK 125) ⟨hg,hf,Aa,Aa⟩) λc5 h7=>by refine B5<|AT<|wv (BI 1)<|ob h7 λr8 hD h9=>EG [6] AgS (RZ F he c r8 hD) ?_;rintro _ _ ⟨rfl,rfl⟩;exact ms Aa<|Ca Aa<|wv BU<|Be<|BG h9 (λhE hG=>by refine Bz Aa<|Jp [1,2,2,2,2] ?_;exact cs hG▸AC (Eb RH AW AW) (sK 63) ⟨hg,hf,Aa,Aa⟩) λhE hH=>by refine B5<|Bl<|Et [0,3] ?_;refine rq AS<|rq AJ<|rq AB<|rq (Ay 1)<|rq AB<|rq (Ay 2)<|rq (Y0 (enc:=AZ) (xs:=o.ao) (z:=([]:(List Av))) (i:=4) AgE GB Amr J6 Aa Aa Aa)<|rq AS<|rq A4<|rq A4<|rq Bd<|rq Bd<|re [8,0,3] ?_;exact CL<|AY Aa<|Be<|BG hH (λhI hJ=>by refine Bz Aa<|Jp [1,2,2,2,2] ?_;exact cs hJ▸AC (Eb RH AW AW) (sK 63) ⟨hg,hf,Aa,Aa⟩) λhI hK=>B5<|AY Aa<|wv AJ<|wv AB<|wv (Ay 1)<|wv (CC 3 Ev Aa Aa)<|wv Gs<|Be<|BG hK (λhL hN=>by refine Bz Aa<|Jp [1,2,2,2,2] ?_;exact cs hN▸AC (Eb RH AW AW) (sK 63) ⟨hg,hf,Aa,Aa⟩) λhL hO=>BQ<|AT<|O9 Aa λhm=>by refine ms Aa<|Cz<|Bl<|D5 7 [0,3,9] [Cu [] (rP ha 0),Cu [0] (rP ha 0),Cu [1] (rP ha 3),Cu [2] (rv (.map (Ad hb))),Cu [] (rP b1 1),Cu [4] (rS c.ag),Cu [3,5] (Zk (BF AV (C8 o.aC c.ag ([]:(List (Aw×Az))))))] ?_ (λβ=>?_);exact Dg (AQ Aa)<|Dg (C4 Aa)<|Dg (AI Ue Aa Aex Aa Aa)<|Ij (Bq 2 AgW Aa Aa Aa)<|Dg (AI GG Aa DS Aa Aa)<|Ij (Bq 3 Gb Aa Aa Aa)<|Ij (RY (enc:=A6) (xs:=o.aC) (z:=([]:(List (Aw×Az)))) (i:=6) Aew GB AjP Ey Aa Aa Aa)<|RX;refine D4 [43,44,45,46,47,48,49,0,3,9] ?_;exact Uo Qx Aa Aa λhs=>Be<|AL<|have hP:=Acw hO;B8 (V:=((List (Aw×Az)))×Unit) 0 (λσ=>∀qo:List (Aw×Az),qo.Perm σ.1→BB (Xn (λpe τ=>LH pe.1 pe.2 τ) qo σ.2.1) (Cb λν=>JY F o c ν)=Ad r) (λσ=>[(0,rP ha 0),(3,rP b1 0),(9,rv (.map (Ad hm))),(50,rP hs 0)]) (λσ=>[.itz hs (BF AV (C8 o.aC c.ag ([]:(List (Aw×Az))))) (BF AV σ.1) Ai,.map hm (BF AV σ.2.1),.row he 54 4 (BP B7 c.ac),.blk ha (Nu o.ax hg hd hb hf) 68,.blk b1 (DF c.ai c.ag c.ar c.az he c.aG) 34,.row hg 9 1 (BP eS o.ah),.map hd (BF AZ o.ao),.map hb (BF A6 o.aC),.row hf 59 8 (BP AR o.ae)]) (λσ=>Ae σ.1) (C8 o.aC c.ag ([]:(List (Aw×Az))),([]:List (Aw×Az)),()) hP (AP Aa) (sM 511 Aa) (λσ=>JY F o c σ.1=Ad r) (λσ=>[(0,rP ha 0),(3,rP b1 0),(9,rv (.map (Ad hm)))]) (λσ=>[.map hm (BF AV σ.1),Db he c.ac,CF ha o.ax hg hd hb hf,.blk b1 (DF c.ai c.ag c.ar c.az he c.aG) 34,Co hg o.ah,.map hd (BF AZ o.ao),.map hb (BF A6 o.aC),BX hf o.ae]) (by rintro⟨hQ,ho,⟨⟩⟩ h4;refine EM ?_;exact AT<|XR (enc:=AV) (ys:=hQ) (i:=0) Aa Aa Aa (λhy=>have hR:JY F o c ho=Ad r:=YE h4 hy;wv A4<|Cz<|DZ Aa Aa<|BE<|A3<|A3 (Bk (AA (ho,()) hR (AP Aa) (sS (sC (sC (sC (sC (sC (sC (sC (sC sN)))))))))))) λp hx h5=>by obtain⟨hq,hp⟩:=p;obtain⟨hS,ht,hT⟩:=Ai7 h4 h5;have ht:LH hq hp ho=Ad hS:=ht;unfold LH at ht;exact Ab2 (H':=[.itz hs (BF AV (C8 o.aC c.ag ([]:(List (Aw×Az))))) (BF AV hx) (Ad (hq,AV hp)),.map hm (BF AV ho),.row he 54 4 (BP B7 c.ac),.blk ha (Nu o.ax hg hd hb hf) 68,.blk b1 (DF c.ai c.ag c.ar c.az he c.aG) 34,.row hg 9 1 (BP eS o.ah),.map hd (BF AZ o.ao),.map hb (BF A6 o.aC),.row hf 59 8 (BP AR o.ae)]) Aa<|wv A4<|Cz<|G4 Aa Aa<|BQ<|AL<|AT<|wv (Va (i:=0) Aa Aa)<|wv A4<|wv A4<|CD (cs:=[rv (.slice Ai 0 0),Bn 0]) Aev Aa Aa λhU=>by refine ms Aa<|L5 0 AgF Aa Aa Aa (CB.c Aa) Aa Aa ?_;exact Be<|BD Aa<|wv (BI 0)<|L8 (enc:=AV) (xs:=ho) (v:=hp) (i:=2) Qx GB Aa Aa Aa Aa (H':=[.blk hU (H5 hp) 84,.itz hs (BF AV (C8 o.aC c.ag ([]:(List (Aw×Az))))) (BF AV hx) (Ad (hq,AV hp)),.map hm (BF AV (mset ho hq hp)),Db he c.ac,CF ha o.ax hg hd hb hf,.blk b1 (DF c.ai c.ag c.ar c.az he c.aG) 34,Co hg o.ah,.map hd (BF AZ o.ao),.map hb (BF A6 o.aC),BX hf o.ae]) Aa<|AD<|Bm<|WK.uncurz (i:=1) Aa<|have hV:=Sc ht hT;AG (AA (hx,mset ho hq hp,()) ⟨hV,Yv h5⟩ (AP Aa) (sS (sC (sC (sC (sC (sC (sC (sC (sC (sC sN))))))))))))<|by rintro⟨h8,⟨⟩⟩ hz;refine Hb ?_;exact have hz:JY F o c h8=Ad r:=hz;by refine Bo<|CL<|Bl<|AY Aa<|wv AB<|wv (Ay 3)<|ob hz λhk hW hX=>EG [0,0] call40 (Afz F hm he h8 c.ac hk hW) ?_;rintro _ _ ⟨rfl,rfl⟩;exact ms Aa<|Ca Aa<|wv BU<|Be<|BG hX (λhY hZ=>by refine Bz Aa<|Jp [2,3,3,3,3,1] ?_;exact cs hZ▸AC (Eb RH AW AW) (sK 63) ⟨hg,hf,Aa,Aa⟩) λhY ga=>by refine B5<|D5 7 [0,3,9] [Cu [] (rP ha 0),Cu [0] (rP ha 0),Cu [1] (rP ha 3),Cu [2] (rv (.map (Ad hb))),Cu [] (rP b1 1),Cu [4] (rS c.ag),Cu [] (rv (.map (Ad hm)))] ?_ (λβ=>?_);exact Dg (AQ Aa)<|Dg (C4 Aa)<|Dg (AI Ue Aa Aex Aa Aa)<|Ij (Bq 2 AgW Aa Aa Aa)<|Dg (AI GG Aa DS Aa Aa)<|Ij (Bq 3 Gb Aa Aa Aa)<|Dg (AQ Aa)<|RX;refine D4 [66,67,68,69,70,71,72,0,3,9] ?_;refine WL.freezeM (i:=0) Aa<|WL.up (d:=72) Aa (Up.fact 0 Aa)<|L8 (enc:=A6) (xs:=o.aC) (v:=hk.2) (i:=6) Aew GB Aa Aa Aa Aa (H':=[.fact (.map (Ad hm)) (Zk (BF AV hk.2)),.row he 54 4 (BP B7 c.ac),.blk ha (Nu o.ax hg hd hb hf) 68,.blk b1 (DF c.ai c.ag c.ar c.az he c.aG) 34,.row hg 9 1 (BP eS o.ah),.map hd (BF AZ o.ao),.map hb (BF A6 (mset o.aC c.ag hk.2)),.row hf 59 8 (BP AR o.ae)]) Aa<|Cz<|ck ga λgb gc=>Exists.elim Oq λinf hinf=>RI 9 8 [0,3] [] [{ deps:=[],r:=λ_=>rP ha 0 },{ deps:=[],r:=λ_=>rP ha 0 },{ deps:=[1],r:=λ_=>rP ha 0 },{ deps:=[2],r:=λ_=>rP ha 1 },{ deps:=[3],r:=λ_=>rv hg },{ deps:=[],r:=λ_=>rP b1 0 },{ deps:=[5],r:=λ_=>rS c.ai },{ deps:=[6],r:=λ_=>Cg 1 (BP eS ([c.ai]:List Aw)) },{ deps:=[4,7],r:=λhh=>rv hh,dyn:=Af }] (λhh=>[Co hh (o.ah++([c.ai]:List Aw)),.fact (.map (Ad hm)) (Zk (BF AV hk.2)),Db he c.ac,CF ha o.ax hg hd hb hf,.blk b1 (DF c.ai c.ag c.ar c.az he c.aG) 34,.map hd (BF AZ o.ao),.map hb (BF A6 (mset o.aC c.ag hk.2)),BX hf o.ae]) ?_ (λhh=>?_);exact Md (AQ Aa)<|Md (AQ Aa)<|Md (C4 Aa)<|Md (AI Ue Aa KM Aa Aa)<|oxr (fun {hh}=>ET (Bq 2 Uk Aa Aa Aa)) (fun {hh}=>ET (Bq 3 Uk Aa Aa Aa))<|Md (AI GG Aa DS Aa Aa)<|oxr (fun {hh}=>ET (Bq 3 Gb Aa Aa Aa)) (fun {hh}=>ET (Bq 4 Gb Aa Aa Aa))<|oxc (CQ (ys:=([c.ai]:List Aw)) (enc:=eS) (css:=[[rS c.ai]]) (xs:=[.tmp 79]) Ev DS Uc Aa Aa Aa ⟨cO Aa,trivial⟩ Aa D6 Aa Aa)<|oxx (KQ (i:=4) Ev hinf.1 hinf.2.1 hinf.2.2.1 hinf.2.2.2 Aa Aa Aa Aa Aa (HJ.z Aa Aa) D6 Lw gb)<|oxe;refine D4 [73,74,75,76,77,78,79,80,81,0,3] ?_;refine wv AJ<|wv AB<|us 3 KM Aa Aa (Dp 0 Aa) Aa Aa ?_;refine Cz<|ob gc λhn gd gf=>D5 9 [0,3] [Cu [] (rP ha 0),Cu [0] (rP ha 0),Cu [1] (rP ha 2),Cu [2] (rv (.map (Ad hd))),Cu [] (rP b1 0),Cu [4] (rS c.ai),Cu [] (rP b1 3),Cu [6] (Cg 4 (BP A7 c.az)),Cu [7] (Cg 4 (BP A7 hn))] ?_ (λβ=>?_);exact Dg (AQ Aa)<|Dg (C4 Aa)<|Dg (AI Ue Aa AjV Aa Aa)<|Ij (Bq 3 isAgg65 Aa Aa Aa)<|Dg (AI GG Aa DS Aa Aa)<|Ij (Bq 4 Gb Aa Aa Aa)<|Dg (AI GG Aa Hf Aa Aa)<|Ij (Bq 4 LV Aa Aa Aa)<|Ni (Ge Aby (Ly c.az hn gd) Aa)<|RX;refine D4 [84,85,86,87,88,89,90,91,92,0,3] ?_;exact L8 (enc:=AZ) (xs:=o.ao) (v:=hn) (i:=5) AgE GB Aa Aa Aa Aa (H':=[Co hh (o.ah++([c.ai]:List Aw)),.fact (.map (Ad hm)) (Zk (BF AV hk.2)),Db he c.ac,CF ha o.ax hh hd hb hf,.blk b1 (DF c.ai c.ag c.ar c.az he c.aG) 34,.map hd (BF AZ (mset o.ao c.ai hn)),.map hb (BF A6 (mset o.aC c.ag hk.2)),BX hf o.ae]) Aa<|Cz<|AT<|wv AB<|wv (Ay 4)<|wv (CC 2 MR Aa Aa)<|CW Aa<|AL<|ob gf λgg gh gi=>B8 (V:=((List A0))×Value) 2 (λσ=>Cp (λσ=>Oi c σ.1 σ.2) σ.1 σ.2.1=Ad gg) (λσ=>[(0,rP ha 0),(3,rP b1 0),(94,rv he),(95,Bn (Ae c.ac:Int)),(96,Bn σ.2.1.1)]) (λσ=>[Co hh (o.ah++([c.ai]:List Aw)),Db he c.ac,CF ha o.ax hh hd hb σ.2.2,.blk b1 (DF c.ai c.ag c.ar c.az he c.aG) 34,.map hd (BF AZ (mset o.ao c.ai hn)),.map hb (BF A6 (mset o.aC c.ag hk.2)),BX σ.2.2 σ.2.1.2]) (λσ=>σ.1) (F,(0,o.ae),hf) gh (AP Aa) (sM 253 Aa) (λσ=>LF o c hk hn σ.1=Ad r) (λσ=>[]) (λσ=>[Co hh (o.ah++([c.ai]:List Aw)),Db he c.ac,CF ha o.ax hh hd hb σ.2,.map hd (BF AZ (mset o.ao c.ai hn)),.map hb (BF A6 (mset o.aC c.ag hk.2)),BX σ.2 σ.1]) (by rintro⟨gF,⟨hi,hr⟩,hu⟩ gj;refine EM ?_;obtain⟨gl,rfl,h0,h1,hA⟩:=C5 gj;have h1:Oi c hi hr=Ad h0:=h1;exact AT<|wv BS<|Cz<|BG h1 (λgm gp=>BQ<|D2 (S:=((List A0))×Value) (λσ=>LG hi σ.1=Ad h0) (λσ=>[(0,rP ha 0),(3,rP b1 0),(94,rv he),(95,Bn (Ae c.ac:Int)),(96,Bn hi)]) (λσ=>[Co hh (o.ah++([c.ai]:List Aw)),Db he c.ac,CF ha o.ax hh hd hb σ.2,.blk b1 (DF c.ai c.ag c.ar c.az he c.aG) 34,.map hd (BF AZ (mset o.ao c.ai hn)),.map hb (BF A6 (mset o.aC c.ag hk.2)),BX σ.2 σ.1]) (AL<|AY Aa<|ck gp λhB gq=>wv (EO 1 MR Ha Aa Aa Aa (Cl hB))<|wv (Nk (enc:=B7) (ys:=c.ac) (i:=1) (j:=hi) Uj Ha Aa Aa hB Aa Aa)<|CD (cs:=(IW ([]:Aw))) NA Aa Aa λgr=>by refine ms Aa<|L5 0 Ha Aa Aa Aa (CB.c Aa) Aa Aa ?_;exact Dt<|wv AB<|wv (Ay 0)<|ob gq λgs gu gv=>CS call41 (LE (A2 c.ac hi).aa gs gu)<|Be<|BG gv (λgw gx=>by refine AT<|wv AB<|wv (Ay 4)<|ms Aa<|ck gx λgy gz=>ck gz λg0 g1=>CR call42 Aa (TU c.ai hi gy g0) Aa Aa<|ms Aa<|wv A4<|wv A4<|CW Aa<|ob g1 λhl g2 g3=>ck g3 λg4 g5=>Exists.elim Me λinf hinf=>RI 17 16 [0,3,14,15,94,95,96] [] [{ deps:=[],r:=λ_=>rP ha 0 },{ deps:=[],r:=λ_=>rP ha 0 },{ deps:=[1],r:=λ_=>rP ha 0 },{ deps:=[2],r:=λ_=>rP ha 4 },{ deps:=[3],r:=λ_=>rv hu },{ deps:=[],r:=λ_=>rS (Df c.ai hi) },{ deps:=[],r:=λ_=>rP b1 1 },{ deps:=[6],r:=λ_=>rS c.ag },{ deps:=[],r:=λ_=>rP b1 0 },{ deps:=[8],r:=λ_=>rS c.ai },{ deps:=[],r:=λ_=>rP b1 5 },{ deps:=[10],r:=λ_=>Bn c.aG },{ deps:=[],r:=λ_=>Dr (B7 (A2 c.ac hi)) },{ deps:=[12],r:=λ_=>Dr (B7 hl) },{ deps:=[5,7,9,11,13],r:=λ_=>Dr (V1 (Df c.ai hi) c.ag c.ai c.aG hl.aa hl.ap hl.aj hl.an) },{ deps:=[14],r:=λ_=>Cg 8 (BP AR ([(A0.mk (Df c.ai hi) c.ag c.ai c.aG hl)]:List A0)) },{ deps:=[4,15],r:=λhj=>rv hj,dyn:=Af }] (λhj=>[BX hj (hr++([(A0.mk (Df c.ai hi) c.ag c.ai c.aG hl)]:List A0)),.blk gr (B7 (A2 c.ac hi)) 54,Co hh (o.ah++([c.ai]:List Aw)),Db he c.ac,CF ha o.ax hh hd hb hu,.blk b1 (DF c.ai c.ag c.ar c.az he c.aG) 34,.map hd (BF AZ (mset o.ao c.ai hn)),.map hb (BF A6 (mset o.aC c.ag hk.2))]) ?_ (λhj=>?_);exact Md (AQ Aa)<|Md (AQ Aa)<|Md (C4 Aa)<|Md (AI Ue Aa XM Aa Aa)<|oxr (fun {hj}=>ET (Bq 3 AgX Aa Aa Aa)) (fun {hj}=>ET (Bq 4 AgX Aa Aa Aa))<|Md (AQ Aa)<|Md (AI GG Aa DS Aa Aa)<|oxr (fun {hj}=>ET (Bq 4 Gb Aa Aa Aa)) (fun {hj}=>ET (Bq 5 Gb Aa Aa Aa))<|Md (AI GG Aa DS Aa Aa)<|oxr (fun {hj}=>ET (Bq 4 Gb Aa Aa Aa)) (fun {hj}=>ET (Bq 5 Gb Aa Aa Aa))<|Md (AI GG Aa H6 Aa Aa)<|oxr (fun {hj}=>ET (Bq 4 Kh Aa Aa Aa)) (fun {hj}=>ET (Bq 5 Kh Aa Aa Aa))<|oxr (fun {hj}=>ET (DJ 0 Uj Ha Aa Aa Aa Aa)) (fun {hj}=>ET (DJ 1 Uj Ha Aa Aa Aa Aa))<|oxc (Ge call38 (Acj (A2 c.ac hi) hl g2) Aa)<|Md (D1 Za Aa (EL Aa (EL Aa (EL Aa (EL Aa (cCA cN))))) Aa)<|oxc (CQ (ys:=([(A0.mk (Df c.ai hi) c.ag c.ai c.aG hl)]:List A0)) (enc:=AR) (css:=[(V1 (Df c.ai hi) c.ag c.ai c.aG hl.aa hl.ap hl.aj hl.an)]) (xs:=[.tmp 125]) Dx DM Tj Aa Aa Aa ⟨cA,trivial⟩ Aa Ch Aa Aa)<|oxx (KQ (i:=7) Dx hinf.1 hinf.2.1 hinf.2.2.1 hinf.2.2.2 Aa Aa Aa Aa Aa (HJ.z Aa Aa) Ch Dl g4)<|oxe;refine D4 [111,112,113,114,115,116,117,118,119,120,121,122,123,124,125,126,127,0,3,14,15,94,95,96] ?_;refine wv AJ<|wv AB<|us 4 XM Aa Aa (Dp 0 Aa) Aa Aa ?_;refine AD<|Bm<|Jp [2,2,2,2,2,2] ?_;exact AG (AA (hr++([(A0.mk (Df c.ai hi) c.ag c.ai c.aG hl)]:List A0),hj) g5 (AP Aa) (sC (sC (sC (sC (sC (sC (sC (sS sN)))))))))) λgw g6=>Cf<|Bm<|AG (AA (hr,hu) g6 (AP Aa) (sS (sC (sC (sC (sC (sC (sC (sC sN))))))))))<|by rintro⟨hC,g7⟩ h2;refine EM ?_;exact have h2:LG hi hC=Ad h0:=h2;AU<|ck h2 λg8 g9=>wv (Bg g8)<|B9 Aa<|have gA:=Bp g9 hA;AG (AA (gl,(hi+1,hC),g7) ⟨gA,Aqw _⟩ (AP Aa) (sC (sC (sC (sC (sC (sC (sC sN))))))))) λgm gB=>BE<|A3<|have gC:=Ci gB hA gi;A3 (Bk (AA (hr,hu) gC Hj.nil (sC (sC (sC (sS (sC (sC (sC sN))))))))))<|by rintro⟨gD,gE⟩ hw;refine Hb ?_;exact have hw:LF o c hk hn gD=Ad r:=hw;by unfold LF at hw;refine Bo<|CL<|Cy Aa<|Jp [2,0,1,1,1] ?_;exact cs hw▸AC (Eb RH AW AW) (sK 63) ⟨hh,gE,Aa,Aa⟩
theorem Wf (ha:Value)(c:AO)(r:Bool×Int)(h:Oj c=Ad r):FN 22 [rv (.pointer Ai),Dr (DF c.ai c.ag c.ar c.az ha c.aG)] [Db ha c.ac] (λR H=>R=Du [rB r.1,Bn r.2]∧H=[Db ha c.ac]):=en func22 ntmps22 Aa λw Z=>by unfold Oj at h;exact AT<|Dd Aa Aa λb1=>ms Aa<|BH Aa<|CS XN (Aaz Ah Aa)<|wv BO<|Be<|G4 Aa (Jl Aa)<|Bz Aa<|cs h▸AC (Eb RH AW AW) (sK 2) ⟨Aa,Aa⟩
theorem Vr (F:Nat)  (r:Bool)(h:Ro F=Ad r):FN 4 [] [] (PO (rB r)):=en func4 ntmps4 Aa λw Z=>AY Aa<|Dt<|ob h λr1 e3 h2=>CS call21 (LL 7 r1 e3)<|ob h2 λr4 e6 h5=>CS call21 (LL 1 r4 e6)<|wv (D1 TV Aa (EL Aa (EL Aa (EL Aa cN))) Aa)<|ob h5 λr7 e9 h8=>CS call21 (LL 2 r7 e9)<|wv (D1 TV Aa (EL Aa (EL Aa (EL Aa cN))) Aa)<|Dy ([(A1.mk 1 ([107]:Aw) r4 0),(A1.mk 3 ([115]:Aw) r7 0)]:List A1) B7 MR Ha NA Aa ⟨cA,cA,trivial⟩ Ef λhi=>wv (D1 Pn Aa (EL Aa (EL Aa (EL Aa (EL Aa (EL Aa (EL Aa cN)))))) Aa)<|CD (cs:=(Gh ([]:Aw))) Abt Aa Aa λgf=>by refine L5 0 Jf Aa Aa Aa ⟨(Cs Aa),(Cs Aa),(Cs Aa),(Cs Aa),(Dp 1 Aa),(Cs Aa),trivial⟩ Aa Aa ?_;refine Dt<|ob h8 λhQ gg gh=>EG [] call5 (Acl hQ gg) ?_;rintro _ _ ⟨hd,gi,ha,hb,gj,rfl,rfl⟩;refine ms Aa<|Ca Aa<|wv (BI 5)<|ob gh λhR gl gm=>EG [0,0,0,0,0,1] AgU (Vg F hd gi ha hb gj (.slice (Ad ⟨hi,0,Ai⟩) 2 2) hQ (AO.mk ([101,49]:Aw) ([116]:Aw) 1 r1 ([(A1.mk 1 ([107]:Aw) r4 0),(A1.mk 3 ([115]:Aw) r7 0)]:List A1) 5) hR gl) ?_;rintro _ _ ⟨gp,v24,rfl,rfl⟩;refine ms Aa<|wv A4<|wv A4<|ms Aa<|Ca Aa<|wv (BI 6)<|ob gm λhr gq gr=>EG [0,0,0,0,0,0] AgU (Vg F hd gp ha hb v24 (.slice (Ad ⟨hi,0,Ai⟩) 2 2) hR.2.2 (AO.mk ([101,49]:Aw) ([116]:Aw) 1 r1 ([(A1.mk 1 ([107]:Aw) r4 0),(A1.mk 3 ([115]:Aw) r7 0)]:List A1) 5) hr gq) ?_;rintro _ _ ⟨h6,h7,rfl,rfl⟩;refine ms Aa<|wv A4<|wv A4<|ms Aa<|Ca Aa<|ob gr λhJ gs gu=>EG [0,0,0,0,0] call19 (Rb F hd h6 ha hb h7 hr.2.2 ([116]:Aw) hJ gs) ?_;rintro _ _ ⟨rfl,rfl⟩;refine ms Aa<|Ca Aa<|ob gu λhs gv gw=>EG [0,0,0,0,0] AgV (Ld F hd h6 ha hb h7 hr.2.2 hs gv) ?_;rintro _ _ ⟨rfl,rfl⟩;exact ms Aa<|BH Aa<|wv BU<|ms Aa<|ck gw λhK gx=>BL Aa Aa (Ek hK)<|ms Aa<|BL Aa Aa (Ek hK)<|wv BU<|wv (A9 (Ek hK))<|ms Aa<|ck gx λhL gy=>BL Aa Aa (Ek hL)<|ms Aa<|BL Aa Aa (Ek hL)<|wv BO<|wv (A9 (Ek hL))<|ms Aa<|ck gy λhS gz=>BL Aa Aa (Ek hS)<|ms Aa<|wv (A9 (Ek hS))<|ms Aa<|ck gz λh9 g0=>BL Aa Aa (Ek h9)<|ms Aa<|BL Aa Aa (Ek h9)<|wv B1<|BL Aa Aa (Ek h9)<|wv BU<|wv (A9 (Ek h9))<|ms Aa<|ck g0 λhl g1=>BL Aa Aa (Ek hl)<|ms Aa<|BL Aa Aa (Ek hl)<|ck g1 λhT g2=>wv (Bh hT)<|BL Aa Aa (Ek hl)<|wv BR<|BL Aa Aa (Ek hl)<|wv Bb<|BL Aa Aa (Ek hl)<|wv (DN Aa Aa)<|wv (DE (b:=!Br ((hJ.length:Int)=1)) Aa (Ek hl) Aa)<|by exact ms Aa<|ck g2 λhm g3=>BL Aa Aa (Ek hm)<|ms Aa<|BL Aa Aa (Ek hm)<|wv (Bh hT)<|BL Aa Aa (Ek hm)<|wv BR<|BL Aa Aa (Ek hm)<|wv Bb<|BL Aa Aa (Ek hm)<|wv BU<|wv (DE (b:=!Br ((A2 hJ 0).ap=([107]:Aw))) Aa (Ek hm) Aa)<|ms Aa<|ck g3 λhA g4=>BL Aa Aa (Ek hA)<|ms Aa<|BL Aa Aa (Ek hA)<|wv B1<|BL Aa Aa (Ek hA)<|wv BU<|wv (A9 (Ek hA))<|ms Aa<|ck g4 λhn g5=>BL Aa Aa (Ek hn)<|ms Aa<|BL Aa Aa (Ek hn)<|ck g5 λhB g6=>wv (Bh hB)<|BL Aa Aa (Ek hn)<|wv BR<|BL Aa Aa (Ek hn)<|wv Bb<|BL Aa Aa (Ek hn)<|wv (DN Aa Aa)<|wv (DE (b:=!Br ((hs.length:Int)=1)) Aa (Ek hn) Aa)<|ms Aa<|ck g6 λho g7=>BL Aa Aa (Ek ho)<|ms Aa<|BL Aa Aa (Ek ho)<|wv (Bh hB)<|BL Aa Aa (Ek ho)<|wv BR<|BL Aa Aa (Ek ho)<|wv Bb<|BL Aa Aa (Ek ho)<|wv (DN Aa Aa)<|by exact wv (DE (b:=!Br ((A2 hs 0).aO=([101,49,46,49]:Aw))) Aa (Ek ho) Aa)<|ms Aa<|ck g7 λhp g8=>BL Aa Aa (Ek hp)<|ms Aa<|BL Aa Aa (Ek hp)<|wv (Bh hB)<|BL Aa Aa (Ek hp)<|wv BR<|BL Aa Aa (Ek hp)<|wv Bb<|BL Aa Aa (Ek hp)<|wv BU<|wv (DE (b:=!Br ((A2 hs 0).aM=([101,49]:Aw))) Aa (Ek hp) Aa)<|ms Aa<|ck g8 λhj g9=>BL Aa Aa (Ek hj)<|ms Aa<|BL Aa Aa (Ek hj)<|wv (Bh hB)<|BL Aa Aa (Ek hj)<|wv BR<|BL Aa Aa (Ek hj)<|wv BR<|by refine BL Aa Aa (Ek hj)<|wv Bb<|BL Aa Aa (Ek hj)<|wv (DN Aa Aa)<|wv (DE (b:=!Br ((A2 hs 0).aG=5)) Aa (Ek hj) Aa)<|Be<|ck g9 λgA gB=>DZ Aa (Ek gA)<|BQ<|AY Aa<|ob gB λhU gC gD=>EG [0,0,0,0,0] call9 (WX hd h6 ha hb h7 hr.2.2 ([101,49]:Aw) hU gC) ?_;rintro _ _ ⟨rfl,rfl⟩;exact ms Aa<|wv A4<|wv A4<|ms Aa<|BH Aa<|wv BO<|ms Aa<|ck gD λht gE=>BL Aa Aa (Ek ht)<|ms Aa<|BL Aa Aa (Ek ht)<|ob gE λhV gF gG=>CS call21 (LL 7 hV gF)<|BL Aa Aa (Ek ht)<|ob gG λgH gI gJ=>CS call11 (T6 F hU.1 hV gH gI)<|BL Aa Aa (Ek ht)<|wv BO<|wv (A9 (Ek ht))<|ms Aa<|ck gJ λhC gK=>by refine BL Aa Aa (Ek hC)<|ms Aa<|BL Aa Aa (Ek hC)<|ob gK λhW gL gM=>EG [0,0,0,0,0] AgT (Vh F hd h6 ha hb h7 hr.2.2 ([101,49,46,49]:Aw) hW gL) ?_;rintro _ _ ⟨v80,gN,rfl,rfl⟩;refine BL Aa Aa (Ek hC)<|wv BU<|wv (A9 (Ek hC))<|ms Aa<|ck gM λhD gO=>BL Aa Aa (Ek hD)<|ms Aa<|BL Aa Aa (Ek hD)<|ob gO λhe gP gQ=>EG [0,0,0,0,0] AgT (Vh F hd v80 ha hb gN hW.2 ([101,49,46,49]:Aw) he gP) ?_;rintro _ _ ⟨hu,hw,rfl,rfl⟩;refine BL Aa Aa (Ek hD)<|wv BU<|wv (A9 (Ek hD))<|ms Aa<|ck gQ λhx gR=>BL Aa Aa (Ek hx)<|ms Aa<|BL Aa Aa (Ek hx)<|ob gR λgS gT gU=>EG [0,0,0,0,0] AgV (Ld F hd hu ha hb hw he.2 gS gT) ?_;rintro _ _ ⟨rfl,rfl⟩;refine BL Aa Aa (Ek hx)<|wv B1<|BL Aa Aa (Ek hx)<|wv BU<|wv (A9 (Ek hx))<|ms Aa<|ck gU λhq gV=>BL Aa Aa (Ek hq)<|ms Aa<|BL Aa Aa (Ek hq)<|ob gV λhX gW gX=>EG [0,0,0,0,0] call13 (Xa hd hu ha hb hw he.2 hX gW) ?_;rintro _ _ ⟨rfl,rfl⟩;exact BL Aa Aa (Ek hq)<|Dy ([([101,49]:Aw)]:List Aw) eS Ev DS Uc Aa ⟨cO Aa,trivial⟩ D6 λgY=>by refine BL Aa Aa (Ek hq)<|WL.freeze (i:=0) Aa<|WL.up (d:=137) Aa (Up.fact 0 Aa)<|ob gX λgZ ca cb=>CS call12 (AaP F hX ([([101,49]:Aw)]:List Aw) gZ ca)<|BL Aa Aa (Ek hq)<|wv BO<|wv (A9 (Ek hq))<|Be<|ck cb λcc cd=>DZ Aa (Ek cc)<|BQ<|AT<|wv (BI 7)<|ob cd λhN ce cf=>EG [6] call24 (Acn F (.slice (Ad ⟨hi,0,Ai⟩) 2 2) (AO.mk ([101,49]:Aw) ([116]:Aw) 1 r1 ([(A1.mk 1 ([107]:Aw) r4 0),(A1.mk 3 ([115]:Aw) r7 0)]:List A1) 5) hN ce) ?_;rintro _ _ ⟨rfl,rfl⟩;refine ms Aa<|wv A4<|wv A4<|ms Aa<|Dt<|ob cf λhY cg ch=>CS call25 (Nm F ([101,49,46,49]:Aw) hY cg)<|ms Aa<|wv A4<|wv A4<|ms Aa<|Dt<|ob ch λhZ ci cj=>EG [] call5 (Acl hZ ci) ?_;rintro _ _ ⟨hk,cl,hf,hg,cm,rfl,rfl⟩;refine ms Aa<|BH Aa<|wv BU<|ms Aa<|ck cj λhO cn=>BL Aa Aa (Ek hO)<|ms Aa<|BL Aa Aa (Ek hO)<|wv BU<|wv (A9 (Ek hO))<|ms Aa<|ck cn λhy co=>BL Aa Aa (Ek hy)<|ms Aa<|BL Aa Aa (Ek hy)<|ms Aa<|BL Aa Aa (Ek hy)<|ob co λga cp cq=>EG [0,0,0,0,0] Abz (Nl F hk cl hf hg cm hZ hN.1 ga cp) ?_;rintro _ _ ⟨cr,v127,rfl,rfl⟩;refine BL Aa Aa (Ek hy)<|wv BU<|wv (A9 (Ek hy))<|ms Aa<|ck cq λhz ct=>BL Aa Aa (Ek hz)<|ms Aa<|BL Aa Aa (Ek hz)<|ms Aa<|BL Aa Aa (Ek hz)<|ob ct λgb cu cv=>EG [0,0,0,0,0] Abz (Nl F hk cr hf hg v127 ga.2 hY.1 gb cu) ?_;rintro _ _ ⟨cw,cx,rfl,rfl⟩;refine BL Aa Aa (Ek hz)<|wv BU<|wv (A9 (Ek hz))<|ms Aa<|ck cv λh0 cy=>BL Aa Aa (Ek h0)<|ms Aa<|BL Aa Aa (Ek h0)<|ms Aa<|BL Aa Aa (Ek h0)<|ob cy λgc cz c0=>EG [0,0,0,0,0] Abz (Nl F hk cw hf hg cx gb.2 hN.1 gc cz) ?_;rintro _ _ ⟨c1,c2,rfl,rfl⟩;refine BL Aa Aa (Ek h0)<|wv BU<|wv (A9 (Ek h0))<|ms Aa<|ck c0 λhE c3=>BL Aa Aa (Ek hE)<|ms Aa<|BL Aa Aa (Ek hE)<|ob c3 λhh c4 c6=>EG [0,0,0,0,0] Abz (Nl F hk c1 hf hg c2 gc.2 ([120]:Aw) hh c4) ?_;rintro _ _ ⟨hG,hH,rfl,rfl⟩;refine BL Aa Aa (Ek hE)<|wv BU<|wv (A9 (Ek hE))<|ms Aa<|ck c6 λh1 c7=>BL Aa Aa (Ek h1)<|ms Aa<|BL Aa Aa (Ek h1)<|ob c7 λc8 c9 cB=>EG [0,0,0,0,0] AgV (Ld F hk hG hf hg hH hh.2 c8 c9) ?_;rintro _ _ ⟨rfl,rfl⟩;refine BL Aa Aa (Ek h1)<|wv B1<|BL Aa Aa (Ek h1)<|wv BU<|wv (A9 (Ek h1))<|ms Aa<|ck cB λh3 cC=>BL Aa Aa (Ek h3)<|ms Aa<|BL Aa Aa (Ek h3)<|ob cC λcD cE cF=>EG [0,0,0,0,0] call19 (Rb F hk hG hf hg hH hh.2 ([116]:Aw) cD cE) ?_;rintro _ _ ⟨rfl,rfl⟩;exact BL Aa Aa (Ek h3)<|wv B1<|BL Aa Aa (Ek h3)<|wv BU<|wv (A9 (Ek h3))<|Be<|ck cF λcG cH=>DZ Aa (Ek cG)<|BQ<|AT<|wv AB<|wv (Ay 12)<|ck cH λhP cI=>wv (EO 5 MR Ha Aa Aa Aa (Cl hP))<|wv (Gg (k:=5) Gm Aa DS Aa (Cl hP) Aa Aa Aa)<|NK (enc:=B7) (ys:=([(A1.mk 1 ([107]:Aw) r4 0),(A1.mk 3 ([115]:Aw) r7 0)]:List A1)) (y':=(A1.mk (A2 ([(A1.mk 1 ([107]:Aw) r4 0),(A1.mk 3 ([115]:Aw) r7 0)]:List A1) 1).aa ([83]:Aw) (A2 ([(A1.mk 1 ([107]:Aw) r4 0),(A1.mk 3 ([115]:Aw) r7 0)]:List A1) 1).aj (A2 ([(A1.mk 1 ([107]:Aw) r4 0),(A1.mk 3 ([115]:Aw) r7 0)]:List A1) 1).an)) (i:=5) (j:=1) DS Aa Aa (Cs Aa) Aa hP Aa Aa (H':=[CF hk hh.2.ax hG hf hg hH,Co hG hh.2.ah,.map hf (BF AZ hh.2.ao),.map hg (BF A6 hh.2.aC),BX hH hh.2.ae,Db (.slice (Ad ⟨hi,0,Ai⟩) 2 2) (List.set ([(A1.mk 1 ([107]:Aw) r4 0),(A1.mk 3 ([115]:Aw) r7 0)]:List A1) (CV 1) (A1.mk (A2 ([(A1.mk 1 ([107]:Aw) r4 0),(A1.mk 3 ([115]:Aw) r7 0)]:List A1) 1).aa ([83]:Aw) (A2 ([(A1.mk 1 ([107]:Aw) r4 0),(A1.mk 3 ([115]:Aw) r7 0)]:List A1) 1).aj (A2 ([(A1.mk 1 ([107]:Aw) r4 0),(A1.mk 3 ([115]:Aw) r7 0)]:List A1) 1).an)),.fact (.slice (Ad ⟨gY,0,Ai⟩) 1 1) (Cg 1 (BP eS ([([101,49]:Aw)]:List Aw))),CF hd he.2.ax hu ha hb hw,Co hu he.2.ah,.map ha (BF AZ he.2.ao),.map hb (BF A6 he.2.aC),BX hw he.2.ae,.blk gf [rS ([101,49]:Aw),rS ([116]:Aw),Bn 1,Cg 4 (BP A7 r1),rv (.slice (Ad ⟨hi,0,Ai⟩) 2 2),Bn 5] 34]) Aa<|bd cI λgd cJ cK=>by rw[← cJ];refine Ca Aa<|Ca Aa<|wv (BI 12)<|ob cK λcL cM cP=>EG [5] AgU (Wf (.slice (Ad ⟨hi,0,Ai⟩) 2 2) (AO.mk ([101,49]:Aw) ([116]:Aw) 1 r1 gd 5) cL cM) ?_;rintro _ _ ⟨rfl,rfl⟩;refine ms Aa<|wv A4<|wv A4<|ms Aa<|Ca Aa<|wv Bx<|ms Aa<|ck cP λhI cQ=>Bt hI (BI 12)<|wo hI<|ob cQ λcR cS cT=>EG [0] AgS (RZ F (.slice (Ad ⟨hi,0,Ai⟩) 2 2) (AO.mk ([101,49]:Aw) ([116]:Aw) 1 r1 gd 5) cR cS) ?_;rintro _ _ ⟨rfl,rfl⟩;refine Bt hI Bx<|EA Aa hI Aa<|ms Aa<|ck cT λh4 cU=>wo h4<|ms Aa<|wo h4<|ob cU λcV cW cX=>EG [7,7,7,7,7] call19 (Rb F hd hu ha hb hw he.2 ([117]:Aw) cV cW) ?_;rintro _ _ ⟨rfl,rfl⟩;exact Bt h4 B1<|Bt h4 Bx<|EA Aa h4 Aa<|Bw Aa<|cs cX▸AC (Dj results4 AW) (sK 0) ⟨Aa,Aa⟩
end Go.Proofs.YtiddaamglmmnaaaGreatDoor.Q
namespace Go.Proofs.YtiddaamglmmnaaaGreatDoor
open Go
set_option linter.unusedVariables false
def GY (hd:Int)(ha:Bool×Int×AE)(hb:Bool×Int×A8)(he:Bool):Option (Stp (Int×Bool×(List Cd)×(List AK)×(List A0)×Bool×(List Aw)×(List A0)×(List (Aw×(List Av)))×(List (Aw×(List (Aw×Az))))) (Out Bool Unit)):=
 By he (Ad (.out (.ret Ah))) (Bc (BJ .i64 (hd+1))<|some (.next (hd+1,hb.2.2.ax,hb.2.2.ah,hb.2.2.ak,hb.2.2.ae,ha.2.2.ax,ha.2.2.ah,ha.2.2.ae,ha.2.2.ao,ha.2.2.aC)))
def J7 (F:Nat)(l:(List BZ))(tenant event:Aw)(ha:Int)(hg:Bool)(hh:(List Cd))(hi:(List AK))(hj:(List A0))(hk:Bool)(hl:(List Aw))(hm:(List A0))(hn:(List (Aw×(List Av))))(ho:(List (Aw×(List (Aw×Az))))):Option (Stp (Int×Bool×(List Cd)×(List AK)×(List A0)×Bool×(List Aw)×(List A0)×(List (Aw×(List Av)))×(List (Aw×(List (Aw×Az))))) (Out Bool Unit)):=
 By (Ac (ha<(Ae l:Int))) (Bc (CE ha (Ae l:Int))<|BB (Xs F (AE.mk hk hl hn ho hm) (BZ.mk (A2 l ha).aa (A2 l ha).fC (A2 l ha).fS (A2 l ha).fN)) λhb=>BB (OY F (A8.mk hg hh hi hj) (BZ.mk (A2 l ha).aa (A2 l ha).fC (A2 l ha).fS (A2 l ha).fN)) λhd=>BB (QY hb.2.2 event) λhe=>BB (QB F hd.2.2 event) λhf=>By (!(hb.1 ==hd.1)) (GY ha hb hd Af) (By (!Ac (hb.2.1=hd.2.1)) (GY ha hb hd Af) (By (!(he.2 ==hf.2)) (GY ha hb hd Af) (BB (LA F he.1 hf.1) λhp=>By (!hp) (GY ha hb hd Af) (BB (Rc hb.2.2) λhq=>BB (NU F hd.2.2) λhr=>BB (Vz F hq hr) λhs=>By (!hs) (GY ha hb hd Af) (BB (JX F hb.2.2) λht=>BB (KB F hd.2.2) λhu=>BB (Ns F ht hu) λhw=>By (!hw) (GY ha hb hd Af) (BB (Qe F hb.2.2 tenant) λhx=>BB (QD F hd.2.2 tenant) λhy=>BB (Rn F hx hy) λhz=>GY ha hb hd (!hz)))))))) (Ad (.out (.go ())))
def MC (F:Nat):Option Bool:=
 BB (Ro F) λha=>Ad ha
def YG (F:Nat)(l:(List BZ))(tenant event:Aw):Option Bool:=
 By (Ac (60<(Ae l:Int))) (BB (Ro F) λr3=>Ad r3) (BB Afu λr7=>BB Yl λha=>BB (Cp (λσ=>J7 F l tenant event σ.1 σ.2.1 σ.2.2.1 σ.2.2.2.1 σ.2.2.2.2.1 σ.2.2.2.2.2.1 σ.2.2.2.2.2.2.1 σ.2.2.2.2.2.2.2.1 σ.2.2.2.2.2.2.2.2.1 σ.2.2.2.2.2.2.2.2.2) F (0,ha.ax,ha.ah,ha.ak,ha.ae,r7.ax,r7.ah,r7.ae,r7.ao,r7.aC)) (Cb λν=>MC F ))
end Go.Proofs.YtiddaamglmmnaaaGreatDoor
namespace Go.Proofs.YtiddaamglmmnaaaGreatDoor.Q
open Go Go.RowKit
set_option linter.unusedVariables false
set_option linter.unusedSimpArgs false
set_option maxRecDepth 100000
set_option maxHeartbeats 4000000
theorem AiC (F:Nat)(l:(List BZ))(tenant event:Aw)(r:Bool)(h:YG F l tenant event=Ad r):FN 3 [Cg 9 (BP DG l),rS tenant,rS event] [] (PO (rB r)):=en func3 ntmps3 Aa λw Z=>AY Aa<|BH Aa<|wv B1<|wv Cw<|Be<|BG h (λc1 h2=>AT<|ob h2 λr3 e5 h4=>CS call4 (Vr F r3 e5)<|Bw Aa<|A5<|cs h4▸Gd results3 ⟨Aa,Aa⟩) λc1 h6=>by refine BQ<|AT<|ob h6 λr7 e9 h8=>EG [] call5 (Acl r7 e9) ?_;rintro _ _ ⟨hh,hP,hi,hj,hQ,rfl,rfl⟩;refine ms Aa<|Dt<|ob h8 λhs hR hS=>EG [] call6 (Ah8 hs hR) ?_;rintro _ _ ⟨hk,hT,v20,rfl,rfl⟩;exact ms Aa<|BH Aa<|Be<|AL<|JH [0,2,3,3] Aa<|ob hS λhU hV hz=>B8 (V:=Unit×Unit) 0 (λσ=>Cp (λσ=>J7 F l tenant event σ.1 σ.2.1 σ.2.2.1 σ.2.2.2.1 σ.2.2.2.2.1 σ.2.2.2.2.2.1 σ.2.2.2.2.2.2.1 σ.2.2.2.2.2.2.2.1 σ.2.2.2.2.2.2.2.2.1 σ.2.2.2.2.2.2.2.2.2) σ.1 σ.2.1=Ad hU) (λσ=>[(0,Cg 9 (BP DG l)),(1,rS tenant),(2,rS event),(7,rP hh 0),(8,rP hk 0),(9,Bn σ.2.1.1)]) (λσ=>[HN hk σ.2.1.2.1 σ.2.2.1 σ.2.1.2.2.2.1 σ.2.2.2.1,CF hh σ.2.1.2.2.2.2.2.1 σ.2.2.2.2.1 hi hj σ.2.2.2.2.2,.map hi (BF AZ σ.2.1.2.2.2.2.2.2.2.2.1),.map hj (BF A6 σ.2.1.2.2.2.2.2.2.2.2.2),HM σ.2.2.1 σ.2.1.2.2.1,BX σ.2.2.2.1 σ.2.1.2.2.2.2.1,Co σ.2.2.2.2.1 σ.2.1.2.2.2.2.2.2.1,BX σ.2.2.2.2.2 σ.2.1.2.2.2.2.2.2.2.1]) (λσ=>σ.1) (F,(0,hs.ax,hs.ah,hs.ak,hs.ae,r7.ax,r7.ah,r7.ae,r7.ao,r7.aC),(hT,v20,hP,hQ)) hV (AP Aa) (sM 255 Aa) (λσ=>MC F =Ad r) (λσ=>[]) (λσ=>[]) (by rintro⟨ce,⟨hd,h0,h1,h3,h5,h7,h9,hA,hB,hC⟩,⟨hW,hX,hY,hZ⟩⟩ ga;refine EM ?_;obtain⟨gb,rfl,ht,hu,hw⟩:=C5 ga;have hu:J7 F l tenant event hd h0 h1 h3 h5 h7 h9 hA hB hC=Ad ht:=hu;exact Bl<|AY Aa<|wv B1<|wv BS<|Be<|BG hu (λgc gd=>by refine B5<|AL<|AY Aa<|ck gd λhD gf=>wv (Bh hD)<|wv Dq<|ob gf λha gg gh=>EG [1,5,1,1,3] call7 (Alh F hh hY hi hj hZ (AE.mk h7 h9 hB hC hA) (BZ.mk (A2 l hd).aa (A2 l hd).fC (A2 l hd).fS (A2 l hd).fN) ha gg) ?_;rintro _ _ ⟨hm,hn,rfl,rfl⟩;refine ms Aa<|wv A4<|wv A4<|ms Aa<|Ca Aa<|wv (Bh hD)<|wv Dq<|ob gh λhb gi gj=>EG [5,5,5] call8 (AfN F hk hW hX (A8.mk h0 h1 h3 h5) (BZ.mk (A2 l hd).aa (A2 l hd).fC (A2 l hd).fS (A2 l hd).fN) hb gi) ?_;rintro _ _ ⟨ho,hp,rfl,rfl⟩;refine ms Aa<|wv A4<|wv A4<|ms Aa<|Ca Aa<|ob gj λhE gl gm=>EG [3,3,3,3,3] call9 (WX hh hm hi hj hn ha.2.2 event hE gl) ?_;rintro _ _ ⟨rfl,rfl⟩;refine ms Aa<|wv A4<|wv A4<|ms Aa<|Ca Aa<|ob gm λhG gp gq=>EG [5,5,5] call10 (AbN F hk ho hp hb.2.2 event hG gp) ?_;rintro _ _ ⟨rfl,rfl⟩;exact ms Aa<|wv A4<|wv A4<|CW Aa<|D2 (S:=Bool×Unit) (λσ=>GY hd ha hb σ.1=Ad ht) (λσ=>[(0,Cg 9 (BP DG l)),(1,rS tenant),(2,rS event),(7,rP hh 0),(8,rP hk 0),(9,Bn hd),(104,rB σ.1)]) (λσ=>[HN hk hb.2.2.ax ho hb.2.2.ak hp,HM ho hb.2.2.ah,BX hp hb.2.2.ae,CF hh ha.2.2.ax hm hi hj hn,Co hm ha.2.2.ah,.map hi (BF AZ ha.2.2.ao),.map hj (BF A6 ha.2.2.aC),BX hn ha.2.2.ae]) (BD Aa<|wv (Ama underlying4 Aa Aa)<|ms Aa<|bz gq (λhq gr=>CI hq Aa<|wv (Ax hq)<|ms Aa<|Ea Aa<|wv (Ax Aa)<|ms Aa<|Ea Aa<|wv (Ax Aa)<|ms Aa<|Ea Aa<|wv (Ax Aa)<|ms Aa<|Ea Aa<|wv (Ax Aa)<|ms Aa<|Ea Aa<|wv (Ax Aa)<|AD<|AG (AA (Af,()) gr (AP Aa) (sC (sC (sC (sC (sC (sC (sC (sC sN)))))))))) λhq gs=>wo hq<|ms Aa<|wo hq<|ms Aa<|Bt hq BU<|D7 Aa hq Aa<|ms Aa<|bz gs (λhr gu=>CI hr Aa<|wv (Ax hr)<|ms Aa<|Ea Aa<|wv (Ax Aa)<|ms Aa<|Ea Aa<|wv (Ax Aa)<|ms Aa<|Ea Aa<|wv (Ax Aa)<|ms Aa<|Ea Aa<|wv (Ax Aa)<|AD<|AG (AA (Af,()) gu (AP Aa) (sC (sC (sC (sC (sC (sC (sC (sC sN)))))))))) λhr gv=>wo hr<|ms Aa<|wo hr<|ms Aa<|Bt hr (Ama underlying4 Aa Aa)<|D7 Aa hr Aa<|ms Aa<|bz gv (λhl gw=>CI hl Aa<|wv (Ax hl)<|ms Aa<|Ea Aa<|wv (Ax Aa)<|ms Aa<|Ea Aa<|wv (Ax Aa)<|ms Aa<|Ea Aa<|wv (Ax Aa)<|AD<|AG (AA (Af,()) gw (AP Aa) (sC (sC (sC (sC (sC (sC (sC (sC sN)))))))))) λhl gx=>wo hl<|ms Aa<|wo hl<|ms Aa<|wo hl<|ob gx λgy gz g0=>CS call11 (T6 F hE.1 hG.1 gy gz)<|Bt hl BO<|D7 Aa hl Aa<|ms Aa<|bz g0 (λhf g1=>CI hf Aa<|wv (Ax hf)<|ms Aa<|Ea Aa<|wv (Ax Aa)<|ms Aa<|Ea Aa<|wv (Ax Aa)<|AD<|AG (AA (Af,()) g1 (AP Aa) (sC (sC (sC (sC (sC (sC (sC (sC sN)))))))))) λhf g2=>by refine wo hf<|ms Aa<|wo hf<|ob g2 λhH g3 g4=>EG [3,3,3,3,3] call13 (Xa hh hm hi hj hn ha.2.2 hH g3) ?_;rintro _ _ ⟨rfl,rfl⟩;refine wo hf<|ms Aa<|wo hf<|ob g4 λhI g5 g6=>EG [5,5,5] call14 (AbP F hk ho hp hb.2.2 hI g5) ?_;rintro _ _ ⟨rfl,rfl⟩;exact wo hf<|ob g6 λg7 g8 g9=>CS call12 (AaP F hH hI g7 g8)<|Bt hf BO<|D7 Aa hf Aa<|ms Aa<|bz g9 (λhg gA=>CI hg Aa<|wv (Ax hg)<|ms Aa<|Ea Aa<|wv (Ax Aa)<|AD<|AG (AA (Af,()) gA (AP Aa) (sC (sC (sC (sC (sC (sC (sC (sC sN)))))))))) λhg gB=>by refine wo hg<|ms Aa<|wo hg<|ob gB λhJ gC gD=>EG [3,3,3,3,3] AgV (Ld F hh hm hi hj hn ha.2.2 hJ gC) ?_;rintro _ _ ⟨rfl,rfl⟩;refine wo hg<|ms Aa<|wo hg<|ob gD λhK gE gF=>EG [5,5,5] call17 (SN F hk ho hp hb.2.2 hK gE) ?_;rintro _ _ ⟨rfl,rfl⟩;exact wo hg<|ob gF λgG gH gI=>CS call15 (YF F hJ hK gG gH)<|Bt hg BO<|D7 Aa hg Aa<|ms Aa<|bz gI (λhe gJ=>CI he Aa<|wv (Ax he)<|AD<|AG (AA (Af,()) gJ (AP Aa) (sC (sC (sC (sC (sC (sC (sC (sC sN)))))))))) λhe gK=>by refine wo he<|ms Aa<|wo he<|ms Aa<|wo he<|ob gK λhL gL gM=>EG [3,3,3,3,3] call19 (Rb F hh hm hi hj hn ha.2.2 tenant hL gL) ?_;rintro _ _ ⟨rfl,rfl⟩;refine wo he<|ms Aa<|wo he<|ms Aa<|wo he<|ob gM λhN gN gO=>EG [5,5,5] call20 (AeS F hk ho hp hb.2.2 tenant hN gN) ?_;rintro _ _ ⟨rfl,rfl⟩;exact wo he<|ob gO λhO gP gQ=>CS call18 (Ac3 F hL hN hO gP)<|Bt he BO<|D7 Aa he Aa<|AD<|AG (AA (!hO,()) gQ (AP Aa) (sC (sC (sC (sC (sC (sC (sC (sC sN))))))))))<|by rintro⟨gR,⟨⟩⟩ hx;refine EM ?_;exact have hx:GY hd ha hb gR=Ad ht:=hx;BG hx (λgS gT=>Cy Aa<|BW<|A5<|Bj<|have gU:=BK gT hw hz;BW<|cs gU▸AC (Dj results3 AW) (sK 0) ⟨Aa,Aa⟩) λgS gV=>by refine Cf<|DB<|BD Aa<|ck gV λgW gX=>wv (Bg gW)<|B9 Aa<|Jp [0,2,3,3] ?_;exact have gY:=Bp gX hw;AG (AA (gb,(hd+1,hb.2.2.ax,hb.2.2.ah,hb.2.2.ak,hb.2.2.ae,ha.2.2.ax,ha.2.2.ah,ha.2.2.ae,ha.2.2.ao,ha.2.2.aC),(ho,hp,hm,hn)) ⟨gY,Aqw _⟩ (AP Aa) (sC (sC (sC (sC (sC (sC (sC (sC sN)))))))))) λgc gZ=>BE<|A3<|have ca:=Ci gZ hw hz;A3 (Bk (AA ((),()) ca Hj.nil (sS (sS (sS (sS (sS (sS (sS (sS sN)))))))))))<|by rintro⟨⟨⟩,⟨⟩⟩ hy;refine Hb ?_;exact have hy:MC F =Ad r:=hy;Bo<|CL<|AT<|ob hy λcb cc cd=>CS call4 (Vr F cb cc)<|Bw Aa<|cs cd▸Gd results3 ⟨Aa,Aa⟩
end Go.Proofs.YtiddaamglmmnaaaGreatDoor.Q
namespace Go.Proofs.YtiddaamglmmnaaaGreatDoor.lawOutboxDoes
open Go
set_option linter.unusedVariables false
def AhT (y:Av):Bool:=(BJ .i64) y.aa&&(BJ .i64) y.ay&&Qb y.au&&(BJ .i64) y.fN
def AkJ (y:A1):Bool:=(BJ .i64) y.aa&&Qb y.ap&&(λys:(List Av)=>ys.all AhT&&Ac (Ae ys≤1048576)) y.aj&&(BJ .i64) y.an
def AmF (y:AO):Bool:=Qb y.ai&&Qb y.ag&&(BJ .i64) y.ar&&(λys:(List Av)=>ys.all AhT&&Ac (Ae ys≤1048576)) y.az&&(λys:(List A1)=>ys.all AkJ&&Ac (Ae ys≤1048576)) y.ac&&(BJ .i64) y.aG
def AkK (y:BZ):Bool:=(BJ .i64) y.aa&&AmF y.fC&&Qb y.fS&&(BJ .i64) y.fN
def Law:Prop:=∀(y0:(List BZ)) (y1:Aw) (y2:Aw) (o0:(λys:(List BZ)=>ys.all AkK&&Ac (Ae ys≤1048576)) y0=Af) (o1:Qb y1=Af) (o2:Qb y2=Af),∃F,YG F y0 y1 y2=Ad Af
end Go.Proofs.YtiddaamglmmnaaaGreatDoor.lawOutboxDoes
namespace Go.Proofs.YtiddaamglmmnaaaGreatDoor
open Go
set_option linter.unusedVariables false
set_option linter.unusedSimpArgs false
def P9 (c:UInt8):Bool:=Ac (32≤c.toNat)&&Ac (c.toNat≤126)
variable{x:Int}{s:Aw}{c:UInt8}
theorem Ga (h:s[x.toNat]? =Ad c):BA s x=(c.toNat:Int):=by simp[BA,h]
variable{α:Type}
theorem VZ {p:α→Bool}{s:List α}{k:Nat}{c:α}(h:s[k]? =Ad c):(s.take (k+1)).all p=((s.take k).all p&&p c):=by
 rw[List.take_add_one,h];simp
theorem Zd {p:α→Bool}{s:List α}{k:Nat}{c:α}(h:s[k]? =Ad c)(hp:p c=Ah):s.all p=Ah:=by
 rw[List.all_eq_false];exact⟨c,Aq1 h,by simp[hp]⟩
variable{F:Nat}
theorem Z4 (hF:Ae s<F)(hs:Ae s≤9223372036854775807):SE F s=Ad (s.all P9):=by
 obtain⟨o,h1,h2⟩:=Nr (body:=λσ=>NH s σ) (λx=>0≤x∧x≤(Ae s:Int)∧(s.take x.toNat).all P9=Af) (λx=>Ae s-x.toNat)
  (λo=>Cb (λ_=>Ml) o=Ad (s.all P9)) (λx ⟨h0,hl,ha⟩=>by
   unfold NH
   by_cases hx:x<(Ae s:Int)
   ·obtain⟨c,hc⟩:∃c,s[x.toNat]? =Ad c:=⟨s[x.toNat]'(Ab),Aqx Ab⟩
    rw[AX (by simpa using hx),Bi h0 hx,Ga hc]
    cases ho:P9 c with
    | false=>
     refine .inr ⟨.ret Ah,?_,?_⟩
     ·rw[AX];simp only[P9,Arj,Aqt] at ho;simp only[AqF,Aqq];omega
     ·simp[Cb,Zd hc ho]
    | true=>
     refine .inl ⟨x+1,?_,⟨Ab,Ab,?_⟩,Ab⟩
     ·rw[AF,AH Ab Ab];simp only[P9,Aqu,Aqq] at ho;simp only[AqD,Aqt];omega
     ·rw[show(x+1).toNat=x.toNat+1 from Ab,VZ hc,ha,ho];rfl
   ·refine .inr ⟨.go (),by rw[AF (by simpa using hx)],?_⟩;rw[show x.toNat=Ae s from Ab,Arn] at ha;simp[Cb,Ml,ha]) F 0 ⟨Ab,Ab,Aj⟩ (by simpa using hF)
 unfold SE;rw[Bu h1,h2]
theorem Yh (F:Nat)(s:Aw):PY F s=SE F s:=rfl
theorem AeP (hF:Ae s<F)(hs:Ae s≤9223372036854775807):PY F s=Ad (s.all P9):=by rw[Yh];exact Z4 hF hs
def pl (c:Av):Bool:=
 bif Ac (c.aa=1) then(Ac (c.ay=0)&&(Ac (c.au=[])&&Ac (c.fN=0))) else
 bif Ac (c.aa=2) then((Ac (c.ay=0)||decide (c.ay=1))&&(Ac (c.au=[])&&Ac (c.fN=0))) else
 bif Ac (c.aa=3) then(Ac (c.au=[])&&Ac (c.fN=0)) else
 bif Ac (c.aa=4) then(Ac (c.ay=0)&&(Ac (c.fN=0)&&c.au.all P9)) else
 bif Ac (c.aa=5) then(Ac (c.ay=0)&&(Ac (c.au=[])&&Ac (0≤c.fN))) else
 bif Ac (c.aa=6) then(Ac (c.ay=0)&&(Ac (c.au=[])&&Ac (0≤c.fN))) else Ah
theorem Ic {p:Bool}{x y:Option α}{a b:α}(h:x=Ad a)(h':y=Ad b):By p x y=Ad (bif p then a else b):=by cases p<;>simp[By,h,h']
theorem Ae9 {c:Av}(hF:Ae c.au<F)(hs:Ae c.au≤9223372036854775807):Uv F c=Ad (pl c):=by
 unfold Uv pl;rw[Z4 hF hs];refine Ic rfl (Ic ?_ (Ic rfl (Ic ?_ (Ic rfl (Ic rfl rfl)))))
 ·cases h:Ac (c.ay=0)<;>simp
 ·simp[imp,Bc,ov]
def Td:List Bf→List Bf
 | []=>[]
 | e::S=>bif Ac (1<e.aL) then⟨e.aH,e.aL-1,e.aH,e.aN,e.aJ⟩::S else Td S
theorem TW [Inhabited α](xs:List α)(e:α):A2 (xs++[e]) (Ae xs:Int)=e:=by simp[A2]
theorem Q6 (xs:List α)(e e':α):List.set (xs++[e]) (Ao (Ae xs:Int)) e'=xs++[e']:=Aj
theorem Rm (xs:List α)(e:α):(Ae (xs++[e]):Int)-1=(Ae xs:Int):=Aj
theorem AeF (xs:List α)(e:α):Aq (Ao (Ae xs:Int)) (xs++[e])=xs:=Aj
theorem SG:∀(S:List Bf) (F:Nat),Ae S<F→(∀e∈S,1≤e.aL∧e.aL≤9223372036854775807)→Ae S≤4611686018427387904→
  ∃o,Cp (λσ=>Ip σ) F S.reverse=Ad o∧Cb (λν=>Io ν) o=Ad (Td S).reverse
 | [],F+1,_,_,_=>⟨.go [],by simp[Cp,Ip,By],by simp[Cb,Io,Td]⟩
 | e::S,F+1,hF,hb,hl=>by
  obtain⟨h1,h2⟩:=hb e Aj;simp only[Aqp] at hF hl;have hx:Ae S.reverse=Ae S:=Aj
  generalize hxs:S.reverse=xs at hx;have hr:(e::S).reverse=xs++[e]:=by simp[hxs]
  rw[hr];have hb1:Ip (xs++[e])=bif Ac (1<e.aL) then Ad (.out (.ret (xs++[⟨e.aH,e.aL-1,e.aH,e.aN,e.aJ⟩]))) else Ad (.next xs):=by
   unfold Ip;rw[AX Aj];simp only[Rm,TW,Q6,Pp];rw[AH Ab Ab,Bi Ab Am,AH Ab Ab]
   cases hd:Ac (1<e.aL) with
   | true=>
    rw[AX (by simp at hd ⊢;omega)];rfl
   | false=>
    rw[AF (by simp at hd ⊢;omega),AH Ab Ab,C0 Ab Am,AeF];rfl
  rw[Cp,hb1]
  cases hd:Ac (1<e.aL) with
  | true=>exact⟨_,rfl,by simp[Cb,Io,Td,hd,hxs]⟩
  | false=>
   obtain⟨o,ho1,ho2⟩:=SG S F Ab (λe he=>hb e (by simp[he])) Ab;rw[hxs] at ho1;exact⟨o,ho1,by rw[ho2];simp[Td,hd]⟩
theorem Uy {S:List Bf}(hF:Ae S<F)(hb:∀e∈S,1≤e.aL∧e.aL≤9223372036854775807)(hl:Ae S≤4611686018427387904):T2 F S.reverse=Ad (Td S).reverse:=by
 obtain⟨o,h1,h2⟩:=SG S F hF hb hl;unfold T2;rw[Bu h1,h2]
def RU (s:Aw):Int:=Ae s+2+s.count 34+s.count 92
theorem Ut (hs:Ae s≤1152921504606846976):Q2 s=Ad (RU s):=by
 have h1:s.count 34≤Ae s:=List.count_le_length;have h2:s.count 92≤Ae s:=List.count_le_length;unfold Q2 Lib.countByte;rw[AH Ab Ab,AH Ab Ab,AH Ab Ab];rfl
def szc (c:Av):Int:=
 bif Ac (c.aa=1) then 4 else bif Ac (c.aa=2) then IntKind.wrap .i64 (5-c.ay) else bif Ac (c.aa=3) then(Ae (Lib.itoa c.ay):Int) else
 bif Ac (c.aa=4) then RU c.au else IntKind.wrap .i64 (2+max 0 (IntKind.wrap .i64 (c.fN-1)))
theorem Z5 {c:Av}(hs:Ae c.au≤1152921504606846976)(hi:BJ .i64 c.ay=Af):Z6 c=Ad (szc c):=by
 unfold Z6 szc;rw[Ut hs];refine Ic rfl (Ic rfl (Ic ?_ (Ic rfl rfl)));rw[Cn hi]
def NC (d:Nat)(sh:Bs)(c:Av):Bs:=
 ⟨max sh.aI ((d:Int)+1),IntKind.wrap .i64 (sh.aF+szc c),sh.aD||(Ac (c.aa=3)&&!(Ac ((-1000000000000)≤c.ay)&&Ac (c.ay≤1000000000000))),sh.aK||decide (200<(Ae c.au:Int))⟩
def shk (sh:Bs)(c:Av):Bs:=⟨sh.aI,IntKind.wrap .i64 (sh.aF+(RU c.au+1)),sh.aD,sh.aK||decide (200<(Ae c.au:Int))⟩
def Sj:List Bf→Bool
 | []=>Ah
 | e::_=>e.ap
abbrev Zm:=List Bf×Int×Bs
abbrev LkO:=Out (Int×Bs×Bool) Bs
def lkc (n:Int)(S:List Bf)(i:Int)(sh:Bs)(c:Av):Stp Zm LkO:=
 bif !pl c then .out (.ret (0,sh,Ah)) else
 match S with
 | e::S'=>
  bif e.ap then
   bif !Ac (c.aa=4)||(e.aJ&&(CH c.au e.aN||decide (c.au=e.aN))) then .out (.ret (0,sh,Ah))
   else .next ((⟨e.aH,e.aL,Ah,c.au,Af⟩::S').reverse,i+1,shk sh c)
  else bif Ac (0<c.fN) then
   bif Ac (n<c.fN) then .out (.ret (0,NC (Ae S) sh c,Ah))
   else .next ((⟨Ac (c.aa=6),c.fN,Ac (c.aa=6),[],Ah⟩::S).reverse,i+1,NC (Ae S) sh c)
  else bif Ac (Td S=[]) then .out (.ret (i+1,NC (Ae S) sh c,Af)) else .next ((Td S).reverse,i+1,NC (Ae S) sh c)
 | []=>
  bif Ac (0<c.fN) then
   bif Ac (n<c.fN) then .out (.ret (0,NC 0 sh c,Ah))
   else .next ([⟨Ac (c.aa=6),c.fN,Ac (c.aa=6),[],Ah⟩],i+1,NC 0 sh c)
  else .out (.ret (i+1,NC 0 sh c,Af))
theorem VE {S:List Bf}:Ac ((Ae (Td S).reverse:Int)=0)=Ac (Td S=[]):=by
 rw[Aq2];simp
variable{M:Nat}
theorem Aoi {xs:List α}{e x:α}(h:Ae xs+1≤M)(hM2:(M+2)*48≤140737488355328):De 48 (Ae (xs++[e])+Ae ([x]:List α))=Af:=by
 refine Aqo (Nat.le_trans (Nat.mul_le_mul_right 48 ?_) hM2);rw[Aqs,AqA,AqA];omega
set_option maxHeartbeats 600000 in
theorem ZB {F:Nat}{v:List Av}{S:List Bf}{i:Int}{sh:Bs}{c:Av}(h0:0≤i)(hc:v[i.toNat]? =Ad c){M:Nat}(hM:M≤1152921504606846976)(hM2:(M+2)*48≤140737488355328)(hv:Ae v≤M)(hS:Ae S≤M)(hF:M<F)
  (hs:Ae c.au≤M) (hi:BJ .i64 c.ay=Af) (hb:∀e∈S,1≤e.aL∧e.aL≤9223372036854775807):HR F v S.reverse i sh=Ad (lkc (Ae v) S i sh c):=by
 have hil:i.toNat<Ae v:=(List.getElem?_eq_some_iff.1 hc).1;have hat:A2 v i=c:=by simp[A2,hc]
 unfold HR lkc;rw[AX Am,Bi h0 Ab,hat,Ae9 Ab Ab,Bu rfl]
 cases hp:pl c with
 | false=>rw[AX Aj];rfl
 | true=>
  rw[AF Aj]
  cases S with
  | nil=>
   rw[Cn (by simp[imp]),Cn (by simp[imp]),AF Aj,AH Aj Aj,Z5 Ab hi,Bu rfl,Cn (by simp[imp,DQ])];simp only[DQ,ov,AqE,Aq5,Aqr]
   cases hn:Ac (0<c.fN) with
   | true=>
    rw[AX rfl]
    cases hm:Ac ((Ae v:Int)<c.fN) with
    | true=>rw[AX rfl];simp[NC]
    | false=>rw[AF rfl,Cn (by simp[De])];unfold IO;rw[AH Ab Ab];simp[NC]
   | false=>
    rw[AF rfl,Bu (Uy (S:=[]) Am Aj Aj),AX (by simp[Td]),AH Ab Ab];simp[NC]
  | cons e S'=>
   have hx:Ae S'.reverse=Ae S':=Aj
   generalize hxs:S'.reverse=xs at hx;have hr:(e::S').reverse=xs++[e]:=by simp[hxs]
   simp only[Aqp] at hS;have hlen:(Ae (xs++[e]):Int)=(Ae xs:Int)+1:=Aj
   rw[hr,Cn (by simp only[imp,Rm];rw[EV Ab Ab];simp),Cn (by simp only[imp,Rm];rw[L7 Ab Ab];simp)];rw[Rm,TW]
   cases hk:e.ap with
   | true=>
    rw[AX Aj,AH Ab Ab,Bi Ab Ab];simp only[hk,Aq5,Aqr,Aqv]
    cases ht : !Ac (c.aa=4)||(e.aJ&&(CH c.au e.aN||decide (c.au=e.aN))) with
    | true=>rw[AX rfl];rfl
    | false=>
     rw[AF rfl,Q6,Pp,TW,Q6,Pp,TW,Q6,Pp,Ut Ab,Bu rfl,AH (by unfold RU;omega) (by unfold RU;have:=@List.count_le_length UInt8 _ 34 c.au;have:=@List.count_le_length UInt8 _ 92 c.au;omega)];unfold IO;rw[AH Ab Ab];simp[shk,hxs]
   | false=>
    rw[AF Aj,hlen,AH Ab Ab,Z5 Ab hi,Bu rfl,Cn (by simp[imp,DQ])];simp only[hk,DQ,ov,AqE,Aq5,Aqr,Aqv]
    cases hn:Ac (0<c.fN) with
    | true=>
     rw[AX rfl]
     cases hm:Ac ((Ae v:Int)<c.fN) with
     | true=>rw[AX rfl];simp[NC,hx]
     | false=>rw[AF rfl,Cn (Aoi Ab hM2)];unfold IO;rw[AH Ab Ab];simp[NC,hx,hxs]
    | false=>
     have hcl:=Uy (S:=e::S') (F:=F) Am hb Am;rw[hr] at hcl;rw[AF rfl,hcl,Bu rfl,VE]
     cases hq:Ac (Td (e::S')=[]) with
     | true=>rw[AX rfl,AH Ab Ab];simp[NC,hx]
     | false=>rw[AF rfl];unfold IO;rw[AH Ab Ab];simp[NC,hx]
section
variable {S O : Type} {body : S → Option (Stp S O)} {s t u : S} {o : O}
def Ig (body:S→Option (Stp S O))(s t:S):Prop:=∃k,∀n,Cp body (n+k) s=Cp body n t
def Fin (body:S→Option (Stp S O))(s:S)(o:O):Prop:=∃k,∀n,Cp body (n+k) s=Ad o
theorem Ig.refl (s:S):Ig body s s:=⟨0,λ_=>rfl⟩
theorem Ig.trans (h:Ig body s t)(h':Ig body t u):Ig body s u:=by
 obtain⟨k,hk⟩:=h;obtain⟨j,hj⟩:=h';exact⟨j+k,λn=>by rw[← Nat.add_assoc,hk,hj]⟩
theorem Ig.step (h:body s=Ad (.next t)):Ig body s t:=⟨1,λn=>by rw[Cp,h]⟩
theorem Fin.step (h:body s=Ad (.out o)):Fin body s o:=⟨1,λn=>by rw[Cp,h]⟩
theorem Ig.fin (h:Ig body s t)(h':Fin body t o):Fin body s o:=by
 obtain⟨k,hk⟩:=h;obtain⟨j,hj⟩:=h';exact⟨j+k,λn=>by rw[← Nat.add_assoc,hk,hj]⟩
end
inductive Fo where
 | nil
 | cell (k:Option Aw) (c:Av) (r:Fo)
 | node (k:Option Aw) (c:Av) (kids r:Fo)
def Ct:Option Aw→List Av
 | none=>[]
 | some s=>[⟨4,0,s,0⟩]
def Fo.flat:Fo→List Av
 | .nil=>[]
 | .cell k c r=>Ct k++c::r.flat
 | .node k c kids r=>Ct k++c::(kids.flat++r.flat)
def Fo.cnt:Fo→Nat
 | .nil=>0
 | .cell _ _ r=>r.cnt+1
 | .node _ _ _ r=>r.cnt+1
def C6 (m:Bool)(last:Option Aw):Option Aw→Bool
 | none=>!m
 | some s=>m&&s.all P9&&(match last with
  | none=>Af
  | some p=>!(CH s p||decide (s=p)))
def Fo.wf:Bool→Option Aw→Fo→Bool
 | _,_,.nil=>Af
 | m,last,.cell k c r=>C6 m last k&&pl c&&!Ac (0<c.fN)&&r.wf m k
 | m,last,.node k c kids r=>C6 m last k&&pl c&&Ac (0<c.fN)&&Ac (c.fN=kids.cnt)&&kids.wf (Ac (c.aa=6)) Ai&&r.wf m k
def SL (k:Option Aw)(sh:Bs):Bs:=match k with
 | none=>sh
 | some s=>shk sh ⟨4,0,s,0⟩
def Fo.sh (d:Nat):Bs→Fo→Bs
 | s,.nil=>s
 | s,.cell k c r=>r.sh d (NC d (SL k s) c)
 | s,.node k c kids r=>r.sh d (kids.sh (d+1) (NC d (SL k s) c))
def Mg (body:Zm→Option (Stp Zm LkO))(s:Zm)(S:List Bf)(i:Int)(sh:Bs):Prop:=
 if Td S=[] then Fin body s (.ret (i,sh,Af)) else Ig body s ((Td S).reverse,i,sh)
variable{body:Zm→Option (Stp Zm LkO)}{i:Int}
theorem Mg.of {s t:Zm}{S:List Bf}{sh:Bs}(h:Ig body s t)(h':Mg body t S i sh):Mg body s S i sh:=by
 unfold Mg at *
 split
 ·rename_i e;rw[Arc e] at h';exact h.fin h'
 ·rename_i e;rw[AqM e] at h';exact h.trans h'
theorem Mg.pop {s:Zm}{e:Bf}{S:List Bf}{sh:Bs}(h:Mg body s (e::S) i sh)(h1:e.aL=1):Mg body s S i sh:=by
 have:Td (e::S)=Td S:=by simp[Td,h1]
 unfold Mg at *;rw[this] at h;exact h
theorem Mg.more {s:Zm}{e:Bf}{S:List Bf}{sh:Bs}(h:Mg body s (e::S) i sh)(h1:1<e.aL):Ig body s ((⟨e.aH,e.aL-1,e.aH,e.aN,e.aJ⟩::S).reverse,i,sh):=by
 have:Td (e::S)=⟨e.aH,e.aL-1,e.aH,e.aN,e.aJ⟩::S:=by simp[Td,h1]
 unfold Mg at *;rw[this,AqM Aj] at h;exact h
structure LkA (F M:Nat) (v:List Av):Prop where
 hM:M≤1152921504606846976
 hM2:(M+2)*48≤140737488355328
 hv:Ae v≤M
 hF:M<F
 hc:∀c∈v,Ae c.au≤M∧BJ .i64 c.ay=Af∧c.fN≤9223372036854775807
abbrev lkB (F:Nat)(v:List Av):Zm→Option (Stp Zm LkO):=λσ=>HR F v σ.1 σ.2.1 σ.2.2
def Hy (S:List Bf):Prop:=∀e∈S,1≤e.aL∧e.aL≤9223372036854775807
variable{last k:Option Aw}
section
variable {F M : Nat} {v : List Av} {S : List Bf} {i : Int} {sh : Bs} {c : Av} {r : List Av} {e : Bf}
theorem DH (h0:0≤i)(h:v.drop i.toNat=c::r):v[i.toNat]? =Ad c∧v.drop (i+1).toNat=r∧i<Ae v:=by
 have h1:(v.drop i.toNat)[0]? =Ad c:=by rw[h];rfl
 have h2:v[i.toNat]? =Ad c:=by simpa using h1
 have h3:=(List.getElem?_eq_some_iff.1 h2).1;refine⟨h2,?_,Ab⟩;rw[show(i+1).toNat=i.toNat+1 from Ab,← Arq,h];rfl
theorem round (hA:LkA F M v)(h0:0≤i)(h:v.drop i.toNat=c::r)(hS:(Ae S:Int)≤i)(hb:Hy S):lkB F v (S.reverse,i,sh)=Ad (lkc (Ae v) S i sh c):=by
 obtain⟨h1,_,h3⟩:=DH h0 h;obtain⟨a,b,_⟩:=hA.hc c (Aq1 h1);have:=hA.hv;exact ZB h0 h1 hA.hM hA.hM2 hA.hv Ab hA.hF a b hb
def Kv (e:Bf):Option Aw→Bf
 | none=>e
 | some s=>⟨e.aH,e.aL,Ah,s,Af⟩
def Oo (e:Bf):Option Aw→Prop
 | none=>e.aJ=Ah
 | some p=>e.aJ=Af∧e.aN=p
theorem Vs (hA:LkA F M v)(h0:0≤i)(h:v.drop i.toNat=Ct k++r)(hS:(Ae S:Int)+1≤i)(hb:Hy (e::S))(hk:C6 e.ap last k=Af)(hl:Oo e last) :
  Ig (lkB F v) ((e::S).reverse,i,sh) ((Kv e k::S).reverse,i+Ae (Ct k),SL k sh):=by
 cases k with
 | none=>simpa[Kv,Ct,SL] using Ig.refl _
 | some s=>
  simp only[C6,Aqu] at hk;obtain⟨⟨hm,hok⟩,hcmp⟩:=hk;refine Ig.step ?_;rw[round hA h0 (by simpa[Ct] using h) (by simpa using hS) hb];have hp:pl ⟨4,0,s,0⟩=Af:=by simp[pl,hok]
  have ht:(e.aJ&&(CH s e.aN||decide (s=e.aN)))=Ah:=by
   cases last with
   | none=>simp only[Oo] at hl;rw[hl];rfl
   | some p=>obtain⟨h1,h2⟩:=hl;rw[h1,h2];simpa using hcmp
  simp only[lkc,hp,hm,ht,Aq5,Aqr,Aqv,decide_true,AqZ,Bool.or_self];rfl
theorem Si (hk:C6 e.ap last k=Af):(Kv e k).ap=Ah:=by
 cases k with
 | none=>simpa[Kv,C6] using hk
 | some s=>rfl
theorem Qi (k:Option Aw):(Kv e k).aL=e.aL∧(Kv e k).aH=e.aH:=by cases k<;>exact⟨rfl,rfl⟩
theorem Se (hA:LkA F M v)(h0:0≤i)(h:v.drop i.toNat=c::r)(hS:(Ae S:Int)≤i)(hb:Hy S)(hk:Sj S=Ah)(hp:pl c=Af)(hn:Ac (0<c.fN)=Ah) :
  Mg (lkB F v) (S.reverse,i,sh) S (i+1) (NC (Ae S) sh c):=by
 have hr:=round (sh:=sh) hA h0 h hS hb;unfold Mg
 cases S with
 | nil=>
  rw[Arc (by simp[Td])];refine Fin.step ?_;rw[hr];simp[lkc,hp,hn]
 | cons e S=>
  simp only[Sj] at hk
  split
  ·rename_i hc
   refine Fin.step ?_;rw[hr];simp[lkc,hp,hn,hk,hc]
  ·rename_i hc
   refine Ig.step ?_;rw[hr];simp[lkc,hp,hn,hk,hc]
theorem OQ (hA:LkA F M v)(h0:0≤i)(h:v.drop i.toNat=c::r)(hS:(Ae S:Int)≤i)(hb:Hy S)(hk:Sj S=Ah)(hp:pl c=Af)(hn:Ac (0<c.fN)=Af)(hv:c.fN≤Ae v) :
  Ig (lkB F v) (S.reverse,i,sh) ((⟨Ac (c.aa=6),c.fN,Ac (c.aa=6),[],Ah⟩::S).reverse,i+1,NC (Ae S) sh c):=by
 have hr:=round (sh:=sh) hA h0 h hS hb;have hv':Ac ((Ae v:Int)<c.fN)=Ah:=by simpa using hv
 refine Ig.step ?_;rw[hr]
 cases S with
 | nil=>simp only[lkc,hp,hn,hv',Aq5,Aqr,Aqv];rfl
 | cons e S=>
  simp only[Sj] at hk;simp only[lkc,hp,hn,hv',hk,Aq5,Aqr,Aqv]
theorem DA:∀f:Fo,f.cnt≤Ae f.flat
 | .nil=>Aq7 _
 | .cell k c r=>by have:=DA r;simp[Fo.cnt,Fo.flat];omega
 | .node k c kids r=>by have:=DA r;simp[Fo.cnt,Fo.flat];omega
theorem Ej {v xs r:List α}{i:Int}(h0:0≤i)(h:v.drop i.toNat=xs++r):v.drop (i+Ae xs).toNat=r:=by
 rw[show(i+(Ae xs:Int)).toNat=i.toNat+Ae xs from Ab,← Arq,h,List.drop_left]
theorem ZN (hA:LkA F M v){e':Bf}{s:Zm}{r':Fo}
  (ih:∀(e:Bf) (S:List Bf) (i:Int) (sh:Bs) (last:Option Aw) (r:List Av),1≤r'.cnt→r'.wf e.aH last=Af→e.ap=e.aH→e.aL=r'.cnt→Oo e last→(e.aH=Ah→last=Ai)→v.drop i.toNat=r'.flat++r→0≤i→(Ae S:Int)+1≤i→Hy S→
   Mg (lkB F v) ((e::S).reverse,i,sh) S (i+Ae r'.flat) (r'.sh (Ae S+1) sh))
  (hd:Mg (lkB F v) s (e'::S) i sh) (hl:e'.aL=r'.cnt+1) (hw:r'.wf e'.aH k=Af) (hk:Oo e' k) (hm:e'.aH=Ah→k=Ai) (hv:v.drop i.toNat=r'.flat++r) (h0:0≤i) (hS:(Ae S:Int)+1≤i) (hb:Hy S) :
  Mg (lkB F v) s S (i+Ae r'.flat) (r'.sh (Ae S+1) sh):=by
 by_cases h1:r'.cnt=0
 ·cases r' with
  | nil=>simpa[Fo.flat,Fo.sh] using hd.pop (by rw[hl];rfl)
  | cell _ _ _=>simp[Fo.cnt] at h1
  | node _ _ _ _=>simp[Fo.cnt] at h1
 ·have:=hd.more Ab;refine Mg.of this (ih _ S i sh k r Ab hw rfl (by simp only;omega) ?_ hm hv h0 hS hb)
  cases k with
  | none=>exact hk
  | some p=>exact hk
theorem Qj (hl:Oo e last)(hm:e.aH=Ah→last=Ai)(hk:C6 e.aH last k=Af):Oo (Kv e k) k∧((Kv e k).aH=Ah→k=Ai):=by
 cases k with
 | none=>
  have:e.aH=Ah:=by simpa[C6] using hk
  rw[hm this] at hl;exact⟨hl,λ_=>rfl⟩
 | some s=>
  refine⟨⟨rfl,rfl⟩,λh=>?_⟩;have h:e.aH=Ah:=h;simp[C6,h] at hk
theorem Tb (hA:LkA F M v):∀(f:Fo) (e:Bf) (S:List Bf) (i:Int) (sh:Bs) (last:Option Aw) (r:List Av),1≤f.cnt→f.wf e.aH last=Af→e.ap=e.aH→e.aL=f.cnt→Oo e last→(e.aH=Ah→last=Ai)→v.drop i.toNat=f.flat++r→0≤i→(Ae S:Int)+1≤i→Hy S→
   Mg (lkB F v) ((e::S).reverse,i,sh) S (i+Ae f.flat) (f.sh (Ae S+1) sh):=by
 have hmax:∀(i:Int) (xs:List Av),0≤i→v.drop i.toNat=xs→Ae xs≤Ae v:=λi xs _ h=>by rw[← h,AqO];omega
 intro f
 induction f with
 | nil=>intro e S i sh last r h1;simp[Fo.cnt] at h1
 | cell k c r' ih=>
  intro e S i sh last r h1 hw hk hl hlo hm hv h0 hS hb;simp only[Fo.wf,Aqu,Aq6] at hw;obtain⟨⟨⟨w1,w2⟩,w3⟩,w4⟩:=hw;simp only[Fo.flat,Aq4,Ara] at hv;have hcnt:=hmax i _ h0 hv;have hcf:=DA r';simp only[Aqs,Aqp] at hcnt;have hvM:=hA.hv;have hMM:=hA.hM;simp only[Fo.cnt] at hl;have hb':Hy (e::S):=λx hx=>by
   rcases List.mem_cons.1 hx with rfl | hx
   ·constructor<;>omega
   ·exact hb x hx
  have hkr:=Vs (sh:=sh) hA h0 hv hS hb' (by rw[hk];exact w1) hlo;have hv1:=Ej h0 hv;obtain⟨kl,kp⟩:=Qi (e:=e) k;have hbk:Hy (Kv e k::S):=λx hx=>by
   rcases List.mem_cons.1 hx with rfl | hx
   ·rw[kl];exact hb' e Aj
   ·exact hb x hx
  have hd:=Se (sh:=SL k sh) hA Ab hv1 (by simp only[Aqp];omega) hbk (Si (by rw[hk];exact w1)) w2 w3;obtain⟨q1,q2⟩:=Qj hlo hm w1;have hv2:=(DH Ab hv1).2.1;have:=ZN hA ih (hd.of hkr) (by rw[kl,hl];rfl) (by rw[kp];exact w4) q1 q2 hv2 Ab Ab hb;simp only[Fo.flat,Fo.sh,Aqs,Aqp];rw[show i+(((Ae (Ct k)+(Ae r'.flat+1):Nat)):Int)=i+Ae (Ct k)+1+Ae r'.flat from Ab];exact this
 | node k c kids r' ihk ih=>
  intro e S i sh last r h1 hw hk hl hlo hm hv h0 hS hb;simp only[Fo.wf,Aqu,Aqq] at hw;obtain⟨⟨⟨⟨⟨w1,w2⟩,w3⟩,w5⟩,w6⟩,w4⟩:=hw;simp only[Fo.flat,Aq4,Ara] at hv;have hcnt:=hmax i _ h0 hv;have hcf:=DA r';have hck:=DA kids;simp only[Aqs,Aqp] at hcnt;have hvM:=hA.hv;have hMM:=hA.hM;simp only[Fo.cnt] at hl;have hb':Hy (e::S):=λx hx=>by
   rcases List.mem_cons.1 hx with rfl | hx
   ·constructor<;>omega
   ·exact hb x hx
  have hkr:=Vs (sh:=sh) hA h0 hv hS hb' (by rw[hk];exact w1) hlo;have hv1:=Ej h0 hv;obtain⟨kl,kp⟩:=Qi (e:=e) k;have hbk:Hy (Kv e k::S):=λx hx=>by
   rcases List.mem_cons.1 hx with rfl | hx
   ·rw[kl];exact hb' e Aj
   ·exact hb x hx
  have hn:=OQ (sh:=SL k sh) hA Ab hv1 (by simp only[Aqp];omega) hbk (Si (by rw[hk];exact w1)) w2 (by simpa using w3) Ab;have hv2:=(DH Ab hv1).2.1;have hd:=ihk ⟨Ac (c.aa=6),c.fN,Ac (c.aa=6),[],Ah⟩ (Kv e k::S) (i+Ae (Ct k)+1) (NC (Ae S+1) (SL k sh) c) Ai _ Ab w6 rfl w5 rfl (λ_=>rfl) hv2 Ab (by simp only[Aqp];omega) hbk;obtain⟨q1,q2⟩:=Qj hlo hm w1;have hv3:=Ej Ab hv2;have:=ZN hA ih ((hd.of hn).of hkr) (by rw[kl,hl];rfl) (by rw[kp];exact w4) q1 q2 hv3 Ab Ab hb;simp only[Fo.flat,Fo.sh,Aqs,Aqp];rw[show i+(((Ae (Ct k)+(Ae kids.flat+Ae r'.flat+1):Nat)):Int)=i+Ae (Ct k)+1+Ae kids.flat+Ae r'.flat from Ab];exact this
end
theorem AaA {S O:Type}{body:S→Option (Stp S O)}{o:O}:∀{n:Nat} {s:S} (k:Nat),Cp body n s=Ad o→Cp body (n+k) s=Ad o
 | 0,s,k,h=>by cases h
 | n+1,s,k,h=>by
  rw[show n+1+k=n+k+1 from Ab,Cp];rw[Cp] at h
  cases hb:body s with
  | none=>rw[hb] at h;cases h
  | some t=>
   rw[hb] at h
   cases t with
   | next s'=>exact AaA k h
   | out o'=>exact h
variable{n:Nat}{O:Type}{o:O}
theorem Fin.eq {S:Type}{body:S→Option (Stp S O)}{s:S}{o':O}(h:Fin body s o)(h':Cp body n s=Ad o'):o'=o:=by
 obtain⟨k,hk⟩:=h;have:=AaA k h';rw[hk n] at this;exact(Ahs this).symm
theorem XE:∀{S:List Bf},Hy S→Hy (Td S)∧Ae (Td S)≤Ae S
 | [],h=>⟨h,Aq7 _⟩
 | e::S,h=>by
  have hS:Hy S:=λx hx=>h x (by simp[hx]);have he:=h e Aj;unfold Td
  cases hd:Ac (1<e.aL) with
  | true=>
   simp only[Aqq] at hd;refine⟨λx hx=>?_,Aj⟩;rcases List.mem_cons.1 hx with rfl | hx
   ·simp only;omega
   ·exact hS x hx
  | false=>
   obtain⟨h1,h2⟩:=XE hS;exact⟨h1,by simp only[Aqr,Aqp];omega⟩
theorem Ai5 {n:Int}{S:List Bf}{sh:Bs}{c:Av}{σ:Zm}(hb:Hy S)(hS:(Ae S:Int)≤i)(hN:c.fN≤9223372036854775807)(h:lkc n S i sh c = .next σ):∃S' sh',σ=(S'.reverse,i+1,sh')∧Hy S'∧(Ae S':Int)≤i+1:=by
 unfold lkc at h
 cases hp:pl c with
 | false=>simp[hp] at h
 | true=>
  simp only[hp,Aq5,Aqr] at h
  cases S with
  | nil=>
   simp only at h
   cases hn:Ac (0<c.fN) with
   | false=>simp[hn] at h
   | true=>
    simp only[hn,Aqv] at h
    cases hm:Ac (n<c.fN) with
    | true=>simp[hm] at h
    | false=>
     simp only[hm,Aqr,Stp.next.injEq] at h;refine⟨[_],_,h.symm,λx hx=>?_,by simp at hS ⊢;omega⟩;simp only[AqG] at hx;subst hx;simp only[Aqq] at hn;exact⟨by simp only;omega,hN⟩
  | cons e S=>
   have he:=hb e Aj;have hbS:Hy S:=λx hx=>hb x (by simp[hx]);simp only[Aqp] at hS
   cases hk:e.ap with
   | true=>
    simp only[hk,Aqv] at h
    cases hq:(!Ac (c.aa=4)||(e.aJ&&(CH c.au e.aN||decide (c.au=e.aN)))) with
    | true=>rw[hq] at h;simp at h
    | false=>
     rw[hq] at h;simp only[Aqr,Stp.next.injEq] at h;refine⟨_::S,_,h.symm,λx hx=>?_,by simp only[Aqp];omega⟩;rcases List.mem_cons.1 hx with rfl | hx
     ·exact he
     ·exact hbS x hx
   | false=>
    simp only[hk,Aqr] at h
    cases hn:Ac (0<c.fN) with
    | true=>
     simp only[hn,Aqv] at h
     cases hm:Ac (n<c.fN) with
     | true=>simp[hm] at h
     | false=>
      simp only[hm,Aqr,Stp.next.injEq] at h;refine⟨_::e::S,_,h.symm,λx hx=>?_,by simp only[Aqp];omega⟩;rcases List.mem_cons.1 hx with rfl | hx
      ·simp only[Aqq] at hn;exact⟨by simp only;omega,hN⟩
      ·exact hb x hx
    | false=>
     simp only[hn,Aqr] at h
     cases hq:Ac (Td (e::S)=[]) with
     | true=>rw[hq] at h;simp at h
     | false=>
      rw[hq] at h;simp only[Aqr,Stp.next.injEq] at h;obtain⟨h1,h2⟩:=XE hb;simp only[Aqp] at h2;exact⟨_,_,h.symm,h1,Ab⟩
variable{v:List Av}
theorem Vo (hA:LkA F M v):∃o,Cp (lkB F v) F (([]:List Bf),0,(⟨0,0,Ah,Ah⟩:Bs))=Ad o∧True:=by
 refine Nr (λσ=>∃S i sh,σ=(S.reverse,i,sh)∧Hy S∧(Ae S:Int)≤i∧0≤i∧i≤Ae v) (λσ=>Ae v-σ.2.1.toNat) (λ_=>True) (λσ hI=>?_) F _ ⟨[],0,_,rfl,(λx hx=>by cases hx),Aq8 _,Aq8 _,Ab⟩ (by have:=hA.hv;have:=hA.hF;simp;omega);obtain⟨S,i,sh,rfl,hb,hS,h0,hi⟩:=hI
 by_cases hx:i<Ae v
 ·obtain⟨c,hc⟩:∃c,v[i.toNat]? =Ad c:=⟨v[i.toNat]'(Ab),Aqx Ab⟩
  have hdr:v.drop i.toNat=c::v.drop (i.toNat+1):=by rw[List.drop_eq_getElem_cons Ab];congr 1;exact(List.getElem?_eq_some_iff.1 hc).2
  have hr:=round (sh:=sh) hA h0 hdr hS hb
  cases hl:lkc (Ae v) S i sh c with
  | next τ=>
   obtain⟨S',sh',rfl,h1,h2⟩:=Ai5 hb hS (hA.hc c (Aq1 hc)).2.2 hl;exact .inl ⟨_,by rw[hr,hl],⟨S',i+1,sh',rfl,h1,h2,Ab,Ab⟩,by simp only;omega⟩
  | out o=>exact .inr ⟨o,by rw[hr,hl],trivial⟩
 ·refine .inr ⟨.go sh,?_,trivial⟩;show HR F v S.reverse i sh=_;unfold HR;rw[AF (by simpa using hx)]
def Fo.one:Fo→Bool
 | .cell Ai _ .nil=>Af
 | .node Ai _ _ .nil=>Af
 | _=>Ah
def U6:Bs:=⟨0,0,Ah,Ah⟩
variable{r:List Av}{f:Fo}
theorem Ai4 (hA:LkA F M v)(h1:f.one=Af)(hw:f.wf Ah Ai=Af)(hv:v=f.flat++r):Fin (lkB F v) ([],0,U6) (.ret (Ae f.flat,f.sh 0 U6,Af)):=by
 have h0:v.drop (0:Int).toNat=f.flat++r:=by rw[hv];rfl
 have hlen:Ae f.flat≤Ae v:=by rw[hv];simp
 cases f with
 | nil=>cases h1
 | cell k c r'=>
  cases k with
  | some s=>cases h1
  | none=>
   cases r' with
   | nil=>
    simp only[Fo.wf,Aqu,Aq6] at hw;have:=Se (S:=[]) (sh:=U6) hA (Aq8 0) h0 Aj (λx hx=>by cases hx) rfl hw.1.1.2 hw.1.2;unfold Mg at this;rw[Arc (show Td []=[] from rfl)] at this;simpa[Fo.flat,Fo.sh,Ct,SL] using this
   | cell _ _ _=>cases h1
   | node _ _ _ _=>cases h1
 | node k c kids r'=>
  cases k with
  | some s=>cases h1
  | none=>
   cases r' with
   | nil=>
    simp only[Fo.wf,Aqu,Aqq] at hw;obtain⟨⟨⟨⟨⟨w1,w2⟩,w3⟩,w5⟩,w6⟩,w4⟩:=hw;have hck:=DA kids;simp only[Fo.flat,Ct,AqH,AqJ,Aqp] at hlen;have hvM:=hA.hv;have hMM:=hA.hM;have hn:=OQ (S:=[]) (sh:=U6) hA (Aq8 0) h0 Aj (λx hx=>by cases hx) rfl w2 (by simpa using w3) Ab;have hv2:=(DH (Aq8 0) h0).2.1;have hd:=Tb hA kids ⟨Ac (c.aa=6),c.fN,Ac (c.aa=6),[],Ah⟩ [] (0+1) (NC 0 U6 c) Ai r Ab w6 rfl w5 rfl (λ_=>rfl) (by rw[hv2];simp[Fo.flat]) Ab Aj (λx hx=>by cases hx);unfold Mg at hd;rw[Arc (show Td []=[] from rfl)] at hd;have:=hn.fin hd;have e:((0:Int)+1+Ae kids.flat)=(Ae (Fo.node Ai c kids .nil).flat:Int):=by simp[Fo.flat,Ct];omega
    rw[e] at this;exact this
   | cell _ _ _=>cases h1
   | node _ _ _ _=>cases h1
theorem AaB (hA:LkA F M v)(h1:f.one=Af)(hw:f.wf Ah Ai=Af)(hv:v=f.flat++r):N4 F v=Ad ((Ae f.flat:Int),f.sh 0 U6,Af):=by
 obtain⟨o,ho,_⟩:=Vo hA;have e:=(Ai4 hA h1 hw hv).eq ho;subst e;unfold N4;rw[Bu ho];rfl
def M1 (m:Bool)(last:Option Aw)(xs:List Av):Option (Option Aw×List Av):=
 bif m then match xs with
  | []=>Ai
  | c::r=>bif pl c&&Ac (c.aa=4)&&C6 Af last (Ad c.au) then Ad (Ad c.au,r) else Ai
 else Ad (Ai,xs)
def MQ:Nat→Bool→Option Aw→Nat→List Av→Option (Fo×List Av)
 | 0,_,_,_,_=>Ai
 | _+1,_,_,0,xs=>Ad (.nil,xs)
 | F+1,m,last,k+1,xs=>
  match M1 m last xs with
  | none=>Ai
  | some (_,[])=>Ai
  | some (key,c::xs')=>
   bif !pl c then Ai else
   bif Ac (0<c.fN) then
    match MQ F (Ac (c.aa=6)) Ai c.fN.toNat xs' with
    | none=>Ai
    | some (kids,ys)=>match MQ F m key k ys with
     | none=>Ai
     | some (r,zs)=>Ad (.node key c kids r,zs)
   else match MQ F m key k xs' with
    | none=>Ai
    | some (r,zs)=>Ad (.cell key c r,zs)
theorem Yu {c:Av}(hp:pl c=Af)(hk:c.aa=4):c=⟨4,0,c.au,0⟩∧c.au.all P9=Af:=by
 cases c
 simp only at hk;subst hk;simp[pl] at hp;obtain⟨h1,h2,h3⟩:=hp;subst h1;subst h2;exact⟨rfl,by simpa using h3⟩
variable{xs:List Av}{m:Bool}{key:Option Aw}
theorem TD (h:M1 m last xs=Ad (key,r)):xs=Ct key++r∧C6 m last key=Af:=by
 unfold M1 at h
 cases m with
 | false=>cases h;exact⟨rfl,rfl⟩
 | true=>
  simp only[Aqv] at h
  cases xs with
  | nil=>cases h
  | cons c r'=>
   simp only at h
   cases hb:(pl c&&Ac (c.aa=4)&&C6 Af last (Ad c.au)) with
   | false=>rw[hb] at h;cases h
   | true=>
    rw[hb] at h;simp only[Aqu,Aqq] at hb
    cases h
    exact⟨by rw[(Yu hb.1.1 hb.1.2).1];rfl,hb.2⟩
theorem Mb:∀(F:Nat) (m:Bool) (last:Option Aw) (k:Nat) (xs:List Av) (f:Fo) (ys:List Av),MQ F m last k xs=Ad (f,ys)→xs=f.flat++ys∧f.wf m last=Af∧f.cnt=k
 | 0,_,_,_,_,_,_,h=>by cases h
 | F+1,m,last,0,xs,f,ys,h=>by cases h;exact⟨rfl,rfl,rfl⟩
 | F+1,m,last,k+1,xs,f,ys,h=>by
  rw[MQ] at h
  cases hk:M1 m last xs with
  | none=>rw[hk] at h;cases h
  | some p=>
   obtain⟨key,r⟩:=p;obtain⟨h1,h2⟩:=TD hk;rw[hk] at h
   cases r with
   | nil=>cases h
   | cons c xs'=>
    simp only at h
    cases hp:pl c with
    | false=>rw[hp] at h;cases h
    | true=>
     rw[hp] at h;simp only[Aq5,Aqr] at h
     cases hn:Ac (0<c.fN) with
     | true=>
      rw[hn] at h;simp only[Aqv] at h
      cases hq:MQ F (Ac (c.aa=6)) Ai c.fN.toNat xs' with
      | none=>rw[hq] at h;cases h
      | some q=>
       obtain⟨kids,zs⟩:=q;rw[hq] at h;simp only at h
       cases hr:MQ F m key k zs with
       | none=>rw[hr] at h;cases h
       | some q2=>
        obtain⟨r2,us⟩:=q2;rw[hr] at h;cases h;obtain⟨a1,a2,a3⟩:=Mb F _ _ _ _ _ _ hq;obtain⟨b1,b2,b3⟩:=Mb F _ _ _ _ _ _ hr;refine⟨by rw[h1,a1,b1];simp[Fo.flat],?_,by simp[Fo.cnt,b3]⟩;simp only[Aqq] at hn;simp only[Fo.wf,h2,hp,a2,b2,AqQ,Aq3,Aqu,Aqq];omega
     | false=>
      rw[hn] at h;simp only[Aqr] at h
      cases hr:MQ F m key k xs' with
      | none=>rw[hr] at h;cases h
      | some q2=>
       obtain⟨r2,us⟩:=q2;rw[hr] at h;cases h;obtain⟨b1,b2,b3⟩:=Mb F _ _ _ _ _ _ hr;exact⟨by rw[h1,b1];simp[Fo.flat],by simp[Fo.wf,h2,hp,b2,hn],by simp[Fo.cnt,b3]⟩
theorem M0:∀(F F':Nat) (m:Bool) (last:Option Aw) (k:Nat) (xs:List Av),Ae xs<F→Ae xs<F'→MQ F m last k xs=MQ F' m last k xs
 | 0,_,_,_,_,_,h,_=>by omega
 | _+1,0,_,_,_,_,_,h=>by omega
 | F+1,F'+1,m,last,0,xs,_,_=>rfl
 | F+1,F'+1,m,last,k+1,xs,h,h'=>by
  rw[MQ,MQ]
  cases hk:M1 m last xs with
  | none=>rfl
  | some p=>
   obtain⟨key,r⟩:=p;obtain⟨h1,h2⟩:=TD hk
   cases r with
   | nil=>rfl
   | cons c xs'=>
    have hl:Ae xs'<Ae xs:=by rw[h1];simp;omega
    simp only
    cases hp:pl c with
    | false=>rfl
    | true=>
     simp only[Aq5,Aqr]
     cases hn:Ac (0<c.fN) with
     | true=>
      simp only[Aqv];rw[M0 F F' _ _ _ xs' Ab Ab]
      cases hq:MQ F' (Ac (c.aa=6)) Ai c.fN.toNat xs' with
      | none=>rfl
      | some q=>
       obtain⟨kids,zs⟩:=q;have:=(Mb _ _ _ _ _ _ _ hq).1;have hz:Ae zs≤Ae xs':=by rw[this];simp
       simp only;rw[M0 F F' m key k zs Ab Ab]
     | false=>
      simp only[Aqr];rw[M0 F F' m key k xs' Ab Ab]
def Bad {S:Type}(body:S→Option (Stp S LkO))(s:S):Prop:=∃sh',Fin body s (.ret (0,sh',Ah))∨Fin body s (.go sh')
theorem Ig.bad {S:Type}{body:S→Option (Stp S LkO)}{s t:S}(h:Ig body s t)(h':Bad body t):Bad body s:=by
 obtain⟨sh',h' | h'⟩:=h'
 ·exact⟨sh',.inl (h.fin h')⟩
 ·exact⟨sh',.inr (h.fin h')⟩
variable{ys:List Av}{P:Nat}
section
variable {F M : Nat} {v : List Av}
theorem Bad.end_ {S:List Bf}{sh:Bs}(h0:0≤i)(h:v.drop i.toNat=[]):Bad (lkB F v) (S.reverse,i,sh):=by
 refine⟨sh,.inr (Fin.step ?_)⟩;show HR F v S.reverse i sh=_;unfold HR;rw[AF];have:Ae v≤i.toNat:=by simpa using h
 simp;omega
theorem Bad.pl_ (hA:LkA F M v){S:List Bf}{sh:Bs}{c:Av}(h0:0≤i)(h:v.drop i.toNat=c::r)(hS:(Ae S:Int)≤i)(hb:Hy S)(hp:pl c=Ah):Bad (lkB F v) (S.reverse,i,sh):=by
 refine⟨sh,.inl (Fin.step ?_)⟩;rw[round hA h0 h hS hb];simp[lkc,hp]
theorem AcD (hA:LkA F M v):∀(P:Nat) (k:Nat) (e:Bf) (S:List Bf) (i:Int) (sh:Bs) (last:Option Aw) (xs:List Av),Ae xs<P→MQ P e.aH last (k+1) xs=Ai→e.ap=e.aH→e.aL=(k:Int)+1→(k:Int)+1≤9223372036854775807→Oo e last→(e.aH=Ah→last=Ai)→v.drop i.toNat=xs→0≤i→(Ae S:Int)+1≤i→Hy S→
  Bad (lkB F v) ((e::S).reverse,i,sh):=by
 intro P
 induction P with
 | zero=>intro k e S i sh last xs h;omega
 | succ P ih=>
  intro k e S i sh last xs hP hn hk hl hkm hlo hm hv h0 hS hb;have hb':Hy (e::S):=λx hx=>by
   rcases List.mem_cons.1 hx with rfl | hx
   ·constructor<;>omega
   ·exact hb x hx
  rw[MQ] at hn
  cases hq:M1 e.aH last xs with
  | none=>
   unfold M1 at hq
   cases hpr:e.aH with
   | false=>rw[hpr] at hq;cases hq
   | true=>
    rw[hpr] at hq hk;simp only[Aqv] at hq
    cases xs with
    | nil=>exact Bad.end_ h0 hv
    | cons c r=>
     simp only at hq
     cases hp:pl c with
     | false=>exact Bad.pl_ hA h0 hv (by simpa using hS) hb' hp
     | true=>
      refine⟨sh,.inl (Fin.step ?_)⟩;rw[round hA h0 hv (by simpa using hS) hb'];have ht:(!Ac (c.aa=4)||(e.aJ&&(CH c.au e.aN||decide (c.au=e.aN))))=Af:=by
       rw[hp] at hq
       cases h4:Ac (c.aa=4) with
       | false=>rfl
       | true=>
        rw[h4] at hq;simp only[Bool.and_self,Aq3] at hq;have hok:=(Yu hp (by simpa using h4)).2
        cases last with
        | none=>simp[C6,hok] at hq
        | some p=>
         obtain⟨q1,q2⟩:=hlo;rw[q1,q2]
         cases hc:(CH c.au p||decide (c.au=p)) with
         | true=>rfl
         | false=>simp[C6,hok,hc] at hq
      simp only[lkc,hp,hk,ht,Aq5,Aqr,Aqv]
  | some q=>
   obtain⟨key,r⟩:=q;obtain⟨h1,h2⟩:=TD hq;rw[hq] at hn;have hkr:=Vs (sh:=sh) hA h0 (by rw[hv];exact h1) hS hb' (by rw[hk];exact h2) hlo;have hv1:=Ej h0 (hv.trans h1);obtain⟨kl,kp⟩:=Qi (e:=e) key;obtain⟨q1,q2⟩:=Qj hlo hm h2;have hbk:Hy (Kv e key::S):=λx hx=>by
    rcases List.mem_cons.1 hx with rfl | hx
    ·rw[kl];exact hb' e Aj
    ·exact hb x hx
   refine hkr.bad ?_
   cases r with
   | nil=>exact Bad.end_ Ab hv1
   | cons c xs'=>
    have hlen:Ae xs'+1≤Ae xs:=by rw[h1];simp
    have hvl:Ae xs≤Ae v:=by rw[← hv,AqO];omega
    have hvM:=hA.hv;have hMM:=hA.hM;have hkk:=Si (e:=e) (last:=last) (k:=key) (by rw[hk];exact h2);simp only at hn;have hSk:((Ae (Kv e key::S):Nat):Int)≤i+Ae (Ct key):=by simp only[Aqp];omega
    cases hp:pl c with
    | false=>exact Bad.pl_ hA Ab hv1 hSk hbk hp
    | true=>
     rw[hp] at hn;simp only[Aq5,Aqr] at hn;obtain⟨g1,g2,g3⟩:=DH Ab hv1;have hcN:=(hA.hc c (Aq1 g1)).2.2;have more:∀(s:Zm) (j:Int) (sh':Bs) (zs:List Av),Mg (lkB F v) s (Kv e key::S) j sh'→v.drop j.toNat=zs→Ae zs<P→0≤j→(Ae S:Int)+1≤j→MQ P e.aH key k zs=Ai→Bad (lkB F v) s:=λs j sh' zs hd hz hzl hj hSj hnone=>by
      cases k with
      | zero=>
       cases P with
       | zero=>omega
       | succ P=>cases hnone
      | succ k=>
       have:=hd.more (by rw[kl];omega);refine this.bad (ih k _ S j sh' key zs hzl (by rw[kp];exact hnone) rfl (by simp only[kl];omega) Ab ?_ (by simpa using q2) hz hj hSj hb)
       cases key with
       | none=>exact q1
       | some p=>exact q1
     cases hN:Ac (0<c.fN) with
     | true=>
      rw[hN] at hn;simp only[Aqv] at hn;simp only[Aqq] at hN
      by_cases hbig:c.fN≤Ae v
      ·have hnd:=OQ (sh:=SL key sh) hA Ab hv1 hSk hbk (by simpa[Sj] using hkk) hp (by simpa using hN) hbig;refine hnd.bad ?_
       cases hks:MQ P (Ac (c.aa=6)) Ai c.fN.toNat xs' with
       | none=>
        obtain⟨n',hn'⟩:∃n',c.fN.toNat=n'+1:=⟨c.fN.toNat-1,Ab⟩
        rw[hn'] at hks;exact ih n' _ _ _ _ Ai xs' Ab hks rfl (by simp only;omega) Ab rfl (λ_=>rfl) g2 Ab (by simp only[Aqp];omega) hbk
       | some q=>
        obtain⟨kids,zs⟩:=q;rw[hks] at hn;simp only at hn;have hn2:MQ P e.aH key k zs=Ai:=by
         cases hz:MQ P e.aH key k zs with
         | none=>rfl
         | some q=>rw[hz] at hn;cases hn
        obtain⟨a1,a2,a3⟩:=Mb _ _ _ _ _ _ _ hks;have hd:=Tb hA kids ⟨Ac (c.aa=6),c.fN,Ac (c.aa=6),[],Ah⟩ (Kv e key::S) (i+Ae (Ct key)+1) (NC (Ae S+1) (SL key sh) c) Ai zs Ab a2 rfl (by simp only;omega) rfl (λ_=>rfl) (by rw[g2];exact a1) Ab (by simp only[Aqp];omega) hbk;have hz:v.drop (i+Ae (Ct key)+1+Ae kids.flat).toNat=zs:=Ej Ab (g2.trans a1);have hzl:Ae zs≤Ae xs':=by rw[a1];simp
        exact more _ _ _ zs hd hz Ab Ab Ab hn2
      ·refine⟨NC (Ae (Kv e key::S)) (SL key sh) c,.inl (Fin.step ?_)⟩;rw[round hA Ab hv1 hSk hbk];have hbig':Ac ((Ae v:Int)<c.fN)=Af:=by simpa using hbig
       simp only[lkc,hp,hkk,hbig',hN,Aq5,Aqr,Aqv,decide_true]
     | false=>
      rw[hN] at hn;simp only[Aqr] at hn;have hn2:MQ P e.aH key k xs'=Ai:=by
       cases hz:MQ P e.aH key k xs' with
       | none=>rfl
       | some q=>rw[hz] at hn;cases hn
      have hd:=Se (sh:=SL key sh) hA Ab hv1 hSk hbk (by simpa[Sj] using hkk) hp hN;exact more _ _ _ xs' hd g2 Ab Ab Ab hn2
def Mc (xs:List Av):Option (Fo×List Av):=MQ (Ae xs+1) Ah Ai 1 xs
theorem Ad0 (h:MQ P Ah Ai 1 xs=Ad (f,ys)):f.one=Af:=by
 obtain⟨h1,h2,h3⟩:=Mb _ _ _ _ _ _ _ h
 cases f with
 | nil=>cases h3
 | cell k c r=>
  cases r with
  | nil=>
   cases k with
   | none=>rfl
   | some s=>simp[Fo.wf,C6] at h2
  | cell _ _ _=>simp[Fo.cnt] at h3
  | node _ _ _ _=>simp[Fo.cnt] at h3
 | node k c kids r=>
  cases r with
  | nil=>
   cases k with
   | none=>rfl
   | some s=>simp[Fo.wf,C6] at h2
  | cell _ _ _=>simp[Fo.cnt] at h3
  | node _ _ _ _=>simp[Fo.cnt] at h3
theorem AfM (hA:LkA F M v)(h:Mc v=Ai):Bad (lkB F v) ([],0,U6):=by
 have hlf:Hy []:=λx hx=>by cases hx
 unfold Mc at h;rw[MQ] at h;simp only[M1,Aqr] at h
 cases v with
 | nil=>exact Bad.end_ (S:=[]) (Aq8 0) rfl
 | cons c xs'=>
  have hv1:(c::xs').drop (0:Int).toNat=c::xs':=rfl;have hvM:=hA.hv;have hMM:=hA.hM;simp only at h
  cases hp:pl c with
  | false=>exact Bad.pl_ (S:=[]) hA (Aq8 0) hv1 Aj hlf hp
  | true=>
   rw[hp] at h;simp only[Aq5,Aqr] at h;have hcN:=(hA.hc c Aj).2.2
   cases hN:Ac (0<c.fN) with
   | true=>
    rw[hN] at h;simp only[Aqv] at h;simp only[Aqq] at hN
    by_cases hbig:c.fN≤Ae (c::xs')
    ·have hnd:=OQ (S:=[]) (sh:=U6) hA (Aq8 0) hv1 Aj hlf rfl hp (by simpa using hN) hbig;refine hnd.bad ?_
     cases hks:MQ (Ae (c::xs')) (Ac (c.aa=6)) Ai c.fN.toNat xs' with
     | none=>
      obtain⟨n',hn'⟩:∃n',c.fN.toNat=n'+1:=⟨c.fN.toNat-1,Ab⟩
      rw[hn'] at hks;exact AcD hA (Ae (c::xs')) n' ⟨Ac (c.aa=6),c.fN,Ac (c.aa=6),[],Ah⟩ [] (0+1) _ Ai xs' Aj hks rfl (by simp only;omega) Ab rfl (λ_=>rfl) rfl Ab Aj hlf
     | some q=>rw[hks] at h;cases h
    ·refine⟨NC 0 U6 c,.inl (Fin.step ?_)⟩;rw[show lkB F (c::xs') (([]:List Bf),0,U6)=_ from round (S:=[]) hA (Aq8 0) hv1 Aj hlf];have hbig':Ac ((Ae (c::xs'):Int)<c.fN)=Af:=by simpa using hbig
     simp only[lkc,hp,hbig',hN,Aq5,Aqr,Aqv,decide_true]
   | false=>rw[hN] at h;cases h
theorem Alb (hA:LkA F M v):(∃f ys,Mc v=Ad (f,ys)∧N4 F v=Ad ((Ae f.flat:Int),f.sh 0 U6,Af))∨(Mc v=Ai∧∃sh',N4 F v=Ad (0,sh',Ah)):=by
 cases h:Mc v with
 | some q=>
  obtain⟨f,ys⟩:=q;obtain⟨h1,h2,h3⟩:=Mb _ _ _ _ _ _ _ h;exact .inl ⟨f,ys,rfl,AaB hA (Ad0 h) h2 h1⟩
 | none=>
  refine .inr ⟨rfl,?_⟩;obtain⟨o,ho,_⟩:=Vo hA;obtain⟨sh',hb | hb⟩:=AfM hA h
  ·have e:=hb.eq ho;subst e;exact⟨sh',by unfold N4;rw[Bu ho];rfl⟩
  ·have e:=hb.eq ho;subst e;exact⟨sh',by unfold N4;rw[Bu ho];rfl⟩
end
theorem O3 (h:-9223372036854775808≤x)(h':x≤9223372036854775807):IntKind.wrap .i64 x=x:=by
 simp only[IntKind.wrap,IntKind.bits,IntKind.signed];simp;omega
def Fo.dep:Fo→Nat
 | .nil=>0
 | .cell _ _ r=>max 1 r.dep
 | .node _ _ kids r=>max (kids.dep+1) r.dep
theorem K9 (k:Option Aw)(s:Bs):(SL k s).aI=s.aI∧(SL k s).aD=s.aD∧(SL k s).aK=(s.aK||(Ct k).any λc=>Ac (200<(Ae c.au:Int))):=by
 cases k with
 | none=>simp[SL,Ct]
 | some x=>simp[SL,shk,Ct]
theorem Q4:∀(f:Fo) (d:Nat) (s:Bs),(d:Int)≤s.aI→(f.sh d s).aI=max s.aI ((d:Int)+f.dep)
 | .nil,d,s,h=>by simp only[Fo.sh,Fo.dep];omega
 | .cell k c r,d,s,h=>by
  have hk:=(K9 k s).1;have e:(NC d (SL k s) c).aI=max s.aI ((d:Int)+1):=by rw[NC,hk]
  rw[Fo.sh,Q4 r d _ (by rw[e];omega),e,Fo.dep];omega
 | .node k c kids r,d,s,h=>by
  have hk:=(K9 k s).1;have e:(NC d (SL k s) c).aI=max s.aI ((d:Int)+1):=by rw[NC,hk]
  have e2:=Q4 kids (d+1) (NC d (SL k s) c) (by rw[e];omega);rw[e] at e2;rw[Fo.sh,Q4 r d _ (by rw[e2];omega),e2,Fo.dep];omega
def D0 (c:Av):Bool:=Ac (c.aa=3)&&!(Ac ((-1000000000000)≤c.ay)&&Ac (c.ay≤1000000000000))
def LK (c:Av):Bool:=Ac (200<(Ae c.au:Int))
theorem Vt (k:Option Aw):(Ct k).any D0=Ah:=by cases k<;>simp[Ct,D0]
theorem Yb:∀(f:Fo) (d:Nat) (s:Bs),(f.sh d s).aD=(s.aD||f.flat.any D0)
 | .nil,d,s=>by simp[Fo.sh,Fo.flat]
 | .cell k c r,d,s=>by
  rw[Fo.sh,Yb r,NC,(K9 k s).2.1];simp only[Fo.flat,List.any_append,List.any_cons,Vt,Aq9,Bool.or_assoc];rfl
 | .node k c kids r,d,s=>by
  rw[Fo.sh,Yb r,Yb kids,NC,(K9 k s).2.1];simp only[Fo.flat,List.any_append,List.any_cons,Vt,Aq9,Bool.or_assoc];rfl
theorem T3:∀(f:Fo) (d:Nat) (s:Bs),(f.sh d s).aK=(s.aK||f.flat.any LK)
 | .nil,d,s=>by simp[Fo.sh,Fo.flat]
 | .cell k c r,d,s=>by
  rw[Fo.sh,T3 r,NC,(K9 k s).2.2];simp only[Fo.flat,List.any_append,List.any_cons,Bool.or_assoc];rfl
 | .node k c kids r,d,s=>by
  rw[Fo.sh,T3 r,T3 kids,NC,(K9 k s).2.2];simp only[Fo.flat,List.any_append,List.any_cons,Bool.or_assoc];rfl
def lsz (c:Av):Int:=
 bif Ac (c.aa=1) then 4 else bif Ac (c.aa=2) then 5-c.ay else bif Ac (c.aa=3) then(Ae (Lib.itoa c.ay):Int) else
 bif Ac (c.aa=4) then RU c.au else 2
def YH:Option Aw→Int
 | none=>0
 | some s=>RU s+1
def Fo.byt:Fo→Int
 | .nil=>0
 | .cell k c r=>YH k+lsz c+r.byt
 | .node k c kids r=>YH k+(c.fN+1)+kids.byt+r.byt
theorem QR (s:Aw):2≤RU s:=by unfold RU;omega
theorem TM (k:Option Aw):0≤YH k:=by
 cases k with
 | none=>exact Aq8 0
 | some s=>have:=QR s;simp only[YH];omega
theorem AdM {c:Av}(hp:pl c=Af):0≤lsz c:=by
 unfold lsz
 cases h1:Ac (c.aa=1) with
 | true=>simp
 | false=>
  cases h2:Ac (c.aa=2) with
  | true=>
   simp[pl,h1,h2] at hp;simp only[Aqr,Aqv];omega
  | false=>
   cases h3:Ac (c.aa=3) with
   | true=>simp
   | false=>
    cases h4:Ac (c.aa=4) with
    | true=>have:=QR c.au;simp only[Aqr,Aqv];omega
    | false=>simp
theorem AkE {c:Av}(hp:pl c=Af):0≤c.fN:=by
 simp only[pl,← Bool.decide_or] at hp
 cases h1:Ac (c.aa=1)<;>cases h2:Ac (c.aa=2)<;>cases h3:Ac (c.aa=3)<;>cases h4:Ac (c.aa=4)<;>cases h5:Ac (c.aa=5)<;>cases h6:Ac (c.aa=6)<;>simp[h1,h2,h3,h4,h5,h6] at hp<;>omega
theorem Nd {c:Av}(hp:pl c=Af)(hn:0<c.fN):(c.aa=5∨c.aa=6)∧c.ay=0∧c.au=[]:=by
 cases h1:Ac (c.aa=1)<;>cases h2:Ac (c.aa=2)<;>cases h3:Ac (c.aa=3)<;>cases h4:Ac (c.aa=4)<;>cases h5:Ac (c.aa=5)<;>cases h6:Ac (c.aa=6)<;>simp[pl,h1,h2,h3,h4,h5,h6] at hp<;>(simp only[Aqq,Aqt] at *;first | omega | exact⟨Ab,hp.1,hp.2.1⟩)
theorem Ahl {c:Av}(hp:pl c=Af)(hn:Ac (0<c.fN)=Ah):szc c=lsz c:=by
 have hN:=AkE hp;have h0:c.fN=0:=by simp only[Aqt] at hn;omega
 unfold szc lsz;rw[h0]
 cases h1:Ac (c.aa=1) with
 | true=>rfl
 | false=>
  cases h2:Ac (c.aa=2) with
  | true=>
   simp[pl,h1,h2] at hp;simp only[Aqr,Aqv];exact O3 Ab Ab
  | false=>rfl
theorem Ahk {c:Av}(hp:pl c=Af)(hn:0<c.fN)(hm:c.fN≤9223372036854775000):szc c=c.fN+1:=by
 obtain⟨hk,_,_⟩:=Nd hp hn;unfold szc;rw[Aqn Ab,Aqn Ab,Aqn Ab,Aqn Ab];simp only[Aqr];rw[O3 (x:=c.fN-1) Ab Ab,O3 Ab Ab];omega
theorem LT:∀{f:Fo} {m:Bool} {l:Option Aw},f.wf m l=Af→0≤f.byt
 | .nil,_,_,_=>Aq8 0
 | .cell k c r,m,l,h=>by
  simp only[Fo.wf,Aqu] at h;have h1:=LT h.2;have h2:=AdM h.1.1.2;have h3:=TM k;simp only[Fo.byt];omega
 | .node k c kids r,m,l,h=>by
  simp only[Fo.wf,Aqu,Aqq] at h;have h1:=LT h.2;have h2:=LT h.1.2;have h3:=TM k;simp only[Fo.byt];omega
theorem W5 (k:Option Aw)(s:Bs)(h0:0≤s.aF)(h:s.aF+YH k≤9223372036854775807):(SL k s).aF=s.aF+YH k:=by
 cases k with
 | none=>simp[SL,YH]
 | some x=>
  have:=QR x;simp only[YH] at h;simp only[SL,shk,YH];exact O3 Ab Ab
theorem Q5:∀(f:Fo) (m:Bool) (l:Option Aw) (d:Nat) (s:Bs),f.wf m l=Af→0≤s.aF→s.aF+f.byt≤9223372036854775000→(f.sh d s).aF=s.aF+f.byt
 | .nil,_,_,d,s,_,_,_=>by simp[Fo.sh,Fo.byt]
 | .cell k c r,m,l,d,s,hw,h0,h=>by
  simp only[Fo.wf,Aqu,Aq6] at hw;obtain⟨⟨⟨w1,w2⟩,w3⟩,w4⟩:=hw;have h1:=LT w4;have h2:=AdM w2;have h3:=TM k;simp only[Fo.byt] at h;have e1:=W5 k s h0 Ab;have e:(NC d (SL k s) c).aF=s.aF+YH k+lsz c:=by
   rw[NC,e1,Ahl w2 w3];exact O3 Ab Ab
  rw[Fo.sh,Q5 r _ _ d _ w4 (by rw[e];omega) (by rw[e];omega),e,Fo.byt];omega
 | .node k c kids r,m,l,d,s,hw,h0,h=>by
  simp only[Fo.wf,Aqu,Aqq] at hw;obtain⟨⟨⟨⟨⟨w1,w2⟩,w3⟩,w5⟩,w6⟩,w4⟩:=hw;have h1:=LT w4;have h2:=LT w6;have h3:=TM k;simp only[Fo.byt] at h;have e1:=W5 k s h0 Ab;have e:(NC d (SL k s) c).aF=s.aF+YH k+(c.fN+1):=by
   rw[NC,e1,Ahk w2 w3 Ab];exact O3 Ab Ab
  have e2:=Q5 kids _ _ (d+1) (NC d (SL k s) c) w6 (by rw[e];omega) (by rw[e];omega);rw[Fo.sh,Q5 r _ _ d _ w4 (by rw[e2,e];omega) (by rw[e2,e];omega),e2,e,Fo.byt];omega
def IY (s:Aw):Aw:=s.flatMap λc=>bif (Ac (c=34)||decide (c=92)) then[92,c] else[c]
def Jg (s:Aw):Aw:=34::(IY s++[34])
theorem R1:∀s:Aw,Ae (IY s)=Ae s+s.count 34+s.count 92
 | []=>rfl
 | c::s=>by
  have ih:=R1 s;unfold IY at ih ⊢;rw[Arh,Aqs,ih]
  by_cases h1:c=34
  ·subst h1;simp;omega
  ·by_cases h2:c=92
   ·subst h2;simp;omega
   ·simp[h1,h2,List.count_cons];omega
theorem Aah (s:Aw):(Ae (Jg s):Int)=RU s:=by
 simp only[Jg,Aqp,Aqs,R1,Ari,RU];omega
def HI (c:Av):Aw:=
 bif Ac (c.aa=1) then[110,117,108,108] else
 bif Ac (c.aa=2) then(bif Ac (c.ay=1) then[116,114,117,101] else[102,97,108,115,101]) else
 bif Ac (c.aa=3) then Lib.itoa c.ay else
 bif Ac (c.aa=4) then Jg c.au else
 bif Ac (c.aa=6) then[123,125] else[91,93]
def L6:Option Aw→Aw
 | none=>[]
 | some s=>Jg s++[58]
def VK (c:Av)(s:Aw):Aw:=bif Ac (c.aa=6) then 123::(s++[125]) else 91::(s++[93])
def Gc (first:Bool):Aw:=bif first then[] else[44]
def Fo.txt:Bool→Fo→Aw
 | _,.nil=>[]
 | b,.cell k c r=>Gc b++L6 k++HI c++r.txt Ah
 | b,.node k c kids r=>Gc b++L6 k++VK c (kids.txt Af)++r.txt Ah
theorem AdP (k:Option Aw):(Ae (L6 k):Int)=YH k:=by
 cases k with
 | none=>rfl
 | some s=>simp only[L6,Aqs,YH,AqA];have:=Aah s;omega
theorem Xp {c:Av}(hp:pl c=Af):(Ae (HI c):Int)=lsz c:=by
  unfold HI lsz
  cases h1:Ac (c.aa=1) with
  | true=>rfl
  | false=>
    cases h2:Ac (c.aa=2) with
    | true=>
      simp[pl,h1,h2] at hp;simp only[Aqr,Aqv]
      cases h7:Ac (c.ay=1) with
      | true=>simp only[Aqq] at h7;simp[h7]
      | false=>
                 simp only[Aqt] at h7;have:c.ay=0:=Ab
                 simp[this]
    | false=>
      cases h3:Ac (c.aa=3) with
      | true=>rfl
      | false=>
        cases h4:Ac (c.aa=4) with
        | true=>simpa using Aah c.au
        | false=>cases h6:Ac (c.aa=6)<;>rfl
theorem Nx (c:Av)(s:Aw):Ae (VK c s)=Ae s+2:=by
 unfold VK
 cases Ac (c.aa=6)<;>simp
theorem L9:∀(f:Fo) (m:Bool) (l:Option Aw) (b:Bool),f.wf m l=Af→(Ae (f.txt b):Int)=f.byt+(bif b then((f.cnt-1:Nat):Int) else(f.cnt:Int))
 | .nil,m,l,b,_=>by cases b<;>rfl
 | .cell k c r,m,l,b,hw=>by
  simp only[Fo.wf,Aqu,Aq6] at hw;obtain⟨⟨⟨w1,w2⟩,w3⟩,w4⟩:=hw;have ih:=L9 r _ _ Ah w4;have a:=AdP k;have d:=Xp w2;simp only[Aqr] at ih
  cases b<;>simp only[Fo.txt,Fo.byt,Fo.cnt,Gc,Aqv,Aqr,Aqs,Ari,AqA]<;>omega
 | .node k c kids r,m,l,b,hw=>by
  simp only[Fo.wf,Aqu,Aqq] at hw;obtain⟨⟨⟨⟨⟨w1,w2⟩,w3⟩,w5⟩,w6⟩,w4⟩:=hw;have ih:=L9 r _ _ Ah w4;have ih2:=L9 kids _ _ Af w6;have a:=AdP k;have d:=Nx c (kids.txt Af);simp only[Aqr,Aqv] at ih ih2
  cases b<;>simp only[Fo.txt,Fo.byt,Fo.cnt,Gc,Aqv,Aqr,Aqs,Ari,AqA]<;>omega
def Fo.put (k:Option Aw):Fo→Fo→Fo
 | .cell _ c _,r=>.cell k c r
 | .node _ c kids _,r=>.node k c kids r
 | .nil,_=>.nil
theorem AhH (P:Nat)(m:Bool)(last:Option Aw)(k:Nat)(xs:List Av):MQ (P+2) m last (k+1) xs =
  match M1 m last xs with
  | none=>Ai
  | some (key,ys)=>match MQ (P+2) Ah Ai 1 ys with
   | none=>Ai
   | some (f,zs)=>match MQ (P+1) m key k zs with
    | none=>Ai
    | some (r,us)=>Ad (f.put key r,us):=by
 rw[MQ]
 cases hk:M1 m last xs with
 | none=>rfl
 | some p=>
  obtain⟨key,ys⟩:=p;simp only;rw[MQ];simp only[M1,Aqr]
  cases ys with
  | nil=>rfl
  | cons c ys=>
   simp only
   cases hp:pl c with
   | false=>rfl
   | true=>
    simp only[Aq5,Aqr]
    cases hn:Ac (0<c.fN) with
    | true=>
     simp only[Aqv]
     cases hq:MQ (P+1) (Ac (c.aa=6)) Ai c.fN.toNat ys with
     | none=>rfl
     | some q=>
      obtain⟨kids,zs⟩:=q;simp only[MQ]
      cases hr:MQ (P+1) m key k zs with
      | none=>rfl
      | some q=>obtain⟨a,b⟩:=q;rfl
    | false=>
     simp only[Aqr,MQ]
     cases hr:MQ (P+1) m key k ys with
     | none=>rfl
     | some q=>obtain⟨a,b⟩:=q;rfl
def Tt (m:Bool)(last:Option Aw)(k:Nat)(xs:List Av):Option (Fo×List Av):=MQ (Ae xs+1) m last k xs
theorem RW (m:Bool)(last:Option Aw)(xs:List Av):Tt m last 0 xs=Ad (.nil,xs):=rfl
theorem IE (m:Bool)(last:Option Aw)(k:Nat)(xs:List Av):Tt m last (k+1) xs =
  match M1 m last xs with
  | none=>Ai
  | some (key,ys)=>match Mc ys with
   | none=>Ai
   | some (f,zs)=>match Tt m key k zs with
    | none=>Ai
    | some (r,us)=>Ad (f.put key r,us):=by
 unfold Tt Mc;rw[M0 (Ae xs+1) (Ae xs+2) m last (k+1) xs Ab Ab,AhH]
 cases hk:M1 m last xs with
 | none=>rfl
 | some p=>
  obtain⟨key,ys⟩:=p;have h1:=(TD hk).1;have hy:Ae ys≤Ae xs:=by rw[h1];simp
  simp only;rw[M0 (Ae xs+2) (Ae ys+1) Ah Ai 1 ys Ab Ab]
  cases hf:MQ (Ae ys+1) Ah Ai 1 ys with
  | none=>rfl
  | some q=>
   obtain⟨f,zs⟩:=q;have h2:=(Mb _ _ _ _ _ _ _ hf).1;have hz:Ae zs≤Ae ys:=by rw[h2];simp
   simp only;rw[M0 (Ae xs+1) (Ae zs+1) m key k zs Ab Ab]
   all_goals (cases MQ (Ae zs+1) m key k zs<;>rfl)
theorem Jm {S:Type}{body:S→Option (Stp S O)}{s s':S}(h:body s=Ad (.next s'))(h':Cp body n s'=Ad o):Cp body (n+1) s=Ad o:=by rw[Cp,h];exact h'
theorem EK {S:Type}{body:S→Option (Stp S O)}{s:S}(h:body s=Ad (.out o)):Cp body (n+1) s=Ad o:=by rw[Cp,h]
theorem Aak:Mc []=Ai:=rfl
theorem Jx (c:Av)(r:List Av):Mc (c::r)=bif !pl c then Ai else bif Ac (0<c.fN) then(match Tt (Ac (c.aa=6)) Ai c.fN.toNat r with
  | none=>Ai
  | some (kids,zs)=>Ad (.node Ai c kids .nil,zs)) else Ad (.cell Ai c .nil,r):=by
 unfold Mc;rw[MQ];simp only[M1,Aqr]
 cases hp:pl c with
 | false=>rfl
 | true=>
  simp only[Aq5,Aqr]
  cases hn:Ac (0<c.fN) with
  | true=>
   simp only[Aqv];unfold Tt;rw[Aqp]
   cases hq:MQ (Ae r+1) (Ac (c.aa=6)) Ai c.fN.toNat r with
   | none=>rfl
   | some q=>obtain⟨kids,zs⟩:=q;rfl
  | false=>rfl
theorem HT (h:f.one=Af)(key:Option Aw)(r:Fo):(f.put key r).flat=Ct key++(f.flat++r.flat):=by
 cases f with
 | nil=>cases h
 | cell k c r'=>
  cases k with
  | some s=>cases h
  | none=>cases r' with
   | nil=>simp[Fo.put,Fo.flat,Ct]
   | cell _ _ _=>cases h
   | node _ _ _ _=>cases h
 | node k c kids r'=>
  cases k with
  | some s=>cases h
  | none=>cases r' with
   | nil=>simp[Fo.put,Fo.flat,Ct]
   | cell _ _ _=>cases h
   | node _ _ _ _=>cases h
theorem Aar (h:f.one=Af):1≤Ae f.flat:=by
 cases f with
 | nil=>cases h
 | cell k c r'=>simp[Fo.flat];omega
 | node k c kids r'=>simp[Fo.flat];omega
theorem OL (h:Mc xs=Ad (f,ys)):xs=f.flat++ys∧f.wf Ah Ai=Af∧f.one=Af:=
 ⟨(Mb _ _ _ _ _ _ _ h).1,(Mb _ _ _ _ _ _ _ h).2.1,Ad0 h⟩
def N5 (v:List Av)(i:Int):Int:=match Mc (v.drop i.toNat) with
 | none=>-1
 | some (f,_)=>i+Ae f.flat
def Rg (m:Bool)(last:Option Aw)(v:List Av)(i:Int)(k:Nat):Int:=match Tt m last k (v.drop i.toNat) with
 | none=>-1
 | some (f,_)=>i+Ae f.flat
theorem Xf (h0:0≤i)(h1:i≤Ae v):N5 v i = -1∨(i<N5 v i∧N5 v i≤Ae v):=by
 unfold N5
 cases h:Mc (v.drop i.toNat) with
 | none=>exact .inl rfl
 | some q=>
  obtain⟨f,ys⟩:=q;obtain⟨h2,_,h3⟩:=OL h;have:=Aar h3;have hl:Ae (v.drop i.toNat)=Ae f.flat+Ae ys:=by rw[h2];simp
  rw[AqO] at hl
  right;simp only;omega
structure RfA (F M:Nat) (v:List Av):Prop where
 hM:M≤1152921504606846976
 hv:Ae v≤M
 hF:M<F
 hc:∀c∈v,Ae c.au≤M
theorem Afe (ok:Bool)(h0:0≤i)(h1:i≤1152921504606846976):CY ok i=Ad (bif ok then i+1 else -1):=by
 unfold CY
 cases ok
 ·rfl
 ·rw[AX rfl,AH Ab Ab];rfl
theorem Adt {c:Av}(hF:Ae c.au<F)(hs:Ae c.au≤1152921504606846976):Wc F c=Ad (Ac (c.aa=4)&&pl c):=by
 unfold Wc;rw[AeP hF Ab];simp only[Option.isSome_some,ov,AqE,imp,Arb,Bc,Aqv]
 cases h4:Ac (c.aa=4) with
 | false=>rfl
 | true=>
  simp only[Aqq] at h4;simp[pl,h4]
theorem Gu {c:Av}(h0:0≤i)(h:v.drop i.toNat=c::r):A2 v i=c:=by
 have:=(DH h0 h).1;simp[A2,this]
section
variable {M : Nat} {v : List Av}
theorem P6 {F:Nat}(hA:RfA F M v){g:List Av→Int→Option Int}{n:Int}(hn:n≤9223372036854775807):∀(L:Nat) (i x:Int),0≤i→i≤Ae v→0≤x→x≤n→(∀j,i≤j→j≤Ae v→g v j=Ad (N5 v j))→Ae v-i.toNat<L→
  ∃o,Cp (λσ=>Gp v n g σ.1 σ.2) L (i,x)=Ad o∧Cb (λν=>HC ν) o=Ad (Rg Ah Ai v i (n-x).toNat)
 | 0,i,x,_,_,_,_,_,h=>by omega
 | L+1,i,x,h0,h1,hx,hxn,hg,hL=>by
  cases hxl:Ac (x<n) with
  | false=>
   refine⟨.go i,EK (by show Gp v n g i x=_;unfold Gp;rw[AF hxl]),?_⟩;simp only[Aqt] at hxl;rw[show(n-x).toNat=0 from Ab];simp[Cb,HC,Rg,RW,Fo.flat]
  | true=>
   have hb:Gp v n g i x=By (Ac (N5 v i<0)) (Ad (.out (.ret (-1)))) (Bc (BJ .i64 (x+1))<|some (.next (N5 v i,x+1))):=by unfold Gp;rw[AX hxl,hg i (Aq8 i) h1,Bu rfl]
   simp only[Aqq] at hxl;obtain⟨k,hk⟩:∃k,(n-x).toNat=k+1:=⟨(n-x).toNat-1,Ab⟩
   rw[hk];have e:Rg Ah Ai v i (k+1)=bif Ac (N5 v i<0) then -1 else Rg Ah Ai v (N5 v i) k:=by
    unfold Rg;rw[IE];simp only[M1,Aqr]
    cases hp:Mc (v.drop i.toNat) with
    | none=>simp[N5,hp]
    | some q=>
     obtain⟨f,ys⟩:=q;obtain⟨q1,q2,q3⟩:=OL hp;have hi:N5 v i=i+Ae f.flat:=by simp[N5,hp]
     have hd:v.drop (N5 v i).toNat=ys:=by rw[hi];exact Ej h0 q1
     rw[hd,Aqn Ab];simp only[Aqr]
     cases hr:Tt Ah Ai k ys with
     | none=>rfl
     | some q=>
      obtain⟨r,zs⟩:=q;simp only[HT q3,Ct,AqH,Aqs,hi];omega
   rw[e];rcases Xf (v:=v) h0 h1 with hneg | ⟨hlt,hle⟩
   ·exact⟨.ret (-1),EK (hb.trans (by rw[hneg,AX Al])),by rw[hneg];rfl⟩
   ·have hM:=hA.hM;have hvM:=hA.hv;obtain⟨o,ho1,ho2⟩:=P6 hA hn L (N5 v i) (x+1) Ab hle Ab Ab (λj hj=>hg j Ab) Ab;exact⟨o,Jm (hb.trans (by rw[AF (Aqn Ab),AH Ab Ab])) ho1,by rw[ho2,show(n-(x+1)).toNat=k from Ab,Aqn Ab];rfl⟩
theorem UD {F:Nat}(hA:RfA F M v){g:List Av→Int→Option Int}{n:Int}(hn:n≤9223372036854775807):∀(L:Nat) (i x:Int) (last:Aw),0≤i→i≤Ae v→0≤x→x≤n→(∀j,i≤j→j≤Ae v→g v j=Ad (N5 v j))→Ae v-i.toNat<L→
  ∃o,Cp (λσ=>GX F v n g σ.1 σ.2.1 σ.2.2) L (i,last,x)=Ad o∧Cb (λν=>KA ν) o=Ad (Rg Af (bif Ac (0<x) then Ad last else Ai) v i (n-x).toNat)
 | 0,i,x,_,_,_,_,_,_,h=>by omega
 | L+1,i,x,last,h0,h1,hx,hxn,hg,hL=>by
  have hM:=hA.hM;have hvM:=hA.hv;have hMF:=hA.hF
  cases hxl:Ac (x<n) with
  | false=>
   refine⟨.go i,EK (by show GX F v n g i last x=_;unfold GX;rw[AF hxl]),?_⟩;simp only[Aqt] at hxl;rw[show(n-x).toNat=0 from Ab];simp[Cb,KA,Rg,RW,Fo.flat]
  | true=>
   have hxl':=hxl;simp only[Aqq] at hxl;obtain⟨k,hk⟩:∃k,(n-x).toNat=k+1:=⟨(n-x).toNat-1,Ab⟩
   rw[hk]
   cases hd:v.drop i.toNat with
   | nil=>
    have hl:Ae v≤i.toNat:=by simpa using hd
    refine⟨.ret (-1),EK (by
     show GX F v n g i last x=_;unfold GX;rw[AX hxl',Cn (by simp[imp,show(Ae v:Int)≤i from Ab]),Cn (by simp[imp,show(Ae v:Int)≤i from Ab]),AX (by simp[show(Ae v:Int)≤i from Ab])]),?_⟩
    simp[Cb,Rg,hd,IE,M1]
   | cons c r=>
    obtain⟨g1,g2,g3⟩:=DH h0 hd;have hcM:=hA.hc c (Aq1 g1);have hat:=Gu h0 hd;have hnl:Ac ((Ae v:Int)≤i)=Ah:=Am
    have hb:GX F v n g i last x=By (!(Ac (c.aa=4)&&pl c)||decide (0<x)&&(CH c.au last||decide (c.au=last))) (Ad (.out (.ret (-1)))) (BB (g v (i+1)) λha=>By (Ac (ha<0)) (Ad (.out (.ret (-1)))) (Bc (BJ .i64 (x+1))<|some (.next (ha,c.au,x+1)))):=by
     unfold GX;rw[AX hxl',Cn (by simp only[imp];rw[L7 h0 g3];simp),hat,Adt Ab Ab,Cn (by simp[imp])];simp only[hnl,ov,AqE,Aq9];rw[Bi h0 g3,AH Ab Ab]
    have hpk:M1 Af (bif Ac (0<x) then Ad last else Ai) (c::r)=bif (!(Ac (c.aa=4)&&pl c)||decide (0<x)&&(CH c.au last||decide (c.au=last))) then Ai else Ad (Ad c.au,r):=by
     simp only[M1,Aqv]
     cases h4:Ac (c.aa=4) with
     | false=>simp
     | true=>
      cases hp:pl c with
      | false=>simp
      | true=>
       have hok:=(Yu hp (by simpa using h4)).2
       cases h0x:Ac (0<x) with
       | false=>simp[C6,hok]
       | true=>cases hs:(CH c.au last||decide (c.au=last))<;>simp[C6,hok,hs]
    cases ht:(!(Ac (c.aa=4)&&pl c)||decide (0<x)&&(CH c.au last||decide (c.au=last))) with
    | true=>
     rw[ht] at hpk;refine⟨.ret (-1),EK (hb.trans (AX ht)),?_⟩;simp only[Rg,hd,IE,hpk,Aqv];rfl
    | false=>
     rw[ht] at hpk;rw[AF ht,hg (i+1) Ab Ab,Bu rfl] at hb;have e:Rg Af (bif Ac (0<x) then Ad last else Ai) v i (k+1)=bif Ac (N5 v (i+1)<0) then -1 else Rg Af (Ad c.au) v (N5 v (i+1)) k:=by
      unfold Rg;rw[hd,IE,hpk];simp only[Aqr];have hx:N5 v (i+1)=match Mc r with | none=>-1 | some (f,_)=>i+1+Ae f.flat:=by unfold N5;rw[g2]
      cases hp:Mc r with
      | none=>rw[hp] at hx;simp[hx]
      | some q=>
       obtain⟨f,ys⟩:=q;obtain⟨q1,q2,q3⟩:=OL hp;rw[hp] at hx;simp only at hx;have hd2:v.drop (N5 v (i+1)).toNat=ys:=by rw[hx];exact Ej Ab (g2.trans q1)
       rw[hd2,Aqn Ab];simp only[Aqr]
       cases hr:Tt Af (Ad c.au) k ys with
       | none=>rfl
       | some q=>
        obtain⟨r',zs⟩:=q;simp only[HT q3,Ct,Aqs,Aqp,Ari,hx];omega
     rw[e];rcases Xf (v:=v) (i:=i+1) Ab Ab with hneg | ⟨hlt,hle⟩
     ·exact⟨.ret (-1),EK (hb.trans (by rw[hneg,AX Al])),by rw[hneg];rfl⟩
     ·obtain⟨o,ho1,ho2⟩:=UD hA hn L (N5 v (i+1)) (x+1) c.au Ab hle Ab Ab (λj hj=>hg j Ab) Ab;exact⟨o,Jm (hb.trans (by rw[AF (Aqn Ab),AH Ab Ab])) ho1,by rw[ho2,show(n-(x+1)).toNat=k from Ab,Aqo (show(0:Int)<x+1 from Ab),Aqn Ab];rfl⟩
theorem Aa2 {c:Av}(h0:0≤i)(hd:v.drop i.toNat=c::r)(hp:pl c=Af):N5 v i=Rg (Ac (c.aa=6)) Ai v (i+1) c.fN.toNat:=by
 have g2:=(DH h0 hd).2.1;have hN:=AkE hp;unfold N5 Rg;rw[hd,Jx,g2,hp];simp only[Aq5,Aqr]
 cases hn:Ac (0<c.fN) with
 | true=>
  simp only[Aqv]
  cases hq:Tt (Ac (c.aa=6)) Ai c.fN.toNat r with
  | none=>rfl
  | some q=>
   obtain⟨kids,zs⟩:=q;simp only[Fo.flat,Ct,AqH,Aqp,AqJ];omega
 | false=>
  simp only[Aqt] at hn;rw[show c.fN.toNat=0 from Ab,RW];simp[Fo.flat,Ct]
theorem ZY (hA:RfA (M+1) M v)(hN:∀c∈v,c.fN≤9223372036854775807):∀(d F:Nat) (i:Int),0≤i→i≤Ae v→Ae v-i.toNat=d→M+2*d+3<F→GD F v i=Ad (N5 v i):=by
 have hM:=hA.hM;have hvM:=hA.hv;intro d
 induction d using Nat.strongRecOn with
 | ind d ih=>
  intro F i h0 h1 hd hF;obtain⟨F,rfl⟩:∃G,F=G+1:=⟨F-1,Ab⟩
  obtain⟨F,rfl⟩:∃G,F=G+1:=⟨F-1,Ab⟩
  rw[GD];unfold Yk
  cases hdr:v.drop i.toNat with
  | nil=>
   have hl:Ae v≤i.toNat:=by simpa using hdr
   rw[AX Am];simp[N5,hdr,Aak]
  | cons c r=>
   obtain⟨g1,g2,g3⟩:=DH h0 hdr;have hcM:=hA.hc c (Aq1 g1);have hcN:=hN c (Aq1 g1);rw[AF Am,Bi h0 g3,Gu h0 hdr];simp only[Afe _ h0 (show i≤1152921504606846976 by omega),Option.isSome_some,ov,AqE,imp,Arb,Cn (x:=_) (rfl:Af=Af)];have hg:∀j,i+1≤j→j≤Ae v→GD F v j=Ad (N5 v j):=λj hj hj2=>ih (Ae v-j.toNat) Ab F j Ab hj2 rfl Ab;have hpl0:pl c=Ah→N5 v i = -1:=λhp=>by simp[N5,hdr,Jx,hp]
   have hleaf:pl c=Af→c.fN=0→N5 v i=i+1:=λhp h0'=>by simp[N5,hdr,Jx,hp,h0',Fo.flat,Ct]
   have hscal:∀b:Bool,pl c=b→(b=Af→c.fN=0)→N5 v i=bif b then i+1 else -1:=λb hb hz=>by
    cases b
    ·exact hpl0 hb
    ·exact hleaf hb (hz rfl)
   by_cases k1:c.aa=1
   ·rw[AX (by simp[k1])];have hp:pl c=(Ac (c.ay=0)&&(Ac (c.au=[])&&Ac (c.fN=0))):=by simp[pl,k1]
    rw[hscal _ hp (λh=>by simp at h;exact h.2.2)]
    cases Ac (c.ay=0)<;>cases Ac (c.au=[])<;>cases Ac (c.fN=0)<;>rfl
   rw[AF (by simp[k1])]
   by_cases k2:c.aa=2
   ·rw[AX (by simp[k2])];have hp:pl c=((Ac (c.ay=0)||decide (c.ay=1))&&(Ac (c.au=[])&&Ac (c.fN=0))):=by simp[pl,k2]
    rw[hscal _ hp (λh=>by simp at h;exact h.2.2)]
    cases Ac (c.ay=0)<;>cases Ac (c.ay=1)<;>cases Ac (c.au=[])<;>cases Ac (c.fN=0)<;>rfl
   rw[AF (by simp[k2])]
   by_cases k3:c.aa=3
   ·rw[AX (by simp[k3])];have hp:pl c=(Ac (c.au=[])&&Ac (c.fN=0)):=by simp[pl,k3]
    rw[hscal _ hp (λh=>by simp at h;exact h.2)]
    cases Ac (c.au=[])<;>cases Ac (c.fN=0)<;>rfl
   rw[AF (by simp[k3])]
   by_cases k4:c.aa=4
   ·rw[AX (by simp[k4]),Adt Ab Ab,Bu rfl,Bu rfl];rw[Aqo k4,Aq3,hscal (pl c) rfl (λhp=>by have:=(Yu hp k4).1;rw[this])]
   rw[AF (by simp[k4])]
   by_cases k5:c.aa=5
   ·have hp:pl c=(Ac (c.ay=0)&&(Ac (c.au=[])&&Ac (0≤c.fN))):=by simp[pl,k5]
    rw[show(Ac (c.aa=5)&&(Ac (c.ay=0)&&(Ac (c.au=[])&&Ac (0≤c.fN))))=pl c from by rw[hp,Aqo k5,Aq3]];have k5' : ¬ c.aa=6:=Ab
    cases hb:pl c with
    | false=>rw[AF rfl,AF (by simp[k5]),hpl0 hb]
    | true=>
     have hn0:=AkE hb;rw[AX rfl,AH Ab Ab,KC];unfold PZ;obtain⟨o,ho1,ho2⟩:=P6 (F:=F) ⟨hM,hvM,Ab,hA.hc⟩ hcN F (i+1) 0 Ab Ab (Aq8 0) hn0 hg Ab;rw[Bu ho1,ho2,Bu rfl,Aa2 h0 hdr hb,Aqn k5',Int.sub_zero]
   rw[AF (by simp[k5])]
   by_cases k6:c.aa=6
   ·have hp:pl c=(Ac (c.ay=0)&&(Ac (c.au=[])&&Ac (0≤c.fN))):=by simp[pl,k6]
    rw[show(Ac (c.aa=6)&&(Ac (c.ay=0)&&(Ac (c.au=[])&&Ac (0≤c.fN))))=pl c from by rw[hp,Aqo k6,Aq3]]
    cases hb:pl c with
    | false=>rw[AF rfl,hpl0 hb]
    | true=>
     have hn0:=AkE hb;rw[AX rfl,AH Ab Ab,RS];unfold Yi;obtain⟨o,ho1,ho2⟩:=UD (F:=F) ⟨hM,hvM,Ab,hA.hc⟩ hcN F (i+1) 0 [] Ab Ab (Aq8 0) hn0 hg Ab;rw[Bu ho1,ho2,Bu rfl,Aa2 h0 hdr hb,Aqo k6,Int.sub_zero];rfl
   ·rw[AF (by simp[k6]),hpl0 (by simp[pl,k1,k2,k3,k4,k5,k6])]
theorem AbS (hA:RfA (M+1) M v)(hN:∀c∈v,c.fN≤9223372036854775807)(hF:3*M+3<F):T8 F v=Ad (Ac (N5 v 0=Ae v)):=by
 have hvM:=hA.hv;unfold T8;rw[ZY hA hN (Ae v) F 0 (Aq8 0) Ab Aj Ab];simp only[imp,Option.isSome_some,Arb,Cn,ov,AqE]
 cases v with
 | nil=>simp[N5,Aak]
 | cons c r=>
  rw[show Ac (0<(Ae (c::r):Int))=Af from Aj,Aq3]
  first | done | rfl
end
theorem Yt (h:C6 m last key=Af):M1 m last (Ct key++r)=Ad (key,r):=by
 cases key with
 | none=>
  have:m=Ah:=by simpa[C6] using h
  subst this;rfl
 | some s=>
  have h':=h;simp only[C6,Aqu] at h;obtain⟨⟨h1,h2⟩,h3⟩:=h;subst h1;have hp:pl ⟨4,0,s,0⟩=Af:=by simp[pl,h2]
  show(bif pl ⟨4,0,s,0⟩&&Ac ((4:Int)=4)&&C6 Af last (Ad s) then _ else _)=_;rw[hp,h'];rfl
theorem TF:∀(f:Fo) (m:Bool) (last:Option Aw) (ys:List Av),f.wf m last=Af→Tt m last f.cnt (f.flat++ys)=Ad (f,ys)
 | .nil,_,_,_,_=>rfl
 | .cell k c r,m,last,ys,hw=>by
  simp only[Fo.wf,Aqu,Aq6] at hw;obtain⟨⟨⟨w1,w2⟩,w3⟩,w4⟩:=hw;simp only[Fo.cnt,Fo.flat,Aq4,Ara];rw[IE,Yt w1];simp only[Jx,w2,w3,Aq5,Aqr,TF r m k ys w4,Fo.put]
 | .node k c kids r,m,last,ys,hw=>by
  simp only[Fo.wf,Aqu,Aqq] at hw;obtain⟨⟨⟨⟨⟨w1,w2⟩,w3⟩,w5⟩,w6⟩,w4⟩:=hw;simp only[Fo.cnt,Fo.flat,Aq4,Ara];rw[IE,Yt w1];have e:c.fN.toNat=kids.cnt:=Ab
  simp only[Jx,w2,Aqo w3,Aq5,Aqr,Aqv,e,TF kids _ Ai (r.flat++ys) w6,TF r m k ys w4,Fo.put]
theorem Ad2 (h1:f.one=Af)(hw:f.wf Ah Ai=Af):Mc (f.flat++ys)=Ad (f,ys):=by
 have:=TF f Ah Ai ys hw;have hc:f.cnt=1:=by
  cases f with
  | nil=>cases h1
  | cell k c r=>cases k with
   | some _=>cases h1
   | none=>cases r with
    | nil=>rfl
    | _=>cases h1
  | node k c kids r=>cases k with
   | some _=>cases h1
   | none=>cases r with
    | nil=>rfl
    | _=>cases h1
 rw[hc] at this;exact this
structure Mh (M:Nat) (v:List Av):Prop where
 hM:M≤1000000000
 hv:Ae v≤M
 hc:∀c∈v,Ae c.au≤M∧BJ .i64 c.ay=Af∧c.fN≤9223372036854775807
theorem Mh.lk (h:Mh M v)(hF:M<F):LkA F M v:=⟨by have:=h.hM;omega,by have:=h.hM;omega,h.hv,hF,h.hc⟩
theorem Mh.rf (h:Mh M v)(hF:M<F):RfA F M v:=⟨by have:=h.hM;omega,h.hv,hF,λc hc=>(h.hc c hc).1⟩
theorem Mh.drop (h:Mh M v)(k:Nat):Mh M (v.drop k):=⟨h.hM,by have:=h.hv;rw[AqO];omega,λc hc=>h.hc c (List.mem_of_mem_drop hc)⟩
theorem Mh.take (h:Mh M v)(k:Nat):Mh M (v.take k):=⟨h.hM,by have:=h.hv;rw[AqV];omega,λc hc=>h.hc c (List.mem_of_mem_take hc)⟩
def whole (v:List Av):Option Fo:=match Mc v with
 | some (f,[])=>Ad f
 | _=>Ai
theorem KR (h:whole v=Ad f):v=f.flat∧f.wf Ah Ai=Af∧f.one=Af:=by
 unfold whole at h
 cases hp:Mc v with
 | none=>rw[hp] at h;cases h
 | some q=>
  obtain⟨g,ys⟩:=q;rw[hp] at h
  cases ys with
  | cons _ _=>cases h
  | nil=>
   cases h
   obtain⟨h1,h2,h3⟩:=OL hp;exact⟨by simpa using h1,h2,h3⟩
theorem Qz (h1:f.one=Af)(hw:f.wf Ah Ai=Af):whole f.flat=Ad f:=by
 have:=Ad2 (ys:=[]) h1 hw;rw[AqJ] at this;simp[whole,this]
def IZ (f:Fo):Int:=
 bif f.flat.any D0 then 2 else bif f.flat.any LK||(Ac (200<Ae f.flat)||(Ac (8<f.dep)||decide (4000<Ae (f.txt Af)))) then 3 else 0
def HZ (v:List Av):Int:=match whole v with
 | none=>1
 | some f=>IZ f
theorem QW (h1:f.one=Af):f.cnt=1:=by
 cases f with
 | nil=>cases h1
 | cell k c r=>cases k with
  | some _=>cases h1
  | none=>cases r with
   | nil=>rfl
   | _=>cases h1
 | node k c kids r=>cases k with
  | some _=>cases h1
  | none=>cases r with
   | nil=>rfl
   | _=>cases h1
theorem Yr (s:Aw):RU s≤2*Ae s+2+Ae s:=by
 have h1:s.count 34≤Ae s:=List.count_le_length;have h2:s.count 92≤Ae s:=List.count_le_length;unfold RU;omega
theorem AmO {c:Av}(hp:pl c=Af)(hs:Ae c.au≤M)(hi:Ae (Lib.itoa c.ay)≤21):lsz c≤3*M+21:=by
 have:=Yr c.au;unfold lsz
 cases h1:Ac (c.aa=1) with
 | true=>simp only[Aqv];omega
 | false=>
  cases h2:Ac (c.aa=2) with
  | true=>
   simp[pl,h1,h2] at hp;simp only[Aqr,Aqv];omega
  | false=>
   cases h3:Ac (c.aa=3) with
   | true=>simp only[Aqr,Aqv];omega
   | false=>cases h4:Ac (c.aa=4)<;>simp only[Aqr,Aqv]<;>omega
theorem YZ {M:Nat}:∀{f:Fo} {m:Bool} {l:Option Aw},f.wf m l=Af→(∀c∈f.flat,Ae c.au≤M∧BJ .i64 c.ay=Af∧c.fN≤9223372036854775807)→f.byt+f.cnt≤(3*M+24)*Ae f.flat
 | .nil,_,_,_,_=>by simp[Fo.byt,Fo.flat,Fo.cnt]
 | .cell k c r,m,l,hw,hc=>by
  simp only[Fo.wf,Aqu,Aq6] at hw;obtain⟨⟨⟨w1,w2⟩,w3⟩,w4⟩:=hw;simp only[Fo.flat] at hc;have ih:=YZ w4 (λx hx=>hc x (by simp[hx]));obtain⟨c1,c2,c3⟩:=hc c Aj;have i64:=K6 c2;have hl:=AmO w2 c1 (Lib.itoa_length_le c.ay i64.1 i64.2);have hk:YH k≤(3*M+24)*Ae (Ct k):=by
   cases k with
   | none=>simp[YH,Ct]
   | some s=>
    have:=(hc ⟨4,0,s,0⟩ (by simp[Ct])).1;have h2:=Yr s;simp only at this;simp only[YH,Ct,AqA];omega
  simp only[Fo.byt,Fo.flat,Fo.cnt,Aqs,Aqp];have e:((3*(M:Int)+24)*((Ae (Ct k)+(Ae r.flat+1):Nat):Int))=(3*(M:Int)+24)*Ae (Ct k)+((3*(M:Int)+24)*Ae r.flat+(3*(M:Int)+24)):=by
   push_cast;rw[Int.mul_add,Int.mul_add,Int.mul_one]
  rw[e]
  push_cast at *
  omega
 | .node k c kids r,m,l,hw,hc=>by
  simp only[Fo.wf,Aqu,Aqq] at hw;obtain⟨⟨⟨⟨⟨w1,w2⟩,w3⟩,w5⟩,w6⟩,w4⟩:=hw;simp only[Fo.flat] at hc;have ih:=YZ w4 (λx hx=>hc x (by simp[hx]));have ih2:=YZ w6 (λx hx=>hc x (by simp[hx]));have hcf:=DA kids;have hk:YH k≤(3*M+24)*Ae (Ct k):=by
   cases k with
   | none=>simp[YH,Ct]
   | some s=>
    have:=(hc ⟨4,0,s,0⟩ (by simp[Ct])).1;have h2:=Yr s;simp only at this;simp only[YH,Ct,AqA];omega
  simp only[Fo.byt,Fo.flat,Fo.cnt,Aqs,Aqp];have e:((3*(M:Int)+24)*((Ae (Ct k)+(Ae kids.flat+Ae r.flat+1):Nat):Int))=(3*(M:Int)+24)*Ae (Ct k)+((3*(M:Int)+24)*Ae kids.flat+(3*(M:Int)+24)*Ae r.flat+(3*(M:Int)+24)):=by
   push_cast;rw[Int.mul_add,Int.mul_add,Int.mul_add,Int.mul_one]
  rw[e]
  push_cast at *
  omega
theorem Pm (hM:M≤2000000){l:Option Aw}(hw:f.wf m l=Af)(hl:Ae f.flat≤M)(hc:∀c∈f.flat,Ae c.au≤M∧BJ .i64 c.ay=Af∧c.fN≤9223372036854775807):f.byt≤16000000000000:=by
 have:=YZ (M:=M) hw hc;have h2:(3*M+24)*Ae f.flat≤(3*2000000+24)*2000000:=Nat.mul_le_mul Ab Ab;have h3:(((3*M+24)*Ae f.flat:Nat):Int)=(3*(M:Int)+24)*Ae f.flat:=by push_cast;rfl
 omega
theorem OC (hA:Mh M v)(hM:M≤2000000)(hF:M<F):NJ F v=Ad (HZ v):=by
 unfold NJ HZ whole;have hvM:=hA.hv;rcases Alb (hA.lk hF) with⟨f,ys,hp,hl⟩ | ⟨hp,sh',hl⟩
 ·rw[hl,Bu rfl,hp];obtain⟨h1,h2,h3⟩:=OL hp;have hlen:Ae v=Ae f.flat+Ae ys:=by rw[h1];simp
  cases ys with
  | cons c r=>
   rw[AX];simp only[Aqp] at hlen;simp;omega
  | nil=>
   simp only[Ari,Nat.add_zero] at hlen;rw[AF (by simp[hlen])];have hc:∀c∈f.flat,Ae c.au≤M∧BJ .i64 c.ay=Af∧c.fN≤9223372036854775807:=λc hc=>hA.hc c (by rw[h1];simp[hc]);have hb:=Pm hM h2 Ab hc;have hb0:=LT h2;have e1:(f.sh 0 U6).aD=f.flat.any D0:=by rw[Yb];rfl
   have e2:(f.sh 0 U6).aK=f.flat.any LK:=by rw[T3];rfl
   have e3:(f.sh 0 U6).aI=f.dep:=by rw[Q4 f 0 U6 (by simp[U6])];simp[U6]
   have e4:(f.sh 0 U6).aF=Ae (f.txt Af):=by
    rw[Q5 f Ah Ai 0 U6 h2 (by simp[U6]) (by simp[U6];omega),L9 f Ah Ai Af h2,QW h3];simp[U6]
   simp only;rw[e1,e2,e3,e4,hlen];unfold IZ
   cases f.flat.any D0 with
   | true=>rw[AX rfl];rfl
   | false=>
    rw[AF rfl];have a1:Ac ((200:Int)<(Ae f.flat:Int))=Ac (200<Ae f.flat):=by rw[Aq2];simp;omega
    have a2:Ac ((8:Int)<(f.dep:Int))=Ac (8<f.dep):=by rw[Aq2];simp;omega
    have a3:Ac ((4000:Int)<(Ae (f.txt Af):Int))=Ac (4000<Ae (f.txt Af)):=by rw[Aq2];simp;omega
    rw[a1,a2,a3]
    cases(f.flat.any LK||(Ac (200<Ae f.flat)||(Ac (8<f.dep)||decide (4000<Ae (f.txt Af)))))<;>rfl
 ·rw[hl,Bu rfl,hp];rfl
variable{p:Int}
theorem Y7 (h1:f.one=Af)(hw:f.wf Ah Ai=Af)(hd:v.drop p.toNat=f.flat++ys):N5 v p=p+Ae f.flat:=by
 unfold N5;rw[hd,Ad2 h1 hw]
theorem XQ {c:Av}(hp:pl c=Af)(hn:Ac (0<c.fN)=Ah):(Fo.cell Ai c .nil).wf Ah Ai=Af:=by simp[Fo.wf,C6,hp,hn]
theorem XP {c:Av}{kids:Fo}(hp:pl c=Af)(hn:0<c.fN)(hk:c.fN=kids.cnt)(hw:kids.wf (Ac (c.aa=6)) Ai=Af):(Fo.node Ai c kids .nil).wf Ah Ai=Af:=by simp[Fo.wf,C6,hp,hn,hk,hw];omega
variable{at_:Int}
section
variable {M : Nat} {v : List Av}
theorem Mh.next (hA:Mh M v)(hF:3*M+3<F)(h0:0≤p)(h1:p≤Ae v):GD F v p=Ad (N5 v p):=by
 have hM:=hA.hM;have hvM:=hA.hv;exact ZY (hA.rf (Aqw M)) (λc hc=>(hA.hc c hc).2.2) (Ae v-p.toNat) F p h0 h1 rfl Ab
theorem QG {c:Av}(h0:0≤p)(hpM:p≤1152921504606846976)(hd:v.drop p.toNat=c::r)(hp:pl c=Af)(hn:Ac (0<c.fN)=Ah):EW (F+2) v p=Ad 1:=by
 obtain⟨g1,g2,g3⟩:=DH h0 hd;rw[EW];unfold NW;rw[Bi h0 g3,Gu h0 hd]
 cases hk:(!Ac (c.aa=5)&&!Ac (c.aa=6)) with
 | true=>rw[AX rfl]
 | false=>
  rw[AF rfl,AH Ab Ab,Bu (EK (o:=.go 0) (by
   show ES (F+1) v p _ 0 (p+1) 0=_;unfold ES;rw[Gu h0 hd,AF hn]))]
  simp only[Cb,Is];rw[AH Ab Ab];rfl
theorem WI {rec:List Av→Int→Option Int}{most L q:Int}{pc:Av}(hpc:A2 v i=pc)(hm:Ac (pc.aa=6)=m)(hx:x<pc.fN)(hx0:0≤x)(hpcN:pc.fN≤9223372036854775807)
  (ha0:0≤at_) (haM:at_≤1152921504606846976) (hp:p=bif m then at_+1 else at_) (hr:rec v p=Ad L) (hq:GD F v p=Ad q):ES F v i rec most at_ x=Ad (.next (max most L,q,x+1)):=by
 unfold ES;rw[hpc,AX (by simpa using hx),hm]
 cases m with
 | true=>
  simp only[Aqv] at hp;rw[AX rfl,AH Ab Ab,← hp,hr,Bu rfl]
  cases hl:Ac (most<L) with
  | true=>rw[AX rfl,hq,Bu rfl,AH Ab Ab,Int.max_eq_right (by simp at hl;omega)]
  | false=>rw[AF rfl,hq,Bu rfl,AH Ab Ab,Int.max_eq_left (by simp at hl;omega)]
 | false=>
  simp only[Aqr] at hp;rw[AF rfl,← hp,hr,Bu rfl]
  cases hl:Ac (most<L) with
  | true=>rw[AX rfl,hq,Bu rfl,AH Ab Ab,Int.max_eq_right (by simp at hl;omega)]
  | false=>rw[AF rfl,hq,Bu rfl,AH Ab Ab,Int.max_eq_left (by simp at hl;omega)]
theorem Rr (h:C6 m last key=Af):(Ae (Ct key):Int)=bif m then 1 else 0:=by
  cases key with
  | none=>
            have:m=Ah:=by simpa[C6] using h
            subst this;rfl
  | some s=>simp only[C6,Aqu] at h;rw[h.1.1];rfl
theorem ZZ (hA:Mh M v):∀(g:Fo) (F L:Nat) (i at_ x most:Int) (m:Bool) (last:Option Aw) (ys:List Av) (pc:Av),A2 v i=pc→Ac (pc.aa=6)=m→pc.fN≤9223372036854775807→g.wf m last=Af→v.drop at_.toNat=g.flat++ys→0≤at_→at_≤Ae v→pc.fN=x+g.cnt→0≤x→0≤most→most≤1152921504606846976→g.cnt<L→3*M+5+Ae g.flat<F→
  ∃o,Cp (λσ=>ES F v i (EW F) σ.1 σ.2.1 σ.2.2) L (most,at_,x)=Ad o∧Cb (λν=>Is ν) o=Ad (max most (g.dep:Int)+1):=by
 have hM:=hA.hM;have hvM:=hA.hv;have fin:∀(F L:Nat) (i at_ x most:Int) (pc:Av),A2 v i=pc→pc.fN≤x→0≤most→most≤1152921504606846976→0<L→∃o,Cp (λσ=>ES F v i (EW F) σ.1 σ.2.1 σ.2.2) L (most,at_,x)=Ad o∧Cb (λν=>Is ν) o=Ad (most+1):=λF L i at_ x most pc hpc hx h0 hb hL=>by
  obtain⟨L,rfl⟩:∃K,L=K+1:=⟨L-1,Ab⟩
  refine⟨.go most,EK (by show ES F v i _ most at_ x=_;unfold ES;rw[hpc,AF Am]),?_⟩;simp only[Cb,Is];rw[AH Ab Ab]
 have depM:∀g:Fo,g.dep≤Ae g.flat:=by
  intro g
  induction g with
  | nil=>simp[Fo.dep]
  | cell k c r ih=>simp[Fo.dep,Fo.flat];omega
  | node k c kids r ih1 ih2=>simp[Fo.dep,Fo.flat];omega
 intro g
 induction g with
 | nil=>
  intro F L i at_ x most m last ys pc hpc hm hpN hw hd h0 h1 hN hx hmo hmM hL hF;obtain⟨o,h1,h2⟩:=fin F L i at_ x most pc hpc (by simp[Fo.cnt] at hN;omega) hmo hmM Ab;exact⟨o,h1,by rw[h2];simp only[Fo.dep];congr 2<;>omega⟩
 | cell k c r ih=>
  intro F L i at_ x most m last ys pc hpc hm hpN hw hd h0 h1 hN hx hmo hmM hL hF;simp only[Fo.wf,Aqu,Aq6] at hw;obtain⟨⟨⟨w1,w2⟩,w3⟩,w4⟩:=hw;simp only[Fo.flat,Aq4,Ara] at hd;simp only[Fo.cnt] at hN hL;simp only[Fo.flat,Aqs,Aqp] at hF;obtain⟨L,rfl⟩:∃K,L=K+1:=⟨L-1,Ab⟩
  obtain⟨F,rfl⟩:∃K,F=K+2:=⟨F-2,Ab⟩
  have hd1:=Ej h0 hd;have hkl:=Rr w1;obtain⟨g1,g2,g3⟩:=DH Ab hd1;have hlen:at_+Ae (Ct k)=bif m then at_+1 else at_:=by rw[hkl];cases m<;>simp
  have hq:=hA.next (F:=F+2) Ab (p:=at_+Ae (Ct k)) Ab Ab;rw[Y7 (f:=.cell Ai c .nil) (ys:=r.flat++ys) rfl (XQ w2 w3) hd1] at hq;have hb:=WI (most:=most) (x:=x) hpc hm Ab hx hpN h0 Ab hlen (QG (F:=F) Ab Ab hd1 w2 w3) hq;have hdd:=depM r;obtain⟨o,ho1,ho2⟩:=ih (F+2) L i (at_+Ae (Ct k)+(Ae (Fo.cell Ai c .nil).flat:Int)) (x+1) (max most 1) m k ys pc hpc hm hpN w4 (by rw[show(Fo.cell Ai c .nil).flat.length=1 from rfl];exact g2) Ab (by rw[show(Fo.cell Ai c .nil).flat.length=1 from rfl];omega) Ab Ab Ab Ab Ab Ab;refine⟨o,Jm hb ho1,?_⟩;rw[ho2,Fo.dep];congr 2<;>omega
 | node k c kids r ihk ih=>
  intro F L i at_ x most m last ys pc hpc hm hpN hw hd h0 h1 hN hx hmo hmM hL hF;simp only[Fo.wf,Aqu,Aqq] at hw;obtain⟨⟨⟨⟨⟨w1,w2⟩,w3⟩,w5⟩,w6⟩,w4⟩:=hw;simp only[Fo.flat,Aq4,Ara] at hd;simp only[Fo.cnt] at hN hL;simp only[Fo.flat,Aqs,Aqp] at hF;obtain⟨L,rfl⟩:∃K,L=K+1:=⟨L-1,Ab⟩
  obtain⟨F,rfl⟩:∃K,F=K+1:=⟨F-1,Ab⟩
  have hd1:=Ej h0 hd;have hkl:=Rr w1;obtain⟨g1,g2,g3⟩:=DH Ab hd1;have hcN:=(hA.hc c (Aq1 g1)).2.2;have hlen:at_+Ae (Ct k)=bif m then at_+1 else at_:=by rw[hkl];cases m<;>simp
  have hq:=hA.next (F:=F+1) Ab (p:=at_+Ae (Ct k)) Ab Ab;have hfl:(Fo.node Ai c kids .nil).flat=c::kids.flat:=by simp[Fo.flat,Ct]
  rw[Y7 (f:=.node Ai c kids .nil) (ys:=r.flat++ys) rfl (XP w2 w3 w5 w6) (by rw[hd1,hfl];simp)] at hq;have hdk:=depM kids;have hdd:=depM r;have hcf:=DA kids;have hvl:Ae (v.drop (at_+Ae (Ct k)+1).toNat)=Ae kids.flat+(Ae r.flat+Ae ys):=by rw[g2];simp
  rw[AqO] at hvl;have hrec:EW (F+1) v (at_+Ae (Ct k))=Ad ((kids.dep:Int)+1):=by
   rw[EW];unfold NW;rw[Bi Ab g3,Gu Ab hd1];have ha:=(Nd w2 w3).1;rw[AF Am,AH Ab Ab];obtain⟨o,ho1,ho2⟩:=ihk F F (at_+Ae (Ct k)) (at_+Ae (Ct k)+1) 0 0 _ Ai (r.flat++ys) c (Gu Ab hd1) rfl hcN w6 (by rw[g2]) Ab Ab Ab (Aq8 0) (Aq8 0) Ab Ab Ab;rw[Bu ho1,ho2];congr 2<;>omega
  have hb:=WI (most:=most) (x:=x) hpc hm Ab hx hpN h0 Ab hlen hrec hq;obtain⟨o,ho1,ho2⟩:=ih (F+1) L i (at_+Ae (Ct k)+(Ae (Fo.node Ai c kids .nil).flat:Int)) (x+1) (max most ((kids.dep:Int)+1)) m k ys pc hpc hm hpN w4 (by
   have:=Ej Ab g2;rw[hfl,Aqp,show at_+Ae (Ct k)+((Ae kids.flat+1:Nat):Int)=at_+Ae (Ct k)+1+Ae kids.flat from Ab];exact this) Ab (by rw[hfl,Aqp];omega) Ab Ab Ab Ab Ab Ab
  refine⟨o,Jm hb ho1,?_⟩;rw[ho2,Fo.dep];congr 2<;>omega
theorem AbR (hA:Mh M v)(h0:0≤p)(h1:f.one=Af)(hw:f.wf Ah Ai=Af)(hd:v.drop p.toNat=f.flat++ys)(hF:3*M+6+Ae f.flat<F):EW F v p=Ad (f.dep:Int):=by
 have hM:=hA.hM;have hvM:=hA.hv
 cases f with
 | nil=>cases h1
 | cell k c r=>
  cases k with
  | some s=>cases h1
  | none=>
   cases r with
   | nil=>
    simp only[Fo.wf,Aqu,Aq6] at hw;obtain⟨F,rfl⟩:∃K,F=K+2:=⟨F-2,Ab⟩
    have hd':v.drop p.toNat=c::ys:=by simpa[Fo.flat,Ct] using hd
    rw[QG h0 (by have:=(DH h0 hd').2.2;omega) hd' hw.1.1.2 hw.1.2];rfl
   | cell _ _ _=>cases h1
   | node _ _ _ _=>cases h1
 | node k c kids r=>
  cases k with
  | some s=>cases h1
  | none=>
   cases r with
   | nil=>
    simp only[Fo.wf,Aqu,Aqq] at hw;obtain⟨⟨⟨⟨⟨w1,w2⟩,w3⟩,w5⟩,w6⟩,w4⟩:=hw;have hd':v.drop p.toNat=c::(kids.flat++ys):=by simpa[Fo.flat,Ct] using hd
    obtain⟨g1,g2,g3⟩:=DH h0 hd';have hcN:=(hA.hc c (Aq1 g1)).2.2;have hcf:=DA kids;simp only[Fo.flat,Ct,AqH,AqJ,Aqp] at hF;obtain⟨F,rfl⟩:∃K,F=K+1:=⟨F-1,Ab⟩
    rw[EW];unfold NW;have ha:=(Nd w2 w3).1;rw[Bi h0 g3,Gu h0 hd',AF Am,AH Ab Ab];obtain⟨o,ho1,ho2⟩:=ZZ hA kids F F p (p+1) 0 0 _ Ai ys c (Gu h0 hd') rfl hcN w6 g2 Ab Ab Ab (Aq8 0) (Aq8 0) Ab Ab Ab;rw[Bu ho1,ho2];simp only[Fo.dep];congr 1<;>omega
   | cell _ _ _=>cases h1
   | node _ _ _ _=>cases h1
end
def Tu (c:UInt8):Aw:=bif (Ac (c=34)||decide (c=92)) then[92,c] else[c]
theorem Ss {k:Nat}(h:s[k]? =Ad c):IY (s.take (k+1))=IY (s.take k)++Tu c:=by
 rw[List.take_add_one,h];simp[IY,List.flatMap_append,Tu]
theorem AaX (s:Aw):Ae (IY s)≤3*Ae s:=by
 rw[R1];have h1:s.count 34≤Ae s:=List.count_le_length;have h2:s.count 92≤Ae s:=List.count_le_length;omega
theorem AbD (h0:0≤x)(h:s[x.toNat]? =Ad c):Aq (Ao (x+1)-Ao x) (Ap (Ao x) s)=[c]:=by
 have hl:=(List.getElem?_eq_some_iff.1 h).1;have hc:=(List.getElem?_eq_some_iff.1 h).2;rw[show Ao (x+1)-Ao x=1 from Ab,List.drop_eq_getElem_cons hl,hc];rfl
theorem Amj (h:s[x.toNat]? =Ad c):Ac (BA s x=34)=Ac (c=34):=by
 rw[Ga h,Aq2,decide_eq_true_iff,decide_eq_true_iff,← Ark];show _↔c.toNat=34;omega
theorem Ami (h:s[x.toNat]? =Ad c):Ac (BA s x=92)=Ac (c=92):=by
 rw[Ga h,Aq2,decide_eq_true_iff,decide_eq_true_iff,← Ark];show _↔c.toNat=92;omega
variable{out:Aw}
theorem Yg (h0:0≤x)(hx:x<(Ae s:Int))(hs:Ae s≤1152921504606846976)(ho:Ae out≤3*Ae s+1)(hc:s[x.toNat]? =Ad c):Gv s out x=Ad (.next (out++Tu c,x+1)):=by
 unfold Gv Tu;rw[AX (Aqo hx),Bi h0 hx,Amj hc,Ami hc,AbD h0 hc];have l1:(Ae ([92]:Aw):Int)=1:=rfl;have l2:(Ae ([c]:Aw):Int)=1:=rfl
 cases hq:(Ac (c=34)||decide (c=92)) with
 | true=>
  have l3:(Ae (out++([92]:Aw)):Int)=Ae out+1:=by rw[Aqs,AqA,Int.natCast_add];rfl
  rw[AX rfl,l1,l2,l3,AH Ab Ab,AH Ab Ab,C0 Ab Ab,C0 Ab Ab,AH Ab Ab,Aq4];rfl
 | false=>
  rw[AF rfl,l2,AH Ab Ab,C0 Ab Ab,C0 Ab Ab,AH Ab Ab];rfl
theorem EX {R V:Type}(K:V→Option R)(v:V):Cb K (.go v)=K v:=rfl
theorem QU {R V:Type}(K:V→Option R)(r:R):Cb K (.ret r)=Ad r:=rfl
theorem ZS (hx:¬ x<(Ae s:Int)):Gv s out x=Ad (.out (.go out)):=by
 unfold Gv;rw[AF (Aqn hx)]
theorem AeO (h:Ae out≤4611686018427387904):Hn out=Ad (out++[34]):=by
 unfold Hn;have l1:(Ae ([34]:Aw):Int)=1:=rfl;rw[l1,AH Ab Ab]
theorem PX (hF:Ae s<F)(hs:Ae s≤1152921504606846976):OF F s=Ad (Jg s):=by
 obtain⟨o,h1,h2⟩:=Nr (body:=λσ=>Gv s σ.1 σ.2) (λσ=>0≤σ.2∧σ.2≤(Ae s:Int)∧σ.1=34::IY (s.take σ.2.toNat)) (λσ=>Ae s-σ.2.toNat)
  (λo=>Cb (λν=>Hn ν) o=Ad (Jg s)) (λσ ⟨h0,hl,ha⟩=>by
   obtain⟨out,x⟩:=σ;simp only at h0 hl ha;show(∃s',Gv s out x=_∧_)∨∃o,Gv s out x=_∧_;have hb:=AaX (s.take x.toNat);have hb2:Ae (s.take x.toNat)≤Ae s:=by rw[AqV];omega
   have hol:Ae out≤3*Ae s+1:=by rw[ha,Aqp];omega
   by_cases hx:x<(Ae s:Int)
   ·obtain⟨c,hc⟩:∃c,s[x.toNat]? =Ad c:=⟨s[x.toNat]'(Ab),Aqx Ab⟩
    have a1:0≤x+1:=Ab
    have a2:x+1≤Ae s:=Ab
    have a3:Ae s-(x+1).toNat<Ae s-x.toNat:=Ab
    have a4:out++Tu c=34::IY (s.take (x+1).toNat):=by rw[show(x+1).toNat=x.toNat+1 from Ab,Ss hc,ha];rfl
    exact .inl ⟨(out++Tu c,x+1),Yg h0 hx hs hol hc,⟨a1,a2,a4⟩,a3⟩
   ·have e:x.toNat=Ae s:=Ab
    have hk:Hn out=Ad (out++[34]):=AeO Ab;have hf:out++[34]=Jg s:=by rw[ha,e,Arn];rfl
    exact .inr ⟨.go out,ZS hx,(EX (λν=>Hn ν) out).trans (hk.trans (congrArg Ad hf))⟩) F ([34],0) ⟨Aq8 0,by show(0:Int)≤Ae s;omega,by show([34]:Aw)=34::IY (s.take 0);simp[IY]⟩ (by show (Ae s)-0<F;omega)
 unfold OF;rw[Bu h1,h2]
section
variable {M : Nat} {v : List Av}
theorem Aoy (a b c d e:Aw):(((a++b)++c)++d)++e=a++(b++(c++d)++e):=Aj
theorem Aoz (a b c d:Aw):((a++b)++c)++d=a++([]++(b++c)++d):=Aj
theorem Ao0 (a b c:Aw):(a++b)++c=a++(b++[]++c):=Aj
theorem Ao1 (a b:Aw):a++b=a++([]++[]++b):=Aj
theorem Alf (a:Aw)(c:UInt8):(Ae (a++[c]):Int)=Ae a+1:=by rw[Aqs,AqA,Int.natCast_add];rfl
theorem len2 (a b:Aw):(Ae (a++b):Int)=Ae a+Ae b:=by rw[Aqs,Int.natCast_add]
theorem WD {rec:List Av→Int→Option Aw}{tx:Aw}{q:Int}{pc:Av}(hpc:A2 v i=pc)(hm:Ac (pc.aa=6)=m)(hx:x<pc.fN)(hx0:0≤x)(hpcN:pc.fN≤9223372036854775807)
  (ha0:0≤at_) (haM:at_<Ae v) (hvM:(Ae v:Int)≤1152921504606846976) (hk:C6 m last key=Af) (hkey:∀s,key=Ad s→(A2 v at_).au=s∧Ae s<F∧Ae s≤1152921504606846976) (hp:p=bif m then at_+1 else at_) (hr:rec v p=Ad tx) (hq:GD F v p=Ad q)
  (hlen:(Ae (out++(Gc (Ac (x=0))++L6 key++tx)):Int)≤4611686018427387904):HS F v i rec out at_ x=Ad (.next (out++(Gc (Ac (x=0))++L6 key++tx),q,x+1)):=by
 have hb:(Ae ([44]:Aw):Int)=1:=rfl;have hd:(Ae ([58]:Aw):Int)=1:=rfl;have hx1:Bc (BJ .i64 (x+1)) (Ad (Stp.next (out++(Gc (Ac (x=0))++L6 key++tx),q,x+1)):Option (Stp (Aw×Int×Int) (Out Aw Aw)))=Ad (Stp.next (out++(Gc (Ac (x=0))++L6 key++tx),q,x+1)):=AH Ab Ab;unfold HS;rw[hpc,AX (Aqo hx),hm]
 cases ha:Ac (x=0) with
 | true=>
  rw[ha] at hx1 hlen;simp only[Aqq] at ha;rw[AF (Aqn Ab)]
  cases m with
  | true=>
   cases key with
   | none=>simp[C6] at hk
   | some s=>
    obtain⟨e1,e2,e3⟩:=hkey s rfl;simp only[Aqv] at hp;have e:((out++Jg s)++[58])++tx=out++(Gc Af++L6 (Ad s)++tx):=Aoz _ _ _ _;rw[← e] at hx1 hlen ⊢;have h1:=len2 ((out++Jg s)++[58]) tx;have h2:=Alf (out++Jg s) 58;have h3:=len2 out (Jg s);rw[AX rfl,Bi ha0 haM,e1,PX e2 e3,Bu rfl,AH Ab Ab,hd,AH Ab Ab,AH Ab Ab,← hp,hr,Bu rfl,AH Ab Ab,hq,Bu rfl,hx1]
  | false=>
   cases key with
   | some s=>simp[C6] at hk
   | none=>
    simp only[Aqr] at hp;have e:out++tx=out++(Gc Af++L6 Ai++tx):=Ao1 _ _;rw[← e] at hx1 hlen ⊢;have h1:=len2 out tx;rw[AF rfl,← hp,hr,Bu rfl,AH Ab Ab,hq,Bu rfl,hx1]
 | false=>
  rw[ha] at hx1 hlen;simp only[Aqt] at ha;rw[AX (Aqo Ab)]
  cases m with
  | true=>
   cases key with
   | none=>simp[C6] at hk
   | some s=>
    obtain⟨e1,e2,e3⟩:=hkey s rfl;simp only[Aqv] at hp;have e:(((out++[44])++Jg s)++[58])++tx=out++(Gc Ah++L6 (Ad s)++tx):=Aoy _ _ _ _ _;rw[← e] at hx1 hlen ⊢;have h1:=len2 (((out++[44])++Jg s)++[58]) tx;have h2:=Alf ((out++[44])++Jg s) 58;have h3:=len2 (out++[44]) (Jg s);have h4:=Alf out 44;rw[hb,AH Ab Ab,AX rfl,Bi ha0 haM,e1,PX e2 e3,Bu rfl,AH Ab Ab,hd,AH Ab Ab,AH Ab Ab,← hp,hr,Bu rfl,AH Ab Ab,hq,Bu rfl,hx1]
  | false=>
   cases key with
   | some s=>simp[C6] at hk
   | none=>
    simp only[Aqr] at hp;have e:(out++[44])++tx=out++(Gc Ah++L6 Ai++tx):=Ao0 _ _ _;rw[← e] at hx1 hlen ⊢;have h1:=len2 (out++[44]) tx;have h4:=Alf out 44;rw[hb,AH Ab Ab,AF rfl,← hp,hr,Bu rfl,AH Ab Ab,hq,Bu rfl,hx1]
theorem Ads {pc:Av}(hpc:A2 v i=pc)(h:Ae out≤4611686018427387904):Mr v i out=Ad (VK pc out):=by
 unfold Mr VK;have l1:(Ae ([123]:Aw):Int)=1:=rfl;have l2:(Ae ([91]:Aw):Int)=1:=rfl;have l3:(Ae ([125]:Aw):Int)=1:=rfl;have l4:(Ae ([93]:Aw):Int)=1:=rfl;have h1:=len2 [123] out;have h2:=len2 [91] out;rw[hpc]
 cases hk:Ac (pc.aa=6) with
 | true=>rw[AX rfl,AH Ab Ab,AH Ab Ab];rfl
 | false=>rw[AF rfl,AH Ab Ab,AH Ab Ab];rfl
theorem UB {c:Av}(h0:0≤p)(hpM:p≤1152921504606846976)(hd:v.drop p.toNat=c::r)(hp:pl c=Af)(hn:Ac (0<c.fN)=Ah)(hs:Ae c.au<F+1)(hs2:Ae c.au≤1152921504606846976)(hi:BJ .i64 c.ay=Af):JI (F+2) v p=Ad (HI c):=by
 obtain⟨g1,g2,g3⟩:=DH h0 hd;rw[JI];unfold UA HI;rw[Bi h0 g3,Gu h0 hd]
 cases k1:Ac (c.aa=1) with
 | true=>rw[AX rfl];rfl
 | false=>
 rw[AF rfl]
 cases k2:Ac (c.aa=2) with
 | true=>rw[AX rfl];cases Ac (c.ay=1)<;>rfl
 | false=>
 rw[AF rfl]
 cases k3:Ac (c.aa=3) with
 | true=>rw[AX rfl,Cn hi];rfl
 | false=>
 rw[AF rfl]
 cases k4:Ac (c.aa=4) with
 | true=>rw[AX rfl,PX hs hs2,Bu rfl];rfl
 | false=>
 have hgo:HS (F+1) v p (JI (F+1)) [] (p+1) 0=Ad (.out (.go [])):=by
  unfold HS;rw[Gu h0 hd,AF hn]
 rw[AF rfl,AH Ab Ab,Bu (EK (o:=.go []) hgo),EX,Ads (Gu h0 hd) Aj];simp only[Aqr,VK]
 cases Ac (c.aa=6)<;>rfl
end
section
variable {M : Nat} {v : List Av}
theorem IS [Inhabited α](a:α):ov (Ad a)=a:=rfl
theorem AiD (h0:0≤at_)(hA:Mh M v)(hF:M<F)(hd:v.drop at_.toNat=Ct k++r):∀s,k=Ad s→(A2 v at_).au=s∧Ae s<F∧Ae s≤1152921504606846976:=λs e=>by
 subst e;have hd':v.drop at_.toNat=⟨4,0,s,0⟩::r:=by simpa[Ct] using hd
 have h1:=Gu h0 hd';have h2:=(hA.hc _ (Aq1 (DH h0 hd').1)).1;have hM:=hA.hM;simp only at h2;exact⟨by rw[h1],Ab,Ab⟩
theorem ZO (hA:Mh M v):∀(g:Fo) (F L:Nat) (i at_ x:Int) (out:Aw) (m:Bool) (last:Option Aw) (ys:List Av) (pc:Av),A2 v i=pc→Ac (pc.aa=6)=m→pc.fN≤9223372036854775807→g.wf m last=Af→v.drop at_.toNat=g.flat++ys→0≤at_→at_≤Ae v→pc.fN=x+g.cnt→0≤x→Ae (out++g.txt (Ac (x=0)))≤4611686018427387904→g.cnt<L→3*M+5+Ae g.flat<F→
  ∃o,Cp (λσ=>HS F v i (JI F) σ.1 σ.2.1 σ.2.2) L (out,at_,x)=Ad o∧Cb (λν=>Mr v i ν) o=Ad (VK pc (out++g.txt (Ac (x=0)))):=by
 have hM:=hA.hM;have hvM:=hA.hv;intro g
 induction g with
 | nil=>
  intro F L i at_ x out m last ys pc hpc hm hpN hw hd h0 h1 hN hx hlen hL hF;obtain⟨L,rfl⟩:∃K,L=K+1:=⟨L-1,Ab⟩
  have hgo:HS F v i (JI F) out at_ x=Ad (.out (.go out)):=by
   simp only[Fo.cnt] at hN;unfold HS;rw[hpc,AF (Aqn Ab)]
  refine⟨.go out,EK hgo,?_⟩;simp only[Fo.txt,AqJ] at hlen ⊢;rw[EX,Ads hpc hlen]
 | cell k c r ih=>
  intro F L i at_ x out m last ys pc hpc hm hpN hw hd h0 h1 hN hx hlen hL hF;simp only[Fo.wf,Aqu,Aq6] at hw;obtain⟨⟨⟨w1,w2⟩,w3⟩,w4⟩:=hw;simp only[Fo.flat,Aq4,Ara] at hd;simp only[Fo.cnt] at hN hL;simp only[Fo.flat,Aqs,Aqp] at hF;obtain⟨L,rfl⟩:∃K,L=K+1:=⟨L-1,Ab⟩
  obtain⟨F,rfl⟩:∃K,F=K+2:=⟨F-2,Ab⟩
  have hd1:=Ej h0 hd;have hkl:=Rr w1;obtain⟨g1,g2,g3⟩:=DH Ab hd1;have hcM:=hA.hc c (Aq1 g1);have hp:at_+Ae (Ct k)=bif m then at_+1 else at_:=by rw[hkl];cases m<;>simp
  have hq:=hA.next (F:=F+2) Ab (p:=at_+Ae (Ct k)) Ab Ab;rw[Y7 (f:=.cell Ai c .nil) (ys:=r.flat++ys) rfl (XQ w2 w3) hd1] at hq;have e:out++(Fo.cell k c r).txt (Ac (x=0))=(out++(Gc (Ac (x=0))++L6 k++HI c))++r.txt (Ac (x+1=0)):=by
   rw[Aqn (show ¬ x+1=0 by omega)];simp[Fo.txt]
  rw[e] at hlen ⊢;have hl2:(Ae (out++(Gc (Ac (x=0))++L6 k++HI c)):Int)≤4611686018427387904:=by rw[Aqs] at hlen;omega
  have hat:at_<Ae v:=Ab
  have hb:=WD hpc hm Ab hx hpN h0 hat Ab w1 (AiD h0 hA (F:=F+2) Ab hd) hp (UB (F:=F) Ab Ab hd1 w2 w3 Ab Ab hcM.2.1) hq hl2;obtain⟨o,ho1,ho2⟩:=ih (F+2) L i (at_+Ae (Ct k)+(Ae (Fo.cell Ai c .nil).flat:Int)) (x+1) (out++(Gc (Ac (x=0))++L6 k++HI c)) m k ys pc hpc hm hpN w4 (by rw[show(Fo.cell Ai c .nil).flat.length=1 from rfl];exact g2) Ab (by rw[show(Fo.cell Ai c .nil).flat.length=1 from rfl];omega) Ab Ab hlen Ab Ab;exact⟨o,Jm hb ho1,ho2⟩
 | node k c kids r ihk ih=>
  intro F L i at_ x out m last ys pc hpc hm hpN hw hd h0 h1 hN hx hlen hL hF;simp only[Fo.wf,Aqu,Aqq] at hw;obtain⟨⟨⟨⟨⟨w1,w2⟩,w3⟩,w5⟩,w6⟩,w4⟩:=hw;simp only[Fo.flat,Aq4,Ara] at hd;simp only[Fo.cnt] at hN hL;simp only[Fo.flat,Aqs,Aqp] at hF;obtain⟨L,rfl⟩:∃K,L=K+1:=⟨L-1,Ab⟩
  obtain⟨F,rfl⟩:∃K,F=K+1:=⟨F-1,Ab⟩
  have hd1:=Ej h0 hd;have hkl:=Rr w1;obtain⟨g1,g2,g3⟩:=DH Ab hd1;have hcN:=(hA.hc c (Aq1 g1)).2.2;have hp:at_+Ae (Ct k)=bif m then at_+1 else at_:=by rw[hkl];cases m<;>simp
  have hq:=hA.next (F:=F+1) Ab (p:=at_+Ae (Ct k)) Ab Ab;have hfl:(Fo.node Ai c kids .nil).flat=c::kids.flat:=by simp[Fo.flat,Ct]
  rw[Y7 (f:=.node Ai c kids .nil) (ys:=r.flat++ys) rfl (XP w2 w3 w5 w6) (by rw[hd1,hfl];simp)] at hq;have hcf:=DA kids;have hvl:Ae (v.drop (at_+Ae (Ct k)+1).toNat)=Ae kids.flat+(Ae r.flat+Ae ys):=by rw[g2];simp
  rw[AqO] at hvl;have e:out++(Fo.node k c kids r).txt (Ac (x=0))=(out++(Gc (Ac (x=0))++L6 k++VK c (kids.txt Af)))++r.txt (Ac (x+1=0)):=by
   rw[Aqn (show ¬ x+1=0 by omega)];simp[Fo.txt]
  rw[e] at hlen ⊢;have hl2:(Ae (out++(Gc (Ac (x=0))++L6 k++VK c (kids.txt Af))):Int)≤4611686018427387904:=by rw[Aqs] at hlen;omega
  have hl3:Ae (kids.txt Af)≤4611686018427387904:=by
   have:=Nx c (kids.txt Af);rw[Aqs,Aqs] at hl2;omega
  have hat:at_<Ae v:=Ab
  have hrec:JI (F+1) v (at_+Ae (Ct k))=Ad (VK c (kids.txt Af)):=by
   rw[JI];unfold UA;have ha:=(Nd w2 w3).1;rw[Bi Ab g3,Gu Ab hd1,AF (Aqn Ab),AF (Aqn Ab),AF (Aqn Ab),AF (Aqn Ab),AH Ab Ab];obtain⟨o,ho1,ho2⟩:=ihk F F (at_+Ae (Ct k)) (at_+Ae (Ct k)+1) 0 [] _ Ai (r.flat++ys) c (Gu Ab hd1) rfl hcN w6 (by rw[g2]) Ab Ab Ab (Aq8 0) hl3 Ab Ab;rw[Bu ho1,ho2];rfl
  have hb:=WD hpc hm Ab hx hpN h0 hat Ab w1 (AiD h0 hA (F:=F+1) Ab hd) hp hrec hq hl2;obtain⟨o,ho1,ho2⟩:=ih (F+1) L i (at_+Ae (Ct k)+(Ae (Fo.node Ai c kids .nil).flat:Int)) (x+1) (out++(Gc (Ac (x=0))++L6 k++VK c (kids.txt Af))) m k ys pc hpc hm hpN w4 (by
   have:=Ej Ab g2;rw[hfl,Aqp,show at_+Ae (Ct k)+((Ae kids.flat+1:Nat):Int)=at_+Ae (Ct k)+1+Ae kids.flat from Ab];exact this) Ab (by rw[hfl,Aqp];omega) Ab Ab hlen Ab Ab
  exact⟨o,Jm hb ho1,ho2⟩
theorem ZP (hA:Mh M v)(h0:0≤p)(h1:f.one=Af)(hw:f.wf Ah Ai=Af)(hd:v.drop p.toNat=f.flat++ys)(hF:3*M+6+Ae f.flat<F)(hlen:Ae (f.txt Af)≤4611686018427387904):JI F v p=Ad (f.txt Af):=by
 have hM:=hA.hM;have hvM:=hA.hv
 cases f with
 | nil=>cases h1
 | cell k c r=>
  cases k with
  | some s=>cases h1
  | none=>
   cases r with
   | nil=>
    simp only[Fo.wf,Aqu,Aq6] at hw;obtain⟨F,rfl⟩:∃K,F=K+2:=⟨F-2,Ab⟩
    have hd':v.drop p.toNat=c::ys:=by simpa[Fo.flat,Ct] using hd
    have hcM:=hA.hc c (Aq1 (DH h0 hd').1);rw[UB h0 (by have:=(DH h0 hd').2.2;omega) hd' hw.1.1.2 hw.1.2 Ab Ab hcM.2.1];simp[Fo.txt,Gc,L6]
   | cell _ _ _=>cases h1
   | node _ _ _ _=>cases h1
 | node k c kids r=>
  cases k with
  | some s=>cases h1
  | none=>
   cases r with
   | nil=>
    simp only[Fo.wf,Aqu,Aqq] at hw;obtain⟨⟨⟨⟨⟨w1,w2⟩,w3⟩,w5⟩,w6⟩,w4⟩:=hw;have hd':v.drop p.toNat=c::(kids.flat++ys):=by simpa[Fo.flat,Ct] using hd
    obtain⟨g1,g2,g3⟩:=DH h0 hd';have hcN:=(hA.hc c (Aq1 g1)).2.2;have hcf:=DA kids;simp only[Fo.flat,Ct,AqH,AqJ,Aqp] at hF;have et:(Fo.node Ai c kids .nil).txt Af=VK c (kids.txt Af):=by simp[Fo.txt,Gc,L6]
    rw[et] at hlen ⊢;have hbl:=Nx c (kids.txt Af);obtain⟨F,rfl⟩:∃K,F=K+1:=⟨F-1,Ab⟩
    rw[JI];unfold UA;have ha:=(Nd w2 w3).1;rw[Bi h0 g3,Gu h0 hd',AF (Aqn Ab),AF (Aqn Ab),AF (Aqn Ab),AF (Aqn Ab),AH Ab Ab];obtain⟨o,ho1,ho2⟩:=ZO hA kids F F p (p+1) 0 [] _ Ai ys c (Gu h0 hd') rfl hcN w6 g2 Ab Ab Ab (Aq8 0) (by show(kids.txt Af).length≤_;omega) Ab Ab;rw[Bu ho1,ho2];rfl
   | cell _ _ _=>cases h1
   | node _ _ _ _=>cases h1
theorem Afd {K:Option Int}(hF:Ae v<F)(hv:Ae v≤1152921504606846976):BB (Cp (λσ=>IA v σ) F 0) (Cb λ_=>K)=bif v.any D0 then Ad 2 else K:=by
 obtain⟨o,h1,h2⟩:=Nr (body:=λσ=>IA v σ) (λx=>0≤x∧x≤(Ae v:Int)∧(v.take x.toNat).any D0=Ah) (λx=>Ae v-x.toNat)
  (λo=>Cb (λ_=>K) o=bif v.any D0 then Ad 2 else K) (λx ⟨h0,hl,ha⟩=>by
   by_cases hx:x<(Ae v:Int)
   ·obtain⟨c,hc⟩:∃c,v[x.toNat]? =Ad c:=⟨v[x.toNat]'(Ab),Aqx Ab⟩
    have hat:A2 v x=c:=by simp[A2,hc]
    have ho:(Ac (c.aa=3)&&(Ac (c.ay<(-1000000000000))||decide (1000000000000<c.ay)))=D0 c:=by
     unfold D0
     cases Ac (c.aa=3) with
     | false=>rfl
     | true=>
      rw[Aq3,Aq3,Aq2];simp only[AqF,Aqq,Aq6,Arj,Aqt];omega
    have hb:IA v x=By (D0 c) (Ad (.out (.ret 2))) (Ad (.next (x+1))):=by
     unfold IA;rw[AX (Aqo hx),Bi h0 hx,hat,ho,AH Ab Ab]
    cases hq:D0 c with
    | true=>
     refine .inr ⟨.ret 2,hb.trans (AX hq),?_⟩;have:v.any D0=Af:=List.any_eq_true.2 ⟨c,Aq1 hc,hq⟩;rw[QU,this];rfl
    | false=>
     have a3:(v.take (x+1).toNat).any D0=Ah:=by
      rw[show(x+1).toNat=x.toNat+1 from Ab,List.take_add_one,hc,List.any_append,ha];simp[hq]
     exact .inl ⟨x+1,hb.trans (AF hq),⟨Ab,Ab,a3⟩,Ab⟩
   ·refine .inr ⟨.go (),by unfold IA;rw[AF (Aqn hx)],?_⟩;rw[show x.toNat=Ae v from Ab,Arn] at ha;rw[EX,ha];rfl) F 0 ⟨Aq8 0,Ab,Aj⟩ (by simpa using hF)
 rw[Bu h1,h2]
theorem Afc {K:Option Int}(hF:Ae v<F)(hv:Ae v≤1152921504606846976):BB (Cp (λσ=>I9 v σ) F 0) (Cb λ_=>K)=bif v.any LK then Ad 3 else K:=by
 obtain⟨o,h1,h2⟩:=Nr (body:=λσ=>I9 v σ) (λx=>0≤x∧x≤(Ae v:Int)∧(v.take x.toNat).any LK=Ah) (λx=>Ae v-x.toNat)
  (λo=>Cb (λ_=>K) o=bif v.any LK then Ad 3 else K) (λx ⟨h0,hl,ha⟩=>by
   by_cases hx:x<(Ae v:Int)
   ·obtain⟨c,hc⟩:∃c,v[x.toNat]? =Ad c:=⟨v[x.toNat]'(Ab),Aqx Ab⟩
    have hat:A2 v x=c:=by simp[A2,hc]
    have hb:I9 v x=By (LK c) (Ad (.out (.ret 3))) (Ad (.next (x+1))):=by
     unfold I9;rw[AX (Aqo hx),Bi h0 hx,hat,AH Ab Ab];rfl
    cases hq:LK c with
    | true=>
     refine .inr ⟨.ret 3,hb.trans (AX hq),?_⟩;have:v.any LK=Af:=List.any_eq_true.2 ⟨c,Aq1 hc,hq⟩;rw[QU,this];rfl
    | false=>
     have a3:(v.take (x+1).toNat).any LK=Ah:=by
      rw[show(x+1).toNat=x.toNat+1 from Ab,List.take_add_one,hc,List.any_append,ha];simp[hq]
     exact .inl ⟨x+1,hb.trans (AF hq),⟨Ab,Ab,a3⟩,Ab⟩
   ·refine .inr ⟨.go (),by unfold I9;rw[AF (Aqn hx)],?_⟩;rw[show x.toNat=Ae v from Ab,Arn] at ha;rw[EX,ha];rfl) F 0 ⟨Aq8 0,Ab,Aj⟩ (by simpa using hF)
 rw[Bu h1,h2]
theorem YQ:Ac (N5 v 0=Ae v)=(whole v).isSome:=by
 unfold N5 whole;rw[show v.drop (0:Int).toNat=v from rfl]
 cases hp:Mc v with
 | none=>simp
 | some q=>
  obtain⟨f,ys⟩:=q;have h1:=(OL hp).1;have hl:Ae v=Ae f.flat+Ae ys:=by rw[h1];simp
  cases ys with
  | nil=>simp at hl ⊢;omega
  | cons c r=>simp at hl ⊢;omega
theorem KD (hA:Mh M v)(hM:M≤2000000)(hF:4*M+6<F):NZ F v=Ad (HZ v):=by
 have hvM:=hA.hv;unfold NZ;rw[AbS (hA.rf (Aqw M)) (λc hc=>(hA.hc c hc).2.2) Ab,Bu rfl,YQ];unfold HZ
 cases hwh:whole v with
 | none=>rfl
 | some f=>
  obtain⟨h1,h2,h3⟩:=KR hwh;rw[AF (p:=!(Ad f).isSome) rfl]
  change _=Ad (IZ f)
  have hl:Ae v=Ae f.flat:=by rw[h1]
  have hc:∀c∈f.flat,Ae c.au≤M∧BJ .i64 c.ay=Af∧c.fN≤9223372036854775807:=λc hc=>hA.hc c (by rw[h1];exact hc);have hb:=Pm hM h2 Ab hc;have htl:(Ae (f.txt Af):Int)=f.byt:=by rw[L9 f Ah Ai Af h2,QW h3];simp
  have hd0:v.drop (0:Int).toNat=f.flat++[]:=by rw[AqJ];exact h1
  rw[Afd Ab Ab];unfold IZ OJ;rw[AbR hA (Aq8 0) h3 h2 hd0 Ab,Cn (by simp[imp]),Afc Ab Ab];unfold OI;rw[ZP hA (Aq8 0) h3 h2 hd0 Ab Ab,Bu rfl];rw[IS,hl,← h1];have a1:Ac ((200:Int)<(Ae v:Int))=Ac (200<Ae v):=by rw[Aq2];simp;omega
  have a2:Ac ((8:Int)<(f.dep:Int))=Ac (8<f.dep):=by rw[Aq2];simp;omega
  have a3:Ac ((4000:Int)<(Ae (f.txt Af):Int))=Ac (4000<Ae (f.txt Af)):=by rw[Aq2];simp;omega
  rw[a1,a2,a3]
  cases v.any D0<;>cases v.any LK<;>cases Ac (200<Ae v)<;>cases Ac (8<f.dep)<;>cases Ac (4000<Ae (f.txt Af))<;>rfl
end
theorem EZ {x:Option α}(h:n≤140737488355328):Bc (De 1 n) x=x:=Cn (Aqo Ab)
theorem Jo {β:Type}(a:α)(k:α→Option β):Pp a k=k a:=rfl
theorem Kr {n:Int}{x:Option α}(h:0≤n)(h':n≤255):Bc (BJ .u8 n) x=x:=Cn (AdT h h')
theorem AjE (h:s[x.toNat]? =Ad c):Ar (Ao (BA s x))=c∧0≤BA s x∧BA s x≤255:=by
 have:=UInt8.toNat_lt c;rw[Ga h];refine⟨?_,Ab,Ab⟩;rw[← Ark];simp
variable{l:Aw}
theorem ZA (h0:0≤x)(hx:x<(Ae s:Int))(hs:Ae s≤1152921504606846976)(hl:Ae l+2≤140737488355328)(hc:s[x.toNat]? =Ad c):GW s x l=Ad (.next (x+1,l++Tu c)):=by
 obtain⟨b1,b2,b3⟩:=AjE hc;unfold GW Tu;rw[AX (Aqo hx),Bi h0 hx,Amj hc,Ami hc];have l1:Ae (l++[Ar (Ao 92)])=Ae l+1:=Aj
 cases hq:(Ac (c=34)||decide (c=92)) with
 | true=>
  rw[AX rfl,EZ Ab,Kr Al Al,Jo,l1,EZ Ab,Kr b2 b3,Jo,b1,AH Ab Ab,Aq4];rfl
 | false=>
  rw[AF rfl,EZ Ab,Kr b2 b3,Jo,b1,AH Ab Ab];rfl
theorem Ahe (h:Ae l+1≤140737488355328):Js l=Ad (l++[34]):=by
 unfold Js;rw[EZ h,Jo];rfl
theorem RJ (hF:Ae s<F)(hl:Ae (l++Jg s)≤140737488355328):RK F l s=Ad (l++Jg s):=by
 have hq:Ae (Jg s)=Ae (IY s)+2:=by simp[Jg]
 rw[Aqs,hq] at hl;have hesc:∀k,Ae (IY (s.take k))≤Ae (IY s):=λk=>by
  have:IY s=IY (s.take k)++IY (s.drop k):=by rw[IY,IY,IY,← List.flatMap_append,Ard]
  rw[this,Aqs];omega
 have hsl:Ae s≤Ae (IY s):=by rw[R1];omega
 obtain⟨o,h1,h2⟩:=Nr (body:=λσ=>GW s σ.1 σ.2) (λσ=>0≤σ.1∧σ.1≤(Ae s:Int)∧σ.2=l++[34]++IY (s.take σ.1.toNat)) (λσ=>Ae s-σ.1.toNat)
  (λo=>Cb (λν=>Js ν) o=Ad (l++Jg s)) (λσ ⟨h0,hlx,ha⟩=>by
   obtain⟨x,out⟩:=σ;simp only at h0 hlx ha;show(∃s',GW s x out=_∧_)∨∃o,GW s x out=_∧_;have hol:Ae out=Ae l+1+Ae (IY (s.take x.toNat)):=by rw[ha];simp;omega
   have he:=hesc x.toNat
   by_cases hx:x<(Ae s:Int)
   ·obtain⟨c,hc⟩:∃c,s[x.toNat]? =Ad c:=⟨s[x.toNat]'(Ab),Aqx Ab⟩
    have he2:=hesc (x.toNat+1);rw[Ss hc,Aqs] at he2;have hc1:1≤Ae (Tu c):=by unfold Tu;cases(Ac (c=34)||decide (c=92))<;>simp
    have a1:0≤x+1:=Ab
    have a2:x+1≤Ae s:=Ab
    have a3:Ae s-(x+1).toNat<Ae s-x.toNat:=Ab
    have a4:out++Tu c=l++[34]++IY (s.take (x+1).toNat):=by rw[show(x+1).toNat=x.toNat+1 from Ab,Ss hc,ha,Aq4]
    exact .inl ⟨(x+1,out++Tu c),ZA h0 hx Ab Ab hc,⟨a1,a2,a4⟩,a3⟩
   ·have e:x.toNat=Ae s:=Ab
    rw[e,Arn] at ha;have hf:out++[34]=l++Jg s:=by rw[ha];simp[Jg]
    have hgo:GW s x out=Ad (.out (.go out)):=by unfold GW;rw[AF (Aqn hx)]
    exact .inr ⟨.go out,hgo,(EX (λν=>Js ν) out).trans ((Ahe Ab).trans (congrArg Ad hf))⟩) F (0,l++[34]) ⟨Aq8 0,by show(0:Int)≤Ae s;omega,by show l++[34]=l++[34]++IY (s.take 0);simp[IY]⟩ (by show (Ae s)-0<F;omega)
 unfold RK;rw[EZ Ab,Kr Al Al,Jo];have hb:[Ar (Ao 34)]=([34]:Aw):=rfl;rw[hb,Bu h1,h2]
variable{first:Bool}
theorem Us {key:Aw}{x:List Av}{c:Av}{tx:Aw}(hk:C6 (Ac (c.aa=6)) last k=Af)(hkey:∀s,k=Ad s→key=s∧Ae s<F)
  (hlen:Ae (l++(Gc first++L6 k++tx))≤140737488355328) (hw:∀l':Aw,Ae (l'++tx)≤140737488355328→Jr F l' x=Ad (l'++tx)):Ii (F+1) key x first l c=Ad (Af,Ah,l++(Gc first++L6 k++tx)):=by
 rw[Ii];unfold Ur;have hb:[Ar (Ao 44)]=([44]:Aw):=rfl;have ha:[Ar (Ao 58)]=([58]:Aw):=rfl;have hlen':=hlen;simp only[Aqs] at hlen'
 cases first with
 | true=>
  rw[AF (p:=!Af) rfl]
  cases hm:Ac (c.aa=6) with
  | true=>
   rw[hm] at hk
   cases k with
   | none=>simp[C6] at hk
   | some s=>
    obtain⟨e1,e2⟩:=hkey s rfl;subst e1;simp only[L6,Aqs,AqA] at hlen';have h1:Ae (l++Jg key)≤140737488355328:=by rw[Aqs];omega
    have e:((l++Jg key)++[58])++tx=l++(Gc Af++L6 (Ad key)++tx):=Aoz _ _ _ _;rw[← e] at hlen ⊢;rw[AX rfl,RJ e2 h1,Bu rfl,EZ (by rw[Aqs];omega),Kr Al Al,Jo,ha,hw _ hlen,Bu rfl]
  | false=>
   rw[hm] at hk
   cases k with
   | some s=>simp[C6] at hk
   | none=>
    have e:l++tx=l++(Gc Af++L6 Ai++tx):=Ao1 _ _;rw[← e] at hlen ⊢;rw[AF rfl,hw _ hlen,Bu rfl]
 | false=>
  simp only[Gc,Aqr,AqA] at hlen';rw[AX (p:=!Ah) rfl,EZ Ab,Kr Al Al,Jo,hb]
  cases hm:Ac (c.aa=6) with
  | true=>
   rw[hm] at hk
   cases k with
   | none=>simp[C6] at hk
   | some s=>
    obtain⟨e1,e2⟩:=hkey s rfl;subst e1;simp only[L6,Aqs,AqA] at hlen';have h1:Ae ((l++[44])++Jg key)≤140737488355328:=by simp only[Aqs,AqA];omega
    have e:(((l++[44])++Jg key)++[58])++tx=l++(Gc Ah++L6 (Ad key)++tx):=Aoy _ _ _ _ _;rw[← e] at hlen ⊢;rw[AX rfl,RJ e2 h1,Bu rfl,EZ (by simp only[Aqs,AqA];omega),Kr Al Al,Jo,ha,hw _ hlen,Bu rfl]
  | false=>
   rw[hm] at hk
   cases k with
   | some s=>simp[C6] at hk
   | none=>
    have e:(l++[44])++tx=l++(Gc Ah++L6 Ai++tx):=Ao0 _ _ _;rw[← e] at hlen ⊢;rw[AF rfl,hw _ hlen,Bu rfl]
section
variable {M : Nat}
theorem Uw {c:Av}{l2:Aw}{f1:Fo}(hA:Mh M v)(hF:M<F)(hpc:A2 v 0=c)(hx:x<c.fN)(hx0:0≤x)(hcN:c.fN≤9223372036854775807)(h0:0≤at_)(hk:C6 (Ac (c.aa=6)) last k=Af)
  (hd:v.drop at_.toNat=Ct k++(f1.flat++ys)) (h1:f1.one=Af) (hw:f1.wf Ah Ai=Af) (hr:∀key,(∀s,k=Ad s→key=s)→Ii F key f1.flat first l c=Ad (Af,Ah,l2)) :
  Hk F v c (Ii F) at_ x first l=Ad (.next (at_+Ae (Ct k)+Ae f1.flat,x+1,Ah,l2)):=by
 have hM:=hA.hM;have hvM:=hA.hv;have hd1:=Ej h0 hd;have hkl:=Rr hk;have hfl:=Aar h1;have hll:Ae (v.drop (at_+Ae (Ct k)).toNat)=Ae f1.flat+Ae ys:=by rw[hd1];simp
 rw[AqO] at hll;have hlook:N4 F (v.drop (at_+Ae (Ct k)).toNat)=Ad ((Ae f1.flat:Int),f1.sh 0 U6,Af):=AaB ((hA.drop _).lk hF) h1 hw hd1;have htake:Aq (Ao (at_+Ae (Ct k)+(Ae f1.flat:Int))-Ao (at_+Ae (Ct k))) (v.drop (at_+Ae (Ct k)).toNat)=f1.flat:=by
  rw[hd1,show Ao (at_+Ae (Ct k)+(Ae f1.flat:Int))-Ao (at_+Ae (Ct k))=Ae f1.flat from Ab,List.take_left]
 have hmono:0≤at_+Ae (Ct k)+Ae f1.flat:=Ab
 unfold Hk;rw[hpc,AX (Aqo hx)]
 cases hm:Ac (c.aa=6) with
 | true=>
  rw[hm] at hk hkl
  cases k with
  | none=>simp[C6] at hk
  | some s=>
   have e1:(Ae (Ct (Ad s)):Int)=1:=rfl;rw[e1] at hlook htake hll hmono ⊢;have hats:(A2 v at_).au=s:=by
    have:v.drop at_.toNat=⟨4,0,s,0⟩::(f1.flat++ys):=by simpa[Ct] using hd
    rw[Gu h0 this]
   have hin:at_<Ae v:=Ab
   rw[AX rfl,Bi h0 hin,AH Ab Ab,C0 Ab Ab,hlook,Bu rfl,AH Ab Ab,C0 Ab Ab,C0 Ab Ab,htake,hats,hr s (λs' h=>by cases h;rfl),Bu rfl];rw[AF (p:=!Af) rfl,AH Ab Ab]
 | false=>
  rw[hm] at hk hkl
  cases k with
  | some s=>simp[C6] at hk
  | none=>
   have e1:(Ae (Ct Ai):Int)=0:=rfl;rw[e1,Int.add_zero] at hlook htake hll hmono ⊢;rw[AF rfl,C0 Ab Ab,hlook,Bu rfl,AH Ab Ab,C0 Ab Ab,C0 Ab Ab,htake,hr [] (λs' h=>by cases h),Bu rfl];rw[AF (p:=!Af) rfl,AH Ab Ab]
end
section
variable {M : Nat}
theorem Id (l:Aw)(c:UInt8):Ae (l++[c])=Ae l+1:=by rw[Aqs,AqA]
theorem PQ {p:Aw}{c:Av}{rf:Aw→(List Av)→Bool→Aw→Av→Option (Bool×Bool×Aw)}{rp:(List Av)→Bool→Aw→Av→Option (Bool×Aw)}(hc:A2 v 0=c)(hv:0<Ae v)(hk:c.aa=5∨c.aa=6)(hlen:Ae (l++VK c p)≤140737488355328)
  (hp:∀l':Aw,Ae l'=Ae l+1→∃b,rp v Af l' c=Ad (b,l'++p)):OA F rf rp l v=Ad (l++VK c p):=by
 have hbl:=Nx c p;rw[Aqs,hbl] at hlen;have i0:(0:Int)<(Ae v:Int):=Ab
 unfold OA;rw[Bi (Aq8 0) i0,hc,AF (Aqn Ab),AF (Aqn Ab),AF (Aqn Ab),AF (Aqn Ab)];have b1:[Ar (Ao (BA ([123,125]:Aw) 0))]=([123]:Aw):=rfl;have b2:[Ar (Ao (BA ([123,125]:Aw) 1))]=([125]:Aw):=rfl;have b3:[Ar (Ao (BA ([91,93]:Aw) 0))]=([91]:Aw):=rfl;have b4:[Ar (Ao (BA ([91,93]:Aw) 1))]=([93]:Aw):=rfl;have c1:BA ([123,125]:Aw) 0=123:=rfl;have c2:BA ([123,125]:Aw) 1=125:=rfl;have c3:BA ([91,93]:Aw) 0=91:=rfl;have c4:BA ([91,93]:Aw) 1=93:=rfl;have n2:(Ae ([123,125]:Aw):Int)=2:=rfl;have n3:(Ae ([91,93]:Aw):Int)=2:=rfl
 cases h6:Ac (c.aa=6) with
 | true=>
  obtain⟨b,hb⟩:=hp _ (Id l 123);rw[AX rfl,n2,Bi Al Al,EZ Ab,b1,b2,c1,c2,Kr Al Al,Jo,hb,Bu rfl,Bi Al Al];have e:Ae ((l++[123])++p)=Ae l+1+Ae p:=by rw[Aqs,Id]
  rw[e,EZ Ab,Kr Al Al,Jo];simp[VK,h6]
 | false=>
  obtain⟨b,hb⟩:=hp _ (Id l 91);rw[AF rfl,n3,Bi Al Al,EZ Ab,b3,b4,c3,c4,Kr Al Al,Jo,hb,Bu rfl,Bi Al Al];have e:Ae ((l++[91])++p)=Ae l+1+Ae p:=by rw[Aqs,Id]
  rw[e,EZ Ab,Kr Al Al,Jo];simp[VK,h6]
theorem SD {c:Av}{rf:Aw→(List Av)→Bool→Aw→Av→Option (Bool×Bool×Aw)}(hc:A2 v 0=c)(hx:¬ x<c.fN):Hk F v c rf at_ x first l=Ad (.out (.go (first,l))):=by
 unfold Hk;rw[hc,AF (Aqn hx)]
theorem SC {c:Av}(hp:pl c=Af)(hn:Ac (0<c.fN)=Ah)(hs:Ae c.au<F+2)(hi:BJ .i64 c.ay=Af)(hlen:Ae (l++HI c)≤140737488355328):Jr (F+3) l [c]=Ad (l++HI c):=by
 rw[Jr];have hat:A2 [c] 0=c:=rfl;have i0:(0:Int)<(Ae ([c]:List Av):Int):=Aj
 have hN : ¬ (0:Int)<c.fN:=by simpa using hn
 by_cases ha:c.aa=5∨c.aa=6
 ·have el:HI c=VK c []:=by
   have k1:Ac (c.aa=1)=Ah:=Aqn Ab;have k2:Ac (c.aa=2)=Ah:=Aqn Ab;have k3:Ac (c.aa=3)=Ah:=Aqn Ab;have k4:Ac (c.aa=4)=Ah:=Aqn Ab;unfold HI VK;rw[k1,k2,k3,k4];rfl
  rw[el] at hlen ⊢;refine PQ hat Aj ha hlen (λl' hl'=>⟨Af,?_⟩);rw[K1];unfold NG;rw[Bi (Aq8 0) i0,Bu (EK (o:=.go (Af,l')) (SD hat hN)),EX,AqJ];rfl
 ·unfold OA HI;unfold HI at hlen;rw[Bi (Aq8 0) i0,hat]
  cases k1:Ac (c.aa=1) with
  | true=>
   rw[k1] at hlen;simp only[Aqv] at hlen;rw[AX rfl,EZ (by rw[Aqs] at hlen;exact hlen),Jo];rfl
  | false=>
  rw[k1] at hlen;simp only[Aqr] at hlen;rw[AF rfl]
  cases k2:Ac (c.aa=2) with
  | true=>
   rw[k2] at hlen;simp only[Aqv] at hlen;rw[AX rfl];simp[pl,k1,k2] at hp;simp only[Aqs] at hlen;rcases hp.1 with h0 | h1
   ·rw[h0] at hlen ⊢;have a:A2 ([([102,97,108,115,101]:Aw),([116,114,117,101]:Aw)]:List Aw) 0=[102,97,108,115,101]:=rfl;have hlen2:Ae l+Ae ([102,97,108,115,101]:Aw)≤140737488355328:=hlen;rw[Bi Al Al,a,EZ hlen2,Jo];rfl
   ·rw[h1] at hlen ⊢;have a:A2 ([([102,97,108,115,101]:Aw),([116,114,117,101]:Aw)]:List Aw) 1=[116,114,117,101]:=rfl;have hlen2:Ae l+Ae ([116,114,117,101]:Aw)≤140737488355328:=hlen;rw[Bi Al Al,a,EZ hlen2,Jo];rfl
  | false=>
  rw[k2] at hlen;simp only[Aqr] at hlen;rw[AF rfl]
  cases k3:Ac (c.aa=3) with
  | true=>
   rw[k3] at hlen;simp only[Aqv,Aqs] at hlen;rw[AX rfl,Cn hi,EZ hlen,Jo];rfl
  | false=>
  rw[k3] at hlen;simp only[Aqr] at hlen;rw[AF rfl]
  cases k4:Ac (c.aa=4) with
  | true=>
   rw[k4] at hlen;simp only[Aqv] at hlen;rw[AX rfl,RJ hs hlen,Bu rfl];rfl
  | false=>
   exfalso;simp only[Aqt] at k1 k2 k3 k4;simp[pl,k1,k2,k3,k4,show ¬ c.aa=5 by omega,show ¬ c.aa=6 by omega] at hp
theorem Mh.mem (hA:Mh M v){a b:List Av}(h:v.drop p.toNat=a++b):Mh M a:=by
 have:=(hA.drop p.toNat).take (Ae a)
 rwa [h,List.take_left] at this
theorem VX:∀(g:Fo) (v:List Av) (c:Av) (F L:Nat) (at_ x:Int) (first:Bool) (l:Aw) (m:Bool) (last:Option Aw) (ys:List Av),Mh M v→A2 v 0=c→Ac (c.aa=6)=m→c.fN≤9223372036854775807→g.wf m last=Af→v.drop at_.toNat=g.flat++ys→0≤at_→c.fN=x+g.cnt→0≤x→Ae (l++g.txt first)≤140737488355328→g.cnt<L→M+5+3*Ae g.flat<F→
  ∃o b,Cp (λσ=>Hk F v c (Ii F) σ.1 σ.2.1 σ.2.2.1 σ.2.2.2) L (at_,x,first,l)=Ad o∧Cb (λν=>KU ν.1 ν.2) o=Ad (b,l++g.txt first):=by
 intro g
 induction g with
 | nil=>
  intro v c F L at_ x first l m last ys hA hpc hm hcN hw hd h0 hN hx hlen hL hF
  obtain⟨L,rfl⟩:∃K,L=K+1:=⟨L-1,Ab⟩
  simp only[Fo.cnt] at hN;have hx' : ¬ x<c.fN:=Ab
  refine⟨.go (first,l),first,EK (SD hpc hx'),?_⟩;rw[EX,Fo.txt,AqJ];rfl
 | cell k cc r ih=>
  intro v c F L at_ x first l m last ys hA hpc hm hcN hw hd h0 hN hx hlen hL hF
  simp only[Fo.wf,Aqu,Aq6] at hw;obtain⟨⟨⟨w1,w2⟩,w3⟩,w4⟩:=hw;have hd2:v.drop at_.toNat=Ct k++((Fo.cell Ai cc .nil).flat++(r.flat++ys)):=by rw[hd];simp[Fo.flat,Ct]
  have hd1:=Ej h0 hd2;simp only[Fo.cnt] at hN hL;simp only[Fo.flat,Aqs,Aqp] at hF;obtain⟨L,rfl⟩:∃K,L=K+1:=⟨L-1,Ab⟩
  obtain⟨F,rfl⟩:∃K,F=K+4:=⟨F-4,Ab⟩
  have hAe:=hA.mem hd1;have hcM:=hAe.hc cc (by simp[Fo.flat,Ct]);have e:l++(Fo.cell k cc r).txt first=(l++(Gc first++L6 k++HI cc))++r.txt Ah:=by simp[Fo.txt]
  rw[e] at hlen ⊢;have hl2:Ae (l++(Gc first++L6 k++HI cc))≤140737488355328:=by rw[Aqs] at hlen;omega
  have hb:=Uw (F:=F+4) (last:=last) hA Ab hpc Ab hx hcN h0 (by rw[hm];exact w1) hd2 rfl (XQ w2 w3) (first:=first) (l:=l) (λkey hkey=>
   Us (last:=last) (by rw[hm];exact w1) (λs hs=>⟨hkey s hs,by
    have hM:=hA.hM;subst hs;have:=(hA.hc ⟨4,0,s,0⟩ (List.mem_of_mem_drop (by rw[hd2];simp[Ct]))).1;simp only at this;omega⟩) hl2 (λl' hl'=>SC (F:=F) w2 w3 Ab hcM.2.1 hl'))
  obtain⟨o,b,ho1,ho2⟩:=ih v c (F+4) L (at_+Ae (Ct k)+(Ae (Fo.cell Ai cc .nil).flat:Int)) (x+1) Ah (l++(Gc first++L6 k++HI cc)) m k ys hA hpc hm hcN w4 (Ej Ab hd1) Ab Ab Ab hlen Ab Ab;exact⟨o,b,Jm hb ho1,ho2⟩
 | node k cc kids r ihk ih=>
  intro v c F L at_ x first l m last ys hA hpc hm hcN hw hd h0 hN hx hlen hL hF
  simp only[Fo.wf,Aqu,Aqq] at hw;obtain⟨⟨⟨⟨⟨w1,w2⟩,w3⟩,w5⟩,w6⟩,w4⟩:=hw;have hd2:v.drop at_.toNat=Ct k++((Fo.node Ai cc kids .nil).flat++(r.flat++ys)):=by rw[hd];simp[Fo.flat,Ct]
  have hd1:=Ej h0 hd2;simp only[Fo.cnt] at hN hL;simp only[Fo.flat,Aqs,Aqp] at hF;obtain⟨L,rfl⟩:∃K,L=K+1:=⟨L-1,Ab⟩
  obtain⟨F,rfl⟩:∃K,F=K+3:=⟨F-3,Ab⟩
  have hAe:=hA.mem hd1;have hfl:(Fo.node Ai cc kids .nil).flat=cc::kids.flat:=by simp[Fo.flat,Ct]
  have hcM:=hAe.hc cc (by rw[hfl];simp);have hcf:=DA kids;have e:l++(Fo.node k cc kids r).txt first=(l++(Gc first++L6 k++VK cc (kids.txt Af)))++r.txt Ah:=by simp[Fo.txt]
  rw[e] at hlen ⊢;have hl2:Ae (l++(Gc first++L6 k++VK cc (kids.txt Af)))≤140737488355328:=by rw[Aqs] at hlen;omega
  have hb:=Uw (F:=F+3) (last:=last) hA Ab hpc Ab hx hcN h0 (by rw[hm];exact w1) hd2 rfl (XP w2 w3 w5 w6) (first:=first) (l:=l) (λkey hkey=>
   Us (last:=last) (by rw[hm];exact w1) (λs hs=>⟨hkey s hs,by
    have hM:=hA.hM;subst hs;have:=(hA.hc ⟨4,0,s,0⟩ (List.mem_of_mem_drop (by rw[hd2];simp[Ct]))).1;simp only at this;omega⟩) hl2 (λl' hl'=>by
     rw[Jr];have hat:A2 (Fo.node Ai cc kids .nil).flat 0=cc:=by rw[hfl];rfl
     have hlen0:0<Ae (Fo.node Ai cc kids .nil).flat:=by rw[hfl];simp
     have hbl:=Nx cc (kids.txt Af);rw[Aqs,hbl] at hl';have hb:∀l2:Aw,Ae l2=Ae l'+1→∃b,K1 (F+1) (Fo.node Ai cc kids .nil).flat Af l2 cc=Ad (b,l2++kids.txt Af):=λl2 hl2'=>by
       rw[K1];unfold NG;have i0:(0:Int)<(Ae (Fo.node Ai cc kids .nil).flat:Int):=Ab
       obtain⟨o,b,ho1,ho2⟩:=ihk (Fo.node Ai cc kids .nil).flat cc F F 1 0 Af l2 _ Ai [] hAe hat rfl hcM.2.2 w6 (by rw[hfl];simp) Al Ab (Aq8 0) (by rw[Aqs];omega) Ab Ab;exact⟨b,by rw[Bi (Aq8 0) i0,Bu ho1,ho2]⟩
     exact PQ hat hlen0 (Nd w2 w3).1 (by rw[Aqs,hbl];exact hl') hb))
  obtain⟨o,b,ho1,ho2⟩:=ih v c (F+3) L (at_+Ae (Ct k)+(Ae (Fo.node Ai cc kids .nil).flat:Int)) (x+1) Ah (l++(Gc first++L6 k++VK cc (kids.txt Af))) m k ys hA hpc hm hcN w4 (Ej Ab hd1) Ab Ab Ab hlen Ab Ab;exact⟨o,b,Jm hb ho1,ho2⟩
theorem Ae6 (hA:Mh M f.flat)(h1:f.one=Af)(hw:f.wf Ah Ai=Af)(hF:M+8+3*Ae f.flat<F)(hlen:Ae (l++f.txt Af)≤140737488355328):Jr F l f.flat=Ad (l++f.txt Af):=by
 have hM:=hA.hM;have hvM:=hA.hv
 cases f with
 | nil=>cases h1
 | cell k c r=>
  cases k with
  | some s=>cases h1
  | none=>
   cases r with
   | nil=>
    simp only[Fo.wf,Aqu,Aq6] at hw;have hfl:(Fo.cell Ai c .nil).flat=[c]:=by simp[Fo.flat,Ct]
    have hcM:=hA.hc c (by rw[hfl];simp);have et:(Fo.cell Ai c .nil).txt Af=HI c:=by simp[Fo.txt,Gc,L6]
    rw[et] at hlen ⊢;obtain⟨F,rfl⟩:∃K,F=K+3:=⟨F-3,Ab⟩
    rw[hfl];exact SC hw.1.1.2 hw.1.2 Ab hcM.2.1 hlen
   | cell _ _ _=>cases h1
   | node _ _ _ _=>cases h1
 | node k c kids r=>
  cases k with
  | some s=>cases h1
  | none=>
   cases r with
   | nil=>
    simp only[Fo.wf,Aqu,Aqq] at hw;obtain⟨⟨⟨⟨⟨w1,w2⟩,w3⟩,w5⟩,w6⟩,w4⟩:=hw;have hfl:(Fo.node Ai c kids .nil).flat=c::kids.flat:=by simp[Fo.flat,Ct]
    have hcM:=hA.hc c (by rw[hfl];simp);have et:(Fo.node Ai c kids .nil).txt Af=VK c (kids.txt Af):=by simp[Fo.txt,Gc,L6]
    rw[et] at hlen ⊢;have hcf:=DA kids;have hat:A2 (Fo.node Ai c kids .nil).flat 0=c:=by rw[hfl];rfl
    have hlen0:0<Ae (Fo.node Ai c kids .nil).flat:=by rw[hfl];simp
    have hl1:Ae (Fo.node Ai c kids .nil).flat=Ae kids.flat+1:=by rw[hfl];simp
    have hbl:=Nx c (kids.txt Af);obtain⟨F,rfl⟩:∃K,F=K+2:=⟨F-2,Ab⟩
    rw[Jr];refine PQ hat hlen0 (Nd w2 w3).1 hlen (λl2 hl2=>?_);rw[Aqs,hbl] at hlen;rw[K1];unfold NG;have i0:(0:Int)<(Ae (Fo.node Ai c kids .nil).flat:Int):=Ab
    obtain⟨o,b,ho1,ho2⟩:=VX kids (Fo.node Ai c kids .nil).flat c F F 1 0 Af l2 _ Ai [] hA hat rfl hcM.2.2 w6 (by rw[hfl];simp) Al Ab (Aq8 0) (by rw[Aqs];omega) Ab Ab;exact⟨b,by rw[Bi (Aq8 0) i0,Bu ho1,ho2]⟩
   | cell _ _ _=>cases h1
   | node _ _ _ _=>cases h1
def V9 (v:List Av):Aw×Int:=match whole v with
 | none=>([],1)
 | some f=>bif Ac (IZ f=0) then(f.txt Af,0) else([],IZ f)
theorem Alj (n:Int):Lib.itoa n≠[]:=by
 unfold Lib.itoa
 split
 ·simp
 ·intro h;have:=congrArg List.length h;rw[Lib.decDigits_length] at this;have:=Lib.nDigits_pos n.toNat;simp at *;omega
theorem Aku (hw:f.wf Ah Ai=Af)(h1:f.one=Af):0<Ae (f.txt Af):=by
 have e:=L9 f Ah Ai Af hw
 cases f with
 | nil=>cases h1
 | cell k c r=>
  have h2:=LT hw;simp only[Fo.txt,Aqs];simp only[Fo.wf,Aqu] at hw;have hp:=hw.1.1.2;have:0<Ae (HI c):=by
   have hl:=Xp hp;have:0<lsz c:=by
    unfold lsz
    cases h1:Ac (c.aa=1) with
    | true=>simp
    | false=>
     cases h2:Ac (c.aa=2) with
     | true=>
      simp[pl,h1,h2] at hp;simp only[Aqr,Aqv];omega
     | false=>
      cases h3:Ac (c.aa=3) with
      | true=>
       simp only[Aqr,Aqv];have:Lib.itoa c.ay≠[]:=Alj _;have:=List.length_pos_iff.2 this;omega
      | false=>
       cases h4:Ac (c.aa=4) with
       | true=>have:=QR c.au;simp only[Aqr,Aqv];omega
       | false=>simp
   omega
  omega
 | node k c kids r=>
  have:=Nx c (kids.txt Af);simp only[Fo.txt,Aqs];omega
theorem AbA (hA:Mh M v)(hM:M≤2000000)(hF:4*M+8<F):T1 F v=Ad (V9 v):=by
 have hvM:=hA.hv;unfold T1 V9;rw[OC hA hM Ab,Bu rfl];unfold HZ
 cases hwh:whole v with
 | none=>rfl
 | some f=>
  change By (!Ac (IZ f=0)) _ _=Ad (bif Ac (IZ f=0) then(f.txt Af,0) else([],IZ f))
  cases he:Ac (IZ f=0) with
  | false=>rw[AX (p:=!Ah) rfl];rfl
  | true=>
   obtain⟨h1,h2,h3⟩:=KR hwh;have hl:Ae v=Ae f.flat:=by rw[h1]
   have hc:∀c∈f.flat,Ae c.au≤M∧BJ .i64 c.ay=Af∧c.fN≤9223372036854775807:=λc hc=>hA.hc c (by rw[h1];exact hc);have hb:=Pm hM h2 Ab hc;have htl:(Ae (f.txt Af):Int)=f.byt:=by rw[L9 f Ah Ai Af h2,QW h3];simp
   have hA':Mh M f.flat:=by rw[← h1];exact hA
   have hw:=Ae6 (F:=F) (l:=[]) hA' h3 h2 Ab (by rw[AqH];omega);rw[AF (p:=!Af) rfl,h1,hw,Bu rfl,AqH,Cn (Aqo (Aku h2 h3))];rfl
end
theorem Ac8 (a:Bool):imp a Af=Af:=by cases a<;>rfl
section
variable {M : Nat}
end
def pre:Aw→Aw→Option Aw
 | [],s=>Ad s
 | c::w,d::s=>bif Ac (c=d) then pre w s else Ai
 | _::_,[]=>Ai
def Eh (strict:Bool):Aw→Option (Aw×Aw)
 | []=>Ai
 | c::r=>
  bif Ac (c=34) then Ad ([],r) else
  bif strict&&!P9 c then Ai else
  bif Ac (c=92) then(match r with
   | []=>Ai
   | d::r'=>bif Ac (d=34)||decide (d=92) then(match Eh strict r' with
    | none=>Ai
    | some (t,u)=>Ad (d::t,u)) else Ai)
  else(match Eh strict r with
   | none=>Ai
   | some (t,u)=>Ad (c::t,u))
def Ee (c:UInt8):Bool:=Ac (48≤c.toNat)&&Ac (c.toNat≤57)
def CX:Aw→Aw×Aw
 | []=>([],[])
 | c::r=>bif Ee c then(c::(CX r).1,(CX r).2) else([],c::r)
def Ll (d:Aw):Int:=d.foldl (λn c=>10*n+((c.toNat:Int)-48)) 0
def Pt (neg:Bool)(d:Aw):Int:=
 bif Ac (18<Ae d) then(bif neg then -2000000000000 else 2000000000000) else bif neg then -(Ll d) else Ll d
def GU (neg:Bool)(d:Aw):Bool:=!Ac (d=[])&&!(Ac (d.head? =Ad 48)&&(Ac (1<Ae d)||neg))
def MD (s:Aw):Option (Fo×Aw):=
 let neg:=Ac (s.head? =Ad 45)
 let r:=bif neg then s.tail else s
 bif GU neg (CX r).1 then Ad (.cell Ai ⟨3,Pt neg (CX r).1,[],0⟩ .nil,(CX r).2) else Ai
def lf (k i:Int)(t:Aw):Fo:=.cell Ai ⟨k,i,t,0⟩ .nil
def nd (m:Bool)(g:Fo):Fo:=bif Ac (g.cnt=0) then .cell Ai ⟨bif m then 6 else 5,0,[],0⟩ .nil else .node Ai ⟨bif m then 6 else 5,0,[],(g.cnt:Int)⟩ g .nil
def BY (m:Bool):UInt8:=bif m then 125 else 93
def GC (strict m:Bool)(last:Option Aw)(s:Aw):Option (Option Aw×Aw):=
 bif m then(match s with
  | []=>Ai
  | c::r=>bif Ac (c=34) then(match Eh strict r with
   | none=>Ai
   | some (k,u)=>bif strict&&!C6 Af last (Ad k) then Ai else(match u with
    | []=>Ai
    | d::u'=>bif Ac (d=58) then Ad (Ad k,u') else Ai)) else Ai)
 else Ad (Ai,s)
mutual
def Kl (strict:Bool):Nat→Aw→Option (Fo×Aw)
 | 0,_=>Ai
 | F+1,s=>
  match pre [110,117,108,108] s with
  | some r=>Ad (lf 1 0 [],r)
  | none=>match pre [116,114,117,101] s with
   | some r=>Ad (lf 2 1 [],r)
   | none=>match pre [102,97,108,115,101] s with
    | some r=>Ad (lf 2 0 [],r)
    | none=>match s with
     | []=>Ai
     | c::r=>
      bif Ac (c=34) then(match Eh strict r with
       | none=>Ai
       | some (t,u)=>Ad (lf 4 0 t,u)) else
      bif Ac (c=91)||decide (c=123) then(match r with
       | []=>Ai
       | d::r'=>bif Ac (d=BY (Ac (c=123))) then Ad (nd (Ac (c=123)) .nil,r') else(match Gw strict F (Ac (c=123)) Ai (d::r') with
        | none=>Ai
        | some (g,u)=>Ad (nd (Ac (c=123)) g,u))) else
      MD (c::r)
def Gw (strict:Bool):Nat→Bool→Option Aw→Aw→Option (Fo×Aw)
 | 0,_,_,_=>Ai
 | F+1,m,last,s=>
  match GC strict m last s with
  | none=>Ai
  | some (key,s1)=>match Kl strict F s1 with
   | none=>Ai
   | some (f,s2)=>match s2 with
    | []=>Ai
    | c::s3=>
     bif Ac (c=BY m) then Ad (f.put key .nil,s3) else
     bif Ac (c=44) then(match Gw strict F m key s3 with
      | none=>Ai
      | some (g,u)=>Ad (f.put key g,u)) else Ai
end
theorem HU (strict:Bool)(F:Nat)(s:Aw):Kl strict (F+1) s =
  match pre [110,117,108,108] s with
  | some r=>Ad (lf 1 0 [],r)
  | none=>match pre [116,114,117,101] s with
   | some r=>Ad (lf 2 1 [],r)
   | none=>match pre [102,97,108,115,101] s with
    | some r=>Ad (lf 2 0 [],r)
    | none=>match s with
     | []=>Ai
     | c::r=>
      bif Ac (c=34) then(match Eh strict r with
       | none=>Ai
       | some (t,u)=>Ad (lf 4 0 t,u)) else
      bif Ac (c=91)||decide (c=123) then(match r with
       | []=>Ai
       | d::r'=>bif Ac (d=BY (Ac (c=123))) then Ad (nd (Ac (c=123)) .nil,r') else(match Gw strict F (Ac (c=123)) Ai (d::r') with
        | none=>Ai
        | some (g,u)=>Ad (nd (Ac (c=123)) g,u))) else
      MD (c::r):=by
 rw[Kl.eq_def]
theorem Gj (strict:Bool)(F:Nat)(m:Bool)(last:Option Aw)(s:Aw):Gw strict (F+1) m last s =
  match GC strict m last s with
  | none=>Ai
  | some (key,s1)=>match Kl strict F s1 with
   | none=>Ai
   | some (f,s2)=>match s2 with
    | []=>Ai
    | c::s3=>
     bif Ac (c=BY m) then Ad (f.put key .nil,s3) else
     bif Ac (c=44) then(match Gw strict F m key s3 with
      | none=>Ai
      | some (g,u)=>Ad (f.put key g,u)) else Ai:=by
 rw[Gw.eq_def]
theorem EN:∀{w s r:Aw},pre w s=Ad r→s=w++r
 | [],s,r,h=>by cases h;rfl
 | c::w,[],r,h=>by cases h
 | c::w,d::s,r,h=>by
  rw[pre] at h
  cases hc:Ac (c=d) with
  | false=>rw[hc] at h;cases h
  | true=>
   rw[hc] at h;simp only[Aqq] at hc;rw[hc,EN h];rfl
theorem H8 (b:Bool)(c:UInt8)(r:Aw):Eh b (c::r) =
  bif Ac (c=34) then Ad ([],r) else
  bif b&&!P9 c then Ai else
  bif Ac (c=92) then(match r with
   | []=>Ai
   | d::r'=>bif Ac (d=34)||decide (d=92) then(match Eh b r' with
    | none=>Ai
    | some (t,u)=>Ad (d::t,u)) else Ai)
  else(match Eh b r with
   | none=>Ai
   | some (t,u)=>Ad (c::t,u)):=by
 rw[Eh.eq_def]
 cases r<;>rfl
theorem Mq (b:Bool):∀(n:Nat) (s t u:Aw),Ae s=n→Eh b s=Ad (t,u)→Ae u<Ae s:=by
 intro n
 induction n using Nat.strongRecOn with
 | ind n ih=>
  intro s t u hn h
  cases s with
  | nil=>cases h
  | cons c r=>
   simp only[Aqp] at hn ⊢;rw[H8] at h
   cases h1:Ac (c=34) with
   | true=>rw[h1] at h;cases h;omega
   | false=>
    rw[h1] at h;simp only[Aqr] at h
    cases h2:(b&&!P9 c) with
    | true=>rw[h2] at h;cases h
    | false=>
     rw[h2] at h;simp only[Aqr] at h
     cases h3:Ac (c=92) with
     | true=>
      rw[h3] at h
      cases r with
      | nil=>cases h
      | cons d r'=>
       simp only[Aqv] at h
       cases h4:(Ac (d=34)||decide (d=92)) with
       | false=>rw[h4] at h;cases h
       | true=>
        rw[h4] at h;simp only[Aqv] at h
        cases h5:Eh b r' with
        | none=>rw[h5] at h;cases h
        | some q=>
         obtain⟨t',u'⟩:=q;rw[h5] at h;cases h;simp only[Aqp] at hn ⊢;have:=ih (Ae r') Ab r' t' u rfl h5;omega
     | false=>
      rw[h3] at h;simp only[Aqr] at h
      cases h5:Eh b r with
      | none=>rw[h5] at h;cases h
      | some q=>
       obtain⟨t',u'⟩:=q;rw[h5] at h;cases h;have:=ih (Ae r) Ab r t' u rfl h5;omega
theorem LQ:∀s:Aw,s=(CX s).1++(CX s).2
 | []=>rfl
 | c::r=>by
  have:=LQ r;rw[CX]
  cases Ee c with
  | true=>simp only[Aqv,Ara];rw[← this]
  | false=>rfl
variable{u:Aw}
theorem Vw (h:MD s=Ad (f,u)):Ae u<Ae s:=by
 unfold MD at h;simp only at h
 cases hc:GU (Ac (s.head? =Ad 45)) (CX (bif Ac (s.head? =Ad 45) then s.tail else s)).1 with
 | false=>rw[hc] at h;cases h
 | true=>
  rw[hc] at h;simp only[Aqv,Option.some.injEq,Prod.mk.injEq] at h;obtain⟨_,h⟩:=h;have e:=congrArg List.length (LQ (bif Ac (s.head? =Ad 45) then s.tail else s));rw[Aqs,h] at e;have h1:0<Ae (CX (bif Ac (s.head? =Ad 45) then s.tail else s)).1:=by
   unfold GU at hc;simp only[Aqu,Aq6,Aqt] at hc;exact List.length_pos_iff.2 hc.1
  have h2:Ae (bif Ac (s.head? =Ad 45) then s.tail else s)≤Ae s:=by
   cases Ac (s.head? =Ad 45)<;>simp
  omega
variable{b:Bool}
theorem AaH (h:GC b m last s=Ad (key,u)):Ae u≤Ae s:=by
 unfold GC at h
 cases m with
 | false=>cases h;exact Aq7 _
 | true=>
  simp only[Aqv] at h
  cases s with
  | nil=>cases h
  | cons c r=>
   simp only at h
   cases h1:Ac (c=34) with
   | false=>rw[h1] at h;cases h
   | true=>
    rw[h1] at h;simp only[Aqv] at h
    cases h2:Eh b r with
    | none=>rw[h2] at h;cases h
    | some q=>
     obtain⟨k,w⟩:=q;have:=Mq b _ r k w rfl h2;rw[h2] at h;simp only at h
     cases h3:(b&&!C6 Af last (Ad k)) with
     | true=>rw[h3] at h;cases h
     | false=>
      rw[h3] at h;simp only[Aqr] at h
      cases w with
      | nil=>cases h
      | cons d w'=>
       simp only at h
       cases h4:Ac (d=58) with
       | false=>rw[h4] at h;cases h
       | true=>rw[h4] at h;cases h;simp only[Aqp] at this ⊢;omega
theorem Ain (m:Bool)(g:Fo):(nd m g).one=Af:=by
 unfold nd
 cases Ac (g.cnt=0)<;>rfl
theorem AiI (h:MD s=Ad (f,u)):f.one=Af:=by
 unfold MD at h;simp only at h
 cases hc:GU (Ac (s.head? =Ad 45)) (CX (bif Ac (s.head? =Ad 45) then s.tail else s)).1 with
 | false=>rw[hc] at h;cases h
 | true=>rw[hc] at h;cases h;rfl
theorem GM (b:Bool):∀F:Nat,(∀s f u,Kl b F s=Ad (f,u)→Ae u<Ae s∧f.one=Af)∧(∀m last s g u,Gw b F m last s=Ad (g,u)→Ae u<Ae s∧1≤g.cnt)
 | 0=>⟨(λs f u h=>by rw[Kl.eq_def] at h;cases h),(λm last s g u h=>by rw[Gw.eq_def] at h;cases h)⟩
 | F+1=>by
  obtain⟨ih1,ih2⟩:=GM b F;constructor
  ·intro s f u h;rw[HU] at h
   cases h1:pre [110,117,108,108] s with
   | some r=>rw[h1] at h;cases h;rw[EN h1];exact⟨Am,rfl⟩
   | none=>
   rw[h1] at h;simp only at h
   cases h2:pre [116,114,117,101] s with
   | some r=>rw[h2] at h;cases h;rw[EN h2];exact⟨Am,rfl⟩
   | none=>
   rw[h2] at h;simp only at h
   cases h3:pre [102,97,108,115,101] s with
   | some r=>rw[h3] at h;cases h;rw[EN h3];exact⟨Am,rfl⟩
   | none=>
   rw[h3] at h;simp only at h
   cases s with
   | nil=>cases h
   | cons c r=>
   simp only at h
   cases h4:Ac (c=34) with
   | true=>
    rw[h4] at h;simp only[Aqv] at h
    cases h5:Eh b r with
    | none=>rw[h5] at h;cases h
    | some q=>
     obtain⟨t,w⟩:=q;rw[h5] at h;cases h;have:=Mq b _ r t u rfl h5;exact⟨by simp only[Aqp];omega,rfl⟩
   | false=>
   rw[h4] at h;simp only[Aqr] at h
   cases h5:(Ac (c=91)||decide (c=123)) with
   | false=>rw[h5] at h;simp only[Aqr] at h;exact⟨Vw h,AiI h⟩
   | true=>
   rw[h5] at h;simp only[Aqv] at h
   cases r with
   | nil=>cases h
   | cons d r'=>
   simp only at h
   cases h6:Ac (d=BY (Ac (c=123))) with
   | true=>rw[h6] at h;cases h;exact⟨by simp only[Aqp];omega,Ain _ _⟩
   | false=>
   rw[h6] at h;simp only[Aqr] at h
   cases h7:Gw b F (Ac (c=123)) Ai (d::r') with
   | none=>rw[h7] at h;cases h
   | some q=>
    obtain⟨g,w⟩:=q;rw[h7] at h;cases h;have:=(ih2 _ _ _ _ _ h7).1;exact⟨by simp only[Aqp] at this ⊢;omega,Ain _ _⟩
  ·intro m last s g u h;rw[Gj] at h
   cases h1:GC b m last s with
   | none=>rw[h1] at h;cases h
   | some q=>
   obtain⟨key,s1⟩:=q;have l1:=AaH h1;rw[h1] at h;simp only at h
   cases h2:Kl b F s1 with
   | none=>rw[h2] at h;cases h
   | some q=>
   obtain⟨f,s2⟩:=q;obtain⟨l2,o2⟩:=ih1 _ _ _ h2;rw[h2] at h;simp only at h
   cases s2 with
   | nil=>cases h
   | cons c s3=>
   simp only[Aqp] at l2;have hput:∀r:Fo,1≤(f.put key r).cnt:=λr=>by
    cases f with
    | nil=>cases o2
    | cell _ _ _=>simp[Fo.put,Fo.cnt]
    | node _ _ _ _=>simp[Fo.put,Fo.cnt]
   simp only at h
   cases h3:Ac (c=BY m) with
   | true=>rw[h3] at h;cases h;exact⟨Ab,hput _⟩
   | false=>
   rw[h3] at h;simp only[Aqr] at h
   cases h4:Ac (c=44) with
   | false=>rw[h4] at h;cases h
   | true=>
   rw[h4] at h;simp only[Aqv] at h
   cases h5:Gw b F m key s3 with
   | none=>rw[h5] at h;cases h
   | some q=>
    obtain⟨g',w⟩:=q;rw[h5] at h;cases h;have:=(ih2 _ _ _ _ _ h5).1;exact⟨Ab,hput _⟩
def EQ (acc:Nat)(d:Aw):Nat:=d.foldl (λn c=>10*n+(c.toNat-48)) acc
theorem OR:∀(d:Aw) (a:Nat),a≤EQ a d
 | [],a=>Aq7 _
 | c::d,a=>by
  have:=OR d (10*a+(c.toNat-48));show a≤EQ (10*a+(c.toNat-48)) d;omega
theorem Aip:∀(d:Aw) (a:Nat),1≤a→10 ^ (Ae d)≤EQ a d
 | [],a,h=>by simpa[EQ] using h
 | c::d,a,h=>by
  have hm:∀(d:Aw) (a b:Nat),a≤b→EQ a d≤EQ b d:=by
   intro d
   induction d with
   | nil=>intro a b h;exact h
   | cons c d ih=>intro a b h;show EQ (10*a+(c.toNat-48)) d≤EQ (10*b+(c.toNat-48)) d;exact ih _ _ Ab
  have hs:∀(d:Aw) (a:Nat),10 ^ (Ae d)*a≤EQ a d:=by
   intro d
   induction d with
   | nil=>intro a;simp[EQ]
   | cons c d ih=>
    intro a;have:=ih (10*a+(c.toNat-48));show 10 ^ (Ae d+1)*a≤EQ (10*a+(c.toNat-48)) d;refine Nat.le_trans ?_ this;rw[Nat.pow_succ,Nat.mul_assoc];exact Nat.mul_le_mul_left _ Ab
  exact Nat.le_trans (Nat.le_mul_of_pos_right _ h) (hs (c::d) a)
theorem Ok:∀(d:Aw) (a:Nat),d.all Ee=Af→d.foldl (λn c=>10*n+((c.toNat:Int)-48)) (a:Int)=(EQ a d:Int)
 | [],a,_=>rfl
 | c::d,a,h=>by
  simp only[Are,Aqu] at h;have hc:48≤c.toNat:=by have:=h.1;simp[Ee] at this;omega
  have:=Ok d (10*a+(c.toNat-48)) h.2;show d.foldl _ (10*(a:Int)+((c.toNat:Int)-48))=(EQ (10*a+(c.toNat-48)) d:Int);rw[← this]
  congr 1
  omega
theorem AhK:∀(d:Aw) (a:Nat),d.all Ee=Af→Lib.parseUint10 a d = .ok (EQ a d)∨(Lib.parseUint10 a d = .range∧1000000000000<EQ a d)
 | [],a,_=>.inl rfl
 | c::d,a,h=>by
  simp only[Are,Aqu] at h;have hc:48≤c.toNat∧c.toNat≤57:=by have:=h.1;simp[Ee] at this;omega
  have hm:=OR d (10*a+(c.toNat-48));have e:EQ a (c::d)=EQ (10*a+(c.toNat-48)) d:=rfl;rw[e];unfold Lib.parseUint10;rw[Arc hc]
  split
  ·exact .inr ⟨rfl,Ab⟩
  ·split
   ·exact .inr ⟨rfl,Ab⟩
   ·rw[show a*10+(c.toNat-48)=10*a+(c.toNat-48) from Ab];exact AhK d _ h.2
theorem XH:∀(d:Aw) (i:Nat),BV Jn i d=d.all Ee
 | [],_=>rfl
 | c::d,i=>by
  rw[BV,Are,XH d]
  congr 1
  simp only[Jn,Ee];rw[Aq2];simp only[Aq6,AqD,Aqt,Aqu,Aqq];omega
def Mo (neg:Bool)(d:Aw):Aw:=bif neg then 45::d else d
variable{d:Aw}
theorem AiU (hd:d.all Ee=Af) : ¬ d.head? =Ad 45:=by
 cases d with
 | nil=>simp
 | cons c d=>
  simp only[Are,Aqu] at hd;have:=hd.1;intro e;simp only[List.head?_cons,Option.some.injEq] at e;subst e;simp[Ee] at this
theorem AeJ (s:Aw):IK s=Ac (s.head? =Ad 45):=by
 cases s with
 | nil=>rfl
 | cons c r=>
  have:BA (c::r) 0=c.toNat:=Ga rfl;unfold IK;rw[this,Aq2];simp only[Aqu,Aqq,List.head?_cons,Option.some.injEq,← Ark,Aqp];show _∧(c.toNat:Int)=45↔c.toNat=45;omega
variable{neg:Bool}
theorem Ajt (hd:d.all Ee=Af):G8 (Mo neg d)=d:=by
 unfold G8;rw[AeJ]
 cases neg with
 | true=>rfl
 | false=>
  have:=AiU hd;show(if Ac (d.head? =Ad 45)=Af then d.drop 1 else d)=d;rw[AqM (by simpa using this)]
theorem Ajz (hd:d.all Ee=Af):Ib (Mo neg d)=GU neg d:=by
 unfold Ib GU;rw[Ajt hd,XH,hd,AqQ]
 cases d with
 | nil=>simp
 | cons c r=>
  have hb:BA (c::r) 0=c.toNat:=Ga rfl;have h1:Ac (c::r=([]:Aw))=Ah:=Aj
  have h2:Ac (BA (c::r) 0=48)=Ac ((c::r).head? =Ad 48):=by
   rw[hb,Aq2];simp only[Aqq,List.head?_cons,Option.some.injEq,← Ark];show(c.toNat:Int)=48↔c.toNat=48;omega
  rw[h1,h2,Aq9,AqR,Aq3]
  cases ha:Ac ((c::r).head? =Ad 48) with
  | false=>rfl
  | true=>
   simp only[Aqq,List.head?_cons,Option.some.injEq] at ha;subst ha
   cases neg with
   | true=>simp[Mo]
   | false=>
    cases r with
    | nil=>simp[Mo]
    | cons a r=>simp[Mo]
theorem AjF (hd:d.all Ee=Af)(hne:d≠[]):Lib.atoiAll (Mo neg d)=(bif neg then Lib.signed (Lib.parseUint10 0 d) else Lib.signless (Lib.parseUint10 0 d)):=by
 cases neg with
 | true=>
  simp only[Mo,Aqv];rw[Lib.atoiAll_minus,Lib.parseMag,AqM hne]
 | false=>
  cases d with
  | nil=>exact absurd rfl hne
  | cons c r=>
   have hc:=hd;simp only[Are,Aqu] at hc;have ha:48≤c.toNat:=by have:=hc.1;simp[Ee] at this;omega
   simp only[Mo,Aqr];rw[Lib.atoiAll_plain c r Ab Ab,Lib.parseMag,AqM hne]
theorem Afm (hd:d.all Ee=Af):(GU neg d=Ah∧Cr (Mo neg d)=1)∨(GU neg d=Af∧D0 ⟨3,Pt neg d,[],0⟩=Ah∧Cr (Mo neg d)=0∧BN (Mo neg d)=Pt neg d)∨(GU neg d=Af∧D0 ⟨3,Pt neg d,[],0⟩=Af∧Cr (Mo neg d)=2∧BN (Mo neg d)=0):=by
 unfold Cr BN;rw[Ajz hd]
 cases hc:GU neg d with
 | false=>exact .inl ⟨rfl,rfl⟩
 | true=>
  right
  have hc':=hc;unfold GU at hc';simp only[Aqu,Aq6,Aqt] at hc';have hne:=hc'.1;rw[Arc rfl,Arc rfl,AjF hd hne];have hnum:Ll d=(EQ 0 d:Int):=Ok d 0 hd;have hbig:18<Ae d→1000000000000<EQ 0 d:=λhl=>by
   cases d with
   | nil=>simp at hl
   | cons c r=>
    have hc1:=hd;simp only[Are,Aqu] at hc1;have he:48≤c.toNat:=by have:=hc1.1;simp[Ee] at this;omega
    have hne48 : ¬ c=48:=by
     intro e;have:=hc'.2;subst e;simp only[Aqp] at hl;have h1r:1<Ae r+1:=Ab
     simp[h1r] at this
    have hf:49≤c.toNat:=by
     have : ¬ c.toNat=48:=λe=>hne48 (UInt8.toNat_inj.1 (by rw[e];rfl));omega
    have:=Aip r (10*0+(c.toNat-48)) Ab;have ha:10 ^ 18≤10 ^ (Ae r):=Nat.pow_le_pow_right Al (by simp at hl;omega);have e:EQ 0 (c::r)=EQ (10*0+(c.toNat-48)) r:=rfl;rw[e];have:(1000000000000:Nat)<10 ^ 18:=Al
    omega
  have hout:D0 ⟨3,Pt neg d,[],0⟩=Ac (1000000000000<EQ 0 d):=by
   unfold D0 Pt;rw[hnum]
   cases ha:Ac (18<Ae d) with
   | true=>
    simp only[Aqq] at ha;rw[Aqo (hbig ha)]
    cases neg<;>rfl
   | false=>
    rw[Aq2]
    cases neg<;>simp<;>omega
  rw[hout];rcases AhK d 0 hd with hu | ⟨hu,hg⟩
  ·rw[hu]
   cases hg:Ac (1000000000000<EQ 0 d) with
   | false=>
    simp only[Aqt] at hg;have ha:Ac (18<Ae d)=Ah:=by
     rw[Aqt];intro h;have:=hbig h;omega
    refine .inl ⟨rfl,rfl,?_,?_⟩
    ·cases neg with
     | true=>simp only[Aqv,Lib.signed];rw[AqM Ab];simp only;rw[Arc (by unfold Gf;simp;omega)]
     | false=>simp only[Aqr,Lib.signless];rw[AqM Ab];simp only;rw[Arc (by unfold Gf;simp;omega)]
    ·unfold Pt;rw[ha,hnum]
     cases neg with
     | true=>simp only[Aqv,Aqr,Lib.signed];rw[AqM Ab];simp only;rw[Arc (by unfold Gf;simp;omega)]
     | false=>simp only[Aqr,Lib.signless];rw[AqM Ab];simp only;rw[Arc (by unfold Gf;simp;omega)]
   | true=>
    simp only[Aqq] at hg;refine .inr ⟨rfl,rfl,?_,?_⟩
    ·cases neg with
     | true=>
      simp only[Aqv,Lib.signed]
      by_cases hb:9223372036854775808<EQ 0 d
      ·rw[Arc hb]
      ·rw[AqM hb];simp only;rw[AqM (by unfold Gf;simp;omega)]
     | false=>
      simp only[Aqr,Lib.signless]
      by_cases hb:9223372036854775808≤EQ 0 d
      ·rw[Arc hb]
      ·rw[AqM hb];simp only;rw[AqM (by unfold Gf;simp;omega)]
    ·cases neg with
     | true=>
      simp only[Aqv,Lib.signed]
      by_cases hb:9223372036854775808<EQ 0 d
      ·rw[Arc hb]
      ·rw[AqM hb];simp only;rw[AqM (by unfold Gf;simp;omega)]
     | false=>
      simp only[Aqr,Lib.signless]
      by_cases hb:9223372036854775808≤EQ 0 d
      ·rw[Arc hb]
      ·rw[AqM hb];simp only;rw[AqM (by unfold Gf;simp;omega)]
  ·rw[hu,Aqo hg];refine .inr ⟨rfl,rfl,?_,?_⟩<;>cases neg<;>rfl
def GV (u S:Aw):Prop:=∃p,S=p++u
variable{S:Aw}
theorem GV.len (h:GV u S):Ae u≤Ae S:=by obtain⟨p,rfl⟩:=h;simp
theorem GV.tail {r:Aw}(h:GV (c::r) S):GV r S:=by obtain⟨p,rfl⟩:=h;exact⟨p++[c],Aj⟩
variable{w:Aw}
theorem GV.app {r:Aw}(h:GV (w++r) S):GV r S:=by obtain⟨p,rfl⟩:=h;exact⟨p++w,Aj⟩
theorem GV.drop (h:GV u S):S.drop (Ao ((Ae S:Int)-Ae u))=u:=by
 obtain⟨p,rfl⟩:=h;rw[show Ao ((Ae (p++u):Int)-Ae u)=Ae p from by rw[Aqs];omega,List.drop_left]
theorem GV.get {r:Aw}(h:GV (c::r) S):S[(Ao ((Ae S:Int)-Ae (c::r)))]? =Ad c:=by
 have:=h.drop;have h2:(S.drop (Ao ((Ae S:Int)-Ae (c::r))))[0]? =Ad c:=by rw[this];rfl
 simpa using h2
def G6 (S u:Aw)(cs:List Av)(g:Bool):AN:=⟨S,(Ae S:Int)-Ae u,cs,g⟩
theorem Ad3:∀(w r:Aw),pre w (w++r)=Ad r
 | [],r=>rfl
 | c::w,r=>by
  show(bif Ac (c=c) then pre w (w++r) else Ai)=Ad r;rw[Aqo rfl];exact Ad3 w r
theorem UT (w s:Aw):(Ac ((Ae w:Int)≤(Ae s:Int))&&Ac (Aq (Ao (Ae w:Int)) s=w))=(pre w s).isSome:=by
 cases h:pre w s with
 | some r=>
  have:=EN h;subst this;simp;omega
 | none=>
  rw[Aq2];simp only[Aqu,Aqq,Option.isSome_none,AqP,iff_false,not_and];intro hl e;have:s=w++s.drop (Ae w):=by
   conv=>lhs;rw[← Ard (Ae w) s]
   rw[show Ao (Ae w:Int)=Ae w from Ab] at e;rw[e]
  rw[this,Ad3] at h
  cases h
theorem Rv (s w:Aw):MI s w=Ad (pre w s).isSome:=by
 unfold MI NN;rw[← UT];have:imp (Ac ((Ae w:Int)≤(Ae s:Int))) (Gk (Ae w:Int) (Ae s:Int))=Af:=by
  cases hd:Ac ((Ae w:Int)≤(Ae s:Int)) with
  | false=>rfl
  | true=>simp only[imp];rw[Aln Ab (by simpa using hd)];rfl
 rw[Cn this];rfl
variable{cs:List Av}{g:Bool}
theorem EI (hS:Ae S≤100000)(h:GV u S):HG (G6 S u cs g) w=match pre w u with
  | some r=>Ad (Af,G6 S r cs g)
  | none=>Ad (Ah,G6 S u cs g):=by
 have hl:=h.len;unfold HG G6;simp only;rw[C0 Ab Ab,h.drop,Rv,Bu rfl]
 cases hp:pre w u with
 | none=>rfl
 | some r=>
  have e:=EN hp;have el:Ae u=Ae w+Ae r:=by rw[e];simp
  rw[AF (p:=!(Ad r).isSome) rfl,AH Ab Ab,show(Ae S:Int)-Ae u+Ae w=Ae S-Ae r from Ab]
theorem pre1 (c:UInt8)(u:Aw):pre [c] u=match u with
  | []=>Ai
  | d::r=>bif Ac (d=c) then Ad r else Ai:=by
 cases u with
 | nil=>rfl
 | cons d r=>
  show(bif Ac (c=d) then Ad r else Ai)=_;have:Ac (c=d)=Ac (d=c):=by rw[Aq2];simp only[Aqq];exact eq_comm
  rw[this]
theorem AhV (A:Aw):Qv (E7 A)=A:=by
 induction A with
 | nil=>rfl
 | cons c A ih=>
  show Ar (Ao (c.toNat:Int))::Qv (E7 A)=c::A;rw[ih,← (show Ar c.toNat=c from Aj)];simp
theorem Akw:∀(n:Nat) (s t u:Aw),Ae s=n→Eh Af s=Ad (t,u)→t.all P9=Af:=by
 intro n
 induction n using Nat.strongRecOn with
 | ind n ih=>
  intro s t u hn h
  cases s with
  | nil=>cases h
  | cons c r=>
   simp only[Aqp] at hn;rw[H8] at h
   cases h1:Ac (c=34) with
   | true=>rw[h1] at h;cases h;rfl
   | false=>
    rw[h1] at h;simp only[Aqr,Aq3] at h
    cases h2:P9 c with
    | false=>rw[h2] at h;cases h
    | true=>
     rw[h2] at h;simp only[Aq5,Aqr] at h
     cases h3:Ac (c=92) with
     | true=>
      rw[h3] at h
      cases r with
      | nil=>cases h
      | cons d r'=>
       simp only[Aqv] at h
       cases h4:(Ac (d=34)||decide (d=92)) with
       | false=>rw[h4] at h;cases h
       | true=>
        rw[h4] at h;simp only[Aqv] at h
        cases h5:Eh Af r' with
        | none=>rw[h5] at h;cases h
        | some q=>
         obtain⟨t',u'⟩:=q;rw[h5] at h;cases h;simp only[Aqp] at hn;have:=ih (Ae r') Ab r' t' u rfl h5;have hd:P9 d=Af:=by
          simp only[AqF,Aqq] at h4;rcases h4 with e | e<;>subst e<;>rfl
         simp[hd,this]
     | false=>
      rw[h3] at h;simp only[Aqr] at h
      cases h5:Eh Af r with
      | none=>rw[h5] at h;cases h
      | some q=>
       obtain⟨t',u'⟩:=q;rw[h5] at h;cases h;have:=ih (Ae r) Ab r t' u rfl h5;simp[h2,this]
theorem AkH:(Ac ((c.toNat:Int)<32)||decide (126<(c.toNat:Int))) = !P9 c:=by
 unfold P9;rw[Aq2];simp only[AqF,Aqq,Aq6,Arj,Aqt];omega
theorem Xx (c:UInt8):Ac ((c.toNat:Int)=34)=Ac (c=34):=by
 rw[Aq2,decide_eq_true_iff,decide_eq_true_iff,← Ark];show _↔c.toNat=34;omega
theorem AdS (c:UInt8):Ac ((c.toNat:Int)=92)=Ac (c=92):=by
 rw[Aq2,decide_eq_true_iff,decide_eq_true_iff,← Ark];show _↔c.toNat=92;omega
theorem Ahg (A:Aw)(c:UInt8):E7 A++([(c.toNat:Int)]:List Int)=E7 (A++[c]):=by simp[E7]
theorem Ae8 (hS:Ae S≤100000):∀(n L:Nat) (u A:Aw),Ae u=n→GV u S→n<L→Ae A≤Ae S-n→
  ∃o,Cp (λσ=>HQ (b,⟨S,p,cs,g⟩) σ.1 σ.2) L (E7 A,(Ae S:Int)-Ae u)=Ad o∧((∃t w,Eh Af u=Ad (t,w)∧GV w S∧Cb (λν=>Mm (b,⟨S,p,cs,g⟩) ν) o=Ad (A++t,Af,G6 S w cs g))∨(Eh Af u=Ai∧∃q',Cb (λν=>Mm (b,⟨S,p,cs,g⟩) ν) o=Ad ([],Ah,q'))):=by
 intro n
 induction n using Nat.strongRecOn with
 | ind n ih=>
  intro L u A hn hs hL hA;obtain⟨L,rfl⟩:∃K,L=K+1:=⟨L-1,Ab⟩
  have hsl:=hs.len
  cases u with
  | nil=>
   have hgo:HQ (b,⟨S,p,cs,g⟩) (E7 A) ((Ae S:Int)-Ae ([]:Aw))=Ad (.out (.go ((Ae S:Int)-Ae ([]:Aw)))):=by
    unfold HQ;rw[AF (Aqn Aj)]
   exact⟨_,EK hgo,.inr ⟨rfl,_,rfl⟩⟩
  | cons c r=>
   have hb:BA S ((Ae S:Int)-Ae (c::r))=c.toNat:=Ga hs.get;have hpos:(Ae S:Int)-Ae (c::r)+1=Ae S-Ae r:=by rw[Aqp];omega
   simp only[Aqp] at hn hsl;have hlt:(Ae S:Int)-Ae (c::r)<Ae S:=by rw[Aqp];omega
   have h0:0≤(Ae S:Int)-Ae (c::r):=by rw[Aqp];omega
   have hb1:HQ (b,⟨S,p,cs,g⟩) (E7 A) ((Ae S:Int)-Ae (c::r))=By (Ac (c=34)) (Ad (.out (.ret (A,Af,G6 S r cs g)))) (By (!P9 c) (Ad (.out (.ret ([],Ah,G6 S r cs g)))) (By (Ac (c=92)) (Bc (imp (!(Ac ((Ae S:Int)≤Ae S-Ae r))) (CE (Ae S-Ae r) (Ae S:Int)))<|By (((Ac ((Ae S:Int)≤Ae S-Ae r))||((!Ac ((BA S (Ae S-Ae r))=34))&&(!Ac ((BA S (Ae S-Ae r))=92))))) (Ad (.out (.ret ([],Ah,G6 S r cs g)))) (Bc (CE (Ae S-Ae r) (Ae S:Int))<|Bc (BJ .i64 (((Ae S:Int)-Ae r)+1))<|IM (E7 A) (BA S (Ae S-Ae r)) (((Ae S:Int)-Ae r)+1))) (IM (E7 A) (c.toNat:Int) ((Ae S:Int)-Ae r)))):=by
    unfold HQ;simp only;rw[AX (Aqo hlt),Bi h0 hlt,hb,hpos,AH Ab Ab,Xx,AdS,AkH,AhV];rfl
   have hj:∀(x:UInt8) (y:Int),IM (E7 A) (x.toNat:Int) y=Ad (.next (E7 (A++[x]),y)):=λx y=>by
    unfold IM;rw[EZ (by simp[E7];omega),Ahg]
   rw[H8]
   cases h1:Ac (c=34) with
   | true=>
    rw[h1] at hb1;exact⟨.ret (A,Af,G6 S r cs g),EK hb1,.inl ⟨[],r,rfl,hs.tail,by rw[QU,AqJ]⟩⟩
   | false=>
    rw[h1,AF rfl] at hb1;simp only[Aqr,Aq3]
    cases h2:P9 c with
    | false=>
     rw[h2,AX (p:=!Ah) rfl] at hb1;exact⟨_,EK hb1,.inr ⟨rfl,_,rfl⟩⟩
    | true=>
     rw[h2,AF (p:=!Af) rfl] at hb1;simp only[Aq5,Aqr]
     cases h3:Ac (c=92) with
     | true=>
      rw[h3,AX rfl] at hb1
      cases r with
      | nil=>
       have e:Ac ((Ae S:Int)≤Ae S-Ae ([]:Aw))=Af:=Aj
       rw[e,Cn (p:=imp (!Af) _) rfl,AX (p:=Af||_) rfl] at hb1;exact⟨_,EK hb1,.inr ⟨rfl,_,rfl⟩⟩
      | cons d r'=>
       simp only[Aqp] at hn hsl;have hbd:BA S ((Ae S:Int)-Ae (d::r'))=d.toNat:=Ga hs.tail.get;have hlt2:(Ae S:Int)-Ae (d::r')<Ae S:=by rw[Aqp];omega
       have ha:0≤(Ae S:Int)-Ae (d::r'):=by rw[Aqp];omega
       have hpos2:(Ae S:Int)-Ae (d::r')+1=Ae S-Ae r':=by rw[Aqp];omega
       have e:Ac ((Ae S:Int)≤Ae S-Ae (d::r'))=Ah:=Aqn Ab;rw[e,L7 ha hlt2,hbd,hpos2,Xx,AdS,Cn (p:=imp (!Ah) Af) rfl] at hb1;simp only[Aqv]
       cases h4:(Ac (d=34)||decide (d=92)) with
       | false=>
        have e4:(Ah||(!Ac (d=34)&&!Ac (d=92)))=Af:=by rw[← Bool.not_or,h4];rfl
        rw[AX e4] at hb1;exact⟨_,EK hb1,.inr ⟨rfl,_,rfl⟩⟩
       | true=>
        have e4:(Ah||(!Ac (d=34)&&!Ac (d=92)))=Ah:=by rw[← Bool.not_or,h4];rfl
        rw[AF e4,Cn rfl,AH Ab Ab,hj] at hb1;obtain⟨o,ho1,ho2⟩:=ih (Ae r') Ab L r' (A++[d]) rfl hs.tail.tail Ab (by rw[Id];omega);refine⟨o,Jm hb1 ho1,?_⟩;simp only[Aqv];rcases ho2 with⟨t,w,q1,q2,q3⟩ | ⟨q1,q2⟩
        ·rw[q1];exact .inl ⟨d::t,w,rfl,q2,by rw[q3];simp⟩
        ·rw[q1];exact .inr ⟨rfl,q2⟩
     | false=>
      rw[h3,AF rfl,hj] at hb1;obtain⟨o,ho1,ho2⟩:=ih (Ae r) Ab L r (A++[c]) rfl hs.tail Ab (by rw[Id];omega);refine⟨o,Jm hb1 ho1,?_⟩;simp only[Aqr];rcases ho2 with⟨t,w,q1,q2,q3⟩ | ⟨q1,q2⟩
      ·rw[q1];exact .inl ⟨c::t,w,rfl,q2,by rw[q3];simp⟩
      ·rw[q1];exact .inr ⟨rfl,q2⟩
theorem Z7 (hS:Ae S≤100000)(h:GV u S)(hF:Ae S<F) :
  (∃r t w,u=34::r∧Eh Af r=Ad (t,w)∧GV w S∧Wp F (G6 S u cs g)=Ad (t,Af,G6 S w cs g))∨((∀r,u=34::r→Eh Af r=Ai)∧∃q',Wp F (G6 S u cs g)=Ad ([],Ah,q')):=by
 unfold Wp;rw[EI hS h,pre1]
 cases u with
 | nil=>exact .inr ⟨(λr e=>by cases e),_,rfl⟩
 | cons c r=>
  simp only
  cases hc:Ac (c=34) with
  | false=>
   simp only[Aqt] at hc;exact .inr ⟨(λr' e=>by cases e;exact absurd rfl hc),_,rfl⟩
  | true=>
   simp only[Aqq] at hc;subst hc;have hl:=h.len;simp only[Aqp] at hl;simp only[Aqv];rw[Bu rfl,AF (p:=!Af) rfl];obtain⟨o,ho1,ho2⟩:=Ae8 (b:=Af) (cs:=cs) (g:=g) (p:=(Ae S:Int)-Ae r) hS (Ae r) F r [] rfl h.tail Ab (AqL _);have ho1':Cp (λσ=>HQ (Af,G6 S r cs g) σ.1 σ.2) F ([],(Ae S:Int)-Ae r)=Ad o:=ho1;rw[show(Af,G6 S r cs g).2.aG=(Ae S:Int)-Ae r from rfl,Bu ho1'];rcases ho2 with⟨t,w,q1,q2,q3⟩ | ⟨q1,q',q2⟩
   ·exact .inl ⟨r,t,w,rfl,q1,q2,q3⟩
   ·exact .inr ⟨(λr' e=>by cases e;exact q1),q',q2⟩
def E6 (c:Av):Av:=bif D0 c then⟨3,0,[],0⟩ else c
theorem MM:∀s:Aw,(CX s).1.all Ee=Af
 | []=>rfl
 | c::r=>by
  rw[CX]
  cases h:Ee c with
  | true=>simp only[Aqv,Are,h,MM r];rfl
  | false=>rfl
theorem Aek:(Ac (48≤(c.toNat:Int))&&Ac ((c.toNat:Int)≤57))=Ee c:=by
 unfold Ee;rw[Aq2];simp only[Aqu,Aqq];omega
theorem Wq {S:Aw}{cs:List Av}{g b:Bool}{p:Int}(hS:Ae S≤100000):∀(u:Aw) (L:Nat),GV u S→Ae u<L→
  Cp (λσ=>IN (b,⟨S,p,cs,g⟩) σ) L ((Ae S:Int)-Ae u)=Ad (.go ((Ae S:Int)-Ae (CX u).2))
 | [],L,hs,hL=>by
  obtain⟨L,rfl⟩:∃K,L=K+1:=⟨L-1,Ab⟩
  refine EK ?_;show IN _ _=_;unfold IN;have e:Ac ((Ae S:Int)-Ae ([]:Aw)<(Ae S:Int))=Ah:=Aj
  simp only;rw[e,Cn (p:=imp Ah _) rfl,AF (p:=Ah&&_) rfl];rfl
 | c::r,L,hs,hL=>by
  obtain⟨L,rfl⟩:∃K,L=K+1:=⟨L-1,Ab⟩
  have hsl:=hs.len;have hb:BA S ((Ae S:Int)-Ae (c::r))=c.toNat:=Ga hs.get;have hpos:(Ae S:Int)-Ae (c::r)+1=Ae S-Ae r:=by rw[Aqp];omega
  simp only[Aqp] at hsl hL;have hlt:(Ae S:Int)-Ae (c::r)<Ae S:=by rw[Aqp];omega
  have h0:0≤(Ae S:Int)-Ae (c::r):=by rw[Aqp];omega
  have hb1:IN (b,⟨S,p,cs,g⟩) ((Ae S:Int)-Ae (c::r))=By (Ee c) (Ad (.next ((Ae S:Int)-Ae r))) (Ad (.out (.go ((Ae S:Int)-Ae (c::r))))):=by
   unfold IN;simp only;rw[Aqo hlt,L7 h0 hlt,Cn (p:=imp Af Af) rfl,hb,Aek,hpos,AH Ab Ab,Aq3]
  rw[CX]
  cases hd:Ee c with
  | true=>
   rw[hd] at hb1;exact Jm hb1 (Wq hS r L hs.tail Ab)
  | false=>
   rw[hd] at hb1;exact EK hb1
theorem Z9 (hS:Ae S≤100000)(h:GV u S)(hF:Ae S<F)(hcs:Ae cs≤100000) :
  (∃f w,MD u=Ad (f,w)∧GV w S∧Wr F (G6 S u cs g)=Ad (Af,G6 S w (cs++f.flat.map E6) (g||f.flat.any D0)))∨(MD u=Ai∧∃q',Wr F (G6 S u cs g)=Ad (Ah,q')):=by
 have hl:=h.len;have hneg:∃neg r b,neg=Ac (u.head? =Ad 45)∧r=(bif neg then u.tail else u)∧HG (G6 S u cs g) [45]=Ad (b,G6 S r cs g)∧u=(bif neg then 45::r else r):=by
  rw[EI hS h,pre1]
  cases u with
  | nil=>exact⟨Ah,[],Ah,rfl,rfl,rfl,rfl⟩
  | cons c r=>
   simp only[List.head?_cons,Option.some.injEq]
   cases hc:Ac (c=45) with
   | true=>simp only[Aqq] at hc;subst hc;exact⟨Af,r,Af,rfl,rfl,rfl,rfl⟩
   | false=>exact⟨Ah,c::r,Ah,rfl,rfl,rfl,rfl⟩
 obtain⟨neg,r,b,e1,e2,e3,e4⟩:=hneg;have hr:GV r S:=by
  rw[e4] at h
  cases neg with
  | true=>exact h.tail
  | false=>exact h
 have hrl:=hr.len;have hd:=MM r;have hsplit:=LQ r;have hlen:Ae r=Ae (CX r).1+Ae (CX r).2:=by conv=>lhs;rw[hsplit,Aqs]
 have hw:GV (CX r).2 S:=by rw[hsplit] at hr;exact hr.app
 have hut:u=Mo neg (CX r).1++(CX r).2:=by
  rw[e4]
  cases neg with
  | true=>show 45::r=45::((CX r).1++(CX r).2);rw[← hsplit]
  | false=>exact hsplit
 have hul:Ae u=Ae (Mo neg (CX r).1)+Ae (CX r).2:=by conv=>lhs;rw[hut,Aqs]
 have hslice:Aq (Ao ((Ae S:Int)-Ae (CX r).2)-Ao ((Ae S:Int)-Ae u)) (Ap (Ao ((Ae S:Int)-Ae u)) S)=Mo neg (CX r).1:=by
  rw[h.drop,show Ao ((Ae S:Int)-Ae (CX r).2)-Ao ((Ae S:Int)-Ae u)=Ae (Mo neg (CX r).1) from Ab]
  conv=>lhs;rw[hut]
  rw[List.take_left]
 have hlop:Cp (λσ=>IN (b,G6 S r cs g) σ) F ((Ae S:Int)-Ae r)=Ad (.go ((Ae S:Int)-Ae (CX r).2)):=Wq hS r F hr Ab;have hrun:Wr F (G6 S u cs g)=By (((Ac ((Cr (Mo neg (CX r).1))=1))||(Ac ((Ae S:Int)-Ae r=(Ae S:Int)-Ae (CX r).2)))) (Ad (Ah,G6 S (CX r).2 cs g)) (Ad (Af,G6 S (CX r).2 (cs++[⟨3,BN (Mo neg (CX r).1),[],0⟩]) (g||!Ac (Cr (Mo neg (CX r).1)=0)))):=by
  unfold Wr;rw[e3,Bu rfl,show(b,G6 S r cs g).2.aG=(Ae S:Int)-Ae r from rfl,Bu hlop,EX];unfold Q1;rw[show(G6 S u cs g).aG=(Ae S:Int)-Ae u from rfl,show(b,G6 S r cs g).2.fS=S from rfl,show(b,G6 S r cs g).2.aG=(Ae S:Int)-Ae r from rfl,C0 Ab Ab,C0 Ab Ab,hslice,EZ Ab,Cn (p:=De 40 _) (Aqo (by
   show(Ae cs+1)*40≤140737488355328;omega))]
  rfl
 rw[hrun];unfold MD;simp only;rw[← e1,← e2];rcases Afm (neg:=neg) hd with⟨p1,p2⟩ | ⟨p1,p2,p3,p4⟩ | ⟨p1,p2,p3,p4⟩
 ·rw[p1,p2];exact .inr ⟨rfl,_,rfl⟩
 ·have hne:(CX r).1≠[]:=by
   intro e;rw[e] at p1
   cases neg<;>cases p1
  have hpos:0<Ae (CX r).1:=List.length_pos_iff.2 hne;rw[p1,p3,p4,Aqn (show ¬ (Ae S:Int)-Ae r=(Ae S:Int)-Ae (CX r).2 by omega)];refine .inl ⟨_,_,rfl,hw,?_⟩;simp[Fo.flat,Ct,E6,p2,By]
 ·have hne:(CX r).1≠[]:=by
   intro e;rw[e] at p1
   cases neg<;>cases p1
  have hpos:0<Ae (CX r).1:=List.length_pos_iff.2 hne;rw[p1,p3,p4,Aqn (show ¬ (Ae S:Int)-Ae r=(Ae S:Int)-Ae (CX r).2 by omega)];refine .inl ⟨_,_,rfl,hw,?_⟩;simp[Fo.flat,Ct,E6,p2,By]
def Ahx (strict:Bool)(s:Aw):Option (Fo×Aw):=
 match pre [110,117,108,108] s with
 | some r=>Ad (lf 1 0 [],r)
 | none=>match pre [116,114,117,101] s with
  | some r=>Ad (lf 2 1 [],r)
  | none=>match pre [102,97,108,115,101] s with
   | some r=>Ad (lf 2 0 [],r)
   | none=>match s with
    | []=>Ai
    | c::r=>bif Ac (c=34) then(match Eh strict r with
     | none=>Ai
     | some (t,u)=>Ad (lf 4 0 t,u)) else MD (c::r)
theorem AhL (b:Bool)(F:Nat)(h:∀c r,s=c::r→(Ac (c=91)||decide (c=123))=Ah):Kl b (F+1) s=Ahx b s:=by
 rw[HU];unfold Ahx
 cases pre [110,117,108,108] s with
 | some r=>rfl
 | none=>
 cases pre [116,114,117,101] s with
 | some r=>rfl
 | none=>
 cases pre [102,97,108,115,101] s with
 | some r=>rfl
 | none=>
 cases s with
 | nil=>rfl
 | cons c r=>
  simp only;rw[h c r rfl];rfl
theorem Z8 (hS:Ae S≤100000)(h:GV u S)(hF:Ae S<F)(hcs:Ae cs≤100000) :
  (∃f w,Ahx Af u=Ad (f,w)∧GV w S∧Mn F (G6 S u cs g)=Ad (Af,G6 S w (cs++f.flat.map E6) (g||f.flat.any D0)))∨(Ahx Af u=Ai∧∃q',Mn F (G6 S u cs g)=Ad (Ah,q')):=by
 have hA:∀c:Av,De 40 (Ae cs+Ae ([c]:List Av))=Af:=λc=>Aqo (by show(Ae cs+1)*40≤140737488355328;omega);unfold Mn Ahx;rw[EI hS h]
 cases h1:pre [110,117,108,108] u with
 | some r=>
  have hr:GV r S:=by rw[EN h1] at h;exact h.app
  refine .inl ⟨_,r,rfl,hr,?_⟩;simp only;rw[Bu rfl,AX rfl];show Bc (De 40 (Ae cs+Ae ([⟨1,0,[],0⟩]:List Av))) (Ad (Af,G6 S r (cs++[⟨1,0,[],0⟩]) g))=_;rw[Cn (hA _)];simp[lf,Fo.flat,Ct,E6,D0]
 | none=>
 simp only;rw[Bu rfl,AF rfl,show(Ah,G6 S u cs g).2=G6 S u cs g from rfl,EI hS h]
 cases h2:pre [116,114,117,101] u with
 | some r=>
  have hr:GV r S:=by rw[EN h2] at h;exact h.app
  refine .inl ⟨_,r,rfl,hr,?_⟩;simp only;rw[Bu rfl,AX rfl];show Bc (De 40 (Ae cs+Ae ([⟨2,1,[],0⟩]:List Av))) (Ad (Af,G6 S r (cs++[⟨2,1,[],0⟩]) g))=_;rw[Cn (hA _)];simp[lf,Fo.flat,Ct,E6,D0]
 | none=>
 simp only;rw[Bu rfl,AF rfl,show(Ah,G6 S u cs g).2=G6 S u cs g from rfl,EI hS h]
 cases h3:pre [102,97,108,115,101] u with
 | some r=>
  have hr:GV r S:=by rw[EN h3] at h;exact h.app
  refine .inl ⟨_,r,rfl,hr,?_⟩;simp only;rw[Bu rfl,AX rfl];show Bc (De 40 (Ae cs+Ae ([⟨2,0,[],0⟩]:List Av))) (Ad (Af,G6 S r (cs++[⟨2,0,[],0⟩]) g))=_;rw[Cn (hA _)];simp[lf,Fo.flat,Ct,E6,D0]
 | none=>
 have hl:=h.len;simp only;rw[Bu rfl,AF rfl,show(Ah,G6 S u cs g).2=G6 S u cs g from rfl,show(G6 S u cs g).aG=(Ae S:Int)-Ae u from rfl,show(G6 S u cs g).fS=S from rfl,C0 Ab Ab,h.drop,Rv,Bu rfl,pre1]
 cases u with
 | nil=>
  simp only;rw[AF (p:=(Ai:Option Aw).isSome) rfl];rcases Z9 (g:=g) hS h hF hcs with⟨f,w,q1,q2,q3⟩ | ⟨q1,q',q2⟩
  ·exact absurd (Vw q1) Aj
  ·rw[q2];exact .inr ⟨trivial,_,rfl⟩
 | cons c r=>
  simp only
  cases hc:Ac (c=34) with
  | true=>
   simp only[Aqv];rw[AX (p:=(Ad r).isSome) rfl];simp only[Aqq] at hc;subst hc;rcases Z7 (cs:=cs) (g:=g) hS h hF with⟨r',t,w,q1,q2,q3,q4⟩ | ⟨q1,q',q2⟩
   ·cases q1
    rw[q2,q4,Bu rfl,AF (p:=!Af) rfl];refine .inl ⟨_,w,rfl,q3,?_⟩;simp only;show Bc (De 40 (Ae cs+Ae ([⟨4,0,t,0⟩]:List Av))) (Ad (Af,G6 S w (cs++[⟨4,0,t,0⟩]) g))=_;rw[Cn (hA _)];simp[lf,Fo.flat,Ct,E6,D0]
   ·rw[q1 r rfl,q2,Bu rfl];exact .inr ⟨rfl,_,rfl⟩
  | false=>
   simp only[Aqr];rw[AF (p:=(Ai:Option Aw).isSome) rfl];rcases Z9 (g:=g) hS h hF hcs with⟨f,w,q1,q2,q3⟩ | ⟨q1,q',q2⟩
   ·rw[q3,Bu rfl];exact .inl ⟨f,w,q1,q2,rfl⟩
   ·rw[q2,Bu rfl];exact .inr ⟨q1,_,rfl⟩
theorem TC (h:f.one=Af)(key:Option Aw)(r:Fo):(f.put key r).cnt=r.cnt+1:=by
 cases f with
 | nil=>cases h
 | cell _ _ _=>rfl
 | node _ _ _ _=>rfl
theorem Nq (m:Bool)(g:Fo)(h:g.cnt=0→g = .nil):(nd m g).flat=⟨bif m then 6 else 5,0,[],(g.cnt:Int)⟩::g.flat:=by
 unfold nd
 cases hd:Ac (g.cnt=0) with
 | true=>
  simp only[Aqq] at hd;rw[h hd];rfl
 | false=>simp[Fo.flat,Ct]
theorem LR {g:Fo}(h:g.cnt=0):g = .nil:=by
 cases g with
 | nil=>rfl
 | cell _ _ _=>simp[Fo.cnt] at h
 | node _ _ _ _=>simp[Fo.cnt] at h
theorem Xt (h:GC b m last s=Ad (key,u)):Ae (Ct key)+Ae u≤Ae s:=by
 unfold GC at h
 cases m with
 | false=>cases h;simp[Ct]
 | true=>
  simp only[Aqv] at h
  cases s with
  | nil=>cases h
  | cons c r=>
   simp only at h
   cases h1:Ac (c=34) with
   | false=>rw[h1] at h;cases h
   | true=>
    rw[h1] at h;simp only[Aqv] at h
    cases h2:Eh b r with
    | none=>rw[h2] at h;cases h
    | some q=>
     obtain⟨k,w⟩:=q;have:=Mq b _ r k w rfl h2;rw[h2] at h;simp only at h
     cases h3:(b&&!C6 Af last (Ad k)) with
     | true=>rw[h3] at h;cases h
     | false=>
      rw[h3] at h;simp only[Aqr] at h
      cases w with
      | nil=>cases h
      | cons d w'=>
       simp only at h
       cases h4:Ac (d=58) with
       | false=>rw[h4] at h;cases h
       | true=>rw[h4] at h;cases h;simp only[Aqp,Ct,Ari] at this ⊢;omega
theorem Hu (b:Bool):∀F:Nat,(∀s f u,Kl b F s=Ad (f,u)→Ae f.flat+Ae u≤Ae s)∧(∀m last s g u,Gw b F m last s=Ad (g,u)→Ae g.flat+Ae u+1≤Ae s)
 | 0=>⟨(λs f u h=>by rw[Kl.eq_def] at h;cases h),(λm last s g u h=>by rw[Gw.eq_def] at h;cases h)⟩
 | F+1=>by
  obtain⟨ih1,ih2⟩:=Hu b F;have lfl:∀k i t,Ae (lf k i t).flat=1:=λ_ _ _=>rfl;constructor
  ·intro s f u h;rw[HU] at h
   cases h1:pre [110,117,108,108] s with
   | some r=>rw[h1] at h;cases h;rw[EN h1,lfl];simp;omega
   | none=>
   rw[h1] at h;simp only at h
   cases h2:pre [116,114,117,101] s with
   | some r=>rw[h2] at h;cases h;rw[EN h2,lfl];simp;omega
   | none=>
   rw[h2] at h;simp only at h
   cases h3:pre [102,97,108,115,101] s with
   | some r=>rw[h3] at h;cases h;rw[EN h3,lfl];simp;omega
   | none=>
   rw[h3] at h;simp only at h
   cases s with
   | nil=>cases h
   | cons c r=>
   simp only at h
   cases h4:Ac (c=34) with
   | true=>
    rw[h4] at h;simp only[Aqv] at h
    cases h5:Eh b r with
    | none=>rw[h5] at h;cases h
    | some q=>
     obtain⟨t,w⟩:=q;rw[h5] at h;cases h;have:=Mq b _ r t u rfl h5;rw[lfl];simp only[Aqp];omega
   | false=>
   rw[h4] at h;simp only[Aqr] at h
   cases h5:(Ac (c=91)||decide (c=123)) with
   | false=>
    rw[h5] at h;simp only[Aqr] at h;have h6:=Vw h;have h7:Ae f.flat=1:=by
     unfold MD at h;simp only at h
     cases hc:GU (Ac ((c::r).head? =Ad 45)) (CX (bif Ac ((c::r).head? =Ad 45) then(c::r).tail else c::r)).1 with
     | false=>rw[hc] at h;cases h
     | true=>rw[hc] at h;cases h;rfl
    omega
   | true=>
   rw[h5] at h;simp only[Aqv] at h
   cases r with
   | nil=>cases h
   | cons d r'=>
   simp only at h
   cases h6:Ac (d=BY (Ac (c=123))) with
   | true=>rw[h6] at h;cases h;rw[Nq _ _ LR];simp[Fo.flat];omega
   | false=>
   rw[h6] at h;simp only[Aqr] at h
   cases h7:Gw b F (Ac (c=123)) Ai (d::r') with
   | none=>rw[h7] at h;cases h
   | some q=>
    obtain⟨g,w⟩:=q;rw[h7] at h;cases h;have:=ih2 _ _ _ _ _ h7;rw[Nq _ _ LR];simp only[Aqp] at this ⊢;omega
  ·intro m last s g u h;rw[Gj] at h
   cases h1:GC b m last s with
   | none=>rw[h1] at h;cases h
   | some q=>
   obtain⟨key,s1⟩:=q;have l1:=Xt h1;rw[h1] at h;simp only at h
   cases h2:Kl b F s1 with
   | none=>rw[h2] at h;cases h
   | some q=>
   obtain⟨f,s2⟩:=q;have l2:=ih1 _ _ _ h2;have o2:=((GM b F).1 _ _ _ h2).2;rw[h2] at h;simp only at h
   cases s2 with
   | nil=>cases h
   | cons c s3=>
   simp only[Aqp] at l2;simp only at h
   cases h3:Ac (c=BY m) with
   | true=>rw[h3] at h;cases h;rw[HT o2,Aqs,Aqs];simp only[Fo.flat,Ari];omega
   | false=>
   rw[h3] at h;simp only[Aqr] at h
   cases h4:Ac (c=44) with
   | false=>rw[h4] at h;cases h
   | true=>
   rw[h4] at h;simp only[Aqv] at h
   cases h5:Gw b F m key s3 with
   | none=>rw[h5] at h;cases h
   | some q=>
    obtain⟨g',w⟩:=q;rw[h5] at h;cases h;have:=ih2 _ _ _ _ _ h5;rw[HT o2,Aqs,Aqs];omega
theorem Adl (xs D:List α)(a b:α):List.set (xs++a::D) (Ao (Ae xs:Int)) b=xs++b::D:=by
 rw[show Ao (Ae xs:Int)=Ae xs from Ab,List.set_append_right _ _ (Aq7 _)];simp
theorem AjH [Inhabited α](xs D:List α)(a:α):A2 (xs++a::D) (Ae xs:Int)=a:=by simp[A2]
def VOk (F P:Nat)(S u:Aw)(cs:List Av)(g:Bool):Prop:=
 (∃f w,Kl Af P u=Ad (f,w)∧GV w S∧DT F (G6 S u cs g)=Ad (Af,G6 S w (cs++f.flat.map E6) (g||f.flat.any D0)))∨(Kl Af P u=Ai∧∃q',DT F (G6 S u cs g)=Ad (Ah,q'))
abbrev LB2 (F:Nat)(x16:List Av):Int×Aw×Int×List Av×Bool→Option (Stp (Int×Aw×Int×List Av×Bool) (Out (Bool×AN) Unit)):=λσ=>Im (DT F) x16 σ.1 σ.2.1 σ.2.2.1 σ.2.2.2.1 σ.2.2.2.2
abbrev LB3 (F:Nat)(x16:List Av):Aw×Int×Aw×Int×List Av×Bool→Option (Stp (Aw×Int×Aw×Int×List Av×Bool) (Out (Bool×AN) Unit)):=λσ=>Il F (DT F) x16 σ.1 σ.2.1 σ.2.2.1 σ.2.2.2.1 σ.2.2.2.2.1 σ.2.2.2.2.2
def LOk (P:Nat)(m:Bool)(last:Option Aw)(S u:Aw)(x16 D:List Av)(k:Int)(g:Bool)(o:Out (Bool×AN) Unit):Prop:=
 (∃G w,Gw Af P m last u=Ad (G,w)∧GV w S∧o = .ret (Af,G6 S w (x16++⟨bif m then 6 else 5,0,[],k-1+(G.cnt:Int)⟩::(D++G.flat.map E6)) (g||G.flat.any D0)))∨(Gw Af P m last u=Ai∧∃q',o = .ret (Ah,q'))
theorem Aly (k:Option Aw):(Ct k).map E6=Ct k∧(Ct k).any D0=Ah:=by
 cases k with
 | none=>exact⟨rfl,rfl⟩
 | some s=>exact⟨by simp[Ct,E6,D0],by simp[Ct,D0]⟩
variable{x16:List Av}
theorem LOk.join {s1 s2:Aw}{D:List Av}{k:Int}{o:Out (Bool×AN) Unit}(hk:GC Af m last u=Ad (key,s1))(hf:Kl Af P s1=Ad (f,s2))(ho:f.one=Af)
  (h:(∃s3,s2=BY m::s3∧GV s3 S∧o = .ret (Af,G6 S s3 (x16++⟨bif m then 6 else 5,0,[],k⟩::(D++(Ct key++f.flat.map E6))) (g||f.flat.any D0)))∨(∃s3,s2=44::s3∧LOk P m key S s3 x16 (D++(Ct key++f.flat.map E6)) (k+1) (g||f.flat.any D0) o)∨((∀c s3,s2=c::s3→Ac (c=BY m)=Ah∧Ac (c=44)=Ah)∧∃q',o = .ret (Ah,q'))):LOk (P+1) m last S u x16 D k g o:=by
 obtain⟨fk1,fk2⟩:=Aly key;unfold LOk;rw[Gj,hk];simp only[hf];have ha:Ac ((44:UInt8)=BY m)=Ah:=by cases m<;>rfl
 rcases h with⟨s3,rfl,h1,h2⟩ | ⟨s3,rfl,h⟩ | ⟨h1,h2⟩
 ·simp only[decide_true,Aqv];refine .inl ⟨_,s3,rfl,h1,?_⟩;rw[h2,TC ho,HT ho];simp only[Fo.flat,Fo.cnt,AqJ,Arf,List.any_append,fk1,fk2,Aq9]
  congr 6
  omega
 ·simp only[ha,Aqr,decide_true,Aqv];rcases h with⟨G,w,q1,q2,q3⟩ | ⟨q1,q2⟩
  ·rw[q1];refine .inl ⟨_,w,rfl,q2,?_⟩;rw[q3,TC ho,HT ho];simp only[Arf,List.any_append,fk1,fk2,Aq9,Bool.or_assoc,Aq4]
   congr 6
   omega
  ·rw[q1];exact .inr ⟨rfl,q2⟩
 ·refine .inr ⟨?_,h2⟩
  cases s2 with
  | nil=>rfl
  | cons c s3=>
   obtain⟨a,b⟩:=h1 c s3 rfl;simp only[a,b,Aqr]
theorem TK (S u:Aw)(cs:List Av)(g:Bool):AN.mk S ((Ae S:Int)-Ae u) cs g=G6 S u cs g:=rfl
theorem TI {o:Out (Bool×AN) Unit}{r:Bool×AN}{K:Unit→Option (Bool×AN)}(h:o = .ret r):Cb K o=Ad r:=by rw[h];rfl
theorem Pj {x:Option α}(h:n≤1000000):Bc (De 40 n) x=x:=Cn (Aqo Ab)
theorem Acy {D:List Av}{k:Int}(hS:Ae S≤100000)(hs:GV u S)(hk1:1≤k)(hk2:k≤200000)(hV:VOk F P S u (x16++⟨5,0,[],k-1⟩::D) g) :
  (∃q',LB2 F x16 (k,S,(Ae S:Int)-Ae u,x16++⟨5,0,[],k-1⟩::D,g)=Ad (.out (.ret (Ah,q')))∧(Kl Af P u=Ai∨∃f s2,Kl Af P u=Ad (f,s2)∧∀c s3,s2=c::s3→Ac (c=BY Ah)=Ah∧Ac (c=44)=Ah))∨
  ∃f s2,Kl Af P u=Ad (f,s2)∧GV s2 S∧((∃s3,s2=BY Ah::s3∧LB2 F x16 (k,S,(Ae S:Int)-Ae u,x16++⟨5,0,[],k-1⟩::D,g)=Ad (.out (.ret (Af,G6 S s3 (x16++⟨5,0,[],k⟩::(D++f.flat.map E6)) (g||f.flat.any D0)))))∨
   (∃s3,s2=44::s3∧LB2 F x16 (k,S,(Ae S:Int)-Ae u,x16++⟨5,0,[],k-1⟩::D,g)=Ad (.next (k+1,S,(Ae S:Int)-Ae s3,x16++⟨5,0,[],k⟩::(D++f.flat.map E6),g||f.flat.any D0)))):=by
 have hb:LB2 F x16 (k,S,(Ae S:Int)-Ae u,x16++⟨5,0,[],k-1⟩::D,g)=Im (DT F) x16 k S ((Ae S:Int)-Ae u) (x16++⟨5,0,[],k-1⟩::D) g:=rfl;rw[hb];unfold Im;rw[TK];rcases hV with⟨f,s2,q1,q2,q3⟩ | ⟨q1,q',q2⟩
 ·have ec:(x16++⟨5,0,[],k-1⟩::D)++f.flat.map E6=x16++⟨5,0,[],k-1⟩::(D++f.flat.map E6):=Aj
  rw[ec] at q3;rw[q3,Bu rfl,AF (p:=!Af) rfl];have hin:CE (Ae x16:Int) ((Ae (x16++(⟨5,0,[],k-1⟩:Av)::(D++f.flat.map E6)):Nat):Int)=Af:=L7 Ab (by rw[Aqs,Aqp];omega);have e1:(Af,G6 S s2 (x16++⟨5,0,[],k-1⟩::(D++f.flat.map E6)) (g||f.flat.any D0)).2.aw=x16++⟨5,0,[],k-1⟩::(D++f.flat.map E6):=rfl;rw[e1,Cn hin,AjH,Adl,Jo];have e2:AN.mk (Af,G6 S s2 (x16++⟨5,0,[],k-1⟩::(D++f.flat.map E6)) (g||f.flat.any D0)).2.fS (Af,G6 S s2 (x16++⟨5,0,[],k-1⟩::(D++f.flat.map E6)) (g||f.flat.any D0)).2.aG (x16++⟨5,0,[],k⟩::(D++f.flat.map E6)) (Af,G6 S s2 (x16++⟨5,0,[],k-1⟩::(D++f.flat.map E6)) (g||f.flat.any D0)).2.aB=G6 S s2 (x16++⟨5,0,[],k⟩::(D++f.flat.map E6)) (g||f.flat.any D0):=rfl;rw[e2,EI hS q2,pre1]
  cases s2 with
  | nil=>
   simp only;rw[Bu rfl,AF rfl,EI hS q2,pre1];exact .inl ⟨_,rfl,.inr ⟨f,[],q1,λc s3 e=>by cases e⟩⟩
  | cons c s3=>
   simp only
   cases ha:Ac (c=93) with
   | true=>
    simp only[Aqq] at ha;subst ha;exact .inr ⟨f,_,q1,q2,.inl ⟨s3,rfl,rfl⟩⟩
   | false=>
    simp only[Aqr];rw[Bu rfl,AF rfl,EI hS q2,pre1];simp only
    cases hd:Ac (c=44) with
    | true=>
     simp only[Aqq] at hd;subst hd;simp only[Aqv];rw[Bu rfl,AF (p:=!Af) rfl,AH Ab Ab];exact .inr ⟨f,_,q1,q2,.inr ⟨s3,rfl,rfl⟩⟩
    | false=>
     exact .inl ⟨_,rfl,.inr ⟨f,_,q1,λc' s3' e=>by cases e;exact⟨ha,hd⟩⟩⟩
 ·rw[q2,Bu rfl];exact .inl ⟨q',rfl,.inl q1⟩
theorem Ai1 {D:List Av}{k:Int}{b1 b2:Bool}{r:Aw×Bool×AN}(hS:Ae S≤100000)(hs:GV u S)(hk1:1≤k)(hk2:k≤200000)(hD:Ae x16+Ae D≤200000)(hV:VOk F P S u (x16++⟨6,0,[],k-1⟩::(D++[⟨4,0,r.1,0⟩])) g) :
  (∃q',DI (DT F) x16 k r b1 b2 Ah S ((Ae S:Int)-Ae u) (x16++⟨6,0,[],k-1⟩::D) g=Ad (.out (.ret (Ah,q')))∧(Kl Af P u=Ai∨∃f s2,Kl Af P u=Ad (f,s2)∧∀c s3,s2=c::s3→Ac (c=BY Af)=Ah∧Ac (c=44)=Ah))∨
  ∃f s2,Kl Af P u=Ad (f,s2)∧GV s2 S∧((∃s3,s2=BY Af::s3∧DI (DT F) x16 k r b1 b2 Ah S ((Ae S:Int)-Ae u) (x16++⟨6,0,[],k-1⟩::D) g=Ad (.out (.ret (Af,G6 S s3 (x16++⟨6,0,[],k⟩::(D++([⟨4,0,r.1,0⟩]++f.flat.map E6))) (g||f.flat.any D0)))))∨
   (∃s3,s2=44::s3∧DI (DT F) x16 k r b1 b2 Ah S ((Ae S:Int)-Ae u) (x16++⟨6,0,[],k-1⟩::D) g=Ad (.next (r.1,k+1,S,(Ae S:Int)-Ae s3,x16++⟨6,0,[],k⟩::(D++([⟨4,0,r.1,0⟩]++f.flat.map E6)),g||f.flat.any D0)))):=by
 unfold DI;have e0:(x16++⟨6,0,[],k-1⟩::D)++([⟨4,0,r.1,0⟩]:List Av)=x16++⟨6,0,[],k-1⟩::(D++[⟨4,0,r.1,0⟩]):=Aj
 rw[AF rfl,Pj (by rw[Aqs,Aqp,AqA];omega),e0,TK];rcases hV with⟨f,s2,q1,q2,q3⟩ | ⟨q1,q',q2⟩
 ·have ec:(x16++⟨6,0,[],k-1⟩::(D++[⟨4,0,r.1,0⟩]))++f.flat.map E6=x16++⟨6,0,[],k-1⟩::(D++([⟨4,0,r.1,0⟩]++f.flat.map E6)):=Aj
  rw[ec] at q3;rw[q3,Bu rfl,AF (p:=!Af) rfl];have hin:CE (Ae x16:Int) ((Ae (x16++(⟨6,0,[],k-1⟩:Av)::(D++([⟨4,0,r.1,0⟩]++f.flat.map E6))):Nat):Int)=Af:=L7 Ab (by rw[Aqs,Aqp];omega);have e1:(Af,G6 S s2 (x16++⟨6,0,[],k-1⟩::(D++([⟨4,0,r.1,0⟩]++f.flat.map E6))) (g||f.flat.any D0)).2.aw=x16++⟨6,0,[],k-1⟩::(D++([⟨4,0,r.1,0⟩]++f.flat.map E6)):=rfl;rw[e1,Cn hin,AjH,Adl,Jo];have e2:AN.mk (Af,G6 S s2 (x16++⟨6,0,[],k-1⟩::(D++([⟨4,0,r.1,0⟩]++f.flat.map E6))) (g||f.flat.any D0)).2.fS (Af,G6 S s2 (x16++⟨6,0,[],k-1⟩::(D++([⟨4,0,r.1,0⟩]++f.flat.map E6))) (g||f.flat.any D0)).2.aG (x16++⟨6,0,[],k⟩::(D++([⟨4,0,r.1,0⟩]++f.flat.map E6))) (Af,G6 S s2 (x16++⟨6,0,[],k-1⟩::(D++([⟨4,0,r.1,0⟩]++f.flat.map E6))) (g||f.flat.any D0)).2.aB=G6 S s2 (x16++⟨6,0,[],k⟩::(D++([⟨4,0,r.1,0⟩]++f.flat.map E6))) (g||f.flat.any D0):=rfl;rw[e2,EI hS q2,pre1]
  cases s2 with
  | nil=>
   simp only;rw[Bu rfl,AF rfl,EI hS q2,pre1];exact .inl ⟨_,rfl,.inr ⟨f,[],q1,λc s3 e=>by cases e⟩⟩
  | cons c s3=>
   simp only
   cases ha:Ac (c=125) with
   | true=>
    simp only[Aqq] at ha;subst ha;exact .inr ⟨f,_,q1,q2,.inl ⟨s3,rfl,rfl⟩⟩
   | false=>
    simp only[Aqr];rw[Bu rfl,AF rfl,EI hS q2,pre1];simp only
    cases hb:Ac (c=44) with
    | true=>
     simp only[Aqq] at hb;subst hb;simp only[Aqv];rw[Bu rfl,AF (p:=!Af) rfl,AH Ab Ab];exact .inr ⟨f,_,q1,q2,.inr ⟨s3,rfl,rfl⟩⟩
    | false=>
     exact .inl ⟨_,rfl,.inr ⟨f,_,q1,λc' s3' e=>by cases e;exact⟨ha,hb⟩⟩⟩
 ·rw[q2,Bu rfl];exact .inl ⟨q',rfl,.inl q1⟩
def AlA (t:Aw):Aw→Option (Option Aw×Aw)
 | []=>Ai
 | d::u'=>bif Ac (d=58) then Ad (Ad t,u') else Ai
theorem Rs (b:Bool)(last:Option Aw)(r:Aw):GC b Af last (34::r)=match Eh b r with
  | none=>Ai
  | some (k,u)=>bif b&&!C6 Af last (Ad k) then Ai else AlA k u:=by
 show(match Eh b r with
   | none=>Ai
   | some (k,u)=>bif b&&!C6 Af last (Ad k) then Ai else(match u with
    | []=>Ai
    | d::u'=>bif Ac (d=58) then Ad (Ad k,u') else Ai))=_
 cases Eh b r with
 | none=>rfl
 | some q=>obtain⟨k,u⟩:=q;cases u<;>rfl
theorem AdQ (b:Bool)(last:Option Aw)(h:∀r,u=34::r→Eh b r=Ai):GC b Af last u=Ai:=by
 cases u with
 | nil=>rfl
 | cons c r=>
  by_cases hc:c=34
  ·subst hc;rw[Rs,h r rfl]
  ·show(bif Ac (c=34) then _ else Ai)=Ai;rw[Aqn hc];rfl
theorem Xm {t:Aw}{k:Int}(b1 b2:Bool)(hS:Ae S≤100000)(hw:GV w S) :
  (∃q',BB (HG (t,Af,G6 S w cs g).2.2 ([58]:Aw)) (λha=>DI (DT F) x16 k (t,Af,G6 S w cs g) b1 b2 (!ha.1) ha.2.fS ha.2.aG ha.2.aw ha.2.aB)=Ad (.out (.ret (Ah,q')))∧AlA t w=Ai)∨
  ∃s1,w=58::s1∧AlA t w=Ad (Ad t,s1)∧BB (HG (t,Af,G6 S w cs g).2.2 ([58]:Aw)) (λha=>DI (DT F) x16 k (t,Af,G6 S w cs g) b1 b2 (!ha.1) ha.2.fS ha.2.aG ha.2.aw ha.2.aB)=DI (DT F) x16 k (t,Af,G6 S w cs g) b1 b2 Ah S ((Ae S:Int)-Ae s1) cs g:=by
 rw[show(t,Af,G6 S w cs g).2.2=G6 S w cs g from rfl,EI hS hw,pre1]
 cases w with
 | nil=>exact .inl ⟨_,rfl,rfl⟩
 | cons d s1=>
  by_cases hd:d=58
  ·subst hd;exact .inr ⟨s1,rfl,rfl,rfl⟩
  ·simp only[Aqn hd,Aqr];refine .inl ⟨_,rfl,?_⟩;show(bif Ac (d=58) then _ else Ai)=Ai;rw[Aqn hd];rfl
theorem AkY {last:Aw}{k:Int}(hS:Ae S≤100000)(hs:GV u S)(hF:Ae S<F) :
  (GC Af Af (bif Ac (1<k) then Ad last else Ai) u=Ai∧∃q',LB3 F x16 (last,k,S,(Ae S:Int)-Ae u,cs,g)=Ad (.out (.ret (Ah,q'))))∨
  ∃t s1 b1 b2 q0,GC Af Af (bif Ac (1<k) then Ad last else Ai) u=Ad (Ad t,s1)∧GV s1 S∧Ae s1+2≤Ae u∧LB3 F x16 (last,k,S,(Ae S:Int)-Ae u,cs,g)=DI (DT F) x16 k (t,Af,q0) b1 b2 Ah S ((Ae S:Int)-Ae s1) cs g:=by
 have hb:LB3 F x16 (last,k,S,(Ae S:Int)-Ae u,cs,g)=Il F (DT F) x16 last k S ((Ae S:Int)-Ae u) cs g:=rfl;rw[hb];unfold Il;rw[TK];rcases Z7 (cs:=cs) (g:=g) hS hs hF with⟨r,t,w,q1,q2,q3,q4⟩ | ⟨q1,q',q2⟩
 ·rw[q4,Bu rfl,AF (p:=!Af) rfl];subst q1;have hok:=Akw _ r t w rfl q2;have hwl:=Mq Af _ r t w rfl q2;rw[Rs,q2];simp only[Aq3]
  cases h1:Ac (1<k) with
  | true=>
   rw[AX rfl];simp only[Aqv];have hko:C6 Af (Ad last) (Ad t) = !(CH t last||decide (t=last)):=by simp[C6,hok]
   rw[hko,Bool.not_not]
   cases hlt:(CH t last||decide (t=last)) with
   | true=>
    rw[AX rfl];exact .inl ⟨rfl,_,rfl⟩
   | false=>
    rw[AF rfl];simp only[Aqr];rcases Xm (F:=F) (cs:=cs) (g:=g) (x16:=x16) (k:=k) (t:=t) Ah Ah hS q3 with⟨q',c1,c2⟩ | ⟨s1,c1,c2,c3⟩
    ·exact .inl ⟨c2,q',c1⟩
    ·subst c1;exact .inr ⟨t,s1,Ah,Ah,G6 S (58::s1) cs g,c2,q3.tail,by simp only[Aqp] at hwl ⊢;omega,c3⟩
  | false=>
   rw[AF rfl];simp only[Aqr];have hko:C6 Af Ai (Ad t)=Af:=by simp[C6,hok]
   rw[hko];simp only[Aq5,Aqr];rcases Xm (F:=F) (cs:=cs) (g:=g) (x16:=x16) (k:=k) (t:=t) Ah Ah hS q3 with⟨q',c1,c2⟩ | ⟨s1,c1,c2,c3⟩
   ·exact .inl ⟨c2,q',c1⟩
   ·subst c1;exact .inr ⟨t,s1,Ah,Ah,G6 S (58::s1) cs g,c2,q3.tail,by simp only[Aqp] at hwl ⊢;omega,c3⟩
 ·rw[q2,Bu rfl];exact .inl ⟨AdQ _ _ q1,_,rfl⟩
def VJ (b:Bool)(F:Nat)(m:Bool):Aw→Option (Fo×Aw)
 | []=>Ai
 | d::r'=>bif Ac (d=BY m) then Ad (nd m .nil,r') else(match Gw b F m Ai (d::r') with
  | none=>Ai
  | some (g,u)=>Ad (nd m g,u))
theorem Po (b:Bool)(F:Nat)(m:Bool)(d:UInt8)(r':Aw):VJ b F m (d::r')=bif Ac (d=BY m) then Ad (nd m .nil,r') else(match Gw b F m Ai (d::r') with
  | none=>Ai
  | some (g,u)=>Ad (nd m g,u)):=rfl
theorem Am9 (b:Bool)(F:Nat)(r:Aw)(m:Bool):Kl b (F+1) ((bif m then 123 else 91)::r)=VJ b F m r:=by
 rw[HU]
 cases m<;>cases r<;>rfl
theorem Ai6 (hS:Ae S≤100000):∀n:Nat,
  (∀(F P:Nat) (u:Aw) (cs:List Av) (g:Bool),Ae u=n→GV u S→Ae S+n+5<F→2*n+2≤P→Ae cs+n≤Ae S→VOk F P S u cs g)∧
  (∀(F P L:Nat) (u:Aw) (x16 D:List Av) (k:Int) (g:Bool),Ae u=n→GV u S→Ae S+n+5<F→2*n+3≤P→n<L→Ae x16+1+Ae D+n≤Ae S→1≤k→k+n≤Ae S+1→∃o,Cp (LB2 F x16) L (k,S,(Ae S:Int)-Ae u,x16++⟨5,0,[],k-1⟩::D,g)=Ad o∧LOk P Ah Ai S u x16 D k g o)∧
  (∀(F P L:Nat) (u last:Aw) (x16 D:List Av) (k:Int) (g:Bool),Ae u=n→GV u S→Ae S+n+5<F→2*n+3≤P→n<L→Ae x16+1+Ae D+n≤Ae S→1≤k→k+n≤Ae S+1→∃o,Cp (LB3 F x16) L (last,k,S,(Ae S:Int)-Ae u,x16++⟨6,0,[],k-1⟩::D,g)=Ad o∧LOk P Af (bif Ac (1<k) then Ad last else Ai) S u x16 D k g o):=by
 intro n
 induction n using Nat.strongRecOn with
 | ind n ih=>
 have hV:∀(F P:Nat) (u:Aw) (cs:List Av) (g:Bool),Ae u=n→GV u S→Ae S+n+5<F→2*n+2≤P→Ae cs+n≤Ae S→VOk F P S u cs g:=by
  intro F P u cs g hn hs hF hP hcs;obtain⟨F,rfl⟩:∃K,F=K+1:=⟨F-1,Ab⟩
  obtain⟨P,rfl⟩:∃K,P=K+1:=⟨P-1,Ab⟩
  unfold VOk;rw[DT];unfold Q0;rw[EI hS hs,pre1];have hsc:(∀c r,u=c::r→(Ac (c=91)||decide (c=123))=Ah)→∀r1:Bool×AN,(∃f w,Kl Af (P+1) u=Ad (f,w)∧GV w S∧Hl F (DT F) r1 Af S ((Ae S:Int)-Ae u) cs g=Ad (Af,G6 S w (cs++f.flat.map E6) (g||f.flat.any D0)))∨(Kl Af (P+1) u=Ai∧∃q',Hl F (DT F) r1 Af S ((Ae S:Int)-Ae u) cs g=Ad (Ah,q')):=λhc r1=>by
   rw[AhL Af P hc];unfold Hl;rw[AX rfl,TK];rcases Z8 (F:=F) (cs:=cs) (g:=g) hS hs Ab Ab with⟨f,w,q1,q2,q3⟩ | ⟨q1,q',q2⟩
   ·rw[q3,Bu rfl];exact .inl ⟨f,w,q1,q2,rfl⟩
   ·rw[q2,Bu rfl];exact .inr ⟨q1,q',rfl⟩
  have hsl:=hs.len
  cases u with
  | nil=>
   simp only;rw[Bu rfl,AX (p:=!Ah) rfl,show(Ah,G6 S [] cs g).2=G6 S [] cs g from rfl,EI hS hs,pre1,Bu rfl];exact hsc (λc r e=>by cases e) _
  | cons c r=>
   simp only[Aqp] at hn hsl;simp only;have hbr:∀m:Bool,c=(bif m then 123 else 91)→∀body:Option (Bool×AN),body=(Bc (De 40 (Ae cs+Ae ([⟨bif m then 6 else 5,0,[],0⟩]:List Av)))<|BB (HG (G6 S r (cs++[⟨bif m then 6 else 5,0,[],0⟩]) g) ([BY m]:Aw)) λha=>By ha.1 (Ad (Af,ha.2)) (bif m then BB (Cp (LB3 F cs) F ([],1,ha.2.fS,ha.2.aG,ha.2.aw,ha.2.aB)) (Cb λ_=>KV) else BB (Cp (LB2 F cs) F (1,ha.2.fS,ha.2.aG,ha.2.aw,ha.2.aB)) (Cb λ_=>KW)))→
     (∃f w,Kl Af (P+1) (c::r)=Ad (f,w)∧GV w S∧body=Ad (Af,G6 S w (cs++f.flat.map E6) (g||f.flat.any D0)))∨(Kl Af (P+1) (c::r)=Ai∧∃q',body=Ad (Ah,q')):=λm hc body hbody=>by
    rw[hbody,hc,Am9,Pj (by rw[AqA];omega),EI hS hs.tail,pre1];have hfh:E6 ⟨bif m then 6 else 5,0,[],0⟩=⟨bif m then 6 else 5,0,[],0⟩∧∀N,D0 ⟨bif m then 6 else 5,0,[],N⟩=Ah:=by cases m<;>exact⟨rfl,λ_=>rfl⟩
    have hfn:∀N,E6 ⟨bif m then 6 else 5,0,[],N⟩=⟨bif m then 6 else 5,0,[],N⟩:=λN=>by cases m<;>rfl
    have hloop:∀o:Out (Bool×AN) Unit,LOk P m Ai S r cs [] 1 g o→(r=[]∨∃d r',r=d::r'∧Ac (d=BY m)=Ah)→
      (∃f w,VJ Af P m r=Ad (f,w)∧GV w S∧o = .ret (Af,G6 S w (cs++f.flat.map E6) (g||f.flat.any D0)))∨(VJ Af P m r=(Ai:Option (Fo×Aw))∧∃q',o = .ret (Ah,q')):=λo ho hr=>by
     rcases hr with rfl | ⟨d,r',rfl,hd⟩
     ·rcases ho with⟨G,w,q1,_,_⟩ | ⟨_,q2⟩
      ·exact absurd ((GM Af P).2 _ _ _ _ _ q1).1 Aj
      ·exact .inr ⟨rfl,q2⟩
     ·rw[Po,hd];simp only[Aqr];rcases ho with⟨G,w,q1,q2,q3⟩ | ⟨q1,q2⟩
      ·rw[q1];refine .inl ⟨_,w,rfl,q2,?_⟩;rw[q3,Nq _ _ LR,AqY,List.any_cons,hfn,hfh.2,Aq9,AqH,show(1:Int)-1+(G.cnt:Int)=G.cnt from Ab]
      ·rw[q1];exact .inr ⟨rfl,q2⟩
    have hrest:(r=[]∨∃d r',r=d::r'∧Ac (d=BY m)=Ah)→(∃f w,VJ Af P m r=Ad (f,w)∧GV w S∧(bif m then BB (Cp (LB3 F cs) F ([],1,S,(Ae S:Int)-Ae r,cs++[⟨bif m then 6 else 5,0,[],0⟩],g)) (Cb λ_=>KV) else BB (Cp (LB2 F cs) F (1,S,(Ae S:Int)-Ae r,cs++[⟨bif m then 6 else 5,0,[],0⟩],g)) (Cb λ_=>KW))=Ad (Af,G6 S w (cs++f.flat.map E6) (g||f.flat.any D0)))∨(VJ Af P m r=(Ai:Option (Fo×Aw))∧∃q',(bif m then BB (Cp (LB3 F cs) F ([],1,S,(Ae S:Int)-Ae r,cs++[⟨bif m then 6 else 5,0,[],0⟩],g)) (Cb λ_=>KV) else BB (Cp (LB2 F cs) F (1,S,(Ae S:Int)-Ae r,cs++[⟨bif m then 6 else 5,0,[],0⟩],g)) (Cb λ_=>KW))=Ad (Ah,q')):=λhr=>by
     cases m with
     | true=>
      obtain⟨o,ho1,ho2⟩:=(ih (Ae r) Ab).2.2 F P F r [] cs [] 1 g rfl hs.tail Ab Ab Ab Am Al Ab;simp only[Aqv];have ho1':Cp (LB3 F cs) F ([],1,S,(Ae S:Int)-Ae r,cs++[⟨6,0,[],0⟩],g)=Ad o:=ho1;rw[Bu ho1'];rcases hloop o ho2 hr with⟨f,w,q1,q2,q3⟩ | ⟨q1,q',q2⟩
      ·exact .inl ⟨f,w,q1,q2,TI q3⟩
      ·exact .inr ⟨q1,q',TI q2⟩
     | false=>
      obtain⟨o,ho1,ho2⟩:=(ih (Ae r) Ab).2.1 F P F r cs [] 1 g rfl hs.tail Ab Ab Ab Am Al Ab;simp only[Aqr];have ho1':Cp (LB2 F cs) F (1,S,(Ae S:Int)-Ae r,cs++[⟨5,0,[],0⟩],g)=Ad o:=ho1;rw[Bu ho1'];rcases hloop o ho2 hr with⟨f,w,q1,q2,q3⟩ | ⟨q1,q',q2⟩
      ·exact .inl ⟨f,w,q1,q2,TI q3⟩
      ·exact .inr ⟨q1,q',TI q2⟩
    cases r with
    | nil=>
     simp only;rw[Bu rfl,AF rfl];exact hrest (.inl rfl)
    | cons d r'=>
     simp only
     cases hd:Ac (d=BY m) with
     | true=>
      simp only[Aqv];rw[Bu rfl,AX rfl];refine .inl ⟨_,r',by rw[Po,hd];rfl,hs.tail.tail,?_⟩;rw[Nq _ _ LR];simp only[Fo.flat,Fo.cnt,AqY,List.map_nil,List.any_cons,List.any_nil,AqZ];rw[show((0:Nat):Int)=0 from rfl,hfh.1,hfh.2,AqZ]
     | false=>
      simp only[Aqr];rw[Bu rfl,AF rfl];exact hrest (.inr ⟨d,r',rfl,hd⟩)
   cases he:Ac (c=91) with
   | true=>
    simp only[Aqq] at he;simp only[Aqv];rw[Bu rfl,AF (p:=!Af) rfl];exact hbr Ah he _ rfl
   | false=>
    simp only[Aqr];rw[Bu rfl,AX (p:=!Ah) rfl,show(Ah,G6 S (c::r) cs g).2=G6 S (c::r) cs g from rfl,EI hS hs,pre1];simp only
    cases hg:Ac (c=123) with
    | true=>
     simp only[Aqq] at hg;simp only[Aqv];rw[Bu rfl];exact hbr Af hg _ rfl
    | false=>
     simp only[Aqr];rw[Bu rfl];exact hsc (λc' r' e=>by cases e;rw[he,hg];rfl) _
 refine⟨hV,?_,?_⟩
 ·intro F P L u x16 D k g hn hs hF hP hL hb hk1 hk2;obtain⟨P,rfl⟩:∃K,P=K+1:=⟨P-1,Ab⟩
  obtain⟨L,rfl⟩:∃K,L=K+1:=⟨L-1,Ab⟩
  have hsl:=hs.len;have hv:=hV F P u (x16++⟨5,0,[],k-1⟩::D) g hn hs hF Ab Am;have hkp:GC Af Ah Ai u=Ad (Ai,u):=rfl;rcases Acy hS hs hk1 Ab hv with⟨q',hb1,hf⟩ | ⟨f,s2,q1,q2,h⟩
  ·refine⟨_,EK hb1,?_⟩;rcases hf with hf | ⟨f,s2,hf,hno⟩
   ·refine .inr ⟨?_,q',rfl⟩;rw[Gj,hkp];simp only[hf]
   ·exact LOk.join hkp hf ((GM Af P).1 _ _ _ hf).2 (.inr (.inr ⟨hno,q',rfl⟩))
  ·obtain⟨l1,ho⟩:=(GM Af P).1 _ _ _ q1;have l2:=(Hu Af P).1 _ _ _ q1;rcases h with⟨s3,e,hb1⟩ | ⟨s3,e,hb1⟩
   ·subst e;exact⟨_,EK hb1,LOk.join hkp q1 ho (.inl ⟨s3,rfl,q2.tail,rfl⟩)⟩
   ·subst e;simp only[Aqp] at l1 l2;obtain⟨o,ho1,ho2⟩:=(ih (Ae s3) Ab).2.1 F P L s3 x16 (D++f.flat.map E6) (k+1) (g||f.flat.any D0) rfl q2.tail Ab Ab Ab (by rw[Aqs,Aqz];omega) Ab Ab;rw[show k+1-1=k from Ab] at ho1;exact⟨o,Jm hb1 ho1,LOk.join hkp q1 ho (.inr (.inl ⟨s3,rfl,ho2⟩))⟩
 ·intro F P L u last x16 D k g hn hs hF hP hL hb hk1 hk2;obtain⟨P,rfl⟩:∃K,P=K+1:=⟨P-1,Ab⟩
  obtain⟨L,rfl⟩:∃K,L=K+1:=⟨L-1,Ab⟩
  have hsl:=hs.len;rcases AkY (last:=last) (x16:=x16) (cs:=x16++⟨6,0,[],k-1⟩::D) (k:=k) (g:=g) hS hs (F:=F) Ab with⟨hk,q',hb1⟩ | ⟨t,s1,b1,b2,q0,hk,hs1,hl1,hb0⟩
  ·refine⟨_,EK hb1,.inr ⟨?_,q',rfl⟩⟩;rw[Gj,hk]
  ·have hv:=(ih (Ae s1) Ab).1 F P s1 (x16++⟨6,0,[],k-1⟩::(D++[⟨4,0,t,0⟩])) g rfl hs1 Ab Ab Am;rcases Ai1 (r:=(t,Af,q0)) (b1:=b1) (b2:=b2) hS hs1 hk1 Ab Ab hv with⟨q',hb1,hf⟩ | ⟨f,s2,q1,q2,h⟩
   ·refine⟨_,EK (hb0.trans hb1),?_⟩;rcases hf with hf | ⟨f,s2,hf,hno⟩
    ·refine .inr ⟨?_,q',rfl⟩;rw[Gj,hk];simp only[hf]
    ·exact LOk.join hk hf ((GM Af P).1 _ _ _ hf).2 (.inr (.inr ⟨hno,q',rfl⟩))
   ·obtain⟨l1,ho⟩:=(GM Af P).1 _ _ _ q1;have l2:=(Hu Af P).1 _ _ _ q1;rcases h with⟨s3,e,hb1⟩ | ⟨s3,e,hb1⟩
    ·subst e;exact⟨_,EK (hb0.trans hb1),LOk.join hk q1 ho (.inl ⟨s3,rfl,q2.tail,rfl⟩)⟩
    ·subst e;simp only[Aqp] at l1 l2;obtain⟨o,ho1,ho2⟩:=(ih (Ae s3) Ab).2.2 F P L s3 t x16 (D++([⟨4,0,t,0⟩]++f.flat.map E6)) (k+1) (g||f.flat.any D0) rfl q2.tail Ab Ab Ab (by rw[Aqs,Aqs,Aqz,AqA];omega) Ab Ab;rw[show k+1-1=k from Ab] at ho1;rw[show Ac (1<k+1)=Af from Aqo Ab] at ho2;exact⟨o,Jm (hb0.trans hb1) ho1,LOk.join hk q1 ho (.inr (.inl ⟨s3,rfl,ho2⟩))⟩
theorem Ab8 (hS:Ae S≤100000)(hF:2*Ae S+6≤F)(hP:2*Ae S+2≤P):VOk F P S S [] Ah:=
 (Ai6 hS (Ae S)).1 F P S [] Ah rfl ⟨[],rfl⟩ Ab hP Aj
theorem EB (hS:Ae S≤100000)(hw:Ae w≤100)(h:GV u S):Cv S ((Ae S:Int)-Ae u) w=Ad (pre w u).isSome:=by
 have hl:=h.len;unfold Cv;rw[AH Ab Ab];have e:∀b:Bool,(Ac ((Ae S:Int)-Ae u+Ae w≤(Ae S:Int))=Af→b=Af)→imp (Ac ((Ae S:Int)-Ae u+Ae w≤(Ae S:Int))) b=Af:=λb hb=>by
  cases hd:Ac ((Ae S:Int)-Ae u+Ae w≤(Ae S:Int)) with
  | false=>rfl
  | true=>rw[hb hd];rfl
 rw[Cn (e _ λhd=>by simp only[Aqq] at hd;exact Aln Ab Ab),Cn (e _ λhd=>by simp only[Aqq] at hd;exact Aln Ab Ab)];rw[h.drop,← UT,show Ao ((Ae S:Int)-Ae u+Ae w)-Ao ((Ae S:Int)-Ae u)=Ao (Ae w:Int) from Ab];have:Ac ((Ae S:Int)-Ae u+Ae w≤(Ae S:Int))=Ac ((Ae w:Int)≤(Ae u:Int)):=by rw[Aq2];simp only[Aqq];omega
 rw[this]
theorem AlQ {r:Aw}(h:GV (c::r) S):Aq (Ao ((Ae S:Int)-Ae r)-Ao ((Ae S:Int)-Ae (c::r))) (Ap (Ao ((Ae S:Int)-Ae (c::r))) S)=[c]:=by
 have hl:=h.len;rw[h.drop];simp only[Aqp] at hl ⊢;rw[show Ao ((Ae S:Int)-Ae r)-Ao ((Ae S:Int)-((Ae r+1:Nat):Int))=1 from Ab];rfl
theorem Tr (hS:Ae S≤100000):∀(n L:Nat) (u A:Aw),Ae u=n→GV u S→n<L→Ae A≤Ae S-n→
  ∃o,Cp (λσ=>E1 S σ.1 σ.2) L (A,(Ae S:Int)-Ae u)=Ad o∧((∃t w,Eh Ah u=Ad (t,w)∧GV w S∧Cb (λν=>ER S ν.1 ν.2) o=Ad (A++t,(Ae S:Int)-Ae w))∨(Eh Ah u=Ai∧Cb (λν=>ER S ν.1 ν.2) o=Ad ([],-1))):=by
 intro n
 induction n using Nat.strongRecOn with
 | ind n ih=>
  intro L u A hn hs hL hA;obtain⟨L,rfl⟩:∃K,L=K+1:=⟨L-1,Ab⟩
  have hsl:=hs.len
  cases u with
  | nil=>
   have hgo:E1 S A ((Ae S:Int)-Ae ([]:Aw))=Ad (.out (.go (A,(Ae S:Int)-Ae ([]:Aw)))):=by
    unfold E1;have e:Ac ((Ae S:Int)-Ae ([]:Aw)<(Ae S:Int))=Ah:=Aj
    rw[e,Cn (p:=imp Ah _) rfl,AF (p:=Ah&&_) rfl]
   refine⟨_,EK hgo,.inr ⟨rfl,?_⟩⟩;rw[EX];unfold ER;rw[AX (Aqo Aj)]
  | cons c r=>
   have hb:BA S ((Ae S:Int)-Ae (c::r))=c.toNat:=Ga hs.get;have hpos:(Ae S:Int)-Ae (c::r)+1=Ae S-Ae r:=by rw[Aqp];omega
   have ht1:=AlQ hs;simp only[Aqp] at hn hsl;have hlt:(Ae S:Int)-Ae (c::r)<Ae S:=by rw[Aqp];omega
   have h0:0≤(Ae S:Int)-Ae (c::r):=by rw[Aqp];omega
   have l1:Ae ([c]:Aw)=1:=rfl;have hb1:E1 S A ((Ae S:Int)-Ae (c::r))=By (!Ac (c=34)) (By (Ac (c=92)) (Bc (imp (!(Ac ((Ae S:Int)≤Ae S-Ae r))) (CE (Ae S-Ae r) (Ae S:Int)))<|By (((Ac ((Ae S:Int)≤Ae S-Ae r))||((!Ac ((BA S (Ae S-Ae r))=34))&&(!Ac ((BA S (Ae S-Ae r))=92))))) (Ad (.out (.ret (([]:Aw),(-1))))) (Bc (BJ .i64 (((Ae S:Int)-Ae r)+1))<|Bc (Gk ((Ae S:Int)-Ae r) (((Ae S:Int)-Ae r)+1))<|Bc (Gk (((Ae S:Int)-Ae r)+1) (Ae S:Int))<|Bc (BJ .i64 ((Ae A:Int)+(Ae (Aq (Ao (((Ae S:Int)-Ae r)+1)-Ao ((Ae S:Int)-Ae r)) (Ap (Ao ((Ae S:Int)-Ae r)) S)):Int)))<|some (.next (A++(Aq (Ao (((Ae S:Int)-Ae r)+1)-Ao ((Ae S:Int)-Ae r)) (Ap (Ao ((Ae S:Int)-Ae r)) S)),((Ae S:Int)-Ae r)+1)))) (Ad (.next (A++[c],(Ae S:Int)-Ae r)))) (Ad (.out (.go (A,(Ae S:Int)-Ae (c::r))))):=by
    unfold E1;rw[Aqo hlt,Cn (p:=imp Af _) (by rw[L7 h0 hlt];rfl),hb,Xx,Aq3,Bi h0 hlt,AdS,hpos]
    cases Ac (c=34) with
    | true=>rfl
    | false=>
     rw[AX (p:=!Ah) rfl,AX (p:=!Ah) rfl]
     cases Ac (c=92) with
     | true=>rw[AX rfl,AX rfl,AH Ab Ab]
     | false=>rw[AF rfl,AF rfl,AH Ab Ab,C0 Ab Ab,C0 Ab Ab,ht1,l1,AH Ab Ab]
   rw[H8]
   cases h1:Ac (c=34) with
   | true=>
    rw[h1,AF (p:=!Af) rfl] at hb1;refine⟨_,EK hb1,.inl ⟨[],r,rfl,hs.tail,?_⟩⟩;rw[EX];unfold ER;rw[AF (Aqn Ab),hpos,AH Ab Ab,AqJ]
   | false=>
    rw[h1,AX (p:=!Ah) rfl] at hb1;simp only[Aqr,AqN]
    cases h3:Ac (c=92) with
    | true=>
     rw[h3,AX rfl] at hb1
     cases r with
     | nil=>
      have e:Ac ((Ae S:Int)≤Ae S-Ae ([]:Aw))=Af:=Aj
      rw[e,Cn (p:=imp (!Af) _) rfl,AX (p:=Af||_) rfl] at hb1;exact⟨_,EK hb1,.inr ⟨rfl,rfl⟩⟩
     | cons d r'=>
      have ht2:=AlQ hs.tail;simp only[Aqp] at hn hsl;have hbd:BA S ((Ae S:Int)-Ae (d::r'))=d.toNat:=Ga hs.tail.get;have hlt2:(Ae S:Int)-Ae (d::r')<Ae S:=by rw[Aqp];omega
      have ha:0≤(Ae S:Int)-Ae (d::r'):=by rw[Aqp];omega
      have hpos2:(Ae S:Int)-Ae (d::r')+1=Ae S-Ae r':=by rw[Aqp];omega
      have e:Ac ((Ae S:Int)≤Ae S-Ae (d::r'))=Ah:=Aqn Ab;have l2:Ae ([d]:Aw)=1:=rfl;rw[e,L7 ha hlt2,hbd,hpos2,Xx,AdS,Cn (p:=imp (!Ah) Af) rfl,ht2,l2] at hb1;simp only[Aqv]
      cases h4:(Ac (d=34)||decide (d=92)) with
      | false=>
       have e4:(Ah||(!Ac (d=34)&&!Ac (d=92)))=Af:=by rw[← Bool.not_or,h4];rfl
       rw[AX e4] at hb1;exact⟨_,EK hb1,.inr ⟨rfl,rfl⟩⟩
      | true=>
       have e4:(Ah||(!Ac (d=34)&&!Ac (d=92)))=Ah:=by rw[← Bool.not_or,h4];rfl
       rw[AF e4,AH Ab Ab,C0 Ab Ab,C0 Ab Ab,AH Ab Ab] at hb1;obtain⟨o,ho1,ho2⟩:=ih (Ae r') Ab L r' (A++[d]) rfl hs.tail.tail Ab (by rw[Id];omega);refine⟨o,Jm hb1 ho1,?_⟩;simp only[Aqv];rcases ho2 with⟨t,w,q1,q2,q3⟩ | ⟨q1,q2⟩
       ·rw[q1];exact .inl ⟨d::t,w,rfl,q2,by rw[q3];simp⟩
       ·rw[q1];exact .inr ⟨rfl,q2⟩
    | false=>
     rw[h3,AF rfl] at hb1;obtain⟨o,ho1,ho2⟩:=ih (Ae r) Ab L r (A++[c]) rfl hs.tail Ab (by rw[Id];omega);refine⟨o,Jm hb1 ho1,?_⟩;simp only[Aqr];rcases ho2 with⟨t,w,q1,q2,q3⟩ | ⟨q1,q2⟩
     ·rw[q1];exact .inl ⟨c::t,w,rfl,q2,by rw[q3];simp⟩
     ·rw[q1];exact .inr ⟨rfl,q2⟩
theorem NQ (hS:Ae S≤100000)(h:GV u S)(hF:Ae S<F) :
  (∃r t w,u=34::r∧Eh Ah r=Ad (t,w)∧GV w S∧Gn F S ((Ae S:Int)-Ae u)=Ad (t,(Ae S:Int)-Ae w))∨((∀r,u=34::r→Eh Ah r=Ai)∧Gn F S ((Ae S:Int)-Ae u)=Ad ([],-1)):=by
 have hl:=h.len;unfold Gn
 cases u with
 | nil=>
  have e:Ac ((Ae S:Int)≤(Ae S:Int)-Ae ([]:Aw))=Af:=Aj
  rw[e,Cn (p:=imp (!Af) _) rfl,AX (p:=Af||_) rfl];exact .inr ⟨(λr e=>by cases e),rfl⟩
 | cons c r=>
  have hb:BA S ((Ae S:Int)-Ae (c::r))=c.toNat:=Ga h.get;have hpos:(Ae S:Int)-Ae (c::r)+1=Ae S-Ae r:=by rw[Aqp];omega
  simp only[Aqp] at hl;have hlt:(Ae S:Int)-Ae (c::r)<Ae S:=by rw[Aqp];omega
  have h0:0≤(Ae S:Int)-Ae (c::r):=by rw[Aqp];omega
  have e:Ac ((Ae S:Int)≤(Ae S:Int)-Ae (c::r))=Ah:=Aqn Ab;rw[e,Cn (p:=imp (!Ah) _) (by rw[L7 h0 hlt];rfl),hb,Xx,hpos]
  cases hc:Ac (c=34) with
  | false=>
   simp only[Aqt] at hc;exact .inr ⟨(λr' e=>by cases e;exact absurd rfl hc),rfl⟩
  | true=>
   simp only[Aqq] at hc;subst hc;rw[AF (p:=Ah||!Af) rfl,AH Ab Ab];obtain⟨o,ho1,ho2⟩:=Tr hS (Ae r) F r [] rfl h.tail Ab (AqL _);rw[Bu ho1];rcases ho2 with⟨t,w,q1,q2,q3⟩ | ⟨q1,q2⟩
   ·exact .inl ⟨r,t,w,rfl,q1,q2,q3⟩
   ·exact .inr ⟨(λr' e=>by cases e;exact q1),q2⟩
theorem Af0 (d:Aw)(c:UInt8):Ll (d++[c])=10*Ll d+((c.toNat:Int)-48):=by simp[Ll]
theorem AdF:∀(d:Aw),d.all Ee=Af→EQ 0 d<10 ^ (Ae d):=by
 have key:∀(d:Aw) (a m:Nat),d.all Ee=Af→a<10 ^ m→EQ a d<10 ^ (m+Ae d):=by
  intro d
  induction d with
  | nil=>intro a m _ h;simpa[EQ] using h
  | cons c d ih=>
   intro a m hd h;simp only[Are,Aqu] at hd;have hc:48≤c.toNat∧c.toNat≤57:=by have:=hd.1;simp[Ee] at this;omega
   have:=ih (10*a+(c.toNat-48)) (m+1) hd.2 (by rw[Nat.pow_succ];omega);rw[Aqp,show m+(Ae d+1)=m+1+Ae d from Ab];exact this
 intro d hd;have:=key d 0 0 hd Al;simpa using this
theorem Y8 (hd:d.all Ee=Af)(hl:Ae d≤18):0≤Ll d∧Ll d<1000000000000000000:=by
 have h1:Ll d=(EQ 0 d:Int):=Ok d 0 hd;have h2:=AdF d hd;have h3:10 ^ (Ae d)≤10 ^ 18:=Nat.pow_le_pow_right Al hl;have:(10:Nat) ^ 18=1000000000000000000:=Al
 omega
def Kx (d:Aw):Aw:=d.take 18
theorem Anp {D:Aw}(h:Ae D<18):Kx D=D∧Kx (D++[c])=D++[c]:=by
 unfold Kx;exact⟨List.take_of_length_le Ab,List.take_of_length_le Am⟩
theorem Anq {D:Aw}(h:¬ (Ae D)<18):Kx (D++[c])=Kx D:=by
 unfold Kx;rw[List.take_append_of_le_length Ab]
theorem AeV {r D:Aw}{a:Int}(body:Int→Int→Option (Stp (Int×Int) (Out (List Av×Int) (Int×Int))))(hS:Ae S≤100000)(hs:GV (c::r) S)(hD:D.all Ee=Af)(hDm:Ae D≤100000)(ha:(Ae S:Int)-Ae (c::r)-a=Ae D)
  (hb:∀x n,body x n=(Bc (imp (Ac (x<(Ae S:Int))) (CE x (Ae S:Int)))<|By (((Ac (x<(Ae S:Int)))&&((Ac (48≤(BA S x)))&&(Ac ((BA S x)≤57))))) (Bc (BJ .i64 (x-a))<|By (Ac ((x-a)<18)) (Bc (BJ .i64 (10*n))<|Bc (CE x (Ae S:Int))<|Bc (BJ .u8 ((BA S x)-48))<|Bc (BJ .i64 ((BA S x)-48))<|Bc (BJ .i64 ((10*n)+((BA S x)-48)))<|Bc (BJ .i64 (x+1))<|some (.next (x+1,(10*n)+((BA S x)-48)))) (Bc (BJ .i64 (x+1))<|some (.next (x+1,n)))) (Ad (.out (.go (x,n)))))) :
  body ((Ae S:Int)-Ae (c::r)) (Ll (Kx D))=bif Ee c then Ad (.next ((Ae S:Int)-Ae r,Ll (Kx (D++[c])))) else Ad (.out (.go ((Ae S:Int)-Ae (c::r),Ll (Kx D)))):=by
 have hsl:=hs.len;have hbt:BA S ((Ae S:Int)-Ae (c::r))=c.toNat:=Ga hs.get;have hpos:(Ae S:Int)-Ae (c::r)+1=Ae S-Ae r:=by rw[Aqp];omega
 simp only[Aqp] at hsl;have hlt:(Ae S:Int)-Ae (c::r)<Ae S:=by rw[Aqp];omega
 have h0:0≤(Ae S:Int)-Ae (c::r):=by rw[Aqp];omega
 rw[hb,Aqo hlt,Cn (p:=imp Af _) (by rw[L7 h0 hlt];rfl),hbt,Aek,Aq3,ha,hpos]
 cases hd:Ee c with
 | false=>rfl
 | true=>
  have hc:48≤c.toNat∧c.toNat≤57:=by simp[Ee] at hd;omega
  rw[AX rfl]
  by_cases he:Ae D<18
  ·obtain⟨e1,e2⟩:=Anp (c:=c) he;have hbd:=Y8 hD Ab;have hf:Ll D<100000000000000000:=by
    have h1:Ll D=(EQ 0 D:Int):=Ok D 0 hD;have h2:=AdF D hD;have h3:10 ^ (Ae D)≤10 ^ 17:=Nat.pow_le_pow_right Al Ab;have:(10:Nat) ^ 17=100000000000000000:=Al
    omega
   rw[e1,e2,Af0,AH Ab Ab,AX (Aqo Ab),AH Ab Ab,Bi h0 hlt,Kr Ab Ab,AH Ab Ab,AH Ab Ab,AH Ab Ab];rfl
  ·rw[Anq he];have hle:(Ae D:Int)≤9223372036854775807:=Ab
   rw[AH Ab hle,AF (Aqn Ab),AH Ab Ab];rfl
theorem UK {S:Aw}{a:Int}(body:Int→Int→Option (Stp (Int×Int) (Out (List Av×Int) (Int×Int))))(hS:Ae S≤100000)
  (hb:∀x n,body x n=(Bc (imp (Ac (x<(Ae S:Int))) (CE x (Ae S:Int)))<|By (((Ac (x<(Ae S:Int)))&&((Ac (48≤(BA S x)))&&(Ac ((BA S x)≤57))))) (Bc (BJ .i64 (x-a))<|By (Ac ((x-a)<18)) (Bc (BJ .i64 (10*n))<|Bc (CE x (Ae S:Int))<|Bc (BJ .u8 ((BA S x)-48))<|Bc (BJ .i64 ((BA S x)-48))<|Bc (BJ .i64 ((10*n)+((BA S x)-48)))<|Bc (BJ .i64 (x+1))<|some (.next (x+1,(10*n)+((BA S x)-48)))) (Bc (BJ .i64 (x+1))<|some (.next (x+1,n)))) (Ad (.out (.go (x,n)))))) :
  ∀(r D:Aw) (L:Nat),GV r S→D.all Ee=Af→(Ae S:Int)-Ae r-a=Ae D→Ae D+Ae r≤Ae S→Ae r<L→
  Cp (λσ=>body σ.1 σ.2) L ((Ae S:Int)-Ae r,Ll (Kx D))=Ad (.go ((Ae S:Int)-Ae (CX r).2,Ll (Kx (D++(CX r).1))))
 | [],D,L,hs,hD,ha,hDl,hL=>by
  obtain⟨L,rfl⟩:∃K,L=K+1:=⟨L-1,Ab⟩
  refine EK ?_;show body _ _=_;have e:Ac ((Ae S:Int)-Ae ([]:Aw)<(Ae S:Int))=Ah:=Aj
  rw[hb,e,Cn (p:=imp Ah _) rfl,AF (p:=Ah&&_) rfl];show _=Ad (Stp.out (Out.go ((Ae S:Int)-Ae ([]:Aw),Ll (Kx (D++[])))));rw[AqJ]
 | c::r,D,L,hs,hD,ha,hDl,hL=>by
  obtain⟨L,rfl⟩:∃K,L=K+1:=⟨L-1,Ab⟩
  have hst:=AeV body hS hs hD Ab ha hb;simp only[Aqp] at hL hDl;rw[CX]
  cases hd:Ee c with
  | false=>
   rw[hd] at hst;simp only[Aqr,AqJ];exact EK hst
  | true=>
   rw[hd] at hst;simp only[Aqv];have:=UK body hS hb r (D++[c]) L hs.tail (by simp[hD,hd]) (by rw[Id];simp only[Aqp] at ha;omega) (by rw[Id];omega) Ab;rw[Aq4] at this;exact Jm hst this
theorem ZR {c0:UInt8}{r0:Aw}(hS:Ae S≤100000)(h:GV (c0::r0) S)(hF:Ae S<F) :
  (∃f w,MD (c0::r0)=Ad (f,w)∧GV w S∧NR F S ((Ae S:Int)-Ae (c0::r0))=Ad (f.flat,(Ae S:Int)-Ae w))∨(MD (c0::r0)=Ai∧NR F S ((Ae S:Int)-Ae (c0::r0))=Ad ([],-1)):=by
 have hl:=h.len;have hbt:BA S ((Ae S:Int)-Ae (c0::r0))=c0.toNat:=Ga h.get;have hpos:(Ae S:Int)-Ae (c0::r0)+1=Ae S-Ae r0:=by rw[Aqp];omega
 have hlt:(Ae S:Int)-Ae (c0::r0)<Ae S:=by rw[Aqp];omega
 have h0:0≤(Ae S:Int)-Ae (c0::r0):=Ab
 have hf:Ac ((c0.toNat:Int)=45)=Ac ((c0::r0).head? =Ad 45):=by
  rw[Aq2];simp only[Aqq,List.head?_cons,Option.some.injEq,← Ark];show(c0.toNat:Int)=45↔c0.toNat=45;omega
 have fin:∀(neg:Bool) (r:Aw) (a:Int) (k:Int→Int→Option (List Av×Int)),GV r S→(Ae S:Int)-Ae r=a→(∀x n,a≤x→x≤Ae S→k x n=(Bc (imp (!(Ac (x=a))) (imp (Ac ((BA S a)=48)) (BJ .i64 (a+1))))<|By (((Ac (x=a))||((Ac ((BA S a)=48))&&((Ac ((a+1)<x))||neg)))) (Ad (([]:List Av),(-1))) (Bc (BJ .i64 (x-a))<|By (Ac (18<(x-a))) (By neg (Ad (([(Av.mk 3 (-2000000000000) ([]:Aw) 0)]:List Av),x)) (Ad (([(Av.mk 3 2000000000000 ([]:Aw) 0)]:List Av),x))) (By neg (Bc (BJ .i64 (-n))<|some (([(Av.mk 3 (-n) ([]:Aw) 0)]:List Av),x)) (Ad (([(Av.mk 3 n ([]:Aw) 0)]:List Av),x))))))→
   k ((Ae S:Int)-Ae (CX r).2) (Ll (Kx (CX r).1))=bif GU neg (CX r).1 then Ad ([⟨3,Pt neg (CX r).1,[],0⟩],(Ae S:Int)-Ae (CX r).2) else Ad ([],-1):=λneg r a k hr ha hk=>by
  have hrl:=hr.len;have hsplit:=LQ r;have hlen:Ae r=Ae (CX r).1+Ae (CX r).2:=by conv=>lhs;rw[hsplit,Aqs]
  have hd:=MM r;rw[hk _ _ Ab Ab,Cn (by
   cases Ac ((Ae S:Int)-Ae (CX r).2=a)<;>cases Ac (BA S a=48)<;>simp only[imp,Aq5,AqR,Arg,Arb,Aq9]
   exact EV Ab Ab),AH Ab Ab]
  have hx:(Ae S:Int)-Ae (CX r).2-a=Ae (CX r).1:=Ab
  rw[hx];have hc:(Ac ((Ae S:Int)-Ae (CX r).2=a)||(Ac (BA S a=48)&&(Ac (a+1<(Ae S:Int)-Ae (CX r).2)||neg))) = !GU neg (CX r).1:=by
   unfold GU
   cases he:(CX r).1 with
   | nil=>
    rw[he] at hlen;rw[Aqo (show(Ae S:Int)-Ae (CX r).2=a by simp only[Ari] at hlen;omega)];rfl
   | cons c d=>
    rw[he] at hlen hsplit;have hg:BA S a=c.toNat:=by
     rw[← ha];have hr':=hr;rw[hsplit] at hr';have:=hr'.get;have e:((Ae S:Int)-Ae r)=(Ae S:Int)-Ae ((c::d)++(CX r).2):=by rw[← hsplit]
     rw[e];exact Ga this
    have hh:Ac ((c.toNat:Int)=48)=Ac ((c::d).head? =Ad 48):=by
     rw[Aq2];simp only[Aqq,List.head?_cons,Option.some.injEq,← Ark];show(c.toNat:Int)=48↔c.toNat=48;omega
    have h1:Ac (a+1<(Ae S:Int)-Ae (CX r).2)=Ac (1<Ae (c::d)):=by rw[Aq2];simp only[Aqq];omega
    have h2:Ac ((Ae S:Int)-Ae (CX r).2=a)=Ah:=Aqn (by simp only[Aqp] at hlen;omega);have h3:Ac (c::d=([]:Aw))=Ah:=Aj
    rw[hg,hh,h1,h2,h3];simp
  rw[hc]
  cases hcan:GU neg (CX r).1 with
  | false=>rfl
  | true=>
   rw[AF (p:=!Af) rfl];unfold Pt
   cases hb:Ac (18<Ae (CX r).1) with
   | true=>
    rw[AX (Aqo (by simp only[Aqq] at hb;omega))]
    cases neg<;>rfl
   | false=>
    simp only[Aqt] at hb;have e:Kx (CX r).1=(CX r).1:=List.take_of_length_le Ab;have hbd:=Y8 hd Ab;rw[AF (Aqn Ab),e]
    cases neg with
    | true=>rw[AX rfl,AH Ab Ab];rfl
    | false=>rfl
 unfold NR;rw[Bi h0 hlt,hbt,hf,hpos];unfold MD;simp only
 cases hn:Ac ((c0::r0).head? =Ad 45) with
 | true=>
  have hr:GV r0 S:=h.tail;have hl2:=hr.len;have hlop:Cp (λσ=>JM S ((Ae S:Int)-Ae (c0::r0)) σ.1 σ.2) F ((Ae S:Int)-Ae r0,0)=Ad (.go ((Ae S:Int)-Ae (CX r0).2,Ll (Kx ([]++(CX r0).1)))):=UK (a:=(Ae S:Int)-Ae (c0::r0)+1) (λx n=>JM S ((Ae S:Int)-Ae (c0::r0)) x n) hS (λx n=>rfl) r0 [] F hr rfl (by rw[hpos];simp) Am Ab;rw[AX rfl,AH Ab Ab,Bu hlop,EX];have:=fin Af r0 ((Ae S:Int)-Ae (c0::r0)+1) (JK S ((Ae S:Int)-Ae (c0::r0))) hr (by rw[hpos]) (λx n hx1 hx2=>by
   unfold JK;have e1:Ac ((Ae S:Int)-Ae (c0::r0)<(Ae S:Int)-Ae (c0::r0)+1)=Af:=Aqo Ab;have e2:imp (!(Ac (x=((Ae S:Int)-Ae (c0::r0)+1)))) (CE ((Ae S:Int)-Ae (c0::r0)+1) (Ae S:Int))=Af:=by
    cases hd:Ac (x=((Ae S:Int)-Ae (c0::r0)+1)) with
    | true=>rfl
    | false=>
     simp only[Aqt] at hd;rw[L7 Ab Ab];rfl
   have e3:∀y:Option (List Av×Int),Bc (BJ .i64 (-2000000000000)) y=y:=λy=>AH Al Al;rw[e1,Cn e2,e3])
  simp only[AqH];rw[this];have hw:GV (CX r0).2 S:=by have:=LQ r0;rw[this] at hr;exact hr.app
  simp only[Aqv,List.tail_cons]
  cases GU Af (CX r0).1 with
  | true=>exact .inl ⟨_,_,rfl,hw,rfl⟩
  | false=>exact .inr ⟨rfl,rfl⟩
 | false=>
  have hl2:=h.len;have hlop:Cp (λσ=>JL S ((Ae S:Int)-Ae (c0::r0)) σ.1 σ.2) F ((Ae S:Int)-Ae (c0::r0),0)=Ad (.go ((Ae S:Int)-Ae (CX (c0::r0)).2,Ll (Kx ([]++(CX (c0::r0)).1)))):=UK (a:=(Ae S:Int)-Ae (c0::r0)) (λx n=>JL S ((Ae S:Int)-Ae (c0::r0)) x n) hS (λx n=>rfl) (c0::r0) [] F h rfl Aj (by simpa using hl) Ab;rw[AF rfl,Bu hlop,EX];have:=fin Ah (c0::r0) ((Ae S:Int)-Ae (c0::r0)) (JJ S ((Ae S:Int)-Ae (c0::r0))) h rfl (λx n hx1 hx2=>by
   unfold JJ;have e1:Ac ((Ae S:Int)-Ae (c0::r0)<(Ae S:Int)-Ae (c0::r0))=Ah:=Aqn Ab;have e3:∀y:Option (List Av×Int),Bc (BJ .i64 (-2000000000000)) y=y:=λy=>AH Al Al;rw[e1,e3])
  simp only[AqH];rw[this];have hw:GV (CX (c0::r0)).2 S:=by have:=LQ (c0::r0);rw[this] at h;exact h.app
  simp only[Aqr]
  cases GU Ah (CX (c0::r0)).1 with
  | true=>exact .inl ⟨_,_,rfl,hw,rfl⟩
  | false=>exact .inr ⟨rfl,rfl⟩
theorem W1 (b:Bool):∀(n:Nat) (s t u:Aw),Ae s=n→Eh b s=Ad (t,u)→∃p,s=p++34::u:=by
 intro n
 induction n using Nat.strongRecOn with
 | ind n ih=>
  intro s t u hn h
  cases s with
  | nil=>cases h
  | cons c r=>
   simp only[Aqp] at hn;rw[H8] at h
   cases h1:Ac (c=34) with
   | true=>
    rw[h1] at h;cases h;simp only[Aqq] at h1;exact⟨[],by rw[h1];rfl⟩
   | false=>
    rw[h1] at h;simp only[Aqr] at h
    cases h2:(b&&!P9 c) with
    | true=>rw[h2] at h;cases h
    | false=>
     rw[h2] at h;simp only[Aqr] at h
     cases h3:Ac (c=92) with
     | true=>
      rw[h3] at h
      cases r with
      | nil=>cases h
      | cons d r'=>
       simp only[Aqv] at h
       cases h4:(Ac (d=34)||decide (d=92)) with
       | false=>rw[h4] at h;cases h
       | true=>
        rw[h4] at h;simp only[Aqv] at h
        cases h5:Eh b r' with
        | none=>rw[h5] at h;cases h
        | some q=>
         obtain⟨t',u'⟩:=q;rw[h5] at h;cases h;simp only[Aqp] at hn;obtain⟨p,e⟩:=ih (Ae r') Ab r' t' u rfl h5;exact⟨c::d::p,by rw[e];rfl⟩
     | false=>
      rw[h3] at h;simp only[Aqr] at h
      cases h5:Eh b r with
      | none=>rw[h5] at h;cases h
      | some q=>
       obtain⟨t',u'⟩:=q;rw[h5] at h;cases h;obtain⟨p,e⟩:=ih (Ae r) Ab r t' u rfl h5;exact⟨c::p,by rw[e];rfl⟩
theorem AaI (h:GC b m last s=Ad (key,u)):∃p,s=p++u:=by
 unfold GC at h
 cases m with
 | false=>cases h;exact⟨[],rfl⟩
 | true=>
  simp only[Aqv] at h
  cases s with
  | nil=>cases h
  | cons c r=>
   simp only at h
   cases h1:Ac (c=34) with
   | false=>rw[h1] at h;cases h
   | true=>
    rw[h1] at h;simp only[Aqv] at h
    cases h2:Eh b r with
    | none=>rw[h2] at h;cases h
    | some q=>
     obtain⟨k,w⟩:=q;obtain⟨p,e⟩:=W1 b _ r k w rfl h2;rw[h2] at h;simp only at h
     cases h3:(b&&!C6 Af last (Ad k)) with
     | true=>rw[h3] at h;cases h
     | false=>
      rw[h3] at h;simp only[Aqr] at h
      cases w with
      | nil=>cases h
      | cons d w'=>
       simp only at h
       cases h4:Ac (d=58) with
       | false=>rw[h4] at h;cases h
       | true=>
        rw[h4] at h;cases h;exact⟨c::(p++[34,d]),by rw[e];simp⟩
theorem Aal (b:Bool):∀F:Nat,(∀s f u,Kl b F s=Ad (f,u)→∃p c,s=p++c::u∧c≠44)∧(∀m last s g u,Gw b F m last s=Ad (g,u)→∃p,s=p++BY m::u)
 | 0=>⟨(λs f u h=>by rw[Kl.eq_def] at h;cases h),(λm last s g u h=>by rw[Gw.eq_def] at h;cases h)⟩
 | F+1=>by
  obtain⟨ih1,ih2⟩:=Aal b F;have hcl:∀m,BY m≠44:=λm=>by cases m<;>decide
  constructor
  ·intro s f u h;rw[HU] at h
   cases h1:pre [110,117,108,108] s with
   | some r=>rw[h1] at h;cases h;exact⟨[110,117,108],108,by have e:=EN h1;exact e,Al⟩
   | none=>
   rw[h1] at h;simp only at h
   cases h2:pre [116,114,117,101] s with
   | some r=>rw[h2] at h;cases h;exact⟨[116,114,117],101,by have e:=EN h2;exact e,Al⟩
   | none=>
   rw[h2] at h;simp only at h
   cases h3:pre [102,97,108,115,101] s with
   | some r=>rw[h3] at h;cases h;exact⟨[102,97,108,115],101,by have e:=EN h3;exact e,Al⟩
   | none=>
   rw[h3] at h;simp only at h
   cases s with
   | nil=>cases h
   | cons c r=>
   simp only at h
   cases h4:Ac (c=34) with
   | true=>
    rw[h4] at h;simp only[Aqv] at h
    cases h5:Eh b r with
    | none=>rw[h5] at h;cases h
    | some q=>
     obtain⟨t,w⟩:=q;rw[h5] at h;cases h;obtain⟨p,e⟩:=W1 b _ r t u rfl h5;exact⟨c::p,34,by rw[e];rfl,Al⟩
   | false=>
   rw[h4] at h;simp only[Aqr] at h
   cases h5:(Ac (c=91)||decide (c=123)) with
   | false=>
    rw[h5] at h;simp only[Aqr] at h;unfold MD at h;simp only at h;have hsr:∃p,c::r=p++(bif Ac ((c::r).head? =Ad 45) then(c::r).tail else c::r):=by
     cases Ac ((c::r).head? =Ad 45) with
     | true=>exact⟨[c],rfl⟩
     | false=>exact⟨[],rfl⟩
    generalize(bif Ac ((c::r).head? =Ad 45) then(c::r).tail else c::r)=r2 at h hsr
    cases hc:GU (Ac ((c::r).head? =Ad 45)) (CX r2).1 with
    | false=>rw[hc] at h;cases h
    | true=>
     rw[hc] at h;simp only[Aqv,Option.some.injEq,Prod.mk.injEq] at h;obtain⟨_,h⟩:=h;obtain⟨p,e⟩:=hsr;have hne:(CX r2).1≠[]:=by
      intro e';rw[e'] at hc
      cases Ac ((c::r).head? =Ad 45)<;>cases hc
     have hd:=MM r2;have hl:=List.dropLast_concat_getLast hne;have hlast:Ee ((CX r2).1.getLast hne)=Af:=List.all_eq_true.1 hd _ (List.getLast_mem hne);refine⟨p++(CX r2).1.dropLast,(CX r2).1.getLast hne,?_,λe'=>by rw[e'] at hlast;cases hlast⟩;rw[e,← h]
     conv=>lhs;rw[LQ r2,← hl]
     simp
   | true=>
   rw[h5] at h;simp only[Aqv] at h
   cases r with
   | nil=>cases h
   | cons d r'=>
   simp only at h
   cases h6:Ac (d=BY (Ac (c=123))) with
   | true=>
    rw[h6] at h;cases h;simp only[Aqq] at h6;exact⟨[c],d,rfl,by rw[h6];exact hcl _⟩
   | false=>
   rw[h6] at h;simp only[Aqr] at h
   cases h7:Gw b F (Ac (c=123)) Ai (d::r') with
   | none=>rw[h7] at h;cases h
   | some q=>
    obtain⟨g,w⟩:=q;rw[h7] at h;cases h;obtain⟨p,e⟩:=ih2 _ _ _ _ _ h7;exact⟨c::p,_,by rw[e];rfl,hcl _⟩
  ·intro m last s g u h;rw[Gj] at h
   cases h1:GC b m last s with
   | none=>rw[h1] at h;cases h
   | some q=>
   obtain⟨key,s1⟩:=q;obtain⟨p1,e1⟩:=AaI h1;rw[h1] at h;simp only at h
   cases h2:Kl b F s1 with
   | none=>rw[h2] at h;cases h
   | some q=>
   obtain⟨f,s2⟩:=q;obtain⟨p2,c2,e2,_⟩:=ih1 _ _ _ h2;rw[h2] at h;simp only at h
   cases s2 with
   | nil=>cases h
   | cons c s3=>
   simp only at h
   cases h3:Ac (c=BY m) with
   | true=>
    rw[h3] at h;cases h;simp only[Aqq] at h3;exact⟨p1++p2++[c2],by rw[e1,e2,h3];simp⟩
   | false=>
   rw[h3] at h;simp only[Aqr] at h
   cases h4:Ac (c=44) with
   | false=>rw[h4] at h;cases h
   | true=>
   rw[h4] at h;simp only[Aqv] at h
   cases h5:Gw b F m key s3 with
   | none=>rw[h5] at h;cases h
   | some q=>
    obtain⟨g',w⟩:=q;rw[h5] at h;cases h;obtain⟨p3,e3⟩:=ih2 _ _ _ _ _ h5;exact⟨p1++p2++[c2,c]++p3,by rw[e1,e2,e3];simp⟩
def rMB (cl:Aw)(F:Nat)(s:Aw)(hh:Aw→Int→Option ((List Av)×Int))(hg:(List Av))(hb:Int)(ha:Av):Option (Stp ((List Av)×Int×Av) (Out ((List Av)×Int) ((List Av)×Int×Av))):=
 Bc ((Cv s hb cl).isSome)<|Bc (imp (!(!(ov (Cv s hb cl)))) (imp (Ac (0<ha.fN)) (BJ .i64 (hb-1))))<|Bc (imp (!(!(ov (Cv s hb cl)))) (imp (Ac (0<ha.fN)) (CE (hb-1) (Ae s:Int))))<|By (((!(ov (Cv s hb cl)))||((Ac (0<ha.fN))&&(Ac ((BA s (hb-1))=44))))) (By (Ac (ha.aa=6)) (BB (Gn F s hb) λhd=>Bc (imp (!(Ac (hd.2<0))) ((Cv s hd.2 ([58]:Aw)).isSome))<|By (((Ac (hd.2<0))||(!(ov (Cv s hd.2 ([58]:Aw)))))) (Ad (.out (.ret (([]:List Av),(-1))))) (Bc (De 40 (hg.length+Ae ([(Av.mk 4 0 hd.1 0)]:List Av)))<|Bc (BJ .i64 (hd.2+1))<|BB (hh s (hd.2+1)) λhe=>By (Ac (he.2<0)) (Ad (.out (.ret (([]:List Av),(-1))))) (Bc (De 40 (Ae (hg++([(Av.mk 4 0 hd.1 0)]:List Av))+he.1.length))<|Bc (BJ .i64 (ha.fN+1))<|BB (Cv s he.2 ([44]:Aw)) λhi=>By (hi) (Bc (BJ .i64 (he.2+1))<|some (.next ((hg++([(Av.mk 4 0 hd.1 0)]:List Av))++he.1,he.2+1,(Av.mk ha.aa ha.ay ha.au (ha.fN+1))))) (BB (Cv s he.2 cl) λhj=>By (!hj) (Ad (.out (.ret (([]:List Av),(-1))))) (Ad (.next ((hg++([(Av.mk 4 0 hd.1 0)]:List Av))++he.1,he.2,(Av.mk ha.aa ha.ay ha.au (ha.fN+1))))))))) (BB (hh s hb) λhf=>By (Ac (hf.2<0)) (Ad (.out (.ret (([]:List Av),(-1))))) (Bc (De 40 (hg.length+hf.1.length))<|Bc (BJ .i64 (ha.fN+1))<|BB (Cv s hf.2 ([44]:Aw)) λhk=>By (hk) (Bc (BJ .i64 (hf.2+1))<|some (.next (hg++hf.1,hf.2+1,(Av.mk ha.aa ha.ay ha.au (ha.fN+1))))) (BB (Cv s hf.2 cl) λhl=>By (!hl) (Ad (.out (.ret (([]:List Av),(-1))))) (Ad (.next (hg++hf.1,hf.2,(Av.mk ha.aa ha.ay ha.au (ha.fN+1))))))))) (Ad (.out (.go (hg,hb,ha))))
def ROk (F P:Nat)(S u:Aw):Prop:=
 (∃f w,Kl Ah P u=Ad (f,w)∧GV w S∧Ks F S ((Ae S:Int)-Ae u)=Ad (f.flat,(Ae S:Int)-Ae w))∨(Kl Ah P u=Ai∧∃v,Ks F S ((Ae S:Int)-Ae u)=Ad (v,-1))
abbrev RLB (m:Bool)(F:Nat)(S:Aw)(G:Nat):List Av×Int×Av→Option (Stp (List Av×Int×Av) (Out (List Av×Int) (List Av×Int×Av))):=λσ=>rMB [BY m] F S (Ks G) σ.1 σ.2.1 σ.2.2
def hd (m:Bool)(N:Int):Av:=⟨bif m then 6 else 5,0,[],N⟩
theorem Alt (m:Bool)(N:Int):Ac ((hd m N).aa=6)=m:=by cases m<;>rfl
theorem AeT {G:Nat}{out:List Av}{N:Int}(hS:Ae S≤100000)(hs:GV u S)(hF:Ae S<F)(hN0:0≤N)(hN:N≤200000)(ho:Ae out+Ae u≤Ae S)(hA:(pre [BY m] u).isSome=Ah∨(0<N∧GV (44::u) S))
  (hR:∀w,GV w S→Ae w≤Ae u→ROk G P S w) :
  (∃v,RLB m F S G (out,(Ae S:Int)-Ae u,hd m N)=Ad (.out (.ret (v,-1)))∧(GC Ah m Ai u=Ai∨∃key s1,GC Ah m Ai u=Ad (key,s1)∧(Kl Ah P s1=Ai∨∃f s2,Kl Ah P s1=Ad (f,s2)∧∀c s3,s2=c::s3→Ac (c=BY m)=Ah∧Ac (c=44)=Ah)))∨
  ∃key s1 f s2,GC Ah m Ai u=Ad (key,s1)∧Kl Ah P s1=Ad (f,s2)∧GV s2 S∧((∃s3,s2=BY m::s3∧RLB m F S G (out,(Ae S:Int)-Ae u,hd m N)=Ad (.next (out++(Ct key++f.flat),(Ae S:Int)-Ae s2,hd m (N+1))))∨(∃s3,s2=44::s3∧RLB m F S G (out,(Ae S:Int)-Ae u,hd m N)=Ad (.next (out++(Ct key++f.flat),(Ae S:Int)-Ae s3,hd m (N+1))))):=by
 have hsl:=hs.len;have hb0:RLB m F S G (out,(Ae S:Int)-Ae u,hd m N)=rMB [BY m] F S (Ks G) out ((Ae S:Int)-Ae u) (hd m N):=rfl;have hst:=EB (w:=[BY m]) hS Aj hs;have htest:rMB [BY m] F S (Ks G) out ((Ae S:Int)-Ae u) (hd m N)=By m (BB (Gn F S ((Ae S:Int)-Ae u)) λha=>Bc (imp (!(Ac (ha.2<0))) ((Cv S ha.2 ([58]:Aw)).isSome))<|By (((Ac (ha.2<0))||(!(ov (Cv S ha.2 ([58]:Aw)))))) (Ad (.out (.ret (([]:List Av),(-1))))) (Bc (De 40 (Ae out+Ae ([(Av.mk 4 0 ha.1 0)]:List Av)))<|Bc (BJ .i64 (ha.2+1))<|BB (Ks G S (ha.2+1)) λhb=>By (Ac (hb.2<0)) (Ad (.out (.ret (([]:List Av),(-1))))) (Bc (De 40 (Ae (out++([(Av.mk 4 0 ha.1 0)]:List Av))+hb.1.length))<|Bc (BJ .i64 (N+1))<|BB (Cv S hb.2 ([44]:Aw)) λhi=>By (hi) (Bc (BJ .i64 (hb.2+1))<|some (.next ((out++([(Av.mk 4 0 ha.1 0)]:List Av))++hb.1,hb.2+1,hd m (N+1)))) (BB (Cv S hb.2 [BY m]) λhj=>By (!hj) (Ad (.out (.ret (([]:List Av),(-1))))) (Ad (.next ((out++([(Av.mk 4 0 ha.1 0)]:List Av))++hb.1,hb.2,hd m (N+1)))))))) (BB (Ks G S ((Ae S:Int)-Ae u)) λhe=>By (Ac (he.2<0)) (Ad (.out (.ret (([]:List Av),(-1))))) (Bc (De 40 (Ae out+he.1.length))<|Bc (BJ .i64 (N+1))<|BB (Cv S he.2 ([44]:Aw)) λhk=>By (hk) (Bc (BJ .i64 (he.2+1))<|some (.next (out++he.1,he.2+1,hd m (N+1)))) (BB (Cv S he.2 [BY m]) λhl=>By (!hl) (Ad (.out (.ret (([]:List Av),(-1))))) (Ad (.next (out++he.1,he.2,hd m (N+1))))))):=by
  unfold rMB;rw[hst,Cn (p:=(Ad (pre [BY m] u).isSome).isSome) rfl,IS,Alt];rcases hA with h0 | ⟨hp,hc⟩
  ·rw[h0,Cn (p:=imp (!(!Ah)) _) rfl,Cn (p:=imp (!(!Ah)) _) rfl,AX (p:=!Ah||_) rfl];rfl
  ·have hcl:=hc.len;simp only[Aqp] at hcl;have hm:BA S ((Ae S:Int)-Ae u-1)=44:=by
    have:=Ga hc.get;rw[Aqp] at this;rw[show(Ae S:Int)-Ae u-1=(Ae S:Int)-((Ae u+1:Nat):Int) from Ab];exact this
   have hN':Ac (0<(hd m N).fN)=Af:=Aqo hp;rw[hN',hm,EV Ab Ab,L7 Ab Ab,Cn (p:=imp _ (imp Af Af)) (by cases(pre [BY m] u).isSome<;>rfl),Cn (p:=imp _ (imp Af Af)) (by cases(pre [BY m] u).isSome<;>rfl),AX (p:=_||(Af&&Ac ((44:Int)=44))) (by cases(pre [BY m] u).isSome<;>rfl)];rfl
 rw[hb0,htest];have hh:∀s2:Aw,(pre [44] s2).isSome=match s2 with | []=>Ah | c::_=>Ac (c=44):=λs2=>by
  rw[pre1]
  cases s2 with
  | nil=>rfl
  | cons c s3=>simp only;cases Ac (c=44)<;>rfl
 have pcl:∀s2:Aw,(pre [BY m] s2).isSome=match s2 with | []=>Ah | c::_=>Ac (c=BY m):=λs2=>by
  rw[pre1]
  cases s2 with
  | nil=>rfl
  | cons c s3=>simp only;cases Ac (c=BY m)<;>rfl
 have hcl44:Ac (BY m=44)=Ah:=by cases m<;>rfl
 cases m with
 | false=>
  rw[AF rfl];have hkp:GC Ah Ah Ai u=Ad (Ai,u):=rfl;rcases hR u hs (Aq7 _) with⟨f,s2,q1,q2,q3⟩ | ⟨q1,v,q2⟩
  ·have hfl:=(Hu Ah P).1 _ _ _ q1;have h2l:=q2.len;rw[q3,Bu rfl,AF (Aqn (by simp only;omega)),Pj (by simp only;omega),AH Ab Ab,EB hS Aj q2,Bu rfl,hh]
   cases s2 with
   | nil=>
    rw[AF rfl,EB hS Aj q2,Bu rfl,pcl];exact .inl ⟨[],rfl,.inr ⟨Ai,u,hkp,.inr ⟨f,[],q1,λc s3 e=>by cases e⟩⟩⟩
   | cons c s3=>
    simp only
    cases hf:Ac (c=44) with
    | true=>
     simp only[Aqq] at hf;subst hf;simp only[Aqp] at h2l;rw[AX rfl,AH (by simp only[Aqp];omega) (by simp only[Aqp];omega)];refine .inr ⟨Ai,u,f,_,hkp,q1,q2,.inr ⟨s3,rfl,?_⟩⟩;simp only[Aqp,Ct,AqH]
     congr 4
     omega
    | false=>
     rw[AF rfl,EB hS Aj q2,Bu rfl,pcl];simp only
     cases hcc:Ac (c=BY Ah) with
     | true=>
      simp only[Aqq] at hcc;subst hcc;exact .inr ⟨Ai,u,f,_,hkp,q1,q2,.inl ⟨s3,rfl,rfl⟩⟩
     | false=>exact .inl ⟨[],rfl,.inr ⟨Ai,u,hkp,.inr ⟨f,_,q1,λc' s3' e=>by cases e;exact⟨hcc,hf⟩⟩⟩⟩
  ·rw[q2,Bu rfl];exact .inl ⟨[],rfl,.inr ⟨Ai,u,hkp,.inl q1⟩⟩
 | true=>
  rw[AX rfl];rcases NQ hS hs hF with⟨r,t,w,e1,e2,e3,e4⟩ | ⟨e1,e2⟩
  ·have hwl:=e3.len;have hwl2:=Mq Ah _ r t w rfl e2;subst e1;have hul:Ae (34::r)=Ae r+1:=rfl;rw[e4,Bu rfl];have hkc:GC Ah Af Ai (34::r)=AlA t w:=by rw[Rs,e2];rfl
   have hlt:Ac ((Ae S:Int)-Ae w<0)=Ah:=Aqn Ab;simp only;rw[hlt,EB hS Aj e3,Cn (p:=imp (!Ah) (Ad (pre [58] w).isSome).isSome) rfl,IS,pre1]
   cases w with
   | nil=>exact .inl ⟨[],rfl,.inl (by rw[hkc];rfl)⟩
   | cons d s1=>
    simp only
    cases hg:Ac (d=58) with
    | false=>
     refine .inl ⟨[],rfl,.inl ?_⟩;rw[hkc];show(bif Ac (d=58) then _ else Ai)=Ai;rw[hg];rfl
    | true=>
     simp only[Aqq] at hg;subst hg;have hkp:GC Ah Af Ai (34::r)=Ad (Ad t,s1):=hkc;simp only[Aqp] at hwl hwl2;have hpos:(Ae S:Int)-Ae (58::s1)+1=Ae S-Ae s1:=by rw[Aqp];omega
     simp only[Aqv];rw[AF (p:=Ah||!(Ad s1).isSome) rfl,Pj (by rw[AqA];omega),hpos,AH Ab Ab];rcases hR s1 e3.tail Ab with⟨f,s2,q1,q2,q3⟩ | ⟨q1,v,q2⟩
     ·have hfl:=(Hu Ah P).1 _ _ _ q1;have h2l:=q2.len;rw[q3,Bu rfl,AF (Aqn (by simp only;omega)),Pj (by simp only[Aqs,AqA];omega),AH Ab Ab,EB hS Aj q2,Bu rfl,hh]
      cases s2 with
      | nil=>
       rw[AF rfl,EB hS Aj q2,Bu rfl,pcl];exact .inl ⟨[],rfl,.inr ⟨Ad t,s1,hkp,.inr ⟨f,[],q1,λc s3 e=>by cases e⟩⟩⟩
      | cons c s3=>
       simp only
       cases hf:Ac (c=44) with
       | true=>
        simp only[Aqq] at hf;subst hf;simp only[Aqp] at h2l;rw[AX rfl,AH (by simp only[Aqp];omega) (by simp only[Aqp];omega)];refine .inr ⟨Ad t,s1,f,_,hkp,q1,q2,.inr ⟨s3,rfl,?_⟩⟩;simp only[Aqp,Ct,Aq4]
        congr 4
        omega
       | false=>
        rw[AF rfl,EB hS Aj q2,Bu rfl,pcl];simp only
        cases hcc:Ac (c=BY Af) with
        | true=>
         simp only[Aqq] at hcc;subst hcc;exact .inr ⟨Ad t,s1,f,_,hkp,q1,q2,.inl ⟨s3,rfl,by rw[Aq4];rfl⟩⟩
        | false=>exact .inl ⟨[],rfl,.inr ⟨Ad t,s1,hkp,.inr ⟨f,_,q1,λc' s3' e=>by cases e;exact⟨hcc,hf⟩⟩⟩⟩
     ·rw[q2,Bu rfl];exact .inl ⟨[],rfl,.inr ⟨Ad t,s1,hkp,.inl q1⟩⟩
  ·rw[e2,Bu rfl];refine .inl ⟨[],?_,.inl (AdQ _ _ e1)⟩;rfl
theorem AfR (m:Bool)(last:Option Aw)(s:Aw):GC Ah m last s=GC Ah m Ai s:=by
 cases m with
 | false=>rfl
 | true=>
  cases s with
  | nil=>rfl
  | cons c r=>
   by_cases hc:c=34
   ·subst hc;rw[Rs,Rs]
    cases Eh Ah r with
    | none=>rfl
    | some q=>rfl
   ·show(bif Ac (c=34) then _ else Ai)=(bif Ac (c=34) then _ else Ai);rw[Aqn hc];rfl
theorem WH {G:Nat}{out:List Av}{N:Int}(hS:Ae S≤100000)(hs:GV (BY m::w) S)(hN0:0≤N)(h:N=0∨∃c,c≠44∧GV (c::BY m::w) S) :
  RLB m F S G (out,(Ae S:Int)-Ae (BY m::w),hd m N)=Ad (.out (.go (out,(Ae S:Int)-Ae (BY m::w),hd m N))):=by
 have hb0:RLB m F S G (out,(Ae S:Int)-Ae (BY m::w),hd m N)=rMB [BY m] F S (Ks G) out ((Ae S:Int)-Ae (BY m::w)) (hd m N):=rfl;rw[hb0];have hsl:=hs.len;have hp:pre [BY m] (BY m::w)=Ad w:=by rw[pre1];simp
 unfold rMB;rw[EB hS Aj hs,hp,Cn (p:=(Ad (Ad w).isSome).isSome) rfl,IS];rcases h with h0 | ⟨c,hc,hcs⟩
 ·subst h0;have e:Ac (0<(hd m 0).fN)=Ah:=rfl;rw[e];rfl
 ·have hcl:=hcs.len;simp only[Aqp] at hcl hsl;have hbt:BA S ((Ae S:Int)-Ae (BY m::w)-1)=c.toNat:=by
   have:=Ga hcs.get;rw[Aqp] at this;rw[show(Ae S:Int)-Ae (BY m::w)-1=(Ae S:Int)-((Ae (BY m::w)+1:Nat):Int) from Ab];exact this
  have ha:Ac ((c.toNat:Int)=44)=Ah:=Aqn (λe=>hc (by rw[← Ark];show c.toNat=44;omega));have i1:BJ .i64 ((Ae S:Int)-Ae (BY m::w)-1)=Af:=EV (by simp only[Aqp];omega) (by simp only[Aqp];omega);have i2:CE ((Ae S:Int)-Ae (BY m::w)-1) (Ae S:Int)=Af:=L7 (by simp only[Aqp];omega) Ab;rw[i1,i2,hbt,ha]
  cases Ac (0<(hd m N).fN)<;>rfl
def RLk (P:Nat)(m:Bool)(last:Option Aw)(S u:Aw)(out:List Av)(N:Int)(o:Out (List Av×Int) (List Av×Int×Av)):Prop:=
 (∃G w,Gw Ah P m last u=Ad (G,w)∧GV (BY m::w) S∧o = .go (out++G.flat,(Ae S:Int)-Ae (BY m::w),hd m (N+(G.cnt:Int))))∨(Gw Ah P m last u=Ai∧∃v,o = .ret (v,-1))
theorem AnW (hS:Ae S≤100000):∀n:Nat,
  (∀(F P:Nat) (u:Aw),Ae u=n→GV u S→Ae S+2*n+5<F→2*n+2≤P→ROk F P S u)∧
  (∀(m:Bool) (F G P L:Nat) (u:Aw) (last:Option Aw) (out:List Av) (N:Int),Ae u=n→GV u S→Ae S<F→Ae S+2*n+5<G→2*n+3≤P→n+1<L→Ae out+n≤Ae S→0≤N→N+n≤Ae S+1→((pre [BY m] u).isSome=Ah∨(0<N∧GV (44::u) S))→
   ∃o,Cp (RLB m F S G) L (out,(Ae S:Int)-Ae u,hd m N)=Ad o∧RLk P m last S u out N o):=by
 intro n
 induction n using Nat.strongRecOn with
 | ind n ih=>
 have hV:∀(F P:Nat) (u:Aw),Ae u=n→GV u S→Ae S+2*n+5<F→2*n+2≤P→ROk F P S u:=by
  intro F P u hn hs hF hP;obtain⟨F,rfl⟩:∃K,F=K+1:=⟨F-1,Ab⟩
  obtain⟨P,rfl⟩:∃K,P=K+1:=⟨P-1,Ab⟩
  have hsl:=hs.len;unfold ROk;rw[Ks];unfold AbL;rw[HU];have word:∀(w:Aw) (k:Nat) (r:Aw),pre w u=Ad r→Ae w=k→GV r S∧(Ae S:Int)-Ae u+k=Ae S-Ae r:=λw k r hp hk=>by
   have e:=EN hp;have hl:Ae u=Ae w+Ae r:=by rw[e];simp
   refine⟨?_,Ab⟩;rw[e] at hs;exact hs.app
  by_cases hu:u=[]
  ·subst hu;rw[AX (Aqo Aj)];exact .inr ⟨rfl,[],rfl⟩
  have hne:0<Ae u:=List.length_pos_iff.2 hu;rw[AF (Aqn Ab),EB hS Al hs,Bu rfl]
  cases h1:pre [110,117,108,108] u with
  | some r=>
   obtain⟨hr,hp⟩:=word _ 4 r h1 rfl;have hp:(Ae S:Int)-Ae u+4=Ae S-Ae r:=hp;rw[AX (p:=(Ad r).isSome) rfl,hp];refine .inl ⟨_,r,rfl,hr,?_⟩;show(BB (ZX) λr9=>Bc (BJ .i64 ((Ae S:Int)-Ae r))<|some (r9,(Ae S:Int)-Ae r))=_;unfold ZX;rw[Bu rfl,AH Ab Ab];rfl
  | none=>
  rw[AF (p:=(Ai:Option Aw).isSome) rfl,EB hS Al hs,Bu rfl];simp only
  cases h2:pre [116,114,117,101] u with
  | some r=>
   obtain⟨hr,hp⟩:=word _ 4 r h2 rfl;have hp:(Ae S:Int)-Ae u+4=Ae S-Ae r:=hp;rw[AX (p:=(Ad r).isSome) rfl,hp];refine .inl ⟨_,r,rfl,hr,?_⟩;show(BB (UO Af) λr9=>Bc (BJ .i64 ((Ae S:Int)-Ae r))<|some (r9,(Ae S:Int)-Ae r))=_;rw[show UO Af=Ad [⟨2,1,[],0⟩] from rfl,Bu rfl,AH Ab Ab];rfl
  | none=>
  rw[AF (p:=(Ai:Option Aw).isSome) rfl,EB hS Al hs,Bu rfl];simp only
  cases h3:pre [102,97,108,115,101] u with
  | some r=>
   obtain⟨hr,hp⟩:=word _ 5 r h3 rfl;have hp:(Ae S:Int)-Ae u+5=Ae S-Ae r:=hp;rw[AX (p:=(Ad r).isSome) rfl,hp];refine .inl ⟨_,r,rfl,hr,?_⟩;show(BB (UO Ah) λr9=>Bc (BJ .i64 ((Ae S:Int)-Ae r))<|some (r9,(Ae S:Int)-Ae r))=_;rw[show UO Ah=Ad [⟨2,0,[],0⟩] from rfl,Bu rfl,AH Ab Ab];rfl
  | none=>
  rw[AF (p:=(Ai:Option Aw).isSome) rfl];simp only
  cases u with
  | nil=>exact absurd rfl hu
  | cons c r=>
  have hbt:BA S ((Ae S:Int)-Ae (c::r))=c.toNat:=Ga hs.get;have hpos:(Ae S:Int)-Ae (c::r)+1=Ae S-Ae r:=by rw[Aqp];omega
  simp only[Aqp] at hn hsl;have hlt:(Ae S:Int)-Ae (c::r)<Ae S:=by rw[Aqp];omega
  have h0:0≤(Ae S:Int)-Ae (c::r):=by rw[Aqp];omega
  rw[Bi h0 hlt,hbt,Xx];simp only
  cases he:Ac (c=34) with
  | true=>
   rw[AX rfl];simp only[Aqq] at he;subst he;simp only[Aqv];rcases NQ hS hs (F:=F) Ab with⟨r',t,w,e1,e2,e3,e4⟩ | ⟨e1,e2⟩
   ·cases e1
    rw[e4,e2,Bu rfl];exact .inl ⟨_,w,rfl,e3,rfl⟩
   ·rw[e2,e1 r rfl,Bu rfl];exact .inr ⟨rfl,_,rfl⟩
  | false=>
  rw[AF rfl];simp only[Aqr];have hi:Ac ((c.toNat:Int)=91)=Ac (c=91):=by
   rw[Aq2,decide_eq_true_iff,decide_eq_true_iff,← Ark];show _↔c.toNat=91;omega
  have hh:Ac ((c.toNat:Int)=123)=Ac (c=123):=by
   rw[Aq2,decide_eq_true_iff,decide_eq_true_iff,← Ark];show _↔c.toNat=123;omega
  rw[hi,hh]
  cases hb:(Ac (c=91)||decide (c=123)) with
  | false=>
   rw[AF rfl];simp only[Aqr];rcases ZR (F:=F) hS hs Ab with⟨f,w,e1,e2,e3⟩ | ⟨e1,e2⟩
   ·rw[e3,Bu rfl];exact .inl ⟨f,w,e1,e2,rfl⟩
   ·rw[e2,Bu rfl];exact .inr ⟨e1,_,rfl⟩
  | true=>
  rw[AX rfl];simp only[Aqv];obtain⟨F,rfl⟩:∃K,F=K+1:=⟨F-1,Ab⟩
  have hmany:∀m:Bool,Ac (c=123)=m→(∃f w,VJ Ah P m r=Ad (f,w)∧GV w S∧G5 (F+1) S ((Ae S:Int)-Ae (c::r))=Ad (f.flat,(Ae S:Int)-Ae w))∨(VJ Ah P m r=Ai∧∃v,G5 (F+1) S ((Ae S:Int)-Ae (c::r))=Ad (v,-1)):=λm hm=>by
   have hrun:G5 (F+1) S ((Ae S:Int)-Ae (c::r))=BB (Cp (RLB m F S F) F ([],(Ae S:Int)-Ae r,hd m 0)) (Cb λν=>(Bc (De 40 (Ae ([ν.2.2]:List Av)+Ae ν.1))<|Bc (BJ .i64 (ν.2.1+1))<|some (([ν.2.2]:List Av)++ν.1,ν.2.1+1))):=by
    rw[G5];unfold MX;rw[Bi h0 hlt,hbt,hh,hm,hpos]
    cases m with
    | true=>rw[AX rfl,AH Ab Ab];rfl
    | false=>rw[AF rfl,AH Ab Ab];rfl
   have hend:∀(g:Fo) (w:Aw) (o:Out (List Av×Int) (List Av×Int×Av)),GV (BY m::w) S→Ae g.flat≤200000→o = .go ([]++g.flat,(Ae S:Int)-Ae (BY m::w),hd m (0+(g.cnt:Int)))→Cb (λν:List Av×Int×Av=>(Bc (De 40 (Ae ([ν.2.2]:List Av)+Ae ν.1))<|Bc (BJ .i64 (ν.2.1+1))<|some (([ν.2.2]:List Av)++ν.1,ν.2.1+1))) o=Ad ((nd m g).flat,(Ae S:Int)-Ae w):=λg w o hsw hgl ho=>by
    have hwl:=hsw.len;simp only[Aqp] at hwl;rw[ho,EX,Nq _ _ LR,AqH];simp only;rw[Pj (by rw[AqA];omega),show(Ae S:Int)-Ae (BY m::w)+1=Ae S-Ae w from by rw[Aqp];omega,AH Ab Ab,Int.zero_add];rfl
   rw[hrun]
   by_cases hcl:∃w,r=BY m::w
   ·obtain⟨w,rfl⟩:=hcl;obtain⟨F',rfl⟩:∃K,F=K+1:=⟨F-1,Ab⟩
    have hg:=WH (F:=F'+1) (G:=F'+1) (out:=[]) (N:=0) hS hs.tail (Aq8 0) (.inl rfl);rw[Bu (EK hg)];refine .inl ⟨nd m .nil,w,?_,hs.tail.tail,?_⟩
    ·rw[Po,Aqo rfl];rfl
    ·exact hend .nil w _ hs.tail (AqL _) rfl
   ·have hA:(pre [BY m] r).isSome=Ah:=by
     rw[pre1]
     cases r with
     | nil=>rfl
     | cons d r'=>
      simp only
      by_cases hd':d=BY m
      ·exact absurd ⟨r',by rw[hd']⟩ hcl
      ·rw[Aqn hd'];rfl
    obtain⟨o,ho1,ho2⟩:=(ih (Ae r) Ab).2 m F F P F r Ai [] 0 rfl hs.tail Ab Ab Ab Ab Am (Aq8 0) Ab (.inl hA);rw[Bu ho1];have hbk:VJ Ah P m r=match Gw Ah P m Ai r with
      | none=>Ai
      | some (g,u)=>Ad (nd m g,u):=by
     cases r with
     | nil=>
      have:Gw Ah P m Ai []=Ai:=by
       cases hp:Gw Ah P m Ai [] with
       | none=>rfl
       | some q=>obtain⟨g,u⟩:=q;exact absurd ((GM Ah P).2 _ _ _ _ _ hp).1 Aj
      rw[this];rfl
     | cons d r'=>
      rw[Po]
      by_cases hd':d=BY m
      ·exact absurd ⟨r',by rw[hd']⟩ hcl
      ·rw[Aqn hd'];rfl
    rw[hbk];rcases ho2 with⟨g,w,q1,q2,q3⟩ | ⟨q1,v,q2⟩
    ·rw[q1];have hgl:=(Hu Ah P).2 _ _ _ _ _ q1;exact .inl ⟨_,w,rfl,q2.tail,hend g w o q2 Ab q3⟩
    ·rw[q1,q2];exact .inr ⟨rfl,v,rfl⟩
  have hgoal:(∃f w,VJ Ah P (Ac (c=123)) r=Ad (f,w)∧GV w S∧(BB (G5 (F+1) S ((Ae S:Int)-Ae (c::r))) λha=>Ad (ha.1,ha.2))=Ad (f.flat,(Ae S:Int)-Ae w))∨(VJ Ah P (Ac (c=123)) r=Ai∧∃v,(BB (G5 (F+1) S ((Ae S:Int)-Ae (c::r))) λha=>Ad (ha.1,ha.2))=Ad (v,-1)):=by
   rcases hmany (Ac (c=123)) rfl with⟨f,w,q1,q2,q3⟩ | ⟨q1,v,q2⟩
   ·rw[q3,Bu rfl];exact .inl ⟨f,w,q1,q2,rfl⟩
   ·rw[q2,Bu rfl];exact .inr ⟨q1,v,rfl⟩
  cases r with
  | nil=>exact hgoal
  | cons d r'=>exact hgoal
 refine⟨hV,?_⟩;intro m F G P L u last out N hn hs hF hG hP hL hb hN0 hN hA;obtain⟨P,rfl⟩:∃K,P=K+1:=⟨P-1,Ab⟩
 obtain⟨L,rfl⟩:∃K,L=K+1:=⟨L-1,Ab⟩
 have hsl:=hs.len;have hR:∀w,GV w S→Ae w≤Ae u→ROk G P S w:=λw hw hwl=>by
  rcases Nat.lt_or_eq_of_le hwl with h | h
  ·exact(ih (Ae w) Ab).1 G P w rfl hw Ab Ab
  ·exact hV G P w Ab hw Ab Ab
 unfold RLk;rw[Gj,AfR];rcases AeT (P:=P) (N:=N) (out:=out) hS hs hF hN0 Ab Ab hA hR with⟨v,hb1,hf⟩ | ⟨key,s1,f,s2,k1,k2,k3,h⟩
 ·refine⟨_,EK hb1,.inr ⟨?_,v,rfl⟩⟩;rcases hf with hf | ⟨key,s1,hk,hf | ⟨f,s2,hf,hno⟩⟩
  ·rw[hf]
  ·rw[hk];simp only[hf]
  ·rw[hk];simp only[hf]
   cases s2 with
   | nil=>rfl
   | cons c s3=>
    obtain⟨a,b⟩:=hno c s3 rfl;simp only[a,b,Aqr]
 ·obtain⟨l1,ho⟩:=(GM Ah P).1 _ _ _ k2;have l2:=(Hu Ah P).1 _ _ _ k2;have l3:=Xt k1;rw[k1];simp only[k2];rcases h with⟨s3,e,hb1⟩ | ⟨s3,e,hb1⟩
  ·subst e;obtain⟨L,rfl⟩:∃K,L=K+1:=⟨L-1,Ab⟩
   obtain⟨pp,c,e,hc⟩:=(Aal Ah P).1 _ _ _ k2;obtain⟨p1,e1⟩:=AaI k1;have hcs:GV (c::BY m::s3) S:=by
    obtain⟨q,e2⟩:=hs;exact⟨q++p1++pp,by rw[e2,e1,e];simp⟩
   have hg:=WH (F:=F) (G:=G) (out:=out++(Ct key++f.flat)) (N:=N+1) hS k3 Ab (.inr ⟨c,hc,hcs⟩);refine⟨_,Jm hb1 (EK hg),.inl ⟨f.put key .nil,s3,?_,k3,?_⟩⟩
   ·simp only[decide_true,Aqv]
   ·rw[HT ho,TC ho];simp only[Fo.flat,Fo.cnt,AqJ]
    congr 4
  ·subst e;have hj:Ac ((44:UInt8)=BY m)=Ah:=by cases m<;>rfl
   simp only[Aqp] at l1 l2;obtain⟨o,ho1,ho2⟩:=(ih (Ae s3) Ab).2 m F G P L s3 key (out++(Ct key++f.flat)) (N+1) rfl k3.tail hF Ab Ab Ab (by rw[Aqs,Aqs];omega) Ab Ab (.inr ⟨Ab,k3⟩);refine⟨o,Jm hb1 ho1,?_⟩;simp only[hj,Aqr,decide_true,Aqv];rcases ho2 with⟨g,w,q1,q2,q3⟩ | ⟨q1,v,q2⟩
   ·rw[q1];refine .inl ⟨f.put key g,w,rfl,q2,?_⟩;rw[q3,HT ho,TC ho];simp only[Aq4]
    congr 4
    omega
   ·rw[q1];exact .inr ⟨rfl,v,q2⟩
theorem Ah5 (hS:Ae S≤100000)(hF:3*Ae S+6≤F)(hP:2*Ae S+2≤P):ROk F P S S:=
 (AnW hS (Ae S)).1 F P S rfl ⟨[],rfl⟩ Ab hP
end Go.Proofs.YtiddaamglmmnaaaGreatDoor
