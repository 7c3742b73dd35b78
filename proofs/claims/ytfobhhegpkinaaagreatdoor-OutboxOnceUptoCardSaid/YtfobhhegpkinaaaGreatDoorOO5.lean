/-
  Texts of the proof, put together: WOf, OkOutboxOnce, LvA, LvB, LvC, LvD, LvE, LvF, LvG, LvH, LvI, LvJ, LvK, LvL, LvM, LvN, LvO, LvP, LdA, LdB, LdC, LdD, LdE, LdF, LdG, LdH, LdI, LdJ.
-/
import Derived.Test.YtfobhhegpkinaaaGreatDoorOO4
import GoSem.ClaimData
namespace Go.Proofs.YtfobhhegpkinaaaGreatDoor.Q
open Go Go.RowKit
set_option linter.unusedVariables false
set_option linter.unusedSimpArgs false
set_option maxRecDepth 100000
set_option maxHeartbeats 4000000
theorem AaJ (F:Nat)(l:(List Bb))(tenant:Aj)(r:Bool)(h:PU F l tenant=some r):Fn Tryz.prog GE 6 [Be 9 (A8 AL l),rS tenant] [] (λR H=>R=rB r∧H=[]):=by
 refine enter (n:=203) Tryz.func6 Aa Tryz.ntmps6 Aa (λw Z=>?_);unfold PU at h;refine Am (wa Aa (Ax (Aq (Am (wm Aa (wv (By (ys:=l) (enc:=AL) HH Aa) (wv (Ec Aa Aa) (Ax (cz h Aa (λc1 h2=>?_) (λc1 h6=>?_))))))))))
 ·refine Am (ob h2 λr3 e5 h4=>DM Tryz.call8 (PW F r3 e5) Aa (wa Aa (Ax (A6 (Ae ?_)))));obtain rfl:=AA h4;exact A5 (Cp YX (AT Aa)) sN ⟨Aa,Aa⟩
 refine A0 (AY (Am (ob h6 λr7 e9 h8=>Du [] Tryz.call9 (Vv r7 e9) ?_)));rintro _ _ ⟨hg,gP,he,hf,gQ,rfl,rfl⟩;refine wa Aa (B3 (Bf (ys:=([]:List Aj)) (enc:=eS) (css:=[]) (xs:=[]) C7 BS Tk Aa Aa Aa trivial Aa Di Aa Aa Aa (λcj=>?_)));refine wa Aa (Ax (Aq (Am (wa Aa (Ax (AO (HJ (H2:=[.blk hg [rB r7.fMade,rv gP,rv (.map (some he)),rv (.map (some hf)),rv gQ] 59,.map he (AF Ak r7.fResults),.map hf (AF Ad r7.fKeys),.row (.slice (some ⟨cj,0,none⟩) 0 0) 9 1 (A8 eS ([]:List Aj)),.row gP 9 1 (A8 eS r7.fEvents),.row gQ 67 8 (A8 Ab r7.fPending)]) ((AS (i:=1) Aa).trans (Agk _ ((AS (i:=2) Aa).trans (Agk _ ((AS (i:=2) Aa).trans (Agk _ (Agn _))))))) (ob h8 λcG cH hZ=>B5 (S:=Nat×((List Aj)×Int×Bool×(List Aj)×(List An)×(List (Aj×(List Ac)))×(List (Aj×(List (Aj×Ai)))))×(Value×Value×Value)) (V:=(Unit)×(Unit)) 0 (λσ=>Cj (λσ=>E9 F l tenant σ.1 σ.2.1 σ.2.2.1 σ.2.2.2.1 σ.2.2.2.2.1 σ.2.2.2.2.2.1 σ.2.2.2.2.2.2) σ.1 σ.2.1=some cG) (λσ=>[(0,Be 9 (A8 AL l)),(1,rS tenant),(5,rP hg 0),(6,rv σ.2.2.1),(7,A4 σ.2.1.2.1)]) (λσ=>[.blk hg [rB σ.2.1.2.2.1,rv σ.2.2.2.1,rv (.map (some he)),rv (.map (some hf)),rv σ.2.2.2.2] 59,.map he (AF Ak σ.2.1.2.2.2.2.2.1),.map hf (AF Ad σ.2.1.2.2.2.2.2.2),.row σ.2.2.1 9 1 (A8 eS σ.2.1.1),.row σ.2.2.2.1 9 1 (A8 eS σ.2.1.2.2.2.1),.row σ.2.2.2.2 67 8 (A8 Ab σ.2.1.2.2.2.2.1)]) (λσ=>σ.1) (F,(([]:List Aj),0,r7.fMade,r7.fEvents,r7.fPending,r7.fResults,r7.fKeys),((.slice (some ⟨cj,0,none⟩) 0 0),gP,gQ)) cH (AI.c5 Aa Aa Aa Aa Aa AI.nil) (sC (sC (sC (sC (sC (sC sN)))))) (λσ=>He F =some r) (λσ=>[]) (λσ=>[]) ?_ ?_))))))))
 ·rintro⟨rQ,⟨hh,ha,gz,g0,g1,g2,g3⟩,⟨hn,g4,g5⟩⟩ cI;refine EL ?_;obtain⟨cJ,rfl,hK,g6,hY⟩:=CM cI;replace g6:E9 F l tenant hh ha gz g0 g1 g2 g3=some hK:=g6;unfold E9 at g6;refine Aq (Am (wm Aa (wm Aa (wv (By (ys:=l) (enc:=AL) HH Aa) (wv (De Aa Aa) (Ax (cz g6 Aa (λcK cL=>?_) (λcK cM=>?_))))))))
  ·refine A0 (AY (Cg (S:=((List Aj)×Bool×(List Aj)×(List An)×(List (Aj×(List Ac)))×(List (Aj×(List (Aj×Ai)))))×(Value×Value×Value)) (λσ=>DK ha σ.1.1 σ.1.2.1 σ.1.2.2.1 σ.1.2.2.2.1 σ.1.2.2.2.2.1 σ.1.2.2.2.2.2=some hK) (λσ=>[(0,Be 9 (A8 AL l)),(1,rS tenant),(5,rP hg 0),(6,rv σ.2.1),(7,A4 ha)]) (λσ=>[.blk hg [rB σ.1.2.1,rv σ.2.2.1,rv (.map (some he)),rv (.map (some hf)),rv σ.2.2.2] 59,.map he (AF Ak σ.1.2.2.2.2.1),.map hf (AF Ad σ.1.2.2.2.2.2),.row σ.2.1 9 1 (A8 eS σ.1.1),.row σ.2.2.1 9 1 (A8 eS σ.1.2.2.1),.row σ.2.2.2 67 8 (A8 Ab σ.1.2.2.2.1)]) ?_ ?_))
   ·refine AO (Am (wm Aa (ob cL λgc cN cO=>Du [0,3,0,0,1] Pg (D1 F hg g4 he hf g5 (Ao.mk gz g0 g2 g3 g1) gc cN) ?_)));rintro _ _ ⟨rfl,rfl⟩;refine wa Aa (B3 (wm Aa (wm Aa (ob cO λgg cP cQ=>Du [0,0,0,0,0] Xp (Jr F hg g4 he hf g5 (Ao.mk gz g0 g2 g3 g1) tenant gg cP) ?_))));rintro _ _ ⟨rfl,rfl⟩;refine wa Aa (B3 (wm Aa (ob cQ λgd cR cS=>Du [0,0,0,0,0] QB (Eg hg g4 he hf g5 (Ao.mk gz g0 g2 g3 g1) gd cR) ?_)));rintro _ _ ⟨rfl,rfl⟩;refine wa Aa (B3 (wm Aa (wm Aa (wm Aa (ck cS λh7 cT=>wv (AU (enc:=AL) (ys:=l) HH HI Aa Aa h7) (wv (Av Ga Aa DY Aa Aa) (wv (Av CB Aa BS Aa Aa) (wv (AH Cf Aa Aa) (ob cT λhm cU cV=>DM Mg (Kc F gd (((Al l ha).fC).fEvent) hm cU) Aa (wa Aa (B3 (wm Aa (wm Aa (wv (AU (enc:=AL) (ys:=l) HH HI Aa Aa h7) (wv (Av Ga Aa BS Aa Aa) (wv (AH Cf Aa Aa) (wa Aa (Ax (Aq (Am (wm Aa ?_)))))))))))))))))))));refine wm Aa (wv (AU (enc:=AL) (ys:=l) HH HI Aa Aa h7) (wv (Av Ga Aa C2 Aa Aa) (wv (AH CO Aa Aa) (wv (BT Aa Aa) (Ax (cz cV Aa (λgy cW=>?_) (λgy cX=>?_)))))))
    ·refine Ap (wm Aa (wm Aa (wm Aa (wv (AU (enc:=AL) (ys:=l) HH HI Aa Aa h7) (wv (Av Ga Aa C2 Aa Aa) (wv (AH CO Aa Aa) (ob cW λhz cY cZ=>DM Tryz.call32 (Uk gc ((Al l ha).fN) hz cY) Aa (wa Aa (B3 (wm Aa (wm Aa (wm Aa (wv (AU (enc:=AL) (ys:=l) HH HI Aa Aa h7) (wv (DB Tryz.isAgg36 HI Aa Aa Aa) (ob cZ λhb xa xb=>Du [0,0,0,0,0] Tryz.call11 (WB F hg g4 he hf g5 (Ao.mk gz g0 g2 g3 g1) (Bb.mk ((Al l ha).fKind) ((Al l ha).fC) ((Al l ha).fS) ((Al l ha).fN)) hb xa) ?_)))))))))))))));rintro _ _ ⟨hi,hj,rfl,rfl⟩;refine wm Aa (wv (AD Aa Aa) (wv (AD Aa Aa) (wa Aa (wa Aa (Ax (Aq (Cg (S:=(Bool)×(Unit)) (λσ=>E8 F l tenant hh ha gc gg gd hm hz hb σ.1=some hK) (λσ=>[(0,Be 9 (A8 AL l)),(1,rS tenant),(5,rP hg 0),(6,rv hn),(7,A4 ha),(8,Be 8 (A8 Ab gc)),(9,Be 3 (A8 Bz gg)),(10,Be 1 (A8 eS gd)),(11,rB hm),(12,rS hz),(13,rB hb.1),(14,A4 hb.2.1),(95,rB σ.1)]) (λσ=>[.blk hg [rB hb.2.2.fMade,rv hi,rv (.map (some he)),rv (.map (some hf)),rv hj] 59,.row hi 9 1 (A8 eS hb.2.2.fEvents),.map he (AF Ak hb.2.2.fResults),.map hf (AF Ad hb.2.2.fKeys),.row hj 67 8 (A8 Ab hb.2.2.fPending),.row hn 9 1 (A8 eS hh)]) ?_ ?_)))))))
     ·refine bz xb (λh0 xc=>?_) (λh0 xd=>?_)
      ·refine bz xc (λh9 xe=>?_) (λh9 xf=>?_)
       ·refine EG 20 [] [0,1,5,6,7,8,9,10,11,12,13,14] [] [{ deps:=[],r:=λ_=>rB hb.1 },{ deps:=[0],r:=λ_=>rB hb.1 },{ deps:=[1],r:=λ_=>rB hm },{ deps:=[2,1],r:=λ_=>rB hm },{ deps:=[3],r:=λ_=>rv undef },{ deps:=[3],r:=λ_=>rv undef },{ deps:=[4,5,3],r:=λ_=>rv undef },{ deps:=[6,3],r:=λ_=>rv undef },{ deps:=[7,3],r:=λ_=>rv undef },{ deps:=[8,3],r:=λ_=>rv undef },{ deps:=[3,9,1],r:=λ_=>rB true },{ deps:=[10,1],r:=λ_=>rB true },{ deps:=[11],r:=λ_=>rv undef },{ deps:=[12,11],r:=λ_=>rv undef },{ deps:=[11],r:=λ_=>rv undef },{ deps:=[11],r:=λ_=>rv undef },{ deps:=[14,15,11],r:=λ_=>rv undef },{ deps:=[16,11],r:=λ_=>rv undef },{ deps:=[17,11],r:=λ_=>rv undef },{ deps:=[18,11],r:=λ_=>rv undef }] [λ_=>[.blk hg [rB hb.2.2.fMade,rv hi,rv (.map (some he)),rv (.map (some hf)),rv hj] 59,.row hi 9 1 (A8 eS hb.2.2.fEvents),.map he (AF Ak hb.2.2.fResults),.map hf (AF Ad hb.2.2.fKeys),.row hj 67 8 (A8 Ab hb.2.2.fPending),.row hn 9 1 (A8 eS hh)]] ⟨B2,B2,B2,B2,B2,B2,B2,B2,B2,B2,B2,B2,B2,B2,B2,B2,B2,B2,B2,B2,trivial⟩ ?_ (λu=>?_)
        ·exact B6 (fun {u _}=>Bg (Ah Aa)) (B6 (fun {u _}=>Bg (Ah Aa)) (B6 (fun {u _}=>Bv (b:=hb.1) Aa Aa h0 (Bg (Ah Aa))) (B6 (fun {u _}=>Bv (b:=hb.1) Aa Aa h0 (Bg (Ah Aa))) (B6 (fun {u _}=>Br (b:=hm) Aa Aa h9) (B6 (fun {u _}=>Br (b:=hm) Aa Aa h9) (B6 (fun {u _}=>Br (b:=hm) Aa Aa h9) (B6 (fun {u _}=>Br (b:=hm) Aa Aa h9) (B6 (fun {u _}=>Br (b:=hm) Aa Aa h9) (B6 (fun {u _}=>Br (b:=hm) Aa Aa h9) (B6 (fun {u _}=>Bv (b:=hb.1) Aa Aa h0 (Bg (r:=rB true) (A3 (b:=hm) Aa h9 Aa))) (B6 (fun {u _}=>Bv (b:=hb.1) Aa Aa h0 (Bg (Ah Aa))) (B6 (fun {u _}=>Br (b:=true) Aa Aa Aa) (B6 (fun {u _}=>Br (b:=true) Aa Aa Aa) (B6 (fun {u _}=>Br (b:=true) Aa Aa Aa) (B6 (fun {u _}=>Br (b:=true) Aa Aa Aa) (B6 (fun {u _}=>Br (b:=true) Aa Aa Aa) (B6 (fun {u _}=>Br (b:=true) Aa Aa Aa) (B6 (fun {u _}=>Br (b:=true) Aa Aa Aa) (B6 (fun {u _}=>Br (b:=true) Aa Aa Aa) (US))))))))))))))))))))
        refine Cr (H1:=[.blk hg [rB hb.2.2.fMade,rv hi,rv (.map (some he)),rv (.map (some hf)),rv hj] 59,.row hi 9 1 (A8 eS hb.2.2.fEvents),.map he (AF Ak hb.2.2.fResults),.map hf (AF Ad hb.2.2.fKeys),.row hj 67 8 (A8 Ab hb.2.2.fPending),.row hn 9 1 (A8 eS hh)]) [72,73,74,75,76,77,78,79,80,81,82,83,84,85,86,87,88,89,90,91,0,1,5,6,7,8,9,10,11,12,13,14] ?_;exact wz Aa Aa (wz Aa Aa (wo h0 (wv (r:=rB true) (A3 (b:=true) Aa Aa Aa) (GC Aa h0 Aa (Ar (A1 (AG (true,()) xe (AI.c Aa (AI.c Aa (AI.c Aa (AI.c5 Aa Aa Aa Aa Aa (AI.c5 Aa Aa Aa Aa Aa AI.nil))))) (sC (sC (sC (sC (sC (sC sN)))))))))))))
       refine bz xf (λh3 xg=>?_) (λh3 xh=>?_)
       ·refine EG 20 [] [0,1,5,6,7,8,9,10,11,12,13,14] [] [{ deps:=[],r:=λ_=>rB hb.1 },{ deps:=[0],r:=λ_=>rB hb.1 },{ deps:=[1],r:=λ_=>rB hm },{ deps:=[2,1],r:=λ_=>rB hm },{ deps:=[3],r:=λ_=>Be 9 (A8 AL l) },{ deps:=[3],r:=λ_=>A4 ha },{ deps:=[4,5,3],r:=λ_=>I4 [A4 ((Al l ha).fKind),rS (((Al l ha).fC).fEvent),rS (((Al l ha).fC).fTenant),A4 (((Al l ha).fC).fAttempt),Be 4 (A8 Af (((Al l ha).fC).fResult)),Be 4 (A8 Au (((Al l ha).fC).fEffects)),A4 (((Al l ha).fC).fAt),rS ((Al l ha).fS),A4 ((Al l ha).fN)] },{ deps:=[6,3],r:=λ_=>I4 [A4 ((Al l ha).fKind),rS (((Al l ha).fC).fEvent),rS (((Al l ha).fC).fTenant),A4 (((Al l ha).fC).fAttempt),Be 4 (A8 Af (((Al l ha).fC).fResult)),Be 4 (A8 Au (((Al l ha).fC).fEffects)),A4 (((Al l ha).fC).fAt),rS ((Al l ha).fS),A4 ((Al l ha).fN)] },{ deps:=[7,3],r:=λ_=>A4 ((Al l ha).fKind) },{ deps:=[8,3],r:=λ_=>rB (!decide (((Al l ha).fKind)=0)) },{ deps:=[3,9,1],r:=λ_=>rB (!decide (((Al l ha).fKind)=0)) },{ deps:=[10,1],r:=λ_=>rB (!decide (((Al l ha).fKind)=0)) },{ deps:=[11],r:=λ_=>rv undef },{ deps:=[12,11],r:=λ_=>rv undef },{ deps:=[11],r:=λ_=>rv undef },{ deps:=[11],r:=λ_=>rv undef },{ deps:=[14,15,11],r:=λ_=>rv undef },{ deps:=[16,11],r:=λ_=>rv undef },{ deps:=[17,11],r:=λ_=>rv undef },{ deps:=[18,11],r:=λ_=>rv undef }] [λ_=>[.blk hg [rB hb.2.2.fMade,rv hi,rv (.map (some he)),rv (.map (some hf)),rv hj] 59,.row hi 9 1 (A8 eS hb.2.2.fEvents),.map he (AF Ak hb.2.2.fResults),.map hf (AF Ad hb.2.2.fKeys),.row hj 67 8 (A8 Ab hb.2.2.fPending),.row hn 9 1 (A8 eS hh)]] ⟨B2,B2,B2,B2,B2,B2,B2,B2,B2,B2,B2,B2,B2,B2,B2,B2,B2,B2,B2,B2,trivial⟩ ?_ (λu=>?_)
        ·exact B6 (fun {u _}=>Bg (Ah Aa)) (B6 (fun {u _}=>Bg (Ah Aa)) (B6 (fun {u _}=>Bv (b:=hb.1) Aa Aa h0 (Bg (Ah Aa))) (B6 (fun {u _}=>Bv (b:=hb.1) Aa Aa h0 (Bg (Ah Aa))) (B6 (fun {u _}=>Bv (b:=hm) Aa Aa h9 (Bg (Ah Aa))) (B6 (fun {u _}=>Bv (b:=hm) Aa Aa h9 (Bg (Ah Aa))) (B6 (fun {u _}=>Bv (b:=hm) Aa Aa h9 (Bg (AU (enc:=AL) (ys:=l) HH HI Aa Aa h7))) (B6 (fun {u _}=>Bv (b:=hm) Aa Aa h9 (Bg (Av Ga Aa C2 Aa Aa))) (B6 (fun {u _}=>Bv (b:=hm) Aa Aa h9 (Bg (AH CO Aa Aa))) (B6 (fun {u _}=>Bv (b:=hm) Aa Aa h9 (Bg (Cl Aa Aa))) (B6 (fun {u _}=>Bv (b:=hb.1) Aa Aa h0 (Bg (Ay Aa h9 Aa))) (B6 (fun {u _}=>Bv (b:=hb.1) Aa Aa h0 (Bg (Ah Aa))) (B6 (fun {u _}=>Br (b:=!decide (((Al l ha).fKind)=0)) Aa Aa h3) (B6 (fun {u _}=>Br (b:=!decide (((Al l ha).fKind)=0)) Aa Aa h3) (B6 (fun {u _}=>Br (b:=!decide (((Al l ha).fKind)=0)) Aa Aa h3) (B6 (fun {u _}=>Br (b:=!decide (((Al l ha).fKind)=0)) Aa Aa h3) (B6 (fun {u _}=>Br (b:=!decide (((Al l ha).fKind)=0)) Aa Aa h3) (B6 (fun {u _}=>Br (b:=!decide (((Al l ha).fKind)=0)) Aa Aa h3) (B6 (fun {u _}=>Br (b:=!decide (((Al l ha).fKind)=0)) Aa Aa h3) (B6 (fun {u _}=>Br (b:=!decide (((Al l ha).fKind)=0)) Aa Aa h3) (US))))))))))))))))))))
        refine Cr (H1:=[.blk hg [rB hb.2.2.fMade,rv hi,rv (.map (some he)),rv (.map (some hf)),rv hj] 59,.row hi 9 1 (A8 eS hb.2.2.fEvents),.map he (AF Ak hb.2.2.fResults),.map hf (AF Ad hb.2.2.fKeys),.row hj 67 8 (A8 Ab hb.2.2.fPending),.row hn 9 1 (A8 eS hh)]) [72,73,74,75,76,77,78,79,80,81,82,83,84,85,86,87,88,89,90,91,0,1,5,6,7,8,9,10,11,12,13,14] ?_;exact wf h3 (wf h3 (wo h0 (wv (r:=rB true) (A3 Aa h3 Aa) (GC Aa h0 Aa (Ar (A1 (AG (true,()) xg (AI.c Aa (AI.c Aa (AI.c Aa (AI.c5 Aa Aa Aa Aa Aa (AI.c5 Aa Aa Aa Aa Aa AI.nil))))) (sC (sC (sC (sC (sC (sC sN)))))))))))))
       refine ob xh λgR xi xj=>EG 20 [] [0,1,5,6,7,8,9,10,11,12,13,14] [] [{ deps:=[],r:=λ_=>rB hb.1 },{ deps:=[0],r:=λ_=>rB hb.1 },{ deps:=[1],r:=λ_=>rB hm },{ deps:=[2,1],r:=λ_=>rB hm },{ deps:=[3],r:=λ_=>Be 9 (A8 AL l) },{ deps:=[3],r:=λ_=>A4 ha },{ deps:=[4,5,3],r:=λ_=>I4 [A4 ((Al l ha).fKind),rS (((Al l ha).fC).fEvent),rS (((Al l ha).fC).fTenant),A4 (((Al l ha).fC).fAttempt),Be 4 (A8 Af (((Al l ha).fC).fResult)),Be 4 (A8 Au (((Al l ha).fC).fEffects)),A4 (((Al l ha).fC).fAt),rS ((Al l ha).fS),A4 ((Al l ha).fN)] },{ deps:=[6,3],r:=λ_=>I4 [A4 ((Al l ha).fKind),rS (((Al l ha).fC).fEvent),rS (((Al l ha).fC).fTenant),A4 (((Al l ha).fC).fAttempt),Be 4 (A8 Af (((Al l ha).fC).fResult)),Be 4 (A8 Au (((Al l ha).fC).fEffects)),A4 (((Al l ha).fC).fAt),rS ((Al l ha).fS),A4 ((Al l ha).fN)] },{ deps:=[7,3],r:=λ_=>A4 ((Al l ha).fKind) },{ deps:=[8,3],r:=λ_=>rB (!decide (((Al l ha).fKind)=0)) },{ deps:=[3,9,1],r:=λ_=>rB (!decide (((Al l ha).fKind)=0)) },{ deps:=[10,1],r:=λ_=>rB (!decide (((Al l ha).fKind)=0)) },{ deps:=[11],r:=λ_=>rP hg 0 },{ deps:=[12,11],r:=λ_=>Be 1 (A8 eS gR),fx:=true },{ deps:=[11],r:=λ_=>Be 9 (A8 AL l) },{ deps:=[11],r:=λ_=>A4 ha },{ deps:=[14,15,11],r:=λ_=>I4 [A4 ((Al l ha).fKind),rS (((Al l ha).fC).fEvent),rS (((Al l ha).fC).fTenant),A4 (((Al l ha).fC).fAttempt),Be 4 (A8 Af (((Al l ha).fC).fResult)),Be 4 (A8 Au (((Al l ha).fC).fEffects)),A4 (((Al l ha).fC).fAt),rS ((Al l ha).fS),A4 ((Al l ha).fN)] },{ deps:=[16,11],r:=λ_=>I4 [rS (((Al l ha).fC).fEvent),rS (((Al l ha).fC).fTenant),A4 (((Al l ha).fC).fAttempt),Be 4 (A8 Af (((Al l ha).fC).fResult)),Be 4 (A8 Au (((Al l ha).fC).fEffects)),A4 (((Al l ha).fC).fAt),rS ((Al l ha).fS),A4 ((Al l ha).fN)] },{ deps:=[17,11],r:=λ_=>I4 [rS (((Al l ha).fC).fEvent),rS (((Al l ha).fC).fTenant),A4 (((Al l ha).fC).fAttempt),Be 4 (A8 Af (((Al l ha).fC).fResult)),Be 4 (A8 Au (((Al l ha).fC).fEffects)),A4 (((Al l ha).fC).fAt),rS ((Al l ha).fS),A4 ((Al l ha).fN)] },{ deps:=[18,11],r:=λ_=>rS (((Al l ha).fC).fEvent) }] [λ_=>[.blk hg [rB hb.2.2.fMade,rv hi,rv (.map (some he)),rv (.map (some hf)),rv hj] 59,.row hi 9 1 (A8 eS hb.2.2.fEvents),.map he (AF Ak hb.2.2.fResults),.map hf (AF Ad hb.2.2.fKeys),.row hj 67 8 (A8 Ab hb.2.2.fPending),.row hn 9 1 (A8 eS hh)]] ⟨B2,B2,B2,B2,B2,B2,B2,B2,B2,B2,B2,B2,B2,B2,B2,B2,B2,B2,B2,B2,trivial⟩ ?_ (λu=>?_)
       ·exact B6 (fun {u _}=>Bg (Ah Aa)) (B6 (fun {u _}=>Bg (Ah Aa)) (B6 (fun {u _}=>Bv (b:=hb.1) Aa Aa h0 (Bg (Ah Aa))) (B6 (fun {u _}=>Bv (b:=hb.1) Aa Aa h0 (Bg (Ah Aa))) (B6 (fun {u _}=>Bv (b:=hm) Aa Aa h9 (Bg (Ah Aa))) (B6 (fun {u _}=>Bv (b:=hm) Aa Aa h9 (Bg (Ah Aa))) (B6 (fun {u _}=>Bv (b:=hm) Aa Aa h9 (Bg (AU (enc:=AL) (ys:=l) HH HI Aa Aa h7))) (B6 (fun {u _}=>Bv (b:=hm) Aa Aa h9 (Bg (Av Ga Aa C2 Aa Aa))) (B6 (fun {u _}=>Bv (b:=hm) Aa Aa h9 (Bg (AH CO Aa Aa))) (B6 (fun {u _}=>Bv (b:=hm) Aa Aa h9 (Bg (Cl Aa Aa))) (B6 (fun {u _}=>Bv (b:=hb.1) Aa Aa h0 (Bg (Ay Aa h9 Aa))) (B6 (fun {u _}=>Bv (b:=hb.1) Aa Aa h0 (Bg (Ah Aa))) (B6 (fun {u _}=>Bv (b:=!decide (((Al l ha).fKind)=0)) Aa Aa h3 (Bg (Ah Aa))) (Wx (fun {u}=>Bv (b:=!decide (((Al l ha).fKind)=0)) Aa Aa h3 (D0 (Hin:=[.blk hg [rB hb.2.2.fMade,rv hi,rv (.map (some he)),rv (.map (some hf)),rv hj] 59,.row hi 9 1 (A8 eS hb.2.2.fEvents),.map he (AF Ak hb.2.2.fResults),.map hf (AF Ad hb.2.2.fKeys),.row hj 67 8 (A8 Ab hb.2.2.fPending)]) (Hr:=[.row hn 9 1 (A8 eS hh)]) QB Aa (Agn _) (Eg hg hi he hf hj hb.2.2 gR xi))) (B6 (fun {u _}=>Bv (b:=!decide (((Al l ha).fKind)=0)) Aa Aa h3 (Bg (Ah Aa))) (B6 (fun {u _}=>Bv (b:=!decide (((Al l ha).fKind)=0)) Aa Aa h3 (Bg (Ah Aa))) (B6 (fun {u _}=>Bv (b:=!decide (((Al l ha).fKind)=0)) Aa Aa h3 (Bg (AU (enc:=AL) (ys:=l) HH HI Aa Aa h7))) (B6 (fun {u _}=>Bv (b:=!decide (((Al l ha).fKind)=0)) Aa Aa h3 (Bg (Av Ga Aa DY Aa Aa))) (B6 (fun {u _}=>Bv (b:=!decide (((Al l ha).fKind)=0)) Aa Aa h3 (Bg (Av CB Aa BS Aa Aa))) (B6 (fun {u _}=>Bv (b:=!decide (((Al l ha).fKind)=0)) Aa Aa h3 (Bg (AH Cf Aa Aa))) (US))))))))))))))))))))
       refine Cr (H1:=[.blk hg [rB hb.2.2.fMade,rv hi,rv (.map (some he)),rv (.map (some hf)),rv hj] 59,.row hi 9 1 (A8 eS hb.2.2.fEvents),.map he (AF Ak hb.2.2.fResults),.map hf (AF Ad hb.2.2.fKeys),.row hj 67 8 (A8 Ab hb.2.2.fPending),.row hn 9 1 (A8 eS hh)]) [72,73,74,75,76,77,78,79,80,81,82,83,84,85,86,87,88,89,90,91,0,1,5,6,7,8,9,10,11,12,13,14] ?_;exact wo h3 (ob xj λcl xk xl=>DM Mg (Kc F gR (((Al l ha).fC).fEvent) cl xk) Aa (wo h3 (wv (BJ Aa) (wo h0 (GO Aa h3 Aa (GC Aa h0 Aa (Ar (A1 (AG (!cl,()) xl (AI.c Aa (AI.c Aa (AI.c Aa (AI.c5 Aa Aa Aa Aa Aa (AI.c5 Aa Aa Aa Aa Aa AI.nil))))) (sC (sC (sC (sC (sC (sC sN)))))))))))))))
      refine EG 20 [] [0,1,5,6,7,8,9,10,11,12,13,14] [] [{ deps:=[],r:=λ_=>rB hb.1 },{ deps:=[0],r:=λ_=>rB hb.1 },{ deps:=[1],r:=λ_=>rv undef },{ deps:=[2,1],r:=λ_=>rv undef },{ deps:=[3],r:=λ_=>rv undef },{ deps:=[3],r:=λ_=>rv undef },{ deps:=[4,5,3],r:=λ_=>rv undef },{ deps:=[6,3],r:=λ_=>rv undef },{ deps:=[7,3],r:=λ_=>rv undef },{ deps:=[8,3],r:=λ_=>rv undef },{ deps:=[3,9,1],r:=λ_=>rv undef },{ deps:=[10,1],r:=λ_=>rv undef },{ deps:=[11],r:=λ_=>rv undef },{ deps:=[12,11],r:=λ_=>rv undef },{ deps:=[11],r:=λ_=>rv undef },{ deps:=[11],r:=λ_=>rv undef },{ deps:=[14,15,11],r:=λ_=>rv undef },{ deps:=[16,11],r:=λ_=>rv undef },{ deps:=[17,11],r:=λ_=>rv undef },{ deps:=[18,11],r:=λ_=>rv undef }] [λ_=>[.blk hg [rB hb.2.2.fMade,rv hi,rv (.map (some he)),rv (.map (some hf)),rv hj] 59,.row hi 9 1 (A8 eS hb.2.2.fEvents),.map he (AF Ak hb.2.2.fResults),.map hf (AF Ad hb.2.2.fKeys),.row hj 67 8 (A8 Ab hb.2.2.fPending),.row hn 9 1 (A8 eS hh)]] ⟨B2,B2,B2,B2,B2,B2,B2,B2,B2,B2,B2,B2,B2,B2,B2,B2,B2,B2,B2,B2,trivial⟩ ?_ (λu=>?_)
      ·exact B6 (fun {u _}=>Bg (Ah Aa)) (B6 (fun {u _}=>Bg (Ah Aa)) (B6 (fun {u _}=>Br (b:=hb.1) Aa Aa h0) (B6 (fun {u _}=>Br (b:=hb.1) Aa Aa h0) (B6 (fun {u _}=>Cd Aa Aa) (B6 (fun {u _}=>Cd Aa Aa) (B6 (fun {u _}=>Cd Aa Aa) (B6 (fun {u _}=>Cd Aa Aa) (B6 (fun {u _}=>Cd Aa Aa) (B6 (fun {u _}=>Cd Aa Aa) (B6 (fun {u _}=>Br (b:=hb.1) Aa Aa h0) (B6 (fun {u _}=>Br (b:=hb.1) Aa Aa h0) (B6 (fun {u _}=>Cd Aa Aa) (B6 (fun {u _}=>Cd Aa Aa) (B6 (fun {u _}=>Cd Aa Aa) (B6 (fun {u _}=>Cd Aa Aa) (B6 (fun {u _}=>Cd Aa Aa) (B6 (fun {u _}=>Cd Aa Aa) (B6 (fun {u _}=>Cd Aa Aa) (B6 (fun {u _}=>Cd Aa Aa) (US))))))))))))))))))))
      refine Cr (H1:=[.blk hg [rB hb.2.2.fMade,rv hi,rv (.map (some he)),rv (.map (some hf)),rv hj] 59,.row hi 9 1 (A8 eS hb.2.2.fEvents),.map he (AF Ak hb.2.2.fResults),.map hf (AF Ad hb.2.2.fKeys),.row hj 67 8 (A8 Ab hb.2.2.fPending),.row hn 9 1 (A8 eS hh)]) [72,73,74,75,76,77,78,79,80,81,82,83,84,85,86,87,88,89,90,91,0,1,5,6,7,8,9,10,11,12,13,14] ?_;exact wu (wu (wf h0 (wv (r:=rB false) (Ay Aa h0 Aa) (Ar (A1 (AG (false,()) xd (AI.c Aa (AI.c Aa (AI.c Aa (AI.c5 Aa Aa Aa Aa Aa (AI.c5 Aa Aa Aa Aa Aa AI.nil))))) (sC (sC (sC (sC (sC (sC sN))))))))))))
     rintro⟨xm,⟨⟩⟩ g7;refine EL ?_;replace g7:E8 F l tenant hh ha gc gg gd hm hz hb xm=some hK:=g7;unfold E8 at g7;refine cz g7 Aa (λxn xo=>?_) (λxn xp=>?_)
     ·refine Am (wa Aa (Ax (A6 (Ae (A7 (Ae (Ae (Bc ?_))))))));have xq:=B4 xo hY hZ;refine A7 (Ae ?_);obtain rfl:=AA xq;exact A5 (Cp YX (AT Aa)) (sS (sS (sS (sS (sS (sS sN)))))) ⟨Aa,Aa⟩
     refine A0 (AY (Cg (S:=(Bool)×(Unit)) (λσ=>G6 F l hh ha hm hz hb σ.1=some hK) (λσ=>[(0,Be 9 (A8 AL l)),(1,rS tenant),(5,rP hg 0),(6,rv hn),(7,A4 ha),(11,rB hm),(12,rS hz),(13,rB hb.1),(14,A4 hb.2.1),(15,rB σ.1)]) (λσ=>[.blk hg [rB hb.2.2.fMade,rv hi,rv (.map (some he)),rv (.map (some hf)),rv hj] 59,.row hi 9 1 (A8 eS hb.2.2.fEvents),.map he (AF Ak hb.2.2.fResults),.map hf (AF Ad hb.2.2.fKeys),.row hj 67 8 (A8 Ab hb.2.2.fPending),.row hn 9 1 (A8 eS hh)]) ?_ ?_))
     ·refine Ap (wm Aa (wm Aa (ob xp λcm xr xt=>Du [0,0,0,0,0] Pg (D1 F hg hi he hf hj hb.2.2 cm xr) ?_)));rintro _ _ ⟨rfl,rfl⟩;refine ob xt λxu xv xw=>DM Tryz.call19 (Nc F gc cm xu xv) Aa (wm Aa (bz xw (λhW xx=>?_) (λhW xy=>?_)))
      ·refine wo hW (wm Aa (wo hW (wm Aa (wo hW (wm Aa (wo hW (ob xx λcn xz x0=>Du [0,0,0,0,0] Xp (Jr F hg hi he hf hj hb.2.2 tenant cn xz) ?_)))))));rintro _ _ ⟨rfl,rfl⟩;refine wo hW (ob x0 λx1 x2 x3=>DM Tryz.call22 (PV F gg cn x1 x2) Aa (GC Aa hW Aa (wm Aa (bz x3 (λga x4=>?_) (λga x5=>?_)))))
       ·refine wo ga (wm Aa (wo ga (wm Aa (wo ga (ob x4 λco x6 x7=>Du [0,0,0,0,0] QB (Eg hg hi he hf hj hb.2.2 co x6) ?_)))));rintro _ _ ⟨rfl,rfl⟩;exact wo ga (ob x7 λcp x8 x9=>DM Tryz.call16 (Qd F gd co cp x8) Aa (GC Aa ga Aa (wa Aa (Ar (A1 (AG (cp,()) x9 (AI.c5 Aa Aa Aa Aa Aa (AI.c5 Aa Aa Aa Aa Aa AI.nil)) (sC (sC (sC (sC (sC (sC sN))))))))))))
       exact wf ga (wf ga (wf ga (wf ga (wv (r:=rB false) (Ay Aa ga Aa) (wa Aa (Ar (A1 (AG (false,()) x5 (AI.c5 Aa Aa Aa Aa Aa (AI.c5 Aa Aa Aa Aa Aa AI.nil)) (sC (sC (sC (sC (sC (sC sN))))))))))))))
      exact wf hW (wf hW (wf hW (wf hW (wf hW (wv (r:=rB false) (Ay Aa hW Aa) (wm Aa (wz Aa Aa (wz Aa Aa (wz Aa Aa (wz Aa Aa (wv (r:=rB false) (Ay (b:=false) Aa Aa Aa) (wa Aa (Ar (A1 (AG (false,()) xy (AI.c5 Aa Aa Aa Aa Aa (AI.c5 Aa Aa Aa Aa Aa AI.nil)) (sC (sC (sC (sC (sC (sC sN)))))))))))))))))))))
     rintro⟨gw,⟨⟩⟩ g8;refine EL ?_;replace g8:G6 F l hh ha hm hz hb gw=some hK:=g8;unfold G6 at g8;refine Aq (AV [(0,Be 9 (A8 AL l)),(1,rS tenant),(5,rP hg 0),(6,rv hn),(7,A4 ha),(11,rB hm),(12,rS hz),(14,A4 hb.2.1),(15,rB gw),(136,rB (bif !decide (hb.2.1=0) then((!gw)||((decide (((Al l ha).fKind)=0))&&(hm&&(hb.1||(!gw))))) else((decide (((Al l ha).fKind)=0))&&(hm&&(hb.1||(!gw))))))] [.blk hg [rB hb.2.2.fMade,rv hi,rv (.map (some he)),rv (.map (some hf)),rv hj] 59,.row hi 9 1 (A8 eS hb.2.2.fEvents),.map he (AF Ak hb.2.2.fResults),.map hf (AF Ad hb.2.2.fKeys),.row hj 67 8 (A8 Ab hb.2.2.fPending),.row hn 9 1 (A8 eS hh)] ?_ ?_)
     ·refine Ap (wm Aa (wv (Cl Aa Aa) (wm Aa (AZ (!decide (hb.2.1=0)) (λhP=>?_) (λhP=>?_)))))
      ·refine wo hP (wm Aa (wo hP (wv (BJ Aa) (GC Aa hP Aa (wm Aa (AZ (!gw) (λhx=>?_) (λhx=>?_)))))))
       ·refine wf hx (wf hx (wf hx (wf hx (wf hx (wf hx (wf hx (wu (wf hx (wf hx (wu (wu (wu (wu (wu (wf hx (wv (r:=rB true) (A3 Aa hx Aa) (Ar ?_)))))))))))))))));exact C8 (And.intro hP hx)
       refine wo hx (wm Aa (wo hx (wm Aa (wo hx (wv (AU (enc:=AL) (ys:=l) HH HI Aa Aa h7) (wo hx (wv (Av Ga Aa C2 Aa Aa) (wo hx (wv (AH CO Aa Aa) (wo hx (wv (BT Aa Aa) (wo hx (wm Aa (AZ (decide (((Al l ha).fKind)=0)) (λgh=>?_) (λgh=>?_)))))))))))))))
       ·refine wo gh (wm Aa (wo hx (GC Aa gh Aa (wo hx (wm Aa (AZ (hm) (λhS=>?_) (λhS=>?_)))))))
        ·refine wo hS (wm Aa (wo hS (wm Aa (AZ (hb.1) (λgi=>?_) (λgi=>?_)))))
         ·refine wf gi (wf gi (wo hS (wv (r:=rB true) (A3 Aa gi Aa) (wo hx (GC Aa hS Aa (GO Aa hx Aa (Ar ?_)))))));exact C8 (And.intro hP (And.intro hx (And.intro gh (And.intro hS gi))))
         refine wo gi (wm Aa (wo gi (wv (BJ Aa) (wo hS (GO Aa gi Aa (wo hx (GC Aa hS Aa (GO Aa hx Aa (Ar ?_)))))))));exact C8 (And.intro hP (And.intro hx (And.intro gh (And.intro hS gi))))
        refine wf hS (wf hS (wu (wu (wf hS (wo hx (wv (r:=rB false) (Ay Aa hS Aa) (GO Aa hx Aa (Ar ?_))))))));exact C8 (And.intro hP (And.intro hx (And.intro gh hS)))
       refine wf gh (wo hx (wv (r:=rB false) (Ay Aa gh Aa) (wo hx (wm Aa (wz Aa Aa (wz Aa Aa (wu (wu (wz Aa Aa (wo hx (wv (r:=rB false) (Ay (b:=false) Aa Aa Aa) (GO Aa hx Aa (Ar ?_)))))))))))));exact C8 (And.intro hP (And.intro hx gh))
      refine wf hP (wf hP (wv (r:=rB false) (Ay Aa hP Aa) (wm Aa (AM (b:=false) Aa Aa Aa (wm Aa (AM (b:=false) Aa Aa Aa (wm Aa (AM (b:=false) Aa Aa Aa (wv (AU (enc:=AL) (ys:=l) HH HI Aa Aa h7) (AM (b:=false) Aa Aa Aa (wv (Av Ga Aa C2 Aa Aa) (AM (b:=false) Aa Aa Aa (wv (AH CO Aa Aa) (AM (b:=false) Aa Aa Aa (wv (BT Aa Aa) (AM (b:=false) Aa Aa Aa (wm Aa (AZ (decide (((Al l ha).fKind)=0)) (λgj=>?_) (λgj=>?_)))))))))))))))))))
      ·refine wo gj (wm Aa (AM (b:=false) Aa Aa Aa (GC Aa gj Aa (AM (b:=false) Aa Aa Aa (wm Aa (AZ (hm) (λhT=>?_) (λhT=>?_)))))))
       ·refine wo hT (wm Aa (wo hT (wm Aa (AZ (hb.1) (λgl=>?_) (λgl=>?_)))))
        ·refine wf gl (wf gl (wo hT (wv (r:=rB true) (A3 Aa gl Aa) (AM (b:=false) Aa Aa Aa (GC Aa hT Aa (wv (r:=rB true) (Ay (b:=false) Aa Aa Aa) (Ar ?_)))))));exact C8 (And.intro hP (And.intro gj (And.intro hT gl)))
        refine wo gl (wm Aa (wo gl (wv (BJ Aa) (wo hT (GO Aa gl Aa (AM (b:=false) Aa Aa Aa (GC Aa hT Aa (wv (r:=rB (!gw)) (Ay (b:=false) Aa Aa Aa) (Ar ?_)))))))));exact C8 (And.intro hP (And.intro gj (And.intro hT gl)))
       refine wf hT (wf hT (wu (wu (wf hT (AM (b:=false) Aa Aa Aa (wv (r:=rB false) (Ay Aa hT Aa) (wv (r:=rB false) (Ay (b:=false) Aa Aa Aa) (Ar ?_))))))));exact C8 (And.intro hP (And.intro gj hT))
      refine wf gj (AM (b:=false) Aa Aa Aa (wv (r:=rB false) (Ay Aa gj Aa) (AM (b:=false) Aa Aa Aa (wm Aa (wz Aa Aa (wz Aa Aa (wu (wu (wz Aa Aa (AM (b:=false) Aa Aa Aa (wv (r:=rB false) (Ay (b:=false) Aa Aa Aa) (wv (r:=rB false) (Ay (b:=false) Aa Aa Aa) (Ar ?_)))))))))))));exact C8 (And.intro hP gj)
     refine cz g8 Aa (λxA xB=>?_) (λxA xC=>?_)
     ·refine Am (wa Aa (Ax (A6 (Ae (A7 (Ae (Ae (Bc ?_))))))));have xD:=B4 xB hY hZ;refine A7 (Ae ?_);obtain rfl:=AA xD;exact A5 (Cp YX (AT Aa)) (sS (sS (sS (sS (sS (sS sN)))))) ⟨Aa,Aa⟩
     refine A0 (AY (Aq (AV [(0,Be 9 (A8 AL l)),(1,rS tenant),(5,rP hg 0),(6,rv hn),(7,A4 ha),(12,rS hz),(14,A4 hb.2.1),(153,rB ((decide (((Al l ha).fKind)=4))&&(hm&&((decide (hb.2.1=0))&&(!gw)))))] [.blk hg [rB hb.2.2.fMade,rv hi,rv (.map (some he)),rv (.map (some hf)),rv hj] 59,.row hi 9 1 (A8 eS hb.2.2.fEvents),.map he (AF Ak hb.2.2.fResults),.map hf (AF Ad hb.2.2.fKeys),.row hj 67 8 (A8 Ab hb.2.2.fPending),.row hn 9 1 (A8 eS hh)] ?_ ?_)))
     ·refine Ap (wm Aa (wm Aa (wv (AU (enc:=AL) (ys:=l) HH HI Aa Aa h7) (wv (Av Ga Aa C2 Aa Aa) (wv (AH CO Aa Aa) (wv (BT Aa Aa) (wm Aa (AZ (decide (((Al l ha).fKind)=4)) (λgm=>?_) (λgm=>?_)))))))))
      ·refine wo gm (wm Aa (GC Aa gm Aa (wm Aa (AZ (hm) (λge=>?_) (λge=>?_)))))
       ·refine wo ge (wm Aa (wo ge (wv (BT Aa Aa) (GC Aa ge Aa (wm Aa (AZ (decide (hb.2.1=0)) (λgp=>?_) (λgp=>?_)))))))
        ·refine wo gp (wm Aa (wo gp (wv (BJ Aa) (GC Aa gp Aa (Ar ?_)))));exact C8 (And.intro gm (And.intro ge gp))
        refine wf gp (wf gp (wv (r:=rB false) (Ay Aa gp Aa) (Ar ?_)));exact C8 (And.intro gm (And.intro ge gp))
       refine wf ge (wf ge (wv (r:=rB false) (Ay Aa ge Aa) (wm Aa (wz Aa Aa (wz Aa Aa (wv (r:=rB false) (Ay (b:=false) Aa Aa Aa) (Ar ?_)))))));exact C8 (And.intro gm ge)
      refine wf gm (wv (r:=rB false) (Ay Aa gm Aa) (wm Aa (wz Aa Aa (wz Aa Aa (wv (r:=rB false) (Ay (b:=false) Aa Aa Aa) (wm Aa (wz Aa Aa (wz Aa Aa (wv (r:=rB false) (Ay (b:=false) Aa Aa Aa) (Ar ?_))))))))));exact C8 gm
     refine cz xC Aa (λxE xF=>?_) (λxE xG=>?_)
     ·refine Am (wa Aa (Ax (A6 (Ae (A7 (Ae (Ae (Bc ?_))))))));have xH:=B4 xF hY hZ;refine A7 (Ae ?_);obtain rfl:=AA xH;exact A5 (Cp YX (AT Aa)) (sS (sS (sS (sS (sS (sS sN)))))) ⟨Aa,Aa⟩
     refine A0 (AY (Aq (AV [(0,Be 9 (A8 AL l)),(1,rS tenant),(5,rP hg 0),(6,rv hn),(7,A4 ha),(12,rS hz),(171,rB (decide (hb.2.1=0)))] [.blk hg [rB hb.2.2.fMade,rv hi,rv (.map (some he)),rv (.map (some hf)),rv hj] 59,.row hi 9 1 (A8 eS hb.2.2.fEvents),.map he (AF Ak hb.2.2.fResults),.map hf (AF Ad hb.2.2.fKeys),.row hj 67 8 (A8 Ab hb.2.2.fPending),.row hn 9 1 (A8 eS hh)] ?_ ?_)))
     ·refine Ap (wm Aa (wm Aa (wv (AU (enc:=AL) (ys:=l) HH HI Aa Aa h7) (wv (Av Ga Aa C2 Aa Aa) (wv (AH CO Aa Aa) (wv (BT Aa Aa) (wm Aa (AZ (decide (((Al l ha).fKind)=1)) (λhR=>?_) (λhR=>?_)))))))))
      ·refine wf hR (wf hR (wf hR (wf hR (wf hR (wf hR (wv (r:=rB true) (A3 Aa hR Aa) (wm Aa (AM (b:=true) Aa Aa Aa (wm Aa (AM (b:=true) Aa Aa Aa (wv (BT Aa Aa) (wv (r:=rB (decide (hb.2.1=0))) (A3 (b:=true) Aa Aa Aa) (Ar ?_)))))))))))));exact wt
      refine wo hR (wm Aa (wo hR (wm Aa (wo hR (wv (AU (enc:=AL) (ys:=l) HH HI Aa Aa h7) (wo hR (wv (Av Ga Aa C2 Aa Aa) (wo hR (wv (AH CO Aa Aa) (wo hR (wv (BT Aa Aa) (GO Aa hR Aa (wm Aa (wo gy (wm Aa (wo gy (wv (BT Aa Aa) (GC Aa gy Aa (Ar ?_)))))))))))))))))));exact wt
     refine cz xG Aa (λxI xJ=>?_) (λxI xK=>?_)
     ·refine Ap (wm Aa (wm Aa (Bf (ys:=([hz]:List Aj)) (enc:=eS) (css:=[[rS hz]]) (xs:=[.tmp 173]) C7 BS Tk Aa Aa Aa ⟨Em.one Aa (Up.refl _),trivial⟩ Aa Di Aa Aa Aa (λrR=>?_))));refine ck xJ λxL xM=>Exists.elim Ng λinf hinf=>Cc (xs:=hh) (ys:=([hz]:List Aj)) (enc:=eS) (i:=6) C7 hinf.1 hinf.2.1 hinf.2.2.1 hinf.2.2.2 Aa Aa Aa Aa Aa (JD.w (i:=0) Aa Aa) Di Kd xL Aa (λhL=>?_);refine wa Aa (B3 (wm Aa (ob xM λho xN xO=>Du [2,2,2,2,2] Pg (D1 F hg hi he hf hj hb.2.2 ho xN) ?_)));rintro _ _ ⟨rfl,rfl⟩;refine wa Aa (B3 (wa Aa (Ax (AO (ob xO λxP xQ cq=>B5 (S:=Nat×(Int)×(Unit)) (V:=(Int×Int×Bool)×(Unit)) 2 (λσ=>Cj (λσ=>J0 F hh hz hb ho σ) σ.1 σ.2.1=some xP) (λσ=>[(0,Be 9 (A8 AL l)),(1,rS tenant),(5,rP hg 0),(6,rv hL),(7,A4 ha),(16,Be 8 (A8 Ab ho)),(17,A4 σ.2.1)]) (λσ=>[.blk hg [rB hb.2.2.fMade,rv hi,rv (.map (some he)),rv (.map (some hf)),rv hj] 59,.row hi 9 1 (A8 eS hb.2.2.fEvents),.map he (AF Ak hb.2.2.fResults),.map hf (AF Ad hb.2.2.fKeys),.row hj 67 8 (A8 Ab hb.2.2.fPending),.row hL 9 1 (A8 eS (hh++([hz]:List Aj)))]) (λσ=>σ.1) (F,0,()) xQ (AI.c Aa (AI.c Aa (AI.c5 Aa Aa Aa Aa Aa AI.nil))) (sC (sC (sC (sC (sC (sC (sS sN))))))) (λσ=>Jy ha hh hz hb σ.1.1 σ.1.2.1 σ.1.2.2=some hK) (λσ=>[(0,Be 9 (A8 AL l)),(1,rS tenant),(5,rP hg 0),(6,rv hL),(7,A4 ha),(16,Be 8 (A8 Ab ho)),(17,A4 σ.1.1),(178,A4 σ.1.2.1),(179,Be 8 (A8 Ab ho)),(180,A4 (ho.length:Int)),(181,rB σ.1.2.2)]) (λσ=>[.blk hg [rB hb.2.2.fMade,rv hi,rv (.map (some he)),rv (.map (some hf)),rv hj] 59,.row hi 9 1 (A8 eS hb.2.2.fEvents),.map he (AF Ak hb.2.2.fResults),.map hf (AF Ad hb.2.2.fKeys),.row hj 67 8 (A8 Ab hb.2.2.fPending),.row hL 9 1 (A8 eS (hh++([hz]:List Aj)))]) ?_ ?_)))))
      ·rintro⟨rT,hs,⟨⟩⟩ xR;refine EL ?_;obtain⟨xS,rfl,gS,g9,gT⟩:=CM xR;replace g9:J0 F hh hz hb ho hs=some gS:=g9;unfold J0 at g9;refine Aq (Am (wm Aa (wm Aa (wv (By (ys:=ho) (enc:=Ab) BL Aa) (wv (De Aa Aa) (Ax (cz g9 Aa (λxT xU=>?_) (λxT xV=>?_))))))))
       ·refine A0 (AY (Aq (AO (Cg (S:=(Bool)×(Unit)) (λσ=>Hg hs σ.1=some gS) (λσ=>[(0,Be 9 (A8 AL l)),(1,rS tenant),(5,rP hg 0),(6,rv hL),(7,A4 ha),(16,Be 8 (A8 Ab ho)),(17,A4 hs),(201,rB σ.1)]) (λσ=>[.blk hg [rB hb.2.2.fMade,rv hi,rv (.map (some he)),rv (.map (some hf)),rv hj] 59,.row hi 9 1 (A8 eS hb.2.2.fEvents),.map he (AF Ak hb.2.2.fResults),.map hf (AF Ad hb.2.2.fKeys),.row hj 67 8 (A8 Ab hb.2.2.fPending),.row hL 9 1 (A8 eS (hh++([hz]:List Aj)))]) ?_ ?_))))
        ·refine ck xU λgU xW=>ob xW λhG cr xX=>bz xX (λhB xY=>?_) (λhB xZ=>?_)
         ·refine EG 15 [] [0,1,5,6,7,16,17] [] [{ deps:=[],r:=λ_=>rv hL },{ deps:=[],r:=λ_=>Be 8 (A8 Ab ho) },{ deps:=[],r:=λ_=>A4 hs },{ deps:=[1,2],r:=λ_=>I4 [rS ((Al ho hs).fID),rS ((Al ho hs).fTenant),rS ((Al ho hs).fCause),A4 ((Al ho hs).fAt),A4 (((Al ho hs).fEffect).fKind),rS (((Al ho hs).fEffect).fKey),Be 4 (A8 Af (((Al ho hs).fEffect).fValue)),A4 (((Al ho hs).fEffect).fDelay)] },{ deps:=[3],r:=λ_=>I4 [rS ((Al ho hs).fID),rS ((Al ho hs).fTenant),rS ((Al ho hs).fCause),A4 ((Al ho hs).fAt),A4 (((Al ho hs).fEffect).fKind),rS (((Al ho hs).fEffect).fKey),Be 4 (A8 Af (((Al ho hs).fEffect).fValue)),A4 (((Al ho hs).fEffect).fDelay)] },{ deps:=[4],r:=λ_=>rS ((Al ho hs).fID) },{ deps:=[0,5],r:=λ_=>rB hG,fx:=true },{ deps:=[6],r:=λ_=>rB hG },{ deps:=[7],r:=λ_=>rv undef },{ deps:=[8,7],r:=λ_=>rv undef },{ deps:=[7],r:=λ_=>rv undef },{ deps:=[7],r:=λ_=>rv undef },{ deps:=[10,11,7],r:=λ_=>rv undef },{ deps:=[12,7],r:=λ_=>rv undef },{ deps:=[13,7],r:=λ_=>rv undef }] [λ_=>[.blk hg [rB hb.2.2.fMade,rv hi,rv (.map (some he)),rv (.map (some hf)),rv hj] 59,.row hi 9 1 (A8 eS hb.2.2.fEvents),.map he (AF Ak hb.2.2.fResults),.map hf (AF Ad hb.2.2.fKeys),.row hj 67 8 (A8 Ab hb.2.2.fPending),.row hL 9 1 (A8 eS (hh++([hz]:List Aj)))]] ⟨B2,B2,B2,B2,B2,B2,B2,B2,B2,B2,B2,B2,B2,B2,B2,trivial⟩ ?_ (λu=>?_)
          ·exact B6 (fun {u _}=>Bg (Ah Aa)) (B6 (fun {u _}=>Bg (Ah Aa)) (B6 (fun {u _}=>Bg (Ah Aa)) (B6 (fun {u _}=>Bg (AU (enc:=Ab) (ys:=ho) BL Ck Aa Aa gU)) (B6 (fun {u _}=>Bg (Av Cz Aa BS Aa Aa)) (B6 (fun {u _}=>Bg (AH Cf Aa Aa)) (Wx (fun {u}=>D0 (Hin:=[.row hL 9 1 (A8 eS (hh++([hz]:List Aj)))]) (Hr:=[.blk hg [rB hb.2.2.fMade,rv hi,rv (.map (some he)),rv (.map (some hf)),rv hj] 59,.row hi 9 1 (A8 eS hb.2.2.fEvents),.map he (AF Ak hb.2.2.fResults),.map hf (AF Ad hb.2.2.fKeys),.row hj 67 8 (A8 Ab hb.2.2.fPending)]) Mg Aa ((AS (i:=5) Aa).trans (Agk _ (Agn _))) (Hz F hL (hh++([hz]:List Aj)) ((Al ho hs).fID) hG cr)) (B6 (fun {u _}=>Bg (Ah Aa)) (B6 (fun {u _}=>Br (b:=hG) Aa Aa hB) (B6 (fun {u _}=>Br (b:=hG) Aa Aa hB) (B6 (fun {u _}=>Br (b:=hG) Aa Aa hB) (B6 (fun {u _}=>Br (b:=hG) Aa Aa hB) (B6 (fun {u _}=>Br (b:=hG) Aa Aa hB) (B6 (fun {u _}=>Br (b:=hG) Aa Aa hB) (B6 (fun {u _}=>Br (b:=hG) Aa Aa hB) (US)))))))))))))))
          refine Cr (H1:=[.blk hg [rB hb.2.2.fMade,rv hi,rv (.map (some he)),rv (.map (some hf)),rv hj] 59,.row hi 9 1 (A8 eS hb.2.2.fEvents),.map he (AF Ak hb.2.2.fResults),.map hf (AF Ad hb.2.2.fKeys),.row hj 67 8 (A8 Ab hb.2.2.fPending),.row hL 9 1 (A8 eS (hh++([hz]:List Aj)))]) [184,185,186,187,188,189,190,191,192,193,194,195,196,197,198,0,1,5,6,7,16,17] ?_;exact wf hB (wf hB (wv (r:=rB true) (A3 Aa hB Aa) (Ar (A1 (AG (true,()) xY (AI.c Aa (AI.c Aa (AI.c Aa (AI.c5 Aa Aa Aa Aa Aa AI.nil)))) (sC (sC (sC (sC (sC (sC sN)))))))))))
         refine ob xZ λgV va vb=>EG 15 [] [0,1,5,6,7,16,17] [] [{ deps:=[],r:=λ_=>rv hL },{ deps:=[],r:=λ_=>Be 8 (A8 Ab ho) },{ deps:=[],r:=λ_=>A4 hs },{ deps:=[1,2],r:=λ_=>I4 [rS ((Al ho hs).fID),rS ((Al ho hs).fTenant),rS ((Al ho hs).fCause),A4 ((Al ho hs).fAt),A4 (((Al ho hs).fEffect).fKind),rS (((Al ho hs).fEffect).fKey),Be 4 (A8 Af (((Al ho hs).fEffect).fValue)),A4 (((Al ho hs).fEffect).fDelay)] },{ deps:=[3],r:=λ_=>I4 [rS ((Al ho hs).fID),rS ((Al ho hs).fTenant),rS ((Al ho hs).fCause),A4 ((Al ho hs).fAt),A4 (((Al ho hs).fEffect).fKind),rS (((Al ho hs).fEffect).fKey),Be 4 (A8 Af (((Al ho hs).fEffect).fValue)),A4 (((Al ho hs).fEffect).fDelay)] },{ deps:=[4],r:=λ_=>rS ((Al ho hs).fID) },{ deps:=[0,5],r:=λ_=>rB hG,fx:=true },{ deps:=[6],r:=λ_=>rB hG },{ deps:=[7],r:=λ_=>rP hg 0 },{ deps:=[8,7],r:=λ_=>Be 1 (A8 eS gV),fx:=true },{ deps:=[7],r:=λ_=>Be 8 (A8 Ab ho) },{ deps:=[7],r:=λ_=>A4 hs },{ deps:=[10,11,7],r:=λ_=>I4 [rS ((Al ho hs).fID),rS ((Al ho hs).fTenant),rS ((Al ho hs).fCause),A4 ((Al ho hs).fAt),A4 (((Al ho hs).fEffect).fKind),rS (((Al ho hs).fEffect).fKey),Be 4 (A8 Af (((Al ho hs).fEffect).fValue)),A4 (((Al ho hs).fEffect).fDelay)] },{ deps:=[12,7],r:=λ_=>I4 [rS ((Al ho hs).fCause),A4 ((Al ho hs).fAt),A4 (((Al ho hs).fEffect).fKind),rS (((Al ho hs).fEffect).fKey),Be 4 (A8 Af (((Al ho hs).fEffect).fValue)),A4 (((Al ho hs).fEffect).fDelay)] },{ deps:=[13,7],r:=λ_=>rS ((Al ho hs).fCause) }] [λ_=>[.blk hg [rB hb.2.2.fMade,rv hi,rv (.map (some he)),rv (.map (some hf)),rv hj] 59,.row hi 9 1 (A8 eS hb.2.2.fEvents),.map he (AF Ak hb.2.2.fResults),.map hf (AF Ad hb.2.2.fKeys),.row hj 67 8 (A8 Ab hb.2.2.fPending),.row hL 9 1 (A8 eS (hh++([hz]:List Aj)))]] ⟨B2,B2,B2,B2,B2,B2,B2,B2,B2,B2,B2,B2,B2,B2,B2,trivial⟩ ?_ (λu=>?_)
         ·exact B6 (fun {u _}=>Bg (Ah Aa)) (B6 (fun {u _}=>Bg (Ah Aa)) (B6 (fun {u _}=>Bg (Ah Aa)) (B6 (fun {u _}=>Bg (AU (enc:=Ab) (ys:=ho) BL Ck Aa Aa gU)) (B6 (fun {u _}=>Bg (Av Cz Aa BS Aa Aa)) (B6 (fun {u _}=>Bg (AH Cf Aa Aa)) (Wx (fun {u}=>D0 (Hin:=[.row hL 9 1 (A8 eS (hh++([hz]:List Aj)))]) (Hr:=[.blk hg [rB hb.2.2.fMade,rv hi,rv (.map (some he)),rv (.map (some hf)),rv hj] 59,.row hi 9 1 (A8 eS hb.2.2.fEvents),.map he (AF Ak hb.2.2.fResults),.map hf (AF Ad hb.2.2.fKeys),.row hj 67 8 (A8 Ab hb.2.2.fPending)]) Mg Aa ((AS (i:=5) Aa).trans (Agk _ (Agn _))) (Hz F hL (hh++([hz]:List Aj)) ((Al ho hs).fID) hG cr)) (B6 (fun {u _}=>Bg (Ah Aa)) (B6 (fun {u _}=>Bv (b:=hG) Aa Aa hB (Bg (Ah Aa))) (Wx (fun {u}=>Bv (b:=hG) Aa Aa hB (D0 (Hin:=[.blk hg [rB hb.2.2.fMade,rv hi,rv (.map (some he)),rv (.map (some hf)),rv hj] 59,.row hi 9 1 (A8 eS hb.2.2.fEvents),.map he (AF Ak hb.2.2.fResults),.map hf (AF Ad hb.2.2.fKeys),.row hj 67 8 (A8 Ab hb.2.2.fPending)]) (Hr:=[.row hL 9 1 (A8 eS (hh++([hz]:List Aj)))]) QB Aa (Agn _) (Eg hg hi he hf hj hb.2.2 gV va))) (B6 (fun {u _}=>Bv (b:=hG) Aa Aa hB (Bg (Ah Aa))) (B6 (fun {u _}=>Bv (b:=hG) Aa Aa hB (Bg (Ah Aa))) (B6 (fun {u _}=>Bv (b:=hG) Aa Aa hB (Bg (AU (enc:=Ab) (ys:=ho) BL Ck Aa Aa gU))) (B6 (fun {u _}=>Bv (b:=hG) Aa Aa hB (Bg (Av Cz Aa BS Aa Aa))) (B6 (fun {u _}=>Bv (b:=hG) Aa Aa hB (Bg (AH Cf Aa Aa))) (US)))))))))))))))
         refine Cr (H1:=[.blk hg [rB hb.2.2.fMade,rv hi,rv (.map (some he)),rv (.map (some hf)),rv hj] 59,.row hi 9 1 (A8 eS hb.2.2.fEvents),.map he (AF Ak hb.2.2.fResults),.map hf (AF Ad hb.2.2.fKeys),.row hj 67 8 (A8 Ab hb.2.2.fPending),.row hL 9 1 (A8 eS (hh++([hz]:List Aj)))]) [184,185,186,187,188,189,190,191,192,193,194,195,196,197,198,0,1,5,6,7,16,17] ?_;exact wo hB (ob vb λcs vc vd=>DM Mg (Kc F gV ((Al ho hs).fCause) cs vc) Aa (wo hB (wv (BJ Aa) (GO Aa hB Aa (Ar (A1 (AG (!cs,()) vd (AI.c Aa (AI.c Aa (AI.c Aa (AI.c5 Aa Aa Aa Aa Aa AI.nil)))) (sC (sC (sC (sC (sC (sC sN)))))))))))))
        rintro⟨ve,⟨⟩⟩ gA;refine EL ?_;replace gA:Hg hs ve=some gS:=gA;unfold Hg at gA;refine cz gA Aa (λvf vg=>?_) (λvf vh=>?_)
        ·refine Am (wa Aa (Ax (A6 (A7 (Ae (Ae (Bc ?_)))))));have vi:=B4 vg gT cq;refine A7 (A7 (Ae (Ae (Bc ?_))));have vj:=B4 vi hY hZ;refine A7 (Ae ?_);obtain rfl:=AA vj;exact A5 (Cp YX (AT Aa)) (sS (sS (sS (sS (sS (sS sN)))))) ⟨Aa,Aa⟩
        refine A0 (AK (AY (Ap (wm Aa (ck vh λvk vl=>wv (BU Aa Aa vk) (wa Aa (Ar ?_)))))));have vm:=B8 vl gT;exact A1 (AG (xS,hs+1,()) ⟨vm,Ago _⟩ (AI.c Aa (AI.c Aa (AI.c5 Aa Aa Aa Aa Aa AI.nil))) (sC (sC (sC (sC (sC (sC sN)))))))
       refine B9 (A9 ?_);have vn:=Co xV gT cq;exact A9 (Bj (AG ((hs,hs,decide (hs<(ho.length:Int))),()) vn (AI.c Aa (AI.c5 Aa Aa Aa Aa Aa (AI.c5 Aa Aa Aa Aa Aa AI.nil))) (sC (sC (sC (sC (sC (sC sN))))))))
      rintro⟨⟨vo,vp,vq⟩,⟨⟩⟩ gB;refine IY ?_;replace gB:Jy ha hh hz hb vo vp vq=some hK:=gB;unfold Jy at gB;refine Bm (AK (Ja [0,1,1,2] ?_));exact A1 (AG ((hh++([hz]:List Aj),hb.2.2.fMade,hb.2.2.fEvents,hb.2.2.fPending,hb.2.2.fResults,hb.2.2.fKeys),(hL,hi,hj)) gB (AI.c5 Aa Aa Aa Aa Aa AI.nil) (sC (sC (sC (sC (sC (sC sN)))))))
     refine A0 (AY (Am (wm Aa (ob xK λhp vr vs=>Du [0,0,0,0,0] Pg (D1 F hg hi he hf hj hb.2.2 hp vr) ?_))));rintro _ _ ⟨rfl,rfl⟩;refine wa Aa (B3 (wa Aa (Ax (AO (ob vs λvt vu ct=>B5 (S:=Nat×(Int)×(Unit)) (V:=(Int×Int×Bool)×(Unit)) 2 (λσ=>Cj (λσ=>Jz F hh hb hp σ) σ.1 σ.2.1=some vt) (λσ=>[(0,Be 9 (A8 AL l)),(1,rS tenant),(5,rP hg 0),(6,rv hn),(7,A4 ha),(16,Be 8 (A8 Ab hp)),(17,A4 σ.2.1)]) (λσ=>[.blk hg [rB hb.2.2.fMade,rv hi,rv (.map (some he)),rv (.map (some hf)),rv hj] 59,.row hi 9 1 (A8 eS hb.2.2.fEvents),.map he (AF Ak hb.2.2.fResults),.map hf (AF Ad hb.2.2.fKeys),.row hj 67 8 (A8 Ab hb.2.2.fPending),.row hn 9 1 (A8 eS hh)]) (λσ=>σ.1) (F,0,()) vu (AI.c Aa (AI.c Aa (AI.c5 Aa Aa Aa Aa Aa AI.nil))) (sC (sC (sC (sC (sC (sC sN)))))) (λσ=>Jx ha hh hb σ.1.1 σ.1.2.1 σ.1.2.2=some hK) (λσ=>[(0,Be 9 (A8 AL l)),(1,rS tenant),(5,rP hg 0),(6,rv hn),(7,A4 ha),(16,Be 8 (A8 Ab hp)),(17,A4 σ.1.1),(178,A4 σ.1.2.1),(179,Be 8 (A8 Ab hp)),(180,A4 (hp.length:Int)),(181,rB σ.1.2.2)]) (λσ=>[.blk hg [rB hb.2.2.fMade,rv hi,rv (.map (some he)),rv (.map (some hf)),rv hj] 59,.row hi 9 1 (A8 eS hb.2.2.fEvents),.map he (AF Ak hb.2.2.fResults),.map hf (AF Ad hb.2.2.fKeys),.row hj 67 8 (A8 Ab hb.2.2.fPending),.row hn 9 1 (A8 eS hh)]) ?_ ?_)))))
     ·rintro⟨rU,ht,⟨⟩⟩ vv;refine EL ?_;obtain⟨vw,rfl,gW,gC,gX⟩:=CM vv;replace gC:Jz F hh hb hp ht=some gW:=gC;unfold Jz at gC;refine Aq (Am (wm Aa (wm Aa (wv (By (ys:=hp) (enc:=Ab) BL Aa) (wv (De Aa Aa) (Ax (cz gC Aa (λvx vy=>?_) (λvx vz=>?_))))))))
      ·refine A0 (AY (Aq (AO (Cg (S:=(Bool)×(Unit)) (λσ=>Hf ht σ.1=some gW) (λσ=>[(0,Be 9 (A8 AL l)),(1,rS tenant),(5,rP hg 0),(6,rv hn),(7,A4 ha),(16,Be 8 (A8 Ab hp)),(17,A4 ht),(201,rB σ.1)]) (λσ=>[.blk hg [rB hb.2.2.fMade,rv hi,rv (.map (some he)),rv (.map (some hf)),rv hj] 59,.row hi 9 1 (A8 eS hb.2.2.fEvents),.map he (AF Ak hb.2.2.fResults),.map hf (AF Ad hb.2.2.fKeys),.row hj 67 8 (A8 Ab hb.2.2.fPending),.row hn 9 1 (A8 eS hh)]) ?_ ?_))))
       ·refine ck vy λgY v0=>ob v0 λhH cu v1=>bz v1 (λhC v2=>?_) (λhC v3=>?_)
        ·refine EG 15 [] [0,1,5,6,7,16,17] [] [{ deps:=[],r:=λ_=>rv hn },{ deps:=[],r:=λ_=>Be 8 (A8 Ab hp) },{ deps:=[],r:=λ_=>A4 ht },{ deps:=[1,2],r:=λ_=>I4 [rS ((Al hp ht).fID),rS ((Al hp ht).fTenant),rS ((Al hp ht).fCause),A4 ((Al hp ht).fAt),A4 (((Al hp ht).fEffect).fKind),rS (((Al hp ht).fEffect).fKey),Be 4 (A8 Af (((Al hp ht).fEffect).fValue)),A4 (((Al hp ht).fEffect).fDelay)] },{ deps:=[3],r:=λ_=>I4 [rS ((Al hp ht).fID),rS ((Al hp ht).fTenant),rS ((Al hp ht).fCause),A4 ((Al hp ht).fAt),A4 (((Al hp ht).fEffect).fKind),rS (((Al hp ht).fEffect).fKey),Be 4 (A8 Af (((Al hp ht).fEffect).fValue)),A4 (((Al hp ht).fEffect).fDelay)] },{ deps:=[4],r:=λ_=>rS ((Al hp ht).fID) },{ deps:=[0,5],r:=λ_=>rB hH,fx:=true },{ deps:=[6],r:=λ_=>rB hH },{ deps:=[7],r:=λ_=>rv undef },{ deps:=[8,7],r:=λ_=>rv undef },{ deps:=[7],r:=λ_=>rv undef },{ deps:=[7],r:=λ_=>rv undef },{ deps:=[10,11,7],r:=λ_=>rv undef },{ deps:=[12,7],r:=λ_=>rv undef },{ deps:=[13,7],r:=λ_=>rv undef }] [λ_=>[.blk hg [rB hb.2.2.fMade,rv hi,rv (.map (some he)),rv (.map (some hf)),rv hj] 59,.row hi 9 1 (A8 eS hb.2.2.fEvents),.map he (AF Ak hb.2.2.fResults),.map hf (AF Ad hb.2.2.fKeys),.row hj 67 8 (A8 Ab hb.2.2.fPending),.row hn 9 1 (A8 eS hh)]] ⟨B2,B2,B2,B2,B2,B2,B2,B2,B2,B2,B2,B2,B2,B2,B2,trivial⟩ ?_ (λu=>?_)
         ·exact B6 (fun {u _}=>Bg (Ah Aa)) (B6 (fun {u _}=>Bg (Ah Aa)) (B6 (fun {u _}=>Bg (Ah Aa)) (B6 (fun {u _}=>Bg (AU (enc:=Ab) (ys:=hp) BL Ck Aa Aa gY)) (B6 (fun {u _}=>Bg (Av Cz Aa BS Aa Aa)) (B6 (fun {u _}=>Bg (AH Cf Aa Aa)) (Wx (fun {u}=>D0 (Hin:=[.row hn 9 1 (A8 eS hh)]) (Hr:=[.blk hg [rB hb.2.2.fMade,rv hi,rv (.map (some he)),rv (.map (some hf)),rv hj] 59,.row hi 9 1 (A8 eS hb.2.2.fEvents),.map he (AF Ak hb.2.2.fResults),.map hf (AF Ad hb.2.2.fKeys),.row hj 67 8 (A8 Ab hb.2.2.fPending)]) Mg Aa ((AS (i:=5) Aa).trans (Agk _ (Agn _))) (Hz F hn hh ((Al hp ht).fID) hH cu)) (B6 (fun {u _}=>Bg (Ah Aa)) (B6 (fun {u _}=>Br (b:=hH) Aa Aa hC) (B6 (fun {u _}=>Br (b:=hH) Aa Aa hC) (B6 (fun {u _}=>Br (b:=hH) Aa Aa hC) (B6 (fun {u _}=>Br (b:=hH) Aa Aa hC) (B6 (fun {u _}=>Br (b:=hH) Aa Aa hC) (B6 (fun {u _}=>Br (b:=hH) Aa Aa hC) (B6 (fun {u _}=>Br (b:=hH) Aa Aa hC) (US)))))))))))))))
         refine Cr (H1:=[.blk hg [rB hb.2.2.fMade,rv hi,rv (.map (some he)),rv (.map (some hf)),rv hj] 59,.row hi 9 1 (A8 eS hb.2.2.fEvents),.map he (AF Ak hb.2.2.fResults),.map hf (AF Ad hb.2.2.fKeys),.row hj 67 8 (A8 Ab hb.2.2.fPending),.row hn 9 1 (A8 eS hh)]) [184,185,186,187,188,189,190,191,192,193,194,195,196,197,198,0,1,5,6,7,16,17] ?_;exact wf hC (wf hC (wv (r:=rB true) (A3 Aa hC Aa) (Ar (A1 (AG (true,()) v2 (AI.c Aa (AI.c Aa (AI.c Aa (AI.c5 Aa Aa Aa Aa Aa AI.nil)))) (sC (sC (sC (sC (sC (sC sN)))))))))))
        refine ob v3 λgZ v4 v5=>EG 15 [] [0,1,5,6,7,16,17] [] [{ deps:=[],r:=λ_=>rv hn },{ deps:=[],r:=λ_=>Be 8 (A8 Ab hp) },{ deps:=[],r:=λ_=>A4 ht },{ deps:=[1,2],r:=λ_=>I4 [rS ((Al hp ht).fID),rS ((Al hp ht).fTenant),rS ((Al hp ht).fCause),A4 ((Al hp ht).fAt),A4 (((Al hp ht).fEffect).fKind),rS (((Al hp ht).fEffect).fKey),Be 4 (A8 Af (((Al hp ht).fEffect).fValue)),A4 (((Al hp ht).fEffect).fDelay)] },{ deps:=[3],r:=λ_=>I4 [rS ((Al hp ht).fID),rS ((Al hp ht).fTenant),rS ((Al hp ht).fCause),A4 ((Al hp ht).fAt),A4 (((Al hp ht).fEffect).fKind),rS (((Al hp ht).fEffect).fKey),Be 4 (A8 Af (((Al hp ht).fEffect).fValue)),A4 (((Al hp ht).fEffect).fDelay)] },{ deps:=[4],r:=λ_=>rS ((Al hp ht).fID) },{ deps:=[0,5],r:=λ_=>rB hH,fx:=true },{ deps:=[6],r:=λ_=>rB hH },{ deps:=[7],r:=λ_=>rP hg 0 },{ deps:=[8,7],r:=λ_=>Be 1 (A8 eS gZ),fx:=true },{ deps:=[7],r:=λ_=>Be 8 (A8 Ab hp) },{ deps:=[7],r:=λ_=>A4 ht },{ deps:=[10,11,7],r:=λ_=>I4 [rS ((Al hp ht).fID),rS ((Al hp ht).fTenant),rS ((Al hp ht).fCause),A4 ((Al hp ht).fAt),A4 (((Al hp ht).fEffect).fKind),rS (((Al hp ht).fEffect).fKey),Be 4 (A8 Af (((Al hp ht).fEffect).fValue)),A4 (((Al hp ht).fEffect).fDelay)] },{ deps:=[12,7],r:=λ_=>I4 [rS ((Al hp ht).fCause),A4 ((Al hp ht).fAt),A4 (((Al hp ht).fEffect).fKind),rS (((Al hp ht).fEffect).fKey),Be 4 (A8 Af (((Al hp ht).fEffect).fValue)),A4 (((Al hp ht).fEffect).fDelay)] },{ deps:=[13,7],r:=λ_=>rS ((Al hp ht).fCause) }] [λ_=>[.blk hg [rB hb.2.2.fMade,rv hi,rv (.map (some he)),rv (.map (some hf)),rv hj] 59,.row hi 9 1 (A8 eS hb.2.2.fEvents),.map he (AF Ak hb.2.2.fResults),.map hf (AF Ad hb.2.2.fKeys),.row hj 67 8 (A8 Ab hb.2.2.fPending),.row hn 9 1 (A8 eS hh)]] ⟨B2,B2,B2,B2,B2,B2,B2,B2,B2,B2,B2,B2,B2,B2,B2,trivial⟩ ?_ (λu=>?_)
        ·exact B6 (fun {u _}=>Bg (Ah Aa)) (B6 (fun {u _}=>Bg (Ah Aa)) (B6 (fun {u _}=>Bg (Ah Aa)) (B6 (fun {u _}=>Bg (AU (enc:=Ab) (ys:=hp) BL Ck Aa Aa gY)) (B6 (fun {u _}=>Bg (Av Cz Aa BS Aa Aa)) (B6 (fun {u _}=>Bg (AH Cf Aa Aa)) (Wx (fun {u}=>D0 (Hin:=[.row hn 9 1 (A8 eS hh)]) (Hr:=[.blk hg [rB hb.2.2.fMade,rv hi,rv (.map (some he)),rv (.map (some hf)),rv hj] 59,.row hi 9 1 (A8 eS hb.2.2.fEvents),.map he (AF Ak hb.2.2.fResults),.map hf (AF Ad hb.2.2.fKeys),.row hj 67 8 (A8 Ab hb.2.2.fPending)]) Mg Aa ((AS (i:=5) Aa).trans (Agk _ (Agn _))) (Hz F hn hh ((Al hp ht).fID) hH cu)) (B6 (fun {u _}=>Bg (Ah Aa)) (B6 (fun {u _}=>Bv (b:=hH) Aa Aa hC (Bg (Ah Aa))) (Wx (fun {u}=>Bv (b:=hH) Aa Aa hC (D0 (Hin:=[.blk hg [rB hb.2.2.fMade,rv hi,rv (.map (some he)),rv (.map (some hf)),rv hj] 59,.row hi 9 1 (A8 eS hb.2.2.fEvents),.map he (AF Ak hb.2.2.fResults),.map hf (AF Ad hb.2.2.fKeys),.row hj 67 8 (A8 Ab hb.2.2.fPending)]) (Hr:=[.row hn 9 1 (A8 eS hh)]) QB Aa (Agn _) (Eg hg hi he hf hj hb.2.2 gZ v4))) (B6 (fun {u _}=>Bv (b:=hH) Aa Aa hC (Bg (Ah Aa))) (B6 (fun {u _}=>Bv (b:=hH) Aa Aa hC (Bg (Ah Aa))) (B6 (fun {u _}=>Bv (b:=hH) Aa Aa hC (Bg (AU (enc:=Ab) (ys:=hp) BL Ck Aa Aa gY))) (B6 (fun {u _}=>Bv (b:=hH) Aa Aa hC (Bg (Av Cz Aa BS Aa Aa))) (B6 (fun {u _}=>Bv (b:=hH) Aa Aa hC (Bg (AH Cf Aa Aa))) (US)))))))))))))))
        refine Cr (H1:=[.blk hg [rB hb.2.2.fMade,rv hi,rv (.map (some he)),rv (.map (some hf)),rv hj] 59,.row hi 9 1 (A8 eS hb.2.2.fEvents),.map he (AF Ak hb.2.2.fResults),.map hf (AF Ad hb.2.2.fKeys),.row hj 67 8 (A8 Ab hb.2.2.fPending),.row hn 9 1 (A8 eS hh)]) [184,185,186,187,188,189,190,191,192,193,194,195,196,197,198,0,1,5,6,7,16,17] ?_;exact wo hC (ob v5 λcv v6 v7=>DM Mg (Kc F gZ ((Al hp ht).fCause) cv v6) Aa (wo hC (wv (BJ Aa) (GO Aa hC Aa (Ar (A1 (AG (!cv,()) v7 (AI.c Aa (AI.c Aa (AI.c Aa (AI.c5 Aa Aa Aa Aa Aa AI.nil)))) (sC (sC (sC (sC (sC (sC sN)))))))))))))
       rintro⟨v8,⟨⟩⟩ gD;refine EL ?_;replace gD:Hf ht v8=some gW:=gD;unfold Hf at gD;refine cz gD Aa (λv9 vA=>?_) (λv9 vB=>?_)
       ·refine Am (wa Aa (Ax (A6 (A7 (Ae (Ae (Bc ?_)))))));have vC:=B4 vA gX ct;refine A7 (A7 (Ae (Ae (Bc ?_))));have vD:=B4 vC hY hZ;refine A7 (Ae ?_);obtain rfl:=AA vD;exact A5 (Cp YX (AT Aa)) (sS (sS (sS (sS (sS (sS sN)))))) ⟨Aa,Aa⟩
       refine A0 (AK (AY (Ap (wm Aa (ck vB λvE vF=>wv (BU Aa Aa vE) (wa Aa (Ar ?_)))))));have vG:=B8 vF gX;exact A1 (AG (vw,ht+1,()) ⟨vG,Ago _⟩ (AI.c Aa (AI.c Aa (AI.c5 Aa Aa Aa Aa Aa AI.nil))) (sC (sC (sC (sC (sC (sC sN)))))))
      refine B9 (A9 ?_);have vH:=Co vz gX ct;exact A9 (Bj (AG ((ht,ht,decide (ht<(hp.length:Int))),()) vH (AI.c Aa (AI.c5 Aa Aa Aa Aa Aa (AI.c5 Aa Aa Aa Aa Aa AI.nil))) (sC (sC (sC (sC (sC (sC sN))))))))
     rintro⟨⟨vI,vJ,vK⟩,⟨⟩⟩ gE;refine IY ?_;replace gE:Jx ha hh hb vI vJ vK=some hK:=gE;unfold Jx at gE;refine Bm (AK (Ja [0,1,1,2] ?_));exact A1 (AG ((hh,hb.2.2.fMade,hb.2.2.fEvents,hb.2.2.fPending,hb.2.2.fResults,hb.2.2.fKeys),(hn,hi,hj)) gE (AI.c5 Aa Aa Aa Aa Aa AI.nil) (sC (sC (sC (sC (sC (sC sN)))))))
    refine A0 (AY (Am (wm Aa (wm Aa (wm Aa (wv (AU (enc:=AL) (ys:=l) HH HI Aa Aa h7) (wv (DB Tryz.isAgg36 HI Aa Aa Aa) (ob cX λhd vL vM=>Du [0,0,0,0,0] Tryz.call11 (WB F hg g4 he hf g5 (Ao.mk gz g0 g2 g3 g1) (Bb.mk ((Al l ha).fKind) ((Al l ha).fC) ((Al l ha).fS) ((Al l ha).fN)) hd vL) ?_))))))));rintro _ _ ⟨hk,hl,rfl,rfl⟩;refine wm Aa (wv (AD Aa Aa) (wv (AD Aa Aa) (wa Aa (wa Aa (Ax (Aq (Cg (S:=(Bool)×(Unit)) (λσ=>E7 F l tenant hh ha gc gg gd hm hd σ.1=some hK) (λσ=>[(0,Be 9 (A8 AL l)),(1,rS tenant),(5,rP hg 0),(6,rv hn),(7,A4 ha),(8,Be 8 (A8 Ab gc)),(9,Be 3 (A8 Bz gg)),(10,Be 1 (A8 eS gd)),(11,rB hm),(12,rS ((Al l ha).fS)),(13,rB hd.1),(14,A4 hd.2.1),(95,rB σ.1)]) (λσ=>[.blk hg [rB hd.2.2.fMade,rv hk,rv (.map (some he)),rv (.map (some hf)),rv hl] 59,.row hk 9 1 (A8 eS hd.2.2.fEvents),.map he (AF Ak hd.2.2.fResults),.map hf (AF Ad hd.2.2.fKeys),.row hl 67 8 (A8 Ab hd.2.2.fPending),.row hn 9 1 (A8 eS hh)]) ?_ ?_)))))))
    ·refine bz vM (λh1 vN=>?_) (λh1 vO=>?_)
     ·refine bz vN (λhA vP=>?_) (λhA vQ=>?_)
      ·refine EG 20 [] [0,1,5,6,7,8,9,10,11,12,13,14] [] [{ deps:=[],r:=λ_=>rB hd.1 },{ deps:=[0],r:=λ_=>rB hd.1 },{ deps:=[1],r:=λ_=>rB hm },{ deps:=[2,1],r:=λ_=>rB hm },{ deps:=[3],r:=λ_=>rv undef },{ deps:=[3],r:=λ_=>rv undef },{ deps:=[4,5,3],r:=λ_=>rv undef },{ deps:=[6,3],r:=λ_=>rv undef },{ deps:=[7,3],r:=λ_=>rv undef },{ deps:=[8,3],r:=λ_=>rv undef },{ deps:=[3,9,1],r:=λ_=>rB true },{ deps:=[10,1],r:=λ_=>rB true },{ deps:=[11],r:=λ_=>rv undef },{ deps:=[12,11],r:=λ_=>rv undef },{ deps:=[11],r:=λ_=>rv undef },{ deps:=[11],r:=λ_=>rv undef },{ deps:=[14,15,11],r:=λ_=>rv undef },{ deps:=[16,11],r:=λ_=>rv undef },{ deps:=[17,11],r:=λ_=>rv undef },{ deps:=[18,11],r:=λ_=>rv undef }] [λ_=>[.blk hg [rB hd.2.2.fMade,rv hk,rv (.map (some he)),rv (.map (some hf)),rv hl] 59,.row hk 9 1 (A8 eS hd.2.2.fEvents),.map he (AF Ak hd.2.2.fResults),.map hf (AF Ad hd.2.2.fKeys),.row hl 67 8 (A8 Ab hd.2.2.fPending),.row hn 9 1 (A8 eS hh)]] ⟨B2,B2,B2,B2,B2,B2,B2,B2,B2,B2,B2,B2,B2,B2,B2,B2,B2,B2,B2,B2,trivial⟩ ?_ (λu=>?_)
       ·exact B6 (fun {u _}=>Bg (Ah Aa)) (B6 (fun {u _}=>Bg (Ah Aa)) (B6 (fun {u _}=>Bv (b:=hd.1) Aa Aa h1 (Bg (Ah Aa))) (B6 (fun {u _}=>Bv (b:=hd.1) Aa Aa h1 (Bg (Ah Aa))) (B6 (fun {u _}=>Br (b:=hm) Aa Aa hA) (B6 (fun {u _}=>Br (b:=hm) Aa Aa hA) (B6 (fun {u _}=>Br (b:=hm) Aa Aa hA) (B6 (fun {u _}=>Br (b:=hm) Aa Aa hA) (B6 (fun {u _}=>Br (b:=hm) Aa Aa hA) (B6 (fun {u _}=>Br (b:=hm) Aa Aa hA) (B6 (fun {u _}=>Bv (b:=hd.1) Aa Aa h1 (Bg (r:=rB true) (A3 (b:=hm) Aa hA Aa))) (B6 (fun {u _}=>Bv (b:=hd.1) Aa Aa h1 (Bg (Ah Aa))) (B6 (fun {u _}=>Br (b:=true) Aa Aa Aa) (B6 (fun {u _}=>Br (b:=true) Aa Aa Aa) (B6 (fun {u _}=>Br (b:=true) Aa Aa Aa) (B6 (fun {u _}=>Br (b:=true) Aa Aa Aa) (B6 (fun {u _}=>Br (b:=true) Aa Aa Aa) (B6 (fun {u _}=>Br (b:=true) Aa Aa Aa) (B6 (fun {u _}=>Br (b:=true) Aa Aa Aa) (B6 (fun {u _}=>Br (b:=true) Aa Aa Aa) (US))))))))))))))))))))
       refine Cr (H1:=[.blk hg [rB hd.2.2.fMade,rv hk,rv (.map (some he)),rv (.map (some hf)),rv hl] 59,.row hk 9 1 (A8 eS hd.2.2.fEvents),.map he (AF Ak hd.2.2.fResults),.map hf (AF Ad hd.2.2.fKeys),.row hl 67 8 (A8 Ab hd.2.2.fPending),.row hn 9 1 (A8 eS hh)]) [72,73,74,75,76,77,78,79,80,81,82,83,84,85,86,87,88,89,90,91,0,1,5,6,7,8,9,10,11,12,13,14] ?_;exact wz Aa Aa (wz Aa Aa (wo h1 (wv (r:=rB true) (A3 (b:=true) Aa Aa Aa) (GC Aa h1 Aa (Ar (A1 (AG (true,()) vP (AI.c Aa (AI.c Aa (AI.c Aa (AI.c5 Aa Aa Aa Aa Aa (AI.c5 Aa Aa Aa Aa Aa AI.nil))))) (sC (sC (sC (sC (sC (sC sN)))))))))))))
      refine bz vQ (λh5 vR=>?_) (λh5 vS=>?_)
      ·refine EG 20 [] [0,1,5,6,7,8,9,10,11,12,13,14] [] [{ deps:=[],r:=λ_=>rB hd.1 },{ deps:=[0],r:=λ_=>rB hd.1 },{ deps:=[1],r:=λ_=>rB hm },{ deps:=[2,1],r:=λ_=>rB hm },{ deps:=[3],r:=λ_=>Be 9 (A8 AL l) },{ deps:=[3],r:=λ_=>A4 ha },{ deps:=[4,5,3],r:=λ_=>I4 [A4 ((Al l ha).fKind),rS (((Al l ha).fC).fEvent),rS (((Al l ha).fC).fTenant),A4 (((Al l ha).fC).fAttempt),Be 4 (A8 Af (((Al l ha).fC).fResult)),Be 4 (A8 Au (((Al l ha).fC).fEffects)),A4 (((Al l ha).fC).fAt),rS ((Al l ha).fS),A4 ((Al l ha).fN)] },{ deps:=[6,3],r:=λ_=>I4 [A4 ((Al l ha).fKind),rS (((Al l ha).fC).fEvent),rS (((Al l ha).fC).fTenant),A4 (((Al l ha).fC).fAttempt),Be 4 (A8 Af (((Al l ha).fC).fResult)),Be 4 (A8 Au (((Al l ha).fC).fEffects)),A4 (((Al l ha).fC).fAt),rS ((Al l ha).fS),A4 ((Al l ha).fN)] },{ deps:=[7,3],r:=λ_=>A4 ((Al l ha).fKind) },{ deps:=[8,3],r:=λ_=>rB (!decide (((Al l ha).fKind)=0)) },{ deps:=[3,9,1],r:=λ_=>rB (!decide (((Al l ha).fKind)=0)) },{ deps:=[10,1],r:=λ_=>rB (!decide (((Al l ha).fKind)=0)) },{ deps:=[11],r:=λ_=>rv undef },{ deps:=[12,11],r:=λ_=>rv undef },{ deps:=[11],r:=λ_=>rv undef },{ deps:=[11],r:=λ_=>rv undef },{ deps:=[14,15,11],r:=λ_=>rv undef },{ deps:=[16,11],r:=λ_=>rv undef },{ deps:=[17,11],r:=λ_=>rv undef },{ deps:=[18,11],r:=λ_=>rv undef }] [λ_=>[.blk hg [rB hd.2.2.fMade,rv hk,rv (.map (some he)),rv (.map (some hf)),rv hl] 59,.row hk 9 1 (A8 eS hd.2.2.fEvents),.map he (AF Ak hd.2.2.fResults),.map hf (AF Ad hd.2.2.fKeys),.row hl 67 8 (A8 Ab hd.2.2.fPending),.row hn 9 1 (A8 eS hh)]] ⟨B2,B2,B2,B2,B2,B2,B2,B2,B2,B2,B2,B2,B2,B2,B2,B2,B2,B2,B2,B2,trivial⟩ ?_ (λu=>?_)
       ·exact B6 (fun {u _}=>Bg (Ah Aa)) (B6 (fun {u _}=>Bg (Ah Aa)) (B6 (fun {u _}=>Bv (b:=hd.1) Aa Aa h1 (Bg (Ah Aa))) (B6 (fun {u _}=>Bv (b:=hd.1) Aa Aa h1 (Bg (Ah Aa))) (B6 (fun {u _}=>Bv (b:=hm) Aa Aa hA (Bg (Ah Aa))) (B6 (fun {u _}=>Bv (b:=hm) Aa Aa hA (Bg (Ah Aa))) (B6 (fun {u _}=>Bv (b:=hm) Aa Aa hA (Bg (AU (enc:=AL) (ys:=l) HH HI Aa Aa h7))) (B6 (fun {u _}=>Bv (b:=hm) Aa Aa hA (Bg (Av Ga Aa C2 Aa Aa))) (B6 (fun {u _}=>Bv (b:=hm) Aa Aa hA (Bg (AH CO Aa Aa))) (B6 (fun {u _}=>Bv (b:=hm) Aa Aa hA (Bg (Cl Aa Aa))) (B6 (fun {u _}=>Bv (b:=hd.1) Aa Aa h1 (Bg (Ay Aa hA Aa))) (B6 (fun {u _}=>Bv (b:=hd.1) Aa Aa h1 (Bg (Ah Aa))) (B6 (fun {u _}=>Br (b:=!decide (((Al l ha).fKind)=0)) Aa Aa h5) (B6 (fun {u _}=>Br (b:=!decide (((Al l ha).fKind)=0)) Aa Aa h5) (B6 (fun {u _}=>Br (b:=!decide (((Al l ha).fKind)=0)) Aa Aa h5) (B6 (fun {u _}=>Br (b:=!decide (((Al l ha).fKind)=0)) Aa Aa h5) (B6 (fun {u _}=>Br (b:=!decide (((Al l ha).fKind)=0)) Aa Aa h5) (B6 (fun {u _}=>Br (b:=!decide (((Al l ha).fKind)=0)) Aa Aa h5) (B6 (fun {u _}=>Br (b:=!decide (((Al l ha).fKind)=0)) Aa Aa h5) (B6 (fun {u _}=>Br (b:=!decide (((Al l ha).fKind)=0)) Aa Aa h5) (US))))))))))))))))))))
       refine Cr (H1:=[.blk hg [rB hd.2.2.fMade,rv hk,rv (.map (some he)),rv (.map (some hf)),rv hl] 59,.row hk 9 1 (A8 eS hd.2.2.fEvents),.map he (AF Ak hd.2.2.fResults),.map hf (AF Ad hd.2.2.fKeys),.row hl 67 8 (A8 Ab hd.2.2.fPending),.row hn 9 1 (A8 eS hh)]) [72,73,74,75,76,77,78,79,80,81,82,83,84,85,86,87,88,89,90,91,0,1,5,6,7,8,9,10,11,12,13,14] ?_;exact wf h5 (wf h5 (wo h1 (wv (r:=rB true) (A3 Aa h5 Aa) (GC Aa h1 Aa (Ar (A1 (AG (true,()) vR (AI.c Aa (AI.c Aa (AI.c Aa (AI.c5 Aa Aa Aa Aa Aa (AI.c5 Aa Aa Aa Aa Aa AI.nil))))) (sC (sC (sC (sC (sC (sC sN)))))))))))))
      refine ob vS λca vT vU=>EG 20 [] [0,1,5,6,7,8,9,10,11,12,13,14] [] [{ deps:=[],r:=λ_=>rB hd.1 },{ deps:=[0],r:=λ_=>rB hd.1 },{ deps:=[1],r:=λ_=>rB hm },{ deps:=[2,1],r:=λ_=>rB hm },{ deps:=[3],r:=λ_=>Be 9 (A8 AL l) },{ deps:=[3],r:=λ_=>A4 ha },{ deps:=[4,5,3],r:=λ_=>I4 [A4 ((Al l ha).fKind),rS (((Al l ha).fC).fEvent),rS (((Al l ha).fC).fTenant),A4 (((Al l ha).fC).fAttempt),Be 4 (A8 Af (((Al l ha).fC).fResult)),Be 4 (A8 Au (((Al l ha).fC).fEffects)),A4 (((Al l ha).fC).fAt),rS ((Al l ha).fS),A4 ((Al l ha).fN)] },{ deps:=[6,3],r:=λ_=>I4 [A4 ((Al l ha).fKind),rS (((Al l ha).fC).fEvent),rS (((Al l ha).fC).fTenant),A4 (((Al l ha).fC).fAttempt),Be 4 (A8 Af (((Al l ha).fC).fResult)),Be 4 (A8 Au (((Al l ha).fC).fEffects)),A4 (((Al l ha).fC).fAt),rS ((Al l ha).fS),A4 ((Al l ha).fN)] },{ deps:=[7,3],r:=λ_=>A4 ((Al l ha).fKind) },{ deps:=[8,3],r:=λ_=>rB (!decide (((Al l ha).fKind)=0)) },{ deps:=[3,9,1],r:=λ_=>rB (!decide (((Al l ha).fKind)=0)) },{ deps:=[10,1],r:=λ_=>rB (!decide (((Al l ha).fKind)=0)) },{ deps:=[11],r:=λ_=>rP hg 0 },{ deps:=[12,11],r:=λ_=>Be 1 (A8 eS ca),fx:=true },{ deps:=[11],r:=λ_=>Be 9 (A8 AL l) },{ deps:=[11],r:=λ_=>A4 ha },{ deps:=[14,15,11],r:=λ_=>I4 [A4 ((Al l ha).fKind),rS (((Al l ha).fC).fEvent),rS (((Al l ha).fC).fTenant),A4 (((Al l ha).fC).fAttempt),Be 4 (A8 Af (((Al l ha).fC).fResult)),Be 4 (A8 Au (((Al l ha).fC).fEffects)),A4 (((Al l ha).fC).fAt),rS ((Al l ha).fS),A4 ((Al l ha).fN)] },{ deps:=[16,11],r:=λ_=>I4 [rS (((Al l ha).fC).fEvent),rS (((Al l ha).fC).fTenant),A4 (((Al l ha).fC).fAttempt),Be 4 (A8 Af (((Al l ha).fC).fResult)),Be 4 (A8 Au (((Al l ha).fC).fEffects)),A4 (((Al l ha).fC).fAt),rS ((Al l ha).fS),A4 ((Al l ha).fN)] },{ deps:=[17,11],r:=λ_=>I4 [rS (((Al l ha).fC).fEvent),rS (((Al l ha).fC).fTenant),A4 (((Al l ha).fC).fAttempt),Be 4 (A8 Af (((Al l ha).fC).fResult)),Be 4 (A8 Au (((Al l ha).fC).fEffects)),A4 (((Al l ha).fC).fAt),rS ((Al l ha).fS),A4 ((Al l ha).fN)] },{ deps:=[18,11],r:=λ_=>rS (((Al l ha).fC).fEvent) }] [λ_=>[.blk hg [rB hd.2.2.fMade,rv hk,rv (.map (some he)),rv (.map (some hf)),rv hl] 59,.row hk 9 1 (A8 eS hd.2.2.fEvents),.map he (AF Ak hd.2.2.fResults),.map hf (AF Ad hd.2.2.fKeys),.row hl 67 8 (A8 Ab hd.2.2.fPending),.row hn 9 1 (A8 eS hh)]] ⟨B2,B2,B2,B2,B2,B2,B2,B2,B2,B2,B2,B2,B2,B2,B2,B2,B2,B2,B2,B2,trivial⟩ ?_ (λu=>?_)
      ·exact B6 (fun {u _}=>Bg (Ah Aa)) (B6 (fun {u _}=>Bg (Ah Aa)) (B6 (fun {u _}=>Bv (b:=hd.1) Aa Aa h1 (Bg (Ah Aa))) (B6 (fun {u _}=>Bv (b:=hd.1) Aa Aa h1 (Bg (Ah Aa))) (B6 (fun {u _}=>Bv (b:=hm) Aa Aa hA (Bg (Ah Aa))) (B6 (fun {u _}=>Bv (b:=hm) Aa Aa hA (Bg (Ah Aa))) (B6 (fun {u _}=>Bv (b:=hm) Aa Aa hA (Bg (AU (enc:=AL) (ys:=l) HH HI Aa Aa h7))) (B6 (fun {u _}=>Bv (b:=hm) Aa Aa hA (Bg (Av Ga Aa C2 Aa Aa))) (B6 (fun {u _}=>Bv (b:=hm) Aa Aa hA (Bg (AH CO Aa Aa))) (B6 (fun {u _}=>Bv (b:=hm) Aa Aa hA (Bg (Cl Aa Aa))) (B6 (fun {u _}=>Bv (b:=hd.1) Aa Aa h1 (Bg (Ay Aa hA Aa))) (B6 (fun {u _}=>Bv (b:=hd.1) Aa Aa h1 (Bg (Ah Aa))) (B6 (fun {u _}=>Bv (b:=!decide (((Al l ha).fKind)=0)) Aa Aa h5 (Bg (Ah Aa))) (Wx (fun {u}=>Bv (b:=!decide (((Al l ha).fKind)=0)) Aa Aa h5 (D0 (Hin:=[.blk hg [rB hd.2.2.fMade,rv hk,rv (.map (some he)),rv (.map (some hf)),rv hl] 59,.row hk 9 1 (A8 eS hd.2.2.fEvents),.map he (AF Ak hd.2.2.fResults),.map hf (AF Ad hd.2.2.fKeys),.row hl 67 8 (A8 Ab hd.2.2.fPending)]) (Hr:=[.row hn 9 1 (A8 eS hh)]) QB Aa (Agn _) (Eg hg hk he hf hl hd.2.2 ca vT))) (B6 (fun {u _}=>Bv (b:=!decide (((Al l ha).fKind)=0)) Aa Aa h5 (Bg (Ah Aa))) (B6 (fun {u _}=>Bv (b:=!decide (((Al l ha).fKind)=0)) Aa Aa h5 (Bg (Ah Aa))) (B6 (fun {u _}=>Bv (b:=!decide (((Al l ha).fKind)=0)) Aa Aa h5 (Bg (AU (enc:=AL) (ys:=l) HH HI Aa Aa h7))) (B6 (fun {u _}=>Bv (b:=!decide (((Al l ha).fKind)=0)) Aa Aa h5 (Bg (Av Ga Aa DY Aa Aa))) (B6 (fun {u _}=>Bv (b:=!decide (((Al l ha).fKind)=0)) Aa Aa h5 (Bg (Av CB Aa BS Aa Aa))) (B6 (fun {u _}=>Bv (b:=!decide (((Al l ha).fKind)=0)) Aa Aa h5 (Bg (AH Cf Aa Aa))) (US))))))))))))))))))))
      refine Cr (H1:=[.blk hg [rB hd.2.2.fMade,rv hk,rv (.map (some he)),rv (.map (some hf)),rv hl] 59,.row hk 9 1 (A8 eS hd.2.2.fEvents),.map he (AF Ak hd.2.2.fResults),.map hf (AF Ad hd.2.2.fKeys),.row hl 67 8 (A8 Ab hd.2.2.fPending),.row hn 9 1 (A8 eS hh)]) [72,73,74,75,76,77,78,79,80,81,82,83,84,85,86,87,88,89,90,91,0,1,5,6,7,8,9,10,11,12,13,14] ?_;exact wo h5 (ob vU λcw vV vW=>DM Mg (Kc F ca (((Al l ha).fC).fEvent) cw vV) Aa (wo h5 (wv (BJ Aa) (wo h1 (GO Aa h5 Aa (GC Aa h1 Aa (Ar (A1 (AG (!cw,()) vW (AI.c Aa (AI.c Aa (AI.c Aa (AI.c5 Aa Aa Aa Aa Aa (AI.c5 Aa Aa Aa Aa Aa AI.nil))))) (sC (sC (sC (sC (sC (sC sN)))))))))))))))
     refine EG 20 [] [0,1,5,6,7,8,9,10,11,12,13,14] [] [{ deps:=[],r:=λ_=>rB hd.1 },{ deps:=[0],r:=λ_=>rB hd.1 },{ deps:=[1],r:=λ_=>rv undef },{ deps:=[2,1],r:=λ_=>rv undef },{ deps:=[3],r:=λ_=>rv undef },{ deps:=[3],r:=λ_=>rv undef },{ deps:=[4,5,3],r:=λ_=>rv undef },{ deps:=[6,3],r:=λ_=>rv undef },{ deps:=[7,3],r:=λ_=>rv undef },{ deps:=[8,3],r:=λ_=>rv undef },{ deps:=[3,9,1],r:=λ_=>rv undef },{ deps:=[10,1],r:=λ_=>rv undef },{ deps:=[11],r:=λ_=>rv undef },{ deps:=[12,11],r:=λ_=>rv undef },{ deps:=[11],r:=λ_=>rv undef },{ deps:=[11],r:=λ_=>rv undef },{ deps:=[14,15,11],r:=λ_=>rv undef },{ deps:=[16,11],r:=λ_=>rv undef },{ deps:=[17,11],r:=λ_=>rv undef },{ deps:=[18,11],r:=λ_=>rv undef }] [λ_=>[.blk hg [rB hd.2.2.fMade,rv hk,rv (.map (some he)),rv (.map (some hf)),rv hl] 59,.row hk 9 1 (A8 eS hd.2.2.fEvents),.map he (AF Ak hd.2.2.fResults),.map hf (AF Ad hd.2.2.fKeys),.row hl 67 8 (A8 Ab hd.2.2.fPending),.row hn 9 1 (A8 eS hh)]] ⟨B2,B2,B2,B2,B2,B2,B2,B2,B2,B2,B2,B2,B2,B2,B2,B2,B2,B2,B2,B2,trivial⟩ ?_ (λu=>?_)
     ·exact B6 (fun {u _}=>Bg (Ah Aa)) (B6 (fun {u _}=>Bg (Ah Aa)) (B6 (fun {u _}=>Br (b:=hd.1) Aa Aa h1) (B6 (fun {u _}=>Br (b:=hd.1) Aa Aa h1) (B6 (fun {u _}=>Cd Aa Aa) (B6 (fun {u _}=>Cd Aa Aa) (B6 (fun {u _}=>Cd Aa Aa) (B6 (fun {u _}=>Cd Aa Aa) (B6 (fun {u _}=>Cd Aa Aa) (B6 (fun {u _}=>Cd Aa Aa) (B6 (fun {u _}=>Br (b:=hd.1) Aa Aa h1) (B6 (fun {u _}=>Br (b:=hd.1) Aa Aa h1) (B6 (fun {u _}=>Cd Aa Aa) (B6 (fun {u _}=>Cd Aa Aa) (B6 (fun {u _}=>Cd Aa Aa) (B6 (fun {u _}=>Cd Aa Aa) (B6 (fun {u _}=>Cd Aa Aa) (B6 (fun {u _}=>Cd Aa Aa) (B6 (fun {u _}=>Cd Aa Aa) (B6 (fun {u _}=>Cd Aa Aa) (US))))))))))))))))))))
     refine Cr (H1:=[.blk hg [rB hd.2.2.fMade,rv hk,rv (.map (some he)),rv (.map (some hf)),rv hl] 59,.row hk 9 1 (A8 eS hd.2.2.fEvents),.map he (AF Ak hd.2.2.fResults),.map hf (AF Ad hd.2.2.fKeys),.row hl 67 8 (A8 Ab hd.2.2.fPending),.row hn 9 1 (A8 eS hh)]) [72,73,74,75,76,77,78,79,80,81,82,83,84,85,86,87,88,89,90,91,0,1,5,6,7,8,9,10,11,12,13,14] ?_;exact wu (wu (wf h1 (wv (r:=rB false) (Ay Aa h1 Aa) (Ar (A1 (AG (false,()) vO (AI.c Aa (AI.c Aa (AI.c Aa (AI.c5 Aa Aa Aa Aa Aa (AI.c5 Aa Aa Aa Aa Aa AI.nil))))) (sC (sC (sC (sC (sC (sC sN))))))))))))
    rintro⟨vX,⟨⟩⟩ gF;refine EL ?_;replace gF:E7 F l tenant hh ha gc gg gd hm hd vX=some hK:=gF;unfold E7 at gF;refine cz gF Aa (λvY vZ=>?_) (λvY ba=>?_)
    ·refine Am (wa Aa (Ax (A6 (Ae (A7 (Ae (Ae (Bc ?_))))))));have bb:=B4 vZ hY hZ;refine A7 (Ae ?_);obtain rfl:=AA bb;exact A5 (Cp YX (AT Aa)) (sS (sS (sS (sS (sS (sS sN)))))) ⟨Aa,Aa⟩
    refine A0 (AY (Cg (S:=(Bool)×(Unit)) (λσ=>E1 F l hh ha hm hd σ.1=some hK) (λσ=>[(0,Be 9 (A8 AL l)),(1,rS tenant),(5,rP hg 0),(6,rv hn),(7,A4 ha),(11,rB hm),(12,rS ((Al l ha).fS)),(13,rB hd.1),(14,A4 hd.2.1),(15,rB σ.1)]) (λσ=>[.blk hg [rB hd.2.2.fMade,rv hk,rv (.map (some he)),rv (.map (some hf)),rv hl] 59,.row hk 9 1 (A8 eS hd.2.2.fEvents),.map he (AF Ak hd.2.2.fResults),.map hf (AF Ad hd.2.2.fKeys),.row hl 67 8 (A8 Ab hd.2.2.fPending),.row hn 9 1 (A8 eS hh)]) ?_ ?_))
    ·refine Ap (wm Aa (wm Aa (ob ba λcx bc bd=>Du [0,0,0,0,0] Pg (D1 F hg hk he hf hl hd.2.2 cx bc) ?_)));rintro _ _ ⟨rfl,rfl⟩;refine ob bd λbe bf bg=>DM Tryz.call19 (Nc F gc cx be bf) Aa (wm Aa (bz bg (λhX bh=>?_) (λhX bi=>?_)))
     ·refine wo hX (wm Aa (wo hX (wm Aa (wo hX (wm Aa (wo hX (ob bh λcy bj bk=>Du [0,0,0,0,0] Xp (Jr F hg hk he hf hl hd.2.2 tenant cy bj) ?_)))))));rintro _ _ ⟨rfl,rfl⟩;refine wo hX (ob bk λbl bm bn=>DM Tryz.call22 (PV F gg cy bl bm) Aa (GC Aa hX Aa (wm Aa (bz bn (λgb bo=>?_) (λgb bp=>?_)))))
      ·refine wo gb (wm Aa (wo gb (wm Aa (wo gb (ob bo λc0 bq br=>Du [0,0,0,0,0] QB (Eg hg hk he hf hl hd.2.2 c0 bq) ?_)))));rintro _ _ ⟨rfl,rfl⟩;exact wo gb (ob br λc2 bs bt=>DM Tryz.call16 (Qd F gd c0 c2 bs) Aa (GC Aa gb Aa (wa Aa (Ar (A1 (AG (c2,()) bt (AI.c5 Aa Aa Aa Aa Aa (AI.c5 Aa Aa Aa Aa Aa AI.nil)) (sC (sC (sC (sC (sC (sC sN))))))))))))
      exact wf gb (wf gb (wf gb (wf gb (wv (r:=rB false) (Ay Aa gb Aa) (wa Aa (Ar (A1 (AG (false,()) bp (AI.c5 Aa Aa Aa Aa Aa (AI.c5 Aa Aa Aa Aa Aa AI.nil)) (sC (sC (sC (sC (sC (sC sN))))))))))))))
     exact wf hX (wf hX (wf hX (wf hX (wf hX (wv (r:=rB false) (Ay Aa hX Aa) (wm Aa (wz Aa Aa (wz Aa Aa (wz Aa Aa (wz Aa Aa (wv (r:=rB false) (Ay (b:=false) Aa Aa Aa) (wa Aa (Ar (A1 (AG (false,()) bi (AI.c5 Aa Aa Aa Aa Aa (AI.c5 Aa Aa Aa Aa Aa AI.nil)) (sC (sC (sC (sC (sC (sC sN)))))))))))))))))))))
    rintro⟨gx,⟨⟩⟩ gG;refine EL ?_;replace gG:E1 F l hh ha hm hd gx=some hK:=gG;unfold E1 at gG;refine Aq (AV [(0,Be 9 (A8 AL l)),(1,rS tenant),(5,rP hg 0),(6,rv hn),(7,A4 ha),(11,rB hm),(12,rS ((Al l ha).fS)),(14,A4 hd.2.1),(15,rB gx),(136,rB (bif !decide (hd.2.1=0) then((!gx)||((decide (((Al l ha).fKind)=0))&&(hm&&(hd.1||(!gx))))) else((decide (((Al l ha).fKind)=0))&&(hm&&(hd.1||(!gx))))))] [.blk hg [rB hd.2.2.fMade,rv hk,rv (.map (some he)),rv (.map (some hf)),rv hl] 59,.row hk 9 1 (A8 eS hd.2.2.fEvents),.map he (AF Ak hd.2.2.fResults),.map hf (AF Ad hd.2.2.fKeys),.row hl 67 8 (A8 Ab hd.2.2.fPending),.row hn 9 1 (A8 eS hh)] ?_ ?_)
    ·refine Ap (wm Aa (wv (Cl Aa Aa) (wm Aa (AZ (!decide (hd.2.1=0)) (λhQ=>?_) (λhQ=>?_)))))
     ·refine wo hQ (wm Aa (wo hQ (wv (BJ Aa) (GC Aa hQ Aa (wm Aa (AZ (!gx) (λhy=>?_) (λhy=>?_)))))))
      ·refine wf hy (wf hy (wf hy (wf hy (wf hy (wf hy (wf hy (wu (wf hy (wf hy (wu (wu (wu (wu (wu (wf hy (wv (r:=rB true) (A3 Aa hy Aa) (Ar ?_)))))))))))))))));exact C8 (And.intro hQ hy)
      refine wo hy (wm Aa (wo hy (wm Aa (wo hy (wv (AU (enc:=AL) (ys:=l) HH HI Aa Aa h7) (wo hy (wv (Av Ga Aa C2 Aa Aa) (wo hy (wv (AH CO Aa Aa) (wo hy (wv (BT Aa Aa) (wo hy (wm Aa (AZ (decide (((Al l ha).fKind)=0)) (λgq=>?_) (λgq=>?_)))))))))))))))
      ·refine wo gq (wm Aa (wo hy (GC Aa gq Aa (wo hy (wm Aa (AZ (hm) (λhU=>?_) (λhU=>?_)))))))
       ·refine wo hU (wm Aa (wo hU (wm Aa (AZ (hd.1) (λgr=>?_) (λgr=>?_)))))
        ·refine wf gr (wf gr (wo hU (wv (r:=rB true) (A3 Aa gr Aa) (wo hy (GC Aa hU Aa (GO Aa hy Aa (Ar ?_)))))));exact C8 (And.intro hQ (And.intro hy (And.intro gq (And.intro hU gr))))
        refine wo gr (wm Aa (wo gr (wv (BJ Aa) (wo hU (GO Aa gr Aa (wo hy (GC Aa hU Aa (GO Aa hy Aa (Ar ?_)))))))));exact C8 (And.intro hQ (And.intro hy (And.intro gq (And.intro hU gr))))
       refine wf hU (wf hU (wu (wu (wf hU (wo hy (wv (r:=rB false) (Ay Aa hU Aa) (GO Aa hy Aa (Ar ?_))))))));exact C8 (And.intro hQ (And.intro hy (And.intro gq hU)))
      refine wf gq (wo hy (wv (r:=rB false) (Ay Aa gq Aa) (wo hy (wm Aa (wz Aa Aa (wz Aa Aa (wu (wu (wz Aa Aa (wo hy (wv (r:=rB false) (Ay (b:=false) Aa Aa Aa) (GO Aa hy Aa (Ar ?_)))))))))))));exact C8 (And.intro hQ (And.intro hy gq))
     refine wf hQ (wf hQ (wv (r:=rB false) (Ay Aa hQ Aa) (wm Aa (AM (b:=false) Aa Aa Aa (wm Aa (AM (b:=false) Aa Aa Aa (wm Aa (AM (b:=false) Aa Aa Aa (wv (AU (enc:=AL) (ys:=l) HH HI Aa Aa h7) (AM (b:=false) Aa Aa Aa (wv (Av Ga Aa C2 Aa Aa) (AM (b:=false) Aa Aa Aa (wv (AH CO Aa Aa) (AM (b:=false) Aa Aa Aa (wv (BT Aa Aa) (AM (b:=false) Aa Aa Aa (wm Aa (AZ (decide (((Al l ha).fKind)=0)) (λgs=>?_) (λgs=>?_)))))))))))))))))))
     ·refine wo gs (wm Aa (AM (b:=false) Aa Aa Aa (GC Aa gs Aa (AM (b:=false) Aa Aa Aa (wm Aa (AZ (hm) (λhV=>?_) (λhV=>?_)))))))
      ·refine wo hV (wm Aa (wo hV (wm Aa (AZ (hd.1) (λgt=>?_) (λgt=>?_)))))
       ·refine wf gt (wf gt (wo hV (wv (r:=rB true) (A3 Aa gt Aa) (AM (b:=false) Aa Aa Aa (GC Aa hV Aa (wv (r:=rB true) (Ay (b:=false) Aa Aa Aa) (Ar ?_)))))));exact C8 (And.intro hQ (And.intro gs (And.intro hV gt)))
       refine wo gt (wm Aa (wo gt (wv (BJ Aa) (wo hV (GO Aa gt Aa (AM (b:=false) Aa Aa Aa (GC Aa hV Aa (wv (r:=rB (!gx)) (Ay (b:=false) Aa Aa Aa) (Ar ?_)))))))));exact C8 (And.intro hQ (And.intro gs (And.intro hV gt)))
      refine wf hV (wf hV (wu (wu (wf hV (AM (b:=false) Aa Aa Aa (wv (r:=rB false) (Ay Aa hV Aa) (wv (r:=rB false) (Ay (b:=false) Aa Aa Aa) (Ar ?_))))))));exact C8 (And.intro hQ (And.intro gs hV))
     refine wf gs (AM (b:=false) Aa Aa Aa (wv (r:=rB false) (Ay Aa gs Aa) (AM (b:=false) Aa Aa Aa (wm Aa (wz Aa Aa (wz Aa Aa (wu (wu (wz Aa Aa (AM (b:=false) Aa Aa Aa (wv (r:=rB false) (Ay (b:=false) Aa Aa Aa) (wv (r:=rB false) (Ay (b:=false) Aa Aa Aa) (Ar ?_)))))))))))));exact C8 (And.intro hQ gs)
    refine cz gG Aa (λbu bv=>?_) (λbu bw=>?_)
    ·refine Am (wa Aa (Ax (A6 (Ae (A7 (Ae (Ae (Bc ?_))))))));have bx:=B4 bv hY hZ;refine A7 (Ae ?_);obtain rfl:=AA bx;exact A5 (Cp YX (AT Aa)) (sS (sS (sS (sS (sS (sS sN)))))) ⟨Aa,Aa⟩
    refine A0 (AY (Aq (AV [(0,Be 9 (A8 AL l)),(1,rS tenant),(5,rP hg 0),(6,rv hn),(7,A4 ha),(12,rS ((Al l ha).fS)),(14,A4 hd.2.1),(153,rB ((decide (((Al l ha).fKind)=4))&&(hm&&((decide (hd.2.1=0))&&(!gx)))))] [.blk hg [rB hd.2.2.fMade,rv hk,rv (.map (some he)),rv (.map (some hf)),rv hl] 59,.row hk 9 1 (A8 eS hd.2.2.fEvents),.map he (AF Ak hd.2.2.fResults),.map hf (AF Ad hd.2.2.fKeys),.row hl 67 8 (A8 Ab hd.2.2.fPending),.row hn 9 1 (A8 eS hh)] ?_ ?_)))
    ·refine Ap (wm Aa (wm Aa (wv (AU (enc:=AL) (ys:=l) HH HI Aa Aa h7) (wv (Av Ga Aa C2 Aa Aa) (wv (AH CO Aa Aa) (wv (BT Aa Aa) (wm Aa (AZ (decide (((Al l ha).fKind)=4)) (λgu=>?_) (λgu=>?_)))))))))
     ·refine wo gu (wm Aa (GC Aa gu Aa (wm Aa (AZ (hm) (λgf=>?_) (λgf=>?_)))))
      ·refine wo gf (wm Aa (wo gf (wv (BT Aa Aa) (GC Aa gf Aa (wm Aa (AZ (decide (hd.2.1=0)) (λgv=>?_) (λgv=>?_)))))))
       ·refine wo gv (wm Aa (wo gv (wv (BJ Aa) (GC Aa gv Aa (Ar ?_)))));exact C8 (And.intro gu (And.intro gf gv))
       refine wf gv (wf gv (wv (r:=rB false) (Ay Aa gv Aa) (Ar ?_)));exact C8 (And.intro gu (And.intro gf gv))
      refine wf gf (wf gf (wv (r:=rB false) (Ay Aa gf Aa) (wm Aa (wz Aa Aa (wz Aa Aa (wv (r:=rB false) (Ay (b:=false) Aa Aa Aa) (Ar ?_)))))));exact C8 (And.intro gu gf)
     refine wf gu (wv (r:=rB false) (Ay Aa gu Aa) (wm Aa (wz Aa Aa (wz Aa Aa (wv (r:=rB false) (Ay (b:=false) Aa Aa Aa) (wm Aa (wz Aa Aa (wz Aa Aa (wv (r:=rB false) (Ay (b:=false) Aa Aa Aa) (Ar ?_))))))))));exact C8 gu
    refine cz bw Aa (λb0 b1=>?_) (λb0 b2=>?_)
    ·refine Am (wa Aa (Ax (A6 (Ae (A7 (Ae (Ae (Bc ?_))))))));have b3:=B4 b1 hY hZ;refine A7 (Ae ?_);obtain rfl:=AA b3;exact A5 (Cp YX (AT Aa)) (sS (sS (sS (sS (sS (sS sN)))))) ⟨Aa,Aa⟩
    refine A0 (AY (Aq (AV [(0,Be 9 (A8 AL l)),(1,rS tenant),(5,rP hg 0),(6,rv hn),(7,A4 ha),(12,rS ((Al l ha).fS)),(171,rB ((decide (((Al l ha).fKind)=1))&&(decide (hd.2.1=0))))] [.blk hg [rB hd.2.2.fMade,rv hk,rv (.map (some he)),rv (.map (some hf)),rv hl] 59,.row hk 9 1 (A8 eS hd.2.2.fEvents),.map he (AF Ak hd.2.2.fResults),.map hf (AF Ad hd.2.2.fKeys),.row hl 67 8 (A8 Ab hd.2.2.fPending),.row hn 9 1 (A8 eS hh)] ?_ ?_)))
    ·refine Ap (wm Aa (wm Aa (wv (AU (enc:=AL) (ys:=l) HH HI Aa Aa h7) (wv (Av Ga Aa C2 Aa Aa) (wv (AH CO Aa Aa) (wv (BT Aa Aa) (wm Aa (AZ (decide (((Al l ha).fKind)=1)) (λhO=>?_) (λhO=>?_)))))))))
     ·refine wf hO (wf hO (wf hO (wf hO (wf hO (wf hO (wv (r:=rB true) (A3 Aa hO Aa) (wm Aa (AM (b:=true) Aa Aa Aa (wm Aa (AM (b:=true) Aa Aa Aa (wv (BT Aa Aa) (wv (r:=rB (decide (hd.2.1=0))) (A3 (b:=true) Aa Aa Aa) (Ar ?_)))))))))))));exact C8 hO
     refine wo hO (wm Aa (wo hO (wm Aa (wo hO (wv (AU (enc:=AL) (ys:=l) HH HI Aa Aa h7) (wo hO (wv (Av Ga Aa C2 Aa Aa) (wo hO (wv (AH CO Aa Aa) (wo hO (wv (BT Aa Aa) (GO Aa hO Aa (wm Aa (wf gy (wf gy (wv (r:=rB false) (Ay Aa gy Aa) (Ar ?_)))))))))))))))));exact C8 hO
    refine cz b2 Aa (λb4 b5=>?_) (λb4 b6=>?_)
    ·refine Ap (wm Aa (wm Aa (Bf (ys:=([(Al l ha).fS]:List Aj)) (enc:=eS) (css:=[[rS ((Al l ha).fS)]]) (xs:=[.tmp 173]) C7 BS Tk Aa Aa Aa ⟨Em.one Aa (Up.refl _),trivial⟩ Aa Di Aa Aa Aa (λrV=>?_))));refine ck b5 λb7 b8=>Exists.elim Ng λinf hinf=>Cc (xs:=hh) (ys:=([(Al l ha).fS]:List Aj)) (enc:=eS) (i:=6) C7 hinf.1 hinf.2.1 hinf.2.2.1 hinf.2.2.2 Aa Aa Aa Aa Aa (JD.w (i:=0) Aa Aa) Di Kd b7 Aa (λhN=>?_);refine wa Aa (B3 (wm Aa (ob b8 λhq b9 bA=>Du [2,2,2,2,2] Pg (D1 F hg hk he hf hl hd.2.2 hq b9) ?_)));rintro _ _ ⟨rfl,rfl⟩;refine wa Aa (B3 (wa Aa (Ax (AO (ob bA λbB bC c3=>B5 (S:=Nat×(Int)×(Unit)) (V:=(Int×Int×Bool)×(Unit)) 2 (λσ=>Cj (λσ=>Hh F l hh ha hd hq σ) σ.1 σ.2.1=some bB) (λσ=>[(0,Be 9 (A8 AL l)),(1,rS tenant),(5,rP hg 0),(6,rv hN),(7,A4 ha),(16,Be 8 (A8 Ab hq)),(17,A4 σ.2.1)]) (λσ=>[.blk hg [rB hd.2.2.fMade,rv hk,rv (.map (some he)),rv (.map (some hf)),rv hl] 59,.row hk 9 1 (A8 eS hd.2.2.fEvents),.map he (AF Ak hd.2.2.fResults),.map hf (AF Ad hd.2.2.fKeys),.row hl 67 8 (A8 Ab hd.2.2.fPending),.row hN 9 1 (A8 eS (hh++([(Al l ha).fS]:List Aj)))]) (λσ=>σ.1) (F,0,()) bC (AI.c Aa (AI.c Aa (AI.c5 Aa Aa Aa Aa Aa AI.nil))) (sC (sC (sC (sC (sC (sC (sS sN))))))) (λσ=>Iv l hh ha hd σ.1.1 σ.1.2.1 σ.1.2.2=some hK) (λσ=>[(0,Be 9 (A8 AL l)),(1,rS tenant),(5,rP hg 0),(6,rv hN),(7,A4 ha),(16,Be 8 (A8 Ab hq)),(17,A4 σ.1.1),(178,A4 σ.1.2.1),(179,Be 8 (A8 Ab hq)),(180,A4 (hq.length:Int)),(181,rB σ.1.2.2)]) (λσ=>[.blk hg [rB hd.2.2.fMade,rv hk,rv (.map (some he)),rv (.map (some hf)),rv hl] 59,.row hk 9 1 (A8 eS hd.2.2.fEvents),.map he (AF Ak hd.2.2.fResults),.map hf (AF Ad hd.2.2.fKeys),.row hl 67 8 (A8 Ab hd.2.2.fPending),.row hN 9 1 (A8 eS (hh++([(Al l ha).fS]:List Aj)))]) ?_ ?_)))))
     ·rintro⟨rW,hu,⟨⟩⟩ bD;refine EL ?_;obtain⟨bE,rfl,cb,gH,cc⟩:=CM bD;replace gH:Hh F l hh ha hd hq hu=some cb:=gH;unfold Hh at gH;refine Aq (Am (wm Aa (wm Aa (wv (By (ys:=hq) (enc:=Ab) BL Aa) (wv (De Aa Aa) (Ax (cz gH Aa (λbF bG=>?_) (λbF bH=>?_))))))))
      ·refine A0 (AY (Aq (AO (Cg (S:=(Bool)×(Unit)) (λσ=>Gn hu σ.1=some cb) (λσ=>[(0,Be 9 (A8 AL l)),(1,rS tenant),(5,rP hg 0),(6,rv hN),(7,A4 ha),(16,Be 8 (A8 Ab hq)),(17,A4 hu),(201,rB σ.1)]) (λσ=>[.blk hg [rB hd.2.2.fMade,rv hk,rv (.map (some he)),rv (.map (some hf)),rv hl] 59,.row hk 9 1 (A8 eS hd.2.2.fEvents),.map he (AF Ak hd.2.2.fResults),.map hf (AF Ad hd.2.2.fKeys),.row hl 67 8 (A8 Ab hd.2.2.fPending),.row hN 9 1 (A8 eS (hh++([(Al l ha).fS]:List Aj)))]) ?_ ?_))))
       ·refine ck bG λcd bI=>ob bI λhI c4 bJ=>bz bJ (λhD bK=>?_) (λhD bL=>?_)
        ·refine EG 15 [] [0,1,5,6,7,16,17] [] [{ deps:=[],r:=λ_=>rv hN },{ deps:=[],r:=λ_=>Be 8 (A8 Ab hq) },{ deps:=[],r:=λ_=>A4 hu },{ deps:=[1,2],r:=λ_=>I4 [rS ((Al hq hu).fID),rS ((Al hq hu).fTenant),rS ((Al hq hu).fCause),A4 ((Al hq hu).fAt),A4 (((Al hq hu).fEffect).fKind),rS (((Al hq hu).fEffect).fKey),Be 4 (A8 Af (((Al hq hu).fEffect).fValue)),A4 (((Al hq hu).fEffect).fDelay)] },{ deps:=[3],r:=λ_=>I4 [rS ((Al hq hu).fID),rS ((Al hq hu).fTenant),rS ((Al hq hu).fCause),A4 ((Al hq hu).fAt),A4 (((Al hq hu).fEffect).fKind),rS (((Al hq hu).fEffect).fKey),Be 4 (A8 Af (((Al hq hu).fEffect).fValue)),A4 (((Al hq hu).fEffect).fDelay)] },{ deps:=[4],r:=λ_=>rS ((Al hq hu).fID) },{ deps:=[0,5],r:=λ_=>rB hI,fx:=true },{ deps:=[6],r:=λ_=>rB hI },{ deps:=[7],r:=λ_=>rv undef },{ deps:=[8,7],r:=λ_=>rv undef },{ deps:=[7],r:=λ_=>rv undef },{ deps:=[7],r:=λ_=>rv undef },{ deps:=[10,11,7],r:=λ_=>rv undef },{ deps:=[12,7],r:=λ_=>rv undef },{ deps:=[13,7],r:=λ_=>rv undef }] [λ_=>[.blk hg [rB hd.2.2.fMade,rv hk,rv (.map (some he)),rv (.map (some hf)),rv hl] 59,.row hk 9 1 (A8 eS hd.2.2.fEvents),.map he (AF Ak hd.2.2.fResults),.map hf (AF Ad hd.2.2.fKeys),.row hl 67 8 (A8 Ab hd.2.2.fPending),.row hN 9 1 (A8 eS (hh++([(Al l ha).fS]:List Aj)))]] ⟨B2,B2,B2,B2,B2,B2,B2,B2,B2,B2,B2,B2,B2,B2,B2,trivial⟩ ?_ (λu=>?_)
         ·exact B6 (fun {u _}=>Bg (Ah Aa)) (B6 (fun {u _}=>Bg (Ah Aa)) (B6 (fun {u _}=>Bg (Ah Aa)) (B6 (fun {u _}=>Bg (AU (enc:=Ab) (ys:=hq) BL Ck Aa Aa cd)) (B6 (fun {u _}=>Bg (Av Cz Aa BS Aa Aa)) (B6 (fun {u _}=>Bg (AH Cf Aa Aa)) (Wx (fun {u}=>D0 (Hin:=[.row hN 9 1 (A8 eS (hh++([(Al l ha).fS]:List Aj)))]) (Hr:=[.blk hg [rB hd.2.2.fMade,rv hk,rv (.map (some he)),rv (.map (some hf)),rv hl] 59,.row hk 9 1 (A8 eS hd.2.2.fEvents),.map he (AF Ak hd.2.2.fResults),.map hf (AF Ad hd.2.2.fKeys),.row hl 67 8 (A8 Ab hd.2.2.fPending)]) Mg Aa ((AS (i:=5) Aa).trans (Agk _ (Agn _))) (Hz F hN (hh++([(Al l ha).fS]:List Aj)) ((Al hq hu).fID) hI c4)) (B6 (fun {u _}=>Bg (Ah Aa)) (B6 (fun {u _}=>Br (b:=hI) Aa Aa hD) (B6 (fun {u _}=>Br (b:=hI) Aa Aa hD) (B6 (fun {u _}=>Br (b:=hI) Aa Aa hD) (B6 (fun {u _}=>Br (b:=hI) Aa Aa hD) (B6 (fun {u _}=>Br (b:=hI) Aa Aa hD) (B6 (fun {u _}=>Br (b:=hI) Aa Aa hD) (B6 (fun {u _}=>Br (b:=hI) Aa Aa hD) (US)))))))))))))))
         refine Cr (H1:=[.blk hg [rB hd.2.2.fMade,rv hk,rv (.map (some he)),rv (.map (some hf)),rv hl] 59,.row hk 9 1 (A8 eS hd.2.2.fEvents),.map he (AF Ak hd.2.2.fResults),.map hf (AF Ad hd.2.2.fKeys),.row hl 67 8 (A8 Ab hd.2.2.fPending),.row hN 9 1 (A8 eS (hh++([(Al l ha).fS]:List Aj)))]) [184,185,186,187,188,189,190,191,192,193,194,195,196,197,198,0,1,5,6,7,16,17] ?_;exact wf hD (wf hD (wv (r:=rB true) (A3 Aa hD Aa) (Ar (A1 (AG (true,()) bK (AI.c Aa (AI.c Aa (AI.c Aa (AI.c5 Aa Aa Aa Aa Aa AI.nil)))) (sC (sC (sC (sC (sC (sC sN)))))))))))
        refine ob bL λce bM bN=>EG 15 [] [0,1,5,6,7,16,17] [] [{ deps:=[],r:=λ_=>rv hN },{ deps:=[],r:=λ_=>Be 8 (A8 Ab hq) },{ deps:=[],r:=λ_=>A4 hu },{ deps:=[1,2],r:=λ_=>I4 [rS ((Al hq hu).fID),rS ((Al hq hu).fTenant),rS ((Al hq hu).fCause),A4 ((Al hq hu).fAt),A4 (((Al hq hu).fEffect).fKind),rS (((Al hq hu).fEffect).fKey),Be 4 (A8 Af (((Al hq hu).fEffect).fValue)),A4 (((Al hq hu).fEffect).fDelay)] },{ deps:=[3],r:=λ_=>I4 [rS ((Al hq hu).fID),rS ((Al hq hu).fTenant),rS ((Al hq hu).fCause),A4 ((Al hq hu).fAt),A4 (((Al hq hu).fEffect).fKind),rS (((Al hq hu).fEffect).fKey),Be 4 (A8 Af (((Al hq hu).fEffect).fValue)),A4 (((Al hq hu).fEffect).fDelay)] },{ deps:=[4],r:=λ_=>rS ((Al hq hu).fID) },{ deps:=[0,5],r:=λ_=>rB hI,fx:=true },{ deps:=[6],r:=λ_=>rB hI },{ deps:=[7],r:=λ_=>rP hg 0 },{ deps:=[8,7],r:=λ_=>Be 1 (A8 eS ce),fx:=true },{ deps:=[7],r:=λ_=>Be 8 (A8 Ab hq) },{ deps:=[7],r:=λ_=>A4 hu },{ deps:=[10,11,7],r:=λ_=>I4 [rS ((Al hq hu).fID),rS ((Al hq hu).fTenant),rS ((Al hq hu).fCause),A4 ((Al hq hu).fAt),A4 (((Al hq hu).fEffect).fKind),rS (((Al hq hu).fEffect).fKey),Be 4 (A8 Af (((Al hq hu).fEffect).fValue)),A4 (((Al hq hu).fEffect).fDelay)] },{ deps:=[12,7],r:=λ_=>I4 [rS ((Al hq hu).fCause),A4 ((Al hq hu).fAt),A4 (((Al hq hu).fEffect).fKind),rS (((Al hq hu).fEffect).fKey),Be 4 (A8 Af (((Al hq hu).fEffect).fValue)),A4 (((Al hq hu).fEffect).fDelay)] },{ deps:=[13,7],r:=λ_=>rS ((Al hq hu).fCause) }] [λ_=>[.blk hg [rB hd.2.2.fMade,rv hk,rv (.map (some he)),rv (.map (some hf)),rv hl] 59,.row hk 9 1 (A8 eS hd.2.2.fEvents),.map he (AF Ak hd.2.2.fResults),.map hf (AF Ad hd.2.2.fKeys),.row hl 67 8 (A8 Ab hd.2.2.fPending),.row hN 9 1 (A8 eS (hh++([(Al l ha).fS]:List Aj)))]] ⟨B2,B2,B2,B2,B2,B2,B2,B2,B2,B2,B2,B2,B2,B2,B2,trivial⟩ ?_ (λu=>?_)
        ·exact B6 (fun {u _}=>Bg (Ah Aa)) (B6 (fun {u _}=>Bg (Ah Aa)) (B6 (fun {u _}=>Bg (Ah Aa)) (B6 (fun {u _}=>Bg (AU (enc:=Ab) (ys:=hq) BL Ck Aa Aa cd)) (B6 (fun {u _}=>Bg (Av Cz Aa BS Aa Aa)) (B6 (fun {u _}=>Bg (AH Cf Aa Aa)) (Wx (fun {u}=>D0 (Hin:=[.row hN 9 1 (A8 eS (hh++([(Al l ha).fS]:List Aj)))]) (Hr:=[.blk hg [rB hd.2.2.fMade,rv hk,rv (.map (some he)),rv (.map (some hf)),rv hl] 59,.row hk 9 1 (A8 eS hd.2.2.fEvents),.map he (AF Ak hd.2.2.fResults),.map hf (AF Ad hd.2.2.fKeys),.row hl 67 8 (A8 Ab hd.2.2.fPending)]) Mg Aa ((AS (i:=5) Aa).trans (Agk _ (Agn _))) (Hz F hN (hh++([(Al l ha).fS]:List Aj)) ((Al hq hu).fID) hI c4)) (B6 (fun {u _}=>Bg (Ah Aa)) (B6 (fun {u _}=>Bv (b:=hI) Aa Aa hD (Bg (Ah Aa))) (Wx (fun {u}=>Bv (b:=hI) Aa Aa hD (D0 (Hin:=[.blk hg [rB hd.2.2.fMade,rv hk,rv (.map (some he)),rv (.map (some hf)),rv hl] 59,.row hk 9 1 (A8 eS hd.2.2.fEvents),.map he (AF Ak hd.2.2.fResults),.map hf (AF Ad hd.2.2.fKeys),.row hl 67 8 (A8 Ab hd.2.2.fPending)]) (Hr:=[.row hN 9 1 (A8 eS (hh++([(Al l ha).fS]:List Aj)))]) QB Aa (Agn _) (Eg hg hk he hf hl hd.2.2 ce bM))) (B6 (fun {u _}=>Bv (b:=hI) Aa Aa hD (Bg (Ah Aa))) (B6 (fun {u _}=>Bv (b:=hI) Aa Aa hD (Bg (Ah Aa))) (B6 (fun {u _}=>Bv (b:=hI) Aa Aa hD (Bg (AU (enc:=Ab) (ys:=hq) BL Ck Aa Aa cd))) (B6 (fun {u _}=>Bv (b:=hI) Aa Aa hD (Bg (Av Cz Aa BS Aa Aa))) (B6 (fun {u _}=>Bv (b:=hI) Aa Aa hD (Bg (AH Cf Aa Aa))) (US)))))))))))))))
        refine Cr (H1:=[.blk hg [rB hd.2.2.fMade,rv hk,rv (.map (some he)),rv (.map (some hf)),rv hl] 59,.row hk 9 1 (A8 eS hd.2.2.fEvents),.map he (AF Ak hd.2.2.fResults),.map hf (AF Ad hd.2.2.fKeys),.row hl 67 8 (A8 Ab hd.2.2.fPending),.row hN 9 1 (A8 eS (hh++([(Al l ha).fS]:List Aj)))]) [184,185,186,187,188,189,190,191,192,193,194,195,196,197,198,0,1,5,6,7,16,17] ?_;exact wo hD (ob bN λc6 bO bP=>DM Mg (Kc F ce ((Al hq hu).fCause) c6 bO) Aa (wo hD (wv (BJ Aa) (GO Aa hD Aa (Ar (A1 (AG (!c6,()) bP (AI.c Aa (AI.c Aa (AI.c Aa (AI.c5 Aa Aa Aa Aa Aa AI.nil)))) (sC (sC (sC (sC (sC (sC sN)))))))))))))
       rintro⟨bQ,⟨⟩⟩ gI;refine EL ?_;replace gI:Gn hu bQ=some cb:=gI;unfold Gn at gI;refine cz gI Aa (λbR bS=>?_) (λbR bT=>?_)
       ·refine Am (wa Aa (Ax (A6 (A7 (Ae (Ae (Bc ?_)))))));have bU:=B4 bS cc c3;refine A7 (A7 (Ae (Ae (Bc ?_))));have bV:=B4 bU hY hZ;refine A7 (Ae ?_);obtain rfl:=AA bV;exact A5 (Cp YX (AT Aa)) (sS (sS (sS (sS (sS (sS sN)))))) ⟨Aa,Aa⟩
       refine A0 (AK (AY (Ap (wm Aa (ck bT λbW bX=>wv (BU Aa Aa bW) (wa Aa (Ar ?_)))))));have bY:=B8 bX cc;exact A1 (AG (bE,hu+1,()) ⟨bY,Ago _⟩ (AI.c Aa (AI.c Aa (AI.c5 Aa Aa Aa Aa Aa AI.nil))) (sC (sC (sC (sC (sC (sC sN)))))))
      refine B9 (A9 ?_);have bZ:=Co bH cc c3;exact A9 (Bj (AG ((hu,hu,decide (hu<(hq.length:Int))),()) bZ (AI.c Aa (AI.c5 Aa Aa Aa Aa Aa (AI.c5 Aa Aa Aa Aa Aa AI.nil))) (sC (sC (sC (sC (sC (sC sN))))))))
     rintro⟨⟨ra,rb,rc⟩,⟨⟩⟩ gJ;refine IY ?_;replace gJ:Iv l hh ha hd ra rb rc=some hK:=gJ;unfold Iv at gJ;refine Bm (AK (Ja [0,1,1,2] ?_));exact A1 (AG ((hh++([(Al l ha).fS]:List Aj),hd.2.2.fMade,hd.2.2.fEvents,hd.2.2.fPending,hd.2.2.fResults,hd.2.2.fKeys),(hN,hk,hl)) gJ (AI.c5 Aa Aa Aa Aa Aa AI.nil) (sC (sC (sC (sC (sC (sC sN)))))))
    refine A0 (AY (Am (wm Aa (ob b6 λhr rd rg=>Du [0,0,0,0,0] Pg (D1 F hg hk he hf hl hd.2.2 hr rd) ?_))));rintro _ _ ⟨rfl,rfl⟩;refine wa Aa (B3 (wa Aa (Ax (AO (ob rg λrh ri c7=>B5 (S:=Nat×(Int)×(Unit)) (V:=(Int×Int×Bool)×(Unit)) 2 (λσ=>Cj (λσ=>Iw F hh hd hr σ) σ.1 σ.2.1=some rh) (λσ=>[(0,Be 9 (A8 AL l)),(1,rS tenant),(5,rP hg 0),(6,rv hn),(7,A4 ha),(16,Be 8 (A8 Ab hr)),(17,A4 σ.2.1)]) (λσ=>[.blk hg [rB hd.2.2.fMade,rv hk,rv (.map (some he)),rv (.map (some hf)),rv hl] 59,.row hk 9 1 (A8 eS hd.2.2.fEvents),.map he (AF Ak hd.2.2.fResults),.map hf (AF Ad hd.2.2.fKeys),.row hl 67 8 (A8 Ab hd.2.2.fPending),.row hn 9 1 (A8 eS hh)]) (λσ=>σ.1) (F,0,()) ri (AI.c Aa (AI.c Aa (AI.c5 Aa Aa Aa Aa Aa AI.nil))) (sC (sC (sC (sC (sC (sC sN)))))) (λσ=>Iu ha hh hd σ.1.1 σ.1.2.1 σ.1.2.2=some hK) (λσ=>[(0,Be 9 (A8 AL l)),(1,rS tenant),(5,rP hg 0),(6,rv hn),(7,A4 ha),(16,Be 8 (A8 Ab hr)),(17,A4 σ.1.1),(178,A4 σ.1.2.1),(179,Be 8 (A8 Ab hr)),(180,A4 (hr.length:Int)),(181,rB σ.1.2.2)]) (λσ=>[.blk hg [rB hd.2.2.fMade,rv hk,rv (.map (some he)),rv (.map (some hf)),rv hl] 59,.row hk 9 1 (A8 eS hd.2.2.fEvents),.map he (AF Ak hd.2.2.fResults),.map hf (AF Ad hd.2.2.fKeys),.row hl 67 8 (A8 Ab hd.2.2.fPending),.row hn 9 1 (A8 eS hh)]) ?_ ?_)))))
    ·rintro⟨rX,hw,⟨⟩⟩ rj;refine EL ?_;obtain⟨rk,rfl,cf,gK,cg⟩:=CM rj;replace gK:Iw F hh hd hr hw=some cf:=gK;unfold Iw at gK;refine Aq (Am (wm Aa (wm Aa (wv (By (ys:=hr) (enc:=Ab) BL Aa) (wv (De Aa Aa) (Ax (cz gK Aa (λrl rm=>?_) (λrl rn=>?_))))))))
     ·refine A0 (AY (Aq (AO (Cg (S:=(Bool)×(Unit)) (λσ=>Gm hw σ.1=some cf) (λσ=>[(0,Be 9 (A8 AL l)),(1,rS tenant),(5,rP hg 0),(6,rv hn),(7,A4 ha),(16,Be 8 (A8 Ab hr)),(17,A4 hw),(201,rB σ.1)]) (λσ=>[.blk hg [rB hd.2.2.fMade,rv hk,rv (.map (some he)),rv (.map (some hf)),rv hl] 59,.row hk 9 1 (A8 eS hd.2.2.fEvents),.map he (AF Ak hd.2.2.fResults),.map hf (AF Ad hd.2.2.fKeys),.row hl 67 8 (A8 Ab hd.2.2.fPending),.row hn 9 1 (A8 eS hh)]) ?_ ?_))))
      ·refine ck rm λch ro=>ob ro λhJ c8 rp=>bz rp (λhE rq=>?_) (λhE rr=>?_)
       ·refine EG 15 [] [0,1,5,6,7,16,17] [] [{ deps:=[],r:=λ_=>rv hn },{ deps:=[],r:=λ_=>Be 8 (A8 Ab hr) },{ deps:=[],r:=λ_=>A4 hw },{ deps:=[1,2],r:=λ_=>I4 [rS ((Al hr hw).fID),rS ((Al hr hw).fTenant),rS ((Al hr hw).fCause),A4 ((Al hr hw).fAt),A4 (((Al hr hw).fEffect).fKind),rS (((Al hr hw).fEffect).fKey),Be 4 (A8 Af (((Al hr hw).fEffect).fValue)),A4 (((Al hr hw).fEffect).fDelay)] },{ deps:=[3],r:=λ_=>I4 [rS ((Al hr hw).fID),rS ((Al hr hw).fTenant),rS ((Al hr hw).fCause),A4 ((Al hr hw).fAt),A4 (((Al hr hw).fEffect).fKind),rS (((Al hr hw).fEffect).fKey),Be 4 (A8 Af (((Al hr hw).fEffect).fValue)),A4 (((Al hr hw).fEffect).fDelay)] },{ deps:=[4],r:=λ_=>rS ((Al hr hw).fID) },{ deps:=[0,5],r:=λ_=>rB hJ,fx:=true },{ deps:=[6],r:=λ_=>rB hJ },{ deps:=[7],r:=λ_=>rv undef },{ deps:=[8,7],r:=λ_=>rv undef },{ deps:=[7],r:=λ_=>rv undef },{ deps:=[7],r:=λ_=>rv undef },{ deps:=[10,11,7],r:=λ_=>rv undef },{ deps:=[12,7],r:=λ_=>rv undef },{ deps:=[13,7],r:=λ_=>rv undef }] [λ_=>[.blk hg [rB hd.2.2.fMade,rv hk,rv (.map (some he)),rv (.map (some hf)),rv hl] 59,.row hk 9 1 (A8 eS hd.2.2.fEvents),.map he (AF Ak hd.2.2.fResults),.map hf (AF Ad hd.2.2.fKeys),.row hl 67 8 (A8 Ab hd.2.2.fPending),.row hn 9 1 (A8 eS hh)]] ⟨B2,B2,B2,B2,B2,B2,B2,B2,B2,B2,B2,B2,B2,B2,B2,trivial⟩ ?_ (λu=>?_)
        ·exact B6 (fun {u _}=>Bg (Ah Aa)) (B6 (fun {u _}=>Bg (Ah Aa)) (B6 (fun {u _}=>Bg (Ah Aa)) (B6 (fun {u _}=>Bg (AU (enc:=Ab) (ys:=hr) BL Ck Aa Aa ch)) (B6 (fun {u _}=>Bg (Av Cz Aa BS Aa Aa)) (B6 (fun {u _}=>Bg (AH Cf Aa Aa)) (Wx (fun {u}=>D0 (Hin:=[.row hn 9 1 (A8 eS hh)]) (Hr:=[.blk hg [rB hd.2.2.fMade,rv hk,rv (.map (some he)),rv (.map (some hf)),rv hl] 59,.row hk 9 1 (A8 eS hd.2.2.fEvents),.map he (AF Ak hd.2.2.fResults),.map hf (AF Ad hd.2.2.fKeys),.row hl 67 8 (A8 Ab hd.2.2.fPending)]) Mg Aa ((AS (i:=5) Aa).trans (Agk _ (Agn _))) (Hz F hn hh ((Al hr hw).fID) hJ c8)) (B6 (fun {u _}=>Bg (Ah Aa)) (B6 (fun {u _}=>Br (b:=hJ) Aa Aa hE) (B6 (fun {u _}=>Br (b:=hJ) Aa Aa hE) (B6 (fun {u _}=>Br (b:=hJ) Aa Aa hE) (B6 (fun {u _}=>Br (b:=hJ) Aa Aa hE) (B6 (fun {u _}=>Br (b:=hJ) Aa Aa hE) (B6 (fun {u _}=>Br (b:=hJ) Aa Aa hE) (B6 (fun {u _}=>Br (b:=hJ) Aa Aa hE) (US)))))))))))))))
        refine Cr (H1:=[.blk hg [rB hd.2.2.fMade,rv hk,rv (.map (some he)),rv (.map (some hf)),rv hl] 59,.row hk 9 1 (A8 eS hd.2.2.fEvents),.map he (AF Ak hd.2.2.fResults),.map hf (AF Ad hd.2.2.fKeys),.row hl 67 8 (A8 Ab hd.2.2.fPending),.row hn 9 1 (A8 eS hh)]) [184,185,186,187,188,189,190,191,192,193,194,195,196,197,198,0,1,5,6,7,16,17] ?_;exact wf hE (wf hE (wv (r:=rB true) (A3 Aa hE Aa) (Ar (A1 (AG (true,()) rq (AI.c Aa (AI.c Aa (AI.c Aa (AI.c5 Aa Aa Aa Aa Aa AI.nil)))) (sC (sC (sC (sC (sC (sC sN)))))))))))
       refine ob rr λci rt ru=>EG 15 [] [0,1,5,6,7,16,17] [] [{ deps:=[],r:=λ_=>rv hn },{ deps:=[],r:=λ_=>Be 8 (A8 Ab hr) },{ deps:=[],r:=λ_=>A4 hw },{ deps:=[1,2],r:=λ_=>I4 [rS ((Al hr hw).fID),rS ((Al hr hw).fTenant),rS ((Al hr hw).fCause),A4 ((Al hr hw).fAt),A4 (((Al hr hw).fEffect).fKind),rS (((Al hr hw).fEffect).fKey),Be 4 (A8 Af (((Al hr hw).fEffect).fValue)),A4 (((Al hr hw).fEffect).fDelay)] },{ deps:=[3],r:=λ_=>I4 [rS ((Al hr hw).fID),rS ((Al hr hw).fTenant),rS ((Al hr hw).fCause),A4 ((Al hr hw).fAt),A4 (((Al hr hw).fEffect).fKind),rS (((Al hr hw).fEffect).fKey),Be 4 (A8 Af (((Al hr hw).fEffect).fValue)),A4 (((Al hr hw).fEffect).fDelay)] },{ deps:=[4],r:=λ_=>rS ((Al hr hw).fID) },{ deps:=[0,5],r:=λ_=>rB hJ,fx:=true },{ deps:=[6],r:=λ_=>rB hJ },{ deps:=[7],r:=λ_=>rP hg 0 },{ deps:=[8,7],r:=λ_=>Be 1 (A8 eS ci),fx:=true },{ deps:=[7],r:=λ_=>Be 8 (A8 Ab hr) },{ deps:=[7],r:=λ_=>A4 hw },{ deps:=[10,11,7],r:=λ_=>I4 [rS ((Al hr hw).fID),rS ((Al hr hw).fTenant),rS ((Al hr hw).fCause),A4 ((Al hr hw).fAt),A4 (((Al hr hw).fEffect).fKind),rS (((Al hr hw).fEffect).fKey),Be 4 (A8 Af (((Al hr hw).fEffect).fValue)),A4 (((Al hr hw).fEffect).fDelay)] },{ deps:=[12,7],r:=λ_=>I4 [rS ((Al hr hw).fCause),A4 ((Al hr hw).fAt),A4 (((Al hr hw).fEffect).fKind),rS (((Al hr hw).fEffect).fKey),Be 4 (A8 Af (((Al hr hw).fEffect).fValue)),A4 (((Al hr hw).fEffect).fDelay)] },{ deps:=[13,7],r:=λ_=>rS ((Al hr hw).fCause) }] [λ_=>[.blk hg [rB hd.2.2.fMade,rv hk,rv (.map (some he)),rv (.map (some hf)),rv hl] 59,.row hk 9 1 (A8 eS hd.2.2.fEvents),.map he (AF Ak hd.2.2.fResults),.map hf (AF Ad hd.2.2.fKeys),.row hl 67 8 (A8 Ab hd.2.2.fPending),.row hn 9 1 (A8 eS hh)]] ⟨B2,B2,B2,B2,B2,B2,B2,B2,B2,B2,B2,B2,B2,B2,B2,trivial⟩ ?_ (λu=>?_)
       ·exact B6 (fun {u _}=>Bg (Ah Aa)) (B6 (fun {u _}=>Bg (Ah Aa)) (B6 (fun {u _}=>Bg (Ah Aa)) (B6 (fun {u _}=>Bg (AU (enc:=Ab) (ys:=hr) BL Ck Aa Aa ch)) (B6 (fun {u _}=>Bg (Av Cz Aa BS Aa Aa)) (B6 (fun {u _}=>Bg (AH Cf Aa Aa)) (Wx (fun {u}=>D0 (Hin:=[.row hn 9 1 (A8 eS hh)]) (Hr:=[.blk hg [rB hd.2.2.fMade,rv hk,rv (.map (some he)),rv (.map (some hf)),rv hl] 59,.row hk 9 1 (A8 eS hd.2.2.fEvents),.map he (AF Ak hd.2.2.fResults),.map hf (AF Ad hd.2.2.fKeys),.row hl 67 8 (A8 Ab hd.2.2.fPending)]) Mg Aa ((AS (i:=5) Aa).trans (Agk _ (Agn _))) (Hz F hn hh ((Al hr hw).fID) hJ c8)) (B6 (fun {u _}=>Bg (Ah Aa)) (B6 (fun {u _}=>Bv (b:=hJ) Aa Aa hE (Bg (Ah Aa))) (Wx (fun {u}=>Bv (b:=hJ) Aa Aa hE (D0 (Hin:=[.blk hg [rB hd.2.2.fMade,rv hk,rv (.map (some he)),rv (.map (some hf)),rv hl] 59,.row hk 9 1 (A8 eS hd.2.2.fEvents),.map he (AF Ak hd.2.2.fResults),.map hf (AF Ad hd.2.2.fKeys),.row hl 67 8 (A8 Ab hd.2.2.fPending)]) (Hr:=[.row hn 9 1 (A8 eS hh)]) QB Aa (Agn _) (Eg hg hk he hf hl hd.2.2 ci rt))) (B6 (fun {u _}=>Bv (b:=hJ) Aa Aa hE (Bg (Ah Aa))) (B6 (fun {u _}=>Bv (b:=hJ) Aa Aa hE (Bg (Ah Aa))) (B6 (fun {u _}=>Bv (b:=hJ) Aa Aa hE (Bg (AU (enc:=Ab) (ys:=hr) BL Ck Aa Aa ch))) (B6 (fun {u _}=>Bv (b:=hJ) Aa Aa hE (Bg (Av Cz Aa BS Aa Aa))) (B6 (fun {u _}=>Bv (b:=hJ) Aa Aa hE (Bg (AH Cf Aa Aa))) (US)))))))))))))))
       refine Cr (H1:=[.blk hg [rB hd.2.2.fMade,rv hk,rv (.map (some he)),rv (.map (some hf)),rv hl] 59,.row hk 9 1 (A8 eS hd.2.2.fEvents),.map he (AF Ak hd.2.2.fResults),.map hf (AF Ad hd.2.2.fKeys),.row hl 67 8 (A8 Ab hd.2.2.fPending),.row hn 9 1 (A8 eS hh)]) [184,185,186,187,188,189,190,191,192,193,194,195,196,197,198,0,1,5,6,7,16,17] ?_;exact wo hE (ob ru λc9 rx ry=>DM Mg (Kc F ci ((Al hr hw).fCause) c9 rx) Aa (wo hE (wv (BJ Aa) (GO Aa hE Aa (Ar (A1 (AG (!c9,()) ry (AI.c Aa (AI.c Aa (AI.c Aa (AI.c5 Aa Aa Aa Aa Aa AI.nil)))) (sC (sC (sC (sC (sC (sC sN)))))))))))))
      rintro⟨rz,⟨⟩⟩ gL;refine EL ?_;replace gL:Gm hw rz=some cf:=gL;unfold Gm at gL;refine cz gL Aa (λr0 r1=>?_) (λr0 r2=>?_)
      ·refine Am (wa Aa (Ax (A6 (A7 (Ae (Ae (Bc ?_)))))));have r4:=B4 r1 cg c7;refine A7 (A7 (Ae (Ae (Bc ?_))));have r5:=B4 r4 hY hZ;refine A7 (Ae ?_);obtain rfl:=AA r5;exact A5 (Cp YX (AT Aa)) (sS (sS (sS (sS (sS (sS sN)))))) ⟨Aa,Aa⟩
      refine A0 (AK (AY (Ap (wm Aa (ck r2 λr6 r8=>wv (BU Aa Aa r6) (wa Aa (Ar ?_)))))));have r9:=B8 r8 cg;exact A1 (AG (rk,hw+1,()) ⟨r9,Ago _⟩ (AI.c Aa (AI.c Aa (AI.c5 Aa Aa Aa Aa Aa AI.nil))) (sC (sC (sC (sC (sC (sC sN)))))))
     refine B9 (A9 ?_);have rA:=Co rn cg c7;exact A9 (Bj (AG ((hw,hw,decide (hw<(hr.length:Int))),()) rA (AI.c Aa (AI.c5 Aa Aa Aa Aa Aa (AI.c5 Aa Aa Aa Aa Aa AI.nil))) (sC (sC (sC (sC (sC (sC sN))))))))
    rintro⟨⟨rC,rD,rE⟩,⟨⟩⟩ gM;refine IY ?_;replace gM:Iu ha hh hd rC rD rE=some hK:=gM;unfold Iu at gM;refine Bm (AK (Ja [0,1,1,2] ?_));exact A1 (AG ((hh,hd.2.2.fMade,hd.2.2.fEvents,hd.2.2.fPending,hd.2.2.fResults,hd.2.2.fKeys),(hn,hk,hl)) gM (AI.c5 Aa Aa Aa Aa Aa AI.nil) (sC (sC (sC (sC (sC (sC sN)))))))
   rintro⟨⟨cA,cB,cC,cD,cE,cF⟩,⟨rF,rG,rH⟩⟩ gN;refine EL ?_;replace gN:DK ha cA cB cC cD cE cF=some hK:=gN;unfold DK at gN;refine Ap (wm Aa (ck gN λrI rJ=>wv (BU Aa Aa rI) (wa Aa (Ar ?_))));have rK:=B8 rJ hY;exact A1 (AG (cJ,(cA,ha+1,cB,cC,cD,cE,cF),(rF,rG,rH)) ⟨rK,Ago _⟩ (AI.c5 Aa Aa Aa Aa Aa AI.nil) (sC (sC (sC (sC (sC (sC sN)))))))
  refine B9 (A9 ?_);have rL:=Co cM hY hZ;exact A9 (Bj (AG ((),()) rL AI.nil (sS (sS (sS (sS (sS (sS sN))))))))
 rintro⟨⟨⟩,⟨⟩⟩ gO;refine IY ?_;replace gO:He F =some r:=gO;unfold He at gO;refine Bm (AY (Am (ob gO λrM rN rO=>DM Tryz.call8 (PW F rM rN) Aa (wa Aa (Ax (A6 ?_))))));obtain rfl:=AA rO;exact A5 (Cp YX (AT Aa)) sN ⟨Aa,Aa⟩
end Go.Proofs.YtfobhhegpkinaaaGreatDoor.Q
namespace Go.Proofs.YtfobhhegpkinaaaGreatDoor.lawOutboxOnce
open Go
set_option linter.unusedVariables false
def Aae (y:Ac):Bool:=(Ch .i64) y.fKind&&(Ch .i64) y.fInt&&MS y.fStr&&(Ch .i64) y.fN
def Acs (y:As):Bool:=(Ch .i64) y.fKind&&MS y.fKey&&(λys:(List Ac)=>ys.all Aae&&decide (ys.length≤1048576)) y.fValue&&(Ch .i64) y.fDelay
def AdK (y:AE):Bool:=MS y.fEvent&&MS y.fTenant&&(Ch .i64) y.fAttempt&&(λys:(List Ac)=>ys.all Aae&&decide (ys.length≤1048576)) y.fResult&&(λys:(List As)=>ys.all Acs&&decide (ys.length≤1048576)) y.fEffects&&(Ch .i64) y.fAt
def Acu (y:Bb):Bool:=(Ch .i64) y.fKind&&AdK y.fC&&MS y.fS&&(Ch .i64) y.fN
def Law:Prop:=∀(y0:(List Bb)) (y1:Aj) (o0:(λys:(List Bb)=>ys.all Acu&&decide (ys.length≤1048576)) y0=true) (o1:MS y1=true),∃F,PU F y0 y1=some true
end Go.Proofs.YtfobhhegpkinaaaGreatDoor.lawOutboxOnce
namespace Go.Proofs.YtfobhhegpkinaaaGreatDoor
open Go
set_option linter.unusedVariables false
set_option linter.unusedSimpArgs false
def LJ (c:UInt8):Bool:=decide (32≤c.toNat)&&decide (c.toNat≤126)
theorem HT {s:Aj}{x:Int}{c:UInt8}(h:s[x.toNat]? =some c):BD s x=(c.toNat:Int):=by simp[BD,h]
theorem QF {α:Type}{p:α→Bool}{s:List α}{k:Nat}{c:α}(h:s[k]? =some c):(s.take (k+1)).all p=((s.take k).all p&&p c):=by
 rw[List.take_add_one,h];simp
theorem Ta {α:Type}{p:α→Bool}{s:List α}{k:Nat}{c:α}(h:s[k]? =some c)(hp:p c=false):s.all p=false:=by
 rw[List.all_eq_false];exact⟨c,Agq h,by simp[hp]⟩
theorem Tu {F:Nat}{s:Aj}(hF:s.length<F)(hs:s.length≤9223372036854775807):MB F s=some (s.all LJ):=by
 obtain⟨o,h1,h2⟩:=OR (body:=λσ=>Jd s σ) (λx=>0≤x∧x≤(s.length:Int)∧(s.take x.toNat).all LJ=true) (λx=>s.length-x.toNat)
  (λo=>BQ (λ_=>Jc) o=some (s.all LJ)) (λx ⟨h0,hl,ha⟩=>by
   unfold Jd
   by_cases hx:x<(s.length:Int)
   ·obtain⟨c,hc⟩:∃c,s[x.toNat]? =some c:=⟨s[x.toNat]'(by omega),Agi (by omega)⟩
    rw[Bd (by simpa using hx),Bp h0 hx,HT hc]
    cases ho:LJ c with
    | false=>
     refine .inr ⟨.ret false,?_,?_⟩
     ·rw[Bd];simp only[LJ,Aha,AfZ] at ho;simp only[Ag4,AfY];omega
     ·simp[BQ,Ta hc ho]
    | true=>
     refine .inl ⟨x+1,?_,⟨by omega,by omega,?_⟩,by omega⟩
     ·rw[AP,Ba (by omega) (by omega)];simp only[LJ,Agf,AfY] at ho;simp only[Ag7,AfZ];omega
     ·rw[show(x+1).toNat=x.toNat+1 from by omega,QF hc,ha,ho];rfl
   ·refine .inr ⟨.go (),by rw[AP (by simpa using hx)],?_⟩;rw[show x.toNat=s.length from by omega,List.take_length] at ha;simp[BQ,Jc,ha]) F 0 ⟨by omega,by omega,by simp⟩ (by simpa using hF)
 unfold MB;rw[Bw h1,h2]
theorem S6 (F:Nat)(s:Aj):S7 F s=MB F s:=rfl
theorem XD {F:Nat}{s:Aj}(hF:s.length<F)(hs:s.length≤9223372036854775807):S7 F s=some (s.all LJ):=by rw[S6];exact Tu hF hs
def pl (c:Ac):Bool:=
 bif decide (c.fKind=1) then(decide (c.fInt=0)&&(decide (c.fStr=[])&&decide (c.fN=0))) else
 bif decide (c.fKind=2) then((decide (c.fInt=0)||decide (c.fInt=1))&&(decide (c.fStr=[])&&decide (c.fN=0))) else
 bif decide (c.fKind=3) then(decide (c.fStr=[])&&decide (c.fN=0)) else
 bif decide (c.fKind=4) then(decide (c.fInt=0)&&(decide (c.fN=0)&&c.fStr.all LJ)) else
 bif decide (c.fKind=5) then(decide (c.fInt=0)&&(decide (c.fStr=[])&&decide (0≤c.fN))) else
 bif decide (c.fKind=6) then(decide (c.fInt=0)&&(decide (c.fStr=[])&&decide (0≤c.fN))) else false
theorem ES {α:Type}{p:Bool}{x y:Option α}{a b:α}(h:x=some a)(h':y=some b):B0 p x y=some (bif p then a else b):=by cases p<;>simp[B0,h,h']
theorem Xy {F:Nat}{c:Ac}(hF:c.fStr.length<F)(hs:c.fStr.length≤9223372036854775807):Pv F c=some (pl c):=by
 unfold Pv pl;rw[Tu hF hs];refine ES rfl (ES ?_ (ES rfl (ES ?_ (ES rfl (ES rfl rfl)))))
 ·cases h:decide (c.fInt=0)<;>simp
 ·simp[imp,Bi,ov]
def Oy:List AN→List AN
 | []=>[]
 | e::S=>bif decide (1<e.fLeft) then⟨e.fPairs,e.fLeft-1,e.fPairs,e.fLast,e.fStarted⟩::S else Oy S
theorem OY {α:Type}[Inhabited α](xs:List α)(e:α):Al (xs++[e]) (xs.length:Int)=e:=by simp[Al]
theorem MJ {α:Type}(xs:List α)(e e':α):List.set (xs++[e]) (Int.toNat (xs.length:Int)) e'=xs++[e']:=by simp
theorem Nb {α:Type}(xs:List α)(e:α):((xs++[e]).length:Int)-1=(xs.length:Int):=by simp
theorem X3 {α:Type}(xs:List α)(e:α):List.take (Int.toNat (xs.length:Int)) (xs++[e])=xs:=by simp
theorem Oc:∀(S:List AN) (F:Nat),S.length<F→(∀e∈S,1≤e.fLeft∧e.fLeft≤9223372036854775807)→S.length≤4611686018427387904→
  ∃o,Cj (λσ=>Es σ) F S.reverse=some o∧BQ (λν=>Ge ν) o=some (Oy S).reverse
 | [],F+1,_,_,_=>⟨.go [],by simp[Cj,Es,B0],by simp[BQ,Ge,Oy]⟩
 | e::S,F+1,hF,hb,hl=>by
  obtain⟨h1,h2⟩:=hb e (by simp);simp only[Agd] at hF hl;have hx:S.reverse.length=S.length:=by simp
  generalize hxs:S.reverse=xs at hx;have hr:(e::S).reverse=xs++[e]:=by simp[hxs]
  rw[hr];have hb1:Es (xs++[e])=bif decide (1<e.fLeft) then some (.out (.ret (xs++[⟨e.fPairs,e.fLeft-1,e.fPairs,e.fLast,e.fStarted⟩]))) else some (.next xs):=by
   unfold Es;rw[Bd (by simp)];simp only[Nb,OY,MJ,LL];rw[Ba (by omega) (by omega),Bp (by omega) (by simp;omega),Ba (by omega) (by omega)]
   cases hd:decide (1<e.fLeft) with
   | true=>
    rw[Bd (by simp at hd ⊢;omega)];rfl
   | false=>
    rw[AP (by simp at hd ⊢;omega),Ba (by omega) (by omega),CH (by omega) (by simp;omega),X3];rfl
  rw[Cj,hb1]
  cases hd:decide (1<e.fLeft) with
  | true=>exact⟨_,rfl,by simp[BQ,Ge,Oy,hd,hxs]⟩
  | false=>
   obtain⟨o,ho1,ho2⟩:=Oc S F (by omega) (λe he=>hb e (by simp[he])) (by omega);rw[hxs] at ho1;exact⟨o,ho1,by rw[ho2];simp[Oy,hd]⟩
theorem Px {S:List AN}{F:Nat}(hF:S.length<F)(hb:∀e∈S,1≤e.fLeft∧e.fLeft≤9223372036854775807)(hl:S.length≤4611686018427387904):MF F S.reverse=some (Oy S).reverse:=by
 obtain⟨o,h1,h2⟩:=Oc S F hF hb hl;unfold MF;rw[Bw h1,h2]
def N4 (s:Aj):Int:=s.length+2+s.count 34+s.count 92
theorem Pt {s:Aj}(hs:s.length≤1152921504606846976):Lo s=some (N4 s):=by
 have h1:s.count 34≤s.length:=List.count_le_length;have h2:s.count 92≤s.length:=List.count_le_length;unfold Lo Lib.countByte;rw[Ba (by omega) (by omega),Ba (by omega) (by omega),Ba (by omega) (by omega)];rfl
def szc (c:Ac):Int:=
 bif decide (c.fKind=1) then 4 else bif decide (c.fKind=2) then IntKind.wrap .i64 (5-c.fInt) else bif decide (c.fKind=3) then((Lib.itoa c.fInt).length:Int) else
 bif decide (c.fKind=4) then N4 c.fStr else IntKind.wrap .i64 (2+max 0 (IntKind.wrap .i64 (c.fN-1)))
theorem Tv {c:Ac}(hs:c.fStr.length≤1152921504606846976)(hi:Ch .i64 c.fInt=true):Tw c=some (szc c):=by
 unfold Tw szc;rw[Pt hs];refine ES rfl (ES rfl (ES ?_ (ES rfl rfl)));rw[C1 hi]
def Kv (d:Nat)(sh:AW)(c:Ac):AW:=
 ⟨max sh.fDepth ((d:Int)+1),IntKind.wrap .i64 (sh.fBytes+szc c),sh.fOutside||(decide (c.fKind=3)&&!(decide ((-1000000000000)≤c.fInt)&&decide (c.fInt≤1000000000000))),sh.fLong||decide (200<(c.fStr.length:Int))⟩
def shk (sh:AW)(c:Ac):AW:=⟨sh.fDepth,IntKind.wrap .i64 (sh.fBytes+(N4 c.fStr+1)),sh.fOutside,sh.fLong||decide (200<(c.fStr.length:Int))⟩
def NI:List AN→Bool
 | []=>false
 | e::_=>e.fKey
abbrev Ti:=List AN×Int×AW
abbrev LkO:=Out (Int×AW×Bool) AW
def UT (n:Int)(S:List AN)(i:Int)(sh:AW)(c:Ac):Stp Ti LkO:=
 bif !pl c then .out (.ret (0,sh,false)) else
 match S with
 | e::S'=>
  bif e.fKey then
   bif !decide (c.fKind=4)||(e.fStarted&&(C9 c.fStr e.fLast||decide (c.fStr=e.fLast))) then .out (.ret (0,sh,false))
   else .next ((⟨e.fPairs,e.fLeft,false,c.fStr,true⟩::S').reverse,i+1,shk sh c)
  else bif decide (0<c.fN) then
   bif decide (n<c.fN) then .out (.ret (0,Kv S.length sh c,false))
   else .next ((⟨decide (c.fKind=6),c.fN,decide (c.fKind=6),[],false⟩::S).reverse,i+1,Kv S.length sh c)
  else bif decide (Oy S=[]) then .out (.ret (i+1,Kv S.length sh c,true)) else .next ((Oy S).reverse,i+1,Kv S.length sh c)
 | []=>
  bif decide (0<c.fN) then
   bif decide (n<c.fN) then .out (.ret (0,Kv 0 sh c,false))
   else .next ([⟨decide (c.fKind=6),c.fN,decide (c.fKind=6),[],false⟩],i+1,Kv 0 sh c)
  else .out (.ret (i+1,Kv 0 sh c,true))
theorem Qv {S:List AN}:decide (((Oy S).reverse.length:Int)=0)=decide (Oy S=[]):=by
 rw[Agt];simp
theorem AeZ {α:Type}{xs:List α}{e x:α}{M:Nat}(h:xs.length+1≤M)(hM2:(M+2)*48≤140737488355328):Dv 48 ((xs++[e]).length+([x]:List α).length)=true:=by
 refine Agc (Nat.le_trans (Nat.mul_le_mul_right 48 ?_) hM2);rw[Age,AgE,AgE];omega
set_option maxHeartbeats 600000 in
theorem T1 {F:Nat}{v:List Ac}{S:List AN}{i:Int}{sh:AW}{c:Ac}(h0:0≤i)(hc:v[i.toNat]? =some c){M:Nat}(hM:M≤1152921504606846976)(hM2:(M+2)*48≤140737488355328)(hv:v.length≤M)(hS:S.length≤M)(hF:M<F)
  (hs:c.fStr.length≤M) (hi:Ch .i64 c.fInt=true) (hb:∀e∈S,1≤e.fLeft∧e.fLeft≤9223372036854775807):Er F v S.reverse i sh=some (UT v.length S i sh c):=by
 have hil:i.toNat<v.length:=(List.getElem?_eq_some_iff.1 hc).1;have hat:Al v i=c:=by simp[Al,hc]
 unfold Er UT;rw[Bd (by simp;omega),Bp h0 (by omega),hat,Xy (by omega) (by omega),Bw rfl]
 cases hp:pl c with
 | false=>rw[Bd (by simp)];rfl
 | true=>
  rw[AP (by simp)]
  cases S with
  | nil=>
   rw[C1 (by simp[imp]),C1 (by simp[imp]),AP (by simp),Ba (by simp) (by simp),Tv (by omega) hi,Bw rfl,C1 (by simp[imp,Cy])];simp only[Cy,ov,Ag5,Agl,Agb]
   cases hn:decide (0<c.fN) with
   | true=>
    rw[Bd rfl]
    cases hm:decide ((v.length:Int)<c.fN) with
    | true=>rw[Bd rfl];simp[Kv]
    | false=>rw[AP rfl,C1 (by simp[Dv])];unfold EO;rw[Ba (by omega) (by omega)];simp[Kv]
   | false=>
    rw[AP rfl,Bw (Px (S:=[]) (by simp;omega) (by simp) (by simp)),Bd (by simp[Oy]),Ba (by omega) (by omega)];simp[Kv]
  | cons e S'=>
   have hx:S'.reverse.length=S'.length:=by simp
   generalize hxs:S'.reverse=xs at hx;have hr:(e::S').reverse=xs++[e]:=by simp[hxs]
   simp only[Agd] at hS;have hlen:((xs++[e]).length:Int)=(xs.length:Int)+1:=by simp
   rw[hr,C1 (by simp only[imp,Nb];rw[J3 (by omega) (by omega)];simp),C1 (by simp only[imp,Nb];rw[QQ (by omega) (by omega)];simp)];rw[Nb,OY]
   cases hk:e.fKey with
   | true=>
    rw[Bd (by simp),Ba (by omega) (by omega),Bp (by omega) (by omega)];simp only[hk,Agl,Agb,Agg]
    cases ht : !decide (c.fKind=4)||(e.fStarted&&(C9 c.fStr e.fLast||decide (c.fStr=e.fLast))) with
    | true=>rw[Bd rfl];rfl
    | false=>
     rw[AP rfl,MJ,LL,OY,MJ,LL,OY,MJ,LL,Pt (by omega),Bw rfl,Ba (by unfold N4;omega) (by unfold N4;have:=@List.count_le_length UInt8 _ 34 c.fStr;have:=@List.count_le_length UInt8 _ 92 c.fStr;omega)];unfold EO;rw[Ba (by omega) (by omega)];simp[shk,hxs]
   | false=>
    rw[AP (by simp),hlen,Ba (by omega) (by omega),Tv (by omega) hi,Bw rfl,C1 (by simp[imp,Cy])];simp only[hk,Cy,ov,Ag5,Agl,Agb,Agg]
    cases hn:decide (0<c.fN) with
    | true=>
     rw[Bd rfl]
     cases hm:decide ((v.length:Int)<c.fN) with
     | true=>rw[Bd rfl];simp[Kv,hx]
     | false=>rw[AP rfl,C1 (AeZ (by omega) hM2)];unfold EO;rw[Ba (by omega) (by omega)];simp[Kv,hx,hxs]
    | false=>
     have hcl:=Px (S:=e::S') (F:=F) (by simp;omega) hb (by simp;omega);rw[hr] at hcl;rw[AP rfl,hcl,Bw rfl,Qv]
     cases hq:decide (Oy (e::S')=[]) with
     | true=>rw[Bd rfl,Ba (by omega) (by omega)];simp[Kv,hx]
     | false=>rw[AP rfl];unfold EO;rw[Ba (by omega) (by omega)];simp[Kv,hx]
section
variable {S O : Type} {body : S → Option (Stp S O)} {s t u : S} {o : O}
def EU (body:S→Option (Stp S O))(s t:S):Prop:=∃k,∀n,Cj body (n+k) s=Cj body n t
def Fin (body:S→Option (Stp S O))(s:S)(o:O):Prop:=∃k,∀n,Cj body (n+k) s=some o
theorem EU.refl (s:S):EU body s s:=⟨0,λ_=>rfl⟩
theorem EU.trans (h:EU body s t)(h':EU body t u):EU body s u:=by
 obtain⟨k,hk⟩:=h;obtain⟨j,hj⟩:=h';exact⟨j+k,λn=>by rw[← Nat.add_assoc,hk,hj]⟩
theorem EU.step (h:body s=some (.next t)):EU body s t:=⟨1,λn=>by rw[Cj,h]⟩
theorem Fin.step (h:body s=some (.out o)):Fin body s o:=⟨1,λn=>by rw[Cj,h]⟩
theorem EU.fin (h:EU body s t)(h':Fin body t o):Fin body s o:=by
 obtain⟨k,hk⟩:=h;obtain⟨j,hj⟩:=h';exact⟨j+k,λn=>by rw[← Nat.add_assoc,hk,hj]⟩
end
inductive Fo where
 | nil
 | cell (k:Option Aj) (c:Ac) (r:Fo)
 | node (k:Option Aj) (c:Ac) (kids r:Fo)
def BZ:Option Aj→List Ac
 | none=>[]
 | some s=>[⟨4,0,s,0⟩]
def Fo.flat:Fo→List Ac
 | .nil=>[]
 | .cell k c r=>BZ k++c::r.flat
 | .node k c kids r=>BZ k++c::(kids.flat++r.flat)
def Fo.cnt:Fo→Nat
 | .nil=>0
 | .cell _ _ r=>r.cnt+1
 | .node _ _ _ r=>r.cnt+1
def BN (m:Bool)(last:Option Aj):Option Aj→Bool
 | none=>!m
 | some s=>m&&s.all LJ&&(match last with
  | none=>true
  | some p=>!(C9 s p||decide (s=p)))
def Fo.wf:Bool→Option Aj→Fo→Bool
 | _,_,.nil=>true
 | m,last,.cell k c r=>BN m last k&&pl c&&!decide (0<c.fN)&&r.wf m k
 | m,last,.node k c kids r=>BN m last k&&pl c&&decide (0<c.fN)&&decide (c.fN=kids.cnt)&&kids.wf (decide (c.fKind=6)) none&&r.wf m k
def Og (k:Option Aj)(sh:AW):AW:=match k with
 | none=>sh
 | some s=>shk sh ⟨4,0,s,0⟩
def Fo.sh (d:Nat):AW→Fo→AW
 | s,.nil=>s
 | s,.cell k c r=>r.sh d (Kv d (Og k s) c)
 | s,.node k c kids r=>r.sh d (kids.sh (d+1) (Kv d (Og k s) c))
def IX (body:Ti→Option (Stp Ti LkO))(s:Ti)(S:List AN)(i:Int)(sh:AW):Prop:=
 if Oy S=[] then Fin body s (.ret (i,sh,true)) else EU body s ((Oy S).reverse,i,sh)
theorem IX.of {body:Ti→Option (Stp Ti LkO)}{s t:Ti}{S:List AN}{i:Int}{sh:AW}(h:EU body s t)(h':IX body t S i sh):IX body s S i sh:=by
 unfold IX at *
 split
 ·rename_i e;rw[AgT e] at h';exact h.fin h'
 ·rename_i e;rw[AgF e] at h';exact h.trans h'
theorem IX.pop {body:Ti→Option (Stp Ti LkO)}{s:Ti}{e:AN}{S:List AN}{i:Int}{sh:AW}(h:IX body s (e::S) i sh)(h1:e.fLeft=1):IX body s S i sh:=by
 have:Oy (e::S)=Oy S:=by simp[Oy,h1]
 unfold IX at *;rw[this] at h;exact h
theorem IX.more {body:Ti→Option (Stp Ti LkO)}{s:Ti}{e:AN}{S:List AN}{i:Int}{sh:AW}(h:IX body s (e::S) i sh)(h1:1<e.fLeft):EU body s ((⟨e.fPairs,e.fLeft-1,e.fPairs,e.fLast,e.fStarted⟩::S).reverse,i,sh):=by
 have:Oy (e::S)=⟨e.fPairs,e.fLeft-1,e.fPairs,e.fLast,e.fStarted⟩::S:=by simp[Oy,h1]
 unfold IX at *;rw[this,AgF (by simp)] at h;exact h
structure Xe (F M:Nat) (v:List Ac):Prop where
 hM:M≤1152921504606846976
 hM2:(M+2)*48≤140737488355328
 hv:v.length≤M
 hF:M<F
 hc:∀c∈v,c.fStr.length≤M∧Ch .i64 c.fInt=true∧c.fN≤9223372036854775807
abbrev Ui (F:Nat)(v:List Ac):Ti→Option (Stp Ti LkO):=λσ=>Er F v σ.1 σ.2.1 σ.2.2
def E0 (S:List AN):Prop:=∀e∈S,1≤e.fLeft∧e.fLeft≤9223372036854775807
section
variable {F M : Nat} {v : List Ac} {S : List AN} {i : Int} {sh : AW} {c : Ac} {r : List Ac} {e : AN}
theorem GM (h0:0≤i)(h:v.drop i.toNat=c::r):v[i.toNat]? =some c∧v.drop (i+1).toNat=r∧i<v.length:=by
 have h1:(v.drop i.toNat)[0]? =some c:=by rw[h];rfl
 have h2:v[i.toNat]? =some c:=by simpa using h1
 have h3:=(List.getElem?_eq_some_iff.1 h2).1;refine⟨h2,?_,by omega⟩;rw[show(i+1).toNat=i.toNat+1 from by omega,← List.drop_drop,h];rfl
theorem round (hA:Xe F M v)(h0:0≤i)(h:v.drop i.toNat=c::r)(hS:(S.length:Int)≤i)(hb:E0 S):Ui F v (S.reverse,i,sh)=some (UT v.length S i sh c):=by
 obtain⟨h1,_,h3⟩:=GM h0 h;obtain⟨a,b,_⟩:=hA.hc c (Agq h1);have:=hA.hv;exact T1 h0 h1 hA.hM hA.hM2 hA.hv (by omega) hA.hF a b hb
def HF (e:AN):Option Aj→AN
 | none=>e
 | some s=>⟨e.fPairs,e.fLeft,false,s,true⟩
def KM (e:AN):Option Aj→Prop
 | none=>e.fStarted=false
 | some p=>e.fStarted=true∧e.fLast=p
theorem PX (hA:Xe F M v)(h0:0≤i){k last:Option Aj}(h:v.drop i.toNat=BZ k++r)(hS:(S.length:Int)+1≤i)(hb:E0 (e::S))(hk:BN e.fKey last k=true)(hl:KM e last) :
  EU (Ui F v) ((e::S).reverse,i,sh) ((HF e k::S).reverse,i+(BZ k).length,Og k sh):=by
 cases k with
 | none=>simpa[HF,BZ,Og] using EU.refl _
 | some s=>
  simp only[BN,Agf] at hk;obtain⟨⟨hm,hok⟩,hcmp⟩:=hk;refine EU.step ?_;rw[round hA h0 (by simpa[BZ] using h) (by simpa using hS) hb];have hp:pl ⟨4,0,s,0⟩=true:=by simp[pl,hok]
  have ht:(e.fStarted&&(C9 s e.fLast||decide (s=e.fLast)))=false:=by
   cases last with
   | none=>simp only[KM] at hl;rw[hl];rfl
   | some p=>obtain⟨h1,h2⟩:=hl;rw[h1,h2];simpa using hcmp
  simp only[UT,hp,hm,ht,Agl,Agb,Agg,decide_true,Ag3,Bool.or_self];rfl
theorem NH {k last:Option Aj}(hk:BN e.fKey last k=true):(HF e k).fKey=false:=by
 cases k with
 | none=>simpa[HF,BN] using hk
 | some s=>rfl
theorem Mu (k:Option Aj):(HF e k).fLeft=e.fLeft∧(HF e k).fPairs=e.fPairs:=by cases k<;>exact⟨rfl,rfl⟩
theorem NE (hA:Xe F M v)(h0:0≤i)(h:v.drop i.toNat=c::r)(hS:(S.length:Int)≤i)(hb:E0 S)(hk:NI S=false)(hp:pl c=true)(hn:decide (0<c.fN)=false) :
  IX (Ui F v) (S.reverse,i,sh) S (i+1) (Kv S.length sh c):=by
 have hr:=round (sh:=sh) hA h0 h hS hb;unfold IX
 cases S with
 | nil=>
  rw[AgT (by simp[Oy])];refine Fin.step ?_;rw[hr];simp[UT,hp,hn]
 | cons e S=>
  simp only[NI] at hk
  split
  ·rename_i hc
   refine Fin.step ?_;rw[hr];simp[UT,hp,hn,hk,hc]
  ·rename_i hc
   refine EU.step ?_;rw[hr];simp[UT,hp,hn,hk,hc]
theorem Lx (hA:Xe F M v)(h0:0≤i)(h:v.drop i.toNat=c::r)(hS:(S.length:Int)≤i)(hb:E0 S)(hk:NI S=false)(hp:pl c=true)(hn:decide (0<c.fN)=true)(hv:c.fN≤v.length) :
  EU (Ui F v) (S.reverse,i,sh) ((⟨decide (c.fKind=6),c.fN,decide (c.fKind=6),[],false⟩::S).reverse,i+1,Kv S.length sh c):=by
 have hr:=round (sh:=sh) hA h0 h hS hb;have hv':decide ((v.length:Int)<c.fN)=false:=by simpa using hv
 refine EU.step ?_;rw[hr]
 cases S with
 | nil=>simp only[UT,hp,hn,hv',Agl,Agb,Agg];rfl
 | cons e S=>
  simp only[NI] at hk;simp only[UT,hp,hn,hv',hk,Agl,Agb,Agg]
theorem Dw:∀f:Fo,f.cnt≤f.flat.length
 | .nil=>Agu _
 | .cell k c r=>by have:=Dw r;simp[Fo.cnt,Fo.flat];omega
 | .node k c kids r=>by have:=Dw r;simp[Fo.cnt,Fo.flat];omega
theorem Ed {α:Type}{v xs r:List α}{i:Int}(h0:0≤i)(h:v.drop i.toNat=xs++r):v.drop (i+xs.length).toNat=r:=by
 rw[show(i+(xs.length:Int)).toNat=i.toNat+xs.length from by omega,← List.drop_drop,h,List.drop_left]
theorem TD (hA:Xe F M v){e':AN}{s:Ti}{k:Option Aj}{r':Fo}
  (ih:∀(e:AN) (S:List AN) (i:Int) (sh:AW) (last:Option Aj) (r:List Ac),1≤r'.cnt→r'.wf e.fPairs last=true→e.fKey=e.fPairs→e.fLeft=r'.cnt→KM e last→(e.fPairs=false→last=none)→v.drop i.toNat=r'.flat++r→0≤i→(S.length:Int)+1≤i→E0 S→
   IX (Ui F v) ((e::S).reverse,i,sh) S (i+r'.flat.length) (r'.sh (S.length+1) sh))
  (hd:IX (Ui F v) s (e'::S) i sh) (hl:e'.fLeft=r'.cnt+1) (hw:r'.wf e'.fPairs k=true) (hk:KM e' k) (hm:e'.fPairs=false→k=none) (hv:v.drop i.toNat=r'.flat++r) (h0:0≤i) (hS:(S.length:Int)+1≤i) (hb:E0 S) :
  IX (Ui F v) s S (i+r'.flat.length) (r'.sh (S.length+1) sh):=by
 by_cases h1:r'.cnt=0
 ·cases r' with
  | nil=>simpa[Fo.flat,Fo.sh] using hd.pop (by rw[hl];rfl)
  | cell _ _ _=>simp[Fo.cnt] at h1
  | node _ _ _ _=>simp[Fo.cnt] at h1
 ·have:=hd.more (by omega);refine IX.of this (ih _ S i sh k r (by omega) hw rfl (by simp only;omega) ?_ hm hv h0 hS hb)
  cases k with
  | none=>exact hk
  | some p=>exact hk
theorem Mv {k last:Option Aj}(hl:KM e last)(hm:e.fPairs=false→last=none)(hk:BN e.fPairs last k=true):KM (HF e k) k∧((HF e k).fPairs=false→k=none):=by
 cases k with
 | none=>
  have:e.fPairs=false:=by simpa[BN] using hk
  rw[hm this] at hl;exact⟨hl,λ_=>rfl⟩
 | some s=>
  refine⟨⟨rfl,rfl⟩,λh=>?_⟩;have h:e.fPairs=false:=h;simp[BN,h] at hk
theorem Ox (hA:Xe F M v):∀(f:Fo) (e:AN) (S:List AN) (i:Int) (sh:AW) (last:Option Aj) (r:List Ac),1≤f.cnt→f.wf e.fPairs last=true→e.fKey=e.fPairs→e.fLeft=f.cnt→KM e last→(e.fPairs=false→last=none)→v.drop i.toNat=f.flat++r→0≤i→(S.length:Int)+1≤i→E0 S→
   IX (Ui F v) ((e::S).reverse,i,sh) S (i+f.flat.length) (f.sh (S.length+1) sh):=by
 have hmax:∀(i:Int) (xs:List Ac),0≤i→v.drop i.toNat=xs→xs.length≤v.length:=λi xs _ h=>by rw[← h,AgJ];omega
 intro f
 induction f with
 | nil=>intro e S i sh last r h1;simp[Fo.cnt] at h1
 | cell k c r' ih=>
  intro e S i sh last r h1 hw hk hl hlo hm hv h0 hS hb;simp only[Fo.wf,Agf,Agy] at hw;obtain⟨⟨⟨w1,w2⟩,w3⟩,w4⟩:=hw;simp only[Fo.flat,Ag8,AgL] at hv;have hcnt:=hmax i _ h0 hv;have hcf:=Dw r';simp only[Age,Agd] at hcnt;have hvM:=hA.hv;have hMM:=hA.hM;simp only[Fo.cnt] at hl;have hb':E0 (e::S):=λx hx=>by
   rcases List.mem_cons.1 hx with rfl | hx
   ·constructor<;>omega
   ·exact hb x hx
  have hkr:=PX (sh:=sh) hA h0 hv hS hb' (by rw[hk];exact w1) hlo;have hv1:=Ed h0 hv;obtain⟨kl,kp⟩:=Mu (e:=e) k;have hbk:E0 (HF e k::S):=λx hx=>by
   rcases List.mem_cons.1 hx with rfl | hx
   ·rw[kl];exact hb' e (by simp)
   ·exact hb x hx
  have hd:=NE (sh:=Og k sh) hA (by omega) hv1 (by simp only[Agd];omega) hbk (NH (by rw[hk];exact w1)) w2 w3;obtain⟨q1,q2⟩:=Mv hlo hm w1;have hv2:=(GM (by omega) hv1).2.1;have:=TD hA ih (hd.of hkr) (by rw[kl,hl];rfl) (by rw[kp];exact w4) q1 q2 hv2 (by omega) (by omega) hb;simp only[Fo.flat,Fo.sh,Age,Agd];rw[show i+((((BZ k).length+(r'.flat.length+1):Nat)):Int)=i+(BZ k).length+1+r'.flat.length from by omega];exact this
 | node k c kids r' ihk ih=>
  intro e S i sh last r h1 hw hk hl hlo hm hv h0 hS hb;simp only[Fo.wf,Agf,AfY] at hw;obtain⟨⟨⟨⟨⟨w1,w2⟩,w3⟩,w5⟩,w6⟩,w4⟩:=hw;simp only[Fo.flat,Ag8,AgL] at hv;have hcnt:=hmax i _ h0 hv;have hcf:=Dw r';have hck:=Dw kids;simp only[Age,Agd] at hcnt;have hvM:=hA.hv;have hMM:=hA.hM;simp only[Fo.cnt] at hl;have hb':E0 (e::S):=λx hx=>by
   rcases List.mem_cons.1 hx with rfl | hx
   ·constructor<;>omega
   ·exact hb x hx
  have hkr:=PX (sh:=sh) hA h0 hv hS hb' (by rw[hk];exact w1) hlo;have hv1:=Ed h0 hv;obtain⟨kl,kp⟩:=Mu (e:=e) k;have hbk:E0 (HF e k::S):=λx hx=>by
   rcases List.mem_cons.1 hx with rfl | hx
   ·rw[kl];exact hb' e (by simp)
   ·exact hb x hx
  have hn:=Lx (sh:=Og k sh) hA (by omega) hv1 (by simp only[Agd];omega) hbk (NH (by rw[hk];exact w1)) w2 (by simpa using w3) (by omega);have hv2:=(GM (by omega) hv1).2.1;have hd:=ihk ⟨decide (c.fKind=6),c.fN,decide (c.fKind=6),[],false⟩ (HF e k::S) (i+(BZ k).length+1) (Kv (S.length+1) (Og k sh) c) none _ (by omega) w6 rfl w5 rfl (λ_=>rfl) hv2 (by omega) (by simp only[Agd];omega) hbk;obtain⟨q1,q2⟩:=Mv hlo hm w1;have hv3:=Ed (by omega) hv2;have:=TD hA ih ((hd.of hn).of hkr) (by rw[kl,hl];rfl) (by rw[kp];exact w4) q1 q2 hv3 (by omega) (by omega) hb;simp only[Fo.flat,Fo.sh,Age,Agd];rw[show i+((((BZ k).length+(kids.flat.length+r'.flat.length+1):Nat)):Int)=i+(BZ k).length+1+kids.flat.length+r'.flat.length from by omega];exact this
end
theorem Uf {S O:Type}{body:S→Option (Stp S O)}{o:O}:∀{n:Nat} {s:S} (k:Nat),Cj body n s=some o→Cj body (n+k) s=some o
 | 0,s,k,h=>by cases h
 | n+1,s,k,h=>by
  rw[show n+1+k=n+k+1 from by omega,Cj];rw[Cj] at h
  cases hb:body s with
  | none=>rw[hb] at h;cases h
  | some t=>
   rw[hb] at h
   cases t with
   | next s'=>exact Uf k h
   | out o'=>exact h
theorem Fin.eq {S O:Type}{body:S→Option (Stp S O)}{s:S}{o o':O}{n:Nat}(h:Fin body s o)(h':Cj body n s=some o'):o'=o:=by
 obtain⟨k,hk⟩:=h;have:=Uf k h';rw[hk n] at this;exact(AA this).symm
theorem Sf:∀{S:List AN},E0 S→E0 (Oy S)∧(Oy S).length≤S.length
 | [],h=>⟨h,Agu _⟩
 | e::S,h=>by
  have hS:E0 S:=λx hx=>h x (by simp[hx]);have he:=h e (by simp);unfold Oy
  cases hd:decide (1<e.fLeft) with
  | true=>
   simp only[AfY] at hd;refine⟨λx hx=>?_,by simp⟩;rcases List.mem_cons.1 hx with rfl | hx
   ·simp only;omega
   ·exact hS x hx
  | false=>
   obtain⟨h1,h2⟩:=Sf hS;exact⟨h1,by simp only[Agb,Agd];omega⟩
theorem AaD {n:Int}{S:List AN}{i:Int}{sh:AW}{c:Ac}{σ:Ti}(hb:E0 S)(hS:(S.length:Int)≤i)(hN:c.fN≤9223372036854775807)(h:UT n S i sh c = .next σ):∃S' sh',σ=(S'.reverse,i+1,sh')∧E0 S'∧(S'.length:Int)≤i+1:=by
 unfold UT at h
 cases hp:pl c with
 | false=>simp[hp] at h
 | true=>
  simp only[hp,Agl,Agb] at h
  cases S with
  | nil=>
   simp only at h
   cases hn:decide (0<c.fN) with
   | false=>simp[hn] at h
   | true=>
    simp only[hn,Agg] at h
    cases hm:decide (n<c.fN) with
    | true=>simp[hm] at h
    | false=>
     simp only[hm,Agb,Stp.next.injEq] at h;refine⟨[_],_,h.symm,λx hx=>?_,by simp at hS ⊢;omega⟩;simp only[Agw] at hx;subst hx;simp only[AfY] at hn;exact⟨by simp only;omega,hN⟩
  | cons e S=>
   have he:=hb e (by simp);have hbS:E0 S:=λx hx=>hb x (by simp[hx]);simp only[Agd] at hS
   cases hk:e.fKey with
   | true=>
    simp only[hk,Agg] at h
    cases hq:(!decide (c.fKind=4)||(e.fStarted&&(C9 c.fStr e.fLast||decide (c.fStr=e.fLast)))) with
    | true=>rw[hq] at h;simp at h
    | false=>
     rw[hq] at h;simp only[Agb,Stp.next.injEq] at h;refine⟨_::S,_,h.symm,λx hx=>?_,by simp only[Agd];omega⟩;rcases List.mem_cons.1 hx with rfl | hx
     ·exact he
     ·exact hbS x hx
   | false=>
    simp only[hk,Agb] at h
    cases hn:decide (0<c.fN) with
    | true=>
     simp only[hn,Agg] at h
     cases hm:decide (n<c.fN) with
     | true=>simp[hm] at h
     | false=>
      simp only[hm,Agb,Stp.next.injEq] at h;refine⟨_::e::S,_,h.symm,λx hx=>?_,by simp only[Agd];omega⟩;rcases List.mem_cons.1 hx with rfl | hx
      ·simp only[AfY] at hn;exact⟨by simp only;omega,hN⟩
      ·exact hb x hx
    | false=>
     simp only[hn,Agb] at h
     cases hq:decide (Oy (e::S)=[]) with
     | true=>rw[hq] at h;simp at h
     | false=>
      rw[hq] at h;simp only[Agb,Stp.next.injEq] at h;obtain⟨h1,h2⟩:=Sf hb;simp only[Agd] at h2;exact⟨_,_,h.symm,h1,by omega⟩
theorem PR {F M:Nat}{v:List Ac}(hA:Xe F M v):∃o,Cj (Ui F v) F (([]:List AN),0,(⟨0,0,false,false⟩:AW))=some o∧True:=by
 refine OR (λσ=>∃S i sh,σ=(S.reverse,i,sh)∧E0 S∧(S.length:Int)≤i∧0≤i∧i≤v.length) (λσ=>v.length-σ.2.1.toNat) (λ_=>True) (λσ hI=>?_) F _ ⟨[],0,_,rfl,(λx hx=>by cases hx),AgD _,AgD _,by omega⟩ (by have:=hA.hv;have:=hA.hF;simp;omega);obtain⟨S,i,sh,rfl,hb,hS,h0,hi⟩:=hI
 by_cases hx:i<v.length
 ·obtain⟨c,hc⟩:∃c,v[i.toNat]? =some c:=⟨v[i.toNat]'(by omega),Agi (by omega)⟩
  have hdr:v.drop i.toNat=c::v.drop (i.toNat+1):=by rw[List.drop_eq_getElem_cons (by omega)];congr 1;exact(List.getElem?_eq_some_iff.1 hc).2
  have hr:=round (sh:=sh) hA h0 hdr hS hb
  cases hl:UT v.length S i sh c with
  | next τ=>
   obtain⟨S',sh',rfl,h1,h2⟩:=AaD hb hS (hA.hc c (Agq hc)).2.2 hl;exact .inl ⟨_,by rw[hr,hl],⟨S',i+1,sh',rfl,h1,h2,by omega,by omega⟩,by simp only;omega⟩
  | out o=>exact .inr ⟨o,by rw[hr,hl],trivial⟩
 ·refine .inr ⟨.go sh,?_,trivial⟩;show Er F v S.reverse i sh=_;unfold Er;rw[AP (by simpa using hx)]
def Fo.one:Fo→Bool
 | .cell none _ .nil=>true
 | .node none _ _ .nil=>true
 | _=>false
def P3:AW:=⟨0,0,false,false⟩
theorem Aa9 {F M:Nat}{v:List Ac}(hA:Xe F M v){f:Fo}(h1:f.one=true)(hw:f.wf false none=true){r:List Ac}(hv:v=f.flat++r):Fin (Ui F v) ([],0,P3) (.ret (f.flat.length,f.sh 0 P3,true)):=by
 have h0:v.drop (0:Int).toNat=f.flat++r:=by rw[hv];rfl
 have hlen:f.flat.length≤v.length:=by rw[hv];simp
 cases f with
 | nil=>cases h1
 | cell k c r'=>
  cases k with
  | some s=>cases h1
  | none=>
   cases r' with
   | nil=>
    simp only[Fo.wf,Agf,Agy] at hw;have:=NE (S:=[]) (sh:=P3) hA (AgD 0) h0 (by simp) (λx hx=>by cases hx) rfl hw.1.1.2 hw.1.2;unfold IX at this;rw[AgT (show Oy []=[] from rfl)] at this;simpa[Fo.flat,Fo.sh,BZ,Og] using this
   | cell _ _ _=>cases h1
   | node _ _ _ _=>cases h1
 | node k c kids r'=>
  cases k with
  | some s=>cases h1
  | none=>
   cases r' with
   | nil=>
    simp only[Fo.wf,Agf,AfY] at hw;obtain⟨⟨⟨⟨⟨w1,w2⟩,w3⟩,w5⟩,w6⟩,w4⟩:=hw;have hck:=Dw kids;simp only[Fo.flat,BZ,AgK,AgP,Agd] at hlen;have hvM:=hA.hv;have hMM:=hA.hM;have hn:=Lx (S:=[]) (sh:=P3) hA (AgD 0) h0 (by simp) (λx hx=>by cases hx) rfl w2 (by simpa using w3) (by omega);have hv2:=(GM (AgD 0) h0).2.1;have hd:=Ox hA kids ⟨decide (c.fKind=6),c.fN,decide (c.fKind=6),[],false⟩ [] (0+1) (Kv 0 P3 c) none r (by omega) w6 rfl w5 rfl (λ_=>rfl) (by rw[hv2];simp[Fo.flat]) (by omega) (by simp) (λx hx=>by cases hx);unfold IX at hd;rw[AgT (show Oy []=[] from rfl)] at hd;have:=hn.fin hd;have e:((0:Int)+1+kids.flat.length)=((Fo.node none c kids .nil).flat.length:Int):=by simp[Fo.flat,BZ];omega
    rw[e] at this;exact this
   | cell _ _ _=>cases h1
   | node _ _ _ _=>cases h1
theorem Ug {F M:Nat}{v:List Ac}(hA:Xe F M v){f:Fo}(h1:f.one=true)(hw:f.wf false none=true){r:List Ac}(hv:v=f.flat++r):Km F v=some ((f.flat.length:Int),f.sh 0 P3,true):=by
 obtain⟨o,ho,_⟩:=PR hA;have e:=(Aa9 hA h1 hw hv).eq ho;subst e;unfold Km;rw[Bw ho];rfl
def JN (m:Bool)(last:Option Aj)(xs:List Ac):Option (Option Aj×List Ac):=
 bif m then match xs with
  | []=>none
  | c::r=>bif pl c&&decide (c.fKind=4)&&BN true last (some c.fStr) then some (some c.fStr,r) else none
 else some (none,xs)
def JF:Nat→Bool→Option Aj→Nat→List Ac→Option (Fo×List Ac)
 | 0,_,_,_,_=>none
 | _+1,_,_,0,xs=>some (.nil,xs)
 | F+1,m,last,k+1,xs=>
  match JN m last xs with
  | none=>none
  | some (_,[])=>none
  | some (key,c::xs')=>
   bif !pl c then none else
   bif decide (0<c.fN) then
    match JF F (decide (c.fKind=6)) none c.fN.toNat xs' with
    | none=>none
    | some (kids,ys)=>match JF F m key k ys with
     | none=>none
     | some (r,zs)=>some (.node key c kids r,zs)
   else match JF F m key k xs' with
    | none=>none
    | some (r,zs)=>some (.cell key c r,zs)
theorem SA {c:Ac}(hp:pl c=true)(hk:c.fKind=4):c=⟨4,0,c.fStr,0⟩∧c.fStr.all LJ=true:=by
 cases c
 simp only at hk;subst hk;simp[pl] at hp;obtain⟨h1,h2,h3⟩:=hp;subst h1;subst h2;exact⟨rfl,by simpa using h3⟩
theorem OK {m:Bool}{last key:Option Aj}{xs r:List Ac}(h:JN m last xs=some (key,r)):xs=BZ key++r∧BN m last key=true:=by
 unfold JN at h
 cases m with
 | false=>cases h;exact⟨rfl,rfl⟩
 | true=>
  simp only[Agg] at h
  cases xs with
  | nil=>cases h
  | cons c r'=>
   simp only at h
   cases hb:(pl c&&decide (c.fKind=4)&&BN true last (some c.fStr)) with
   | false=>rw[hb] at h;cases h
   | true=>
    rw[hb] at h;simp only[Agf,AfY] at hb
    cases h
    exact⟨by rw[(SA hb.1.1 hb.1.2).1];rfl,hb.2⟩
theorem IT:∀(F:Nat) (m:Bool) (last:Option Aj) (k:Nat) (xs:List Ac) (f:Fo) (ys:List Ac),JF F m last k xs=some (f,ys)→xs=f.flat++ys∧f.wf m last=true∧f.cnt=k
 | 0,_,_,_,_,_,_,h=>by cases h
 | F+1,m,last,0,xs,f,ys,h=>by cases h;exact⟨rfl,rfl,rfl⟩
 | F+1,m,last,k+1,xs,f,ys,h=>by
  rw[JF] at h
  cases hk:JN m last xs with
  | none=>rw[hk] at h;cases h
  | some p=>
   obtain⟨key,r⟩:=p;obtain⟨h1,h2⟩:=OK hk;rw[hk] at h
   cases r with
   | nil=>cases h
   | cons c xs'=>
    simp only at h
    cases hp:pl c with
    | false=>rw[hp] at h;cases h
    | true=>
     rw[hp] at h;simp only[Agl,Agb] at h
     cases hn:decide (0<c.fN) with
     | true=>
      rw[hn] at h;simp only[Agg] at h
      cases hq:JF F (decide (c.fKind=6)) none c.fN.toNat xs' with
      | none=>rw[hq] at h;cases h
      | some q=>
       obtain⟨kids,zs⟩:=q;rw[hq] at h;simp only at h
       cases hr:JF F m key k zs with
       | none=>rw[hr] at h;cases h
       | some q2=>
        obtain⟨r2,us⟩:=q2;rw[hr] at h;cases h;obtain⟨a1,a2,a3⟩:=IT F _ _ _ _ _ _ hq;obtain⟨b1,b2,b3⟩:=IT F _ _ _ _ _ _ hr;refine⟨by rw[h1,a1,b1];simp[Fo.flat],?_,by simp[Fo.cnt,b3]⟩;simp only[AfY] at hn;simp only[Fo.wf,h2,hp,a2,b2,Ag1,Agp,Agf,AfY];omega
     | false=>
      rw[hn] at h;simp only[Agb] at h
      cases hr:JF F m key k xs' with
      | none=>rw[hr] at h;cases h
      | some q2=>
       obtain⟨r2,us⟩:=q2;rw[hr] at h;cases h;obtain⟨b1,b2,b3⟩:=IT F _ _ _ _ _ _ hr;exact⟨by rw[h1,b1];simp[Fo.flat],by simp[Fo.wf,h2,hp,b2,hn],by simp[Fo.cnt,b3]⟩
theorem Jn:∀(F F':Nat) (m:Bool) (last:Option Aj) (k:Nat) (xs:List Ac),xs.length<F→xs.length<F'→JF F m last k xs=JF F' m last k xs
 | 0,_,_,_,_,_,h,_=>by omega
 | _+1,0,_,_,_,_,_,h=>by omega
 | F+1,F'+1,m,last,0,xs,_,_=>rfl
 | F+1,F'+1,m,last,k+1,xs,h,h'=>by
  rw[JF,JF]
  cases hk:JN m last xs with
  | none=>rfl
  | some p=>
   obtain⟨key,r⟩:=p;obtain⟨h1,h2⟩:=OK hk
   cases r with
   | nil=>rfl
   | cons c xs'=>
    have hl:xs'.length<xs.length:=by rw[h1];simp;omega
    simp only
    cases hp:pl c with
    | false=>rfl
    | true=>
     simp only[Agl,Agb]
     cases hn:decide (0<c.fN) with
     | true=>
      simp only[Agg];rw[Jn F F' _ _ _ xs' (by omega) (by omega)]
      cases hq:JF F' (decide (c.fKind=6)) none c.fN.toNat xs' with
      | none=>rfl
      | some q=>
       obtain⟨kids,zs⟩:=q;have:=(IT _ _ _ _ _ _ _ hq).1;have hz:zs.length≤xs'.length:=by rw[this];simp
       simp only;rw[Jn F F' m key k zs (by omega) (by omega)]
     | false=>
      simp only[Agb];rw[Jn F F' m key k xs' (by omega) (by omega)]
def VT {S:Type}(body:S→Option (Stp S LkO))(s:S):Prop:=∃sh',Fin body s (.ret (0,sh',false))∨Fin body s (.go sh')
theorem EU.bad {S:Type}{body:S→Option (Stp S LkO)}{s t:S}(h:EU body s t)(h':VT body t):VT body s:=by
 obtain⟨sh',h' | h'⟩:=h'
 ·exact⟨sh',.inl (h.fin h')⟩
 ·exact⟨sh',.inr (h.fin h')⟩
section
variable {F M : Nat} {v : List Ac}
theorem VT.end_ {S:List AN}{i:Int}{sh:AW}(h0:0≤i)(h:v.drop i.toNat=[]):VT (Ui F v) (S.reverse,i,sh):=by
 refine⟨sh,.inr (Fin.step ?_)⟩;show Er F v S.reverse i sh=_;unfold Er;rw[AP];have:v.length≤i.toNat:=by simpa using h
 simp;omega
theorem VT.pl_ (hA:Xe F M v){S:List AN}{i:Int}{sh:AW}{c:Ac}{r:List Ac}(h0:0≤i)(h:v.drop i.toNat=c::r)(hS:(S.length:Int)≤i)(hb:E0 S)(hp:pl c=false):VT (Ui F v) (S.reverse,i,sh):=by
 refine⟨sh,.inl (Fin.step ?_)⟩;rw[round hA h0 h hS hb];simp[UT,hp]
theorem VB (hA:Xe F M v):∀(P:Nat) (k:Nat) (e:AN) (S:List AN) (i:Int) (sh:AW) (last:Option Aj) (xs:List Ac),xs.length<P→JF P e.fPairs last (k+1) xs=none→e.fKey=e.fPairs→e.fLeft=(k:Int)+1→(k:Int)+1≤9223372036854775807→KM e last→(e.fPairs=false→last=none)→v.drop i.toNat=xs→0≤i→(S.length:Int)+1≤i→E0 S→
  VT (Ui F v) ((e::S).reverse,i,sh):=by
 intro P
 induction P with
 | zero=>intro k e S i sh last xs h;omega
 | succ P ih=>
  intro k e S i sh last xs hP hn hk hl hkm hlo hm hv h0 hS hb;have hb':E0 (e::S):=λx hx=>by
   rcases List.mem_cons.1 hx with rfl | hx
   ·constructor<;>omega
   ·exact hb x hx
  rw[JF] at hn
  cases hq:JN e.fPairs last xs with
  | none=>
   unfold JN at hq
   cases hpr:e.fPairs with
   | false=>rw[hpr] at hq;cases hq
   | true=>
    rw[hpr] at hq hk;simp only[Agg] at hq
    cases xs with
    | nil=>exact VT.end_ h0 hv
    | cons c r=>
     simp only at hq
     cases hp:pl c with
     | false=>exact VT.pl_ hA h0 hv (by simpa using hS) hb' hp
     | true=>
      refine⟨sh,.inl (Fin.step ?_)⟩;rw[round hA h0 hv (by simpa using hS) hb'];have ht:(!decide (c.fKind=4)||(e.fStarted&&(C9 c.fStr e.fLast||decide (c.fStr=e.fLast))))=true:=by
       rw[hp] at hq
       cases h4:decide (c.fKind=4) with
       | false=>rfl
       | true=>
        rw[h4] at hq;simp only[Bool.and_self,Agp] at hq;have hok:=(SA hp (by simpa using h4)).2
        cases last with
        | none=>simp[BN,hok] at hq
        | some p=>
         obtain⟨q1,q2⟩:=hlo;rw[q1,q2]
         cases hc:(C9 c.fStr p||decide (c.fStr=p)) with
         | true=>rfl
         | false=>simp[BN,hok,hc] at hq
      simp only[UT,hp,hk,ht,Agl,Agb,Agg]
  | some q=>
   obtain⟨key,r⟩:=q;obtain⟨h1,h2⟩:=OK hq;rw[hq] at hn;have hkr:=PX (sh:=sh) hA h0 (by rw[hv];exact h1) hS hb' (by rw[hk];exact h2) hlo;have hv1:=Ed h0 (hv.trans h1);obtain⟨kl,kp⟩:=Mu (e:=e) key;obtain⟨q1,q2⟩:=Mv hlo hm h2;have hbk:E0 (HF e key::S):=λx hx=>by
    rcases List.mem_cons.1 hx with rfl | hx
    ·rw[kl];exact hb' e (by simp)
    ·exact hb x hx
   refine hkr.bad ?_
   cases r with
   | nil=>exact VT.end_ (by omega) hv1
   | cons c xs'=>
    have hlen:xs'.length+1≤xs.length:=by rw[h1];simp
    have hvl:xs.length≤v.length:=by rw[← hv,AgJ];omega
    have hvM:=hA.hv;have hMM:=hA.hM;have hkk:=NH (e:=e) (last:=last) (k:=key) (by rw[hk];exact h2);simp only at hn;have hSk:(((HF e key::S).length:Nat):Int)≤i+(BZ key).length:=by simp only[Agd];omega
    cases hp:pl c with
    | false=>exact VT.pl_ hA (by omega) hv1 hSk hbk hp
    | true=>
     rw[hp] at hn;simp only[Agl,Agb] at hn;obtain⟨g1,g2,g3⟩:=GM (by omega) hv1;have hcN:=(hA.hc c (Agq g1)).2.2;have more:∀(s:Ti) (j:Int) (sh':AW) (zs:List Ac),IX (Ui F v) s (HF e key::S) j sh'→v.drop j.toNat=zs→zs.length<P→0≤j→(S.length:Int)+1≤j→JF P e.fPairs key k zs=none→VT (Ui F v) s:=λs j sh' zs hd hz hzl hj hSj hnone=>by
      cases k with
      | zero=>
       cases P with
       | zero=>omega
       | succ P=>cases hnone
      | succ k=>
       have:=hd.more (by rw[kl];omega);refine this.bad (ih k _ S j sh' key zs hzl (by rw[kp];exact hnone) rfl (by simp only[kl];omega) (by omega) ?_ (by simpa using q2) hz hj hSj hb)
       cases key with
       | none=>exact q1
       | some p=>exact q1
     cases hN:decide (0<c.fN) with
     | true=>
      rw[hN] at hn;simp only[Agg] at hn;simp only[AfY] at hN
      by_cases hbig:c.fN≤v.length
      ·have hnd:=Lx (sh:=Og key sh) hA (by omega) hv1 hSk hbk (by simpa[NI] using hkk) hp (by simpa using hN) hbig;refine hnd.bad ?_
       cases hks:JF P (decide (c.fKind=6)) none c.fN.toNat xs' with
       | none=>
        obtain⟨n',hn'⟩:∃n',c.fN.toNat=n'+1:=⟨c.fN.toNat-1,by omega⟩
        rw[hn'] at hks;exact ih n' _ _ _ _ none xs' (by omega) hks rfl (by simp only;omega) (by omega) rfl (λ_=>rfl) g2 (by omega) (by simp only[Agd];omega) hbk
       | some q=>
        obtain⟨kids,zs⟩:=q;rw[hks] at hn;simp only at hn;have hn2:JF P e.fPairs key k zs=none:=by
         cases hz:JF P e.fPairs key k zs with
         | none=>rfl
         | some q=>rw[hz] at hn;cases hn
        obtain⟨a1,a2,a3⟩:=IT _ _ _ _ _ _ _ hks;have hd:=Ox hA kids ⟨decide (c.fKind=6),c.fN,decide (c.fKind=6),[],false⟩ (HF e key::S) (i+(BZ key).length+1) (Kv (S.length+1) (Og key sh) c) none zs (by omega) a2 rfl (by simp only;omega) rfl (λ_=>rfl) (by rw[g2];exact a1) (by omega) (by simp only[Agd];omega) hbk;have hz:v.drop (i+(BZ key).length+1+kids.flat.length).toNat=zs:=Ed (by omega) (g2.trans a1);have hzl:zs.length≤xs'.length:=by rw[a1];simp
        exact more _ _ _ zs hd hz (by omega) (by omega) (by omega) hn2
      ·refine⟨Kv (HF e key::S).length (Og key sh) c,.inl (Fin.step ?_)⟩;rw[round hA (by omega) hv1 hSk hbk];have hbig':decide ((v.length:Int)<c.fN)=true:=by simpa using hbig
       simp only[UT,hp,hkk,hbig',hN,Agl,Agb,Agg,decide_true]
     | false=>
      rw[hN] at hn;simp only[Agb] at hn;have hn2:JF P e.fPairs key k xs'=none:=by
       cases hz:JF P e.fPairs key k xs' with
       | none=>rfl
       | some q=>rw[hz] at hn;cases hn
      have hd:=NE (sh:=Og key sh) hA (by omega) hv1 hSk hbk (by simpa[NI] using hkk) hp hN;exact more _ _ _ xs' hd g2 (by omega) (by omega) (by omega) hn2
def JO (xs:List Ac):Option (Fo×List Ac):=JF (xs.length+1) false none 1 xs
theorem Wu {P:Nat}{xs ys:List Ac}{f:Fo}(h:JF P false none 1 xs=some (f,ys)):f.one=true:=by
 obtain⟨h1,h2,h3⟩:=IT _ _ _ _ _ _ _ h
 cases f with
 | nil=>cases h3
 | cell k c r=>
  cases r with
  | nil=>
   cases k with
   | none=>rfl
   | some s=>simp[Fo.wf,BN] at h2
  | cell _ _ _=>simp[Fo.cnt] at h3
  | node _ _ _ _=>simp[Fo.cnt] at h3
 | node k c kids r=>
  cases r with
  | nil=>
   cases k with
   | none=>rfl
   | some s=>simp[Fo.wf,BN] at h2
  | cell _ _ _=>simp[Fo.cnt] at h3
  | node _ _ _ _=>simp[Fo.cnt] at h3
theorem Ym (hA:Xe F M v)(h:JO v=none):VT (Ui F v) ([],0,P3):=by
 have hlf:E0 []:=λx hx=>by cases hx
 unfold JO at h;rw[JF] at h;simp only[JN,Agb] at h
 cases v with
 | nil=>exact VT.end_ (S:=[]) (AgD 0) rfl
 | cons c xs'=>
  have hv1:(c::xs').drop (0:Int).toNat=c::xs':=rfl;have hvM:=hA.hv;have hMM:=hA.hM;simp only at h
  cases hp:pl c with
  | false=>exact VT.pl_ (S:=[]) hA (AgD 0) hv1 (by simp) hlf hp
  | true=>
   rw[hp] at h;simp only[Agl,Agb] at h;have hcN:=(hA.hc c (by simp)).2.2
   cases hN:decide (0<c.fN) with
   | true=>
    rw[hN] at h;simp only[Agg] at h;simp only[AfY] at hN
    by_cases hbig:c.fN≤(c::xs').length
    ·have hnd:=Lx (S:=[]) (sh:=P3) hA (AgD 0) hv1 (by simp) hlf rfl hp (by simpa using hN) hbig;refine hnd.bad ?_
     cases hks:JF (c::xs').length (decide (c.fKind=6)) none c.fN.toNat xs' with
     | none=>
      obtain⟨n',hn'⟩:∃n',c.fN.toNat=n'+1:=⟨c.fN.toNat-1,by omega⟩
      rw[hn'] at hks;exact VB hA (c::xs').length n' ⟨decide (c.fKind=6),c.fN,decide (c.fKind=6),[],false⟩ [] (0+1) _ none xs' (by simp) hks rfl (by simp only;omega) (by omega) rfl (λ_=>rfl) rfl (by omega) (by simp) hlf
     | some q=>rw[hks] at h;cases h
    ·refine⟨Kv 0 P3 c,.inl (Fin.step ?_)⟩;rw[show Ui F (c::xs') (([]:List AN),0,P3)=_ from round (S:=[]) hA (AgD 0) hv1 (by simp) hlf];have hbig':decide (((c::xs').length:Int)<c.fN)=true:=by simpa using hbig
     simp only[UT,hp,hbig',hN,Agl,Agb,Agg,decide_true]
   | false=>rw[hN] at h;cases h
theorem AcC (hA:Xe F M v):(∃f ys,JO v=some (f,ys)∧Km F v=some ((f.flat.length:Int),f.sh 0 P3,true))∨(JO v=none∧∃sh',Km F v=some (0,sh',false)):=by
 cases h:JO v with
 | some q=>
  obtain⟨f,ys⟩:=q;obtain⟨h1,h2,h3⟩:=IT _ _ _ _ _ _ _ h;exact .inl ⟨f,ys,rfl,Ug hA (Wu h) h2 h1⟩
 | none=>
  refine .inr ⟨rfl,?_⟩;obtain⟨o,ho,_⟩:=PR hA;obtain⟨sh',hb | hb⟩:=Ym hA h
  ·have e:=hb.eq ho;subst e;exact⟨sh',by unfold Km;rw[Bw ho];rfl⟩
  ·have e:=hb.eq ho;subst e;exact⟨sh',by unfold Km;rw[Bw ho];rfl⟩
end
theorem Lf {x:Int}(h : -9223372036854775808≤x)(h':x≤9223372036854775807):IntKind.wrap .i64 x=x:=by
 simp only[IntKind.wrap,IntKind.bits,IntKind.signed];simp;omega
def Fo.dep:Fo→Nat
 | .nil=>0
 | .cell _ _ r=>max 1 r.dep
 | .node _ _ kids r=>max (kids.dep+1) r.dep
theorem HV (k:Option Aj)(s:AW):(Og k s).fDepth=s.fDepth∧(Og k s).fOutside=s.fOutside∧(Og k s).fLong=(s.fLong||(BZ k).any λc=>decide (200<(c.fStr.length:Int))):=by
 cases k with
 | none=>simp[Og,BZ]
 | some x=>simp[Og,shk,BZ]
theorem MH:∀(f:Fo) (d:Nat) (s:AW),(d:Int)≤s.fDepth→(f.sh d s).fDepth=max s.fDepth ((d:Int)+f.dep)
 | .nil,d,s,h=>by simp only[Fo.sh,Fo.dep];omega
 | .cell k c r,d,s,h=>by
  have hk:=(HV k s).1;have e:(Kv d (Og k s) c).fDepth=max s.fDepth ((d:Int)+1):=by rw[Kv,hk]
  rw[Fo.sh,MH r d _ (by rw[e];omega),e,Fo.dep];omega
 | .node k c kids r,d,s,h=>by
  have hk:=(HV k s).1;have e:(Kv d (Og k s) c).fDepth=max s.fDepth ((d:Int)+1):=by rw[Kv,hk]
  have e2:=MH kids (d+1) (Kv d (Og k s) c) (by rw[e];omega);rw[e] at e2;rw[Fo.sh,MH r d _ (by rw[e2];omega),e2,Fo.dep];omega
def CA (c:Ac):Bool:=decide (c.fKind=3)&&!(decide ((-1000000000000)≤c.fInt)&&decide (c.fInt≤1000000000000))
def RD (c:Ac):Bool:=decide (200<(c.fStr.length:Int))
theorem PY (k:Option Aj):(BZ k).any CA=false:=by cases k<;>simp[BZ,CA]
theorem S0:∀(f:Fo) (d:Nat) (s:AW),(f.sh d s).fOutside=(s.fOutside||f.flat.any CA)
 | .nil,d,s=>by simp[Fo.sh,Fo.flat]
 | .cell k c r,d,s=>by
  rw[Fo.sh,S0 r,Kv,(HV k s).2.1];simp only[Fo.flat,List.any_append,List.any_cons,PY,Ags,Bool.or_assoc];rfl
 | .node k c kids r,d,s=>by
  rw[Fo.sh,S0 r,S0 kids,Kv,(HV k s).2.1];simp only[Fo.flat,List.any_append,List.any_cons,PY,Ags,Bool.or_assoc];rfl
theorem OH:∀(f:Fo) (d:Nat) (s:AW),(f.sh d s).fLong=(s.fLong||f.flat.any RD)
 | .nil,d,s=>by simp[Fo.sh,Fo.flat]
 | .cell k c r,d,s=>by
  rw[Fo.sh,OH r,Kv,(HV k s).2.2];simp only[Fo.flat,List.any_append,List.any_cons,Bool.or_assoc];rfl
 | .node k c kids r,d,s=>by
  rw[Fo.sh,OH r,OH kids,Kv,(HV k s).2.2];simp only[Fo.flat,List.any_append,List.any_cons,Bool.or_assoc];rfl
def Zb (c:Ac):Int:=
 bif decide (c.fKind=1) then 4 else bif decide (c.fKind=2) then 5-c.fInt else bif decide (c.fKind=3) then((Lib.itoa c.fInt).length:Int) else
 bif decide (c.fKind=4) then N4 c.fStr else 2
def SP:Option Aj→Int
 | none=>0
 | some s=>N4 s+1
def Fo.byt:Fo→Int
 | .nil=>0
 | .cell k c r=>SP k+Zb c+r.byt
 | .node k c kids r=>SP k+(c.fN+1)+kids.byt+r.byt
theorem MN (s:Aj):2≤N4 s:=by unfold N4;omega
theorem OT (k:Option Aj):0≤SP k:=by
 cases k with
 | none=>exact AgD 0
 | some s=>have:=MN s;simp only[SP];omega
theorem WA {c:Ac}(hp:pl c=true):0≤Zb c:=by
 unfold Zb
 cases h1:decide (c.fKind=1) with
 | true=>simp
 | false=>
  cases h2:decide (c.fKind=2) with
  | true=>
   simp[pl,h1,h2] at hp;simp only[Agb,Agg];omega
  | false=>
   cases h3:decide (c.fKind=3) with
   | true=>simp
   | false=>
    cases h4:decide (c.fKind=4) with
    | true=>have:=MN c.fStr;simp only[Agb,Agg];omega
    | false=>simp
theorem ZP {c:Ac}(hp:pl c=true):0≤c.fN:=by
 simp only[pl,← Bool.decide_or] at hp
 cases h1:decide (c.fKind=1)<;>cases h2:decide (c.fKind=2)<;>cases h3:decide (c.fKind=3)<;>cases h4:decide (c.fKind=4)<;>cases h5:decide (c.fKind=5)<;>cases h6:decide (c.fKind=6)<;>simp[h1,h2,h3,h4,h5,h6] at hp<;>omega
theorem ON {c:Ac}(hp:pl c=true)(hn:0<c.fN):(c.fKind=5∨c.fKind=6)∧c.fInt=0∧c.fStr=[]:=by
 cases h1:decide (c.fKind=1)<;>cases h2:decide (c.fKind=2)<;>cases h3:decide (c.fKind=3)<;>cases h4:decide (c.fKind=4)<;>cases h5:decide (c.fKind=5)<;>cases h6:decide (c.fKind=6)<;>simp[pl,h1,h2,h3,h4,h5,h6] at hp<;>(simp only[AfY,AfZ] at *;first | omega | exact⟨by omega,hp.1,hp.2.1⟩)
theorem Z4 {c:Ac}(hp:pl c=true)(hn:decide (0<c.fN)=false):szc c=Zb c:=by
 have hN:=ZP hp;have h0:c.fN=0:=by simp only[AfZ] at hn;omega
 unfold szc Zb;rw[h0]
 cases h1:decide (c.fKind=1) with
 | true=>rfl
 | false=>
  cases h2:decide (c.fKind=2) with
  | true=>
   simp[pl,h1,h2] at hp;simp only[Agb,Agg];exact Lf (by omega) (by omega)
  | false=>rfl
theorem Z3 {c:Ac}(hp:pl c=true)(hn:0<c.fN)(hm:c.fN≤9223372036854775000):szc c=c.fN+1:=by
 obtain⟨hk,_,_⟩:=ON hp hn;unfold szc;rw[Aga (by omega),Aga (by omega),Aga (by omega),Aga (by omega)];simp only[Agb];rw[Lf (x:=c.fN-1) (by omega) (by omega),Lf (by omega) (by omega)];omega
theorem IN:∀{f:Fo} {m:Bool} {l:Option Aj},f.wf m l=true→0≤f.byt
 | .nil,_,_,_=>AgD 0
 | .cell k c r,m,l,h=>by
  simp only[Fo.wf,Agf] at h;have h1:=IN h.2;have h2:=WA h.1.1.2;have h3:=OT k;simp only[Fo.byt];omega
 | .node k c kids r,m,l,h=>by
  simp only[Fo.wf,Agf,AfY] at h;have h1:=IN h.2;have h2:=IN h.1.2;have h3:=OT k;simp only[Fo.byt];omega
theorem Ro (k:Option Aj)(s:AW)(h0:0≤s.fBytes)(h:s.fBytes+SP k≤9223372036854775807):(Og k s).fBytes=s.fBytes+SP k:=by
 cases k with
 | none=>simp[Og,SP]
 | some x=>
  have:=MN x;simp only[SP] at h;simp only[Og,shk,SP];exact Lf (by omega) (by omega)
theorem MI:∀(f:Fo) (m:Bool) (l:Option Aj) (d:Nat) (s:AW),f.wf m l=true→0≤s.fBytes→s.fBytes+f.byt≤9223372036854775000→(f.sh d s).fBytes=s.fBytes+f.byt
 | .nil,_,_,d,s,_,_,_=>by simp[Fo.sh,Fo.byt]
 | .cell k c r,m,l,d,s,hw,h0,h=>by
  simp only[Fo.wf,Agf,Agy] at hw;obtain⟨⟨⟨w1,w2⟩,w3⟩,w4⟩:=hw;have h1:=IN w4;have h2:=WA w2;have h3:=OT k;simp only[Fo.byt] at h;have e1:=Ro k s h0 (by omega);have e:(Kv d (Og k s) c).fBytes=s.fBytes+SP k+Zb c:=by
   rw[Kv,e1,Z4 w2 w3];exact Lf (by omega) (by omega)
  rw[Fo.sh,MI r _ _ d _ w4 (by rw[e];omega) (by rw[e];omega),e,Fo.byt];omega
 | .node k c kids r,m,l,d,s,hw,h0,h=>by
  simp only[Fo.wf,Agf,AfY] at hw;obtain⟨⟨⟨⟨⟨w1,w2⟩,w3⟩,w5⟩,w6⟩,w4⟩:=hw;have h1:=IN w4;have h2:=IN w6;have h3:=OT k;simp only[Fo.byt] at h;have e1:=Ro k s h0 (by omega);have e:(Kv d (Og k s) c).fBytes=s.fBytes+SP k+(c.fN+1):=by
   rw[Kv,e1,Z3 w2 w3 (by omega)];exact Lf (by omega) (by omega)
  have e2:=MI kids _ _ (d+1) (Kv d (Og k s) c) w6 (by rw[e];omega) (by rw[e];omega);rw[Fo.sh,MI r _ _ d _ w4 (by rw[e2,e];omega) (by rw[e2,e];omega),e2,e,Fo.byt];omega
def GD (s:Aj):Aj:=s.flatMap λc=>bif (decide (c=34)||decide (c=92)) then[92,c] else[c]
def HO (s:Aj):Aj:=34::(GD s++[34])
theorem Ql:∀s:Aj,(GD s).length=s.length+s.count 34+s.count 92
 | []=>rfl
 | c::s=>by
  have ih:=Ql s;unfold GD at ih ⊢;rw[AgV,Age,ih]
  by_cases h1:c=34
  ·subst h1;simp;omega
  ·by_cases h2:c=92
   ·subst h2;simp;omega
   ·simp[h1,h2,List.count_cons];omega
theorem TG (s:Aj):((HO s).length:Int)=N4 s:=by
 simp only[HO,Agd,Age,Ql,AgW,N4];omega
def EC (c:Ac):Aj:=
 bif decide (c.fKind=1) then[110,117,108,108] else
 bif decide (c.fKind=2) then(bif decide (c.fInt=1) then[116,114,117,101] else[102,97,108,115,101]) else
 bif decide (c.fKind=3) then Lib.itoa c.fInt else
 bif decide (c.fKind=4) then HO c.fStr else
 bif decide (c.fKind=6) then[123,125] else[91,93]
def JG:Option Aj→Aj
 | none=>[]
 | some s=>HO s++[58]
def UH (c:Ac)(s:Aj):Aj:=bif decide (c.fKind=6) then 123::(s++[125]) else 91::(s++[93])
def DZ (first:Bool):Aj:=bif first then[] else[44]
def Fo.txt:Bool→Fo→Aj
 | _,.nil=>[]
 | b,.cell k c r=>DZ b++JG k++EC c++r.txt false
 | b,.node k c kids r=>DZ b++JG k++UH c (kids.txt true)++r.txt false
theorem WD (k:Option Aj):((JG k).length:Int)=SP k:=by
 cases k with
 | none=>rfl
 | some s=>simp only[JG,Age,SP,AgE];have:=TG s;omega
theorem RF {c:Ac}(hp:pl c=true):((EC c).length:Int)=Zb c:=by
  unfold EC Zb
  cases h1:decide (c.fKind=1) with
  | true=>rfl
  | false=>
    cases h2:decide (c.fKind=2) with
    | true=>
      simp[pl,h1,h2] at hp;simp only[Agb,Agg]
      cases h7:decide (c.fInt=1) with
      | true=>simp only[AfY] at h7;simp[h7]
      | false=>
                 simp only[AfZ] at h7;have:c.fInt=0:=by omega
                 simp[this]
    | false=>
      cases h3:decide (c.fKind=3) with
      | true=>rfl
      | false=>
        cases h4:decide (c.fKind=4) with
        | true=>simpa using TG c.fStr
        | false=>cases h6:decide (c.fKind=6)<;>rfl
theorem Nu (c:Ac)(s:Aj):(UH c s).length=s.length+2:=by
 unfold UH
 cases decide (c.fKind=6)<;>simp
theorem Lq:∀(f:Fo) (m:Bool) (l:Option Aj) (b:Bool),f.wf m l=true→((f.txt b).length:Int)=f.byt+(bif b then((f.cnt-1:Nat):Int) else(f.cnt:Int))
 | .nil,m,l,b,_=>by cases b<;>rfl
 | .cell k c r,m,l,b,hw=>by
  simp only[Fo.wf,Agf,Agy] at hw;obtain⟨⟨⟨w1,w2⟩,w3⟩,w4⟩:=hw;have ih:=Lq r _ _ false w4;have a:=WD k;have d:=RF w2;simp only[Agb] at ih
  cases b<;>simp only[Fo.txt,Fo.byt,Fo.cnt,DZ,Agg,Agb,Age,AgW,AgE]<;>omega
 | .node k c kids r,m,l,b,hw=>by
  simp only[Fo.wf,Agf,AfY] at hw;obtain⟨⟨⟨⟨⟨w1,w2⟩,w3⟩,w5⟩,w6⟩,w4⟩:=hw;have ih:=Lq r _ _ false w4;have ih2:=Lq kids _ _ true w6;have a:=WD k;have d:=Nu c (kids.txt true);simp only[Agb,Agg] at ih ih2
  cases b<;>simp only[Fo.txt,Fo.byt,Fo.cnt,DZ,Agg,Agb,Age,AgW,AgE]<;>omega
def Fo.put (k:Option Aj):Fo→Fo→Fo
 | .cell _ c _,r=>.cell k c r
 | .node _ c kids _,r=>.node k c kids r
 | .nil,_=>.nil
theorem ZN (P:Nat)(m:Bool)(last:Option Aj)(k:Nat)(xs:List Ac):JF (P+2) m last (k+1) xs =
  match JN m last xs with
  | none=>none
  | some (key,ys)=>match JF (P+2) false none 1 ys with
   | none=>none
   | some (f,zs)=>match JF (P+1) m key k zs with
    | none=>none
    | some (r,us)=>some (f.put key r,us):=by
 rw[JF]
 cases hk:JN m last xs with
 | none=>rfl
 | some p=>
  obtain⟨key,ys⟩:=p;simp only;rw[JF];simp only[JN,Agb]
  cases ys with
  | nil=>rfl
  | cons c ys=>
   simp only
   cases hp:pl c with
   | false=>rfl
   | true=>
    simp only[Agl,Agb]
    cases hn:decide (0<c.fN) with
    | true=>
     simp only[Agg]
     cases hq:JF (P+1) (decide (c.fKind=6)) none c.fN.toNat ys with
     | none=>rfl
     | some q=>
      obtain⟨kids,zs⟩:=q;simp only[JF]
      cases hr:JF (P+1) m key k zs with
      | none=>rfl
      | some q=>obtain⟨a,b⟩:=q;rfl
    | false=>
     simp only[Agb,JF]
     cases hr:JF (P+1) m key k ys with
     | none=>rfl
     | some q=>obtain⟨a,b⟩:=q;rfl
def P8 (m:Bool)(last:Option Aj)(k:Nat)(xs:List Ac):Option (Fo×List Ac):=JF (xs.length+1) m last k xs
theorem N5 (m:Bool)(last:Option Aj)(xs:List Ac):P8 m last 0 xs=some (.nil,xs):=rfl
theorem HX (m:Bool)(last:Option Aj)(k:Nat)(xs:List Ac):P8 m last (k+1) xs =
  match JN m last xs with
  | none=>none
  | some (key,ys)=>match JO ys with
   | none=>none
   | some (f,zs)=>match P8 m key k zs with
    | none=>none
    | some (r,us)=>some (f.put key r,us):=by
 unfold P8 JO;rw[Jn (xs.length+1) (xs.length+2) m last (k+1) xs (by omega) (by omega),ZN]
 cases hk:JN m last xs with
 | none=>rfl
 | some p=>
  obtain⟨key,ys⟩:=p;have h1:=(OK hk).1;have hy:ys.length≤xs.length:=by rw[h1];simp
  simp only;rw[Jn (xs.length+2) (ys.length+1) false none 1 ys (by omega) (by omega)]
  cases hf:JF (ys.length+1) false none 1 ys with
  | none=>rfl
  | some q=>
   obtain⟨f,zs⟩:=q;have h2:=(IT _ _ _ _ _ _ _ hf).1;have hz:zs.length≤ys.length:=by rw[h2];simp
   simp only;rw[Jn (xs.length+1) (zs.length+1) m key k zs (by omega) (by omega)]
   all_goals (cases JF (zs.length+1) m key k zs<;>rfl)
theorem Na {S O:Type}{body:S→Option (Stp S O)}{n:Nat}{s s':S}{o:O}(h:body s=some (.next s'))(h':Cj body n s'=some o):Cj body (n+1) s=some o:=by rw[Cj,h];exact h'
theorem G5 {S O:Type}{body:S→Option (Stp S O)}{n:Nat}{s:S}{o:O}(h:body s=some (.out o)):Cj body (n+1) s=some o:=by rw[Cj,h]
theorem ZO:JO []=none:=rfl
theorem Jo (c:Ac)(r:List Ac):JO (c::r)=bif !pl c then none else bif decide (0<c.fN) then(match P8 (decide (c.fKind=6)) none c.fN.toNat r with
  | none=>none
  | some (kids,zs)=>some (.node none c kids .nil,zs)) else some (.cell none c .nil,r):=by
 unfold JO;rw[JF];simp only[JN,Agb]
 cases hp:pl c with
 | false=>rfl
 | true=>
  simp only[Agl,Agb]
  cases hn:decide (0<c.fN) with
  | true=>
   simp only[Agg];unfold P8;rw[Agd]
   cases hq:JF (r.length+1) (decide (c.fKind=6)) none c.fN.toNat r with
   | none=>rfl
   | some q=>obtain⟨kids,zs⟩:=q;rfl
  | false=>rfl
theorem GG {f:Fo}(h:f.one=true)(key:Option Aj)(r:Fo):(f.put key r).flat=BZ key++(f.flat++r.flat):=by
 cases f with
 | nil=>cases h
 | cell k c r'=>
  cases k with
  | some s=>cases h
  | none=>cases r' with
   | nil=>simp[Fo.put,Fo.flat,BZ]
   | cell _ _ _=>cases h
   | node _ _ _ _=>cases h
 | node k c kids r'=>
  cases k with
  | some s=>cases h
  | none=>cases r' with
   | nil=>simp[Fo.put,Fo.flat,BZ]
   | cell _ _ _=>cases h
   | node _ _ _ _=>cases h
theorem MR {f:Fo}(h:f.one=true):1≤f.flat.length:=by
 cases f with
 | nil=>cases h
 | cell k c r'=>simp[Fo.flat];omega
 | node k c kids r'=>simp[Fo.flat];omega
theorem MO {xs ys:List Ac}{f:Fo}(h:JO xs=some (f,ys)):xs=f.flat++ys∧f.wf false none=true∧f.one=true:=
 ⟨(IT _ _ _ _ _ _ _ h).1,(IT _ _ _ _ _ _ _ h).2.1,Wu h⟩
def LW (v:List Ac)(i:Int):Int:=match JO (v.drop i.toNat) with
 | none=>-1
 | some (f,_)=>i+f.flat.length
def MY (m:Bool)(last:Option Aj)(v:List Ac)(i:Int)(k:Nat):Int:=match P8 m last k (v.drop i.toNat) with
 | none=>-1
 | some (f,_)=>i+f.flat.length
theorem R5 {v:List Ac}{i:Int}(h0:0≤i)(h1:i≤v.length):LW v i = -1∨(i<LW v i∧LW v i≤v.length):=by
 unfold LW
 cases h:JO (v.drop i.toNat) with
 | none=>exact .inl rfl
 | some q=>
  obtain⟨f,ys⟩:=q;obtain⟨h2,_,h3⟩:=MO h;have:=MR h3;have hl:(v.drop i.toNat).length=f.flat.length+ys.length:=by rw[h2];simp
  rw[AgJ] at hl
  right;simp only;omega
structure RfA (F M:Nat) (v:List Ac):Prop where
 hM:M≤1152921504606846976
 hv:v.length≤M
 hF:M<F
 hc:∀c∈v,c.fStr.length≤M
theorem XF (ok:Bool){i:Int}(h0:0≤i)(h1:i≤1152921504606846976):Dz ok i=some (bif ok then i+1 else -1):=by
 unfold Dz
 cases ok
 ·rfl
 ·rw[Bd rfl,Ba (by omega) (by omega)];rfl
theorem Wq {F:Nat}{c:Ac}(hF:c.fStr.length<F)(hs:c.fStr.length≤1152921504606846976):ZK F c=some (decide (c.fKind=4)&&pl c):=by
 unfold ZK;rw[XD hF (by omega)];simp only[Option.isSome_some,ov,Ag5,imp,Ag9,Bi,Agg]
 cases h4:decide (c.fKind=4) with
 | false=>rfl
 | true=>
  simp only[AfY] at h4;simp[pl,h4]
theorem SZ {v:List Ac}{i:Int}{c:Ac}{r:List Ac}(h0:0≤i)(h:v.drop i.toNat=c::r):Al v i=c:=by
 have:=(GM h0 h).1;simp[Al,this]
section
variable {M : Nat} {v : List Ac}
theorem LR {F:Nat}(hA:RfA F M v){g:List Ac→Int→Option Int}{n:Int}(hn:n≤9223372036854775807):∀(L:Nat) (i x:Int),0≤i→i≤v.length→0≤x→x≤n→(∀j,i≤j→j≤v.length→g v j=some (LW v j))→v.length-i.toNat<L→
  ∃o,Cj (λσ=>E5 v n g σ.1 σ.2) L (i,x)=some o∧BQ (λν=>JM ν) o=some (MY false none v i (n-x).toNat)
 | 0,i,x,_,_,_,_,_,h=>by omega
 | L+1,i,x,h0,h1,hx,hxn,hg,hL=>by
  cases hxl:decide (x<n) with
  | false=>
   refine⟨.go i,G5 (by show E5 v n g i x=_;unfold E5;rw[AP hxl]),?_⟩;simp only[AfZ] at hxl;rw[show(n-x).toNat=0 from by omega];simp[BQ,JM,MY,N5,Fo.flat]
  | true=>
   have hb:E5 v n g i x=B0 (decide (LW v i<0)) (some (.out (.ret (-1)))) (Bi (Ch .i64 (x+1))<|some (.next (LW v i,x+1))):=by unfold E5;rw[Bd hxl,hg i (AgD i) h1,Bw rfl]
   simp only[AfY] at hxl;obtain⟨k,hk⟩:∃k,(n-x).toNat=k+1:=⟨(n-x).toNat-1,by omega⟩
   rw[hk];have e:MY false none v i (k+1)=bif decide (LW v i<0) then -1 else MY false none v (LW v i) k:=by
    unfold MY;rw[HX];simp only[JN,Agb]
    cases hp:JO (v.drop i.toNat) with
    | none=>simp[LW,hp]
    | some q=>
     obtain⟨f,ys⟩:=q;obtain⟨q1,q2,q3⟩:=MO hp;have hi:LW v i=i+f.flat.length:=by simp[LW,hp]
     have hd:v.drop (LW v i).toNat=ys:=by rw[hi];exact Ed h0 q1
     rw[hd,Aga (by omega)];simp only[Agb]
     cases hr:P8 false none k ys with
     | none=>rfl
     | some q=>
      obtain⟨r,zs⟩:=q;simp only[GG q3,BZ,AgK,Age,hi];omega
   rw[e];rcases R5 (v:=v) h0 h1 with hneg | ⟨hlt,hle⟩
   ·exact⟨.ret (-1),G5 (hb.trans (by rw[hneg,Bd (by decide)])),by rw[hneg];rfl⟩
   ·have hM:=hA.hM;have hvM:=hA.hv;obtain⟨o,ho1,ho2⟩:=LR hA hn L (LW v i) (x+1) (by omega) hle (by omega) (by omega) (λj hj=>hg j (by omega)) (by omega);exact⟨o,Na (hb.trans (by rw[AP (Aga (by omega)),Ba (by omega) (by omega)])) ho1,by rw[ho2,show(n-(x+1)).toNat=k from by omega,Aga (by omega)];rfl⟩
theorem P6 {F:Nat}(hA:RfA F M v){g:List Ac→Int→Option Int}{n:Int}(hn:n≤9223372036854775807):∀(L:Nat) (i x:Int) (last:Aj),0≤i→i≤v.length→0≤x→x≤n→(∀j,i≤j→j≤v.length→g v j=some (LW v j))→v.length-i.toNat<L→
  ∃o,Cj (λσ=>Gv F v n g σ.1 σ.2.1 σ.2.2) L (i,last,x)=some o∧BQ (λν=>N3 ν) o=some (MY true (bif decide (0<x) then some last else none) v i (n-x).toNat)
 | 0,i,x,_,_,_,_,_,_,h=>by omega
 | L+1,i,x,last,h0,h1,hx,hxn,hg,hL=>by
  have hM:=hA.hM;have hvM:=hA.hv;have hMF:=hA.hF
  cases hxl:decide (x<n) with
  | false=>
   refine⟨.go i,G5 (by show Gv F v n g i last x=_;unfold Gv;rw[AP hxl]),?_⟩;simp only[AfZ] at hxl;rw[show(n-x).toNat=0 from by omega];simp[BQ,N3,MY,N5,Fo.flat]
  | true=>
   have hxl':=hxl;simp only[AfY] at hxl;obtain⟨k,hk⟩:∃k,(n-x).toNat=k+1:=⟨(n-x).toNat-1,by omega⟩
   rw[hk]
   cases hd:v.drop i.toNat with
   | nil=>
    have hl:v.length≤i.toNat:=by simpa using hd
    refine⟨.ret (-1),G5 (by
     show Gv F v n g i last x=_;unfold Gv;rw[Bd hxl',C1 (by simp[imp,show(v.length:Int)≤i from by omega]),C1 (by simp[imp,show(v.length:Int)≤i from by omega]),Bd (by simp[show(v.length:Int)≤i from by omega])]),?_⟩
    simp[BQ,MY,hd,HX,JN]
   | cons c r=>
    obtain⟨g1,g2,g3⟩:=GM h0 hd;have hcM:=hA.hc c (Agq g1);have hat:=SZ h0 hd;have hnl:decide ((v.length:Int)≤i)=false:=by simp;omega
    have hb:Gv F v n g i last x=B0 (!(decide (c.fKind=4)&&pl c)||decide (0<x)&&(C9 c.fStr last||decide (c.fStr=last))) (some (.out (.ret (-1)))) (Bs (g v (i+1)) λha=>B0 (decide (ha<0)) (some (.out (.ret (-1)))) (Bi (Ch .i64 (x+1))<|some (.next (ha,c.fStr,x+1)))):=by
     unfold Gv;rw[Bd hxl',C1 (by simp only[imp];rw[QQ h0 g3];simp),hat,Wq (by omega) (by omega),C1 (by simp[imp])];simp only[hnl,ov,Ag5,Ags];rw[Bp h0 g3,Ba (by omega) (by omega)]
    have hpk:JN true (bif decide (0<x) then some last else none) (c::r)=bif (!(decide (c.fKind=4)&&pl c)||decide (0<x)&&(C9 c.fStr last||decide (c.fStr=last))) then none else some (some c.fStr,r):=by
     simp only[JN,Agg]
     cases h4:decide (c.fKind=4) with
     | false=>simp
     | true=>
      cases hp:pl c with
      | false=>simp
      | true=>
       have hok:=(SA hp (by simpa using h4)).2
       cases h0x:decide (0<x) with
       | false=>simp[BN,hok]
       | true=>cases hs:(C9 c.fStr last||decide (c.fStr=last))<;>simp[BN,hok,hs]
    cases ht:(!(decide (c.fKind=4)&&pl c)||decide (0<x)&&(C9 c.fStr last||decide (c.fStr=last))) with
    | true=>
     rw[ht] at hpk;refine⟨.ret (-1),G5 (hb.trans (Bd ht)),?_⟩;simp only[MY,hd,HX,hpk,Agg];rfl
    | false=>
     rw[ht] at hpk;rw[AP ht,hg (i+1) (by omega) (by omega),Bw rfl] at hb;have e:MY true (bif decide (0<x) then some last else none) v i (k+1)=bif decide (LW v (i+1)<0) then -1 else MY true (some c.fStr) v (LW v (i+1)) k:=by
      unfold MY;rw[hd,HX,hpk];simp only[Agb];have hx:LW v (i+1)=match JO r with | none=>-1 | some (f,_)=>i+1+f.flat.length:=by unfold LW;rw[g2]
      cases hp:JO r with
      | none=>rw[hp] at hx;simp[hx]
      | some q=>
       obtain⟨f,ys⟩:=q;obtain⟨q1,q2,q3⟩:=MO hp;rw[hp] at hx;simp only at hx;have hd2:v.drop (LW v (i+1)).toNat=ys:=by rw[hx];exact Ed (by omega) (g2.trans q1)
       rw[hd2,Aga (by omega)];simp only[Agb]
       cases hr:P8 true (some c.fStr) k ys with
       | none=>rfl
       | some q=>
        obtain⟨r',zs⟩:=q;simp only[GG q3,BZ,Age,Agd,AgW,hx];omega
     rw[e];rcases R5 (v:=v) (i:=i+1) (by omega) (by omega) with hneg | ⟨hlt,hle⟩
     ·exact⟨.ret (-1),G5 (hb.trans (by rw[hneg,Bd (by decide)])),by rw[hneg];rfl⟩
     ·obtain⟨o,ho1,ho2⟩:=P6 hA hn L (LW v (i+1)) (x+1) c.fStr (by omega) hle (by omega) (by omega) (λj hj=>hg j (by omega)) (by omega);exact⟨o,Na (hb.trans (by rw[AP (Aga (by omega)),Ba (by omega) (by omega)])) ho1,by rw[ho2,show(n-(x+1)).toNat=k from by omega,Agc (show(0:Int)<x+1 from by omega),Aga (by omega)];rfl⟩
theorem TX {i:Int}{c:Ac}{r:List Ac}(h0:0≤i)(hd:v.drop i.toNat=c::r)(hp:pl c=true):LW v i=MY (decide (c.fKind=6)) none v (i+1) c.fN.toNat:=by
 have g2:=(GM h0 hd).2.1;have hN:=ZP hp;unfold LW MY;rw[hd,Jo,g2,hp];simp only[Agl,Agb]
 cases hn:decide (0<c.fN) with
 | true=>
  simp only[Agg]
  cases hq:P8 (decide (c.fKind=6)) none c.fN.toNat r with
  | none=>rfl
  | some q=>
   obtain⟨kids,zs⟩:=q;simp only[Fo.flat,BZ,AgK,Agd,AgP];omega
 | false=>
  simp only[AfZ] at hn;rw[show c.fN.toNat=0 from by omega,N5];simp[Fo.flat,BZ]
theorem ZJ (hA:RfA (M+1) M v)(hN:∀c∈v,c.fN≤9223372036854775807):∀(d F:Nat) (i:Int),0≤i→i≤v.length→v.length-i.toNat=d→M+2*d+3<F→Ru F v i=some (LW v i):=by
 have hM:=hA.hM;have hvM:=hA.hv;intro d
 induction d using Nat.strongRecOn with
 | ind d ih=>
  intro F i h0 h1 hd hF;obtain⟨F,rfl⟩:∃G,F=G+1:=⟨F-1,by omega⟩
  obtain⟨F,rfl⟩:∃G,F=G+1:=⟨F-1,by omega⟩
  rw[Ru];unfold ZI
  cases hdr:v.drop i.toNat with
  | nil=>
   have hl:v.length≤i.toNat:=by simpa using hdr
   rw[Bd (by simp;omega)];simp[LW,hdr,ZO]
  | cons c r=>
   obtain⟨g1,g2,g3⟩:=GM h0 hdr;have hcM:=hA.hc c (Agq g1);have hcN:=hN c (Agq g1);rw[AP (by simp;omega),Bp h0 g3,SZ h0 hdr];simp only[XF _ h0 (show i≤1152921504606846976 by omega),Option.isSome_some,ov,Ag5,imp,Ag9,C1 (x:=_) (rfl:true=true)];have hg:∀j,i+1≤j→j≤v.length→Ru F v j=some (LW v j):=λj hj hj2=>ih (v.length-j.toNat) (by omega) F j (by omega) hj2 rfl (by omega);have hpl0:pl c=false→LW v i = -1:=λhp=>by simp[LW,hdr,Jo,hp]
   have hleaf:pl c=true→c.fN=0→LW v i=i+1:=λhp h0'=>by simp[LW,hdr,Jo,hp,h0',Fo.flat,BZ]
   have hscal:∀b:Bool,pl c=b→(b=true→c.fN=0)→LW v i=bif b then i+1 else -1:=λb hb hz=>by
    cases b
    ·exact hpl0 hb
    ·exact hleaf hb (hz rfl)
   by_cases k1:c.fKind=1
   ·rw[Bd (by simp[k1])];have hp:pl c=(decide (c.fInt=0)&&(decide (c.fStr=[])&&decide (c.fN=0))):=by simp[pl,k1]
    rw[hscal _ hp (λh=>by simp at h;exact h.2.2)]
    cases decide (c.fInt=0)<;>cases decide (c.fStr=[])<;>cases decide (c.fN=0)<;>rfl
   rw[AP (by simp[k1])]
   by_cases k2:c.fKind=2
   ·rw[Bd (by simp[k2])];have hp:pl c=((decide (c.fInt=0)||decide (c.fInt=1))&&(decide (c.fStr=[])&&decide (c.fN=0))):=by simp[pl,k2]
    rw[hscal _ hp (λh=>by simp at h;exact h.2.2)]
    cases decide (c.fInt=0)<;>cases decide (c.fInt=1)<;>cases decide (c.fStr=[])<;>cases decide (c.fN=0)<;>rfl
   rw[AP (by simp[k2])]
   by_cases k3:c.fKind=3
   ·rw[Bd (by simp[k3])];have hp:pl c=(decide (c.fStr=[])&&decide (c.fN=0)):=by simp[pl,k3]
    rw[hscal _ hp (λh=>by simp at h;exact h.2)]
    cases decide (c.fStr=[])<;>cases decide (c.fN=0)<;>rfl
   rw[AP (by simp[k3])]
   by_cases k4:c.fKind=4
   ·rw[Bd (by simp[k4]),Wq (by omega) (by omega),Bw rfl,Bw rfl];rw[Agc k4,Agp,hscal (pl c) rfl (λhp=>by have:=(SA hp k4).1;rw[this])]
   rw[AP (by simp[k4])]
   by_cases k5:c.fKind=5
   ·have hp:pl c=(decide (c.fInt=0)&&(decide (c.fStr=[])&&decide (0≤c.fN))):=by simp[pl,k5]
    rw[show(decide (c.fKind=5)&&(decide (c.fInt=0)&&(decide (c.fStr=[])&&decide (0≤c.fN))))=pl c from by rw[hp,Agc k5,Agp]];have k5' : ¬ c.fKind=6:=by omega
    cases hb:pl c with
    | false=>rw[AP rfl,AP (by simp[k5]),hpl0 hb]
    | true=>
     have hn0:=ZP hb;rw[Bd rfl,Ba (by omega) (by omega),Rv];unfold P7;obtain⟨o,ho1,ho2⟩:=LR (F:=F) ⟨hM,hvM,by omega,hA.hc⟩ hcN F (i+1) 0 (by omega) (by omega) (AgD 0) hn0 hg (by omega);rw[Bw ho1,ho2,Bw rfl,TX h0 hdr hb,Aga k5',Int.sub_zero]
   rw[AP (by simp[k5])]
   by_cases k6:c.fKind=6
   ·have hp:pl c=(decide (c.fInt=0)&&(decide (c.fStr=[])&&decide (0≤c.fN))):=by simp[pl,k6]
    rw[show(decide (c.fKind=6)&&(decide (c.fInt=0)&&(decide (c.fStr=[])&&decide (0≤c.fN))))=pl c from by rw[hp,Agc k6,Agp]]
    cases hb:pl c with
    | false=>rw[AP rfl,hpl0 hb]
    | true=>
     have hn0:=ZP hb;rw[Bd rfl,Ba (by omega) (by omega),ZH];unfold Wp;obtain⟨o,ho1,ho2⟩:=P6 (F:=F) ⟨hM,hvM,by omega,hA.hc⟩ hcN F (i+1) 0 [] (by omega) (by omega) (AgD 0) hn0 hg (by omega);rw[Bw ho1,ho2,Bw rfl,TX h0 hdr hb,Agc k6,Int.sub_zero];rfl
   ·rw[AP (by simp[k6]),hpl0 (by simp[pl,k1,k2,k3,k4,k5,k6])]
end
theorem Wv {m:Bool}{last key:Option Aj}{r:List Ac}(h:BN m last key=true):JN m last (BZ key++r)=some (key,r):=by
 cases key with
 | none=>
  have:m=false:=by simpa[BN] using h
  subst this;rfl
 | some s=>
  have h':=h;simp only[BN,Agf] at h;obtain⟨⟨h1,h2⟩,h3⟩:=h;subst h1;have hp:pl ⟨4,0,s,0⟩=true:=by simp[pl,h2]
  show(bif pl ⟨4,0,s,0⟩&&decide ((4:Int)=4)&&BN true last (some s) then _ else _)=_;rw[hp,h'];rfl
theorem OL:∀(f:Fo) (m:Bool) (last:Option Aj) (ys:List Ac),f.wf m last=true→P8 m last f.cnt (f.flat++ys)=some (f,ys)
 | .nil,_,_,_,_=>rfl
 | .cell k c r,m,last,ys,hw=>by
  simp only[Fo.wf,Agf,Agy] at hw;obtain⟨⟨⟨w1,w2⟩,w3⟩,w4⟩:=hw;simp only[Fo.cnt,Fo.flat,Ag8,AgL];rw[HX,Wv w1];simp only[Jo,w2,w3,Agl,Agb,OL r m k ys w4,Fo.put]
 | .node k c kids r,m,last,ys,hw=>by
  simp only[Fo.wf,Agf,AfY] at hw;obtain⟨⟨⟨⟨⟨w1,w2⟩,w3⟩,w5⟩,w6⟩,w4⟩:=hw;simp only[Fo.cnt,Fo.flat,Ag8,AgL];rw[HX,Wv w1];have e:c.fN.toNat=kids.cnt:=by omega
  simp only[Jo,w2,Agc w3,Agl,Agb,Agg,e,OL kids _ none (r.flat++ys) w6,OL r m k ys w4,Fo.put]
theorem Acl {f:Fo}{ys:List Ac}(h1:f.one=true)(hw:f.wf false none=true):JO (f.flat++ys)=some (f,ys):=by
 have:=OL f false none ys hw;have hc:f.cnt=1:=by
  cases f with
  | nil=>cases h1
  | cell k c r=>cases k with
   | some _=>cases h1
   | none=>cases r with
    | nil=>rfl
    | _=>cases h1
  | node k c kids r=>cases k with
   | some _=>cases h1
   | none=>cases r with
    | nil=>rfl
    | _=>cases h1
 rw[hc] at this;exact this
structure Le (M:Nat) (v:List Ac):Prop where
 hM:M≤1000000000
 hv:v.length≤M
 hc:∀c∈v,c.fStr.length≤M∧Ch .i64 c.fInt=true∧c.fN≤9223372036854775807
theorem Le.lk {M F:Nat}{v:List Ac}(h:Le M v)(hF:M<F):Xe F M v:=⟨by have:=h.hM;omega,by have:=h.hM;omega,h.hv,hF,h.hc⟩
theorem Le.rf {M F:Nat}{v:List Ac}(h:Le M v)(hF:M<F):RfA F M v:=⟨by have:=h.hM;omega,h.hv,hF,λc hc=>(h.hc c hc).1⟩
theorem Le.drop {M:Nat}{v:List Ac}(h:Le M v)(k:Nat):Le M (v.drop k):=⟨h.hM,by have:=h.hv;rw[AgJ];omega,λc hc=>h.hc c (List.mem_of_mem_drop hc)⟩
theorem Le.take {M:Nat}{v:List Ac}(h:Le M v)(k:Nat):Le M (v.take k):=⟨h.hM,by have:=h.hv;rw[AgQ];omega,λc hc=>h.hc c (List.mem_of_mem_take hc)⟩
def whole (v:List Ac):Option Fo:=match JO v with
 | some (f,[])=>some f
 | _=>none
theorem Mh {v:List Ac}{f:Fo}(h:whole v=some f):v=f.flat∧f.wf false none=true∧f.one=true:=by
 unfold whole at h
 cases hp:JO v with
 | none=>rw[hp] at h;cases h
 | some q=>
  obtain⟨g,ys⟩:=q;rw[hp] at h
  cases ys with
  | cons _ _=>cases h
  | nil=>
   cases h
   obtain⟨h1,h2,h3⟩:=MO hp;exact⟨by simpa using h1,h2,h3⟩
theorem Pm {f:Fo}(h1:f.one=true)(hw:f.wf false none=true):whole f.flat=some f:=by
 have:=Acl (ys:=[]) h1 hw;rw[AgP] at this;simp[whole,this]
def Iy (f:Fo):Int:=
 bif f.flat.any CA then 2 else bif f.flat.any RD||(decide (200<f.flat.length)||(decide (8<f.dep)||decide (4000<(f.txt true).length))) then 3 else 0
def JA (v:List Ac):Int:=match whole v with
 | none=>1
 | some f=>Iy f
theorem Wz {f:Fo}(h1:f.one=true):f.cnt=1:=by
 cases f with
 | nil=>cases h1
 | cell k c r=>cases k with
  | some _=>cases h1
  | none=>cases r with
   | nil=>rfl
   | _=>cases h1
 | node k c kids r=>cases k with
  | some _=>cases h1
  | none=>cases r with
   | nil=>rfl
   | _=>cases h1
theorem S8 (s:Aj):N4 s≤2*s.length+2+s.length:=by
 have h1:s.count 34≤s.length:=List.count_le_length;have h2:s.count 92≤s.length:=List.count_le_length;unfold N4;omega
theorem AdT {c:Ac}{M:Nat}(hp:pl c=true)(hs:c.fStr.length≤M)(hi:(Lib.itoa c.fInt).length≤21):Zb c≤3*M+21:=by
 have:=S8 c.fStr;unfold Zb
 cases h1:decide (c.fKind=1) with
 | true=>simp only[Agg];omega
 | false=>
  cases h2:decide (c.fKind=2) with
  | true=>
   simp[pl,h1,h2] at hp;simp only[Agb,Agg];omega
  | false=>
   cases h3:decide (c.fKind=3) with
   | true=>simp only[Agb,Agg];omega
   | false=>cases h4:decide (c.fKind=4)<;>simp only[Agb,Agg]<;>omega
theorem SX {M:Nat}:∀{f:Fo} {m:Bool} {l:Option Aj},f.wf m l=true→(∀c∈f.flat,c.fStr.length≤M∧Ch .i64 c.fInt=true∧c.fN≤9223372036854775807)→f.byt+f.cnt≤(3*M+24)*f.flat.length
 | .nil,_,_,_,_=>by simp[Fo.byt,Fo.flat,Fo.cnt]
 | .cell k c r,m,l,hw,hc=>by
  simp only[Fo.wf,Agf,Agy] at hw;obtain⟨⟨⟨w1,w2⟩,w3⟩,w4⟩:=hw;simp only[Fo.flat] at hc;have ih:=SX w4 (λx hx=>hc x (by simp[hx]));obtain⟨c1,c2,c3⟩:=hc c (by simp);have i64:=L5 c2;have hl:=AdT w2 c1 (Lib.itoa_length_le c.fInt i64.1 i64.2);have hk:SP k≤(3*M+24)*(BZ k).length:=by
   cases k with
   | none=>simp[SP,BZ]
   | some s=>
    have:=(hc ⟨4,0,s,0⟩ (by simp[BZ])).1;have h2:=S8 s;simp only at this;simp only[SP,BZ,AgE];omega
  simp only[Fo.byt,Fo.flat,Fo.cnt,Age,Agd];have e:((3*(M:Int)+24)*(((BZ k).length+(r.flat.length+1):Nat):Int))=(3*(M:Int)+24)*(BZ k).length+((3*(M:Int)+24)*r.flat.length+(3*(M:Int)+24)):=by
   push_cast;rw[Int.mul_add,Int.mul_add,Int.mul_one]
  rw[e]
  push_cast at *
  omega
 | .node k c kids r,m,l,hw,hc=>by
  simp only[Fo.wf,Agf,AfY] at hw;obtain⟨⟨⟨⟨⟨w1,w2⟩,w3⟩,w5⟩,w6⟩,w4⟩:=hw;simp only[Fo.flat] at hc;have ih:=SX w4 (λx hx=>hc x (by simp[hx]));have ih2:=SX w6 (λx hx=>hc x (by simp[hx]));have hcf:=Dw kids;have hk:SP k≤(3*M+24)*(BZ k).length:=by
   cases k with
   | none=>simp[SP,BZ]
   | some s=>
    have:=(hc ⟨4,0,s,0⟩ (by simp[BZ])).1;have h2:=S8 s;simp only at this;simp only[SP,BZ,AgE];omega
  simp only[Fo.byt,Fo.flat,Fo.cnt,Age,Agd];have e:((3*(M:Int)+24)*(((BZ k).length+(kids.flat.length+r.flat.length+1):Nat):Int))=(3*(M:Int)+24)*(BZ k).length+((3*(M:Int)+24)*kids.flat.length+(3*(M:Int)+24)*r.flat.length+(3*(M:Int)+24)):=by
   push_cast;rw[Int.mul_add,Int.mul_add,Int.mul_add,Int.mul_one]
  rw[e]
  push_cast at *
  omega
theorem Sh {M:Nat}(hM:M≤2000000){f:Fo}{m:Bool}{l:Option Aj}(hw:f.wf m l=true)(hl:f.flat.length≤M)(hc:∀c∈f.flat,c.fStr.length≤M∧Ch .i64 c.fInt=true∧c.fN≤9223372036854775807):f.byt≤16000000000000:=by
 have:=SX (M:=M) hw hc;have h2:(3*M+24)*f.flat.length≤(3*2000000+24)*2000000:=Nat.mul_le_mul (by omega) (by omega);have h3:(((3*M+24)*f.flat.length:Nat):Int)=(3*(M:Int)+24)*f.flat.length:=by push_cast;rfl
 omega
theorem Lp {M F:Nat}{v:List Ac}(hA:Le M v)(hM:M≤2000000)(hF:M<F):JJ F v=some (JA v):=by
 unfold JJ JA whole;have hvM:=hA.hv;rcases AcC (hA.lk hF) with⟨f,ys,hp,hl⟩ | ⟨hp,sh',hl⟩
 ·rw[hl,Bw rfl,hp];obtain⟨h1,h2,h3⟩:=MO hp;have hlen:v.length=f.flat.length+ys.length:=by rw[h1];simp
  cases ys with
  | cons c r=>
   rw[Bd];simp only[Agd] at hlen;simp;omega
  | nil=>
   simp only[AgW,Nat.add_zero] at hlen;rw[AP (by simp[hlen])];have hc:∀c∈f.flat,c.fStr.length≤M∧Ch .i64 c.fInt=true∧c.fN≤9223372036854775807:=λc hc=>hA.hc c (by rw[h1];simp[hc]);have hb:=Sh hM h2 (by omega) hc;have hb0:=IN h2;have e1:(f.sh 0 P3).fOutside=f.flat.any CA:=by rw[S0];rfl
   have e2:(f.sh 0 P3).fLong=f.flat.any RD:=by rw[OH];rfl
   have e3:(f.sh 0 P3).fDepth=f.dep:=by rw[MH f 0 P3 (by simp[P3])];simp[P3]
   have e4:(f.sh 0 P3).fBytes=(f.txt true).length:=by
    rw[MI f false none 0 P3 h2 (by simp[P3]) (by simp[P3];omega),Lq f false none true h2,Wz h3];simp[P3]
   simp only;rw[e1,e2,e3,e4,hlen];unfold Iy
   cases f.flat.any CA with
   | true=>rw[Bd rfl];rfl
   | false=>
    rw[AP rfl];have a1:decide ((200:Int)<(f.flat.length:Int))=decide (200<f.flat.length):=by rw[Agt];simp;omega
    have a2:decide ((8:Int)<(f.dep:Int))=decide (8<f.dep):=by rw[Agt];simp;omega
    have a3:decide ((4000:Int)<((f.txt true).length:Int))=decide (4000<(f.txt true).length):=by rw[Agt];simp;omega
    rw[a1,a2,a3]
    cases(f.flat.any RD||(decide (200<f.flat.length)||(decide (8<f.dep)||decide (4000<(f.txt true).length))))<;>rfl
 ·rw[hl,Bw rfl,hp];rfl
theorem Wa {c:Ac}(hp:pl c=true)(hn:decide (0<c.fN)=false):(Fo.cell none c .nil).wf false none=true:=by simp[Fo.wf,BN,hp,hn]
theorem VZ {c:Ac}{kids:Fo}(hp:pl c=true)(hn:0<c.fN)(hk:c.fN=kids.cnt)(hw:kids.wf (decide (c.fKind=6)) none=true):(Fo.node none c kids .nil).wf false none=true:=by simp[Fo.wf,BN,hp,hn,hk,hw];omega
section
variable {M : Nat} {v : List Ac}
theorem Le.next (hA:Le M v){F:Nat}(hF:3*M+3<F){p:Int}(h0:0≤p)(h1:p≤v.length):Ru F v p=some (LW v p):=by
 have hM:=hA.hM;have hvM:=hA.hv;exact ZJ (hA.rf (Ago M)) (λc hc=>(hA.hc c hc).2.2) (v.length-p.toNat) F p h0 h1 rfl (by omega)
theorem AcF {m:Bool}{last key:Option Aj}(h:BN m last key=true):((BZ key).length:Int)=bif m then 1 else 0:=by
  cases key with
  | none=>
            have:m=false:=by simpa[BN] using h
            subst this;rfl
  | some s=>simp only[BN,Agf] at h;rw[h.1.1];rfl
end
def U3 (c:UInt8):Aj:=bif (decide (c=34)||decide (c=92)) then[92,c] else[c]
theorem RU {s:Aj}{k:Nat}{c:UInt8}(h:s[k]? =some c):GD (s.take (k+1))=GD (s.take k)++U3 c:=by
 rw[List.take_add_one,h];simp[GD,List.flatMap_append,U3]
theorem Afl {s:Aj}{x:Int}{c:UInt8}(h:s[x.toNat]? =some c):decide (BD s x=34)=decide (c=34):=by
 rw[HT h,Agt,decide_eq_true_iff,decide_eq_true_iff,← AgY];show _↔c.toNat=34;omega
theorem Afk {s:Aj}{x:Int}{c:UInt8}(h:s[x.toNat]? =some c):decide (BD s x=92)=decide (c=92):=by
 rw[HT h,Agt,decide_eq_true_iff,decide_eq_true_iff,← AgY];show _↔c.toNat=92;omega
theorem GH {R V:Type}(K:V→Option R)(v:V):BQ K (.go v)=K v:=rfl
theorem ZY {R V:Type}(K:V→Option R)(r:R):BQ K (.ret r)=some r:=rfl
section
variable {M : Nat} {v : List Ac}
theorem AfK (a b c d e:Aj):(((a++b)++c)++d)++e=a++(b++(c++d)++e):=by simp
theorem AfL (a b c d:Aj):((a++b)++c)++d=a++([]++(b++c)++d):=by simp
theorem AfM (a b c:Aj):(a++b)++c=a++(b++[]++c):=by simp
theorem AfN (a b:Aj):a++b=a++([]++[]++b):=by simp
end
section
variable {M : Nat} {v : List Ac}
theorem JQ {α:Type}[Inhabited α](a:α):ov (some a)=a:=rfl
end
theorem D6 {α:Type}{n:Nat}{x:Option α}(h:n≤140737488355328):Bi (Dv 1 n) x=x:=C1 (Agc (by omega))
theorem GR {α β:Type}(a:α)(k:α→Option β):LL a k=k a:=rfl
theorem I2 {α:Type}{n:Int}{x:Option α}(h:0≤n)(h':n≤255):Bi (Ch .u8 n) x=x:=C1 (AcK h h')
theorem Ab9 {s:Aj}{x:Int}{c:UInt8}(h:s[x.toNat]? =some c):UInt8.ofNat (Int.toNat (BD s x))=c∧0≤BD s x∧BD s x≤255:=by
 have:=UInt8.toNat_lt c;rw[HT h];refine⟨?_,by omega,by omega⟩;rw[← AgY];simp
theorem T0 {s l:Aj}{x:Int}{c:UInt8}(h0:0≤x)(hx:x<(s.length:Int))(hs:s.length≤1152921504606846976)(hl:l.length+2≤140737488355328)(hc:s[x.toNat]? =some c):DH s x l=some (.next (x+1,l++U3 c)):=by
 obtain⟨b1,b2,b3⟩:=Ab9 hc;unfold DH U3;rw[Bd (Agc hx),Bp h0 hx,Afl hc,Afk hc];have l1:(l++[UInt8.ofNat (Int.toNat 92)]).length=l.length+1:=by simp
 cases hq:(decide (c=34)||decide (c=92)) with
 | true=>
  rw[Bd rfl,D6 (by omega),I2 (by decide) (by decide),GR,l1,D6 (by omega),I2 b2 b3,GR,b1,Ba (by omega) (by omega),Ag8];rfl
 | false=>
  rw[AP rfl,D6 (by omega),I2 b2 b3,GR,b1,Ba (by omega) (by omega)];rfl
theorem Zw {l:Aj}(h:l.length+1≤140737488355328):Gu l=some (l++[34]):=by
 unfold Gu;rw[D6 h,GR];rfl
theorem Nz {F:Nat}{l s:Aj}(hF:s.length<F)(hl:(l++HO s).length≤140737488355328):Mj F l s=some (l++HO s):=by
 have hq:(HO s).length=(GD s).length+2:=by simp[HO]
 rw[Age,hq] at hl;have hesc:∀k,(GD (s.take k)).length≤(GD s).length:=λk=>by
  have:GD s=GD (s.take k)++GD (s.drop k):=by rw[GD,GD,GD,← List.flatMap_append,AgN]
  rw[this,Age];omega
 have hsl:s.length≤(GD s).length:=by rw[Ql];omega
 obtain⟨o,h1,h2⟩:=OR (body:=λσ=>DH s σ.1 σ.2) (λσ=>0≤σ.1∧σ.1≤(s.length:Int)∧σ.2=l++[34]++GD (s.take σ.1.toNat)) (λσ=>s.length-σ.1.toNat)
  (λo=>BQ (λν=>Gu ν) o=some (l++HO s)) (λσ ⟨h0,hlx,ha⟩=>by
   obtain⟨x,out⟩:=σ;simp only at h0 hlx ha;show(∃s',DH s x out=_∧_)∨∃o,DH s x out=_∧_;have hol:out.length=l.length+1+(GD (s.take x.toNat)).length:=by rw[ha];simp;omega
   have he:=hesc x.toNat
   by_cases hx:x<(s.length:Int)
   ·obtain⟨c,hc⟩:∃c,s[x.toNat]? =some c:=⟨s[x.toNat]'(by omega),Agi (by omega)⟩
    have he2:=hesc (x.toNat+1);rw[RU hc,Age] at he2;have hc1:1≤(U3 c).length:=by unfold U3;cases(decide (c=34)||decide (c=92))<;>simp
    have a1:0≤x+1:=by omega
    have a2:x+1≤s.length:=by omega
    have a3:s.length-(x+1).toNat<s.length-x.toNat:=by omega
    have a4:out++U3 c=l++[34]++GD (s.take (x+1).toNat):=by rw[show(x+1).toNat=x.toNat+1 from by omega,RU hc,ha,Ag8]
    exact .inl ⟨(x+1,out++U3 c),T0 h0 hx (by omega) (by omega) hc,⟨a1,a2,a4⟩,a3⟩
   ·have e:x.toNat=s.length:=by omega
    rw[e,List.take_length] at ha;have hf:out++[34]=l++HO s:=by rw[ha];simp[HO]
    have hgo:DH s x out=some (.out (.go out)):=by unfold DH;rw[AP (Aga hx)]
    exact .inr ⟨.go out,hgo,(GH (λν=>Gu ν) out).trans ((Zw (by omega)).trans (congrArg some hf))⟩) F (0,l++[34]) ⟨AgD 0,by show(0:Int)≤s.length;omega,by show l++[34]=l++[34]++GD (s.take 0);simp[GD]⟩ (by show s.length-0<F;omega)
 unfold Mj;rw[D6 (by omega),I2 (by decide) (by decide),GR];have hb:[UInt8.ofNat (Int.toNat 34)]=([34]:Aj):=rfl;rw[hb,Bw h1,h2]
theorem Pq {F:Nat}{l key:Aj}{x:List Ac}{first:Bool}{c:Ac}{k last:Option Aj}{tx:Aj}(hk:BN (decide (c.fKind=6)) last k=true)(hkey:∀s,k=some s→key=s∧s.length<F)
  (hlen:(l++(DZ first++JG k++tx)).length≤140737488355328) (hw:∀l':Aj,(l'++tx).length≤140737488355328→GU F l' x=some (l'++tx)):EX (F+1) key x first l c=some (true,false,l++(DZ first++JG k++tx)):=by
 rw[EX];unfold MA;have hb:[UInt8.ofNat (Int.toNat 44)]=([44]:Aj):=rfl;have ha:[UInt8.ofNat (Int.toNat 58)]=([58]:Aj):=rfl;have hlen':=hlen;simp only[Age] at hlen'
 cases first with
 | true=>
  rw[AP (p:=!true) rfl]
  cases hm:decide (c.fKind=6) with
  | true=>
   rw[hm] at hk
   cases k with
   | none=>simp[BN] at hk
   | some s=>
    obtain⟨e1,e2⟩:=hkey s rfl;subst e1;simp only[JG,Age,AgE] at hlen';have h1:(l++HO key).length≤140737488355328:=by rw[Age];omega
    have e:((l++HO key)++[58])++tx=l++(DZ true++JG (some key)++tx):=AfL _ _ _ _;rw[← e] at hlen ⊢;rw[Bd rfl,Nz e2 h1,Bw rfl,D6 (by rw[Age];omega),I2 (by decide) (by decide),GR,ha,hw _ hlen,Bw rfl]
  | false=>
   rw[hm] at hk
   cases k with
   | some s=>simp[BN] at hk
   | none=>
    have e:l++tx=l++(DZ true++JG none++tx):=AfN _ _;rw[← e] at hlen ⊢;rw[AP rfl,hw _ hlen,Bw rfl]
 | false=>
  simp only[DZ,Agb,AgE] at hlen';rw[Bd (p:=!false) rfl,D6 (by omega),I2 (by decide) (by decide),GR,hb]
  cases hm:decide (c.fKind=6) with
  | true=>
   rw[hm] at hk
   cases k with
   | none=>simp[BN] at hk
   | some s=>
    obtain⟨e1,e2⟩:=hkey s rfl;subst e1;simp only[JG,Age,AgE] at hlen';have h1:((l++[44])++HO key).length≤140737488355328:=by simp only[Age,AgE];omega
    have e:(((l++[44])++HO key)++[58])++tx=l++(DZ false++JG (some key)++tx):=AfK _ _ _ _ _;rw[← e] at hlen ⊢;rw[Bd rfl,Nz e2 h1,Bw rfl,D6 (by simp only[Age,AgE];omega),I2 (by decide) (by decide),GR,ha,hw _ hlen,Bw rfl]
  | false=>
   rw[hm] at hk
   cases k with
   | some s=>simp[BN] at hk
   | none=>
    have e:(l++[44])++tx=l++(DZ false++JG none++tx):=AfM _ _ _;rw[← e] at hlen ⊢;rw[AP rfl,hw _ hlen,Bw rfl]
section
variable {M : Nat}
theorem Pw {F:Nat}{v:List Ac}{c:Ac}{at_ x:Int}{first:Bool}{l l2:Aj}{k last:Option Aj}{f1:Fo}{ys:List Ac}(hA:Le M v)(hF:M<F)(hpc:Al v 0=c)(hx:x<c.fN)(hx0:0≤x)(hcN:c.fN≤9223372036854775807)(h0:0≤at_)(hk:BN (decide (c.fKind=6)) last k=true)
  (hd:v.drop at_.toNat=BZ k++(f1.flat++ys)) (h1:f1.one=true) (hw:f1.wf false none=true) (hr:∀key,(∀s,k=some s→key=s)→EX F key f1.flat first l c=some (true,false,l2)) :
  DR F v c (EX F) at_ x first l=some (.next (at_+(BZ k).length+f1.flat.length,x+1,false,l2)):=by
 have hM:=hA.hM;have hvM:=hA.hv;have hd1:=Ed h0 hd;have hkl:=AcF hk;have hfl:=MR h1;have hll:(v.drop (at_+(BZ k).length).toNat).length=f1.flat.length+ys.length:=by rw[hd1];simp
 rw[AgJ] at hll;have hlook:Km F (v.drop (at_+(BZ k).length).toNat)=some ((f1.flat.length:Int),f1.sh 0 P3,true):=Ug ((hA.drop _).lk hF) h1 hw hd1;have htake:List.take (Int.toNat (at_+(BZ k).length+(f1.flat.length:Int))-Int.toNat (at_+(BZ k).length)) (v.drop (at_+(BZ k).length).toNat)=f1.flat:=by
  rw[hd1,show Int.toNat (at_+(BZ k).length+(f1.flat.length:Int))-Int.toNat (at_+(BZ k).length)=f1.flat.length from by omega,List.take_left]
 have hmono:0≤at_+(BZ k).length+f1.flat.length:=by omega
 unfold DR;rw[hpc,Bd (Agc hx)]
 cases hm:decide (c.fKind=6) with
 | true=>
  rw[hm] at hk hkl
  cases k with
  | none=>simp[BN] at hk
  | some s=>
   have e1:((BZ (some s)).length:Int)=1:=rfl;rw[e1] at hlook htake hll hmono ⊢;have hats:(Al v at_).fStr=s:=by
    have:v.drop at_.toNat=⟨4,0,s,0⟩::(f1.flat++ys):=by simpa[BZ] using hd
    rw[SZ h0 this]
   have hin:at_<v.length:=by omega
   rw[Bd rfl,Bp h0 hin,Ba (by omega) (by omega),CH (by omega) (by omega),hlook,Bw rfl,Ba (by omega) (by omega),CH (by omega) (by omega),CH (by omega) (by omega),htake,hats,hr s (λs' h=>by cases h;rfl),Bw rfl];rw[AP (p:=!true) rfl,Ba (by omega) (by omega)]
 | false=>
  rw[hm] at hk hkl
  cases k with
  | some s=>simp[BN] at hk
  | none=>
   have e1:((BZ none).length:Int)=0:=rfl;rw[e1,Int.add_zero] at hlook htake hll hmono ⊢;rw[AP rfl,CH (by omega) (by omega),hlook,Bw rfl,Ba (by omega) (by omega),CH (by omega) (by omega),CH (by omega) (by omega),htake,hr [] (λs' h=>by cases h),Bw rfl];rw[AP (p:=!true) rfl,Ba (by omega) (by omega)]
end
section
variable {M : Nat}
theorem JC (l:Aj)(c:UInt8):(l++[c]).length=l.length+1:=by rw[Age,AgE]
theorem Mi {F:Nat}{l p:Aj}{v:List Ac}{c:Ac}{rf:Aj→(List Ac)→Bool→Aj→Ac→Option (Bool×Bool×Aj)}{rp:(List Ac)→Bool→Aj→Ac→Option (Bool×Aj)}(hc:Al v 0=c)(hv:0<v.length)(hk:c.fKind=5∨c.fKind=6)(hlen:(l++UH c p).length≤140737488355328)
  (hp:∀l':Aj,l'.length=l.length+1→∃b,rp v true l' c=some (b,l'++p)):Ln F rf rp l v=some (l++UH c p):=by
 have hbl:=Nu c p;rw[Age,hbl] at hlen;have i0:(0:Int)<(v.length:Int):=by omega
 unfold Ln;rw[Bp (AgD 0) i0,hc,AP (Aga (by omega)),AP (Aga (by omega)),AP (Aga (by omega)),AP (Aga (by omega))];have b1:[UInt8.ofNat (Int.toNat (BD ([123,125]:Aj) 0))]=([123]:Aj):=rfl;have b2:[UInt8.ofNat (Int.toNat (BD ([123,125]:Aj) 1))]=([125]:Aj):=rfl;have b3:[UInt8.ofNat (Int.toNat (BD ([91,93]:Aj) 0))]=([91]:Aj):=rfl;have b4:[UInt8.ofNat (Int.toNat (BD ([91,93]:Aj) 1))]=([93]:Aj):=rfl;have c1:BD ([123,125]:Aj) 0=123:=rfl;have c2:BD ([123,125]:Aj) 1=125:=rfl;have c3:BD ([91,93]:Aj) 0=91:=rfl;have c4:BD ([91,93]:Aj) 1=93:=rfl;have n2:(([123,125]:Aj).length:Int)=2:=rfl;have n3:(([91,93]:Aj).length:Int)=2:=rfl
 cases h6:decide (c.fKind=6) with
 | true=>
  obtain⟨b,hb⟩:=hp _ (JC l 123);rw[Bd rfl,n2,Bp (by decide) (by decide),D6 (by omega),b1,b2,c1,c2,I2 (by decide) (by decide),GR,hb,Bw rfl,Bp (by decide) (by decide)];have e:((l++[123])++p).length=l.length+1+p.length:=by rw[Age,JC]
  rw[e,D6 (by omega),I2 (by decide) (by decide),GR];simp[UH,h6]
 | false=>
  obtain⟨b,hb⟩:=hp _ (JC l 91);rw[AP rfl,n3,Bp (by decide) (by decide),D6 (by omega),b3,b4,c3,c4,I2 (by decide) (by decide),GR,hb,Bw rfl,Bp (by decide) (by decide)];have e:((l++[91])++p).length=l.length+1+p.length:=by rw[Age,JC]
  rw[e,D6 (by omega),I2 (by decide) (by decide),GR];simp[UH,h6]
theorem Oa {F:Nat}{v:List Ac}{c:Ac}{at_ x:Int}{first:Bool}{l:Aj}{rf:Aj→(List Ac)→Bool→Aj→Ac→Option (Bool×Bool×Aj)}(hc:Al v 0=c)(hx : ¬ x<c.fN):DR F v c rf at_ x first l=some (.out (.go (first,l))):=by
 unfold DR;rw[hc,AP (Aga hx)]
theorem NZ {F:Nat}{l:Aj}{c:Ac}(hp:pl c=true)(hn:decide (0<c.fN)=false)(hs:c.fStr.length<F+2)(hi:Ch .i64 c.fInt=true)(hlen:(l++EC c).length≤140737488355328):GU (F+3) l [c]=some (l++EC c):=by
 rw[GU];have hat:Al [c] 0=c:=rfl;have i0:(0:Int)<(([c]:List Ac).length:Int):=by simp
 have hN : ¬ (0:Int)<c.fN:=by simpa using hn
 by_cases ha:c.fKind=5∨c.fKind=6
 ·have el:EC c=UH c []:=by
   have k1:decide (c.fKind=1)=false:=Aga (by omega);have k2:decide (c.fKind=2)=false:=Aga (by omega);have k3:decide (c.fKind=3)=false:=Aga (by omega);have k4:decide (c.fKind=4)=false:=Aga (by omega);unfold EC UH;rw[k1,k2,k3,k4];rfl
  rw[el] at hlen ⊢;refine Mi hat (by simp) ha hlen (λl' hl'=>⟨true,?_⟩);rw[HL];unfold Jb;rw[Bp (AgD 0) i0,Bw (G5 (o:=.go (true,l')) (Oa hat hN)),GH,AgP];rfl
 ·unfold Ln EC;unfold EC at hlen;rw[Bp (AgD 0) i0,hat]
  cases k1:decide (c.fKind=1) with
  | true=>
   rw[k1] at hlen;simp only[Agg] at hlen;rw[Bd rfl,D6 (by rw[Age] at hlen;exact hlen),GR];rfl
  | false=>
  rw[k1] at hlen;simp only[Agb] at hlen;rw[AP rfl]
  cases k2:decide (c.fKind=2) with
  | true=>
   rw[k2] at hlen;simp only[Agg] at hlen;rw[Bd rfl];simp[pl,k1,k2] at hp;simp only[Age] at hlen;rcases hp.1 with h0 | h1
   ·rw[h0] at hlen ⊢;have a:Al ([([102,97,108,115,101]:Aj),([116,114,117,101]:Aj)]:List Aj) 0=[102,97,108,115,101]:=rfl;have hlen2:l.length+([102,97,108,115,101]:Aj).length≤140737488355328:=hlen;rw[Bp (by decide) (by decide),a,D6 hlen2,GR];rfl
   ·rw[h1] at hlen ⊢;have a:Al ([([102,97,108,115,101]:Aj),([116,114,117,101]:Aj)]:List Aj) 1=[116,114,117,101]:=rfl;have hlen2:l.length+([116,114,117,101]:Aj).length≤140737488355328:=hlen;rw[Bp (by decide) (by decide),a,D6 hlen2,GR];rfl
  | false=>
  rw[k2] at hlen;simp only[Agb] at hlen;rw[AP rfl]
  cases k3:decide (c.fKind=3) with
  | true=>
   rw[k3] at hlen;simp only[Agg,Age] at hlen;rw[Bd rfl,C1 hi,D6 hlen,GR];rfl
  | false=>
  rw[k3] at hlen;simp only[Agb] at hlen;rw[AP rfl]
  cases k4:decide (c.fKind=4) with
  | true=>
   rw[k4] at hlen;simp only[Agg] at hlen;rw[Bd rfl,Nz hs hlen,Bw rfl];rfl
  | false=>
   exfalso;simp only[AfZ] at k1 k2 k3 k4;simp[pl,k1,k2,k3,k4,show ¬ c.fKind=5 by omega,show ¬ c.fKind=6 by omega] at hp
theorem Le.mem {v:List Ac}(hA:Le M v){p:Int}{a b:List Ac}(h:v.drop p.toNat=a++b):Le M a:=by
 have:=(hA.drop p.toNat).take a.length
 rwa [h,List.take_left] at this
theorem QD:∀(g:Fo) (v:List Ac) (c:Ac) (F L:Nat) (at_ x:Int) (first:Bool) (l:Aj) (m:Bool) (last:Option Aj) (ys:List Ac),Le M v→Al v 0=c→decide (c.fKind=6)=m→c.fN≤9223372036854775807→g.wf m last=true→v.drop at_.toNat=g.flat++ys→0≤at_→c.fN=x+g.cnt→0≤x→(l++g.txt first).length≤140737488355328→g.cnt<L→M+5+3*g.flat.length<F→
  ∃o b,Cj (λσ=>DR F v c (EX F) σ.1 σ.2.1 σ.2.2.1 σ.2.2.2) L (at_,x,first,l)=some o∧BQ (λν=>Ih ν.1 ν.2) o=some (b,l++g.txt first):=by
 intro g
 induction g with
 | nil=>
  intro v c F L at_ x first l m last ys hA hpc hm hcN hw hd h0 hN hx hlen hL hF
  obtain⟨L,rfl⟩:∃K,L=K+1:=⟨L-1,by omega⟩
  simp only[Fo.cnt] at hN;have hx' : ¬ x<c.fN:=by omega
  refine⟨.go (first,l),first,G5 (Oa hpc hx'),?_⟩;rw[GH,Fo.txt,AgP];rfl
 | cell k cc r ih=>
  intro v c F L at_ x first l m last ys hA hpc hm hcN hw hd h0 hN hx hlen hL hF
  simp only[Fo.wf,Agf,Agy] at hw;obtain⟨⟨⟨w1,w2⟩,w3⟩,w4⟩:=hw;have hd2:v.drop at_.toNat=BZ k++((Fo.cell none cc .nil).flat++(r.flat++ys)):=by rw[hd];simp[Fo.flat,BZ]
  have hd1:=Ed h0 hd2;simp only[Fo.cnt] at hN hL;simp only[Fo.flat,Age,Agd] at hF;obtain⟨L,rfl⟩:∃K,L=K+1:=⟨L-1,by omega⟩
  obtain⟨F,rfl⟩:∃K,F=K+4:=⟨F-4,by omega⟩
  have hAe:=hA.mem hd1;have hcM:=hAe.hc cc (by simp[Fo.flat,BZ]);have e:l++(Fo.cell k cc r).txt first=(l++(DZ first++JG k++EC cc))++r.txt false:=by simp[Fo.txt]
  rw[e] at hlen ⊢;have hl2:(l++(DZ first++JG k++EC cc)).length≤140737488355328:=by rw[Age] at hlen;omega
  have hb:=Pw (F:=F+4) (last:=last) hA (by omega) hpc (by omega) hx hcN h0 (by rw[hm];exact w1) hd2 rfl (Wa w2 w3) (first:=first) (l:=l) (λkey hkey=>
   Pq (last:=last) (by rw[hm];exact w1) (λs hs=>⟨hkey s hs,by
    have hM:=hA.hM;subst hs;have:=(hA.hc ⟨4,0,s,0⟩ (List.mem_of_mem_drop (by rw[hd2];simp[BZ]))).1;simp only at this;omega⟩) hl2 (λl' hl'=>NZ (F:=F) w2 w3 (by omega) hcM.2.1 hl'))
  obtain⟨o,b,ho1,ho2⟩:=ih v c (F+4) L (at_+(BZ k).length+((Fo.cell none cc .nil).flat.length:Int)) (x+1) false (l++(DZ first++JG k++EC cc)) m k ys hA hpc hm hcN w4 (Ed (by omega) hd1) (by omega) (by omega) (by omega) hlen (by omega) (by omega);exact⟨o,b,Na hb ho1,ho2⟩
 | node k cc kids r ihk ih=>
  intro v c F L at_ x first l m last ys hA hpc hm hcN hw hd h0 hN hx hlen hL hF
  simp only[Fo.wf,Agf,AfY] at hw;obtain⟨⟨⟨⟨⟨w1,w2⟩,w3⟩,w5⟩,w6⟩,w4⟩:=hw;have hd2:v.drop at_.toNat=BZ k++((Fo.node none cc kids .nil).flat++(r.flat++ys)):=by rw[hd];simp[Fo.flat,BZ]
  have hd1:=Ed h0 hd2;simp only[Fo.cnt] at hN hL;simp only[Fo.flat,Age,Agd] at hF;obtain⟨L,rfl⟩:∃K,L=K+1:=⟨L-1,by omega⟩
  obtain⟨F,rfl⟩:∃K,F=K+3:=⟨F-3,by omega⟩
  have hAe:=hA.mem hd1;have hfl:(Fo.node none cc kids .nil).flat=cc::kids.flat:=by simp[Fo.flat,BZ]
  have hcM:=hAe.hc cc (by rw[hfl];simp);have hcf:=Dw kids;have e:l++(Fo.node k cc kids r).txt first=(l++(DZ first++JG k++UH cc (kids.txt true)))++r.txt false:=by simp[Fo.txt]
  rw[e] at hlen ⊢;have hl2:(l++(DZ first++JG k++UH cc (kids.txt true))).length≤140737488355328:=by rw[Age] at hlen;omega
  have hb:=Pw (F:=F+3) (last:=last) hA (by omega) hpc (by omega) hx hcN h0 (by rw[hm];exact w1) hd2 rfl (VZ w2 w3 w5 w6) (first:=first) (l:=l) (λkey hkey=>
   Pq (last:=last) (by rw[hm];exact w1) (λs hs=>⟨hkey s hs,by
    have hM:=hA.hM;subst hs;have:=(hA.hc ⟨4,0,s,0⟩ (List.mem_of_mem_drop (by rw[hd2];simp[BZ]))).1;simp only at this;omega⟩) hl2 (λl' hl'=>by
     rw[GU];have hat:Al (Fo.node none cc kids .nil).flat 0=cc:=by rw[hfl];rfl
     have hlen0:0<(Fo.node none cc kids .nil).flat.length:=by rw[hfl];simp
     have hbl:=Nu cc (kids.txt true);rw[Age,hbl] at hl';have hb:∀l2:Aj,l2.length=l'.length+1→∃b,HL (F+1) (Fo.node none cc kids .nil).flat true l2 cc=some (b,l2++kids.txt true):=λl2 hl2'=>by
       rw[HL];unfold Jb;have i0:(0:Int)<((Fo.node none cc kids .nil).flat.length:Int):=by omega
       obtain⟨o,b,ho1,ho2⟩:=ihk (Fo.node none cc kids .nil).flat cc F F 1 0 true l2 _ none [] hAe hat rfl hcM.2.2 w6 (by rw[hfl];simp) (by decide) (by omega) (AgD 0) (by rw[Age];omega) (by omega) (by omega);exact⟨b,by rw[Bp (AgD 0) i0,Bw ho1,ho2]⟩
     exact Mi hat hlen0 (ON w2 w3).1 (by rw[Age,hbl];exact hl') hb))
  obtain⟨o,b,ho1,ho2⟩:=ih v c (F+3) L (at_+(BZ k).length+((Fo.node none cc kids .nil).flat.length:Int)) (x+1) false (l++(DZ first++JG k++UH cc (kids.txt true))) m k ys hA hpc hm hcN w4 (Ed (by omega) hd1) (by omega) (by omega) (by omega) hlen (by omega) (by omega);exact⟨o,b,Na hb ho1,ho2⟩
theorem Xv {f:Fo}{F:Nat}{l:Aj}(hA:Le M f.flat)(h1:f.one=true)(hw:f.wf false none=true)(hF:M+8+3*f.flat.length<F)(hlen:(l++f.txt true).length≤140737488355328):GU F l f.flat=some (l++f.txt true):=by
 have hM:=hA.hM;have hvM:=hA.hv
 cases f with
 | nil=>cases h1
 | cell k c r=>
  cases k with
  | some s=>cases h1
  | none=>
   cases r with
   | nil=>
    simp only[Fo.wf,Agf,Agy] at hw;have hfl:(Fo.cell none c .nil).flat=[c]:=by simp[Fo.flat,BZ]
    have hcM:=hA.hc c (by rw[hfl];simp);have et:(Fo.cell none c .nil).txt true=EC c:=by simp[Fo.txt,DZ,JG]
    rw[et] at hlen ⊢;obtain⟨F,rfl⟩:∃K,F=K+3:=⟨F-3,by omega⟩
    rw[hfl];exact NZ hw.1.1.2 hw.1.2 (by omega) hcM.2.1 hlen
   | cell _ _ _=>cases h1
   | node _ _ _ _=>cases h1
 | node k c kids r=>
  cases k with
  | some s=>cases h1
  | none=>
   cases r with
   | nil=>
    simp only[Fo.wf,Agf,AfY] at hw;obtain⟨⟨⟨⟨⟨w1,w2⟩,w3⟩,w5⟩,w6⟩,w4⟩:=hw;have hfl:(Fo.node none c kids .nil).flat=c::kids.flat:=by simp[Fo.flat,BZ]
    have hcM:=hA.hc c (by rw[hfl];simp);have et:(Fo.node none c kids .nil).txt true=UH c (kids.txt true):=by simp[Fo.txt,DZ,JG]
    rw[et] at hlen ⊢;have hcf:=Dw kids;have hat:Al (Fo.node none c kids .nil).flat 0=c:=by rw[hfl];rfl
    have hlen0:0<(Fo.node none c kids .nil).flat.length:=by rw[hfl];simp
    have hl1:(Fo.node none c kids .nil).flat.length=kids.flat.length+1:=by rw[hfl];simp
    have hbl:=Nu c (kids.txt true);obtain⟨F,rfl⟩:∃K,F=K+2:=⟨F-2,by omega⟩
    rw[GU];refine Mi hat hlen0 (ON w2 w3).1 hlen (λl2 hl2=>?_);rw[Age,hbl] at hlen;rw[HL];unfold Jb;have i0:(0:Int)<((Fo.node none c kids .nil).flat.length:Int):=by omega
    obtain⟨o,b,ho1,ho2⟩:=QD kids (Fo.node none c kids .nil).flat c F F 1 0 true l2 _ none [] hA hat rfl hcM.2.2 w6 (by rw[hfl];simp) (by decide) (by omega) (AgD 0) (by rw[Age];omega) (by omega) (by omega);exact⟨b,by rw[Bp (AgD 0) i0,Bw ho1,ho2]⟩
   | cell _ _ _=>cases h1
   | node _ _ _ _=>cases h1
def H3 (v:List Ac):Aj×Int:=match whole v with
 | none=>([],1)
 | some f=>bif decide (Iy f=0) then(f.txt true,0) else([],Iy f)
theorem AcH (n:Int):Lib.itoa n≠[]:=by
 unfold Lib.itoa
 split
 ·simp
 ·intro h;have:=congrArg List.length h;rw[Lib.decDigits_length] at this;have:=Lib.nDigits_pos n.toNat;simp at *;omega
theorem Aca {f:Fo}(hw:f.wf false none=true)(h1:f.one=true):0<(f.txt true).length:=by
 have e:=Lq f false none true hw
 cases f with
 | nil=>cases h1
 | cell k c r=>
  have h2:=IN hw;simp only[Fo.txt,Age];simp only[Fo.wf,Agf] at hw;have hp:=hw.1.1.2;have:0<(EC c).length:=by
   have hl:=RF hp;have:0<Zb c:=by
    unfold Zb
    cases h1:decide (c.fKind=1) with
    | true=>simp
    | false=>
     cases h2:decide (c.fKind=2) with
     | true=>
      simp[pl,h1,h2] at hp;simp only[Agb,Agg];omega
     | false=>
      cases h3:decide (c.fKind=3) with
      | true=>
       simp only[Agb,Agg];have:Lib.itoa c.fInt≠[]:=AcH _;have:=List.length_pos_iff.2 this;omega
      | false=>
       cases h4:decide (c.fKind=4) with
       | true=>have:=MN c.fStr;simp only[Agb,Agg];omega
       | false=>simp
   omega
  omega
 | node k c kids r=>
  have:=Nu c (kids.txt true);simp only[Fo.txt,Age];omega
theorem Ve {v:List Ac}(hA:Le M v)(hM:M≤2000000){F:Nat}(hF:4*M+8<F):ME F v=some (H3 v):=by
 have hvM:=hA.hv;unfold ME H3;rw[Lp hA hM (by omega),Bw rfl];unfold JA
 cases hwh:whole v with
 | none=>rfl
 | some f=>
  change B0 (!decide (Iy f=0)) _ _=some (bif decide (Iy f=0) then(f.txt true,0) else([],Iy f))
  cases he:decide (Iy f=0) with
  | false=>rw[Bd (p:=!false) rfl];rfl
  | true=>
   obtain⟨h1,h2,h3⟩:=Mh hwh;have hl:v.length=f.flat.length:=by rw[h1]
   have hc:∀c∈f.flat,c.fStr.length≤M∧Ch .i64 c.fInt=true∧c.fN≤9223372036854775807:=λc hc=>hA.hc c (by rw[h1];exact hc);have hb:=Sh hM h2 (by omega) hc;have htl:((f.txt true).length:Int)=f.byt:=by rw[Lq f false none true h2,Wz h3];simp
   have hA':Le M f.flat:=by rw[← h1];exact hA
   have hw:=Xv (F:=F) (l:=[]) hA' h3 h2 (by omega) (by rw[AgK];omega);rw[AP (p:=!true) rfl,h1,hw,Bw rfl,AgK,C1 (Agc (Aca h2 h3))];rfl
end
def Z9 (v:List Ac):Bool:=!decide (300<v.length)&&v.all λc=>!decide (300<c.fStr.length)
def Aad (c:Ac):Bool:=Ch .i64 c.fKind&&Ch .i64 c.fInt&&okS c.fStr&&Ch .i64 c.fN
theorem Le.of {v:List Ac}(hs:Z9 v=true)(hc:v.all Aad=true):Le 300 v:=by
 unfold Z9 at hs;simp only[Agf,Agy,AfZ,AgC] at hs hc;refine⟨by decide,by omega,λc h=>?_⟩;obtain h1:=hs.2 c h;obtain h2:=hc c h;unfold Aad at h2;simp only[Agf] at h2;exact⟨by omega,h2.1.1.2,(L5 h2.2).2⟩
theorem Aeb (a:Bool):imp a true=true:=by cases a<;>rfl
section
variable {M : Nat}
end
def pre:Aj→Aj→Option Aj
 | [],s=>some s
 | c::w,d::s=>bif decide (c=d) then pre w s else none
 | _::_,[]=>none
def Ds (strict:Bool):Aj→Option (Aj×Aj)
 | []=>none
 | c::r=>
  bif decide (c=34) then some ([],r) else
  bif strict&&!LJ c then none else
  bif decide (c=92) then(match r with
   | []=>none
   | d::r'=>bif decide (d=34)||decide (d=92) then(match Ds strict r' with
    | none=>none
    | some (t,u)=>some (d::t,u)) else none)
  else(match Ds strict r with
   | none=>none
   | some (t,u)=>some (c::t,u))
def C3 (c:UInt8):Bool:=decide (48≤c.toNat)&&decide (c.toNat≤57)
def Dd:Aj→Aj×Aj
 | []=>([],[])
 | c::r=>bif C3 c then(c::(Dd r).1,(Dd r).2) else([],c::r)
def QN (d:Aj):Int:=d.foldl (λn c=>10*n+((c.toNat:Int)-48)) 0
def LK (neg:Bool)(d:Aj):Int:=
 bif decide (18<d.length) then(bif neg then -2000000000000 else 2000000000000) else bif neg then -(QN d) else QN d
def GB (neg:Bool)(d:Aj):Bool:=!decide (d=[])&&!(decide (d.head? =some 48)&&(decide (1<d.length)||neg))
def J2 (s:Aj):Option (Fo×Aj):=
 let neg:=decide (s.head? =some 45)
 let r:=bif neg then s.tail else s
 bif GB neg (Dd r).1 then some (.cell none ⟨3,LK neg (Dd r).1,[],0⟩ .nil,(Dd r).2) else none
def lf (k i:Int)(t:Aj):Fo:=.cell none ⟨k,i,t,0⟩ .nil
def nd (m:Bool)(g:Fo):Fo:=bif decide (g.cnt=0) then .cell none ⟨bif m then 6 else 5,0,[],0⟩ .nil else .node none ⟨bif m then 6 else 5,0,[],(g.cnt:Int)⟩ g .nil
def Cu (m:Bool):UInt8:=bif m then 125 else 93
def Gp (strict m:Bool)(last:Option Aj)(s:Aj):Option (Option Aj×Aj):=
 bif m then(match s with
  | []=>none
  | c::r=>bif decide (c=34) then(match Ds strict r with
   | none=>none
   | some (k,u)=>bif strict&&!BN true last (some k) then none else(match u with
    | []=>none
    | d::u'=>bif decide (d=58) then some (some k,u') else none)) else none)
 else some (none,s)
mutual
def GW (strict:Bool):Nat→Aj→Option (Fo×Aj)
 | 0,_=>none
 | F+1,s=>
  match pre [110,117,108,108] s with
  | some r=>some (lf 1 0 [],r)
  | none=>match pre [116,114,117,101] s with
   | some r=>some (lf 2 1 [],r)
   | none=>match pre [102,97,108,115,101] s with
    | some r=>some (lf 2 0 [],r)
    | none=>match s with
     | []=>none
     | c::r=>
      bif decide (c=34) then(match Ds strict r with
       | none=>none
       | some (t,u)=>some (lf 4 0 t,u)) else
      bif decide (c=91)||decide (c=123) then(match r with
       | []=>none
       | d::r'=>bif decide (d=Cu (decide (c=123))) then some (nd (decide (c=123)) .nil,r') else(match Eb strict F (decide (c=123)) none (d::r') with
        | none=>none
        | some (g,u)=>some (nd (decide (c=123)) g,u))) else
      J2 (c::r)
def Eb (strict:Bool):Nat→Bool→Option Aj→Aj→Option (Fo×Aj)
 | 0,_,_,_=>none
 | F+1,m,last,s=>
  match Gp strict m last s with
  | none=>none
  | some (key,s1)=>match GW strict F s1 with
   | none=>none
   | some (f,s2)=>match s2 with
    | []=>none
    | c::s3=>
     bif decide (c=Cu m) then some (f.put key .nil,s3) else
     bif decide (c=44) then(match Eb strict F m key s3 with
      | none=>none
      | some (g,u)=>some (f.put key g,u)) else none
end
theorem Ea (strict:Bool)(F:Nat)(s:Aj):GW strict (F+1) s =
  match pre [110,117,108,108] s with
  | some r=>some (lf 1 0 [],r)
  | none=>match pre [116,114,117,101] s with
   | some r=>some (lf 2 1 [],r)
   | none=>match pre [102,97,108,115,101] s with
    | some r=>some (lf 2 0 [],r)
    | none=>match s with
     | []=>none
     | c::r=>
      bif decide (c=34) then(match Ds strict r with
       | none=>none
       | some (t,u)=>some (lf 4 0 t,u)) else
      bif decide (c=91)||decide (c=123) then(match r with
       | []=>none
       | d::r'=>bif decide (d=Cu (decide (c=123))) then some (nd (decide (c=123)) .nil,r') else(match Eb strict F (decide (c=123)) none (d::r') with
        | none=>none
        | some (g,u)=>some (nd (decide (c=123)) g,u))) else
      J2 (c::r):=by
 rw[GW.eq_def]
theorem DI (strict:Bool)(F:Nat)(m:Bool)(last:Option Aj)(s:Aj):Eb strict (F+1) m last s =
  match Gp strict m last s with
  | none=>none
  | some (key,s1)=>match GW strict F s1 with
   | none=>none
   | some (f,s2)=>match s2 with
    | []=>none
    | c::s3=>
     bif decide (c=Cu m) then some (f.put key .nil,s3) else
     bif decide (c=44) then(match Eb strict F m key s3 with
      | none=>none
      | some (g,u)=>some (f.put key g,u)) else none:=by
 rw[Eb.eq_def]
theorem DU:∀{w s r:Aj},pre w s=some r→s=w++r
 | [],s,r,h=>by cases h;rfl
 | c::w,[],r,h=>by cases h
 | c::w,d::s,r,h=>by
  rw[pre] at h
  cases hc:decide (c=d) with
  | false=>rw[hc] at h;cases h
  | true=>
   rw[hc] at h;simp only[AfY] at hc;rw[hc,DU h];rfl
theorem Ee (b:Bool)(c:UInt8)(r:Aj):Ds b (c::r) =
  bif decide (c=34) then some ([],r) else
  bif b&&!LJ c then none else
  bif decide (c=92) then(match r with
   | []=>none
   | d::r'=>bif decide (d=34)||decide (d=92) then(match Ds b r' with
    | none=>none
    | some (t,u)=>some (d::t,u)) else none)
  else(match Ds b r with
   | none=>none
   | some (t,u)=>some (c::t,u)):=by
 rw[Ds.eq_def]
 cases r<;>rfl
theorem KC (b:Bool):∀(n:Nat) (s t u:Aj),s.length=n→Ds b s=some (t,u)→u.length<s.length:=by
 intro n
 induction n using Nat.strongRecOn with
 | ind n ih=>
  intro s t u hn h
  cases s with
  | nil=>cases h
  | cons c r=>
   simp only[Agd] at hn ⊢;rw[Ee] at h
   cases h1:decide (c=34) with
   | true=>rw[h1] at h;cases h;omega
   | false=>
    rw[h1] at h;simp only[Agb] at h
    cases h2:(b&&!LJ c) with
    | true=>rw[h2] at h;cases h
    | false=>
     rw[h2] at h;simp only[Agb] at h
     cases h3:decide (c=92) with
     | true=>
      rw[h3] at h
      cases r with
      | nil=>cases h
      | cons d r'=>
       simp only[Agg] at h
       cases h4:(decide (d=34)||decide (d=92)) with
       | false=>rw[h4] at h;cases h
       | true=>
        rw[h4] at h;simp only[Agg] at h
        cases h5:Ds b r' with
        | none=>rw[h5] at h;cases h
        | some q=>
         obtain⟨t',u'⟩:=q;rw[h5] at h;cases h;simp only[Agd] at hn ⊢;have:=ih r'.length (by omega) r' t' u rfl h5;omega
     | false=>
      rw[h3] at h;simp only[Agb] at h
      cases h5:Ds b r with
      | none=>rw[h5] at h;cases h
      | some q=>
       obtain⟨t',u'⟩:=q;rw[h5] at h;cases h;have:=ih r.length (by omega) r t' u rfl h5;omega
theorem OW:∀s:Aj,s=(Dd s).1++(Dd s).2
 | []=>rfl
 | c::r=>by
  have:=OW r;rw[Dd]
  cases C3 c with
  | true=>simp only[Agg,AgL];rw[← this]
  | false=>rfl
theorem Qa {s u:Aj}{f:Fo}(h:J2 s=some (f,u)):u.length<s.length:=by
 unfold J2 at h;simp only at h
 cases hc:GB (decide (s.head? =some 45)) (Dd (bif decide (s.head? =some 45) then s.tail else s)).1 with
 | false=>rw[hc] at h;cases h
 | true=>
  rw[hc] at h;simp only[Agg,Option.some.injEq,Prod.mk.injEq] at h;obtain⟨_,h⟩:=h;have e:=congrArg List.length (OW (bif decide (s.head? =some 45) then s.tail else s));rw[Age,h] at e;have h1:0<(Dd (bif decide (s.head? =some 45) then s.tail else s)).1.length:=by
   unfold GB at hc;simp only[Agf,Agy,AfZ] at hc;exact List.length_pos_iff.2 hc.1
  have h2:(bif decide (s.head? =some 45) then s.tail else s).length≤s.length:=by
   cases decide (s.head? =some 45)<;>simp
  omega
theorem Um {b m:Bool}{last key:Option Aj}{s u:Aj}(h:Gp b m last s=some (key,u)):u.length≤s.length:=by
 unfold Gp at h
 cases m with
 | false=>cases h;exact Agu _
 | true=>
  simp only[Agg] at h
  cases s with
  | nil=>cases h
  | cons c r=>
   simp only at h
   cases h1:decide (c=34) with
   | false=>rw[h1] at h;cases h
   | true=>
    rw[h1] at h;simp only[Agg] at h
    cases h2:Ds b r with
    | none=>rw[h2] at h;cases h
    | some q=>
     obtain⟨k,w⟩:=q;have:=KC b _ r k w rfl h2;rw[h2] at h;simp only at h
     cases h3:(b&&!BN true last (some k)) with
     | true=>rw[h3] at h;cases h
     | false=>
      rw[h3] at h;simp only[Agb] at h
      cases w with
      | nil=>cases h
      | cons d w'=>
       simp only at h
       cases h4:decide (d=58) with
       | false=>rw[h4] at h;cases h
       | true=>rw[h4] at h;cases h;simp only[Agd] at this ⊢;omega
theorem Aat (m:Bool)(g:Fo):(nd m g).one=true:=by
 unfold nd
 cases decide (g.cnt=0)<;>rfl
theorem AaO {s u:Aj}{f:Fo}(h:J2 s=some (f,u)):f.one=true:=by
 unfold J2 at h;simp only at h
 cases hc:GB (decide (s.head? =some 45)) (Dd (bif decide (s.head? =some 45) then s.tail else s)).1 with
 | false=>rw[hc] at h;cases h
 | true=>rw[hc] at h;cases h;rfl
theorem EY (b:Bool):∀F:Nat,(∀s f u,GW b F s=some (f,u)→u.length<s.length∧f.one=true)∧(∀m last s g u,Eb b F m last s=some (g,u)→u.length<s.length∧1≤g.cnt)
 | 0=>⟨(λs f u h=>by rw[GW.eq_def] at h;cases h),(λm last s g u h=>by rw[Eb.eq_def] at h;cases h)⟩
 | F+1=>by
  obtain⟨ih1,ih2⟩:=EY b F;constructor
  ·intro s f u h;rw[Ea] at h
   cases h1:pre [110,117,108,108] s with
   | some r=>rw[h1] at h;cases h;rw[DU h1];exact⟨by simp;omega,rfl⟩
   | none=>
   rw[h1] at h;simp only at h
   cases h2:pre [116,114,117,101] s with
   | some r=>rw[h2] at h;cases h;rw[DU h2];exact⟨by simp;omega,rfl⟩
   | none=>
   rw[h2] at h;simp only at h
   cases h3:pre [102,97,108,115,101] s with
   | some r=>rw[h3] at h;cases h;rw[DU h3];exact⟨by simp;omega,rfl⟩
   | none=>
   rw[h3] at h;simp only at h
   cases s with
   | nil=>cases h
   | cons c r=>
   simp only at h
   cases h4:decide (c=34) with
   | true=>
    rw[h4] at h;simp only[Agg] at h
    cases h5:Ds b r with
    | none=>rw[h5] at h;cases h
    | some q=>
     obtain⟨t,w⟩:=q;rw[h5] at h;cases h;have:=KC b _ r t u rfl h5;exact⟨by simp only[Agd];omega,rfl⟩
   | false=>
   rw[h4] at h;simp only[Agb] at h
   cases h5:(decide (c=91)||decide (c=123)) with
   | false=>rw[h5] at h;simp only[Agb] at h;exact⟨Qa h,AaO h⟩
   | true=>
   rw[h5] at h;simp only[Agg] at h
   cases r with
   | nil=>cases h
   | cons d r'=>
   simp only at h
   cases h6:decide (d=Cu (decide (c=123))) with
   | true=>rw[h6] at h;cases h;exact⟨by simp only[Agd];omega,Aat _ _⟩
   | false=>
   rw[h6] at h;simp only[Agb] at h
   cases h7:Eb b F (decide (c=123)) none (d::r') with
   | none=>rw[h7] at h;cases h
   | some q=>
    obtain⟨g,w⟩:=q;rw[h7] at h;cases h;have:=(ih2 _ _ _ _ _ h7).1;exact⟨by simp only[Agd] at this ⊢;omega,Aat _ _⟩
  ·intro m last s g u h;rw[DI] at h
   cases h1:Gp b m last s with
   | none=>rw[h1] at h;cases h
   | some q=>
   obtain⟨key,s1⟩:=q;have l1:=Um h1;rw[h1] at h;simp only at h
   cases h2:GW b F s1 with
   | none=>rw[h2] at h;cases h
   | some q=>
   obtain⟨f,s2⟩:=q;obtain⟨l2,o2⟩:=ih1 _ _ _ h2;rw[h2] at h;simp only at h
   cases s2 with
   | nil=>cases h
   | cons c s3=>
   simp only[Agd] at l2;have hput:∀r:Fo,1≤(f.put key r).cnt:=λr=>by
    cases f with
    | nil=>cases o2
    | cell _ _ _=>simp[Fo.put,Fo.cnt]
    | node _ _ _ _=>simp[Fo.put,Fo.cnt]
   simp only at h
   cases h3:decide (c=Cu m) with
   | true=>rw[h3] at h;cases h;exact⟨by omega,hput _⟩
   | false=>
   rw[h3] at h;simp only[Agb] at h
   cases h4:decide (c=44) with
   | false=>rw[h4] at h;cases h
   | true=>
   rw[h4] at h;simp only[Agg] at h
   cases h5:Eb b F m key s3 with
   | none=>rw[h5] at h;cases h
   | some q=>
    obtain⟨g',w⟩:=q;rw[h5] at h;cases h;have:=(ih2 _ _ _ _ _ h5).1;exact⟨by omega,hput _⟩
def Dt (acc:Nat)(d:Aj):Nat:=d.foldl (λn c=>10*n+(c.toNat-48)) acc
theorem Lz:∀(d:Aj) (a:Nat),a≤Dt a d
 | [],a=>Agu _
 | c::d,a=>by
  have:=Lz d (10*a+(c.toNat-48));show a≤Dt (10*a+(c.toNat-48)) d;omega
theorem Ua:∀(d:Aj) (a:Nat),1≤a→10 ^ d.length≤Dt a d
 | [],a,h=>by simpa[Dt] using h
 | c::d,a,h=>by
  have hm:∀(d:Aj) (a b:Nat),a≤b→Dt a d≤Dt b d:=by
   intro d
   induction d with
   | nil=>intro a b h;exact h
   | cons c d ih=>intro a b h;show Dt (10*a+(c.toNat-48)) d≤Dt (10*b+(c.toNat-48)) d;exact ih _ _ (by omega)
  have hs:∀(d:Aj) (a:Nat),10 ^ d.length*a≤Dt a d:=by
   intro d
   induction d with
   | nil=>intro a;simp[Dt]
   | cons c d ih=>
    intro a;have:=ih (10*a+(c.toNat-48));show 10 ^ (d.length+1)*a≤Dt (10*a+(c.toNat-48)) d;refine Nat.le_trans ?_ this;rw[Nat.pow_succ,Nat.mul_assoc];exact Nat.mul_le_mul_left _ (by omega)
  exact Nat.le_trans (Nat.le_mul_of_pos_right _ h) (hs (c::d) a)
theorem KJ:∀(d:Aj) (a:Nat),d.all C3=true→d.foldl (λn c=>10*n+((c.toNat:Int)-48)) (a:Int)=(Dt a d:Int)
 | [],a,_=>rfl
 | c::d,a,h=>by
  simp only[AgG,Agf] at h;have hc:48≤c.toNat:=by have:=h.1;simp[C3] at this;omega
  have:=KJ d (10*a+(c.toNat-48)) h.2;show d.foldl _ (10*(a:Int)+((c.toNat:Int)-48))=(Dt (10*a+(c.toNat-48)) d:Int);rw[← this]
  congr 1
  omega
theorem ZS:∀(d:Aj) (a:Nat),d.all C3=true→Lib.parseUint10 a d = .ok (Dt a d)∨(Lib.parseUint10 a d = .range∧1000000000000<Dt a d)
 | [],a,_=>.inl rfl
 | c::d,a,h=>by
  simp only[AgG,Agf] at h;have hc:48≤c.toNat∧c.toNat≤57:=by have:=h.1;simp[C3] at this;omega
  have hm:=Lz d (10*a+(c.toNat-48));have e:Dt a (c::d)=Dt (10*a+(c.toNat-48)) d:=rfl;rw[e];unfold Lib.parseUint10;rw[AgT hc]
  split
  ·exact .inr ⟨rfl,by omega⟩
  ·split
   ·exact .inr ⟨rfl,by omega⟩
   ·rw[show a*10+(c.toNat-48)=10*a+(c.toNat-48) from by omega];exact ZS d _ h.2
theorem Si:∀(d:Aj) (i:Nat),Bu E3 i d=d.all C3
 | [],_=>rfl
 | c::d,i=>by
  rw[Bu,AgG,Si d]
  congr 1
  simp only[E3,C3];rw[Agt];simp only[Agy,Ag7,AfZ,Agf,AfY];omega
def HM (neg:Bool)(d:Aj):Aj:=bif neg then 45::d else d
theorem AaR {d:Aj}(hd:d.all C3=true) : ¬ d.head? =some 45:=by
 cases d with
 | nil=>simp
 | cons c d=>
  simp only[AgG,Agf] at hd;have:=hd.1;intro e;simp only[List.head?_cons,Option.some.injEq] at e;subst e;simp[C3] at this
theorem X7 (s:Aj):TA s=decide (s.head? =some 45):=by
 cases s with
 | nil=>rfl
 | cons c r=>
  have:BD (c::r) 0=c.toNat:=HT rfl;unfold TA;rw[this,Agt];simp only[Agf,AfY,List.head?_cons,Option.some.injEq,← AgY,Agd];show _∧(c.toNat:Int)=45↔c.toNat=45;omega
theorem Abn {neg:Bool}{d:Aj}(hd:d.all C3=true):My (HM neg d)=d:=by
 unfold My;rw[X7]
 cases neg with
 | true=>rfl
 | false=>
  have:=AaR hd;show(if decide (d.head? =some 45)=true then d.drop 1 else d)=d;rw[AgF (by simpa using this)]
theorem Abv {neg:Bool}{d:Aj}(hd:d.all C3=true):NM (HM neg d)=GB neg d:=by
 unfold NM GB;rw[Abn hd,Si,hd,Ag1]
 cases d with
 | nil=>simp
 | cons c r=>
  have hb:BD (c::r) 0=c.toNat:=HT rfl;have h1:decide (c::r=([]:Aj))=false:=by simp
  have h2:decide (BD (c::r) 0=48)=decide ((c::r).head? =some 48):=by
   rw[hb,Agt];simp only[AfY,List.head?_cons,Option.some.injEq,← AgY];show(c.toNat:Int)=48↔c.toNat=48;omega
  rw[h1,h2,Ags,Ag2,Agp]
  cases ha:decide ((c::r).head? =some 48) with
  | false=>rfl
  | true=>
   simp only[AfY,List.head?_cons,Option.some.injEq] at ha;subst ha
   cases neg with
   | true=>simp[HM]
   | false=>
    cases r with
    | nil=>simp[HM]
    | cons a r=>simp[HM]
theorem AbA {neg:Bool}{d:Aj}(hd:d.all C3=true)(hne:d≠[]):Lib.atoiAll (HM neg d)=(bif neg then Lib.signed (Lib.parseUint10 0 d) else Lib.signless (Lib.parseUint10 0 d)):=by
 cases neg with
 | true=>
  simp only[HM,Agg];rw[Lib.atoiAll_minus,Lib.parseMag,AgF hne]
 | false=>
  cases d with
  | nil=>exact absurd rfl hne
  | cons c r=>
   have hc:=hd;simp only[AgG,Agf] at hc;have ha:48≤c.toNat:=by have:=hc.1;simp[C3] at this;omega
   simp only[HM,Agb];rw[Lib.atoiAll_plain c r (by omega) (by omega),Lib.parseMag,AgF hne]
theorem XH {neg:Bool}{d:Aj}(hd:d.all C3=true):(GB neg d=false∧BO (HM neg d)=1)∨(GB neg d=true∧CA ⟨3,LK neg d,[],0⟩=false∧BO (HM neg d)=0∧Bx (HM neg d)=LK neg d)∨(GB neg d=true∧CA ⟨3,LK neg d,[],0⟩=true∧BO (HM neg d)=2∧Bx (HM neg d)=0):=by
 unfold BO Bx;rw[Abv hd]
 cases hc:GB neg d with
 | false=>exact .inl ⟨rfl,rfl⟩
 | true=>
  right
  have hc':=hc;unfold GB at hc';simp only[Agf,Agy,AfZ] at hc';have hne:=hc'.1;rw[AgT rfl,AgT rfl,AbA hd hne];have hnum:QN d=(Dt 0 d:Int):=KJ d 0 hd;have hbig:18<d.length→1000000000000<Dt 0 d:=λhl=>by
   cases d with
   | nil=>simp at hl
   | cons c r=>
    have hc1:=hd;simp only[AgG,Agf] at hc1;have he:48≤c.toNat:=by have:=hc1.1;simp[C3] at this;omega
    have hne48 : ¬ c=48:=by
     intro e;have:=hc'.2;subst e;simp only[Agd] at hl;have h1r:1<r.length+1:=by omega
     simp[h1r] at this
    have hf:49≤c.toNat:=by
     have : ¬ c.toNat=48:=λe=>hne48 (UInt8.toNat_inj.1 (by rw[e];rfl));omega
    have:=Ua r (10*0+(c.toNat-48)) (by omega);have ha:10 ^ 18≤10 ^ r.length:=Nat.pow_le_pow_right (by decide) (by simp at hl;omega);have e:Dt 0 (c::r)=Dt (10*0+(c.toNat-48)) r:=rfl;rw[e];have:(1000000000000:Nat)<10 ^ 18:=by decide
    omega
  have hout:CA ⟨3,LK neg d,[],0⟩=decide (1000000000000<Dt 0 d):=by
   unfold CA LK;rw[hnum]
   cases ha:decide (18<d.length) with
   | true=>
    simp only[AfY] at ha;rw[Agc (hbig ha)]
    cases neg<;>rfl
   | false=>
    rw[Agt]
    cases neg<;>simp<;>omega
  rw[hout];rcases ZS d 0 hd with hu | ⟨hu,hg⟩
  ·rw[hu]
   cases hg:decide (1000000000000<Dt 0 d) with
   | false=>
    simp only[AfZ] at hg;have ha:decide (18<d.length)=false:=by
     rw[AfZ];intro h;have:=hbig h;omega
    refine .inl ⟨rfl,rfl,?_,?_⟩
    ·cases neg with
     | true=>simp only[Agg,Lib.signed];rw[AgF (by omega)];simp only;rw[AgT (by unfold Gb;simp;omega)]
     | false=>simp only[Agb,Lib.signless];rw[AgF (by omega)];simp only;rw[AgT (by unfold Gb;simp;omega)]
    ·unfold LK;rw[ha,hnum]
     cases neg with
     | true=>simp only[Agg,Agb,Lib.signed];rw[AgF (by omega)];simp only;rw[AgT (by unfold Gb;simp;omega)]
     | false=>simp only[Agb,Lib.signless];rw[AgF (by omega)];simp only;rw[AgT (by unfold Gb;simp;omega)]
   | true=>
    simp only[AfY] at hg;refine .inr ⟨rfl,rfl,?_,?_⟩
    ·cases neg with
     | true=>
      simp only[Agg,Lib.signed]
      by_cases hb:9223372036854775808<Dt 0 d
      ·rw[AgT hb]
      ·rw[AgF hb];simp only;rw[AgF (by unfold Gb;simp;omega)]
     | false=>
      simp only[Agb,Lib.signless]
      by_cases hb:9223372036854775808≤Dt 0 d
      ·rw[AgT hb]
      ·rw[AgF hb];simp only;rw[AgF (by unfold Gb;simp;omega)]
    ·cases neg with
     | true=>
      simp only[Agg,Lib.signed]
      by_cases hb:9223372036854775808<Dt 0 d
      ·rw[AgT hb]
      ·rw[AgF hb];simp only;rw[AgF (by unfold Gb;simp;omega)]
     | false=>
      simp only[Agb,Lib.signless]
      by_cases hb:9223372036854775808≤Dt 0 d
      ·rw[AgT hb]
      ·rw[AgF hb];simp only;rw[AgF (by unfold Gb;simp;omega)]
  ·rw[hu,Agc hg];refine .inr ⟨rfl,rfl,?_,?_⟩<;>cases neg<;>rfl
def I9 (u S:Aj):Prop:=∃p,S=p++u
theorem I9.len {u S:Aj}(h:I9 u S):u.length≤S.length:=by obtain⟨p,rfl⟩:=h;simp
theorem I9.tail {c:UInt8}{r S:Aj}(h:I9 (c::r) S):I9 r S:=by obtain⟨p,rfl⟩:=h;exact⟨p++[c],by simp⟩
theorem I9.app {w r S:Aj}(h:I9 (w++r) S):I9 r S:=by obtain⟨p,rfl⟩:=h;exact⟨p++w,by simp⟩
theorem I9.drop {u S:Aj}(h:I9 u S):S.drop (Int.toNat ((S.length:Int)-u.length))=u:=by
 obtain⟨p,rfl⟩:=h;rw[show Int.toNat (((p++u).length:Int)-u.length)=p.length from by rw[Age];omega,List.drop_left]
theorem I9.get {c:UInt8}{r S:Aj}(h:I9 (c::r) S):S[(Int.toNat ((S.length:Int)-(c::r).length))]? =some c:=by
 have:=h.drop;have h2:(S.drop (Int.toNat ((S.length:Int)-(c::r).length)))[0]? =some c:=by rw[this];rfl
 simpa using h2
def DJ (S u:Aj)(cs:List Ac)(g:Bool):A2:=⟨S,(S.length:Int)-u.length,cs,g⟩
theorem MP:∀(w r:Aj),pre w (w++r)=some r
 | [],r=>rfl
 | c::w,r=>by
  show(bif decide (c=c) then pre w (w++r) else none)=some r;rw[Agc rfl];exact MP w r
theorem Vn (w s:Aj):(decide ((w.length:Int)≤(s.length:Int))&&decide (List.take (Int.toNat (w.length:Int)) s=w))=(pre w s).isSome:=by
 cases h:pre w s with
 | some r=>
  have:=DU h;subst this;simp;omega
 | none=>
  rw[Agt];simp only[Agf,AfY,Option.isSome_none,Agv,iff_false,not_and];intro hl e;have:s=w++s.drop w.length:=by
   conv=>lhs;rw[← AgN w.length s]
   rw[show Int.toNat (w.length:Int)=w.length from by omega] at e;rw[e]
  rw[this,MP] at h
  cases h
theorem Nj (s w:Aj):Ib s w=some (pre w s).isSome:=by
 unfold Ib IB;rw[← Vn];have:imp (decide ((w.length:Int)≤(s.length:Int))) (G8 (w.length:Int) (s.length:Int))=true:=by
  cases hd:decide ((w.length:Int)≤(s.length:Int)) with
  | false=>rfl
  | true=>simp only[imp];rw[AeY (by omega) (by simpa using hd)];rfl
 rw[C1 this];rfl
theorem Do {S u w:Aj}{cs:List Ac}{g:Bool}(hS:S.length≤100000)(h:I9 u S):En (DJ S u cs g) w=match pre w u with
  | some r=>some (true,DJ S r cs g)
  | none=>some (false,DJ S u cs g):=by
 have hl:=h.len;unfold En DJ;simp only;rw[CH (by omega) (by omega),h.drop,Nj,Bw rfl]
 cases hp:pre w u with
 | none=>rfl
 | some r=>
  have e:=DU hp;have el:u.length=w.length+r.length:=by rw[e];simp
  rw[AP (p:=!(some r).isSome) rfl,Ba (by omega) (by omega),show(S.length:Int)-u.length+w.length=S.length-r.length from by omega]
theorem pre1 (c:UInt8)(u:Aj):pre [c] u=match u with
  | []=>none
  | d::r=>bif decide (d=c) then some r else none:=by
 cases u with
 | nil=>rfl
 | cons d r=>
  show(bif decide (c=d) then some r else none)=_;have:decide (c=d)=decide (d=c):=by rw[Agt];simp only[AfY];exact eq_comm
  rw[this]
theorem Aaf (A:Aj):QI (D8 A)=A:=by
 induction A with
 | nil=>rfl
 | cons c A ih=>
  show UInt8.ofNat (Int.toNat (c.toNat:Int))::QI (D8 A)=c::A;rw[ih,← (show UInt8.ofNat c.toNat=c from by simp)];simp
theorem Acc:∀(n:Nat) (s t u:Aj),s.length=n→Ds true s=some (t,u)→t.all LJ=true:=by
 intro n
 induction n using Nat.strongRecOn with
 | ind n ih=>
  intro s t u hn h
  cases s with
  | nil=>cases h
  | cons c r=>
   simp only[Agd] at hn;rw[Ee] at h
   cases h1:decide (c=34) with
   | true=>rw[h1] at h;cases h;rfl
   | false=>
    rw[h1] at h;simp only[Agb,Agp] at h
    cases h2:LJ c with
    | false=>rw[h2] at h;cases h
    | true=>
     rw[h2] at h;simp only[Agl,Agb] at h
     cases h3:decide (c=92) with
     | true=>
      rw[h3] at h
      cases r with
      | nil=>cases h
      | cons d r'=>
       simp only[Agg] at h
       cases h4:(decide (d=34)||decide (d=92)) with
       | false=>rw[h4] at h;cases h
       | true=>
        rw[h4] at h;simp only[Agg] at h
        cases h5:Ds true r' with
        | none=>rw[h5] at h;cases h
        | some q=>
         obtain⟨t',u'⟩:=q;rw[h5] at h;cases h;simp only[Agd] at hn;have:=ih r'.length (by omega) r' t' u rfl h5;have hd:LJ d=true:=by
          simp only[Ag4,AfY] at h4;rcases h4 with e | e<;>subst e<;>rfl
         simp[hd,this]
     | false=>
      rw[h3] at h;simp only[Agb] at h
      cases h5:Ds true r with
      | none=>rw[h5] at h;cases h
      | some q=>
       obtain⟨t',u'⟩:=q;rw[h5] at h;cases h;have:=ih r.length (by omega) r t' u rfl h5;simp[h2,this]
theorem Acq {c:UInt8}:(decide ((c.toNat:Int)<32)||decide (126<(c.toNat:Int))) = !LJ c:=by
 unfold LJ;rw[Agt];simp only[Ag4,AfY,Agy,Aha,AfZ];omega
theorem Adw (c:UInt8):decide ((c.toNat:Int)=34)=decide (c=34):=by
 rw[Agt,decide_eq_true_iff,decide_eq_true_iff,← AgY];show _↔c.toNat=34;omega
theorem Adv (c:UInt8):decide ((c.toNat:Int)=92)=decide (c=92):=by
 rw[Agt,decide_eq_true_iff,decide_eq_true_iff,← AgY];show _↔c.toNat=92;omega
theorem Z1 (A:Aj)(c:UInt8):D8 A++([(c.toNat:Int)]:List Int)=D8 (A++[c]):=by simp[D8]
theorem Xx {S:Aj}{cs:List Ac}{g b:Bool}{p:Int}(hS:S.length≤100000):∀(n L:Nat) (u A:Aj),u.length=n→I9 u S→n<L→A.length≤S.length-n→
  ∃o,Cj (λσ=>EM (b,⟨S,p,cs,g⟩) σ.1 σ.2) L (D8 A,(S.length:Int)-u.length)=some o∧((∃t w,Ds true u=some (t,w)∧I9 w S∧BQ (λν=>Je (b,⟨S,p,cs,g⟩) ν) o=some (A++t,true,DJ S w cs g))∨(Ds true u=none∧∃q',BQ (λν=>Je (b,⟨S,p,cs,g⟩) ν) o=some ([],false,q'))):=by
 intro n
 induction n using Nat.strongRecOn with
 | ind n ih=>
  intro L u A hn hs hL hA;obtain⟨L,rfl⟩:∃K,L=K+1:=⟨L-1,by omega⟩
  have hsl:=hs.len
  cases u with
  | nil=>
   have hgo:EM (b,⟨S,p,cs,g⟩) (D8 A) ((S.length:Int)-([]:Aj).length)=some (.out (.go ((S.length:Int)-([]:Aj).length))):=by
    unfold EM;rw[AP (Aga (by simp))]
   exact⟨_,G5 hgo,.inr ⟨rfl,_,rfl⟩⟩
  | cons c r=>
   have hb:BD S ((S.length:Int)-(c::r).length)=c.toNat:=HT hs.get;have hpos:(S.length:Int)-(c::r).length+1=S.length-r.length:=by rw[Agd];omega
   simp only[Agd] at hn hsl;have hlt:(S.length:Int)-(c::r).length<S.length:=by rw[Agd];omega
   have h0:0≤(S.length:Int)-(c::r).length:=by rw[Agd];omega
   have hb1:EM (b,⟨S,p,cs,g⟩) (D8 A) ((S.length:Int)-(c::r).length)=B0 (decide (c=34)) (some (.out (.ret (A,true,DJ S r cs g)))) (B0 (!LJ c) (some (.out (.ret ([],false,DJ S r cs g)))) (B0 (decide (c=92)) (Bi (imp (!(decide ((S.length:Int)≤S.length-r.length))) (Da (S.length-r.length) (S.length:Int)))<|B0 (((decide ((S.length:Int)≤S.length-r.length))||((!decide ((BD S (S.length-r.length))=34))&&(!decide ((BD S (S.length-r.length))=92))))) (some (.out (.ret ([],false,DJ S r cs g)))) (Bi (Da (S.length-r.length) (S.length:Int))<|Bi (Ch .i64 (((S.length:Int)-r.length)+1))<|GF (D8 A) (BD S (S.length-r.length)) (((S.length:Int)-r.length)+1))) (GF (D8 A) (c.toNat:Int) ((S.length:Int)-r.length)))):=by
    unfold EM;simp only;rw[Bd (Agc hlt),Bp h0 hlt,hb,hpos,Ba (by omega) (by omega),Adw,Adv,Acq,Aaf];rfl
   have hj:∀(x:UInt8) (y:Int),GF (D8 A) (x.toNat:Int) y=some (.next (D8 (A++[x]),y)):=λx y=>by
    unfold GF;rw[D6 (by simp[D8];omega),Z1]
   rw[Ee]
   cases h1:decide (c=34) with
   | true=>
    rw[h1] at hb1;exact⟨.ret (A,true,DJ S r cs g),G5 hb1,.inl ⟨[],r,rfl,hs.tail,by rw[ZY,AgP]⟩⟩
   | false=>
    rw[h1,AP rfl] at hb1;simp only[Agb,Agp]
    cases h2:LJ c with
    | false=>
     rw[h2,Bd (p:=!false) rfl] at hb1;exact⟨_,G5 hb1,.inr ⟨rfl,_,rfl⟩⟩
    | true=>
     rw[h2,AP (p:=!true) rfl] at hb1;simp only[Agl,Agb]
     cases h3:decide (c=92) with
     | true=>
      rw[h3,Bd rfl] at hb1
      cases r with
      | nil=>
       have e:decide ((S.length:Int)≤S.length-([]:Aj).length)=true:=by simp
       rw[e,C1 (p:=imp (!true) _) rfl,Bd (p:=true||_) rfl] at hb1;exact⟨_,G5 hb1,.inr ⟨rfl,_,rfl⟩⟩
      | cons d r'=>
       simp only[Agd] at hn hsl;have hbd:BD S ((S.length:Int)-(d::r').length)=d.toNat:=HT hs.tail.get;have hlt2:(S.length:Int)-(d::r').length<S.length:=by rw[Agd];omega
       have ha:0≤(S.length:Int)-(d::r').length:=by rw[Agd];omega
       have hpos2:(S.length:Int)-(d::r').length+1=S.length-r'.length:=by rw[Agd];omega
       have e:decide ((S.length:Int)≤S.length-(d::r').length)=false:=Aga (by omega);rw[e,QQ ha hlt2,hbd,hpos2,Adw,Adv,C1 (p:=imp (!false) true) rfl] at hb1;simp only[Agg]
       cases h4:(decide (d=34)||decide (d=92)) with
       | false=>
        have e4:(false||(!decide (d=34)&&!decide (d=92)))=true:=by rw[← Bool.not_or,h4];rfl
        rw[Bd e4] at hb1;exact⟨_,G5 hb1,.inr ⟨rfl,_,rfl⟩⟩
       | true=>
        have e4:(false||(!decide (d=34)&&!decide (d=92)))=false:=by rw[← Bool.not_or,h4];rfl
        rw[AP e4,C1 rfl,Ba (by omega) (by omega),hj] at hb1;obtain⟨o,ho1,ho2⟩:=ih r'.length (by omega) L r' (A++[d]) rfl hs.tail.tail (by omega) (by rw[JC];omega);refine⟨o,Na hb1 ho1,?_⟩;simp only[Agg];rcases ho2 with⟨t,w,q1,q2,q3⟩ | ⟨q1,q2⟩
        ·rw[q1];exact .inl ⟨d::t,w,rfl,q2,by rw[q3];simp⟩
        ·rw[q1];exact .inr ⟨rfl,q2⟩
     | false=>
      rw[h3,AP rfl,hj] at hb1;obtain⟨o,ho1,ho2⟩:=ih r.length (by omega) L r (A++[c]) rfl hs.tail (by omega) (by rw[JC];omega);refine⟨o,Na hb1 ho1,?_⟩;simp only[Agb];rcases ho2 with⟨t,w,q1,q2,q3⟩ | ⟨q1,q2⟩
      ·rw[q1];exact .inl ⟨c::t,w,rfl,q2,by rw[q3];simp⟩
      ·rw[q1];exact .inr ⟨rfl,q2⟩
theorem Tx {F:Nat}{S u:Aj}{cs:List Ac}{g:Bool}(hS:S.length≤100000)(h:I9 u S)(hF:S.length<F) :
  (∃r t w,u=34::r∧Ds true r=some (t,w)∧I9 w S∧Pr F (DJ S u cs g)=some (t,true,DJ S w cs g))∨((∀r,u=34::r→Ds true r=none)∧∃q',Pr F (DJ S u cs g)=some ([],false,q')):=by
 unfold Pr;rw[Do hS h,pre1]
 cases u with
 | nil=>exact .inr ⟨(λr e=>by cases e),_,rfl⟩
 | cons c r=>
  simp only
  cases hc:decide (c=34) with
  | false=>
   simp only[AfZ] at hc;exact .inr ⟨(λr' e=>by cases e;exact absurd rfl hc),_,rfl⟩
  | true=>
   simp only[AfY] at hc;subst hc;have hl:=h.len;simp only[Agd] at hl;simp only[Agg];rw[Bw rfl,AP (p:=!true) rfl];obtain⟨o,ho1,ho2⟩:=Xx (b:=true) (cs:=cs) (g:=g) (p:=(S.length:Int)-r.length) hS r.length F r [] rfl h.tail (by omega) (AgA _);have ho1':Cj (λσ=>EM (true,DJ S r cs g) σ.1 σ.2) F ([],(S.length:Int)-r.length)=some o:=ho1;rw[show(true,DJ S r cs g).2.fAt=(S.length:Int)-r.length from rfl,Bw ho1'];rcases ho2 with⟨t,w,q1,q2,q3⟩ | ⟨q1,q',q2⟩
   ·exact .inl ⟨r,t,w,rfl,q1,q2,q3⟩
   ·exact .inr ⟨(λr' e=>by cases e;exact q1),q',q2⟩
def Dm (c:Ac):Ac:=bif CA c then⟨3,0,[],0⟩ else c
theorem Nq:∀s:Aj,(Dd s).1.all C3=true
 | []=>rfl
 | c::r=>by
  rw[Dd]
  cases h:C3 c with
  | true=>simp only[Agg,AgG,h,Nq r];rfl
  | false=>rfl
theorem AcW {c:UInt8}:(decide (48≤(c.toNat:Int))&&decide ((c.toNat:Int)≤57))=C3 c:=by
 unfold C3;rw[Agt];simp only[Agf,AfY];omega
theorem Rc {S:Aj}{cs:List Ac}{g b:Bool}{p:Int}(hS:S.length≤100000):∀(u:Aj) (L:Nat),I9 u S→u.length<L→
  Cj (λσ=>EN (b,⟨S,p,cs,g⟩) σ) L ((S.length:Int)-u.length)=some (.go ((S.length:Int)-(Dd u).2.length))
 | [],L,hs,hL=>by
  obtain⟨L,rfl⟩:∃K,L=K+1:=⟨L-1,by omega⟩
  refine G5 ?_;show EN _ _=_;unfold EN;have e:decide ((S.length:Int)-([]:Aj).length<(S.length:Int))=false:=by simp
  simp only;rw[e,C1 (p:=imp false _) rfl,AP (p:=false&&_) rfl];rfl
 | c::r,L,hs,hL=>by
  obtain⟨L,rfl⟩:∃K,L=K+1:=⟨L-1,by omega⟩
  have hsl:=hs.len;have hb:BD S ((S.length:Int)-(c::r).length)=c.toNat:=HT hs.get;have hpos:(S.length:Int)-(c::r).length+1=S.length-r.length:=by rw[Agd];omega
  simp only[Agd] at hsl hL;have hlt:(S.length:Int)-(c::r).length<S.length:=by rw[Agd];omega
  have h0:0≤(S.length:Int)-(c::r).length:=by rw[Agd];omega
  have hb1:EN (b,⟨S,p,cs,g⟩) ((S.length:Int)-(c::r).length)=B0 (C3 c) (some (.next ((S.length:Int)-r.length))) (some (.out (.go ((S.length:Int)-(c::r).length)))):=by
   unfold EN;simp only;rw[Agc hlt,QQ h0 hlt,C1 (p:=imp true true) rfl,hb,AcW,hpos,Ba (by omega) (by omega),Agp]
  rw[Dd]
  cases hd:C3 c with
  | true=>
   rw[hd] at hb1;exact Na hb1 (Rc hS r L hs.tail (by omega))
  | false=>
   rw[hd] at hb1;exact G5 hb1
theorem Tz {F:Nat}{S u:Aj}{cs:List Ac}{g:Bool}(hS:S.length≤100000)(h:I9 u S)(hF:S.length<F)(hcs:cs.length≤100000) :
  (∃f w,J2 u=some (f,w)∧I9 w S∧Ps F (DJ S u cs g)=some (true,DJ S w (cs++f.flat.map Dm) (g||f.flat.any CA)))∨(J2 u=none∧∃q',Ps F (DJ S u cs g)=some (false,q')):=by
 have hl:=h.len;have hneg:∃neg r b,neg=decide (u.head? =some 45)∧r=(bif neg then u.tail else u)∧En (DJ S u cs g) [45]=some (b,DJ S r cs g)∧u=(bif neg then 45::r else r):=by
  rw[Do hS h,pre1]
  cases u with
  | nil=>exact⟨false,[],false,rfl,rfl,rfl,rfl⟩
  | cons c r=>
   simp only[List.head?_cons,Option.some.injEq]
   cases hc:decide (c=45) with
   | true=>simp only[AfY] at hc;subst hc;exact⟨true,r,true,rfl,rfl,rfl,rfl⟩
   | false=>exact⟨false,c::r,false,rfl,rfl,rfl,rfl⟩
 obtain⟨neg,r,b,e1,e2,e3,e4⟩:=hneg;have hr:I9 r S:=by
  rw[e4] at h
  cases neg with
  | true=>exact h.tail
  | false=>exact h
 have hrl:=hr.len;have hd:=Nq r;have hsplit:=OW r;have hlen:r.length=(Dd r).1.length+(Dd r).2.length:=by conv=>lhs;rw[hsplit,Age]
 have hw:I9 (Dd r).2 S:=by rw[hsplit] at hr;exact hr.app
 have hut:u=HM neg (Dd r).1++(Dd r).2:=by
  rw[e4]
  cases neg with
  | true=>show 45::r=45::((Dd r).1++(Dd r).2);rw[← hsplit]
  | false=>exact hsplit
 have hul:u.length=(HM neg (Dd r).1).length+(Dd r).2.length:=by conv=>lhs;rw[hut,Age]
 have hslice:List.take (Int.toNat ((S.length:Int)-(Dd r).2.length)-Int.toNat ((S.length:Int)-u.length)) (List.drop (Int.toNat ((S.length:Int)-u.length)) S)=HM neg (Dd r).1:=by
  rw[h.drop,show Int.toNat ((S.length:Int)-(Dd r).2.length)-Int.toNat ((S.length:Int)-u.length)=(HM neg (Dd r).1).length from by omega]
  conv=>lhs;rw[hut]
  rw[List.take_left]
 have hlop:Cj (λσ=>EN (b,DJ S r cs g) σ) F ((S.length:Int)-r.length)=some (.go ((S.length:Int)-(Dd r).2.length)):=Rc hS r F hr (by omega);have hrun:Ps F (DJ S u cs g)=B0 (((decide ((BO (HM neg (Dd r).1))=1))||(decide ((S.length:Int)-r.length=(S.length:Int)-(Dd r).2.length)))) (some (false,DJ S (Dd r).2 cs g)) (some (true,DJ S (Dd r).2 (cs++[⟨3,Bx (HM neg (Dd r).1),[],0⟩]) (g||!decide (BO (HM neg (Dd r).1)=0)))):=by
  unfold Ps;rw[e3,Bw rfl,show(b,DJ S r cs g).2.fAt=(S.length:Int)-r.length from rfl,Bw hlop,GH];unfold K7;rw[show(DJ S u cs g).fAt=(S.length:Int)-u.length from rfl,show(b,DJ S r cs g).2.fS=S from rfl,show(b,DJ S r cs g).2.fAt=(S.length:Int)-r.length from rfl,CH (by omega) (by omega),CH (by omega) (by omega),hslice,D6 (by omega),C1 (p:=Dv 40 _) (Agc (by
   show(cs.length+1)*40≤140737488355328;omega))]
  rfl
 rw[hrun];unfold J2;simp only;rw[← e1,← e2];rcases XH (neg:=neg) hd with⟨p1,p2⟩ | ⟨p1,p2,p3,p4⟩ | ⟨p1,p2,p3,p4⟩
 ·rw[p1,p2];exact .inr ⟨rfl,_,rfl⟩
 ·have hne:(Dd r).1≠[]:=by
   intro e;rw[e] at p1
   cases neg<;>cases p1
  have hpos:0<(Dd r).1.length:=List.length_pos_iff.2 hne;rw[p1,p3,p4,Aga (show ¬ (S.length:Int)-r.length=(S.length:Int)-(Dd r).2.length by omega)];refine .inl ⟨_,_,rfl,hw,?_⟩;simp[Fo.flat,BZ,Dm,p2,B0]
 ·have hne:(Dd r).1≠[]:=by
   intro e;rw[e] at p1
   cases neg<;>cases p1
  have hpos:0<(Dd r).1.length:=List.length_pos_iff.2 hne;rw[p1,p3,p4,Aga (show ¬ (S.length:Int)-r.length=(S.length:Int)-(Dd r).2.length by omega)];refine .inl ⟨_,_,rfl,hw,?_⟩;simp[Fo.flat,BZ,Dm,p2,B0]
def ZC (strict:Bool)(s:Aj):Option (Fo×Aj):=
 match pre [110,117,108,108] s with
 | some r=>some (lf 1 0 [],r)
 | none=>match pre [116,114,117,101] s with
  | some r=>some (lf 2 1 [],r)
  | none=>match pre [102,97,108,115,101] s with
   | some r=>some (lf 2 0 [],r)
   | none=>match s with
    | []=>none
    | c::r=>bif decide (c=34) then(match Ds strict r with
     | none=>none
     | some (t,u)=>some (lf 4 0 t,u)) else J2 (c::r)
theorem ZT (b:Bool)(F:Nat){s:Aj}(h:∀c r,s=c::r→(decide (c=91)||decide (c=123))=false):GW b (F+1) s=ZC b s:=by
 rw[Ea];unfold ZC
 cases pre [110,117,108,108] s with
 | some r=>rfl
 | none=>
 cases pre [116,114,117,101] s with
 | some r=>rfl
 | none=>
 cases pre [102,97,108,115,101] s with
 | some r=>rfl
 | none=>
 cases s with
 | nil=>rfl
 | cons c r=>
  simp only;rw[h c r rfl];rfl
theorem Ty {F:Nat}{S u:Aj}{cs:List Ac}{g:Bool}(hS:S.length≤100000)(h:I9 u S)(hF:S.length<F)(hcs:cs.length≤100000) :
  (∃f w,ZC true u=some (f,w)∧I9 w S∧Jf F (DJ S u cs g)=some (true,DJ S w (cs++f.flat.map Dm) (g||f.flat.any CA)))∨(ZC true u=none∧∃q',Jf F (DJ S u cs g)=some (false,q')):=by
 have hA:∀c:Ac,Dv 40 (cs.length+([c]:List Ac).length)=true:=λc=>Agc (by show(cs.length+1)*40≤140737488355328;omega);unfold Jf ZC;rw[Do hS h]
 cases h1:pre [110,117,108,108] u with
 | some r=>
  have hr:I9 r S:=by rw[DU h1] at h;exact h.app
  refine .inl ⟨_,r,rfl,hr,?_⟩;simp only;rw[Bw rfl,Bd rfl];show Bi (Dv 40 (cs.length+([⟨1,0,[],0⟩]:List Ac).length)) (some (true,DJ S r (cs++[⟨1,0,[],0⟩]) g))=_;rw[C1 (hA _)];simp[lf,Fo.flat,BZ,Dm,CA]
 | none=>
 simp only;rw[Bw rfl,AP rfl,show(false,DJ S u cs g).2=DJ S u cs g from rfl,Do hS h]
 cases h2:pre [116,114,117,101] u with
 | some r=>
  have hr:I9 r S:=by rw[DU h2] at h;exact h.app
  refine .inl ⟨_,r,rfl,hr,?_⟩;simp only;rw[Bw rfl,Bd rfl];show Bi (Dv 40 (cs.length+([⟨2,1,[],0⟩]:List Ac).length)) (some (true,DJ S r (cs++[⟨2,1,[],0⟩]) g))=_;rw[C1 (hA _)];simp[lf,Fo.flat,BZ,Dm,CA]
 | none=>
 simp only;rw[Bw rfl,AP rfl,show(false,DJ S u cs g).2=DJ S u cs g from rfl,Do hS h]
 cases h3:pre [102,97,108,115,101] u with
 | some r=>
  have hr:I9 r S:=by rw[DU h3] at h;exact h.app
  refine .inl ⟨_,r,rfl,hr,?_⟩;simp only;rw[Bw rfl,Bd rfl];show Bi (Dv 40 (cs.length+([⟨2,0,[],0⟩]:List Ac).length)) (some (true,DJ S r (cs++[⟨2,0,[],0⟩]) g))=_;rw[C1 (hA _)];simp[lf,Fo.flat,BZ,Dm,CA]
 | none=>
 have hl:=h.len;simp only;rw[Bw rfl,AP rfl,show(false,DJ S u cs g).2=DJ S u cs g from rfl,show(DJ S u cs g).fAt=(S.length:Int)-u.length from rfl,show(DJ S u cs g).fS=S from rfl,CH (by omega) (by omega),h.drop,Nj,Bw rfl,pre1]
 cases u with
 | nil=>
  simp only;rw[AP (p:=(none:Option Aj).isSome) rfl];rcases Tz (g:=g) hS h hF hcs with⟨f,w,q1,q2,q3⟩ | ⟨q1,q',q2⟩
  ·exact absurd (Qa q1) (by simp)
  ·rw[q2];exact .inr ⟨trivial,_,rfl⟩
 | cons c r=>
  simp only
  cases hc:decide (c=34) with
  | true=>
   simp only[Agg];rw[Bd (p:=(some r).isSome) rfl];simp only[AfY] at hc;subst hc;rcases Tx (cs:=cs) (g:=g) hS h hF with⟨r',t,w,q1,q2,q3,q4⟩ | ⟨q1,q',q2⟩
   ·cases q1
    rw[q2,q4,Bw rfl,AP (p:=!true) rfl];refine .inl ⟨_,w,rfl,q3,?_⟩;simp only;show Bi (Dv 40 (cs.length+([⟨4,0,t,0⟩]:List Ac).length)) (some (true,DJ S w (cs++[⟨4,0,t,0⟩]) g))=_;rw[C1 (hA _)];simp[lf,Fo.flat,BZ,Dm,CA]
   ·rw[q1 r rfl,q2,Bw rfl];exact .inr ⟨rfl,_,rfl⟩
  | false=>
   simp only[Agb];rw[AP (p:=(none:Option Aj).isSome) rfl];rcases Tz (g:=g) hS h hF hcs with⟨f,w,q1,q2,q3⟩ | ⟨q1,q',q2⟩
   ·rw[q3,Bw rfl];exact .inl ⟨f,w,q1,q2,rfl⟩
   ·rw[q2,Bw rfl];exact .inr ⟨q1,_,rfl⟩
theorem Ws {f:Fo}(h:f.one=true)(key:Option Aj)(r:Fo):(f.put key r).cnt=r.cnt+1:=by
 cases f with
 | nil=>cases h
 | cell _ _ _=>rfl
 | node _ _ _ _=>rfl
theorem Ly (m:Bool)(g:Fo)(h:g.cnt=0→g = .nil):(nd m g).flat=⟨bif m then 6 else 5,0,[],(g.cnt:Int)⟩::g.flat:=by
 unfold nd
 cases hd:decide (g.cnt=0) with
 | true=>
  simp only[AfY] at hd;rw[h hd];rfl
 | false=>simp[Fo.flat,BZ]
theorem Ke {g:Fo}(h:g.cnt=0):g = .nil:=by
 cases g with
 | nil=>rfl
 | cell _ _ _=>simp[Fo.cnt] at h
 | node _ _ _ _=>simp[Fo.cnt] at h
theorem Yq {b m:Bool}{last key:Option Aj}{s u:Aj}(h:Gp b m last s=some (key,u)):(BZ key).length+u.length≤s.length:=by
 unfold Gp at h
 cases m with
 | false=>cases h;simp[BZ]
 | true=>
  simp only[Agg] at h
  cases s with
  | nil=>cases h
  | cons c r=>
   simp only at h
   cases h1:decide (c=34) with
   | false=>rw[h1] at h;cases h
   | true=>
    rw[h1] at h;simp only[Agg] at h
    cases h2:Ds b r with
    | none=>rw[h2] at h;cases h
    | some q=>
     obtain⟨k,w⟩:=q;have:=KC b _ r k w rfl h2;rw[h2] at h;simp only at h
     cases h3:(b&&!BN true last (some k)) with
     | true=>rw[h3] at h;cases h
     | false=>
      rw[h3] at h;simp only[Agb] at h
      cases w with
      | nil=>cases h
      | cons d w'=>
       simp only at h
       cases h4:decide (d=58) with
       | false=>rw[h4] at h;cases h
       | true=>rw[h4] at h;cases h;simp only[Agd,BZ,AgW] at this ⊢;omega
theorem Jp (b:Bool):∀F:Nat,(∀s f u,GW b F s=some (f,u)→f.flat.length+u.length≤s.length)∧(∀m last s g u,Eb b F m last s=some (g,u)→g.flat.length+u.length+1≤s.length)
 | 0=>⟨(λs f u h=>by rw[GW.eq_def] at h;cases h),(λm last s g u h=>by rw[Eb.eq_def] at h;cases h)⟩
 | F+1=>by
  obtain⟨ih1,ih2⟩:=Jp b F;have lfl:∀k i t,(lf k i t).flat.length=1:=λ_ _ _=>rfl;constructor
  ·intro s f u h;rw[Ea] at h
   cases h1:pre [110,117,108,108] s with
   | some r=>rw[h1] at h;cases h;rw[DU h1,lfl];simp;omega
   | none=>
   rw[h1] at h;simp only at h
   cases h2:pre [116,114,117,101] s with
   | some r=>rw[h2] at h;cases h;rw[DU h2,lfl];simp;omega
   | none=>
   rw[h2] at h;simp only at h
   cases h3:pre [102,97,108,115,101] s with
   | some r=>rw[h3] at h;cases h;rw[DU h3,lfl];simp;omega
   | none=>
   rw[h3] at h;simp only at h
   cases s with
   | nil=>cases h
   | cons c r=>
   simp only at h
   cases h4:decide (c=34) with
   | true=>
    rw[h4] at h;simp only[Agg] at h
    cases h5:Ds b r with
    | none=>rw[h5] at h;cases h
    | some q=>
     obtain⟨t,w⟩:=q;rw[h5] at h;cases h;have:=KC b _ r t u rfl h5;rw[lfl];simp only[Agd];omega
   | false=>
   rw[h4] at h;simp only[Agb] at h
   cases h5:(decide (c=91)||decide (c=123)) with
   | false=>
    rw[h5] at h;simp only[Agb] at h;have h6:=Qa h;have h7:f.flat.length=1:=by
     unfold J2 at h;simp only at h
     cases hc:GB (decide ((c::r).head? =some 45)) (Dd (bif decide ((c::r).head? =some 45) then(c::r).tail else c::r)).1 with
     | false=>rw[hc] at h;cases h
     | true=>rw[hc] at h;cases h;rfl
    omega
   | true=>
   rw[h5] at h;simp only[Agg] at h
   cases r with
   | nil=>cases h
   | cons d r'=>
   simp only at h
   cases h6:decide (d=Cu (decide (c=123))) with
   | true=>rw[h6] at h;cases h;rw[Ly _ _ Ke];simp[Fo.flat];omega
   | false=>
   rw[h6] at h;simp only[Agb] at h
   cases h7:Eb b F (decide (c=123)) none (d::r') with
   | none=>rw[h7] at h;cases h
   | some q=>
    obtain⟨g,w⟩:=q;rw[h7] at h;cases h;have:=ih2 _ _ _ _ _ h7;rw[Ly _ _ Ke];simp only[Agd] at this ⊢;omega
  ·intro m last s g u h;rw[DI] at h
   cases h1:Gp b m last s with
   | none=>rw[h1] at h;cases h
   | some q=>
   obtain⟨key,s1⟩:=q;have l1:=Yq h1;rw[h1] at h;simp only at h
   cases h2:GW b F s1 with
   | none=>rw[h2] at h;cases h
   | some q=>
   obtain⟨f,s2⟩:=q;have l2:=ih1 _ _ _ h2;have o2:=((EY b F).1 _ _ _ h2).2;rw[h2] at h;simp only at h
   cases s2 with
   | nil=>cases h
   | cons c s3=>
   simp only[Agd] at l2;simp only at h
   cases h3:decide (c=Cu m) with
   | true=>rw[h3] at h;cases h;rw[GG o2,Age,Age];simp only[Fo.flat,AgW];omega
   | false=>
   rw[h3] at h;simp only[Agb] at h
   cases h4:decide (c=44) with
   | false=>rw[h4] at h;cases h
   | true=>
   rw[h4] at h;simp only[Agg] at h
   cases h5:Eb b F m key s3 with
   | none=>rw[h5] at h;cases h
   | some q=>
    obtain⟨g',w⟩:=q;rw[h5] at h;cases h;have:=ih2 _ _ _ _ _ h5;rw[GG o2,Age,Age];omega
theorem Wl {α:Type}(xs D:List α)(a b:α):List.set (xs++a::D) (Int.toNat (xs.length:Int)) b=xs++b::D:=by
 rw[show Int.toNat (xs.length:Int)=xs.length from by omega,List.set_append_right _ _ (Agu _)];simp
theorem AbC {α:Type}[Inhabited α](xs D:List α)(a:α):Al (xs++a::D) (xs.length:Int)=a:=by simp[Al]
def VOk (F P:Nat)(S u:Aj)(cs:List Ac)(g:Bool):Prop:=
 (∃f w,GW true P u=some (f,w)∧I9 w S∧CQ F (DJ S u cs g)=some (true,DJ S w (cs++f.flat.map Dm) (g||f.flat.any CA)))∨(GW true P u=none∧∃q',CQ F (DJ S u cs g)=some (false,q'))
abbrev LB2 (F:Nat)(x16:List Ac):Int×Aj×Int×List Ac×Bool→Option (Stp (Int×Aj×Int×List Ac×Bool) (Out (Bool×A2) Unit)):=λσ=>Gd (CQ F) x16 σ.1 σ.2.1 σ.2.2.1 σ.2.2.2.1 σ.2.2.2.2
abbrev LB3 (F:Nat)(x16:List Ac):Aj×Int×Aj×Int×List Ac×Bool→Option (Stp (Aj×Int×Aj×Int×List Ac×Bool) (Out (Bool×A2) Unit)):=λσ=>Gc F (CQ F) x16 σ.1 σ.2.1 σ.2.2.1 σ.2.2.2.1 σ.2.2.2.2.1 σ.2.2.2.2.2
def YV (P:Nat)(m:Bool)(last:Option Aj)(S u:Aj)(x16 D:List Ac)(k:Int)(g:Bool)(o:Out (Bool×A2) Unit):Prop:=
 (∃G w,Eb true P m last u=some (G,w)∧I9 w S∧o = .ret (true,DJ S w (x16++⟨bif m then 6 else 5,0,[],k-1+(G.cnt:Int)⟩::(D++G.flat.map Dm)) (g||G.flat.any CA)))∨(Eb true P m last u=none∧∃q',o = .ret (false,q'))
theorem AcP (k:Option Aj):(BZ k).map Dm=BZ k∧(BZ k).any CA=false:=by
 cases k with
 | none=>exact⟨rfl,rfl⟩
 | some s=>exact⟨by simp[BZ,Dm,CA],by simp[BZ,CA]⟩
theorem YV.join {P:Nat}{m:Bool}{last key:Option Aj}{S u s1 s2:Aj}{x16 D:List Ac}{k:Int}{g:Bool}{o:Out (Bool×A2) Unit}{f:Fo}(hk:Gp true m last u=some (key,s1))(hf:GW true P s1=some (f,s2))(ho:f.one=true)
  (h:(∃s3,s2=Cu m::s3∧I9 s3 S∧o = .ret (true,DJ S s3 (x16++⟨bif m then 6 else 5,0,[],k⟩::(D++(BZ key++f.flat.map Dm))) (g||f.flat.any CA)))∨(∃s3,s2=44::s3∧YV P m key S s3 x16 (D++(BZ key++f.flat.map Dm)) (k+1) (g||f.flat.any CA) o)∨((∀c s3,s2=c::s3→decide (c=Cu m)=false∧decide (c=44)=false)∧∃q',o = .ret (false,q'))):YV (P+1) m last S u x16 D k g o:=by
 obtain⟨fk1,fk2⟩:=AcP key;unfold YV;rw[DI,hk];simp only[hf];have ha:decide ((44:UInt8)=Cu m)=false:=by cases m<;>rfl
 rcases h with⟨s3,rfl,h1,h2⟩ | ⟨s3,rfl,h⟩ | ⟨h1,h2⟩
 ·simp only[decide_true,Agg];refine .inl ⟨_,s3,rfl,h1,?_⟩;rw[h2,Ws ho,GG ho];simp only[Fo.flat,Fo.cnt,AgP,AgS,List.any_append,fk1,fk2,Ags]
  congr 6
  omega
 ·simp only[ha,Agb,decide_true,Agg];rcases h with⟨G,w,q1,q2,q3⟩ | ⟨q1,q2⟩
  ·rw[q1];refine .inl ⟨_,w,rfl,q2,?_⟩;rw[q3,Ws ho,GG ho];simp only[AgS,List.any_append,fk1,fk2,Ags,Bool.or_assoc,Ag8]
   congr 6
   omega
  ·rw[q1];exact .inr ⟨rfl,q2⟩
 ·refine .inr ⟨?_,h2⟩
  cases s2 with
  | nil=>rfl
  | cons c s3=>
   obtain⟨a,b⟩:=h1 c s3 rfl;simp only[a,b,Agb]
theorem OQ (S u:Aj)(cs:List Ac)(g:Bool):A2.mk S ((S.length:Int)-u.length) cs g=DJ S u cs g:=rfl
theorem OO {o:Out (Bool×A2) Unit}{r:Bool×A2}{K:Unit→Option (Bool×A2)}(h:o = .ret r):BQ K o=some r:=by rw[h];rfl
theorem WY {α:Type}{n:Nat}{x:Option α}(h:n≤1000000):Bi (Dv 40 n) x=x:=C1 (Agc (by omega))
theorem V3 {F P:Nat}{S u:Aj}{x16 D:List Ac}{k:Int}{g:Bool}(hS:S.length≤100000)(hs:I9 u S)(hk1:1≤k)(hk2:k≤200000)(hV:VOk F P S u (x16++⟨5,0,[],k-1⟩::D) g) :
  (∃q',LB2 F x16 (k,S,(S.length:Int)-u.length,x16++⟨5,0,[],k-1⟩::D,g)=some (.out (.ret (false,q')))∧(GW true P u=none∨∃f s2,GW true P u=some (f,s2)∧∀c s3,s2=c::s3→decide (c=Cu false)=false∧decide (c=44)=false))∨
  ∃f s2,GW true P u=some (f,s2)∧I9 s2 S∧((∃s3,s2=Cu false::s3∧LB2 F x16 (k,S,(S.length:Int)-u.length,x16++⟨5,0,[],k-1⟩::D,g)=some (.out (.ret (true,DJ S s3 (x16++⟨5,0,[],k⟩::(D++f.flat.map Dm)) (g||f.flat.any CA)))))∨
   (∃s3,s2=44::s3∧LB2 F x16 (k,S,(S.length:Int)-u.length,x16++⟨5,0,[],k-1⟩::D,g)=some (.next (k+1,S,(S.length:Int)-s3.length,x16++⟨5,0,[],k⟩::(D++f.flat.map Dm),g||f.flat.any CA)))):=by
 have hb:LB2 F x16 (k,S,(S.length:Int)-u.length,x16++⟨5,0,[],k-1⟩::D,g)=Gd (CQ F) x16 k S ((S.length:Int)-u.length) (x16++⟨5,0,[],k-1⟩::D) g:=rfl;rw[hb];unfold Gd;rw[OQ];rcases hV with⟨f,s2,q1,q2,q3⟩ | ⟨q1,q',q2⟩
 ·have ec:(x16++⟨5,0,[],k-1⟩::D)++f.flat.map Dm=x16++⟨5,0,[],k-1⟩::(D++f.flat.map Dm):=by simp
  rw[ec] at q3;rw[q3,Bw rfl,AP (p:=!true) rfl];have hin:Da (x16.length:Int) (((x16++(⟨5,0,[],k-1⟩:Ac)::(D++f.flat.map Dm)).length:Nat):Int)=true:=QQ (by omega) (by rw[Age,Agd];omega);have e1:(true,DJ S s2 (x16++⟨5,0,[],k-1⟩::(D++f.flat.map Dm)) (g||f.flat.any CA)).2.fCells=x16++⟨5,0,[],k-1⟩::(D++f.flat.map Dm):=rfl;rw[e1,C1 hin,AbC,Wl,GR];have e2:A2.mk (true,DJ S s2 (x16++⟨5,0,[],k-1⟩::(D++f.flat.map Dm)) (g||f.flat.any CA)).2.fS (true,DJ S s2 (x16++⟨5,0,[],k-1⟩::(D++f.flat.map Dm)) (g||f.flat.any CA)).2.fAt (x16++⟨5,0,[],k⟩::(D++f.flat.map Dm)) (true,DJ S s2 (x16++⟨5,0,[],k-1⟩::(D++f.flat.map Dm)) (g||f.flat.any CA)).2.fGreat=DJ S s2 (x16++⟨5,0,[],k⟩::(D++f.flat.map Dm)) (g||f.flat.any CA):=rfl;rw[e2,Do hS q2,pre1]
  cases s2 with
  | nil=>
   simp only;rw[Bw rfl,AP rfl,Do hS q2,pre1];exact .inl ⟨_,rfl,.inr ⟨f,[],q1,λc s3 e=>by cases e⟩⟩
  | cons c s3=>
   simp only
   cases ha:decide (c=93) with
   | true=>
    simp only[AfY] at ha;subst ha;exact .inr ⟨f,_,q1,q2,.inl ⟨s3,rfl,rfl⟩⟩
   | false=>
    simp only[Agb];rw[Bw rfl,AP rfl,Do hS q2,pre1];simp only
    cases hd:decide (c=44) with
    | true=>
     simp only[AfY] at hd;subst hd;simp only[Agg];rw[Bw rfl,AP (p:=!true) rfl,Ba (by omega) (by omega)];exact .inr ⟨f,_,q1,q2,.inr ⟨s3,rfl,rfl⟩⟩
    | false=>
     exact .inl ⟨_,rfl,.inr ⟨f,_,q1,λc' s3' e=>by cases e;exact⟨ha,hd⟩⟩⟩
 ·rw[q2,Bw rfl];exact .inl ⟨q',rfl,.inl q1⟩
theorem Aa5 {F P:Nat}{S u:Aj}{x16 D:List Ac}{k:Int}{g b1 b2:Bool}{r:Aj×Bool×A2}(hS:S.length≤100000)(hs:I9 u S)(hk1:1≤k)(hk2:k≤200000)(hD:x16.length+D.length≤200000)(hV:VOk F P S u (x16++⟨6,0,[],k-1⟩::(D++[⟨4,0,r.1,0⟩])) g) :
  (∃q',CK (CQ F) x16 k r b1 b2 false S ((S.length:Int)-u.length) (x16++⟨6,0,[],k-1⟩::D) g=some (.out (.ret (false,q')))∧(GW true P u=none∨∃f s2,GW true P u=some (f,s2)∧∀c s3,s2=c::s3→decide (c=Cu true)=false∧decide (c=44)=false))∨
  ∃f s2,GW true P u=some (f,s2)∧I9 s2 S∧((∃s3,s2=Cu true::s3∧CK (CQ F) x16 k r b1 b2 false S ((S.length:Int)-u.length) (x16++⟨6,0,[],k-1⟩::D) g=some (.out (.ret (true,DJ S s3 (x16++⟨6,0,[],k⟩::(D++([⟨4,0,r.1,0⟩]++f.flat.map Dm))) (g||f.flat.any CA)))))∨
   (∃s3,s2=44::s3∧CK (CQ F) x16 k r b1 b2 false S ((S.length:Int)-u.length) (x16++⟨6,0,[],k-1⟩::D) g=some (.next (r.1,k+1,S,(S.length:Int)-s3.length,x16++⟨6,0,[],k⟩::(D++([⟨4,0,r.1,0⟩]++f.flat.map Dm)),g||f.flat.any CA)))):=by
 unfold CK;have e0:(x16++⟨6,0,[],k-1⟩::D)++([⟨4,0,r.1,0⟩]:List Ac)=x16++⟨6,0,[],k-1⟩::(D++[⟨4,0,r.1,0⟩]):=by simp
 rw[AP rfl,WY (by rw[Age,Agd,AgE];omega),e0,OQ];rcases hV with⟨f,s2,q1,q2,q3⟩ | ⟨q1,q',q2⟩
 ·have ec:(x16++⟨6,0,[],k-1⟩::(D++[⟨4,0,r.1,0⟩]))++f.flat.map Dm=x16++⟨6,0,[],k-1⟩::(D++([⟨4,0,r.1,0⟩]++f.flat.map Dm)):=by simp
  rw[ec] at q3;rw[q3,Bw rfl,AP (p:=!true) rfl];have hin:Da (x16.length:Int) (((x16++(⟨6,0,[],k-1⟩:Ac)::(D++([⟨4,0,r.1,0⟩]++f.flat.map Dm))).length:Nat):Int)=true:=QQ (by omega) (by rw[Age,Agd];omega);have e1:(true,DJ S s2 (x16++⟨6,0,[],k-1⟩::(D++([⟨4,0,r.1,0⟩]++f.flat.map Dm))) (g||f.flat.any CA)).2.fCells=x16++⟨6,0,[],k-1⟩::(D++([⟨4,0,r.1,0⟩]++f.flat.map Dm)):=rfl;rw[e1,C1 hin,AbC,Wl,GR];have e2:A2.mk (true,DJ S s2 (x16++⟨6,0,[],k-1⟩::(D++([⟨4,0,r.1,0⟩]++f.flat.map Dm))) (g||f.flat.any CA)).2.fS (true,DJ S s2 (x16++⟨6,0,[],k-1⟩::(D++([⟨4,0,r.1,0⟩]++f.flat.map Dm))) (g||f.flat.any CA)).2.fAt (x16++⟨6,0,[],k⟩::(D++([⟨4,0,r.1,0⟩]++f.flat.map Dm))) (true,DJ S s2 (x16++⟨6,0,[],k-1⟩::(D++([⟨4,0,r.1,0⟩]++f.flat.map Dm))) (g||f.flat.any CA)).2.fGreat=DJ S s2 (x16++⟨6,0,[],k⟩::(D++([⟨4,0,r.1,0⟩]++f.flat.map Dm))) (g||f.flat.any CA):=rfl;rw[e2,Do hS q2,pre1]
  cases s2 with
  | nil=>
   simp only;rw[Bw rfl,AP rfl,Do hS q2,pre1];exact .inl ⟨_,rfl,.inr ⟨f,[],q1,λc s3 e=>by cases e⟩⟩
  | cons c s3=>
   simp only
   cases ha:decide (c=125) with
   | true=>
    simp only[AfY] at ha;subst ha;exact .inr ⟨f,_,q1,q2,.inl ⟨s3,rfl,rfl⟩⟩
   | false=>
    simp only[Agb];rw[Bw rfl,AP rfl,Do hS q2,pre1];simp only
    cases hb:decide (c=44) with
    | true=>
     simp only[AfY] at hb;subst hb;simp only[Agg];rw[Bw rfl,AP (p:=!true) rfl,Ba (by omega) (by omega)];exact .inr ⟨f,_,q1,q2,.inr ⟨s3,rfl,rfl⟩⟩
    | false=>
     exact .inl ⟨_,rfl,.inr ⟨f,_,q1,λc' s3' e=>by cases e;exact⟨ha,hb⟩⟩⟩
 ·rw[q2,Bw rfl];exact .inl ⟨q',rfl,.inl q1⟩
def Aep (t:Aj):Aj→Option (Option Aj×Aj)
 | []=>none
 | d::u'=>bif decide (d=58) then some (some t,u') else none
theorem WE (b:Bool)(last:Option Aj)(r:Aj):Gp b true last (34::r)=match Ds b r with
  | none=>none
  | some (k,u)=>bif b&&!BN true last (some k) then none else Aep k u:=by
 show(match Ds b r with
   | none=>none
   | some (k,u)=>bif b&&!BN true last (some k) then none else(match u with
    | []=>none
    | d::u'=>bif decide (d=58) then some (some k,u') else none))=_
 cases Ds b r with
 | none=>rfl
 | some q=>obtain⟨k,u⟩:=q;cases u<;>rfl
theorem AcG (b:Bool)(last:Option Aj){u:Aj}(h:∀r,u=34::r→Ds b r=none):Gp b true last u=none:=by
 cases u with
 | nil=>rfl
 | cons c r=>
  by_cases hc:c=34
  ·subst hc;rw[WE,h r rfl]
  ·show(bif decide (c=34) then _ else none)=none;rw[Aga hc];rfl
theorem RC {F:Nat}{S w t:Aj}{x16 cs:List Ac}{k:Int}{g:Bool}(b1 b2:Bool)(hS:S.length≤100000)(hw:I9 w S) :
  (∃q',Bs (En (t,true,DJ S w cs g).2.2 ([58]:Aj)) (λha=>CK (CQ F) x16 k (t,true,DJ S w cs g) b1 b2 (!ha.1) ha.2.fS ha.2.fAt ha.2.fCells ha.2.fGreat)=some (.out (.ret (false,q')))∧Aep t w=none)∨
  ∃s1,w=58::s1∧Aep t w=some (some t,s1)∧Bs (En (t,true,DJ S w cs g).2.2 ([58]:Aj)) (λha=>CK (CQ F) x16 k (t,true,DJ S w cs g) b1 b2 (!ha.1) ha.2.fS ha.2.fAt ha.2.fCells ha.2.fGreat)=CK (CQ F) x16 k (t,true,DJ S w cs g) b1 b2 false S ((S.length:Int)-s1.length) cs g:=by
 rw[show(t,true,DJ S w cs g).2.2=DJ S w cs g from rfl,Do hS hw,pre1]
 cases w with
 | nil=>exact .inl ⟨_,rfl,rfl⟩
 | cons d s1=>
  by_cases hd:d=58
  ·subst hd;exact .inr ⟨s1,rfl,rfl,rfl⟩
  ·simp only[Aga hd,Agb];refine .inl ⟨_,rfl,?_⟩;show(bif decide (d=58) then _ else none)=none;rw[Aga hd];rfl
theorem Ac9 {F:Nat}{S u last:Aj}{x16 cs:List Ac}{k:Int}{g:Bool}(hS:S.length≤100000)(hs:I9 u S)(hF:S.length<F) :
  (Gp true true (bif decide (1<k) then some last else none) u=none∧∃q',LB3 F x16 (last,k,S,(S.length:Int)-u.length,cs,g)=some (.out (.ret (false,q'))))∨
  ∃t s1 b1 b2 q0,Gp true true (bif decide (1<k) then some last else none) u=some (some t,s1)∧I9 s1 S∧s1.length+2≤u.length∧LB3 F x16 (last,k,S,(S.length:Int)-u.length,cs,g)=CK (CQ F) x16 k (t,true,q0) b1 b2 false S ((S.length:Int)-s1.length) cs g:=by
 have hb:LB3 F x16 (last,k,S,(S.length:Int)-u.length,cs,g)=Gc F (CQ F) x16 last k S ((S.length:Int)-u.length) cs g:=rfl;rw[hb];unfold Gc;rw[OQ];rcases Tx (cs:=cs) (g:=g) hS hs hF with⟨r,t,w,q1,q2,q3,q4⟩ | ⟨q1,q',q2⟩
 ·rw[q4,Bw rfl,AP (p:=!true) rfl];subst q1;have hok:=Acc _ r t w rfl q2;have hwl:=KC true _ r t w rfl q2;rw[WE,q2];simp only[Agp]
  cases h1:decide (1<k) with
  | true=>
   rw[Bd rfl];simp only[Agg];have hko:BN true (some last) (some t) = !(C9 t last||decide (t=last)):=by simp[BN,hok]
   rw[hko,Bool.not_not]
   cases hlt:(C9 t last||decide (t=last)) with
   | true=>
    rw[Bd rfl];exact .inl ⟨rfl,_,rfl⟩
   | false=>
    rw[AP rfl];simp only[Agb];rcases RC (F:=F) (cs:=cs) (g:=g) (x16:=x16) (k:=k) (t:=t) false false hS q3 with⟨q',c1,c2⟩ | ⟨s1,c1,c2,c3⟩
    ·exact .inl ⟨c2,q',c1⟩
    ·subst c1;exact .inr ⟨t,s1,false,false,DJ S (58::s1) cs g,c2,q3.tail,by simp only[Agd] at hwl ⊢;omega,c3⟩
  | false=>
   rw[AP rfl];simp only[Agb];have hko:BN true none (some t)=true:=by simp[BN,hok]
   rw[hko];simp only[Agl,Agb];rcases RC (F:=F) (cs:=cs) (g:=g) (x16:=x16) (k:=k) (t:=t) false false hS q3 with⟨q',c1,c2⟩ | ⟨s1,c1,c2,c3⟩
   ·exact .inl ⟨c2,q',c1⟩
   ·subst c1;exact .inr ⟨t,s1,false,false,DJ S (58::s1) cs g,c2,q3.tail,by simp only[Agd] at hwl ⊢;omega,c3⟩
 ·rw[q2,Bw rfl];exact .inl ⟨AcG _ _ q1,_,rfl⟩
def YL (b:Bool)(F:Nat)(m:Bool):Aj→Option (Fo×Aj)
 | []=>none
 | d::r'=>bif decide (d=Cu m) then some (nd m .nil,r') else(match Eb b F m none (d::r') with
  | none=>none
  | some (g,u)=>some (nd m g,u))
theorem LD (b:Bool)(F:Nat)(m:Bool)(d:UInt8)(r':Aj):YL b F m (d::r')=bif decide (d=Cu m) then some (nd m .nil,r') else(match Eb b F m none (d::r') with
  | none=>none
  | some (g,u)=>some (nd m g,u)):=rfl
theorem Vo (b:Bool)(F:Nat)(r:Aj)(m:Bool):GW b (F+1) ((bif m then 123 else 91)::r)=YL b F m r:=by
 rw[Ea]
 cases m<;>cases r<;>rfl
theorem AaE {S:Aj}(hS:S.length≤100000):∀n:Nat,
  (∀(F P:Nat) (u:Aj) (cs:List Ac) (g:Bool),u.length=n→I9 u S→S.length+n+5<F→2*n+2≤P→cs.length+n≤S.length→VOk F P S u cs g)∧
  (∀(F P L:Nat) (u:Aj) (x16 D:List Ac) (k:Int) (g:Bool),u.length=n→I9 u S→S.length+n+5<F→2*n+3≤P→n<L→x16.length+1+D.length+n≤S.length→1≤k→k+n≤S.length+1→∃o,Cj (LB2 F x16) L (k,S,(S.length:Int)-u.length,x16++⟨5,0,[],k-1⟩::D,g)=some o∧YV P false none S u x16 D k g o)∧
  (∀(F P L:Nat) (u last:Aj) (x16 D:List Ac) (k:Int) (g:Bool),u.length=n→I9 u S→S.length+n+5<F→2*n+3≤P→n<L→x16.length+1+D.length+n≤S.length→1≤k→k+n≤S.length+1→∃o,Cj (LB3 F x16) L (last,k,S,(S.length:Int)-u.length,x16++⟨6,0,[],k-1⟩::D,g)=some o∧YV P true (bif decide (1<k) then some last else none) S u x16 D k g o):=by
 intro n
 induction n using Nat.strongRecOn with
 | ind n ih=>
 have hV:∀(F P:Nat) (u:Aj) (cs:List Ac) (g:Bool),u.length=n→I9 u S→S.length+n+5<F→2*n+2≤P→cs.length+n≤S.length→VOk F P S u cs g:=by
  intro F P u cs g hn hs hF hP hcs;obtain⟨F,rfl⟩:∃K,F=K+1:=⟨F-1,by omega⟩
  obtain⟨P,rfl⟩:∃K,P=K+1:=⟨P-1,by omega⟩
  unfold VOk;rw[CQ];unfold MC;rw[Do hS hs,pre1];have hsc:(∀c r,u=c::r→(decide (c=91)||decide (c=123))=false)→∀r1:Bool×A2,(∃f w,GW true (P+1) u=some (f,w)∧I9 w S∧Eo F (CQ F) r1 true S ((S.length:Int)-u.length) cs g=some (true,DJ S w (cs++f.flat.map Dm) (g||f.flat.any CA)))∨(GW true (P+1) u=none∧∃q',Eo F (CQ F) r1 true S ((S.length:Int)-u.length) cs g=some (false,q')):=λhc r1=>by
   rw[ZT true P hc];unfold Eo;rw[Bd rfl,OQ];rcases Ty (F:=F) (cs:=cs) (g:=g) hS hs (by omega) (by omega) with⟨f,w,q1,q2,q3⟩ | ⟨q1,q',q2⟩
   ·rw[q3,Bw rfl];exact .inl ⟨f,w,q1,q2,rfl⟩
   ·rw[q2,Bw rfl];exact .inr ⟨q1,q',rfl⟩
  have hsl:=hs.len
  cases u with
  | nil=>
   simp only;rw[Bw rfl,Bd (p:=!false) rfl,show(false,DJ S [] cs g).2=DJ S [] cs g from rfl,Do hS hs,pre1,Bw rfl];exact hsc (λc r e=>by cases e) _
  | cons c r=>
   simp only[Agd] at hn hsl;simp only;have hbr:∀m:Bool,c=(bif m then 123 else 91)→∀body:Option (Bool×A2),body=(Bi (Dv 40 (cs.length+([⟨bif m then 6 else 5,0,[],0⟩]:List Ac).length))<|Bs (En (DJ S r (cs++[⟨bif m then 6 else 5,0,[],0⟩]) g) ([Cu m]:Aj)) λha=>B0 ha.1 (some (true,ha.2)) (bif m then Bs (Cj (LB3 F cs) F ([],1,ha.2.fS,ha.2.fAt,ha.2.fCells,ha.2.fGreat)) (BQ λ_=>Ii) else Bs (Cj (LB2 F cs) F (1,ha.2.fS,ha.2.fAt,ha.2.fCells,ha.2.fGreat)) (BQ λ_=>Ij)))→
     (∃f w,GW true (P+1) (c::r)=some (f,w)∧I9 w S∧body=some (true,DJ S w (cs++f.flat.map Dm) (g||f.flat.any CA)))∨(GW true (P+1) (c::r)=none∧∃q',body=some (false,q')):=λm hc body hbody=>by
    rw[hbody,hc,Vo,WY (by rw[AgE];omega),Do hS hs.tail,pre1];have hfh:Dm ⟨bif m then 6 else 5,0,[],0⟩=⟨bif m then 6 else 5,0,[],0⟩∧∀N,CA ⟨bif m then 6 else 5,0,[],N⟩=false:=by cases m<;>exact⟨rfl,λ_=>rfl⟩
    have hfn:∀N,Dm ⟨bif m then 6 else 5,0,[],N⟩=⟨bif m then 6 else 5,0,[],N⟩:=λN=>by cases m<;>rfl
    have hloop:∀o:Out (Bool×A2) Unit,YV P m none S r cs [] 1 g o→(r=[]∨∃d r',r=d::r'∧decide (d=Cu m)=false)→
      (∃f w,YL true P m r=some (f,w)∧I9 w S∧o = .ret (true,DJ S w (cs++f.flat.map Dm) (g||f.flat.any CA)))∨(YL true P m r=(none:Option (Fo×Aj))∧∃q',o = .ret (false,q')):=λo ho hr=>by
     rcases hr with rfl | ⟨d,r',rfl,hd⟩
     ·rcases ho with⟨G,w,q1,_,_⟩ | ⟨_,q2⟩
      ·exact absurd ((EY true P).2 _ _ _ _ _ q1).1 (by simp)
      ·exact .inr ⟨rfl,q2⟩
     ·rw[LD,hd];simp only[Agb];rcases ho with⟨G,w,q1,q2,q3⟩ | ⟨q1,q2⟩
      ·rw[q1];refine .inl ⟨_,w,rfl,q2,?_⟩;rw[q3,Ly _ _ Ke,AgO,List.any_cons,hfn,hfh.2,Ags,AgK,show(1:Int)-1+(G.cnt:Int)=G.cnt from by omega]
      ·rw[q1];exact .inr ⟨rfl,q2⟩
    have hrest:(r=[]∨∃d r',r=d::r'∧decide (d=Cu m)=false)→(∃f w,YL true P m r=some (f,w)∧I9 w S∧(bif m then Bs (Cj (LB3 F cs) F ([],1,S,(S.length:Int)-r.length,cs++[⟨bif m then 6 else 5,0,[],0⟩],g)) (BQ λ_=>Ii) else Bs (Cj (LB2 F cs) F (1,S,(S.length:Int)-r.length,cs++[⟨bif m then 6 else 5,0,[],0⟩],g)) (BQ λ_=>Ij))=some (true,DJ S w (cs++f.flat.map Dm) (g||f.flat.any CA)))∨(YL true P m r=(none:Option (Fo×Aj))∧∃q',(bif m then Bs (Cj (LB3 F cs) F ([],1,S,(S.length:Int)-r.length,cs++[⟨bif m then 6 else 5,0,[],0⟩],g)) (BQ λ_=>Ii) else Bs (Cj (LB2 F cs) F (1,S,(S.length:Int)-r.length,cs++[⟨bif m then 6 else 5,0,[],0⟩],g)) (BQ λ_=>Ij))=some (false,q')):=λhr=>by
     cases m with
     | true=>
      obtain⟨o,ho1,ho2⟩:=(ih r.length (by omega)).2.2 F P F r [] cs [] 1 g rfl hs.tail (by omega) (by omega) (by omega) (by simp;omega) (by decide) (by omega);simp only[Agg];have ho1':Cj (LB3 F cs) F ([],1,S,(S.length:Int)-r.length,cs++[⟨6,0,[],0⟩],g)=some o:=ho1;rw[Bw ho1'];rcases hloop o ho2 hr with⟨f,w,q1,q2,q3⟩ | ⟨q1,q',q2⟩
      ·exact .inl ⟨f,w,q1,q2,OO q3⟩
      ·exact .inr ⟨q1,q',OO q2⟩
     | false=>
      obtain⟨o,ho1,ho2⟩:=(ih r.length (by omega)).2.1 F P F r cs [] 1 g rfl hs.tail (by omega) (by omega) (by omega) (by simp;omega) (by decide) (by omega);simp only[Agb];have ho1':Cj (LB2 F cs) F (1,S,(S.length:Int)-r.length,cs++[⟨5,0,[],0⟩],g)=some o:=ho1;rw[Bw ho1'];rcases hloop o ho2 hr with⟨f,w,q1,q2,q3⟩ | ⟨q1,q',q2⟩
      ·exact .inl ⟨f,w,q1,q2,OO q3⟩
      ·exact .inr ⟨q1,q',OO q2⟩
    cases r with
    | nil=>
     simp only;rw[Bw rfl,AP rfl];exact hrest (.inl rfl)
    | cons d r'=>
     simp only
     cases hd:decide (d=Cu m) with
     | true=>
      simp only[Agg];rw[Bw rfl,Bd rfl];refine .inl ⟨_,r',by rw[LD,hd];rfl,hs.tail.tail,?_⟩;rw[Ly _ _ Ke];simp only[Fo.flat,Fo.cnt,AgO,List.map_nil,List.any_cons,List.any_nil,Ag3];rw[show((0:Nat):Int)=0 from rfl,hfh.1,hfh.2,Ag3]
     | false=>
      simp only[Agb];rw[Bw rfl,AP rfl];exact hrest (.inr ⟨d,r',rfl,hd⟩)
   cases he:decide (c=91) with
   | true=>
    simp only[AfY] at he;simp only[Agg];rw[Bw rfl,AP (p:=!true) rfl];exact hbr false he _ rfl
   | false=>
    simp only[Agb];rw[Bw rfl,Bd (p:=!false) rfl,show(false,DJ S (c::r) cs g).2=DJ S (c::r) cs g from rfl,Do hS hs,pre1];simp only
    cases hg:decide (c=123) with
    | true=>
     simp only[AfY] at hg;simp only[Agg];rw[Bw rfl];exact hbr true hg _ rfl
    | false=>
     simp only[Agb];rw[Bw rfl];exact hsc (λc' r' e=>by cases e;rw[he,hg];rfl) _
 refine⟨hV,?_,?_⟩
 ·intro F P L u x16 D k g hn hs hF hP hL hb hk1 hk2;obtain⟨P,rfl⟩:∃K,P=K+1:=⟨P-1,by omega⟩
  obtain⟨L,rfl⟩:∃K,L=K+1:=⟨L-1,by omega⟩
  have hsl:=hs.len;have hv:=hV F P u (x16++⟨5,0,[],k-1⟩::D) g hn hs hF (by omega) (by simp;omega);have hkp:Gp true false none u=some (none,u):=rfl;rcases V3 hS hs hk1 (by omega) hv with⟨q',hb1,hf⟩ | ⟨f,s2,q1,q2,h⟩
  ·refine⟨_,G5 hb1,?_⟩;rcases hf with hf | ⟨f,s2,hf,hno⟩
   ·refine .inr ⟨?_,q',rfl⟩;rw[DI,hkp];simp only[hf]
   ·exact YV.join hkp hf ((EY true P).1 _ _ _ hf).2 (.inr (.inr ⟨hno,q',rfl⟩))
  ·obtain⟨l1,ho⟩:=(EY true P).1 _ _ _ q1;have l2:=(Jp true P).1 _ _ _ q1;rcases h with⟨s3,e,hb1⟩ | ⟨s3,e,hb1⟩
   ·subst e;exact⟨_,G5 hb1,YV.join hkp q1 ho (.inl ⟨s3,rfl,q2.tail,rfl⟩)⟩
   ·subst e;simp only[Agd] at l1 l2;obtain⟨o,ho1,ho2⟩:=(ih s3.length (by omega)).2.1 F P L s3 x16 (D++f.flat.map Dm) (k+1) (g||f.flat.any CA) rfl q2.tail (by omega) (by omega) (by omega) (by rw[Age,Agj];omega) (by omega) (by omega);rw[show k+1-1=k from by omega] at ho1;exact⟨o,Na hb1 ho1,YV.join hkp q1 ho (.inr (.inl ⟨s3,rfl,ho2⟩))⟩
 ·intro F P L u last x16 D k g hn hs hF hP hL hb hk1 hk2;obtain⟨P,rfl⟩:∃K,P=K+1:=⟨P-1,by omega⟩
  obtain⟨L,rfl⟩:∃K,L=K+1:=⟨L-1,by omega⟩
  have hsl:=hs.len;rcases Ac9 (last:=last) (x16:=x16) (cs:=x16++⟨6,0,[],k-1⟩::D) (k:=k) (g:=g) hS hs (F:=F) (by omega) with⟨hk,q',hb1⟩ | ⟨t,s1,b1,b2,q0,hk,hs1,hl1,hb0⟩
  ·refine⟨_,G5 hb1,.inr ⟨?_,q',rfl⟩⟩;rw[DI,hk]
  ·have hv:=(ih s1.length (by omega)).1 F P s1 (x16++⟨6,0,[],k-1⟩::(D++[⟨4,0,t,0⟩])) g rfl hs1 (by omega) (by omega) (by simp;omega);rcases Aa5 (r:=(t,true,q0)) (b1:=b1) (b2:=b2) hS hs1 hk1 (by omega) (by omega) hv with⟨q',hb1,hf⟩ | ⟨f,s2,q1,q2,h⟩
   ·refine⟨_,G5 (hb0.trans hb1),?_⟩;rcases hf with hf | ⟨f,s2,hf,hno⟩
    ·refine .inr ⟨?_,q',rfl⟩;rw[DI,hk];simp only[hf]
    ·exact YV.join hk hf ((EY true P).1 _ _ _ hf).2 (.inr (.inr ⟨hno,q',rfl⟩))
   ·obtain⟨l1,ho⟩:=(EY true P).1 _ _ _ q1;have l2:=(Jp true P).1 _ _ _ q1;rcases h with⟨s3,e,hb1⟩ | ⟨s3,e,hb1⟩
    ·subst e;exact⟨_,G5 (hb0.trans hb1),YV.join hk q1 ho (.inl ⟨s3,rfl,q2.tail,rfl⟩)⟩
    ·subst e;simp only[Agd] at l1 l2;obtain⟨o,ho1,ho2⟩:=(ih s3.length (by omega)).2.2 F P L s3 t x16 (D++([⟨4,0,t,0⟩]++f.flat.map Dm)) (k+1) (g||f.flat.any CA) rfl q2.tail (by omega) (by omega) (by omega) (by rw[Age,Age,Agj,AgE];omega) (by omega) (by omega);rw[show k+1-1=k from by omega] at ho1;rw[show decide (1<k+1)=true from Agc (by omega)] at ho2;exact⟨o,Na (hb0.trans hb1) ho1,YV.join hk q1 ho (.inr (.inl ⟨s3,rfl,ho2⟩))⟩
theorem Vc {S:Aj}(hS:S.length≤100000){F P:Nat}(hF:2*S.length+6≤F)(hP:2*S.length+2≤P):VOk F P S S [] false:=
 (AaE hS S.length).1 F P S [] false rfl ⟨[],rfl⟩ (by omega) hP (by simp)
theorem Ac5:∀(d:Aj),d.all C3=true→Dt 0 d<10 ^ d.length:=by
 have key:∀(d:Aj) (a m:Nat),d.all C3=true→a<10 ^ m→Dt a d<10 ^ (m+d.length):=by
  intro d
  induction d with
  | nil=>intro a m _ h;simpa[Dt] using h
  | cons c d ih=>
   intro a m hd h;simp only[AgG,Agf] at hd;have hc:48≤c.toNat∧c.toNat≤57:=by have:=hd.1;simp[C3] at this;omega
   have:=ih (10*a+(c.toNat-48)) (m+1) hd.2 (by rw[Nat.pow_succ];omega);rw[Agd,show m+(d.length+1)=m+1+d.length from by omega];exact this
 intro d hd;have:=key d 0 0 hd (by decide);simpa using this
theorem Ac2 {d:Aj}(hd:d.all C3=true)(hl:d.length≤18):0≤QN d∧QN d<1000000000000000000:=by
 have h1:QN d=(Dt 0 d:Int):=KJ d 0 hd;have h2:=Ac5 d hd;have h3:10 ^ d.length≤10 ^ 18:=Nat.pow_le_pow_right (by decide) hl;have:(10:Nat) ^ 18=1000000000000000000:=by decide
 omega
def hd (m:Bool)(N:Int):Ac:=⟨bif m then 6 else 5,0,[],N⟩
theorem T7:∀(n:Nat) (s:Aj),s.length=n→Ds true s=match Ds false s with
  | none=>none
  | some (t,u)=>bif t.all LJ then some (t,u) else none:=by
 intro n
 induction n using Nat.strongRecOn with
 | ind n ih=>
  intro s hn
  cases s with
  | nil=>rfl
  | cons c r=>
   simp only[Agd] at hn;rw[Ee,Ee]
   cases h1:decide (c=34) with
   | true=>rfl
   | false=>
    simp only[Agb,Agp,Agx]
    cases h3:decide (c=92) with
    | true=>
     have hc:LJ c=true:=by simp only[AfY] at h3;subst h3;rfl
     rw[hc]
     cases r with
     | nil=>rfl
     | cons d r'=>
      simp only[Agl,Agb,Agg];simp only[Agd] at hn
      cases h4:(decide (d=34)||decide (d=92)) with
      | false=>rfl
      | true=>
       have hd:LJ d=true:=by
        simp only[Ag4,AfY] at h4;rcases h4 with e | e<;>subst e<;>rfl
       simp only[Agg];rw[ih r'.length (by omega) r' rfl]
       cases Ds false r' with
       | none=>rfl
       | some q=>
        obtain⟨t,u⟩:=q;simp only[AgG,hd,Agp]
        cases t.all LJ<;>rfl
    | false=>
     simp only[Agb];rw[ih r.length (by omega) r rfl]
     cases hc:LJ c with
     | false=>
      simp only[Ag2,Agg]
      cases Ds false r with
      | none=>rfl
      | some q=>obtain⟨t,u⟩:=q;simp[hc]
     | true=>
      simp only[Agl,Agb]
      cases Ds false r with
      | none=>rfl
      | some q=>
       obtain⟨t,u⟩:=q;simp only[AgG,hc,Agp]
       cases t.all LJ<;>rfl
theorem AaK (m:Bool)(last:Option Aj)(s:Aj):Gp true m last s=match Gp false m none s with
  | none=>none
  | some (k,u)=>bif BN m last k then some (k,u) else none:=by
 cases m with
 | false=>rfl
 | true=>
  cases s with
  | nil=>rfl
  | cons c r=>
   unfold Gp;simp only[Agg,Agp,Agx,Agb]
   cases hc:decide (c=34) with
   | false=>rfl
   | true=>
    simp only[Agg];rw[T7 _ r rfl]
    cases Ds false r with
    | none=>rfl
    | some q=>
     obtain⟨t,u⟩:=q;simp only
     cases ht:t.all LJ with
     | false=>
      have hk:BN true last (some t)=false:=by simp[BN,ht]
      simp only[Agb]
      cases u with
      | nil=>rfl
      | cons d u'=>
       simp only
       cases decide (d=58) with
       | false=>rfl
       | true=>simp only[Agg,hk];rfl
     | true=>
      simp only[Agg]
      cases u with
      | nil=>cases BN true last (some t)<;>rfl
      | cons d u'=>
       simp only
       cases decide (d=58) with
       | false=>cases BN true last (some t)<;>rfl
       | true=>cases hk:BN true last (some t)<;>simp[hk]
def plr (c:Ac):Bool:=bif decide (c.fKind=4) then decide (c.fInt=0)&&decide (c.fN=0) else pl c
def Fo.rw:Bool→Fo→Bool
 | _,.nil=>true
 | m,.cell k c r=>(k.isSome ==m)&&plr c&&!decide (0<c.fN)&&r.rw m
 | m,.node k c kids r=>(k.isSome ==m)&&plr c&&decide (0<c.fN)&&decide (c.fN=kids.cnt)&&kids.rw (decide (c.fKind=6))&&r.rw m
theorem ZL {f:Fo}(h:f.one=true)(m:Bool)(last key:Option Aj)(r:Fo):(f.put key r).wf m last=(BN m last key&&f.wf false none&&r.wf m key):=by
 cases f with
 | nil=>cases h
 | cell k c r'=>
  cases k with
  | some _=>cases h
  | none=>cases r' with
   | nil=>simp[Fo.put,Fo.wf,BN,Bool.and_assoc]
   | cell _ _ _=>cases h
   | node _ _ _ _=>cases h
 | node k c kids r'=>
  cases k with
  | some _=>cases h
  | none=>cases r' with
   | nil=>simp[Fo.put,Fo.wf,BN,Bool.and_assoc]
   | cell _ _ _=>cases h
   | node _ _ _ _=>cases h
theorem ZM {f:Fo}(h:f.one=true)(m:Bool)(key:Option Aj)(r:Fo):(f.put key r).rw m=((key.isSome ==m)&&f.rw false&&r.rw m):=by
 cases f with
 | nil=>cases h
 | cell k c r'=>
  cases k with
  | some _=>cases h
  | none=>cases r' with
   | nil=>simp[Fo.put,Fo.rw,Bool.and_assoc]
   | cell _ _ _=>cases h
   | node _ _ _ _=>cases h
 | node k c kids r'=>
  cases k with
  | some _=>cases h
  | none=>cases r' with
   | nil=>simp[Fo.put,Fo.rw,Bool.and_assoc]
   | cell _ _ _=>cases h
   | node _ _ _ _=>cases h
theorem W6 (m:Bool)(g:Fo):(nd m g).wf false none=g.wf m none∧(nd m g).rw false=g.rw m:=by
 unfold nd
 cases hd:decide (g.cnt=0) with
 | true=>
  simp only[AfY] at hd;rw[Ke hd]
  cases m<;>exact⟨rfl,rfl⟩
 | false=>
  simp only[AfZ] at hd;have h1:decide ((0:Int)<(g.cnt:Int))=true:=Agc (by omega);have h2:decide ((0:Int)≤(g.cnt:Int))=true:=Agc (by omega)
  cases m<;>simp[Fo.wf,Fo.rw,BN,pl,plr]<;>omega
theorem Yp {m:Bool}{last k:Option Aj}{s u:Aj}{b:Bool}(h:Gp b m last s=some (k,u)):(k.isSome ==m)=true:=by
 unfold Gp at h
 cases m with
 | false=>cases h;rfl
 | true=>
  simp only[Agg] at h
  cases s with
  | nil=>cases h
  | cons c r=>
   simp only at h
   cases h1:decide (c=34) with
   | false=>rw[h1] at h;cases h
   | true=>
    rw[h1] at h;simp only[Agg] at h
    cases h2:Ds b r with
    | none=>rw[h2] at h;cases h
    | some q=>
     obtain⟨t,w⟩:=q;rw[h2] at h;simp only at h
     cases h3:(b&&!BN true last (some t)) with
     | true=>rw[h3] at h;cases h
     | false=>
      rw[h3] at h;simp only[Agb] at h
      cases w with
      | nil=>cases h
      | cons d w'=>
       simp only at h
       cases h4:decide (d=58) with
       | false=>rw[h4] at h;cases h
       | true=>rw[h4] at h;cases h;rfl
theorem SC:∀F:Nat,(∀s,GW true F s=(match GW false F s with
   | none=>none
   | some (f,u)=>bif f.wf false none then some (f,u) else none)∧∀f u,GW false F s=some (f,u)→f.rw false=true)∧
  (∀m last last' s,Eb true F m last s=(match Eb false F m last' s with
   | none=>none
   | some (g,u)=>bif g.wf m last then some (g,u) else none)∧∀g u,Eb false F m last' s=some (g,u)→g.rw m=true)
 | 0=>⟨λs=>⟨by rw[GW.eq_def,GW.eq_def],(λf u h=>by rw[GW.eq_def] at h;cases h)⟩,λm last last' s=>⟨by rw[Eb.eq_def,Eb.eq_def],(λg u h=>by rw[Eb.eq_def] at h;cases h)⟩⟩
 | F+1=>by
  obtain⟨ih1,ih2⟩:=SC F;have lfw:∀k i t,pl ⟨k,i,t,0⟩=true→(lf k i t).wf false none=true:=λk i t h=>by simp[lf,Fo.wf,BN,h]
  have lfr:∀k i t,plr ⟨k,i,t,0⟩=true→(lf k i t).rw false=true:=λk i t h=>by simp[lf,Fo.rw,h]
  constructor
  ·intro s;rw[Ea,Ea]
   cases h1:pre [110,117,108,108] s with
   | some r=>exact⟨rfl,λf u h=>by cases h;rfl⟩
   | none=>
   simp only
   cases h2:pre [116,114,117,101] s with
   | some r=>exact⟨rfl,λf u h=>by cases h;rfl⟩
   | none=>
   simp only
   cases h3:pre [102,97,108,115,101] s with
   | some r=>exact⟨rfl,λf u h=>by cases h;rfl⟩
   | none=>
   simp only
   cases s with
   | nil=>exact⟨rfl,λf u h=>by cases h⟩
   | cons c r=>
   simp only
   cases h4:decide (c=34) with
   | true=>
    simp only[Agg];rw[T7 _ r rfl]
    cases hq:Ds false r with
    | none=>exact⟨rfl,λf u h=>by cases h⟩
    | some q=>
     obtain⟨t,u⟩:=q;simp only;have e:(lf 4 0 t).wf false none=t.all LJ:=by simp[lf,Fo.wf,BN,pl]
     rw[e];refine⟨by cases t.all LJ<;>rfl,λf u' h=>by cases h;exact lfr 4 0 t rfl⟩
   | false=>
   simp only[Agb]
   cases h5:(decide (c=91)||decide (c=123)) with
   | false=>
    simp only[Agb]
    cases hi:J2 (c::r) with
    | none=>exact⟨rfl,λf u h=>by cases h⟩
    | some q=>
     obtain⟨f,u⟩:=q;have hf:f.wf false none=true∧f.rw false=true:=by
      unfold J2 at hi;simp only at hi
      cases hc:GB (decide ((c::r).head? =some 45)) (Dd (bif decide ((c::r).head? =some 45) then(c::r).tail else c::r)).1 with
      | false=>rw[hc] at hi;cases hi
      | true=>rw[hc] at hi;cases hi;exact⟨rfl,rfl⟩
     refine⟨by simp only[hf.1];rfl,λf' u' h=>by cases h;exact hf.2⟩
   | true=>
   simp only[Agg]
   cases r with
   | nil=>exact⟨rfl,λf u h=>by cases h⟩
   | cons d r'=>
   simp only
   cases h6:decide (d=Cu (decide (c=123))) with
   | true=>
    simp only[Agg,(W6 _ _).1,Fo.wf];exact⟨trivial,λf u h=>by cases h;rw[(W6 _ _).2];rfl⟩
   | false=>
   simp only[Agb];obtain⟨e1,e2⟩:=ih2 (decide (c=123)) none none (d::r');rw[e1]
   cases hq:Eb false F (decide (c=123)) none (d::r') with
   | none=>exact⟨rfl,λf u h=>by cases h⟩
   | some q=>
    obtain⟨g,u⟩:=q;simp only[(W6 _ _).1];refine⟨by cases g.wf (decide (c=123)) none<;>rfl,λf u' h=>by cases h;rw[(W6 _ _).2];exact e2 g u hq⟩
  ·intro m last last' s;rw[DI,DI,AaK m last s];have hkl:Gp false m last' s=Gp false m none s:=by
    cases m with
    | false=>rfl
    | true=>unfold Gp;simp only[Agx]
   rw[hkl]
   cases hk:Gp false m none s with
   | none=>exact⟨rfl,λf u h=>by cases h⟩
   | some q=>
   obtain⟨key,s1⟩:=q;have hks:=Yp hk;simp only;obtain⟨e1,e2⟩:=ih1 s1
   cases hf:GW false F s1 with
   | none=>
    rw[hf] at e1;refine⟨?_,λf u h=>by cases h⟩
    cases BN m last key with
    | false=>rfl
    | true=>simp only[Agg,e1]
   | some q=>
   obtain⟨f,s2⟩:=q;have ho:=((EY false F).1 _ _ _ hf).2;have hfr:=e2 f s2 hf;rw[hf] at e1;simp only at e1;simp only
   cases s2 with
   | nil=>
    refine⟨?_,λf u h=>by cases h⟩
    cases BN m last key with
    | false=>rfl
    | true=>simp only[Agg,e1];cases f.wf false none<;>rfl
   | cons c s3=>
   simp only
   cases h3:decide (c=Cu m) with
   | true=>
    simp only[Agg,ZL ho,Fo.wf,Ag1];refine⟨?_,λg u h=>by cases h;rw[ZM ho,hks,hfr];rfl⟩
    cases BN m last key with
    | false=>rfl
    | true=>simp only[Agg,e1,Agp];cases f.wf false none<;>simp[h3]
   | false=>
   simp only[Agb]
   cases h4:decide (c=44) with
   | false=>
    refine⟨?_,λg u h=>by cases h⟩
    cases BN m last key with
    | false=>rfl
    | true=>simp only[Agg,e1];cases f.wf false none<;>simp[h3,h4]
   | true=>
   simp only[Agg];obtain⟨e3,e4⟩:=ih2 m key key s3
   cases hq:Eb false F m key s3 with
   | none=>
    rw[hq] at e3;refine⟨?_,λg u h=>by cases h⟩
    cases BN m last key with
    | false=>rfl
    | true=>simp only[Agg,e1];cases f.wf false none<;>simp[h3,h4,e3]
   | some q=>
    obtain⟨g,u⟩:=q;rw[hq] at e3;simp only at e3;simp only[ZL ho];refine⟨?_,λg' u' h=>by cases h;rw[ZM ho,hks,hfr,e4 g u hq];rfl⟩
    cases BN m last key with
    | false=>rfl
    | true=>
     simp only[Agg,e1,Agp]
     cases f.wf false none with
     | false=>rfl
     | true=>
      simp only[Agg,h3,h4,Agb,e3,Agp]
      cases g.wf m key<;>rfl
end Go.Proofs.YtfobhhegpkinaaaGreatDoor
