/-
  Texts of the proof, put together: WUg, OkQueueKeeps, LvA, LvB, LvC, LvD, LvE, LvF, LvG, LvH, LvI, LvJ, LvK, LvL, LvM, LvN, LvO, LvP, LuA, PN, PO, LuB, LuC, LuD, LuE, LuF, LuG, LuH, LuI, LuJ, LuL, LuM, LuN, LuO, LuP, LuQ, LqA, LqB, LqC, LqD, LqE, LqF, LuR, LuK, LuS.
-/
import Derived.Test.YthbbedliepkakaaGreatDoorQK3
import GoSem.ClaimData
namespace Go.Proofs.YthbbedliepkakaaGreatDoor.Q
open Go Go.RowKit
set_option linter.unusedVariables false
set_option linter.unusedSimpArgs false
set_option maxRecDepth 100000
set_option maxHeartbeats 4000000
theorem QN (F:Nat)(p:AG)(l:(List AT))(id:Ay)(r:Bool)(h:IP F p l id=some r):Fn Tryz.prog GE 3 [B2 (Ao p),BE 11 (List.map A4 l),rS id] [] (λR H=>R=rB r∧H=[]):=by
 refine enter (n:=142) Tryz.func3 Aa Tryz.ntmps3 Aa (λw Z=>?_);refine Bi (l':=[(0,B2 (Ao p)),(1,BE 11 (List.map A4 l)),(2,rS id)]) (H':=[]) Aa Aa ?_;unfold IP at h;refine At (BT Aa Aa (λb1=>?_));refine wv (r:=rB false) (Aj Aa) (A8 (A1 ?_));obtain⟨g2,h3⟩:=AR h;refine AO [(1,BE 11 (List.map A4 l)),(2,rS id),(3,rv (.pointer (some ⟨b1,0,none⟩))),(24,rB ((!(ov (CY F l)))||(decide (300<(id.length:Int)))))] [.blk b1 (Ao p) 23] ?_ ?_
 ·refine As (wm Aa (Ky Tryz.call8 (OK F l (ov (CY F l)) (RR g2)) Aa (wv (Cz Aa) (wm Aa (AP (!(ov (CY F l))) (λc4=>?_) (λc4=>?_))))))
  ·refine wf c4 (wf c4 (wf c4 (wv (r:=rB true) (Ar (b:=!(ov (CY F l))) Aa c4 Aa) (Aq ?_))));exact C3 c4
  ·refine wo c4 (wm Aa (wo c4 (wv (BU GO Aa) (wo c4 (wv (Du Aa Aa) (GF Aa c4 Aa (Aq ?_)))))));exact C3 c4
 refine AC (b:=((!(ov (CY F l)))||(decide (300<(id.length:Int))))) Aa (λc5=>?_) (λc5=>?_)
 ·have h6:=AV c5 h3;refine At ?_;obtain⟨r7,e9,h8⟩:=Bb h6;refine Ky Tryz.call9 (Ie F r7 e9) Aa (wa Aa (A8 (A7 (Ak ?_))));obtain rfl:=AI h8;exact AA (BZ OX (Ba Aa)) (sS sN) ⟨Aa,Aa⟩
 ·have gS:=AW c5 h3;refine AH (Bm (At (wv (Bx (i:=0) Tryz.isAgg23 Rm Aa Aa Aa Aa) (AP ((Ix p).isSome) (λgc=>?_) (λgc=>?_)))))
  ·have c2:=AV gc gS;obtain⟨hl,c3,c6⟩:=Bb c2;refine DZ (Hr:=[.blk b1 (Ao p) 23]) Tryz.call10 (Ph p hl c3) Aa (Wr _) Aa ?_;rintro _ _ ⟨hg,hb,hR,gd,rfl,rfl⟩;refine wm Aa (wv (AM Aa Aa) (wv (AM Aa Aa) (wa Aa (wa Aa (A8 (A1 (AO [(1,BE 11 (List.map A4 l)),(2,rS id),(3,rv (.pointer (some ⟨b1,0,none⟩))),(7,rv (.pointer (some ⟨hg,0,none⟩))),(8,rI .i64 0),(36,rB false)] [.blk hg [rI .i64 hl.1.1.fPolicy.fVisible,rI .i64 hl.1.1.fPolicy.fReceives,rv (.map (some hb)),rv hR,rI .i64 hl.1.1.fNow,rI .i64 hl.1.1.fArrived] 61,.map hb (AB (mP hb) hl.1.1.fWaiting),.row hR 33 7 (List.map Af hl.1.1.fDead),.pool hb gd 71 (List.map Ad hl.1.2),.blk b1 (Ao p) 23] ?_ ?_)))))))
   ·refine As (wm Aa (wv (G7 Aa Aa) (wm Aa (AZ (b:=!decide (0=0)) Aa Aa (JE (by decide)) (wm Aa (AZ (b:=!decide (0=0)) Aa Aa (JE (by decide)) (wv (r:=rB false) (Sd ⟨_,Uq⟩ Aa) (wv (r:=rB false) (AE (b:=!decide (0=0)) Aa (JE (by decide)) Aa) (Aq ?_)))))))));exact wt
   refine CH Aa Aa (AH (Bm (At (wv (r:=rB false) (Aj Aa) (BI (wv (r:=rI .i64 0) (Aj Aa) (A8 (A1 (At (wv (r:=rI .i64 0) (Aj Aa) (A8 (Bc (EL (H2:=[.blk hg [rI .i64 hl.1.1.fPolicy.fVisible,rI .i64 hl.1.1.fPolicy.fReceives,rv (.map (some hb)),rv hR,rI .i64 hl.1.1.fNow,rI .i64 hl.1.1.fArrived] 61,.map hb (AB (mP hb) hl.1.1.fWaiting),.pool hb gd 71 (List.map Ad hl.1.2),.blk b1 (Ao p) 23,.row hR 33 7 (List.map Af hl.1.1.fDead)]) ((Ae (i:=0) Aa).trans (Wo _ ((Ae (i:=0) Aa).trans (Wo _ ((Ae (i:=1) Aa).trans (Wo _ ((Ae (i:=1) Aa).trans (Wo _ (Wr _))))))))) ?_)))))))))))));obtain⟨c7,c8,h2⟩:=Bb c6;refine Ci (S:=Nat×(Bool×Int×Int×Int×Int×(List Ap)×Int×Int×(List (Ay×Int))×(List Ab))×(Value×Value)) (V:=((List Ab))×(Value)) 0 (λσ=>BB (λσ=>BY F p l id σ.1 σ.2.1 σ.2.2.1 σ.2.2.2.1 σ.2.2.2.2.1 σ.2.2.2.2.2.1 σ.2.2.2.2.2.2.1 σ.2.2.2.2.2.2.2.1 σ.2.2.2.2.2.2.2.2.1 σ.2.2.2.2.2.2.2.2.2) σ.1 σ.2.1=some c7) (λσ=>[(1,BE 11 (List.map A4 l)),(2,rS id),(3,rv (.pointer (some ⟨b1,0,none⟩))),(7,rv (.pointer (some ⟨hg,0,none⟩))),(9,rB σ.2.1.1),(10,rI .i64 σ.2.1.2.1),(11,rI .i64 σ.2.1.2.2.1)]) (λσ=>[.blk hg [rI .i64 σ.2.1.2.2.2.1,rI .i64 σ.2.1.2.2.2.2.1,rv (.map (some hb)),rv σ.2.2.1,rI .i64 σ.2.1.2.2.2.2.2.2.1,rI .i64 σ.2.1.2.2.2.2.2.2.2.1] 61,.map hb (AB (mP hb) σ.2.1.2.2.2.2.2.2.2.2.1),.pool hb σ.2.2.2 71 (List.map Ad σ.2.1.2.2.2.2.2.2.2.2.2),.blk b1 (Ao p) 23,.row σ.2.2.1 33 7 (List.map Af σ.2.1.2.2.2.2.2.1)]) (λσ=>σ.1) (F,(false,0,0,hl.1.1.fPolicy.fVisible,hl.1.1.fPolicy.fReceives,hl.1.1.fDead,hl.1.1.fNow,hl.1.1.fArrived,hl.1.1.fWaiting,hl.1.2),(hR,gd)) c8 (AS.c Aa (AS.c Aa (AS.c5 Aa Aa Aa Aa Aa AS.nil))) (sC (sC (sC (sC (sC sN))))) (λσ=>EG F σ.1=some r) (λσ=>[]) (λσ=>[.pool hb σ.2 71 (List.map Ad σ.1)]) ?_ ?_
   ·rintro⟨vs,⟨hh,h5,ha,hJ,hK,hL,hN,hO,hP,hI⟩,⟨hG,hQ⟩⟩ c9;refine Bi (l':=[(1,BE 11 (List.map A4 l)),(2,rS id),(3,rv (.pointer (some ⟨b1,0,none⟩))),(7,rv (.pointer (some ⟨hg,0,none⟩))),(9,rB hh),(10,rI .i64 h5),(11,rI .i64 ha)]) (H':=[.blk hg [rI .i64 hJ,rI .i64 hK,rv (.map (some hb)),rv hG,rI .i64 hN,rI .i64 hO] 61,.map hb (AB (mP hb) hP),.pool hb hQ 71 (List.map Ad hI),.blk b1 (Ao p) 23,.row hG 33 7 (List.map Af hL)]) Aa Aa ?_;obtain⟨cA,rfl,hu,hX,hw⟩:=Hf c9;replace hX:BY F p l id hh h5 ha hJ hK hL hN hO hP hI=some hu:=hX;unfold BY at hX;refine A1 ?_;obtain⟨cB,gT⟩:=AR hX;refine AO [(1,BE 11 (List.map A4 l)),(2,rS id),(3,rv (.pointer (some ⟨b1,0,none⟩))),(7,rv (.pointer (some ⟨hg,0,none⟩))),(9,rB hh),(10,rI .i64 h5),(11,rI .i64 ha),(53,rB ((decide (ha<(l.length:Int)))&&(!decide (((Ac l ha).fKind)=5))))] [.blk hg [rI .i64 hJ,rI .i64 hK,rv (.map (some hb)),rv hG,rI .i64 hN,rI .i64 hO] 61,.map hb (AB (mP hb) hP),.pool hb hQ 71 (List.map Ad hI),.blk b1 (Ao p) 23,.row hG 33 7 (List.map Af hL)] ?_ ?_
    ·refine As (wm Aa (wm Aa (wv (CF (ys:=l) (enc:=A4) On Aa) (wv (EK Aa Aa) (wm Aa (AP (decide (ha<(l.length:Int))) (λhp=>?_) (λhp=>?_)))))))
     ·refine wo hp (wm Aa (wo hp (wm Aa (wo hp (wv (ED (enc:=A4) (ys:=l) On MV Aa Aa (JI cB hp)) (wo hp (wv (BF Dr Aa Cc Aa Aa) (wo hp (wv (Em Cq Aa Aa) (wo hp (wv (G7 Aa Aa) (Gh Aa hp Aa (Aq ?_)))))))))))));exact C3 hp
     ·refine wf hp (wf hp (wf hp (wf hp (wf hp (wf hp (wv (r:=rB false) (AE (b:=decide (ha<(l.length:Int))) Aa hp Aa) (Aq ?_)))))));exact C3 hp
    refine AC (b:=((decide (ha<(l.length:Int)))&&(!decide (((Ac l ha).fKind)=5)))) Aa (λge=>?_) (λge=>?_)
    ·have cC:=AV ge gT;refine AH (Bm (Cu (S:=(Bool×Int×Int×Int×(List Ap)×Int×Int×(List (Ay×Int))×(List Ab))×(Value×Value)) (λσ=>BL ha σ.1.1 σ.1.2.1 σ.1.2.2.1 σ.1.2.2.2.1 σ.1.2.2.2.2.1 σ.1.2.2.2.2.2.1 σ.1.2.2.2.2.2.2.1 σ.1.2.2.2.2.2.2.2.1 σ.1.2.2.2.2.2.2.2.2=some hu) (λσ=>[(1,BE 11 (List.map A4 l)),(2,rS id),(3,rv (.pointer (some ⟨b1,0,none⟩))),(7,rv (.pointer (some ⟨hg,0,none⟩))),(9,rB σ.1.1),(10,rI .i64 σ.1.2.1),(11,rI .i64 ha)]) (λσ=>[.blk hg [rI .i64 σ.1.2.2.1,rI .i64 σ.1.2.2.2.1,rv (.map (some hb)),rv σ.2.1,rI .i64 σ.1.2.2.2.2.2.1,rI .i64 σ.1.2.2.2.2.2.2.1] 61,.map hb (AB (mP hb) σ.1.2.2.2.2.2.2.2.1),.pool hb σ.2.2 71 (List.map Ad σ.1.2.2.2.2.2.2.2.2),.blk b1 (Ao p) 23,.row σ.2.1 33 7 (List.map Af σ.1.2.2.2.2.1)]) ?_ ?_))
     ·refine Bc (At (wm Aa (wm Aa ?_)));obtain⟨cD,gU⟩:=AR cC;refine wv (ED (enc:=A4) (ys:=l) On MV Aa Aa cD) (wv (Jr Tryz.isAgg35 MV Aa Aa Aa) (Eu (cs:=[rI .i64 0,rI .i64 0,rI .i64 0,rS ([]:Ay),rS ([]:Ay),rS ([]:Ay),rS ([]:Ay),rI .i64 0,rS ([]:Ay),rv (.slice none 0 0),rS ([]:Ay)]) Tryz.zeroValue35 Aa Aa (λhk=>?_)));refine CP (i:=0) MV Aa Aa Aa (CI.c Aa) Aa Aa (cs':=[rI .i64 ((Ac l ha).fKind),rI .i64 ((Ac l ha).fNow),rI .i64 ((Ac l ha).fN),rS (((Ac l ha).fEvent).fID),rS (((Ac l ha).fEvent).fTenant),rS (((Ac l ha).fEvent).fSource),rS (((Ac l ha).fEvent).fKey),rI .i64 (((Ac l ha).fEvent).fAt),rS (((Ac l ha).fEvent).fCause),BE 4 (List.map An (((Ac l ha).fEvent).fBody)),rS ((Ac l ha).fReceipt)]) Aa (H':=[.blk hk [rI .i64 ((Ac l ha).fKind),rI .i64 ((Ac l ha).fNow),rI .i64 ((Ac l ha).fN),rS (((Ac l ha).fEvent).fID),rS (((Ac l ha).fEvent).fTenant),rS (((Ac l ha).fEvent).fSource),rS (((Ac l ha).fEvent).fKey),rI .i64 (((Ac l ha).fEvent).fAt),rS (((Ac l ha).fEvent).fCause),BE 4 (List.map An (((Ac l ha).fEvent).fBody)),rS ((Ac l ha).fReceipt)] 35,.blk hg [rI .i64 hJ,rI .i64 hK,rv (.map (some hb)),rv hG,rI .i64 hN,rI .i64 hO] 61,.map hb (AB (mP hb) hP),.pool hb hQ 71 (List.map Ad hI),.blk b1 (Ao p) 23,.row hG 33 7 (List.map Af hL)]) Aa (A8 (A1 (At (wv (Ai Dr Aa Cc Aa Aa) (wv (Aw (i:=0) Cq Aa Aa Aa) (wv (B6 Aa Aa) (A8 (AC (b:=decide (((Ac l ha).fKind)=1)) Aa (λgf=>?_) (λgf=>?_)))))))))
      ·have cE:=AV gf gU;refine At (wm Aa (wv (Ai Dr Aa Cc Aa Aa) (wv (Aw (i:=0) Cq Aa Aa Aa) (wv (Ai Dr Aa Cc Aa Aa) (wv (Aw (i:=0) Cq Aa Aa Aa) ?_)))));obtain⟨hf,cF,cG⟩:=Bb cE;refine DZ (Hr:=[.blk hk [rI .i64 ((Ac l ha).fKind),rI .i64 ((Ac l ha).fNow),rI .i64 ((Ac l ha).fN),rS (((Ac l ha).fEvent).fID),rS (((Ac l ha).fEvent).fTenant),rS (((Ac l ha).fEvent).fSource),rS (((Ac l ha).fEvent).fKey),rI .i64 (((Ac l ha).fEvent).fAt),rS (((Ac l ha).fEvent).fCause),BE 4 (List.map An (((Ac l ha).fEvent).fBody)),rS ((Ac l ha).fReceipt)] 35,.blk b1 (Ao p) 23]) Tryz.call11 (HU F hg hb hG hQ (Ah.mk (AG.mk hJ hK) hP hL hN hO) hI ((Ac l ha).fNow) ((Ac l ha).fN) hf cF) Aa ((Ae (i:=1) Aa).trans (Wo _ ((Ae (i:=1) Aa).trans (Wo _ ((Ae (i:=3) Aa).trans (Wo _ ((Ae (i:=1) Aa).trans (Wo _ (Wr _))))))))) Aa ?_;rintro _ _ ⟨ht,hH,rfl,rfl⟩;refine wa Aa (BI (wm Aa (wv (CF (ys:=hf.1) (enc:=AJ) Ku Aa) (wv (r:=rI .i64 0) (Ax Aa) (A8 (Bc ?_))))));obtain⟨cH,cI,gV⟩:=Bb cG;refine Ci (S:=Nat×(Int×Int)×(Unit)) (V:=(Int×Int×Bool)×(Unit)) 2 (λσ=>BB (λσ=>B0 p id hh hf σ.1 σ.2) σ.1 σ.2.1=some cH) (λσ=>[(1,BE 11 (List.map A4 l)),(2,rS id),(3,rv (.pointer (some ⟨b1,0,none⟩))),(7,rv (.pointer (some ⟨hg,0,none⟩))),(9,rB hh),(10,rI .i64 σ.2.1.1),(11,rI .i64 ha),(12,rv (.pointer (some ⟨hk,0,none⟩))),(13,BE 9 (List.map AJ hf.1)),(70,rI .i64 (hf.1.length:Int)),(71,rI .i64 σ.2.1.2)]) (λσ=>[.blk hg [rI .i64 hf.2.1.fPolicy.fVisible,rI .i64 hf.2.1.fPolicy.fReceives,rv (.map (some hb)),rv ht,rI .i64 hf.2.1.fNow,rI .i64 hf.2.1.fArrived] 61,.map hb (AB (mP hb) hf.2.1.fWaiting),.row ht 33 7 (List.map Af hf.2.1.fDead),.pool hb hH 71 (List.map Ad hf.2.2),.blk hk [rI .i64 ((Ac l ha).fKind),rI .i64 ((Ac l ha).fNow),rI .i64 ((Ac l ha).fN),rS (((Ac l ha).fEvent).fID),rS (((Ac l ha).fEvent).fTenant),rS (((Ac l ha).fEvent).fSource),rS (((Ac l ha).fEvent).fKey),rI .i64 (((Ac l ha).fEvent).fAt),rS (((Ac l ha).fEvent).fCause),BE 4 (List.map An (((Ac l ha).fEvent).fBody)),rS ((Ac l ha).fReceipt)] 35,.blk b1 (Ao p) 23]) (λσ=>σ.1) (F,(h5,0),()) cI (AS.c Aa (AS.c5 Aa Aa Aa Aa Aa (AS.c5 Aa Aa Aa Aa Aa AS.nil))) (sC (sC (sC (sC (sC (sC sN)))))) (λσ=>EF F l id hh ha hf σ.1.1 σ.1.2.1 σ.1.2.2=some hu) (λσ=>[(1,BE 11 (List.map A4 l)),(2,rS id),(3,rv (.pointer (some ⟨b1,0,none⟩))),(7,rv (.pointer (some ⟨hg,0,none⟩))),(9,rB hh),(10,rI .i64 σ.1.1),(11,rI .i64 ha),(12,rv (.pointer (some ⟨hk,0,none⟩))),(13,BE 9 (List.map AJ hf.1)),(70,rI .i64 (hf.1.length:Int)),(71,rI .i64 σ.1.2.1),(72,rB σ.1.2.2)]) (λσ=>[.blk hg [rI .i64 hf.2.1.fPolicy.fVisible,rI .i64 hf.2.1.fPolicy.fReceives,rv (.map (some hb)),rv ht,rI .i64 hf.2.1.fNow,rI .i64 hf.2.1.fArrived] 61,.map hb (AB (mP hb) hf.2.1.fWaiting),.row ht 33 7 (List.map Af hf.2.1.fDead),.pool hb hH 71 (List.map Ad hf.2.2),.blk hk [rI .i64 ((Ac l ha).fKind),rI .i64 ((Ac l ha).fNow),rI .i64 ((Ac l ha).fN),rS (((Ac l ha).fEvent).fID),rS (((Ac l ha).fEvent).fTenant),rS (((Ac l ha).fEvent).fSource),rS (((Ac l ha).fEvent).fKey),rI .i64 (((Ac l ha).fEvent).fAt),rS (((Ac l ha).fEvent).fCause),BE 4 (List.map An (((Ac l ha).fEvent).fBody)),rS ((Ac l ha).fReceipt)] 35,.blk b1 (Ao p) 23]) ?_ ?_
       ·rintro⟨vt,⟨h4,hq⟩,⟨⟩⟩ cJ;refine Bi (l':=[(1,BE 11 (List.map A4 l)),(2,rS id),(3,rv (.pointer (some ⟨b1,0,none⟩))),(7,rv (.pointer (some ⟨hg,0,none⟩))),(9,rB hh),(10,rI .i64 h4),(11,rI .i64 ha),(12,rv (.pointer (some ⟨hk,0,none⟩))),(13,BE 9 (List.map AJ hf.1)),(70,rI .i64 (hf.1.length:Int)),(71,rI .i64 hq)]) (H':=[.blk hg [rI .i64 hf.2.1.fPolicy.fVisible,rI .i64 hf.2.1.fPolicy.fReceives,rv (.map (some hb)),rv ht,rI .i64 hf.2.1.fNow,rI .i64 hf.2.1.fArrived] 61,.map hb (AB (mP hb) hf.2.1.fWaiting),.row ht 33 7 (List.map Af hf.2.1.fDead),.pool hb hH 71 (List.map Ad hf.2.2),.blk hk [rI .i64 ((Ac l ha).fKind),rI .i64 ((Ac l ha).fNow),rI .i64 ((Ac l ha).fN),rS (((Ac l ha).fEvent).fID),rS (((Ac l ha).fEvent).fTenant),rS (((Ac l ha).fEvent).fSource),rS (((Ac l ha).fEvent).fKey),rI .i64 (((Ac l ha).fEvent).fAt),rS (((Ac l ha).fEvent).fCause),BE 4 (List.map An (((Ac l ha).fEvent).fBody)),rS ((Ac l ha).fReceipt)] 35,.blk b1 (Ao p) 23]) Aa Aa ?_;obtain⟨cK,rfl,gg,hS,gh⟩:=Hf cJ;replace hS:B0 p id hh hf h4 hq=some gg:=hS;unfold B0 at hS;refine At (wv (EK Aa Aa) (A8 (A1 (AC (b:=decide (hq<(hf.1.length:Int))) Aa (λgi=>?_) (λgi=>?_)))))
        ·have cL:=AV gi hS;refine AH (Bm (Cu (S:=(Int)×(Unit)) (λσ=>CZ hq σ.1=some gg) (λσ=>[(1,BE 11 (List.map A4 l)),(2,rS id),(3,rv (.pointer (some ⟨b1,0,none⟩))),(7,rv (.pointer (some ⟨hg,0,none⟩))),(9,rB hh),(10,rI .i64 σ.1),(11,rI .i64 ha),(12,rv (.pointer (some ⟨hk,0,none⟩))),(13,BE 9 (List.map AJ hf.1)),(70,rI .i64 (hf.1.length:Int)),(71,rI .i64 hq)]) (λσ=>[.blk hg [rI .i64 hf.2.1.fPolicy.fVisible,rI .i64 hf.2.1.fPolicy.fReceives,rv (.map (some hb)),rv ht,rI .i64 hf.2.1.fNow,rI .i64 hf.2.1.fArrived] 61,.map hb (AB (mP hb) hf.2.1.fWaiting),.row ht 33 7 (List.map Af hf.2.1.fDead),.pool hb hH 71 (List.map Ad hf.2.2),.blk hk [rI .i64 ((Ac l ha).fKind),rI .i64 ((Ac l ha).fNow),rI .i64 ((Ac l ha).fN),rS (((Ac l ha).fEvent).fID),rS (((Ac l ha).fEvent).fTenant),rS (((Ac l ha).fEvent).fSource),rS (((Ac l ha).fEvent).fKey),rI .i64 (((Ac l ha).fEvent).fAt),rS (((Ac l ha).fEvent).fCause),BE 4 (List.map An (((Ac l ha).fEvent).fBody)),rS ((Ac l ha).fReceipt)] 35,.blk b1 (Ao p) 23]) ?_ ?_))
         ·refine Bc (At (wm Aa (wa Aa (BI (wm Aa (wm Aa ?_))))));obtain⟨gW,gX⟩:=AR cL;refine wv (ED (enc:=AJ) (ys:=hf.1) Ku PV Aa Aa gW) (wv (BF Rl Aa D7 Aa Aa) (wv (BF Ds Aa EI Aa Aa) (wv (Em EJ Aa Aa) (wm Aa (wv (EB Aa Aa) (A8 (AC (b:=decide ((((Ac hf.1 hq).fEvent).fID)=id)) Aa (λgj=>?_) (λgj=>?_))))))))
          ·have cM:=AV gj gX;refine At (wm Aa ?_);obtain⟨cN,gY⟩:=AR cM;refine wv (C0 Aa Aa cN) (wa Aa (A8 (AO [(1,BE 11 (List.map A4 l)),(2,rS id),(3,rv (.pointer (some ⟨b1,0,none⟩))),(7,rv (.pointer (some ⟨hg,0,none⟩))),(9,rB hh),(10,rI .i64 (h4+1)),(11,rI .i64 ha),(12,rv (.pointer (some ⟨hk,0,none⟩))),(13,BE 9 (List.map AJ hf.1)),(70,rI .i64 (hf.1.length:Int)),(71,rI .i64 hq),(100,rB ((!hh)||((!decide (((Ac hf.1 hq).fCount)=(h4+1)))||(decide (p.fReceives<(h4+1))))))] [.blk hg [rI .i64 hf.2.1.fPolicy.fVisible,rI .i64 hf.2.1.fPolicy.fReceives,rv (.map (some hb)),rv ht,rI .i64 hf.2.1.fNow,rI .i64 hf.2.1.fArrived] 61,.map hb (AB (mP hb) hf.2.1.fWaiting),.row ht 33 7 (List.map Af hf.2.1.fDead),.pool hb hH 71 (List.map Ad hf.2.2),.blk hk [rI .i64 ((Ac l ha).fKind),rI .i64 ((Ac l ha).fNow),rI .i64 ((Ac l ha).fN),rS (((Ac l ha).fEvent).fID),rS (((Ac l ha).fEvent).fTenant),rS (((Ac l ha).fEvent).fSource),rS (((Ac l ha).fEvent).fKey),rI .i64 (((Ac l ha).fEvent).fAt),rS (((Ac l ha).fEvent).fCause),BE 4 (List.map An (((Ac l ha).fEvent).fBody)),rS ((Ac l ha).fReceipt)] 35,.blk b1 (Ao p) 23] ?_ ?_)))
           ·refine As (wm Aa (wv (Cz Aa) (wm Aa (AP (!hh) (λhm=>?_) (λhm=>?_)))))
            ·refine wf hm (wf hm (wf hm (wf hm (wf hm (wf hm (wf hm (wv (r:=rB true) (Ar (b:=!hh) Aa hm Aa) (wm Aa (Am (b:=true) Aa Aa Aa Aa (Am (b:=true) Aa Aa Aa Aa (Am (b:=true) Aa Aa Aa Aa (Am (b:=true) Aa Aa Aa Aa (wv (r:=rB true) (Ar (b:=true) Aa Aa Aa) (Aq ?_))))))))))))));exact C3 hm
            ·refine wo hm (wm Aa (wo hm (wm Aa (wo hm (wv (ED (enc:=AJ) (ys:=hf.1) Ku PV Aa Aa gW) (wo hm (wv (BF Rl Aa Cc Aa Aa) (wo hm (wv (Em Cq Aa Aa) (wo hm (wm Aa (wo hm (wv (G7 Aa Aa) (GF Aa hm Aa (wm Aa (AP (!decide (((Ac hf.1 hq).fCount)=(h4+1))) (λhx=>?_) (λhx=>?_)))))))))))))))))
             ·refine wf hx (wf hx (wf hx (wf hx (wv (r:=rB true) (Ar (b:=!decide (((Ac hf.1 hq).fCount)=(h4+1))) Aa hx Aa) (Aq ?_)))));exact C3 (And.intro hm hx)
             ·refine wo hx (wm Aa (wo hx (wv (Ai Kv Aa Cc Aa Aa) (wo hx (wv (Aw (i:=5) Cq Aa Aa Aa) (wo hx (wv (Du Aa Aa) (GF Aa hx Aa (Aq ?_)))))))));exact C3 (And.intro hm hx)
           refine AC (b:=((!hh)||((!decide (((Ac hf.1 hq).fCount)=(h4+1)))||(decide (p.fReceives<(h4+1)))))) Aa (λgl=>?_) (λgl=>?_)
           ·have cO:=AV gl gY;refine At (wv (r:=rB false) (Aj Aa) (A8 (A7 (AF (Ak (Ak (Bs ?_)))))));have cP:=BO cO gh gV;refine AF (Ak (AF (Ak (Ak (Bs ?_)))));have cQ:=BO cP hw h2;refine AF (Ak ?_);obtain rfl:=AI cQ;exact AA (BZ OX (Ba Aa)) (sS (sS (sS (sS (sS (sS sN)))))) ⟨Aa,Aa⟩
           ·have cR:=AW gl gY;exact AH (AY (Az (AU (h4+1,()) cR (AS.c Aa (AS.c5 Aa Aa Aa Aa Aa (AS.c5 Aa Aa Aa Aa Aa AS.nil))) (sC (sC (sC (sC (sC (sC sN)))))))))
          ·have cS:=AW gj gX;exact AH (AY (Az (AU (h4,()) cS (AS.c Aa (AS.c5 Aa Aa Aa Aa Aa (AS.c5 Aa Aa Aa Aa Aa AS.nil))) (sC (sC (sC (sC (sC (sC sN)))))))))
         ·rintro⟨gm,⟨⟩⟩ hY;refine Bi (l':=[(1,BE 11 (List.map A4 l)),(2,rS id),(3,rv (.pointer (some ⟨b1,0,none⟩))),(7,rv (.pointer (some ⟨hg,0,none⟩))),(9,rB hh),(10,rI .i64 gm),(11,rI .i64 ha),(12,rv (.pointer (some ⟨hk,0,none⟩))),(13,BE 9 (List.map AJ hf.1)),(70,rI .i64 (hf.1.length:Int)),(71,rI .i64 hq)]) (H':=[.blk hg [rI .i64 hf.2.1.fPolicy.fVisible,rI .i64 hf.2.1.fPolicy.fReceives,rv (.map (some hb)),rv ht,rI .i64 hf.2.1.fNow,rI .i64 hf.2.1.fArrived] 61,.map hb (AB (mP hb) hf.2.1.fWaiting),.row ht 33 7 (List.map Af hf.2.1.fDead),.pool hb hH 71 (List.map Ad hf.2.2),.blk hk [rI .i64 ((Ac l ha).fKind),rI .i64 ((Ac l ha).fNow),rI .i64 ((Ac l ha).fN),rS (((Ac l ha).fEvent).fID),rS (((Ac l ha).fEvent).fTenant),rS (((Ac l ha).fEvent).fSource),rS (((Ac l ha).fEvent).fKey),rI .i64 (((Ac l ha).fEvent).fAt),rS (((Ac l ha).fEvent).fCause),BE 4 (List.map An (((Ac l ha).fEvent).fBody)),rS ((Ac l ha).fReceipt)] 35,.blk b1 (Ao p) 23]) Aa Aa ?_;replace hY:CZ hq gm=some gg:=hY;unfold CZ at hY;refine As ?_;obtain⟨cT,cU⟩:=AR hY;refine wv (C0 Aa Aa cT) (wm Aa (Aq ?_));have cV:=CQ cU gh;exact Az (AU (cK,(gm,hq+1),()) ⟨cV,WZ _⟩ (AS.c Aa (AS.c5 Aa Aa Aa Aa Aa (AS.c5 Aa Aa Aa Aa Aa AS.nil))) (sC (sC (sC (sC (sC (sC sN)))))))
        ·have cW:=AW gi hS;refine BN (AN ?_);have cX:=Ep cW gh gV;exact AN (B8 (AU ((h4,hq,decide (hq<(hf.1.length:Int))),()) cX (AS.c Aa (AS.c Aa (AS.c5 Aa Aa Aa Aa Aa (AS.c5 Aa Aa Aa Aa Aa AS.nil)))) (sC (sC (sC (sC (sC (sC sN))))))))
       ·rintro⟨⟨h7,gZ,ca⟩,⟨⟩⟩ hZ;refine E7 (l':=[(1,BE 11 (List.map A4 l)),(2,rS id),(3,rv (.pointer (some ⟨b1,0,none⟩))),(7,rv (.pointer (some ⟨hg,0,none⟩))),(9,rB hh),(10,rI .i64 h7),(11,rI .i64 ha),(12,rv (.pointer (some ⟨hk,0,none⟩))),(13,BE 9 (List.map AJ hf.1)),(70,rI .i64 (hf.1.length:Int)),(71,rI .i64 gZ),(72,rB ca)]) (H':=[.blk hg [rI .i64 hf.2.1.fPolicy.fVisible,rI .i64 hf.2.1.fPolicy.fReceives,rv (.map (some hb)),rv ht,rI .i64 hf.2.1.fNow,rI .i64 hf.2.1.fArrived] 61,.map hb (AB (mP hb) hf.2.1.fWaiting),.row ht 33 7 (List.map Af hf.2.1.fDead),.pool hb hH 71 (List.map Ad hf.2.2),.blk hk [rI .i64 ((Ac l ha).fKind),rI .i64 ((Ac l ha).fNow),rI .i64 ((Ac l ha).fN),rS (((Ac l ha).fEvent).fID),rS (((Ac l ha).fEvent).fTenant),rS (((Ac l ha).fEvent).fSource),rS (((Ac l ha).fEvent).fKey),rI .i64 (((Ac l ha).fEvent).fAt),rS (((Ac l ha).fEvent).fCause),BE 4 (List.map An (((Ac l ha).fEvent).fBody)),rS ((Ac l ha).fReceipt)] 35,.blk b1 (Ao p) 23]) Aa Aa ?_;replace hZ:EF F l id hh ha hf h7 gZ ca=some hu:=hZ;unfold EF at hZ;refine B3 (Bm (At (wm Aa (wv (Bx (i:=4) Tryz.isAgg35 MV Aa Aa Aa Aa) ?_))));obtain⟨hd,cY,cb⟩:=Bb hZ;refine DZ (Hr:=[.blk hk [rI .i64 ((Ac l ha).fKind),rI .i64 ((Ac l ha).fNow),rI .i64 ((Ac l ha).fN),rS (((Ac l ha).fEvent).fID),rS (((Ac l ha).fEvent).fTenant),rS (((Ac l ha).fEvent).fSource),rS (((Ac l ha).fEvent).fKey),rI .i64 (((Ac l ha).fEvent).fAt),rS (((Ac l ha).fEvent).fCause),BE 4 (List.map An (((Ac l ha).fEvent).fBody)),rS ((Ac l ha).fReceipt)] 35,.blk b1 (Ao p) 23]) Tryz.call12 (LG F hg hb ht hH hf.2.1 hf.2.2 (AT.mk ((Ac l ha).fKind) ((Ac l ha).fNow) ((Ac l ha).fN) ((Ac l ha).fEvent) ((Ac l ha).fReceipt)) hd cY) Aa (Wr _) Aa ?_;rintro _ _ ⟨hi,hn,rfl,rfl⟩;refine wm Aa (wv (AM Aa Aa) (wv (AM Aa Aa) (wa Aa (wa Aa (A8 (A1 (AO [(1,BE 11 (List.map A4 l)),(2,rS id),(3,rv (.pointer (some ⟨b1,0,none⟩))),(7,rv (.pointer (some ⟨hg,0,none⟩))),(9,rB hh),(10,rI .i64 h7),(11,rI .i64 ha),(12,rv (.pointer (some ⟨hk,0,none⟩))),(16,rI .i64 hd.2.1),(121,rB ((decide (((Ac l ha).fKind)=0))&&((decide ((((Ac l ha).fEvent).fID)=id))&&(decide (hd.2.1=0)))))] [.blk hg [rI .i64 hd.2.2.1.fPolicy.fVisible,rI .i64 hd.2.2.1.fPolicy.fReceives,rv (.map (some hb)),rv hi,rI .i64 hd.2.2.1.fNow,rI .i64 hd.2.2.1.fArrived] 61,.map hb (AB (mP hb) hd.2.2.1.fWaiting),.row hi 33 7 (List.map Af hd.2.2.1.fDead),.pool hb hn 71 (List.map Ad hd.2.2.2),.blk hk [rI .i64 ((Ac l ha).fKind),rI .i64 ((Ac l ha).fNow),rI .i64 ((Ac l ha).fN),rS (((Ac l ha).fEvent).fID),rS (((Ac l ha).fEvent).fTenant),rS (((Ac l ha).fEvent).fSource),rS (((Ac l ha).fEvent).fKey),rI .i64 (((Ac l ha).fEvent).fAt),rS (((Ac l ha).fEvent).fCause),BE 4 (List.map An (((Ac l ha).fEvent).fBody)),rS ((Ac l ha).fReceipt)] 35,.blk b1 (Ao p) 23] ?_ ?_)))))))
        ·refine As (wv (Ai Dr Aa Cc Aa Aa) (wv (Aw (i:=4) Cq Aa Aa Aa) (wv (B6 Aa Aa) (wm Aa (AP (decide (((Ac l ha).fKind)=0)) (λhr=>?_) (λhr=>?_))))))
         ·refine wo hr (wv (Ai Dr Aa D7 Aa Aa) (wo hr (wv (Ai Ds Aa EI Aa Aa) (wo hr (wv (Aw (i:=4) EJ Aa Aa Aa) (wo hr (wm Aa (wo hr (wv (EB Aa Aa) (Gh Aa hr Aa (wm Aa (AP (decide ((((Ac l ha).fEvent).fID)=id)) (λh9=>?_) (λh9=>?_)))))))))))))
          ·refine wo h9 (wm Aa (wo h9 (wv (B6 Aa Aa) (Gh Aa h9 Aa (Aq ?_)))));exact C3 (And.intro hr h9)
          ·refine wf h9 (wf h9 (wv (r:=rB false) (AE (b:=decide ((((Ac l ha).fEvent).fID)=id)) Aa h9 Aa) (Aq ?_)));exact C3 (And.intro hr h9)
         ·refine wf hr (wf hr (wf hr (wf hr (wf hr (wv (r:=rB false) (AE (b:=decide (((Ac l ha).fKind)=0)) Aa hr Aa) (wm Aa (Am (b:=false) Aa Aa Aa Aa (Am (b:=false) Aa Aa Aa Aa (wv (r:=rB false) (AE (b:=false) Aa Aa Aa) (Aq ?_))))))))));exact C3 hr
        refine AC (b:=((decide (((Ac l ha).fKind)=0))&&((decide ((((Ac l ha).fEvent).fID)=id))&&(decide (hd.2.1=0))))) Aa (λgp=>?_) (λgp=>?_)
        ·have cc:=AV gp cb;refine A1 (At (wm Aa (A8 (AC (b:=hh) Aa (λgq=>?_) (λgq=>?_)))))
         ·have cZ:=AV gq cc;refine At (wv (r:=rB false) (Aj Aa) (A8 (A7 (Ak (Ak (AF (Ak (Ak (Bs ?_)))))))));have xa:=BO cZ hw h2;refine AF (Ak ?_);obtain rfl:=AI xa;exact AA (BZ OX (Ba Aa)) (sS (sS (sS (sS (sS (sS sN)))))) ⟨Aa,Aa⟩
         ·have cd:=AW gq cc;refine AH (Bm (At (wv (r:=rB true) (Aj Aa) (A8 (As (wv (r:=rI .i64 0) (Aj Aa) (A8 (A1 (Cu (S:=(Bool)×(Unit)) (λσ=>DW ha F id hd σ.1=some hu) (λσ=>[(1,BE 11 (List.map A4 l)),(2,rS id),(3,rv (.pointer (some ⟨b1,0,none⟩))),(7,rv (.pointer (some ⟨hg,0,none⟩))),(9,rB true),(10,rI .i64 0),(11,rI .i64 ha),(135,rB σ.1)]) (λσ=>[.blk hg [rI .i64 hd.2.2.1.fPolicy.fVisible,rI .i64 hd.2.2.1.fPolicy.fReceives,rv (.map (some hb)),rv hi,rI .i64 hd.2.2.1.fNow,rI .i64 hd.2.2.1.fArrived] 61,.map hb (AB (mP hb) hd.2.2.1.fWaiting),.row hi 33 7 (List.map Af hd.2.2.1.fDead),.pool hb hn 71 (List.map Ad hd.2.2.2),.blk b1 (Ao p) 23]) ?_ ?_)))))))))
          ·refine As (wv (Ai Dr Aa Cc Aa Aa) (wv (Aw (i:=4) Cq Aa Aa Aa) (wv (B6 Aa Aa) (wm Aa (AP (decide (((Ac l ha).fKind)=2)) (λhA=>?_) (λhA=>?_))))))
           ·have ce:=AV hA cd;refine wo hA (wm Aa (wo hA (wv (B6 Aa Aa) (Gh Aa hA Aa (wm Aa (AP (decide (hd.2.1=0)) (λhy=>?_) (λhy=>?_)))))))
            ·have xb:=AV hy ce;refine wo hy (wm Aa (wo hy (wm Aa (wo hy ?_))));obtain⟨cf,xc,xd⟩:=Bb xb;refine DZ (Hr:=[.blk hk [rI .i64 ((Ac l ha).fKind),rI .i64 ((Ac l ha).fNow),rI .i64 ((Ac l ha).fN),rS (((Ac l ha).fEvent).fID),rS (((Ac l ha).fEvent).fTenant),rS (((Ac l ha).fEvent).fSource),rS (((Ac l ha).fEvent).fKey),rI .i64 (((Ac l ha).fEvent).fAt),rS (((Ac l ha).fEvent).fCause),BE 4 (List.map An (((Ac l ha).fEvent).fBody)),rS ((Ac l ha).fReceipt)] 35,.blk b1 (Ao p) 23]) Jd (DP F hg hb hi hn hd.2.2.1 hd.2.2.2 id cf xc) Aa (Wr _) Aa ?_;rintro _ _ ⟨rfl,rfl⟩;exact wo hy (wv (Cz Aa) (Gh Aa hy Aa (Aq (Az (AU (!cf,()) xd (AS.c Aa (AS.c Aa (AS.c Aa (AS.c5 Aa Aa Aa Aa Aa AS.nil)))) (sC (sC (sC (sC (sS (sC sN)))))))))))
            ·have xe:=AW hy ce;exact wf hy (wf hy (wf hy (wf hy (wv (r:=rB false) (AE (b:=decide (hd.2.1=0)) Aa hy Aa) (Aq (Az (AU (false,()) xe (AS.c Aa (AS.c Aa (AS.c Aa (AS.c5 Aa Aa Aa Aa Aa AS.nil)))) (sC (sC (sC (sC (sS (sC sN)))))))))))))
           ·have xf:=AW hA cd;exact wf hA (wf hA (wv (r:=rB false) (AE (b:=decide (((Ac l ha).fKind)=2)) Aa hA Aa) (wm Aa (Am (b:=false) Aa Aa Aa Aa (Am (b:=false) Aa Aa Aa Aa (Am (b:=false) Aa Aa Aa Aa (Am (b:=false) Aa Aa Aa Aa (wv (r:=rB false) (AE (b:=false) Aa Aa Aa) (Aq (Az (AU (false,()) xf (AS.c Aa (AS.c Aa (AS.c Aa (AS.c5 Aa Aa Aa Aa Aa AS.nil)))) (sC (sC (sC (sC (sS (sC sN)))))))))))))))))
          ·rintro⟨gr,⟨⟩⟩ hT;refine Bi (l':=[(1,BE 11 (List.map A4 l)),(2,rS id),(3,rv (.pointer (some ⟨b1,0,none⟩))),(7,rv (.pointer (some ⟨hg,0,none⟩))),(9,rB true),(10,rI .i64 0),(11,rI .i64 ha),(135,rB gr)]) (H':=[.blk hg [rI .i64 hd.2.2.1.fPolicy.fVisible,rI .i64 hd.2.2.1.fPolicy.fReceives,rv (.map (some hb)),rv hi,rI .i64 hd.2.2.1.fNow,rI .i64 hd.2.2.1.fArrived] 61,.map hb (AB (mP hb) hd.2.2.1.fWaiting),.row hi 33 7 (List.map Af hd.2.2.1.fDead),.pool hb hn 71 (List.map Ad hd.2.2.2),.blk b1 (Ao p) 23]) Aa Aa ?_;replace hT:DW ha F id hd gr=some hu:=hT;unfold DW at hT;refine AC (b:=gr) Aa (λgs=>?_) (λgs=>?_)
           ·have xg:=AV gs hT;refine As (wv (r:=rB false) (Aj Aa) (BI (wm Aa (wm Aa ?_))));obtain⟨gt,xh,cg⟩:=Bb xg;refine DZ (Hr:=[.blk b1 (Ao p) 23]) Jd (DP F hg hb hi hn hd.2.2.1 hd.2.2.2 id gt xh) Aa (Wr _) Aa ?_;rintro _ _ ⟨rfl,rfl⟩;refine wm Aa (wv (r:=rB (!(gt ==false))) (II Ud Aa Aa) (A8 (AC (b:=!(gt ==false)) Aa (λgu=>?_) (λgu=>?_))))
            ·have xi:=AV gu cg;refine At (wv (r:=rB false) (Aj Aa) (A8 (A7 (AF (Ak (Ak (Bs ?_)))))));have xj:=BO xi hw h2;refine AF (Ak ?_);obtain rfl:=AI xj;exact AA (BZ OX (Ba Aa)) (sS (sS (sS (sS (sS sN))))) ⟨Aa,Aa⟩
            ·have xk:=AW gu cg;exact AH (AY (Br (H2:=[.blk hg [rI .i64 hd.2.2.1.fPolicy.fVisible,rI .i64 hd.2.2.1.fPolicy.fReceives,rv (.map (some hb)),rv hi,rI .i64 hd.2.2.1.fNow,rI .i64 hd.2.2.1.fArrived] 61,.map hb (AB (mP hb) hd.2.2.1.fWaiting),.pool hb hn 71 (List.map Ad hd.2.2.2),.blk b1 (Ao p) 23,.row hi 33 7 (List.map Af hd.2.2.1.fDead)]) ((Ae (i:=0) Aa).trans (Wo _ ((Ae (i:=0) Aa).trans (Wo _ ((Ae (i:=1) Aa).trans (Wo _ ((Ae (i:=1) Aa).trans (Wo _ (Wr _))))))))) (Az (AU ((false,0,hd.2.2.1.fPolicy.fVisible,hd.2.2.1.fPolicy.fReceives,hd.2.2.1.fDead,hd.2.2.1.fNow,hd.2.2.1.fArrived,hd.2.2.1.fWaiting,hd.2.2.2),(hi,hn)) xk (AS.c Aa (AS.c Aa (AS.c5 Aa Aa Aa Aa Aa AS.nil))) (sC (sC (sC (sC (sC sN)))))))))
           ·have xl:=AW gs hT;refine AH (Bm (At (wm Aa (wm Aa ?_))));obtain⟨gv,xm,ch⟩:=Bb xl;refine DZ (Hr:=[.blk b1 (Ao p) 23]) Jd (DP F hg hb hi hn hd.2.2.1 hd.2.2.2 id gv xm) Aa (Wr _) Aa ?_;rintro _ _ ⟨rfl,rfl⟩;refine wm Aa (wv (r:=rB (!(gv ==true))) (II Ud Aa Aa) (A8 (AC (b:=!(gv ==true)) Aa (λgw=>?_) (λgw=>?_))))
            ·have xn:=AV gw ch;refine At (wv (r:=rB false) (Aj Aa) (A8 (A7 (AF (Ak (Ak (Bs ?_)))))));have xo:=BO xn hw h2;refine AF (Ak ?_);obtain rfl:=AI xo;exact AA (BZ OX (Ba Aa)) (sS (sS (sS (sS (sS sN))))) ⟨Aa,Aa⟩
            ·have xp:=AW gw ch;exact AH (AY (Br (H2:=[.blk hg [rI .i64 hd.2.2.1.fPolicy.fVisible,rI .i64 hd.2.2.1.fPolicy.fReceives,rv (.map (some hb)),rv hi,rI .i64 hd.2.2.1.fNow,rI .i64 hd.2.2.1.fArrived] 61,.map hb (AB (mP hb) hd.2.2.1.fWaiting),.pool hb hn 71 (List.map Ad hd.2.2.2),.blk b1 (Ao p) 23,.row hi 33 7 (List.map Af hd.2.2.1.fDead)]) ((Ae (i:=0) Aa).trans (Wo _ ((Ae (i:=0) Aa).trans (Wo _ ((Ae (i:=1) Aa).trans (Wo _ ((Ae (i:=1) Aa).trans (Wo _ (Wr _))))))))) (Az (AU ((true,0,hd.2.2.1.fPolicy.fVisible,hd.2.2.1.fPolicy.fReceives,hd.2.2.1.fDead,hd.2.2.1.fNow,hd.2.2.1.fArrived,hd.2.2.1.fWaiting,hd.2.2.2),(hi,hn)) xp (AS.c Aa (AS.c Aa (AS.c5 Aa Aa Aa Aa Aa AS.nil))) (sC (sC (sC (sC (sC sN)))))))))
        ·have ci:=AW gp cb;refine AH (Bm (A1 (Cu (S:=(Bool)×(Unit)) (λσ=>DV ha F id hh h7 hd σ.1=some hu) (λσ=>[(1,BE 11 (List.map A4 l)),(2,rS id),(3,rv (.pointer (some ⟨b1,0,none⟩))),(7,rv (.pointer (some ⟨hg,0,none⟩))),(9,rB hh),(10,rI .i64 h7),(11,rI .i64 ha),(135,rB σ.1)]) (λσ=>[.blk hg [rI .i64 hd.2.2.1.fPolicy.fVisible,rI .i64 hd.2.2.1.fPolicy.fReceives,rv (.map (some hb)),rv hi,rI .i64 hd.2.2.1.fNow,rI .i64 hd.2.2.1.fArrived] 61,.map hb (AB (mP hb) hd.2.2.1.fWaiting),.row hi 33 7 (List.map Af hd.2.2.1.fDead),.pool hb hn 71 (List.map Ad hd.2.2.2),.blk b1 (Ao p) 23]) ?_ ?_)))
         ·refine As (wv (Ai Dr Aa Cc Aa Aa) (wv (Aw (i:=4) Cq Aa Aa Aa) (wv (B6 Aa Aa) (wm Aa (AP (decide (((Ac l ha).fKind)=2)) (λhB=>?_) (λhB=>?_))))))
          ·have cj:=AV hB ci;refine wo hB (wm Aa (wo hB (wv (B6 Aa Aa) (Gh Aa hB Aa (wm Aa (AP (decide (hd.2.1=0)) (λhz=>?_) (λhz=>?_)))))))
           ·have xq:=AV hz cj;refine wo hz (wm Aa (wo hz (wm Aa (wo hz ?_))));obtain⟨ck,xr,xs⟩:=Bb xq;refine DZ (Hr:=[.blk hk [rI .i64 ((Ac l ha).fKind),rI .i64 ((Ac l ha).fNow),rI .i64 ((Ac l ha).fN),rS (((Ac l ha).fEvent).fID),rS (((Ac l ha).fEvent).fTenant),rS (((Ac l ha).fEvent).fSource),rS (((Ac l ha).fEvent).fKey),rI .i64 (((Ac l ha).fEvent).fAt),rS (((Ac l ha).fEvent).fCause),BE 4 (List.map An (((Ac l ha).fEvent).fBody)),rS ((Ac l ha).fReceipt)] 35,.blk b1 (Ao p) 23]) Jd (DP F hg hb hi hn hd.2.2.1 hd.2.2.2 id ck xr) Aa (Wr _) Aa ?_;rintro _ _ ⟨rfl,rfl⟩;exact wo hz (wv (Cz Aa) (Gh Aa hz Aa (Aq (Az (AU (!ck,()) xs (AS.c Aa (AS.c Aa (AS.c Aa (AS.c5 Aa Aa Aa Aa Aa AS.nil)))) (sC (sC (sC (sC (sS (sC sN)))))))))))
           ·have xt:=AW hz cj;exact wf hz (wf hz (wf hz (wf hz (wv (r:=rB false) (AE (b:=decide (hd.2.1=0)) Aa hz Aa) (Aq (Az (AU (false,()) xt (AS.c Aa (AS.c Aa (AS.c Aa (AS.c5 Aa Aa Aa Aa Aa AS.nil)))) (sC (sC (sC (sC (sS (sC sN)))))))))))))
          ·have xu:=AW hB ci;exact wf hB (wf hB (wv (r:=rB false) (AE (b:=decide (((Ac l ha).fKind)=2)) Aa hB Aa) (wm Aa (Am (b:=false) Aa Aa Aa Aa (Am (b:=false) Aa Aa Aa Aa (Am (b:=false) Aa Aa Aa Aa (Am (b:=false) Aa Aa Aa Aa (wv (r:=rB false) (AE (b:=false) Aa Aa Aa) (Aq (Az (AU (false,()) xu (AS.c Aa (AS.c Aa (AS.c Aa (AS.c5 Aa Aa Aa Aa Aa AS.nil)))) (sC (sC (sC (sC (sS (sC sN)))))))))))))))))
         ·rintro⟨gx,⟨⟩⟩ hU;refine Bi (l':=[(1,BE 11 (List.map A4 l)),(2,rS id),(3,rv (.pointer (some ⟨b1,0,none⟩))),(7,rv (.pointer (some ⟨hg,0,none⟩))),(9,rB hh),(10,rI .i64 h7),(11,rI .i64 ha),(135,rB gx)]) (H':=[.blk hg [rI .i64 hd.2.2.1.fPolicy.fVisible,rI .i64 hd.2.2.1.fPolicy.fReceives,rv (.map (some hb)),rv hi,rI .i64 hd.2.2.1.fNow,rI .i64 hd.2.2.1.fArrived] 61,.map hb (AB (mP hb) hd.2.2.1.fWaiting),.row hi 33 7 (List.map Af hd.2.2.1.fDead),.pool hb hn 71 (List.map Ad hd.2.2.2),.blk b1 (Ao p) 23]) Aa Aa ?_;replace hU:DV ha F id hh h7 hd gx=some hu:=hU;unfold DV at hU;refine AC (b:=gx) Aa (λgy=>?_) (λgy=>?_)
          ·have xv:=AV gy hU;refine As (wv (r:=rB false) (Aj Aa) (BI (wm Aa (wm Aa ?_))));obtain⟨gz,xw,cl⟩:=Bb xv;refine DZ (Hr:=[.blk b1 (Ao p) 23]) Jd (DP F hg hb hi hn hd.2.2.1 hd.2.2.2 id gz xw) Aa (Wr _) Aa ?_;rintro _ _ ⟨rfl,rfl⟩;refine wm Aa (wv (r:=rB (!(gz ==false))) (II Ud Aa Aa) (A8 (AC (b:=!(gz ==false)) Aa (λg0=>?_) (λg0=>?_))))
           ·have xx:=AV g0 cl;refine At (wv (r:=rB false) (Aj Aa) (A8 (A7 (AF (Ak (Ak (Bs ?_)))))));have xy:=BO xx hw h2;refine AF (Ak ?_);obtain rfl:=AI xy;exact AA (BZ OX (Ba Aa)) (sS (sS (sS (sS (sS sN))))) ⟨Aa,Aa⟩
           ·have xz:=AW g0 cl;exact AH (AY (Br (H2:=[.blk hg [rI .i64 hd.2.2.1.fPolicy.fVisible,rI .i64 hd.2.2.1.fPolicy.fReceives,rv (.map (some hb)),rv hi,rI .i64 hd.2.2.1.fNow,rI .i64 hd.2.2.1.fArrived] 61,.map hb (AB (mP hb) hd.2.2.1.fWaiting),.pool hb hn 71 (List.map Ad hd.2.2.2),.blk b1 (Ao p) 23,.row hi 33 7 (List.map Af hd.2.2.1.fDead)]) ((Ae (i:=0) Aa).trans (Wo _ ((Ae (i:=0) Aa).trans (Wo _ ((Ae (i:=1) Aa).trans (Wo _ ((Ae (i:=1) Aa).trans (Wo _ (Wr _))))))))) (Az (AU ((false,h7,hd.2.2.1.fPolicy.fVisible,hd.2.2.1.fPolicy.fReceives,hd.2.2.1.fDead,hd.2.2.1.fNow,hd.2.2.1.fArrived,hd.2.2.1.fWaiting,hd.2.2.2),(hi,hn)) xz (AS.c Aa (AS.c Aa (AS.c5 Aa Aa Aa Aa Aa AS.nil))) (sC (sC (sC (sC (sC sN)))))))))
          ·have x0:=AW gy hU;refine AH (Bm (At (wm Aa (wm Aa ?_))));obtain⟨g1,x1,cm⟩:=Bb x0;refine DZ (Hr:=[.blk b1 (Ao p) 23]) Jd (DP F hg hb hi hn hd.2.2.1 hd.2.2.2 id g1 x1) Aa (Wr _) Aa ?_;rintro _ _ ⟨rfl,rfl⟩;refine wm Aa (wv (r:=rB (!(g1 ==hh))) (II Ud Aa Aa) (A8 (AC (b:=!(g1 ==hh)) Aa (λg3=>?_) (λg3=>?_))))
           ·have x2:=AV g3 cm;refine At (wv (r:=rB false) (Aj Aa) (A8 (A7 (AF (Ak (Ak (Bs ?_)))))));have x3:=BO x2 hw h2;refine AF (Ak ?_);obtain rfl:=AI x3;exact AA (BZ OX (Ba Aa)) (sS (sS (sS (sS (sS sN))))) ⟨Aa,Aa⟩
           ·have x4:=AW g3 cm;exact AH (AY (Br (H2:=[.blk hg [rI .i64 hd.2.2.1.fPolicy.fVisible,rI .i64 hd.2.2.1.fPolicy.fReceives,rv (.map (some hb)),rv hi,rI .i64 hd.2.2.1.fNow,rI .i64 hd.2.2.1.fArrived] 61,.map hb (AB (mP hb) hd.2.2.1.fWaiting),.pool hb hn 71 (List.map Ad hd.2.2.2),.blk b1 (Ao p) 23,.row hi 33 7 (List.map Af hd.2.2.1.fDead)]) ((Ae (i:=0) Aa).trans (Wo _ ((Ae (i:=0) Aa).trans (Wo _ ((Ae (i:=1) Aa).trans (Wo _ ((Ae (i:=1) Aa).trans (Wo _ (Wr _))))))))) (Az (AU ((hh,h7,hd.2.2.1.fPolicy.fVisible,hd.2.2.1.fPolicy.fReceives,hd.2.2.1.fDead,hd.2.2.1.fNow,hd.2.2.1.fArrived,hd.2.2.1.fWaiting,hd.2.2.2),(hi,hn)) x4 (AS.c Aa (AS.c Aa (AS.c5 Aa Aa Aa Aa Aa AS.nil))) (sC (sC (sC (sC (sC sN)))))))))
      ·have x5:=AW gf gU;refine AH (Bm (At (wm Aa (wv (Bx (i:=0) Tryz.isAgg35 MV Aa Aa Aa Aa) ?_))));obtain⟨he,x6,cn⟩:=Bb x5;refine DZ (Hr:=[.blk hk [rI .i64 ((Ac l ha).fKind),rI .i64 ((Ac l ha).fNow),rI .i64 ((Ac l ha).fN),rS (((Ac l ha).fEvent).fID),rS (((Ac l ha).fEvent).fTenant),rS (((Ac l ha).fEvent).fSource),rS (((Ac l ha).fEvent).fKey),rI .i64 (((Ac l ha).fEvent).fAt),rS (((Ac l ha).fEvent).fCause),BE 4 (List.map An (((Ac l ha).fEvent).fBody)),rS ((Ac l ha).fReceipt)] 35,.blk b1 (Ao p) 23]) Tryz.call12 (LG F hg hb hG hQ (Ah.mk (AG.mk hJ hK) hP hL hN hO) hI (AT.mk ((Ac l ha).fKind) ((Ac l ha).fNow) ((Ac l ha).fN) ((Ac l ha).fEvent) ((Ac l ha).fReceipt)) he x6) Aa ((Ae (i:=1) Aa).trans (Wo _ ((Ae (i:=1) Aa).trans (Wo _ ((Ae (i:=3) Aa).trans (Wo _ ((Ae (i:=1) Aa).trans (Wo _ (Wr _))))))))) Aa ?_;rintro _ _ ⟨hj,ho,rfl,rfl⟩;refine wm Aa (wv (AM Aa Aa) (wv (AM Aa Aa) (wa Aa (wa Aa (A8 (A1 (AO [(1,BE 11 (List.map A4 l)),(2,rS id),(3,rv (.pointer (some ⟨b1,0,none⟩))),(7,rv (.pointer (some ⟨hg,0,none⟩))),(9,rB hh),(10,rI .i64 h5),(11,rI .i64 ha),(12,rv (.pointer (some ⟨hk,0,none⟩))),(16,rI .i64 he.2.1),(121,rB ((decide (((Ac l ha).fKind)=0))&&((decide ((((Ac l ha).fEvent).fID)=id))&&(decide (he.2.1=0)))))] [.blk hg [rI .i64 he.2.2.1.fPolicy.fVisible,rI .i64 he.2.2.1.fPolicy.fReceives,rv (.map (some hb)),rv hj,rI .i64 he.2.2.1.fNow,rI .i64 he.2.2.1.fArrived] 61,.map hb (AB (mP hb) he.2.2.1.fWaiting),.row hj 33 7 (List.map Af he.2.2.1.fDead),.pool hb ho 71 (List.map Ad he.2.2.2),.blk hk [rI .i64 ((Ac l ha).fKind),rI .i64 ((Ac l ha).fNow),rI .i64 ((Ac l ha).fN),rS (((Ac l ha).fEvent).fID),rS (((Ac l ha).fEvent).fTenant),rS (((Ac l ha).fEvent).fSource),rS (((Ac l ha).fEvent).fKey),rI .i64 (((Ac l ha).fEvent).fAt),rS (((Ac l ha).fEvent).fCause),BE 4 (List.map An (((Ac l ha).fEvent).fBody)),rS ((Ac l ha).fReceipt)] 35,.blk b1 (Ao p) 23] ?_ ?_)))))))
       ·refine As (wv (Ai Dr Aa Cc Aa Aa) (wv (Aw (i:=4) Cq Aa Aa Aa) (wv (B6 Aa Aa) (wm Aa (AP (decide (((Ac l ha).fKind)=0)) (λhs=>?_) (λhs=>?_))))))
        ·refine wo hs (wv (Ai Dr Aa D7 Aa Aa) (wo hs (wv (Ai Ds Aa EI Aa Aa) (wo hs (wv (Aw (i:=4) EJ Aa Aa Aa) (wo hs (wm Aa (wo hs (wv (EB Aa Aa) (Gh Aa hs Aa (wm Aa (AP (decide ((((Ac l ha).fEvent).fID)=id)) (λhC=>?_) (λhC=>?_)))))))))))))
         ·refine wo hC (wm Aa (wo hC (wv (B6 Aa Aa) (Gh Aa hC Aa (Aq ?_)))));exact C3 (And.intro hs hC)
         ·refine wf hC (wf hC (wv (r:=rB false) (AE (b:=decide ((((Ac l ha).fEvent).fID)=id)) Aa hC Aa) (Aq ?_)));exact C3 (And.intro hs hC)
        ·refine wf hs (wf hs (wf hs (wf hs (wf hs (wv (r:=rB false) (AE (b:=decide (((Ac l ha).fKind)=0)) Aa hs Aa) (wm Aa (Am (b:=false) Aa Aa Aa Aa (Am (b:=false) Aa Aa Aa Aa (wv (r:=rB false) (AE (b:=false) Aa Aa Aa) (Aq ?_))))))))));exact C3 hs
       refine AC (b:=((decide (((Ac l ha).fKind)=0))&&((decide ((((Ac l ha).fEvent).fID)=id))&&(decide (he.2.1=0))))) Aa (λg4=>?_) (λg4=>?_)
       ·have co:=AV g4 cn;refine A1 (At (wm Aa (A8 (AC (b:=hh) Aa (λg5=>?_) (λg5=>?_)))))
        ·have x7:=AV g5 co;refine At (wv (r:=rB false) (Aj Aa) (A8 (A7 (Ak (Ak (AF (Ak (Ak (Bs ?_)))))))));have x8:=BO x7 hw h2;refine AF (Ak ?_);obtain rfl:=AI x8;exact AA (BZ OX (Ba Aa)) (sS (sS (sS (sS (sS (sS sN)))))) ⟨Aa,Aa⟩
        ·have cp:=AW g5 co;refine AH (Bm (At (wv (r:=rB true) (Aj Aa) (A8 (As (wv (r:=rI .i64 0) (Aj Aa) (A8 (A1 (Cu (S:=(Bool)×(Unit)) (λσ=>Cw ha F id he σ.1=some hu) (λσ=>[(1,BE 11 (List.map A4 l)),(2,rS id),(3,rv (.pointer (some ⟨b1,0,none⟩))),(7,rv (.pointer (some ⟨hg,0,none⟩))),(9,rB true),(10,rI .i64 0),(11,rI .i64 ha),(135,rB σ.1)]) (λσ=>[.blk hg [rI .i64 he.2.2.1.fPolicy.fVisible,rI .i64 he.2.2.1.fPolicy.fReceives,rv (.map (some hb)),rv hj,rI .i64 he.2.2.1.fNow,rI .i64 he.2.2.1.fArrived] 61,.map hb (AB (mP hb) he.2.2.1.fWaiting),.row hj 33 7 (List.map Af he.2.2.1.fDead),.pool hb ho 71 (List.map Ad he.2.2.2),.blk b1 (Ao p) 23]) ?_ ?_)))))))))
         ·refine As (wv (Ai Dr Aa Cc Aa Aa) (wv (Aw (i:=4) Cq Aa Aa Aa) (wv (B6 Aa Aa) (wm Aa (AP (decide (((Ac l ha).fKind)=2)) (λhD=>?_) (λhD=>?_))))))
          ·have cq:=AV hD cp;refine wo hD (wm Aa (wo hD (wv (B6 Aa Aa) (Gh Aa hD Aa (wm Aa (AP (decide (he.2.1=0)) (λh0=>?_) (λh0=>?_)))))))
           ·have x9:=AV h0 cq;refine wo h0 (wm Aa (wo h0 (wm Aa (wo h0 ?_))));obtain⟨cr,xA,xB⟩:=Bb x9;refine DZ (Hr:=[.blk hk [rI .i64 ((Ac l ha).fKind),rI .i64 ((Ac l ha).fNow),rI .i64 ((Ac l ha).fN),rS (((Ac l ha).fEvent).fID),rS (((Ac l ha).fEvent).fTenant),rS (((Ac l ha).fEvent).fSource),rS (((Ac l ha).fEvent).fKey),rI .i64 (((Ac l ha).fEvent).fAt),rS (((Ac l ha).fEvent).fCause),BE 4 (List.map An (((Ac l ha).fEvent).fBody)),rS ((Ac l ha).fReceipt)] 35,.blk b1 (Ao p) 23]) Jd (DP F hg hb hj ho he.2.2.1 he.2.2.2 id cr xA) Aa (Wr _) Aa ?_;rintro _ _ ⟨rfl,rfl⟩;exact wo h0 (wv (Cz Aa) (Gh Aa h0 Aa (Aq (Az (AU (!cr,()) xB (AS.c Aa (AS.c Aa (AS.c Aa (AS.c5 Aa Aa Aa Aa Aa AS.nil)))) (sC (sC (sC (sC (sS (sC sN)))))))))))
           ·have xC:=AW h0 cq;exact wf h0 (wf h0 (wf h0 (wf h0 (wv (r:=rB false) (AE (b:=decide (he.2.1=0)) Aa h0 Aa) (Aq (Az (AU (false,()) xC (AS.c Aa (AS.c Aa (AS.c Aa (AS.c5 Aa Aa Aa Aa Aa AS.nil)))) (sC (sC (sC (sC (sS (sC sN)))))))))))))
          ·have xD:=AW hD cp;exact wf hD (wf hD (wv (r:=rB false) (AE (b:=decide (((Ac l ha).fKind)=2)) Aa hD Aa) (wm Aa (Am (b:=false) Aa Aa Aa Aa (Am (b:=false) Aa Aa Aa Aa (Am (b:=false) Aa Aa Aa Aa (Am (b:=false) Aa Aa Aa Aa (wv (r:=rB false) (AE (b:=false) Aa Aa Aa) (Aq (Az (AU (false,()) xD (AS.c Aa (AS.c Aa (AS.c Aa (AS.c5 Aa Aa Aa Aa Aa AS.nil)))) (sC (sC (sC (sC (sS (sC sN)))))))))))))))))
         ·rintro⟨g6,⟨⟩⟩ hV;refine Bi (l':=[(1,BE 11 (List.map A4 l)),(2,rS id),(3,rv (.pointer (some ⟨b1,0,none⟩))),(7,rv (.pointer (some ⟨hg,0,none⟩))),(9,rB true),(10,rI .i64 0),(11,rI .i64 ha),(135,rB g6)]) (H':=[.blk hg [rI .i64 he.2.2.1.fPolicy.fVisible,rI .i64 he.2.2.1.fPolicy.fReceives,rv (.map (some hb)),rv hj,rI .i64 he.2.2.1.fNow,rI .i64 he.2.2.1.fArrived] 61,.map hb (AB (mP hb) he.2.2.1.fWaiting),.row hj 33 7 (List.map Af he.2.2.1.fDead),.pool hb ho 71 (List.map Ad he.2.2.2),.blk b1 (Ao p) 23]) Aa Aa ?_;replace hV:Cw ha F id he g6=some hu:=hV;unfold Cw at hV;refine AC (b:=g6) Aa (λg7=>?_) (λg7=>?_)
          ·have xE:=AV g7 hV;refine As (wv (r:=rB false) (Aj Aa) (BI (wm Aa (wm Aa ?_))));obtain⟨g8,xF,ct⟩:=Bb xE;refine DZ (Hr:=[.blk b1 (Ao p) 23]) Jd (DP F hg hb hj ho he.2.2.1 he.2.2.2 id g8 xF) Aa (Wr _) Aa ?_;rintro _ _ ⟨rfl,rfl⟩;refine wm Aa (wv (r:=rB (!(g8 ==false))) (II Ud Aa Aa) (A8 (AC (b:=!(g8 ==false)) Aa (λg9=>?_) (λg9=>?_))))
           ·have xG:=AV g9 ct;refine At (wv (r:=rB false) (Aj Aa) (A8 (A7 (AF (Ak (Ak (Bs ?_)))))));have xH:=BO xG hw h2;refine AF (Ak ?_);obtain rfl:=AI xH;exact AA (BZ OX (Ba Aa)) (sS (sS (sS (sS (sS sN))))) ⟨Aa,Aa⟩
           ·have xI:=AW g9 ct;exact AH (AY (Br (H2:=[.blk hg [rI .i64 he.2.2.1.fPolicy.fVisible,rI .i64 he.2.2.1.fPolicy.fReceives,rv (.map (some hb)),rv hj,rI .i64 he.2.2.1.fNow,rI .i64 he.2.2.1.fArrived] 61,.map hb (AB (mP hb) he.2.2.1.fWaiting),.pool hb ho 71 (List.map Ad he.2.2.2),.blk b1 (Ao p) 23,.row hj 33 7 (List.map Af he.2.2.1.fDead)]) ((Ae (i:=0) Aa).trans (Wo _ ((Ae (i:=0) Aa).trans (Wo _ ((Ae (i:=1) Aa).trans (Wo _ ((Ae (i:=1) Aa).trans (Wo _ (Wr _))))))))) (Az (AU ((false,0,he.2.2.1.fPolicy.fVisible,he.2.2.1.fPolicy.fReceives,he.2.2.1.fDead,he.2.2.1.fNow,he.2.2.1.fArrived,he.2.2.1.fWaiting,he.2.2.2),(hj,ho)) xI (AS.c Aa (AS.c Aa (AS.c5 Aa Aa Aa Aa Aa AS.nil))) (sC (sC (sC (sC (sC sN)))))))))
          ·have xJ:=AW g7 hV;refine AH (Bm (At (wm Aa (wm Aa ?_))));obtain⟨gA,xK,cu⟩:=Bb xJ;refine DZ (Hr:=[.blk b1 (Ao p) 23]) Jd (DP F hg hb hj ho he.2.2.1 he.2.2.2 id gA xK) Aa (Wr _) Aa ?_;rintro _ _ ⟨rfl,rfl⟩;refine wm Aa (wv (r:=rB (!(gA ==true))) (II Ud Aa Aa) (A8 (AC (b:=!(gA ==true)) Aa (λgB=>?_) (λgB=>?_))))
           ·have xL:=AV gB cu;refine At (wv (r:=rB false) (Aj Aa) (A8 (A7 (AF (Ak (Ak (Bs ?_)))))));have xM:=BO xL hw h2;refine AF (Ak ?_);obtain rfl:=AI xM;exact AA (BZ OX (Ba Aa)) (sS (sS (sS (sS (sS sN))))) ⟨Aa,Aa⟩
           ·have xN:=AW gB cu;exact AH (AY (Br (H2:=[.blk hg [rI .i64 he.2.2.1.fPolicy.fVisible,rI .i64 he.2.2.1.fPolicy.fReceives,rv (.map (some hb)),rv hj,rI .i64 he.2.2.1.fNow,rI .i64 he.2.2.1.fArrived] 61,.map hb (AB (mP hb) he.2.2.1.fWaiting),.pool hb ho 71 (List.map Ad he.2.2.2),.blk b1 (Ao p) 23,.row hj 33 7 (List.map Af he.2.2.1.fDead)]) ((Ae (i:=0) Aa).trans (Wo _ ((Ae (i:=0) Aa).trans (Wo _ ((Ae (i:=1) Aa).trans (Wo _ ((Ae (i:=1) Aa).trans (Wo _ (Wr _))))))))) (Az (AU ((true,0,he.2.2.1.fPolicy.fVisible,he.2.2.1.fPolicy.fReceives,he.2.2.1.fDead,he.2.2.1.fNow,he.2.2.1.fArrived,he.2.2.1.fWaiting,he.2.2.2),(hj,ho)) xN (AS.c Aa (AS.c Aa (AS.c5 Aa Aa Aa Aa Aa AS.nil))) (sC (sC (sC (sC (sC sN)))))))))
       ·have cv:=AW g4 cn;refine AH (Bm (A1 (Cu (S:=(Bool)×(Unit)) (λσ=>BX ha F id hh h5 he σ.1=some hu) (λσ=>[(1,BE 11 (List.map A4 l)),(2,rS id),(3,rv (.pointer (some ⟨b1,0,none⟩))),(7,rv (.pointer (some ⟨hg,0,none⟩))),(9,rB hh),(10,rI .i64 h5),(11,rI .i64 ha),(135,rB σ.1)]) (λσ=>[.blk hg [rI .i64 he.2.2.1.fPolicy.fVisible,rI .i64 he.2.2.1.fPolicy.fReceives,rv (.map (some hb)),rv hj,rI .i64 he.2.2.1.fNow,rI .i64 he.2.2.1.fArrived] 61,.map hb (AB (mP hb) he.2.2.1.fWaiting),.row hj 33 7 (List.map Af he.2.2.1.fDead),.pool hb ho 71 (List.map Ad he.2.2.2),.blk b1 (Ao p) 23]) ?_ ?_)))
        ·refine As (wv (Ai Dr Aa Cc Aa Aa) (wv (Aw (i:=4) Cq Aa Aa Aa) (wv (B6 Aa Aa) (wm Aa (AP (decide (((Ac l ha).fKind)=2)) (λhE=>?_) (λhE=>?_))))))
         ·have cw:=AV hE cv;refine wo hE (wm Aa (wo hE (wv (B6 Aa Aa) (Gh Aa hE Aa (wm Aa (AP (decide (he.2.1=0)) (λh1=>?_) (λh1=>?_)))))))
          ·have xO:=AV h1 cw;refine wo h1 (wm Aa (wo h1 (wm Aa (wo h1 ?_))));obtain⟨cx,xP,xQ⟩:=Bb xO;refine DZ (Hr:=[.blk hk [rI .i64 ((Ac l ha).fKind),rI .i64 ((Ac l ha).fNow),rI .i64 ((Ac l ha).fN),rS (((Ac l ha).fEvent).fID),rS (((Ac l ha).fEvent).fTenant),rS (((Ac l ha).fEvent).fSource),rS (((Ac l ha).fEvent).fKey),rI .i64 (((Ac l ha).fEvent).fAt),rS (((Ac l ha).fEvent).fCause),BE 4 (List.map An (((Ac l ha).fEvent).fBody)),rS ((Ac l ha).fReceipt)] 35,.blk b1 (Ao p) 23]) Jd (DP F hg hb hj ho he.2.2.1 he.2.2.2 id cx xP) Aa (Wr _) Aa ?_;rintro _ _ ⟨rfl,rfl⟩;exact wo h1 (wv (Cz Aa) (Gh Aa h1 Aa (Aq (Az (AU (!cx,()) xQ (AS.c Aa (AS.c Aa (AS.c Aa (AS.c5 Aa Aa Aa Aa Aa AS.nil)))) (sC (sC (sC (sC (sS (sC sN)))))))))))
          ·have xR:=AW h1 cw;exact wf h1 (wf h1 (wf h1 (wf h1 (wv (r:=rB false) (AE (b:=decide (he.2.1=0)) Aa h1 Aa) (Aq (Az (AU (false,()) xR (AS.c Aa (AS.c Aa (AS.c Aa (AS.c5 Aa Aa Aa Aa Aa AS.nil)))) (sC (sC (sC (sC (sS (sC sN)))))))))))))
         ·have xS:=AW hE cv;exact wf hE (wf hE (wv (r:=rB false) (AE (b:=decide (((Ac l ha).fKind)=2)) Aa hE Aa) (wm Aa (Am (b:=false) Aa Aa Aa Aa (Am (b:=false) Aa Aa Aa Aa (Am (b:=false) Aa Aa Aa Aa (Am (b:=false) Aa Aa Aa Aa (wv (r:=rB false) (AE (b:=false) Aa Aa Aa) (Aq (Az (AU (false,()) xS (AS.c Aa (AS.c Aa (AS.c Aa (AS.c5 Aa Aa Aa Aa Aa AS.nil)))) (sC (sC (sC (sC (sS (sC sN)))))))))))))))))
        ·rintro⟨gC,⟨⟩⟩ hW;refine Bi (l':=[(1,BE 11 (List.map A4 l)),(2,rS id),(3,rv (.pointer (some ⟨b1,0,none⟩))),(7,rv (.pointer (some ⟨hg,0,none⟩))),(9,rB hh),(10,rI .i64 h5),(11,rI .i64 ha),(135,rB gC)]) (H':=[.blk hg [rI .i64 he.2.2.1.fPolicy.fVisible,rI .i64 he.2.2.1.fPolicy.fReceives,rv (.map (some hb)),rv hj,rI .i64 he.2.2.1.fNow,rI .i64 he.2.2.1.fArrived] 61,.map hb (AB (mP hb) he.2.2.1.fWaiting),.row hj 33 7 (List.map Af he.2.2.1.fDead),.pool hb ho 71 (List.map Ad he.2.2.2),.blk b1 (Ao p) 23]) Aa Aa ?_;replace hW:BX ha F id hh h5 he gC=some hu:=hW;unfold BX at hW;refine AC (b:=gC) Aa (λgD=>?_) (λgD=>?_)
         ·have xT:=AV gD hW;refine As (wv (r:=rB false) (Aj Aa) (BI (wm Aa (wm Aa ?_))));obtain⟨gE,xU,cy⟩:=Bb xT;refine DZ (Hr:=[.blk b1 (Ao p) 23]) Jd (DP F hg hb hj ho he.2.2.1 he.2.2.2 id gE xU) Aa (Wr _) Aa ?_;rintro _ _ ⟨rfl,rfl⟩;refine wm Aa (wv (r:=rB (!(gE ==false))) (II Ud Aa Aa) (A8 (AC (b:=!(gE ==false)) Aa (λgF=>?_) (λgF=>?_))))
          ·have xV:=AV gF cy;refine At (wv (r:=rB false) (Aj Aa) (A8 (A7 (AF (Ak (Ak (Bs ?_)))))));have xW:=BO xV hw h2;refine AF (Ak ?_);obtain rfl:=AI xW;exact AA (BZ OX (Ba Aa)) (sS (sS (sS (sS (sS sN))))) ⟨Aa,Aa⟩
          ·have xX:=AW gF cy;exact AH (AY (Br (H2:=[.blk hg [rI .i64 he.2.2.1.fPolicy.fVisible,rI .i64 he.2.2.1.fPolicy.fReceives,rv (.map (some hb)),rv hj,rI .i64 he.2.2.1.fNow,rI .i64 he.2.2.1.fArrived] 61,.map hb (AB (mP hb) he.2.2.1.fWaiting),.pool hb ho 71 (List.map Ad he.2.2.2),.blk b1 (Ao p) 23,.row hj 33 7 (List.map Af he.2.2.1.fDead)]) ((Ae (i:=0) Aa).trans (Wo _ ((Ae (i:=0) Aa).trans (Wo _ ((Ae (i:=1) Aa).trans (Wo _ ((Ae (i:=1) Aa).trans (Wo _ (Wr _))))))))) (Az (AU ((false,h5,he.2.2.1.fPolicy.fVisible,he.2.2.1.fPolicy.fReceives,he.2.2.1.fDead,he.2.2.1.fNow,he.2.2.1.fArrived,he.2.2.1.fWaiting,he.2.2.2),(hj,ho)) xX (AS.c Aa (AS.c Aa (AS.c5 Aa Aa Aa Aa Aa AS.nil))) (sC (sC (sC (sC (sC sN)))))))))
         ·have xY:=AW gD hW;refine AH (Bm (At (wm Aa (wm Aa ?_))));obtain⟨gG,xZ,cz⟩:=Bb xY;refine DZ (Hr:=[.blk b1 (Ao p) 23]) Jd (DP F hg hb hj ho he.2.2.1 he.2.2.2 id gG xZ) Aa (Wr _) Aa ?_;rintro _ _ ⟨rfl,rfl⟩;refine wm Aa (wv (r:=rB (!(gG ==hh))) (II Ud Aa Aa) (A8 (AC (b:=!(gG ==hh)) Aa (λgH=>?_) (λgH=>?_))))
          ·have va:=AV gH cz;refine At (wv (r:=rB false) (Aj Aa) (A8 (A7 (AF (Ak (Ak (Bs ?_)))))));have vb:=BO va hw h2;refine AF (Ak ?_);obtain rfl:=AI vb;exact AA (BZ OX (Ba Aa)) (sS (sS (sS (sS (sS sN))))) ⟨Aa,Aa⟩
          ·have vc:=AW gH cz;exact AH (AY (Br (H2:=[.blk hg [rI .i64 he.2.2.1.fPolicy.fVisible,rI .i64 he.2.2.1.fPolicy.fReceives,rv (.map (some hb)),rv hj,rI .i64 he.2.2.1.fNow,rI .i64 he.2.2.1.fArrived] 61,.map hb (AB (mP hb) he.2.2.1.fWaiting),.pool hb ho 71 (List.map Ad he.2.2.2),.blk b1 (Ao p) 23,.row hj 33 7 (List.map Af he.2.2.1.fDead)]) ((Ae (i:=0) Aa).trans (Wo _ ((Ae (i:=0) Aa).trans (Wo _ ((Ae (i:=1) Aa).trans (Wo _ ((Ae (i:=1) Aa).trans (Wo _ (Wr _))))))))) (Az (AU ((hh,h5,he.2.2.1.fPolicy.fVisible,he.2.2.1.fPolicy.fReceives,he.2.2.1.fDead,he.2.2.1.fNow,he.2.2.1.fArrived,he.2.2.1.fWaiting,he.2.2.2),(hj,ho)) vc (AS.c Aa (AS.c Aa (AS.c5 Aa Aa Aa Aa Aa AS.nil))) (sC (sC (sC (sC (sC sN)))))))))
     ·rintro⟨⟨gI,gJ,gK,gL,gM,gN,gO,gP,gQ⟩,⟨gR,c0⟩⟩ ga;refine Bi (l':=[(1,BE 11 (List.map A4 l)),(2,rS id),(3,rv (.pointer (some ⟨b1,0,none⟩))),(7,rv (.pointer (some ⟨hg,0,none⟩))),(9,rB gI),(10,rI .i64 gJ),(11,rI .i64 ha)]) (H':=[.blk hg [rI .i64 gK,rI .i64 gL,rv (.map (some hb)),rv gR,rI .i64 gN,rI .i64 gO] 61,.map hb (AB (mP hb) gP),.pool hb c0 71 (List.map Ad gQ),.blk b1 (Ao p) 23,.row gR 33 7 (List.map Af gM)]) Aa Aa ?_;replace ga:BL ha gI gJ gK gL gM gN gO gP gQ=some hu:=ga;unfold BL at ga;refine As (wm Aa ?_);obtain⟨vd,ve⟩:=AR ga;refine wv (C0 Aa Aa vd) (wa Aa (Aq ?_));have vf:=CQ ve hw;exact Az (AU (cA,(gI,gJ,ha+1,gK,gL,gM,gN,gO,gP,gQ),(gR,c0)) ⟨vf,WZ _⟩ (AS.c Aa (AS.c Aa (AS.c5 Aa Aa Aa Aa Aa AS.nil))) (sC (sC (sC (sC (sC sN))))))
    ·have vg:=AW ge gT;refine BN (AN ?_);have vh:=Ep vg hw h2;exact AN (B8 (AU (hI,hQ) vh AS.nil (sS (sS (sC (sS (sS sN)))))))
   ·rintro⟨c1,vi⟩ gb;refine E7 (l':=[]) (H':=[.pool hb vi 71 (List.map Ad c1)]) Aa Aa ?_;replace gb:EG F c1=some r:=gb;unfold EG at gb;refine B3 (Bm (At ?_));obtain⟨vj,vk,vl⟩:=Bb gb;refine Ky Tryz.call9 (Ie F vj vk) Aa (wa Aa (A8 (A7 ?_)));obtain rfl:=AI vl;exact AA (BZ OX (Ba Aa)) (sS sN) ⟨Aa,Aa⟩
  ·have vm:=AW gc gS;obtain⟨vn,vo,vp⟩:=Bb vm;refine Ky Tryz.call10 (Pi p vn vo) Aa (wm Aa (wv (AM Aa Aa) (wv (AM Aa Aa) (wa Aa (wa Aa (A8 (A1 (AO [(1,BE 11 (List.map A4 l)),(2,rS id),(3,rv (.pointer (some ⟨b1,0,none⟩))),(7,rv (.pointer none)),(8,rI .i64 2),(36,rB true)] [.blk b1 (Ao p) 23] ?_ ?_))))))))
   ·refine As (wm Aa (wv (G7 Aa Aa) (wm Aa (Am (b:=!decide (2=0)) Aa Aa (JF (by decide)) Aa (Am (b:=!decide (2=0)) Aa Aa (JF (by decide)) Aa (wv (r:=rB true) (Ar (b:=!decide (2=0)) Aa (JF (by decide)) Aa) (Aq ?_)))))));exact wt
   refine C6 Aa Aa ?_;obtain⟨vq,vr⟩:=AR vp;refine AO [(6,rB (ov (Dj F)))] [] ?_ ?_
   ·refine As (wm Aa (wv (G7 Aa Aa) (wm Aa (AZ (b:=!decide (2=0)) Aa Aa (JF (by decide)) (Ky Tryz.call9 (Ie F (ov (Dj F)) (RR vq)) Aa (wv (r:=rB (ov (Dj F))) (Ar (b:=!decide (2=0)) Aa (JF (by decide)) Aa) (wa Aa (Aq ?_))))))));exact wt
   refine A7 (Ak ?_);obtain rfl:=AI vr;exact AA (BZ OX (Ba Aa)) sN ⟨Aa,Aa⟩
end Go.Proofs.YthbbedliepkakaaGreatDoor.Q
namespace Go.Proofs.YthbbedliepkakaaGreatDoor.lawQueueKeeps
open Go
set_option linter.unusedVariables false
def UA (y:AG):Bool:=(B7 .i64) y.fVisible&&(B7 .i64) y.fReceives
def Sb (y:Al):Bool:=(B7 .i64) y.fKind&&(B7 .i64) y.fInt&&RY y.fStr&&(B7 .i64) y.fN
def Tw (y:Ap):Bool:=RY y.fID&&RY y.fTenant&&RY y.fSource&&RY y.fKey&&(B7 .i64) y.fAt&&RY y.fCause&&(λys:(List Al)=>ys.all Sb&&decide (ys.length≤9223372036854775807)) y.fBody
def Q8 (y:AT):Bool:=(B7 .i64) y.fKind&&(B7 .i64) y.fNow&&(B7 .i64) y.fN&&Tw y.fEvent&&RY y.fReceipt
def Wm:Prop:=∀(y0:AG) (y1:(List AT)) (y2:Ay) (o0:UA y0=true) (o1:(λys:(List AT)=>ys.all Q8&&decide (ys.length≤9223372036854775807)) y1=true) (o2:RY y2=true),∃F,IP F y0 y1 y2=some true
end Go.Proofs.YthbbedliepkakaaGreatDoor.lawQueueKeeps
namespace Go.Proofs.YthbbedliepkakaaGreatDoor
open Go
set_option linter.unusedVariables false
set_option linter.unusedSimpArgs false
def SR (c:UInt8):Bool:=decide (32≤c.toNat)&&decide (c.toNat≤126)
theorem MJ {s:Ay}{x:Int}{c:UInt8}(h:s[x.toNat]? =some c):DL s x=(c.toNat:Int):=by simp[DL,h]
theorem Lr {α:Type}{p:α→Bool}{s:List α}{k:Nat}{c:α}(h:s[k]? =some c):(s.take (k+1)).all p=((s.take k).all p&&p c):=by
 rw[List.take_add_one,h];simp
theorem ML {α:Type}{p:α→Bool}{s:List α}{k:Nat}{c:α}(h:s[k]? =some c)(hp:p c=false):s.all p=false:=by
 rw[List.all_eq_false];exact⟨c,Wy h,by simp[hp]⟩
theorem Na {F:Nat}{s:Ay}(hF:s.length<F)(hs:s.length≤9223372036854775807):Is F s=some (s.all SR):=by
 obtain⟨o,h1,h2⟩:=ES (body:=λσ=>Gj s σ) (λx=>0≤x∧x≤(s.length:Int)∧(s.take x.toNat).all SR=true) (λx=>s.length-x.toNat)
  (λo=>B4 (λ_=>Gi) o=some (s.all SR)) (λx ⟨h0,hl,ha⟩=>by
   unfold Gj
   by_cases hx:x<(s.length:Int)
   ·obtain⟨c,hc⟩:∃c,s[x.toNat]? =some c:=⟨s[x.toNat]'(by omega),Wv (by omega)⟩
    rw[A5 (by simpa using hx),Bn h0 hx,MJ hc]
    cases ho:SR c with
    | false=>
     refine .inr ⟨.ret false,?_,?_⟩
     ·rw[A5];simp only[SR,Xm,Wq] at ho;simp only[WE,Wp];omega
     ·simp[B4,ML hc ho]
    | true=>
     refine .inl ⟨x+1,?_,⟨by omega,by omega,?_⟩,by omega⟩
     ·rw[A0,AD (by omega) (by omega)];simp only[SR,Wu,Wp] at ho;simp only[WN,Wq];omega
     ·rw[show(x+1).toNat=x.toNat+1 from by omega,Lr hc,ha,ho];rfl
   ·refine .inr ⟨.go (),by rw[A0 (by simpa using hx)],?_⟩;rw[show x.toNat=s.length from by omega,List.take_length] at ha;simp[B4,Gi,ha]) F 0 ⟨by omega,by omega,by simp⟩ (by simpa using hF)
 unfold Is;rw[AK h1,h2]
theorem Mq (F:Nat)(s:Ay):Mr F s=Is F s:=rfl
theorem Qz {F:Nat}{s:Ay}(hF:s.length<F)(hs:s.length≤9223372036854775807):Mr F s=some (s.all SR):=by rw[Mq];exact Na hF hs
def pl (c:Al):Bool:=
 bif decide (c.fKind=1) then(decide (c.fInt=0)&&(decide (c.fStr=[])&&decide (c.fN=0))) else
 bif decide (c.fKind=2) then((decide (c.fInt=0)||decide (c.fInt=1))&&(decide (c.fStr=[])&&decide (c.fN=0))) else
 bif decide (c.fKind=3) then(decide (c.fStr=[])&&decide (c.fN=0)) else
 bif decide (c.fKind=4) then(decide (c.fInt=0)&&(decide (c.fN=0)&&c.fStr.all SR)) else
 bif decide (c.fKind=5) then(decide (c.fInt=0)&&(decide (c.fStr=[])&&decide (0≤c.fN))) else
 bif decide (c.fKind=6) then(decide (c.fInt=0)&&(decide (c.fStr=[])&&decide (0≤c.fN))) else false
theorem Dk {α:Type}{p:Bool}{x y:Option α}{a b:α}(h:x=some a)(h':y=some b):Bh p x y=some (bif p then a else b):=by cases p<;>simp[Bh,h,h']
theorem Qa {F:Nat}{c:Al}(hF:c.fStr.length<F)(hs:c.fStr.length≤9223372036854775807):K3 F c=some (pl c):=by
 unfold K3 pl;rw[Na hF hs];refine Dk rfl (Dk ?_ (Dk rfl (Dk ?_ (Dk rfl (Dk rfl rfl)))))
 ·cases h:decide (c.fInt=0)<;>simp
 ·simp[imp,Bd,ov]
def JK:List Av→List Av
 | []=>[]
 | e::S=>bif decide (1<e.fLeft) then⟨e.fPairs,e.fLeft-1,e.fPairs,e.fLast,e.fStarted⟩::S else JK S
theorem Ks {α:Type}[Inhabited α](xs:List α)(e:α):Ac (xs++[e]) (xs.length:Int)=e:=by simp[Ac]
theorem I3 {α:Type}(xs:List α)(e e':α):List.set (xs++[e]) (Int.toNat (xs.length:Int)) e'=xs++[e']:=by simp
theorem IO {α:Type}(xs:List α)(e:α):((xs++[e]).length:Int)-1=(xs.length:Int):=by simp
theorem Qi {α:Type}(xs:List α)(e:α):List.take (Int.toNat (xs.length:Int)) (xs++[e])=xs:=by simp
theorem J9:∀(S:List Av) (F:Nat),S.length<F→(∀e∈S,1≤e.fLeft∧e.fLeft≤9223372036854775807)→S.length≤4611686018427387904→
  ∃o,BB (λσ=>CO σ) F S.reverse=some o∧B4 (λν=>Dt ν) o=some (JK S).reverse
 | [],F+1,_,_,_=>⟨.go [],by simp[BB,CO,Bh],by simp[B4,Dt,JK]⟩
 | e::S,F+1,hF,hb,hl=>by
  obtain⟨h1,h2⟩:=hb e (by simp);simp only[Wx] at hF hl;have hx:S.reverse.length=S.length:=by simp
  generalize hxs:S.reverse=xs at hx;have hr:(e::S).reverse=xs++[e]:=by simp[hxs]
  rw[hr];have hb1:CO (xs++[e])=bif decide (1<e.fLeft) then some (.out (.ret (xs++[⟨e.fPairs,e.fLeft-1,e.fPairs,e.fLast,e.fStarted⟩]))) else some (.next xs):=by
   unfold CO;rw[A5 (by simp)];simp only[IO,Ks,I3,LV];rw[AD (by omega) (by omega),Bn (by omega) (by simp;omega),AD (by omega) (by omega)]
   cases hd:decide (1<e.fLeft) with
   | true=>
    rw[A5 (by simp at hd ⊢;omega)];rfl
   | false=>
    rw[A0 (by simp at hd ⊢;omega),AD (by omega) (by omega),DH (by omega) (by simp;omega),Qi];rfl
  rw[BB,hb1]
  cases hd:decide (1<e.fLeft) with
  | true=>exact⟨_,rfl,by simp[B4,Dt,JK,hd,hxs]⟩
  | false=>
   obtain⟨o,ho1,ho2⟩:=J9 S F (by omega) (λe he=>hb e (by simp[he])) (by omega);rw[hxs] at ho1;exact⟨o,ho1,by rw[ho2];simp[JK,hd]⟩
theorem K4 {S:List Av}{F:Nat}(hF:S.length<F)(hb:∀e∈S,1≤e.fLeft∧e.fLeft≤9223372036854775807)(hl:S.length≤4611686018427387904):Iv F S.reverse=some (JK S).reverse:=by
 obtain⟨o,h1,h2⟩:=J9 S F hF hb hl;unfold Iv;rw[AK h1,h2]
def Jp (s:Ay):Int:=s.length+2+s.count 34+s.count 92
theorem K2 {s:Ay}(hs:s.length≤1152921504606846976):Ht s=some (Jp s):=by
 have h1:s.count 34≤s.length:=List.count_le_length;have h2:s.count 92≤s.length:=List.count_le_length;unfold Ht Lib.countByte;rw[AD (by omega) (by omega),AD (by omega) (by omega),AD (by omega) (by omega)];rfl
def U2 (c:Al):Int:=
 bif decide (c.fKind=1) then 4 else bif decide (c.fKind=2) then IntKind.wrap .i64 (5-c.fInt) else bif decide (c.fKind=3) then((Lib.itoa c.fInt).length:Int) else
 bif decide (c.fKind=4) then Jp c.fStr else IntKind.wrap .i64 (2+max 0 (IntKind.wrap .i64 (c.fN-1)))
theorem Nb {c:Al}(hs:c.fStr.length≤1152921504606846976)(hi:B7 .i64 c.fInt=true):Nc c=some (U2 c):=by
 unfold Nc U2;rw[K2 hs];refine Dk rfl (Dk rfl (Dk ?_ (Dk rfl rfl)));rw[Bk hi]
def GN (d:Nat)(sh:A6)(c:Al):A6:=
 ⟨max sh.fDepth ((d:Int)+1),IntKind.wrap .i64 (sh.fBytes+U2 c),sh.fOutside||(decide (c.fKind=3)&&!(decide ((-1000000000000)≤c.fInt)&&decide (c.fInt≤1000000000000))),sh.fLong||decide (200<(c.fStr.length:Int))⟩
def Vm (sh:A6)(c:Al):A6:=⟨sh.fDepth,IntKind.wrap .i64 (sh.fBytes+(Jp c.fStr+1)),sh.fOutside,sh.fLong||decide (200<(c.fStr.length:Int))⟩
def Jy:List Av→Bool
 | []=>false
 | e::_=>e.fKey
abbrev MR:=List Av×Int×A6
abbrev Ul:=Out (Int×A6×Bool) A6
def Ol (n:Int)(S:List Av)(i:Int)(sh:A6)(c:Al):Stp MR Ul:=
 bif !pl c then .out (.ret (0,sh,false)) else
 match S with
 | e::S'=>
  bif e.fKey then
   bif !decide (c.fKind=4)||(e.fStarted&&(BM c.fStr e.fLast||decide (c.fStr=e.fLast))) then .out (.ret (0,sh,false))
   else .next ((⟨e.fPairs,e.fLeft,false,c.fStr,true⟩::S').reverse,i+1,Vm sh c)
  else bif decide (0<c.fN) then
   bif decide (n<c.fN) then .out (.ret (0,GN S.length sh c,false))
   else .next ((⟨decide (c.fKind=6),c.fN,decide (c.fKind=6),[],false⟩::S).reverse,i+1,GN S.length sh c)
  else bif decide (JK S=[]) then .out (.ret (i+1,GN S.length sh c,true)) else .next ((JK S).reverse,i+1,GN S.length sh c)
 | []=>
  bif decide (0<c.fN) then
   bif decide (n<c.fN) then .out (.ret (0,GN 0 sh c,false))
   else .next ([⟨decide (c.fKind=6),c.fN,decide (c.fKind=6),[],false⟩],i+1,GN 0 sh c)
  else .out (.ret (i+1,GN 0 sh c,true))
theorem Lf {S:List Av}:decide (((JK S).reverse.length:Int)=0)=decide (JK S=[]):=by
 rw[WA];simp
theorem V4 {α:Type}{xs:List α}{e x:α}{M:Nat}(h:xs.length+1≤M)(hM2:(M+2)*48≤140737488355328):HO 48 ((xs++[e]).length+([x]:List α).length)=true:=by
 refine Ws (Nat.le_trans (Nat.mul_le_mul_right 48 ?_) hM2);rw[W0,WT,WT];omega
set_option maxHeartbeats 600000 in
theorem Nd {F:Nat}{v:List Al}{S:List Av}{i:Int}{sh:A6}{c:Al}(h0:0≤i)(hc:v[i.toNat]? =some c){M:Nat}(hM:M≤1152921504606846976)(hM2:(M+2)*48≤140737488355328)(hv:v.length≤M)(hS:S.length≤M)(hF:M<F)
  (hs:c.fStr.length≤M) (hi:B7 .i64 c.fInt=true) (hb:∀e∈S,1≤e.fLeft∧e.fLeft≤9223372036854775807):CN F v S.reverse i sh=some (Ol v.length S i sh c):=by
 have hil:i.toNat<v.length:=(List.getElem?_eq_some_iff.1 hc).1;have hat:Ac v i=c:=by simp[Ac,hc]
 unfold CN Ol;rw[A5 (by simp;omega),Bn h0 (by omega),hat,Qa (by omega) (by omega),AK rfl]
 cases hp:pl c with
 | false=>rw[A5 (by simp)];rfl
 | true=>
  rw[A0 (by simp)]
  cases S with
  | nil=>
   rw[Bk (by simp[imp]),Bk (by simp[imp]),A0 (by simp),AD (by simp) (by simp),Nb (by omega) hi,AK rfl,Bk (by simp[imp,Bo])];simp only[Bo,ov,WI,W1,Wz]
   cases hn:decide (0<c.fN) with
   | true=>
    rw[A5 rfl]
    cases hm:decide ((v.length:Int)<c.fN) with
    | true=>rw[A5 rfl];simp[GN]
    | false=>rw[A0 rfl,Bk (by simp[HO])];unfold Dh;rw[AD (by omega) (by omega)];simp[GN]
   | false=>
    rw[A0 rfl,AK (K4 (S:=[]) (by simp;omega) (by simp) (by simp)),A5 (by simp[JK]),AD (by omega) (by omega)];simp[GN]
  | cons e S'=>
   have hx:S'.reverse.length=S'.length:=by simp
   generalize hxs:S'.reverse=xs at hx;have hr:(e::S').reverse=xs++[e]:=by simp[hxs]
   simp only[Wx] at hS;have hlen:((xs++[e]).length:Int)=(xs.length:Int)+1:=by simp
   rw[hr,Bk (by simp only[imp,IO];rw[NT (by omega) (by omega)];simp),Bk (by simp only[imp,IO];rw[M5 (by omega) (by omega)];simp)];rw[IO,Ks]
   cases hk:e.fKey with
   | true=>
    rw[A5 (by simp),AD (by omega) (by omega),Bn (by omega) (by omega)];simp only[hk,W1,Wz,W4]
    cases ht : !decide (c.fKind=4)||(e.fStarted&&(BM c.fStr e.fLast||decide (c.fStr=e.fLast))) with
    | true=>rw[A5 rfl];rfl
    | false=>
     rw[A0 rfl,I3,LV,Ks,I3,LV,Ks,I3,LV,K2 (by omega),AK rfl,AD (by unfold Jp;omega) (by unfold Jp;have:=@List.count_le_length UInt8 _ 34 c.fStr;have:=@List.count_le_length UInt8 _ 92 c.fStr;omega)];unfold Dh;rw[AD (by omega) (by omega)];simp[Vm,hxs]
   | false=>
    rw[A0 (by simp),hlen,AD (by omega) (by omega),Nb (by omega) hi,AK rfl,Bk (by simp[imp,Bo])];simp only[hk,Bo,ov,WI,W1,Wz,W4]
    cases hn:decide (0<c.fN) with
    | true=>
     rw[A5 rfl]
     cases hm:decide ((v.length:Int)<c.fN) with
     | true=>rw[A5 rfl];simp[GN,hx]
     | false=>rw[A0 rfl,Bk (V4 (by omega) hM2)];unfold Dh;rw[AD (by omega) (by omega)];simp[GN,hx,hxs]
    | false=>
     have hcl:=K4 (S:=e::S') (F:=F) (by simp;omega) hb (by simp;omega);rw[hr] at hcl;rw[A0 rfl,hcl,AK rfl,Lf]
     cases hq:decide (JK (e::S')=[]) with
     | true=>rw[A5 rfl,AD (by omega) (by omega)];simp[GN,hx]
     | false=>rw[A0 rfl];unfold Dh;rw[AD (by omega) (by omega)];simp[GN,hx]
section
variable {S O : Type} {body : S → Option (Stp S O)} {s t u : S} {o : O}
def Dn (body:S→Option (Stp S O))(s t:S):Prop:=∃k,∀n,BB body (n+k) s=BB body n t
def Fin (body:S→Option (Stp S O))(s:S)(o:O):Prop:=∃k,∀n,BB body (n+k) s=some o
theorem Dn.refl (s:S):Dn body s s:=⟨0,λ_=>rfl⟩
theorem Dn.trans (h:Dn body s t)(h':Dn body t u):Dn body s u:=by
 obtain⟨k,hk⟩:=h;obtain⟨j,hj⟩:=h';exact⟨j+k,λn=>by rw[← Nat.add_assoc,hk,hj]⟩
theorem Dn.step (h:body s=some (.next t)):Dn body s t:=⟨1,λn=>by rw[BB,h]⟩
theorem Fin.step (h:body s=some (.out o)):Fin body s o:=⟨1,λn=>by rw[BB,h]⟩
theorem Dn.fin (h:Dn body s t)(h':Fin body t o):Fin body s o:=by
 obtain⟨k,hk⟩:=h;obtain⟨j,hj⟩:=h';exact⟨j+k,λn=>by rw[← Nat.add_assoc,hk,hj]⟩
end
inductive Fo where
 | nil
 | cell (k:Option Ay) (c:Al) (r:Fo)
 | node (k:Option Ay) (c:Al) (kids r:Fo)
def By:Option Ay→List Al
 | none=>[]
 | some s=>[⟨4,0,s,0⟩]
def Fo.flat:Fo→List Al
 | .nil=>[]
 | .cell k c r=>By k++c::r.flat
 | .node k c kids r=>By k++c::(kids.flat++r.flat)
def Fo.cnt:Fo→Nat
 | .nil=>0
 | .cell _ _ r=>r.cnt+1
 | .node _ _ _ r=>r.cnt+1
def Cf (m:Bool)(last:Option Ay):Option Ay→Bool
 | none=>!m
 | some s=>m&&s.all SR&&(match last with
  | none=>true
  | some p=>!(BM s p||decide (s=p)))
def Fo.wf:Bool→Option Ay→Fo→Bool
 | _,_,.nil=>true
 | m,last,.cell k c r=>Cf m last k&&pl c&&!decide (0<c.fN)&&r.wf m k
 | m,last,.node k c kids r=>Cf m last k&&pl c&&decide (0<c.fN)&&decide (c.fN=kids.cnt)&&kids.wf (decide (c.fKind=6)) none&&r.wf m k
def JB (k:Option Ay)(sh:A6):A6:=match k with
 | none=>sh
 | some s=>Vm sh ⟨4,0,s,0⟩
def Fo.sh (d:Nat):A6→Fo→A6
 | s,.nil=>s
 | s,.cell k c r=>r.sh d (GN d (JB k s) c)
 | s,.node k c kids r=>r.sh d (kids.sh (d+1) (GN d (JB k s) c))
def Gg (body:MR→Option (Stp MR Ul))(s:MR)(S:List Av)(i:Int)(sh:A6):Prop:=
 if JK S=[] then Fin body s (.ret (i,sh,true)) else Dn body s ((JK S).reverse,i,sh)
theorem Gg.of {body:MR→Option (Stp MR Ul)}{s t:MR}{S:List Av}{i:Int}{sh:A6}(h:Dn body s t)(h':Gg body t S i sh):Gg body s S i sh:=by
 unfold Gg at *
 split
 ·rename_i e;rw[W8 e] at h';exact h.fin h'
 ·rename_i e;rw[W6 e] at h';exact h.trans h'
theorem Gg.pop {body:MR→Option (Stp MR Ul)}{s:MR}{e:Av}{S:List Av}{i:Int}{sh:A6}(h:Gg body s (e::S) i sh)(h1:e.fLeft=1):Gg body s S i sh:=by
 have:JK (e::S)=JK S:=by simp[JK,h1]
 unfold Gg at *;rw[this] at h;exact h
theorem Gg.more {body:MR→Option (Stp MR Ul)}{s:MR}{e:Av}{S:List Av}{i:Int}{sh:A6}(h:Gg body s (e::S) i sh)(h1:1<e.fLeft):Dn body s ((⟨e.fPairs,e.fLeft-1,e.fPairs,e.fLast,e.fStarted⟩::S).reverse,i,sh):=by
 have:JK (e::S)=⟨e.fPairs,e.fLeft-1,e.fPairs,e.fLast,e.fStarted⟩::S:=by simp[JK,h1]
 unfold Gg at *;rw[this,W6 (by simp)] at h;exact h
structure PR (F M:Nat) (v:List Al):Prop where
 hM:M≤1152921504606846976
 hM2:(M+2)*48≤140737488355328
 hv:v.length≤M
 hF:M<F
 hc:∀c∈v,c.fStr.length≤M∧B7 .i64 c.fInt=true∧c.fN≤9223372036854775807
abbrev NL (F:Nat)(v:List Al):MR→Option (Stp MR Ul):=λσ=>CN F v σ.1 σ.2.1 σ.2.2
def CW (S:List Av):Prop:=∀e∈S,1≤e.fLeft∧e.fLeft≤9223372036854775807
section
variable {F M : Nat} {v : List Al} {S : List Av} {i : Int} {sh : A6} {c : Al} {r : List Al} {e : Av}
theorem B9 (h0:0≤i)(h:v.drop i.toNat=c::r):v[i.toNat]? =some c∧v.drop (i+1).toNat=r∧i<v.length:=by
 have h1:(v.drop i.toNat)[0]? =some c:=by rw[h];rfl
 have h2:v[i.toNat]? =some c:=by simpa using h1
 have h3:=(List.getElem?_eq_some_iff.1 h2).1;refine⟨h2,?_,by omega⟩;rw[show(i+1).toNat=i.toNat+1 from by omega,← List.drop_drop,h];rfl
theorem round (hA:PR F M v)(h0:0≤i)(h:v.drop i.toNat=c::r)(hS:(S.length:Int)≤i)(hb:CW S):NL F v (S.reverse,i,sh)=some (Ol v.length S i sh c):=by
 obtain⟨h1,_,h3⟩:=B9 h0 h;obtain⟨a,b,_⟩:=hA.hc c (Wy h1);have:=hA.hv;exact Nd h0 h1 hA.hM hA.hM2 hA.hv (by omega) hA.hF a b hb
def Et (e:Av):Option Ay→Av
 | none=>e
 | some s=>⟨e.fPairs,e.fLeft,false,s,true⟩
def Hg (e:Av):Option Ay→Prop
 | none=>e.fStarted=false
 | some p=>e.fStarted=true∧e.fLast=p
theorem KX (hA:PR F M v)(h0:0≤i){k last:Option Ay}(h:v.drop i.toNat=By k++r)(hS:(S.length:Int)+1≤i)(hb:CW (e::S))(hk:Cf e.fKey last k=true)(hl:Hg e last) :
  Dn (NL F v) ((e::S).reverse,i,sh) ((Et e k::S).reverse,i+(By k).length,JB k sh):=by
 cases k with
 | none=>simpa[Et,By,JB] using Dn.refl _
 | some s=>
  simp only[Cf,Wu] at hk;obtain⟨⟨hm,hok⟩,hcmp⟩:=hk;refine Dn.step ?_;rw[round hA h0 (by simpa[By] using h) (by simpa using hS) hb];have hp:pl ⟨4,0,s,0⟩=true:=by simp[pl,hok]
  have ht:(e.fStarted&&(BM s e.fLast||decide (s=e.fLast)))=false:=by
   cases last with
   | none=>simp only[Hg] at hl;rw[hl];rfl
   | some p=>obtain⟨h1,h2⟩:=hl;rw[h1,h2];simpa using hcmp
  simp only[Ol,hp,hm,ht,W1,Wz,W4,decide_true,WV,Bool.or_self];rfl
theorem Jx {k last:Option Ay}(hk:Cf e.fKey last k=true):(Et e k).fKey=false:=by
 cases k with
 | none=>simpa[Et,Cf] using hk
 | some s=>rfl
theorem If (k:Option Ay):(Et e k).fLeft=e.fLeft∧(Et e k).fPairs=e.fPairs:=by cases k<;>exact⟨rfl,rfl⟩
theorem Jv (hA:PR F M v)(h0:0≤i)(h:v.drop i.toNat=c::r)(hS:(S.length:Int)≤i)(hb:CW S)(hk:Jy S=false)(hp:pl c=true)(hn:decide (0<c.fN)=false) :
  Gg (NL F v) (S.reverse,i,sh) S (i+1) (GN S.length sh c):=by
 have hr:=round (sh:=sh) hA h0 h hS hb;unfold Gg
 cases S with
 | nil=>
  rw[W8 (by simp[JK])];refine Fin.step ?_;rw[hr];simp[Ol,hp,hn]
 | cons e S=>
  simp only[Jy] at hk
  split
  ·rename_i hc
   refine Fin.step ?_;rw[hr];simp[Ol,hp,hn,hk,hc]
  ·rename_i hc
   refine Dn.step ?_;rw[hr];simp[Ol,hp,hn,hk,hc]
theorem Hz (hA:PR F M v)(h0:0≤i)(h:v.drop i.toNat=c::r)(hS:(S.length:Int)≤i)(hb:CW S)(hk:Jy S=false)(hp:pl c=true)(hn:decide (0<c.fN)=true)(hv:c.fN≤v.length) :
  Dn (NL F v) (S.reverse,i,sh) ((⟨decide (c.fKind=6),c.fN,decide (c.fKind=6),[],false⟩::S).reverse,i+1,GN S.length sh c):=by
 have hr:=round (sh:=sh) hA h0 h hS hb;have hv':decide ((v.length:Int)<c.fN)=false:=by simpa using hv
 refine Dn.step ?_;rw[hr]
 cases S with
 | nil=>simp only[Ol,hp,hn,hv',W1,Wz,W4];rfl
 | cons e S=>
  simp only[Jy] at hk;simp only[Ol,hp,hn,hv',hk,W1,Wz,W4]
theorem BS:∀f:Fo,f.cnt≤f.flat.length
 | .nil=>W9 _
 | .cell k c r=>by have:=BS r;simp[Fo.cnt,Fo.flat];omega
 | .node k c kids r=>by have:=BS r;simp[Fo.cnt,Fo.flat];omega
theorem C8 {α:Type}{v xs r:List α}{i:Int}(h0:0≤i)(h:v.drop i.toNat=xs++r):v.drop (i+xs.length).toNat=r:=by
 rw[show(i+(xs.length:Int)).toNat=i.toNat+xs.length from by omega,← List.drop_drop,h,List.drop_left]
theorem Nr (hA:PR F M v){e':Av}{s:MR}{k:Option Ay}{r':Fo}
  (ih:∀(e:Av) (S:List Av) (i:Int) (sh:A6) (last:Option Ay) (r:List Al),1≤r'.cnt→r'.wf e.fPairs last=true→e.fKey=e.fPairs→e.fLeft=r'.cnt→Hg e last→(e.fPairs=false→last=none)→v.drop i.toNat=r'.flat++r→0≤i→(S.length:Int)+1≤i→CW S→
   Gg (NL F v) ((e::S).reverse,i,sh) S (i+r'.flat.length) (r'.sh (S.length+1) sh))
  (hd:Gg (NL F v) s (e'::S) i sh) (hl:e'.fLeft=r'.cnt+1) (hw:r'.wf e'.fPairs k=true) (hk:Hg e' k) (hm:e'.fPairs=false→k=none) (hv:v.drop i.toNat=r'.flat++r) (h0:0≤i) (hS:(S.length:Int)+1≤i) (hb:CW S) :
  Gg (NL F v) s S (i+r'.flat.length) (r'.sh (S.length+1) sh):=by
 by_cases h1:r'.cnt=0
 ·cases r' with
  | nil=>simpa[Fo.flat,Fo.sh] using hd.pop (by rw[hl];rfl)
  | cell _ _ _=>simp[Fo.cnt] at h1
  | node _ _ _ _=>simp[Fo.cnt] at h1
 ·have:=hd.more (by omega);refine Gg.of this (ih _ S i sh k r (by omega) hw rfl (by simp only;omega) ?_ hm hv h0 hS hb)
  cases k with
  | none=>exact hk
  | some p=>exact hk
theorem Ig {k last:Option Ay}(hl:Hg e last)(hm:e.fPairs=false→last=none)(hk:Cf e.fPairs last k=true):Hg (Et e k) k∧((Et e k).fPairs=false→k=none):=by
 cases k with
 | none=>
  have:e.fPairs=false:=by simpa[Cf] using hk
  rw[hm this] at hl;exact⟨hl,λ_=>rfl⟩
 | some s=>
  refine⟨⟨rfl,rfl⟩,λh=>?_⟩;have h:e.fPairs=false:=h;simp[Cf,h] at hk
theorem JJ (hA:PR F M v):∀(f:Fo) (e:Av) (S:List Av) (i:Int) (sh:A6) (last:Option Ay) (r:List Al),1≤f.cnt→f.wf e.fPairs last=true→e.fKey=e.fPairs→e.fLeft=f.cnt→Hg e last→(e.fPairs=false→last=none)→v.drop i.toNat=f.flat++r→0≤i→(S.length:Int)+1≤i→CW S→
   Gg (NL F v) ((e::S).reverse,i,sh) S (i+f.flat.length) (f.sh (S.length+1) sh):=by
 have hmax:∀(i:Int) (xs:List Al),0≤i→v.drop i.toNat=xs→xs.length≤v.length:=λi xs _ h=>by rw[← h,Xn];omega
 intro f
 induction f with
 | nil=>intro e S i sh last r h1;simp[Fo.cnt] at h1
 | cell k c r' ih=>
  intro e S i sh last r h1 hw hk hl hlo hm hv h0 hS hb;simp only[Fo.wf,Wu,W5] at hw;obtain⟨⟨⟨w1,w2⟩,w3⟩,w4⟩:=hw;simp only[Fo.flat,WD,Xh] at hv;have hcnt:=hmax i _ h0 hv;have hcf:=BS r';simp only[W0,Wx] at hcnt;have hvM:=hA.hv;have hMM:=hA.hM;simp only[Fo.cnt] at hl;have hb':CW (e::S):=λx hx=>by
   rcases List.mem_cons.1 hx with rfl | hx
   ·constructor<;>omega
   ·exact hb x hx
  have hkr:=KX (sh:=sh) hA h0 hv hS hb' (by rw[hk];exact w1) hlo;have hv1:=C8 h0 hv;obtain⟨kl,kp⟩:=If (e:=e) k;have hbk:CW (Et e k::S):=λx hx=>by
   rcases List.mem_cons.1 hx with rfl | hx
   ·rw[kl];exact hb' e (by simp)
   ·exact hb x hx
  have hd:=Jv (sh:=JB k sh) hA (by omega) hv1 (by simp only[Wx];omega) hbk (Jx (by rw[hk];exact w1)) w2 w3;obtain⟨q1,q2⟩:=Ig hlo hm w1;have hv2:=(B9 (by omega) hv1).2.1;have:=Nr hA ih (hd.of hkr) (by rw[kl,hl];rfl) (by rw[kp];exact w4) q1 q2 hv2 (by omega) (by omega) hb;simp only[Fo.flat,Fo.sh,W0,Wx];rw[show i+((((By k).length+(r'.flat.length+1):Nat)):Int)=i+(By k).length+1+r'.flat.length from by omega];exact this
 | node k c kids r' ihk ih=>
  intro e S i sh last r h1 hw hk hl hlo hm hv h0 hS hb;simp only[Fo.wf,Wu,Wp] at hw;obtain⟨⟨⟨⟨⟨w1,w2⟩,w3⟩,w5⟩,w6⟩,w4⟩:=hw;simp only[Fo.flat,WD,Xh] at hv;have hcnt:=hmax i _ h0 hv;have hcf:=BS r';have hck:=BS kids;simp only[W0,Wx] at hcnt;have hvM:=hA.hv;have hMM:=hA.hM;simp only[Fo.cnt] at hl;have hb':CW (e::S):=λx hx=>by
   rcases List.mem_cons.1 hx with rfl | hx
   ·constructor<;>omega
   ·exact hb x hx
  have hkr:=KX (sh:=sh) hA h0 hv hS hb' (by rw[hk];exact w1) hlo;have hv1:=C8 h0 hv;obtain⟨kl,kp⟩:=If (e:=e) k;have hbk:CW (Et e k::S):=λx hx=>by
   rcases List.mem_cons.1 hx with rfl | hx
   ·rw[kl];exact hb' e (by simp)
   ·exact hb x hx
  have hn:=Hz (sh:=JB k sh) hA (by omega) hv1 (by simp only[Wx];omega) hbk (Jx (by rw[hk];exact w1)) w2 (by simpa using w3) (by omega);have hv2:=(B9 (by omega) hv1).2.1;have hd:=ihk ⟨decide (c.fKind=6),c.fN,decide (c.fKind=6),[],false⟩ (Et e k::S) (i+(By k).length+1) (GN (S.length+1) (JB k sh) c) none _ (by omega) w6 rfl w5 rfl (λ_=>rfl) hv2 (by omega) (by simp only[Wx];omega) hbk;obtain⟨q1,q2⟩:=Ig hlo hm w1;have hv3:=C8 (by omega) hv2;have:=Nr hA ih ((hd.of hn).of hkr) (by rw[kl,hl];rfl) (by rw[kp];exact w4) q1 q2 hv3 (by omega) (by omega) hb;simp only[Fo.flat,Fo.sh,W0,Wx];rw[show i+((((By k).length+(kids.flat.length+r'.flat.length+1):Nat)):Int)=i+(By k).length+1+kids.flat.length+r'.flat.length from by omega];exact this
end
theorem NJ {S O:Type}{body:S→Option (Stp S O)}{o:O}:∀{n:Nat} {s:S} (k:Nat),BB body n s=some o→BB body (n+k) s=some o
 | 0,s,k,h=>by cases h
 | n+1,s,k,h=>by
  rw[show n+1+k=n+k+1 from by omega,BB];rw[BB] at h
  cases hb:body s with
  | none=>rw[hb] at h;cases h
  | some t=>
   rw[hb] at h
   cases t with
   | next s'=>exact NJ k h
   | out o'=>exact h
theorem Fin.eq {S O:Type}{body:S→Option (Stp S O)}{s:S}{o o':O}{n:Nat}(h:Fin body s o)(h':BB body n s=some o'):o'=o:=by
 obtain⟨k,hk⟩:=h;have:=NJ k h';rw[hk n] at this;exact(AI this).symm
theorem LR:∀{S:List Av},CW S→CW (JK S)∧(JK S).length≤S.length
 | [],h=>⟨h,W9 _⟩
 | e::S,h=>by
  have hS:CW S:=λx hx=>h x (by simp[hx]);have he:=h e (by simp);unfold JK
  cases hd:decide (1<e.fLeft) with
  | true=>
   simp only[Wp] at hd;refine⟨λx hx=>?_,by simp⟩;rcases List.mem_cons.1 hx with rfl | hx
   ·simp only;omega
   ·exact hS x hx
  | false=>
   obtain⟨h1,h2⟩:=LR hS;exact⟨h1,by simp only[Wz,Wx];omega⟩
theorem So {n:Int}{S:List Av}{i:Int}{sh:A6}{c:Al}{σ:MR}(hb:CW S)(hS:(S.length:Int)≤i)(hN:c.fN≤9223372036854775807)(h:Ol n S i sh c = .next σ):∃S' sh',σ=(S'.reverse,i+1,sh')∧CW S'∧(S'.length:Int)≤i+1:=by
 unfold Ol at h
 cases hp:pl c with
 | false=>simp[hp] at h
 | true=>
  simp only[hp,W1,Wz] at h
  cases S with
  | nil=>
   simp only at h
   cases hn:decide (0<c.fN) with
   | false=>simp[hn] at h
   | true=>
    simp only[hn,W4] at h
    cases hm:decide (n<c.fN) with
    | true=>simp[hm] at h
    | false=>
     simp only[hm,Wz,Stp.next.injEq] at h;refine⟨[_],_,h.symm,λx hx=>?_,by simp at hS ⊢;omega⟩;simp only[WG] at hx;subst hx;simp only[Wp] at hn;exact⟨by simp only;omega,hN⟩
  | cons e S=>
   have he:=hb e (by simp);have hbS:CW S:=λx hx=>hb x (by simp[hx]);simp only[Wx] at hS
   cases hk:e.fKey with
   | true=>
    simp only[hk,W4] at h
    cases hq:(!decide (c.fKind=4)||(e.fStarted&&(BM c.fStr e.fLast||decide (c.fStr=e.fLast)))) with
    | true=>rw[hq] at h;simp at h
    | false=>
     rw[hq] at h;simp only[Wz,Stp.next.injEq] at h;refine⟨_::S,_,h.symm,λx hx=>?_,by simp only[Wx];omega⟩;rcases List.mem_cons.1 hx with rfl | hx
     ·exact he
     ·exact hbS x hx
   | false=>
    simp only[hk,Wz] at h
    cases hn:decide (0<c.fN) with
    | true=>
     simp only[hn,W4] at h
     cases hm:decide (n<c.fN) with
     | true=>simp[hm] at h
     | false=>
      simp only[hm,Wz,Stp.next.injEq] at h;refine⟨_::e::S,_,h.symm,λx hx=>?_,by simp only[Wx];omega⟩;rcases List.mem_cons.1 hx with rfl | hx
      ·simp only[Wp] at hn;exact⟨by simp only;omega,hN⟩
      ·exact hb x hx
    | false=>
     simp only[hn,Wz] at h
     cases hq:decide (JK (e::S)=[]) with
     | true=>rw[hq] at h;simp at h
     | false=>
      rw[hq] at h;simp only[Wz,Stp.next.injEq] at h;obtain⟨h1,h2⟩:=LR hb;simp only[Wx] at h2;exact⟨_,_,h.symm,h1,by omega⟩
theorem KU {F M:Nat}{v:List Al}(hA:PR F M v):∃o,BB (NL F v) F (([]:List Av),0,(⟨0,0,false,false⟩:A6))=some o∧True:=by
 refine ES (λσ=>∃S i sh,σ=(S.reverse,i,sh)∧CW S∧(S.length:Int)≤i∧0≤i∧i≤v.length) (λσ=>v.length-σ.2.1.toNat) (λ_=>True) (λσ hI=>?_) F _ ⟨[],0,_,rfl,(λx hx=>by cases hx),WJ _,WJ _,by omega⟩ (by have:=hA.hv;have:=hA.hF;simp;omega);obtain⟨S,i,sh,rfl,hb,hS,h0,hi⟩:=hI
 by_cases hx:i<v.length
 ·obtain⟨c,hc⟩:∃c,v[i.toNat]? =some c:=⟨v[i.toNat]'(by omega),Wv (by omega)⟩
  have hdr:v.drop i.toNat=c::v.drop (i.toNat+1):=by rw[List.drop_eq_getElem_cons (by omega)];congr 1;exact(List.getElem?_eq_some_iff.1 hc).2
  have hr:=round (sh:=sh) hA h0 hdr hS hb
  cases hl:Ol v.length S i sh c with
  | next τ=>
   obtain⟨S',sh',rfl,h1,h2⟩:=So hb hS (hA.hc c (Wy hc)).2.2 hl;exact .inl ⟨_,by rw[hr,hl],⟨S',i+1,sh',rfl,h1,h2,by omega,by omega⟩,by simp only;omega⟩
  | out o=>exact .inr ⟨o,by rw[hr,hl],trivial⟩
 ·refine .inr ⟨.go sh,?_,trivial⟩;show CN F v S.reverse i sh=_;unfold CN;rw[A0 (by simpa using hx)]
def Fo.one:Fo→Bool
 | .cell none _ .nil=>true
 | .node none _ _ .nil=>true
 | _=>false
def Ln:A6:=⟨0,0,false,false⟩
theorem Sn {F M:Nat}{v:List Al}(hA:PR F M v){f:Fo}(h1:f.one=true)(hw:f.wf false none=true){r:List Al}(hv:v=f.flat++r):Fin (NL F v) ([],0,Ln) (.ret (f.flat.length,f.sh 0 Ln,true)):=by
 have h0:v.drop (0:Int).toNat=f.flat++r:=by rw[hv];rfl
 have hlen:f.flat.length≤v.length:=by rw[hv];simp
 cases f with
 | nil=>cases h1
 | cell k c r'=>
  cases k with
  | some s=>cases h1
  | none=>
   cases r' with
   | nil=>
    simp only[Fo.wf,Wu,W5] at hw;have:=Jv (S:=[]) (sh:=Ln) hA (WJ 0) h0 (by simp) (λx hx=>by cases hx) rfl hw.1.1.2 hw.1.2;unfold Gg at this;rw[W8 (show JK []=[] from rfl)] at this;simpa[Fo.flat,Fo.sh,By,JB] using this
   | cell _ _ _=>cases h1
   | node _ _ _ _=>cases h1
 | node k c kids r'=>
  cases k with
  | some s=>cases h1
  | none=>
   cases r' with
   | nil=>
    simp only[Fo.wf,Wu,Wp] at hw;obtain⟨⟨⟨⟨⟨w1,w2⟩,w3⟩,w5⟩,w6⟩,w4⟩:=hw;have hck:=BS kids;simp only[Fo.flat,By,Xr,Xj,Wx] at hlen;have hvM:=hA.hv;have hMM:=hA.hM;have hn:=Hz (S:=[]) (sh:=Ln) hA (WJ 0) h0 (by simp) (λx hx=>by cases hx) rfl w2 (by simpa using w3) (by omega);have hv2:=(B9 (WJ 0) h0).2.1;have hd:=JJ hA kids ⟨decide (c.fKind=6),c.fN,decide (c.fKind=6),[],false⟩ [] (0+1) (GN 0 Ln c) none r (by omega) w6 rfl w5 rfl (λ_=>rfl) (by rw[hv2];simp[Fo.flat]) (by omega) (by simp) (λx hx=>by cases hx);unfold Gg at hd;rw[W8 (show JK []=[] from rfl)] at hd;have:=hn.fin hd;have e:((0:Int)+1+kids.flat.length)=((Fo.node none c kids .nil).flat.length:Int):=by simp[Fo.flat,By];omega
    rw[e] at this;exact this
   | cell _ _ _=>cases h1
   | node _ _ _ _=>cases h1
theorem Sm {F M:Nat}{v:List Al}(hA:PR F M v){f:Fo}(h1:f.one=true)(hw:f.wf false none=true){r:List Al}(hv:v=f.flat++r):Iu F v=some ((f.flat.length:Int),f.sh 0 Ln,true):=by
 obtain⟨o,ho,_⟩:=KU hA;have e:=(Sn hA h1 hw hv).eq ho;subst e;unfold Iu;rw[AK ho];rfl
def G5 (m:Bool)(last:Option Ay)(xs:List Al):Option (Option Ay×List Al):=
 bif m then match xs with
  | []=>none
  | c::r=>bif pl c&&decide (c.fKind=4)&&Cf true last (some c.fStr) then some (some c.fStr,r) else none
 else some (none,xs)
def Gv:Nat→Bool→Option Ay→Nat→List Al→Option (Fo×List Al)
 | 0,_,_,_,_=>none
 | _+1,_,_,0,xs=>some (.nil,xs)
 | F+1,m,last,k+1,xs=>
  match G5 m last xs with
  | none=>none
  | some (_,[])=>none
  | some (key,c::xs')=>
   bif !pl c then none else
   bif decide (0<c.fN) then
    match Gv F (decide (c.fKind=6)) none c.fN.toNat xs' with
    | none=>none
    | some (kids,ys)=>match Gv F m key k ys with
     | none=>none
     | some (r,zs)=>some (.node key c kids r,zs)
   else match Gv F m key k xs' with
    | none=>none
    | some (r,zs)=>some (.cell key c r,zs)
theorem Mv {c:Al}(hp:pl c=true)(hk:c.fKind=4):c=⟨4,0,c.fStr,0⟩∧c.fStr.all SR=true:=by
 cases c
 simp only at hk;subst hk;simp[pl] at hp;obtain⟨h1,h2,h3⟩:=hp;subst h1;subst h2;exact⟨rfl,by simpa using h3⟩
theorem Ki {m:Bool}{last key:Option Ay}{xs r:List Al}(h:G5 m last xs=some (key,r)):xs=By key++r∧Cf m last key=true:=by
 unfold G5 at h
 cases m with
 | false=>cases h;exact⟨rfl,rfl⟩
 | true=>
  simp only[W4] at h
  cases xs with
  | nil=>cases h
  | cons c r'=>
   simp only at h
   cases hb:(pl c&&decide (c.fKind=4)&&Cf true last (some c.fStr)) with
   | false=>rw[hb] at h;cases h
   | true=>
    rw[hb] at h;simp only[Wu,Wp] at hb
    cases h
    exact⟨by rw[(Mv hb.1.1 hb.1.2).1];rfl,hb.2⟩
theorem Ga:∀(F:Nat) (m:Bool) (last:Option Ay) (k:Nat) (xs:List Al) (f:Fo) (ys:List Al),Gv F m last k xs=some (f,ys)→xs=f.flat++ys∧f.wf m last=true∧f.cnt=k
 | 0,_,_,_,_,_,_,h=>by cases h
 | F+1,m,last,0,xs,f,ys,h=>by cases h;exact⟨rfl,rfl,rfl⟩
 | F+1,m,last,k+1,xs,f,ys,h=>by
  rw[Gv] at h
  cases hk:G5 m last xs with
  | none=>rw[hk] at h;cases h
  | some p=>
   obtain⟨key,r⟩:=p;obtain⟨h1,h2⟩:=Ki hk;rw[hk] at h
   cases r with
   | nil=>cases h
   | cons c xs'=>
    simp only at h
    cases hp:pl c with
    | false=>rw[hp] at h;cases h
    | true=>
     rw[hp] at h;simp only[W1,Wz] at h
     cases hn:decide (0<c.fN) with
     | true=>
      rw[hn] at h;simp only[W4] at h
      cases hq:Gv F (decide (c.fKind=6)) none c.fN.toNat xs' with
      | none=>rw[hq] at h;cases h
      | some q=>
       obtain⟨kids,zs⟩:=q;rw[hq] at h;simp only at h
       cases hr:Gv F m key k zs with
       | none=>rw[hr] at h;cases h
       | some q2=>
        obtain⟨r2,us⟩:=q2;rw[hr] at h;cases h;obtain⟨a1,a2,a3⟩:=Ga F _ _ _ _ _ _ hq;obtain⟨b1,b2,b3⟩:=Ga F _ _ _ _ _ _ hr;refine⟨by rw[h1,a1,b1];simp[Fo.flat],?_,by simp[Fo.cnt,b3]⟩;simp only[Wp] at hn;simp only[Fo.wf,h2,hp,a2,b2,WR,WB,Wu,Wp];omega
     | false=>
      rw[hn] at h;simp only[Wz] at h
      cases hr:Gv F m key k xs' with
      | none=>rw[hr] at h;cases h
      | some q2=>
       obtain⟨r2,us⟩:=q2;rw[hr] at h;cases h;obtain⟨b1,b2,b3⟩:=Ga F _ _ _ _ _ _ hr;exact⟨by rw[h1,b1];simp[Fo.flat],by simp[Fo.wf,h2,hp,b2,hn],by simp[Fo.cnt,b3]⟩
theorem Gp:∀(F F':Nat) (m:Bool) (last:Option Ay) (k:Nat) (xs:List Al),xs.length<F→xs.length<F'→Gv F m last k xs=Gv F' m last k xs
 | 0,_,_,_,_,_,h,_=>by omega
 | _+1,0,_,_,_,_,_,h=>by omega
 | F+1,F'+1,m,last,0,xs,_,_=>rfl
 | F+1,F'+1,m,last,k+1,xs,h,h'=>by
  rw[Gv,Gv]
  cases hk:G5 m last xs with
  | none=>rfl
  | some p=>
   obtain⟨key,r⟩:=p;obtain⟨h1,h2⟩:=Ki hk
   cases r with
   | nil=>rfl
   | cons c xs'=>
    have hl:xs'.length<xs.length:=by rw[h1];simp;omega
    simp only
    cases hp:pl c with
    | false=>rfl
    | true=>
     simp only[W1,Wz]
     cases hn:decide (0<c.fN) with
     | true=>
      simp only[W4];rw[Gp F F' _ _ _ xs' (by omega) (by omega)]
      cases hq:Gv F' (decide (c.fKind=6)) none c.fN.toNat xs' with
      | none=>rfl
      | some q=>
       obtain⟨kids,zs⟩:=q;have:=(Ga _ _ _ _ _ _ _ hq).1;have hz:zs.length≤xs'.length:=by rw[this];simp
       simp only;rw[Gp F F' m key k zs (by omega) (by omega)]
     | false=>
      simp only[Wz];rw[Gp F F' m key k xs' (by omega) (by omega)]
def OV {S:Type}(body:S→Option (Stp S Ul))(s:S):Prop:=∃sh',Fin body s (.ret (0,sh',false))∨Fin body s (.go sh')
theorem Dn.bad {S:Type}{body:S→Option (Stp S Ul)}{s t:S}(h:Dn body s t)(h':OV body t):OV body s:=by
 obtain⟨sh',h' | h'⟩:=h'
 ·exact⟨sh',.inl (h.fin h')⟩
 ·exact⟨sh',.inr (h.fin h')⟩
section
variable {F M : Nat} {v : List Al}
theorem OV.end_ {S:List Av}{i:Int}{sh:A6}(h0:0≤i)(h:v.drop i.toNat=[]):OV (NL F v) (S.reverse,i,sh):=by
 refine⟨sh,.inr (Fin.step ?_)⟩;show CN F v S.reverse i sh=_;unfold CN;rw[A0];have:v.length≤i.toNat:=by simpa using h
 simp;omega
theorem OV.pl_ (hA:PR F M v){S:List Av}{i:Int}{sh:A6}{c:Al}{r:List Al}(h0:0≤i)(h:v.drop i.toNat=c::r)(hS:(S.length:Int)≤i)(hb:CW S)(hp:pl c=false):OV (NL F v) (S.reverse,i,sh):=by
 refine⟨sh,.inl (Fin.step ?_)⟩;rw[round hA h0 h hS hb];simp[Ol,hp]
theorem OQ (hA:PR F M v):∀(P:Nat) (k:Nat) (e:Av) (S:List Av) (i:Int) (sh:A6) (last:Option Ay) (xs:List Al),xs.length<P→Gv P e.fPairs last (k+1) xs=none→e.fKey=e.fPairs→e.fLeft=(k:Int)+1→(k:Int)+1≤9223372036854775807→Hg e last→(e.fPairs=false→last=none)→v.drop i.toNat=xs→0≤i→(S.length:Int)+1≤i→CW S→
  OV (NL F v) ((e::S).reverse,i,sh):=by
 intro P
 induction P with
 | zero=>intro k e S i sh last xs h;omega
 | succ P ih=>
  intro k e S i sh last xs hP hn hk hl hkm hlo hm hv h0 hS hb;have hb':CW (e::S):=λx hx=>by
   rcases List.mem_cons.1 hx with rfl | hx
   ·constructor<;>omega
   ·exact hb x hx
  rw[Gv] at hn
  cases hq:G5 e.fPairs last xs with
  | none=>
   unfold G5 at hq
   cases hpr:e.fPairs with
   | false=>rw[hpr] at hq;cases hq
   | true=>
    rw[hpr] at hq hk;simp only[W4] at hq
    cases xs with
    | nil=>exact OV.end_ h0 hv
    | cons c r=>
     simp only at hq
     cases hp:pl c with
     | false=>exact OV.pl_ hA h0 hv (by simpa using hS) hb' hp
     | true=>
      refine⟨sh,.inl (Fin.step ?_)⟩;rw[round hA h0 hv (by simpa using hS) hb'];have ht:(!decide (c.fKind=4)||(e.fStarted&&(BM c.fStr e.fLast||decide (c.fStr=e.fLast))))=true:=by
       rw[hp] at hq
       cases h4:decide (c.fKind=4) with
       | false=>rfl
       | true=>
        rw[h4] at hq;simp only[Bool.and_self,WB] at hq;have hok:=(Mv hp (by simpa using h4)).2
        cases last with
        | none=>simp[Cf,hok] at hq
        | some p=>
         obtain⟨q1,q2⟩:=hlo;rw[q1,q2]
         cases hc:(BM c.fStr p||decide (c.fStr=p)) with
         | true=>rfl
         | false=>simp[Cf,hok,hc] at hq
      simp only[Ol,hp,hk,ht,W1,Wz,W4]
  | some q=>
   obtain⟨key,r⟩:=q;obtain⟨h1,h2⟩:=Ki hq;rw[hq] at hn;have hkr:=KX (sh:=sh) hA h0 (by rw[hv];exact h1) hS hb' (by rw[hk];exact h2) hlo;have hv1:=C8 h0 (hv.trans h1);obtain⟨kl,kp⟩:=If (e:=e) key;obtain⟨q1,q2⟩:=Ig hlo hm h2;have hbk:CW (Et e key::S):=λx hx=>by
    rcases List.mem_cons.1 hx with rfl | hx
    ·rw[kl];exact hb' e (by simp)
    ·exact hb x hx
   refine hkr.bad ?_
   cases r with
   | nil=>exact OV.end_ (by omega) hv1
   | cons c xs'=>
    have hlen:xs'.length+1≤xs.length:=by rw[h1];simp
    have hvl:xs.length≤v.length:=by rw[← hv,Xn];omega
    have hvM:=hA.hv;have hMM:=hA.hM;have hkk:=Jx (e:=e) (last:=last) (k:=key) (by rw[hk];exact h2);simp only at hn;have hSk:(((Et e key::S).length:Nat):Int)≤i+(By key).length:=by simp only[Wx];omega
    cases hp:pl c with
    | false=>exact OV.pl_ hA (by omega) hv1 hSk hbk hp
    | true=>
     rw[hp] at hn;simp only[W1,Wz] at hn;obtain⟨g1,g2,g3⟩:=B9 (by omega) hv1;have hcN:=(hA.hc c (Wy g1)).2.2;have more:∀(s:MR) (j:Int) (sh':A6) (zs:List Al),Gg (NL F v) s (Et e key::S) j sh'→v.drop j.toNat=zs→zs.length<P→0≤j→(S.length:Int)+1≤j→Gv P e.fPairs key k zs=none→OV (NL F v) s:=λs j sh' zs hd hz hzl hj hSj hnone=>by
      cases k with
      | zero=>
       cases P with
       | zero=>omega
       | succ P=>cases hnone
      | succ k=>
       have:=hd.more (by rw[kl];omega);refine this.bad (ih k _ S j sh' key zs hzl (by rw[kp];exact hnone) rfl (by simp only[kl];omega) (by omega) ?_ (by simpa using q2) hz hj hSj hb)
       cases key with
       | none=>exact q1
       | some p=>exact q1
     cases hN:decide (0<c.fN) with
     | true=>
      rw[hN] at hn;simp only[W4] at hn;simp only[Wp] at hN
      by_cases hbig:c.fN≤v.length
      ·have hnd:=Hz (sh:=JB key sh) hA (by omega) hv1 hSk hbk (by simpa[Jy] using hkk) hp (by simpa using hN) hbig;refine hnd.bad ?_
       cases hks:Gv P (decide (c.fKind=6)) none c.fN.toNat xs' with
       | none=>
        obtain⟨n',hn'⟩:∃n',c.fN.toNat=n'+1:=⟨c.fN.toNat-1,by omega⟩
        rw[hn'] at hks;exact ih n' _ _ _ _ none xs' (by omega) hks rfl (by simp only;omega) (by omega) rfl (λ_=>rfl) g2 (by omega) (by simp only[Wx];omega) hbk
       | some q=>
        obtain⟨kids,zs⟩:=q;rw[hks] at hn;simp only at hn;have hn2:Gv P e.fPairs key k zs=none:=by
         cases hz:Gv P e.fPairs key k zs with
         | none=>rfl
         | some q=>rw[hz] at hn;cases hn
        obtain⟨a1,a2,a3⟩:=Ga _ _ _ _ _ _ _ hks;have hd:=JJ hA kids ⟨decide (c.fKind=6),c.fN,decide (c.fKind=6),[],false⟩ (Et e key::S) (i+(By key).length+1) (GN (S.length+1) (JB key sh) c) none zs (by omega) a2 rfl (by simp only;omega) rfl (λ_=>rfl) (by rw[g2];exact a1) (by omega) (by simp only[Wx];omega) hbk;have hz:v.drop (i+(By key).length+1+kids.flat.length).toNat=zs:=C8 (by omega) (g2.trans a1);have hzl:zs.length≤xs'.length:=by rw[a1];simp
        exact more _ _ _ zs hd hz (by omega) (by omega) (by omega) hn2
      ·refine⟨GN (Et e key::S).length (JB key sh) c,.inl (Fin.step ?_)⟩;rw[round hA (by omega) hv1 hSk hbk];have hbig':decide ((v.length:Int)<c.fN)=true:=by simpa using hbig
       simp only[Ol,hp,hkk,hbig',hN,W1,Wz,W4,decide_true]
     | false=>
      rw[hN] at hn;simp only[Wz] at hn;have hn2:Gv P e.fPairs key k xs'=none:=by
       cases hz:Gv P e.fPairs key k xs' with
       | none=>rfl
       | some q=>rw[hz] at hn;cases hn
      have hd:=Jv (sh:=JB key sh) hA (by omega) hv1 hSk hbk (by simpa[Jy] using hkk) hp hN;exact more _ _ _ xs' hd g2 (by omega) (by omega) (by omega) hn2
def Gr (xs:List Al):Option (Fo×List Al):=Gv (xs.length+1) false none 1 xs
theorem Pt {P:Nat}{xs ys:List Al}{f:Fo}(h:Gv P false none 1 xs=some (f,ys)):f.one=true:=by
 obtain⟨h1,h2,h3⟩:=Ga _ _ _ _ _ _ _ h
 cases f with
 | nil=>cases h3
 | cell k c r=>
  cases r with
  | nil=>
   cases k with
   | none=>rfl
   | some s=>simp[Fo.wf,Cf] at h2
  | cell _ _ _=>simp[Fo.cnt] at h3
  | node _ _ _ _=>simp[Fo.cnt] at h3
 | node k c kids r=>
  cases r with
  | nil=>
   cases k with
   | none=>rfl
   | some s=>simp[Fo.wf,Cf] at h2
  | cell _ _ _=>simp[Fo.cnt] at h3
  | node _ _ _ _=>simp[Fo.cnt] at h3
theorem QL (hA:PR F M v)(h:Gr v=none):OV (NL F v) ([],0,Ln):=by
 have hlf:CW []:=λx hx=>by cases hx
 unfold Gr at h;rw[Gv] at h;simp only[G5,Wz] at h
 cases v with
 | nil=>exact OV.end_ (S:=[]) (WJ 0) rfl
 | cons c xs'=>
  have hv1:(c::xs').drop (0:Int).toNat=c::xs':=rfl;have hvM:=hA.hv;have hMM:=hA.hM;simp only at h
  cases hp:pl c with
  | false=>exact OV.pl_ (S:=[]) hA (WJ 0) hv1 (by simp) hlf hp
  | true=>
   rw[hp] at h;simp only[W1,Wz] at h;have hcN:=(hA.hc c (by simp)).2.2
   cases hN:decide (0<c.fN) with
   | true=>
    rw[hN] at h;simp only[W4] at h;simp only[Wp] at hN
    by_cases hbig:c.fN≤(c::xs').length
    ·have hnd:=Hz (S:=[]) (sh:=Ln) hA (WJ 0) hv1 (by simp) hlf rfl hp (by simpa using hN) hbig;refine hnd.bad ?_
     cases hks:Gv (c::xs').length (decide (c.fKind=6)) none c.fN.toNat xs' with
     | none=>
      obtain⟨n',hn'⟩:∃n',c.fN.toNat=n'+1:=⟨c.fN.toNat-1,by omega⟩
      rw[hn'] at hks;exact OQ hA (c::xs').length n' ⟨decide (c.fKind=6),c.fN,decide (c.fKind=6),[],false⟩ [] (0+1) _ none xs' (by simp) hks rfl (by simp only;omega) (by omega) rfl (λ_=>rfl) rfl (by omega) (by simp) hlf
     | some q=>rw[hks] at h;cases h
    ·refine⟨GN 0 Ln c,.inl (Fin.step ?_)⟩;rw[show NL F (c::xs') (([]:List Av),0,Ln)=_ from round (S:=[]) hA (WJ 0) hv1 (by simp) hlf];have hbig':decide (((c::xs').length:Int)<c.fN)=true:=by simpa using hbig
     simp only[Ol,hp,hbig',hN,W1,Wz,W4,decide_true]
   | false=>rw[hN] at h;cases h
theorem T1 (hA:PR F M v):(∃f ys,Gr v=some (f,ys)∧Iu F v=some ((f.flat.length:Int),f.sh 0 Ln,true))∨(Gr v=none∧∃sh',Iu F v=some (0,sh',false)):=by
 cases h:Gr v with
 | some q=>
  obtain⟨f,ys⟩:=q;obtain⟨h1,h2,h3⟩:=Ga _ _ _ _ _ _ _ h;exact .inl ⟨f,ys,rfl,Sm hA (Pt h) h2 h1⟩
 | none=>
  refine .inr ⟨rfl,?_⟩;obtain⟨o,ho,_⟩:=KU hA;obtain⟨sh',hb | hb⟩:=QL hA h
  ·have e:=hb.eq ho;subst e;exact⟨sh',by unfold Iu;rw[AK ho];rfl⟩
  ·have e:=hb.eq ho;subst e;exact⟨sh',by unfold Iu;rw[AK ho];rfl⟩
end
theorem Hq {x:Int}(h : -9223372036854775808≤x)(h':x≤9223372036854775807):IntKind.wrap .i64 x=x:=by
 simp only[IntKind.wrap,IntKind.bits,IntKind.signed];simp;omega
def Fo.dep:Fo→Nat
 | .nil=>0
 | .cell _ _ r=>max 1 r.dep
 | .node _ _ kids r=>max (kids.dep+1) r.dep
theorem E1 (k:Option Ay)(s:A6):(JB k s).fDepth=s.fDepth∧(JB k s).fOutside=s.fOutside∧(JB k s).fLong=(s.fLong||(By k).any λc=>decide (200<(c.fStr.length:Int))):=by
 cases k with
 | none=>simp[JB,By]
 | some x=>simp[JB,Vm,By]
theorem I1:∀(f:Fo) (d:Nat) (s:A6),(d:Int)≤s.fDepth→(f.sh d s).fDepth=max s.fDepth ((d:Int)+f.dep)
 | .nil,d,s,h=>by simp only[Fo.sh,Fo.dep];omega
 | .cell k c r,d,s,h=>by
  have hk:=(E1 k s).1;have e:(GN d (JB k s) c).fDepth=max s.fDepth ((d:Int)+1):=by rw[GN,hk]
  rw[Fo.sh,I1 r d _ (by rw[e];omega),e,Fo.dep];omega
 | .node k c kids r,d,s,h=>by
  have hk:=(E1 k s).1;have e:(GN d (JB k s) c).fDepth=max s.fDepth ((d:Int)+1):=by rw[GN,hk]
  have e2:=I1 kids (d+1) (GN d (JB k s) c) (by rw[e];omega);rw[e] at e2;rw[Fo.sh,I1 r d _ (by rw[e2];omega),e2,Fo.dep];omega
def HA (c:Al):Bool:=decide (c.fKind=3)&&!(decide ((-1000000000000)≤c.fInt)&&decide (c.fInt≤1000000000000))
def GJ (c:Al):Bool:=decide (200<(c.fStr.length:Int))
theorem NP (k:Option Ay):(By k).any HA=false:=by cases k<;>simp[By,HA]
theorem Mj:∀(f:Fo) (d:Nat) (s:A6),(f.sh d s).fOutside=(s.fOutside||f.flat.any HA)
 | .nil,d,s=>by simp[Fo.sh,Fo.flat]
 | .cell k c r,d,s=>by
  rw[Fo.sh,Mj r,GN,(E1 k s).2.1];simp only[Fo.flat,List.any_append,List.any_cons,NP,W7,Bool.or_assoc];rfl
 | .node k c kids r,d,s=>by
  rw[Fo.sh,Mj r,Mj kids,GN,(E1 k s).2.1];simp only[Fo.flat,List.any_append,List.any_cons,NP,W7,Bool.or_assoc];rfl
theorem Kf:∀(f:Fo) (d:Nat) (s:A6),(f.sh d s).fLong=(s.fLong||f.flat.any GJ)
 | .nil,d,s=>by simp[Fo.sh,Fo.flat]
 | .cell k c r,d,s=>by
  rw[Fo.sh,Kf r,GN,(E1 k s).2.2];simp only[Fo.flat,List.any_append,List.any_cons,Bool.or_assoc];rfl
 | .node k c kids r,d,s=>by
  rw[Fo.sh,Kf r,Kf kids,GN,(E1 k s).2.2];simp only[Fo.flat,List.any_append,List.any_cons,Bool.or_assoc];rfl
def SS (c:Al):Int:=
 bif decide (c.fKind=1) then 4 else bif decide (c.fKind=2) then 5-c.fInt else bif decide (c.fKind=3) then((Lib.itoa c.fInt).length:Int) else
 bif decide (c.fKind=4) then Jp c.fStr else 2
def M3:Option Ay→Int
 | none=>0
 | some s=>Jp s+1
def Fo.byt:Fo→Int
 | .nil=>0
 | .cell k c r=>M3 k+SS c+r.byt
 | .node k c kids r=>M3 k+(c.fN+1)+kids.byt+r.byt
theorem KQ (s:Ay):2≤Jp s:=by unfold Jp;omega
theorem Ko (k:Option Ay):0≤M3 k:=by
 cases k with
 | none=>exact WJ 0
 | some s=>have:=KQ s;simp only[M3];omega
theorem P7 {c:Al}(hp:pl c=true):0≤SS c:=by
 unfold SS
 cases h1:decide (c.fKind=1) with
 | true=>simp
 | false=>
  cases h2:decide (c.fKind=2) with
  | true=>
   simp[pl,h1,h2] at hp;simp only[Wz,W4];omega
  | false=>
   cases h3:decide (c.fKind=3) with
   | true=>simp
   | false=>
    cases h4:decide (c.fKind=4) with
    | true=>have:=KQ c.fStr;simp only[Wz,W4];omega
    | false=>simp
theorem Tt {c:Al}(hp:pl c=true):0≤c.fN:=by
 simp only[pl,← Bool.decide_or] at hp
 cases h1:decide (c.fKind=1)<;>cases h2:decide (c.fKind=2)<;>cases h3:decide (c.fKind=3)<;>cases h4:decide (c.fKind=4)<;>cases h5:decide (c.fKind=5)<;>cases h6:decide (c.fKind=6)<;>simp[h1,h2,h3,h4,h5,h6] at hp<;>omega
theorem IC {c:Al}(hp:pl c=true)(hn:0<c.fN):(c.fKind=5∨c.fKind=6)∧c.fInt=0∧c.fStr=[]:=by
 cases h1:decide (c.fKind=1)<;>cases h2:decide (c.fKind=2)<;>cases h3:decide (c.fKind=3)<;>cases h4:decide (c.fKind=4)<;>cases h5:decide (c.fKind=5)<;>cases h6:decide (c.fKind=6)<;>simp[pl,h1,h2,h3,h4,h5,h6] at hp<;>(simp only[Wp,Wq] at *;first | omega | exact⟨by omega,hp.1,hp.2.1⟩)
theorem R5 {c:Al}(hp:pl c=true)(hn:decide (0<c.fN)=false):U2 c=SS c:=by
 have hN:=Tt hp;have h0:c.fN=0:=by simp only[Wq] at hn;omega
 unfold U2 SS;rw[h0]
 cases h1:decide (c.fKind=1) with
 | true=>rfl
 | false=>
  cases h2:decide (c.fKind=2) with
  | true=>
   simp[pl,h1,h2] at hp;simp only[Wz,W4];exact Hq (by omega) (by omega)
  | false=>rfl
theorem R4 {c:Al}(hp:pl c=true)(hn:0<c.fN)(hm:c.fN≤9223372036854775000):U2 c=c.fN+1:=by
 obtain⟨hk,_,_⟩:=IC hp hn;unfold U2;rw[Wt (by omega),Wt (by omega),Wt (by omega),Wt (by omega)];simp only[Wz];rw[Hq (x:=c.fN-1) (by omega) (by omega),Hq (by omega) (by omega)];omega
theorem GA:∀{f:Fo} {m:Bool} {l:Option Ay},f.wf m l=true→0≤f.byt
 | .nil,_,_,_=>WJ 0
 | .cell k c r,m,l,h=>by
  simp only[Fo.wf,Wu] at h;have h1:=GA h.2;have h2:=P7 h.1.1.2;have h3:=Ko k;simp only[Fo.byt];omega
 | .node k c kids r,m,l,h=>by
  simp only[Fo.wf,Wu,Wp] at h;have h1:=GA h.2;have h2:=GA h.1.2;have h3:=Ko k;simp only[Fo.byt];omega
theorem L3 (k:Option Ay)(s:A6)(h0:0≤s.fBytes)(h:s.fBytes+M3 k≤9223372036854775807):(JB k s).fBytes=s.fBytes+M3 k:=by
 cases k with
 | none=>simp[JB,M3]
 | some x=>
  have:=KQ x;simp only[M3] at h;simp only[JB,Vm,M3];exact Hq (by omega) (by omega)
theorem I2:∀(f:Fo) (m:Bool) (l:Option Ay) (d:Nat) (s:A6),f.wf m l=true→0≤s.fBytes→s.fBytes+f.byt≤9223372036854775000→(f.sh d s).fBytes=s.fBytes+f.byt
 | .nil,_,_,d,s,_,_,_=>by simp[Fo.sh,Fo.byt]
 | .cell k c r,m,l,d,s,hw,h0,h=>by
  simp only[Fo.wf,Wu,W5] at hw;obtain⟨⟨⟨w1,w2⟩,w3⟩,w4⟩:=hw;have h1:=GA w4;have h2:=P7 w2;have h3:=Ko k;simp only[Fo.byt] at h;have e1:=L3 k s h0 (by omega);have e:(GN d (JB k s) c).fBytes=s.fBytes+M3 k+SS c:=by
   rw[GN,e1,R5 w2 w3];exact Hq (by omega) (by omega)
  rw[Fo.sh,I2 r _ _ d _ w4 (by rw[e];omega) (by rw[e];omega),e,Fo.byt];omega
 | .node k c kids r,m,l,d,s,hw,h0,h=>by
  simp only[Fo.wf,Wu,Wp] at hw;obtain⟨⟨⟨⟨⟨w1,w2⟩,w3⟩,w5⟩,w6⟩,w4⟩:=hw;have h1:=GA w4;have h2:=GA w6;have h3:=Ko k;simp only[Fo.byt] at h;have e1:=L3 k s h0 (by omega);have e:(GN d (JB k s) c).fBytes=s.fBytes+M3 k+(c.fN+1):=by
   rw[GN,e1,R4 w2 w3 (by omega)];exact Hq (by omega) (by omega)
  have e2:=I2 kids _ _ (d+1) (GN d (JB k s) c) w6 (by rw[e];omega) (by rw[e];omega);rw[Fo.sh,I2 r _ _ d _ w4 (by rw[e2,e];omega) (by rw[e2,e];omega),e2,e,Fo.byt];omega
def La (s:Ay):Ay:=s.flatMap λc=>bif (decide (c=34)||decide (c=92)) then[92,c] else[c]
def Ic (s:Ay):Ay:=34::(La s++[34])
theorem KZ:∀s:Ay,(La s).length=s.length+s.count 34+s.count 92
 | []=>rfl
 | c::s=>by
  have ih:=KZ s;unfold La at ih ⊢;rw[List.flatMap_cons,W0,ih]
  by_cases h1:c=34
  ·subst h1;simp;omega
  ·by_cases h2:c=92
   ·subst h2;simp;omega
   ·simp[h1,h2,List.count_cons];omega
theorem N4 (s:Ay):((Ic s).length:Int)=Jp s:=by
 simp only[Ic,Wx,W0,KZ,Xf,Jp];omega
def JH (c:Al):Ay:=
 bif decide (c.fKind=1) then[110,117,108,108] else
 bif decide (c.fKind=2) then(bif decide (c.fInt=1) then[116,114,117,101] else[102,97,108,115,101]) else
 bif decide (c.fKind=3) then Lib.itoa c.fInt else
 bif decide (c.fKind=4) then Ic c.fStr else
 bif decide (c.fKind=6) then[123,125] else[91,93]
def LH:Option Ay→Ay
 | none=>[]
 | some s=>Ic s++[58]
def Rk (c:Al)(s:Ay):Ay:=bif decide (c.fKind=6) then 123::(s++[125]) else 91::(s++[93])
def Gn (first:Bool):Ay:=bif first then[] else[44]
def Fo.txt:Bool→Fo→Ay
 | _,.nil=>[]
 | b,.cell k c r=>Gn b++LH k++JH c++r.txt false
 | b,.node k c kids r=>Gn b++LH k++Rk c (kids.txt true)++r.txt false
theorem PA (k:Option Ay):((LH k).length:Int)=M3 k:=by
 cases k with
 | none=>rfl
 | some s=>simp only[LH,W0,M3,WT];have:=N4 s;omega
theorem QM {c:Al}(hp:pl c=true):((JH c).length:Int)=SS c:=by
  unfold JH SS
  cases h1:decide (c.fKind=1) with
  | true=>rfl
  | false=>
    cases h2:decide (c.fKind=2) with
    | true=>
      simp[pl,h1,h2] at hp;simp only[Wz,W4]
      cases h7:decide (c.fInt=1) with
      | true=>simp only[Wp] at h7;simp[h7]
      | false=>
                 simp only[Wq] at h7;have:c.fInt=0:=by omega
                 simp[this]
    | false=>
      cases h3:decide (c.fKind=3) with
      | true=>rfl
      | false=>
        cases h4:decide (c.fKind=4) with
        | true=>simpa using N4 c.fStr
        | false=>cases h6:decide (c.fKind=6)<;>rfl
theorem MI (c:Al)(s:Ay):(Rk c s).length=s.length+2:=by
 unfold Rk
 cases decide (c.fKind=6)<;>simp
theorem I0:∀(f:Fo) (m:Bool) (l:Option Ay) (b:Bool),f.wf m l=true→((f.txt b).length:Int)=f.byt+(bif b then((f.cnt-1:Nat):Int) else(f.cnt:Int))
 | .nil,m,l,b,_=>by cases b<;>rfl
 | .cell k c r,m,l,b,hw=>by
  simp only[Fo.wf,Wu,W5] at hw;obtain⟨⟨⟨w1,w2⟩,w3⟩,w4⟩:=hw;have ih:=I0 r _ _ false w4;have a:=PA k;have d:=QM w2;simp only[Wz] at ih
  cases b<;>simp only[Fo.txt,Fo.byt,Fo.cnt,Gn,W4,Wz,W0,Xf,WT]<;>omega
 | .node k c kids r,m,l,b,hw=>by
  simp only[Fo.wf,Wu,Wp] at hw;obtain⟨⟨⟨⟨⟨w1,w2⟩,w3⟩,w5⟩,w6⟩,w4⟩:=hw;have ih:=I0 r _ _ false w4;have ih2:=I0 kids _ _ true w6;have a:=PA k;have d:=MI c (kids.txt true);simp only[Wz,W4] at ih ih2
  cases b<;>simp only[Fo.txt,Fo.byt,Fo.cnt,Gn,W4,Wz,W0,Xf,WT]<;>omega
def Fo.put (k:Option Ay):Fo→Fo→Fo
 | .cell _ c _,r=>.cell k c r
 | .node _ c kids _,r=>.node k c kids r
 | .nil,_=>.nil
theorem RO (P:Nat)(m:Bool)(last:Option Ay)(k:Nat)(xs:List Al):Gv (P+2) m last (k+1) xs =
  match G5 m last xs with
  | none=>none
  | some (key,ys)=>match Gv (P+2) false none 1 ys with
   | none=>none
   | some (f,zs)=>match Gv (P+1) m key k zs with
    | none=>none
    | some (r,us)=>some (f.put key r,us):=by
 rw[Gv]
 cases hk:G5 m last xs with
 | none=>rfl
 | some p=>
  obtain⟨key,ys⟩:=p;simp only;rw[Gv];simp only[G5,Wz]
  cases ys with
  | nil=>rfl
  | cons c ys=>
   simp only
   cases hp:pl c with
   | false=>rfl
   | true=>
    simp only[W1,Wz]
    cases hn:decide (0<c.fN) with
    | true=>
     simp only[W4]
     cases hq:Gv (P+1) (decide (c.fKind=6)) none c.fN.toNat ys with
     | none=>rfl
     | some q=>
      obtain⟨kids,zs⟩:=q;simp only[Gv]
      cases hr:Gv (P+1) m key k zs with
      | none=>rfl
      | some q=>obtain⟨a,b⟩:=q;rfl
    | false=>
     simp only[Wz,Gv]
     cases hr:Gv (P+1) m key k ys with
     | none=>rfl
     | some q=>obtain⟨a,b⟩:=q;rfl
def KR (m:Bool)(last:Option Ay)(k:Nat)(xs:List Al):Option (Fo×List Al):=Gv (xs.length+1) m last k xs
theorem Jq (m:Bool)(last:Option Ay)(xs:List Al):KR m last 0 xs=some (.nil,xs):=rfl
theorem E5 (m:Bool)(last:Option Ay)(k:Nat)(xs:List Al):KR m last (k+1) xs =
  match G5 m last xs with
  | none=>none
  | some (key,ys)=>match Gr ys with
   | none=>none
   | some (f,zs)=>match KR m key k zs with
    | none=>none
    | some (r,us)=>some (f.put key r,us):=by
 unfold KR Gr;rw[Gp (xs.length+1) (xs.length+2) m last (k+1) xs (by omega) (by omega),RO]
 cases hk:G5 m last xs with
 | none=>rfl
 | some p=>
  obtain⟨key,ys⟩:=p;have h1:=(Ki hk).1;have hy:ys.length≤xs.length:=by rw[h1];simp
  simp only;rw[Gp (xs.length+2) (ys.length+1) false none 1 ys (by omega) (by omega)]
  cases hf:Gv (ys.length+1) false none 1 ys with
  | none=>rfl
  | some q=>
   obtain⟨f,zs⟩:=q;have h2:=(Ga _ _ _ _ _ _ _ hf).1;have hz:zs.length≤ys.length:=by rw[h2];simp
   simp only;rw[Gp (xs.length+1) (zs.length+1) m key k zs (by omega) (by omega)]
   all_goals (cases Gv (zs.length+1) m key k zs<;>rfl)
theorem LE {S O:Type}{body:S→Option (Stp S O)}{n:Nat}{s s':S}{o:O}(h:body s=some (.next s'))(h':BB body n s'=some o):BB body (n+1) s=some o:=by rw[BB,h];exact h'
theorem HN {S O:Type}{body:S→Option (Stp S O)}{n:Nat}{s:S}{o:O}(h:body s=some (.out o)):BB body (n+1) s=some o:=by rw[BB,h]
theorem N6:Gr []=none:=rfl
theorem Gq (c:Al)(r:List Al):Gr (c::r)=bif !pl c then none else bif decide (0<c.fN) then(match KR (decide (c.fKind=6)) none c.fN.toNat r with
  | none=>none
  | some (kids,zs)=>some (.node none c kids .nil,zs)) else some (.cell none c .nil,r):=by
 unfold Gr;rw[Gv];simp only[G5,Wz]
 cases hp:pl c with
 | false=>rfl
 | true=>
  simp only[W1,Wz]
  cases hn:decide (0<c.fN) with
  | true=>
   simp only[W4];unfold KR;rw[Wx]
   cases hq:Gv (r.length+1) (decide (c.fKind=6)) none c.fN.toNat r with
   | none=>rfl
   | some q=>obtain⟨kids,zs⟩:=q;rfl
  | false=>rfl
theorem N5 {f:Fo}(h:f.one=true)(key:Option Ay)(r:Fo):(f.put key r).flat=By key++(f.flat++r.flat):=by
 cases f with
 | nil=>cases h
 | cell k c r'=>
  cases k with
  | some s=>cases h
  | none=>cases r' with
   | nil=>simp[Fo.put,Fo.flat,By]
   | cell _ _ _=>cases h
   | node _ _ _ _=>cases h
 | node k c kids r'=>
  cases k with
  | some s=>cases h
  | none=>cases r' with
   | nil=>simp[Fo.put,Fo.flat,By]
   | cell _ _ _=>cases h
   | node _ _ _ _=>cases h
theorem RS {f:Fo}(h:f.one=true):1≤f.flat.length:=by
 cases f with
 | nil=>cases h
 | cell k c r'=>simp[Fo.flat];omega
 | node k c kids r'=>simp[Fo.flat];omega
theorem Hy {xs ys:List Al}{f:Fo}(h:Gr xs=some (f,ys)):xs=f.flat++ys∧f.wf false none=true∧f.one=true:=
 ⟨(Ga _ _ _ _ _ _ _ h).1,(Ga _ _ _ _ _ _ _ h).2.1,Pt h⟩
def GI (v:List Al)(i:Int):Int:=match Gr (v.drop i.toNat) with
 | none=>-1
 | some (f,_)=>i+f.flat.length
def IJ (m:Bool)(last:Option Ay)(v:List Al)(i:Int)(k:Nat):Int:=match KR m last k (v.drop i.toNat) with
 | none=>-1
 | some (f,_)=>i+f.flat.length
theorem LB {v:List Al}{i:Int}(h0:0≤i)(h1:i≤v.length):GI v i = -1∨(i<GI v i∧GI v i≤v.length):=by
 unfold GI
 cases h:Gr (v.drop i.toNat) with
 | none=>exact .inl rfl
 | some q=>
  obtain⟨f,ys⟩:=q;obtain⟨h2,_,h3⟩:=Hy h;have:=RS h3;have hl:(v.drop i.toNat).length=f.flat.length+ys.length:=by rw[h2];simp
  rw[Xn] at hl
  right;simp only;omega
structure V9 (F M:Nat) (v:List Al):Prop where
 hM:M≤1152921504606846976
 hv:v.length≤M
 hF:M<F
 hc:∀c∈v,c.fStr.length≤M
theorem Q4 (ok:Bool){i:Int}(h0:0≤i)(h1:i≤1152921504606846976):Cl ok i=some (bif ok then i+1 else -1):=by
 unfold Cl
 cases ok
 ·rfl
 ·rw[A5 rfl,AD (by omega) (by omega)];rfl
theorem Ps {F:Nat}{c:Al}(hF:c.fStr.length<F)(hs:c.fStr.length≤1152921504606846976):RN F c=some (decide (c.fKind=4)&&pl c):=by
 unfold RN;rw[Qz hF (by omega)];simp only[Option.isSome_some,ov,WI,imp,WS,Bd,W4]
 cases h4:decide (c.fKind=4) with
 | false=>rfl
 | true=>
  simp only[Wp] at h4;simp[pl,h4]
theorem C5 {v:List Al}{i:Int}{c:Al}{r:List Al}(h0:0≤i)(h:v.drop i.toNat=c::r):Ac v i=c:=by
 have:=(B9 h0 h).1;simp[Ac,this]
section
variable {M : Nat} {v : List Al}
theorem HG {F:Nat}(hA:V9 F M v){g:List Al→Int→Option Int}{n:Int}(hn:n≤9223372036854775807):∀(L:Nat) (i x:Int),0≤i→i≤v.length→0≤x→x≤n→(∀j,i≤j→j≤v.length→g v j=some (GI v j))→v.length-i.toNat<L→
  ∃o,BB (λσ=>De v n g σ.1 σ.2) L (i,x)=some o∧B4 (λν=>G4 ν) o=some (IJ false none v i (n-x).toNat)
 | 0,i,x,_,_,_,_,_,h=>by omega
 | L+1,i,x,h0,h1,hx,hxn,hg,hL=>by
  cases hxl:decide (x<n) with
  | false=>
   refine⟨.go i,HN (by show De v n g i x=_;unfold De;rw[A0 hxl]),?_⟩;simp only[Wq] at hxl;rw[show(n-x).toNat=0 from by omega];simp[B4,G4,IJ,Jq,Fo.flat]
  | true=>
   have hb:De v n g i x=Bh (decide (GI v i<0)) (some (.out (.ret (-1)))) (Bd (B7 .i64 (x+1))<|some (.next (GI v i,x+1))):=by unfold De;rw[A5 hxl,hg i (WJ i) h1,AK rfl]
   simp only[Wp] at hxl;obtain⟨k,hk⟩:∃k,(n-x).toNat=k+1:=⟨(n-x).toNat-1,by omega⟩
   rw[hk];have e:IJ false none v i (k+1)=bif decide (GI v i<0) then -1 else IJ false none v (GI v i) k:=by
    unfold IJ;rw[E5];simp only[G5,Wz]
    cases hp:Gr (v.drop i.toNat) with
    | none=>simp[GI,hp]
    | some q=>
     obtain⟨f,ys⟩:=q;obtain⟨q1,q2,q3⟩:=Hy hp;have hi:GI v i=i+f.flat.length:=by simp[GI,hp]
     have hd:v.drop (GI v i).toNat=ys:=by rw[hi];exact C8 h0 q1
     rw[hd,Wt (by omega)];simp only[Wz]
     cases hr:KR false none k ys with
     | none=>rfl
     | some q=>
      obtain⟨r,zs⟩:=q;simp only[N5 q3,By,Xr,W0,hi];omega
   rw[e];rcases LB (v:=v) h0 h1 with hneg | ⟨hlt,hle⟩
   ·exact⟨.ret (-1),HN (hb.trans (by rw[hneg,A5 (by decide)])),by rw[hneg];rfl⟩
   ·have hM:=hA.hM;have hvM:=hA.hv;obtain⟨o,ho1,ho2⟩:=HG hA hn L (GI v i) (x+1) (by omega) hle (by omega) (by omega) (λj hj=>hg j (by omega)) (by omega);exact⟨o,LE (hb.trans (by rw[A0 (Wt (by omega)),AD (by omega) (by omega)])) ho1,by rw[ho2,show(n-(x+1)).toNat=k from by omega,Wt (by omega)];rfl⟩
theorem KN {F:Nat}(hA:V9 F M v){g:List Al→Int→Option Int}{n:Int}(hn:n≤9223372036854775807):∀(L:Nat) (i x:Int) (last:Ay),0≤i→i≤v.length→0≤x→x≤n→(∀j,i≤j→j≤v.length→g v j=some (GI v j))→v.length-i.toNat<L→
  ∃o,BB (λσ=>D2 F v n g σ.1 σ.2.1 σ.2.2) L (i,last,x)=some o∧B4 (λν=>Jo ν) o=some (IJ true (bif decide (0<x) then some last else none) v i (n-x).toNat)
 | 0,i,x,_,_,_,_,_,_,h=>by omega
 | L+1,i,x,last,h0,h1,hx,hxn,hg,hL=>by
  have hM:=hA.hM;have hvM:=hA.hv;have hMF:=hA.hF
  cases hxl:decide (x<n) with
  | false=>
   refine⟨.go i,HN (by show D2 F v n g i last x=_;unfold D2;rw[A0 hxl]),?_⟩;simp only[Wq] at hxl;rw[show(n-x).toNat=0 from by omega];simp[B4,Jo,IJ,Jq,Fo.flat]
  | true=>
   have hxl':=hxl;simp only[Wp] at hxl;obtain⟨k,hk⟩:∃k,(n-x).toNat=k+1:=⟨(n-x).toNat-1,by omega⟩
   rw[hk]
   cases hd:v.drop i.toNat with
   | nil=>
    have hl:v.length≤i.toNat:=by simpa using hd
    refine⟨.ret (-1),HN (by
     show D2 F v n g i last x=_;unfold D2;rw[A5 hxl',Bk (by simp[imp,show(v.length:Int)≤i from by omega]),Bk (by simp[imp,show(v.length:Int)≤i from by omega]),A5 (by simp[show(v.length:Int)≤i from by omega])]),?_⟩
    simp[B4,IJ,hd,E5,G5]
   | cons c r=>
    obtain⟨g1,g2,g3⟩:=B9 h0 hd;have hcM:=hA.hc c (Wy g1);have hat:=C5 h0 hd;have hnl:decide ((v.length:Int)≤i)=false:=by simp;omega
    have hb:D2 F v n g i last x=Bh (!(decide (c.fKind=4)&&pl c)||decide (0<x)&&(BM c.fStr last||decide (c.fStr=last))) (some (.out (.ret (-1)))) (Bq (g v (i+1)) λha=>Bh (decide (ha<0)) (some (.out (.ret (-1)))) (Bd (B7 .i64 (x+1))<|some (.next (ha,c.fStr,x+1)))):=by
     unfold D2;rw[A5 hxl',Bk (by simp only[imp];rw[M5 h0 g3];simp),hat,Ps (by omega) (by omega),Bk (by simp[imp])];simp only[hnl,ov,WI,W7];rw[Bn h0 g3,AD (by omega) (by omega)]
    have hpk:G5 true (bif decide (0<x) then some last else none) (c::r)=bif (!(decide (c.fKind=4)&&pl c)||decide (0<x)&&(BM c.fStr last||decide (c.fStr=last))) then none else some (some c.fStr,r):=by
     simp only[G5,W4]
     cases h4:decide (c.fKind=4) with
     | false=>simp
     | true=>
      cases hp:pl c with
      | false=>simp
      | true=>
       have hok:=(Mv hp (by simpa using h4)).2
       cases h0x:decide (0<x) with
       | false=>simp[Cf,hok]
       | true=>cases hs:(BM c.fStr last||decide (c.fStr=last))<;>simp[Cf,hok,hs]
    cases ht:(!(decide (c.fKind=4)&&pl c)||decide (0<x)&&(BM c.fStr last||decide (c.fStr=last))) with
    | true=>
     rw[ht] at hpk;refine⟨.ret (-1),HN (hb.trans (A5 ht)),?_⟩;simp only[IJ,hd,E5,hpk,W4];rfl
    | false=>
     rw[ht] at hpk;rw[A0 ht,hg (i+1) (by omega) (by omega),AK rfl] at hb;have e:IJ true (bif decide (0<x) then some last else none) v i (k+1)=bif decide (GI v (i+1)<0) then -1 else IJ true (some c.fStr) v (GI v (i+1)) k:=by
      unfold IJ;rw[hd,E5,hpk];simp only[Wz];have hx:GI v (i+1)=match Gr r with | none=>-1 | some (f,_)=>i+1+f.flat.length:=by unfold GI;rw[g2]
      cases hp:Gr r with
      | none=>rw[hp] at hx;simp[hx]
      | some q=>
       obtain⟨f,ys⟩:=q;obtain⟨q1,q2,q3⟩:=Hy hp;rw[hp] at hx;simp only at hx;have hd2:v.drop (GI v (i+1)).toNat=ys:=by rw[hx];exact C8 (by omega) (g2.trans q1)
       rw[hd2,Wt (by omega)];simp only[Wz]
       cases hr:KR true (some c.fStr) k ys with
       | none=>rfl
       | some q=>
        obtain⟨r',zs⟩:=q;simp only[N5 q3,By,W0,Wx,Xf,hx];omega
     rw[e];rcases LB (v:=v) (i:=i+1) (by omega) (by omega) with hneg | ⟨hlt,hle⟩
     ·exact⟨.ret (-1),HN (hb.trans (by rw[hneg,A5 (by decide)])),by rw[hneg];rfl⟩
     ·obtain⟨o,ho1,ho2⟩:=KN hA hn L (GI v (i+1)) (x+1) c.fStr (by omega) hle (by omega) (by omega) (λj hj=>hg j (by omega)) (by omega);exact⟨o,LE (hb.trans (by rw[A0 (Wt (by omega)),AD (by omega) (by omega)])) ho1,by rw[ho2,show(n-(x+1)).toNat=k from by omega,Ws (show(0:Int)<x+1 from by omega),Wt (by omega)];rfl⟩
theorem NG {i:Int}{c:Al}{r:List Al}(h0:0≤i)(hd:v.drop i.toNat=c::r)(hp:pl c=true):GI v i=IJ (decide (c.fKind=6)) none v (i+1) c.fN.toNat:=by
 have g2:=(B9 h0 hd).2.1;have hN:=Tt hp;unfold GI IJ;rw[hd,Gq,g2,hp];simp only[W1,Wz]
 cases hn:decide (0<c.fN) with
 | true=>
  simp only[W4]
  cases hq:KR (decide (c.fKind=6)) none c.fN.toNat r with
  | none=>rfl
  | some q=>
   obtain⟨kids,zs⟩:=q;simp only[Fo.flat,By,Xr,Wx,Xj];omega
 | false=>
  simp only[Wq] at hn;rw[show c.fN.toNat=0 from by omega,Jq];simp[Fo.flat,By]
theorem N1 (hA:V9 (M+1) M v)(hN:∀c∈v,c.fN≤9223372036854775807):∀(d F:Nat) (i:Int),0≤i→i≤v.length→v.length-i.toNat=d→M+2*d+3<F→DM F v i=some (GI v i):=by
 have hM:=hA.hM;have hvM:=hA.hv;intro d
 induction d using Nat.strongRecOn with
 | ind d ih=>
  intro F i h0 h1 hd hF;obtain⟨F,rfl⟩:∃G,F=G+1:=⟨F-1,by omega⟩
  obtain⟨F,rfl⟩:∃G,F=G+1:=⟨F-1,by omega⟩
  rw[DM];unfold RM
  cases hdr:v.drop i.toNat with
  | nil=>
   have hl:v.length≤i.toNat:=by simpa using hdr
   rw[A5 (by simp;omega)];simp[GI,hdr,N6]
  | cons c r=>
   obtain⟨g1,g2,g3⟩:=B9 h0 hdr;have hcM:=hA.hc c (Wy g1);have hcN:=hN c (Wy g1);rw[A0 (by simp;omega),Bn h0 g3,C5 h0 hdr];simp only[Q4 _ h0 (show i≤1152921504606846976 by omega),Option.isSome_some,ov,WI,imp,WS,Bk (x:=_) (rfl:true=true)];have hg:∀j,i+1≤j→j≤v.length→DM F v j=some (GI v j):=λj hj hj2=>ih (v.length-j.toNat) (by omega) F j (by omega) hj2 rfl (by omega);have hpl0:pl c=false→GI v i = -1:=λhp=>by simp[GI,hdr,Gq,hp]
   have hleaf:pl c=true→c.fN=0→GI v i=i+1:=λhp h0'=>by simp[GI,hdr,Gq,hp,h0',Fo.flat,By]
   have hscal:∀b:Bool,pl c=b→(b=true→c.fN=0)→GI v i=bif b then i+1 else -1:=λb hb hz=>by
    cases b
    ·exact hpl0 hb
    ·exact hleaf hb (hz rfl)
   by_cases k1:c.fKind=1
   ·rw[A5 (by simp[k1])];have hp:pl c=(decide (c.fInt=0)&&(decide (c.fStr=[])&&decide (c.fN=0))):=by simp[pl,k1]
    rw[hscal _ hp (λh=>by simp at h;exact h.2.2)]
    cases decide (c.fInt=0)<;>cases decide (c.fStr=[])<;>cases decide (c.fN=0)<;>rfl
   rw[A0 (by simp[k1])]
   by_cases k2:c.fKind=2
   ·rw[A5 (by simp[k2])];have hp:pl c=((decide (c.fInt=0)||decide (c.fInt=1))&&(decide (c.fStr=[])&&decide (c.fN=0))):=by simp[pl,k2]
    rw[hscal _ hp (λh=>by simp at h;exact h.2.2)]
    cases decide (c.fInt=0)<;>cases decide (c.fInt=1)<;>cases decide (c.fStr=[])<;>cases decide (c.fN=0)<;>rfl
   rw[A0 (by simp[k2])]
   by_cases k3:c.fKind=3
   ·rw[A5 (by simp[k3])];have hp:pl c=(decide (c.fStr=[])&&decide (c.fN=0)):=by simp[pl,k3]
    rw[hscal _ hp (λh=>by simp at h;exact h.2)]
    cases decide (c.fStr=[])<;>cases decide (c.fN=0)<;>rfl
   rw[A0 (by simp[k3])]
   by_cases k4:c.fKind=4
   ·rw[A5 (by simp[k4]),Ps (by omega) (by omega),AK rfl,AK rfl];rw[Ws k4,WB,hscal (pl c) rfl (λhp=>by have:=(Mv hp k4).1;rw[this])]
   rw[A0 (by simp[k4])]
   by_cases k5:c.fKind=5
   ·have hp:pl c=(decide (c.fInt=0)&&(decide (c.fStr=[])&&decide (0≤c.fN))):=by simp[pl,k5]
    rw[show(decide (c.fKind=5)&&(decide (c.fInt=0)&&(decide (c.fStr=[])&&decide (0≤c.fN))))=pl c from by rw[hp,Ws k5,WB]];have k5' : ¬ c.fKind=6:=by omega
    cases hb:pl c with
    | false=>rw[A0 rfl,A0 (by simp[k5]),hpl0 hb]
    | true=>
     have hn0:=Tt hb;rw[A5 rfl,AD (by omega) (by omega),L7];unfold KO;obtain⟨o,ho1,ho2⟩:=HG (F:=F) ⟨hM,hvM,by omega,hA.hc⟩ hcN F (i+1) 0 (by omega) (by omega) (WJ 0) hn0 hg (by omega);rw[AK ho1,ho2,AK rfl,NG h0 hdr hb,Wt k5',Int.sub_zero]
   rw[A0 (by simp[k5])]
   by_cases k6:c.fKind=6
   ·have hp:pl c=(decide (c.fInt=0)&&(decide (c.fStr=[])&&decide (0≤c.fN))):=by simp[pl,k6]
    rw[show(decide (c.fKind=6)&&(decide (c.fInt=0)&&(decide (c.fStr=[])&&decide (0≤c.fN))))=pl c from by rw[hp,Ws k6,WB]]
    cases hb:pl c with
    | false=>rw[A0 rfl,hpl0 hb]
    | true=>
     have hn0:=Tt hb;rw[A5 rfl,AD (by omega) (by omega),RL];unfold Pr;obtain⟨o,ho1,ho2⟩:=KN (F:=F) ⟨hM,hvM,by omega,hA.hc⟩ hcN F (i+1) 0 [] (by omega) (by omega) (WJ 0) hn0 hg (by omega);rw[AK ho1,ho2,AK rfl,NG h0 hdr hb,Ws k6,Int.sub_zero];rfl
   ·rw[A0 (by simp[k6]),hpl0 (by simp[pl,k1,k2,k3,k4,k5,k6])]
theorem OG (hA:V9 (M+1) M v)(hN:∀c∈v,c.fN≤9223372036854775807){F:Nat}(hF:3*M+3<F):Mt F v=some (decide (GI v 0=v.length)):=by
 have hvM:=hA.hv;unfold Mt;rw[N1 hA hN v.length F 0 (WJ 0) (by omega) (by simp) (by omega)];simp only[imp,Option.isSome_some,WS,Bk,ov,WI]
 cases v with
 | nil=>simp[GI,N6]
 | cons c r=>
  rw[show decide (0<((c::r).length:Int))=true from by simp,WB]
  first | done | rfl
end
theorem Pu {m:Bool}{last key:Option Ay}{r:List Al}(h:Cf m last key=true):G5 m last (By key++r)=some (key,r):=by
 cases key with
 | none=>
  have:m=false:=by simpa[Cf] using h
  subst this;rfl
 | some s=>
  have h':=h;simp only[Cf,Wu] at h;obtain⟨⟨h1,h2⟩,h3⟩:=h;subst h1;have hp:pl ⟨4,0,s,0⟩=true:=by simp[pl,h2]
  show(bif pl ⟨4,0,s,0⟩&&decide ((4:Int)=4)&&Cf true last (some s) then _ else _)=_;rw[hp,h'];rfl
theorem Kj:∀(f:Fo) (m:Bool) (last:Option Ay) (ys:List Al),f.wf m last=true→KR m last f.cnt (f.flat++ys)=some (f,ys)
 | .nil,_,_,_,_=>rfl
 | .cell k c r,m,last,ys,hw=>by
  simp only[Fo.wf,Wu,W5] at hw;obtain⟨⟨⟨w1,w2⟩,w3⟩,w4⟩:=hw;simp only[Fo.cnt,Fo.flat,WD,Xh];rw[E5,Pu w1];simp only[Gq,w2,w3,W1,Wz,Kj r m k ys w4,Fo.put]
 | .node k c kids r,m,last,ys,hw=>by
  simp only[Fo.wf,Wu,Wp] at hw;obtain⟨⟨⟨⟨⟨w1,w2⟩,w3⟩,w5⟩,w6⟩,w4⟩:=hw;simp only[Fo.cnt,Fo.flat,WD,Xh];rw[E5,Pu w1];have e:c.fN.toNat=kids.cnt:=by omega
  simp only[Gq,w2,Ws w3,W1,Wz,W4,e,Kj kids _ none (r.flat++ys) w6,Kj r m k ys w4,Fo.put]
theorem Ts {f:Fo}{ys:List Al}(h1:f.one=true)(hw:f.wf false none=true):Gr (f.flat++ys)=some (f,ys):=by
 have:=Kj f false none ys hw;have hc:f.cnt=1:=by
  cases f with
  | nil=>cases h1
  | cell k c r=>cases k with
   | some _=>cases h1
   | none=>cases r with
    | nil=>rfl
    | _=>cases h1
  | node k c kids r=>cases k with
   | some _=>cases h1
   | none=>cases r with
    | nil=>rfl
    | _=>cases h1
 rw[hc] at this;exact this
structure Lp (M:Nat) (v:List Al):Prop where
 hM:M≤1000000000
 hv:v.length≤M
 hc:∀c∈v,c.fStr.length≤M∧B7 .i64 c.fInt=true∧c.fN≤9223372036854775807
theorem Lp.lk {M F:Nat}{v:List Al}(h:Lp M v)(hF:M<F):PR F M v:=⟨by have:=h.hM;omega,by have:=h.hM;omega,h.hv,hF,h.hc⟩
theorem Lp.rf {M F:Nat}{v:List Al}(h:Lp M v)(hF:M<F):V9 F M v:=⟨by have:=h.hM;omega,h.hv,hF,λc hc=>(h.hc c hc).1⟩
theorem Lp.drop {M:Nat}{v:List Al}(h:Lp M v)(k:Nat):Lp M (v.drop k):=⟨h.hM,by have:=h.hv;rw[Xn];omega,λc hc=>h.hc c (List.mem_of_mem_drop hc)⟩
theorem Lp.take {M:Nat}{v:List Al}(h:Lp M v)(k:Nat):Lp M (v.take k):=⟨h.hM,by have:=h.hv;rw[Xq];omega,λc hc=>h.hc c (List.mem_of_mem_take hc)⟩
def whole (v:List Al):Option Fo:=match Gr v with
 | some (f,[])=>some f
 | _=>none
theorem Ot {v:List Al}{f:Fo}(h:whole v=some f):v=f.flat∧f.wf false none=true∧f.one=true:=by
 unfold whole at h
 cases hp:Gr v with
 | none=>rw[hp] at h;cases h
 | some q=>
  obtain⟨g,ys⟩:=q;rw[hp] at h
  cases ys with
  | cons _ _=>cases h
  | nil=>
   cases h
   obtain⟨h1,h2,h3⟩:=Hy hp;exact⟨by simpa using h1,h2,h3⟩
def TG (f:Fo):Int:=
 bif f.flat.any HA then 2 else bif f.flat.any GJ||(decide (200<f.flat.length)||(decide (8<f.dep)||decide (4000<(f.txt true).length))) then 3 else 0
def S6 (v:List Al):Int:=match whole v with
 | none=>1
 | some f=>TG f
theorem Py {f:Fo}(h1:f.one=true):f.cnt=1:=by
 cases f with
 | nil=>cases h1
 | cell k c r=>cases k with
  | some _=>cases h1
  | none=>cases r with
   | nil=>rfl
   | _=>cases h1
 | node k c kids r=>cases k with
  | some _=>cases h1
  | none=>cases r with
   | nil=>rfl
   | _=>cases h1
theorem Mu (s:Ay):Jp s≤2*s.length+2+s.length:=by
 have h1:s.count 34≤s.length:=List.count_le_length;have h2:s.count 92≤s.length:=List.count_le_length;unfold Jp;omega
theorem UD {c:Al}{M:Nat}(hp:pl c=true)(hs:c.fStr.length≤M)(hi:(Lib.itoa c.fInt).length≤21):SS c≤3*M+21:=by
 have:=Mu c.fStr;unfold SS
 cases h1:decide (c.fKind=1) with
 | true=>simp only[W4];omega
 | false=>
  cases h2:decide (c.fKind=2) with
  | true=>
   simp[pl,h1,h2] at hp;simp only[Wz,W4];omega
  | false=>
   cases h3:decide (c.fKind=3) with
   | true=>simp only[Wz,W4];omega
   | false=>cases h4:decide (c.fKind=4)<;>simp only[Wz,W4]<;>omega
theorem MH {M:Nat}:∀{f:Fo} {m:Bool} {l:Option Ay},f.wf m l=true→(∀c∈f.flat,c.fStr.length≤M∧B7 .i64 c.fInt=true∧c.fN≤9223372036854775807)→f.byt+f.cnt≤(3*M+24)*f.flat.length
 | .nil,_,_,_,_=>by simp[Fo.byt,Fo.flat,Fo.cnt]
 | .cell k c r,m,l,hw,hc=>by
  simp only[Fo.wf,Wu,W5] at hw;obtain⟨⟨⟨w1,w2⟩,w3⟩,w4⟩:=hw;simp only[Fo.flat] at hc;have ih:=MH w4 (λx hx=>hc x (by simp[hx]));obtain⟨c1,c2,c3⟩:=hc c (by simp);have i64:=H5 c2;have hl:=UD w2 c1 (Lib.itoa_length_le c.fInt i64.1 i64.2);have hk:M3 k≤(3*M+24)*(By k).length:=by
   cases k with
   | none=>simp[M3,By]
   | some s=>
    have:=(hc ⟨4,0,s,0⟩ (by simp[By])).1;have h2:=Mu s;simp only at this;simp only[M3,By,WT];omega
  simp only[Fo.byt,Fo.flat,Fo.cnt,W0,Wx];have e:((3*(M:Int)+24)*(((By k).length+(r.flat.length+1):Nat):Int))=(3*(M:Int)+24)*(By k).length+((3*(M:Int)+24)*r.flat.length+(3*(M:Int)+24)):=by
   push_cast;rw[Int.mul_add,Int.mul_add,Int.mul_one]
  rw[e]
  push_cast at *
  omega
 | .node k c kids r,m,l,hw,hc=>by
  simp only[Fo.wf,Wu,Wp] at hw;obtain⟨⟨⟨⟨⟨w1,w2⟩,w3⟩,w5⟩,w6⟩,w4⟩:=hw;simp only[Fo.flat] at hc;have ih:=MH w4 (λx hx=>hc x (by simp[hx]));have ih2:=MH w6 (λx hx=>hc x (by simp[hx]));have hcf:=BS kids;have hk:M3 k≤(3*M+24)*(By k).length:=by
   cases k with
   | none=>simp[M3,By]
   | some s=>
    have:=(hc ⟨4,0,s,0⟩ (by simp[By])).1;have h2:=Mu s;simp only at this;simp only[M3,By,WT];omega
  simp only[Fo.byt,Fo.flat,Fo.cnt,W0,Wx];have e:((3*(M:Int)+24)*(((By k).length+(kids.flat.length+r.flat.length+1):Nat):Int))=(3*(M:Int)+24)*(By k).length+((3*(M:Int)+24)*kids.flat.length+(3*(M:Int)+24)*r.flat.length+(3*(M:Int)+24)):=by
   push_cast;rw[Int.mul_add,Int.mul_add,Int.mul_add,Int.mul_one]
  rw[e]
  push_cast at *
  omega
theorem LU {M:Nat}(hM:M≤1000000){f:Fo}{m:Bool}{l:Option Ay}(hw:f.wf m l=true)(hl:f.flat.length≤M)(hc:∀c∈f.flat,c.fStr.length≤M∧B7 .i64 c.fInt=true∧c.fN≤9223372036854775807):f.byt≤4000000000000:=by
 have:=MH (M:=M) hw hc;have h2:(3*M+24)*f.flat.length≤(3*1000000+24)*1000000:=Nat.mul_le_mul (by omega) (by omega);have h3:(((3*M+24)*f.flat.length:Nat):Int)=(3*(M:Int)+24)*f.flat.length:=by push_cast;rfl
 omega
theorem Qc {M F:Nat}{v:List Al}(hA:Lp M v)(hM:M≤1000000)(hF:M<F):K5 F v=some (S6 v):=by
 unfold K5 S6 whole;have hvM:=hA.hv;rcases T1 (hA.lk hF) with⟨f,ys,hp,hl⟩ | ⟨hp,sh',hl⟩
 ·rw[hl,AK rfl,hp];obtain⟨h1,h2,h3⟩:=Hy hp;have hlen:v.length=f.flat.length+ys.length:=by rw[h1];simp
  cases ys with
  | cons c r=>
   rw[A5];simp only[Wx] at hlen;simp;omega
  | nil=>
   simp only[Xf,Nat.add_zero] at hlen;rw[A0 (by simp[hlen])];have hc:∀c∈f.flat,c.fStr.length≤M∧B7 .i64 c.fInt=true∧c.fN≤9223372036854775807:=λc hc=>hA.hc c (by rw[h1];simp[hc]);have hb:=LU hM h2 (by omega) hc;have hb0:=GA h2;have e1:(f.sh 0 Ln).fOutside=f.flat.any HA:=by rw[Mj];rfl
   have e2:(f.sh 0 Ln).fLong=f.flat.any GJ:=by rw[Kf];rfl
   have e3:(f.sh 0 Ln).fDepth=f.dep:=by rw[I1 f 0 Ln (by simp[Ln])];simp[Ln]
   have e4:(f.sh 0 Ln).fBytes=(f.txt true).length:=by
    rw[I2 f false none 0 Ln h2 (by simp[Ln]) (by simp[Ln];omega),I0 f false none true h2,Py h3];simp[Ln]
   simp only;rw[e1,e2,e3,e4,hlen];unfold TG
   cases f.flat.any HA with
   | true=>rw[A5 rfl];rfl
   | false=>
    rw[A0 rfl];have a1:decide ((200:Int)<(f.flat.length:Int))=decide (200<f.flat.length):=by rw[WA];simp;omega
    have a2:decide ((8:Int)<(f.dep:Int))=decide (8<f.dep):=by rw[WA];simp;omega
    have a3:decide ((4000:Int)<((f.txt true).length:Int))=decide (4000<(f.txt true).length):=by rw[WA];simp;omega
    rw[a1,a2,a3]
    cases(f.flat.any GJ||(decide (200<f.flat.length)||(decide (8<f.dep)||decide (4000<(f.txt true).length))))<;>rfl
 ·rw[hl,AK rfl,hp];rfl
theorem Mx {v:List Al}{p:Int}{f:Fo}{ys:List Al}(h1:f.one=true)(hw:f.wf false none=true)(hd:v.drop p.toNat=f.flat++ys):GI v p=p+f.flat.length:=by
 unfold GI;rw[hd,Ts h1 hw]
theorem Pa {c:Al}(hp:pl c=true)(hn:decide (0<c.fN)=false):(Fo.cell none c .nil).wf false none=true:=by simp[Fo.wf,Cf,hp,hn]
theorem OZ {c:Al}{kids:Fo}(hp:pl c=true)(hn:0<c.fN)(hk:c.fN=kids.cnt)(hw:kids.wf (decide (c.fKind=6)) none=true):(Fo.node none c kids .nil).wf false none=true:=by simp[Fo.wf,Cf,hp,hn,hk,hw];omega
section
variable {M : Nat} {v : List Al}
theorem Lp.next (hA:Lp M v){F:Nat}(hF:3*M+3<F){p:Int}(h0:0≤p)(h1:p≤v.length):DM F v p=some (GI v p):=by
 have hM:=hA.hM;have hvM:=hA.hv;exact N1 (hA.rf (WZ M)) (λc hc=>(hA.hc c hc).2.2) (v.length-p.toNat) F p h0 h1 rfl (by omega)
theorem IB {F:Nat}{p:Int}{c:Al}{r:List Al}(h0:0≤p)(hpM:p≤1152921504606846976)(hd:v.drop p.toNat=c::r)(hp:pl c=true)(hn:decide (0<c.fN)=false):DE (F+2) v p=some 1:=by
 obtain⟨g1,g2,g3⟩:=B9 h0 hd;rw[DE];unfold IA;rw[Bn h0 g3,C5 h0 hd]
 cases hk:(!decide (c.fKind=5)&&!decide (c.fKind=6)) with
 | true=>rw[A5 rfl]
 | false=>
  rw[A0 rfl,AD (by omega) (by omega),AK (HN (o:=.go 0) (by
   show CC (F+1) v p _ 0 (p+1) 0=_;unfold CC;rw[C5 h0 hd,A0 hn]))]
  simp only[B4,EA];rw[AD (by omega) (by omega)];rfl
theorem L6 {F:Nat}{i:Int}{rec:List Al→Int→Option Int}{most at_ x L:Int}{m:Bool}{p q:Int}{pc:Al}(hpc:Ac v i=pc)(hm:decide (pc.fKind=6)=m)(hx:x<pc.fN)(hx0:0≤x)(hpcN:pc.fN≤9223372036854775807)
  (ha0:0≤at_) (haM:at_≤1152921504606846976) (hp:p=bif m then at_+1 else at_) (hr:rec v p=some L) (hq:DM F v p=some q):CC F v i rec most at_ x=some (.next (max most L,q,x+1)):=by
 unfold CC;rw[hpc,A5 (by simpa using hx),hm]
 cases m with
 | true=>
  simp only[W4] at hp;rw[A5 rfl,AD (by omega) (by omega),← hp,hr,AK rfl]
  cases hl:decide (most<L) with
  | true=>rw[A5 rfl,hq,AK rfl,AD (by omega) (by omega),Int.max_eq_right (by simp at hl;omega)]
  | false=>rw[A0 rfl,hq,AK rfl,AD (by omega) (by omega),Int.max_eq_left (by simp at hl;omega)]
 | false=>
  simp only[Wz] at hp;rw[A0 rfl,← hp,hr,AK rfl]
  cases hl:decide (most<L) with
  | true=>rw[A5 rfl,hq,AK rfl,AD (by omega) (by omega),Int.max_eq_right (by simp at hl;omega)]
  | false=>rw[A0 rfl,hq,AK rfl,AD (by omega) (by omega),Int.max_eq_left (by simp at hl;omega)]
theorem Kn {m:Bool}{last key:Option Ay}(h:Cf m last key=true):((By key).length:Int)=bif m then 1 else 0:=by
  cases key with
  | none=>
            have:m=false:=by simpa[Cf] using h
            subst this;rfl
  | some s=>simp only[Cf,Wu] at h;rw[h.1.1];rfl
theorem N2 (hA:Lp M v):∀(g:Fo) (F L:Nat) (i at_ x most:Int) (m:Bool) (last:Option Ay) (ys:List Al) (pc:Al),Ac v i=pc→decide (pc.fKind=6)=m→pc.fN≤9223372036854775807→g.wf m last=true→v.drop at_.toNat=g.flat++ys→0≤at_→at_≤v.length→pc.fN=x+g.cnt→0≤x→0≤most→most≤1152921504606846976→g.cnt<L→3*M+5+g.flat.length<F→
  ∃o,BB (λσ=>CC F v i (DE F) σ.1 σ.2.1 σ.2.2) L (most,at_,x)=some o∧B4 (λν=>EA ν) o=some (max most (g.dep:Int)+1):=by
 have hM:=hA.hM;have hvM:=hA.hv;have fin:∀(F L:Nat) (i at_ x most:Int) (pc:Al),Ac v i=pc→pc.fN≤x→0≤most→most≤1152921504606846976→0<L→∃o,BB (λσ=>CC F v i (DE F) σ.1 σ.2.1 σ.2.2) L (most,at_,x)=some o∧B4 (λν=>EA ν) o=some (most+1):=λF L i at_ x most pc hpc hx h0 hb hL=>by
  obtain⟨L,rfl⟩:∃K,L=K+1:=⟨L-1,by omega⟩
  refine⟨.go most,HN (by show CC F v i _ most at_ x=_;unfold CC;rw[hpc,A0 (by simp;omega)]),?_⟩;simp only[B4,EA];rw[AD (by omega) (by omega)]
 have depM:∀g:Fo,g.dep≤g.flat.length:=by
  intro g
  induction g with
  | nil=>simp[Fo.dep]
  | cell k c r ih=>simp[Fo.dep,Fo.flat];omega
  | node k c kids r ih1 ih2=>simp[Fo.dep,Fo.flat];omega
 intro g
 induction g with
 | nil=>
  intro F L i at_ x most m last ys pc hpc hm hpN hw hd h0 h1 hN hx hmo hmM hL hF;obtain⟨o,h1,h2⟩:=fin F L i at_ x most pc hpc (by simp[Fo.cnt] at hN;omega) hmo hmM (by omega);exact⟨o,h1,by rw[h2];simp only[Fo.dep];congr 2<;>omega⟩
 | cell k c r ih=>
  intro F L i at_ x most m last ys pc hpc hm hpN hw hd h0 h1 hN hx hmo hmM hL hF;simp only[Fo.wf,Wu,W5] at hw;obtain⟨⟨⟨w1,w2⟩,w3⟩,w4⟩:=hw;simp only[Fo.flat,WD,Xh] at hd;simp only[Fo.cnt] at hN hL;simp only[Fo.flat,W0,Wx] at hF;obtain⟨L,rfl⟩:∃K,L=K+1:=⟨L-1,by omega⟩
  obtain⟨F,rfl⟩:∃K,F=K+2:=⟨F-2,by omega⟩
  have hd1:=C8 h0 hd;have hkl:=Kn w1;obtain⟨g1,g2,g3⟩:=B9 (by omega) hd1;have hlen:at_+(By k).length=bif m then at_+1 else at_:=by rw[hkl];cases m<;>simp
  have hq:=hA.next (F:=F+2) (by omega) (p:=at_+(By k).length) (by omega) (by omega);rw[Mx (f:=.cell none c .nil) (ys:=r.flat++ys) rfl (Pa w2 w3) hd1] at hq;have hb:=L6 (most:=most) (x:=x) hpc hm (by omega) hx hpN h0 (by omega) hlen (IB (F:=F) (by omega) (by omega) hd1 w2 w3) hq;have hdd:=depM r;obtain⟨o,ho1,ho2⟩:=ih (F+2) L i (at_+(By k).length+((Fo.cell none c .nil).flat.length:Int)) (x+1) (max most 1) m k ys pc hpc hm hpN w4 (by rw[show(Fo.cell none c .nil).flat.length=1 from rfl];exact g2) (by omega) (by rw[show(Fo.cell none c .nil).flat.length=1 from rfl];omega) (by omega) (by omega) (by omega) (by omega) (by omega) (by omega);refine⟨o,LE hb ho1,?_⟩;rw[ho2,Fo.dep];congr 2<;>omega
 | node k c kids r ihk ih=>
  intro F L i at_ x most m last ys pc hpc hm hpN hw hd h0 h1 hN hx hmo hmM hL hF;simp only[Fo.wf,Wu,Wp] at hw;obtain⟨⟨⟨⟨⟨w1,w2⟩,w3⟩,w5⟩,w6⟩,w4⟩:=hw;simp only[Fo.flat,WD,Xh] at hd;simp only[Fo.cnt] at hN hL;simp only[Fo.flat,W0,Wx] at hF;obtain⟨L,rfl⟩:∃K,L=K+1:=⟨L-1,by omega⟩
  obtain⟨F,rfl⟩:∃K,F=K+1:=⟨F-1,by omega⟩
  have hd1:=C8 h0 hd;have hkl:=Kn w1;obtain⟨g1,g2,g3⟩:=B9 (by omega) hd1;have hcN:=(hA.hc c (Wy g1)).2.2;have hlen:at_+(By k).length=bif m then at_+1 else at_:=by rw[hkl];cases m<;>simp
  have hq:=hA.next (F:=F+1) (by omega) (p:=at_+(By k).length) (by omega) (by omega);have hfl:(Fo.node none c kids .nil).flat=c::kids.flat:=by simp[Fo.flat,By]
  rw[Mx (f:=.node none c kids .nil) (ys:=r.flat++ys) rfl (OZ w2 w3 w5 w6) (by rw[hd1,hfl];simp)] at hq;have hdk:=depM kids;have hdd:=depM r;have hcf:=BS kids;have hvl:(v.drop (at_+(By k).length+1).toNat).length=kids.flat.length+(r.flat.length+ys.length):=by rw[g2];simp
  rw[Xn] at hvl;have hrec:DE (F+1) v (at_+(By k).length)=some ((kids.dep:Int)+1):=by
   rw[DE];unfold IA;rw[Bn (by omega) g3,C5 (by omega) hd1];have ha:=(IC w2 w3).1;rw[A0 (by simp;omega),AD (by omega) (by omega)];obtain⟨o,ho1,ho2⟩:=ihk F F (at_+(By k).length) (at_+(By k).length+1) 0 0 _ none (r.flat++ys) c (C5 (by omega) hd1) rfl hcN w6 (by rw[g2]) (by omega) (by omega) (by omega) (WJ 0) (WJ 0) (by omega) (by omega) (by omega);rw[AK ho1,ho2];congr 2<;>omega
  have hb:=L6 (most:=most) (x:=x) hpc hm (by omega) hx hpN h0 (by omega) hlen hrec hq;obtain⟨o,ho1,ho2⟩:=ih (F+1) L i (at_+(By k).length+((Fo.node none c kids .nil).flat.length:Int)) (x+1) (max most ((kids.dep:Int)+1)) m k ys pc hpc hm hpN w4 (by
   have:=C8 (by omega) g2;rw[hfl,Wx,show at_+(By k).length+((kids.flat.length+1:Nat):Int)=at_+(By k).length+1+kids.flat.length from by omega];exact this) (by omega) (by rw[hfl,Wx];omega) (by omega) (by omega) (by omega) (by omega) (by omega) (by omega)
  refine⟨o,LE hb ho1,?_⟩;rw[ho2,Fo.dep];congr 2<;>omega
theorem OF (hA:Lp M v){F:Nat}{p:Int}{f:Fo}{ys:List Al}(h0:0≤p)(h1:f.one=true)(hw:f.wf false none=true)(hd:v.drop p.toNat=f.flat++ys)(hF:3*M+6+f.flat.length<F):DE F v p=some (f.dep:Int):=by
 have hM:=hA.hM;have hvM:=hA.hv
 cases f with
 | nil=>cases h1
 | cell k c r=>
  cases k with
  | some s=>cases h1
  | none=>
   cases r with
   | nil=>
    simp only[Fo.wf,Wu,W5] at hw;obtain⟨F,rfl⟩:∃K,F=K+2:=⟨F-2,by omega⟩
    have hd':v.drop p.toNat=c::ys:=by simpa[Fo.flat,By] using hd
    rw[IB h0 (by have:=(B9 h0 hd').2.2;omega) hd' hw.1.1.2 hw.1.2];rfl
   | cell _ _ _=>cases h1
   | node _ _ _ _=>cases h1
 | node k c kids r=>
  cases k with
  | some s=>cases h1
  | none=>
   cases r with
   | nil=>
    simp only[Fo.wf,Wu,Wp] at hw;obtain⟨⟨⟨⟨⟨w1,w2⟩,w3⟩,w5⟩,w6⟩,w4⟩:=hw;have hd':v.drop p.toNat=c::(kids.flat++ys):=by simpa[Fo.flat,By] using hd
    obtain⟨g1,g2,g3⟩:=B9 h0 hd';have hcN:=(hA.hc c (Wy g1)).2.2;have hcf:=BS kids;simp only[Fo.flat,By,Xr,Xj,Wx] at hF;obtain⟨F,rfl⟩:∃K,F=K+1:=⟨F-1,by omega⟩
    rw[DE];unfold IA;have ha:=(IC w2 w3).1;rw[Bn h0 g3,C5 h0 hd',A0 (by simp;omega),AD (by omega) (by omega)];obtain⟨o,ho1,ho2⟩:=N2 hA kids F F p (p+1) 0 0 _ none ys c (C5 h0 hd') rfl hcN w6 g2 (by omega) (by omega) (by omega) (WJ 0) (WJ 0) (by omega) (by omega) (by omega);rw[AK ho1,ho2];simp only[Fo.dep];congr 1<;>omega
   | cell _ _ _=>cases h1
   | node _ _ _ _=>cases h1
end
def QS (c:UInt8):Ay:=bif (decide (c=34)||decide (c=92)) then[92,c] else[c]
theorem QR {s:Ay}{k:Nat}{c:UInt8}(h:s[k]? =some c):La (s.take (k+1))=La (s.take k)++QS c:=by
 rw[List.take_add_one,h];simp[La,List.flatMap_append,QS]
theorem NW (s:Ay):(La s).length≤3*s.length:=by
 rw[KZ];have h1:s.count 34≤s.length:=List.count_le_length;have h2:s.count 92≤s.length:=List.count_le_length;omega
theorem O8 {s:Ay}{x:Int}{c:UInt8}(h0:0≤x)(h:s[x.toNat]? =some c):List.take (Int.toNat (x+1)-Int.toNat x) (List.drop (Int.toNat x) s)=[c]:=by
 have hl:=(List.getElem?_eq_some_iff.1 h).1;have hc:=(List.getElem?_eq_some_iff.1 h).2;rw[show Int.toNat (x+1)-Int.toNat x=1 from by omega,List.drop_eq_getElem_cons hl,hc];rfl
theorem V7 {s:Ay}{x:Int}{c:UInt8}(h:s[x.toNat]? =some c):decide (DL s x=34)=decide (c=34):=by
 rw[MJ h,WA,decide_eq_true_iff,decide_eq_true_iff,← UInt8.toNat_inj];show _↔c.toNat=34;omega
theorem V6 {s:Ay}{x:Int}{c:UInt8}(h:s[x.toNat]? =some c):decide (DL s x=92)=decide (c=92):=by
 rw[MJ h,WA,decide_eq_true_iff,decide_eq_true_iff,← UInt8.toNat_inj];show _↔c.toNat=92;omega
theorem Mp {s out:Ay}{x:Int}{c:UInt8}(h0:0≤x)(hx:x<(s.length:Int))(hs:s.length≤1152921504606846976)(ho:out.length≤3*s.length+1)(hc:s[x.toNat]? =some c):CS s out x=some (.next (out++QS c,x+1)):=by
 unfold CS QS;rw[A5 (Ws hx),Bn h0 hx,V7 hc,V6 hc,O8 h0 hc];have l1:(([92]:Ay).length:Int)=1:=rfl;have l2:(([c]:Ay).length:Int)=1:=rfl
 cases hq:(decide (c=34)||decide (c=92)) with
 | true=>
  have l3:((out++([92]:Ay)).length:Int)=out.length+1:=by rw[W0,WT,Int.natCast_add];rfl
  rw[A5 rfl,l1,l2,l3,AD (by omega) (by omega),AD (by omega) (by omega),DH (by omega) (by omega),DH (by omega) (by omega),AD (by omega) (by omega),WD];rfl
 | false=>
  rw[A0 rfl,l2,AD (by omega) (by omega),DH (by omega) (by omega),DH (by omega) (by omega),AD (by omega) (by omega)];rfl
theorem C4 {R V:Type}(K:V→Option R)(v:V):B4 K (.go v)=K v:=rfl
theorem NA {R V:Type}(K:V→Option R)(r:R):B4 K (.ret r)=some r:=rfl
theorem Nw {s out:Ay}{x:Int}(hx : ¬ x<(s.length:Int)):CS s out x=some (.out (.go out)):=by
 unfold CS;rw[A0 (Wt hx)]
theorem Qt {out:Ay}(h:out.length≤4611686018427387904):DS out=some (out++[34]):=by
 unfold DS;have l1:(([34]:Ay).length:Int)=1:=rfl;rw[l1,AD (by omega) (by omega)]
theorem HZ {F:Nat}{s:Ay}(hF:s.length<F)(hs:s.length≤1152921504606846976):I6 F s=some (Ic s):=by
 obtain⟨o,h1,h2⟩:=ES (body:=λσ=>CS s σ.1 σ.2) (λσ=>0≤σ.2∧σ.2≤(s.length:Int)∧σ.1=34::La (s.take σ.2.toNat)) (λσ=>s.length-σ.2.toNat)
  (λo=>B4 (λν=>DS ν) o=some (Ic s)) (λσ ⟨h0,hl,ha⟩=>by
   obtain⟨out,x⟩:=σ;simp only at h0 hl ha;show(∃s',CS s out x=_∧_)∨∃o,CS s out x=_∧_;have hb:=NW (s.take x.toNat);have hb2:(s.take x.toNat).length≤s.length:=by rw[Xq];omega
   have hol:out.length≤3*s.length+1:=by rw[ha,Wx];omega
   by_cases hx:x<(s.length:Int)
   ·obtain⟨c,hc⟩:∃c,s[x.toNat]? =some c:=⟨s[x.toNat]'(by omega),Wv (by omega)⟩
    have a1:0≤x+1:=by omega
    have a2:x+1≤s.length:=by omega
    have a3:s.length-(x+1).toNat<s.length-x.toNat:=by omega
    have a4:out++QS c=34::La (s.take (x+1).toNat):=by rw[show(x+1).toNat=x.toNat+1 from by omega,QR hc,ha];rfl
    exact .inl ⟨(out++QS c,x+1),Mp h0 hx hs hol hc,⟨a1,a2,a4⟩,a3⟩
   ·have e:x.toNat=s.length:=by omega
    have hk:DS out=some (out++[34]):=Qt (by omega);have hf:out++[34]=Ic s:=by rw[ha,e,List.take_length];rfl
    exact .inr ⟨.go out,Nw hx,(C4 (λν=>DS ν) out).trans (hk.trans (congrArg some hf))⟩) F ([34],0) ⟨WJ 0,by show(0:Int)≤s.length;omega,by show([34]:Ay)=34::La (s.take 0);simp[La]⟩ (by show s.length-0<F;omega)
 unfold I6;rw[AK h1,h2]
section
variable {M : Nat} {v : List Al}
theorem VV (a b c d e:Ay):(((a++b)++c)++d)++e=a++(b++(c++d)++e):=by simp
theorem VW (a b c d:Ay):((a++b)++c)++d=a++([]++(b++c)++d):=by simp
theorem VX (a b c:Ay):(a++b)++c=a++(b++[]++c):=by simp
theorem VY (a b:Ay):a++b=a++([]++[]++b):=by simp
theorem T3 (a:Ay)(c:UInt8):((a++[c]).length:Int)=a.length+1:=by rw[W0,WT,Int.natCast_add];rfl
theorem NM (a b:Ay):((a++b).length:Int)=a.length+b.length:=by rw[W0,Int.natCast_add]
theorem L5 {F:Nat}{i:Int}{rec:List Al→Int→Option Ay}{out tx:Ay}{at_ x:Int}{m:Bool}{p q:Int}{pc:Al}{key:Option Ay}{last:Option Ay}(hpc:Ac v i=pc)(hm:decide (pc.fKind=6)=m)(hx:x<pc.fN)(hx0:0≤x)(hpcN:pc.fN≤9223372036854775807)
  (ha0:0≤at_) (haM:at_<v.length) (hvM:(v.length:Int)≤1152921504606846976) (hk:Cf m last key=true) (hkey:∀s,key=some s→(Ac v at_).fStr=s∧s.length<F∧s.length≤1152921504606846976) (hp:p=bif m then at_+1 else at_) (hr:rec v p=some tx) (hq:DM F v p=some q)
  (hlen:((out++(Gn (decide (x=0))++LH key++tx)).length:Int)≤4611686018427387904):Ek F v i rec out at_ x=some (.next (out++(Gn (decide (x=0))++LH key++tx),q,x+1)):=by
 have hb:(([44]:Ay).length:Int)=1:=rfl;have hd:(([58]:Ay).length:Int)=1:=rfl;have hx1:Bd (B7 .i64 (x+1)) (some (Stp.next (out++(Gn (decide (x=0))++LH key++tx),q,x+1)):Option (Stp (Ay×Int×Int) (Out Ay Ay)))=some (Stp.next (out++(Gn (decide (x=0))++LH key++tx),q,x+1)):=AD (by omega) (by omega);unfold Ek;rw[hpc,A5 (Ws hx),hm]
 cases ha:decide (x=0) with
 | true=>
  rw[ha] at hx1 hlen;simp only[Wp] at ha;rw[A0 (Wt (by omega))]
  cases m with
  | true=>
   cases key with
   | none=>simp[Cf] at hk
   | some s=>
    obtain⟨e1,e2,e3⟩:=hkey s rfl;simp only[W4] at hp;have e:((out++Ic s)++[58])++tx=out++(Gn true++LH (some s)++tx):=VW _ _ _ _;rw[← e] at hx1 hlen ⊢;have h1:=NM ((out++Ic s)++[58]) tx;have h2:=T3 (out++Ic s) 58;have h3:=NM out (Ic s);rw[A5 rfl,Bn ha0 haM,e1,HZ e2 e3,AK rfl,AD (by omega) (by omega),hd,AD (by omega) (by omega),AD (by omega) (by omega),← hp,hr,AK rfl,AD (by omega) (by omega),hq,AK rfl,hx1]
  | false=>
   cases key with
   | some s=>simp[Cf] at hk
   | none=>
    simp only[Wz] at hp;have e:out++tx=out++(Gn true++LH none++tx):=VY _ _;rw[← e] at hx1 hlen ⊢;have h1:=NM out tx;rw[A0 rfl,← hp,hr,AK rfl,AD (by omega) (by omega),hq,AK rfl,hx1]
 | false=>
  rw[ha] at hx1 hlen;simp only[Wq] at ha;rw[A5 (Ws (by omega))]
  cases m with
  | true=>
   cases key with
   | none=>simp[Cf] at hk
   | some s=>
    obtain⟨e1,e2,e3⟩:=hkey s rfl;simp only[W4] at hp;have e:(((out++[44])++Ic s)++[58])++tx=out++(Gn false++LH (some s)++tx):=VV _ _ _ _ _;rw[← e] at hx1 hlen ⊢;have h1:=NM (((out++[44])++Ic s)++[58]) tx;have h2:=T3 ((out++[44])++Ic s) 58;have h3:=NM (out++[44]) (Ic s);have h4:=T3 out 44;rw[hb,AD (by omega) (by omega),A5 rfl,Bn ha0 haM,e1,HZ e2 e3,AK rfl,AD (by omega) (by omega),hd,AD (by omega) (by omega),AD (by omega) (by omega),← hp,hr,AK rfl,AD (by omega) (by omega),hq,AK rfl,hx1]
  | false=>
   cases key with
   | some s=>simp[Cf] at hk
   | none=>
    simp only[Wz] at hp;have e:(out++[44])++tx=out++(Gn false++LH none++tx):=VX _ _ _;rw[← e] at hx1 hlen ⊢;have h1:=NM (out++[44]) tx;have h4:=T3 out 44;rw[hb,AD (by omega) (by omega),A0 rfl,← hp,hr,AK rfl,AD (by omega) (by omega),hq,AK rfl,hx1]
theorem Pq {i:Int}{pc:Al}{out:Ay}(hpc:Ac v i=pc)(h:out.length≤4611686018427387904):I4 v i out=some (Rk pc out):=by
 unfold I4 Rk;have l1:(([123]:Ay).length:Int)=1:=rfl;have l2:(([91]:Ay).length:Int)=1:=rfl;have l3:(([125]:Ay).length:Int)=1:=rfl;have l4:(([93]:Ay).length:Int)=1:=rfl;have h1:=NM [123] out;have h2:=NM [91] out;rw[hpc]
 cases hk:decide (pc.fKind=6) with
 | true=>rw[A5 rfl,AD (by omega) (by omega),AD (by omega) (by omega)];rfl
 | false=>rw[A0 rfl,AD (by omega) (by omega),AD (by omega) (by omega)];rfl
theorem KH {F:Nat}{p:Int}{c:Al}{r:List Al}(h0:0≤p)(hpM:p≤1152921504606846976)(hd:v.drop p.toNat=c::r)(hp:pl c=true)(hn:decide (0<c.fN)=false)(hs:c.fStr.length<F+1)(hs2:c.fStr.length≤1152921504606846976)(hi:B7 .i64 c.fInt=true):GV (F+2) v p=some (JH c):=by
 obtain⟨g1,g2,g3⟩:=B9 h0 hd;rw[GV];unfold Mo JH;rw[Bn h0 g3,C5 h0 hd]
 cases k1:decide (c.fKind=1) with
 | true=>rw[A5 rfl];rfl
 | false=>
 rw[A0 rfl]
 cases k2:decide (c.fKind=2) with
 | true=>rw[A5 rfl];cases decide (c.fInt=1)<;>rfl
 | false=>
 rw[A0 rfl]
 cases k3:decide (c.fKind=3) with
 | true=>rw[A5 rfl,Bk hi];rfl
 | false=>
 rw[A0 rfl]
 cases k4:decide (c.fKind=4) with
 | true=>rw[A5 rfl,HZ hs hs2,AK rfl];rfl
 | false=>
 have hgo:Ek (F+1) v p (GV (F+1)) [] (p+1) 0=some (.out (.go [])):=by
  unfold Ek;rw[C5 h0 hd,A0 hn]
 rw[A0 rfl,AD (by omega) (by omega),AK (HN (o:=.go []) hgo),C4,Pq (C5 h0 hd) (by simp)];simp only[Wz,Rk]
 cases decide (c.fKind=6)<;>rfl
end
section
variable {M : Nat} {v : List Al}
theorem Dq {α:Type}[Inhabited α](a:α):ov (some a)=a:=rfl
theorem Ss {at_:Int}{k:Option Ay}{r:List Al}(h0:0≤at_)(hA:Lp M v){F:Nat}(hF:M<F)(hd:v.drop at_.toNat=By k++r):∀s,k=some s→(Ac v at_).fStr=s∧s.length<F∧s.length≤1152921504606846976:=λs e=>by
 subst e;have hd':v.drop at_.toNat=⟨4,0,s,0⟩::r:=by simpa[By] using hd
 have h1:=C5 h0 hd';have h2:=(hA.hc _ (Wy (B9 h0 hd').1)).1;have hM:=hA.hM;simp only at h2;exact⟨by rw[h1],by omega,by omega⟩
theorem Nt (hA:Lp M v):∀(g:Fo) (F L:Nat) (i at_ x:Int) (out:Ay) (m:Bool) (last:Option Ay) (ys:List Al) (pc:Al),Ac v i=pc→decide (pc.fKind=6)=m→pc.fN≤9223372036854775807→g.wf m last=true→v.drop at_.toNat=g.flat++ys→0≤at_→at_≤v.length→pc.fN=x+g.cnt→0≤x→(out++g.txt (decide (x=0))).length≤4611686018427387904→g.cnt<L→3*M+5+g.flat.length<F→
  ∃o,BB (λσ=>Ek F v i (GV F) σ.1 σ.2.1 σ.2.2) L (out,at_,x)=some o∧B4 (λν=>I4 v i ν) o=some (Rk pc (out++g.txt (decide (x=0)))):=by
 have hM:=hA.hM;have hvM:=hA.hv;intro g
 induction g with
 | nil=>
  intro F L i at_ x out m last ys pc hpc hm hpN hw hd h0 h1 hN hx hlen hL hF;obtain⟨L,rfl⟩:∃K,L=K+1:=⟨L-1,by omega⟩
  have hgo:Ek F v i (GV F) out at_ x=some (.out (.go out)):=by
   simp only[Fo.cnt] at hN;unfold Ek;rw[hpc,A0 (Wt (by omega))]
  refine⟨.go out,HN hgo,?_⟩;simp only[Fo.txt,Xj] at hlen ⊢;rw[C4,Pq hpc hlen]
 | cell k c r ih=>
  intro F L i at_ x out m last ys pc hpc hm hpN hw hd h0 h1 hN hx hlen hL hF;simp only[Fo.wf,Wu,W5] at hw;obtain⟨⟨⟨w1,w2⟩,w3⟩,w4⟩:=hw;simp only[Fo.flat,WD,Xh] at hd;simp only[Fo.cnt] at hN hL;simp only[Fo.flat,W0,Wx] at hF;obtain⟨L,rfl⟩:∃K,L=K+1:=⟨L-1,by omega⟩
  obtain⟨F,rfl⟩:∃K,F=K+2:=⟨F-2,by omega⟩
  have hd1:=C8 h0 hd;have hkl:=Kn w1;obtain⟨g1,g2,g3⟩:=B9 (by omega) hd1;have hcM:=hA.hc c (Wy g1);have hp:at_+(By k).length=bif m then at_+1 else at_:=by rw[hkl];cases m<;>simp
  have hq:=hA.next (F:=F+2) (by omega) (p:=at_+(By k).length) (by omega) (by omega);rw[Mx (f:=.cell none c .nil) (ys:=r.flat++ys) rfl (Pa w2 w3) hd1] at hq;have e:out++(Fo.cell k c r).txt (decide (x=0))=(out++(Gn (decide (x=0))++LH k++JH c))++r.txt (decide (x+1=0)):=by
   rw[Wt (show ¬ x+1=0 by omega)];simp[Fo.txt]
  rw[e] at hlen ⊢;have hl2:((out++(Gn (decide (x=0))++LH k++JH c)).length:Int)≤4611686018427387904:=by rw[W0] at hlen;omega
  have hat:at_<v.length:=by omega
  have hb:=L5 hpc hm (by omega) hx hpN h0 hat (by omega) w1 (Ss h0 hA (F:=F+2) (by omega) hd) hp (KH (F:=F) (by omega) (by omega) hd1 w2 w3 (by omega) (by omega) hcM.2.1) hq hl2;obtain⟨o,ho1,ho2⟩:=ih (F+2) L i (at_+(By k).length+((Fo.cell none c .nil).flat.length:Int)) (x+1) (out++(Gn (decide (x=0))++LH k++JH c)) m k ys pc hpc hm hpN w4 (by rw[show(Fo.cell none c .nil).flat.length=1 from rfl];exact g2) (by omega) (by rw[show(Fo.cell none c .nil).flat.length=1 from rfl];omega) (by omega) (by omega) hlen (by omega) (by omega);exact⟨o,LE hb ho1,ho2⟩
 | node k c kids r ihk ih=>
  intro F L i at_ x out m last ys pc hpc hm hpN hw hd h0 h1 hN hx hlen hL hF;simp only[Fo.wf,Wu,Wp] at hw;obtain⟨⟨⟨⟨⟨w1,w2⟩,w3⟩,w5⟩,w6⟩,w4⟩:=hw;simp only[Fo.flat,WD,Xh] at hd;simp only[Fo.cnt] at hN hL;simp only[Fo.flat,W0,Wx] at hF;obtain⟨L,rfl⟩:∃K,L=K+1:=⟨L-1,by omega⟩
  obtain⟨F,rfl⟩:∃K,F=K+1:=⟨F-1,by omega⟩
  have hd1:=C8 h0 hd;have hkl:=Kn w1;obtain⟨g1,g2,g3⟩:=B9 (by omega) hd1;have hcN:=(hA.hc c (Wy g1)).2.2;have hp:at_+(By k).length=bif m then at_+1 else at_:=by rw[hkl];cases m<;>simp
  have hq:=hA.next (F:=F+1) (by omega) (p:=at_+(By k).length) (by omega) (by omega);have hfl:(Fo.node none c kids .nil).flat=c::kids.flat:=by simp[Fo.flat,By]
  rw[Mx (f:=.node none c kids .nil) (ys:=r.flat++ys) rfl (OZ w2 w3 w5 w6) (by rw[hd1,hfl];simp)] at hq;have hcf:=BS kids;have hvl:(v.drop (at_+(By k).length+1).toNat).length=kids.flat.length+(r.flat.length+ys.length):=by rw[g2];simp
  rw[Xn] at hvl;have e:out++(Fo.node k c kids r).txt (decide (x=0))=(out++(Gn (decide (x=0))++LH k++Rk c (kids.txt true)))++r.txt (decide (x+1=0)):=by
   rw[Wt (show ¬ x+1=0 by omega)];simp[Fo.txt]
  rw[e] at hlen ⊢;have hl2:((out++(Gn (decide (x=0))++LH k++Rk c (kids.txt true))).length:Int)≤4611686018427387904:=by rw[W0] at hlen;omega
  have hl3:(kids.txt true).length≤4611686018427387904:=by
   have:=MI c (kids.txt true);rw[W0,W0] at hl2;omega
  have hat:at_<v.length:=by omega
  have hrec:GV (F+1) v (at_+(By k).length)=some (Rk c (kids.txt true)):=by
   rw[GV];unfold Mo;have ha:=(IC w2 w3).1;rw[Bn (by omega) g3,C5 (by omega) hd1,A0 (Wt (by omega)),A0 (Wt (by omega)),A0 (Wt (by omega)),A0 (Wt (by omega)),AD (by omega) (by omega)];obtain⟨o,ho1,ho2⟩:=ihk F F (at_+(By k).length) (at_+(By k).length+1) 0 [] _ none (r.flat++ys) c (C5 (by omega) hd1) rfl hcN w6 (by rw[g2]) (by omega) (by omega) (by omega) (WJ 0) hl3 (by omega) (by omega);rw[AK ho1,ho2];rfl
  have hb:=L5 hpc hm (by omega) hx hpN h0 hat (by omega) w1 (Ss h0 hA (F:=F+1) (by omega) hd) hp hrec hq hl2;obtain⟨o,ho1,ho2⟩:=ih (F+1) L i (at_+(By k).length+((Fo.node none c kids .nil).flat.length:Int)) (x+1) (out++(Gn (decide (x=0))++LH k++Rk c (kids.txt true))) m k ys pc hpc hm hpN w4 (by
   have:=C8 (by omega) g2;rw[hfl,Wx,show at_+(By k).length+((kids.flat.length+1:Nat):Int)=at_+(By k).length+1+kids.flat.length from by omega];exact this) (by omega) (by rw[hfl,Wx];omega) (by omega) (by omega) hlen (by omega) (by omega)
  exact⟨o,LE hb ho1,ho2⟩
theorem RI (hA:Lp M v){F:Nat}{p:Int}{f:Fo}{ys:List Al}(h0:0≤p)(h1:f.one=true)(hw:f.wf false none=true)(hd:v.drop p.toNat=f.flat++ys)(hF:3*M+6+f.flat.length<F)(hlen:(f.txt true).length≤4611686018427387904):GV F v p=some (f.txt true):=by
 have hM:=hA.hM;have hvM:=hA.hv
 cases f with
 | nil=>cases h1
 | cell k c r=>
  cases k with
  | some s=>cases h1
  | none=>
   cases r with
   | nil=>
    simp only[Fo.wf,Wu,W5] at hw;obtain⟨F,rfl⟩:∃K,F=K+2:=⟨F-2,by omega⟩
    have hd':v.drop p.toNat=c::ys:=by simpa[Fo.flat,By] using hd
    have hcM:=hA.hc c (Wy (B9 h0 hd').1);rw[KH h0 (by have:=(B9 h0 hd').2.2;omega) hd' hw.1.1.2 hw.1.2 (by omega) (by omega) hcM.2.1];simp[Fo.txt,Gn,LH]
   | cell _ _ _=>cases h1
   | node _ _ _ _=>cases h1
 | node k c kids r=>
  cases k with
  | some s=>cases h1
  | none=>
   cases r with
   | nil=>
    simp only[Fo.wf,Wu,Wp] at hw;obtain⟨⟨⟨⟨⟨w1,w2⟩,w3⟩,w5⟩,w6⟩,w4⟩:=hw;have hd':v.drop p.toNat=c::(kids.flat++ys):=by simpa[Fo.flat,By] using hd
    obtain⟨g1,g2,g3⟩:=B9 h0 hd';have hcN:=(hA.hc c (Wy g1)).2.2;have hcf:=BS kids;simp only[Fo.flat,By,Xr,Xj,Wx] at hF;have et:(Fo.node none c kids .nil).txt true=Rk c (kids.txt true):=by simp[Fo.txt,Gn,LH]
    rw[et] at hlen ⊢;have hbl:=MI c (kids.txt true);obtain⟨F,rfl⟩:∃K,F=K+1:=⟨F-1,by omega⟩
    rw[GV];unfold Mo;have ha:=(IC w2 w3).1;rw[Bn h0 g3,C5 h0 hd',A0 (Wt (by omega)),A0 (Wt (by omega)),A0 (Wt (by omega)),A0 (Wt (by omega)),AD (by omega) (by omega)];obtain⟨o,ho1,ho2⟩:=Nt hA kids F F p (p+1) 0 [] _ none ys c (C5 h0 hd') rfl hcN w6 g2 (by omega) (by omega) (by omega) (WJ 0) (by show(kids.txt true).length≤_;omega) (by omega) (by omega);rw[AK ho1,ho2];rfl
   | cell _ _ _=>cases h1
   | node _ _ _ _=>cases h1
theorem Q2 {F:Nat}{K:Option Int}(hF:v.length<F)(hv:v.length≤1152921504606846976):Bq (BB (λσ=>E4 v σ) F 0) (B4 λ_=>K)=bif v.any HA then some 2 else K:=by
 obtain⟨o,h1,h2⟩:=ES (body:=λσ=>E4 v σ) (λx=>0≤x∧x≤(v.length:Int)∧(v.take x.toNat).any HA=false) (λx=>v.length-x.toNat)
  (λo=>B4 (λ_=>K) o=bif v.any HA then some 2 else K) (λx ⟨h0,hl,ha⟩=>by
   by_cases hx:x<(v.length:Int)
   ·obtain⟨c,hc⟩:∃c,v[x.toNat]? =some c:=⟨v[x.toNat]'(by omega),Wv (by omega)⟩
    have hat:Ac v x=c:=by simp[Ac,hc]
    have ho:(decide (c.fKind=3)&&(decide (c.fInt<(-1000000000000))||decide (1000000000000<c.fInt)))=HA c:=by
     unfold HA
     cases decide (c.fKind=3) with
     | false=>rfl
     | true=>
      rw[WB,WB,WA];simp only[WE,Wp,W5,Xm,Wq];omega
    have hb:E4 v x=Bh (HA c) (some (.out (.ret 2))) (some (.next (x+1))):=by
     unfold E4;rw[A5 (Ws hx),Bn h0 hx,hat,ho,AD (by omega) (by omega)]
    cases hq:HA c with
    | true=>
     refine .inr ⟨.ret 2,hb.trans (A5 hq),?_⟩;have:v.any HA=true:=List.any_eq_true.2 ⟨c,Wy hc,hq⟩;rw[NA,this];rfl
    | false=>
     have a3:(v.take (x+1).toNat).any HA=false:=by
      rw[show(x+1).toNat=x.toNat+1 from by omega,List.take_add_one,hc,List.any_append,ha];simp[hq]
     exact .inl ⟨x+1,hb.trans (A0 hq),⟨by omega,by omega,a3⟩,by omega⟩
   ·refine .inr ⟨.go (),by unfold E4;rw[A0 (Wt hx)],?_⟩;rw[show x.toNat=v.length from by omega,List.take_length] at ha;rw[C4,ha];rfl) F 0 ⟨WJ 0,by omega,by simp⟩ (by simpa using hF)
 rw[AK h1,h2]
theorem Q1 {F:Nat}{K:Option Int}(hF:v.length<F)(hv:v.length≤1152921504606846976):Bq (BB (λσ=>E3 v σ) F 0) (B4 λ_=>K)=bif v.any GJ then some 3 else K:=by
 obtain⟨o,h1,h2⟩:=ES (body:=λσ=>E3 v σ) (λx=>0≤x∧x≤(v.length:Int)∧(v.take x.toNat).any GJ=false) (λx=>v.length-x.toNat)
  (λo=>B4 (λ_=>K) o=bif v.any GJ then some 3 else K) (λx ⟨h0,hl,ha⟩=>by
   by_cases hx:x<(v.length:Int)
   ·obtain⟨c,hc⟩:∃c,v[x.toNat]? =some c:=⟨v[x.toNat]'(by omega),Wv (by omega)⟩
    have hat:Ac v x=c:=by simp[Ac,hc]
    have hb:E3 v x=Bh (GJ c) (some (.out (.ret 3))) (some (.next (x+1))):=by
     unfold E3;rw[A5 (Ws hx),Bn h0 hx,hat,AD (by omega) (by omega)];rfl
    cases hq:GJ c with
    | true=>
     refine .inr ⟨.ret 3,hb.trans (A5 hq),?_⟩;have:v.any GJ=true:=List.any_eq_true.2 ⟨c,Wy hc,hq⟩;rw[NA,this];rfl
    | false=>
     have a3:(v.take (x+1).toNat).any GJ=false:=by
      rw[show(x+1).toNat=x.toNat+1 from by omega,List.take_add_one,hc,List.any_append,ha];simp[hq]
     exact .inl ⟨x+1,hb.trans (A0 hq),⟨by omega,by omega,a3⟩,by omega⟩
   ·refine .inr ⟨.go (),by unfold E3;rw[A0 (Wt hx)],?_⟩;rw[show x.toNat=v.length from by omega,List.take_length] at ha;rw[C4,ha];rfl) F 0 ⟨WJ 0,by omega,by simp⟩ (by simpa using hF)
 rw[AK h1,h2]
theorem M9:decide (GI v 0=v.length)=(whole v).isSome:=by
 unfold GI whole;rw[show v.drop (0:Int).toNat=v from rfl]
 cases hp:Gr v with
 | none=>simp
 | some q=>
  obtain⟨f,ys⟩:=q;have h1:=(Hy hp).1;have hl:v.length=f.flat.length+ys.length:=by rw[h1];simp
  cases ys with
  | nil=>simp at hl ⊢;omega
  | cons c r=>simp at hl ⊢;omega
theorem Q3 (hA:Lp M v)(hM:M≤1000000){F:Nat}(hF:4*M+6<F):OH F v=some (S6 v):=by
 have hvM:=hA.hv;unfold OH;rw[OG (hA.rf (WZ M)) (λc hc=>(hA.hc c hc).2.2) (by omega),AK rfl,M9];unfold S6
 cases hwh:whole v with
 | none=>rfl
 | some f=>
  obtain⟨h1,h2,h3⟩:=Ot hwh;rw[A0 (p:=!(some f).isSome) rfl]
  change _=some (TG f)
  have hl:v.length=f.flat.length:=by rw[h1]
  have hc:∀c∈f.flat,c.fStr.length≤M∧B7 .i64 c.fInt=true∧c.fN≤9223372036854775807:=λc hc=>hA.hc c (by rw[h1];exact hc);have hb:=LU hM h2 (by omega) hc;have htl:((f.txt true).length:Int)=f.byt:=by rw[I0 f false none true h2,Py h3];simp
  have hd0:v.drop (0:Int).toNat=f.flat++[]:=by rw[Xj];exact h1
  rw[Q2 (by omega) (by omega)];unfold TG L9;rw[OF hA (WJ 0) h3 h2 hd0 (by omega),Bk (by simp[imp]),Q1 (by omega) (by omega)];unfold L8;rw[RI hA (WJ 0) h3 h2 hd0 (by omega) (by omega),AK rfl];rw[Dq,hl,← h1];have a1:decide ((200:Int)<(v.length:Int))=decide (200<v.length):=by rw[WA];simp;omega
  have a2:decide ((8:Int)<(f.dep:Int))=decide (8<f.dep):=by rw[WA];simp;omega
  have a3:decide ((4000:Int)<((f.txt true).length:Int))=decide (4000<(f.txt true).length):=by rw[WA];simp;omega
  rw[a1,a2,a3]
  cases v.any HA<;>cases v.any GJ<;>cases decide (200<v.length)<;>cases decide (8<f.dep)<;>cases decide (4000<(f.txt true).length)<;>rfl
end
section
variable {M : Nat}
end
section
variable {M : Nat}
end
def RA (v:List Al):Bool:=!decide (300<v.length)&&v.all λc=>!decide (300<c.fStr.length)
def RZ (c:Al):Bool:=B7 .i64 c.fKind&&B7 .i64 c.fInt&&RY c.fStr&&B7 .i64 c.fN
theorem Lp.of {v:List Al}(hs:RA v=true)(hc:v.all RZ=true):Lp 300 v:=by
 unfold RA at hs;simp only[Wu,W5,Wq,WM] at hs hc;refine⟨by decide,by omega,λc h=>?_⟩;obtain h1:=hs.2 c h;obtain h2:=hc c h;unfold RZ at h2;simp only[Wu] at h2;exact⟨by omega,h2.1.1.2,(H5 h2.2).2⟩
theorem Sw (a:Bool):imp a true=true:=by cases a<;>rfl
section
variable {M : Nat}
end
theorem T0 {α:Type}{l:List α}{body:Int→Option (Stp Int (Out Bool Unit))}{bad:α→Bool}(hb:∀(i:Nat) (h:i<l.length),body (i:Int)=some (bif bad l[i] then .out (.ret false) else .next ((i:Int)+1)))(he:body (l.length:Int)=some (.out (.go ()))) :
  ∀(d n i:Nat),i+d=l.length→d<n→∃o,BB body n (i:Int)=some o∧∀k:Option Bool,B4 (λ_=>k) o=bif (l.drop i).any bad then some false else k:=by
 intro d
 induction d with
 | zero=>
  intro n i h hn;obtain⟨n,rfl⟩:∃m,n=m+1:=⟨n-1,by omega⟩
  obtain rfl:i=l.length:=by omega
  refine⟨.go (),by rw[BB,he],λk=>?_⟩;rw[List.drop_length];rfl
 | succ d ih=>
  intro n i h hn;obtain⟨n,rfl⟩:∃m,n=m+1:=⟨n-1,by omega⟩
  have hi:i<l.length:=by omega
  have hd:=List.drop_eq_getElem_cons hi;have h1:=hb i hi
  cases hq:bad l[i] with
  | true=>
   rw[hq] at h1;refine⟨.ret false,by rw[BB,h1];rfl,λk=>?_⟩;rw[hd,List.any_cons,hq];rfl
  | false=>
   rw[hq] at h1;obtain⟨o,h2,h3⟩:=ih n (i+1) (by omega) (by omega);refine⟨o,by rw[BB,h1];exact h2,λk=>?_⟩;rw[h3 k,hd,List.any_cons,hq,W7]
theorem NK {α:Type}{l:List α}{body:Int→Option (Stp Int (Out Bool Unit))}{bad:α→Bool}{F:Nat}(hF:l.length<F)(hb:∀(i:Nat) (h:i<l.length),body (i:Int)=some (bif bad l[i] then .out (.ret false) else .next ((i:Int)+1)))(he:body (l.length:Int)=some (.out (.go ())))(k:Option Bool) :
  Bq (BB body F 0) (B4 λ_=>k)=bif l.any bad then some false else k:=by
 obtain⟨o,h1,h2⟩:=T0 hb he l.length F 0 (by omega) hF;have h1':BB body F 0=some o:=h1;rw[AK h1',h2 k,List.drop_zero]
theorem Ez {α:Type}(n:Nat)(f:List α):decide (((n:Nat):Int)<(f.length:Int))=decide (n<f.length):=by rw[WA];simp
theorem DI {α:Type}[Inhabited α]{l:List α}{i:Nat}(h:i<l.length):Ac l (i:Int)=l[i]:=by simp[Ac,h]
def Rb (e:Ap):Bool:=decide (300<e.fID.length)||(decide (300<e.fTenant.length)||(decide (300<e.fSource.length)||(decide (300<e.fKey.length)||(decide (300<e.fCause.length)||decide (300<e.fBody.length)))))
def CL (e:Ap):Bool:=!Rb e&&!e.fBody.any λc=>decide (5000<c.fStr.length)
theorem KI {F:Nat}(hF:300<F)(e:Ap):BP F e=some (CL e):=by
 unfold BP CL;have hbig:((decide (300<(e.fID.length:Int)))||((decide (300<(e.fTenant.length:Int)))||((decide (300<(e.fSource.length:Int)))||((decide (300<(e.fKey.length:Int)))||((decide (300<(e.fCause.length:Int)))||(decide (300<(e.fBody.length:Int))))))))=Rb e:=by
  unfold Rb;rw[← Ez 300 e.fID,← Ez 300 e.fTenant,← Ez 300 e.fSource,← Ez 300 e.fKey,← Ez 300 e.fCause,← Ez 300 e.fBody];rfl
 rw[hbig]
 cases hb:Rb e with
 | true=>rfl
 | false=>
  have hl:e.fBody.length≤300:=by
   unfold Rb at hb;simp only[WN,Wq] at hb;omega
  have h:=NK (l:=e.fBody) (F:=F) (body:=λσ=>Ck e σ) (bad:=λc=>decide (5000<c.fStr.length)) (by omega) (λi h=>by
   unfold Ck;rw[A5 (Ws (by omega)),Bn (by omega) (by omega),DI h,AD (by omega) (by omega)];have:=Ez 5000 (e.fBody[i]).fStr;rw[show decide ((5000:Int)<((e.fBody[i]).fStr.length:Int))=decide (5000<(e.fBody[i]).fStr.length) from this]
   cases decide (5000<(e.fBody[i]).fStr.length)<;>rfl) (by unfold Ck;rw[A0 (Wt (by omega))]) (some true)
  rw[A0 rfl];exact h.trans (by cases e.fBody.any _<;>rfl)
def IY (o:AT):Bool:=!CL o.fEvent||decide (300<o.fReceipt.length)
def Gm (l:List AT):Bool:=!decide (300<l.length)&&!l.any IY
theorem NN {F:Nat}(hF:300<F)(l:List AT):CY F l=some (Gm l):=by
 unfold CY Gm;rw[show decide ((300:Int)<(l.length:Int))=decide (300<l.length) from Ez 300 l]
 cases hb:decide (300<l.length) with
 | true=>rfl
 | false=>
  simp only[Wq] at hb;have h:=NK (l:=l) (F:=F) (body:=λσ=>CX F l σ) (bad:=IY) (by omega) (λi h=>by
   unfold CX;rw[A5 (Ws (by omega)),Bn (by omega) (by omega),DI h,KI hF,Option.isSome_some,Bk rfl,AD (by omega) (by omega),show decide ((300:Int)<((l[i]).fReceipt.length:Int))=decide (300<(l[i]).fReceipt.length) from Ez 300 _];have:((!(ov (some (CL (l[i]).fEvent))))||(decide (300<((l[i]).fReceipt).length)))=IY l[i]:=rfl;rw[this]
   cases IY l[i]<;>rfl) (by unfold CX;rw[A0 (Wt (by omega))]) (some true)
  rw[A0 rfl];exact h.trans (by cases l.any _<;>rfl)
theorem KE:∀a:Ay,BM a a=false
 | []=>rfl
 | x::a=>by
  show Op.bytesLess (x::a) (x::a)=false;have h : ¬ x<x:=λh=>absurd h (by simp);have ih:Op.bytesLess a a=false:=KE a;simp[Op.bytesLess,h,ih]
theorem Mg (x y:UInt8)(a b:Ay):BM (x::a) (y::b)=(decide (x<y)||(decide (x=y)&&BM a b)):=by
 show Op.bytesLess (x::a) (y::b)=_;simp only[Op.bytesLess]
 by_cases h:x<y
 ·simp[h]
 ·by_cases e:x=y
  ·subst e;simp[h]
  ·have:y<x:=by
    rcases Nat.lt_trichotomy x.toNat y.toNat with h1 | h1 | h1
    ·exact absurd (UInt8.lt_iff_toNat_lt.2 h1) h
    ·exact absurd (UInt8.toNat_inj.1 h1) e
    ·exact UInt8.lt_iff_toNat_lt.2 h1
   simp[h,e,this]
theorem KD:∀{a b c:Ay},BM a b=true→BM b c=true→BM a c=true
 | [],[],_,h,_=>by cases h
 | [],_::_,[],_,h=>by cases h
 | [],_::_,_::_,_,_=>rfl
 | _::_,[],_,h,_=>by cases h
 | _::_,_::_,[],_,h=>by cases h
 | x::a,y::b,z::c,h,h'=>by
  rw[Mg] at h h' ⊢;simp only[WE,Wp,Wu] at h h' ⊢;have t:∀{u v:UInt8},u<v↔u.toNat<v.toNat:=UInt8.lt_iff_toNat_lt;rcases h with h | ⟨rfl,h⟩
  ·rcases h' with h' | ⟨rfl,h'⟩
   ·exact .inl (t.2 (Nat.lt_trans (t.1 h) (t.1 h')))
   ·exact .inl h
  ·rcases h' with h' | ⟨rfl,h'⟩
   ·exact .inl h'
   ·exact .inr ⟨rfl,KD h h'⟩
theorem Nn:∀(a b:Ay),BM a b=true∨a=b∨BM b a=true
 | [],[]=>.inr (.inl rfl)
 | [],_::_=>.inl rfl
 | _::_,[]=>.inr (.inr rfl)
 | x::a,y::b=>by
  rw[Mg,Mg];simp only[WE,Wp,Wu];rcases Nat.lt_trichotomy x.toNat y.toNat with h1 | h1 | h1
  ·exact .inl (.inl (UInt8.lt_iff_toNat_lt.2 h1))
  ·have e:=UInt8.toNat_inj.1 h1;subst e;rcases Nn a b with h | rfl | h
   ·exact .inl (.inr ⟨rfl,h⟩)
   ·exact .inr (.inl rfl)
   ·exact .inr (.inr (.inr ⟨rfl,h⟩))
  ·exact .inr (.inr (.inl (UInt8.lt_iff_toNat_lt.2 h1)))
theorem Vl {a b:Ay}(h:BM a b=true):a≠b:=λe=>by subst e;rw[KE] at h;cases h
section
variable {T : Type}
def Ms (xs:List (Ay×T)):Prop:=xs.Pairwise λp q=>BM p.1 q.1=true
theorem Ms.nil:Ms ([]:List (Ay×T)):=List.Pairwise.nil
theorem Ms.nodup {xs:List (Ay×T)}(h:Ms xs):(xs.map (·.1)).Nodup:=by
 rw[List.Nodup,List.pairwise_map];exact h.imp λhpq=>Vl hpq
theorem IK {xs:List (Ay×T)}{k:Ay}:mget xs k=none↔∀p∈xs,p.1≠k:=by
 induction xs with
 | nil=>simp[mget]
 | cons p r ih=>
  rw[mget]
  by_cases h:p.1=k
  ·rw[Ws h];simp[h]
  ·rw[Wt h];simp[h,ih]
theorem HM {xs:List (Ay×T)}{k:Ay}{v:T}(h:mget xs k=some v):(k,v)∈xs:=by
 induction xs with
 | nil=>cases h
 | cons p r ih=>
  rw[mget] at h
  by_cases e:p.1=k
  ·rw[Ws e] at h;cases h;subst e;exact List.mem_cons_self ..
  ·rw[Wt e] at h;exact List.mem_cons_of_mem _ (ih h)
theorem NI {k:Ay}{v:T}{q:Ay×T}:∀{xs:List (Ay×T)},q∈mins k v xs→q=(k,v)∨q∈xs
 | [],h=>by simp[mins] at h;exact .inl h
 | p::r,h=>by
  rw[mins] at h
  cases hs:BM k p.1 with
  | true=>rw[hs] at h;simpa using h
  | false=>
   rw[hs] at h;rcases List.mem_cons.1 h with h | h
   ·exact .inr (by rw[h];exact List.mem_cons_self ..)
   ·rcases NI h with h | h
    ·exact .inl h
    ·exact .inr (List.mem_cons_of_mem _ h)
theorem Ms.mins {k:Ay}{v:T}:∀{xs:List (Ay×T)},Ms xs→mget xs k=none→Ms (mins k v xs)
 | [],_,_=>List.pairwise_singleton ..
 | p::r,h,hk=>by
  obtain⟨h1,h2⟩:=List.pairwise_cons.1 h;rw[mget] at hk
  by_cases e:p.1=k
  ·rw[Ws e] at hk;cases hk
  ·rw[Wt e] at hk;rw[Proofs.YthbbedliepkakaaGreatDoor.mins]
   cases hs:BM k p.1 with
   | true=>exact List.pairwise_cons.2 ⟨λq hq=>by
     rcases List.mem_cons.1 hq with rfl | hq
     ·exact hs
     ·exact KD hs (h1 q hq),h⟩
   | false=>
    have hp:BM p.1 k=true:=by
     rcases Nn p.1 k with h | h | h
     ·exact h
     ·exact absurd h e
     ·rw[h] at hs;cases hs
    exact List.pairwise_cons.2 ⟨λq hq=>by
     rcases NI hq with rfl | hq
     ·exact hp
     ·exact h1 q hq,Ms.mins h2 hk⟩
theorem Ms.mput {xs:List (Ay×T)}(h:Ms xs)(k:Ay)(v:T):Ms (mput xs k v):=by
 unfold Proofs.YthbbedliepkakaaGreatDoor.mput;unfold Ms;rw[List.pairwise_map];refine h.imp fun {p q} hpq=>?_;have e:∀p:Ay×T,(bif decide (p.1=k) then(k,v) else p).1=p.1:=λp=>by
  by_cases hp:p.1=k
  ·rw[Ws hp];exact hp.symm
  ·rw[Wt hp];rfl
 rw[e,e];exact hpq
theorem Ms.mset {xs:List (Ay×T)}(h:Ms xs)(k:Ay)(v:T):Ms (mset xs k v):=by
 unfold Proofs.YthbbedliepkakaaGreatDoor.mset Cp
 cases hk:mget xs k with
 | none=>exact h.mins hk
 | some w=>exact h.mput k v
theorem Ms.mdel {xs:List (Ay×T)}(h:Ms xs)(k:Ay):Ms (mdel xs k):=h.sublist (List.filter_sublist ..)
theorem Ms.ext:∀{xs ys:List (Ay×T)},Ms xs→Ms ys→(∀k,mget xs k=mget ys k)→xs=ys
 | [],[],_,_,_=>rfl
 | [],q::s,_,_,h=>by
  have:=h q.1;rw[mget,mget,Ws rfl] at this;cases this
 | p::r,[],_,_,h=>by
  have:=h p.1;rw[mget,mget,Ws rfl] at this;cases this
 | p::r,q::s,hx,hy,h=>by
  obtain⟨x1,x2⟩:=List.pairwise_cons.1 hx;obtain⟨y1,y2⟩:=List.pairwise_cons.1 hy;have hpq:p.1=q.1:=by
   have a1:=h p.1;have a2:=h q.1;rw[mget,Ws rfl] at a1;rw[show mget (q::s) q.1=bif decide (q.1=q.1) then some q.2 else mget s q.1 from rfl,Ws rfl] at a2;simp only[W4] at a1 a2;have m1:=HM a1.symm;have m2:=HM a2;rcases List.mem_cons.1 m1 with e | m1
   ·exact congrArg Prod.fst e
   ·rcases List.mem_cons.1 m2 with e | m2
    ·exact(congrArg Prod.fst e).symm
    ·have c1:=y1 _ m1;have c2:=x1 _ m2;have:=KD c1 c2;rw[KE] at this;cases this
  have e:p=q:=by
   have a1:=h p.1;rw[mget,Ws rfl,mget,Ws hpq.symm] at a1;simp only[W4,Option.some.injEq] at a1;exact Prod.ext hpq a1
  subst e;rw[Ms.ext x2 y2 λk=>by
   have a1:=h k;rw[mget,mget] at a1
   by_cases e:p.1=k
   ·have n1:mget r k=none:=IK.2 λz hz e'=>by have:=x1 z hz;rw[e',← e,KE] at this;cases this
    have n2:mget s k=none:=IK.2 λz hz e'=>by have:=y1 z hz;rw[e',← e,KE] at this;cases this
    rw[n1,n2]
   ·rw[Wt e] at a1;exact a1]
end
section
variable {T : Type}
end
def JW (ps:List Ab)(x y:Int):Bool:=CM (Ac ps x).fAt (Ac ps y).fAt (Ac ps x).fPlace (Ac ps y).fPlace
theorem Vx (ps:List Ab):Ua (JW ps):=P6 (λx:Int=>(Ac ps x).fAt) (λx=>(Ac ps x).fPlace)
theorem L4 {T:Type}{lt:T→T→Bool}:∀{xs:List T},(xs.Pairwise λa b=>(lt a b||lt b a)=true)→D1 lt xs=true
 | [],_=>rfl
 | x::r,h=>by
  rw[List.pairwise_cons] at h;simp only[D1,Wu,WM];exact⟨λy hy=>h.1 y hy,L4 h.2⟩
theorem Lc {ps:List Ab}{xs:List Int}(h:xs.Pairwise λi j=>(Ac ps i).fPlace<(Ac ps j).fPlace):D1 (JW ps) xs=true:=
 L4 (h.imp fun {i j} hij=>by
  unfold JW CM;simp only[WE,Wu,Wp];omega)
def Db (ps:List Ab)(i:Int):Ap:=(Ac ps i).fEvent
def V8 (e:Ap):Prop:=e.fID.length≤300∧e.fBody.length≤300∧Dg e.fID=true
structure QI (q:Ah) (ps:List Ab) (idx:List Int):Prop where
 vis:1≤q.fPolicy.fVisible∧q.fPolicy.fVisible≤1073741824
 rcs:1≤q.fPolicy.fReceives∧q.fPolicy.fReceives≤10
 pm:q.fWaiting.Perm (idx.map λi=>((Ac ps i).fEvent.fID,i))
 inr:∀i∈idx,Cb i (ps.length:Int)=true
 ord:idx.Pairwise λi j=>(Ac ps i).fPlace<(Ac ps j).fPlace
 plc:∀i∈idx,(Ac ps i).fPlace<q.fArrived
 ids:(idx.map (λi=>(Ac ps i).fEvent.fID)++q.fDead.map (·.fID)).Nodup
 now:0≤q.fNow∧q.fNow≤1073741824
 ats:∀i∈idx,0≤(Ac ps i).fAt∧(Ac ps i).fAt≤2147483648
 rcv:∀i∈idx,0≤(Ac ps i).fReceives∧(Ac ps i).fReceives≤q.fPolicy.fReceives
 cnt:idx.length+q.fDead.length≤256
 sm:∀i∈idx,V8 (Db ps i)
 smd:∀e∈q.fDead,V8 e
theorem QI.wlen {q:Ah}{ps:List Ab}{idx:List Int}(h:QI q ps idx):q.fWaiting.length=idx.length:=by rw[h.pm.length_eq,W3]
theorem UZ {α:Type}{n:Nat}{x:Option α}(h:n≤1000000):Bd (HO 8 n) x=x:=Bk (Ws (by omega))
theorem N7 {b:Ay→Int→List Int→Option (Stp (List Int) (Out (List Int) (List Int)))}{holds:Int→Bool}{idx:List Int}(hb:∀(s:Ay) (i:Int) (acc:List Int),i∈idx→acc.length≤100000→b s i acc=some (.next (bif holds i then acc++[i] else acc))) :
  ∀(o:List (Ay×Int)) (s:List Int),s.length+o.length≤100000→(∀p∈o,p.2∈idx)→Lv (λpe τ=>b pe.1 pe.2 τ) o s=some (.go (s++(o.map (·.2)).filter holds))
 | [],s,_,_=>by simp[Lv]
 | p::r,s,hl,h=>by
  simp only[Wx] at hl;have e:=hb p.1 p.2 s (h p (List.mem_cons_self ..)) (by omega);rw[Lv,e];simp only;rw[N7 hb r _ (by cases holds p.2<;>simp<;>omega) λq hq=>h q (List.mem_cons_of_mem _ hq)]
  cases hq:holds p.2<;>simp[hq]
theorem N8 {ps:List Ab}{holds:Int→Bool}{ws:List (Ay×Int)}{idx:List Int}{b:Ay→Int→List Int→Option (Stp (List Int) (Out (List Int) (List Int)))}{k:List Int→Option (List Int)}
  (hpm:(ws.map (·.2)).Perm idx) (hl:idx.length≤256) (hin:∀i∈idx,Cb i (ps.length:Int)=true) (ho:idx.Pairwise λi j=>(Ac ps i).fPlace<(Ac ps j).fPlace)
  (hb:∀(s:Ay) (i:Int) (acc:List Int),i∈idx→acc.length≤100000→b s i acc=some (.next (bif holds i then acc++[i] else acc)))
  (hk:∀acc,k acc=(Bd (acc.all (λi=>Cb i (ps.length:Int)))<|Bd (D1 (JW ps) acc)<|Bd (Nat.blt acc.length 4611686018427387904)<|some (G2 (JW ps) acc))) :
  M0 ws (λord=>Bq (Lv (λpe τ=>b pe.1 pe.2 τ) ord ([]:List Int)) (B4 λν=>k ν))=some (G2 (JW ps) (idx.filter holds)):=by
 refine UB λo hp=>?_;have hpo:(o.map (·.2)).Perm idx:=(hp.map _).trans hpm;have hlo:o.length=idx.length:=by rw[← hpo.length_eq,W3]
 rw[N7 hb o [] (by simp;omega) (λp hp'=>hpo.subset (List.mem_map_of_mem hp')),AK rfl,C4,hk,Xr];have hpf:((o.map (·.2)).filter holds).Perm (idx.filter holds):=hpo.filter _;have hdf:D1 (JW ps) (idx.filter holds)=true:=Lc (ho.filter _);have hall:((o.map (·.2)).filter holds).all (λi=>Cb i (ps.length:Int))=true:=by
  rw[WM];exact λi hi=>hin i (hpo.subset (List.mem_filter.1 hi).1)
 have hle:((o.map (·.2)).filter holds).length≤256:=Nat.le_trans (List.length_filter_le _ _) (by rw[W3];omega);rw[Bk hall,Bk (OD hdf hpf),Bk (by simp;omega),Qj (Vx ps) hdf hpf]
theorem QI.vals {q:Ah}{ps:List Ab}{idx:List Int}(h:QI q ps idx):(q.fWaiting.map (·.2)).Perm idx:=by
 have:=h.pm.map (·.2)
 rwa [Xp,show((λp:Ay×Int=>p.2) ∘ λi=>((Ac ps i).fEvent.fID,i))=id from rfl,List.map_id] at this
theorem QI.in' {q:Ah}{ps:List Ab}{idx:List Int}(h:QI q ps idx){i:Int}(hi:i∈idx):decide (0≤i)=true:=Ws (Bt (h.inr i hi)).1
def GH (q:Ah)(ps:List Ab)(now:Int)(i:Int):Bool:=decide ((Ac ps i).fAt≤now)&&decide (q.fPolicy.fReceives≤(Ac ps i).fReceives)
def Je (ps:List Ab)(now:Int)(i:Int):Bool:=decide ((Ac ps i).fAt≤now)
theorem Og {b:Bool}{i:Int}{acc:List Int}(h:acc.length≤100000):Bh b (Bd (HO 8 (acc.length+([i]:List Int).length))<|some (Stp.next (acc++([i]:List Int)):Stp (List Int) (Out (List Int) (List Int)))) (some (.next acc))=some (.next (bif b then acc++[i] else acc)):=by
 cases b with
 | true=>rw[A5 rfl,UZ (by simp;omega)];rfl
 | false=>rfl
theorem Ni {q:Ah}{ps:List Ab}{idx:List Int}(h:QI q ps idx)(q':Ah)(hw:q'.fWaiting=q.fWaiting)(hp:q'.fPolicy=q.fPolicy)(now:Int):GT q' ps now=some (G2 (JW ps) (idx.filter (GH q ps now))):=by
 unfold GT;rw[hw];refine N8 h.vals (by have:=h.cnt;omega) h.inr h.ord (λs i acc hi ha=>?_) (λacc=>rfl);unfold Ei Tj Nj;rw[Bk (h.in' hi),Bk (h.inr i hi),AK rfl,AK rfl];simp only[hp];exact Og ha
theorem Nh {q:Ah}{ps:List Ab}{idx:List Int}(h:QI q ps idx)(now:Int):GS q ps now=some (G2 (JW ps) (idx.filter (Je ps now))):=by
 unfold GS;refine N8 h.vals (by have:=h.cnt;omega) h.inr h.ord (λs i acc hi ha=>?_) (λacc=>rfl);unfold Eh Tg;rw[Bk (h.in' hi),Bk (h.inr i hi),AK rfl];exact Og ha
theorem K6 (n:Int):K7 n=some (decide (0≤n∧n≤1073741824)):=by
 unfold K7;rw[Bool.decide_and]
def Kb (ps:List Ab)(P:List Int)(ws:List (Ay×Int)):List (Ay×Int):=ws.filter λp=>!P.any λi=>decide (p.1=(Db ps i).fID)
theorem QW (ps:List Ab)(i:Int)(P:List Int)(ws:List (Ay×Int)):Kb ps P (mdel ws (Db ps i).fID)=Kb ps (i::P) ws:=by
 unfold Kb mdel;rw[List.filter_filter];refine List.filter_congr λp _=>?_;rw[List.any_cons]
 cases decide (p.1=(Db ps i).fID)<;>simp
theorem Oc {α:Type}{n:Nat}{x:Option α}(h:n≤1000000):Bd (HO 112 n) x=x:=Bk (Ws (by omega))
theorem SL {ps:List Ab}{P:List Int}(hin:∀i∈P,Cb i (ps.length:Int)=true)(hP:P.length≤256):∀(d n j:Nat) (D:List Ap) (ws:List (Ay×Int)),j+d=P.length→d<n→D.length+d≤100000→
  BB (λσ=>Cv ps P σ.1 σ.2.1 σ.2.2) n ((j:Int),D,ws)=some (.go (D++(P.drop j).map (Db ps),Kb ps (P.drop j) ws)):=by
 intro d
 induction d with
 | zero=>
  intro n j D ws h hn hD;obtain⟨n,rfl⟩:∃m,n=m+1:=⟨n-1,by omega⟩
  have hb:Cv ps P (j:Int) D ws=some (.out (.go (D,ws))):=by unfold Cv;rw[A0 (Wt (by omega))]
  rw[BB];simp only[hb];rw[List.drop_of_length_le (by omega),List.map_nil,Xj,show Kb ps [] ws=ws from List.filter_eq_self.2 λ_ _=>rfl]
 | succ d ih=>
  intro n j D ws h hn hD;obtain⟨n,rfl⟩:∃m,n=m+1:=⟨n-1,by omega⟩
  have hj:j<P.length:=by omega
  have hi:=hin P[j] (List.getElem_mem hj);have hb:Cv ps P (j:Int) D ws=some (.next (((j+1:Nat):Int),D++[Db ps P[j]],mdel ws (Db ps P[j]).fID)):=by
   unfold Cv;rw[A5 (Ws (by omega)),Bn (by omega) (by omega),DI hj,Bk (Ws (Bt hi).1),Bk hi,Oc (by simp;omega),AD (by omega) (by omega)];rfl
  rw[BB];simp only[hb];rw[ih n (j+1) _ _ (by omega) (by omega) (by simp;omega),List.drop_eq_getElem_cons hj,QW,WD];rfl
def Lk (q:Ah)(ps:List Ab)(idx:List Int)(now:Int):List Int:=G2 (JW ps) (idx.filter (GH q ps now))
def B1 (q:Ah)(ps:List Ab)(idx:List Int)(now:Int):Ah:=⟨q.fPolicy,Kb ps (Lk q ps idx now) q.fWaiting,q.fDead++(Lk q ps idx now).map (Db ps),now,q.fArrived⟩
def BA (q:Ah)(ps:List Ab)(idx:List Int)(now:Int):List Int:=idx.filter λi=>!GH q ps now i
def Dl (q:Ah)(now:Int):Int:=if 0≤now∧now≤1073741824 then if now<q.fNow then 11 else 0 else 2
theorem J4 (q:Ah)(ps:List Ab)(idx:List Int)(now:Int):(Lk q ps idx now).Perm (idx.filter (GH q ps now)):=Di _ _
theorem G0 {F:Nat}(hF:300<F){q:Ah}{ps:List Ab}{idx:List Int}(h:QI q ps idx)(now:Int) :
  EP F q ps now=some (Dl q now,if Dl q now=0 then B1 q ps idx now else q,ps):=by
 unfold EP Dl;rw[K6,AK rfl]
 by_cases h1:0≤now∧now≤1073741824
 ·rw[Ws h1,A0 (p:=!true) rfl,W8 h1]
  by_cases h2:now<q.fNow
  ·rw[A5 (Ws h2),W8 h2];rfl
  ·rw[A0 (Wt h2),W6 h2,Ni h ⟨q.fPolicy,q.fWaiting,q.fDead,now,q.fArrived⟩ rfl rfl,AK rfl];have hc:=h.cnt;have hpm:=J4 q ps idx now;have hl:(Lk q ps idx now).length≤256:=by
    rw[hpm.length_eq];exact Nat.le_trans (List.length_filter_le _ _) (by omega)
   have hlop:=SL (ps:=ps) (P:=Lk q ps idx now) (λi hi=>h.inr i (List.mem_filter.1 (hpm.subset hi)).1) hl (Lk q ps idx now).length F 0 q.fDead q.fWaiting (by omega) (by omega) (by omega);have hlop':BB (λσ=>Cv ps (G2 (JW ps) (idx.filter (GH q ps now))) σ.1 σ.2.1 σ.2.2) F ((0:Int),q.fDead,q.fWaiting)=_:=hlop;rw[hlop',AK rfl,C4,List.drop_zero];rfl
 ·rw[Wt h1,A5 (p:=!false) rfl,W6 h1];rfl
theorem He {ps:List Ab}{idx P:List Int}{over:Int→Bool}(hP:P.Perm (idx.filter over))(hids:(idx.map λi=>(Db ps i).fID).Nodup) :
  Kb ps P (idx.map λi=>((Db ps i).fID,i))=(idx.filter λi=>!over i).map λi=>((Db ps i).fID,i):=by
 unfold Kb;rw[List.filter_map]
 congr 1
 refine List.filter_congr λi hi=>?_;show(!P.any λk=>decide ((Db ps i).fID=(Db ps k).fID)) = !over i
 congr 1
 rw[WA,List.any_eq_true];constructor
 ·rintro⟨k,hk,he⟩;have hk':=List.mem_filter.1 (hP.subset hk);have e:i=k:=(ID (R:=λa b=>(Db ps a).fID≠(Db ps b).fID) (λx y h e=>h e.symm) (List.pairwise_map.1 hids) i k hi hk'.1).resolve_right (λhne=>hne (Xa he));rw[e];exact hk'.2
 ·intro ho;exact⟨i,hP.symm.subset (List.mem_filter.2 ⟨hi,ho⟩),Ws rfl⟩
theorem LN {ps:List Ab}{P:List Int}{a b:List (Ay×Int)}(h:a.Perm b):(Kb ps P a).Perm (Kb ps P b):=h.filter _
theorem DX {q:Ah}{ps:List Ab}{idx:List Int}(h:QI q ps idx){now:Int}(hn:0≤now∧now≤1073741824):QI (B1 q ps idx now) ps (BA q ps idx now):=by
 have hpm:=J4 q ps idx now;have hids:(idx.map λi=>(Db ps i).fID).Nodup:=(List.nodup_append.1 h.ids).1;have hsub:∀i∈BA q ps idx now,i∈idx:=λi hi=>(List.mem_filter.1 hi).1;refine⟨h.vis,h.rcs,?_,λi hi=>h.inr i (hsub i hi),h.ord.filter _,λi hi=>h.plc i (hsub i hi),?_,hn,λi hi=>h.ats i (hsub i hi),λi hi=>h.rcv i (hsub i hi),?_,λi hi=>h.sm i (hsub i hi),λe he=>?_⟩
 ·have h1:=LN (ps:=ps) (P:=Lk q ps idx now) h.pm;have h2:=He (ps:=ps) hpm hids;exact h1.trans (List.Perm.of_eq h2)
 ·have h3:((BA q ps idx now).map (λi=>(Db ps i).fID)++(q.fDead++(Lk q ps idx now).map (Db ps)).map (·.fID)).Perm (idx.map (λi=>(Db ps i).fID)++q.fDead.map (·.fID)):=by
   rw[Xe,Xp];have h4:(idx.map λi=>(Db ps i).fID).Perm ((Lk q ps idx now).map (λi=>(Db ps i).fID)++(BA q ps idx now).map λi=>(Db ps i).fID):=by
    rw[← Xe];exact((List.filter_append_perm (GH q ps now) idx).symm.trans (hpm.symm.append_right _)).map _
   refine List.Perm.symm ?_;refine(h4.append_right _).trans ?_;rw[WD];refine(List.perm_append_comm).trans ?_;rw[WD];exact Wr _
  exact h3.symm.nodup h.ids
 ·have h5:=(List.filter_append_perm (GH q ps now) idx).length_eq;have h6:=hpm.length_eq;have hc:=h.cnt;show(BA q ps idx now).length+(q.fDead++(Lk q ps idx now).map (Db ps)).length≤256;rw[W0] at h5;rw[W0,W3,h6];unfold BA;omega
 ·rcases List.mem_append.1 he with h7 | h7
  ·exact h.smd e h7
  ·obtain⟨i,hi,rfl⟩:=List.mem_map.1 h7;exact h.sm i (List.mem_filter.1 (hpm.subset hi)).1
theorem Gf {ps:List Ab}{i j:Int}{y:Ab}(hi:Cb i (ps.length:Int)=true)(hj:Cb j (ps.length:Int)=true):Ac (ps.set i.toNat y) j=if j=i then y else Ac ps j:=by
 have h1:=Bt hi;have h2:=Bt hj;have l1:i.toNat<ps.length:=by omega
 have l2:j.toNat<ps.length:=by omega
 by_cases e:j=i
 ·subst e;rw[W8 rfl];simp[Ac,l1]
 ·rw[W6 e];have:i.toNat≠j.toNat:=by omega
  simp[Ac,l2,List.getElem_set,this]
theorem QI.congr {q:Ah}{ps ps':List Ab}{idx:List Int}(h:QI q ps idx)(hl:ps'.length=ps.length)(he:∀i∈idx,(Ac ps' i).fEvent=(Ac ps i).fEvent∧(Ac ps' i).fPlace=(Ac ps i).fPlace)
  (ha:∀i∈idx,0≤(Ac ps' i).fAt∧(Ac ps' i).fAt≤2147483648) (hr:∀i∈idx,0≤(Ac ps' i).fReceives∧(Ac ps' i).fReceives≤q.fPolicy.fReceives):QI q ps' idx:=by
 have hids:idx.map (λi=>(Ac ps' i).fEvent.fID)=idx.map (λi=>(Ac ps i).fEvent.fID):=List.map_congr_left λi hi=>by rw[(he i hi).1]
 refine⟨h.vis,h.rcs,?_,λi hi=>by rw[hl];exact h.inr i hi,?_,λi hi=>by rw[(he i hi).2];exact h.plc i hi,by rw[hids];exact h.ids,h.now,ha,hr,h.cnt,λi hi=>?_,h.smd⟩
 ·rw[show(idx.map λi=>((Ac ps' i).fEvent.fID,i))=idx.map λi=>((Ac ps i).fEvent.fID,i) from List.map_congr_left λi hi=>by rw[(he i hi).1]];exact h.pm
 ·exact h.ord.imp_of_mem fun {i j} hi hj hij=>by rw[(he i hi).2,(he j hj).2];exact hij
 ·unfold Db;rw[(he i hi).1];exact h.sm i hi
theorem QI.set {q:Ah}{ps:List Ab}{idx:List Int}(h:QI q ps idx){i:Int}(hi:i∈idx){y:Ab}(he:y.fEvent=(Ac ps i).fEvent)(hp:y.fPlace=(Ac ps i).fPlace)(ha:0≤y.fAt∧y.fAt≤2147483648)(hr:0≤y.fReceives∧y.fReceives≤q.fPolicy.fReceives) :
  QI q (ps.set i.toNat y) idx:=by
 refine h.congr (Xg ..) (λj hj=>?_) (λj hj=>?_) (λj hj=>?_)<;>rw[Gf (h.inr i hi) (h.inr j hj)]<;>split
 ·rename_i e;subst e;exact⟨he,hp⟩
 ·exact⟨rfl,rfl⟩
 ·exact ha
 ·exact h.ats j hj
 ·exact hr
 ·exact h.rcv j hj
theorem Hc {T:Type}:∀{m:List (Ay×T)} {k:Ay} {v:T},mget m k=some v→(k,v)∈m
 | [],k,v,h=>by simp[mget] at h
 | p::r,k,v,h=>by
  unfold mget at h
  cases hk:decide (p.1=k) with
  | true=>
   rw[hk] at h;have e:=Xa hk;have e2:p.2=v:=Option.some.inj h;rw[← e,← e2];exact List.mem_cons_self ..
  | false=>
   rw[hk] at h;exact List.mem_cons_of_mem _ (Hc h)
theorem QI.get {q:Ah}{ps:List Ab}{idx:List Int}(h:QI q ps idx){k:Ay}{i:Int}(hg:mget q.fWaiting k=some i):i∈idx∧(Db ps i).fID=k:=by
 obtain⟨j,hj,e⟩:=List.mem_map.1 (h.pm.subset (Hc hg));injection e with e1 e2
 subst e2;exact⟨hj,e1⟩
def JY (q:Ah)(ps:List Ab)(id count:Ay)(now:Int):Int×Int:=
 match mget q.fWaiting id with
 | none=>(-1,5)
 | some i=>if BW count≠0∨Bp count<1∨(Ac ps i).fReceives<Bp count then(-1,5)
  else if Bp count<(Ac ps i).fReceives∨(Ac ps i).fHeld=false∨(Ac ps i).fAt≤now then(-1,18) else(i,0)
theorem US {q:Ah}{ps:List Ab}{id count:Ay}{now:Int}(h:(JY q ps id count now).2=0):mget q.fWaiting id=some (JY q ps id count now).1:=by
 unfold JY at *
 cases hg:mget q.fWaiting id with
 | none=>rw[hg] at h;simp at h
 | some i=>
  rw[hg] at h;simp only at h ⊢
  split at h
  ·simp at h
  ·split at h
   ·simp at h
   ·rename_i h1 h2;rw[W6 h1,W6 h2]
theorem R2 {q:Ah}{ps:List Ab}{idx:List Int}(h:QI q ps idx){s:Ay}{now:Int}{a b:Ay}{c:Bool}(hc:Qp s=some (a,b,c))(hb:b.length≤1000000):Nm q ps s now=some (JY q ps a b now):=by
 unfold Nm JY;rw[hc,AK rfl];simp only;rw[Bk (show HO 1 b.length=true from Ws (by omega))]
 cases hg:mget q.fWaiting a with
 | none=>
  have e1:Cp q.fWaiting a=false:=by unfold Cp;rw[hg];rfl
  rw[e1];rfl
 | some i=>
  have e1:Cp q.fWaiting a=true:=by unfold Cp;rw[hg];rfl
  have e2:Cr q.fWaiting a (-1)=i:=by unfold Cr;rw[hg];rfl
  obtain⟨hi,_⟩:=h.get hg;have hin:=h.inr i hi;have h0:=h.in' hi;rw[e1,e2,h0,hin];simp only[Sw,W1,WF,W7];rw[Bk (by cases(!(!decide (BW b=0)))<;>cases(!decide (Bp b<1))<;>rfl),Bk (by cases(!(!decide (BW b=0)))<;>cases(!decide (Bp b<1))<;>rfl),Bk rfl,Bk rfl]
  by_cases h1:BW b=0
  ·by_cases h2:Bp b<1
   ·simp[h1,h2,Bh]
   ·by_cases h3:(Ac ps i).fReceives<Bp b
    ·simp[h1,h2,h3,Bh]
    ·by_cases h4:Bp b<(Ac ps i).fReceives
     ·simp[h1,h2,h3,h4,Bh]
     ·by_cases h5:(Ac ps i).fHeld=true
      ·by_cases h6:(Ac ps i).fAt≤now<;>simp[h1,h2,h3,h4,h5,h6,Bh]
      ·simp[h1,h2,h3,h4,h5,Bh]
  ·simp[h1,Bh]
def PD (s:Ay):Int:=bif decide (([35]:Ay)=s) then 0 else Lib.indexByte s 35
def Dc (s:Ay):Ay×Ay×Bool:=bif decide (0≤PD s) then(s.take (PD s).toNat,s.drop (PD s+1).toNat,true) else(s,[],false)
theorem UJ (s:Ay):PD s<s.length:=by
 unfold PD
 by_cases h:([35]:Ay)=s
 ·subst h;decide
 ·rw[Wt h];exact(UO s 35).2
theorem Tn {s:Ay}(hs:s.length≤1000000):Qp s=some (Dc s):=by
 have hi:NR s=some (PD s):=by
  unfold NR PD
  cases decide (([35]:Ay)=s) with
  | true=>rfl
  | false=>rfl
 have hb:=UJ s;unfold Qp Pn Dc;rw[hi,AK rfl]
 by_cases h:0≤PD s
 ·rw[A5 (Ws h),DH h (by omega),AD (by omega) (by omega),DH (by omega) (by omega),AK rfl,Ws h];rfl
 ·rw[A0 (Wt h),AK rfl,Wt h];rfl
theorem SB (s:Ay):(Dc s).2.1.length≤s.length:=by
 unfold Dc
 cases decide (0≤PD s) with
 | true=>show(s.drop (PD s+1).toNat).length≤s.length;rw[Xn];exact Nat.sub_le _ _
 | false=>exact Xk _
def O7 (n:Int):Bool:=decide (0≤n∧n≤1073741824)
def Cj (q:Ah)(ps:List Ab)(idx:List Int)(s:Ay)(now ticks:Int):Int×Int:=
 bif O7 ticks then if Dl q now=0 then JY (B1 q ps idx now) ps (Dc s).1 (Dc s).2.1 now else(-1,Dl q now) else(-1,2)
def Ef (q:Ah)(ps:List Ab)(idx:List Int)(now ticks:Int):Ah:=if O7 ticks=true∧Dl q now=0 then B1 q ps idx now else q
def C2 (q:Ah)(ps:List Ab)(idx:List Int)(now ticks:Int):List Int:=if O7 ticks=true∧Dl q now=0 then BA q ps idx now else idx
theorem Co {q:Ah}{now:Int}(h:Dl q now=0):0≤now∧now≤1073741824∧q.fNow≤now:=by
 unfold Dl at h
 split at h
 ·split at h
  ·simp at h
  ·rename_i h1 h2;exact⟨h1.1,h1.2,by omega⟩
 ·simp at h
theorem Jf {q:Ah}{ps:List Ab}{idx:List Int}(h:QI q ps idx)(now ticks:Int):QI (Ef q ps idx now ticks) ps (C2 q ps idx now ticks):=by
 unfold Ef C2
 split
 ·rename_i h1;have:=Co h1.2;exact DX h ⟨this.1,this.2.1⟩
 ·exact h
theorem Md {F:Nat}(hF:300<F){q:Ah}{ps:List Ab}{idx:List Int}(h:QI q ps idx){s:Ay}(hs:s.length≤1000000)(now ticks:Int) :
  Ov F q ps s now ticks=some ((Cj q ps idx s now ticks).1,(Cj q ps idx s now ticks).2,Ef q ps idx now ticks,ps):=by
 unfold Ov Cj Ef;rw[K6,AK rfl]
 cases ht:O7 ticks with
 | false=>
  have ht':decide (0≤ticks∧ticks≤1073741824)=false:=ht;rw[ht',A5 (p:=!false) rfl];simp
 | true=>
  have ht':decide (0≤ticks∧ticks≤1073741824)=true:=ht;rw[ht',A0 (p:=!true) rfl,G0 hF h,AK rfl]
  by_cases ha:Dl q now=0
  ·have hn:=Co ha;simp only[ha,decide_true,W1,Xo,and_self,W4];rw[A0 rfl,R2 (a:=(Dc s).1) (b:=(Dc s).2.1) (c:=(Dc s).2.2) (DX h ⟨hn.1,hn.2.1⟩) (Tn hs) (Nat.le_trans (SB s) hs),AK rfl]
  ·simp only[ha,decide_false,WF,Xd,and_false,W4];rw[A5 rfl]
theorem GQ {q:Ah}{ps:List Ab}{idx:List Int}(h:QI q ps idx){s:Ay}{now ticks:Int}(he:(Cj q ps idx s now ticks).2=0) :
  (0≤ticks∧ticks≤1073741824)∧Dl q now=0∧Ef q ps idx now ticks=B1 q ps idx now∧C2 q ps idx now ticks=BA q ps idx now∧(Cj q ps idx s now ticks).1∈BA q ps idx now:=by
 unfold Cj at he ⊢
 cases ht:O7 ticks with
 | false=>rw[ht] at he;simp at he
 | true=>
  rw[ht] at he;simp only[W4] at he ⊢
  by_cases ha:Dl q now=0
  ·rw[W8 ha] at he ⊢;have hn:=Co ha;refine⟨Xa ht,ha,?_,?_,((DX h ⟨hn.1,hn.2.1⟩).get (US he)).1⟩
   ·unfold Ef;rw[W8 ⟨ht,ha⟩]
   ·unfold C2;rw[W8 ⟨ht,ha⟩]
  ·rw[W6 ha] at he;exact absurd he ha
def VC (q:Ah)(ps:List Ab)(i:Int):Ah:=⟨q.fPolicy,mdel q.fWaiting (Db ps i).fID,q.fDead,q.fNow,q.fArrived⟩
def Vg (idx:List Int)(i:Int):List Int:=idx.filter λj=>!decide (j=i)
theorem Ug {q:Ah}{ps:List Ab}{idx:List Int}(h:QI q ps idx){i:Int}(hi:i∈idx):QI (VC q ps i) ps (Vg idx i):=by
 have hids:(idx.map λi=>(Db ps i).fID).Nodup:=(List.nodup_append.1 h.ids).1;have hnd:idx.Nodup:=h.ord.imp fun {a b} hab e=>by subst e;omega
 have hsub:∀j∈Vg idx i,j∈idx:=λj hj=>(List.mem_filter.1 hj).1;have hP:([i]:List Int).Perm (idx.filter λj=>decide (j=i)):=by
  have:idx.filter (λj=>decide (j=i))=[i]:=by
   have h1:=hnd.filter (p:=λj=>decide (j=i));have h2:∀j∈idx.filter (λj=>decide (j=i)),j=i:=λj hj=>Xa (List.mem_filter.1 hj).2;have h3:i∈idx.filter (λj=>decide (j=i)):=List.mem_filter.2 ⟨hi,Ws rfl⟩
   match hl:idx.filter (λj=>decide (j=i)) with
   | []=>rw[hl] at h3;cases h3
   | [a]=>rw[hl] at h2;rw[h2 a (by simp)]
   | a::b::r=>
    rw[hl] at h1 h2;have e1:=h2 a (by simp);have e2:=h2 b (by simp);have h4:=(List.pairwise_cons.1 h1).1 b (by simp);exact absurd (e1.trans e2.symm) h4
  rw[this]
 have hdel:mdel q.fWaiting (Db ps i).fID=Kb ps [i] q.fWaiting:=by
  unfold mdel Kb;exact List.filter_congr λp _=>by simp
 refine⟨h.vis,h.rcs,?_,λj hj=>h.inr j (hsub j hj),h.ord.filter _,λj hj=>h.plc j (hsub j hj),?_,h.now,λj hj=>h.ats j (hsub j hj),λj hj=>h.rcv j (hsub j hj),?_,λj hj=>h.sm j (hsub j hj),h.smd⟩
 ·show(mdel q.fWaiting (Db ps i).fID).Perm _;rw[hdel];exact(LN h.pm).trans (List.Perm.of_eq (He hP hids))
 ·exact h.ids.sublist (((List.filter_sublist).map _).append_right _)
 ·have:(Vg idx i).length≤idx.length:=List.length_filter_le _ _;have:=h.cnt;show(Vg idx i).length+q.fDead.length≤256;omega
theorem O5 {F:Nat}(hF:300<F){q:Ah}{ps:List Ab}{idx:List Int}(h:QI q ps idx){s:Ay}(hs:s.length≤1000000)(now:Int) :
  Gy F q ps s now=some ((Cj q ps idx s now 0).2,if (Cj q ps idx s now 0).2=0 then VC (Ef q ps idx now 0) ps (Cj q ps idx s now 0).1 else Ef q ps idx now 0,ps):=by
 unfold Gy;rw[Md hF h hs,AK rfl];simp only
 by_cases he:(Cj q ps idx s now 0).2=0
 ·obtain⟨_,ha,e1,e2,hi⟩:=GQ h he;have hn:=Co ha;have hq:=DX h ⟨hn.1,hn.2.1⟩;rw[A5 (Ws he),Bk (hq.in' hi),Bk (hq.inr _ hi),W8 he];rfl
 ·rw[A0 (Wt he),W6 he]
def Tp (x:Ab)(t:Int):Ab:=⟨x.fEvent,t,x.fReceives,false,x.fPlace⟩
def TF (x:Ab)(t:Int):Ab:=⟨x.fEvent,t,x.fReceives,x.fHeld,x.fPlace⟩
theorem RB {ps:List Ab}{i:Nat}{a b:Ab}:(ps.set i a).set i b=ps.set i b:=List.set_set ..
theorem Ow {F:Nat}(hF:300<F){q:Ah}{ps:List Ab}{idx:List Int}(h:QI q ps idx){s:Ay}(hs:s.length≤1000000)(now d:Int) :
  Iw F q ps s now d=some ((Cj q ps idx s now d).2,Ef q ps idx now d,if (Cj q ps idx s now d).2=0 then ps.set (Cj q ps idx s now d).1.toNat (Tp (Ac ps (Cj q ps idx s now d).1) (now+d)) else ps):=by
 unfold Iw;rw[Md hF h hs,AK rfl];simp only
 by_cases he:(Cj q ps idx s now d).2=0
 ·obtain⟨ht,ha,e1,e2,hi⟩:=GQ h he;have hn:=Co ha;have hq:=DX h ⟨hn.1,hn.2.1⟩;have hin:=hq.inr _ hi;rw[A5 (Ws he),AD (by omega) (by omega),Bk (hq.in' hi),Bk hin,W8 he];simp only[LV];rw[Xg,Bk hin,Gf hin hin,W8 rfl,RB];rfl
 ·rw[A0 (Wt he),W6 he]
theorem O4 {F:Nat}(hF:300<F){q:Ah}{ps:List Ab}{idx:List Int}(h:QI q ps idx){s:Ay}(hs:s.length≤1000000)(now d:Int) :
  Iz F q ps s now d=some ((Cj q ps idx s now d).2,Ef q ps idx now d,if (Cj q ps idx s now d).2=0 then ps.set (Cj q ps idx s now d).1.toNat (TF (Ac ps (Cj q ps idx s now d).1) (now+d)) else ps):=by
 unfold Iz;rw[Md hF h hs,AK rfl];simp only
 by_cases he:(Cj q ps idx s now d).2=0
 ·obtain⟨ht,ha,e1,e2,hi⟩:=GQ h he;have hn:=Co ha;have hq:=DX h ⟨hn.1,hn.2.1⟩;have hin:=hq.inr _ hi;rw[A5 (Ws he),AD (by omega) (by omega),Bk (hq.in' hi),Bk hin,W8 he];rfl
 ·rw[A0 (Wt he),W6 he]
def QB (n:Nat)(q:Ah)(ps:List Ab):Prop:=0≤q.fArrived∧q.fArrived≤(n:Int)∧ps.length≤n
theorem Gc {T:Type}:∀{m:List (Ay×T)} {k:Ay},Cp m k=false→∀p∈m,p.1≠k
 | [],k,_,p,hp=>by cases hp
 | a::r,k,h,p,hp=>by
  unfold Cp mget at h
  cases hk:decide (a.1=k) with
  | true=>rw[hk] at h;cases h
  | false=>
   rw[hk] at h;rcases List.mem_cons.1 hp with e | hp
   ·subst e;exact of_decide_eq_false hk
   ·exact Gc (m:=r) h p hp
def Hm (e:Ap)(t:Int)(arr:Int):Ab:=⟨e,t,0,false,arr⟩
def Oi (q:Ah)(ps:List Ab)(D:List Ap)(e:Ap):Ah:=⟨q.fPolicy,mset q.fWaiting e.fID (ps.length:Int),D,q.fNow,q.fArrived+1⟩
theorem Li {ps:List Ab}{y:Ab}{i:Int}(hi:Cb i (ps.length:Int)=true):Ac (ps++[y]) i=Ac ps i:=by
 have h1:=Bt hi;have l1:i.toNat<ps.length:=by omega
 simp[Ac,Xi l1]
theorem IZ {ps:List Ab}{y:Ab}:Ac (ps++[y]) (ps.length:Int)=y:=by simp[Ac]
theorem SJ {q:Ah}{ps:List Ab}{idx:List Int}(h:QI q ps idx){D:List Ap}{e:Ap}{t:Int}(hs:V8 e)(ht:0≤t∧t≤2147483648)
  (hid:(e.fID::(idx.map (λi=>(Ac ps i).fEvent.fID)++D.map (·.fID))).Nodup) (hD:∀x∈D,V8 x) (hc:idx.length+1+D.length≤256) :
  QI (Oi q ps D e) (ps++[Hm e t q.fArrived]) (idx++[(ps.length:Int)]):=by
 have hold:∀i∈idx,Ac (ps++[Hm e t q.fArrived]) i=Ac ps i:=λi hi=>Li (h.inr i hi);have hnew:=IZ (ps:=ps) (y:=Hm e t q.fArrived);have hnot:e.fID ∉ idx.map (λi=>(Ac ps i).fEvent.fID):=λhm=>(List.nodup_cons.1 hid).1 (List.mem_append_left _ hm);have hh:Cp q.fWaiting e.fID=false:=by
  cases hx:Cp q.fWaiting e.fID with
  | false=>rfl
  | true=>
   unfold Cp at hx;obtain⟨i,hi⟩:=Option.isSome_iff_exists.1 hx;obtain⟨h1,h2⟩:=h.get hi;exact absurd (List.mem_map.2 ⟨i,h1,h2⟩) hnot
 have hms:(mset q.fWaiting e.fID (ps.length:Int)).Perm ((e.fID,(ps.length:Int))::q.fWaiting):=by
  unfold mset;rw[hh];exact Ju _ _ _
 have hmap:(idx++[(ps.length:Int)]).map (λi=>((Ac (ps++[Hm e t q.fArrived]) i).fEvent.fID,i))=idx.map (λi=>((Ac ps i).fEvent.fID,i))++[(e.fID,(ps.length:Int))]:=by
  rw[Xe,WY,List.map_nil,hnew]
  congr 1
  exact List.map_congr_left λi hi=>by rw[hold i hi]
 have hids:(idx++[(ps.length:Int)]).map (λi=>(Ac (ps++[Hm e t q.fArrived]) i).fEvent.fID)=idx.map (λi=>(Ac ps i).fEvent.fID)++[e.fID]:=by
  rw[Xe,WY,List.map_nil,hnew]
  congr 1
  exact List.map_congr_left λi hi=>by rw[hold i hi]
 have hmem:∀i∈idx++[(ps.length:Int)],i∈idx∨i=(ps.length:Int):=λi hi=>by simpa using hi
 refine⟨h.vis,h.rcs,?_,?_,?_,?_,?_,h.now,?_,?_,?_,?_,hD⟩
 ·rw[hmap];exact hms.trans ((Wo _ h.pm).trans (List.perm_append_comm (l₁:=[(e.fID,(ps.length:Int))])))
 ·intro i hi;rcases hmem i hi with h1 | h1
  ·have:=Bt (h.inr i h1);exact M5 (by omega) (by simp;omega)
  ·subst h1;exact M5 (by omega) (by simp;omega)
 ·rw[List.pairwise_append];refine⟨h.ord.imp_of_mem fun {i j} hi hj hij=>by rw[hold i hi,hold j hj];exact hij,List.pairwise_singleton _ _,λi hi j hj=>?_⟩;rw[List.mem_singleton.1 hj,hold i hi,hnew];exact h.plc i hi
 ·intro i hi;rcases hmem i hi with h1 | h1
  ·rw[hold i h1];have:=h.plc i h1;show _<q.fArrived+1;omega
  ·subst h1;rw[hnew];show q.fArrived<q.fArrived+1;omega
 ·rw[hids,WD];exact(List.perm_middle (a:=e.fID) (l₁:=idx.map λi=>(Ac ps i).fEvent.fID) (l₂:=D.map (·.fID))).symm.nodup hid
 ·intro i hi;rcases hmem i hi with h1 | h1
  ·rw[hold i h1];exact h.ats i h1
  ·subst h1;rw[hnew];exact ht
 ·intro i hi;rcases hmem i hi with h1 | h1
  ·rw[hold i h1];exact h.rcv i h1
  ·subst h1;rw[hnew];have:=h.rcs;show(0:Int)≤0∧(0:Int)≤q.fPolicy.fReceives;omega
 ·show(idx++[(ps.length:Int)]).length+D.length≤256;simp;omega
 ·intro i hi;rcases hmem i hi with h1 | h1
  ·unfold Db;rw[hold i h1];exact h.sm i h1
  ·subst h1;unfold Db;rw[hnew];exact hs
theorem Pk {n:Nat}{q:Ah}{ps:List Ab}(hb:QB n q ps)(hn:n≤1000000)(e:Ap)(t:Int):Qg q ps e t=some (Oi q ps q.fDead e,ps++[Hm e t q.fArrived]):=by
 unfold Qg;obtain⟨h1,h2,_⟩:=hb;rw[AD (by omega) (by omega)];rfl
theorem Su {F:Nat}{ys:List Ap}{id:Ay}(hF:ys.length<F)(hl:ys.length≤1000000):∃k,NQ F ys id=some k∧decide (0≤k)=ys.any λe=>decide (e.fID=id):=by
 have key:∀(d n i:Nat),i+d=ys.length→d<n→∃o,BB (λσ=>CG ys id σ) n (i:Int)=some o∧∃k,B4 (λ_=>Hh) o=some k∧decide (0≤k)=(ys.drop i).any λe=>decide (e.fID=id):=by
  intro d
  induction d with
  | zero=>
   intro n i h hn;obtain⟨n,rfl⟩:∃m,n=m+1:=⟨n-1,by omega⟩
   have hb:CG ys id (i:Int)=some (.out (.go ())):=by unfold CG;rw[A0 (Wt (by omega))]
   refine⟨.go (),by rw[BB];simp only[hb],-1,rfl,?_⟩;rw[List.drop_of_length_le (by omega)];rfl
  | succ d ih=>
   intro n i h hn;obtain⟨n,rfl⟩:∃m,n=m+1:=⟨n-1,by omega⟩
   have hi:i<ys.length:=by omega
   have hd:=List.drop_eq_getElem_cons hi
   cases hq:decide (ys[i].fID=id) with
   | true=>
    have hb:CG ys id (i:Int)=some (.out (.ret (i:Int))):=by
     unfold CG Nl;rw[A5 (Ws (by omega)),Bn (by omega) (by omega),DI hi,AK rfl,A5 hq]
    refine⟨.ret (i:Int),by rw[BB];simp only[hb],(i:Int),rfl,?_⟩;rw[hd,List.any_cons,hq,WO];exact Ws (by omega)
   | false=>
    have hb:CG ys id (i:Int)=some (.next ((i+1:Nat):Int)):=by
     unfold CG Nl;rw[A5 (Ws (by omega)),Bn (by omega) (by omega),DI hi,AK rfl,A0 hq,AD (by omega) (by omega)];rfl
    obtain⟨o,h1,k,h2,h3⟩:=ih n (i+1) (by omega) (by omega);refine⟨o,by rw[BB];simp only[hb];exact h1,k,h2,?_⟩;rw[h3,hd,List.any_cons,hq,W7]
 obtain⟨o,h1,k,h2,h3⟩:=key ys.length F 0 (by omega) hF;refine⟨k,?_,by rw[h3,List.drop_zero]⟩;unfold NQ;have h1':BB (λσ=>CG ys id σ) F 0=some o:=h1;rw[AK h1',h2]
def Cg (q:Ah)(id:Ay):Bool:=Cp q.fWaiting id||q.fDead.any λe=>decide (e.fID=id)
theorem Pj {F:Nat}(hF:300<F){q:Ah}{ps:List Ab}{idx:List Int}(h:QI q ps idx)(id:Ay):Gx F q ps id=some (Cg q id):=by
 have hc:=h.cnt;obtain⟨k,h1,h2⟩:=Su (F:=F) (ys:=q.fDead) (id:=id) (by omega) (by omega);unfold Gx Cg Hw PM
 cases Cp q.fWaiting id with
 | true=>rfl
 | false=>rw[A0 rfl,h1,AK rfl,AK rfl,h2];rfl
theorem Ex {q:Ah}{ps:List Ab}{idx:List Int}(h:QI q ps idx)(id:Ay):Cg q id=true↔id∈idx.map (λi=>(Ac ps i).fEvent.fID)++q.fDead.map (·.fID):=by
 unfold Cg;rw[WE,List.mem_append];refine or_congr ⟨λhx=>?_,λhx=>?_⟩ ⟨λhx=>?_,λhx=>?_⟩
 ·unfold Cp at hx;obtain⟨i,hi⟩:=Option.isSome_iff_exists.1 hx;obtain⟨h1,h2⟩:=h.get hi;exact List.mem_map.2 ⟨i,h1,h2⟩
 ·obtain⟨i,hi,e⟩:=List.mem_map.1 hx
  cases hm:Cp q.fWaiting id with
  | true=>rfl
  | false=>exact absurd e (Gc hm _ (h.pm.symm.subset (List.mem_map.2 ⟨i,hi,rfl⟩)))
 ·obtain⟨e,he,h1⟩:=List.any_eq_true.1 hx;exact List.mem_map.2 ⟨e,he,Xa h1⟩
 ·obtain⟨e,he,h1⟩:=List.mem_map.1 hx;exact List.any_eq_true.2 ⟨e,he,Ws h1⟩
def ST (e:Ap):Prop:=∀c∈e.fBody,B7 .i64 c.fInt=true∧c.fN≤9223372036854775807
theorem EQ {e:Ap}(h:CL e=true):e.fID.length≤300∧e.fBody.length≤300:=by
 unfold CL Rb at h;simp only[Wu,W5,WN,Wq] at h;exact⟨by omega,by omega⟩
theorem KC {e:Ap}(h:CL e=true)(ho:ST e):Lp 5000 e.fBody:=by
 have h1:=EQ h;unfold CL at h;simp only[Wu,W5,List.any_eq_false,Wp] at h;exact⟨by decide,by have:=h1.2;omega,λc hc=>⟨by have:=h.2 c hc;omega,(ho c hc).1,(ho c hc).2⟩⟩
theorem QU {F:Nat}{e:Ap}(h:Hk F e=some 0):Dg e.fID=true:=by
 cases hi:Dg e.fID with
 | true=>rfl
 | false=>
  unfold Hk at h;rw[hi] at h;simp only[WF,WO] at h;rw[A5 rfl] at h;simp at h
theorem Pf {e:Ap}(h:e.fBody.length≤300):O3 e=some e:=by
 unfold O3 MF;rw[Bk (show HO 40 (([]:List Al).length+e.fBody.length)=true from Ws (by simp;omega)),AK rfl];rfl
def IQ (q:Ah):Bool:=decide (256≤q.fWaiting.length+q.fDead.length)
def Gl (q:Ah)(ps:List Ab)(idx:List Int)(e:Ap)(now d x:Int):Int×Ah×List Ab:=
 if O7 d=true then if Dl q now=0 then
  if x=0 then if Cg (B1 q ps idx now) e.fID=true then(6,B1 q ps idx now,ps) else if IQ (B1 q ps idx now)=true then(3,B1 q ps idx now,ps)
   else(0,Oi (B1 q ps idx now) ps (B1 q ps idx now).fDead e,ps++[Hm e (now+d) q.fArrived])
  else(x,B1 q ps idx now,ps) else(Dl q now,q,ps) else(2,q,ps)
theorem R0 {F n:Nat}(hF:5000<F){q:Ah}{ps:List Ab}{idx:List Int}(h:QI q ps idx)(hb:QB n q ps)(hn:n≤1000000){e:Ap}(hs:CL e=true)(ho:ST e)(now d:Int){x:Int}(hx:Hk F e=some x) :
  L0 F q ps e now d=some (Gl q ps idx e now d x):=by
 unfold L0 Gl;rw[K6,AK rfl]
 cases ht:O7 d with
 | false=>
  have ht':decide (0≤d∧d≤1073741824)=false:=ht;rw[ht',A5 (p:=!false) rfl];simp
 | true=>
  have ht':decide (0≤d∧d≤1073741824)=true:=ht;have htd:=Xa ht';rw[ht',A0 (p:=!true) rfl,G0 (by omega) h,AK rfl,W8 rfl]
  by_cases ha:Dl q now=0
  ·have hnw:=Co ha;have hq:=DX h ⟨hnw.1,hnw.2.1⟩;have hqb:QB n (B1 q ps idx now) ps:=hb;simp only[ha,decide_true,W1,Xo];rw[A0 rfl,hx,AK rfl]
   by_cases hx0:x=0
   ·rw[W8 hx0,hx0,A0 (p:=!decide ((0:Int)=0)) (by decide),Pj (by omega) hq,AK rfl]
    cases hh:Cg (B1 q ps idx now) e.fID with
    | true=>rw[A5 rfl,W8 rfl]
    | false=>
     have hw:=hq.wlen;have hc:=hq.cnt;rw[A0 rfl,W6 (by simp),AD (by omega) (by omega)];have hfu:decide ((256:Int)≤(((B1 q ps idx now).fWaiting.length:Int)+((B1 q ps idx now).fDead.length:Int)))=IQ (B1 q ps idx now):=by
      unfold IQ;rw[WA];simp only[Wp];omega
     rw[hfu]
     cases IQ (B1 q ps idx now) with
     | true=>rw[A5 rfl,W8 rfl]
     | false=>
      rw[A0 rfl,W6 (by simp),Pf (EQ hs).2,AK rfl,AD (by omega) (by omega),Pk hqb hn,AK rfl];rfl
   ·rw[W6 hx0,A5 (by simp[hx0])]
  ·simp only[ha,decide_false,WF,Xd];rw[A5 rfl]
theorem TU {ps:List Ab}{i:Int}{y:Ab}(hi:Cb i (ps.length:Int)=true):Ac (ps.set i.toNat y) i=y:=by rw[Gf hi hi,W8 rfl]
theorem SD {α:Type}{x:Option α}:Bd true x=x:=rfl
def EY (x:Ab)(t:Int):Ab:=⟨x.fEvent,t,x.fReceives+1,true,x.fPlace⟩
def Tq (x:Ab):Ay:=(x.fEvent.fID++[35])++Lib.itoa x.fReceives
def MC (x:Ab):AL:=⟨Tq x,x.fEvent,x.fReceives⟩
theorem Lh {α:Type}{n:Nat}{x:Option α}(h:n≤1000000):Bd (HO 136 n) x=x:=Bk (Ws (by omega))
theorem Ng {ps:List Ab}{i:Int}(hi:Cb i (ps.length:Int)=true)(hs:(Ac ps i).fEvent.fID.length≤300)(hr:0≤(Ac ps i).fReceives∧(Ac ps i).fReceives≤1000):E8 i ps=some (Tq (Ac ps i)):=by
 unfold E8;have h1:=Sv (Ac ps i).fReceives (by omega) (by omega);rw[Bk (Ws (Bt hi).1),Bk hi,AD (by simp only[WT];omega) (by simp only[WT];omega),AD (by omega) (by omega),AD (by simp only[W0,WT];omega) (by simp only[W0,WT];omega)];rfl
theorem RF {now most:Int}{r2:Int×Ah×List Ab}{P:List Int}{j:Nat}{out:List AL}{ps:List Ab}(hj:j<P.length)(hP:P.length≤256)(hi:Cb P[j] (ps.length:Int)=true)(hs:V8 (Db ps P[j]))(hr:0≤(Ac ps P[j]).fReceives∧(Ac ps P[j]).fReceives≤100)
  (ht : -10000000000≤now+r2.2.1.fPolicy.fVisible∧now+r2.2.1.fPolicy.fVisible≤10000000000) (ho:out.length≤256) :
  Ce now most r2 P out (j:Int) ps=some (if most≤(out.length:Int) then .out (.go (out,ps)) else .next (out++[MC (EY (Ac ps P[j]) (now+r2.2.1.fPolicy.fVisible))],((j+1:Nat):Int),ps.set P[j].toNat (EY (Ac ps P[j]) (now+r2.2.1.fPolicy.fVisible)))):=by
 unfold Ce;rw[A5 (Ws (by omega)),Bn (by omega) (by omega),DI hj]
 by_cases hm:most≤(out.length:Int)
 ·rw[A5 (Ws hm),W8 hm]
 ·rw[A0 (Wt hm),W6 hm];generalize P[j]=i at hi hs hr ⊢;have hself:∀(y:Ab),Ac (ps.set i.toNat y) i=y:=λy=>TU hi;rw[Bk (Ws (Bt hi).1),Bk hi,AD (by omega) (by omega)];simp only[LV,Xg,List.set_set,hself,hi,SD];rw[AD (by omega) (by omega)];have hrc:E8 i (ps.set i.toNat (EY (Ac ps i) (now+r2.2.1.fPolicy.fVisible)))=some (Tq (EY (Ac ps i) (now+r2.2.1.fPolicy.fVisible))):=by
   have:=Ng (ps:=ps.set i.toNat (EY (Ac ps i) (now+r2.2.1.fPolicy.fVisible))) (i:=i) (by rw[Xg];exact hi) (by rw[hself];exact hs.1) (by rw[hself];show 0≤(Ac ps i).fReceives+1∧(Ac ps i).fReceives+1≤1000;omega);rw[hself] at this;exact this
  have hrc':E8 i (ps.set i.toNat ⟨(Ac ps i).fEvent,now+r2.2.1.fPolicy.fVisible,(Ac ps i).fReceives+1,true,(Ac ps i).fPlace⟩)=some (Tq (EY (Ac ps i) (now+r2.2.1.fPolicy.fVisible))):=hrc;have hown:O3 (Ac ps i).fEvent=some (Ac ps i).fEvent:=Pf hs.2.1;rw[hrc',AK rfl,hown,AK rfl,Lh (by simp;omega),AD (by omega) (by omega)];rfl
def VZ (a b now:Int):Prop:=b=a∨b=now∧0≤now∧now≤1073741824
theorem Mc (q:Ah)(ps:List Ab)(idx:List Int)(now t:Int):(Ef q ps idx now t).fPolicy=q.fPolicy∧VZ q.fNow (Ef q ps idx now t).fNow now∧(Ef q ps idx now t).fArrived=q.fArrived:=by
 unfold Ef
 split
 ·rename_i h;have:=Co h.2;exact⟨rfl,.inr ⟨rfl,this.1,this.2.1⟩,rfl⟩
 ·exact⟨rfl,.inl rfl,rfl⟩
theorem QI.upd {q:Ah}{ps:List Ab}{idx:List Int}(h:QI q ps idx){i:Int}(hi:i∈idx){t:Int}(b:Bool)(ht:0≤t∧t≤2147483648):QI q (ps.set i.toNat ⟨(Ac ps i).fEvent,t,(Ac ps i).fReceives,b,(Ac ps i).fPlace⟩) idx:=h.set hi rfl rfl ht (h.rcv i hi)
def E9 (t:Int):List Int→List Ab→List Ab
 | [],ps=>ps
 | i::L,ps=>E9 t L (ps.set i.toNat (EY (Ac ps i) t))
def DR (t:Int)(ps:List Ab)(L:List Int):List AL:=L.map λi=>MC (EY (Ac ps i) t)
theorem Qr {q:Ah}{idx P:List Int}{now most:Int}{r2:Int×Ah×List Ab}(hr2:r2.2.1.fPolicy=q.fPolicy)(hnd:P.Nodup)(hsub:∀i∈P,i∈idx)(hP:P.length≤256)(hnow:0≤now∧now≤1073741824) :
  ∀(d n j:Nat) (out:List AL) (ps:List Ab),j+d=P.length→d<n→QI q ps idx→out.length≤j→(∀i∈P.drop j,(Ac ps i).fReceives<q.fPolicy.fReceives)→
   BB (λσ=>Ce now most r2 P σ.1 σ.2.1 σ.2.2) n (out,(j:Int),ps)=some (.go (out++DR (now+q.fPolicy.fVisible) ps ((P.drop j).take (most.toNat-out.length)),E9 (now+q.fPolicy.fVisible) ((P.drop j).take (most.toNat-out.length)) ps))∧QI q (E9 (now+q.fPolicy.fVisible) ((P.drop j).take (most.toNat-out.length)) ps) idx:=by
 intro d
 induction d with
 | zero=>
  intro n j out ps h hn hq ho hr;obtain⟨n,rfl⟩:∃m,n=m+1:=⟨n-1,by omega⟩
  have hb:Ce now most r2 P out (j:Int) ps=some (.out (.go (out,ps))):=by unfold Ce;rw[A0 (Wt (by omega))]
  rw[List.drop_of_length_le (by omega),List.take_nil];exact⟨by rw[BB];simp only[hb];rw[show DR (now+q.fPolicy.fVisible) ps []=[] from rfl,Xj];rfl,hq⟩
 | succ d ih=>
  intro n j out ps h hn hq ho hr;obtain⟨n,rfl⟩:∃m,n=m+1:=⟨n-1,by omega⟩
  have hj:j<P.length:=by omega
  have hd:=List.drop_eq_getElem_cons hj;have hm:P[j]∈idx:=hsub _ (List.getElem_mem hj);have hrj:=hr P[j] (by rw[hd];exact List.mem_cons_self ..);have hrc:=hq.rcv _ hm;have hpol:=hq.rcs;have hvis:=hq.vis;have hb:=RF (now:=now) (most:=most) (r2:=r2) (out:=out) hj hP (hq.inr _ hm) (hq.sm _ hm) ⟨hrc.1,by omega⟩ (by rw[hr2];omega) (by omega);rw[hr2] at hb
  by_cases hmo:most≤(out.length:Int)
  ·rw[W8 hmo] at hb;rw[show most.toNat-out.length=0 from by omega,List.take_zero];exact⟨by rw[BB];simp only[hb];rw[show DR (now+q.fPolicy.fVisible) ps []=[] from rfl,Xj];rfl,hq⟩
  ·rw[W6 hmo] at hb;have hq':QI q (ps.set P[j].toNat (EY (Ac ps P[j]) (now+q.fPolicy.fVisible))) idx:=hq.set hm rfl rfl (by show 0≤now+q.fPolicy.fVisible∧now+q.fPolicy.fVisible≤2147483648;omega) (by show 0≤(Ac ps P[j]).fReceives+1∧(Ac ps P[j]).fReceives+1≤q.fPolicy.fReceives;omega);have hsame:∀i∈P.drop (j+1),Ac (ps.set P[j].toNat (EY (Ac ps P[j]) (now+q.fPolicy.fVisible))) i=Ac ps i:=λi hi=>by
    have hii:i∈P.drop j:=by rw[hd];exact List.mem_cons_of_mem _ hi
    have hne:i≠P[j]:=λe=>by
     have hnd':(P.drop j).Nodup:=hnd.sublist (List.drop_sublist _ _);rw[hd,List.nodup_cons] at hnd';exact hnd'.1 (e▸hi)
    rw[Gf (hq.inr _ hm) (hq.inr i (hsub i (List.mem_of_mem_drop hii))),W6 hne]
   obtain⟨h1,h2⟩:=ih n (j+1) (out++[MC (EY (Ac ps P[j]) (now+q.fPolicy.fVisible))]) _ (by omega) (by omega) hq' (by simp;omega) (λi hi=>by
    rw[hsame i hi];exact hr i (by rw[hd];exact List.mem_cons_of_mem _ hi))
   have hk:most.toNat-out.length=(most.toNat-(out.length+1))+1:=by omega
   have hlen:(out++[MC (EY (Ac ps P[j]) (now+q.fPolicy.fVisible))]).length=out.length+1:=by simp
   rw[hlen] at h1 h2;have hout:DR (now+q.fPolicy.fVisible) (ps.set P[j].toNat (EY (Ac ps P[j]) (now+q.fPolicy.fVisible))) ((P.drop (j+1)).take (most.toNat-(out.length+1)))=DR (now+q.fPolicy.fVisible) ps ((P.drop (j+1)).take (most.toNat-(out.length+1))):=
    List.map_congr_left λi hi=>by rw[hsame i (List.mem_of_mem_take hi)]
   rw[hk,hd,List.take_succ_cons];refine⟨?_,h2⟩;rw[BB];simp only[hb];rw[h1,hout,WD];rfl
def GU (q:Ah)(ps:List Ab)(idx:List Int)(now most:Int):List Int:=(G2 (JW ps) ((BA q ps idx now).filter (Je ps now))).take most.toNat
theorem Nf {F:Nat}(hF:300<F){q:Ah}{ps:List Ab}{idx:List Int}(h:QI q ps idx)(now most:Int) :
  DC F q ps now most=some (if Dl q now=0 then(DR (now+q.fPolicy.fVisible) ps (GU q ps idx now most),B1 q ps idx now,E9 (now+q.fPolicy.fVisible) (GU q ps idx now most) ps) else([],q,ps))∧
  (Dl q now=0→QI (B1 q ps idx now) (E9 (now+q.fPolicy.fVisible) (GU q ps idx now most) ps) (BA q ps idx now)):=by
 unfold DC;rw[G0 hF h,AK rfl]
 by_cases ha:Dl q now=0
 ·have hn:=Co ha;have hq:=DX h ⟨hn.1,hn.2.1⟩;simp only[ha,decide_true,W1,Xo];rw[A0 rfl,Nh hq,AK rfl];have hpm:=Di (JW ps) ((BA q ps idx now).filter (Je ps now));have hsub:∀i∈G2 (JW ps) ((BA q ps idx now).filter (Je ps now)),i∈BA q ps idx now:=λi hi=>(List.mem_filter.1 (hpm.subset hi)).1;have hnd:(G2 (JW ps) ((BA q ps idx now).filter (Je ps now))).Nodup:=hpm.symm.nodup ((hq.ord.imp fun {a b} hab e=>by subst e;omega:(BA q ps idx now).Nodup).filter _);have hc:=hq.cnt;have hl:(G2 (JW ps) ((BA q ps idx now).filter (Je ps now))).length≤256:=by
   rw[hpm.length_eq];exact Nat.le_trans (List.length_filter_le _ _) (by omega)
  obtain⟨h1,h2⟩:=Qr (q:=B1 q ps idx now) (idx:=BA q ps idx now) (now:=now) (most:=most) (r2:=(0,B1 q ps idx now,ps)) rfl hnd hsub hl ⟨hn.1,hn.2.1⟩ (G2 (JW ps) ((BA q ps idx now).filter (Je ps now))).length F 0 [] ps (by omega) (by omega) hq (by simp) (λi hi=>by
   rw[List.drop_zero] at hi;have h4:=List.mem_filter.1 (hpm.subset hi);have h5:=(List.mem_filter.1 h4.1).2;have h6:Je ps now i=true:=h4.2;unfold GH at h5;unfold Je at h6;rw[h6] at h5;simp only[WB,W5,Wq] at h5;show(Ac ps i).fReceives<q.fPolicy.fReceives;omega)
  rw[List.drop_zero] at h1 h2;have h1':BB (λσ=>Ce now most (0,B1 q ps idx now,ps) (G2 (JW ps) ((BA q ps idx now).filter (Je ps now))) σ.1 σ.2.1 σ.2.2) F (([]:List AL),0,ps)=_:=h1;rw[h1',AK rfl,C4];exact⟨rfl,λ_=>h2⟩
 ·simp only[ha,decide_false,WF,Xd];rw[A5 rfl];exact⟨rfl,λe=>absurd e (by simp)⟩
theorem Pp (t:Int):∀(L:List Int) (ps:List Ab),(E9 t L ps).length=ps.length
 | [],ps=>rfl
 | i::L,ps=>by rw[E9,Pp t L,Xg]
theorem RG {t:Int}:∀{L:List Int} {ps:List Ab},L.Nodup→(∀i∈L,Cb i (ps.length:Int)=true)→∀{j:Int},Cb j (ps.length:Int)=true→Ac (E9 t L ps) j=if j∈L then EY (Ac ps j) t else Ac ps j
 | [],ps,_,_,j,hj=>by simp[E9]
 | i::L,ps,hn,hi,j,hj=>by
  rw[List.nodup_cons] at hn;have h1:=hi i (List.mem_cons_self ..);have hl:(ps.set i.toNat (EY (Ac ps i) t)).length=ps.length:=Xg ..;rw[E9,RG hn.2 (λk hk=>by rw[hl];exact hi k (List.mem_cons_of_mem _ hk)) (by rw[hl];exact hj),Gf h1 hj]
  by_cases e:j=i
  ·subst e;rw[W6 hn.1,W8 rfl,W8 (List.mem_cons_self ..)]
  ·rw[W6 e]
   by_cases hm:j∈L
   ·rw[W8 hm,W8 (List.mem_cons_of_mem _ hm)]
   ·rw[W6 hm,W6 (λh=>by rcases List.mem_cons.1 h with h | h;exact e h;exact hm h)]
theorem KG {q:Ah}{ps:List Ab}{idx:List Int}(h:QI q ps idx)(now most:Int):(GU q ps idx now most).Nodup∧∀i∈GU q ps idx now most,i∈BA q ps idx now∧Je ps now i=true:=by
 have hpm:=Di (JW ps) ((BA q ps idx now).filter (Je ps now));have hnd:idx.Nodup:=h.ord.imp fun {a b} hab e=>by subst e;omega
 refine⟨(hpm.symm.nodup ((hnd.filter _).filter _)).sublist (List.take_sublist _ _),λi hi=>?_⟩;exact List.mem_filter.1 (hpm.subset (List.mem_of_mem_take hi))
theorem LJ:∀(p r:Ay),(35:UInt8) ∉ p→Lib.indexByte (p++35::r) 35=(p.length:Int)
 | [],r,_=>rfl
 | c::p,r,h=>by
  have hc:(c ==35)=false:=by
   rw[beq_eq_false_iff_ne];intro e;exact h (by rw[e];exact List.mem_cons_self ..)
  have ih:=LJ p r λhm=>h (List.mem_cons_of_mem _ hm);show(if (c ==35)=true then(0:Int) else if (Lib.indexByte (p++35::r) 35 == -1)=true then -1 else Lib.indexByte (p++35::r) 35+1)=_;rw[hc,ih,W6 (by simp),W6 (by simp)];simp
theorem Tz {O:Type}{body:Int→Option (Stp Int O)}{m:Nat}{o:O}(hb:∀i:Nat,i<m→body (i:Int)=some (.next ((i:Int)+1)))(he:body (m:Int)=some (.out o)):∀(d n i:Nat),i+d=m→d<n→BB body n (i:Int)=some o:=by
 intro d
 induction d with
 | zero=>
  intro n i h hn;obtain⟨n,rfl⟩:∃k,n=k+1:=⟨n-1,by omega⟩
  obtain rfl:i=m:=by omega
  rw[BB,he]
 | succ d ih=>
  intro n i h hn;obtain⟨n,rfl⟩:∃k,n=k+1:=⟨n-1,by omega⟩
  rw[BB,hb i (by omega)];exact ih n (i+1) (by omega) (by omega)
theorem IM {O:Type}{body:Int→Option (Stp Int O)}{m F:Nat}{o:O}(hF:m<F)(hb:∀i:Nat,i<m→body (i:Int)=some (.next ((i:Int)+1)))(he:body (m:Int)=some (.out o)):BB body F 0=some o:=Tz hb he m F 0 (by omega) hF
theorem QI.nodup {q:Ah}{ps:List Ab}{idx:List Int}(h:QI q ps idx):idx.Nodup:=h.ord.imp fun {a b} hab e=>by subst e;omega
theorem QI.idne {q:Ah}{ps:List Ab}{idx:List Int}(h:QI q ps idx){i j:Int}(hi:i∈idx)(hj:j∈idx)(he:(Db ps i).fID=(Db ps j).fID):i=j:=by
 have hids:(idx.map λi=>(Db ps i).fID).Nodup:=(List.nodup_append.1 h.ids).1;exact(ID (R:=λa b=>(Db ps a).fID≠(Db ps b).fID) (λx y h e=>h e.symm) (List.pairwise_map.1 hids) i j hi hj).resolve_right (λhne=>hne he)
theorem QI.mget {q:Ah}{ps:List Ab}{idx:List Int}(h:QI q ps idx){i:Int}(hi:i∈idx):mget q.fWaiting (Db ps i).fID=some i:=by
 have hm:((Db ps i).fID,i)∈q.fWaiting:=h.pm.symm.subset (List.mem_map.2 ⟨i,hi,rfl⟩)
 cases hg:Go.Proofs.YthbbedliepkakaaGreatDoor.mget q.fWaiting (Db ps i).fID with
 | none=>exact absurd rfl (Gc (by unfold Cp;rw[hg];rfl) _ hm)
 | some j=>
  obtain⟨hj,he⟩:=h.get hg;rw[h.idne hj hi he]
theorem Oh {q:Ah}{ps:List Ab}{idx:List Int}(h:QI q ps idx){now most t:Int}{j:Int}(hj:j∈idx):Ac (E9 t (GU q ps idx now most) ps) j=if j∈GU q ps idx now most then EY (Ac ps j) t else Ac ps j:=by
 obtain⟨h1,h2⟩:=KG h now most;exact RG h1 (λi hi=>h.inr i (List.mem_filter.1 (h2 i hi).1).1) (h.inr j hj)
def Ok (x:Ab):A9:=⟨x.fEvent,x.fAt,x.fReceives,x.fHeld⟩
def CD (ps:List Ab)(idx:List Int):List A9:=idx.map λi=>Ok (Ac ps i)
def BC (q:Ah)(ps:List Ab)(idx:List Int):A2:=⟨true,q.fPolicy,q.fNow,CD ps idx,q.fDead⟩
theorem D9 (ps:List Ab)(idx:List Int):(CD ps idx).length=idx.length:=by unfold CD;rw[W3]
theorem Hp {ps:List Ab}{idx:List Int}{k:Nat}(h:k<idx.length):Ac (CD ps idx) (k:Int)=Ok (Ac ps idx[k]):=by
 show Ac (idx.map λi=>Ok (Ac ps i)) (k:Int)=_;rw[DI (by rw[W3];exact h),List.getElem_map]
theorem R8 {T:Type}{lt:T→T→Bool}(L:Ua lt){xs ys:List T}{m:T}(hd:D1 lt xs=true)(hp:(m::ys).Perm xs)(hm:∀y∈ys,lt y m=false):G2 lt xs=m::G2 lt ys:=by
 refine(OA L hd (((Di lt ys).cons m).trans hp) (List.pairwise_cons.2 ⟨λy hy=>hm y ((Di lt ys).subset hy),G1 L ys⟩)).symm
theorem Pv {idx:List Int}(hn:idx.Nodup){P:Int→Bool}{m:Int}(hm:m∈idx)(hP:P m=true):(m::(idx.filter λj=>!decide (j=m)).filter P).Perm (idx.filter P):=by
 refine(List.perm_ext_iff_of_nodup ?_ (hn.filter _)).2 λj=>?_
 ·refine List.nodup_cons.2 ⟨λh=>?_,(hn.filter _).filter _⟩;have:=(List.mem_filter.1 (List.mem_filter.1 h).1).2;simp at this
 ·simp only[Xl,List.mem_filter,W5,Wq];constructor
  ·rintro(rfl | ⟨⟨h1,h2⟩,h3⟩)
   ·exact⟨hm,hP⟩
   ·exact⟨h1,h3⟩
  ·rintro⟨h1,h3⟩
   by_cases e:j=m
   ·exact .inl e
   ·exact .inr ⟨⟨h1,e⟩,h3⟩
def My (q:A2)(now:Int)(ex:Bool)(w:A9):Bool:=decide (w.fVisible≤now)&&((decide (q.fPolicy.fReceives≤w.fCount)) ==ex)
def SN (ws:List A9)(P:A9→Bool)(k:Nat)(a:Int):Prop:=
 (a = -1∧∀j:Nat,j<k→P (Ac ws (j:Int))=false)∨∃m:Nat,a=(m:Int)∧m<k∧P (Ac ws (m:Int))=true∧∀j:Nat,j<k→P (Ac ws (j:Int))=true→(Ac ws (m:Int)).fVisible<(Ac ws (j:Int)).fVisible∨((Ac ws (m:Int)).fVisible=(Ac ws (j:Int)).fVisible∧m≤j)
theorem Sf {ws:List A9}{P:A9→Bool}{k:Nat}{a:Int}(h:SN ws P k a) :
  SN ws P (k+1) (if P (Ac ws (k:Int))=true∧(a<0∨(Ac ws (k:Int)).fVisible<(Ac ws a).fVisible) then(k:Int) else a):=by
 have hk:∀{j:Nat},j<k+1→j<k∨j=k:=fun {j} h=>by omega
 rcases h with⟨rfl,h0⟩ | ⟨m,rfl,hm,h1,h2⟩
 ·by_cases hp:P (Ac ws (k:Int))=true
  ·rw[W8 ⟨hp,.inl (by omega)⟩];refine .inr ⟨k,rfl,by omega,hp,λj hj hpj=>?_⟩;rcases hk hj with h3 | rfl
   ·rw[h0 j h3] at hpj;cases hpj
   ·exact .inr ⟨rfl,W9 _⟩
  ·rw[W6 (λe=>hp e.1)];refine .inl ⟨rfl,λj hj=>?_⟩;rcases hk hj with h3 | rfl
   ·exact h0 j h3
   ·simpa using hp
 ·by_cases hp:P (Ac ws (k:Int))=true∧(Ac ws (k:Int)).fVisible<(Ac ws (m:Int)).fVisible
  ·rw[W8 ⟨hp.1,.inr hp.2⟩];refine .inr ⟨k,rfl,by omega,hp.1,λj hj hpj=>?_⟩;rcases hk hj with h3 | rfl
   ·have:=h2 j h3 hpj;exact .inl (by omega)
   ·exact .inr ⟨rfl,W9 _⟩
  ·rw[W6 (λe=>by rcases e with⟨e1,e2⟩;rcases e2 with e2 | e2;omega;exact hp ⟨e1,e2⟩)];refine .inr ⟨m,rfl,by omega,h1,λj hj hpj=>?_⟩;rcases hk hj with h3 | rfl
   ·exact h2 j h3 hpj
   ·have : ¬ (Ac ws (j:Int)).fVisible<(Ac ws (m:Int)).fVisible:=λe=>hp ⟨hpj,e⟩
    by_cases e:(Ac ws (m:Int)).fVisible=(Ac ws (j:Int)).fVisible
    ·exact .inr ⟨e,by omega⟩
    ·exact .inl (by omega)
theorem Qw {F:Nat}{q:A2}(hF:q.fWaiting.length<F)(hl:q.fWaiting.length≤1000000)(now:Int)(ex:Bool):∃a,EZ F q now ex=some a∧SN q.fWaiting (My q now ex) q.fWaiting.length a:=by
 have key:∀(d n k:Nat) (a:Int),k+d=q.fWaiting.length→d<n→SN q.fWaiting (My q now ex) k a→∃a',BB (λσ=>DT q now ex σ.1 σ.2) n (a,(k:Int))=some (.go a')∧SN q.fWaiting (My q now ex) q.fWaiting.length a':=by
  intro d
  induction d with
  | zero=>
   intro n k a h hn hi;obtain⟨n,rfl⟩:∃m,n=m+1:=⟨n-1,by omega⟩
   obtain rfl:k=q.fWaiting.length:=by omega
   have hb:DT q now ex a (q.fWaiting.length:Int)=some (.out (.go a)):=by unfold DT;rw[A0 (Wt (by omega))]
   exact⟨a,by rw[BB];simp only[hb],hi⟩
  | succ d ih=>
   intro n k a h hn hi;obtain⟨n,rfl⟩:∃m,n=m+1:=⟨n-1,by omega⟩
   have hia:a = -1∨(0≤a∧a<(k:Int)):=by
    rcases hi with⟨h1,_⟩ | ⟨m,h1,h2,_⟩
    ·exact .inl h1
    ·exact .inr (by omega)
   have hb:DT q now ex a (k:Int)=some (.next ((if My q now ex (Ac q.fWaiting (k:Int))=true∧(a<0∨(Ac q.fWaiting (k:Int)).fVisible<(Ac q.fWaiting a).fVisible) then(k:Int) else a),((k+1:Nat):Int))):=by
    unfold DT Jm;have hc:imp (decide (((Ac q.fWaiting (k:Int)).fVisible)≤now)) (imp ((decide (q.fPolicy.fReceives≤((Ac q.fWaiting (k:Int)).fCount))) ==ex) (imp (!(decide (a<0))) (Cb a (q.fWaiting.length:Int))))=true:=by
     rcases hia with h1 | h1
     ·rw[Ws (show a<0 by omega)];simp[imp]
     ·rw[M5 h1.1 (by omega)];simp[imp]
    rw[A5 (Ws (by omega)),Bn (by omega) (by omega),Bk hc,AD (by omega) (by omega),AD (by omega) (by omega)]
    by_cases hp:My q now ex (Ac q.fWaiting (k:Int))=true∧(a<0∨(Ac q.fWaiting (k:Int)).fVisible<(Ac q.fWaiting a).fVisible)
    ·rw[W8 hp];have h1:=hp.1;unfold My at h1;rw[Wu] at h1;rw[h1.1,h1.2,A5 (by simp only[WB,WE,Wp];exact hp.2)];rfl
    ·rw[W6 hp];have h1:(((decide (((Ac q.fWaiting (k:Int)).fVisible)≤now))&&(((decide (q.fPolicy.fReceives≤((Ac q.fWaiting (k:Int)).fCount))) ==ex)&&((decide (a<0))||(decide (((Ac q.fWaiting (k:Int)).fVisible)<((Ac q.fWaiting a).fVisible)))))))=false:=by
      rw[Bool.eq_false_iff];intro e;rw[← Bool.and_assoc,Wu] at e;refine hp ⟨e.1,?_⟩;simpa using e.2
     rw[A0 h1];rfl
   obtain⟨a',h1,h2⟩:=ih n (k+1) _ (by omega) (by omega) (Sf hi);exact⟨a',by rw[BB];simp only[hb];exact h1,h2⟩
 obtain⟨a,h1,h2⟩:=key q.fWaiting.length F 0 (-1) (by omega) hF (.inl ⟨rfl,λj hj=>by omega⟩);refine⟨a,?_,h2⟩;unfold EZ;have h1':BB (λσ=>DT q now ex σ.1 σ.2) F (-1,0)=some (.go a):=h1;rw[h1',AK rfl,C4];rfl
theorem H0 {F:Nat}{ps:List Ab}{idx:List Int}{q:A2}(hw:q.fWaiting=CD ps idx)(hF:300<F)(hl:idx.length≤256)(ho:idx.Pairwise λi j=>(Ac ps i).fPlace<(Ac ps j).fPlace)(now:Int)(ex:Bool) :
  let P:=λi=>My q now ex (Ok (Ac ps i))
  (EZ F q now ex=some (-1)∧idx.filter P=[])∨∃k:Nat,∃h:k<idx.length,EZ F q now ex=some (k:Int)∧P idx[k]=true∧G2 (JW ps) (idx.filter P)=idx[k]::G2 (JW ps) ((idx.filter λj=>!decide (j=idx[k])).filter P):=by
 intro P;have hlw:q.fWaiting.length=idx.length:=by rw[hw,D9]
 obtain⟨a,h1,h2⟩:=Qw (F:=F) (q:=q) (by omega) (by omega) now ex;have hat:∀{j:Nat},(hj:j<idx.length)→Ac q.fWaiting (j:Int)=Ok (Ac ps idx[j]):=fun {j} hj=>by rw[hw,Hp hj]
 have hnd:idx.Nodup:=ho.imp fun {a b} hab e=>by subst e;omega
 rw[hlw] at h2;rcases h2 with⟨rfl,h3⟩ | ⟨m,rfl,hm,h3,h4⟩
 ·refine .inl ⟨h1,?_⟩;rw[List.filter_eq_nil_iff];intro i hi;obtain⟨j,hj,rfl⟩:=List.getElem_of_mem hi;have:=h3 j hj;rw[hat hj] at this;simpa[P] using this
 ·refine .inr ⟨m,hm,h1,by rw[hat hm] at h3;exact h3,?_⟩;have hPm:P idx[m]=true:=by rw[hat hm] at h3;exact h3
  have hperm:=Pv hnd (List.getElem_mem hm) hPm;refine R8 (Vx ps) (Lc (ho.filter _)) hperm λy hy=>?_;obtain⟨hy1,hy2⟩:=List.mem_filter.1 hy;obtain⟨hy3,hy4⟩:=List.mem_filter.1 hy1;obtain⟨j,hj,rfl⟩:=List.getElem_of_mem hy3;have h5:=h4 j hj (by rw[hat hj];exact hy2);rw[hat hm,hat hj] at h5;have hjm:j≠m:=λe=>by subst e;simp at hy4
  unfold JW;rw[H3];have h5':(Ac ps idx[m]).fAt<(Ac ps idx[j]).fAt∨(Ac ps idx[m]).fAt=(Ac ps idx[j]).fAt∧m≤j:=h5;refine⟨by omega,λe=>?_⟩;have hmj:m<j:=by omega
  have:=List.pairwise_iff_getElem.1 ho m j hm hj hmj;omega
theorem Ml:∀{idx:List Int} {k:Nat} (h:k<idx.length),idx.Nodup→(idx.filter λj=>!decide (j=idx[k]))=idx.take k++idx.drop (k+1)
 | a::r,0,h,hn=>by
  rw[List.nodup_cons] at hn;have:r.filter (λj=>!decide (j=a))=r:=List.filter_eq_self.2 λj hj=>by
   have:j≠a:=λe=>hn.1 (e▸hj);simp[this]
  simp[this]
 | a::r,k+1,h,hn=>by
  rw[List.nodup_cons] at hn;have hk:k<r.length:=by simpa using h
  have ih:=Ml hk hn.2;have hne:a≠r[k]:=λe=>hn.1 (e▸List.getElem_mem hk);simp only[List.getElem_cons_succ,List.take_succ_cons,List.drop_succ_cons,Xh];rw[List.filter_cons,W8 (by simp[hne]),ih]
theorem JC {q:A2}{ps:List Ab}{idx:List Int}(hw:q.fWaiting=CD ps idx)(hl:idx.length≤256)(hn:idx.Nodup){k:Nat}(hk:k<idx.length) :
  I8 q (k:Int)=some ⟨q.fMade,q.fPolicy,q.fNow,CD ps (idx.filter λj=>!decide (j=idx[k])),q.fDead⟩:=by
 have hlw:q.fWaiting.length=idx.length:=by rw[hw,D9]
 unfold I8;rw[DH (by omega) (by omega),Bk (show HO 136 _=true from Ws (by simp only[Xf,Xq];omega)),AD (by omega) (by omega),DH (by omega) (by omega),
  Bk (show HO 136 _=true from Ws (by simp only[Xr,Xq,Xn];omega))]
 rw[Ml hk hn,hw,Xr,show((k:Int)).toNat=k from by omega,show((k:Int)+1).toNat=k+1 from by omega];unfold CD;rw[Xe,List.map_take,List.map_drop]
def N9 (q:A2)(ps:List Ab)(now:Int)(i:Int):Bool:=My q now true (Ok (Ac ps i))
theorem SK {F:Nat}(hF:300<F){ps:List Ab}{now v c:Int}{nw:Int}{P:Int→Bool}(hP:P=λi=>N9 ⟨true,⟨v,c⟩,nw,[],[]⟩ ps now i):∀(n:Nat) (idx:List Int) (D:List Ap) (m:Nat),(idx.filter P).length=n→n<m→idx.length≤256→idx.Pairwise (λi j=>(Ac ps i).fPlace<(Ac ps j).fPlace)→D.length+idx.length≤100000→
  ∀a,EZ F ⟨true,⟨v,c⟩,nw,CD ps idx,D⟩ now true=some a→
  BB (λσ=>CT F now σ.1 σ.2.1 σ.2.2.1 σ.2.2.2.1 σ.2.2.2.2.1 σ.2.2.2.2.2.1 σ.2.2.2.2.2.2) m (a,true,v,c,nw,CD ps idx,D)=some (.go (true,v,c,nw,CD ps (idx.filter λi=>!P i),D++(G2 (JW ps) (idx.filter P)).map (Db ps))):=by
 intro n
 induction n with
 | zero=>
  intro idx D m hn hm hl ho hD a ha;obtain⟨m,rfl⟩:∃k,m=k+1:=⟨m-1,by omega⟩
  have h0:idx.filter P=[]:=List.length_eq_zero_iff.1 hn;have hself:idx.filter (λi=>!P i)=idx:=List.filter_eq_self.2 λi hi=>by
   have:=List.filter_eq_nil_iff.1 h0 i hi;simpa using this
  rcases H0 (F:=F) (q:=⟨true,⟨v,c⟩,nw,CD ps idx,D⟩) rfl hF hl ho now true with⟨h1,_⟩ | ⟨k,hk,h1,h2,_⟩
  ·rw[ha] at h1;obtain rfl:=Option.some.inj h1;have hb:CT F now (-1) true v c nw (CD ps idx) D=some (.out (.go (true,v,c,nw,CD ps idx,D))):=by unfold CT;rw[A0 (by decide)]
   rw[BB];simp only[hb];rw[h0,hself];simp[G2]
  ·exfalso;have h3:P idx[k]=true:=by subst hP;exact h2
   have:=List.filter_eq_nil_iff.1 h0 idx[k] (List.getElem_mem hk);exact this h3
 | succ n ih=>
  intro idx D m hn hm hl ho hD a ha;obtain⟨m,rfl⟩:∃k,m=k+1:=⟨m-1,by omega⟩
  have hnd:idx.Nodup:=ho.imp fun {a b} hab e=>by subst e;omega
  rcases H0 (F:=F) (q:=⟨true,⟨v,c⟩,nw,CD ps idx,D⟩) rfl hF hl ho now true with⟨h1,h0⟩ | ⟨k,hk,h1,h2,h3⟩
  ·exfalso;have h0':idx.filter P=[]:=by subst hP;exact h0
   rw[h0'] at hn;cases hn
  ·rw[ha] at h1;obtain rfl:=Option.some.inj h1;have hPk:P idx[k]=true:=by subst hP;exact h2
   have h3':G2 (JW ps) (idx.filter P)=idx[k]::G2 (JW ps) ((idx.filter λj=>!decide (j=idx[k])).filter P):=by subst hP;exact h3
   have hperm:=Pv hnd (List.getElem_mem hk) hPk;have hlen:=hperm.length_eq;rw[Wx,hn] at hlen;have hl1:(idx.filter λj=>!decide (j=idx[k])).length+1=idx.length:=by
    rw[Ml hk hnd,W0,Xq,Xn];omega
   have ho1:=ho.filter (λj=>!decide (j=idx[k]));obtain⟨a1,ha1⟩:∃a1,EZ F ⟨true,⟨v,c⟩,nw,CD ps (idx.filter λj=>!decide (j=idx[k])),D++[Db ps idx[k]]⟩ now true=some a1:=by
    rcases H0 (F:=F) (q:=⟨true,⟨v,c⟩,nw,CD ps (idx.filter λj=>!decide (j=idx[k])),D++[Db ps idx[k]]⟩) rfl hF (by omega) ho1 now true with⟨h,_⟩ | ⟨k',_,h,_⟩
    ·exact⟨_,h⟩
    ·exact⟨_,h⟩
   have hb:CT F now (k:Int) true v c nw (CD ps idx) D=some (.next (a1,true,v,c,nw,CD ps (idx.filter λj=>!decide (j=idx[k])),D++[Db ps idx[k]])):=by
    unfold CT;rw[A5 (Ws (by omega)),D9,Bn (by omega) (by omega),Hp hk,Oc (by simp;omega)];have hev:(Ok (Ac ps idx[k])).fEvent=Db ps idx[k]:=rfl;rw[hev,JC (ps:=ps) (idx:=idx) rfl hl hnd hk,AK rfl];simp only;rw[ha1,AK rfl]
   rw[BB];simp only[hb];rw[ih _ _ m (by omega) (by omega) (by omega) ho1 (by simp;omega) a1 ha1,h3',WY,WD];have hfil:(idx.filter λj=>!decide (j=idx[k])).filter (λi=>!P i)=idx.filter λi=>!P i:=by
    rw[List.filter_filter];refine List.filter_congr λj _=>?_
    by_cases e:j=idx[k]
    ·rw[e,hPk];rfl
    ·simp[e]
   rw[hfil];rfl
theorem GY {F:Nat}(hF:300<F){q:Ah}{ps:List Ab}{idx:List Int}(h:QI q ps idx)(now:Int) :
  GZ F (BC q ps idx) now=some (Dl q now,if Dl q now=0 then BC (B1 q ps idx now) ps (BA q ps idx now) else BC q ps idx):=by
 have hc:=h.cnt;unfold GZ Dl
 by_cases h1:0≤now∧now≤1073741824
 ·rw[A0 (by simp only[WN,Wq];omega),W8 h1]
  by_cases h2:now<q.fNow
  ·rw[A5 (Ws (show now<(BC q ps idx).fNow from h2)),W8 h2,W6 (by decide)]
  ·rw[A0 (Wt (show ¬ now<(BC q ps idx).fNow from h2)),W6 h2,W8 rfl];obtain⟨a,ha⟩:∃a,EZ F ⟨true,⟨q.fPolicy.fVisible,q.fPolicy.fReceives⟩,now,CD ps idx,q.fDead⟩ now true=some a:=by
    rcases H0 (F:=F) (q:=⟨true,⟨q.fPolicy.fVisible,q.fPolicy.fReceives⟩,now,CD ps idx,q.fDead⟩) rfl hF (by omega) h.ord now true with⟨h,_⟩ | ⟨k',_,h,_⟩
    ·exact⟨_,h⟩
    ·exact⟨_,h⟩
   have ha':EZ F ⟨(BC q ps idx).fMade,(BC q ps idx).fPolicy,now,(BC q ps idx).fWaiting,(BC q ps idx).fDead⟩ now true=some a:=ha;rw[ha',AK rfl];have hlop:=SK (F:=F) hF (ps:=ps) (now:=now) (v:=q.fPolicy.fVisible) (c:=q.fPolicy.fReceives) (nw:=now) rfl (idx.filter λi=>N9 ⟨true,⟨q.fPolicy.fVisible,q.fPolicy.fReceives⟩,now,[],[]⟩ ps now i).length idx q.fDead F rfl (by have:=List.length_filter_le (λi=>N9 ⟨true,⟨q.fPolicy.fVisible,q.fPolicy.fReceives⟩,now,[],[]⟩ ps now i) idx;omega) (by omega) h.ord (by omega) a ha;have hPe:∀i,N9 ⟨true,⟨q.fPolicy.fVisible,q.fPolicy.fReceives⟩,now,[],[]⟩ ps now i=GH q ps now i:=by
    intro i;unfold N9 My GH;show(decide ((Ac ps i).fAt≤now)&&(decide (q.fPolicy.fReceives≤(Ac ps i).fReceives) ==true))=_
    cases decide (q.fPolicy.fReceives≤(Ac ps i).fReceives)<;>rfl
   simp only[hPe] at hlop;have hlop':BB (λσ=>CT F now σ.1 σ.2.1 σ.2.2.1 σ.2.2.2.1 σ.2.2.2.2.1 σ.2.2.2.2.2.1 σ.2.2.2.2.2.2) F (a,(BC q ps idx).fMade,(BC q ps idx).fPolicy.fVisible,(BC q ps idx).fPolicy.fReceives,now,(BC q ps idx).fWaiting,(BC q ps idx).fDead)=_:=hlop;rw[hlop',AK rfl,C4];rfl
 ·rw[A5 (by simp only[WE,Wp];omega),W6 h1,W6 (by decide)]
theorem MZ {ps:List Ab}{idx:List Int}(hn:idx.Nodup)(hin:∀i∈idx,Cb i (ps.length:Int)=true){k:Nat}(hk:k<idx.length)(y:Ab):CD (ps.set (idx[k]).toNat y) idx=(CD ps idx).set k (Ok y):=by
 unfold CD;refine List.ext_getElem (by simp) λj h1 h2=>?_;have hj:j<idx.length:=by simpa using h1
 rw[List.getElem_map,List.getElem_set,Gf (hin _ (List.getElem_mem hk)) (hin _ (List.getElem_mem hj))]
 by_cases e:k=j
 ·subst e;rw[W8 rfl,W8 rfl]
 ·rw[W6 e,W6 (λe2=>e ((List.getElem_inj hn).1 e2).symm),List.getElem_map]
theorem OS {α β:Type}{a:α}{k:α→Option β}{y:Option β}(h:k a=y):LV a k=y:=h
theorem KY:∀(s:Ay),(35:UInt8) ∉ s→Lib.indexByte s 35 = -1
 | [],_=>rfl
 | c::p,h=>by
  have hc:(c ==35)=false:=by
   rw[beq_eq_false_iff_ne];intro e;exact h (by rw[e];exact List.mem_cons_self ..)
  have ih:=KY p λhm=>h (List.mem_cons_of_mem _ hm);show(if (c ==35)=true then(0:Int) else if (Lib.indexByte p 35 == -1)=true then -1 else Lib.indexByte p 35+1)=_;rw[hc,ih];rfl
theorem PJ:∀(s:Ay),(35:UInt8) ∉ s∨∃p r,s=p++35::r∧(35:UInt8) ∉ p
 | []=>.inl (by simp)
 | c::s=>by
  by_cases hc:c=35
  ·exact .inr ⟨[],s,by rw[hc];rfl,by simp⟩
  ·rcases PJ s with h | ⟨p,r,h1,h2⟩
   ·exact .inl (λhm=>by rcases List.mem_cons.1 hm with e | hm;exact hc e.symm;exact h hm)
   ·exact .inr ⟨c::p,r,by rw[h1];rfl,λhm=>by rcases List.mem_cons.1 hm with e | hm;exact hc e.symm;exact h2 hm⟩
theorem UY {p r:Ay}(h:(35:UInt8) ∉ p):Dc (p++35::r)=(p,r,true):=by
 have hix:PD (p++35::r)=(p.length:Int):=by
  unfold PD
  by_cases hne:([35]:Ay)=p++35::r
  ·cases p with
   | nil=>rw[Ws hne];rfl
   | cons c p=>
    simp only[Xh,List.cons.injEq] at hne;exact absurd (by rw[← hne.1];exact List.mem_cons_self ..) h
  ·rw[Wt hne,LJ p r h];rfl
 unfold Dc;rw[hix,Ws (by omega)];show((p++35::r).take ((p.length:Int)).toNat,(p++35::r).drop ((p.length:Int)+1).toNat,true)=_;rw[show((p.length:Int)).toNat=p.length from by omega,show((p.length:Int)+1).toNat=p.length+1 from by omega,List.take_left' rfl,List.drop_append];simp
theorem UX {s:Ay}(h:(35:UInt8) ∉ s):Dc s=(s,[],false):=by
 have hix:PD s = -1:=by
  unfold PD;have hne : ¬ ([35]:Ay)=s:=λe=>h (by rw[← e];simp);rw[Wt hne,KY s h];rfl
 unfold Dc;rw[hix];rfl
theorem SH {s:Ay}{i:Nat}(h:i<s.length):decide (DL s (i:Int)=35)=decide (s[i]=35):=by
 rw[OT (Wv h),WA];simp only[Wp];constructor
 ·intro e;have:(s[i]).toNat=35:=by omega
  exact UInt8.toNat_inj.1 this
 ·intro e;rw[e];rfl
def Qs (s:Ay):Ay×Int:=if BW (Dc s).2.1=0∧1≤Bp (Dc s).2.1 then((Dc s).1,Bp (Dc s).2.1) else([],0)
theorem Nv {F:Nat}{s:Ay}(hF:s.length<F)(hs:s.length≤1000000):KJ F s=some (Qs s):=by
 unfold KJ Qs;rcases PJ s with h | ⟨p,r,rfl,h⟩
 ·have hl:BB (λσ=>CR s σ) F 0=some (.go ()):=by
   refine IM hF (λi hi=>?_) ?_
   ·unfold CR;have hne : ¬ s[i]=35:=λe=>h (e▸List.getElem_mem hi);rw[A5 (Ws (by omega)),Bn (by omega) (by omega),SH hi,A0 (Wt hne),AD (by omega) (by omega)]
   ·unfold CR;rw[A0 (Wt (by omega))]
  rw[hl,AK rfl,C4,UX h];rfl
 ·rw[UY h];have hlen:(p++35::r).length=p.length+1+r.length:=by simp;omega
  have hp:p.length<(p++35::r).length:=by omega
  have hget:(p++35::r)[p.length]=35:=by simp
  have hdrop:(p++35::r).drop (p.length+1)=r:=by rw[List.drop_append];simp
  have htake:(p++35::r).take p.length=p:=List.take_left' rfl;have hl:BB (λσ=>CR (p++35::r) σ) F 0=some (.ret (if BW r=0∧1≤Bp r then(p,Bp r) else([],0))):=by
   refine IM (m:=p.length) (by omega) (λi hi=>?_) ?_
   ·unfold CR;have hil:i<(p++35::r).length:=by omega
    have hg:(p++35::r)[i]=p[i]:=List.getElem_append_left hi;have hne : ¬ (p++35::r)[i]=35:=λe=>h (by rw[← e,hg];exact List.getElem_mem hi);rw[A5 (Ws (by omega)),Bn (by omega) (by omega),SH hil,A0 (Wt hne),AD (by omega) (by omega)]
   ·unfold CR;rw[A5 (Ws (by omega)),Bn (by omega) (by omega),SH hp,A5 (Ws hget),AD (by omega) (by omega),DH (by omega) (by omega),show((p.length:Int)+1).toNat=p.length+1 from by omega,hdrop,
     Bk (show HO 1 r.length=true from Ws (by omega))]
    by_cases hc:BW r=0∧1≤Bp r
    ·rw[W8 hc,A0 (by rw[WN];exact⟨by rw[Ws hc.1];rfl,Wt (by omega)⟩),DH (by omega) (by omega),show((p.length:Int)).toNat=p.length from by omega,htake]
    ·rw[W6 hc,A5 (by
      rw[WE]
      by_cases e:BW r=0
      ·exact .inr (Ws (by omega))
      ·exact .inl (by rw[Wt e];rfl))]
  rw[hl,AK rfl];rfl
theorem Jn {F:Nat}(hF:300<F){q:Ah}{ps:List Ab}{idx:List Int}(h:QI q ps idx)(id:Ay) :
  (mget q.fWaiting id=none∧Ib F (BC q ps idx) id=some (-1))∨∃k:Nat,∃hk:k<idx.length,mget q.fWaiting id=some idx[k]∧(Db ps idx[k]).fID=id∧Ib F (BC q ps idx) id=some (k:Int):=by
 have hc:=h.cnt;have hlw:(BC q ps idx).fWaiting.length=idx.length:=D9 ps idx;have hat:∀{j:Nat},(hj:j<idx.length)→(Ac (BC q ps idx).fWaiting (j:Int)).fEvent.fID=(Db ps idx[j]).fID:=fun {j} hj=>by
  show(Ac (CD ps idx) (j:Int)).fEvent.fID=_;rw[Hp hj];rfl
 have hstep:∀{j:Nat},(hj:j<idx.length)→¬ (Db ps idx[j]).fID=id→DU (BC q ps idx) id (j:Int)=some (.next ((j:Int)+1)):=fun {j} hj hne=>by
  unfold DU;rw[A5 (Ws (by omega)),Bn (by omega) (by omega),hat hj,A0 (Wt hne),AD (by omega) (by omega)]
 cases hg:mget q.fWaiting id with
 | none=>
  refine .inl ⟨rfl,?_⟩;have hl:BB (λσ=>DU (BC q ps idx) id σ) F 0=some (.go ()):=by
   refine IM (m:=idx.length) (by omega) (λi hi=>hstep hi λe=>?_) ?_
   ·have:=h.mget (List.getElem_mem hi);rw[e,hg] at this;cases this
   ·unfold DU;rw[A0 (Wt (by omega))]
  unfold Ib;rw[hl,AK rfl,C4];rfl
 | some i=>
  obtain⟨hi,he⟩:=h.get hg;obtain⟨k,hk,rfl⟩:=List.getElem_of_mem hi;refine .inr ⟨k,hk,rfl,he,?_⟩;have hl:BB (λσ=>DU (BC q ps idx) id σ) F 0=some (.ret (k:Int)):=by
   refine IM (m:=k) (by omega) (λj hj=>hstep (by omega) λe=>?_) ?_
   ·have h1:=h.idne (List.getElem_mem (show j<idx.length by omega)) (List.getElem_mem hk) (e.trans he.symm);have:=(List.getElem_inj h.nodup).1 h1;omega
   ·unfold DU;rw[A5 (Ws (by omega)),Bn (by omega) (by omega),hat hk,A5 (Ws he)]
  unfold Ib;rw[hl,AK rfl];rfl
theorem I5 (n:Int):GG n=some (O7 n):=by
 unfold GG O7;rw[Bool.decide_and]
theorem Ia {F:Nat}{q:Ah}{ps:List Ab}{idx:List Int}(h:QI q ps idx){s:Ay}(hs:s.length≤300)(hF:300<F)(now t:Int) :
  ∃pos,I7 F (BC q ps idx) s now t=some (pos,(Cj q ps idx s now t).2,BC (Ef q ps idx now t) ps (C2 q ps idx now t))∧
   ((Cj q ps idx s now t).2=0→∃k:Nat,∃hk:k<(C2 q ps idx now t).length,pos=(k:Int)∧(C2 q ps idx now t)[k]=(Cj q ps idx s now t).1):=by
 have hnow:=h.now;unfold I7;rw[I5,I5,Option.isSome_some,Option.isSome_some,Bk rfl,Bk (by unfold imp;simp),Dq,Dq];unfold Cj Ef C2
 cases ht:O7 t with
 | false=>
  rw[A5 (by simp)];exact⟨0,rfl,λe=>absurd (show(2:Int)=0 from e) (by decide)⟩
 | true=>
  by_cases hnw:O7 now=true
  ·rw[hnw,A0 (by rfl),GY hF h,AK rfl]
   by_cases hE:Dl q now=0
   ·have hn:=Co hE;have hq:=DX h ⟨hn.1,hn.2.1⟩;have hc:=hq.cnt;have hlw:(BC (B1 q ps idx now) ps (BA q ps idx now)).fWaiting.length=(BA q ps idx now).length:=D9 _ _;simp only[hE,Xo,W4,true_and];rw[A0 (by rfl),Nv (by omega) (by omega),AK rfl]
    by_cases hc1:BW (Dc s).2.1=0∧1≤Bp (Dc s).2.1
    ·have hrc:Qs s=((Dc s).1,Bp (Dc s).2.1):=by unfold Qs;rw[W8 hc1]
     rw[hrc];rcases Jn hF hq (Dc s).1 with⟨hg,hf⟩ | ⟨k,hk,hg,hid,hf⟩
     ·have hfn:JY (B1 q ps idx now) ps (Dc s).1 (Dc s).2.1 now=(-1,5):=by unfold JY;rw[hg]
      rw[hf,AK rfl,hfn,Bk (by simp[imp]),A5 (by simp)];exact⟨0,rfl,λe=>absurd e (by decide)⟩
     ·have hcnt:(Ac (BC (B1 q ps idx now) ps (BA q ps idx now)).fWaiting (k:Int))=Ok (Ac ps (BA q ps idx now)[k]):=Hp hk;rw[hf,AK rfl];simp only;rw[hcnt,Bk (by rw[M5 (by omega) (by omega)];simp[imp])];have hfn:JY (B1 q ps idx now) ps (Dc s).1 (Dc s).2.1 now=if BW (Dc s).2.1≠0∨Bp (Dc s).2.1<1∨(Ac ps (BA q ps idx now)[k]).fReceives<Bp (Dc s).2.1 then(-1,5)
        else if Bp (Dc s).2.1<(Ac ps (BA q ps idx now)[k]).fReceives∨(Ac ps (BA q ps idx now)[k]).fHeld=false∨(Ac ps (BA q ps idx now)[k]).fAt≤now then(-1,18) else((BA q ps idx now)[k],0):=by unfold JY;rw[hg]
      have e1:(Ok (Ac ps (BA q ps idx now)[k])).fCount=(Ac ps (BA q ps idx now)[k]).fReceives:=rfl;have e2:(Ok (Ac ps (BA q ps idx now)[k])).fHeld=(Ac ps (BA q ps idx now)[k]).fHeld:=rfl;have e3:(Ok (Ac ps (BA q ps idx now)[k])).fVisible=(Ac ps (BA q ps idx now)[k]).fAt:=rfl;rw[hfn,e1,e2,e3]
      by_cases g1:(Ac ps (BA q ps idx now)[k]).fReceives<Bp (Dc s).2.1
      ·rw[W8 (.inr (.inr g1)),A5 (by simp[g1])];exact⟨0,rfl,λe=>absurd e (by decide)⟩
      ·rw[W6 (by omega),A0 (by simp only[WN,Wq];omega),Bn (by omega) (by omega)]
       by_cases g2:Bp (Dc s).2.1<(Ac ps (BA q ps idx now)[k]).fReceives∨(Ac ps (BA q ps idx now)[k]).fHeld=false∨(Ac ps (BA q ps idx now)[k]).fAt≤now
       ·rw[W8 g2,A5 (by simp only[WE,Wp,W5];exact g2)];exact⟨0,rfl,λe=>absurd e (by decide)⟩
       ·rw[W6 g2,A0 (by
         rw[Bool.eq_false_iff];intro e;simp only[WE,Wp,W5] at e;exact g2 e)]
        exact⟨(k:Int),rfl,λ_=>⟨k,hk,rfl,rfl⟩⟩
    ·have hrc:Qs s=([],0):=by unfold Qs;rw[W6 hc1]
     have hfn:(JY (B1 q ps idx now) ps (Dc s).1 (Dc s).2.1 now)=(-1,5):=by
      unfold JY
      cases mget (B1 q ps idx now).fWaiting (Dc s).1 with
      | none=>rfl
      | some i=>simp only;rw[W8 (by omega)]
     rw[hrc,hfn];obtain⟨a,ha⟩:∃a,Ib F (BC (B1 q ps idx now) ps (BA q ps idx now)) []=some a:=by
      rcases Jn hF hq [] with⟨_,hf⟩ | ⟨k,_,_,_,hf⟩
      ·exact⟨_,hf⟩
      ·exact⟨_,hf⟩
     rw[ha,AK rfl];rw[Bk (by simp[imp]),A5 (by simp)];exact⟨0,rfl,λe=>absurd e (by decide)⟩
   ·simp only[hE,Xd,W4,and_false];rw[A5 (by simp[hE])];exact⟨0,rfl,λe=>absurd e (by simp)⟩
  ·have hE:Dl q now=2:=by
    unfold Dl;rw[W6 (λe=>hnw (Ws e))]
   rw[Bool.not_eq_true] at hnw;rw[hnw,A5 (by rfl)];simp only[hE,W4];exact⟨0,rfl,λe=>absurd (show(2:Int)=0 from e) (by decide)⟩
theorem Vr {R V:Type}(K:V→Option R)(v:V):B4 K (.go v)=K v:=rfl
theorem U7 {R V:Type}(K:V→Option R)(r:R):B4 K (.ret r)=some r:=rfl
theorem Sl {α R U:Type}[Inhabited α](l:List α)(P:α→Prop)(B:R→Prop)(u:U)(body:Int→Option (Stp Int (Out R U)))
  (h1:∀(x:Int) (c:α),0≤x→x<(l.length:Int)→c∈l→Ac l x=c→(body x=some (.next (x+1))∧P c)∨∃q,body x=some (.out (.ret q))∧B q)
  (h2:body (l.length:Int)=some (.out (.go u))) {F:Nat} (hF:l.length<F) :
  ∃o,BB body F 0=some o∧((∃q,o = .ret q∧B q)∨(o = .go u∧∀c∈l,P c)):=by
 refine ES (λx=>0≤x∧x≤(l.length:Int)∧∀c∈l.take x.toNat,P c) (λx=>l.length-x.toNat) _ (λx ⟨h0,hl,ha⟩=>?_) F 0 ⟨WJ 0,by omega,by simp⟩ (by show l.length-0<F;omega)
 by_cases hx:x<(l.length:Int)
 ·obtain⟨c,hc⟩:∃c,l[x.toNat]? =some c:=⟨l[x.toNat]'(by omega),Wv (by omega)⟩
  have hat:Ac l x=c:=by simp[Ac,hc]
  rcases h1 x c h0 hx (Wy hc) hat with⟨hb,hp⟩ | ⟨q,hb,hq⟩
  ·refine .inl ⟨x+1,hb,⟨by omega,by omega,λd hd=>?_⟩,by omega⟩;rw[show(x+1).toNat=x.toNat+1 from by omega,List.take_add_one,hc] at hd;simp only[Option.toList_some,List.mem_append,Xl,List.not_mem_nil,or_false] at hd;rcases hd with hd | rfl
   ·exact ha d hd
   ·exact hp
  ·exact .inr ⟨.ret q,hb,.inl ⟨q,rfl,hq⟩⟩
 ·have e:x=(l.length:Int):=by omega
  subst e;refine .inr ⟨.go u,h2,.inr ⟨rfl,λc hc=>ha c ?_⟩⟩;rw[show((l.length:Int)).toNat=l.length from by omega,List.take_length];exact hc
theorem U6:∀a b d e f g h i j:Bool,(Bq (some a) λha=>Bh ha (some true) (Bh d (Bh e (some true) (Bq (some b) λhb=>Bh hb (some true) (Bh f (some true) (Bh g (some true) (Bh h (some true) (Bh i (some true) (some j))))))) (Bq (some b) λhd=>Bh hd (some true) (Bh f (some true) (Bh g (some true) (Bh h (some true) (Bh i (some true) (some j))))))))=some (a||b||(d&&e)||f||g||h||i||j):=by decide
theorem QP (c:Int):Sz c=some (Ct c):=U6 (decide (97≤c)&&decide (c≤122)) (decide (48≤c)&&decide (c≤57)) (decide (65≤c)) (decide (c≤90)) (decide (c=45)) (decide (c=95)) (decide (c=46)) (decide (c=58)) (decide (c=47))
theorem JM:∀(s:Ay) (k:Nat),Bj Jz k s=s.all λu=>Ct u.toNat
 | [],k=>rfl
 | u::r,k=>by rw[Bj,JM r (k+1),List.all_cons];rfl
theorem Kq {F:Nat}(hF:64<F)(s:Ay):G8 F s=some (Dg s):=by
 unfold G8 Dg;rw[JM]
 by_cases hl:(s.length:Int)<1∨(64:Int)<(s.length:Int)
 ·rw[A5 (by simpa using hl)];have:(decide (1≤s.length)&&decide (s.length≤64))=false:=by
   simp only[Xm,Wq];omega
  rw[Bool.and_assoc,this,WP]
 ·rw[A0 (by simpa using hl)];have hb:(decide (1≤s.length)&&decide (s.length≤64))=true:=by
   simp only[Wu,Wp];omega
  rw[Bool.and_assoc,hb,WR];obtain⟨o,h1,h2⟩:=Sl s (λu=>Ct u.toNat=true) (λq=>q=false∧(s.all λu=>Ct u.toNat)=false) () (λσ=>H7 s σ) (λx c h0 hx hc hat=>by
   have hb:DL s x=(c.toNat:Int):=by rw[← hat];rfl
   have e:H7 s x=Bh (!Ct c.toNat) (some (.out (.ret false))) (some (.next (x+1))):=by
    unfold H7;rw[A5 (Ws hx),Bn h0 hx,hb,QP,AK rfl,AD (by omega) (by omega)]
   cases hL:Ct c.toNat with
   | true=>exact .inl ⟨by rw[hL] at e;exact e,rfl⟩
   | false=>exact .inr ⟨false,by rw[hL] at e;exact e,rfl,List.all_eq_false.2 ⟨c,hc,by simp[hL]⟩⟩) (by
   show H7 s _=_;unfold H7;rw[A0 (Wt (by omega))]) (F:=F) (by omega)
  rw[AK h1];rcases h2 with⟨q,rfl,rfl,ha⟩ | ⟨rfl,h⟩
  ·rw[U7,ha]
  ·rw[Vr,List.all_eq_true.2 h];rfl
def G6 (s:Ay):Bool:=decide (s=[])||Dg s
theorem Ha {F:Nat}(hF:64<F)(s:Ay):CU F s=some (G6 s):=by
 unfold CU G6;rw[Kq hF,Option.isSome_some,Bk (by unfold imp;simp),Dq]
def Ih (e:Ap):Bool:=Dg e.fID&&(Dg e.fTenant&&(Dg e.fSource&&(G6 e.fKey&&G6 e.fCause)))
def Ge (e:Ap):Int:=bif !Ih e then 4 else bif decide (e.fAt<0)||decide (1073741824<e.fAt) then 2 else S6 e.fBody
theorem Oa {F:Nat}(hF:30000≤F){e:Ap}(h:CL e=true)(ho:ST e):Hk F e=some (Ge e):=by
 unfold Hk Ge;rw[Qc (KC h ho) (by decide) (by omega)];have key:((!(Dg e.fID))||((!(Dg e.fTenant))||((!(Dg e.fSource))||(bif !decide (e.fKey=([]:Ay)) then((!(Dg e.fKey))||((!decide (e.fCause=([]:Ay)))&&(!(Dg e.fCause)))) else((!decide (e.fCause=([]:Ay)))&&(!(Dg e.fCause))))))) = !Ih e:=by
  unfold Ih G6
  cases Dg e.fID<;>cases Dg e.fTenant<;>cases Dg e.fSource<;>cases decide (e.fKey=[])<;>cases Dg e.fKey<;>cases decide (e.fCause=[])<;>cases Dg e.fCause<;>rfl
 rw[key]
 cases Ih e with
 | false=>rfl
 | true=>
  rw[A0 (p:=!true) rfl]
  cases(decide (e.fAt<0)||decide (1073741824<e.fAt))<;>rfl
theorem Ea (a:Bool){b:Bool}(h:b=true):imp a b=true:=by subst h;exact Sw a
theorem N3 {F:Nat}(hF:30000≤F){e:Ap}(h:CL e=true)(ho:ST e):KP F e=some (Ge e):=by
 unfold KP Ge;rw[Q3 (KC h ho) (by decide) (by omega),Ha (by omega),Ha (by omega),Kq (by omega),Kq (by omega),Kq (by omega)];simp only[Option.isSome_some];rw[Bk rfl,Bk (Ea _ rfl),Bk (Ea _ (Ea _ rfl)),Bk (Ea _ (Ea _ (Ea _ rfl))),Bk (Ea _ (Ea _ (Ea _ (Ea _ rfl))))];have key:((!(ov (some (Dg e.fID))))||((!(ov (some (Dg e.fTenant))))||((!(ov (some (Dg e.fSource))))||((!(ov (some (G6 e.fKey))))||(!(ov (some (G6 e.fCause)))))))) = !Ih e:=by
  unfold Ih;rw[Dq,Dq,Dq,Dq,Dq]
  cases Dg e.fID<;>cases Dg e.fTenant<;>cases Dg e.fSource<;>cases G6 e.fKey<;>cases G6 e.fCause<;>rfl
 rw[key]
 cases Ih e with
 | false=>rfl
 | true=>
  rw[A0 (p:=!true) rfl]
  cases(decide (e.fAt<0)||decide (1073741824<e.fAt))<;>rfl
theorem RJ {F:Nat}(hF:300<F){q:Ah}{ps:List Ab}{idx:List Int}(h:QI q ps idx)(id:Ay):RK F (BC q ps idx) id=some (Cg q id):=by
 have hc:=h.cnt;unfold RK Dp;rw[AK rfl,A0 (p:=!(BC q ps idx).fMade) rfl];have hk:GW F (BC q ps idx) id=some (Cp q.fWaiting id):=by
  unfold GW Cp;rcases Jn hF h id with⟨hg,hf⟩ | ⟨k,hk,hg,_,hf⟩
  ·rw[hf,AK rfl,hg];rfl
  ·rw[hf,AK rfl,hg,Ws (by omega)];rfl
 obtain⟨o,h1,h2⟩:=ES (body:=λσ=>GX (BC q ps idx) id σ) (λx=>∃i:Nat,x=(i:Int)∧i≤q.fDead.length∧(q.fDead.any λe=>decide (e.fID=id))=((q.fDead.drop i).any λe=>decide (e.fID=id))) (λx=>q.fDead.length-x.toNat)
  (λo=>B4 (λ_=>GW F (BC q ps idx) id) o=some (Cg q id)) (λx ⟨i,hx,hi,ha⟩=>by
   subst hx
   by_cases hlt:i<q.fDead.length
   ·have hd:=List.drop_eq_getElem_cons hlt;have hbody:GX (BC q ps idx) id (i:Int)=Bh (decide (q.fDead[i].fID=id)) (some (.out (.ret true))) (some (.next ((i:Int)+1))):=by
     unfold GX;show Bh (decide ((i:Int)<(q.fDead.length:Int))) (Bd (Cb (i:Int) (q.fDead.length:Int))<|Bh (decide ((Ac q.fDead (i:Int)).fID=id)) _ _) _=_;rw[A5 (Ws (by omega)),Bn (by omega) (by omega),DI hlt,AD (by omega) (by omega)]
    cases hq:decide (q.fDead[i].fID=id) with
    | true=>
     refine .inr ⟨.ret true,by rw[hbody,hq];rfl,?_⟩;unfold Cg;rw[ha,hd,List.any_cons,hq,WO,WS];rfl
    | false=>
     refine .inl ⟨(i:Int)+1,by rw[hbody,hq];rfl,⟨i+1,by omega,by omega,?_⟩,by omega⟩;rw[ha,hd,List.any_cons,hq,W7]
   ·obtain rfl:i=q.fDead.length:=by omega
    refine .inr ⟨.go (),by
     unfold GX;show Bh (decide ((q.fDead.length:Int)<(q.fDead.length:Int))) _ _=_;rw[A0 (Wt (by omega))],?_⟩
    rw[List.drop_length] at ha;show GW F (BC q ps idx) id=_;unfold Cg;rw[hk,ha];simp) F 0 ⟨0,rfl,by omega,by rw[List.drop_zero]⟩ (by show q.fDead.length-0<F;omega)
 rw[AK h1,h2]
theorem Nz {F:Nat}(hF:300<F){q:Ah}{ps:List Ab}{idx:List Int}(h:QI q ps idx){s:Ay}(hs:s.length≤300)(now:Int) :
  KM F (BC q ps idx) s now=some ((Cj q ps idx s now 0).2,if (Cj q ps idx s now 0).2=0 then BC (VC (Ef q ps idx now 0) ps (Cj q ps idx s now 0).1) ps (Vg (C2 q ps idx now 0) (Cj q ps idx s now 0).1) else BC (Ef q ps idx now 0) ps (C2 q ps idx now 0)):=by
 unfold KM Dp;obtain⟨pos,h1,h2⟩:=Ia h hs hF now 0;have hq:=Jf h now 0;have hc:=hq.cnt;rw[AK rfl,A0 (p:=!(BC q ps idx).fMade) rfl,h1,AK rfl];simp only
 by_cases he:(Cj q ps idx s now 0).2=0
 ·obtain⟨k,hk,rfl,h3⟩:=h2 he;rw[A5 (Ws he),W8 he,JC (ps:=ps) (idx:=C2 q ps idx now 0) rfl (by omega) hq.nodup hk,AK rfl,h3];rfl
 ·rw[A0 (Wt he),W6 he]
theorem TT {ws:List A9}{k:Nat}(hk:k<ws.length)(y:A9):Ac (ws.set k y) (k:Int)=y:=by simp[Ac,hk]
theorem Nx {F:Nat}(hF:300<F){q:Ah}{ps:List Ab}{idx:List Int}(h:QI q ps idx){s:Ay}(hs:s.length≤300)(now d:Int) :
  KK F (BC q ps idx) s now d=some ((Cj q ps idx s now d).2,BC (Ef q ps idx now d) (if (Cj q ps idx s now d).2=0 then ps.set (Cj q ps idx s now d).1.toNat (Tp (Ac ps (Cj q ps idx s now d).1) (now+d)) else ps) (C2 q ps idx now d)):=by
 unfold KK Dp;obtain⟨pos,h1,h2⟩:=Ia h hs hF now d;have hq:=Jf h now d;have hc:=hq.cnt;rw[AK rfl,A0 (p:=!(BC q ps idx).fMade) rfl,h1,AK rfl];simp only
 by_cases he:(Cj q ps idx s now d).2=0
 ·obtain⟨k,hk,rfl,h3⟩:=h2 he;obtain⟨ht,ha,_,_,_⟩:=GQ h he;have hn:=Co ha;have hlw:(BC (Ef q ps idx now d) ps (C2 q ps idx now d)).fWaiting.length=(C2 q ps idx now d).length:=D9 _ _;have hat:Ac (BC (Ef q ps idx now d) ps (C2 q ps idx now d)).fWaiting (k:Int)=Ok (Ac ps (C2 q ps idx now d)[k]):=Hp hk;rw[A5 (Ws he),W8 he,hlw,Bn (by omega) (by omega)];refine OS ?_;rw[AD (by omega) (by omega),Xg,hlw,Bn (by omega) (by omega)];refine OS ?_;have hkn:Int.toNat (k:Int)=k:=by omega
  rw[hkn,TT (by omega),List.set_set,hat,← h3];have hws:CD (ps.set ((C2 q ps idx now d)[k]).toNat (Tp (Ac ps (C2 q ps idx now d)[k]) (now+d))) (C2 q ps idx now d)=(CD ps (C2 q ps idx now d)).set k (Ok (Tp (Ac ps (C2 q ps idx now d)[k]) (now+d))):=MZ hq.nodup hq.inr hk _;unfold BC;rw[hws];rfl
 ·rw[A0 (Wt he),W6 he]
theorem Ny {F:Nat}(hF:300<F){q:Ah}{ps:List Ab}{idx:List Int}(h:QI q ps idx){s:Ay}(hs:s.length≤300)(now d:Int) :
  KL F (BC q ps idx) s now d=some ((Cj q ps idx s now d).2,BC (Ef q ps idx now d) (if (Cj q ps idx s now d).2=0 then ps.set (Cj q ps idx s now d).1.toNat (TF (Ac ps (Cj q ps idx s now d).1) (now+d)) else ps) (C2 q ps idx now d)):=by
 unfold KL Dp;obtain⟨pos,h1,h2⟩:=Ia h hs hF now d;have hq:=Jf h now d;have hc:=hq.cnt;rw[AK rfl,A0 (p:=!(BC q ps idx).fMade) rfl,h1,AK rfl];simp only
 by_cases he:(Cj q ps idx s now d).2=0
 ·obtain⟨k,hk,rfl,h3⟩:=h2 he;obtain⟨ht,ha,_,_,_⟩:=GQ h he;have hn:=Co ha;have hlw:(BC (Ef q ps idx now d) ps (C2 q ps idx now d)).fWaiting.length=(C2 q ps idx now d).length:=D9 _ _;have hat:Ac (BC (Ef q ps idx now d) ps (C2 q ps idx now d)).fWaiting (k:Int)=Ok (Ac ps (C2 q ps idx now d)[k]):=Hp hk;rw[A5 (Ws he),W8 he,AD (by omega) (by omega),hlw,Bn (by omega) (by omega)];refine OS ?_;have hkn:Int.toNat (k:Int)=k:=by omega
  rw[hkn,hat,← h3];have hws:CD (ps.set ((C2 q ps idx now d)[k]).toNat (TF (Ac ps (C2 q ps idx now d)[k]) (now+d))) (C2 q ps idx now d)=(CD ps (C2 q ps idx now d)).set k (Ok (TF (Ac ps (C2 q ps idx now d)[k]) (now+d))):=MZ hq.nodup hq.inr hk _;unfold BC;rw[hws];rfl
 ·rw[A0 (Wt he),W6 he]
def Vo (t:Int):List Ap→Ah→List Ab→List Int→Ah×List Ab×List Int
 | [],q,ps,idx=>(q,ps,idx)
 | e::D,q,ps,idx=>Vo t D (Oi q ps D e) (ps++[Hm e t q.fArrived]) (idx++[(ps.length:Int)])
theorem Qq {r1:Int×Ah×List Ab}{now:Int}(hnow:0≤now∧now≤1073741824)(hdl:r1.2.1.fDead.length≤256):∀(d n j m:Nat) (q:Ah) (ps:List Ab) (idx:List Int),j+d=r1.2.1.fDead.length→d<n→q.fDead=r1.2.1.fDead.drop j→QI q ps idx→QB m q ps→m+d≤1000000→
  ∃q' ps' idx',Vo now (r1.2.1.fDead.drop j) q ps idx=(q',ps',idx')∧BB (λσ=>Cd now r1 σ.1 σ.2.1 σ.2.2.1 σ.2.2.2.1 σ.2.2.2.2.1 σ.2.2.2.2.2.1 σ.2.2.2.2.2.2) n ((j:Int),q.fPolicy.fVisible,q.fPolicy.fReceives,q.fNow,q.fArrived,q.fWaiting,ps)=some (.go (q'.fPolicy.fVisible,q'.fPolicy.fReceives,q'.fNow,q'.fArrived,q'.fWaiting,ps'))∧QI q' ps' idx'∧QB (m+d) q' ps'∧q'.fDead=[]∧q'.fPolicy=q.fPolicy∧q'.fNow=q.fNow∧
   CD ps' idx'=CD ps idx++(r1.2.1.fDead.drop j).map λe=>⟨e,now,0,false⟩:=by
 intro d
 induction d with
 | zero=>
  intro n j m q ps idx h hn hd hq hb hm;obtain⟨n,rfl⟩:∃m,n=m+1:=⟨n-1,by omega⟩
  have hb1:Cd now r1 (j:Int) q.fPolicy.fVisible q.fPolicy.fReceives q.fNow q.fArrived q.fWaiting ps=some (.out (.go (q.fPolicy.fVisible,q.fPolicy.fReceives,q.fNow,q.fArrived,q.fWaiting,ps))):=by unfold Cd;rw[A0 (Wt (by omega))]
  have hdr:r1.2.1.fDead.drop j=[]:=List.drop_of_length_le (by omega);rw[hdr] at hd ⊢;exact⟨q,ps,idx,rfl,by rw[BB];simp only[hb1],hq,hb,hd,rfl,rfl,by simp⟩
 | succ d ih=>
  intro n j m q ps idx h hn hd hq hb hm;obtain⟨n,rfl⟩:∃m,n=m+1:=⟨n-1,by omega⟩
  have hj:j<r1.2.1.fDead.length:=by omega
  have hdc:=List.drop_eq_getElem_cons hj;have hb':QB m ⟨⟨q.fPolicy.fVisible,q.fPolicy.fReceives⟩,q.fWaiting,r1.2.1.fDead,q.fNow,q.fArrived⟩ ps:=hb;have hb1:Cd now r1 (j:Int) q.fPolicy.fVisible q.fPolicy.fReceives q.fNow q.fArrived q.fWaiting ps=some (.next (((j+1:Nat):Int),q.fPolicy.fVisible,q.fPolicy.fReceives,q.fNow,q.fArrived+1,mset q.fWaiting (r1.2.1.fDead[j]).fID (ps.length:Int),ps++[Hm r1.2.1.fDead[j] now q.fArrived])):=by
   unfold Cd;rw[A5 (Ws (by omega)),Bn (by omega) (by omega),DI hj,Pk hb' (by omega),AK rfl,AD (by omega) (by omega)];rfl
  have hids:=hq.ids;have hcnt:=hq.cnt;have hsd:=hq.smd;rw[hd,hdc] at hids hcnt hsd;have hq':QI (Oi q ps (r1.2.1.fDead.drop (j+1)) r1.2.1.fDead[j]) (ps++[Hm r1.2.1.fDead[j] now q.fArrived]) (idx++[(ps.length:Int)]):=SJ hq (hsd _ (List.mem_cons_self ..)) ⟨by omega,by omega⟩ (List.perm_middle.nodup hids) (λx hx=>hsd x (List.mem_cons_of_mem _ hx)) (by simp only[Wx] at hcnt;omega);obtain⟨q',ps',idx',h0,h1,h2,h3,h4,h5,h6,h7⟩:=ih n (j+1) (m+1) _ _ _ (by omega) (by omega) rfl hq' ⟨by show 0≤q.fArrived+1;have:=hb.1;omega,by show q.fArrived+1≤((m+1:Nat):Int);have:=hb.2.1;omega,by simp;exact hb.2.2⟩ (by omega);refine⟨q',ps',idx',by rw[hdc];exact h0,?_,h2,by rw[show m+(d+1)=m+1+d from by omega];exact h3,h4,h5,h6,?_⟩
  ·rw[BB];simp only[hb1];exact h1
  ·rw[h7,hdc,WY];have hws:CD (ps++[Hm r1.2.1.fDead[j] now q.fArrived]) (idx++[(ps.length:Int)])=CD ps idx++[⟨r1.2.1.fDead[j],now,0,false⟩]:=by
    unfold CD;rw[Xe,WY,List.map_nil,IZ]
    congr 1
    exact List.map_congr_left λi hi=>by rw[Li (hq.inr i hi)]
   rw[hws,WD];rfl
theorem RE {F n:Nat}(hF:300<F){q:Ah}{ps:List Ab}{idx:List Int}(h:QI q ps idx)(hb:QB n q ps)(hn:n+256≤1000000)(now:Int) :
  ∃k q' ps' idx',GR F q ps now=some (k,q',ps')∧Jl F (BC q ps idx) now=some (k,BC q' ps' idx')∧QI q' ps' idx'∧QB (n+256) q' ps'∧q'.fPolicy=q.fPolicy:=by
 unfold GR Jl Dp;rw[G0 hF h,AK rfl,AK rfl,A0 (p:=!(BC q ps idx).fMade) rfl,GY hF h,AK rfl];have hbn:QB (n+256) q ps:=⟨hb.1,by have:=hb.2.1;omega,by have:=hb.2.2;omega⟩
 unfold G3
 by_cases ha:Dl q now=0
 ·have hnw:=Co ha;have hq:=DX h ⟨hnw.1,hnw.2.1⟩;simp only[ha,decide_true,W1,Xo];have hc:=hq.cnt;obtain⟨q',ps',idx',h0,h1,h2,h3,h4,h5,h6,h7⟩:=Qq (r1:=(0,B1 q ps idx now,ps)) (now:=now) ⟨hnw.1,hnw.2.1⟩ (by show(B1 q ps idx now).fDead.length≤256;omega) (B1 q ps idx now).fDead.length F 0 n (B1 q ps idx now) ps (BA q ps idx now) (by simp) (by omega) rfl hq hb (by omega);have h1':BB (λσ=>Cd now (0,B1 q ps idx now,ps) σ.1 σ.2.1 σ.2.2.1 σ.2.2.2.1 σ.2.2.2.2.1 σ.2.2.2.2.2.1 σ.2.2.2.2.2.2) F (0,(B1 q ps idx now).fPolicy.fVisible,(B1 q ps idx now).fPolicy.fReceives,(B1 q ps idx now).fNow,(B1 q ps idx now).fArrived,(B1 q ps idx now).fWaiting,ps)=some (.go (q'.fPolicy.fVisible,q'.fPolicy.fReceives,q'.fNow,q'.fArrived,q'.fWaiting,ps')):=h1;rw[A0 rfl,h1',AK rfl,C4];have e:(⟨⟨q'.fPolicy.fVisible,q'.fPolicy.fReceives⟩,q'.fWaiting,[],q'.fNow,q'.fArrived⟩:Ah)=q':=by
   cases q';simp only at h4;subst h4;rfl
  have key:∀(d m j:Nat) (W:List A9),j+d=(B1 q ps idx now).fDead.length→d<m→W.length+d≤100000→BB (λσ=>CB now (B1 q ps idx now).fDead σ.1 σ.2) m ((j:Int),W)=some (.go (W++((B1 q ps idx now).fDead.drop j).map λe=>⟨e,now,0,false⟩)):=by
   intro d
   induction d with
   | zero=>
    intro m j W hj hm hW;obtain⟨m,rfl⟩:∃k,m=k+1:=⟨m-1,by omega⟩
    have hb1:CB now (B1 q ps idx now).fDead (j:Int) W=some (.out (.go W)):=by unfold CB;rw[A0 (Wt (by omega))]
    rw[BB];simp only[hb1];rw[List.drop_of_length_le (by omega)];simp
   | succ d ih=>
    intro m j W hj hm hW;obtain⟨m,rfl⟩:∃k,m=k+1:=⟨m-1,by omega⟩
    have hlt:j<(B1 q ps idx now).fDead.length:=by omega
    have hb1:CB now (B1 q ps idx now).fDead (j:Int) W=some (.next (((j+1:Nat):Int),W++[⟨(B1 q ps idx now).fDead[j],now,0,false⟩])):=by
     unfold CB;rw[A5 (Ws (by omega)),Bn (by omega) (by omega),DI hlt,Lh (by simp;omega),AD (by omega) (by omega)];rfl
    rw[BB];simp only[hb1];rw[ih m (j+1) _ (by omega) (by omega) (by simp;omega),List.drop_eq_getElem_cons hlt,WY,WD];rfl
  have k1:=key (B1 q ps idx now).fDead.length F 0 (CD ps (BA q ps idx now)) (by omega) (by omega) (by rw[D9];omega);have k1':BB (λσ=>CB now (BC (B1 q ps idx now) ps (BA q ps idx now)).fDead σ.1 σ.2) F (0,(BC (B1 q ps idx now) ps (BA q ps idx now)).fWaiting)=_:=k1;refine⟨((B1 q ps idx now).fDead.length:Int),q',ps',idx',?_,?_,h2,⟨h3.1,by have:=h3.2.1;omega,by have:=h3.2.2;omega⟩,h5⟩
  ·unfold Eg;simp only;rw[e]
  ·rw[A0 rfl,k1',AK rfl,C4];unfold I9 BC;rw[h7,h4,h5,h6]
   first | done | rfl
 ·simp only[ha,decide_false,WF,Xd];rw[A5 rfl,A5 rfl];exact⟨0,q,ps,idx,rfl,rfl,h,hbn,rfl⟩
theorem MN {q:Ah}{ps:List Ab}{idx:List Int}(h:QI q ps idx){now:Int}(ha:Dl q now=0)(id:Ay):Cg (B1 q ps idx now) id=Cg q id:=by
 have hn:=Co ha;have hq:=DX h ⟨hn.1,hn.2.1⟩;have hpm:=J4 q ps idx now;rw[WA,Ex hq,Ex h];show id∈(BA q ps idx now).map (λi=>(Ac ps i).fEvent.fID)++(q.fDead++(Lk q ps idx now).map (Db ps)).map (·.fID)↔_;simp only[Xe,Xp,List.mem_append,List.mem_map,Function.comp];constructor
 ·rintro(⟨i,hi,e⟩ | h1 | ⟨i,hi,e⟩)
  ·exact .inl ⟨i,(List.mem_filter.1 hi).1,e⟩
  ·exact .inr h1
  ·exact .inl ⟨i,(List.mem_filter.1 (hpm.subset hi)).1,e⟩
 ·rintro(⟨i,hi,e⟩ | h1)
  ·cases ho:GH q ps now i with
   | true=>exact .inr (.inr ⟨i,hpm.symm.subset (List.mem_filter.2 ⟨hi,ho⟩),e⟩)
   | false=>exact .inl ⟨i,List.mem_filter.2 ⟨hi,by rw[ho];rfl⟩,e⟩
  ·exact .inr (.inl h1)
theorem DB {q:Ah}{ps:List Ab}{idx:List Int}(h:QI q ps idx)(now t:Int)(id:Ay):Cg (Ef q ps idx now t) id=Cg q id:=by
 unfold Ef
 split
 ·rename_i h1;exact MN h h1.2 id
 ·rfl
theorem Hu {q:Ah}{ps:List Ab}{idx:List Int}{now t:Int}{i:Int}(hi:i∈C2 q ps idx now t):i∈idx:=by
 unfold C2 at hi
 split at hi
 ·exact(List.mem_filter.1 hi).1
 ·exact hi
theorem U5 {q:Ah}{ps:List Ab}{idx:List Int}(h:QI q ps idx){i:Int}(hi:i∈idx){id:Ay}(hh:Cg (VC q ps i) id=true):Cg q id=true:=by
 rw[Ex (Ug h hi)] at hh;rw[Ex h];rcases List.mem_append.1 hh with h1 | h1
 ·obtain⟨j,hj,e⟩:=List.mem_map.1 h1;exact List.mem_append_left _ (List.mem_map.2 ⟨j,(List.mem_filter.1 hj).1,e⟩)
 ·exact List.mem_append_right _ h1
theorem TW {q:Ah}{ps:List Ab}{idx:List Int}(h:QI q ps idx){e:Ap}{t:Int}(h':QI (Oi q ps q.fDead e) (ps++[Hm e t q.fArrived]) (idx++[(ps.length:Int)]))(id:Ay):Cg (Oi q ps q.fDead e) id=(Cg q id||decide (e.fID=id)):=by
 rw[WA,WE,Ex h',Ex h,Wp];have hids:(idx++[(ps.length:Int)]).map (λi=>(Ac (ps++[Hm e t q.fArrived]) i).fEvent.fID)=idx.map (λi=>(Ac ps i).fEvent.fID)++[e.fID]:=by
  rw[Xe,WY,List.map_nil,IZ]
  congr 1
  exact List.map_congr_left λi hi=>by rw[Li (h.inr i hi)]
 rw[hids];show id∈_++q.fDead.map (·.fID)↔_;simp only[List.mem_append,WG];constructor
 ·rintro((h1 | h1) | h1)
  ·exact .inl (.inl h1)
  ·exact .inr h1.symm
  ·exact .inl (.inr h1)
 ·rintro((h1 | h1) | h1)
  ·exact .inl (.inl h1)
  ·exact .inr h1
  ·exact .inl (.inr h1.symm)
def Ql (q:Ah)(ps:List Ab)(idx:List Int)(e:Ap)(now d x:Int):List Int:=
 if O7 d=true then if Dl q now=0 then
  if x=0 then if Cg (B1 q ps idx now) e.fID=true then BA q ps idx now else if IQ (B1 q ps idx now)=true then BA q ps idx now else BA q ps idx now++[(ps.length:Int)]
  else BA q ps idx now else idx else idx
theorem Qk {q:Ah}{ps:List Ab}{idx:List Int}(h:QI q ps idx){e:Ap}(hs:CL e=true)(now d x:Int)(hid:x=0→Dg e.fID=true){n:Nat}(hb:QB n q ps) :
  QI (Gl q ps idx e now d x).2.1 (Gl q ps idx e now d x).2.2 (Ql q ps idx e now d x)∧QB (n+256) (Gl q ps idx e now d x).2.1 (Gl q ps idx e now d x).2.2∧(Gl q ps idx e now d x).2.1.fPolicy=q.fPolicy∧
   (((Gl q ps idx e now d x).1=0∧Cg q e.fID=false∧(∀id,Cg (Gl q ps idx e now d x).2.1 id=(Cg q id||decide (e.fID=id)))∧∀i∈Ql q ps idx e now d x,((Db (Gl q ps idx e now d x).2.2 i).fID=e.fID∧(Ac (Gl q ps idx e now d x).2.2 i).fReceives=0)∨(i∈idx∧Ac (Gl q ps idx e now d x).2.2 i=Ac ps i))∨
    ((Gl q ps idx e now d x).1≠0∧(∀id,Cg (Gl q ps idx e now d x).2.1 id=Cg q id)∧∀i∈Ql q ps idx e now d x,i∈idx∧Ac (Gl q ps idx e now d x).2.2 i=Ac ps i)):=by
 obtain⟨b1,b2,b3⟩:=hb;have hb':QB (n+256) q ps:=⟨b1,by omega,by omega⟩
 unfold Gl Ql
 by_cases ht:O7 d=true
 ·rw[W8 ht,W8 ht]
  by_cases ha:Dl q now=0
  ·rw[W8 ha,W8 ha];have hnw:=Co ha;have hq:=DX h ⟨hnw.1,hnw.2.1⟩;have hqb:QB (n+256) (B1 q ps idx now) ps:=hb';have hsub:∀i∈BA q ps idx now,i∈idx∧Ac ps i=Ac ps i:=λi hi=>⟨(List.mem_filter.1 hi).1,rfl⟩
   have hhas:=MN h ha
   by_cases hx0:x=0
   ·rw[W8 hx0,W8 hx0]
    by_cases hh:Cg (B1 q ps idx now) e.fID=true
    ·rw[W8 hh,W8 hh];exact⟨hq,hqb,rfl,.inr ⟨by simp,hhas,hsub⟩⟩
    ·rw[W6 hh,W6 hh]
     by_cases hf:IQ (B1 q ps idx now)=true
     ·rw[W8 hf,W8 hf];exact⟨hq,hqb,rfl,.inr ⟨by simp,hhas,hsub⟩⟩
     ·rw[W6 hf,W6 hf];have htd:0≤d∧d≤1073741824:=Xa ht;have hnot:e.fID ∉ (BA q ps idx now).map (λi=>(Ac ps i).fEvent.fID)++(B1 q ps idx now).fDead.map (·.fID):=λhm=>hh ((Ex hq e.fID).2 hm);have hfu : ¬ 256≤(B1 q ps idx now).fWaiting.length+(B1 q ps idx now).fDead.length:=by
       rw[Bool.not_eq_true] at hf;exact of_decide_eq_false hf
      have hw:=hq.wlen;have hnew:QI (Oi (B1 q ps idx now) ps (B1 q ps idx now).fDead e) (ps++[Hm e (now+d) q.fArrived]) (BA q ps idx now++[(ps.length:Int)]):=SJ hq (t:=now+d) ⟨(EQ hs).1,(EQ hs).2,hid hx0⟩ ⟨by omega,by omega⟩ (List.nodup_cons.2 ⟨hnot,hq.ids⟩) hq.smd (by omega);refine⟨hnew,⟨?_,?_,?_⟩,rfl,.inl ⟨rfl,?_,λid=>?_,λi hi=>?_⟩⟩
      ·show 0≤q.fArrived+1;omega
      ·show q.fArrived+1≤((n+256:Nat):Int);omega
      ·simp;omega
      ·rw[← hhas];simpa using hh
      ·have:=TW hq hnew id;rw[hhas] at this;exact this
      ·rcases List.mem_append.1 hi with h1 | h1
       ·exact .inr ⟨(List.mem_filter.1 h1).1,Li (hq.inr i h1)⟩
       ·rw[List.mem_singleton.1 h1]
        left
        show(Ac (ps++[Hm e (now+d) q.fArrived]) (ps.length:Int)).fEvent.fID=e.fID∧(Ac (ps++[Hm e (now+d) q.fArrived]) (ps.length:Int)).fReceives=0;rw[IZ];exact⟨rfl,rfl⟩
   ·rw[W6 hx0,W6 hx0];exact⟨hq,hqb,rfl,.inr ⟨hx0,hhas,hsub⟩⟩
  ·rw[W6 ha,W6 ha];exact⟨h,hb',rfl,.inr ⟨ha,λ_=>rfl,λi hi=>⟨hi,rfl⟩⟩⟩
 ·rw[W6 ht,W6 ht];exact⟨h,hb',rfl,.inr ⟨by simp,λ_=>rfl,λi hi=>⟨hi,rfl⟩⟩⟩
theorem Qu {F n:Nat}(hF:30000≤F){q:Ah}{ps:List Ab}{idx:List Int}(h:QI q ps idx){e:Ap}(hs:CL e=true)(ho:ST e)(now d:Int) :
  OE F (BC q ps idx) e now d=some ((Gl q ps idx e now d (Ge e)).1,BC (Gl q ps idx e now d (Ge e)).2.1 (Gl q ps idx e now d (Ge e)).2.2 (Ql q ps idx e now d (Ge e))):=by
 have hnow:=h.now;unfold OE Dp;rw[AK rfl,A0 (p:=!(BC q ps idx).fMade) rfl,I5,I5,Option.isSome_some,Option.isSome_some,Bk rfl,Bk (by unfold imp;simp),Dq,Dq];unfold Gl Ql
 cases ht:O7 d with
 | false=>
  rw[A5 (by simp),W6 (by simp),W6 (by simp)]
 | true=>
  rw[W8 rfl,W8 rfl]
  by_cases hnw:O7 now=true
  ·rw[hnw,A0 (by rfl),GY (by omega) h,AK rfl];simp only
   by_cases ha:Dl q now=0
   ·rw[W8 ha,W8 ha,W8 ha,A0 (by simp[ha])];have hn:=Co ha;have hq:=DX h ⟨hn.1,hn.2.1⟩;have hc:=hq.cnt;rw[N3 hF hs ho,AK rfl]
    by_cases hx:Ge e=0
    ·rw[W8 hx,W8 hx,A0 (by simp[hx]),RJ (by omega) hq,AK rfl]
     by_cases hh:Cg (B1 q ps idx now) e.fID=true
     ·rw[W8 hh,W8 hh,A5 hh]
     ·rw[W6 hh,W6 hh,A0 (by simpa using hh)];have hwl:(BC (B1 q ps idx now) ps (BA q ps idx now)).fWaiting.length=(BA q ps idx now).length:=D9 _ _;have hw:=hq.wlen;have hdl:(BC (B1 q ps idx now) ps (BA q ps idx now)).fDead=(B1 q ps idx now).fDead:=rfl;rw[hwl,hdl,AD (by omega) (by omega)];have hfu:decide ((((BA q ps idx now).length:Int)+((B1 q ps idx now).fDead.length:Int))=256)=IQ (B1 q ps idx now):=by
       unfold IQ;rw[WA];simp only[Wp];omega
      rw[hfu]
      by_cases hf:IQ (B1 q ps idx now)=true
      ·rw[W8 hf,W8 hf,A5 hf]
      ·have htd:0≤d∧d≤1073741824:=Xa ht;rw[W6 hf,W6 hf,A0 (by simpa using hf),AD (by omega) (by omega),Lh (by simp;omega)];unfold BC;have hws:CD (ps++[Hm e (now+d) q.fArrived]) (BA q ps idx now++[(ps.length:Int)])=CD ps (BA q ps idx now)++[⟨e,now+d,0,false⟩]:=by
        unfold CD;rw[Xe,WY,List.map_nil,IZ]
        congr 1
        exact List.map_congr_left λi hi=>by rw[Li (hq.inr i hi)]
       rw[hws];rfl
    ·rw[W6 hx,W6 hx,A5 (by simp[hx])]
   ·rw[W6 ha,W6 ha,W6 ha,A5 (by simp[ha])]
  ·have hE:Dl q now=2:=by
    unfold Dl;rw[W6 (λe=>hnw (Ws e))]
   rw[Bool.not_eq_true] at hnw;rw[hnw,A5 (by rfl),W6 (by rw[hE];decide),W6 (by rw[hE];decide),hE]
theorem Mm {t:Int}{ps:List Ab}{L:List Int}{k:Nat}(h:k<L.length):Ac (DR t ps L) (k:Int)=MC (EY (Ac ps L[k]) t):=by
 show Ac (L.map λi=>MC (EY (Ac ps i) t)) (k:Int)=_;rw[DI (by rw[W3];exact h),List.getElem_map]
theorem T2 {L idx:List Int}(hn:L.Nodup)(hi:idx.Nodup)(hs:∀i∈L,i∈idx):L.length≤idx.length:=by
 have h1:(idx.filter λi=>decide (i∈L)).Perm L:=(List.perm_ext_iff_of_nodup (hi.filter _) hn).2 λi=>by
  simp only[List.mem_filter,Wp];exact⟨λh=>h.2,λh=>⟨hs i h,h⟩⟩
 rw[← h1.length_eq];exact List.length_filter_le _ _
theorem Ns (t:Int)(ps:List Ab)(L:List Int):(DR t ps L).length=L.length:=by unfold DR;rw[W3]
theorem OB {l:List AT}(hb:Gm l=true):l.length≤300∧∀o∈l,IY o=false:=by
 unfold Gm at hb;simp only[Wu,W5,Wq,List.any_eq_false] at hb;exact⟨by omega,λo h=>by simpa using hb.2 o h⟩
end Go.Proofs.YthbbedliepkakaaGreatDoor
