/-
  Texts of the proof, put together: WUg, OkQueueCounts, LvA, LvB, LvC, LvD, LvE, LvF, LvG, LvH, LvI, LvJ, LvK, LvL, LvM, LvN, LvO, LvP, LuA, PN, PO, LuB, LuC, LuD, LuE, LuF, LuG, LuH, LuI, LuJ, LuK, LwQCounts.
-/
import Derived.Test.YthbbedliepkakaaGreatDoorQC3
import GoSem.ClaimData
namespace Go.Proofs.YthbbedliepkakaaGreatDoor.Q
open Go Go.RowKit
set_option linter.unusedVariables false
set_option linter.unusedSimpArgs false
set_option maxRecDepth 100000
set_option maxHeartbeats 4000000
theorem M3 (F:Nat)(p:AH)(l:(List AU))(now:Int)(r:Bool)(h:Gf F p l now=some r):Fn Tryz.prog GE 5 [Bx (Bq p),BO 11 (List.map Al l),rI .i64 now] [] (λR H=>R=rB r∧H=[]):=by
 refine enter (n:=183) Tryz.func5 Aa Tryz.ntmps5 Aa (λw Z=>?_);refine Bk (l':=[(0,Bx (Bq p)),(1,BO 11 (List.map Al l)),(2,rI .i64 now)]) (H':=[]) Aa Aa ?_;unfold Gf at h;refine Au (BK Aa Aa (λb1=>?_));refine wv (r:=rB false) (Aj Aa) (A5 (Ay (Au (wm Aa ?_))));obtain⟨r2,e4,h3⟩:=Bf h;refine In Tryz.call8 (M1 F l r2 e4) Aa (wv (C8 Aa) (A5 (A8 (b:=!r2) Aa (λc5=>?_) (λc5=>?_))))
 ·have h6:=AV c5 h3;refine Au ?_;obtain⟨r7,e9,h8⟩:=Bf h6;refine In Sq (Dv F r7 e9) Aa (wa Aa (A5 (A4 (Aq ?_))));obtain rfl:=AC h8;exact A6 (BZ Su (AX Aa)) (sS sN) ⟨Aa,Aa⟩
 ·have gG:=AW c5 h3;refine AA (Bi (Au (wv (Bz (i:=0) Tryz.isAgg23 Ox Aa Aa Aa Aa) (AE ((Hm p).isSome) (λga=>?_) (λga=>?_)))))
  ·have cc:=AV ga gG;obtain⟨ho,cd,ce⟩:=Bf cc;refine Ep (Hr:=[.blk b1 (Bq p) 23]) Tryz.call10 (MJ p ho cd) Aa (T2 _) Aa ?_;rintro _ _ ⟨hf,hd,hU,gb,rfl,rfl⟩;refine wm Aa (wv (AD Aa Aa) (wv (AD Aa Aa) (wa Aa (wa Aa (A5 (Ay (A7 [(1,BO 11 (List.map Al l)),(2,rI .i64 now),(7,rv (.pointer (some ⟨hf,0,none⟩))),(8,rI .i64 0),(31,rB false)] [.blk hf [rI .i64 ho.1.1.fPolicy.fVisible,rI .i64 ho.1.1.fPolicy.fReceives,rv (.map (some hd)),rv hU,rI .i64 ho.1.1.fNow,rI .i64 ho.1.1.fArrived] 61,.map hd (A3 (mP hd) ho.1.1.fWaiting),.row hU 33 7 (List.map Af ho.1.1.fDead),.pool hd gb 71 (List.map Ae ho.1.2)] ?_ ?_)))))))
   ·refine An (wm Aa (wv (EY Aa Aa) (wm Aa (AR (b:=!decide (0=0)) Aa Aa (Ir (by decide)) (wm Aa (AR (b:=!decide (0=0)) Aa Aa (Ir (by decide)) (wv (r:=rB false) (Pj ⟨_,Rx⟩ Aa) (wv (r:=rB false) (A1 (b:=!decide (0=0)) Aa (Ir (by decide)) Aa) (Ao ?_)))))))));exact wt
   refine Cv Aa Aa (AA (Bi (Au (wv (r:=rI .i64 0) (Aj Aa) (wv (r:=rI .i64 0) (Aj Aa) (A5 (Ay (Au (wm Aa (wv (C9 (ys:=l) (enc:=Al) Cm Aa) (wv (r:=rI .i64 0) (Aw Aa) (A5 (Ba (Ed (H2:=[.blk hf [rI .i64 ho.1.1.fPolicy.fVisible,rI .i64 ho.1.1.fPolicy.fReceives,rv (.map (some hd)),rv hU,rI .i64 ho.1.1.fNow,rI .i64 ho.1.1.fArrived] 61,.map hd (A3 (mP hd) ho.1.1.fWaiting),.pool hd gb 71 (List.map Ae ho.1.2),.row hU 33 7 (List.map Af ho.1.1.fDead)]) ((Ad (i:=0) Aa).trans (Tz _ ((Ad (i:=0) Aa).trans (Tz _ ((Ad (i:=1) Aa).trans (Tz _ (T2 _))))))) ?_))))))))))))));obtain⟨cf,cg,ch⟩:=Bf ce;refine Cc (S:=Nat×(Int×Int×Int×Int×Int×(List Av)×Int×Int×(List (A9×Int))×(List Ab))×(Value×Value)) (V:=(Int×Int×Int×Int×(List Av)×Int×Int×(List (A9×Int))×(List Ab))×(Value×Value)) 0 (λσ=>Cn (λσ=>BT F l σ.1 σ.2.1 σ.2.2.1 σ.2.2.2.1 σ.2.2.2.2.1 σ.2.2.2.2.2.1 σ.2.2.2.2.2.2.1 σ.2.2.2.2.2.2.2.1 σ.2.2.2.2.2.2.2.2.1 σ.2.2.2.2.2.2.2.2.2) σ.1 σ.2.1=some cf) (λσ=>[(1,BO 11 (List.map Al l)),(2,rI .i64 now),(7,rv (.pointer (some ⟨hf,0,none⟩))),(9,rI .i64 σ.2.1.1),(10,rI .i64 σ.2.1.2.1),(38,rI .i64 (l.length:Int)),(39,rI .i64 σ.2.1.2.2.1)]) (λσ=>[.blk hf [rI .i64 σ.2.1.2.2.2.1,rI .i64 σ.2.1.2.2.2.2.1,rv (.map (some hd)),rv σ.2.2.1,rI .i64 σ.2.1.2.2.2.2.2.2.1,rI .i64 σ.2.1.2.2.2.2.2.2.2.1] 61,.map hd (A3 (mP hd) σ.2.1.2.2.2.2.2.2.2.2.1),.pool hd σ.2.2.2 71 (List.map Ae σ.2.1.2.2.2.2.2.2.2.2.2),.row σ.2.2.1 33 7 (List.map Af σ.2.1.2.2.2.2.2.1)]) (λσ=>σ.1) (F,(0,0,0,ho.1.1.fPolicy.fVisible,ho.1.1.fPolicy.fReceives,ho.1.1.fDead,ho.1.1.fNow,ho.1.1.fArrived,ho.1.1.fWaiting,ho.1.2),(hU,gb)) cg (AN.c Aa (AN.c Aa (AN.c5 Aa Aa Aa Aa Aa AN.nil))) (sC (sC (sC (sC sN)))) (λσ=>Db F now σ.1.1 σ.1.2.1 σ.1.2.2.1 σ.1.2.2.2.1 σ.1.2.2.2.2.1 σ.1.2.2.2.2.2.1 σ.1.2.2.2.2.2.2.1 σ.1.2.2.2.2.2.2.2.1 σ.1.2.2.2.2.2.2.2.2=some r) (λσ=>[(2,rI .i64 now),(7,rv (.pointer (some ⟨hf,0,none⟩))),(9,rI .i64 σ.1.1),(10,rI .i64 σ.1.2.1)]) (λσ=>[.blk hf [rI .i64 σ.1.2.2.1,rI .i64 σ.1.2.2.2.1,rv (.map (some hd)),rv σ.2.1,rI .i64 σ.1.2.2.2.2.2.1,rI .i64 σ.1.2.2.2.2.2.2.1] 61,.map hd (A3 (mP hd) σ.1.2.2.2.2.2.2.2.1),.pool hd σ.2.2 71 (List.map Ae σ.1.2.2.2.2.2.2.2.2),.row σ.2.1 33 7 (List.map Af σ.1.2.2.2.2.1)]) ?_ ?_
   ·rintro⟨xp,⟨hl,hg,he,hL,hN,hO,hP,hQ,hR,hS⟩,⟨hJ,hV⟩⟩ ci;refine Bk (l':=[(1,BO 11 (List.map Al l)),(2,rI .i64 now),(7,rv (.pointer (some ⟨hf,0,none⟩))),(9,rI .i64 hl),(10,rI .i64 hg),(38,rI .i64 (l.length:Int)),(39,rI .i64 he)]) (H':=[.blk hf [rI .i64 hL,rI .i64 hN,rv (.map (some hd)),rv hJ,rI .i64 hP,rI .i64 hQ] 61,.map hd (A3 (mP hd) hR),.pool hd hV 71 (List.map Ae hS),.row hJ 33 7 (List.map Af hO)]) Aa Aa ?_;obtain⟨cj,rfl,gc,hW,gH⟩:=GJ ci;replace hW:BT F l hl hg he hL hN hO hP hQ hR hS=some gc:=hW;unfold BT at hW;refine Au (wv (Ea Aa Aa) (A5 (Ay (A8 (b:=decide (he<(l.length:Int))) Aa (λgd=>?_) (λgd=>?_)))))
    ·have ck:=AV gd hW;refine AA (Bi (DS (S:=(Int×Int×Int×Int×(List Av)×Int×Int×(List (A9×Int))×(List Ab))×(Value×Value)) (λσ=>AT he σ.1.1 σ.1.2.1 σ.1.2.2.1 σ.1.2.2.2.1 σ.1.2.2.2.2.1 σ.1.2.2.2.2.2.1 σ.1.2.2.2.2.2.2.1 σ.1.2.2.2.2.2.2.2.1 σ.1.2.2.2.2.2.2.2.2=some gc) (λσ=>[(1,BO 11 (List.map Al l)),(2,rI .i64 now),(7,rv (.pointer (some ⟨hf,0,none⟩))),(9,rI .i64 σ.1.1),(10,rI .i64 σ.1.2.1),(38,rI .i64 (l.length:Int)),(39,rI .i64 he)]) (λσ=>[.blk hf [rI .i64 σ.1.2.2.1,rI .i64 σ.1.2.2.2.1,rv (.map (some hd)),rv σ.2.1,rI .i64 σ.1.2.2.2.2.2.1,rI .i64 σ.1.2.2.2.2.2.2.1] 61,.map hd (A3 (mP hd) σ.1.2.2.2.2.2.2.2.1),.pool hd σ.2.2 71 (List.map Ae σ.1.2.2.2.2.2.2.2.2),.row σ.2.1 33 7 (List.map Af σ.1.2.2.2.2.1)]) ?_ ?_))
     ·refine Ba (Au (wm Aa (wa Aa (A5 (Ay (Au (wm Aa (wm Aa ?_))))))));obtain⟨hk,gI⟩:=AG ck;refine wv (Bn (enc:=Al) (ys:=l) Cm Cp Aa Aa hk) (wv (AB BH Aa B5 Aa Aa) (wv (Be B9 Aa Aa) (wv (Bw Aa Aa) (A5 (A8 (b:=decide (((Ac l he).fKind)=1)) Aa (λge=>?_) (λge=>?_))))))
      ·have cl:=AV ge gI;refine Km (H1:=[.blk hf [rI .i64 hL,rI .i64 hN,rv (.map (some hd)),rv hJ,rI .i64 hP,rI .i64 hQ] 61,.map hd (A3 (mP hd) hR),.pool hd hV 71 (List.map Ae hS),.row hJ 33 7 (List.map Af hO)]) 11 [1,2,7,9,10,11,38,39] [⟨[],rv (.pointer (some ⟨hf,0,none⟩)),0⟩,⟨[],BO 11 (List.map Al l),0⟩,⟨[],rI .i64 he,0⟩,⟨[1,2],Qz [rI .i64 ((Ac l he).fKind),rI .i64 ((Ac l he).fNow),rI .i64 ((Ac l he).fN),rS (((Ac l he).fEvent).fID),rS (((Ac l he).fEvent).fTenant),rS (((Ac l he).fEvent).fSource),rS (((Ac l he).fEvent).fKey),rI .i64 (((Ac l he).fEvent).fAt),rS (((Ac l he).fEvent).fCause),BO 4 (List.map Ap (((Ac l he).fEvent).fBody)),rS ((Ac l he).fReceipt)],0⟩,⟨[3],Qz [rI .i64 ((Ac l he).fNow),rI .i64 ((Ac l he).fN),rS (((Ac l he).fEvent).fID),rS (((Ac l he).fEvent).fTenant),rS (((Ac l he).fEvent).fSource),rS (((Ac l he).fEvent).fKey),rI .i64 (((Ac l he).fEvent).fAt),rS (((Ac l he).fEvent).fCause),BO 4 (List.map Ap (((Ac l he).fEvent).fBody)),rS ((Ac l he).fReceipt)],0⟩,⟨[4],rI .i64 ((Ac l he).fNow),0⟩,⟨[],BO 11 (List.map Al l),0⟩,⟨[],rI .i64 he,0⟩,⟨[6,7],Qz [rI .i64 ((Ac l he).fKind),rI .i64 ((Ac l he).fNow),rI .i64 ((Ac l he).fN),rS (((Ac l he).fEvent).fID),rS (((Ac l he).fEvent).fTenant),rS (((Ac l he).fEvent).fSource),rS (((Ac l he).fEvent).fKey),rI .i64 (((Ac l he).fEvent).fAt),rS (((Ac l he).fEvent).fCause),BO 4 (List.map Ap (((Ac l he).fEvent).fBody)),rS ((Ac l he).fReceipt)],0⟩,⟨[8],Qz [rI .i64 ((Ac l he).fN),rS (((Ac l he).fEvent).fID),rS (((Ac l he).fEvent).fTenant),rS (((Ac l he).fEvent).fSource),rS (((Ac l he).fEvent).fKey),rI .i64 (((Ac l he).fEvent).fAt),rS (((Ac l he).fEvent).fCause),BO 4 (List.map Ap (((Ac l he).fEvent).fBody)),rS ((Ac l he).fReceipt)],0⟩,⟨[9],rI .i64 ((Ac l he).fN),0⟩] (rle [(12,_)]) [48,49,50,51,52,53,54,55,56,57,58,1,2,7,9,10,11,38,39] ?_ ?_
       ·refine oq (Aw Aa) (oq (Aw Aa) (oq (Aw Aa) (oq (Bn (enc:=Al) (ys:=l) Cm Cp Aa Aa hk) (oq (AB BH Aa B5 Aa Aa) (oq (Be B9 Aa Aa) (oq (Aw Aa) (oq (Aw Aa) (oq (Bn (enc:=Al) (ys:=l) Cm Cp Aa Aa hk) (oq (AB BH Aa B5 Aa Aa) (oq (Be B9 Aa Aa) ?_))))))))));exact C0
       obtain⟨gf,cm,cn⟩:=Bf cl;refine Ep (Hr:=[]) Tryz.call11 (GO F hf hd hJ hV (Ah.mk (AH.mk hL hN) hR hO hP hQ) hS ((Ac l he).fNow) ((Ac l he).fN) gf cm) Aa ((Ad (i:=0) Aa).trans (Tz _ ((Ad (i:=0) Aa).trans (Tz _ ((Ad (i:=1) Aa).trans (Tz _ (T2 _))))))) Aa ?_;rintro _ _ ⟨co,cp,rfl,rfl⟩;refine BI (wm Aa (wm Aa (wm Aa (wv (Bn (enc:=Al) (ys:=l) Cm Cp Aa Aa hk) (wv (Gv Tryz.isAgg35 Cp Aa Aa Aa) ?_)))));obtain⟨ha,cq,gJ⟩:=Bf cn;refine Ep (Hr:=[]) Tryz.call12 (JU F hf hd co cp gf.2.1 gf.2.2 (AU.mk ((Ac l he).fKind) ((Ac l he).fNow) ((Ac l he).fN) ((Ac l he).fEvent) ((Ac l he).fReceipt)) ha cq) Aa (T2 _) Aa ?_;rintro _ _ ⟨hi,hm,rfl,rfl⟩;refine wm Aa (wv (AD Aa Aa) (wv (AD Aa Aa) (wa Aa (wa Aa (A5 (Ay (A7 [(1,BO 11 (List.map Al l)),(2,rI .i64 now),(7,rv (.pointer (some ⟨hf,0,none⟩))),(9,rI .i64 hl),(10,rI .i64 hg),(11,rI .i64 he),(13,rI .i64 ha.2.1),(38,rI .i64 (l.length:Int)),(39,rI .i64 he),(78,rB ((decide (ha.2.1=0))&&(decide (((Ac l he).fKind)=0))))] [.blk hf [rI .i64 ha.2.2.1.fPolicy.fVisible,rI .i64 ha.2.2.1.fPolicy.fReceives,rv (.map (some hd)),rv hi,rI .i64 ha.2.2.1.fNow,rI .i64 ha.2.2.1.fArrived] 61,.map hd (A3 (mP hd) ha.2.2.1.fWaiting),.row hi 33 7 (List.map Af ha.2.2.1.fDead),.pool hd hm 71 (List.map Ae ha.2.2.2)] ?_ ?_)))))))
       ·refine An (wm Aa (wv (Bw Aa Aa) (wm Aa (AE (decide (ha.2.1=0)) (λhq=>?_) (λhq=>?_)))))
        ·refine wo hq (wm Aa (wo hq (wm Aa (wo hq (wv (Bn (enc:=Al) (ys:=l) Cm Cp Aa Aa hk) (wo hq (wv (AB BH Aa B5 Aa Aa) (wo hq (wv (Be B9 Aa Aa) (wo hq (wv (Bw Aa Aa) (DB Aa hq Aa (Ao ?_)))))))))))));exact BA hq
        ·refine wf hq (wf hq (wf hq (wf hq (wf hq (wf hq (wv (r:=rB false) (A1 (b:=decide (ha.2.1=0)) Aa hq Aa) (Ao ?_)))))));exact BA hq
       refine A8 (b:=((decide (ha.2.1=0))&&(decide (((Ac l he).fKind)=0)))) Aa (λgg=>?_) (λgg=>?_)
       ·have cr:=AV gg gJ;refine An (wm Aa ?_);obtain⟨cs,gK⟩:=AG cr;refine wv (BL Aa Aa cs) (wa Aa (A5 (Ay (A7 [(1,BO 11 (List.map Al l)),(2,rI .i64 now),(7,rv (.pointer (some ⟨hf,0,none⟩))),(9,rI .i64 (hl+1)),(10,rI .i64 hg),(11,rI .i64 he),(38,rI .i64 (l.length:Int)),(39,rI .i64 he),(90,rB ((decide (ha.2.1=0))&&(decide (((Ac l he).fKind)=2))))] [.blk hf [rI .i64 ha.2.2.1.fPolicy.fVisible,rI .i64 ha.2.2.1.fPolicy.fReceives,rv (.map (some hd)),rv hi,rI .i64 ha.2.2.1.fNow,rI .i64 ha.2.2.1.fArrived] 61,.map hd (A3 (mP hd) ha.2.2.1.fWaiting),.row hi 33 7 (List.map Af ha.2.2.1.fDead),.pool hd hm 71 (List.map Ae ha.2.2.2)] ?_ ?_))))
        ·refine An (wm Aa (wv (Bw Aa Aa) (wm Aa (AE (decide (ha.2.1=0)) (λhr=>?_) (λhr=>?_)))))
         ·refine wo hr (wm Aa (wo hr (wm Aa (wo hr (wv (Bn (enc:=Al) (ys:=l) Cm Cp Aa Aa hk) (wo hr (wv (AB BH Aa B5 Aa Aa) (wo hr (wv (Be B9 Aa Aa) (wo hr (wv (Bw Aa Aa) (DB Aa hr Aa (Ao ?_)))))))))))));exact BA hr
         ·refine wf hr (wf hr (wf hr (wf hr (wf hr (wf hr (wv (r:=rB false) (A1 (b:=decide (ha.2.1=0)) Aa hr Aa) (Ao ?_)))))));exact BA hr
        refine A8 (b:=((decide (ha.2.1=0))&&(decide (((Ac l he).fKind)=2)))) Aa (λgh=>?_) (λgh=>?_)
        ·have ct:=AV gh gK;refine An (wm Aa ?_);obtain⟨cu,gL⟩:=AG ct;refine wv (EF Aa Aa cu) (wa Aa (A5 (A7 [(1,BO 11 (List.map Al l)),(2,rI .i64 now),(7,rv (.pointer (some ⟨hf,0,none⟩))),(9,rI .i64 ((hl+1)-1)),(10,rI .i64 hg),(11,rI .i64 he),(38,rI .i64 (l.length:Int)),(39,rI .i64 he),(107,rB ((decide (hg<((Ac l he).fNow)))&&(decide (((Ac l he).fNow)≤1073741824))))] [.blk hf [rI .i64 ha.2.2.1.fPolicy.fVisible,rI .i64 ha.2.2.1.fPolicy.fReceives,rv (.map (some hd)),rv hi,rI .i64 ha.2.2.1.fNow,rI .i64 ha.2.2.1.fArrived] 61,.map hd (A3 (mP hd) ha.2.2.1.fWaiting),.row hi 33 7 (List.map Af ha.2.2.1.fDead),.pool hd hm 71 (List.map Ae ha.2.2.2)] ?_ ?_)))
         ·refine An (wm Aa (wm Aa (wv (Bn (enc:=Al) (ys:=l) Cm Cp Aa Aa hk) (wv (AB BH Aa B5 Aa Aa) (wv (Be B9 Aa Aa) (wm Aa (wv (Ct Aa Aa) (wm Aa (AE (decide (hg<((Ac l he).fNow))) (λhs=>?_) (λhs=>?_))))))))))
          ·refine wo hs (wm Aa (wo hs (wm Aa (wo hs (wv (Bn (enc:=Al) (ys:=l) Cm Cp Aa Aa hk) (wo hs (wv (AB BH Aa B5 Aa Aa) (wo hs (wv (Be B9 Aa Aa) (wo hs (wv (DJ Aa Aa) (DB Aa hs Aa (Ao ?_)))))))))))));exact BA hs
          ·refine wf hs (wf hs (wf hs (wf hs (wf hs (wf hs (wv (r:=rB false) (A1 (b:=decide (hg<((Ac l he).fNow))) Aa hs Aa) (Ao ?_)))))));exact BA hs
         refine A8 (b:=((decide (hg<((Ac l he).fNow)))&&(decide (((Ac l he).fNow)≤1073741824)))) Aa (λgi=>?_) (λgi=>?_)
         ·have cv:=AV gi gL;exact An (wm Aa (wm Aa (wv (Bn (enc:=Al) (ys:=l) Cm Cp Aa Aa hk) (wv (AB BH Aa B5 Aa Aa) (wv (Be B9 Aa Aa) (wa Aa (Ao (AK (Bg (H2:=[.blk hf [rI .i64 ha.2.2.1.fPolicy.fVisible,rI .i64 ha.2.2.1.fPolicy.fReceives,rv (.map (some hd)),rv hi,rI .i64 ha.2.2.1.fNow,rI .i64 ha.2.2.1.fArrived] 61,.map hd (A3 (mP hd) ha.2.2.1.fWaiting),.pool hd hm 71 (List.map Ae ha.2.2.2),.row hi 33 7 (List.map Af ha.2.2.1.fDead)]) ((Ad (i:=0) Aa).trans (Tz _ ((Ad (i:=0) Aa).trans (Tz _ ((Ad (i:=1) Aa).trans (Tz _ (T2 _))))))) (Az (AP (((hl+1)-1,(Ac l he).fNow,ha.2.2.1.fPolicy.fVisible,ha.2.2.1.fPolicy.fReceives,ha.2.2.1.fDead,ha.2.2.1.fNow,ha.2.2.1.fArrived,ha.2.2.1.fWaiting,ha.2.2.2),(hi,hm)) cv (AN.c Aa (AN.c Aa (AN.c5 Aa Aa Aa Aa Aa AN.nil))) (sC (sC (sC (sC sN)))))))))))))))
         ·have cw:=AW gi gL;exact AA (AK (Bg (H2:=[.blk hf [rI .i64 ha.2.2.1.fPolicy.fVisible,rI .i64 ha.2.2.1.fPolicy.fReceives,rv (.map (some hd)),rv hi,rI .i64 ha.2.2.1.fNow,rI .i64 ha.2.2.1.fArrived] 61,.map hd (A3 (mP hd) ha.2.2.1.fWaiting),.pool hd hm 71 (List.map Ae ha.2.2.2),.row hi 33 7 (List.map Af ha.2.2.1.fDead)]) ((Ad (i:=0) Aa).trans (Tz _ ((Ad (i:=0) Aa).trans (Tz _ ((Ad (i:=1) Aa).trans (Tz _ (T2 _))))))) (Az (AP (((hl+1)-1,hg,ha.2.2.1.fPolicy.fVisible,ha.2.2.1.fPolicy.fReceives,ha.2.2.1.fDead,ha.2.2.1.fNow,ha.2.2.1.fArrived,ha.2.2.1.fWaiting,ha.2.2.2),(hi,hm)) cw (AN.c Aa (AN.c Aa (AN.c5 Aa Aa Aa Aa Aa AN.nil))) (sC (sC (sC (sC sN))))))))
        ·have gM:=AW gh gK;refine AA (Bi (A7 [(1,BO 11 (List.map Al l)),(2,rI .i64 now),(7,rv (.pointer (some ⟨hf,0,none⟩))),(9,rI .i64 (hl+1)),(10,rI .i64 hg),(11,rI .i64 he),(38,rI .i64 (l.length:Int)),(39,rI .i64 he),(107,rB ((decide (hg<((Ac l he).fNow)))&&(decide (((Ac l he).fNow)≤1073741824))))] [.blk hf [rI .i64 ha.2.2.1.fPolicy.fVisible,rI .i64 ha.2.2.1.fPolicy.fReceives,rv (.map (some hd)),rv hi,rI .i64 ha.2.2.1.fNow,rI .i64 ha.2.2.1.fArrived] 61,.map hd (A3 (mP hd) ha.2.2.1.fWaiting),.row hi 33 7 (List.map Af ha.2.2.1.fDead),.pool hd hm 71 (List.map Ae ha.2.2.2)] ?_ ?_))
         ·refine An (wm Aa (wm Aa (wv (Bn (enc:=Al) (ys:=l) Cm Cp Aa Aa hk) (wv (AB BH Aa B5 Aa Aa) (wv (Be B9 Aa Aa) (wm Aa (wv (Ct Aa Aa) (wm Aa (AE (decide (hg<((Ac l he).fNow))) (λht=>?_) (λht=>?_))))))))))
          ·refine wo ht (wm Aa (wo ht (wm Aa (wo ht (wv (Bn (enc:=Al) (ys:=l) Cm Cp Aa Aa hk) (wo ht (wv (AB BH Aa B5 Aa Aa) (wo ht (wv (Be B9 Aa Aa) (wo ht (wv (DJ Aa Aa) (DB Aa ht Aa (Ao ?_)))))))))))));exact BA ht
          ·refine wf ht (wf ht (wf ht (wf ht (wf ht (wf ht (wv (r:=rB false) (A1 (b:=decide (hg<((Ac l he).fNow))) Aa ht Aa) (Ao ?_)))))));exact BA ht
         refine A8 (b:=((decide (hg<((Ac l he).fNow)))&&(decide (((Ac l he).fNow)≤1073741824)))) Aa (λgj=>?_) (λgj=>?_)
         ·have cx:=AV gj gM;exact An (wm Aa (wm Aa (wv (Bn (enc:=Al) (ys:=l) Cm Cp Aa Aa hk) (wv (AB BH Aa B5 Aa Aa) (wv (Be B9 Aa Aa) (wa Aa (Ao (AK (Bg (H2:=[.blk hf [rI .i64 ha.2.2.1.fPolicy.fVisible,rI .i64 ha.2.2.1.fPolicy.fReceives,rv (.map (some hd)),rv hi,rI .i64 ha.2.2.1.fNow,rI .i64 ha.2.2.1.fArrived] 61,.map hd (A3 (mP hd) ha.2.2.1.fWaiting),.pool hd hm 71 (List.map Ae ha.2.2.2),.row hi 33 7 (List.map Af ha.2.2.1.fDead)]) ((Ad (i:=0) Aa).trans (Tz _ ((Ad (i:=0) Aa).trans (Tz _ ((Ad (i:=1) Aa).trans (Tz _ (T2 _))))))) (Az (AP ((hl+1,(Ac l he).fNow,ha.2.2.1.fPolicy.fVisible,ha.2.2.1.fPolicy.fReceives,ha.2.2.1.fDead,ha.2.2.1.fNow,ha.2.2.1.fArrived,ha.2.2.1.fWaiting,ha.2.2.2),(hi,hm)) cx (AN.c Aa (AN.c Aa (AN.c5 Aa Aa Aa Aa Aa AN.nil))) (sC (sC (sC (sC sN)))))))))))))))
         ·have cy:=AW gj gM;exact AA (AK (Bg (H2:=[.blk hf [rI .i64 ha.2.2.1.fPolicy.fVisible,rI .i64 ha.2.2.1.fPolicy.fReceives,rv (.map (some hd)),rv hi,rI .i64 ha.2.2.1.fNow,rI .i64 ha.2.2.1.fArrived] 61,.map hd (A3 (mP hd) ha.2.2.1.fWaiting),.pool hd hm 71 (List.map Ae ha.2.2.2),.row hi 33 7 (List.map Af ha.2.2.1.fDead)]) ((Ad (i:=0) Aa).trans (Tz _ ((Ad (i:=0) Aa).trans (Tz _ ((Ad (i:=1) Aa).trans (Tz _ (T2 _))))))) (Az (AP ((hl+1,hg,ha.2.2.1.fPolicy.fVisible,ha.2.2.1.fPolicy.fReceives,ha.2.2.1.fDead,ha.2.2.1.fNow,ha.2.2.1.fArrived,ha.2.2.1.fWaiting,ha.2.2.2),(hi,hm)) cy (AN.c Aa (AN.c Aa (AN.c5 Aa Aa Aa Aa Aa AN.nil))) (sC (sC (sC (sC sN))))))))
       ·have gN:=AW gg gJ;refine AA (Bi (Ay (A7 [(1,BO 11 (List.map Al l)),(2,rI .i64 now),(7,rv (.pointer (some ⟨hf,0,none⟩))),(9,rI .i64 hl),(10,rI .i64 hg),(11,rI .i64 he),(38,rI .i64 (l.length:Int)),(39,rI .i64 he),(90,rB ((decide (ha.2.1=0))&&(decide (((Ac l he).fKind)=2))))] [.blk hf [rI .i64 ha.2.2.1.fPolicy.fVisible,rI .i64 ha.2.2.1.fPolicy.fReceives,rv (.map (some hd)),rv hi,rI .i64 ha.2.2.1.fNow,rI .i64 ha.2.2.1.fArrived] 61,.map hd (A3 (mP hd) ha.2.2.1.fWaiting),.row hi 33 7 (List.map Af ha.2.2.1.fDead),.pool hd hm 71 (List.map Ae ha.2.2.2)] ?_ ?_)))
        ·refine An (wm Aa (wv (Bw Aa Aa) (wm Aa (AE (decide (ha.2.1=0)) (λhu=>?_) (λhu=>?_)))))
         ·refine wo hu (wm Aa (wo hu (wm Aa (wo hu (wv (Bn (enc:=Al) (ys:=l) Cm Cp Aa Aa hk) (wo hu (wv (AB BH Aa B5 Aa Aa) (wo hu (wv (Be B9 Aa Aa) (wo hu (wv (Bw Aa Aa) (DB Aa hu Aa (Ao ?_)))))))))))));exact BA hu
         ·refine wf hu (wf hu (wf hu (wf hu (wf hu (wf hu (wv (r:=rB false) (A1 (b:=decide (ha.2.1=0)) Aa hu Aa) (Ao ?_)))))));exact BA hu
        refine A8 (b:=((decide (ha.2.1=0))&&(decide (((Ac l he).fKind)=2)))) Aa (λgl=>?_) (λgl=>?_)
        ·have cz:=AV gl gN;refine An (wm Aa ?_);obtain⟨c0,gO⟩:=AG cz;refine wv (EF Aa Aa c0) (wa Aa (A5 (A7 [(1,BO 11 (List.map Al l)),(2,rI .i64 now),(7,rv (.pointer (some ⟨hf,0,none⟩))),(9,rI .i64 (hl-1)),(10,rI .i64 hg),(11,rI .i64 he),(38,rI .i64 (l.length:Int)),(39,rI .i64 he),(107,rB ((decide (hg<((Ac l he).fNow)))&&(decide (((Ac l he).fNow)≤1073741824))))] [.blk hf [rI .i64 ha.2.2.1.fPolicy.fVisible,rI .i64 ha.2.2.1.fPolicy.fReceives,rv (.map (some hd)),rv hi,rI .i64 ha.2.2.1.fNow,rI .i64 ha.2.2.1.fArrived] 61,.map hd (A3 (mP hd) ha.2.2.1.fWaiting),.row hi 33 7 (List.map Af ha.2.2.1.fDead),.pool hd hm 71 (List.map Ae ha.2.2.2)] ?_ ?_)))
         ·refine An (wm Aa (wm Aa (wv (Bn (enc:=Al) (ys:=l) Cm Cp Aa Aa hk) (wv (AB BH Aa B5 Aa Aa) (wv (Be B9 Aa Aa) (wm Aa (wv (Ct Aa Aa) (wm Aa (AE (decide (hg<((Ac l he).fNow))) (λhw=>?_) (λhw=>?_))))))))))
          ·refine wo hw (wm Aa (wo hw (wm Aa (wo hw (wv (Bn (enc:=Al) (ys:=l) Cm Cp Aa Aa hk) (wo hw (wv (AB BH Aa B5 Aa Aa) (wo hw (wv (Be B9 Aa Aa) (wo hw (wv (DJ Aa Aa) (DB Aa hw Aa (Ao ?_)))))))))))));exact BA hw
          ·refine wf hw (wf hw (wf hw (wf hw (wf hw (wf hw (wv (r:=rB false) (A1 (b:=decide (hg<((Ac l he).fNow))) Aa hw Aa) (Ao ?_)))))));exact BA hw
         refine A8 (b:=((decide (hg<((Ac l he).fNow)))&&(decide (((Ac l he).fNow)≤1073741824)))) Aa (λgm=>?_) (λgm=>?_)
         ·have c1:=AV gm gO;exact An (wm Aa (wm Aa (wv (Bn (enc:=Al) (ys:=l) Cm Cp Aa Aa hk) (wv (AB BH Aa B5 Aa Aa) (wv (Be B9 Aa Aa) (wa Aa (Ao (AK (Bg (H2:=[.blk hf [rI .i64 ha.2.2.1.fPolicy.fVisible,rI .i64 ha.2.2.1.fPolicy.fReceives,rv (.map (some hd)),rv hi,rI .i64 ha.2.2.1.fNow,rI .i64 ha.2.2.1.fArrived] 61,.map hd (A3 (mP hd) ha.2.2.1.fWaiting),.pool hd hm 71 (List.map Ae ha.2.2.2),.row hi 33 7 (List.map Af ha.2.2.1.fDead)]) ((Ad (i:=0) Aa).trans (Tz _ ((Ad (i:=0) Aa).trans (Tz _ ((Ad (i:=1) Aa).trans (Tz _ (T2 _))))))) (Az (AP ((hl-1,(Ac l he).fNow,ha.2.2.1.fPolicy.fVisible,ha.2.2.1.fPolicy.fReceives,ha.2.2.1.fDead,ha.2.2.1.fNow,ha.2.2.1.fArrived,ha.2.2.1.fWaiting,ha.2.2.2),(hi,hm)) c1 (AN.c Aa (AN.c Aa (AN.c5 Aa Aa Aa Aa Aa AN.nil))) (sC (sC (sC (sC sN)))))))))))))))
         ·have c2:=AW gm gO;exact AA (AK (Bg (H2:=[.blk hf [rI .i64 ha.2.2.1.fPolicy.fVisible,rI .i64 ha.2.2.1.fPolicy.fReceives,rv (.map (some hd)),rv hi,rI .i64 ha.2.2.1.fNow,rI .i64 ha.2.2.1.fArrived] 61,.map hd (A3 (mP hd) ha.2.2.1.fWaiting),.pool hd hm 71 (List.map Ae ha.2.2.2),.row hi 33 7 (List.map Af ha.2.2.1.fDead)]) ((Ad (i:=0) Aa).trans (Tz _ ((Ad (i:=0) Aa).trans (Tz _ ((Ad (i:=1) Aa).trans (Tz _ (T2 _))))))) (Az (AP ((hl-1,hg,ha.2.2.1.fPolicy.fVisible,ha.2.2.1.fPolicy.fReceives,ha.2.2.1.fDead,ha.2.2.1.fNow,ha.2.2.1.fArrived,ha.2.2.1.fWaiting,ha.2.2.2),(hi,hm)) c2 (AN.c Aa (AN.c Aa (AN.c5 Aa Aa Aa Aa Aa AN.nil))) (sC (sC (sC (sC sN))))))))
        ·have gP:=AW gl gN;refine AA (Bi (A7 [(1,BO 11 (List.map Al l)),(2,rI .i64 now),(7,rv (.pointer (some ⟨hf,0,none⟩))),(9,rI .i64 hl),(10,rI .i64 hg),(11,rI .i64 he),(38,rI .i64 (l.length:Int)),(39,rI .i64 he),(107,rB ((decide (hg<((Ac l he).fNow)))&&(decide (((Ac l he).fNow)≤1073741824))))] [.blk hf [rI .i64 ha.2.2.1.fPolicy.fVisible,rI .i64 ha.2.2.1.fPolicy.fReceives,rv (.map (some hd)),rv hi,rI .i64 ha.2.2.1.fNow,rI .i64 ha.2.2.1.fArrived] 61,.map hd (A3 (mP hd) ha.2.2.1.fWaiting),.row hi 33 7 (List.map Af ha.2.2.1.fDead),.pool hd hm 71 (List.map Ae ha.2.2.2)] ?_ ?_))
         ·refine An (wm Aa (wm Aa (wv (Bn (enc:=Al) (ys:=l) Cm Cp Aa Aa hk) (wv (AB BH Aa B5 Aa Aa) (wv (Be B9 Aa Aa) (wm Aa (wv (Ct Aa Aa) (wm Aa (AE (decide (hg<((Ac l he).fNow))) (λhx=>?_) (λhx=>?_))))))))))
          ·refine wo hx (wm Aa (wo hx (wm Aa (wo hx (wv (Bn (enc:=Al) (ys:=l) Cm Cp Aa Aa hk) (wo hx (wv (AB BH Aa B5 Aa Aa) (wo hx (wv (Be B9 Aa Aa) (wo hx (wv (DJ Aa Aa) (DB Aa hx Aa (Ao ?_)))))))))))));exact BA hx
          ·refine wf hx (wf hx (wf hx (wf hx (wf hx (wf hx (wv (r:=rB false) (A1 (b:=decide (hg<((Ac l he).fNow))) Aa hx Aa) (Ao ?_)))))));exact BA hx
         refine A8 (b:=((decide (hg<((Ac l he).fNow)))&&(decide (((Ac l he).fNow)≤1073741824)))) Aa (λgp=>?_) (λgp=>?_)
         ·have c3:=AV gp gP;exact An (wm Aa (wm Aa (wv (Bn (enc:=Al) (ys:=l) Cm Cp Aa Aa hk) (wv (AB BH Aa B5 Aa Aa) (wv (Be B9 Aa Aa) (wa Aa (Ao (AK (Bg (H2:=[.blk hf [rI .i64 ha.2.2.1.fPolicy.fVisible,rI .i64 ha.2.2.1.fPolicy.fReceives,rv (.map (some hd)),rv hi,rI .i64 ha.2.2.1.fNow,rI .i64 ha.2.2.1.fArrived] 61,.map hd (A3 (mP hd) ha.2.2.1.fWaiting),.pool hd hm 71 (List.map Ae ha.2.2.2),.row hi 33 7 (List.map Af ha.2.2.1.fDead)]) ((Ad (i:=0) Aa).trans (Tz _ ((Ad (i:=0) Aa).trans (Tz _ ((Ad (i:=1) Aa).trans (Tz _ (T2 _))))))) (Az (AP ((hl,(Ac l he).fNow,ha.2.2.1.fPolicy.fVisible,ha.2.2.1.fPolicy.fReceives,ha.2.2.1.fDead,ha.2.2.1.fNow,ha.2.2.1.fArrived,ha.2.2.1.fWaiting,ha.2.2.2),(hi,hm)) c3 (AN.c Aa (AN.c Aa (AN.c5 Aa Aa Aa Aa Aa AN.nil))) (sC (sC (sC (sC sN)))))))))))))))
         ·have c4:=AW gp gP;exact AA (AK (Bg (H2:=[.blk hf [rI .i64 ha.2.2.1.fPolicy.fVisible,rI .i64 ha.2.2.1.fPolicy.fReceives,rv (.map (some hd)),rv hi,rI .i64 ha.2.2.1.fNow,rI .i64 ha.2.2.1.fArrived] 61,.map hd (A3 (mP hd) ha.2.2.1.fWaiting),.pool hd hm 71 (List.map Ae ha.2.2.2),.row hi 33 7 (List.map Af ha.2.2.1.fDead)]) ((Ad (i:=0) Aa).trans (Tz _ ((Ad (i:=0) Aa).trans (Tz _ ((Ad (i:=1) Aa).trans (Tz _ (T2 _))))))) (Az (AP ((hl,hg,ha.2.2.1.fPolicy.fVisible,ha.2.2.1.fPolicy.fReceives,ha.2.2.1.fDead,ha.2.2.1.fNow,ha.2.2.1.fArrived,ha.2.2.1.fWaiting,ha.2.2.2),(hi,hm)) c4 (AN.c Aa (AN.c Aa (AN.c5 Aa Aa Aa Aa Aa AN.nil))) (sC (sC (sC (sC sN))))))))
      ·have c6:=AW ge gI;refine AA (Bi (Au (wm Aa (wm Aa (wm Aa (wv (Bn (enc:=Al) (ys:=l) Cm Cp Aa Aa hk) (wv (Gv Tryz.isAgg35 Cp Aa Aa Aa) ?_)))))));obtain⟨hb,c7,gQ⟩:=Bf c6;refine Ep (Hr:=[]) Tryz.call12 (JU F hf hd hJ hV (Ah.mk (AH.mk hL hN) hR hO hP hQ) hS (AU.mk ((Ac l he).fKind) ((Ac l he).fNow) ((Ac l he).fN) ((Ac l he).fEvent) ((Ac l he).fReceipt)) hb c7) Aa ((Ad (i:=0) Aa).trans (Tz _ ((Ad (i:=0) Aa).trans (Tz _ ((Ad (i:=1) Aa).trans (Tz _ (T2 _))))))) Aa ?_;rintro _ _ ⟨hj,hn,rfl,rfl⟩;refine wm Aa (wv (AD Aa Aa) (wv (AD Aa Aa) (wa Aa (wa Aa (A5 (Ay (A7 [(1,BO 11 (List.map Al l)),(2,rI .i64 now),(7,rv (.pointer (some ⟨hf,0,none⟩))),(9,rI .i64 hl),(10,rI .i64 hg),(11,rI .i64 he),(13,rI .i64 hb.2.1),(38,rI .i64 (l.length:Int)),(39,rI .i64 he),(78,rB ((decide (hb.2.1=0))&&(decide (((Ac l he).fKind)=0))))] [.blk hf [rI .i64 hb.2.2.1.fPolicy.fVisible,rI .i64 hb.2.2.1.fPolicy.fReceives,rv (.map (some hd)),rv hj,rI .i64 hb.2.2.1.fNow,rI .i64 hb.2.2.1.fArrived] 61,.map hd (A3 (mP hd) hb.2.2.1.fWaiting),.row hj 33 7 (List.map Af hb.2.2.1.fDead),.pool hd hn 71 (List.map Ae hb.2.2.2)] ?_ ?_)))))))
       ·refine An (wm Aa (wv (Bw Aa Aa) (wm Aa (AE (decide (hb.2.1=0)) (λhy=>?_) (λhy=>?_)))))
        ·refine wo hy (wm Aa (wo hy (wm Aa (wo hy (wv (Bn (enc:=Al) (ys:=l) Cm Cp Aa Aa hk) (wo hy (wv (AB BH Aa B5 Aa Aa) (wo hy (wv (Be B9 Aa Aa) (wo hy (wv (Bw Aa Aa) (DB Aa hy Aa (Ao ?_)))))))))))));exact BA hy
        ·refine wf hy (wf hy (wf hy (wf hy (wf hy (wf hy (wv (r:=rB false) (A1 (b:=decide (hb.2.1=0)) Aa hy Aa) (Ao ?_)))))));exact BA hy
       refine A8 (b:=((decide (hb.2.1=0))&&(decide (((Ac l he).fKind)=0)))) Aa (λgq=>?_) (λgq=>?_)
       ·have c8:=AV gq gQ;refine An (wm Aa ?_);obtain⟨c9,gR⟩:=AG c8;refine wv (BL Aa Aa c9) (wa Aa (A5 (Ay (A7 [(1,BO 11 (List.map Al l)),(2,rI .i64 now),(7,rv (.pointer (some ⟨hf,0,none⟩))),(9,rI .i64 (hl+1)),(10,rI .i64 hg),(11,rI .i64 he),(38,rI .i64 (l.length:Int)),(39,rI .i64 he),(90,rB ((decide (hb.2.1=0))&&(decide (((Ac l he).fKind)=2))))] [.blk hf [rI .i64 hb.2.2.1.fPolicy.fVisible,rI .i64 hb.2.2.1.fPolicy.fReceives,rv (.map (some hd)),rv hj,rI .i64 hb.2.2.1.fNow,rI .i64 hb.2.2.1.fArrived] 61,.map hd (A3 (mP hd) hb.2.2.1.fWaiting),.row hj 33 7 (List.map Af hb.2.2.1.fDead),.pool hd hn 71 (List.map Ae hb.2.2.2)] ?_ ?_))))
        ·refine An (wm Aa (wv (Bw Aa Aa) (wm Aa (AE (decide (hb.2.1=0)) (λhz=>?_) (λhz=>?_)))))
         ·refine wo hz (wm Aa (wo hz (wm Aa (wo hz (wv (Bn (enc:=Al) (ys:=l) Cm Cp Aa Aa hk) (wo hz (wv (AB BH Aa B5 Aa Aa) (wo hz (wv (Be B9 Aa Aa) (wo hz (wv (Bw Aa Aa) (DB Aa hz Aa (Ao ?_)))))))))))));exact BA hz
         ·refine wf hz (wf hz (wf hz (wf hz (wf hz (wf hz (wv (r:=rB false) (A1 (b:=decide (hb.2.1=0)) Aa hz Aa) (Ao ?_)))))));exact BA hz
        refine A8 (b:=((decide (hb.2.1=0))&&(decide (((Ac l he).fKind)=2)))) Aa (λgr=>?_) (λgr=>?_)
        ·have cA:=AV gr gR;refine An (wm Aa ?_);obtain⟨cB,gS⟩:=AG cA;refine wv (EF Aa Aa cB) (wa Aa (A5 (A7 [(1,BO 11 (List.map Al l)),(2,rI .i64 now),(7,rv (.pointer (some ⟨hf,0,none⟩))),(9,rI .i64 ((hl+1)-1)),(10,rI .i64 hg),(11,rI .i64 he),(38,rI .i64 (l.length:Int)),(39,rI .i64 he),(107,rB ((decide (hg<((Ac l he).fNow)))&&(decide (((Ac l he).fNow)≤1073741824))))] [.blk hf [rI .i64 hb.2.2.1.fPolicy.fVisible,rI .i64 hb.2.2.1.fPolicy.fReceives,rv (.map (some hd)),rv hj,rI .i64 hb.2.2.1.fNow,rI .i64 hb.2.2.1.fArrived] 61,.map hd (A3 (mP hd) hb.2.2.1.fWaiting),.row hj 33 7 (List.map Af hb.2.2.1.fDead),.pool hd hn 71 (List.map Ae hb.2.2.2)] ?_ ?_)))
         ·refine An (wm Aa (wm Aa (wv (Bn (enc:=Al) (ys:=l) Cm Cp Aa Aa hk) (wv (AB BH Aa B5 Aa Aa) (wv (Be B9 Aa Aa) (wm Aa (wv (Ct Aa Aa) (wm Aa (AE (decide (hg<((Ac l he).fNow))) (λh0=>?_) (λh0=>?_))))))))))
          ·refine wo h0 (wm Aa (wo h0 (wm Aa (wo h0 (wv (Bn (enc:=Al) (ys:=l) Cm Cp Aa Aa hk) (wo h0 (wv (AB BH Aa B5 Aa Aa) (wo h0 (wv (Be B9 Aa Aa) (wo h0 (wv (DJ Aa Aa) (DB Aa h0 Aa (Ao ?_)))))))))))));exact BA h0
          ·refine wf h0 (wf h0 (wf h0 (wf h0 (wf h0 (wf h0 (wv (r:=rB false) (A1 (b:=decide (hg<((Ac l he).fNow))) Aa h0 Aa) (Ao ?_)))))));exact BA h0
         refine A8 (b:=((decide (hg<((Ac l he).fNow)))&&(decide (((Ac l he).fNow)≤1073741824)))) Aa (λgs=>?_) (λgs=>?_)
         ·have cC:=AV gs gS;exact An (wm Aa (wm Aa (wv (Bn (enc:=Al) (ys:=l) Cm Cp Aa Aa hk) (wv (AB BH Aa B5 Aa Aa) (wv (Be B9 Aa Aa) (wa Aa (Ao (AK (Bg (H2:=[.blk hf [rI .i64 hb.2.2.1.fPolicy.fVisible,rI .i64 hb.2.2.1.fPolicy.fReceives,rv (.map (some hd)),rv hj,rI .i64 hb.2.2.1.fNow,rI .i64 hb.2.2.1.fArrived] 61,.map hd (A3 (mP hd) hb.2.2.1.fWaiting),.pool hd hn 71 (List.map Ae hb.2.2.2),.row hj 33 7 (List.map Af hb.2.2.1.fDead)]) ((Ad (i:=0) Aa).trans (Tz _ ((Ad (i:=0) Aa).trans (Tz _ ((Ad (i:=1) Aa).trans (Tz _ (T2 _))))))) (Az (AP (((hl+1)-1,(Ac l he).fNow,hb.2.2.1.fPolicy.fVisible,hb.2.2.1.fPolicy.fReceives,hb.2.2.1.fDead,hb.2.2.1.fNow,hb.2.2.1.fArrived,hb.2.2.1.fWaiting,hb.2.2.2),(hj,hn)) cC (AN.c Aa (AN.c Aa (AN.c5 Aa Aa Aa Aa Aa AN.nil))) (sC (sC (sC (sC sN)))))))))))))))
         ·have cD:=AW gs gS;exact AA (AK (Bg (H2:=[.blk hf [rI .i64 hb.2.2.1.fPolicy.fVisible,rI .i64 hb.2.2.1.fPolicy.fReceives,rv (.map (some hd)),rv hj,rI .i64 hb.2.2.1.fNow,rI .i64 hb.2.2.1.fArrived] 61,.map hd (A3 (mP hd) hb.2.2.1.fWaiting),.pool hd hn 71 (List.map Ae hb.2.2.2),.row hj 33 7 (List.map Af hb.2.2.1.fDead)]) ((Ad (i:=0) Aa).trans (Tz _ ((Ad (i:=0) Aa).trans (Tz _ ((Ad (i:=1) Aa).trans (Tz _ (T2 _))))))) (Az (AP (((hl+1)-1,hg,hb.2.2.1.fPolicy.fVisible,hb.2.2.1.fPolicy.fReceives,hb.2.2.1.fDead,hb.2.2.1.fNow,hb.2.2.1.fArrived,hb.2.2.1.fWaiting,hb.2.2.2),(hj,hn)) cD (AN.c Aa (AN.c Aa (AN.c5 Aa Aa Aa Aa Aa AN.nil))) (sC (sC (sC (sC sN))))))))
        ·have gT:=AW gr gR;refine AA (Bi (A7 [(1,BO 11 (List.map Al l)),(2,rI .i64 now),(7,rv (.pointer (some ⟨hf,0,none⟩))),(9,rI .i64 (hl+1)),(10,rI .i64 hg),(11,rI .i64 he),(38,rI .i64 (l.length:Int)),(39,rI .i64 he),(107,rB ((decide (hg<((Ac l he).fNow)))&&(decide (((Ac l he).fNow)≤1073741824))))] [.blk hf [rI .i64 hb.2.2.1.fPolicy.fVisible,rI .i64 hb.2.2.1.fPolicy.fReceives,rv (.map (some hd)),rv hj,rI .i64 hb.2.2.1.fNow,rI .i64 hb.2.2.1.fArrived] 61,.map hd (A3 (mP hd) hb.2.2.1.fWaiting),.row hj 33 7 (List.map Af hb.2.2.1.fDead),.pool hd hn 71 (List.map Ae hb.2.2.2)] ?_ ?_))
         ·refine An (wm Aa (wm Aa (wv (Bn (enc:=Al) (ys:=l) Cm Cp Aa Aa hk) (wv (AB BH Aa B5 Aa Aa) (wv (Be B9 Aa Aa) (wm Aa (wv (Ct Aa Aa) (wm Aa (AE (decide (hg<((Ac l he).fNow))) (λh1=>?_) (λh1=>?_))))))))))
          ·refine wo h1 (wm Aa (wo h1 (wm Aa (wo h1 (wv (Bn (enc:=Al) (ys:=l) Cm Cp Aa Aa hk) (wo h1 (wv (AB BH Aa B5 Aa Aa) (wo h1 (wv (Be B9 Aa Aa) (wo h1 (wv (DJ Aa Aa) (DB Aa h1 Aa (Ao ?_)))))))))))));exact BA h1
          ·refine wf h1 (wf h1 (wf h1 (wf h1 (wf h1 (wf h1 (wv (r:=rB false) (A1 (b:=decide (hg<((Ac l he).fNow))) Aa h1 Aa) (Ao ?_)))))));exact BA h1
         refine A8 (b:=((decide (hg<((Ac l he).fNow)))&&(decide (((Ac l he).fNow)≤1073741824)))) Aa (λgt=>?_) (λgt=>?_)
         ·have cE:=AV gt gT;exact An (wm Aa (wm Aa (wv (Bn (enc:=Al) (ys:=l) Cm Cp Aa Aa hk) (wv (AB BH Aa B5 Aa Aa) (wv (Be B9 Aa Aa) (wa Aa (Ao (AK (Bg (H2:=[.blk hf [rI .i64 hb.2.2.1.fPolicy.fVisible,rI .i64 hb.2.2.1.fPolicy.fReceives,rv (.map (some hd)),rv hj,rI .i64 hb.2.2.1.fNow,rI .i64 hb.2.2.1.fArrived] 61,.map hd (A3 (mP hd) hb.2.2.1.fWaiting),.pool hd hn 71 (List.map Ae hb.2.2.2),.row hj 33 7 (List.map Af hb.2.2.1.fDead)]) ((Ad (i:=0) Aa).trans (Tz _ ((Ad (i:=0) Aa).trans (Tz _ ((Ad (i:=1) Aa).trans (Tz _ (T2 _))))))) (Az (AP ((hl+1,(Ac l he).fNow,hb.2.2.1.fPolicy.fVisible,hb.2.2.1.fPolicy.fReceives,hb.2.2.1.fDead,hb.2.2.1.fNow,hb.2.2.1.fArrived,hb.2.2.1.fWaiting,hb.2.2.2),(hj,hn)) cE (AN.c Aa (AN.c Aa (AN.c5 Aa Aa Aa Aa Aa AN.nil))) (sC (sC (sC (sC sN)))))))))))))))
         ·have cF:=AW gt gT;exact AA (AK (Bg (H2:=[.blk hf [rI .i64 hb.2.2.1.fPolicy.fVisible,rI .i64 hb.2.2.1.fPolicy.fReceives,rv (.map (some hd)),rv hj,rI .i64 hb.2.2.1.fNow,rI .i64 hb.2.2.1.fArrived] 61,.map hd (A3 (mP hd) hb.2.2.1.fWaiting),.pool hd hn 71 (List.map Ae hb.2.2.2),.row hj 33 7 (List.map Af hb.2.2.1.fDead)]) ((Ad (i:=0) Aa).trans (Tz _ ((Ad (i:=0) Aa).trans (Tz _ ((Ad (i:=1) Aa).trans (Tz _ (T2 _))))))) (Az (AP ((hl+1,hg,hb.2.2.1.fPolicy.fVisible,hb.2.2.1.fPolicy.fReceives,hb.2.2.1.fDead,hb.2.2.1.fNow,hb.2.2.1.fArrived,hb.2.2.1.fWaiting,hb.2.2.2),(hj,hn)) cF (AN.c Aa (AN.c Aa (AN.c5 Aa Aa Aa Aa Aa AN.nil))) (sC (sC (sC (sC sN))))))))
       ·have gU:=AW gq gQ;refine AA (Bi (Ay (A7 [(1,BO 11 (List.map Al l)),(2,rI .i64 now),(7,rv (.pointer (some ⟨hf,0,none⟩))),(9,rI .i64 hl),(10,rI .i64 hg),(11,rI .i64 he),(38,rI .i64 (l.length:Int)),(39,rI .i64 he),(90,rB ((decide (hb.2.1=0))&&(decide (((Ac l he).fKind)=2))))] [.blk hf [rI .i64 hb.2.2.1.fPolicy.fVisible,rI .i64 hb.2.2.1.fPolicy.fReceives,rv (.map (some hd)),rv hj,rI .i64 hb.2.2.1.fNow,rI .i64 hb.2.2.1.fArrived] 61,.map hd (A3 (mP hd) hb.2.2.1.fWaiting),.row hj 33 7 (List.map Af hb.2.2.1.fDead),.pool hd hn 71 (List.map Ae hb.2.2.2)] ?_ ?_)))
        ·refine An (wm Aa (wv (Bw Aa Aa) (wm Aa (AE (decide (hb.2.1=0)) (λh2=>?_) (λh2=>?_)))))
         ·refine wo h2 (wm Aa (wo h2 (wm Aa (wo h2 (wv (Bn (enc:=Al) (ys:=l) Cm Cp Aa Aa hk) (wo h2 (wv (AB BH Aa B5 Aa Aa) (wo h2 (wv (Be B9 Aa Aa) (wo h2 (wv (Bw Aa Aa) (DB Aa h2 Aa (Ao ?_)))))))))))));exact BA h2
         ·refine wf h2 (wf h2 (wf h2 (wf h2 (wf h2 (wf h2 (wv (r:=rB false) (A1 (b:=decide (hb.2.1=0)) Aa h2 Aa) (Ao ?_)))))));exact BA h2
        refine A8 (b:=((decide (hb.2.1=0))&&(decide (((Ac l he).fKind)=2)))) Aa (λgu=>?_) (λgu=>?_)
        ·have cG:=AV gu gU;refine An (wm Aa ?_);obtain⟨cH,gV⟩:=AG cG;refine wv (EF Aa Aa cH) (wa Aa (A5 (A7 [(1,BO 11 (List.map Al l)),(2,rI .i64 now),(7,rv (.pointer (some ⟨hf,0,none⟩))),(9,rI .i64 (hl-1)),(10,rI .i64 hg),(11,rI .i64 he),(38,rI .i64 (l.length:Int)),(39,rI .i64 he),(107,rB ((decide (hg<((Ac l he).fNow)))&&(decide (((Ac l he).fNow)≤1073741824))))] [.blk hf [rI .i64 hb.2.2.1.fPolicy.fVisible,rI .i64 hb.2.2.1.fPolicy.fReceives,rv (.map (some hd)),rv hj,rI .i64 hb.2.2.1.fNow,rI .i64 hb.2.2.1.fArrived] 61,.map hd (A3 (mP hd) hb.2.2.1.fWaiting),.row hj 33 7 (List.map Af hb.2.2.1.fDead),.pool hd hn 71 (List.map Ae hb.2.2.2)] ?_ ?_)))
         ·refine An (wm Aa (wm Aa (wv (Bn (enc:=Al) (ys:=l) Cm Cp Aa Aa hk) (wv (AB BH Aa B5 Aa Aa) (wv (Be B9 Aa Aa) (wm Aa (wv (Ct Aa Aa) (wm Aa (AE (decide (hg<((Ac l he).fNow))) (λh4=>?_) (λh4=>?_))))))))))
          ·refine wo h4 (wm Aa (wo h4 (wm Aa (wo h4 (wv (Bn (enc:=Al) (ys:=l) Cm Cp Aa Aa hk) (wo h4 (wv (AB BH Aa B5 Aa Aa) (wo h4 (wv (Be B9 Aa Aa) (wo h4 (wv (DJ Aa Aa) (DB Aa h4 Aa (Ao ?_)))))))))))));exact BA h4
          ·refine wf h4 (wf h4 (wf h4 (wf h4 (wf h4 (wf h4 (wv (r:=rB false) (A1 (b:=decide (hg<((Ac l he).fNow))) Aa h4 Aa) (Ao ?_)))))));exact BA h4
         refine A8 (b:=((decide (hg<((Ac l he).fNow)))&&(decide (((Ac l he).fNow)≤1073741824)))) Aa (λgv=>?_) (λgv=>?_)
         ·have cI:=AV gv gV;exact An (wm Aa (wm Aa (wv (Bn (enc:=Al) (ys:=l) Cm Cp Aa Aa hk) (wv (AB BH Aa B5 Aa Aa) (wv (Be B9 Aa Aa) (wa Aa (Ao (AK (Bg (H2:=[.blk hf [rI .i64 hb.2.2.1.fPolicy.fVisible,rI .i64 hb.2.2.1.fPolicy.fReceives,rv (.map (some hd)),rv hj,rI .i64 hb.2.2.1.fNow,rI .i64 hb.2.2.1.fArrived] 61,.map hd (A3 (mP hd) hb.2.2.1.fWaiting),.pool hd hn 71 (List.map Ae hb.2.2.2),.row hj 33 7 (List.map Af hb.2.2.1.fDead)]) ((Ad (i:=0) Aa).trans (Tz _ ((Ad (i:=0) Aa).trans (Tz _ ((Ad (i:=1) Aa).trans (Tz _ (T2 _))))))) (Az (AP ((hl-1,(Ac l he).fNow,hb.2.2.1.fPolicy.fVisible,hb.2.2.1.fPolicy.fReceives,hb.2.2.1.fDead,hb.2.2.1.fNow,hb.2.2.1.fArrived,hb.2.2.1.fWaiting,hb.2.2.2),(hj,hn)) cI (AN.c Aa (AN.c Aa (AN.c5 Aa Aa Aa Aa Aa AN.nil))) (sC (sC (sC (sC sN)))))))))))))))
         ·have cJ:=AW gv gV;exact AA (AK (Bg (H2:=[.blk hf [rI .i64 hb.2.2.1.fPolicy.fVisible,rI .i64 hb.2.2.1.fPolicy.fReceives,rv (.map (some hd)),rv hj,rI .i64 hb.2.2.1.fNow,rI .i64 hb.2.2.1.fArrived] 61,.map hd (A3 (mP hd) hb.2.2.1.fWaiting),.pool hd hn 71 (List.map Ae hb.2.2.2),.row hj 33 7 (List.map Af hb.2.2.1.fDead)]) ((Ad (i:=0) Aa).trans (Tz _ ((Ad (i:=0) Aa).trans (Tz _ ((Ad (i:=1) Aa).trans (Tz _ (T2 _))))))) (Az (AP ((hl-1,hg,hb.2.2.1.fPolicy.fVisible,hb.2.2.1.fPolicy.fReceives,hb.2.2.1.fDead,hb.2.2.1.fNow,hb.2.2.1.fArrived,hb.2.2.1.fWaiting,hb.2.2.2),(hj,hn)) cJ (AN.c Aa (AN.c Aa (AN.c5 Aa Aa Aa Aa Aa AN.nil))) (sC (sC (sC (sC sN))))))))
        ·have gW:=AW gu gU;refine AA (Bi (A7 [(1,BO 11 (List.map Al l)),(2,rI .i64 now),(7,rv (.pointer (some ⟨hf,0,none⟩))),(9,rI .i64 hl),(10,rI .i64 hg),(11,rI .i64 he),(38,rI .i64 (l.length:Int)),(39,rI .i64 he),(107,rB ((decide (hg<((Ac l he).fNow)))&&(decide (((Ac l he).fNow)≤1073741824))))] [.blk hf [rI .i64 hb.2.2.1.fPolicy.fVisible,rI .i64 hb.2.2.1.fPolicy.fReceives,rv (.map (some hd)),rv hj,rI .i64 hb.2.2.1.fNow,rI .i64 hb.2.2.1.fArrived] 61,.map hd (A3 (mP hd) hb.2.2.1.fWaiting),.row hj 33 7 (List.map Af hb.2.2.1.fDead),.pool hd hn 71 (List.map Ae hb.2.2.2)] ?_ ?_))
         ·refine An (wm Aa (wm Aa (wv (Bn (enc:=Al) (ys:=l) Cm Cp Aa Aa hk) (wv (AB BH Aa B5 Aa Aa) (wv (Be B9 Aa Aa) (wm Aa (wv (Ct Aa Aa) (wm Aa (AE (decide (hg<((Ac l he).fNow))) (λh5=>?_) (λh5=>?_))))))))))
          ·refine wo h5 (wm Aa (wo h5 (wm Aa (wo h5 (wv (Bn (enc:=Al) (ys:=l) Cm Cp Aa Aa hk) (wo h5 (wv (AB BH Aa B5 Aa Aa) (wo h5 (wv (Be B9 Aa Aa) (wo h5 (wv (DJ Aa Aa) (DB Aa h5 Aa (Ao ?_)))))))))))));exact BA h5
          ·refine wf h5 (wf h5 (wf h5 (wf h5 (wf h5 (wf h5 (wv (r:=rB false) (A1 (b:=decide (hg<((Ac l he).fNow))) Aa h5 Aa) (Ao ?_)))))));exact BA h5
         refine A8 (b:=((decide (hg<((Ac l he).fNow)))&&(decide (((Ac l he).fNow)≤1073741824)))) Aa (λgw=>?_) (λgw=>?_)
         ·have cK:=AV gw gW;exact An (wm Aa (wm Aa (wv (Bn (enc:=Al) (ys:=l) Cm Cp Aa Aa hk) (wv (AB BH Aa B5 Aa Aa) (wv (Be B9 Aa Aa) (wa Aa (Ao (AK (Bg (H2:=[.blk hf [rI .i64 hb.2.2.1.fPolicy.fVisible,rI .i64 hb.2.2.1.fPolicy.fReceives,rv (.map (some hd)),rv hj,rI .i64 hb.2.2.1.fNow,rI .i64 hb.2.2.1.fArrived] 61,.map hd (A3 (mP hd) hb.2.2.1.fWaiting),.pool hd hn 71 (List.map Ae hb.2.2.2),.row hj 33 7 (List.map Af hb.2.2.1.fDead)]) ((Ad (i:=0) Aa).trans (Tz _ ((Ad (i:=0) Aa).trans (Tz _ ((Ad (i:=1) Aa).trans (Tz _ (T2 _))))))) (Az (AP ((hl,(Ac l he).fNow,hb.2.2.1.fPolicy.fVisible,hb.2.2.1.fPolicy.fReceives,hb.2.2.1.fDead,hb.2.2.1.fNow,hb.2.2.1.fArrived,hb.2.2.1.fWaiting,hb.2.2.2),(hj,hn)) cK (AN.c Aa (AN.c Aa (AN.c5 Aa Aa Aa Aa Aa AN.nil))) (sC (sC (sC (sC sN)))))))))))))))
         ·have cL:=AW gw gW;exact AA (AK (Bg (H2:=[.blk hf [rI .i64 hb.2.2.1.fPolicy.fVisible,rI .i64 hb.2.2.1.fPolicy.fReceives,rv (.map (some hd)),rv hj,rI .i64 hb.2.2.1.fNow,rI .i64 hb.2.2.1.fArrived] 61,.map hd (A3 (mP hd) hb.2.2.1.fWaiting),.pool hd hn 71 (List.map Ae hb.2.2.2),.row hj 33 7 (List.map Af hb.2.2.1.fDead)]) ((Ad (i:=0) Aa).trans (Tz _ ((Ad (i:=0) Aa).trans (Tz _ ((Ad (i:=1) Aa).trans (Tz _ (T2 _))))))) (Az (AP ((hl,hg,hb.2.2.1.fPolicy.fVisible,hb.2.2.1.fPolicy.fReceives,hb.2.2.1.fDead,hb.2.2.1.fNow,hb.2.2.1.fArrived,hb.2.2.1.fWaiting,hb.2.2.2),(hj,hn)) cL (AN.c Aa (AN.c Aa (AN.c5 Aa Aa Aa Aa Aa AN.nil))) (sC (sC (sC (sC sN))))))))
     ·rintro⟨⟨gx,gy,gz,g0,g1,g2,g3,g4,g5⟩,⟨g6,gX⟩⟩ hX;refine Bk (l':=[(1,BO 11 (List.map Al l)),(2,rI .i64 now),(7,rv (.pointer (some ⟨hf,0,none⟩))),(9,rI .i64 gx),(10,rI .i64 gy),(38,rI .i64 (l.length:Int)),(39,rI .i64 he)]) (H':=[.blk hf [rI .i64 gz,rI .i64 g0,rv (.map (some hd)),rv g6,rI .i64 g2,rI .i64 g3] 61,.map hd (A3 (mP hd) g4),.pool hd gX 71 (List.map Ae g5),.row g6 33 7 (List.map Af g1)]) Aa Aa ?_;replace hX:AT he gx gy gz g0 g1 g2 g3 g4 g5=some gc:=hX;unfold AT at hX;refine An ?_;obtain⟨cM,cN⟩:=AG hX;refine wv (BL Aa Aa cM) (wm Aa (Ao ?_));have cO:=CI cN gH;exact Az (AP (cj,(gx,gy,he+1,gz,g0,g1,g2,g3,g4,g5),(g6,gX)) ⟨cO,Ue _⟩ (AN.c Aa (AN.c Aa (AN.c5 Aa Aa Aa Aa Aa AN.nil))) (sC (sC (sC (sC sN)))))
    ·have cP:=AW gd hW;refine BJ (AF ?_);have cQ:=DV cP gH ch;exact AF (B2 (AP ((hl,hg,hL,hN,hO,hP,hQ,hR,hS),(hJ,hV)) cQ (AN.c Aa (AN.c Aa (AN.c Aa (AN.c Aa AN.nil)))) (sC (sC (sC (sC sN))))))
   ·rintro⟨⟨hD,hY,g7,g8,g9,gA,gB,gC,hK⟩,⟨gD,hT⟩⟩ hZ;refine Ec (l':=[(2,rI .i64 now),(7,rv (.pointer (some ⟨hf,0,none⟩))),(9,rI .i64 hD),(10,rI .i64 hY)]) (H':=[.blk hf [rI .i64 g7,rI .i64 g8,rv (.map (some hd)),rv gD,rI .i64 gA,rI .i64 gB] 61,.map hd (A3 (mP hd) gC),.pool hd hT 71 (List.map Ae hK),.row gD 33 7 (List.map Af g9)]) Aa Aa ?_;replace hZ:Db F now hD hY g7 g8 g9 gA gB gC hK=some r:=hZ;unfold Db at hZ;refine B0 (Bi (Au (wm Aa (wm Aa ?_))));obtain⟨hh,cR,gY⟩:=Bf hZ;refine Ep (Hr:=[]) Tryz.call15 (JI hf hd gD hT (Ah.mk (AH.mk g7 g8) gC g9 gA gB) hK now hh cR) Aa ((Ad (i:=0) Aa).trans (Tz _ ((Ad (i:=0) Aa).trans (Tz _ ((Ad (i:=1) Aa).trans (Tz _ (T2 _))))))) Aa ?_;rintro _ _ ⟨rfl,rfl⟩;refine wm Aa (wv (AD Aa Aa) (wv (AD Aa Aa) (wv (AD Aa Aa) (wa Aa (wa Aa (wa Aa (A5 (Ay (A7 [(2,rI .i64 now),(9,rI .i64 hD),(10,rI .i64 hY),(14,rI .i64 hh.1),(15,rI .i64 hh.2.1),(16,rI .i64 hh.2.2),(126,rB ((decide (now<0))||(decide (1073741824<now))))] [.pool hd hT 71 (List.map Ae hK)] ?_ ?_)))))))))
    ·refine An (wm Aa (wv (Ea Aa Aa) (wm Aa (AE (decide (now<0)) (λhE=>?_) (λhE=>?_)))))
     ·refine wf hE (wf hE (wv (r:=rB true) (Ar (b:=decide (now<0)) Aa hE Aa) (Ao ?_)));exact BA hE
     ·refine wo hE (wm Aa (wo hE (wv (Ct Aa Aa) (EK Aa hE Aa (Ao ?_)))));exact BA hE
    refine A8 (b:=((decide (now<0))||(decide (1073741824<now)))) Aa (λgE=>?_) (λgE=>?_)
    ·have cS:=AV gE gY;obtain⟨cT,cU⟩:=AG cS;refine A7 [(6,rB ((decide (hh.1=0))&&((decide (hh.2.1=0))&&((decide (hh.2.2=0))&&(ov (Br F))))))] [.pool hd hT 71 (List.map Ae hK)] ?_ ?_
     ·refine An (wm Aa (wv (Bw Aa Aa) (wm Aa (AE (decide (hh.1=0)) (λh9=>?_) (λh9=>?_)))))
      ·refine wo h9 (wm Aa (wo h9 (wv (Bw Aa Aa) (DB Aa h9 Aa (wm Aa (AE (decide (hh.2.1=0)) (λhB=>?_) (λhB=>?_)))))))
       ·refine wo hB (wm Aa (wo hB (wv (Bw Aa Aa) (DB Aa hB Aa (wm Aa (AE (decide (hh.2.2=0)) (λhG=>?_) (λhG=>?_)))))))
        ·refine wo hG (In Sq (Dv F (ov (Br F)) (L2 (DH (DH (DH cT h9) hB) hG))) Aa (DB Aa hG Aa (wa Aa (Ao ?_))));exact BA (And.intro h9 (And.intro hB hG))
        ·refine wf hG (wv (r:=rB false) (A1 (b:=decide (hh.2.2=0)) Aa hG Aa) (wa Aa (Ao ?_)));exact BA (And.intro h9 (And.intro hB hG))
       ·refine wf hB (wf hB (wv (r:=rB false) (A1 (b:=decide (hh.2.1=0)) Aa hB Aa) (wm Aa (Ak (b:=false) Aa Aa Aa Aa (wv (r:=rB false) (A1 (b:=false) Aa Aa Aa) (wa Aa (Ao ?_)))))));exact BA (And.intro h9 hB)
      ·refine wf h9 (wf h9 (wv (r:=rB false) (A1 (b:=decide (hh.1=0)) Aa h9 Aa) (wm Aa (Ak (b:=false) Aa Aa Aa Aa (Ak (b:=false) Aa Aa Aa Aa (wv (r:=rB false) (A1 (b:=false) Aa Aa Aa) (wm Aa (Ak (b:=false) Aa Aa Aa Aa (wv (r:=rB false) (A1 (b:=false) Aa Aa Aa) (wa Aa (Ao ?_)))))))))));exact BA h9
     refine A4 (Aq ?_);obtain rfl:=AC cU;exact A6 (BZ Su (AX Aa)) (sS sN) ⟨Aa,Aa⟩
    ·have gZ:=AW gE gY;refine AA (Bi (Ay (Au (wm Aa (wm Aa (wv (EO Aa Aa) (A5 (A8 (b:=decide (hY≤now)) Aa (λgF=>?_) (λgF=>?_)))))))))
     ·have cV:=AV gF gZ;obtain⟨cW,cX⟩:=AG cV;obtain⟨cY,cZ⟩:=AG cX;obtain⟨xa,xb⟩:=AG cZ;refine A7 [(6,rB ((decide (((hh.1+hh.2.1)+hh.2.2)=hD))&&((decide (0≤hh.1))&&((decide (0≤hh.2.1))&&((decide (0≤hh.2.2))&&(ov (Br F)))))))] [.pool hd hT 71 (List.map Ae hK)] ?_ ?_
      ·refine An (wm Aa (wm Aa (wv (BL Aa Aa cW) (wm Aa (wv (BL Aa Aa cY) (wm Aa (wv (Bw Aa Aa) (wm Aa (AE (decide (((hh.1+hh.2.1)+hh.2.2)=hD)) (λh7=>?_) (λh7=>?_))))))))))
       ·refine wo h7 (wm Aa (wo h7 (wv (EO Aa Aa) (DB Aa h7 Aa (wm Aa (AE (decide (0≤hh.1)) (λhA=>?_) (λhA=>?_)))))))
        ·refine wo hA (wm Aa (wo hA (wv (EO Aa Aa) (DB Aa hA Aa (wm Aa (AE (decide (0≤hh.2.1)) (λhC=>?_) (λhC=>?_)))))))
         ·refine wo hC (wm Aa (wo hC (wv (EO Aa Aa) (DB Aa hC Aa (wm Aa (AE (decide (0≤hh.2.2)) (λhH=>?_) (λhH=>?_)))))))
          ·refine wo hH (In Sq (Dv F (ov (Br F)) (L2 (DH (DH (DH (DH xa h7) hA) hC) hH))) Aa (DB Aa hH Aa (wa Aa (Ao ?_))));exact BA (And.intro h7 (And.intro hA (And.intro hC hH)))
          ·refine wf hH (wv (r:=rB false) (A1 (b:=decide (0≤hh.2.2)) Aa hH Aa) (wa Aa (Ao ?_)));exact BA (And.intro h7 (And.intro hA (And.intro hC hH)))
         ·refine wf hC (wf hC (wv (r:=rB false) (A1 (b:=decide (0≤hh.2.1)) Aa hC Aa) (wm Aa (Ak (b:=false) Aa Aa Aa Aa (wv (r:=rB false) (A1 (b:=false) Aa Aa Aa) (wa Aa (Ao ?_)))))));exact BA (And.intro h7 (And.intro hA hC))
        ·refine wf hA (wf hA (wv (r:=rB false) (A1 (b:=decide (0≤hh.1)) Aa hA Aa) (wm Aa (Ak (b:=false) Aa Aa Aa Aa (Ak (b:=false) Aa Aa Aa Aa (wv (r:=rB false) (A1 (b:=false) Aa Aa Aa) (wm Aa (Ak (b:=false) Aa Aa Aa Aa (wv (r:=rB false) (A1 (b:=false) Aa Aa Aa) (wa Aa (Ao ?_)))))))))));exact BA (And.intro h7 hA)
       ·refine wf h7 (wf h7 (wv (r:=rB false) (A1 (b:=decide (((hh.1+hh.2.1)+hh.2.2)=hD)) Aa h7 Aa) (wm Aa (Ak (b:=false) Aa Aa Aa Aa (Ak (b:=false) Aa Aa Aa Aa (wv (r:=rB false) (A1 (b:=false) Aa Aa Aa) (wm Aa (Ak (b:=false) Aa Aa Aa Aa (Ak (b:=false) Aa Aa Aa Aa (wv (r:=rB false) (A1 (b:=false) Aa Aa Aa) (wm Aa (Ak (b:=false) Aa Aa Aa Aa (wv (r:=rB false) (A1 (b:=false) Aa Aa Aa) (wa Aa (Ao ?_)))))))))))))));exact BA h7
      refine A4 (Aq ?_);obtain rfl:=AC xb;exact A6 (BZ Su (AX Aa)) (sS sN) ⟨Aa,Aa⟩
     ·have xc:=AW gF gZ;refine AA (Bi ?_);obtain⟨ca,xd⟩:=AG xc;obtain⟨cb,xe⟩:=AG xd;obtain⟨xf,xg⟩:=AG xe;obtain⟨xh,xi⟩:=AG xg;refine A7 [(6,rB (bif decide (((hh.1+hh.2.1)+hh.2.2)=hD) then(ov (Br F)) else((decide (((hh.1+hh.2.1)+hh.2.2)=0))&&(ov (Br F)))))] [.pool hd hT 71 (List.map Ae hK)] ?_ ?_
      ·refine An (wm Aa (wm Aa (wv (BL Aa Aa ca) (wm Aa (wv (BL Aa Aa cb) (wm Aa (wv (Bw Aa Aa) (wm Aa (AE (decide (((hh.1+hh.2.1)+hh.2.2)=hD)) (λhp=>?_) (λhp=>?_))))))))))
       ·refine wf hp (wf hp (wf hp (wf hp (wf hp (wf hp (wv (r:=rB true) (Ar (b:=decide (((hh.1+hh.2.1)+hh.2.2)=hD)) Aa hp Aa) (wm Aa (AR (b:=true) Aa Aa Aa (In Sq (Dv F (ov (Br F)) (L2 (DH xf hp))) Aa (wv (r:=rB (ov (Br F))) (Ar (b:=true) Aa Aa Aa) (wa Aa (Ao ?_))))))))))));exact BA hp
       ·refine wo hp (wm Aa (wo hp (wm Aa (wo hp (wv (BL Aa Aa ca) (wo hp (wm Aa (wo hp (wv (BL Aa Aa cb) (wo hp (wv (Bw Aa Aa) (EK Aa hp Aa (wm Aa (AE (decide (((hh.1+hh.2.1)+hh.2.2)=0)) (λhI=>?_) (λhI=>?_)))))))))))))))
        ·refine wo hI (In Sq (Dv F (ov (Br F)) (L2 (DH (Gh xh hp) hI))) Aa (DB Aa hI Aa (wa Aa (Ao ?_))));exact BA (And.intro hp hI)
        ·refine wf hI (wv (r:=rB false) (A1 (b:=decide (((hh.1+hh.2.1)+hh.2.2)=0)) Aa hI Aa) (wa Aa (Ao ?_)));exact BA (And.intro hp hI)
      refine A4 ?_;obtain rfl:=AC xi;exact A6 (BZ Su (AX Aa)) (sS sN) ⟨Aa,Aa⟩
  ·have xj:=AW ga gG;obtain⟨xk,xl,xm⟩:=Bf xj;refine In Tryz.call10 (MK p xk xl) Aa (wm Aa (wv (AD Aa Aa) (wv (AD Aa Aa) (wa Aa (wa Aa (A5 (Ay (A7 [(1,BO 11 (List.map Al l)),(2,rI .i64 now),(7,rv (.pointer none)),(8,rI .i64 2),(31,rB true)] [] ?_ ?_))))))))
   ·refine An (wm Aa (wv (EY Aa Aa) (wm Aa (Ak (b:=!decide (2=0)) Aa Aa (Is (by decide)) Aa (Ak (b:=!decide (2=0)) Aa Aa (Is (by decide)) Aa (wv (r:=rB true) (Ar (b:=!decide (2=0)) Aa (Is (by decide)) Aa) (Ao ?_)))))));exact wt
   refine Ck Aa Aa ?_;obtain⟨xn,xo⟩:=AG xm;refine A7 [(6,rB (ov (Br F)))] [] ?_ ?_
   ·refine An (wm Aa (wv (EY Aa Aa) (wm Aa (AR (b:=!decide (2=0)) Aa Aa (Is (by decide)) (In Sq (Dv F (ov (Br F)) (L2 xn)) Aa (wv (r:=rB (ov (Br F))) (Ar (b:=!decide (2=0)) Aa (Is (by decide)) Aa) (wa Aa (Ao ?_))))))));exact wt
   refine A4 (Aq ?_);obtain rfl:=AC xo;exact A6 (BZ Su (AX Aa)) sN ⟨Aa,Aa⟩
end Go.Proofs.YthbbedliepkakaaGreatDoor.Q
namespace Go.Proofs.YthbbedliepkakaaGreatDoor.lawQueueCounts
open Go
set_option linter.unusedVariables false
def RE (y:AH):Bool:=(BQ .i64) y.fVisible&&(BQ .i64) y.fReceives
def Ph (y:Am):Bool:=(BQ .i64) y.fKind&&(BQ .i64) y.fInt&&PS y.fStr&&(BQ .i64) y.fN
def Q7 (y:Av):Bool:=PS y.fID&&PS y.fTenant&&PS y.fSource&&PS y.fKey&&(BQ .i64) y.fAt&&PS y.fCause&&(λys:(List Am)=>ys.all Ph&&decide (ys.length≤9223372036854775807)) y.fBody
def NN (y:AU):Bool:=(BQ .i64) y.fKind&&(BQ .i64) y.fNow&&(BQ .i64) y.fN&&Q7 y.fEvent&&PS y.fReceipt
def Tx:Prop:=∀(y0:AH) (y1:(List AU)) (y2:Int) (o0:RE y0=true) (o1:(λys:(List AU)=>ys.all NN&&decide (ys.length≤9223372036854775807)) y1=true) (o2:(BQ .i64) y2=true),∃F,Gf F y0 y1 y2=some true
end Go.Proofs.YthbbedliepkakaaGreatDoor.lawQueueCounts
namespace Go.Proofs.YthbbedliepkakaaGreatDoor
open Go
set_option linter.unusedVariables false
set_option linter.unusedSimpArgs false
def PR (c:UInt8):Bool:=decide (32≤c.toNat)&&decide (c.toNat≤126)
theorem QZ {s:A9}{x:Int}{c:UInt8}(h:s[x.toNat]? =some c):DN s x=(c.toNat:Int):=by simp[DN,h]
theorem J6 {α:Type}{p:α→Bool}{s:List α}{k:Nat}{c:α}(h:s[k]? =some c):(s.take (k+1)).all p=((s.take k).all p&&p c):=by
 rw[List.take_add_one,h];simp
theorem KQ {α:Type}{p:α→Bool}{s:List α}{k:Nat}{c:α}(h:s[k]? =some c)(hp:p c=false):s.all p=false:=by
 rw[List.all_eq_false];exact⟨c,TC h,by simp[hp]⟩
theorem Le {F:Nat}{s:A9}(hF:s.length<F)(hs:s.length≤9223372036854775807):Hh F s=some (s.all PR):=by
 obtain⟨o,h1,h2⟩:=K9 (body:=λσ=>Ew s σ) (λx=>0≤x∧x≤(s.length:Int)∧(s.take x.toNat).all PR=true) (λx=>s.length-x.toNat)
  (λo=>Ca (λ_=>Ev) o=some (s.all PR)) (λx ⟨h0,hl,ha⟩=>by
   unfold Ew
   by_cases hx:x<(s.length:Int)
   ·obtain⟨c,hc⟩:∃c,s[x.toNat]? =some c:=⟨s[x.toNat]'(by omega),T3 (by omega)⟩
    rw[AS (by simpa using hx),C3 h0 hx,QZ hc]
    cases ho:PR c with
    | false=>
     refine .inr ⟨.ret false,?_,?_⟩
     ·rw[AS];simp only[PR,Bool.and_eq_false_iff,T0] at ho;simp only[TS,T1];omega
     ·simp[Ca,KQ hc ho]
    | true=>
     refine .inl ⟨x+1,?_,⟨by omega,by omega,?_⟩,by omega⟩
     ·rw[AQ,AY (by omega) (by omega)];simp only[PR,T6,T1] at ho;simp only[Ua,T0];omega
     ·rw[show(x+1).toNat=x.toNat+1 from by omega,J6 hc,ha,ho];rfl
   ·refine .inr ⟨.go (),by rw[AQ (by simpa using hx)],?_⟩;rw[show x.toNat=s.length from by omega,List.take_length] at ha;simp[Ca,Ev,ha]) F 0 ⟨by omega,by omega,by simp⟩ (by simpa using hF)
 unfold Hh;rw[Bd h1,h2]
theorem K0 (F:Nat)(s:A9):K1 F s=Hh F s:=rfl
theorem NG {F:Nat}{s:A9}(hF:s.length<F)(hs:s.length≤9223372036854775807):K1 F s=some (s.all PR):=by rw[K0];exact Le hF hs
def pl (c:Am):Bool:=
 bif decide (c.fKind=1) then(decide (c.fInt=0)&&(decide (c.fStr=[])&&decide (c.fN=0))) else
 bif decide (c.fKind=2) then((decide (c.fInt=0)||decide (c.fInt=1))&&(decide (c.fStr=[])&&decide (c.fN=0))) else
 bif decide (c.fKind=3) then(decide (c.fStr=[])&&decide (c.fN=0)) else
 bif decide (c.fKind=4) then(decide (c.fInt=0)&&(decide (c.fN=0)&&c.fStr.all PR)) else
 bif decide (c.fKind=5) then(decide (c.fInt=0)&&(decide (c.fStr=[])&&decide (0≤c.fN))) else
 bif decide (c.fKind=6) then(decide (c.fInt=0)&&(decide (c.fStr=[])&&decide (0≤c.fN))) else false
theorem CK {α:Type}{p:Bool}{x y:Option α}{a b:α}(h:x=some a)(h':y=some b):B1 p x y=some (bif p then a else b):=by cases p<;>simp[B1,h,h']
theorem N3 {F:Nat}{c:Am}(hF:c.fStr.length<F)(hs:c.fStr.length≤9223372036854775807):IY F c=some (pl c):=by
 unfold IY pl;rw[Le hF hs];refine CK rfl (CK ?_ (CK rfl (CK ?_ (CK rfl (CK rfl rfl)))))
 ·cases h:decide (c.fInt=0)<;>simp
 ·simp[imp,Bo,ov]
def Iv:List At→List At
 | []=>[]
 | e::S=>bif decide (1<e.fLeft) then⟨e.fPairs,e.fLeft-1,e.fPairs,e.fLast,e.fStarted⟩::S else Iv S
theorem IQ {α:Type}[Inhabited α](xs:List α)(e:α):Ac (xs++[e]) (xs.length:Int)=e:=by simp[Ac]
theorem Hw {α:Type}(xs:List α)(e e':α):List.set (xs++[e]) (Int.toNat (xs.length:Int)) e'=xs++[e']:=by simp
theorem H9 {α:Type}(xs:List α)(e:α):((xs++[e]).length:Int)-1=(xs.length:Int):=by simp
theorem NA {α:Type}(xs:List α)(e:α):List.take (Int.toNat (xs.length:Int)) (xs++[e])=xs:=by simp
theorem Io:∀(S:List At) (F:Nat),S.length<F→(∀e∈S,1≤e.fLeft∧e.fLeft≤9223372036854775807)→S.length≤4611686018427387904→
  ∃o,Cn (λσ=>C6 σ) F S.reverse=some o∧Ca (λν=>CP ν) o=some (Iv S).reverse
 | [],F+1,_,_,_=>⟨.go [],by simp[Cn,C6,B1],by simp[Ca,CP,Iv]⟩
 | e::S,F+1,hF,hb,hl=>by
  obtain⟨h1,h2⟩:=hb e (by simp);simp only[T9] at hF hl;have hx:S.reverse.length=S.length:=by simp
  generalize hxs:S.reverse=xs at hx;have hr:(e::S).reverse=xs++[e]:=by simp[hxs]
  rw[hr];have hb1:C6 (xs++[e])=bif decide (1<e.fLeft) then some (.out (.ret (xs++[⟨e.fPairs,e.fLeft-1,e.fPairs,e.fLast,e.fStarted⟩]))) else some (.next xs):=by
   unfold C6;rw[AS (by simp)];simp only[H9,IQ,Hw,LZ];rw[AY (by omega) (by omega),C3 (by omega) (by simp;omega),AY (by omega) (by omega)]
   cases hd:decide (1<e.fLeft) with
   | true=>
    rw[AS (by simp at hd ⊢;omega)];rfl
   | false=>
    rw[AQ (by simp at hd ⊢;omega),AY (by omega) (by omega),KL (by omega) (by simp;omega),NA];rfl
  rw[Cn,hb1]
  cases hd:decide (1<e.fLeft) with
  | true=>exact⟨_,rfl,by simp[Ca,CP,Iv,hd,hxs]⟩
  | false=>
   obtain⟨o,ho1,ho2⟩:=Io S F (by omega) (λe he=>hb e (by simp[he])) (by omega);rw[hxs] at ho1;exact⟨o,ho1,by rw[ho2];simp[Iv,hd]⟩
theorem IZ {S:List At}{F:Nat}(hF:S.length<F)(hb:∀e∈S,1≤e.fLeft∧e.fLeft≤9223372036854775807)(hl:S.length≤4611686018427387904):Hk F S.reverse=some (Iv S).reverse:=by
 obtain⟨o,h1,h2⟩:=Io S F hF hb hl;unfold Hk;rw[Bd h1,h2]
def HT (s:A9):Int:=s.length+2+s.count 34+s.count 92
theorem IX {s:A9}(hs:s.length≤1152921504606846976):Gq s=some (HT s):=by
 have h1:s.count 34≤s.length:=List.count_le_length;have h2:s.count 92≤s.length:=List.count_le_length;unfold Gq Lib.countByte;rw[AY (by omega) (by omega),AY (by omega) (by omega),AY (by omega) (by omega)];rfl
def R7 (c:Am):Int:=
 bif decide (c.fKind=1) then 4 else bif decide (c.fKind=2) then IntKind.wrap .i64 (5-c.fInt) else bif decide (c.fKind=3) then((Lib.itoa c.fInt).length:Int) else
 bif decide (c.fKind=4) then HT c.fStr else IntKind.wrap .i64 (2+max 0 (IntKind.wrap .i64 (c.fN-1)))
theorem Lf {c:Am}(hs:c.fStr.length≤1152921504606846976)(hi:BQ .i64 c.fInt=true):Lg c=some (R7 c):=by
 unfold Lg R7;rw[IX hs];refine CK rfl (CK rfl (CK ?_ (CK rfl rfl)));rw[Bu hi]
def EM (d:Nat)(sh:A2)(c:Am):A2:=
 ⟨max sh.fDepth ((d:Int)+1),IntKind.wrap .i64 (sh.fBytes+R7 c),sh.fOutside||(decide (c.fKind=3)&&!(decide ((-1000000000000)≤c.fInt)&&decide (c.fInt≤1000000000000))),sh.fLong||decide (200<(c.fStr.length:Int))⟩
def S0 (sh:A2)(c:Am):A2:=⟨sh.fDepth,IntKind.wrap .i64 (sh.fBytes+(HT c.fStr+1)),sh.fOutside,sh.fLong||decide (200<(c.fStr.length:Int))⟩
def Ic:List At→Bool
 | []=>false
 | e::_=>e.fKey
abbrev KW:=List At×Int×A2
abbrev Rt:=Out (Int×A2×Bool) A2
def LY (n:Int)(S:List At)(i:Int)(sh:A2)(c:Am):Stp KW Rt:=
 bif !pl c then .out (.ret (0,sh,false)) else
 match S with
 | e::S'=>
  bif e.fKey then
   bif !decide (c.fKind=4)||(e.fStarted&&(BD c.fStr e.fLast||decide (c.fStr=e.fLast))) then .out (.ret (0,sh,false))
   else .next ((⟨e.fPairs,e.fLeft,false,c.fStr,true⟩::S').reverse,i+1,S0 sh c)
  else bif decide (0<c.fN) then
   bif decide (n<c.fN) then .out (.ret (0,EM S.length sh c,false))
   else .next ((⟨decide (c.fKind=6),c.fN,decide (c.fKind=6),[],false⟩::S).reverse,i+1,EM S.length sh c)
  else bif decide (Iv S=[]) then .out (.ret (i+1,EM S.length sh c,true)) else .next ((Iv S).reverse,i+1,EM S.length sh c)
 | []=>
  bif decide (0<c.fN) then
   bif decide (n<c.fN) then .out (.ret (0,EM 0 sh c,false))
   else .next ([⟨decide (c.fKind=6),c.fN,decide (c.fKind=6),[],false⟩],i+1,EM 0 sh c)
  else .out (.ret (i+1,EM 0 sh c,true))
theorem Jw {S:List At}:decide (((Iv S).reverse.length:Int)=0)=decide (Iv S=[]):=by
 rw[TZ];simp
theorem SG {α:Type}{xs:List α}{e x:α}{M:Nat}(h:xs.length+1≤M)(hM2:(M+2)*48≤140737488355328):Js 48 ((xs++[e]).length+([x]:List α).length)=true:=by
 refine T4 (Nat.le_trans (Nat.mul_le_mul_right 48 ?_) hM2);rw[TG,Ub,Ub];omega
set_option maxHeartbeats 600000 in
theorem Lh {F:Nat}{v:List Am}{S:List At}{i:Int}{sh:A2}{c:Am}(h0:0≤i)(hc:v[i.toNat]? =some c){M:Nat}(hM:M≤1152921504606846976)(hM2:(M+2)*48≤140737488355328)(hv:v.length≤M)(hS:S.length≤M)(hF:M<F)
  (hs:c.fStr.length≤M) (hi:BQ .i64 c.fInt=true) (hb:∀e∈S,1≤e.fLeft∧e.fLeft≤9223372036854775807):C5 F v S.reverse i sh=some (LY v.length S i sh c):=by
 have hil:i.toNat<v.length:=(List.getElem?_eq_some_iff.1 hc).1;have hat:Ac v i=c:=by simp[Ac,hc]
 unfold C5 LY;rw[AS (by simp;omega),C3 h0 (by omega),hat,N3 (by omega) (by omega),Bd rfl]
 cases hp:pl c with
 | false=>rw[AS (by simp)];rfl
 | true=>
  rw[AQ (by simp)]
  cases S with
  | nil=>
   rw[Bu (by simp[imp]),Bu (by simp[imp]),AQ (by simp),AY (by simp) (by simp),Lf (by omega) hi,Bd rfl,Bu (by simp[imp,Bl])];simp only[Bl,ov,TN,TA,T8]
   cases hn:decide (0<c.fN) with
   | true=>
    rw[AS rfl]
    cases hm:decide ((v.length:Int)<c.fN) with
    | true=>rw[AS rfl];simp[EM]
    | false=>rw[AQ rfl,Bu (by simp[Js])];unfold CH;rw[AY (by omega) (by omega)];simp[EM]
   | false=>
    rw[AQ rfl,Bd (IZ (S:=[]) (by simp;omega) (by simp) (by simp)),AS (by simp[Iv]),AY (by omega) (by omega)];simp[EM]
  | cons e S'=>
   have hx:S'.reverse.length=S'.length:=by simp
   generalize hxs:S'.reverse=xs at hx;have hr:(e::S').reverse=xs++[e]:=by simp[hxs]
   simp only[T9] at hS;have hlen:((xs++[e]).length:Int)=(xs.length:Int)+1:=by simp
   rw[hr,Bu (by simp only[imp,H9];rw[LJ (by omega) (by omega)];simp),Bu (by simp only[imp,H9];rw[Pz (by omega) (by omega)];simp)];rw[H9,IQ]
   cases hk:e.fKey with
   | true=>
    rw[AS (by simp),AY (by omega) (by omega),C3 (by omega) (by omega)];simp only[hk,TA,T8,TD]
    cases ht : !decide (c.fKind=4)||(e.fStarted&&(BD c.fStr e.fLast||decide (c.fStr=e.fLast))) with
    | true=>rw[AS rfl];rfl
    | false=>
     rw[AQ rfl,Hw,LZ,IQ,Hw,LZ,IQ,Hw,LZ,IX (by omega),Bd rfl,AY (by unfold HT;omega) (by unfold HT;have:=@List.count_le_length UInt8 _ 34 c.fStr;have:=@List.count_le_length UInt8 _ 92 c.fStr;omega)];unfold CH;rw[AY (by omega) (by omega)];simp[S0,hxs]
   | false=>
    rw[AQ (by simp),hlen,AY (by omega) (by omega),Lf (by omega) hi,Bd rfl,Bu (by simp[imp,Bl])];simp only[hk,Bl,ov,TN,TA,T8,TD]
    cases hn:decide (0<c.fN) with
    | true=>
     rw[AS rfl]
     cases hm:decide ((v.length:Int)<c.fN) with
     | true=>rw[AS rfl];simp[EM,hx]
     | false=>rw[AQ rfl,Bu (SG (by omega) hM2)];unfold CH;rw[AY (by omega) (by omega)];simp[EM,hx,hxs]
    | false=>
     have hcl:=IZ (S:=e::S') (F:=F) (by simp;omega) hb (by simp;omega);rw[hr] at hcl;rw[AQ rfl,hcl,Bd rfl,Jw]
     cases hq:decide (Iv (e::S')=[]) with
     | true=>rw[AS rfl,AY (by omega) (by omega)];simp[EM,hx]
     | false=>rw[AQ rfl];unfold CH;rw[AY (by omega) (by omega)];simp[EM,hx]
section
variable {S O : Type} {body : S → Option (Stp S O)} {s t u : S} {o : O}
def CM (body:S→Option (Stp S O))(s t:S):Prop:=∃k,∀n,Cn body (n+k) s=Cn body n t
def Fin (body:S→Option (Stp S O))(s:S)(o:O):Prop:=∃k,∀n,Cn body (n+k) s=some o
theorem CM.refl (s:S):CM body s s:=⟨0,λ_=>rfl⟩
theorem CM.trans (h:CM body s t)(h':CM body t u):CM body s u:=by
 obtain⟨k,hk⟩:=h;obtain⟨j,hj⟩:=h';exact⟨j+k,λn=>by rw[← Nat.add_assoc,hk,hj]⟩
theorem CM.step (h:body s=some (.next t)):CM body s t:=⟨1,λn=>by rw[Cn,h]⟩
theorem Fin.step (h:body s=some (.out o)):Fin body s o:=⟨1,λn=>by rw[Cn,h]⟩
theorem CM.fin (h:CM body s t)(h':Fin body t o):Fin body s o:=by
 obtain⟨k,hk⟩:=h;obtain⟨j,hj⟩:=h';exact⟨j+k,λn=>by rw[← Nat.add_assoc,hk,hj]⟩
end
inductive Fo where
 | nil
 | cell (k:Option A9) (c:Am) (r:Fo)
 | node (k:Option A9) (c:Am) (kids r:Fo)
def Cg:Option A9→List Am
 | none=>[]
 | some s=>[⟨4,0,s,0⟩]
def Fo.flat:Fo→List Am
 | .nil=>[]
 | .cell k c r=>Cg k++c::r.flat
 | .node k c kids r=>Cg k++c::(kids.flat++r.flat)
def Fo.cnt:Fo→Nat
 | .nil=>0
 | .cell _ _ r=>r.cnt+1
 | .node _ _ _ r=>r.cnt+1
def Dq (m:Bool)(last:Option A9):Option A9→Bool
 | none=>!m
 | some s=>m&&s.all PR&&(match last with
  | none=>true
  | some p=>!(BD s p||decide (s=p)))
def Fo.wf:Bool→Option A9→Fo→Bool
 | _,_,.nil=>true
 | m,last,.cell k c r=>Dq m last k&&pl c&&!decide (0<c.fN)&&r.wf m k
 | m,last,.node k c kids r=>Dq m last k&&pl c&&decide (0<c.fN)&&decide (c.fN=kids.cnt)&&kids.wf (decide (c.fKind=6)) none&&r.wf m k
def Iq (k:Option A9)(sh:A2):A2:=match k with
 | none=>sh
 | some s=>S0 sh ⟨4,0,s,0⟩
def Fo.sh (d:Nat):A2→Fo→A2
 | s,.nil=>s
 | s,.cell k c r=>r.sh d (EM d (Iq k s) c)
 | s,.node k c kids r=>r.sh d (kids.sh (d+1) (EM d (Iq k s) c))
def Eu (body:KW→Option (Stp KW Rt))(s:KW)(S:List At)(i:Int)(sh:A2):Prop:=
 if Iv S=[] then Fin body s (.ret (i,sh,true)) else CM body s ((Iv S).reverse,i,sh)
theorem Eu.of {body:KW→Option (Stp KW Rt)}{s t:KW}{S:List At}{i:Int}{sh:A2}(h:CM body s t)(h':Eu body t S i sh):Eu body s S i sh:=by
 unfold Eu at *
 split
 ·rename_i e;rw[TP e] at h';exact h.fin h'
 ·rename_i e;rw[TE e] at h';exact h.trans h'
theorem Eu.pop {body:KW→Option (Stp KW Rt)}{s:KW}{e:At}{S:List At}{i:Int}{sh:A2}(h:Eu body s (e::S) i sh)(h1:e.fLeft=1):Eu body s S i sh:=by
 have:Iv (e::S)=Iv S:=by simp[Iv,h1]
 unfold Eu at *;rw[this] at h;exact h
theorem Eu.more {body:KW→Option (Stp KW Rt)}{s:KW}{e:At}{S:List At}{i:Int}{sh:A2}(h:Eu body s (e::S) i sh)(h1:1<e.fLeft):CM body s ((⟨e.fPairs,e.fLeft-1,e.fPairs,e.fLast,e.fStarted⟩::S).reverse,i,sh):=by
 have:Iv (e::S)=⟨e.fPairs,e.fLeft-1,e.fPairs,e.fLast,e.fStarted⟩::S:=by simp[Iv,h1]
 unfold Eu at *;rw[this,TE (by simp)] at h;exact h
structure Nv (F M:Nat) (v:List Am):Prop where
 hM:M≤1152921504606846976
 hM2:(M+2)*48≤140737488355328
 hv:v.length≤M
 hF:M<F
 hc:∀c∈v,c.fStr.length≤M∧BQ .i64 c.fInt=true∧c.fN≤9223372036854775807
abbrev LD (F:Nat)(v:List Am):KW→Option (Stp KW Rt):=λσ=>C5 F v σ.1 σ.2.1 σ.2.2
def CA (S:List At):Prop:=∀e∈S,1≤e.fLeft∧e.fLeft≤9223372036854775807
section
variable {F M : Nat} {v : List Am} {S : List At} {i : Int} {sh : A2} {c : Am} {r : List Am} {e : At}
theorem Dk (h0:0≤i)(h:v.drop i.toNat=c::r):v[i.toNat]? =some c∧v.drop (i+1).toNat=r∧i<v.length:=by
 have h1:(v.drop i.toNat)[0]? =some c:=by rw[h];rfl
 have h2:v[i.toNat]? =some c:=by simpa using h1
 have h3:=(List.getElem?_eq_some_iff.1 h2).1;refine⟨h2,?_,by omega⟩;rw[show(i+1).toNat=i.toNat+1 from by omega,← List.drop_drop,h];rfl
theorem round (hA:Nv F M v)(h0:0≤i)(h:v.drop i.toNat=c::r)(hS:(S.length:Int)≤i)(hb:CA S):LD F v (S.reverse,i,sh)=some (LY v.length S i sh c):=by
 obtain⟨h1,_,h3⟩:=Dk h0 h;obtain⟨a,b,_⟩:=hA.hc c (TC h1);have:=hA.hv;exact Lh h0 h1 hA.hM hA.hM2 hA.hv (by omega) hA.hF a b hb
def DG (e:At):Option A9→At
 | none=>e
 | some s=>⟨e.fPairs,e.fLeft,false,s,true⟩
def Gd (e:At):Option A9→Prop
 | none=>e.fStarted=false
 | some p=>e.fStarted=true∧e.fLast=p
theorem Jr (hA:Nv F M v)(h0:0≤i){k last:Option A9}(h:v.drop i.toNat=Cg k++r)(hS:(S.length:Int)+1≤i)(hb:CA (e::S))(hk:Dq e.fKey last k=true)(hl:Gd e last) :
  CM (LD F v) ((e::S).reverse,i,sh) ((DG e k::S).reverse,i+(Cg k).length,Iq k sh):=by
 cases k with
 | none=>simpa[DG,Cg,Iq] using CM.refl _
 | some s=>
  simp only[Dq,T6] at hk;obtain⟨⟨hm,hok⟩,hcmp⟩:=hk;refine CM.step ?_;rw[round hA h0 (by simpa[Cg] using h) (by simpa using hS) hb];have hp:pl ⟨4,0,s,0⟩=true:=by simp[pl,hok]
  have ht:(e.fStarted&&(BD s e.fLast||decide (s=e.fLast)))=false:=by
   cases last with
   | none=>simp only[Gd] at hl;rw[hl];rfl
   | some p=>obtain⟨h1,h2⟩:=hl;rw[h1,h2];simpa using hcmp
  simp only[LY,hp,hm,ht,TA,T8,TD,decide_true,TT,Bool.or_self];rfl
theorem Ib {k last:Option A9}(hk:Dq e.fKey last k=true):(DG e k).fKey=false:=by
 cases k with
 | none=>simpa[DG,Dq] using hk
 | some s=>rfl
theorem GV (k:Option A9):(DG e k).fLeft=e.fLeft∧(DG e k).fPairs=e.fPairs:=by cases k<;>exact⟨rfl,rfl⟩
theorem HZ (hA:Nv F M v)(h0:0≤i)(h:v.drop i.toNat=c::r)(hS:(S.length:Int)≤i)(hb:CA S)(hk:Ic S=false)(hp:pl c=true)(hn:decide (0<c.fN)=false) :
  Eu (LD F v) (S.reverse,i,sh) S (i+1) (EM S.length sh c):=by
 have hr:=round (sh:=sh) hA h0 h hS hb;unfold Eu
 cases S with
 | nil=>
  rw[TP (by simp[Iv])];refine Fin.step ?_;rw[hr];simp[LY,hp,hn]
 | cons e S=>
  simp only[Ic] at hk
  split
  ·rename_i hc
   refine Fin.step ?_;rw[hr];simp[LY,hp,hn,hk,hc]
  ·rename_i hc
   refine CM.step ?_;rw[hr];simp[LY,hp,hn,hk,hc]
theorem Gw (hA:Nv F M v)(h0:0≤i)(h:v.drop i.toNat=c::r)(hS:(S.length:Int)≤i)(hb:CA S)(hk:Ic S=false)(hp:pl c=true)(hn:decide (0<c.fN)=true)(hv:c.fN≤v.length) :
  CM (LD F v) (S.reverse,i,sh) ((⟨decide (c.fKind=6),c.fN,decide (c.fKind=6),[],false⟩::S).reverse,i+1,EM S.length sh c):=by
 have hr:=round (sh:=sh) hA h0 h hS hb;have hv':decide ((v.length:Int)<c.fN)=false:=by simpa using hv
 refine CM.step ?_;rw[hr]
 cases S with
 | nil=>simp only[LY,hp,hn,hv',TA,T8,TD];rfl
 | cons e S=>
  simp only[Ic] at hk;simp only[LY,hp,hn,hv',hk,TA,T8,TD]
theorem CD:∀f:Fo,f.cnt≤f.flat.length
 | .nil=>TH _
 | .cell k c r=>by have:=CD r;simp[Fo.cnt,Fo.flat];omega
 | .node k c kids r=>by have:=CD r;simp[Fo.cnt,Fo.flat];omega
theorem DZ {α:Type}{v xs r:List α}{i:Int}(h0:0≤i)(h:v.drop i.toNat=xs++r):v.drop (i+xs.length).toNat=r:=by
 rw[show(i+(xs.length:Int)).toNat=i.toNat+xs.length from by omega,← List.drop_drop,h,List.drop_left]
theorem Lw (hA:Nv F M v){e':At}{s:KW}{k:Option A9}{r':Fo}
  (ih:∀(e:At) (S:List At) (i:Int) (sh:A2) (last:Option A9) (r:List Am),1≤r'.cnt→r'.wf e.fPairs last=true→e.fKey=e.fPairs→e.fLeft=r'.cnt→Gd e last→(e.fPairs=false→last=none)→v.drop i.toNat=r'.flat++r→0≤i→(S.length:Int)+1≤i→CA S→
   Eu (LD F v) ((e::S).reverse,i,sh) S (i+r'.flat.length) (r'.sh (S.length+1) sh))
  (hd:Eu (LD F v) s (e'::S) i sh) (hl:e'.fLeft=r'.cnt+1) (hw:r'.wf e'.fPairs k=true) (hk:Gd e' k) (hm:e'.fPairs=false→k=none) (hv:v.drop i.toNat=r'.flat++r) (h0:0≤i) (hS:(S.length:Int)+1≤i) (hb:CA S) :
  Eu (LD F v) s S (i+r'.flat.length) (r'.sh (S.length+1) sh):=by
 by_cases h1:r'.cnt=0
 ·cases r' with
  | nil=>simpa[Fo.flat,Fo.sh] using hd.pop (by rw[hl];rfl)
  | cell _ _ _=>simp[Fo.cnt] at h1
  | node _ _ _ _=>simp[Fo.cnt] at h1
 ·have:=hd.more (by omega);refine Eu.of this (ih _ S i sh k r (by omega) hw rfl (by simp only;omega) ?_ hm hv h0 hS hb)
  cases k with
  | none=>exact hk
  | some p=>exact hk
theorem GW {k last:Option A9}(hl:Gd e last)(hm:e.fPairs=false→last=none)(hk:Dq e.fPairs last k=true):Gd (DG e k) k∧((DG e k).fPairs=false→k=none):=by
 cases k with
 | none=>
  have:e.fPairs=false:=by simpa[Dq] using hk
  rw[hm this] at hl;exact⟨hl,λ_=>rfl⟩
 | some s=>
  refine⟨⟨rfl,rfl⟩,λh=>?_⟩;have h:e.fPairs=false:=h;simp[Dq,h] at hk
theorem Iu (hA:Nv F M v):∀(f:Fo) (e:At) (S:List At) (i:Int) (sh:A2) (last:Option A9) (r:List Am),1≤f.cnt→f.wf e.fPairs last=true→e.fKey=e.fPairs→e.fLeft=f.cnt→Gd e last→(e.fPairs=false→last=none)→v.drop i.toNat=f.flat++r→0≤i→(S.length:Int)+1≤i→CA S→
   Eu (LD F v) ((e::S).reverse,i,sh) S (i+f.flat.length) (f.sh (S.length+1) sh):=by
 have hmax:∀(i:Int) (xs:List Am),0≤i→v.drop i.toNat=xs→xs.length≤v.length:=λi xs _ h=>by rw[← h,List.length_drop];omega
 intro f
 induction f with
 | nil=>intro e S i sh last r h1;simp[Fo.cnt] at h1
 | cell k c r' ih=>
  intro e S i sh last r h1 hw hk hl hlo hm hv h0 hS hb;simp only[Fo.wf,T6,TJ] at hw;obtain⟨⟨⟨w1,w2⟩,w3⟩,w4⟩:=hw;simp only[Fo.flat,Uh,List.cons_append] at hv;have hcnt:=hmax i _ h0 hv;have hcf:=CD r';simp only[TG,T9] at hcnt;have hvM:=hA.hv;have hMM:=hA.hM;simp only[Fo.cnt] at hl;have hb':CA (e::S):=λx hx=>by
   rcases List.mem_cons.1 hx with rfl | hx
   ·constructor<;>omega
   ·exact hb x hx
  have hkr:=Jr (sh:=sh) hA h0 hv hS hb' (by rw[hk];exact w1) hlo;have hv1:=DZ h0 hv;obtain⟨kl,kp⟩:=GV (e:=e) k;have hbk:CA (DG e k::S):=λx hx=>by
   rcases List.mem_cons.1 hx with rfl | hx
   ·rw[kl];exact hb' e (by simp)
   ·exact hb x hx
  have hd:=HZ (sh:=Iq k sh) hA (by omega) hv1 (by simp only[T9];omega) hbk (Ib (by rw[hk];exact w1)) w2 w3;obtain⟨q1,q2⟩:=GW hlo hm w1;have hv2:=(Dk (by omega) hv1).2.1;have:=Lw hA ih (hd.of hkr) (by rw[kl,hl];rfl) (by rw[kp];exact w4) q1 q2 hv2 (by omega) (by omega) hb;simp only[Fo.flat,Fo.sh,TG,T9];rw[show i+((((Cg k).length+(r'.flat.length+1):Nat)):Int)=i+(Cg k).length+1+r'.flat.length from by omega];exact this
 | node k c kids r' ihk ih=>
  intro e S i sh last r h1 hw hk hl hlo hm hv h0 hS hb;simp only[Fo.wf,T6,T1] at hw;obtain⟨⟨⟨⟨⟨w1,w2⟩,w3⟩,w5⟩,w6⟩,w4⟩:=hw;simp only[Fo.flat,Uh,List.cons_append] at hv;have hcnt:=hmax i _ h0 hv;have hcf:=CD r';have hck:=CD kids;simp only[TG,T9] at hcnt;have hvM:=hA.hv;have hMM:=hA.hM;simp only[Fo.cnt] at hl;have hb':CA (e::S):=λx hx=>by
   rcases List.mem_cons.1 hx with rfl | hx
   ·constructor<;>omega
   ·exact hb x hx
  have hkr:=Jr (sh:=sh) hA h0 hv hS hb' (by rw[hk];exact w1) hlo;have hv1:=DZ h0 hv;obtain⟨kl,kp⟩:=GV (e:=e) k;have hbk:CA (DG e k::S):=λx hx=>by
   rcases List.mem_cons.1 hx with rfl | hx
   ·rw[kl];exact hb' e (by simp)
   ·exact hb x hx
  have hn:=Gw (sh:=Iq k sh) hA (by omega) hv1 (by simp only[T9];omega) hbk (Ib (by rw[hk];exact w1)) w2 (by simpa using w3) (by omega);have hv2:=(Dk (by omega) hv1).2.1;have hd:=ihk ⟨decide (c.fKind=6),c.fN,decide (c.fKind=6),[],false⟩ (DG e k::S) (i+(Cg k).length+1) (EM (S.length+1) (Iq k sh) c) none _ (by omega) w6 rfl w5 rfl (λ_=>rfl) hv2 (by omega) (by simp only[T9];omega) hbk;obtain⟨q1,q2⟩:=GW hlo hm w1;have hv3:=DZ (by omega) hv2;have:=Lw hA ih ((hd.of hn).of hkr) (by rw[kl,hl];rfl) (by rw[kp];exact w4) q1 q2 hv3 (by omega) (by omega) hb;simp only[Fo.flat,Fo.sh,TG,T9];rw[show i+((((Cg k).length+(kids.flat.length+r'.flat.length+1):Nat)):Int)=i+(Cg k).length+1+kids.flat.length+r'.flat.length from by omega];exact this
end
theorem LB {S O:Type}{body:S→Option (Stp S O)}{o:O}:∀{n:Nat} {s:S} (k:Nat),Cn body n s=some o→Cn body (n+k) s=some o
 | 0,s,k,h=>by cases h
 | n+1,s,k,h=>by
  rw[show n+1+k=n+k+1 from by omega,Cn];rw[Cn] at h
  cases hb:body s with
  | none=>rw[hb] at h;cases h
  | some t=>
   rw[hb] at h
   cases t with
   | next s'=>exact LB k h
   | out o'=>exact h
theorem Fin.eq {S O:Type}{body:S→Option (Stp S O)}{s:S}{o o':O}{n:Nat}(h:Fin body s o)(h':Cn body n s=some o'):o'=o:=by
 obtain⟨k,hk⟩:=h;have:=LB k h';rw[hk n] at this;exact(AC this).symm
theorem Ke:∀{S:List At},CA S→CA (Iv S)∧(Iv S).length≤S.length
 | [],h=>⟨h,TH _⟩
 | e::S,h=>by
  have hS:CA S:=λx hx=>h x (by simp[hx]);have he:=h e (by simp);unfold Iv
  cases hd:decide (1<e.fLeft) with
  | true=>
   simp only[T1] at hd;refine⟨λx hx=>?_,by simp⟩;rcases List.mem_cons.1 hx with rfl | hx
   ·simp only;omega
   ·exact hS x hx
  | false=>
   obtain⟨h1,h2⟩:=Ke hS;exact⟨h1,by simp only[T8,T9];omega⟩
theorem Pt {n:Int}{S:List At}{i:Int}{sh:A2}{c:Am}{σ:KW}(hb:CA S)(hS:(S.length:Int)≤i)(hN:c.fN≤9223372036854775807)(h:LY n S i sh c = .next σ):∃S' sh',σ=(S'.reverse,i+1,sh')∧CA S'∧(S'.length:Int)≤i+1:=by
 unfold LY at h
 cases hp:pl c with
 | false=>simp[hp] at h
 | true=>
  simp only[hp,TA,T8] at h
  cases S with
  | nil=>
   simp only at h
   cases hn:decide (0<c.fN) with
   | false=>simp[hn] at h
   | true=>
    simp only[hn,TD] at h
    cases hm:decide (n<c.fN) with
    | true=>simp[hm] at h
    | false=>
     simp only[hm,T8,Stp.next.injEq] at h;refine⟨[_],_,h.symm,λx hx=>?_,by simp at hS ⊢;omega⟩;simp only[TL] at hx;subst hx;simp only[T1] at hn;exact⟨by simp only;omega,hN⟩
  | cons e S=>
   have he:=hb e (by simp);have hbS:CA S:=λx hx=>hb x (by simp[hx]);simp only[T9] at hS
   cases hk:e.fKey with
   | true=>
    simp only[hk,TD] at h
    cases hq:(!decide (c.fKind=4)||(e.fStarted&&(BD c.fStr e.fLast||decide (c.fStr=e.fLast)))) with
    | true=>rw[hq] at h;simp at h
    | false=>
     rw[hq] at h;simp only[T8,Stp.next.injEq] at h;refine⟨_::S,_,h.symm,λx hx=>?_,by simp only[T9];omega⟩;rcases List.mem_cons.1 hx with rfl | hx
     ·exact he
     ·exact hbS x hx
   | false=>
    simp only[hk,T8] at h
    cases hn:decide (0<c.fN) with
    | true=>
     simp only[hn,TD] at h
     cases hm:decide (n<c.fN) with
     | true=>simp[hm] at h
     | false=>
      simp only[hm,T8,Stp.next.injEq] at h;refine⟨_::e::S,_,h.symm,λx hx=>?_,by simp only[T9];omega⟩;rcases List.mem_cons.1 hx with rfl | hx
      ·simp only[T1] at hn;exact⟨by simp only;omega,hN⟩
      ·exact hb x hx
    | false=>
     simp only[hn,T8] at h
     cases hq:decide (Iv (e::S)=[]) with
     | true=>rw[hq] at h;simp at h
     | false=>
      rw[hq] at h;simp only[T8,Stp.next.injEq] at h;obtain⟨h1,h2⟩:=Ke hb;simp only[T9] at h2;exact⟨_,_,h.symm,h1,by omega⟩
theorem Jo {F M:Nat}{v:List Am}(hA:Nv F M v):∃o,Cn (LD F v) F (([]:List At),0,(⟨0,0,false,false⟩:A2))=some o∧True:=by
 refine K9 (λσ=>∃S i sh,σ=(S.reverse,i,sh)∧CA S∧(S.length:Int)≤i∧0≤i∧i≤v.length) (λσ=>v.length-σ.2.1.toNat) (λ_=>True) (λσ hI=>?_) F _ ⟨[],0,_,rfl,(λx hx=>by cases hx),Uf _,Uf _,by omega⟩ (by have:=hA.hv;have:=hA.hF;simp;omega);obtain⟨S,i,sh,rfl,hb,hS,h0,hi⟩:=hI
 by_cases hx:i<v.length
 ·obtain⟨c,hc⟩:∃c,v[i.toNat]? =some c:=⟨v[i.toNat]'(by omega),T3 (by omega)⟩
  have hdr:v.drop i.toNat=c::v.drop (i.toNat+1):=by rw[List.drop_eq_getElem_cons (by omega)];congr 1;exact(List.getElem?_eq_some_iff.1 hc).2
  have hr:=round (sh:=sh) hA h0 hdr hS hb
  cases hl:LY v.length S i sh c with
  | next τ=>
   obtain⟨S',sh',rfl,h1,h2⟩:=Pt hb hS (hA.hc c (TC hc)).2.2 hl;exact .inl ⟨_,by rw[hr,hl],⟨S',i+1,sh',rfl,h1,h2,by omega,by omega⟩,by simp only;omega⟩
  | out o=>exact .inr ⟨o,by rw[hr,hl],trivial⟩
 ·refine .inr ⟨.go sh,?_,trivial⟩;show C5 F v S.reverse i sh=_;unfold C5;rw[AQ (by simpa using hx)]
def Fo.one:Fo→Bool
 | .cell none _ .nil=>true
 | .node none _ _ .nil=>true
 | _=>false
def J2:A2:=⟨0,0,false,false⟩
theorem Ps {F M:Nat}{v:List Am}(hA:Nv F M v){f:Fo}(h1:f.one=true)(hw:f.wf false none=true){r:List Am}(hv:v=f.flat++r):Fin (LD F v) ([],0,J2) (.ret (f.flat.length,f.sh 0 J2,true)):=by
 have h0:v.drop (0:Int).toNat=f.flat++r:=by rw[hv];rfl
 have hlen:f.flat.length≤v.length:=by rw[hv];simp
 cases f with
 | nil=>cases h1
 | cell k c r'=>
  cases k with
  | some s=>cases h1
  | none=>
   cases r' with
   | nil=>
    simp only[Fo.wf,T6,TJ] at hw;have:=HZ (S:=[]) (sh:=J2) hA (Uf 0) h0 (by simp) (λx hx=>by cases hx) rfl hw.1.1.2 hw.1.2;unfold Eu at this;rw[TP (show Iv []=[] from rfl)] at this;simpa[Fo.flat,Fo.sh,Cg,Iq] using this
   | cell _ _ _=>cases h1
   | node _ _ _ _=>cases h1
 | node k c kids r'=>
  cases k with
  | some s=>cases h1
  | none=>
   cases r' with
   | nil=>
    simp only[Fo.wf,T6,T1] at hw;obtain⟨⟨⟨⟨⟨w1,w2⟩,w3⟩,w5⟩,w6⟩,w4⟩:=hw;have hck:=CD kids;simp only[Fo.flat,Cg,List.nil_append,List.append_nil,T9] at hlen;have hvM:=hA.hv;have hMM:=hA.hM;have hn:=Gw (S:=[]) (sh:=J2) hA (Uf 0) h0 (by simp) (λx hx=>by cases hx) rfl w2 (by simpa using w3) (by omega);have hv2:=(Dk (Uf 0) h0).2.1;have hd:=Iu hA kids ⟨decide (c.fKind=6),c.fN,decide (c.fKind=6),[],false⟩ [] (0+1) (EM 0 J2 c) none r (by omega) w6 rfl w5 rfl (λ_=>rfl) (by rw[hv2];simp[Fo.flat]) (by omega) (by simp) (λx hx=>by cases hx);unfold Eu at hd;rw[TP (show Iv []=[] from rfl)] at hd;have:=hn.fin hd;have e:((0:Int)+1+kids.flat.length)=((Fo.node none c kids .nil).flat.length:Int):=by simp[Fo.flat,Cg];omega
    rw[e] at this;exact this
   | cell _ _ _=>cases h1
   | node _ _ _ _=>cases h1
theorem Pr {F M:Nat}{v:List Am}(hA:Nv F M v){f:Fo}(h1:f.one=true)(hw:f.wf false none=true){r:List Am}(hv:v=f.flat++r):Hj F v=some ((f.flat.length:Int),f.sh 0 J2,true):=by
 obtain⟨o,ho,_⟩:=Jo hA;have e:=(Ps hA h1 hw hv).eq ho;subst e;unfold Hj;rw[Bd ho];rfl
def EN (m:Bool)(last:Option A9)(xs:List Am):Option (Option A9×List Am):=
 bif m then match xs with
  | []=>none
  | c::r=>bif pl c&&decide (c.fKind=4)&&Dq true last (some c.fStr) then some (some c.fStr,r) else none
 else some (none,xs)
def E2:Nat→Bool→Option A9→Nat→List Am→Option (Fo×List Am)
 | 0,_,_,_,_=>none
 | _+1,_,_,0,xs=>some (.nil,xs)
 | F+1,m,last,k+1,xs=>
  match EN m last xs with
  | none=>none
  | some (_,[])=>none
  | some (key,c::xs')=>
   bif !pl c then none else
   bif decide (0<c.fN) then
    match E2 F (decide (c.fKind=6)) none c.fN.toNat xs' with
    | none=>none
    | some (kids,ys)=>match E2 F m key k ys with
     | none=>none
     | some (r,zs)=>some (.node key c kids r,zs)
   else match E2 F m key k xs' with
    | none=>none
    | some (r,zs)=>some (.cell key c r,zs)
theorem K3 {c:Am}(hp:pl c=true)(hk:c.fKind=4):c=⟨4,0,c.fStr,0⟩∧c.fStr.all PR=true:=by
 cases c
 simp only at hk;subst hk;simp[pl] at hp;obtain⟨h1,h2,h3⟩:=hp;subst h1;subst h2;exact⟨rfl,by simpa using h3⟩
theorem IJ {m:Bool}{last key:Option A9}{xs r:List Am}(h:EN m last xs=some (key,r)):xs=Cg key++r∧Dq m last key=true:=by
 unfold EN at h
 cases m with
 | false=>cases h;exact⟨rfl,rfl⟩
 | true=>
  simp only[TD] at h
  cases xs with
  | nil=>cases h
  | cons c r'=>
   simp only at h
   cases hb:(pl c&&decide (c.fKind=4)&&Dq true last (some c.fStr)) with
   | false=>rw[hb] at h;cases h
   | true=>
    rw[hb] at h;simp only[T6,T1] at hb
    cases h
    exact⟨by rw[(K3 hb.1.1 hb.1.2).1];rfl,hb.2⟩
theorem Er:∀(F:Nat) (m:Bool) (last:Option A9) (k:Nat) (xs:List Am) (f:Fo) (ys:List Am),E2 F m last k xs=some (f,ys)→xs=f.flat++ys∧f.wf m last=true∧f.cnt=k
 | 0,_,_,_,_,_,_,h=>by cases h
 | F+1,m,last,0,xs,f,ys,h=>by cases h;exact⟨rfl,rfl,rfl⟩
 | F+1,m,last,k+1,xs,f,ys,h=>by
  rw[E2] at h
  cases hk:EN m last xs with
  | none=>rw[hk] at h;cases h
  | some p=>
   obtain⟨key,r⟩:=p;obtain⟨h1,h2⟩:=IJ hk;rw[hk] at h
   cases r with
   | nil=>cases h
   | cons c xs'=>
    simp only at h
    cases hp:pl c with
    | false=>rw[hp] at h;cases h
    | true=>
     rw[hp] at h;simp only[TA,T8] at h
     cases hn:decide (0<c.fN) with
     | true=>
      rw[hn] at h;simp only[TD] at h
      cases hq:E2 F (decide (c.fKind=6)) none c.fN.toNat xs' with
      | none=>rw[hq] at h;cases h
      | some q=>
       obtain⟨kids,zs⟩:=q;rw[hq] at h;simp only at h
       cases hr:E2 F m key k zs with
       | none=>rw[hr] at h;cases h
       | some q2=>
        obtain⟨r2,us⟩:=q2;rw[hr] at h;cases h;obtain⟨a1,a2,a3⟩:=Er F _ _ _ _ _ _ hq;obtain⟨b1,b2,b3⟩:=Er F _ _ _ _ _ _ hr;refine⟨by rw[h1,a1,b1];simp[Fo.flat],?_,by simp[Fo.cnt,b3]⟩;simp only[T1] at hn;simp only[Fo.wf,h2,hp,a2,b2,TU,TK,T6,T1];omega
     | false=>
      rw[hn] at h;simp only[T8] at h
      cases hr:E2 F m key k xs' with
      | none=>rw[hr] at h;cases h
      | some q2=>
       obtain⟨r2,us⟩:=q2;rw[hr] at h;cases h;obtain⟨b1,b2,b3⟩:=Er F _ _ _ _ _ _ hr;exact⟨by rw[h1,b1];simp[Fo.flat],by simp[Fo.wf,h2,hp,b2,hn],by simp[Fo.cnt,b3]⟩
theorem Ey:∀(F F':Nat) (m:Bool) (last:Option A9) (k:Nat) (xs:List Am),xs.length<F→xs.length<F'→E2 F m last k xs=E2 F' m last k xs
 | 0,_,_,_,_,_,h,_=>by omega
 | _+1,0,_,_,_,_,_,h=>by omega
 | F+1,F'+1,m,last,0,xs,_,_=>rfl
 | F+1,F'+1,m,last,k+1,xs,h,h'=>by
  rw[E2,E2]
  cases hk:EN m last xs with
  | none=>rfl
  | some p=>
   obtain⟨key,r⟩:=p;obtain⟨h1,h2⟩:=IJ hk
   cases r with
   | nil=>rfl
   | cons c xs'=>
    have hl:xs'.length<xs.length:=by rw[h1];simp;omega
    simp only
    cases hp:pl c with
    | false=>rfl
    | true=>
     simp only[TA,T8]
     cases hn:decide (0<c.fN) with
     | true=>
      simp only[TD];rw[Ey F F' _ _ _ xs' (by omega) (by omega)]
      cases hq:E2 F' (decide (c.fKind=6)) none c.fN.toNat xs' with
      | none=>rfl
      | some q=>
       obtain⟨kids,zs⟩:=q;have:=(Er _ _ _ _ _ _ _ hq).1;have hz:zs.length≤xs'.length:=by rw[this];simp
       simp only;rw[Ey F F' m key k zs (by omega) (by omega)]
     | false=>
      simp only[T8];rw[Ey F F' m key k xs' (by omega) (by omega)]
def MB {S:Type}(body:S→Option (Stp S Rt))(s:S):Prop:=∃sh',Fin body s (.ret (0,sh',false))∨Fin body s (.go sh')
theorem CM.bad {S:Type}{body:S→Option (Stp S Rt)}{s t:S}(h:CM body s t)(h':MB body t):MB body s:=by
 obtain⟨sh',h' | h'⟩:=h'
 ·exact⟨sh',.inl (h.fin h')⟩
 ·exact⟨sh',.inr (h.fin h')⟩
section
variable {F M : Nat} {v : List Am}
theorem MB.end_ {S:List At}{i:Int}{sh:A2}(h0:0≤i)(h:v.drop i.toNat=[]):MB (LD F v) (S.reverse,i,sh):=by
 refine⟨sh,.inr (Fin.step ?_)⟩;show C5 F v S.reverse i sh=_;unfold C5;rw[AQ];have:v.length≤i.toNat:=by simpa using h
 simp;omega
theorem MB.pl_ (hA:Nv F M v){S:List At}{i:Int}{sh:A2}{c:Am}{r:List Am}(h0:0≤i)(h:v.drop i.toNat=c::r)(hS:(S.length:Int)≤i)(hb:CA S)(hp:pl c=false):MB (LD F v) (S.reverse,i,sh):=by
 refine⟨sh,.inl (Fin.step ?_)⟩;rw[round hA h0 h hS hb];simp[LY,hp]
theorem M7 (hA:Nv F M v):∀(P:Nat) (k:Nat) (e:At) (S:List At) (i:Int) (sh:A2) (last:Option A9) (xs:List Am),xs.length<P→E2 P e.fPairs last (k+1) xs=none→e.fKey=e.fPairs→e.fLeft=(k:Int)+1→(k:Int)+1≤9223372036854775807→Gd e last→(e.fPairs=false→last=none)→v.drop i.toNat=xs→0≤i→(S.length:Int)+1≤i→CA S→
  MB (LD F v) ((e::S).reverse,i,sh):=by
 intro P
 induction P with
 | zero=>intro k e S i sh last xs h;omega
 | succ P ih=>
  intro k e S i sh last xs hP hn hk hl hkm hlo hm hv h0 hS hb;have hb':CA (e::S):=λx hx=>by
   rcases List.mem_cons.1 hx with rfl | hx
   ·constructor<;>omega
   ·exact hb x hx
  rw[E2] at hn
  cases hq:EN e.fPairs last xs with
  | none=>
   unfold EN at hq
   cases hpr:e.fPairs with
   | false=>rw[hpr] at hq;cases hq
   | true=>
    rw[hpr] at hq hk;simp only[TD] at hq
    cases xs with
    | nil=>exact MB.end_ h0 hv
    | cons c r=>
     simp only at hq
     cases hp:pl c with
     | false=>exact MB.pl_ hA h0 hv (by simpa using hS) hb' hp
     | true=>
      refine⟨sh,.inl (Fin.step ?_)⟩;rw[round hA h0 hv (by simpa using hS) hb'];have ht:(!decide (c.fKind=4)||(e.fStarted&&(BD c.fStr e.fLast||decide (c.fStr=e.fLast))))=true:=by
       rw[hp] at hq
       cases h4:decide (c.fKind=4) with
       | false=>rfl
       | true=>
        rw[h4] at hq;simp only[Bool.and_self,TK] at hq;have hok:=(K3 hp (by simpa using h4)).2
        cases last with
        | none=>simp[Dq,hok] at hq
        | some p=>
         obtain⟨q1,q2⟩:=hlo;rw[q1,q2]
         cases hc:(BD c.fStr p||decide (c.fStr=p)) with
         | true=>rfl
         | false=>simp[Dq,hok,hc] at hq
      simp only[LY,hp,hk,ht,TA,T8,TD]
  | some q=>
   obtain⟨key,r⟩:=q;obtain⟨h1,h2⟩:=IJ hq;rw[hq] at hn;have hkr:=Jr (sh:=sh) hA h0 (by rw[hv];exact h1) hS hb' (by rw[hk];exact h2) hlo;have hv1:=DZ h0 (hv.trans h1);obtain⟨kl,kp⟩:=GV (e:=e) key;obtain⟨q1,q2⟩:=GW hlo hm h2;have hbk:CA (DG e key::S):=λx hx=>by
    rcases List.mem_cons.1 hx with rfl | hx
    ·rw[kl];exact hb' e (by simp)
    ·exact hb x hx
   refine hkr.bad ?_
   cases r with
   | nil=>exact MB.end_ (by omega) hv1
   | cons c xs'=>
    have hlen:xs'.length+1≤xs.length:=by rw[h1];simp
    have hvl:xs.length≤v.length:=by rw[← hv,List.length_drop];omega
    have hvM:=hA.hv;have hMM:=hA.hM;have hkk:=Ib (e:=e) (last:=last) (k:=key) (by rw[hk];exact h2);simp only at hn;have hSk:(((DG e key::S).length:Nat):Int)≤i+(Cg key).length:=by simp only[T9];omega
    cases hp:pl c with
    | false=>exact MB.pl_ hA (by omega) hv1 hSk hbk hp
    | true=>
     rw[hp] at hn;simp only[TA,T8] at hn;obtain⟨g1,g2,g3⟩:=Dk (by omega) hv1;have hcN:=(hA.hc c (TC g1)).2.2;have more:∀(s:KW) (j:Int) (sh':A2) (zs:List Am),Eu (LD F v) s (DG e key::S) j sh'→v.drop j.toNat=zs→zs.length<P→0≤j→(S.length:Int)+1≤j→E2 P e.fPairs key k zs=none→MB (LD F v) s:=λs j sh' zs hd hz hzl hj hSj hnone=>by
      cases k with
      | zero=>
       cases P with
       | zero=>omega
       | succ P=>cases hnone
      | succ k=>
       have:=hd.more (by rw[kl];omega);refine this.bad (ih k _ S j sh' key zs hzl (by rw[kp];exact hnone) rfl (by simp only[kl];omega) (by omega) ?_ (by simpa using q2) hz hj hSj hb)
       cases key with
       | none=>exact q1
       | some p=>exact q1
     cases hN:decide (0<c.fN) with
     | true=>
      rw[hN] at hn;simp only[TD] at hn;simp only[T1] at hN
      by_cases hbig:c.fN≤v.length
      ·have hnd:=Gw (sh:=Iq key sh) hA (by omega) hv1 hSk hbk (by simpa[Ic] using hkk) hp (by simpa using hN) hbig;refine hnd.bad ?_
       cases hks:E2 P (decide (c.fKind=6)) none c.fN.toNat xs' with
       | none=>
        obtain⟨n',hn'⟩:∃n',c.fN.toNat=n'+1:=⟨c.fN.toNat-1,by omega⟩
        rw[hn'] at hks;exact ih n' _ _ _ _ none xs' (by omega) hks rfl (by simp only;omega) (by omega) rfl (λ_=>rfl) g2 (by omega) (by simp only[T9];omega) hbk
       | some q=>
        obtain⟨kids,zs⟩:=q;rw[hks] at hn;simp only at hn;have hn2:E2 P e.fPairs key k zs=none:=by
         cases hz:E2 P e.fPairs key k zs with
         | none=>rfl
         | some q=>rw[hz] at hn;cases hn
        obtain⟨a1,a2,a3⟩:=Er _ _ _ _ _ _ _ hks;have hd:=Iu hA kids ⟨decide (c.fKind=6),c.fN,decide (c.fKind=6),[],false⟩ (DG e key::S) (i+(Cg key).length+1) (EM (S.length+1) (Iq key sh) c) none zs (by omega) a2 rfl (by simp only;omega) rfl (λ_=>rfl) (by rw[g2];exact a1) (by omega) (by simp only[T9];omega) hbk;have hz:v.drop (i+(Cg key).length+1+kids.flat.length).toNat=zs:=DZ (by omega) (g2.trans a1);have hzl:zs.length≤xs'.length:=by rw[a1];simp
        exact more _ _ _ zs hd hz (by omega) (by omega) (by omega) hn2
      ·refine⟨EM (DG e key::S).length (Iq key sh) c,.inl (Fin.step ?_)⟩;rw[round hA (by omega) hv1 hSk hbk];have hbig':decide ((v.length:Int)<c.fN)=true:=by simpa using hbig
       simp only[LY,hp,hkk,hbig',hN,TA,T8,TD,decide_true]
     | false=>
      rw[hN] at hn;simp only[T8] at hn;have hn2:E2 P e.fPairs key k xs'=none:=by
       cases hz:E2 P e.fPairs key k xs' with
       | none=>rfl
       | some q=>rw[hz] at hn;cases hn
      have hd:=HZ (sh:=Iq key sh) hA (by omega) hv1 hSk hbk (by simpa[Ic] using hkk) hp hN;exact more _ _ _ xs' hd g2 (by omega) (by omega) (by omega) hn2
def EX (xs:List Am):Option (Fo×List Am):=E2 (xs.length+1) false none 1 xs
theorem MS {P:Nat}{xs ys:List Am}{f:Fo}(h:E2 P false none 1 xs=some (f,ys)):f.one=true:=by
 obtain⟨h1,h2,h3⟩:=Er _ _ _ _ _ _ _ h
 cases f with
 | nil=>cases h3
 | cell k c r=>
  cases r with
  | nil=>
   cases k with
   | none=>rfl
   | some s=>simp[Fo.wf,Dq] at h2
  | cell _ _ _=>simp[Fo.cnt] at h3
  | node _ _ _ _=>simp[Fo.cnt] at h3
 | node k c kids r=>
  cases r with
  | nil=>
   cases k with
   | none=>rfl
   | some s=>simp[Fo.wf,Dq] at h2
  | cell _ _ _=>simp[Fo.cnt] at h3
  | node _ _ _ _=>simp[Fo.cnt] at h3
theorem NY (hA:Nv F M v)(h:EX v=none):MB (LD F v) ([],0,J2):=by
 have hlf:CA []:=λx hx=>by cases hx
 unfold EX at h;rw[E2] at h;simp only[EN,T8] at h
 cases v with
 | nil=>exact MB.end_ (S:=[]) (Uf 0) rfl
 | cons c xs'=>
  have hv1:(c::xs').drop (0:Int).toNat=c::xs':=rfl;have hvM:=hA.hv;have hMM:=hA.hM;simp only at h
  cases hp:pl c with
  | false=>exact MB.pl_ (S:=[]) hA (Uf 0) hv1 (by simp) hlf hp
  | true=>
   rw[hp] at h;simp only[TA,T8] at h;have hcN:=(hA.hc c (by simp)).2.2
   cases hN:decide (0<c.fN) with
   | true=>
    rw[hN] at h;simp only[TD] at h;simp only[T1] at hN
    by_cases hbig:c.fN≤(c::xs').length
    ·have hnd:=Gw (S:=[]) (sh:=J2) hA (Uf 0) hv1 (by simp) hlf rfl hp (by simpa using hN) hbig;refine hnd.bad ?_
     cases hks:E2 (c::xs').length (decide (c.fKind=6)) none c.fN.toNat xs' with
     | none=>
      obtain⟨n',hn'⟩:∃n',c.fN.toNat=n'+1:=⟨c.fN.toNat-1,by omega⟩
      rw[hn'] at hks;exact M7 hA (c::xs').length n' ⟨decide (c.fKind=6),c.fN,decide (c.fKind=6),[],false⟩ [] (0+1) _ none xs' (by simp) hks rfl (by simp only;omega) (by omega) rfl (λ_=>rfl) rfl (by omega) (by simp) hlf
     | some q=>rw[hks] at h;cases h
    ·refine⟨EM 0 J2 c,.inl (Fin.step ?_)⟩;rw[show LD F (c::xs') (([]:List At),0,J2)=_ from round (S:=[]) hA (Uf 0) hv1 (by simp) hlf];have hbig':decide (((c::xs').length:Int)<c.fN)=true:=by simpa using hbig
     simp only[LY,hp,hbig',hN,TA,T8,TD,decide_true]
   | false=>rw[hN] at h;cases h
theorem QC (hA:Nv F M v):(∃f ys,EX v=some (f,ys)∧Hj F v=some ((f.flat.length:Int),f.sh 0 J2,true))∨(EX v=none∧∃sh',Hj F v=some (0,sh',false)):=by
 cases h:EX v with
 | some q=>
  obtain⟨f,ys⟩:=q;obtain⟨h1,h2,h3⟩:=Er _ _ _ _ _ _ _ h;exact .inl ⟨f,ys,rfl,Pr hA (MS h) h2 h1⟩
 | none=>
  refine .inr ⟨rfl,?_⟩;obtain⟨o,ho,_⟩:=Jo hA;obtain⟨sh',hb | hb⟩:=NY hA h
  ·have e:=hb.eq ho;subst e;exact⟨sh',by unfold Hj;rw[Bd ho];rfl⟩
  ·have e:=hb.eq ho;subst e;exact⟨sh',by unfold Hj;rw[Bd ho];rfl⟩
end
theorem Gp {x:Int}(h : -9223372036854775808≤x)(h':x≤9223372036854775807):IntKind.wrap .i64 x=x:=by
 simp only[IntKind.wrap,IntKind.bits,IntKind.signed];simp;omega
def Fo.dep:Fo→Nat
 | .nil=>0
 | .cell _ _ r=>max 1 r.dep
 | .node _ _ kids r=>max (kids.dep+1) r.dep
theorem DP (k:Option A9)(s:A2):(Iq k s).fDepth=s.fDepth∧(Iq k s).fOutside=s.fOutside∧(Iq k s).fLong=(s.fLong||(Cg k).any λc=>decide (200<(c.fStr.length:Int))):=by
 cases k with
 | none=>simp[Iq,Cg]
 | some x=>simp[Iq,S0,Cg]
theorem Hu:∀(f:Fo) (d:Nat) (s:A2),(d:Int)≤s.fDepth→(f.sh d s).fDepth=max s.fDepth ((d:Int)+f.dep)
 | .nil,d,s,h=>by simp only[Fo.sh,Fo.dep];omega
 | .cell k c r,d,s,h=>by
  have hk:=(DP k s).1;have e:(EM d (Iq k s) c).fDepth=max s.fDepth ((d:Int)+1):=by rw[EM,hk]
  rw[Fo.sh,Hu r d _ (by rw[e];omega),e,Fo.dep];omega
 | .node k c kids r,d,s,h=>by
  have hk:=(DP k s).1;have e:(EM d (Iq k s) c).fDepth=max s.fDepth ((d:Int)+1):=by rw[EM,hk]
  have e2:=Hu kids (d+1) (EM d (Iq k s) c) (by rw[e];omega);rw[e] at e2;rw[Fo.sh,Hu r d _ (by rw[e2];omega),e2,Fo.dep];omega
def NL (c:Am):Bool:=decide (c.fKind=3)&&!(decide ((-1000000000000)≤c.fInt)&&decide (c.fInt≤1000000000000))
def Nf (c:Am):Bool:=decide (200<(c.fStr.length:Int))
theorem LF (k:Option A9):(Cg k).any NL=false:=by cases k<;>simp[Cg,NL]
theorem Kw:∀(f:Fo) (d:Nat) (s:A2),(f.sh d s).fOutside=(s.fOutside||f.flat.any NL)
 | .nil,d,s=>by simp[Fo.sh,Fo.flat]
 | .cell k c r,d,s=>by
  rw[Fo.sh,Kw r,EM,(DP k s).2.1];simp only[Fo.flat,List.any_append,List.any_cons,LF,TF,Bool.or_assoc];rfl
 | .node k c kids r,d,s=>by
  rw[Fo.sh,Kw r,Kw kids,EM,(DP k s).2.1];simp only[Fo.flat,List.any_append,List.any_cons,LF,TF,Bool.or_assoc];rfl
theorem IG:∀(f:Fo) (d:Nat) (s:A2),(f.sh d s).fLong=(s.fLong||f.flat.any Nf)
 | .nil,d,s=>by simp[Fo.sh,Fo.flat]
 | .cell k c r,d,s=>by
  rw[Fo.sh,IG r,EM,(DP k s).2.2];simp only[Fo.flat,List.any_append,List.any_cons,Bool.or_assoc];rfl
 | .node k c kids r,d,s=>by
  rw[Fo.sh,IG r,IG kids,EM,(DP k s).2.2];simp only[Fo.flat,List.any_append,List.any_cons,Bool.or_assoc];rfl
def PT (c:Am):Int:=
 bif decide (c.fKind=1) then 4 else bif decide (c.fKind=2) then 5-c.fInt else bif decide (c.fKind=3) then((Lib.itoa c.fInt).length:Int) else
 bif decide (c.fKind=4) then HT c.fStr else 2
def KB:Option A9→Int
 | none=>0
 | some s=>HT s+1
def Fo.byt:Fo→Int
 | .nil=>0
 | .cell k c r=>KB k+PT c+r.byt
 | .node k c kids r=>KB k+(c.fN+1)+kids.byt+r.byt
theorem Jk (s:A9):2≤HT s:=by unfold HT;omega
theorem IO (k:Option A9):0≤KB k:=by
 cases k with
 | none=>exact Uf 0
 | some s=>have:=Jk s;simp only[KB];omega
theorem Nd {c:Am}(hp:pl c=true):0≤PT c:=by
 unfold PT
 cases h1:decide (c.fKind=1) with
 | true=>simp
 | false=>
  cases h2:decide (c.fKind=2) with
  | true=>
   simp[pl,h1,h2] at hp;simp only[T8,TD];omega
  | false=>
   cases h3:decide (c.fKind=3) with
   | true=>simp
   | false=>
    cases h4:decide (c.fKind=4) with
    | true=>have:=Jk c.fStr;simp only[T8,TD];omega
    | false=>simp
theorem Q3 {c:Am}(hp:pl c=true):0≤c.fN:=by
 simp only[pl,← Bool.decide_or] at hp
 cases h1:decide (c.fKind=1)<;>cases h2:decide (c.fKind=2)<;>cases h3:decide (c.fKind=3)<;>cases h4:decide (c.fKind=4)<;>cases h5:decide (c.fKind=5)<;>cases h6:decide (c.fKind=6)<;>simp[h1,h2,h3,h4,h5,h6] at hp<;>omega
theorem Q2 {c:Am}(hp:pl c=true)(hn:0<c.fN):(c.fKind=5∨c.fKind=6)∧c.fInt=0∧c.fStr=[]:=by
 cases h1:decide (c.fKind=1)<;>cases h2:decide (c.fKind=2)<;>cases h3:decide (c.fKind=3)<;>cases h4:decide (c.fKind=4)<;>cases h5:decide (c.fKind=5)<;>cases h6:decide (c.fKind=6)<;>simp[pl,h1,h2,h3,h4,h5,h6] at hp<;>(simp only[T1,T0] at *;first | omega | exact⟨by omega,hp.1,hp.2.1⟩)
theorem OG {c:Am}(hp:pl c=true)(hn:decide (0<c.fN)=false):R7 c=PT c:=by
 have hN:=Q3 hp;have h0:c.fN=0:=by simp only[T0] at hn;omega
 unfold R7 PT;rw[h0]
 cases h1:decide (c.fKind=1) with
 | true=>rfl
 | false=>
  cases h2:decide (c.fKind=2) with
  | true=>
   simp[pl,h1,h2] at hp;simp only[T8,TD];exact Gp (by omega) (by omega)
  | false=>rfl
theorem OF {c:Am}(hp:pl c=true)(hn:0<c.fN)(hm:c.fN≤9223372036854775000):R7 c=c.fN+1:=by
 obtain⟨hk,_,_⟩:=Q2 hp hn;unfold R7;rw[T7 (by omega),T7 (by omega),T7 (by omega),T7 (by omega)];simp only[T8];rw[Gp (x:=c.fN-1) (by omega) (by omega),Gp (by omega) (by omega)];omega
theorem EA:∀{f:Fo} {m:Bool} {l:Option A9},f.wf m l=true→0≤f.byt
 | .nil,_,_,_=>Uf 0
 | .cell k c r,m,l,h=>by
  simp only[Fo.wf,T6] at h;have h1:=EA h.2;have h2:=Nd h.1.1.2;have h3:=IO k;simp only[Fo.byt];omega
 | .node k c kids r,m,l,h=>by
  simp only[Fo.wf,T6,T1] at h;have h1:=EA h.2;have h2:=EA h.1.2;have h3:=IO k;simp only[Fo.byt];omega
theorem JK (k:Option A9)(s:A2)(h0:0≤s.fBytes)(h:s.fBytes+KB k≤9223372036854775807):(Iq k s).fBytes=s.fBytes+KB k:=by
 cases k with
 | none=>simp[Iq,KB]
 | some x=>
  have:=Jk x;simp only[KB] at h;simp only[Iq,S0,KB];exact Gp (by omega) (by omega)
theorem Hv:∀(f:Fo) (m:Bool) (l:Option A9) (d:Nat) (s:A2),f.wf m l=true→0≤s.fBytes→s.fBytes+f.byt≤9223372036854775000→(f.sh d s).fBytes=s.fBytes+f.byt
 | .nil,_,_,d,s,_,_,_=>by simp[Fo.sh,Fo.byt]
 | .cell k c r,m,l,d,s,hw,h0,h=>by
  simp only[Fo.wf,T6,TJ] at hw;obtain⟨⟨⟨w1,w2⟩,w3⟩,w4⟩:=hw;have h1:=EA w4;have h2:=Nd w2;have h3:=IO k;simp only[Fo.byt] at h;have e1:=JK k s h0 (by omega);have e:(EM d (Iq k s) c).fBytes=s.fBytes+KB k+PT c:=by
   rw[EM,e1,OG w2 w3];exact Gp (by omega) (by omega)
  rw[Fo.sh,Hv r _ _ d _ w4 (by rw[e];omega) (by rw[e];omega),e,Fo.byt];omega
 | .node k c kids r,m,l,d,s,hw,h0,h=>by
  simp only[Fo.wf,T6,T1] at hw;obtain⟨⟨⟨⟨⟨w1,w2⟩,w3⟩,w5⟩,w6⟩,w4⟩:=hw;have h1:=EA w4;have h2:=EA w6;have h3:=IO k;simp only[Fo.byt] at h;have e1:=JK k s h0 (by omega);have e:(EM d (Iq k s) c).fBytes=s.fBytes+KB k+(c.fN+1):=by
   rw[EM,e1,OF w2 w3 (by omega)];exact Gp (by omega) (by omega)
  have e2:=Hv kids _ _ (d+1) (EM d (Iq k s) c) w6 (by rw[e];omega) (by rw[e];omega);rw[Fo.sh,Hv r _ _ d _ w4 (by rw[e2,e];omega) (by rw[e2,e];omega),e2,e,Fo.byt];omega
def RZ (s:A9):A9:=s.flatMap λc=>bif (decide (c=34)||decide (c=92)) then[92,c] else[c]
def Q0 (s:A9):A9:=34::(RZ s++[34])
theorem LN:∀s:A9,(RZ s).length=s.length+s.count 34+s.count 92
 | []=>rfl
 | c::s=>by
  have ih:=LN s;unfold RZ at ih ⊢;rw[List.flatMap_cons,TG,ih]
  by_cases h1:c=34
  ·subst h1;simp;omega
  ·by_cases h2:c=92
   ·subst h2;simp;omega
   ·simp[h1,h2,List.count_cons];omega
theorem Ly (s:A9):((Q0 s).length:Int)=HT s:=by
 simp only[Q0,T9,TG,LN,Ui,HT];omega
def Pv (c:Am):A9:=
 bif decide (c.fKind=1) then[110,117,108,108] else
 bif decide (c.fKind=2) then(bif decide (c.fInt=1) then[116,114,117,101] else[102,97,108,115,101]) else
 bif decide (c.fKind=3) then Lib.itoa c.fInt else
 bif decide (c.fKind=4) then Q0 c.fStr else
 bif decide (c.fKind=6) then[123,125] else[91,93]
def SO:Option A9→A9
 | none=>[]
 | some s=>Q0 s++[58]
def Tj (c:Am)(s:A9):A9:=bif decide (c.fKind=6) then 123::(s++[125]) else 91::(s++[93])
def Qv (first:Bool):A9:=bif first then[] else[44]
def Fo.txt:Bool→Fo→A9
 | _,.nil=>[]
 | b,.cell k c r=>Qv b++SO k++Pv c++r.txt false
 | b,.node k c kids r=>Qv b++SO k++Tj c (kids.txt true)++r.txt false
theorem Nh (k:Option A9):((SO k).length:Int)=KB k:=by
 cases k with
 | none=>rfl
 | some s=>simp only[SO,TG,KB,Ub];have:=Ly s;omega
theorem NZ {c:Am}(hp:pl c=true):((Pv c).length:Int)=PT c:=by
  unfold Pv PT
  cases h1:decide (c.fKind=1) with
  | true=>rfl
  | false=>
    cases h2:decide (c.fKind=2) with
    | true=>
      simp[pl,h1,h2] at hp;simp only[T8,TD]
      cases h7:decide (c.fInt=1) with
      | true=>simp only[T1] at h7;simp[h7]
      | false=>
                 simp only[T0] at h7;have:c.fInt=0:=by omega
                 simp[this]
    | false=>
      cases h3:decide (c.fKind=3) with
      | true=>rfl
      | false=>
        cases h4:decide (c.fKind=4) with
        | true=>simpa using Ly c.fStr
        | false=>cases h6:decide (c.fKind=6)<;>rfl
theorem QY (c:Am)(s:A9):(Tj c s).length=s.length+2:=by
 unfold Tj
 cases decide (c.fKind=6)<;>simp
theorem IE:∀(f:Fo) (m:Bool) (l:Option A9) (b:Bool),f.wf m l=true→((f.txt b).length:Int)=f.byt+(bif b then((f.cnt-1:Nat):Int) else(f.cnt:Int))
 | .nil,m,l,b,_=>by cases b<;>rfl
 | .cell k c r,m,l,b,hw=>by
  simp only[Fo.wf,T6,TJ] at hw;obtain⟨⟨⟨w1,w2⟩,w3⟩,w4⟩:=hw;have ih:=IE r _ _ false w4;have a:=Nh k;have d:=NZ w2;simp only[T8] at ih
  cases b<;>simp only[Fo.txt,Fo.byt,Fo.cnt,Qv,TD,T8,TG,Ui,Ub]<;>omega
 | .node k c kids r,m,l,b,hw=>by
  simp only[Fo.wf,T6,T1] at hw;obtain⟨⟨⟨⟨⟨w1,w2⟩,w3⟩,w5⟩,w6⟩,w4⟩:=hw;have ih:=IE r _ _ false w4;have ih2:=IE kids _ _ true w6;have a:=Nh k;have d:=QY c (kids.txt true);simp only[T8,TD] at ih ih2
  cases b<;>simp only[Fo.txt,Fo.byt,Fo.cnt,Qv,TD,T8,TG,Ui,Ub]<;>omega
def Fo.put (k:Option A9):Fo→Fo→Fo
 | .cell _ c _,r=>.cell k c r
 | .node _ c kids _,r=>.node k c kids r
 | .nil,_=>.nil
theorem OX (P:Nat)(m:Bool)(last:Option A9)(k:Nat)(xs:List Am):E2 (P+2) m last (k+1) xs =
  match EN m last xs with
  | none=>none
  | some (key,ys)=>match E2 (P+2) false none 1 ys with
   | none=>none
   | some (f,zs)=>match E2 (P+1) m key k zs with
    | none=>none
    | some (r,us)=>some (f.put key r,us):=by
 rw[E2]
 cases hk:EN m last xs with
 | none=>rfl
 | some p=>
  obtain⟨key,ys⟩:=p;simp only;rw[E2];simp only[EN,T8]
  cases ys with
  | nil=>rfl
  | cons c ys=>
   simp only
   cases hp:pl c with
   | false=>rfl
   | true=>
    simp only[TA,T8]
    cases hn:decide (0<c.fN) with
    | true=>
     simp only[TD]
     cases hq:E2 (P+1) (decide (c.fKind=6)) none c.fN.toNat ys with
     | none=>rfl
     | some q=>
      obtain⟨kids,zs⟩:=q;simp only[E2]
      cases hr:E2 (P+1) m key k zs with
      | none=>rfl
      | some q=>obtain⟨a,b⟩:=q;rfl
    | false=>
     simp only[T8,E2]
     cases hr:E2 (P+1) m key k ys with
     | none=>rfl
     | some q=>obtain⟨a,b⟩:=q;rfl
def J9 (m:Bool)(last:Option A9)(k:Nat)(xs:List Am):Option (Fo×List Am):=E2 (xs.length+1) m last k xs
theorem HU (m:Bool)(last:Option A9)(xs:List Am):J9 m last 0 xs=some (.nil,xs):=rfl
theorem Gu (m:Bool)(last:Option A9)(k:Nat)(xs:List Am):J9 m last (k+1) xs =
  match EN m last xs with
  | none=>none
  | some (key,ys)=>match EX ys with
   | none=>none
   | some (f,zs)=>match J9 m key k zs with
    | none=>none
    | some (r,us)=>some (f.put key r,us):=by
 unfold J9 EX;rw[Ey (xs.length+1) (xs.length+2) m last (k+1) xs (by omega) (by omega),OX]
 cases hk:EN m last xs with
 | none=>rfl
 | some p=>
  obtain⟨key,ys⟩:=p;have h1:=(IJ hk).1;have hy:ys.length≤xs.length:=by rw[h1];simp
  simp only;rw[Ey (xs.length+2) (ys.length+1) false none 1 ys (by omega) (by omega)]
  cases hf:E2 (ys.length+1) false none 1 ys with
  | none=>rfl
  | some q=>
   obtain⟨f,zs⟩:=q;have h2:=(Er _ _ _ _ _ _ _ hf).1;have hz:zs.length≤ys.length:=by rw[h2];simp
   simp only;rw[Ey (xs.length+1) (zs.length+1) m key k zs (by omega) (by omega)]
   all_goals (cases E2 (zs.length+1) m key k zs<;>rfl)
theorem Rq {S O:Type}{body:S→Option (Stp S O)}{n:Nat}{s s':S}{o:O}(h:body s=some (.next s'))(h':Cn body n s'=some o):Cn body (n+1) s=some o:=by rw[Cn,h];exact h'
theorem JS {S O:Type}{body:S→Option (Stp S O)}{n:Nat}{s:S}{o:O}(h:body s=some (.out o)):Cn body (n+1) s=some o:=by rw[Cn,h]
theorem OY:EX []=none:=rfl
theorem HV (c:Am)(r:List Am):EX (c::r)=bif !pl c then none else bif decide (0<c.fN) then(match J9 (decide (c.fKind=6)) none c.fN.toNat r with
  | none=>none
  | some (kids,zs)=>some (.node none c kids .nil,zs)) else some (.cell none c .nil,r):=by
 unfold EX;rw[E2];simp only[EN,T8]
 cases hp:pl c with
 | false=>rfl
 | true=>
  simp only[TA,T8]
  cases hn:decide (0<c.fN) with
  | true=>
   simp only[TD];unfold J9;rw[T9]
   cases hq:E2 (r.length+1) (decide (c.fKind=6)) none c.fN.toNat r with
   | none=>rfl
   | some q=>obtain⟨kids,zs⟩:=q;rfl
  | false=>rfl
theorem Lz {f:Fo}(h:f.one=true)(key:Option A9)(r:Fo):(f.put key r).flat=Cg key++(f.flat++r.flat):=by
 cases f with
 | nil=>cases h
 | cell k c r'=>
  cases k with
  | some s=>cases h
  | none=>cases r' with
   | nil=>simp[Fo.put,Fo.flat,Cg]
   | cell _ _ _=>cases h
   | node _ _ _ _=>cases h
 | node k c kids r'=>
  cases k with
  | some s=>cases h
  | none=>cases r' with
   | nil=>simp[Fo.put,Fo.flat,Cg]
   | cell _ _ _=>cases h
   | node _ _ _ _=>cases h
theorem Pb {f:Fo}(h:f.one=true):1≤f.flat.length:=by
 cases f with
 | nil=>cases h
 | cell k c r'=>simp[Fo.flat];omega
 | node k c kids r'=>simp[Fo.flat];omega
theorem IK {xs ys:List Am}{f:Fo}(h:EX xs=some (f,ys)):xs=f.flat++ys∧f.wf false none=true∧f.one=true:=
 ⟨(Er _ _ _ _ _ _ _ h).1,(Er _ _ _ _ _ _ _ h).2.1,MS h⟩
def GD (v:List Am)(i:Int):Int:=match EX (v.drop i.toNat) with
 | none=>-1
 | some (f,_)=>i+f.flat.length
def H4 (m:Bool)(last:Option A9)(v:List Am)(i:Int)(k:Nat):Int:=match J9 m last k (v.drop i.toNat) with
 | none=>-1
 | some (f,_)=>i+f.flat.length
theorem JP {v:List Am}{i:Int}(h0:0≤i)(h1:i≤v.length):GD v i = -1∨(i<GD v i∧GD v i≤v.length):=by
 unfold GD
 cases h:EX (v.drop i.toNat) with
 | none=>exact .inl rfl
 | some q=>
  obtain⟨f,ys⟩:=q;obtain⟨h2,_,h3⟩:=IK h;have:=Pb h3;have hl:(v.drop i.toNat).length=f.flat.length+ys.length:=by rw[h2];simp
  rw[List.length_drop] at hl
  right;simp only;omega
structure SQ (F M:Nat) (v:List Am):Prop where
 hM:M≤1152921504606846976
 hv:v.length≤M
 hF:M<F
 hc:∀c∈v,c.fStr.length≤M
theorem NI (ok:Bool){i:Int}(h0:0≤i)(h1:i≤1152921504606846976):BW ok i=some (bif ok then i+1 else -1):=by
 unfold BW
 cases ok
 ·rfl
 ·rw[AS rfl,AY (by omega) (by omega)];rfl
theorem MR {F:Nat}{c:Am}(hF:c.fStr.length<F)(hs:c.fStr.length≤1152921504606846976):OW F c=some (decide (c.fKind=4)&&pl c):=by
 unfold OW;rw[NG hF (by omega)];simp only[Option.isSome_some,ov,TN,imp,TX,Bo,TD]
 cases h4:decide (c.fKind=4) with
 | false=>rfl
 | true=>
  simp only[T1] at h4;simp[pl,h4]
theorem Nq {v:List Am}{i:Int}{c:Am}{r:List Am}(h0:0≤i)(h:v.drop i.toNat=c::r):Ac v i=c:=by
 have:=(Dk h0 h).1;simp[Ac,this]
section
variable {M : Nat} {v : List Am}
theorem G9 {F:Nat}(hA:SQ F M v){g:List Am→Int→Option Int}{n:Int}(hn:n≤9223372036854775807):∀(L:Nat) (i x:Int),0≤i→i≤v.length→0≤x→x≤n→(∀j,i≤j→j≤v.length→g v j=some (GD v j))→v.length-i.toNat<L→
  ∃o,Cn (λσ=>CG v n g σ.1 σ.2) L (i,x)=some o∧Ca (λν=>E8 ν) o=some (H4 false none v i (n-x).toNat)
 | 0,i,x,_,_,_,_,_,h=>by omega
 | L+1,i,x,h0,h1,hx,hxn,hg,hL=>by
  cases hxl:decide (x<n) with
  | false=>
   refine⟨.go i,JS (by show CG v n g i x=_;unfold CG;rw[AQ hxl]),?_⟩;simp only[T0] at hxl;rw[show(n-x).toNat=0 from by omega];simp[Ca,E8,H4,HU,Fo.flat]
  | true=>
   have hb:CG v n g i x=B1 (decide (GD v i<0)) (some (.out (.ret (-1)))) (Bo (BQ .i64 (x+1))<|some (.next (GD v i,x+1))):=by unfold CG;rw[AS hxl,hg i (Uf i) h1,Bd rfl]
   simp only[T1] at hxl;obtain⟨k,hk⟩:∃k,(n-x).toNat=k+1:=⟨(n-x).toNat-1,by omega⟩
   rw[hk];have e:H4 false none v i (k+1)=bif decide (GD v i<0) then -1 else H4 false none v (GD v i) k:=by
    unfold H4;rw[Gu];simp only[EN,T8]
    cases hp:EX (v.drop i.toNat) with
    | none=>simp[GD,hp]
    | some q=>
     obtain⟨f,ys⟩:=q;obtain⟨q1,q2,q3⟩:=IK hp;have hi:GD v i=i+f.flat.length:=by simp[GD,hp]
     have hd:v.drop (GD v i).toNat=ys:=by rw[hi];exact DZ h0 q1
     rw[hd,T7 (by omega)];simp only[T8]
     cases hr:J9 false none k ys with
     | none=>rfl
     | some q=>
      obtain⟨r,zs⟩:=q;simp only[Lz q3,Cg,List.nil_append,TG,hi];omega
   rw[e];rcases JP (v:=v) h0 h1 with hneg | ⟨hlt,hle⟩
   ·exact⟨.ret (-1),JS (hb.trans (by rw[hneg,AS (by decide)])),by rw[hneg];rfl⟩
   ·have hM:=hA.hM;have hvM:=hA.hv;obtain⟨o,ho1,ho2⟩:=G9 hA hn L (GD v i) (x+1) (by omega) hle (by omega) (by omega) (λj hj=>hg j (by omega)) (by omega);exact⟨o,Rq (hb.trans (by rw[AQ (T7 (by omega)),AY (by omega) (by omega)])) ho1,by rw[ho2,show(n-(x+1)).toNat=k from by omega,T7 (by omega)];rfl⟩
theorem Ji {F:Nat}(hA:SQ F M v){g:List Am→Int→Option Int}{n:Int}(hn:n≤9223372036854775807):∀(L:Nat) (i x:Int) (last:A9),0≤i→i≤v.length→0≤x→x≤n→(∀j,i≤j→j≤v.length→g v j=some (GD v j))→v.length-i.toNat<L→
  ∃o,Cn (λσ=>CY F v n g σ.1 σ.2.1 σ.2.2) L (i,last,x)=some o∧Ca (λν=>HS ν) o=some (H4 true (bif decide (0<x) then some last else none) v i (n-x).toNat)
 | 0,i,x,_,_,_,_,_,_,h=>by omega
 | L+1,i,x,last,h0,h1,hx,hxn,hg,hL=>by
  have hM:=hA.hM;have hvM:=hA.hv;have hMF:=hA.hF
  cases hxl:decide (x<n) with
  | false=>
   refine⟨.go i,JS (by show CY F v n g i last x=_;unfold CY;rw[AQ hxl]),?_⟩;simp only[T0] at hxl;rw[show(n-x).toNat=0 from by omega];simp[Ca,HS,H4,HU,Fo.flat]
  | true=>
   have hxl':=hxl;simp only[T1] at hxl;obtain⟨k,hk⟩:∃k,(n-x).toNat=k+1:=⟨(n-x).toNat-1,by omega⟩
   rw[hk]
   cases hd:v.drop i.toNat with
   | nil=>
    have hl:v.length≤i.toNat:=by simpa using hd
    refine⟨.ret (-1),JS (by
     show CY F v n g i last x=_;unfold CY;rw[AS hxl',Bu (by simp[imp,show(v.length:Int)≤i from by omega]),Bu (by simp[imp,show(v.length:Int)≤i from by omega]),AS (by simp[show(v.length:Int)≤i from by omega])]),?_⟩
    simp[Ca,H4,hd,Gu,EN]
   | cons c r=>
    obtain⟨g1,g2,g3⟩:=Dk h0 hd;have hcM:=hA.hc c (TC g1);have hat:=Nq h0 hd;have hnl:decide ((v.length:Int)≤i)=false:=by simp;omega
    have hb:CY F v n g i last x=B1 (!(decide (c.fKind=4)&&pl c)||decide (0<x)&&(BD c.fStr last||decide (c.fStr=last))) (some (.out (.ret (-1)))) (BM (g v (i+1)) λha=>B1 (decide (ha<0)) (some (.out (.ret (-1)))) (Bo (BQ .i64 (x+1))<|some (.next (ha,c.fStr,x+1)))):=by
     unfold CY;rw[AS hxl',Bu (by simp only[imp];rw[Pz h0 g3];simp),hat,MR (by omega) (by omega),Bu (by simp[imp])];simp only[hnl,ov,TN,TF];rw[C3 h0 g3,AY (by omega) (by omega)]
    have hpk:EN true (bif decide (0<x) then some last else none) (c::r)=bif (!(decide (c.fKind=4)&&pl c)||decide (0<x)&&(BD c.fStr last||decide (c.fStr=last))) then none else some (some c.fStr,r):=by
     simp only[EN,TD]
     cases h4:decide (c.fKind=4) with
     | false=>simp
     | true=>
      cases hp:pl c with
      | false=>simp
      | true=>
       have hok:=(K3 hp (by simpa using h4)).2
       cases h0x:decide (0<x) with
       | false=>simp[Dq,hok]
       | true=>cases hs:(BD c.fStr last||decide (c.fStr=last))<;>simp[Dq,hok,hs]
    cases ht:(!(decide (c.fKind=4)&&pl c)||decide (0<x)&&(BD c.fStr last||decide (c.fStr=last))) with
    | true=>
     rw[ht] at hpk;refine⟨.ret (-1),JS (hb.trans (AS ht)),?_⟩;simp only[H4,hd,Gu,hpk,TD];rfl
    | false=>
     rw[ht] at hpk;rw[AQ ht,hg (i+1) (by omega) (by omega),Bd rfl] at hb;have e:H4 true (bif decide (0<x) then some last else none) v i (k+1)=bif decide (GD v (i+1)<0) then -1 else H4 true (some c.fStr) v (GD v (i+1)) k:=by
      unfold H4;rw[hd,Gu,hpk];simp only[T8];have hx:GD v (i+1)=match EX r with | none=>-1 | some (f,_)=>i+1+f.flat.length:=by unfold GD;rw[g2]
      cases hp:EX r with
      | none=>rw[hp] at hx;simp[hx]
      | some q=>
       obtain⟨f,ys⟩:=q;obtain⟨q1,q2,q3⟩:=IK hp;rw[hp] at hx;simp only at hx;have hd2:v.drop (GD v (i+1)).toNat=ys:=by rw[hx];exact DZ (by omega) (g2.trans q1)
       rw[hd2,T7 (by omega)];simp only[T8]
       cases hr:J9 true (some c.fStr) k ys with
       | none=>rfl
       | some q=>
        obtain⟨r',zs⟩:=q;simp only[Lz q3,Cg,TG,T9,Ui,hx];omega
     rw[e];rcases JP (v:=v) (i:=i+1) (by omega) (by omega) with hneg | ⟨hlt,hle⟩
     ·exact⟨.ret (-1),JS (hb.trans (by rw[hneg,AS (by decide)])),by rw[hneg];rfl⟩
     ·obtain⟨o,ho1,ho2⟩:=Ji hA hn L (GD v (i+1)) (x+1) c.fStr (by omega) hle (by omega) (by omega) (λj hj=>hg j (by omega)) (by omega);exact⟨o,Rq (hb.trans (by rw[AQ (T7 (by omega)),AY (by omega) (by omega)])) ho1,by rw[ho2,show(n-(x+1)).toNat=k from by omega,T4 (show(0:Int)<x+1 from by omega),T7 (by omega)];rfl⟩
theorem L8 {i:Int}{c:Am}{r:List Am}(h0:0≤i)(hd:v.drop i.toNat=c::r)(hp:pl c=true):GD v i=H4 (decide (c.fKind=6)) none v (i+1) c.fN.toNat:=by
 have g2:=(Dk h0 hd).2.1;have hN:=Q3 hp;unfold GD H4;rw[hd,HV,g2,hp];simp only[TA,T8]
 cases hn:decide (0<c.fN) with
 | true=>
  simp only[TD]
  cases hq:J9 (decide (c.fKind=6)) none c.fN.toNat r with
  | none=>rfl
  | some q=>
   obtain⟨kids,zs⟩:=q;simp only[Fo.flat,Cg,List.nil_append,T9,List.append_nil];omega
 | false=>
  simp only[T0] at hn;rw[show c.fN.toNat=0 from by omega,HU];simp[Fo.flat,Cg]
theorem OV (hA:SQ (M+1) M v)(hN:∀c∈v,c.fN≤9223372036854775807):∀(d F:Nat) (i:Int),0≤i→i≤v.length→v.length-i.toNat=d→M+2*d+3<F→JM F v i=some (GD v i):=by
 have hM:=hA.hM;have hvM:=hA.hv;intro d
 induction d using Nat.strongRecOn with
 | ind d ih=>
  intro F i h0 h1 hd hF;obtain⟨F,rfl⟩:∃G,F=G+1:=⟨F-1,by omega⟩
  obtain⟨F,rfl⟩:∃G,F=G+1:=⟨F-1,by omega⟩
  rw[JM];unfold OU
  cases hdr:v.drop i.toNat with
  | nil=>
   have hl:v.length≤i.toNat:=by simpa using hdr
   rw[AS (by simp;omega)];simp[GD,hdr,OY]
  | cons c r=>
   obtain⟨g1,g2,g3⟩:=Dk h0 hdr;have hcM:=hA.hc c (TC g1);have hcN:=hN c (TC g1);rw[AQ (by simp;omega),C3 h0 g3,Nq h0 hdr];simp only[NI _ h0 (show i≤1152921504606846976 by omega),Option.isSome_some,ov,TN,imp,TX,Bu (x:=_) (rfl:true=true)];have hg:∀j,i+1≤j→j≤v.length→JM F v j=some (GD v j):=λj hj hj2=>ih (v.length-j.toNat) (by omega) F j (by omega) hj2 rfl (by omega);have hpl0:pl c=false→GD v i = -1:=λhp=>by simp[GD,hdr,HV,hp]
   have hleaf:pl c=true→c.fN=0→GD v i=i+1:=λhp h0'=>by simp[GD,hdr,HV,hp,h0',Fo.flat,Cg]
   have hscal:∀b:Bool,pl c=b→(b=true→c.fN=0)→GD v i=bif b then i+1 else -1:=λb hb hz=>by
    cases b
    ·exact hpl0 hb
    ·exact hleaf hb (hz rfl)
   by_cases k1:c.fKind=1
   ·rw[AS (by simp[k1])];have hp:pl c=(decide (c.fInt=0)&&(decide (c.fStr=[])&&decide (c.fN=0))):=by simp[pl,k1]
    rw[hscal _ hp (λh=>by simp at h;exact h.2.2)]
    cases decide (c.fInt=0)<;>cases decide (c.fStr=[])<;>cases decide (c.fN=0)<;>rfl
   rw[AQ (by simp[k1])]
   by_cases k2:c.fKind=2
   ·rw[AS (by simp[k2])];have hp:pl c=((decide (c.fInt=0)||decide (c.fInt=1))&&(decide (c.fStr=[])&&decide (c.fN=0))):=by simp[pl,k2]
    rw[hscal _ hp (λh=>by simp at h;exact h.2.2)]
    cases decide (c.fInt=0)<;>cases decide (c.fInt=1)<;>cases decide (c.fStr=[])<;>cases decide (c.fN=0)<;>rfl
   rw[AQ (by simp[k2])]
   by_cases k3:c.fKind=3
   ·rw[AS (by simp[k3])];have hp:pl c=(decide (c.fStr=[])&&decide (c.fN=0)):=by simp[pl,k3]
    rw[hscal _ hp (λh=>by simp at h;exact h.2)]
    cases decide (c.fStr=[])<;>cases decide (c.fN=0)<;>rfl
   rw[AQ (by simp[k3])]
   by_cases k4:c.fKind=4
   ·rw[AS (by simp[k4]),MR (by omega) (by omega),Bd rfl,Bd rfl];rw[T4 k4,TK,hscal (pl c) rfl (λhp=>by have:=(K3 hp k4).1;rw[this])]
   rw[AQ (by simp[k4])]
   by_cases k5:c.fKind=5
   ·have hp:pl c=(decide (c.fInt=0)&&(decide (c.fStr=[])&&decide (0≤c.fN))):=by simp[pl,k5]
    rw[show(decide (c.fKind=5)&&(decide (c.fInt=0)&&(decide (c.fStr=[])&&decide (0≤c.fN))))=pl c from by rw[hp,T4 k5,TK]];have k5' : ¬ c.fKind=6:=by omega
    cases hb:pl c with
    | false=>rw[AQ rfl,AQ (by simp[k5]),hpl0 hb]
    | true=>
     have hn0:=Q3 hb;rw[AS rfl,AY (by omega) (by omega),JN];unfold Jj;obtain⟨o,ho1,ho2⟩:=G9 (F:=F) ⟨hM,hvM,by omega,hA.hc⟩ hcN F (i+1) 0 (by omega) (by omega) (Uf 0) hn0 hg (by omega);rw[Bd ho1,ho2,Bd rfl,L8 h0 hdr hb,T7 k5',Int.sub_zero]
   rw[AQ (by simp[k5])]
   by_cases k6:c.fKind=6
   ·have hp:pl c=(decide (c.fInt=0)&&(decide (c.fStr=[])&&decide (0≤c.fN))):=by simp[pl,k6]
    rw[show(decide (c.fKind=6)&&(decide (c.fInt=0)&&(decide (c.fStr=[])&&decide (0≤c.fN))))=pl c from by rw[hp,T4 k6,TK]]
    cases hb:pl c with
    | false=>rw[AQ rfl,hpl0 hb]
    | true=>
     have hn0:=Q3 hb;rw[AS rfl,AY (by omega) (by omega),OT];unfold MQ;obtain⟨o,ho1,ho2⟩:=Ji (F:=F) ⟨hM,hvM,by omega,hA.hc⟩ hcN F (i+1) 0 [] (by omega) (by omega) (Uf 0) hn0 hg (by omega);rw[Bd ho1,ho2,Bd rfl,L8 h0 hdr hb,T4 k6,Int.sub_zero];rfl
   ·rw[AQ (by simp[k6]),hpl0 (by simp[pl,k1,k2,k3,k4,k5,k6])]
end
structure Mb (M:Nat) (v:List Am):Prop where
 hM:M≤1000000000
 hv:v.length≤M
 hc:∀c∈v,c.fStr.length≤M∧BQ .i64 c.fInt=true∧c.fN≤9223372036854775807
theorem Mb.lk {M F:Nat}{v:List Am}(h:Mb M v)(hF:M<F):Nv F M v:=⟨by have:=h.hM;omega,by have:=h.hM;omega,h.hv,hF,h.hc⟩
theorem Mb.rf {M F:Nat}{v:List Am}(h:Mb M v)(hF:M<F):SQ F M v:=⟨by have:=h.hM;omega,h.hv,hF,λc hc=>(h.hc c hc).1⟩
theorem Mb.drop {M:Nat}{v:List Am}(h:Mb M v)(k:Nat):Mb M (v.drop k):=⟨h.hM,by have:=h.hv;rw[List.length_drop];omega,λc hc=>h.hc c (List.mem_of_mem_drop hc)⟩
theorem Mb.take {M:Nat}{v:List Am}(h:Mb M v)(k:Nat):Mb M (v.take k):=⟨h.hM,by have:=h.hv;rw[List.length_take];omega,λc hc=>h.hc c (List.mem_of_mem_take hc)⟩
def whole (v:List Am):Option Fo:=match EX v with
 | some (f,[])=>some f
 | _=>none
def SJ (f:Fo):Int:=
 bif f.flat.any NL then 2 else bif f.flat.any Nf||(decide (200<f.flat.length)||(decide (8<f.dep)||decide (4000<(f.txt true).length))) then 3 else 0
def SI (v:List Am):Int:=match whole v with
 | none=>1
 | some f=>SJ f
theorem Q6 {f:Fo}(h1:f.one=true):f.cnt=1:=by
 cases f with
 | nil=>cases h1
 | cell k c r=>cases k with
  | some _=>cases h1
  | none=>cases r with
   | nil=>rfl
   | _=>cases h1
 | node k c kids r=>cases k with
  | some _=>cases h1
  | none=>cases r with
   | nil=>rfl
   | _=>cases h1
theorem K2 (s:A9):HT s≤2*s.length+2+s.length:=by
 have h1:s.count 34≤s.length:=List.count_le_length;have h2:s.count 92≤s.length:=List.count_le_length;unfold HT;omega
theorem RH {c:Am}{M:Nat}(hp:pl c=true)(hs:c.fStr.length≤M)(hi:(Lib.itoa c.fInt).length≤21):PT c≤3*M+21:=by
 have:=K2 c.fStr;unfold PT
 cases h1:decide (c.fKind=1) with
 | true=>simp only[TD];omega
 | false=>
  cases h2:decide (c.fKind=2) with
  | true=>
   simp[pl,h1,h2] at hp;simp only[T8,TD];omega
  | false=>
   cases h3:decide (c.fKind=3) with
   | true=>simp only[T8,TD];omega
   | false=>cases h4:decide (c.fKind=4)<;>simp only[T8,TD]<;>omega
theorem KN {M:Nat}:∀{f:Fo} {m:Bool} {l:Option A9},f.wf m l=true→(∀c∈f.flat,c.fStr.length≤M∧BQ .i64 c.fInt=true∧c.fN≤9223372036854775807)→f.byt+f.cnt≤(3*M+24)*f.flat.length
 | .nil,_,_,_,_=>by simp[Fo.byt,Fo.flat,Fo.cnt]
 | .cell k c r,m,l,hw,hc=>by
  simp only[Fo.wf,T6,TJ] at hw;obtain⟨⟨⟨w1,w2⟩,w3⟩,w4⟩:=hw;simp only[Fo.flat] at hc;have ih:=KN w4 (λx hx=>hc x (by simp[hx]));obtain⟨c1,c2,c3⟩:=hc c (by simp);have i64:=Gy c2;have hl:=RH w2 c1 (Lib.itoa_length_le c.fInt i64.1 i64.2);have hk:KB k≤(3*M+24)*(Cg k).length:=by
   cases k with
   | none=>simp[KB,Cg]
   | some s=>
    have:=(hc ⟨4,0,s,0⟩ (by simp[Cg])).1;have h2:=K2 s;simp only at this;simp only[KB,Cg,Ub];omega
  simp only[Fo.byt,Fo.flat,Fo.cnt,TG,T9];have e:((3*(M:Int)+24)*(((Cg k).length+(r.flat.length+1):Nat):Int))=(3*(M:Int)+24)*(Cg k).length+((3*(M:Int)+24)*r.flat.length+(3*(M:Int)+24)):=by
   push_cast;rw[Int.mul_add,Int.mul_add,Int.mul_one]
  rw[e]
  push_cast at *
  omega
 | .node k c kids r,m,l,hw,hc=>by
  simp only[Fo.wf,T6,T1] at hw;obtain⟨⟨⟨⟨⟨w1,w2⟩,w3⟩,w5⟩,w6⟩,w4⟩:=hw;simp only[Fo.flat] at hc;have ih:=KN w4 (λx hx=>hc x (by simp[hx]));have ih2:=KN w6 (λx hx=>hc x (by simp[hx]));have hcf:=CD kids;have hk:KB k≤(3*M+24)*(Cg k).length:=by
   cases k with
   | none=>simp[KB,Cg]
   | some s=>
    have:=(hc ⟨4,0,s,0⟩ (by simp[Cg])).1;have h2:=K2 s;simp only at this;simp only[KB,Cg,Ub];omega
  simp only[Fo.byt,Fo.flat,Fo.cnt,TG,T9];have e:((3*(M:Int)+24)*(((Cg k).length+(kids.flat.length+r.flat.length+1):Nat):Int))=(3*(M:Int)+24)*(Cg k).length+((3*(M:Int)+24)*kids.flat.length+(3*(M:Int)+24)*r.flat.length+(3*(M:Int)+24)):=by
   push_cast;rw[Int.mul_add,Int.mul_add,Int.mul_add,Int.mul_one]
  rw[e]
  push_cast at *
  omega
theorem Oj {M:Nat}(hM:M≤1000000){f:Fo}{m:Bool}{l:Option A9}(hw:f.wf m l=true)(hl:f.flat.length≤M)(hc:∀c∈f.flat,c.fStr.length≤M∧BQ .i64 c.fInt=true∧c.fN≤9223372036854775807):f.byt≤4000000000000:=by
 have:=KN (M:=M) hw hc;have h2:(3*M+24)*f.flat.length≤(3*1000000+24)*1000000:=Nat.mul_le_mul (by omega) (by omega);have h3:(((3*M+24)*f.flat.length:Nat):Int)=(3*(M:Int)+24)*f.flat.length:=by push_cast;rfl
 omega
theorem N5 {M F:Nat}{v:List Am}(hA:Mb M v)(hM:M≤1000000)(hF:M<F):Ja F v=some (SI v):=by
 unfold Ja SI whole;have hvM:=hA.hv;rcases QC (hA.lk hF) with⟨f,ys,hp,hl⟩ | ⟨hp,sh',hl⟩
 ·rw[hl,Bd rfl,hp];obtain⟨h1,h2,h3⟩:=IK hp;have hlen:v.length=f.flat.length+ys.length:=by rw[h1];simp
  cases ys with
  | cons c r=>
   rw[AS];simp only[T9] at hlen;simp;omega
  | nil=>
   simp only[Ui,Nat.add_zero] at hlen;rw[AQ (by simp[hlen])];have hc:∀c∈f.flat,c.fStr.length≤M∧BQ .i64 c.fInt=true∧c.fN≤9223372036854775807:=λc hc=>hA.hc c (by rw[h1];simp[hc]);have hb:=Oj hM h2 (by omega) hc;have hb0:=EA h2;have e1:(f.sh 0 J2).fOutside=f.flat.any NL:=by rw[Kw];rfl
   have e2:(f.sh 0 J2).fLong=f.flat.any Nf:=by rw[IG];rfl
   have e3:(f.sh 0 J2).fDepth=f.dep:=by rw[Hu f 0 J2 (by simp[J2])];simp[J2]
   have e4:(f.sh 0 J2).fBytes=(f.txt true).length:=by
    rw[Hv f false none 0 J2 h2 (by simp[J2]) (by simp[J2];omega),IE f false none true h2,Q6 h3];simp[J2]
   simp only;rw[e1,e2,e3,e4,hlen];unfold SJ
   cases f.flat.any NL with
   | true=>rw[AS rfl];rfl
   | false=>
    rw[AQ rfl];have a1:decide ((200:Int)<(f.flat.length:Int))=decide (200<f.flat.length):=by rw[TZ];simp;omega
    have a2:decide ((8:Int)<(f.dep:Int))=decide (8<f.dep):=by rw[TZ];simp;omega
    have a3:decide ((4000:Int)<((f.txt true).length:Int))=decide (4000<(f.txt true).length):=by rw[TZ];simp;omega
    rw[a1,a2,a3]
    cases(f.flat.any Nf||(decide (200<f.flat.length)||(decide (8<f.dep)||decide (4000<(f.txt true).length))))<;>rfl
 ·rw[hl,Bd rfl,hp];rfl
section
variable {M : Nat} {v : List Am}
theorem Mb.next (hA:Mb M v){F:Nat}(hF:3*M+3<F){p:Int}(h0:0≤p)(h1:p≤v.length):JM F v p=some (GD v p):=by
 have hM:=hA.hM;have hvM:=hA.hv;exact OV (hA.rf (Ue M)) (λc hc=>(hA.hc c hc).2.2) (v.length-p.toNat) F p h0 h1 rfl (by omega)
end
theorem Hz {R V:Type}(K:V→Option R)(v:V):Ca K (.go v)=K v:=rfl
section
variable {M : Nat} {v : List Am}
end
section
variable {M : Nat} {v : List Am}
end
section
variable {M : Nat}
end
section
variable {M : Nat}
end
def OL (v:List Am):Bool:=!decide (300<v.length)&&v.all λc=>!decide (300<c.fStr.length)
def Pg (c:Am):Bool:=BQ .i64 c.fKind&&BQ .i64 c.fInt&&PS c.fStr&&BQ .i64 c.fN
theorem Mb.of {v:List Am}(hs:OL v=true)(hc:v.all Pg=true):Mb 300 v:=by
 unfold OL at hs;simp only[T6,TJ,T0,TO] at hs hc;refine⟨by decide,by omega,λc h=>?_⟩;obtain h1:=hs.2 c h;obtain h2:=hc c h;unfold Pg at h2;simp only[T6] at h2;exact⟨by omega,h2.1.1.2,(Gy h2.2).2⟩
theorem RS (a:Bool):imp a true=true:=by cases a<;>rfl
section
variable {M : Nat}
end
theorem QA {α:Type}{l:List α}{body:Int→Option (Stp Int (Out Bool Unit))}{bad:α→Bool}(hb:∀(i:Nat) (h:i<l.length),body (i:Int)=some (bif bad l[i] then .out (.ret false) else .next ((i:Int)+1)))(he:body (l.length:Int)=some (.out (.go ()))) :
  ∀(d n i:Nat),i+d=l.length→d<n→∃o,Cn body n (i:Int)=some o∧∀k:Option Bool,Ca (λ_=>k) o=bif (l.drop i).any bad then some false else k:=by
 intro d
 induction d with
 | zero=>
  intro n i h hn;obtain⟨n,rfl⟩:∃m,n=m+1:=⟨n-1,by omega⟩
  obtain rfl:i=l.length:=by omega
  refine⟨.go (),by rw[Cn,he],λk=>?_⟩;rw[List.drop_length];rfl
 | succ d ih=>
  intro n i h hn;obtain⟨n,rfl⟩:∃m,n=m+1:=⟨n-1,by omega⟩
  have hi:i<l.length:=by omega
  have hd:=List.drop_eq_getElem_cons hi;have h1:=hb i hi
  cases hq:bad l[i] with
  | true=>
   rw[hq] at h1;refine⟨.ret false,by rw[Cn,h1];rfl,λk=>?_⟩;rw[hd,List.any_cons,hq];rfl
  | false=>
   rw[hq] at h1;obtain⟨o,h2,h3⟩:=ih n (i+1) (by omega) (by omega);refine⟨o,by rw[Cn,h1];exact h2,λk=>?_⟩;rw[h3 k,hd,List.any_cons,hq,TF]
theorem LC {α:Type}{l:List α}{body:Int→Option (Stp Int (Out Bool Unit))}{bad:α→Bool}{F:Nat}(hF:l.length<F)(hb:∀(i:Nat) (h:i<l.length),body (i:Int)=some (bif bad l[i] then .out (.ret false) else .next ((i:Int)+1)))(he:body (l.length:Int)=some (.out (.go ())))(k:Option Bool) :
  BM (Cn body F 0) (Ca λ_=>k)=bif l.any bad then some false else k:=by
 obtain⟨o,h1,h2⟩:=QA hb he l.length F 0 (by omega) hF;have h1':Cn body F 0=some o:=h1;rw[Bd h1',h2 k,List.drop_zero]
theorem DM {α:Type}(n:Nat)(f:List α):decide (((n:Nat):Int)<(f.length:Int))=decide (n<f.length):=by rw[TZ];simp
theorem Gl {α:Type}[Inhabited α]{l:List α}{i:Nat}(h:i<l.length):Ac l (i:Int)=l[i]:=by simp[Ac,h]
def Ok (e:Av):Bool:=decide (300<e.fID.length)||(decide (300<e.fTenant.length)||(decide (300<e.fSource.length)||(decide (300<e.fKey.length)||(decide (300<e.fCause.length)||decide (300<e.fBody.length)))))
def CO (e:Av):Bool:=!Ok e&&!e.fBody.any λc=>decide (5000<c.fStr.length)
theorem Jh {F:Nat}(hF:300<F)(e:Av):BE F e=some (CO e):=by
 unfold BE CO;have hbig:((decide (300<(e.fID.length:Int)))||((decide (300<(e.fTenant.length:Int)))||((decide (300<(e.fSource.length:Int)))||((decide (300<(e.fKey.length:Int)))||((decide (300<(e.fCause.length:Int)))||(decide (300<(e.fBody.length:Int))))))))=Ok e:=by
  unfold Ok;rw[← DM 300 e.fID,← DM 300 e.fTenant,← DM 300 e.fSource,← DM 300 e.fKey,← DM 300 e.fCause,← DM 300 e.fBody];rfl
 rw[hbig]
 cases hb:Ok e with
 | true=>rfl
 | false=>
  have hl:e.fBody.length≤300:=by
   unfold Ok at hb;simp only[Ua,T0] at hb;omega
  have h:=LC (l:=e.fBody) (F:=F) (body:=λσ=>BV e σ) (bad:=λc=>decide (5000<c.fStr.length)) (by omega) (λi h=>by
   unfold BV;rw[AS (T4 (by omega)),C3 (by omega) (by omega),Gl h,AY (by omega) (by omega)];have:=DM 5000 (e.fBody[i]).fStr;rw[show decide ((5000:Int)<((e.fBody[i]).fStr.length:Int))=decide (5000<(e.fBody[i]).fStr.length) from this]
   cases decide (5000<(e.fBody[i]).fStr.length)<;>rfl) (by unfold BV;rw[AQ (T7 (by omega))]) (some true)
  rw[AQ rfl];exact h.trans (by cases e.fBody.any _<;>rfl)
def Iw (o:AU):Bool:=!CO o.fEvent||decide (300<o.fReceipt.length)
def Ht (l:List AU):Bool:=!decide (300<l.length)&&!l.any Iw
theorem LE {F:Nat}(hF:300<F)(l:List AU):Ge F l=some (Ht l):=by
 unfold Ge Ht;rw[show decide ((300:Int)<(l.length:Int))=decide (300<l.length) from DM 300 l]
 cases hb:decide (300<l.length) with
 | true=>rfl
 | false=>
  simp only[T0] at hb;have h:=LC (l:=l) (F:=F) (body:=λσ=>CB F l σ) (bad:=Iw) (by omega) (λi h=>by
   unfold CB;rw[AS (T4 (by omega)),C3 (by omega) (by omega),Gl h,Jh hF,Option.isSome_some,Bu rfl,AY (by omega) (by omega),show decide ((300:Int)<((l[i]).fReceipt.length:Int))=decide (300<(l[i]).fReceipt.length) from DM 300 _];have:((!(ov (some (CO (l[i]).fEvent))))||(decide (300<((l[i]).fReceipt).length)))=Iw l[i]:=rfl;rw[this]
   cases Iw l[i]<;>rfl) (by unfold CB;rw[AQ (T7 (by omega))]) (some true)
  rw[AQ rfl];exact h.trans (by cases l.any _<;>rfl)
theorem Jf:∀a:A9,BD a a=false
 | []=>rfl
 | x::a=>by
  show Op.bytesLess (x::a) (x::a)=false;have h : ¬ x<x:=λh=>absurd h (by simp);have ih:Op.bytesLess a a=false:=Jf a;simp[Op.bytesLess,h,ih]
theorem Kt (x y:UInt8)(a b:A9):BD (x::a) (y::b)=(decide (x<y)||(decide (x=y)&&BD a b)):=by
 show Op.bytesLess (x::a) (y::b)=_;simp only[Op.bytesLess]
 by_cases h:x<y
 ·simp[h]
 ·by_cases e:x=y
  ·subst e;simp[h]
  ·have:y<x:=by
    rcases Nat.lt_trichotomy x.toNat y.toNat with h1 | h1 | h1
    ·exact absurd (UInt8.lt_iff_toNat_lt.2 h1) h
    ·exact absurd (UInt8.toNat_inj.1 h1) e
    ·exact UInt8.lt_iff_toNat_lt.2 h1
   simp[h,e,this]
theorem Je:∀{a b c:A9},BD a b=true→BD b c=true→BD a c=true
 | [],[],_,h,_=>by cases h
 | [],_::_,[],_,h=>by cases h
 | [],_::_,_::_,_,_=>rfl
 | _::_,[],_,h,_=>by cases h
 | _::_,_::_,[],_,h=>by cases h
 | x::a,y::b,z::c,h,h'=>by
  rw[Kt] at h h' ⊢;simp only[TS,T1,T6] at h h' ⊢;have t:∀{u v:UInt8},u<v↔u.toNat<v.toNat:=UInt8.lt_iff_toNat_lt;rcases h with h | ⟨rfl,h⟩
  ·rcases h' with h' | ⟨rfl,h'⟩
   ·exact .inl (t.2 (Nat.lt_trans (t.1 h) (t.1 h')))
   ·exact .inl h
  ·rcases h' with h' | ⟨rfl,h'⟩
   ·exact .inl h'
   ·exact .inr ⟨rfl,Je h h'⟩
theorem Ls:∀(a b:A9),BD a b=true∨a=b∨BD b a=true
 | [],[]=>.inr (.inl rfl)
 | [],_::_=>.inl rfl
 | _::_,[]=>.inr (.inr rfl)
 | x::a,y::b=>by
  rw[Kt,Kt];simp only[TS,T1,T6];rcases Nat.lt_trichotomy x.toNat y.toNat with h1 | h1 | h1
  ·exact .inl (.inl (UInt8.lt_iff_toNat_lt.2 h1))
  ·have e:=UInt8.toNat_inj.1 h1;subst e;rcases Ls a b with h | rfl | h
   ·exact .inl (.inr ⟨rfl,h⟩)
   ·exact .inr (.inl rfl)
   ·exact .inr (.inr (.inr ⟨rfl,h⟩))
  ·exact .inr (.inr (.inl (UInt8.lt_iff_toNat_lt.2 h1)))
theorem Sz {a b:A9}(h:BD a b=true):a≠b:=λe=>by subst e;rw[Jf] at h;cases h
section
variable {T : Type}
def Ms (xs:List (A9×T)):Prop:=xs.Pairwise λp q=>BD p.1 q.1=true
theorem Ms.nil:Ms ([]:List (A9×T)):=List.Pairwise.nil
theorem Ms.nodup {xs:List (A9×T)}(h:Ms xs):(xs.map (·.1)).Nodup:=by
 rw[List.Nodup,List.pairwise_map];exact h.imp λhpq=>Sz hpq
theorem H5 {xs:List (A9×T)}{k:A9}:BC xs k=none↔∀p∈xs,p.1≠k:=by
 induction xs with
 | nil=>simp[BC]
 | cons p r ih=>
  rw[BC]
  by_cases h:p.1=k
  ·rw[T4 h];simp[h]
  ·rw[T7 h];simp[h,ih]
theorem GH {xs:List (A9×T)}{k:A9}{v:T}(h:BC xs k=some v):(k,v)∈xs:=by
 induction xs with
 | nil=>cases h
 | cons p r ih=>
  rw[BC] at h
  by_cases e:p.1=k
  ·rw[T4 e] at h;cases h;subst e;exact List.mem_cons_self ..
  ·rw[T7 e] at h;exact List.mem_cons_of_mem _ (ih h)
theorem LA {k:A9}{v:T}{q:A9×T}:∀{xs:List (A9×T)},q∈mins k v xs→q=(k,v)∨q∈xs
 | [],h=>by simp[mins] at h;exact .inl h
 | p::r,h=>by
  rw[mins] at h
  cases hs:BD k p.1 with
  | true=>rw[hs] at h;simpa using h
  | false=>
   rw[hs] at h;rcases List.mem_cons.1 h with h | h
   ·exact .inr (by rw[h];exact List.mem_cons_self ..)
   ·rcases LA h with h | h
    ·exact .inl h
    ·exact .inr (List.mem_cons_of_mem _ h)
theorem Ms.mins {k:A9}{v:T}:∀{xs:List (A9×T)},Ms xs→BC xs k=none→Ms (mins k v xs)
 | [],_,_=>List.pairwise_singleton ..
 | p::r,h,hk=>by
  obtain⟨h1,h2⟩:=List.pairwise_cons.1 h;rw[BC] at hk
  by_cases e:p.1=k
  ·rw[T4 e] at hk;cases hk
  ·rw[T7 e] at hk;rw[Proofs.YthbbedliepkakaaGreatDoor.mins]
   cases hs:BD k p.1 with
   | true=>exact List.pairwise_cons.2 ⟨λq hq=>by
     rcases List.mem_cons.1 hq with rfl | hq
     ·exact hs
     ·exact Je hs (h1 q hq),h⟩
   | false=>
    have hp:BD p.1 k=true:=by
     rcases Ls p.1 k with h | h | h
     ·exact h
     ·exact absurd h e
     ·rw[h] at hs;cases hs
    exact List.pairwise_cons.2 ⟨λq hq=>by
     rcases LA hq with rfl | hq
     ·exact hp
     ·exact h1 q hq,Ms.mins h2 hk⟩
theorem Ms.mput {xs:List (A9×T)}(h:Ms xs)(k:A9)(v:T):Ms (mput xs k v):=by
 unfold Proofs.YthbbedliepkakaaGreatDoor.mput;unfold Ms;rw[List.pairwise_map];refine h.imp fun {p q} hpq=>?_;have e:∀p:A9×T,(bif decide (p.1=k) then(k,v) else p).1=p.1:=λp=>by
  by_cases hp:p.1=k
  ·rw[T4 hp];exact hp.symm
  ·rw[T7 hp];rfl
 rw[e,e];exact hpq
theorem Ms.mset {xs:List (A9×T)}(h:Ms xs)(k:A9)(v:T):Ms (mset xs k v):=by
 unfold Proofs.YthbbedliepkakaaGreatDoor.mset Cf
 cases hk:BC xs k with
 | none=>exact h.mins hk
 | some w=>exact h.mput k v
theorem Ms.mdel {xs:List (A9×T)}(h:Ms xs)(k:A9):Ms (mdel xs k):=h.sublist (List.filter_sublist ..)
theorem Ms.ext:∀{xs ys:List (A9×T)},Ms xs→Ms ys→(∀k,BC xs k=BC ys k)→xs=ys
 | [],[],_,_,_=>rfl
 | [],q::s,_,_,h=>by
  have:=h q.1;rw[BC,BC,T4 rfl] at this;cases this
 | p::r,[],_,_,h=>by
  have:=h p.1;rw[BC,BC,T4 rfl] at this;cases this
 | p::r,q::s,hx,hy,h=>by
  obtain⟨x1,x2⟩:=List.pairwise_cons.1 hx;obtain⟨y1,y2⟩:=List.pairwise_cons.1 hy;have hpq:p.1=q.1:=by
   have a1:=h p.1;have a2:=h q.1;rw[BC,T4 rfl] at a1;rw[show BC (q::s) q.1=bif decide (q.1=q.1) then some q.2 else BC s q.1 from rfl,T4 rfl] at a2;simp only[TD] at a1 a2;have m1:=GH a1.symm;have m2:=GH a2;rcases List.mem_cons.1 m1 with e | m1
   ·exact congrArg Prod.fst e
   ·rcases List.mem_cons.1 m2 with e | m2
    ·exact(congrArg Prod.fst e).symm
    ·have c1:=y1 _ m1;have c2:=x1 _ m2;have:=Je c1 c2;rw[Jf] at this;cases this
  have e:p=q:=by
   have a1:=h p.1;rw[BC,T4 rfl,BC,T4 hpq.symm] at a1;simp only[TD,Option.some.injEq] at a1;exact Prod.ext hpq a1
  subst e;rw[Ms.ext x2 y2 λk=>by
   have a1:=h k;rw[BC,BC] at a1
   by_cases e:p.1=k
   ·have n1:BC r k=none:=H5.2 λz hz e'=>by have:=x1 z hz;rw[e',← e,Jf] at this;cases this
    have n2:BC s k=none:=H5.2 λz hz e'=>by have:=y1 z hz;rw[e',← e,Jf] at this;cases this
    rw[n1,n2]
   ·rw[T7 e] at a1;exact a1]
end
section
variable {T : Type}
end
def K7 (ps:List Ab)(x y:Int):Bool:=C1 (Ac ps x).fAt (Ac ps y).fAt (Ac ps x).fPlace (Ac ps y).fPlace
theorem Te (ps:List Ab):Rs (K7 ps):=Nc (λx:Int=>(Ac ps x).fAt) (λx=>(Ac ps x).fPlace)
theorem JL {T:Type}{lt:T→T→Bool}:∀{xs:List T},(xs.Pairwise λa b=>(lt a b||lt b a)=true)→Dg lt xs=true
 | [],_=>rfl
 | x::r,h=>by
  rw[List.pairwise_cons] at h;simp only[Dg,T6,TO];exact⟨λy hy=>h.1 y hy,JL h.2⟩
theorem M8 {ps:List Ab}{xs:List Int}(h:xs.Pairwise λi j=>(Ac ps i).fPlace<(Ac ps j).fPlace):Dg (K7 ps) xs=true:=
 JL (h.imp fun {i j} hij=>by
  unfold K7 C1;simp only[TS,T6,T1];omega)
def G5 (ps:List Ab)(i:Int):Av:=(Ac ps i).fEvent
def Si (e:Av):Prop:=e.fID.length≤300∧e.fBody.length≤300
structure QI (q:Ah) (ps:List Ab) (idx:List Int):Prop where
 vis:1≤q.fPolicy.fVisible∧q.fPolicy.fVisible≤1073741824
 rcs:1≤q.fPolicy.fReceives∧q.fPolicy.fReceives≤10
 pm:q.fWaiting.Perm (idx.map λi=>((Ac ps i).fEvent.fID,i))
 inr:∀i∈idx,C2 i (ps.length:Int)=true
 ord:idx.Pairwise λi j=>(Ac ps i).fPlace<(Ac ps j).fPlace
 plc:∀i∈idx,(Ac ps i).fPlace<q.fArrived
 ids:(idx.map (λi=>(Ac ps i).fEvent.fID)++q.fDead.map (·.fID)).Nodup
 now:0≤q.fNow∧q.fNow≤1073741824
 ats:∀i∈idx,0≤(Ac ps i).fAt∧(Ac ps i).fAt≤2147483648
 rcv:∀i∈idx,0≤(Ac ps i).fReceives∧(Ac ps i).fReceives≤q.fPolicy.fReceives
 cnt:idx.length+q.fDead.length≤256
 sm:∀i∈idx,Si (G5 ps i)
 smd:∀e∈q.fDead,Si e
theorem QI.wlen {q:Ah}{ps:List Ab}{idx:List Int}(h:QI q ps idx):q.fWaiting.length=idx.length:=by rw[h.pm.length_eq,TB]
theorem Sf {α:Type}{n:Nat}{x:Option α}(h:n≤1000000):Bo (Js 8 n) x=x:=Bu (T4 (by omega))
theorem L0 {b:A9→Int→List Int→Option (Stp (List Int) (Out (List Int) (List Int)))}{holds:Int→Bool}{idx:List Int}(hb:∀(s:A9) (i:Int) (acc:List Int),i∈idx→acc.length≤100000→b s i acc=some (.next (bif holds i then acc++[i] else acc))) :
  ∀(o:List (A9×Int)) (s:List Int),s.length+o.length≤100000→(∀p∈o,p.2∈idx)→JB (λpe τ=>b pe.1 pe.2 τ) o s=some (.go (s++(o.map (·.2)).filter holds))
 | [],s,_,_=>by simp[JB]
 | p::r,s,hl,h=>by
  simp only[T9] at hl;have e:=hb p.1 p.2 s (h p (List.mem_cons_self ..)) (by omega);rw[JB,e];simp only;rw[L0 hb r _ (by cases holds p.2<;>simp<;>omega) λq hq=>h q (List.mem_cons_of_mem _ hq)]
  cases hq:holds p.2<;>simp[hq]
theorem Hx {ps:List Ab}{holds:Int→Bool}{ws:List (A9×Int)}{idx:List Int}{b:A9→Int→List Int→Option (Stp (List Int) (Out (List Int) (List Int)))}{k:List Int→Option (List Int)}
  (hpm:(ws.map (·.2)).Perm idx) (hl:idx.length≤256) (hin:∀i∈idx,C2 i (ps.length:Int)=true) (ho:idx.Pairwise λi j=>(Ac ps i).fPlace<(Ac ps j).fPlace)
  (hb:∀(s:A9) (i:Int) (acc:List Int),i∈idx→acc.length≤100000→b s i acc=some (.next (bif holds i then acc++[i] else acc)))
  (hk:∀acc,k acc=(Bo (acc.all (λi=>C2 i (ps.length:Int)))<|Bo (Dg (K7 ps) acc)<|Bo (Nat.blt acc.length 4611686018427387904)<|some (G3 (K7 ps) acc))) :
  K6 ws (λord=>BM (JB (λpe τ=>b pe.1 pe.2 τ) ord ([]:List Int)) (Ca λν=>k ν))=some (G3 (K7 ps) (idx.filter holds)):=by
 refine RF λo hp=>?_;have hpo:(o.map (·.2)).Perm idx:=(hp.map _).trans hpm;have hlo:o.length=idx.length:=by rw[← hpo.length_eq,TB]
 rw[L0 hb o [] (by simp;omega) (λp hp'=>hpo.subset (List.mem_map_of_mem hp')),Bd rfl,Hz,hk,List.nil_append];have hpf:((o.map (·.2)).filter holds).Perm (idx.filter holds):=hpo.filter _;have hdf:Dg (K7 ps) (idx.filter holds)=true:=M8 (ho.filter _);have hall:((o.map (·.2)).filter holds).all (λi=>C2 i (ps.length:Int))=true:=by
  rw[TO];exact λi hi=>hin i (hpo.subset (List.mem_filter.1 hi).1)
 have hle:((o.map (·.2)).filter holds).length≤256:=Nat.le_trans (List.length_filter_le _ _) (by rw[TB];omega);rw[Bu hall,Bu (My hdf hpf),Bu (by simp;omega),NB (Te ps) hdf hpf]
theorem QI.vals {q:Ah}{ps:List Ab}{idx:List Int}(h:QI q ps idx):(q.fWaiting.map (·.2)).Perm idx:=by
 have:=h.pm.map (·.2)
 rwa [Us,show((λp:A9×Int=>p.2) ∘ λi=>((Ac ps i).fEvent.fID,i))=id from rfl,List.map_id] at this
theorem QI.in' {q:Ah}{ps:List Ab}{idx:List Int}(h:QI q ps idx){i:Int}(hi:i∈idx):decide (0≤i)=true:=T4 (Bm (h.inr i hi)).1
def C7 (q:Ah)(ps:List Ab)(now:Int)(i:Int):Bool:=decide ((Ac ps i).fAt≤now)&&decide (q.fPolicy.fReceives≤(Ac ps i).fReceives)
def DT (ps:List Ab)(now:Int)(i:Int):Bool:=decide ((Ac ps i).fAt≤now)
theorem HH {b:Bool}{i:Int}{acc:List Int}(h:acc.length≤100000):B1 b (Bo (Js 8 (acc.length+([i]:List Int).length))<|some (Stp.next (acc++([i]:List Int)):Stp (List Int) (Out (List Int) (List Int)))) (some (.next acc))=some (.next (bif b then acc++[i] else acc)):=by
 cases b with
 | true=>rw[AS rfl,Sf (by simp;omega)];rfl
 | false=>rfl
theorem Lo {q:Ah}{ps:List Ab}{idx:List Int}(h:QI q ps idx)(q':Ah)(hw:q'.fWaiting=q.fWaiting)(hp:q'.fPolicy=q.fPolicy)(now:Int):EV q' ps now=some (G3 (K7 ps) (idx.filter (C7 q ps now))):=by
 unfold EV;rw[hw];refine Hx h.vals (by have:=h.cnt;omega) h.inr h.ord (λs i acc hi ha=>?_) (λacc=>rfl);unfold D6 Qp JH;rw[Bu (h.in' hi),Bu (h.inr i hi),Bd rfl,Bd rfl];simp only[hp];exact HH ha
theorem Ll {q:Ah}{ps:List Ab}{idx:List Int}(h:QI q ps idx)(now:Int):ES q ps now=some (G3 (K7 ps) (idx.filter (DT ps now))):=by
 unfold ES;refine Hx h.vals (by have:=h.cnt;omega) h.inr h.ord (λs i acc hi ha=>?_) (λacc=>rfl);unfold D3 Qi;rw[Bu (h.in' hi),Bu (h.inr i hi),Bd rfl];exact HH ha
theorem Ln {q:Ah}{ps:List Ab}{idx:List Int}(h:QI q ps idx)(now:Int):EU q ps now=some (G3 (K7 ps) (idx.filter (DT ps now))):=by
 unfold EU;refine Hx h.vals (by have:=h.cnt;omega) h.inr h.ord (λs i acc hi ha=>?_) (λacc=>rfl);unfold D5 Qn;rw[Bu (h.in' hi),Bu (h.inr i hi),Bd rfl];exact HH ha
theorem Lm {q:Ah}{ps:List Ab}{idx:List Int}(h:QI q ps idx)(now:Int):ET q ps now=some (G3 (K7 ps) (idx.filter (C7 q ps now))):=by
 unfold ET;refine Hx h.vals (by have:=h.cnt;omega) h.inr h.ord (λs i acc hi ha=>?_) (λacc=>rfl);unfold D4 Qm JH;rw[Bu (h.in' hi),Bu (h.inr i hi),Bd rfl,Bd rfl];exact HH ha
theorem MN {T:Type}(lt:T→T→Bool)(xs:List T):(G3 lt xs).length=xs.length:=(D7 lt xs).length_eq
theorem Mt {q:Ah}{ps:List Ab}{idx:List Int}(h:QI q ps idx)(now:Int) :
  E5 q ps now=some (if q.fNow≤now∧now≤1073741824 then(((idx.filter (DT ps now)).length:Int)-((idx.filter (C7 q ps now)).length:Int),(idx.length:Int)-((idx.filter (DT ps now)).length:Int),(q.fDead.length:Int)+((idx.filter (C7 q ps now)).length:Int)) else(0,0,0)):=by
 unfold E5 Hq CX;have hc:=h.cnt;have l1:(idx.filter (DT ps now)).length≤idx.length:=List.length_filter_le _ _;have l2:(idx.filter (C7 q ps now)).length≤idx.length:=List.length_filter_le _ _
 by_cases h1:q.fNow≤now
 ·rw[AS (T4 h1),Bd rfl]
  by_cases h2:now≤1073741824
  ·rw[T4 h2,AQ (p:=!true) rfl,Ln h,Bd rfl,Lm h,Bd rfl,MN,MN,h.wlen,AY (by omega) (by omega),AY (by omega) (by omega),AY (by omega) (by omega),TP ⟨h1,h2⟩]
  ·rw[T7 h2,AS (p:=!false) rfl,TE (λe=>h2 e.2)]
 ·rw[AQ (T7 h1),Bd rfl,AS (p:=!false) rfl,TE (λe=>h1 e.1)]
theorem Jb (n:Int):Jc n=some (decide (0≤n∧n≤1073741824)):=by
 unfold Jc;rw[Bool.decide_and]
def IB (ps:List Ab)(P:List Int)(ws:List (A9×Int)):List (A9×Int):=ws.filter λp=>!P.any λi=>decide (p.1=(G5 ps i).fID)
theorem Oe (ps:List Ab)(i:Int)(P:List Int)(ws:List (A9×Int)):IB ps P (mdel ws (G5 ps i).fID)=IB ps (i::P) ws:=by
 unfold IB mdel;rw[List.filter_filter];refine List.filter_congr λp _=>?_;rw[List.any_cons]
 cases decide (p.1=(G5 ps i).fID)<;>simp
theorem PF {α:Type}{n:Nat}{x:Option α}(h:n≤1000000):Bo (Js 112 n) x=x:=Bu (T4 (by omega))
theorem PM {ps:List Ab}{P:List Int}(hin:∀i∈P,C2 i (ps.length:Int)=true)(hP:P.length≤256):∀(d n j:Nat) (D:List Av) (ws:List (A9×Int)),j+d=P.length→d<n→D.length+d≤100000→
  Cn (λσ=>Ce ps P σ.1 σ.2.1 σ.2.2) n ((j:Int),D,ws)=some (.go (D++(P.drop j).map (G5 ps),IB ps (P.drop j) ws)):=by
 intro d
 induction d with
 | zero=>
  intro n j D ws h hn hD;obtain⟨n,rfl⟩:∃m,n=m+1:=⟨n-1,by omega⟩
  have hb:Ce ps P (j:Int) D ws=some (.out (.go (D,ws))):=by unfold Ce;rw[AQ (T7 (by omega))]
  rw[Cn];simp only[hb];rw[List.drop_of_length_le (by omega),List.map_nil,List.append_nil,show IB ps [] ws=ws from List.filter_eq_self.2 λ_ _=>rfl]
 | succ d ih=>
  intro n j D ws h hn hD;obtain⟨n,rfl⟩:∃m,n=m+1:=⟨n-1,by omega⟩
  have hj:j<P.length:=by omega
  have hi:=hin P[j] (List.getElem_mem hj);have hb:Ce ps P (j:Int) D ws=some (.next (((j+1:Nat):Int),D++[G5 ps P[j]],mdel ws (G5 ps P[j]).fID)):=by
   unfold Ce;rw[AS (T4 (by omega)),C3 (by omega) (by omega),Gl hj,Bu (T4 (Bm hi).1),Bu hi,PF (by simp;omega),AY (by omega) (by omega)];rfl
  rw[Cn];simp only[hb];rw[ih n (j+1) _ _ (by omega) (by omega) (by simp;omega),List.drop_eq_getElem_cons hj,Oe,Uh];rfl
def Jz (q:Ah)(ps:List Ab)(idx:List Int)(now:Int):List Int:=G3 (K7 ps) (idx.filter (C7 q ps now))
def Ci (q:Ah)(ps:List Ab)(idx:List Int)(now:Int):Ah:=⟨q.fPolicy,IB ps (Jz q ps idx now) q.fWaiting,q.fDead++(Jz q ps idx now).map (G5 ps),now,q.fArrived⟩
def DE (q:Ah)(ps:List Ab)(idx:List Int)(now:Int):List Int:=idx.filter λi=>!C7 q ps now i
def EB (q:Ah)(now:Int):Int:=if 0≤now∧now≤1073741824 then if now<q.fNow then 11 else 0 else 2
theorem Ii (q:Ah)(ps:List Ab)(idx:List Int)(now:Int):(Jz q ps idx now).Perm (idx.filter (C7 q ps now)):=D7 _ _
theorem E7 {F:Nat}(hF:300<F){q:Ah}{ps:List Ab}{idx:List Int}(h:QI q ps idx)(now:Int) :
  Eg F q ps now=some (EB q now,if EB q now=0 then Ci q ps idx now else q,ps):=by
 unfold Eg EB;rw[Jb,Bd rfl]
 by_cases h1:0≤now∧now≤1073741824
 ·rw[T4 h1,AQ (p:=!true) rfl,TP h1]
  by_cases h2:now<q.fNow
  ·rw[AS (T4 h2),TP h2];rfl
  ·rw[AQ (T7 h2),TE h2,Lo h ⟨q.fPolicy,q.fWaiting,q.fDead,now,q.fArrived⟩ rfl rfl,Bd rfl];have hc:=h.cnt;have hpm:=Ii q ps idx now;have hl:(Jz q ps idx now).length≤256:=by
    rw[hpm.length_eq];exact Nat.le_trans (List.length_filter_le _ _) (by omega)
   have hlop:=PM (ps:=ps) (P:=Jz q ps idx now) (λi hi=>h.inr i (List.mem_filter.1 (hpm.subset hi)).1) hl (Jz q ps idx now).length F 0 q.fDead q.fWaiting (by omega) (by omega) (by omega);have hlop':Cn (λσ=>Ce ps (G3 (K7 ps) (idx.filter (C7 q ps now))) σ.1 σ.2.1 σ.2.2) F ((0:Int),q.fDead,q.fWaiting)=_:=hlop;rw[hlop',Bd rfl,Hz,List.drop_zero];rfl
 ·rw[T7 h1,AS (p:=!false) rfl,TE h1];rfl
theorem Gc {ps:List Ab}{idx P:List Int}{over:Int→Bool}(hP:P.Perm (idx.filter over))(hids:(idx.map λi=>(G5 ps i).fID).Nodup) :
  IB ps P (idx.map λi=>((G5 ps i).fID,i))=(idx.filter λi=>!over i).map λi=>((G5 ps i).fID,i):=by
 unfold IB;rw[List.filter_map]
 congr 1
 refine List.filter_congr λi hi=>?_;show(!P.any λk=>decide ((G5 ps i).fID=(G5 ps k).fID)) = !over i
 congr 1
 rw[TZ,List.any_eq_true];constructor
 ·rintro⟨k,hk,he⟩;have hk':=List.mem_filter.1 (hP.subset hk);have e:i=k:=(Jm (R:=λa b=>(G5 ps a).fID≠(G5 ps b).fID) (λx y h e=>h e.symm) (List.pairwise_map.1 hids) i k hi hk'.1).resolve_right (λhne=>hne (Uk he));rw[e];exact hk'.2
 ·intro ho;exact⟨i,hP.symm.subset (List.mem_filter.2 ⟨hi,ho⟩),T4 rfl⟩
theorem Ka {ps:List Ab}{P:List Int}{a b:List (A9×Int)}(h:a.Perm b):(IB ps P a).Perm (IB ps P b):=h.filter _
theorem Et {q:Ah}{ps:List Ab}{idx:List Int}(h:QI q ps idx){now:Int}(hn:0≤now∧now≤1073741824):QI (Ci q ps idx now) ps (DE q ps idx now):=by
 have hpm:=Ii q ps idx now;have hids:(idx.map λi=>(G5 ps i).fID).Nodup:=(List.nodup_append.1 h.ids).1;have hsub:∀i∈DE q ps idx now,i∈idx:=λi hi=>(List.mem_filter.1 hi).1;refine⟨h.vis,h.rcs,?_,λi hi=>h.inr i (hsub i hi),h.ord.filter _,λi hi=>h.plc i (hsub i hi),?_,hn,λi hi=>h.ats i (hsub i hi),λi hi=>h.rcv i (hsub i hi),?_,λi hi=>h.sm i (hsub i hi),λe he=>?_⟩
 ·have h1:=Ka (ps:=ps) (P:=Jz q ps idx now) h.pm;have h2:=Gc (ps:=ps) hpm hids;exact h1.trans (List.Perm.of_eq h2)
 ·have h3:((DE q ps idx now).map (λi=>(G5 ps i).fID)++(q.fDead++(Jz q ps idx now).map (G5 ps)).map (·.fID)).Perm (idx.map (λi=>(G5 ps i).fID)++q.fDead.map (·.fID)):=by
   rw[Ur,Us];have h4:(idx.map λi=>(G5 ps i).fID).Perm ((Jz q ps idx now).map (λi=>(G5 ps i).fID)++(DE q ps idx now).map λi=>(G5 ps i).fID):=by
    rw[← Ur];exact((List.filter_append_perm (C7 q ps now) idx).symm.trans (hpm.symm.append_right _)).map _
   refine List.Perm.symm ?_;refine(h4.append_right _).trans ?_;rw[Uh];refine(List.perm_append_comm).trans ?_;rw[Uh];exact T2 _
  exact h3.symm.nodup h.ids
 ·have h5:=(List.filter_append_perm (C7 q ps now) idx).length_eq;have h6:=hpm.length_eq;have hc:=h.cnt;show(DE q ps idx now).length+(q.fDead++(Jz q ps idx now).map (G5 ps)).length≤256;rw[TG] at h5;rw[TG,TB,h6];unfold DE;omega
 ·rcases List.mem_append.1 he with h7 | h7
  ·exact h.smd e h7
  ·obtain⟨i,hi,rfl⟩:=List.mem_map.1 h7;exact h.sm i (List.mem_filter.1 (hpm.subset hi)).1
theorem IR (q:Ah)(ps:List Ab)(idx:List Int)(now:Int):(DE q ps idx now).length+(Ci q ps idx now).fDead.length=idx.length+q.fDead.length:=by
 have h5:=(List.filter_append_perm (C7 q ps now) idx).length_eq;have h6:=(Ii q ps idx now).length_eq;show(DE q ps idx now).length+(q.fDead++(Jz q ps idx now).map (G5 ps)).length=_;rw[TG] at h5;rw[TG,TB,h6];unfold DE;omega
theorem KO {ps:List Ab}{i j:Int}{y:Ab}(hi:C2 i (ps.length:Int)=true)(hj:C2 j (ps.length:Int)=true):Ac (ps.set i.toNat y) j=if j=i then y else Ac ps j:=by
 have h1:=Bm hi;have h2:=Bm hj;have l1:i.toNat<ps.length:=by omega
 have l2:j.toNat<ps.length:=by omega
 by_cases e:j=i
 ·subst e;rw[TP rfl];simp[Ac,l1]
 ·rw[TE e];have:i.toNat≠j.toNat:=by omega
  simp[Ac,l2,List.getElem_set,this]
theorem QI.congr {q:Ah}{ps ps':List Ab}{idx:List Int}(h:QI q ps idx)(hl:ps'.length=ps.length)(he:∀i∈idx,(Ac ps' i).fEvent=(Ac ps i).fEvent∧(Ac ps' i).fPlace=(Ac ps i).fPlace)
  (ha:∀i∈idx,0≤(Ac ps' i).fAt∧(Ac ps' i).fAt≤2147483648) (hr:∀i∈idx,0≤(Ac ps' i).fReceives∧(Ac ps' i).fReceives≤q.fPolicy.fReceives):QI q ps' idx:=by
 have hids:idx.map (λi=>(Ac ps' i).fEvent.fID)=idx.map (λi=>(Ac ps i).fEvent.fID):=List.map_congr_left λi hi=>by rw[(he i hi).1]
 refine⟨h.vis,h.rcs,?_,λi hi=>by rw[hl];exact h.inr i hi,?_,λi hi=>by rw[(he i hi).2];exact h.plc i hi,by rw[hids];exact h.ids,h.now,ha,hr,h.cnt,λi hi=>?_,h.smd⟩
 ·rw[show(idx.map λi=>((Ac ps' i).fEvent.fID,i))=idx.map λi=>((Ac ps i).fEvent.fID,i) from List.map_congr_left λi hi=>by rw[(he i hi).1]];exact h.pm
 ·exact h.ord.imp_of_mem fun {i j} hi hj hij=>by rw[(he i hi).2,(he j hj).2];exact hij
 ·unfold G5;rw[(he i hi).1];exact h.sm i hi
theorem QI.set {q:Ah}{ps:List Ab}{idx:List Int}(h:QI q ps idx){i:Int}(hi:i∈idx){y:Ab}(he:y.fEvent=(Ac ps i).fEvent)(hp:y.fPlace=(Ac ps i).fPlace)(ha:0≤y.fAt∧y.fAt≤2147483648)(hr:0≤y.fReceives∧y.fReceives≤q.fPolicy.fReceives) :
  QI q (ps.set i.toNat y) idx:=by
 refine h.congr (Un ..) (λj hj=>?_) (λj hj=>?_) (λj hj=>?_)<;>rw[KO (h.inr i hi) (h.inr j hj)]<;>split
 ·rename_i e;subst e;exact⟨he,hp⟩
 ·exact⟨rfl,rfl⟩
 ·exact ha
 ·exact h.ats j hj
 ·exact hr
 ·exact h.rcv j hj
theorem Ga {T:Type}:∀{m:List (A9×T)} {k:A9} {v:T},BC m k=some v→(k,v)∈m
 | [],k,v,h=>by simp[BC] at h
 | p::r,k,v,h=>by
  unfold BC at h
  cases hk:decide (p.1=k) with
  | true=>
   rw[hk] at h;have e:=Uk hk;have e2:p.2=v:=Option.some.inj h;rw[← e,← e2];exact List.mem_cons_self ..
  | false=>
   rw[hk] at h;exact List.mem_cons_of_mem _ (Ga h)
theorem QI.get {q:Ah}{ps:List Ab}{idx:List Int}(h:QI q ps idx){k:A9}{i:Int}(hg:BC q.fWaiting k=some i):i∈idx∧(G5 ps i).fID=k:=by
 obtain⟨j,hj,e⟩:=List.mem_map.1 (h.pm.subset (Ga hg));injection e with e1 e2
 subst e2;exact⟨hj,e1⟩
def Oc (q:Ah)(ps:List Ab)(id count:A9)(now:Int):Int×Int:=
 match BC q.fWaiting id with
 | none=>(-1,5)
 | some i=>if Cw count≠0∨B3 count<1∨(Ac ps i).fReceives<B3 count then(-1,5)
  else if B3 count<(Ac ps i).fReceives∨(Ac ps i).fHeld=false∨(Ac ps i).fAt≤now then(-1,18) else(i,0)
theorem RY {q:Ah}{ps:List Ab}{id count:A9}{now:Int}(h:(Oc q ps id count now).2=0):BC q.fWaiting id=some (Oc q ps id count now).1:=by
 unfold Oc at *
 cases hg:BC q.fWaiting id with
 | none=>rw[hg] at h;simp at h
 | some i=>
  rw[hg] at h;simp only at h ⊢
  split at h
  ·simp at h
  ·split at h
   ·simp at h
   ·rename_i h1 h2;rw[TE h1,TE h2]
theorem OD {q:Ah}{ps:List Ab}{idx:List Int}(h:QI q ps idx){s:A9}{now:Int}{a b:A9}{c:Bool}(hc:NE s=some (a,b,c))(hb:b.length≤1000000):Lr q ps s now=some (Oc q ps a b now):=by
 unfold Lr Oc;rw[hc,Bd rfl];simp only;rw[Bu (show Js 1 b.length=true from T4 (by omega))]
 cases hg:BC q.fWaiting a with
 | none=>
  have e1:Cf q.fWaiting a=false:=by unfold Cf;rw[hg];rfl
  rw[e1];rfl
 | some i=>
  have e1:Cf q.fWaiting a=true:=by unfold Cf;rw[hg];rfl
  have e2:Cb q.fWaiting a (-1)=i:=by unfold Cb;rw[hg];rfl
  obtain⟨hi,_⟩:=h.get hg;have hin:=h.inr i hi;have h0:=h.in' hi;rw[e1,e2,h0,hin];simp only[RS,TA,TI,TF];rw[Bu (by cases(!(!decide (Cw b=0)))<;>cases(!decide (B3 b<1))<;>rfl),Bu (by cases(!(!decide (Cw b=0)))<;>cases(!decide (B3 b<1))<;>rfl),Bu rfl,Bu rfl]
  by_cases h1:Cw b=0
  ·by_cases h2:B3 b<1
   ·simp[h1,h2,B1]
   ·by_cases h3:(Ac ps i).fReceives<B3 b
    ·simp[h1,h2,h3,B1]
    ·by_cases h4:B3 b<(Ac ps i).fReceives
     ·simp[h1,h2,h3,h4,B1]
     ·by_cases h5:(Ac ps i).fHeld=true
      ·by_cases h6:(Ac ps i).fAt≤now<;>simp[h1,h2,h3,h4,h5,h6,B1]
      ·simp[h1,h2,h3,h4,h5,B1]
  ·simp[h1,B1]
def PU (s:A9):Int:=bif decide (([35]:A9)=s) then 0 else Lib.indexByte s 35
def KI (s:A9):A9×A9×Bool:=bif decide (0≤PU s) then(s.take (PU s).toNat,s.drop (PU s+1).toNat,true) else(s,[],false)
theorem RN (s:A9):PU s<s.length:=by
 unfold PU
 by_cases h:([35]:A9)=s
 ·subst h;decide
 ·rw[T7 h];exact(RT s 35).2
theorem Qw {s:A9}(hs:s.length≤1000000):NE s=some (KI s):=by
 have hi:LH s=some (PU s):=by
  unfold LH PU
  cases decide (([35]:A9)=s) with
  | true=>rfl
  | false=>rfl
 have hb:=RN s;unfold NE MO KI;rw[hi,Bd rfl]
 by_cases h:0≤PU s
 ·rw[AS (T4 h),KL h (by omega),AY (by omega) (by omega),KL (by omega) (by omega),Bd rfl,T4 h];rfl
 ·rw[AQ (T7 h),Bd rfl,T7 h];rfl
theorem PA (s:A9):(KI s).2.1.length≤s.length:=by
 unfold KI
 cases decide (0≤PU s) with
 | true=>show(s.drop (PU s+1).toNat).length≤s.length;rw[List.length_drop];exact Nat.sub_le _ _
 | false=>exact Um _
def Qq (n:Int):Bool:=decide (0≤n∧n≤1073741824)
def Do (q:Ah)(ps:List Ab)(idx:List Int)(s:A9)(now ticks:Int):Int×Int:=
 bif Qq ticks then if EB q now=0 then Oc (Ci q ps idx now) ps (KI s).1 (KI s).2.1 now else(-1,EB q now) else(-1,2)
def EQ (q:Ah)(ps:List Ab)(idx:List Int)(now ticks:Int):Ah:=if Qq ticks=true∧EB q now=0 then Ci q ps idx now else q
def G2 (q:Ah)(ps:List Ab)(idx:List Int)(now ticks:Int):List Int:=if Qq ticks=true∧EB q now=0 then DE q ps idx now else idx
theorem C4 {q:Ah}{now:Int}(h:EB q now=0):0≤now∧now≤1073741824∧q.fNow≤now:=by
 unfold EB at h
 split at h
 ·split at h
  ·simp at h
  ·rename_i h1 h2;exact⟨h1.1,h1.2,by omega⟩
 ·simp at h
theorem Mf {q:Ah}{ps:List Ab}{idx:List Int}(h:QI q ps idx)(now ticks:Int):QI (EQ q ps idx now ticks) ps (G2 q ps idx now ticks):=by
 unfold EQ G2
 split
 ·rename_i h1;have:=C4 h1.2;exact Et h ⟨this.1,this.2.1⟩
 ·exact h
theorem Kq (q:Ah)(ps:List Ab)(idx:List Int)(now ticks:Int):(G2 q ps idx now ticks).length+(EQ q ps idx now ticks).fDead.length=idx.length+q.fDead.length:=by
 unfold EQ G2
 split
 ·exact IR q ps idx now
 ·rfl
theorem Kr {F:Nat}(hF:300<F){q:Ah}{ps:List Ab}{idx:List Int}(h:QI q ps idx){s:A9}(hs:s.length≤1000000)(now ticks:Int) :
  Mh F q ps s now ticks=some ((Do q ps idx s now ticks).1,(Do q ps idx s now ticks).2,EQ q ps idx now ticks,ps):=by
 unfold Mh Do EQ;rw[Jb,Bd rfl]
 cases ht:Qq ticks with
 | false=>
  have ht':decide (0≤ticks∧ticks≤1073741824)=false:=ht;rw[ht',AS (p:=!false) rfl];simp
 | true=>
  have ht':decide (0≤ticks∧ticks≤1073741824)=true:=ht;rw[ht',AQ (p:=!true) rfl,E7 hF h,Bd rfl]
  by_cases ha:EB q now=0
  ·have hn:=C4 ha;simp only[ha,decide_true,TA,Uo,and_self,TD];rw[AQ rfl,OD (a:=(KI s).1) (b:=(KI s).2.1) (c:=(KI s).2.2) (Et h ⟨hn.1,hn.2.1⟩) (Qw hs) (Nat.le_trans (PA s) hs),Bd rfl]
  ·simp only[ha,decide_false,TI,Ug,and_false,TD];rw[AS rfl]
theorem HM {q:Ah}{ps:List Ab}{idx:List Int}(h:QI q ps idx){s:A9}{now ticks:Int}(he:(Do q ps idx s now ticks).2=0) :
  (0≤ticks∧ticks≤1073741824)∧EB q now=0∧EQ q ps idx now ticks=Ci q ps idx now∧G2 q ps idx now ticks=DE q ps idx now∧(Do q ps idx s now ticks).1∈DE q ps idx now:=by
 unfold Do at he ⊢
 cases ht:Qq ticks with
 | false=>rw[ht] at he;simp at he
 | true=>
  rw[ht] at he;simp only[TD] at he ⊢
  by_cases ha:EB q now=0
  ·rw[TP ha] at he ⊢;have hn:=C4 ha;refine⟨Uk ht,ha,?_,?_,((Et h ⟨hn.1,hn.2.1⟩).get (RY he)).1⟩
   ·unfold EQ;rw[TP ⟨ht,ha⟩]
   ·unfold G2;rw[TP ⟨ht,ha⟩]
  ·rw[TE ha] at he;exact absurd he ha
def Tm (q:Ah)(ps:List Ab)(i:Int):Ah:=⟨q.fPolicy,mdel q.fWaiting (G5 ps i).fID,q.fDead,q.fNow,q.fArrived⟩
def Rl (idx:List Int)(i:Int):List Int:=idx.filter λj=>!decide (j=i)
theorem S3 {q:Ah}{ps:List Ab}{idx:List Int}(h:QI q ps idx){i:Int}(hi:i∈idx):QI (Tm q ps i) ps (Rl idx i):=by
 have hids:(idx.map λi=>(G5 ps i).fID).Nodup:=(List.nodup_append.1 h.ids).1;have hnd:idx.Nodup:=h.ord.imp fun {a b} hab e=>by subst e;omega
 have hsub:∀j∈Rl idx i,j∈idx:=λj hj=>(List.mem_filter.1 hj).1;have hP:([i]:List Int).Perm (idx.filter λj=>decide (j=i)):=by
  have:idx.filter (λj=>decide (j=i))=[i]:=by
   have h1:=hnd.filter (p:=λj=>decide (j=i));have h2:∀j∈idx.filter (λj=>decide (j=i)),j=i:=λj hj=>Uk (List.mem_filter.1 hj).2;have h3:i∈idx.filter (λj=>decide (j=i)):=List.mem_filter.2 ⟨hi,T4 rfl⟩
   match hl:idx.filter (λj=>decide (j=i)) with
   | []=>rw[hl] at h3;cases h3
   | [a]=>rw[hl] at h2;rw[h2 a (by simp)]
   | a::b::r=>
    rw[hl] at h1 h2;have e1:=h2 a (by simp);have e2:=h2 b (by simp);have h4:=(List.pairwise_cons.1 h1).1 b (by simp);exact absurd (e1.trans e2.symm) h4
  rw[this]
 have hdel:mdel q.fWaiting (G5 ps i).fID=IB ps [i] q.fWaiting:=by
  unfold mdel IB;exact List.filter_congr λp _=>by simp
 refine⟨h.vis,h.rcs,?_,λj hj=>h.inr j (hsub j hj),h.ord.filter _,λj hj=>h.plc j (hsub j hj),?_,h.now,λj hj=>h.ats j (hsub j hj),λj hj=>h.rcv j (hsub j hj),?_,λj hj=>h.sm j (hsub j hj),h.smd⟩
 ·show(mdel q.fWaiting (G5 ps i).fID).Perm _;rw[hdel];exact(Ka h.pm).trans (List.Perm.of_eq (Gc hP hids))
 ·exact h.ids.sublist (((List.filter_sublist).map _).append_right _)
 ·have:(Rl idx i).length≤idx.length:=List.length_filter_le _ _;have:=h.cnt;show(Rl idx i).length+q.fDead.length≤256;omega
theorem RB {q:Ah}{ps:List Ab}{idx:List Int}(h:QI q ps idx){i:Int}(hi:i∈idx):(Rl idx i).length+1=idx.length:=by
 have hnd:idx.Nodup:=h.ord.imp fun {a b} hab e=>by subst e;omega
 clear h;unfold Rl
 induction idx with
 | nil=>cases hi
 | cons a r ih=>
  rw[List.nodup_cons] at hnd;rw[List.filter_cons]
  by_cases e:a=i
  ·subst e;have:r.filter (λj=>!decide (j=a))=r:=List.filter_eq_self.2 λj hj=>by
    have:j≠a:=λe=>hnd.1 (e▸hj);simp[this]
   simp[this]
  ·have hr:i∈r:=by
    rcases List.mem_cons.1 hi with h1 | h1
    ·exact absurd h1.symm e
    ·exact h1
   have:=ih hr hnd.2;simp[e];omega
theorem Mr {F:Nat}(hF:300<F){q:Ah}{ps:List Ab}{idx:List Int}(h:QI q ps idx){s:A9}(hs:s.length≤1000000)(now:Int) :
  E4 F q ps s now=some ((Do q ps idx s now 0).2,if (Do q ps idx s now 0).2=0 then Tm (EQ q ps idx now 0) ps (Do q ps idx s now 0).1 else EQ q ps idx now 0,ps):=by
 unfold E4;rw[Kr hF h hs,Bd rfl];simp only
 by_cases he:(Do q ps idx s now 0).2=0
 ·obtain⟨_,ha,e1,e2,hi⟩:=HM h he;have hn:=C4 ha;have hq:=Et h ⟨hn.1,hn.2.1⟩;rw[AS (T4 he),Bu (hq.in' hi),Bu (hq.inr _ hi),TP he];rfl
 ·rw[AQ (T7 he),TE he]
def SZ (x:Ab)(t:Int):Ab:=⟨x.fEvent,t,x.fReceives,false,x.fPlace⟩
def Ti (x:Ab)(t:Int):Ab:=⟨x.fEvent,t,x.fReceives,x.fHeld,x.fPlace⟩
theorem OM {ps:List Ab}{i:Nat}{a b:Ab}:(ps.set i a).set i b=ps.set i b:=List.set_set ..
theorem Mi {F:Nat}(hF:300<F){q:Ah}{ps:List Ab}{idx:List Int}(h:QI q ps idx){s:A9}(hs:s.length≤1000000)(now d:Int) :
  Hl F q ps s now d=some ((Do q ps idx s now d).2,EQ q ps idx now d,if (Do q ps idx s now d).2=0 then ps.set (Do q ps idx s now d).1.toNat (SZ (Ac ps (Do q ps idx s now d).1) (now+d)) else ps):=by
 unfold Hl;rw[Kr hF h hs,Bd rfl];simp only
 by_cases he:(Do q ps idx s now d).2=0
 ·obtain⟨ht,ha,e1,e2,hi⟩:=HM h he;have hn:=C4 ha;have hq:=Et h ⟨hn.1,hn.2.1⟩;have hin:=hq.inr _ hi;rw[AS (T4 he),AY (by omega) (by omega),Bu (hq.in' hi),Bu hin,TP he];simp only[LZ];rw[Un,Bu hin,KO hin hin,TP rfl,OM];rfl
 ·rw[AQ (T7 he),TE he]
theorem Mq {F:Nat}(hF:300<F){q:Ah}{ps:List Ab}{idx:List Int}(h:QI q ps idx){s:A9}(hs:s.length≤1000000)(now d:Int) :
  Hp F q ps s now d=some ((Do q ps idx s now d).2,EQ q ps idx now d,if (Do q ps idx s now d).2=0 then ps.set (Do q ps idx s now d).1.toNat (Ti (Ac ps (Do q ps idx s now d).1) (now+d)) else ps):=by
 unfold Hp;rw[Kr hF h hs,Bd rfl];simp only
 by_cases he:(Do q ps idx s now d).2=0
 ·obtain⟨ht,ha,e1,e2,hi⟩:=HM h he;have hn:=C4 ha;have hq:=Et h ⟨hn.1,hn.2.1⟩;have hin:=hq.inr _ hi;rw[AS (T4 he),AY (by omega) (by omega),Bu (hq.in' hi),Bu hin,TP he];rfl
 ·rw[AQ (T7 he),TE he]
def QB (n:Nat)(q:Ah)(ps:List Ab):Prop:=0≤q.fArrived∧q.fArrived≤(n:Int)∧ps.length≤n
theorem GI {T:Type}:∀{m:List (A9×T)} {k:A9},Cf m k=false→∀p∈m,p.1≠k
 | [],k,_,p,hp=>by cases hp
 | a::r,k,h,p,hp=>by
  unfold Cf BC at h
  cases hk:decide (a.1=k) with
  | true=>rw[hk] at h;cases h
  | false=>
   rw[hk] at h;rcases List.mem_cons.1 hp with e | hp
   ·subst e;exact of_decide_eq_false hk
   ·exact GI (m:=r) h p hp
def KS (e:Av)(t:Int)(arr:Int):Ab:=⟨e,t,0,false,arr⟩
def Re (q:Ah)(ps:List Ab)(D:List Av)(e:Av):Ah:=⟨q.fPolicy,mset q.fWaiting e.fID (ps.length:Int),D,q.fNow,q.fArrived+1⟩
theorem Sg {ps:List Ab}{y:Ab}{i:Int}(hi:C2 i (ps.length:Int)=true):Ac (ps++[y]) i=Ac ps i:=by
 have h1:=Bm hi;have l1:i.toNat<ps.length:=by omega
 simp[Ac,Uj l1]
theorem Rc {ps:List Ab}{y:Ab}:Ac (ps++[y]) (ps.length:Int)=y:=by simp[Ac]
theorem PL {q:Ah}{ps:List Ab}{idx:List Int}(h:QI q ps idx){D:List Av}{e:Av}{t:Int}(hs:Si e)(ht:0≤t∧t≤2147483648)
  (hid:(e.fID::(idx.map (λi=>(Ac ps i).fEvent.fID)++D.map (·.fID))).Nodup) (hD:∀x∈D,Si x) (hc:idx.length+1+D.length≤256) :
  QI (Re q ps D e) (ps++[KS e t q.fArrived]) (idx++[(ps.length:Int)]):=by
 have hold:∀i∈idx,Ac (ps++[KS e t q.fArrived]) i=Ac ps i:=λi hi=>Sg (h.inr i hi);have hnew:=Rc (ps:=ps) (y:=KS e t q.fArrived);have hnot:e.fID ∉ idx.map (λi=>(Ac ps i).fEvent.fID):=λhm=>(List.nodup_cons.1 hid).1 (List.mem_append_left _ hm);have hh:Cf q.fWaiting e.fID=false:=by
  cases hx:Cf q.fWaiting e.fID with
  | false=>rfl
  | true=>
   unfold Cf at hx;obtain⟨i,hi⟩:=Option.isSome_iff_exists.1 hx;obtain⟨h1,h2⟩:=h.get hi;exact absurd (List.mem_map.2 ⟨i,h1,h2⟩) hnot
 have hms:(mset q.fWaiting e.fID (ps.length:Int)).Perm ((e.fID,(ps.length:Int))::q.fWaiting):=by
  unfold mset;rw[hh];exact HY _ _ _
 have hmap:(idx++[(ps.length:Int)]).map (λi=>((Ac (ps++[KS e t q.fArrived]) i).fEvent.fID,i))=idx.map (λi=>((Ac ps i).fEvent.fID,i))++[(e.fID,(ps.length:Int))]:=by
  rw[Ur,Ul,List.map_nil,hnew]
  congr 1
  exact List.map_congr_left λi hi=>by rw[hold i hi]
 have hids:(idx++[(ps.length:Int)]).map (λi=>(Ac (ps++[KS e t q.fArrived]) i).fEvent.fID)=idx.map (λi=>(Ac ps i).fEvent.fID)++[e.fID]:=by
  rw[Ur,Ul,List.map_nil,hnew]
  congr 1
  exact List.map_congr_left λi hi=>by rw[hold i hi]
 have hmem:∀i∈idx++[(ps.length:Int)],i∈idx∨i=(ps.length:Int):=λi hi=>by simpa using hi
 refine⟨h.vis,h.rcs,?_,?_,?_,?_,?_,h.now,?_,?_,?_,?_,hD⟩
 ·rw[hmap];exact hms.trans ((Tz _ h.pm).trans (List.perm_append_comm (l₁:=[(e.fID,(ps.length:Int))])))
 ·intro i hi;rcases hmem i hi with h1 | h1
  ·have:=Bm (h.inr i h1);exact Pz (by omega) (by simp;omega)
  ·subst h1;exact Pz (by omega) (by simp;omega)
 ·rw[List.pairwise_append];refine⟨h.ord.imp_of_mem fun {i j} hi hj hij=>by rw[hold i hi,hold j hj];exact hij,List.pairwise_singleton _ _,λi hi j hj=>?_⟩;rw[List.mem_singleton.1 hj,hold i hi,hnew];exact h.plc i hi
 ·intro i hi;rcases hmem i hi with h1 | h1
  ·rw[hold i h1];have:=h.plc i h1;show _<q.fArrived+1;omega
  ·subst h1;rw[hnew];show q.fArrived<q.fArrived+1;omega
 ·rw[hids,Uh];exact(List.perm_middle (a:=e.fID) (l₁:=idx.map λi=>(Ac ps i).fEvent.fID) (l₂:=D.map (·.fID))).symm.nodup hid
 ·intro i hi;rcases hmem i hi with h1 | h1
  ·rw[hold i h1];exact h.ats i h1
  ·subst h1;rw[hnew];exact ht
 ·intro i hi;rcases hmem i hi with h1 | h1
  ·rw[hold i h1];exact h.rcv i h1
  ·subst h1;rw[hnew];have:=h.rcs;show(0:Int)≤0∧(0:Int)≤q.fPolicy.fReceives;omega
 ·show(idx++[(ps.length:Int)]).length+D.length≤256;simp;omega
 ·intro i hi;rcases hmem i hi with h1 | h1
  ·unfold G5;rw[hold i h1];exact h.sm i h1
  ·subst h1;unfold G5;rw[hnew];exact hs
theorem ML {n:Nat}{q:Ah}{ps:List Ab}(hb:QB n q ps)(hn:n≤1000000)(e:Av)(t:Int):N8 q ps e t=some (Re q ps q.fDead e,ps++[KS e t q.fArrived]):=by
 unfold N8;obtain⟨h1,h2,_⟩:=hb;rw[AY (by omega) (by omega)];rfl
theorem Px {F:Nat}{ys:List Av}{id:A9}(hF:ys.length<F)(hl:ys.length≤1000000):∃k,LG F ys id=some k∧decide (0≤k)=ys.any λe=>decide (e.fID=id):=by
 have key:∀(d n i:Nat),i+d=ys.length→d<n→∃o,Cn (λσ=>Cu ys id σ) n (i:Int)=some o∧∃k,Ca (λ_=>Gg) o=some k∧decide (0≤k)=(ys.drop i).any λe=>decide (e.fID=id):=by
  intro d
  induction d with
  | zero=>
   intro n i h hn;obtain⟨n,rfl⟩:∃m,n=m+1:=⟨n-1,by omega⟩
   have hb:Cu ys id (i:Int)=some (.out (.go ())):=by unfold Cu;rw[AQ (T7 (by omega))]
   refine⟨.go (),by rw[Cn];simp only[hb],-1,rfl,?_⟩;rw[List.drop_of_length_le (by omega)];rfl
  | succ d ih=>
   intro n i h hn;obtain⟨n,rfl⟩:∃m,n=m+1:=⟨n-1,by omega⟩
   have hi:i<ys.length:=by omega
   have hd:=List.drop_eq_getElem_cons hi
   cases hq:decide (ys[i].fID=id) with
   | true=>
    have hb:Cu ys id (i:Int)=some (.out (.ret (i:Int))):=by
     unfold Cu Lq;rw[AS (T4 (by omega)),C3 (by omega) (by omega),Gl hi,Bd rfl,AS hq]
    refine⟨.ret (i:Int),by rw[Cn];simp only[hb],(i:Int),rfl,?_⟩;rw[hd,List.any_cons,hq,TW];exact T4 (by omega)
   | false=>
    have hb:Cu ys id (i:Int)=some (.next ((i+1:Nat):Int)):=by
     unfold Cu Lq;rw[AS (T4 (by omega)),C3 (by omega) (by omega),Gl hi,Bd rfl,AQ hq,AY (by omega) (by omega)];rfl
    obtain⟨o,h1,k,h2,h3⟩:=ih n (i+1) (by omega) (by omega);refine⟨o,by rw[Cn];simp only[hb];exact h1,k,h2,?_⟩;rw[h3,hd,List.any_cons,hq,TF]
 obtain⟨o,h1,k,h2,h3⟩:=key ys.length F 0 (by omega) hF;refine⟨k,?_,by rw[h3,List.drop_zero]⟩;unfold LG;have h1':Cn (λσ=>Cu ys id σ) F 0=some o:=h1;rw[Bd h1',h2]
def LK (q:Ah)(id:A9):Bool:=Cf q.fWaiting id||q.fDead.any λe=>decide (e.fID=id)
theorem Qj {F:Nat}(hF:300<F){q:Ah}{ps:List Ab}{idx:List Int}(h:QI q ps idx)(id:A9):OC F q ps id=some (LK q id):=by
 have hc:=h.cnt;obtain⟨k,h1,h2⟩:=Px (F:=F) (ys:=q.fDead) (id:=id) (by omega) (by omega);unfold OC LK Gs Np
 cases Cf q.fWaiting id with
 | true=>rfl
 | false=>rw[AQ rfl,h1,Bd rfl,Bd rfl,h2];rfl
theorem QK {q:Ah}{ps:List Ab}{idx:List Int}(h:QI q ps idx)(id:A9):LK q id=true↔id∈idx.map (λi=>(Ac ps i).fEvent.fID)++q.fDead.map (·.fID):=by
 unfold LK;rw[TS,List.mem_append];refine or_congr ⟨λhx=>?_,λhx=>?_⟩ ⟨λhx=>?_,λhx=>?_⟩
 ·unfold Cf at hx;obtain⟨i,hi⟩:=Option.isSome_iff_exists.1 hx;obtain⟨h1,h2⟩:=h.get hi;exact List.mem_map.2 ⟨i,h1,h2⟩
 ·obtain⟨i,hi,e⟩:=List.mem_map.1 hx
  cases hm:Cf q.fWaiting id with
  | true=>rfl
  | false=>exact absurd e (GI hm _ (h.pm.symm.subset (List.mem_map.2 ⟨i,hi,rfl⟩)))
 ·obtain⟨e,he,h1⟩:=List.any_eq_true.1 hx;exact List.mem_map.2 ⟨e,he,Uk h1⟩
 ·obtain⟨e,he,h1⟩:=List.mem_map.1 hx;exact List.any_eq_true.2 ⟨e,he,T4 h1⟩
def Sl (e:Av):Prop:=∀c∈e.fBody,BQ .i64 c.fInt=true∧c.fN≤9223372036854775807
theorem EW {e:Av}(h:CO e=true):Si e:=by
 unfold CO Ok at h;simp only[T6,TJ,Ua,T0] at h;exact⟨by omega,by omega⟩
theorem Mw {e:Av}(h:CO e=true)(ho:Sl e):Mb 5000 e.fBody:=by
 have h1:=EW h;unfold CO at h;simp only[T6,TJ,List.any_eq_false,T1] at h;exact⟨by decide,by have:=h1.2;omega,λc hc=>⟨by have:=h.2 c hc;omega,(ho c hc).1,(ho c hc).2⟩⟩
theorem LR {F:Nat}(hF:5000<F){e:Av}(h:CO e=true)(ho:Sl e):∃x,Id F e=some x:=by
 unfold Id;rw[N5 (Mw h ho) (by decide) hF];generalize((!(Eb e.fID))||((!(Eb e.fTenant))||((!(Eb e.fSource))||(bif !decide (e.fKey=([]:A9)) then((!(Eb e.fKey))||((!decide (e.fCause=([]:A9)))&&(!(Eb e.fCause)))) else((!decide (e.fCause=([]:A9)))&&(!(Eb e.fCause)))))))=a;generalize((decide (e.fAt<0))||(decide (1073741824<e.fAt)))=b
 cases a with
 | true=>exact⟨_,rfl⟩
 | false=>
  cases b with
  | true=>exact⟨_,rfl⟩
  | false=>exact⟨_,rfl⟩
theorem MH {e:Av}(h:Si e):Mp e=some e:=by
 unfold Mp KK;have:=h.2;rw[Bu (show Js 40 (([]:List Am).length+e.fBody.length)=true from T4 (by simp;omega)),Bd rfl];rfl
def JX (q:Ah):Bool:=decide (256≤q.fWaiting.length+q.fDead.length)
def EL (q:Ah)(ps:List Ab)(idx:List Int)(e:Av)(now d x:Int):Int×Ah×List Ab:=
 if Qq d=true then if EB q now=0 then
  if x=0 then if LK (Ci q ps idx now) e.fID=true then(6,Ci q ps idx now,ps) else if JX (Ci q ps idx now)=true then(3,Ci q ps idx now,ps)
   else(0,Re (Ci q ps idx now) ps (Ci q ps idx now).fDead e,ps++[KS e (now+d) q.fArrived])
  else(x,Ci q ps idx now,ps) else(EB q now,q,ps) else(2,q,ps)
theorem OA {F n:Nat}(hF:5000<F){q:Ah}{ps:List Ab}{idx:List Int}(h:QI q ps idx)(hb:QB n q ps)(hn:n≤1000000){e:Av}(hs:CO e=true)(ho:Sl e)(now d:Int){x:Int}(hx:Id F e=some x) :
  JG F q ps e now d=some (EL q ps idx e now d x):=by
 unfold JG EL;rw[Jb,Bd rfl]
 cases ht:Qq d with
 | false=>
  have ht':decide (0≤d∧d≤1073741824)=false:=ht;rw[ht',AS (p:=!false) rfl];simp
 | true=>
  have ht':decide (0≤d∧d≤1073741824)=true:=ht;have htd:=Uk ht';rw[ht',AQ (p:=!true) rfl,E7 (by omega) h,Bd rfl,TP rfl]
  by_cases ha:EB q now=0
  ·have hnw:=C4 ha;have hq:=Et h ⟨hnw.1,hnw.2.1⟩;have hqb:QB n (Ci q ps idx now) ps:=hb;simp only[ha,decide_true,TA,Uo];rw[AQ rfl,hx,Bd rfl]
   by_cases hx0:x=0
   ·rw[TP hx0,hx0,AQ (p:=!decide ((0:Int)=0)) (by decide),Qj (by omega) hq,Bd rfl]
    cases hh:LK (Ci q ps idx now) e.fID with
    | true=>rw[AS rfl,TP rfl]
    | false=>
     have hw:=hq.wlen;have hc:=hq.cnt;rw[AQ rfl,TE (by simp),AY (by omega) (by omega)];have hfu:decide ((256:Int)≤(((Ci q ps idx now).fWaiting.length:Int)+((Ci q ps idx now).fDead.length:Int)))=JX (Ci q ps idx now):=by
      unfold JX;rw[TZ];simp only[T1];omega
     rw[hfu]
     cases JX (Ci q ps idx now) with
     | true=>rw[AS rfl,TP rfl]
     | false=>
      rw[AQ rfl,TE (by simp),MH (EW hs),Bd rfl,AY (by omega) (by omega),ML hqb hn,Bd rfl];rfl
   ·rw[TE hx0,AS (by simp[hx0])]
  ·simp only[ha,decide_false,TI,Ug];rw[AS rfl]
theorem R9 {q:Ah}{ps:List Ab}{idx:List Int}(h:QI q ps idx){e:Av}(hs:CO e=true)(now d x:Int)(n:Nat)(hb:QB n q ps) :
  ∃idx',QI (EL q ps idx e now d x).2.1 (EL q ps idx e now d x).2.2 idx'∧QB (n+1) (EL q ps idx e now d x).2.1 (EL q ps idx e now d x).2.2∧((EL q ps idx e now d x).1=0→idx'.length+(EL q ps idx e now d x).2.1.fDead.length=idx.length+q.fDead.length+1)∧
   (¬ (EL q ps idx e now d x).1=0→idx'.length+(EL q ps idx e now d x).2.1.fDead.length=idx.length+q.fDead.length):=by
 obtain⟨b1,b2,b3⟩:=hb;have hb':QB (n+1) q ps:=⟨b1,by omega,by omega⟩
 unfold EL
 by_cases ht:Qq d=true
 ·rw[TP ht]
  by_cases ha:EB q now=0
  ·rw[TP ha];have hnw:=C4 ha;have hq:=Et h ⟨hnw.1,hnw.2.1⟩;have hqb:QB (n+1) (Ci q ps idx now) ps:=hb';have hcn:=IR q ps idx now
   by_cases hx0:x=0
   ·rw[TP hx0]
    cases hh:LK (Ci q ps idx now) e.fID with
    | true=>rw[TP rfl];exact⟨_,hq,hqb,λe=>absurd e (by simp),λ_=>hcn⟩
    | false=>
     rw[TE (by simp)]
     cases hf:JX (Ci q ps idx now) with
     | true=>rw[TP rfl];exact⟨_,hq,hqb,λe=>absurd e (by simp),λ_=>hcn⟩
     | false=>
      rw[TE (by simp)];have htd:0≤d∧d≤1073741824:=Uk ht;have hnot:e.fID ∉ (DE q ps idx now).map (λi=>(Ac ps i).fEvent.fID)++(Ci q ps idx now).fDead.map (·.fID):=λhm=>by
       have:=(QK hq e.fID).2 hm;rw[this] at hh;cases hh
      have hfu : ¬ 256≤(Ci q ps idx now).fWaiting.length+(Ci q ps idx now).fDead.length:=of_decide_eq_false hf;have hw:=hq.wlen;refine⟨_,PL hq (t:=now+d) (EW hs) ⟨by omega,by omega⟩ (List.nodup_cons.2 ⟨hnot,hq.ids⟩) hq.smd (by omega),⟨?_,?_,?_⟩,λ_=>?_,λe=>absurd rfl e⟩
      ·show 0≤q.fArrived+1;omega
      ·show q.fArrived+1≤((n+1:Nat):Int);omega
      ·simp;omega
      ·show(DE q ps idx now++[(ps.length:Int)]).length+(Ci q ps idx now).fDead.length=_;simp;omega
   ·rw[TE hx0];exact⟨_,hq,hqb,λe=>absurd e hx0,λ_=>hcn⟩
  ·rw[TE ha];exact⟨_,h,hb',λe=>absurd e ha,λ_=>rfl⟩
 ·rw[TE ht];exact⟨_,h,hb',λe=>absurd e (by simp),λ_=>rfl⟩
theorem Rb {ps:List Ab}{i:Int}{y:Ab}(hi:C2 i (ps.length:Int)=true):Ac (ps.set i.toNat y) i=y:=by rw[KO hi hi,TP rfl]
theorem PD {α:Type}{x:Option α}:Bo true x=x:=rfl
def Lx (x:Ab)(t:Int):Ab:=⟨x.fEvent,t,x.fReceives+1,true,x.fPlace⟩
def Qy (x:Ab):A9:=(x.fEvent.fID++[35])++Lib.itoa x.fReceives
def SK (x:Ab):AJ:=⟨Qy x,x.fEvent,x.fReceives⟩
theorem PE {α:Type}{n:Nat}{x:Option α}(h:n≤1000000):Bo (Js 136 n) x=x:=Bu (T4 (by omega))
theorem Lk {ps:List Ab}{i:Int}(hi:C2 i (ps.length:Int)=true)(hs:(Ac ps i).fEvent.fID.length≤300)(hr:0≤(Ac ps i).fReceives∧(Ac ps i).fReceives≤1000):DU i ps=some (Qy (Ac ps i)):=by
 unfold DU;have h1:=Py (Ac ps i).fReceives (by omega) (by omega);rw[Bu (T4 (Bm hi).1),Bu hi,AY (by simp only[Ub];omega) (by simp only[Ub];omega),AY (by omega) (by omega),AY (by simp only[TG,Ub];omega) (by simp only[TG,Ub];omega)];rfl
theorem OR {now most:Int}{r2:Int×Ah×List Ab}{P:List Int}{j:Nat}{out:List AJ}{ps:List Ab}(hj:j<P.length)(hP:P.length≤256)(hi:C2 P[j] (ps.length:Int)=true)(hs:Si (G5 ps P[j]))(hr:0≤(Ac ps P[j]).fReceives∧(Ac ps P[j]).fReceives≤100)
  (ht : -10000000000≤now+r2.2.1.fPolicy.fVisible∧now+r2.2.1.fPolicy.fVisible≤10000000000) (ho:out.length≤256) :
  BS now most r2 P out (j:Int) ps=some (if most≤(out.length:Int) then .out (.go (out,ps)) else .next (out++[SK (Lx (Ac ps P[j]) (now+r2.2.1.fPolicy.fVisible))],((j+1:Nat):Int),ps.set P[j].toNat (Lx (Ac ps P[j]) (now+r2.2.1.fPolicy.fVisible)))):=by
 unfold BS;rw[AS (T4 (by omega)),C3 (by omega) (by omega),Gl hj]
 by_cases hm:most≤(out.length:Int)
 ·rw[AS (T4 hm),TP hm]
 ·rw[AQ (T7 hm),TE hm];generalize P[j]=i at hi hs hr ⊢;have hself:∀(y:Ab),Ac (ps.set i.toNat y) i=y:=λy=>Rb hi;rw[Bu (T4 (Bm hi).1),Bu hi,AY (by omega) (by omega)];simp only[LZ,Un,List.set_set,hself,hi,PD];rw[AY (by omega) (by omega)];have hrc:DU i (ps.set i.toNat (Lx (Ac ps i) (now+r2.2.1.fPolicy.fVisible)))=some (Qy (Lx (Ac ps i) (now+r2.2.1.fPolicy.fVisible))):=by
   have:=Lk (ps:=ps.set i.toNat (Lx (Ac ps i) (now+r2.2.1.fPolicy.fVisible))) (i:=i) (by rw[Un];exact hi) (by rw[hself];exact hs.1) (by rw[hself];show 0≤(Ac ps i).fReceives+1∧(Ac ps i).fReceives+1≤1000;omega);rw[hself] at this;exact this
  have hrc':DU i (ps.set i.toNat ⟨(Ac ps i).fEvent,now+r2.2.1.fPolicy.fVisible,(Ac ps i).fReceives+1,true,(Ac ps i).fPlace⟩)=some (Qy (Lx (Ac ps i) (now+r2.2.1.fPolicy.fVisible))):=hrc;have hown:Mp (Ac ps i).fEvent=some (Ac ps i).fEvent:=MH hs;rw[hrc',Bd rfl,hown,Bd rfl,PE (by simp;omega),AY (by omega) (by omega)];rfl
theorem OQ {q:Ah}{idx P:List Int}{now most:Int}{r2:Int×Ah×List Ab}(hr2:r2.2.1.fPolicy=q.fPolicy)(hnd:P.Nodup)(hsub:∀i∈P,i∈idx)(hP:P.length≤256)(hnow:0≤now∧now≤1073741824) :
  ∀(d n j:Nat) (out:List AJ) (ps:List Ab),j+d=P.length→d<n→QI q ps idx→out.length≤j→(∀i∈P.drop j,(Ac ps i).fReceives<q.fPolicy.fReceives)→
   ∃out' ps',Cn (λσ=>BS now most r2 P σ.1 σ.2.1 σ.2.2) n (out,(j:Int),ps)=some (.go (out',ps'))∧QI q ps' idx∧ps'.length=ps.length:=by
 intro d
 induction d with
 | zero=>
  intro n j out ps h hn hq ho hr;obtain⟨n,rfl⟩:∃m,n=m+1:=⟨n-1,by omega⟩
  have hb:BS now most r2 P out (j:Int) ps=some (.out (.go (out,ps))):=by unfold BS;rw[AQ (T7 (by omega))]
  exact⟨out,ps,by rw[Cn];simp only[hb],hq,rfl⟩
 | succ d ih=>
  intro n j out ps h hn hq ho hr;obtain⟨n,rfl⟩:∃m,n=m+1:=⟨n-1,by omega⟩
  have hj:j<P.length:=by omega
  have hd:=List.drop_eq_getElem_cons hj;have hm:P[j]∈idx:=hsub _ (List.getElem_mem hj);have hrj:=hr P[j] (by rw[hd];exact List.mem_cons_self ..);have hrc:=hq.rcv _ hm;have hpol:=hq.rcs;have hvis:=hq.vis;have hb:=OR (now:=now) (most:=most) (r2:=r2) (out:=out) hj hP (hq.inr _ hm) (hq.sm _ hm) ⟨hrc.1,by omega⟩ (by rw[hr2];omega) (by omega)
  by_cases hmo:most≤(out.length:Int)
  ·rw[TP hmo] at hb;exact⟨out,ps,by rw[Cn];simp only[hb],hq,rfl⟩
  ·rw[TE hmo] at hb;have hq':QI q (ps.set P[j].toNat (Lx (Ac ps P[j]) (now+r2.2.1.fPolicy.fVisible))) idx:=hq.set hm rfl rfl (by show 0≤now+r2.2.1.fPolicy.fVisible∧now+r2.2.1.fPolicy.fVisible≤2147483648;rw[hr2];omega) (by show 0≤(Ac ps P[j]).fReceives+1∧(Ac ps P[j]).fReceives+1≤q.fPolicy.fReceives;omega);obtain⟨o',p',h1,h2,h3⟩:=ih n (j+1) (out++[SK (Lx (Ac ps P[j]) (now+r2.2.1.fPolicy.fVisible))]) _ (by omega) (by omega) hq' (by simp;omega) (λi hi=>by
    have hii:i∈P.drop j:=by rw[hd];exact List.mem_cons_of_mem _ hi
    have hne:i≠P[j]:=λe=>by
     have hnd':(P.drop j).Nodup:=hnd.sublist (List.drop_sublist _ _);rw[hd,List.nodup_cons] at hnd';exact hnd'.1 (e▸hi)
    rw[KO (hq.inr _ hm) (hq.inr i (hsub i (List.mem_of_mem_drop hii))),TE hne];exact hr i hii)
   refine⟨o',p',?_,h2,by rw[h3,Un]⟩;rw[Cn];simp only[hb];exact h1
theorem Lj {F n:Nat}(hF:300<F){q:Ah}{ps:List Ab}{idx:List Int}(h:QI q ps idx)(hb:QB n q ps)(now most:Int) :
  ∃out q' ps' idx',D2 F q ps now most=some (out,q',ps')∧QI q' ps' idx'∧QB n q' ps'∧q'.fPolicy=q.fPolicy∧idx'.length+q'.fDead.length=idx.length+q.fDead.length∧(q'.fNow=q.fNow∨q'.fNow=now∧0≤now∧now≤1073741824):=by
 unfold D2;rw[E7 hF h,Bd rfl]
 by_cases ha:EB q now=0
 ·have hn:=C4 ha;have hq:=Et h ⟨hn.1,hn.2.1⟩;simp only[ha,decide_true,TA,Uo];rw[AQ rfl,Ll hq,Bd rfl];have hpm:=D7 (K7 ps) ((DE q ps idx now).filter (DT ps now));have hsub:∀i∈G3 (K7 ps) ((DE q ps idx now).filter (DT ps now)),i∈DE q ps idx now:=λi hi=>(List.mem_filter.1 (hpm.subset hi)).1;have hnd:(G3 (K7 ps) ((DE q ps idx now).filter (DT ps now))).Nodup:=hpm.symm.nodup ((hq.ord.imp fun {a b} hab e=>by subst e;omega:(DE q ps idx now).Nodup).filter _);have hc:=hq.cnt;have hl:(G3 (K7 ps) ((DE q ps idx now).filter (DT ps now))).length≤256:=by
   rw[hpm.length_eq];exact Nat.le_trans (List.length_filter_le _ _) (by omega)
  obtain⟨o,p',h1,h2,h3⟩:=OQ (q:=Ci q ps idx now) (idx:=DE q ps idx now) (now:=now) (most:=most) (r2:=(0,Ci q ps idx now,ps)) rfl hnd hsub hl ⟨hn.1,hn.2.1⟩ (G3 (K7 ps) ((DE q ps idx now).filter (DT ps now))).length F 0 [] ps (by omega) (by omega) hq (by simp) (λi hi=>by
   rw[List.drop_zero] at hi;have h4:=List.mem_filter.1 (hpm.subset hi);have h5:=(List.mem_filter.1 h4.1).2;have h6:DT ps now i=true:=h4.2;unfold C7 at h5;unfold DT at h6;rw[h6] at h5;simp only[TK,TJ,T0] at h5;show(Ac ps i).fReceives<q.fPolicy.fReceives;omega)
  have h1':Cn (λσ=>BS now most (0,Ci q ps idx now,ps) (G3 (K7 ps) ((DE q ps idx now).filter (DT ps now))) σ.1 σ.2.1 σ.2.2) F (([]:List AJ),0,ps)=some (.go (o,p')):=h1;rw[h1',Bd rfl,Hz];exact⟨o,Ci q ps idx now,p',DE q ps idx now,rfl,h2,⟨hb.1,hb.2.1,by rw[h3];exact hb.2.2⟩,rfl,IR q ps idx now,.inr ⟨rfl,hn.1,hn.2.1⟩⟩
 ·simp only[ha,decide_false,TI,Ug];rw[AS rfl];exact⟨_,q,ps,idx,rfl,h,hb,rfl,rfl,.inl rfl⟩
theorem OP {r1:Int×Ah×List Ab}{now:Int}(hnow:0≤now∧now≤1073741824)(hdl:r1.2.1.fDead.length≤256):∀(d n j m:Nat) (q:Ah) (ps:List Ab) (idx:List Int),j+d=r1.2.1.fDead.length→d<n→q.fDead=r1.2.1.fDead.drop j→QI q ps idx→QB m q ps→m+d≤1000000→
  ∃q' ps' idx',Cn (λσ=>BR now r1 σ.1 σ.2.1 σ.2.2.1 σ.2.2.2.1 σ.2.2.2.2.1 σ.2.2.2.2.2.1 σ.2.2.2.2.2.2) n ((j:Int),q.fPolicy.fVisible,q.fPolicy.fReceives,q.fNow,q.fArrived,q.fWaiting,ps)=some (.go (q'.fPolicy.fVisible,q'.fPolicy.fReceives,q'.fNow,q'.fArrived,q'.fWaiting,ps'))∧QI q' ps' idx'∧QB (m+d) q' ps'∧q'.fDead=[]∧q'.fPolicy=q.fPolicy∧q'.fNow=q.fNow∧idx'.length=idx.length+d:=by
 intro d
 induction d with
 | zero=>
  intro n j m q ps idx h hn hd hq hb hm;obtain⟨n,rfl⟩:∃m,n=m+1:=⟨n-1,by omega⟩
  have hb1:BR now r1 (j:Int) q.fPolicy.fVisible q.fPolicy.fReceives q.fNow q.fArrived q.fWaiting ps=some (.out (.go (q.fPolicy.fVisible,q.fPolicy.fReceives,q.fNow,q.fArrived,q.fWaiting,ps))):=by unfold BR;rw[AQ (T7 (by omega))]
  exact⟨q,ps,idx,by rw[Cn];simp only[hb1],hq,hb,by rw[hd,List.drop_of_length_le (by omega)],rfl,rfl,rfl⟩
 | succ d ih=>
  intro n j m q ps idx h hn hd hq hb hm;obtain⟨n,rfl⟩:∃m,n=m+1:=⟨n-1,by omega⟩
  have hj:j<r1.2.1.fDead.length:=by omega
  have hdc:=List.drop_eq_getElem_cons hj;have hb':QB m ⟨⟨q.fPolicy.fVisible,q.fPolicy.fReceives⟩,q.fWaiting,r1.2.1.fDead,q.fNow,q.fArrived⟩ ps:=hb;have hb1:BR now r1 (j:Int) q.fPolicy.fVisible q.fPolicy.fReceives q.fNow q.fArrived q.fWaiting ps=some (.next (((j+1:Nat):Int),q.fPolicy.fVisible,q.fPolicy.fReceives,q.fNow,q.fArrived+1,mset q.fWaiting (r1.2.1.fDead[j]).fID (ps.length:Int),ps++[KS r1.2.1.fDead[j] now q.fArrived])):=by
   unfold BR;rw[AS (T4 (by omega)),C3 (by omega) (by omega),Gl hj,ML hb' (by omega),Bd rfl,AY (by omega) (by omega)];rfl
  have hids:=hq.ids;have hcnt:=hq.cnt;have hsd:=hq.smd;rw[hd,hdc] at hids hcnt hsd;have hq':QI (Re q ps (r1.2.1.fDead.drop (j+1)) r1.2.1.fDead[j]) (ps++[KS r1.2.1.fDead[j] now q.fArrived]) (idx++[(ps.length:Int)]):=PL hq (hsd _ (List.mem_cons_self ..)) ⟨by omega,by omega⟩ (List.perm_middle.nodup hids) (λx hx=>hsd x (List.mem_cons_of_mem _ hx)) (by simp only[T9] at hcnt;omega);obtain⟨q',ps',idx',h1,h2,h3,h4,h5,h6,h7⟩:=ih n (j+1) (m+1) _ _ _ (by omega) (by omega) rfl hq' ⟨by show 0≤q.fArrived+1;have:=hb.1;omega,by show q.fArrived+1≤((m+1:Nat):Int);have:=hb.2.1;omega,by simp;exact hb.2.2⟩ (by omega);refine⟨q',ps',idx',?_,h2,by rw[show m+(d+1)=m+1+d from by omega];exact h3,h4,h5,h6,by rw[h7];simp;omega⟩;rw[Cn];simp only[hb1];exact h1
theorem Li {F n:Nat}(hF:300<F){q:Ah}{ps:List Ab}{idx:List Int}(h:QI q ps idx)(hb:QB n q ps)(hn:n+256≤1000000)(now:Int) :
  ∃k q' ps' idx',ER F q ps now=some (k,q',ps')∧QI q' ps' idx'∧QB (n+256) q' ps'∧q'.fPolicy=q.fPolicy∧idx'.length+q'.fDead.length=idx.length+q.fDead.length∧(q'.fNow=q.fNow∨q'.fNow=now∧0≤now∧now≤1073741824):=by
 unfold ER;rw[E7 hF h,Bd rfl];have hbn:QB (n+256) q ps:=⟨hb.1,by have:=hb.2.1;omega,by have:=hb.2.2;omega⟩
 by_cases ha:EB q now=0
 ·have hnw:=C4 ha;have hq:=Et h ⟨hnw.1,hnw.2.1⟩;simp only[ha,decide_true,TA,Uo];have hc:=hq.cnt;obtain⟨q',ps',idx',h1,h2,h3,h4,h5,h6,h7⟩:=OP (r1:=(0,Ci q ps idx now,ps)) (now:=now) ⟨hnw.1,hnw.2.1⟩ (by show(Ci q ps idx now).fDead.length≤256;omega) (Ci q ps idx now).fDead.length F 0 n (Ci q ps idx now) ps (DE q ps idx now) (by simp) (by omega) rfl hq hb (by omega);have h1':Cn (λσ=>BR now (0,Ci q ps idx now,ps) σ.1 σ.2.1 σ.2.2.1 σ.2.2.2.1 σ.2.2.2.2.1 σ.2.2.2.2.2.1 σ.2.2.2.2.2.2) F (0,(Ci q ps idx now).fPolicy.fVisible,(Ci q ps idx now).fPolicy.fReceives,(Ci q ps idx now).fNow,(Ci q ps idx now).fArrived,(Ci q ps idx now).fWaiting,ps)=some (.go (q'.fPolicy.fVisible,q'.fPolicy.fReceives,q'.fNow,q'.fArrived,q'.fWaiting,ps')):=h1;rw[AQ rfl,h1',Bd rfl,Hz];have e:(⟨⟨q'.fPolicy.fVisible,q'.fPolicy.fReceives⟩,q'.fWaiting,[],q'.fNow,q'.fArrived⟩:Ah)=q':=by
   cases q';simp only at h4;subst h4;rfl
  refine⟨((Ci q ps idx now).fDead.length:Int),q',ps',idx',?_,h2,⟨h3.1,by have:=h3.2.1;omega,by have:=h3.2.2;omega⟩,h5,?_,.inr ⟨h6,hnw.1,hnw.2.1⟩⟩
  ·unfold D1;simp only;rw[e]
  ·rw[h7,h4];exact IR q ps idx now
 ·simp only[ha,decide_false,TI,Ug];rw[AS rfl];exact⟨_,q,ps,idx,rfl,h,hbn,rfl,rfl,.inl rfl⟩
def On (a b now:Int):Prop:=b=a∨b=now∧0≤now∧now≤1073741824
theorem Ko (q:Ah)(ps:List Ab)(idx:List Int)(now t:Int):(EQ q ps idx now t).fPolicy=q.fPolicy∧On q.fNow (EQ q ps idx now t).fNow now∧(EQ q ps idx now t).fArrived=q.fArrived:=by
 unfold EQ
 split
 ·rename_i h;have:=C4 h.2;exact⟨rfl,.inr ⟨rfl,this.1,this.2.1⟩,rfl⟩
 ·exact⟨rfl,.inl rfl,rfl⟩
theorem Qr (q:Ah)(ps:List Ab)(idx:List Int)(e:Av)(now d x:Int):(EL q ps idx e now d x).2.1.fPolicy=q.fPolicy∧On q.fNow (EL q ps idx e now d x).2.1.fNow now:=by
 unfold EL
 by_cases ht:Qq d=true
 ·rw[TP ht]
  by_cases ha:EB q now=0
  ·have hn:=C4 ha;rw[TP ha]
   by_cases hx:x=0
   ·rw[TP hx]
    by_cases hh:LK (Ci q ps idx now) e.fID=true
    ·rw[TP hh];exact⟨rfl,.inr ⟨rfl,hn.1,hn.2.1⟩⟩
    ·rw[TE hh]
     by_cases hf:JX (Ci q ps idx now)=true
     ·rw[TP hf];exact⟨rfl,.inr ⟨rfl,hn.1,hn.2.1⟩⟩
     ·rw[TE hf];exact⟨rfl,.inr ⟨rfl,hn.1,hn.2.1⟩⟩
   ·rw[TE hx];exact⟨rfl,.inr ⟨rfl,hn.1,hn.2.1⟩⟩
  ·rw[TE ha];exact⟨rfl,.inl rfl⟩
 ·rw[TE ht];exact⟨rfl,.inl rfl⟩
theorem QI.upd {q:Ah}{ps:List Ab}{idx:List Int}(h:QI q ps idx){i:Int}(hi:i∈idx){t:Int}(b:Bool)(ht:0≤t∧t≤2147483648):QI q (ps.set i.toNat ⟨(Ac ps i).fEvent,t,(Ac ps i).fReceives,b,(Ac ps i).fPlace⟩) idx:=h.set hi rfl rfl ht (h.rcv i hi)
theorem Nn {F n:Nat}(hF:5000<F){q:Ah}{ps:List Ab}{idx:List Int}(h:QI q ps idx)(hb:QB n q ps)(hn:n+256≤1000000){o:AU}(hs:Iw o=false)(ho:Sl o.fEvent) :
  ∃k f q' ps' idx',Ek F q ps o=some (k,f,q',ps')∧QI q' ps' idx'∧QB (n+256) q' ps'∧q'.fPolicy=q.fPolicy∧On q.fNow q'.fNow o.fNow∧
   ((idx'.length+q'.fDead.length:Nat):Int)=(idx.length+q.fDead.length:Nat)+(if f=0∧o.fKind=0 then 1 else 0)-(if f=0∧o.fKind=2 then 1 else 0):=by
 obtain⟨b1,b2,b3⟩:=hb;have hb:QB n q ps:=⟨b1,b2,b3⟩
 have hsm:CO o.fEvent=true∧o.fReceipt.length≤300:=by
  unfold Iw at hs;simp only[Ua,Bool.not_eq_false',T0] at hs;exact⟨hs.1,by omega⟩
 have hbn:∀{q':Ah} {ps':List Ab},q'.fArrived=q.fArrived→ps'.length=ps.length→QB (n+256) q' ps':=λh1 h2=>⟨by rw[h1];omega,by rw[h1];omega,by rw[h2];omega⟩
 unfold Ek
 by_cases k0:o.fKind=0
 ·obtain⟨x,hx⟩:=LR (F:=F) hF hsm.1 ho;obtain⟨idx',h1,h2,h3,h4⟩:=R9 h hsm.1 o.fNow o.fN x n hb;have hnw:=Qr q ps idx o.fEvent o.fNow o.fN x;rw[AS (T4 k0),OA hF h hb (by omega) hsm.1 ho _ _ hx,Bd rfl];refine⟨0,(EL q ps idx o.fEvent o.fNow o.fN x).1,(EL q ps idx o.fEvent o.fNow o.fN x).2.1,(EL q ps idx o.fEvent o.fNow o.fN x).2.2,idx',rfl,h1,⟨h2.1,by have:=h2.2.1;omega,by have:=h2.2.2;omega⟩,hnw.1,hnw.2,?_⟩
  by_cases hf:(EL q ps idx o.fEvent o.fNow o.fN x).1=0
  ·rw[TP ⟨hf,k0⟩,TE (by omega),h3 hf];omega
  ·rw[TE (λe=>hf e.1),TE (λe=>hf e.1),h4 hf];omega
 ·rw[AQ (T7 k0)]
  by_cases k2:o.fKind=2
  ·rw[AS (T4 k2),Mr (by omega) h (by omega),Bd rfl];have hun:=Ko q ps idx o.fNow 0;have hcn:=Kq q ps idx o.fNow 0;have huq:=Mf h o.fNow 0
   by_cases he:(Do q ps idx o.fReceipt o.fNow 0).2=0
   ·obtain⟨_,ha,e1,e2,hi⟩:=HM h he;have hi':(Do q ps idx o.fReceipt o.fNow 0).1∈G2 q ps idx o.fNow 0:=by rw[e2];exact hi
    have hrc:=RB huq hi';simp only[TP he];refine⟨0,_,_,_,Rl (G2 q ps idx o.fNow 0) (Do q ps idx o.fReceipt o.fNow 0).1,rfl,S3 huq hi',hbn hun.2.2 rfl,hun.1,hun.2.1,?_⟩;rw[TE (λe=>k0 e.2),TP ⟨he,k2⟩];show(((Rl (G2 q ps idx o.fNow 0) (Do q ps idx o.fReceipt o.fNow 0).1).length+(EQ q ps idx o.fNow 0).fDead.length:Nat):Int)=_;omega
   ·simp only[TE he];refine⟨0,_,_,_,G2 q ps idx o.fNow 0,rfl,huq,hbn hun.2.2 rfl,hun.1,hun.2.1,?_⟩;rw[TE (λe=>he e.1),TE (λe=>he e.1),hcn];omega
  ·rw[AQ (T7 k2)]
   by_cases k3:o.fKind=3
   ·rw[AS (T4 k3),Mi (by omega) h (by omega),Bd rfl];have hun:=Ko q ps idx o.fNow o.fN;have hcn:=Kq q ps idx o.fNow o.fN;have huq:=Mf h o.fNow o.fN
    by_cases he:(Do q ps idx o.fReceipt o.fNow o.fN).2=0
    ·obtain⟨ht,ha,e1,e2,hi⟩:=HM h he;have hn':=C4 ha;have hi':(Do q ps idx o.fReceipt o.fNow o.fN).1∈G2 q ps idx o.fNow o.fN:=by rw[e2];exact hi
     simp only[TP he];refine⟨0,_,_,_,G2 q ps idx o.fNow o.fN,rfl,huq.upd hi' false ⟨by omega,by omega⟩,hbn hun.2.2 (Un ..),hun.1,hun.2.1,?_⟩;rw[TE (λe=>k0 e.2),TE (λe=>k2 e.2),hcn];omega
    ·simp only[TE he];refine⟨0,_,_,_,G2 q ps idx o.fNow o.fN,rfl,huq,hbn hun.2.2 rfl,hun.1,hun.2.1,?_⟩;rw[TE (λe=>he e.1),TE (λe=>he e.1),hcn];omega
   ·rw[AQ (T7 k3)]
    by_cases k4:o.fKind=4
    ·rw[AS (T4 k4),Mq (by omega) h (by omega),Bd rfl];have hun:=Ko q ps idx o.fNow o.fN;have hcn:=Kq q ps idx o.fNow o.fN;have huq:=Mf h o.fNow o.fN
     by_cases he:(Do q ps idx o.fReceipt o.fNow o.fN).2=0
     ·obtain⟨ht,ha,e1,e2,hi⟩:=HM h he;have hn':=C4 ha;have hi':(Do q ps idx o.fReceipt o.fNow o.fN).1∈G2 q ps idx o.fNow o.fN:=by rw[e2];exact hi
      simp only[TP he];refine⟨0,_,_,_,G2 q ps idx o.fNow o.fN,rfl,huq.upd hi' _ ⟨by omega,by omega⟩,hbn hun.2.2 (Un ..),hun.1,hun.2.1,?_⟩;rw[TE (λe=>k0 e.2),TE (λe=>k2 e.2),hcn];omega
     ·simp only[TE he];refine⟨0,_,_,_,G2 q ps idx o.fNow o.fN,rfl,huq,hbn hun.2.2 rfl,hun.1,hun.2.1,?_⟩;rw[TE (λe=>he e.1),TE (λe=>he e.1),hcn];omega
    ·rw[AQ (T7 k4)]
     by_cases k5:o.fKind=5
     ·obtain⟨k,q',ps',idx',h1,h2,h3,h4,h5,h6⟩:=Li (F:=F) (by omega) h hb hn o.fNow;rw[AS (T4 k5),h1,Bd rfl];refine⟨k,0,q',ps',idx',rfl,h2,h3,h4,h6,?_⟩;rw[TE (λe=>k0 e.2),TE (λe=>k2 e.2),h5];omega
     ·rw[AQ (T7 k5)];refine⟨0,0,q,ps,idx,rfl,h,hbn rfl rfl,rfl,.inl rfl,?_⟩;rw[TE (λe=>k0 e.2),TE (λe=>k2 e.2)];omega
theorem LT {a last j f kind nw v1 v2 n2 ar:Int}{D:List Av}{W:List (A9×Int)}{P:List Ab}(ha : -1000000≤a∧a≤1000000)(hj:0≤j∧j≤100000) :
  B1 (((decide (f=0))&&(decide (kind=0)))) (Bo (BQ .i64 (a+1))<|B1 (((decide (f=0))&&(decide (kind=2)))) (Bo (BQ .i64 ((a+1)-1))<|B1 (((decide (last<nw))&&(decide (nw≤1073741824)))) (AT j ((a+1)-1) nw v1 v2 D n2 ar W P) (AT j ((a+1)-1) last v1 v2 D n2 ar W P)) (B1 (((decide (last<nw))&&(decide (nw≤1073741824)))) (AT j (a+1) nw v1 v2 D n2 ar W P) (AT j (a+1) last v1 v2 D n2 ar W P)))
   (B1 (((decide (f=0))&&(decide (kind=2)))) (Bo (BQ .i64 (a-1))<|B1 (((decide (last<nw))&&(decide (nw≤1073741824)))) (AT j (a-1) nw v1 v2 D n2 ar W P) (AT j (a-1) last v1 v2 D n2 ar W P)) (B1 (((decide (last<nw))&&(decide (nw≤1073741824)))) (AT j a nw v1 v2 D n2 ar W P) (AT j a last v1 v2 D n2 ar W P))) =
  some (.next (a+(if f=0∧kind=0 then 1 else 0)-(if f=0∧kind=2 then 1 else 0),(if last<nw∧nw≤1073741824 then nw else last),j+1,v1,v2,D,n2,ar,W,P)):=by
 have hjj:∀(x y:Int),AT j x y v1 v2 D n2 ar W P=some (.next (x,y,j+1,v1,v2,D,n2,ar,W,P)):=λx y=>by
  unfold AT;rw[AY (by omega) (by omega)]
 have hl:∀x:Int,B1 (((decide (last<nw))&&(decide (nw≤1073741824)))) (AT j x nw v1 v2 D n2 ar W P) (AT j x last v1 v2 D n2 ar W P)=some (.next (x,(if last<nw∧nw≤1073741824 then nw else last),j+1,v1,v2,D,n2,ar,W,P)):=λx=>by
  rw[hjj,hjj]
  by_cases h:last<nw∧nw≤1073741824
  ·rw[TP h,AS (by simp[h.1,h.2])]
  ·rw[TE h,AQ (by rw[← Bool.decide_and];exact T7 h)]
 rw[hl,hl,hl,hl]
 by_cases h0:f=0∧kind=0
 ·have h2 : ¬ (f=0∧kind=2):=by omega
  rw[TP h0,TE h2,AS (by simp[h0.1,h0.2]),AY (by omega) (by omega),AQ (by rw[← Bool.decide_and];exact T7 h2),Int.sub_zero]
 ·rw[TE h0,AQ (by rw[← Bool.decide_and];exact T7 h0)]
  by_cases h2:f=0∧kind=2
  ·rw[TP h2,AS (by simp[h2.1,h2.2]),AY (by omega) (by omega),Int.add_zero]
  ·rw[TE h2,AQ (by rw[← Bool.decide_and];exact T7 h2),Int.add_zero,Int.sub_zero]
theorem PB {F:Nat}(hF:5000<F){l:List AU}(hl:l.length≤300)(hs:∀o∈l,Iw o=false∧Sl o.fEvent):∀(d n j:Nat) (q:Ah) (ps:List Ab) (idx:List Int) (last:Int),j+d=l.length→d<n→QI q ps idx→QB (256*j) q ps→q.fNow≤last→0≤last∧last≤1073741824→
  ∃ (q':Ah) (ps':List Ab) (idx':List Int) (last':Int),Cn (λσ=>BT F l σ.1 σ.2.1 σ.2.2.1 σ.2.2.2.1 σ.2.2.2.2.1 σ.2.2.2.2.2.1 σ.2.2.2.2.2.2.1 σ.2.2.2.2.2.2.2.1 σ.2.2.2.2.2.2.2.2.1 σ.2.2.2.2.2.2.2.2.2) n (((idx.length+q.fDead.length:Nat):Int),last,(j:Int),q.fPolicy.fVisible,q.fPolicy.fReceives,q.fDead,q.fNow,q.fArrived,q.fWaiting,ps) =
   some (.go (((idx'.length+q'.fDead.length:Nat):Int),last',q'.fPolicy.fVisible,q'.fPolicy.fReceives,q'.fDead,q'.fNow,q'.fArrived,q'.fWaiting,ps'))∧QI q' ps' idx'∧q'.fNow≤last':=by
 intro d
 induction d with
 | zero=>
  intro n j q ps idx last h hn hq hb hw hla;obtain⟨n,rfl⟩:∃m,n=m+1:=⟨n-1,by omega⟩
  have hb1:BT F l ((idx.length+q.fDead.length:Nat):Int) last (j:Int) q.fPolicy.fVisible q.fPolicy.fReceives q.fDead q.fNow q.fArrived q.fWaiting ps=some (.out (.go (((idx.length+q.fDead.length:Nat):Int),last,q.fPolicy.fVisible,q.fPolicy.fReceives,q.fDead,q.fNow,q.fArrived,q.fWaiting,ps))):=by unfold BT;rw[AQ (T7 (by omega))]
  exact⟨q,ps,idx,last,by rw[Cn];simp only[hb1],hq,hw⟩
 | succ d ih=>
  intro n j q ps idx last h hn hq hb hw hla;obtain⟨n,rfl⟩:∃m,n=m+1:=⟨n-1,by omega⟩
  have hj:j<l.length:=by omega
  have ho:=hs l[j] (List.getElem_mem hj);have hc:=hq.cnt;have hbody:∃q' ps' idx' last',BT F l ((idx.length+q.fDead.length:Nat):Int) last (j:Int) q.fPolicy.fVisible q.fPolicy.fReceives q.fDead q.fNow q.fArrived q.fWaiting ps=some (.next (((idx'.length+q'.fDead.length:Nat):Int),last',((j+1:Nat):Int),q'.fPolicy.fVisible,q'.fPolicy.fReceives,q'.fDead,q'.fNow,q'.fArrived,q'.fWaiting,ps'))∧QI q' ps' idx'∧QB (256*(j+1)) q' ps'∧q'.fNow≤last'∧0≤last'∧last'≤1073741824:=by
   unfold BT;rw[AS (T4 (by omega)),C3 (by omega) (by omega),Gl hj];generalize l[j]=o at ho ⊢;have hlast:∀x y:Int,On q.fNow x o.fNow→On x y o.fNow→y≤(if last<o.fNow∧o.fNow≤1073741824 then o.fNow else last)∧0≤(if last<o.fNow∧o.fNow≤1073741824 then o.fNow else last)∧(if last<o.fNow∧o.fNow≤1073741824 then o.fNow else last)≤1073741824:=λx y h1 h2=>by
    unfold On at h1 h2
    split<;>omega
   by_cases k1:o.fKind=1
   ·rw[AS (T4 k1)];obtain⟨out,q1,ps1,idx1,r1,r2,r3,r4,r5,r6⟩:=Lj (F:=F) (by omega) hq hb o.fNow o.fN;have r1':D2 F ⟨⟨q.fPolicy.fVisible,q.fPolicy.fReceives⟩,q.fWaiting,q.fDead,q.fNow,q.fArrived⟩ ps o.fNow o.fN=some (out,q1,ps1):=r1;rw[r1',Bd rfl];obtain⟨k,f,q2,ps2,idx2,e1,e2,e3,e4,e5,e6⟩:=Nn hF r2 r3 (by omega) ho.1 ho.2;have e1':Ek F q1 ps1 ⟨o.fKind,o.fNow,o.fN,o.fEvent,o.fReceipt⟩=some (k,f,q2,ps2):=e1;simp only;rw[e1',Bd rfl];simp only;rw[LT ⟨by omega,by omega⟩ ⟨by omega,by omega⟩];have hla2:=hlast q1.fNow q2.fNow r6 e5;refine⟨q2,ps2,idx2,_,?_,e2,by rw[Nat.mul_add];exact e3,hla2.1,hla2.2.1,hla2.2.2⟩;rw[e6,r5];rfl
   ·rw[AQ (T7 k1)];obtain⟨k,f,q2,ps2,idx2,e1,e2,e3,e4,e5,e6⟩:=Nn hF hq hb (by omega) ho.1 ho.2;have e1':Ek F ⟨⟨q.fPolicy.fVisible,q.fPolicy.fReceives⟩,q.fWaiting,q.fDead,q.fNow,q.fArrived⟩ ps ⟨o.fKind,o.fNow,o.fN,o.fEvent,o.fReceipt⟩=some (k,f,q2,ps2):=e1;rw[e1',Bd rfl];simp only;rw[LT ⟨by omega,by omega⟩ ⟨by omega,by omega⟩];have hla2:=hlast q.fNow q2.fNow (.inl rfl) e5;refine⟨q2,ps2,idx2,_,?_,e2,by rw[Nat.mul_add];exact e3,hla2.1,hla2.2.1,hla2.2.2⟩;rw[e6];rfl
  obtain⟨q',ps',idx',last',h1,h2,h3,h4,h5⟩:=hbody;obtain⟨q2,ps2,idx2,last2,h6,h7,h8⟩:=ih n (j+1) q' ps' idx' last' (by omega) (by omega) h2 h3 h4 h5;refine⟨q2,ps2,idx2,last2,?_,h7,h8⟩;rw[Cn];simp only[h1];exact h6
theorem HA:Br 6000=some true:=by decide +kernel
theorem QP {q:Ah}{ps:List Ab}{idx:List Int}(h:QI q ps idx){last now:Int}(hw:q.fNow≤last):Db 6000 now ((idx.length+q.fDead.length:Nat):Int) last q.fPolicy.fVisible q.fPolicy.fReceives q.fDead q.fNow q.fArrived q.fWaiting ps=some true:=by
 unfold Db;have hc:=h.cnt;have hn0:=h.now;have l1:(idx.filter (DT ps now)).length≤idx.length:=List.length_filter_le _ _;have l2:(idx.filter (C7 q ps now)).length≤(idx.filter (DT ps now)).length:=by
  have:idx.filter (C7 q ps now)=(idx.filter (DT ps now)).filter (C7 q ps now):=by
   rw[List.filter_filter];exact List.filter_congr λi _=>by unfold C7 DT;cases decide ((Ac ps i).fAt≤now)<;>simp
  rw[this];exact List.length_filter_le _ _
 have hcnt:E5 ⟨⟨q.fPolicy.fVisible,q.fPolicy.fReceives⟩,q.fWaiting,q.fDead,q.fNow,q.fArrived⟩ ps now=_:=Mt h now;rw[hcnt,Bd rfl,HA]
 by_cases h1:now<0∨1073741824<now
 ·rw[TE (by omega)];rw[AS (by simp only[TS,T1];exact h1)];rfl
 ·rw[AQ (by simp only[Ua,T0];omega)]
  by_cases h2:last≤now
  ·rw[AS (T4 h2),TP ⟨by omega,by omega⟩];simp only;rw[AY (by omega) (by omega),AY (by omega) (by omega)];have g1:(((idx.filter (DT ps now)).length:Int)-((idx.filter (C7 q ps now)).length:Int)+((idx.length:Int)-((idx.filter (DT ps now)).length:Int))+((q.fDead.length:Int)+((idx.filter (C7 q ps now)).length:Int)))=((idx.length+q.fDead.length:Nat):Int):=by omega
   have g2:0≤((idx.filter (DT ps now)).length:Int)-((idx.filter (C7 q ps now)).length:Int):=by omega
   have g3:0≤(idx.length:Int)-((idx.filter (DT ps now)).length:Int):=by omega
   have g4:0≤(q.fDead.length:Int)+((idx.filter (C7 q ps now)).length:Int):=by omega
   rw[T4 g1,T4 g2,T4 g3,T4 g4];rfl
  ·rw[AQ (T7 h2)]
   by_cases h3:q.fNow≤now∧now≤1073741824
   ·rw[TP h3];simp only;rw[AY (by omega) (by omega),AY (by omega) (by omega)];have g1:(((idx.filter (DT ps now)).length:Int)-((idx.filter (C7 q ps now)).length:Int)+((idx.length:Int)-((idx.filter (DT ps now)).length:Int))+((q.fDead.length:Int)+((idx.filter (C7 q ps now)).length:Int)))=((idx.length+q.fDead.length:Nat):Int):=by omega
    rw[T4 g1];rfl
   ·rw[TE h3];simp only;rw[AY (by omega) (by omega),AY (by omega) (by omega)]
    cases decide ((0:Int)+0+0=((idx.length+q.fDead.length:Nat):Int))<;>rfl
theorem KA (p:AH)(l:List AU)(now:Int)(ho:∀o∈l,Sl o.fEvent):Gf 6000 p l now=some true:=by
 unfold Gf;rw[LE (by omega),Bd rfl,HA]
 cases hb:Ht l with
 | false=>rfl
 | true=>
  rw[AQ (p:=!true) rfl];have hsm:l.length≤300∧∀o∈l,Iw o=false:=by
   unfold Ht at hb;simp only[T6,TJ,T0,List.any_eq_false] at hb;exact⟨by omega,λo h=>by simpa using hb.2 o h⟩
  unfold Hm Lp
  by_cases hp:(decide (p.fVisible<1)||(decide (1073741824<p.fVisible)||(decide (p.fReceives<1)||decide (10<p.fReceives))))=true
  ·rw[hp];rfl
  ·rw[Bool.not_eq_true] at hp;rw[hp,AQ (p:=false) rfl];simp only[Ua,T0] at hp;rw[Option.isSome_some,AS rfl,Bd rfl];have h0:QI ⟨p,[],[],0,0⟩ [] []:=⟨(by show 1≤p.fVisible∧p.fVisible≤1073741824;omega),(by show 1≤p.fReceives∧p.fReceives≤10;omega),T2 _,by simp,List.Pairwise.nil,by simp,List.nodup_nil,(by show(0:Int)≤0∧(0:Int)≤1073741824;omega),by simp,by simp,by simp,by simp,by simp⟩
   obtain⟨q',ps',idx',last',h1,h2,h3⟩:=PB (F:=6000) (by decide) hsm.1 (λo h=>⟨hsm.2 o h,ho o h⟩) l.length 6000 0 ⟨p,[],[],0,0⟩ [] [] 0 (by omega) (by omega) h0 ⟨Uf _,by simp,by simp⟩ (Uf _) ⟨Uf _,by decide⟩;have h1':Cn (λσ=>BT 6000 l σ.1 σ.2.1 σ.2.2.1 σ.2.2.2.1 σ.2.2.2.2.1 σ.2.2.2.2.2.1 σ.2.2.2.2.2.2.1 σ.2.2.2.2.2.2.2.1 σ.2.2.2.2.2.2.2.2.1 σ.2.2.2.2.2.2.2.2.2) 6000 (0,0,0,p.fVisible,p.fReceives,([]:List Av),0,0,([]:List (A9×Int)),([]:List Ab))=_:=h1;simp only;rw[h1',Bd rfl,Hz];exact QP h2 h3
end Go.Proofs.YthbbedliepkakaaGreatDoor
namespace Go.Proofs.YthbbedliepkakaaGreatDoor.lawQueueCounts
open Go
set_option linter.unusedVariables false
theorem RD {o:AU}(h:NN o=true):Sl o.fEvent:=by
 unfold NN Q7 at h;simp only[T6] at h;intro c hc;have h1:=List.all_eq_true.1 h.1.2.2.1 c hc;unfold Ph at h1;simp only[T6] at h1;exact⟨h1.1.1.2,(Gy h1.2).2⟩
theorem Tq:Tx:=λp l now _ h _=>⟨6000,KA p l now λo ho=>RD (List.all_eq_true.1 (Bool.and_eq_true_iff.1 h).1 o ho)⟩
end Go.Proofs.YthbbedliepkakaaGreatDoor.lawQueueCounts
