/-
  Texts of the proof, put together: WUg, OkQueueReceives, LvA, LvB, LvC, LvD, LvE, LvF, LvG, LvH, LvI, LvJ, LvK, LvL, LvM, LvN, LvO, LvP, LuA, PN, PO, LuB, LuC, LuD, LuE, LuF, LuG, LuH, LuI, LuJ, LuL, LuM, LuN, LuO, LuP, LuQ, LuR, LuK, LuS, LwQReceives.
-/
import Derived.Test.YthbbedliepkakaaGreatDoorQR3
import GoSem.ClaimData
namespace Go.Proofs.YthbbedliepkakaaGreatDoor.Q
open Go Go.RowKit
set_option linter.unusedVariables false
set_option linter.unusedSimpArgs false
set_option maxRecDepth 100000
set_option maxHeartbeats 4000000
theorem Lu (F:Nat)(p:A8)(l:(List AI))(r:(Ah×(List Ab)))(h:CG F p l=some r):Fn Tryz.prog GE 14 [Bu (AB p),Bw 11 (List.map A2 l)] [] (λR H=>∃u0:Nat,∃u0_2:Nat,∃u0_3:Value,∃u0_p2:Value,R=rv (.pointer (some ⟨u0,0,none⟩))∧H=[.blk u0 [rI .i64 r.1.fPolicy.fVisible,rI .i64 r.1.fPolicy.fReceives,rv (.map (some u0_2)),rv u0_3,rI .i64 r.1.fNow,rI .i64 r.1.fArrived] 61,.map u0_2 (A6 (mP u0_2) r.1.fWaiting),.row u0_3 33 7 (List.map Af r.1.fDead),.pool u0_2 u0_p2 71 (List.map Ad r.2)]):=by
 refine enter (n:=50) Tryz.func14 Aa Tryz.ntmps14 Aa (λw Z=>?_);refine Bh (l':=[(0,Bu (AB p)),(1,Bw 11 (List.map A2 l))]) (H':=[]) Aa Aa ?_;unfold CG at h;refine As (BD Aa Aa (λb1=>?_));refine wv (r:=rv (.pointer none)) (Aj Aa) (BG (wv (Bt (i:=0) Pv MM Aa Aa Aa Aa) (AL ((Gm p).isSome) (λc2=>?_) (λc2=>?_))))
 ·have h3:=AZ c2 h;obtain⟨r4,e6,h5⟩:=AV h3;refine DJ (Hr:=[.blk b1 (AB p) 23]) On (La p r4 e6) Aa (U3 _) Aa ?_;rintro _ _ ⟨b7,b8,v9,h8,rfl,rfl⟩;refine wm Aa (wv (AE Aa Aa) (wv (AE Aa Aa) (wa Aa (wa Aa (A3 (Ax (As (wm Aa (wv (E4 Aa Aa) (A3 (Ci Aa (JR (by decide)) (AF (Bd (Ax (As (wv (r:=rI .i64 0) (Aj Aa) (A3 (AS (Ek (H2:=[.blk b7 [rI .i64 r4.1.1.fPolicy.fVisible,rI .i64 r4.1.1.fPolicy.fReceives,rv (.map (some b8)),rv v9,rI .i64 r4.1.1.fNow,rI .i64 r4.1.1.fArrived] 61,.map b8 (A6 (mP b8) r4.1.1.fWaiting),.pool b8 h8 71 (List.map Ad r4.1.2),.row v9 33 7 (List.map Af r4.1.1.fDead),.blk b1 (AB p) 23]) ((Ae (i:=0) Aa).trans (U0 _ ((Ae (i:=0) Aa).trans (U0 _ ((Ae (i:=1) Aa).trans (U0 _ (U3 _))))))) ?_)))))))))))))))))));obtain⟨hC,hD,hE⟩:=AV h5;refine B9 (S:=Nat×(Int×Int×Int×(List Aw)×Int×Int×(List (AA×Int))×(List Ab))×(Value×Value)) (V:=(Int×Int×(List Aw)×Int×Int×(List (AA×Int))×(List Ab))×(Value×Value)) 0 (λσ=>BP (λσ=>B8 F l σ.1 σ.2.1 σ.2.2.1 σ.2.2.2.1 σ.2.2.2.2.1 σ.2.2.2.2.2.1 σ.2.2.2.2.2.2.1 σ.2.2.2.2.2.2.2) σ.1 σ.2.1=some hC) (λσ=>[(1,Bw 11 (List.map A2 l)),(5,rv (.pointer (some ⟨b7,0,none⟩))),(7,rI .i64 σ.2.1.1)]) (λσ=>[.blk b7 [rI .i64 σ.2.1.2.1,rI .i64 σ.2.1.2.2.1,rv (.map (some b8)),rv σ.2.2.1,rI .i64 σ.2.1.2.2.2.2.1,rI .i64 σ.2.1.2.2.2.2.2.1] 61,.map b8 (A6 (mP b8) σ.2.1.2.2.2.2.2.2.1),.pool b8 σ.2.2.2 71 (List.map Ad σ.2.1.2.2.2.2.2.2.2),.row σ.2.2.1 33 7 (List.map Af σ.2.1.2.2.2.1)]) (λσ=>σ.1) (F,(0,r4.1.1.fPolicy.fVisible,r4.1.1.fPolicy.fReceives,r4.1.1.fDead,r4.1.1.fNow,r4.1.1.fArrived,r4.1.1.fWaiting,r4.1.2),(v9,h8)) hD (AR.c Aa (AR.c Aa (AR.c Aa AR.nil))) (sC (sC (sC (sC (sS sN))))) (λσ=>DK σ.1.1 σ.1.2.1 σ.1.2.2.1 σ.1.2.2.2.1 σ.1.2.2.2.2.1 σ.1.2.2.2.2.2.1 σ.1.2.2.2.2.2.2=some r) (λσ=>[(5,rv (.pointer (some ⟨b7,0,none⟩)))]) (λσ=>[.blk b7 [rI .i64 σ.1.1,rI .i64 σ.1.2.1,rv (.map (some b8)),rv σ.2.1,rI .i64 σ.1.2.2.2.1,rI .i64 σ.1.2.2.2.2.1] 61,.map b8 (A6 (mP b8) σ.1.2.2.2.2.2.1),.pool b8 σ.2.2 71 (List.map Ad σ.1.2.2.2.2.2.2),.row σ.2.1 33 7 (List.map Af σ.1.2.2.1)]) ?_ ?_
  ·rintro⟨gg,⟨ha,hf,hg,hh,hi,hj,hk,hl⟩,⟨v77,hm⟩⟩ hG;refine Bh (l':=[(1,Bw 11 (List.map A2 l)),(5,rv (.pointer (some ⟨b7,0,none⟩))),(7,rI .i64 ha)]) (H':=[.blk b7 [rI .i64 hf,rI .i64 hg,rv (.map (some b8)),rv v77,rI .i64 hi,rI .i64 hj] 61,.map b8 (A6 (mP b8) hk),.pool b8 hm 71 (List.map Ad hl),.row v77 33 7 (List.map Af hh)]) Aa Aa ?_;obtain⟨h9,rfl,hH,hn,hr⟩:=Ey hG;replace hn:B8 F l ha hf hg hh hi hj hk hl=some hH:=hn;unfold B8 at hn;refine Ax (AM [(1,Bw 11 (List.map A2 l)),(5,rv (.pointer (some ⟨b7,0,none⟩))),(7,rI .i64 ha),(22,rB (decide (ha<(l.length:Int))))] [.blk b7 [rI .i64 hf,rI .i64 hg,rv (.map (some b8)),rv v77,rI .i64 hi,rI .i64 hj] 61,.map b8 (A6 (mP b8) hk),.pool b8 hm 71 (List.map Ad hl),.row v77 33 7 (List.map Af hh)] ?_ ?_)
   ·refine At (wm Aa (wm Aa (wv (BC (ys:=l) (enc:=A2) GU Aa) (wv (DE Aa Aa) (wm Aa (AL (decide (ha<(l.length:Int))) (λhe=>?_) (λhe=>?_)))))))
    ·refine wo he (wm Aa (wo he (wv (r:=rB true) (I7 ⟨_,Oh⟩ Aa) (GI Aa he Aa (Ar ?_)))));exact Cw he
    ·refine wf he (wf he (wv (r:=rB false) (AG (b:=decide (ha<(l.length:Int))) Aa he Aa) (Ar ?_)));exact Cw he
   refine AD (b:=decide (ha<(l.length:Int))) Aa (λhs=>?_) (λhs=>?_)
   ·have hI:=AZ hs hn;refine AF (Bd (Ax (AS (Ax (As (wm Aa (wm Aa ?_)))))));obtain⟨ho,hA⟩:=AH hI;refine wv (BF (enc:=A2) (ys:=l) GU GV Aa Aa ho) (wv (AQ Ee Aa Ca Aa Aa) (wv (Bz Cl Aa Aa) (wv (B6 Aa Aa) (A3 (AD (b:=decide (((Ac l ha).fKind)=1)) Aa (λht=>?_) (λht=>?_))))))
    ·have hJ:=AZ ht hA;refine Jq (H1:=[.blk b7 [rI .i64 hf,rI .i64 hg,rv (.map (some b8)),rv v77,rI .i64 hi,rI .i64 hj] 61,.map b8 (A6 (mP b8) hk),.pool b8 hm 71 (List.map Ad hl),.row v77 33 7 (List.map Af hh)]) 11 [1,5,7] [⟨[],rv (.pointer (some ⟨b7,0,none⟩)),0⟩,⟨[],Bw 11 (List.map A2 l),0⟩,⟨[],rI .i64 ha,0⟩,⟨[1,2],GY [rI .i64 ((Ac l ha).fKind),rI .i64 ((Ac l ha).fNow),rI .i64 ((Ac l ha).fN),rS (((Ac l ha).fEvent).fID),rS (((Ac l ha).fEvent).fTenant),rS (((Ac l ha).fEvent).fSource),rS (((Ac l ha).fEvent).fKey),rI .i64 (((Ac l ha).fEvent).fAt),rS (((Ac l ha).fEvent).fCause),Bw 4 (List.map Al (((Ac l ha).fEvent).fBody)),rS ((Ac l ha).fReceipt)],0⟩,⟨[3],GY [rI .i64 ((Ac l ha).fNow),rI .i64 ((Ac l ha).fN),rS (((Ac l ha).fEvent).fID),rS (((Ac l ha).fEvent).fTenant),rS (((Ac l ha).fEvent).fSource),rS (((Ac l ha).fEvent).fKey),rI .i64 (((Ac l ha).fEvent).fAt),rS (((Ac l ha).fEvent).fCause),Bw 4 (List.map Al (((Ac l ha).fEvent).fBody)),rS ((Ac l ha).fReceipt)],0⟩,⟨[4],rI .i64 ((Ac l ha).fNow),0⟩,⟨[],Bw 11 (List.map A2 l),0⟩,⟨[],rI .i64 ha,0⟩,⟨[6,7],GY [rI .i64 ((Ac l ha).fKind),rI .i64 ((Ac l ha).fNow),rI .i64 ((Ac l ha).fN),rS (((Ac l ha).fEvent).fID),rS (((Ac l ha).fEvent).fTenant),rS (((Ac l ha).fEvent).fSource),rS (((Ac l ha).fEvent).fKey),rI .i64 (((Ac l ha).fEvent).fAt),rS (((Ac l ha).fEvent).fCause),Bw 4 (List.map Al (((Ac l ha).fEvent).fBody)),rS ((Ac l ha).fReceipt)],0⟩,⟨[8],GY [rI .i64 ((Ac l ha).fN),rS (((Ac l ha).fEvent).fID),rS (((Ac l ha).fEvent).fTenant),rS (((Ac l ha).fEvent).fSource),rS (((Ac l ha).fEvent).fKey),rI .i64 (((Ac l ha).fEvent).fAt),rS (((Ac l ha).fEvent).fCause),Bw 4 (List.map Al (((Ac l ha).fEvent).fBody)),rS ((Ac l ha).fReceipt)],0⟩,⟨[9],rI .i64 ((Ac l ha).fN),0⟩] (rle [(12,_)]) [31,32,33,34,35,36,37,38,39,40,41,1,5,7] ?_ ?_
     ·refine oq (Aq Aa) (oq (Aq Aa) (oq (Aq Aa) (oq (BF (enc:=A2) (ys:=l) GU GV Aa Aa ho) (oq (AQ Ee Aa Ca Aa Aa) (oq (Bz Cl Aa Aa) (oq (Aq Aa) (oq (Aq Aa) (oq (BF (enc:=A2) (ys:=l) GU GV Aa Aa ho) (oq (AQ Ee Aa Ca Aa Aa) (oq (Bz Cl Aa Aa) ?_))))))))));exact Cu
     obtain⟨hu,hK,hL⟩:=AV hJ;refine DJ (Hr:=[]) Om (DC F b7 b8 v77 hm (Ah.mk (A8.mk hf hg) hk hh hi hj) hl ((Ac l ha).fNow) ((Ac l ha).fN) hu hK) Aa ((Ae (i:=0) Aa).trans (U0 _ ((Ae (i:=0) Aa).trans (U0 _ ((Ae (i:=1) Aa).trans (U0 _ (U3 _))))))) Aa ?_;rintro _ _ ⟨hN,hO,rfl,rfl⟩;refine A3 (At (wm Aa (wm Aa (wm Aa (wv (BF (enc:=A2) (ys:=l) GU GV Aa Aa ho) (wv (Er Ra GV Aa Aa Aa) ?_))))));obtain⟨hb,hP,hQ⟩:=AV hL;refine DJ (Hr:=[]) Tryz.call12 (GQ F b7 b8 hN hO hu.2.1 hu.2.2 (AI.mk ((Ac l ha).fKind) ((Ac l ha).fNow) ((Ac l ha).fN) ((Ac l ha).fEvent) ((Ac l ha).fReceipt)) hb hP) Aa (U3 _) Aa ?_;rintro _ _ ⟨hw,v145,rfl,rfl⟩;refine Ar (AX (Bd (At (wm Aa ?_))));obtain⟨hR,hS⟩:=AH hQ;refine wv (BN Aa Aa hR) (wa Aa (Ar (Bq (H2:=[.blk b7 [rI .i64 hb.2.2.1.fPolicy.fVisible,rI .i64 hb.2.2.1.fPolicy.fReceives,rv (.map (some b8)),rv hw,rI .i64 hb.2.2.1.fNow,rI .i64 hb.2.2.1.fArrived] 61,.map b8 (A6 (mP b8) hb.2.2.1.fWaiting),.pool b8 v145 71 (List.map Ad hb.2.2.2),.row hw 33 7 (List.map Af hb.2.2.1.fDead)]) ((Ae (i:=0) Aa).trans (U0 _ ((Ae (i:=0) Aa).trans (U0 _ ((Ae (i:=1) Aa).trans (U0 _ (U3 _))))))) ?_)));have hT:=BK hS hr;exact Az (AT (h9,(ha+1,hb.2.2.1.fPolicy.fVisible,hb.2.2.1.fPolicy.fReceives,hb.2.2.1.fDead,hb.2.2.1.fNow,hb.2.2.1.fArrived,hb.2.2.1.fWaiting,hb.2.2.2),(hw,v145)) ⟨hT,UQ _⟩ (AR.c Aa (AR.c Aa (AR.c Aa AR.nil))) (sC (sC (sC (sC sN)))))
    ·have hU:=Ba ht hA;refine AF (Bd (At (wm Aa (wm Aa (wm Aa (wv (BF (enc:=A2) (ys:=l) GU GV Aa Aa ho) (wv (Er Ra GV Aa Aa Aa) ?_)))))));obtain⟨hd,hV,hW⟩:=AV hU;refine DJ (Hr:=[]) Tryz.call12 (GQ F b7 b8 v77 hm (Ah.mk (A8.mk hf hg) hk hh hi hj) hl (AI.mk ((Ac l ha).fKind) ((Ac l ha).fNow) ((Ac l ha).fN) ((Ac l ha).fEvent) ((Ac l ha).fReceipt)) hd hV) Aa ((Ae (i:=0) Aa).trans (U0 _ ((Ae (i:=0) Aa).trans (U0 _ ((Ae (i:=1) Aa).trans (U0 _ (U3 _))))))) Aa ?_;rintro _ _ ⟨hx,hB,rfl,rfl⟩;refine Ar (AX (Bd (At (wm Aa ?_))));obtain⟨hX,hY⟩:=AH hW;refine wv (BN Aa Aa hX) (wa Aa (Ar (Bq (H2:=[.blk b7 [rI .i64 hd.2.2.1.fPolicy.fVisible,rI .i64 hd.2.2.1.fPolicy.fReceives,rv (.map (some b8)),rv hx,rI .i64 hd.2.2.1.fNow,rI .i64 hd.2.2.1.fArrived] 61,.map b8 (A6 (mP b8) hd.2.2.1.fWaiting),.pool b8 hB 71 (List.map Ad hd.2.2.2),.row hx 33 7 (List.map Af hd.2.2.1.fDead)]) ((Ae (i:=0) Aa).trans (U0 _ ((Ae (i:=0) Aa).trans (U0 _ ((Ae (i:=1) Aa).trans (U0 _ (U3 _))))))) ?_)));have hZ:=BK hY hr;exact Az (AT (h9,(ha+1,hd.2.2.1.fPolicy.fVisible,hd.2.2.1.fPolicy.fReceives,hd.2.2.1.fDead,hd.2.2.1.fNow,hd.2.2.1.fArrived,hd.2.2.1.fWaiting,hd.2.2.2),(hx,hB)) ⟨hZ,UQ _⟩ (AR.c Aa (AR.c Aa (AR.c Aa AR.nil))) (sC (sC (sC (sC sN)))))
   ·have ga:=Ba hs hn;refine B3 (A9 ?_);have gb:=CR ga hr hE;exact A9 (Bo (AT ((hf,hg,hh,hi,hj,hk,hl),(v77,hm)) gb (AR.c Aa AR.nil) (sC (sC (sC (sC sN))))))
  ·rintro⟨⟨hy,hz,h0,h1,h2,h4,h6⟩,⟨hp,h7⟩⟩ hq;refine Dv (l':=[(5,rv (.pointer (some ⟨b7,0,none⟩)))]) (H':=[.blk b7 [rI .i64 hy,rI .i64 hz,rv (.map (some b8)),rv hp,rI .i64 h1,rI .i64 h2] 61,.map b8 (A6 (mP b8) h4),.pool b8 h7 71 (List.map Ad h6),.row hp 33 7 (List.map Af h0)]) Aa Aa ?_;replace hq:DK hy hz h0 h1 h2 h4 h6=some r:=hq;unfold DK at hq;refine Bk (Bd (As (wm Aa (wa Aa (A3 (A5 (Bq (H2:=[.blk b7 [rI .i64 hy,rI .i64 hz,rv (.map (some b8)),rv hp,rI .i64 h1,rI .i64 h2] 61,.map b8 (A6 (mP b8) h4),.row hp 33 7 (List.map Af h0),.pool b8 h7 71 (List.map Ad h6)]) ((Ae (i:=0) Aa).trans (U0 _ ((Ae (i:=0) Aa).trans (U0 _ ((Ae (i:=1) Aa).trans (U0 _ (U3 _))))))) ?_)))))));obtain rfl:=AC hq;exact A7 (BW Tryz.results14 (AY Aa)) (sC (sC (sC (sC sN)))) ⟨b7,b8,hp,h7,Aa,Aa⟩
 ·have gc:=Ba c2 h;obtain⟨gd,ge,gf⟩:=AV gc;exact IT On (Lb p gd ge) rfl (wm rfl (wv (AE rfl rfl) (wv (AE rfl rfl) (wa rfl (wa rfl (A3 (Ax (As (wm rfl (wv (E4 rfl rfl) (A3 (BY rfl (Mp (by decide)) (As (wv (r:=rv (.pointer none)) (Aj rfl) (A3 (A5 (Am (nomatch gf))))))))))))))))))
theorem Lv (F:Nat)(p:A8)(l:(List AI))(r:Unit)(h:E1 F p l=some r):Fn Tryz.prog GE 14 [Bu (AB p),Bw 11 (List.map A2 l)] [] (λR H=>R=rv (.pointer none)∧H=[]):=by
 refine enter (n:=50) Tryz.func14 Aa Tryz.ntmps14 Aa (λw Z=>?_);refine Bh (l':=[(0,Bu (AB p)),(1,Bw 11 (List.map A2 l))]) (H':=[]) Aa Aa ?_;unfold E1 at h;refine As (BD Aa Aa (λb1=>?_));refine wv (r:=rv (.pointer none)) (Aj Aa) (BG (wv (Bt (i:=0) Pv MM Aa Aa Aa Aa) (AL ((Gm p).isSome) (λc2=>?_) (λc2=>?_))))
 ·have h3:=AZ c2 h;obtain⟨r4,e6,h5⟩:=AV h3;refine DJ (Hr:=[.blk b1 (AB p) 23]) On (La p r4 e6) Aa (U3 _) Aa ?_;rintro _ _ ⟨b7,b8,v9,hx,rfl,rfl⟩;refine wm Aa (wv (AE Aa Aa) (wv (AE Aa Aa) (wa Aa (wa Aa (A3 (Ax (As (wm Aa (wv (E4 Aa Aa) (A3 (Ci Aa (JR (by decide)) (AF (Bd (Ax (As (wv (r:=rI .i64 0) (Aj Aa) (A3 (AS (Ek (H2:=[.blk b7 [rI .i64 r4.1.1.fPolicy.fVisible,rI .i64 r4.1.1.fPolicy.fReceives,rv (.map (some b8)),rv v9,rI .i64 r4.1.1.fNow,rI .i64 r4.1.1.fArrived] 61,.map b8 (A6 (mP b8) r4.1.1.fWaiting),.pool b8 hx 71 (List.map Ad r4.1.2),.row v9 33 7 (List.map Af r4.1.1.fDead),.blk b1 (AB p) 23]) ((Ae (i:=0) Aa).trans (U0 _ ((Ae (i:=0) Aa).trans (U0 _ ((Ae (i:=1) Aa).trans (U0 _ (U3 _))))))) ?_)))))))))))))))))));obtain⟨hB,hC,hD⟩:=AV h5;refine B9 (S:=Nat×(Int×Int×Int×(List Aw)×Int×Int×(List (AA×Int))×(List Ab))×(Value×Value)) (V:=(Int×Int×(List Aw)×Int×Int×(List (AA×Int))×(List Ab))×(Value×Value)) 0 (λσ=>BP (λσ=>DM F l σ.1 σ.2.1 σ.2.2.1 σ.2.2.2.1 σ.2.2.2.2.1 σ.2.2.2.2.2.1 σ.2.2.2.2.2.2.1 σ.2.2.2.2.2.2.2) σ.1 σ.2.1=some hB) (λσ=>[(1,Bw 11 (List.map A2 l)),(5,rv (.pointer (some ⟨b7,0,none⟩))),(7,rI .i64 σ.2.1.1)]) (λσ=>[.blk b7 [rI .i64 σ.2.1.2.1,rI .i64 σ.2.1.2.2.1,rv (.map (some b8)),rv σ.2.2.1,rI .i64 σ.2.1.2.2.2.2.1,rI .i64 σ.2.1.2.2.2.2.2.1] 61,.map b8 (A6 (mP b8) σ.2.1.2.2.2.2.2.2.1),.pool b8 σ.2.2.2 71 (List.map Ad σ.2.1.2.2.2.2.2.2.2),.row σ.2.2.1 33 7 (List.map Af σ.2.1.2.2.2.1)]) (λσ=>σ.1) (F,(0,r4.1.1.fPolicy.fVisible,r4.1.1.fPolicy.fReceives,r4.1.1.fDead,r4.1.1.fNow,r4.1.1.fArrived,r4.1.1.fWaiting,r4.1.2),(v9,hx)) hC (AR.c Aa (AR.c Aa (AR.c Aa AR.nil))) (sC (sC (sC (sC (sS sN))))) (λσ=>DL σ.1.1 σ.1.2.1 σ.1.2.2.1 σ.1.2.2.2.1 σ.1.2.2.2.2.1 σ.1.2.2.2.2.2.1 σ.1.2.2.2.2.2.2=some r) (λσ=>[(5,rv (.pointer (some ⟨b7,0,none⟩)))]) (λσ=>[.blk b7 [rI .i64 σ.1.1,rI .i64 σ.1.2.1,rv (.map (some b8)),rv σ.2.1,rI .i64 σ.1.2.2.2.1,rI .i64 σ.1.2.2.2.2.1] 61,.map b8 (A6 (mP b8) σ.1.2.2.2.2.2.1),.pool b8 σ.2.2 71 (List.map Ad σ.1.2.2.2.2.2.2),.row σ.2.1 33 7 (List.map Af σ.1.2.2.1)]) ?_ ?_
  ·rintro⟨gg,⟨ha,hf,hg,hh,hi,hj,hk,hl⟩,⟨v77,hm⟩⟩ hE;refine Bh (l':=[(1,Bw 11 (List.map A2 l)),(5,rv (.pointer (some ⟨b7,0,none⟩))),(7,rI .i64 ha)]) (H':=[.blk b7 [rI .i64 hf,rI .i64 hg,rv (.map (some b8)),rv v77,rI .i64 hi,rI .i64 hj] 61,.map b8 (A6 (mP b8) hk),.pool b8 hm 71 (List.map Ad hl),.row v77 33 7 (List.map Af hh)]) Aa Aa ?_;obtain⟨hy,rfl,hG,hn,hq⟩:=Ey hE;replace hn:DM F l ha hf hg hh hi hj hk hl=some hG:=hn;unfold DM at hn;refine Ax (AM [(1,Bw 11 (List.map A2 l)),(5,rv (.pointer (some ⟨b7,0,none⟩))),(7,rI .i64 ha),(22,rB (decide (ha<(l.length:Int))))] [.blk b7 [rI .i64 hf,rI .i64 hg,rv (.map (some b8)),rv v77,rI .i64 hi,rI .i64 hj] 61,.map b8 (A6 (mP b8) hk),.pool b8 hm 71 (List.map Ad hl),.row v77 33 7 (List.map Af hh)] ?_ ?_)
   ·refine At (wm Aa (wm Aa (wv (BC (ys:=l) (enc:=A2) GU Aa) (wv (DE Aa Aa) (wm Aa (AL (decide (ha<(l.length:Int))) (λhe=>?_) (λhe=>?_)))))))
    ·refine wo he (wm Aa (wo he (wv (r:=rB true) (I7 ⟨_,Oh⟩ Aa) (GI Aa he Aa (Ar ?_)))));exact Cw he
    ·refine wf he (wf he (wv (r:=rB false) (AG (b:=decide (ha<(l.length:Int))) Aa he Aa) (Ar ?_)));exact Cw he
   refine AD (b:=decide (ha<(l.length:Int))) Aa (λhr=>?_) (λhr=>?_)
   ·have hH:=AZ hr hn;refine AF (Bd (Ax (AS (Ax (As (wm Aa (wm Aa ?_)))))));obtain⟨ho,hz⟩:=AH hH;refine wv (BF (enc:=A2) (ys:=l) GU GV Aa Aa ho) (wv (AQ Ee Aa Ca Aa Aa) (wv (Bz Cl Aa Aa) (wv (B6 Aa Aa) (A3 (AD (b:=decide (((Ac l ha).fKind)=1)) Aa (λhs=>?_) (λhs=>?_))))))
    ·have hI:=AZ hs hz;refine Jq (H1:=[.blk b7 [rI .i64 hf,rI .i64 hg,rv (.map (some b8)),rv v77,rI .i64 hi,rI .i64 hj] 61,.map b8 (A6 (mP b8) hk),.pool b8 hm 71 (List.map Ad hl),.row v77 33 7 (List.map Af hh)]) 11 [1,5,7] [⟨[],rv (.pointer (some ⟨b7,0,none⟩)),0⟩,⟨[],Bw 11 (List.map A2 l),0⟩,⟨[],rI .i64 ha,0⟩,⟨[1,2],GY [rI .i64 ((Ac l ha).fKind),rI .i64 ((Ac l ha).fNow),rI .i64 ((Ac l ha).fN),rS (((Ac l ha).fEvent).fID),rS (((Ac l ha).fEvent).fTenant),rS (((Ac l ha).fEvent).fSource),rS (((Ac l ha).fEvent).fKey),rI .i64 (((Ac l ha).fEvent).fAt),rS (((Ac l ha).fEvent).fCause),Bw 4 (List.map Al (((Ac l ha).fEvent).fBody)),rS ((Ac l ha).fReceipt)],0⟩,⟨[3],GY [rI .i64 ((Ac l ha).fNow),rI .i64 ((Ac l ha).fN),rS (((Ac l ha).fEvent).fID),rS (((Ac l ha).fEvent).fTenant),rS (((Ac l ha).fEvent).fSource),rS (((Ac l ha).fEvent).fKey),rI .i64 (((Ac l ha).fEvent).fAt),rS (((Ac l ha).fEvent).fCause),Bw 4 (List.map Al (((Ac l ha).fEvent).fBody)),rS ((Ac l ha).fReceipt)],0⟩,⟨[4],rI .i64 ((Ac l ha).fNow),0⟩,⟨[],Bw 11 (List.map A2 l),0⟩,⟨[],rI .i64 ha,0⟩,⟨[6,7],GY [rI .i64 ((Ac l ha).fKind),rI .i64 ((Ac l ha).fNow),rI .i64 ((Ac l ha).fN),rS (((Ac l ha).fEvent).fID),rS (((Ac l ha).fEvent).fTenant),rS (((Ac l ha).fEvent).fSource),rS (((Ac l ha).fEvent).fKey),rI .i64 (((Ac l ha).fEvent).fAt),rS (((Ac l ha).fEvent).fCause),Bw 4 (List.map Al (((Ac l ha).fEvent).fBody)),rS ((Ac l ha).fReceipt)],0⟩,⟨[8],GY [rI .i64 ((Ac l ha).fN),rS (((Ac l ha).fEvent).fID),rS (((Ac l ha).fEvent).fTenant),rS (((Ac l ha).fEvent).fSource),rS (((Ac l ha).fEvent).fKey),rI .i64 (((Ac l ha).fEvent).fAt),rS (((Ac l ha).fEvent).fCause),Bw 4 (List.map Al (((Ac l ha).fEvent).fBody)),rS ((Ac l ha).fReceipt)],0⟩,⟨[9],rI .i64 ((Ac l ha).fN),0⟩] (rle [(12,_)]) [31,32,33,34,35,36,37,38,39,40,41,1,5,7] ?_ ?_
     ·refine oq (Aq Aa) (oq (Aq Aa) (oq (Aq Aa) (oq (BF (enc:=A2) (ys:=l) GU GV Aa Aa ho) (oq (AQ Ee Aa Ca Aa Aa) (oq (Bz Cl Aa Aa) (oq (Aq Aa) (oq (Aq Aa) (oq (BF (enc:=A2) (ys:=l) GU GV Aa Aa ho) (oq (AQ Ee Aa Ca Aa Aa) (oq (Bz Cl Aa Aa) ?_))))))))));exact Cu
     obtain⟨ht,hJ,hK⟩:=AV hI;refine DJ (Hr:=[]) Om (DC F b7 b8 v77 hm (Ah.mk (A8.mk hf hg) hk hh hi hj) hl ((Ac l ha).fNow) ((Ac l ha).fN) ht hJ) Aa ((Ae (i:=0) Aa).trans (U0 _ ((Ae (i:=0) Aa).trans (U0 _ ((Ae (i:=1) Aa).trans (U0 _ (U3 _))))))) Aa ?_;rintro _ _ ⟨hL,hN,rfl,rfl⟩;refine A3 (At (wm Aa (wm Aa (wm Aa (wv (BF (enc:=A2) (ys:=l) GU GV Aa Aa ho) (wv (Er Ra GV Aa Aa Aa) ?_))))));obtain⟨hb,hO,hP⟩:=AV hK;refine DJ (Hr:=[]) Tryz.call12 (GQ F b7 b8 hL hN ht.2.1 ht.2.2 (AI.mk ((Ac l ha).fKind) ((Ac l ha).fNow) ((Ac l ha).fN) ((Ac l ha).fEvent) ((Ac l ha).fReceipt)) hb hO) Aa (U3 _) Aa ?_;rintro _ _ ⟨hu,v145,rfl,rfl⟩;refine Ar (AX (Bd (At (wm Aa ?_))));obtain⟨hQ,hR⟩:=AH hP;refine wv (BN Aa Aa hQ) (wa Aa (Ar (Bq (H2:=[.blk b7 [rI .i64 hb.2.2.1.fPolicy.fVisible,rI .i64 hb.2.2.1.fPolicy.fReceives,rv (.map (some b8)),rv hu,rI .i64 hb.2.2.1.fNow,rI .i64 hb.2.2.1.fArrived] 61,.map b8 (A6 (mP b8) hb.2.2.1.fWaiting),.pool b8 v145 71 (List.map Ad hb.2.2.2),.row hu 33 7 (List.map Af hb.2.2.1.fDead)]) ((Ae (i:=0) Aa).trans (U0 _ ((Ae (i:=0) Aa).trans (U0 _ ((Ae (i:=1) Aa).trans (U0 _ (U3 _))))))) ?_)));have hS:=BK hR hq;exact Az (AT (hy,(ha+1,hb.2.2.1.fPolicy.fVisible,hb.2.2.1.fPolicy.fReceives,hb.2.2.1.fDead,hb.2.2.1.fNow,hb.2.2.1.fArrived,hb.2.2.1.fWaiting,hb.2.2.2),(hu,v145)) ⟨hS,UQ _⟩ (AR.c Aa (AR.c Aa (AR.c Aa AR.nil))) (sC (sC (sC (sC sN)))))
    ·have hT:=Ba hs hz;refine AF (Bd (At (wm Aa (wm Aa (wm Aa (wv (BF (enc:=A2) (ys:=l) GU GV Aa Aa ho) (wv (Er Ra GV Aa Aa Aa) ?_)))))));obtain⟨hd,hU,hV⟩:=AV hT;refine DJ (Hr:=[]) Tryz.call12 (GQ F b7 b8 v77 hm (Ah.mk (A8.mk hf hg) hk hh hi hj) hl (AI.mk ((Ac l ha).fKind) ((Ac l ha).fNow) ((Ac l ha).fN) ((Ac l ha).fEvent) ((Ac l ha).fReceipt)) hd hU) Aa ((Ae (i:=0) Aa).trans (U0 _ ((Ae (i:=0) Aa).trans (U0 _ ((Ae (i:=1) Aa).trans (U0 _ (U3 _))))))) Aa ?_;rintro _ _ ⟨hw,h0,rfl,rfl⟩;refine Ar (AX (Bd (At (wm Aa ?_))));obtain⟨hW,hX⟩:=AH hV;refine wv (BN Aa Aa hW) (wa Aa (Ar (Bq (H2:=[.blk b7 [rI .i64 hd.2.2.1.fPolicy.fVisible,rI .i64 hd.2.2.1.fPolicy.fReceives,rv (.map (some b8)),rv hw,rI .i64 hd.2.2.1.fNow,rI .i64 hd.2.2.1.fArrived] 61,.map b8 (A6 (mP b8) hd.2.2.1.fWaiting),.pool b8 h0 71 (List.map Ad hd.2.2.2),.row hw 33 7 (List.map Af hd.2.2.1.fDead)]) ((Ae (i:=0) Aa).trans (U0 _ ((Ae (i:=0) Aa).trans (U0 _ ((Ae (i:=1) Aa).trans (U0 _ (U3 _))))))) ?_)));have hY:=BK hX hq;exact Az (AT (hy,(ha+1,hd.2.2.1.fPolicy.fVisible,hd.2.2.1.fPolicy.fReceives,hd.2.2.1.fDead,hd.2.2.1.fNow,hd.2.2.1.fArrived,hd.2.2.1.fWaiting,hd.2.2.2),(hw,h0)) ⟨hY,UQ _⟩ (AR.c Aa (AR.c Aa (AR.c Aa AR.nil))) (sC (sC (sC (sC sN)))))
   ·have hZ:=Ba hr hn;refine B3 (A9 ?_);have ga:=CR hZ hq hD;exact A9 (Bo (AT ((hf,hg,hh,hi,hj,hk,hl),(v77,hm)) ga (AR.c Aa AR.nil) (sC (sC (sC (sC sN))))))
  ·rintro⟨⟨h1,h2,h4,h6,h7,h8,h9⟩,⟨hA,gb⟩⟩ hp;refine Dv (l':=[(5,rv (.pointer (some ⟨b7,0,none⟩)))]) (H':=[.blk b7 [rI .i64 h1,rI .i64 h2,rv (.map (some b8)),rv hA,rI .i64 h6,rI .i64 h7] 61,.map b8 (A6 (mP b8) h8),.pool b8 gb 71 (List.map Ad h9),.row hA 33 7 (List.map Af h4)]) Aa Aa ?_;replace hp:DL h1 h2 h4 h6 h7 h8 h9=some r:=hp;unfold DL at hp;exact Bk (Bd (As (wm rfl (wa rfl (A3 (A5 (nomatch hp)))))))
 ·have gc:=Ba c2 h;obtain⟨gd,ge,gf⟩:=AV gc;refine IT On (Lb p gd ge) Aa (wm Aa (wv (AE Aa Aa) (wv (AE Aa Aa) (wa Aa (wa Aa (A3 (Ax (As (wm Aa (wv (E4 Aa Aa) (A3 (BY Aa (Mp (by decide)) (As (wv (r:=rv (.pointer none)) (Aj Aa) (A3 (A5 (Am ?_)))))))))))))))));obtain rfl:=AC gf;exact A7 (BW Tryz.results14 (AY Aa)) (sS sN) ⟨Aa,Aa⟩
theorem Lt (F:Nat)(p:A8)(l:(List AI))(now:Int)(most:Int)(later:Int)(r:Bool)(h:E0 F p l now most later=some r):Fn Tryz.prog GE 4 [Bu (AB p),Bw 11 (List.map A2 l),rI .i64 now,rI .i64 most,rI .i64 later] [] (λR H=>R=rB r∧H=[]):=by
 refine enter (n:=195) Tryz.func4 Aa Tryz.ntmps4 Aa (λw Z=>?_);refine Bh (l':=[(0,Bu (AB p)),(1,Bw 11 (List.map A2 l)),(2,rI .i64 now),(3,rI .i64 most),(4,rI .i64 later)]) (H':=[]) Aa Aa ?_;unfold E0 at h;refine As (BD Aa Aa (λb1=>?_));refine wv (r:=rB false) (Aj Aa) (A3 (Ax (As (wm Aa ?_))));obtain⟨r2,e4,h3⟩:=AV h;refine IT Tryz.call8 (Nm F l r2 e4) Aa (wv (CA Aa) (A3 (AD (b:=!r2) Aa (λc5=>?_) (λc5=>?_))))
 ·have h6:=AZ c5 h3;refine As ?_;obtain⟨r7,e9,h8⟩:=AV h6;refine IT TM (Gf F r7 e9) Aa (wa Aa (A3 (A5 (Am ?_))));obtain rfl:=AC h8;exact A7 (BW Sl (AY Aa)) (sS sN) ⟨Aa,Aa⟩
 ·have gb:=Ba c5 h3;refine AF (Bd (As (wv (Bt (i:=0) Pv MM Aa Aa Aa Aa) (wm Aa (AL ((CG F p l).isSome) (λhG=>?_) (λhG=>?_))))))
  ·have g1:=AZ hG gb;obtain⟨h1,g2,g3⟩:=AV g1;refine DJ (Hr:=[.blk b1 (AB p) 23]) Tryz.call14 (Lu F p l h1 g2) Aa (U3 _) Aa ?_;rintro _ _ ⟨hg,hf,gc,gd,rfl,rfl⟩;refine wa Aa (A3 (Ax (As (wm Aa (wv (r:=rB false) (Qg ⟨_,Oh⟩ Aa) (A3 (Ci Aa Aa (AF (Bd (As (wm Aa (wm Aa ?_))))))))))));obtain⟨hr,g4,g5⟩:=AV g3;refine DJ (Hr:=[.blk b1 (AB p) 23]) Tryz.call15 (Iz hg hf gc gd h1.1 h1.2 now hr g4) Aa (U3 _) Aa ?_;rintro _ _ ⟨rfl,rfl⟩;refine wm Aa (wv (AE Aa Aa) (wv (AE Aa Aa) (wv (AE Aa Aa) (wa Aa (wa Aa (wa Aa (BG (wm Aa (wm Aa (wm Aa ?_))))))))));obtain⟨ha,g6,ge⟩:=AV g5;refine DJ (Hr:=[.blk b1 (AB p) 23]) Om (DC F hg hf gc gd h1.1 h1.2 now most ha g6) Aa (U3 _) Aa ?_;rintro _ _ ⟨hk,hs,rfl,rfl⟩;refine wa Aa (A3 (Ax (As (wm Aa (wv (BC (ys:=ha.1) (enc:=An) DR Aa) (wm Aa (wm Aa (wv (Qi TL Aa Aa) (wv (r:=rI .i64 (min hr.1 (max most 0))) (T4 TL Aa Aa) (wv (E4 Aa Aa) (A3 (AD (b:=!decide ((ha.1.length:Int)=(min hr.1 (max most 0)))) Aa (λhH=>?_) (λhH=>?_)))))))))))))
   ·have g7:=AZ hH ge;refine As (wv (r:=rB false) (Aj Aa) (A3 (A5 (Am ?_))));obtain rfl:=AC g7;exact A7 (BW Sl (AY Aa)) (sS (sS (sS (sS (sS sN))))) ⟨Aa,Aa⟩
   ·have g8:=Ba hH ge;refine AF (Bd (As (wm Aa (wm Aa ?_))));obtain⟨ht,g9,gA⟩:=AV g8;refine DJ (Hr:=[.blk b1 (AB p) 23]) Tryz.call15 (Iz hg hf hk hs ha.2.1 ha.2.2 now ht g9) Aa (U3 _) Aa ?_;rintro _ _ ⟨rfl,rfl⟩;refine wm Aa (wv (AE Aa Aa) (wv (AE Aa Aa) (wv (AE Aa Aa) (wa Aa (wa Aa (wa Aa (A3 (Ax ?_))))))));obtain⟨gB,gC⟩:=AH gA;obtain⟨gD,gf⟩:=AH gC;refine AM [(2,rI .i64 now),(4,rI .i64 later),(5,rv (.pointer (some ⟨b1,0,none⟩))),(11,rv (.pointer (some ⟨hg,0,none⟩))),(15,Bw 9 (List.map An ha.1)),(77,rB ((!decide (ht.1=(hr.1-(ha.1.length:Int))))||((!decide (ht.2.1=(hr.2.1+(ha.1.length:Int))))||(!decide (ht.2.2=hr.2.2)))))] [.blk hg [rI .i64 ha.2.1.fPolicy.fVisible,rI .i64 ha.2.1.fPolicy.fReceives,rv (.map (some hf)),rv hk,rI .i64 ha.2.1.fNow,rI .i64 ha.2.1.fArrived] 61,.map hf (A6 (mP hf) ha.2.1.fWaiting),.row hk 33 7 (List.map Af ha.2.1.fDead),.pool hf hs 71 (List.map Ad ha.2.2),.blk b1 (AB p) 23] ?_ ?_
    ·refine At (wm Aa (wm Aa (wm Aa (wv (BC (ys:=ha.1) (enc:=An) DR Aa) (wv (Ia Aa Aa gB) (wv (E4 Aa Aa) (wm Aa (AL (!decide (ht.1=(hr.1-(ha.1.length:Int)))) (λhn=>?_) (λhn=>?_)))))))))
     ·refine wf hn (wf hn (wf hn (wf hn (wf hn (wf hn (wv (r:=rB true) (Ap (b:=!decide (ht.1=(hr.1-(ha.1.length:Int)))) Aa hn Aa) (wm Aa (Ak (b:=true) Aa Aa Aa Aa (Ak (b:=true) Aa Aa Aa Aa (Ak (b:=true) Aa Aa Aa Aa (wv (r:=rB true) (Ap (b:=true) Aa Aa Aa) (Ar ?_))))))))))));exact Cw hn
     ·refine wo hn (wm Aa (wo hn (wm Aa (wo hn (wm Aa (wo hn (wv (BC (ys:=ha.1) (enc:=An) DR Aa) (wo hn (wv (BN Aa Aa (EU gD hn)) (wo hn (wv (E4 Aa Aa) (EY Aa hn Aa (wm Aa (AL (!decide (ht.2.1=(hr.2.1+(ha.1.length:Int)))) (λhu=>?_) (λhu=>?_)))))))))))))))
      ·refine wf hu (wf hu (wf hu (wv (r:=rB true) (Ap (b:=!decide (ht.2.1=(hr.2.1+(ha.1.length:Int)))) Aa hu Aa) (Ar ?_))));exact Cw (And.intro hn hu)
      ·refine wo hu (wm Aa (wo hu (wm Aa (wo hu (wv (E4 Aa Aa) (EY Aa hu Aa (Ar ?_)))))));exact Cw (And.intro hn hu)
    refine AD (b:=((!decide (ht.1=(hr.1-(ha.1.length:Int))))||((!decide (ht.2.1=(hr.2.1+(ha.1.length:Int))))||(!decide (ht.2.2=hr.2.2))))) Aa (λhI=>?_) (λhI=>?_)
    ·have gE:=AZ hI gf;refine As (wv (r:=rB false) (Aj Aa) (A3 (A5 (Am ?_))));obtain rfl:=AC gE;exact A7 (BW Sl (AY Aa)) (sS (sS (sS (sS (sS sN))))) ⟨Aa,Aa⟩
    ·have gF:=Ba hI gf;refine AF (Bd (Ax (As (wm Aa (wv (BC (ys:=ha.1) (enc:=An) DR Aa) (wv (r:=rI .i64 0) (Aq Aa) (A3 (AS ?_))))))));obtain⟨gG,gH,gg⟩:=AV gF;refine B9 (S:=Nat×(Int)×(Unit)) (V:=(Unit)×(Unit)) 0 (λσ=>BP (λσ=>BX F ha σ) σ.1 σ.2.1=some gG) (λσ=>[(2,rI .i64 now),(4,rI .i64 later),(5,rv (.pointer (some ⟨b1,0,none⟩))),(11,rv (.pointer (some ⟨hg,0,none⟩))),(15,Bw 9 (List.map An ha.1)),(79,rI .i64 (ha.1.length:Int)),(80,rI .i64 σ.2.1)]) (λσ=>[.blk hg [rI .i64 ha.2.1.fPolicy.fVisible,rI .i64 ha.2.1.fPolicy.fReceives,rv (.map (some hf)),rv hk,rI .i64 ha.2.1.fNow,rI .i64 ha.2.1.fArrived] 61,.map hf (A6 (mP hf) ha.2.1.fWaiting),.row hk 33 7 (List.map Af ha.2.1.fDead),.pool hf hs 71 (List.map Ad ha.2.2),.blk b1 (AB p) 23]) (λσ=>σ.1) (F,0,()) gH (AR.c Aa (AR.c Aa (AR.c5 Aa Aa Aa Aa Aa AR.nil))) (sC (sC (sC (sC (sC sN))))) (λσ=>Cn F p now later ha =some r) (λσ=>[(2,rI .i64 now),(4,rI .i64 later),(5,rv (.pointer (some ⟨b1,0,none⟩))),(11,rv (.pointer (some ⟨hg,0,none⟩))),(15,Bw 9 (List.map An ha.1))]) (λσ=>[.blk hg [rI .i64 ha.2.1.fPolicy.fVisible,rI .i64 ha.2.1.fPolicy.fReceives,rv (.map (some hf)),rv hk,rI .i64 ha.2.1.fNow,rI .i64 ha.2.1.fArrived] 61,.map hf (A6 (mP hf) ha.2.1.fWaiting),.row hk 33 7 (List.map Af ha.2.1.fDead),.pool hf hs 71 (List.map Ad ha.2.2),.blk b1 (AB p) 23]) ?_ ?_
     ·rintro⟨xd,hd,⟨⟩⟩ gI;refine Bh (l':=[(2,rI .i64 now),(4,rI .i64 later),(5,rv (.pointer (some ⟨b1,0,none⟩))),(11,rv (.pointer (some ⟨hg,0,none⟩))),(15,Bw 9 (List.map An ha.1)),(79,rI .i64 (ha.1.length:Int)),(80,rI .i64 hd)]) (H':=[.blk hg [rI .i64 ha.2.1.fPolicy.fVisible,rI .i64 ha.2.1.fPolicy.fReceives,rv (.map (some hf)),rv hk,rI .i64 ha.2.1.fNow,rI .i64 ha.2.1.fArrived] 61,.map hf (A6 (mP hf) ha.2.1.fWaiting),.row hk 33 7 (List.map Af ha.2.1.fDead),.pool hf hs 71 (List.map Ad ha.2.2),.blk b1 (AB p) 23]) Aa Aa ?_;obtain⟨gJ,rfl,hJ,h2,hK⟩:=Ey gI;replace h2:BX F ha hd=some hJ:=h2;unfold BX at h2;refine As (wv (DE Aa Aa) (A3 (Ax (AD (b:=decide (hd<(ha.1.length:Int))) Aa (λhL=>?_) (λhL=>?_)))))
      ·have gK:=AZ hL h2;refine AF (Bd (Ax (AS (As (wm Aa (wa Aa (BG (wm Aa (wv (r:=rI .i64 0) (Aq Aa) (A3 (AS ?_)))))))))));obtain⟨gL,gM,gh⟩:=AV gK;refine B9 (S:=Nat×(Int)×(Unit)) (V:=(Int×Bool)×(Unit)) 2 (λσ=>BP (λσ=>Cr ha hd σ) σ.1 σ.2.1=some gL) (λσ=>[(2,rI .i64 now),(4,rI .i64 later),(5,rv (.pointer (some ⟨b1,0,none⟩))),(11,rv (.pointer (some ⟨hg,0,none⟩))),(15,Bw 9 (List.map An ha.1)),(19,rI .i64 hd),(79,rI .i64 (ha.1.length:Int)),(80,rI .i64 hd),(83,rI .i64 hd),(84,rI .i64 σ.2.1)]) (λσ=>[.blk hg [rI .i64 ha.2.1.fPolicy.fVisible,rI .i64 ha.2.1.fPolicy.fReceives,rv (.map (some hf)),rv hk,rI .i64 ha.2.1.fNow,rI .i64 ha.2.1.fArrived] 61,.map hf (A6 (mP hf) ha.2.1.fWaiting),.row hk 33 7 (List.map Af ha.2.1.fDead),.pool hf hs 71 (List.map Ad ha.2.2),.blk b1 (AB p) 23]) (λσ=>σ.1) (F,0,()) gM (AR.c5 Aa Aa Aa Aa Aa (AR.c5 Aa Aa Aa Aa Aa AR.nil)) (sC (sC (sC (sC (sC sN))))) (λσ=>CY hd σ.1.1 σ.1.2=some hJ) (λσ=>[(2,rI .i64 now),(4,rI .i64 later),(5,rv (.pointer (some ⟨b1,0,none⟩))),(11,rv (.pointer (some ⟨hg,0,none⟩))),(15,Bw 9 (List.map An ha.1)),(19,rI .i64 hd),(79,rI .i64 (ha.1.length:Int)),(80,rI .i64 hd),(83,rI .i64 hd),(84,rI .i64 σ.1.1),(85,rB σ.1.2)]) (λσ=>[.blk hg [rI .i64 ha.2.1.fPolicy.fVisible,rI .i64 ha.2.1.fPolicy.fReceives,rv (.map (some hf)),rv hk,rI .i64 ha.2.1.fNow,rI .i64 ha.2.1.fArrived] 61,.map hf (A6 (mP hf) ha.2.1.fWaiting),.row hk 33 7 (List.map Af ha.2.1.fDead),.pool hf hs 71 (List.map Ad ha.2.2),.blk b1 (AB p) 23]) ?_ ?_
       ·rintro⟨xe,he,⟨⟩⟩ gN;refine Bh (l':=[(2,rI .i64 now),(4,rI .i64 later),(5,rv (.pointer (some ⟨b1,0,none⟩))),(11,rv (.pointer (some ⟨hg,0,none⟩))),(15,Bw 9 (List.map An ha.1)),(19,rI .i64 hd),(79,rI .i64 (ha.1.length:Int)),(80,rI .i64 hd),(83,rI .i64 hd),(84,rI .i64 he)]) (H':=[.blk hg [rI .i64 ha.2.1.fPolicy.fVisible,rI .i64 ha.2.1.fPolicy.fReceives,rv (.map (some hf)),rv hk,rI .i64 ha.2.1.fNow,rI .i64 ha.2.1.fArrived] 61,.map hf (A6 (mP hf) ha.2.1.fWaiting),.row hk 33 7 (List.map Af ha.2.1.fDead),.pool hf hs 71 (List.map Ad ha.2.2),.blk b1 (AB p) 23]) Aa Aa ?_;obtain⟨gO,rfl,gP,h4,hN⟩:=Ey gN;replace h4:Cr ha hd he=some gP:=h4;unfold Cr at h4;refine As (wv (DE Aa Aa) (A3 (Ax (AD (b:=decide (he<hd)) Aa (λhO=>?_) (λhO=>?_)))))
        ·have gQ:=AZ hO h4;refine AF (Bd (Ax (AS (As (wm Aa (wa Aa (A3 ?_)))))));obtain⟨hP,gR⟩:=AH gQ;obtain⟨hQ,gi⟩:=AH gR;refine AM [(2,rI .i64 now),(4,rI .i64 later),(5,rv (.pointer (some ⟨b1,0,none⟩))),(11,rv (.pointer (some ⟨hg,0,none⟩))),(15,Bw 9 (List.map An ha.1)),(19,rI .i64 hd),(79,rI .i64 (ha.1.length:Int)),(80,rI .i64 hd),(83,rI .i64 hd),(84,rI .i64 he),(112,rB ((decide (((Ac ha.1 he).fReceipt)=((Ac ha.1 hd).fReceipt)))||(decide ((((Ac ha.1 he).fEvent).fID)=(((Ac ha.1 hd).fEvent).fID)))))] [.blk hg [rI .i64 ha.2.1.fPolicy.fVisible,rI .i64 ha.2.1.fPolicy.fReceives,rv (.map (some hf)),rv hk,rI .i64 ha.2.1.fNow,rI .i64 ha.2.1.fArrived] 61,.map hf (A6 (mP hf) ha.2.1.fWaiting),.row hk 33 7 (List.map Af ha.2.1.fDead),.pool hf hs 71 (List.map Ad ha.2.2),.blk b1 (AB p) 23] ?_ ?_
         ·refine AL (decide (((Ac ha.1 he).fReceipt)=((Ac ha.1 hd).fReceipt))) (λhj=>?_) (λhj=>?_)
          ·refine CQ [2,4,5,11,15,19,20,79,80,83,84] [⟨[],Bw 9 (List.map An ha.1),0⟩,⟨[],rI .i64 he,0⟩,⟨[0,1],GY [rS ((Ac ha.1 he).fReceipt),rS (((Ac ha.1 he).fEvent).fID),rS (((Ac ha.1 he).fEvent).fTenant),rS (((Ac ha.1 he).fEvent).fSource),rS (((Ac ha.1 he).fEvent).fKey),rI .i64 (((Ac ha.1 he).fEvent).fAt),rS (((Ac ha.1 he).fEvent).fCause),Bw 4 (List.map Al (((Ac ha.1 he).fEvent).fBody)),rI .i64 ((Ac ha.1 he).fCount)],0⟩,⟨[2],GY [rS ((Ac ha.1 he).fReceipt),rS (((Ac ha.1 he).fEvent).fID),rS (((Ac ha.1 he).fEvent).fTenant),rS (((Ac ha.1 he).fEvent).fSource),rS (((Ac ha.1 he).fEvent).fKey),rI .i64 (((Ac ha.1 he).fEvent).fAt),rS (((Ac ha.1 he).fEvent).fCause),Bw 4 (List.map Al (((Ac ha.1 he).fEvent).fBody)),rI .i64 ((Ac ha.1 he).fCount)],0⟩,⟨[3],rS ((Ac ha.1 he).fReceipt),0⟩,⟨[],Bw 9 (List.map An ha.1),0⟩,⟨[],rI .i64 hd,0⟩,⟨[5,6],GY [rS ((Ac ha.1 hd).fReceipt),rS (((Ac ha.1 hd).fEvent).fID),rS (((Ac ha.1 hd).fEvent).fTenant),rS (((Ac ha.1 hd).fEvent).fSource),rS (((Ac ha.1 hd).fEvent).fKey),rI .i64 (((Ac ha.1 hd).fEvent).fAt),rS (((Ac ha.1 hd).fEvent).fCause),Bw 4 (List.map Al (((Ac ha.1 hd).fEvent).fBody)),rI .i64 ((Ac ha.1 hd).fCount)],0⟩,⟨[7],GY [rS ((Ac ha.1 hd).fReceipt),rS (((Ac ha.1 hd).fEvent).fID),rS (((Ac ha.1 hd).fEvent).fTenant),rS (((Ac ha.1 hd).fEvent).fSource),rS (((Ac ha.1 hd).fEvent).fKey),rI .i64 (((Ac ha.1 hd).fEvent).fAt),rS (((Ac ha.1 hd).fEvent).fCause),Bw 4 (List.map Al (((Ac ha.1 hd).fEvent).fBody)),rI .i64 ((Ac ha.1 hd).fCount)],0⟩,⟨[8],rS ((Ac ha.1 hd).fReceipt),0⟩,⟨[4,9],rB (decide (((Ac ha.1 he).fReceipt)=((Ac ha.1 hd).fReceipt))),0⟩,⟨[10],rB (decide (((Ac ha.1 he).fReceipt)=((Ac ha.1 hd).fReceipt))),0⟩,⟨[11],rv undef,0⟩,⟨[11],rv undef,0⟩,⟨[12,13,11],rv undef,0⟩,⟨[14,11],rv undef,0⟩,⟨[15,11],rv undef,0⟩,⟨[16,11],rv undef,0⟩,⟨[11],rv undef,0⟩,⟨[11],rv undef,0⟩,⟨[18,19,11],rv undef,0⟩,⟨[20,11],rv undef,0⟩,⟨[21,11],rv undef,0⟩,⟨[22,11],rv undef,0⟩,⟨[17,23,11],rv undef,0⟩,⟨[11,24],rB true,0⟩] [112,2,4,5,11,15,19,79,80,83,84] ?_ ?_
           ·refine oq (Aq Aa) (oq (Aq Aa) (oq (BF (enc:=An) (ys:=ha.1) DR Hq Aa Aa hP) (oq (AQ HF Aa DG Aa Aa) (oq (Bz DI Aa Aa) (oq (Aq Aa) (oq (Aq Aa) (oq (BF (enc:=An) (ys:=ha.1) DR Hq Aa Aa hQ) (oq (AQ HF Aa DG Aa Aa) (oq (Bz DI Aa Aa) (oq (Ei Aa Aa) (oq (Aq Aa) (oz hj (oz hj (oz hj (oz hj (oz hj (oz hj (oz hj (oz hj (oz hj (oz hj (oz hj (oz hj ?_)))))))))))))))))))))));refine oz hj (oq (Ap (b:=decide (((Ac ha.1 he).fReceipt)=((Ac ha.1 hd).fReceipt))) Aa hj Aa) ?_);exact Cu
           exact Cw hj
          ·refine CQ [2,4,5,11,15,19,20,79,80,83,84] [⟨[],Bw 9 (List.map An ha.1),0⟩,⟨[],rI .i64 he,0⟩,⟨[0,1],GY [rS ((Ac ha.1 he).fReceipt),rS (((Ac ha.1 he).fEvent).fID),rS (((Ac ha.1 he).fEvent).fTenant),rS (((Ac ha.1 he).fEvent).fSource),rS (((Ac ha.1 he).fEvent).fKey),rI .i64 (((Ac ha.1 he).fEvent).fAt),rS (((Ac ha.1 he).fEvent).fCause),Bw 4 (List.map Al (((Ac ha.1 he).fEvent).fBody)),rI .i64 ((Ac ha.1 he).fCount)],0⟩,⟨[2],GY [rS ((Ac ha.1 he).fReceipt),rS (((Ac ha.1 he).fEvent).fID),rS (((Ac ha.1 he).fEvent).fTenant),rS (((Ac ha.1 he).fEvent).fSource),rS (((Ac ha.1 he).fEvent).fKey),rI .i64 (((Ac ha.1 he).fEvent).fAt),rS (((Ac ha.1 he).fEvent).fCause),Bw 4 (List.map Al (((Ac ha.1 he).fEvent).fBody)),rI .i64 ((Ac ha.1 he).fCount)],0⟩,⟨[3],rS ((Ac ha.1 he).fReceipt),0⟩,⟨[],Bw 9 (List.map An ha.1),0⟩,⟨[],rI .i64 hd,0⟩,⟨[5,6],GY [rS ((Ac ha.1 hd).fReceipt),rS (((Ac ha.1 hd).fEvent).fID),rS (((Ac ha.1 hd).fEvent).fTenant),rS (((Ac ha.1 hd).fEvent).fSource),rS (((Ac ha.1 hd).fEvent).fKey),rI .i64 (((Ac ha.1 hd).fEvent).fAt),rS (((Ac ha.1 hd).fEvent).fCause),Bw 4 (List.map Al (((Ac ha.1 hd).fEvent).fBody)),rI .i64 ((Ac ha.1 hd).fCount)],0⟩,⟨[7],GY [rS ((Ac ha.1 hd).fReceipt),rS (((Ac ha.1 hd).fEvent).fID),rS (((Ac ha.1 hd).fEvent).fTenant),rS (((Ac ha.1 hd).fEvent).fSource),rS (((Ac ha.1 hd).fEvent).fKey),rI .i64 (((Ac ha.1 hd).fEvent).fAt),rS (((Ac ha.1 hd).fEvent).fCause),Bw 4 (List.map Al (((Ac ha.1 hd).fEvent).fBody)),rI .i64 ((Ac ha.1 hd).fCount)],0⟩,⟨[8],rS ((Ac ha.1 hd).fReceipt),0⟩,⟨[4,9],rB (decide (((Ac ha.1 he).fReceipt)=((Ac ha.1 hd).fReceipt))),0⟩,⟨[10],rB (decide (((Ac ha.1 he).fReceipt)=((Ac ha.1 hd).fReceipt))),0⟩,⟨[11],Bw 9 (List.map An ha.1),0⟩,⟨[11],rI .i64 he,0⟩,⟨[12,13,11],GY [rS ((Ac ha.1 he).fReceipt),rS (((Ac ha.1 he).fEvent).fID),rS (((Ac ha.1 he).fEvent).fTenant),rS (((Ac ha.1 he).fEvent).fSource),rS (((Ac ha.1 he).fEvent).fKey),rI .i64 (((Ac ha.1 he).fEvent).fAt),rS (((Ac ha.1 he).fEvent).fCause),Bw 4 (List.map Al (((Ac ha.1 he).fEvent).fBody)),rI .i64 ((Ac ha.1 he).fCount)],0⟩,⟨[14,11],GY [rS (((Ac ha.1 he).fEvent).fID),rS (((Ac ha.1 he).fEvent).fTenant),rS (((Ac ha.1 he).fEvent).fSource),rS (((Ac ha.1 he).fEvent).fKey),rI .i64 (((Ac ha.1 he).fEvent).fAt),rS (((Ac ha.1 he).fEvent).fCause),Bw 4 (List.map Al (((Ac ha.1 he).fEvent).fBody)),rI .i64 ((Ac ha.1 he).fCount)],0⟩,⟨[15,11],GY [rS (((Ac ha.1 he).fEvent).fID),rS (((Ac ha.1 he).fEvent).fTenant),rS (((Ac ha.1 he).fEvent).fSource),rS (((Ac ha.1 he).fEvent).fKey),rI .i64 (((Ac ha.1 he).fEvent).fAt),rS (((Ac ha.1 he).fEvent).fCause),Bw 4 (List.map Al (((Ac ha.1 he).fEvent).fBody)),rI .i64 ((Ac ha.1 he).fCount)],0⟩,⟨[16,11],rS (((Ac ha.1 he).fEvent).fID),0⟩,⟨[11],Bw 9 (List.map An ha.1),0⟩,⟨[11],rI .i64 hd,0⟩,⟨[18,19,11],GY [rS ((Ac ha.1 hd).fReceipt),rS (((Ac ha.1 hd).fEvent).fID),rS (((Ac ha.1 hd).fEvent).fTenant),rS (((Ac ha.1 hd).fEvent).fSource),rS (((Ac ha.1 hd).fEvent).fKey),rI .i64 (((Ac ha.1 hd).fEvent).fAt),rS (((Ac ha.1 hd).fEvent).fCause),Bw 4 (List.map Al (((Ac ha.1 hd).fEvent).fBody)),rI .i64 ((Ac ha.1 hd).fCount)],0⟩,⟨[20,11],GY [rS (((Ac ha.1 hd).fEvent).fID),rS (((Ac ha.1 hd).fEvent).fTenant),rS (((Ac ha.1 hd).fEvent).fSource),rS (((Ac ha.1 hd).fEvent).fKey),rI .i64 (((Ac ha.1 hd).fEvent).fAt),rS (((Ac ha.1 hd).fEvent).fCause),Bw 4 (List.map Al (((Ac ha.1 hd).fEvent).fBody)),rI .i64 ((Ac ha.1 hd).fCount)],0⟩,⟨[21,11],GY [rS (((Ac ha.1 hd).fEvent).fID),rS (((Ac ha.1 hd).fEvent).fTenant),rS (((Ac ha.1 hd).fEvent).fSource),rS (((Ac ha.1 hd).fEvent).fKey),rI .i64 (((Ac ha.1 hd).fEvent).fAt),rS (((Ac ha.1 hd).fEvent).fCause),Bw 4 (List.map Al (((Ac ha.1 hd).fEvent).fBody)),rI .i64 ((Ac ha.1 hd).fCount)],0⟩,⟨[22,11],rS (((Ac ha.1 hd).fEvent).fID),0⟩,⟨[17,23,11],rB (decide ((((Ac ha.1 he).fEvent).fID)=(((Ac ha.1 hd).fEvent).fID))),0⟩,⟨[11,24],rB (decide ((((Ac ha.1 he).fEvent).fID)=(((Ac ha.1 hd).fEvent).fID))),0⟩] [112,2,4,5,11,15,19,79,80,83,84] ?_ ?_
           ·refine oq (Aq Aa) (oq (Aq Aa) (oq (BF (enc:=An) (ys:=ha.1) DR Hq Aa Aa hP) (oq (AQ HF Aa DG Aa Aa) (oq (Bz DI Aa Aa) (oq (Aq Aa) (oq (Aq Aa) (oq (BF (enc:=An) (ys:=ha.1) DR Hq Aa Aa hQ) (oq (AQ HF Aa DG Aa Aa) (oq (Bz DI Aa Aa) (oq (Ei Aa Aa) (oq (Aq Aa) (on hj (oq (Aq Aa) (on hj (oq (Aq Aa) (on hj (oq (BF (enc:=An) (ys:=ha.1) DR Hq Aa Aa hP) (on hj (oq (AQ HF Aa CT Aa Aa) (on hj (oq (AQ CP Aa DG Aa Aa) (on hj (oq (Bz DI Aa Aa) ?_)))))))))))))))))))))));refine on hj (oq (Aq Aa) (on hj (oq (Aq Aa) (on hj (oq (BF (enc:=An) (ys:=ha.1) DR Hq Aa Aa hQ) (on hj (oq (AQ HF Aa CT Aa Aa) (on hj (oq (AQ CP Aa DG Aa Aa) (on hj (oq (Bz DI Aa Aa) (on hj (oq (Ei Aa Aa) (oq (AG Aa hj Aa) ?_))))))))))))));exact Cu
           exact Cw hj
         refine AD (b:=((decide (((Ac ha.1 he).fReceipt)=((Ac ha.1 hd).fReceipt)))||(decide ((((Ac ha.1 he).fEvent).fID)=(((Ac ha.1 hd).fEvent).fID))))) Aa (λhR=>?_) (λhR=>?_)
         ·have gS:=AZ hR gi;refine As (wv (r:=rB false) (Aj Aa) (A3 (A5 (AJ (Am (Am (BI ?_)))))));have gT:=CM gS hN gh;refine AJ (AJ (Am (Am (BI ?_))));have gU:=CM gT hK gg;refine AJ (Am ?_);obtain rfl:=AC gU;exact A7 (BW Sl (AY Aa)) (sS (sS (sS (sS (sS sN))))) ⟨Aa,Aa⟩
         ·have gV:=Ba hR gi;refine AF (AX (Bd (At ?_)));obtain⟨gW,gX⟩:=AH gV;refine wv (BN Aa Aa gW) (wm Aa (Ar ?_));have gY:=BK gX hN;exact Az (AT (gO,he+1,()) ⟨gY,UQ _⟩ (AR.c5 Aa Aa Aa Aa Aa (AR.c5 Aa Aa Aa Aa Aa AR.nil)) (sC (sC (sC (sC (sC sN))))))
        ·have gZ:=Ba hO h4;refine B3 (A9 ?_);have ca:=CR gZ hN gh;exact A9 (Bo (AT ((he,decide (he<hd)),()) ca (AR.c Aa (AR.c5 Aa Aa Aa Aa Aa (AR.c5 Aa Aa Aa Aa Aa AR.nil))) (sC (sC (sC (sC (sC sN)))))))
       ·rintro⟨⟨gj,gl⟩,⟨⟩⟩ h9;refine Dv (l':=[(2,rI .i64 now),(4,rI .i64 later),(5,rv (.pointer (some ⟨b1,0,none⟩))),(11,rv (.pointer (some ⟨hg,0,none⟩))),(15,Bw 9 (List.map An ha.1)),(19,rI .i64 hd),(79,rI .i64 (ha.1.length:Int)),(80,rI .i64 hd),(83,rI .i64 hd),(84,rI .i64 gj),(85,rB gl)]) (H':=[.blk hg [rI .i64 ha.2.1.fPolicy.fVisible,rI .i64 ha.2.1.fPolicy.fReceives,rv (.map (some hf)),rv hk,rI .i64 ha.2.1.fNow,rI .i64 ha.2.1.fArrived] 61,.map hf (A6 (mP hf) ha.2.1.fWaiting),.row hk 33 7 (List.map Af ha.2.1.fDead),.pool hf hs 71 (List.map Ad ha.2.2),.blk b1 (AB p) 23]) Aa Aa ?_;replace h9:CY hd gj gl=some hJ:=h9;unfold CY at h9;refine Bk (AX (Bd (At ?_)));obtain⟨cb,cc⟩:=AH h9;refine wv (BN Aa Aa cb) (wm Aa (Ar ?_));have cd:=BK cc hK;exact Az (AT (gJ,hd+1,()) ⟨cd,UQ _⟩ (AR.c Aa (AR.c Aa (AR.c5 Aa Aa Aa Aa Aa AR.nil))) (sC (sC (sC (sC (sC sN))))))
      ·have ce:=Ba hL h2;refine B3 (A9 ?_);have cf:=CR ce hK gg;exact A9 (Bo (AT ((),()) cf (AR.c5 Aa Aa Aa Aa Aa AR.nil) (sC (sC (sC (sC (sC sN)))))))
     ·rintro⟨⟨⟩,⟨⟩⟩ hA;refine Dv (l':=[(2,rI .i64 now),(4,rI .i64 later),(5,rv (.pointer (some ⟨b1,0,none⟩))),(11,rv (.pointer (some ⟨hg,0,none⟩))),(15,Bw 9 (List.map An ha.1))]) (H':=[.blk hg [rI .i64 ha.2.1.fPolicy.fVisible,rI .i64 ha.2.1.fPolicy.fReceives,rv (.map (some hf)),rv hk,rI .i64 ha.2.1.fNow,rI .i64 ha.2.1.fArrived] 61,.map hf (A6 (mP hf) ha.2.1.fWaiting),.row hk 33 7 (List.map Af ha.2.1.fDead),.pool hf hs 71 (List.map Ad ha.2.2),.blk b1 (AB p) 23]) Aa Aa ?_;replace hA:Cn F p now later ha =some r:=hA;unfold Cn at hA;refine Bk (Bd (Ax ?_));obtain⟨cg,gm⟩:=AH hA;refine AM [(4,rI .i64 later),(11,rv (.pointer (some ⟨hg,0,none⟩))),(15,Bw 9 (List.map An ha.1)),(134,rB ((decide ((ha.1.length:Int)=0))||((decide (later<now))||((decide ((now+p.fVisible)≤later))||(decide (1073741824<later))))))] [.blk hg [rI .i64 ha.2.1.fPolicy.fVisible,rI .i64 ha.2.1.fPolicy.fReceives,rv (.map (some hf)),rv hk,rI .i64 ha.2.1.fNow,rI .i64 ha.2.1.fArrived] 61,.map hf (A6 (mP hf) ha.2.1.fWaiting),.row hk 33 7 (List.map Af ha.2.1.fDead),.pool hf hs 71 (List.map Ad ha.2.2)] ?_ ?_
      ·refine At (wm Aa (wv (BC (ys:=ha.1) (enc:=An) DR Aa) (wv (B6 Aa Aa) (wm Aa (AL (decide ((ha.1.length:Int)=0)) (λhq=>?_) (λhq=>?_))))))
       ·refine wf hq (wf hq (wf hq (wv (r:=rB true) (Ap (b:=decide ((ha.1.length:Int)=0)) Aa hq Aa) (wm Aa (Ak (b:=true) Aa Aa Aa Aa (Ak (b:=true) Aa Aa Aa Aa (Ak (b:=true) Aa Aa Aa Aa (Ak (b:=true) Aa Aa Aa Aa (Ak (b:=true) Aa Aa Aa Aa (Ak (b:=true) Aa Aa Aa Aa (wv (r:=rB true) (Ap (b:=true) Aa Aa Aa) (wm Aa (Ak (b:=true) Aa Aa Aa Aa (Ak (b:=true) Aa Aa Aa Aa (wv (r:=rB true) (Ap (b:=true) Aa Aa Aa) (Ar ?_))))))))))))))));exact Cw hq
       ·refine wo hq (wm Aa (wo hq (wm Aa (wo hq (wv (DE Aa Aa) (EY Aa hq Aa (wm Aa (AL (decide (later<now)) (λho=>?_) (λho=>?_)))))))))
        ·refine wf ho (wf ho (wf ho (wf ho (wf ho (wf ho (wv (r:=rB true) (Ap (b:=decide (later<now)) Aa ho Aa) (wm Aa (Ak (b:=true) Aa Aa Aa Aa (Ak (b:=true) Aa Aa Aa Aa (wv (r:=rB true) (Ap (b:=true) Aa Aa Aa) (Ar ?_)))))))))));exact Cw (And.intro hq ho)
        ·refine wo ho (wm Aa (wo ho (wm Aa (wo ho (wv (Ai J7 Aa Ca Aa Aa) (wo ho (wv (Ay (i:=4) Cl Aa Aa Aa) (wo ho (wv (BN Aa Aa (EU (EU cg hq) ho)) (wo ho (wv (H7 Aa Aa) (EY Aa ho Aa (wm Aa (AL (decide ((now+p.fVisible)≤later)) (λhw=>?_) (λhw=>?_)))))))))))))))
         ·refine wf hw (wf hw (wv (r:=rB true) (Ap (b:=decide ((now+p.fVisible)≤later)) Aa hw Aa) (Ar ?_)));exact Cw (And.intro hq (And.intro ho hw))
         ·refine wo hw (wm Aa (wo hw (wv (Dt Aa Aa) (EY Aa hw Aa (Ar ?_)))));exact Cw (And.intro hq (And.intro ho hw))
      refine AD (b:=((decide ((ha.1.length:Int)=0))||((decide (later<now))||((decide ((now+p.fVisible)≤later))||(decide (1073741824<later)))))) Aa (λhS=>?_) (λhS=>?_)
      ·have ch:=AZ hS gm;refine As ?_;obtain⟨ci,cj,ck⟩:=AV ch;refine IT TM (Gf F ci cj) Aa (wa Aa (A3 (A5 (Am ?_))));obtain rfl:=AC ck;exact A7 (BW Sl (AY Aa)) (sS (sS (sS (sS sN)))) ⟨Aa,Aa⟩
      ·have cl:=Ba hS gm;refine AF (Bd (As (wm Aa (wm Aa ?_))));obtain⟨hb,cm,cn⟩:=AV cl;refine DJ (Hr:=[]) Om (DC F hg hf hk hs ha.2.1 ha.2.2 later 256 hb cm) Aa (U3 _) Aa ?_;rintro _ _ ⟨hp,hx,rfl,rfl⟩;refine wa Aa (A3 (Ax (As (wm Aa (wv (BC (ys:=hb.1) (enc:=An) DR Aa) (wv (r:=rI .i64 0) (Aq Aa) (A3 (AS ?_))))))));obtain⟨co,cp,gp⟩:=AV cn;refine B9 (S:=Nat×(Int)×(Unit)) (V:=(Unit)×(Unit)) 4 (λσ=>BP (λσ=>Cq F ha hb σ) σ.1 σ.2.1=some co) (λσ=>[(4,rI .i64 later),(11,rv (.pointer (some ⟨hg,0,none⟩))),(15,Bw 9 (List.map An ha.1)),(21,Bw 9 (List.map An hb.1)),(140,rI .i64 (hb.1.length:Int)),(141,rI .i64 σ.2.1)]) (λσ=>[.blk hg [rI .i64 hb.2.1.fPolicy.fVisible,rI .i64 hb.2.1.fPolicy.fReceives,rv (.map (some hf)),rv hp,rI .i64 hb.2.1.fNow,rI .i64 hb.2.1.fArrived] 61,.map hf (A6 (mP hf) hb.2.1.fWaiting),.row hp 33 7 (List.map Af hb.2.1.fDead),.pool hf hx 71 (List.map Ad hb.2.2)]) (λσ=>σ.1) (F,0,()) cp (AR.c Aa (AR.c5 Aa Aa Aa Aa Aa AR.nil)) (sC (sC (sC (sC sN)))) (λσ=>C7 F later ha hb =some r) (λσ=>[(4,rI .i64 later),(11,rv (.pointer (some ⟨hg,0,none⟩))),(15,Bw 9 (List.map An ha.1))]) (λσ=>[.blk hg [rI .i64 hb.2.1.fPolicy.fVisible,rI .i64 hb.2.1.fPolicy.fReceives,rv (.map (some hf)),rv hp,rI .i64 hb.2.1.fNow,rI .i64 hb.2.1.fArrived] 61,.map hf (A6 (mP hf) hb.2.1.fWaiting),.row hp 33 7 (List.map Af hb.2.1.fDead),.pool hf hx 71 (List.map Ad hb.2.2)]) ?_ ?_
       ·rintro⟨xf,hh,⟨⟩⟩ cq;refine Bh (l':=[(4,rI .i64 later),(11,rv (.pointer (some ⟨hg,0,none⟩))),(15,Bw 9 (List.map An ha.1)),(21,Bw 9 (List.map An hb.1)),(140,rI .i64 (hb.1.length:Int)),(141,rI .i64 hh)]) (H':=[.blk hg [rI .i64 hb.2.1.fPolicy.fVisible,rI .i64 hb.2.1.fPolicy.fReceives,rv (.map (some hf)),rv hp,rI .i64 hb.2.1.fNow,rI .i64 hb.2.1.fArrived] 61,.map hf (A6 (mP hf) hb.2.1.fWaiting),.row hp 33 7 (List.map Af hb.2.1.fDead),.pool hf hx 71 (List.map Ad hb.2.2)]) Aa Aa ?_;obtain⟨cr,rfl,hT,h5,hU⟩:=Ey cq;replace h5:Cq F ha hb hh=some hT:=h5;unfold Cq at h5;refine As (wv (DE Aa Aa) (A3 (Ax (AD (b:=decide (hh<(hb.1.length:Int))) Aa (λhV=>?_) (λhV=>?_)))))
        ·have cs:=AZ hV h5;refine AF (Bd (Ax (AS (As (wm Aa (wa Aa (BG (wm Aa (wv (BC (ys:=ha.1) (enc:=An) DR Aa) (wv (r:=rI .i64 0) (Aq Aa) (A3 (AS ?_))))))))))));obtain⟨ct,cu,gq⟩:=AV cs;refine B9 (S:=Nat×(Int)×(Unit)) (V:=(Int×Bool)×(Unit)) 6 (λσ=>BP (λσ=>Cp ha hb hh σ) σ.1 σ.2.1=some ct) (λσ=>[(4,rI .i64 later),(11,rv (.pointer (some ⟨hg,0,none⟩))),(15,Bw 9 (List.map An ha.1)),(21,Bw 9 (List.map An hb.1)),(22,rI .i64 hh),(140,rI .i64 (hb.1.length:Int)),(141,rI .i64 hh),(145,rI .i64 (ha.1.length:Int)),(146,rI .i64 σ.2.1)]) (λσ=>[.blk hg [rI .i64 hb.2.1.fPolicy.fVisible,rI .i64 hb.2.1.fPolicy.fReceives,rv (.map (some hf)),rv hp,rI .i64 hb.2.1.fNow,rI .i64 hb.2.1.fArrived] 61,.map hf (A6 (mP hf) hb.2.1.fWaiting),.row hp 33 7 (List.map Af hb.2.1.fDead),.pool hf hx 71 (List.map Ad hb.2.2)]) (λσ=>σ.1) (F,0,()) cu (AR.c Aa (AR.c Aa (AR.c Aa (AR.c Aa (AR.c5 Aa Aa Aa Aa Aa AR.nil))))) (sC (sC (sC (sC sN)))) (λσ=>CX hh σ.1.1 σ.1.2=some hT) (λσ=>[(4,rI .i64 later),(11,rv (.pointer (some ⟨hg,0,none⟩))),(15,Bw 9 (List.map An ha.1)),(21,Bw 9 (List.map An hb.1)),(22,rI .i64 hh),(140,rI .i64 (hb.1.length:Int)),(141,rI .i64 hh),(145,rI .i64 (ha.1.length:Int)),(146,rI .i64 σ.1.1),(147,rB σ.1.2)]) (λσ=>[.blk hg [rI .i64 hb.2.1.fPolicy.fVisible,rI .i64 hb.2.1.fPolicy.fReceives,rv (.map (some hf)),rv hp,rI .i64 hb.2.1.fNow,rI .i64 hb.2.1.fArrived] 61,.map hf (A6 (mP hf) hb.2.1.fWaiting),.row hp 33 7 (List.map Af hb.2.1.fDead),.pool hf hx 71 (List.map Ad hb.2.2)]) ?_ ?_
         ·rintro⟨xg,hi,⟨⟩⟩ cv;refine Bh (l':=[(4,rI .i64 later),(11,rv (.pointer (some ⟨hg,0,none⟩))),(15,Bw 9 (List.map An ha.1)),(21,Bw 9 (List.map An hb.1)),(22,rI .i64 hh),(140,rI .i64 (hb.1.length:Int)),(141,rI .i64 hh),(145,rI .i64 (ha.1.length:Int)),(146,rI .i64 hi)]) (H':=[.blk hg [rI .i64 hb.2.1.fPolicy.fVisible,rI .i64 hb.2.1.fPolicy.fReceives,rv (.map (some hf)),rv hp,rI .i64 hb.2.1.fNow,rI .i64 hb.2.1.fArrived] 61,.map hf (A6 (mP hf) hb.2.1.fWaiting),.row hp 33 7 (List.map Af hb.2.1.fDead),.pool hf hx 71 (List.map Ad hb.2.2)]) Aa Aa ?_;obtain⟨cw,rfl,cx,h7,hW⟩:=Ey cv;replace h7:Cp ha hb hh hi=some cx:=h7;unfold Cp at h7;refine As (wv (DE Aa Aa) (A3 (Ax (AD (b:=decide (hi<(ha.1.length:Int))) Aa (λhX=>?_) (λhX=>?_)))))
          ·have cy:=AZ hX h7;refine AF (Bd (Ax (AS (As (wm Aa (wa Aa (A3 (Ax ?_))))))));obtain⟨cz,c0⟩:=AH cy;obtain⟨c1,gr⟩:=AH c0;refine CQ [4,11,15,21,22,23,140,141,145,146] [⟨[],Bw 9 (List.map An hb.1),0⟩,⟨[],rI .i64 hh,0⟩,⟨[0,1],GY [rS ((Ac hb.1 hh).fReceipt),rS (((Ac hb.1 hh).fEvent).fID),rS (((Ac hb.1 hh).fEvent).fTenant),rS (((Ac hb.1 hh).fEvent).fSource),rS (((Ac hb.1 hh).fEvent).fKey),rI .i64 (((Ac hb.1 hh).fEvent).fAt),rS (((Ac hb.1 hh).fEvent).fCause),Bw 4 (List.map Al (((Ac hb.1 hh).fEvent).fBody)),rI .i64 ((Ac hb.1 hh).fCount)],0⟩,⟨[2],GY [rS (((Ac hb.1 hh).fEvent).fID),rS (((Ac hb.1 hh).fEvent).fTenant),rS (((Ac hb.1 hh).fEvent).fSource),rS (((Ac hb.1 hh).fEvent).fKey),rI .i64 (((Ac hb.1 hh).fEvent).fAt),rS (((Ac hb.1 hh).fEvent).fCause),Bw 4 (List.map Al (((Ac hb.1 hh).fEvent).fBody)),rI .i64 ((Ac hb.1 hh).fCount)],0⟩,⟨[3],GY [rS (((Ac hb.1 hh).fEvent).fID),rS (((Ac hb.1 hh).fEvent).fTenant),rS (((Ac hb.1 hh).fEvent).fSource),rS (((Ac hb.1 hh).fEvent).fKey),rI .i64 (((Ac hb.1 hh).fEvent).fAt),rS (((Ac hb.1 hh).fEvent).fCause),Bw 4 (List.map Al (((Ac hb.1 hh).fEvent).fBody)),rI .i64 ((Ac hb.1 hh).fCount)],0⟩,⟨[4],rS (((Ac hb.1 hh).fEvent).fID),0⟩,⟨[],Bw 9 (List.map An ha.1),0⟩,⟨[],rI .i64 hi,0⟩,⟨[6,7],GY [rS ((Ac ha.1 hi).fReceipt),rS (((Ac ha.1 hi).fEvent).fID),rS (((Ac ha.1 hi).fEvent).fTenant),rS (((Ac ha.1 hi).fEvent).fSource),rS (((Ac ha.1 hi).fEvent).fKey),rI .i64 (((Ac ha.1 hi).fEvent).fAt),rS (((Ac ha.1 hi).fEvent).fCause),Bw 4 (List.map Al (((Ac ha.1 hi).fEvent).fBody)),rI .i64 ((Ac ha.1 hi).fCount)],0⟩,⟨[8],GY [rS (((Ac ha.1 hi).fEvent).fID),rS (((Ac ha.1 hi).fEvent).fTenant),rS (((Ac ha.1 hi).fEvent).fSource),rS (((Ac ha.1 hi).fEvent).fKey),rI .i64 (((Ac ha.1 hi).fEvent).fAt),rS (((Ac ha.1 hi).fEvent).fCause),Bw 4 (List.map Al (((Ac ha.1 hi).fEvent).fBody)),rI .i64 ((Ac ha.1 hi).fCount)],0⟩,⟨[9],GY [rS (((Ac ha.1 hi).fEvent).fID),rS (((Ac ha.1 hi).fEvent).fTenant),rS (((Ac ha.1 hi).fEvent).fSource),rS (((Ac ha.1 hi).fEvent).fKey),rI .i64 (((Ac ha.1 hi).fEvent).fAt),rS (((Ac ha.1 hi).fEvent).fCause),Bw 4 (List.map Al (((Ac ha.1 hi).fEvent).fBody)),rI .i64 ((Ac ha.1 hi).fCount)],0⟩,⟨[10],rS (((Ac ha.1 hi).fEvent).fID),0⟩,⟨[5,11],rB (decide ((((Ac hb.1 hh).fEvent).fID)=(((Ac ha.1 hi).fEvent).fID))),0⟩] [161,4,11,15,21,22,140,141,145,146] ?_ ?_
           ·refine oq (Aq Aa) (oq (Aq Aa) (oq (BF (enc:=An) (ys:=hb.1) DR Hq Aa Aa cz) (oq (AQ HF Aa CT Aa Aa) (oq (AQ CP Aa DG Aa Aa) (oq (Bz DI Aa Aa) (oq (Aq Aa) (oq (Aq Aa) (oq (BF (enc:=An) (ys:=ha.1) DR Hq Aa Aa c1) (oq (AQ HF Aa CT Aa Aa) (oq (AQ CP Aa DG Aa Aa) (oq (Bz DI Aa Aa) (oq (Ei Aa Aa) ?_))))))))))));exact Cu
           refine Bd (AD (b:=decide ((((Ac hb.1 hh).fEvent).fID)=(((Ac ha.1 hi).fEvent).fID))) Aa (λhY=>?_) (λhY=>?_))
           ·have c2:=AZ hY gr;refine As (wv (r:=rB false) (Aj Aa) (A3 (A5 (AJ (Am (Am (BI ?_)))))));have c3:=CM c2 hW gq;refine AJ (AJ (Am (Am (BI ?_))));have c4:=CM c3 hU gp;refine AJ (Am ?_);obtain rfl:=AC c4;exact A7 (BW Sl (AY Aa)) (sS (sS (sS (sS sN)))) ⟨Aa,Aa⟩
           ·have c6:=Ba hY gr;refine AF (AX (Bd (At ?_)));obtain⟨c7,c8⟩:=AH c6;refine wv (BN Aa Aa c7) (wm Aa (Ar ?_));have c9:=BK c8 hW;exact Az (AT (cw,hi+1,()) ⟨c9,UQ _⟩ (AR.c Aa (AR.c Aa (AR.c Aa (AR.c Aa (AR.c5 Aa Aa Aa Aa Aa AR.nil))))) (sC (sC (sC (sC sN)))))
          ·have cA:=Ba hX h7;refine B3 (A9 ?_);have cB:=CR cA hW gq;exact A9 (Bo (AT ((hi,decide (hi<(ha.1.length:Int))),()) cB (AR.c5 Aa Aa Aa Aa Aa (AR.c5 Aa Aa Aa Aa Aa AR.nil)) (sC (sC (sC (sC sN))))))
         ·rintro⟨⟨gs,gt⟩,⟨⟩⟩ hB;refine Dv (l':=[(4,rI .i64 later),(11,rv (.pointer (some ⟨hg,0,none⟩))),(15,Bw 9 (List.map An ha.1)),(21,Bw 9 (List.map An hb.1)),(22,rI .i64 hh),(140,rI .i64 (hb.1.length:Int)),(141,rI .i64 hh),(145,rI .i64 (ha.1.length:Int)),(146,rI .i64 gs),(147,rB gt)]) (H':=[.blk hg [rI .i64 hb.2.1.fPolicy.fVisible,rI .i64 hb.2.1.fPolicy.fReceives,rv (.map (some hf)),rv hp,rI .i64 hb.2.1.fNow,rI .i64 hb.2.1.fArrived] 61,.map hf (A6 (mP hf) hb.2.1.fWaiting),.row hp 33 7 (List.map Af hb.2.1.fDead),.pool hf hx 71 (List.map Ad hb.2.2)]) Aa Aa ?_;replace hB:CX hh gs gt=some hT:=hB;unfold CX at hB;refine Bk (AX (Bd (At ?_)));obtain⟨cC,cD⟩:=AH hB;refine wv (BN Aa Aa cC) (wm Aa (Ar ?_));have cE:=BK cD hU;exact Az (AT (cr,hh+1,()) ⟨cE,UQ _⟩ (AR.c Aa (AR.c5 Aa Aa Aa Aa Aa AR.nil)) (sC (sC (sC (sC sN)))))
        ·have cF:=Ba hV h5;refine B3 (A9 ?_);have cG:=CR cF hU gp;exact A9 (Bo (AT ((),()) cG (AR.c Aa (AR.c Aa (AR.c Aa AR.nil))) (sC (sC (sC (sC sN))))))
       ·rintro⟨⟨⟩,⟨⟩⟩ hC;refine Dv (l':=[(4,rI .i64 later),(11,rv (.pointer (some ⟨hg,0,none⟩))),(15,Bw 9 (List.map An ha.1))]) (H':=[.blk hg [rI .i64 hb.2.1.fPolicy.fVisible,rI .i64 hb.2.1.fPolicy.fReceives,rv (.map (some hf)),rv hp,rI .i64 hb.2.1.fNow,rI .i64 hb.2.1.fArrived] 61,.map hf (A6 (mP hf) hb.2.1.fWaiting),.row hp 33 7 (List.map Af hb.2.1.fDead),.pool hf hx 71 (List.map Ad hb.2.2)]) Aa Aa ?_;replace hC:C7 F later ha hb =some r:=hC;unfold C7 at hC;refine Bk (Bd (Et (S:=(Bool×(List Ab))×(Value)) (λσ=>Co σ.1.1 σ.1.2=some r) (λσ=>[(10,rB σ.1.1)]) (λσ=>[.pool hf σ.2 71 (List.map Ad σ.1.2)]) ?_ ?_))
        ·refine At (wm Aa (wm Aa ?_));obtain⟨hZ,cH⟩:=AH hC;refine wv (BF (enc:=An) (ys:=ha.1) DR Hq Aa Aa hZ) (wv (AQ HF Aa DG Aa Aa) (wv (Bz DI Aa Aa) (wm Aa ?_)));obtain⟨h0,cI,gu⟩:=AV cH;refine DJ (Hr:=[]) Pt (EP F hg hf hp hx hb.2.1 hb.2.2 ((Ac ha.1 0).fReceipt) later h0 cI) Aa (U3 _) Aa ?_;rintro _ _ ⟨cJ,gv,rfl,rfl⟩;refine wv (B6 Aa Aa) (wm Aa (AL (decide (h0.1=0)) (λhl=>?_) (λhl=>?_)))
         ·have cK:=AZ hl gu;refine wo hl (wm Aa (wo hl (wm Aa (wo hl (wv (BF (enc:=An) (ys:=ha.1) DR Hq Aa Aa hZ) (wo hl (wv (AQ HF Aa DG Aa Aa) (wo hl (wv (Bz DI Aa Aa) (wo hl (wm Aa (wo hl ?_))))))))))));obtain⟨hy,cL,gw⟩:=AV cK;refine DJ (Hr:=[]) Pt (EP F hg hf cJ gv h0.2.1 h0.2.2 ((Ac ha.1 0).fReceipt) later hy cL) Aa (U3 _) Aa ?_;rintro _ _ ⟨cM,hD,rfl,rfl⟩;refine wo hl (wv (B6 Aa Aa) (GI Aa hl Aa (wm Aa (AL (decide (hy.1=5)) (λhm=>?_) (λhm=>?_)))))
          ·have cN:=AZ hm gw;refine wo hm (wm Aa (wo hm (wm Aa (wo hm (wv (BF (enc:=An) (ys:=ha.1) DR Hq Aa Aa hZ) (wo hm (wv (AQ HF Aa CT Aa Aa) (wo hm (wv (AQ CP Aa DG Aa Aa) (wo hm (wv (Bz DI Aa Aa) (wo hm ?_))))))))))));obtain⟨ga,cO,gx⟩:=AV cN;refine DJ (Hr:=[]) Tryz.call13 (P7 F hg hf cM hD hy.2.1 hy.2.2 (((Ac ha.1 0).fEvent).fID) ga cO) Aa (U3 _) Aa ?_;rintro _ _ ⟨rfl,rfl⟩;refine wo hm (wv (CA Aa) (GI Aa hm Aa (wm Aa (AL (!ga) (λhz=>?_) (λhz=>?_)))))
           ·have cP:=AZ hz gx;refine wo hz ?_;obtain⟨gy,cQ,cR⟩:=AV cP;exact IT TM (Gf F gy cQ) Aa (GI Aa hz Aa (wa Aa (Ar (Az (AT ((gy,hy.2.2),hD) cR (AR.c Aa AR.nil) (sS (sS (sS (sC sN)))))))))
           ·have cS:=Ba hz gx;exact wf hz (wv (r:=rB false) (AG (b:=!ga) Aa hz Aa) (wa Aa (Ar (Az (AT ((false,hy.2.2),hD) cS (AR.c Aa AR.nil) (sS (sS (sS (sC sN)))))))))
          ·have cT:=Ba hm gw;exact wf hm (wf hm (wf hm (wf hm (wf hm (wf hm (wf hm (wf hm (wv (r:=rB false) (AG (b:=decide (hy.1=5)) Aa hm Aa) (wm Aa (Ak (b:=false) Aa Aa Aa Aa (wv (r:=rB false) (AG (b:=false) Aa Aa Aa) (wa Aa (Ar (Az (AT ((false,hy.2.2),hD) cT (AR.c Aa AR.nil) (sS (sS (sS (sC sN)))))))))))))))))))
         ·have cU:=Ba hl gu;refine wf hl (wf hl (wf hl (wf hl (wf hl (wf hl (wf hl (wf hl (wv (r:=rB false) (AG (b:=decide (h0.1=0)) Aa hl Aa) (wm Aa (Ak (b:=false) Aa Aa Aa Aa (Ak (b:=false) Aa Aa Aa Aa (Ak (b:=false) Aa Aa Aa Aa (Ak (b:=false) Aa Aa Aa Aa (Ak (b:=false) Aa Aa Aa Aa (Ak (b:=false) Aa Aa Aa Aa (Ak (b:=false) Aa Aa Aa Aa (Ak (b:=false) Aa Aa Aa Aa (wv (r:=rB false) (AG (b:=false) Aa Aa Aa) (wm Aa (Ak (b:=false) Aa Aa Aa Aa (wv (r:=rB false) (AG (b:=false) Aa Aa Aa) (wa Aa (Ar ?_)))))))))))))))))))))));exact Az (AT ((false,h0.2.2),gv) cU (AR.c Aa AR.nil) (sS (sS (sS (sC sN)))))
        ·rintro⟨⟨gz,g0⟩,cV⟩ hE;refine Bh (l':=[(10,rB gz)]) (H':=[.pool hf cV 71 (List.map Ad g0)]) Aa Aa ?_;replace hE:Co gz g0=some r:=hE;unfold Co at hE;refine A5 ?_;obtain rfl:=AC hE;exact A7 (BW Sl (AY Aa)) (sS sN) ⟨Aa,Aa⟩
  ·have cW:=Ba hG gb;obtain⟨cX,cY,cZ⟩:=AV cW;refine IT Tryz.call14 (Lv F p l cX cY) Aa (wa Aa (A3 (Ax (As (wm Aa (wv (r:=rB true) (Qf ⟨_,Oh⟩ Aa) (A3 (BY Aa Aa (As ?_)))))))));obtain⟨xa,xb,xc⟩:=AV cZ;refine IT TM (Gf F xa xb) Aa (wa Aa (A3 (A5 (Am ?_))));obtain rfl:=AC xc;exact A7 (BW Sl (AY Aa)) (sS sN) ⟨Aa,Aa⟩
end Go.Proofs.YthbbedliepkakaaGreatDoor.Q
namespace Go.Proofs.YthbbedliepkakaaGreatDoor.lawQueueReceives
open Go
set_option linter.unusedVariables false
def SK (y:A8):Bool:=(BT .i64) y.fVisible&&(BT .i64) y.fReceives
def Qd (y:Ao):Bool:=(BT .i64) y.fKind&&(BT .i64) y.fInt&&QT y.fStr&&(BT .i64) y.fN
def R5 (y:Aw):Bool:=QT y.fID&&QT y.fTenant&&QT y.fSource&&QT y.fKey&&(BT .i64) y.fAt&&QT y.fCause&&(λys:(List Ao)=>ys.all Qd&&decide (ys.length≤9223372036854775807)) y.fBody
def OF (y:AI):Bool:=(BT .i64) y.fKind&&(BT .i64) y.fNow&&(BT .i64) y.fN&&R5 y.fEvent&&QT y.fReceipt
def Uy:Prop:=∀(y0:A8) (y1:(List AI)) (y2:Int) (y3:Int) (y4:Int) (o0:SK y0=true) (o1:(λys:(List AI)=>ys.all OF&&decide (ys.length≤9223372036854775807)) y1=true) (o2:(BT .i64) y2=true) (o3:(BT .i64) y3=true) (o4:(BT .i64) y4=true),∃F,E0 F y0 y1 y2 y3 y4=some true
end Go.Proofs.YthbbedliepkakaaGreatDoor.lawQueueReceives
namespace Go.Proofs.YthbbedliepkakaaGreatDoor
open Go
set_option linter.unusedVariables false
set_option linter.unusedSimpArgs false
def QS (c:UInt8):Bool:=decide (32≤c.toNat)&&decide (c.toNat≤126)
theorem RY {s:AA}{x:Int}{c:UInt8}(h:s[x.toNat]? =some c):Eb s x=(c.toNat:Int):=by simp[Eb,h]
theorem Kn {α:Type}{p:α→Bool}{s:List α}{k:Nat}{c:α}(h:s[k]? =some c):(s.take (k+1)).all p=((s.take k).all p&&p c):=by
 rw[List.take_add_one,h];simp
theorem LA {α:Type}{p:α→Bool}{s:List α}{k:Nat}{c:α}(h:s[k]? =some c)(hp:p c=false):s.all p=false:=by
 rw[List.all_eq_false];exact⟨c,UE h,by simp[hp]⟩
theorem LN {F:Nat}{s:AA}(hF:s.length<F)(hs:s.length≤9223372036854775807):HK F s=some (s.all QS):=by
 obtain⟨o,h1,h2⟩:=Lr (body:=λσ=>EO s σ) (λx=>0≤x∧x≤(s.length:Int)∧(s.take x.toNat).all QS=true) (λx=>s.length-x.toNat)
  (λo=>BQ (λ_=>EN) o=some (s.all QS)) (λx ⟨h0,hl,ha⟩=>by
   unfold EO
   by_cases hx:x<(s.length:Int)
   ·obtain⟨c,hc⟩:∃c,s[x.toNat]? =some c:=⟨s[x.toNat]'(by omega),U5 (by omega)⟩
    rw[AO (by simpa using hx),BU h0 hx,RY hc]
    cases ho:QS c with
    | false=>
     refine .inr ⟨.ret false,?_,?_⟩
     ·rw[AO];simp only[QS,Vt,U1] at ho;simp only[UV,U2];omega
     ·simp[BQ,LA hc ho]
    | true=>
     refine .inl ⟨x+1,?_,⟨by omega,by omega,?_⟩,by omega⟩
     ·rw[AN,Bb (by omega) (by omega)];simp only[QS,U6,U2] at ho;simp only[UY,U1];omega
     ·rw[show(x+1).toNat=x.toNat+1 from by omega,Kn hc,ha,ho];rfl
   ·refine .inr ⟨.go (),by rw[AN (by simpa using hx)],?_⟩;rw[show x.toNat=s.length from by omega,List.take_length] at ha;simp[BQ,EN,ha]) F 0 ⟨by omega,by omega,by simp⟩ (by simpa using hF)
 unfold HK;rw[AU h1,h2]
theorem Lj (F:Nat)(s:AA):Lk F s=HK F s:=rfl
theorem O7 {F:Nat}{s:AA}(hF:s.length<F)(hs:s.length≤9223372036854775807):Lk F s=some (s.all QS):=by rw[Lj];exact LN hF hs
def pl (c:Ao):Bool:=
 bif decide (c.fKind=1) then(decide (c.fInt=0)&&(decide (c.fStr=[])&&decide (c.fN=0))) else
 bif decide (c.fKind=2) then((decide (c.fInt=0)||decide (c.fInt=1))&&(decide (c.fStr=[])&&decide (c.fN=0))) else
 bif decide (c.fKind=3) then(decide (c.fStr=[])&&decide (c.fN=0)) else
 bif decide (c.fKind=4) then(decide (c.fInt=0)&&(decide (c.fN=0)&&c.fStr.all QS)) else
 bif decide (c.fKind=5) then(decide (c.fInt=0)&&(decide (c.fStr=[])&&decide (0≤c.fN))) else
 bif decide (c.fKind=6) then(decide (c.fInt=0)&&(decide (c.fStr=[])&&decide (0≤c.fN))) else false
theorem Da {α:Type}{p:Bool}{x y:Option α}{a b:α}(h:x=some a)(h':y=some b):B7 p x y=some (bif p then a else b):=by cases p<;>simp[B7,h,h']
theorem Or {F:Nat}{c:Ao}(hF:c.fStr.length<F)(hs:c.fStr.length≤9223372036854775807):JC F c=some (pl c):=by
 unfold JC pl;rw[LN hF hs];refine Da rfl (Da ?_ (Da rfl (Da ?_ (Da rfl (Da rfl rfl)))))
 ·cases h:decide (c.fInt=0)<;>simp
 ·simp[imp,Bn,ov]
def Ja:List Av→List Av
 | []=>[]
 | e::S=>bif decide (1<e.fLeft) then⟨e.fPairs,e.fLeft-1,e.fPairs,e.fLast,e.fStarted⟩::S else Ja S
theorem J5 {α:Type}[Inhabited α](xs:List α)(e:α):Ac (xs++[e]) (xs.length:Int)=e:=by simp[Ac]
theorem HU {α:Type}(xs:List α)(e e':α):List.set (xs++[e]) (Int.toNat (xs.length:Int)) e'=xs++[e']:=by simp
theorem Ii {α:Type}(xs:List α)(e:α):((xs++[e]).length:Int)-1=(xs.length:Int):=by simp
theorem Oz {α:Type}(xs:List α)(e:α):List.take (Int.toNat (xs.length:Int)) (xs++[e])=xs:=by simp
theorem IU:∀(S:List Av) (F:Nat),S.length<F→(∀e∈S,1≤e.fLeft∧e.fLeft≤9223372036854775807)→S.length≤4611686018427387904→
  ∃o,BP (λσ=>CD σ) F S.reverse=some o∧BQ (λν=>Df ν) o=some (Ja S).reverse
 | [],F+1,_,_,_=>⟨.go [],by simp[BP,CD,B7],by simp[BQ,Df,Ja]⟩
 | e::S,F+1,hF,hb,hl=>by
  obtain⟨h1,h2⟩:=hb e (by simp);simp only[UA] at hF hl;have hx:S.reverse.length=S.length:=by simp
  generalize hxs:S.reverse=xs at hx;have hr:(e::S).reverse=xs++[e]:=by simp[hxs]
  rw[hr];have hb1:CD (xs++[e])=bif decide (1<e.fLeft) then some (.out (.ret (xs++[⟨e.fPairs,e.fLeft-1,e.fPairs,e.fLast,e.fStarted⟩]))) else some (.next xs):=by
   unfold CD;rw[AO (by simp)];simp only[Ii,J5,HU,MI];rw[Bb (by omega) (by omega),BU (by omega) (by simp;omega),Bb (by omega) (by omega)]
   cases hd:decide (1<e.fLeft) with
   | true=>
    rw[AO (by simp at hd ⊢;omega)];rfl
   | false=>
    rw[AN (by simp at hd ⊢;omega),Bb (by omega) (by omega),L6 (by omega) (by simp;omega),Oz];rfl
  rw[BP,hb1]
  cases hd:decide (1<e.fLeft) with
  | true=>exact⟨_,rfl,by simp[BQ,Df,Ja,hd,hxs]⟩
  | false=>
   obtain⟨o,ho1,ho2⟩:=IU S F (by omega) (λe he=>hb e (by simp[he])) (by omega);rw[hxs] at ho1;exact⟨o,ho1,by rw[ho2];simp[Ja,hd]⟩
theorem JD {S:List Av}{F:Nat}(hF:S.length<F)(hb:∀e∈S,1≤e.fLeft∧e.fLeft≤9223372036854775807)(hl:S.length≤4611686018427387904):HN F S.reverse=some (Ja S).reverse:=by
 obtain⟨o,h1,h2⟩:=IU S F hF hb hl;unfold HN;rw[AU h1,h2]
def I4 (s:AA):Int:=s.length+2+s.count 34+s.count 92
theorem JB {s:AA}(hs:s.length≤1152921504606846976):GJ s=some (I4 s):=by
 have h1:s.count 34≤s.length:=List.count_le_length;have h2:s.count 92≤s.length:=List.count_le_length;unfold GJ Lib.countByte;rw[Bb (by omega) (by omega),Bb (by omega) (by omega),Bb (by omega) (by omega)];rfl
def SB (c:Ao):Int:=
 bif decide (c.fKind=1) then 4 else bif decide (c.fKind=2) then IntKind.wrap .i64 (5-c.fInt) else bif decide (c.fKind=3) then((Lib.itoa c.fInt).length:Int) else
 bif decide (c.fKind=4) then I4 c.fStr else IntKind.wrap .i64 (2+max 0 (IntKind.wrap .i64 (c.fN-1)))
theorem LO {c:Ao}(hs:c.fStr.length≤1152921504606846976)(hi:BT .i64 c.fInt=true):LP c=some (SB c):=by
 unfold LP SB;rw[JB hs];refine Da rfl (Da rfl (Da ?_ (Da rfl rfl)));rw[Bp hi]
def Gs (d:Nat)(sh:A1)(c:Ao):A1:=
 ⟨max sh.fDepth ((d:Int)+1),IntKind.wrap .i64 (sh.fBytes+SB c),sh.fOutside||(decide (c.fKind=3)&&!(decide ((-1000000000000)≤c.fInt)&&decide (c.fInt≤1000000000000))),sh.fLong||decide (200<(c.fStr.length:Int))⟩
def Ty (sh:A1)(c:Ao):A1:=⟨sh.fDepth,IntKind.wrap .i64 (sh.fBytes+(I4 c.fStr+1)),sh.fOutside,sh.fLong||decide (200<(c.fStr.length:Int))⟩
def IF:List Av→Bool
 | []=>false
 | e::_=>e.fKey
abbrev LG:=List Av×Int×A1
abbrev Sz:=Out (Int×A1×Bool) A1
def MH (n:Int)(S:List Av)(i:Int)(sh:A1)(c:Ao):Stp LG Sz:=
 bif !pl c then .out (.ret (0,sh,false)) else
 match S with
 | e::S'=>
  bif e.fKey then
   bif !decide (c.fKind=4)||(e.fStarted&&(BJ c.fStr e.fLast||decide (c.fStr=e.fLast))) then .out (.ret (0,sh,false))
   else .next ((⟨e.fPairs,e.fLeft,false,c.fStr,true⟩::S').reverse,i+1,Ty sh c)
  else bif decide (0<c.fN) then
   bif decide (n<c.fN) then .out (.ret (0,Gs S.length sh c,false))
   else .next ((⟨decide (c.fKind=6),c.fN,decide (c.fKind=6),[],false⟩::S).reverse,i+1,Gs S.length sh c)
  else bif decide (Ja S=[]) then .out (.ret (i+1,Gs S.length sh c,true)) else .next ((Ja S).reverse,i+1,Gs S.length sh c)
 | []=>
  bif decide (0<c.fN) then
   bif decide (n<c.fN) then .out (.ret (0,Gs 0 sh c,false))
   else .next ([⟨decide (c.fKind=6),c.fN,decide (c.fKind=6),[],false⟩],i+1,Gs 0 sh c)
  else .out (.ret (i+1,Gs 0 sh c,true))
theorem Kd {S:List Av}:decide (((Ja S).reverse.length:Int)=0)=decide (Ja S=[]):=by
 rw[Vd];simp
theorem TE {α:Type}{xs:List α}{e x:α}{M:Nat}(h:xs.length+1≤M)(hM2:(M+2)*48≤140737488355328):JX 48 ((xs++[e]).length+([x]:List α).length)=true:=by
 refine U4 (Nat.le_trans (Nat.mul_le_mul_right 48 ?_) hM2);rw[UG,Vb,Vb];omega
set_option maxHeartbeats 600000 in
theorem LQ {F:Nat}{v:List Ao}{S:List Av}{i:Int}{sh:A1}{c:Ao}(h0:0≤i)(hc:v[i.toNat]? =some c){M:Nat}(hM:M≤1152921504606846976)(hM2:(M+2)*48≤140737488355328)(hv:v.length≤M)(hS:S.length≤M)(hF:M<F)
  (hs:c.fStr.length≤M) (hi:BT .i64 c.fInt=true) (hb:∀e∈S,1≤e.fLeft∧e.fLeft≤9223372036854775807):CC F v S.reverse i sh=some (MH v.length S i sh c):=by
 have hil:i.toNat<v.length:=(List.getElem?_eq_some_iff.1 hc).1;have hat:Ac v i=c:=by simp[Ac,hc]
 unfold CC MH;rw[AO (by simp;omega),BU h0 (by omega),hat,Or (by omega) (by omega),AU rfl]
 cases hp:pl c with
 | false=>rw[AO (by simp)];rfl
 | true=>
  rw[AN (by simp)]
  cases S with
  | nil=>
   rw[Bp (by simp[imp]),Bp (by simp[imp]),AN (by simp),Bb (by simp) (by simp),LO (by omega) hi,AU rfl,Bp (by simp[imp,Bj])];simp only[Bj,ov,UP,UC,U9]
   cases hn:decide (0<c.fN) with
   | true=>
    rw[AO rfl]
    cases hm:decide ((v.length:Int)<c.fN) with
    | true=>rw[AO rfl];simp[Gs]
    | false=>rw[AN rfl,Bp (by simp[JX])];unfold CU;rw[Bb (by omega) (by omega)];simp[Gs]
   | false=>
    rw[AN rfl,AU (JD (S:=[]) (by simp;omega) (by simp) (by simp)),AO (by simp[Ja]),Bb (by omega) (by omega)];simp[Gs]
  | cons e S'=>
   have hx:S'.reverse.length=S'.length:=by simp
   generalize hxs:S'.reverse=xs at hx;have hr:(e::S').reverse=xs++[e]:=by simp[hxs]
   simp only[UA] at hS;have hlen:((xs++[e]).length:Int)=(xs.length:Int)+1:=by simp
   rw[hr,Bp (by simp only[imp,Ii];rw[Ij (by omega) (by omega)];simp),Bp (by simp only[imp,Ii];rw[Qx (by omega) (by omega)];simp)];rw[Ii,J5]
   cases hk:e.fKey with
   | true=>
    rw[AO (by simp),Bb (by omega) (by omega),BU (by omega) (by omega)];simp only[hk,UC,U9,UF]
    cases ht : !decide (c.fKind=4)||(e.fStarted&&(BJ c.fStr e.fLast||decide (c.fStr=e.fLast))) with
    | true=>rw[AO rfl];rfl
    | false=>
     rw[AN rfl,HU,MI,J5,HU,MI,J5,HU,MI,JB (by omega),AU rfl,Bb (by unfold I4;omega) (by unfold I4;have:=@List.count_le_length UInt8 _ 34 c.fStr;have:=@List.count_le_length UInt8 _ 92 c.fStr;omega)];unfold CU;rw[Bb (by omega) (by omega)];simp[Ty,hxs]
   | false=>
    rw[AN (by simp),hlen,Bb (by omega) (by omega),LO (by omega) hi,AU rfl,Bp (by simp[imp,Bj])];simp only[hk,Bj,ov,UP,UC,U9,UF]
    cases hn:decide (0<c.fN) with
    | true=>
     rw[AO rfl]
     cases hm:decide ((v.length:Int)<c.fN) with
     | true=>rw[AO rfl];simp[Gs,hx]
     | false=>rw[AN rfl,Bp (TE (by omega) hM2)];unfold CU;rw[Bb (by omega) (by omega)];simp[Gs,hx,hxs]
    | false=>
     have hcl:=JD (S:=e::S') (F:=F) (by simp;omega) hb (by simp;omega);rw[hr] at hcl;rw[AN rfl,hcl,AU rfl,Kd]
     cases hq:decide (Ja (e::S')=[]) with
     | true=>rw[AO rfl,Bb (by omega) (by omega)];simp[Gs,hx]
     | false=>rw[AN rfl];unfold CU;rw[Bb (by omega) (by omega)];simp[Gs,hx]
section
variable {S O : Type} {body : S → Option (Stp S O)} {s t u : S} {o : O}
def Dc (body:S→Option (Stp S O))(s t:S):Prop:=∃k,∀n,BP body (n+k) s=BP body n t
def Fin (body:S→Option (Stp S O))(s:S)(o:O):Prop:=∃k,∀n,BP body (n+k) s=some o
theorem Dc.refl (s:S):Dc body s s:=⟨0,λ_=>rfl⟩
theorem Dc.trans (h:Dc body s t)(h':Dc body t u):Dc body s u:=by
 obtain⟨k,hk⟩:=h;obtain⟨j,hj⟩:=h';exact⟨j+k,λn=>by rw[← Nat.add_assoc,hk,hj]⟩
theorem Dc.step (h:body s=some (.next t)):Dc body s t:=⟨1,λn=>by rw[BP,h]⟩
theorem Fin.step (h:body s=some (.out o)):Fin body s o:=⟨1,λn=>by rw[BP,h]⟩
theorem Dc.fin (h:Dc body s t)(h':Fin body t o):Fin body s o:=by
 obtain⟨k,hk⟩:=h;obtain⟨j,hj⟩:=h';exact⟨j+k,λn=>by rw[← Nat.add_assoc,hk,hj]⟩
end
inductive Fo where
 | nil
 | cell (k:Option AA) (c:Ao) (r:Fo)
 | node (k:Option AA) (c:Ao) (kids r:Fo)
def Cs:Option AA→List Ao
 | none=>[]
 | some s=>[⟨4,0,s,0⟩]
def Fo.flat:Fo→List Ao
 | .nil=>[]
 | .cell k c r=>Cs k++c::r.flat
 | .node k c kids r=>Cs k++c::(kids.flat++r.flat)
def Fo.cnt:Fo→Nat
 | .nil=>0
 | .cell _ _ r=>r.cnt+1
 | .node _ _ _ r=>r.cnt+1
def DA (m:Bool)(last:Option AA):Option AA→Bool
 | none=>!m
 | some s=>m&&s.all QS&&(match last with
  | none=>true
  | some p=>!(BJ s p||decide (s=p)))
def Fo.wf:Bool→Option AA→Fo→Bool
 | _,_,.nil=>true
 | m,last,.cell k c r=>DA m last k&&pl c&&!decide (0<c.fN)&&r.wf m k
 | m,last,.node k c kids r=>DA m last k&&pl c&&decide (0<c.fN)&&decide (c.fN=kids.cnt)&&kids.wf (decide (c.fKind=6)) none&&r.wf m k
def IX (k:Option AA)(sh:A1):A1:=match k with
 | none=>sh
 | some s=>Ty sh ⟨4,0,s,0⟩
def Fo.sh (d:Nat):A1→Fo→A1
 | s,.nil=>s
 | s,.cell k c r=>r.sh d (Gs d (IX k s) c)
 | s,.node k c kids r=>r.sh d (kids.sh (d+1) (Gs d (IX k s) c))
def EM (body:LG→Option (Stp LG Sz))(s:LG)(S:List Av)(i:Int)(sh:A1):Prop:=
 if Ja S=[] then Fin body s (.ret (i,sh,true)) else Dc body s ((Ja S).reverse,i,sh)
theorem EM.of {body:LG→Option (Stp LG Sz)}{s t:LG}{S:List Av}{i:Int}{sh:A1}(h:Dc body s t)(h':EM body t S i sh):EM body s S i sh:=by
 unfold EM at *
 split
 ·rename_i e;rw[UM e] at h';exact h.fin h'
 ·rename_i e;rw[UD e] at h';exact h.trans h'
theorem EM.pop {body:LG→Option (Stp LG Sz)}{s:LG}{e:Av}{S:List Av}{i:Int}{sh:A1}(h:EM body s (e::S) i sh)(h1:e.fLeft=1):EM body s S i sh:=by
 have:Ja (e::S)=Ja S:=by simp[Ja,h1]
 unfold EM at *;rw[this] at h;exact h
theorem EM.more {body:LG→Option (Stp LG Sz)}{s:LG}{e:Av}{S:List Av}{i:Int}{sh:A1}(h:EM body s (e::S) i sh)(h1:1<e.fLeft):Dc body s ((⟨e.fPairs,e.fLeft-1,e.fPairs,e.fLast,e.fStarted⟩::S).reverse,i,sh):=by
 have:Ja (e::S)=⟨e.fPairs,e.fLeft-1,e.fPairs,e.fLast,e.fStarted⟩::S:=by simp[Ja,h1]
 unfold EM at *;rw[this,UD (by simp)] at h;exact h
structure Oe (F M:Nat) (v:List Ao):Prop where
 hM:M≤1152921504606846976
 hM2:(M+2)*48≤140737488355328
 hv:v.length≤M
 hF:M<F
 hc:∀c∈v,c.fStr.length≤M∧BT .i64 c.fInt=true∧c.fN≤9223372036854775807
abbrev Mv (F:Nat)(v:List Ao):LG→Option (Stp LG Sz):=λσ=>CC F v σ.1 σ.2.1 σ.2.2
def CE (S:List Av):Prop:=∀e∈S,1≤e.fLeft∧e.fLeft≤9223372036854775807
section
variable {F M : Nat} {v : List Ao} {S : List Av} {i : Int} {sh : A1} {c : Ao} {r : List Ao} {e : Av}
theorem D3 (h0:0≤i)(h:v.drop i.toNat=c::r):v[i.toNat]? =some c∧v.drop (i+1).toNat=r∧i<v.length:=by
 have h1:(v.drop i.toNat)[0]? =some c:=by rw[h];rfl
 have h2:v[i.toNat]? =some c:=by simpa using h1
 have h3:=(List.getElem?_eq_some_iff.1 h2).1;refine⟨h2,?_,by omega⟩;rw[show(i+1).toNat=i.toNat+1 from by omega,← List.drop_drop,h];rfl
theorem round (hA:Oe F M v)(h0:0≤i)(h:v.drop i.toNat=c::r)(hS:(S.length:Int)≤i)(hb:CE S):Mv F v (S.reverse,i,sh)=some (MH v.length S i sh c):=by
 obtain⟨h1,_,h3⟩:=D3 h0 h;obtain⟨a,b,_⟩:=hA.hc c (UE h1);have:=hA.hv;exact LQ h0 h1 hA.hM hA.hM2 hA.hv (by omega) hA.hF a b hb
def Ej (e:Av):Option AA→Av
 | none=>e
 | some s=>⟨e.fPairs,e.fLeft,false,s,true⟩
def G6 (e:Av):Option AA→Prop
 | none=>e.fStarted=false
 | some p=>e.fStarted=true∧e.fLast=p
theorem JW (hA:Oe F M v)(h0:0≤i){k last:Option AA}(h:v.drop i.toNat=Cs k++r)(hS:(S.length:Int)+1≤i)(hb:CE (e::S))(hk:DA e.fKey last k=true)(hl:G6 e last) :
  Dc (Mv F v) ((e::S).reverse,i,sh) ((Ej e k::S).reverse,i+(Cs k).length,IX k sh):=by
 cases k with
 | none=>simpa[Ej,Cs,IX] using Dc.refl _
 | some s=>
  simp only[DA,U6] at hk;obtain⟨⟨hm,hok⟩,hcmp⟩:=hk;refine Dc.step ?_;rw[round hA h0 (by simpa[Cs] using h) (by simpa using hS) hb];have hp:pl ⟨4,0,s,0⟩=true:=by simp[pl,hok]
  have ht:(e.fStarted&&(BJ s e.fLast||decide (s=e.fLast)))=false:=by
   cases last with
   | none=>simp only[G6] at hl;rw[hl];rfl
   | some p=>obtain⟨h1,h2⟩:=hl;rw[h1,h2];simpa using hcmp
  simp only[MH,hp,hm,ht,UC,U9,UF,decide_true,UX,Bool.or_self];rfl
theorem IE {k last:Option AA}(hk:DA e.fKey last k=true):(Ej e k).fKey=false:=by
 cases k with
 | none=>simpa[Ej,DA] using hk
 | some s=>rfl
theorem H8 (k:Option AA):(Ej e k).fLeft=e.fLeft∧(Ej e k).fPairs=e.fPairs:=by cases k<;>exact⟨rfl,rfl⟩
theorem IC (hA:Oe F M v)(h0:0≤i)(h:v.drop i.toNat=c::r)(hS:(S.length:Int)≤i)(hb:CE S)(hk:IF S=false)(hp:pl c=true)(hn:decide (0<c.fN)=false) :
  EM (Mv F v) (S.reverse,i,sh) S (i+1) (Gs S.length sh c):=by
 have hr:=round (sh:=sh) hA h0 h hS hb;unfold EM
 cases S with
 | nil=>
  rw[UM (by simp[Ja])];refine Fin.step ?_;rw[hr];simp[MH,hp,hn]
 | cons e S=>
  simp only[IF] at hk
  split
  ·rename_i hc
   refine Fin.step ?_;rw[hr];simp[MH,hp,hn,hk,hc]
  ·rename_i hc
   refine Dc.step ?_;rw[hr];simp[MH,hp,hn,hk,hc]
theorem GO (hA:Oe F M v)(h0:0≤i)(h:v.drop i.toNat=c::r)(hS:(S.length:Int)≤i)(hb:CE S)(hk:IF S=false)(hp:pl c=true)(hn:decide (0<c.fN)=true)(hv:c.fN≤v.length) :
  Dc (Mv F v) (S.reverse,i,sh) ((⟨decide (c.fKind=6),c.fN,decide (c.fKind=6),[],false⟩::S).reverse,i+1,Gs S.length sh c):=by
 have hr:=round (sh:=sh) hA h0 h hS hb;have hv':decide ((v.length:Int)<c.fN)=false:=by simpa using hv
 refine Dc.step ?_;rw[hr]
 cases S with
 | nil=>simp only[MH,hp,hn,hv',UC,U9,UF];rfl
 | cons e S=>
  simp only[IF] at hk;simp only[MH,hp,hn,hv',hk,UC,U9,UF]
theorem CI:∀f:Fo,f.cnt≤f.flat.length
 | .nil=>UI _
 | .cell k c r=>by have:=CI r;simp[Fo.cnt,Fo.flat];omega
 | .node k c kids r=>by have:=CI r;simp[Fo.cnt,Fo.flat];omega
theorem E3 {α:Type}{v xs r:List α}{i:Int}(h0:0≤i)(h:v.drop i.toNat=xs++r):v.drop (i+xs.length).toNat=r:=by
 rw[show(i+(xs.length:Int)).toNat=i.toNat+xs.length from by omega,← List.drop_drop,h,List.drop_left]
theorem Me (hA:Oe F M v){e':Av}{s:LG}{k:Option AA}{r':Fo}
  (ih:∀(e:Av) (S:List Av) (i:Int) (sh:A1) (last:Option AA) (r:List Ao),1≤r'.cnt→r'.wf e.fPairs last=true→e.fKey=e.fPairs→e.fLeft=r'.cnt→G6 e last→(e.fPairs=false→last=none)→v.drop i.toNat=r'.flat++r→0≤i→(S.length:Int)+1≤i→CE S→
   EM (Mv F v) ((e::S).reverse,i,sh) S (i+r'.flat.length) (r'.sh (S.length+1) sh))
  (hd:EM (Mv F v) s (e'::S) i sh) (hl:e'.fLeft=r'.cnt+1) (hw:r'.wf e'.fPairs k=true) (hk:G6 e' k) (hm:e'.fPairs=false→k=none) (hv:v.drop i.toNat=r'.flat++r) (h0:0≤i) (hS:(S.length:Int)+1≤i) (hb:CE S) :
  EM (Mv F v) s S (i+r'.flat.length) (r'.sh (S.length+1) sh):=by
 by_cases h1:r'.cnt=0
 ·cases r' with
  | nil=>simpa[Fo.flat,Fo.sh] using hd.pop (by rw[hl];rfl)
  | cell _ _ _=>simp[Fo.cnt] at h1
  | node _ _ _ _=>simp[Fo.cnt] at h1
 ·have:=hd.more (by omega);refine EM.of this (ih _ S i sh k r (by omega) hw rfl (by simp only;omega) ?_ hm hv h0 hS hb)
  cases k with
  | none=>exact hk
  | some p=>exact hk
theorem H9 {k last:Option AA}(hl:G6 e last)(hm:e.fPairs=false→last=none)(hk:DA e.fPairs last k=true):G6 (Ej e k) k∧((Ej e k).fPairs=false→k=none):=by
 cases k with
 | none=>
  have:e.fPairs=false:=by simpa[DA] using hk
  rw[hm this] at hl;exact⟨hl,λ_=>rfl⟩
 | some s=>
  refine⟨⟨rfl,rfl⟩,λh=>?_⟩;have h:e.fPairs=false:=h;simp[DA,h] at hk
theorem IZ (hA:Oe F M v):∀(f:Fo) (e:Av) (S:List Av) (i:Int) (sh:A1) (last:Option AA) (r:List Ao),1≤f.cnt→f.wf e.fPairs last=true→e.fKey=e.fPairs→e.fLeft=f.cnt→G6 e last→(e.fPairs=false→last=none)→v.drop i.toNat=f.flat++r→0≤i→(S.length:Int)+1≤i→CE S→
   EM (Mv F v) ((e::S).reverse,i,sh) S (i+f.flat.length) (f.sh (S.length+1) sh):=by
 have hmax:∀(i:Int) (xs:List Ao),0≤i→v.drop i.toNat=xs→xs.length≤v.length:=λi xs _ h=>by rw[← h,List.length_drop];omega
 intro f
 induction f with
 | nil=>intro e S i sh last r h1;simp[Fo.cnt] at h1
 | cell k c r' ih=>
  intro e S i sh last r h1 hw hk hl hlo hm hv h0 hS hb;simp only[Fo.wf,U6,UK] at hw;obtain⟨⟨⟨w1,w2⟩,w3⟩,w4⟩:=hw;simp only[Fo.flat,Vg,List.cons_append] at hv;have hcnt:=hmax i _ h0 hv;have hcf:=CI r';simp only[UG,UA] at hcnt;have hvM:=hA.hv;have hMM:=hA.hM;simp only[Fo.cnt] at hl;have hb':CE (e::S):=λx hx=>by
   rcases List.mem_cons.1 hx with rfl | hx
   ·constructor<;>omega
   ·exact hb x hx
  have hkr:=JW (sh:=sh) hA h0 hv hS hb' (by rw[hk];exact w1) hlo;have hv1:=E3 h0 hv;obtain⟨kl,kp⟩:=H8 (e:=e) k;have hbk:CE (Ej e k::S):=λx hx=>by
   rcases List.mem_cons.1 hx with rfl | hx
   ·rw[kl];exact hb' e (by simp)
   ·exact hb x hx
  have hd:=IC (sh:=IX k sh) hA (by omega) hv1 (by simp only[UA];omega) hbk (IE (by rw[hk];exact w1)) w2 w3;obtain⟨q1,q2⟩:=H9 hlo hm w1;have hv2:=(D3 (by omega) hv1).2.1;have:=Me hA ih (hd.of hkr) (by rw[kl,hl];rfl) (by rw[kp];exact w4) q1 q2 hv2 (by omega) (by omega) hb;simp only[Fo.flat,Fo.sh,UG,UA];rw[show i+((((Cs k).length+(r'.flat.length+1):Nat)):Int)=i+(Cs k).length+1+r'.flat.length from by omega];exact this
 | node k c kids r' ihk ih=>
  intro e S i sh last r h1 hw hk hl hlo hm hv h0 hS hb;simp only[Fo.wf,U6,U2] at hw;obtain⟨⟨⟨⟨⟨w1,w2⟩,w3⟩,w5⟩,w6⟩,w4⟩:=hw;simp only[Fo.flat,Vg,List.cons_append] at hv;have hcnt:=hmax i _ h0 hv;have hcf:=CI r';have hck:=CI kids;simp only[UG,UA] at hcnt;have hvM:=hA.hv;have hMM:=hA.hM;simp only[Fo.cnt] at hl;have hb':CE (e::S):=λx hx=>by
   rcases List.mem_cons.1 hx with rfl | hx
   ·constructor<;>omega
   ·exact hb x hx
  have hkr:=JW (sh:=sh) hA h0 hv hS hb' (by rw[hk];exact w1) hlo;have hv1:=E3 h0 hv;obtain⟨kl,kp⟩:=H8 (e:=e) k;have hbk:CE (Ej e k::S):=λx hx=>by
   rcases List.mem_cons.1 hx with rfl | hx
   ·rw[kl];exact hb' e (by simp)
   ·exact hb x hx
  have hn:=GO (sh:=IX k sh) hA (by omega) hv1 (by simp only[UA];omega) hbk (IE (by rw[hk];exact w1)) w2 (by simpa using w3) (by omega);have hv2:=(D3 (by omega) hv1).2.1;have hd:=ihk ⟨decide (c.fKind=6),c.fN,decide (c.fKind=6),[],false⟩ (Ej e k::S) (i+(Cs k).length+1) (Gs (S.length+1) (IX k sh) c) none _ (by omega) w6 rfl w5 rfl (λ_=>rfl) hv2 (by omega) (by simp only[UA];omega) hbk;obtain⟨q1,q2⟩:=H9 hlo hm w1;have hv3:=E3 (by omega) hv2;have:=Me hA ih ((hd.of hn).of hkr) (by rw[kl,hl];rfl) (by rw[kp];exact w4) q1 q2 hv3 (by omega) (by omega) hb;simp only[Fo.flat,Fo.sh,UG,UA];rw[show i+((((Cs k).length+(kids.flat.length+r'.flat.length+1):Nat)):Int)=i+(Cs k).length+1+kids.flat.length+r'.flat.length from by omega];exact this
end
theorem Mt {S O:Type}{body:S→Option (Stp S O)}{o:O}:∀{n:Nat} {s:S} (k:Nat),BP body n s=some o→BP body (n+k) s=some o
 | 0,s,k,h=>by cases h
 | n+1,s,k,h=>by
  rw[show n+1+k=n+k+1 from by omega,BP];rw[BP] at h
  cases hb:body s with
  | none=>rw[hb] at h;cases h
  | some t=>
   rw[hb] at h
   cases t with
   | next s'=>exact Mt k h
   | out o'=>exact h
theorem Fin.eq {S O:Type}{body:S→Option (Stp S O)}{s:S}{o o':O}{n:Nat}(h:Fin body s o)(h':BP body n s=some o'):o'=o:=by
 obtain⟨k,hk⟩:=h;have:=Mt k h';rw[hk n] at this;exact(AC this).symm
theorem KN:∀{S:List Av},CE S→CE (Ja S)∧(Ja S).length≤S.length
 | [],h=>⟨h,UI _⟩
 | e::S,h=>by
  have hS:CE S:=λx hx=>h x (by simp[hx]);have he:=h e (by simp);unfold Ja
  cases hd:decide (1<e.fLeft) with
  | true=>
   simp only[U2] at hd;refine⟨λx hx=>?_,by simp⟩;rcases List.mem_cons.1 hx with rfl | hx
   ·simp only;omega
   ·exact hS x hx
  | false=>
   obtain⟨h1,h2⟩:=KN hS;exact⟨h1,by simp only[U9,UA];omega⟩
theorem Qr {n:Int}{S:List Av}{i:Int}{sh:A1}{c:Ao}{σ:LG}(hb:CE S)(hS:(S.length:Int)≤i)(hN:c.fN≤9223372036854775807)(h:MH n S i sh c = .next σ):∃S' sh',σ=(S'.reverse,i+1,sh')∧CE S'∧(S'.length:Int)≤i+1:=by
 unfold MH at h
 cases hp:pl c with
 | false=>simp[hp] at h
 | true=>
  simp only[hp,UC,U9] at h
  cases S with
  | nil=>
   simp only at h
   cases hn:decide (0<c.fN) with
   | false=>simp[hn] at h
   | true=>
    simp only[hn,UF] at h
    cases hm:decide (n<c.fN) with
    | true=>simp[hm] at h
    | false=>
     simp only[hm,U9,Stp.next.injEq] at h;refine⟨[_],_,h.symm,λx hx=>?_,by simp at hS ⊢;omega⟩;simp only[UL] at hx;subst hx;simp only[U2] at hn;exact⟨by simp only;omega,hN⟩
  | cons e S=>
   have he:=hb e (by simp);have hbS:CE S:=λx hx=>hb x (by simp[hx]);simp only[UA] at hS
   cases hk:e.fKey with
   | true=>
    simp only[hk,UF] at h
    cases hq:(!decide (c.fKind=4)||(e.fStarted&&(BJ c.fStr e.fLast||decide (c.fStr=e.fLast)))) with
    | true=>rw[hq] at h;simp at h
    | false=>
     rw[hq] at h;simp only[U9,Stp.next.injEq] at h;refine⟨_::S,_,h.symm,λx hx=>?_,by simp only[UA];omega⟩;rcases List.mem_cons.1 hx with rfl | hx
     ·exact he
     ·exact hbS x hx
   | false=>
    simp only[hk,U9] at h
    cases hn:decide (0<c.fN) with
    | true=>
     simp only[hn,UF] at h
     cases hm:decide (n<c.fN) with
     | true=>simp[hm] at h
     | false=>
      simp only[hm,U9,Stp.next.injEq] at h;refine⟨_::e::S,_,h.symm,λx hx=>?_,by simp only[UA];omega⟩;rcases List.mem_cons.1 hx with rfl | hx
      ·simp only[U2] at hn;exact⟨by simp only;omega,hN⟩
      ·exact hb x hx
    | false=>
     simp only[hn,U9] at h
     cases hq:decide (Ja (e::S)=[]) with
     | true=>rw[hq] at h;simp at h
     | false=>
      rw[hq] at h;simp only[U9,Stp.next.injEq] at h;obtain⟨h1,h2⟩:=KN hb;simp only[UA] at h2;exact⟨_,_,h.symm,h1,by omega⟩
theorem JS {F M:Nat}{v:List Ao}(hA:Oe F M v):∃o,BP (Mv F v) F (([]:List Av),0,(⟨0,0,false,false⟩:A1))=some o∧True:=by
 refine Lr (λσ=>∃S i sh,σ=(S.reverse,i,sh)∧CE S∧(S.length:Int)≤i∧0≤i∧i≤v.length) (λσ=>v.length-σ.2.1.toNat) (λ_=>True) (λσ hI=>?_) F _ ⟨[],0,_,rfl,(λx hx=>by cases hx),Vi _,Vi _,by omega⟩ (by have:=hA.hv;have:=hA.hF;simp;omega);obtain⟨S,i,sh,rfl,hb,hS,h0,hi⟩:=hI
 by_cases hx:i<v.length
 ·obtain⟨c,hc⟩:∃c,v[i.toNat]? =some c:=⟨v[i.toNat]'(by omega),U5 (by omega)⟩
  have hdr:v.drop i.toNat=c::v.drop (i.toNat+1):=by rw[List.drop_eq_getElem_cons (by omega)];congr 1;exact(List.getElem?_eq_some_iff.1 hc).2
  have hr:=round (sh:=sh) hA h0 hdr hS hb
  cases hl:MH v.length S i sh c with
  | next τ=>
   obtain⟨S',sh',rfl,h1,h2⟩:=Qr hb hS (hA.hc c (UE hc)).2.2 hl;exact .inl ⟨_,by rw[hr,hl],⟨S',i+1,sh',rfl,h1,h2,by omega,by omega⟩,by simp only;omega⟩
  | out o=>exact .inr ⟨o,by rw[hr,hl],trivial⟩
 ·refine .inr ⟨.go sh,?_,trivial⟩;show CC F v S.reverse i sh=_;unfold CC;rw[AN (by simpa using hx)]
def Fo.one:Fo→Bool
 | .cell none _ .nil=>true
 | .node none _ _ .nil=>true
 | _=>false
def Kk:A1:=⟨0,0,false,false⟩
theorem Qq {F M:Nat}{v:List Ao}(hA:Oe F M v){f:Fo}(h1:f.one=true)(hw:f.wf false none=true){r:List Ao}(hv:v=f.flat++r):Fin (Mv F v) ([],0,Kk) (.ret (f.flat.length,f.sh 0 Kk,true)):=by
 have h0:v.drop (0:Int).toNat=f.flat++r:=by rw[hv];rfl
 have hlen:f.flat.length≤v.length:=by rw[hv];simp
 cases f with
 | nil=>cases h1
 | cell k c r'=>
  cases k with
  | some s=>cases h1
  | none=>
   cases r' with
   | nil=>
    simp only[Fo.wf,U6,UK] at hw;have:=IC (S:=[]) (sh:=Kk) hA (Vi 0) h0 (by simp) (λx hx=>by cases hx) rfl hw.1.1.2 hw.1.2;unfold EM at this;rw[UM (show Ja []=[] from rfl)] at this;simpa[Fo.flat,Fo.sh,Cs,IX] using this
   | cell _ _ _=>cases h1
   | node _ _ _ _=>cases h1
 | node k c kids r'=>
  cases k with
  | some s=>cases h1
  | none=>
   cases r' with
   | nil=>
    simp only[Fo.wf,U6,U2] at hw;obtain⟨⟨⟨⟨⟨w1,w2⟩,w3⟩,w5⟩,w6⟩,w4⟩:=hw;have hck:=CI kids;simp only[Fo.flat,Cs,List.nil_append,List.append_nil,UA] at hlen;have hvM:=hA.hv;have hMM:=hA.hM;have hn:=GO (S:=[]) (sh:=Kk) hA (Vi 0) h0 (by simp) (λx hx=>by cases hx) rfl w2 (by simpa using w3) (by omega);have hv2:=(D3 (Vi 0) h0).2.1;have hd:=IZ hA kids ⟨decide (c.fKind=6),c.fN,decide (c.fKind=6),[],false⟩ [] (0+1) (Gs 0 Kk c) none r (by omega) w6 rfl w5 rfl (λ_=>rfl) (by rw[hv2];simp[Fo.flat]) (by omega) (by simp) (λx hx=>by cases hx);unfold EM at hd;rw[UM (show Ja []=[] from rfl)] at hd;have:=hn.fin hd;have e:((0:Int)+1+kids.flat.length)=((Fo.node none c kids .nil).flat.length:Int):=by simp[Fo.flat,Cs];omega
    rw[e] at this;exact this
   | cell _ _ _=>cases h1
   | node _ _ _ _=>cases h1
theorem Qp {F M:Nat}{v:List Ao}(hA:Oe F M v){f:Fo}(h1:f.one=true)(hw:f.wf false none=true){r:List Ao}(hv:v=f.flat++r):HM F v=some ((f.flat.length:Int),f.sh 0 Kk,true):=by
 obtain⟨o,ho,_⟩:=JS hA;have e:=(Qq hA h1 hw hv).eq ho;subst e;unfold HM;rw[AU ho];rfl
def Gt (m:Bool)(last:Option AA)(xs:List Ao):Option (Option AA×List Ao):=
 bif m then match xs with
  | []=>none
  | c::r=>bif pl c&&decide (c.fKind=4)&&DA true last (some c.fStr) then some (some c.fStr,r) else none
 else some (none,xs)
def EZ:Nat→Bool→Option AA→Nat→List Ao→Option (Fo×List Ao)
 | 0,_,_,_,_=>none
 | _+1,_,_,0,xs=>some (.nil,xs)
 | F+1,m,last,k+1,xs=>
  match Gt m last xs with
  | none=>none
  | some (_,[])=>none
  | some (key,c::xs')=>
   bif !pl c then none else
   bif decide (0<c.fN) then
    match EZ F (decide (c.fKind=6)) none c.fN.toNat xs' with
    | none=>none
    | some (kids,ys)=>match EZ F m key k ys with
     | none=>none
     | some (r,zs)=>some (.node key c kids r,zs)
   else match EZ F m key k xs' with
    | none=>none
    | some (r,zs)=>some (.cell key c r,zs)
theorem Lm {c:Ao}(hp:pl c=true)(hk:c.fKind=4):c=⟨4,0,c.fStr,0⟩∧c.fStr.all QS=true:=by
 cases c
 simp only at hk;subst hk;simp[pl] at hp;obtain⟨h1,h2,h3⟩:=hp;subst h1;subst h2;exact⟨rfl,by simpa using h3⟩
theorem Jy {m:Bool}{last key:Option AA}{xs r:List Ao}(h:Gt m last xs=some (key,r)):xs=Cs key++r∧DA m last key=true:=by
 unfold Gt at h
 cases m with
 | false=>cases h;exact⟨rfl,rfl⟩
 | true=>
  simp only[UF] at h
  cases xs with
  | nil=>cases h
  | cons c r'=>
   simp only at h
   cases hb:(pl c&&decide (c.fKind=4)&&DA true last (some c.fStr)) with
   | false=>rw[hb] at h;cases h
   | true=>
    rw[hb] at h;simp only[U6,U2] at hb
    cases h
    exact⟨by rw[(Lm hb.1.1 hb.1.2).1];rfl,hb.2⟩
theorem EJ:∀(F:Nat) (m:Bool) (last:Option AA) (k:Nat) (xs:List Ao) (f:Fo) (ys:List Ao),EZ F m last k xs=some (f,ys)→xs=f.flat++ys∧f.wf m last=true∧f.cnt=k
 | 0,_,_,_,_,_,_,h=>by cases h
 | F+1,m,last,0,xs,f,ys,h=>by cases h;exact⟨rfl,rfl,rfl⟩
 | F+1,m,last,k+1,xs,f,ys,h=>by
  rw[EZ] at h
  cases hk:Gt m last xs with
  | none=>rw[hk] at h;cases h
  | some p=>
   obtain⟨key,r⟩:=p;obtain⟨h1,h2⟩:=Jy hk;rw[hk] at h
   cases r with
   | nil=>cases h
   | cons c xs'=>
    simp only at h
    cases hp:pl c with
    | false=>rw[hp] at h;cases h
    | true=>
     rw[hp] at h;simp only[UC,U9] at h
     cases hn:decide (0<c.fN) with
     | true=>
      rw[hn] at h;simp only[UF] at h
      cases hq:EZ F (decide (c.fKind=6)) none c.fN.toNat xs' with
      | none=>rw[hq] at h;cases h
      | some q=>
       obtain⟨kids,zs⟩:=q;rw[hq] at h;simp only at h
       cases hr:EZ F m key k zs with
       | none=>rw[hr] at h;cases h
       | some q2=>
        obtain⟨r2,us⟩:=q2;rw[hr] at h;cases h;obtain⟨a1,a2,a3⟩:=EJ F _ _ _ _ _ _ hq;obtain⟨b1,b2,b3⟩:=EJ F _ _ _ _ _ _ hr;refine⟨by rw[h1,a1,b1];simp[Fo.flat],?_,by simp[Fo.cnt,b3]⟩;simp only[U2] at hn;simp only[Fo.wf,h2,hp,a2,b2,UU,UN,U6,U2];omega
     | false=>
      rw[hn] at h;simp only[U9] at h
      cases hr:EZ F m key k xs' with
      | none=>rw[hr] at h;cases h
      | some q2=>
       obtain⟨r2,us⟩:=q2;rw[hr] at h;cases h;obtain⟨b1,b2,b3⟩:=EJ F _ _ _ _ _ _ hr;exact⟨by rw[h1,b1];simp[Fo.flat],by simp[Fo.wf,h2,hp,b2,hn],by simp[Fo.cnt,b3]⟩
theorem ES:∀(F F':Nat) (m:Bool) (last:Option AA) (k:Nat) (xs:List Ao),xs.length<F→xs.length<F'→EZ F m last k xs=EZ F' m last k xs
 | 0,_,_,_,_,_,h,_=>by omega
 | _+1,0,_,_,_,_,_,h=>by omega
 | F+1,F'+1,m,last,0,xs,_,_=>rfl
 | F+1,F'+1,m,last,k+1,xs,h,h'=>by
  rw[EZ,EZ]
  cases hk:Gt m last xs with
  | none=>rfl
  | some p=>
   obtain⟨key,r⟩:=p;obtain⟨h1,h2⟩:=Jy hk
   cases r with
   | nil=>rfl
   | cons c xs'=>
    have hl:xs'.length<xs.length:=by rw[h1];simp;omega
    simp only
    cases hp:pl c with
    | false=>rfl
    | true=>
     simp only[UC,U9]
     cases hn:decide (0<c.fN) with
     | true=>
      simp only[UF];rw[ES F F' _ _ _ xs' (by omega) (by omega)]
      cases hq:EZ F' (decide (c.fKind=6)) none c.fN.toNat xs' with
      | none=>rfl
      | some q=>
       obtain⟨kids,zs⟩:=q;have:=(EJ _ _ _ _ _ _ _ hq).1;have hz:zs.length≤xs'.length:=by rw[this];simp
       simp only;rw[ES F F' m key k zs (by omega) (by omega)]
     | false=>
      simp only[U9];rw[ES F F' m key k xs' (by omega) (by omega)]
def Nv {S:Type}(body:S→Option (Stp S Sz))(s:S):Prop:=∃sh',Fin body s (.ret (0,sh',false))∨Fin body s (.go sh')
theorem Dc.bad {S:Type}{body:S→Option (Stp S Sz)}{s t:S}(h:Dc body s t)(h':Nv body t):Nv body s:=by
 obtain⟨sh',h' | h'⟩:=h'
 ·exact⟨sh',.inl (h.fin h')⟩
 ·exact⟨sh',.inr (h.fin h')⟩
section
variable {F M : Nat} {v : List Ao}
theorem Nv.end_ {S:List Av}{i:Int}{sh:A1}(h0:0≤i)(h:v.drop i.toNat=[]):Nv (Mv F v) (S.reverse,i,sh):=by
 refine⟨sh,.inr (Fin.step ?_)⟩;show CC F v S.reverse i sh=_;unfold CC;rw[AN];have:v.length≤i.toNat:=by simpa using h
 simp;omega
theorem Nv.pl_ (hA:Oe F M v){S:List Av}{i:Int}{sh:A1}{c:Ao}{r:List Ao}(h0:0≤i)(h:v.drop i.toNat=c::r)(hS:(S.length:Int)≤i)(hb:CE S)(hp:pl c=false):Nv (Mv F v) (S.reverse,i,sh):=by
 refine⟨sh,.inl (Fin.step ?_)⟩;rw[round hA h0 h hS hb];simp[MH,hp]
theorem Nr (hA:Oe F M v):∀(P:Nat) (k:Nat) (e:Av) (S:List Av) (i:Int) (sh:A1) (last:Option AA) (xs:List Ao),xs.length<P→EZ P e.fPairs last (k+1) xs=none→e.fKey=e.fPairs→e.fLeft=(k:Int)+1→(k:Int)+1≤9223372036854775807→G6 e last→(e.fPairs=false→last=none)→v.drop i.toNat=xs→0≤i→(S.length:Int)+1≤i→CE S→
  Nv (Mv F v) ((e::S).reverse,i,sh):=by
 intro P
 induction P with
 | zero=>intro k e S i sh last xs h;omega
 | succ P ih=>
  intro k e S i sh last xs hP hn hk hl hkm hlo hm hv h0 hS hb;have hb':CE (e::S):=λx hx=>by
   rcases List.mem_cons.1 hx with rfl | hx
   ·constructor<;>omega
   ·exact hb x hx
  rw[EZ] at hn
  cases hq:Gt e.fPairs last xs with
  | none=>
   unfold Gt at hq
   cases hpr:e.fPairs with
   | false=>rw[hpr] at hq;cases hq
   | true=>
    rw[hpr] at hq hk;simp only[UF] at hq
    cases xs with
    | nil=>exact Nv.end_ h0 hv
    | cons c r=>
     simp only at hq
     cases hp:pl c with
     | false=>exact Nv.pl_ hA h0 hv (by simpa using hS) hb' hp
     | true=>
      refine⟨sh,.inl (Fin.step ?_)⟩;rw[round hA h0 hv (by simpa using hS) hb'];have ht:(!decide (c.fKind=4)||(e.fStarted&&(BJ c.fStr e.fLast||decide (c.fStr=e.fLast))))=true:=by
       rw[hp] at hq
       cases h4:decide (c.fKind=4) with
       | false=>rfl
       | true=>
        rw[h4] at hq;simp only[Bool.and_self,UN] at hq;have hok:=(Lm hp (by simpa using h4)).2
        cases last with
        | none=>simp[DA,hok] at hq
        | some p=>
         obtain⟨q1,q2⟩:=hlo;rw[q1,q2]
         cases hc:(BJ c.fStr p||decide (c.fStr=p)) with
         | true=>rfl
         | false=>simp[DA,hok,hc] at hq
      simp only[MH,hp,hk,ht,UC,U9,UF]
  | some q=>
   obtain⟨key,r⟩:=q;obtain⟨h1,h2⟩:=Jy hq;rw[hq] at hn;have hkr:=JW (sh:=sh) hA h0 (by rw[hv];exact h1) hS hb' (by rw[hk];exact h2) hlo;have hv1:=E3 h0 (hv.trans h1);obtain⟨kl,kp⟩:=H8 (e:=e) key;obtain⟨q1,q2⟩:=H9 hlo hm h2;have hbk:CE (Ej e key::S):=λx hx=>by
    rcases List.mem_cons.1 hx with rfl | hx
    ·rw[kl];exact hb' e (by simp)
    ·exact hb x hx
   refine hkr.bad ?_
   cases r with
   | nil=>exact Nv.end_ (by omega) hv1
   | cons c xs'=>
    have hlen:xs'.length+1≤xs.length:=by rw[h1];simp
    have hvl:xs.length≤v.length:=by rw[← hv,List.length_drop];omega
    have hvM:=hA.hv;have hMM:=hA.hM;have hkk:=IE (e:=e) (last:=last) (k:=key) (by rw[hk];exact h2);simp only at hn;have hSk:(((Ej e key::S).length:Nat):Int)≤i+(Cs key).length:=by simp only[UA];omega
    cases hp:pl c with
    | false=>exact Nv.pl_ hA (by omega) hv1 hSk hbk hp
    | true=>
     rw[hp] at hn;simp only[UC,U9] at hn;obtain⟨g1,g2,g3⟩:=D3 (by omega) hv1;have hcN:=(hA.hc c (UE g1)).2.2;have more:∀(s:LG) (j:Int) (sh':A1) (zs:List Ao),EM (Mv F v) s (Ej e key::S) j sh'→v.drop j.toNat=zs→zs.length<P→0≤j→(S.length:Int)+1≤j→EZ P e.fPairs key k zs=none→Nv (Mv F v) s:=λs j sh' zs hd hz hzl hj hSj hnone=>by
      cases k with
      | zero=>
       cases P with
       | zero=>omega
       | succ P=>cases hnone
      | succ k=>
       have:=hd.more (by rw[kl];omega);refine this.bad (ih k _ S j sh' key zs hzl (by rw[kp];exact hnone) rfl (by simp only[kl];omega) (by omega) ?_ (by simpa using q2) hz hj hSj hb)
       cases key with
       | none=>exact q1
       | some p=>exact q1
     cases hN:decide (0<c.fN) with
     | true=>
      rw[hN] at hn;simp only[UF] at hn;simp only[U2] at hN
      by_cases hbig:c.fN≤v.length
      ·have hnd:=GO (sh:=IX key sh) hA (by omega) hv1 hSk hbk (by simpa[IF] using hkk) hp (by simpa using hN) hbig;refine hnd.bad ?_
       cases hks:EZ P (decide (c.fKind=6)) none c.fN.toNat xs' with
       | none=>
        obtain⟨n',hn'⟩:∃n',c.fN.toNat=n'+1:=⟨c.fN.toNat-1,by omega⟩
        rw[hn'] at hks;exact ih n' _ _ _ _ none xs' (by omega) hks rfl (by simp only;omega) (by omega) rfl (λ_=>rfl) g2 (by omega) (by simp only[UA];omega) hbk
       | some q=>
        obtain⟨kids,zs⟩:=q;rw[hks] at hn;simp only at hn;have hn2:EZ P e.fPairs key k zs=none:=by
         cases hz:EZ P e.fPairs key k zs with
         | none=>rfl
         | some q=>rw[hz] at hn;cases hn
        obtain⟨a1,a2,a3⟩:=EJ _ _ _ _ _ _ _ hks;have hd:=IZ hA kids ⟨decide (c.fKind=6),c.fN,decide (c.fKind=6),[],false⟩ (Ej e key::S) (i+(Cs key).length+1) (Gs (S.length+1) (IX key sh) c) none zs (by omega) a2 rfl (by simp only;omega) rfl (λ_=>rfl) (by rw[g2];exact a1) (by omega) (by simp only[UA];omega) hbk;have hz:v.drop (i+(Cs key).length+1+kids.flat.length).toNat=zs:=E3 (by omega) (g2.trans a1);have hzl:zs.length≤xs'.length:=by rw[a1];simp
        exact more _ _ _ zs hd hz (by omega) (by omega) (by omega) hn2
      ·refine⟨Gs (Ej e key::S).length (IX key sh) c,.inl (Fin.step ?_)⟩;rw[round hA (by omega) hv1 hSk hbk];have hbig':decide ((v.length:Int)<c.fN)=true:=by simpa using hbig
       simp only[MH,hp,hkk,hbig',hN,UC,U9,UF,decide_true]
     | false=>
      rw[hN] at hn;simp only[U9] at hn;have hn2:EZ P e.fPairs key k xs'=none:=by
       cases hz:EZ P e.fPairs key k xs' with
       | none=>rfl
       | some q=>rw[hz] at hn;cases hn
      have hd:=IC (sh:=IX key sh) hA (by omega) hv1 hSk hbk (by simpa[IF] using hkk) hp hN;exact more _ _ _ xs' hd g2 (by omega) (by omega) (by omega) hn2
def G1 (xs:List Ao):Option (Fo×List Ao):=EZ (xs.length+1) false none 1 xs
theorem NB {P:Nat}{xs ys:List Ao}{f:Fo}(h:EZ P false none 1 xs=some (f,ys)):f.one=true:=by
 obtain⟨h1,h2,h3⟩:=EJ _ _ _ _ _ _ _ h
 cases f with
 | nil=>cases h3
 | cell k c r=>
  cases r with
  | nil=>
   cases k with
   | none=>rfl
   | some s=>simp[Fo.wf,DA] at h2
  | cell _ _ _=>simp[Fo.cnt] at h3
  | node _ _ _ _=>simp[Fo.cnt] at h3
 | node k c kids r=>
  cases r with
  | nil=>
   cases k with
   | none=>rfl
   | some s=>simp[Fo.wf,DA] at h2
  | cell _ _ _=>simp[Fo.cnt] at h3
  | node _ _ _ _=>simp[Fo.cnt] at h3
theorem OP (hA:Oe F M v)(h:G1 v=none):Nv (Mv F v) ([],0,Kk):=by
 have hlf:CE []:=λx hx=>by cases hx
 unfold G1 at h;rw[EZ] at h;simp only[Gt,U9] at h
 cases v with
 | nil=>exact Nv.end_ (S:=[]) (Vi 0) rfl
 | cons c xs'=>
  have hv1:(c::xs').drop (0:Int).toNat=c::xs':=rfl;have hvM:=hA.hv;have hMM:=hA.hM;simp only at h
  cases hp:pl c with
  | false=>exact Nv.pl_ (S:=[]) hA (Vi 0) hv1 (by simp) hlf hp
  | true=>
   rw[hp] at h;simp only[UC,U9] at h;have hcN:=(hA.hc c (by simp)).2.2
   cases hN:decide (0<c.fN) with
   | true=>
    rw[hN] at h;simp only[UF] at h;simp only[U2] at hN
    by_cases hbig:c.fN≤(c::xs').length
    ·have hnd:=GO (S:=[]) (sh:=Kk) hA (Vi 0) hv1 (by simp) hlf rfl hp (by simpa using hN) hbig;refine hnd.bad ?_
     cases hks:EZ (c::xs').length (decide (c.fKind=6)) none c.fN.toNat xs' with
     | none=>
      obtain⟨n',hn'⟩:∃n',c.fN.toNat=n'+1:=⟨c.fN.toNat-1,by omega⟩
      rw[hn'] at hks;exact Nr hA (c::xs').length n' ⟨decide (c.fKind=6),c.fN,decide (c.fKind=6),[],false⟩ [] (0+1) _ none xs' (by simp) hks rfl (by simp only;omega) (by omega) rfl (λ_=>rfl) rfl (by omega) (by simp) hlf
     | some q=>rw[hks] at h;cases h
    ·refine⟨Gs 0 Kk c,.inl (Fin.step ?_)⟩;rw[show Mv F (c::xs') (([]:List Av),0,Kk)=_ from round (S:=[]) hA (Vi 0) hv1 (by simp) hlf];have hbig':decide (((c::xs').length:Int)<c.fN)=true:=by simpa using hbig
     simp only[MH,hp,hbig',hN,UC,U9,UF,decide_true]
   | false=>rw[hN] at h;cases h
theorem RA (hA:Oe F M v):(∃f ys,G1 v=some (f,ys)∧HM F v=some ((f.flat.length:Int),f.sh 0 Kk,true))∨(G1 v=none∧∃sh',HM F v=some (0,sh',false)):=by
 cases h:G1 v with
 | some q=>
  obtain⟨f,ys⟩:=q;obtain⟨h1,h2,h3⟩:=EJ _ _ _ _ _ _ _ h;exact .inl ⟨f,ys,rfl,Qp hA (NB h) h2 h1⟩
 | none=>
  refine .inr ⟨rfl,?_⟩;obtain⟨o,ho,_⟩:=JS hA;obtain⟨sh',hb | hb⟩:=OP hA h
  ·have e:=hb.eq ho;subst e;exact⟨sh',by unfold HM;rw[AU ho];rfl⟩
  ·have e:=hb.eq ho;subst e;exact⟨sh',by unfold HM;rw[AU ho];rfl⟩
end
theorem GH {x:Int}(h : -9223372036854775808≤x)(h':x≤9223372036854775807):IntKind.wrap .i64 x=x:=by
 simp only[IntKind.wrap,IntKind.bits,IntKind.signed];simp;omega
def Fo.dep:Fo→Nat
 | .nil=>0
 | .cell _ _ r=>max 1 r.dep
 | .node _ _ kids r=>max (kids.dep+1) r.dep
theorem Ep (k:Option AA)(s:A1):(IX k s).fDepth=s.fDepth∧(IX k s).fOutside=s.fOutside∧(IX k s).fLong=(s.fLong||(Cs k).any λc=>decide (200<(c.fStr.length:Int))):=by
 cases k with
 | none=>simp[IX,Cs]
 | some x=>simp[IX,Ty,Cs]
theorem HS:∀(f:Fo) (d:Nat) (s:A1),(d:Int)≤s.fDepth→(f.sh d s).fDepth=max s.fDepth ((d:Int)+f.dep)
 | .nil,d,s,h=>by simp only[Fo.sh,Fo.dep];omega
 | .cell k c r,d,s,h=>by
  have hk:=(Ep k s).1;have e:(Gs d (IX k s) c).fDepth=max s.fDepth ((d:Int)+1):=by rw[Gs,hk]
  rw[Fo.sh,HS r d _ (by rw[e];omega),e,Fo.dep];omega
 | .node k c kids r,d,s,h=>by
  have hk:=(Ep k s).1;have e:(Gs d (IX k s) c).fDepth=max s.fDepth ((d:Int)+1):=by rw[Gs,hk]
  have e2:=HS kids (d+1) (Gs d (IX k s) c) (by rw[e];omega);rw[e] at e2;rw[Fo.sh,HS r d _ (by rw[e2];omega),e2,Fo.dep];omega
def OD (c:Ao):Bool:=decide (c.fKind=3)&&!(decide ((-1000000000000)≤c.fInt)&&decide (c.fInt≤1000000000000))
def NN (c:Ao):Bool:=decide (200<(c.fStr.length:Int))
theorem Mx (k:Option AA):(Cs k).any OD=false:=by cases k<;>simp[Cs,OD]
theorem Lg:∀(f:Fo) (d:Nat) (s:A1),(f.sh d s).fOutside=(s.fOutside||f.flat.any OD)
 | .nil,d,s=>by simp[Fo.sh,Fo.flat]
 | .cell k c r,d,s=>by
  rw[Fo.sh,Lg r,Gs,(Ep k s).2.1];simp only[Fo.flat,List.any_append,List.any_cons,Mx,UH,Bool.or_assoc];rfl
 | .node k c kids r,d,s=>by
  rw[Fo.sh,Lg r,Lg kids,Gs,(Ep k s).2.1];simp only[Fo.flat,List.any_append,List.any_cons,Mx,UH,Bool.or_assoc];rfl
theorem Jv:∀(f:Fo) (d:Nat) (s:A1),(f.sh d s).fLong=(s.fLong||f.flat.any NN)
 | .nil,d,s=>by simp[Fo.sh,Fo.flat]
 | .cell k c r,d,s=>by
  rw[Fo.sh,Jv r,Gs,(Ep k s).2.2];simp only[Fo.flat,List.any_append,List.any_cons,Bool.or_assoc];rfl
 | .node k c kids r,d,s=>by
  rw[Fo.sh,Jv r,Jv kids,Gs,(Ep k s).2.2];simp only[Fo.flat,List.any_append,List.any_cons,Bool.or_assoc];rfl
def QU (c:Ao):Int:=
 bif decide (c.fKind=1) then 4 else bif decide (c.fKind=2) then 5-c.fInt else bif decide (c.fKind=3) then((Lib.itoa c.fInt).length:Int) else
 bif decide (c.fKind=4) then I4 c.fStr else 2
def Lw:Option AA→Int
 | none=>0
 | some s=>I4 s+1
def Fo.byt:Fo→Int
 | .nil=>0
 | .cell k c r=>Lw k+QU c+r.byt
 | .node k c kids r=>Lw k+(c.fN+1)+kids.byt+r.byt
theorem JO (s:AA):2≤I4 s:=by unfold I4;omega
theorem J3 (k:Option AA):0≤Lw k:=by
 cases k with
 | none=>exact Vi 0
 | some s=>have:=JO s;simp only[Lw];omega
theorem NM {c:Ao}(hp:pl c=true):0≤QU c:=by
 unfold QU
 cases h1:decide (c.fKind=1) with
 | true=>simp
 | false=>
  cases h2:decide (c.fKind=2) with
  | true=>
   simp[pl,h1,h2] at hp;simp only[U9,UF];omega
  | false=>
   cases h3:decide (c.fKind=3) with
   | true=>simp
   | false=>
    cases h4:decide (c.fKind=4) with
    | true=>have:=JO c.fStr;simp only[U9,UF];omega
    | false=>simp
theorem R1 {c:Ao}(hp:pl c=true):0≤c.fN:=by
 simp only[pl,← Bool.decide_or] at hp
 cases h1:decide (c.fKind=1)<;>cases h2:decide (c.fKind=2)<;>cases h3:decide (c.fKind=3)<;>cases h4:decide (c.fKind=4)<;>cases h5:decide (c.fKind=5)<;>cases h6:decide (c.fKind=6)<;>simp[h1,h2,h3,h4,h5,h6] at hp<;>omega
theorem R0 {c:Ao}(hp:pl c=true)(hn:0<c.fN):(c.fKind=5∨c.fKind=6)∧c.fInt=0∧c.fStr=[]:=by
 cases h1:decide (c.fKind=1)<;>cases h2:decide (c.fKind=2)<;>cases h3:decide (c.fKind=3)<;>cases h4:decide (c.fKind=4)<;>cases h5:decide (c.fKind=5)<;>cases h6:decide (c.fKind=6)<;>simp[pl,h1,h2,h3,h4,h5,h6] at hp<;>(simp only[U2,U1] at *;first | omega | exact⟨by omega,hp.1,hp.2.1⟩)
theorem PC {c:Ao}(hp:pl c=true)(hn:decide (0<c.fN)=false):SB c=QU c:=by
 have hN:=R1 hp;have h0:c.fN=0:=by simp only[U1] at hn;omega
 unfold SB QU;rw[h0]
 cases h1:decide (c.fKind=1) with
 | true=>rfl
 | false=>
  cases h2:decide (c.fKind=2) with
  | true=>
   simp[pl,h1,h2] at hp;simp only[U9,UF];exact GH (by omega) (by omega)
  | false=>rfl
theorem PB {c:Ao}(hp:pl c=true)(hn:0<c.fN)(hm:c.fN≤9223372036854775000):SB c=c.fN+1:=by
 obtain⟨hk,_,_⟩:=R0 hp hn;unfold SB;rw[U7 (by omega),U7 (by omega),U7 (by omega),U7 (by omega)];simp only[U9];rw[GH (x:=c.fN-1) (by omega) (by omega),GH (by omega) (by omega)];omega
theorem Gh:∀{f:Fo} {m:Bool} {l:Option AA},f.wf m l=true→0≤f.byt
 | .nil,_,_,_=>Vi 0
 | .cell k c r,m,l,h=>by
  simp only[Fo.wf,U6] at h;have h1:=Gh h.2;have h2:=NM h.1.1.2;have h3:=J3 k;simp only[Fo.byt];omega
 | .node k c kids r,m,l,h=>by
  simp only[Fo.wf,U6,U2] at h;have h1:=Gh h.2;have h2:=Gh h.1.2;have h3:=J3 k;simp only[Fo.byt];omega
theorem K3 (k:Option AA)(s:A1)(h0:0≤s.fBytes)(h:s.fBytes+Lw k≤9223372036854775807):(IX k s).fBytes=s.fBytes+Lw k:=by
 cases k with
 | none=>simp[IX,Lw]
 | some x=>
  have:=JO x;simp only[Lw] at h;simp only[IX,Ty,Lw];exact GH (by omega) (by omega)
theorem HT:∀(f:Fo) (m:Bool) (l:Option AA) (d:Nat) (s:A1),f.wf m l=true→0≤s.fBytes→s.fBytes+f.byt≤9223372036854775000→(f.sh d s).fBytes=s.fBytes+f.byt
 | .nil,_,_,d,s,_,_,_=>by simp[Fo.sh,Fo.byt]
 | .cell k c r,m,l,d,s,hw,h0,h=>by
  simp only[Fo.wf,U6,UK] at hw;obtain⟨⟨⟨w1,w2⟩,w3⟩,w4⟩:=hw;have h1:=Gh w4;have h2:=NM w2;have h3:=J3 k;simp only[Fo.byt] at h;have e1:=K3 k s h0 (by omega);have e:(Gs d (IX k s) c).fBytes=s.fBytes+Lw k+QU c:=by
   rw[Gs,e1,PC w2 w3];exact GH (by omega) (by omega)
  rw[Fo.sh,HT r _ _ d _ w4 (by rw[e];omega) (by rw[e];omega),e,Fo.byt];omega
 | .node k c kids r,m,l,d,s,hw,h0,h=>by
  simp only[Fo.wf,U6,U2] at hw;obtain⟨⟨⟨⟨⟨w1,w2⟩,w3⟩,w5⟩,w6⟩,w4⟩:=hw;have h1:=Gh w4;have h2:=Gh w6;have h3:=J3 k;simp only[Fo.byt] at h;have e1:=K3 k s h0 (by omega);have e:(Gs d (IX k s) c).fBytes=s.fBytes+Lw k+(c.fN+1):=by
   rw[Gs,e1,PB w2 w3 (by omega)];exact GH (by omega) (by omega)
  have e2:=HT kids _ _ (d+1) (Gs d (IX k s) c) w6 (by rw[e];omega) (by rw[e];omega);rw[Fo.sh,HT r _ _ d _ w4 (by rw[e2,e];omega) (by rw[e2,e];omega),e2,e,Fo.byt];omega
def Tf (s:AA):AA:=s.flatMap λc=>bif (decide (c=34)||decide (c=92)) then[92,c] else[c]
def Ry (s:AA):AA:=34::(Tf s++[34])
theorem M7:∀s:AA,(Tf s).length=s.length+s.count 34+s.count 92
 | []=>rfl
 | c::s=>by
  have ih:=M7 s;unfold Tf at ih ⊢;rw[List.flatMap_cons,UG,ih]
  by_cases h1:c=34
  ·subst h1;simp;omega
  ·by_cases h2:c=92
   ·subst h2;simp;omega
   ·simp[h1,h2,List.count_cons];omega
theorem Mg (s:AA):((Ry s).length:Int)=I4 s:=by
 simp only[Ry,UA,UG,M7,Ve,I4];omega
def Qt (c:Ao):AA:=
 bif decide (c.fKind=1) then[110,117,108,108] else
 bif decide (c.fKind=2) then(bif decide (c.fInt=1) then[116,114,117,101] else[102,97,108,115,101]) else
 bif decide (c.fKind=3) then Lib.itoa c.fInt else
 bif decide (c.fKind=4) then Ry c.fStr else
 bif decide (c.fKind=6) then[123,125] else[91,93]
def TO:Option AA→AA
 | none=>[]
 | some s=>Ry s++[58]
def Uj (c:Ao)(s:AA):AA:=bif decide (c.fKind=6) then 123::(s++[125]) else 91::(s++[93])
def Rs (first:Bool):AA:=bif first then[] else[44]
def Fo.txt:Bool→Fo→AA
 | _,.nil=>[]
 | b,.cell k c r=>Rs b++TO k++Qt c++r.txt false
 | b,.node k c kids r=>Rs b++TO k++Uj c (kids.txt true)++r.txt false
theorem NP (k:Option AA):((TO k).length:Int)=Lw k:=by
 cases k with
 | none=>rfl
 | some s=>simp only[TO,UG,Lw,Vb];have:=Mg s;omega
theorem OQ {c:Ao}(hp:pl c=true):((Qt c).length:Int)=QU c:=by
  unfold Qt QU
  cases h1:decide (c.fKind=1) with
  | true=>rfl
  | false=>
    cases h2:decide (c.fKind=2) with
    | true=>
      simp[pl,h1,h2] at hp;simp only[U9,UF]
      cases h7:decide (c.fInt=1) with
      | true=>simp only[U2] at h7;simp[h7]
      | false=>
                 simp only[U1] at h7;have:c.fInt=0:=by omega
                 simp[this]
    | false=>
      cases h3:decide (c.fKind=3) with
      | true=>rfl
      | false=>
        cases h4:decide (c.fKind=4) with
        | true=>simpa using Mg c.fStr
        | false=>cases h6:decide (c.fKind=6)<;>rfl
theorem RX (c:Ao)(s:AA):(Uj c s).length=s.length+2:=by
 unfold Uj
 cases decide (c.fKind=6)<;>simp
theorem Jt:∀(f:Fo) (m:Bool) (l:Option AA) (b:Bool),f.wf m l=true→((f.txt b).length:Int)=f.byt+(bif b then((f.cnt-1:Nat):Int) else(f.cnt:Int))
 | .nil,m,l,b,_=>by cases b<;>rfl
 | .cell k c r,m,l,b,hw=>by
  simp only[Fo.wf,U6,UK] at hw;obtain⟨⟨⟨w1,w2⟩,w3⟩,w4⟩:=hw;have ih:=Jt r _ _ false w4;have a:=NP k;have d:=OQ w2;simp only[U9] at ih
  cases b<;>simp only[Fo.txt,Fo.byt,Fo.cnt,Rs,UF,U9,UG,Ve,Vb]<;>omega
 | .node k c kids r,m,l,b,hw=>by
  simp only[Fo.wf,U6,U2] at hw;obtain⟨⟨⟨⟨⟨w1,w2⟩,w3⟩,w5⟩,w6⟩,w4⟩:=hw;have ih:=Jt r _ _ false w4;have ih2:=Jt kids _ _ true w6;have a:=NP k;have d:=RX c (kids.txt true);simp only[U9,UF] at ih ih2
  cases b<;>simp only[Fo.txt,Fo.byt,Fo.cnt,Rs,UF,U9,UG,Ve,Vb]<;>omega
def Fo.put (k:Option AA):Fo→Fo→Fo
 | .cell _ c _,r=>.cell k c r
 | .node _ c kids _,r=>.node k c kids r
 | .nil,_=>.nil
theorem PT (P:Nat)(m:Bool)(last:Option AA)(k:Nat)(xs:List Ao):EZ (P+2) m last (k+1) xs =
  match Gt m last xs with
  | none=>none
  | some (key,ys)=>match EZ (P+2) false none 1 ys with
   | none=>none
   | some (f,zs)=>match EZ (P+1) m key k zs with
    | none=>none
    | some (r,us)=>some (f.put key r,us):=by
 rw[EZ]
 cases hk:Gt m last xs with
 | none=>rfl
 | some p=>
  obtain⟨key,ys⟩:=p;simp only;rw[EZ];simp only[Gt,U9]
  cases ys with
  | nil=>rfl
  | cons c ys=>
   simp only
   cases hp:pl c with
   | false=>rfl
   | true=>
    simp only[UC,U9]
    cases hn:decide (0<c.fN) with
    | true=>
     simp only[UF]
     cases hq:EZ (P+1) (decide (c.fKind=6)) none c.fN.toNat ys with
     | none=>rfl
     | some q=>
      obtain⟨kids,zs⟩:=q;simp only[EZ]
      cases hr:EZ (P+1) m key k zs with
      | none=>rfl
      | some q=>obtain⟨a,b⟩:=q;rfl
    | false=>
     simp only[U9,EZ]
     cases hr:EZ (P+1) m key k ys with
     | none=>rfl
     | some q=>obtain⟨a,b⟩:=q;rfl
def Kr (m:Bool)(last:Option AA)(k:Nat)(xs:List Ao):Option (Fo×List Ao):=EZ (xs.length+1) m last k xs
theorem I5 (m:Bool)(last:Option AA)(xs:List Ao):Kr m last 0 xs=some (.nil,xs):=rfl
theorem GN (m:Bool)(last:Option AA)(k:Nat)(xs:List Ao):Kr m last (k+1) xs =
  match Gt m last xs with
  | none=>none
  | some (key,ys)=>match G1 ys with
   | none=>none
   | some (f,zs)=>match Kr m key k zs with
    | none=>none
    | some (r,us)=>some (f.put key r,us):=by
 unfold Kr G1;rw[ES (xs.length+1) (xs.length+2) m last (k+1) xs (by omega) (by omega),PT]
 cases hk:Gt m last xs with
 | none=>rfl
 | some p=>
  obtain⟨key,ys⟩:=p;have h1:=(Jy hk).1;have hy:ys.length≤xs.length:=by rw[h1];simp
  simp only;rw[ES (xs.length+2) (ys.length+1) false none 1 ys (by omega) (by omega)]
  cases hf:EZ (ys.length+1) false none 1 ys with
  | none=>rfl
  | some q=>
   obtain⟨f,zs⟩:=q;have h2:=(EJ _ _ _ _ _ _ _ hf).1;have hz:zs.length≤ys.length:=by rw[h2];simp
   simp only;rw[ES (xs.length+1) (zs.length+1) m key k zs (by omega) (by omega)]
   all_goals (cases EZ (zs.length+1) m key k zs<;>rfl)
theorem Ss {S O:Type}{body:S→Option (Stp S O)}{n:Nat}{s s':S}{o:O}(h:body s=some (.next s'))(h':BP body n s'=some o):BP body (n+1) s=some o:=by rw[BP,h];exact h'
theorem KB {S O:Type}{body:S→Option (Stp S O)}{n:Nat}{s:S}{o:O}(h:body s=some (.out o)):BP body (n+1) s=some o:=by rw[BP,h]
theorem PU:G1 []=none:=rfl
theorem I6 (c:Ao)(r:List Ao):G1 (c::r)=bif !pl c then none else bif decide (0<c.fN) then(match Kr (decide (c.fKind=6)) none c.fN.toNat r with
  | none=>none
  | some (kids,zs)=>some (.node none c kids .nil,zs)) else some (.cell none c .nil,r):=by
 unfold G1;rw[EZ];simp only[Gt,U9]
 cases hp:pl c with
 | false=>rfl
 | true=>
  simp only[UC,U9]
  cases hn:decide (0<c.fN) with
  | true=>
   simp only[UF];unfold Kr;rw[UA]
   cases hq:EZ (r.length+1) (decide (c.fKind=6)) none c.fN.toNat r with
   | none=>rfl
   | some q=>obtain⟨kids,zs⟩:=q;rfl
  | false=>rfl
theorem Mh {f:Fo}(h:f.one=true)(key:Option AA)(r:Fo):(f.put key r).flat=Cs key++(f.flat++r.flat):=by
 cases f with
 | nil=>cases h
 | cell k c r'=>
  cases k with
  | some s=>cases h
  | none=>cases r' with
   | nil=>simp[Fo.put,Fo.flat,Cs]
   | cell _ _ _=>cases h
   | node _ _ _ _=>cases h
 | node k c kids r'=>
  cases k with
  | some s=>cases h
  | none=>cases r' with
   | nil=>simp[Fo.put,Fo.flat,Cs]
   | cell _ _ _=>cases h
   | node _ _ _ _=>cases h
theorem PX {f:Fo}(h:f.one=true):1≤f.flat.length:=by
 cases f with
 | nil=>cases h
 | cell k c r'=>simp[Fo.flat];omega
 | node k c kids r'=>simp[Fo.flat];omega
theorem Jz {xs ys:List Ao}{f:Fo}(h:G1 xs=some (f,ys)):xs=f.flat++ys∧f.wf false none=true∧f.one=true:=
 ⟨(EJ _ _ _ _ _ _ _ h).1,(EJ _ _ _ _ _ _ _ h).2.1,NB h⟩
def Hi (v:List Ao)(i:Int):Int:=match G1 (v.drop i.toNat) with
 | none=>-1
 | some (f,_)=>i+f.flat.length
def Ic (m:Bool)(last:Option AA)(v:List Ao)(i:Int)(k:Nat):Int:=match Kr m last k (v.drop i.toNat) with
 | none=>-1
 | some (f,_)=>i+f.flat.length
theorem K8 {v:List Ao}{i:Int}(h0:0≤i)(h1:i≤v.length):Hi v i = -1∨(i<Hi v i∧Hi v i≤v.length):=by
 unfold Hi
 cases h:G1 (v.drop i.toNat) with
 | none=>exact .inl rfl
 | some q=>
  obtain⟨f,ys⟩:=q;obtain⟨h2,_,h3⟩:=Jz h;have:=PX h3;have hl:(v.drop i.toNat).length=f.flat.length+ys.length:=by rw[h2];simp
  rw[List.length_drop] at hl
  right;simp only;omega
structure TQ (F M:Nat) (v:List Ao):Prop where
 hM:M≤1152921504606846976
 hv:v.length≤M
 hF:M<F
 hc:∀c∈v,c.fStr.length≤M
theorem O9 (ok:Bool){i:Int}(h0:0≤i)(h1:i≤1152921504606846976):Cd ok i=some (bif ok then i+1 else -1):=by
 unfold Cd
 cases ok
 ·rfl
 ·rw[AO rfl,Bb (by omega) (by omega)];rfl
theorem N9 {F:Nat}{c:Ao}(hF:c.fStr.length<F)(hs:c.fStr.length≤1152921504606846976):PS F c=some (decide (c.fKind=4)&&pl c):=by
 unfold PS;rw[O7 hF (by omega)];simp only[Option.isSome_some,ov,UP,imp,Va,Bn,UF]
 cases h4:decide (c.fKind=4) with
 | false=>rfl
 | true=>
  simp only[U2] at h4;simp[pl,h4]
theorem NZ {v:List Ao}{i:Int}{c:Ao}{r:List Ao}(h0:0≤i)(h:v.drop i.toNat=c::r):Ac v i=c:=by
 have:=(D3 h0 h).1;simp[Ac,this]
section
variable {M : Nat} {v : List Ao}
theorem He {F:Nat}(hA:TQ F M v){g:List Ao→Int→Option Int}{n:Int}(hn:n≤9223372036854775807):∀(L:Nat) (i x:Int),0≤i→i≤v.length→0≤x→x≤n→(∀j,i≤j→j≤v.length→g v j=some (Hi v j))→v.length-i.toNat<L→
  ∃o,BP (λσ=>CN v n g σ.1 σ.2) L (i,x)=some o∧BQ (λν=>Ge ν) o=some (Ic false none v i (n-x).toNat)
 | 0,i,x,_,_,_,_,_,h=>by omega
 | L+1,i,x,h0,h1,hx,hxn,hg,hL=>by
  cases hxl:decide (x<n) with
  | false=>
   refine⟨.go i,KB (by show CN v n g i x=_;unfold CN;rw[AN hxl]),?_⟩;simp only[U1] at hxl;rw[show(n-x).toNat=0 from by omega];simp[BQ,Ge,Ic,I5,Fo.flat]
  | true=>
   have hb:CN v n g i x=B7 (decide (Hi v i<0)) (some (.out (.ret (-1)))) (Bn (BT .i64 (x+1))<|some (.next (Hi v i,x+1))):=by unfold CN;rw[AO hxl,hg i (Vi i) h1,AU rfl]
   simp only[U2] at hxl;obtain⟨k,hk⟩:∃k,(n-x).toNat=k+1:=⟨(n-x).toNat-1,by omega⟩
   rw[hk];have e:Ic false none v i (k+1)=bif decide (Hi v i<0) then -1 else Ic false none v (Hi v i) k:=by
    unfold Ic;rw[GN];simp only[Gt,U9]
    cases hp:G1 (v.drop i.toNat) with
    | none=>simp[Hi,hp]
    | some q=>
     obtain⟨f,ys⟩:=q;obtain⟨q1,q2,q3⟩:=Jz hp;have hi:Hi v i=i+f.flat.length:=by simp[Hi,hp]
     have hd:v.drop (Hi v i).toNat=ys:=by rw[hi];exact E3 h0 q1
     rw[hd,U7 (by omega)];simp only[U9]
     cases hr:Kr false none k ys with
     | none=>rfl
     | some q=>
      obtain⟨r,zs⟩:=q;simp only[Mh q3,Cs,List.nil_append,UG,hi];omega
   rw[e];rcases K8 (v:=v) h0 h1 with hneg | ⟨hlt,hle⟩
   ·exact⟨.ret (-1),KB (hb.trans (by rw[hneg,AO (by decide)])),by rw[hneg];rfl⟩
   ·have hM:=hA.hM;have hvM:=hA.hv;obtain⟨o,ho1,ho2⟩:=He hA hn L (Hi v i) (x+1) (by omega) hle (by omega) (by omega) (λj hj=>hg j (by omega)) (by omega);exact⟨o,Ss (hb.trans (by rw[AN (U7 (by omega)),Bb (by omega) (by omega)])) ho1,by rw[ho2,show(n-(x+1)).toNat=k from by omega,U7 (by omega)];rfl⟩
theorem JM {F:Nat}(hA:TQ F M v){g:List Ao→Int→Option Int}{n:Int}(hn:n≤9223372036854775807):∀(L:Nat) (i x:Int) (last:AA),0≤i→i≤v.length→0≤x→x≤n→(∀j,i≤j→j≤v.length→g v j=some (Hi v j))→v.length-i.toNat<L→
  ∃o,BP (λσ=>Do F v n g σ.1 σ.2.1 σ.2.2) L (i,last,x)=some o∧BQ (λν=>I3 ν) o=some (Ic true (bif decide (0<x) then some last else none) v i (n-x).toNat)
 | 0,i,x,_,_,_,_,_,_,h=>by omega
 | L+1,i,x,last,h0,h1,hx,hxn,hg,hL=>by
  have hM:=hA.hM;have hvM:=hA.hv;have hMF:=hA.hF
  cases hxl:decide (x<n) with
  | false=>
   refine⟨.go i,KB (by show Do F v n g i last x=_;unfold Do;rw[AN hxl]),?_⟩;simp only[U1] at hxl;rw[show(n-x).toNat=0 from by omega];simp[BQ,I3,Ic,I5,Fo.flat]
  | true=>
   have hxl':=hxl;simp only[U2] at hxl;obtain⟨k,hk⟩:∃k,(n-x).toNat=k+1:=⟨(n-x).toNat-1,by omega⟩
   rw[hk]
   cases hd:v.drop i.toNat with
   | nil=>
    have hl:v.length≤i.toNat:=by simpa using hd
    refine⟨.ret (-1),KB (by
     show Do F v n g i last x=_;unfold Do;rw[AO hxl',Bp (by simp[imp,show(v.length:Int)≤i from by omega]),Bp (by simp[imp,show(v.length:Int)≤i from by omega]),AO (by simp[show(v.length:Int)≤i from by omega])]),?_⟩
    simp[BQ,Ic,hd,GN,Gt]
   | cons c r=>
    obtain⟨g1,g2,g3⟩:=D3 h0 hd;have hcM:=hA.hc c (UE g1);have hat:=NZ h0 hd;have hnl:decide ((v.length:Int)≤i)=false:=by simp;omega
    have hb:Do F v n g i last x=B7 (!(decide (c.fKind=4)&&pl c)||decide (0<x)&&(BJ c.fStr last||decide (c.fStr=last))) (some (.out (.ret (-1)))) (B5 (g v (i+1)) λha=>B7 (decide (ha<0)) (some (.out (.ret (-1)))) (Bn (BT .i64 (x+1))<|some (.next (ha,c.fStr,x+1)))):=by
     unfold Do;rw[AO hxl',Bp (by simp only[imp];rw[Qx h0 g3];simp),hat,N9 (by omega) (by omega),Bp (by simp[imp])];simp only[hnl,ov,UP,UH];rw[BU h0 g3,Bb (by omega) (by omega)]
    have hpk:Gt true (bif decide (0<x) then some last else none) (c::r)=bif (!(decide (c.fKind=4)&&pl c)||decide (0<x)&&(BJ c.fStr last||decide (c.fStr=last))) then none else some (some c.fStr,r):=by
     simp only[Gt,UF]
     cases h4:decide (c.fKind=4) with
     | false=>simp
     | true=>
      cases hp:pl c with
      | false=>simp
      | true=>
       have hok:=(Lm hp (by simpa using h4)).2
       cases h0x:decide (0<x) with
       | false=>simp[DA,hok]
       | true=>cases hs:(BJ c.fStr last||decide (c.fStr=last))<;>simp[DA,hok,hs]
    cases ht:(!(decide (c.fKind=4)&&pl c)||decide (0<x)&&(BJ c.fStr last||decide (c.fStr=last))) with
    | true=>
     rw[ht] at hpk;refine⟨.ret (-1),KB (hb.trans (AO ht)),?_⟩;simp only[Ic,hd,GN,hpk,UF];rfl
    | false=>
     rw[ht] at hpk;rw[AN ht,hg (i+1) (by omega) (by omega),AU rfl] at hb;have e:Ic true (bif decide (0<x) then some last else none) v i (k+1)=bif decide (Hi v (i+1)<0) then -1 else Ic true (some c.fStr) v (Hi v (i+1)) k:=by
      unfold Ic;rw[hd,GN,hpk];simp only[U9];have hx:Hi v (i+1)=match G1 r with | none=>-1 | some (f,_)=>i+1+f.flat.length:=by unfold Hi;rw[g2]
      cases hp:G1 r with
      | none=>rw[hp] at hx;simp[hx]
      | some q=>
       obtain⟨f,ys⟩:=q;obtain⟨q1,q2,q3⟩:=Jz hp;rw[hp] at hx;simp only at hx;have hd2:v.drop (Hi v (i+1)).toNat=ys:=by rw[hx];exact E3 (by omega) (g2.trans q1)
       rw[hd2,U7 (by omega)];simp only[U9]
       cases hr:Kr true (some c.fStr) k ys with
       | none=>rfl
       | some q=>
        obtain⟨r',zs⟩:=q;simp only[Mh q3,Cs,UG,UA,Ve,hx];omega
     rw[e];rcases K8 (v:=v) (i:=i+1) (by omega) (by omega) with hneg | ⟨hlt,hle⟩
     ·exact⟨.ret (-1),KB (hb.trans (by rw[hneg,AO (by decide)])),by rw[hneg];rfl⟩
     ·obtain⟨o,ho1,ho2⟩:=JM hA hn L (Hi v (i+1)) (x+1) c.fStr (by omega) hle (by omega) (by omega) (λj hj=>hg j (by omega)) (by omega);exact⟨o,Ss (hb.trans (by rw[AN (U7 (by omega)),Bb (by omega) (by omega)])) ho1,by rw[ho2,show(n-(x+1)).toNat=k from by omega,U4 (show(0:Int)<x+1 from by omega),U7 (by omega)];rfl⟩
theorem Mo {i:Int}{c:Ao}{r:List Ao}(h0:0≤i)(hd:v.drop i.toNat=c::r)(hp:pl c=true):Hi v i=Ic (decide (c.fKind=6)) none v (i+1) c.fN.toNat:=by
 have g2:=(D3 h0 hd).2.1;have hN:=R1 hp;unfold Hi Ic;rw[hd,I6,g2,hp];simp only[UC,U9]
 cases hn:decide (0<c.fN) with
 | true=>
  simp only[UF]
  cases hq:Kr (decide (c.fKind=6)) none c.fN.toNat r with
  | none=>rfl
  | some q=>
   obtain⟨kids,zs⟩:=q;simp only[Fo.flat,Cs,List.nil_append,UA,List.append_nil];omega
 | false=>
  simp only[U1] at hn;rw[show c.fN.toNat=0 from by omega,I5];simp[Fo.flat,Cs]
theorem PR (hA:TQ (M+1) M v)(hN:∀c∈v,c.fN≤9223372036854775807):∀(d F:Nat) (i:Int),0≤i→i≤v.length→v.length-i.toNat=d→M+2*d+3<F→K5 F v i=some (Hi v i):=by
 have hM:=hA.hM;have hvM:=hA.hv;intro d
 induction d using Nat.strongRecOn with
 | ind d ih=>
  intro F i h0 h1 hd hF;obtain⟨F,rfl⟩:∃G,F=G+1:=⟨F-1,by omega⟩
  obtain⟨F,rfl⟩:∃G,F=G+1:=⟨F-1,by omega⟩
  rw[K5];unfold PQ
  cases hdr:v.drop i.toNat with
  | nil=>
   have hl:v.length≤i.toNat:=by simpa using hdr
   rw[AO (by simp;omega)];simp[Hi,hdr,PU]
  | cons c r=>
   obtain⟨g1,g2,g3⟩:=D3 h0 hdr;have hcM:=hA.hc c (UE g1);have hcN:=hN c (UE g1);rw[AN (by simp;omega),BU h0 g3,NZ h0 hdr];simp only[O9 _ h0 (show i≤1152921504606846976 by omega),Option.isSome_some,ov,UP,imp,Va,Bp (x:=_) (rfl:true=true)];have hg:∀j,i+1≤j→j≤v.length→K5 F v j=some (Hi v j):=λj hj hj2=>ih (v.length-j.toNat) (by omega) F j (by omega) hj2 rfl (by omega);have hpl0:pl c=false→Hi v i = -1:=λhp=>by simp[Hi,hdr,I6,hp]
   have hleaf:pl c=true→c.fN=0→Hi v i=i+1:=λhp h0'=>by simp[Hi,hdr,I6,hp,h0',Fo.flat,Cs]
   have hscal:∀b:Bool,pl c=b→(b=true→c.fN=0)→Hi v i=bif b then i+1 else -1:=λb hb hz=>by
    cases b
    ·exact hpl0 hb
    ·exact hleaf hb (hz rfl)
   by_cases k1:c.fKind=1
   ·rw[AO (by simp[k1])];have hp:pl c=(decide (c.fInt=0)&&(decide (c.fStr=[])&&decide (c.fN=0))):=by simp[pl,k1]
    rw[hscal _ hp (λh=>by simp at h;exact h.2.2)]
    cases decide (c.fInt=0)<;>cases decide (c.fStr=[])<;>cases decide (c.fN=0)<;>rfl
   rw[AN (by simp[k1])]
   by_cases k2:c.fKind=2
   ·rw[AO (by simp[k2])];have hp:pl c=((decide (c.fInt=0)||decide (c.fInt=1))&&(decide (c.fStr=[])&&decide (c.fN=0))):=by simp[pl,k2]
    rw[hscal _ hp (λh=>by simp at h;exact h.2.2)]
    cases decide (c.fInt=0)<;>cases decide (c.fInt=1)<;>cases decide (c.fStr=[])<;>cases decide (c.fN=0)<;>rfl
   rw[AN (by simp[k2])]
   by_cases k3:c.fKind=3
   ·rw[AO (by simp[k3])];have hp:pl c=(decide (c.fStr=[])&&decide (c.fN=0)):=by simp[pl,k3]
    rw[hscal _ hp (λh=>by simp at h;exact h.2)]
    cases decide (c.fStr=[])<;>cases decide (c.fN=0)<;>rfl
   rw[AN (by simp[k3])]
   by_cases k4:c.fKind=4
   ·rw[AO (by simp[k4]),N9 (by omega) (by omega),AU rfl,AU rfl];rw[U4 k4,UN,hscal (pl c) rfl (λhp=>by have:=(Lm hp k4).1;rw[this])]
   rw[AN (by simp[k4])]
   by_cases k5:c.fKind=5
   ·have hp:pl c=(decide (c.fInt=0)&&(decide (c.fStr=[])&&decide (0≤c.fN))):=by simp[pl,k5]
    rw[show(decide (c.fKind=5)&&(decide (c.fInt=0)&&(decide (c.fStr=[])&&decide (0≤c.fN))))=pl c from by rw[hp,U4 k5,UN]];have k5' : ¬ c.fKind=6:=by omega
    cases hb:pl c with
    | false=>rw[AN rfl,AN (by simp[k5]),hpl0 hb]
    | true=>
     have hn0:=R1 hb;rw[AO rfl,Bb (by omega) (by omega),K6];unfold JN;obtain⟨o,ho1,ho2⟩:=He (F:=F) ⟨hM,hvM,by omega,hA.hc⟩ hcN F (i+1) 0 (by omega) (by omega) (Vi 0) hn0 hg (by omega);rw[AU ho1,ho2,AU rfl,Mo h0 hdr hb,U7 k5',Int.sub_zero]
   rw[AN (by simp[k5])]
   by_cases k6:c.fKind=6
   ·have hp:pl c=(decide (c.fInt=0)&&(decide (c.fStr=[])&&decide (0≤c.fN))):=by simp[pl,k6]
    rw[show(decide (c.fKind=6)&&(decide (c.fInt=0)&&(decide (c.fStr=[])&&decide (0≤c.fN))))=pl c from by rw[hp,U4 k6,UN]]
    cases hb:pl c with
    | false=>rw[AN rfl,hpl0 hb]
    | true=>
     have hn0:=R1 hb;rw[AO rfl,Bb (by omega) (by omega),PP];unfold N8;obtain⟨o,ho1,ho2⟩:=JM (F:=F) ⟨hM,hvM,by omega,hA.hc⟩ hcN F (i+1) 0 [] (by omega) (by omega) (Vi 0) hn0 hg (by omega);rw[AU ho1,ho2,AU rfl,Mo h0 hdr hb,U4 k6,Int.sub_zero];rfl
   ·rw[AN (by simp[k6]),hpl0 (by simp[pl,k1,k2,k3,k4,k5,k6])]
end
structure MK (M:Nat) (v:List Ao):Prop where
 hM:M≤1000000000
 hv:v.length≤M
 hc:∀c∈v,c.fStr.length≤M∧BT .i64 c.fInt=true∧c.fN≤9223372036854775807
theorem MK.lk {M F:Nat}{v:List Ao}(h:MK M v)(hF:M<F):Oe F M v:=⟨by have:=h.hM;omega,by have:=h.hM;omega,h.hv,hF,h.hc⟩
theorem MK.rf {M F:Nat}{v:List Ao}(h:MK M v)(hF:M<F):TQ F M v:=⟨by have:=h.hM;omega,h.hv,hF,λc hc=>(h.hc c hc).1⟩
theorem MK.drop {M:Nat}{v:List Ao}(h:MK M v)(k:Nat):MK M (v.drop k):=⟨h.hM,by have:=h.hv;rw[List.length_drop];omega,λc hc=>h.hc c (List.mem_of_mem_drop hc)⟩
theorem MK.take {M:Nat}{v:List Ao}(h:MK M v)(k:Nat):MK M (v.take k):=⟨h.hM,by have:=h.hv;rw[List.length_take];omega,λc hc=>h.hc c (List.mem_of_mem_take hc)⟩
def whole (v:List Ao):Option Fo:=match G1 v with
 | some (f,[])=>some f
 | _=>none
def TH (f:Fo):Int:=
 bif f.flat.any OD then 2 else bif f.flat.any NN||(decide (200<f.flat.length)||(decide (8<f.dep)||decide (4000<(f.txt true).length))) then 3 else 0
def TG (v:List Ao):Int:=match whole v with
 | none=>1
 | some f=>TH f
theorem R4 {f:Fo}(h1:f.one=true):f.cnt=1:=by
 cases f with
 | nil=>cases h1
 | cell k c r=>cases k with
  | some _=>cases h1
  | none=>cases r with
   | nil=>rfl
   | _=>cases h1
 | node k c kids r=>cases k with
  | some _=>cases h1
  | none=>cases r with
   | nil=>rfl
   | _=>cases h1
theorem Ll (s:AA):I4 s≤2*s.length+2+s.length:=by
 have h1:s.count 34≤s.length:=List.count_le_length;have h2:s.count 92≤s.length:=List.count_le_length;unfold I4;omega
theorem SN {c:Ao}{M:Nat}(hp:pl c=true)(hs:c.fStr.length≤M)(hi:(Lib.itoa c.fInt).length≤21):QU c≤3*M+21:=by
 have:=Ll c.fStr;unfold QU
 cases h1:decide (c.fKind=1) with
 | true=>simp only[UF];omega
 | false=>
  cases h2:decide (c.fKind=2) with
  | true=>
   simp[pl,h1,h2] at hp;simp only[U9,UF];omega
  | false=>
   cases h3:decide (c.fKind=3) with
   | true=>simp only[U9,UF];omega
   | false=>cases h4:decide (c.fKind=4)<;>simp only[U9,UF]<;>omega
theorem L8 {M:Nat}:∀{f:Fo} {m:Bool} {l:Option AA},f.wf m l=true→(∀c∈f.flat,c.fStr.length≤M∧BT .i64 c.fInt=true∧c.fN≤9223372036854775807)→f.byt+f.cnt≤(3*M+24)*f.flat.length
 | .nil,_,_,_,_=>by simp[Fo.byt,Fo.flat,Fo.cnt]
 | .cell k c r,m,l,hw,hc=>by
  simp only[Fo.wf,U6,UK] at hw;obtain⟨⟨⟨w1,w2⟩,w3⟩,w4⟩:=hw;simp only[Fo.flat] at hc;have ih:=L8 w4 (λx hx=>hc x (by simp[hx]));obtain⟨c1,c2,c3⟩:=hc c (by simp);have i64:=GR c2;have hl:=SN w2 c1 (Lib.itoa_length_le c.fInt i64.1 i64.2);have hk:Lw k≤(3*M+24)*(Cs k).length:=by
   cases k with
   | none=>simp[Lw,Cs]
   | some s=>
    have:=(hc ⟨4,0,s,0⟩ (by simp[Cs])).1;have h2:=Ll s;simp only at this;simp only[Lw,Cs,Vb];omega
  simp only[Fo.byt,Fo.flat,Fo.cnt,UG,UA];have e:((3*(M:Int)+24)*(((Cs k).length+(r.flat.length+1):Nat):Int))=(3*(M:Int)+24)*(Cs k).length+((3*(M:Int)+24)*r.flat.length+(3*(M:Int)+24)):=by
   push_cast;rw[Int.mul_add,Int.mul_add,Int.mul_one]
  rw[e]
  push_cast at *
  omega
 | .node k c kids r,m,l,hw,hc=>by
  simp only[Fo.wf,U6,U2] at hw;obtain⟨⟨⟨⟨⟨w1,w2⟩,w3⟩,w5⟩,w6⟩,w4⟩:=hw;simp only[Fo.flat] at hc;have ih:=L8 w4 (λx hx=>hc x (by simp[hx]));have ih2:=L8 w6 (λx hx=>hc x (by simp[hx]));have hcf:=CI kids;have hk:Lw k≤(3*M+24)*(Cs k).length:=by
   cases k with
   | none=>simp[Lw,Cs]
   | some s=>
    have:=(hc ⟨4,0,s,0⟩ (by simp[Cs])).1;have h2:=Ll s;simp only at this;simp only[Lw,Cs,Vb];omega
  simp only[Fo.byt,Fo.flat,Fo.cnt,UG,UA];have e:((3*(M:Int)+24)*(((Cs k).length+(kids.flat.length+r.flat.length+1):Nat):Int))=(3*(M:Int)+24)*(Cs k).length+((3*(M:Int)+24)*kids.flat.length+(3*(M:Int)+24)*r.flat.length+(3*(M:Int)+24)):=by
   push_cast;rw[Int.mul_add,Int.mul_add,Int.mul_add,Int.mul_one]
  rw[e]
  push_cast at *
  omega
theorem Pe {M:Nat}(hM:M≤1000000){f:Fo}{m:Bool}{l:Option AA}(hw:f.wf m l=true)(hl:f.flat.length≤M)(hc:∀c∈f.flat,c.fStr.length≤M∧BT .i64 c.fInt=true∧c.fN≤9223372036854775807):f.byt≤4000000000000:=by
 have:=L8 (M:=M) hw hc;have h2:(3*M+24)*f.flat.length≤(3*1000000+24)*1000000:=Nat.mul_le_mul (by omega) (by omega);have h3:(((3*M+24)*f.flat.length:Nat):Int)=(3*(M:Int)+24)*f.flat.length:=by push_cast;rfl
 omega
theorem Ou {M F:Nat}{v:List Ao}(hA:MK M v)(hM:M≤1000000)(hF:M<F):JE F v=some (TG v):=by
 unfold JE TG whole;have hvM:=hA.hv;rcases RA (hA.lk hF) with⟨f,ys,hp,hl⟩ | ⟨hp,sh',hl⟩
 ·rw[hl,AU rfl,hp];obtain⟨h1,h2,h3⟩:=Jz hp;have hlen:v.length=f.flat.length+ys.length:=by rw[h1];simp
  cases ys with
  | cons c r=>
   rw[AO];simp only[UA] at hlen;simp;omega
  | nil=>
   simp only[Ve,Nat.add_zero] at hlen;rw[AN (by simp[hlen])];have hc:∀c∈f.flat,c.fStr.length≤M∧BT .i64 c.fInt=true∧c.fN≤9223372036854775807:=λc hc=>hA.hc c (by rw[h1];simp[hc]);have hb:=Pe hM h2 (by omega) hc;have hb0:=Gh h2;have e1:(f.sh 0 Kk).fOutside=f.flat.any OD:=by rw[Lg];rfl
   have e2:(f.sh 0 Kk).fLong=f.flat.any NN:=by rw[Jv];rfl
   have e3:(f.sh 0 Kk).fDepth=f.dep:=by rw[HS f 0 Kk (by simp[Kk])];simp[Kk]
   have e4:(f.sh 0 Kk).fBytes=(f.txt true).length:=by
    rw[HT f false none 0 Kk h2 (by simp[Kk]) (by simp[Kk];omega),Jt f false none true h2,R4 h3];simp[Kk]
   simp only;rw[e1,e2,e3,e4,hlen];unfold TH
   cases f.flat.any OD with
   | true=>rw[AO rfl];rfl
   | false=>
    rw[AN rfl];have a1:decide ((200:Int)<(f.flat.length:Int))=decide (200<f.flat.length):=by rw[Vd];simp;omega
    have a2:decide ((8:Int)<(f.dep:Int))=decide (8<f.dep):=by rw[Vd];simp;omega
    have a3:decide ((4000:Int)<((f.txt true).length:Int))=decide (4000<(f.txt true).length):=by rw[Vd];simp;omega
    rw[a1,a2,a3]
    cases(f.flat.any NN||(decide (200<f.flat.length)||(decide (8<f.dep)||decide (4000<(f.txt true).length))))<;>rfl
 ·rw[hl,AU rfl,hp];rfl
section
variable {M : Nat} {v : List Ao}
theorem MK.next (hA:MK M v){F:Nat}(hF:3*M+3<F){p:Int}(h0:0≤p)(h1:p≤v.length):K5 F v p=some (Hi v p):=by
 have hM:=hA.hM;have hvM:=hA.hv;exact PR (hA.rf (UQ M)) (λc hc=>(hA.hc c hc).2.2) (v.length-p.toNat) F p h0 h1 rfl (by omega)
end
theorem Dz {R V:Type}(K:V→Option R)(v:V):BQ K (.go v)=K v:=rfl
section
variable {M : Nat} {v : List Ao}
end
section
variable {M : Nat} {v : List Ao}
end
section
variable {M : Nat}
end
section
variable {M : Nat}
end
def PH (v:List Ao):Bool:=!decide (300<v.length)&&v.all λc=>!decide (300<c.fStr.length)
def Qc (c:Ao):Bool:=BT .i64 c.fKind&&BT .i64 c.fInt&&QT c.fStr&&BT .i64 c.fN
theorem MK.of {v:List Ao}(hs:PH v=true)(hc:v.all Qc=true):MK 300 v:=by
 unfold PH at hs;simp only[U6,UK,U1,UR] at hs hc;refine⟨by decide,by omega,λc h=>?_⟩;obtain h1:=hs.2 c h;obtain h2:=hc c h;unfold Qc at h2;simp only[U6] at h2;exact⟨by omega,h2.1.1.2,(GR h2.2).2⟩
theorem SY (a:Bool):imp a true=true:=by cases a<;>rfl
section
variable {M : Nat}
end
theorem R9 {α:Type}{l:List α}{body:Int→Option (Stp Int (Out Bool Unit))}{bad:α→Bool}(hb:∀(i:Nat) (h:i<l.length),body (i:Int)=some (bif bad l[i] then .out (.ret false) else .next ((i:Int)+1)))(he:body (l.length:Int)=some (.out (.go ()))) :
  ∀(d n i:Nat),i+d=l.length→d<n→∃o,BP body n (i:Int)=some o∧∀k:Option Bool,BQ (λ_=>k) o=bif (l.drop i).any bad then some false else k:=by
 intro d
 induction d with
 | zero=>
  intro n i h hn;obtain⟨n,rfl⟩:∃m,n=m+1:=⟨n-1,by omega⟩
  obtain rfl:i=l.length:=by omega
  refine⟨.go (),by rw[BP,he],λk=>?_⟩;rw[List.drop_length];rfl
 | succ d ih=>
  intro n i h hn;obtain⟨n,rfl⟩:∃m,n=m+1:=⟨n-1,by omega⟩
  have hi:i<l.length:=by omega
  have hd:=List.drop_eq_getElem_cons hi;have h1:=hb i hi
  cases hq:bad l[i] with
  | true=>
   rw[hq] at h1;refine⟨.ret false,by rw[BP,h1];rfl,λk=>?_⟩;rw[hd,List.any_cons,hq];rfl
  | false=>
   rw[hq] at h1;obtain⟨o,h2,h3⟩:=ih n (i+1) (by omega) (by omega);refine⟨o,by rw[BP,h1];exact h2,λk=>?_⟩;rw[h3 k,hd,List.any_cons,hq,UH]
theorem Mu {α:Type}{l:List α}{body:Int→Option (Stp Int (Out Bool Unit))}{bad:α→Bool}{F:Nat}(hF:l.length<F)(hb:∀(i:Nat) (h:i<l.length),body (i:Int)=some (bif bad l[i] then .out (.ret false) else .next ((i:Int)+1)))(he:body (l.length:Int)=some (.out (.go ())))(k:Option Bool) :
  B5 (BP body F 0) (BQ λ_=>k)=bif l.any bad then some false else k:=by
 obtain⟨o,h1,h2⟩:=R9 hb he l.length F 0 (by omega) hF;have h1':BP body F 0=some o:=h1;rw[AU h1',h2 k,List.drop_zero]
theorem En {α:Type}(n:Nat)(f:List α):decide (((n:Nat):Int)<(f.length:Int))=decide (n<f.length):=by rw[Vd];simp
theorem Gi {α:Type}[Inhabited α]{l:List α}{i:Nat}(h:i<l.length):Ac l (i:Int)=l[i]:=by simp[Ac,h]
def Pf (e:Aw):Bool:=decide (300<e.fID.length)||(decide (300<e.fTenant.length)||(decide (300<e.fSource.length)||(decide (300<e.fKey.length)||(decide (300<e.fCause.length)||decide (300<e.fBody.length)))))
def De (e:Aw):Bool:=!Pf e&&!e.fBody.any λc=>decide (5000<c.fStr.length)
theorem JL {F:Nat}(hF:300<F)(e:Aw):BL F e=some (De e):=by
 unfold BL De;have hbig:((decide (300<(e.fID.length:Int)))||((decide (300<(e.fTenant.length:Int)))||((decide (300<(e.fSource.length:Int)))||((decide (300<(e.fKey.length:Int)))||((decide (300<(e.fCause.length:Int)))||(decide (300<(e.fBody.length:Int))))))))=Pf e:=by
  unfold Pf;rw[← En 300 e.fID,← En 300 e.fTenant,← En 300 e.fSource,← En 300 e.fKey,← En 300 e.fCause,← En 300 e.fBody];rfl
 rw[hbig]
 cases hb:Pf e with
 | true=>rfl
 | false=>
  have hl:e.fBody.length≤300:=by
   unfold Pf at hb;simp only[UY,U1] at hb;omega
  have h:=Mu (l:=e.fBody) (F:=F) (body:=λσ=>Cc e σ) (bad:=λc=>decide (5000<c.fStr.length)) (by omega) (λi h=>by
   unfold Cc;rw[AO (U4 (by omega)),BU (by omega) (by omega),Gi h,Bb (by omega) (by omega)];have:=En 5000 (e.fBody[i]).fStr;rw[show decide ((5000:Int)<((e.fBody[i]).fStr.length:Int))=decide (5000<(e.fBody[i]).fStr.length) from this]
   cases decide (5000<(e.fBody[i]).fStr.length)<;>rfl) (by unfold Cc;rw[AN (U7 (by omega))]) (some true)
  rw[AN rfl];exact h.trans (by cases e.fBody.any _<;>rfl)
def Ir (o:AI):Bool:=!De o.fEvent||decide (300<o.fReceipt.length)
def G0 (l:List AI):Bool:=!decide (300<l.length)&&!l.any Ir
theorem Mw {F:Nat}(hF:300<F)(l:List AI):G7 F l=some (G0 l):=by
 unfold G7 G0;rw[show decide ((300:Int)<(l.length:Int))=decide (300<l.length) from En 300 l]
 cases hb:decide (300<l.length) with
 | true=>rfl
 | false=>
  simp only[U1] at hb;have h:=Mu (l:=l) (F:=F) (body:=λσ=>CF F l σ) (bad:=Ir) (by omega) (λi h=>by
   unfold CF;rw[AO (U4 (by omega)),BU (by omega) (by omega),Gi h,JL hF,Option.isSome_some,Bp rfl,Bb (by omega) (by omega),show decide ((300:Int)<((l[i]).fReceipt.length:Int))=decide (300<(l[i]).fReceipt.length) from En 300 _];have:((!(ov (some (De (l[i]).fEvent))))||(decide (300<((l[i]).fReceipt).length)))=Ir l[i]:=rfl;rw[this]
   cases Ir l[i]<;>rfl) (by unfold CF;rw[AN (U7 (by omega))]) (some true)
  rw[AN rfl];exact h.trans (by cases l.any _<;>rfl)
theorem JJ:∀a:AA,BJ a a=false
 | []=>rfl
 | x::a=>by
  show Op.bytesLess (x::a) (x::a)=false;have h : ¬ x<x:=λh=>absurd h (by simp);have ih:Op.bytesLess a a=false:=JJ a;simp[Op.bytesLess,h,ih]
theorem Ld (x y:UInt8)(a b:AA):BJ (x::a) (y::b)=(decide (x<y)||(decide (x=y)&&BJ a b)):=by
 show Op.bytesLess (x::a) (y::b)=_;simp only[Op.bytesLess]
 by_cases h:x<y
 ·simp[h]
 ·by_cases e:x=y
  ·subst e;simp[h]
  ·have:y<x:=by
    rcases Nat.lt_trichotomy x.toNat y.toNat with h1 | h1 | h1
    ·exact absurd (UInt8.lt_iff_toNat_lt.2 h1) h
    ·exact absurd (UInt8.toNat_inj.1 h1) e
    ·exact UInt8.lt_iff_toNat_lt.2 h1
   simp[h,e,this]
theorem JI:∀{a b c:AA},BJ a b=true→BJ b c=true→BJ a c=true
 | [],[],_,h,_=>by cases h
 | [],_::_,[],_,h=>by cases h
 | [],_::_,_::_,_,_=>rfl
 | _::_,[],_,h,_=>by cases h
 | _::_,_::_,[],_,h=>by cases h
 | x::a,y::b,z::c,h,h'=>by
  rw[Ld] at h h' ⊢;simp only[UV,U2,U6] at h h' ⊢;have t:∀{u v:UInt8},u<v↔u.toNat<v.toNat:=UInt8.lt_iff_toNat_lt;rcases h with h | ⟨rfl,h⟩
  ·rcases h' with h' | ⟨rfl,h'⟩
   ·exact .inl (t.2 (Nat.lt_trans (t.1 h) (t.1 h')))
   ·exact .inl h
  ·rcases h' with h' | ⟨rfl,h'⟩
   ·exact .inl h'
   ·exact .inr ⟨rfl,JI h h'⟩
theorem Ma:∀(a b:AA),BJ a b=true∨a=b∨BJ b a=true
 | [],[]=>.inr (.inl rfl)
 | [],_::_=>.inl rfl
 | _::_,[]=>.inr (.inr rfl)
 | x::a,y::b=>by
  rw[Ld,Ld];simp only[UV,U2,U6];rcases Nat.lt_trichotomy x.toNat y.toNat with h1 | h1 | h1
  ·exact .inl (.inl (UInt8.lt_iff_toNat_lt.2 h1))
  ·have e:=UInt8.toNat_inj.1 h1;subst e;rcases Ma a b with h | rfl | h
   ·exact .inl (.inr ⟨rfl,h⟩)
   ·exact .inr (.inl rfl)
   ·exact .inr (.inr (.inr ⟨rfl,h⟩))
  ·exact .inr (.inr (.inl (UInt8.lt_iff_toNat_lt.2 h1)))
theorem Tx {a b:AA}(h:BJ a b=true):a≠b:=λe=>by subst e;rw[JJ] at h;cases h
section
variable {T : Type}
def Ms (xs:List (AA×T)):Prop:=xs.Pairwise λp q=>BJ p.1 q.1=true
theorem Ms.nil:Ms ([]:List (AA×T)):=List.Pairwise.nil
theorem Ms.nodup {xs:List (AA×T)}(h:Ms xs):(xs.map (·.1)).Nodup:=by
 rw[List.Nodup,List.pairwise_map];exact h.imp λhpq=>Tx hpq
theorem Id {xs:List (AA×T)}{k:AA}:mget xs k=none↔∀p∈xs,p.1≠k:=by
 induction xs with
 | nil=>simp[mget]
 | cons p r ih=>
  rw[mget]
  by_cases h:p.1=k
  ·rw[U4 h];simp[h]
  ·rw[U7 h];simp[h,ih]
theorem Hl {xs:List (AA×T)}{k:AA}{v:T}(h:mget xs k=some v):(k,v)∈xs:=by
 induction xs with
 | nil=>cases h
 | cons p r ih=>
  rw[mget] at h
  by_cases e:p.1=k
  ·rw[U4 e] at h;cases h;subst e;exact List.mem_cons_self ..
  ·rw[U7 e] at h;exact List.mem_cons_of_mem _ (ih h)
theorem Mr {k:AA}{v:T}{q:AA×T}:∀{xs:List (AA×T)},q∈mins k v xs→q=(k,v)∨q∈xs
 | [],h=>by simp[mins] at h;exact .inl h
 | p::r,h=>by
  rw[mins] at h
  cases hs:BJ k p.1 with
  | true=>rw[hs] at h;simpa using h
  | false=>
   rw[hs] at h;rcases List.mem_cons.1 h with h | h
   ·exact .inr (by rw[h];exact List.mem_cons_self ..)
   ·rcases Mr h with h | h
    ·exact .inl h
    ·exact .inr (List.mem_cons_of_mem _ h)
theorem Ms.mins {k:AA}{v:T}:∀{xs:List (AA×T)},Ms xs→mget xs k=none→Ms (mins k v xs)
 | [],_,_=>List.pairwise_singleton ..
 | p::r,h,hk=>by
  obtain⟨h1,h2⟩:=List.pairwise_cons.1 h;rw[mget] at hk
  by_cases e:p.1=k
  ·rw[U4 e] at hk;cases hk
  ·rw[U7 e] at hk;rw[Proofs.YthbbedliepkakaaGreatDoor.mins]
   cases hs:BJ k p.1 with
   | true=>exact List.pairwise_cons.2 ⟨λq hq=>by
     rcases List.mem_cons.1 hq with rfl | hq
     ·exact hs
     ·exact JI hs (h1 q hq),h⟩
   | false=>
    have hp:BJ p.1 k=true:=by
     rcases Ma p.1 k with h | h | h
     ·exact h
     ·exact absurd h e
     ·rw[h] at hs;cases hs
    exact List.pairwise_cons.2 ⟨λq hq=>by
     rcases Mr hq with rfl | hq
     ·exact hp
     ·exact h1 q hq,Ms.mins h2 hk⟩
theorem Ms.mput {xs:List (AA×T)}(h:Ms xs)(k:AA)(v:T):Ms (mput xs k v):=by
 unfold Proofs.YthbbedliepkakaaGreatDoor.mput;unfold Ms;rw[List.pairwise_map];refine h.imp fun {p q} hpq=>?_;have e:∀p:AA×T,(bif decide (p.1=k) then(k,v) else p).1=p.1:=λp=>by
  by_cases hp:p.1=k
  ·rw[U4 hp];exact hp.symm
  ·rw[U7 hp];rfl
 rw[e,e];exact hpq
theorem Ms.mset {xs:List (AA×T)}(h:Ms xs)(k:AA)(v:T):Ms (mset xs k v):=by
 unfold Proofs.YthbbedliepkakaaGreatDoor.mset Ck
 cases hk:mget xs k with
 | none=>exact h.mins hk
 | some w=>exact h.mput k v
theorem Ms.mdel {xs:List (AA×T)}(h:Ms xs)(k:AA):Ms (mdel xs k):=h.sublist (List.filter_sublist ..)
theorem Ms.ext:∀{xs ys:List (AA×T)},Ms xs→Ms ys→(∀k,mget xs k=mget ys k)→xs=ys
 | [],[],_,_,_=>rfl
 | [],q::s,_,_,h=>by
  have:=h q.1;rw[mget,mget,U4 rfl] at this;cases this
 | p::r,[],_,_,h=>by
  have:=h p.1;rw[mget,mget,U4 rfl] at this;cases this
 | p::r,q::s,hx,hy,h=>by
  obtain⟨x1,x2⟩:=List.pairwise_cons.1 hx;obtain⟨y1,y2⟩:=List.pairwise_cons.1 hy;have hpq:p.1=q.1:=by
   have a1:=h p.1;have a2:=h q.1;rw[mget,U4 rfl] at a1;rw[show mget (q::s) q.1=bif decide (q.1=q.1) then some q.2 else mget s q.1 from rfl,U4 rfl] at a2;simp only[UF] at a1 a2;have m1:=Hl a1.symm;have m2:=Hl a2;rcases List.mem_cons.1 m1 with e | m1
   ·exact congrArg Prod.fst e
   ·rcases List.mem_cons.1 m2 with e | m2
    ·exact(congrArg Prod.fst e).symm
    ·have c1:=y1 _ m1;have c2:=x1 _ m2;have:=JI c1 c2;rw[JJ] at this;cases this
  have e:p=q:=by
   have a1:=h p.1;rw[mget,U4 rfl,mget,U4 hpq.symm] at a1;simp only[UF,Option.some.injEq] at a1;exact Prod.ext hpq a1
  subst e;rw[Ms.ext x2 y2 λk=>by
   have a1:=h k;rw[mget,mget] at a1
   by_cases e:p.1=k
   ·have n1:mget r k=none:=Id.2 λz hz e'=>by have:=x1 z hz;rw[e',← e,JJ] at this;cases this
    have n2:mget s k=none:=Id.2 λz hz e'=>by have:=y1 z hz;rw[e',← e,JJ] at this;cases this
    rw[n1,n2]
   ·rw[U7 e] at a1;exact a1]
end
section
variable {T : Type}
end
def IB (ps:List Ab)(x y:Int):Bool:=CB (Ac ps x).fAt (Ac ps y).fAt (Ac ps x).fPlace (Ac ps y).fPlace
theorem Ue (ps:List Ab):Sw (IB ps):=NL (λx:Int=>(Ac ps x).fAt) (λx=>(Ac ps x).fPlace)
theorem K4 {T:Type}{lt:T→T→Bool}:∀{xs:List T},(xs.Pairwise λa b=>(lt a b||lt b a)=true)→Dx lt xs=true
 | [],_=>rfl
 | x::r,h=>by
  rw[List.pairwise_cons] at h;simp only[Dx,U6,UR];exact⟨λy hy=>h.1 y hy,K4 h.2⟩
theorem Ns {ps:List Ab}{xs:List Int}(h:xs.Pairwise λi j=>(Ac ps i).fPlace<(Ac ps j).fPlace):Dx (IB ps) xs=true:=
 K4 (h.imp fun {i j} hij=>by
  unfold IB CB;simp only[UV,U6,U2];omega)
def E5 (ps:List Ab)(i:Int):Aw:=(Ac ps i).fEvent
def TI (e:Aw):Prop:=e.fID.length≤300∧e.fBody.length≤300∧DO e.fID=true
structure QI (q:Ah) (ps:List Ab) (idx:List Int):Prop where
 vis:1≤q.fPolicy.fVisible∧q.fPolicy.fVisible≤1073741824
 rcs:1≤q.fPolicy.fReceives∧q.fPolicy.fReceives≤10
 pm:q.fWaiting.Perm (idx.map λi=>((Ac ps i).fEvent.fID,i))
 inr:∀i∈idx,C2 i (ps.length:Int)=true
 ord:idx.Pairwise λi j=>(Ac ps i).fPlace<(Ac ps j).fPlace
 plc:∀i∈idx,(Ac ps i).fPlace<q.fArrived
 ids:(idx.map (λi=>(Ac ps i).fEvent.fID)++q.fDead.map (·.fID)).Nodup
 now:0≤q.fNow∧q.fNow≤1073741824
 ats:∀i∈idx,0≤(Ac ps i).fAt∧(Ac ps i).fAt≤2147483648
 rcv:∀i∈idx,0≤(Ac ps i).fReceives∧(Ac ps i).fReceives≤q.fPolicy.fReceives
 cnt:idx.length+q.fDead.length≤256
 sm:∀i∈idx,TI (E5 ps i)
 smd:∀e∈q.fDead,TI e
theorem QI.wlen {q:Ah}{ps:List Ab}{idx:List Int}(h:QI q ps idx):q.fWaiting.length=idx.length:=by rw[h.pm.length_eq,UB]
theorem Tk {α:Type}{n:Nat}{x:Option α}(h:n≤1000000):Bn (JX 8 n) x=x:=Bp (U4 (by omega))
theorem Mi {b:AA→Int→List Int→Option (Stp (List Int) (Out (List Int) (List Int)))}{holds:Int→Bool}{idx:List Int}(hb:∀(s:AA) (i:Int) (acc:List Int),i∈idx→acc.length≤100000→b s i acc=some (.next (bif holds i then acc++[i] else acc))) :
  ∀(o:List (AA×Int)) (s:List Int),s.length+o.length≤100000→(∀p∈o,p.2∈idx)→Kt (λpe τ=>b pe.1 pe.2 τ) o s=some (.go (s++(o.map (·.2)).filter holds))
 | [],s,_,_=>by simp[Kt]
 | p::r,s,hl,h=>by
  simp only[UA] at hl;have e:=hb p.1 p.2 s (h p (List.mem_cons_self ..)) (by omega);rw[Kt,e];simp only;rw[Mi hb r _ (by cases holds p.2<;>simp<;>omega) λq hq=>h q (List.mem_cons_of_mem _ hq)]
  cases hq:holds p.2<;>simp[hq]
theorem HW {ps:List Ab}{holds:Int→Bool}{ws:List (AA×Int)}{idx:List Int}{b:AA→Int→List Int→Option (Stp (List Int) (Out (List Int) (List Int)))}{k:List Int→Option (List Int)}
  (hpm:(ws.map (·.2)).Perm idx) (hl:idx.length≤256) (hin:∀i∈idx,C2 i (ps.length:Int)=true) (ho:idx.Pairwise λi j=>(Ac ps i).fPlace<(Ac ps j).fPlace)
  (hb:∀(s:AA) (i:Int) (acc:List Int),i∈idx→acc.length≤100000→b s i acc=some (.next (bif holds i then acc++[i] else acc)))
  (hk:∀acc,k acc=(Bn (acc.all (λi=>C2 i (ps.length:Int)))<|Bn (Dx (IB ps) acc)<|Bn (Nat.blt acc.length 4611686018427387904)<|some (Gd (IB ps) acc))) :
  Lp ws (λord=>B5 (Kt (λpe τ=>b pe.1 pe.2 τ) ord ([]:List Int)) (BQ λν=>k ν))=some (Gd (IB ps) (idx.filter holds)):=by
 refine SL λo hp=>?_;have hpo:(o.map (·.2)).Perm idx:=(hp.map _).trans hpm;have hlo:o.length=idx.length:=by rw[← hpo.length_eq,UB]
 rw[Mi hb o [] (by simp;omega) (λp hp'=>hpo.subset (List.mem_map_of_mem hp')),AU rfl,Dz,hk,List.nil_append];have hpf:((o.map (·.2)).filter holds).Perm (idx.filter holds):=hpo.filter _;have hdf:Dx (IB ps) (idx.filter holds)=true:=Ns (ho.filter _);have hall:((o.map (·.2)).filter holds).all (λi=>C2 i (ps.length:Int))=true:=by
  rw[UR];exact λi hi=>hin i (hpo.subset (List.mem_filter.1 hi).1)
 have hle:((o.map (·.2)).filter holds).length≤256:=Nat.le_trans (List.length_filter_le _ _) (by rw[UB];omega);rw[Bp hall,Bp (Nh hdf hpf),Bp (by simp;omega),O0 (Ue ps) hdf hpf]
theorem QI.vals {q:Ah}{ps:List Ab}{idx:List Int}(h:QI q ps idx):(q.fWaiting.map (·.2)).Perm idx:=by
 have:=h.pm.map (·.2)
 rwa [Vr,show((λp:AA×Int=>p.2) ∘ λi=>((Ac ps i).fEvent.fID,i))=id from rfl,List.map_id] at this
theorem QI.in' {q:Ah}{ps:List Ab}{idx:List Int}(h:QI q ps idx){i:Int}(hi:i∈idx):decide (0≤i)=true:=U4 (Bl (h.inr i hi)).1
def Cg (q:Ah)(ps:List Ab)(now:Int)(i:Int):Bool:=decide ((Ac ps i).fAt≤now)&&decide (q.fPolicy.fReceives≤(Ac ps i).fReceives)
def Cb (ps:List Ab)(now:Int)(i:Int):Bool:=decide ((Ac ps i).fAt≤now)
theorem Iq {b:Bool}{i:Int}{acc:List Int}(h:acc.length≤100000):B7 b (Bn (JX 8 (acc.length+([i]:List Int).length))<|some (Stp.next (acc++([i]:List Int)):Stp (List Int) (Out (List Int) (List Int)))) (some (.next acc))=some (.next (bif b then acc++[i] else acc)):=by
 cases b with
 | true=>rw[AO rfl,Tk (by simp;omega)];rfl
 | false=>rfl
theorem LW {q:Ah}{ps:List Ab}{idx:List Int}(h:QI q ps idx)(q':Ah)(hw:q'.fWaiting=q.fWaiting)(hp:q'.fPolicy=q.fPolicy)(now:Int):Gz q' ps now=some (Gd (IB ps) (idx.filter (Cg q ps now))):=by
 unfold Gz;rw[hw];refine HW h.vals (by have:=h.cnt;omega) h.inr h.ord (λs i acc hi ha=>?_) (λacc=>rfl);unfold DY Rn K0;rw[Bp (h.in' hi),Bp (h.inr i hi),AU rfl,AU rfl];simp only[hp];exact Iq ha
theorem IV {q:Ah}{ps:List Ab}{idx:List Int}(h:QI q ps idx)(now:Int):Gw q ps now=some (Gd (IB ps) (idx.filter (Cb ps now))):=by
 unfold Gw;refine HW h.vals (by have:=h.cnt;omega) h.inr h.ord (λs i acc hi ha=>?_) (λacc=>rfl);unfold DV Ri;rw[Bp (h.in' hi),Bp (h.inr i hi),AU rfl];exact Iq ha
theorem LV {q:Ah}{ps:List Ab}{idx:List Int}(h:QI q ps idx)(now:Int):Gy q ps now=some (Gd (IB ps) (idx.filter (Cb ps now))):=by
 unfold Gy;refine HW h.vals (by have:=h.cnt;omega) h.inr h.ord (λs i acc hi ha=>?_) (λacc=>rfl);unfold DX Rm;rw[Bp (h.in' hi),Bp (h.inr i hi),AU rfl];exact Iq ha
theorem LU {q:Ah}{ps:List Ab}{idx:List Int}(h:QI q ps idx)(now:Int):Gx q ps now=some (Gd (IB ps) (idx.filter (Cg q ps now))):=by
 unfold Gx;refine HW h.vals (by have:=h.cnt;omega) h.inr h.ord (λs i acc hi ha=>?_) (λacc=>rfl);unfold DW Rl K0;rw[Bp (h.in' hi),Bp (h.inr i hi),AU rfl,AU rfl];exact Iq ha
theorem Lc {T:Type}(lt:T→T→Bool)(xs:List T):(Gd lt xs).length=xs.length:=(CW lt xs).length_eq
theorem Hx {q:Ah}{ps:List Ab}{idx:List Int}(h:QI q ps idx)(now:Int) :
  Gb q ps now=some (if q.fNow≤now∧now≤1073741824 then(((idx.filter (Cb ps now)).length:Int)-((idx.filter (Cg q ps now)).length:Int),(idx.length:Int)-((idx.filter (Cb ps now)).length:Int),(q.fDead.length:Int)+((idx.filter (Cg q ps now)).length:Int)) else(0,0,0)):=by
 unfold Gb HR Dn;have hc:=h.cnt;have l1:(idx.filter (Cb ps now)).length≤idx.length:=List.length_filter_le _ _;have l2:(idx.filter (Cg q ps now)).length≤idx.length:=List.length_filter_le _ _
 by_cases h1:q.fNow≤now
 ·rw[AO (U4 h1),AU rfl]
  by_cases h2:now≤1073741824
  ·rw[U4 h2,AN (p:=!true) rfl,LV h,AU rfl,LU h,AU rfl,Lc,Lc,h.wlen,Bb (by omega) (by omega),Bb (by omega) (by omega),Bb (by omega) (by omega),UM ⟨h1,h2⟩]
  ·rw[U7 h2,AO (p:=!false) rfl,UD (λe=>h2 e.2)]
 ·rw[AN (U7 h1),AU rfl,AO (p:=!false) rfl,UD (λe=>h1 e.1)]
theorem JF (n:Int):JG n=some (decide (0≤n∧n≤1073741824)):=by
 unfold JG;rw[Bool.decide_and]
def Jo (ps:List Ab)(P:List Int)(ws:List (AA×Int)):List (AA×Int):=ws.filter λp=>!P.any λi=>decide (p.1=(E5 ps i).fID)
theorem OX (ps:List Ab)(i:Int)(P:List Int)(ws:List (AA×Int)):Jo ps P (mdel ws (E5 ps i).fID)=Jo ps (i::P) ws:=by
 unfold Jo mdel;rw[List.filter_filter];refine List.filter_congr λp _=>?_;rw[List.any_cons]
 cases decide (p.1=(E5 ps i).fID)<;>simp
theorem QE {α:Type}{n:Nat}{x:Option α}(h:n≤1000000):Bn (JX 112 n) x=x:=Bp (U4 (by omega))
theorem QN {ps:List Ab}{P:List Int}(hin:∀i∈P,C2 i (ps.length:Int)=true)(hP:P.length≤256):∀(d n j:Nat) (D:List Aw) (ws:List (AA×Int)),j+d=P.length→d<n→D.length+d≤100000→
  BP (λσ=>Cm ps P σ.1 σ.2.1 σ.2.2) n ((j:Int),D,ws)=some (.go (D++(P.drop j).map (E5 ps),Jo ps (P.drop j) ws)):=by
 intro d
 induction d with
 | zero=>
  intro n j D ws h hn hD;obtain⟨n,rfl⟩:∃m,n=m+1:=⟨n-1,by omega⟩
  have hb:Cm ps P (j:Int) D ws=some (.out (.go (D,ws))):=by unfold Cm;rw[AN (U7 (by omega))]
  rw[BP];simp only[hb];rw[List.drop_of_length_le (by omega),List.map_nil,List.append_nil,show Jo ps [] ws=ws from List.filter_eq_self.2 λ_ _=>rfl]
 | succ d ih=>
  intro n j D ws h hn hD;obtain⟨n,rfl⟩:∃m,n=m+1:=⟨n-1,by omega⟩
  have hj:j<P.length:=by omega
  have hi:=hin P[j] (List.getElem_mem hj);have hb:Cm ps P (j:Int) D ws=some (.next (((j+1:Nat):Int),D++[E5 ps P[j]],mdel ws (E5 ps P[j]).fID)):=by
   unfold Cm;rw[AO (U4 (by omega)),BU (by omega) (by omega),Gi hj,Bp (U4 (Bl hi).1),Bp hi,QE (by simp;omega),Bb (by omega) (by omega)];rfl
  rw[BP];simp only[hb];rw[ih n (j+1) _ _ (by omega) (by omega) (by simp;omega),List.drop_eq_getElem_cons hj,OX,Vg];rfl
def IO (q:Ah)(ps:List Ab)(idx:List Int)(now:Int):List Int:=Gd (IB ps) (idx.filter (Cg q ps now))
def By (q:Ah)(ps:List Ab)(idx:List Int)(now:Int):Ah:=⟨q.fPolicy,Jo ps (IO q ps idx now) q.fWaiting,q.fDead++(IO q ps idx now).map (E5 ps),now,q.fArrived⟩
def B1 (q:Ah)(ps:List Ab)(idx:List Int)(now:Int):List Int:=idx.filter λi=>!Cg q ps now i
def D4 (q:Ah)(now:Int):Int:=if 0≤now∧now≤1073741824 then if now<q.fNow then 11 else 0 else 2
theorem EX (q:Ah)(ps:List Ab)(idx:List Int)(now:Int):(IO q ps idx now).Perm (idx.filter (Cg q ps now)):=CW _ _
theorem Ev {F:Nat}(hF:300<F){q:Ah}{ps:List Ab}{idx:List Int}(h:QI q ps idx)(now:Int) :
  E9 F q ps now=some (D4 q now,if D4 q now=0 then By q ps idx now else q,ps):=by
 unfold E9 D4;rw[JF,AU rfl]
 by_cases h1:0≤now∧now≤1073741824
 ·rw[U4 h1,AN (p:=!true) rfl,UM h1]
  by_cases h2:now<q.fNow
  ·rw[AO (U4 h2),UM h2];rfl
  ·rw[AN (U7 h2),UD h2,LW h ⟨q.fPolicy,q.fWaiting,q.fDead,now,q.fArrived⟩ rfl rfl,AU rfl];have hc:=h.cnt;have hpm:=EX q ps idx now;have hl:(IO q ps idx now).length≤256:=by
    rw[hpm.length_eq];exact Nat.le_trans (List.length_filter_le _ _) (by omega)
   have hlop:=QN (ps:=ps) (P:=IO q ps idx now) (λi hi=>h.inr i (List.mem_filter.1 (hpm.subset hi)).1) hl (IO q ps idx now).length F 0 q.fDead q.fWaiting (by omega) (by omega) (by omega);have hlop':BP (λσ=>Cm ps (Gd (IB ps) (idx.filter (Cg q ps now))) σ.1 σ.2.1 σ.2.2) F ((0:Int),q.fDead,q.fWaiting)=_:=hlop;rw[hlop',AU rfl,Dz,List.drop_zero];rfl
 ·rw[U7 h1,AO (p:=!false) rfl,UD h1];rfl
theorem G5 {ps:List Ab}{idx P:List Int}{over:Int→Bool}(hP:P.Perm (idx.filter over))(hids:(idx.map λi=>(E5 ps i).fID).Nodup) :
  Jo ps P (idx.map λi=>((E5 ps i).fID,i))=(idx.filter λi=>!over i).map λi=>((E5 ps i).fID,i):=by
 unfold Jo;rw[List.filter_map]
 congr 1
 refine List.filter_congr λi hi=>?_;show(!P.any λk=>decide ((E5 ps i).fID=(E5 ps k).fID)) = !over i
 congr 1
 rw[Vd,List.any_eq_true];constructor
 ·rintro⟨k,hk,he⟩;have hk':=List.mem_filter.1 (hP.subset hk);have e:i=k:=(HX (R:=λa b=>(E5 ps a).fID≠(E5 ps b).fID) (λx y h e=>h e.symm) (List.pairwise_map.1 hids) i k hi hk'.1).resolve_right (λhne=>hne (Vl he));rw[e];exact hk'.2
 ·intro ho;exact⟨i,hP.symm.subset (List.mem_filter.2 ⟨hi,ho⟩),U4 rfl⟩
theorem KJ {ps:List Ab}{P:List Int}{a b:List (AA×Int)}(h:a.Perm b):(Jo ps P a).Perm (Jo ps P b):=h.filter _
theorem DF {q:Ah}{ps:List Ab}{idx:List Int}(h:QI q ps idx){now:Int}(hn:0≤now∧now≤1073741824):QI (By q ps idx now) ps (B1 q ps idx now):=by
 have hpm:=EX q ps idx now;have hids:(idx.map λi=>(E5 ps i).fID).Nodup:=(List.nodup_append.1 h.ids).1;have hsub:∀i∈B1 q ps idx now,i∈idx:=λi hi=>(List.mem_filter.1 hi).1;refine⟨h.vis,h.rcs,?_,λi hi=>h.inr i (hsub i hi),h.ord.filter _,λi hi=>h.plc i (hsub i hi),?_,hn,λi hi=>h.ats i (hsub i hi),λi hi=>h.rcv i (hsub i hi),?_,λi hi=>h.sm i (hsub i hi),λe he=>?_⟩
 ·have h1:=KJ (ps:=ps) (P:=IO q ps idx now) h.pm;have h2:=G5 (ps:=ps) hpm hids;exact h1.trans (List.Perm.of_eq h2)
 ·have h3:((B1 q ps idx now).map (λi=>(E5 ps i).fID)++(q.fDead++(IO q ps idx now).map (E5 ps)).map (·.fID)).Perm (idx.map (λi=>(E5 ps i).fID)++q.fDead.map (·.fID)):=by
   rw[Vq,Vr];have h4:(idx.map λi=>(E5 ps i).fID).Perm ((IO q ps idx now).map (λi=>(E5 ps i).fID)++(B1 q ps idx now).map λi=>(E5 ps i).fID):=by
    rw[← Vq];exact((List.filter_append_perm (Cg q ps now) idx).symm.trans (hpm.symm.append_right _)).map _
   refine List.Perm.symm ?_;refine(h4.append_right _).trans ?_;rw[Vg];refine(List.perm_append_comm).trans ?_;rw[Vg];exact U3 _
  exact h3.symm.nodup h.ids
 ·have h5:=(List.filter_append_perm (Cg q ps now) idx).length_eq;have h6:=hpm.length_eq;have hc:=h.cnt;show(B1 q ps idx now).length+(q.fDead++(IO q ps idx now).map (E5 ps)).length≤256;rw[UG] at h5;rw[UG,UB,h6];unfold B1;omega
 ·rcases List.mem_append.1 he with h7 | h7
  ·exact h.smd e h7
  ·obtain⟨i,hi,rfl⟩:=List.mem_map.1 h7;exact h.sm i (List.mem_filter.1 (hpm.subset hi)).1
theorem It (q:Ah)(ps:List Ab)(idx:List Int)(now:Int):(B1 q ps idx now).length+(By q ps idx now).fDead.length=idx.length+q.fDead.length:=by
 have h5:=(List.filter_append_perm (Cg q ps now) idx).length_eq;have h6:=(EX q ps idx now).length_eq;show(B1 q ps idx now).length+(q.fDead++(IO q ps idx now).map (E5 ps)).length=_;rw[UG] at h5;rw[UG,UB,h6];unfold B1;omega
theorem IM {ps:List Ab}{i j:Int}{y:Ab}(hi:C2 i (ps.length:Int)=true)(hj:C2 j (ps.length:Int)=true):Ac (ps.set i.toNat y) j=if j=i then y else Ac ps j:=by
 have h1:=Bl hi;have h2:=Bl hj;have l1:i.toNat<ps.length:=by omega
 have l2:j.toNat<ps.length:=by omega
 by_cases e:j=i
 ·subst e;rw[UM rfl];simp[Ac,l1]
 ·rw[UD e];have:i.toNat≠j.toNat:=by omega
  simp[Ac,l2,List.getElem_set,this]
theorem QI.congr {q:Ah}{ps ps':List Ab}{idx:List Int}(h:QI q ps idx)(hl:ps'.length=ps.length)(he:∀i∈idx,(Ac ps' i).fEvent=(Ac ps i).fEvent∧(Ac ps' i).fPlace=(Ac ps i).fPlace)
  (ha:∀i∈idx,0≤(Ac ps' i).fAt∧(Ac ps' i).fAt≤2147483648) (hr:∀i∈idx,0≤(Ac ps' i).fReceives∧(Ac ps' i).fReceives≤q.fPolicy.fReceives):QI q ps' idx:=by
 have hids:idx.map (λi=>(Ac ps' i).fEvent.fID)=idx.map (λi=>(Ac ps i).fEvent.fID):=List.map_congr_left λi hi=>by rw[(he i hi).1]
 refine⟨h.vis,h.rcs,?_,λi hi=>by rw[hl];exact h.inr i hi,?_,λi hi=>by rw[(he i hi).2];exact h.plc i hi,by rw[hids];exact h.ids,h.now,ha,hr,h.cnt,λi hi=>?_,h.smd⟩
 ·rw[show(idx.map λi=>((Ac ps' i).fEvent.fID,i))=idx.map λi=>((Ac ps i).fEvent.fID,i) from List.map_congr_left λi hi=>by rw[(he i hi).1]];exact h.pm
 ·exact h.ord.imp_of_mem fun {i j} hi hj hij=>by rw[(he i hi).2,(he j hj).2];exact hij
 ·unfold E5;rw[(he i hi).1];exact h.sm i hi
theorem QI.set {q:Ah}{ps:List Ab}{idx:List Int}(h:QI q ps idx){i:Int}(hi:i∈idx){y:Ab}(he:y.fEvent=(Ac ps i).fEvent)(hp:y.fPlace=(Ac ps i).fPlace)(ha:0≤y.fAt∧y.fAt≤2147483648)(hr:0≤y.fReceives∧y.fReceives≤q.fPolicy.fReceives) :
  QI q (ps.set i.toNat y) idx:=by
 refine h.congr (Vn ..) (λj hj=>?_) (λj hj=>?_) (λj hj=>?_)<;>rw[IM (h.inr i hi) (h.inr j hj)]<;>split
 ·rename_i e;subst e;exact⟨he,hp⟩
 ·exact⟨rfl,rfl⟩
 ·exact ha
 ·exact h.ats j hj
 ·exact hr
 ·exact h.rcv j hj
theorem G3 {T:Type}:∀{m:List (AA×T)} {k:AA} {v:T},mget m k=some v→(k,v)∈m
 | [],k,v,h=>by simp[mget] at h
 | p::r,k,v,h=>by
  unfold mget at h
  cases hk:decide (p.1=k) with
  | true=>
   rw[hk] at h;have e:=Vl hk;have e2:p.2=v:=Option.some.inj h;rw[← e,← e2];exact List.mem_cons_self ..
  | false=>
   rw[hk] at h;exact List.mem_cons_of_mem _ (G3 h)
theorem QI.get {q:Ah}{ps:List Ab}{idx:List Int}(h:QI q ps idx){k:AA}{i:Int}(hg:mget q.fWaiting k=some i):i∈idx∧(E5 ps i).fID=k:=by
 obtain⟨j,hj,e⟩:=List.mem_map.1 (h.pm.subset (G3 hg));injection e with e1 e2
 subst e2;exact⟨hj,e1⟩
def M5 (q:Ah)(ps:List Ab)(id count:AA)(now:Int):Int×Int:=
 match mget q.fWaiting id with
 | none=>(-1,5)
 | some i=>if C1 count≠0∨B0 count<1∨(Ac ps i).fReceives<B0 count then(-1,5)
  else if B0 count<(Ac ps i).fReceives∨(Ac ps i).fHeld=false∨(Ac ps i).fAt≤now then(-1,18) else(i,0)
theorem Te {q:Ah}{ps:List Ab}{id count:AA}{now:Int}(h:(M5 q ps id count now).2=0):mget q.fWaiting id=some (M5 q ps id count now).1:=by
 unfold M5 at *
 cases hg:mget q.fWaiting id with
 | none=>rw[hg] at h;simp at h
 | some i=>
  rw[hg] at h;simp only at h ⊢
  split at h
  ·simp at h
  ·split at h
   ·simp at h
   ·rename_i h1 h2;rw[UD h1,UD h2]
theorem P8 {q:Ah}{ps:List Ab}{idx:List Int}(h:QI q ps idx){s:AA}{now:Int}{a b:AA}{c:Bool}(hc:O4 s=some (a,b,c))(hb:b.length≤1000000):LZ q ps s now=some (M5 q ps a b now):=by
 unfold LZ M5;rw[hc,AU rfl];simp only;rw[Bp (show JX 1 b.length=true from U4 (by omega))]
 cases hg:mget q.fWaiting a with
 | none=>
  have e1:Ck q.fWaiting a=false:=by unfold Ck;rw[hg];rfl
  rw[e1];rfl
 | some i=>
  have e1:Ck q.fWaiting a=true:=by unfold Ck;rw[hg];rfl
  have e2:Ch q.fWaiting a (-1)=i:=by unfold Ch;rw[hg];rfl
  obtain⟨hi,_⟩:=h.get hg;have hin:=h.inr i hi;have h0:=h.in' hi;rw[e1,e2,h0,hin];simp only[SY,UC,UJ,UH];rw[Bp (by cases(!(!decide (C1 b=0)))<;>cases(!decide (B0 b<1))<;>rfl),Bp (by cases(!(!decide (C1 b=0)))<;>cases(!decide (B0 b<1))<;>rfl),Bp rfl,Bp rfl]
  by_cases h1:C1 b=0
  ·by_cases h2:B0 b<1
   ·simp[h1,h2,B7]
   ·by_cases h3:(Ac ps i).fReceives<B0 b
    ·simp[h1,h2,h3,B7]
    ·by_cases h4:B0 b<(Ac ps i).fReceives
     ·simp[h1,h2,h3,h4,B7]
     ·by_cases h5:(Ac ps i).fHeld=true
      ·by_cases h6:(Ac ps i).fAt≤now<;>simp[h1,h2,h3,h4,h5,h6,B7]
      ·simp[h1,h2,h3,h4,h5,B7]
  ·simp[h1,B7]
def Pp (s:AA):Int:=bif decide (([35]:AA)=s) then 0 else Lib.indexByte s 35
def Jp (s:AA):AA×AA×Bool:=bif decide (0≤Pp s) then(s.take (Pp s).toNat,s.drop (Pp s+1).toNat,true) else(s,[],false)
theorem ST (s:AA):Pp s<s.length:=by
 unfold Pp
 by_cases h:([35]:AA)=s
 ·subst h;decide
 ·rw[U7 h];exact(SZ s 35).2
theorem Rt {s:AA}(hs:s.length≤1000000):O4 s=some (Jp s):=by
 have hi:Mz s=some (Pp s):=by
  unfold Mz Pp
  cases decide (([35]:AA)=s) with
  | true=>rfl
  | false=>rfl
 have hb:=ST s;unfold O4 N6 Jp;rw[hi,AU rfl]
 by_cases h:0≤Pp s
 ·rw[AO (U4 h),L6 h (by omega),Bb (by omega) (by omega),L6 (by omega) (by omega),AU rfl,U4 h];rfl
 ·rw[AN (U7 h),AU rfl,U7 h];rfl
theorem Q9 (s:AA):(Jp s).2.1.length≤s.length:=by
 unfold Jp
 cases decide (0≤Pp s) with
 | true=>show(s.drop (Pp s+1).toNat).length≤s.length;rw[List.length_drop];exact Nat.sub_le _ _
 | false=>exact Vo _
def PA (n:Int):Bool:=decide (0≤n∧n≤1073741824)
def CV (q:Ah)(ps:List Ab)(idx:List Int)(s:AA)(now ticks:Int):Int×Int:=
 bif PA ticks then if D4 q now=0 then M5 (By q ps idx now) ps (Jp s).1 (Jp s).2.1 now else(-1,D4 q now) else(-1,2)
def EG (q:Ah)(ps:List Ab)(idx:List Int)(now ticks:Int):Ah:=if PA ticks=true∧D4 q now=0 then By q ps idx now else q
def GX (q:Ah)(ps:List Ab)(idx:List Int)(now ticks:Int):List Int:=if PA ticks=true∧D4 q now=0 then B1 q ps idx now else idx
theorem Cy {q:Ah}{now:Int}(h:D4 q now=0):0≤now∧now≤1073741824∧q.fNow≤now:=by
 unfold D4 at h
 split at h
 ·split at h
  ·simp at h
  ·rename_i h1 h2;exact⟨h1.1,h1.2,by omega⟩
 ·simp at h
theorem MP {q:Ah}{ps:List Ab}{idx:List Int}(h:QI q ps idx)(now ticks:Int):QI (EG q ps idx now ticks) ps (GX q ps idx now ticks):=by
 unfold EG GX
 split
 ·rename_i h1;have:=Cy h1.2;exact DF h ⟨this.1,this.2.1⟩
 ·exact h
theorem KX (q:Ah)(ps:List Ab)(idx:List Int)(now ticks:Int):(GX q ps idx now ticks).length+(EG q ps idx now ticks).fDead.length=idx.length+q.fDead.length:=by
 unfold EG GX
 split
 ·exact It q ps idx now
 ·rfl
theorem KY {F:Nat}(hF:300<F){q:Ah}{ps:List Ab}{idx:List Int}(h:QI q ps idx){s:AA}(hs:s.length≤1000000)(now ticks:Int) :
  MR F q ps s now ticks=some ((CV q ps idx s now ticks).1,(CV q ps idx s now ticks).2,EG q ps idx now ticks,ps):=by
 unfold MR CV EG;rw[JF,AU rfl]
 cases ht:PA ticks with
 | false=>
  have ht':decide (0≤ticks∧ticks≤1073741824)=false:=ht;rw[ht',AO (p:=!false) rfl];simp
 | true=>
  have ht':decide (0≤ticks∧ticks≤1073741824)=true:=ht;rw[ht',AN (p:=!true) rfl,Ev hF h,AU rfl]
  by_cases ha:D4 q now=0
  ·have hn:=Cy ha;simp only[ha,decide_true,UC,Vp,and_self,UF];rw[AN rfl,P8 (a:=(Jp s).1) (b:=(Jp s).2.1) (c:=(Jp s).2.2) (DF h ⟨hn.1,hn.2.1⟩) (Rt hs) (Nat.le_trans (Q9 s) hs),AU rfl]
  ·simp only[ha,decide_false,UJ,Vk,and_false,UF];rw[AO rfl]
theorem Ix {q:Ah}{ps:List Ab}{idx:List Int}(h:QI q ps idx){s:AA}{now ticks:Int}(he:(CV q ps idx s now ticks).2=0) :
  (0≤ticks∧ticks≤1073741824)∧D4 q now=0∧EG q ps idx now ticks=By q ps idx now∧GX q ps idx now ticks=B1 q ps idx now∧(CV q ps idx s now ticks).1∈B1 q ps idx now:=by
 unfold CV at he ⊢
 cases ht:PA ticks with
 | false=>rw[ht] at he;simp at he
 | true=>
  rw[ht] at he;simp only[UF] at he ⊢
  by_cases ha:D4 q now=0
  ·rw[UM ha] at he ⊢;have hn:=Cy ha;refine⟨Vl ht,ha,?_,?_,((DF h ⟨hn.1,hn.2.1⟩).get (Te he)).1⟩
   ·unfold EG;rw[UM ⟨ht,ha⟩]
   ·unfold GX;rw[UM ⟨ht,ha⟩]
  ·rw[UD ha] at he;exact absurd he ha
def Rv (q:Ah)(ps:List Ab)(i:Int):Ah:=⟨q.fPolicy,mdel q.fWaiting (E5 ps i).fID,q.fDead,q.fNow,q.fArrived⟩
def Ni (idx:List Int)(i:Int):List Int:=idx.filter λj=>!decide (j=i)
theorem So {q:Ah}{ps:List Ab}{idx:List Int}(h:QI q ps idx){i:Int}(hi:i∈idx):QI (Rv q ps i) ps (Ni idx i):=by
 have hids:(idx.map λi=>(E5 ps i).fID).Nodup:=(List.nodup_append.1 h.ids).1;have hnd:idx.Nodup:=h.ord.imp fun {a b} hab e=>by subst e;omega
 have hsub:∀j∈Ni idx i,j∈idx:=λj hj=>(List.mem_filter.1 hj).1;have hP:([i]:List Int).Perm (idx.filter λj=>decide (j=i)):=by
  have:idx.filter (λj=>decide (j=i))=[i]:=by
   have h1:=hnd.filter (p:=λj=>decide (j=i));have h2:∀j∈idx.filter (λj=>decide (j=i)),j=i:=λj hj=>Vl (List.mem_filter.1 hj).2;have h3:i∈idx.filter (λj=>decide (j=i)):=List.mem_filter.2 ⟨hi,U4 rfl⟩
   match hl:idx.filter (λj=>decide (j=i)) with
   | []=>rw[hl] at h3;cases h3
   | [a]=>rw[hl] at h2;rw[h2 a (by simp)]
   | a::b::r=>
    rw[hl] at h1 h2;have e1:=h2 a (by simp);have e2:=h2 b (by simp);have h4:=(List.pairwise_cons.1 h1).1 b (by simp);exact absurd (e1.trans e2.symm) h4
  rw[this]
 have hdel:mdel q.fWaiting (E5 ps i).fID=Jo ps [i] q.fWaiting:=by
  unfold mdel Jo;exact List.filter_congr λp _=>by simp
 refine⟨h.vis,h.rcs,?_,λj hj=>h.inr j (hsub j hj),h.ord.filter _,λj hj=>h.plc j (hsub j hj),?_,h.now,λj hj=>h.ats j (hsub j hj),λj hj=>h.rcv j (hsub j hj),?_,λj hj=>h.sm j (hsub j hj),h.smd⟩
 ·show(mdel q.fWaiting (E5 ps i).fID).Perm _;rw[hdel];exact(KJ h.pm).trans (List.Perm.of_eq (G5 hP hids))
 ·exact h.ids.sublist (((List.filter_sublist).map _).append_right _)
 ·have:(Ni idx i).length≤idx.length:=List.length_filter_le _ _;have:=h.cnt;show(Ni idx i).length+q.fDead.length≤256;omega
theorem SF {q:Ah}{ps:List Ab}{idx:List Int}(h:QI q ps idx){i:Int}(hi:i∈idx):(Ni idx i).length+1=idx.length:=by
 have hnd:idx.Nodup:=h.ord.imp fun {a b} hab e=>by subst e;omega
 clear h;unfold Ni
 induction idx with
 | nil=>cases hi
 | cons a r ih=>
  rw[List.nodup_cons] at hnd;rw[List.filter_cons]
  by_cases e:a=i
  ·subst e;have:r.filter (λj=>!decide (j=a))=r:=List.filter_eq_self.2 λj hj=>by
    have:j≠a:=λe=>hnd.1 (e▸hj);simp[this]
   simp[this]
  ·have hr:i∈r:=by
    rcases List.mem_cons.1 hi with h1 | h1
    ·exact absurd h1.symm e
    ·exact h1
   have:=ih hr hnd.2;simp[e];omega
theorem Hw {F:Nat}(hF:300<F){q:Ah}{ps:List Ab}{idx:List Int}(h:QI q ps idx){s:AA}(hs:s.length≤1000000)(now:Int) :
  CL F q ps s now=some ((CV q ps idx s now 0).2,if (CV q ps idx s now 0).2=0 then Rv (EG q ps idx now 0) ps (CV q ps idx s now 0).1 else EG q ps idx now 0,ps):=by
 unfold CL;rw[KY hF h hs,AU rfl];simp only
 by_cases he:(CV q ps idx s now 0).2=0
 ·obtain⟨_,ha,e1,e2,hi⟩:=Ix h he;have hn:=Cy ha;have hq:=DF h ⟨hn.1,hn.2.1⟩;rw[AO (U4 he),Bp (hq.in' hi),Bp (hq.inr _ hi),UM he];rfl
 ·rw[AN (U7 he),UD he]
def TZ (x:Ab)(t:Int):Ab:=⟨x.fEvent,t,x.fReceives,false,x.fPlace⟩
def Ui (x:Ab)(t:Int):Ab:=⟨x.fEvent,t,x.fReceives,x.fHeld,x.fPlace⟩
theorem PI {ps:List Ab}{i:Nat}{a b:Ab}:(ps.set i a).set i b=ps.set i b:=List.set_set ..
theorem MS {F:Nat}(hF:300<F){q:Ah}{ps:List Ab}{idx:List Int}(h:QI q ps idx){s:AA}(hs:s.length≤1000000)(now d:Int) :
  HO F q ps s now d=some ((CV q ps idx s now d).2,EG q ps idx now d,if (CV q ps idx s now d).2=0 then ps.set (CV q ps idx s now d).1.toNat (TZ (Ac ps (CV q ps idx s now d).1) (now+d)) else ps):=by
 unfold HO;rw[KY hF h hs,AU rfl];simp only
 by_cases he:(CV q ps idx s now d).2=0
 ·obtain⟨ht,ha,e1,e2,hi⟩:=Ix h he;have hn:=Cy ha;have hq:=DF h ⟨hn.1,hn.2.1⟩;have hin:=hq.inr _ hi;rw[AO (U4 he),Bb (by omega) (by omega),Bp (hq.in' hi),Bp hin,UM he];simp only[MI];rw[Vn,Bp hin,IM hin hin,UM rfl,PI];rfl
 ·rw[AN (U7 he),UD he]
theorem Na {F:Nat}(hF:300<F){q:Ah}{ps:List Ab}{idx:List Int}(h:QI q ps idx){s:AA}(hs:s.length≤1000000)(now d:Int) :
  HQ F q ps s now d=some ((CV q ps idx s now d).2,EG q ps idx now d,if (CV q ps idx s now d).2=0 then ps.set (CV q ps idx s now d).1.toNat (Ui (Ac ps (CV q ps idx s now d).1) (now+d)) else ps):=by
 unfold HQ;rw[KY hF h hs,AU rfl];simp only
 by_cases he:(CV q ps idx s now d).2=0
 ·obtain⟨ht,ha,e1,e2,hi⟩:=Ix h he;have hn:=Cy ha;have hq:=DF h ⟨hn.1,hn.2.1⟩;have hin:=hq.inr _ hi;rw[AO (U4 he),Bb (by omega) (by omega),Bp (hq.in' hi),Bp hin,UM he];rfl
 ·rw[AN (U7 he),UD he]
def QB (n:Nat)(q:Ah)(ps:List Ab):Prop:=0≤q.fArrived∧q.fArrived≤(n:Int)∧ps.length≤n
theorem EL {T:Type}:∀{m:List (AA×T)} {k:AA},Ck m k=false→∀p∈m,p.1≠k
 | [],k,_,p,hp=>by cases hp
 | a::r,k,h,p,hp=>by
  unfold Ck mget at h
  cases hk:decide (a.1=k) with
  | true=>rw[hk] at h;cases h
  | false=>
   rw[hk] at h;rcases List.mem_cons.1 hp with e | hp
   ·subst e;exact of_decide_eq_false hk
   ·exact EL (m:=r) h p hp
def LC (e:Aw)(t:Int)(arr:Int):Ab:=⟨e,t,0,false,arr⟩
def Sg (q:Ah)(ps:List Ab)(D:List Aw)(e:Aw):Ah:=⟨q.fPolicy,mset q.fWaiting e.fID (ps.length:Int),D,q.fNow,q.fArrived+1⟩
theorem Tl {ps:List Ab}{y:Ab}{i:Int}(hi:C2 i (ps.length:Int)=true):Ac (ps++[y]) i=Ac ps i:=by
 have h1:=Bl hi;have l1:i.toNat<ps.length:=by omega
 simp[Ac,Vj l1]
theorem Se {ps:List Ab}{y:Ab}:Ac (ps++[y]) (ps.length:Int)=y:=by simp[Ac]
theorem QM {q:Ah}{ps:List Ab}{idx:List Int}(h:QI q ps idx){D:List Aw}{e:Aw}{t:Int}(hs:TI e)(ht:0≤t∧t≤2147483648)
  (hid:(e.fID::(idx.map (λi=>(Ac ps i).fEvent.fID)++D.map (·.fID))).Nodup) (hD:∀x∈D,TI x) (hc:idx.length+1+D.length≤256) :
  QI (Sg q ps D e) (ps++[LC e t q.fArrived]) (idx++[(ps.length:Int)]):=by
 have hold:∀i∈idx,Ac (ps++[LC e t q.fArrived]) i=Ac ps i:=λi hi=>Tl (h.inr i hi);have hnew:=Se (ps:=ps) (y:=LC e t q.fArrived);have hnot:e.fID ∉ idx.map (λi=>(Ac ps i).fEvent.fID):=λhm=>(List.nodup_cons.1 hid).1 (List.mem_append_left _ hm);have hh:Ck q.fWaiting e.fID=false:=by
  cases hx:Ck q.fWaiting e.fID with
  | false=>rfl
  | true=>
   unfold Ck at hx;obtain⟨i,hi⟩:=Option.isSome_iff_exists.1 hx;obtain⟨h1,h2⟩:=h.get hi;exact absurd (List.mem_map.2 ⟨i,h1,h2⟩) hnot
 have hms:(mset q.fWaiting e.fID (ps.length:Int)).Perm ((e.fID,(ps.length:Int))::q.fWaiting):=by
  unfold mset;rw[hh];exact IA _ _ _
 have hmap:(idx++[(ps.length:Int)]).map (λi=>((Ac (ps++[LC e t q.fArrived]) i).fEvent.fID,i))=idx.map (λi=>((Ac ps i).fEvent.fID,i))++[(e.fID,(ps.length:Int))]:=by
  rw[Vq,Vm,List.map_nil,hnew]
  congr 1
  exact List.map_congr_left λi hi=>by rw[hold i hi]
 have hids:(idx++[(ps.length:Int)]).map (λi=>(Ac (ps++[LC e t q.fArrived]) i).fEvent.fID)=idx.map (λi=>(Ac ps i).fEvent.fID)++[e.fID]:=by
  rw[Vq,Vm,List.map_nil,hnew]
  congr 1
  exact List.map_congr_left λi hi=>by rw[hold i hi]
 have hmem:∀i∈idx++[(ps.length:Int)],i∈idx∨i=(ps.length:Int):=λi hi=>by simpa using hi
 refine⟨h.vis,h.rcs,?_,?_,?_,?_,?_,h.now,?_,?_,?_,?_,hD⟩
 ·rw[hmap];exact hms.trans ((U0 _ h.pm).trans (List.perm_append_comm (l₁:=[(e.fID,(ps.length:Int))])))
 ·intro i hi;rcases hmem i hi with h1 | h1
  ·have:=Bl (h.inr i h1);exact Qx (by omega) (by simp;omega)
  ·subst h1;exact Qx (by omega) (by simp;omega)
 ·rw[List.pairwise_append];refine⟨h.ord.imp_of_mem fun {i j} hi hj hij=>by rw[hold i hi,hold j hj];exact hij,List.pairwise_singleton _ _,λi hi j hj=>?_⟩;rw[List.mem_singleton.1 hj,hold i hi,hnew];exact h.plc i hi
 ·intro i hi;rcases hmem i hi with h1 | h1
  ·rw[hold i h1];have:=h.plc i h1;show _<q.fArrived+1;omega
  ·subst h1;rw[hnew];show q.fArrived<q.fArrived+1;omega
 ·rw[hids,Vg];exact(List.perm_middle (a:=e.fID) (l₁:=idx.map λi=>(Ac ps i).fEvent.fID) (l₂:=D.map (·.fID))).symm.nodup hid
 ·intro i hi;rcases hmem i hi with h1 | h1
  ·rw[hold i h1];exact h.ats i h1
  ·subst h1;rw[hnew];exact ht
 ·intro i hi;rcases hmem i hi with h1 | h1
  ·rw[hold i h1];exact h.rcv i h1
  ·subst h1;rw[hnew];have:=h.rcs;show(0:Int)≤0∧(0:Int)≤q.fPolicy.fReceives;omega
 ·show(idx++[(ps.length:Int)]).length+D.length≤256;simp;omega
 ·intro i hi;rcases hmem i hi with h1 | h1
  ·unfold E5;rw[hold i h1];exact h.sm i h1
  ·subst h1;unfold E5;rw[hnew];exact hs
theorem N4 {n:Nat}{q:Ah}{ps:List Ab}(hb:QB n q ps)(hn:n≤1000000)(e:Aw)(t:Int):Ox q ps e t=some (Sg q ps q.fDead e,ps++[LC e t q.fArrived]):=by
 unfold Ox;obtain⟨h1,h2,_⟩:=hb;rw[Bb (by omega) (by omega)];rfl
theorem Qv {F:Nat}{ys:List Aw}{id:AA}(hF:ys.length<F)(hl:ys.length≤1000000):∃k,My F ys id=some k∧decide (0≤k)=ys.any λe=>decide (e.fID=id):=by
 have key:∀(d n i:Nat),i+d=ys.length→d<n→∃o,BP (λσ=>C6 ys id σ) n (i:Int)=some o∧∃k,BQ (λ_=>G8) o=some k∧decide (0≤k)=(ys.drop i).any λe=>decide (e.fID=id):=by
  intro d
  induction d with
  | zero=>
   intro n i h hn;obtain⟨n,rfl⟩:∃m,n=m+1:=⟨n-1,by omega⟩
   have hb:C6 ys id (i:Int)=some (.out (.go ())):=by unfold C6;rw[AN (U7 (by omega))]
   refine⟨.go (),by rw[BP];simp only[hb],-1,rfl,?_⟩;rw[List.drop_of_length_le (by omega)];rfl
  | succ d ih=>
   intro n i h hn;obtain⟨n,rfl⟩:∃m,n=m+1:=⟨n-1,by omega⟩
   have hi:i<ys.length:=by omega
   have hd:=List.drop_eq_getElem_cons hi
   cases hq:decide (ys[i].fID=id) with
   | true=>
    have hb:C6 ys id (i:Int)=some (.out (.ret (i:Int))):=by
     unfold C6 LX;rw[AO (U4 (by omega)),BU (by omega) (by omega),Gi hi,AU rfl,AO hq]
    refine⟨.ret (i:Int),by rw[BP];simp only[hb],(i:Int),rfl,?_⟩;rw[hd,List.any_cons,hq,UW];exact U4 (by omega)
   | false=>
    have hb:C6 ys id (i:Int)=some (.next ((i+1:Nat):Int)):=by
     unfold C6 LX;rw[AO (U4 (by omega)),BU (by omega) (by omega),Gi hi,AU rfl,AN hq,Bb (by omega) (by omega)];rfl
    obtain⟨o,h1,k,h2,h3⟩:=ih n (i+1) (by omega) (by omega);refine⟨o,by rw[BP];simp only[hb];exact h1,k,h2,?_⟩;rw[h3,hd,List.any_cons,hq,UH]
 obtain⟨o,h1,k,h2,h3⟩:=key ys.length F 0 (by omega) hF;refine⟨k,?_,by rw[h3,List.drop_zero]⟩;unfold My;have h1':BP (λσ=>C6 ys id σ) F 0=some o:=h1;rw[AU h1',h2]
def M3 (q:Ah)(id:AA):Bool:=Ck q.fWaiting id||q.fDead.any λe=>decide (e.fID=id)
theorem N3 {F:Nat}(hF:300<F){q:Ah}{ps:List Ab}{idx:List Int}(h:QI q ps idx)(id:AA):LY F q ps id=some (M3 q id):=by
 have hc:=h.cnt;obtain⟨k,h1,h2⟩:=Qv (F:=F) (ys:=q.fDead) (id:=id) (by omega) (by omega);unfold LY M3 GL NY
 cases Ck q.fWaiting id with
 | true=>rfl
 | false=>rw[AN rfl,h1,AU rfl,AU rfl,h2];rfl
theorem NR {q:Ah}{ps:List Ab}{idx:List Int}(h:QI q ps idx)(id:AA):M3 q id=true↔id∈idx.map (λi=>(Ac ps i).fEvent.fID)++q.fDead.map (·.fID):=by
 unfold M3;rw[UV,List.mem_append];refine or_congr ⟨λhx=>?_,λhx=>?_⟩ ⟨λhx=>?_,λhx=>?_⟩
 ·unfold Ck at hx;obtain⟨i,hi⟩:=Option.isSome_iff_exists.1 hx;obtain⟨h1,h2⟩:=h.get hi;exact List.mem_map.2 ⟨i,h1,h2⟩
 ·obtain⟨i,hi,e⟩:=List.mem_map.1 hx
  cases hm:Ck q.fWaiting id with
  | true=>rfl
  | false=>exact absurd e (EL hm _ (h.pm.symm.subset (List.mem_map.2 ⟨i,hi,rfl⟩)))
 ·obtain⟨e,he,h1⟩:=List.any_eq_true.1 hx;exact List.mem_map.2 ⟨e,he,Vl h1⟩
 ·obtain⟨e,he,h1⟩:=List.mem_map.1 hx;exact List.any_eq_true.2 ⟨e,he,U4 h1⟩
def Sv (e:Aw):Prop:=∀c∈e.fBody,BT .i64 c.fInt=true∧c.fN≤9223372036854775807
theorem EA {e:Aw}(h:De e=true):e.fID.length≤300∧e.fBody.length≤300:=by
 unfold De Pf at h;simp only[U6,UK,UY,U1] at h;exact⟨by omega,by omega⟩
theorem Nf {e:Aw}(h:De e=true)(ho:Sv e):MK 5000 e.fBody:=by
 have h1:=EA h;unfold De at h;simp only[U6,UK,List.any_eq_false,U2] at h;exact⟨by decide,by have:=h1.2;omega,λc hc=>⟨by have:=h.2 c hc;omega,(ho c hc).1,(ho c hc).2⟩⟩
theorem MB {F:Nat}(hF:5000<F){e:Aw}(h:De e=true)(ho:Sv e):∃x,GB F e=some x:=by
 unfold GB;rw[Ou (Nf h ho) (by decide) hF];generalize((!(DO e.fID))||((!(DO e.fTenant))||((!(DO e.fSource))||(bif !decide (e.fKey=([]:AA)) then((!(DO e.fKey))||((!decide (e.fCause=([]:AA)))&&(!(DO e.fCause)))) else((!decide (e.fCause=([]:AA)))&&(!(DO e.fCause)))))))=a;generalize((decide (e.fAt<0))||(decide (1073741824<e.fAt)))=b
 cases a with
 | true=>exact⟨_,rfl⟩
 | false=>
  cases b with
  | true=>exact⟨_,rfl⟩
  | false=>exact⟨_,rfl⟩
theorem OV {F:Nat}{e:Aw}(h:GB F e=some 0):DO e.fID=true:=by
 cases hi:DO e.fID with
 | true=>rfl
 | false=>
  unfold GB at h;rw[hi] at h;simp only[UJ,UW] at h;rw[AO rfl] at h;simp at h
theorem N1 {e:Aw}(h:e.fBody.length≤300):MZ e=some e:=by
 unfold MZ L5;rw[Bp (show JX 40 (([]:List Ao).length+e.fBody.length)=true from U4 (by simp;omega)),AU rfl];rfl
def KG (q:Ah):Bool:=decide (256≤q.fWaiting.length+q.fDead.length)
def Gr (q:Ah)(ps:List Ab)(idx:List Int)(e:Aw)(now d x:Int):Int×Ah×List Ab:=
 if PA d=true then if D4 q now=0 then
  if x=0 then if M3 (By q ps idx now) e.fID=true then(6,By q ps idx now,ps) else if KG (By q ps idx now)=true then(3,By q ps idx now,ps)
   else(0,Sg (By q ps idx now) ps (By q ps idx now).fDead e,ps++[LC e (now+d) q.fArrived])
  else(x,By q ps idx now,ps) else(D4 q now,q,ps) else(2,q,ps)
theorem P5 {F n:Nat}(hF:5000<F){q:Ah}{ps:List Ab}{idx:List Int}(h:QI q ps idx)(hb:QB n q ps)(hn:n≤1000000){e:Aw}(hs:De e=true)(ho:Sv e)(now d:Int){x:Int}(hx:GB F e=some x) :
  Ky F q ps e now d=some (Gr q ps idx e now d x):=by
 unfold Ky Gr;rw[JF,AU rfl]
 cases ht:PA d with
 | false=>
  have ht':decide (0≤d∧d≤1073741824)=false:=ht;rw[ht',AO (p:=!false) rfl];simp
 | true=>
  have ht':decide (0≤d∧d≤1073741824)=true:=ht;have htd:=Vl ht';rw[ht',AN (p:=!true) rfl,Ev (by omega) h,AU rfl,UM rfl]
  by_cases ha:D4 q now=0
  ·have hnw:=Cy ha;have hq:=DF h ⟨hnw.1,hnw.2.1⟩;have hqb:QB n (By q ps idx now) ps:=hb;simp only[ha,decide_true,UC,Vp];rw[AN rfl,hx,AU rfl]
   by_cases hx0:x=0
   ·rw[UM hx0,hx0,AN (p:=!decide ((0:Int)=0)) (by decide),N3 (by omega) hq,AU rfl]
    cases hh:M3 (By q ps idx now) e.fID with
    | true=>rw[AO rfl,UM rfl]
    | false=>
     have hw:=hq.wlen;have hc:=hq.cnt;rw[AN rfl,UD (by simp),Bb (by omega) (by omega)];have hfu:decide ((256:Int)≤(((By q ps idx now).fWaiting.length:Int)+((By q ps idx now).fDead.length:Int)))=KG (By q ps idx now):=by
      unfold KG;rw[Vd];simp only[U2];omega
     rw[hfu]
     cases KG (By q ps idx now) with
     | true=>rw[AO rfl,UM rfl]
     | false=>
      rw[AN rfl,UD (by simp),N1 (EA hs).2,AU rfl,Bb (by omega) (by omega),N4 hqb hn,AU rfl];rfl
   ·rw[UD hx0,AO (by simp[hx0])]
  ·simp only[ha,decide_false,UJ,Vk];rw[AO rfl]
theorem SD {q:Ah}{ps:List Ab}{idx:List Int}(h:QI q ps idx){e:Aw}(hs:De e=true)(now d x:Int)(hid:x=0→DO e.fID=true)(n:Nat)(hb:QB n q ps) :
  ∃idx',QI (Gr q ps idx e now d x).2.1 (Gr q ps idx e now d x).2.2 idx'∧QB (n+1) (Gr q ps idx e now d x).2.1 (Gr q ps idx e now d x).2.2∧((Gr q ps idx e now d x).1=0→idx'.length+(Gr q ps idx e now d x).2.1.fDead.length=idx.length+q.fDead.length+1)∧
   (¬ (Gr q ps idx e now d x).1=0→idx'.length+(Gr q ps idx e now d x).2.1.fDead.length=idx.length+q.fDead.length):=by
 obtain⟨b1,b2,b3⟩:=hb;have hb':QB (n+1) q ps:=⟨b1,by omega,by omega⟩
 unfold Gr
 by_cases ht:PA d=true
 ·rw[UM ht]
  by_cases ha:D4 q now=0
  ·rw[UM ha];have hnw:=Cy ha;have hq:=DF h ⟨hnw.1,hnw.2.1⟩;have hqb:QB (n+1) (By q ps idx now) ps:=hb';have hcn:=It q ps idx now
   by_cases hx0:x=0
   ·rw[UM hx0]
    cases hh:M3 (By q ps idx now) e.fID with
    | true=>rw[UM rfl];exact⟨_,hq,hqb,λe=>absurd e (by simp),λ_=>hcn⟩
    | false=>
     rw[UD (by simp)]
     cases hf:KG (By q ps idx now) with
     | true=>rw[UM rfl];exact⟨_,hq,hqb,λe=>absurd e (by simp),λ_=>hcn⟩
     | false=>
      rw[UD (by simp)];have htd:0≤d∧d≤1073741824:=Vl ht;have hnot:e.fID ∉ (B1 q ps idx now).map (λi=>(Ac ps i).fEvent.fID)++(By q ps idx now).fDead.map (·.fID):=λhm=>by
       have:=(NR hq e.fID).2 hm;rw[this] at hh;cases hh
      have hfu : ¬ 256≤(By q ps idx now).fWaiting.length+(By q ps idx now).fDead.length:=of_decide_eq_false hf;have hw:=hq.wlen;refine⟨_,QM hq (t:=now+d) ⟨(EA hs).1,(EA hs).2,hid hx0⟩ ⟨by omega,by omega⟩ (List.nodup_cons.2 ⟨hnot,hq.ids⟩) hq.smd (by omega),⟨?_,?_,?_⟩,λ_=>?_,λe=>absurd rfl e⟩
      ·show 0≤q.fArrived+1;omega
      ·show q.fArrived+1≤((n+1:Nat):Int);omega
      ·simp;omega
      ·show(B1 q ps idx now++[(ps.length:Int)]).length+(By q ps idx now).fDead.length=_;simp;omega
   ·rw[UD hx0];exact⟨_,hq,hqb,λe=>absurd e hx0,λ_=>hcn⟩
  ·rw[UD ha];exact⟨_,h,hb',λe=>absurd e ha,λ_=>rfl⟩
 ·rw[UD ht];exact⟨_,h,hb',λe=>absurd e (by simp),λ_=>rfl⟩
theorem Sd {ps:List Ab}{i:Int}{y:Ab}(hi:C2 i (ps.length:Int)=true):Ac (ps.set i.toNat y) i=y:=by rw[IM hi hi,UM rfl]
theorem QC {α:Type}{x:Option α}:Bn true x=x:=rfl
def D6 (x:Ab)(t:Int):Ab:=⟨x.fEvent,t,x.fReceives+1,true,x.fPlace⟩
def EI (x:Ab):AA:=(x.fEvent.fID++[35])++Lib.itoa x.fReceives
def IH (x:Ab):A4:=⟨EI x,x.fEvent,x.fReceives⟩
theorem QD {α:Type}{n:Nat}{x:Option α}(h:n≤1000000):Bn (JX 136 n) x=x:=Bp (U4 (by omega))
theorem LT {ps:List Ab}{i:Int}(hi:C2 i (ps.length:Int)=true)(hs:(Ac ps i).fEvent.fID.length≤300)(hr:0≤(Ac ps i).fReceives∧(Ac ps i).fReceives≤1000):Eu i ps=some (EI (Ac ps i)):=by
 unfold Eu;have h1:=M0 (Ac ps i).fReceives (by omega) (by omega);rw[Bp (U4 (Bl hi).1),Bp hi,Bb (by simp only[Vb];omega) (by simp only[Vb];omega),Bb (by omega) (by omega),Bb (by simp only[UG,Vb];omega) (by simp only[UG,Vb];omega)];rfl
theorem Mf {now most:Int}{r2:Int×Ah×List Ab}{P:List Int}{j:Nat}{out:List A4}{ps:List Ab}(hj:j<P.length)(hP:P.length≤256)(hi:C2 P[j] (ps.length:Int)=true)(hs:TI (E5 ps P[j]))(hr:0≤(Ac ps P[j]).fReceives∧(Ac ps P[j]).fReceives≤100)
  (ht : -10000000000≤now+r2.2.1.fPolicy.fVisible∧now+r2.2.1.fPolicy.fVisible≤10000000000) (ho:out.length≤256) :
  B2 now most r2 P out (j:Int) ps=some (if most≤(out.length:Int) then .out (.go (out,ps)) else .next (out++[IH (D6 (Ac ps P[j]) (now+r2.2.1.fPolicy.fVisible))],((j+1:Nat):Int),ps.set P[j].toNat (D6 (Ac ps P[j]) (now+r2.2.1.fPolicy.fVisible)))):=by
 unfold B2;rw[AO (U4 (by omega)),BU (by omega) (by omega),Gi hj]
 by_cases hm:most≤(out.length:Int)
 ·rw[AO (U4 hm),UM hm]
 ·rw[AN (U7 hm),UD hm];generalize P[j]=i at hi hs hr ⊢;have hself:∀(y:Ab),Ac (ps.set i.toNat y) i=y:=λy=>Sd hi;rw[Bp (U4 (Bl hi).1),Bp hi,Bb (by omega) (by omega)];simp only[MI,Vn,List.set_set,hself,hi,QC];rw[Bb (by omega) (by omega)];have hrc:Eu i (ps.set i.toNat (D6 (Ac ps i) (now+r2.2.1.fPolicy.fVisible)))=some (EI (D6 (Ac ps i) (now+r2.2.1.fPolicy.fVisible))):=by
   have:=LT (ps:=ps.set i.toNat (D6 (Ac ps i) (now+r2.2.1.fPolicy.fVisible))) (i:=i) (by rw[Vn];exact hi) (by rw[hself];exact hs.1) (by rw[hself];show 0≤(Ac ps i).fReceives+1∧(Ac ps i).fReceives+1≤1000;omega);rw[hself] at this;exact this
  have hrc':Eu i (ps.set i.toNat ⟨(Ac ps i).fEvent,now+r2.2.1.fPolicy.fVisible,(Ac ps i).fReceives+1,true,(Ac ps i).fPlace⟩)=some (EI (D6 (Ac ps i) (now+r2.2.1.fPolicy.fVisible))):=hrc;have hown:MZ (Ac ps i).fEvent=some (Ac ps i).fEvent:=N1 hs.2.1;rw[hrc',AU rfl,hown,AU rfl,QD (by simp;omega),Bb (by omega) (by omega)];rfl
theorem PM {q:Ah}{idx P:List Int}{now most:Int}{r2:Int×Ah×List Ab}(hr2:r2.2.1.fPolicy=q.fPolicy)(hnd:P.Nodup)(hsub:∀i∈P,i∈idx)(hP:P.length≤256)(hnow:0≤now∧now≤1073741824) :
  ∀(d n j:Nat) (out:List A4) (ps:List Ab),j+d=P.length→d<n→QI q ps idx→out.length≤j→(∀i∈P.drop j,(Ac ps i).fReceives<q.fPolicy.fReceives)→
   ∃out' ps',BP (λσ=>B2 now most r2 P σ.1 σ.2.1 σ.2.2) n (out,(j:Int),ps)=some (.go (out',ps'))∧QI q ps' idx∧ps'.length=ps.length:=by
 intro d
 induction d with
 | zero=>
  intro n j out ps h hn hq ho hr;obtain⟨n,rfl⟩:∃m,n=m+1:=⟨n-1,by omega⟩
  have hb:B2 now most r2 P out (j:Int) ps=some (.out (.go (out,ps))):=by unfold B2;rw[AN (U7 (by omega))]
  exact⟨out,ps,by rw[BP];simp only[hb],hq,rfl⟩
 | succ d ih=>
  intro n j out ps h hn hq ho hr;obtain⟨n,rfl⟩:∃m,n=m+1:=⟨n-1,by omega⟩
  have hj:j<P.length:=by omega
  have hd:=List.drop_eq_getElem_cons hj;have hm:P[j]∈idx:=hsub _ (List.getElem_mem hj);have hrj:=hr P[j] (by rw[hd];exact List.mem_cons_self ..);have hrc:=hq.rcv _ hm;have hpol:=hq.rcs;have hvis:=hq.vis;have hb:=Mf (now:=now) (most:=most) (r2:=r2) (out:=out) hj hP (hq.inr _ hm) (hq.sm _ hm) ⟨hrc.1,by omega⟩ (by rw[hr2];omega) (by omega)
  by_cases hmo:most≤(out.length:Int)
  ·rw[UM hmo] at hb;exact⟨out,ps,by rw[BP];simp only[hb],hq,rfl⟩
  ·rw[UD hmo] at hb;have hq':QI q (ps.set P[j].toNat (D6 (Ac ps P[j]) (now+r2.2.1.fPolicy.fVisible))) idx:=hq.set hm rfl rfl (by show 0≤now+r2.2.1.fPolicy.fVisible∧now+r2.2.1.fPolicy.fVisible≤2147483648;rw[hr2];omega) (by show 0≤(Ac ps P[j]).fReceives+1∧(Ac ps P[j]).fReceives+1≤q.fPolicy.fReceives;omega);obtain⟨o',p',h1,h2,h3⟩:=ih n (j+1) (out++[IH (D6 (Ac ps P[j]) (now+r2.2.1.fPolicy.fVisible))]) _ (by omega) (by omega) hq' (by simp;omega) (λi hi=>by
    have hii:i∈P.drop j:=by rw[hd];exact List.mem_cons_of_mem _ hi
    have hne:i≠P[j]:=λe=>by
     have hnd':(P.drop j).Nodup:=hnd.sublist (List.drop_sublist _ _);rw[hd,List.nodup_cons] at hnd';exact hnd'.1 (e▸hi)
    rw[IM (hq.inr _ hm) (hq.inr i (hsub i (List.mem_of_mem_drop hii))),UD hne];exact hr i hii)
   refine⟨o',p',?_,h2,by rw[h3,Vn]⟩;rw[BP];simp only[hb];exact h1
theorem LS {F n:Nat}(hF:300<F){q:Ah}{ps:List Ab}{idx:List Int}(h:QI q ps idx)(hb:QB n q ps)(now most:Int) :
  ∃out q' ps' idx',Cz F q ps now most=some (out,q',ps')∧QI q' ps' idx'∧QB n q' ps'∧q'.fPolicy=q.fPolicy∧idx'.length+q'.fDead.length=idx.length+q.fDead.length∧(q'.fNow=q.fNow∨q'.fNow=now∧0≤now∧now≤1073741824):=by
 unfold Cz;rw[Ev hF h,AU rfl]
 by_cases ha:D4 q now=0
 ·have hn:=Cy ha;have hq:=DF h ⟨hn.1,hn.2.1⟩;simp only[ha,decide_true,UC,Vp];rw[AN rfl,IV hq,AU rfl];have hpm:=CW (IB ps) ((B1 q ps idx now).filter (Cb ps now));have hsub:∀i∈Gd (IB ps) ((B1 q ps idx now).filter (Cb ps now)),i∈B1 q ps idx now:=λi hi=>(List.mem_filter.1 (hpm.subset hi)).1;have hnd:(Gd (IB ps) ((B1 q ps idx now).filter (Cb ps now))).Nodup:=hpm.symm.nodup ((hq.ord.imp fun {a b} hab e=>by subst e;omega:(B1 q ps idx now).Nodup).filter _);have hc:=hq.cnt;have hl:(Gd (IB ps) ((B1 q ps idx now).filter (Cb ps now))).length≤256:=by
   rw[hpm.length_eq];exact Nat.le_trans (List.length_filter_le _ _) (by omega)
  obtain⟨o,p',h1,h2,h3⟩:=PM (q:=By q ps idx now) (idx:=B1 q ps idx now) (now:=now) (most:=most) (r2:=(0,By q ps idx now,ps)) rfl hnd hsub hl ⟨hn.1,hn.2.1⟩ (Gd (IB ps) ((B1 q ps idx now).filter (Cb ps now))).length F 0 [] ps (by omega) (by omega) hq (by simp) (λi hi=>by
   rw[List.drop_zero] at hi;have h4:=List.mem_filter.1 (hpm.subset hi);have h5:=(List.mem_filter.1 h4.1).2;have h6:Cb ps now i=true:=h4.2;unfold Cg at h5;unfold Cb at h6;rw[h6] at h5;simp only[UN,UK,U1] at h5;show(Ac ps i).fReceives<q.fPolicy.fReceives;omega)
  have h1':BP (λσ=>B2 now most (0,By q ps idx now,ps) (Gd (IB ps) ((B1 q ps idx now).filter (Cb ps now))) σ.1 σ.2.1 σ.2.2) F (([]:List A4),0,ps)=some (.go (o,p')):=h1;rw[h1',AU rfl,Dz];exact⟨o,By q ps idx now,p',B1 q ps idx now,rfl,h2,⟨hb.1,hb.2.1,by rw[h3];exact hb.2.2⟩,rfl,It q ps idx now,.inr ⟨rfl,hn.1,hn.2.1⟩⟩
 ·simp only[ha,decide_false,UJ,Vk];rw[AO rfl];exact⟨_,q,ps,idx,rfl,h,hb,rfl,rfl,.inl rfl⟩
theorem PL {r1:Int×Ah×List Ab}{now:Int}(hnow:0≤now∧now≤1073741824)(hdl:r1.2.1.fDead.length≤256):∀(d n j m:Nat) (q:Ah) (ps:List Ab) (idx:List Int),j+d=r1.2.1.fDead.length→d<n→q.fDead=r1.2.1.fDead.drop j→QI q ps idx→QB m q ps→m+d≤1000000→
  ∃q' ps' idx',BP (λσ=>BV now r1 σ.1 σ.2.1 σ.2.2.1 σ.2.2.2.1 σ.2.2.2.2.1 σ.2.2.2.2.2.1 σ.2.2.2.2.2.2) n ((j:Int),q.fPolicy.fVisible,q.fPolicy.fReceives,q.fNow,q.fArrived,q.fWaiting,ps)=some (.go (q'.fPolicy.fVisible,q'.fPolicy.fReceives,q'.fNow,q'.fArrived,q'.fWaiting,ps'))∧QI q' ps' idx'∧QB (m+d) q' ps'∧q'.fDead=[]∧q'.fPolicy=q.fPolicy∧q'.fNow=q.fNow∧idx'.length=idx.length+d:=by
 intro d
 induction d with
 | zero=>
  intro n j m q ps idx h hn hd hq hb hm;obtain⟨n,rfl⟩:∃m,n=m+1:=⟨n-1,by omega⟩
  have hb1:BV now r1 (j:Int) q.fPolicy.fVisible q.fPolicy.fReceives q.fNow q.fArrived q.fWaiting ps=some (.out (.go (q.fPolicy.fVisible,q.fPolicy.fReceives,q.fNow,q.fArrived,q.fWaiting,ps))):=by unfold BV;rw[AN (U7 (by omega))]
  exact⟨q,ps,idx,by rw[BP];simp only[hb1],hq,hb,by rw[hd,List.drop_of_length_le (by omega)],rfl,rfl,rfl⟩
 | succ d ih=>
  intro n j m q ps idx h hn hd hq hb hm;obtain⟨n,rfl⟩:∃m,n=m+1:=⟨n-1,by omega⟩
  have hj:j<r1.2.1.fDead.length:=by omega
  have hdc:=List.drop_eq_getElem_cons hj;have hb':QB m ⟨⟨q.fPolicy.fVisible,q.fPolicy.fReceives⟩,q.fWaiting,r1.2.1.fDead,q.fNow,q.fArrived⟩ ps:=hb;have hb1:BV now r1 (j:Int) q.fPolicy.fVisible q.fPolicy.fReceives q.fNow q.fArrived q.fWaiting ps=some (.next (((j+1:Nat):Int),q.fPolicy.fVisible,q.fPolicy.fReceives,q.fNow,q.fArrived+1,mset q.fWaiting (r1.2.1.fDead[j]).fID (ps.length:Int),ps++[LC r1.2.1.fDead[j] now q.fArrived])):=by
   unfold BV;rw[AO (U4 (by omega)),BU (by omega) (by omega),Gi hj,N4 hb' (by omega),AU rfl,Bb (by omega) (by omega)];rfl
  have hids:=hq.ids;have hcnt:=hq.cnt;have hsd:=hq.smd;rw[hd,hdc] at hids hcnt hsd;have hq':QI (Sg q ps (r1.2.1.fDead.drop (j+1)) r1.2.1.fDead[j]) (ps++[LC r1.2.1.fDead[j] now q.fArrived]) (idx++[(ps.length:Int)]):=QM hq (hsd _ (List.mem_cons_self ..)) ⟨by omega,by omega⟩ (List.perm_middle.nodup hids) (λx hx=>hsd x (List.mem_cons_of_mem _ hx)) (by simp only[UA] at hcnt;omega);obtain⟨q',ps',idx',h1,h2,h3,h4,h5,h6,h7⟩:=ih n (j+1) (m+1) _ _ _ (by omega) (by omega) rfl hq' ⟨by show 0≤q.fArrived+1;have:=hb.1;omega,by show q.fArrived+1≤((m+1:Nat):Int);have:=hb.2.1;omega,by simp;exact hb.2.2⟩ (by omega);refine⟨q',ps',idx',?_,h2,by rw[show m+(d+1)=m+1+d from by omega];exact h3,h4,h5,h6,by rw[h7];simp;omega⟩;rw[BP];simp only[hb1];exact h1
theorem LR {F n:Nat}(hF:300<F){q:Ah}{ps:List Ab}{idx:List Int}(h:QI q ps idx)(hb:QB n q ps)(hn:n+256≤1000000)(now:Int) :
  ∃k q' ps' idx',Gv F q ps now=some (k,q',ps')∧QI q' ps' idx'∧QB (n+256) q' ps'∧q'.fPolicy=q.fPolicy∧idx'.length+q'.fDead.length=idx.length+q.fDead.length∧(q'.fNow=q.fNow∨q'.fNow=now∧0≤now∧now≤1073741824):=by
 unfold Gv;rw[Ev hF h,AU rfl];have hbn:QB (n+256) q ps:=⟨hb.1,by have:=hb.2.1;omega,by have:=hb.2.2;omega⟩
 by_cases ha:D4 q now=0
 ·have hnw:=Cy ha;have hq:=DF h ⟨hnw.1,hnw.2.1⟩;simp only[ha,decide_true,UC,Vp];have hc:=hq.cnt;obtain⟨q',ps',idx',h1,h2,h3,h4,h5,h6,h7⟩:=PL (r1:=(0,By q ps idx now,ps)) (now:=now) ⟨hnw.1,hnw.2.1⟩ (by show(By q ps idx now).fDead.length≤256;omega) (By q ps idx now).fDead.length F 0 n (By q ps idx now) ps (B1 q ps idx now) (by simp) (by omega) rfl hq hb (by omega);have h1':BP (λσ=>BV now (0,By q ps idx now,ps) σ.1 σ.2.1 σ.2.2.1 σ.2.2.2.1 σ.2.2.2.2.1 σ.2.2.2.2.2.1 σ.2.2.2.2.2.2) F (0,(By q ps idx now).fPolicy.fVisible,(By q ps idx now).fPolicy.fReceives,(By q ps idx now).fNow,(By q ps idx now).fArrived,(By q ps idx now).fWaiting,ps)=some (.go (q'.fPolicy.fVisible,q'.fPolicy.fReceives,q'.fNow,q'.fArrived,q'.fWaiting,ps')):=h1;rw[AN rfl,h1',AU rfl,Dz];have e:(⟨⟨q'.fPolicy.fVisible,q'.fPolicy.fReceives⟩,q'.fWaiting,[],q'.fNow,q'.fArrived⟩:Ah)=q':=by
   cases q';simp only at h4;subst h4;rfl
  refine⟨((By q ps idx now).fDead.length:Int),q',ps',idx',?_,h2,⟨h3.1,by have:=h3.2.1;omega,by have:=h3.2.2;omega⟩,h5,?_,.inr ⟨h6,hnw.1,hnw.2.1⟩⟩
  ·unfold DU;simp only;rw[e]
  ·rw[h7,h4];exact It q ps idx now
 ·simp only[ha,decide_false,UJ,Vk];rw[AO rfl];exact⟨_,q,ps,idx,rfl,h,hbn,rfl,rfl,.inl rfl⟩
def Tq (a b now:Int):Prop:=b=a∨b=now∧0≤now∧now≤1073741824
theorem KW (q:Ah)(ps:List Ab)(idx:List Int)(now t:Int):(EG q ps idx now t).fPolicy=q.fPolicy∧Tq q.fNow (EG q ps idx now t).fNow now∧(EG q ps idx now t).fArrived=q.fArrived:=by
 unfold EG
 split
 ·rename_i h;have:=Cy h.2;exact⟨rfl,.inr ⟨rfl,this.1,this.2.1⟩,rfl⟩
 ·exact⟨rfl,.inl rfl,rfl⟩
theorem Ro (q:Ah)(ps:List Ab)(idx:List Int)(e:Aw)(now d x:Int):(Gr q ps idx e now d x).2.1.fPolicy=q.fPolicy∧Tq q.fNow (Gr q ps idx e now d x).2.1.fNow now:=by
 unfold Gr
 by_cases ht:PA d=true
 ·rw[UM ht]
  by_cases ha:D4 q now=0
  ·have hn:=Cy ha;rw[UM ha]
   by_cases hx:x=0
   ·rw[UM hx]
    by_cases hh:M3 (By q ps idx now) e.fID=true
    ·rw[UM hh];exact⟨rfl,.inr ⟨rfl,hn.1,hn.2.1⟩⟩
    ·rw[UD hh]
     by_cases hf:KG (By q ps idx now)=true
     ·rw[UM hf];exact⟨rfl,.inr ⟨rfl,hn.1,hn.2.1⟩⟩
     ·rw[UD hf];exact⟨rfl,.inr ⟨rfl,hn.1,hn.2.1⟩⟩
   ·rw[UD hx];exact⟨rfl,.inr ⟨rfl,hn.1,hn.2.1⟩⟩
  ·rw[UD ha];exact⟨rfl,.inl rfl⟩
 ·rw[UD ht];exact⟨rfl,.inl rfl⟩
theorem QI.upd {q:Ah}{ps:List Ab}{idx:List Int}(h:QI q ps idx){i:Int}(hi:i∈idx){t:Int}(b:Bool)(ht:0≤t∧t≤2147483648):QI q (ps.set i.toNat ⟨(Ac ps i).fEvent,t,(Ac ps i).fReceives,b,(Ac ps i).fPlace⟩) idx:=h.set hi rfl rfl ht (h.rcv i hi)
theorem NW {F n:Nat}(hF:5000<F){q:Ah}{ps:List Ab}{idx:List Int}(h:QI q ps idx)(hb:QB n q ps)(hn:n+256≤1000000){o:AI}(hs:Ir o=false)(ho:Sv o.fEvent) :
  ∃k f q' ps' idx',DN F q ps o=some (k,f,q',ps')∧QI q' ps' idx'∧QB (n+256) q' ps'∧q'.fPolicy=q.fPolicy∧Tq q.fNow q'.fNow o.fNow∧
   ((idx'.length+q'.fDead.length:Nat):Int)=(idx.length+q.fDead.length:Nat)+(if f=0∧o.fKind=0 then 1 else 0)-(if f=0∧o.fKind=2 then 1 else 0):=by
 obtain⟨b1,b2,b3⟩:=hb;have hb:QB n q ps:=⟨b1,b2,b3⟩
 have hsm:De o.fEvent=true∧o.fReceipt.length≤300:=by
  unfold Ir at hs;simp only[UY,Bool.not_eq_false',U1] at hs;exact⟨hs.1,by omega⟩
 have hbn:∀{q':Ah} {ps':List Ab},q'.fArrived=q.fArrived→ps'.length=ps.length→QB (n+256) q' ps':=λh1 h2=>⟨by rw[h1];omega,by rw[h1];omega,by rw[h2];omega⟩
 unfold DN
 by_cases k0:o.fKind=0
 ·obtain⟨x,hx⟩:=MB (F:=F) hF hsm.1 ho;obtain⟨idx',h1,h2,h3,h4⟩:=SD h hsm.1 o.fNow o.fN x (λe=>OV (by rw[hx,e])) n hb;have hnw:=Ro q ps idx o.fEvent o.fNow o.fN x;rw[AO (U4 k0),P5 hF h hb (by omega) hsm.1 ho _ _ hx,AU rfl];refine⟨0,(Gr q ps idx o.fEvent o.fNow o.fN x).1,(Gr q ps idx o.fEvent o.fNow o.fN x).2.1,(Gr q ps idx o.fEvent o.fNow o.fN x).2.2,idx',rfl,h1,⟨h2.1,by have:=h2.2.1;omega,by have:=h2.2.2;omega⟩,hnw.1,hnw.2,?_⟩
  by_cases hf:(Gr q ps idx o.fEvent o.fNow o.fN x).1=0
  ·rw[UM ⟨hf,k0⟩,UD (by omega),h3 hf];omega
  ·rw[UD (λe=>hf e.1),UD (λe=>hf e.1),h4 hf];omega
 ·rw[AN (U7 k0)]
  by_cases k2:o.fKind=2
  ·rw[AO (U4 k2),Hw (by omega) h (by omega),AU rfl];have hun:=KW q ps idx o.fNow 0;have hcn:=KX q ps idx o.fNow 0;have huq:=MP h o.fNow 0
   by_cases he:(CV q ps idx o.fReceipt o.fNow 0).2=0
   ·obtain⟨_,ha,e1,e2,hi⟩:=Ix h he;have hi':(CV q ps idx o.fReceipt o.fNow 0).1∈GX q ps idx o.fNow 0:=by rw[e2];exact hi
    have hrc:=SF huq hi';simp only[UM he];refine⟨0,_,_,_,Ni (GX q ps idx o.fNow 0) (CV q ps idx o.fReceipt o.fNow 0).1,rfl,So huq hi',hbn hun.2.2 rfl,hun.1,hun.2.1,?_⟩;rw[UD (λe=>k0 e.2),UM ⟨he,k2⟩];show(((Ni (GX q ps idx o.fNow 0) (CV q ps idx o.fReceipt o.fNow 0).1).length+(EG q ps idx o.fNow 0).fDead.length:Nat):Int)=_;omega
   ·simp only[UD he];refine⟨0,_,_,_,GX q ps idx o.fNow 0,rfl,huq,hbn hun.2.2 rfl,hun.1,hun.2.1,?_⟩;rw[UD (λe=>he e.1),UD (λe=>he e.1),hcn];omega
  ·rw[AN (U7 k2)]
   by_cases k3:o.fKind=3
   ·rw[AO (U4 k3),MS (by omega) h (by omega),AU rfl];have hun:=KW q ps idx o.fNow o.fN;have hcn:=KX q ps idx o.fNow o.fN;have huq:=MP h o.fNow o.fN
    by_cases he:(CV q ps idx o.fReceipt o.fNow o.fN).2=0
    ·obtain⟨ht,ha,e1,e2,hi⟩:=Ix h he;have hn':=Cy ha;have hi':(CV q ps idx o.fReceipt o.fNow o.fN).1∈GX q ps idx o.fNow o.fN:=by rw[e2];exact hi
     simp only[UM he];refine⟨0,_,_,_,GX q ps idx o.fNow o.fN,rfl,huq.upd hi' false ⟨by omega,by omega⟩,hbn hun.2.2 (Vn ..),hun.1,hun.2.1,?_⟩;rw[UD (λe=>k0 e.2),UD (λe=>k2 e.2),hcn];omega
    ·simp only[UD he];refine⟨0,_,_,_,GX q ps idx o.fNow o.fN,rfl,huq,hbn hun.2.2 rfl,hun.1,hun.2.1,?_⟩;rw[UD (λe=>he e.1),UD (λe=>he e.1),hcn];omega
   ·rw[AN (U7 k3)]
    by_cases k4:o.fKind=4
    ·rw[AO (U4 k4),Na (by omega) h (by omega),AU rfl];have hun:=KW q ps idx o.fNow o.fN;have hcn:=KX q ps idx o.fNow o.fN;have huq:=MP h o.fNow o.fN
     by_cases he:(CV q ps idx o.fReceipt o.fNow o.fN).2=0
     ·obtain⟨ht,ha,e1,e2,hi⟩:=Ix h he;have hn':=Cy ha;have hi':(CV q ps idx o.fReceipt o.fNow o.fN).1∈GX q ps idx o.fNow o.fN:=by rw[e2];exact hi
      simp only[UM he];refine⟨0,_,_,_,GX q ps idx o.fNow o.fN,rfl,huq.upd hi' _ ⟨by omega,by omega⟩,hbn hun.2.2 (Vn ..),hun.1,hun.2.1,?_⟩;rw[UD (λe=>k0 e.2),UD (λe=>k2 e.2),hcn];omega
     ·simp only[UD he];refine⟨0,_,_,_,GX q ps idx o.fNow o.fN,rfl,huq,hbn hun.2.2 rfl,hun.1,hun.2.1,?_⟩;rw[UD (λe=>he e.1),UD (λe=>he e.1),hcn];omega
    ·rw[AN (U7 k4)]
     by_cases k5:o.fKind=5
     ·obtain⟨k,q',ps',idx',h1,h2,h3,h4,h5,h6⟩:=LR (F:=F) (by omega) h hb hn o.fNow;rw[AO (U4 k5),h1,AU rfl];refine⟨k,0,q',ps',idx',rfl,h2,h3,h4,h6,?_⟩;rw[UD (λe=>k0 e.2),UD (λe=>k2 e.2),h5];omega
     ·rw[AN (U7 k5)];refine⟨0,0,q,ps,idx,rfl,h,hbn rfl rfl,rfl,.inl rfl,?_⟩;rw[UD (λe=>k0 e.2),UD (λe=>k2 e.2)];omega
def D9 (t:Int):List Int→List Ab→List Ab
 | [],ps=>ps
 | i::L,ps=>D9 t L (ps.set i.toNat (D6 (Ac ps i) t))
def CS (t:Int)(ps:List Ab)(L:List Int):List A4:=L.map λi=>IH (D6 (Ac ps i) t)
theorem O5 {q:Ah}{idx P:List Int}{now most:Int}{r2:Int×Ah×List Ab}(hr2:r2.2.1.fPolicy=q.fPolicy)(hnd:P.Nodup)(hsub:∀i∈P,i∈idx)(hP:P.length≤256)(hnow:0≤now∧now≤1073741824) :
  ∀(d n j:Nat) (out:List A4) (ps:List Ab),j+d=P.length→d<n→QI q ps idx→out.length≤j→(∀i∈P.drop j,(Ac ps i).fReceives<q.fPolicy.fReceives)→
   BP (λσ=>B2 now most r2 P σ.1 σ.2.1 σ.2.2) n (out,(j:Int),ps)=some (.go (out++CS (now+q.fPolicy.fVisible) ps ((P.drop j).take (most.toNat-out.length)),D9 (now+q.fPolicy.fVisible) ((P.drop j).take (most.toNat-out.length)) ps))∧QI q (D9 (now+q.fPolicy.fVisible) ((P.drop j).take (most.toNat-out.length)) ps) idx:=by
 intro d
 induction d with
 | zero=>
  intro n j out ps h hn hq ho hr;obtain⟨n,rfl⟩:∃m,n=m+1:=⟨n-1,by omega⟩
  have hb:B2 now most r2 P out (j:Int) ps=some (.out (.go (out,ps))):=by unfold B2;rw[AN (U7 (by omega))]
  rw[List.drop_of_length_le (by omega),List.take_nil];exact⟨by rw[BP];simp only[hb];rw[show CS (now+q.fPolicy.fVisible) ps []=[] from rfl,List.append_nil];rfl,hq⟩
 | succ d ih=>
  intro n j out ps h hn hq ho hr;obtain⟨n,rfl⟩:∃m,n=m+1:=⟨n-1,by omega⟩
  have hj:j<P.length:=by omega
  have hd:=List.drop_eq_getElem_cons hj;have hm:P[j]∈idx:=hsub _ (List.getElem_mem hj);have hrj:=hr P[j] (by rw[hd];exact List.mem_cons_self ..);have hrc:=hq.rcv _ hm;have hpol:=hq.rcs;have hvis:=hq.vis;have hb:=Mf (now:=now) (most:=most) (r2:=r2) (out:=out) hj hP (hq.inr _ hm) (hq.sm _ hm) ⟨hrc.1,by omega⟩ (by rw[hr2];omega) (by omega);rw[hr2] at hb
  by_cases hmo:most≤(out.length:Int)
  ·rw[UM hmo] at hb;rw[show most.toNat-out.length=0 from by omega,List.take_zero];exact⟨by rw[BP];simp only[hb];rw[show CS (now+q.fPolicy.fVisible) ps []=[] from rfl,List.append_nil];rfl,hq⟩
  ·rw[UD hmo] at hb;have hq':QI q (ps.set P[j].toNat (D6 (Ac ps P[j]) (now+q.fPolicy.fVisible))) idx:=hq.set hm rfl rfl (by show 0≤now+q.fPolicy.fVisible∧now+q.fPolicy.fVisible≤2147483648;omega) (by show 0≤(Ac ps P[j]).fReceives+1∧(Ac ps P[j]).fReceives+1≤q.fPolicy.fReceives;omega);have hsame:∀i∈P.drop (j+1),Ac (ps.set P[j].toNat (D6 (Ac ps P[j]) (now+q.fPolicy.fVisible))) i=Ac ps i:=λi hi=>by
    have hii:i∈P.drop j:=by rw[hd];exact List.mem_cons_of_mem _ hi
    have hne:i≠P[j]:=λe=>by
     have hnd':(P.drop j).Nodup:=hnd.sublist (List.drop_sublist _ _);rw[hd,List.nodup_cons] at hnd';exact hnd'.1 (e▸hi)
    rw[IM (hq.inr _ hm) (hq.inr i (hsub i (List.mem_of_mem_drop hii))),UD hne]
   obtain⟨h1,h2⟩:=ih n (j+1) (out++[IH (D6 (Ac ps P[j]) (now+q.fPolicy.fVisible))]) _ (by omega) (by omega) hq' (by simp;omega) (λi hi=>by
    rw[hsame i hi];exact hr i (by rw[hd];exact List.mem_cons_of_mem _ hi))
   have hk:most.toNat-out.length=(most.toNat-(out.length+1))+1:=by omega
   have hlen:(out++[IH (D6 (Ac ps P[j]) (now+q.fPolicy.fVisible))]).length=out.length+1:=by simp
   rw[hlen] at h1 h2;have hout:CS (now+q.fPolicy.fVisible) (ps.set P[j].toNat (D6 (Ac ps P[j]) (now+q.fPolicy.fVisible))) ((P.drop (j+1)).take (most.toNat-(out.length+1)))=CS (now+q.fPolicy.fVisible) ps ((P.drop (j+1)).take (most.toNat-(out.length+1))):=
    List.map_congr_left λi hi=>by rw[hsame i (List.mem_of_mem_take hi)]
   rw[hk,hd,List.take_succ_cons];refine⟨?_,h2⟩;rw[BP];simp only[hb];rw[h1,hout,Vg];rfl
def D7 (q:Ah)(ps:List Ab)(idx:List Int)(now most:Int):List Int:=(Gd (IB ps) ((B1 q ps idx now).filter (Cb ps now))).take most.toNat
theorem E8 {F:Nat}(hF:300<F){q:Ah}{ps:List Ab}{idx:List Int}(h:QI q ps idx)(now most:Int) :
  Cz F q ps now most=some (if D4 q now=0 then(CS (now+q.fPolicy.fVisible) ps (D7 q ps idx now most),By q ps idx now,D9 (now+q.fPolicy.fVisible) (D7 q ps idx now most) ps) else([],q,ps))∧
  (D4 q now=0→QI (By q ps idx now) (D9 (now+q.fPolicy.fVisible) (D7 q ps idx now most) ps) (B1 q ps idx now)):=by
 unfold Cz;rw[Ev hF h,AU rfl]
 by_cases ha:D4 q now=0
 ·have hn:=Cy ha;have hq:=DF h ⟨hn.1,hn.2.1⟩;simp only[ha,decide_true,UC,Vp];rw[AN rfl,IV hq,AU rfl];have hpm:=CW (IB ps) ((B1 q ps idx now).filter (Cb ps now));have hsub:∀i∈Gd (IB ps) ((B1 q ps idx now).filter (Cb ps now)),i∈B1 q ps idx now:=λi hi=>(List.mem_filter.1 (hpm.subset hi)).1;have hnd:(Gd (IB ps) ((B1 q ps idx now).filter (Cb ps now))).Nodup:=hpm.symm.nodup ((hq.ord.imp fun {a b} hab e=>by subst e;omega:(B1 q ps idx now).Nodup).filter _);have hc:=hq.cnt;have hl:(Gd (IB ps) ((B1 q ps idx now).filter (Cb ps now))).length≤256:=by
   rw[hpm.length_eq];exact Nat.le_trans (List.length_filter_le _ _) (by omega)
  obtain⟨h1,h2⟩:=O5 (q:=By q ps idx now) (idx:=B1 q ps idx now) (now:=now) (most:=most) (r2:=(0,By q ps idx now,ps)) rfl hnd hsub hl ⟨hn.1,hn.2.1⟩ (Gd (IB ps) ((B1 q ps idx now).filter (Cb ps now))).length F 0 [] ps (by omega) (by omega) hq (by simp) (λi hi=>by
   rw[List.drop_zero] at hi;have h4:=List.mem_filter.1 (hpm.subset hi);have h5:=(List.mem_filter.1 h4.1).2;have h6:Cb ps now i=true:=h4.2;unfold Cg at h5;unfold Cb at h6;rw[h6] at h5;simp only[UN,UK,U1] at h5;show(Ac ps i).fReceives<q.fPolicy.fReceives;omega)
  rw[List.drop_zero] at h1 h2;have h1':BP (λσ=>B2 now most (0,By q ps idx now,ps) (Gd (IB ps) ((B1 q ps idx now).filter (Cb ps now))) σ.1 σ.2.1 σ.2.2) F (([]:List A4),0,ps)=_:=h1;rw[h1',AU rfl,Dz];exact⟨rfl,λ_=>h2⟩
 ·simp only[ha,decide_false,UJ,Vk];rw[AO rfl];exact⟨rfl,λe=>absurd e (by simp)⟩
theorem PN {t:Int}:∀{L:List Int} {ps:List Ab},L.Nodup→(∀i∈L,C2 i (ps.length:Int)=true)→∀{j:Int},C2 j (ps.length:Int)=true→Ac (D9 t L ps) j=if j∈L then D6 (Ac ps j) t else Ac ps j
 | [],ps,_,_,j,hj=>by simp[D9]
 | i::L,ps,hn,hi,j,hj=>by
  rw[List.nodup_cons] at hn;have h1:=hi i (List.mem_cons_self ..);have hl:(ps.set i.toNat (D6 (Ac ps i) t)).length=ps.length:=Vn ..;rw[D9,PN hn.2 (λk hk=>by rw[hl];exact hi k (List.mem_cons_of_mem _ hk)) (by rw[hl];exact hj),IM h1 hj]
  by_cases e:j=i
  ·subst e;rw[UD hn.1,UM rfl,UM (List.mem_cons_self ..)]
  ·rw[UD e]
   by_cases hm:j∈L
   ·rw[UM hm,UM (List.mem_cons_of_mem _ hm)]
   ·rw[UD hm,UD (λh=>by rcases List.mem_cons.1 h with h | h;exact e h;exact hm h)]
theorem Ew {q:Ah}{ps:List Ab}{idx:List Int}(h:QI q ps idx)(now most:Int):(D7 q ps idx now most).Nodup∧∀i∈D7 q ps idx now most,i∈B1 q ps idx now∧Cb ps now i=true:=by
 have hpm:=CW (IB ps) ((B1 q ps idx now).filter (Cb ps now));have hnd:idx.Nodup:=h.ord.imp fun {a b} hab e=>by subst e;omega
 refine⟨(hpm.symm.nodup ((hnd.filter _).filter _)).sublist (List.take_sublist _ _),λi hi=>?_⟩;exact List.mem_filter.1 (hpm.subset (List.mem_of_mem_take hi))
theorem OC {F:Nat}(hF:5000<F){l:List AI}(hl:l.length≤300)(hs:∀o∈l,Ir o=false∧Sv o.fEvent):∀(d n j:Nat) (q:Ah) (ps:List Ab) (idx:List Int),j+d=l.length→d<n→QI q ps idx→QB (256*j) q ps→
  ∃ (q':Ah) (ps':List Ab) (idx':List Int),BP (λσ=>B8 F l σ.1 σ.2.1 σ.2.2.1 σ.2.2.2.1 σ.2.2.2.2.1 σ.2.2.2.2.2.1 σ.2.2.2.2.2.2.1 σ.2.2.2.2.2.2.2) n ((j:Int),q.fPolicy.fVisible,q.fPolicy.fReceives,q.fDead,q.fNow,q.fArrived,q.fWaiting,ps) =
   some (.go (q'.fPolicy.fVisible,q'.fPolicy.fReceives,q'.fDead,q'.fNow,q'.fArrived,q'.fWaiting,ps'))∧QI q' ps' idx'∧QB (256*300) q' ps'∧q'.fPolicy=q.fPolicy:=by
 intro d
 induction d with
 | zero=>
  intro n j q ps idx h hn hq hb;obtain⟨n,rfl⟩:∃m,n=m+1:=⟨n-1,by omega⟩
  have hb1:B8 F l (j:Int) q.fPolicy.fVisible q.fPolicy.fReceives q.fDead q.fNow q.fArrived q.fWaiting ps=some (.out (.go (q.fPolicy.fVisible,q.fPolicy.fReceives,q.fDead,q.fNow,q.fArrived,q.fWaiting,ps))):=by unfold B8;rw[AN (U7 (by omega))]
  obtain⟨b1,b2,b3⟩:=hb;exact⟨q,ps,idx,by rw[BP];simp only[hb1],hq,⟨b1,by omega,by omega⟩,rfl⟩
 | succ d ih=>
  intro n j q ps idx h hn hq hb;obtain⟨n,rfl⟩:∃m,n=m+1:=⟨n-1,by omega⟩
  have hj:j<l.length:=by omega
  have ho:=hs l[j] (List.getElem_mem hj);have hbody:∃q' ps' idx',B8 F l (j:Int) q.fPolicy.fVisible q.fPolicy.fReceives q.fDead q.fNow q.fArrived q.fWaiting ps=some (.next (((j+1:Nat):Int),q'.fPolicy.fVisible,q'.fPolicy.fReceives,q'.fDead,q'.fNow,q'.fArrived,q'.fWaiting,ps'))∧QI q' ps' idx'∧QB (256*(j+1)) q' ps'∧q'.fPolicy=q.fPolicy:=by
   unfold B8;rw[AO (U4 (by omega)),BU (by omega) (by omega),Gi hj];generalize l[j]=o at ho ⊢
   by_cases k1:o.fKind=1
   ·rw[AO (U4 k1)];obtain⟨out,q1,ps1,idx1,r1,r2,r3,r4,r5,r6⟩:=LS (F:=F) (by omega) hq hb o.fNow o.fN;have r1':Cz F ⟨⟨q.fPolicy.fVisible,q.fPolicy.fReceives⟩,q.fWaiting,q.fDead,q.fNow,q.fArrived⟩ ps o.fNow o.fN=some (out,q1,ps1):=r1;rw[r1',AU rfl];obtain⟨k,f,q2,ps2,idx2,e1,e2,e3,e4,e5,e6⟩:=NW hF r2 r3 (by omega) ho.1 ho.2;have e1':DN F q1 ps1 ⟨o.fKind,o.fNow,o.fN,o.fEvent,o.fReceipt⟩=some (k,f,q2,ps2):=e1;simp only;rw[e1',AU rfl,Bb (by omega) (by omega)];exact⟨q2,ps2,idx2,rfl,e2,by rw[Nat.mul_add];exact e3,e4.trans r4⟩
   ·rw[AN (U7 k1)];obtain⟨k,f,q2,ps2,idx2,e1,e2,e3,e4,e5,e6⟩:=NW hF hq hb (by omega) ho.1 ho.2;have e1':DN F ⟨⟨q.fPolicy.fVisible,q.fPolicy.fReceives⟩,q.fWaiting,q.fDead,q.fNow,q.fArrived⟩ ps ⟨o.fKind,o.fNow,o.fN,o.fEvent,o.fReceipt⟩=some (k,f,q2,ps2):=e1;rw[e1',AU rfl,Bb (by omega) (by omega)];exact⟨q2,ps2,idx2,rfl,e2,by rw[Nat.mul_add];exact e3,e4⟩
  obtain⟨q',ps',idx',h1,h2,h3,h4⟩:=hbody;obtain⟨q2,ps2,idx2,h6,h7,h8,h9⟩:=ih n (j+1) q' ps' idx' (by omega) (by omega) h2 h3;refine⟨q2,ps2,idx2,?_,h7,h8,h9.trans h4⟩;rw[BP];simp only[h1];exact h6
theorem Nn {F:Nat}(hF:5000<F){p:A8}{l:List AI}(hl:l.length≤300)(hs:∀o∈l,Ir o=false∧Sv o.fEvent) :
  (CG F p l=none∧E1 F p l=some ())∨∃q ps idx,CG F p l=some (q,ps)∧QI q ps idx∧QB (256*300) q ps∧q.fPolicy=p:=by
 unfold CG E1 Gm K1
 by_cases hp:(decide (p.fVisible<1)||(decide (1073741824<p.fVisible)||(decide (p.fReceives<1)||decide (10<p.fReceives))))=true
 ·rw[hp];exact .inl ⟨rfl,rfl⟩
 ·rw[Bool.not_eq_true] at hp;rw[hp,AN (p:=false) rfl];simp only[UY,U1] at hp;rw[Option.isSome_some,AO rfl,AU rfl];have h0:QI ⟨p,[],[],0,0⟩ [] []:=⟨(by show 1≤p.fVisible∧p.fVisible≤1073741824;omega),(by show 1≤p.fReceives∧p.fReceives≤10;omega),U3 _,by simp,List.Pairwise.nil,by simp,List.nodup_nil,(by show(0:Int)≤0∧(0:Int)≤1073741824;omega),by simp,by simp,by simp,by simp,by simp⟩
  obtain⟨q',ps',idx',h1,h2,h3,h4⟩:=OC hF hl hs l.length F 0 ⟨p,[],[],0,0⟩ [] [] (by omega) (by omega) h0 ⟨Vi _,by simp,by simp⟩;have h1':BP (λσ=>B8 F l σ.1 σ.2.1 σ.2.2.1 σ.2.2.2.1 σ.2.2.2.2.1 σ.2.2.2.2.2.1 σ.2.2.2.2.2.2.1 σ.2.2.2.2.2.2.2) F (0,p.fVisible,p.fReceives,([]:List Aw),0,0,([]:List (AA×Int)),([]:List Ab))=_:=h1;simp only;rw[h1',AU rfl,Dz];exact .inr ⟨q',ps',idx',rfl,h2,h3,h4⟩
theorem RH (i:Nat):IG i 35=false:=by
 cases i<;>rfl
theorem Kh {f:Nat→UInt8→Bool}(hf:∀i,f i 35=false):∀(p:AA) (k:Nat),Bg f k p=true→(35:UInt8) ∉ p
 | [],_,_=>by simp
 | c::r,k,h=>by
  simp only[Bg,U6] at h;intro hm;rcases List.mem_cons.1 hm with e | hm
  ·rw[← e,hf] at h;cases h.1
  ·exact Kh hf r (k+1) h.2 hm
theorem Tb {p:AA}(h:DO p=true):(35:UInt8) ∉ p∧p≠[]:=by
 unfold DO at h;simp only[U6,U2] at h;exact⟨Kh RH p 0 h.1.1,λe=>by rw[e] at h;simp at h⟩
theorem KE:∀(p r:AA),(35:UInt8) ∉ p→Lib.indexByte (p++35::r) 35=(p.length:Int)
 | [],r,_=>rfl
 | c::p,r,h=>by
  have hc:(c ==35)=false:=by
   rw[beq_eq_false_iff_ne];intro e;exact h (by rw[e];exact List.mem_cons_self ..)
  have ih:=KE p r λhm=>h (List.mem_cons_of_mem _ hm);show(if (c ==35)=true then(0:Int) else if (Lib.indexByte (p++35::r) 35 == -1)=true then -1 else Lib.indexByte (p++35::r) 35+1)=_;rw[hc,ih,UD (by simp),UD (by simp)];simp
theorem Kc {x:Ab}(h:DO x.fEvent.fID=true):Jp (EI x)=(x.fEvent.fID,Lib.itoa x.fReceives,true):=by
 obtain⟨h1,h2⟩:=Tb h;have e:EI x=x.fEvent.fID++35::Lib.itoa x.fReceives:=by unfold EI;rw[Vg];rfl
 have hix:Pp (EI x)=(x.fEvent.fID.length:Int):=by
  unfold Pp;have hne : ¬ ([35]:AA)=EI x:=λe2=>by
   rw[e] at e2
   cases hp:x.fEvent.fID with
   | nil=>exact h2 hp
   | cons c r=>
    rw[hp] at e2 h1;simp only[List.cons_append,List.cons.injEq] at e2;exact h1 (by rw[← e2.1];exact List.mem_cons_self ..)
  rw[U7 hne,e,KE _ _ h1];rfl
 unfold Jp;rw[hix,U4 (by omega)];show((EI x).take ((x.fEvent.fID.length:Int)).toNat,(EI x).drop ((x.fEvent.fID.length:Int)+1).toNat,true)=_;rw[show((x.fEvent.fID.length:Int)).toNat=x.fEvent.fID.length from by omega,show((x.fEvent.fID.length:Int)+1).toNat=x.fEvent.fID.length+1 from by omega,e,List.take_left' rfl,List.drop_append];simp
theorem R8 {O:Type}{body:Int→Option (Stp Int O)}{m:Nat}{o:O}(hb:∀i:Nat,i<m→body (i:Int)=some (.next ((i:Int)+1)))(he:body (m:Int)=some (.out o)):∀(d n i:Nat),i+d=m→d<n→BP body n (i:Int)=some o:=by
 intro d
 induction d with
 | zero=>
  intro n i h hn;obtain⟨n,rfl⟩:∃k,n=k+1:=⟨n-1,by omega⟩
  obtain rfl:i=m:=by omega
  rw[BP,he]
 | succ d ih=>
  intro n i h hn;obtain⟨n,rfl⟩:∃k,n=k+1:=⟨n-1,by omega⟩
  rw[BP,hb i (by omega)];exact ih n (i+1) (by omega) (by omega)
theorem If {O:Type}{body:Int→Option (Stp Int O)}{m F:Nat}{o:O}(hF:m<F)(hb:∀i:Nat,i<m→body (i:Int)=some (.next ((i:Int)+1)))(he:body (m:Int)=some (.out o)):BP body F 0=some o:=R8 hb he m F 0 (by omega) hF
theorem QI.nodup {q:Ah}{ps:List Ab}{idx:List Int}(h:QI q ps idx):idx.Nodup:=h.ord.imp fun {a b} hab e=>by subst e;omega
theorem QI.idne {q:Ah}{ps:List Ab}{idx:List Int}(h:QI q ps idx){i j:Int}(hi:i∈idx)(hj:j∈idx)(he:(E5 ps i).fID=(E5 ps j).fID):i=j:=by
 have hids:(idx.map λi=>(E5 ps i).fID).Nodup:=(List.nodup_append.1 h.ids).1;exact(HX (R:=λa b=>(E5 ps a).fID≠(E5 ps b).fID) (λx y h e=>h e.symm) (List.pairwise_map.1 hids) i j hi hj).resolve_right (λhne=>hne he)
theorem QI.mget {q:Ah}{ps:List Ab}{idx:List Int}(h:QI q ps idx){i:Int}(hi:i∈idx):mget q.fWaiting (E5 ps i).fID=some i:=by
 have hm:((E5 ps i).fID,i)∈q.fWaiting:=h.pm.symm.subset (List.mem_map.2 ⟨i,hi,rfl⟩)
 cases hg:Go.Proofs.YthbbedliepkakaaGreatDoor.mget q.fWaiting (E5 ps i).fID with
 | none=>exact absurd rfl (EL (by unfold Ck;rw[hg];rfl) _ hm)
 | some j=>
  obtain⟨hj,he⟩:=h.get hg;rw[h.idne hj hi he]
theorem GD {q:Ah}{now:Int}(h0:0≤q.fNow):D4 q now=0↔q.fNow≤now∧now≤1073741824:=by
 unfold D4;constructor
 ·intro h
  split at h
  ·split at h
   ·simp at h
   ·omega
  ·simp at h
 ·intro h;rw[UM (by omega),UD (by omega)]
theorem Oq {q:Ah}{ps:List Ab}{idx:List Int}{now:Int}:((B1 q ps idx now).filter (Cb ps now)).length+(idx.filter (Cg q ps now)).length=(idx.filter (Cb ps now)).length:=by
 have h1:(B1 q ps idx now).filter (Cb ps now)=(idx.filter (Cb ps now)).filter (λi=>!Cg q ps now i):=by
  unfold B1;rw[List.filter_filter,List.filter_filter];exact List.filter_congr λi _=>Bool.and_comm _ _
 have h2:idx.filter (Cg q ps now)=(idx.filter (Cb ps now)).filter (Cg q ps now):=by
  rw[List.filter_filter];exact List.filter_congr λi _=>by unfold Cg Cb;cases decide ((Ac ps i).fAt≤now)<;>simp
 have h3:=(List.filter_append_perm (Cg q ps now) (idx.filter (Cb ps now))).length_eq;rw[UG] at h3;rw[h1,h2];omega
theorem Kf {q:Ah}{ps:List Ab}{idx:List Int}(h:QI q ps idx){now most t:Int}{j:Int}(hj:j∈idx):Ac (D9 t (D7 q ps idx now most) ps) j=if j∈D7 q ps idx now most then D6 (Ac ps j) t else Ac ps j:=by
 obtain⟨h1,h2⟩:=Ew h now most;exact PN h1 (λi hi=>h.inr i (List.mem_filter.1 (h2 i hi).1).1) (h.inr j hj)
theorem Nj {q:Ah}{ps:List Ab}{idx:List Int}(h:QI q ps idx){now most:Int} :
  let L:=D7 q ps idx now most;let ps':=D9 (now+q.fPolicy.fVisible) L ps
  ((B1 q ps idx now).filter (Cb ps' now)).length+L.length=((B1 q ps idx now).filter (Cb ps now)).length∧(B1 q ps idx now).filter (Cg (By q ps idx now) ps' now)=[]:=by
 intro L ps';obtain⟨hn,hm⟩:=Ew h now most;have hsub:∀i∈B1 q ps idx now,i∈idx:=λi hi=>(List.mem_filter.1 hi).1;have hv:=h.vis;have hat:∀i∈B1 q ps idx now,Ac ps' i=if i∈L then D6 (Ac ps i) (now+q.fPolicy.fVisible) else Ac ps i:=λi hi=>Kf h (hsub i hi)
 have hvis:∀i∈B1 q ps idx now,Cb ps' now i=(Cb ps now i&&!decide (i∈L)):=λi hi=>by
  unfold Cb;rw[hat i hi]
  by_cases hL:i∈L
  ·rw[UM hL,U4 hL,UC,UT];exact U7 (by show ¬ now+q.fPolicy.fVisible≤now;omega)
  ·rw[UD hL,U7 hL,UJ,UU]
 have hand:=(h.nodup.filter (λi=>!Cg q ps now i))
 constructor
 ·rw[List.filter_congr hvis];have h3:=(List.filter_append_perm (λi=>decide (i∈L)) ((B1 q ps idx now).filter (Cb ps now))).length_eq;rw[UG] at h3;have h4:(((B1 q ps idx now).filter (Cb ps now)).filter (λi=>decide (i∈L))).Perm L:=by
   refine(List.perm_ext_iff_of_nodup ((hand.filter _).filter _) hn).2 λi=>?_;simp only[List.mem_filter,U2];constructor
   ·exact λhx=>hx.2
   ·intro hx;have:=hm i hx;exact⟨⟨List.mem_filter.1 this.1,this.2⟩,hx⟩
  have h5:(B1 q ps idx now).filter (λi=>Cb ps now i&&!decide (i∈L))=((B1 q ps idx now).filter (Cb ps now)).filter (λi=>!decide (i∈L)):=by
   rw[List.filter_filter];exact List.filter_congr λi _=>Bool.and_comm _ _
  rw[h5,← h4.length_eq];omega
 ·rw[List.filter_eq_nil_iff];intro i hi;have ho:=(List.mem_filter.1 hi).2;unfold Cg at ho ⊢;rw[hat i hi]
  by_cases hL:i∈L
  ·rw[UM hL];simp only[U6,U2,not_and];intro hx;have hx':now+q.fPolicy.fVisible≤now:=hx;omega
  ·rw[UD hL];simp only[UK,U6,U2] at ho ⊢;intro hx;rw[U4 hx.1] at ho;have hx2:q.fPolicy.fReceives≤(Ac ps i).fReceives:=hx.2;rw[U4 hx2] at ho
   cases ho
theorem HV {t:Int}{ps:List Ab}{L:List Int}{k:Nat}(h:k<L.length):Ac (CS t ps L) (k:Int)=IH (D6 (Ac ps L[k]) t):=by
 show Ac (L.map λi=>IH (D6 (Ac ps i) t)) (k:Int)=_;rw[Gi (by rw[UB];exact h),List.getElem_map]
theorem Ls {L idx:List Int}(hn:L.Nodup)(hi:idx.Nodup)(hs:∀i∈L,i∈idx):L.length≤idx.length:=by
 have h1:(idx.filter λi=>decide (i∈L)).Perm L:=(List.perm_ext_iff_of_nodup (hi.filter _) hn).2 λi=>by
  simp only[List.mem_filter,U2];exact⟨λh=>h.2,λh=>⟨hs i h,h⟩⟩
 rw[← h1.length_eq];exact List.length_filter_le _ _
theorem ER (t:Int)(ps:List Ab)(L:List Int):(CS t ps L).length=L.length:=by unfold CS;rw[UB]
theorem Rx {x y:Ab}(hx:DO x.fEvent.fID=true)(hy:DO y.fEvent.fID=true)(h:x.fEvent.fID≠y.fEvent.fID):EI x≠EI y:=λe=>h (by
 have:=congrArg (λs=>(Jp s).1) e;simp only[Kc hx,Kc hy] at this;exact this)
theorem Sb {F:Nat}{q:Ah}{ps:List Ab}{idx L:List Int}(h:QI q ps idx)(hn:L.Nodup)(hs:∀i∈L,i∈idx)(hF:300<F){t:Int}{r:(List A4)×Ah×(List Ab)}(hr:r.1=CS t ps L) :
  BP (λσ=>BX F r σ) F 0=some (.go ()):=by
 have hl:r.1.length=L.length:=by rw[hr,ER]
 have hc:L.length≤256:=by
  have h1:=Ls hn h.nodup hs;have:=h.cnt;omega
 refine If (m:=L.length) (by omega) (λi hi=>?_) ?_
 ·unfold BX;rw[hl,AO (U4 (by omega))];have h2:BP (λσ=>Cr r (i:Int) σ) F 0=some (.go ((i:Int),false)):=by
   refine If (m:=i) (by omega) (λk hk=>?_) ?_
   ·unfold Cr;have hne:L[k]≠L[i]:=λe=>by
     have:=(List.getElem_inj hn).1 e;omega
    have hid:(Ac ps L[k]).fEvent.fID≠(Ac ps L[i]).fEvent.fID:=λe=>hne (h.idne (hs _ (List.getElem_mem _)) (hs _ (List.getElem_mem _)) e);have hrc:EI (D6 (Ac ps L[k]) t)≠EI (D6 (Ac ps L[i]) t):=Rx (h.sm _ (hs _ (List.getElem_mem _))).2.2 (h.sm _ (hs _ (List.getElem_mem _))).2.2 hid;rw[AO (U4 (by omega)),hl,BU (by omega) (by omega),BU (by omega) (by omega),hr,HV (by omega),HV hi];rw[AN (by
     rw[UY];exact⟨U7 hrc,U7 hid⟩),Bb (by omega) (by omega)]
   ·unfold Cr;rw[AN (U7 (by omega)),U7 (by omega)]
  rw[h2,AU rfl,Dz];unfold CY;rw[Bb (by omega) (by omega)]
 ·unfold BX;rw[hl,AN (U7 (by omega))]
theorem RZ {F:Nat}{L L2:List Int}(hF:300<F)(hL:L.length≤256)(hL2:L2.length≤256){t t2:Int}{ps ps1:List Ab}{r r2:(List A4)×Ah×(List Ab)}(hr:r.1=CS t ps L)(hr2:r2.1=CS t2 ps1 L2)
  (hne:∀i∈L2,∀k∈L,(Ac ps1 i).fEvent.fID≠(Ac ps k).fEvent.fID):BP (λσ=>Cq F r r2 σ) F 0=some (.go ()):=by
 have hl:r.1.length=L.length:=by rw[hr,ER]
 have hl2:r2.1.length=L2.length:=by rw[hr2,ER]
 refine If (m:=L2.length) (by omega) (λi hi=>?_) ?_
 ·unfold Cq;rw[hl2,AO (U4 (by omega))];have h2:BP (λσ=>Cp r r2 (i:Int) σ) F 0=some (.go ((L.length:Int),false)):=by
   refine If (m:=L.length) (by omega) (λk hk=>?_) ?_
   ·unfold Cp;rw[hl,AO (U4 (by omega)),hl2,BU (by omega) (by omega),BU (by omega) (by omega),hr,hr2,HV hk,HV hi];have hid:(IH (D6 (Ac ps1 L2[i]) t2)).fEvent.fID≠(IH (D6 (Ac ps L[k]) t)).fEvent.fID:=hne _ (List.getElem_mem _) _ (List.getElem_mem _);rw[AN (U7 hid),Bb (by omega) (by omega)]
   ·unfold Cp;rw[hl,AN (U7 (by omega)),U7 (by omega)]
  rw[h2,AU rfl,Dz];unfold CX;rw[Bb (by omega) (by omega)]
 ·unfold Cq;rw[hl2,AN (U7 (by omega))]
theorem OW {F:Nat}(hF:300<F){q:Ah}{ps:List Ab}{idx:List Int}(h:QI q ps idx){i:Int}(hi:i∈idx){later:Int}(hq:q.fNow=later)(hat:later<(Ac ps i).fAt)(hheld:(Ac ps i).fHeld=true)(h1:1≤(Ac ps i).fReceives) :
  ∃q1 q2,CL F q ps (EI (Ac ps i)) later=some (0,q1,ps)∧CL F q1 ps (EI (Ac ps i)) later=some (5,q2,ps)∧LY F q2 ps (Ac ps i).fEvent.fID=some false:=by
 have hnow:=h.now;have hvl:=h.vis;have hrl:=h.rcs;have hrc:=h.rcv i hi;have hsm:=h.sm i hi;have hcut:=Kc (x:=Ac ps i) hsm.2.2;have hlen:(EI (Ac ps i)).length≤1000000:=by
  have hl1:(Ac ps i).fEvent.fID.length≤300:=hsm.1;have hl2:=M0 (Ac ps i).fReceives (by omega) (by omega);unfold EI;simp only[UG,Vb];omega
 have hback:=OR (m:=(Ac ps i).fReceives) (by omega) (by omega);have hno:∀(qq:Ah),Cg qq ps later i=false:=λqq=>by
  unfold Cg;rw[U7 (by omega),US]
 have acc_in:∀{qq:Ah} {ix:List Int},i∈ix→i∈B1 qq ps ix later:=fun {qq ix} hx=>List.mem_filter.2 ⟨hx,by rw[hno];rfl⟩;have hE:D4 q later=0:=(GD hnow.1).2 ⟨by omega,by omega⟩;have hq3:=DF h (now:=later) ⟨by omega,by omega⟩;have hi3:i∈B1 q ps idx later:=acc_in hi;have hm3:=hq3.mget hi3;have hu:CV q ps idx (EI (Ac ps i)) later 0=(i,0):=by
  unfold CV;rw[show PA 0=true from rfl,UF,UM hE,hcut];simp only;unfold M5;have hm3':mget (By q ps idx later).fWaiting (Ac ps i).fEvent.fID=some i:=hm3;rw[hm3'];simp only;rw[hback.1,hback.2,UD (by omega),UD (by rw[hheld];simp;omega)]
 have hd1:=Hw hF h hlen later;have huq:EG q ps idx later 0=By q ps idx later:=by unfold EG;rw[UM ⟨rfl,hE⟩]
 rw[hu,huq] at hd1;simp only[Vp] at hd1;have hq4:=So hq3 hi3;have hE4:D4 (Rv (By q ps idx later) ps i) later=0:=(GD (by show 0≤later;omega)).2 ⟨Vi _,by omega⟩;have hq5:=DF hq4 (now:=later) ⟨by omega,by omega⟩;have hnot:∀j∈Ni (B1 q ps idx later) i,(E5 ps j).fID≠(E5 ps i).fID:=λj hj e=>by
  obtain⟨hj1,hj2⟩:=List.mem_filter.1 hj;have:=hq3.idne hj1 hi3 e;subst this;simp at hj2
 have hu4:CV (Rv (By q ps idx later) ps i) ps (Ni (B1 q ps idx later) i) (EI (Ac ps i)) later 0=(-1,5):=by
  unfold CV;rw[show PA 0=true from rfl,UF,UM hE4,hcut];simp only;unfold M5
  cases hg:mget (By (Rv (By q ps idx later) ps i) ps (Ni (B1 q ps idx later) i) later).fWaiting (Ac ps i).fEvent.fID with
  | none=>rfl
  | some j=>
   obtain⟨hj,he⟩:=hq5.get hg;exact absurd he (hnot j (List.mem_filter.1 hj).1)
 have hd2:=Hw hF hq4 hlen later;have huq4:EG (Rv (By q ps idx later) ps i) ps (Ni (B1 q ps idx later) i) later 0=By (Rv (By q ps idx later) ps i) ps (Ni (B1 q ps idx later) i) later:=by unfold EG;rw[UM ⟨rfl,hE4⟩]
 rw[hu4,huq4] at hd2;rw[UD (by decide)] at hd2;refine⟨_,_,hd1,hd2,?_⟩;rw[N3 hF hq5]
 congr 1
 rw[Bool.eq_false_iff];intro hh;have hmem:=(NR hq5 (Ac ps i).fEvent.fID).1 hh;rcases List.mem_append.1 hmem with hx | hx
 ·obtain⟨j,hj,e⟩:=List.mem_map.1 hx;exact hnot j (List.mem_filter.1 hj).1 e
 ·have hdead:(By (Rv (By q ps idx later) ps i) ps (Ni (B1 q ps idx later) i) later).fDead=(By q ps idx later).fDead++(IO (Rv (By q ps idx later) ps i) ps (Ni (B1 q ps idx later) i) later).map (E5 ps):=rfl;rw[hdead,Vq] at hx;rcases List.mem_append.1 hx with hy | hy
  ·have hnd:=(List.nodup_append.1 hq3.ids).2.2;exact hnd _ (List.mem_map.2 ⟨i,hi3,rfl⟩) _ hy rfl
  ·rw[Vr] at hy;obtain⟨j,hj,e⟩:=List.mem_map.1 hy;have:=(EX _ _ _ _).subset hj;exact hnot j (List.mem_filter.1 this).1 e
theorem TC {F:Nat}(hF:300<F)(hAw:Ea F=some true){q:Ah}{ps:List Ab}{idx:List Int}(h:QI q ps idx){i:Int}(hi:i∈idx){later:Int}(hq:q.fNow=later)(hat:later<(Ac ps i).fAt)(hheld:(Ac ps i).fHeld=true)(h1:1≤(Ac ps i).fReceives)
  {r r2:(List A4)×Ah×(List Ab)} (hr2:r2.2=(q,ps)) (hr:r.1≠[]) (hr0:(Ac r.1 0)=IH (Ac ps i)):C7 F later r r2=some true:=by
 obtain⟨q1,q2,e1,e2,e3⟩:=OW hF h hi hq hat hheld h1;have hl:0<r.1.length:=List.length_pos_iff.2 hr;unfold C7;rw[BU (by omega) (by omega),hr0,hr2];have e1':CL F (q,ps).1 (q,ps).2 (IH (Ac ps i)).fReceipt later=some (0,q1,ps):=e1;rw[e1',AU rfl];simp only;rw[AO (by rfl)];have e2':CL F q1 ps (IH (Ac ps i)).fReceipt later=some (5,q2,ps):=e2;rw[e2',AU rfl];simp only;rw[AO (by rfl)];have e3':LY F q2 ps (IH (Ac ps i)).fEvent.fID=some false:=e3;rw[e3',AU rfl,AO (by rfl),hAw,AU rfl];rfl
theorem D1:Ea 6000=some true:=by decide +kernel
theorem Nd {l:List AI}(hb:G0 l=true):l.length≤300∧∀o∈l,Ir o=false:=by
 unfold G0 at hb;simp only[U6,UK,U1,List.any_eq_false] at hb;exact⟨by omega,λo h=>by simpa using hb.2 o h⟩
theorem SG {q:Ah}{ps:List Ab}{idx:List Int}(h:QI q ps idx){p:A8}(hp:q.fPolicy=p){now most later:Int}(hE:D4 q now=0) :
  Cn 6000 p now later (CS (now+q.fPolicy.fVisible) ps (D7 q ps idx now most),By q ps idx now,D9 (now+q.fPolicy.fVisible) (D7 q ps idx now most) ps)=some true:=by
 have hv:=h.vis;have hn:=Cy hE;obtain⟨hnd,hmem⟩:=Ew h now most;have hq1:=(E8 (F:=6000) (by decide) h now most).2 hE;have hat:∀i∈B1 q ps idx now,Ac (D9 (now+q.fPolicy.fVisible) (D7 q ps idx now most) ps) i=if i∈D7 q ps idx now most then D6 (Ac ps i) (now+q.fPolicy.fVisible) else Ac ps i:=λi hi=>Kf h (List.mem_filter.1 hi).1
 have hrcv:∀i∈D7 q ps idx now most,0≤(Ac ps i).fReceives:=λi hi=>(h.rcv i (List.mem_filter.1 (hmem i hi).1).1).1;generalize hL:D7 q ps idx now most=L at *;generalize hps1:D9 (now+q.fPolicy.fVisible) L ps=ps1 at *;generalize hix1:B1 q ps idx now=idx1 at *;have hpol:(By q ps idx now).fPolicy=q.fPolicy:=rfl;have hnow1:(By q ps idx now).fNow=now:=rfl;generalize hqq1:By q ps idx now=q1 at *;unfold Cn;simp only;rw[ER,Bp (by unfold imp;rw[Ij (by rw[← hp];omega) (by rw[← hp];omega)];simp)]
 by_cases hc:L.length=0∨later<now∨now+p.fVisible≤later∨1073741824<later
 ·rw[AO (by simp only[UV,U2];omega),D1];rfl
 ·rw[AN (by simp only[UY,U1];omega)];have hl0:0<L.length:=by omega
  have hE1:D4 q1 later=0:=(GD (by omega)).2 ⟨by omega,by omega⟩;obtain⟨hr2,hq2'⟩:=E8 (F:=6000) (by decide) hq1 later 256;have hq2:=hq2' hE1;rw[UM hE1] at hr2;rw[hr2,AU rfl];obtain⟨hnd2,hmem2⟩:=Ew hq1 later 256;have hcnt:=hq1.cnt;have hLl:L.length≤256:=by have:=Ls hnd hq1.nodup λi hi=>(hmem i hi).1;omega
  have hL2l:(D7 q1 ps1 idx1 later 256).length≤256:=by
   have:=Ls hnd2 hq1.nodup λi hi=>(List.mem_filter.1 (hmem2 i hi).1).1;omega
  have hLin:∀i∈L,Ac ps1 i=D6 (Ac ps i) (now+q.fPolicy.fVisible):=λi hi=>by rw[hat i (hmem i hi).1,UM hi]
  have hnotin:∀i∈D7 q1 ps1 idx1 later 256,i ∉ L:=λi hi hiL=>by
   have hvis:=(hmem2 i hi).2;unfold Cb at hvis;rw[hLin i hiL] at hvis;have:now+q.fPolicy.fVisible≤later:=Vl hvis;rw[hp] at this;omega
  have hne:∀i∈D7 q1 ps1 idx1 later 256,∀k∈L,(Ac ps1 i).fEvent.fID≠(Ac ps k).fEvent.fID:=λi hi k hk e=>by
   have h3:(Ac ps1 k).fEvent.fID=(Ac ps k).fEvent.fID:=by rw[hLin k hk];rfl
   have h4:=hq1.idne (List.mem_filter.1 (hmem2 i hi).1).1 (hmem k hk).1 (e.trans h3.symm);exact hnotin i hi (h4▸hk)
  have hb3:=RZ (F:=6000) (by decide) hLl hL2l (t:=now+q.fPolicy.fVisible) (t2:=later+q1.fPolicy.fVisible) (ps:=ps) (ps1:=ps1) (r:=(CS (now+q.fPolicy.fVisible) ps L,q1,ps1)) (r2:=(CS (later+q1.fPolicy.fVisible) ps1 (D7 q1 ps1 idx1 later 256),By q1 ps1 idx1 later,D9 (later+q1.fPolicy.fVisible) (D7 q1 ps1 idx1 later 256) ps1)) rfl rfl hne;rw[hb3,AU rfl,Dz];have hi0:L[0]∈L:=List.getElem_mem hl0;have hi1:=(hmem _ hi0).1;have hno:Cg q1 ps1 later L[0]=false:=by
   unfold Cg;rw[hLin _ hi0,U7 (by show ¬ now+q.fPolicy.fVisible≤later;rw[hp];omega),US]
  have hi2:L[0]∈B1 q1 ps1 idx1 later:=List.mem_filter.2 ⟨hi1,by rw[hno];rfl⟩;have hat2:Ac (D9 (later+q1.fPolicy.fVisible) (D7 q1 ps1 idx1 later 256) ps1) L[0]=D6 (Ac ps L[0]) (now+q.fPolicy.fVisible):=by
   rw[Kf hq1 hi1,UD (λe=>hnotin _ e hi0),hLin _ hi0]
  refine TC (F:=6000) (by decide) D1 hq2 hi2 rfl (by rw[hat2];show later<now+q.fPolicy.fVisible;rw[hp];omega) (by rw[hat2];rfl) (by rw[hat2];show 1≤(Ac ps L[0]).fReceives+1;have:=hrcv _ hi0;omega) rfl (λe=>?_) ?_
  ·have:=congrArg List.length e;simp only[ER,Ve] at this;omega
  ·have:=HV (t:=now+q.fPolicy.fVisible) (ps:=ps) (L:=L) (k:=0) hl0;rw[hat2];exact this
theorem Rw (q:Ah)(ps:List Ab)(idx:List Int)(now most:Int):((D7 q ps idx now most).length:Int)=min (((B1 q ps idx now).filter (Cb ps now)).length:Int) (max most 0):=by
 unfold D7;rw[List.length_take,Lc];omega
theorem JU (p:A8)(l:List AI)(now most later:Int)(ho:∀o∈l,Sv o.fEvent):E0 6000 p l now most later=some true:=by
 unfold E0;rw[Mw (by omega),AU rfl]
 cases hb:G0 l with
 | false=>rw[AO (by rfl),D1];rfl
 | true=>
  rw[AN (by rfl)];have hsm:=Nd hb;rcases Nn (F:=6000) (p:=p) (by decide) hsm.1 (λo h=>⟨hsm.2 o h,ho o h⟩) with⟨h1,h2⟩ | ⟨q,ps,idx,h1,hq,hQB,hpol⟩
  ·rw[h1,AN (by rfl),h2,AU rfl,D1];rfl
  ·rw[h1,AO (by rfl),AU rfl];simp only;have hnow:=hq.now;have hcnt:=hq.cnt;have hvl:(idx.filter (Cb ps now)).length≤idx.length:=List.length_filter_le _ _;rw[Hx hq,AU rfl,(E8 (F:=6000) (by decide) hq now most).1]
   by_cases hE:D4 q now=0
   ·have hnw:=(GD hnow.1).1 hE;rw[UM hE,UM hnw,AU rfl];simp only;obtain⟨hnd,hmem⟩:=Ew hq now most;have hq1:=(E8 (F:=6000) (by decide) hq now most).2 hE;have hcnt1:=hq1.cnt;have hsp:=Oq (q:=q) (ps:=ps) (idx:=idx) (now:=now);have hrl:=Rw q ps idx now most;obtain⟨hc1,hc2⟩:=Nj hq (now:=now) (most:=most);have hacc:=It q ps idx now;have hdl:(By q ps idx now).fDead.length=q.fDead.length+(idx.filter (Cg q ps now)).length:=by
     show(q.fDead++(IO q ps idx now).map (E5 ps)).length=_;rw[UG,UB,(EX q ps idx now).length_eq]
    rw[ER,AN (by rw[Bool.not_eq_false',U2,hrl];congr 1;omega),Hx hq1,AU rfl,UM ⟨Vi _,hnw.2⟩];simp only;rw[hc2,Bb (by omega) (by omega)];have e1:(((B1 q ps idx now).filter (Cb (D9 (now+q.fPolicy.fVisible) (D7 q ps idx now most) ps) now)).length:Int)-(([]:List Int).length:Int)=((idx.filter (Cb ps now)).length:Int)-((idx.filter (Cg q ps now)).length:Int)-((D7 q ps idx now most).length:Int):=by
     simp only[Ve];omega
    have e2:((B1 q ps idx now).length:Int)-(((B1 q ps idx now).filter (Cb (D9 (now+q.fPolicy.fVisible) (D7 q ps idx now most) ps) now)).length:Int)=((idx.length:Int)-((idx.filter (Cb ps now)).length:Int))+((D7 q ps idx now most).length:Int):=by
     omega
    have e3:((By q ps idx now).fDead.length:Int)+(([]:List Int).length:Int)=(q.fDead.length:Int)+((idx.filter (Cg q ps now)).length:Int):=by
     simp only[Ve];omega
    rw[e1,e2,e3,Bp (by unfold imp;rw[Ij (by omega) (by omega)];simp),AN (by simp)];have hb1:=Sb (F:=6000) hq hnd (λi hi=>(List.mem_filter.1 (hmem i hi).1).1) (by decide) (t:=now+q.fPolicy.fVisible) (r:=(CS (now+q.fPolicy.fVisible) ps (D7 q ps idx now most),By q ps idx now,D9 (now+q.fPolicy.fVisible) (D7 q ps idx now most) ps)) rfl;rw[hb1,AU rfl,Dz];exact SG hq hpol hE
   ·have hnw : ¬ (q.fNow≤now∧now≤1073741824):=λe=>hE ((GD hnow.1).2 e);rw[UD hE,UD hnw,AU rfl];simp only;rw[AN (by simp;omega),Hx hq,AU rfl,UD hnw];simp only;rw[Bb (by simp) (by simp),Bp (by simp[imp,BT,IntKind.min,IntKind.max,IntKind.signed,IntKind.bits]),AN (by simp)];have hb1:BP (λσ=>BX 6000 (([]:List A4),q,ps) σ) 6000 0=some (.go ()):=by
     rw[show(6000:Nat)=5999+1 from rfl,BP];rfl
    rw[hb1,AU rfl,Dz];unfold Cn;simp only;rw[Bp (by simp[imp]),AO (by simp),D1];rfl
end Go.Proofs.YthbbedliepkakaaGreatDoor
namespace Go.Proofs.YthbbedliepkakaaGreatDoor.lawQueueReceives
open Go
set_option linter.unusedVariables false
theorem SJ {o:AI}(h:OF o=true):Sv o.fEvent:=by
 unfold OF R5 at h;simp only[U6] at h;intro c hc;have h1:=List.all_eq_true.1 h.1.2.2.1 c hc;unfold Qd at h1;simp only[U6] at h1;exact⟨h1.1.1.2,(GR h1.2).2⟩
theorem Uq:Uy:=λp l now most later _ h _ _ _=>⟨6000,JU p l now most later λo ho=>SJ (List.all_eq_true.1 (Bool.and_eq_true_iff.1 h).1 o ho)⟩
end Go.Proofs.YthbbedliepkakaaGreatDoor.lawQueueReceives
