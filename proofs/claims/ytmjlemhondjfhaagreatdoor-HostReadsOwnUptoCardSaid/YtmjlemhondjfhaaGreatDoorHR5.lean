/-
  Texts of the proof, put together: WHi, PHj, WHj, OkHostReadsOwn, LvA, LvB, LvC, LvD, LvE, LvF, LvG, LvH, LvI, LvJ, LvK, LvL, LvM, LvN, LvO, LvP, LaB, LaC, LaD, LaE, LaL, LaF, LaG, LaH, LaI.
-/
import Derived.Test.YtmjlemhondjfhaaGreatDoorHR4
import GoSem.ClaimData
import Derived.Laws.BitsLemmas
namespace Go.Proofs.YtmjlemhondjfhaaGreatDoor.Q
open Go Go.RowKit
set_option linter.unusedVariables false
set_option linter.unusedSimpArgs false
set_option maxRecDepth 100000
set_option maxHeartbeats 4000000
@[reducible] def A6 (x:Ci):List Rp:=[rS x.fName,rS x.fText,rS x.fFunction]
theorem JR (x:Ci):(A6 x).length=3:=rfl
@[reducible] def Be (x:Bv):List Rp:=[rS x.fA.fTenant,rS x.fA.fFunction,AK 1 (Az eS x.fA.fOps),AK 3 (Az Af x.fA.fPolicy),AK 5 (Az Ao x.fA.fNet),A2 x.fA.fNow,AK 3 (Az BA x.fItems),AK 3 (Az A6 x.fSecrets),rB x.fNone,AK 2 (Az AP x.fL)]
theorem UC (F:Nat)(x:Bv)(r:(Bh×(List AI))×AW)(h:Kn F x=some r):Fn Tryz.prog GE 12 [B3 (Be x)] [] (λR H=>∃u0:Nat,∃u0_0:Nat,∃u0_p0:Value,∃u1:Nat,∃u1_1:Value,R=Dr [rP u0 0,rP u1 0]∧H=[.blk u0 [rv (.map (some u0_0))] 156,.map u0_0 (Bj (mP u0_0) r.1.1.fSecrets),.poolm u0_0 u0_p0 162 (Az A1 r.1.2) none,.blk u1 [rB r.2.fMade,rv u1_1] 165,.row u1_1 169 8 (Az AB r.2.fSecrets)]):=by
 refine enter (n:=80) Tryz.func12 Aa Tryz.ntmps12 Aa (λw Z=>?_);unfold Kn at h;refine Ah (Cf Aa Aa (λb1=>?_));refine wa Aa (wa Aa (Ap (Al (Ah (vF D4 Aa IP (vL 0 Qc Aa (Ap (cz h Aa (λc2 h3=>?_) (λc2 h4=>?_)))))))))
 ·exact Ah (wa rfl (wa rfl (Ap (Ar (Ac (nomatch h3))))))
 refine A0 (Bb (Ah (ob h4 λr5 e7 h6=>EN [] Tryz.call48 (Ry r5 e7) ?_)));rintro _ _ ⟨b8,b9,hu,rfl,rfl⟩;refine wa Aa (Bu (ob h6 λhk hx hy=>EN [] Tryz.call52 (Ye hk hx) ?_));rintro _ _ ⟨hd,hr,rfl,rfl⟩;refine wa Aa (Ap (Al (Ah (wa Aa (Ap (AH (KB (H2:=[.blk hd [rB hk.fMade,rv hr] 165,.blk b8 [rv (.map (some b9))] 156,.map b9 (Bj (mP b9) r5.1.fSecrets),.poolm b9 hu 162 (Az A1 r5.2) none,.blk b1 (Be x) 39,.row hr 169 8 (Az AB hk.fSecrets)]) ((AO (i:=0) Aa).trans (Aer _ ((AO (i:=1) Aa).trans (Aer _ ((AO (i:=1) Aa).trans (Aer _ ((AO (i:=1) Aa).trans (Aer _ ((AO (i:=1) Aa).trans (Aer _ (Aet _))))))))))) (ob hy λhz h0 h1=>BG (S:=Nat×(Int×Bool×(List AS)×(List (Ae×Int))×(List AI))×(Value×Value)) (V:=(Bool×(List AS)×(List (Ae×Int))×(List AI))×(Value×Value)) 0 (λσ=>Cl (λσ=>DA F x σ.1 σ.2.1 σ.2.2.1 σ.2.2.2.1 σ.2.2.2.2) σ.1 σ.2.1=some hz) (λσ=>[(1,rP b1 0),(4,rP b8 0),(5,rP hd 0),(6,A2 σ.2.1.1)]) (λσ=>[.blk hd [rB σ.2.1.2.1,rv σ.2.2.1] 165,.blk b8 [rv (.map (some b9))] 156,.map b9 (Bj (mP b9) σ.2.1.2.2.2.1),.poolm b9 σ.2.2.2 162 (Az A1 σ.2.1.2.2.2.2) none,.blk b1 (Be x) 39,.row σ.2.2.1 169 8 (Az AB σ.2.1.2.2.1)]) (λσ=>σ.1) (F,(0,hk.fMade,hk.fSecrets,r5.1.fSecrets,r5.2),(hr,hu)) h0 (AV.c Aa (AV.c Aa (AV.c Aa (AV.c Aa AV.nil)))) (sC (sC (sC (sC (sC (sC sN)))))) (λσ=>I3 σ.1.1 σ.1.2.1 σ.1.2.2.1 σ.1.2.2.2=some r) (λσ=>[(4,rP b8 0),(5,rP hd 0)]) (λσ=>[.blk hd [rB σ.1.1,rv σ.2.1] 165,.blk b8 [rv (.map (some b9))] 156,.map b9 (Bj (mP b9) σ.1.2.2.1),.poolm b9 σ.2.2 162 (Az A1 σ.1.2.2.2) none,.row σ.2.1 169 8 (Az AB σ.1.2.1)]) ?_ ?_))))))))
 ·rintro⟨hX,⟨hb,hh,hi,hl,hm⟩,⟨v72,v75⟩⟩ h2;refine H6 ?_;obtain⟨h5,rfl,h7,hp,hw⟩:=CD h2;replace hp:DA F x hb hh hi hl hm=some h7:=hp;unfold DA at hp;refine Al (AC [(1,rP b1 0),(4,rP b8 0),(5,rP hd 0),(6,A2 hb),(19,rB ((decide (hb<(x.fSecrets.length:Int)))&&(decide (hb<20))))] [.blk hd [rB hh,rv v72] 165,.blk b8 [rv (.map (some b9))] 156,.map b9 (Bj (mP b9) hl),.poolm b9 v75 162 (Az A1 hm) none,.blk b1 (Be x) 39,.row v72 169 8 (Az AB hi)] ?_ ?_)
  ·refine Ak (wm Aa (vF D4 Aa JK (vL 4 JM Aa (wv (By (ys:=x.fSecrets) (enc:=A6) JI Aa) (wv (CP Aa Aa) (wm Aa (Bd (decide (hb<(x.fSecrets.length:Int))) (λhe=>?_) (λhe=>?_))))))))
   ·refine wo he (wm Aa (wo he (wv (CP Aa Aa) (GG Aa he Aa (Aq ?_)))));exact Cy he
   refine wf he (wf he (wv (r:=rB false) (A3 Aa he Aa) (Aq ?_)));exact Cy he
  refine cz hp Aa (λh8 h9=>?_) (λh8 hA=>?_)
  ·refine A0 (Bb (Al (AH (Al (ck h9 λhf hB=>Et (H1:=[.blk hd [rB hh,rv v72] 165,.blk b8 [rv (.map (some b9))] 156,.map b9 (Bj (mP b9) hl),.poolm b9 v75 162 (Az A1 hm) none,.blk b1 (Be x) 39,.row v72 169 8 (Az AB hi)]) 13 [1,4,5,6] [⟨[],rP b8 0,0⟩,⟨[],rP b1 7,0⟩,⟨[1],AK 3 (Az A6 x.fSecrets),1⟩,⟨[],A2 hb,0⟩,⟨[2,3],It (A6 (An x.fSecrets hb)),0⟩,⟨[4],It (A6 (An x.fSecrets hb)),0⟩,⟨[5],rS ((An x.fSecrets hb).fName),0⟩,⟨[],rP b1 7,0⟩,⟨[7],AK 3 (Az A6 x.fSecrets),1⟩,⟨[],A2 hb,0⟩,⟨[8,9],It (A6 (An x.fSecrets hb)),0⟩,⟨[10],It [rS ((An x.fSecrets hb).fText),rS ((An x.fSecrets hb).fFunction)],0⟩,⟨[11],rS ((An x.fSecrets hb).fText),0⟩] (rle [(14,_)]) [22,23,24,25,26,27,28,29,30,31,32,33,34,1,4,5,6] ?_ ?_)))))
   ·refine oq (Aj Aa) (oq (Am D4 Aa JK Aa Aa) (of (AU (i:=4) JM Aa Aa Aa) (oq (Aj Aa) (oq (Bl (enc:=A6) (ys:=x.fSecrets) JI Hz Aa Aa hf) (oq (AY Hx Aa Dc Aa Aa) (oq (Bc DQ Aa Aa) (oq (Am D4 Aa JK Aa Aa) (of (AU (i:=4) JM Aa Aa Aa) (oq (Aj Aa) (oq (Bl (enc:=A6) (ys:=x.fSecrets) JI Hz Aa Aa hf) (oq (AY Hx Aa Dc Aa Aa) (oq (Bc DQ Aa Aa) ?_))))))))))));exact Du
   refine ob hB λhg hC hD=>EN [1,1,1] Tryz.call49 (Rx F b8 b9 v75 (Bh.mk hl) hm ((An x.fSecrets hb).fName) ((An x.fSecrets hb).fText) hg hC) ?_;rintro _ _ ⟨hs,rfl,rfl⟩;refine Ap (Al (Et (H1:=[.blk b8 [rv (.map (some b9))] 156,.map b9 (Bj (mP b9) hg.2.1.fSecrets),.poolm b9 hs 162 (Az A1 hg.2.2) none,.blk hd [rB hh,rv v72] 165,.blk b1 (Be x) 39,.row v72 169 8 (Az AB hi)]) 13 [1,4,5,6] [⟨[],rP hd 0,0⟩,⟨[],rP b1 7,0⟩,⟨[1],AK 3 (Az A6 x.fSecrets),1⟩,⟨[],A2 hb,0⟩,⟨[2,3],It (A6 (An x.fSecrets hb)),0⟩,⟨[4],It (A6 (An x.fSecrets hb)),0⟩,⟨[5],rS ((An x.fSecrets hb).fName),0⟩,⟨[],rP b1 7,0⟩,⟨[7],AK 3 (Az A6 x.fSecrets),1⟩,⟨[],A2 hb,0⟩,⟨[8,9],It (A6 (An x.fSecrets hb)),0⟩,⟨[10],It [rS ((An x.fSecrets hb).fText),rS ((An x.fSecrets hb).fFunction)],0⟩,⟨[11],rS ((An x.fSecrets hb).fText),0⟩] (rle [(14,_)]) [36,37,38,39,40,41,42,43,44,45,46,47,48,1,4,5,6] ?_ ?_))
   ·refine oq (Aj Aa) (oq (Am D4 Aa JK Aa Aa) (of (AU (i:=4) JM Aa Aa Aa) (oq (Aj Aa) (oq (Bl (enc:=A6) (ys:=x.fSecrets) JI Hz Aa Aa hf) (oq (AY Hx Aa Dc Aa Aa) (oq (Bc DQ Aa Aa) (oq (Am D4 Aa JK Aa Aa) (of (AU (i:=4) JM Aa Aa Aa) (oq (Aj Aa) (oq (Bl (enc:=A6) (ys:=x.fSecrets) JI Hz Aa Aa hf) (oq (AY Hx Aa Dc Aa Aa) (oq (Bc DQ Aa Aa) ?_))))))))))));exact Du
   refine ob hD λhj hE hG=>EN [3,4] Tryz.call53 (Yb F hd v72 (AW.mk hh hi) ((An x.fSecrets hb).fName) ((An x.fSecrets hb).fText) hj hE) ?_;rintro _ _ ⟨v127,rfl,rfl⟩;refine Ap (Al (Et (H1:=[.blk hd [rB hj.2.fMade,rv v127] 165,.row v127 169 8 (Az AB hj.2.fSecrets),.blk b8 [rv (.map (some b9))] 156,.map b9 (Bj (mP b9) hg.2.1.fSecrets),.poolm b9 hs 162 (Az A1 hg.2.2) none,.blk b1 (Be x) 39]) 13 [1,4,5,6] [⟨[],rP b8 0,0⟩,⟨[],rP b1 7,0⟩,⟨[1],AK 3 (Az A6 x.fSecrets),1⟩,⟨[],A2 hb,0⟩,⟨[2,3],It (A6 (An x.fSecrets hb)),0⟩,⟨[4],It (A6 (An x.fSecrets hb)),0⟩,⟨[5],rS ((An x.fSecrets hb).fName),0⟩,⟨[],rP b1 7,0⟩,⟨[7],AK 3 (Az A6 x.fSecrets),1⟩,⟨[],A2 hb,0⟩,⟨[8,9],It (A6 (An x.fSecrets hb)),0⟩,⟨[10],It [rS ((An x.fSecrets hb).fFunction)],0⟩,⟨[11],rS ((An x.fSecrets hb).fFunction),0⟩] (rle [(14,_)]) [50,51,52,53,54,55,56,57,58,59,60,61,62,1,4,5,6] ?_ ?_))
   ·refine oq (Aj Aa) (oq (Am D4 Aa JK Aa Aa) (of (AU (i:=5) JM Aa Aa Aa) (oq (Aj Aa) (oq (Bl (enc:=A6) (ys:=x.fSecrets) JI Hz Aa Aa hf) (oq (AY Hx Aa Dc Aa Aa) (oq (Bc DQ Aa Aa) (oq (Am D4 Aa JK Aa Aa) (of (AU (i:=5) JM Aa Aa Aa) (oq (Aj Aa) (oq (Bl (enc:=A6) (ys:=x.fSecrets) JI Hz Aa Aa hf) (oq (AY Hx Aa Dc Aa Aa) (oq (Bc DQ Aa Aa) ?_))))))))))));exact Du
   refine ob hG λhn hH hI=>EN [2,2,2] Tryz.call50 (Pe b8 b9 hs hg.2.1 hg.2.2 ((An x.fSecrets hb).fName) ((An x.fSecrets hb).fFunction) hn hH) ?_;rintro _ _ ⟨v131,rfl,rfl⟩;refine Ap (Et (H1:=[.blk b8 [rv (.map (some b9))] 156,.map b9 (Bj (mP b9) hn.2.1.fSecrets),.poolm b9 v131 162 (Az A1 hn.2.2) none,.blk hd [rB hj.2.fMade,rv v127] 165,.row v127 169 8 (Az AB hj.2.fSecrets),.blk b1 (Be x) 39]) 13 [1,4,5,6] [⟨[],rP hd 0,0⟩,⟨[],rP b1 7,0⟩,⟨[1],AK 3 (Az A6 x.fSecrets),1⟩,⟨[],A2 hb,0⟩,⟨[2,3],It (A6 (An x.fSecrets hb)),0⟩,⟨[4],It (A6 (An x.fSecrets hb)),0⟩,⟨[5],rS ((An x.fSecrets hb).fName),0⟩,⟨[],rP b1 7,0⟩,⟨[7],AK 3 (Az A6 x.fSecrets),1⟩,⟨[],A2 hb,0⟩,⟨[8,9],It (A6 (An x.fSecrets hb)),0⟩,⟨[10],It [rS ((An x.fSecrets hb).fFunction)],0⟩,⟨[11],rS ((An x.fSecrets hb).fFunction),0⟩] (rle [(14,_)]) [64,65,66,67,68,69,70,71,72,73,74,75,76,1,4,5,6] ?_ ?_)
   ·refine oq (Aj Aa) (oq (Am D4 Aa JK Aa Aa) (of (AU (i:=5) JM Aa Aa Aa) (oq (Aj Aa) (oq (Bl (enc:=A6) (ys:=x.fSecrets) JI Hz Aa Aa hf) (oq (AY Hx Aa Dc Aa Aa) (oq (Bc DQ Aa Aa) (oq (Am D4 Aa JK Aa Aa) (of (AU (i:=5) JM Aa Aa Aa) (oq (Aj Aa) (oq (Bl (enc:=A6) (ys:=x.fSecrets) JI Hz Aa Aa hf) (oq (AY Hx Aa Dc Aa Aa) (oq (Bc DQ Aa Aa) ?_))))))))))));exact Du
   refine ob hI λht hJ hK=>EN [3,3] Tryz.call54 (Vo F hd v127 hj.2 ((An x.fSecrets hb).fName) ((An x.fSecrets hb).fFunction) ht hJ) ?_;rintro _ _ ⟨hL,rfl,rfl⟩;refine Aq (AN (Bb (Ak (wm Aa (ck hK λhN hO=>wv (BM Aa Aa hN) (wa Aa (Aq (JY [0,1,1,1,1] ?_))))))));have hP:=B8 hO hw;exact A9 (AZ (h5,(hb+1,ht.2.fMade,ht.2.fSecrets,hn.2.1.fSecrets,hn.2.2),(hL,v131)) ⟨hP,Aew _⟩ (AV.c Aa (AV.c Aa (AV.c Aa (AV.c Aa AV.nil)))) (sC (sC (sC (sC (sC (sC sN)))))))
  refine BE (Ay ?_);have hQ:=BW hA hw h1;exact Ay (Bq (AZ ((hh,hi,hl,hm),(v72,v75)) hQ (AV.c Aa (AV.c Aa AV.nil)) (sC (sC (sC (sC (sS (sC sN))))))))
 rintro⟨⟨hR,hS,hT,hU⟩,⟨hV,hW⟩⟩ hq;refine Ir ?_;replace hq:I3 hR hS hT hU=some r:=hq;unfold I3 at hq;refine Bo (Bb (Ah (wm Aa (wm Aa (wa Aa (wa Aa (Ap (Ar (JY [1,1,1] ?_)))))))));obtain rfl:=Av hq;exact As (Iy Tryz.results12 (AQ Aa) (AQ Aa)) (sC (sC (sC (sC (sC sN))))) ⟨b8,b9,hW,hd,hV,Aa,Aa⟩
theorem UD (F:Nat)(x:Bv)(r:Unit×Unit)(h:Ko F x=some r):Fn Tryz.prog GE 12 [B3 (Be x)] [] (λR H=>R=Dr [rv (.pointer none),rv (.pointer none)]∧H=[]):=by
 refine enter (n:=80) Tryz.func12 Aa Tryz.ntmps12 Aa (λw Z=>?_);unfold Ko at h;refine Ah (Cf Aa Aa (λb1=>?_));refine wa Aa (wa Aa (Ap (Al (Ah (vF D4 Aa IP (vL 0 Qc Aa (Ap (cz h Aa (λc2 h3=>?_) (λc2 h4=>?_)))))))))
 ·refine Ah (wa Aa (wa Aa (Ap (Ar (Ac ?_)))));obtain rfl:=Av h3;exact As (Iy Tryz.results12 (AQ Aa) (AQ Aa)) (sS sN) ⟨Aa,Aa⟩
 refine A0 (Bb (Ah (ob h4 λr5 e7 h6=>EN [] Tryz.call48 (Ry r5 e7) ?_)));rintro _ _ ⟨b8,b9,hu,rfl,rfl⟩;refine wa Aa (Bu (ob h6 λhk hx hy=>EN [] Tryz.call52 (Ye hk hx) ?_));rintro _ _ ⟨hd,hr,rfl,rfl⟩;refine wa Aa (Ap (Al (Ah (wa Aa (Ap (AH (KB (H2:=[.blk hd [rB hk.fMade,rv hr] 165,.blk b8 [rv (.map (some b9))] 156,.map b9 (Bj (mP b9) r5.1.fSecrets),.poolm b9 hu 162 (Az A1 r5.2) none,.blk b1 (Be x) 39,.row hr 169 8 (Az AB hk.fSecrets)]) ((AO (i:=0) Aa).trans (Aer _ ((AO (i:=1) Aa).trans (Aer _ ((AO (i:=1) Aa).trans (Aer _ ((AO (i:=1) Aa).trans (Aer _ ((AO (i:=1) Aa).trans (Aer _ (Aet _))))))))))) (ob hy λhz h0 h1=>BG (S:=Nat×(Int×Bool×(List AS)×(List (Ae×Int))×(List AI))×(Value×Value)) (V:=(Bool×(List AS)×(List (Ae×Int))×(List AI))×(Value×Value)) 0 (λσ=>Cl (λσ=>I5 F x σ.1 σ.2.1 σ.2.2.1 σ.2.2.2.1 σ.2.2.2.2) σ.1 σ.2.1=some hz) (λσ=>[(1,rP b1 0),(4,rP b8 0),(5,rP hd 0),(6,A2 σ.2.1.1)]) (λσ=>[.blk hd [rB σ.2.1.2.1,rv σ.2.2.1] 165,.blk b8 [rv (.map (some b9))] 156,.map b9 (Bj (mP b9) σ.2.1.2.2.2.1),.poolm b9 σ.2.2.2 162 (Az A1 σ.2.1.2.2.2.2) none,.blk b1 (Be x) 39,.row σ.2.2.1 169 8 (Az AB σ.2.1.2.2.1)]) (λσ=>σ.1) (F,(0,hk.fMade,hk.fSecrets,r5.1.fSecrets,r5.2),(hr,hu)) h0 (AV.c Aa (AV.c Aa (AV.c Aa (AV.c Aa AV.nil)))) (sC (sC (sC (sC (sC (sC sN)))))) (λσ=>I4 σ.1.1 σ.1.2.1 σ.1.2.2.1 σ.1.2.2.2=some r) (λσ=>[(4,rP b8 0),(5,rP hd 0)]) (λσ=>[.blk hd [rB σ.1.1,rv σ.2.1] 165,.blk b8 [rv (.map (some b9))] 156,.map b9 (Bj (mP b9) σ.1.2.2.1),.poolm b9 σ.2.2 162 (Az A1 σ.1.2.2.2) none,.row σ.2.1 169 8 (Az AB σ.1.2.1)]) ?_ ?_))))))))
 ·rintro⟨hV,⟨hb,hh,hi,hl,hm⟩,⟨v72,v75⟩⟩ h2;refine H6 ?_;obtain⟨h5,rfl,h7,hp,hw⟩:=CD h2;replace hp:I5 F x hb hh hi hl hm=some h7:=hp;unfold I5 at hp;refine Al (AC [(1,rP b1 0),(4,rP b8 0),(5,rP hd 0),(6,A2 hb),(19,rB ((decide (hb<(x.fSecrets.length:Int)))&&(decide (hb<20))))] [.blk hd [rB hh,rv v72] 165,.blk b8 [rv (.map (some b9))] 156,.map b9 (Bj (mP b9) hl),.poolm b9 v75 162 (Az A1 hm) none,.blk b1 (Be x) 39,.row v72 169 8 (Az AB hi)] ?_ ?_)
  ·refine Ak (wm Aa (vF D4 Aa JK (vL 4 JM Aa (wv (By (ys:=x.fSecrets) (enc:=A6) JI Aa) (wv (CP Aa Aa) (wm Aa (Bd (decide (hb<(x.fSecrets.length:Int))) (λhe=>?_) (λhe=>?_))))))))
   ·refine wo he (wm Aa (wo he (wv (CP Aa Aa) (GG Aa he Aa (Aq ?_)))));exact Cy he
   refine wf he (wf he (wv (r:=rB false) (A3 Aa he Aa) (Aq ?_)));exact Cy he
  refine cz hp Aa (λh8 h9=>?_) (λh8 hA=>?_)
  ·refine A0 (Bb (Al (AH (Al (ck h9 λhf hB=>Et (H1:=[.blk hd [rB hh,rv v72] 165,.blk b8 [rv (.map (some b9))] 156,.map b9 (Bj (mP b9) hl),.poolm b9 v75 162 (Az A1 hm) none,.blk b1 (Be x) 39,.row v72 169 8 (Az AB hi)]) 13 [1,4,5,6] [⟨[],rP b8 0,0⟩,⟨[],rP b1 7,0⟩,⟨[1],AK 3 (Az A6 x.fSecrets),1⟩,⟨[],A2 hb,0⟩,⟨[2,3],It (A6 (An x.fSecrets hb)),0⟩,⟨[4],It (A6 (An x.fSecrets hb)),0⟩,⟨[5],rS ((An x.fSecrets hb).fName),0⟩,⟨[],rP b1 7,0⟩,⟨[7],AK 3 (Az A6 x.fSecrets),1⟩,⟨[],A2 hb,0⟩,⟨[8,9],It (A6 (An x.fSecrets hb)),0⟩,⟨[10],It [rS ((An x.fSecrets hb).fText),rS ((An x.fSecrets hb).fFunction)],0⟩,⟨[11],rS ((An x.fSecrets hb).fText),0⟩] (rle [(14,_)]) [22,23,24,25,26,27,28,29,30,31,32,33,34,1,4,5,6] ?_ ?_)))))
   ·refine oq (Aj Aa) (oq (Am D4 Aa JK Aa Aa) (of (AU (i:=4) JM Aa Aa Aa) (oq (Aj Aa) (oq (Bl (enc:=A6) (ys:=x.fSecrets) JI Hz Aa Aa hf) (oq (AY Hx Aa Dc Aa Aa) (oq (Bc DQ Aa Aa) (oq (Am D4 Aa JK Aa Aa) (of (AU (i:=4) JM Aa Aa Aa) (oq (Aj Aa) (oq (Bl (enc:=A6) (ys:=x.fSecrets) JI Hz Aa Aa hf) (oq (AY Hx Aa Dc Aa Aa) (oq (Bc DQ Aa Aa) ?_))))))))))));exact Du
   refine ob hB λhg hC hD=>EN [1,1,1] Tryz.call49 (Rx F b8 b9 v75 (Bh.mk hl) hm ((An x.fSecrets hb).fName) ((An x.fSecrets hb).fText) hg hC) ?_;rintro _ _ ⟨hs,rfl,rfl⟩;refine Ap (Al (Et (H1:=[.blk b8 [rv (.map (some b9))] 156,.map b9 (Bj (mP b9) hg.2.1.fSecrets),.poolm b9 hs 162 (Az A1 hg.2.2) none,.blk hd [rB hh,rv v72] 165,.blk b1 (Be x) 39,.row v72 169 8 (Az AB hi)]) 13 [1,4,5,6] [⟨[],rP hd 0,0⟩,⟨[],rP b1 7,0⟩,⟨[1],AK 3 (Az A6 x.fSecrets),1⟩,⟨[],A2 hb,0⟩,⟨[2,3],It (A6 (An x.fSecrets hb)),0⟩,⟨[4],It (A6 (An x.fSecrets hb)),0⟩,⟨[5],rS ((An x.fSecrets hb).fName),0⟩,⟨[],rP b1 7,0⟩,⟨[7],AK 3 (Az A6 x.fSecrets),1⟩,⟨[],A2 hb,0⟩,⟨[8,9],It (A6 (An x.fSecrets hb)),0⟩,⟨[10],It [rS ((An x.fSecrets hb).fText),rS ((An x.fSecrets hb).fFunction)],0⟩,⟨[11],rS ((An x.fSecrets hb).fText),0⟩] (rle [(14,_)]) [36,37,38,39,40,41,42,43,44,45,46,47,48,1,4,5,6] ?_ ?_))
   ·refine oq (Aj Aa) (oq (Am D4 Aa JK Aa Aa) (of (AU (i:=4) JM Aa Aa Aa) (oq (Aj Aa) (oq (Bl (enc:=A6) (ys:=x.fSecrets) JI Hz Aa Aa hf) (oq (AY Hx Aa Dc Aa Aa) (oq (Bc DQ Aa Aa) (oq (Am D4 Aa JK Aa Aa) (of (AU (i:=4) JM Aa Aa Aa) (oq (Aj Aa) (oq (Bl (enc:=A6) (ys:=x.fSecrets) JI Hz Aa Aa hf) (oq (AY Hx Aa Dc Aa Aa) (oq (Bc DQ Aa Aa) ?_))))))))))));exact Du
   refine ob hD λhj hE hG=>EN [3,4] Tryz.call53 (Yb F hd v72 (AW.mk hh hi) ((An x.fSecrets hb).fName) ((An x.fSecrets hb).fText) hj hE) ?_;rintro _ _ ⟨v127,rfl,rfl⟩;refine Ap (Al (Et (H1:=[.blk hd [rB hj.2.fMade,rv v127] 165,.row v127 169 8 (Az AB hj.2.fSecrets),.blk b8 [rv (.map (some b9))] 156,.map b9 (Bj (mP b9) hg.2.1.fSecrets),.poolm b9 hs 162 (Az A1 hg.2.2) none,.blk b1 (Be x) 39]) 13 [1,4,5,6] [⟨[],rP b8 0,0⟩,⟨[],rP b1 7,0⟩,⟨[1],AK 3 (Az A6 x.fSecrets),1⟩,⟨[],A2 hb,0⟩,⟨[2,3],It (A6 (An x.fSecrets hb)),0⟩,⟨[4],It (A6 (An x.fSecrets hb)),0⟩,⟨[5],rS ((An x.fSecrets hb).fName),0⟩,⟨[],rP b1 7,0⟩,⟨[7],AK 3 (Az A6 x.fSecrets),1⟩,⟨[],A2 hb,0⟩,⟨[8,9],It (A6 (An x.fSecrets hb)),0⟩,⟨[10],It [rS ((An x.fSecrets hb).fFunction)],0⟩,⟨[11],rS ((An x.fSecrets hb).fFunction),0⟩] (rle [(14,_)]) [50,51,52,53,54,55,56,57,58,59,60,61,62,1,4,5,6] ?_ ?_))
   ·refine oq (Aj Aa) (oq (Am D4 Aa JK Aa Aa) (of (AU (i:=5) JM Aa Aa Aa) (oq (Aj Aa) (oq (Bl (enc:=A6) (ys:=x.fSecrets) JI Hz Aa Aa hf) (oq (AY Hx Aa Dc Aa Aa) (oq (Bc DQ Aa Aa) (oq (Am D4 Aa JK Aa Aa) (of (AU (i:=5) JM Aa Aa Aa) (oq (Aj Aa) (oq (Bl (enc:=A6) (ys:=x.fSecrets) JI Hz Aa Aa hf) (oq (AY Hx Aa Dc Aa Aa) (oq (Bc DQ Aa Aa) ?_))))))))))));exact Du
   refine ob hG λhn hH hI=>EN [2,2,2] Tryz.call50 (Pe b8 b9 hs hg.2.1 hg.2.2 ((An x.fSecrets hb).fName) ((An x.fSecrets hb).fFunction) hn hH) ?_;rintro _ _ ⟨v131,rfl,rfl⟩;refine Ap (Et (H1:=[.blk b8 [rv (.map (some b9))] 156,.map b9 (Bj (mP b9) hn.2.1.fSecrets),.poolm b9 v131 162 (Az A1 hn.2.2) none,.blk hd [rB hj.2.fMade,rv v127] 165,.row v127 169 8 (Az AB hj.2.fSecrets),.blk b1 (Be x) 39]) 13 [1,4,5,6] [⟨[],rP hd 0,0⟩,⟨[],rP b1 7,0⟩,⟨[1],AK 3 (Az A6 x.fSecrets),1⟩,⟨[],A2 hb,0⟩,⟨[2,3],It (A6 (An x.fSecrets hb)),0⟩,⟨[4],It (A6 (An x.fSecrets hb)),0⟩,⟨[5],rS ((An x.fSecrets hb).fName),0⟩,⟨[],rP b1 7,0⟩,⟨[7],AK 3 (Az A6 x.fSecrets),1⟩,⟨[],A2 hb,0⟩,⟨[8,9],It (A6 (An x.fSecrets hb)),0⟩,⟨[10],It [rS ((An x.fSecrets hb).fFunction)],0⟩,⟨[11],rS ((An x.fSecrets hb).fFunction),0⟩] (rle [(14,_)]) [64,65,66,67,68,69,70,71,72,73,74,75,76,1,4,5,6] ?_ ?_)
   ·refine oq (Aj Aa) (oq (Am D4 Aa JK Aa Aa) (of (AU (i:=5) JM Aa Aa Aa) (oq (Aj Aa) (oq (Bl (enc:=A6) (ys:=x.fSecrets) JI Hz Aa Aa hf) (oq (AY Hx Aa Dc Aa Aa) (oq (Bc DQ Aa Aa) (oq (Am D4 Aa JK Aa Aa) (of (AU (i:=5) JM Aa Aa Aa) (oq (Aj Aa) (oq (Bl (enc:=A6) (ys:=x.fSecrets) JI Hz Aa Aa hf) (oq (AY Hx Aa Dc Aa Aa) (oq (Bc DQ Aa Aa) ?_))))))))))));exact Du
   refine ob hI λht hJ hK=>EN [3,3] Tryz.call54 (Vo F hd v127 hj.2 ((An x.fSecrets hb).fName) ((An x.fSecrets hb).fFunction) ht hJ) ?_;rintro _ _ ⟨hL,rfl,rfl⟩;refine Aq (AN (Bb (Ak (wm Aa (ck hK λhN hO=>wv (BM Aa Aa hN) (wa Aa (Aq (JY [0,1,1,1,1] ?_))))))));have hP:=B8 hO hw;exact A9 (AZ (h5,(hb+1,ht.2.fMade,ht.2.fSecrets,hn.2.1.fSecrets,hn.2.2),(hL,v131)) ⟨hP,Aew _⟩ (AV.c Aa (AV.c Aa (AV.c Aa (AV.c Aa AV.nil)))) (sC (sC (sC (sC (sC (sC sN)))))))
  refine BE (Ay ?_);have hQ:=BW hA hw h1;exact Ay (Bq (AZ ((hh,hi,hl,hm),(v72,v75)) hQ (AV.c Aa (AV.c Aa AV.nil)) (sC (sC (sC (sC (sS (sC sN))))))))
 rintro⟨⟨hR,hS,hT,hU⟩,⟨hW,hX⟩⟩ hq;refine Ir ?_;replace hq:I4 hR hS hT hU=some r:=hq;unfold I4 at hq;exact Bo (Bb (Ah (wm rfl (wm rfl (wa rfl (wa rfl (Ap (Ar (nomatch hq)))))))))
end Go.Proofs.YtmjlemhondjfhaaGreatDoor.Q
namespace Go.Proofs.YtmjlemhondjfhaaGreatDoor
open Go
set_option linter.unusedVariables false
def El (hb:Int)(hd:Int):Option (Stp (Int×Int) (Out (Bool) (Int))):=
 Bk (Cb .i64 (hb+1))<|some (.next (hd,hb+1))
def CM (F:Nat)(x:Bv)(key:Ae)(hd:B9×Au)(hb:Int):Option (Stp (Int) (Out (Bool) (Unit))):=
 BB (decide (hb<(x.fItems.length:Int))) (Bk (Ck hb (x.fItems.length:Int))<|BB (decide (((An x.fItems hb).fKey)=key)) (Bk ((BJ F hd.1.fValue ((An x.fItems hb).fValue)).isSome)<|Bk (imp ((ov (BJ F hd.1.fValue ((An x.fItems hb).fValue)))) ((Bz F).isSome))<|some (.out (.ret ((ov (BJ F hd.1.fValue ((An x.fItems hb).fValue)))&&(ov (Bz F)))))) (Bk (Cb .i64 (hb+1))<|some (.next (hb+1)))) (some (.out (.go ())))
def DF (F:Nat)(hb:B9×Au):Option (Bool):=
 Bk ((BJ F hb.1.fValue ([(Ab.mk 1 0 ([]:Ae) 0)]:List Ab)).isSome)<|Bk (imp ((ov (BJ F hb.1.fValue ([(Ab.mk 1 0 ([]:Ae) 0)]:List Ab)))) ((Bz F).isSome))<|some ((ov (BJ F hb.1.fValue ([(Ab.mk 1 0 ([]:Ae) 0)]:List Ab)))&&(ov (Bz F)))
def C8 (key:Ae)(hd:(List AE))(he:Int)(hb:Int):Option (Stp (Int×Int) (Out (Bool) (Int))):=
 BB (decide (hb<(hd.length:Int))) (Bk (Ck hb (hd.length:Int))<|BB (((decide (((An hd hb).fKey)=key))&&((decide (((An hd hb).fKind)=1))||(decide (((An hd hb).fKind)=2))))) (El hb hb) (El hb he)) (some (.out (.go he)))
def Ha (F:Nat)(x:Bv)(key:Ae)(r4:(Bh×(List AI))×AW)(hf:Bool)(hg:Ae)(hh:Ae)(hi:(List Ae))(hj:(List Ad))(hk:(List AG))(hl:Int)(hm:Int)(hn:(List AE))(hp:(List Ae))(hq:(List Ae))(hr:(List (Ae×(List Ab))))(he:(List AE))(hd:Int):Option (Bool):=
 Bs (BC key) λhs=>Bs (Lf F (Au.mk hf (AR.mk hg hh hi hj hk hl) hr () hm hn hp hq) r4.1.1 r4.1.2 (A7.mk ([103,101,116]:Ae) ([hs]:List (List Ab)))) λhb=>BB (!decide (hb.1.fErr=0)) (Bk ((BC key).isSome)<|Bk ((Ch F x.fA (A7.mk ([103,101,116]:Ae) ([(ov (BC key))]:List (List Ab)))).isSome)<|Bk (imp (decide (hb.1.fErr=(ov (Ch F x.fA (A7.mk ([103,101,116]:Ae) ([(ov (BC key))]:List (List Ab))))))) ((Bz F).isSome))<|some ((decide (hb.1.fErr=(ov (Ch F x.fA (A7.mk ([103,101,116]:Ae) ([(ov (BC key))]:List (List Ab)))))))&&(ov (Bz F)))) (Bk (imp (decide (0≤hd)) (Ck hd (he.length:Int)))<|BB (((decide (0≤hd))&&(decide (((An he hd).fKind)=1)))) (Bk (Ck hd (he.length:Int))<|Bk ((BJ F hb.1.fValue ((An he hd).fValue)).isSome)<|Bk (imp ((ov (BJ F hb.1.fValue ((An he hd).fValue)))) ((Bz F).isSome))<|some ((ov (BJ F hb.1.fValue ((An he hd).fValue)))&&(ov (Bz F)))) (BB (decide (0≤hd)) (Bk ((BJ F hb.1.fValue ([(Ab.mk 1 0 ([]:Ae) 0)]:List Ab)).isSome)<|Bk (imp ((ov (BJ F hb.1.fValue ([(Ab.mk 1 0 ([]:Ae) 0)]:List Ab)))) ((Bz F).isSome))<|some ((ov (BJ F hb.1.fValue ([(Ab.mk 1 0 ([]:Ae) 0)]:List Ab)))&&(ov (Bz F)))) (Bs (Ik (Au.mk hb.2.fMade hb.2.fA hb.2.fItems () hb.2.fCalls hb.2.fEffects hb.2.fReads hb.2.fLog)) λht=>Bs (PE F ht key) λhu=>BB (!hu) (some false) (Bs (Cl (λσ=>CM F x key hb σ) F 0) (Co λν=>DF F hb )))))
def ES (F:Nat)(x:Bv)(r4:(Bh×(List AI))×AW)(hd:Int)(he:Bool)(hf:Ae)(hg:Ae)(hh:(List Ae))(hi:(List Ad))(hj:(List AG))(hk:Int)(hl:Int)(hm:(List AE))(hn:(List Ae))(hp:(List Ae))(hq:(List (Ae×(List Ab)))):Option (Stp (Int×Bool×Ae×Ae×(List Ae)×(List Ad)×(List AG)×Int×Int×(List AE)×(List Ae)×(List Ae)×(List (Ae×(List Ab)))) (Out (Bool) (Bool×Ae×Ae×(List Ae)×(List Ad)×(List AG)×Int×Int×(List AE)×(List Ae)×(List Ae)×(List (Ae×(List Ab)))))):=
 BB (decide (hd<(x.fL.length:Int))) (Bk (Ck hd (x.fL.length:Int))<|Bs (Lf F (Au.mk he (AR.mk hf hg hh hi hj hk) hq () hl hm hn hp) r4.1.1 r4.1.2 (An x.fL hd)) λhb=>Bk (Cb .i64 (hd+1))<|some (.next (hd+1,hb.2.fMade,hb.2.fA.fTenant,hb.2.fA.fFunction,hb.2.fA.fOps,hb.2.fA.fPolicy,hb.2.fA.fNet,hb.2.fA.fNow,hb.2.fCalls,hb.2.fEffects,hb.2.fReads,hb.2.fLog,hb.2.fItems))) (some (.out (.go (he,hf,hg,hh,hi,hj,hk,hl,hm,hn,hp,hq))))
def Hb (F:Nat)(x:Bv)(key:Ae)(r4:(Bh×(List AI))×AW)(hb:Bool)(hd:Ae)(he:Ae)(hf:(List Ae))(hg:(List Ad))(hh:(List AG))(hi:Int)(hj:Int)(hk:(List AE))(hl:(List Ae))(hm:(List Ae))(hn:(List (Ae×(List Ab)))):Option (Bool):=
 Bs (Hk F (Au.mk hb (AR.mk hd he hf hg hh hi) hn () hj hk hl hm)) λhp=>Bs (Cl (λσ=>C8 key hp σ.1 σ.2) F (-1,0)) (Co λν=>Ha F x key r4 hb hd he hf hg hh hi hj hk hl hm hn hp ν)
def EQ (hb:Int)(hd:Int):Option (Stp (Int×Int) (Out (Bool) (Int))):=
 Bk (Cb .i64 (hb+1))<|some (.next (hd,hb+1))
def Hc (F:Nat)(x:Bv)(key:Ae)(hd:B9×Au)(hb:Int):Option (Stp (Int) (Out (Bool) (Unit))):=
 BB (decide (hb<(x.fItems.length:Int))) (Bk (Ck hb (x.fItems.length:Int))<|BB (decide (((An x.fItems hb).fKey)=key)) (Bk ((BJ F hd.1.fValue ((An x.fItems hb).fValue)).isSome)<|Bk (imp ((ov (BJ F hd.1.fValue ((An x.fItems hb).fValue)))) ((Bz F).isSome))<|some (.out (.ret ((ov (BJ F hd.1.fValue ((An x.fItems hb).fValue)))&&(ov (Bz F)))))) (Bk (Cb .i64 (hb+1))<|some (.next (hb+1)))) (some (.out (.go ())))
def GX (F:Nat)(hb:B9×Au):Option (Bool):=
 Bk ((BJ F hb.1.fValue ([(Ab.mk 1 0 ([]:Ae) 0)]:List Ab)).isSome)<|Bk (imp ((ov (BJ F hb.1.fValue ([(Ab.mk 1 0 ([]:Ae) 0)]:List Ab)))) ((Bz F).isSome))<|some ((ov (BJ F hb.1.fValue ([(Ab.mk 1 0 ([]:Ae) 0)]:List Ab)))&&(ov (Bz F)))
def Hd (key:Ae)(hd:(List AE))(he:Int)(hb:Int):Option (Stp (Int×Int) (Out (Bool) (Int))):=
 BB (decide (hb<(hd.length:Int))) (Bk (Ck hb (hd.length:Int))<|BB (((decide (((An hd hb).fKey)=key))&&((decide (((An hd hb).fKind)=1))||(decide (((An hd hb).fKind)=2))))) (EQ hb hb) (EQ hb he)) (some (.out (.go he)))
def GY (F:Nat)(x:Bv)(key:Ae)(hf:Bool)(hg:Ae)(hh:Ae)(hi:(List Ae))(hj:(List Ad))(hk:(List AG))(hl:Int)(hm:Int)(hn:(List AE))(hp:(List Ae))(hq:(List Ae))(hr:(List (Ae×(List Ab))))(he:(List AE))(hd:Int):Option (Bool):=
 Bs (BC key) λhs=>Bs (TE F (Au.mk hf (AR.mk hg hh hi hj hk hl) hr () hm hn hp hq) (A7.mk ([103,101,116]:Ae) ([hs]:List (List Ab)))) λhb=>BB (!decide (hb.1.fErr=0)) (Bk ((BC key).isSome)<|Bk ((Ch F x.fA (A7.mk ([103,101,116]:Ae) ([(ov (BC key))]:List (List Ab)))).isSome)<|Bk (imp (decide (hb.1.fErr=(ov (Ch F x.fA (A7.mk ([103,101,116]:Ae) ([(ov (BC key))]:List (List Ab))))))) ((Bz F).isSome))<|some ((decide (hb.1.fErr=(ov (Ch F x.fA (A7.mk ([103,101,116]:Ae) ([(ov (BC key))]:List (List Ab)))))))&&(ov (Bz F)))) (Bk (imp (decide (0≤hd)) (Ck hd (he.length:Int)))<|BB (((decide (0≤hd))&&(decide (((An he hd).fKind)=1)))) (Bk (Ck hd (he.length:Int))<|Bk ((BJ F hb.1.fValue ((An he hd).fValue)).isSome)<|Bk (imp ((ov (BJ F hb.1.fValue ((An he hd).fValue)))) ((Bz F).isSome))<|some ((ov (BJ F hb.1.fValue ((An he hd).fValue)))&&(ov (Bz F)))) (BB (decide (0≤hd)) (Bk ((BJ F hb.1.fValue ([(Ab.mk 1 0 ([]:Ae) 0)]:List Ab)).isSome)<|Bk (imp ((ov (BJ F hb.1.fValue ([(Ab.mk 1 0 ([]:Ae) 0)]:List Ab)))) ((Bz F).isSome))<|some ((ov (BJ F hb.1.fValue ([(Ab.mk 1 0 ([]:Ae) 0)]:List Ab)))&&(ov (Bz F)))) (Bs (Ik (Au.mk hb.2.fMade hb.2.fA hb.2.fItems () hb.2.fCalls hb.2.fEffects hb.2.fReads hb.2.fLog)) λht=>Bs (PE F ht key) λhu=>BB (!hu) (some false) (Bs (Cl (λσ=>Hc F x key hb σ) F 0) (Co λν=>GX F hb )))))
def ER (F:Nat)(x:Bv)(hd:Int)(he:Bool)(hf:Ae)(hg:Ae)(hh:(List Ae))(hi:(List Ad))(hj:(List AG))(hk:Int)(hl:Int)(hm:(List AE))(hn:(List Ae))(hp:(List Ae))(hq:(List (Ae×(List Ab)))):Option (Stp (Int×Bool×Ae×Ae×(List Ae)×(List Ad)×(List AG)×Int×Int×(List AE)×(List Ae)×(List Ae)×(List (Ae×(List Ab)))) (Out (Bool) (Bool×Ae×Ae×(List Ae)×(List Ad)×(List AG)×Int×Int×(List AE)×(List Ae)×(List Ae)×(List (Ae×(List Ab)))))):=
 BB (decide (hd<(x.fL.length:Int))) (Bk (Ck hd (x.fL.length:Int))<|Bs (TE F (Au.mk he (AR.mk hf hg hh hi hj hk) hq () hl hm hn hp) (An x.fL hd)) λhb=>Bk (Cb .i64 (hd+1))<|some (.next (hd+1,hb.2.fMade,hb.2.fA.fTenant,hb.2.fA.fFunction,hb.2.fA.fOps,hb.2.fA.fPolicy,hb.2.fA.fNet,hb.2.fA.fNow,hb.2.fCalls,hb.2.fEffects,hb.2.fReads,hb.2.fLog,hb.2.fItems))) (some (.out (.go (he,hf,hg,hh,hi,hj,hk,hl,hm,hn,hp,hq))))
def GZ (F:Nat)(x:Bv)(key:Ae)(hb:Bool)(hd:Ae)(he:Ae)(hf:(List Ae))(hg:(List Ad))(hh:(List AG))(hi:Int)(hj:Int)(hk:(List AE))(hl:(List Ae))(hm:(List Ae))(hn:(List (Ae×(List Ab)))):Option (Bool):=
 Bs (Hk F (Au.mk hb (AR.mk hd he hf hg hh hi) hn () hj hk hl hm)) λhp=>Bs (Cl (λσ=>Hd key hp σ.1 σ.2) F (-1,0)) (Co λν=>GY F x key hb hd he hf hg hh hi hj hk hl hm hn hp ν)
def If (F:Nat)(x:Bv)(key:Ae):Option (Bool):=
 BB (!x.fNone) (Bs (Kn F x) λr4=>BB ((K1 F x.fA x.fItems).isSome) (Bs (K1 F x.fA x.fItems) λhb=>BB (decide (30<(x.fL.length:Int))) (Bs (Bz F) λhe=>some he) (Bs (Cl (λσ=>ES F x r4 σ.1 σ.2.1 σ.2.2.1 σ.2.2.2.1 σ.2.2.2.2.1 σ.2.2.2.2.2.1 σ.2.2.2.2.2.2.1 σ.2.2.2.2.2.2.2.1 σ.2.2.2.2.2.2.2.2.1 σ.2.2.2.2.2.2.2.2.2.1 σ.2.2.2.2.2.2.2.2.2.2.1 σ.2.2.2.2.2.2.2.2.2.2.2.1 σ.2.2.2.2.2.2.2.2.2.2.2.2) F (0,hb.1.fMade,hb.1.fA.fTenant,hb.1.fA.fFunction,hb.1.fA.fOps,hb.1.fA.fPolicy,hb.1.fA.fNet,hb.1.fA.fNow,hb.1.fCalls,hb.1.fEffects,hb.1.fReads,hb.1.fLog,hb.1.fItems)) (Co λν=>Hb F x key r4 ν.1 ν.2.1 ν.2.2.1 ν.2.2.2.1 ν.2.2.2.2.1 ν.2.2.2.2.2.1 ν.2.2.2.2.2.2.1 ν.2.2.2.2.2.2.2.1 ν.2.2.2.2.2.2.2.2.1 ν.2.2.2.2.2.2.2.2.2.1 ν.2.2.2.2.2.2.2.2.2.2.1 ν.2.2.2.2.2.2.2.2.2.2.2))) (Bs (PG F x.fA x.fItems) λhf=>Bk (((!decide (hf.2=0))||(decide (30<(x.fL.length:Int)))))<|Bs (Bz F) λhg=>some hg)) (Bs (Ko F x) λhk=>BB ((K1 F x.fA x.fItems).isSome) (Bs (K1 F x.fA x.fItems) λhd=>BB (decide (30<(x.fL.length:Int))) (Bs (Bz F) λhh=>some hh) (Bs (Cl (λσ=>ER F x σ.1 σ.2.1 σ.2.2.1 σ.2.2.2.1 σ.2.2.2.2.1 σ.2.2.2.2.2.1 σ.2.2.2.2.2.2.1 σ.2.2.2.2.2.2.2.1 σ.2.2.2.2.2.2.2.2.1 σ.2.2.2.2.2.2.2.2.2.1 σ.2.2.2.2.2.2.2.2.2.2.1 σ.2.2.2.2.2.2.2.2.2.2.2.1 σ.2.2.2.2.2.2.2.2.2.2.2.2) F (0,hd.1.fMade,hd.1.fA.fTenant,hd.1.fA.fFunction,hd.1.fA.fOps,hd.1.fA.fPolicy,hd.1.fA.fNet,hd.1.fA.fNow,hd.1.fCalls,hd.1.fEffects,hd.1.fReads,hd.1.fLog,hd.1.fItems)) (Co λν=>GZ F x key ν.1 ν.2.1 ν.2.2.1 ν.2.2.2.1 ν.2.2.2.2.1 ν.2.2.2.2.2.1 ν.2.2.2.2.2.2.1 ν.2.2.2.2.2.2.2.1 ν.2.2.2.2.2.2.2.2.1 ν.2.2.2.2.2.2.2.2.2.1 ν.2.2.2.2.2.2.2.2.2.2.1 ν.2.2.2.2.2.2.2.2.2.2.2))) (Bs (PG F x.fA x.fItems) λhi=>Bk (((!decide (hi.2=0))||(decide (30<(x.fL.length:Int)))))<|Bs (Bz F) λhj=>some hj))
end Go.Proofs.YtmjlemhondjfhaaGreatDoor
namespace Go.Proofs.YtmjlemhondjfhaaGreatDoor.Q
open Go Go.RowKit
set_option linter.unusedVariables false
set_option linter.unusedSimpArgs false
set_option maxRecDepth 100000
set_option maxHeartbeats 4000000
theorem RH (F:Nat)(x:Bv)(key:Ae)(r:Bool)(h:If F x key=some r):Fn Tryz.prog GE 5 [B3 (Be x),rS key] [] (λR H=>R=rB r∧H=[]):=by
 refine enter (n:=177) Tryz.func5 Aa Tryz.ntmps5 Aa (λw Z=>?_);unfold If at h;refine Ah (Cf Aa Aa (λb1=>?_));refine wa Aa (Bu (wv (Br (i:=0) Tryz.isAgg39 Tryz.sizeOf39 Aa Aa Aa Aa) (bz h (λc2 h3=>?_) (λc2 cP=>?_))))
 ·refine ob h3 λr4 e6 h5=>EN [] Tryz.call12 (UC F x r4 e6) ?_;rintro _ _ ⟨b7,b8,v9,rY,rZ,rfl,rfl⟩;refine wm Aa (wv (A5 Aa Aa) (wv (A5 Aa Aa) (wa Aa (wa Aa (Bu (vF D4 Aa DP (wv (Br (i:=5) L6 DP Aa Aa Aa Aa) (vF D4 Aa Qg (vL 5 Qi Aa (wm Aa (bz h5 (λcQ cR=>?_) (λcQ cS=>?_))))))))))))
  ·refine ob cR λhe cT cU=>EN [] W1 (RR F (some ⟨b7,0,none⟩) x.fA x.fItems he cT) ?_;rintro _ _ ⟨hm,hk,gs,v20,v21,rfl,rfl⟩;refine wm Aa (wv (A5 Aa Aa) (wv (A5 Aa Aa) (wa Aa (wa Aa (Ap (Al (AC [(1,rS key),(2,rP b1 0),(7,rP hm 0),(36,rB (decide (30<(x.fL.length:Int))))] [.blk hm [rB he.1.fMade,rS he.1.fA.fTenant,rS he.1.fA.fFunction,AK 1 (Az eS he.1.fA.fOps),AK 3 (Az Af he.1.fA.fPolicy),AK 5 (Az Ao he.1.fA.fNet),A2 he.1.fA.fNow,rv (.map (some hk)),CU 40 (rP b7 0),A2 he.1.fCalls,rv gs,rv v20,rv v21] 81,.map hk (Bj Aw he.1.fItems),.row gs 60 4 (Az Ax he.1.fEffects),.row v20 9 1 (Az eS he.1.fReads),.row v21 9 1 (Az eS he.1.fLog),.blk b7 [rv (.map (some b8))] 156,.map b8 (Bj (mP b8) r4.1.1.fSecrets),.poolm b8 v9 162 (Az A1 r4.1.2) none,.blk b1 (Be x) 39] ?_ ?_)))))))
   ·refine Ak (wm Aa (wv (CZ Aa Aa) (wm Aa (Bf (b:=!decide (0=0)) Aa Aa (Jc (by decide)) (vF D4 Aa Sw (Bf (b:=!decide (0=0)) Aa Aa (Jc (by decide)) (vL 10 S6 Aa (Bf (b:=!decide (0=0)) Aa Aa (Jc (by decide)) (wv (By (ys:=x.fL) (enc:=AP) So Aa) (Bf (b:=!decide (0=0)) Aa Aa (Jc (by decide)) (wv (Gy Aa Aa) (wv (r:=rB (decide (30<(x.fL.length:Int)))) (A3 (b:=!decide (0=0)) Aa (Jc (by decide)) Aa) (Aq ?_)))))))))))));exact wt
   refine cz cU Aa (λcV cW=>?_) (λcV cX=>?_)
   ·refine Ah (ob cW λcY cZ xa=>Cp Mc (CR F cY cZ) Aa (wa Aa (Ap (Ar (Ac ?_)))));obtain rfl:=Av xa;exact As (BH Ua (AQ Aa)) (sS (sS (sS (sS (sS (sS (sS (sS (sS sN))))))))) ⟨Aa,Aa⟩
   refine A0 (Bb (Al (Ah (wa Aa (Ap (AH (KB (H2:=[.blk hm [rB he.1.fMade,rS he.1.fA.fTenant,rS he.1.fA.fFunction,AK 1 (Az eS he.1.fA.fOps),AK 3 (Az Af he.1.fA.fPolicy),AK 5 (Az Ao he.1.fA.fNet),A2 he.1.fA.fNow,rv (.map (some hk)),CU 40 (rP b7 0),A2 he.1.fCalls,rv gs,rv v20,rv v21] 81,.map hk (Bj Aw he.1.fItems),.blk b7 [rv (.map (some b8))] 156,.map b8 (Bj (mP b8) r4.1.1.fSecrets),.poolm b8 v9 162 (Az A1 r4.1.2) none,.blk b1 (Be x) 39,.row gs 60 4 (Az Ax he.1.fEffects),.row v20 9 1 (Az eS he.1.fReads),.row v21 9 1 (Az eS he.1.fLog)]) ((AO (i:=0) Aa).trans (Aer _ ((AO (i:=0) Aa).trans (Aer _ ((AO (i:=3) Aa).trans (Aer _ ((AO (i:=3) Aa).trans (Aer _ ((AO (i:=3) Aa).trans (Aer _ ((AO (i:=3) Aa).trans (Aer _ (Aet _))))))))))))) (ob cX λxb xc xd=>BG (S:=Nat×(Int×Bool×Ae×Ae×(List Ae)×(List Ad)×(List AG)×Int×Int×(List AE)×(List Ae)×(List Ae)×(List (Ae×(List Ab))))×(Value×Value×Value)) (V:=(Bool×Ae×Ae×(List Ae)×(List Ad)×(List AG)×Int×Int×(List AE)×(List Ae)×(List Ae)×(List (Ae×(List Ab))))×(Value×Value×Value)) 0 (λσ=>Cl (λσ=>ES F x r4 σ.1 σ.2.1 σ.2.2.1 σ.2.2.2.1 σ.2.2.2.2.1 σ.2.2.2.2.2.1 σ.2.2.2.2.2.2.1 σ.2.2.2.2.2.2.2.1 σ.2.2.2.2.2.2.2.2.1 σ.2.2.2.2.2.2.2.2.2.1 σ.2.2.2.2.2.2.2.2.2.2.1 σ.2.2.2.2.2.2.2.2.2.2.2.1 σ.2.2.2.2.2.2.2.2.2.2.2.2) σ.1 σ.2.1=some xb) (λσ=>[(1,rS key),(2,rP b1 0),(7,rP hm 0),(9,A2 σ.2.1.1)]) (λσ=>[.blk hm [rB σ.2.1.2.1,rS σ.2.1.2.2.1,rS σ.2.1.2.2.2.1,AK 1 (Az eS σ.2.1.2.2.2.2.1),AK 3 (Az Af σ.2.1.2.2.2.2.2.1),AK 5 (Az Ao σ.2.1.2.2.2.2.2.2.1),A2 σ.2.1.2.2.2.2.2.2.2.1,rv (.map (some hk)),CU 40 (rP b7 0),A2 σ.2.1.2.2.2.2.2.2.2.2.1,rv σ.2.2.1,rv σ.2.2.2.1,rv σ.2.2.2.2] 81,.map hk (Bj Aw σ.2.1.2.2.2.2.2.2.2.2.2.2.2.2),.blk b7 [rv (.map (some b8))] 156,.map b8 (Bj (mP b8) r4.1.1.fSecrets),.poolm b8 v9 162 (Az A1 r4.1.2) none,.blk b1 (Be x) 39,.row σ.2.2.1 60 4 (Az Ax σ.2.1.2.2.2.2.2.2.2.2.2.1),.row σ.2.2.2.1 9 1 (Az eS σ.2.1.2.2.2.2.2.2.2.2.2.2.1),.row σ.2.2.2.2 9 1 (Az eS σ.2.1.2.2.2.2.2.2.2.2.2.2.2.1)]) (λσ=>σ.1) (F,(0,he.1.fMade,he.1.fA.fTenant,he.1.fA.fFunction,he.1.fA.fOps,he.1.fA.fPolicy,he.1.fA.fNet,he.1.fA.fNow,he.1.fCalls,he.1.fEffects,he.1.fReads,he.1.fLog,he.1.fItems),(gs,v20,v21)) xc (AV.c Aa (AV.c Aa (AV.c Aa (AV.c Aa AV.nil)))) (sC (sC (sC (sC (sC (sC (sC (sC (sC sN))))))))) (λσ=>Hb F x key r4 σ.1.1 σ.1.2.1 σ.1.2.2.1 σ.1.2.2.2.1 σ.1.2.2.2.2.1 σ.1.2.2.2.2.2.1 σ.1.2.2.2.2.2.2.1 σ.1.2.2.2.2.2.2.2.1 σ.1.2.2.2.2.2.2.2.2.1 σ.1.2.2.2.2.2.2.2.2.2.1 σ.1.2.2.2.2.2.2.2.2.2.2.1 σ.1.2.2.2.2.2.2.2.2.2.2.2=some r) (λσ=>[(1,rS key),(2,rP b1 0),(7,rP hm 0)]) (λσ=>[.blk hm [rB σ.1.1,rS σ.1.2.1,rS σ.1.2.2.1,AK 1 (Az eS σ.1.2.2.2.1),AK 3 (Az Af σ.1.2.2.2.2.1),AK 5 (Az Ao σ.1.2.2.2.2.2.1),A2 σ.1.2.2.2.2.2.2.1,rv (.map (some hk)),CU 40 (rP b7 0),A2 σ.1.2.2.2.2.2.2.2.1,rv σ.2.1,rv σ.2.2.1,rv σ.2.2.2] 81,.map hk (Bj Aw σ.1.2.2.2.2.2.2.2.2.2.2.2),.blk b7 [rv (.map (some b8))] 156,.map b8 (Bj (mP b8) r4.1.1.fSecrets),.poolm b8 v9 162 (Az A1 r4.1.2) none,.blk b1 (Be x) 39,.row σ.2.1 60 4 (Az Ax σ.1.2.2.2.2.2.2.2.2.1),.row σ.2.2.1 9 1 (Az eS σ.1.2.2.2.2.2.2.2.2.2.1),.row σ.2.2.2 9 1 (Az eS σ.1.2.2.2.2.2.2.2.2.2.2.1)]) ?_ ?_))))))))
   ·rintro⟨ta,⟨gH,gI,gJ,gK,gL,gM,gN,gO,gP,gQ,gR,gS,gT⟩,⟨cx,v80,cy⟩⟩ xe;refine H6 ?_;obtain⟨xf,rfl,xg,gz,c0⟩:=CD xe;replace gz:ES F x r4 gH gI gJ gK gL gM gN gO gP gQ gR gS gT=some xg:=gz;unfold ES at gz;refine Al (Ah (wm Aa (vF D4 Aa Sw (vL 5 S6 Aa (wv (By (ys:=x.fL) (enc:=AP) So Aa) (wv (CP Aa Aa) (Ap (cz gz Aa (λxh xi=>?_) (λxh xj=>?_)))))))))
    ·refine A0 (Bb (Al (AH (Ak (wm Aa (vF D4 Aa Sw (vL 5 S6 Aa (wm Aa (ck xi λxk xl=>wv (Bl (enc:=AP) (ys:=x.fL) So Sz Aa Aa xk) (wv (Do W4 Sz Aa Aa Aa) (ob xl λht xm xn=>EN [0,0,4,4,4,0,0,0] Nb (IH F hm hk cx v80 cy b7 b8 v9 (Au.mk gI (AR.mk gJ gK gL gM gN gO) gT () gP gQ gR gS) r4.1.1 r4.1.2 (An x.fL gH) ht xm) ?_)))))))))));rintro _ _ ⟨xo,xp,xq,rfl,rfl⟩;refine Aq (AN (Bb (Ak (wm Aa (ck xn λxr xt=>wv (BM Aa Aa xr) (wa Aa (Aq (JY [0,0,3,3,3,3] ?_))))))));have xu:=B8 xt c0;exact A9 (AZ (xf,(gH+1,ht.2.fMade,ht.2.fA.fTenant,ht.2.fA.fFunction,ht.2.fA.fOps,ht.2.fA.fPolicy,ht.2.fA.fNet,ht.2.fA.fNow,ht.2.fCalls,ht.2.fEffects,ht.2.fReads,ht.2.fLog,ht.2.fItems),(xo,xp,xq)) ⟨xu,Aew _⟩ (AV.c Aa (AV.c Aa (AV.c Aa (AV.c Aa AV.nil)))) (sC (sC (sC (sC (sC (sC (sC (sC (sC sN))))))))))
    refine BE (Ay ?_);have xv:=BW xj c0 xd;exact Ay (Bq (AZ ((gI,gJ,gK,gL,gM,gN,gO,gP,gQ,gR,gS,gT),(cx,v80,cy)) xv (AV.c Aa (AV.c Aa (AV.c Aa AV.nil))) (sC (sC (sC (sC (sC (sC (sC (sC (sC sN)))))))))))
   rintro⟨⟨hA,hB,hC,hD,hE,hG,hH,hI,hJ,hK,hL,hN⟩,⟨h2,h4,h6⟩⟩ g0;refine Ir ?_;replace g0:Hb F x key r4 hA hB hC hD hE hG hH hI hJ hK hL hN=some r:=g0;unfold Hb at g0;refine Bo (Bb (Ah (wm Aa (ob g0 λhg xw xx=>EN [0,0,4,4,4] Tryz.call14 (LM F hm hk h2 h4 h6 (some ⟨b7,0,none⟩) (Au.mk hA (AR.mk hB hC hD hE hG hH) hN () hI hJ hK hL) hg xw) ?_))));rintro _ _ ⟨rfl,rfl⟩;refine wa Aa (Bu (wv (r:=A2 (-1)) (A4 Aa) (Ap (Al (Ah (wa Aa (Ap (AH (ob xx λxy xz x0=>BG (S:=Nat×(Int×Int)×(Unit)) (V:=(Int)×(Unit)) 2 (λσ=>Cl (λσ=>C8 key hg σ.1 σ.2) σ.1 σ.2.1=some xy) (λσ=>[(1,rS key),(2,rP b1 0),(7,rP hm 0),(10,AK 4 (Az Ax hg)),(11,A2 σ.2.1.1),(12,A2 σ.2.1.2)]) (λσ=>[.blk hm [rB hA,rS hB,rS hC,AK 1 (Az eS hD),AK 3 (Az Af hE),AK 5 (Az Ao hG),A2 hH,rv (.map (some hk)),CU 40 (rP b7 0),A2 hI,rv h2,rv h4,rv h6] 81,.map hk (Bj Aw hN),.row h2 60 4 (Az Ax hJ),.row h4 9 1 (Az eS hK),.row h6 9 1 (Az eS hL),.blk b7 [rv (.map (some b8))] 156,.map b8 (Bj (mP b8) r4.1.1.fSecrets),.poolm b8 v9 162 (Az A1 r4.1.2) none,.blk b1 (Be x) 39]) (λσ=>σ.1) (F,(-1,0),()) xz (AV.c Aa (AV.c5 Aa Aa Aa Aa Aa AV.nil)) (sC (sC (sC (sC (sC (sC (sC (sC (sC sN))))))))) (λσ=>Ha F x key r4 hA hB hC hD hE hG hH hI hJ hK hL hN hg σ.1=some r) (λσ=>[(1,rS key),(2,rP b1 0),(7,rP hm 0),(10,AK 4 (Az Ax hg)),(11,A2 σ.1)]) (λσ=>[.blk hm [rB hA,rS hB,rS hC,AK 1 (Az eS hD),AK 3 (Az Af hE),AK 5 (Az Ao hG),A2 hH,rv (.map (some hk)),CU 40 (rP b7 0),A2 hI,rv h2,rv h4,rv h6] 81,.map hk (Bj Aw hN),.row h2 60 4 (Az Ax hJ),.row h4 9 1 (Az eS hK),.row h6 9 1 (Az eS hL),.blk b7 [rv (.map (some b8))] 156,.map b8 (Bj (mP b8) r4.1.1.fSecrets),.poolm b8 v9 162 (Az A1 r4.1.2) none,.blk b1 (Be x) 39]) ?_ ?_)))))))))
   ·rintro⟨tb,⟨g1,hy⟩,⟨⟩⟩ x1;refine H6 ?_;obtain⟨x2,rfl,gU,g2,c1⟩:=CD x1;replace g2:C8 key hg g1 hy=some gU:=g2;unfold C8 at g2;refine Al (Ah (wm Aa (wm Aa (wv (By (ys:=hg) (enc:=Ax) Gz Aa) (wv (CP Aa Aa) (Ap (cz g2 Aa (λx3 x4=>?_) (λx3 x5=>?_))))))))
    ·refine A0 (Bb (HP (S:=(Int)×(Unit)) (λσ=>El hy σ.1=some gU) (λσ=>[(1,rS key),(2,rP b1 0),(7,rP hm 0),(10,AK 4 (Az Ax hg)),(11,A2 σ.1),(12,A2 hy)]) (λσ=>[.blk hm [rB hA,rS hB,rS hC,AK 1 (Az eS hD),AK 3 (Az Af hE),AK 5 (Az Ao hG),A2 hH,rv (.map (some hk)),CU 40 (rP b7 0),A2 hI,rv h2,rv h4,rv h6] 81,.map hk (Bj Aw hN),.row h2 60 4 (Az Ax hJ),.row h4 9 1 (Az eS hK),.row h6 9 1 (Az eS hL),.blk b7 [rv (.map (some b8))] 156,.map b8 (Bj (mP b8) r4.1.1.fSecrets),.poolm b8 v9 162 (Az A1 r4.1.2) none,.blk b1 (Be x) 39]) ?_ ?_))
     ·refine AH (ck x4 λgV x6=>AC [(1,rS key),(2,rP b1 0),(7,rP hm 0),(10,AK 4 (Az Ax hg)),(11,A2 g1),(12,A2 hy),(82,rB ((decide (((An hg hy).fKey)=key))&&((decide (((An hg hy).fKind)=1))||(decide (((An hg hy).fKind)=2)))))] [.blk hm [rB hA,rS hB,rS hC,AK 1 (Az eS hD),AK 3 (Az Af hE),AK 5 (Az Ao hG),A2 hH,rv (.map (some hk)),CU 40 (rP b7 0),A2 hI,rv h2,rv h4,rv h6] 81,.map hk (Bj Aw hN),.row h2 60 4 (Az Ax hJ),.row h4 9 1 (Az eS hK),.row h6 9 1 (Az eS hL),.blk b7 [rv (.map (some b8))] 156,.map b8 (Bj (mP b8) r4.1.1.fSecrets),.poolm b8 v9 162 (Az A1 r4.1.2) none,.blk b1 (Be x) 39] ?_ ?_)
      ·refine Ak (wm Aa (wm Aa (wv (Bl (enc:=Ax) (ys:=hg) Gz Dh Aa Aa gV) (wv (AY D0 Aa Dc Aa Aa) (wv (Bc DQ Aa Aa) (wm Aa (wv (C2 Aa Aa) (wm Aa (Bd (decide (((An hg hy).fKey)=key)) (λhi=>?_) (λhi=>?_))))))))))
       ·refine wo hi (wm Aa (wo hi (wm Aa (wo hi (wv (Bl (enc:=Ax) (ys:=hg) Gz Dh Aa Aa gV) (wo hi (wv (AY D0 Aa Jr Aa Aa) (wo hi (wv (Bc Ro Aa Aa) (wo hi (wv (Ce Aa Aa) (wo hi (wm Aa (Bd (decide (((An hg hy).fKind)=1)) (λhr=>?_) (λhr=>?_)))))))))))))))
        ·refine wf hr (wf hr (wf hr (wf hr (wf hr (wf hr (wo hi (wv (r:=rB true) (AF Aa hr Aa) (GG Aa hi Aa (Aq ?_)))))))));exact Cy (And.intro hi hr)
        refine wo hr (wm Aa (wo hr (wm Aa (wo hr (wv (Bl (enc:=Ax) (ys:=hg) Gz Dh Aa Aa gV) (wo hr (wv (AY D0 Aa Jr Aa Aa) (wo hr (wv (Bc Ro Aa Aa) (wo hr (wv (Ce Aa Aa) (wo hi (MY Aa hr Aa (GG Aa hi Aa (Aq ?_)))))))))))))));exact Cy (And.intro hi hr)
       refine wf hi (wf hi (wf hi (wf hi (wf hi (wf hi (wf hi (wu (wu (wu (wu (wu (wu (wf hi (wv (r:=rB false) (A3 Aa hi Aa) (Aq ?_)))))))))))))));exact Cy hi
      refine cz x6 Aa (λx7 x8=>?_) (λx7 x9=>?_)
      ·exact Ak (wm Aa (wa Aa (Aq (AN (A9 (AZ (hy,()) x8 (AV.c Aa (AV.c5 Aa Aa Aa Aa Aa AV.nil)) (sC (sC (sC (sC (sC (sC (sC (sC (sC sN)))))))))))))))
      exact A0 (AN (A9 (AZ (g1,()) x9 (AV.c Aa (AV.c5 Aa Aa Aa Aa Aa AV.nil)) (sC (sC (sC (sC (sC (sC (sC (sC (sC sN))))))))))))
     rintro⟨c3,⟨⟩⟩ g3;refine H6 ?_;replace g3:El hy c3=some gU:=g3;unfold El at g3;refine Ak (wm Aa (ck g3 λxA xB=>wv (BM Aa Aa xA) (wa Aa (Aq ?_))));have xC:=B8 xB c1;exact A9 (AZ (x2,(c3,hy+1),()) ⟨xC,Aew _⟩ (AV.c Aa (AV.c5 Aa Aa Aa Aa Aa AV.nil)) (sC (sC (sC (sC (sC (sC (sC (sC (sC sN))))))))))
    refine BE (Ay ?_);have xD:=BW x5 c1 x0;exact Ay (Bq (AZ (g1,()) xD (AV.c5 Aa Aa Aa Aa Aa AV.nil) (sC (sC (sC (sC (sC (sC (sC (sC (sC sN)))))))))))
   rintro⟨hz,⟨⟩⟩ g4;refine Ir ?_;replace g4:Ha F x key r4 hA hB hC hD hE hG hH hI hJ hK hL hN hg hz=some r:=g4;unfold Ha at g4;refine Bo (Bb (Ah (wm Aa (wm Aa (ob g4 λgu xE xF=>Cp Mb (Df key gu xE) Aa (Bg (ys:=([gu]:List (List Ab))) (enc:=AL) (css:=[[AK 4 (Az Ai gu)]]) (xs:=[.tmp 86]) DO BY Ma Aa Aa Aa ⟨Ek.one Aa (Up.refl _),trivial⟩ Aa BU Aa Aa Aa (λxG=>?_)))))));refine wv (r:=B3 [rS ([103,101,116]:Ae),rv (.slice (some ⟨xG,0,none⟩) 1 1)]) (Cr Aa Aa Aa Aa) (WL.freeze (i:=0) Aa (WL.up (d:=88) (r:=B3 [rS ([103,101,116]:Ae),AK 1 (Az AL ([gu]:List (List Ab)))]) Aa (Up.agg ⟨Up.refl _,Up.fact (i:=0) Aa,trivial⟩) (ob xF λhb xH xI=>EN [1,1,1,1,1,1,1,1] Nb (IH F hm hk h2 h4 h6 b7 b8 v9 (Au.mk hA (AR.mk hB hC hD hE hG hH) hN () hI hJ hK hL) r4.1.1 r4.1.2 (A7.mk ([103,101,116]:Ae) ([gu]:List (List Ab))) hb xH) ?_)));rintro _ _ ⟨gW,gX,gY,rfl,rfl⟩;refine BO (cs:=[A2 0,rv (.slice none 0 0)]) Qf Aa Aa (λgq=>?_);refine Gx (i:=0) CY Aa Aa Aa (B5.c Aa) Aa Aa ?_;refine Ap (Al (Ah (vF G8 Aa OE (vL 0 Og Aa (wv (CZ Aa Aa) (Ap (cz xI Aa (λxJ xK=>?_) (λxJ xL=>?_))))))))
   ·refine ck xK λc4 xM=>ck xM λc6 xN=>ck xN λxO xP=>AC [(4,rB ((decide (hb.1.fErr=(ov (Ch F x.fA (A7.mk ([103,101,116]:Ae) ([(ov (BC key))]:List (List Ab)))))))&&(ov (Bz F))))] [.poolm b8 v9 162 (Az A1 r4.1.2) none] ?_ ?_
    ·refine Bd (decide (hb.1.fErr=(ov (Ch F x.fA (A7.mk ([103,101,116]:Ae) ([(ov (BC key))]:List (List Ab))))))) (λgc=>?_) (λgc=>?_)
     ·refine CJ [1,2,13] ?_;refine rq (Am G8 Aa OE Aa Aa) (rq (AU (i:=0) Og Aa Aa Aa) (rq (Am D4 Aa DP Aa Aa) (rq (Br (i:=10) L6 DP Aa Aa Aa Aa) (rq (Aj Aa) (Eo (Cg Mb (Df key (ov (BC key)) (CL c4)) Aa) (Eo (CE (ys:=([(ov (BC key))]:List (List Ab))) (enc:=AL) (css:=[[AK 4 (Az Ai (ov (BC key)))]]) (xs:=[.tmp 98]) DO BY Ma Aa Aa Aa ⟨Ek.one Aa (Up.refl _),trivial⟩ Aa BU Aa Aa) (rq (r:=B3 [rS ([103,101,116]:Ae),AK 1 (Az AL ([(ov (BC key))]:List (List Ab)))]) (Cr Aa Aa Aa Aa) (Eo (Cg yk8 (Gh F x.fA (A7.mk ([103,101,116]:Ae) ([(ov (BC key))]:List (List Ab))) (ov (Ch F x.fA (A7.mk ([103,101,116]:Ae) ([(ov (BC key))]:List (List Ab))))) (CL c6)) Aa) (rq (Ce Aa Aa) (rq (Aj Aa) (ro gc (Cg Mc (CR F (ov (Bz F)) (CL (BX xO gc))) Aa) (rq (AF Aa gc Aa) (rq (A4 Aa) (re [4] ?_))))))))))))));exact Cy gc
     refine CJ [1,2,13] ?_;refine rq (Am G8 Aa OE Aa Aa) (rq (AU (i:=0) Og Aa Aa Aa) (rq (Am D4 Aa DP Aa Aa) (rq (Br (i:=10) L6 DP Aa Aa Aa Aa) (rq (Aj Aa) (Eo (Cg Mb (Df key (ov (BC key)) (CL c4)) Aa) (Eo (CE (ys:=([(ov (BC key))]:List (List Ab))) (enc:=AL) (css:=[[AK 4 (Az Ai (ov (BC key)))]]) (xs:=[.tmp 98]) DO BY Ma Aa Aa Aa ⟨Ek.one Aa (Up.refl _),trivial⟩ Aa BU Aa Aa) (rq (r:=B3 [rS ([103,101,116]:Ae),AK 1 (Az AL ([(ov (BC key))]:List (List Ab)))]) (Cr Aa Aa Aa Aa) (Eo (Cg yk8 (Gh F x.fA (A7.mk ([103,101,116]:Ae) ([(ov (BC key))]:List (List Ab))) (ov (Ch F x.fA (A7.mk ([103,101,116]:Ae) ([(ov (BC key))]:List (List Ab))))) (CL c6)) Aa) (rq (Ce Aa Aa) (rq (Aj Aa) (rz gc (rq (r:=rB false) (A3 (b:=decide (hb.1.fErr=(ov (Ch F x.fA (A7.mk ([103,101,116]:Ae) ([(ov (BC key))]:List (List Ab))))))) Aa gc Aa) (rq (A4 Aa) (re [4] ?_))))))))))))));exact Cy gc
    refine Ar (Ac ?_);obtain rfl:=Av xP;exact As (BH Ua (AQ Aa)) (sS sN) ⟨Aa,Aa⟩
   refine A0 (Bb (Al (ck xL λxQ xR=>AC [(1,rS key),(2,rP b1 0),(7,rP hm 0),(10,AK 4 (Az Ax hg)),(11,A2 hz),(13,rP gq 0),(115,rB ((decide (0≤hz))&&(decide (((An hg hz).fKind)=1))))] [.blk gq (BL hb.1) 52,.blk hm [rB hb.2.fMade,rS hb.2.fA.fTenant,rS hb.2.fA.fFunction,AK 1 (Az eS hb.2.fA.fOps),AK 3 (Az Af hb.2.fA.fPolicy),AK 5 (Az Ao hb.2.fA.fNet),A2 hb.2.fA.fNow,rv (.map (some hk)),CU 40 (rP b7 0),A2 hb.2.fCalls,rv gW,rv gX,rv gY] 81,.map hk (Bj Aw hb.2.fItems),.row gW 60 4 (Az Ax hb.2.fEffects),.row gX 9 1 (Az eS hb.2.fReads),.row gY 9 1 (Az eS hb.2.fLog),.blk b7 [rv (.map (some b8))] 156,.map b8 (Bj (mP b8) r4.1.1.fSecrets),.poolm b8 v9 162 (Az A1 r4.1.2) none,.blk b1 (Be x) 39] ?_ ?_)))
   ·refine Ak (wm Aa (wv (EL Aa Aa) (wm Aa (Bd (decide (0≤hz)) (λhp=>?_) (λhp=>?_)))))
    ·refine wo hp (wm Aa (wo hp (wm Aa (wo hp (wv (Bl (enc:=Ax) (ys:=hg) Gz Dh Aa Aa (BX xQ hp)) (wo hp (wv (AY D0 Aa Jr Aa Aa) (wo hp (wv (Bc Ro Aa Aa) (wo hp (wv (Ce Aa Aa) (GG Aa hp Aa (Aq ?_)))))))))))));exact Cy hp
    refine wf hp (wf hp (wf hp (wf hp (wf hp (wf hp (wv (r:=rB false) (A3 Aa hp Aa) (Aq ?_)))))));exact Cy hp
   refine cz xR Aa (λxS xT=>?_) (λxS xU=>?_)
   ·refine ck xT λc7 xV=>ck xV λc8 xW=>ck xW λxX xY=>AC [(4,rB ((ov (BJ F hb.1.fValue ((An hg hz).fValue)))&&(ov (Bz F))))] [.poolm b8 v9 162 (Az A1 r4.1.2) none] ?_ ?_
    ·refine Bd ((ov (BJ F hb.1.fValue ((An hg hz).fValue)))) (λgd=>?_) (λgd=>?_)
     ·refine CJ [10,11,13] ?_;refine rq (Am G8 Aa BY Aa Aa) (rq (AU (i:=0) CX Aa Aa Aa) (rq (Aj Aa) (rq (Aj Aa) (rq (Bl (enc:=Ax) (ys:=hg) Gz Dh Aa Aa c7) (rq (AY D0 Aa BY Aa Aa) (rq (Bc CX Aa Aa) (Eo (Cg Lc (DI F hb.1.fValue ((An hg hz).fValue) (ov (BJ F hb.1.fValue ((An hg hz).fValue))) (CL c8)) Aa) (rq (Aj Aa) (ro gd (Cg Mc (CR F (ov (Bz F)) (CL (BX xX gd))) Aa) (rq (AF Aa gd Aa) (rq (A4 Aa) (re [4] ?_))))))))))));exact Cy gd
     refine CJ [10,11,13] ?_;refine rq (Am G8 Aa BY Aa Aa) (rq (AU (i:=0) CX Aa Aa Aa) (rq (Aj Aa) (rq (Aj Aa) (rq (Bl (enc:=Ax) (ys:=hg) Gz Dh Aa Aa c7) (rq (AY D0 Aa BY Aa Aa) (rq (Bc CX Aa Aa) (Eo (Cg Lc (DI F hb.1.fValue ((An hg hz).fValue) (ov (BJ F hb.1.fValue ((An hg hz).fValue))) (CL c8)) Aa) (rq (Aj Aa) (rz gd (rq (r:=rB false) (A3 (b:=(ov (BJ F hb.1.fValue ((An hg hz).fValue)))) Aa gd Aa) (rq (A4 Aa) (re [4] ?_))))))))))));exact Cy gd
    refine Ar (Ac ?_);obtain rfl:=Av xY;exact As (BH Ua (AQ Aa)) (sS sN) ⟨Aa,Aa⟩
   refine A0 (Bb (Al (Ah (wm Aa (wv (EL Aa Aa) (Ap (cz xU Aa (λxZ va=>?_) (λxZ vb=>?_))))))))
   ·refine ck va λvc vd=>ck vd λve vf=>AC [(4,rB ((ov (BJ F hb.1.fValue ([(Ab.mk 1 0 ([]:Ae) 0)]:List Ab)))&&(ov (Bz F))))] [.poolm b8 v9 162 (Az A1 r4.1.2) none] ?_ ?_
    ·refine Ak (vF G8 Aa BY (vL 0 CX Aa (wv (r:=B3 [A2 1,A2 0,rS ([]:Ae),A2 0]) (Hi Aa Aa) (Bg (ys:=([(Ab.mk 1 0 ([]:Ae) 0)]:List Ab)) (enc:=Ai) (css:=[[A2 1,A2 0,rS ([]:Ae),A2 0]]) (xs:=[.tmp 131]) Ef E0 Oe Aa Aa Aa ⟨Ek.agg ⟨Up.refl _,Up.refl _,Up.refl _,Up.refl _,trivial⟩,trivial⟩ Aa C9 Aa Aa Aa (λtc=>?_)))));refine WL.freeze (i:=0) Aa (WL.up (d:=132) (r:=AK 4 (Az Ai ([(Ab.mk 1 0 ([]:Ae) 0)]:List Ab))) Aa (Up.fact (i:=0) Aa) (Cp Lc (DI F hb.1.fValue ([(Ab.mk 1 0 ([]:Ae) 0)]:List Ab) (ov (BJ F hb.1.fValue ([(Ab.mk 1 0 ([]:Ae) 0)]:List Ab))) (CL vc)) Aa (wm Aa (Bd ((ov (BJ F hb.1.fValue ([(Ab.mk 1 0 ([]:Ae) 0)]:List Ab)))) (λgf=>?_) (λgf=>?_)))))
     ·refine wo gf (Cp Mc (CR F (ov (Bz F)) (CL (BX ve gf))) Aa (GG Aa gf Aa (wa Aa (Aq ?_))));exact Cy gf
     refine wf gf (wv (r:=rB false) (A3 Aa gf Aa) (wa Aa (Aq ?_)));exact Cy gf
    refine Ar (Ac ?_);obtain rfl:=Av vf;exact As (BH Ua (AQ Aa)) (sS sN) ⟨Aa,Aa⟩
   refine A0 (Bb (Al (Ah (wm Aa (ob vb λc9 vg vh=>EN [1,1,1,1,1] Tryz.call15 (MI hm hk gW gX gY (some ⟨b7,0,none⟩) (Au.mk hb.2.fMade hb.2.fA hb.2.fItems () hb.2.fCalls hb.2.fEffects hb.2.fReads hb.2.fLog) c9 vg) ?_)))));rintro _ _ ⟨rfl,rfl⟩;refine wm Aa (ob vh λvi vj vk=>Cp Tryz.call21 (VX F c9 key vi vj) Aa (wv (Cn Aa) (Ap (cz vk Aa (λvl vm=>?_) (λvl vn=>?_)))))
   ·refine Ah (wa Aa (Ap (Ar (Ac ?_))));obtain rfl:=Av vm;exact As (BH Ua (AQ Aa)) (sS (sS (sS (sS (sS (sS (sS (sS (sS (sS sN)))))))))) ⟨Aa,Aa⟩
   refine A0 (Bb (Al (Ah (wa Aa (Ap (AH (ob vn λvo vp cA=>BG (S:=Nat×(Int)×(Unit)) (V:=(Unit)×(Unit)) 4 (λσ=>Cl (λσ=>CM F x key hb σ) σ.1 σ.2.1=some vo) (λσ=>[(1,rS key),(2,rP b1 0),(13,rP gq 0),(14,A2 σ.2.1)]) (λσ=>[.blk gq (BL hb.1) 52,.poolm b8 v9 162 (Az A1 r4.1.2) none,.blk b1 (Be x) 39]) (λσ=>σ.1) (F,0,()) vp (AV.c Aa (AV.c Aa (AV.c Aa (AV.c Aa AV.nil)))) (sS (sS (sS (sS (sS (sC (sS (sS (sC (sC sN)))))))))) (λσ=>DF F hb =some r) (λσ=>[(13,rP gq 0)]) (λσ=>[.blk gq (BL hb.1) 52,.poolm b8 v9 162 (Az A1 r4.1.2) none]) ?_ ?_)))))))
   ·rintro⟨td,hO,⟨⟩⟩ vq;refine H6 ?_;obtain⟨vr,rfl,vs,g5,gZ⟩:=CD vq;replace g5:CM F x key hb hO=some vs:=g5;unfold CM at g5;refine Al (Ah (wm Aa (vF D4 Aa Qg (vL 2 Qi Aa (wv (By (ys:=x.fItems) (enc:=BA) JU Aa) (wv (CP Aa Aa) (Ap (cz g5 Aa (λvt vu=>?_) (λvt vv=>?_)))))))))
    ·refine A0 (Bb (Al (AH (Ah (vF D4 Aa Qg (vL 2 Qi Aa (wm Aa (ck vu λca vw=>wv (Bl (enc:=BA) (ys:=x.fItems) JU JX Aa Aa ca) (wv (AY L4 Aa Dc Aa Aa) (wv (Bc DQ Aa Aa) (wm Aa (wv (C2 Aa Aa) (Ap (cz vw Aa (λvx vy=>?_) (λvx vz=>?_)))))))))))))))
     ·refine ck vy λcB v0=>ck v0 λv1 v2=>AC [(4,rB ((ov (BJ F hb.1.fValue ((An x.fItems hO).fValue)))&&(ov (Bz F))))] [.poolm b8 v9 162 (Az A1 r4.1.2) none] ?_ ?_
      ·refine Bd ((ov (BJ F hb.1.fValue ((An x.fItems hO).fValue)))) (λgg=>?_) (λgg=>?_)
       ·refine CJ [2,13,14] ?_;refine rq (Am G8 Aa BY Aa Aa) (rq (AU (i:=0) CX Aa Aa Aa) (rq (Am D4 Aa Qg Aa Aa) (rq (AU (i:=2) Qi Aa Aa Aa) (rq (Aj Aa) (rq (Bl (enc:=BA) (ys:=x.fItems) JU JX Aa Aa ca) (rq (AY L4 Aa BY Aa Aa) (rq (Bc CX Aa Aa) (Eo (Cg Lc (DI F hb.1.fValue ((An x.fItems hO).fValue) (ov (BJ F hb.1.fValue ((An x.fItems hO).fValue))) (CL cB)) Aa) (rq (Aj Aa) (ro gg (Cg Mc (CR F (ov (Bz F)) (CL (BX v1 gg))) Aa) (rq (AF Aa gg Aa) (rq (A4 Aa) (re [4] ?_)))))))))))));exact Cy gg
       refine CJ [2,13,14] ?_;refine rq (Am G8 Aa BY Aa Aa) (rq (AU (i:=0) CX Aa Aa Aa) (rq (Am D4 Aa Qg Aa Aa) (rq (AU (i:=2) Qi Aa Aa Aa) (rq (Aj Aa) (rq (Bl (enc:=BA) (ys:=x.fItems) JU JX Aa Aa ca) (rq (AY L4 Aa BY Aa Aa) (rq (Bc CX Aa Aa) (Eo (Cg Lc (DI F hb.1.fValue ((An x.fItems hO).fValue) (ov (BJ F hb.1.fValue ((An x.fItems hO).fValue))) (CL cB)) Aa) (rq (Aj Aa) (rz gg (rq (r:=rB false) (A3 (b:=(ov (BJ F hb.1.fValue ((An x.fItems hO).fValue)))) Aa gg Aa) (rq (A4 Aa) (re [4] ?_)))))))))))));exact Cy gg
      refine Ar (A8 (Ac (Ac (B7 ?_))));have v3:=Ca v2 gZ cA;refine A8 (Ac ?_);obtain rfl:=Av v3;exact As (BH Ua (AQ Aa)) (sS sN) ⟨Aa,Aa⟩
     refine A0 (AN (Bb (Ak (wm Aa (ck vz λv4 v5=>wv (BM Aa Aa v4) (wa Aa (Aq ?_)))))));have v6:=B8 v5 gZ;exact A9 (AZ (vr,hO+1,()) ⟨v6,Aew _⟩ (AV.c Aa (AV.c Aa (AV.c Aa (AV.c Aa AV.nil)))) (sC (sC (sC sN))))
    refine BE (Ay ?_);have v7:=BW vv gZ cA;exact Ay (Bq (AZ ((),()) v7 (AV.c Aa AV.nil) (sC (sC (sS sN)))))
   rintro⟨⟨⟩,⟨⟩⟩ g6;refine Ir ?_;replace g6:DF F hb =some r:=g6;unfold DF at g6;refine Bo (Bb (ck g6 λv8 vA=>ck vA λvB vC=>AC [(4,rB ((ov (BJ F hb.1.fValue ([(Ab.mk 1 0 ([]:Ae) 0)]:List Ab)))&&(ov (Bz F))))] [.poolm b8 v9 162 (Az A1 r4.1.2) none] ?_ ?_))
   ·refine Ak (vF G8 Aa BY (vL 0 CX Aa (wv (r:=B3 [A2 1,A2 0,rS ([]:Ae),A2 0]) (Hi Aa Aa) (Bg (ys:=([(Ab.mk 1 0 ([]:Ae) 0)]:List Ab)) (enc:=Ai) (css:=[[A2 1,A2 0,rS ([]:Ae),A2 0]]) (xs:=[.tmp 171]) Ef E0 Oe Aa Aa Aa ⟨Ek.agg ⟨Up.refl _,Up.refl _,Up.refl _,Up.refl _,trivial⟩,trivial⟩ Aa C9 Aa Aa Aa (λte=>?_)))));refine WL.freeze (i:=0) Aa (WL.up (d:=172) (r:=AK 4 (Az Ai ([(Ab.mk 1 0 ([]:Ae) 0)]:List Ab))) Aa (Up.fact (i:=0) Aa) (Cp Lc (DI F hb.1.fValue ([(Ab.mk 1 0 ([]:Ae) 0)]:List Ab) (ov (BJ F hb.1.fValue ([(Ab.mk 1 0 ([]:Ae) 0)]:List Ab))) (CL v8)) Aa (wm Aa (Bd ((ov (BJ F hb.1.fValue ([(Ab.mk 1 0 ([]:Ae) 0)]:List Ab)))) (λgh=>?_) (λgh=>?_)))))
    ·refine wo gh (Cp Mc (CR F (ov (Bz F)) (CL (BX vB gh))) Aa (GG Aa gh Aa (wa Aa (Aq ?_))));exact Cy gh
    refine wf gh (wv (r:=rB false) (A3 Aa gh Aa) (wa Aa (Aq ?_)));exact Cy gh
   refine Ar ?_;obtain rfl:=Av vC;exact As (BH Ua (AQ Aa)) (sS sN) ⟨Aa,Aa⟩
  refine ob cS λg7 vD vE=>Cp W1 (RS F (some ⟨b7,0,none⟩) x.fA x.fItems g7 vD) Aa (wm Aa (wv (A5 Aa Aa) (wv (A5 Aa Aa) (wa Aa (wa Aa (Ap (Al (AC [(1,rS key),(2,rP b1 0),(7,rv (.pointer none)),(36,rB ((!decide (g7.2=0))||(decide (30<(x.fL.length:Int)))))] [.poolm b8 v9 162 (Az A1 r4.1.2) none,.blk b1 (Be x) 39] ?_ ?_))))))))
  ·refine Ak (wm Aa (wv (CZ Aa Aa) (wm Aa (Bd (!decide (g7.2=0)) (λhu=>?_) (λhu=>?_)))))
   ·refine wf hu (wf hu (wf hu (wf hu (wv (r:=rB true) (AF Aa hu Aa) (Aq ?_)))));exact Cy hu
   refine wo hu (vF D4 Aa Sw (wo hu (vL 5 S6 Aa (wo hu (wv (By (ys:=x.fL) (enc:=AP) So Aa) (wo hu (wv (Gy Aa Aa) (MY Aa hu Aa (Aq ?_)))))))));exact Cy hu
  refine ck vE λvG vH=>CG (b:=((!decide (g7.2=0))||(decide (30<(x.fL.length:Int))))) Aa vG (Ah (ob vH λvI vJ vK=>Cp Mc (CR F vI vJ) Aa (wa Aa (Ap (Ar (Ac ?_))))));obtain rfl:=Av vK;exact As (BH Ua (AQ Aa)) (sS (sS sN)) ⟨Aa,Aa⟩
 refine ob cP λvM vN vO=>Cp Tryz.call12 (UD F x vM vN) Aa (wm Aa (wv (A5 Aa Aa) (wv (A5 Aa Aa) (wa Aa (wa Aa (Bu (vF D4 Aa DP (wv (Br (i:=0) L6 DP Aa Aa Aa Aa) (vF D4 Aa Qg (vL 0 Qi Aa (wm Aa (bz vO (λvP vQ=>?_) (λvP vR=>?_)))))))))))))
 ·refine ob vQ λhf vS vT=>EN [] W1 (RR F none x.fA x.fItems hf vS) ?_;rintro _ _ ⟨hn,hl,gv,gw,gx,rfl,rfl⟩;refine wm Aa (wv (A5 Aa Aa) (wv (A5 Aa Aa) (wa Aa (wa Aa (Ap (Al (AC [(1,rS key),(2,rP b1 0),(7,rP hn 0),(36,rB (decide (30<(x.fL.length:Int))))] [.blk hn [rB hf.1.fMade,rS hf.1.fA.fTenant,rS hf.1.fA.fFunction,AK 1 (Az eS hf.1.fA.fOps),AK 3 (Az Af hf.1.fA.fPolicy),AK 5 (Az Ao hf.1.fA.fNet),A2 hf.1.fA.fNow,rv (.map (some hl)),CU 40 (rv (.pointer none)),A2 hf.1.fCalls,rv gv,rv gw,rv gx] 81,.map hl (Bj Aw hf.1.fItems),.row gv 60 4 (Az Ax hf.1.fEffects),.row gw 9 1 (Az eS hf.1.fReads),.row gx 9 1 (Az eS hf.1.fLog),.blk b1 (Be x) 39] ?_ ?_)))))))
  ·refine Ak (wm Aa (wv (CZ Aa Aa) (wm Aa (Bf (b:=!decide (0=0)) Aa Aa (Jc (by decide)) (vF D4 Aa Sw (Bf (b:=!decide (0=0)) Aa Aa (Jc (by decide)) (vL 5 S6 Aa (Bf (b:=!decide (0=0)) Aa Aa (Jc (by decide)) (wv (By (ys:=x.fL) (enc:=AP) So Aa) (Bf (b:=!decide (0=0)) Aa Aa (Jc (by decide)) (wv (Gy Aa Aa) (wv (r:=rB (decide (30<(x.fL.length:Int)))) (A3 (b:=!decide (0=0)) Aa (Jc (by decide)) Aa) (Aq ?_)))))))))))));exact wt
  refine cz vT Aa (λvU vV=>?_) (λvU vW=>?_)
  ·refine Ah (ob vV λvX vY vZ=>Cp Mc (CR F vX vY) Aa (wa Aa (Ap (Ar (Ac ?_)))));obtain rfl:=Av vZ;exact As (BH Ua (AQ Aa)) (sS (sS (sS (sS (sS (sS sN)))))) ⟨Aa,Aa⟩
  refine A0 (Bb (Al (Ah (wa Aa (Ap (AH (KB (H2:=[.blk hn [rB hf.1.fMade,rS hf.1.fA.fTenant,rS hf.1.fA.fFunction,AK 1 (Az eS hf.1.fA.fOps),AK 3 (Az Af hf.1.fA.fPolicy),AK 5 (Az Ao hf.1.fA.fNet),A2 hf.1.fA.fNow,rv (.map (some hl)),CU 40 (rv (.pointer none)),A2 hf.1.fCalls,rv gv,rv gw,rv gx] 81,.map hl (Bj Aw hf.1.fItems),.blk b1 (Be x) 39,.row gv 60 4 (Az Ax hf.1.fEffects),.row gw 9 1 (Az eS hf.1.fReads),.row gx 9 1 (Az eS hf.1.fLog)]) ((AO (i:=0) Aa).trans (Aer _ ((AO (i:=0) Aa).trans (Aer _ ((AO (i:=3) Aa).trans (Aer _ (Aet _))))))) (ob vW λba bb bc=>BG (S:=Nat×(Int×Bool×Ae×Ae×(List Ae)×(List Ad)×(List AG)×Int×Int×(List AE)×(List Ae)×(List Ae)×(List (Ae×(List Ab))))×(Value×Value×Value)) (V:=(Bool×Ae×Ae×(List Ae)×(List Ad)×(List AG)×Int×Int×(List AE)×(List Ae)×(List Ae)×(List (Ae×(List Ab))))×(Value×Value×Value)) 0 (λσ=>Cl (λσ=>ER F x σ.1 σ.2.1 σ.2.2.1 σ.2.2.2.1 σ.2.2.2.2.1 σ.2.2.2.2.2.1 σ.2.2.2.2.2.2.1 σ.2.2.2.2.2.2.2.1 σ.2.2.2.2.2.2.2.2.1 σ.2.2.2.2.2.2.2.2.2.1 σ.2.2.2.2.2.2.2.2.2.2.1 σ.2.2.2.2.2.2.2.2.2.2.2.1 σ.2.2.2.2.2.2.2.2.2.2.2.2) σ.1 σ.2.1=some ba) (λσ=>[(1,rS key),(2,rP b1 0),(7,rP hn 0),(9,A2 σ.2.1.1)]) (λσ=>[.blk hn [rB σ.2.1.2.1,rS σ.2.1.2.2.1,rS σ.2.1.2.2.2.1,AK 1 (Az eS σ.2.1.2.2.2.2.1),AK 3 (Az Af σ.2.1.2.2.2.2.2.1),AK 5 (Az Ao σ.2.1.2.2.2.2.2.2.1),A2 σ.2.1.2.2.2.2.2.2.2.1,rv (.map (some hl)),CU 40 (rv (.pointer none)),A2 σ.2.1.2.2.2.2.2.2.2.2.1,rv σ.2.2.1,rv σ.2.2.2.1,rv σ.2.2.2.2] 81,.map hl (Bj Aw σ.2.1.2.2.2.2.2.2.2.2.2.2.2.2),.blk b1 (Be x) 39,.row σ.2.2.1 60 4 (Az Ax σ.2.1.2.2.2.2.2.2.2.2.2.1),.row σ.2.2.2.1 9 1 (Az eS σ.2.1.2.2.2.2.2.2.2.2.2.2.1),.row σ.2.2.2.2 9 1 (Az eS σ.2.1.2.2.2.2.2.2.2.2.2.2.2.1)]) (λσ=>σ.1) (F,(0,hf.1.fMade,hf.1.fA.fTenant,hf.1.fA.fFunction,hf.1.fA.fOps,hf.1.fA.fPolicy,hf.1.fA.fNet,hf.1.fA.fNow,hf.1.fCalls,hf.1.fEffects,hf.1.fReads,hf.1.fLog,hf.1.fItems),(gv,gw,gx)) bb (AV.c Aa (AV.c Aa (AV.c Aa (AV.c Aa AV.nil)))) (sC (sC (sC (sC (sC (sC sN)))))) (λσ=>GZ F x key σ.1.1 σ.1.2.1 σ.1.2.2.1 σ.1.2.2.2.1 σ.1.2.2.2.2.1 σ.1.2.2.2.2.2.1 σ.1.2.2.2.2.2.2.1 σ.1.2.2.2.2.2.2.2.1 σ.1.2.2.2.2.2.2.2.2.1 σ.1.2.2.2.2.2.2.2.2.2.1 σ.1.2.2.2.2.2.2.2.2.2.2.1 σ.1.2.2.2.2.2.2.2.2.2.2.2=some r) (λσ=>[(1,rS key),(2,rP b1 0),(7,rP hn 0)]) (λσ=>[.blk hn [rB σ.1.1,rS σ.1.2.1,rS σ.1.2.2.1,AK 1 (Az eS σ.1.2.2.2.1),AK 3 (Az Af σ.1.2.2.2.2.1),AK 5 (Az Ao σ.1.2.2.2.2.2.1),A2 σ.1.2.2.2.2.2.2.1,rv (.map (some hl)),CU 40 (rv (.pointer none)),A2 σ.1.2.2.2.2.2.2.2.1,rv σ.2.1,rv σ.2.2.1,rv σ.2.2.2] 81,.map hl (Bj Aw σ.1.2.2.2.2.2.2.2.2.2.2.2),.blk b1 (Be x) 39,.row σ.2.1 60 4 (Az Ax σ.1.2.2.2.2.2.2.2.2.1),.row σ.2.2.1 9 1 (Az eS σ.1.2.2.2.2.2.2.2.2.2.1),.row σ.2.2.2 9 1 (Az eS σ.1.2.2.2.2.2.2.2.2.2.2.1)]) ?_ ?_))))))))
  ·rintro⟨tf,⟨cb,cc,cd,ce,cf,cg,ch,ci,cj,cl,cm,cn,co⟩,⟨cC,cD,cE⟩⟩ be;refine H6 ?_;obtain⟨bf,rfl,bg,g8,cF⟩:=CD be;replace g8:ER F x cb cc cd ce cf cg ch ci cj cl cm cn co=some bg:=g8;unfold ER at g8;refine Al (Ah (wm Aa (vF D4 Aa Sw (vL 2 S6 Aa (wv (By (ys:=x.fL) (enc:=AP) So Aa) (wv (CP Aa Aa) (Ap (cz g8 Aa (λbh bi=>?_) (λbh bj=>?_)))))))))
   ·refine A0 (Bb (Al (AH (Ak (wm Aa (vF D4 Aa Sw (vL 2 S6 Aa (wm Aa (ck bi λbk bl=>wv (Bl (enc:=AP) (ys:=x.fL) So Sz Aa Aa bk) (wv (Do W4 Sz Aa Aa Aa) (ob bl λhw bm bn=>EN [0,0,1,1,1] Nb (Zn F hn hl cC cD cE (Au.mk cc (AR.mk cd ce cf cg ch ci) co () cj cl cm cn) (An x.fL cb) hw bm) ?_)))))))))));rintro _ _ ⟨bo,bp,bq,rfl,rfl⟩;refine Aq (AN (Bb (Ak (wm Aa (ck bn λbr bs=>wv (BM Aa Aa br) (wa Aa (Aq (JY [0,0,3] ?_))))))));have bt:=B8 bs cF;exact A9 (AZ (bf,(cb+1,hw.2.fMade,hw.2.fA.fTenant,hw.2.fA.fFunction,hw.2.fA.fOps,hw.2.fA.fPolicy,hw.2.fA.fNet,hw.2.fA.fNow,hw.2.fCalls,hw.2.fEffects,hw.2.fReads,hw.2.fLog,hw.2.fItems),(bo,bp,bq)) ⟨bt,Aew _⟩ (AV.c Aa (AV.c Aa (AV.c Aa (AV.c Aa AV.nil)))) (sC (sC (sC (sC (sC (sC sN)))))))
   refine BE (Ay ?_);have bu:=BW bj cF bc;exact Ay (Bq (AZ ((cc,cd,ce,cf,cg,ch,ci,cj,cl,cm,cn,co),(cC,cD,cE)) bu (AV.c Aa (AV.c Aa (AV.c Aa AV.nil))) (sC (sC (sC (sC (sC (sC sN))))))))
  rintro⟨⟨hP,hQ,hR,hS,hT,hU,hV,hW,hX,hY,hZ,ga⟩,⟨h7,h8,h9⟩⟩ g9;refine Ir ?_;replace g9:GZ F x key hP hQ hR hS hT hU hV hW hX hY hZ ga=some r:=g9;unfold GZ at g9;refine Bo (Bb (Ah (wm Aa (ob g9 λhh bv bw=>EN [0,0,1,1,1] Tryz.call14 (LM F hn hl h7 h8 h9 none (Au.mk hP (AR.mk hQ hR hS hT hU hV) ga () hW hX hY hZ) hh bv) ?_))));rintro _ _ ⟨rfl,rfl⟩;refine wa Aa (Bu (wv (r:=A2 (-1)) (A4 Aa) (Ap (Al (Ah (wa Aa (Ap (AH (ob bw λbx b0 b2=>BG (S:=Nat×(Int×Int)×(Unit)) (V:=(Int)×(Unit)) 2 (λσ=>Cl (λσ=>Hd key hh σ.1 σ.2) σ.1 σ.2.1=some bx) (λσ=>[(1,rS key),(2,rP b1 0),(7,rP hn 0),(10,AK 4 (Az Ax hh)),(11,A2 σ.2.1.1),(12,A2 σ.2.1.2)]) (λσ=>[.blk hn [rB hP,rS hQ,rS hR,AK 1 (Az eS hS),AK 3 (Az Af hT),AK 5 (Az Ao hU),A2 hV,rv (.map (some hl)),CU 40 (rv (.pointer none)),A2 hW,rv h7,rv h8,rv h9] 81,.map hl (Bj Aw ga),.row h7 60 4 (Az Ax hX),.row h8 9 1 (Az eS hY),.row h9 9 1 (Az eS hZ),.blk b1 (Be x) 39]) (λσ=>σ.1) (F,(-1,0),()) b0 (AV.c Aa (AV.c5 Aa Aa Aa Aa Aa AV.nil)) (sC (sC (sC (sC (sC (sC sN)))))) (λσ=>GY F x key hP hQ hR hS hT hU hV hW hX hY hZ ga hh σ.1=some r) (λσ=>[(1,rS key),(2,rP b1 0),(7,rP hn 0),(10,AK 4 (Az Ax hh)),(11,A2 σ.1)]) (λσ=>[.blk hn [rB hP,rS hQ,rS hR,AK 1 (Az eS hS),AK 3 (Az Af hT),AK 5 (Az Ao hU),A2 hV,rv (.map (some hl)),CU 40 (rv (.pointer none)),A2 hW,rv h7,rv h8,rv h9] 81,.map hl (Bj Aw ga),.row h7 60 4 (Az Ax hX),.row h8 9 1 (Az eS hY),.row h9 9 1 (Az eS hZ),.blk b1 (Be x) 39]) ?_ ?_)))))))))
  ·rintro⟨tg,⟨gA,h0⟩,⟨⟩⟩ b3;refine H6 ?_;obtain⟨b4,rfl,cp,gB,cG⟩:=CD b3;replace gB:Hd key hh gA h0=some cp:=gB;unfold Hd at gB;refine Al (Ah (wm Aa (wm Aa (wv (By (ys:=hh) (enc:=Ax) Gz Aa) (wv (CP Aa Aa) (Ap (cz gB Aa (λb5 b6=>?_) (λb5 b9=>?_))))))))
   ·refine A0 (Bb (HP (S:=(Int)×(Unit)) (λσ=>EQ h0 σ.1=some cp) (λσ=>[(1,rS key),(2,rP b1 0),(7,rP hn 0),(10,AK 4 (Az Ax hh)),(11,A2 σ.1),(12,A2 h0)]) (λσ=>[.blk hn [rB hP,rS hQ,rS hR,AK 1 (Az eS hS),AK 3 (Az Af hT),AK 5 (Az Ao hU),A2 hV,rv (.map (some hl)),CU 40 (rv (.pointer none)),A2 hW,rv h7,rv h8,rv h9] 81,.map hl (Bj Aw ga),.row h7 60 4 (Az Ax hX),.row h8 9 1 (Az eS hY),.row h9 9 1 (Az eS hZ),.blk b1 (Be x) 39]) ?_ ?_))
    ·refine AH (ck b6 λcq bA=>AC [(1,rS key),(2,rP b1 0),(7,rP hn 0),(10,AK 4 (Az Ax hh)),(11,A2 gA),(12,A2 h0),(82,rB ((decide (((An hh h0).fKey)=key))&&((decide (((An hh h0).fKind)=1))||(decide (((An hh h0).fKind)=2)))))] [.blk hn [rB hP,rS hQ,rS hR,AK 1 (Az eS hS),AK 3 (Az Af hT),AK 5 (Az Ao hU),A2 hV,rv (.map (some hl)),CU 40 (rv (.pointer none)),A2 hW,rv h7,rv h8,rv h9] 81,.map hl (Bj Aw ga),.row h7 60 4 (Az Ax hX),.row h8 9 1 (Az eS hY),.row h9 9 1 (Az eS hZ),.blk b1 (Be x) 39] ?_ ?_)
     ·refine Ak (wm Aa (wm Aa (wv (Bl (enc:=Ax) (ys:=hh) Gz Dh Aa Aa cq) (wv (AY D0 Aa Dc Aa Aa) (wv (Bc DQ Aa Aa) (wm Aa (wv (C2 Aa Aa) (wm Aa (Bd (decide (((An hh h0).fKey)=key)) (λhj=>?_) (λhj=>?_))))))))))
      ·refine wo hj (wm Aa (wo hj (wm Aa (wo hj (wv (Bl (enc:=Ax) (ys:=hh) Gz Dh Aa Aa cq) (wo hj (wv (AY D0 Aa Jr Aa Aa) (wo hj (wv (Bc Ro Aa Aa) (wo hj (wv (Ce Aa Aa) (wo hj (wm Aa (Bd (decide (((An hh h0).fKind)=1)) (λhs=>?_) (λhs=>?_)))))))))))))))
       ·refine wf hs (wf hs (wf hs (wf hs (wf hs (wf hs (wo hj (wv (r:=rB true) (AF Aa hs Aa) (GG Aa hj Aa (Aq ?_)))))))));exact Cy (And.intro hj hs)
       refine wo hs (wm Aa (wo hs (wm Aa (wo hs (wv (Bl (enc:=Ax) (ys:=hh) Gz Dh Aa Aa cq) (wo hs (wv (AY D0 Aa Jr Aa Aa) (wo hs (wv (Bc Ro Aa Aa) (wo hs (wv (Ce Aa Aa) (wo hj (MY Aa hs Aa (GG Aa hj Aa (Aq ?_)))))))))))))));exact Cy (And.intro hj hs)
      refine wf hj (wf hj (wf hj (wf hj (wf hj (wf hj (wf hj (wu (wu (wu (wu (wu (wu (wf hj (wv (r:=rB false) (A3 Aa hj Aa) (Aq ?_)))))))))))))));exact Cy hj
     refine cz bA Aa (λbB bC=>?_) (λbB bD=>?_)
     ·exact Ak (wm Aa (wa Aa (Aq (AN (A9 (AZ (h0,()) bC (AV.c Aa (AV.c5 Aa Aa Aa Aa Aa AV.nil)) (sC (sC (sC (sC (sC (sC sN))))))))))))
     exact A0 (AN (A9 (AZ (gA,()) bD (AV.c Aa (AV.c5 Aa Aa Aa Aa Aa AV.nil)) (sC (sC (sC (sC (sC (sC sN)))))))))
    rintro⟨cH,⟨⟩⟩ gC;refine H6 ?_;replace gC:EQ h0 cH=some cp:=gC;unfold EQ at gC;refine Ak (wm Aa (ck gC λbE bF=>wv (BM Aa Aa bE) (wa Aa (Aq ?_))));have bG:=B8 bF cG;exact A9 (AZ (b4,(cH,h0+1),()) ⟨bG,Aew _⟩ (AV.c Aa (AV.c5 Aa Aa Aa Aa Aa AV.nil)) (sC (sC (sC (sC (sC (sC sN)))))))
   refine BE (Ay ?_);have bH:=BW b9 cG b2;exact Ay (Bq (AZ (gA,()) bH (AV.c5 Aa Aa Aa Aa Aa AV.nil) (sC (sC (sC (sC (sC (sC sN))))))))
  rintro⟨h1,⟨⟩⟩ gD;refine Ir ?_;replace gD:GY F x key hP hQ hR hS hT hU hV hW hX hY hZ ga hh h1=some r:=gD;unfold GY at gD;refine Bo (Bb (Ah (wm Aa (wm Aa (ob gD λgy bI bJ=>Cp Mb (Df key gy bI) Aa (Bg (ys:=([gy]:List (List Ab))) (enc:=AL) (css:=[[AK 4 (Az Ai gy)]]) (xs:=[.tmp 86]) DO BY Ma Aa Aa Aa ⟨Ek.one Aa (Up.refl _),trivial⟩ Aa BU Aa Aa Aa (λbK=>?_)))))));refine wv (r:=B3 [rS ([103,101,116]:Ae),rv (.slice (some ⟨bK,0,none⟩) 1 1)]) (Cr Aa Aa Aa Aa) (WL.freeze (i:=0) Aa (WL.up (d:=88) (r:=B3 [rS ([103,101,116]:Ae),AK 1 (Az AL ([gy]:List (List Ab)))]) Aa (Up.agg ⟨Up.refl _,Up.fact (i:=0) Aa,trivial⟩) (ob bJ λhd bL bM=>EN [1,1,1,1,1] Nb (Zn F hn hl h7 h8 h9 (Au.mk hP (AR.mk hQ hR hS hT hU hV) ga () hW hX hY hZ) (A7.mk ([103,101,116]:Ae) ([gy]:List (List Ab))) hd bL) ?_)));rintro _ _ ⟨cr,ct,cu,rfl,rfl⟩;refine BO (cs:=[A2 0,rv (.slice none 0 0)]) Qf Aa Aa (λgr=>?_);refine Gx (i:=0) CY Aa Aa Aa (B5.c Aa) Aa Aa ?_;refine Ap (Al (Ah (vF G8 Aa OE (vL 0 Og Aa (wv (CZ Aa Aa) (Ap (cz bM Aa (λbN bO=>?_) (λbN bP=>?_))))))))
  ·refine ck bO λcI bQ=>ck bQ λcJ bR=>ck bR λbS bT=>AC [(4,rB ((decide (hd.1.fErr=(ov (Ch F x.fA (A7.mk ([103,101,116]:Ae) ([(ov (BC key))]:List (List Ab)))))))&&(ov (Bz F))))] [] ?_ ?_
   ·refine Bd (decide (hd.1.fErr=(ov (Ch F x.fA (A7.mk ([103,101,116]:Ae) ([(ov (BC key))]:List (List Ab))))))) (λgi=>?_) (λgi=>?_)
    ·refine CJ [1,2,13] ?_;refine rq (Am G8 Aa OE Aa Aa) (rq (AU (i:=0) Og Aa Aa Aa) (rq (Am D4 Aa DP Aa Aa) (rq (Br (i:=7) L6 DP Aa Aa Aa Aa) (rq (Aj Aa) (Eo (Cg Mb (Df key (ov (BC key)) (CL cI)) Aa) (Eo (CE (ys:=([(ov (BC key))]:List (List Ab))) (enc:=AL) (css:=[[AK 4 (Az Ai (ov (BC key)))]]) (xs:=[.tmp 98]) DO BY Ma Aa Aa Aa ⟨Ek.one Aa (Up.refl _),trivial⟩ Aa BU Aa Aa) (rq (r:=B3 [rS ([103,101,116]:Ae),AK 1 (Az AL ([(ov (BC key))]:List (List Ab)))]) (Cr Aa Aa Aa Aa) (Eo (Cg yk8 (Gh F x.fA (A7.mk ([103,101,116]:Ae) ([(ov (BC key))]:List (List Ab))) (ov (Ch F x.fA (A7.mk ([103,101,116]:Ae) ([(ov (BC key))]:List (List Ab))))) (CL cJ)) Aa) (rq (Ce Aa Aa) (rq (Aj Aa) (ro gi (Cg Mc (CR F (ov (Bz F)) (CL (BX bS gi))) Aa) (rq (AF Aa gi Aa) (rq (A4 Aa) (re [4] ?_))))))))))))));exact Cy gi
    refine CJ [1,2,13] ?_;refine rq (Am G8 Aa OE Aa Aa) (rq (AU (i:=0) Og Aa Aa Aa) (rq (Am D4 Aa DP Aa Aa) (rq (Br (i:=7) L6 DP Aa Aa Aa Aa) (rq (Aj Aa) (Eo (Cg Mb (Df key (ov (BC key)) (CL cI)) Aa) (Eo (CE (ys:=([(ov (BC key))]:List (List Ab))) (enc:=AL) (css:=[[AK 4 (Az Ai (ov (BC key)))]]) (xs:=[.tmp 98]) DO BY Ma Aa Aa Aa ⟨Ek.one Aa (Up.refl _),trivial⟩ Aa BU Aa Aa) (rq (r:=B3 [rS ([103,101,116]:Ae),AK 1 (Az AL ([(ov (BC key))]:List (List Ab)))]) (Cr Aa Aa Aa Aa) (Eo (Cg yk8 (Gh F x.fA (A7.mk ([103,101,116]:Ae) ([(ov (BC key))]:List (List Ab))) (ov (Ch F x.fA (A7.mk ([103,101,116]:Ae) ([(ov (BC key))]:List (List Ab))))) (CL cJ)) Aa) (rq (Ce Aa Aa) (rq (Aj Aa) (rz gi (rq (r:=rB false) (A3 (b:=decide (hd.1.fErr=(ov (Ch F x.fA (A7.mk ([103,101,116]:Ae) ([(ov (BC key))]:List (List Ab))))))) Aa gi Aa) (rq (A4 Aa) (re [4] ?_))))))))))))));exact Cy gi
   refine Ar (Ac ?_);obtain rfl:=Av bT;exact As (BH Ua (AQ Aa)) sN ⟨Aa,Aa⟩
  refine A0 (Bb (Al (ck bP λbU bV=>AC [(1,rS key),(2,rP b1 0),(7,rP hn 0),(10,AK 4 (Az Ax hh)),(11,A2 h1),(13,rP gr 0),(115,rB ((decide (0≤h1))&&(decide (((An hh h1).fKind)=1))))] [.blk gr (BL hd.1) 52,.blk hn [rB hd.2.fMade,rS hd.2.fA.fTenant,rS hd.2.fA.fFunction,AK 1 (Az eS hd.2.fA.fOps),AK 3 (Az Af hd.2.fA.fPolicy),AK 5 (Az Ao hd.2.fA.fNet),A2 hd.2.fA.fNow,rv (.map (some hl)),CU 40 (rv (.pointer none)),A2 hd.2.fCalls,rv cr,rv ct,rv cu] 81,.map hl (Bj Aw hd.2.fItems),.row cr 60 4 (Az Ax hd.2.fEffects),.row ct 9 1 (Az eS hd.2.fReads),.row cu 9 1 (Az eS hd.2.fLog),.blk b1 (Be x) 39] ?_ ?_)))
  ·refine Ak (wm Aa (wv (EL Aa Aa) (wm Aa (Bd (decide (0≤h1)) (λhq=>?_) (λhq=>?_)))))
   ·refine wo hq (wm Aa (wo hq (wm Aa (wo hq (wv (Bl (enc:=Ax) (ys:=hh) Gz Dh Aa Aa (BX bU hq)) (wo hq (wv (AY D0 Aa Jr Aa Aa) (wo hq (wv (Bc Ro Aa Aa) (wo hq (wv (Ce Aa Aa) (GG Aa hq Aa (Aq ?_)))))))))))));exact Cy hq
   refine wf hq (wf hq (wf hq (wf hq (wf hq (wf hq (wv (r:=rB false) (A3 Aa hq Aa) (Aq ?_)))))));exact Cy hq
  refine cz bV Aa (λbW bX=>?_) (λbW bY=>?_)
  ·refine ck bX λcK bZ=>ck bZ λcL ra=>ck ra λrb rc=>AC [(4,rB ((ov (BJ F hd.1.fValue ((An hh h1).fValue)))&&(ov (Bz F))))] [] ?_ ?_
   ·refine Bd ((ov (BJ F hd.1.fValue ((An hh h1).fValue)))) (λgj=>?_) (λgj=>?_)
    ·refine CJ [10,11,13] ?_;refine rq (Am G8 Aa BY Aa Aa) (rq (AU (i:=0) CX Aa Aa Aa) (rq (Aj Aa) (rq (Aj Aa) (rq (Bl (enc:=Ax) (ys:=hh) Gz Dh Aa Aa cK) (rq (AY D0 Aa BY Aa Aa) (rq (Bc CX Aa Aa) (Eo (Cg Lc (DI F hd.1.fValue ((An hh h1).fValue) (ov (BJ F hd.1.fValue ((An hh h1).fValue))) (CL cL)) Aa) (rq (Aj Aa) (ro gj (Cg Mc (CR F (ov (Bz F)) (CL (BX rb gj))) Aa) (rq (AF Aa gj Aa) (rq (A4 Aa) (re [4] ?_))))))))))));exact Cy gj
    refine CJ [10,11,13] ?_;refine rq (Am G8 Aa BY Aa Aa) (rq (AU (i:=0) CX Aa Aa Aa) (rq (Aj Aa) (rq (Aj Aa) (rq (Bl (enc:=Ax) (ys:=hh) Gz Dh Aa Aa cK) (rq (AY D0 Aa BY Aa Aa) (rq (Bc CX Aa Aa) (Eo (Cg Lc (DI F hd.1.fValue ((An hh h1).fValue) (ov (BJ F hd.1.fValue ((An hh h1).fValue))) (CL cL)) Aa) (rq (Aj Aa) (rz gj (rq (r:=rB false) (A3 (b:=(ov (BJ F hd.1.fValue ((An hh h1).fValue)))) Aa gj Aa) (rq (A4 Aa) (re [4] ?_))))))))))));exact Cy gj
   refine Ar (Ac ?_);obtain rfl:=Av rc;exact As (BH Ua (AQ Aa)) sN ⟨Aa,Aa⟩
  refine A0 (Bb (Al (Ah (wm Aa (wv (EL Aa Aa) (Ap (cz bY Aa (λrd rg=>?_) (λrd rh=>?_))))))))
  ·refine ck rg λri rj=>ck rj λrk rl=>AC [(4,rB ((ov (BJ F hd.1.fValue ([(Ab.mk 1 0 ([]:Ae) 0)]:List Ab)))&&(ov (Bz F))))] [] ?_ ?_
   ·refine Ak (vF G8 Aa BY (vL 0 CX Aa (wv (r:=B3 [A2 1,A2 0,rS ([]:Ae),A2 0]) (Hi Aa Aa) (Bg (ys:=([(Ab.mk 1 0 ([]:Ae) 0)]:List Ab)) (enc:=Ai) (css:=[[A2 1,A2 0,rS ([]:Ae),A2 0]]) (xs:=[.tmp 131]) Ef E0 Oe Aa Aa Aa ⟨Ek.agg ⟨Up.refl _,Up.refl _,Up.refl _,Up.refl _,trivial⟩,trivial⟩ Aa C9 Aa Aa Aa (λth=>?_)))));refine WL.freeze (i:=0) Aa (WL.up (d:=132) (r:=AK 4 (Az Ai ([(Ab.mk 1 0 ([]:Ae) 0)]:List Ab))) Aa (Up.fact (i:=0) Aa) (Cp Lc (DI F hd.1.fValue ([(Ab.mk 1 0 ([]:Ae) 0)]:List Ab) (ov (BJ F hd.1.fValue ([(Ab.mk 1 0 ([]:Ae) 0)]:List Ab))) (CL ri)) Aa (wm Aa (Bd ((ov (BJ F hd.1.fValue ([(Ab.mk 1 0 ([]:Ae) 0)]:List Ab)))) (λgl=>?_) (λgl=>?_)))))
    ·refine wo gl (Cp Mc (CR F (ov (Bz F)) (CL (BX rk gl))) Aa (GG Aa gl Aa (wa Aa (Aq ?_))));exact Cy gl
    refine wf gl (wv (r:=rB false) (A3 Aa gl Aa) (wa Aa (Aq ?_)));exact Cy gl
   refine Ar (Ac ?_);obtain rfl:=Av rl;exact As (BH Ua (AQ Aa)) sN ⟨Aa,Aa⟩
  refine A0 (Bb (Al (Ah (wm Aa (ob rh λcM rm rn=>EN [1,1,1,1,1] Tryz.call15 (MI hn hl cr ct cu none (Au.mk hd.2.fMade hd.2.fA hd.2.fItems () hd.2.fCalls hd.2.fEffects hd.2.fReads hd.2.fLog) cM rm) ?_)))));rintro _ _ ⟨rfl,rfl⟩;refine wm Aa (ob rn λrp rr rs=>Cp Tryz.call21 (VX F cM key rp rr) Aa (wv (Cn Aa) (Ap (cz rs Aa (λrt ru=>?_) (λrt rx=>?_)))))
  ·refine Ah (wa Aa (Ap (Ar (Ac ?_))));obtain rfl:=Av ru;exact As (BH Ua (AQ Aa)) (sS (sS (sS (sS (sS (sS (sS sN))))))) ⟨Aa,Aa⟩
  refine A0 (Bb (Al (Ah (wa Aa (Ap (AH (ob rx λry r0 cN=>BG (S:=Nat×(Int)×(Unit)) (V:=(Unit)×(Unit)) 4 (λσ=>Cl (λσ=>Hc F x key hd σ) σ.1 σ.2.1=some ry) (λσ=>[(1,rS key),(2,rP b1 0),(13,rP gr 0),(14,A2 σ.2.1)]) (λσ=>[.blk gr (BL hd.1) 52,.blk b1 (Be x) 39]) (λσ=>σ.1) (F,0,()) r0 (AV.c Aa (AV.c Aa (AV.c Aa (AV.c Aa AV.nil)))) (sS (sS (sS (sS (sS (sC (sC sN))))))) (λσ=>GX F hd =some r) (λσ=>[(13,rP gr 0)]) (λσ=>[.blk gr (BL hd.1) 52]) ?_ ?_)))))))
  ·rintro⟨ti,gb,⟨⟩⟩ r1;refine H6 ?_;obtain⟨r2,rfl,r3,gE,cv⟩:=CD r1;replace gE:Hc F x key hd gb=some r3:=gE;unfold Hc at gE;refine Al (Ah (wm Aa (vF D4 Aa Qg (vL 1 Qi Aa (wv (By (ys:=x.fItems) (enc:=BA) JU Aa) (wv (CP Aa Aa) (Ap (cz gE Aa (λr5 r6=>?_) (λr5 r7=>?_)))))))))
   ·refine A0 (Bb (Al (AH (Ah (vF D4 Aa Qg (vL 1 Qi Aa (wm Aa (ck r6 λcw r8=>wv (Bl (enc:=BA) (ys:=x.fItems) JU JX Aa Aa cw) (wv (AY L4 Aa Dc Aa Aa) (wv (Bc DQ Aa Aa) (wm Aa (wv (C2 Aa Aa) (Ap (cz r8 Aa (λr9 rA=>?_) (λr9 rC=>?_)))))))))))))))
    ·refine ck rA λcO rD=>ck rD λrE rF=>AC [(4,rB ((ov (BJ F hd.1.fValue ((An x.fItems gb).fValue)))&&(ov (Bz F))))] [] ?_ ?_
     ·refine Bd ((ov (BJ F hd.1.fValue ((An x.fItems gb).fValue)))) (λgm=>?_) (λgm=>?_)
      ·refine CJ [2,13,14] ?_;refine rq (Am G8 Aa BY Aa Aa) (rq (AU (i:=0) CX Aa Aa Aa) (rq (Am D4 Aa Qg Aa Aa) (rq (AU (i:=1) Qi Aa Aa Aa) (rq (Aj Aa) (rq (Bl (enc:=BA) (ys:=x.fItems) JU JX Aa Aa cw) (rq (AY L4 Aa BY Aa Aa) (rq (Bc CX Aa Aa) (Eo (Cg Lc (DI F hd.1.fValue ((An x.fItems gb).fValue) (ov (BJ F hd.1.fValue ((An x.fItems gb).fValue))) (CL cO)) Aa) (rq (Aj Aa) (ro gm (Cg Mc (CR F (ov (Bz F)) (CL (BX rE gm))) Aa) (rq (AF Aa gm Aa) (rq (A4 Aa) (re [4] ?_)))))))))))));exact Cy gm
      refine CJ [2,13,14] ?_;refine rq (Am G8 Aa BY Aa Aa) (rq (AU (i:=0) CX Aa Aa Aa) (rq (Am D4 Aa Qg Aa Aa) (rq (AU (i:=1) Qi Aa Aa Aa) (rq (Aj Aa) (rq (Bl (enc:=BA) (ys:=x.fItems) JU JX Aa Aa cw) (rq (AY L4 Aa BY Aa Aa) (rq (Bc CX Aa Aa) (Eo (Cg Lc (DI F hd.1.fValue ((An x.fItems gb).fValue) (ov (BJ F hd.1.fValue ((An x.fItems gb).fValue))) (CL cO)) Aa) (rq (Aj Aa) (rz gm (rq (r:=rB false) (A3 (b:=(ov (BJ F hd.1.fValue ((An x.fItems gb).fValue)))) Aa gm Aa) (rq (A4 Aa) (re [4] ?_)))))))))))));exact Cy gm
     refine Ar (A8 (Ac (Ac (B7 ?_))));have rG:=Ca rF cv cN;refine A8 (Ac ?_);obtain rfl:=Av rG;exact As (BH Ua (AQ Aa)) sN ⟨Aa,Aa⟩
    refine A0 (AN (Bb (Ak (wm Aa (ck rC λrH rI=>wv (BM Aa Aa rH) (wa Aa (Aq ?_)))))));have rJ:=B8 rI cv;exact A9 (AZ (r2,gb+1,()) ⟨rJ,Aew _⟩ (AV.c Aa (AV.c Aa (AV.c Aa (AV.c Aa AV.nil)))) (sC (sC sN)))
   refine BE (Ay ?_);have rK:=BW r7 cv cN;exact Ay (Bq (AZ ((),()) rK (AV.c Aa AV.nil) (sC (sS sN))))
  rintro⟨⟨⟩,⟨⟩⟩ gF;refine Ir ?_;replace gF:GX F hd =some r:=gF;unfold GX at gF;refine Bo (Bb (ck gF λrL rM=>ck rM λrN rO=>AC [(4,rB ((ov (BJ F hd.1.fValue ([(Ab.mk 1 0 ([]:Ae) 0)]:List Ab)))&&(ov (Bz F))))] [] ?_ ?_))
  ·refine Ak (vF G8 Aa BY (vL 0 CX Aa (wv (r:=B3 [A2 1,A2 0,rS ([]:Ae),A2 0]) (Hi Aa Aa) (Bg (ys:=([(Ab.mk 1 0 ([]:Ae) 0)]:List Ab)) (enc:=Ai) (css:=[[A2 1,A2 0,rS ([]:Ae),A2 0]]) (xs:=[.tmp 171]) Ef E0 Oe Aa Aa Aa ⟨Ek.agg ⟨Up.refl _,Up.refl _,Up.refl _,Up.refl _,trivial⟩,trivial⟩ Aa C9 Aa Aa Aa (λtj=>?_)))));refine WL.freeze (i:=0) Aa (WL.up (d:=172) (r:=AK 4 (Az Ai ([(Ab.mk 1 0 ([]:Ae) 0)]:List Ab))) Aa (Up.fact (i:=0) Aa) (Cp Lc (DI F hd.1.fValue ([(Ab.mk 1 0 ([]:Ae) 0)]:List Ab) (ov (BJ F hd.1.fValue ([(Ab.mk 1 0 ([]:Ae) 0)]:List Ab))) (CL rL)) Aa (wm Aa (Bd ((ov (BJ F hd.1.fValue ([(Ab.mk 1 0 ([]:Ae) 0)]:List Ab)))) (λgp=>?_) (λgp=>?_)))))
   ·refine wo gp (Cp Mc (CR F (ov (Bz F)) (CL (BX rN gp))) Aa (GG Aa gp Aa (wa Aa (Aq ?_))));exact Cy gp
   refine wf gp (wv (r:=rB false) (A3 Aa gp Aa) (wa Aa (Aq ?_)));exact Cy gp
  refine Ar ?_;obtain rfl:=Av rO;exact As (BH Ua (AQ Aa)) sN ⟨Aa,Aa⟩
 refine ob vR λgG rQ rR=>Cp W1 (RS F none x.fA x.fItems gG rQ) Aa (wm Aa (wv (A5 Aa Aa) (wv (A5 Aa Aa) (wa Aa (wa Aa (Ap (Al (AC [(1,rS key),(2,rP b1 0),(7,rv (.pointer none)),(36,rB ((!decide (gG.2=0))||(decide (30<(x.fL.length:Int)))))] [.blk b1 (Be x) 39] ?_ ?_))))))))
 ·refine Ak (wm Aa (wv (CZ Aa Aa) (wm Aa (Bd (!decide (gG.2=0)) (λhx=>?_) (λhx=>?_)))))
  ·refine wf hx (wf hx (wf hx (wf hx (wv (r:=rB true) (AF Aa hx Aa) (Aq ?_)))));exact Cy hx
  refine wo hx (vF D4 Aa Sw (wo hx (vL 0 S6 Aa (wo hx (wv (By (ys:=x.fL) (enc:=AP) So Aa) (wo hx (wv (Gy Aa Aa) (MY Aa hx Aa (Aq ?_)))))))));exact Cy hx
 refine ck rR λrT rU=>CG (b:=((!decide (gG.2=0))||(decide (30<(x.fL.length:Int))))) Aa rT (Ah (ob rU λrV rW rX=>Cp Mc (CR F rV rW) Aa (wa Aa (Ap (Ar (Ac ?_))))));obtain rfl:=Av rX;exact As (BH Ua (AQ Aa)) (sS sN) ⟨Aa,Aa⟩
end Go.Proofs.YtmjlemhondjfhaaGreatDoor.Q
namespace Go.Proofs.YtmjlemhondjfhaaGreatDoor.lawHostReadsOwn
open Go
set_option linter.unusedVariables false
def VB (y:Ad):Bool:=(λ_=>true) y.fAllow&&(λys:(List Ae)=>ys.all G9&&decide (ys.length≤1048576)) y.fActions&&(λys:(List Ae)=>ys.all G9&&decide (ys.length≤1048576)) y.fResources
def V9 (y:AG):Bool:=(λ_=>true) y.fAllow&&(Cb .i64) y.fAddr&&(Cb .i64) y.fBits&&(Cb .i64) y.fLow&&(Cb .i64) y.fHigh
def AbQ (y:AR):Bool:=G9 y.fTenant&&G9 y.fFunction&&(λys:(List Ae)=>ys.all G9&&decide (ys.length≤1048576)) y.fOps&&(λys:(List Ad)=>ys.all VB&&decide (ys.length≤1048576)) y.fPolicy&&(λys:(List AG)=>ys.all V9&&decide (ys.length≤1048576)) y.fNet&&(Cb .i64) y.fNow
def Xe (y:Ab):Bool:=(Cb .i64) y.fKind&&(Cb .i64) y.fInt&&G9 y.fStr&&(Cb .i64) y.fN
def Aaw (y:Bt):Bool:=G9 y.fKey&&(λys:(List Ab)=>ys.all Xe&&decide (ys.length≤1048576)) y.fValue&&(Cb .i64) y.fVersion
def VA (y:Ci):Bool:=G9 y.fName&&G9 y.fText&&G9 y.fFunction
def Aax (y:A7):Bool:=G9 y.fOp&&(λys:(List (List Ab))=>ys.all (λys:(List Ab)=>ys.all Xe&&decide (ys.length≤1048576))&&decide (ys.length≤1048576)) y.fArgs
def AbP (y:Bv):Bool:=AbQ y.fA&&(λys:(List Bt)=>ys.all Aaw&&decide (ys.length≤1048576)) y.fItems&&(λys:(List Ci)=>ys.all VA&&decide (ys.length≤1048576)) y.fSecrets&&(λ_=>true) y.fNone&&(λys:(List A7)=>ys.all Aax&&decide (ys.length≤1048576)) y.fL
def Law:Prop:=∀(y0:Bv) (y1:Ae) (o0:AbP y0=true) (o1:G9 y1=true),∃F,If F y0 y1=some true
end Go.Proofs.YtmjlemhondjfhaaGreatDoor.lawHostReadsOwn
namespace Go.Proofs.YtmjlemhondjfhaaGreatDoor
open Go
set_option linter.unusedVariables false
set_option linter.unusedSimpArgs false
def ZI (c:UInt8):Bool:=decide (32≤c.toNat)&&decide (c.toNat≤126)
theorem O8 {s:Ae}{x:Int}{c:UInt8}(h:s[x.toNat]? =some c):Cw s x=(c.toNat:Int):=by simp[Cw,h]
theorem Qk {α:Type}{p:α→Bool}{s:List α}{k:Nat}{c:α}(h:s[k]? =some c):(s.take (k+1)).all p=((s.take k).all p&&p c):=by
 rw[List.take_add_one,h];simp
theorem Sc {α:Type}{p:α→Bool}{s:List α}{k:Nat}{c:α}(h:s[k]? =some c)(hp:p c=false):s.all p=false:=by
 rw[List.all_eq_false];exact⟨c,Ae4 h,by simp[hp]⟩
theorem S9 {F:Nat}{s:Ae}(hF:s.length<F)(hs:s.length≤9223372036854775807):Mj F s=some (s.all ZI):=by
 obtain⟨o,h1,h2⟩:=HB (body:=λσ=>IU s σ) (λx=>0≤x∧x≤(s.length:Int)∧(s.take x.toNat).all ZI=true) (λx=>s.length-x.toNat)
  (λo=>Co (λ_=>IT) o=some (s.all ZI)) (λx ⟨h0,hl,ha⟩=>by
   unfold IU
   by_cases hx:x<(s.length:Int)
   ·obtain⟨c,hc⟩:∃c,s[x.toNat]? =some c:=⟨s[x.toNat]'(by omega),Aep (by omega)⟩
    rw[Bx (by simpa using hx),Bi h0 hx,O8 hc]
    cases ho:ZI c with
    | false=>
     refine .inr ⟨.ret false,?_,?_⟩
     ·rw[Bx];simp only[ZI,Bool.and_eq_false_iff,Aei] at ho;simp only[AeH,Aeh];omega
     ·simp[Co,Sc hc ho]
    | true=>
     refine .inl ⟨x+1,?_,⟨by omega,by omega,?_⟩,by omega⟩
     ·rw[Bp,Bn (by omega) (by omega)];simp only[ZI,Ael,Aeh] at ho;simp only[AeN,Aei];omega
     ·rw[show(x+1).toNat=x.toNat+1 from by omega,Qk hc,ha,ho];rfl
   ·refine .inr ⟨.go (),by rw[Bp (by simpa using hx)],?_⟩;rw[show x.toNat=s.length from by omega,List.take_length] at ha;simp[Co,IT,ha]) F 0 ⟨by omega,by omega,by simp⟩ (by simpa using hF)
 unfold Mj;rw[CH h1,h2]
theorem R2 (F:Nat)(s:Ae):R3 F s=Mj F s:=rfl
theorem WX {F:Nat}{s:Ae}(hF:s.length<F)(hs:s.length≤9223372036854775807):R3 F s=some (s.all ZI):=by rw[R2];exact S9 hF hs
def pl (c:Ab):Bool:=
 bif decide (c.fKind=1) then(decide (c.fInt=0)&&(decide (c.fStr=[])&&decide (c.fN=0))) else
 bif decide (c.fKind=2) then((decide (c.fInt=0)||decide (c.fInt=1))&&(decide (c.fStr=[])&&decide (c.fN=0))) else
 bif decide (c.fKind=3) then(decide (c.fStr=[])&&decide (c.fN=0)) else
 bif decide (c.fKind=4) then(decide (c.fInt=0)&&(decide (c.fN=0)&&c.fStr.all ZI)) else
 bif decide (c.fKind=5) then(decide (c.fInt=0)&&(decide (c.fStr=[])&&decide (0≤c.fN))) else
 bif decide (c.fKind=6) then(decide (c.fInt=0)&&(decide (c.fStr=[])&&decide (0≤c.fN))) else false
theorem EU {α:Type}{p:Bool}{x y:Option α}{a b:α}(h:x=some a)(h':y=some b):BB p x y=some (bif p then a else b):=by cases p<;>simp[BB,h,h']
theorem WA {F:Nat}{c:Ab}(hF:c.fStr.length<F)(hs:c.fStr.length≤9223372036854775807):OP F c=some (pl c):=by
 unfold OP pl;rw[S9 hF hs];refine EU rfl (EU ?_ (EU rfl (EU ?_ (EU rfl (EU rfl rfl)))))
 ·cases h:decide (c.fInt=0)<;>simp
 ·simp[imp,Bk,ov]
def Oc:List AM→List AM
 | []=>[]
 | e::S=>bif decide (1<e.fLeft) then⟨e.fPairs,e.fLeft-1,e.fPairs,e.fLast,e.fStarted⟩::S else Oc S
theorem O9 {α:Type}[Inhabited α](xs:List α)(e:α):An (xs++[e]) (xs.length:Int)=e:=by simp[An]
theorem Mv {α:Type}(xs:List α)(e e':α):List.set (xs++[e]) (Int.toNat (xs.length:Int)) e'=xs++[e']:=by simp
theorem ME {α:Type}(xs:List α)(e:α):((xs++[e]).length:Int)-1=(xs.length:Int):=by simp
theorem WH {α:Type}(xs:List α)(e:α):List.take (Int.toNat (xs.length:Int)) (xs++[e])=xs:=by simp
theorem NN:∀(S:List AM) (F:Nat),S.length<F→(∀e∈S,1≤e.fLeft∧e.fLeft≤9223372036854775807)→S.length≤4611686018427387904→
  ∃o,Cl (λσ=>E3 σ) F S.reverse=some o∧Co (λν=>Gc ν) o=some (Oc S).reverse
 | [],F+1,_,_,_=>⟨.go [],by simp[Cl,E3,BB],by simp[Co,Gc,Oc]⟩
 | e::S,F+1,hF,hb,hl=>by
  obtain⟨h1,h2⟩:=hb e (by simp);simp only[Ae0] at hF hl;have hx:S.reverse.length=S.length:=by simp
  generalize hxs:S.reverse=xs at hx;have hr:(e::S).reverse=xs++[e]:=by simp[hxs]
  rw[hr];have hb1:E3 (xs++[e])=bif decide (1<e.fLeft) then some (.out (.ret (xs++[⟨e.fPairs,e.fLeft-1,e.fPairs,e.fLast,e.fStarted⟩]))) else some (.next xs):=by
   unfold E3;rw[Bx (by simp)];simp only[ME,O9,Mv,JT];rw[Bn (by omega) (by omega),Bi (by omega) (by simp;omega),Bn (by omega) (by omega)]
   cases hd:decide (1<e.fLeft) with
   | true=>
    rw[Bx (by simp at hd ⊢;omega)];rfl
   | false=>
    rw[Bp (by simp at hd ⊢;omega),Bn (by omega) (by omega),DC (by omega) (by simp;omega),WH];rfl
  rw[Cl,hb1]
  cases hd:decide (1<e.fLeft) with
  | true=>exact⟨_,rfl,by simp[Co,Gc,Oc,hd,hxs]⟩
  | false=>
   obtain⟨o,ho1,ho2⟩:=NN S F (by omega) (λe he=>hb e (by simp[he])) (by omega);rw[hxs] at ho1;exact⟨o,ho1,by rw[ho2];simp[Oc,hd]⟩
theorem OS {S:List AM}{F:Nat}(hF:S.length<F)(hb:∀e∈S,1≤e.fLeft∧e.fLeft≤9223372036854775807)(hl:S.length≤4611686018427387904):Mm F S.reverse=some (Oc S).reverse:=by
 obtain⟨o,h1,h2⟩:=NN S F hF hb hl;unfold Mm;rw[CH h1,h2]
def Nl (s:Ae):Int:=s.length+2+s.count 34+s.count 92
theorem ON {s:Ae}(hs:s.length≤1152921504606846976):KE s=some (Nl s):=by
 have h1:s.count 34≤s.length:=List.count_le_length;have h2:s.count 92≤s.length:=List.count_le_length;unfold KE Lib.countByte;rw[Bn (by omega) (by omega),Bn (by omega) (by omega),Bn (by omega) (by omega)];rfl
def szc (c:Ab):Int:=
 bif decide (c.fKind=1) then 4 else bif decide (c.fKind=2) then IntKind.wrap .i64 (5-c.fInt) else bif decide (c.fKind=3) then((Lib.itoa c.fInt).length:Int) else
 bif decide (c.fKind=4) then Nl c.fStr else IntKind.wrap .i64 (2+max 0 (IntKind.wrap .i64 (c.fN-1)))
theorem SA {c:Ab}(hs:c.fStr.length≤1152921504606846976)(hi:Cb .i64 c.fInt=true):SB c=some (szc c):=by
 unfold SB szc;rw[ON hs];refine EU rfl (EU rfl (EU ?_ (EU rfl rfl)));rw[C0 hi]
def JN (d:Nat)(sh:Ba)(c:Ab):Ba:=
 ⟨max sh.fDepth ((d:Int)+1),IntKind.wrap .i64 (sh.fBytes+szc c),sh.fOutside||(decide (c.fKind=3)&&!(decide ((-1000000000000)≤c.fInt)&&decide (c.fInt≤1000000000000))),sh.fLong||decide (200<(c.fStr.length:Int))⟩
def shk (sh:Ba)(c:Ab):Ba:=⟨sh.fDepth,IntKind.wrap .i64 (sh.fBytes+(Nl c.fStr+1)),sh.fOutside,sh.fLong||decide (200<(c.fStr.length:Int))⟩
def Ny:List AM→Bool
 | []=>false
 | e::_=>e.fKey
abbrev Sk:=List AM×Int×Ba
abbrev LkO:=Out (Int×Ba×Bool) Ba
def Uc (n:Int)(S:List AM)(i:Int)(sh:Ba)(c:Ab):Stp Sk LkO:=
 bif !pl c then .out (.ret (0,sh,false)) else
 match S with
 | e::S'=>
  bif e.fKey then
   bif !decide (c.fKind=4)||(e.fStarted&&(Cz c.fStr e.fLast||decide (c.fStr=e.fLast))) then .out (.ret (0,sh,false))
   else .next ((⟨e.fPairs,e.fLeft,false,c.fStr,true⟩::S').reverse,i+1,shk sh c)
  else bif decide (0<c.fN) then
   bif decide (n<c.fN) then .out (.ret (0,JN S.length sh c,false))
   else .next ((⟨decide (c.fKind=6),c.fN,decide (c.fKind=6),[],false⟩::S).reverse,i+1,JN S.length sh c)
  else bif decide (Oc S=[]) then .out (.ret (i+1,JN S.length sh c,true)) else .next ((Oc S).reverse,i+1,JN S.length sh c)
 | []=>
  bif decide (0<c.fN) then
   bif decide (n<c.fN) then .out (.ret (0,JN 0 sh c,false))
   else .next ([⟨decide (c.fKind=6),c.fN,decide (c.fKind=6),[],false⟩],i+1,JN 0 sh c)
  else .out (.ret (i+1,JN 0 sh c,true))
theorem PQ {S:List AM}:decide (((Oc S).reverse.length:Int)=0)=decide (Oc S=[]):=by
 rw[AeP];simp
theorem Adf {α:Type}{xs:List α}{e x:α}{M:Nat}(h:xs.length+1≤M)(hM2:(M+2)*48≤140737488355328):D2 48 ((xs++[e]).length+([x]:List α).length)=true:=by
 refine Aek (Nat.le_trans (Nat.mul_le_mul_right 48 ?_) hM2);rw[Aes,AeA,AeA];omega
set_option maxHeartbeats 600000 in
theorem SD {F:Nat}{v:List Ab}{S:List AM}{i:Int}{sh:Ba}{c:Ab}(h0:0≤i)(hc:v[i.toNat]? =some c){M:Nat}(hM:M≤1152921504606846976)(hM2:(M+2)*48≤140737488355328)(hv:v.length≤M)(hS:S.length≤M)(hF:M<F)
  (hs:c.fStr.length≤M) (hi:Cb .i64 c.fInt=true) (hb:∀e∈S,1≤e.fLeft∧e.fLeft≤9223372036854775807):E2 F v S.reverse i sh=some (Uc v.length S i sh c):=by
 have hil:i.toNat<v.length:=(List.getElem?_eq_some_iff.1 hc).1;have hat:An v i=c:=by simp[An,hc]
 unfold E2 Uc;rw[Bx (by simp;omega),Bi h0 (by omega),hat,WA (by omega) (by omega),CH rfl]
 cases hp:pl c with
 | false=>rw[Bx (by simp)];rfl
 | true=>
  rw[Bp (by simp)]
  cases S with
  | nil=>
   rw[C0 (by simp[imp]),C0 (by simp[imp]),Bp (by simp),Bn (by simp) (by simp),SA (by omega) hi,CH rfl,C0 (by simp[imp,Cv])];simp only[Cv,ov,AeE,Aeo,Aem]
   cases hn:decide (0<c.fN) with
   | true=>
    rw[Bx rfl]
    cases hm:decide ((v.length:Int)<c.fN) with
    | true=>rw[Bx rfl];simp[JN]
    | false=>rw[Bp rfl,C0 (by simp[D2])];unfold EO;rw[Bn (by omega) (by omega)];simp[JN]
   | false=>
    rw[Bp rfl,CH (OS (S:=[]) (by simp;omega) (by simp) (by simp)),Bx (by simp[Oc]),Bn (by omega) (by omega)];simp[JN]
  | cons e S'=>
   have hx:S'.reverse.length=S'.length:=by simp
   generalize hxs:S'.reverse=xs at hx;have hr:(e::S').reverse=xs++[e]:=by simp[hxs]
   simp only[Ae0] at hS;have hlen:((xs++[e]).length:Int)=(xs.length:Int)+1:=by simp
   rw[hr,C0 (by simp only[imp,ME];rw[Ji (by omega) (by omega)];simp),C0 (by simp only[imp,ME];rw[On (by omega) (by omega)];simp)];rw[ME,O9]
   cases hk:e.fKey with
   | true=>
    rw[Bx (by simp),Bn (by omega) (by omega),Bi (by omega) (by omega)];simp only[hk,Aeo,Aem,Aeq]
    cases ht : !decide (c.fKind=4)||(e.fStarted&&(Cz c.fStr e.fLast||decide (c.fStr=e.fLast))) with
    | true=>rw[Bx rfl];rfl
    | false=>
     rw[Bp rfl,Mv,JT,O9,Mv,JT,O9,Mv,JT,ON (by omega),CH rfl,Bn (by unfold Nl;omega) (by unfold Nl;have:=@List.count_le_length UInt8 _ 34 c.fStr;have:=@List.count_le_length UInt8 _ 92 c.fStr;omega)];unfold EO;rw[Bn (by omega) (by omega)];simp[shk,hxs]
   | false=>
    rw[Bp (by simp),hlen,Bn (by omega) (by omega),SA (by omega) hi,CH rfl,C0 (by simp[imp,Cv])];simp only[hk,Cv,ov,AeE,Aeo,Aem,Aeq]
    cases hn:decide (0<c.fN) with
    | true=>
     rw[Bx rfl]
     cases hm:decide ((v.length:Int)<c.fN) with
     | true=>rw[Bx rfl];simp[JN,hx]
     | false=>rw[Bp rfl,C0 (Adf (by omega) hM2)];unfold EO;rw[Bn (by omega) (by omega)];simp[JN,hx,hxs]
    | false=>
     have hcl:=OS (S:=e::S') (F:=F) (by simp;omega) hb (by simp;omega);rw[hr] at hcl;rw[Bp rfl,hcl,CH rfl,PQ]
     cases hq:decide (Oc (e::S')=[]) with
     | true=>rw[Bx rfl,Bn (by omega) (by omega)];simp[JN,hx]
     | false=>rw[Bp rfl];unfold EO;rw[Bn (by omega) (by omega)];simp[JN,hx]
section
variable {S O : Type} {body : S → Option (Stp S O)} {s t u : S} {o : O}
def EW (body:S→Option (Stp S O))(s t:S):Prop:=∃k,∀n,Cl body (n+k) s=Cl body n t
def Fin (body:S→Option (Stp S O))(s:S)(o:O):Prop:=∃k,∀n,Cl body (n+k) s=some o
theorem EW.refl (s:S):EW body s s:=⟨0,λ_=>rfl⟩
theorem EW.trans (h:EW body s t)(h':EW body t u):EW body s u:=by
 obtain⟨k,hk⟩:=h;obtain⟨j,hj⟩:=h';exact⟨j+k,λn=>by rw[← Nat.add_assoc,hk,hj]⟩
theorem EW.step (h:body s=some (.next t)):EW body s t:=⟨1,λn=>by rw[Cl,h]⟩
theorem Fin.step (h:body s=some (.out o)):Fin body s o:=⟨1,λn=>by rw[Cl,h]⟩
theorem EW.fin (h:EW body s t)(h':Fin body t o):Fin body s o:=by
 obtain⟨k,hk⟩:=h;obtain⟨j,hj⟩:=h';exact⟨j+k,λn=>by rw[← Nat.add_assoc,hk,hj]⟩
end
inductive Fo where
 | nil
 | cell (k:Option Ae) (c:Ab) (r:Fo)
 | node (k:Option Ae) (c:Ab) (kids r:Fo)
def CB:Option Ae→List Ab
 | none=>[]
 | some s=>[⟨4,0,s,0⟩]
def Fo.flat:Fo→List Ab
 | .nil=>[]
 | .cell k c r=>CB k++c::r.flat
 | .node k c kids r=>CB k++c::(kids.flat++r.flat)
def Fo.cnt:Fo→Nat
 | .nil=>0
 | .cell _ _ r=>r.cnt+1
 | .node _ _ _ r=>r.cnt+1
def Dw (m:Bool)(last:Option Ae):Option Ae→Bool
 | none=>!m
 | some s=>m&&s.all ZI&&(match last with
  | none=>true
  | some p=>!(Cz s p||decide (s=p)))
def Fo.wf:Bool→Option Ae→Fo→Bool
 | _,_,.nil=>true
 | m,last,.cell k c r=>Dw m last k&&pl c&&!decide (0<c.fN)&&r.wf m k
 | m,last,.node k c kids r=>Dw m last k&&pl c&&decide (0<c.fN)&&decide (c.fN=kids.cnt)&&kids.wf (decide (c.fKind=6)) none&&r.wf m k
def NP (k:Option Ae)(sh:Ba):Ba:=match k with
 | none=>sh
 | some s=>shk sh ⟨4,0,s,0⟩
def Fo.sh (d:Nat):Ba→Fo→Ba
 | s,.nil=>s
 | s,.cell k c r=>r.sh d (JN d (NP k s) c)
 | s,.node k c kids r=>r.sh d (kids.sh (d+1) (JN d (NP k s) c))
def IM (body:Sk→Option (Stp Sk LkO))(s:Sk)(S:List AM)(i:Int)(sh:Ba):Prop:=
 if Oc S=[] then Fin body s (.ret (i,sh,true)) else EW body s ((Oc S).reverse,i,sh)
theorem IM.of {body:Sk→Option (Stp Sk LkO)}{s t:Sk}{S:List AM}{i:Int}{sh:Ba}(h:EW body s t)(h':IM body t S i sh):IM body s S i sh:=by
 unfold IM at *
 split
 ·rename_i e;rw[AeW e] at h';exact h.fin h'
 ·rename_i e;rw[AeR e] at h';exact h.trans h'
theorem IM.pop {body:Sk→Option (Stp Sk LkO)}{s:Sk}{e:AM}{S:List AM}{i:Int}{sh:Ba}(h:IM body s (e::S) i sh)(h1:e.fLeft=1):IM body s S i sh:=by
 have:Oc (e::S)=Oc S:=by simp[Oc,h1]
 unfold IM at *;rw[this] at h;exact h
theorem IM.more {body:Sk→Option (Stp Sk LkO)}{s:Sk}{e:AM}{S:List AM}{i:Int}{sh:Ba}(h:IM body s (e::S) i sh)(h1:1<e.fLeft):EW body s ((⟨e.fPairs,e.fLeft-1,e.fPairs,e.fLast,e.fStarted⟩::S).reverse,i,sh):=by
 have:Oc (e::S)=⟨e.fPairs,e.fLeft-1,e.fPairs,e.fLast,e.fStarted⟩::S:=by simp[Oc,h1]
 unfold IM at *;rw[this,AeR (by simp)] at h;exact h
structure Wr (F M:Nat) (v:List Ab):Prop where
 hM:M≤1152921504606846976
 hM2:(M+2)*48≤140737488355328
 hv:v.length≤M
 hF:M<F
 hc:∀c∈v,c.fStr.length≤M∧Cb .i64 c.fInt=true∧c.fN≤9223372036854775807
abbrev Tv (F:Nat)(v:List Ab):Sk→Option (Stp Sk LkO):=λσ=>E2 F v σ.1 σ.2.1 σ.2.2
def EA (S:List AM):Prop:=∀e∈S,1≤e.fLeft∧e.fLeft≤9223372036854775807
section
variable {F M : Nat} {v : List Ab} {S : List AM} {i : Int} {sh : Ba} {c : Ab} {r : List Ab} {e : AM}
theorem G6 (h0:0≤i)(h:v.drop i.toNat=c::r):v[i.toNat]? =some c∧v.drop (i+1).toNat=r∧i<v.length:=by
 have h1:(v.drop i.toNat)[0]? =some c:=by rw[h];rfl
 have h2:v[i.toNat]? =some c:=by simpa using h1
 have h3:=(List.getElem?_eq_some_iff.1 h2).1;refine⟨h2,?_,by omega⟩;rw[show(i+1).toNat=i.toNat+1 from by omega,← List.drop_drop,h];rfl
theorem round (hA:Wr F M v)(h0:0≤i)(h:v.drop i.toNat=c::r)(hS:(S.length:Int)≤i)(hb:EA S):Tv F v (S.reverse,i,sh)=some (Uc v.length S i sh c):=by
 obtain⟨h1,_,h3⟩:=G6 h0 h;obtain⟨a,b,_⟩:=hA.hc c (Ae4 h1);have:=hA.hv;exact SD h0 h1 hA.hM hA.hM2 hA.hv (by omega) hA.hF a b hb
def H0 (e:AM):Option Ae→AM
 | none=>e
 | some s=>⟨e.fPairs,e.fLeft,false,s,true⟩
def Kl (e:AM):Option Ae→Prop
 | none=>e.fStarted=false
 | some p=>e.fStarted=true∧e.fLast=p
theorem P8 (hA:Wr F M v)(h0:0≤i){k last:Option Ae}(h:v.drop i.toNat=CB k++r)(hS:(S.length:Int)+1≤i)(hb:EA (e::S))(hk:Dw e.fKey last k=true)(hl:Kl e last) :
  EW (Tv F v) ((e::S).reverse,i,sh) ((H0 e k::S).reverse,i+(CB k).length,NP k sh):=by
 cases k with
 | none=>simpa[H0,CB,NP] using EW.refl _
 | some s=>
  simp only[Dw,Ael] at hk;obtain⟨⟨hm,hok⟩,hcmp⟩:=hk;refine EW.step ?_;rw[round hA h0 (by simpa[CB] using h) (by simpa using hS) hb];have hp:pl ⟨4,0,s,0⟩=true:=by simp[pl,hok]
  have ht:(e.fStarted&&(Cz s e.fLast||decide (s=e.fLast)))=false:=by
   cases last with
   | none=>simp only[Kl] at hl;rw[hl];rfl
   | some p=>obtain⟨h1,h2⟩:=hl;rw[h1,h2];simpa using hcmp
  simp only[Uc,hp,hm,ht,Aeo,Aem,Aeq,decide_true,Ae3,Bool.or_self];rfl
theorem Nx {k last:Option Ae}(hk:Dw e.fKey last k=true):(H0 e k).fKey=false:=by
 cases k with
 | none=>simpa[H0,Dw] using hk
 | some s=>rfl
theorem LJ (k:Option Ae):(H0 e k).fLeft=e.fLeft∧(H0 e k).fPairs=e.fPairs:=by cases k<;>exact⟨rfl,rfl⟩
theorem Nw (hA:Wr F M v)(h0:0≤i)(h:v.drop i.toNat=c::r)(hS:(S.length:Int)≤i)(hb:EA S)(hk:Ny S=false)(hp:pl c=true)(hn:decide (0<c.fN)=false) :
  IM (Tv F v) (S.reverse,i,sh) S (i+1) (JN S.length sh c):=by
 have hr:=round (sh:=sh) hA h0 h hS hb;unfold IM
 cases S with
 | nil=>
  rw[AeW (by simp[Oc])];refine Fin.step ?_;rw[hr];simp[Uc,hp,hn]
 | cons e S=>
  simp only[Ny] at hk
  split
  ·rename_i hc
   refine Fin.step ?_;rw[hr];simp[Uc,hp,hn,hk,hc]
  ·rename_i hc
   refine EW.step ?_;rw[hr];simp[Uc,hp,hn,hk,hc]
theorem KK (hA:Wr F M v)(h0:0≤i)(h:v.drop i.toNat=c::r)(hS:(S.length:Int)≤i)(hb:EA S)(hk:Ny S=false)(hp:pl c=true)(hn:decide (0<c.fN)=true)(hv:c.fN≤v.length) :
  EW (Tv F v) (S.reverse,i,sh) ((⟨decide (c.fKind=6),c.fN,decide (c.fKind=6),[],false⟩::S).reverse,i+1,JN S.length sh c):=by
 have hr:=round (sh:=sh) hA h0 h hS hb;have hv':decide ((v.length:Int)<c.fN)=false:=by simpa using hv
 refine EW.step ?_;rw[hr]
 cases S with
 | nil=>simp only[Uc,hp,hn,hv',Aeo,Aem,Aeq];rfl
 | cons e S=>
  simp only[Ny] at hk;simp only[Uc,hp,hn,hv',hk,Aeo,Aem,Aeq]
theorem DB:∀f:Fo,f.cnt≤f.flat.length
 | .nil=>Ae9 _
 | .cell k c r=>by have:=DB r;simp[Fo.cnt,Fo.flat];omega
 | .node k c kids r=>by have:=DB r;simp[Fo.cnt,Fo.flat];omega
theorem Ei {α:Type}{v xs r:List α}{i:Int}(h0:0≤i)(h:v.drop i.toNat=xs++r):v.drop (i+xs.length).toNat=r:=by
 rw[show(i+(xs.length:Int)).toNat=i.toNat+xs.length from by omega,← List.drop_drop,h,List.drop_left]
theorem SP (hA:Wr F M v){e':AM}{s:Sk}{k:Option Ae}{r':Fo}
  (ih:∀(e:AM) (S:List AM) (i:Int) (sh:Ba) (last:Option Ae) (r:List Ab),1≤r'.cnt→r'.wf e.fPairs last=true→e.fKey=e.fPairs→e.fLeft=r'.cnt→Kl e last→(e.fPairs=false→last=none)→v.drop i.toNat=r'.flat++r→0≤i→(S.length:Int)+1≤i→EA S→
   IM (Tv F v) ((e::S).reverse,i,sh) S (i+r'.flat.length) (r'.sh (S.length+1) sh))
  (hd:IM (Tv F v) s (e'::S) i sh) (hl:e'.fLeft=r'.cnt+1) (hw:r'.wf e'.fPairs k=true) (hk:Kl e' k) (hm:e'.fPairs=false→k=none) (hv:v.drop i.toNat=r'.flat++r) (h0:0≤i) (hS:(S.length:Int)+1≤i) (hb:EA S) :
  IM (Tv F v) s S (i+r'.flat.length) (r'.sh (S.length+1) sh):=by
 by_cases h1:r'.cnt=0
 ·cases r' with
  | nil=>simpa[Fo.flat,Fo.sh] using hd.pop (by rw[hl];rfl)
  | cell _ _ _=>simp[Fo.cnt] at h1
  | node _ _ _ _=>simp[Fo.cnt] at h1
 ·have:=hd.more (by omega);refine IM.of this (ih _ S i sh k r (by omega) hw rfl (by simp only;omega) ?_ hm hv h0 hS hb)
  cases k with
  | none=>exact hk
  | some p=>exact hk
theorem LK {k last:Option Ae}(hl:Kl e last)(hm:e.fPairs=false→last=none)(hk:Dw e.fPairs last k=true):Kl (H0 e k) k∧((H0 e k).fPairs=false→k=none):=by
 cases k with
 | none=>
  have:e.fPairs=false:=by simpa[Dw] using hk
  rw[hm this] at hl;exact⟨hl,λ_=>rfl⟩
 | some s=>
  refine⟨⟨rfl,rfl⟩,λh=>?_⟩;have h:e.fPairs=false:=h;simp[Dw,h] at hk
theorem Ob (hA:Wr F M v):∀(f:Fo) (e:AM) (S:List AM) (i:Int) (sh:Ba) (last:Option Ae) (r:List Ab),1≤f.cnt→f.wf e.fPairs last=true→e.fKey=e.fPairs→e.fLeft=f.cnt→Kl e last→(e.fPairs=false→last=none)→v.drop i.toNat=f.flat++r→0≤i→(S.length:Int)+1≤i→EA S→
   IM (Tv F v) ((e::S).reverse,i,sh) S (i+f.flat.length) (f.sh (S.length+1) sh):=by
 have hmax:∀(i:Int) (xs:List Ab),0≤i→v.drop i.toNat=xs→xs.length≤v.length:=λi xs _ h=>by rw[← h,AeT];omega
 intro f
 induction f with
 | nil=>intro e S i sh last r h1;simp[Fo.cnt] at h1
 | cell k c r' ih=>
  intro e S i sh last r h1 hw hk hl hlo hm hv h0 hS hb;simp only[Fo.wf,Ael,AeF] at hw;obtain⟨⟨⟨w1,w2⟩,w3⟩,w4⟩:=hw;simp only[Fo.flat,Afa,List.cons_append] at hv;have hcnt:=hmax i _ h0 hv;have hcf:=DB r';simp only[Aes,Ae0] at hcnt;have hvM:=hA.hv;have hMM:=hA.hM;simp only[Fo.cnt] at hl;have hb':EA (e::S):=λx hx=>by
   rcases List.mem_cons.1 hx with rfl | hx
   ·constructor<;>omega
   ·exact hb x hx
  have hkr:=P8 (sh:=sh) hA h0 hv hS hb' (by rw[hk];exact w1) hlo;have hv1:=Ei h0 hv;obtain⟨kl,kp⟩:=LJ (e:=e) k;have hbk:EA (H0 e k::S):=λx hx=>by
   rcases List.mem_cons.1 hx with rfl | hx
   ·rw[kl];exact hb' e (by simp)
   ·exact hb x hx
  have hd:=Nw (sh:=NP k sh) hA (by omega) hv1 (by simp only[Ae0];omega) hbk (Nx (by rw[hk];exact w1)) w2 w3;obtain⟨q1,q2⟩:=LK hlo hm w1;have hv2:=(G6 (by omega) hv1).2.1;have:=SP hA ih (hd.of hkr) (by rw[kl,hl];rfl) (by rw[kp];exact w4) q1 q2 hv2 (by omega) (by omega) hb;simp only[Fo.flat,Fo.sh,Aes,Ae0];rw[show i+((((CB k).length+(r'.flat.length+1):Nat)):Int)=i+(CB k).length+1+r'.flat.length from by omega];exact this
 | node k c kids r' ihk ih=>
  intro e S i sh last r h1 hw hk hl hlo hm hv h0 hS hb;simp only[Fo.wf,Ael,Aeh] at hw;obtain⟨⟨⟨⟨⟨w1,w2⟩,w3⟩,w5⟩,w6⟩,w4⟩:=hw;simp only[Fo.flat,Afa,List.cons_append] at hv;have hcnt:=hmax i _ h0 hv;have hcf:=DB r';have hck:=DB kids;simp only[Aes,Ae0] at hcnt;have hvM:=hA.hv;have hMM:=hA.hM;simp only[Fo.cnt] at hl;have hb':EA (e::S):=λx hx=>by
   rcases List.mem_cons.1 hx with rfl | hx
   ·constructor<;>omega
   ·exact hb x hx
  have hkr:=P8 (sh:=sh) hA h0 hv hS hb' (by rw[hk];exact w1) hlo;have hv1:=Ei h0 hv;obtain⟨kl,kp⟩:=LJ (e:=e) k;have hbk:EA (H0 e k::S):=λx hx=>by
   rcases List.mem_cons.1 hx with rfl | hx
   ·rw[kl];exact hb' e (by simp)
   ·exact hb x hx
  have hn:=KK (sh:=NP k sh) hA (by omega) hv1 (by simp only[Ae0];omega) hbk (Nx (by rw[hk];exact w1)) w2 (by simpa using w3) (by omega);have hv2:=(G6 (by omega) hv1).2.1;have hd:=ihk ⟨decide (c.fKind=6),c.fN,decide (c.fKind=6),[],false⟩ (H0 e k::S) (i+(CB k).length+1) (JN (S.length+1) (NP k sh) c) none _ (by omega) w6 rfl w5 rfl (λ_=>rfl) hv2 (by omega) (by simp only[Ae0];omega) hbk;obtain⟨q1,q2⟩:=LK hlo hm w1;have hv3:=Ei (by omega) hv2;have:=SP hA ih ((hd.of hn).of hkr) (by rw[kl,hl];rfl) (by rw[kp];exact w4) q1 q2 hv3 (by omega) (by omega) hb;simp only[Fo.flat,Fo.sh,Aes,Ae0];rw[show i+((((CB k).length+(kids.flat.length+r'.flat.length+1):Nat)):Int)=i+(CB k).length+1+kids.flat.length+r'.flat.length from by omega];exact this
end
theorem Tr {S O:Type}{body:S→Option (Stp S O)}{o:O}:∀{n:Nat} {s:S} (k:Nat),Cl body n s=some o→Cl body (n+k) s=some o
 | 0,s,k,h=>by cases h
 | n+1,s,k,h=>by
  rw[show n+1+k=n+k+1 from by omega,Cl];rw[Cl] at h
  cases hb:body s with
  | none=>rw[hb] at h;cases h
  | some t=>
   rw[hb] at h
   cases t with
   | next s'=>exact Tr k h
   | out o'=>exact h
theorem Fin.eq {S O:Type}{body:S→Option (Stp S O)}{s:S}{o o':O}{n:Nat}(h:Fin body s o)(h':Cl body n s=some o'):o'=o:=by
 obtain⟨k,hk⟩:=h;have:=Tr k h';rw[hk n] at this;exact(Av this).symm
theorem Rh:∀{S:List AM},EA S→EA (Oc S)∧(Oc S).length≤S.length
 | [],h=>⟨h,Ae9 _⟩
 | e::S,h=>by
  have hS:EA S:=λx hx=>h x (by simp[hx]);have he:=h e (by simp);unfold Oc
  cases hd:decide (1<e.fLeft) with
  | true=>
   simp only[Aeh] at hd;refine⟨λx hx=>?_,by simp⟩;rcases List.mem_cons.1 hx with rfl | hx
   ·simp only;omega
   ·exact hS x hx
  | false=>
   obtain⟨h1,h2⟩:=Rh hS;exact⟨h1,by simp only[Aem,Ae0];omega⟩
theorem YT {n:Int}{S:List AM}{i:Int}{sh:Ba}{c:Ab}{σ:Sk}(hb:EA S)(hS:(S.length:Int)≤i)(hN:c.fN≤9223372036854775807)(h:Uc n S i sh c = .next σ):∃S' sh',σ=(S'.reverse,i+1,sh')∧EA S'∧(S'.length:Int)≤i+1:=by
 unfold Uc at h
 cases hp:pl c with
 | false=>simp[hp] at h
 | true=>
  simp only[hp,Aeo,Aem] at h
  cases S with
  | nil=>
   simp only at h
   cases hn:decide (0<c.fN) with
   | false=>simp[hn] at h
   | true=>
    simp only[hn,Aeq] at h
    cases hm:decide (n<c.fN) with
    | true=>simp[hm] at h
    | false=>
     simp only[hm,Aem,Stp.next.injEq] at h;refine⟨[_],_,h.symm,λx hx=>?_,by simp at hS ⊢;omega⟩;simp only[Ae8] at hx;subst hx;simp only[Aeh] at hn;exact⟨by simp only;omega,hN⟩
  | cons e S=>
   have he:=hb e (by simp);have hbS:EA S:=λx hx=>hb x (by simp[hx]);simp only[Ae0] at hS
   cases hk:e.fKey with
   | true=>
    simp only[hk,Aeq] at h
    cases hq:(!decide (c.fKind=4)||(e.fStarted&&(Cz c.fStr e.fLast||decide (c.fStr=e.fLast)))) with
    | true=>rw[hq] at h;simp at h
    | false=>
     rw[hq] at h;simp only[Aem,Stp.next.injEq] at h;refine⟨_::S,_,h.symm,λx hx=>?_,by simp only[Ae0];omega⟩;rcases List.mem_cons.1 hx with rfl | hx
     ·exact he
     ·exact hbS x hx
   | false=>
    simp only[hk,Aem] at h
    cases hn:decide (0<c.fN) with
    | true=>
     simp only[hn,Aeq] at h
     cases hm:decide (n<c.fN) with
     | true=>simp[hm] at h
     | false=>
      simp only[hm,Aem,Stp.next.injEq] at h;refine⟨_::e::S,_,h.symm,λx hx=>?_,by simp only[Ae0];omega⟩;rcases List.mem_cons.1 hx with rfl | hx
      ·simp only[Aeh] at hn;exact⟨by simp only;omega,hN⟩
      ·exact hb x hx
    | false=>
     simp only[hn,Aem] at h
     cases hq:decide (Oc (e::S)=[]) with
     | true=>rw[hq] at h;simp at h
     | false=>
      rw[hq] at h;simp only[Aem,Stp.next.injEq] at h;obtain⟨h1,h2⟩:=Rh hb;simp only[Ae0] at h2;exact⟨_,_,h.symm,h1,by omega⟩
theorem P5 {F M:Nat}{v:List Ab}(hA:Wr F M v):∃o,Cl (Tv F v) F (([]:List AM),0,(⟨0,0,false,false⟩:Ba))=some o∧True:=by
 refine HB (λσ=>∃S i sh,σ=(S.reverse,i,sh)∧EA S∧(S.length:Int)≤i∧0≤i∧i≤v.length) (λσ=>v.length-σ.2.1.toNat) (λ_=>True) (λσ hI=>?_) F _ ⟨[],0,_,rfl,(λx hx=>by cases hx),AeG _,AeG _,by omega⟩ (by have:=hA.hv;have:=hA.hF;simp;omega);obtain⟨S,i,sh,rfl,hb,hS,h0,hi⟩:=hI
 by_cases hx:i<v.length
 ·obtain⟨c,hc⟩:∃c,v[i.toNat]? =some c:=⟨v[i.toNat]'(by omega),Aep (by omega)⟩
  have hdr:v.drop i.toNat=c::v.drop (i.toNat+1):=by rw[List.drop_eq_getElem_cons (by omega)];congr 1;exact(List.getElem?_eq_some_iff.1 hc).2
  have hr:=round (sh:=sh) hA h0 hdr hS hb
  cases hl:Uc v.length S i sh c with
  | next τ=>
   obtain⟨S',sh',rfl,h1,h2⟩:=YT hb hS (hA.hc c (Ae4 hc)).2.2 hl;exact .inl ⟨_,by rw[hr,hl],⟨S',i+1,sh',rfl,h1,h2,by omega,by omega⟩,by simp only;omega⟩
  | out o=>exact .inr ⟨o,by rw[hr,hl],trivial⟩
 ·refine .inr ⟨.go sh,?_,trivial⟩;show E2 F v S.reverse i sh=_;unfold E2;rw[Bp (by simpa using hx)]
def Fo.one:Fo→Bool
 | .cell none _ .nil=>true
 | .node none _ _ .nil=>true
 | _=>false
def Pa:Ba:=⟨0,0,false,false⟩
theorem YS {F M:Nat}{v:List Ab}(hA:Wr F M v){f:Fo}(h1:f.one=true)(hw:f.wf false none=true){r:List Ab}(hv:v=f.flat++r):Fin (Tv F v) ([],0,Pa) (.ret (f.flat.length,f.sh 0 Pa,true)):=by
 have h0:v.drop (0:Int).toNat=f.flat++r:=by rw[hv];rfl
 have hlen:f.flat.length≤v.length:=by rw[hv];simp
 cases f with
 | nil=>cases h1
 | cell k c r'=>
  cases k with
  | some s=>cases h1
  | none=>
   cases r' with
   | nil=>
    simp only[Fo.wf,Ael,AeF] at hw;have:=Nw (S:=[]) (sh:=Pa) hA (AeG 0) h0 (by simp) (λx hx=>by cases hx) rfl hw.1.1.2 hw.1.2;unfold IM at this;rw[AeW (show Oc []=[] from rfl)] at this;simpa[Fo.flat,Fo.sh,CB,NP] using this
   | cell _ _ _=>cases h1
   | node _ _ _ _=>cases h1
 | node k c kids r'=>
  cases k with
  | some s=>cases h1
  | none=>
   cases r' with
   | nil=>
    simp only[Fo.wf,Ael,Aeh] at hw;obtain⟨⟨⟨⟨⟨w1,w2⟩,w3⟩,w5⟩,w6⟩,w4⟩:=hw;have hck:=DB kids;simp only[Fo.flat,CB,List.nil_append,List.append_nil,Ae0] at hlen;have hvM:=hA.hv;have hMM:=hA.hM;have hn:=KK (S:=[]) (sh:=Pa) hA (AeG 0) h0 (by simp) (λx hx=>by cases hx) rfl w2 (by simpa using w3) (by omega);have hv2:=(G6 (AeG 0) h0).2.1;have hd:=Ob hA kids ⟨decide (c.fKind=6),c.fN,decide (c.fKind=6),[],false⟩ [] (0+1) (JN 0 Pa c) none r (by omega) w6 rfl w5 rfl (λ_=>rfl) (by rw[hv2];simp[Fo.flat]) (by omega) (by simp) (λx hx=>by cases hx);unfold IM at hd;rw[AeW (show Oc []=[] from rfl)] at hd;have:=hn.fin hd;have e:((0:Int)+1+kids.flat.length)=((Fo.node none c kids .nil).flat.length:Int):=by simp[Fo.flat,CB];omega
    rw[e] at this;exact this
   | cell _ _ _=>cases h1
   | node _ _ _ _=>cases h1
theorem Ts {F M:Nat}{v:List Ab}(hA:Wr F M v){f:Fo}(h1:f.one=true)(hw:f.wf false none=true){r:List Ab}(hv:v=f.flat++r):JE F v=some ((f.flat.length:Int),f.sh 0 Pa,true):=by
 obtain⟨o,ho,_⟩:=P5 hA;have e:=(YS hA h1 hw hv).eq ho;subst e;unfold JE;rw[CH ho];rfl
def JO (m:Bool)(last:Option Ae)(xs:List Ab):Option (Option Ae×List Ab):=
 bif m then match xs with
  | []=>none
  | c::r=>bif pl c&&decide (c.fKind=4)&&Dw true last (some c.fStr) then some (some c.fStr,r) else none
 else some (none,xs)
def Jq:Nat→Bool→Option Ae→Nat→List Ab→Option (Fo×List Ab)
 | 0,_,_,_,_=>none
 | _+1,_,_,0,xs=>some (.nil,xs)
 | F+1,m,last,k+1,xs=>
  match JO m last xs with
  | none=>none
  | some (_,[])=>none
  | some (key,c::xs')=>
   bif !pl c then none else
   bif decide (0<c.fN) then
    match Jq F (decide (c.fKind=6)) none c.fN.toNat xs' with
    | none=>none
    | some (kids,ys)=>match Jq F m key k ys with
     | none=>none
     | some (r,zs)=>some (.node key c kids r,zs)
   else match Jq F m key k xs' with
    | none=>none
    | some (r,zs)=>some (.cell key c r,zs)
theorem R6 {c:Ab}(hp:pl c=true)(hk:c.fKind=4):c=⟨4,0,c.fStr,0⟩∧c.fStr.all ZI=true:=by
 cases c
 simp only at hk;subst hk;simp[pl] at hp;obtain⟨h1,h2,h3⟩:=hp;subst h1;subst h2;exact⟨rfl,by simpa using h3⟩
theorem O0 {m:Bool}{last key:Option Ae}{xs r:List Ab}(h:JO m last xs=some (key,r)):xs=CB key++r∧Dw m last key=true:=by
 unfold JO at h
 cases m with
 | false=>cases h;exact⟨rfl,rfl⟩
 | true=>
  simp only[Aeq] at h
  cases xs with
  | nil=>cases h
  | cons c r'=>
   simp only at h
   cases hb:(pl c&&decide (c.fKind=4)&&Dw true last (some c.fStr)) with
   | false=>rw[hb] at h;cases h
   | true=>
    rw[hb] at h;simp only[Ael,Aeh] at hb
    cases h
    exact⟨by rw[(R6 hb.1.1 hb.1.2).1];rfl,hb.2⟩
theorem IE:∀(F:Nat) (m:Bool) (last:Option Ae) (k:Nat) (xs:List Ab) (f:Fo) (ys:List Ab),Jq F m last k xs=some (f,ys)→xs=f.flat++ys∧f.wf m last=true∧f.cnt=k
 | 0,_,_,_,_,_,_,h=>by cases h
 | F+1,m,last,0,xs,f,ys,h=>by cases h;exact⟨rfl,rfl,rfl⟩
 | F+1,m,last,k+1,xs,f,ys,h=>by
  rw[Jq] at h
  cases hk:JO m last xs with
  | none=>rw[hk] at h;cases h
  | some p=>
   obtain⟨key,r⟩:=p;obtain⟨h1,h2⟩:=O0 hk;rw[hk] at h
   cases r with
   | nil=>cases h
   | cons c xs'=>
    simp only at h
    cases hp:pl c with
    | false=>rw[hp] at h;cases h
    | true=>
     rw[hp] at h;simp only[Aeo,Aem] at h
     cases hn:decide (0<c.fN) with
     | true=>
      rw[hn] at h;simp only[Aeq] at h
      cases hq:Jq F (decide (c.fKind=6)) none c.fN.toNat xs' with
      | none=>rw[hq] at h;cases h
      | some q=>
       obtain⟨kids,zs⟩:=q;rw[hq] at h;simp only at h
       cases hr:Jq F m key k zs with
       | none=>rw[hr] at h;cases h
       | some q2=>
        obtain⟨r2,us⟩:=q2;rw[hr] at h;cases h;obtain⟨a1,a2,a3⟩:=IE F _ _ _ _ _ _ hq;obtain⟨b1,b2,b3⟩:=IE F _ _ _ _ _ _ hr;refine⟨by rw[h1,a1,b1];simp[Fo.flat],?_,by simp[Fo.cnt,b3]⟩;simp only[Aeh] at hn;simp only[Fo.wf,h2,hp,a2,b2,Ae2,Aex,Ael,Aeh];omega
     | false=>
      rw[hn] at h;simp only[Aem] at h
      cases hr:Jq F m key k xs' with
      | none=>rw[hr] at h;cases h
      | some q2=>
       obtain⟨r2,us⟩:=q2;rw[hr] at h;cases h;obtain⟨b1,b2,b3⟩:=IE F _ _ _ _ _ _ hr;exact⟨by rw[h1,b1];simp[Fo.flat],by simp[Fo.wf,h2,hp,b2,hn],by simp[Fo.cnt,b3]⟩
theorem IZ:∀(F F':Nat) (m:Bool) (last:Option Ae) (k:Nat) (xs:List Ab),xs.length<F→xs.length<F'→Jq F m last k xs=Jq F' m last k xs
 | 0,_,_,_,_,_,h,_=>by omega
 | _+1,0,_,_,_,_,_,h=>by omega
 | F+1,F'+1,m,last,0,xs,_,_=>rfl
 | F+1,F'+1,m,last,k+1,xs,h,h'=>by
  rw[Jq,Jq]
  cases hk:JO m last xs with
  | none=>rfl
  | some p=>
   obtain⟨key,r⟩:=p;obtain⟨h1,h2⟩:=O0 hk
   cases r with
   | nil=>rfl
   | cons c xs'=>
    have hl:xs'.length<xs.length:=by rw[h1];simp;omega
    simp only
    cases hp:pl c with
    | false=>rfl
    | true=>
     simp only[Aeo,Aem]
     cases hn:decide (0<c.fN) with
     | true=>
      simp only[Aeq];rw[IZ F F' _ _ _ xs' (by omega) (by omega)]
      cases hq:Jq F' (decide (c.fKind=6)) none c.fN.toNat xs' with
      | none=>rfl
      | some q=>
       obtain⟨kids,zs⟩:=q;have:=(IE _ _ _ _ _ _ _ hq).1;have hz:zs.length≤xs'.length:=by rw[this];simp
       simp only;rw[IZ F F' m key k zs (by omega) (by omega)]
     | false=>
      simp only[Aem];rw[IZ F F' m key k xs' (by omega) (by omega)]
def Va {S:Type}(body:S→Option (Stp S LkO))(s:S):Prop:=∃sh',Fin body s (.ret (0,sh',false))∨Fin body s (.go sh')
theorem EW.bad {S:Type}{body:S→Option (Stp S LkO)}{s t:S}(h:EW body s t)(h':Va body t):Va body s:=by
 obtain⟨sh',h' | h'⟩:=h'
 ·exact⟨sh',.inl (h.fin h')⟩
 ·exact⟨sh',.inr (h.fin h')⟩
section
variable {F M : Nat} {v : List Ab}
theorem Va.end_ {S:List AM}{i:Int}{sh:Ba}(h0:0≤i)(h:v.drop i.toNat=[]):Va (Tv F v) (S.reverse,i,sh):=by
 refine⟨sh,.inr (Fin.step ?_)⟩;show E2 F v S.reverse i sh=_;unfold E2;rw[Bp];have:v.length≤i.toNat:=by simpa using h
 simp;omega
theorem Va.pl_ (hA:Wr F M v){S:List AM}{i:Int}{sh:Ba}{c:Ab}{r:List Ab}(h0:0≤i)(h:v.drop i.toNat=c::r)(hS:(S.length:Int)≤i)(hb:EA S)(hp:pl c=false):Va (Tv F v) (S.reverse,i,sh):=by
 refine⟨sh,.inl (Fin.step ?_)⟩;rw[round hA h0 h hS hb];simp[Uc,hp]
theorem UQ (hA:Wr F M v):∀(P:Nat) (k:Nat) (e:AM) (S:List AM) (i:Int) (sh:Ba) (last:Option Ae) (xs:List Ab),xs.length<P→Jq P e.fPairs last (k+1) xs=none→e.fKey=e.fPairs→e.fLeft=(k:Int)+1→(k:Int)+1≤9223372036854775807→Kl e last→(e.fPairs=false→last=none)→v.drop i.toNat=xs→0≤i→(S.length:Int)+1≤i→EA S→
  Va (Tv F v) ((e::S).reverse,i,sh):=by
 intro P
 induction P with
 | zero=>intro k e S i sh last xs h;omega
 | succ P ih=>
  intro k e S i sh last xs hP hn hk hl hkm hlo hm hv h0 hS hb;have hb':EA (e::S):=λx hx=>by
   rcases List.mem_cons.1 hx with rfl | hx
   ·constructor<;>omega
   ·exact hb x hx
  rw[Jq] at hn
  cases hq:JO e.fPairs last xs with
  | none=>
   unfold JO at hq
   cases hpr:e.fPairs with
   | false=>rw[hpr] at hq;cases hq
   | true=>
    rw[hpr] at hq hk;simp only[Aeq] at hq
    cases xs with
    | nil=>exact Va.end_ h0 hv
    | cons c r=>
     simp only at hq
     cases hp:pl c with
     | false=>exact Va.pl_ hA h0 hv (by simpa using hS) hb' hp
     | true=>
      refine⟨sh,.inl (Fin.step ?_)⟩;rw[round hA h0 hv (by simpa using hS) hb'];have ht:(!decide (c.fKind=4)||(e.fStarted&&(Cz c.fStr e.fLast||decide (c.fStr=e.fLast))))=true:=by
       rw[hp] at hq
       cases h4:decide (c.fKind=4) with
       | false=>rfl
       | true=>
        rw[h4] at hq;simp only[Bool.and_self,Aex] at hq;have hok:=(R6 hp (by simpa using h4)).2
        cases last with
        | none=>simp[Dw,hok] at hq
        | some p=>
         obtain⟨q1,q2⟩:=hlo;rw[q1,q2]
         cases hc:(Cz c.fStr p||decide (c.fStr=p)) with
         | true=>rfl
         | false=>simp[Dw,hok,hc] at hq
      simp only[Uc,hp,hk,ht,Aeo,Aem,Aeq]
  | some q=>
   obtain⟨key,r⟩:=q;obtain⟨h1,h2⟩:=O0 hq;rw[hq] at hn;have hkr:=P8 (sh:=sh) hA h0 (by rw[hv];exact h1) hS hb' (by rw[hk];exact h2) hlo;have hv1:=Ei h0 (hv.trans h1);obtain⟨kl,kp⟩:=LJ (e:=e) key;obtain⟨q1,q2⟩:=LK hlo hm h2;have hbk:EA (H0 e key::S):=λx hx=>by
    rcases List.mem_cons.1 hx with rfl | hx
    ·rw[kl];exact hb' e (by simp)
    ·exact hb x hx
   refine hkr.bad ?_
   cases r with
   | nil=>exact Va.end_ (by omega) hv1
   | cons c xs'=>
    have hlen:xs'.length+1≤xs.length:=by rw[h1];simp
    have hvl:xs.length≤v.length:=by rw[← hv,AeT];omega
    have hvM:=hA.hv;have hMM:=hA.hM;have hkk:=Nx (e:=e) (last:=last) (k:=key) (by rw[hk];exact h2);simp only at hn;have hSk:(((H0 e key::S).length:Nat):Int)≤i+(CB key).length:=by simp only[Ae0];omega
    cases hp:pl c with
    | false=>exact Va.pl_ hA (by omega) hv1 hSk hbk hp
    | true=>
     rw[hp] at hn;simp only[Aeo,Aem] at hn;obtain⟨g1,g2,g3⟩:=G6 (by omega) hv1;have hcN:=(hA.hc c (Ae4 g1)).2.2;have more:∀(s:Sk) (j:Int) (sh':Ba) (zs:List Ab),IM (Tv F v) s (H0 e key::S) j sh'→v.drop j.toNat=zs→zs.length<P→0≤j→(S.length:Int)+1≤j→Jq P e.fPairs key k zs=none→Va (Tv F v) s:=λs j sh' zs hd hz hzl hj hSj hnone=>by
      cases k with
      | zero=>
       cases P with
       | zero=>omega
       | succ P=>cases hnone
      | succ k=>
       have:=hd.more (by rw[kl];omega);refine this.bad (ih k _ S j sh' key zs hzl (by rw[kp];exact hnone) rfl (by simp only[kl];omega) (by omega) ?_ (by simpa using q2) hz hj hSj hb)
       cases key with
       | none=>exact q1
       | some p=>exact q1
     cases hN:decide (0<c.fN) with
     | true=>
      rw[hN] at hn;simp only[Aeq] at hn;simp only[Aeh] at hN
      by_cases hbig:c.fN≤v.length
      ·have hnd:=KK (sh:=NP key sh) hA (by omega) hv1 hSk hbk (by simpa[Ny] using hkk) hp (by simpa using hN) hbig;refine hnd.bad ?_
       cases hks:Jq P (decide (c.fKind=6)) none c.fN.toNat xs' with
       | none=>
        obtain⟨n',hn'⟩:∃n',c.fN.toNat=n'+1:=⟨c.fN.toNat-1,by omega⟩
        rw[hn'] at hks;exact ih n' _ _ _ _ none xs' (by omega) hks rfl (by simp only;omega) (by omega) rfl (λ_=>rfl) g2 (by omega) (by simp only[Ae0];omega) hbk
       | some q=>
        obtain⟨kids,zs⟩:=q;rw[hks] at hn;simp only at hn;have hn2:Jq P e.fPairs key k zs=none:=by
         cases hz:Jq P e.fPairs key k zs with
         | none=>rfl
         | some q=>rw[hz] at hn;cases hn
        obtain⟨a1,a2,a3⟩:=IE _ _ _ _ _ _ _ hks;have hd:=Ob hA kids ⟨decide (c.fKind=6),c.fN,decide (c.fKind=6),[],false⟩ (H0 e key::S) (i+(CB key).length+1) (JN (S.length+1) (NP key sh) c) none zs (by omega) a2 rfl (by simp only;omega) rfl (λ_=>rfl) (by rw[g2];exact a1) (by omega) (by simp only[Ae0];omega) hbk;have hz:v.drop (i+(CB key).length+1+kids.flat.length).toNat=zs:=Ei (by omega) (g2.trans a1);have hzl:zs.length≤xs'.length:=by rw[a1];simp
        exact more _ _ _ zs hd hz (by omega) (by omega) (by omega) hn2
      ·refine⟨JN (H0 e key::S).length (NP key sh) c,.inl (Fin.step ?_)⟩;rw[round hA (by omega) hv1 hSk hbk];have hbig':decide ((v.length:Int)<c.fN)=true:=by simpa using hbig
       simp only[Uc,hp,hkk,hbig',hN,Aeo,Aem,Aeq,decide_true]
     | false=>
      rw[hN] at hn;simp only[Aem] at hn;have hn2:Jq P e.fPairs key k xs'=none:=by
       cases hz:Jq P e.fPairs key k xs' with
       | none=>rfl
       | some q=>rw[hz] at hn;cases hn
      have hd:=Nw (sh:=NP key sh) hA (by omega) hv1 hSk hbk (by simpa[Ny] using hkk) hp hN;exact more _ _ _ xs' hd g2 (by omega) (by omega) (by omega) hn2
def JP (xs:List Ab):Option (Fo×List Ab):=Jq (xs.length+1) false none 1 xs
theorem V4 {P:Nat}{xs ys:List Ab}{f:Fo}(h:Jq P false none 1 xs=some (f,ys)):f.one=true:=by
 obtain⟨h1,h2,h3⟩:=IE _ _ _ _ _ _ _ h
 cases f with
 | nil=>cases h3
 | cell k c r=>
  cases r with
  | nil=>
   cases k with
   | none=>rfl
   | some s=>simp[Fo.wf,Dw] at h2
  | cell _ _ _=>simp[Fo.cnt] at h3
  | node _ _ _ _=>simp[Fo.cnt] at h3
 | node k c kids r=>
  cases r with
  | nil=>
   cases k with
   | none=>rfl
   | some s=>simp[Fo.wf,Dw] at h2
  | cell _ _ _=>simp[Fo.cnt] at h3
  | node _ _ _ _=>simp[Fo.cnt] at h3
theorem Xr (hA:Wr F M v)(h:JP v=none):Va (Tv F v) ([],0,Pa):=by
 have hlf:EA []:=λx hx=>by cases hx
 unfold JP at h;rw[Jq] at h;simp only[JO,Aem] at h
 cases v with
 | nil=>exact Va.end_ (S:=[]) (AeG 0) rfl
 | cons c xs'=>
  have hv1:(c::xs').drop (0:Int).toNat=c::xs':=rfl;have hvM:=hA.hv;have hMM:=hA.hM;simp only at h
  cases hp:pl c with
  | false=>exact Va.pl_ (S:=[]) hA (AeG 0) hv1 (by simp) hlf hp
  | true=>
   rw[hp] at h;simp only[Aeo,Aem] at h;have hcN:=(hA.hc c (by simp)).2.2
   cases hN:decide (0<c.fN) with
   | true=>
    rw[hN] at h;simp only[Aeq] at h;simp only[Aeh] at hN
    by_cases hbig:c.fN≤(c::xs').length
    ·have hnd:=KK (S:=[]) (sh:=Pa) hA (AeG 0) hv1 (by simp) hlf rfl hp (by simpa using hN) hbig;refine hnd.bad ?_
     cases hks:Jq (c::xs').length (decide (c.fKind=6)) none c.fN.toNat xs' with
     | none=>
      obtain⟨n',hn'⟩:∃n',c.fN.toNat=n'+1:=⟨c.fN.toNat-1,by omega⟩
      rw[hn'] at hks;exact UQ hA (c::xs').length n' ⟨decide (c.fKind=6),c.fN,decide (c.fKind=6),[],false⟩ [] (0+1) _ none xs' (by simp) hks rfl (by simp only;omega) (by omega) rfl (λ_=>rfl) rfl (by omega) (by simp) hlf
     | some q=>rw[hks] at h;cases h
    ·refine⟨JN 0 Pa c,.inl (Fin.step ?_)⟩;rw[show Tv F (c::xs') (([]:List AM),0,Pa)=_ from round (S:=[]) hA (AeG 0) hv1 (by simp) hlf];have hbig':decide (((c::xs').length:Int)<c.fN)=true:=by simpa using hbig
     simp only[Uc,hp,hbig',hN,Aeo,Aem,Aeq,decide_true]
   | false=>rw[hN] at h;cases h
theorem AaB (hA:Wr F M v):(∃f ys,JP v=some (f,ys)∧JE F v=some ((f.flat.length:Int),f.sh 0 Pa,true))∨(JP v=none∧∃sh',JE F v=some (0,sh',false)):=by
 cases h:JP v with
 | some q=>
  obtain⟨f,ys⟩:=q;obtain⟨h1,h2,h3⟩:=IE _ _ _ _ _ _ _ h;exact .inl ⟨f,ys,rfl,Ts hA (V4 h) h2 h1⟩
 | none=>
  refine .inr ⟨rfl,?_⟩;obtain⟨o,ho,_⟩:=P5 hA;obtain⟨sh',hb | hb⟩:=Xr hA h
  ·have e:=hb.eq ho;subst e;exact⟨sh',by unfold JE;rw[CH ho];rfl⟩
  ·have e:=hb.eq ho;subst e;exact⟨sh',by unfold JE;rw[CH ho];rfl⟩
end
theorem K9 {x:Int}(h : -9223372036854775808≤x)(h':x≤9223372036854775807):IntKind.wrap .i64 x=x:=by
 simp only[IntKind.wrap,IntKind.bits,IntKind.signed];simp;omega
def Fo.dep:Fo→Nat
 | .nil=>0
 | .cell _ _ r=>max 1 r.dep
 | .node _ _ kids r=>max (kids.dep+1) r.dep
theorem HH (k:Option Ae)(s:Ba):(NP k s).fDepth=s.fDepth∧(NP k s).fOutside=s.fOutside∧(NP k s).fLong=(s.fLong||(CB k).any λc=>decide (200<(c.fStr.length:Int))):=by
 cases k with
 | none=>simp[NP,CB]
 | some x=>simp[NP,shk,CB]
theorem Mt:∀(f:Fo) (d:Nat) (s:Ba),(d:Int)≤s.fDepth→(f.sh d s).fDepth=max s.fDepth ((d:Int)+f.dep)
 | .nil,d,s,h=>by simp only[Fo.sh,Fo.dep];omega
 | .cell k c r,d,s,h=>by
  have hk:=(HH k s).1;have e:(JN d (NP k s) c).fDepth=max s.fDepth ((d:Int)+1):=by rw[JN,hk]
  rw[Fo.sh,Mt r d _ (by rw[e];omega),e,Fo.dep];omega
 | .node k c kids r,d,s,h=>by
  have hk:=(HH k s).1;have e:(JN d (NP k s) c).fDepth=max s.fDepth ((d:Int)+1):=by rw[JN,hk]
  have e2:=Mt kids (d+1) (JN d (NP k s) c) (by rw[e];omega);rw[e] at e2;rw[Fo.sh,Mt r d _ (by rw[e2];omega),e2,Fo.dep];omega
def U5 (c:Ab):Bool:=decide (c.fKind=3)&&!(decide ((-1000000000000)≤c.fInt)&&decide (c.fInt≤1000000000000))
def Tu (c:Ab):Bool:=decide (200<(c.fStr.length:Int))
theorem Tx (k:Option Ae):(CB k).any U5=false:=by cases k<;>simp[CB,U5]
theorem Rw:∀(f:Fo) (d:Nat) (s:Ba),(f.sh d s).fOutside=(s.fOutside||f.flat.any U5)
 | .nil,d,s=>by simp[Fo.sh,Fo.flat]
 | .cell k c r,d,s=>by
  rw[Fo.sh,Rw r,JN,(HH k s).2.1];simp only[Fo.flat,List.any_append,List.any_cons,Tx,Aey,Bool.or_assoc];rfl
 | .node k c kids r,d,s=>by
  rw[Fo.sh,Rw r,Rw kids,JN,(HH k s).2.1];simp only[Fo.flat,List.any_append,List.any_cons,Tx,Aey,Bool.or_assoc];rfl
theorem Oy:∀(f:Fo) (d:Nat) (s:Ba),(f.sh d s).fLong=(s.fLong||f.flat.any Tu)
 | .nil,d,s=>by simp[Fo.sh,Fo.flat]
 | .cell k c r,d,s=>by
  rw[Fo.sh,Oy r,JN,(HH k s).2.2];simp only[Fo.flat,List.any_append,List.any_cons,Bool.or_assoc];rfl
 | .node k c kids r,d,s=>by
  rw[Fo.sh,Oy r,Oy kids,JN,(HH k s).2.2];simp only[Fo.flat,List.any_append,List.any_cons,Bool.or_assoc];rfl
def XN (c:Ab):Int:=
 bif decide (c.fKind=1) then 4 else bif decide (c.fKind=2) then 5-c.fInt else bif decide (c.fKind=3) then((Lib.itoa c.fInt).length:Int) else
 bif decide (c.fKind=4) then Nl c.fStr else 2
def RI:Option Ae→Int
 | none=>0
 | some s=>Nl s+1
def Fo.byt:Fo→Int
 | .nil=>0
 | .cell k c r=>RI k+XN c+r.byt
 | .node k c kids r=>RI k+(c.fN+1)+kids.byt+r.byt
theorem M1 (s:Ae):2≤Nl s:=by unfold Nl;omega
theorem O7 (k:Option Ae):0≤RI k:=by
 cases k with
 | none=>exact AeG 0
 | some s=>have:=M1 s;simp only[RI];omega
theorem VM {c:Ab}(hp:pl c=true):0≤XN c:=by
 unfold XN
 cases h1:decide (c.fKind=1) with
 | true=>simp
 | false=>
  cases h2:decide (c.fKind=2) with
  | true=>
   simp[pl,h1,h2] at hp;simp only[Aem,Aeq];omega
  | false=>
   cases h3:decide (c.fKind=3) with
   | true=>simp
   | false=>
    cases h4:decide (c.fKind=4) with
    | true=>have:=M1 c.fStr;simp only[Aem,Aeq];omega
    | false=>simp
theorem Aap {c:Ab}(hp:pl c=true):0≤c.fN:=by
 simp only[pl,← Bool.decide_or] at hp
 cases h1:decide (c.fKind=1)<;>cases h2:decide (c.fKind=2)<;>cases h3:decide (c.fKind=3)<;>cases h4:decide (c.fKind=4)<;>cases h5:decide (c.fKind=5)<;>cases h6:decide (c.fKind=6)<;>simp[h1,h2,h3,h4,h5,h6] at hp<;>omega
theorem R5 {c:Ab}(hp:pl c=true)(hn:0<c.fN):(c.fKind=5∨c.fKind=6)∧c.fInt=0∧c.fStr=[]:=by
 cases h1:decide (c.fKind=1)<;>cases h2:decide (c.fKind=2)<;>cases h3:decide (c.fKind=3)<;>cases h4:decide (c.fKind=4)<;>cases h5:decide (c.fKind=5)<;>cases h6:decide (c.fKind=6)<;>simp[pl,h1,h2,h3,h4,h5,h6] at hp<;>(simp only[Aeh,Aei] at *;first | omega | exact⟨by omega,hp.1,hp.2.1⟩)
theorem Yi {c:Ab}(hp:pl c=true)(hn:decide (0<c.fN)=false):szc c=XN c:=by
 have hN:=Aap hp;have h0:c.fN=0:=by simp only[Aei] at hn;omega
 unfold szc XN;rw[h0]
 cases h1:decide (c.fKind=1) with
 | true=>rfl
 | false=>
  cases h2:decide (c.fKind=2) with
  | true=>
   simp[pl,h1,h2] at hp;simp only[Aem,Aeq];exact K9 (by omega) (by omega)
  | false=>rfl
theorem Yh {c:Ab}(hp:pl c=true)(hn:0<c.fN)(hm:c.fN≤9223372036854775000):szc c=c.fN+1:=by
 obtain⟨hk,_,_⟩:=R5 hp hn;unfold szc;rw[Aej (by omega),Aej (by omega),Aej (by omega),Aej (by omega)];simp only[Aem];rw[K9 (x:=c.fN-1) (by omega) (by omega),K9 (by omega) (by omega)];omega
theorem I9:∀{f:Fo} {m:Bool} {l:Option Ae},f.wf m l=true→0≤f.byt
 | .nil,_,_,_=>AeG 0
 | .cell k c r,m,l,h=>by
  simp only[Fo.wf,Ael] at h;have h1:=I9 h.2;have h2:=VM h.1.1.2;have h3:=O7 k;simp only[Fo.byt];omega
 | .node k c kids r,m,l,h=>by
  simp only[Fo.wf,Ael,Aeh] at h;have h1:=I9 h.2;have h2:=I9 h.1.2;have h3:=O7 k;simp only[Fo.byt];omega
theorem QG (k:Option Ae)(s:Ba)(h0:0≤s.fBytes)(h:s.fBytes+RI k≤9223372036854775807):(NP k s).fBytes=s.fBytes+RI k:=by
 cases k with
 | none=>simp[NP,RI]
 | some x=>
  have:=M1 x;simp only[RI] at h;simp only[NP,shk,RI];exact K9 (by omega) (by omega)
theorem Mu:∀(f:Fo) (m:Bool) (l:Option Ae) (d:Nat) (s:Ba),f.wf m l=true→0≤s.fBytes→s.fBytes+f.byt≤9223372036854775000→(f.sh d s).fBytes=s.fBytes+f.byt
 | .nil,_,_,d,s,_,_,_=>by simp[Fo.sh,Fo.byt]
 | .cell k c r,m,l,d,s,hw,h0,h=>by
  simp only[Fo.wf,Ael,AeF] at hw;obtain⟨⟨⟨w1,w2⟩,w3⟩,w4⟩:=hw;have h1:=I9 w4;have h2:=VM w2;have h3:=O7 k;simp only[Fo.byt] at h;have e1:=QG k s h0 (by omega);have e:(JN d (NP k s) c).fBytes=s.fBytes+RI k+XN c:=by
   rw[JN,e1,Yi w2 w3];exact K9 (by omega) (by omega)
  rw[Fo.sh,Mu r _ _ d _ w4 (by rw[e];omega) (by rw[e];omega),e,Fo.byt];omega
 | .node k c kids r,m,l,d,s,hw,h0,h=>by
  simp only[Fo.wf,Ael,Aeh] at hw;obtain⟨⟨⟨⟨⟨w1,w2⟩,w3⟩,w5⟩,w6⟩,w4⟩:=hw;have h1:=I9 w4;have h2:=I9 w6;have h3:=O7 k;simp only[Fo.byt] at h;have e1:=QG k s h0 (by omega);have e:(JN d (NP k s) c).fBytes=s.fBytes+RI k+(c.fN+1):=by
   rw[JN,e1,Yh w2 w3 (by omega)];exact K9 (by omega) (by omega)
  have e2:=Mu kids _ _ (d+1) (JN d (NP k s) c) w6 (by rw[e];omega) (by rw[e];omega);rw[Fo.sh,Mu r _ _ d _ w4 (by rw[e2,e];omega) (by rw[e2,e];omega),e2,e,Fo.byt];omega
def II (s:Ae):Ae:=s.flatMap λc=>bif (decide (c=34)||decide (c=92)) then[92,c] else[c]
def LG (s:Ae):Ae:=34::(II s++[34])
theorem PM:∀s:Ae,(II s).length=s.length+s.count 34+s.count 92
 | []=>rfl
 | c::s=>by
  have ih:=PM s;unfold II at ih ⊢;rw[List.flatMap_cons,Aes,ih]
  by_cases h1:c=34
  ·subst h1;simp;omega
  ·by_cases h2:c=92
   ·subst h2;simp;omega
   ·simp[h1,h2,List.count_cons];omega
theorem SR (s:Ae):((LG s).length:Int)=Nl s:=by
 simp only[LG,Ae0,Aes,PM,AeU,Nl];omega
def I2 (c:Ab):Ae:=
 bif decide (c.fKind=1) then[110,117,108,108] else
 bif decide (c.fKind=2) then(bif decide (c.fInt=1) then[116,114,117,101] else[102,97,108,115,101]) else
 bif decide (c.fKind=3) then Lib.itoa c.fInt else
 bif decide (c.fKind=4) then LG c.fStr else
 bif decide (c.fKind=6) then[123,125] else[91,93]
def QV:Option Ae→Ae
 | none=>[]
 | some s=>LG s++[58]
def XC (c:Ab)(s:Ae):Ae:=bif decide (c.fKind=6) then 123::(s++[125]) else 91::(s++[93])
def J0 (first:Bool):Ae:=bif first then[] else[44]
def Fo.txt:Bool→Fo→Ae
 | _,.nil=>[]
 | b,.cell k c r=>J0 b++QV k++I2 c++r.txt false
 | b,.node k c kids r=>J0 b++QV k++XC c (kids.txt true)++r.txt false
theorem VO (k:Option Ae):((QV k).length:Int)=RI k:=by
 cases k with
 | none=>rfl
 | some s=>simp only[QV,Aes,RI,AeA];have:=SR s;omega
theorem QU {c:Ab}(hp:pl c=true):((I2 c).length:Int)=XN c:=by
  unfold I2 XN
  cases h1:decide (c.fKind=1) with
  | true=>rfl
  | false=>
    cases h2:decide (c.fKind=2) with
    | true=>
      simp[pl,h1,h2] at hp;simp only[Aem,Aeq]
      cases h7:decide (c.fInt=1) with
      | true=>simp only[Aeh] at h7;simp[h7]
      | false=>
                 simp only[Aei] at h7;have:c.fInt=0:=by omega
                 simp[this]
    | false=>
      cases h3:decide (c.fKind=3) with
      | true=>rfl
      | false=>
        cases h4:decide (c.fKind=4) with
        | true=>simpa using SR c.fStr
        | false=>cases h6:decide (c.fKind=6)<;>rfl
theorem MU (c:Ab)(s:Ae):(XC c s).length=s.length+2:=by
 unfold XC
 cases decide (c.fKind=6)<;>simp
theorem KG:∀(f:Fo) (m:Bool) (l:Option Ae) (b:Bool),f.wf m l=true→((f.txt b).length:Int)=f.byt+(bif b then((f.cnt-1:Nat):Int) else(f.cnt:Int))
 | .nil,m,l,b,_=>by cases b<;>rfl
 | .cell k c r,m,l,b,hw=>by
  simp only[Fo.wf,Ael,AeF] at hw;obtain⟨⟨⟨w1,w2⟩,w3⟩,w4⟩:=hw;have ih:=KG r _ _ false w4;have a:=VO k;have d:=QU w2;simp only[Aem] at ih
  cases b<;>simp only[Fo.txt,Fo.byt,Fo.cnt,J0,Aeq,Aem,Aes,AeU,AeA]<;>omega
 | .node k c kids r,m,l,b,hw=>by
  simp only[Fo.wf,Ael,Aeh] at hw;obtain⟨⟨⟨⟨⟨w1,w2⟩,w3⟩,w5⟩,w6⟩,w4⟩:=hw;have ih:=KG r _ _ false w4;have ih2:=KG kids _ _ true w6;have a:=VO k;have d:=MU c (kids.txt true);simp only[Aem,Aeq] at ih ih2
  cases b<;>simp only[Fo.txt,Fo.byt,Fo.cnt,J0,Aeq,Aem,Aes,AeU,AeA]<;>omega
def Fo.put (k:Option Ae):Fo→Fo→Fo
 | .cell _ c _,r=>.cell k c r
 | .node _ c kids _,r=>.node k c kids r
 | .nil,_=>.nil
theorem Y0 (P:Nat)(m:Bool)(last:Option Ae)(k:Nat)(xs:List Ab):Jq (P+2) m last (k+1) xs =
  match JO m last xs with
  | none=>none
  | some (key,ys)=>match Jq (P+2) false none 1 ys with
   | none=>none
   | some (f,zs)=>match Jq (P+1) m key k zs with
    | none=>none
    | some (r,us)=>some (f.put key r,us):=by
 rw[Jq]
 cases hk:JO m last xs with
 | none=>rfl
 | some p=>
  obtain⟨key,ys⟩:=p;simp only;rw[Jq];simp only[JO,Aem]
  cases ys with
  | nil=>rfl
  | cons c ys=>
   simp only
   cases hp:pl c with
   | false=>rfl
   | true=>
    simp only[Aeo,Aem]
    cases hn:decide (0<c.fN) with
    | true=>
     simp only[Aeq]
     cases hq:Jq (P+1) (decide (c.fKind=6)) none c.fN.toNat ys with
     | none=>rfl
     | some q=>
      obtain⟨kids,zs⟩:=q;simp only[Jq]
      cases hr:Jq (P+1) m key k zs with
      | none=>rfl
      | some q=>obtain⟨a,b⟩:=q;rfl
    | false=>
     simp only[Aem,Jq]
     cases hr:Jq (P+1) m key k ys with
     | none=>rfl
     | some q=>obtain⟨a,b⟩:=q;rfl
def Qq (m:Bool)(last:Option Ae)(k:Nat)(xs:List Ab):Option (Fo×List Ab):=Jq (xs.length+1) m last k xs
theorem Nm (m:Bool)(last:Option Ae)(xs:List Ab):Qq m last 0 xs=some (.nil,xs):=rfl
theorem KI (m:Bool)(last:Option Ae)(k:Nat)(xs:List Ab):Qq m last (k+1) xs =
  match JO m last xs with
  | none=>none
  | some (key,ys)=>match JP ys with
   | none=>none
   | some (f,zs)=>match Qq m key k zs with
    | none=>none
    | some (r,us)=>some (f.put key r,us):=by
 unfold Qq JP;rw[IZ (xs.length+1) (xs.length+2) m last (k+1) xs (by omega) (by omega),Y0]
 cases hk:JO m last xs with
 | none=>rfl
 | some p=>
  obtain⟨key,ys⟩:=p;have h1:=(O0 hk).1;have hy:ys.length≤xs.length:=by rw[h1];simp
  simp only;rw[IZ (xs.length+2) (ys.length+1) false none 1 ys (by omega) (by omega)]
  cases hf:Jq (ys.length+1) false none 1 ys with
  | none=>rfl
  | some q=>
   obtain⟨f,zs⟩:=q;have h2:=(IE _ _ _ _ _ _ _ hf).1;have hz:zs.length≤ys.length:=by rw[h2];simp
   simp only;rw[IZ (xs.length+1) (zs.length+1) m key k zs (by omega) (by omega)]
   all_goals (cases Jq (zs.length+1) m key k zs<;>rfl)
theorem VN {S O:Type}{body:S→Option (Stp S O)}{n:Nat}{s s':S}{o:O}(h:body s=some (.next s'))(h':Cl body n s'=some o):Cl body (n+1) s=some o:=by rw[Cl,h];exact h'
theorem NU {S O:Type}{body:S→Option (Stp S O)}{n:Nat}{s:S}{o:O}(h:body s=some (.out o)):Cl body (n+1) s=some o:=by rw[Cl,h]
theorem Y1:JP []=none:=rfl
theorem Nn (c:Ab)(r:List Ab):JP (c::r)=bif !pl c then none else bif decide (0<c.fN) then(match Qq (decide (c.fKind=6)) none c.fN.toNat r with
  | none=>none
  | some (kids,zs)=>some (.node none c kids .nil,zs)) else some (.cell none c .nil,r):=by
 unfold JP;rw[Jq];simp only[JO,Aem]
 cases hp:pl c with
 | false=>rfl
 | true=>
  simp only[Aeo,Aem]
  cases hn:decide (0<c.fN) with
  | true=>
   simp only[Aeq];unfold Qq;rw[Ae0]
   cases hq:Jq (r.length+1) (decide (c.fKind=6)) none c.fN.toNat r with
   | none=>rfl
   | some q=>obtain⟨kids,zs⟩:=q;rfl
  | false=>rfl
theorem SS {f:Fo}(h:f.one=true)(key:Option Ae)(r:Fo):(f.put key r).flat=CB key++(f.flat++r.flat):=by
 cases f with
 | nil=>cases h
 | cell k c r'=>
  cases k with
  | some s=>cases h
  | none=>cases r' with
   | nil=>simp[Fo.put,Fo.flat,CB]
   | cell _ _ _=>cases h
   | node _ _ _ _=>cases h
 | node k c kids r'=>
  cases k with
  | some s=>cases h
  | none=>cases r' with
   | nil=>simp[Fo.put,Fo.flat,CB]
   | cell _ _ _=>cases h
   | node _ _ _ _=>cases h
theorem SW {f:Fo}(h:f.one=true):1≤f.flat.length:=by
 cases f with
 | nil=>cases h
 | cell k c r'=>simp[Fo.flat];omega
 | node k c kids r'=>simp[Fo.flat];omega
theorem M3 {xs ys:List Ab}{f:Fo}(h:JP xs=some (f,ys)):xs=f.flat++ys∧f.wf false none=true∧f.one=true:=
 ⟨(IE _ _ _ _ _ _ _ h).1,(IE _ _ _ _ _ _ _ h).2.1,V4 h⟩
def Ls (v:List Ab)(i:Int):Int:=match JP (v.drop i.toNat) with
 | none=>-1
 | some (f,_)=>i+f.flat.length
def M9 (m:Bool)(last:Option Ae)(v:List Ab)(i:Int)(k:Nat):Int:=match Qq m last k (v.drop i.toNat) with
 | none=>-1
 | some (f,_)=>i+f.flat.length
theorem QO {v:List Ab}{i:Int}(h0:0≤i)(h1:i≤v.length):Ls v i = -1∨(i<Ls v i∧Ls v i≤v.length):=by
 unfold Ls
 cases h:JP (v.drop i.toNat) with
 | none=>exact .inl rfl
 | some q=>
  obtain⟨f,ys⟩:=q;obtain⟨h2,_,h3⟩:=M3 h;have:=SW h3;have hl:(v.drop i.toNat).length=f.flat.length+ys.length:=by rw[h2];simp
  rw[AeT] at hl
  right;simp only;omega
structure RfA (F M:Nat) (v:List Ab):Prop where
 hM:M≤1152921504606846976
 hv:v.length≤M
 hF:M<F
 hc:∀c∈v,c.fStr.length≤M
theorem Xa (ok:Bool){i:Int}(h0:0≤i)(h1:i≤1152921504606846976):Ds ok i=some (bif ok then i+1 else -1):=by
 unfold Ds
 cases ok
 ·rfl
 ·rw[Bx rfl,Bn (by omega) (by omega)];rfl
theorem V3 {F:Nat}{c:Ab}(hF:c.fStr.length<F)(hs:c.fStr.length≤1152921504606846976):Yz F c=some (decide (c.fKind=4)&&pl c):=by
 unfold Yz;rw[WX hF (by omega)];simp only[Option.isSome_some,ov,AeE,imp,Ae5,Bk,Aeq]
 cases h4:decide (c.fKind=4) with
 | false=>rfl
 | true=>
  simp only[Aeh] at h4;simp[pl,h4]
theorem Sb {v:List Ab}{i:Int}{c:Ab}{r:List Ab}(h0:0≤i)(h:v.drop i.toNat=c::r):An v i=c:=by
 have:=(G6 h0 h).1;simp[An,this]
section
variable {M : Nat} {v : List Ab}
theorem Lm {F:Nat}(hA:RfA F M v){g:List Ab→Int→Option Int}{n:Int}(hn:n≤9223372036854775807):∀(L:Nat) (i x:Int),0≤i→i≤v.length→0≤x→x≤n→(∀j,i≤j→j≤v.length→g v j=some (Ls v j))→v.length-i.toNat<L→
  ∃o,Cl (λσ=>EF v n g σ.1 σ.2) L (i,x)=some o∧Co (λν=>J1 ν) o=some (M9 false none v i (n-x).toNat)
 | 0,i,x,_,_,_,_,_,h=>by omega
 | L+1,i,x,h0,h1,hx,hxn,hg,hL=>by
  cases hxl:decide (x<n) with
  | false=>
   refine⟨.go i,NU (by show EF v n g i x=_;unfold EF;rw[Bp hxl]),?_⟩;simp only[Aei] at hxl;rw[show(n-x).toNat=0 from by omega];simp[Co,J1,M9,Nm,Fo.flat]
  | true=>
   have hb:EF v n g i x=BB (decide (Ls v i<0)) (some (.out (.ret (-1)))) (Bk (Cb .i64 (x+1))<|some (.next (Ls v i,x+1))):=by unfold EF;rw[Bx hxl,hg i (AeG i) h1,CH rfl]
   simp only[Aeh] at hxl;obtain⟨k,hk⟩:∃k,(n-x).toNat=k+1:=⟨(n-x).toNat-1,by omega⟩
   rw[hk];have e:M9 false none v i (k+1)=bif decide (Ls v i<0) then -1 else M9 false none v (Ls v i) k:=by
    unfold M9;rw[KI];simp only[JO,Aem]
    cases hp:JP (v.drop i.toNat) with
    | none=>simp[Ls,hp]
    | some q=>
     obtain⟨f,ys⟩:=q;obtain⟨q1,q2,q3⟩:=M3 hp;have hi:Ls v i=i+f.flat.length:=by simp[Ls,hp]
     have hd:v.drop (Ls v i).toNat=ys:=by rw[hi];exact Ei h0 q1
     rw[hd,Aej (by omega)];simp only[Aem]
     cases hr:Qq false none k ys with
     | none=>rfl
     | some q=>
      obtain⟨r,zs⟩:=q;simp only[SS q3,CB,List.nil_append,Aes,hi];omega
   rw[e];rcases QO (v:=v) h0 h1 with hneg | ⟨hlt,hle⟩
   ·exact⟨.ret (-1),NU (hb.trans (by rw[hneg,Bx (by decide)])),by rw[hneg];rfl⟩
   ·have hM:=hA.hM;have hvM:=hA.hv;obtain⟨o,ho1,ho2⟩:=Lm hA hn L (Ls v i) (x+1) (by omega) hle (by omega) (by omega) (λj hj=>hg j (by omega)) (by omega);exact⟨o,VN (hb.trans (by rw[Bp (Aej (by omega)),Bn (by omega) (by omega)])) ho1,by rw[ho2,show(n-(x+1)).toNat=k from by omega,Aej (by omega)];rfl⟩
theorem Pn {F:Nat}(hA:RfA F M v){g:List Ab→Int→Option Int}{n:Int}(hn:n≤9223372036854775807):∀(L:Nat) (i x:Int) (last:Ae),0≤i→i≤v.length→0≤x→x≤n→(∀j,i≤j→j≤v.length→g v j=some (Ls v j))→v.length-i.toNat<L→
  ∃o,Cl (λσ=>Gu F v n g σ.1 σ.2.1 σ.2.2) L (i,last,x)=some o∧Co (λν=>Nk ν) o=some (M9 true (bif decide (0<x) then some last else none) v i (n-x).toNat)
 | 0,i,x,_,_,_,_,_,_,h=>by omega
 | L+1,i,x,last,h0,h1,hx,hxn,hg,hL=>by
  have hM:=hA.hM;have hvM:=hA.hv;have hMF:=hA.hF
  cases hxl:decide (x<n) with
  | false=>
   refine⟨.go i,NU (by show Gu F v n g i last x=_;unfold Gu;rw[Bp hxl]),?_⟩;simp only[Aei] at hxl;rw[show(n-x).toNat=0 from by omega];simp[Co,Nk,M9,Nm,Fo.flat]
  | true=>
   have hxl':=hxl;simp only[Aeh] at hxl;obtain⟨k,hk⟩:∃k,(n-x).toNat=k+1:=⟨(n-x).toNat-1,by omega⟩
   rw[hk]
   cases hd:v.drop i.toNat with
   | nil=>
    have hl:v.length≤i.toNat:=by simpa using hd
    refine⟨.ret (-1),NU (by
     show Gu F v n g i last x=_;unfold Gu;rw[Bx hxl',C0 (by simp[imp,show(v.length:Int)≤i from by omega]),C0 (by simp[imp,show(v.length:Int)≤i from by omega]),Bx (by simp[show(v.length:Int)≤i from by omega])]),?_⟩
    simp[Co,M9,hd,KI,JO]
   | cons c r=>
    obtain⟨g1,g2,g3⟩:=G6 h0 hd;have hcM:=hA.hc c (Ae4 g1);have hat:=Sb h0 hd;have hnl:decide ((v.length:Int)≤i)=false:=by simp;omega
    have hb:Gu F v n g i last x=BB (!(decide (c.fKind=4)&&pl c)||decide (0<x)&&(Cz c.fStr last||decide (c.fStr=last))) (some (.out (.ret (-1)))) (Bs (g v (i+1)) λhe=>BB (decide (he<0)) (some (.out (.ret (-1)))) (Bk (Cb .i64 (x+1))<|some (.next (he,c.fStr,x+1)))):=by
     unfold Gu;rw[Bx hxl',C0 (by simp only[imp];rw[On h0 g3];simp),hat,V3 (by omega) (by omega),C0 (by simp[imp])];simp only[hnl,ov,AeE,Aey];rw[Bi h0 g3,Bn (by omega) (by omega)]
    have hpk:JO true (bif decide (0<x) then some last else none) (c::r)=bif (!(decide (c.fKind=4)&&pl c)||decide (0<x)&&(Cz c.fStr last||decide (c.fStr=last))) then none else some (some c.fStr,r):=by
     simp only[JO,Aeq]
     cases h4:decide (c.fKind=4) with
     | false=>simp
     | true=>
      cases hp:pl c with
      | false=>simp
      | true=>
       have hok:=(R6 hp (by simpa using h4)).2
       cases h0x:decide (0<x) with
       | false=>simp[Dw,hok]
       | true=>cases hs:(Cz c.fStr last||decide (c.fStr=last))<;>simp[Dw,hok,hs]
    cases ht:(!(decide (c.fKind=4)&&pl c)||decide (0<x)&&(Cz c.fStr last||decide (c.fStr=last))) with
    | true=>
     rw[ht] at hpk;refine⟨.ret (-1),NU (hb.trans (Bx ht)),?_⟩;simp only[M9,hd,KI,hpk,Aeq];rfl
    | false=>
     rw[ht] at hpk;rw[Bp ht,hg (i+1) (by omega) (by omega),CH rfl] at hb;have e:M9 true (bif decide (0<x) then some last else none) v i (k+1)=bif decide (Ls v (i+1)<0) then -1 else M9 true (some c.fStr) v (Ls v (i+1)) k:=by
      unfold M9;rw[hd,KI,hpk];simp only[Aem];have hx:Ls v (i+1)=match JP r with | none=>-1 | some (f,_)=>i+1+f.flat.length:=by unfold Ls;rw[g2]
      cases hp:JP r with
      | none=>rw[hp] at hx;simp[hx]
      | some q=>
       obtain⟨f,ys⟩:=q;obtain⟨q1,q2,q3⟩:=M3 hp;rw[hp] at hx;simp only at hx;have hd2:v.drop (Ls v (i+1)).toNat=ys:=by rw[hx];exact Ei (by omega) (g2.trans q1)
       rw[hd2,Aej (by omega)];simp only[Aem]
       cases hr:Qq true (some c.fStr) k ys with
       | none=>rfl
       | some q=>
        obtain⟨r',zs⟩:=q;simp only[SS q3,CB,Aes,Ae0,AeU,hx];omega
     rw[e];rcases QO (v:=v) (i:=i+1) (by omega) (by omega) with hneg | ⟨hlt,hle⟩
     ·exact⟨.ret (-1),NU (hb.trans (by rw[hneg,Bx (by decide)])),by rw[hneg];rfl⟩
     ·obtain⟨o,ho1,ho2⟩:=Pn hA hn L (Ls v (i+1)) (x+1) c.fStr (by omega) hle (by omega) (by omega) (λj hj=>hg j (by omega)) (by omega);exact⟨o,VN (hb.trans (by rw[Bp (Aej (by omega)),Bn (by omega) (by omega)])) ho1,by rw[ho2,show(n-(x+1)).toNat=k from by omega,Aek (show(0:Int)<x+1 from by omega),Aej (by omega)];rfl⟩
theorem Tg {i:Int}{c:Ab}{r:List Ab}(h0:0≤i)(hd:v.drop i.toNat=c::r)(hp:pl c=true):Ls v i=M9 (decide (c.fKind=6)) none v (i+1) c.fN.toNat:=by
 have g2:=(G6 h0 hd).2.1;have hN:=Aap hp;unfold Ls M9;rw[hd,Nn,g2,hp];simp only[Aeo,Aem]
 cases hn:decide (0<c.fN) with
 | true=>
  simp only[Aeq]
  cases hq:Qq (decide (c.fKind=6)) none c.fN.toNat r with
  | none=>rfl
  | some q=>
   obtain⟨kids,zs⟩:=q;simp only[Fo.flat,CB,List.nil_append,Ae0,List.append_nil];omega
 | false=>
  simp only[Aei] at hn;rw[show c.fN.toNat=0 from by omega,Nm];simp[Fo.flat,CB]
theorem Yy (hA:RfA (M+1) M v)(hN:∀c∈v,c.fN≤9223372036854775807):∀(d F:Nat) (i:Int),0≤i→i≤v.length→v.length-i.toNat=d→M+2*d+3<F→QJ F v i=some (Ls v i):=by
 have hM:=hA.hM;have hvM:=hA.hv;intro d
 induction d using Nat.strongRecOn with
 | ind d ih=>
  intro F i h0 h1 hd hF;obtain⟨F,rfl⟩:∃G,F=G+1:=⟨F-1,by omega⟩
  obtain⟨F,rfl⟩:∃G,F=G+1:=⟨F-1,by omega⟩
  rw[QJ];unfold Yx
  cases hdr:v.drop i.toNat with
  | nil=>
   have hl:v.length≤i.toNat:=by simpa using hdr
   rw[Bx (by simp;omega)];simp[Ls,hdr,Y1]
  | cons c r=>
   obtain⟨g1,g2,g3⟩:=G6 h0 hdr;have hcM:=hA.hc c (Ae4 g1);have hcN:=hN c (Ae4 g1);rw[Bp (by simp;omega),Bi h0 g3,Sb h0 hdr];simp only[Xa _ h0 (show i≤1152921504606846976 by omega),Option.isSome_some,ov,AeE,imp,Ae5,C0 (x:=_) (rfl:true=true)];have hg:∀j,i+1≤j→j≤v.length→QJ F v j=some (Ls v j):=λj hj hj2=>ih (v.length-j.toNat) (by omega) F j (by omega) hj2 rfl (by omega);have hpl0:pl c=false→Ls v i = -1:=λhp=>by simp[Ls,hdr,Nn,hp]
   have hleaf:pl c=true→c.fN=0→Ls v i=i+1:=λhp h0'=>by simp[Ls,hdr,Nn,hp,h0',Fo.flat,CB]
   have hscal:∀b:Bool,pl c=b→(b=true→c.fN=0)→Ls v i=bif b then i+1 else -1:=λb hb hz=>by
    cases b
    ·exact hpl0 hb
    ·exact hleaf hb (hz rfl)
   by_cases k1:c.fKind=1
   ·rw[Bx (by simp[k1])];have hp:pl c=(decide (c.fInt=0)&&(decide (c.fStr=[])&&decide (c.fN=0))):=by simp[pl,k1]
    rw[hscal _ hp (λh=>by simp at h;exact h.2.2)]
    cases decide (c.fInt=0)<;>cases decide (c.fStr=[])<;>cases decide (c.fN=0)<;>rfl
   rw[Bp (by simp[k1])]
   by_cases k2:c.fKind=2
   ·rw[Bx (by simp[k2])];have hp:pl c=((decide (c.fInt=0)||decide (c.fInt=1))&&(decide (c.fStr=[])&&decide (c.fN=0))):=by simp[pl,k2]
    rw[hscal _ hp (λh=>by simp at h;exact h.2.2)]
    cases decide (c.fInt=0)<;>cases decide (c.fInt=1)<;>cases decide (c.fStr=[])<;>cases decide (c.fN=0)<;>rfl
   rw[Bp (by simp[k2])]
   by_cases k3:c.fKind=3
   ·rw[Bx (by simp[k3])];have hp:pl c=(decide (c.fStr=[])&&decide (c.fN=0)):=by simp[pl,k3]
    rw[hscal _ hp (λh=>by simp at h;exact h.2)]
    cases decide (c.fStr=[])<;>cases decide (c.fN=0)<;>rfl
   rw[Bp (by simp[k3])]
   by_cases k4:c.fKind=4
   ·rw[Bx (by simp[k4]),V3 (by omega) (by omega),CH rfl,CH rfl];rw[Aek k4,Aex,hscal (pl c) rfl (λhp=>by have:=(R6 hp k4).1;rw[this])]
   rw[Bp (by simp[k4])]
   by_cases k5:c.fKind=5
   ·have hp:pl c=(decide (c.fInt=0)&&(decide (c.fStr=[])&&decide (0≤c.fN))):=by simp[pl,k5]
    rw[show(decide (c.fKind=5)&&(decide (c.fInt=0)&&(decide (c.fStr=[])&&decide (0≤c.fN))))=pl c from by rw[hp,Aek k5,Aex]];have k5' : ¬ c.fKind=6:=by omega
    cases hb:pl c with
    | false=>rw[Bp rfl,Bp (by simp[k5]),hpl0 hb]
    | true=>
     have hn0:=Aap hb;rw[Bx rfl,Bn (by omega) (by omega),QK];unfold Po;obtain⟨o,ho1,ho2⟩:=Lm (F:=F) ⟨hM,hvM,by omega,hA.hc⟩ hcN F (i+1) 0 (by omega) (by omega) (AeG 0) hn0 hg (by omega);rw[CH ho1,ho2,CH rfl,Tg h0 hdr hb,Aej k5',Int.sub_zero]
   rw[Bp (by simp[k5])]
   by_cases k6:c.fKind=6
   ·have hp:pl c=(decide (c.fInt=0)&&(decide (c.fStr=[])&&decide (0≤c.fN))):=by simp[pl,k6]
    rw[show(decide (c.fKind=6)&&(decide (c.fInt=0)&&(decide (c.fStr=[])&&decide (0≤c.fN))))=pl c from by rw[hp,Aek k6,Aex]]
    cases hb:pl c with
    | false=>rw[Bp rfl,hpl0 hb]
    | true=>
     have hn0:=Aap hb;rw[Bx rfl,Bn (by omega) (by omega),Yw];unfold V2;obtain⟨o,ho1,ho2⟩:=Pn (F:=F) ⟨hM,hvM,by omega,hA.hc⟩ hcN F (i+1) 0 [] (by omega) (by omega) (AeG 0) hn0 hg (by omega);rw[CH ho1,ho2,CH rfl,Tg h0 hdr hb,Aek k6,Int.sub_zero];rfl
   ·rw[Bp (by simp[k6]),hpl0 (by simp[pl,k1,k2,k3,k4,k5,k6])]
end
structure Gw (M:Nat) (v:List Ab):Prop where
 hM:M≤1000000000
 hv:v.length≤M
 hc:∀c∈v,c.fStr.length≤M∧Cb .i64 c.fInt=true∧c.fN≤9223372036854775807
theorem Gw.lk {M F:Nat}{v:List Ab}(h:Gw M v)(hF:M<F):Wr F M v:=⟨by have:=h.hM;omega,by have:=h.hM;omega,h.hv,hF,h.hc⟩
theorem Gw.rf {M F:Nat}{v:List Ab}(h:Gw M v)(hF:M<F):RfA F M v:=⟨by have:=h.hM;omega,h.hv,hF,λc hc=>(h.hc c hc).1⟩
theorem Gw.drop {M:Nat}{v:List Ab}(h:Gw M v)(k:Nat):Gw M (v.drop k):=⟨h.hM,by have:=h.hv;rw[AeT];omega,λc hc=>h.hc c (List.mem_of_mem_drop hc)⟩
theorem Gw.take {M:Nat}{v:List Ab}(h:Gw M v)(k:Nat):Gw M (v.take k):=⟨h.hM,by have:=h.hv;rw[Afb];omega,λc hc=>h.hc c (List.mem_of_mem_take hc)⟩
def whole (v:List Ab):Option Fo:=match JP v with
 | some (f,[])=>some f
 | _=>none
theorem OJ {v:List Ab}{f:Fo}(h:whole v=some f):v=f.flat∧f.wf false none=true∧f.one=true:=by
 unfold whole at h
 cases hp:JP v with
 | none=>rw[hp] at h;cases h
 | some q=>
  obtain⟨g,ys⟩:=q;rw[hp] at h
  cases ys with
  | cons _ _=>cases h
  | nil=>
   cases h
   obtain⟨h1,h2,h3⟩:=M3 hp;exact⟨by simpa using h1,h2,h3⟩
def Qw (f:Fo):Int:=
 bif f.flat.any U5 then 2 else bif f.flat.any Tu||(decide (200<f.flat.length)||(decide (8<f.dep)||decide (4000<(f.txt true).length))) then 3 else 0
def ET (v:List Ab):Int:=match whole v with
 | none=>1
 | some f=>Qw f
theorem V7 {f:Fo}(h1:f.one=true):f.cnt=1:=by
 cases f with
 | nil=>cases h1
 | cell k c r=>cases k with
  | some _=>cases h1
  | none=>cases r with
   | nil=>rfl
   | _=>cases h1
 | node k c kids r=>cases k with
  | some _=>cases h1
  | none=>cases r with
   | nil=>rfl
   | _=>cases h1
theorem R4 (s:Ae):Nl s≤2*s.length+2+s.length:=by
 have h1:s.count 34≤s.length:=List.count_le_length;have h2:s.count 92≤s.length:=List.count_le_length;unfold Nl;omega
theorem Aca {c:Ab}{M:Nat}(hp:pl c=true)(hs:c.fStr.length≤M)(hi:(Lib.itoa c.fInt).length≤21):XN c≤3*M+21:=by
 have:=R4 c.fStr;unfold XN
 cases h1:decide (c.fKind=1) with
 | true=>simp only[Aeq];omega
 | false=>
  cases h2:decide (c.fKind=2) with
  | true=>
   simp[pl,h1,h2] at hp;simp only[Aem,Aeq];omega
  | false=>
   cases h3:decide (c.fKind=3) with
   | true=>simp only[Aem,Aeq];omega
   | false=>cases h4:decide (c.fKind=4)<;>simp only[Aem,Aeq]<;>omega
theorem RX {M:Nat}:∀{f:Fo} {m:Bool} {l:Option Ae},f.wf m l=true→(∀c∈f.flat,c.fStr.length≤M∧Cb .i64 c.fInt=true∧c.fN≤9223372036854775807)→f.byt+f.cnt≤(3*M+24)*f.flat.length
 | .nil,_,_,_,_=>by simp[Fo.byt,Fo.flat,Fo.cnt]
 | .cell k c r,m,l,hw,hc=>by
  simp only[Fo.wf,Ael,AeF] at hw;obtain⟨⟨⟨w1,w2⟩,w3⟩,w4⟩:=hw;simp only[Fo.flat] at hc;have ih:=RX w4 (λx hx=>hc x (by simp[hx]));obtain⟨c1,c2,c3⟩:=hc c (by simp);have i64:=KO c2;have hl:=Aca w2 c1 (Lib.itoa_length_le c.fInt i64.1 i64.2);have hk:RI k≤(3*M+24)*(CB k).length:=by
   cases k with
   | none=>simp[RI,CB]
   | some s=>
    have:=(hc ⟨4,0,s,0⟩ (by simp[CB])).1;have h2:=R4 s;simp only at this;simp only[RI,CB,AeA];omega
  simp only[Fo.byt,Fo.flat,Fo.cnt,Aes,Ae0];have e:((3*(M:Int)+24)*(((CB k).length+(r.flat.length+1):Nat):Int))=(3*(M:Int)+24)*(CB k).length+((3*(M:Int)+24)*r.flat.length+(3*(M:Int)+24)):=by
   push_cast;rw[Int.mul_add,Int.mul_add,Int.mul_one]
  rw[e]
  push_cast at *
  omega
 | .node k c kids r,m,l,hw,hc=>by
  simp only[Fo.wf,Ael,Aeh] at hw;obtain⟨⟨⟨⟨⟨w1,w2⟩,w3⟩,w5⟩,w6⟩,w4⟩:=hw;simp only[Fo.flat] at hc;have ih:=RX w4 (λx hx=>hc x (by simp[hx]));have ih2:=RX w6 (λx hx=>hc x (by simp[hx]));have hcf:=DB kids;have hk:RI k≤(3*M+24)*(CB k).length:=by
   cases k with
   | none=>simp[RI,CB]
   | some s=>
    have:=(hc ⟨4,0,s,0⟩ (by simp[CB])).1;have h2:=R4 s;simp only at this;simp only[RI,CB,AeA];omega
  simp only[Fo.byt,Fo.flat,Fo.cnt,Aes,Ae0];have e:((3*(M:Int)+24)*(((CB k).length+(kids.flat.length+r.flat.length+1):Nat):Int))=(3*(M:Int)+24)*(CB k).length+((3*(M:Int)+24)*kids.flat.length+(3*(M:Int)+24)*r.flat.length+(3*(M:Int)+24)):=by
   push_cast;rw[Int.mul_add,Int.mul_add,Int.mul_add,Int.mul_one]
  rw[e]
  push_cast at *
  omega
theorem Rj {M:Nat}(hM:M≤2000000){f:Fo}{m:Bool}{l:Option Ae}(hw:f.wf m l=true)(hl:f.flat.length≤M)(hc:∀c∈f.flat,c.fStr.length≤M∧Cb .i64 c.fInt=true∧c.fN≤9223372036854775807):f.byt≤16000000000000:=by
 have:=RX (M:=M) hw hc;have h2:(3*M+24)*f.flat.length≤(3*2000000+24)*2000000:=Nat.mul_le_mul (by omega) (by omega);have h3:(((3*M+24)*f.flat.length:Nat):Int)=(3*(M:Int)+24)*f.flat.length:=by push_cast;rfl
 omega
theorem QC {M F:Nat}{v:List Ab}(hA:Gw M v)(hM:M≤2000000)(hF:M<F):Jv F v=some (ET v):=by
 unfold Jv ET whole;have hvM:=hA.hv;rcases AaB (hA.lk hF) with⟨f,ys,hp,hl⟩ | ⟨hp,sh',hl⟩
 ·rw[hl,CH rfl,hp];obtain⟨h1,h2,h3⟩:=M3 hp;have hlen:v.length=f.flat.length+ys.length:=by rw[h1];simp
  cases ys with
  | cons c r=>
   rw[Bx];simp only[Ae0] at hlen;simp;omega
  | nil=>
   simp only[AeU,Nat.add_zero] at hlen;rw[Bp (by simp[hlen])];have hc:∀c∈f.flat,c.fStr.length≤M∧Cb .i64 c.fInt=true∧c.fN≤9223372036854775807:=λc hc=>hA.hc c (by rw[h1];simp[hc]);have hb:=Rj hM h2 (by omega) hc;have hb0:=I9 h2;have e1:(f.sh 0 Pa).fOutside=f.flat.any U5:=by rw[Rw];rfl
   have e2:(f.sh 0 Pa).fLong=f.flat.any Tu:=by rw[Oy];rfl
   have e3:(f.sh 0 Pa).fDepth=f.dep:=by rw[Mt f 0 Pa (by simp[Pa])];simp[Pa]
   have e4:(f.sh 0 Pa).fBytes=(f.txt true).length:=by
    rw[Mu f false none 0 Pa h2 (by simp[Pa]) (by simp[Pa];omega),KG f false none true h2,V7 h3];simp[Pa]
   simp only;rw[e1,e2,e3,e4,hlen];unfold Qw
   cases f.flat.any U5 with
   | true=>rw[Bx rfl];rfl
   | false=>
    rw[Bp rfl];have a1:decide ((200:Int)<(f.flat.length:Int))=decide (200<f.flat.length):=by rw[AeP];simp;omega
    have a2:decide ((8:Int)<(f.dep:Int))=decide (8<f.dep):=by rw[AeP];simp;omega
    have a3:decide ((4000:Int)<((f.txt true).length:Int))=decide (4000<(f.txt true).length):=by rw[AeP];simp;omega
    rw[a1,a2,a3]
    cases(f.flat.any Tu||(decide (200<f.flat.length)||(decide (8<f.dep)||decide (4000<(f.txt true).length))))<;>rfl
 ·rw[hl,CH rfl,hp];rfl
theorem ZR {c:Ab}(hp:pl c=true)(hn:decide (0<c.fN)=false):(Fo.cell none c .nil).wf false none=true:=by simp[Fo.wf,Dw,hp,hn]
theorem ZQ {c:Ab}{kids:Fo}(hp:pl c=true)(hn:0<c.fN)(hk:c.fN=kids.cnt)(hw:kids.wf (decide (c.fKind=6)) none=true):(Fo.node none c kids .nil).wf false none=true:=by simp[Fo.wf,Dw,hp,hn,hk,hw];omega
section
variable {M : Nat} {v : List Ab}
theorem Gw.next (hA:Gw M v){F:Nat}(hF:3*M+3<F){p:Int}(h0:0≤p)(h1:p≤v.length):QJ F v p=some (Ls v p):=by
 have hM:=hA.hM;have hvM:=hA.hv;exact Yy (hA.rf (Aew M)) (λc hc=>(hA.hc c hc).2.2) (v.length-p.toNat) F p h0 h1 rfl (by omega)
theorem AaE {m:Bool}{last key:Option Ae}(h:Dw m last key=true):((CB key).length:Int)=bif m then 1 else 0:=by
  cases key with
  | none=>
            have:m=false:=by simpa[Dw] using h
            subst this;rfl
  | some s=>simp only[Dw,Ael] at h;rw[h.1.1];rfl
end
def TK (c:UInt8):Ae:=bif (decide (c=34)||decide (c=92)) then[92,c] else[c]
theorem Rb {s:Ae}{k:Nat}{c:UInt8}(h:s[k]? =some c):II (s.take (k+1))=II (s.take k)++TK c:=by
 rw[List.take_add_one,h];simp[II,List.flatMap_append,TK]
theorem Adl {s:Ae}{x:Int}{c:UInt8}(h:s[x.toNat]? =some c):decide (Cw s x=34)=decide (c=34):=by
 rw[O8 h,AeP,decide_eq_true_iff,decide_eq_true_iff,← UInt8.toNat_inj];show _↔c.toNat=34;omega
theorem Adk {s:Ae}{x:Int}{c:UInt8}(h:s[x.toNat]? =some c):decide (Cw s x=92)=decide (c=92):=by
 rw[O8 h,AeP,decide_eq_true_iff,decide_eq_true_iff,← UInt8.toNat_inj];show _↔c.toNat=92;omega
theorem R7 {R V:Type}(K:V→Option R)(v:V):Co K (.go v)=K v:=rfl
section
variable {M : Nat} {v : List Ab}
theorem AdO (a b c d e:Ae):(((a++b)++c)++d)++e=a++(b++(c++d)++e):=by simp
theorem AdP (a b c d:Ae):((a++b)++c)++d=a++([]++(b++c)++d):=by simp
theorem AdQ (a b c:Ae):(a++b)++c=a++(b++[]++c):=by simp
theorem AdR (a b:Ae):a++b=a++([]++[]++b):=by simp
end
section
variable {M : Nat} {v : List Ab}
theorem EZ {α:Type}[Inhabited α](a:α):ov (some a)=a:=rfl
end
theorem DJ {α:Type}{n:Nat}{x:Option α}(h:n≤140737488355328):Bk (D2 1 n) x=x:=C0 (Aek (by omega))
theorem H4 {α β:Type}(a:α)(k:α→Option β):JT a k=k a:=rfl
theorem Ht {α:Type}{n:Int}{x:Option α}(h:0≤n)(h':n≤255):Bk (Cb .u8 n) x=x:=C0 (AaO h h')
theorem ZA {s:Ae}{x:Int}{c:UInt8}(h:s[x.toNat]? =some c):UInt8.ofNat (Int.toNat (Cw s x))=c∧0≤Cw s x∧Cw s x≤255:=by
 have:=UInt8.toNat_lt c;rw[O8 h];refine⟨?_,by omega,by omega⟩;rw[← UInt8.toNat_inj];simp
theorem SC {s l:Ae}{x:Int}{c:UInt8}(h0:0≤x)(hx:x<(s.length:Int))(hs:s.length≤1152921504606846976)(hl:l.length+2≤140737488355328)(hc:s[x.toNat]? =some c):DK s x l=some (.next (x+1,l++TK c)):=by
 obtain⟨b1,b2,b3⟩:=ZA hc;unfold DK TK;rw[Bx (Aek hx),Bi h0 hx,Adl hc,Adk hc];have l1:(l++[UInt8.ofNat (Int.toNat 92)]).length=l.length+1:=by simp
 cases hq:(decide (c=34)||decide (c=92)) with
 | true=>
  rw[Bx rfl,DJ (by omega),Ht (by decide) (by decide),H4,l1,DJ (by omega),Ht b2 b3,H4,b1,Bn (by omega) (by omega),Afa];rfl
 | false=>
  rw[Bp rfl,DJ (by omega),Ht b2 b3,H4,b1,Bn (by omega) (by omega)];rfl
theorem Ya {l:Ae}(h:l.length+1≤140737488355328):Gq l=some (l++[34]):=by
 unfold Gq;rw[DJ h,H4];rfl
theorem Nd {F:Nat}{l s:Ae}(hF:s.length<F)(hl:(l++LG s).length≤140737488355328):L9 F l s=some (l++LG s):=by
 have hq:(LG s).length=(II s).length+2:=by simp[LG]
 rw[Aes,hq] at hl;have hesc:∀k,(II (s.take k)).length≤(II s).length:=λk=>by
  have:II s=II (s.take k)++II (s.drop k):=by rw[II,II,II,← List.flatMap_append,AeX]
  rw[this,Aes];omega
 have hsl:s.length≤(II s).length:=by rw[PM];omega
 obtain⟨o,h1,h2⟩:=HB (body:=λσ=>DK s σ.1 σ.2) (λσ=>0≤σ.1∧σ.1≤(s.length:Int)∧σ.2=l++[34]++II (s.take σ.1.toNat)) (λσ=>s.length-σ.1.toNat)
  (λo=>Co (λν=>Gq ν) o=some (l++LG s)) (λσ ⟨h0,hlx,ha⟩=>by
   obtain⟨x,out⟩:=σ;simp only at h0 hlx ha;show(∃s',DK s x out=_∧_)∨∃o,DK s x out=_∧_;have hol:out.length=l.length+1+(II (s.take x.toNat)).length:=by rw[ha];simp;omega
   have he:=hesc x.toNat
   by_cases hx:x<(s.length:Int)
   ·obtain⟨c,hc⟩:∃c,s[x.toNat]? =some c:=⟨s[x.toNat]'(by omega),Aep (by omega)⟩
    have he2:=hesc (x.toNat+1);rw[Rb hc,Aes] at he2;have hc1:1≤(TK c).length:=by unfold TK;cases(decide (c=34)||decide (c=92))<;>simp
    have a1:0≤x+1:=by omega
    have a2:x+1≤s.length:=by omega
    have a3:s.length-(x+1).toNat<s.length-x.toNat:=by omega
    have a4:out++TK c=l++[34]++II (s.take (x+1).toNat):=by rw[show(x+1).toNat=x.toNat+1 from by omega,Rb hc,ha,Afa]
    exact .inl ⟨(x+1,out++TK c),SC h0 hx (by omega) (by omega) hc,⟨a1,a2,a4⟩,a3⟩
   ·have e:x.toNat=s.length:=by omega
    rw[e,List.take_length] at ha;have hf:out++[34]=l++LG s:=by rw[ha];simp[LG]
    have hgo:DK s x out=some (.out (.go out)):=by unfold DK;rw[Bp (Aej hx)]
    exact .inr ⟨.go out,hgo,(R7 (λν=>Gq ν) out).trans ((Ya (by omega)).trans (congrArg some hf))⟩) F (0,l++[34]) ⟨AeG 0,by show(0:Int)≤s.length;omega,by show l++[34]=l++[34]++II (s.take 0);simp[II]⟩ (by show s.length-0<F;omega)
 unfold L9;rw[DJ (by omega),Ht (by decide) (by decide),H4];have hb:[UInt8.ofNat (Int.toNat 34)]=([34]:Ae):=rfl;rw[hb,CH h1,h2]
theorem OM {F:Nat}{l key:Ae}{x:List Ab}{first:Bool}{c:Ab}{k last:Option Ae}{tx:Ae}(hk:Dw (decide (c.fKind=6)) last k=true)(hkey:∀s,k=some s→key=s∧s.length<F)
  (hlen:(l++(J0 first++QV k++tx)).length≤140737488355328) (hw:∀l':Ae,(l'++tx).length≤140737488355328→GH F l' x=some (l'++tx)):EX (F+1) key x first l c=some (true,false,l++(J0 first++QV k++tx)):=by
 rw[EX];unfold Mi;have hd:[UInt8.ofNat (Int.toNat 44)]=([44]:Ae):=rfl;have hb:[UInt8.ofNat (Int.toNat 58)]=([58]:Ae):=rfl;have hlen':=hlen;simp only[Aes] at hlen'
 cases first with
 | true=>
  rw[Bp (p:=!true) rfl]
  cases hm:decide (c.fKind=6) with
  | true=>
   rw[hm] at hk
   cases k with
   | none=>simp[Dw] at hk
   | some s=>
    obtain⟨e1,e2⟩:=hkey s rfl;subst e1;simp only[QV,Aes,AeA] at hlen';have h1:(l++LG key).length≤140737488355328:=by rw[Aes];omega
    have e:((l++LG key)++[58])++tx=l++(J0 true++QV (some key)++tx):=AdP _ _ _ _;rw[← e] at hlen ⊢;rw[Bx rfl,Nd e2 h1,CH rfl,DJ (by rw[Aes];omega),Ht (by decide) (by decide),H4,hb,hw _ hlen,CH rfl]
  | false=>
   rw[hm] at hk
   cases k with
   | some s=>simp[Dw] at hk
   | none=>
    have e:l++tx=l++(J0 true++QV none++tx):=AdR _ _;rw[← e] at hlen ⊢;rw[Bp rfl,hw _ hlen,CH rfl]
 | false=>
  simp only[J0,Aem,AeA] at hlen';rw[Bx (p:=!false) rfl,DJ (by omega),Ht (by decide) (by decide),H4,hd]
  cases hm:decide (c.fKind=6) with
  | true=>
   rw[hm] at hk
   cases k with
   | none=>simp[Dw] at hk
   | some s=>
    obtain⟨e1,e2⟩:=hkey s rfl;subst e1;simp only[QV,Aes,AeA] at hlen';have h1:((l++[44])++LG key).length≤140737488355328:=by simp only[Aes,AeA];omega
    have e:(((l++[44])++LG key)++[58])++tx=l++(J0 false++QV (some key)++tx):=AdO _ _ _ _ _;rw[← e] at hlen ⊢;rw[Bx rfl,Nd e2 h1,CH rfl,DJ (by simp only[Aes,AeA];omega),Ht (by decide) (by decide),H4,hb,hw _ hlen,CH rfl]
  | false=>
   rw[hm] at hk
   cases k with
   | some s=>simp[Dw] at hk
   | none=>
    have e:(l++[44])++tx=l++(J0 false++QV none++tx):=AdQ _ _ _;rw[← e] at hlen ⊢;rw[Bp rfl,hw _ hlen,CH rfl]
section
variable {M : Nat}
theorem OR {F:Nat}{v:List Ab}{c:Ab}{at_ x:Int}{first:Bool}{l l2:Ae}{k last:Option Ae}{f1:Fo}{ys:List Ab}(hA:Gw M v)(hF:M<F)(hpc:An v 0=c)(hx:x<c.fN)(hx0:0≤x)(hcN:c.fN≤9223372036854775807)(h0:0≤at_)(hk:Dw (decide (c.fKind=6)) last k=true)
  (hd:v.drop at_.toNat=CB k++(f1.flat++ys)) (h1:f1.one=true) (hw:f1.wf false none=true) (hr:∀key,(∀s,k=some s→key=s)→EX F key f1.flat first l c=some (true,false,l2)) :
  DZ F v c (EX F) at_ x first l=some (.next (at_+(CB k).length+f1.flat.length,x+1,false,l2)):=by
 have hM:=hA.hM;have hvM:=hA.hv;have hd1:=Ei h0 hd;have hkl:=AaE hk;have hfl:=SW h1;have hll:(v.drop (at_+(CB k).length).toNat).length=f1.flat.length+ys.length:=by rw[hd1];simp
 rw[AeT] at hll;have hlook:JE F (v.drop (at_+(CB k).length).toNat)=some ((f1.flat.length:Int),f1.sh 0 Pa,true):=Ts ((hA.drop _).lk hF) h1 hw hd1;have htake:List.take (Int.toNat (at_+(CB k).length+(f1.flat.length:Int))-Int.toNat (at_+(CB k).length)) (v.drop (at_+(CB k).length).toNat)=f1.flat:=by
  rw[hd1,show Int.toNat (at_+(CB k).length+(f1.flat.length:Int))-Int.toNat (at_+(CB k).length)=f1.flat.length from by omega,List.take_left]
 have hmono:0≤at_+(CB k).length+f1.flat.length:=by omega
 unfold DZ;rw[hpc,Bx (Aek hx)]
 cases hm:decide (c.fKind=6) with
 | true=>
  rw[hm] at hk hkl
  cases k with
  | none=>simp[Dw] at hk
  | some s=>
   have e1:((CB (some s)).length:Int)=1:=rfl;rw[e1] at hlook htake hll hmono ⊢;have hats:(An v at_).fStr=s:=by
    have:v.drop at_.toNat=⟨4,0,s,0⟩::(f1.flat++ys):=by simpa[CB] using hd
    rw[Sb h0 this]
   have hin:at_<v.length:=by omega
   rw[Bx rfl,Bi h0 hin,Bn (by omega) (by omega),DC (by omega) (by omega),hlook,CH rfl,Bn (by omega) (by omega),DC (by omega) (by omega),DC (by omega) (by omega),htake,hats,hr s (λs' h=>by cases h;rfl),CH rfl];rw[Bp (p:=!true) rfl,Bn (by omega) (by omega)]
 | false=>
  rw[hm] at hk hkl
  cases k with
  | some s=>simp[Dw] at hk
  | none=>
   have e1:((CB none).length:Int)=0:=rfl;rw[e1,Int.add_zero] at hlook htake hll hmono ⊢;rw[Bp rfl,DC (by omega) (by omega),hlook,CH rfl,Bn (by omega) (by omega),DC (by omega) (by omega),DC (by omega) (by omega),htake,hr [] (λs' h=>by cases h),CH rfl];rw[Bp (p:=!true) rfl,Bn (by omega) (by omega)]
end
section
variable {M : Nat}
theorem MW (l:Ae)(c:UInt8):(l++[c]).length=l.length+1:=by rw[Aes,AeA]
theorem L8 {F:Nat}{l p:Ae}{v:List Ab}{c:Ab}{rf:Ae→(List Ab)→Bool→Ae→Ab→Option (Bool×Bool×Ae)}{rp:(List Ab)→Bool→Ae→Ab→Option (Bool×Ae)}(hc:An v 0=c)(hv:0<v.length)(hk:c.fKind=5∨c.fKind=6)(hlen:(l++XC c p).length≤140737488355328)
  (hp:∀l':Ae,l'.length=l.length+1→∃b,rp v true l' c=some (b,l'++p)):KD F rf rp l v=some (l++XC c p):=by
 have hbl:=MU c p;rw[Aes,hbl] at hlen;have i0:(0:Int)<(v.length:Int):=by omega
 unfold KD;rw[Bi (AeG 0) i0,hc,Bp (Aej (by omega)),Bp (Aej (by omega)),Bp (Aej (by omega)),Bp (Aej (by omega))];have b1:[UInt8.ofNat (Int.toNat (Cw ([123,125]:Ae) 0))]=([123]:Ae):=rfl;have b2:[UInt8.ofNat (Int.toNat (Cw ([123,125]:Ae) 1))]=([125]:Ae):=rfl;have b3:[UInt8.ofNat (Int.toNat (Cw ([91,93]:Ae) 0))]=([91]:Ae):=rfl;have b4:[UInt8.ofNat (Int.toNat (Cw ([91,93]:Ae) 1))]=([93]:Ae):=rfl;have c1:Cw ([123,125]:Ae) 0=123:=rfl;have c2:Cw ([123,125]:Ae) 1=125:=rfl;have c3:Cw ([91,93]:Ae) 0=91:=rfl;have c4:Cw ([91,93]:Ae) 1=93:=rfl;have n2:(([123,125]:Ae).length:Int)=2:=rfl;have n3:(([91,93]:Ae).length:Int)=2:=rfl
 cases h6:decide (c.fKind=6) with
 | true=>
  obtain⟨b,hb⟩:=hp _ (MW l 123);rw[Bx rfl,n2,Bi (by decide) (by decide),DJ (by omega),b1,b2,c1,c2,Ht (by decide) (by decide),H4,hb,CH rfl,Bi (by decide) (by decide)];have e:((l++[123])++p).length=l.length+1+p.length:=by rw[Aes,MW]
  rw[e,DJ (by omega),Ht (by decide) (by decide),H4];simp[XC,h6]
 | false=>
  obtain⟨b,hb⟩:=hp _ (MW l 91);rw[Bp rfl,n3,Bi (by decide) (by decide),DJ (by omega),b3,b4,c3,c4,Ht (by decide) (by decide),H4,hb,CH rfl,Bi (by decide) (by decide)];have e:((l++[91])++p).length=l.length+1+p.length:=by rw[Aes,MW]
  rw[e,DJ (by omega),Ht (by decide) (by decide),H4];simp[XC,h6]
theorem NM {F:Nat}{v:List Ab}{c:Ab}{at_ x:Int}{first:Bool}{l:Ae}{rf:Ae→(List Ab)→Bool→Ae→Ab→Option (Bool×Bool×Ae)}(hc:An v 0=c)(hx : ¬ x<c.fN):DZ F v c rf at_ x first l=some (.out (.go (first,l))):=by
 unfold DZ;rw[hc,Bp (Aej hx)]
theorem NL {F:Nat}{l:Ae}{c:Ab}(hp:pl c=true)(hn:decide (0<c.fN)=false)(hs:c.fStr.length<F+2)(hi:Cb .i64 c.fInt=true)(hlen:(l++I2 c).length≤140737488355328):GH (F+3) l [c]=some (l++I2 c):=by
 rw[GH];have hat:An [c] 0=c:=rfl;have i0:(0:Int)<(([c]:List Ab).length:Int):=by simp
 have hN : ¬ (0:Int)<c.fN:=by simpa using hn
 by_cases hb:c.fKind=5∨c.fKind=6
 ·have el:I2 c=XC c []:=by
   have k1:decide (c.fKind=1)=false:=Aej (by omega);have k2:decide (c.fKind=2)=false:=Aej (by omega);have k3:decide (c.fKind=3)=false:=Aej (by omega);have k4:decide (c.fKind=4)=false:=Aej (by omega);unfold I2 XC;rw[k1,k2,k3,k4];rfl
  rw[el] at hlen ⊢;refine L8 hat (by simp) hb hlen (λl' hl'=>⟨true,?_⟩);rw[H7];unfold IS;rw[Bi (AeG 0) i0,CH (NU (o:=.go (true,l')) (NM hat hN)),R7,List.append_nil];rfl
 ·unfold KD I2;unfold I2 at hlen;rw[Bi (AeG 0) i0,hat]
  cases k1:decide (c.fKind=1) with
  | true=>
   rw[k1] at hlen;simp only[Aeq] at hlen;rw[Bx rfl,DJ (by rw[Aes] at hlen;exact hlen),H4];rfl
  | false=>
  rw[k1] at hlen;simp only[Aem] at hlen;rw[Bp rfl]
  cases k2:decide (c.fKind=2) with
  | true=>
   rw[k2] at hlen;simp only[Aeq] at hlen;rw[Bx rfl];simp[pl,k1,k2] at hp;simp only[Aes] at hlen;rcases hp.1 with h0 | h1
   ·rw[h0] at hlen ⊢;have a:An ([([102,97,108,115,101]:Ae),([116,114,117,101]:Ae)]:List Ae) 0=[102,97,108,115,101]:=rfl;have hlen2:l.length+([102,97,108,115,101]:Ae).length≤140737488355328:=hlen;rw[Bi (by decide) (by decide),a,DJ hlen2,H4];rfl
   ·rw[h1] at hlen ⊢;have a:An ([([102,97,108,115,101]:Ae),([116,114,117,101]:Ae)]:List Ae) 1=[116,114,117,101]:=rfl;have hlen2:l.length+([116,114,117,101]:Ae).length≤140737488355328:=hlen;rw[Bi (by decide) (by decide),a,DJ hlen2,H4];rfl
  | false=>
  rw[k2] at hlen;simp only[Aem] at hlen;rw[Bp rfl]
  cases k3:decide (c.fKind=3) with
  | true=>
   rw[k3] at hlen;simp only[Aeq,Aes] at hlen;rw[Bx rfl,C0 hi,DJ hlen,H4];rfl
  | false=>
  rw[k3] at hlen;simp only[Aem] at hlen;rw[Bp rfl]
  cases k4:decide (c.fKind=4) with
  | true=>
   rw[k4] at hlen;simp only[Aeq] at hlen;rw[Bx rfl,Nd hs hlen,CH rfl];rfl
  | false=>
   exfalso;simp only[Aei] at k1 k2 k3 k4;simp[pl,k1,k2,k3,k4,show ¬ c.fKind=5 by omega,show ¬ c.fKind=6 by omega] at hp
theorem Gw.mem {v:List Ab}(hA:Gw M v){p:Int}{a b:List Ab}(h:v.drop p.toNat=a++b):Gw M a:=by
 have:=(hA.drop p.toNat).take a.length
 rwa [h,List.take_left] at this
theorem Qj:∀(g:Fo) (v:List Ab) (c:Ab) (F L:Nat) (at_ x:Int) (first:Bool) (l:Ae) (m:Bool) (last:Option Ae) (ys:List Ab),Gw M v→An v 0=c→decide (c.fKind=6)=m→c.fN≤9223372036854775807→g.wf m last=true→v.drop at_.toNat=g.flat++ys→0≤at_→c.fN=x+g.cnt→0≤x→(l++g.txt first).length≤140737488355328→g.cnt<L→M+5+3*g.flat.length<F→
  ∃o b,Cl (λσ=>DZ F v c (EX F) σ.1 σ.2.1 σ.2.2.1 σ.2.2.2) L (at_,x,first,l)=some o∧Co (λν=>HR ν.1 ν.2) o=some (b,l++g.txt first):=by
 intro g
 induction g with
 | nil=>
  intro v c F L at_ x first l m last ys hA hpc hm hcN hw hd h0 hN hx hlen hL hF
  obtain⟨L,rfl⟩:∃K,L=K+1:=⟨L-1,by omega⟩
  simp only[Fo.cnt] at hN;have hx' : ¬ x<c.fN:=by omega
  refine⟨.go (first,l),first,NU (NM hpc hx'),?_⟩;rw[R7,Fo.txt,List.append_nil];rfl
 | cell k cc r ih=>
  intro v c F L at_ x first l m last ys hA hpc hm hcN hw hd h0 hN hx hlen hL hF
  simp only[Fo.wf,Ael,AeF] at hw;obtain⟨⟨⟨w1,w2⟩,w3⟩,w4⟩:=hw;have hd2:v.drop at_.toNat=CB k++((Fo.cell none cc .nil).flat++(r.flat++ys)):=by rw[hd];simp[Fo.flat,CB]
  have hd1:=Ei h0 hd2;simp only[Fo.cnt] at hN hL;simp only[Fo.flat,Aes,Ae0] at hF;obtain⟨L,rfl⟩:∃K,L=K+1:=⟨L-1,by omega⟩
  obtain⟨F,rfl⟩:∃K,F=K+4:=⟨F-4,by omega⟩
  have hAe:=hA.mem hd1;have hcM:=hAe.hc cc (by simp[Fo.flat,CB]);have e:l++(Fo.cell k cc r).txt first=(l++(J0 first++QV k++I2 cc))++r.txt false:=by simp[Fo.txt]
  rw[e] at hlen ⊢;have hl2:(l++(J0 first++QV k++I2 cc)).length≤140737488355328:=by rw[Aes] at hlen;omega
  have hb:=OR (F:=F+4) (last:=last) hA (by omega) hpc (by omega) hx hcN h0 (by rw[hm];exact w1) hd2 rfl (ZR w2 w3) (first:=first) (l:=l) (λkey hkey=>
   OM (last:=last) (by rw[hm];exact w1) (λs hs=>⟨hkey s hs,by
    have hM:=hA.hM;subst hs;have:=(hA.hc ⟨4,0,s,0⟩ (List.mem_of_mem_drop (by rw[hd2];simp[CB]))).1;simp only at this;omega⟩) hl2 (λl' hl'=>NL (F:=F) w2 w3 (by omega) hcM.2.1 hl'))
  obtain⟨o,b,ho1,ho2⟩:=ih v c (F+4) L (at_+(CB k).length+((Fo.cell none cc .nil).flat.length:Int)) (x+1) false (l++(J0 first++QV k++I2 cc)) m k ys hA hpc hm hcN w4 (Ei (by omega) hd1) (by omega) (by omega) (by omega) hlen (by omega) (by omega);exact⟨o,b,VN hb ho1,ho2⟩
 | node k cc kids r ihk ih=>
  intro v c F L at_ x first l m last ys hA hpc hm hcN hw hd h0 hN hx hlen hL hF
  simp only[Fo.wf,Ael,Aeh] at hw;obtain⟨⟨⟨⟨⟨w1,w2⟩,w3⟩,w5⟩,w6⟩,w4⟩:=hw;have hd2:v.drop at_.toNat=CB k++((Fo.node none cc kids .nil).flat++(r.flat++ys)):=by rw[hd];simp[Fo.flat,CB]
  have hd1:=Ei h0 hd2;simp only[Fo.cnt] at hN hL;simp only[Fo.flat,Aes,Ae0] at hF;obtain⟨L,rfl⟩:∃K,L=K+1:=⟨L-1,by omega⟩
  obtain⟨F,rfl⟩:∃K,F=K+3:=⟨F-3,by omega⟩
  have hAe:=hA.mem hd1;have hfl:(Fo.node none cc kids .nil).flat=cc::kids.flat:=by simp[Fo.flat,CB]
  have hcM:=hAe.hc cc (by rw[hfl];simp);have hcf:=DB kids;have e:l++(Fo.node k cc kids r).txt first=(l++(J0 first++QV k++XC cc (kids.txt true)))++r.txt false:=by simp[Fo.txt]
  rw[e] at hlen ⊢;have hl2:(l++(J0 first++QV k++XC cc (kids.txt true))).length≤140737488355328:=by rw[Aes] at hlen;omega
  have hb:=OR (F:=F+3) (last:=last) hA (by omega) hpc (by omega) hx hcN h0 (by rw[hm];exact w1) hd2 rfl (ZQ w2 w3 w5 w6) (first:=first) (l:=l) (λkey hkey=>
   OM (last:=last) (by rw[hm];exact w1) (λs hs=>⟨hkey s hs,by
    have hM:=hA.hM;subst hs;have:=(hA.hc ⟨4,0,s,0⟩ (List.mem_of_mem_drop (by rw[hd2];simp[CB]))).1;simp only at this;omega⟩) hl2 (λl' hl'=>by
     rw[GH];have hat:An (Fo.node none cc kids .nil).flat 0=cc:=by rw[hfl];rfl
     have hlen0:0<(Fo.node none cc kids .nil).flat.length:=by rw[hfl];simp
     have hbl:=MU cc (kids.txt true);rw[Aes,hbl] at hl';have hb:∀l2:Ae,l2.length=l'.length+1→∃b,H7 (F+1) (Fo.node none cc kids .nil).flat true l2 cc=some (b,l2++kids.txt true):=λl2 hl2'=>by
       rw[H7];unfold IS;have i0:(0:Int)<((Fo.node none cc kids .nil).flat.length:Int):=by omega
       obtain⟨o,b,ho1,ho2⟩:=ihk (Fo.node none cc kids .nil).flat cc F F 1 0 true l2 _ none [] hAe hat rfl hcM.2.2 w6 (by rw[hfl];simp) (by decide) (by omega) (AeG 0) (by rw[Aes];omega) (by omega) (by omega);exact⟨b,by rw[Bi (AeG 0) i0,CH ho1,ho2]⟩
     exact L8 hat hlen0 (R5 w2 w3).1 (by rw[Aes,hbl];exact hl') hb))
  obtain⟨o,b,ho1,ho2⟩:=ih v c (F+3) L (at_+(CB k).length+((Fo.node none cc kids .nil).flat.length:Int)) (x+1) false (l++(J0 first++QV k++XC cc (kids.txt true))) m k ys hA hpc hm hcN w4 (Ei (by omega) hd1) (by omega) (by omega) (by omega) hlen (by omega) (by omega);exact⟨o,b,VN hb ho1,ho2⟩
theorem W7 {f:Fo}{F:Nat}{l:Ae}(hA:Gw M f.flat)(h1:f.one=true)(hw:f.wf false none=true)(hF:M+8+3*f.flat.length<F)(hlen:(l++f.txt true).length≤140737488355328):GH F l f.flat=some (l++f.txt true):=by
 have hM:=hA.hM;have hvM:=hA.hv
 cases f with
 | nil=>cases h1
 | cell k c r=>
  cases k with
  | some s=>cases h1
  | none=>
   cases r with
   | nil=>
    simp only[Fo.wf,Ael,AeF] at hw;have hfl:(Fo.cell none c .nil).flat=[c]:=by simp[Fo.flat,CB]
    have hcM:=hA.hc c (by rw[hfl];simp);have et:(Fo.cell none c .nil).txt true=I2 c:=by simp[Fo.txt,J0,QV]
    rw[et] at hlen ⊢;obtain⟨F,rfl⟩:∃K,F=K+3:=⟨F-3,by omega⟩
    rw[hfl];exact NL hw.1.1.2 hw.1.2 (by omega) hcM.2.1 hlen
   | cell _ _ _=>cases h1
   | node _ _ _ _=>cases h1
 | node k c kids r=>
  cases k with
  | some s=>cases h1
  | none=>
   cases r with
   | nil=>
    simp only[Fo.wf,Ael,Aeh] at hw;obtain⟨⟨⟨⟨⟨w1,w2⟩,w3⟩,w5⟩,w6⟩,w4⟩:=hw;have hfl:(Fo.node none c kids .nil).flat=c::kids.flat:=by simp[Fo.flat,CB]
    have hcM:=hA.hc c (by rw[hfl];simp);have et:(Fo.node none c kids .nil).txt true=XC c (kids.txt true):=by simp[Fo.txt,J0,QV]
    rw[et] at hlen ⊢;have hcf:=DB kids;have hat:An (Fo.node none c kids .nil).flat 0=c:=by rw[hfl];rfl
    have hlen0:0<(Fo.node none c kids .nil).flat.length:=by rw[hfl];simp
    have hl1:(Fo.node none c kids .nil).flat.length=kids.flat.length+1:=by rw[hfl];simp
    have hbl:=MU c (kids.txt true);obtain⟨F,rfl⟩:∃K,F=K+2:=⟨F-2,by omega⟩
    rw[GH];refine L8 hat hlen0 (R5 w2 w3).1 hlen (λl2 hl2=>?_);rw[Aes,hbl] at hlen;rw[H7];unfold IS;have i0:(0:Int)<((Fo.node none c kids .nil).flat.length:Int):=by omega
    obtain⟨o,b,ho1,ho2⟩:=Qj kids (Fo.node none c kids .nil).flat c F F 1 0 true l2 _ none [] hA hat rfl hcM.2.2 w6 (by rw[hfl];simp) (by decide) (by omega) (AeG 0) (by rw[Aes];omega) (by omega) (by omega);exact⟨b,by rw[Bi (AeG 0) i0,CH ho1,ho2]⟩
   | cell _ _ _=>cases h1
   | node _ _ _ _=>cases h1
def TO (v:List Ab):Ae×Int:=match whole v with
 | none=>([],1)
 | some f=>bif decide (Qw f=0) then(f.txt true,0) else([],Qw f)
theorem AaK (n:Int):Lib.itoa n≠[]:=by
 unfold Lib.itoa
 split
 ·simp
 ·intro h;have:=congrArg List.length h;rw[Lib.decDigits_length] at this;have:=Lib.nDigits_pos n.toNat;simp at *;omega
theorem Vp {f:Fo}(hw:f.wf false none=true)(h1:f.one=true):0<(f.txt true).length:=by
 have e:=KG f false none true hw
 cases f with
 | nil=>cases h1
 | cell k c r=>
  have h2:=I9 hw;simp only[Fo.txt,Aes];simp only[Fo.wf,Ael] at hw;have hp:=hw.1.1.2;have:0<(I2 c).length:=by
   have hl:=QU hp;have:0<XN c:=by
    unfold XN
    cases h1:decide (c.fKind=1) with
    | true=>simp
    | false=>
     cases h2:decide (c.fKind=2) with
     | true=>
      simp[pl,h1,h2] at hp;simp only[Aem,Aeq];omega
     | false=>
      cases h3:decide (c.fKind=3) with
      | true=>
       simp only[Aem,Aeq];have:Lib.itoa c.fInt≠[]:=AaK _;have:=List.length_pos_iff.2 this;omega
      | false=>
       cases h4:decide (c.fKind=4) with
       | true=>have:=M1 c.fStr;simp only[Aem,Aeq];omega
       | false=>simp
   omega
  omega
 | node k c kids r=>
  have:=MU c (kids.txt true);simp only[Fo.txt,Aes];omega
theorem Un {v:List Ab}(hA:Gw M v)(hM:M≤2000000){F:Nat}(hF:4*M+8<F):Ju F v=some (TO v):=by
 have hvM:=hA.hv;unfold Ju TO;rw[QC hA hM (by omega),CH rfl];unfold ET
 cases hwh:whole v with
 | none=>rfl
 | some f=>
  change BB (!decide (Qw f=0)) _ _=some (bif decide (Qw f=0) then(f.txt true,0) else([],Qw f))
  cases he:decide (Qw f=0) with
  | false=>rw[Bx (p:=!false) rfl];rfl
  | true=>
   obtain⟨h1,h2,h3⟩:=OJ hwh;have hl:v.length=f.flat.length:=by rw[h1]
   have hc:∀c∈f.flat,c.fStr.length≤M∧Cb .i64 c.fInt=true∧c.fN≤9223372036854775807:=λc hc=>hA.hc c (by rw[h1];exact hc);have hb:=Rj hM h2 (by omega) hc;have htl:((f.txt true).length:Int)=f.byt:=by rw[KG f false none true h2,V7 h3];simp
   have hA':Gw M f.flat:=by rw[← h1];exact hA
   have hw:=W7 (F:=F) (l:=[]) hA' h3 h2 (by omega) (by rw[List.nil_append];omega);rw[Bp (p:=!true) rfl,h1,hw,CH rfl,List.nil_append,C0 (Aek (Vp h2 h3))];rfl
end
def Yn (v:List Ab):Bool:=!decide (300<v.length)&&v.all λc=>!decide (300<c.fStr.length)
def Y9 (c:Ab):Bool:=Cb .i64 c.fKind&&Cb .i64 c.fInt&&okS c.fStr&&Cb .i64 c.fN
theorem Gw.of {v:List Ab}(hs:Yn v=true)(hc:v.all Y9=true):Gw 300 v:=by
 unfold Yn at hs;simp only[Ael,AeF,Aei,AeI] at hs hc;refine⟨by decide,by omega,λc h=>?_⟩;obtain h1:=hs.2 c h;obtain h2:=hc c h;unfold Y9 at h2;simp only[Ael] at h2;exact⟨by omega,h2.1.1.2,(KO h2.2).2⟩
theorem Pm {F:Nat}{v:List Ab}(hF:v.length<F)(hv:v.length≤1152921504606846976):BJ F v v=some true:=by
 unfold BJ;rw[Bp (by simp)];obtain⟨o,h1,h2⟩:=HB (body:=λσ=>HV v v σ) (λx=>0≤x∧x≤(v.length:Int)) (λx=>v.length-x.toNat) (λo=>Co (λ_=>Kb) o=some true) (λx ⟨h0,hl⟩=>by
  by_cases hx:x<(v.length:Int)
  ·refine .inl ⟨x+1,?_,⟨by omega,by omega⟩,by omega⟩;unfold HV;rw[Bx (Aek hx),Bi h0 hx,Bi h0 hx,Bp (by simp),Bn (by omega) (by omega)]
  ·exact .inr ⟨.go (),by unfold HV;rw[Bp (Aej hx)],rfl⟩) F 0 ⟨AeG 0,by omega⟩ (by show v.length-0<F;omega)
 rw[CH h1,h2]
section
variable {M : Nat}
end
theorem BN {α:Type}[Inhabited α]{l:List α}{i:Nat}(h:i<l.length):An l (i:Int)=l[i]:=by simp[An,h]
theorem K4 {α:Type}(p:Bool)(a b:α):BB p (some a) (some b)=some (bif p then a else b):=by cases p<;>rfl
theorem BR {α:Type}(a b:Option α):BB true a b=a:=rfl
theorem B4 {α:Type}(a b:Option α):BB false a b=b:=rfl
theorem CC {α:Type}(x:Option α):Bk true x=x:=rfl
theorem Zd (a:Bool):imp false a=true:=rfl
theorem Dx (a:Bool):imp a true=true:=by cases a<;>rfl
theorem AX {α β:Type}(a:α)(k:α→Option β):Bs (some a) k=k a:=rfl
theorem YR {S O:Type}{body:S→Option (Stp S O)}{n:Nat}{s s':S}(h:body s=some (.next s')):Cl body (n+1) s=Cl body n s':=by rw[Cl,h]
theorem RG {S O:Type}{body:S→Option (Stp S O)}{n:Nat}{s:S}{o:O}(h:body s=some (.out o)):Cl body (n+1) s=some o:=by rw[Cl,h]
theorem AaA {α R U:Type}{l:List α}{p:α→Bool}{ret:Nat→R}{body:Int→Option (Stp Int (Out R U))}{u:U}(hb:∀(i:Nat) (h:i<l.length),body (i:Int)=BB (p l[i]) (some (.out (.ret (ret i)))) (some (.next ((i:Int)+1))))(he:body (l.length:Int)=some (.out (.go u))) :
  ∀(d n i:Nat),i+d=l.length→d<n→Cl body n (i:Int)=some (match (l.drop i).findIdx? p with | some j=>.ret (ret (i+j)) | none=>.go u):=by
 intro d
 induction d with
 | zero=>
  intro n i h hn;obtain⟨n,rfl⟩:∃m,n=m+1:=⟨n-1,by omega⟩
  obtain rfl:i=l.length:=by omega
  rw[Cl,he,List.drop_length];rfl
 | succ d ih=>
  intro n i h hn;obtain⟨n,rfl⟩:∃m,n=m+1:=⟨n-1,by omega⟩
  have hi:i<l.length:=by omega
  rw[Cl,hb i hi,List.drop_eq_getElem_cons hi,List.findIdx?_cons]
  cases hp:p l[i] with
  | true=>simp[BB]
  | false=>
   have:=ih n (i+1) (by omega) (by omega);simp only[B4];refine this.trans ?_
   cases(List.drop (i+1) l).findIdx? p with
   | none=>rfl
   | some j=>simp only[Option.map_some,Aeu,AeB];rw[show i+1+j=i+(j+1) by omega]
theorem Ic {α R U:Type}{l:List α}{p:α→Bool}{ret:Nat→R}{body:Int→Option (Stp Int (Out R U))}{u:U}{F:Nat}(hF:l.length<F)(hb:∀(i:Nat) (h:i<l.length),body (i:Int)=BB (p l[i]) (some (.out (.ret (ret i)))) (some (.next ((i:Int)+1))))(he:body (l.length:Int)=some (.out (.go u))) :
  Cl body F 0=some (match l.findIdx? p with | some j=>.ret (ret j) | none=>.go u):=by
 have h:=AaA hb he l.length F 0 (by omega) hF;rw[List.drop_zero] at h;refine h.trans ?_
 cases l.findIdx? p with
 | none=>rfl
 | some j=>simp only[AeK]
def T4 {α:Type}(l:List α)(p:α→Bool):Int:=match l.findIdx? p with
 | some j=>(j:Int)
 | none=>-1
theorem ED {α:Type}(l:List α)(p:α→Bool):decide (0≤T4 l p)=l.any p:=by
 unfold T4
 cases h:l.findIdx? p with
 | none=>
  have:l.any p=false:=by
   rw[List.any_eq_false];intro x hx;simpa using List.findIdx?_eq_none_iff.1 h x hx
  rw[this];rfl
 | some j=>
  obtain⟨hj,h1,_⟩:=List.findIdx?_eq_some_iff_getElem.1 h;rw[List.any_eq_true.2 ⟨l[j],List.getElem_mem hj,h1⟩];exact Aek (Int.natCast_nonneg j)
theorem Nv {α:Type}{l:List α}{p:α→Bool}{body:Int→Option (Stp Int (Out Int Unit))}{F:Nat}(hF:l.length<F)(hb:∀(i:Nat) (h:i<l.length),body (i:Int)=BB (p l[i]) (some (.out (.ret (i:Int)))) (some (.next ((i:Int)+1))))(he:body (l.length:Int)=some (.out (.go ()))) :
  Bs (Cl body F 0) (Co λ_=>some (-1))=some (T4 l p):=by
 rw[Ic hF (ret:=λj:Nat=>(j:Int)) hb he,AX];unfold T4
 cases l.findIdx? p<;>rfl
def Oj {α β R:Type}(g:Nat→β→α→Out R β):Nat→β→List α→Out R β
 | _,acc,[]=>.go acc
 | i,acc,x::r=>match g i acc x with
  | .ret q=>.ret q
  | .go b=>Oj g (i+1) b r
def AcK {R β U:Type}(f:β→U):Out R β→Out R U
 | .ret q=>.ret q
 | .go b=>.go (f b)
def AcW {S R U β:Type}(mk:β→S):Out R β→Stp S (Out R U)
 | .ret q=>.out (.ret q)
 | .go b=>.next (mk b)
theorem YP {α β R S U:Type}{l:List α}{mk:Nat→β→S}{body:S→Option (Stp S (Out R U))}{fin:β→U}(g:Nat→β→α→Out R β)(P:Nat→β→Prop)
  (hb:∀(i:Nat) (h:i<l.length) (acc:β),P i acc→body (mk i acc)=some (AcW (mk (i+1)) (g i acc l[i]))∧∀b,g i acc l[i] = .go b→P (i+1) b)
  (he:∀acc,P l.length acc→body (mk l.length acc)=some (.out (.go (fin acc)))) :
  ∀(d i n:Nat) (acc:β),i+d=l.length→d<n→P i acc→Cl body n (mk i acc)=some (AcK fin (Oj g i acc (l.drop i)))∧∀b,Oj g i acc (l.drop i) = .go b→P l.length b:=by
 intro d
 induction d with
 | zero=>
  intro i n acc h hn hP;obtain⟨n,rfl⟩:∃m,n=m+1:=⟨n-1,by omega⟩
  obtain rfl:i=l.length:=by omega
  rw[Cl,he _ hP,List.drop_length];exact⟨rfl,λb hb=>by cases hb;exact hP⟩
 | succ d ih=>
  intro i n acc h hn hP;obtain⟨n,rfl⟩:∃m,n=m+1:=⟨n-1,by omega⟩
  have hi:i<l.length:=by omega
  obtain⟨h1,h2⟩:=hb i hi acc hP;rw[Cl,h1,List.drop_eq_getElem_cons hi,Oj]
  cases hg:g i acc l[i] with
  | ret q=>exact⟨rfl,λb hb=>by cases hb⟩
  | go b=>exact ih (i+1) n b (by omega) (by omega) (h2 b hg)
theorem KM {α β R S U:Type}{l:List α}{mk:Nat→β→S}{body:S→Option (Stp S (Out R U))}{fin:β→U}(g:Nat→β→α→Out R β)(P:Nat→β→Prop)
  (hb:∀(i:Nat) (h:i<l.length) (acc:β),P i acc→body (mk i acc)=some (AcW (mk (i+1)) (g i acc l[i]))∧∀b,g i acc l[i] = .go b→P (i+1) b)
  (he:∀acc,P l.length acc→body (mk l.length acc)=some (.out (.go (fin acc)))) {F:Nat} (hF:l.length<F) {a:β} (hP:P 0 a) :
  Cl body F (mk 0 a)=some (AcK fin (Oj g 0 a l))∧∀b,Oj g 0 a l = .go b→P l.length b:=by
 have h:=YP (fin:=fin) g P hb he l.length 0 F a (by omega) hF hP;rw[List.drop_zero] at h;exact h
theorem Ly (s w:Ae):DM s w=some (Kv s w):=by
 unfold DM Iv Kv;have:imp (decide ((w.length:Int)≤(s.length:Int))) (Lw (w.length:Int) (s.length:Int))=true:=by
  cases hd:decide ((w.length:Int)≤(s.length:Int)) with
  | false=>rfl
  | true=>simp only[imp];rw[Ach (by omega) (by simpa using hd)];rfl
 rw[C0 this,show Int.toNat (w.length:Int)=w.length from by omega];simp[Bs]
theorem Ka {s x:Ae}(h:s.length≤1000000000)(hx:x.length≤1000):Gr s x=some (IG s x):=by
 unfold Gr IG;have e:decide (x.length≤s.length)=decide ((x.length:Int)≤(s.length:Int)):=by simp
 rw[e]
 cases hd:decide ((x.length:Int)≤(s.length:Int)) with
 | false=>rfl
 | true=>
  have hd':(x.length:Int)≤(s.length:Int):=AeL hd;rw[Ji (by omega) (by omega),Ach (by omega) (by omega),Dx,CC,CC,show Int.toNat ((s.length:Int)-(x.length:Int))=s.length-x.length from by omega]
theorem PC {s:Ae}(h:s.length≤1000000000):Ey s=some (Ox s [42]):=by
 unfold Ey Jy H8 Ox;rw[Ka h (by decide),AX]
 cases hs:IG s [42] with
 | false=>rfl
 | true=>
  have hl:(1:Int)≤(s.length:Int):=by have:=UJ hs;simp only[AeA] at this;omega
  rw[BR,show(([42]:Ae).length:Int)=1 from rfl,Bn (by omega) (by omega),DC (by omega) (by omega),show Int.toNat ((s.length:Int)-1)=s.length-1 from by omega];rfl
theorem T5 {s:Ae}(h:s.length≤1000000000):Lx s=some (IG s [42]):=by
 unfold Lx KR;rw[Ka h (by decide)];rfl
theorem NW {s:Ae}(h:s.length≤1000000000):Jj s=some (Ps s):=by
 unfold Jj;rw[PC h,T5 h];simp only[Option.isSome_some,Dx,CC,EZ];rfl
theorem T6 {q:Ae}(h:q.length≤1000000000)(s:Ae):Kt q s=some (U9 q s):=by
 unfold Kt U9;rw[NW h,AX]
 cases Ps q with
 | false=>rfl
 | true=>
  simp only[Aeo,B4,Aex];rw[T5 h,AX]
  cases IG q [42] with
  | false=>rfl
  | true=>
   rw[BR,PC h,AX,Ly];rfl
structure Q0 (s:Ad):Prop where
 a:s.fActions.length≤2000000
 r:s.fResources.length≤2000000
 sa:∀x∈s.fActions,x.length≤1000000000
 sr:∀x∈s.fResources,x.length≤1000000000
abbrev FB:Nat:=5000000
theorem QX {l:List Ae}(hl:l.length≤2000000)(hs:∀x∈l,x.length≤1000000000):Nz FB l=some (l.any λx=>!Ps x):=by
 unfold Nz VQ;have:=Nv (l:=l) (p:=λx=>!Ps x) (F:=FB) (body:=Ih l) (by show l.length<5000000;omega) (λi h=>by
  unfold Ih M5;rw[Bx (Aek (by omega)),Bi (by omega) (by omega),BN h,NW (hs _ (List.getElem_mem h)),AX,AX,Bn (by omega) (by omega)]) (by unfold Ih;rw[Bp (Aej (by omega))])
 unfold Kr;rw[this,AX,ED]
theorem UK {l:List Ae}(hl:l.length≤2000000)(hs:∀x∈l,x.length≤1000000000)(s:Ae):MG FB l s=some (l.any λx=>U9 x s):=by
 unfold MG RJ;have:=Nv (l:=l) (p:=λx=>U9 x s) (F:=FB) (body:=GI l s) (by show l.length<5000000;omega) (λi h=>by
  unfold GI O2;rw[Bx (Aek (by omega)),Bi (by omega) (by omega),BN h,T6 (hs _ (List.getElem_mem h)),AX,AX,Bn (by omega) (by omega)]) (by unfold GI;rw[Bp (Aej (by omega))])
 unfold Jg;rw[this,AX,ED]
theorem QL {l:List Ae}(hl:l.length≤2000000)(hs:∀x∈l,x.length≤1000000000)(s:Ae):G2 FB l s=some (l.any λx=>U9 x s):=by
 unfold G2;rw[UK hl hs];rfl
def YV (l:List Ae):Bool:=decide ((l.length:Int)<1)||decide (8<(l.length:Int))
def U0 (s:Ad):Int:=bif YV s.fActions||YV s.fResources then 3 else bif (s.fActions.any λx=>!Ps x)||(s.fResources.any λx=>!Ps x) then 4 else 0
theorem Pq {s:Ad}(h:Q0 s):EY FB s=some (U0 s):=by
 unfold EY HX HW U0;rw[Ic (l:=[s.fActions,s.fResources]) (p:=YV) (ret:=λ_=>(3:Int)) (u:=()) (body:=Gf s) (by show 2<5000000;omega) (λi hi=>by
  unfold Gf;rw[Bx (Aek (by omega)),Bi (by omega) (by omega),BN hi,Bn (by simp at hi;omega) (by simp at hi;omega)];rfl) (by unfold Gf;rw[Bp (Aej (by omega))]),AX]
 have e2:∀x∈[s.fActions,s.fResources],Nz FB x=some (x.any λx=>!Ps x):=by
  intro x hx;simp only[AeQ,List.not_mem_nil,or_false] at hx;rcases hx with rfl | rfl
  ·exact QX h.a h.sa
  ·exact QX h.r h.sr
 rw[Ic (l:=[s.fActions,s.fResources]) (p:=λl=>l.any λx=>!Ps x) (ret:=λ_=>(4:Int)) (u:=()) (body:=Ge FB s) (by show 2<5000000;omega) (λi hi=>by
  unfold Ge;rw[Bx (Aek (by omega)),Bi (by omega) (by omega),BN hi,e2 _ (List.getElem_mem hi),AX,Bn (by simp at hi;omega) (by simp at hi;omega)]) (by unfold Ge;rw[Bp (Aej (by omega))]),AX]
 simp only[List.findIdx?_cons,List.findIdx?_nil]
 cases YV s.fActions<;>cases YV s.fResources<;>cases(s.fActions.any λx=>!Ps x)<;>cases(s.fResources.any λx=>!Ps x)<;>rfl
def US (allow:Bool)(action resource:Ae)(x:Ad):Bool:=(x.fAllow ==allow)&&(decide (U0 x=0)&&((x.fActions.any λy=>U9 y action)&&(x.fResources.any λy=>U9 y resource)))
theorem U2 {x:Ad}(h:Q0 x)(allow:Bool)(action resource:Ae):M4 FB x allow action resource=some (US allow action resource x):=by
 unfold M4;rw[Pq h,QL h.a h.sa,QL h.r h.sr];simp only[Option.isSome_some,Dx,CC,EZ];rfl
def Aao (l:List Ad)(action resource:Ae):C1:=
 bif l.any (US false action resource) then⟨false,T4 l (US false action resource)⟩ else⟨l.any (US true action resource),T4 l (US true action resource)⟩
theorem Ty {l:List Ad}(hl:l.length≤2000000)(h:∀x∈l,Q0 x)(allow:Bool)(action resource:Ae):Tz FB l allow action resource=some (T4 l (US allow action resource)):=by
 unfold Tz Kq;exact Nv (l:=l) (p:=US allow action resource) (F:=FB) (body:=Ig FB l allow action resource) (by show l.length<5000000;omega) (λi hi=>by
  unfold Ig;rw[Bx (Aek (by omega)),Bi (by omega) (by omega),BN hi,U2 (h _ (List.getElem_mem hi)),AX,Bn (by omega) (by omega)]) (by unfold Ig;rw[Bp (Aej (by omega))])
theorem SU {l:List Ad}(hl:l.length≤2000000)(h:∀x∈l,Q0 x)(action resource:Ae):Kc FB l action resource=some (Aao l action resource):=by
 unfold Kc Pp Aao;rw[Ty hl h,Ty hl h];simp only[AX,ED,K4]
def Qd (n low high:Int):Bool:=decide (low≤n)&&decide (n≤high)
def M0 (bits:Int):Int:=Hm .i64 1 (32-bits)-1
theorem SO {bits:Int}(h:Qd bits 0 32=true):0≤M0 bits∧M0 bits≤4294967295:=by
 unfold Qd at h;simp only[Ael,Aeh] at h;have key:∀k:Nat,k<33→0≤M0 (k:Int)∧M0 (k:Int)≤4294967295:=by decide +kernel
 have:=key bits.toNat (by omega)
 rwa [show((bits.toNat:Nat):Int)=bits from by omega] at this
theorem QP {bits:Int}(h:Qd bits 0 32=true):Ea bits=some (M0 bits):=by
 have h1:=SO h;unfold Qd at h;simp only[Ael,Aeh] at h;unfold Ea;rw[Bn (by omega) (by omega),C0 (Aek (by omega)),Bn (by unfold M0 at h1;omega) (by unfold M0 at h1;omega)];rfl
def XD (q:AG):Bool:=!Qd q.fAddr 0 4294967295||(!Qd q.fBits 0 32||(!Qd q.fLow 1 65535||!Qd q.fHigh q.fLow 65535))
def Ns (q:AG):Int:=bif XD q then 2 else bif !decide (Ze .i64 q.fAddr (M0 q.fBits)=0) then 1 else 0
theorem RD (n a b:Int):D7 n a b=some (Qd n a b):=rfl
theorem P0 (q:AG):D8 q=some (Ns q):=by
 unfold D8 Ns;simp only[RD,Option.isSome_some,Dx,CC,EZ];rw[show((!Qd q.fAddr 0 4294967295)||((!Qd q.fBits 0 32)||((!Qd q.fLow 1 65535)||(!Qd q.fHigh q.fLow 65535))))=XD q from rfl]
 cases hb:XD q with
 | true=>rfl
 | false=>
  have h1:Qd q.fBits 0 32=true:=by
   unfold XD at hb;simp only[AeN,AeY] at hb;exact hb.2.1
  rw[B4,QP h1,AX,K4];rfl
def YG (addr port:Int)(q:AG):Bool:=decide (Ns q=0)&&(Qd addr q.fAddr (q.fAddr+M0 q.fBits)&&Qd port q.fLow q.fHigh)
theorem Xg {q:AG}(h:Ns q=0):Qd q.fAddr 0 4294967295=true∧Qd q.fBits 0 32=true:=by
 unfold Ns at h
 cases hb:XD q with
 | true=>rw[hb] at h;cases h
 | false=>
  unfold XD at hb;simp only[AeN,AeY] at hb;exact⟨hb.1,hb.2.1⟩
theorem RC (q:AG)(addr port:Int):Jd q addr port=some (YG addr port q):=by
 unfold Jd YG;rw[P0];have e:decide (ov (some (Ns q))=0)=decide (Ns q=0):=rfl;rw[e]
 cases hd:decide (Ns q=0) with
 | false=>simp only[Zd,CC,Aez,Option.isSome_some]
 | true=>
  simp only[Option.isSome_some,Dx,CC,RD,EZ];obtain⟨h1,h2⟩:=Xg (AeL hd);have h3:=SO h2;unfold Qd at h1;simp only[Ael,Aeh] at h1;rw[QP h2];simp only[Option.isSome_some,Dx,CC,EZ];rw[Ji (by omega) (by omega)];simp only[Dx,CC]
def AbS (l:List AG)(addr port:Int):C1:=match l.findIdx? (YG addr port) with
 | some j=>⟨(An l (j:Int)).fAllow,j⟩
 | none=>⟨false,-1⟩
theorem Ti {l:List AG}(hl:l.length≤2000000)(addr port:Int):Hj FB l addr port=some (AbS l addr port):=by
 unfold Hj AbS;rw[Ic (l:=l) (p:=YG addr port) (ret:=λj:Nat=>(⟨(An l (j:Int)).fAllow,(j:Int)⟩:C1)) (u:=()) (body:=E8 l addr port) (by show l.length<5000000;omega) (λi hi=>by
  unfold E8;rw[Bx (Aek (by omega)),Bi (by omega) (by omega),BN hi,RC,AX,Bn (by omega) (by omega)]) (by unfold E8;rw[Bp (Aej (by omega))]),AX]
 cases l.findIdx? (YG addr port)<;>rfl
def Dg:Ae→List Ae
 | []=>[[]]
 | c::r=>bif decide (c=46) then[]::Dg r else match Dg r with
  | p::ps=>(c::p)::ps
  | []=>[]
theorem LA:∀s:Ae,(Dg s).length=Lib.countByte s 46+1
 | []=>rfl
 | c::r=>by
  have ih:=LA r;unfold Lib.countByte at *;rw[Dg,List.count_cons]
  by_cases hc:c=46
  ·subst hc;simp[ih]
  ·rw[Aej hc,Aem];have:(c ==46)=false:=by simp[hc]
   rw[this]
   cases h:Dg r with
   | nil=>rw[h] at ih;simp at ih
   | cons p ps=>rw[h] at ih;simpa using ih
theorem Ng:∀{s:Ae},0≤Lib.indexByte s 46→Dg s=s.take (Lib.indexByte s 46).toNat::Dg (s.drop ((Lib.indexByte s 46).toNat+1))
 | [],h=>by simp[Lib.indexByte] at h
 | c::r,h=>by
  unfold Lib.indexByte at h ⊢
  by_cases hc:c=46
  ·subst hc;simp[Dg]
  ·have h1:(c ==46)=false:=by simp[hc]
   rw[h1] at h ⊢;simp only[Aeu,AeB] at h ⊢;have hg:=(RM r 46).1;have h2:(Lib.indexByte r 46 == -1)=false:=by
    by_cases h3:Lib.indexByte r 46 = -1
    ·rw[h3] at h;simp at h
    ·simp[h3]
   rw[h2] at h ⊢;simp only[Aeu,AeB] at h ⊢;have h3:0≤Lib.indexByte r 46:=by simp at h2;omega
   have ih:=Ng h3;rw[Dg,Aej hc,Aem,ih,show Int.toNat (Lib.indexByte r 46+1)=(Lib.indexByte r 46).toNat+1 from by omega];simp
theorem Nf:∀{s:Ae},Lib.indexByte s 46<0→Dg s=[s]
 | [],h=>rfl
 | c::r,h=>by
  unfold Lib.indexByte at h
  by_cases hc:c=46
  ·subst hc;simp at h
  ·have h1:(c ==46)=false:=by simp[hc]
   rw[h1] at h;simp only[Aeu,AeB] at h;have hg:=(RM r 46).1;have h3:Lib.indexByte r 46<0:=by
    by_cases h4:Lib.indexByte r 46 = -1
    ·omega
    ·rw[show(Lib.indexByte r 46 == -1)=false from by simp[h4]] at h;simp at h;omega
   rw[Dg,Aej hc,Aem,Nf h3]
theorem WU (x:Ae):Ph x=some (Lib.indexByte x 46):=by
 unfold Ph VP
 by_cases h:([46]:Ae)=x
 ·subst h;rfl
 ·rw[Bp (Aej h),Bi (by decide) (by decide),AX];rfl
theorem PS {α β:Type}(a:α)(f:α→Option β):JT a f=f a:=rfl
theorem Ur (s:Ae)(hs:s.length≤1000000000):∀(k:Nat) (x:Ae) (dn:List Ae) (n:Nat),(Dg x).length=k+1→dn.length+k=Lib.countByte s 46→k<n→x.length≤1000000000→
  Bs (Cl (λσ=>CW s σ.1 σ.2.1 σ.2.2) n (x,(dn.length:Int),dn++List.replicate (k+1) ([]:Ae))) (Co λν=>DV ν.1 ν.2.1 ν.2.2)=some (dn++Dg x):=by
 have hc:Lib.countByte s 46≤s.length:=List.count_le_length;have hmin:min ((Lib.countByte s 46:Int)+1) ((s.length:Int)+1)-1=(Lib.countByte s 46:Int):=by omega
 intro k
 induction k with
 | zero=>
  intro x dn n hl hk hn hx;obtain⟨n,rfl⟩:∃m,n=m+1:=⟨n-1,by omega⟩
  have h0:Lib.indexByte x 46<0:=by
   by_cases h:0≤Lib.indexByte x 46
   ·have:=Ng h;rw[this] at hl;have h2:=LA (x.drop ((Lib.indexByte x 46).toNat+1));simp only[Ae0] at hl;omega
   ·omega
  have hbody:CW s x (dn.length:Int) (dn++List.replicate 1 ([]:Ae))=some (.out (.go (x,(dn.length:Int),dn++List.replicate 1 ([]:Ae)))):=by
   unfold CW;rw[hmin,Bp (Aej (by omega))]
  rw[RG (body:=λσ=>CW s σ.1 σ.2.1 σ.2.2) hbody,AX];show DV x (dn.length:Int) (dn++List.replicate 1 ([]:Ae))=_;unfold DV;rw[PS];have e1:List.set (dn++List.replicate 1 ([]:Ae)) (Int.toNat (dn.length:Int)) x=dn++[x]:=by
   rw[show Int.toNat (dn.length:Int)=dn.length from by omega];simp[List.set_append]
  rw[e1,Bi (by omega) (by simp;omega),Bn (by omega) (by omega),DC (by omega) (by simp),Nf h0,show Int.toNat ((dn.length:Int)+1)=(dn++[x]).length from by simp,List.take_length]
 | succ k ih=>
  intro x dn n hl hk hn hx;obtain⟨n,rfl⟩:∃m,n=m+1:=⟨n-1,by omega⟩
  have h0:0≤Lib.indexByte x 46:=by
   by_cases h:0≤Lib.indexByte x 46
   ·exact h
   ·rw[Nf (by omega)] at hl;simp at hl
  have hb:=(RM x 46).2;have e:=Ng h0;rw[e] at hl;simp only[Ae0] at hl;have hd:(Dg (x.drop ((Lib.indexByte x 46).toNat+1))).length=k+1:=by omega
  have e1:List.set (dn++List.replicate (k+1+1) ([]:Ae)) (Int.toNat (dn.length:Int)) (List.take (Int.toNat (Lib.indexByte x 46+0)) x)=(dn++[x.take (Lib.indexByte x 46).toNat])++List.replicate (k+1) ([]:Ae):=by
   rw[show Int.toNat (dn.length:Int)=dn.length from by omega,show Lib.indexByte x 46+0=Lib.indexByte x 46 from by omega];rw[List.replicate_succ];simp[List.set_append]
  have hbody:CW s x (dn.length:Int) (dn++List.replicate (k+1+1) ([]:Ae))=some (.next (x.drop ((Lib.indexByte x 46).toNat+1),((dn++[x.take (Lib.indexByte x 46).toNat]).length:Int),(dn++[x.take (Lib.indexByte x 46).toNat])++List.replicate (k+1) ([]:Ae))):=by
   unfold CW;rw[hmin,Bx (Aek (by omega)),WU,AX,Bp (Aej (by omega)),Bn (by omega) (by omega),DC (by omega) (by omega),Bi (by omega) (by simp;omega)];rw[PS,e1,Bn (by omega) (by omega),DC (by omega) (by omega),Bn (by omega) (by omega)];rw[show Int.toNat (Lib.indexByte x 46+1)=(Lib.indexByte x 46).toNat+1 from by omega,show((dn.length:Int)+1)=((dn++[x.take (Lib.indexByte x 46).toNat]).length:Int) from by simp]
  have:=ih (x.drop ((Lib.indexByte x 46).toNat+1)) (dn++[x.take (Lib.indexByte x 46).toNat]) n hd (by simp;omega) (by omega) (by rw[AeT];omega);rw[YR (body:=λσ=>CW s σ.1 σ.2.1 σ.2.2) hbody];refine this.trans ?_;rw[e];simp
theorem WT {s:Ae}(hs:s.length≤2000000):Pg FB s=some (Dg s):=by
 have hc:Lib.countByte s 46≤s.length:=List.count_le_length;unfold Pg MP;rw[Bn (by omega) (by omega),Bn (by omega) (by omega),C0 (show D2 16 _=true from Aek (by omega)),C0 (Aek (by omega)),Bn (by omega) (by omega)];have:=Ur s (by omega) (Lib.countByte s 46) s [] FB (LA s) (by simp) (by show Lib.countByte s 46<5000000;omega) (by omega);rw[show Int.toNat (min ((Lib.countByte s 46:Int)+1) ((s.length:Int)+1))=Lib.countByte s 46+1 from by omega];rw[show Bs (Cl (λσ=>CW s σ.1 σ.2.1 σ.2.2) FB (s,0,List.replicate (Lib.countByte s 46+1) ([]:Ae))) (Co λν=>DV ν.1 ν.2.1 ν.2.2)=some (Dg s) from this,AX]
theorem Jz:∀{s:Ae} {p:Ae},p∈Dg s→p.length≤s.length
 | [],p,h=>by simp[Dg] at h;subst h;simp
 | c::r,p,h=>by
  rw[Dg] at h
  by_cases hc:c=46
  ·rw[Aek hc,Aeq] at h;rcases List.mem_cons.1 h with rfl | h
   ·simp
   ·have:=Jz h;simp;omega
  ·rw[Aej hc,Aem] at h
   cases hr:Dg r with
   | nil=>rw[hr] at h;cases h
   | cons q qs=>
    rw[hr] at h;rcases List.mem_cons.1 h with rfl | h
    ·have:=Jz (s:=r) (p:=q) (by rw[hr];simp);simp;omega
    ·have:=Jz (s:=r) (p:=p) (by rw[hr];simp[h]);simp;omega
theorem Vi {n:Nat}(h:n<9223372036854775808):IntKind.i64.wrap (n:Int)=(n:Int):=by
 rw[IntKind.wrap_i64];omega
theorem PB {a k:Nat}(h:a*2 ^ k<9223372036854775808)(hk:k≤64):Hm .i64 (a:Int) (k:Int)=((a*2 ^ k:Nat):Int):=by
 unfold Hm;have e:(a:Int)*2 ^ k=((a*2 ^ k:Nat):Int):=by simp
 rw[show min (Int.toNat (k:Int)) (IntKind.bits .i64)=k from by show min (Int.toNat (k:Int)) 64=k;omega,e,Vi h]
theorem RN {a b:Nat}(ha:a<4611686018427387904)(hb:b<4611686018427387904):Ud .i64 (a:Int) (b:Int)=((a||| b:Nat):Int):=by
 unfold Ud;have h1:a||| b<4611686018427387904:=Nat.or_lt_two_pow (n:=62) ha hb;rw[show(IntKind.bits .i64)=64 from rfl,BitVec.ofInt_natCast,BitVec.ofInt_natCast,BitVec.toNat_or,BitVec.toNat_ofNat,BitVec.toNat_ofNat,Nat.mod_eq_of_lt (by omega),Nat.mod_eq_of_lt (by omega)];exact Vi (by omega)
theorem U6 {a b k:Nat}(h:b<2 ^ k):a*2 ^ k||| b=a*2 ^ k+b:=by
 have:=Nat.shiftLeft_add_eq_or_of_lt h a;rw[Nat.shiftLeft_eq] at this;exact this.symm
theorem or4 {a b c d:Nat}(ha:a<256)(hb:b<256)(hc:c<256)(hd:d<256) :
  Ud .i64 (Ud .i64 (Ud .i64 (Hm .i64 (a:Int) 24) (Hm .i64 (b:Int) 16)) (Hm .i64 (c:Int) 8)) (d:Int)=(((a*256+b)*256+c)*256+d:Nat):=by
 rw[show(24:Int)=((24:Nat):Int) from rfl,show(16:Int)=((16:Nat):Int) from rfl,show(8:Int)=((8:Nat):Int) from rfl];rw[PB (by omega) (by omega),PB (by omega) (by omega),PB (by omega) (by omega)];have e1:a*2 ^ 24||| b*2 ^ 16=a*2 ^ 24+b*2 ^ 16:=U6 (by omega);rw[RN (by omega) (by omega),e1,RN (by omega) (by omega)];have e2:(a*2 ^ 24+b*2 ^ 16)||| c*2 ^ 8=(a*2 ^ 24+b*2 ^ 16)+c*2 ^ 8:=by
  have:=U6 (a:=a*2 ^ 8+b) (b:=c*2 ^ 8) (k:=16) (by omega);rw[show(a*2 ^ 8+b)*2 ^ 16=a*2 ^ 24+b*2 ^ 16 from by omega] at this;exact this
 rw[e2,RN (by omega) (by omega)];have e3:(a*2 ^ 24+b*2 ^ 16+c*2 ^ 8)||| d=(a*2 ^ 24+b*2 ^ 16+c*2 ^ 8)+d:=by
  have:=U6 (a:=a*2 ^ 16+b*2 ^ 8+c) (b:=d) (k:=8) (by omega);rw[show(a*2 ^ 16+b*2 ^ 8+c)*2 ^ 8=a*2 ^ 24+b*2 ^ 16+c*2 ^ 8 from by omega] at this;exact this
 rw[e3];have e4:a*2 ^ 24+b*2 ^ 16+c*2 ^ 8+d=((a*256+b)*256+c)*256+d:=by omega
 rw[e4]
def SY (p:Ae):Bool:=decide (Ep p=0)&&Qd (C7 p) 0 255
def XX (l:List Ae):Int:=l.foldl (λa p=>256*a+C7 p) 0
def Wo (s:Ae):Int×Int:=bif decide ((Dg s).length=4)&&(Dg s).all SY then(XX (Dg s),0) else(0,1)
theorem Vx {α β R:Type}(ok:α→Bool)(f:Nat→β→α→β)(q:R):∀(l:List α) (i:Nat) (a:β),l.all ok=false→Oj (λi acc x=>bif ok x then Out.go (f i acc x) else Out.ret q) i a l=Out.ret q
 | [],i,a,h=>by simp at h
 | x::l,i,a,h=>by
  rw[Oj]
  cases hx:ok x with
  | false=>rfl
  | true=>
   rw[List.all_cons,hx,Aex] at h;exact Vx ok f q l (i+1) _ h
theorem RE {s:Ae}(hs:s.length≤2000000):Je FB s=some (Wo s):=by
 unfold Je Wo;rw[WT hs,AX];have hm:∀p∈Dg s,p.length≤2000000:=λp hp=>Nat.le_trans (Jz hp) hs;generalize Dg s=l at hm
 by_cases h4:l.length=4
 ·rw[Bp (by rw[Aek (by omega)];rfl),Aek h4,Aex];have hr:=(KM (l:=l) (mk:=λi acc=>((i:Int),acc)) (body:=λσ=>D9 l σ.1 σ.2) (fin:=λacc:List Int=>acc)
   (λi acc p=>bif SY p then(.go (acc.set i (C7 p)):Out (Int×Int) (List Int)) else .ret (0,1)) (λ_ acc=>acc.length=4) (λi h acc hP=>by
    refine⟨?_,λb hb=>?_⟩
    ·unfold D9;simp only;rw[Bx (Aek (by omega)),Bi (by omega) (by omega),BN h,C0 (show D2 1 l[i].length=true from Aek (by have:=hm _ (List.getElem_mem h);omega))];simp only[RD,Option.isSome_some,Dx,CC,EZ];unfold SY
     cases decide (Ep l[i]=0) with
     | false=>rfl
     | true=>
      cases hi:Qd (C7 l[i]) 0 255 with
      | false=>rfl
      | true=>
       simp only[Aeo,Bool.or_self,B4,Bool.and_self,Aeq];rw[Bi (by omega) (by omega),Bi (by omega) (by omega),Bn (by omega) (by omega),show Int.toNat (i:Int)=i from by omega];rfl
    ·cases ho:SY l[i] with
     | false=>rw[ho] at hb;cases hb
     | true=>rw[ho] at hb;simp only[Aeq,Out.go.injEq] at hb;subst hb;simpa using hP) (λacc hP=>by unfold D9;rw[Bp (Aej (by omega))]) (F:=FB) (by show l.length<5000000;omega) (a:=List.replicate 4 (0:Int)) rfl).1
  rw[show Cl (λσ=>D9 l σ.1 σ.2) FB (0,List.replicate 4 (0:Int))=_ from hr,AX]
  cases ha:l.all SY with
  | false=>
   have e:=Vx SY (λ(i:Nat) (acc:List Int) p=>acc.set i (C7 p)) ((0:Int),(1:Int)) l 0 (List.replicate 4 0) ha;rw[e];rfl
  | true=>
   match l,h4,ha with
   | [p0,p1,p2,p3],_,ha=>
    simp only[List.all_cons,List.all_nil,Ae2,Ael] at ha;obtain⟨h0,h1,h2,h3⟩:=ha;simp only[Oj,h0,h1,h2,h3,Aeq];have bd:∀p,SY p=true→∃m:Nat,m<256∧C7 p=(m:Int):=λp hp=>by
     unfold SY Qd at hp;simp only[Ael,Aeh] at hp;exact⟨(C7 p).toNat,by omega,by omega⟩
    obtain⟨m0,b0,e0⟩:=bd p0 h0;obtain⟨m1,b1,e1⟩:=bd p1 h1;obtain⟨m2,b2,e2⟩:=bd p2 h2;obtain⟨m3,b3,e3⟩:=bd p3 h3;rw[e0,e1,e2,e3];show EG [(m0:Int),(m1:Int),(m2:Int),(m3:Int)]=some (XX [p0,p1,p2,p3],0);unfold EG XX;rw[Bi (by decide) (by decide),Bi (by decide) (by simp),Bi (by decide) (by decide),Bi (by decide) (by simp),Bi (by decide) (by decide),Bi (by decide) (by simp),Bi (by decide) (by decide),Bi (by decide) (by simp)];rw[show An [(m0:Int),(m1:Int),(m2:Int),(m3:Int)] 0=(m0:Int) from rfl,show An [(m0:Int),(m1:Int),(m2:Int),(m3:Int)] 1=(m1:Int) from rfl,show An [(m0:Int),(m1:Int),(m2:Int),(m3:Int)] 2=(m2:Int) from rfl,show An [(m0:Int),(m1:Int),(m2:Int),(m3:Int)] 3=(m3:Int) from rfl,or4 b0 b1 b2 b3];simp only[List.foldl,e0,e1,e2,e3]
    congr 2
    omega
 ·rw[Bx (by rw[Aej (by omega)];rfl),Aej h4];rfl
theorem YY (x:Ae):T0 x=some (Lib.indexByte x 58):=by
 unfold T0
 by_cases h:([58]:Ae)=x
 ·subst h;rfl
 ·rw[Bp (Aej h),Bi (by decide) (by decide)];rfl
theorem Aag {s:Ae}(hs:s.length≤1000000000):Yu s=some (X5 s 58,TP s 58,Acu s 58):=by
 have hb:=RM s 58;unfold Yu Vv X5 TP Acu;rw[YY,AX]
 by_cases h:0≤Lib.indexByte s 58
 ·rw[Bx (Aek h),DC (by omega) (by omega),Bn (by omega) (by omega),DC (by omega) (by omega),AeW h,AeW h,Aek h];rfl
 ·rw[Bp (Aej h),AeR h,AeR h,Aej h];rfl
theorem Abb (s:Ae):(X5 s 58).length≤s.length∧(TP s 58).length≤s.length:=by
 unfold X5 TP;constructor
 ·split
  ·rw[Afb];omega
  ·exact Ae9 _
 ·split
  ·rw[AeT];omega
  ·simp
def Zv (s:Ae)(is:Bool):Int×Int×Bool:=((Wo (X5 s 58)).1,C7 (TP s 58),is&&(Acu s 58&&(decide ((Wo (X5 s 58)).2=0)&&(decide (Ep (TP s 58)=0)&&(decide (1≤C7 (TP s 58))&&decide (C7 (TP s 58)≤65535))))))
theorem MO {v:List Ab}(h:0<v.length)(hs:(An v 0).fStr.length≤2000000):EJ FB v=some (Zv (An v 0).fStr (decide ((An v 0).fKind=4))):=by
 unfold EJ Iu;have hc:=Abb (An v 0).fStr;rw[Bi (by omega) (by omega),AX];simp only;rw[Aag (by omega),AX];simp only;rw[RE (by omega),AX,C0 (show D2 1 _=true from Aek (by omega))];rfl
def DG (g:Nat→Int):Nat→Nat→Int
 | _,0=>0
 | i,k+1=>bif decide (g i=0) then DG g (i+1) k else g i
theorem UA {U:Type}{N:Nat}{g:Nat→Int}{body:Int→Option (Stp Int (Out Int U))}{u:U}(hb:∀i:Nat,i<N→body (i:Int)=BB (!decide (g i=0)) (some (.out (.ret (g i)))) (some (.next ((i:Int)+1))))(he:body (N:Int)=some (.out (.go u))) :
  ∀(k n i:Nat),i+k=N→k<n→Cl body n (i:Int)=some (bif decide (DG g i k=0) then .go u else .ret (DG g i k)):=by
 intro k
 induction k with
 | zero=>
  intro n i h hn;obtain⟨n,rfl⟩:∃m,n=m+1:=⟨n-1,by omega⟩
  obtain rfl:i=N:=by omega
  rw[Cl,he];rfl
 | succ k ih=>
  intro n i h hn;obtain⟨n,rfl⟩:∃m,n=m+1:=⟨n-1,by omega⟩
  rw[Cl,hb i (by omega),DG]
  cases hg:decide (g i=0) with
  | true=>exact ih n (i+1) (by omega) (by omega)
  | false=>simp only[Aev,BR,Aem,hg]
theorem Id {R:Type}{N:Nat}{g:Nat→Int}{body:Int→Option (Stp Int (Out Int Unit))}{F:Nat}{K:Option Int}(hF:N<F)(hb:∀i:Nat,i<N→body (i:Int)=BB (!decide (g i=0)) (some (.out (.ret (g i)))) (some (.next ((i:Int)+1))))(he:body (N:Int)=some (.out (.go ()))) :
  Bs (Cl body F 0) (Co λ_=>K)=bif decide (DG g 0 N=0) then K else some (DG g 0 N):=by
 have:=UA (u:=()) hb he N F 0 (by omega) hF;rw[show Cl body F 0=_ from this,AX]
 cases decide (DG g 0 N=0)<;>rfl
theorem N2 {g:Nat→Int}:∀{k i:Nat},DG g i k=0→∀j,i≤j→j<i+k→g j=0
 | 0,i,_,j,h1,h2=>by omega
 | k+1,i,h,j,h1,h2=>by
  rw[DG] at h
  cases hg:decide (g i=0) with
  | false=>
   rw[hg] at h;exact absurd h (of_decide_eq_false hg)
  | true=>
   rw[hg] at h;rcases Nat.eq_or_lt_of_le h1 with rfl | h3
   ·exact AeL hg
   ·exact N2 (k:=k) (i:=i+1) h j h3 (by omega)
theorem YQ {R U:Type}{N:Nat}{p:Nat→Bool}{c:R}{body:Int→Option (Stp Int (Out R U))}{u:U}{F:Nat}(hF:N<F)(hb:∀i:Nat,i<N→body (i:Int)=BB (p i) (some (.out (.ret c))) (some (.next ((i:Int)+1))))(he:body (N:Int)=some (.out (.go u))) :
  Cl body F 0=some (bif (List.range N).any p then .ret c else .go u):=by
 rw[Ic (l:=List.range N) (p:=p) (ret:=λ_=>c) (u:=u) (by simpa using hF) (λi h=>by
  rw[List.getElem_range];exact hb i (by simpa using h)) (by simpa using he)]
 cases h:(List.range N).findIdx? p with
 | none=>
  have:(List.range N).any p=false:=by
   rw[List.any_eq_false];intro x hx;simpa using List.findIdx?_eq_none_iff.1 h x hx
  rw[this];rfl
 | some j=>
  obtain⟨hj,h1,_⟩:=List.findIdx?_eq_some_iff_getElem.1 h;rw[List.any_eq_true.2 ⟨_,List.getElem_mem hj,h1⟩];rfl
def Pt (a b:Int):Int:=bif decide (a=0) then b else a
theorem M6 (a b:Int):(bif decide (a=0) then some b else some a:Option Int)=some (Pt a b):=by unfold Pt;cases decide (a=0)<;>rfl
theorem Ja {a b:Int}(h:Pt a b=0):a=0∧b=0:=by
 unfold Pt at h
 cases hd:decide (a=0) with
 | true=>rw[hd] at h;exact⟨AeL hd,h⟩
 | false=>rw[hd] at h;exact absurd h (of_decide_eq_false hd)
theorem Acv {a:Int}{x:Option Int}{b:Int}(h:x=some b):BB (!decide (a=0)) (some a) x=some (Pt a b):=by
 rw[h];unfold Pt;cases decide (a=0)<;>rfl
theorem Wj {α U:Type}{p:Bool}{c:Int}(hc:c≠0)(x:Option (Stp α (Out Int U))):BB p (some (.out (.ret c))) x=BB (!decide ((bif p then c else 0)=0)) (some (.out (.ret (bif p then c else 0)))) x:=by
 cases p with
 | true=>rw[show(bif true then c else 0)=c from rfl,Aej hc];rfl
 | false=>rfl
def HS (op:Ae):Option (List Nat)×Bool:=
 bif decide (op=[103,101,116]) then(some [88],true) else bif decide (op=[100,101,108,101,116,101]) then(some [88],true) else bif decide (op=[112,117,116]) then(some [88,0],true) else bif decide (op=[115,101,110,100]) then(some [89,0],true) else bif decide (op=[116,105,109,101,114]) then(some [89,90,0],true) else bif decide (op=[115,105,103,110,97,108]) then(some [88,91],true) else bif decide (op=[115,101,99,114,101,116]) then(some [89],true) else bif decide (op=[102,101,116,99,104]) then(some [92,0],true) else bif decide (op=[110,111,119]) then(some [],false) else bif decide (op=[108,111,103]) then(some [0],false) else(none,false)
theorem NY (op:Ae):Jk op=some (HS op):=by
 unfold Jk HS;simp only[K4]
theorem H5 {α:Type}(P:α→Prop){p:Bool}{a b:α}(ha:P a)(hb:P b):P (bif p then a else b):=by cases p<;>assumption
theorem SF (op:Ae)(P:Option (List Nat)×Bool→Prop)(h1:P (some [88],true))(h2:P (some [88,0],true))(h3:P (some [89,0],true))(h4:P (some [89,90,0],true))(h5:P (some [88,91],true))(h6:P (some [89],true))(h7:P (some [92,0],true))(h8:P (some [],false))(h9:P (some [0],false))(h0:P (none,false)):P (HS op):=by
 unfold HS;exact H5 P h1 (H5 P h1 (H5 P h2 (H5 P h3 (H5 P h4 (H5 P h5 (H5 P h6 (H5 P h7 (H5 P h8 (H5 P h9 h0)))))))))
theorem Uq (op:Ae):∀s,(HS op).1=some s→∀k∈s,k=0∨k=88∨k=89∨k=90∨k=91∨k=92:=by
 refine SF op (λt=>∀s,t.1=some s→∀k∈s,k=0∨k=88∨k=89∨k=90∨k=91∨k=92) ?_ ?_ ?_ ?_ ?_ ?_ ?_ ?_ ?_ ?_<;>intro s hs<;>cases hs<;>simp
structure XK (a:AR):Prop where
 t:a.fTenant.length≤2000000
 o:a.fOps.length≤2000000
 p:a.fPolicy.length≤2000000
 st:∀x∈a.fPolicy,Q0 x
 n:a.fNet.length≤2000000
def AcI (a:AR)(i:Nat):Int:=bif Option.isNone (HS (An a.fOps (i:Int))).1 then 4 else 0
def AbK (a:AR)(i:Nat):Int:=bif decide (0<(i:Int))&&(Cz (An a.fOps (i:Int)) (An a.fOps ((i:Int)-1))||decide (An a.fOps (i:Int)=An a.fOps ((i:Int)-1))) then 11 else 0
def PA (n:Int):Bool:=decide (0≤n)&&decide (n≤1073741824)
def XE (a:AR):Int:=
 bif !CK a.fTenant||!CK a.fFunction then 4 else
 Pt (DG (AcI a) 0 a.fOps.length) (Pt (DG (AbK a) 0 a.fOps.length) (bif decide (32<(a.fPolicy.length:Int))||decide (32<(a.fNet.length:Int)) then 3 else
 Pt (DG (λi=>U0 (An a.fPolicy (i:Int))) 0 a.fPolicy.length) (Pt (DG (λi=>Ns (An a.fNet (i:Int))) 0 a.fNet.length) (bif !PA a.fNow then 2 else 0))))
theorem LN {a:AR}(h:XK a):J9 FB a=some (XE a):=by
 have h0:=h.o;have h1:=h.p;have h2:=h.n;have e5:Gi a=some (bif !PA a.fNow then 2 else 0):=by
  unfold Gi G4;rw[AX];exact K4 _ _ _
 have e4:Gj FB a=some (Pt (DG (λi=>Ns (An a.fNet (i:Int))) 0 a.fNet.length) (bif !PA a.fNow then 2 else 0)):=by
  unfold Gj;rw[Id (R:=Unit) (N:=a.fNet.length) (g:=λi=>Ns (An a.fNet (i:Int))) (K:=Gi a) (by show a.fNet.length<5000000;omega) (λi hi=>by
   unfold GN;rw[Bx (Aek (by omega)),Bi (by omega) (by omega),P0,AX,Bn (by omega) (by omega)]) (by unfold GN;rw[Bp (Aej (by omega))]),e5]
  exact M6 _ _
 have e3:Gk FB a=some (bif decide (32<(a.fPolicy.length:Int))||decide (32<(a.fNet.length:Int)) then 3 else Pt (DG (λi=>U0 (An a.fPolicy (i:Int))) 0 a.fPolicy.length) (Pt (DG (λi=>Ns (An a.fNet (i:Int))) 0 a.fNet.length) (bif !PA a.fNow then 2 else 0))):=by
  unfold Gk;rw[Id (R:=Unit) (N:=a.fPolicy.length) (g:=λi=>U0 (An a.fPolicy (i:Int))) (K:=Gj FB a) (by show a.fPolicy.length<5000000;omega) (λi hi=>by
   unfold GO;have hm:Q0 (An a.fPolicy (i:Int)):=by rw[BN hi];exact h.st _ (List.getElem_mem hi)
   rw[Bx (Aek (by omega)),Bi (by omega) (by omega),Pq hm,AX,Bn (by omega) (by omega)]) (by unfold GO;rw[Bp (Aej (by omega))]),e4,M6,K4]
 have e2:Gl FB a=some (Pt (DG (AbK a) 0 a.fOps.length) (bif decide (32<(a.fPolicy.length:Int))||decide (32<(a.fNet.length:Int)) then 3 else Pt (DG (λi=>U0 (An a.fPolicy (i:Int))) 0 a.fPolicy.length) (Pt (DG (λi=>Ns (An a.fNet (i:Int))) 0 a.fNet.length) (bif !PA a.fNow then 2 else 0)))):=by
  unfold Gl;rw[Id (R:=Unit) (N:=a.fOps.length) (g:=AbK a) (K:=Gk FB a) (by show a.fOps.length<5000000;omega) (λi hi=>by
   unfold GP;have hk:imp (decide (0<(i:Int))) (Ck (i:Int) (a.fOps.length:Int))=true:=by rw[On (by omega) (by omega)];exact Dx _
   have hk2:imp (decide (0<(i:Int))) (Cb .i64 ((i:Int)-1))=true:=by rw[Ji (by omega) (by omega)];exact Dx _
   have hk3:imp (decide (0<(i:Int))) (Ck ((i:Int)-1) (a.fOps.length:Int))=true:=by
    by_cases h3:0<(i:Int)
    ·rw[On (by omega) (by omega)];exact Dx _
    ·rw[Aej h3];rfl
   rw[Bx (Aek (by omega)),hk,hk2,hk3,CC,CC,CC,Bn (by omega) (by omega),Wj (by decide)];rfl) (by unfold GP;rw[Bp (Aej (by omega))]),e3,M6]
 unfold J9 XE;rw[Id (R:=Unit) (N:=a.fOps.length) (g:=AcI a) (K:=Gl FB a) (by show a.fOps.length<5000000;omega) (λi hi=>by
  unfold GQ;rw[Bx (Aek (by omega)),Bi (by omega) (by omega),NY,AX,Bn (by omega) (by omega),Wj (by decide)];rfl) (by unfold GQ;rw[Bp (Aej (by omega))]),e2,M6,K4]
def Qu (l:List Ae)(x:Ae):Bool:=l.any λy=>decide (x=y)
theorem Uu {l:List Ae}(hl:l.length≤2000000)(x:Ae):Mr FB l x=some (Qu l x):=by
 unfold Mr Mq Hh;rw[Nv (l:=l) (p:=λy=>decide (x=y)) (F:=FB) (body:=E4 l x) (by show l.length<5000000;omega) (λi h=>by
  unfold E4;rw[Bx (Aek (by omega)),Bi (by omega) (by omega),BN h,Bn (by omega) (by omega)]) (by unfold E4;rw[Bp (Aej (by omega))]),AX,ED]
 rfl
abbrev MB:Nat:=1048576
structure PY (q:A7):Prop where
 l:q.fArgs.length≤2000000
 v:∀v∈q.fArgs,Gw MB v
theorem PY.at {q:A7}(h:PY q){i:Nat}(hi:i<q.fArgs.length):Gw MB (An q.fArgs (i:Int)):=by rw[BN hi];exact h.v _ (List.getElem_mem hi)
theorem Ov {v:List Ab}(h:Gw MB v):Jv FB v=some (ET v):=QC h (by decide) (by decide)
theorem Xx {q:A7}(h:PY q):Hn FB q.fArgs=some (q.fArgs.any λv=>!decide (ET v=0)):=by
 have hl:=h.l;unfold Hn VR Ks;rw[Nv (l:=q.fArgs) (p:=λv=>!decide (ET v=0)) (F:=FB) (body:=Ii FB q.fArgs) (by show q.fArgs.length<5000000;omega) (λi hi=>by
  unfold Ii KT;rw[Bx (Aek (by omega)),Bi (by omega) (by omega),BN hi,Ov (h.v _ (List.getElem_mem hi)),AX,AX,Bn (by omega) (by omega)]) (by unfold Ii;rw[Bp (Aej (by omega))]),AX,ED]
theorem K3 {v:List Ab}(h:ET v=0):0<v.length:=by
 cases v with
 | nil=>exact absurd h (by decide)
 | cons c r=>simp
def Zx (k:Nat)(v:List Ab):Bool:=
 bif decide (k=88) then decide ((An v 0).fKind=4)&&LV (An v 0).fStr else bif decide (k=89) then decide ((An v 0).fKind=4)&&CK (An v 0).fStr else bif decide (k=90) then decide ((An v 0).fKind=3)&&PA (An v 0).fInt else
 bif decide (k=91) then decide (1<(v.length:Int))&&(decide ((An v 0).fKind=5)&&decide ((An v 1).fKind=4)) else(Zv (An v 0).fStr (decide ((An v 0).fKind=4))).2.2
theorem MH {v:List Ab}(h:0<v.length):Iu v=some ((An v 0).fStr,decide ((An v 0).fKind=4)):=by
 unfold Iu;rw[Bi (by omega) (by omega)]
theorem Gw.str {v:List Ab}(h:Gw MB v)(h0:0<v.length):(An v 0).fStr.length≤1048576:=by
 have:=(h.hc _ (List.getElem_mem h0)).1
 rwa [← BN h0] at this
theorem AaU {k:Nat}{v:List Ab}(hv:Gw MB v)(h0:0<v.length)(hk:k=88∨k=89∨k=90∨k=91∨k=92):TD FB k v=some (Zx k v):=by
 have hs:=hv.str h0;have e1:Zk v=some (decide ((An v 0).fKind=4)&&LV (An v 0).fStr):=by unfold Zk;rw[MH h0];rfl
 have e2:TA v=some (decide ((An v 0).fKind=4)&&CK (An v 0).fStr):=by unfold TA;rw[MH h0];rfl
 have e3:PK v=some (decide ((An v 0).fKind=3)&&PA (An v 0).fInt):=by
  unfold PK G4;rw[Bi (by omega) (by omega),Option.isSome_some,Dx,CC];rfl
 have e4:Im v=some (decide (1<(v.length:Int))&&(decide ((An v 0).fKind=5)&&decide ((An v 1).fKind=4))):=by
  unfold Im
  by_cases h1:1<(v.length:Int)
  ·rw[On (by omega) (by omega),On (by omega) (by omega)];simp only[Dx,CC]
  ·rw[Aej h1];rfl
 have e5:Il FB v=some (Zv (An v 0).fStr (decide ((An v 0).fKind=4))).2.2:=by
  unfold Il;rw[MO h0 (by omega)];rfl
 unfold TD Zx;rw[e1,e2,e3,e4,e5];rcases hk with rfl | rfl | rfl | rfl | rfl<;>rfl
def Pj (s:List Nat)(l:List (List Ab)):Bool:=!(List.range s.length).any λi=>!decide (An s (i:Int)=0)&&!Zx (An s (i:Int)) (An l (i:Int))
theorem Xy {s:List Nat}{q:A7}(h:PY q)(hl:s.length=q.fArgs.length)(hs:∀k∈s,k=0∨k=88∨k=89∨k=90∨k=91∨k=92)(hv:∀v∈q.fArgs,ET v=0):Kw FB s q.fArgs=some (Pj s q.fArgs):=by
 have hl2:=h.l;unfold Kw Jl Pj;rw[YQ (N:=s.length) (p:=λi:Nat=>!decide (An s (i:Int)=0)&&!Zx (An s (i:Int)) (An q.fArgs (i:Int))) (c:=false) (u:=()) (body:=GL FB s q.fArgs) (by show s.length<5000000;omega) (λi hi=>by
  unfold GL;have hi2:i<q.fArgs.length:=by omega
  have h0:0<(An q.fArgs (i:Int)).length:=K3 (hv _ (by rw[BN hi2];exact List.getElem_mem hi2));rw[Bx (Aek (by omega)),Bi (by omega) (by omega),On (by omega) (by omega),Dx,CC];rcases (hs (An s (i:Int)) (by rw[BN hi];exact List.getElem_mem hi)) with hz | hz
  ·have h8:(!decide (An s (i:Int)=0))=false:=by rw[hz];rfl
   have h9:∀b,imp (!decide (An s (i:Int)=0)) b=true:=λb=>by rw[h8];exact Zd b
   rw[h9,CC,Bn (by omega) (by omega),h8,Aez,Aez]
  ·rw[AaU (h.at hi2) h0 hz,Option.isSome_some,Dx,CC,Bn (by omega) (by omega),EZ]) (by unfold GL;rw[Bp (Aej (by omega))]),AX]
 cases(List.range s.length).any λi=>!decide (An s (i:Int)=0)&&!Zx (An s (i:Int)) (An q.fArgs (i:Int))<;>rfl
def AbH (t op n:Ae):Ae:=(((t++([47]:Ae))++op)++([47]:Ae))++n
theorem RO {t op n:Ae}(h1:t.length≤2000000)(h2:op.length≤2000000)(h3:n.length≤2000000):HK t op n=some (AbH t op n):=by
 unfold HK;have e:(([47]:Ae).length:Int)=1:=rfl;rw[Bn (by rw[e];omega) (by rw[e];omega),Bn (by simp;omega) (by simp;omega),Bn (by simp;omega) (by simp;omega),Bn (by simp;omega) (by simp;omega)];rfl
def Abg (q:A7)(s:List Nat):Bool:=!decide ((q.fArgs.length:Int)=(s.length:Int))||((q.fArgs.any λv=>!decide (ET v=0))||!Pj s q.fArgs)
def isF (q:A7):Bool:=decide (q.fOp=([102,101,116,99,104]:Ae))
def DT (q:A7):Ae:=(An (An q.fArgs 0) 0).fStr
def AbT (a:AR)(q:A7):Bool:=(AbS a.fNet (Zv (DT q) (decide ((An (An q.fArgs 0) 0).fKind=4))).1 (Zv (DT q) (decide ((An (An q.fArgs 0) 0).fKind=4))).2.1).fAllowed
def Aan (a:AR)(q:A7):Bool:=(Aao a.fPolicy q.fOp (AbH a.fTenant q.fOp (DT q))).fAllowed
def Lg (a:AR)(q:A7):Int:=
 Pt (XE a) (match (HS q.fOp).1 with
  | none=>4
  | some s=>bif !Qu a.fOps q.fOp then 12 else bif Abg q s then 7 else
   bif (HS q.fOp).2&&!Aan a q then 12 else bif isF q&&!AbT a q then 12 else 0)
theorem OU {op:Ae}{s:List Nat}(h:(HS op).1=some s)(hn:(HS op).2=true∨op=([102,101,116,99,104]:Ae)):0<s.length:=by
 have key:(HS op).2=true→∀s,(HS op).1=some s→0<s.length:=by
  refine SF op (λt=>t.2=true→∀s,t.1=some s→0<s.length) ?_ ?_ ?_ ?_ ?_ ?_ ?_ ?_ ?_ ?_<;>intro h s hs<;>cases hs<;>first | decide | cases h
 rcases hn with hn | rfl
 ·exact key hn s h
 ·exact key (by decide) s h
theorem AcJ {op:Ae}{s:List Nat}(h:(HS op).1=some s):op.length≤6:=by
 by_cases hl:op.length≤6
 ·exact hl
 ·exfalso;have hne:∀w:Ae,w.length≤6→decide (op=w)=false:=λw hw=>Aej (λe=>by subst e;omega);unfold HS at h;rw[hne _ (by decide),hne _ (by decide),hne _ (by decide),hne _ (by decide),hne _ (by decide),hne _ (by decide),hne _ (by decide),hne _ (by decide),hne _ (by decide),hne _ (by decide)] at h
  cases h
theorem Aat {op:Ae}{s:List Nat}(h:(HS op).1=some s):op=[103,101,116]∨op=[100,101,108,101,116,101]∨op=[112,117,116]∨op=[115,101,110,100]∨op=[116,105,109,101,114]∨op=[115,105,103,110,97,108]∨op=[115,101,99,114,101,116]∨op=[102,101,116,99,104]∨op=[110,111,119]∨op=[108,111,103]:=by
 by_cases h1:op=[103,101,116]
 ·simp[h1]
 by_cases h2:op=[100,101,108,101,116,101]
 ·simp[h2]
 by_cases h3:op=[112,117,116]
 ·simp[h3]
 by_cases h4:op=[115,101,110,100]
 ·simp[h4]
 by_cases h5:op=[116,105,109,101,114]
 ·simp[h5]
 by_cases h6:op=[115,105,103,110,97,108]
 ·simp[h6]
 by_cases h7:op=[115,101,99,114,101,116]
 ·simp[h7]
 by_cases h8:op=[102,101,116,99,104]
 ·simp[h8]
 by_cases h9:op=[110,111,119]
 ·simp[h9]
 by_cases hb:op=[108,111,103]
 ·simp[hb]
 exfalso;unfold HS at h;rw[Aej h1,Aej h2,Aej h3,Aej h4,Aej h5,Aej h6,Aej h7,Aej h8,Aej h9,Aej hb] at h
 cases h
theorem Oa {a:AR}{q:A7}(ha:XK a)(hq:PY q):Ch FB a q=some (Lg a q):=by
 have hl:=hq.l;have hn:=ha.t;unfold Ch Lg;rw[LN ha,AX];refine Acv ?_;rw[NY,AX]
 cases ht:(HS q.fOp).1 with
 | none=>rfl
 | some s=>
  rw[show Option.isNone (some s)=false from rfl,B4,Uu ha.o,AX];simp only
  cases hh:Qu a.fOps q.fOp with
  | false=>rfl
  | true=>
   rw[Aeo,B4,Option.isSome_some,CC];unfold Abg;simp only[GM,AeE,Option.isSome_some,CC,EZ,Xx hq,Dx,Aem,Aeo]
   by_cases h1:(q.fArgs.length:Int)=(s.length:Int)
   ·simp only[h1,decide_true,Aeo,Aev,Aey]
    cases h2:(q.fArgs.any λv=>!decide (ET v=0)) with
    | true=>rfl
    | false=>
     have hv:∀v∈q.fArgs,ET v=0:=by
      intro v hv;rw[List.any_eq_false] at h2;simpa using h2 v hv
     rw[Xy hq (by omega) (Uq _ s ht) hv];simp only[Option.isSome_some,Dx,CC,EZ,Aeo,Aey]
     cases h3:Pj s q.fArgs with
     | false=>rfl
     | true=>
      rw[Aeo,B4,Aem];have h0:(HS q.fOp).2=true∨q.fOp=([102,101,116,99,104]:Ae)→0<q.fArgs.length∧0<(An q.fArgs 0).length:=λhx=>by
       have hs:=OU ht hx;have hp:0<q.fArgs.length:=by omega
       exact⟨hp,K3 (hv _ (by rw[show(0:Int)=((0:Nat):Int) from rfl,BN hp];exact List.getElem_mem hp))⟩
      have hF:decide (q.fOp=([102,101,116,99,104]:Ae))=isF q:=rfl;have hfe:∀hx:q.fOp=([102,101,116,99,104]:Ae),(Bs (EJ FB (An q.fArgs 0)) λhb=>Bs (Hj FB a.fNet hb.1 hb.2.1) λhd=>BB (!hd.fAllowed) (some 12) (some 0):Option Int)=some (bif !AbT a q then 12 else 0):=λhx=>by
       obtain⟨hp,hp2⟩:=h0 (.inr hx);rw[MO hp2 (by have:=(hq.at hp).str hp2;simpa using Nat.le_trans this (by decide)),AX,Ti ha.n,AX,K4];rfl
      have hF2:(BB (isF q) (Bs (EJ FB (An q.fArgs 0)) λhb=>Bs (Hj FB a.fNet hb.1 hb.2.1) λhd=>BB (!hd.fAllowed) (some 12) (some 0)) (some 0):Option Int)=some (bif isF q&&!AbT a q then 12 else 0):=by
       cases hf:isF q with
       | false=>rfl
       | true=>rw[BR,hfe (AeL hf)];rfl
      rw[hF]
      cases hm:(HS q.fOp).2 with
      | false=>
       rw[B4];simp only[Aez,Aem]
       cases hf:isF q with
       | false=>rfl
       | true=>
        have hx:=AeL hf;obtain⟨hp,hp2⟩:=h0 (.inr hx);rw[BR,Bi (by omega) (by omega),hfe hx];rfl
      | true=>
       obtain⟨hp,hp2⟩:=h0 (.inl hm);have hsl:(An (An q.fArgs 0) 0).fStr.length≤1048576:=(hq.at hp).str hp2;rw[BR,Bi (by omega) (by omega),MH hp2,AX,RO hn (Nat.le_trans (AcJ ht) (by decide)) (Nat.le_trans hsl (by decide)),AX,SU ha.p ha.st,AX,hF2];simp only[Aex,K4];rfl
   ·simp only[h1,decide_false];rfl
theorem Em {l:List Ab}(h:l.length≤2000000):Es l=some l:=by
 unfold Es;rw[C0 (show D2 40 _=true from Aek (by simp;omega))];rfl
theorem N6 {l:List Ae}(h:l.length≤2000000):Hq l=some l:=by
 unfold Hq;rw[C0 (show D2 16 _=true from Aek (by simp;omega))];rfl
theorem X7 {l:List AG}(h:l.length≤2000000):N7 l=some l:=by
 unfold N7;rw[C0 (show D2 40 _=true from Aek (by simp;omega))];rfl
theorem X8 {l:List Ad}(h:l.length≤2000000):N8 l=some l:=by
 unfold N8;rw[C0 (show D2 56 _=true from Aek (by simp;omega))];rfl
structure ItA (l:List Bt):Prop where
 len:l.length≤2000000
 v:∀x∈l,Gw MB x.fValue
def UE (l:List Bt)(i:Nat):Int:=
 bif !LV (An l (i:Int)).fKey then 4 else Pt (ET (An l (i:Int)).fValue) (bif decide ((An l (i:Int)).fVersion<1) then 2 else
  bif decide (0<(i:Int))&&(Cz (An l (i:Int)).fKey (An l ((i:Int)-1)).fKey||decide ((An l (i:Int)).fKey=(An l ((i:Int)-1)).fKey)) then 11 else 0)
def P9 (l:List Bt):Int:=bif decide (256<(l.length:Int)) then 3 else DG (UE l) 0 l.length
theorem QY {l:List Bt}(h:ItA l):N0 FB l=some (P9 l):=by
 have h0:=h.len;unfold N0 P9 Jn;rw[Id (R:=Unit) (N:=l.length) (g:=UE l) (K:=some 0) (by show l.length<5000000;omega) (λi hi=>by
  unfold HL UE;have hk2:imp (decide (0<(i:Int))) (Cb .i64 ((i:Int)-1))=true:=by rw[Ji (by omega) (by omega)];exact Dx _
  have hk3:imp (decide (0<(i:Int))) (Ck ((i:Int)-1) (l.length:Int))=true:=by
   by_cases h3:0<(i:Int)
   ·rw[On (by omega) (by omega)];exact Dx _
   ·rw[Aej h3];rfl
  have hv:Gw MB (An l (i:Int)).fValue:=by rw[BN hi];exact h.v _ (List.getElem_mem hi)
  rw[Bx (Aek (by omega)),Bi (by omega) (by omega),Ov hv,AX,hk2,hk3,CC,CC,Bn (by omega) (by omega)]
  cases LV (An l (i:Int)).fKey with
  | false=>rfl
  | true=>
   simp only[Aeo,B4,Aem];unfold Pt
   cases hz:decide (ET (An l (i:Int)).fValue=0) with
   | false=>simp only[Aev,BR,Aem,hz]
   | true=>
    simp only[Aeo,B4,Aeq]
    cases decide ((An l (i:Int)).fVersion<1) with
    | true=>rfl
    | false=>
     simp only[B4,Aem]
     cases(decide (0<(i:Int))&&(Cz (An l (i:Int)).fKey (An l ((i:Int)-1)).fKey||decide ((An l (i:Int)).fKey=(An l ((i:Int)-1)).fKey)))<;>rfl) (by unfold HL;rw[Bp (Aej (by omega))])]
 cases decide (256<(l.length:Int)) with
 | true=>rfl
 | false=>
  rw[B4,Aem]
  cases hz:decide (DG (UE l) 0 l.length=0) with
  | true=>rw[AeL hz];rfl
  | false=>rfl
def LL (l:List Bt):List (Ae×List Ab):=l.foldl (λm x=>mset m x.fKey x.fValue) []
def RB (a:AR)(l:List Bt):Int:=Pt (XE a) (P9 l)
def Dl (a:AR)(l:List Bt):Au:=⟨true,a,LL l,(),0,[],[],[]⟩
theorem Mz {α β R:Type}(f:β→α→β):∀(l:List α) (i:Nat) (a:β),Oj (R:=R) (λ_ acc x=>.go (f acc x)) i a l = .go (l.foldl f a)
 | [],i,a=>rfl
 | x::l,i,a=>by
  show Oj (R:=R) (λ_ acc x=>.go (f acc x)) (i+1) (f a x) l=_;rw[Mz f l];rfl
theorem Y2 {R:Type}{l:List Ad}(hl:l.length≤2000000)(h:∀x∈l,Q0 x){body:Int×List Ad→Option (Stp (Int×List Ad) (Out R (List Ad)))}
  (hb:∀(i:Nat) (acc:List Ad),body ((i:Int),acc)=BB (decide ((i:Int)<(l.length:Int))) (Bk (Ck (i:Int) (acc.length:Int))<|Bs (Hq ((An acc (i:Int)).fActions)) λhd=>Bs (Hq ((An acc (i:Int)).fResources)) λhe=>Bk (Ck (i:Int) ((List.set acc (Int.toNat (i:Int)) (Ad.mk ((An acc (i:Int)).fAllow) hd ((An acc (i:Int)).fResources))).length:Int))<|Bk (Cb .i64 ((i:Int)+1))<|some (.next ((i:Int)+1,List.set (List.set acc (Int.toNat (i:Int)) (Ad.mk ((An acc (i:Int)).fAllow) hd ((An acc (i:Int)).fResources))) (Int.toNat (i:Int)) (Ad.mk ((An (List.set acc (Int.toNat (i:Int)) (Ad.mk ((An acc (i:Int)).fAllow) hd ((An acc (i:Int)).fResources))) (i:Int)).fAllow) ((An (List.set acc (Int.toNat (i:Int)) (Ad.mk ((An acc (i:Int)).fAllow) hd ((An acc (i:Int)).fResources))) (i:Int)).fActions) he)))) (some (.out (.go acc)))) :
  Cl body FB (0,l)=some (.go l):=by
 have hr:=(KM (l:=l) (mk:=λi acc=>((i:Int),acc)) (body:=body) (fin:=λacc:List Ad=>acc) (λ_ acc _=>(.go acc:Out R (List Ad))) (λ_ acc=>acc=l) (λi hi acc hP=>by
  subst hP;refine⟨?_,λb hb=>by cases hb;rfl⟩;have hx:=h _ (List.getElem_mem hi);have e1:List.set acc (Int.toNat (i:Int)) (Ad.mk ((An acc (i:Int)).fAllow) ((An acc (i:Int)).fActions) ((An acc (i:Int)).fResources))=acc:=by
   rw[show Int.toNat (i:Int)=i from by omega,BN hi];exact List.set_getElem_self hi
  rw[hb,Bx (Aek (by omega)),Bi (by omega) (by omega),N6 (by rw[BN hi];exact hx.a),AX,N6 (by rw[BN hi];exact hx.r),AX,e1,Bi (by omega) (by omega),Bn (by omega) (by omega),e1];rfl) (λacc hP=>by rw[hb,Bp (Aej (by omega))]) (F:=FB) (by show l.length<5000000;omega) (a:=l) rfl).1
 rw[show Cl body FB (0,l)=_ from hr,show(λ(_:Nat) (acc:List Ad) (_:Ad)=>(.go acc:Out R (List Ad)))=λ_ acc x=>.go ((λacc _=>acc) acc x) from rfl,Mz];show some (Out.go _)=_
 congr 2
 generalize l=acc;have:∀(m:List Ad) (a:List Ad),m.foldl (λacc _=>acc) a=a:=by
  intro m
  induction m with
  | nil=>intro a;rfl
  | cons x m ih=>intro a;exact ih a
 exact this _ _
theorem Zb {R:Type}{l:List Bt}(h:ItA l){body:Int×List (Ae×List Ab)→Option (Stp (Int×List (Ae×List Ab)) (Out R (List (Ae×List Ab))))}
  (hb:∀(i:Nat) (m:List (Ae×List Ab)),body ((i:Int),m)=BB (decide ((i:Int)<(l.length:Int))) (Bk (Ck (i:Int) (l.length:Int))<|Bs (Es ((An l (i:Int)).fValue)) λhd=>Bk (Cb .i64 ((i:Int)+1))<|some (.next ((i:Int)+1,mset m ((An l (i:Int)).fKey) hd))) (some (.out (.go m)))) :
  Cl body FB (0,[])=some (.go (LL l)):=by
 have hl:=h.len;have hr:=(KM (l:=l) (mk:=λi acc=>((i:Int),acc)) (body:=body) (fin:=λacc:List (Ae×List Ab)=>acc) (λ_ acc x=>(.go (mset acc x.fKey x.fValue):Out R (List (Ae×List Ab)))) (λ_ acc=>True) (λi hi acc hP=>by
  refine⟨?_,λ_ _=>trivial⟩;have hv:=h.v _ (List.getElem_mem hi);have hvl:l[i].fValue.length≤1048576:=hv.hv;rw[hb,Bx (Aek (by omega)),Bi (by omega) (by omega),BN hi,Em (by omega),AX,Bn (by omega) (by omega)];rfl) (λacc hP=>by rw[hb,Bp (Aej (by omega))]) (F:=FB) (by show l.length<5000000;omega) (a:=[]) trivial).1
 rw[show Cl body FB (0,[])=_ from hr,Mz (λm (x:Bt)=>mset m x.fKey x.fValue)];rfl
theorem Zj {a:AR}{l:List Bt}(ha:XK a)(hl:ItA l):K1 FB a l=bif decide (RB a l=0) then some (Dl a l,()) else none:=by
 unfold K1 RB Pt;rw[LN ha,AX,QY hl]
 cases hz:decide (XE a=0) with
 | false=>rw[Aev,BR,Aem,hz];rfl
 | true=>
  rw[Aeo,B4,AX,Aeq]
  cases hy:decide (P9 l=0) with
  | false=>rfl
  | true=>
   rw[Aeo,B4,N6 ha.o,AX,X7 ha.n,AX,X8 ha.p,AX,Y2 (body:=λσ=>Ky a.fPolicy σ.1 σ.2) ha.p ha.st (λi acc=>rfl),AX];show Jm FB a l a.fOps a.fNet a.fPolicy=_;unfold Jm;rw[Zb (body:=λσ=>Kx l σ.1 σ.2) hl (λi m=>rfl),AX];rfl
theorem T9 {a:AR}{l:List Bt}(ha:XK a)(hl:ItA l)(hn:RB a l≠0):PG FB a l=some ((),RB a l):=by
 unfold RB Pt at hn;unfold PG RB Pt;rw[LN ha,AX,QY hl]
 cases hz:decide (XE a=0) with
 | false=>rfl
 | true=>
  rw[hz,Aeq] at hn;rw[Aeo,B4,AX,Aeq,Bx (by rw[Aej hn];rfl)]
def Ke:List Ab:=[⟨1,0,[],0⟩]
theorem Mk:JZ=some Ke:=rfl
def G1 (key:Ae)(x:AE):Bool:=decide (x.fKey=key)&&(decide (x.fKind=1)||decide (x.fKind=2))
def Km (l:List AE)(key:Ae):Option AE:=l.reverse.find? (G1 key)
def Io (o:Au)(key:Ae):List Ab:=match Km o.fEffects key with
 | some x=>bif decide (x.fKind=1) then x.fValue else Ke
 | none=>bif DL o.fItems key then E9 o.fItems key [] else Ke
def Qv (o:Au)(key:Ae):Au:=match Km o.fEffects key with
 | some _=>o
 | none=>{ o with fReads:=o.fReads++[key] }
theorem Zp {o:Au}{key:Ae}(hl:o.fEffects.length≤2000000)(hv:∀x∈o.fEffects,x.fValue.length≤2000000):∀(k n:Nat),k≤o.fEffects.length→k<n→
  Cl (λσ=>Ga o key σ) n ((k:Int)-1)=some (match ((o.fEffects.take k).reverse.find? (G1 key)) with | some x=>.ret ((bif decide (x.fKind=1) then x.fValue else Ke),o) | none=>.go ()):=by
 intro k
 induction k with
 | zero=>
  intro n hk hn;obtain⟨n,rfl⟩:∃m,n=m+1:=⟨n-1,by omega⟩
  rw[RG (body:=λσ=>Ga o key σ) (o:=.go ()) (by show Ga o key _=_;unfold Ga;rw[Bp (Aej (by omega))])];rfl
 | succ k ih=>
  intro n hk hn;obtain⟨n,rfl⟩:∃m,n=m+1:=⟨n-1,by omega⟩
  have hi:k<o.fEffects.length:=by omega
  rw[show((k+1:Nat):Int)-1=(k:Int) from by omega];have ht:(o.fEffects.take (k+1)).reverse=o.fEffects[k]::(o.fEffects.take k).reverse:=by
   rw[List.take_succ_eq_append_getElem hi,List.reverse_append];rfl
  have hx:=hv _ (List.getElem_mem hi);have hj:J7 (k:Int)=some (.next ((k:Int)-1)):=by unfold J7;rw[Bn (by omega) (by omega)]
  have hbody:Ga o key (k:Int)=bif G1 key o.fEffects[k] then some (.out (.ret ((bif decide (o.fEffects[k].fKind=1) then o.fEffects[k].fValue else Ke),o))) else some (.next ((k:Int)-1)):=by
   unfold Ga G1;rw[Bx (Aek (by omega)),Bi (by omega) (by omega),BN hi,hj]
   cases decide (o.fEffects[k].fKey=key) with
   | false=>rfl
   | true=>
    rw[Aeo,B4,Em hx,AX,Mk,AX,Aex]
    cases decide (o.fEffects[k].fKind=1) with
    | true=>rfl
    | false=>cases decide (o.fEffects[k].fKind=2)<;>rfl
  rw[ht,List.find?_cons]
  cases hp:G1 key o.fEffects[k] with
  | true=>
   rw[hp,Aeq] at hbody;exact RG (body:=λσ=>Ga o key σ) hbody
  | false=>
   rw[hp,Aem] at hbody;rw[YR (body:=λσ=>Ga o key σ) hbody];exact ih n (by omega) (by omega)
theorem AaS {o:Au}{key:Ae}(hl:o.fEffects.length≤2000000)(hv:∀x∈o.fEffects,x.fValue.length≤2000000)(hr:o.fReads.length≤2000000)(hm:(E9 o.fItems key ([]:List Ab)).length≤2000000):UL FB o key=some (Io o key,Qv o key):=by
 have h:=Zp (key:=key) hl hv o.fEffects.length FB (Ae9 _) (by show o.fEffects.length<5000000;omega);rw[List.take_length] at h;unfold UL Io Qv Km;rw[Bn (by omega) (by omega),h,AX]
 cases o.fEffects.reverse.find? (G1 key) with
 | some x=>rfl
 | none=>
  show KS o key=_;unfold KS;rw[C0 (show D2 16 _=true from Aek (by simp;omega)),Em hm,AX,Mk,AX]
  cases DL o.fItems key<;>rfl
theorem TC {o:Au}(hl:o.fEffects.length≤1000000)(hv:∀x∈o.fEffects,x.fValue.length≤2000000):Hk FB o=some o.fEffects:=by
 unfold Hk;have hr:=(KM (l:=o.fEffects) (mk:=λi acc=>(acc,(i:Int))) (body:=λσ=>Dm o σ.1 σ.2) (fin:=λacc:List AE=>acc) (λ_ acc x=>(.go ((λ(acc:List AE) x=>acc++[x]) acc x):Out (List AE) (List AE))) (λi acc=>acc.length=i) (λi hi acc hP=>by
  refine⟨?_,λb hb=>by cases hb;simp[hP]⟩;show Dm o acc (i:Int)=_;unfold Dm;rw[Bx (Aek (by omega)),Bi (by omega) (by omega),BN hi,Em (hv _ (List.getElem_mem hi)),AX,C0 (show D2 56 _=true from Aek (by simp;omega)),Bn (by omega) (by omega)];rfl) (λacc hP=>by show Dm o acc _=_;unfold Dm;rw[Bp (Aej (by omega))]) (F:=FB) (by show o.fEffects.length<5000000;omega) (a:=[]) rfl).1
 rw[show Cl (λσ=>Dm o σ.1 σ.2) FB (([]:List AE),0)=_ from hr,Mz,AX];show some (o.fEffects.foldl (λacc x=>acc++[x]) [])=_;have:∀(m a:List AE),m.foldl (λacc x=>acc++[x]) a=a++m:=by
  intro m
  induction m with
  | nil=>intro a;simp
  | cons x m ih=>intro a;rw[List.foldl_cons,ih];simp
 rw[this];rfl
def Aav (y:Ab):Bool:=(Cb .i64) y.fKind&&(Cb .i64) y.fInt&&G9 y.fStr&&(Cb .i64) y.fN
def Aau (y:Ad):Bool:=(λ_=>true) y.fAllow&&(λys:(List Ae)=>ys.all G9&&decide (ys.length≤1048576)) y.fActions&&(λys:(List Ae)=>ys.all G9&&decide (ys.length≤1048576)) y.fResources
def AcO (y:AG):Bool:=(λ_=>true) y.fAllow&&(Cb .i64) y.fAddr&&(Cb .i64) y.fBits&&(Cb .i64) y.fLow&&(Cb .i64) y.fHigh
def AbO (y:AR):Bool:=G9 y.fTenant&&G9 y.fFunction&&(λys:(List Ae)=>ys.all G9&&decide (ys.length≤1048576)) y.fOps&&(λys:(List Ad)=>ys.all Aau&&decide (ys.length≤1048576)) y.fPolicy&&(λys:(List AG)=>ys.all AcO&&decide (ys.length≤1048576)) y.fNet&&(Cb .i64) y.fNow
def AbN (y:Bt):Bool:=G9 y.fKey&&(λys:(List Ab)=>ys.all Aav&&decide (ys.length≤1048576)) y.fValue&&(Cb .i64) y.fVersion
def AbM (y:A7):Bool:=G9 y.fOp&&(λys:(List (List Ab))=>ys.all (λys:(List Ab)=>ys.all Aav&&decide (ys.length≤1048576))&&decide (ys.length≤1048576)) y.fArgs
theorem HY {s:Ae}(h:G9 s=true):s.length≤1048576:=AeL h
theorem Gw.ofB {v:List Ab}(h:(v.all Aav&&decide (v.length≤1048576))=true):Gw MB v:=by
 simp only[Ael,Aeh,AeI] at h;refine⟨by decide,h.2,λc hc=>?_⟩;have:=h.1 c hc;unfold Aav at this;simp only[Ael] at this;exact⟨HY this.1.2,this.1.1.2,(KO this.2).2⟩
theorem OV {l:List Ae}(h:(l.all G9&&decide (l.length≤1048576))=true):l.length≤2000000∧∀x∈l,x.length≤1000000000:=by
 simp only[Ael,Aeh,AeI] at h;exact⟨by omega,λx hx=>by have:=HY (h.1 x hx);omega⟩
theorem Q0.ofB {s:Ad}(h:Aau s=true):Q0 s:=by
 unfold Aau at h;rw[Ael,Ael] at h;have h1:=OV h.1.2;have h2:=OV h.2;exact⟨h1.1,h2.1,h1.2,h2.2⟩
theorem XK.ofB {a:AR}(h:AbO a=true):XK a∧Cb .i64 a.fNow=true:=by
 unfold AbO at h;rw[Ael,Ael,Ael,Ael,Ael] at h;obtain⟨⟨⟨⟨⟨h1,h2⟩,h3⟩,h4⟩,h5⟩,h6⟩:=h;have h4':a.fPolicy.all Aau=true∧a.fPolicy.length≤1048576:=by simpa[Ael] using h4
 have h5':a.fNet.all AcO=true∧a.fNet.length≤1048576:=by simpa[Ael] using h5
 exact⟨⟨by have:=HY h1;omega,(OV h3).1,by omega,λx hx=>Q0.ofB (List.all_eq_true.1 h4'.1 x hx),by omega⟩,h6⟩
theorem ItA.ofB {l:List Bt}(h:(l.all AbN&&decide (l.length≤1048576))=true):ItA l:=by
 rw[Ael] at h;refine⟨by have:=AeL h.2;omega,λx hx=>?_⟩;have:=List.all_eq_true.1 h.1 x hx;unfold AbN at this;rw[Ael,Ael] at this;exact Gw.ofB this.1.2
theorem PY.ofB {q:A7}(h:AbM q=true):PY q:=by
 unfold AbM at h;rw[Ael] at h;have h2:=h.2;rw[Ael] at h2;exact⟨by have:=AeL h2.2;omega,λv hv=>Gw.ofB (List.all_eq_true.1 h2.1 v hv)⟩
theorem Kh {T:Type}:∀{xs:List (Ae×T)} {k:Ae} {v:T},CA xs k=some v→∃k',(k',v)∈xs
 | [],k,v,h=>by cases h
 | p::r,k,v,h=>by
  rw[CA] at h
  cases hd:decide (p.1=k) with
  | true=>rw[hd] at h;simp only[Aeq,Option.some.injEq] at h;subst h;exact⟨p.1,by simp⟩
  | false=>
   rw[hd] at h;obtain⟨k',hk⟩:=Kh (xs:=r) h;exact⟨k',List.mem_cons_of_mem _ hk⟩
theorem Tl {T:Type}{xs:List (Ae×T)}{k:Ae}{v:T}{p:Ae×T}(h:p∈mset xs k v):p∈xs∨p.2=v:=by
 unfold mset at h
 cases hh:DL xs k with
 | false=>
  rw[hh] at h;rcases List.mem_cons.1 ((Nt k v xs).mem_iff.1 h) with rfl | h
  ·exact .inr rfl
  ·exact .inl h
 | true=>
  rw[hh] at h;obtain⟨q,hq,e⟩:=List.mem_map.1 (show p∈xs.map _ from h)
  cases hd:decide (q.1=k) with
  | true=>rw[hd] at e;subst e;exact .inr rfl
  | false=>rw[hd] at e;subst e;exact .inl hq
theorem Tk {T:Type}{xs:List (Ae×T)}{k:Ae}{z:T}(h:DL xs k=true):∃k',(k',E9 xs k z)∈xs:=by
 unfold DL at h;unfold E9
 cases hg:CA xs k with
 | none=>rw[hg] at h;cases h
 | some v=>exact Kh hg
structure Si (v:Bh) (vp:List AI):Prop where
 ix:∀p∈v.fSecrets,0≤p.2∧p.2<(vp.length:Int)
 tx:∀e∈vp,e.fText.length≤1048576∧e.fBefore.length≤1048576
theorem Si.at {v:Bh}{vp:List AI}(h:Si v vp){i:Int}(h0:0≤i)(h1:i<(vp.length:Int)):(An vp i).fText.length≤1048576∧(An vp i).fBefore.length≤1048576:=by
 have hi:i.toNat<vp.length:=by omega
 have e:i=(i.toNat:Int):=by omega
 rw[e,BN hi];exact h.tx _ (List.getElem_mem hi)
theorem Si.val {v:Bh}{vp:List AI}(h:Si v vp){n:Ae}(hh:DL v.fSecrets n=true):0≤E9 v.fSecrets n (-1)∧E9 v.fSecrets n (-1)<(vp.length:Int):=by
 obtain⟨k',hk⟩:=Tk (z:=(-1:Int)) hh;exact h.ix _ hk
theorem Nh (v:Bh)(vp:List AI)(n:Ae):LC v vp n=some (bif DL v.fSecrets n then(E9 v.fSecrets n (-1),0) else(-1,5)):=by
 unfold LC
 cases DL v.fSecrets n<;>rfl
theorem QH {v:Bh}{vp:List AI}(h:Si v vp)(n f:Ae):∃r,LB v vp n f=some r∧r.1.length≤1048576:=by
 unfold LB;rw[Nh,AX]
 cases hh:DL v.fSecrets n with
 | false=>exact⟨_,rfl,by simp⟩
 | true=>
  obtain⟨h0,h1⟩:=h.val hh;simp only[Aeq,decide_true,Aeo,B4];rw[Bi h0 h1]
  cases E9 (An vp (E9 v.fSecrets n (-1))).fBound f false with
  | false=>exact⟨_,rfl,by simp⟩
  | true=>exact⟨_,rfl,(h.at h0 h1).1⟩
theorem Uw {s:Ae}(hs:s.length≤2000000):∃b,Mx FB s=some b:=by
 have e:I6 FB (EK s)=some ((EK s).any λc=>decide (c<33)||decide (126<c)):=by
  have hl:(EK s).length=s.length:=by simp[EK]
  unfold I6 RK Jh;rw[Nv (l:=EK s) (p:=λc=>decide (c<33)||decide (126<c)) (F:=FB) (body:=GJ (EK s)) (by show(EK s).length<5000000;omega) (λi h=>by
   unfold GJ Mw;rw[Bx (Aek (by omega)),Bi (by omega) (by omega),BN h,AX,Bn (by omega) (by omega)]) (by unfold GJ;rw[Bp (Aej (by omega))]),AX,ED]
 unfold Mx;rw[e,show D2 1 s.length=true from Aek (by omega)];simp only[Option.isSome_some,Dx,CC];exact⟨_,rfl⟩
theorem Yr {v:Bh}{vp:List AI}(h:Si v vp){n t:Ae}(ht:t.length≤1048576):∃e v' vp',Pc FB v vp n t=some (e,v',vp')∧Si v' vp':=by
 obtain⟨b,hb⟩:=Uw (s:=t) (by omega);unfold Pc;rw[Nh,AX,hb,AX];have fin:Si ⟨mset v.fSecrets n (vp.length:Int)⟩ (vp++[(AI.mk t ([]:Ae) 1 0 0 ([]:List (Ae×Bool)))]):=by
  refine⟨λp hp=>?_,λe he=>?_⟩
  ·rcases Tl hp with hp | hp
   ·have:=h.ix p hp;simp only[Aes,AeA];omega
   ·rw[hp];simp only[Aes,AeA];omega
  ·rcases List.mem_append.1 he with he | he
   ·exact h.tx e he
   ·simp only[Ae8] at he;subst he;exact⟨ht,by simp⟩
 have key:∀(r:Int×Int),∃e v' vp',(BB (decide (r.2=10)) (some (r.2,v,vp)) (BB (!(CK n)) (some (4,v,vp)) (BB (!b) (some (1,v,vp)) (BB (decide (r.2=0)) (some (6,v,vp)) (BB (decide (256≤(v.fSecrets.length:Int))) (some (3,v,vp)) (some (0,(Bh.mk (mset v.fSecrets n (vp.length:Int))),vp++[(AI.mk t ([]:Ae) 1 0 0 ([]:List (Ae×Bool)))])))))):Option (Int×Bh×List AI))=some (e,v',vp')∧Si v' vp':=by
  intro r
  cases decide (r.2=10) with
  | true=>exact⟨_,_,_,rfl,h⟩
  | false=>
   cases CK n with
   | false=>exact⟨_,_,_,rfl,h⟩
   | true=>
    cases b with
    | false=>exact⟨_,_,_,rfl,h⟩
    | true=>
     cases decide (r.2=0) with
     | true=>exact⟨_,_,_,rfl,h⟩
     | false=>
      cases decide (256≤(v.fSecrets.length:Int)) with
      | true=>exact⟨_,_,_,rfl,h⟩
      | false=>exact⟨_,_,_,rfl,fin⟩
 exact key _
theorem WS {v:Bh}{vp:List AI}(h:Si v vp)(n f:Ae):∃e v' vp',LD v vp n f=some (e,v',vp')∧Si v' vp':=by
 unfold LD;rw[Nh,AX]
 cases hh:DL v.fSecrets n with
 | false=>exact⟨_,_,_,rfl,h⟩
 | true=>
  obtain⟨h0,h1⟩:=h.val hh;simp only[Aeq,decide_true,Aeo,B4]
  cases CK f with
  | false=>exact⟨_,_,_,rfl,h⟩
  | true=>
   rw[Aeo,B4,Bi h0 h1];generalize E9 v.fSecrets n (-1)=i at h0 h1
   cases E9 (An vp i).fBound f false with
   | true=>exact⟨_,_,_,rfl,h⟩
   | false=>
    cases decide (32≤((An vp i).fBound.length:Int)) with
    | true=>exact⟨_,_,_,rfl,h⟩
    | false=>
     refine⟨_,_,_,rfl,λp hp=>by rw[List.length_set];exact h.ix p hp,λe he=>?_⟩;rcases List.mem_or_eq_of_mem_set he with he | he
     ·exact h.tx e he
     ·subst he;exact h.at h0 h1
def OW (s:Ae)(n:Int)(t:Ae):Int:=bif Kv s t then max n (t.length:Int) else n
def wT (s t:Ae):Int:=bif Kv s t then(t.length:Int) else 0
def wR (s:Ae)(vp:List AI)(i:Int):Int:=max (wT s (An vp i).fText) (wT s (An vp i).fBefore)
theorem Vm (s t:Ae):0≤wT s t∧wT s t≤(s.length:Int):=by
 unfold wT
 cases h:Kv s t with
 | false=>exact⟨AeG _,by simp⟩
 | true=>
  unfold Kv at h;simp only[Ael,Aeh] at h;rw[Aeq];omega
theorem QE (s:Ae){n:Int}(hn:0≤n)(t:Ae):OW s n t=max n (wT s t):=by
 unfold OW wT
 cases Kv s t with
 | false=>rw[Aem,Aem];omega
 | true=>rfl
theorem AbI {v:Bh}{vp:List AI}(h:Si v vp)(s x:Ae){i n:Int}(h0:0≤i)(h1:i<(vp.length:Int))(hn:0≤n):E5 FB vp s x i n=some (.next (max n (wR s vp i))):=by
 unfold E5;rw[Bi h0 h1];have hr:=(KM (l:=[(An vp i).fText,(An vp i).fBefore]) (mk:=λk acc=>(acc,(k:Int))) (body:=λσ=>Dk vp s i σ.1 σ.2) (fin:=λacc:Int=>(acc,(2:Int),false)) (λ_ acc t=>(.go (OW s acc t):Out _ Int)) (λ_ acc=>True) (λk hk acc _=>by
  refine⟨?_,λ_ _=>trivial⟩;have hk2:k<2:=hk;show Dk vp s i acc (k:Int)=_;unfold Dk;rw[Bx (Aek (by omega)),Bi (by omega) (by omega),BN hk,Ly,Option.isSome_some,CC,Bn (by omega) (by omega),EZ];rfl) (λacc _=>by show Dk vp s i acc _=_;unfold Dk;rw[Bp (Aej (by omega))];rfl) (F:=FB) (by show 2<5000000;omega) (a:=n) trivial).1
 rw[show Cl (λσ=>Dk vp s i σ.1 σ.2) FB (n,0)=_ from hr,AX,Mz (OW s)];show Gs (OW s (OW s n (An vp i).fText) (An vp i).fBefore) 2 false=_;have e1:=QE s hn (An vp i).fText;have b1:=Vm s (An vp i).fText;have e2:=QE s (n:=OW s n (An vp i).fText) (by rw[e1];omega) (An vp i).fBefore;rw[e2,e1];unfold Gs wR
 congr 2
 omega
def MD (s:Ae)(vp:List AI)(l:List (Ae×Int))(n:Int):Int:=l.foldl (λn p=>max n (wR s vp p.2)) n
theorem UB (s:Ae)(vp:List AI){l l':List (Ae×Int)}(h:l.Perm l'):∀n,MD s vp l n=MD s vp l' n:=by
 induction h with
 | nil=>intro n;rfl
 | cons p _ ih=>intro n;exact ih _
 | swap a b l=>
  intro n;show MD s vp l (max (max n (wR s vp b.2)) (wR s vp a.2))=MD s vp l (max (max n (wR s vp a.2)) (wR s vp b.2))
  congr 1
  omega
 | trans _ _ ih1 ih2=>intro n;rw[ih1,ih2]
theorem Tt (s:Ae)(vp:List AI):∀(l:List (Ae×Int)) (n:Int),0≤n→n≤(s.length:Int)→0≤MD s vp l n∧MD s vp l n≤(s.length:Int)
 | [],n,h0,h1=>⟨h0,h1⟩
 | p::l,n,h0,h1=>by
  have b1:=Vm s (An vp p.2).fText;have b2:=Vm s (An vp p.2).fBefore;exact Tt s vp l (max n (wR s vp p.2)) (by unfold wR;omega) (by unfold wR;omega)
theorem V0 {v:Bh}{vp:List AI}(h:Si v vp)(s:Ae):∀(l:List (Ae×Int)) (n:Int),(∀p∈l,p∈v.fSecrets)→0≤n→Xs (λpe τ=>E5 FB vp s pe.1 pe.2 τ) l n=some (.go (MD s vp l n))
 | [],n,_,_=>rfl
 | p::l,n,hl,hn=>by
  have hp:=h.ix p (hl p (by simp));rw[Xs,AbI h s p.1 hp.1 hp.2 hn];have b1:=Vm s (An vp p.2).fText;exact V0 h s l _ (λq hq=>hl q (List.mem_cons_of_mem _ hq)) (by omega)
theorem AbJ {v:Bh}{vp:List AI}(h:Si v vp){s out:Ae}(hs:s≠[])(ho:out.length≤100000000)(hl:s.length≤100000000):∃s' out',D5 FB v vp s out=some (.next (s',out'))∧s'.length<s.length∧out.length<out'.length∧out'.length+3*s'.length≤out.length+3*s.length:=by
 have hp:0<s.length:=List.length_pos_iff.2 hs;obtain⟨b0,b1⟩:=Tt s vp v.fSecrets 0 (AeG _) (by omega);have hk:∃s' out',DR s out (MD s vp v.fSecrets 0)=some (.next (s',out'))∧s'.length<s.length∧out.length<out'.length∧out'.length+3*s'.length≤out.length+3*s.length:=by
  generalize MD s vp v.fSecrets 0=N at b0 b1;unfold DR
  by_cases hN:N=0
  ·have hbat:=Acw s 0;rw[Bx (Aek hN),Bi (by omega) (by omega),C0 (show D2 1 _=true from Aek (by omega)),Ht hbat.1 hbat.2,PS,DC (by omega) (by omega)];exact⟨_,_,rfl,by rw[AeT];omega,by simp,by rw[AeT];simp;omega⟩
  ·rw[Bp (Aej hN),C0 (show D2 1 _=true from Aek (by simp;omega)),PS,DC (by omega) (by omega)];exact⟨_,_,rfl,by rw[AeT];omega,by simp,by rw[AeT];simp;omega⟩
 obtain⟨s',out',e,h1⟩:=hk;refine⟨s',out',?_,h1⟩;unfold D5;rw[Bx (by simp[hs])];refine AbW λord hperm=>?_;rw[V0 h s ord 0 (λp hp=>hperm.mem_iff.1 hp) (AeG _),AX,UB s vp hperm];exact e
theorem SI {v:Bh}{vp:List AI}(h:Si v vp){s:Ae}(hs:s≠[])(hl:s.length≤2000000):∃r,HU FB v vp s=some r∧r.length≤3*s.length:=by
 have hp:0<s.length:=List.length_pos_iff.2 hs;obtain⟨o,h1,h2⟩:=HB (body:=λσ=>D5 FB v vp σ.1 σ.2) (λσ=>σ.1.length≤s.length∧σ.2.length+3*σ.1.length≤3*s.length∧(σ.1.length<s.length→0<σ.2.length)) (λσ=>σ.1.length) (λo=>∃r:Ae,o = .go r∧0<r.length∧r.length≤3*s.length) (λσ hI=>by
  obtain⟨x,out⟩:=σ;obtain⟨i1,i2,i3⟩:=hI;simp only at i1 i2 i3
  by_cases hx:x=[]
  ·refine .inr ⟨.go out,?_,out,rfl,i3 (by rw[hx];exact hp),by omega⟩;show D5 FB v vp x out=_;unfold D5;rw[Bp (by simp[hx])]
  ·obtain⟨s',out',e,q1,q2,q3⟩:=AbJ h hx (out:=out) (by omega) (by omega);exact .inl ⟨(s',out'),e,⟨by show s'.length≤_;omega,by show out'.length+3*s'.length≤_;omega,λ_=>by show 0<out'.length;omega⟩,q1⟩) FB (s,[]) ⟨Ae9 _,by simp,λh=>by simp at h⟩ (by show s.length<5000000;omega)
 obtain⟨r,rfl,h3,h4⟩:=h2;refine⟨r,?_,h4⟩;unfold HU;rw[h1,AX];show Gt r=_;unfold Gt;rw[C0 (Aek h3)]
theorem Vw {R:Type}{N:Nat}{p:Int→Bool}{body:Int→Option (Stp Int (Out R Int))}(hN:N≤2000000)(hb:∀i,body i=(Bk (imp (decide (i<(N:Int))) (Ck i (N:Int)))<|BB (decide (i<(N:Int))&&p i) (Bk (Cb .i64 (i+1))<|some (.next (i+1))) (some (.out (.go i))))):∃i:Int,Cl body FB 0=some (.go i)∧0≤i∧i≤(N:Int):=by
 obtain⟨o,h1,h2⟩:=HB (body:=body) (λi=>0≤i∧i≤(N:Int)) (λi=>((N:Int)-i).toNat) (λo=>∃i:Int,o = .go i∧0≤i∧i≤(N:Int)) (λi hI=>by
  rw[hb i]
  by_cases hi:i<(N:Int)
  ·rw[On hI.1 hi,Dx,CC,Aek hi,Aex]
   cases hp:p i with
   | true=>
    refine .inl ⟨i+1,?_,by omega,by omega⟩;rw[BR,Bn (by omega) (by omega)]
   | false=>exact .inr ⟨_,rfl,i,rfl,hI.1,hI.2⟩
  ·rw[Aej hi];exact .inr ⟨_,rfl,i,rfl,hI.1,hI.2⟩) FB 0 ⟨by omega,by omega⟩ (by show((N:Int)-0).toNat<5000000;omega)
 obtain⟨i,rfl,h3⟩:=h2;exact⟨i,h1,h3⟩
structure Sj (k:Nat) (w:AW):Prop where
 len:w.fSecrets.length≤k
 bd:∀s∈w.fSecrets,s.fBound.length≤32
theorem VU {i:Int}{N:Nat}(h0:0≤i):imp (decide (i<(N:Int))) (Ck i (N:Int))=true:=by
 by_cases h:i<(N:Int)
 ·rw[On h0 h];exact Dx _
 ·rw[Aej h];rfl
theorem SE {w:AW}{k:Nat}(h:Sj k w)(hk:k≤1000)(n:Ae):∃i b,QA FB w n=some (i,b)∧0≤i∧i≤(w.fSecrets.length:Int)∧(b=true→i<(w.fSecrets.length:Int)):=by
 have hl:=h.len;obtain⟨i,h1,h2,h3⟩:=Vw (R:=Int×Bool) (N:=w.fSecrets.length) (p:=λx=>Cz ((An w.fSecrets x).fName) n) (body:=IW w n) (by omega) (λi=>rfl);unfold QA;rw[show Cl (λσ=>IW w n σ) FB 0=_ from h1,AX];refine⟨i,decide (i<(w.fSecrets.length:Int))&&decide ((An w.fSecrets i).fName=n),?_,h2,h3,λhb=>?_⟩
 ·show IV w n i=_;unfold IV;rw[VU h2,CC]
 ·simp only[Ael,Aeh] at hb;exact hb.1
theorem WB {l:List Ae}(hl:l.length≤1000)(n:Ae):∃i b,OQ FB l n=some (i,b)∧0≤i∧i≤(l.length:Int):=by
 obtain⟨i,h1,h2,h3⟩:=Vw (R:=Int×Bool) (N:=l.length) (p:=λx=>Cz (An l x) n) (body:=HF l n) (by omega) (λi=>rfl);unfold OQ;rw[show Cl (λσ=>HF l n σ) FB 0=_ from h1,AX];refine⟨i,decide (i<(l.length:Int))&&decide (An l i=n),?_,h2,h3⟩;show HE l n i=_;unfold HE;rw[VU h2,CC]
theorem Uo {s:Ae}(hs:s.length≤2000000):∃b,Mo FB s=some b:=by
 unfold Mo;rw[YQ (N:=s.length) (p:=λi:Nat=>decide (Cw s (i:Int)<33)||decide (126<Cw s (i:Int))) (c:=false) (u:=()) (body:=Gd s) (by show s.length<5000000;omega) (λi hi=>by
  unfold Gd;rw[Bx (Aek (by omega)),Bi (by omega) (by omega),Bn (by omega) (by omega)]) (by unfold Gd;rw[Bp (Aej (by omega))]),AX]
 cases(List.range s.length).any λi:Nat=>decide (Cw s (i:Int)<33)||decide (126<Cw s (i:Int)) with
 | true=>exact⟨_,rfl⟩
 | false=>exact⟨_,rfl⟩
theorem IF {α:Type}{P:α→Prop}{p:Bool}{x:α}{y:Option α}(hx:P x)(hy:p=false→∃r,y=some r∧P r):∃r,BB p (some x) y=some r∧P r:=by
 cases p with
 | true=>exact⟨x,rfl,hx⟩
 | false=>exact hy rfl
theorem Aaa {w:AW}{k:Nat}(h:Sj k w)(hk:k≤1000){n t:Ae}(hn:n.length≤2000000)(ht:t.length≤2000000):∃r,W9 FB w n t=some r∧Sj (k+1) r.2:=by
 have hl:=h.len;have h':Sj (k+1) w:=⟨by omega,h.bd⟩
 obtain⟨b,hb⟩:=Uo ht;obtain⟨i,c,hf,h0,h1,_⟩:=SE h hk n;unfold W9;rw[C0 (show D2 1 n.length=true from Aek (by omega)),hb,AX,hf,AX];refine IF (P:=λr:Int×AW=>Sj (k+1) r.2) h' λ_=>IF (P:=λr:Int×AW=>Sj (k+1) r.2) h' λ_=>IF (P:=λr:Int×AW=>Sj (k+1) r.2) h' λ_=>IF (P:=λr:Int×AW=>Sj (k+1) r.2) h' λ_=>IF (P:=λr:Int×AW=>Sj (k+1) r.2) h' λ_=>?_;simp only;rw[DC h0 h1,C0 (show D2 104 _=true from Aek (by simp;omega)),C0 (show D2 104 _=true from Aek (by simp;omega)),C0 (show D2 104 _=true from Aek (by simp;omega))];refine⟨_,rfl,by simp;omega,λs hs=>?_⟩;simp only[List.nil_append,List.mem_append,Ae8] at hs;rcases hs with(hs | hs) | hs
 ·exact h.bd s (List.mem_of_mem_take hs)
 ·subst hs;simp
 ·exact h.bd s (List.mem_of_mem_drop hs)
theorem Yg {w:AW}{k:Nat}(h:Sj k w)(hk:k≤1000){n f:Ae}(hf:f.length≤2000000):∃r,QD FB w n f=some r∧Sj k r.2:=by
 have hl:=h.len;obtain⟨i,c,he,h0,h1,h2⟩:=SE h hk n;unfold QD;rw[he,AX,C0 (show D2 1 f.length=true from Aek (by omega))];refine IF (P:=λr:Int×AW=>Sj k r.2) h λ_=>IF (P:=λr:Int×AW=>Sj k r.2) h λhc=>IF (P:=λr:Int×AW=>Sj k r.2) h λ_=>?_;simp only at hc ⊢;have hi:i<(w.fSecrets.length:Int):=h2 (by simpa using hc);have hb:(An w.fSecrets i).fBound.length≤32:=by
  rw[show i=(i.toNat:Int) from by omega,BN (by omega)];exact h.bd _ (List.getElem_mem _)
 obtain⟨j,d,hp,j0,j1⟩:=WB (l:=(An w.fSecrets i).fBound) (by omega) f;rw[Bi h0 hi,hp,AX];refine IF (P:=λr:Int×AW=>Sj k r.2) h λ_=>IF (P:=λr:Int×AW=>Sj k r.2) h λhd=>?_;have h32':(An w.fSecrets i).fBound.length≠32:=by
  have:=of_decide_eq_false hd;omega
 simp only;rw[DC j0 j1,C0 (show D2 16 _=true from Aek (by simp;omega)),C0 (show D2 16 _=true from Aek (by simp;omega)),C0 (show D2 16 _=true from Aek (by simp;omega)),PS];refine⟨_,rfl,by simpa using hl,λs hs=>?_⟩;rcases List.mem_or_eq_of_mem_set hs with hs | hs
 ·exact h.bd s hs
 ·subst hs;simp;omega
structure SeA (x:Ci):Prop where
 n:x.fName.length≤2000000
 t:x.fText.length≤1048576
 f:x.fFunction.length≤2000000
theorem Tw {x:Bv}(hx:x.fNone=false)(hs:∀s∈x.fSecrets,SeA s):∃r,Kn FB x=some r∧Si r.1.1 r.1.2:=by
 obtain⟨o,h1,h2⟩:=HB (body:=λσ:Int×Bool×List AS×List (Ae×Int)×List AI=>DA FB x σ.1 σ.2.1 σ.2.2.1 σ.2.2.2.1 σ.2.2.2.2) (λσ=>0≤σ.1∧σ.1≤20∧Sj σ.1.toNat ⟨σ.2.1,σ.2.2.1⟩∧Si ⟨σ.2.2.2.1⟩ σ.2.2.2.2) (λσ=>(20-σ.1).toNat) (λo=>∃b l m e,o = .go (b,l,m,e)∧Si ⟨m⟩ e) (λσ hI=>by
  obtain⟨i,b,l,m,e⟩:=σ;obtain⟨i0,i1,i2,i3⟩:=hI;simp only at i0 i1 i2 i3;show(∃s',DA FB x i b l m e=some (.next s')∧_)∨∃o,DA FB x i b l m e=some (.out o)∧_;unfold DA
  cases hc:(decide (i<(x.fSecrets.length:Int))&&decide (i<20)) with
  | false=>exact .inr ⟨_,rfl,b,l,m,e,rfl,i3⟩
  | true=>
   simp only[Ael,Aeh] at hc;have hm:SeA (An x.fSecrets i):=by
    rw[show i=(i.toNat:Int) from by omega,BN (by omega)];exact hs _ (List.getElem_mem _)
   obtain⟨e1,v1,p1,q1,k1⟩:=Yr i3 (n:=(An x.fSecrets i).fName) hm.t;obtain⟨r2,q2,k2⟩:=Aaa i2 (by omega) hm.n (Nat.le_trans hm.t (by decide));obtain⟨e3,v3,p3,q3,k3⟩:=WS k1 (An x.fSecrets i).fName (An x.fSecrets i).fFunction;obtain⟨r4,q4,k4⟩:=Yg k2 (by omega) (n:=(An x.fSecrets i).fName) hm.f;rw[BR,Bi i0 hc.1,q1,AX,q2,AX];simp only;rw[q3,AX,q4,AX,Bn (by omega) (by omega)];refine .inl ⟨_,rfl,⟨by show 0≤i+1;omega,by show i+1≤20;omega,?_,k3⟩,by show(20-(i+1)).toNat<(20-i).toNat;omega⟩;show Sj (i+1).toNat r4.2;rw[show(i+1).toNat=i.toNat+1 from by omega];exact k4) FB (0,true,[],[],[]) ⟨by decide,by decide,⟨by simp,by simp⟩,⟨by simp,by simp⟩⟩ (by decide)
 obtain⟨b,l,m,e,rfl,h3⟩:=h2;refine⟨((⟨m⟩,e),⟨b,l⟩),?_,h3⟩;unfold Kn;rw[Bp hx];show Bs (Cl (λσ:Int×Bool×List AS×List (Ae×Int)×List AI=>DA FB x σ.1 σ.2.1 σ.2.2.1 σ.2.2.2.1 σ.2.2.2.2) FB (0,true,[],[],[])) _=_;rw[h1,AX];rfl
def AaV (rdF:Ae→Ae→Option (Ae×Int×Int))(rxF:Ae→Option Ae)(F:Nat)(o:Au)(q:A7):Option (B9×Au):=
 BB (!o.fMade) (Bs (BT ([]:List Ab) 10) λr5=>some (r5,(Au.mk o.fMade o.fA o.fItems () o.fCalls o.fEffects o.fReads o.fLog))) (BB (decide (32≤o.fCalls)) (Bs (BT ([]:List Ab) 3) λhj=>some (hj,(Au.mk o.fMade o.fA o.fItems () o.fCalls o.fEffects o.fReads o.fLog))) (Bk (Cb .i64 (o.fCalls+1))<|Bs (Ch F o.fA q) λhf=>BB (!decide (hf=0)) (Bs (BT ([]:List Ab) hf) λhk=>some (hk,(Au.mk o.fMade o.fA o.fItems () (o.fCalls+1) o.fEffects o.fReads o.fLog))) (Bs (J8 q) λhd=>BB (hd.2) (Bk (D2 56 (o.fEffects.length+([hd.1]:List AE).length))<|Bs (JZ) λhl=>Bs (BT hl 0) λhm=>some (hm,(Au.mk o.fMade o.fA o.fItems () (o.fCalls+1) (o.fEffects++([hd.1]:List AE)) o.fReads o.fLog))) (BB (decide (q.fOp=([103,101,116]:Ae))) (Bk (Ck 0 (q.fArgs.length:Int))<|Bs (Iu (An q.fArgs 0)) λhn=>Bs (UL F (Au.mk o.fMade o.fA o.fItems () (o.fCalls+1) o.fEffects o.fReads o.fLog) hn.1) λhb=>Bs (BT hb.1 0) λhp=>some (hp,(Au.mk hb.2.fMade hb.2.fA hb.2.fItems () hb.2.fCalls hb.2.fEffects hb.2.fReads hb.2.fLog))) (BB (decide (q.fOp=([115,101,99,114,101,116]:Ae))) (Bk (Ck 0 (q.fArgs.length:Int))<|Bs (Iu (An q.fArgs 0)) λhq=>Bs (rdF hq.1 o.fA.fFunction) λhe=>BB (!decide (he.2.2=0)) (Bs (BT ([]:List Ab) he.2.2) λhr=>some (hr,(Au.mk o.fMade o.fA o.fItems () (o.fCalls+1) o.fEffects o.fReads o.fLog))) (Bs (W8 F he.1) λhg=>Bs (BT hg.1 hg.2) λhs=>some (hs,(Au.mk o.fMade o.fA o.fItems () (o.fCalls+1) o.fEffects o.fReads o.fLog)))) (BB (decide (q.fOp=([102,101,116,99,104]:Ae))) (Bk (Ck 1 (q.fArgs.length:Int))<|Bs (Es (An q.fArgs 1)) λht=>Bs (BT ht 0) λhu=>some (hu,(Au.mk o.fMade o.fA o.fItems () (o.fCalls+1) o.fEffects o.fReads o.fLog))) (BB (decide (q.fOp=([110,111,119]:Ae))) (Bs (WD F o.fA.fNow) λhh=>Bs (BT hh.1 hh.2) λhw=>some (hw,(Au.mk o.fMade o.fA o.fItems () (o.fCalls+1) o.fEffects o.fReads o.fLog))) (Bk (Ck 0 (q.fArgs.length:Int))<|Bs (Ju F (An q.fArgs 0)) λhx=>Bs (rxF hx.1) λhi=>Bk (D2 16 (o.fLog.length+([hi]:List Ae).length))<|Bs (JZ) λhy=>Bs (BT hy 0) λhz=>some (hz,(Au.mk o.fMade o.fA o.fItems () (o.fCalls+1) o.fEffects o.fReads (o.fLog++([hi]:List Ae))))))))))))
theorem Acl (F:Nat)(o:Au)(v:Bh)(vp:List AI)(q:A7):Lf F o v vp q=AaV (LB v vp) (HU F v vp) F o q:=rfl
theorem Acm (F:Nat)(o:Au)(q:A7):TE F o q=AaV KH Ix F o q:=rfl
def SQ (v:List Ab):B9:=bif decide (ET v=0) then⟨0,v⟩ else⟨ET v,[]⟩
def PJ (q:A7):Option AE:=
 bif decide (q.fOp=[112,117,116]) then some ⟨1,DT q,An q.fArgs 1,0⟩ else bif decide (q.fOp=[100,101,108,101,116,101]) then some ⟨2,DT q,[],0⟩ else bif decide (q.fOp=[115,101,110,100]) then some ⟨3,DT q,An q.fArgs 1,0⟩ else
 bif decide (q.fOp=[116,105,109,101,114]) then some ⟨4,DT q,An q.fArgs 2,(An (An q.fArgs 1) 0).fInt⟩ else bif decide (q.fOp=[115,105,103,110,97,108]) then some ⟨5,DT q,An q.fArgs 1,0⟩ else none
def Ue (rd:Ae→Ae→Ae×Int×Int)(rx:Ae→Ae)(o:Au)(q:A7):B9×Au:=
 bif decide (32≤o.fCalls) then(⟨3,[]⟩,o) else
 bif !decide (Lg o.fA q=0) then(⟨Lg o.fA q,[]⟩,{ o with fCalls:=o.fCalls+1 }) else
 match PJ q with
 | some x=>(⟨0,Ke⟩,{ o with fCalls:=o.fCalls+1,fEffects:=o.fEffects++[x] })
 | none=>bif decide (q.fOp=[103,101,116]) then(⟨0,Io o (DT q)⟩,Qv { o with fCalls:=o.fCalls+1 } (DT q)) else
  bif decide (q.fOp=[115,101,99,114,101,116]) then((bif decide ((rd (DT q) o.fA.fFunction).2.2=0) then SQ [⟨4,0,(rd (DT q) o.fA.fFunction).1,0⟩] else⟨(rd (DT q) o.fA.fFunction).2.2,[]⟩),{ o with fCalls:=o.fCalls+1 }) else
  bif decide (q.fOp=[102,101,116,99,104]) then(⟨0,An q.fArgs 1⟩,{ o with fCalls:=o.fCalls+1 }) else
  bif decide (q.fOp=[110,111,119]) then(SQ [⟨3,o.fA.fNow,[],0⟩],{ o with fCalls:=o.fCalls+1 }) else
  (⟨0,Ke⟩,{ o with fCalls:=o.fCalls+1,fLog:=o.fLog++[rx (TO (An q.fArgs 0)).1] })
structure HoA (o:Au):Prop where
 made:o.fMade=true
 a:XK o.fA
 now:Cb .i64 o.fA.fNow=true
 c:0≤o.fCalls∧o.fCalls≤1000
 e:o.fEffects.length≤1000
 ev:∀x∈o.fEffects,x.fValue.length≤1048576
 r:o.fReads.length≤1000
 l:o.fLog.length≤1000
 it:∀k,(E9 o.fItems k ([]:List Ab)).length≤1048576
theorem Gw.one1 {c:Ab}(h1:c.fStr.length≤MB)(h2:Cb .i64 c.fInt=true)(h3:c.fN=0):Gw MB [c]:=⟨by decide,by show 1≤1048576;decide,λd hd=>by
 obtain rfl:d=c:=by simpa using hd
 exact⟨h1,h2,by rw[h3];decide⟩⟩
theorem J6 (v:List Ab):BT v 0=some ⟨0,v⟩:=rfl
theorem I7 {v:List Ab}{e:Int}(h:e≠0):BT v e=some ⟨e,[]⟩:=by unfold BT;rw[Aej h];rfl
theorem KZ {a:AR}{q:A7}(h:Lg a q=0):∃s,(HS q.fOp).1=some s∧q.fArgs.length=s.length∧(∀v∈q.fArgs,ET v=0)∧Pj s q.fArgs=true∧Qu a.fOps q.fOp=true∧((HS q.fOp).2=true→Aan a q=true):=by
 obtain⟨_,h⟩:=Ja h
 cases ht:(HS q.fOp).1 with
 | none=>rw[ht] at h;exact absurd (show(4:Int)=0 from h) (by decide)
 | some s=>
  rw[ht] at h;simp only at h
  cases hh:Qu a.fOps q.fOp with
  | false=>rw[hh] at h;exact absurd (show(12:Int)=0 from h) (by decide)
  | true=>
   rw[hh] at h;simp only[Aeo,Aem] at h
   cases hb:Abg q s with
   | true=>rw[hb] at h;exact absurd (show(7:Int)=0 from h) (by decide)
   | false=>
    rw[hb,Aem] at h;unfold Abg at hb;simp only[AeN,AeY,Aeh] at hb;obtain⟨h1,h2,h3⟩:=hb;refine⟨s,rfl,by omega,λv hv=>?_,h3,rfl,λhn=>?_⟩
    ·rw[List.any_eq_false] at h2;simpa using h2 v hv
    ·rw[hn] at h
     cases hp:Aan a q with
     | true=>rfl
     | false=>rw[hp] at h;exact absurd (show(12:Int)=0 from h) (by decide)
theorem PI {q:A7}{x:AE}(h:PJ q=some x):(HS q.fOp).2=true:=by
 unfold PJ at h
 by_cases h1:q.fOp=[112,117,116]
 ·rw[h1];decide
 by_cases h2:q.fOp=[100,101,108,101,116,101]
 ·rw[h2];decide
 by_cases h3:q.fOp=[115,101,110,100]
 ·rw[h3];decide
 by_cases h4:q.fOp=[116,105,109,101,114]
 ·rw[h4];decide
 by_cases h5:q.fOp=[115,105,103,110,97,108]
 ·rw[h5];decide
 rw[Aej h1,Aej h2,Aej h3,Aej h4,Aej h5] at h
 cases h
theorem MV {q:A7}(hq:PY q){i:Nat}(hi:i<q.fArgs.length):(An q.fArgs (i:Int)).length≤1048576:=(hq.at hi).hv
theorem UM {a:AR}{q:A7}(hq:PY q)(h:Lg a q=0):J8 q=some (match PJ q with | some x=>(x,true) | none=>(⟨0,[],[],0⟩,false)):=by
 obtain⟨s,h1,h2,h3,h4,_⟩:=KZ h;have hp:∀i:Nat,i<q.fArgs.length→0<(An q.fArgs (i:Int)).length:=λi hi=>K3 (h3 _ (by rw[BN hi];exact List.getElem_mem hi));have hstr:0<q.fArgs.length→Iu (An q.fArgs 0)=some (DT q,decide ((An (An q.fArgs 0) 0).fKind=4)):=λh0=>MH (by simpa using hp 0 h0);unfold J8 PJ
 by_cases e1:q.fOp=[112,117,116]
 ·have hs:s=[88,0]:=by rw[e1] at h1;cases h1;rfl
  subst hs;have hl:q.fArgs.length=2:=h2;rw[Aek e1,BR,Bi (by omega) (by omega),Bi (by omega) (by omega),hstr (by omega),AX,Em (by have:=MV hq (i:=1) (by omega);simpa using Nat.le_trans this (by decide)),AX];rfl
 rw[Aej e1,B4,Aem]
 by_cases e2:q.fOp=[100,101,108,101,116,101]
 ·have hs:s=[88]:=by rw[e2] at h1;cases h1;rfl
  subst hs;have hl:q.fArgs.length=1:=h2;rw[Aek e2,BR,Bi (by omega) (by omega),hstr (by omega),AX,Em (by simp),AX];rfl
 rw[Aej e2,B4,Aem]
 by_cases e3:q.fOp=[115,101,110,100]
 ·have hs:s=[89,0]:=by rw[e3] at h1;cases h1;rfl
  subst hs;have hl:q.fArgs.length=2:=h2;rw[Aek e3,BR,Bi (by omega) (by omega),Bi (by omega) (by omega),hstr (by omega),AX,Em (by have:=MV hq (i:=1) (by omega);simpa using Nat.le_trans this (by decide)),AX];rfl
 rw[Aej e3,B4,Aem]
 by_cases e4:q.fOp=[116,105,109,101,114]
 ·have hs:s=[89,90,0]:=by rw[e4] at h1;cases h1;rfl
  subst hs;have hl:q.fArgs.length=3:=h2;have h0:=hp 1 (by omega);rw[Aek e4,BR,Bi (by omega) (by omega),Bi (by omega) (by omega),Bi (by omega) (by simpa using h0),Bi (by omega) (by omega),hstr (by omega),AX,Em (by have:=MV hq (i:=2) (by omega);simpa using Nat.le_trans this (by decide)),AX];rfl
 rw[Aej e4,B4,Aem]
 by_cases e5:q.fOp=[115,105,103,110,97,108]
 ·have hs:s=[88,91]:=by rw[e5] at h1;cases h1;rfl
  subst hs;have hl:q.fArgs.length=2:=h2;rw[Aek e5,BR,Bi (by omega) (by omega),Bi (by omega) (by omega),hstr (by omega),AX,Em (by have:=MV hq (i:=1) (by omega);simpa using Nat.le_trans this (by decide)),AX];rfl
 rw[Aej e5];rfl
theorem AaY {v:List Ab}(h:ET v=0):(TO v).1≠[]∧(TO v).1.length≤4000:=by
 unfold ET at h;unfold TO
 cases hw:whole v with
 | none=>rw[hw] at h;exact absurd (show(1:Int)=0 from h) (by decide)
 | some f=>
  rw[hw] at h;obtain⟨_,h2,h3⟩:=OJ hw;have h':Qw f=0:=h;simp only[h',decide_true,Aeq];refine⟨List.length_pos_iff.1 (Vp h2 h3),?_⟩;unfold Qw at h'
  cases hb:(f.flat.any U5) with
  | true=>rw[hb] at h';exact absurd (show(2:Int)=0 from h') (by decide)
  | false=>
   rw[hb,Aem] at h'
   cases hc:(f.flat.any Tu||(decide (200<f.flat.length)||(decide (8<f.dep)||decide (4000<(f.txt true).length)))) with
   | true=>rw[hc] at h';exact absurd (show(3:Int)=0 from h') (by decide)
   | false=>
    simp only[AeN,Aei] at hc;omega
theorem VY {rdF:Ae→Ae→Option (Ae×Int×Int)}{rxF:Ae→Option Ae}{rd:Ae→Ae→Ae×Int×Int}{rx:Ae→Ae}{o:Au}{q:A7}(h:HoA o)(hq:PY q)
  (hr:∀n f,rdF n f=some (rd n f)∧(rd n f).1.length≤1048576) (hx:∀s,s≠[]→s.length≤4000→rxF s=some (rx s)):AaV rdF rxF FB o q=some (Ue rd rx o q):=by
 obtain⟨md,a,it,u,c,ef,rs,lg⟩:=o;obtain rfl:md=true:=h.made;have hc:0≤c∧c≤1000:=h.c;have he:ef.length≤1000:=h.e;have hl:lg.length≤1000:=h.l;have hrl:rs.length≤1000:=h.r;have hA:XK a:=h.a;have hN:Cb .i64 a.fNow=true:=h.now;unfold AaV Ue;dsimp only;rw[Aeo,B4]
 cases hd:decide (32≤c) with
 | true=>rfl
 | false=>
  rw[B4,Bn (by omega) (by omega),Oa hA hq,AX]
  by_cases ha:Lg a q=0
  ·rw[Aek ha,Aeo,B4,Aem,Aem,UM hq ha,AX];obtain⟨s,h1,h2,h3,h4,_⟩:=KZ ha;have hp:∀i:Nat,i<q.fArgs.length→0<(An q.fArgs (i:Int)).length:=λi hi=>K3 (h3 _ (by rw[BN hi];exact List.getElem_mem hi));have hstr:0<q.fArgs.length→Iu (An q.fArgs 0)=some (DT q,decide ((An (An q.fArgs 0) 0).fKind=4)):=λh0=>MH (by simpa using hp 0 h0)
   cases hef:PJ q with
   | some x=>
    simp only;rw[BR,C0 (show D2 56 _=true from Aek (by simp;omega)),Mk,AX,J6,AX]
   | none=>
    simp only;rw[B4]
    by_cases e1:q.fOp=[103,101,116]
    ·have hs:s=[88]:=by rw[e1] at h1;cases h1;rfl
     subst hs;have hl1:q.fArgs.length=1:=h2;rw[Aek e1,BR,Aeq,Bi (by omega) (by omega),hstr (by omega),AX];simp only;rw[AaS (o:=⟨true,a,it,(),c+1,ef,rs,lg⟩) (by show ef.length≤_;omega) (λx hx=>Nat.le_trans (h.ev x hx) (by decide)) (by show rs.length≤_;omega) (Nat.le_trans (h.it _) (by decide)),AX,J6,AX];rfl
    rw[Aej e1,B4,Aem]
    by_cases e2:q.fOp=[115,101,99,114,101,116]
    ·have hs:s=[89]:=by rw[e2] at h1;cases h1;rfl
     subst hs;have hl1:q.fArgs.length=1:=h2;rw[Aek e2,BR,Aeq,Bi (by omega) (by omega),hstr (by omega),AX];simp only;obtain⟨hr1,hr2⟩:=hr (DT q) a.fFunction;rw[hr1,AX]
     by_cases e3:(rd (DT q) a.fFunction).2.2=0
     ·rw[Aek e3,Aeo,B4,Aeq];unfold W8;have hk:Gw MB [(⟨4,0,(rd (DT q) a.fFunction).1,0⟩:Ab)]:=Gw.one1 hr2 (show Cb .i64 0=true from by decide) rfl;have hv:∀{β:Type} (K:B9→Option β),(Bs (Bs (Hg FB [(⟨4,0,(rd (DT q) a.fFunction).1,0⟩:Ab)]) λr2=>some (r2.1,r2.2)) λhb=>Bs (BT hb.1 hb.2) K)=K (SQ [⟨4,0,(rd (DT q) a.fFunction).1,0⟩]):=λK=>by
       unfold Hg SQ;rw[Ov hk,AX]
       by_cases hz:ET [(⟨4,0,(rd (DT q) a.fFunction).1,0⟩:Ab)]=0
       ·rw[Aek hz];rfl
       ·rw[Aej hz,Aev,BR,AX,AX];simp only;rw[I7 hz,AX];rfl
      rw[hv]
     ·rw[Aej e3,Aev,BR,Aem,I7 e3,AX]
    rw[Aej e2,B4,Aem]
    by_cases e3:q.fOp=[102,101,116,99,104]
    ·have hs:s=[92,0]:=by rw[e3] at h1;cases h1;rfl
     subst hs;have hl1:q.fArgs.length=2:=h2;rw[Aek e3,BR,Aeq,Bi (by omega) (by omega),Em (by have:=MV hq (i:=1) (by omega);simpa using Nat.le_trans this (by decide)),AX,J6,AX]
    rw[Aej e3,B4,Aem]
    by_cases e4:q.fOp=[110,111,119]
    ·rw[Aek e4,BR,Aeq];unfold WD;have hk:Gw MB [(⟨3,a.fNow,[],0⟩:Ab)]:=Gw.one1 (by simp) hN rfl;have hv:∀{β:Type} (K:B9→Option β),(Bs (Bs (Hg FB [(⟨3,a.fNow,[],0⟩:Ab)]) λr2=>some (r2.1,r2.2)) λhb=>Bs (BT hb.1 hb.2) K)=K (SQ [⟨3,a.fNow,[],0⟩]):=λK=>by
      unfold Hg SQ;rw[Ov hk,AX]
      by_cases hz:ET [(⟨3,a.fNow,[],0⟩:Ab)]=0
      ·rw[Aek hz];rfl
      ·rw[Aej hz,Aev,BR,AX,AX];simp only;rw[I7 hz,AX];rfl
     rw[hv]
    rw[Aej e4,B4,Aem];have e5:q.fOp=[108,111,103]:=by
     unfold PJ at hef;rcases Aat h1 with e | e | e | e | e | e | e | e | e | e
     ·exact absurd e e1
     ·rw[e] at hef;cases hef
     ·rw[e] at hef;cases hef
     ·rw[e] at hef;cases hef
     ·rw[e] at hef;cases hef
     ·rw[e] at hef;cases hef
     ·exact absurd e e2
     ·exact absurd e e3
     ·exact absurd e e4
     ·exact e
    have hs:s=[0]:=by rw[e5] at h1;cases h1;rfl
    subst hs;have hl1:q.fArgs.length=1:=h2;have hz:ET (An q.fArgs 0)=0:=h3 _ (by rw[show(0:Int)=((0:Nat):Int) from rfl,BN (by omega)];exact List.getElem_mem _);obtain⟨hn1,hn2⟩:=AaY hz;rw[Bi (by omega) (by omega),Un (M:=MB) (v:=An q.fArgs 0) (hq.at (i:=0) (by omega)) (by decide) (by decide),AX];show(Bs (rxF (TO (An q.fArgs 0)).1) _)=_;rw[hx _ hn1 hn2,AX,C0 (show D2 16 _=true from Aek (by simp;omega)),Mk,AX,J6,AX]
  ·rw[Aej ha,Aev,BR,Aem,Aeq,I7 ha,AX]
end Go.Proofs.YtmjlemhondjfhaaGreatDoor
