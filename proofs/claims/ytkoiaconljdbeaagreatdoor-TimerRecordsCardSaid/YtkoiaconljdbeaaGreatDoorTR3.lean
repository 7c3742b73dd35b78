/-
  Texts of the proof, put together: WVc, PVd, WVd, PVe, WVe, PVf, WVf, PM, PS, PN, PSo, PTa, QU, QT, QN.
-/
import Derived.Test.YtkoiaconljdbeaaGreatDoorTR2
import Derived.Laws.StructEq
import Derived.Laws.Cover3
namespace Go.Proofs.YtkoiaconljdbeaaGreatDoor.Q
open Go Go.RowKit
set_option linter.unusedVariables false
set_option linter.unusedSimpArgs false
set_option maxRecDepth 100000
set_option maxHeartbeats 4000000
theorem Nc (F:Nat)(ha:Nat)(hh:Value)(l:Ah)(s:Ah)(r:Ah)(h:Kk F l s=some r):Fn Tryz.prog GE 103 [rv (.pointer (some ⟨ha,0,none⟩)),rS s] [.bld 105 5 ha hh l] (λR H=>∃w0b:Value,R=rv (.tuple #[])∧H=[.bld 105 5 ha w0b r]):=by
 refine enter (n:=32) Tryz.func103 rfl Tryz.ntmps103 rfl (λw Z=>?_);refine Bb (l':=[(0,rv (.pointer (some ⟨ha,0,none⟩))),(1,rS s)]) (H':=[.bld 105 5 ha hh l]) rfl rfl ?_;unfold Kk at h;refine Ak (wm rfl ?_);obtain⟨g1,h2⟩:=Av h;obtain⟨g3,h4⟩:=Av h2;refine Ci (rs:=[rv (.pointer (some ⟨ha,0,none⟩)),rI .u8 34]) (Hin:=[.bld 105 5 ha hh l]) (Hr:=[]) IU rfl (AaP _) (C3 ha hh l 34 g1 g3) rfl ?_;rintro _ _ ⟨v5,rfl,rfl⟩;obtain⟨r6,e8,h7⟩:=Ev h4;rw[← e8];refine Ar (Am (Ak (wm rfl (wv (Bd BP rfl) (wv (r:=rI .i64 0) (Au rfl) (Ar (AO ?_)))))));obtain⟨ht,hu,hw⟩:=AL h7;refine BA (S:=Nat×(Int×Ah)×(Value)) (V:=(Ah)×(Value)) 0 (λσ=>Cg (λσ=>D5 s σ.1 σ.2) σ.1 σ.2.1=some ht) (λσ=>[(0,rv (.pointer (some ⟨ha,0,none⟩))),(1,rS s),(8,rI .i64 (s.length:Int)),(9,rI .i64 σ.2.1.1)]) (λσ=>[.bld 105 5 ha σ.2.2 σ.2.1.2]) (λσ=>σ.1) (F,(0,r6),v5) hu (AQ.c rfl (AQ.c rfl (AQ.c rfl (AQ.c rfl AQ.nil)))) (sC sN) (λσ=>EY σ.1=some r) (λσ=>[(0,rv (.pointer (some ⟨ha,0,none⟩)))]) (λσ=>[.bld 105 5 ha σ.2 σ.1]) ?_ ?_
 ·rintro⟨gf,⟨hb,he⟩,hf⟩ hx;refine Bb (l':=[(0,rv (.pointer (some ⟨ha,0,none⟩))),(1,rS s),(8,rI .i64 (s.length:Int)),(9,rI .i64 hb)]) (H':=[.bld 105 5 ha hf he]) rfl rfl ?_;obtain⟨hp,rfl,t127,hg,hl⟩:=CM hx;replace hg:D5 s hb he=some t127:=hg;unfold D5 at hg;refine Ak (wv (Cp rfl rfl) (Ar (Am (Ap (b:=decide (hb<(s.length:Int))) rfl (λhm=>?_) (λhm=>?_)))))
  ·have hy:=AB hm hg;refine At (AN (Am (AO (Ak (wm rfl (wa rfl (Ar (Am ?_))))))));obtain⟨hi,hq⟩:=Av hy;refine AA [(0,rv (.pointer (some ⟨ha,0,none⟩))),(1,rS s),(4,rI .i64 hb),(8,rI .i64 (s.length:Int)),(9,rI .i64 hb),(21,rB ((decide ((AT s hb)=34))||(decide ((AT s hb)=92))))] [.bld 105 5 ha hf he] ?_ ?_
   ·refine Aj (wm rfl (wm rfl (wv (AV BP rfl rfl hi) (wv (B3 rfl rfl) (wm rfl (AH (decide ((AT s hb)=34)) (λhd=>?_) (λhd=>?_)))))))
    ·refine wf hd (wf hd (wf hd (wf hd (wv (r:=rB true) (As (b:=decide ((AT s hb)=34)) rfl hd rfl) (Al ?_)))));exact BO hd
    ·refine wo hd (wm rfl (wo hd (wm rfl (wo hd (wv (AV BP rfl rfl hi) (wo hd (wv (B3 rfl rfl) (D4 rfl hd rfl (Al ?_)))))))));exact BO hd
   refine Ap (b:=((decide ((AT s hb)=34))||(decide ((AT s hb)=92)))) rfl (λhn=>?_) (λhn=>?_)
   ·have hz:=AB hn hq;refine Aj (wm rfl ?_);obtain⟨h0,h1⟩:=Av hz;obtain⟨h3,h5⟩:=Av h1;refine Ci (rs:=[rv (.pointer (some ⟨ha,0,none⟩)),rI .u8 92]) (Hin:=[.bld 105 5 ha hf he]) (Hr:=[]) IU rfl (AaP _) (C3 ha hf he 92 h0 h3) rfl ?_;rintro _ _ ⟨hr,rfl,rfl⟩;obtain⟨hs,h6,h8⟩:=Ev h5;rw[← h6];refine Ar (Aj (wm rfl (wm rfl (wm rfl (wv (AV BP rfl rfl hi) ?_)))));obtain⟨h9,hA⟩:=Av h8;obtain⟨hB,hC⟩:=Av hA;refine Ci (rs:=[rv (.pointer (some ⟨ha,0,none⟩)),rI .u8 (AT s hb)]) (Hin:=[.bld 105 5 ha hr hs]) (Hr:=[]) IU rfl (AaP _) (C3 ha hr hs (AT s hb) h9 hB) rfl ?_;rintro _ _ ⟨hD,rfl,rfl⟩;obtain⟨hE,hG,hH⟩:=Ev hC;rw[← hG];refine Al (AK (AN (Aj ?_)));obtain⟨hI,hJ⟩:=Av hH;refine wv (Bi rfl rfl hI) (wm rfl (Al ?_));have hK:=Bk hJ hl;exact Aq (AG (hp,(hb+1,hE),hD) ⟨hK,AaX _⟩ (AQ.c rfl (AQ.c rfl (AQ.c rfl (AQ.c rfl AQ.nil)))) (sC sN))
   ·have hL:=AC hn hq;refine At (AN (Aj (wm rfl (wm rfl (wm rfl (wv (AV BP rfl rfl hi) ?_))))));obtain⟨hN,hO⟩:=Av hL;obtain⟨hP,hQ⟩:=Av hO;refine Ci (rs:=[rv (.pointer (some ⟨ha,0,none⟩)),rI .u8 (AT s hb)]) (Hin:=[.bld 105 5 ha hf he]) (Hr:=[]) IU rfl (AaP _) (C3 ha hf he (AT s hb) hN hP) rfl ?_;rintro _ _ ⟨hR,rfl,rfl⟩;obtain⟨hS,hT,hU⟩:=Ev hQ;rw[← hT];refine Al (AK (AN (Aj ?_)));obtain⟨hV,hW⟩:=Av hU;refine wv (Bi rfl rfl hV) (wm rfl (Al ?_));have hX:=Bk hW hl;exact Aq (AG (hp,(hb+1,hS),hR) ⟨hX,AaX _⟩ (AQ.c rfl (AQ.c rfl (AQ.c rfl (AQ.c rfl AQ.nil)))) (sC sN))
  ·have hY:=AC hm hg;refine B9 (A5 ?_);have hZ:=Cj hY hl hw;exact A5 (Br (AG (he,hf) hZ (AQ.c rfl AQ.nil) (sC sN)))
 ·rintro⟨hj,ho⟩ hk;refine CR (l':=[(0,rv (.pointer (some ⟨ha,0,none⟩)))]) (H':=[.bld 105 5 ha ho hj]) rfl rfl ?_;replace hk:EY hj=some r:=hk;unfold EY at hk;refine Bm (AN (Aj (wm rfl ?_)));obtain⟨ga,gb⟩:=Av hk;refine Ci (rs:=[rv (.pointer (some ⟨ha,0,none⟩)),rI .u8 34]) (Hin:=[.bld 105 5 ha ho hj]) (Hr:=[]) IU rfl (AaP _) (C3 ha ho hj 34 ga g3) rfl ?_;rintro _ _ ⟨gc,rfl,rfl⟩;obtain⟨gg,gd,ge⟩:=Ev gb;rw[← gd];refine Al ?_;obtain rfl:=Az ge;exact H8 (T9 Tryz.results103) (sC sN) ⟨gc,rfl,rfl⟩
theorem Ts (F:Nat)(hp:Ah→(List Aa)→Bool→Ah→Aa→Option (Bool×Bool×Ah))(hq:(List Aa)→Bool→Ah→Aa→Option (Bool×Ah))(g3:(∀(hd:Nat) (he:Nat) (ha:Nat) (hb:Value) (hf:Nat) (key:Ah) (x:(List Aa)) (first:Bool) (l:Ah) (c:Aa) (r:Bool×Bool×Ah),hp key x first l c=some r→Fn Tryz.prog GE 106 [rS key,Bo 4 (List.map Ab x),rv (.pointer (some ⟨hd,0,none⟩)),rv (.pointer (some ⟨he,0,none⟩)),rv (.pointer (some ⟨hf,0,none⟩))] [.blk hd [rB first] 4,.blk he [rv (.pointer (some ⟨ha,0,none⟩))] 102,.bld 105 5 ha hb l,.blk hf (Ab c) 78] (λR H=>∃w3b:Value,R=rB r.1∧H=[.blk hd [rB r.2.1] 4,.blk he [rv (.pointer (some ⟨ha,0,none⟩))] 102,.bld 105 5 ha w3b r.2.2,.blk hf (Ab c) 78])))(hr:(∀(hd:Nat) (he:Nat) (ha:Nat) (hb:Value) (hf:Nat) (v:(List Aa)) (first:Bool) (l:Ah) (c:Aa) (r:Bool×Ah),hq v first l c=some r→Fn Tryz.prog GE 105 [Bo 4 (List.map Ab v),rv (.func (.func 106) #[] #[(.pointer (some ⟨hd,0,none⟩)),(.pointer (some ⟨he,0,none⟩)),(.pointer (some ⟨hf,0,none⟩))])] [.blk hd [rB first] 4,.blk he [rv (.pointer (some ⟨ha,0,none⟩))] 102,.bld 105 5 ha hb l,.blk hf (Ab c) 78] (λR H=>∃w1_1b:Value,R=rv (.tuple #[])∧H=[.blk hd [rB r.1] 4,.blk he [rv (.pointer (some ⟨ha,0,none⟩))] 102,.bld 105 5 ha w1_1b r.2,.blk hf (Ab c) 78])))(ha:Nat)(hb:Value)(l:Ah)(v:(List Aa))(r:Ah)(h:J9 F hp hq l v=some r):Fn Tryz.prog GE 73 [rv (.pointer (some ⟨ha,0,none⟩)),Bo 4 (List.map Ab v)] [.bld 105 5 ha hb l] (λR H=>∃w0b:Value,R=rv (.tuple #[])∧H=[.bld 105 5 ha w0b r]):=by
 refine enter (n:=52) Tryz.func73 rfl Tryz.ntmps73 rfl (λw Z=>?_);refine Bb (l':=[(0,rv (.pointer (some ⟨ha,0,none⟩))),(1,Bo 4 (List.map Ab v))]) (H':=[.bld 105 5 ha hb l]) rfl rfl ?_;unfold J9 at h;refine Ak (UN rfl (Ck rfl) rfl (λb1=>?_));refine By (wm rfl ?_);obtain⟨g2,h3⟩:=Av h;refine wv (BY (enc:=Ab) (ys:=v) BN Cb rfl rfl g2) (wv (DQ L2 Cb rfl rfl rfl) (Cf (cs:=[rI .i64 0,rI .i64 0,rS ([]:Ah),rI .i64 0]) EA rfl rfl (λb4=>?_)));refine Bq (i:=0) Cb rfl rfl rfl (BM.c rfl) rfl rfl (cs':=[rI .i64 ((Ay v 0).fKind),rI .i64 ((Ay v 0).fInt),rS ((Ay v 0).fStr),rI .i64 ((Ay v 0).fN)]) rfl (H':=[.blk b4 (Ab (Ay v 0)) 78,.blk b1 [rv (.pointer (some ⟨ha,0,none⟩))] 102,.bld 105 5 ha hb l]) rfl (By (wv (Ad B5 rfl DX rfl rfl) (wv (A0 (i:=0) Ex rfl rfl rfl) (Ar (AO (Ak (wv (B3 rfl rfl) (wa rfl (Ar (Ap (b:=decide (((Ay v 0).fKind)=1)) rfl (λc5=>?_) (λc5=>?_)))))))))))
 ·have h6:=AB c5 h3;refine Aj (wv (A0 (i:=1) EW rfl rfl rfl) ?_);obtain⟨g7,h8⟩:=Av h6;refine Ci (rs:=[rv (.pointer (some ⟨ha,0,none⟩)),rS ([110,117,108,108]:Ah)]) (Hin:=[.bld 105 5 ha hb l]) (Hr:=[.blk b4 (Ab (Ay v 0)) 78,.blk b1 [rv (.pointer (some ⟨ha,0,none⟩))] 102]) Tryz.call102 rfl ((A9 (i:=2) rfl).trans (AaT _ (AaP _))) (HY ha hb l ([110,117,108,108]:Ah) g7) rfl ?_;rintro _ _ ⟨v9,rfl,rfl⟩;obtain⟨g4,hz,h0⟩:=Ev h8;rw[← hz];refine Al (AK ?_);obtain rfl:=Az h0;exact H8 (T9 To) (sC (sS (sS sN))) ⟨v9,rfl,rfl⟩
 ·have hs:=AC c5 h3;refine Ak (wv (B3 rfl rfl) (wa rfl (Ar (Ap (b:=decide (((Ay v 0).fKind)=2)) rfl (λhk=>?_) (λhk=>?_)))))
  ·have h1:=AB hk hs;obtain⟨g16,h2⟩:=Av h1;refine J7 (H1:=[.blk b4 (Ab (Ay v 0)) 78,.blk b1 [rv (.pointer (some ⟨ha,0,none⟩))] 102,.bld 105 5 ha hb l]) 6 [2,4] [⟨[],rv (.pointer (some ⟨ha,0,none⟩)),1⟩,⟨[],Bo 1 (List.map eS ([([102,97,108,115,101]:Ah),([116,114,117,101]:Ah)]:List Ah)),0⟩,⟨[],rv (.pointer (some ⟨b4,1,none⟩)),0⟩,⟨[2],rI .i64 ((Ay v 0).fInt),1⟩,⟨[1,3],PA [rS (Ay ([([102,97,108,115,101]:Ah),([116,114,117,101]:Ah)]:List Ah) ((Ay v 0).fInt))],0⟩,⟨[4],rS (Ay ([([102,97,108,115,101]:Ah),([116,114,117,101]:Ah)]:List Ah) ((Ay v 0).fInt)),0⟩] (rle [(7,_)]) [32,33,34,35,36,37,2,4] ?_ ?_
   ·refine of (A0 (i:=1) EW rfl rfl rfl) (GX rfl (λH=>EF (ys:=([([102,97,108,115,101]:Ah),([116,114,117,101]:Ah)]:List Ah)) (enc:=eS) (css:=[[rS ([102,97,108,115,101]:Ah)],[rS ([116,114,117,101]:Ah)]]) (xs:=[.const (.string ⟨#[102,97,108,115,101]⟩),.const (.string ⟨#[116,114,117,101]⟩)]) DW CV Z7 rfl rfl rfl ⟨Gw.one rfl (Up.refl _),Gw.one rfl (Up.refl _),trivial⟩ rfl K5 rfl rfl) ?_);refine oq (Ad B5 rfl Cu rfl rfl) (of (A0 (i:=0) Dd rfl rfl rfl) (oq (BY (enc:=eS) (ys:=([([102,97,108,115,101]:Ah),([116,114,117,101]:Ah)]:List Ah)) DW CV rfl rfl g16) (oq (BQ Dn rfl rfl) ?_)));exact CL
   obtain⟨g18,h4⟩:=Av h2;refine Ci (rs:=[rv (.pointer (some ⟨ha,0,none⟩)),rS (Ay ([([102,97,108,115,101]:Ah),([116,114,117,101]:Ah)]:List Ah) ((Ay v 0).fInt))]) (Hin:=[.bld 105 5 ha hb l]) (Hr:=[.blk b4 (Ab (Ay v 0)) 78,.blk b1 [rv (.pointer (some ⟨ha,0,none⟩))] 102]) Tryz.call102 rfl ((A9 (i:=2) rfl).trans (AaT _ (AaP _))) (HY ha hb l (Ay ([([102,97,108,115,101]:Ah),([116,114,117,101]:Ah)]:List Ah) ((Ay v 0).fInt)) g18) rfl ?_;rintro _ _ ⟨v20,rfl,rfl⟩;obtain⟨g5,h5,h7⟩:=Ev h4;rw[← h5];refine Al (AK ?_);obtain rfl:=Az h7;exact H8 (T9 To) (sC (sS (sS sN))) ⟨v20,rfl,rfl⟩
  ·have ht:=AC hk hs;refine Ak (wv (B3 rfl rfl) (wa rfl (Ar (Ap (b:=decide (((Ay v 0).fKind)=3)) rfl (λhl=>?_) (λhl=>?_)))))
   ·have h9:=AB hl ht;obtain⟨hA,hB⟩:=Av h9;refine J7 (H1:=[.blk b4 (Ab (Ay v 0)) 78,.blk b1 [rv (.pointer (some ⟨ha,0,none⟩))] 102,.bld 105 5 ha hb l]) 4 [2,4] [⟨[],rv (.pointer (some ⟨ha,0,none⟩)),1⟩,⟨[],rv (.pointer (some ⟨b4,1,none⟩)),0⟩,⟨[1],rI .i64 ((Ay v 0).fInt),1⟩,⟨[2],rS (Lib.itoa ((Ay v 0).fInt)),0⟩] (rle [(5,_)]) [41,42,43,44,2,4] ?_ ?_
    ·refine of (A0 (i:=1) EW rfl rfl rfl) (oq (Ad B5 rfl Cu rfl rfl) (of (A0 (i:=0) Dd rfl rfl rfl) (GX rfl (λH=>Jr (rs:=[rI .i64 ((Ay v 0).fInt)]) (r:=rS (Lib.itoa ((Ay v 0).fInt))) Tryz.call47 rfl (ND ((Ay v 0).fInt) hA) rfl) ?_)));exact CL
    obtain⟨hC,hD⟩:=Av hB;refine Ci (rs:=[rv (.pointer (some ⟨ha,0,none⟩)),rS (Lib.itoa ((Ay v 0).fInt))]) (Hin:=[.bld 105 5 ha hb l]) (Hr:=[.blk b4 (Ab (Ay v 0)) 78,.blk b1 [rv (.pointer (some ⟨ha,0,none⟩))] 102]) Tryz.call102 rfl ((A9 (i:=2) rfl).trans (AaT _ (AaP _))) (HY ha hb l (Lib.itoa ((Ay v 0).fInt)) hC) rfl ?_;rintro _ _ ⟨hE,rfl,rfl⟩;obtain⟨g6,hG,hH⟩:=Ev hD;rw[← hG];refine Al (AK ?_);obtain rfl:=Az hH;exact H8 (T9 To) (sC (sS (sS sN))) ⟨hE,rfl,rfl⟩
   ·have hu:=AC hl ht;refine Ak (wv (B3 rfl rfl) (wa rfl (Ar (Ap (b:=decide (((Ay v 0).fKind)=4)) rfl (λhm=>?_) (λhm=>?_)))))
    ·have hI:=AB hm hu;refine Aj (wv (A0 (i:=1) EW rfl rfl rfl) (wv (Ad B5 rfl CV rfl rfl) (wv (A0 (i:=0) Dn rfl rfl rfl) ?_)));obtain⟨hJ,hK,hL⟩:=AL hI;refine Gx (Hr:=[.blk b4 (Ab (Ay v 0)) 78,.blk b1 [rv (.pointer (some ⟨ha,0,none⟩))] 102]) Tryz.call103 (Nc F ha hb l ((Ay v 0).fStr) hJ hK) rfl ((A9 (i:=2) rfl).trans (AaT _ (AaP _))) rfl ?_;rintro _ _ ⟨hN,rfl,rfl⟩;refine Al (AK ?_);obtain rfl:=Az hL;exact H8 (T9 To) (sC (sS (sS sN))) ⟨hN,rfl,rfl⟩
    ·have hw:=AC hm hu;refine Ak (wv (r:=rS ([91,93]:Ah)) (Ac rfl) (Ar (Am (Ak (wv (Ad B5 rfl DX rfl rfl) (wv (A0 (i:=0) Ex rfl rfl rfl) (wv (B3 rfl rfl) (Ar (Ap (b:=decide (((Ay v 0).fKind)=6)) rfl (λhn=>?_) (λhn=>?_))))))))))
     ·have hO:=AB hn hw;refine Aj (wv (r:=rS ([123,125]:Ah)) (Ac rfl) (Ar (Am ?_)));obtain⟨hP,hQ⟩:=Av hO;refine J7 (H1:=[.blk b4 (Ab (Ay v 0)) 78,.blk b1 [rv (.pointer (some ⟨ha,0,none⟩))] 102,.bld 105 5 ha hb l]) 3 [1,2,4,5] [⟨[],rv (.pointer (some ⟨ha,0,none⟩)),1⟩,⟨[],rS ([123,125]:Ah),0⟩,⟨[1],rI .u8 (AT ([123,125]:Ah) 0),0⟩] (rle [(4,_)]) [15,16,17,1,2,4,5] ?_ ?_
      ·refine of (A0 (i:=1) EW rfl rfl rfl) (oq (Au rfl) (oq (AV BP rfl rfl hP) ?_));exact CL
      obtain⟨hR,hS⟩:=Av hQ;obtain⟨hT,hU⟩:=Av hS;refine Ci (rs:=[rv (.pointer (some ⟨ha,0,none⟩)),rI .u8 (AT ([123,125]:Ah) 0)]) (Hin:=[.bld 105 5 ha hb l]) (Hr:=[.blk b4 (Ab (Ay v 0)) 78,.blk b1 [rv (.pointer (some ⟨ha,0,none⟩))] 102]) IU rfl ((A9 (i:=2) rfl).trans (AaT _ (AaP _))) (C3 ha hb l (AT ([123,125]:Ah) 0) hR hT) rfl ?_;rintro _ _ ⟨v51,rfl,rfl⟩;obtain⟨hx,hV,hW⟩:=Ev hU;rw[← hV];refine By (Cf (cs:=[rB false]) Tryz.zeroValue4 rfl rfl (λhi=>?_));refine BD (i:=0) HO rfl rfl (Ck rfl) rfl rfl (cs':=[rB true]) rfl (H':=[.blk hi [rB true] 4,.bld 105 5 ha v51 hx,.blk b4 (Ab (Ay v 0)) 78,.blk b1 [rv (.pointer (some ⟨ha,0,none⟩))] 102]) rfl (By (wm rfl (wv (r:=rv (.func (.func 106) #[] #[(.pointer (some ⟨hi,0,none⟩)),(.pointer (some ⟨b1,0,none⟩)),(.pointer (some ⟨b4,0,none⟩))])) (Kw rfl) ?_)));obtain⟨hg,hX,hY⟩:=AL hW;refine Gx (Hr:=[]) Tryz.call105 (hr hi b1 ha v51 b4 v true hx (Ay v 0) hg hX) rfl ((A9 (i:=0) rfl).trans (AaT _ ((A9 (i:=2) rfl).trans (AaT _ (AaP _))))) rfl ?_;rintro _ _ ⟨ho,rfl,rfl⟩;refine Ar ?_;obtain⟨hZ,ga⟩:=Av hY;refine J7 (H1:=[.blk hi [rB hg.1] 4,.blk b1 [rv (.pointer (some ⟨ha,0,none⟩))] 102,.bld 105 5 ha ho hg.2,.blk b4 (Ab (Ay v 0)) 78]) 3 [2,5] [⟨[],rv (.pointer (some ⟨ha,0,none⟩)),1⟩,⟨[],rS ([123,125]:Ah),0⟩,⟨[1],rI .u8 (AT ([123,125]:Ah) 1),0⟩] (rle [(4,_)]) [22,23,24,2,5] ?_ ?_
      ·refine of (A0 (i:=1) EW rfl rfl rfl) (oq (Au rfl) (oq (AV BP rfl rfl hZ) ?_));exact CL
      obtain⟨gb,gc⟩:=Av ga;obtain⟨gd,ge⟩:=Av gc;refine Ci (rs:=[rv (.pointer (some ⟨ha,0,none⟩)),rI .u8 (AT ([123,125]:Ah) 1)]) (Hin:=[.bld 105 5 ha ho hg.2]) (Hr:=[.blk hi [rB hg.1] 4,.blk b1 [rv (.pointer (some ⟨ha,0,none⟩))] 102,.blk b4 (Ab (Ay v 0)) 78]) IU rfl ((A9 (i:=2) rfl).trans (AaT _ (AaP _))) (C3 ha ho hg.2 (AT ([123,125]:Ah) 1) gb gd) rfl ?_;rintro _ _ ⟨v66,rfl,rfl⟩;obtain⟨g8,gf,gg⟩:=Ev ge;rw[← gf];refine Al (AK ?_);obtain rfl:=Az gg;exact H8 (T9 To) (sC (sS (sS (sS sN)))) ⟨v66,rfl,rfl⟩
     ·have gh:=AC hn hw;refine At (AN (Am ?_));obtain⟨gi,gj⟩:=Av gh;refine J7 (H1:=[.blk b4 (Ab (Ay v 0)) 78,.blk b1 [rv (.pointer (some ⟨ha,0,none⟩))] 102,.bld 105 5 ha hb l]) 3 [1,2,4,5] [⟨[],rv (.pointer (some ⟨ha,0,none⟩)),1⟩,⟨[],rS ([91,93]:Ah),0⟩,⟨[1],rI .u8 (AT ([91,93]:Ah) 0),0⟩] (rle [(4,_)]) [15,16,17,1,2,4,5] ?_ ?_
      ·refine of (A0 (i:=1) EW rfl rfl rfl) (oq (Au rfl) (oq (AV BP rfl rfl gi) ?_));exact CL
      obtain⟨gk,gl⟩:=Av gj;obtain⟨gm,gn⟩:=Av gl;refine Ci (rs:=[rv (.pointer (some ⟨ha,0,none⟩)),rI .u8 (AT ([91,93]:Ah) 0)]) (Hin:=[.bld 105 5 ha hb l]) (Hr:=[.blk b4 (Ab (Ay v 0)) 78,.blk b1 [rv (.pointer (some ⟨ha,0,none⟩))] 102]) IU rfl ((A9 (i:=2) rfl).trans (AaT _ (AaP _))) (C3 ha hb l (AT ([91,93]:Ah) 0) gk gm) rfl ?_;rintro _ _ ⟨v77,rfl,rfl⟩;obtain⟨hy,gp,gq⟩:=Ev gn;rw[← gp];refine By (Cf (cs:=[rB false]) Tryz.zeroValue4 rfl rfl (λhj=>?_));refine BD (i:=0) HO rfl rfl (Ck rfl) rfl rfl (cs':=[rB true]) rfl (H':=[.blk hj [rB true] 4,.bld 105 5 ha v77 hy,.blk b4 (Ab (Ay v 0)) 78,.blk b1 [rv (.pointer (some ⟨ha,0,none⟩))] 102]) rfl (By (wm rfl (wv (r:=rv (.func (.func 106) #[] #[(.pointer (some ⟨hj,0,none⟩)),(.pointer (some ⟨b1,0,none⟩)),(.pointer (some ⟨b4,0,none⟩))])) (Kw rfl) ?_)));obtain⟨hh,gr,gs⟩:=AL gq;refine Gx (Hr:=[]) Tryz.call105 (hr hj b1 ha v77 b4 v true hy (Ay v 0) hh gr) rfl ((A9 (i:=0) rfl).trans (AaT _ ((A9 (i:=2) rfl).trans (AaT _ (AaP _))))) rfl ?_;rintro _ _ ⟨v85,rfl,rfl⟩;refine Ar ?_;obtain⟨gt,gu⟩:=Av gs;refine J7 (H1:=[.blk hj [rB hh.1] 4,.blk b1 [rv (.pointer (some ⟨ha,0,none⟩))] 102,.bld 105 5 ha v85 hh.2,.blk b4 (Ab (Ay v 0)) 78]) 3 [2,5] [⟨[],rv (.pointer (some ⟨ha,0,none⟩)),1⟩,⟨[],rS ([91,93]:Ah),0⟩,⟨[1],rI .u8 (AT ([91,93]:Ah) 1),0⟩] (rle [(4,_)]) [22,23,24,2,5] ?_ ?_
      ·refine of (A0 (i:=1) EW rfl rfl rfl) (oq (Au rfl) (oq (AV BP rfl rfl gt) ?_));exact CL
      obtain⟨gv,gw⟩:=Av gu;obtain⟨gx,gy⟩:=Av gw;refine Ci (rs:=[rv (.pointer (some ⟨ha,0,none⟩)),rI .u8 (AT ([91,93]:Ah) 1)]) (Hin:=[.bld 105 5 ha v85 hh.2]) (Hr:=[.blk hj [rB hh.1] 4,.blk b1 [rv (.pointer (some ⟨ha,0,none⟩))] 102,.blk b4 (Ab (Ay v 0)) 78]) IU rfl ((A9 (i:=2) rfl).trans (AaT _ (AaP _))) (C3 ha v85 hh.2 (AT ([91,93]:Ah) 1) gv gx) rfl ?_;rintro _ _ ⟨gz,rfl,rfl⟩;obtain⟨g9,g0,g1⟩:=Ev gy;rw[← g0];refine Al (AK ?_);obtain rfl:=Az g1;exact H8 (T9 To) (sC (sS (sS (sS sN)))) ⟨gz,rfl,rfl⟩
theorem Rt (F:Nat)(hl:Ah→(List Aa)→Option (Ah))(hg:(∀(ha:Nat) (hf:Value) (l:Ah) (v:(List Aa)) (r:Ah),hl l v=some r→Fn Tryz.prog GE 73 [rv (.pointer (some ⟨ha,0,none⟩)),Bo 4 (List.map Ab v)] [.bld 105 5 ha hf l] (λR H=>∃w0b:Value,R=rv (.tuple #[])∧H=[.bld 105 5 ha w0b r])))(hb:Nat)(hd:Nat)(ha:Nat)(hf:Value)(he:Nat)(key:Ah)(x:(List Aa))(first:Bool)(l:Ah)(c:Aa)(r:Bool×Bool×Ah)(h:KC F hl key x first l c=some r):Fn Tryz.prog GE 106 [rS key,Bo 4 (List.map Ab x),rv (.pointer (some ⟨hb,0,none⟩)),rv (.pointer (some ⟨hd,0,none⟩)),rv (.pointer (some ⟨he,0,none⟩))] [.blk hb [rB first] 4,.blk hd [rv (.pointer (some ⟨ha,0,none⟩))] 102,.bld 105 5 ha hf l,.blk he (Ab c) 78] (λR H=>∃w3b:Value,R=rB r.1∧H=[.blk hb [rB r.2.1] 4,.blk hd [rv (.pointer (some ⟨ha,0,none⟩))] 102,.bld 105 5 ha w3b r.2.2,.blk he (Ab c) 78]):=by
 refine enter (n:=23) Tryz.func106 rfl Tryz.ntmps106 rfl (λw Z=>?_);refine Bb (l':=[(0,rS key),(1,Bo 4 (List.map Ab x)),(2,rv (.pointer (some ⟨hb,0,none⟩))),(3,rv (.pointer (some ⟨hd,0,none⟩))),(4,rv (.pointer (some ⟨he,0,none⟩)))]) (H':=[.blk hb [rB first] 4,.blk hd [rv (.pointer (some ⟨ha,0,none⟩))] 102,.bld 105 5 ha hf l,.blk he (Ab c) 78]) rfl rfl ?_;unfold KC at h;refine Ak (wv (r:=rB false) (Ac rfl) (Ar (Am (Ak (wv (A0 (i:=0) Sk rfl rfl rfl) (wv (BJ rfl) (Ar (Ap (b:=!first) rfl (λc1=>?_) (λc1=>?_)))))))))
 ·have h2:=AB c1 h;refine Aj (wv (A0 (i:=1) EW rfl rfl rfl) ?_);obtain⟨g3,h4⟩:=Av h2;obtain⟨g5,h6⟩:=Av h4;refine Ci (rs:=[rv (.pointer (some ⟨ha,0,none⟩)),rI .u8 44]) (Hin:=[.bld 105 5 ha hf l]) (Hr:=[.blk hb [rB first] 4,.blk hd [rv (.pointer (some ⟨ha,0,none⟩))] 102,.blk he (Ab c) 78]) IU rfl ((A9 (i:=2) rfl).trans (AaT _ (AaP _))) (C3 ha hf l 44 g3 g5) rfl ?_;rintro _ _ ⟨v7,rfl,rfl⟩;obtain⟨r8,hw,h9⟩:=Ev h6;rw[← hw];refine By (BD (i:=1) HO rfl rfl (Ck rfl) rfl rfl (cs':=[rB false]) rfl (H':=[.bld 105 5 ha v7 r8,.blk hb [rB false] 4,.blk hd [rv (.pointer (some ⟨ha,0,none⟩))] 102,.blk he (Ab c) 78]) rfl (Ar (Am (Ak (wv (Ad B5 rfl DX rfl rfl) (wv (A0 (i:=3) Ex rfl rfl rfl) (wv (B3 rfl rfl) (Ar (Ap (b:=decide (c.fKind=6)) rfl (λhh=>?_) (λhh=>?_))))))))))
  ·have hx:=AB hh h9;refine Ak (wv (A0 (i:=2) EW rfl rfl rfl) (wm rfl ?_));obtain⟨hi,hy,hz⟩:=AL hx;refine Gx (Hr:=[.blk hb [rB false] 4,.blk hd [rv (.pointer (some ⟨ha,0,none⟩))] 102,.blk he (Ab c) 78]) Tryz.call103 (Nc F ha v7 r8 key hi hy) rfl (AaP _) rfl ?_;rintro _ _ ⟨hm,rfl,rfl⟩;refine Ar (Aj (wv (A0 (i:=2) EW rfl rfl rfl) ?_));obtain⟨g17,h0⟩:=Av hz;obtain⟨g19,h1⟩:=Av h0;refine Ci (rs:=[rv (.pointer (some ⟨ha,0,none⟩)),rI .u8 58]) (Hin:=[.bld 105 5 ha hm hi]) (Hr:=[.blk hb [rB false] 4,.blk hd [rv (.pointer (some ⟨ha,0,none⟩))] 102,.blk he (Ab c) 78]) IU rfl (AaP _) (C3 ha hm hi 58 g17 g19) rfl ?_;rintro _ _ ⟨v21,rfl,rfl⟩;obtain⟨h3,h5,h7⟩:=Ev h1;rw[← h5];refine By (wv (A0 (i:=2) EW rfl rfl rfl) (wm rfl ?_));obtain⟨hn,h8,hA⟩:=AL h7;refine Gx (Hr:=[.blk hb [rB false] 4,.blk hd [rv (.pointer (some ⟨ha,0,none⟩))] 102,.blk he (Ab c) 78]) UG (hg ha v21 h3 x hn h8) rfl (AaP _) rfl ?_;rintro _ _ ⟨v28,rfl,rfl⟩;refine By (wv (r:=rB true) (Ac rfl) (Ar (Ax (Ca (H2:=[.blk hb [rB false] 4,.blk hd [rv (.pointer (some ⟨ha,0,none⟩))] 102,.bld 105 5 ha v28 hn,.blk he (Ab c) 78]) ((A9 (i:=1) rfl).trans (AaT _ ((A9 (i:=1) rfl).trans (AaT _ (AaP _))))) ?_))));obtain rfl:=Az hA;exact Aw (BS Sj (AJ rfl)) (sC (sC (sC (sC sN)))) ⟨v28,rfl,rfl⟩
  ·have hB:=AC hh h9;refine At (AN (Ak (wv (A0 (i:=2) EW rfl rfl rfl) (wm rfl ?_))));obtain⟨ho,hC,hD⟩:=AL hB;refine Gx (Hr:=[.blk hb [rB false] 4,.blk hd [rv (.pointer (some ⟨ha,0,none⟩))] 102,.blk he (Ab c) 78]) UG (hg ha v7 r8 x ho hC) rfl (AaP _) rfl ?_;rintro _ _ ⟨v33,rfl,rfl⟩;refine By (wv (r:=rB true) (Ac rfl) (Ar (Ax (Ca (H2:=[.blk hb [rB false] 4,.blk hd [rv (.pointer (some ⟨ha,0,none⟩))] 102,.bld 105 5 ha v33 ho,.blk he (Ab c) 78]) ((A9 (i:=1) rfl).trans (AaT _ ((A9 (i:=1) rfl).trans (AaT _ (AaP _))))) ?_))));obtain rfl:=Az hD;exact Aw (BS Sj (AJ rfl)) (sC (sC (sC (sC sN)))) ⟨v33,rfl,rfl⟩
 ·have hp:=AC c1 h;refine At (AN (Ak (BD (i:=0) HO rfl rfl (Ck rfl) rfl rfl (cs':=[rB false]) rfl (H':=[.blk hb [rB false] 4,.blk hd [rv (.pointer (some ⟨ha,0,none⟩))] 102,.bld 105 5 ha hf l,.blk he (Ab c) 78]) rfl (Ar (Am (Ak (wv (Ad B5 rfl DX rfl rfl) (wv (A0 (i:=3) Ex rfl rfl rfl) (wv (B3 rfl rfl) (Ar (Ap (b:=decide (c.fKind=6)) rfl (λhj=>?_) (λhj=>?_))))))))))))
  ·have hE:=AB hj hp;refine Ak (wv (A0 (i:=1) EW rfl rfl rfl) (wm rfl ?_));obtain⟨hk,hG,hH⟩:=AL hE;refine Gx (Hr:=[.blk hb [rB false] 4,.blk hd [rv (.pointer (some ⟨ha,0,none⟩))] 102,.blk he (Ab c) 78]) Tryz.call103 (Nc F ha hf l key hk hG) rfl ((A9 (i:=2) rfl).trans (AaT _ (AaP _))) rfl ?_;rintro _ _ ⟨hq,rfl,rfl⟩;refine Ar (Aj (wv (A0 (i:=2) EW rfl rfl rfl) ?_));obtain⟨hI,hJ⟩:=Av hH;obtain⟨hK,hL⟩:=Av hJ;refine Ci (rs:=[rv (.pointer (some ⟨ha,0,none⟩)),rI .u8 58]) (Hin:=[.bld 105 5 ha hq hk]) (Hr:=[.blk hb [rB false] 4,.blk hd [rv (.pointer (some ⟨ha,0,none⟩))] 102,.blk he (Ab c) 78]) IU rfl (AaP _) (C3 ha hq hk 58 hI hK) rfl ?_;rintro _ _ ⟨v45,rfl,rfl⟩;obtain⟨hN,hO,hP⟩:=Ev hL;rw[← hO];refine By (wv (A0 (i:=2) EW rfl rfl rfl) (wm rfl ?_));obtain⟨hr,hQ,hR⟩:=AL hP;refine Gx (Hr:=[.blk hb [rB false] 4,.blk hd [rv (.pointer (some ⟨ha,0,none⟩))] 102,.blk he (Ab c) 78]) UG (hg ha v45 hN x hr hQ) rfl (AaP _) rfl ?_;rintro _ _ ⟨hs,rfl,rfl⟩;refine By (wv (r:=rB true) (Ac rfl) (Ar (Ax (Ca (H2:=[.blk hb [rB false] 4,.blk hd [rv (.pointer (some ⟨ha,0,none⟩))] 102,.bld 105 5 ha hs hr,.blk he (Ab c) 78]) ((A9 (i:=1) rfl).trans (AaT _ ((A9 (i:=1) rfl).trans (AaT _ (AaP _))))) ?_))));obtain rfl:=Az hR;exact Aw (BS Sj (AJ rfl)) (sC (sC (sC (sC sN)))) ⟨hs,rfl,rfl⟩
  ·have hS:=AC hj hp;refine At (AN (Ak (wv (A0 (i:=1) EW rfl rfl rfl) (wm rfl ?_))));obtain⟨ht,hT,hU⟩:=AL hS;refine Gx (Hr:=[.blk hb [rB false] 4,.blk hd [rv (.pointer (some ⟨ha,0,none⟩))] 102,.blk he (Ab c) 78]) UG (hg ha hf l x ht hT) rfl ((A9 (i:=2) rfl).trans (AaT _ (AaP _))) rfl ?_;rintro _ _ ⟨hu,rfl,rfl⟩;refine By (wv (r:=rB true) (Ac rfl) (Ar (Ax (Ca (H2:=[.blk hb [rB false] 4,.blk hd [rv (.pointer (some ⟨ha,0,none⟩))] 102,.bld 105 5 ha hu ht,.blk he (Ab c) 78]) ((A9 (i:=1) rfl).trans (AaT _ ((A9 (i:=1) rfl).trans (AaT _ (AaP _))))) ?_))));obtain rfl:=Az hU;exact Aw (BS Sj (AJ rfl)) (sC (sC (sC (sC sN)))) ⟨hu,rfl,rfl⟩
theorem Rs (F:Nat)(hp:Ah→(List Aa)→Bool→Ah→Aa→Option (Bool×Bool×Ah))(h0:(∀(hd:Nat) (he:Nat) (ha:Nat) (hl:Value) (hf:Nat) (key:Ah) (x:(List Aa)) (first:Bool) (l:Ah) (c:Aa) (r:Bool×Bool×Ah),hp key x first l c=some r→Fn Tryz.prog GE 106 [rS key,Bo 4 (List.map Ab x),rv (.pointer (some ⟨hd,0,none⟩)),rv (.pointer (some ⟨he,0,none⟩)),rv (.pointer (some ⟨hf,0,none⟩))] [.blk hd [rB first] 4,.blk he [rv (.pointer (some ⟨ha,0,none⟩))] 102,.bld 105 5 ha hl l,.blk hf (Ab c) 78] (λR H=>∃w3b:Value,R=rB r.1∧H=[.blk hd [rB r.2.1] 4,.blk he [rv (.pointer (some ⟨ha,0,none⟩))] 102,.bld 105 5 ha w3b r.2.2,.blk hf (Ab c) 78])))(hd:Nat)(he:Nat)(ha:Nat)(hl:Value)(hf:Nat)(v:(List Aa))(first:Bool)(l:Ah)(c:Aa)(r:Bool×Ah)(h:Im F hp v first l c=some r):Fn Tryz.prog GE 105 [Bo 4 (List.map Ab v),rv (.func (.func 106) #[] #[(.pointer (some ⟨hd,0,none⟩)),(.pointer (some ⟨he,0,none⟩)),(.pointer (some ⟨hf,0,none⟩))])] [.blk hd [rB first] 4,.blk he [rv (.pointer (some ⟨ha,0,none⟩))] 102,.bld 105 5 ha hl l,.blk hf (Ab c) 78] (λR H=>∃w1_1b:Value,R=rv (.tuple #[])∧H=[.blk hd [rB r.1] 4,.blk he [rv (.pointer (some ⟨ha,0,none⟩))] 102,.bld 105 5 ha w1_1b r.2,.blk hf (Ab c) 78]):=by
 refine enter (n:=52) Tryz.func105 rfl Tryz.ntmps105 rfl (λw Z=>?_);refine Bb (l':=[(0,Bo 4 (List.map Ab v)),(1,rv (.func (.func 106) #[] #[(.pointer (some ⟨hd,0,none⟩)),(.pointer (some ⟨he,0,none⟩)),(.pointer (some ⟨hf,0,none⟩))]))]) (H':=[.blk hd [rB first] 4,.blk he [rv (.pointer (some ⟨ha,0,none⟩))] 102,.bld 105 5 ha hl l,.blk hf (Ab c) 78]) rfl rfl ?_;unfold Im at h;refine Ak (wv (r:=rI .i64 1) (Ac rfl) (By (wm rfl ?_)));obtain⟨g1,h2⟩:=Av h;refine wv (BY (enc:=Ab) (ys:=v) BN Cb rfl rfl g1) (wv (Ce B5 rfl Cu rfl rfl) (wv (BQ Dd rfl rfl) (wv (r:=rI .i64 0) (Au rfl) (Ar (AO ?_)))));obtain⟨hD,hE,ht⟩:=AL h2;refine BA (S:=Nat×(Int×Int×Bool×Ah)×(Value)) (V:=(Bool×Ah)×(Value)) 0 (λσ=>Cg (λσ=>DJ F v c hp σ.1 σ.2.1 σ.2.2.1 σ.2.2.2) σ.1 σ.2.1=some hD) (λσ=>[(0,Bo 4 (List.map Ab v)),(1,rv (.func (.func 106) #[] #[(.pointer (some ⟨hd,0,none⟩)),(.pointer (some ⟨he,0,none⟩)),(.pointer (some ⟨hf,0,none⟩))])),(4,rI .i64 σ.2.1.1),(12,rI .i64 ((Ay v 0).fN)),(13,rI .i64 σ.2.1.2.1)]) (λσ=>[.blk hd [rB σ.2.1.2.2.1] 4,.blk he [rv (.pointer (some ⟨ha,0,none⟩))] 102,.bld 105 5 ha σ.2.2 σ.2.1.2.2.2,.blk hf (Ab c) 78]) (λσ=>σ.1) (F,(1,0,first,l),hl) hE (AQ.c5 rfl rfl rfl rfl rfl AQ.nil) (sC (sC (sC (sC sN)))) (λσ=>HB σ.1.1 σ.1.2=some r) (λσ=>[]) (λσ=>[.blk hd [rB σ.1.1] 4,.blk he [rv (.pointer (some ⟨ha,0,none⟩))] 102,.bld 105 5 ha σ.2 σ.1.2,.blk hf (Ab c) 78]) ?_ ?_
 ·rintro⟨gy,⟨hb,hm,hi,hj⟩,hk⟩ hG;refine Bb (l':=[(0,Bo 4 (List.map Ab v)),(1,rv (.func (.func 106) #[] #[(.pointer (some ⟨hd,0,none⟩)),(.pointer (some ⟨he,0,none⟩)),(.pointer (some ⟨hf,0,none⟩))])),(4,rI .i64 hb),(12,rI .i64 ((Ay v 0).fN)),(13,rI .i64 hm)]) (H':=[.blk hd [rB hi] 4,.blk he [rv (.pointer (some ⟨ha,0,none⟩))] 102,.bld 105 5 ha hk hj,.blk hf (Ab c) 78]) rfl rfl ?_;obtain⟨h1,rfl,hH,hn,ho⟩:=CM hG;replace hn:DJ F v c hp hb hm hi hj=some hH:=hn;unfold DJ at hn;refine Ak (wv (Cp rfl rfl) (Ar (Am (Ap (b:=decide (hm<((Ay v 0).fN))) rfl (λc175=>?_) (λc175=>?_)))))
  ·have h3:=AB c175 hn;refine At (AN (Am (AO (Ak (wv (r:=rS ([]:Ah)) (Ac rfl) (Ar (Am (Ak (wm rfl (wv (BY (enc:=Ab) (ys:=v) BN Cb rfl rfl g1) (wv (Ce B5 rfl DX rfl rfl) (wv (BQ Ex rfl rfl) (wv (B3 rfl rfl) (Ar (Ap (b:=decide (((Ay v 0).fKind)=6)) rfl (λhu=>?_) (λhu=>?_))))))))))))))))
   ·have hI:=AB hu h3;refine Ak (wm rfl (wm rfl ?_));obtain⟨hJ,hK⟩:=Av hI;refine wv (BY (enc:=Ab) (ys:=v) BN Cb rfl rfl hJ) (wv (Ce B5 rfl CV rfl rfl) (wv (BQ Dn rfl rfl) (wa rfl (Ar (Aj (wm rfl ?_))))));obtain⟨hL,hN⟩:=Av hK;refine wv (Bi rfl rfl hL) (wa rfl (By (wm rfl (wm rfl ?_))));obtain⟨hO,hP⟩:=Av hN;refine wv (r:=Bo 4 (List.map Ab (List.drop (Int.toNat (hb+1)) v))) (N4 BN Cb rfl rfl hO) ?_;obtain⟨hg,hQ,hR⟩:=AL hP;refine Co Tryz.call101 (OQ F (List.drop (Int.toNat (hb+1)) v) hg hQ) rfl (wm rfl (wv (AF rfl rfl) (wv (AF rfl rfl) (wv (AF rfl rfl) (Cf (cs:=[rI .i64 0,rI .i64 0,rB false,rB false]) PF rfl rfl (λh4=>?_))))));refine wa rfl (Bq (i:=0) Gy rfl rfl rfl (BM.c rfl) rfl rfl (cs':=[rI .i64 hg.2.1.fDepth,rI .i64 hg.2.1.fBytes,rB hg.2.1.fOutside,rB hg.2.1.fLong]) rfl (H':=[.blk h4 (AZ hg.2.1) 132,.blk hd [rB hi] 4,.blk he [rv (.pointer (some ⟨ha,0,none⟩))] 102,.bld 105 5 ha hk hj,.blk hf (Ab c) 78]) rfl (wa rfl (Ar (Am (Ak (wm rfl (wm rfl (wm rfl (wm rfl (wm rfl (wm rfl ?_)))))))))));obtain⟨hw,hS⟩:=Av hR;refine wv (Bi rfl rfl hw) (wm rfl (wm rfl (wv (Bi rfl rfl hw) ?_)));obtain⟨hT,hU⟩:=Av hS;obtain⟨hV,hW⟩:=Av hU;refine wv (r:=Bo 4 (List.map Ab (List.take (Int.toNat ((hb+1)+hg.1)-Int.toNat (hb+1)) (List.drop (Int.toNat (hb+1)) v)))) (N3 BN Cb rfl rfl rfl rfl hT hV) ?_;obtain⟨hq,hX,h5⟩:=AL hW;refine M9 (rs:=[rS ((Ay v hb).fStr),Bo 4 (List.map Ab (List.take (Int.toNat ((hb+1)+hg.1)-Int.toNat (hb+1)) (List.drop (Int.toNat (hb+1)) v)))]) (Hin:=[.blk hd [rB hi] 4,.blk he [rv (.pointer (some ⟨ha,0,none⟩))] 102,.bld 105 5 ha hk hj,.blk hf (Ab c) 78]) (Hr:=[.blk h4 (AZ hg.2.1) 132]) Tryz.call106 rfl rfl ((A9 (i:=1) rfl).trans (AaT _ ((A9 (i:=1) rfl).trans (AaT _ ((A9 (i:=1) rfl).trans (AaT _ ((A9 (i:=1) rfl).trans (AaT _ (AaP _))))))))) (h0 hd he ha hk hf ((Ay v hb).fStr) (List.take (Int.toNat ((hb+1)+hg.1)-Int.toNat (hb+1)) (List.drop (Int.toNat (hb+1)) v)) hi hj c hq hX) rfl ?_;rintro _ _ ⟨h6,rfl,rfl⟩;refine wv (BJ rfl) (Ar (Ap (b:=!hq.1) rfl (λhx=>?_) (λhx=>?_)))
    ·have hY:=AB hx h5;refine Ax (Af (A3 (Af (Af (Bc ?_)))));have hZ:=B1 hY ho ht;refine A3 ?_;obtain rfl:=Az hZ;exact Aw (T9 Tryz.results105) (sC (sC (sC (sC (sS sN))))) ⟨h6,rfl,rfl⟩
    ·have ga:=AC hx h5;refine At (AN (Aj (wm rfl (wm rfl (wv (Bi rfl rfl hw) (wa rfl (Al (AK (AN (Aj ?_))))))))));obtain⟨gb,gc⟩:=Av ga;refine wv (Bi rfl rfl gb) (wm rfl (Al ?_));have gd:=Bk gc ho;exact Aq (AG (h1,((hb+1)+hg.1,hm+1,hq.2.1,hq.2.2),h6) ⟨gd,AaX _⟩ (AQ.c5 rfl rfl rfl rfl rfl AQ.nil) (sC (sC (sC (sC (sS sN))))))
   ·have ge:=AC hu h3;refine At (AN (Ak (wm rfl (wm rfl ?_))));obtain⟨gf,gg⟩:=Av ge;refine wv (r:=Bo 4 (List.map Ab (List.drop (Int.toNat hb) v))) (N4 BN Cb rfl rfl gf) ?_;obtain⟨hh,gh,gi⟩:=AL gg;refine Co Tryz.call101 (OQ F (List.drop (Int.toNat hb) v) hh gh) rfl (wm rfl (wv (AF rfl rfl) (wv (AF rfl rfl) (wv (AF rfl rfl) (Cf (cs:=[rI .i64 0,rI .i64 0,rB false,rB false]) PF rfl rfl (λh7=>?_))))));refine wa rfl (Bq (i:=0) Gy rfl rfl rfl (BM.c rfl) rfl rfl (cs':=[rI .i64 hh.2.1.fDepth,rI .i64 hh.2.1.fBytes,rB hh.2.1.fOutside,rB hh.2.1.fLong]) rfl (H':=[.blk h7 (AZ hh.2.1) 132,.blk hd [rB hi] 4,.blk he [rv (.pointer (some ⟨ha,0,none⟩))] 102,.bld 105 5 ha hk hj,.blk hf (Ab c) 78]) rfl (wa rfl (Ar (Am (Ak (wm rfl (wm rfl (wm rfl (wm rfl (wm rfl (wm rfl ?_)))))))))));obtain⟨hy,gj⟩:=Av gi;refine wv (Bi rfl rfl hy) (wm rfl (wm rfl (wv (Bi rfl rfl hy) ?_)));obtain⟨gk,gl⟩:=Av gj;obtain⟨gm,gn⟩:=Av gl;refine wv (r:=Bo 4 (List.map Ab (List.take (Int.toNat (hb+hh.1)-Int.toNat hb) (List.drop (Int.toNat hb) v)))) (N3 BN Cb rfl rfl rfl rfl gk gm) ?_;obtain⟨hr,gp,h8⟩:=AL gn;refine M9 (rs:=[rS ([]:Ah),Bo 4 (List.map Ab (List.take (Int.toNat (hb+hh.1)-Int.toNat hb) (List.drop (Int.toNat hb) v)))]) (Hin:=[.blk hd [rB hi] 4,.blk he [rv (.pointer (some ⟨ha,0,none⟩))] 102,.bld 105 5 ha hk hj,.blk hf (Ab c) 78]) (Hr:=[.blk h7 (AZ hh.2.1) 132]) Tryz.call106 rfl rfl ((A9 (i:=1) rfl).trans (AaT _ ((A9 (i:=1) rfl).trans (AaT _ ((A9 (i:=1) rfl).trans (AaT _ ((A9 (i:=1) rfl).trans (AaT _ (AaP _))))))))) (h0 hd he ha hk hf ([]:Ah) (List.take (Int.toNat (hb+hh.1)-Int.toNat hb) (List.drop (Int.toNat hb) v)) hi hj c hr gp) rfl ?_;rintro _ _ ⟨h9,rfl,rfl⟩;refine wv (BJ rfl) (Ar (Ap (b:=!hr.1) rfl (λhz=>?_) (λhz=>?_)))
    ·have gq:=AB hz h8;refine Ax (Af (A3 (Af (Af (Bc ?_)))));have gr:=B1 gq ho ht;refine A3 ?_;obtain rfl:=Az gr;exact Aw (T9 Tryz.results105) (sC (sC (sC (sC (sS sN))))) ⟨h9,rfl,rfl⟩
    ·have gs:=AC hz h8;refine At (AN (Aj (wm rfl (wm rfl (wv (Bi rfl rfl hy) (wa rfl (Al (AK (AN (Aj ?_))))))))));obtain⟨gt,gu⟩:=Av gs;refine wv (Bi rfl rfl gt) (wm rfl (Al ?_));have gv:=Bk gu ho;exact Aq (AG (h1,(hb+hh.1,hm+1,hr.2.1,hr.2.2),h9) ⟨gv,AaX _⟩ (AQ.c5 rfl rfl rfl rfl rfl AQ.nil) (sC (sC (sC (sC (sS sN))))))
  ·have gw:=AC c175 hn;refine B9 (A5 ?_);have gx:=Cj gw ho ht;exact A5 (Br (AG ((hi,hj),hk) gx AQ.nil (sC (sC (sC (sC sN))))))
 ·rintro⟨⟨hA,hB⟩,hC⟩ hs;refine CR (l':=[]) (H':=[.blk hd [rB hA] 4,.blk he [rv (.pointer (some ⟨ha,0,none⟩))] 102,.bld 105 5 ha hC hB,.blk hf (Ab c) 78]) rfl rfl ?_;replace hs:HB hA hB=some r:=hs;unfold HB at hs;refine Bm ?_;obtain rfl:=Az hs;exact H8 (T9 Tryz.results105) (sC (sC (sC (sC sN)))) ⟨hC,rfl,rfl⟩
theorem HA:∀F:Nat,(∀(ha:Nat) (hb:Value) (l:Ah) (v:(List Aa)) (r:Ah),G5 F l v=some r→Fn Tryz.prog GE 73 [rv (.pointer (some ⟨ha,0,none⟩)),Bo 4 (List.map Ab v)] [.bld 105 5 ha hb l] (λR H=>∃w0b:Value,R=rv (.tuple #[])∧H=[.bld 105 5 ha w0b r]))∧(∀(hd:Nat) (he:Nat) (ha:Nat) (hb:Value) (hf:Nat) (key:Ah) (x:(List Aa)) (first:Bool) (l:Ah) (c:Aa) (r:Bool×Bool×Ah),EM F key x first l c=some r→Fn Tryz.prog GE 106 [rS key,Bo 4 (List.map Ab x),rv (.pointer (some ⟨hd,0,none⟩)),rv (.pointer (some ⟨he,0,none⟩)),rv (.pointer (some ⟨hf,0,none⟩))] [.blk hd [rB first] 4,.blk he [rv (.pointer (some ⟨ha,0,none⟩))] 102,.bld 105 5 ha hb l,.blk hf (Ab c) 78] (λR H=>∃w3b:Value,R=rB r.1∧H=[.blk hd [rB r.2.1] 4,.blk he [rv (.pointer (some ⟨ha,0,none⟩))] 102,.bld 105 5 ha w3b r.2.2,.blk hf (Ab c) 78]))∧(∀(hd:Nat) (he:Nat) (ha:Nat) (hb:Value) (hf:Nat) (v:(List Aa)) (first:Bool) (l:Ah) (c:Aa) (r:Bool×Ah),Hc F v first l c=some r→Fn Tryz.prog GE 105 [Bo 4 (List.map Ab v),rv (.func (.func 106) #[] #[(.pointer (some ⟨hd,0,none⟩)),(.pointer (some ⟨he,0,none⟩)),(.pointer (some ⟨hf,0,none⟩))])] [.blk hd [rB first] 4,.blk he [rv (.pointer (some ⟨ha,0,none⟩))] 102,.bld 105 5 ha hb l,.blk hf (Ab c) 78] (λR H=>∃w1_1b:Value,R=rv (.tuple #[])∧H=[.blk hd [rB r.1] 4,.blk he [rv (.pointer (some ⟨ha,0,none⟩))] 102,.bld 105 5 ha w1_1b r.2,.blk hf (Ab c) 78]))
  | 0=>⟨(λ_ _ _ _ _ h=>by simp[G5] at h),(λ_ _ _ _ _ _ _ _ _ _ _ h=>by simp[EM] at h),(λ_ _ _ _ _ _ _ _ _ _ h=>by simp[Hc] at h)⟩
  | nn+1=>⟨(λha hb l v r h=>Ts nn (EM nn) (Hc nn) (HA nn).2.1 (HA nn).2.2 ha hb l v r (by rw[G5] at h;exact h)),(λhd he ha hb hf key x first l c r h=>Rt nn (G5 nn) (HA nn).1 hd he ha hb hf key x first l c r (by rw[EM] at h;exact h)),(λhd he ha hb hf v first l c r h=>Rs nn (EM nn) (HA nn).2.1 hd he ha hb hf v first l c r (by rw[Hc] at h;exact h))⟩
theorem UO (F:Nat)(ha:Nat)(hb:Value)(l:Ah)(v:(List Aa))(r:Ah)(h:G5 F l v=some r):Fn Tryz.prog GE 73 [rv (.pointer (some ⟨ha,0,none⟩)),Bo 4 (List.map Ab v)] [.bld 105 5 ha hb l] (λR H=>∃w0b:Value,R=rv (.tuple #[])∧H=[.bld 105 5 ha w0b r]):=(HA F).1 ha hb l v r h
theorem Tx (F:Nat)(v:(List Aa))(r:Ah×Int)(h:KG F v=some r):Fn Tryz.prog GE 45 [Bo 4 (List.map Ab v)] [] (λR H=>R=C5 [rS r.1,rI .i64 r.2]∧H=[]):=by
 refine enter (n:=14) Tryz.func45 rfl Tryz.ntmps45 rfl (λw Z=>?_);refine Bb (l':=[(0,Bo 4 (List.map Ab v))]) (H':=[]) rfl rfl ?_;unfold KG at h;refine Ak (wv (r:=rS ([]:Ah)) (Ac rfl) (wv (r:=rI .i64 0) (Ac rfl) (Ar (Am (Ak (wm rfl ?_))))));obtain⟨r1,e3,h2⟩:=AL h;refine Co Tryz.call72 (Nh F v r1 e3) rfl (wa rfl (By (wm rfl (wv (CF rfl rfl) (Ar (Ap (b:=!decide (r1=0)) rfl (λc4=>?_) (λc4=>?_)))))))
 ·have h5:=AB c4 h2;refine Ak (wm rfl (wv (r:=rS ([]:Ah)) (Ac rfl) (wa rfl (Ar (Ax (Af ?_))))));obtain rfl:=Az h5;exact Aw (Dg Tryz.results45 (AJ rfl) (AJ rfl)) sN ⟨rfl,rfl⟩
 ·have h6:=AC c4 h2;refine At (AN (Ak (Cf (cs:=[rv (.pointer none),rv (.slice none 0 0)]) Tryz.zeroValue105 rfl rfl (λb7=>?_))));refine By (wm rfl (WL.tobld (te:=5) (i:=0) rfl ?_));obtain⟨r8,hb,h9⟩:=AL h6;refine Gx (Hr:=[]) UG (UO F b7 (.slice none 0 0) ([]:Ah) v r8 hb) rfl (AaP _) rfl ?_;rintro _ _ ⟨ha,rfl,rfl⟩;refine By ?_;obtain⟨hd,he⟩:=Av h9;refine Ci (rs:=[rv (.pointer (some ⟨b7,0,none⟩))]) (Hin:=[.bld 105 5 b7 ha r8]) (Hr:=[]) Tryz.call74 rfl (AaP _) (U6 b7 ha r8  hd) rfl ?_;rintro _ _ ⟨rfl,rfl⟩;refine wa rfl (wv (r:=rI .i64 0) (Ac rfl) (Ar (Ax ?_)));obtain rfl:=Az he;exact Aw (Dg Tryz.results45 (AJ rfl) (AJ rfl)) sN ⟨rfl,rfl⟩
end Go.Proofs.YtkoiaconljdbeaaGreatDoor.Q
namespace Go.Proofs.YtkoiaconljdbeaaGreatDoor
open Go
set_option linter.unusedVariables false
structure A1 where
 fS:Ah
 fAt:Int
 fCells:(List Aa)
 fGreat:Bool
 deriving DecidableEq,Inhabited
def HR (s:Ah)(p:Ah):Option (Bool):=
 AX (imp (decide ((p.length:Int)≤(s.length:Int))) (Hp (p.length:Int) (s.length:Int)))<|some ((decide ((p.length:Int)≤(s.length:Int)))&&(decide ((List.take (Int.toNat (p.length:Int)) s)=p)))
def H0 (s:Ah)(p:Ah):Option (Bool):=
 Bx (HR s p) λr1=>some r1
def DZ (q:A1)(s:Ah):Option (Bool×A1):=
 AX (Hp q.fAt (q.fS.length:Int))<|Bx (H0 (List.drop (Int.toNat q.fAt) q.fS) s) λr3=>Bj (!r3) (some (false,q)) (AX (Bw .i64 (q.fAt+(s.length:Int)))<|some (true,(A1.mk q.fS (q.fAt+(s.length:Int)) q.fCells q.fGreat)))
def Gn (ha:(List Int))(hb:Int)(hd:Int):Option (Stp ((List Int)×Int) (Out (Ah×Bool×A1) (Int))):=
 AX (DC 1 (ha.length+([hb]:List Int).length))<|some (.next (ha++([hb]:List Int),hd))
def EC (r1:Bool×A1)(hb:(List Int))(ha:Int):Option (Stp ((List Int)×Int) (Out (Ah×Bool×A1) (Int))):=
 Bj (decide (ha<(r1.2.fS.length:Int))) (AX (CH ha (r1.2.fS.length:Int))<|AX (Bw .i64 (ha+1))<|Bj (decide ((AT r1.2.fS ha)=34)) (some (.out (.ret (PB hb,true,(A1.mk r1.2.fS (ha+1) r1.2.fCells r1.2.fGreat))))) (Bj (((decide ((AT r1.2.fS ha)<32))||(decide (126<(AT r1.2.fS ha))))) (some (.out (.ret (([]:Ah),false,(A1.mk r1.2.fS (ha+1) r1.2.fCells r1.2.fGreat))))) (Bj (decide ((AT r1.2.fS ha)=92)) (AX (imp (!(decide ((r1.2.fS.length:Int)≤(ha+1)))) (CH (ha+1) (r1.2.fS.length:Int)))<|Bj (((decide ((r1.2.fS.length:Int)≤(ha+1)))||((!decide ((AT r1.2.fS (ha+1))=34))&&(!decide ((AT r1.2.fS (ha+1))=92))))) (some (.out (.ret (([]:Ah),false,(A1.mk r1.2.fS (ha+1) r1.2.fCells r1.2.fGreat))))) (AX (CH (ha+1) (r1.2.fS.length:Int))<|AX (Bw .i64 ((ha+1)+1))<|Gn hb (AT r1.2.fS (ha+1)) ((ha+1)+1))) (Gn hb (AT r1.2.fS ha) (ha+1))))) (some (.out (.go ha)))
def Ip (r1:Bool×A1)(ha:Int):Option (Ah×Bool×A1):=
 some (([]:Ah),false,(A1.mk r1.2.fS ha r1.2.fCells r1.2.fGreat))
def MZ (F:Nat)(q:A1):Option (Ah×Bool×A1):=
 Bx (DZ q ([34]:Ah)) λr1=>Bj (!r1.1) (some (([]:Ah),false,r1.2)) (Bx (Cg (λσ=>EC r1 σ.1 σ.2) F (([]:List Int),r1.2.fAt)) (BL λν=>Ip r1 ν))
def ED (r1:Bool×A1)(ha:Int):Option (Stp (Int) (Out (Bool×A1) (Int))):=
 AX (imp (decide (ha<(r1.2.fS.length:Int))) (CH ha (r1.2.fS.length:Int)))<|Bj (((decide (ha<(r1.2.fS.length:Int)))&&((decide (48≤(AT r1.2.fS ha)))&&(decide ((AT r1.2.fS ha)≤57))))) (AX (Bw .i64 (ha+1))<|some (.next (ha+1))) (some (.out (.go ha)))
def Jh (q:A1)(r1:Bool×A1)(ha:Int):Option (Bool×A1):=
 AX (Hp q.fAt ha)<|AX (Hp ha (r1.2.fS.length:Int))<|AX (DC 1 (List.take (Int.toNat ha-Int.toNat q.fAt) (List.drop (Int.toNat q.fAt) r1.2.fS)).length)<|Bj (((decide ((B6 (List.take (Int.toNat ha-Int.toNat q.fAt) (List.drop (Int.toNat q.fAt) r1.2.fS)))=1))||(decide (r1.2.fAt=ha)))) (some (false,(A1.mk r1.2.fS ha r1.2.fCells r1.2.fGreat))) (AX (DC 40 (r1.2.fCells.length+([(Aa.mk 3 (Bt (List.take (Int.toNat ha-Int.toNat q.fAt) (List.drop (Int.toNat q.fAt) r1.2.fS))) ([]:Ah) 0)]:List Aa).length))<|some (true,(A1.mk r1.2.fS ha (r1.2.fCells++([(Aa.mk 3 (Bt (List.take (Int.toNat ha-Int.toNat q.fAt) (List.drop (Int.toNat q.fAt) r1.2.fS))) ([]:Ah) 0)]:List Aa)) (r1.2.fGreat||(!decide ((B6 (List.take (Int.toNat ha-Int.toNat q.fAt) (List.drop (Int.toNat q.fAt) r1.2.fS)))=0))))))
def Na (F:Nat)(q:A1):Option (Bool×A1):=
 Bx (DZ q ([45]:Ah)) λr1=>Bx (Cg (λσ=>ED r1 σ) F r1.2.fAt) (BL λν=>Jh q r1 ν)
def Eb (ha:Ah)(hb:Int)(hd:(List Aa))(he:Bool):Option (Bool×A1):=
 some (true,(A1.mk ha hb hd he))
def Iq (F:Nat)(q:A1):Option (Bool×A1):=
 Bx (DZ q ([110,117,108,108]:Ah)) λhd=>Bj (hd.1) (AX (DC 40 (hd.2.fCells.length+([(Aa.mk 1 0 ([]:Ah) 0)]:List Aa).length))<|Eb hd.2.fS hd.2.fAt (hd.2.fCells++([(Aa.mk 1 0 ([]:Ah) 0)]:List Aa)) hd.2.fGreat) (Bx (DZ hd.2 ([116,114,117,101]:Ah)) λhe=>Bj (he.1) (AX (DC 40 (he.2.fCells.length+([(Aa.mk 2 1 ([]:Ah) 0)]:List Aa).length))<|Eb he.2.fS he.2.fAt (he.2.fCells++([(Aa.mk 2 1 ([]:Ah) 0)]:List Aa)) he.2.fGreat) (Bx (DZ he.2 ([102,97,108,115,101]:Ah)) λha=>Bj (ha.1) (AX (DC 40 (ha.2.fCells.length+([(Aa.mk 2 0 ([]:Ah) 0)]:List Aa).length))<|Eb ha.2.fS ha.2.fAt (ha.2.fCells++([(Aa.mk 2 0 ([]:Ah) 0)]:List Aa)) ha.2.fGreat) (AX (Hp ha.2.fAt (ha.2.fS.length:Int))<|Bx (H0 (List.drop (Int.toNat ha.2.fAt) ha.2.fS) ([34]:Ah)) λhg=>Bj (hg) (Bx (MZ F ha.2) λhb=>Bj (!hb.2.1) (some (false,hb.2.2)) (AX (DC 40 (hb.2.2.fCells.length+([(Aa.mk 4 0 hb.1 0)]:List Aa).length))<|Eb hb.2.2.fS hb.2.2.fAt (hb.2.2.fCells++([(Aa.mk 4 0 hb.1 0)]:List Aa)) hb.2.2.fGreat)) (Bx (Na F ha.2) λhf=>some (hf.1,hf.2)))))
def EP (hf:A1→Option (Bool×A1))(x16:(List Aa))(hd:Int)(hg:Ah)(hh:Int)(hi:(List Aa))(hj:Bool):Option (Stp (Int×Ah×Int×(List Aa)×Bool) (Out (Bool×A1) (Unit))):=
 Bx (hf (A1.mk hg hh hi hj)) λha=>Bj (!ha.1) (some (.out (.ret (false,ha.2)))) (AX (CH (x16.length:Int) (ha.2.fCells.length:Int))<|Lx (List.set ha.2.fCells (Int.toNat (x16.length:Int)) (Aa.mk ((Ay ha.2.fCells (x16.length:Int)).fKind) ((Ay ha.2.fCells (x16.length:Int)).fInt) ((Ay ha.2.fCells (x16.length:Int)).fStr) hd)) λhk=>Bx (DZ (A1.mk ha.2.fS ha.2.fAt hk ha.2.fGreat) ([93]:Ah)) λhe=>Bj (he.1) (some (.out (.ret (true,he.2)))) (Bx (DZ he.2 ([44]:Ah)) λhb=>Bj (!hb.1) (some (.out (.ret (false,hb.2)))) (AX (Bw .i64 (hd+1))<|some (.next (hd+1,hb.2.fS,hb.2.fAt,hb.2.fCells,hb.2.fGreat)))))
def HD :Option (Bool×A1):=
 none
def Cr (hk:A1→Option (Bool×A1))(x16:(List Aa))(hd:Int)(he:Ah×Bool×A1)(hn:Bool)(ho:Bool)(hl:Bool)(hh:Ah)(hi:Int)(hf:(List Aa))(hj:Bool):Option (Stp (Ah×Int×Ah×Int×(List Aa)×Bool) (Out (Bool×A1) (Unit))):=
 Bj (hl) (some (.out (.ret (false,(A1.mk hh hi hf hj))))) (AX (DC 40 (hf.length+([(Aa.mk 4 0 he.1 0)]:List Aa).length))<|Bx (hk (A1.mk hh hi (hf++([(Aa.mk 4 0 he.1 0)]:List Aa)) hj)) λha=>Bj (!ha.1) (some (.out (.ret (false,ha.2)))) (AX (CH (x16.length:Int) (ha.2.fCells.length:Int))<|Lx (List.set ha.2.fCells (Int.toNat (x16.length:Int)) (Aa.mk ((Ay ha.2.fCells (x16.length:Int)).fKind) ((Ay ha.2.fCells (x16.length:Int)).fInt) ((Ay ha.2.fCells (x16.length:Int)).fStr) hd)) λhm=>Bx (DZ (A1.mk ha.2.fS ha.2.fAt hm ha.2.fGreat) ([125]:Ah)) λhg=>Bj (hg.1) (some (.out (.ret (true,hg.2)))) (Bx (DZ hg.2 ([44]:Ah)) λhb=>Bj (!hb.1) (some (.out (.ret (false,hb.2)))) (AX (Bw .i64 (hd+1))<|some (.next (he.1,hd+1,hb.2.fS,hb.2.fAt,hb.2.fCells,hb.2.fGreat))))))
def EO (F:Nat)(hg:A1→Option (Bool×A1))(x16:(List Aa))(hb:Ah)(hd:Int)(hh:Ah)(hi:Int)(hj:(List Aa))(hk:Bool):Option (Stp (Ah×Int×Ah×Int×(List Aa)×Bool) (Out (Bool×A1) (Unit))):=
 Bx (MZ F (A1.mk hh hi hj hk)) λha=>Bj (!ha.2.1) (Cr hg x16 hd ha true true true ha.2.2.fS ha.2.2.fAt ha.2.2.fCells ha.2.2.fGreat) (Bj (decide (1<hd)) (Bj (BI ha.1 hb||decide (ha.1=hb)) (Cr hg x16 hd ha (BI ha.1 hb||decide (ha.1=hb)) (BI ha.1 hb||decide (ha.1=hb)) true ha.2.2.fS ha.2.2.fAt ha.2.2.fCells ha.2.2.fGreat) (Bx (DZ ha.2.2 ([58]:Ah)) λhe=>Cr hg x16 hd ha (BI ha.1 hb||decide (ha.1=hb)) (BI ha.1 hb||decide (ha.1=hb)) (!he.1) he.2.fS he.2.fAt he.2.fCells he.2.fGreat)) (Bx (DZ ha.2.2 ([58]:Ah)) λhf=>Cr hg x16 hd ha false false (!hf.1) hf.2.fS hf.2.fAt hf.2.fCells hf.2.fGreat))
def HC :Option (Bool×A1):=
 none
def Ea (F:Nat)(hg:A1→Option (Bool×A1))(r1:Bool×A1)(hi:Bool)(hd:Ah)(he:Int)(x16:(List Aa))(hf:Bool):Option (Bool×A1):=
 Bj (hi) (Bx (Iq F (A1.mk hd he x16 hf)) λhh=>some (hh.1,hh.2)) (Bj (r1.1) (AX (DC 40 (x16.length+([(Aa.mk 5 0 ([]:Ah) 0)]:List Aa).length))<|Bx (DZ (A1.mk hd he (x16++([(Aa.mk 5 0 ([]:Ah) 0)]:List Aa)) hf) ([93]:Ah)) λha=>Bj (ha.1) (some (true,ha.2)) (Bx (Cg (λσ=>EP hg x16 σ.1 σ.2.1 σ.2.2.1 σ.2.2.2.1 σ.2.2.2.2) F (1,ha.2.fS,ha.2.fAt,ha.2.fCells,ha.2.fGreat)) (BL λν=>HD ))) (AX (DC 40 (x16.length+([(Aa.mk 6 0 ([]:Ah) 0)]:List Aa).length))<|Bx (DZ (A1.mk hd he (x16++([(Aa.mk 6 0 ([]:Ah) 0)]:List Aa)) hf) ([125]:Ah)) λhb=>Bj (hb.1) (some (true,hb.2)) (Bx (Cg (λσ=>EO F hg x16 σ.1 σ.2.1 σ.2.2.1 σ.2.2.2.1 σ.2.2.2.2.1 σ.2.2.2.2.2) F (([]:Ah),1,hb.2.fS,hb.2.fAt,hb.2.fCells,hb.2.fGreat)) (BL λν=>HC ))))
def KE (F:Nat)(hb:A1→Option (Bool×A1))(q:A1):Option (Bool×A1):=
 Bx (DZ q ([91]:Ah)) λr1=>Bj (!r1.1) (Bx (DZ r1.2 ([123]:Ah)) λha=>Ea F hb r1 (!ha.1) ha.2.fS ha.2.fAt ha.2.fCells ha.2.fGreat) (Ea F hb r1 false r1.2.fS r1.2.fAt r1.2.fCells r1.2.fGreat)
def Cv:Nat→A1→Option (Bool×A1)
 | 0,_=>none
 | nn+1,q=>KE nn (Cv nn) q
def G6 (F:Nat)(hb:Bool)(hf:Ah)(hg:Int)(hd:(List Aa))(he:Bool):Option ((List Aa)×Int):=
 Bj (hb) (some (([]:List Aa),1)) (Bj (he) (some (([]:List Aa),2)) (Bx (KJ F hd) λha=>some (ha.1,ha.2)))
def KH (F:Nat)(s:Ah):Option ((List Aa)×Int):=
 Bj (decide (4000<(s.length:Int))) (some (([]:List Aa),3)) (Bx (Cv F (A1.mk s 0 ([]:List Aa) false)) λha=>Bj (!ha.1) (G6 F true ha.2.fS ha.2.fAt ha.2.fCells ha.2.fGreat) (G6 F (!decide (ha.2.fAt=(s.length:Int))) ha.2.fS ha.2.fAt ha.2.fCells ha.2.fGreat))
end Go.Proofs.YtkoiaconljdbeaaGreatDoor
namespace Go.Proofs.YtkoiaconljdbeaaGreatDoor.Q
open Go Go.RowKit
set_option linter.unusedVariables false
set_option linter.unusedSimpArgs false
set_option maxRecDepth 100000
set_option maxHeartbeats 4000000
theorem Er:∃inf,Tryz.prog.info? 78=some inf∧inf.zero=some (.agg #[(.int .i64 0),(.int .i64 0),(.string ⟨#[]⟩),(.int .i64 0)])∧inf.size=4∧inf.bytes=40:=by
  have key:(Tryz.prog.info? 78).map (λi=>(i.zero,i.size,i.bytes))=some (some (.agg #[(.int .i64 0),(.int .i64 0),(.string ⟨#[]⟩),(.int .i64 0)]),4,40):=by kernel_rfl
  obtain⟨inf,h1,h2⟩:=Option.map_eq_some_iff.1 key;simp only[Prod.mk.injEq] at h2;exact⟨inf,h1,h2.1,h2.2.1,h2.2.2⟩
theorem P3 (parts:List (Nat×Value)):Tryz.prog.built 78 parts=Instr.fill (λi=>(#[(0,1),(1,1),(2,1),(3,1)]:Array (Nat×Nat))[i]?) #[(.int .i64 0),(.int .i64 0),(.string ⟨#[]⟩),(.int .i64 0)] parts:=by kernel_rfl
theorem DF {n:Nat}{c:Cx}{l:Fr}{H:List Ent}{d:Option Nat}{ty:TypeId}{pos:String}{af:Array Edge}{g:Option (Nat×Bool)}{x0:Operand}{r0:Rp}(h0:ev l x0=some r0)(u0:r0.one=true):Bv Tryz.prog n c l H { dst:=d,op:=.build 78 #[(0,x0)],type:=ty,pos:=pos,after:=af,guard:=g } (Bz [r0,rI .i64 0,rS ([]:Ah),rI .i64 0]):=λa w Z ha _=>by
  have p0:=ha.ev h0;have c0:=BZ (r0.hone u0 Z _ p0);have hb:Tryz.prog.built 78 [(0,a.eval x0)]=some #[a.eval x0,(.int .i64 0),(.string ⟨#[]⟩),(.int .i64 0)]:=by
    rw[P3];generalize a.eval x0=v0 at *;simp[Instr.fill,c0]
  refine⟨.agg #[a.eval x0,(.int .i64 0),(.string ⟨#[]⟩),(.int .i64 0)],⟨[a.eval x0,(.int .i64 0),(.string ⟨#[]⟩),(.int .i64 0)],rfl,p0,rfl,rfl,rfl,trivial⟩,?_⟩;have:=run_build w 78 #[(0,a.eval x0)] _ (by simpa using hb);simp[execOp,this]
theorem Cm {n:Nat}{c:Cx}{l:Fr}{H:List Ent}{d:Option Nat}{ty:TypeId}{pos:String}{af:Array Edge}{g:Option (Nat×Bool)}{x0:Operand}{r0:Rp}(h0:ev l x0=some r0)(u0:r0.one=true){x1:Operand}{r1:Rp}(h1:ev l x1=some r1)(u1:r1.one=true):Bv Tryz.prog n c l H { dst:=d,op:=.build 78 #[(0,x0),(1,x1)],type:=ty,pos:=pos,after:=af,guard:=g } (Bz [r0,r1,rS ([]:Ah),rI .i64 0]):=λa w Z ha _=>by
  have p0:=ha.ev h0;have c0:=BZ (r0.hone u0 Z _ p0);have p1:=ha.ev h1;have c1:=BZ (r1.hone u1 Z _ p1);have hb:Tryz.prog.built 78 [(0,a.eval x0),(1,a.eval x1)]=some #[a.eval x0,a.eval x1,(.string ⟨#[]⟩),(.int .i64 0)]:=by
    rw[P3];generalize a.eval x0=v0 at *;generalize a.eval x1=v1 at *;simp[Instr.fill,c0,c1]
  refine⟨.agg #[a.eval x0,a.eval x1,(.string ⟨#[]⟩),(.int .i64 0)],⟨[a.eval x0,a.eval x1,(.string ⟨#[]⟩),(.int .i64 0)],rfl,p0,p1,rfl,rfl,trivial⟩,?_⟩;have:=run_build w 78 #[(0,a.eval x0),(1,a.eval x1)] _ (by simpa using hb);simp[execOp,this]
theorem EG {n:Nat}{c:Cx}{l:Fr}{H:List Ent}{d:Option Nat}{ty:TypeId}{pos:String}{af:Array Edge}{g:Option (Nat×Bool)}{x0:Operand}{r0:Rp}(h0:ev l x0=some r0)(u0:r0.one=true){x2:Operand}{r2:Rp}(h2:ev l x2=some r2)(u2:r2.one=true):Bv Tryz.prog n c l H { dst:=d,op:=.build 78 #[(0,x0),(2,x2)],type:=ty,pos:=pos,after:=af,guard:=g } (Bz [r0,rI .i64 0,r2,rI .i64 0]):=λa w Z ha _=>by
  have p0:=ha.ev h0;have c0:=BZ (r0.hone u0 Z _ p0);have p2:=ha.ev h2;have c2:=BZ (r2.hone u2 Z _ p2);have hb:Tryz.prog.built 78 [(0,a.eval x0),(2,a.eval x2)]=some #[a.eval x0,(.int .i64 0),a.eval x2,(.int .i64 0)]:=by
    rw[P3];generalize a.eval x0=v0 at *;generalize a.eval x2=v2 at *;simp[Instr.fill,c0,c2]
  refine⟨.agg #[a.eval x0,(.int .i64 0),a.eval x2,(.int .i64 0)],⟨[a.eval x0,(.int .i64 0),a.eval x2,(.int .i64 0)],rfl,p0,rfl,p2,rfl,trivial⟩,?_⟩;have:=run_build w 78 #[(0,a.eval x0),(2,a.eval x2)] _ (by simpa using hb);simp[execOp,this]
theorem WO (parts:List (Nat×Value)):Tryz.prog.built 115 parts=Instr.fill (λi=>(#[(0,1),(1,1),(2,1),(3,1)]:Array (Nat×Nat))[i]?) #[(.string ⟨#[]⟩),(.int .i64 0),((.slice none 0 0)),(.bool false)] parts:=by kernel_rfl
theorem Pn {n:Nat}{c:Cx}{l:Fr}{H:List Ent}{d:Option Nat}{ty:TypeId}{pos:String}{af:Array Edge}{g:Option (Nat×Bool)}{x0:Operand}{r0:Rp}(h0:ev l x0=some r0)(u0:r0.one=true):Bv Tryz.prog n c l H { dst:=d,op:=.build 115 #[(0,x0)],type:=ty,pos:=pos,after:=af,guard:=g } (Bz [r0,rI .i64 0,rv (.slice none 0 0),rB false]):=λa w Z ha _=>by
  have p0:=ha.ev h0;have c0:=BZ (r0.hone u0 Z _ p0);have hb:Tryz.prog.built 115 [(0,a.eval x0)]=some #[a.eval x0,(.int .i64 0),((.slice none 0 0)),(.bool false)]:=by
    rw[WO];generalize a.eval x0=v0 at *;simp[Instr.fill,c0]
  refine⟨.agg #[a.eval x0,(.int .i64 0),((.slice none 0 0)),(.bool false)],⟨[a.eval x0,(.int .i64 0),((.slice none 0 0)),(.bool false)],rfl,p0,rfl,rfl,rfl,trivial⟩,?_⟩;have:=run_build w 115 #[(0,a.eval x0)] _ (by simpa using hb);simp[execOp,this]
theorem Oa (s:Ah)(p:Ah)(r:Bool)(h:HR s p=some r):Fn Tryz.prog GE 160 [rS s,rS p] [] (λR H=>R=rB r∧H=[]):=by
 refine enter (n:=18) Tryz.func160 rfl Tryz.ntmps160 rfl (λw Z=>?_);refine Bb (l':=[(0,rS s),(1,rS p)]) (H':=[]) rfl rfl ?_;unfold HR at h;refine Ak (wv (r:=rB false) (Ac rfl) (Ar ?_));obtain⟨g1,h2⟩:=Av h;refine AA [(4,rB ((decide ((p.length:Int)≤(s.length:Int)))&&(decide ((List.take (Int.toNat (p.length:Int)) s)=p))))] [] ?_ ?_
 ·refine Aj (wm rfl (wv (Bd BP rfl) (wm rfl (wv (Bd BP rfl) (wv (Gs rfl rfl) (wm rfl (AH (decide ((p.length:Int)≤(s.length:Int))) (λc3=>?_) (λc3=>?_))))))))
  ·refine wo c3 (wm rfl (wo c3 (wm rfl (wo c3 (wv (Bd BP rfl) (wo c3 (wv (Kv BP rfl rfl (C0 g1 c3)) (wo c3 (wm rfl (wo c3 (wv (G0 rfl rfl) (Gk rfl c3 rfl (wa rfl (Al ?_))))))))))))));exact BO c3
  ·refine wf c3 (wf c3 (wf c3 (wf c3 (wf c3 (wf c3 (wv (r:=rB false) (A4 (b:=decide ((p.length:Int)≤(s.length:Int))) rfl c3 rfl) (wa rfl (Al ?_))))))));exact BO c3
 refine Ax ?_;obtain rfl:=Az h2;exact Aw (BS Tryz.results160 (AJ rfl)) sN ⟨rfl,rfl⟩
theorem Mn (s:Ah)(p:Ah)(r:Bool)(h:H0 s p=some r):Fn Tryz.prog GE 146 [rS s,rS p] [] (λR H=>R=rB r∧H=[]):=by
 refine enter (n:=8) Tryz.func146 rfl Tryz.ntmps146 rfl (λw Z=>?_);refine Bb (l':=[(0,rS s),(1,rS p)]) (H':=[]) rfl rfl ?_;unfold H0 at h;refine Ak (wv (r:=rB false) (Ac rfl) (By (wm rfl (wm rfl ?_))));obtain⟨r1,e3,h2⟩:=AL h;refine Co Tryz.call160 (Oa s p r1 e3) rfl (wa rfl (Ar (Ax ?_)));obtain rfl:=Az h2;exact Aw (BS Tryz.results146 (AJ rfl)) sN ⟨rfl,rfl⟩
theorem DK (ha:Nat)(hb:Value)(q:A1)(s:Ah)(r:Bool×A1)(h:DZ q s=some r):Fn Tryz.prog GE 117 [rv (.pointer (some ⟨ha,0,none⟩)),rS s] [.blk ha [rS q.fS,rI .i64 q.fAt,rv hb,rB q.fGreat] 115,.row hb 78 4 (List.map Ab q.fCells)] (λR H=>∃w0_2:Value,R=rB r.1∧H=[.blk ha [rS r.2.fS,rI .i64 r.2.fAt,rv w0_2,rB r.2.fGreat] 115,.row w0_2 78 4 (List.map Ab r.2.fCells)]):=by
 refine enter (n:=26) Tryz.func117 rfl Tryz.ntmps117 rfl (λw Z=>?_);refine Bb (l':=[(0,rv (.pointer (some ⟨ha,0,none⟩))),(1,rS s)]) (H':=[.blk ha [rS q.fS,rI .i64 q.fAt,rv hb,rB q.fGreat] 115,.row hb 78 4 (List.map Ab q.fCells)]) rfl rfl ?_;unfold DZ at h;refine Ak (wv (r:=rB false) (Ac rfl) (Ar (Am (Am ?_))));obtain⟨g1,h2⟩:=Av h;obtain⟨r3,e5,h4⟩:=AL h2;refine DI [0,1] [⟨[],rv (.pointer (some ⟨ha,0,none⟩)),0⟩,⟨[0],rv (.pointer (some ⟨ha,0,none⟩)),0⟩,⟨[1],rv (.pointer (some ⟨ha,0,none⟩)),0⟩,⟨[2],rS q.fS,1⟩,⟨[],rv (.pointer (some ⟨ha,0,none⟩)),0⟩,⟨[4],rv (.pointer (some ⟨ha,0,none⟩)),0⟩,⟨[5],rv (.pointer (some ⟨ha,1,none⟩)),0⟩,⟨[6],rI .i64 q.fAt,1⟩,⟨[3,7],rS (List.drop (Int.toNat q.fAt) q.fS),0⟩,⟨[],rS s,0⟩,⟨[8,9],rB r3,0⟩,⟨[10],rB (!r3),0⟩] [16,0,1] ?_ ?_
 ·refine oq (Au rfl) (oq (A6 rfl) (oq (Ad B8 rfl CV rfl rfl) (of (A0 (i:=0) Dn rfl rfl rfl) (oq (Au rfl) (oq (A6 rfl) (oq (Ad B8 rfl Cu rfl rfl) (of (A0 (i:=0) Dd rfl rfl rfl) (oq (En BP rfl rfl g1) (oq (Au rfl) (GX rfl (λH=>N1 Tryz.call146 (Mn (List.drop (Int.toNat q.fAt) q.fS) s r3 e5) rfl) ?_))))))))));refine oq (BJ rfl) ?_;exact CL
 refine AN (Ap (b:=!r3) rfl (λc6=>?_) (λc6=>?_))
 ·have h7:=AB c6 h4;refine Ak (wv (r:=rB false) (Ac rfl) (Ar (Ax (Af ?_))));obtain rfl:=Az h7;exact Aw (BS Tryz.results117 (AJ rfl)) (sC (sC sN)) ⟨hb,rfl,rfl⟩
 ·have h8:=AC c6 h4;refine At (AN (Ak (wm rfl (wv (A6 rfl) (wv (Ad B8 rfl Cu rfl rfl) (wv (A0 (i:=0) Dd rfl rfl rfl) (wm rfl (wv (Bd BP rfl) ?_))))))));obtain⟨g9,hd⟩:=Av h8;refine wv (Bi rfl rfl g9) (wv (A6 rfl) (wv (Ad B8 rfl Cu rfl rfl) (BD (i:=0) Cu rfl rfl (Ck rfl) rfl rfl (cs':=[rS q.fS,rI .i64 (q.fAt+(s.length:Int)),rv hb,rB q.fGreat]) rfl (H':=[.blk ha [rS q.fS,rI .i64 (q.fAt+(s.length:Int)),rv hb,rB q.fGreat] 115,.row hb 78 4 (List.map Ab q.fCells)]) rfl (By (wv (r:=rB true) (Ac rfl) (Ar (Ax ?_)))))));obtain rfl:=Az hd;exact Aw (BS Tryz.results117 (AJ rfl)) (sC (sC sN)) ⟨hb,rfl,rfl⟩
theorem Sl (F:Nat)(ha:Nat)(hj:Value)(q:A1)(r:Ah×Bool×A1)(h:MZ F q=some r):Fn Tryz.prog GE 119 [rv (.pointer (some ⟨ha,0,none⟩))] [.blk ha [rS q.fS,rI .i64 q.fAt,rv hj,rB q.fGreat] 115,.row hj 78 4 (List.map Ab q.fCells)] (λR H=>∃w0_2:Value,R=C5 [rS r.1,rB r.2.1]∧H=[.blk ha [rS r.2.2.fS,rI .i64 r.2.2.fAt,rv w0_2,rB r.2.2.fGreat] 115,.row w0_2 78 4 (List.map Ab r.2.2.fCells)]):=by
 refine enter (n:=104) Tryz.func119 rfl Tryz.ntmps119 rfl (λw Z=>?_);refine Bb (l':=[(0,rv (.pointer (some ⟨ha,0,none⟩)))]) (H':=[.blk ha [rS q.fS,rI .i64 q.fAt,rv hj,rB q.fGreat] 115,.row hj 78 4 (List.map Ab q.fCells)]) rfl rfl ?_;unfold MZ at h;refine Ak (wv (r:=rS ([]:Ah)) (Ac rfl) (wv (r:=rB false) (Ac rfl) (Ar (Am (Ak (wm rfl ?_))))));obtain⟨r1,e3,h2⟩:=AL h;refine Gx (Hr:=[]) H7 (DK ha hj q ([34]:Ah) r1 e3) rfl (AaP _) rfl ?_;rintro _ _ ⟨v4,rfl,rfl⟩;refine wv (BJ rfl) (Ar (Ap (b:=!r1.1) rfl (λc5=>?_) (λc5=>?_)))
 ·have h6:=AB c5 h2;refine Ak (wv (r:=rS ([]:Ah)) (Ac rfl) (wv (r:=rB false) (Ac rfl) (Ar (Ax (Af ?_)))));obtain rfl:=Az h6;exact Aw (Dg PK (AJ rfl) (AJ rfl)) (sC (sC sN)) ⟨v4,rfl,rfl⟩
 ·have h7:=AC c5 h2;refine At (AN (Ak (wv (r:=rv (.slice none 0 0)) (Ac rfl) (Ar (Am (AO (WC.nilrow (e:=5) (sz:=1) (KB (H2:=[.blk ha [rS r1.2.fS,rI .i64 r1.2.fAt,rv v4,rB r1.2.fGreat] 115,.row v4 78 4 (List.map Ab r1.2.fCells),.row (.slice none 0 0     ) 5 1 (List.map Bp ([]:List Int))]) ((A9 (i:=1) rfl).trans (AaT _ ((A9 (i:=1) rfl).trans (AaT _ (AaP _))))) ?_))))))));obtain⟨h5,h8,hm⟩:=AL h7;refine BA (S:=Nat×((List Int)×Int)×(Value)) (V:=(Int)×(Unit)) 0 (λσ=>Cg (λσ=>EC r1 σ.1 σ.2) σ.1 σ.2.1=some h5) (λσ=>[(0,rv (.pointer (some ⟨ha,0,none⟩))),(4,rv σ.2.2)]) (λσ=>[.blk ha [rS r1.2.fS,rI .i64 σ.2.1.2,rv v4,rB r1.2.fGreat] 115,.row v4 78 4 (List.map Ab r1.2.fCells),.row σ.2.2 5 1 (List.map Bp σ.2.1.1)]) (λσ=>σ.1) (F,(([]:List Int),r1.2.fAt),(.slice none 0 0     )) h8 (AQ.c rfl (AQ.c rfl AQ.nil)) (sC (sC (sC sN))) (λσ=>Ip r1 σ.1=some r) (λσ=>[]) (λσ=>[.blk ha [rS r1.2.fS,rI .i64 σ.1,rv v4,rB r1.2.fGreat] 115,.row v4 78 4 (List.map Ab r1.2.fCells)]) ?_ ?_
  ·rintro⟨ga,⟨hf,hb⟩,hg⟩ h9;refine Bb (l':=[(0,rv (.pointer (some ⟨ha,0,none⟩))),(4,rv hg)]) (H':=[.blk ha [rS r1.2.fS,rI .i64 hb,rv v4,rB r1.2.fGreat] 115,.row v4 78 4 (List.map Ab r1.2.fCells),.row hg 5 1 (List.map Bp hf)]) rfl rfl ?_;obtain⟨hA,rfl,hq,hk,hl⟩:=CM h9;replace hk:EC r1 hf hb=some hq:=hk;unfold EC at hk;refine Am (Am (DI [0,4] [⟨[],rv (.pointer (some ⟨ha,0,none⟩)),0⟩,⟨[0],rv (.pointer (some ⟨ha,0,none⟩)),0⟩,⟨[1],rv (.pointer (some ⟨ha,1,none⟩)),0⟩,⟨[2],rI .i64 hb,1⟩,⟨[],rv (.pointer (some ⟨ha,0,none⟩)),0⟩,⟨[4],rv (.pointer (some ⟨ha,0,none⟩)),0⟩,⟨[5],rv (.pointer (some ⟨ha,0,none⟩)),0⟩,⟨[6],rS r1.2.fS,1⟩,⟨[7],rI .i64 (r1.2.fS.length:Int),0⟩,⟨[3,8],rB (decide (hb<(r1.2.fS.length:Int))),0⟩] [9,10,11,12,13,14,15,16,17,18,0,4] ?_ ?_))
   ·refine oq (Au rfl) (oq (A6 rfl) (oq (Ad B8 rfl Cu rfl rfl) (of (A0 (i:=0) Dd rfl rfl rfl) (oq (Au rfl) (oq (A6 rfl) (oq (Ad B8 rfl CV rfl rfl) (of (A0 (i:=0) Dn rfl rfl rfl) (oq (Bd BP rfl) (oq (Cp rfl rfl) ?_)))))))));exact CL
   refine AN (Ap (b:=decide (hb<(r1.2.fS.length:Int))) rfl (λhr=>?_) (λhr=>?_))
   ·have hB:=AB hr hk;refine At (AN (AO (Am ?_)));obtain⟨hC,hD⟩:=Av hB;refine DI [0,4,9,10,11,12,13,14,15,16,17] [⟨[],rv (.pointer (some ⟨ha,0,none⟩)),0⟩,⟨[0],rv (.pointer (some ⟨ha,0,none⟩)),0⟩,⟨[1],rv (.pointer (some ⟨ha,0,none⟩)),0⟩,⟨[2],rS r1.2.fS,1⟩,⟨[],rv (.pointer (some ⟨ha,0,none⟩)),0⟩,⟨[4],rv (.pointer (some ⟨ha,0,none⟩)),0⟩,⟨[5],rv (.pointer (some ⟨ha,1,none⟩)),0⟩,⟨[6],rI .i64 hb,1⟩,⟨[3,7],rI .u8 (AT r1.2.fS hb),0⟩,⟨[8],rI .u8 (AT r1.2.fS hb),0⟩] [19,20,21,22,23,24,25,26,27,5,0,4,9,10,11,12,13,14,15,16,17] ?_ ?_
    ·refine oq (Au rfl) (oq (A6 rfl) (oq (Ad B8 rfl CV rfl rfl) (of (A0 (i:=0) Dn rfl rfl rfl) (oq (Au rfl) (oq (A6 rfl) (oq (Ad B8 rfl Cu rfl rfl) (of (A0 (i:=0) Dd rfl rfl rfl) (oq (AV BP rfl rfl hC) (oq (Ac rfl) ?_)))))))));exact CL
    refine AN (Ak (wm rfl (wv (A6 rfl) (wv (Ad B8 rfl Cu rfl rfl) (wv (A0 (i:=0) Dd rfl rfl rfl) ?_)))));obtain⟨hE,hy⟩:=Av hD;refine wv (Bi rfl rfl hE) (wv (A6 rfl) (wv (Ad B8 rfl Cu rfl rfl) (BD (i:=0) Cu rfl rfl (Ck rfl) rfl rfl (cs':=[rS r1.2.fS,rI .i64 (hb+1),rv v4,rB r1.2.fGreat]) rfl (H':=[.blk ha [rS r1.2.fS,rI .i64 (hb+1),rv v4,rB r1.2.fGreat] 115,.row v4 78 4 (List.map Ab r1.2.fCells),.row hg 5 1 (List.map Bp hf)]) rfl (Ar (Dz (S:=(Int×Int)×(Unit)) (λσ=>Gn hf σ.1.1 σ.1.2=some hq) (λσ=>[(0,rv (.pointer (some ⟨ha,0,none⟩))),(4,rv hg),(5,rI .u8 σ.1.1),(9,rv (.pointer (some ⟨ha,0,none⟩))),(10,rv (.pointer (some ⟨ha,0,none⟩))),(11,rv (.pointer (some ⟨ha,1,none⟩))),(12,rI .i64 hb),(13,rv (.pointer (some ⟨ha,0,none⟩))),(14,rv (.pointer (some ⟨ha,0,none⟩))),(15,rv (.pointer (some ⟨ha,0,none⟩))),(16,rS r1.2.fS),(17,rI .i64 (r1.2.fS.length:Int)),(19,rv (.pointer (some ⟨ha,0,none⟩))),(20,rv (.pointer (some ⟨ha,0,none⟩))),(21,rv (.pointer (some ⟨ha,0,none⟩))),(22,rS r1.2.fS),(23,rv (.pointer (some ⟨ha,0,none⟩))),(24,rv (.pointer (some ⟨ha,0,none⟩))),(25,rv (.pointer (some ⟨ha,1,none⟩))),(26,rI .i64 hb),(27,rI .u8 (AT r1.2.fS hb))]) (λσ=>[.blk ha [rS r1.2.fS,rI .i64 σ.1.2,rv v4,rB r1.2.fGreat] 115,.row v4 78 4 (List.map Ab r1.2.fCells),.row hg 5 1 (List.map Bp hf)]) ?_ ?_)))))
    ·refine AO (Ak (wm rfl (wv (B3 rfl rfl) (wa rfl (Ar (Ap (b:=decide ((AT r1.2.fS hb)=34)) rfl (λhs=>?_) (λhs=>?_)))))))
     ·have hG:=AB hs hy;refine Ak (wm rfl (wv (r:=rS (PB hf)) (VO (xs:=hf) (i:=2) EB BP P8 rfl rfl) (wa rfl (wv (r:=rB true) (Ac rfl) (Ar (Ax (A3 (Af (A3 (Af (Bc ?_)))))))))));have hH:=B1 hG hl hm;refine A3 (Af ?_);obtain rfl:=Az hH;exact Aw (Dg PK (AJ rfl) (AJ rfl)) (sC (sC (sS sN))) ⟨v4,rfl,rfl⟩
     ·have hz:=AC hs hy;refine AA [(0,rv (.pointer (some ⟨ha,0,none⟩))),(4,rv hg),(5,rI .u8 (AT r1.2.fS hb)),(9,rv (.pointer (some ⟨ha,0,none⟩))),(10,rv (.pointer (some ⟨ha,0,none⟩))),(11,rv (.pointer (some ⟨ha,1,none⟩))),(12,rI .i64 hb),(13,rv (.pointer (some ⟨ha,0,none⟩))),(14,rv (.pointer (some ⟨ha,0,none⟩))),(15,rv (.pointer (some ⟨ha,0,none⟩))),(16,rS r1.2.fS),(17,rI .i64 (r1.2.fS.length:Int)),(19,rv (.pointer (some ⟨ha,0,none⟩))),(20,rv (.pointer (some ⟨ha,0,none⟩))),(21,rv (.pointer (some ⟨ha,0,none⟩))),(22,rS r1.2.fS),(23,rv (.pointer (some ⟨ha,0,none⟩))),(24,rv (.pointer (some ⟨ha,0,none⟩))),(25,rv (.pointer (some ⟨ha,1,none⟩))),(26,rI .i64 hb),(27,rI .u8 (AT r1.2.fS hb)),(40,rB ((decide ((AT r1.2.fS hb)<32))||(decide (126<(AT r1.2.fS hb)))))] [.blk ha [rS r1.2.fS,rI .i64 (hb+1),rv v4,rB r1.2.fGreat] 115,.row v4 78 4 (List.map Ab r1.2.fCells),.row hg 5 1 (List.map Bp hf)] ?_ ?_
      ·refine Aj (wm rfl (wv (Cp rfl rfl) (wm rfl (AH (decide ((AT r1.2.fS hb)<32)) (λhh=>?_) (λhh=>?_)))))
       ·refine wf hh (wf hh (wv (r:=rB true) (As (b:=decide ((AT r1.2.fS hb)<32)) rfl hh rfl) (wa rfl (Al ?_))));exact BO hh
       ·refine wo hh (wm rfl (wo hh (wv (Cl rfl rfl) (D4 rfl hh rfl (wa rfl (Al ?_))))));exact BO hh
      refine Ap (b:=((decide ((AT r1.2.fS hb)<32))||(decide (126<(AT r1.2.fS hb))))) rfl (λht=>?_) (λht=>?_)
      ·have hI:=AB ht hz;refine Ak (wv (r:=rS ([]:Ah)) (Ac rfl) (wv (r:=rB false) (Ac rfl) (Ar (Ax (A3 (Af (A3 (Af (Bc ?_)))))))));have hJ:=B1 hI hl hm;refine A3 (Af ?_);obtain rfl:=Az hJ;exact Aw (Dg PK (AJ rfl) (AJ rfl)) (sC (sC (sS sN))) ⟨v4,rfl,rfl⟩
      ·have h0:=AC ht hz;refine Ak (wm rfl (wv (B3 rfl rfl) (wa rfl (Ar (Ap (b:=decide ((AT r1.2.fS hb)=92)) rfl (λhu=>?_) (λhu=>?_))))))
       ·have hK:=AB hu h0;refine Am ?_;obtain⟨hw,h1⟩:=Av hK;refine AA [(0,rv (.pointer (some ⟨ha,0,none⟩))),(4,rv hg),(9,rv (.pointer (some ⟨ha,0,none⟩))),(10,rv (.pointer (some ⟨ha,0,none⟩))),(11,rv (.pointer (some ⟨ha,1,none⟩))),(12,rI .i64 hb),(13,rv (.pointer (some ⟨ha,0,none⟩))),(14,rv (.pointer (some ⟨ha,0,none⟩))),(15,rv (.pointer (some ⟨ha,0,none⟩))),(16,rS r1.2.fS),(17,rI .i64 (r1.2.fS.length:Int)),(19,rv (.pointer (some ⟨ha,0,none⟩))),(20,rv (.pointer (some ⟨ha,0,none⟩))),(21,rv (.pointer (some ⟨ha,0,none⟩))),(22,rS r1.2.fS),(23,rv (.pointer (some ⟨ha,0,none⟩))),(24,rv (.pointer (some ⟨ha,0,none⟩))),(25,rv (.pointer (some ⟨ha,1,none⟩))),(26,rI .i64 hb),(27,rI .u8 (AT r1.2.fS hb)),(50,rv (.pointer (some ⟨ha,0,none⟩))),(51,rv (.pointer (some ⟨ha,0,none⟩))),(52,rv (.pointer (some ⟨ha,1,none⟩))),(53,rI .i64 (hb+1)),(54,rv (.pointer (some ⟨ha,0,none⟩))),(55,rv (.pointer (some ⟨ha,0,none⟩))),(56,rv (.pointer (some ⟨ha,0,none⟩))),(57,rS r1.2.fS),(58,rI .i64 (r1.2.fS.length:Int)),(59,rB (decide ((r1.2.fS.length:Int)≤(hb+1)))),(60,rB (decide ((r1.2.fS.length:Int)≤(hb+1)))),(83,rB ((decide ((r1.2.fS.length:Int)≤(hb+1)))||((!decide ((AT r1.2.fS (hb+1))=34))&&(!decide ((AT r1.2.fS (hb+1))=92)))))] [.blk ha [rS r1.2.fS,rI .i64 (hb+1),rv v4,rB r1.2.fGreat] 115,.row v4 78 4 (List.map Ab r1.2.fCells),.row hg 5 1 (List.map Bp hf)] ?_ ?_
        ·refine AH (decide ((r1.2.fS.length:Int)≤(hb+1))) (λhd=>?_) (λhd=>?_)
         ·refine DI [0,4,9,10,11,12,13,14,15,16,17,19,20,21,22,23,24,25,26,27] [⟨[],rv (.pointer (some ⟨ha,0,none⟩)),0⟩,⟨[0],rv (.pointer (some ⟨ha,0,none⟩)),0⟩,⟨[1],rv (.pointer (some ⟨ha,1,none⟩)),0⟩,⟨[2],rI .i64 (hb+1),1⟩,⟨[],rv (.pointer (some ⟨ha,0,none⟩)),0⟩,⟨[4],rv (.pointer (some ⟨ha,0,none⟩)),0⟩,⟨[5],rv (.pointer (some ⟨ha,0,none⟩)),0⟩,⟨[6],rS r1.2.fS,1⟩,⟨[7],rI .i64 (r1.2.fS.length:Int),0⟩,⟨[3,8],rB (decide ((r1.2.fS.length:Int)≤(hb+1))),0⟩,⟨[9],rB (decide ((r1.2.fS.length:Int)≤(hb+1))),0⟩,⟨[10],rv undef,0⟩,⟨[11,10],rv undef,0⟩,⟨[12,10],rv undef,0⟩,⟨[13,10],rv undef,0⟩,⟨[10],rv undef,0⟩,⟨[15,10],rv undef,0⟩,⟨[16,10],rv undef,0⟩,⟨[17,10],rv undef,0⟩,⟨[14,18,10],rv undef,0⟩,⟨[19,10],rv undef,0⟩,⟨[20,10],rv undef,0⟩,⟨[21],rv undef,0⟩,⟨[22,21],rv undef,0⟩,⟨[23,21],rv undef,0⟩,⟨[24,21],rv undef,0⟩,⟨[21],rv undef,0⟩,⟨[26,21],rv undef,0⟩,⟨[27,21],rv undef,0⟩,⟨[28,21],rv undef,0⟩,⟨[25,29,21],rv undef,0⟩,⟨[30,21],rv undef,0⟩,⟨[21,31,10],rv undef,0⟩,⟨[10,32],rB true,0⟩] [50,51,52,53,54,55,56,57,58,59,60,61,62,63,64,65,66,67,68,69,70,71,72,73,74,75,76,77,78,79,80,81,82,83,0,4,9,10,11,12,13,14,15,16,17,19,20,21,22,23,24,25,26,27] ?_ ?_
          ·refine oq (Au rfl) (oq (A6 rfl) (oq (Ad B8 rfl Cu rfl rfl) (of (A0 (i:=0) Dd rfl rfl rfl) (oq (Au rfl) (oq (A6 rfl) (oq (Ad B8 rfl CV rfl rfl) (of (A0 (i:=0) Dn rfl rfl rfl) (oq (Bd BP rfl) (oq (Gs rfl rfl) (oq (Au rfl) (oz hd (oz hd (oz hd (oz hd (oz hd (oz hd (oz hd (oz hd (oz hd (oz hd (oz hd (ou (ou ?_)))))))))))))))))))))));refine ou (ou (ou (ou (ou (ou (ou (ou (oz hd (oq (As (b:=decide ((r1.2.fS.length:Int)≤(hb+1))) rfl hd rfl) ?_)))))))));exact CL
          exact BO hd
         ·refine AH (!decide ((AT r1.2.fS (hb+1))=34)) (λhe=>?_) (λhe=>?_)
          ·refine DI [0,4,9,10,11,12,13,14,15,16,17,19,20,21,22,23,24,25,26,27] [⟨[],rv (.pointer (some ⟨ha,0,none⟩)),0⟩,⟨[0],rv (.pointer (some ⟨ha,0,none⟩)),0⟩,⟨[1],rv (.pointer (some ⟨ha,1,none⟩)),0⟩,⟨[2],rI .i64 (hb+1),1⟩,⟨[],rv (.pointer (some ⟨ha,0,none⟩)),0⟩,⟨[4],rv (.pointer (some ⟨ha,0,none⟩)),0⟩,⟨[5],rv (.pointer (some ⟨ha,0,none⟩)),0⟩,⟨[6],rS r1.2.fS,1⟩,⟨[7],rI .i64 (r1.2.fS.length:Int),0⟩,⟨[3,8],rB (decide ((r1.2.fS.length:Int)≤(hb+1))),0⟩,⟨[9],rB (decide ((r1.2.fS.length:Int)≤(hb+1))),0⟩,⟨[10],rv (.pointer (some ⟨ha,0,none⟩)),0⟩,⟨[11,10],rv (.pointer (some ⟨ha,0,none⟩)),0⟩,⟨[12,10],rv (.pointer (some ⟨ha,0,none⟩)),0⟩,⟨[13,10],rS r1.2.fS,1⟩,⟨[10],rv (.pointer (some ⟨ha,0,none⟩)),0⟩,⟨[15,10],rv (.pointer (some ⟨ha,0,none⟩)),0⟩,⟨[16,10],rv (.pointer (some ⟨ha,1,none⟩)),0⟩,⟨[17,10],rI .i64 (hb+1),1⟩,⟨[14,18,10],rI .u8 (AT r1.2.fS (hb+1)),0⟩,⟨[19,10],rB (!decide ((AT r1.2.fS (hb+1))=34)),0⟩,⟨[20,10],rB (!decide ((AT r1.2.fS (hb+1))=34)),0⟩,⟨[21],rv (.pointer (some ⟨ha,0,none⟩)),0⟩,⟨[22,21],rv (.pointer (some ⟨ha,0,none⟩)),0⟩,⟨[23,21],rv (.pointer (some ⟨ha,0,none⟩)),0⟩,⟨[24,21],rS r1.2.fS,1⟩,⟨[21],rv (.pointer (some ⟨ha,0,none⟩)),0⟩,⟨[26,21],rv (.pointer (some ⟨ha,0,none⟩)),0⟩,⟨[27,21],rv (.pointer (some ⟨ha,1,none⟩)),0⟩,⟨[28,21],rI .i64 (hb+1),1⟩,⟨[25,29,21],rI .u8 (AT r1.2.fS (hb+1)),0⟩,⟨[30,21],rB (!decide ((AT r1.2.fS (hb+1))=92)),0⟩,⟨[21,31,10],rB (!decide ((AT r1.2.fS (hb+1))=92)),0⟩,⟨[10,32],rB (!decide ((AT r1.2.fS (hb+1))=92)),0⟩] [50,51,52,53,54,55,56,57,58,59,60,61,62,63,64,65,66,67,68,69,70,71,72,73,74,75,76,77,78,79,80,81,82,83,0,4,9,10,11,12,13,14,15,16,17,19,20,21,22,23,24,25,26,27] ?_ ?_
           ·refine oq (Au rfl) (oq (A6 rfl) (oq (Ad B8 rfl Cu rfl rfl) (of (A0 (i:=0) Dd rfl rfl rfl) (oq (Au rfl) (oq (A6 rfl) (oq (Ad B8 rfl CV rfl rfl) (of (A0 (i:=0) Dn rfl rfl rfl) (oq (Bd BP rfl) (oq (Gs rfl rfl) (oq (Au rfl) (on hd (oq (Au rfl) (on hd (oq (A6 rfl) (on hd (oq (Ad B8 rfl CV rfl rfl) (on hd (of (A0 (i:=0) Dn rfl rfl rfl) (on hd (oq (Au rfl) (on hd (oq (A6 rfl) (on hd ?_)))))))))))))))))))))));refine oq (Ad B8 rfl Cu rfl rfl) (on hd (of (A0 (i:=0) Dd rfl rfl rfl) (on hd (oq (AV BP rfl rfl (C4 hw hd)) (on hd (oq (CF rfl rfl) (on hd (oq (Au rfl) (on he (oq (Au rfl) (on he (oq (A6 rfl) (on he (oq (Ad B8 rfl CV rfl rfl) (on he (of (A0 (i:=0) Dn rfl rfl rfl) (on he (oq (Au rfl) (on he (oq (A6 rfl) (on he (oq (Ad B8 rfl Cu rfl rfl) (on he ?_)))))))))))))))))))))));refine of (A0 (i:=0) Dd rfl rfl rfl) (on he (oq (AV BP rfl rfl (C4 hw hd)) (on he (oq (CF rfl rfl) (on hd (oq (As rfl he rfl) (oq (A4 rfl hd rfl) ?_)))))));exact CL
           exact BO (And.intro hd he)
          ·refine DI [0,4,9,10,11,12,13,14,15,16,17,19,20,21,22,23,24,25,26,27] [⟨[],rv (.pointer (some ⟨ha,0,none⟩)),0⟩,⟨[0],rv (.pointer (some ⟨ha,0,none⟩)),0⟩,⟨[1],rv (.pointer (some ⟨ha,1,none⟩)),0⟩,⟨[2],rI .i64 (hb+1),1⟩,⟨[],rv (.pointer (some ⟨ha,0,none⟩)),0⟩,⟨[4],rv (.pointer (some ⟨ha,0,none⟩)),0⟩,⟨[5],rv (.pointer (some ⟨ha,0,none⟩)),0⟩,⟨[6],rS r1.2.fS,1⟩,⟨[7],rI .i64 (r1.2.fS.length:Int),0⟩,⟨[3,8],rB (decide ((r1.2.fS.length:Int)≤(hb+1))),0⟩,⟨[9],rB (decide ((r1.2.fS.length:Int)≤(hb+1))),0⟩,⟨[10],rv (.pointer (some ⟨ha,0,none⟩)),0⟩,⟨[11,10],rv (.pointer (some ⟨ha,0,none⟩)),0⟩,⟨[12,10],rv (.pointer (some ⟨ha,0,none⟩)),0⟩,⟨[13,10],rS r1.2.fS,1⟩,⟨[10],rv (.pointer (some ⟨ha,0,none⟩)),0⟩,⟨[15,10],rv (.pointer (some ⟨ha,0,none⟩)),0⟩,⟨[16,10],rv (.pointer (some ⟨ha,1,none⟩)),0⟩,⟨[17,10],rI .i64 (hb+1),1⟩,⟨[14,18,10],rI .u8 (AT r1.2.fS (hb+1)),0⟩,⟨[19,10],rB (!decide ((AT r1.2.fS (hb+1))=34)),0⟩,⟨[20,10],rB (!decide ((AT r1.2.fS (hb+1))=34)),0⟩,⟨[21],rv undef,0⟩,⟨[22,21],rv undef,0⟩,⟨[23,21],rv undef,0⟩,⟨[24,21],rv undef,0⟩,⟨[21],rv undef,0⟩,⟨[26,21],rv undef,0⟩,⟨[27,21],rv undef,0⟩,⟨[28,21],rv undef,0⟩,⟨[25,29,21],rv undef,0⟩,⟨[30,21],rv undef,0⟩,⟨[21,31,10],rB false,0⟩,⟨[10,32],rB false,0⟩] [50,51,52,53,54,55,56,57,58,59,60,61,62,63,64,65,66,67,68,69,70,71,72,73,74,75,76,77,78,79,80,81,82,83,0,4,9,10,11,12,13,14,15,16,17,19,20,21,22,23,24,25,26,27] ?_ ?_
           ·refine oq (Au rfl) (oq (A6 rfl) (oq (Ad B8 rfl Cu rfl rfl) (of (A0 (i:=0) Dd rfl rfl rfl) (oq (Au rfl) (oq (A6 rfl) (oq (Ad B8 rfl CV rfl rfl) (of (A0 (i:=0) Dn rfl rfl rfl) (oq (Bd BP rfl) (oq (Gs rfl rfl) (oq (Au rfl) (on hd (oq (Au rfl) (on hd (oq (A6 rfl) (on hd (oq (Ad B8 rfl CV rfl rfl) (on hd (of (A0 (i:=0) Dn rfl rfl rfl) (on hd (oq (Au rfl) (on hd (oq (A6 rfl) (on hd ?_)))))))))))))))))))))));refine oq (Ad B8 rfl Cu rfl rfl) (on hd (of (A0 (i:=0) Dd rfl rfl rfl) (on hd (oq (AV BP rfl rfl (C4 hw hd)) (on hd (oq (CF rfl rfl) (on hd (oq (Au rfl) (oz he (oz he (oz he (oz he (oz he (oz he (oz he (oz he (oz he (oz he (on hd (oq (A4 (b:=!decide ((AT r1.2.fS (hb+1))=34)) rfl he rfl) (oq (A4 rfl hd rfl) ?_)))))))))))))))))))));exact CL
           exact BO (And.intro hd he)
        refine Ap (b:=((decide ((r1.2.fS.length:Int)≤(hb+1)))||((!decide ((AT r1.2.fS (hb+1))=34))&&(!decide ((AT r1.2.fS (hb+1))=92))))) rfl (λhx=>?_) (λhx=>?_)
        ·have hL:=AB hx h1;refine Ak (wv (r:=rS ([]:Ah)) (Ac rfl) (wv (r:=rB false) (Ac rfl) (Ar (Ax (Af (A3 (Af (A3 (Af (Bc ?_))))))))));have hN:=B1 hL hl hm;refine A3 (Af ?_);obtain rfl:=Az hN;exact Aw (Dg PK (AJ rfl) (AJ rfl)) (sC (sC (sS sN))) ⟨v4,rfl,rfl⟩
        ·have hO:=AC hx h1;refine At (AN (Am ?_));obtain⟨hP,hQ⟩:=Av hO;refine DI [0,4,9,10,11,12,13,14,15,16,17,19,20,21,22,23,24,25,26,27,50,51,52,53,54,55,56,57,58,59,60] [⟨[],rv (.pointer (some ⟨ha,0,none⟩)),0⟩,⟨[0],rv (.pointer (some ⟨ha,0,none⟩)),0⟩,⟨[1],rv (.pointer (some ⟨ha,0,none⟩)),0⟩,⟨[2],rS r1.2.fS,1⟩,⟨[],rv (.pointer (some ⟨ha,0,none⟩)),0⟩,⟨[4],rv (.pointer (some ⟨ha,0,none⟩)),0⟩,⟨[5],rv (.pointer (some ⟨ha,1,none⟩)),0⟩,⟨[6],rI .i64 (hb+1),1⟩,⟨[3,7],rI .u8 (AT r1.2.fS (hb+1)),0⟩,⟨[8],rI .u8 (AT r1.2.fS (hb+1)),0⟩] [84,85,86,87,88,89,90,91,92,5,0,4,9,10,11,12,13,14,15,16,17,19,20,21,22,23,24,25,26,27,50,51,52,53,54,55,56,57,58,59,60] ?_ ?_
         ·refine oq (Au rfl) (oq (A6 rfl) (oq (Ad B8 rfl CV rfl rfl) (of (A0 (i:=0) Dn rfl rfl rfl) (oq (Au rfl) (oq (A6 rfl) (oq (Ad B8 rfl Cu rfl rfl) (of (A0 (i:=0) Dd rfl rfl rfl) (oq (AV BP rfl rfl hP) (oq (Ac rfl) ?_)))))))));exact CL
         refine AN (Aj (wm rfl (wv (A6 rfl) (wv (Ad B8 rfl Cu rfl rfl) (wv (A0 (i:=0) Dd rfl rfl rfl) ?_)))));obtain⟨hR,hS⟩:=Av hQ;exact wv (Bi rfl rfl hR) (wv (A6 rfl) (wv (Ad B8 rfl Cu rfl rfl) (BD (i:=0) Cu rfl rfl (Ck rfl) rfl rfl (cs':=[rS r1.2.fS,rI .i64 ((hb+1)+1),rv v4,rB r1.2.fGreat]) rfl (H':=[.blk ha [rS r1.2.fS,rI .i64 ((hb+1)+1),rv v4,rB r1.2.fGreat] 115,.row v4 78 4 (List.map Ab r1.2.fCells),.row hg 5 1 (List.map Bp hf)]) rfl (Al (AK (Aq (AG ((AT r1.2.fS (hb+1),(hb+1)+1),()) hS (AQ.c rfl (AQ.c5 rfl rfl rfl rfl rfl (AQ.c5 rfl rfl rfl rfl rfl (AQ.c5 rfl rfl rfl rfl rfl (AQ.c5 rfl rfl rfl rfl rfl AQ.nil))))) (sC (sC (sC sN))))))))))
       ·have hT:=AC hu h0;exact At (AK (Aq (AG ((AT r1.2.fS hb,hb+1),()) hT (AQ.c rfl (AQ.c5 rfl rfl rfl rfl rfl (AQ.c5 rfl rfl rfl rfl rfl (AQ.c5 rfl rfl rfl rfl rfl (AQ.c5 rfl rfl rfl rfl rfl AQ.nil))))) (sC (sC (sC sN))))))
    ·rintro⟨⟨hi,hn⟩,⟨⟩⟩ ho;refine Bb (l':=[(0,rv (.pointer (some ⟨ha,0,none⟩))),(4,rv hg),(5,rI .u8 hi),(9,rv (.pointer (some ⟨ha,0,none⟩))),(10,rv (.pointer (some ⟨ha,0,none⟩))),(11,rv (.pointer (some ⟨ha,1,none⟩))),(12,rI .i64 hb),(13,rv (.pointer (some ⟨ha,0,none⟩))),(14,rv (.pointer (some ⟨ha,0,none⟩))),(15,rv (.pointer (some ⟨ha,0,none⟩))),(16,rS r1.2.fS),(17,rI .i64 (r1.2.fS.length:Int)),(19,rv (.pointer (some ⟨ha,0,none⟩))),(20,rv (.pointer (some ⟨ha,0,none⟩))),(21,rv (.pointer (some ⟨ha,0,none⟩))),(22,rS r1.2.fS),(23,rv (.pointer (some ⟨ha,0,none⟩))),(24,rv (.pointer (some ⟨ha,0,none⟩))),(25,rv (.pointer (some ⟨ha,1,none⟩))),(26,rI .i64 hb),(27,rI .u8 (AT r1.2.fS hb))]) (H':=[.blk ha [rS r1.2.fS,rI .i64 hn,rv v4,rB r1.2.fGreat] 115,.row v4 78 4 (List.map Ab r1.2.fCells),.row hg 5 1 (List.map Bp hf)]) rfl rfl ?_;replace ho:Gn hf hi hn=some hq:=ho;unfold Gn at ho;refine Aj (wm rfl (wm rfl (AY (ys:=([hi]:List Int)) (enc:=Bp) (css:=[[rI .u8 hi]]) (xs:=[.tmp 101]) EB YG YF rfl rfl rfl ⟨Gw.one rfl (Up.refl _),trivial⟩ rfl Dr rfl rfl rfl (λhU=>?_))));obtain⟨hV,hW⟩:=Av ho;obtain⟨inf,hinf⟩:=Lp;refine BV (xs:=hf) (ys:=([hi]:List Int)) (enc:=Bp) (i:=3) EB hinf.1 hinf.2.1 hinf.2.2.1 hinf.2.2.2 rfl rfl rfl rfl rfl (JW.w (i:=0) rfl rfl) Dr I8 hV rfl (λh3=>?_);refine wa rfl (Al (AK (Ca (H2:=[.blk ha [rS r1.2.fS,rI .i64 hn,rv v4,rB r1.2.fGreat] 115,.row v4 78 4 (List.map Ab r1.2.fCells),.row h3 5 1 (List.map Bp (hf++([hi]:List Int))),.row (.slice (some ⟨hU,0,none⟩) 1 1) 5 1 (List.map Bp ([hi]:List Int))]) ((A9 (i:=2) rfl).trans (AaT _ ((A9 (i:=2) rfl).trans (AaT _ (AaP _))))) ?_)));have hX:=Bk hW hl;exact Aq (AG (hA,(hf++([hi]:List Int),hn),h3) ⟨hX,AaX _⟩ (AQ.c rfl (AQ.c rfl AQ.nil)) (sC (sC (sC (sS sN)))))
   ·have hY:=AC hr hk;refine B9 (A5 ?_);have hZ:=Cj hY hl hm;exact A5 (Br (AG (hb,()) hZ AQ.nil (sC (sC (sS sN)))))
  ·rintro⟨h4,⟨⟩⟩ hp;refine CR (l':=[]) (H':=[.blk ha [rS r1.2.fS,rI .i64 h4,rv v4,rB r1.2.fGreat] 115,.row v4 78 4 (List.map Ab r1.2.fCells)]) rfl rfl ?_;replace hp:Ip r1 h4=some r:=hp;unfold Ip at hp;refine Bm (AN (Ak (wv (r:=rS ([]:Ah)) (Ac rfl) (wv (r:=rB false) (Ac rfl) (Ar (Ax ?_))))));obtain rfl:=Az hp;exact Aw (Dg PK (AJ rfl) (AJ rfl)) (sC (sC sN)) ⟨v4,rfl,rfl⟩
theorem Xr (F:Nat)(ha:Nat)(hj:Value)(q:A1)(r:Bool×A1)(h:Na F q=some r):Fn Tryz.prog GE 147 [rv (.pointer (some ⟨ha,0,none⟩))] [.blk ha [rS q.fS,rI .i64 q.fAt,rv hj,rB q.fGreat] 115,.row hj 78 4 (List.map Ab q.fCells)] (λR H=>∃w0_2:Value,R=rB r.1∧H=[.blk ha [rS r.2.fS,rI .i64 r.2.fAt,rv w0_2,rB r.2.fGreat] 115,.row w0_2 78 4 (List.map Ab r.2.fCells)]):=by
 refine enter (n:=104) Tryz.func147 rfl Tryz.ntmps147 rfl (λw Z=>?_);refine Bb (l':=[(0,rv (.pointer (some ⟨ha,0,none⟩)))]) (H':=[.blk ha [rS q.fS,rI .i64 q.fAt,rv hj,rB q.fGreat] 115,.row hj 78 4 (List.map Ab q.fCells)]) rfl rfl ?_;unfold Na at h;refine Ak (wv (r:=rB false) (Ac rfl) (By (wm rfl (wv (A6 rfl) (wv (Ad B8 rfl Cu rfl rfl) (wv (A0 (i:=0) Dd rfl rfl rfl) (wa rfl (By (wm rfl ?_)))))))));obtain⟨r1,e3,h2⟩:=AL h;refine Gx (Hr:=[]) H7 (DK ha hj q ([45]:Ah) r1 e3) rfl (AaP _) rfl ?_;rintro _ _ ⟨v4,rfl,rfl⟩;refine By (wm rfl (wv (A6 rfl) (wv (Ad B8 rfl Cu rfl rfl) (wv (A0 (i:=0) Dd rfl rfl rfl) (wa rfl (Ar (Am (AO ?_))))))));obtain⟨ht,hu,hw⟩:=AL h2;refine BA (S:=Nat×(Int)×(Unit)) (V:=(Int)×(Unit)) 0 (λσ=>Cg (λσ=>ED r1 σ) σ.1 σ.2.1=some ht) (λσ=>[(0,rv (.pointer (some ⟨ha,0,none⟩))),(3,rI .i64 q.fAt),(4,rI .i64 r1.2.fAt)]) (λσ=>[.blk ha [rS r1.2.fS,rI .i64 σ.2.1,rv v4,rB r1.2.fGreat] 115,.row v4 78 4 (List.map Ab r1.2.fCells)]) (λσ=>σ.1) (F,r1.2.fAt,()) hu (AQ.c rfl (AQ.c rfl (AQ.c rfl AQ.nil))) (sC (sC sN)) (λσ=>Jh q r1 σ.1=some r) (λσ=>[(0,rv (.pointer (some ⟨ha,0,none⟩))),(3,rI .i64 q.fAt),(4,rI .i64 r1.2.fAt)]) (λσ=>[.blk ha [rS r1.2.fS,rI .i64 σ.1,rv v4,rB r1.2.fGreat] 115,.row v4 78 4 (List.map Ab r1.2.fCells)]) ?_ ?_
 ·rintro⟨hH,hd,⟨⟩⟩ hx;refine Bb (l':=[(0,rv (.pointer (some ⟨ha,0,none⟩))),(3,rI .i64 q.fAt),(4,rI .i64 r1.2.fAt)]) (H':=[.blk ha [rS r1.2.fS,rI .i64 hd,rv v4,rB r1.2.fGreat] 115,.row v4 78 4 (List.map Ab r1.2.fCells)]) rfl rfl ?_;obtain⟨hy,rfl,hz,hk,hp⟩:=CM hx;replace hk:ED r1 hd=some hz:=hk;unfold ED at hk;refine Am ?_;obtain⟨hm,hq⟩:=Av hk;refine AA [(0,rv (.pointer (some ⟨ha,0,none⟩))),(3,rI .i64 q.fAt),(4,rI .i64 r1.2.fAt),(17,rv (.pointer (some ⟨ha,0,none⟩))),(18,rv (.pointer (some ⟨ha,0,none⟩))),(19,rv (.pointer (some ⟨ha,1,none⟩))),(20,rI .i64 hd),(21,rv (.pointer (some ⟨ha,0,none⟩))),(22,rv (.pointer (some ⟨ha,0,none⟩))),(23,rv (.pointer (some ⟨ha,0,none⟩))),(24,rS r1.2.fS),(25,rI .i64 (r1.2.fS.length:Int)),(26,rB (decide (hd<(r1.2.fS.length:Int)))),(27,rB (decide (hd<(r1.2.fS.length:Int)))),(38,rB ((decide (hd<(r1.2.fS.length:Int)))&&(decide (48≤(AT r1.2.fS hd))))),(39,rB ((decide (hd<(r1.2.fS.length:Int)))&&(decide (48≤(AT r1.2.fS hd))))),(50,rB ((decide (hd<(r1.2.fS.length:Int)))&&((decide (48≤(AT r1.2.fS hd)))&&(decide ((AT r1.2.fS hd)≤57)))))] [.blk ha [rS r1.2.fS,rI .i64 hd,rv v4,rB r1.2.fGreat] 115,.row v4 78 4 (List.map Ab r1.2.fCells)] ?_ ?_
  ·refine AH (decide (hd<(r1.2.fS.length:Int))) (λhe=>?_) (λhe=>?_)
   ·refine AH (decide (48≤(AT r1.2.fS hd))) (λhf=>?_) (λhf=>?_)
    ·refine DI [0,3,4] [⟨[],rv (.pointer (some ⟨ha,0,none⟩)),0⟩,⟨[0],rv (.pointer (some ⟨ha,0,none⟩)),0⟩,⟨[1],rv (.pointer (some ⟨ha,1,none⟩)),0⟩,⟨[2],rI .i64 hd,1⟩,⟨[],rv (.pointer (some ⟨ha,0,none⟩)),0⟩,⟨[4],rv (.pointer (some ⟨ha,0,none⟩)),0⟩,⟨[5],rv (.pointer (some ⟨ha,0,none⟩)),0⟩,⟨[6],rS r1.2.fS,1⟩,⟨[7],rI .i64 (r1.2.fS.length:Int),0⟩,⟨[3,8],rB (decide (hd<(r1.2.fS.length:Int))),0⟩,⟨[9],rB (decide (hd<(r1.2.fS.length:Int))),0⟩,⟨[10],rv (.pointer (some ⟨ha,0,none⟩)),0⟩,⟨[11,10],rv (.pointer (some ⟨ha,0,none⟩)),0⟩,⟨[12,10],rv (.pointer (some ⟨ha,0,none⟩)),0⟩,⟨[13,10],rS r1.2.fS,1⟩,⟨[10],rv (.pointer (some ⟨ha,0,none⟩)),0⟩,⟨[15,10],rv (.pointer (some ⟨ha,0,none⟩)),0⟩,⟨[16,10],rv (.pointer (some ⟨ha,1,none⟩)),0⟩,⟨[17,10],rI .i64 hd,1⟩,⟨[14,18,10],rI .u8 (AT r1.2.fS hd),0⟩,⟨[19,10],rB (decide (48≤(AT r1.2.fS hd))),0⟩,⟨[10,20],rB (decide (48≤(AT r1.2.fS hd))),0⟩,⟨[21],rB (decide (48≤(AT r1.2.fS hd))),0⟩,⟨[22],rv (.pointer (some ⟨ha,0,none⟩)),0⟩,⟨[23,22],rv (.pointer (some ⟨ha,0,none⟩)),0⟩,⟨[24,22],rv (.pointer (some ⟨ha,0,none⟩)),0⟩,⟨[25,22],rS r1.2.fS,1⟩,⟨[22],rv (.pointer (some ⟨ha,0,none⟩)),0⟩,⟨[27,22],rv (.pointer (some ⟨ha,0,none⟩)),0⟩,⟨[28,22],rv (.pointer (some ⟨ha,1,none⟩)),0⟩,⟨[29,22],rI .i64 hd,1⟩,⟨[26,30,22],rI .u8 (AT r1.2.fS hd),0⟩,⟨[31,22],rB (decide ((AT r1.2.fS hd)≤57)),0⟩,⟨[22,32],rB (decide ((AT r1.2.fS hd)≤57)),0⟩] [17,18,19,20,21,22,23,24,25,26,27,28,29,30,31,32,33,34,35,36,37,38,39,40,41,42,43,44,45,46,47,48,49,50,0,3,4] ?_ ?_
     ·refine oq (Au rfl) (oq (A6 rfl) (oq (Ad B8 rfl Cu rfl rfl) (of (A0 (i:=0) Dd rfl rfl rfl) (oq (Au rfl) (oq (A6 rfl) (oq (Ad B8 rfl CV rfl rfl) (of (A0 (i:=0) Dn rfl rfl rfl) (oq (Bd BP rfl) (oq (Cp rfl rfl) (oq (Au rfl) (on he (oq (Au rfl) (on he (oq (A6 rfl) (on he (oq (Ad B8 rfl CV rfl rfl) (on he (of (A0 (i:=0) Dn rfl rfl rfl) (on he (oq (Au rfl) (on he (oq (A6 rfl) (on he ?_)))))))))))))))))))))));refine oq (Ad B8 rfl Cu rfl rfl) (on he (of (A0 (i:=0) Dd rfl rfl rfl) (on he (oq (AV BP rfl rfl (C0 hm he)) (on he (oq (Gs rfl rfl) (oq (As rfl he rfl) (oq (Au rfl) (on hf (oq (Au rfl) (on hf (oq (A6 rfl) (on hf (oq (Ad B8 rfl CV rfl rfl) (on hf (of (A0 (i:=0) Dn rfl rfl rfl) (on hf (oq (Au rfl) (on hf (oq (A6 rfl) (on hf (oq (Ad B8 rfl Cu rfl rfl) (on hf ?_)))))))))))))))))))))));refine of (A0 (i:=0) Dd rfl rfl rfl) (on hf (oq (AV BP rfl rfl (C0 hm he)) (on hf (oq (II rfl rfl) (oq (As rfl hf rfl) ?_)))));exact CL
     exact BO (And.intro he hf)
    ·refine DI [0,3,4] [⟨[],rv (.pointer (some ⟨ha,0,none⟩)),0⟩,⟨[0],rv (.pointer (some ⟨ha,0,none⟩)),0⟩,⟨[1],rv (.pointer (some ⟨ha,1,none⟩)),0⟩,⟨[2],rI .i64 hd,1⟩,⟨[],rv (.pointer (some ⟨ha,0,none⟩)),0⟩,⟨[4],rv (.pointer (some ⟨ha,0,none⟩)),0⟩,⟨[5],rv (.pointer (some ⟨ha,0,none⟩)),0⟩,⟨[6],rS r1.2.fS,1⟩,⟨[7],rI .i64 (r1.2.fS.length:Int),0⟩,⟨[3,8],rB (decide (hd<(r1.2.fS.length:Int))),0⟩,⟨[9],rB (decide (hd<(r1.2.fS.length:Int))),0⟩,⟨[10],rv (.pointer (some ⟨ha,0,none⟩)),0⟩,⟨[11,10],rv (.pointer (some ⟨ha,0,none⟩)),0⟩,⟨[12,10],rv (.pointer (some ⟨ha,0,none⟩)),0⟩,⟨[13,10],rS r1.2.fS,1⟩,⟨[10],rv (.pointer (some ⟨ha,0,none⟩)),0⟩,⟨[15,10],rv (.pointer (some ⟨ha,0,none⟩)),0⟩,⟨[16,10],rv (.pointer (some ⟨ha,1,none⟩)),0⟩,⟨[17,10],rI .i64 hd,1⟩,⟨[14,18,10],rI .u8 (AT r1.2.fS hd),0⟩,⟨[19,10],rB (decide (48≤(AT r1.2.fS hd))),0⟩,⟨[10,20],rB (decide (48≤(AT r1.2.fS hd))),0⟩,⟨[21],rB (decide (48≤(AT r1.2.fS hd))),0⟩,⟨[22],rv undef,0⟩,⟨[23,22],rv undef,0⟩,⟨[24,22],rv undef,0⟩,⟨[25,22],rv undef,0⟩,⟨[22],rv undef,0⟩,⟨[27,22],rv undef,0⟩,⟨[28,22],rv undef,0⟩,⟨[29,22],rv undef,0⟩,⟨[26,30,22],rv undef,0⟩,⟨[31,22],rv undef,0⟩,⟨[22,32],rB false,0⟩] [17,18,19,20,21,22,23,24,25,26,27,28,29,30,31,32,33,34,35,36,37,38,39,40,41,42,43,44,45,46,47,48,49,50,0,3,4] ?_ ?_
     ·refine oq (Au rfl) (oq (A6 rfl) (oq (Ad B8 rfl Cu rfl rfl) (of (A0 (i:=0) Dd rfl rfl rfl) (oq (Au rfl) (oq (A6 rfl) (oq (Ad B8 rfl CV rfl rfl) (of (A0 (i:=0) Dn rfl rfl rfl) (oq (Bd BP rfl) (oq (Cp rfl rfl) (oq (Au rfl) (on he (oq (Au rfl) (on he (oq (A6 rfl) (on he (oq (Ad B8 rfl CV rfl rfl) (on he (of (A0 (i:=0) Dn rfl rfl rfl) (on he (oq (Au rfl) (on he (oq (A6 rfl) (on he ?_)))))))))))))))))))))));refine oq (Ad B8 rfl Cu rfl rfl) (on he (of (A0 (i:=0) Dd rfl rfl rfl) (on he (oq (AV BP rfl rfl (C0 hm he)) (on he (oq (Gs rfl rfl) (oq (As rfl he rfl) (oq (Au rfl) (oz hf (oz hf (oz hf (oz hf (oz hf (oz hf (oz hf (oz hf (oz hf (oz hf (oq (A4 (b:=decide (48≤(AT r1.2.fS hd))) rfl hf rfl) ?_)))))))))))))))))));exact CL
     exact BO (And.intro he hf)
   ·refine DI [0,3,4] [⟨[],rv (.pointer (some ⟨ha,0,none⟩)),0⟩,⟨[0],rv (.pointer (some ⟨ha,0,none⟩)),0⟩,⟨[1],rv (.pointer (some ⟨ha,1,none⟩)),0⟩,⟨[2],rI .i64 hd,1⟩,⟨[],rv (.pointer (some ⟨ha,0,none⟩)),0⟩,⟨[4],rv (.pointer (some ⟨ha,0,none⟩)),0⟩,⟨[5],rv (.pointer (some ⟨ha,0,none⟩)),0⟩,⟨[6],rS r1.2.fS,1⟩,⟨[7],rI .i64 (r1.2.fS.length:Int),0⟩,⟨[3,8],rB (decide (hd<(r1.2.fS.length:Int))),0⟩,⟨[9],rB (decide (hd<(r1.2.fS.length:Int))),0⟩,⟨[10],rv undef,0⟩,⟨[11,10],rv undef,0⟩,⟨[12,10],rv undef,0⟩,⟨[13,10],rv undef,0⟩,⟨[10],rv undef,0⟩,⟨[15,10],rv undef,0⟩,⟨[16,10],rv undef,0⟩,⟨[17,10],rv undef,0⟩,⟨[14,18,10],rv undef,0⟩,⟨[19,10],rv undef,0⟩,⟨[10,20],rB false,0⟩,⟨[21],rB false,0⟩,⟨[22],rv undef,0⟩,⟨[23,22],rv undef,0⟩,⟨[24,22],rv undef,0⟩,⟨[25,22],rv undef,0⟩,⟨[22],rv undef,0⟩,⟨[27,22],rv undef,0⟩,⟨[28,22],rv undef,0⟩,⟨[29,22],rv undef,0⟩,⟨[26,30,22],rv undef,0⟩,⟨[31,22],rv undef,0⟩,⟨[22,32],rB false,0⟩] [17,18,19,20,21,22,23,24,25,26,27,28,29,30,31,32,33,34,35,36,37,38,39,40,41,42,43,44,45,46,47,48,49,50,0,3,4] ?_ ?_
    ·refine oq (Au rfl) (oq (A6 rfl) (oq (Ad B8 rfl Cu rfl rfl) (of (A0 (i:=0) Dd rfl rfl rfl) (oq (Au rfl) (oq (A6 rfl) (oq (Ad B8 rfl CV rfl rfl) (of (A0 (i:=0) Dn rfl rfl rfl) (oq (Bd BP rfl) (oq (Cp rfl rfl) (oq (Au rfl) (oz he (oz he (oz he (oz he (oz he (oz he (oz he (oz he (oz he (oz he (oq (A4 (b:=decide (hd<(r1.2.fS.length:Int))) rfl he rfl) (oq (Au rfl) (oz rfl ?_)))))))))))))))))))))));refine oz rfl (oz rfl (oz rfl (oz rfl (oz rfl (oz rfl (oz rfl (oz rfl (oz rfl (oq (A4 (b:=false) rfl rfl rfl) ?_)))))))));exact CL
    exact BO he
  refine Ap (b:=((decide (hd<(r1.2.fS.length:Int)))&&((decide (48≤(AT r1.2.fS hd)))&&(decide ((AT r1.2.fS hd)≤57))))) rfl (λhn=>?_) (λhn=>?_)
  ·have h0:=AB hn hq;refine At (AN (AO (Aj (wm rfl (wv (A6 rfl) (wv (Ad B8 rfl Cu rfl rfl) (wv (A0 (i:=0) Dd rfl rfl rfl) ?_)))))));obtain⟨h1,h3⟩:=Av h0;refine wv (Bi rfl rfl h1) (wv (A6 rfl) (wv (Ad B8 rfl Cu rfl rfl) (BD (i:=0) Cu rfl rfl (Ck rfl) rfl rfl (cs':=[rS r1.2.fS,rI .i64 (hd+1),rv v4,rB r1.2.fGreat]) rfl (H':=[.blk ha [rS r1.2.fS,rI .i64 (hd+1),rv v4,rB r1.2.fGreat] 115,.row v4 78 4 (List.map Ab r1.2.fCells)]) rfl (Al (AK ?_)))));have h4:=Bk h3 hp;exact Aq (AG (hy,hd+1,()) ⟨h4,AaX _⟩ (AQ.c rfl (AQ.c rfl (AQ.c rfl AQ.nil))) (sC (sC sN)))
  ·have h5:=AC hn hq;refine B9 (A5 ?_);have h6:=Cj h5 hp hw;exact A5 (Br (AG (hd,()) h6 (AQ.c rfl (AQ.c rfl (AQ.c rfl AQ.nil))) (sC (sC sN))))
 ·rintro⟨hb,⟨⟩⟩ hl;refine CR (l':=[(0,rv (.pointer (some ⟨ha,0,none⟩))),(3,rI .i64 q.fAt),(4,rI .i64 r1.2.fAt)]) (H':=[.blk ha [rS r1.2.fS,rI .i64 hb,rv v4,rB r1.2.fGreat] 115,.row v4 78 4 (List.map Ab r1.2.fCells)]) rfl rfl ?_;replace hl:Jh q r1 hb=some r:=hl;unfold Jh at hl;refine Bm (AN (Am ?_));obtain⟨h7,h8⟩:=Av hl;obtain⟨h9,hA⟩:=Av h8;obtain⟨hB,hr⟩:=Av hA;refine DI [0,3,4] [⟨[],rv (.pointer (some ⟨ha,0,none⟩)),0⟩,⟨[0],rv (.pointer (some ⟨ha,0,none⟩)),0⟩,⟨[1],rv (.pointer (some ⟨ha,0,none⟩)),0⟩,⟨[2],rS r1.2.fS,1⟩,⟨[],rI .i64 q.fAt,0⟩,⟨[],rv (.pointer (some ⟨ha,0,none⟩)),0⟩,⟨[5],rv (.pointer (some ⟨ha,0,none⟩)),0⟩,⟨[6],rv (.pointer (some ⟨ha,1,none⟩)),0⟩,⟨[7],rI .i64 hb,1⟩,⟨[3,4,8],rS (List.take (Int.toNat hb-Int.toNat q.fAt) (List.drop (Int.toNat q.fAt) r1.2.fS)),0⟩,⟨[9],C5 [rI .i64 (Bt (List.take (Int.toNat hb-Int.toNat q.fAt) (List.drop (Int.toNat q.fAt) r1.2.fS))),rI .i64 (B6 (List.take (Int.toNat hb-Int.toNat q.fAt) (List.drop (Int.toNat q.fAt) r1.2.fS)))],0⟩,⟨[10],C5 [rI .i64 (Bt (List.take (Int.toNat hb-Int.toNat q.fAt) (List.drop (Int.toNat q.fAt) r1.2.fS))),rI .i64 (B6 (List.take (Int.toNat hb-Int.toNat q.fAt) (List.drop (Int.toNat q.fAt) r1.2.fS)))],0⟩,⟨[11],rI .i64 (Bt (List.take (Int.toNat hb-Int.toNat q.fAt) (List.drop (Int.toNat q.fAt) r1.2.fS))),0⟩,⟨[11],rI .i64 (B6 (List.take (Int.toNat hb-Int.toNat q.fAt) (List.drop (Int.toNat q.fAt) r1.2.fS))),0⟩,⟨[12],rI .i64 (Bt (List.take (Int.toNat hb-Int.toNat q.fAt) (List.drop (Int.toNat q.fAt) r1.2.fS))),0⟩,⟨[13],rI .i64 (B6 (List.take (Int.toNat hb-Int.toNat q.fAt) (List.drop (Int.toNat q.fAt) r1.2.fS))),0⟩] [5,6,0,4] ?_ ?_
  ·refine oq (Au rfl) (oq (A6 rfl) (oq (Ad B8 rfl CV rfl rfl) (of (A0 (i:=0) Dn rfl rfl rfl) (oq (Au rfl) (oq (Au rfl) (oq (A6 rfl) (oq (Ad B8 rfl Cu rfl rfl) (of (A0 (i:=0) Dd rfl rfl rfl) (oq (DN BP rfl rfl rfl h7 h9) (GX rfl (λH=>Jr (rs:=[rS (List.take (Int.toNat hb-Int.toNat q.fAt) (List.drop (Int.toNat q.fAt) r1.2.fS))]) (r:=C5 [rI .i64 (Bt (List.take (Int.toNat hb-Int.toNat q.fAt) (List.drop (Int.toNat q.fAt) r1.2.fS))),rI .i64 (B6 (List.take (Int.toNat hb-Int.toNat q.fAt) (List.drop (Int.toNat q.fAt) r1.2.fS)))]) Tryz.call53 rfl (SD (List.take (Int.toNat hb-Int.toNat q.fAt) (List.drop (Int.toNat q.fAt) r1.2.fS)) hB) rfl) ?_))))))))));refine oq (Au rfl) (oq (AF rfl rfl) (oq (AF rfl rfl) (oq (Ac rfl) (oq (Ac rfl) ?_))));exact CL
  refine AN (Am (AA [(0,rv (.pointer (some ⟨ha,0,none⟩))),(5,rI .i64 (Bt (List.take (Int.toNat hb-Int.toNat q.fAt) (List.drop (Int.toNat q.fAt) r1.2.fS)))),(6,rI .i64 (B6 (List.take (Int.toNat hb-Int.toNat q.fAt) (List.drop (Int.toNat q.fAt) r1.2.fS)))),(81,rB ((decide ((B6 (List.take (Int.toNat hb-Int.toNat q.fAt) (List.drop (Int.toNat q.fAt) r1.2.fS)))=1))||(decide (r1.2.fAt=hb))))] [.blk ha [rS r1.2.fS,rI .i64 hb,rv v4,rB r1.2.fGreat] 115,.row v4 78 4 (List.map Ab r1.2.fCells)] ?_ ?_))
  ·refine Aj (wm rfl (wv (B3 rfl rfl) (wm rfl (AH (decide ((B6 (List.take (Int.toNat hb-Int.toNat q.fAt) (List.drop (Int.toNat q.fAt) r1.2.fS)))=1)) (λhg=>?_) (λhg=>?_)))))
   ·refine wf hg (wf hg (wf hg (wf hg (wf hg (wf hg (wv (r:=rB true) (As (b:=decide ((B6 (List.take (Int.toNat hb-Int.toNat q.fAt) (List.drop (Int.toNat q.fAt) r1.2.fS)))=1)) rfl hg rfl) (Al ?_)))))));exact BO hg
   ·refine wo hg (wm rfl (wo hg (wm rfl (wo hg (wv (A6 rfl) (wo hg (wv (Ad B8 rfl Cu rfl rfl) (wo hg (wv (A0 (i:=0) Dd rfl rfl rfl) (wo hg (wv (B3 rfl rfl) (D4 rfl hg rfl (Al ?_)))))))))))));exact BO hg
  refine Ap (b:=((decide ((B6 (List.take (Int.toNat hb-Int.toNat q.fAt) (List.drop (Int.toNat q.fAt) r1.2.fS)))=1))||(decide (r1.2.fAt=hb)))) rfl (λho=>?_) (λho=>?_)
  ·have hC:=AB ho hr;refine Ak (wv (r:=rB false) (Ac rfl) (Ar (Ax (Af ?_))));obtain rfl:=Az hC;exact Aw (BS Tryz.results147 (AJ rfl)) (sC (sC sN)) ⟨v4,rfl,rfl⟩
  ·have hD:=AC ho hr;refine At (AN (AA [(0,rv (.pointer (some ⟨ha,0,none⟩))),(5,rI .i64 (Bt (List.take (Int.toNat hb-Int.toNat q.fAt) (List.drop (Int.toNat q.fAt) r1.2.fS))))] [.blk ha [rS r1.2.fS,rI .i64 hb,rv v4,rB (r1.2.fGreat||(!decide ((B6 (List.take (Int.toNat hb-Int.toNat q.fAt) (List.drop (Int.toNat q.fAt) r1.2.fS)))=0)))] 115,.row v4 78 4 (List.map Ab r1.2.fCells)] ?_ ?_))
   ·refine Aj (wm rfl (wm rfl (wv (A6 rfl) (wv (Ad B8 rfl HO rfl rfl) (wv (A0 (i:=0) Sk rfl rfl rfl) (wm rfl (AH (r1.2.fGreat) (λhh=>?_) (λhh=>?_))))))))
    ·refine wf hh (wf hh (wv (r:=rB true) (As (b:=r1.2.fGreat) rfl hh rfl) (wv (A6 rfl) (wv (Ad B8 rfl HO rfl rfl) (BD (i:=0) HO rfl rfl (Ck rfl) rfl rfl (cs':=[rS r1.2.fS,rI .i64 hb,rv v4,rB true]) rfl (H':=[.blk ha [rS r1.2.fS,rI .i64 hb,rv v4,rB true] 115,.row v4 78 4 (List.map Ab r1.2.fCells)]) rfl (Al (H9 (H':=[.blk ha [rS r1.2.fS,rI .i64 hb,rv v4,rB (r1.2.fGreat||(!decide ((B6 (List.take (Int.toNat hb-Int.toNat q.fAt) (List.drop (Int.toNat q.fAt) r1.2.fS)))=0)))] 115,.row v4 78 4 (List.map Ab r1.2.fCells)]) (by simp only[hh,AaW,Abc,Abm,AaZ,Abf,Abe,Abl,Abg,AaV,Abd,AaQ,AaN]) ?_)))))));exact wt
    ·refine wo hh (wm rfl (wo hh (wv (CF rfl rfl) (D4 rfl hh rfl (wv (A6 rfl) (wv (Ad B8 rfl HO rfl rfl) (BD (i:=0) HO rfl rfl (Ck rfl) rfl rfl (cs':=[rS r1.2.fS,rI .i64 hb,rv v4,rB (!decide ((B6 (List.take (Int.toNat hb-Int.toNat q.fAt) (List.drop (Int.toNat q.fAt) r1.2.fS)))=0))]) rfl (H':=[.blk ha [rS r1.2.fS,rI .i64 hb,rv v4,rB (!decide ((B6 (List.take (Int.toNat hb-Int.toNat q.fAt) (List.drop (Int.toNat q.fAt) r1.2.fS)))=0))] 115,.row v4 78 4 (List.map Ab r1.2.fCells)]) rfl (Al (H9 (H':=[.blk ha [rS r1.2.fS,rI .i64 hb,rv v4,rB (r1.2.fGreat||(!decide ((B6 (List.take (Int.toNat hb-Int.toNat q.fAt) (List.drop (Int.toNat q.fAt) r1.2.fS)))=0)))] 115,.row v4 78 4 (List.map Ab r1.2.fCells)]) (by simp only[hh,AaW,Abc,Abm,AaZ,Abf,Abe,Abl,Abg,AaV,Abd,AaQ,AaN]) ?_)))))))));exact wt
   refine Ak (wm rfl (wm rfl (wv (A6 rfl) (wv (Ad B8 rfl Ds rfl rfl) (wv (A0 (i:=0) GK rfl rfl rfl) (wm rfl (wv (r:=Bz [rI .i64 3,rI .i64 (Bt (List.take (Int.toNat hb-Int.toNat q.fAt) (List.drop (Int.toNat q.fAt) r1.2.fS))),rS ([]:Ah),rI .i64 0]) (Cm rfl rfl rfl rfl) (AY (ys:=([(Aa.mk 3 (Bt (List.take (Int.toNat hb-Int.toNat q.fAt) (List.drop (Int.toNat q.fAt) r1.2.fS))) ([]:Ah) 0)]:List Aa)) (enc:=Ab) (css:=[[rI .i64 3,rI .i64 (Bt (List.take (Int.toNat hb-Int.toNat q.fAt) (List.drop (Int.toNat q.fAt) r1.2.fS))),rS ([]:Ah),rI .i64 0]]) (xs:=[.tmp 99]) BN Cb EA rfl rfl rfl ⟨Gw.agg ⟨Up.refl _,Up.refl _,Up.refl _,Up.refl _,trivial⟩,trivial⟩ rfl AU rfl rfl rfl (λhs=>?_)))))))));obtain⟨hE,hG⟩:=Av hD;obtain⟨inf,hinf⟩:=Er;refine BV (xs:=r1.2.fCells) (ys:=([(Aa.mk 3 (Bt (List.take (Int.toNat hb-Int.toNat q.fAt) (List.drop (Int.toNat q.fAt) r1.2.fS))) ([]:Ah) 0)]:List Aa)) (enc:=Ab) (i:=2) BN hinf.1 hinf.2.1 hinf.2.2.1 hinf.2.2.2 rfl rfl rfl rfl rfl (JW.w (i:=0) rfl rfl) AU BF hE rfl (λhi=>?_);refine wv (A6 rfl) (wv (Ad B8 rfl Ds rfl rfl) (BD (i:=2) Ds rfl rfl (E6 (i:=0) rfl) rfl rfl (cs':=[rS r1.2.fS,rI .i64 hb,rv hi,rB (r1.2.fGreat||(!decide ((B6 (List.take (Int.toNat hb-Int.toNat q.fAt) (List.drop (Int.toNat q.fAt) r1.2.fS)))=0)))]) rfl (H':=[.row hi 78 4 (List.map Ab (r1.2.fCells++([(Aa.mk 3 (Bt (List.take (Int.toNat hb-Int.toNat q.fAt) (List.drop (Int.toNat q.fAt) r1.2.fS))) ([]:Ah) 0)]:List Aa))),.row (.slice (some ⟨hs,0,none⟩) 1 1) 78 4 (List.map Ab ([(Aa.mk 3 (Bt (List.take (Int.toNat hb-Int.toNat q.fAt) (List.drop (Int.toNat q.fAt) r1.2.fS))) ([]:Ah) 0)]:List Aa)),.blk ha [rS r1.2.fS,rI .i64 hb,rv hi,rB (r1.2.fGreat||(!decide ((B6 (List.take (Int.toNat hb-Int.toNat q.fAt) (List.drop (Int.toNat q.fAt) r1.2.fS)))=0)))] 115]) rfl (By (wv (r:=rB true) (Ac rfl) (Ar (Ax (Ca (H2:=[.blk ha [rS r1.2.fS,rI .i64 hb,rv hi,rB (r1.2.fGreat||(!decide ((B6 (List.take (Int.toNat hb-Int.toNat q.fAt) (List.drop (Int.toNat q.fAt) r1.2.fS)))=0)))] 115,.row hi 78 4 (List.map Ab (r1.2.fCells++([(Aa.mk 3 (Bt (List.take (Int.toNat hb-Int.toNat q.fAt) (List.drop (Int.toNat q.fAt) r1.2.fS))) ([]:Ah) 0)]:List Aa))),.row (.slice (some ⟨hs,0,none⟩) 1 1) 78 4 (List.map Ab ([(Aa.mk 3 (Bt (List.take (Int.toNat hb-Int.toNat q.fAt) (List.drop (Int.toNat q.fAt) r1.2.fS))) ([]:Ah) 0)]:List Aa))]) ((A9 (i:=2) rfl).trans (AaT _ (AaP _))) ?_)))))));obtain rfl:=Az hG;exact Aw (BS Tryz.results147 (AJ rfl)) (sC (sC (sS sN))) ⟨hi,rfl,rfl⟩
theorem Rw (F:Nat)(hb:Nat)(hj:Value)(q:A1)(r:Bool×A1)(h:Iq F q=some r):Fn Tryz.prog GE 118 [rv (.pointer (some ⟨hb,0,none⟩))] [.blk hb [rS q.fS,rI .i64 q.fAt,rv hj,rB q.fGreat] 115,.row hj 78 4 (List.map Ab q.fCells)] (λR H=>∃w0_2:Value,R=rB r.1∧H=[.blk hb [rS r.2.fS,rI .i64 r.2.fAt,rv w0_2,rB r.2.fGreat] 115,.row w0_2 78 4 (List.map Ab r.2.fCells)]):=by
 refine enter (n:=75) Tryz.func118 rfl Tryz.ntmps118 rfl (λw Z=>?_);refine Bb (l':=[(0,rv (.pointer (some ⟨hb,0,none⟩)))]) (H':=[.blk hb [rS q.fS,rI .i64 q.fAt,rv hj,rB q.fGreat] 115,.row hj 78 4 (List.map Ab q.fCells)]) rfl rfl ?_;unfold Iq at h;refine Ak (wv (r:=rB false) (Ac rfl) (Ar (Dz (S:=(Ah×Int×(List Aa)×Bool)×(Value)) (λσ=>Eb σ.1.1 σ.1.2.1 σ.1.2.2.1 σ.1.2.2.2=some r) (λσ=>[]) (λσ=>[.blk hb [rS σ.1.1,rI .i64 σ.1.2.1,rv σ.2,rB σ.1.2.2.2] 115,.row σ.2 78 4 (List.map Ab σ.1.2.2.1)]) ?_ ?_)))
 ·refine AO (Ak (wm rfl ?_));obtain⟨he,h7,hs⟩:=AL h;refine Gx (Hr:=[]) H7 (DK hb hj q ([110,117,108,108]:Ah) he h7) rfl (AaP _) rfl ?_;rintro _ _ ⟨h8,rfl,rfl⟩;refine wa rfl (Ar (Ap (b:=he.1) rfl (λhm=>?_) (λhm=>?_)))
  ·have h9:=AB hm hs;refine Aj (wm rfl (wm rfl (wv (A6 rfl) (wv (Ad B8 rfl Ds rfl rfl) (wv (A0 (i:=0) GK rfl rfl rfl) (wv (r:=Bz [rI .i64 1,rI .i64 0,rS ([]:Ah),rI .i64 0]) (DF rfl rfl) (AY (ys:=([(Aa.mk 1 0 ([]:Ah) 0)]:List Aa)) (enc:=Ab) (css:=[[rI .i64 1,rI .i64 0,rS ([]:Ah),rI .i64 0]]) (xs:=[.tmp 15]) BN Cb EA rfl rfl rfl ⟨Gw.agg ⟨Up.refl _,Up.refl _,Up.refl _,Up.refl _,trivial⟩,trivial⟩ rfl AU rfl rfl rfl (λht=>?_))))))));obtain⟨hA,hB⟩:=Av h9;obtain⟨inf,hinf⟩:=Er;refine BV (xs:=he.2.fCells) (ys:=([(Aa.mk 1 0 ([]:Ah) 0)]:List Aa)) (enc:=Ab) (i:=2) BN hinf.1 hinf.2.1 hinf.2.2.1 hinf.2.2.2 rfl rfl rfl rfl rfl (JW.w (i:=0) rfl rfl) AU BF hA rfl (λhg=>?_);exact wv (A6 rfl) (wv (Ad B8 rfl Ds rfl rfl) (BD (i:=2) Ds rfl rfl (E6 (i:=0) rfl) rfl rfl (cs':=[rS he.2.fS,rI .i64 he.2.fAt,rv hg,rB he.2.fGreat]) rfl (H':=[.row hg 78 4 (List.map Ab (he.2.fCells++([(Aa.mk 1 0 ([]:Ah) 0)]:List Aa))),.row (.slice (some ⟨ht,0,none⟩) 1 1) 78 4 (List.map Ab ([(Aa.mk 1 0 ([]:Ah) 0)]:List Aa)),.blk hb [rS he.2.fS,rI .i64 he.2.fAt,rv hg,rB he.2.fGreat] 115]) rfl (Al (AK (Ca (H2:=[.blk hb [rS he.2.fS,rI .i64 he.2.fAt,rv hg,rB he.2.fGreat] 115,.row hg 78 4 (List.map Ab (he.2.fCells++([(Aa.mk 1 0 ([]:Ah) 0)]:List Aa))),.row (.slice (some ⟨ht,0,none⟩) 1 1) 78 4 (List.map Ab ([(Aa.mk 1 0 ([]:Ah) 0)]:List Aa))]) ((A9 (i:=2) rfl).trans (AaT _ (AaP _))) (Aq (AG ((he.2.fS,he.2.fAt,he.2.fCells++([(Aa.mk 1 0 ([]:Ah) 0)]:List Aa),he.2.fGreat),hg) hB AQ.nil (sC (sC (sS sN))))))))))
  ·have hC:=AC hm hs;refine Ak (wm rfl ?_);obtain⟨hf,hD,hu⟩:=AL hC;refine Gx (Hr:=[]) H7 (DK hb h8 he.2 ([116,114,117,101]:Ah) hf hD) rfl (AaP _) rfl ?_;rintro _ _ ⟨v76,rfl,rfl⟩;refine wa rfl (Ar (Ap (b:=hf.1) rfl (λhn=>?_) (λhn=>?_)))
   ·have hE:=AB hn hu;refine Aj (wm rfl (wm rfl (wv (A6 rfl) (wv (Ad B8 rfl Ds rfl rfl) (wv (A0 (i:=0) GK rfl rfl rfl) (wv (r:=Bz [rI .i64 2,rI .i64 1,rS ([]:Ah),rI .i64 0]) (Cm rfl rfl rfl rfl) (AY (ys:=([(Aa.mk 2 1 ([]:Ah) 0)]:List Aa)) (enc:=Ab) (css:=[[rI .i64 2,rI .i64 1,rS ([]:Ah),rI .i64 0]]) (xs:=[.tmp 28]) BN Cb EA rfl rfl rfl ⟨Gw.agg ⟨Up.refl _,Up.refl _,Up.refl _,Up.refl _,trivial⟩,trivial⟩ rfl AU rfl rfl rfl (λhw=>?_))))))));obtain⟨hG,hH⟩:=Av hE;obtain⟨inf,hinf⟩:=Er;refine BV (xs:=hf.2.fCells) (ys:=([(Aa.mk 2 1 ([]:Ah) 0)]:List Aa)) (enc:=Ab) (i:=2) BN hinf.1 hinf.2.1 hinf.2.2.1 hinf.2.2.2 rfl rfl rfl rfl rfl (JW.w (i:=0) rfl rfl) AU BF hG rfl (λv80=>?_);exact wv (A6 rfl) (wv (Ad B8 rfl Ds rfl rfl) (BD (i:=2) Ds rfl rfl (E6 (i:=0) rfl) rfl rfl (cs':=[rS hf.2.fS,rI .i64 hf.2.fAt,rv v80,rB hf.2.fGreat]) rfl (H':=[.row v80 78 4 (List.map Ab (hf.2.fCells++([(Aa.mk 2 1 ([]:Ah) 0)]:List Aa))),.row (.slice (some ⟨hw,0,none⟩) 1 1) 78 4 (List.map Ab ([(Aa.mk 2 1 ([]:Ah) 0)]:List Aa)),.blk hb [rS hf.2.fS,rI .i64 hf.2.fAt,rv v80,rB hf.2.fGreat] 115]) rfl (Al (AK (Ca (H2:=[.blk hb [rS hf.2.fS,rI .i64 hf.2.fAt,rv v80,rB hf.2.fGreat] 115,.row v80 78 4 (List.map Ab (hf.2.fCells++([(Aa.mk 2 1 ([]:Ah) 0)]:List Aa))),.row (.slice (some ⟨hw,0,none⟩) 1 1) 78 4 (List.map Ab ([(Aa.mk 2 1 ([]:Ah) 0)]:List Aa))]) ((A9 (i:=2) rfl).trans (AaT _ (AaP _))) (Aq (AG ((hf.2.fS,hf.2.fAt,hf.2.fCells++([(Aa.mk 2 1 ([]:Ah) 0)]:List Aa),hf.2.fGreat),v80) hH AQ.nil (sC (sC (sS sN))))))))))
   ·have hI:=AC hn hu;refine Ak (wm rfl ?_);obtain⟨hd,hJ,hx⟩:=AL hI;refine Gx (Hr:=[]) H7 (DK hb v76 hf.2 ([102,97,108,115,101]:Ah) hd hJ) rfl (AaP _) rfl ?_;rintro _ _ ⟨hy,rfl,rfl⟩;refine wa rfl (Ar (Ap (b:=hd.1) rfl (λho=>?_) (λho=>?_)))
    ·have hK:=AB ho hx;refine Aj (wm rfl (wm rfl (wv (A6 rfl) (wv (Ad B8 rfl Ds rfl rfl) (wv (A0 (i:=0) GK rfl rfl rfl) (wv (r:=Bz [rI .i64 2,rI .i64 0,rS ([]:Ah),rI .i64 0]) (DF rfl rfl) (AY (ys:=([(Aa.mk 2 0 ([]:Ah) 0)]:List Aa)) (enc:=Ab) (css:=[[rI .i64 2,rI .i64 0,rS ([]:Ah),rI .i64 0]]) (xs:=[.tmp 41]) BN Cb EA rfl rfl rfl ⟨Gw.agg ⟨Up.refl _,Up.refl _,Up.refl _,Up.refl _,trivial⟩,trivial⟩ rfl AU rfl rfl rfl (λhz=>?_))))))));obtain⟨hL,hN⟩:=Av hK;obtain⟨inf,hinf⟩:=Er;refine BV (xs:=hd.2.fCells) (ys:=([(Aa.mk 2 0 ([]:Ah) 0)]:List Aa)) (enc:=Ab) (i:=2) BN hinf.1 hinf.2.1 hinf.2.2.1 hinf.2.2.2 rfl rfl rfl rfl rfl (JW.w (i:=0) rfl rfl) AU BF hL rfl (λhh=>?_);exact wv (A6 rfl) (wv (Ad B8 rfl Ds rfl rfl) (BD (i:=2) Ds rfl rfl (E6 (i:=0) rfl) rfl rfl (cs':=[rS hd.2.fS,rI .i64 hd.2.fAt,rv hh,rB hd.2.fGreat]) rfl (H':=[.row hh 78 4 (List.map Ab (hd.2.fCells++([(Aa.mk 2 0 ([]:Ah) 0)]:List Aa))),.row (.slice (some ⟨hz,0,none⟩) 1 1) 78 4 (List.map Ab ([(Aa.mk 2 0 ([]:Ah) 0)]:List Aa)),.blk hb [rS hd.2.fS,rI .i64 hd.2.fAt,rv hh,rB hd.2.fGreat] 115]) rfl (Al (AK (Ca (H2:=[.blk hb [rS hd.2.fS,rI .i64 hd.2.fAt,rv hh,rB hd.2.fGreat] 115,.row hh 78 4 (List.map Ab (hd.2.fCells++([(Aa.mk 2 0 ([]:Ah) 0)]:List Aa))),.row (.slice (some ⟨hz,0,none⟩) 1 1) 78 4 (List.map Ab ([(Aa.mk 2 0 ([]:Ah) 0)]:List Aa))]) ((A9 (i:=2) rfl).trans (AaT _ (AaP _))) (Aq (AG ((hd.2.fS,hd.2.fAt,hd.2.fCells++([(Aa.mk 2 0 ([]:Ah) 0)]:List Aa),hd.2.fGreat),hh) hN AQ.nil (sC (sC (sS sN))))))))))
    ·have hO:=AC ho hx;refine Am ?_;obtain⟨hP,hQ⟩:=Av hO;obtain⟨hk,hR,h0⟩:=AL hQ;refine DI [0] [⟨[],rv (.pointer (some ⟨hb,0,none⟩)),0⟩,⟨[0],rv (.pointer (some ⟨hb,0,none⟩)),0⟩,⟨[1],rv (.pointer (some ⟨hb,0,none⟩)),0⟩,⟨[2],rS hd.2.fS,1⟩,⟨[],rv (.pointer (some ⟨hb,0,none⟩)),0⟩,⟨[4],rv (.pointer (some ⟨hb,0,none⟩)),0⟩,⟨[5],rv (.pointer (some ⟨hb,1,none⟩)),0⟩,⟨[6],rI .i64 hd.2.fAt,1⟩,⟨[3,7],rS (List.drop (Int.toNat hd.2.fAt) hd.2.fS),0⟩,⟨[8],rB hk,0⟩,⟨[9],rB hk,0⟩] [46,0] ?_ ?_
     ·refine oq (Au rfl) (oq (A6 rfl) (oq (Ad B8 rfl CV rfl rfl) (of (A0 (i:=0) Dn rfl rfl rfl) (oq (Au rfl) (oq (A6 rfl) (oq (Ad B8 rfl Cu rfl rfl) (of (A0 (i:=0) Dd rfl rfl rfl) (oq (En BP rfl rfl hP) (GX rfl (λH=>N1 Tryz.call146 (Mn (List.drop (Int.toNat hd.2.fAt) hd.2.fS) ([34]:Ah) hk hR) rfl) ?_)))))))));refine oq (Ac rfl) ?_;exact CL
     refine AN (Ap (b:=hk) rfl (λhp=>?_) (λhp=>?_))
     ·have hS:=AB hp h0;refine Ak (wm rfl ?_);obtain⟨ha,hT,h1⟩:=AL hS;refine Gx (Hr:=[]) Tryz.call119 (Sl F hb hy hd.2 ha hT) rfl (AaP _) rfl ?_;rintro _ _ ⟨hU,rfl,rfl⟩;refine wm rfl (wv (AF rfl rfl) (wv (AF rfl rfl) (wa rfl (wa rfl (Ar (Am (Ak (wm rfl (wv (BJ rfl) (Ar (Ap (b:=!ha.2.1) rfl (λhq=>?_) (λhq=>?_))))))))))))
      ·have hV:=AB hq h1;refine Ak (wv (r:=rB false) (Ac rfl) (Ar (Ax (Af (A3 (Af ?_))))));obtain rfl:=Az hV;exact Aw (BS Tryz.results118 (AJ rfl)) (sC (sC sN)) ⟨hU,rfl,rfl⟩
      ·have hW:=AC hq h1;refine At (AN (Aj (wm rfl (wm rfl (wv (A6 rfl) (wv (Ad B8 rfl Ds rfl rfl) (wv (A0 (i:=0) GK rfl rfl rfl) (wm rfl (wv (r:=Bz [rI .i64 4,rI .i64 0,rS ha.1,rI .i64 0]) (EG rfl rfl rfl rfl) (AY (ys:=([(Aa.mk 4 0 ha.1 0)]:List Aa)) (enc:=Ab) (css:=[[rI .i64 4,rI .i64 0,rS ha.1,rI .i64 0]]) (xs:=[.tmp 70]) BN Cb EA rfl rfl rfl ⟨Gw.agg ⟨Up.refl _,Up.refl _,Up.refl _,Up.refl _,trivial⟩,trivial⟩ rfl AU rfl rfl rfl (λh2=>?_)))))))))));obtain⟨hX,hY⟩:=Av hW;obtain⟨inf,hinf⟩:=Er;refine BV (xs:=ha.2.2.fCells) (ys:=([(Aa.mk 4 0 ha.1 0)]:List Aa)) (enc:=Ab) (i:=2) BN hinf.1 hinf.2.1 hinf.2.2.1 hinf.2.2.2 rfl rfl rfl rfl rfl (JW.w (i:=0) rfl rfl) AU BF hX rfl (λhi=>?_);exact wv (A6 rfl) (wv (Ad B8 rfl Ds rfl rfl) (BD (i:=2) Ds rfl rfl (E6 (i:=0) rfl) rfl rfl (cs':=[rS ha.2.2.fS,rI .i64 ha.2.2.fAt,rv hi,rB ha.2.2.fGreat]) rfl (H':=[.row hi 78 4 (List.map Ab (ha.2.2.fCells++([(Aa.mk 4 0 ha.1 0)]:List Aa))),.row (.slice (some ⟨h2,0,none⟩) 1 1) 78 4 (List.map Ab ([(Aa.mk 4 0 ha.1 0)]:List Aa)),.blk hb [rS ha.2.2.fS,rI .i64 ha.2.2.fAt,rv hi,rB ha.2.2.fGreat] 115]) rfl (Al (AK (Ca (H2:=[.blk hb [rS ha.2.2.fS,rI .i64 ha.2.2.fAt,rv hi,rB ha.2.2.fGreat] 115,.row hi 78 4 (List.map Ab (ha.2.2.fCells++([(Aa.mk 4 0 ha.1 0)]:List Aa))),.row (.slice (some ⟨h2,0,none⟩) 1 1) 78 4 (List.map Ab ([(Aa.mk 4 0 ha.1 0)]:List Aa))]) ((A9 (i:=2) rfl).trans (AaT _ (AaP _))) (Aq (AG ((ha.2.2.fS,ha.2.2.fAt,ha.2.2.fCells++([(Aa.mk 4 0 ha.1 0)]:List Aa),ha.2.2.fGreat),hi) hY AQ.nil (sC (sC (sS sN))))))))))
     ·have hZ:=AC hp h0;refine Ak (wm rfl ?_);obtain⟨ga,gb,gc⟩:=AL hZ;refine Gx (Hr:=[]) Tryz.call147 (Xr F hb hy hd.2 ga gb) rfl (AaP _) rfl ?_;rintro _ _ ⟨gd,rfl,rfl⟩;refine wa rfl (Ar (Ax (A3 (Af ?_))));obtain rfl:=Az gc;exact Aw (BS Tryz.results118 (AJ rfl)) (sC (sC sN)) ⟨gd,rfl,rfl⟩
 ·rintro⟨⟨h3,h4,h5,h6⟩,hr⟩ hl;refine Bb (l':=[]) (H':=[.blk hb [rS h3,rI .i64 h4,rv hr,rB h6] 115,.row hr 78 4 (List.map Ab h5)]) rfl rfl ?_;replace hl:Eb h3 h4 h5 h6=some r:=hl;unfold Eb at hl;refine Ak (wv (r:=rB true) (Ac rfl) (Ar (Ax ?_)));obtain rfl:=Az hl;exact Aw (BS Tryz.results118 (AJ rfl)) (sC (sC sN)) ⟨hr,rfl,rfl⟩
theorem Ru (F:Nat)(hl:A1→Option (Bool×A1))(gm:(∀(hb:Nat) (hp:Value) (q:A1) (r:Bool×A1),hl q=some r→Fn Tryz.prog GE 83 [rv (.pointer (some ⟨hb,0,none⟩))] [.blk hb [rS q.fS,rI .i64 q.fAt,rv hp,rB q.fGreat] 115,.row hp 78 4 (List.map Ab q.fCells)] (λR H=>∃w0_2:Value,R=rB r.1∧H=[.blk hb [rS r.2.fS,rI .i64 r.2.fAt,rv w0_2,rB r.2.fGreat] 115,.row w0_2 78 4 (List.map Ab r.2.fCells)])))(hb:Nat)(hp:Value)(q:A1)(r:Bool×A1)(h:KE F hl q=some r):Fn Tryz.prog GE 83 [rv (.pointer (some ⟨hb,0,none⟩))] [.blk hb [rS q.fS,rI .i64 q.fAt,rv hp,rB q.fGreat] 115,.row hp 78 4 (List.map Ab q.fCells)] (λR H=>∃w0_2:Value,R=rB r.1∧H=[.blk hb [rS r.2.fS,rI .i64 r.2.fAt,rv w0_2,rB r.2.fGreat] 115,.row w0_2 78 4 (List.map Ab r.2.fCells)]):=by
 refine enter (n:=96) Tryz.func83 rfl Tryz.ntmps83 rfl (λw Z=>?_);refine Bb (l':=[(0,rv (.pointer (some ⟨hb,0,none⟩)))]) (H':=[.blk hb [rS q.fS,rI .i64 q.fAt,rv hp,rB q.fGreat] 115,.row hp 78 4 (List.map Ab q.fCells)]) rfl rfl ?_;unfold KE at h;refine Ak (wv (r:=rB false) (Ac rfl) (By (wm rfl ?_)));obtain⟨r1,e3,h2⟩:=AL h;refine Gx (Hr:=[]) H7 (DK hb hp q ([91]:Ah) r1 e3) rfl (AaP _) rfl ?_;rintro _ _ ⟨v4,rfl,rfl⟩;refine wa rfl (Ar (Am (Dz (S:=(Bool×Ah×Int×(List Aa)×Bool)×(Value)) (λσ=>Ea F hl r1 σ.1.1 σ.1.2.1 σ.1.2.2.1 σ.1.2.2.2.1 σ.1.2.2.2.2=some r) (λσ=>[(0,rv (.pointer (some ⟨hb,0,none⟩))),(2,rB false),(3,rB r1.1),(19,rB σ.1.1)]) (λσ=>[.blk hb [rS σ.1.2.1,rI .i64 σ.1.2.2.1,rv σ.2,rB σ.1.2.2.2.2] 115,.row σ.2 78 4 (List.map Ab σ.1.2.2.2.1)]) ?_ ?_)))
 ·refine Aj (wm rfl (wv (BJ rfl) (wm rfl (AH (!r1.1) (λhh=>?_) (λhh=>?_)))))
  ·have gA:=AB hh h2;refine wo hh (wm rfl (wo hh ?_));obtain⟨hr,gB,gC⟩:=AL gA;refine Gx (Hr:=[]) H7 (DK hb v4 r1.2 ([123]:Ah) hr gB) rfl (AaP _) rfl ?_;rintro _ _ ⟨v24,rfl,rfl⟩;exact wo hh (wv (BJ rfl) (Gk rfl hh rfl (Al (Aq (AG ((!hr.1,hr.2.fS,hr.2.fAt,hr.2.fCells,hr.2.fGreat),v24) gC (AQ.c rfl (AQ.c rfl (AQ.c rfl (AQ.c rfl AQ.nil)))) (sC (sC sN)))))))
  ·have gD:=AC hh h2;exact wf hh (wf hh (wf hh (wv (r:=rB false) (A4 (b:=!r1.1) rfl hh rfl) (Al (Aq (AG ((false,r1.2.fS,r1.2.fAt,r1.2.fCells,r1.2.fGreat),v4) gD (AQ.c rfl (AQ.c rfl (AQ.c rfl (AQ.c rfl AQ.nil)))) (sC (sC sN))))))))
 ·rintro⟨⟨hJ,hm,hn,x16,ho⟩,hK⟩ h0;refine Bb (l':=[(0,rv (.pointer (some ⟨hb,0,none⟩))),(2,rB false),(3,rB r1.1),(19,rB hJ)]) (H':=[.blk hb [rS hm,rI .i64 hn,rv hK,rB ho] 115,.row hK 78 4 (List.map Ab x16)]) rfl rfl ?_;replace h0:Ea F hl r1 hJ hm hn x16 ho=some r:=h0;unfold Ea at h0;refine Ap (b:=hJ) rfl (λhL=>?_) (λhL=>?_)
  ·have gE:=AB hL h0;refine Ak (wm rfl ?_);obtain⟨gF,gG,gH⟩:=AL gE;refine Gx (Hr:=[]) Tryz.call118 (Rw F hb hK (A1.mk hm hn x16 ho) gF gG) rfl (AaP _) rfl ?_;rintro _ _ ⟨gI,rfl,rfl⟩;refine wa rfl (Ar (Ax (Af ?_)));obtain rfl:=Az gH;exact Aw (BS NV (AJ rfl)) (sC (sC sN)) ⟨gI,rfl,rfl⟩
  ·have gn:=AC hL h0;refine At (AN (Ak (wv (r:=rI .i64 6) (Ac rfl) (wv (r:=rS ([125]:Ah)) (Ac rfl) (Ar (Am (Ak (wm rfl (Ar (Ap (b:=r1.1) rfl (λh1=>?_) (λh1=>?_)))))))))))
   ·have gJ:=AB h1 gn;refine Aj (wv (r:=rI .i64 5) (Ac rfl) (wv (r:=rS ([93]:Ah)) (Ac rfl) (By (wm rfl (wv (A6 rfl) (wv (Ad B8 rfl Ds rfl rfl) (wv (A0 (i:=0) GK rfl rfl rfl) (wv (C6 (ys:=x16) (enc:=Ab) (i:=1) BN rfl rfl) (wa rfl (By (wm rfl (wm rfl (wv (A6 rfl) (wv (Ad B8 rfl Ds rfl rfl) (wv (A0 (i:=0) GK rfl rfl rfl) (wm rfl (wv (r:=Bz [rI .i64 5,rI .i64 0,rS ([]:Ah),rI .i64 0]) (DF rfl rfl) (AY (ys:=([(Aa.mk 5 0 ([]:Ah) 0)]:List Aa)) (enc:=Ab) (css:=[[rI .i64 5,rI .i64 0,rS ([]:Ah),rI .i64 0]]) (xs:=[.tmp 34]) BN Cb EA rfl rfl rfl ⟨Gw.agg ⟨Up.refl _,Up.refl _,Up.refl _,Up.refl _,trivial⟩,trivial⟩ rfl AU rfl rfl rfl (λgp=>?_)))))))))))))))))));obtain⟨gK,gL⟩:=Av gJ;obtain⟨inf,hinf⟩:=Er;refine BV (xs:=x16) (ys:=([(Aa.mk 5 0 ([]:Ah) 0)]:List Aa)) (enc:=Ab) (i:=2) BN hinf.1 hinf.2.1 hinf.2.2.1 hinf.2.2.2 rfl rfl rfl rfl rfl (JW.w (i:=0) rfl rfl) AU BF gK rfl (λv37=>?_);refine wv (A6 rfl) (wv (Ad B8 rfl Ds rfl rfl) (BD (i:=2) Ds rfl rfl (E6 (i:=0) rfl) rfl rfl (cs':=[rS hm,rI .i64 hn,rv v37,rB ho]) rfl (H':=[.row v37 78 4 (List.map Ab (x16++([(Aa.mk 5 0 ([]:Ah) 0)]:List Aa))),.row (.slice (some ⟨gp,0,none⟩) 1 1) 78 4 (List.map Ab ([(Aa.mk 5 0 ([]:Ah) 0)]:List Aa)),.blk hb [rS hm,rI .i64 hn,rv v37,rB ho] 115]) rfl (Ar (Am (Ak (wm rfl (wm rfl ?_)))))));obtain⟨hs,gM,gq⟩:=AL gL;refine Gx (Hr:=[.row (.slice (some ⟨gp,0,none⟩) 1 1) 78 4 (List.map Ab ([(Aa.mk 5 0 ([]:Ah) 0)]:List Aa))]) H7 (DK hb v37 (A1.mk hm hn (x16++([(Aa.mk 5 0 ([]:Ah) 0)]:List Aa)) ho) ([93]:Ah) hs gM) rfl ((A9 (i:=2) rfl).trans (AaT _ (AaP _))) rfl ?_;rintro _ _ ⟨gr,rfl,rfl⟩;refine Ar (Ap (b:=hs.1) rfl (λhN=>?_) (λhN=>?_))
    ·have gN:=AB hN gq;refine Ak (wv (r:=rB true) (Ac rfl) (Ar (Ax (Af ?_))));obtain rfl:=Az gN;exact Aw (BS NV (AJ rfl)) (sC (sC (sS sN))) ⟨gr,rfl,rfl⟩
    ·have gO:=AC hN gq;refine At (AN (Ak (wv (r:=rS ([]:Ah)) (Ac rfl) (By (wv (r:=rI .i64 1) (Ac rfl) (Ar (AO ?_)))))));obtain⟨gP,gQ,hO⟩:=AL gO;refine BA (S:=Nat×(Int×Ah×Int×(List Aa)×Bool)×(Value)) (V:=(Unit)×(Unit)) 0 (λσ=>Cg (λσ=>EP hl x16 σ.1 σ.2.1 σ.2.2.1 σ.2.2.2.1 σ.2.2.2.2) σ.1 σ.2.1=some gP) (λσ=>[(0,rv (.pointer (some ⟨hb,0,none⟩))),(2,rB false),(3,rB r1.1),(5,rS ([93]:Ah)),(6,rI .i64 (x16.length:Int)),(7,rS ([]:Ah)),(8,rI .i64 σ.2.1.1)]) (λσ=>[.blk hb [rS σ.2.1.2.1,rI .i64 σ.2.1.2.2.1,rv σ.2.2,rB σ.2.1.2.2.2.2] 115,.row σ.2.2 78 4 (List.map Ab σ.2.1.2.2.2.1)]) (λσ=>σ.1) (F,(1,hs.2.fS,hs.2.fAt,hs.2.fCells,hs.2.fGreat),gr) gQ (AQ.c rfl (AQ.c rfl (AQ.c5 rfl rfl rfl rfl rfl AQ.nil))) (sC (sC (sS sN))) (λσ=>HD =some r) (λσ=>[]) (λσ=>[]) ?_ ?_
     ·rintro⟨cZ,⟨h3,hP,hQ,hR,hS⟩,hT⟩ gR;refine Bb (l':=[(0,rv (.pointer (some ⟨hb,0,none⟩))),(2,rB false),(3,rB r1.1),(5,rS ([93]:Ah)),(6,rI .i64 (x16.length:Int)),(7,rS ([]:Ah)),(8,rI .i64 h3)]) (H':=[.blk hb [rS hP,rI .i64 hQ,rv hT,rB hS] 115,.row hT 78 4 (List.map Ab hR)]) rfl rfl ?_;obtain⟨gS,rfl,gT,hB,hC⟩:=CM gR;replace hB:EP hl x16 h3 hP hQ hR hS=some gT:=hB;unfold EP at hB;refine Am (AO (Am (Ak (wm rfl (wv (BJ rfl) (Ar (Ey rfl (ZK h1) (At (AN (Am (Ak (wm rfl ?_))))))))))));obtain⟨hd,gU,gs⟩:=AL hB;refine Gx (Hr:=[]) Tryz.call83 (gm hb hT (A1.mk hP hQ hR hS) hd gU) rfl (AaP _) rfl ?_;rintro _ _ ⟨ht,rfl,rfl⟩;refine wv (BJ rfl) (Ar (Ap (b:=!hd.1) rfl (λhU=>?_) (λhU=>?_)))
      ·have gV:=AB hU gs;refine Ak (wv (r:=rB false) (Ac rfl) (Ar (Ax (Af (A3 (Af (Af (Bc ?_))))))));have gW:=B1 gV hC hO;refine A3 ?_;obtain rfl:=Az gW;exact Aw (BS NV (AJ rfl)) (sC (sC sN)) ⟨ht,rfl,rfl⟩
      ·have gX:=AC hU gs;refine At (AN (Ak (wm rfl (wv (A6 rfl) (wv (Ad B8 rfl Ds rfl rfl) (wv (A0 (i:=0) GK rfl rfl rfl) (wm rfl (wm rfl ?_))))))));obtain⟨hV,gY⟩:=Av gX;refine wv (r:=rv (E9 4 ht (Int.toNat (x16.length:Int)) 0)) (G8 (i:=1) BN Cb rfl rfl rfl (BE hV)) (wv (r:=rv (E9 4 ht (Int.toNat (x16.length:Int)) 3)) (Eo (k:=1) B5 rfl Cu rfl (BE hV) rfl rfl rfl) (Ji (enc:=Ab) (ys:=hd.2.fCells) (y':=(Aa.mk ((Ay hd.2.fCells (x16.length:Int)).fKind) ((Ay hd.2.fCells (x16.length:Int)).fInt) ((Ay hd.2.fCells (x16.length:Int)).fStr) h3)) (i:=1) (j:=(x16.length:Int)) Cu rfl rfl (Ck rfl) rfl hV rfl rfl (H':=[.blk hb [rS hd.2.fS,rI .i64 hd.2.fAt,rv ht,rB hd.2.fGreat] 115,.row ht 78 4 (List.map Ab (List.set hd.2.fCells (Int.toNat (x16.length:Int)) (Aa.mk ((Ay hd.2.fCells (x16.length:Int)).fKind) ((Ay hd.2.fCells (x16.length:Int)).fInt) ((Ay hd.2.fCells (x16.length:Int)).fStr) h3)))]) rfl ?_));obtain⟨gZ,ca,cb⟩:=Ev gY;rw[← ca];refine Ar (Am (Ak (wm rfl (wm rfl ?_))));obtain⟨hW,cc,gt⟩:=AL cb;refine Gx (Hr:=[]) H7 (DK hb ht (A1.mk hd.2.fS hd.2.fAt gZ hd.2.fGreat) ([93]:Ah) hW cc) rfl (AaP _) rfl ?_;rintro _ _ ⟨gu,rfl,rfl⟩;refine Ar (Ap (b:=hW.1) rfl (λc167=>?_) (λc167=>?_))
       ·have cd:=AB c167 gt;refine Ak (wv (r:=rB true) (Ac rfl) (Ar (Ax (Af (A3 (Af (Af (Bc ?_))))))));have ce:=B1 cd hC hO;refine A3 ?_;obtain rfl:=Az ce;exact Aw (BS NV (AJ rfl)) (sC (sC sN)) ⟨gu,rfl,rfl⟩
       ·have cf:=AC c167 gt;refine At (AN (Ak (wm rfl ?_)));obtain⟨hu,cg,gv⟩:=AL cf;refine Gx (Hr:=[]) H7 (DK hb gu hW.2 ([44]:Ah) hu cg) rfl (AaP _) rfl ?_;rintro _ _ ⟨gw,rfl,rfl⟩;refine wv (BJ rfl) (Ar (Ap (b:=!hu.1) rfl (λc175=>?_) (λc175=>?_)))
        ·have ch:=AB c175 gv;refine Ak (wv (r:=rB false) (Ac rfl) (Ar (Ax (A3 (Af (Af (Bc ?_)))))));have ci:=B1 ch hC hO;refine A3 ?_;obtain rfl:=Az ci;exact Aw (BS NV (AJ rfl)) (sC (sC sN)) ⟨gw,rfl,rfl⟩
        ·have cj:=AC c175 gv;refine At (AK (AN (Aj (wm rfl ?_))));obtain⟨ck,cl⟩:=Av cj;refine wv (Bi rfl rfl ck) (wa rfl (Al ?_));have cm:=Bk cl hC;exact Aq (AG (gS,(h3+1,hu.2.fS,hu.2.fAt,hu.2.fCells,hu.2.fGreat),gw) ⟨cm,AaX _⟩ (AQ.c rfl (AQ.c rfl (AQ.c5 rfl rfl rfl rfl rfl AQ.nil))) (sC (sC sN)))
     ·rintro⟨⟨⟩,⟨⟩⟩ cn
      cases cn
   ·have co:=AC h1 gn;refine At (AN (Ak (wm rfl (wv (A6 rfl) (wv (Ad B8 rfl Ds rfl rfl) (wv (A0 (i:=0) GK rfl rfl rfl) (wv (C6 (ys:=x16) (enc:=Ab) (i:=1) BN rfl rfl) (wa rfl (By (wm rfl (wm rfl (wv (A6 rfl) (wv (Ad B8 rfl Ds rfl rfl) (wv (A0 (i:=0) GK rfl rfl rfl) (wm rfl (wv (r:=Bz [rI .i64 6,rI .i64 0,rS ([]:Ah),rI .i64 0]) (DF rfl rfl) (AY (ys:=([(Aa.mk 6 0 ([]:Ah) 0)]:List Aa)) (enc:=Ab) (css:=[[rI .i64 6,rI .i64 0,rS ([]:Ah),rI .i64 0]]) (xs:=[.tmp 34]) BN Cb EA rfl rfl rfl ⟨Gw.agg ⟨Up.refl _,Up.refl _,Up.refl _,Up.refl _,trivial⟩,trivial⟩ rfl AU rfl rfl rfl (λgx=>?_))))))))))))))))));obtain⟨cp,cq⟩:=Av co;obtain⟨inf,hinf⟩:=Er;refine BV (xs:=x16) (ys:=([(Aa.mk 6 0 ([]:Ah) 0)]:List Aa)) (enc:=Ab) (i:=2) BN hinf.1 hinf.2.1 hinf.2.2.1 hinf.2.2.2 rfl rfl rfl rfl rfl (JW.w (i:=0) rfl rfl) AU BF cp rfl (λhD=>?_);refine wv (A6 rfl) (wv (Ad B8 rfl Ds rfl rfl) (BD (i:=2) Ds rfl rfl (E6 (i:=0) rfl) rfl rfl (cs':=[rS hm,rI .i64 hn,rv hD,rB ho]) rfl (H':=[.row hD 78 4 (List.map Ab (x16++([(Aa.mk 6 0 ([]:Ah) 0)]:List Aa))),.row (.slice (some ⟨gx,0,none⟩) 1 1) 78 4 (List.map Ab ([(Aa.mk 6 0 ([]:Ah) 0)]:List Aa)),.blk hb [rS hm,rI .i64 hn,rv hD,rB ho] 115]) rfl (Ar (Am (Ak (wm rfl (wm rfl ?_)))))));obtain⟨hw,cr,gy⟩:=AL cq;refine Gx (Hr:=[.row (.slice (some ⟨gx,0,none⟩) 1 1) 78 4 (List.map Ab ([(Aa.mk 6 0 ([]:Ah) 0)]:List Aa))]) H7 (DK hb hD (A1.mk hm hn (x16++([(Aa.mk 6 0 ([]:Ah) 0)]:List Aa)) ho) ([125]:Ah) hw cr) rfl ((A9 (i:=2) rfl).trans (AaT _ (AaP _))) rfl ?_;rintro _ _ ⟨gz,rfl,rfl⟩;refine Ar (Ap (b:=hw.1) rfl (λhX=>?_) (λhX=>?_))
    ·have cs:=AB hX gy;refine Ak (wv (r:=rB true) (Ac rfl) (Ar (Ax (Af ?_))));obtain rfl:=Az cs;exact Aw (BS NV (AJ rfl)) (sC (sC (sS sN))) ⟨gz,rfl,rfl⟩
    ·have ct:=AC hX gy;refine At (AN (Ak (wv (r:=rS ([]:Ah)) (Ac rfl) (By (wv (r:=rI .i64 1) (Ac rfl) (Ar (AO ?_)))))));obtain⟨cu,cv,hE⟩:=AL ct;refine BA (S:=Nat×(Ah×Int×Ah×Int×(List Aa)×Bool)×(Value)) (V:=(Unit)×(Unit)) 0 (λσ=>Cg (λσ=>EO F hl x16 σ.1 σ.2.1 σ.2.2.1 σ.2.2.2.1 σ.2.2.2.2.1 σ.2.2.2.2.2) σ.1 σ.2.1=some cu) (λσ=>[(0,rv (.pointer (some ⟨hb,0,none⟩))),(2,rB false),(3,rB r1.1),(5,rS ([125]:Ah)),(6,rI .i64 (x16.length:Int)),(7,rS σ.2.1.1),(8,rI .i64 σ.2.1.2.1)]) (λσ=>[.blk hb [rS σ.2.1.2.2.1,rI .i64 σ.2.1.2.2.2.1,rv σ.2.2,rB σ.2.1.2.2.2.2.2] 115,.row σ.2.2 78 4 (List.map Ab σ.2.1.2.2.2.2.1)]) (λσ=>σ.1) (F,(([]:Ah),1,hw.2.fS,hw.2.fAt,hw.2.fCells,hw.2.fGreat),gz) cv (AQ.c rfl (AQ.c rfl (AQ.c5 rfl rfl rfl rfl rfl AQ.nil))) (sC (sC (sS sN))) (λσ=>HC =some r) (λσ=>[]) (λσ=>[]) ?_ ?_
     ·rintro⟨xa,⟨he,hi,hY,hZ,ga,gb⟩,gc⟩ cw;refine Bb (l':=[(0,rv (.pointer (some ⟨hb,0,none⟩))),(2,rB false),(3,rB r1.1),(5,rS ([125]:Ah)),(6,rI .i64 (x16.length:Int)),(7,rS he),(8,rI .i64 hi)]) (H':=[.blk hb [rS hY,rI .i64 hZ,rv gc,rB gb] 115,.row gc 78 4 (List.map Ab ga)]) rfl rfl ?_;obtain⟨cx,rfl,gd,hG,h4⟩:=CM cw;replace hG:EO F hl x16 he hi hY hZ ga gb=some gd:=hG;unfold EO at hG;refine Am (AO (Am (Ak (wm rfl (wv (BJ rfl) (Ar (EX rfl (ZL h1) (Ak (wm rfl ?_)))))))));obtain⟨ha,cy,g0⟩:=AL hG;refine Gx (Hr:=[]) Tryz.call119 (Sl F hb gc (A1.mk hY hZ ga gb) ha cy) rfl (AaP _) rfl ?_;rintro _ _ ⟨hH,rfl,rfl⟩;refine wm rfl (wv (AF rfl rfl) (wv (AF rfl rfl) (wa rfl (wa rfl (Ar (Am (Dz (S:=(Bool×Bool×Bool×Ah×Int×(List Aa)×Bool)×(Value)) (λσ=>Cr hl x16 hi ha σ.1.1 σ.1.2.1 σ.1.2.2.1 σ.1.2.2.2.1 σ.1.2.2.2.2.1 σ.1.2.2.2.2.2.1 σ.1.2.2.2.2.2.2=some gd) (λσ=>[(0,rv (.pointer (some ⟨hb,0,none⟩))),(2,rB false),(3,rB r1.1),(5,rS ([125]:Ah)),(6,rI .i64 (x16.length:Int)),(7,rS he),(8,rI .i64 hi),(9,rS ha.1),(10,rB ha.2.1),(44,rB r1.1),(45,rB (!r1.1)),(46,C5 [rS ha.1,rB ha.2.1]),(47,rv (.pointer (some ⟨hb,0,none⟩))),(48,C5 [rS ha.1,rB ha.2.1]),(49,rS ha.1),(50,rB ha.2.1),(51,rB ha.2.1),(52,rB (!ha.2.1)),(53,rB (!ha.2.1)),(61,rB σ.1.1),(62,rB σ.1.2.1),(66,rB σ.1.2.2.1)]) (λσ=>[.blk hb [rS σ.1.2.2.2.1,rI .i64 σ.1.2.2.2.2.1,rv σ.2,rB σ.1.2.2.2.2.2.2] 115,.row σ.2 78 4 (List.map Ab σ.1.2.2.2.2.2.1)]) ?_ ?_)))))))
      ·refine Aj (wm rfl (wv (BJ rfl) (wm rfl (AH (!ha.2.1) (λhg=>?_) (λhg=>?_)))))
       ·have cz:=AB hg g0;exact wf hg (wf hg (wf hg (wu (wu (wu (wf hg (wv (r:=rB true) (As (b:=!ha.2.1) rfl hg rfl) (wm rfl (An (b:=true) rfl rfl rfl rfl (An (b:=true) rfl rfl rfl rfl (An (b:=true) rfl rfl rfl rfl (wv (r:=rB true) (As (b:=true) rfl rfl rfl) (Al (Aq (AG ((true,true,true,ha.2.2.fS,ha.2.2.fAt,ha.2.2.fCells,ha.2.2.fGreat),hH) cz (AQ.c rfl (AQ.c rfl (AQ.c5 rfl rfl rfl rfl rfl (AQ.c5 rfl rfl rfl rfl rfl (AQ.c5 rfl rfl rfl rfl rfl (AQ.c5 rfl rfl rfl rfl rfl AQ.nil)))))) (sC (sC sN)))))))))))))))))
       ·have g1:=AC hg g0;refine wo hg (wm rfl (wo hg (wv (Cl rfl rfl) (wo hg (wm rfl (AH (decide (1<hi)) (λhj=>?_) (λhj=>?_)))))))
        ·have g2:=AB hj g1;refine wo hj (wm rfl (wo hj (wm rfl (wo hj (wv (SE rfl rfl) (wo hg (Gk rfl hj rfl (D4 rfl hg rfl (wm rfl (AH (BI ha.1 he||decide (ha.1=he)) (λhk=>?_) (λhk=>?_)))))))))))
         ·have c0:=AB hk g2;exact wf hk (wf hk (wf hk (wv (r:=rB true) (As (b:=BI ha.1 he||decide (ha.1=he)) rfl hk rfl) (Al (Aq (AG ((BI ha.1 he||decide (ha.1=he),BI ha.1 he||decide (ha.1=he),true,ha.2.2.fS,ha.2.2.fAt,ha.2.2.fCells,ha.2.2.fGreat),hH) c0 (AQ.c rfl (AQ.c rfl (AQ.c5 rfl rfl rfl rfl rfl (AQ.c5 rfl rfl rfl rfl rfl (AQ.c5 rfl rfl rfl rfl rfl (AQ.c5 rfl rfl rfl rfl rfl AQ.nil)))))) (sC (sC sN))))))))
         ·have c1:=AC hk g2;refine wo hk (wm rfl (wo hk ?_));obtain⟨hx,c2,c3⟩:=AL c1;refine Gx (Hr:=[]) H7 (DK hb hH ha.2.2 ([58]:Ah) hx c2) rfl (AaP _) rfl ?_;rintro _ _ ⟨c4,rfl,rfl⟩;exact wo hk (wv (BJ rfl) (D4 rfl hk rfl (Al (Aq (AG ((BI ha.1 he||decide (ha.1=he),BI ha.1 he||decide (ha.1=he),!hx.1,hx.2.fS,hx.2.fAt,hx.2.fCells,hx.2.fGreat),c4) c3 (AQ.c rfl (AQ.c rfl (AQ.c5 rfl rfl rfl rfl rfl (AQ.c5 rfl rfl rfl rfl rfl (AQ.c5 rfl rfl rfl rfl rfl (AQ.c5 rfl rfl rfl rfl rfl AQ.nil)))))) (sC (sC sN)))))))
        ·have c6:=AC hj g1;refine wf hj (wf hj (wf hj (wo hg (wv (r:=rB false) (A4 (b:=decide (1<hi)) rfl hj rfl) (D4 rfl hg rfl (wm rfl (AW (b:=false) rfl rfl rfl (wm rfl (AW (b:=false) rfl rfl rfl ?_)))))))));obtain⟨hq,c7,c8⟩:=AL c6;refine Gx (Hr:=[]) H7 (DK hb hH ha.2.2 ([58]:Ah) hq c7) rfl (AaP _) rfl ?_;rintro _ _ ⟨c9,rfl,rfl⟩;exact AW (b:=false) rfl rfl rfl (wv (BJ rfl) (wv (r:=rB (!hq.1)) (A4 (b:=false) rfl rfl rfl) (Al (Aq (AG ((false,false,!hq.1,hq.2.fS,hq.2.fAt,hq.2.fCells,hq.2.fGreat),c9) c8 (AQ.c rfl (AQ.c rfl (AQ.c5 rfl rfl rfl rfl rfl (AQ.c5 rfl rfl rfl rfl rfl (AQ.c5 rfl rfl rfl rfl rfl (AQ.c5 rfl rfl rfl rfl rfl AQ.nil)))))) (sC (sC sN)))))))
      ·rintro⟨⟨g3,g4,ge,h5,h6,h7,h8⟩,gf⟩ h9;refine Bb (l':=[(0,rv (.pointer (some ⟨hb,0,none⟩))),(2,rB false),(3,rB r1.1),(5,rS ([125]:Ah)),(6,rI .i64 (x16.length:Int)),(7,rS he),(8,rI .i64 hi),(9,rS ha.1),(10,rB ha.2.1),(44,rB r1.1),(45,rB (!r1.1)),(46,C5 [rS ha.1,rB ha.2.1]),(47,rv (.pointer (some ⟨hb,0,none⟩))),(48,C5 [rS ha.1,rB ha.2.1]),(49,rS ha.1),(50,rB ha.2.1),(51,rB ha.2.1),(52,rB (!ha.2.1)),(53,rB (!ha.2.1)),(61,rB g3),(62,rB g4),(66,rB ge)]) (H':=[.blk hb [rS h5,rI .i64 h6,rv gf,rB h8] 115,.row gf 78 4 (List.map Ab h7)]) rfl rfl ?_;replace h9:Cr hl x16 hi ha g3 g4 ge h5 h6 h7 h8=some gd:=h9;unfold Cr at h9;refine Ap (b:=ge) rfl (λgg=>?_) (λgg=>?_)
       ·have cA:=AB gg h9;refine Ak (wv (r:=rB false) (Ac rfl) (Ar (Ax (Af (Af (A3 (Af (Af (Bc ?_)))))))));have cB:=B1 cA h4 hE;refine A3 ?_;obtain rfl:=Az cB;exact Aw (BS NV (AJ rfl)) (sC (sC sN)) ⟨gf,rfl,rfl⟩
       ·have cC:=AC gg h9;refine At (AN (Ak (wm rfl (wa rfl (Ar (Aj (wm rfl (wm rfl (wv (A6 rfl) (wv (Ad B8 rfl Ds rfl rfl) (wv (A0 (i:=0) GK rfl rfl rfl) (wm rfl (wv (r:=Bz [rI .i64 4,rI .i64 0,rS ha.1,rI .i64 0]) (EG rfl rfl rfl rfl) (AY (ys:=([(Aa.mk 4 0 ha.1 0)]:List Aa)) (enc:=Ab) (css:=[[rI .i64 4,rI .i64 0,rS ha.1,rI .i64 0]]) (xs:=[.tmp 74]) BN Cb EA rfl rfl rfl ⟨Gw.agg ⟨Up.refl _,Up.refl _,Up.refl _,Up.refl _,trivial⟩,trivial⟩ rfl AU rfl rfl rfl (λhA=>?_)))))))))))))));obtain⟨cD,cE⟩:=Av cC;obtain⟨inf,hinf⟩:=Er;refine BV (xs:=h7) (ys:=([(Aa.mk 4 0 ha.1 0)]:List Aa)) (enc:=Ab) (i:=2) BN hinf.1 hinf.2.1 hinf.2.2.1 hinf.2.2.2 rfl rfl rfl rfl rfl (JW.w (i:=0) rfl rfl) AU BF cD rfl (λhI=>?_);refine wv (A6 rfl) (wv (Ad B8 rfl Ds rfl rfl) (BD (i:=2) Ds rfl rfl (E6 (i:=0) rfl) rfl rfl (cs':=[rS h5,rI .i64 h6,rv hI,rB h8]) rfl (H':=[.row hI 78 4 (List.map Ab (h7++([(Aa.mk 4 0 ha.1 0)]:List Aa))),.row (.slice (some ⟨hA,0,none⟩) 1 1) 78 4 (List.map Ab ([(Aa.mk 4 0 ha.1 0)]:List Aa)),.blk hb [rS h5,rI .i64 h6,rv hI,rB h8] 115]) rfl (Ar (Am (Ak (wm rfl ?_))))));obtain⟨hf,cF,g5⟩:=AL cE;refine Gx (Hr:=[.row (.slice (some ⟨hA,0,none⟩) 1 1) 78 4 (List.map Ab ([(Aa.mk 4 0 ha.1 0)]:List Aa))]) Tryz.call83 (gm hb hI (A1.mk h5 h6 (h7++([(Aa.mk 4 0 ha.1 0)]:List Aa)) h8) hf cF) rfl ((A9 (i:=2) rfl).trans (AaT _ (AaP _))) rfl ?_;rintro _ _ ⟨hy,rfl,rfl⟩;refine wv (BJ rfl) (Ar (Ap (b:=!hf.1) rfl (λgh=>?_) (λgh=>?_)))
        ·have cG:=AB gh g5;refine Ak (wv (r:=rB false) (Ac rfl) (Ar (Ax (Af (A3 (Af (Af (Bc ?_))))))));have cH:=B1 cG h4 hE;refine A3 ?_;obtain rfl:=Az cH;exact Aw (BS NV (AJ rfl)) (sC (sC (sS sN))) ⟨hy,rfl,rfl⟩
        ·have cI:=AC gh g5;refine At (AN (Ak (wm rfl (wv (A6 rfl) (wv (Ad B8 rfl Ds rfl rfl) (wv (A0 (i:=0) GK rfl rfl rfl) (wm rfl (wm rfl ?_))))))));obtain⟨gi,cJ⟩:=Av cI;refine wv (r:=rv (E9 4 hy (Int.toNat (x16.length:Int)) 0)) (G8 (i:=1) BN Cb rfl rfl rfl (BE gi)) (wv (r:=rv (E9 4 hy (Int.toNat (x16.length:Int)) 3)) (Eo (k:=1) B5 rfl Cu rfl (BE gi) rfl rfl rfl) (Ji (enc:=Ab) (ys:=hf.2.fCells) (y':=(Aa.mk ((Ay hf.2.fCells (x16.length:Int)).fKind) ((Ay hf.2.fCells (x16.length:Int)).fInt) ((Ay hf.2.fCells (x16.length:Int)).fStr) hi)) (i:=1) (j:=(x16.length:Int)) Cu rfl rfl (Ck rfl) rfl gi rfl rfl (H':=[.blk hb [rS hf.2.fS,rI .i64 hf.2.fAt,rv hy,rB hf.2.fGreat] 115,.row hy 78 4 (List.map Ab (List.set hf.2.fCells (Int.toNat (x16.length:Int)) (Aa.mk ((Ay hf.2.fCells (x16.length:Int)).fKind) ((Ay hf.2.fCells (x16.length:Int)).fInt) ((Ay hf.2.fCells (x16.length:Int)).fStr) hi))),.row (.slice (some ⟨hA,0,none⟩) 1 1) 78 4 (List.map Ab ([(Aa.mk 4 0 ha.1 0)]:List Aa))]) rfl ?_));obtain⟨cK,cL,cM⟩:=Ev cJ;rw[← cL];refine Ar (Am (Ak (wm rfl (wm rfl ?_))));obtain⟨gj,cN,g6⟩:=AL cM;refine Gx (Hr:=[.row (.slice (some ⟨hA,0,none⟩) 1 1) 78 4 (List.map Ab ([(Aa.mk 4 0 ha.1 0)]:List Aa))]) H7 (DK hb hy (A1.mk hf.2.fS hf.2.fAt cK hf.2.fGreat) ([125]:Ah) gj cN) rfl (AaP _) rfl ?_;rintro _ _ ⟨g7,rfl,rfl⟩;refine Ar (Ap (b:=gj.1) rfl (λgk=>?_) (λgk=>?_))
         ·have cO:=AB gk g6;refine Ak (wv (r:=rB true) (Ac rfl) (Ar (Ax (Af (A3 (Af (Af (Bc ?_))))))));have cP:=B1 cO h4 hE;refine A3 ?_;obtain rfl:=Az cP;exact Aw (BS NV (AJ rfl)) (sC (sC (sS sN))) ⟨g7,rfl,rfl⟩
         ·have cQ:=AC gk g6;refine At (AN (Ak (wm rfl ?_)));obtain⟨hz,cR,g8⟩:=AL cQ;refine Gx (Hr:=[.row (.slice (some ⟨hA,0,none⟩) 1 1) 78 4 (List.map Ab ([(Aa.mk 4 0 ha.1 0)]:List Aa))]) H7 (DK hb g7 gj.2 ([44]:Ah) hz cR) rfl (AaP _) rfl ?_;rintro _ _ ⟨g9,rfl,rfl⟩;refine wv (BJ rfl) (Ar (Ap (b:=!hz.1) rfl (λgl=>?_) (λgl=>?_)))
          ·have cS:=AB gl g8;refine Ak (wv (r:=rB false) (Ac rfl) (Ar (Ax (A3 (Af (Af (Bc ?_)))))));have cT:=B1 cS h4 hE;refine A3 ?_;obtain rfl:=Az cT;exact Aw (BS NV (AJ rfl)) (sC (sC (sS sN))) ⟨g9,rfl,rfl⟩
          ·have cU:=AC gl g8;refine At (AK (AN (Aj (wm rfl ?_))));obtain⟨cV,cW⟩:=Av cU;refine wv (Bi rfl rfl cV) (wa rfl (Al ?_));have cX:=Bk cW h4;exact Aq (AG (cx,(ha.1,hi+1,hz.2.fS,hz.2.fAt,hz.2.fCells,hz.2.fGreat),g9) ⟨cX,AaX _⟩ (AQ.c rfl (AQ.c rfl (AQ.c5 rfl rfl rfl rfl rfl AQ.nil))) (sC (sC (sS sN))))
     ·rintro⟨⟨⟩,⟨⟩⟩ cY
      cases cY
theorem Mf:∀F:Nat,(∀(ha:Nat) (hb:Value) (q:A1) (r:Bool×A1),Cv F q=some r→Fn Tryz.prog GE 83 [rv (.pointer (some ⟨ha,0,none⟩))] [.blk ha [rS q.fS,rI .i64 q.fAt,rv hb,rB q.fGreat] 115,.row hb 78 4 (List.map Ab q.fCells)] (λR H=>∃w0_2:Value,R=rB r.1∧H=[.blk ha [rS r.2.fS,rI .i64 r.2.fAt,rv w0_2,rB r.2.fGreat] 115,.row w0_2 78 4 (List.map Ab r.2.fCells)]))
  | 0=>(λ_ _ _ _ h=>by simp[Cv] at h)
  | nn+1=>(λha hb q r h=>Ru nn (Cv nn) (Mf nn) ha hb q r (by rw[Cv] at h;exact h))
theorem Tu (F:Nat)(ha:Nat)(hb:Value)(q:A1)(r:Bool×A1)(h:Cv F q=some r):Fn Tryz.prog GE 83 [rv (.pointer (some ⟨ha,0,none⟩))] [.blk ha [rS q.fS,rI .i64 q.fAt,rv hb,rB q.fGreat] 115,.row hb 78 4 (List.map Ab q.fCells)] (λR H=>∃w0_2:Value,R=rB r.1∧H=[.blk ha [rS r.2.fS,rI .i64 r.2.fAt,rv w0_2,rB r.2.fGreat] 115,.row w0_2 78 4 (List.map Ab r.2.fCells)]):=(Mf F) ha hb q r h
theorem Ty (F:Nat)(s:Ah)(r:(List Aa)×Int)(h:KH F s=some r):Fn Tryz.prog GE 54 [rS s] [] (λR H=>R=C5 [Bo 4 (List.map Ab r.1),rI .i64 r.2]∧H=[]):=by
 refine enter (n:=34) Tryz.func54 rfl Tryz.ntmps54 rfl (λw Z=>?_);refine Bb (l':=[(0,rS s)]) (H':=[]) rfl rfl ?_;unfold KH at h;refine Ak (wv (r:=rv (.slice none 0 0)) (Ac rfl) (wv (r:=rI .i64 0) (Ac rfl) (Ar (Am (Ak (wm rfl (wv (Bd BP rfl) (wv (Cl rfl rfl) (Ar (Ap (b:=decide (4000<(s.length:Int))) rfl (λc1=>?_) (λc1=>?_)))))))))))
 ·have h2:=AB c1 h;refine Ak (wv (r:=rv (.slice none 0 0)) (Ac rfl) (wv (r:=rI .i64 3) (Ac rfl) (Ar (Ax (Af (WK.up (d:=2) (r:=Bo 4 (List.map Ab ([]:List Aa))) rfl (Up.le (GJ.nil _)) ?_))))));obtain rfl:=Az h2;exact Aw (Dg Xf (AJ rfl) (AJ rfl)) sN ⟨rfl,rfl⟩
 ·have h3:=AC c1 h;refine At (AN (Ak (wm rfl (wv (r:=Bz [rS s,rI .i64 0,rv (.slice none 0 0),rB false]) (Pn rfl rfl) (C1 rfl rfl (λb4=>?_))))));refine wa rfl (Ar (Am (Dz (S:=(Bool×Ah×Int×(List Aa)×Bool)×(Value)) (λσ=>G6 F σ.1.1 σ.1.2.1 σ.1.2.2.1 σ.1.2.2.2.1 σ.1.2.2.2.2=some r) (λσ=>[(2,rv (.slice none 0 0)),(3,rI .i64 0),(4,rv (.pointer (some ⟨b4,0,none⟩))),(22,rB σ.1.1)]) (λσ=>[.blk b4 [rS σ.1.2.1,rI .i64 σ.1.2.2.1,rv σ.2,rB σ.1.2.2.2.2] 115,.row σ.2 78 4 (List.map Ab σ.1.2.2.2.1)]) ?_ ?_)))
  ·refine Aj (wm rfl (WL.nilrow (e:=78) (sz:=4) ?_));obtain⟨hb,ho,hj⟩:=AL h3;refine Gx (Hr:=[]) Tryz.call83 (Tu F b4 (.slice none 0 0                                                                              ) (A1.mk s 0 ([]:List Aa) false) hb ho) rfl ((A9 (i:=1) rfl).trans (AaT _ (AaP _))) rfl ?_;rintro _ _ ⟨v21,rfl,rfl⟩;refine wv (BJ rfl) (wm rfl (AH (!hb.1) (λha=>?_) (λha=>?_)))
   ·have hp:=AB ha hj;exact wf ha (wf ha (wf ha (wf ha (wf ha (wf ha (wf ha (wv (r:=rB true) (As (b:=!hb.1) rfl ha rfl) (Al (Aq (AG ((true,hb.2.fS,hb.2.fAt,hb.2.fCells,hb.2.fGreat),v21) hp (AQ.c rfl (AQ.c rfl (AQ.c rfl (AQ.c rfl AQ.nil)))) (sC (sC sN))))))))))))
   ·have hq:=AC ha hj;exact wo ha (wm rfl (wo ha (wv (A6 rfl) (wo ha (wv (Ad B8 rfl Cu rfl rfl) (wo ha (wv (A0 (i:=0) Dd rfl rfl rfl) (wo ha (wm rfl (wo ha (wv (Bd BP rfl) (wo ha (wv (CF rfl rfl) (D4 rfl ha rfl (Al (Aq (AG ((!decide (hb.2.fAt=(s.length:Int)),hb.2.fS,hb.2.fAt,hb.2.fCells,hb.2.fGreat),v21) hq (AQ.c rfl (AQ.c rfl (AQ.c rfl (AQ.c rfl AQ.nil)))) (sC (sC sN)))))))))))))))))))
  ·rintro⟨⟨hf,hk,hl,he,hg⟩,hm⟩ hd;refine Bb (l':=[(2,rv (.slice none 0 0)),(3,rI .i64 0),(4,rv (.pointer (some ⟨b4,0,none⟩))),(22,rB hf)]) (H':=[.blk b4 [rS hk,rI .i64 hl,rv hm,rB hg] 115,.row hm 78 4 (List.map Ab he)]) rfl rfl ?_;replace hd:G6 F hf hk hl he hg=some r:=hd;unfold G6 at hd;refine Ap (b:=hf) rfl (λhh=>?_) (λhh=>?_)
   ·have hr:=AB hh hd;refine Ak (wv (r:=rv (.slice none 0 0)) (Ac rfl) (wv (r:=rI .i64 1) (Ac rfl) (Ar (Ax (Af (WK.up (d:=2) (r:=Bo 4 (List.map Ab ([]:List Aa))) rfl (Up.le (GJ.nil _)) ?_))))));obtain rfl:=Az hr;exact Aw (Dg Xf (AJ rfl) (AJ rfl)) (sS (sS sN)) ⟨rfl,rfl⟩
   ·have hn:=AC hh hd;refine At (AN (Am (Ak (wm rfl (wv (A6 rfl) (wv (Ad B8 rfl HO rfl rfl) (wv (A0 (i:=0) Sk rfl rfl rfl) (Ar (Ap (b:=hg) rfl (λhi=>?_) (λhi=>?_))))))))))
    ·have hs:=AB hi hn;refine Ak (wv (r:=rv (.slice none 0 0)) (Ac rfl) (wv (r:=rI .i64 2) (Ac rfl) (Ar (Ax (Af (WK.up (d:=2) (r:=Bo 4 (List.map Ab ([]:List Aa))) rfl (Up.le (GJ.nil _)) ?_))))));obtain rfl:=Az hs;exact Aw (Dg Xf (AJ rfl) (AJ rfl)) (sS (sS sN)) ⟨rfl,rfl⟩
    ·have ht:=AC hi hn;refine At (AN (Ak (wm rfl (wv (A6 rfl) (wv (Ad B8 rfl Ds rfl rfl) (wv (A0 (i:=0) GK rfl rfl rfl) (WL.freeze (i:=1) rfl (WL.up (d:=30) (r:=Bo 4 (List.map Ab he)) rfl (Up.fact (i:=0) rfl) ?_))))))));obtain⟨hu,hw,hx⟩:=AL ht;refine Co Tryz.call84 (Ry F he hu hw) rfl (wv (AF rfl rfl) (wv (AF rfl rfl) (wa rfl (wa rfl (Ar (Ax ?_))))));obtain rfl:=Az hx;exact Aw (Dg Xf (AJ rfl) (AJ rfl)) (sS (sS sN)) ⟨rfl,rfl⟩
end Go.Proofs.YtkoiaconljdbeaaGreatDoor.Q
namespace Go.Proofs.YtkoiaconljdbeaaGreatDoor
open Go
set_option linter.unusedVariables false
end Go.Proofs.YtkoiaconljdbeaaGreatDoor
namespace Go.Proofs.YtkoiaconljdbeaaGreatDoor.Q
open Go Go.RowKit
set_option linter.unusedVariables false
set_option linter.unusedSimpArgs false
set_option maxRecDepth 100000
set_option maxHeartbeats 4000000
end Go.Proofs.YtkoiaconljdbeaaGreatDoor.Q
namespace Go.Proofs.YtkoiaconljdbeaaGreatDoor
open Go
set_option linter.unusedVariables false
def KX (F:Nat)(v:(List Aa)):Option ((List Aa)×Int):=
 Bx (Kt F v) λr1=>Bj (!decide (r1=0)) (some (([]:List Aa),r1)) (some (v,0))
def Qj :Option ((List Aa)):=
 some ([(Aa.mk 1 0 ([]:Ah) 0)]:List Aa)
def Mj (b:Bool):Option ((List Aa)):=
 Bj (b) (some ([(Aa.mk 2 1 ([]:Ah) 0)]:List Aa)) (some ([(Aa.mk 2 0 ([]:Ah) 0)]:List Aa))
def Bn (s:Ah)(at_:Int)(word:Ah):Option (Bool):=
 AX (Bw .i64 (at_+(word.length:Int)))<|AX (imp (decide ((at_+(word.length:Int))≤(s.length:Int))) (Hp at_ (at_+(word.length:Int))))<|AX (imp (decide ((at_+(word.length:Int))≤(s.length:Int))) (Hp (at_+(word.length:Int)) (s.length:Int)))<|some ((decide ((at_+(word.length:Int))≤(s.length:Int)))&&(decide ((List.take (Int.toNat (at_+(word.length:Int))-Int.toNat at_) (List.drop (Int.toNat at_) s))=word)))
def Cy (s:Ah)(hb:Ah)(ha:Int):Option (Stp (Ah×Int) (Out (Ah×Int) (Ah×Int))):=
 AX (imp (decide (ha<(s.length:Int))) (CH ha (s.length:Int)))<|Bj (((decide (ha<(s.length:Int)))&&(!decide ((AT s ha)=34)))) (AX (CH ha (s.length:Int))<|Bj (decide ((AT s ha)=92)) (AX (Bw .i64 (ha+1))<|AX (imp (!(decide ((s.length:Int)≤(ha+1)))) (CH (ha+1) (s.length:Int)))<|Bj (((decide ((s.length:Int)≤(ha+1)))||((!decide ((AT s (ha+1))=34))&&(!decide ((AT s (ha+1))=92))))) (some (.out (.ret (([]:Ah),(-1))))) (AX (Bw .i64 ((ha+1)+1))<|AX (Hp (ha+1) ((ha+1)+1))<|AX (Hp ((ha+1)+1) (s.length:Int))<|AX (Bw .i64 ((hb.length:Int)+((List.take (Int.toNat ((ha+1)+1)-Int.toNat (ha+1)) (List.drop (Int.toNat (ha+1)) s)).length:Int)))<|some (.next (hb++(List.take (Int.toNat ((ha+1)+1)-Int.toNat (ha+1)) (List.drop (Int.toNat (ha+1)) s)),(ha+1)+1)))) (AX (Bw .i64 (ha+1))<|AX (Hp ha (ha+1))<|AX (Hp (ha+1) (s.length:Int))<|AX (Bw .i64 ((hb.length:Int)+((List.take (Int.toNat (ha+1)-Int.toNat ha) (List.drop (Int.toNat ha) s)).length:Int)))<|some (.next (hb++(List.take (Int.toNat (ha+1)-Int.toNat ha) (List.drop (Int.toNat ha) s)),ha+1)))) (some (.out (.go (hb,ha))))
def CI (s:Ah)(hb:Ah)(ha:Int):Option (Ah×Int):=
 Bj (decide ((s.length:Int)≤ha)) (some (([]:Ah),(-1))) (AX (Bw .i64 (ha+1))<|some (hb,ha+1))
def Dc (F:Nat)(s:Ah)(at_:Int):Option (Ah×Int):=
 AX (imp (!(decide ((s.length:Int)≤at_))) (CH at_ (s.length:Int)))<|Bj (((decide ((s.length:Int)≤at_))||(!decide ((AT s at_)=34)))) (some (([]:Ah),(-1))) (AX (Bw .i64 (at_+1))<|Bx (Cg (λσ=>Cy s σ.1 σ.2) F (([]:Ah),at_+1)) (BL λν=>CI s ν.1 ν.2))
def Gc (s:Ah)(at_:Int)(ha:Int)(hb:Int):Option (Stp (Int×Int) (Out ((List Aa)×Int) (Int×Int))):=
 AX (imp (decide (ha<(s.length:Int))) (CH ha (s.length:Int)))<|Bj (((decide (ha<(s.length:Int)))&&((decide (48≤(AT s ha)))&&(decide ((AT s ha)≤57))))) (AX (Bw .i64 (ha-(at_+1)))<|Bj (decide ((ha-(at_+1))<18)) (AX (Bw .i64 (10*hb))<|AX (CH ha (s.length:Int))<|AX (Bw .u8 ((AT s ha)-48))<|AX (Bw .i64 ((AT s ha)-48))<|AX (Bw .i64 ((10*hb)+((AT s ha)-48)))<|AX (Bw .i64 (ha+1))<|some (.next (ha+1,(10*hb)+((AT s ha)-48)))) (AX (Bw .i64 (ha+1))<|some (.next (ha+1,hb)))) (some (.out (.go (ha,hb))))
def Ga (s:Ah)(at_:Int)(ha:Int)(hb:Int):Option ((List Aa)×Int):=
 AX (imp (!(decide (ha=(at_+1)))) (CH (at_+1) (s.length:Int)))<|AX (imp (!(decide (ha=(at_+1)))) (imp (decide ((AT s (at_+1))=48)) (Bw .i64 ((at_+1)+1))))<|Bj (((decide (ha=(at_+1)))||((decide ((AT s (at_+1))=48))&&((decide (((at_+1)+1)<ha))||(decide (at_<(at_+1))))))) (some (([]:List Aa),(-1))) (AX (Bw .i64 (ha-(at_+1)))<|Bj (decide (18<(ha-(at_+1)))) (Bj (decide (at_<(at_+1))) (AX (Bw .i64 (-2000000000000))<|some (([(Aa.mk 3 (-2000000000000) ([]:Ah) 0)]:List Aa),ha)) (some (([(Aa.mk 3 2000000000000 ([]:Ah) 0)]:List Aa),ha))) (Bj (decide (at_<(at_+1))) (AX (Bw .i64 (-hb))<|some (([(Aa.mk 3 (-hb) ([]:Ah) 0)]:List Aa),ha)) (some (([(Aa.mk 3 hb ([]:Ah) 0)]:List Aa),ha))))
def Gb (s:Ah)(at_:Int)(ha:Int)(hb:Int):Option (Stp (Int×Int) (Out ((List Aa)×Int) (Int×Int))):=
 AX (imp (decide (ha<(s.length:Int))) (CH ha (s.length:Int)))<|Bj (((decide (ha<(s.length:Int)))&&((decide (48≤(AT s ha)))&&(decide ((AT s ha)≤57))))) (AX (Bw .i64 (ha-at_))<|Bj (decide ((ha-at_)<18)) (AX (Bw .i64 (10*hb))<|AX (CH ha (s.length:Int))<|AX (Bw .u8 ((AT s ha)-48))<|AX (Bw .i64 ((AT s ha)-48))<|AX (Bw .i64 ((10*hb)+((AT s ha)-48)))<|AX (Bw .i64 (ha+1))<|some (.next (ha+1,(10*hb)+((AT s ha)-48)))) (AX (Bw .i64 (ha+1))<|some (.next (ha+1,hb)))) (some (.out (.go (ha,hb))))
def EZ (s:Ah)(at_:Int)(ha:Int)(hb:Int):Option ((List Aa)×Int):=
 AX (imp (!(decide (ha=at_))) (imp (decide ((AT s at_)=48)) (Bw .i64 (at_+1))))<|Bj (((decide (ha=at_))||((decide ((AT s at_)=48))&&((decide ((at_+1)<ha))||(decide (at_<at_)))))) (some (([]:List Aa),(-1))) (AX (Bw .i64 (ha-at_))<|Bj (decide (18<(ha-at_))) (Bj (decide (at_<at_)) (AX (Bw .i64 (-2000000000000))<|some (([(Aa.mk 3 (-2000000000000) ([]:Ah) 0)]:List Aa),ha)) (some (([(Aa.mk 3 2000000000000 ([]:Ah) 0)]:List Aa),ha))) (Bj (decide (at_<at_)) (AX (Bw .i64 (-hb))<|some (([(Aa.mk 3 (-hb) ([]:Ah) 0)]:List Aa),ha)) (some (([(Aa.mk 3 hb ([]:Ah) 0)]:List Aa),ha))))
def Ix (F:Nat)(s:Ah)(at_:Int):Option ((List Aa)×Int):=
 AX (CH at_ (s.length:Int))<|Bj (decide ((AT s at_)=45)) (AX (Bw .i64 (at_+1))<|Bx (Cg (λσ=>Gc s at_ σ.1 σ.2) F (at_+1,0)) (BL λν=>Ga s at_ ν.1 ν.2)) (Bx (Cg (λσ=>Gb s at_ σ.1 σ.2) F (at_,0)) (BL λν=>EZ s at_ ν.1 ν.2))
def Pb (F:Nat)(he:Ah→Int→Option ((List Aa)×Int))(s:Ah)(at_:Int):Option ((List Aa)×Int):=
 Bj (decide ((s.length:Int)≤at_)) (some (([]:List Aa),(-1))) (Bx (Bn s at_ ([110,117,108,108]:Ah)) λr4=>Bj (r4) (Bx (Qj) λr9=>AX (Bw .i64 (at_+4))<|some (r9,at_+4)) (Bx (Bn s at_ ([116,114,117,101]:Ah)) λhf=>Bj (hf) (Bx (Mj true) λhg=>AX (Bw .i64 (at_+4))<|some (hg,at_+4)) (Bx (Bn s at_ ([102,97,108,115,101]:Ah)) λhh=>Bj (hh) (Bx (Mj false) λhi=>AX (Bw .i64 (at_+5))<|some (hi,at_+5)) (AX (CH at_ (s.length:Int))<|Bj (decide ((AT s at_)=34)) (Bx (Dc F s at_) λha=>some (([(Aa.mk 4 0 ha.1 0)]:List Aa),ha.2)) (Bj (((decide ((AT s at_)=91))||(decide ((AT s at_)=123)))) (Bx (he s at_) λhb=>some (hb.1,hb.2)) (Bx (Ix F s at_) λhd=>some (hd.1,hd.2)))))))
def Hh (F:Nat)(s:Ah)(hh:Ah→Int→Option ((List Aa)×Int))(hg:(List Aa))(hb:Int)(ha:Aa):Option (Stp ((List Aa)×Int×Aa) (Out ((List Aa)×Int) ((List Aa)×Int×Aa))):=
 AX ((Bn s hb ([125]:Ah)).isSome)<|AX (imp (!(!(ov (Bn s hb ([125]:Ah))))) (imp (decide (0<ha.fN)) (Bw .i64 (hb-1))))<|AX (imp (!(!(ov (Bn s hb ([125]:Ah))))) (imp (decide (0<ha.fN)) (CH (hb-1) (s.length:Int))))<|Bj (((!(ov (Bn s hb ([125]:Ah))))||((decide (0<ha.fN))&&(decide ((AT s (hb-1))=44))))) (Bj (decide (ha.fKind=6)) (Bx (Dc F s hb) λhd=>AX (imp (!(decide (hd.2<0))) ((Bn s hd.2 ([58]:Ah)).isSome))<|Bj (((decide (hd.2<0))||(!(ov (Bn s hd.2 ([58]:Ah)))))) (some (.out (.ret (([]:List Aa),(-1))))) (AX (DC 40 (hg.length+([(Aa.mk 4 0 hd.1 0)]:List Aa).length))<|AX (Bw .i64 (hd.2+1))<|Bx (hh s (hd.2+1)) λhe=>Bj (decide (he.2<0)) (some (.out (.ret (([]:List Aa),(-1))))) (AX (DC 40 ((hg++([(Aa.mk 4 0 hd.1 0)]:List Aa)).length+he.1.length))<|AX (Bw .i64 (ha.fN+1))<|Bx (Bn s he.2 ([44]:Ah)) λhi=>Bj (hi) (AX (Bw .i64 (he.2+1))<|some (.next ((hg++([(Aa.mk 4 0 hd.1 0)]:List Aa))++he.1,he.2+1,(Aa.mk ha.fKind ha.fInt ha.fStr (ha.fN+1))))) (Bx (Bn s he.2 ([125]:Ah)) λhj=>Bj (!hj) (some (.out (.ret (([]:List Aa),(-1))))) (some (.next ((hg++([(Aa.mk 4 0 hd.1 0)]:List Aa))++he.1,he.2,(Aa.mk ha.fKind ha.fInt ha.fStr (ha.fN+1))))))))) (Bx (hh s hb) λhf=>Bj (decide (hf.2<0)) (some (.out (.ret (([]:List Aa),(-1))))) (AX (DC 40 (hg.length+hf.1.length))<|AX (Bw .i64 (ha.fN+1))<|Bx (Bn s hf.2 ([44]:Ah)) λhk=>Bj (hk) (AX (Bw .i64 (hf.2+1))<|some (.next (hg++hf.1,hf.2+1,(Aa.mk ha.fKind ha.fInt ha.fStr (ha.fN+1))))) (Bx (Bn s hf.2 ([125]:Ah)) λhl=>Bj (!hl) (some (.out (.ret (([]:List Aa),(-1))))) (some (.next (hg++hf.1,hf.2,(Aa.mk ha.fKind ha.fInt ha.fStr (ha.fN+1))))))))) (some (.out (.go (hg,hb,ha))))
def Hf (ha:(List Aa))(hb:Int)(hd:Aa):Option ((List Aa)×Int):=
 AX (DC 40 (([hd]:List Aa).length+ha.length))<|AX (Bw .i64 (hb+1))<|some (([hd]:List Aa)++ha,hb+1)
def Hg (F:Nat)(s:Ah)(hh:Ah→Int→Option ((List Aa)×Int))(hg:(List Aa))(hb:Int)(ha:Aa):Option (Stp ((List Aa)×Int×Aa) (Out ((List Aa)×Int) ((List Aa)×Int×Aa))):=
 AX ((Bn s hb ([93]:Ah)).isSome)<|AX (imp (!(!(ov (Bn s hb ([93]:Ah))))) (imp (decide (0<ha.fN)) (Bw .i64 (hb-1))))<|AX (imp (!(!(ov (Bn s hb ([93]:Ah))))) (imp (decide (0<ha.fN)) (CH (hb-1) (s.length:Int))))<|Bj (((!(ov (Bn s hb ([93]:Ah))))||((decide (0<ha.fN))&&(decide ((AT s (hb-1))=44))))) (Bj (decide (ha.fKind=6)) (Bx (Dc F s hb) λhd=>AX (imp (!(decide (hd.2<0))) ((Bn s hd.2 ([58]:Ah)).isSome))<|Bj (((decide (hd.2<0))||(!(ov (Bn s hd.2 ([58]:Ah)))))) (some (.out (.ret (([]:List Aa),(-1))))) (AX (DC 40 (hg.length+([(Aa.mk 4 0 hd.1 0)]:List Aa).length))<|AX (Bw .i64 (hd.2+1))<|Bx (hh s (hd.2+1)) λhe=>Bj (decide (he.2<0)) (some (.out (.ret (([]:List Aa),(-1))))) (AX (DC 40 ((hg++([(Aa.mk 4 0 hd.1 0)]:List Aa)).length+he.1.length))<|AX (Bw .i64 (ha.fN+1))<|Bx (Bn s he.2 ([44]:Ah)) λhi=>Bj (hi) (AX (Bw .i64 (he.2+1))<|some (.next ((hg++([(Aa.mk 4 0 hd.1 0)]:List Aa))++he.1,he.2+1,(Aa.mk ha.fKind ha.fInt ha.fStr (ha.fN+1))))) (Bx (Bn s he.2 ([93]:Ah)) λhj=>Bj (!hj) (some (.out (.ret (([]:List Aa),(-1))))) (some (.next ((hg++([(Aa.mk 4 0 hd.1 0)]:List Aa))++he.1,he.2,(Aa.mk ha.fKind ha.fInt ha.fStr (ha.fN+1))))))))) (Bx (hh s hb) λhf=>Bj (decide (hf.2<0)) (some (.out (.ret (([]:List Aa),(-1))))) (AX (DC 40 (hg.length+hf.1.length))<|AX (Bw .i64 (ha.fN+1))<|Bx (Bn s hf.2 ([44]:Ah)) λhk=>Bj (hk) (AX (Bw .i64 (hf.2+1))<|some (.next (hg++hf.1,hf.2+1,(Aa.mk ha.fKind ha.fInt ha.fStr (ha.fN+1))))) (Bx (Bn s hf.2 ([93]:Ah)) λhl=>Bj (!hl) (some (.out (.ret (([]:List Aa),(-1))))) (some (.next (hg++hf.1,hf.2,(Aa.mk ha.fKind ha.fInt ha.fStr (ha.fN+1))))))))) (some (.out (.go (hg,hb,ha))))
def He (ha:(List Aa))(hb:Int)(hd:Aa):Option ((List Aa)×Int):=
 AX (DC 40 (([hd]:List Aa).length+ha.length))<|AX (Bw .i64 (hb+1))<|some (([hd]:List Aa)++ha,hb+1)
def IE (F:Nat)(ha:Ah→Int→Option ((List Aa)×Int))(s:Ah)(at_:Int):Option ((List Aa)×Int):=
 AX (CH at_ (s.length:Int))<|Bj (decide ((AT s at_)=123)) (AX (Bw .i64 (at_+1))<|Bx (Cg (λσ=>Hh F s ha σ.1 σ.2.1 σ.2.2) F (([]:List Aa),at_+1,(Aa.mk 6 0 ([]:Ah) 0))) (BL λν=>Hf ν.1 ν.2.1 ν.2.2)) (AX (Bw .i64 (at_+1))<|Bx (Cg (λσ=>Hg F s ha σ.1 σ.2.1 σ.2.2) F (([]:List Aa),at_+1,(Aa.mk 5 0 ([]:Ah) 0))) (BL λν=>He ν.1 ν.2.1 ν.2.2))
mutual
def GW:Nat→Ah→Int→Option ((List Aa)×Int)
 | 0,_,_=>none
 | nn+1,s,at_=>Pb nn (D6 nn) s at_
def D6:Nat→Ah→Int→Option ((List Aa)×Int)
 | 0,_,_=>none
 | nn+1,s,at_=>IE nn (GW nn) s at_
end
def KW (F:Nat)(s:Ah):Option ((List Aa)×Int):=
 Bj (decide (4000<(s.length:Int))) (some (([]:List Aa),3)) (Bx (GW F s 0) λr4=>Bj (!decide (r4.2=(s.length:Int))) (some (([]:List Aa),1)) (Bx (KX F r4.1) λha=>some (ha.1,ha.2)))
end Go.Proofs.YtkoiaconljdbeaaGreatDoor
namespace Go.Proofs.YtkoiaconljdbeaaGreatDoor.Q
open Go Go.RowKit
set_option linter.unusedVariables false
set_option linter.unusedSimpArgs false
set_option maxRecDepth 100000
set_option maxHeartbeats 4000000
theorem RC (F:Nat)(v:(List Aa))(r:(List Aa)×Int)(h:KX F v=some r):Fn Tryz.prog GE 87 [Bo 4 (List.map Ab v)] [] (λR H=>R=C5 [Bo 4 (List.map Ab r.1),rI .i64 r.2]∧H=[]):=by
 refine enter (n:=11) Tryz.func87 rfl Tryz.ntmps87 rfl (λw Z=>?_);refine Bb (l':=[(0,Bo 4 (List.map Ab v))]) (H':=[]) rfl rfl ?_;unfold KX at h;refine Ak (wv (r:=rv (.slice none 0 0)) (Ac rfl) (wv (r:=rI .i64 0) (Ac rfl) (By (wm rfl ?_))));obtain⟨r1,e3,h2⟩:=AL h;refine Co Tryz.call78 (Nx F v r1 e3) rfl (wa rfl (Ar (Am (Ak (wm rfl (wv (CF rfl rfl) (Ar (Ap (b:=!decide (r1=0)) rfl (λc4=>?_) (λc4=>?_)))))))))
 ·have h5:=AB c4 h2;refine Ak (wm rfl (wv (r:=rv (.slice none 0 0)) (Ac rfl) (wa rfl (Ar (Ax (Af (WK.up (d:=2) (r:=Bo 4 (List.map Ab ([]:List Aa))) rfl (Up.le (GJ.nil _)) ?_)))))));obtain rfl:=Az h5;exact Aw (Dg Tryz.results87 (AJ rfl) (AJ rfl)) sN ⟨rfl,rfl⟩
 ·have h6:=AC c4 h2;refine At (AN (Ak (wm rfl (wa rfl (wv (r:=rI .i64 0) (Ac rfl) (Ar (Ax ?_)))))));obtain rfl:=Az h6;exact Aw (Dg Tryz.results87 (AJ rfl) (AJ rfl)) sN ⟨rfl,rfl⟩
theorem X8  (r:(List Aa))(h:Qj=some r):Fn Tryz.prog GE 121 [] [] (λR H=>R=Bo 4 (List.map Ab r)∧H=[]):=by
 refine enter (n:=3) Tryz.func121 rfl Tryz.ntmps121 rfl (λw Z=>?_);refine Bb (l':=[]) (H':=[]) rfl rfl ?_;unfold Qj at h;refine Ak (wv (r:=rv (.slice none 0 0)) (Ac rfl) (By (wv (r:=Bz [rI .i64 1,rI .i64 0,rS ([]:Ah),rI .i64 0]) (DF rfl rfl) (AY (ys:=([(Aa.mk 1 0 ([]:Ah) 0)]:List Aa)) (enc:=Ab) (css:=[[rI .i64 1,rI .i64 0,rS ([]:Ah),rI .i64 0]]) (xs:=[.tmp 1]) BN Cb EA rfl rfl rfl ⟨Gw.agg ⟨Up.refl _,Up.refl _,Up.refl _,Up.refl _,trivial⟩,trivial⟩ rfl AU rfl rfl rfl (λb1=>?_)))));refine wa rfl (Ar (Ax (WK.freeze (i:=0) rfl (WK.up (d:=0) (r:=Bo 4 (List.map Ab ([(Aa.mk 1 0 ([]:Ah) 0)]:List Aa))) rfl (Up.fact (i:=0) rfl) ?_))));obtain rfl:=Az h;exact Aw (BS Tryz.results121 (AJ rfl)) (sS sN) ⟨rfl,rfl⟩
theorem S6 (b:Bool)(r:(List Aa))(h:Mj b=some r):Fn Tryz.prog GE 122 [rB b] [] (λR H=>R=Bo 4 (List.map Ab r)∧H=[]):=by
 refine enter (n:=8) Tryz.func122 rfl Tryz.ntmps122 rfl (λw Z=>?_);refine Bb (l':=[(0,rB b)]) (H':=[]) rfl rfl ?_;unfold Mj at h;refine Ak (wv (r:=rv (.slice none 0 0)) (Ac rfl) (Ar (Am (Ak (wm rfl (Ar (Ap (b:=b) rfl (λc1=>?_) (λc1=>?_))))))))
 ·have h2:=AB c1 h;refine Ak (wv (r:=Bz [rI .i64 2,rI .i64 1,rS ([]:Ah),rI .i64 0]) (Cm rfl rfl rfl rfl) (AY (ys:=([(Aa.mk 2 1 ([]:Ah) 0)]:List Aa)) (enc:=Ab) (css:=[[rI .i64 2,rI .i64 1,rS ([]:Ah),rI .i64 0]]) (xs:=[.tmp 4]) BN Cb EA rfl rfl rfl ⟨Gw.agg ⟨Up.refl _,Up.refl _,Up.refl _,Up.refl _,trivial⟩,trivial⟩ rfl AU rfl rfl rfl (λb3=>?_)));refine wa rfl (Ar (Ax (Af (WK.freeze (i:=0) rfl (WK.up (d:=2) (r:=Bo 4 (List.map Ab ([(Aa.mk 2 1 ([]:Ah) 0)]:List Aa))) rfl (Up.fact (i:=0) rfl) ?_)))));obtain rfl:=Az h2;exact Aw (BS Tryz.results122 (AJ rfl)) (sS sN) ⟨rfl,rfl⟩
 ·have h4:=AC c1 h;refine At (AN (Ak (wv (r:=Bz [rI .i64 2,rI .i64 0,rS ([]:Ah),rI .i64 0]) (DF rfl rfl) (AY (ys:=([(Aa.mk 2 0 ([]:Ah) 0)]:List Aa)) (enc:=Ab) (css:=[[rI .i64 2,rI .i64 0,rS ([]:Ah),rI .i64 0]]) (xs:=[.tmp 6]) BN Cb EA rfl rfl rfl ⟨Gw.agg ⟨Up.refl _,Up.refl _,Up.refl _,Up.refl _,trivial⟩,trivial⟩ rfl AU rfl rfl rfl (λb5=>?_)))));refine wa rfl (Ar (Ax (WK.freeze (i:=0) rfl (WK.up (d:=2) (r:=Bo 4 (List.map Ab ([(Aa.mk 2 0 ([]:Ah) 0)]:List Aa))) rfl (Up.fact (i:=0) rfl) ?_))));obtain rfl:=Az h4;exact Aw (BS Tryz.results122 (AJ rfl)) (sS sN) ⟨rfl,rfl⟩
theorem CB (s:Ah)(at_:Int)(word:Ah)(r:Bool)(h:Bn s at_ word=some r):Fn Tryz.prog GE 120 [rS s,rI .i64 at_,rS word] [] (λR H=>R=rB r∧H=[]):=by
 refine enter (n:=25) Tryz.func120 rfl Tryz.ntmps120 rfl (λw Z=>?_);refine Bb (l':=[(0,rS s),(1,rI .i64 at_),(2,rS word)]) (H':=[]) rfl rfl ?_;unfold Bn at h;refine Ak (wv (r:=rB false) (Ac rfl) (Ar ?_));obtain⟨g1,h2⟩:=Av h;obtain⟨g3,h4⟩:=Av h2;obtain⟨g5,h6⟩:=Av h4;refine AA [(6,rB ((decide ((at_+(word.length:Int))≤(s.length:Int)))&&(decide ((List.take (Int.toNat (at_+(word.length:Int))-Int.toNat at_) (List.drop (Int.toNat at_) s))=word))))] [] ?_ ?_
 ·refine Aj (wm rfl (wm rfl (wv (Bd BP rfl) (wv (Bi rfl rfl g1) (wm rfl (wv (Bd BP rfl) (wv (II rfl rfl) (wm rfl (AH (decide ((at_+(word.length:Int))≤(s.length:Int))) (λc7=>?_) (λc7=>?_))))))))))
  ·refine wo c7 (wm rfl (wo c7 (wm rfl (wo c7 (wm rfl (wo c7 (wm rfl (wo c7 (wv (Bd BP rfl) (wo c7 (wv (Bi rfl rfl g1) (wo c7 (wv (DN BP rfl rfl rfl (C0 g3 c7) (C0 g5 c7)) (wo c7 (wm rfl (wo c7 (wv (G0 rfl rfl) (Gk rfl c7 rfl (wa rfl (Al ?_))))))))))))))))))));exact BO c7
  ·refine wf c7 (wf c7 (wf c7 (wf c7 (wf c7 (wf c7 (wf c7 (wf c7 (wf c7 (wv (r:=rB false) (A4 (b:=decide ((at_+(word.length:Int))≤(s.length:Int))) rfl c7 rfl) (wa rfl (Al ?_)))))))))));exact BO c7
 refine Ax ?_;obtain rfl:=Az h6;exact Aw (BS Tryz.results120 (AJ rfl)) sN ⟨rfl,rfl⟩
theorem Ic (F:Nat)(s:Ah)(at_:Int)(r:Ah×Int)(h:Dc F s at_=some r):Fn Tryz.prog GE 123 [rS s,rI .i64 at_] [] (λR H=>R=C5 [rS r.1,rI .i64 r.2]∧H=[]):=by
 refine enter (n:=68) Tryz.func123 rfl Tryz.ntmps123 rfl (λw Z=>?_);refine Bb (l':=[(0,rS s),(1,rI .i64 at_)]) (H':=[]) rfl rfl ?_;unfold Dc at h;refine Ak (wv (r:=rS ([]:Ah)) (Ac rfl) (wv (r:=rI .i64 0) (Ac rfl) (Ar (Am ?_))));obtain⟨g1,h2⟩:=Av h;refine AA [(0,rS s),(1,rI .i64 at_),(17,rB ((decide ((s.length:Int)≤at_))||(!decide ((AT s at_)=34))))] [] ?_ ?_
 ·refine Aj (wm rfl (wm rfl (wv (Bd BP rfl) (wv (Gs rfl rfl) (wm rfl (AH (decide ((s.length:Int)≤at_)) (λc3=>?_) (λc3=>?_)))))))
  ·refine wf c3 (wf c3 (wf c3 (wf c3 (wv (r:=rB true) (As (b:=decide ((s.length:Int)≤at_)) rfl c3 rfl) (Al ?_)))));exact BO c3
  ·refine wo c3 (wm rfl (wo c3 (wm rfl (wo c3 (wv (AV BP rfl rfl (C4 g1 c3)) (wo c3 (wv (CF rfl rfl) (D4 rfl c3 rfl (Al ?_)))))))));exact BO c3
 refine Ap (b:=((decide ((s.length:Int)≤at_))||(!decide ((AT s at_)=34)))) rfl (λc4=>?_) (λc4=>?_)
 ·have h5:=AB c4 h2;refine Ak (wv (r:=rS ([]:Ah)) (Ac rfl) (wv (r:=rI .i64 (-1)) (Ac rfl) (Ar (Ax (Af ?_)))));obtain rfl:=Az h5;exact Aw (Dg Si (AJ rfl) (AJ rfl)) sN ⟨rfl,rfl⟩
 ·have h6:=AC c4 h2;refine At (AN (Ak (wv (r:=rS ([]:Ah)) (Ac rfl) (By (wm rfl ?_)))));obtain⟨g7,h8⟩:=Av h6;refine wv (Bi rfl rfl g7) (wa rfl (Ar (Am (AO ?_))));obtain⟨hy,hz,ho⟩:=AL h8;refine BA (S:=Nat×(Ah×Int)×(Unit)) (V:=(Ah×Int)×(Unit)) 0 (λσ=>Cg (λσ=>Cy s σ.1 σ.2) σ.1 σ.2.1=some hy) (λσ=>[(0,rS s),(6,rS σ.2.1.1),(7,rI .i64 σ.2.1.2)]) (λσ=>[]) (λσ=>σ.1) (F,(([]:Ah),at_+1),()) hz (AQ.c rfl (AQ.c rfl (AQ.c rfl AQ.nil))) sN (λσ=>CI s σ.1.1 σ.1.2=some r) (λσ=>[(0,rS s),(6,rS σ.1.1),(7,rI .i64 σ.1.2)]) (λσ=>[]) ?_ ?_
  ·rintro⟨ge,⟨hf,ha⟩,⟨⟩⟩ h0;refine Bb (l':=[(0,rS s),(6,rS hf),(7,rI .i64 ha)]) (H':=[]) rfl rfl ?_;obtain⟨hp,rfl,h1,hh,hi⟩:=CM h0;replace hh:Cy s hf ha=some h1:=hh;unfold Cy at hh;refine Am ?_;obtain⟨h3,hq⟩:=Av hh;refine AA [(0,rS s),(6,rS hf),(7,rI .i64 ha),(29,rB ((decide (ha<(s.length:Int)))&&(!decide ((AT s ha)=34))))] [] ?_ ?_
   ·refine Aj (wm rfl (wm rfl (wv (Bd BP rfl) (wv (Cp rfl rfl) (wm rfl (AH (decide (ha<(s.length:Int))) (λhd=>?_) (λhd=>?_)))))))
    ·refine wo hd (wm rfl (wo hd (wm rfl (wo hd (wv (AV BP rfl rfl (C0 h3 hd)) (wo hd (wv (CF rfl rfl) (Gk rfl hd rfl (Al ?_)))))))));exact BO hd
    ·refine wf hd (wf hd (wf hd (wf hd (wv (r:=rB false) (A4 (b:=decide (ha<(s.length:Int))) rfl hd rfl) (Al ?_)))));exact BO hd
   refine Ap (b:=((decide (ha<(s.length:Int)))&&(!decide ((AT s ha)=34)))) rfl (λhj=>?_) (λhj=>?_)
   ·have h4:=AB hj hq;refine At (AN (AO (Am (Ak (wm rfl (wm rfl ?_))))));obtain⟨h7,hr⟩:=Av h4;refine wv (AV BP rfl rfl h7) (wv (B3 rfl rfl) (Ar (Ap (b:=decide ((AT s ha)=92)) rfl (λhk=>?_) (λhk=>?_))))
    ·have h9:=AB hk hr;refine Ak (wm rfl ?_);obtain⟨hA,hB⟩:=Av h9;refine wv (Bi rfl rfl hA) (wa rfl (Ar ?_));obtain⟨hs,ht⟩:=Av hB;refine AA [(0,rS s),(6,rS hf),(7,rI .i64 (ha+1)),(51,rB ((decide ((s.length:Int)≤(ha+1)))||((!decide ((AT s (ha+1))=34))&&(!decide ((AT s (ha+1))=92)))))] [] ?_ ?_
     ·refine Aj (wm rfl (wm rfl (wv (Bd BP rfl) (wv (Gs rfl rfl) (wm rfl (AH (decide ((s.length:Int)≤(ha+1))) (λhb=>?_) (λhb=>?_)))))))
      ·refine wf hb (wf hb (wf hb (wf hb (wf hb (wu (wu (wu (wu (wf hb (wv (r:=rB true) (As (b:=decide ((s.length:Int)≤(ha+1))) rfl hb rfl) (Al ?_)))))))))));exact BO hb
      ·refine wo hb (wm rfl (wo hb (wm rfl (wo hb (wv (AV BP rfl rfl (C4 hs hb)) (wo hb (wv (CF rfl rfl) (wo hb (wm rfl (AH (!decide ((AT s (ha+1))=34)) (λhe=>?_) (λhe=>?_)))))))))))
       ·refine wo he (wm rfl (wo he (wm rfl (wo he (wv (AV BP rfl rfl (C4 hs hb)) (wo he (wv (CF rfl rfl) (wo hb (Gk rfl he rfl (D4 rfl hb rfl (Al ?_)))))))))));exact BO (And.intro hb he)
       ·refine wf he (wf he (wf he (wf he (wo hb (wv (r:=rB false) (A4 (b:=!decide ((AT s (ha+1))=34)) rfl he rfl) (D4 rfl hb rfl (Al ?_)))))));exact BO (And.intro hb he)
     refine Ap (b:=((decide ((s.length:Int)≤(ha+1)))||((!decide ((AT s (ha+1))=34))&&(!decide ((AT s (ha+1))=92))))) rfl (λhl=>?_) (λhl=>?_)
     ·have hC:=AB hl ht;refine Ak (wv (r:=rS ([]:Ah)) (Ac rfl) (wv (r:=rI .i64 (-1)) (Ac rfl) (Ar (Ax (Af (A3 (Af (Bc ?_))))))));have hD:=B1 hC hi ho;refine A3 (Af ?_);obtain rfl:=Az hD;exact Aw (Dg Si (AJ rfl) (AJ rfl)) sN ⟨rfl,rfl⟩
     ·have hE:=AC hl ht;refine At (AN (Ak (wm rfl (wm rfl (wm rfl (wm rfl ?_))))));obtain⟨hu,hG⟩:=Av hE;refine wv (Bi rfl rfl hu) ?_;obtain⟨hH,hI⟩:=Av hG;obtain⟨hJ,hK⟩:=Av hI;refine wv (DN BP rfl rfl rfl hH hJ) ?_;obtain⟨hL,hN⟩:=Av hK;refine wv (Do rfl rfl hL) (wa rfl (Ar (Aj (wm rfl (wv (Bi rfl rfl hu) (wa rfl (Al (AK ?_))))))));have hO:=Bk hN hi;exact Aq (AG (hp,(hf++(List.take (Int.toNat ((ha+1)+1)-Int.toNat (ha+1)) (List.drop (Int.toNat (ha+1)) s)),(ha+1)+1),()) ⟨hO,AaX _⟩ (AQ.c rfl (AQ.c rfl (AQ.c rfl AQ.nil))) sN)
    ·have hP:=AC hk hr;refine At (AN (Ak (wm rfl (wm rfl (wm rfl (wm rfl ?_))))));obtain⟨hw,hQ⟩:=Av hP;refine wv (Bi rfl rfl hw) ?_;obtain⟨hR,hS⟩:=Av hQ;obtain⟨hT,hU⟩:=Av hS;refine wv (DN BP rfl rfl rfl hR hT) ?_;obtain⟨hV,hW⟩:=Av hU;refine wv (Do rfl rfl hV) (wa rfl (Ar (Aj (wm rfl (wv (Bi rfl rfl hw) (wa rfl (Al (AK ?_))))))));have hX:=Bk hW hi;exact Aq (AG (hp,(hf++(List.take (Int.toNat (ha+1)-Int.toNat ha) (List.drop (Int.toNat ha) s)),ha+1),()) ⟨hX,AaX _⟩ (AQ.c rfl (AQ.c rfl (AQ.c rfl AQ.nil))) sN)
   ·have hY:=AC hj hq;refine B9 (A5 ?_);have hZ:=Cj hY hi ho;exact A5 (Br (AG ((hf,ha),()) hZ (AQ.c rfl (AQ.c rfl (AQ.c rfl AQ.nil))) sN))
  ·rintro⟨⟨hx,hm⟩,⟨⟩⟩ hg;refine CR (l':=[(0,rS s),(6,rS hx),(7,rI .i64 hm)]) (H':=[]) rfl rfl ?_;replace hg:CI s hx hm=some r:=hg;unfold CI at hg;refine Bm (AN (Am (Ak (wm rfl (wm rfl (wv (Bd BP rfl) (wv (Gs rfl rfl) (Ar (Ap (b:=decide ((s.length:Int)≤hm)) rfl (λhn=>?_) (λhn=>?_))))))))))
   ·have ga:=AB hn hg;refine Ak (wv (r:=rS ([]:Ah)) (Ac rfl) (wv (r:=rI .i64 (-1)) (Ac rfl) (Ar (Ax (Af ?_)))));obtain rfl:=Az ga;exact Aw (Dg Si (AJ rfl) (AJ rfl)) sN ⟨rfl,rfl⟩
   ·have gb:=AC hn hg;refine At (AN (Ak (wm rfl (wm rfl ?_))));obtain⟨gc,gd⟩:=Av gb;refine wv (Bi rfl rfl gc) (wa rfl (wa rfl (Ar (Ax ?_))));obtain rfl:=Az gd;exact Aw (Dg Si (AJ rfl) (AJ rfl)) sN ⟨rfl,rfl⟩
theorem R5 (F:Nat)(s:Ah)(at_:Int)(r:(List Aa)×Int)(h:Ix F s at_=some r):Fn Tryz.prog GE 125 [rS s,rI .i64 at_] [] (λR H=>R=C5 [Bo 4 (List.map Ab r.1),rI .i64 r.2]∧H=[]):=by
 refine enter (n:=80) Tryz.func125 rfl Tryz.ntmps125 rfl (λw Z=>?_);refine Bb (l':=[(0,rS s),(1,rI .i64 at_)]) (H':=[]) rfl rfl ?_;unfold Ix at h;refine Ak (wv (r:=rv (.slice none 0 0)) (Ac rfl) (wv (r:=rI .i64 0) (Ac rfl) (By (wm rfl (wa rfl (Ar (Am (Ak (wm rfl (wm rfl ?_))))))))));obtain⟨g1,h2⟩:=Av h;refine wv (AV BP rfl rfl g1) (wv (B3 rfl rfl) (Ar (Ap (b:=decide ((AT s at_)=45)) rfl (λc3=>?_) (λc3=>?_))))
 ·have h4:=AB c3 h2;refine Aj (wm rfl ?_);obtain⟨g5,h6⟩:=Av h4;refine wv (Bi rfl rfl g5) (wa rfl (By (wm rfl (wa rfl (By (wv (r:=rI .i64 0) (Ac rfl) (Ar (Am (AO ?_)))))))));obtain⟨hX,hY,hZ⟩:=AL h6;refine BA (S:=Nat×(Int×Int)×(Unit)) (V:=(Int×Int)×(Unit)) 0 (λσ=>Cg (λσ=>Gc s at_ σ.1 σ.2) σ.1 σ.2.1=some hX) (λσ=>[(0,rS s),(1,rI .i64 at_),(6,rI .i64 σ.2.1.1),(7,rI .i64 (at_+1)),(8,rI .i64 σ.2.1.2)]) (λσ=>[]) (λσ=>σ.1) (F,(at_+1,0),()) hY (AQ.c5 rfl rfl rfl rfl rfl AQ.nil) sN (λσ=>Ga s at_ σ.1.1 σ.1.2=some r) (λσ=>[(0,rS s),(1,rI .i64 at_),(6,rI .i64 σ.1.1),(7,rI .i64 (at_+1)),(8,rI .i64 σ.1.2)]) (λσ=>[]) ?_ ?_
  ·rintro⟨cs,⟨hf,hr⟩,⟨⟩⟩ ga;refine Bb (l':=[(0,rS s),(1,rI .i64 at_),(6,rI .i64 hf),(7,rI .i64 (at_+1)),(8,rI .i64 hr)]) (H':=[]) rfl rfl ?_;obtain⟨hG,rfl,t213,ht,hy⟩:=CM ga;replace ht:Gc s at_ hf hr=some t213:=ht;unfold Gc at ht;refine Am ?_;obtain⟨hH,hI⟩:=Av ht;refine AA [(0,rS s),(1,rI .i64 at_),(6,rI .i64 hf),(7,rI .i64 (at_+1)),(8,rI .i64 hr),(32,rB ((decide (hf<(s.length:Int)))&&((decide (48≤(AT s hf)))&&(decide ((AT s hf)≤57)))))] [] ?_ ?_
   ·refine Aj (wm rfl (wm rfl (wv (Bd BP rfl) (wv (Cp rfl rfl) (wm rfl (AH (decide (hf<(s.length:Int))) (λhh=>?_) (λhh=>?_)))))))
    ·refine wo hh (wm rfl (wo hh (wm rfl (wo hh (wv (AV BP rfl rfl (C0 hH hh)) (wo hh (wv (Gs rfl rfl) (Gk rfl hh rfl (wm rfl (AH (decide (48≤(AT s hf))) (λhj=>?_) (λhj=>?_)))))))))))
     ·refine wo hj (wm rfl (wo hj (wm rfl (wo hj (wv (AV BP rfl rfl (C0 hH hh)) (wo hj (wv (II rfl rfl) (Gk rfl hj rfl (Al ?_)))))))));exact BO (And.intro hh hj)
     ·refine wf hj (wf hj (wf hj (wf hj (wv (r:=rB false) (A4 (b:=decide (48≤(AT s hf))) rfl hj rfl) (Al ?_)))));exact BO (And.intro hh hj)
    ·refine wf hh (wf hh (wf hh (wf hh (wv (r:=rB false) (A4 (b:=decide (hf<(s.length:Int))) rfl hh rfl) (wm rfl (An (b:=false) rfl rfl rfl rfl (An (b:=false) rfl rfl rfl rfl (An (b:=false) rfl rfl rfl rfl (An (b:=false) rfl rfl rfl rfl (wv (r:=rB false) (A4 (b:=false) rfl rfl rfl) (Al ?_)))))))))));exact BO hh
   refine Ap (b:=((decide (hf<(s.length:Int)))&&((decide (48≤(AT s hf)))&&(decide ((AT s hf)≤57))))) rfl (λhz=>?_) (λhz=>?_)
   ·have gb:=AB hz hI;refine At (AN (AO (Am (Ak (wm rfl (wm rfl ?_))))));obtain⟨gc,hJ⟩:=Av gb;refine wv (Gz rfl rfl gc) (wv (Cp rfl rfl) (Ar (Ap (b:=decide ((hf-(at_+1))<18)) rfl (λh0=>?_) (λh0=>?_))))
    ·have gd:=AB h0 hJ;refine Aj (wm rfl ?_);obtain⟨ge,gf⟩:=Av gd;refine wv (Q3 rfl rfl ge) (wm rfl (wm rfl ?_));obtain⟨gg,gh⟩:=Av gf;refine wv (AV BP rfl rfl gg) ?_;obtain⟨gi,gj⟩:=Av gh;refine wv (Gz rfl rfl gi) ?_;obtain⟨gk,gl⟩:=Av gj;refine wv (D1 ⟨_,P8⟩ P9 rfl gk) ?_;obtain⟨gm,gn⟩:=Av gl;refine wv (Bi rfl rfl gm) (wa rfl (Ar (Aj (wm rfl ?_))));obtain⟨gp,gq⟩:=Av gn;refine wv (Bi rfl rfl gp) (wa rfl (Al (AK ?_)));have gr:=Bk gq hy;exact Aq (AG (hG,(hf+1,(10*hr)+((AT s hf)-48)),()) ⟨gr,AaX _⟩ (AQ.c5 rfl rfl rfl rfl rfl AQ.nil) sN)
    ·have gs:=AC h0 hJ;refine At (AN (Aj (wm rfl ?_)));obtain⟨gt,gu⟩:=Av gs;refine wv (Bi rfl rfl gt) (wa rfl (Al (AK ?_)));have gv:=Bk gu hy;exact Aq (AG (hG,(hf+1,hr),()) ⟨gv,AaX _⟩ (AQ.c5 rfl rfl rfl rfl rfl AQ.nil) sN)
   ·have gw:=AC hz hI;refine B9 (A5 ?_);have gx:=Cj gw hy hZ;exact A5 (Br (AG ((hf,hr),()) gx (AQ.c5 rfl rfl rfl rfl rfl AQ.nil) sN))
  ·rintro⟨⟨hl,hn⟩,⟨⟩⟩ hu;refine CR (l':=[(0,rS s),(1,rI .i64 at_),(6,rI .i64 hl),(7,rI .i64 (at_+1)),(8,rI .i64 hn)]) (H':=[]) rfl rfl ?_;replace hu:Ga s at_ hl hn=some r:=hu;unfold Ga at hu;refine Bm (AN (Am ?_));obtain⟨gy,gz⟩:=Av hu;obtain⟨g0,hK⟩:=Av gz;refine AA [(1,rI .i64 at_),(6,rI .i64 hl),(7,rI .i64 (at_+1)),(8,rI .i64 hn),(66,rB ((decide (hl=(at_+1)))||((decide ((AT s (at_+1))=48))&&((decide (((at_+1)+1)<hl))||(decide (at_<(at_+1)))))))] [] ?_ ?_
   ·refine Aj (wm rfl (wm rfl (wv (B3 rfl rfl) (wm rfl (AH (decide (hl=(at_+1))) (λha=>?_) (λha=>?_))))))
    ·refine wf ha (wf ha (wf ha (wf ha (wf ha (wu (wu (wu (wu (wu (wu (wu (wu (wu (wf ha (wv (r:=rB true) (As (b:=decide (hl=(at_+1))) rfl ha rfl) (Al ?_))))))))))))))));exact BO ha
    ·refine wo ha (wm rfl (wo ha (wm rfl (wo ha (wv (AV BP rfl rfl (C4 gy ha)) (wo ha (wv (B3 rfl rfl) (wo ha (wm rfl (AH (decide ((AT s (at_+1))=48)) (λhd=>?_) (λhd=>?_)))))))))))
     ·refine wo hd (wm rfl (wo hd (wm rfl (wo hd (wv (Bi rfl rfl (C0 (C4 g0 ha) hd)) (wo hd (wv (Cl rfl rfl) (wo hd (wm rfl (AH (decide (((at_+1)+1)<hl)) (λho=>?_) (λho=>?_)))))))))))
      ·refine wf ho (wf ho (wf ho (wo hd (wv (r:=rB true) (As (b:=decide (((at_+1)+1)<hl)) rfl ho rfl) (wo ha (Gk rfl hd rfl (D4 rfl ha rfl (Al ?_))))))));exact BO (And.intro ha (And.intro hd ho))
      ·refine wo ho (wm rfl (wo ho (wm rfl (wo ho (wv (Cl rfl rfl) (wo hd (D4 rfl ho rfl (wo ha (Gk rfl hd rfl (D4 rfl ha rfl (Al ?_)))))))))));exact BO (And.intro ha (And.intro hd ho))
     ·refine wf hd (wf hd (wf hd (wf hd (wf hd (wu (wu (wu (wf hd (wo ha (wv (r:=rB false) (A4 (b:=decide ((AT s (at_+1))=48)) rfl hd rfl) (D4 rfl ha rfl (Al ?_))))))))))));exact BO (And.intro ha hd)
   refine Ap (b:=((decide (hl=(at_+1)))||((decide ((AT s (at_+1))=48))&&((decide (((at_+1)+1)<hl))||(decide (at_<(at_+1))))))) rfl (λh1=>?_) (λh1=>?_)
   ·have g2:=AB h1 hK;refine Ak (wv (r:=rv (.slice none 0 0)) (Ac rfl) (wv (r:=rI .i64 (-1)) (Ac rfl) (Ar (Ax (Af (WK.up (d:=4) (r:=Bo 4 (List.map Ab ([]:List Aa))) rfl (Up.le (GJ.nil _)) ?_))))));obtain rfl:=Az g2;exact Aw (Dg Kb (AJ rfl) (AJ rfl)) sN ⟨rfl,rfl⟩
   ·have g3:=AC h1 hK;refine At (AN (Am (Ak (wm rfl (wm rfl ?_)))));obtain⟨g4,hL⟩:=Av g3;refine wv (Gz rfl rfl g4) (wv (Cl rfl rfl) (Ar (Ap (b:=decide (18<(hl-(at_+1)))) rfl (λh3=>?_) (λh3=>?_))))
    ·have hN:=AB h3 hL;refine Aj (wv (r:=rI .i64 2000000000000) (Ac rfl) (Ar (Am (Ak (wm rfl (wm rfl (wv (Cl rfl rfl) (Ar (Ap (b:=decide (at_<(at_+1))) rfl (λh5=>?_) (λh5=>?_))))))))))
     ·have g6:=AB h5 hN;refine Aj (wm rfl ?_);obtain⟨g7,g8⟩:=Av g6;refine wv (N5 rfl g7) (wa rfl (By (wm rfl (wv (r:=Bz [rI .i64 3,rI .i64 (-2000000000000),rS ([]:Ah),rI .i64 0]) (Cm rfl rfl rfl rfl) (AY (ys:=([(Aa.mk 3 (-2000000000000) ([]:Ah) 0)]:List Aa)) (enc:=Ab) (css:=[[rI .i64 3,rI .i64 (-2000000000000),rS ([]:Ah),rI .i64 0]]) (xs:=[.tmp 77]) BN Cb EA rfl rfl rfl ⟨Gw.agg ⟨Up.refl _,Up.refl _,Up.refl _,Up.refl _,trivial⟩,trivial⟩ rfl AU rfl rfl rfl (λct=>?_))))));refine wm rfl (wa rfl (wa rfl (Ar (Ax (WK.freeze (i:=0) rfl (WK.up (d:=4) (r:=Bo 4 (List.map Ab ([(Aa.mk 3 (-2000000000000) ([]:Ah) 0)]:List Aa))) rfl (Up.fact (i:=0) rfl) ?_))))));obtain rfl:=Az g8;exact Aw (Dg Kb (AJ rfl) (AJ rfl)) (sS sN) ⟨rfl,rfl⟩
     ·have g9:=AC h5 hN;refine At (AN (Ak (wm rfl (wv (r:=Bz [rI .i64 3,rI .i64 2000000000000,rS ([]:Ah),rI .i64 0]) (Cm rfl rfl rfl rfl) (AY (ys:=([(Aa.mk 3 2000000000000 ([]:Ah) 0)]:List Aa)) (enc:=Ab) (css:=[[rI .i64 3,rI .i64 2000000000000,rS ([]:Ah),rI .i64 0]]) (xs:=[.tmp 77]) BN Cb EA rfl rfl rfl ⟨Gw.agg ⟨Up.refl _,Up.refl _,Up.refl _,Up.refl _,trivial⟩,trivial⟩ rfl AU rfl rfl rfl (λcu=>?_))))));refine wm rfl (wa rfl (wa rfl (Ar (Ax (WK.freeze (i:=0) rfl (WK.up (d:=4) (r:=Bo 4 (List.map Ab ([(Aa.mk 3 2000000000000 ([]:Ah) 0)]:List Aa))) rfl (Up.fact (i:=0) rfl) ?_))))));obtain rfl:=Az g9;exact Aw (Dg Kb (AJ rfl) (AJ rfl)) (sS sN) ⟨rfl,rfl⟩
    ·have hO:=AC h3 hL;refine At (AN (Am (Ak (wm rfl (wm rfl (wv (Cl rfl rfl) (Ar (Ap (b:=decide (at_<(at_+1))) rfl (λh7=>?_) (λh7=>?_)))))))))
     ·have gA:=AB h7 hO;refine Aj (wm rfl ?_);obtain⟨gB,gC⟩:=Av gA;refine wv (N5 rfl gB) (wa rfl (By (wm rfl (wv (r:=Bz [rI .i64 3,rI .i64 (-hn),rS ([]:Ah),rI .i64 0]) (Cm rfl rfl rfl rfl) (AY (ys:=([(Aa.mk 3 (-hn) ([]:Ah) 0)]:List Aa)) (enc:=Ab) (css:=[[rI .i64 3,rI .i64 (-hn),rS ([]:Ah),rI .i64 0]]) (xs:=[.tmp 77]) BN Cb EA rfl rfl rfl ⟨Gw.agg ⟨Up.refl _,Up.refl _,Up.refl _,Up.refl _,trivial⟩,trivial⟩ rfl AU rfl rfl rfl (λcv=>?_))))));refine wm rfl (wa rfl (wa rfl (Ar (Ax (WK.freeze (i:=0) rfl (WK.up (d:=4) (r:=Bo 4 (List.map Ab ([(Aa.mk 3 (-hn) ([]:Ah) 0)]:List Aa))) rfl (Up.fact (i:=0) rfl) ?_))))));obtain rfl:=Az gC;exact Aw (Dg Kb (AJ rfl) (AJ rfl)) (sS sN) ⟨rfl,rfl⟩
     ·have gD:=AC h7 hO;refine At (AN (Ak (wm rfl (wv (r:=Bz [rI .i64 3,rI .i64 hn,rS ([]:Ah),rI .i64 0]) (Cm rfl rfl rfl rfl) (AY (ys:=([(Aa.mk 3 hn ([]:Ah) 0)]:List Aa)) (enc:=Ab) (css:=[[rI .i64 3,rI .i64 hn,rS ([]:Ah),rI .i64 0]]) (xs:=[.tmp 77]) BN Cb EA rfl rfl rfl ⟨Gw.agg ⟨Up.refl _,Up.refl _,Up.refl _,Up.refl _,trivial⟩,trivial⟩ rfl AU rfl rfl rfl (λcw=>?_))))));refine wm rfl (wa rfl (wa rfl (Ar (Ax (WK.freeze (i:=0) rfl (WK.up (d:=4) (r:=Bo 4 (List.map Ab ([(Aa.mk 3 hn ([]:Ah) 0)]:List Aa))) rfl (Up.fact (i:=0) rfl) ?_))))));obtain rfl:=Az gD;exact Aw (Dg Kb (AJ rfl) (AJ rfl)) (sS sN) ⟨rfl,rfl⟩
 ·have gE:=AC c3 h2;refine At (AN (Ak (wm rfl (wa rfl (By (wv (r:=rI .i64 0) (Ac rfl) (Ar (Am (AO ?_)))))))));obtain⟨gF,gG,gH⟩:=AL gE;refine BA (S:=Nat×(Int×Int)×(Unit)) (V:=(Int×Int)×(Unit)) 0 (λσ=>Cg (λσ=>Gb s at_ σ.1 σ.2) σ.1 σ.2.1=some gF) (λσ=>[(0,rS s),(1,rI .i64 at_),(6,rI .i64 σ.2.1.1),(7,rI .i64 at_),(8,rI .i64 σ.2.1.2)]) (λσ=>[]) (λσ=>σ.1) (F,(at_,0),()) gG (AQ.c5 rfl rfl rfl rfl rfl AQ.nil) sN (λσ=>EZ s at_ σ.1.1 σ.1.2=some r) (λσ=>[(0,rS s),(1,rI .i64 at_),(6,rI .i64 σ.1.1),(7,rI .i64 at_),(8,rI .i64 σ.1.2)]) (λσ=>[]) ?_ ?_
  ·rintro⟨cx,⟨hg,hs⟩,⟨⟩⟩ gI;refine Bb (l':=[(0,rS s),(1,rI .i64 at_),(6,rI .i64 hg),(7,rI .i64 at_),(8,rI .i64 hs)]) (H':=[]) rfl rfl ?_;obtain⟨hP,rfl,gJ,hw,h8⟩:=CM gI;replace hw:Gb s at_ hg hs=some gJ:=hw;unfold Gb at hw;refine Am ?_;obtain⟨hQ,hR⟩:=Av hw;refine AA [(0,rS s),(1,rI .i64 at_),(6,rI .i64 hg),(7,rI .i64 at_),(8,rI .i64 hs),(32,rB ((decide (hg<(s.length:Int)))&&((decide (48≤(AT s hg)))&&(decide ((AT s hg)≤57)))))] [] ?_ ?_
   ·refine Aj (wm rfl (wm rfl (wv (Bd BP rfl) (wv (Cp rfl rfl) (wm rfl (AH (decide (hg<(s.length:Int))) (λhi=>?_) (λhi=>?_)))))))
    ·refine wo hi (wm rfl (wo hi (wm rfl (wo hi (wv (AV BP rfl rfl (C0 hQ hi)) (wo hi (wv (Gs rfl rfl) (Gk rfl hi rfl (wm rfl (AH (decide (48≤(AT s hg))) (λhk=>?_) (λhk=>?_)))))))))))
     ·refine wo hk (wm rfl (wo hk (wm rfl (wo hk (wv (AV BP rfl rfl (C0 hQ hi)) (wo hk (wv (II rfl rfl) (Gk rfl hk rfl (Al ?_)))))))));exact BO (And.intro hi hk)
     ·refine wf hk (wf hk (wf hk (wf hk (wv (r:=rB false) (A4 (b:=decide (48≤(AT s hg))) rfl hk rfl) (Al ?_)))));exact BO (And.intro hi hk)
    ·refine wf hi (wf hi (wf hi (wf hi (wv (r:=rB false) (A4 (b:=decide (hg<(s.length:Int))) rfl hi rfl) (wm rfl (An (b:=false) rfl rfl rfl rfl (An (b:=false) rfl rfl rfl rfl (An (b:=false) rfl rfl rfl rfl (An (b:=false) rfl rfl rfl rfl (wv (r:=rB false) (A4 (b:=false) rfl rfl rfl) (Al ?_)))))))))));exact BO hi
   refine Ap (b:=((decide (hg<(s.length:Int)))&&((decide (48≤(AT s hg)))&&(decide ((AT s hg)≤57))))) rfl (λh9=>?_) (λh9=>?_)
   ·have gK:=AB h9 hR;refine At (AN (AO (Am (Ak (wm rfl (wm rfl ?_))))));obtain⟨gL,hS⟩:=Av gK;refine wv (Gz rfl rfl gL) (wv (Cp rfl rfl) (Ar (Ap (b:=decide ((hg-at_)<18)) rfl (λhA=>?_) (λhA=>?_))))
    ·have gM:=AB hA hS;refine Aj (wm rfl ?_);obtain⟨gN,gO⟩:=Av gM;refine wv (Q3 rfl rfl gN) (wm rfl (wm rfl ?_));obtain⟨gP,gQ⟩:=Av gO;refine wv (AV BP rfl rfl gP) ?_;obtain⟨gR,gS⟩:=Av gQ;refine wv (Gz rfl rfl gR) ?_;obtain⟨gT,gU⟩:=Av gS;refine wv (D1 ⟨_,P8⟩ P9 rfl gT) ?_;obtain⟨gV,gW⟩:=Av gU;refine wv (Bi rfl rfl gV) (wa rfl (Ar (Aj (wm rfl ?_))));obtain⟨gX,gY⟩:=Av gW;refine wv (Bi rfl rfl gX) (wa rfl (Al (AK ?_)));have gZ:=Bk gY h8;exact Aq (AG (hP,(hg+1,(10*hs)+((AT s hg)-48)),()) ⟨gZ,AaX _⟩ (AQ.c5 rfl rfl rfl rfl rfl AQ.nil) sN)
    ·have ca:=AC hA hS;refine At (AN (Aj (wm rfl ?_)));obtain⟨cb,cc⟩:=Av ca;refine wv (Bi rfl rfl cb) (wa rfl (Al (AK ?_)));have cd:=Bk cc h8;exact Aq (AG (hP,(hg+1,hs),()) ⟨cd,AaX _⟩ (AQ.c5 rfl rfl rfl rfl rfl AQ.nil) sN)
   ·have ce:=AC h9 hR;refine B9 (A5 ?_);have cf:=Cj ce h8 gH;exact A5 (Br (AG ((hg,hs),()) cf (AQ.c5 rfl rfl rfl rfl rfl AQ.nil) sN))
  ·rintro⟨⟨hm,hp⟩,⟨⟩⟩ hx;refine CR (l':=[(0,rS s),(1,rI .i64 at_),(6,rI .i64 hm),(7,rI .i64 at_),(8,rI .i64 hp)]) (H':=[]) rfl rfl ?_;replace hx:EZ s at_ hm hp=some r:=hx;unfold EZ at hx;refine Bm (AN (Am ?_));obtain⟨cg,hT⟩:=Av hx;refine AA [(1,rI .i64 at_),(6,rI .i64 hm),(7,rI .i64 at_),(8,rI .i64 hp),(66,rB ((decide (hm=at_))||((decide ((AT s at_)=48))&&((decide ((at_+1)<hm))||(decide (at_<at_))))))] [] ?_ ?_
   ·refine Aj (wm rfl (wm rfl (wv (B3 rfl rfl) (wm rfl (AH (decide (hm=at_)) (λhb=>?_) (λhb=>?_))))))
    ·refine wf hb (wf hb (wf hb (wf hb (wf hb (wu (wu (wu (wu (wu (wu (wu (wu (wu (wf hb (wv (r:=rB true) (As (b:=decide (hm=at_)) rfl hb rfl) (Al ?_))))))))))))))));exact BO hb
    ·refine wo hb (wm rfl (wo hb (wm rfl (wo hb (wv (AV BP rfl rfl g1) (wo hb (wv (B3 rfl rfl) (wo hb (wm rfl (AH (decide ((AT s at_)=48)) (λhe=>?_) (λhe=>?_)))))))))))
     ·refine wo he (wm rfl (wo he (wm rfl (wo he (wv (Bi rfl rfl (C0 (C4 cg hb) he)) (wo he (wv (Cl rfl rfl) (wo he (wm rfl (AH (decide ((at_+1)<hm)) (λhq=>?_) (λhq=>?_)))))))))))
      ·refine wf hq (wf hq (wf hq (wo he (wv (r:=rB true) (As (b:=decide ((at_+1)<hm)) rfl hq rfl) (wo hb (Gk rfl he rfl (D4 rfl hb rfl (Al ?_))))))));exact BO (And.intro hb (And.intro he hq))
      ·refine wo hq (wm rfl (wo hq (wm rfl (wo hq (wv (Cl rfl rfl) (wo he (D4 rfl hq rfl (wo hb (Gk rfl he rfl (D4 rfl hb rfl (Al ?_)))))))))));exact BO (And.intro hb (And.intro he hq))
     ·refine wf he (wf he (wf he (wf he (wf he (wu (wu (wu (wf he (wo hb (wv (r:=rB false) (A4 (b:=decide ((AT s at_)=48)) rfl he rfl) (D4 rfl hb rfl (Al ?_))))))))))));exact BO (And.intro hb he)
   refine Ap (b:=((decide (hm=at_))||((decide ((AT s at_)=48))&&((decide ((at_+1)<hm))||(decide (at_<at_)))))) rfl (λhB=>?_) (λhB=>?_)
   ·have ch:=AB hB hT;refine Ak (wv (r:=rv (.slice none 0 0)) (Ac rfl) (wv (r:=rI .i64 (-1)) (Ac rfl) (Ar (Ax (Af (WK.up (d:=4) (r:=Bo 4 (List.map Ab ([]:List Aa))) rfl (Up.le (GJ.nil _)) ?_))))));obtain rfl:=Az ch;exact Aw (Dg Kb (AJ rfl) (AJ rfl)) sN ⟨rfl,rfl⟩
   ·have ci:=AC hB hT;refine At (AN (Am (Ak (wm rfl (wm rfl ?_)))));obtain⟨cj,hU⟩:=Av ci;refine wv (Gz rfl rfl cj) (wv (Cl rfl rfl) (Ar (Ap (b:=decide (18<(hm-at_))) rfl (λhC=>?_) (λhC=>?_))))
    ·have hV:=AB hC hU;refine Aj (wv (r:=rI .i64 2000000000000) (Ac rfl) (Ar (Am (Ak (wm rfl (wm rfl (wv (Cl rfl rfl) (Ar (Ap (b:=decide (at_<at_)) rfl (λhD=>?_) (λhD=>?_))))))))))
     ·have ck:=AB hD hV;refine Aj (wm rfl ?_);obtain⟨cl,cm⟩:=Av ck;refine wv (N5 rfl cl) (wa rfl (By (wm rfl (wv (r:=Bz [rI .i64 3,rI .i64 (-2000000000000),rS ([]:Ah),rI .i64 0]) (Cm rfl rfl rfl rfl) (AY (ys:=([(Aa.mk 3 (-2000000000000) ([]:Ah) 0)]:List Aa)) (enc:=Ab) (css:=[[rI .i64 3,rI .i64 (-2000000000000),rS ([]:Ah),rI .i64 0]]) (xs:=[.tmp 77]) BN Cb EA rfl rfl rfl ⟨Gw.agg ⟨Up.refl _,Up.refl _,Up.refl _,Up.refl _,trivial⟩,trivial⟩ rfl AU rfl rfl rfl (λcy=>?_))))));refine wm rfl (wa rfl (wa rfl (Ar (Ax (WK.freeze (i:=0) rfl (WK.up (d:=4) (r:=Bo 4 (List.map Ab ([(Aa.mk 3 (-2000000000000) ([]:Ah) 0)]:List Aa))) rfl (Up.fact (i:=0) rfl) ?_))))));obtain rfl:=Az cm;exact Aw (Dg Kb (AJ rfl) (AJ rfl)) (sS sN) ⟨rfl,rfl⟩
     ·have cn:=AC hD hV;refine At (AN (Ak (wm rfl (wv (r:=Bz [rI .i64 3,rI .i64 2000000000000,rS ([]:Ah),rI .i64 0]) (Cm rfl rfl rfl rfl) (AY (ys:=([(Aa.mk 3 2000000000000 ([]:Ah) 0)]:List Aa)) (enc:=Ab) (css:=[[rI .i64 3,rI .i64 2000000000000,rS ([]:Ah),rI .i64 0]]) (xs:=[.tmp 77]) BN Cb EA rfl rfl rfl ⟨Gw.agg ⟨Up.refl _,Up.refl _,Up.refl _,Up.refl _,trivial⟩,trivial⟩ rfl AU rfl rfl rfl (λcz=>?_))))));refine wm rfl (wa rfl (wa rfl (Ar (Ax (WK.freeze (i:=0) rfl (WK.up (d:=4) (r:=Bo 4 (List.map Ab ([(Aa.mk 3 2000000000000 ([]:Ah) 0)]:List Aa))) rfl (Up.fact (i:=0) rfl) ?_))))));obtain rfl:=Az cn;exact Aw (Dg Kb (AJ rfl) (AJ rfl)) (sS sN) ⟨rfl,rfl⟩
    ·have hW:=AC hC hU;refine At (AN (Am (Ak (wm rfl (wm rfl (wv (Cl rfl rfl) (Ar (Ap (b:=decide (at_<at_)) rfl (λhE=>?_) (λhE=>?_)))))))))
     ·have co:=AB hE hW;refine Aj (wm rfl ?_);obtain⟨cp,cq⟩:=Av co;refine wv (N5 rfl cp) (wa rfl (By (wm rfl (wv (r:=Bz [rI .i64 3,rI .i64 (-hp),rS ([]:Ah),rI .i64 0]) (Cm rfl rfl rfl rfl) (AY (ys:=([(Aa.mk 3 (-hp) ([]:Ah) 0)]:List Aa)) (enc:=Ab) (css:=[[rI .i64 3,rI .i64 (-hp),rS ([]:Ah),rI .i64 0]]) (xs:=[.tmp 77]) BN Cb EA rfl rfl rfl ⟨Gw.agg ⟨Up.refl _,Up.refl _,Up.refl _,Up.refl _,trivial⟩,trivial⟩ rfl AU rfl rfl rfl (λc0=>?_))))));refine wm rfl (wa rfl (wa rfl (Ar (Ax (WK.freeze (i:=0) rfl (WK.up (d:=4) (r:=Bo 4 (List.map Ab ([(Aa.mk 3 (-hp) ([]:Ah) 0)]:List Aa))) rfl (Up.fact (i:=0) rfl) ?_))))));obtain rfl:=Az cq;exact Aw (Dg Kb (AJ rfl) (AJ rfl)) (sS sN) ⟨rfl,rfl⟩
     ·have cr:=AC hE hW;refine At (AN (Ak (wm rfl (wv (r:=Bz [rI .i64 3,rI .i64 hp,rS ([]:Ah),rI .i64 0]) (Cm rfl rfl rfl rfl) (AY (ys:=([(Aa.mk 3 hp ([]:Ah) 0)]:List Aa)) (enc:=Ab) (css:=[[rI .i64 3,rI .i64 hp,rS ([]:Ah),rI .i64 0]]) (xs:=[.tmp 77]) BN Cb EA rfl rfl rfl ⟨Gw.agg ⟨Up.refl _,Up.refl _,Up.refl _,Up.refl _,trivial⟩,trivial⟩ rfl AU rfl rfl rfl (λc1=>?_))))));refine wm rfl (wa rfl (wa rfl (Ar (Ax (WK.freeze (i:=0) rfl (WK.up (d:=4) (r:=Bo 4 (List.map Ab ([(Aa.mk 3 hp ([]:Ah) 0)]:List Aa))) rfl (Up.fact (i:=0) rfl) ?_))))));obtain rfl:=Az cr;exact Aw (Dg Kb (AJ rfl) (AJ rfl)) (sS sN) ⟨rfl,rfl⟩
theorem Vs (F:Nat)(hh:Ah→Int→Option ((List Aa)×Int))(ho:(∀(s:Ah) (at_:Int) (r:(List Aa)×Int),hh s at_=some r→Fn Tryz.prog GE 124 [rS s,rI .i64 at_] [] (λR H=>R=C5 [Bo 4 (List.map Ab r.1),rI .i64 r.2]∧H=[])))(s:Ah)(at_:Int)(r:(List Aa)×Int)(h:Pb F hh s at_=some r):Fn Tryz.prog GE 86 [rS s,rI .i64 at_] [] (λR H=>R=C5 [Bo 4 (List.map Ab r.1),rI .i64 r.2]∧H=[]):=by
 refine enter (n:=64) Tryz.func86 rfl Tryz.ntmps86 rfl (λw Z=>?_);refine Bb (l':=[(0,rS s),(1,rI .i64 at_)]) (H':=[]) rfl rfl ?_;unfold Pb at h;refine Ak (wv (r:=rv (.slice none 0 0)) (Ac rfl) (wv (r:=rI .i64 0) (Ac rfl) (Ar (Am (Ak (wm rfl (wm rfl (wv (Bd BP rfl) (wv (Gs rfl rfl) (Ar (Ap (b:=decide ((s.length:Int)≤at_)) rfl (λc1=>?_) (λc1=>?_))))))))))))
 ·have h2:=AB c1 h;refine Ak (wv (r:=rv (.slice none 0 0)) (Ac rfl) (wv (r:=rI .i64 (-1)) (Ac rfl) (Ar (Ax (Af (WK.up (d:=4) (r:=Bo 4 (List.map Ab ([]:List Aa))) rfl (Up.le (GJ.nil _)) ?_))))));obtain rfl:=Az h2;exact Aw (Dg Ro (AJ rfl) (AJ rfl)) sN ⟨rfl,rfl⟩
 ·have h3:=AC c1 h;refine At (AN (Am (Ak (wm rfl (wm rfl ?_)))));obtain⟨r4,e6,h5⟩:=AL h3;refine Co H6 (CB s at_ ([110,117,108,108]:Ah) r4 e6) rfl (Ar (Ap (b:=r4) rfl (λc7=>?_) (λc7=>?_)))
  ·have h8:=AB c7 h5;refine Ak ?_;obtain⟨r9,hp,hq⟩:=AL h8;refine Co Tryz.call121 (X8 r9 hp) rfl (wm rfl ?_);obtain⟨hr,hs⟩:=Av hq;refine wv (Bi rfl rfl hr) (wa rfl (wa rfl (Ar (Ax (Af ?_)))));obtain rfl:=Az hs;exact Aw (Dg Ro (AJ rfl) (AJ rfl)) sN ⟨rfl,rfl⟩
  ·have ht:=AC c7 h5;refine At (AN (Am (Ak (wm rfl (wm rfl ?_)))));obtain⟨hi,hu,hj⟩:=AL ht;refine Co H6 (CB s at_ ([116,114,117,101]:Ah) hi hu) rfl (Ar (Ap (b:=hi) rfl (λhb=>?_) (λhb=>?_)))
   ·have hw:=AB hb hj;refine Ak ?_;obtain⟨hx,hy,hz⟩:=AL hw;refine Co Tryz.call122 (S6 true hx hy) rfl (wm rfl ?_);obtain⟨h0,h1⟩:=Av hz;refine wv (Bi rfl rfl h0) (wa rfl (wa rfl (Ar (Ax (Af ?_)))));obtain rfl:=Az h1;exact Aw (Dg Ro (AJ rfl) (AJ rfl)) sN ⟨rfl,rfl⟩
   ·have h4:=AC hb hj;refine At (AN (Am (Ak (wm rfl (wm rfl ?_)))));obtain⟨hk,h6,hl⟩:=AL h4;refine Co H6 (CB s at_ ([102,97,108,115,101]:Ah) hk h6) rfl (Ar (Ap (b:=hk) rfl (λhd=>?_) (λhd=>?_)))
    ·have h7:=AB hd hl;refine Ak ?_;obtain⟨h9,hA,hB⟩:=AL h7;refine Co Tryz.call122 (S6 false h9 hA) rfl (wm rfl ?_);obtain⟨hC,hD⟩:=Av hB;refine wv (Bi rfl rfl hC) (wa rfl (wa rfl (Ar (Ax (Af ?_)))));obtain rfl:=Az hD;exact Aw (Dg Ro (AJ rfl) (AJ rfl)) sN ⟨rfl,rfl⟩
    ·have hE:=AC hd hl;refine At (AN (Am (Ak (wm rfl (wm rfl ?_)))));obtain⟨he,hm⟩:=Av hE;refine wv (AV BP rfl rfl he) (wv (B3 rfl rfl) (Ar (Ap (b:=decide ((AT s at_)=34)) rfl (λhf=>?_) (λhf=>?_))))
     ·have hG:=AB hf hm;refine Ak (wm rfl (wm rfl ?_));obtain⟨ha,hH,hI⟩:=AL hG;refine Co Tryz.call123 (Ic F s at_ ha hH) rfl (wm rfl (wv (AF rfl rfl) (wv (AF rfl rfl) (wa rfl (wa rfl (By (wm rfl (wv (r:=Bz [rI .i64 4,rI .i64 0,rS ha.1,rI .i64 0]) (EG rfl rfl rfl rfl) (AY (ys:=([(Aa.mk 4 0 ha.1 0)]:List Aa)) (enc:=Ab) (css:=[[rI .i64 4,rI .i64 0,rS ha.1,rI .i64 0]]) (xs:=[.tmp 41]) BN Cb EA rfl rfl rfl ⟨Gw.agg ⟨Up.refl _,Up.refl _,Up.refl _,Up.refl _,trivial⟩,trivial⟩ rfl AU rfl rfl rfl (λhS=>?_))))))))));refine wm rfl (wa rfl (wa rfl (Ar (Ax (Af (WK.freeze (i:=0) rfl (WK.up (d:=4) (r:=Bo 4 (List.map Ab ([(Aa.mk 4 0 ha.1 0)]:List Aa))) rfl (Up.fact (i:=0) rfl) ?_)))))));obtain rfl:=Az hI;exact Aw (Dg Ro (AJ rfl) (AJ rfl)) (sS sN) ⟨rfl,rfl⟩
     ·have hn:=AC hf hm;refine At (AN (Am (AA [(0,rS s),(1,rI .i64 at_),(53,rB ((decide ((AT s at_)=91))||(decide ((AT s at_)=123))))] [] ?_ ?_)))
      ·refine Aj (wm rfl (wm rfl (wv (AV BP rfl rfl he) (wv (B3 rfl rfl) (wm rfl (AH (decide ((AT s at_)=91)) (λc46=>?_) (λc46=>?_)))))))
       ·refine wf c46 (wf c46 (wf c46 (wf c46 (wv (r:=rB true) (As (b:=decide ((AT s at_)=91)) rfl c46 rfl) (Al ?_)))));exact BO c46
       ·refine wo c46 (wm rfl (wo c46 (wm rfl (wo c46 (wv (AV BP rfl rfl he) (wo c46 (wv (B3 rfl rfl) (D4 rfl c46 rfl (Al ?_)))))))));exact BO c46
      refine Ap (b:=((decide ((AT s at_)=91))||(decide ((AT s at_)=123)))) rfl (λhg=>?_) (λhg=>?_)
      ·have hJ:=AB hg hn;refine Ak (wm rfl (wm rfl ?_));obtain⟨hK,hL,hN⟩:=AL hJ;refine Co Tryz.call124 (ho s at_ hK hL) rfl (wv (AF rfl rfl) (wv (AF rfl rfl) (wa rfl (wa rfl (Ar (Ax (Af ?_)))))));obtain rfl:=Az hN;exact Aw (Dg Ro (AJ rfl) (AJ rfl)) sN ⟨rfl,rfl⟩
      ·have hO:=AC hg hn;refine At (AN (Ak (wm rfl (wm rfl ?_))));obtain⟨hP,hQ,hR⟩:=AL hO;refine Co Tryz.call125 (R5 F s at_ hP hQ) rfl (wv (AF rfl rfl) (wv (AF rfl rfl) (wa rfl (wa rfl (Ar (Ax ?_))))));obtain rfl:=Az hR;exact Aw (Dg Ro (AJ rfl) (AJ rfl)) sN ⟨rfl,rfl⟩
theorem Pc (F:Nat)(h0:Ah→Int→Option ((List Aa)×Int))(hA:(∀(s:Ah) (at_:Int) (r:(List Aa)×Int),h0 s at_=some r→Fn Tryz.prog GE 86 [rS s,rI .i64 at_] [] (λR H=>R=C5 [Bo 4 (List.map Ab r.1),rI .i64 r.2]∧H=[])))(s:Ah)(at_:Int)(r:(List Aa)×Int)(h:IE F h0 s at_=some r):Fn Tryz.prog GE 124 [rS s,rI .i64 at_] [] (λR H=>R=C5 [Bo 4 (List.map Ab r.1),rI .i64 r.2]∧H=[]):=by
 refine enter (n:=98) Tryz.func124 rfl Tryz.ntmps124 rfl (λw Z=>?_);refine Bb (l':=[(0,rS s),(1,rI .i64 at_)]) (H':=[]) rfl rfl ?_;unfold IE at h;refine Ak (wv (r:=rv (.slice none 0 0)) (Ac rfl) (wv (r:=rI .i64 0) (Ac rfl) (By (wv (r:=Bz [rI .i64 5,rI .i64 0,rS ([]:Ah),rI .i64 0]) (DF rfl rfl) (Cf (cs:=[rI .i64 0,rI .i64 0,rS ([]:Ah),rI .i64 0]) EA rfl rfl (λb1=>?_))))));refine Bq (i:=0) Cb rfl rfl rfl (BM.c rfl) rfl rfl (cs':=[rI .i64 5,rI .i64 0,rS ([]:Ah),rI .i64 0]) rfl (H':=[.blk b1 [rI .i64 5,rI .i64 0,rS ([]:Ah),rI .i64 0] 78]) rfl (By (wv (r:=rS ([93]:Ah)) (Ac rfl) (Ar (Am (Ak (wm rfl (wm rfl ?_)))))));obtain⟨g2,h3⟩:=Av h;refine wv (AV BP rfl rfl g2) (wv (B3 rfl rfl) (Ar (Ap (b:=decide ((AT s at_)=123)) rfl (λc4=>?_) (λc4=>?_))))
 ·have h5:=AB c4 h3;refine Ak (wv (Ad B5 rfl DX rfl rfl) (BD (i:=0) DX rfl rfl (Ck rfl) rfl rfl (cs':=[rI .i64 6,rI .i64 0,rS ([]:Ah),rI .i64 0]) rfl (H':=[.blk b1 [rI .i64 6,rI .i64 0,rS ([]:Ah),rI .i64 0] 78]) rfl (Ar (Aj (wv (r:=rS ([125]:Ah)) (Ac rfl) (By (wv (r:=rv (.slice none 0 0)) (Ac rfl) (By (wm rfl ?_)))))))));obtain⟨g6,h7⟩:=Av h5;refine wv (Bi rfl rfl g6) (wa rfl (Ar (Am (AO (WC.nilrow (e:=78) (sz:=4) (KB (H2:=[.blk b1 [rI .i64 6,rI .i64 0,rS ([]:Ah),rI .i64 0] 78,.row (.slice none 0 0                                                                              ) 78 4 (List.map Ab ([]:List Aa))]) ((A9 (i:=1) rfl).trans (AaT _ (AaP _))) ?_))))));obtain⟨gC,gD,h1⟩:=AL h7;refine BA (S:=Nat×((List Aa)×Int×Aa)×(Value)) (V:=((List Aa)×Int×Aa)×(Value)) 0 (λσ=>Cg (λσ=>Hh F s h0 σ.1 σ.2.1 σ.2.2) σ.1 σ.2.1=some gC) (λσ=>[(0,rS s),(6,rv (.pointer (some ⟨b1,0,none⟩))),(7,rS ([125]:Ah)),(8,rv σ.2.2),(9,rI .i64 σ.2.1.2.1)]) (λσ=>[.blk b1 (Ab σ.2.1.2.2) 78,.row σ.2.2 78 4 (List.map Ab σ.2.1.1)]) (λσ=>σ.1) (F,(([]:List Aa),at_+1,(Aa.mk 6 0 ([]:Ah) 0)),(.slice none 0 0                                                                              )) gD (AQ.c5 rfl rfl rfl rfl rfl AQ.nil) (sC (sC sN)) (λσ=>Hf σ.1.1 σ.1.2.1 σ.1.2.2=some r) (λσ=>[(6,rv (.pointer (some ⟨b1,0,none⟩))),(8,rv σ.2),(9,rI .i64 σ.1.2.1)]) (λσ=>[.blk b1 (Ab σ.1.2.2) 78,.row σ.2 78 4 (List.map Ab σ.1.1)]) ?_ ?_
  ·rintro⟨xP,⟨hh,hl,ha⟩,hy⟩ gE;refine Bb (l':=[(0,rS s),(6,rv (.pointer (some ⟨b1,0,none⟩))),(7,rS ([125]:Ah)),(8,rv hy),(9,rI .i64 hl)]) (H':=[.blk b1 (Ab ha) 78,.row hy 78 4 (List.map Ab hh)]) rfl rfl ?_;obtain⟨hB,rfl,gF,hC,ht⟩:=CM gE;replace hC:Hh F s h0 hh hl ha=some gF:=hC;unfold Hh at hC;refine Am ?_;obtain⟨gG,gH⟩:=Av hC;obtain⟨gI,gJ⟩:=Av gH;obtain⟨gK,gf⟩:=Av gJ;refine AA [(0,rS s),(6,rv (.pointer (some ⟨b1,0,none⟩))),(7,rS ([125]:Ah)),(8,rv hy),(9,rI .i64 hl),(39,rB ((!(ov (Bn s hl ([125]:Ah))))||((decide (0<ha.fN))&&(decide ((AT s (hl-1))=44)))))] [.blk b1 (Ab ha) 78,.row hy 78 4 (List.map Ab hh)] ?_ ?_
   ·refine Aj (wm rfl (wm rfl (wm rfl (Co H6 (CB s hl ([125]:Ah) (ov (Bn s hl ([125]:Ah))) (Gr gG)) rfl (wv (BJ rfl) (wm rfl (AH (!(ov (Bn s hl ([125]:Ah)))) (λhf=>?_) (λhf=>?_))))))))
    ·refine wf hf (wf hf (wf hf (wf hf (wu (wu (wu (wu (wu (wf hf (wv (r:=rB true) (As (b:=!(ov (Bn s hl ([125]:Ah)))) rfl hf rfl) (Al ?_)))))))))));exact BO hf
    ·refine wo hf (wv (Ad B5 rfl Cu rfl rfl) (wo hf (wv (A0 (i:=0) Dd rfl rfl rfl) (wo hf (wv (Cl rfl rfl) (wo hf (wm rfl (AH (decide (0<ha.fN)) (λhj=>?_) (λhj=>?_)))))))))
     ·refine wo hj (wm rfl (wo hj (wm rfl (wo hj (wv (Gz rfl rfl (C0 (C4 gI hf) hj)) (wo hj (wv (AV BP rfl rfl (C0 (C4 gK hf) hj)) (wo hj (wv (B3 rfl rfl) (wo hf (Gk rfl hj rfl (D4 rfl hf rfl (Al ?_)))))))))))));exact BO (And.intro hf hj)
     ·refine wf hj (wf hj (wf hj (wf hj (wf hj (wo hf (wv (r:=rB false) (A4 (b:=decide (0<ha.fN)) rfl hj rfl) (D4 rfl hf rfl (Al ?_))))))));exact BO (And.intro hf hj)
   refine Ap (b:=((!(ov (Bn s hl ([125]:Ah))))||((decide (0<ha.fN))&&(decide ((AT s (hl-1))=44))))) rfl (λhK=>?_) (λhK=>?_)
   ·have gg:=AB hK gf;refine At (AN (AO (Am (Ak (wv (Ad B5 rfl DX rfl rfl) (wv (A0 (i:=0) Ex rfl rfl rfl) (wv (B3 rfl rfl) (Ar (Ap (b:=decide (ha.fKind=6)) rfl (λhL=>?_) (λhL=>?_))))))))))
    ·have gL:=AB hL gg;refine Ak (wm rfl (wm rfl ?_));obtain⟨hd,gM,gN⟩:=AL gL;refine Co Tryz.call123 (Ic F s hl hd gM) rfl (wm rfl (wv (AF rfl rfl) (wv (AF rfl rfl) (wa rfl (wa rfl (Ar (Am ?_)))))));obtain⟨gO,gh⟩:=Av gN;refine AA [(0,rS s),(6,rv (.pointer (some ⟨b1,0,none⟩))),(7,rS ([125]:Ah)),(8,rv hy),(10,rS hd.1),(11,rI .i64 hd.2),(56,rB ((decide (hd.2<0))||(!(ov (Bn s hd.2 ([58]:Ah))))))] [.blk b1 (Ab ha) 78,.row hy 78 4 (List.map Ab hh)] ?_ ?_
     ·refine Aj (wm rfl (wv (Cp rfl rfl) (wm rfl (AH (decide (hd.2<0)) (λhm=>?_) (λhm=>?_)))))
      ·refine wf hm (wf hm (wf hm (wf hm (wv (r:=rB true) (As (b:=decide (hd.2<0)) rfl hm rfl) (Al ?_)))));exact BO hm
      ·refine wo hm (wm rfl (wo hm (wm rfl (wo hm (Co H6 (CB s hd.2 ([58]:Ah) (ov (Bn s hd.2 ([58]:Ah))) (Gr (C4 gO hm))) rfl (wo hm (wv (BJ rfl) (D4 rfl hm rfl (Al ?_)))))))));exact BO hm
     refine Ap (b:=((decide (hd.2<0))||(!(ov (Bn s hd.2 ([58]:Ah)))))) rfl (λhN=>?_) (λhN=>?_)
     ·have gP:=AB hN gh;refine Ak (wv (r:=rv (.slice none 0 0)) (Ac rfl) (wv (r:=rI .i64 (-1)) (Ac rfl) (Ar (Ax (Af (Af (A3 (Af (Bc ?_)))))))));have gQ:=B1 gP ht h1;refine A3 (Af (WK.up (d:=4) (r:=Bo 4 (List.map Ab ([]:List Aa))) rfl (Up.le (GJ.nil _)) ?_));obtain rfl:=Az gQ;exact Aw (Dg IT (AJ rfl) (AJ rfl)) (sS (sS sN)) ⟨rfl,rfl⟩
     ·have gR:=AC hN gh;refine At (AN (Ak (wm rfl (wm rfl (wv (r:=Bz [rI .i64 4,rI .i64 0,rS hd.1,rI .i64 0]) (EG rfl rfl rfl rfl) (AY (ys:=([(Aa.mk 4 0 hd.1 0)]:List Aa)) (enc:=Ab) (css:=[[rI .i64 4,rI .i64 0,rS hd.1,rI .i64 0]]) (xs:=[.tmp 59]) BN Cb EA rfl rfl rfl ⟨Gw.agg ⟨Up.refl _,Up.refl _,Up.refl _,Up.refl _,trivial⟩,trivial⟩ rfl AU rfl rfl rfl (λhO=>?_)))))));obtain⟨gS,gT⟩:=Av gR;obtain⟨inf,hinf⟩:=Er;refine BV (xs:=hh) (ys:=([(Aa.mk 4 0 hd.1 0)]:List Aa)) (enc:=Ab) (i:=2) BN hinf.1 hinf.2.1 hinf.2.2.1 hinf.2.2.2 rfl rfl rfl rfl rfl (JW.w (i:=0) rfl rfl) AU BF gS rfl (λxQ=>?_);refine wa rfl (Ar (Aj (wm rfl ?_)));obtain⟨gU,gV⟩:=Av gT;refine wv (Bi rfl rfl gU) (wa rfl (By (wm rfl (wm rfl ?_))));obtain⟨hp,gW,gi⟩:=AL gV;refine Co UF (hA s (hd.2+1) hp gW) rfl (wm rfl (wv (AF rfl rfl) (wv (AF rfl rfl) (wa rfl (wa rfl (Ar (Am (Ak (wm rfl (wv (Cp rfl rfl) (Ar (Ap (b:=decide (hp.2<0)) rfl (λhP=>?_) (λhP=>?_)))))))))))))
      ·have gX:=AB hP gi;refine Ak (wv (r:=rv (.slice none 0 0)) (Ac rfl) (wv (r:=rI .i64 (-1)) (Ac rfl) (Ar (Ax (Af (A3 (Af (Bc ?_))))))));have gY:=B1 gX ht h1;refine A3 (Af (WK.up (d:=4) (r:=Bo 4 (List.map Ab ([]:List Aa))) rfl (Up.le (GJ.nil _)) ?_));obtain rfl:=Az gY;exact Aw (Dg IT (AJ rfl) (AJ rfl)) (sS (sS (sS sN))) ⟨rfl,rfl⟩
      ·have gZ:=AC hP gi;refine At (AN (Ak (wm rfl (wm rfl ?_))));obtain⟨ca,cb⟩:=Av gZ;obtain⟨inf,hinf⟩:=Er;refine BV (xs:=hh++([(Aa.mk 4 0 hd.1 0)]:List Aa)) (ys:=hp.1) (enc:=Ab) (i:=0) BN hinf.1 hinf.2.1 hinf.2.2.1 hinf.2.2.2 rfl rfl rfl rfl rfl (JW.z rfl rfl) AU BF ca rfl (λh4=>?_);refine wa rfl (By (wv (Ad B5 rfl Cu rfl rfl) (wv (A0 (i:=2) Dd rfl rfl rfl) ?_)));obtain⟨cc,cd⟩:=Av cb;refine wv (Bi rfl rfl cc) (wv (Ad B5 rfl Cu rfl rfl) (BD (i:=2) Cu rfl rfl (Ck rfl) rfl rfl (cs':=[rI .i64 ha.fKind,rI .i64 ha.fInt,rS ha.fStr,rI .i64 (ha.fN+1)]) rfl (H':=[.row h4 78 4 (List.map Ab ((hh++([(Aa.mk 4 0 hd.1 0)]:List Aa))++hp.1)),.row (.slice (some ⟨hO,0,none⟩) 1 1) 78 4 (List.map Ab ([(Aa.mk 4 0 hd.1 0)]:List Aa)),.blk b1 [rI .i64 ha.fKind,rI .i64 ha.fInt,rS ha.fStr,rI .i64 (ha.fN+1)] 78]) rfl (By (wm rfl (wa rfl (By (wm rfl (wm rfl ?_))))))));obtain⟨gj,ce,gk⟩:=AL cd;refine Co H6 (CB s hp.2 ([44]:Ah) gj ce) rfl (Ar (Ap (b:=gj) rfl (λhQ=>?_) (λhQ=>?_)))
       ·have cf:=AB hQ gk;refine Aj (wm rfl ?_);obtain⟨cg,ch⟩:=Av cf;refine wv (Bi rfl rfl cg) (wa rfl (Al (AK (Ca (H2:=[.blk b1 [rI .i64 ha.fKind,rI .i64 ha.fInt,rS ha.fStr,rI .i64 (ha.fN+1)] 78,.row h4 78 4 (List.map Ab ((hh++([(Aa.mk 4 0 hd.1 0)]:List Aa))++hp.1)),.row (.slice (some ⟨hO,0,none⟩) 1 1) 78 4 (List.map Ab ([(Aa.mk 4 0 hd.1 0)]:List Aa))]) ((A9 (i:=2) rfl).trans (AaT _ (AaP _))) ?_))));have ci:=Bk ch ht;exact Aq (AG (hB,((hh++([(Aa.mk 4 0 hd.1 0)]:List Aa))++hp.1,hp.2+1,(Aa.mk ha.fKind ha.fInt ha.fStr (ha.fN+1))),h4) ⟨ci,AaX _⟩ (AQ.c5 rfl rfl rfl rfl rfl AQ.nil) (sC (sC (sS sN))))
       ·have cj:=AC hQ gk;refine Ak (wm rfl (wm rfl (wm rfl ?_)));obtain⟨gl,ck,gm⟩:=AL cj;refine Co H6 (CB s hp.2 ([125]:Ah) gl ck) rfl (wv (BJ rfl) (Ar (Ap (b:=!gl) rfl (λhR=>?_) (λhR=>?_))))
        ·have cl:=AB hR gm;refine Ak (wv (r:=rv (.slice none 0 0)) (Ac rfl) (wv (r:=rI .i64 (-1)) (Ac rfl) (Ar (Ax (A3 (Af (Bc ?_)))))));have cm:=B1 cl ht h1;refine A3 (Af (WK.up (d:=4) (r:=Bo 4 (List.map Ab ([]:List Aa))) rfl (Up.le (GJ.nil _)) ?_));obtain rfl:=Az cm;exact Aw (Dg IT (AJ rfl) (AJ rfl)) (sS (sS (sS sN))) ⟨rfl,rfl⟩
        ·have cn:=AC hR gm;refine At (AK (Ca (H2:=[.blk b1 [rI .i64 ha.fKind,rI .i64 ha.fInt,rS ha.fStr,rI .i64 (ha.fN+1)] 78,.row h4 78 4 (List.map Ab ((hh++([(Aa.mk 4 0 hd.1 0)]:List Aa))++hp.1)),.row (.slice (some ⟨hO,0,none⟩) 1 1) 78 4 (List.map Ab ([(Aa.mk 4 0 hd.1 0)]:List Aa))]) ((A9 (i:=2) rfl).trans (AaT _ (AaP _))) ?_));have co:=Bk cn ht;exact Aq (AG (hB,((hh++([(Aa.mk 4 0 hd.1 0)]:List Aa))++hp.1,hp.2,(Aa.mk ha.fKind ha.fInt ha.fStr (ha.fN+1))),h4) ⟨co,AaX _⟩ (AQ.c5 rfl rfl rfl rfl rfl AQ.nil) (sC (sC (sS sN))))
    ·have cp:=AC hL gg;refine At (AN (Ak (wm rfl (wm rfl ?_))));obtain⟨hq,cq,gn⟩:=AL cp;refine Co UF (hA s hl hq cq) rfl (wm rfl (wv (AF rfl rfl) (wv (AF rfl rfl) (wa rfl (wa rfl (Ar (Am (Ak (wm rfl (wv (Cp rfl rfl) (Ar (Ap (b:=decide (hq.2<0)) rfl (λhS=>?_) (λhS=>?_)))))))))))))
     ·have cr:=AB hS gn;refine Ak (wv (r:=rv (.slice none 0 0)) (Ac rfl) (wv (r:=rI .i64 (-1)) (Ac rfl) (Ar (Ax (Af (A3 (Af (Bc ?_))))))));have ct:=B1 cr ht h1;refine A3 (Af (WK.up (d:=4) (r:=Bo 4 (List.map Ab ([]:List Aa))) rfl (Up.le (GJ.nil _)) ?_));obtain rfl:=Az ct;exact Aw (Dg IT (AJ rfl) (AJ rfl)) (sS (sS sN)) ⟨rfl,rfl⟩
     ·have cu:=AC hS gn;refine At (AN (Ak (wm rfl (wm rfl ?_))));obtain⟨cv,cw⟩:=Av cu;obtain⟨inf,hinf⟩:=Er;refine BV (xs:=hh) (ys:=hq.1) (enc:=Ab) (i:=1) BN hinf.1 hinf.2.1 hinf.2.2.1 hinf.2.2.2 rfl rfl rfl rfl rfl (JW.z rfl rfl) AU BF cv rfl (λh6=>?_);refine wa rfl (By (wv (Ad B5 rfl Cu rfl rfl) (wv (A0 (i:=1) Dd rfl rfl rfl) ?_)));obtain⟨cx,cy⟩:=Av cw;refine wv (Bi rfl rfl cx) (wv (Ad B5 rfl Cu rfl rfl) (BD (i:=1) Cu rfl rfl (Ck rfl) rfl rfl (cs':=[rI .i64 ha.fKind,rI .i64 ha.fInt,rS ha.fStr,rI .i64 (ha.fN+1)]) rfl (H':=[.row h6 78 4 (List.map Ab (hh++hq.1)),.blk b1 [rI .i64 ha.fKind,rI .i64 ha.fInt,rS ha.fStr,rI .i64 (ha.fN+1)] 78]) rfl (By (wm rfl (wa rfl (By (wm rfl (wm rfl ?_))))))));obtain⟨gp,cz,gq⟩:=AL cy;refine Co H6 (CB s hq.2 ([44]:Ah) gp cz) rfl (Ar (Ap (b:=gp) rfl (λhT=>?_) (λhT=>?_)))
      ·have c0:=AB hT gq;refine Aj (wm rfl ?_);obtain⟨c1,c2⟩:=Av c0;refine wv (Bi rfl rfl c1) (wa rfl (Al (AK (Ca (H2:=[.blk b1 [rI .i64 ha.fKind,rI .i64 ha.fInt,rS ha.fStr,rI .i64 (ha.fN+1)] 78,.row h6 78 4 (List.map Ab (hh++hq.1))]) ((A9 (i:=1) rfl).trans (AaT _ (AaP _))) ?_))));have c3:=Bk c2 ht;exact Aq (AG (hB,(hh++hq.1,hq.2+1,(Aa.mk ha.fKind ha.fInt ha.fStr (ha.fN+1))),h6) ⟨c3,AaX _⟩ (AQ.c5 rfl rfl rfl rfl rfl AQ.nil) (sC (sC sN)))
      ·have c6:=AC hT gq;refine Ak (wm rfl (wm rfl (wm rfl ?_)));obtain⟨gr,c7,gs⟩:=AL c6;refine Co H6 (CB s hq.2 ([125]:Ah) gr c7) rfl (wv (BJ rfl) (Ar (Ap (b:=!gr) rfl (λhU=>?_) (λhU=>?_))))
       ·have c8:=AB hU gs;refine Ak (wv (r:=rv (.slice none 0 0)) (Ac rfl) (wv (r:=rI .i64 (-1)) (Ac rfl) (Ar (Ax (A3 (Af (Bc ?_)))))));have c9:=B1 c8 ht h1;refine A3 (Af (WK.up (d:=4) (r:=Bo 4 (List.map Ab ([]:List Aa))) rfl (Up.le (GJ.nil _)) ?_));obtain rfl:=Az c9;exact Aw (Dg IT (AJ rfl) (AJ rfl)) (sS (sS sN)) ⟨rfl,rfl⟩
       ·have cA:=AC hU gs;refine At (AK (Ca (H2:=[.blk b1 [rI .i64 ha.fKind,rI .i64 ha.fInt,rS ha.fStr,rI .i64 (ha.fN+1)] 78,.row h6 78 4 (List.map Ab (hh++hq.1))]) ((A9 (i:=1) rfl).trans (AaT _ (AaP _))) ?_));have cB:=Bk cA ht;exact Aq (AG (hB,(hh++hq.1,hq.2,(Aa.mk ha.fKind ha.fInt ha.fStr (ha.fN+1))),h6) ⟨cB,AaX _⟩ (AQ.c5 rfl rfl rfl rfl rfl AQ.nil) (sC (sC sN)))
   ·have cC:=AC hK gf;refine B9 (A5 ?_);have cD:=Cj cC ht h1;exact A5 (Br (AG ((hh,hl,ha),hy) cD (AQ.c rfl (AQ.c rfl (AQ.c rfl AQ.nil))) (sC (sC sN))))
  ·rintro⟨⟨hD,gt,hw⟩,gu⟩ hE;refine CR (l':=[(6,rv (.pointer (some ⟨b1,0,none⟩))),(8,rv gu),(9,rI .i64 gt)]) (H':=[.blk b1 (Ab hw) 78,.row gu 78 4 (List.map Ab hD)]) rfl rfl ?_;replace hE:Hf hD gt hw=some r:=hE;unfold Hf at hE;refine Bm (AN (Ak (wv (Bs (i:=0) L2 Cb rfl rfl rfl rfl) (AY (ys:=([hw]:List Aa)) (enc:=Ab) (css:=[[rI .i64 hw.fKind,rI .i64 hw.fInt,rS hw.fStr,rI .i64 hw.fN]]) (xs:=[.tmp 90]) BN Cb EA rfl rfl rfl ⟨Gw.agg ⟨Up.refl _,Up.refl _,Up.refl _,Up.refl _,trivial⟩,trivial⟩ rfl AU rfl rfl rfl (λxR=>?_)))));refine wa rfl (By (wm rfl (wm rfl ?_)));obtain⟨cE,cF⟩:=Av hE;obtain⟨inf,hinf⟩:=Er;refine BV (xs:=([hw]:List Aa)) (ys:=hD) (enc:=Ab) (i:=0) BN hinf.1 hinf.2.1 hinf.2.2.1 hinf.2.2.2 rfl rfl rfl rfl rfl (JW.w (i:=2) rfl rfl) AU BF cE rfl (λxS=>?_);refine wa rfl (By (wm rfl (wm rfl ?_)));obtain⟨cG,cH⟩:=Av cF;refine wv (Bi rfl rfl cG) (wa rfl (wa rfl (Ar (Ax (WK.freeze (i:=0) rfl (WK.up (d:=4) (r:=Bo 4 (List.map Ab (([hw]:List Aa)++hD))) rfl (Up.fact (i:=0) rfl) ?_))))));obtain rfl:=Az cH;exact Aw (Dg IT (AJ rfl) (AJ rfl)) (sS (sS (sS sN))) ⟨rfl,rfl⟩
 ·have cI:=AC c4 h3;refine At (AN (Ak (wv (r:=rv (.slice none 0 0)) (Ac rfl) (By (wm rfl ?_)))));obtain⟨cJ,cK⟩:=Av cI;refine wv (Bi rfl rfl cJ) (wa rfl (Ar (Am (AO (WC.nilrow (e:=78) (sz:=4) (KB (H2:=[.blk b1 [rI .i64 5,rI .i64 0,rS ([]:Ah),rI .i64 0] 78,.row (.slice none 0 0                                                                              ) 78 4 (List.map Ab ([]:List Aa))]) ((A9 (i:=1) rfl).trans (AaT _ (AaP _))) ?_))))));obtain⟨cL,cM,h2⟩:=AL cK;refine BA (S:=Nat×((List Aa)×Int×Aa)×(Value)) (V:=((List Aa)×Int×Aa)×(Value)) 0 (λσ=>Cg (λσ=>Hg F s h0 σ.1 σ.2.1 σ.2.2) σ.1 σ.2.1=some cL) (λσ=>[(0,rS s),(6,rv (.pointer (some ⟨b1,0,none⟩))),(7,rS ([93]:Ah)),(8,rv σ.2.2),(9,rI .i64 σ.2.1.2.1)]) (λσ=>[.blk b1 (Ab σ.2.1.2.2) 78,.row σ.2.2 78 4 (List.map Ab σ.2.1.1)]) (λσ=>σ.1) (F,(([]:List Aa),at_+1,(Aa.mk 5 0 ([]:Ah) 0)),(.slice none 0 0                                                                              )) cM (AQ.c5 rfl rfl rfl rfl rfl AQ.nil) (sC (sC sN)) (λσ=>He σ.1.1 σ.1.2.1 σ.1.2.2=some r) (λσ=>[(6,rv (.pointer (some ⟨b1,0,none⟩))),(8,rv σ.2),(9,rI .i64 σ.1.2.1)]) (λσ=>[.blk b1 (Ab σ.1.2.2) 78,.row σ.2 78 4 (List.map Ab σ.1.1)]) ?_ ?_
  ·rintro⟨xT,⟨hi,hn,hb⟩,hz⟩ cN;refine Bb (l':=[(0,rS s),(6,rv (.pointer (some ⟨b1,0,none⟩))),(7,rS ([93]:Ah)),(8,rv hz),(9,rI .i64 hn)]) (H':=[.blk b1 (Ab hb) 78,.row hz 78 4 (List.map Ab hi)]) rfl rfl ?_;obtain⟨hG,rfl,cO,hH,hu⟩:=CM cN;replace hH:Hg F s h0 hi hn hb=some cO:=hH;unfold Hg at hH;refine Am ?_;obtain⟨cP,cQ⟩:=Av hH;obtain⟨cR,cS⟩:=Av cQ;obtain⟨cT,gv⟩:=Av cS;refine AA [(0,rS s),(6,rv (.pointer (some ⟨b1,0,none⟩))),(7,rS ([93]:Ah)),(8,rv hz),(9,rI .i64 hn),(39,rB ((!(ov (Bn s hn ([93]:Ah))))||((decide (0<hb.fN))&&(decide ((AT s (hn-1))=44)))))] [.blk b1 (Ab hb) 78,.row hz 78 4 (List.map Ab hi)] ?_ ?_
   ·refine Aj (wm rfl (wm rfl (wm rfl (Co H6 (CB s hn ([93]:Ah) (ov (Bn s hn ([93]:Ah))) (Gr cP)) rfl (wv (BJ rfl) (wm rfl (AH (!(ov (Bn s hn ([93]:Ah)))) (λhg=>?_) (λhg=>?_))))))))
    ·refine wf hg (wf hg (wf hg (wf hg (wu (wu (wu (wu (wu (wf hg (wv (r:=rB true) (As (b:=!(ov (Bn s hn ([93]:Ah)))) rfl hg rfl) (Al ?_)))))))))));exact BO hg
    ·refine wo hg (wv (Ad B5 rfl Cu rfl rfl) (wo hg (wv (A0 (i:=0) Dd rfl rfl rfl) (wo hg (wv (Cl rfl rfl) (wo hg (wm rfl (AH (decide (0<hb.fN)) (λhk=>?_) (λhk=>?_)))))))))
     ·refine wo hk (wm rfl (wo hk (wm rfl (wo hk (wv (Gz rfl rfl (C0 (C4 cR hg) hk)) (wo hk (wv (AV BP rfl rfl (C0 (C4 cT hg) hk)) (wo hk (wv (B3 rfl rfl) (wo hg (Gk rfl hk rfl (D4 rfl hg rfl (Al ?_)))))))))))));exact BO (And.intro hg hk)
     ·refine wf hk (wf hk (wf hk (wf hk (wf hk (wo hg (wv (r:=rB false) (A4 (b:=decide (0<hb.fN)) rfl hk rfl) (D4 rfl hg rfl (Al ?_))))))));exact BO (And.intro hg hk)
   refine Ap (b:=((!(ov (Bn s hn ([93]:Ah))))||((decide (0<hb.fN))&&(decide ((AT s (hn-1))=44))))) rfl (λhV=>?_) (λhV=>?_)
   ·have gw:=AB hV gv;refine At (AN (AO (Am (Ak (wv (Ad B5 rfl DX rfl rfl) (wv (A0 (i:=0) Ex rfl rfl rfl) (wv (B3 rfl rfl) (Ar (Ap (b:=decide (hb.fKind=6)) rfl (λhW=>?_) (λhW=>?_))))))))))
    ·have cU:=AB hW gw;refine Ak (wm rfl (wm rfl ?_));obtain⟨he,cV,cW⟩:=AL cU;refine Co Tryz.call123 (Ic F s hn he cV) rfl (wm rfl (wv (AF rfl rfl) (wv (AF rfl rfl) (wa rfl (wa rfl (Ar (Am ?_)))))));obtain⟨cX,gx⟩:=Av cW;refine AA [(0,rS s),(6,rv (.pointer (some ⟨b1,0,none⟩))),(7,rS ([93]:Ah)),(8,rv hz),(10,rS he.1),(11,rI .i64 he.2),(56,rB ((decide (he.2<0))||(!(ov (Bn s he.2 ([58]:Ah))))))] [.blk b1 (Ab hb) 78,.row hz 78 4 (List.map Ab hi)] ?_ ?_
     ·refine Aj (wm rfl (wv (Cp rfl rfl) (wm rfl (AH (decide (he.2<0)) (λho=>?_) (λho=>?_)))))
      ·refine wf ho (wf ho (wf ho (wf ho (wv (r:=rB true) (As (b:=decide (he.2<0)) rfl ho rfl) (Al ?_)))));exact BO ho
      ·refine wo ho (wm rfl (wo ho (wm rfl (wo ho (Co H6 (CB s he.2 ([58]:Ah) (ov (Bn s he.2 ([58]:Ah))) (Gr (C4 cX ho))) rfl (wo ho (wv (BJ rfl) (D4 rfl ho rfl (Al ?_)))))))));exact BO ho
     refine Ap (b:=((decide (he.2<0))||(!(ov (Bn s he.2 ([58]:Ah)))))) rfl (λhX=>?_) (λhX=>?_)
     ·have cY:=AB hX gx;refine Ak (wv (r:=rv (.slice none 0 0)) (Ac rfl) (wv (r:=rI .i64 (-1)) (Ac rfl) (Ar (Ax (Af (Af (A3 (Af (Bc ?_)))))))));have cZ:=B1 cY hu h2;refine A3 (Af (WK.up (d:=4) (r:=Bo 4 (List.map Ab ([]:List Aa))) rfl (Up.le (GJ.nil _)) ?_));obtain rfl:=Az cZ;exact Aw (Dg IT (AJ rfl) (AJ rfl)) (sS (sS sN)) ⟨rfl,rfl⟩
     ·have xa:=AC hX gx;refine At (AN (Ak (wm rfl (wm rfl (wv (r:=Bz [rI .i64 4,rI .i64 0,rS he.1,rI .i64 0]) (EG rfl rfl rfl rfl) (AY (ys:=([(Aa.mk 4 0 he.1 0)]:List Aa)) (enc:=Ab) (css:=[[rI .i64 4,rI .i64 0,rS he.1,rI .i64 0]]) (xs:=[.tmp 59]) BN Cb EA rfl rfl rfl ⟨Gw.agg ⟨Up.refl _,Up.refl _,Up.refl _,Up.refl _,trivial⟩,trivial⟩ rfl AU rfl rfl rfl (λhY=>?_)))))));obtain⟨xb,xc⟩:=Av xa;obtain⟨inf,hinf⟩:=Er;refine BV (xs:=hi) (ys:=([(Aa.mk 4 0 he.1 0)]:List Aa)) (enc:=Ab) (i:=2) BN hinf.1 hinf.2.1 hinf.2.2.1 hinf.2.2.2 rfl rfl rfl rfl rfl (JW.w (i:=0) rfl rfl) AU BF xb rfl (λxU=>?_);refine wa rfl (Ar (Aj (wm rfl ?_)));obtain⟨xd,xe⟩:=Av xc;refine wv (Bi rfl rfl xd) (wa rfl (By (wm rfl (wm rfl ?_))));obtain⟨hr,xf,gy⟩:=AL xe;refine Co UF (hA s (he.2+1) hr xf) rfl (wm rfl (wv (AF rfl rfl) (wv (AF rfl rfl) (wa rfl (wa rfl (Ar (Am (Ak (wm rfl (wv (Cp rfl rfl) (Ar (Ap (b:=decide (hr.2<0)) rfl (λhZ=>?_) (λhZ=>?_)))))))))))))
      ·have xg:=AB hZ gy;refine Ak (wv (r:=rv (.slice none 0 0)) (Ac rfl) (wv (r:=rI .i64 (-1)) (Ac rfl) (Ar (Ax (Af (A3 (Af (Bc ?_))))))));have xh:=B1 xg hu h2;refine A3 (Af (WK.up (d:=4) (r:=Bo 4 (List.map Ab ([]:List Aa))) rfl (Up.le (GJ.nil _)) ?_));obtain rfl:=Az xh;exact Aw (Dg IT (AJ rfl) (AJ rfl)) (sS (sS (sS sN))) ⟨rfl,rfl⟩
      ·have xi:=AC hZ gy;refine At (AN (Ak (wm rfl (wm rfl ?_))));obtain⟨xj,xk⟩:=Av xi;obtain⟨inf,hinf⟩:=Er;refine BV (xs:=hi++([(Aa.mk 4 0 he.1 0)]:List Aa)) (ys:=hr.1) (enc:=Ab) (i:=0) BN hinf.1 hinf.2.1 hinf.2.2.1 hinf.2.2.2 rfl rfl rfl rfl rfl (JW.z rfl rfl) AU BF xj rfl (λh8=>?_);refine wa rfl (By (wv (Ad B5 rfl Cu rfl rfl) (wv (A0 (i:=2) Dd rfl rfl rfl) ?_)));obtain⟨xl,xm⟩:=Av xk;refine wv (Bi rfl rfl xl) (wv (Ad B5 rfl Cu rfl rfl) (BD (i:=2) Cu rfl rfl (Ck rfl) rfl rfl (cs':=[rI .i64 hb.fKind,rI .i64 hb.fInt,rS hb.fStr,rI .i64 (hb.fN+1)]) rfl (H':=[.row h8 78 4 (List.map Ab ((hi++([(Aa.mk 4 0 he.1 0)]:List Aa))++hr.1)),.row (.slice (some ⟨hY,0,none⟩) 1 1) 78 4 (List.map Ab ([(Aa.mk 4 0 he.1 0)]:List Aa)),.blk b1 [rI .i64 hb.fKind,rI .i64 hb.fInt,rS hb.fStr,rI .i64 (hb.fN+1)] 78]) rfl (By (wm rfl (wa rfl (By (wm rfl (wm rfl ?_))))))));obtain⟨gz,xn,g0⟩:=AL xm;refine Co H6 (CB s hr.2 ([44]:Ah) gz xn) rfl (Ar (Ap (b:=gz) rfl (λga=>?_) (λga=>?_)))
       ·have xo:=AB ga g0;refine Aj (wm rfl ?_);obtain⟨xp,xq⟩:=Av xo;refine wv (Bi rfl rfl xp) (wa rfl (Al (AK (Ca (H2:=[.blk b1 [rI .i64 hb.fKind,rI .i64 hb.fInt,rS hb.fStr,rI .i64 (hb.fN+1)] 78,.row h8 78 4 (List.map Ab ((hi++([(Aa.mk 4 0 he.1 0)]:List Aa))++hr.1)),.row (.slice (some ⟨hY,0,none⟩) 1 1) 78 4 (List.map Ab ([(Aa.mk 4 0 he.1 0)]:List Aa))]) ((A9 (i:=2) rfl).trans (AaT _ (AaP _))) ?_))));have xr:=Bk xq hu;exact Aq (AG (hG,((hi++([(Aa.mk 4 0 he.1 0)]:List Aa))++hr.1,hr.2+1,(Aa.mk hb.fKind hb.fInt hb.fStr (hb.fN+1))),h8) ⟨xr,AaX _⟩ (AQ.c5 rfl rfl rfl rfl rfl AQ.nil) (sC (sC (sS sN))))
       ·have xt:=AC ga g0;refine Ak (wm rfl (wm rfl (wm rfl ?_)));obtain⟨g1,xu,g3⟩:=AL xt;refine Co H6 (CB s hr.2 ([93]:Ah) g1 xu) rfl (wv (BJ rfl) (Ar (Ap (b:=!g1) rfl (λgb=>?_) (λgb=>?_))))
        ·have xv:=AB gb g3;refine Ak (wv (r:=rv (.slice none 0 0)) (Ac rfl) (wv (r:=rI .i64 (-1)) (Ac rfl) (Ar (Ax (A3 (Af (Bc ?_)))))));have xw:=B1 xv hu h2;refine A3 (Af (WK.up (d:=4) (r:=Bo 4 (List.map Ab ([]:List Aa))) rfl (Up.le (GJ.nil _)) ?_));obtain rfl:=Az xw;exact Aw (Dg IT (AJ rfl) (AJ rfl)) (sS (sS (sS sN))) ⟨rfl,rfl⟩
        ·have xx:=AC gb g3;refine At (AK (Ca (H2:=[.blk b1 [rI .i64 hb.fKind,rI .i64 hb.fInt,rS hb.fStr,rI .i64 (hb.fN+1)] 78,.row h8 78 4 (List.map Ab ((hi++([(Aa.mk 4 0 he.1 0)]:List Aa))++hr.1)),.row (.slice (some ⟨hY,0,none⟩) 1 1) 78 4 (List.map Ab ([(Aa.mk 4 0 he.1 0)]:List Aa))]) ((A9 (i:=2) rfl).trans (AaT _ (AaP _))) ?_));have xy:=Bk xx hu;exact Aq (AG (hG,((hi++([(Aa.mk 4 0 he.1 0)]:List Aa))++hr.1,hr.2,(Aa.mk hb.fKind hb.fInt hb.fStr (hb.fN+1))),h8) ⟨xy,AaX _⟩ (AQ.c5 rfl rfl rfl rfl rfl AQ.nil) (sC (sC (sS sN))))
    ·have xz:=AC hW gw;refine At (AN (Ak (wm rfl (wm rfl ?_))));obtain⟨hs,x0,g4⟩:=AL xz;refine Co UF (hA s hn hs x0) rfl (wm rfl (wv (AF rfl rfl) (wv (AF rfl rfl) (wa rfl (wa rfl (Ar (Am (Ak (wm rfl (wv (Cp rfl rfl) (Ar (Ap (b:=decide (hs.2<0)) rfl (λgc=>?_) (λgc=>?_)))))))))))))
     ·have x1:=AB gc g4;refine Ak (wv (r:=rv (.slice none 0 0)) (Ac rfl) (wv (r:=rI .i64 (-1)) (Ac rfl) (Ar (Ax (Af (A3 (Af (Bc ?_))))))));have x2:=B1 x1 hu h2;refine A3 (Af (WK.up (d:=4) (r:=Bo 4 (List.map Ab ([]:List Aa))) rfl (Up.le (GJ.nil _)) ?_));obtain rfl:=Az x2;exact Aw (Dg IT (AJ rfl) (AJ rfl)) (sS (sS sN)) ⟨rfl,rfl⟩
     ·have x3:=AC gc g4;refine At (AN (Ak (wm rfl (wm rfl ?_))));obtain⟨x4,x5⟩:=Av x3;obtain⟨inf,hinf⟩:=Er;refine BV (xs:=hi) (ys:=hs.1) (enc:=Ab) (i:=1) BN hinf.1 hinf.2.1 hinf.2.2.1 hinf.2.2.2 rfl rfl rfl rfl rfl (JW.z rfl rfl) AU BF x4 rfl (λh9=>?_);refine wa rfl (By (wv (Ad B5 rfl Cu rfl rfl) (wv (A0 (i:=1) Dd rfl rfl rfl) ?_)));obtain⟨x6,x7⟩:=Av x5;refine wv (Bi rfl rfl x6) (wv (Ad B5 rfl Cu rfl rfl) (BD (i:=1) Cu rfl rfl (Ck rfl) rfl rfl (cs':=[rI .i64 hb.fKind,rI .i64 hb.fInt,rS hb.fStr,rI .i64 (hb.fN+1)]) rfl (H':=[.row h9 78 4 (List.map Ab (hi++hs.1)),.blk b1 [rI .i64 hb.fKind,rI .i64 hb.fInt,rS hb.fStr,rI .i64 (hb.fN+1)] 78]) rfl (By (wm rfl (wa rfl (By (wm rfl (wm rfl ?_))))))));obtain⟨g5,x8,g7⟩:=AL x7;refine Co H6 (CB s hs.2 ([44]:Ah) g5 x8) rfl (Ar (Ap (b:=g5) rfl (λgd=>?_) (λgd=>?_)))
      ·have x9:=AB gd g7;refine Aj (wm rfl ?_);obtain⟨xA,xB⟩:=Av x9;refine wv (Bi rfl rfl xA) (wa rfl (Al (AK (Ca (H2:=[.blk b1 [rI .i64 hb.fKind,rI .i64 hb.fInt,rS hb.fStr,rI .i64 (hb.fN+1)] 78,.row h9 78 4 (List.map Ab (hi++hs.1))]) ((A9 (i:=1) rfl).trans (AaT _ (AaP _))) ?_))));have xC:=Bk xB hu;exact Aq (AG (hG,(hi++hs.1,hs.2+1,(Aa.mk hb.fKind hb.fInt hb.fStr (hb.fN+1))),h9) ⟨xC,AaX _⟩ (AQ.c5 rfl rfl rfl rfl rfl AQ.nil) (sC (sC sN)))
      ·have xD:=AC gd g7;refine Ak (wm rfl (wm rfl (wm rfl ?_)));obtain⟨g8,xE,g9⟩:=AL xD;refine Co H6 (CB s hs.2 ([93]:Ah) g8 xE) rfl (wv (BJ rfl) (Ar (Ap (b:=!g8) rfl (λge=>?_) (λge=>?_))))
       ·have xF:=AB ge g9;refine Ak (wv (r:=rv (.slice none 0 0)) (Ac rfl) (wv (r:=rI .i64 (-1)) (Ac rfl) (Ar (Ax (A3 (Af (Bc ?_)))))));have xG:=B1 xF hu h2;refine A3 (Af (WK.up (d:=4) (r:=Bo 4 (List.map Ab ([]:List Aa))) rfl (Up.le (GJ.nil _)) ?_));obtain rfl:=Az xG;exact Aw (Dg IT (AJ rfl) (AJ rfl)) (sS (sS sN)) ⟨rfl,rfl⟩
       ·have xH:=AC ge g9;refine At (AK (Ca (H2:=[.blk b1 [rI .i64 hb.fKind,rI .i64 hb.fInt,rS hb.fStr,rI .i64 (hb.fN+1)] 78,.row h9 78 4 (List.map Ab (hi++hs.1))]) ((A9 (i:=1) rfl).trans (AaT _ (AaP _))) ?_));have xI:=Bk xH hu;exact Aq (AG (hG,(hi++hs.1,hs.2,(Aa.mk hb.fKind hb.fInt hb.fStr (hb.fN+1))),h9) ⟨xI,AaX _⟩ (AQ.c5 rfl rfl rfl rfl rfl AQ.nil) (sC (sC sN)))
   ·have xJ:=AC hV gv;refine B9 (A5 ?_);have xK:=Cj xJ hu h2;exact A5 (Br (AG ((hi,hn,hb),hz) xK (AQ.c rfl (AQ.c rfl (AQ.c rfl AQ.nil))) (sC (sC sN))))
  ·rintro⟨⟨hI,gA,hx⟩,gB⟩ hJ;refine CR (l':=[(6,rv (.pointer (some ⟨b1,0,none⟩))),(8,rv gB),(9,rI .i64 gA)]) (H':=[.blk b1 (Ab hx) 78,.row gB 78 4 (List.map Ab hI)]) rfl rfl ?_;replace hJ:He hI gA hx=some r:=hJ;unfold He at hJ;refine Bm (AN (Ak (wv (Bs (i:=0) L2 Cb rfl rfl rfl rfl) (AY (ys:=([hx]:List Aa)) (enc:=Ab) (css:=[[rI .i64 hx.fKind,rI .i64 hx.fInt,rS hx.fStr,rI .i64 hx.fN]]) (xs:=[.tmp 90]) BN Cb EA rfl rfl rfl ⟨Gw.agg ⟨Up.refl _,Up.refl _,Up.refl _,Up.refl _,trivial⟩,trivial⟩ rfl AU rfl rfl rfl (λxV=>?_)))));refine wa rfl (By (wm rfl (wm rfl ?_)));obtain⟨xL,xM⟩:=Av hJ;obtain⟨inf,hinf⟩:=Er;refine BV (xs:=([hx]:List Aa)) (ys:=hI) (enc:=Ab) (i:=0) BN hinf.1 hinf.2.1 hinf.2.2.1 hinf.2.2.2 rfl rfl rfl rfl rfl (JW.w (i:=2) rfl rfl) AU BF xL rfl (λxW=>?_);refine wa rfl (By (wm rfl (wm rfl ?_)));obtain⟨xN,xO⟩:=Av xM;refine wv (Bi rfl rfl xN) (wa rfl (wa rfl (Ar (Ax (WK.freeze (i:=0) rfl (WK.up (d:=4) (r:=Bo 4 (List.map Ab (([hx]:List Aa)++hI))) rfl (Up.fact (i:=0) rfl) ?_))))));obtain rfl:=Az xO;exact Aw (Dg IT (AJ rfl) (AJ rfl)) (sS (sS (sS sN))) ⟨rfl,rfl⟩
theorem L9:∀F:Nat,(∀(s:Ah) (at_:Int) (r:(List Aa)×Int),GW F s at_=some r→Fn Tryz.prog GE 86 [rS s,rI .i64 at_] [] (λR H=>R=C5 [Bo 4 (List.map Ab r.1),rI .i64 r.2]∧H=[]))∧(∀(s:Ah) (at_:Int) (r:(List Aa)×Int),D6 F s at_=some r→Fn Tryz.prog GE 124 [rS s,rI .i64 at_] [] (λR H=>R=C5 [Bo 4 (List.map Ab r.1),rI .i64 r.2]∧H=[]))
  | 0=>⟨(λ_ _ _ h=>by simp[GW] at h),(λ_ _ _ h=>by simp[D6] at h)⟩
  | nn+1=>⟨(λs at_ r h=>Vs nn (D6 nn) (L9 nn).2 s at_ r (by rw[GW] at h;exact h)),(λs at_ r h=>Pc nn (GW nn) (L9 nn).1 s at_ r (by rw[D6] at h;exact h))⟩
theorem X7 (F:Nat)(s:Ah)(at_:Int)(r:(List Aa)×Int)(h:GW F s at_=some r):Fn Tryz.prog GE 86 [rS s,rI .i64 at_] [] (λR H=>R=C5 [Bo 4 (List.map Ab r.1),rI .i64 r.2]∧H=[]):=(L9 F).1 s at_ r h
theorem TJ (F:Nat)(s:Ah)(r:(List Aa)×Int)(h:KW F s=some r):Fn Tryz.prog GE 57 [rS s] [] (λR H=>R=C5 [Bo 4 (List.map Ab r.1),rI .i64 r.2]∧H=[]):=by
 refine enter (n:=22) Tryz.func57 rfl Tryz.ntmps57 rfl (λw Z=>?_);refine Bb (l':=[(0,rS s)]) (H':=[]) rfl rfl ?_;unfold KW at h;refine Ak (wv (r:=rv (.slice none 0 0)) (Ac rfl) (wv (r:=rI .i64 0) (Ac rfl) (Ar (Am (Ak (wm rfl (wv (Bd BP rfl) (wv (Cl rfl rfl) (Ar (Ap (b:=decide (4000<(s.length:Int))) rfl (λc1=>?_) (λc1=>?_)))))))))))
 ·have h2:=AB c1 h;refine Ak (wv (r:=rv (.slice none 0 0)) (Ac rfl) (wv (r:=rI .i64 3) (Ac rfl) (Ar (Ax (Af (WK.up (d:=2) (r:=Bo 4 (List.map Ab ([]:List Aa))) rfl (Up.le (GJ.nil _)) ?_))))));obtain rfl:=Az h2;exact Aw (Dg Tryz.results57 (AJ rfl) (AJ rfl)) sN ⟨rfl,rfl⟩
 ·have h3:=AC c1 h;refine At (AN (Ak (wm rfl ?_)));obtain⟨r4,e6,h5⟩:=AL h3;refine Co UF (X7 F s 0 r4 e6) rfl (wm rfl (wv (AF rfl rfl) (wv (AF rfl rfl) (wa rfl (wa rfl (Ar (Am (Ak (wm rfl (wm rfl (wv (Bd BP rfl) (wv (CF rfl rfl) (Ar (Ap (b:=!decide (r4.2=(s.length:Int))) rfl (λc7=>?_) (λc7=>?_)))))))))))))))
  ·have h8:=AB c7 h5;refine Ak (wv (r:=rv (.slice none 0 0)) (Ac rfl) (wv (r:=rI .i64 1) (Ac rfl) (Ar (Ax (Af (WK.up (d:=2) (r:=Bo 4 (List.map Ab ([]:List Aa))) rfl (Up.le (GJ.nil _)) ?_))))));obtain rfl:=Az h8;exact Aw (Dg Tryz.results57 (AJ rfl) (AJ rfl)) sN ⟨rfl,rfl⟩
  ·have h9:=AC c7 h5;refine At (AN (Ak (wm rfl ?_)));obtain⟨ha,hb,hd⟩:=AL h9;refine Co Tryz.call87 (RC F r4.1 ha hb) rfl (wv (AF rfl rfl) (wv (AF rfl rfl) (wa rfl (wa rfl (Ar (Ax ?_))))));obtain rfl:=Az hd;exact Aw (Dg Tryz.results57 (AJ rfl) (AJ rfl)) sN ⟨rfl,rfl⟩
end Go.Proofs.YtkoiaconljdbeaaGreatDoor.Q
namespace Go.Proofs.YtkoiaconljdbeaaGreatDoor
open Go
set_option linter.unusedVariables false
set_option linter.unusedSimpArgs false
section
variable {T S : Type}
def CG:List (Ah×T)→Ah→Option T
 | [],_=>none
 | p::r,k=>bif decide (p.1=k) then some p.2 else CG r k
def Bg (xs:List (Ah×T))(k:Ah)(z:T):T:=(CG xs k).getD z
def GQ (xs:List (Ah×T))(k:Ah):Bool:=(CG xs k).isSome
def mins (k:Ah)(v:T):List (Ah×T)→List (Ah×T)
 | []=>[(k,v)]
 | p::r=>bif BI k p.1 then(k,v)::p::r else p::mins k v r
def mput (xs:List (Ah×T))(k:Ah)(v:T):List (Ah×T):=xs.map λp=>bif decide (p.1=k) then(k,v) else p
def mset (xs:List (Ah×T))(k:Ah)(v:T):List (Ah×T):=bif GQ xs k then mput xs k v else mins k v xs
def mdel (xs:List (Ah×T))(k:Ah):List (Ah×T):=xs.filter λp=>!decide (p.1=k)
def BC (f:T→S)(xs:List (Ah×T)):List (Ah×S):=xs.map λp=>(p.1,f p.2)
theorem Li (f:T→S):∀(xs:List (Ah×T)) (k:Ah),CG (BC f xs) k=(CG xs k).map f
 | [],k=>rfl
 | p::r,k=>by
  show(bif decide (p.1=k) then some (f p.2) else CG (BC f r) k)=_;rw[CG,Li f r k]
  cases decide (p.1=k)<;>rfl
theorem VX (f:T→S)(xs:List (Ah×T))(k:Ah):GQ (BC f xs) k=GQ xs k:=by
 unfold GQ;rw[Li];cases CG xs k<;>rfl
theorem QC (f:T→S)(k:Ah)(v:T):∀xs:List (Ah×T),BC f (mins k v xs)=mins k (f v) (BC f xs)
 | []=>rfl
 | p::r=>by
  show BC f (bif BI k p.1 then(k,v)::p::r else p::mins k v r)=(bif BI k p.1 then(k,f v)::(p.1,f p.2)::BC f r else(p.1,f p.2)::mins k (f v) (BC f r));rw[← QC f k v r]
  cases BI k p.1<;>rfl
theorem VV (f:T→S)(xs:List (Ah×T))(k:Ah)(v:T):BC f (mset xs k v)=mset (BC f xs) k (f v):=by
 unfold mset;rw[VX]
 cases GQ xs k with
 | false=>exact QC f k v xs
 | true=>
  show BC f (mput xs k v)=mput (BC f xs) k (f v);unfold BC mput;rw[AbJ,AbJ];refine List.map_congr_left λp _=>?_;show _=(bif decide (p.1=k) then(k,f v) else(p.1,f p.2));simp only[Function.comp]
  cases decide (p.1=k)<;>rfl
theorem VY (f:T→S)(xs:List (Ah×T))(k:Ah):BC f (mdel xs k)=mdel (BC f xs) k:=by
 unfold BC mdel;rw[List.filter_map];rfl
theorem Js (f:T→S)(xs:List (Ah×T)):(BC f xs).length=xs.length:=by simp[BC]
theorem LH (k:Ah)(v:T):∀xs:List (Ah×T),(mins k v xs).Perm ((k,v)::xs)
 | []=>AaP _
 | p::r=>by
  rw[mins]
  cases BI k p.1 with
  | true=>exact AaP _
  | false=>exact((LH k v r).cons p).trans (List.Perm.swap _ _ _)
def JR (x:T):List T→List (List T)
 | []=>[[x]]
 | y::r=>(x::y::r)::(JR x r).map (y::·)
def Oy:List T→List (List T)
 | []=>[[]]
 | x::r=>(Oy r).flatMap (JR x)
theorem Ml (x:T):∀(a b:List T),a++x::b∈JR x (a++b)
 | [],[]=>by simp[JR]
 | [],y::b=>by simp[JR]
 | y::a,b=>by
  simp only[Ab2,JR,AbH,List.mem_map];exact .inr ⟨_,Ml x a b,rfl⟩
theorem O5:∀(xs ys:List T),ys.Perm xs→ys∈Oy xs
 | [],ys,h=>by rw[h.eq_nil];simp[Oy]
 | x::r,ys,h=>by
  have hx:x∈ys:=h.symm.subset (List.mem_cons_self ..);obtain⟨a,b,rfl⟩:=List.append_of_mem hx;have h2:(a++b).Perm r:=(List.perm_middle.symm.trans h).cons_inv;simp only[Oy,List.mem_flatMap];exact⟨a++b,O5 r _ h2,Ml x a b⟩
def XP {R:Type}[DecidableEq R](xs:List T)(K:List T→Option R):Option R:=match K xs with
 | none=>none
 | some r=>bif (Oy xs).all (λp=>decide (K p=some r)) then some r else none
theorem VW {R:Type}[DecidableEq R]{xs:List T}{K:List T→Option R}{r:R}(h:XP xs K=some r):∀p:List T,p.Perm xs→K p=some r:=λp hp=>by
 unfold XP at h
 cases hk:K xs with
 | none=>rw[hk] at h;cases h
 | some q=>
  rw[hk] at h;simp only at h
  cases ha:(Oy xs).all (λp=>decide (K p=some q)) with
  | false=>rw[ha] at h;cases h
  | true=>
   rw[ha] at h;cases h;exact Abo (List.all_eq_true.1 ha p (O5 xs p hp))
def We {St O:Type}(body:T→St→Option (Stp St (Out O St))):List T→St→Option (Out O St)
 | [],s=>some (.go s)
 | x::r,s=>match body x s with
  | none=>none
  | some (.next s')=>We body r s'
  | some (.out o)=>some o
def Aae {St R:Type}(body:T→St→Option (Stp St (Out R St)))(ys:List T)(K:St→Option R)(r:R):Stp St (Out R St)→Prop
 | .next s'=>∀q:List T,q.Perm ys→Bx (We body q s') (BL K)=some r
 | .out o=>BL K o=some r
theorem ZN {St R:Type}{body:T→St→Option (Stp St (Out R St))}{ys ys':List T}{p:T}{s:St}{K:St→Option R}{r:R}(h:∀q:List T,q.Perm ys→Bx (We body q s) (BL K)=some r)(hp:ys.Perm (p::ys')):∃t,body p s=some t∧Aae body ys' K r t:=by
 have h1:∀q:List T,q.Perm ys'→Bx (We body (p::q) s) (BL K)=some r:=λq hq=>h _ ((hq.cons p).trans hp.symm)
 cases hb:body p s with
 | none=>
  have:=h1 ys' (AaP _);rw[We,hb] at this;cases this
 | some t=>
  refine⟨t,rfl,?_⟩
  cases t with
  | next s'=>
   intro q hq;have:=h1 q hq;rw[We,hb] at this;exact this
  | out o=>
   have:=h1 ys' (AaP _);rw[We,hb] at this;exact this
theorem XS {St R:Type}{body:T→St→Option (Stp St (Out R St))}{ys:List T}{s:St}{K:St→Option R}{r:R}(h:∀q:List T,q.Perm ys→Bx (We body q s) (BL K)=some r)(hy:ys=[]):K s=some r:=by
 subst hy;exact h [] (AaP _)
theorem Uf {St R:Type}{body:T→St→Option (Stp St (Out R St))}{ys:List T}{s':St}{K:St→Option R}{r:R}{t:Stp St (Out R St)}(h:some (Stp.next s')=some t)(ht:Aae body ys K r t):∀q:List T,q.Perm ys→Bx (We body q s') (BL K)=some r:=by cases h;exact ht
theorem XA {ys ys':List T}{p:T}(h:ys.Perm (p::ys')):ys'.length<ys.length:=by rw[h.length_eq];exact AaX _
end
section
variable {T S : Type}
def OV (lt:T→T→Bool)(x:T):List T→List T
 | []=>[x]
 | y::r=>bif lt y x then y::OV lt x r else x::y::r
def srt (lt:T→T→Bool):List T→List T
 | []=>[]
 | x::r=>OV lt x (srt lt r)
theorem Iw (lt:T→T→Bool)(x:T):∀xs:List T,(OV lt x xs).Perm (x::xs)
 | []=>AaP _
 | y::r=>by
  rw[OV]
  cases lt y x with
  | true=>exact((Iw lt x r).cons y).trans (List.Perm.swap _ _ _)
  | false=>exact AaP _
theorem KN (lt:T→T→Bool):∀xs:List T,(srt lt xs).Perm xs
 | []=>AaP _
 | x::r=>(Iw lt x _).trans ((KN lt r).cons x)
def Nr (lt:T→T→Bool):List T→Bool
 | []=>true
 | x::r=>r.all (λy=>lt x y||lt y x)&&Nr lt r
structure Z6 (lt:T→T→Bool):Prop where
 irrefl:∀x,lt x x=false
 ntrans:∀x y z,lt x y=false→lt y z=false→lt x z=false
 asym:∀x y,lt x y=true→lt y x=false
theorem Nq {lt:T→T→Bool}:∀{xs:List T},Nr lt xs=true→xs.Pairwise λx y=>(lt x y||lt y x)=true
 | [],_=>List.Pairwise.nil
 | x::r,h=>by
  simp only[Nr,AaO,Ab3] at h;exact List.pairwise_cons.2 ⟨λy hy=>h.1 y hy,Nq h.2⟩
theorem Qw {R:T→T→Prop}(hs:∀x y,R x y→R y x):∀{xs:List T},xs.Pairwise R→∀a b,a∈xs→b∈xs→a=b∨R a b
 | [],_,a,b,h,_=>by cases h
 | x::r,h,a,b,ha,hb=>by
  rw[List.pairwise_cons] at h;rcases List.mem_cons.1 ha with e | ha1
  ·rcases List.mem_cons.1 hb with e2 | hb1
   ·exact .inl (e.trans e2.symm)
   ·exact .inr (e▸h.1 b hb1)
  ·rcases List.mem_cons.1 hb with e2 | hb1
   ·exact .inr (hs _ _ (e2▸h.1 a ha1))
   ·exact Qw hs h.2 a b ha1 hb1
theorem Jk {lt:T→T→Bool}(L:Z6 lt)(x:T):∀{xs:List T},(xs.Pairwise λx y=>lt y x=false)→(OV lt x xs).Pairwise λx y=>lt y x=false
 | [],_=>List.pairwise_singleton _ _
 | y::r,h=>by
  rw[List.pairwise_cons] at h;rw[OV]
  cases hy:lt y x with
  | true=>
   refine List.pairwise_cons.2 ⟨λz hz=>?_,Jk L x h.2⟩;rcases List.mem_cons.1 ((Iw lt x r).subset hz) with e | h1
   ·rw[e];exact L.asym _ _ hy
   ·exact h.1 z h1
  | false=>
   refine List.pairwise_cons.2 ⟨λz hz=>?_,List.pairwise_cons.2 h⟩;rcases List.mem_cons.1 hz with e | h1
   ·rw[e];exact hy
   ·exact L.ntrans _ _ _ (h.1 z h1) hy
theorem Nn {lt:T→T→Bool}(L:Z6 lt):∀xs:List T,(srt lt xs).Pairwise λx y=>lt y x=false
 | []=>List.Pairwise.nil
 | x::r=>Jk L x (Nn L r)
theorem YQ {lt:T→T→Bool}(L:Z6 lt){xs ys:List T}(hd:Nr lt xs=true)(hp:ys.Perm xs)(hs:ys.Pairwise λx y=>lt y x=false):ys=srt lt xs:=by
 refine List.Perm.eq_of_pairwise (le:=λx y=>lt y x=false) ?_ hs (Nn L xs) (hp.trans (KN lt xs).symm);intro a b ha hb h2 h3;have hb':b∈xs:=(KN lt xs).subset hb;rcases Qw (R:=λx y=>(lt x y||lt y x)=true) (λx y h=>by rw[Bool.or_comm];exact h) (Nq hd) a b (hp.subset ha) hb' with h | h
 ·exact h
 ·rw[h2,h3] at h;cases h
inductive All2 (R:T→S→Prop):List T→List S→Prop
 | nil:All2 R [] []
 | cons {x y xs ys}:R x y→All2 R xs ys→All2 R (x::xs) (y::ys)
theorem All2.length {R:T→S→Prop}{xs:List T}{ys:List S}(h:All2 R xs ys):xs.length=ys.length:=by
 induction h with
 | nil=>rfl
 | cons _ _ ih=>simp[ih]
theorem All2.perm {R:T→S→Prop}{ys zs:List S}(hp:ys.Perm zs):∀{xs:List T},All2 R xs ys→∃xs',xs'.Perm xs∧All2 R xs' zs:=by
 induction hp with
 | nil=>intro xs h;exact⟨xs,AaP _,h⟩
 | cons a _ ih=>
  intro xs h
  cases h with
  | cons h1 h2=>obtain⟨x',p,h3⟩:=ih h2;exact⟨_,p.cons _,.cons h1 h3⟩
 | swap a b l=>
  intro xs h
  cases h with
  | cons h1 h2=>cases h2 with
   | cons h3 h4=>exact⟨_,List.Perm.swap _ _ _,.cons h3 (.cons h1 h4)⟩
 | trans _ _ ih1 ih2=>
  intro xs h;obtain⟨x1,p1,h1⟩:=ih1 h;obtain⟨x2,p2,h2⟩:=ih2 h1;exact⟨x2,p2.trans p1,h2⟩
theorem All2.pairwise {R:T→S→Prop}{p:T→T→Prop}{q:S→S→Prop}(hpq:∀x x' y y',R x y→R x' y'→q y y'→p x x'){xs:List T}{ys:List S}(h:All2 R xs ys):ys.Pairwise q→xs.Pairwise p:=by
 have key:∀{xs:List T} {ys:List S},All2 R xs ys→∀x∈xs,∃y∈ys,R x y:=fun {xs ys} h=>by
  induction h with
  | nil=>intro x hx;cases hx
  | cons h1 _ ih=>
   intro x hx;rcases List.mem_cons.1 hx with rfl | hx
   ·exact⟨_,List.mem_cons_self ..,h1⟩
   ·obtain⟨y,hy,hr⟩:=ih x hx;exact⟨y,List.mem_cons_of_mem _ hy,hr⟩
 induction h with
 | nil=>intro _;exact List.Pairwise.nil
 | cons h1 h2 ih=>
  intro hq;rw[List.pairwise_cons] at hq ⊢;refine⟨λx' hx'=>?_,ih hq.2⟩;obtain⟨y',hy',hr⟩:=key h2 x' hx';exact hpq _ _ _ _ h1 hr (hq.1 y' hy')
end
theorem Ko:∀a:Ah,BI a a=false
 | []=>rfl
 | x::a=>by
  show Op.bytesLess (x::a) (x::a)=false;have h : ¬ x<x:=λh=>absurd h (by simp);have ih:Op.bytesLess a a=false:=Ko a;simp[Op.bytesLess,h,ih]
theorem OU (x y:UInt8)(a b:Ah):BI (x::a) (y::b)=(decide (x<y)||(decide (x=y)&&BI a b)):=by
 show Op.bytesLess (x::a) (y::b)=_;simp only[Op.bytesLess]
 by_cases h:x<y
 ·simp[h]
 ·by_cases e:x=y
  ·subst e;simp[h]
  ·have:y<x:=by
    rcases Nat.lt_trichotomy x.toNat y.toNat with h1 | h1 | h1
    ·exact absurd (UInt8.lt_iff_toNat_lt.2 h1) h
    ·exact absurd (UInt8.toNat_inj.1 h1) e
    ·exact UInt8.lt_iff_toNat_lt.2 h1
   simp[h,e,this]
theorem Iv:∀{a b c:Ah},BI a b=true→BI b c=true→BI a c=true
 | [],[],_,h,_=>by cases h
 | [],_::_,[],_,h=>by cases h
 | [],_::_,_::_,_,_=>rfl
 | _::_,[],_,h,_=>by cases h
 | _::_,_::_,[],_,h=>by cases h
 | x::a,y::b,z::c,h,h'=>by
  rw[OU] at h h' ⊢;simp only[Abt,AaL,AaO] at h h' ⊢;have t:∀{u v:UInt8},u<v↔u.toNat<v.toNat:=UInt8.lt_iff_toNat_lt;rcases h with h | ⟨rfl,h⟩
  ·rcases h' with h' | ⟨rfl,h'⟩
   ·exact .inl (t.2 (Nat.lt_trans (t.1 h) (t.1 h')))
   ·exact .inl h
  ·rcases h' with h' | ⟨rfl,h'⟩
   ·exact .inl h'
   ·exact .inr ⟨rfl,Iv h h'⟩
theorem KO:∀(a b:Ah),BI a b=true∨a=b∨BI b a=true
 | [],[]=>.inr (.inl rfl)
 | [],_::_=>.inl rfl
 | _::_,[]=>.inr (.inr rfl)
 | x::a,y::b=>by
  rw[OU,OU];simp only[Abt,AaL,AaO];rcases Nat.lt_trichotomy x.toNat y.toNat with h1 | h1 | h1
  ·exact .inl (.inl (UInt8.lt_iff_toNat_lt.2 h1))
  ·have e:=UInt8.toNat_inj.1 h1;subst e;rcases KO a b with h | rfl | h
   ·exact .inl (.inr ⟨rfl,h⟩)
   ·exact .inr (.inl rfl)
   ·exact .inr (.inr (.inr ⟨rfl,h⟩))
  ·exact .inr (.inr (.inl (UInt8.lt_iff_toNat_lt.2 h1)))
theorem Vf {a b:Ah}(h:BI a b=true):BI b a=false:=by
 cases h':BI b a with
 | false=>rfl
 | true=>have:=Iv h h';rw[Ko] at this;cases this
theorem Z9 {a b:Ah}(h:BI a b=true):a≠b:=λe=>by subst e;rw[Ko] at h;cases h
section
variable {T : Type}
def Ms (xs:List (Ah×T)):Prop:=xs.Pairwise λp q=>BI p.1 q.1=true
theorem Ms.nil:Ms ([]:List (Ah×T)):=List.Pairwise.nil
theorem Ms.nodup {xs:List (Ah×T)}(h:Ms xs):(xs.map (·.1)).Nodup:=by
 rw[List.Nodup,List.pairwise_map];exact h.imp λhpq=>Z9 hpq
theorem IK {xs:List (Ah×T)}{k:Ah}:CG xs k=none↔∀p∈xs,p.1≠k:=by
 induction xs with
 | nil=>simp[CG]
 | cons p r ih=>
  rw[CG]
  by_cases h:p.1=k
  ·rw[AaU h];simp[h]
  ·rw[AaR h];simp[h,ih]
theorem If {xs:List (Ah×T)}{k:Ah}{v:T}(h:CG xs k=some v):(k,v)∈xs:=by
 induction xs with
 | nil=>cases h
 | cons p r ih=>
  rw[CG] at h
  by_cases e:p.1=k
  ·rw[AaU e] at h;cases h;subst e;exact List.mem_cons_self ..
  ·rw[AaR e] at h;exact List.mem_cons_of_mem _ (ih h)
theorem N7 {xs:List (Ah×T)}{k:Ah}{v:T}(hn:(xs.map (·.1)).Nodup)(h:(k,v)∈xs):CG xs k=some v:=by
 induction xs with
 | nil=>cases h
 | cons p r ih=>
  rw[Ab6,List.nodup_cons] at hn;rw[CG];rcases List.mem_cons.1 h with h | h
  ·subst h;rw[AaU rfl];rfl
  ·have hne : ¬ p.1=k:=λe=>hn.1 (by rw[e];exact List.mem_map.2 ⟨(k,v),h,rfl⟩);rw[AaR hne];exact ih hn.2 h
theorem QE {k:Ah}{v:T}{q:Ah×T}:∀{xs:List (Ah×T)},q∈mins k v xs→q=(k,v)∨q∈xs
 | [],h=>by simp[mins] at h;exact .inl h
 | p::r,h=>by
  rw[mins] at h
  cases hs:BI k p.1 with
  | true=>rw[hs] at h;simpa using h
  | false=>
   rw[hs] at h;rcases List.mem_cons.1 h with h | h
   ·exact .inr (by rw[h];exact List.mem_cons_self ..)
   ·rcases QE h with h | h
    ·exact .inl h
    ·exact .inr (List.mem_cons_of_mem _ h)
theorem Ms.mins {k:Ah}{v:T}:∀{xs:List (Ah×T)},Ms xs→CG xs k=none→Ms (mins k v xs)
 | [],_,_=>List.pairwise_singleton ..
 | p::r,h,hk=>by
  obtain⟨h1,h2⟩:=List.pairwise_cons.1 h;rw[CG] at hk
  by_cases e:p.1=k
  ·rw[AaU e] at hk;cases hk
  ·rw[AaR e] at hk;rw[Proofs.YtkoiaconljdbeaaGreatDoor.mins]
   cases hs:BI k p.1 with
   | true=>exact List.pairwise_cons.2 ⟨λq hq=>by
     rcases List.mem_cons.1 hq with rfl | hq
     ·exact hs
     ·exact Iv hs (h1 q hq),h⟩
   | false=>
    have hp:BI p.1 k=true:=by
     rcases KO p.1 k with h | h | h
     ·exact h
     ·exact absurd h e
     ·rw[h] at hs;cases hs
    exact List.pairwise_cons.2 ⟨λq hq=>by
     rcases QE hq with rfl | hq
     ·exact hp
     ·exact h1 q hq,Ms.mins h2 hk⟩
theorem Ms.mput {xs:List (Ah×T)}(h:Ms xs)(k:Ah)(v:T):Ms (mput xs k v):=by
 unfold Proofs.YtkoiaconljdbeaaGreatDoor.mput;unfold Ms;rw[List.pairwise_map];refine h.imp fun {p q} hpq=>?_;have e:∀p:Ah×T,(bif decide (p.1=k) then(k,v) else p).1=p.1:=λp=>by
  by_cases hp:p.1=k
  ·rw[AaU hp];exact hp.symm
  ·rw[AaR hp];rfl
 rw[e,e];exact hpq
theorem Ms.mset {xs:List (Ah×T)}(h:Ms xs)(k:Ah)(v:T):Ms (mset xs k v):=by
 unfold Proofs.YtkoiaconljdbeaaGreatDoor.mset GQ
 cases hk:CG xs k with
 | none=>exact h.mins hk
 | some w=>exact h.mput k v
theorem Ms.mdel {xs:List (Ah×T)}(h:Ms xs)(k:Ah):Ms (mdel xs k):=h.sublist (List.filter_sublist ..)
theorem Ms.ext:∀{xs ys:List (Ah×T)},Ms xs→Ms ys→(∀k,CG xs k=CG ys k)→xs=ys
 | [],[],_,_,_=>rfl
 | [],q::s,_,_,h=>by
  have:=h q.1;rw[CG,CG,AaU rfl] at this;cases this
 | p::r,[],_,_,h=>by
  have:=h p.1;rw[CG,CG,AaU rfl] at this;cases this
 | p::r,q::s,hx,hy,h=>by
  obtain⟨x1,x2⟩:=List.pairwise_cons.1 hx;obtain⟨y1,y2⟩:=List.pairwise_cons.1 hy;have hpq:p.1=q.1:=by
   have a1:=h p.1;have a2:=h q.1;rw[CG,AaU rfl] at a1;rw[show CG (q::s) q.1=bif decide (q.1=q.1) then some q.2 else CG s q.1 from rfl,AaU rfl] at a2;simp only[AaQ] at a1 a2;have m1:=If a1.symm;have m2:=If a2;rcases List.mem_cons.1 m1 with e | m1
   ·exact congrArg Prod.fst e
   ·rcases List.mem_cons.1 m2 with e | m2
    ·exact(congrArg Prod.fst e).symm
    ·have c1:=y1 _ m1;have c2:=x1 _ m2;have:=Iv c1 c2;rw[Ko] at this;cases this
  have e:p=q:=by
   have a1:=h p.1;rw[CG,AaU rfl,CG,AaU hpq.symm] at a1;simp only[AaQ,Option.some.injEq] at a1;exact Prod.ext hpq a1
  subst e;rw[Ms.ext x2 y2 λk=>by
   have a1:=h k;rw[CG,CG] at a1
   by_cases e:p.1=k
   ·have n1:CG r k=none:=IK.2 λz hz e'=>by have:=x1 z hz;rw[e',← e,Ko] at this;cases this
    have n2:CG s k=none:=IK.2 λz hz e'=>by have:=y1 z hz;rw[e',← e,Ko] at this;cases this
    rw[n1,n2]
   ·rw[AaR e] at a1;exact a1]
end
def DV (n1 n2:Int)(s1 s2:Ah):Bool:=decide (n1<n2)||(decide (n1=n2)&&BI s1 s2)
theorem O8 {n1 n2:Int}{s1 s2:Ah}:DV n1 n2 s1 s2=true↔n1<n2∨(n1=n2∧BI s1 s2=true):=by
 unfold DV;simp
theorem MO {n1 n2:Int}{s1 s2:Ah}:DV n1 n2 s1 s2=false↔¬ n1<n2∧(n1=n2→BI s1 s2=false):=by
 unfold DV;simp
theorem O7 (n:Int)(s:Ah):DV n n s s=false:=MO.2 ⟨Int.lt_irrefl n,λ_=>Ko s⟩
theorem T6 {a b c:Ah}(h1:BI a b=false)(h2:BI b c=false):BI a c=false:=by
 cases h:BI a c with
 | false=>rfl
 | true=>
  rcases KO a b with h3 | h3 | h3
  ·rw[h3] at h1;cases h1
  ·subst h3;rw[h] at h2;cases h2
  ·have:=Iv h3 h;rw[this] at h2;cases h2
theorem Ll {n1 n2 n3:Int}{s1 s2 s3:Ah}(h1:DV n1 n2 s1 s2=false)(h2:DV n2 n3 s2 s3=false):DV n1 n3 s1 s3=false:=by
 rw[MO] at *;refine⟨by omega,λe=>?_⟩;have e1:n1=n2:=by omega
 have e2:n2=n3:=by omega
 exact T6 (h1.2 e1) (h2.2 e2)
theorem QI {n1 n2 n3:Int}{s1 s2 s3:Ah}(h1:DV n1 n2 s1 s2=true)(h2:DV n2 n3 s2 s3=true):DV n1 n3 s1 s3=true:=by
 rw[O8] at *;rcases h1 with h1 | ⟨e1,h1⟩
 ·rcases h2 with h2 | ⟨e2,h2⟩
  ·exact .inl (by omega)
  ·exact .inl (by omega)
 ·rcases h2 with h2 | ⟨e2,h2⟩
  ·exact .inl (by omega)
  ·exact .inr ⟨by omega,Iv h1 h2⟩
theorem RN {n1 n2:Int}{s1 s2:Ah}(h:DV n1 n2 s1 s2=true):DV n2 n1 s2 s1=false:=by
 rw[O8] at h;rw[MO];rcases h with h | ⟨e,h⟩
 ·exact⟨by omega,λe=>by omega⟩
 ·exact⟨by omega,λ_=>Vf h⟩
theorem QJ {n1 n2:Int}{s1 s2:Ah}(h1:DV n1 n2 s1 s2=false)(h2:DV n2 n1 s2 s1=false):n1=n2∧s1=s2:=by
 rw[MO] at *;have e:n1=n2:=by omega
 refine⟨e,?_⟩;rcases KO s1 s2 with h | h | h
 ·rw[h1.2 e] at h;cases h
 ·exact h
 ·rw[h2.2 e.symm] at h;cases h
theorem Wa {T:Type}(n:T→Int)(s:T→Ah):Z6 λx y=>DV (n x) (n y) (s x) (s y):=⟨λx=>O7 _ _,λx y z h1 h2=>Ll h1 h2,λx y h=>RN h⟩
structure Ae where
 fID:Ah
 fAt:Int
 fTenant:Ah
 fSource:Ah
 fBody:(List Aa)
 deriving DecidableEq,Inhabited
def RX (ys:(List Aa)):Option ((List Aa)):=
 AX (DC 40 (([]:List Aa).length+ys.length))<|some (([]:List Aa)++ys)
def Db (c:Int):Option (Bool):=
 some ((decide (97≤c))&&(decide (c≤122)))
def E7 (c:Int):Option (Bool):=
 some ((decide (48≤c))&&(decide (c≤57)))
def Ct (ha:Bool):Option (Bool):=
 some ha
def Pt (c:Int):Option (Bool):=
 Bx (Db c) λha=>Bj (ha) (Ct true) (Bj (decide (65≤c)) (Bj (decide (c≤90)) (Ct true) (Bx (E7 c) λhb=>Bj (hb) (Ct true) (Bj (decide (c=45)) (Ct true) (Bj (decide (c=95)) (Ct true) (Bj (decide (c=46)) (Ct true) (Bj (decide (c=58)) (Ct true) (Ct (decide (c=47))))))))) (Bx (E7 c) λhd=>Bj (hd) (Ct true) (Bj (decide (c=45)) (Ct true) (Bj (decide (c=95)) (Ct true) (Bj (decide (c=46)) (Ct true) (Bj (decide (c=58)) (Ct true) (Ct (decide (c=47)))))))))
def Hq (s:Ah)(ha:Int):Option (Stp (Int) (Out (Bool) (Unit))):=
 Bj (decide (ha<(s.length:Int))) (AX (CH ha (s.length:Int))<|Bx (Pt (AT s ha)) λhb=>Bj (!hb) (some (.out (.ret false))) (AX (Bw .i64 (ha+1))<|some (.next (ha+1)))) (some (.out (.go ())))
def MQ :Option (Bool):=
 some true
def Wq (F:Nat)(s:Ah):Option (Bool):=
 Bj (((decide ((s.length:Int)<1))||(decide (64<(s.length:Int))))) (some false) (Bx (Cg (λσ=>Hq s σ) F 0) (BL λν=>MQ ))
def Gh (s:Ah)(ha:Int):Option (Stp (Int) (Out (Bool) (Unit))):=
 Bj (decide (ha<(s.length:Int))) (AX (CH ha (s.length:Int))<|AX ((Db (AT s ha)).isSome)<|AX (imp (!(ov (Db (AT s ha)))) ((E7 (AT s ha)).isSome))<|Bj (((!(ov (Db (AT s ha))))&&((!(ov (E7 (AT s ha))))&&((!decide ((AT s ha)=45))&&(!decide ((AT s ha)=95)))))) (some (.out (.ret false))) (AX (Bw .i64 (ha+1))<|some (.next (ha+1)))) (some (.out (.go ())))
def JS :Option (Bool):=
 some true
def Es (F:Nat)(s:Ah):Option (Bool):=
 AX (imp (!(decide ((s.length:Int)<1))) (imp (!(decide (24<(s.length:Int)))) (CH 0 (s.length:Int))))<|AX (imp (!(decide ((s.length:Int)<1))) (imp (!(decide (24<(s.length:Int)))) ((Db (AT s 0)).isSome)))<|Bj (((decide ((s.length:Int)<1))||((decide (24<(s.length:Int)))||(!(ov (Db (AT s 0))))))) (some false) (Bx (Cg (λσ=>Gh s σ) F 1) (BL λν=>JS ))
def Jj (n:Int):Option (Bool):=
 some ((decide (0≤n))&&(decide (n≤1073741824)))
def L5 (F:Nat)(t:Ae):Option (Int):=
 Bj (!(Rl t.fID)) (some 4) (Bx (Jj t.fAt) λr5=>Bj (!r5) (some 2) (Bj (((!(CT t.fTenant))||(!(CT t.fSource)))) (some 4) (Bx (Kl F t.fBody) λha=>some ha)))
def Xx (t:Ae):Option (Ae):=
 Bx (RX t.fBody) λr3=>some (Ae.mk t.fID t.fAt t.fTenant t.fSource r3)
end Go.Proofs.YtkoiaconljdbeaaGreatDoor
namespace Go.Proofs.YtkoiaconljdbeaaGreatDoor.Q
open Go Go.RowKit
set_option linter.unusedVariables false
set_option linter.unusedSimpArgs false
def P1 (ops:List Oper)(N:Nat):Bool:=
 let cl:=NL ops []
 (List.range ops.length).all (λi=>(Gm (ops.getD i default)).all (·<i))&&
 (List.range ops.length).all (λi=>i<N||(List.range i).all (λj=>(cl.getD i 0).testBit j))
section
variable {P : Program} {Q : Exit → Act → World → Prop}
theorem Rc {listed:Array Bool}{len m:Nat}(hs:listed.size=len)(hm:m≤len)(h:∀j,j<len→(listed.getD j true=true↔j<m)):listed.toList.count false=len-m:=by
 have:listed.toList=List.replicate m true++List.replicate (len-m) false:=by
  apply List.ext_getElem
  ·simp[hs];omega
  ·intro j h1 h2;have hj:j<len:=by simpa[hs] using h1
   have:=h j hj;rw[Array.getD_eq_getD_getElem?,Array.getElem?_eq_getElem (by omega)] at this;simp only[Ab0] at this;rw[Array.getElem_toList,List.getElem_append]
   split
   ·rename_i h3
    simp at h3;simp[this.2 h3]
   ·rename_i h3
    simp at h3;simp only[List.getElem_replicate]
    cases hb:listed[j] with
    | false=>rfl
    | true=>have:=this.1 hb;omega
 rw[this];simp[List.count_append,List.count_replicate]
theorem SU {listed:Array Bool}{j:Nat}(h:j<listed.size)(d d':Bool):listed.getD j d=listed.getD j d':=by
 simp[Array.getD_eq_getD_getElem?,Array.getElem?_eq_getElem h]
theorem NP {ops:List Oper}{listed:Array Bool}{i:Nat}{o:Oper}(ho:ops[i]? =some o)(hb:∀e∈Gm o,listed.getD e true=true)
  (hcl:∀j o,ops[j]? =some o→listed.getD j true=true→∀e∈Gm o,listed.getD e true=true) (j:Nat) (h:((NL ops []).getD i 0).testBit j=true):j=i∨listed.getD j true=true:=
 IA ops (λk=>k=i∨listed.getD k true=true) ops [] (λt o' ht e he hF=>by
  rcases hF with hF | hF
  ·simp at hF;subst hF;rw[ho] at ht;simp at ht;subst ht;exact .inr (hb e he)
  ·exact .inr (hcl t o' ht (by simpa using hF) e he)) (λj i hb=>by simp at hb) i j h (.inl rfl)
theorem Kr {ops:List Oper}{listed:Array Bool}{i:Nat}(hsz:listed.size=ops.length)(hlt:∀i,i<ops.length→∀e∈Gm (ops.getD i default),e<i)(h:i∈Region.ready .any ops.toArray listed) :
  listed.getD i true=false∧i<ops.length∧∃o,ops[i]? =some o∧∀e∈Gm o,listed.getD e true=true:=by
 obtain⟨h1,o,ho,h2⟩:=mem_ready.1 h;have ho':ops[i]? =some o:=by simpa using ho
 have hil:=(List.getElem?_eq_some_iff.1 ho').1;refine⟨h1,hil,o,ho',λe he=>?_⟩;have hei:=hlt i hil e (by rw[Abb,ho'];exact he);simp only[Gm,List.mem_map,List.mem_filter] at he;obtain⟨x,⟨hx1,hx2⟩,rfl⟩:=he;have h3:=h2 x (by simpa using hx1) hx2;rw[SU (by omega) true false];exact h3
theorem Kg {ops:List Oper}{listed:Array Bool}(hsz:listed.size=ops.length)(hlt:∀i,i<ops.length→∀e∈Gm (ops.getD i default),e<i)(h:Region.ready .any ops.toArray listed=[]) :
  ∀j,j<ops.length→listed.getD j true=true:=by
 intro j
 induction j using Nat.strongRecOn with
 | ind j ih=>
  intro hj
  cases hb:listed.getD j true with
  | true=>rfl
  | false=>
   have:j∈Region.ready .any ops.toArray listed:=mem_ready.2 ⟨hb,ops[j],by simp[hj],λe he hbn=>by
    have hel:e.on<j:=hlt j hj e.on (by
     rw[Abb,AaY hj];simp only[Gm,Ab0,List.mem_map,List.mem_filter];exact⟨e,⟨by simpa using he,hbn⟩,rfl⟩)
    rw[SU (by omega) false true];exact ih e.on hel (by omega)⟩
   rw[h] at this;cases this
theorem MD {listed:Array Bool}{i j:Nat}(hi:i<listed.size):(listed.setIfInBounds i true).getD j true=true↔(j=i∨listed.getD j true=true):=by
 by_cases hj:i=j
 ·subst hj;simp[hi]
 ·rw[getD_set_ne true hj];exact⟨.inr,λh=>h.elim (λh=>absurd h.symm hj) id⟩
theorem T8 {listed:Array Bool}{i fuel:Nat}(hi:i<listed.size)(hun:listed.getD i true=false)(hc:listed.toList.count false=fuel+1):(listed.setIfInBounds i true).toList.count false=fuel:=by
 have hfi:listed.toList[i]? =some false:=by
  rw[Array.getD_eq_getD_getElem?,Array.getElem?_eq_getElem hi] at hun;simp at hun;simp[hi,hun]
 rw[Array.toList_setIfInBounds];have h1:=List.count_set (a:=true) (b:=false) (l:=listed.toList) (i:=i) (by simpa using hi);have h2:listed.toList[i]'(by simpa using hi)=false:=by
  have:=List.getElem?_eq_some_iff.1 hfi;exact this.2
 rw[h1,h2,hc];rfl
theorem Mb {ops:List Oper}{N:Nat}(hlt:∀i,i<ops.length→∀e∈Gm (ops.getD i default),e<i)
  (hch:∀i,N≤i→i<ops.length→∀j,j<i→((NL ops []).getD i 0).testBit j=true):∀(k m:Nat) (listed:Array Bool) (a:Act) (w:World),m+k=ops.length→N≤m→listed.size=ops.length→
   (∀j,j<ops.length→(listed.getD j true=true↔j<m))→(∀j o,ops[j]? =some o→listed.getD j true=true→∀e∈Gm o,listed.getD e true=true)→wpList P ops.toArray Q (ops.drop m) a w→wpAny P .any ops.toArray Q k listed a w
 | 0,m,listed,a,w,hk,hN,hsz,hl,hcl,h=>by
  refine⟨?_,?_⟩
  ·cases hr:Region.ready .any ops.toArray listed with
   | nil=>rfl
   | cons i r=>
    obtain⟨h1,h2,_⟩:=Kr hsz hlt (i:=i) (by rw[hr];simp);rw[(hl i h2).2 (by omega)] at h1;cases h1
  ·rw[List.drop_of_length_le (by omega)] at h;exact h
 | k+1,m,listed,a,w,hk,hN,hsz,hl,hcl,h=>by
  refine⟨λhr=>?_,λi hi=>?_⟩
  ·have:=(hl m (by omega)).1 (Kg hsz hlt hr m (by omega));omega
  ·obtain⟨h1,h2,o,ho,hb⟩:=Kr hsz hlt hi;have him:i=m:=by
    have hmi : ¬ i<m:=λh'=>by rw[(hl i h2).2 h'] at h1;cases h1
    by_cases e:i=m
    ·exact e
    ·rcases NP ho hb hcl m (hch i (by omega) h2 m (by omega)) with h3 | h3
     ·exact h3.symm
     ·have:=(hl m (by omega)).1 h3;omega
   subst him;have hd:ops.drop i=o::ops.drop (i+1):=by
    rw[List.drop_eq_getElem_cons h2]
    congr 1
    exact(List.getElem?_eq_some_iff.1 ho).2
   rw[hd] at h;have ih:∀a' w',wpList P ops.toArray Q (ops.drop (i+1)) a' w'→wpAny P .any ops.toArray Q k (listed.setIfInBounds i true) a' w':=λa' w' h'=>by
    refine Mb hlt hch k (i+1) _ a' w' (by omega) (by omega) (by simpa using hsz) (λj hj=>?_) (λj o' hj hlj e he=>?_) h'
    ·rw[MD (by omega),hl j hj];omega
    ·rw[MD (by omega)] at hlj ⊢;rcases hlj with rfl | hlj
     ·rw[ho] at hj;simp at hj;subst hj;exact .inr (hb e he)
     ·exact .inr (hcl j o' hj hlj e he)
   unfold wpOp;have hoA:ops.toArray[i]? =some o:=by simpa using ho
   simp only[hoA];simp only[wpList] at h
   split
   ·rename_i hw'
    rw[AbD hw'] at h;exact h.imp (λh=>Oper.wp_mono ih h) (λh=>h)
   ·rename_i hw'
    rw[Abw hw'] at h;exact ih _ _ h
theorem UJ {id:Nat}{ops:List Oper}{N:Nat}(hm:P.follows .mixedOrders=true)(hB:P1 ops N=true)(hN:N≤ops.length)(I:(Nat→Bool)→Act→World→Prop)
  (hext:∀S S' a w,(∀j,j<N→S j=S' j)→I S a w→I S' a w) {a:Act} {w:World} (h0:I (λ_=>false) a { w with drawn:=w.drawn+1 })
  (step:∀S i o a w,i<N→S i=false→ops[i]? =some o→(∀e∈Gm o,e<i∧S e=true)→I S a w→∀K:Act→World→Prop,(∀a' w',I (λj=>j ==i||S j) a' w'→K a' w')→
   (Region.wanted o (yielded ops.toArray a.tmps)=true→o.wp P a w K Q)∧(Region.wanted o (yielded ops.toArray a.tmps)=false→K (a.put o.dst undef) w))
  (fin:∀a w,I (λ_=>true) a w→wpList P ops.toArray Q (ops.drop N) a w):(Code.region id ops.toArray true).wp P Q a w:=by
 simp only[P1,AaO,Ab3,List.mem_range,AaL,Abt] at hB;obtain⟨hlt,hch0⟩:=hB;have hch:∀i,N≤i→i<ops.length→∀j,j<i→((NL ops []).getD i 0).testBit j=true:=λi h1 h2 j hj=>by
  rcases hch0 i h2 with h3 | h3
  ·omega
  ·exact h3 j hj
 refine wp_region_any hm ?_;have main:∀(fuel:Nat) (listed:Array Bool) (a:Act) (w:World),listed.size=ops.length→listed.toList.count false=fuel→I (λj=>listed.getD j true) a w→
   (∀j o,ops[j]? =some o→listed.getD j true=true→∀e∈Gm o,listed.getD e true=true)→(∀j,N≤j→j<ops.length→listed.getD j true=false)→wpAny P .any ops.toArray Q fuel listed a w:=by
  intro fuel;have allin:∀(fuel:Nat) (listed:Array Bool) (a:Act) (w:World),listed.size=ops.length→listed.toList.count false=fuel→I (λj=>listed.getD j true) a w→
   (∀j o,ops[j]? =some o→listed.getD j true=true→∀e∈Gm o,listed.getD e true=true)→(∀j,N≤j→j<ops.length→listed.getD j true=false)→(∀j,j<N→listed.getD j true=true)→wpAny P .any ops.toArray Q fuel listed a w:=by
   intro fuel listed a w hsz hc hI hcl hlast hall;have hl:∀j,j<ops.length→(listed.getD j true=true↔j<N):=λj hj=>by
    constructor
    ·intro h
     by_cases hjN:j<N
     ·exact hjN
     ·rw[hlast j (by omega) hj] at h;cases h
    ·exact hall j
   have:=Rc hsz hN hl;refine Mb hlt hch fuel N listed a w (by omega) (Abp _) hsz hl hcl (fin a w (hext _ _ a w (λj hj=>hall j hj) hI))
  induction fuel with
  | zero=>
   intro listed a w hsz hc hI hcl hlast;refine allin 0 listed a w hsz hc hI hcl hlast (λj hj=>?_)
   cases hb:listed.getD j true with
   | true=>rfl
   | false=>
    have:false∈listed.toList:=by
     rw[Array.getD_eq_getD_getElem?,Array.getElem?_eq_getElem (by omega)] at hb;simp at hb;rw[← hb];simp
    have:=List.count_pos_iff.2 this;omega
  | succ fuel ih=>
   intro listed a w hsz hc hI hcl hlast
   by_cases hall:∀j,j<N→listed.getD j true=true
   ·exact allin (fuel+1) listed a w hsz hc hI hcl hlast hall
   ·refine⟨λhr=>absurd (λj hj=>Kg hsz hlt hr j (by omega)) hall,λi hi=>?_⟩;obtain⟨h1,h2,o,ho,hb⟩:=Kr hsz hlt hi;have hiN:i<N:=by
     by_cases h:i<N
     ·exact h
     ·refine absurd (λj hj=>?_) hall;rcases NP ho hb hcl j (hch i (by omega) h2 j (by omega)) with h3 | h3
      ·omega
      ·exact h3
    have K':∀a' w',I (λj=>j ==i||listed.getD j true) a' w'→wpAny P .any ops.toArray Q fuel (listed.setIfInBounds i true) a' w':=λa' w' hI'=>by
     refine ih _ a' w' (by simpa using hsz) (T8 (by omega) h1 hc) (hext _ _ a' w' (λj hj=>?_) hI') (λj o' hj hlj e he=>?_) (λj h3 h4=>?_)
     ·have:=MD (listed:=listed) (i:=i) (j:=j) (by omega)
      cases hq:(listed.setIfInBounds i true).getD j true with
      | true=>
       rw[hq] at this;rcases this.1 rfl with h | h
       ·simp[h]
       ·simp[h]
      | false=>
       rw[hq] at this;have h5 : ¬ (j=i∨listed.getD j true=true):=λh=>by have:=this.2 h;cases this
       cases hz:listed.getD j true with
       | true=>exact absurd (.inr hz) h5
       | false=>
        have:j≠i:=λh=>h5 (.inl h);simp[this]
     ·rw[MD (by omega)] at hlj ⊢;rcases hlj with rfl | hlj
      ·rw[ho] at hj;simp at hj;subst hj;exact .inr (hb e he)
      ·exact .inr (hcl j o' hj hlj e he)
     ·rw[getD_set_ne true (by omega)];exact hlast j h3 h4
    obtain⟨k1,k2⟩:=step _ i o a w hiN h1 ho (λe he=>⟨hlt i h2 e (by rw[Abb,ho];exact he),hb e he⟩) hI _ K';unfold wpOp;have hoA:ops.toArray[i]? =some o:=by simpa using ho
    simp only[hoA]
    split
    ·rename_i hw';exact .inl (k1 hw')
    ·rename_i hw';exact k2 (by simpa using hw')
 have e0:∀j,j<ops.length→(Array.replicate ops.length false).getD j true=false:=λj hj=>by simp[hj]
 have hsz0:ops.toArray.size=ops.length:=by simp
 rw[hsz0];refine main ops.length (Array.replicate ops.length false) a _ (by simp) (by simp) (hext _ _ _ _ (λj hj=>(e0 j (by omega)).symm) h0) (λj o hj hl=>?_) (λj _ h2=>e0 j h2);rw[e0 j (List.getElem?_eq_some_iff.1 hj).1] at hl;cases hl
end
structure Sa where
 deps:List Nat
 r:Rp
 al:Option (List Rp×TypeId):=none
 late:Option (Nat×List Rp):=none
 sto:Option Nat:=none
def GD (sp:List Sa)(i:Nat):Sa:=sp.getD i { deps:=[],r:=rv undef }
def Xb (sp:List Sa):List Sp:=sp.map λs=>⟨s.deps,s.r,0⟩
def L6 (β:Nat→Nat)(s:Sa)(i:Nat):Rp:=match s.al with
 | none=>s.r
 | some _=>rv (.pointer (some ⟨β i,0,none⟩))
def LS (S:Nat→Bool)(late:Option (Nat×List Rp))(cs:List Rp):List Rp:=match late with
 | none=>cs
 | some q=>if S q.1 then q.2 else cs
def Hu (S:Nat→Bool)(β:Nat→Nat):List Sa→Nat→List Ent
 | [],_=>[]
 | s::r,t=>match s.al with
  | some p=>if S t then .blk (β t) (LS S s.late p.1) p.2::Hu S β r (t+1) else Hu S β r (t+1)
  | none=>Hu S β r (t+1)
def Uv (β:Nat→Nat):List Sa→Nat→List Ent
 | [],_=>[]
 | s::r,t=>match s.al with
  | some p=>.blk (β t) (match s.late with | none=>p.1 | some q=>q.2) p.2::Uv β r (t+1)
  | none=>Uv β r (t+1)
def Mv (β:Nat→Nat):List Oper→List Sa→Nat→Fr→Fr
 | o::os,s::sp,i,l=>match o.dst with
  | some d=>(d,L6 β s i)::Mv β os sp (i+1) l
  | none=>Mv β os sp (i+1) l
 | _,_,_,l=>l
theorem K7 {S S':Nat→Bool}{late:Option (Nat×List Rp)}{cs:List Rp}(h:∀q,late=some q→S q.1=S' q.1):LS S late cs=LS S' late cs:=by
 unfold LS
 cases late with
 | none=>rfl
 | some q=>simp only[];rw[h q rfl]
theorem Gj (S:Nat→Bool)(β:Nat→Nat)(s:Sa)(r:List Sa)(t:Nat):Hu S β (s::r) t=match s.al with
  | some p=>if S t then .blk (β t) (LS S s.late p.1) p.2::Hu S β r (t+1) else Hu S β r (t+1)
  | none=>Hu S β r (t+1):=rfl
theorem HL {S S':Nat→Bool}{β β':Nat→Nat}:∀(r:List Sa) (t0:Nat),(∀(t:Nat) (s:Sa),r[t]? =some s→s.al≠none→S (t0+t)=S' (t0+t)∧(S (t0+t)=true→β (t0+t)=β' (t0+t)∧∀q,s.late=some q→S q.1=S' q.1))→Hu S β r t0=Hu S' β' r t0
 | [],_,_=>rfl
 | s::r,t0,h=>by
  have ih:=HL r (t0+1) (λt s hs hn=>by
   have:=h (t+1) s (by simpa using hs) hn;rw[show t0+1+t=t0+(t+1) from by omega];exact this)
  unfold Hu;rw[ih]
  cases ha:s.al with
  | none=>rfl
  | some p=>
   obtain⟨h1,h2⟩:=h 0 s rfl (by rw[ha];exact nofun);simp only[Nat.add_zero] at h1 h2;simp only[];rw[← h1]
   split
   ·rename_i hS;rw[(h2 hS).1,K7 (h2 hS).2]
   ·rfl
theorem QZ (β:Nat→Nat):∀(r:List Sa) (t0:Nat),Hu (λ_=>true) β r t0=Uv β r t0
 | [],_=>rfl
 | s::r,t0=>by
  unfold Hu Uv;rw[QZ β r (t0+1)]
  cases s.al with
  | none=>rfl
  | some p=>cases hl:s.late<;>simp[LS,hl]
theorem OH (β:Nat→Nat):∀(r:List Sa) (t0:Nat),Hu (λ_=>false) β r t0=[]
 | [],_=>rfl
 | s::r,t0=>by
  unfold Hu;rw[OH β r (t0+1)]
  cases s.al<;>simp
theorem QY {S:Nat→Bool}{β:Nat→Nat}{i b:Nat}{p:List Rp×TypeId}:∀(r:List Sa) (t0 k:Nat) (s:Sa),i=t0+k→r[k]? =some s→s.al=some p→S i=false→(∀(t:Nat) (s:Sa) (q:Nat×List Rp),r[t]? =some s→s.al≠none→s.late=some q→q.1≠i)→(∀q,s.late=some q→S q.1=false∧q.1≠i)→
  (Hu (λj=>j ==i||S j) (λj=>if j=i then b else β j) r t0).Perm (.blk b p.1 p.2::Hu S β r t0)
 | [],_,_,_,_,h,_,_,_,_=>by simp at h
 | s'::r,t0,0,s,hi,h,ha,hS,hne,hl=>by
  simp at h hi;subst h;subst hi;have e:=HL (S:=λj=>j ==i||S j) (S':=S) (β:=λj=>if j=i then b else β j) (β':=β) r (i+1) (λt s hs hn=>by
   have:i+1+t≠i:=by omega
   refine⟨by simp[this],λ_=>⟨by simp[this],λq hq=>?_⟩⟩;have:=hne (t+1) s q (by simpa using hs) hn hq;simp[this])
  have ec:LS (λj=>j ==i||S j) s'.late p.1=p.1:=by
   unfold LS
   cases hq:s'.late with
   | none=>rfl
   | some q=>
    obtain⟨h1,h2⟩:=hl q hq;simp[h1,h2]
  unfold Hu;rw[e,ha];simp only[hS,BEq.rfl,Abm,Ab4,ec];simp
 | s'::r,t0,k+1,s,hi,h,ha,hS,hne,hl=>by
  have ih:=QY (S:=S) (β:=β) (i:=i) (b:=b) (p:=p) r (t0+1) k s (by omega) (by simpa using h) ha hS (λt s q hs=>hne (t+1) s q (by simpa using hs)) hl;have hne0:t0≠i:=by omega
  have hne':(t0 ==i)=false:=by simpa using hne0
  unfold Hu
  cases ha':s'.al with
  | none=>exact ih
  | some q=>
   simp only[hne',AaZ,Abw hne0];rw[K7 (S:=λj=>j ==i||S j) (S':=S) (λq hq=>by
    have:=hne 0 s' q rfl (by rw[ha'];exact nofun) hq;simp[this])]
   cases hS':S t0 with
   | true=>simpa using(AaT _ ih).trans (List.Perm.swap _ _ _)
   | false=>simpa using ih
theorem QX {S:Nat→Bool}{β:Nat→Nat}{i j:Nat}{p:List Rp×TypeId}{ncs:List Rp}:∀(r:List Sa) (t0 k:Nat) (s:Sa),j=t0+k→r[k]? =some s→s.al=some p→s.late=some (i,ncs)→S j=true→S i=false→(∀(t:Nat) (s:Sa) (q:Nat×List Rp),r[t]? =some s→s.al≠none→s.late=some q→t0+t≠j→q.1≠i)→(∀(t:Nat) (s:Sa),r[t]? =some s→s.al≠none→t0+t≠i)→
  ∃H',(Hu S β r t0).Perm (.blk (β j) p.1 p.2::H')∧(Hu (λj=>j ==i||S j) β r t0).Perm (.blk (β j) ncs p.2::H')
 | [],_,_,_,_,h,_,_,_,_,_,_=>by simp at h
 | s'::r,t0,0,s,hj,h,ha,hl,hSj,hSi,hne,hni=>by
  simp at h hj;subst h;subst hj;have e:=HL (S:=λx=>x ==i||S x) (S':=S) (β:=β) (β':=β) r (j+1) (λt s hs hn=>by
   have h1:=hni (t+1) s (by simpa using hs) hn;have h1':j+1+t≠i:=by omega
   refine⟨by simp[h1'],λ_=>⟨rfl,λq hq=>?_⟩⟩;have:=hne (t+1) s q (by simpa using hs) hn hq (by omega);simp[this])
  refine⟨Hu S β r (j+1),?_,?_⟩
  ·rw[Gj];rw[ha];simp[hSj,LS,hl,hSi]
  ·rw[Gj];rw[ha,e];simp[hSj,LS,hl]
 | s'::r,t0,k+1,s,hj,h,ha,hl,hSj,hSi,hne,hni=>by
  obtain⟨H',h1,h2⟩:=QX (S:=S) (β:=β) (i:=i) (j:=j) (p:=p) (ncs:=ncs) r (t0+1) k s (by omega) (by simpa using h) ha hl hSj hSi (λt s q hs hn hq hx=>hne (t+1) s q (by simpa using hs) hn hq (by omega)) (λt s hs hn=>by
   have:=hni (t+1) s (by simpa using hs) hn;omega)
  cases ha':s'.al with
  | none=>exact⟨H',by rw[Gj,ha'];exact h1,by rw[Gj,ha'];exact h2⟩
  | some q=>
   have hi0:=hni 0 s' rfl (by rw[ha'];exact nofun);have hi0':(t0 ==i)=false:=by simpa using hi0
   have ec:LS (λx=>x ==i||S x) s'.late q.1=LS S s'.late q.1:=K7 (λq hq=>by
    have:=hne 0 s' q rfl (by rw[ha'];exact nofun) hq (by omega);simp[this])
   cases hS':S t0 with
   | true=>
    refine⟨.blk (β t0) (LS S s'.late q.1) q.2::H',?_,?_⟩
    ·rw[Gj];rw[ha'];simpa[hS'] using(AaT _ h1).trans (List.Perm.swap _ _ _)
    ·rw[Gj];rw[ha'];simp only[hi0',AaZ,hS',Ab4,ec];exact(AaT _ h2).trans (List.Perm.swap _ _ _)
   | false=>
    refine⟨H',?_,?_⟩
    ·rw[Gj];rw[ha'];simpa[hS'] using h1
    ·rw[Gj];rw[ha'];simp only[hi0',AaZ,hS'];simpa using h2
def okA (n:Nat)(ops:List Oper)(N:Nat)(keys:List Nat)(deps:List (List Nat))(als:List Bool)(lates stos:List (Option Nat)):Bool:=
 P1 ops N&&decide (N≤ops.length)&&
 (List.range N).all (λi=>match CD ops i with
  | some d=>decide (d<n)&&!keys.contains d&&(List.range N).all (λj=>j ==i||CD ops j !=some d)
  | none=>true)&&
 (List.range N).all (λi=>(deps.getD i []).all (λj=>decide (j<N)&&(Gm (ops.getD i default)).contains j&&!als.getD j true))&&
 (List.range N).all (λi=>match stos.getD i none with
  | some j=>decide (j<N)&&(Gm (ops.getD i default)).contains j&&als.getD j false&&!als.getD i true
  | none=>true)&&
 (List.range N).all (λj=>match lates.getD j none with
  | some k=>decide (k<N)&&als.getD j false&&stos.getD k none ==some j
  | none=>true)
def Zy (P:Program)(n:Nat)(c:Cx)(opsA:Array Oper)(Q:Exit→Act→World→Prop)(o:Oper)(p:List Rp×TypeId):Prop:=
 ∀H a w Z (K:Act→World→Prop),St c H Z w→(∀b w',St c (.blk b p.1 p.2::H) Z w'→K (a.put o.dst (.pointer (some ⟨b,0,none⟩))) w')→
  Region.wanted o (yielded opsA a.tmps)=true∧o.wp P a w K Q
def YB (P:Program)(n:Nat)(c:Cx)(opsA:Array Oper)(Q:Exit→Act→World→Prop)(ops:List Oper)(sp:List Sa)(l0:Fr)(H:List Ent)(i:Nat)(o:Oper):Prop:=
 match (GD sp i).sto with
 | some j=>o.dst=none∧∃d p ncs,CD ops j=some d∧(GD sp j).al=some p∧(GD sp j).late=some (i,ncs)∧
   ∀b H,Gu P n c opsA Q ((d,rv (.pointer (some ⟨b,0,none⟩)))::Cd ops (Xb sp) (GD sp i).deps l0) (.blk b p.1 p.2::H) o (rv undef) (.blk b ncs p.2::H)
 | none=>match (GD sp i).al with
  | none=>∀E,Gu P n c opsA Q (Cd ops (Xb sp) (GD sp i).deps l0) (H++E) o (GD sp i).r (H++E)
  | some p=>Zy P n c opsA Q o p
def J2 (P:Program)(n:Nat)(c:Cx)(opsA:Array Oper)(Q:Exit→Act→World→Prop)(ops:List Oper)(sp:List Sa)(l0:Fr)(H:List Ent):Nat→List Oper→Prop
 | i,o::rest=>YB P n c opsA Q ops sp l0 H i o∧J2 P n c opsA Q ops sp l0 H (i+1) rest
 | _,[]=>True
section
variable {P : Program} {n : Nat} {c : Cx} {opsA : Array Oper} {Q : Exit → Act → World → Prop} {l l0 : Fr} {H : List Ent} {sp : List Sa}
theorem J2.at {ops:List Oper}:∀{k:Nat} {rest:List Oper},J2 P n c opsA Q ops sp l0 H k rest→∀(t:Nat) o,rest[t]? =some o→YB P n c opsA Q ops sp l0 H (k+t) o
 | k,o::rest,⟨h1,h2⟩,t,o',ht=>by
  cases t with
  | zero=>simp at ht;subst ht;exact h1
  | succ t=>
   have:=J2.at h2 t o' (by simpa using ht);rw[show k+(t+1)=k+1+t from by omega];exact this
 | _,[],_,t,o,h=>by simp at h
theorem P6 {β:Nat→Nat}{a:Act}{Z:Fz}(h0:Dm n l0 a Z):∀(os:List Oper) (ss:List Sa) (k:Nat),(∀(t:Nat) o s d,os[t]? =some o→ss[t]? =some s→o.dst=some d→∃v,a.tmps[d]? =some v∧(L6 β s (k+t)).p Z v)→Dm n (Mv β os ss k l0) a Z
 | [],_,_,_=>by unfold Mv;exact h0
 | _::_,[],_,_=>by unfold Mv;exact h0
 | o::os,s::ss,k,h=>by
  have ih:=P6 h0 os ss (k+1) (λt o' s' d h1 h2 h3=>by
   have:=h (t+1) o' s' d (by simpa using h1) (by simpa using h2) h3;rw[show k+1+t=k+(t+1) from by omega];exact this)
  unfold Mv
  cases hd:o.dst with
  | none=>exact ih
  | some d=>
   refine⟨ih.size,ih.defers,λi r hi=>?_⟩;rw[C2] at hi
   split at hi
   ·rename_i e;subst e;simp at hi;subst hi;exact h 0 o s d rfl rfl hd
   ·exact ih.tm i r hi
theorem YJ {id:Nat}{ops:List Oper}(N:Nat)(sp:List Sa)(hm:P.follows .mixedOrders=true)(hB:okA n ops N (Gt l0) (sp.map (·.deps)) (sp.map (·.al.isSome)) (sp.map (·.late.map (·.1))) (sp.map (·.sto))=true)(hl0:U7 l0 l)(hsp:sp.length=N)
  (hob:J2 P n c ops.toArray Q ops sp l0 H 0 (ops.take N)) (h:∀β,WL P n c ops.toArray Q (ops.drop N) (Mv β (ops.take N) sp 0 l0) (H++Uv β sp 0)):WC P n c (.region id ops.toArray true) Q l H:=by
 intro a w Z ha hw;simp only[okA,AaO,Ab3,List.mem_range,AaL] at hB;obtain⟨⟨⟨⟨⟨b1,bN⟩,b2⟩,b3⟩,b4⟩,b5⟩:=hB;have hget:∀i,i<N→(ops.take N)[i]? =ops[i]?:=λi hi=>by rw[Ab8,AbD hi]
 have hsa:∀i,i<N→sp[i]? =some (GD sp i):=λi hi=>by
  simp[GD,Abb,AaY (show i<sp.length by omega)]
 have hspq:∀i,i<N→(Ez (Xb sp) i)=⟨(GD sp i).deps,(GD sp i).r,0⟩:=λi hi=>by
  simp[Ez,Xb,Abb,Ab7,hsa i hi]
 have hals:∀j b,j<N→(sp.map (·.al.isSome)).getD j b=(GD sp j).al.isSome:=λj b hj=>by simp[Abb,Ab7,hsa j hj]
 have hstos:∀j,j<N→(sp.map (·.sto)).getD j none=(GD sp j).sto:=λj hj=>by simp[Abb,Ab7,hsa j hj]
 have hlates:∀j,j<N→(sp.map (·.late.map (·.1))).getD j none=(GD sp j).late.map (·.1):=λj hj=>by simp[Abb,Ab7,hsa j hj]
 have S1:∀i o j,i<N→ops[i]? =some o→(GD sp i).sto=some j→j<N∧j∈Gm o∧(GD sp j).al≠none∧(GD sp i).al=none:=λi o j hi ho hs=>by
  have h1:=b4 i hi;rw[hstos i hi,hs] at h1;simp only[AaO,Abi,AaL] at h1;obtain⟨⟨⟨h2,h3⟩,h4⟩,h5⟩:=h1;rw[hals j _ h2] at h4;rw[hals i _ hi] at h5;rw[Abb,ho,Ab0,List.contains_iff_mem] at h3;exact⟨h2,h3,λe=>(by rw[e] at h4;cases h4),(by simpa using h5)⟩
 have L1:∀t q,t<N→(GD sp t).late=some q→q.1<N∧(GD sp q.1).sto=some t:=λt q ht hq=>by
  have h1:=b5 t ht;rw[hlates t ht,hq] at h1;simp only[Option.map_some,AaO,AaL,beq_iff_eq] at h1;obtain⟨⟨h2,h3⟩,h4⟩:=h1;rw[hstos _ h2] at h4;exact⟨h2,h4⟩
 have hops:∀j,j<N→∃o,ops[j]? =some o:=λj hj=>⟨ops[j]'(by omega),AaY (by omega)⟩
 have lt_of:∀(t:Nat) (s:Sa),sp[t]? =some s→t<N∧s=GD sp t:=λt s hs=>by
  have h1:t<N:=by have:=(List.getElem?_eq_some_iff.1 hs).1;omega
  refine⟨h1,?_⟩;rw[hsa t h1] at hs;simpa using hs.symm
 have hdst:∀i o d,i<N→ops[i]? =some o→o.dst=some d→(d<n∧d ∉ Gt l0)∧∀j,j<N→j≠i→CD ops j≠some d:=λi o d hi ho hd=>by
  have h3:=b2 i hi;have:CD ops i=some d:=by simp[CD,ho,hd]
  rw[this] at h3;simp only[AaO,Abi,Ab3,List.mem_range,AaL] at h3;refine⟨⟨h3.1.1,λhmem=>by rw[← List.contains_iff_mem] at hmem;rw[hmem] at h3;cases h3.1.2⟩,λj hj hne he=>?_⟩;have:=h3.2 j hj;simp[hne,he] at this
 refine UJ (N:=N) hm b1 bN (λS a w=>∃ (β:Nat→Nat) (Z:Fz),St c (H++Hu S β sp 0) Z w∧Dm n l0 a Z∧(∀j o d,j<N→S j=true→ops[j]? =some o→o.dst=some d→∃v,a.tmps[d]? =some v∧(L6 β (GD sp j) j).p Z v)∧
   ∀k j,k<N→(GD sp k).sto=some j→S k=true→S j=true)
  (λS S' a w hS hI=>?_) ⟨λ_=>0,Z,?_,ha.subL hl0,λj o d _ hS=>(by cases hS),λk j _ _ hS=>(by cases hS)⟩ (λS i o a w hi hun ho hb hI K hK=>?_) (λa w hI=>?_)
 ·obtain⟨β,Z,h1,h2,h3,h4⟩:=hI;refine⟨β,Z,?_,h2,λj o d hj hS'=>h3 j o d hj (by rw[hS j hj];exact hS'),λk j hk hs hSk=>?_⟩
  ·rw[← HL (S:=S) (β:=β) (β':=β) sp 0 (λt s hs _=>by
    obtain⟨ht,rfl⟩:=lt_of t s hs;exact⟨hS _ (by omega),λ_=>⟨rfl,λq hq=>hS _ (L1 t q ht hq).1⟩⟩)]
   exact h1
  ·obtain⟨o,ho⟩:=hops k hk;rw[← hS j (S1 k o j hk ho hs).1];exact h4 k j hk hs (by rw[hS k hk];exact hSk)
 ·rw[OH,Ab1];exact hw.drawn _
 ·obtain⟨β,Z,h1,h2,h3,hx⟩:=hI;have hput:∀k u v,a.tmps[k]? =some u→o.dst≠some k→(a.put o.dst v).tmps[k]? =some u:=λk u v hk hne=>by
   cases hd:o.dst with
   | none=>simpa[Act.put] using hk
   | some d=>
    simp only[Act.put,Array.getElem?_setIfInBounds];rw[Abw (λe=>hne (by rw[hd,e]))];exact hk
  have hagr:∀v Z',Fz.le Z Z'→Dm n l0 (a.put o.dst v) Z':=λv Z' hz=>by
   refine⟨?_,?_,λk r hk=>?_⟩
   ·cases o.dst<;>simp[Act.put,h2.size]
   ·cases o.dst<;>simp[Act.put,h2.defers]
   ·obtain⟨u,hu,hpu⟩:=h2.tm k r hk;exact⟨u,hput k u v hu (λe=>((hdst i o k hi ho e).1).2 (Lk hk)),r.mono hz hpu⟩
  have hvals:∀(v:Value) (Z':Fz) (β':Nat→Nat),Fz.le Z Z'→(∀j,j≠i→β' j=β j)→(o.dst≠none→(L6 β' (GD sp i) i).p Z' v)→∀j o' d,j<N→(j ==i||S j)=true→ops[j]? =some o'→o'.dst=some d→∃u,(a.put o.dst v).tmps[d]? =some u∧(L6 β' (GD sp j) j).p Z' u:=by
   intro v Z' β' hz hβ hp j o' d hj hS' ho' hd
   by_cases hji:j=i
   ·subst hji;rw[ho] at ho';simp at ho';subst ho';refine⟨v,?_,hp (by simp[hd])⟩;have hdn:d<a.tmps.size:=by rw[h2.size];exact(hdst j o d hi ho hd).1.1
    simp[Act.put,hd,hdn]
   ·have hSj:S j=true:=by simpa[hji] using hS'
    obtain⟨u,hu,hpu⟩:=h3 j o' d hj hSj ho' hd;refine⟨u,hput d u v hu (λe=>(hdst i o d hi ho e).2 j hj hji (by simp[CD,ho',hd])),?_⟩;have:L6 β' (GD sp j) j=L6 β (GD sp j) j:=by unfold L6;rw[hβ j hji]
    rw[this];exact(L6 β (GD sp j) j).mono hz hpu
  have hx':∀k j,k<N→(GD sp k).sto=some j→(k ==i||S k)=true→(j ==i||S j)=true:=λk j hk hs hSk=>by
   by_cases hki:k=i
   ·subst hki;have:=(hb j (S1 k o j hk ho hs).2.1).2;simp[this]
   ·have:S j=true:=hx k j hk hs (by simpa[hki] using hSk);simp[this]
  have hat:=hob.at i o (by rw[hget i hi];exact ho);rw[Ab9] at hat;unfold YB at hat;have hag':Dm n (Cd ops (Xb sp) (GD sp i).deps l0) a Z:=Ly h2 (λj hj d hd=>by
    have h4:=b3 i hi j (by simpa[Abb,Ab7,hsa i hi] using hj);simp only[AaO,Abi,AaL] at h4;obtain⟨⟨h5,h6⟩,h7⟩:=h4;rw[Abb,ho,Ab0,List.contains_iff_mem] at h6;have hjal:(GD sp j).al=none:=by
     rw[hals j _ h5] at h7;simpa using h7
    obtain⟨o2,ho2⟩:=hops j h5;obtain⟨v,hv1,hv2⟩:=h3 j o2 d h5 (hb j h6).2 ho2 (by simpa[CD,ho2] using hd);refine⟨v,hv1,?_⟩;rw[hspq j h5];simpa[L6,hjal] using hv2)
  cases hst:(GD sp i).sto with
  | some j=>
   rw[hst] at hat;obtain⟨hod,d,p,ncs,hd,hal,hlate,hok⟩:=hat;obtain⟨hjN,hjb,_,hial⟩:=S1 i o j hi ho hst;have hSj:=(hb j hjb).2;obtain⟨H',p1,p2⟩:=QX (S:=S) (β:=β) (i:=i) (j:=j) (p:=p) (ncs:=ncs) sp 0 j (GD sp j) (by omega) (hsa j hjN) hal hlate hSj hun (λt s q hs _ hq hne he=>by
     obtain⟨ht,rfl⟩:=lt_of t s hs;have:=(L1 t q ht hq).2;rw[he,hst] at this;simp at this;omega) (λt s hs hn he=>by
     obtain⟨ht,rfl⟩:=lt_of t s hs;rw[Ab9] at he;subst he;exact hn hial)
   obtain⟨o2,ho2⟩:=hops j hjN;obtain⟨v,hv1,hv2⟩:=h3 j o2 d hjN hSj ho2 (by simpa[CD,ho2] using hd);have hag2:Dm n ((d,rv (.pointer (some ⟨β j,0,none⟩)))::Cd ops (Xb sp) (GD sp i).deps l0) a Z:=⟨hag'.size,hag'.defers,λk r hk=>by
    rw[C2] at hk
    split at hk
    ·rename_i e;subst e;simp at hk;subst hk
     exact⟨v,hv1,by simpa[L6,hal] using hv2⟩
    ·exact hag'.tm k r hk⟩
   refine hok (β j) (H++H') a w Z K hag2 (h1.perm ((List.Perm.append_left H p1).trans List.perm_middle)) (λv w' Z' hz _ hs'=>hK _ _ ⟨β,Z',?_,hagr v Z' hz,hvals v Z' β hz (λ_ _=>rfl) (λhne=>absurd hod hne),hx'⟩);exact hs'.perm (List.perm_middle.symm.trans (List.Perm.append_left H p2.symm))
  | none=>
   rw[hst] at hat;have latene:∀t q,t<N→(GD sp t).late=some q→q.1≠i:=λt q ht hq he=>by
    have:=(L1 t q ht hq).2;rw[he,hst] at this;cases this
   cases hal:(GD sp i).al with
   | none=>
    rw[hal] at hat;refine hat _ a w Z K hag' h1 (λv w' Z' hz hp hst'=>hK _ _ ⟨β,Z',?_,hagr v Z' hz,hvals v Z' β hz (λ_ _=>rfl) (λ_=>by unfold L6;rw[hal];exact hp),hx'⟩);rw[HL (S':=S) (β':=β) sp 0 (λt s hs hn=>by
     obtain⟨ht,rfl⟩:=lt_of t s hs;have:t≠i:=λe=>by subst e;exact hn hal
     refine⟨by simp[this],λ_=>⟨rfl,λq hq=>?_⟩⟩;have:=latene t q ht hq;simp[this])]
    exact hst'
   | some p=>
    rw[hal] at hat;have key:=λK' hK'=>hat (H++Hu S β sp 0) a w Z K' h1 hK';have h5:∀b w',St c (.blk b p.1 p.2::(H++Hu S β sp 0)) Z w'→K (a.put o.dst (.pointer (some ⟨b,0,none⟩))) w':=λb w' hst'=>by
     refine hK _ _ ⟨λj=>if j=i then b else β j,Z,?_,hagr _ Z (Fz.le.refl _),hvals _ Z _ (Fz.le.refl _) (λj hj=>by simp[hj]) (λ_=>by simp[L6,hal,rv]),hx'⟩;have hp:=QY (S:=S) (β:=β) (i:=i) (b:=b) (p:=p) sp 0 i (GD sp i) (by omega) (hsa i hi) hal hun (λt s q hs _ hq=>by
      obtain⟨ht,rfl⟩:=lt_of t s hs;exact latene t q ht hq) (λq hq=>by
       refine⟨?_,latene i q hi hq⟩
       cases hS:S q.1 with
       | false=>rfl
       | true=>
        obtain⟨h6,h7⟩:=L1 i q hi hq;have:=hx q.1 i h6 h7 hS;rw[this] at hun;cases hun)
     exact hst'.perm ((List.perm_middle.symm).trans (List.Perm.append_left H hp.symm))
    refine⟨λ_=>(key K h5).2,λhw'=>?_⟩;rw[(key K h5).1] at hw';cases hw'
 ·obtain⟨β,Z,h1,h2,h3,_⟩:=hI;refine h β a w Z (P6 h2 _ _ 0 (λt o s d ht hs hd=>?_)) (by rw[← QZ];exact h1);obtain⟨htN,rfl⟩:=lt_of t s hs;rw[Ab9];exact h3 t o d htN rfl (by rw[← hget t htN];exact ht) hd
end
theorem WW {P:Program}{n:Nat}{c:Cx}{opsA:Array Oper}{Q:Exit→Act→World→Prop}{d:Nat}{e:TypeId}{ty:TypeId}{pos:String}{af:Array Edge}{z:Value}{cs:List Rp}(hz:∀w,(zeroValue e).run P w = .ok z w)(hcs:z.cells.toList.map rv=cs) :
  Zy P n c opsA Q { dst:=some d,op:=.alloc e,type:=ty,pos:=pos,after:=af,guard:=none } (cs,e):=λH a w Z K hw hK=>by
 refine⟨by simp[Region.wanted],?_⟩;unfold Oper.wp;rw[show(execOp a.eval { dst:=some d,op:=.alloc e,type:=ty,pos:=pos,after:=af,guard:=none }).run P w = .ok (.value (.pointer (some ⟨w.heap.size,0,none⟩))) (w.alloc (.cells z.cells e)) from by simp[execOp,Instr.alloc,hz,newVar,newRow,newObj,Sem.run,Sem.run_bind]];exact hK _ _ (hw.alloc _ (e:=.blk w.heap.size cs e) ⟨z.cells.toList,by simpa using heap_alloc_new w _,by subst hcs;exact Bf.rvs Z _⟩ rfl)
section
variable {P : Program} {n : Nat} {c : Cx} {opsA : Array Oper} {Q : Exit → Act → World → Prop} {l l0 : Fr} {H : List Ent} {sp : List Sa}
theorem Ha {id:Nat}{ops:List Oper}(N:Nat)(ks0:List Nat)(sp:List Sa)(hob:J2 P n c ops.toArray Q ops sp l0 H 0 (ops.take N))(h:∀β,WL P n c ops.toArray Q (ops.drop N) (Mv β (ops.take N) sp 0 l0) (H++Uv β sp 0))
  (h0:Kp ks0 l l0:=by repeat (first | exact Oc | (apply LK;rfl) | (apply Mz;rfl))) (hm:P.follows .mixedOrders=true:=by kernel_rfl) (hB:okA n ops N (Gt l0) (sp.map (·.deps)) (sp.map (·.al.isSome)) (sp.map (·.late.map (·.1))) (sp.map (·.sto))=true:=by kernel_rfl)
  (hsp:sp.length=N:=by rfl):WC P n c (.region id ops.toArray true) Q l H:=YJ N sp hm hB h0.one hsp hob h
theorem DE {all rest:List Oper}{d:Nat}{op:Op}{ty:TypeId}{pos:String}{af:Array Edge}{i:Nat}
  (hr:∀{H},Bv P n c (Cd all (Xb sp) (GD sp i).deps l0) H { dst:=some d,op:=op,type:=ty,pos:=pos,after:=af,guard:=none } (GD sp i).r) (h:J2 P n c opsA Q all sp l0 H (i+1) rest) (ha:(GD sp i).al=none:=by rfl) (hs:(GD sp i).sto=none:=by rfl) :
  J2 P n c opsA Q all sp l0 H i ({ dst:=some d,op:=op,type:=ty,pos:=pos,after:=af,guard:=none }::rest):=by
 refine⟨?_,h⟩;unfold YB;rw[hs,ha];exact λ_=>VA hr
theorem Y2 {all rest:List Oper}{d:Nat}{op:Op}{ty:TypeId}{pos:String}{af:Array Edge}{i:Nat}
  (hr:∀{E},Bv P n c (Cd all (Xb sp) (GD sp i).deps l0) (H++E) { dst:=some d,op:=op,type:=ty,pos:=pos,after:=af,guard:=none } (GD sp i).r) (h:J2 P n c opsA Q all sp l0 H (i+1) rest) (ha:(GD sp i).al=none:=by rfl) (hs:(GD sp i).sto=none:=by rfl) :
  J2 P n c opsA Q all sp l0 H i ({ dst:=some d,op:=op,type:=ty,pos:=pos,after:=af,guard:=none }::rest):=by
 refine⟨?_,h⟩;unfold YB;rw[hs,ha];exact λ_=>VA hr
theorem oal {all rest:List Oper}{o:Oper}{p:List Rp×TypeId}{i:Nat}(hr:Zy P n c opsA Q o p)(h:J2 P n c opsA Q all sp l0 H (i+1) rest)(ha:(GD sp i).al=some p:=by rfl)(hs:(GD sp i).sto=none:=by rfl):J2 P n c opsA Q all sp l0 H i (o::rest):=by
 refine⟨?_,h⟩;unfold YB;rw[hs,ha];exact hr
theorem oas {all rest:List Oper}{op:Op}{ty:TypeId}{pos:String}{af:Array Edge}{g:Option (Nat×Bool)}{i j d:Nat}{p:List Rp×TypeId}{ncs:List Rp}
  (hr:∀{b H},Gu P n c opsA Q ((d,rv (.pointer (some ⟨b,0,none⟩)))::Cd all (Xb sp) (GD sp i).deps l0) (.blk b p.1 p.2::H) { dst:=none,op:=op,type:=ty,pos:=pos,after:=af,guard:=g } (rv undef) (.blk b ncs p.2::H))
  (h:J2 P n c opsA Q all sp l0 H (i+1) rest) (hs:(GD sp i).sto=some j:=by rfl) (hd:CD all j=some d:=by rfl) (ha:(GD sp j).al=some p:=by rfl) (hl:(GD sp j).late=some (i,ncs):=by rfl) :
  J2 P n c opsA Q all sp l0 H i ({ dst:=none,op:=op,type:=ty,pos:=pos,after:=af,guard:=g }::rest):=by
 refine⟨?_,h⟩;unfold YB;rw[hs];exact⟨rfl,d,p,ncs,hd,ha,hl,λ_ _=>hr⟩
theorem XH {all:List Oper}{i:Nat}:J2 P n c opsA Q all sp l0 H i []:=trivial
end
structure Xc (ks:List Nat) (β:Nat→Nat) (os:List Oper) (sp:List Sa) (i:Nat) (l0 l1:Fr):Prop where
 go:Kp ks (Mv β os sp i l0) l1
section
variable {ks : List Nat} {β : Nat → Nat} {os : List Oper} {sp : List Sa} {i d : Nat} {l0 l1 : Fr} {ds : List Nat} {r : Rp} {p : List Rp × TypeId} {lt : Option (Nat × List Rp)} {so : Option Nat} {op : Op} {ty : TypeId} {pos : String} {af : Array Edge} {g : Option (Nat × Bool)}
theorem ZP (h:ks.contains d=true)(t:Xc ks β os sp (i+1) l0 l1):Xc ks β ({ dst:=some d,op:=op,type:=ty,pos:=pos,after:=af,guard:=g }::os) ({ deps:=ds,r:=r,sto:=so }::sp) i l0 ((d,r)::l1):=⟨LK h t.go⟩
theorem ZS (h:ks.contains d=true)(t:Xc ks β os sp (i+1) l0 l1):Xc ks β ({ dst:=some d,op:=op,type:=ty,pos:=pos,after:=af,guard:=g }::os) ({ deps:=ds,r:=r,al:=some p,late:=lt,sto:=so }::sp) i l0 ((d,rv (.pointer (some ⟨β i,0,none⟩)))::l1):=⟨LK h t.go⟩
theorem ZR {s:Sa}(h:ks.contains d=false)(t:Xc ks β os sp (i+1) l0 l1):Xc ks β ({ dst:=some d,op:=op,type:=ty,pos:=pos,after:=af,guard:=g }::os) (s::sp) i l0 l1:=⟨Mz h t.go⟩
theorem ZQ {s:Sa}(t:Xc ks β os sp (i+1) l0 l1):Xc ks β ({ dst:=none,op:=op,type:=ty,pos:=pos,after:=af,guard:=g }::os) (s::sp) i l0 l1:=⟨t.go⟩
theorem ZT (t:Kp ks l0 l1):Xc ks β [] [] i l0 l1:=⟨t⟩
theorem HZ {P:Program}{n:Nat}{c:Cx}{opsA:Array Oper}{Q:Exit→Act→World→Prop}{rest:List Oper}{H H1:List Ent}(ks:List Nat)(h:WL P n c opsA Q rest l1 H1)
  (hz:Xc ks β os sp i l0 l1:=by repeat (first | (apply ZP;rfl) | (apply ZS;rfl) | (apply ZR;rfl) | apply ZQ | apply ZT | exact Oc | (apply LK;rfl) | (apply Mz;rfl))) (hH:H=H1:=by rfl) :
  WL P n c opsA Q rest (Mv β os sp i l0) H:=λa w Z ha hw=>h a w Z (ha.subL hz.go.one) (hH▸hw)
end
section
variable {P : Program} {n : Nat} {c : Cx} {opsA : Array Oper} {Q : Exit → Act → World → Prop} {l l0 : Fr} {H : List Ent} {sp : List Sa}
theorem oac {all rest:List Oper}{o:Oper}{i:Nat}(hr:∀{E},Gu P n c opsA Q (Cd all (Xb sp) (GD sp i).deps l0) (H++E) o (GD sp i).r (H++E))(h:J2 P n c opsA Q all sp l0 H (i+1) rest)(ha:(GD sp i).al=none:=by rfl)(hs:(GD sp i).sto=none:=by rfl):J2 P n c opsA Q all sp l0 H i (o::rest):=by
 refine⟨?_,h⟩;unfold YB;rw[hs,ha];exact λ_=>hr
end
def rBx (p:Bool→Prop):Rp:=⟨λ_ v=>∃b,v = .bool b∧p b,λ_ h=>h,true,λ_ Z v ⟨b,e,_⟩=>by rw[e];rfl⟩
section
variable {P : Program} {n : Nat} {c : Cx} {ops : Array Oper} {Q : Exit → Act → World → Prop} {rest : List Oper} {l : Fr} {H : List Ent} {d : Option Nat} {ty rty t e : TypeId} {pos : String} {af : Array Edge} {g : Option (Nat × Bool)} {r : Rp} {x : Operand} {cx cy : Code} {sz : Nat} {xs : List (List Rp)}
theorem UM {o:Operand}{p:Bool→Prop}(ho:ev l o=some (rBx p))(h1:p true→WC P n c cx Q l H)(h2:p false→WC P n c cy Q l H):WC P n c (.cond o cx cy) Q l H:=λa w Z ha hw=>by
 obtain⟨b,e,hp⟩:=ha.ev ho;exact wp_cond_split e (λe=>h1 (e▸hp) a w Z ha hw) (λe=>h2 (e▸hp) a w Z ha hw)
theorem TS (ht:P.underlying t=some (.slice e))(h:ev l x=some (Bo sz xs)):Bv P n c l H { dst:=d,op:=.binOp .eql t x (.const (.slice none 0 0)) rty,type:=ty,pos:=pos,after:=af,guard:=g } (rBx (λb=>b=true→xs=[])):=λa w Z ha hw=>by
 obtain⟨A,cap,e1,h1,h2,h3,h4⟩:=ha.ev h;refine⟨.bool A.isNone,⟨_,rfl,λhb=>?_⟩,?_⟩
 ·cases A with
  | some a=>cases hb
  | none=>
   have:=h3 rfl;exact List.length_eq_zero_iff.1 (by omega)
 ·have:=run_equal_slice_nil (P:=P) w t e A xs.length cap ht;have e2:a.eval (.const (.slice none 0 0)) = .slice none 0 0:=rfl;simp[execOp,e1,e2,binOp,this,eqGuard]
end
section
variable {P : Program} {n : Nat} {c : Cx} {l : Fr} {H : List Ent} {d : Option Nat} {ty rty t e : TypeId} {pos : String} {af : Array Edge} {g : Option (Nat × Bool)} {x : Operand} {sz : Nat}
end
end Go.Proofs.YtkoiaconljdbeaaGreatDoor.Q
