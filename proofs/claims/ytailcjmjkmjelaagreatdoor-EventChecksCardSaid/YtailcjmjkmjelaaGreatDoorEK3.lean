/-
  Texts of the proof, put together: WVc, PVd, WVd, PVe, WVe, PVf, WVf, PH, PFr, QH, QY, QU, QW, QT, QJ, QX, WFr, PEa, QN, Q7.
-/
import Derived.Test.YtailcjmjkmjelaaGreatDoorEK2
import Derived.Laws.StructEq
import GoSem.Op.IntBits
import GoSem.Op.Shift
import Derived.Laws.Cover3
import Derived.ScopeJumps
import Derived.Laws.CopyRow
import Derived.Laws.IdiomCopy
import Derived.Laws.OwnMore
import Derived.Lib.RepeatB
import Derived.Lib.TrailingZeros
namespace Go.Proofs.YtailcjmjkmjelaaGreatDoor.Q
open Go Go.RowKit
set_option linter.unusedVariables false
set_option linter.unusedSimpArgs false
set_option maxRecDepth 100000
set_option maxHeartbeats 4000000
theorem Kv (F:Nat)(ha:Nat)(hi:Value)(l:Ak)(s:Ak)(r:Ak)(h:If F l s=some r):Fn Tryz.prog GE 61 [rv (.pointer (some ⟨ha,0,none⟩)),rS s] [.bld 66 5 ha hi l] (λR H=>∃w0b:Value,R=rv (.tuple #[])∧H=[.bld 66 5 ha w0b r]):=by
 refine enter (n:=32) Tryz.func61 Aa Tryz.ntmps61 Aa (λw Z=>?_);refine AR (l':=[(0,rv (.pointer (some ⟨ha,0,none⟩))),(1,rS s)]) (H':=[.bld 66 5 ha hi l]) Aa Aa ?_;unfold If at h;refine Al (wm Aa ?_);obtain⟨g1,h2⟩:=Az h;obtain⟨g3,h4⟩:=Az h2;refine BD (rs:=[rv (.pointer (some ⟨ha,0,none⟩)),rI .u8 34]) (Hin:=[.bld 66 5 ha hi l]) (Hr:=[]) JL Aa (Ur _) (BZ ha hi l 34 g1 g3) Aa ?_;rintro _ _ ⟨v5,rfl,rfl⟩;obtain⟨r6,e8,h7⟩:=D2 h4;rw[← e8];refine As (Am (Al (wm Aa (wv (AZ Ce Aa) (wv (r:=rI .i64 0) (Ah Aa) (As (AJ ?_)))))));obtain⟨hu,hw,hx⟩:=AH h7;refine B2 (S:=Nat×(Int×Ak)×(Value)) (V:=(Ak)×(Value)) 0 (λσ=>Cn (λσ=>CJ s σ.1 σ.2) σ.1 σ.2.1=some hu) (λσ=>[(0,rv (.pointer (some ⟨ha,0,none⟩))),(1,rS s),(8,rI .i64 (s.length:Int)),(9,rI .i64 σ.2.1.1)]) (λσ=>[.bld 66 5 ha σ.2.2 σ.2.1.2]) (λσ=>σ.1) (F,(0,r6),v5) hw (AK.c Aa (AK.c Aa (AK.c Aa (AK.c Aa AK.nil)))) (sC sN) (λσ=>DL σ.1=some r) (λσ=>[(0,rv (.pointer (some ⟨ha,0,none⟩)))]) (λσ=>[.bld 66 5 ha σ.2 σ.1]) ?_ ?_
 ·rintro⟨gi,⟨hd,hf⟩,hg⟩ hy;refine AR (l':=[(0,rv (.pointer (some ⟨ha,0,none⟩))),(1,rS s),(8,rI .i64 (s.length:Int)),(9,rI .i64 hd)]) (H':=[.bld 66 5 ha hg hf]) Aa Aa ?_;obtain⟨hq,rfl,t127,hh,hm⟩:=CM hy;replace hh:CJ s hd hf=some t127:=hh;unfold CJ at hh;refine Al (wv (C8 Aa Aa) (As (Am (Au (b:=decide (hd<(s.length:Int))) Aa (λhn=>?_) (λhn=>?_)))))
  ·have hz:=AE hn hh;refine Aw (AP (Am (AJ (Al (wm Aa (wa Aa (As (Am ?_))))))));obtain⟨hj,hr⟩:=Az hz;refine AB [(0,rv (.pointer (some ⟨ha,0,none⟩))),(1,rS s),(4,rI .i64 hd),(8,rI .i64 (s.length:Int)),(9,rI .i64 hd),(21,rB ((decide ((AY s hd)=34))||(decide ((AY s hd)=92))))] [.bld 66 5 ha hg hf] ?_ ?_
   ·refine Ai (wm Aa (wm Aa (wv (Bb Ce Aa Aa hj) (wv (Bh Aa Aa) (wm Aa (A7 (decide ((AY s hd)=34)) (λhe=>?_) (λhe=>?_)))))))
    ·refine wf he (wf he (wf he (wf he (wv (r:=rB true) (Ao (b:=decide ((AY s hd)=34)) Aa he Aa) (Aj ?_)))));exact BO he
    ·refine wo he (wm Aa (wo he (wm Aa (wo he (wv (Bb Ce Aa Aa hj) (wo he (wv (Bh Aa Aa) (ET Aa he Aa (Aj ?_)))))))));exact BO he
   refine Au (b:=((decide ((AY s hd)=34))||(decide ((AY s hd)=92)))) Aa (λho=>?_) (λho=>?_)
   ·have h0:=AE ho hr;refine Ai (wm Aa ?_);obtain⟨h6,h8⟩:=Az h0;obtain⟨h9,hA⟩:=Az h8;refine BD (rs:=[rv (.pointer (some ⟨ha,0,none⟩)),rI .u8 92]) (Hin:=[.bld 66 5 ha hg hf]) (Hr:=[]) JL Aa (Ur _) (BZ ha hg hf 92 h6 h9) Aa ?_;rintro _ _ ⟨hs,rfl,rfl⟩;obtain⟨ht,hB,hC⟩:=D2 hA;rw[← hB];refine As (Ai (wm Aa (wm Aa (wm Aa (wv (Bb Ce Aa Aa hj) ?_)))));obtain⟨hD,hE⟩:=Az hC;obtain⟨hG,hH⟩:=Az hE;refine BD (rs:=[rv (.pointer (some ⟨ha,0,none⟩)),rI .u8 (AY s hd)]) (Hin:=[.bld 66 5 ha hs ht]) (Hr:=[]) JL Aa (Ur _) (BZ ha hs ht (AY s hd) hD hG) Aa ?_;rintro _ _ ⟨hI,rfl,rfl⟩;obtain⟨hJ,hK,hL⟩:=D2 hH;rw[← hK];refine Aj (AG (AP (Ai ?_)));obtain⟨hN,hO⟩:=Az hL;refine wv (Bu Aa Aa hN) (wm Aa (Aj ?_));have hP:=Bk hO hm;exact Ap (AI (hq,(hd+1,hJ),hI) ⟨hP,U0 _⟩ (AK.c Aa (AK.c Aa (AK.c Aa (AK.c Aa AK.nil)))) (sC sN))
   ·have hQ:=AF ho hr;refine Aw (AP (Ai (wm Aa (wm Aa (wm Aa (wv (Bb Ce Aa Aa hj) ?_))))));obtain⟨hR,hS⟩:=Az hQ;obtain⟨hT,hU⟩:=Az hS;refine BD (rs:=[rv (.pointer (some ⟨ha,0,none⟩)),rI .u8 (AY s hd)]) (Hin:=[.bld 66 5 ha hg hf]) (Hr:=[]) JL Aa (Ur _) (BZ ha hg hf (AY s hd) hR hT) Aa ?_;rintro _ _ ⟨v164,rfl,rfl⟩;obtain⟨hV,hW,hX⟩:=D2 hU;rw[← hW];refine Aj (AG (AP (Ai ?_)));obtain⟨hY,hZ⟩:=Az hX;refine wv (Bu Aa Aa hY) (wm Aa (Aj ?_));have ga:=Bk hZ hm;exact Ap (AI (hq,(hd+1,hV),v164) ⟨ga,U0 _⟩ (AK.c Aa (AK.c Aa (AK.c Aa (AK.c Aa AK.nil)))) (sC sN))
  ·have gb:=AF hn hh;refine B4 (A4 ?_);have gc:=Cv gb hm hx;exact A4 (Bt (AI (hf,hg) gc (AK.c Aa AK.nil) (sC sN)))
 ·rintro⟨hk,hp⟩ hl;refine Dd (l':=[(0,rv (.pointer (some ⟨ha,0,none⟩)))]) (H':=[.bld 66 5 ha hp hk]) Aa Aa ?_;replace hl:DL hk=some r:=hl;unfold DL at hl;refine Bi (AP (Ai (wm Aa ?_)));obtain⟨gd,ge⟩:=Az hl;refine BD (rs:=[rv (.pointer (some ⟨ha,0,none⟩)),rI .u8 34]) (Hin:=[.bld 66 5 ha hp hk]) (Hr:=[]) JL Aa (Ur _) (BZ ha hp hk 34 gd g3) Aa ?_;rintro _ _ ⟨gf,rfl,rfl⟩;obtain⟨gj,gg,gh⟩:=D2 ge;rw[← gg];refine Aj ?_;obtain rfl:=A0 gh;exact EB (OR Tryz.results61) (sC sN) ⟨gf,Aa,Aa⟩
theorem OF (F:Nat)(hq:Ak→(List Ac)→Bool→Ak→Ac→Option (Bool×Bool×Ak))(hr:(List Ac)→Bool→Ak→Ac→Option (Bool×Ak))(gD:(∀(he:Nat) (hf:Nat) (ha:Nat) (hd:Value) (hg:Nat) (key:Ak) (x:(List Ac)) (first:Bool) (l:Ak) (c:Ac) (r:Bool×Bool×Ak),hq key x first l c=some r→Fn Tryz.prog GE 64 [rS key,Bl 4 (List.map Ab x),rv (.pointer (some ⟨he,0,none⟩)),rv (.pointer (some ⟨hf,0,none⟩)),rv (.pointer (some ⟨hg,0,none⟩))] [.blk he [rB first] 4,.blk hf [rv (.pointer (some ⟨ha,0,none⟩))] 63,.bld 66 5 ha hd l,.blk hg (Ab c) 50] (λR H=>∃w3b:Value,R=rB r.1∧H=[.blk he [rB r.2.1] 4,.blk hf [rv (.pointer (some ⟨ha,0,none⟩))] 63,.bld 66 5 ha w3b r.2.2,.blk hg (Ab c) 50])))(hs:(∀(he:Nat) (hf:Nat) (ha:Nat) (hd:Value) (hg:Nat) (v:(List Ac)) (first:Bool) (l:Ak) (c:Ac) (r:Bool×Ak),hr v first l c=some r→Fn Tryz.prog GE 63 [Bl 4 (List.map Ab v),rv (.func (.func 64) #[] #[(.pointer (some ⟨he,0,none⟩)),(.pointer (some ⟨hf,0,none⟩)),(.pointer (some ⟨hg,0,none⟩))])] [.blk he [rB first] 4,.blk hf [rv (.pointer (some ⟨ha,0,none⟩))] 63,.bld 66 5 ha hd l,.blk hg (Ab c) 50] (λR H=>∃w1_1b:Value,R=rv (.tuple #[])∧H=[.blk he [rB r.1] 4,.blk hf [rv (.pointer (some ⟨ha,0,none⟩))] 63,.bld 66 5 ha w1_1b r.2,.blk hg (Ab c) 50])))(ha:Nat)(hd:Value)(l:Ak)(v:(List Ac))(r:Ak)(h:H8 F hq hr l v=some r):Fn Tryz.prog GE 42 [rv (.pointer (some ⟨ha,0,none⟩)),Bl 4 (List.map Ab v)] [.bld 66 5 ha hd l] (λR H=>∃w0b:Value,R=rv (.tuple #[])∧H=[.bld 66 5 ha w0b r]):=by
 refine enter (n:=52) Tryz.func42 Aa Tryz.ntmps42 Aa (λw Z=>?_);refine AR (l':=[(0,rv (.pointer (some ⟨ha,0,none⟩))),(1,Bl 4 (List.map Ab v))]) (H':=[.bld 66 5 ha hd l]) Aa Aa ?_;unfold H8 at h;refine Al (Sk Aa (BV Aa) Aa (λb1=>?_));refine Bv (wm Aa ?_);obtain⟨g2,h3⟩:=Az h;refine wv (BH (enc:=Ab) (ys:=v) BN Cm Aa Aa g2) (wv (DN Kn Cm Aa Aa Aa) (Ci (cs:=[rI .i64 0,rI .i64 0,rS ([]:Ak),rI .i64 0]) Ia Aa Aa (λb4=>?_)));refine Bg (i:=0) Cm Aa Aa Aa (BE.c Aa) Aa Aa (cs':=[rI .i64 ((At v 0).fKind),rI .i64 ((At v 0).fInt),rS ((At v 0).fStr),rI .i64 ((At v 0).fN)]) Aa (H':=[.blk b4 (Ab (At v 0)) 50,.blk b1 [rv (.pointer (some ⟨ha,0,none⟩))] 63,.bld 66 5 ha hd l]) Aa (Bv (wv (Ad Bm Aa D4 Aa Aa) (wv (Aq (i:=0) D5 Aa Aa Aa) (As (AJ (Al (wv (Bh Aa Aa) (wa Aa (As (Au (b:=decide (((At v 0).fKind)=1)) Aa (λc5=>?_) (λc5=>?_)))))))))))
 ·have h6:=AE c5 h3;refine Ai (wv (Aq (i:=1) Gn Aa Aa Aa) ?_);obtain⟨g7,h8⟩:=Az h6;refine BD (rs:=[rv (.pointer (some ⟨ha,0,none⟩)),rS ([110,117,108,108]:Ak)]) (Hin:=[.bld 66 5 ha hd l]) (Hr:=[.blk b4 (Ab (At v 0)) 50,.blk b1 [rv (.pointer (some ⟨ha,0,none⟩))] 63]) Tryz.call60 Aa ((AC (i:=2) Aa).trans (Uv _ (Ur _))) (Gc ha hd l ([110,117,108,108]:Ak) g7) Aa ?_;rintro _ _ ⟨v9,rfl,rfl⟩;obtain⟨gE,h7,h9⟩:=D2 h8;rw[← h7];refine Aj (AG ?_);obtain rfl:=A0 h9;exact EB (OR O9) (sC (sS (sS sN))) ⟨v9,Aa,Aa⟩
 ·have ht:=AF c5 h3;refine Al (wv (Bh Aa Aa) (wa Aa (As (Au (b:=decide (((At v 0).fKind)=2)) Aa (λhl=>?_) (λhl=>?_)))))
  ·have hA:=AE hl ht;obtain⟨g16,hB⟩:=Az hA;refine GB (H1:=[.blk b4 (Ab (At v 0)) 50,.blk b1 [rv (.pointer (some ⟨ha,0,none⟩))] 63,.bld 66 5 ha hd l]) 6 [2,4] [⟨[],rv (.pointer (some ⟨ha,0,none⟩)),1⟩,⟨[],Bl 1 (List.map eS ([([102,97,108,115,101]:Ak),([116,114,117,101]:Ak)]:List Ak)),0⟩,⟨[],rv (.pointer (some ⟨b4,1,none⟩)),0⟩,⟨[2],rI .i64 ((At v 0).fInt),1⟩,⟨[1,3],Nl [rS (At ([([102,97,108,115,101]:Ak),([116,114,117,101]:Ak)]:List Ak) ((At v 0).fInt))],0⟩,⟨[4],rS (At ([([102,97,108,115,101]:Ak),([116,114,117,101]:Ak)]:List Ak) ((At v 0).fInt)),0⟩] (rle [(7,_)]) [32,33,34,35,36,37,2,4] ?_ ?_
   ·refine of (Aq (i:=1) Gn Aa Aa Aa) (Ct Aa (λH=>DA (ys:=([([102,97,108,115,101]:Ak),([116,114,117,101]:Ak)]:List Ak)) (enc:=eS) (css:=[[rS ([102,97,108,115,101]:Ak)],[rS ([116,114,117,101]:Ak)]]) (xs:=[.const (.string ⟨#[102,97,108,115,101]⟩),.const (.string ⟨#[116,114,117,101]⟩)]) Dc BU Tl Aa Aa Aa ⟨Gk.one Aa (Up.refl _),Gk.one Aa (Up.refl _),trivial⟩ Aa GU Aa Aa) ?_);refine oq (Ad Bm Aa Cf Aa Aa) (of (Aq (i:=0) CC Aa Aa Aa) (oq (BH (enc:=eS) (ys:=([([102,97,108,115,101]:Ak),([116,114,117,101]:Ak)]:List Ak)) Dc BU Aa Aa g16) (oq (B7 Cg Aa Aa) ?_)));exact BS
   obtain⟨g18,hC⟩:=Az hB;refine BD (rs:=[rv (.pointer (some ⟨ha,0,none⟩)),rS (At ([([102,97,108,115,101]:Ak),([116,114,117,101]:Ak)]:List Ak) ((At v 0).fInt))]) (Hin:=[.bld 66 5 ha hd l]) (Hr:=[.blk b4 (Ab (At v 0)) 50,.blk b1 [rv (.pointer (some ⟨ha,0,none⟩))] 63]) Tryz.call60 Aa ((AC (i:=2) Aa).trans (Uv _ (Ur _))) (Gc ha hd l (At ([([102,97,108,115,101]:Ak),([116,114,117,101]:Ak)]:List Ak) ((At v 0).fInt)) g18) Aa ?_;rintro _ _ ⟨v20,rfl,rfl⟩;obtain⟨gF,hD,hE⟩:=D2 hC;rw[← hD];refine Aj (AG ?_);obtain rfl:=A0 hE;exact EB (OR O9) (sC (sS (sS sN))) ⟨v20,Aa,Aa⟩
  ·have hu:=AF hl ht;refine Al (wv (Bh Aa Aa) (wa Aa (As (Au (b:=decide (((At v 0).fKind)=3)) Aa (λhm=>?_) (λhm=>?_)))))
   ·have hG:=AE hm hu;obtain⟨hH,hI⟩:=Az hG;refine GB (H1:=[.blk b4 (Ab (At v 0)) 50,.blk b1 [rv (.pointer (some ⟨ha,0,none⟩))] 63,.bld 66 5 ha hd l]) 4 [2,4] [⟨[],rv (.pointer (some ⟨ha,0,none⟩)),1⟩,⟨[],rv (.pointer (some ⟨b4,1,none⟩)),0⟩,⟨[1],rI .i64 ((At v 0).fInt),1⟩,⟨[2],rS (Lib.itoa ((At v 0).fInt)),0⟩] (rle [(5,_)]) [41,42,43,44,2,4] ?_ ?_
    ·refine of (Aq (i:=1) Gn Aa Aa Aa) (oq (Ad Bm Aa Cf Aa Aa) (of (Aq (i:=0) CC Aa Aa Aa) (Ct Aa (λH=>Hx (rs:=[rI .i64 ((At v 0).fInt)]) (r:=rS (Lib.itoa ((At v 0).fInt))) Tryz.call20 Aa (KM ((At v 0).fInt) hH) Aa) ?_)));exact BS
    obtain⟨hJ,hK⟩:=Az hI;refine BD (rs:=[rv (.pointer (some ⟨ha,0,none⟩)),rS (Lib.itoa ((At v 0).fInt))]) (Hin:=[.bld 66 5 ha hd l]) (Hr:=[.blk b4 (Ab (At v 0)) 50,.blk b1 [rv (.pointer (some ⟨ha,0,none⟩))] 63]) Tryz.call60 Aa ((AC (i:=2) Aa).trans (Uv _ (Ur _))) (Gc ha hd l (Lib.itoa ((At v 0).fInt)) hJ) Aa ?_;rintro _ _ ⟨hL,rfl,rfl⟩;obtain⟨gG,hN,hO⟩:=D2 hK;rw[← hN];refine Aj (AG ?_);obtain rfl:=A0 hO;exact EB (OR O9) (sC (sS (sS sN))) ⟨hL,Aa,Aa⟩
   ·have hw:=AF hm hu;refine Al (wv (Bh Aa Aa) (wa Aa (As (Au (b:=decide (((At v 0).fKind)=4)) Aa (λhn=>?_) (λhn=>?_)))))
    ·have hP:=AE hn hw;refine Ai (wv (Aq (i:=1) Gn Aa Aa Aa) (wv (Ad Bm Aa BU Aa Aa) (wv (Aq (i:=0) Cg Aa Aa Aa) ?_)));obtain⟨hQ,hR,hS⟩:=AH hP;refine Hk (Hr:=[.blk b4 (Ab (At v 0)) 50,.blk b1 [rv (.pointer (some ⟨ha,0,none⟩))] 63]) Tryz.call61 (Kv F ha hd l ((At v 0).fStr) hQ hR) Aa ((AC (i:=2) Aa).trans (Uv _ (Ur _))) Aa ?_;rintro _ _ ⟨hT,rfl,rfl⟩;refine Aj (AG ?_);obtain rfl:=A0 hS;exact EB (OR O9) (sC (sS (sS sN))) ⟨hT,Aa,Aa⟩
    ·have hx:=AF hn hw;refine Al (wv (r:=rS ([91,93]:Ak)) (Ae Aa) (As (Am (Al (wv (Ad Bm Aa D4 Aa Aa) (wv (Aq (i:=0) D5 Aa Aa Aa) (wv (Bh Aa Aa) (As (Au (b:=decide (((At v 0).fKind)=6)) Aa (λho=>?_) (λho=>?_))))))))))
     ·have hU:=AE ho hx;refine Ai (wv (r:=rS ([123,125]:Ak)) (Ae Aa) (As (Am ?_)));obtain⟨hV,hW⟩:=Az hU;refine GB (H1:=[.blk b4 (Ab (At v 0)) 50,.blk b1 [rv (.pointer (some ⟨ha,0,none⟩))] 63,.bld 66 5 ha hd l]) 3 [1,2,4,5] [⟨[],rv (.pointer (some ⟨ha,0,none⟩)),1⟩,⟨[],rS ([123,125]:Ak),0⟩,⟨[1],rI .u8 (AY ([123,125]:Ak) 0),0⟩] (rle [(4,_)]) [15,16,17,1,2,4,5] ?_ ?_
      ·refine of (Aq (i:=1) Gn Aa Aa Aa) (oq (Ah Aa) (oq (Bb Ce Aa Aa hV) ?_));exact BS
      obtain⟨hX,hY⟩:=Az hW;obtain⟨hZ,ga⟩:=Az hY;refine BD (rs:=[rv (.pointer (some ⟨ha,0,none⟩)),rI .u8 (AY ([123,125]:Ak) 0)]) (Hin:=[.bld 66 5 ha hd l]) (Hr:=[.blk b4 (Ab (At v 0)) 50,.blk b1 [rv (.pointer (some ⟨ha,0,none⟩))] 63]) JL Aa ((AC (i:=2) Aa).trans (Uv _ (Ur _))) (BZ ha hd l (AY ([123,125]:Ak) 0) hX hZ) Aa ?_;rintro _ _ ⟨v51,rfl,rfl⟩;obtain⟨hy,gb,gc⟩:=D2 ga;rw[← gb];refine Bv (Ci (cs:=[rB false]) Tryz.zeroValue4 Aa Aa (λhj=>?_));refine B0 (i:=0) G9 Aa Aa (BV Aa) Aa Aa (cs':=[rB true]) Aa (H':=[.blk hj [rB true] 4,.bld 66 5 ha v51 hy,.blk b4 (Ab (At v 0)) 50,.blk b1 [rv (.pointer (some ⟨ha,0,none⟩))] 63]) Aa (Bv (wm Aa (wv (r:=rv (.func (.func 64) #[] #[(.pointer (some ⟨hj,0,none⟩)),(.pointer (some ⟨b1,0,none⟩)),(.pointer (some ⟨b4,0,none⟩))])) (KI Aa) ?_)));obtain⟨hh,gd,ge⟩:=AH gc;refine Hk (Hr:=[]) Tryz.call63 (hs hj b1 ha v51 b4 v true hy (At v 0) hh gd) Aa ((AC (i:=0) Aa).trans (Uv _ ((AC (i:=2) Aa).trans (Uv _ (Ur _))))) Aa ?_;rintro _ _ ⟨hp,rfl,rfl⟩;refine As ?_;obtain⟨gf,gg⟩:=Az ge;refine GB (H1:=[.blk hj [rB hh.1] 4,.blk b1 [rv (.pointer (some ⟨ha,0,none⟩))] 63,.bld 66 5 ha hp hh.2,.blk b4 (Ab (At v 0)) 50]) 3 [2,5] [⟨[],rv (.pointer (some ⟨ha,0,none⟩)),1⟩,⟨[],rS ([123,125]:Ak),0⟩,⟨[1],rI .u8 (AY ([123,125]:Ak) 1),0⟩] (rle [(4,_)]) [22,23,24,2,5] ?_ ?_
      ·refine of (Aq (i:=1) Gn Aa Aa Aa) (oq (Ah Aa) (oq (Bb Ce Aa Aa gf) ?_));exact BS
      obtain⟨gh,gi⟩:=Az gg;obtain⟨gj,gl⟩:=Az gi;refine BD (rs:=[rv (.pointer (some ⟨ha,0,none⟩)),rI .u8 (AY ([123,125]:Ak) 1)]) (Hin:=[.bld 66 5 ha hp hh.2]) (Hr:=[.blk hj [rB hh.1] 4,.blk b1 [rv (.pointer (some ⟨ha,0,none⟩))] 63,.blk b4 (Ab (At v 0)) 50]) JL Aa ((AC (i:=2) Aa).trans (Uv _ (Ur _))) (BZ ha hp hh.2 (AY ([123,125]:Ak) 1) gh gj) Aa ?_;rintro _ _ ⟨gm,rfl,rfl⟩;obtain⟨gH,gp,gq⟩:=D2 gl;rw[← gp];refine Aj (AG ?_);obtain rfl:=A0 gq;exact EB (OR O9) (sC (sS (sS (sS sN)))) ⟨gm,Aa,Aa⟩
     ·have gr:=AF ho hx;refine Aw (AP (Am ?_));obtain⟨gs,gt⟩:=Az gr;refine GB (H1:=[.blk b4 (Ab (At v 0)) 50,.blk b1 [rv (.pointer (some ⟨ha,0,none⟩))] 63,.bld 66 5 ha hd l]) 3 [1,2,4,5] [⟨[],rv (.pointer (some ⟨ha,0,none⟩)),1⟩,⟨[],rS ([91,93]:Ak),0⟩,⟨[1],rI .u8 (AY ([91,93]:Ak) 0),0⟩] (rle [(4,_)]) [15,16,17,1,2,4,5] ?_ ?_
      ·refine of (Aq (i:=1) Gn Aa Aa Aa) (oq (Ah Aa) (oq (Bb Ce Aa Aa gs) ?_));exact BS
      obtain⟨gu,gv⟩:=Az gt;obtain⟨gw,gx⟩:=Az gv;refine BD (rs:=[rv (.pointer (some ⟨ha,0,none⟩)),rI .u8 (AY ([91,93]:Ak) 0)]) (Hin:=[.bld 66 5 ha hd l]) (Hr:=[.blk b4 (Ab (At v 0)) 50,.blk b1 [rv (.pointer (some ⟨ha,0,none⟩))] 63]) JL Aa ((AC (i:=2) Aa).trans (Uv _ (Ur _))) (BZ ha hd l (AY ([91,93]:Ak) 0) gu gw) Aa ?_;rintro _ _ ⟨hz,rfl,rfl⟩;obtain⟨h0,gy,gz⟩:=D2 gx;rw[← gy];refine Bv (Ci (cs:=[rB false]) Tryz.zeroValue4 Aa Aa (λhk=>?_));refine B0 (i:=0) G9 Aa Aa (BV Aa) Aa Aa (cs':=[rB true]) Aa (H':=[.blk hk [rB true] 4,.bld 66 5 ha hz h0,.blk b4 (Ab (At v 0)) 50,.blk b1 [rv (.pointer (some ⟨ha,0,none⟩))] 63]) Aa (Bv (wm Aa (wv (r:=rv (.func (.func 64) #[] #[(.pointer (some ⟨hk,0,none⟩)),(.pointer (some ⟨b1,0,none⟩)),(.pointer (some ⟨b4,0,none⟩))])) (KI Aa) ?_)));obtain⟨hi,g0,g1⟩:=AH gz;refine Hk (Hr:=[]) Tryz.call63 (hs hk b1 ha hz b4 v true h0 (At v 0) hi g0) Aa ((AC (i:=0) Aa).trans (Uv _ ((AC (i:=2) Aa).trans (Uv _ (Ur _))))) Aa ?_;rintro _ _ ⟨v85,rfl,rfl⟩;refine As ?_;obtain⟨g3,g4⟩:=Az g1;refine GB (H1:=[.blk hk [rB hi.1] 4,.blk b1 [rv (.pointer (some ⟨ha,0,none⟩))] 63,.bld 66 5 ha v85 hi.2,.blk b4 (Ab (At v 0)) 50]) 3 [2,5] [⟨[],rv (.pointer (some ⟨ha,0,none⟩)),1⟩,⟨[],rS ([91,93]:Ak),0⟩,⟨[1],rI .u8 (AY ([91,93]:Ak) 1),0⟩] (rle [(4,_)]) [22,23,24,2,5] ?_ ?_
      ·refine of (Aq (i:=1) Gn Aa Aa Aa) (oq (Ah Aa) (oq (Bb Ce Aa Aa g3) ?_));exact BS
      obtain⟨g5,g6⟩:=Az g4;obtain⟨g8,g9⟩:=Az g6;refine BD (rs:=[rv (.pointer (some ⟨ha,0,none⟩)),rI .u8 (AY ([91,93]:Ak) 1)]) (Hin:=[.bld 66 5 ha v85 hi.2]) (Hr:=[.blk hk [rB hi.1] 4,.blk b1 [rv (.pointer (some ⟨ha,0,none⟩))] 63,.blk b4 (Ab (At v 0)) 50]) JL Aa ((AC (i:=2) Aa).trans (Uv _ (Ur _))) (BZ ha v85 hi.2 (AY ([91,93]:Ak) 1) g5 g8) Aa ?_;rintro _ _ ⟨gA,rfl,rfl⟩;obtain⟨gI,gB,gC⟩:=D2 g9;rw[← gB];refine Aj (AG ?_);obtain rfl:=A0 gC;exact EB (OR O9) (sC (sS (sS (sS sN)))) ⟨gA,Aa,Aa⟩
theorem Nu (F:Nat)(hm:Ak→(List Ac)→Option (Ak))(hh:(∀(ha:Nat) (hg:Value) (l:Ak) (v:(List Ac)) (r:Ak),hm l v=some r→Fn Tryz.prog GE 42 [rv (.pointer (some ⟨ha,0,none⟩)),Bl 4 (List.map Ab v)] [.bld 66 5 ha hg l] (λR H=>∃w0b:Value,R=rv (.tuple #[])∧H=[.bld 66 5 ha w0b r])))(hd:Nat)(he:Nat)(ha:Nat)(hg:Value)(hf:Nat)(key:Ak)(x:(List Ac))(first:Bool)(l:Ak)(c:Ac)(r:Bool×Bool×Ak)(h:Iu F hm key x first l c=some r):Fn Tryz.prog GE 64 [rS key,Bl 4 (List.map Ab x),rv (.pointer (some ⟨hd,0,none⟩)),rv (.pointer (some ⟨he,0,none⟩)),rv (.pointer (some ⟨hf,0,none⟩))] [.blk hd [rB first] 4,.blk he [rv (.pointer (some ⟨ha,0,none⟩))] 63,.bld 66 5 ha hg l,.blk hf (Ab c) 50] (λR H=>∃w3b:Value,R=rB r.1∧H=[.blk hd [rB r.2.1] 4,.blk he [rv (.pointer (some ⟨ha,0,none⟩))] 63,.bld 66 5 ha w3b r.2.2,.blk hf (Ab c) 50]):=by
 refine enter (n:=23) Tryz.func64 Aa Tryz.ntmps64 Aa (λw Z=>?_);refine AR (l':=[(0,rS key),(1,Bl 4 (List.map Ab x)),(2,rv (.pointer (some ⟨hd,0,none⟩))),(3,rv (.pointer (some ⟨he,0,none⟩))),(4,rv (.pointer (some ⟨hf,0,none⟩)))]) (H':=[.blk hd [rB first] 4,.blk he [rv (.pointer (some ⟨ha,0,none⟩))] 63,.bld 66 5 ha hg l,.blk hf (Ab c) 50]) Aa Aa ?_;unfold Iu at h;refine Al (wv (r:=rB false) (Ae Aa) (As (Am (Al (wv (Aq (i:=0) PD Aa Aa Aa) (wv (BL Aa) (As (Au (b:=!first) Aa (λc1=>?_) (λc1=>?_)))))))))
 ·have h2:=AE c1 h;refine Ai (wv (Aq (i:=1) Gn Aa Aa Aa) ?_);obtain⟨g3,h4⟩:=Az h2;obtain⟨g5,h6⟩:=Az h4;refine BD (rs:=[rv (.pointer (some ⟨ha,0,none⟩)),rI .u8 44]) (Hin:=[.bld 66 5 ha hg l]) (Hr:=[.blk hd [rB first] 4,.blk he [rv (.pointer (some ⟨ha,0,none⟩))] 63,.blk hf (Ab c) 50]) JL Aa ((AC (i:=2) Aa).trans (Uv _ (Ur _))) (BZ ha hg l 44 g3 g5) Aa ?_;rintro _ _ ⟨v7,rfl,rfl⟩;obtain⟨r8,hz,h9⟩:=D2 h6;rw[← hz];refine Bv (B0 (i:=1) G9 Aa Aa (BV Aa) Aa Aa (cs':=[rB false]) Aa (H':=[.bld 66 5 ha v7 r8,.blk hd [rB false] 4,.blk he [rv (.pointer (some ⟨ha,0,none⟩))] 63,.blk hf (Ab c) 50]) Aa (As (Am (Al (wv (Ad Bm Aa D4 Aa Aa) (wv (Aq (i:=3) D5 Aa Aa Aa) (wv (Bh Aa Aa) (As (Au (b:=decide (c.fKind=6)) Aa (λhi=>?_) (λhi=>?_))))))))))
  ·have h0:=AE hi h9;refine Al (wv (Aq (i:=2) Gn Aa Aa Aa) (wm Aa ?_));obtain⟨hj,h7,h8⟩:=AH h0;refine Hk (Hr:=[.blk hd [rB false] 4,.blk he [rv (.pointer (some ⟨ha,0,none⟩))] 63,.blk hf (Ab c) 50]) Tryz.call61 (Kv F ha v7 r8 key hj h7) Aa (Ur _) Aa ?_;rintro _ _ ⟨hn,rfl,rfl⟩;refine As (Ai (wv (Aq (i:=2) Gn Aa Aa Aa) ?_));obtain⟨g17,hA⟩:=Az h8;obtain⟨g19,hB⟩:=Az hA;refine BD (rs:=[rv (.pointer (some ⟨ha,0,none⟩)),rI .u8 58]) (Hin:=[.bld 66 5 ha hn hj]) (Hr:=[.blk hd [rB false] 4,.blk he [rv (.pointer (some ⟨ha,0,none⟩))] 63,.blk hf (Ab c) 50]) JL Aa (Ur _) (BZ ha hn hj 58 g17 g19) Aa ?_;rintro _ _ ⟨v21,rfl,rfl⟩;obtain⟨hC,hD,hE⟩:=D2 hB;rw[← hD];refine Bv (wv (Aq (i:=2) Gn Aa Aa Aa) (wm Aa ?_));obtain⟨ho,hG,hH⟩:=AH hE;refine Hk (Hr:=[.blk hd [rB false] 4,.blk he [rv (.pointer (some ⟨ha,0,none⟩))] 63,.blk hf (Ab c) 50]) PM (hh ha v21 hC x ho hG) Aa (Ur _) Aa ?_;rintro _ _ ⟨hp,rfl,rfl⟩;refine Bv (wv (r:=rB true) (Ae Aa) (As (Ay (CH (H2:=[.blk hd [rB false] 4,.blk he [rv (.pointer (some ⟨ha,0,none⟩))] 63,.bld 66 5 ha hp ho,.blk hf (Ab c) 50]) ((AC (i:=1) Aa).trans (Uv _ ((AC (i:=1) Aa).trans (Uv _ (Ur _))))) ?_))));obtain rfl:=A0 hH;exact Ax (BG Ro (AM Aa)) (sC (sC (sC (sC sN)))) ⟨hp,Aa,Aa⟩
  ·have hI:=AF hi h9;refine Aw (AP (Al (wv (Aq (i:=2) Gn Aa Aa Aa) (wm Aa ?_))));obtain⟨hq,hJ,hK⟩:=AH hI;refine Hk (Hr:=[.blk hd [rB false] 4,.blk he [rv (.pointer (some ⟨ha,0,none⟩))] 63,.blk hf (Ab c) 50]) PM (hh ha v7 r8 x hq hJ) Aa (Ur _) Aa ?_;rintro _ _ ⟨hr,rfl,rfl⟩;refine Bv (wv (r:=rB true) (Ae Aa) (As (Ay (CH (H2:=[.blk hd [rB false] 4,.blk he [rv (.pointer (some ⟨ha,0,none⟩))] 63,.bld 66 5 ha hr hq,.blk hf (Ab c) 50]) ((AC (i:=1) Aa).trans (Uv _ ((AC (i:=1) Aa).trans (Uv _ (Ur _))))) ?_))));obtain rfl:=A0 hK;exact Ax (BG Ro (AM Aa)) (sC (sC (sC (sC sN)))) ⟨hr,Aa,Aa⟩
 ·have hs:=AF c1 h;refine Aw (AP (Al (B0 (i:=0) G9 Aa Aa (BV Aa) Aa Aa (cs':=[rB false]) Aa (H':=[.blk hd [rB false] 4,.blk he [rv (.pointer (some ⟨ha,0,none⟩))] 63,.bld 66 5 ha hg l,.blk hf (Ab c) 50]) Aa (As (Am (Al (wv (Ad Bm Aa D4 Aa Aa) (wv (Aq (i:=3) D5 Aa Aa Aa) (wv (Bh Aa Aa) (As (Au (b:=decide (c.fKind=6)) Aa (λhk=>?_) (λhk=>?_))))))))))))
  ·have hL:=AE hk hs;refine Al (wv (Aq (i:=1) Gn Aa Aa Aa) (wm Aa ?_));obtain⟨hl,hN,hO⟩:=AH hL;refine Hk (Hr:=[.blk hd [rB false] 4,.blk he [rv (.pointer (some ⟨ha,0,none⟩))] 63,.blk hf (Ab c) 50]) Tryz.call61 (Kv F ha hg l key hl hN) Aa ((AC (i:=2) Aa).trans (Uv _ (Ur _))) Aa ?_;rintro _ _ ⟨ht,rfl,rfl⟩;refine As (Ai (wv (Aq (i:=2) Gn Aa Aa Aa) ?_));obtain⟨hP,hQ⟩:=Az hO;obtain⟨hR,hS⟩:=Az hQ;refine BD (rs:=[rv (.pointer (some ⟨ha,0,none⟩)),rI .u8 58]) (Hin:=[.bld 66 5 ha ht hl]) (Hr:=[.blk hd [rB false] 4,.blk he [rv (.pointer (some ⟨ha,0,none⟩))] 63,.blk hf (Ab c) 50]) JL Aa (Ur _) (BZ ha ht hl 58 hP hR) Aa ?_;rintro _ _ ⟨hT,rfl,rfl⟩;obtain⟨hU,hV,hW⟩:=D2 hS;rw[← hV];refine Bv (wv (Aq (i:=2) Gn Aa Aa Aa) (wm Aa ?_));obtain⟨hu,hX,hY⟩:=AH hW;refine Hk (Hr:=[.blk hd [rB false] 4,.blk he [rv (.pointer (some ⟨ha,0,none⟩))] 63,.blk hf (Ab c) 50]) PM (hh ha hT hU x hu hX) Aa (Ur _) Aa ?_;rintro _ _ ⟨hw,rfl,rfl⟩;refine Bv (wv (r:=rB true) (Ae Aa) (As (Ay (CH (H2:=[.blk hd [rB false] 4,.blk he [rv (.pointer (some ⟨ha,0,none⟩))] 63,.bld 66 5 ha hw hu,.blk hf (Ab c) 50]) ((AC (i:=1) Aa).trans (Uv _ ((AC (i:=1) Aa).trans (Uv _ (Ur _))))) ?_))));obtain rfl:=A0 hY;exact Ax (BG Ro (AM Aa)) (sC (sC (sC (sC sN)))) ⟨hw,Aa,Aa⟩
  ·have hZ:=AF hk hs;refine Aw (AP (Al (wv (Aq (i:=1) Gn Aa Aa Aa) (wm Aa ?_))));obtain⟨hx,ga,gb⟩:=AH hZ;refine Hk (Hr:=[.blk hd [rB false] 4,.blk he [rv (.pointer (some ⟨ha,0,none⟩))] 63,.blk hf (Ab c) 50]) PM (hh ha hg l x hx ga) Aa ((AC (i:=2) Aa).trans (Uv _ (Ur _))) Aa ?_;rintro _ _ ⟨hy,rfl,rfl⟩;refine Bv (wv (r:=rB true) (Ae Aa) (As (Ay (CH (H2:=[.blk hd [rB false] 4,.blk he [rv (.pointer (some ⟨ha,0,none⟩))] 63,.bld 66 5 ha hy hx,.blk hf (Ab c) 50]) ((AC (i:=1) Aa).trans (Uv _ ((AC (i:=1) Aa).trans (Uv _ (Ur _))))) ?_))));obtain rfl:=A0 gb;exact Ax (BG Ro (AM Aa)) (sC (sC (sC (sC sN)))) ⟨hy,Aa,Aa⟩
theorem Nt (F:Nat)(hq:Ak→(List Ac)→Bool→Ak→Ac→Option (Bool×Bool×Ak))(h6:(∀(he:Nat) (hf:Nat) (ha:Nat) (hm:Value) (hg:Nat) (key:Ak) (x:(List Ac)) (first:Bool) (l:Ak) (c:Ac) (r:Bool×Bool×Ak),hq key x first l c=some r→Fn Tryz.prog GE 64 [rS key,Bl 4 (List.map Ab x),rv (.pointer (some ⟨he,0,none⟩)),rv (.pointer (some ⟨hf,0,none⟩)),rv (.pointer (some ⟨hg,0,none⟩))] [.blk he [rB first] 4,.blk hf [rv (.pointer (some ⟨ha,0,none⟩))] 63,.bld 66 5 ha hm l,.blk hg (Ab c) 50] (λR H=>∃w3b:Value,R=rB r.1∧H=[.blk he [rB r.2.1] 4,.blk hf [rv (.pointer (some ⟨ha,0,none⟩))] 63,.bld 66 5 ha w3b r.2.2,.blk hg (Ab c) 50])))(he:Nat)(hf:Nat)(ha:Nat)(hm:Value)(hg:Nat)(v:(List Ac))(first:Bool)(l:Ak)(c:Ac)(r:Bool×Ak)(h:Gp F hq v first l c=some r):Fn Tryz.prog GE 63 [Bl 4 (List.map Ab v),rv (.func (.func 64) #[] #[(.pointer (some ⟨he,0,none⟩)),(.pointer (some ⟨hf,0,none⟩)),(.pointer (some ⟨hg,0,none⟩))])] [.blk he [rB first] 4,.blk hf [rv (.pointer (some ⟨ha,0,none⟩))] 63,.bld 66 5 ha hm l,.blk hg (Ab c) 50] (λR H=>∃w1_1b:Value,R=rv (.tuple #[])∧H=[.blk he [rB r.1] 4,.blk hf [rv (.pointer (some ⟨ha,0,none⟩))] 63,.bld 66 5 ha w1_1b r.2,.blk hg (Ab c) 50]):=by
 refine enter (n:=52) Tryz.func63 Aa Tryz.ntmps63 Aa (λw Z=>?_);refine AR (l':=[(0,Bl 4 (List.map Ab v)),(1,rv (.func (.func 64) #[] #[(.pointer (some ⟨he,0,none⟩)),(.pointer (some ⟨hf,0,none⟩)),(.pointer (some ⟨hg,0,none⟩))]))]) (H':=[.blk he [rB first] 4,.blk hf [rv (.pointer (some ⟨ha,0,none⟩))] 63,.bld 66 5 ha hm l,.blk hg (Ab c) 50]) Aa Aa ?_;unfold Gp at h;refine Al (wv (r:=rI .i64 1) (Ae Aa) (Bv (wm Aa ?_)));obtain⟨g1,h2⟩:=Az h;refine wv (BH (enc:=Ab) (ys:=v) BN Cm Aa Aa g1) (wv (BF Bm Aa Cf Aa Aa) (wv (B7 CC Aa Aa) (wv (r:=rI .i64 0) (Ah Aa) (As (AJ ?_)))));obtain⟨hJ,hK,hu⟩:=AH h2;refine B2 (S:=Nat×(Int×Int×Bool×Ak)×(Value)) (V:=(Bool×Ak)×(Value)) 0 (λσ=>Cn (λσ=>CT F v c hq σ.1 σ.2.1 σ.2.2.1 σ.2.2.2) σ.1 σ.2.1=some hJ) (λσ=>[(0,Bl 4 (List.map Ab v)),(1,rv (.func (.func 64) #[] #[(.pointer (some ⟨he,0,none⟩)),(.pointer (some ⟨hf,0,none⟩)),(.pointer (some ⟨hg,0,none⟩))])),(4,rI .i64 σ.2.1.1),(12,rI .i64 ((At v 0).fN)),(13,rI .i64 σ.2.1.2.1)]) (λσ=>[.blk he [rB σ.2.1.2.2.1] 4,.blk hf [rv (.pointer (some ⟨ha,0,none⟩))] 63,.bld 66 5 ha σ.2.2 σ.2.1.2.2.2,.blk hg (Ab c) 50]) (λσ=>σ.1) (F,(1,0,first,l),hm) hK (AK.c5 Aa Aa Aa Aa Aa AK.nil) (sC (sC (sC (sC sN)))) (λσ=>ED σ.1.1 σ.1.2=some r) (λσ=>[]) (λσ=>[.blk he [rB σ.1.1] 4,.blk hf [rv (.pointer (some ⟨ha,0,none⟩))] 63,.bld 66 5 ha σ.2 σ.1.2,.blk hg (Ab c) 50]) ?_ ?_
 ·rintro⟨g6,⟨hd,hn,hj,hk⟩,hl⟩ hL;refine AR (l':=[(0,Bl 4 (List.map Ab v)),(1,rv (.func (.func 64) #[] #[(.pointer (some ⟨he,0,none⟩)),(.pointer (some ⟨hf,0,none⟩)),(.pointer (some ⟨hg,0,none⟩))])),(4,rI .i64 hd),(12,rI .i64 ((At v 0).fN)),(13,rI .i64 hn)]) (H':=[.blk he [rB hj] 4,.blk hf [rv (.pointer (some ⟨ha,0,none⟩))] 63,.bld 66 5 ha hl hk,.blk hg (Ab c) 50]) Aa Aa ?_;obtain⟨h7,rfl,hN,ho,hp⟩:=CM hL;replace ho:CT F v c hq hd hn hj hk=some hN:=ho;unfold CT at ho;refine Al (wv (C8 Aa Aa) (As (Am (Au (b:=decide (hn<((At v 0).fN))) Aa (λc175=>?_) (λc175=>?_)))))
  ·have h8:=AE c175 ho;refine Aw (AP (Am (AJ (Al (wv (r:=rS ([]:Ak)) (Ae Aa) (As (Am (Al (wm Aa (wv (BH (enc:=Ab) (ys:=v) BN Cm Aa Aa g1) (wv (BF Bm Aa D4 Aa Aa) (wv (B7 D5 Aa Aa) (wv (Bh Aa Aa) (As (Au (b:=decide (((At v 0).fKind)=6)) Aa (λhw=>?_) (λhw=>?_))))))))))))))))
   ·have hO:=AE hw h8;refine Al (wm Aa (wm Aa ?_));obtain⟨hP,hQ⟩:=Az hO;refine wv (BH (enc:=Ab) (ys:=v) BN Cm Aa Aa hP) (wv (BF Bm Aa BU Aa Aa) (wv (B7 Cg Aa Aa) (wa Aa (As (Ai (wm Aa ?_))))));obtain⟨hR,hS⟩:=Az hQ;refine wv (Bu Aa Aa hR) (wa Aa (Bv (wm Aa (wm Aa ?_))));obtain⟨hT,hU⟩:=Az hS;refine wv (r:=Bl 4 (List.map Ab (List.drop (Int.toNat (hd+1)) v))) (KH BN Cm Aa Aa hT) ?_;obtain⟨hh,hV,hW⟩:=AH hU;refine C9 Tryz.call49 (LI F (List.drop (Int.toNat (hd+1)) v) hh hV) Aa (wm Aa (wv (AD Aa Aa) (wv (AD Aa Aa) (wv (AD Aa Aa) (Ci (cs:=[rI .i64 0,rI .i64 0,rB false,rB false]) PF Aa Aa (λh9=>?_))))));refine wa Aa (Bg (i:=0) Hj Aa Aa Aa (BE.c Aa) Aa Aa (cs':=[rI .i64 hh.2.1.fDepth,rI .i64 hh.2.1.fBytes,rB hh.2.1.fOutside,rB hh.2.1.fLong]) Aa (H':=[.blk h9 (AN hh.2.1) 75,.blk he [rB hj] 4,.blk hf [rv (.pointer (some ⟨ha,0,none⟩))] 63,.bld 66 5 ha hl hk,.blk hg (Ab c) 50]) Aa (wa Aa (As (Am (Al (wm Aa (wm Aa (wm Aa (wm Aa (wm Aa (wm Aa ?_)))))))))));obtain⟨hx,hX⟩:=Az hW;refine wv (Bu Aa Aa hx) (wm Aa (wm Aa (wv (Bu Aa Aa hx) ?_)));obtain⟨hY,hZ⟩:=Az hX;obtain⟨ga,gb⟩:=Az hZ;refine wv (r:=Bl 4 (List.map Ab (List.take (Int.toNat ((hd+1)+hh.1)-Int.toNat (hd+1)) (List.drop (Int.toNat (hd+1)) v)))) (KG BN Cm Aa Aa Aa Aa hY ga) ?_;obtain⟨hr,gc,hA⟩:=AH gb;refine NT (rs:=[rS ((At v hd).fStr),Bl 4 (List.map Ab (List.take (Int.toNat ((hd+1)+hh.1)-Int.toNat (hd+1)) (List.drop (Int.toNat (hd+1)) v)))]) (Hin:=[.blk he [rB hj] 4,.blk hf [rv (.pointer (some ⟨ha,0,none⟩))] 63,.bld 66 5 ha hl hk,.blk hg (Ab c) 50]) (Hr:=[.blk h9 (AN hh.2.1) 75]) Tryz.call64 Aa Aa ((AC (i:=1) Aa).trans (Uv _ ((AC (i:=1) Aa).trans (Uv _ ((AC (i:=1) Aa).trans (Uv _ ((AC (i:=1) Aa).trans (Uv _ (Ur _))))))))) (h6 he hf ha hl hg ((At v hd).fStr) (List.take (Int.toNat ((hd+1)+hh.1)-Int.toNat (hd+1)) (List.drop (Int.toNat (hd+1)) v)) hj hk c hr gc) Aa ?_;rintro _ _ ⟨hB,rfl,rfl⟩;refine wv (BL Aa) (As (Au (b:=!hr.1) Aa (λhy=>?_) (λhy=>?_)))
    ·have gd:=AE hy hA;refine Ay (Af (A5 (Af (Af (Bf ?_)))));have ge:=B5 gd hp hu;refine A5 ?_;obtain rfl:=A0 ge;exact Ax (OR Tryz.results63) (sC (sC (sC (sC (sS sN))))) ⟨hB,Aa,Aa⟩
    ·have gf:=AF hy hA;refine Aw (AP (Ai (wm Aa (wm Aa (wv (Bu Aa Aa hx) (wa Aa (Aj (AG (AP (Ai ?_))))))))));obtain⟨gg,gh⟩:=Az gf;refine wv (Bu Aa Aa gg) (wm Aa (Aj ?_));have gi:=Bk gh hp;exact Ap (AI (h7,((hd+1)+hh.1,hn+1,hr.2.1,hr.2.2),hB) ⟨gi,U0 _⟩ (AK.c5 Aa Aa Aa Aa Aa AK.nil) (sC (sC (sC (sC (sS sN))))))
   ·have gj:=AF hw h8;refine Aw (AP (Al (wm Aa (wm Aa ?_))));obtain⟨gl,gm⟩:=Az gj;refine wv (r:=Bl 4 (List.map Ab (List.drop (Int.toNat hd) v))) (KH BN Cm Aa Aa gl) ?_;obtain⟨hi,gp,gq⟩:=AH gm;refine C9 Tryz.call49 (LI F (List.drop (Int.toNat hd) v) hi gp) Aa (wm Aa (wv (AD Aa Aa) (wv (AD Aa Aa) (wv (AD Aa Aa) (Ci (cs:=[rI .i64 0,rI .i64 0,rB false,rB false]) PF Aa Aa (λhC=>?_))))));refine wa Aa (Bg (i:=0) Hj Aa Aa Aa (BE.c Aa) Aa Aa (cs':=[rI .i64 hi.2.1.fDepth,rI .i64 hi.2.1.fBytes,rB hi.2.1.fOutside,rB hi.2.1.fLong]) Aa (H':=[.blk hC (AN hi.2.1) 75,.blk he [rB hj] 4,.blk hf [rv (.pointer (some ⟨ha,0,none⟩))] 63,.bld 66 5 ha hl hk,.blk hg (Ab c) 50]) Aa (wa Aa (As (Am (Al (wm Aa (wm Aa (wm Aa (wm Aa (wm Aa (wm Aa ?_)))))))))));obtain⟨hz,gr⟩:=Az gq;refine wv (Bu Aa Aa hz) (wm Aa (wm Aa (wv (Bu Aa Aa hz) ?_)));obtain⟨gs,gt⟩:=Az gr;obtain⟨gu,gv⟩:=Az gt;refine wv (r:=Bl 4 (List.map Ab (List.take (Int.toNat (hd+hi.1)-Int.toNat hd) (List.drop (Int.toNat hd) v)))) (KG BN Cm Aa Aa Aa Aa gs gu) ?_;obtain⟨hs,gw,hD⟩:=AH gv;refine NT (rs:=[rS ([]:Ak),Bl 4 (List.map Ab (List.take (Int.toNat (hd+hi.1)-Int.toNat hd) (List.drop (Int.toNat hd) v)))]) (Hin:=[.blk he [rB hj] 4,.blk hf [rv (.pointer (some ⟨ha,0,none⟩))] 63,.bld 66 5 ha hl hk,.blk hg (Ab c) 50]) (Hr:=[.blk hC (AN hi.2.1) 75]) Tryz.call64 Aa Aa ((AC (i:=1) Aa).trans (Uv _ ((AC (i:=1) Aa).trans (Uv _ ((AC (i:=1) Aa).trans (Uv _ ((AC (i:=1) Aa).trans (Uv _ (Ur _))))))))) (h6 he hf ha hl hg ([]:Ak) (List.take (Int.toNat (hd+hi.1)-Int.toNat hd) (List.drop (Int.toNat hd) v)) hj hk c hs gw) Aa ?_;rintro _ _ ⟨hE,rfl,rfl⟩;refine wv (BL Aa) (As (Au (b:=!hs.1) Aa (λh0=>?_) (λh0=>?_)))
    ·have gx:=AE h0 hD;refine Ay (Af (A5 (Af (Af (Bf ?_)))));have gy:=B5 gx hp hu;refine A5 ?_;obtain rfl:=A0 gy;exact Ax (OR Tryz.results63) (sC (sC (sC (sC (sS sN))))) ⟨hE,Aa,Aa⟩
    ·have gz:=AF h0 hD;refine Aw (AP (Ai (wm Aa (wm Aa (wv (Bu Aa Aa hz) (wa Aa (Aj (AG (AP (Ai ?_))))))))));obtain⟨g0,g2⟩:=Az gz;refine wv (Bu Aa Aa g0) (wm Aa (Aj ?_));have g3:=Bk g2 hp;exact Ap (AI (h7,(hd+hi.1,hn+1,hs.2.1,hs.2.2),hE) ⟨g3,U0 _⟩ (AK.c5 Aa Aa Aa Aa Aa AK.nil) (sC (sC (sC (sC (sS sN))))))
  ·have g4:=AF c175 ho;refine B4 (A4 ?_);have g5:=Cv g4 hp hu;exact A4 (Bt (AI ((hj,hk),hl) g5 AK.nil (sC (sC (sC (sC sN))))))
 ·rintro⟨⟨hG,hH⟩,hI⟩ ht;refine Dd (l':=[]) (H':=[.blk he [rB hG] 4,.blk hf [rv (.pointer (some ⟨ha,0,none⟩))] 63,.bld 66 5 ha hI hH,.blk hg (Ab c) 50]) Aa Aa ?_;replace ht:ED hG hH=some r:=ht;unfold ED at ht;refine Bi ?_;obtain rfl:=A0 ht;exact EB (OR Tryz.results63) (sC (sC (sC (sC sN)))) ⟨hI,Aa,Aa⟩
theorem EC:∀F:Nat,(∀(ha:Nat) (hd:Value) (l:Ak) (v:(List Ac)) (r:Ak),Ee F l v=some r→Fn Tryz.prog GE 42 [rv (.pointer (some ⟨ha,0,none⟩)),Bl 4 (List.map Ab v)] [.bld 66 5 ha hd l] (λR H=>∃w0b:Value,R=rv (.tuple #[])∧H=[.bld 66 5 ha w0b r]))∧(∀(he:Nat) (hf:Nat) (ha:Nat) (hd:Value) (hg:Nat) (key:Ak) (x:(List Ac)) (first:Bool) (l:Ak) (c:Ac) (r:Bool×Bool×Ak),DF F key x first l c=some r→Fn Tryz.prog GE 64 [rS key,Bl 4 (List.map Ab x),rv (.pointer (some ⟨he,0,none⟩)),rv (.pointer (some ⟨hf,0,none⟩)),rv (.pointer (some ⟨hg,0,none⟩))] [.blk he [rB first] 4,.blk hf [rv (.pointer (some ⟨ha,0,none⟩))] 63,.bld 66 5 ha hd l,.blk hg (Ab c) 50] (λR H=>∃w3b:Value,R=rB r.1∧H=[.blk he [rB r.2.1] 4,.blk hf [rv (.pointer (some ⟨ha,0,none⟩))] 63,.bld 66 5 ha w3b r.2.2,.blk hg (Ab c) 50]))∧(∀(he:Nat) (hf:Nat) (ha:Nat) (hd:Value) (hg:Nat) (v:(List Ac)) (first:Bool) (l:Ak) (c:Ac) (r:Bool×Ak),Ez F v first l c=some r→Fn Tryz.prog GE 63 [Bl 4 (List.map Ab v),rv (.func (.func 64) #[] #[(.pointer (some ⟨he,0,none⟩)),(.pointer (some ⟨hf,0,none⟩)),(.pointer (some ⟨hg,0,none⟩))])] [.blk he [rB first] 4,.blk hf [rv (.pointer (some ⟨ha,0,none⟩))] 63,.bld 66 5 ha hd l,.blk hg (Ab c) 50] (λR H=>∃w1_1b:Value,R=rv (.tuple #[])∧H=[.blk he [rB r.1] 4,.blk hf [rv (.pointer (some ⟨ha,0,none⟩))] 63,.bld 66 5 ha w1_1b r.2,.blk hg (Ab c) 50]))
  | 0=>⟨(λ_ _ _ _ _ h=>by simp[Ee] at h),(λ_ _ _ _ _ _ _ _ _ _ _ h=>by simp[DF] at h),(λ_ _ _ _ _ _ _ _ _ _ h=>by simp[Ez] at h)⟩
  | nn+1=>⟨(λha hd l v r h=>OF nn (DF nn) (Ez nn) (EC nn).2.1 (EC nn).2.2 ha hd l v r (by rw[Ee] at h;exact h)),(λhe hf ha hd hg key x first l c r h=>Nu nn (Ee nn) (EC nn).1 he hf ha hd hg key x first l c r (by rw[DF] at h;exact h)),(λhe hf ha hd hg v first l c r h=>Nt nn (DF nn) (EC nn).2.1 he hf ha hd hg v first l c r (by rw[Ez] at h;exact h))⟩
theorem PU (F:Nat)(ha:Nat)(hd:Value)(l:Ak)(v:(List Ac))(r:Ak)(h:Ee F l v=some r):Fn Tryz.prog GE 42 [rv (.pointer (some ⟨ha,0,none⟩)),Bl 4 (List.map Ab v)] [.bld 66 5 ha hd l] (λR H=>∃w0b:Value,R=rv (.tuple #[])∧H=[.bld 66 5 ha w0b r]):=(EC F).1 ha hd l v r h
theorem OJ (F:Nat)(v:(List Ac))(r:Ak×Int)(h:I1 F v=some r):Fn Tryz.prog GE 19 [Bl 4 (List.map Ab v)] [] (λR H=>R=CV [rS r.1,rI .i64 r.2]∧H=[]):=by
 refine enter (n:=14) Tryz.func19 Aa Tryz.ntmps19 Aa (λw Z=>?_);refine AR (l':=[(0,Bl 4 (List.map Ab v))]) (H':=[]) Aa Aa ?_;unfold I1 at h;refine Al (wv (r:=rS ([]:Ak)) (Ae Aa) (wv (r:=rI .i64 0) (Ae Aa) (As (Am (Al (wm Aa ?_))))));obtain⟨r1,e3,h2⟩:=AH h;refine C9 Tryz.call30 (K2 F v r1 e3) Aa (wa Aa (Bv (wm Aa (wv (DB Aa Aa) (As (Au (b:=!decide (r1=0)) Aa (λc4=>?_) (λc4=>?_)))))))
 ·have h5:=AE c4 h2;refine Al (wm Aa (wv (r:=rS ([]:Ak)) (Ae Aa) (wa Aa (As (Ay (Af ?_))))));obtain rfl:=A0 h5;exact Ax (El Tryz.results19 (AM Aa) (AM Aa)) sN ⟨Aa,Aa⟩
 ·have h6:=AF c4 h2;refine Aw (AP (Al (Ci (cs:=[rv (.pointer none),rv (.slice none 0 0)]) Tryz.zeroValue66 Aa Aa (λb7=>?_))));refine Bv (wm Aa (WL.tobld (te:=5) (i:=0) Aa ?_));obtain⟨r8,hd,h9⟩:=AH h6;refine Hk (Hr:=[]) PM (PU F b7 (.slice none 0 0) ([]:Ak) v r8 hd) Aa (Ur _) Aa ?_;rintro _ _ ⟨ha,rfl,rfl⟩;refine Bv ?_;obtain⟨he,hf⟩:=Az h9;refine BD (rs:=[rv (.pointer (some ⟨b7,0,none⟩))]) (Hin:=[.bld 66 5 b7 ha r8]) (Hr:=[]) Tryz.call43 Aa (Ur _) (P7 b7 ha r8  he) Aa ?_;rintro _ _ ⟨rfl,rfl⟩;refine wa Aa (wv (r:=rI .i64 0) (Ae Aa) (As (Ay ?_)));obtain rfl:=A0 hf;exact Ax (El Tryz.results19 (AM Aa) (AM Aa)) sN ⟨Aa,Aa⟩
end Go.Proofs.YtailcjmjkmjelaaGreatDoor.Q
namespace Go.Proofs.YtailcjmjkmjelaaGreatDoor
open Go
set_option linter.unusedVariables false
structure Av where
 fS:Ak
 fAt:Int
 fCells:(List Ac)
 fGreat:Bool
 deriving DecidableEq,Inhabited
def Hu (s:Ak)(p:Ak):Option (Bool):=
 AW (imp (decide ((p.length:Int)≤(s.length:Int))) (Hf (p.length:Int) (s.length:Int)))<|some ((decide ((p.length:Int)≤(s.length:Int)))&&(decide ((List.take (Int.toNat (p.length:Int)) s)=p)))
def HH (s:Ak)(p:Ak):Option (Bool):=
 B3 (Hu s p) λr1=>some r1
def Em (q:Av)(s:Ak):Option (Bool×Av):=
 AW (Hf q.fAt (q.fS.length:Int))<|B3 (HH (List.drop (Int.toNat q.fAt) q.fS) s) λr3=>B1 (!r3) (some (false,q)) (AW (B6 .i64 (q.fAt+(s.length:Int)))<|some (true,(Av.mk q.fS (q.fAt+(s.length:Int)) q.fCells q.fGreat)))
def Hq (ha:(List Int))(hd:Int)(he:Int):Option (Stp ((List Int)×Int) (Out (Ak×Bool×Av) (Int))):=
 AW (D1 1 (ha.length+([hd]:List Int).length))<|some (.next (ha++([hd]:List Int),he))
def Ix (r1:Bool×Av)(hd:(List Int))(ha:Int):Option (Stp ((List Int)×Int) (Out (Ak×Bool×Av) (Int))):=
 B1 (decide (ha<(r1.2.fS.length:Int))) (AW (Da ha (r1.2.fS.length:Int))<|AW (B6 .i64 (ha+1))<|B1 (decide ((AY r1.2.fS ha)=34)) (some (.out (.ret (Li hd,true,(Av.mk r1.2.fS (ha+1) r1.2.fCells r1.2.fGreat))))) (B1 (((decide ((AY r1.2.fS ha)<32))||(decide (126<(AY r1.2.fS ha))))) (some (.out (.ret (([]:Ak),false,(Av.mk r1.2.fS (ha+1) r1.2.fCells r1.2.fGreat))))) (B1 (decide ((AY r1.2.fS ha)=92)) (AW (imp (!(decide ((r1.2.fS.length:Int)≤(ha+1)))) (Da (ha+1) (r1.2.fS.length:Int)))<|B1 (((decide ((r1.2.fS.length:Int)≤(ha+1)))||((!decide ((AY r1.2.fS (ha+1))=34))&&(!decide ((AY r1.2.fS (ha+1))=92))))) (some (.out (.ret (([]:Ak),false,(Av.mk r1.2.fS (ha+1) r1.2.fCells r1.2.fGreat))))) (AW (Da (ha+1) (r1.2.fS.length:Int))<|AW (B6 .i64 ((ha+1)+1))<|Hq hd (AY r1.2.fS (ha+1)) ((ha+1)+1))) (Hq hd (AY r1.2.fS ha) (ha+1))))) (some (.out (.go ha)))
def Iw (r1:Bool×Av)(ha:Int):Option (Ak×Bool×Av):=
 some (([]:Ak),false,(Av.mk r1.2.fS ha r1.2.fCells r1.2.fGreat))
def NV (F:Nat)(q:Av):Option (Ak×Bool×Av):=
 B3 (Em q ([34]:Ak)) λr1=>B1 (!r1.1) (some (([]:Ak),false,r1.2)) (B3 (Cn (λσ=>Ix r1 σ.1 σ.2) F (([]:List Int),r1.2.fAt)) (BY λν=>Iw r1 ν))
def Iz (r1:Bool×Av)(ha:Int):Option (Stp (Int) (Out (Bool×Av) (Int))):=
 AW (imp (decide (ha<(r1.2.fS.length:Int))) (Da ha (r1.2.fS.length:Int)))<|B1 (((decide (ha<(r1.2.fS.length:Int)))&&((decide (48≤(AY r1.2.fS ha)))&&(decide ((AY r1.2.fS ha)≤57))))) (AW (B6 .i64 (ha+1))<|some (.next (ha+1))) (some (.out (.go ha)))
def Iy (q:Av)(r1:Bool×Av)(ha:Int):Option (Bool×Av):=
 AW (Hf q.fAt ha)<|AW (Hf ha (r1.2.fS.length:Int))<|AW (D1 1 (List.take (Int.toNat ha-Int.toNat q.fAt) (List.drop (Int.toNat q.fAt) r1.2.fS)).length)<|B1 (((decide ((BK (List.take (Int.toNat ha-Int.toNat q.fAt) (List.drop (Int.toNat q.fAt) r1.2.fS)))=1))||(decide (r1.2.fAt=ha)))) (some (false,(Av.mk r1.2.fS ha r1.2.fCells r1.2.fGreat))) (AW (D1 40 (r1.2.fCells.length+([(Ac.mk 3 (Bs (List.take (Int.toNat ha-Int.toNat q.fAt) (List.drop (Int.toNat q.fAt) r1.2.fS))) ([]:Ak) 0)]:List Ac).length))<|some (true,(Av.mk r1.2.fS ha (r1.2.fCells++([(Ac.mk 3 (Bs (List.take (Int.toNat ha-Int.toNat q.fAt) (List.drop (Int.toNat q.fAt) r1.2.fS))) ([]:Ak) 0)]:List Ac)) (r1.2.fGreat||(!decide ((BK (List.take (Int.toNat ha-Int.toNat q.fAt) (List.drop (Int.toNat q.fAt) r1.2.fS)))=0))))))
def PV (F:Nat)(q:Av):Option (Bool×Av):=
 B3 (Em q ([45]:Ak)) λr1=>B3 (Cn (λσ=>Iz r1 σ) F r1.2.fAt) (BY λν=>Iy q r1 ν)
def Dj (ha:Ak)(hd:Int)(he:(List Ac))(hf:Bool):Option (Bool×Av):=
 some (true,(Av.mk ha hd he hf))
def Kt (F:Nat)(q:Av):Option (Bool×Av):=
 B3 (Em q ([110,117,108,108]:Ak)) λhe=>B1 (he.1) (AW (D1 40 (he.2.fCells.length+([(Ac.mk 1 0 ([]:Ak) 0)]:List Ac).length))<|Dj he.2.fS he.2.fAt (he.2.fCells++([(Ac.mk 1 0 ([]:Ak) 0)]:List Ac)) he.2.fGreat) (B3 (Em he.2 ([116,114,117,101]:Ak)) λhf=>B1 (hf.1) (AW (D1 40 (hf.2.fCells.length+([(Ac.mk 2 1 ([]:Ak) 0)]:List Ac).length))<|Dj hf.2.fS hf.2.fAt (hf.2.fCells++([(Ac.mk 2 1 ([]:Ak) 0)]:List Ac)) hf.2.fGreat) (B3 (Em hf.2 ([102,97,108,115,101]:Ak)) λha=>B1 (ha.1) (AW (D1 40 (ha.2.fCells.length+([(Ac.mk 2 0 ([]:Ak) 0)]:List Ac).length))<|Dj ha.2.fS ha.2.fAt (ha.2.fCells++([(Ac.mk 2 0 ([]:Ak) 0)]:List Ac)) ha.2.fGreat) (AW (Hf ha.2.fAt (ha.2.fS.length:Int))<|B3 (HH (List.drop (Int.toNat ha.2.fAt) ha.2.fS) ([34]:Ak)) λhh=>B1 (hh) (B3 (NV F ha.2) λhd=>B1 (!hd.2.1) (some (false,hd.2.2)) (AW (D1 40 (hd.2.2.fCells.length+([(Ac.mk 4 0 hd.1 0)]:List Ac).length))<|Dj hd.2.2.fS hd.2.2.fAt (hd.2.2.fCells++([(Ac.mk 4 0 hd.1 0)]:List Ac)) hd.2.2.fGreat)) (B3 (PV F ha.2) λhg=>some (hg.1,hg.2)))))
def GF (hh:Av→Option (Bool×Av))(he:(List Ac))(hf:Int)(hi:Ak)(hj:Int)(hk:(List Ac))(hl:Bool):Option (Stp (Int×Ak×Int×(List Ac)×Bool) (Out (Bool×Av) (Unit))):=
 B3 (hh (Av.mk hi hj hk hl)) λha=>B1 (!ha.1) (some (.out (.ret (false,ha.2)))) (AW (Da (he.length:Int) (ha.2.fCells.length:Int))<|IX (List.set ha.2.fCells (Int.toNat (he.length:Int)) (Ac.mk ((At ha.2.fCells (he.length:Int)).fKind) ((At ha.2.fCells (he.length:Int)).fInt) ((At ha.2.fCells (he.length:Int)).fStr) hf)) λhm=>B3 (Em (Av.mk ha.2.fS ha.2.fAt hm ha.2.fGreat) ([93]:Ak)) λhg=>B1 (hg.1) (some (.out (.ret (true,hg.2)))) (B3 (Em hg.2 ([44]:Ak)) λhd=>B1 (!hd.1) (some (.out (.ret (false,hd.2)))) (AW (B6 .i64 (hf+1))<|some (.next (hf+1,hd.2.fS,hd.2.fAt,hd.2.fCells,hd.2.fGreat)))))
def Ks :Option (Bool×Av):=
 none
def DI (hm:Av→Option (Bool×Av))(he:(List Ac))(hf:Int)(hg:Ak×Bool×Av)(hp:Bool)(hq:Bool)(hn:Bool)(hj:Ak)(hk:Int)(hh:(List Ac))(hl:Bool):Option (Stp (Ak×Int×Ak×Int×(List Ac)×Bool) (Out (Bool×Av) (Unit))):=
 B1 (hn) (some (.out (.ret (false,(Av.mk hj hk hh hl))))) (AW (D1 40 (hh.length+([(Ac.mk 4 0 hg.1 0)]:List Ac).length))<|B3 (hm (Av.mk hj hk (hh++([(Ac.mk 4 0 hg.1 0)]:List Ac)) hl)) λha=>B1 (!ha.1) (some (.out (.ret (false,ha.2)))) (AW (Da (he.length:Int) (ha.2.fCells.length:Int))<|IX (List.set ha.2.fCells (Int.toNat (he.length:Int)) (Ac.mk ((At ha.2.fCells (he.length:Int)).fKind) ((At ha.2.fCells (he.length:Int)).fInt) ((At ha.2.fCells (he.length:Int)).fStr) hf)) λho=>B3 (Em (Av.mk ha.2.fS ha.2.fAt ho ha.2.fGreat) ([125]:Ak)) λhi=>B1 (hi.1) (some (.out (.ret (true,hi.2)))) (B3 (Em hi.2 ([44]:Ak)) λhd=>B1 (!hd.1) (some (.out (.ret (false,hd.2)))) (AW (B6 .i64 (hf+1))<|some (.next (hg.1,hf+1,hd.2.fS,hd.2.fAt,hd.2.fCells,hd.2.fGreat))))))
def GD (F:Nat)(hh:Av→Option (Bool×Av))(hi:(List Ac))(hd:Ak)(he:Int)(hj:Ak)(hk:Int)(hl:(List Ac))(hm:Bool):Option (Stp (Ak×Int×Ak×Int×(List Ac)×Bool) (Out (Bool×Av) (Unit))):=
 B3 (NV F (Av.mk hj hk hl hm)) λha=>B1 (!ha.2.1) (DI hh hi he ha true true true ha.2.2.fS ha.2.2.fAt ha.2.2.fCells ha.2.2.fGreat) (B1 (decide (1<he)) (B1 (C2 ha.1 hd||decide (ha.1=hd)) (DI hh hi he ha (C2 ha.1 hd||decide (ha.1=hd)) (C2 ha.1 hd||decide (ha.1=hd)) true ha.2.2.fS ha.2.2.fAt ha.2.2.fCells ha.2.2.fGreat) (B3 (Em ha.2.2 ([58]:Ak)) λhf=>DI hh hi he ha (C2 ha.1 hd||decide (ha.1=hd)) (C2 ha.1 hd||decide (ha.1=hd)) (!hf.1) hf.2.fS hf.2.fAt hf.2.fCells hf.2.fGreat)) (B3 (Em ha.2.2 ([58]:Ak)) λhg=>DI hh hi he ha false false (!hg.1) hg.2.fS hg.2.fAt hg.2.fCells hg.2.fGreat))
def Kr :Option (Bool×Av):=
 none
def EE (F:Nat)(hi:Av→Option (Bool×Av))(r1:Bool×Av)(hk:Bool)(hf:Ak)(hg:Int)(ha:(List Ac))(hh:Bool):Option (Bool×Av):=
 B1 (hk) (B3 (Kt F (Av.mk hf hg ha hh)) λhj=>some (hj.1,hj.2)) (B1 (r1.1) (AW (D1 40 (ha.length+([(Ac.mk 5 0 ([]:Ak) 0)]:List Ac).length))<|B3 (Em (Av.mk hf hg (ha++([(Ac.mk 5 0 ([]:Ak) 0)]:List Ac)) hh) ([93]:Ak)) λhd=>B1 (hd.1) (some (true,hd.2)) (B3 (Cn (λσ=>GF hi ha σ.1 σ.2.1 σ.2.2.1 σ.2.2.2.1 σ.2.2.2.2) F (1,hd.2.fS,hd.2.fAt,hd.2.fCells,hd.2.fGreat)) (BY λν=>Ks ))) (AW (D1 40 (ha.length+([(Ac.mk 6 0 ([]:Ak) 0)]:List Ac).length))<|B3 (Em (Av.mk hf hg (ha++([(Ac.mk 6 0 ([]:Ak) 0)]:List Ac)) hh) ([125]:Ak)) λhe=>B1 (he.1) (some (true,he.2)) (B3 (Cn (λσ=>GD F hi ha σ.1 σ.2.1 σ.2.2.1 σ.2.2.2.1 σ.2.2.2.2.1 σ.2.2.2.2.2) F (([]:Ak),1,he.2.fS,he.2.fAt,he.2.fCells,he.2.fGreat)) (BY λν=>Kr ))))
def Kq (F:Nat)(hd:Av→Option (Bool×Av))(q:Av):Option (Bool×Av):=
 B3 (Em q ([91]:Ak)) λr1=>B1 (!r1.1) (B3 (Em r1.2 ([123]:Ak)) λha=>EE F hd r1 (!ha.1) ha.2.fS ha.2.fAt ha.2.fCells ha.2.fGreat) (EE F hd r1 false r1.2.fS r1.2.fAt r1.2.fCells r1.2.fGreat)
def GG:Nat→Av→Option (Bool×Av)
 | 0,_=>none
 | nn+1,q=>Kq nn (GG nn) q
def EF (F:Nat)(hd:Bool)(hg:Ak)(hh:Int)(he:(List Ac))(hf:Bool):Option ((List Ac)×Int):=
 B1 (hd) (some (([]:List Ac),1)) (B1 (hf) (some (([]:List Ac),2)) (B3 (K1 F he) λha=>some (ha.1,ha.2)))
def LJ (F:Nat)(s:Ak):Option ((List Ac)×Int):=
 B1 (decide (4000<(s.length:Int))) (some (([]:List Ac),3)) (B3 (GG F (Av.mk s 0 ([]:List Ac) false)) λha=>B1 (!ha.1) (EF F true ha.2.fS ha.2.fAt ha.2.fCells ha.2.fGreat) (EF F (!decide (ha.2.fAt=(s.length:Int))) ha.2.fS ha.2.fAt ha.2.fCells ha.2.fGreat))
end Go.Proofs.YtailcjmjkmjelaaGreatDoor
namespace Go.Proofs.YtailcjmjkmjelaaGreatDoor.Q
open Go Go.RowKit
set_option linter.unusedVariables false
set_option linter.unusedSimpArgs false
set_option maxRecDepth 100000
set_option maxHeartbeats 4000000
theorem GQ:∃inf,Tryz.prog.info? 50=some inf∧inf.zero=some (.agg #[(.int .i64 0),(.int .i64 0),(.string ⟨#[]⟩),(.int .i64 0)])∧inf.size=4∧inf.bytes=40:=by
  have key:(Tryz.prog.info? 50).map (λi=>(i.zero,i.size,i.bytes))=some (some (.agg #[(.int .i64 0),(.int .i64 0),(.string ⟨#[]⟩),(.int .i64 0)]),4,40):=by kernel_rfl
  obtain⟨inf,h1,h2⟩:=Option.map_eq_some_iff.1 key;simp only[Prod.mk.injEq] at h2;exact⟨inf,h1,h2.1,h2.2.1,h2.2.2⟩
theorem Mg (parts:List (Nat×Value)):Tryz.prog.built 50 parts=Instr.fill (λi=>(#[(0,1),(1,1),(2,1),(3,1)]:Array (Nat×Nat))[i]?) #[(.int .i64 0),(.int .i64 0),(.string ⟨#[]⟩),(.int .i64 0)] parts:=by kernel_rfl
theorem Ep {n:Nat}{c:Cx}{l:Fr}{H:List Ent}{d:Option Nat}{ty:TypeId}{pos:String}{af:Array Edge}{g:Option (Nat×Bool)}{x0:Operand}{r0:Rp}(h0:ev l x0=some r0)(u0:r0.one=true):Bd Tryz.prog n c l H { dst:=d,op:=.build 50 #[(0,x0)],type:=ty,pos:=pos,after:=af,guard:=g } (Bo [r0,rI .i64 0,rS ([]:Ak),rI .i64 0]):=λa w Z ha _=>by
  have p0:=ha.ev h0;have c0:=Bw (r0.hone u0 Z _ p0);have hb:Tryz.prog.built 50 [(0,a.eval x0)]=some #[a.eval x0,(.int .i64 0),(.string ⟨#[]⟩),(.int .i64 0)]:=by
    rw[Mg];generalize a.eval x0=v0 at *;simp[Instr.fill,c0]
  refine⟨.agg #[a.eval x0,(.int .i64 0),(.string ⟨#[]⟩),(.int .i64 0)],⟨[a.eval x0,(.int .i64 0),(.string ⟨#[]⟩),(.int .i64 0)],rfl,p0,rfl,rfl,rfl,trivial⟩,?_⟩;have:=run_build w 50 #[(0,a.eval x0)] _ (by simpa using hb);simp[execOp,this]
theorem HV {n:Nat}{c:Cx}{l:Fr}{H:List Ent}{d:Option Nat}{ty:TypeId}{pos:String}{af:Array Edge}{g:Option (Nat×Bool)}{x0:Operand}{r0:Rp}(h0:ev l x0=some r0)(u0:r0.one=true){x1:Operand}{r1:Rp}(h1:ev l x1=some r1)(u1:r1.one=true):Bd Tryz.prog n c l H { dst:=d,op:=.build 50 #[(0,x0),(1,x1)],type:=ty,pos:=pos,after:=af,guard:=g } (Bo [r0,r1,rS ([]:Ak),rI .i64 0]):=λa w Z ha _=>by
  have p0:=ha.ev h0;have c0:=Bw (r0.hone u0 Z _ p0);have p1:=ha.ev h1;have c1:=Bw (r1.hone u1 Z _ p1);have hb:Tryz.prog.built 50 [(0,a.eval x0),(1,a.eval x1)]=some #[a.eval x0,a.eval x1,(.string ⟨#[]⟩),(.int .i64 0)]:=by
    rw[Mg];generalize a.eval x0=v0 at *;generalize a.eval x1=v1 at *;simp[Instr.fill,c0,c1]
  refine⟨.agg #[a.eval x0,a.eval x1,(.string ⟨#[]⟩),(.int .i64 0)],⟨[a.eval x0,a.eval x1,(.string ⟨#[]⟩),(.int .i64 0)],rfl,p0,p1,rfl,rfl,trivial⟩,?_⟩;have:=run_build w 50 #[(0,a.eval x0),(1,a.eval x1)] _ (by simpa using hb);simp[execOp,this]
theorem HU {n:Nat}{c:Cx}{l:Fr}{H:List Ent}{d:Option Nat}{ty:TypeId}{pos:String}{af:Array Edge}{g:Option (Nat×Bool)}{x0:Operand}{r0:Rp}(h0:ev l x0=some r0)(u0:r0.one=true){x2:Operand}{r2:Rp}(h2:ev l x2=some r2)(u2:r2.one=true):Bd Tryz.prog n c l H { dst:=d,op:=.build 50 #[(0,x0),(2,x2)],type:=ty,pos:=pos,after:=af,guard:=g } (Bo [r0,rI .i64 0,r2,rI .i64 0]):=λa w Z ha _=>by
  have p0:=ha.ev h0;have c0:=Bw (r0.hone u0 Z _ p0);have p2:=ha.ev h2;have c2:=Bw (r2.hone u2 Z _ p2);have hb:Tryz.prog.built 50 [(0,a.eval x0),(2,a.eval x2)]=some #[a.eval x0,(.int .i64 0),a.eval x2,(.int .i64 0)]:=by
    rw[Mg];generalize a.eval x0=v0 at *;generalize a.eval x2=v2 at *;simp[Instr.fill,c0,c2]
  refine⟨.agg #[a.eval x0,(.int .i64 0),a.eval x2,(.int .i64 0)],⟨[a.eval x0,(.int .i64 0),a.eval x2,(.int .i64 0)],rfl,p0,rfl,p2,rfl,trivial⟩,?_⟩;have:=run_build w 50 #[(0,a.eval x0),(2,a.eval x2)] _ (by simpa using hb);simp[execOp,this]
theorem Sg (parts:List (Nat×Value)):Tryz.prog.built 87 parts=Instr.fill (λi=>(#[(0,1),(1,1),(2,1),(3,1)]:Array (Nat×Nat))[i]?) #[(.string ⟨#[]⟩),(.int .i64 0),((.slice none 0 0)),(.bool false)] parts:=by kernel_rfl
theorem MJ {n:Nat}{c:Cx}{l:Fr}{H:List Ent}{d:Option Nat}{ty:TypeId}{pos:String}{af:Array Edge}{g:Option (Nat×Bool)}{x0:Operand}{r0:Rp}(h0:ev l x0=some r0)(u0:r0.one=true):Bd Tryz.prog n c l H { dst:=d,op:=.build 87 #[(0,x0)],type:=ty,pos:=pos,after:=af,guard:=g } (Bo [r0,rI .i64 0,rv (.slice none 0 0),rB false]):=λa w Z ha _=>by
  have p0:=ha.ev h0;have c0:=Bw (r0.hone u0 Z _ p0);have hb:Tryz.prog.built 87 [(0,a.eval x0)]=some #[a.eval x0,(.int .i64 0),((.slice none 0 0)),(.bool false)]:=by
    rw[Sg];generalize a.eval x0=v0 at *;simp[Instr.fill,c0]
  refine⟨.agg #[a.eval x0,(.int .i64 0),((.slice none 0 0)),(.bool false)],⟨[a.eval x0,(.int .i64 0),((.slice none 0 0)),(.bool false)],rfl,p0,rfl,rfl,rfl,trivial⟩,?_⟩;have:=run_build w 87 #[(0,a.eval x0)] _ (by simpa using hb);simp[execOp,this]
theorem Lh (s:Ak)(p:Ak)(r:Bool)(h:Hu s p=some r):Fn Tryz.prog GE 100 [rS s,rS p] [] (λR H=>R=rB r∧H=[]):=by
 refine enter (n:=18) Tryz.func100 Aa Tryz.ntmps100 Aa (λw Z=>?_);refine AR (l':=[(0,rS s),(1,rS p)]) (H':=[]) Aa Aa ?_;unfold Hu at h;refine Al (wv (r:=rB false) (Ae Aa) (As ?_));obtain⟨g1,h2⟩:=Az h;refine AB [(4,rB ((decide ((p.length:Int)≤(s.length:Int)))&&(decide ((List.take (Int.toNat (p.length:Int)) s)=p))))] [] ?_ ?_
 ·refine Ai (wm Aa (wv (AZ Ce Aa) (wm Aa (wv (AZ Ce Aa) (wv (ER Aa Aa) (wm Aa (A7 (decide ((p.length:Int)≤(s.length:Int))) (λc3=>?_) (λc3=>?_))))))))
  ·refine wo c3 (wm Aa (wo c3 (wm Aa (wo c3 (wv (AZ Ce Aa) (wo c3 (wv (EI Ce Aa Aa (Ch g1 c3)) (wo c3 (wm Aa (wo c3 (wv (Co Aa Aa) (EA Aa c3 Aa (wa Aa (Aj ?_))))))))))))));exact BO c3
  ·refine wf c3 (wf c3 (wf c3 (wf c3 (wf c3 (wf c3 (wv (r:=rB false) (Ar (b:=decide ((p.length:Int)≤(s.length:Int))) Aa c3 Aa) (wa Aa (Aj ?_))))))));exact BO c3
 refine Ay ?_;obtain rfl:=A0 h2;exact Ax (BG Tryz.results100 (AM Aa)) sN ⟨Aa,Aa⟩
theorem JE (s:Ak)(p:Ak)(r:Bool)(h:HH s p=some r):Fn Tryz.prog GE 70 [rS s,rS p] [] (λR H=>R=rB r∧H=[]):=by
 refine enter (n:=8) Tryz.func70 Aa Tryz.ntmps70 Aa (λw Z=>?_);refine AR (l':=[(0,rS s),(1,rS p)]) (H':=[]) Aa Aa ?_;unfold HH at h;refine Al (wv (r:=rB false) (Ae Aa) (Bv (wm Aa (wm Aa ?_))));obtain⟨r1,e3,h2⟩:=AH h;refine C9 Tryz.call100 (Lh s p r1 e3) Aa (wa Aa (As (Ay ?_)));obtain rfl:=A0 h2;exact Ax (BG Tryz.results70 (AM Aa)) sN ⟨Aa,Aa⟩
theorem CU (ha:Nat)(hd:Value)(q:Av)(s:Ak)(r:Bool×Av)(h:Em q s=some r):Fn Tryz.prog GE 83 [rv (.pointer (some ⟨ha,0,none⟩)),rS s] [.blk ha [rS q.fS,rI .i64 q.fAt,rv hd,rB q.fGreat] 87,.row hd 50 4 (List.map Ab q.fCells)] (λR H=>∃w0_2:Value,R=rB r.1∧H=[.blk ha [rS r.2.fS,rI .i64 r.2.fAt,rv w0_2,rB r.2.fGreat] 87,.row w0_2 50 4 (List.map Ab r.2.fCells)]):=by
 refine enter (n:=26) Tryz.func83 Aa Tryz.ntmps83 Aa (λw Z=>?_);refine AR (l':=[(0,rv (.pointer (some ⟨ha,0,none⟩))),(1,rS s)]) (H':=[.blk ha [rS q.fS,rI .i64 q.fAt,rv hd,rB q.fGreat] 87,.row hd 50 4 (List.map Ab q.fCells)]) Aa Aa ?_;unfold Em at h;refine Al (wv (r:=rB false) (Ae Aa) (As (Am (Am ?_))));obtain⟨g1,h2⟩:=Az h;obtain⟨r3,e5,h4⟩:=AH h2;refine Cu [0,1] [⟨[],rv (.pointer (some ⟨ha,0,none⟩)),0⟩,⟨[0],rv (.pointer (some ⟨ha,0,none⟩)),0⟩,⟨[1],rv (.pointer (some ⟨ha,0,none⟩)),0⟩,⟨[2],rS q.fS,1⟩,⟨[],rv (.pointer (some ⟨ha,0,none⟩)),0⟩,⟨[4],rv (.pointer (some ⟨ha,0,none⟩)),0⟩,⟨[5],rv (.pointer (some ⟨ha,1,none⟩)),0⟩,⟨[6],rI .i64 q.fAt,1⟩,⟨[3,7],rS (List.drop (Int.toNat q.fAt) q.fS),0⟩,⟨[],rS s,0⟩,⟨[8,9],rB r3,0⟩,⟨[10],rB (!r3),0⟩] [16,0,1] ?_ ?_
 ·refine oq (Ah Aa) (oq (A2 Aa) (oq (Ad BC Aa BU Aa Aa) (of (Aq (i:=0) Cg Aa Aa Aa) (oq (Ah Aa) (oq (A2 Aa) (oq (Ad BC Aa Cf Aa Aa) (of (Aq (i:=0) CC Aa Aa Aa) (oq (Dr Ce Aa Aa g1) (oq (Ah Aa) (Ct Aa (λH=>Dg Tryz.call70 (JE (List.drop (Int.toNat q.fAt) q.fS) s r3 e5) Aa) ?_))))))))));refine oq (BL Aa) ?_;exact BS
 refine AP (Au (b:=!r3) Aa (λc6=>?_) (λc6=>?_))
 ·have h7:=AE c6 h4;refine Al (wv (r:=rB false) (Ae Aa) (As (Ay (Af ?_))));obtain rfl:=A0 h7;exact Ax (BG Tryz.results83 (AM Aa)) (sC (sC sN)) ⟨hd,Aa,Aa⟩
 ·have h8:=AF c6 h4;refine Aw (AP (Al (wm Aa (wv (A2 Aa) (wv (Ad BC Aa Cf Aa Aa) (wv (Aq (i:=0) CC Aa Aa Aa) (wm Aa (wv (AZ Ce Aa) ?_))))))));obtain⟨g9,he⟩:=Az h8;refine wv (Bu Aa Aa g9) (wv (A2 Aa) (wv (Ad BC Aa Cf Aa Aa) (B0 (i:=0) Cf Aa Aa (BV Aa) Aa Aa (cs':=[rS q.fS,rI .i64 (q.fAt+(s.length:Int)),rv hd,rB q.fGreat]) Aa (H':=[.blk ha [rS q.fS,rI .i64 (q.fAt+(s.length:Int)),rv hd,rB q.fGreat] 87,.row hd 50 4 (List.map Ab q.fCells)]) Aa (Bv (wv (r:=rB true) (Ae Aa) (As (Ay ?_)))))));obtain rfl:=A0 he;exact Ax (BG Tryz.results83 (AM Aa)) (sC (sC sN)) ⟨hd,Aa,Aa⟩
theorem NU (F:Nat)(ha:Nat)(hk:Value)(q:Av)(r:Ak×Bool×Av)(h:NV F q=some r):Fn Tryz.prog GE 85 [rv (.pointer (some ⟨ha,0,none⟩))] [.blk ha [rS q.fS,rI .i64 q.fAt,rv hk,rB q.fGreat] 87,.row hk 50 4 (List.map Ab q.fCells)] (λR H=>∃w0_2:Value,R=CV [rS r.1,rB r.2.1]∧H=[.blk ha [rS r.2.2.fS,rI .i64 r.2.2.fAt,rv w0_2,rB r.2.2.fGreat] 87,.row w0_2 50 4 (List.map Ab r.2.2.fCells)]):=by
 refine enter (n:=104) Tryz.func85 Aa Tryz.ntmps85 Aa (λw Z=>?_);refine AR (l':=[(0,rv (.pointer (some ⟨ha,0,none⟩)))]) (H':=[.blk ha [rS q.fS,rI .i64 q.fAt,rv hk,rB q.fGreat] 87,.row hk 50 4 (List.map Ab q.fCells)]) Aa Aa ?_;unfold NV at h;refine Al (wv (r:=rS ([]:Ak)) (Ae Aa) (wv (r:=rB false) (Ae Aa) (As (Am (Al (wm Aa ?_))))));obtain⟨r1,e3,h2⟩:=AH h;refine Hk (Hr:=[]) Ib (CU ha hk q ([34]:Ak) r1 e3) Aa (Ur _) Aa ?_;rintro _ _ ⟨v4,rfl,rfl⟩;refine wv (BL Aa) (As (Au (b:=!r1.1) Aa (λc5=>?_) (λc5=>?_)))
 ·have h6:=AE c5 h2;refine Al (wv (r:=rS ([]:Ak)) (Ae Aa) (wv (r:=rB false) (Ae Aa) (As (Ay (Af ?_)))));obtain rfl:=A0 h6;exact Ax (El PJ (AM Aa) (AM Aa)) (sC (sC sN)) ⟨v4,Aa,Aa⟩
 ·have h7:=AF c5 h2;refine Aw (AP (Al (wv (r:=rv (.slice none 0 0)) (Ae Aa) (As (Am (AJ (WC.nilrow (e:=5) (sz:=1) (NS (H2:=[.blk ha [rS r1.2.fS,rI .i64 r1.2.fAt,rv v4,rB r1.2.fGreat] 87,.row v4 50 4 (List.map Ab r1.2.fCells),.row (.slice none 0 0     ) 5 1 (List.map AU ([]:List Int))]) ((AC (i:=1) Aa).trans (Uv _ ((AC (i:=1) Aa).trans (Uv _ (Ur _))))) ?_))))))));obtain⟨hC,hD,hn⟩:=AH h7;refine B2 (S:=Nat×((List Int)×Int)×(Value)) (V:=(Int)×(Unit)) 0 (λσ=>Cn (λσ=>Ix r1 σ.1 σ.2) σ.1 σ.2.1=some hC) (λσ=>[(0,rv (.pointer (some ⟨ha,0,none⟩))),(4,rv σ.2.2)]) (λσ=>[.blk ha [rS r1.2.fS,rI .i64 σ.2.1.2,rv v4,rB r1.2.fGreat] 87,.row v4 50 4 (List.map Ab r1.2.fCells),.row σ.2.2 5 1 (List.map AU σ.2.1.1)]) (λσ=>σ.1) (F,(([]:List Int),r1.2.fAt),(.slice none 0 0     )) hD (AK.c Aa (AK.c Aa AK.nil)) (sC (sC (sC sN))) (λσ=>Iw r1 σ.1=some r) (λσ=>[]) (λσ=>[.blk ha [rS r1.2.fS,rI .i64 σ.1,rv v4,rB r1.2.fGreat] 87,.row v4 50 4 (List.map Ab r1.2.fCells)]) ?_ ?_
  ·rintro⟨gf,⟨hg,hd⟩,hh⟩ hE;refine AR (l':=[(0,rv (.pointer (some ⟨ha,0,none⟩))),(4,rv hh)]) (H':=[.blk ha [rS r1.2.fS,rI .i64 hd,rv v4,rB r1.2.fGreat] 87,.row v4 50 4 (List.map Ab r1.2.fCells),.row hh 5 1 (List.map AU hg)]) Aa Aa ?_;obtain⟨hG,rfl,hr,hl,hm⟩:=CM hE;replace hl:Ix r1 hg hd=some hr:=hl;unfold Ix at hl;refine Am (Am (Cu [0,4] [⟨[],rv (.pointer (some ⟨ha,0,none⟩)),0⟩,⟨[0],rv (.pointer (some ⟨ha,0,none⟩)),0⟩,⟨[1],rv (.pointer (some ⟨ha,1,none⟩)),0⟩,⟨[2],rI .i64 hd,1⟩,⟨[],rv (.pointer (some ⟨ha,0,none⟩)),0⟩,⟨[4],rv (.pointer (some ⟨ha,0,none⟩)),0⟩,⟨[5],rv (.pointer (some ⟨ha,0,none⟩)),0⟩,⟨[6],rS r1.2.fS,1⟩,⟨[7],rI .i64 (r1.2.fS.length:Int),0⟩,⟨[3,8],rB (decide (hd<(r1.2.fS.length:Int))),0⟩] [9,10,11,12,13,14,15,16,17,18,0,4] ?_ ?_))
   ·refine oq (Ah Aa) (oq (A2 Aa) (oq (Ad BC Aa Cf Aa Aa) (of (Aq (i:=0) CC Aa Aa Aa) (oq (Ah Aa) (oq (A2 Aa) (oq (Ad BC Aa BU Aa Aa) (of (Aq (i:=0) Cg Aa Aa Aa) (oq (AZ Ce Aa) (oq (C8 Aa Aa) ?_)))))))));exact BS
   refine AP (Au (b:=decide (hd<(r1.2.fS.length:Int))) Aa (λhs=>?_) (λhs=>?_))
   ·have hH:=AE hs hl;refine Aw (AP (AJ (Am ?_)));obtain⟨hI,hJ⟩:=Az hH;refine Cu [0,4,9,10,11,12,13,14,15,16,17] [⟨[],rv (.pointer (some ⟨ha,0,none⟩)),0⟩,⟨[0],rv (.pointer (some ⟨ha,0,none⟩)),0⟩,⟨[1],rv (.pointer (some ⟨ha,0,none⟩)),0⟩,⟨[2],rS r1.2.fS,1⟩,⟨[],rv (.pointer (some ⟨ha,0,none⟩)),0⟩,⟨[4],rv (.pointer (some ⟨ha,0,none⟩)),0⟩,⟨[5],rv (.pointer (some ⟨ha,1,none⟩)),0⟩,⟨[6],rI .i64 hd,1⟩,⟨[3,7],rI .u8 (AY r1.2.fS hd),0⟩,⟨[8],rI .u8 (AY r1.2.fS hd),0⟩] [19,20,21,22,23,24,25,26,27,5,0,4,9,10,11,12,13,14,15,16,17] ?_ ?_
    ·refine oq (Ah Aa) (oq (A2 Aa) (oq (Ad BC Aa BU Aa Aa) (of (Aq (i:=0) Cg Aa Aa Aa) (oq (Ah Aa) (oq (A2 Aa) (oq (Ad BC Aa Cf Aa Aa) (of (Aq (i:=0) CC Aa Aa Aa) (oq (Bb Ce Aa Aa hI) (oq (Ae Aa) ?_)))))))));exact BS
    refine AP (Al (wm Aa (wv (A2 Aa) (wv (Ad BC Aa Cf Aa Aa) (wv (Aq (i:=0) CC Aa Aa Aa) ?_)))));obtain⟨hK,hz⟩:=Az hJ;refine wv (Bu Aa Aa hK) (wv (A2 Aa) (wv (Ad BC Aa Cf Aa Aa) (B0 (i:=0) Cf Aa Aa (BV Aa) Aa Aa (cs':=[rS r1.2.fS,rI .i64 (hd+1),rv v4,rB r1.2.fGreat]) Aa (H':=[.blk ha [rS r1.2.fS,rI .i64 (hd+1),rv v4,rB r1.2.fGreat] 87,.row v4 50 4 (List.map Ab r1.2.fCells),.row hh 5 1 (List.map AU hg)]) Aa (As (DH (S:=(Int×Int)×(Unit)) (λσ=>Hq hg σ.1.1 σ.1.2=some hr) (λσ=>[(0,rv (.pointer (some ⟨ha,0,none⟩))),(4,rv hh),(5,rI .u8 σ.1.1),(9,rv (.pointer (some ⟨ha,0,none⟩))),(10,rv (.pointer (some ⟨ha,0,none⟩))),(11,rv (.pointer (some ⟨ha,1,none⟩))),(12,rI .i64 hd),(13,rv (.pointer (some ⟨ha,0,none⟩))),(14,rv (.pointer (some ⟨ha,0,none⟩))),(15,rv (.pointer (some ⟨ha,0,none⟩))),(16,rS r1.2.fS),(17,rI .i64 (r1.2.fS.length:Int)),(19,rv (.pointer (some ⟨ha,0,none⟩))),(20,rv (.pointer (some ⟨ha,0,none⟩))),(21,rv (.pointer (some ⟨ha,0,none⟩))),(22,rS r1.2.fS),(23,rv (.pointer (some ⟨ha,0,none⟩))),(24,rv (.pointer (some ⟨ha,0,none⟩))),(25,rv (.pointer (some ⟨ha,1,none⟩))),(26,rI .i64 hd),(27,rI .u8 (AY r1.2.fS hd))]) (λσ=>[.blk ha [rS r1.2.fS,rI .i64 σ.1.2,rv v4,rB r1.2.fGreat] 87,.row v4 50 4 (List.map Ab r1.2.fCells),.row hh 5 1 (List.map AU hg)]) ?_ ?_)))))
    ·refine AJ (Al (wm Aa (wv (Bh Aa Aa) (wa Aa (As (Au (b:=decide ((AY r1.2.fS hd)=34)) Aa (λht=>?_) (λht=>?_)))))))
     ·have hL:=AE ht hz;refine Al (wm Aa (wv (r:=rS (Li hg)) (Q0 (xs:=hg) (i:=2) EQ Ce No Aa Aa) (wa Aa (wv (r:=rB true) (Ae Aa) (As (Ay (A5 (Af (A5 (Af (Bf ?_)))))))))));have hN:=B5 hL hm hn;refine A5 (Af ?_);obtain rfl:=A0 hN;exact Ax (El PJ (AM Aa) (AM Aa)) (sC (sC (sS sN))) ⟨v4,Aa,Aa⟩
     ·have h0:=AF ht hz;refine AB [(0,rv (.pointer (some ⟨ha,0,none⟩))),(4,rv hh),(5,rI .u8 (AY r1.2.fS hd)),(9,rv (.pointer (some ⟨ha,0,none⟩))),(10,rv (.pointer (some ⟨ha,0,none⟩))),(11,rv (.pointer (some ⟨ha,1,none⟩))),(12,rI .i64 hd),(13,rv (.pointer (some ⟨ha,0,none⟩))),(14,rv (.pointer (some ⟨ha,0,none⟩))),(15,rv (.pointer (some ⟨ha,0,none⟩))),(16,rS r1.2.fS),(17,rI .i64 (r1.2.fS.length:Int)),(19,rv (.pointer (some ⟨ha,0,none⟩))),(20,rv (.pointer (some ⟨ha,0,none⟩))),(21,rv (.pointer (some ⟨ha,0,none⟩))),(22,rS r1.2.fS),(23,rv (.pointer (some ⟨ha,0,none⟩))),(24,rv (.pointer (some ⟨ha,0,none⟩))),(25,rv (.pointer (some ⟨ha,1,none⟩))),(26,rI .i64 hd),(27,rI .u8 (AY r1.2.fS hd)),(40,rB ((decide ((AY r1.2.fS hd)<32))||(decide (126<(AY r1.2.fS hd)))))] [.blk ha [rS r1.2.fS,rI .i64 (hd+1),rv v4,rB r1.2.fGreat] 87,.row v4 50 4 (List.map Ab r1.2.fCells),.row hh 5 1 (List.map AU hg)] ?_ ?_
      ·refine Ai (wm Aa (wv (C8 Aa Aa) (wm Aa (A7 (decide ((AY r1.2.fS hd)<32)) (λhi=>?_) (λhi=>?_)))))
       ·refine wf hi (wf hi (wv (r:=rB true) (Ao (b:=decide ((AY r1.2.fS hd)<32)) Aa hi Aa) (wa Aa (Aj ?_))));exact BO hi
       ·refine wo hi (wm Aa (wo hi (wv (C1 Aa Aa) (ET Aa hi Aa (wa Aa (Aj ?_))))));exact BO hi
      refine Au (b:=((decide ((AY r1.2.fS hd)<32))||(decide (126<(AY r1.2.fS hd))))) Aa (λhu=>?_) (λhu=>?_)
      ·have hO:=AE hu h0;refine Al (wv (r:=rS ([]:Ak)) (Ae Aa) (wv (r:=rB false) (Ae Aa) (As (Ay (A5 (Af (A5 (Af (Bf ?_)))))))));have hP:=B5 hO hm hn;refine A5 (Af ?_);obtain rfl:=A0 hP;exact Ax (El PJ (AM Aa) (AM Aa)) (sC (sC (sS sN))) ⟨v4,Aa,Aa⟩
      ·have h8:=AF hu h0;refine Al (wm Aa (wv (Bh Aa Aa) (wa Aa (As (Au (b:=decide ((AY r1.2.fS hd)=92)) Aa (λhw=>?_) (λhw=>?_))))))
       ·have hQ:=AE hw h8;refine Am ?_;obtain⟨hx,h9⟩:=Az hQ;refine AB [(0,rv (.pointer (some ⟨ha,0,none⟩))),(4,rv hh),(9,rv (.pointer (some ⟨ha,0,none⟩))),(10,rv (.pointer (some ⟨ha,0,none⟩))),(11,rv (.pointer (some ⟨ha,1,none⟩))),(12,rI .i64 hd),(13,rv (.pointer (some ⟨ha,0,none⟩))),(14,rv (.pointer (some ⟨ha,0,none⟩))),(15,rv (.pointer (some ⟨ha,0,none⟩))),(16,rS r1.2.fS),(17,rI .i64 (r1.2.fS.length:Int)),(19,rv (.pointer (some ⟨ha,0,none⟩))),(20,rv (.pointer (some ⟨ha,0,none⟩))),(21,rv (.pointer (some ⟨ha,0,none⟩))),(22,rS r1.2.fS),(23,rv (.pointer (some ⟨ha,0,none⟩))),(24,rv (.pointer (some ⟨ha,0,none⟩))),(25,rv (.pointer (some ⟨ha,1,none⟩))),(26,rI .i64 hd),(27,rI .u8 (AY r1.2.fS hd)),(50,rv (.pointer (some ⟨ha,0,none⟩))),(51,rv (.pointer (some ⟨ha,0,none⟩))),(52,rv (.pointer (some ⟨ha,1,none⟩))),(53,rI .i64 (hd+1)),(54,rv (.pointer (some ⟨ha,0,none⟩))),(55,rv (.pointer (some ⟨ha,0,none⟩))),(56,rv (.pointer (some ⟨ha,0,none⟩))),(57,rS r1.2.fS),(58,rI .i64 (r1.2.fS.length:Int)),(59,rB (decide ((r1.2.fS.length:Int)≤(hd+1)))),(60,rB (decide ((r1.2.fS.length:Int)≤(hd+1)))),(83,rB ((decide ((r1.2.fS.length:Int)≤(hd+1)))||((!decide ((AY r1.2.fS (hd+1))=34))&&(!decide ((AY r1.2.fS (hd+1))=92)))))] [.blk ha [rS r1.2.fS,rI .i64 (hd+1),rv v4,rB r1.2.fGreat] 87,.row v4 50 4 (List.map Ab r1.2.fCells),.row hh 5 1 (List.map AU hg)] ?_ ?_
        ·refine A7 (decide ((r1.2.fS.length:Int)≤(hd+1))) (λhe=>?_) (λhe=>?_)
         ·refine Cu [0,4,9,10,11,12,13,14,15,16,17,19,20,21,22,23,24,25,26,27] [⟨[],rv (.pointer (some ⟨ha,0,none⟩)),0⟩,⟨[0],rv (.pointer (some ⟨ha,0,none⟩)),0⟩,⟨[1],rv (.pointer (some ⟨ha,1,none⟩)),0⟩,⟨[2],rI .i64 (hd+1),1⟩,⟨[],rv (.pointer (some ⟨ha,0,none⟩)),0⟩,⟨[4],rv (.pointer (some ⟨ha,0,none⟩)),0⟩,⟨[5],rv (.pointer (some ⟨ha,0,none⟩)),0⟩,⟨[6],rS r1.2.fS,1⟩,⟨[7],rI .i64 (r1.2.fS.length:Int),0⟩,⟨[3,8],rB (decide ((r1.2.fS.length:Int)≤(hd+1))),0⟩,⟨[9],rB (decide ((r1.2.fS.length:Int)≤(hd+1))),0⟩,⟨[10],rv undef,0⟩,⟨[11,10],rv undef,0⟩,⟨[12,10],rv undef,0⟩,⟨[13,10],rv undef,0⟩,⟨[10],rv undef,0⟩,⟨[15,10],rv undef,0⟩,⟨[16,10],rv undef,0⟩,⟨[17,10],rv undef,0⟩,⟨[14,18,10],rv undef,0⟩,⟨[19,10],rv undef,0⟩,⟨[20,10],rv undef,0⟩,⟨[21],rv undef,0⟩,⟨[22,21],rv undef,0⟩,⟨[23,21],rv undef,0⟩,⟨[24,21],rv undef,0⟩,⟨[21],rv undef,0⟩,⟨[26,21],rv undef,0⟩,⟨[27,21],rv undef,0⟩,⟨[28,21],rv undef,0⟩,⟨[25,29,21],rv undef,0⟩,⟨[30,21],rv undef,0⟩,⟨[21,31,10],rv undef,0⟩,⟨[10,32],rB true,0⟩] [50,51,52,53,54,55,56,57,58,59,60,61,62,63,64,65,66,67,68,69,70,71,72,73,74,75,76,77,78,79,80,81,82,83,0,4,9,10,11,12,13,14,15,16,17,19,20,21,22,23,24,25,26,27] ?_ ?_
          ·refine oq (Ah Aa) (oq (A2 Aa) (oq (Ad BC Aa Cf Aa Aa) (of (Aq (i:=0) CC Aa Aa Aa) (oq (Ah Aa) (oq (A2 Aa) (oq (Ad BC Aa BU Aa Aa) (of (Aq (i:=0) Cg Aa Aa Aa) (oq (AZ Ce Aa) (oq (ER Aa Aa) (oq (Ah Aa) (oz he (oz he (oz he (oz he (oz he (oz he (oz he (oz he (oz he (oz he (oz he (ou (ou ?_)))))))))))))))))))))));refine ou (ou (ou (ou (ou (ou (ou (ou (oz he (oq (Ao (b:=decide ((r1.2.fS.length:Int)≤(hd+1))) Aa he Aa) ?_)))))))));exact BS
          exact BO he
         ·refine A7 (!decide ((AY r1.2.fS (hd+1))=34)) (λhf=>?_) (λhf=>?_)
          ·refine Cu [0,4,9,10,11,12,13,14,15,16,17,19,20,21,22,23,24,25,26,27] [⟨[],rv (.pointer (some ⟨ha,0,none⟩)),0⟩,⟨[0],rv (.pointer (some ⟨ha,0,none⟩)),0⟩,⟨[1],rv (.pointer (some ⟨ha,1,none⟩)),0⟩,⟨[2],rI .i64 (hd+1),1⟩,⟨[],rv (.pointer (some ⟨ha,0,none⟩)),0⟩,⟨[4],rv (.pointer (some ⟨ha,0,none⟩)),0⟩,⟨[5],rv (.pointer (some ⟨ha,0,none⟩)),0⟩,⟨[6],rS r1.2.fS,1⟩,⟨[7],rI .i64 (r1.2.fS.length:Int),0⟩,⟨[3,8],rB (decide ((r1.2.fS.length:Int)≤(hd+1))),0⟩,⟨[9],rB (decide ((r1.2.fS.length:Int)≤(hd+1))),0⟩,⟨[10],rv (.pointer (some ⟨ha,0,none⟩)),0⟩,⟨[11,10],rv (.pointer (some ⟨ha,0,none⟩)),0⟩,⟨[12,10],rv (.pointer (some ⟨ha,0,none⟩)),0⟩,⟨[13,10],rS r1.2.fS,1⟩,⟨[10],rv (.pointer (some ⟨ha,0,none⟩)),0⟩,⟨[15,10],rv (.pointer (some ⟨ha,0,none⟩)),0⟩,⟨[16,10],rv (.pointer (some ⟨ha,1,none⟩)),0⟩,⟨[17,10],rI .i64 (hd+1),1⟩,⟨[14,18,10],rI .u8 (AY r1.2.fS (hd+1)),0⟩,⟨[19,10],rB (!decide ((AY r1.2.fS (hd+1))=34)),0⟩,⟨[20,10],rB (!decide ((AY r1.2.fS (hd+1))=34)),0⟩,⟨[21],rv (.pointer (some ⟨ha,0,none⟩)),0⟩,⟨[22,21],rv (.pointer (some ⟨ha,0,none⟩)),0⟩,⟨[23,21],rv (.pointer (some ⟨ha,0,none⟩)),0⟩,⟨[24,21],rS r1.2.fS,1⟩,⟨[21],rv (.pointer (some ⟨ha,0,none⟩)),0⟩,⟨[26,21],rv (.pointer (some ⟨ha,0,none⟩)),0⟩,⟨[27,21],rv (.pointer (some ⟨ha,1,none⟩)),0⟩,⟨[28,21],rI .i64 (hd+1),1⟩,⟨[25,29,21],rI .u8 (AY r1.2.fS (hd+1)),0⟩,⟨[30,21],rB (!decide ((AY r1.2.fS (hd+1))=92)),0⟩,⟨[21,31,10],rB (!decide ((AY r1.2.fS (hd+1))=92)),0⟩,⟨[10,32],rB (!decide ((AY r1.2.fS (hd+1))=92)),0⟩] [50,51,52,53,54,55,56,57,58,59,60,61,62,63,64,65,66,67,68,69,70,71,72,73,74,75,76,77,78,79,80,81,82,83,0,4,9,10,11,12,13,14,15,16,17,19,20,21,22,23,24,25,26,27] ?_ ?_
           ·refine oq (Ah Aa) (oq (A2 Aa) (oq (Ad BC Aa Cf Aa Aa) (of (Aq (i:=0) CC Aa Aa Aa) (oq (Ah Aa) (oq (A2 Aa) (oq (Ad BC Aa BU Aa Aa) (of (Aq (i:=0) Cg Aa Aa Aa) (oq (AZ Ce Aa) (oq (ER Aa Aa) (oq (Ah Aa) (on he (oq (Ah Aa) (on he (oq (A2 Aa) (on he (oq (Ad BC Aa BU Aa Aa) (on he (of (Aq (i:=0) Cg Aa Aa Aa) (on he (oq (Ah Aa) (on he (oq (A2 Aa) (on he ?_)))))))))))))))))))))));refine oq (Ad BC Aa Cf Aa Aa) (on he (of (Aq (i:=0) CC Aa Aa Aa) (on he (oq (Bb Ce Aa Aa (CG hx he)) (on he (oq (DB Aa Aa) (on he (oq (Ah Aa) (on hf (oq (Ah Aa) (on hf (oq (A2 Aa) (on hf (oq (Ad BC Aa BU Aa Aa) (on hf (of (Aq (i:=0) Cg Aa Aa Aa) (on hf (oq (Ah Aa) (on hf (oq (A2 Aa) (on hf (oq (Ad BC Aa Cf Aa Aa) (on hf ?_)))))))))))))))))))))));refine of (Aq (i:=0) CC Aa Aa Aa) (on hf (oq (Bb Ce Aa Aa (CG hx he)) (on hf (oq (DB Aa Aa) (on he (oq (Ao Aa hf Aa) (oq (Ar Aa he Aa) ?_)))))));exact BS
           exact BO (And.intro he hf)
          ·refine Cu [0,4,9,10,11,12,13,14,15,16,17,19,20,21,22,23,24,25,26,27] [⟨[],rv (.pointer (some ⟨ha,0,none⟩)),0⟩,⟨[0],rv (.pointer (some ⟨ha,0,none⟩)),0⟩,⟨[1],rv (.pointer (some ⟨ha,1,none⟩)),0⟩,⟨[2],rI .i64 (hd+1),1⟩,⟨[],rv (.pointer (some ⟨ha,0,none⟩)),0⟩,⟨[4],rv (.pointer (some ⟨ha,0,none⟩)),0⟩,⟨[5],rv (.pointer (some ⟨ha,0,none⟩)),0⟩,⟨[6],rS r1.2.fS,1⟩,⟨[7],rI .i64 (r1.2.fS.length:Int),0⟩,⟨[3,8],rB (decide ((r1.2.fS.length:Int)≤(hd+1))),0⟩,⟨[9],rB (decide ((r1.2.fS.length:Int)≤(hd+1))),0⟩,⟨[10],rv (.pointer (some ⟨ha,0,none⟩)),0⟩,⟨[11,10],rv (.pointer (some ⟨ha,0,none⟩)),0⟩,⟨[12,10],rv (.pointer (some ⟨ha,0,none⟩)),0⟩,⟨[13,10],rS r1.2.fS,1⟩,⟨[10],rv (.pointer (some ⟨ha,0,none⟩)),0⟩,⟨[15,10],rv (.pointer (some ⟨ha,0,none⟩)),0⟩,⟨[16,10],rv (.pointer (some ⟨ha,1,none⟩)),0⟩,⟨[17,10],rI .i64 (hd+1),1⟩,⟨[14,18,10],rI .u8 (AY r1.2.fS (hd+1)),0⟩,⟨[19,10],rB (!decide ((AY r1.2.fS (hd+1))=34)),0⟩,⟨[20,10],rB (!decide ((AY r1.2.fS (hd+1))=34)),0⟩,⟨[21],rv undef,0⟩,⟨[22,21],rv undef,0⟩,⟨[23,21],rv undef,0⟩,⟨[24,21],rv undef,0⟩,⟨[21],rv undef,0⟩,⟨[26,21],rv undef,0⟩,⟨[27,21],rv undef,0⟩,⟨[28,21],rv undef,0⟩,⟨[25,29,21],rv undef,0⟩,⟨[30,21],rv undef,0⟩,⟨[21,31,10],rB false,0⟩,⟨[10,32],rB false,0⟩] [50,51,52,53,54,55,56,57,58,59,60,61,62,63,64,65,66,67,68,69,70,71,72,73,74,75,76,77,78,79,80,81,82,83,0,4,9,10,11,12,13,14,15,16,17,19,20,21,22,23,24,25,26,27] ?_ ?_
           ·refine oq (Ah Aa) (oq (A2 Aa) (oq (Ad BC Aa Cf Aa Aa) (of (Aq (i:=0) CC Aa Aa Aa) (oq (Ah Aa) (oq (A2 Aa) (oq (Ad BC Aa BU Aa Aa) (of (Aq (i:=0) Cg Aa Aa Aa) (oq (AZ Ce Aa) (oq (ER Aa Aa) (oq (Ah Aa) (on he (oq (Ah Aa) (on he (oq (A2 Aa) (on he (oq (Ad BC Aa BU Aa Aa) (on he (of (Aq (i:=0) Cg Aa Aa Aa) (on he (oq (Ah Aa) (on he (oq (A2 Aa) (on he ?_)))))))))))))))))))))));refine oq (Ad BC Aa Cf Aa Aa) (on he (of (Aq (i:=0) CC Aa Aa Aa) (on he (oq (Bb Ce Aa Aa (CG hx he)) (on he (oq (DB Aa Aa) (on he (oq (Ah Aa) (oz hf (oz hf (oz hf (oz hf (oz hf (oz hf (oz hf (oz hf (oz hf (oz hf (on he (oq (Ar (b:=!decide ((AY r1.2.fS (hd+1))=34)) Aa hf Aa) (oq (Ar Aa he Aa) ?_)))))))))))))))))))));exact BS
           exact BO (And.intro he hf)
        refine Au (b:=((decide ((r1.2.fS.length:Int)≤(hd+1)))||((!decide ((AY r1.2.fS (hd+1))=34))&&(!decide ((AY r1.2.fS (hd+1))=92))))) Aa (λhy=>?_) (λhy=>?_)
        ·have hR:=AE hy h9;refine Al (wv (r:=rS ([]:Ak)) (Ae Aa) (wv (r:=rB false) (Ae Aa) (As (Ay (Af (A5 (Af (A5 (Af (Bf ?_))))))))));have hS:=B5 hR hm hn;refine A5 (Af ?_);obtain rfl:=A0 hS;exact Ax (El PJ (AM Aa) (AM Aa)) (sC (sC (sS sN))) ⟨v4,Aa,Aa⟩
        ·have hT:=AF hy h9;refine Aw (AP (Am ?_));obtain⟨hU,hV⟩:=Az hT;refine Cu [0,4,9,10,11,12,13,14,15,16,17,19,20,21,22,23,24,25,26,27,50,51,52,53,54,55,56,57,58,59,60] [⟨[],rv (.pointer (some ⟨ha,0,none⟩)),0⟩,⟨[0],rv (.pointer (some ⟨ha,0,none⟩)),0⟩,⟨[1],rv (.pointer (some ⟨ha,0,none⟩)),0⟩,⟨[2],rS r1.2.fS,1⟩,⟨[],rv (.pointer (some ⟨ha,0,none⟩)),0⟩,⟨[4],rv (.pointer (some ⟨ha,0,none⟩)),0⟩,⟨[5],rv (.pointer (some ⟨ha,1,none⟩)),0⟩,⟨[6],rI .i64 (hd+1),1⟩,⟨[3,7],rI .u8 (AY r1.2.fS (hd+1)),0⟩,⟨[8],rI .u8 (AY r1.2.fS (hd+1)),0⟩] [84,85,86,87,88,89,90,91,92,5,0,4,9,10,11,12,13,14,15,16,17,19,20,21,22,23,24,25,26,27,50,51,52,53,54,55,56,57,58,59,60] ?_ ?_
         ·refine oq (Ah Aa) (oq (A2 Aa) (oq (Ad BC Aa BU Aa Aa) (of (Aq (i:=0) Cg Aa Aa Aa) (oq (Ah Aa) (oq (A2 Aa) (oq (Ad BC Aa Cf Aa Aa) (of (Aq (i:=0) CC Aa Aa Aa) (oq (Bb Ce Aa Aa hU) (oq (Ae Aa) ?_)))))))));exact BS
         refine AP (Ai (wm Aa (wv (A2 Aa) (wv (Ad BC Aa Cf Aa Aa) (wv (Aq (i:=0) CC Aa Aa Aa) ?_)))));obtain⟨hW,hX⟩:=Az hV;exact wv (Bu Aa Aa hW) (wv (A2 Aa) (wv (Ad BC Aa Cf Aa Aa) (B0 (i:=0) Cf Aa Aa (BV Aa) Aa Aa (cs':=[rS r1.2.fS,rI .i64 ((hd+1)+1),rv v4,rB r1.2.fGreat]) Aa (H':=[.blk ha [rS r1.2.fS,rI .i64 ((hd+1)+1),rv v4,rB r1.2.fGreat] 87,.row v4 50 4 (List.map Ab r1.2.fCells),.row hh 5 1 (List.map AU hg)]) Aa (Aj (AG (Ap (AI ((AY r1.2.fS (hd+1),(hd+1)+1),()) hX (AK.c Aa (AK.c5 Aa Aa Aa Aa Aa (AK.c5 Aa Aa Aa Aa Aa (AK.c5 Aa Aa Aa Aa Aa (AK.c5 Aa Aa Aa Aa Aa AK.nil))))) (sC (sC (sC sN))))))))))
       ·have hY:=AF hw h8;exact Aw (AG (Ap (AI ((AY r1.2.fS hd,hd+1),()) hY (AK.c Aa (AK.c5 Aa Aa Aa Aa Aa (AK.c5 Aa Aa Aa Aa Aa (AK.c5 Aa Aa Aa Aa Aa (AK.c5 Aa Aa Aa Aa Aa AK.nil))))) (sC (sC (sC sN))))))
    ·rintro⟨⟨hj,ho⟩,⟨⟩⟩ hp;refine AR (l':=[(0,rv (.pointer (some ⟨ha,0,none⟩))),(4,rv hh),(5,rI .u8 hj),(9,rv (.pointer (some ⟨ha,0,none⟩))),(10,rv (.pointer (some ⟨ha,0,none⟩))),(11,rv (.pointer (some ⟨ha,1,none⟩))),(12,rI .i64 hd),(13,rv (.pointer (some ⟨ha,0,none⟩))),(14,rv (.pointer (some ⟨ha,0,none⟩))),(15,rv (.pointer (some ⟨ha,0,none⟩))),(16,rS r1.2.fS),(17,rI .i64 (r1.2.fS.length:Int)),(19,rv (.pointer (some ⟨ha,0,none⟩))),(20,rv (.pointer (some ⟨ha,0,none⟩))),(21,rv (.pointer (some ⟨ha,0,none⟩))),(22,rS r1.2.fS),(23,rv (.pointer (some ⟨ha,0,none⟩))),(24,rv (.pointer (some ⟨ha,0,none⟩))),(25,rv (.pointer (some ⟨ha,1,none⟩))),(26,rI .i64 hd),(27,rI .u8 (AY r1.2.fS hd))]) (H':=[.blk ha [rS r1.2.fS,rI .i64 ho,rv v4,rB r1.2.fGreat] 87,.row v4 50 4 (List.map Ab r1.2.fCells),.row hh 5 1 (List.map AU hg)]) Aa Aa ?_;replace hp:Hq hg hj ho=some hr:=hp;unfold Hq at hp;refine Ai (wm Aa (wm Aa (Bp (ys:=([hj]:List Int)) (enc:=AU) (css:=[[rI .u8 hj]]) (xs:=[.tmp 101]) EQ PC S3 Aa Aa Aa ⟨Gk.one Aa (Up.refl _),trivial⟩ Aa CD Aa Aa Aa (λhZ=>?_))));obtain⟨ga,gb⟩:=Az hp;obtain⟨inf,hinf⟩:=IM;refine Ck (xs:=hg) (ys:=([hj]:List Int)) (enc:=AU) (i:=3) EQ hinf.1 hinf.2.1 hinf.2.2.1 hinf.2.2.2 Aa Aa Aa Aa Aa (Jw.w (i:=0) Aa Aa) CD G5 ga Aa (λhA=>?_);refine wa Aa (Aj (AG (CH (H2:=[.blk ha [rS r1.2.fS,rI .i64 ho,rv v4,rB r1.2.fGreat] 87,.row v4 50 4 (List.map Ab r1.2.fCells),.row hA 5 1 (List.map AU (hg++([hj]:List Int))),.row (.slice (some ⟨hZ,0,none⟩) 1 1) 5 1 (List.map AU ([hj]:List Int))]) ((AC (i:=2) Aa).trans (Uv _ ((AC (i:=2) Aa).trans (Uv _ (Ur _))))) ?_)));have gc:=Bk gb hm;exact Ap (AI (hG,(hg++([hj]:List Int),ho),hA) ⟨gc,U0 _⟩ (AK.c Aa (AK.c Aa AK.nil)) (sC (sC (sC (sS sN)))))
   ·have gd:=AF hs hl;refine B4 (A4 ?_);have ge:=Cv gd hm hn;exact A4 (Bt (AI (hd,()) ge AK.nil (sC (sC (sS sN)))))
  ·rintro⟨hB,⟨⟩⟩ hq;refine Dd (l':=[]) (H':=[.blk ha [rS r1.2.fS,rI .i64 hB,rv v4,rB r1.2.fGreat] 87,.row v4 50 4 (List.map Ab r1.2.fCells)]) Aa Aa ?_;replace hq:Iw r1 hB=some r:=hq;unfold Iw at hq;refine Bi (AP (Al (wv (r:=rS ([]:Ak)) (Ae Aa) (wv (r:=rB false) (Ae Aa) (As (Ay ?_))))));obtain rfl:=A0 hq;exact Ax (El PJ (AM Aa) (AM Aa)) (sC (sC sN)) ⟨v4,Aa,Aa⟩
theorem R0 (F:Nat)(ha:Nat)(hk:Value)(q:Av)(r:Bool×Av)(h:PV F q=some r):Fn Tryz.prog GE 109 [rv (.pointer (some ⟨ha,0,none⟩))] [.blk ha [rS q.fS,rI .i64 q.fAt,rv hk,rB q.fGreat] 87,.row hk 50 4 (List.map Ab q.fCells)] (λR H=>∃w0_2:Value,R=rB r.1∧H=[.blk ha [rS r.2.fS,rI .i64 r.2.fAt,rv w0_2,rB r.2.fGreat] 87,.row w0_2 50 4 (List.map Ab r.2.fCells)]):=by
 refine enter (n:=104) Tryz.func109 Aa Tryz.ntmps109 Aa (λw Z=>?_);refine AR (l':=[(0,rv (.pointer (some ⟨ha,0,none⟩)))]) (H':=[.blk ha [rS q.fS,rI .i64 q.fAt,rv hk,rB q.fGreat] 87,.row hk 50 4 (List.map Ab q.fCells)]) Aa Aa ?_;unfold PV at h;refine Al (wv (r:=rB false) (Ae Aa) (Bv (wm Aa (wv (A2 Aa) (wv (Ad BC Aa Cf Aa Aa) (wv (Aq (i:=0) CC Aa Aa Aa) (wa Aa (Bv (wm Aa ?_)))))))));obtain⟨r1,e3,h2⟩:=AH h;refine Hk (Hr:=[]) Ib (CU ha hk q ([45]:Ak) r1 e3) Aa (Ur _) Aa ?_;rintro _ _ ⟨v4,rfl,rfl⟩;refine Bv (wm Aa (wv (A2 Aa) (wv (Ad BC Aa Cf Aa Aa) (wv (Aq (i:=0) CC Aa Aa Aa) (wa Aa (As (Am (AJ ?_))))))));obtain⟨hu,hw,hx⟩:=AH h2;refine B2 (S:=Nat×(Int)×(Unit)) (V:=(Int)×(Unit)) 0 (λσ=>Cn (λσ=>Iz r1 σ) σ.1 σ.2.1=some hu) (λσ=>[(0,rv (.pointer (some ⟨ha,0,none⟩))),(3,rI .i64 q.fAt),(4,rI .i64 r1.2.fAt)]) (λσ=>[.blk ha [rS r1.2.fS,rI .i64 σ.2.1,rv v4,rB r1.2.fGreat] 87,.row v4 50 4 (List.map Ab r1.2.fCells)]) (λσ=>σ.1) (F,r1.2.fAt,()) hw (AK.c Aa (AK.c Aa (AK.c Aa AK.nil))) (sC (sC sN)) (λσ=>Iy q r1 σ.1=some r) (λσ=>[(0,rv (.pointer (some ⟨ha,0,none⟩))),(3,rI .i64 q.fAt),(4,rI .i64 r1.2.fAt)]) (λσ=>[.blk ha [rS r1.2.fS,rI .i64 σ.1,rv v4,rB r1.2.fGreat] 87,.row v4 50 4 (List.map Ab r1.2.fCells)]) ?_ ?_
 ·rintro⟨hN,he,⟨⟩⟩ hy;refine AR (l':=[(0,rv (.pointer (some ⟨ha,0,none⟩))),(3,rI .i64 q.fAt),(4,rI .i64 r1.2.fAt)]) (H':=[.blk ha [rS r1.2.fS,rI .i64 he,rv v4,rB r1.2.fGreat] 87,.row v4 50 4 (List.map Ab r1.2.fCells)]) Aa Aa ?_;obtain⟨hz,rfl,h0,hl,hq⟩:=CM hy;replace hl:Iz r1 he=some h0:=hl;unfold Iz at hl;refine Am ?_;obtain⟨hn,hr⟩:=Az hl;refine AB [(0,rv (.pointer (some ⟨ha,0,none⟩))),(3,rI .i64 q.fAt),(4,rI .i64 r1.2.fAt),(17,rv (.pointer (some ⟨ha,0,none⟩))),(18,rv (.pointer (some ⟨ha,0,none⟩))),(19,rv (.pointer (some ⟨ha,1,none⟩))),(20,rI .i64 he),(21,rv (.pointer (some ⟨ha,0,none⟩))),(22,rv (.pointer (some ⟨ha,0,none⟩))),(23,rv (.pointer (some ⟨ha,0,none⟩))),(24,rS r1.2.fS),(25,rI .i64 (r1.2.fS.length:Int)),(26,rB (decide (he<(r1.2.fS.length:Int)))),(27,rB (decide (he<(r1.2.fS.length:Int)))),(38,rB ((decide (he<(r1.2.fS.length:Int)))&&(decide (48≤(AY r1.2.fS he))))),(39,rB ((decide (he<(r1.2.fS.length:Int)))&&(decide (48≤(AY r1.2.fS he))))),(50,rB ((decide (he<(r1.2.fS.length:Int)))&&((decide (48≤(AY r1.2.fS he)))&&(decide ((AY r1.2.fS he)≤57)))))] [.blk ha [rS r1.2.fS,rI .i64 he,rv v4,rB r1.2.fGreat] 87,.row v4 50 4 (List.map Ab r1.2.fCells)] ?_ ?_
  ·refine A7 (decide (he<(r1.2.fS.length:Int))) (λhf=>?_) (λhf=>?_)
   ·refine A7 (decide (48≤(AY r1.2.fS he))) (λhg=>?_) (λhg=>?_)
    ·refine Cu [0,3,4] [⟨[],rv (.pointer (some ⟨ha,0,none⟩)),0⟩,⟨[0],rv (.pointer (some ⟨ha,0,none⟩)),0⟩,⟨[1],rv (.pointer (some ⟨ha,1,none⟩)),0⟩,⟨[2],rI .i64 he,1⟩,⟨[],rv (.pointer (some ⟨ha,0,none⟩)),0⟩,⟨[4],rv (.pointer (some ⟨ha,0,none⟩)),0⟩,⟨[5],rv (.pointer (some ⟨ha,0,none⟩)),0⟩,⟨[6],rS r1.2.fS,1⟩,⟨[7],rI .i64 (r1.2.fS.length:Int),0⟩,⟨[3,8],rB (decide (he<(r1.2.fS.length:Int))),0⟩,⟨[9],rB (decide (he<(r1.2.fS.length:Int))),0⟩,⟨[10],rv (.pointer (some ⟨ha,0,none⟩)),0⟩,⟨[11,10],rv (.pointer (some ⟨ha,0,none⟩)),0⟩,⟨[12,10],rv (.pointer (some ⟨ha,0,none⟩)),0⟩,⟨[13,10],rS r1.2.fS,1⟩,⟨[10],rv (.pointer (some ⟨ha,0,none⟩)),0⟩,⟨[15,10],rv (.pointer (some ⟨ha,0,none⟩)),0⟩,⟨[16,10],rv (.pointer (some ⟨ha,1,none⟩)),0⟩,⟨[17,10],rI .i64 he,1⟩,⟨[14,18,10],rI .u8 (AY r1.2.fS he),0⟩,⟨[19,10],rB (decide (48≤(AY r1.2.fS he))),0⟩,⟨[10,20],rB (decide (48≤(AY r1.2.fS he))),0⟩,⟨[21],rB (decide (48≤(AY r1.2.fS he))),0⟩,⟨[22],rv (.pointer (some ⟨ha,0,none⟩)),0⟩,⟨[23,22],rv (.pointer (some ⟨ha,0,none⟩)),0⟩,⟨[24,22],rv (.pointer (some ⟨ha,0,none⟩)),0⟩,⟨[25,22],rS r1.2.fS,1⟩,⟨[22],rv (.pointer (some ⟨ha,0,none⟩)),0⟩,⟨[27,22],rv (.pointer (some ⟨ha,0,none⟩)),0⟩,⟨[28,22],rv (.pointer (some ⟨ha,1,none⟩)),0⟩,⟨[29,22],rI .i64 he,1⟩,⟨[26,30,22],rI .u8 (AY r1.2.fS he),0⟩,⟨[31,22],rB (decide ((AY r1.2.fS he)≤57)),0⟩,⟨[22,32],rB (decide ((AY r1.2.fS he)≤57)),0⟩] [17,18,19,20,21,22,23,24,25,26,27,28,29,30,31,32,33,34,35,36,37,38,39,40,41,42,43,44,45,46,47,48,49,50,0,3,4] ?_ ?_
     ·refine oq (Ah Aa) (oq (A2 Aa) (oq (Ad BC Aa Cf Aa Aa) (of (Aq (i:=0) CC Aa Aa Aa) (oq (Ah Aa) (oq (A2 Aa) (oq (Ad BC Aa BU Aa Aa) (of (Aq (i:=0) Cg Aa Aa Aa) (oq (AZ Ce Aa) (oq (C8 Aa Aa) (oq (Ah Aa) (on hf (oq (Ah Aa) (on hf (oq (A2 Aa) (on hf (oq (Ad BC Aa BU Aa Aa) (on hf (of (Aq (i:=0) Cg Aa Aa Aa) (on hf (oq (Ah Aa) (on hf (oq (A2 Aa) (on hf ?_)))))))))))))))))))))));refine oq (Ad BC Aa Cf Aa Aa) (on hf (of (Aq (i:=0) CC Aa Aa Aa) (on hf (oq (Bb Ce Aa Aa (Ch hn hf)) (on hf (oq (ER Aa Aa) (oq (Ao Aa hf Aa) (oq (Ah Aa) (on hg (oq (Ah Aa) (on hg (oq (A2 Aa) (on hg (oq (Ad BC Aa BU Aa Aa) (on hg (of (Aq (i:=0) Cg Aa Aa Aa) (on hg (oq (Ah Aa) (on hg (oq (A2 Aa) (on hg (oq (Ad BC Aa Cf Aa Aa) (on hg ?_)))))))))))))))))))))));refine of (Aq (i:=0) CC Aa Aa Aa) (on hg (oq (Bb Ce Aa Aa (Ch hn hf)) (on hg (oq (Jj Aa Aa) (oq (Ao Aa hg Aa) ?_)))));exact BS
     exact BO (And.intro hf hg)
    ·refine Cu [0,3,4] [⟨[],rv (.pointer (some ⟨ha,0,none⟩)),0⟩,⟨[0],rv (.pointer (some ⟨ha,0,none⟩)),0⟩,⟨[1],rv (.pointer (some ⟨ha,1,none⟩)),0⟩,⟨[2],rI .i64 he,1⟩,⟨[],rv (.pointer (some ⟨ha,0,none⟩)),0⟩,⟨[4],rv (.pointer (some ⟨ha,0,none⟩)),0⟩,⟨[5],rv (.pointer (some ⟨ha,0,none⟩)),0⟩,⟨[6],rS r1.2.fS,1⟩,⟨[7],rI .i64 (r1.2.fS.length:Int),0⟩,⟨[3,8],rB (decide (he<(r1.2.fS.length:Int))),0⟩,⟨[9],rB (decide (he<(r1.2.fS.length:Int))),0⟩,⟨[10],rv (.pointer (some ⟨ha,0,none⟩)),0⟩,⟨[11,10],rv (.pointer (some ⟨ha,0,none⟩)),0⟩,⟨[12,10],rv (.pointer (some ⟨ha,0,none⟩)),0⟩,⟨[13,10],rS r1.2.fS,1⟩,⟨[10],rv (.pointer (some ⟨ha,0,none⟩)),0⟩,⟨[15,10],rv (.pointer (some ⟨ha,0,none⟩)),0⟩,⟨[16,10],rv (.pointer (some ⟨ha,1,none⟩)),0⟩,⟨[17,10],rI .i64 he,1⟩,⟨[14,18,10],rI .u8 (AY r1.2.fS he),0⟩,⟨[19,10],rB (decide (48≤(AY r1.2.fS he))),0⟩,⟨[10,20],rB (decide (48≤(AY r1.2.fS he))),0⟩,⟨[21],rB (decide (48≤(AY r1.2.fS he))),0⟩,⟨[22],rv undef,0⟩,⟨[23,22],rv undef,0⟩,⟨[24,22],rv undef,0⟩,⟨[25,22],rv undef,0⟩,⟨[22],rv undef,0⟩,⟨[27,22],rv undef,0⟩,⟨[28,22],rv undef,0⟩,⟨[29,22],rv undef,0⟩,⟨[26,30,22],rv undef,0⟩,⟨[31,22],rv undef,0⟩,⟨[22,32],rB false,0⟩] [17,18,19,20,21,22,23,24,25,26,27,28,29,30,31,32,33,34,35,36,37,38,39,40,41,42,43,44,45,46,47,48,49,50,0,3,4] ?_ ?_
     ·refine oq (Ah Aa) (oq (A2 Aa) (oq (Ad BC Aa Cf Aa Aa) (of (Aq (i:=0) CC Aa Aa Aa) (oq (Ah Aa) (oq (A2 Aa) (oq (Ad BC Aa BU Aa Aa) (of (Aq (i:=0) Cg Aa Aa Aa) (oq (AZ Ce Aa) (oq (C8 Aa Aa) (oq (Ah Aa) (on hf (oq (Ah Aa) (on hf (oq (A2 Aa) (on hf (oq (Ad BC Aa BU Aa Aa) (on hf (of (Aq (i:=0) Cg Aa Aa Aa) (on hf (oq (Ah Aa) (on hf (oq (A2 Aa) (on hf ?_)))))))))))))))))))))));refine oq (Ad BC Aa Cf Aa Aa) (on hf (of (Aq (i:=0) CC Aa Aa Aa) (on hf (oq (Bb Ce Aa Aa (Ch hn hf)) (on hf (oq (ER Aa Aa) (oq (Ao Aa hf Aa) (oq (Ah Aa) (oz hg (oz hg (oz hg (oz hg (oz hg (oz hg (oz hg (oz hg (oz hg (oz hg (oq (Ar (b:=decide (48≤(AY r1.2.fS he))) Aa hg Aa) ?_)))))))))))))))))));exact BS
     exact BO (And.intro hf hg)
   ·refine Cu [0,3,4] [⟨[],rv (.pointer (some ⟨ha,0,none⟩)),0⟩,⟨[0],rv (.pointer (some ⟨ha,0,none⟩)),0⟩,⟨[1],rv (.pointer (some ⟨ha,1,none⟩)),0⟩,⟨[2],rI .i64 he,1⟩,⟨[],rv (.pointer (some ⟨ha,0,none⟩)),0⟩,⟨[4],rv (.pointer (some ⟨ha,0,none⟩)),0⟩,⟨[5],rv (.pointer (some ⟨ha,0,none⟩)),0⟩,⟨[6],rS r1.2.fS,1⟩,⟨[7],rI .i64 (r1.2.fS.length:Int),0⟩,⟨[3,8],rB (decide (he<(r1.2.fS.length:Int))),0⟩,⟨[9],rB (decide (he<(r1.2.fS.length:Int))),0⟩,⟨[10],rv undef,0⟩,⟨[11,10],rv undef,0⟩,⟨[12,10],rv undef,0⟩,⟨[13,10],rv undef,0⟩,⟨[10],rv undef,0⟩,⟨[15,10],rv undef,0⟩,⟨[16,10],rv undef,0⟩,⟨[17,10],rv undef,0⟩,⟨[14,18,10],rv undef,0⟩,⟨[19,10],rv undef,0⟩,⟨[10,20],rB false,0⟩,⟨[21],rB false,0⟩,⟨[22],rv undef,0⟩,⟨[23,22],rv undef,0⟩,⟨[24,22],rv undef,0⟩,⟨[25,22],rv undef,0⟩,⟨[22],rv undef,0⟩,⟨[27,22],rv undef,0⟩,⟨[28,22],rv undef,0⟩,⟨[29,22],rv undef,0⟩,⟨[26,30,22],rv undef,0⟩,⟨[31,22],rv undef,0⟩,⟨[22,32],rB false,0⟩] [17,18,19,20,21,22,23,24,25,26,27,28,29,30,31,32,33,34,35,36,37,38,39,40,41,42,43,44,45,46,47,48,49,50,0,3,4] ?_ ?_
    ·refine oq (Ah Aa) (oq (A2 Aa) (oq (Ad BC Aa Cf Aa Aa) (of (Aq (i:=0) CC Aa Aa Aa) (oq (Ah Aa) (oq (A2 Aa) (oq (Ad BC Aa BU Aa Aa) (of (Aq (i:=0) Cg Aa Aa Aa) (oq (AZ Ce Aa) (oq (C8 Aa Aa) (oq (Ah Aa) (oz hf (oz hf (oz hf (oz hf (oz hf (oz hf (oz hf (oz hf (oz hf (oz hf (oq (Ar (b:=decide (he<(r1.2.fS.length:Int))) Aa hf Aa) (oq (Ah Aa) (oz Aa ?_)))))))))))))))))))))));refine oz Aa (oz Aa (oz Aa (oz Aa (oz Aa (oz Aa (oz Aa (oz Aa (oz Aa (oq (Ar (b:=false) Aa Aa Aa) ?_)))))))));exact BS
    exact BO hf
  refine Au (b:=((decide (he<(r1.2.fS.length:Int)))&&((decide (48≤(AY r1.2.fS he)))&&(decide ((AY r1.2.fS he)≤57))))) Aa (λho=>?_) (λho=>?_)
  ·have h6:=AE ho hr;refine Aw (AP (AJ (Ai (wm Aa (wv (A2 Aa) (wv (Ad BC Aa Cf Aa Aa) (wv (Aq (i:=0) CC Aa Aa Aa) ?_)))))));obtain⟨h7,h8⟩:=Az h6;refine wv (Bu Aa Aa h7) (wv (A2 Aa) (wv (Ad BC Aa Cf Aa Aa) (B0 (i:=0) Cf Aa Aa (BV Aa) Aa Aa (cs':=[rS r1.2.fS,rI .i64 (he+1),rv v4,rB r1.2.fGreat]) Aa (H':=[.blk ha [rS r1.2.fS,rI .i64 (he+1),rv v4,rB r1.2.fGreat] 87,.row v4 50 4 (List.map Ab r1.2.fCells)]) Aa (Aj (AG ?_)))));have h9:=Bk h8 hq;exact Ap (AI (hz,he+1,()) ⟨h9,U0 _⟩ (AK.c Aa (AK.c Aa (AK.c Aa AK.nil))) (sC (sC sN)))
  ·have hA:=AF ho hr;refine B4 (A4 ?_);have hB:=Cv hA hq hx;exact A4 (Bt (AI (he,()) hB (AK.c Aa (AK.c Aa (AK.c Aa AK.nil))) (sC (sC sN))))
 ·rintro⟨hd,⟨⟩⟩ hm;refine Dd (l':=[(0,rv (.pointer (some ⟨ha,0,none⟩))),(3,rI .i64 q.fAt),(4,rI .i64 r1.2.fAt)]) (H':=[.blk ha [rS r1.2.fS,rI .i64 hd,rv v4,rB r1.2.fGreat] 87,.row v4 50 4 (List.map Ab r1.2.fCells)]) Aa Aa ?_;replace hm:Iy q r1 hd=some r:=hm;unfold Iy at hm;refine Bi (AP (Am ?_));obtain⟨hC,hD⟩:=Az hm;obtain⟨hE,hG⟩:=Az hD;obtain⟨hH,hs⟩:=Az hG;refine Cu [0,3,4] [⟨[],rv (.pointer (some ⟨ha,0,none⟩)),0⟩,⟨[0],rv (.pointer (some ⟨ha,0,none⟩)),0⟩,⟨[1],rv (.pointer (some ⟨ha,0,none⟩)),0⟩,⟨[2],rS r1.2.fS,1⟩,⟨[],rI .i64 q.fAt,0⟩,⟨[],rv (.pointer (some ⟨ha,0,none⟩)),0⟩,⟨[5],rv (.pointer (some ⟨ha,0,none⟩)),0⟩,⟨[6],rv (.pointer (some ⟨ha,1,none⟩)),0⟩,⟨[7],rI .i64 hd,1⟩,⟨[3,4,8],rS (List.take (Int.toNat hd-Int.toNat q.fAt) (List.drop (Int.toNat q.fAt) r1.2.fS)),0⟩,⟨[9],CV [rI .i64 (Bs (List.take (Int.toNat hd-Int.toNat q.fAt) (List.drop (Int.toNat q.fAt) r1.2.fS))),rI .i64 (BK (List.take (Int.toNat hd-Int.toNat q.fAt) (List.drop (Int.toNat q.fAt) r1.2.fS)))],0⟩,⟨[10],CV [rI .i64 (Bs (List.take (Int.toNat hd-Int.toNat q.fAt) (List.drop (Int.toNat q.fAt) r1.2.fS))),rI .i64 (BK (List.take (Int.toNat hd-Int.toNat q.fAt) (List.drop (Int.toNat q.fAt) r1.2.fS)))],0⟩,⟨[11],rI .i64 (Bs (List.take (Int.toNat hd-Int.toNat q.fAt) (List.drop (Int.toNat q.fAt) r1.2.fS))),0⟩,⟨[11],rI .i64 (BK (List.take (Int.toNat hd-Int.toNat q.fAt) (List.drop (Int.toNat q.fAt) r1.2.fS))),0⟩,⟨[12],rI .i64 (Bs (List.take (Int.toNat hd-Int.toNat q.fAt) (List.drop (Int.toNat q.fAt) r1.2.fS))),0⟩,⟨[13],rI .i64 (BK (List.take (Int.toNat hd-Int.toNat q.fAt) (List.drop (Int.toNat q.fAt) r1.2.fS))),0⟩] [5,6,0,4] ?_ ?_
  ·refine oq (Ah Aa) (oq (A2 Aa) (oq (Ad BC Aa BU Aa Aa) (of (Aq (i:=0) Cg Aa Aa Aa) (oq (Ah Aa) (oq (Ah Aa) (oq (A2 Aa) (oq (Ad BC Aa Cf Aa Aa) (of (Aq (i:=0) CC Aa Aa Aa) (oq (Eg Ce Aa Aa Aa hC hE) (Ct Aa (λH=>Hx (rs:=[rS (List.take (Int.toNat hd-Int.toNat q.fAt) (List.drop (Int.toNat q.fAt) r1.2.fS))]) (r:=CV [rI .i64 (Bs (List.take (Int.toNat hd-Int.toNat q.fAt) (List.drop (Int.toNat q.fAt) r1.2.fS))),rI .i64 (BK (List.take (Int.toNat hd-Int.toNat q.fAt) (List.drop (Int.toNat q.fAt) r1.2.fS)))]) Tryz.call35 Aa (Oe (List.take (Int.toNat hd-Int.toNat q.fAt) (List.drop (Int.toNat q.fAt) r1.2.fS)) hH) Aa) ?_))))))))));refine oq (Ah Aa) (oq (AD Aa Aa) (oq (AD Aa Aa) (oq (Ae Aa) (oq (Ae Aa) ?_))));exact BS
  refine AP (Am (AB [(0,rv (.pointer (some ⟨ha,0,none⟩))),(5,rI .i64 (Bs (List.take (Int.toNat hd-Int.toNat q.fAt) (List.drop (Int.toNat q.fAt) r1.2.fS)))),(6,rI .i64 (BK (List.take (Int.toNat hd-Int.toNat q.fAt) (List.drop (Int.toNat q.fAt) r1.2.fS)))),(81,rB ((decide ((BK (List.take (Int.toNat hd-Int.toNat q.fAt) (List.drop (Int.toNat q.fAt) r1.2.fS)))=1))||(decide (r1.2.fAt=hd))))] [.blk ha [rS r1.2.fS,rI .i64 hd,rv v4,rB r1.2.fGreat] 87,.row v4 50 4 (List.map Ab r1.2.fCells)] ?_ ?_))
  ·refine Ai (wm Aa (wv (Bh Aa Aa) (wm Aa (A7 (decide ((BK (List.take (Int.toNat hd-Int.toNat q.fAt) (List.drop (Int.toNat q.fAt) r1.2.fS)))=1)) (λhh=>?_) (λhh=>?_)))))
   ·refine wf hh (wf hh (wf hh (wf hh (wf hh (wf hh (wv (r:=rB true) (Ao (b:=decide ((BK (List.take (Int.toNat hd-Int.toNat q.fAt) (List.drop (Int.toNat q.fAt) r1.2.fS)))=1)) Aa hh Aa) (Aj ?_)))))));exact BO hh
   ·refine wo hh (wm Aa (wo hh (wm Aa (wo hh (wv (A2 Aa) (wo hh (wv (Ad BC Aa Cf Aa Aa) (wo hh (wv (Aq (i:=0) CC Aa Aa Aa) (wo hh (wv (Bh Aa Aa) (ET Aa hh Aa (Aj ?_)))))))))))));exact BO hh
  refine Au (b:=((decide ((BK (List.take (Int.toNat hd-Int.toNat q.fAt) (List.drop (Int.toNat q.fAt) r1.2.fS)))=1))||(decide (r1.2.fAt=hd)))) Aa (λhp=>?_) (λhp=>?_)
  ·have hI:=AE hp hs;refine Al (wv (r:=rB false) (Ae Aa) (As (Ay (Af ?_))));obtain rfl:=A0 hI;exact Ax (BG Tryz.results109 (AM Aa)) (sC (sC sN)) ⟨v4,Aa,Aa⟩
  ·have hJ:=AF hp hs;refine Aw (AP (AB [(0,rv (.pointer (some ⟨ha,0,none⟩))),(5,rI .i64 (Bs (List.take (Int.toNat hd-Int.toNat q.fAt) (List.drop (Int.toNat q.fAt) r1.2.fS))))] [.blk ha [rS r1.2.fS,rI .i64 hd,rv v4,rB (r1.2.fGreat||(!decide ((BK (List.take (Int.toNat hd-Int.toNat q.fAt) (List.drop (Int.toNat q.fAt) r1.2.fS)))=0)))] 87,.row v4 50 4 (List.map Ab r1.2.fCells)] ?_ ?_))
   ·refine Ai (wm Aa (wm Aa (wv (A2 Aa) (wv (Ad BC Aa G9 Aa Aa) (wv (Aq (i:=0) PD Aa Aa Aa) (wm Aa (A7 (r1.2.fGreat) (λhi=>?_) (λhi=>?_))))))))
    ·refine wf hi (wf hi (wv (r:=rB true) (Ao (b:=r1.2.fGreat) rfl hi rfl) (wv (A2 rfl) (wv (Ad BC rfl G9 rfl rfl) (B0 (i:=0) G9 rfl rfl (BV rfl) rfl rfl (cs':=[rS r1.2.fS,rI .i64 hd,rv v4,rB true]) rfl (H':=[.blk ha [rS r1.2.fS,rI .i64 hd,rv v4,rB true] 87,.row v4 50 4 (List.map Ab r1.2.fCells)]) rfl (Aj (GA (H':=[.blk ha [rS r1.2.fS,rI .i64 hd,rv v4,rB (r1.2.fGreat||(!decide ((BK (List.take (Int.toNat hd-Int.toNat q.fAt) (List.drop (Int.toNat q.fAt) r1.2.fS)))=0)))] 87,.row v4 50 4 (List.map Ab r1.2.fCells)]) (by simp only[hi,U3,U6,UF,U4,UB,U8,UD,U9,Uy,U7,Uz,Uu]) ?_)))))));exact wt
    ·refine wo hi (wm rfl (wo hi (wv (DB rfl rfl) (ET rfl hi rfl (wv (A2 rfl) (wv (Ad BC rfl G9 rfl rfl) (B0 (i:=0) G9 rfl rfl (BV rfl) rfl rfl (cs':=[rS r1.2.fS,rI .i64 hd,rv v4,rB (!decide ((BK (List.take (Int.toNat hd-Int.toNat q.fAt) (List.drop (Int.toNat q.fAt) r1.2.fS)))=0))]) rfl (H':=[.blk ha [rS r1.2.fS,rI .i64 hd,rv v4,rB (!decide ((BK (List.take (Int.toNat hd-Int.toNat q.fAt) (List.drop (Int.toNat q.fAt) r1.2.fS)))=0))] 87,.row v4 50 4 (List.map Ab r1.2.fCells)]) rfl (Aj (GA (H':=[.blk ha [rS r1.2.fS,rI .i64 hd,rv v4,rB (r1.2.fGreat||(!decide ((BK (List.take (Int.toNat hd-Int.toNat q.fAt) (List.drop (Int.toNat q.fAt) r1.2.fS)))=0)))] 87,.row v4 50 4 (List.map Ab r1.2.fCells)]) (by simp only[hi,U3,U6,UF,U4,UB,U8,UD,U9,Uy,U7,Uz,Uu]) ?_)))))))));exact wt
   refine Al (wm Aa (wm Aa (wv (A2 Aa) (wv (Ad BC Aa Di Aa Aa) (wv (Aq (i:=0) Gb Aa Aa Aa) (wm Aa (wv (r:=Bo [rI .i64 3,rI .i64 (Bs (List.take (Int.toNat hd-Int.toNat q.fAt) (List.drop (Int.toNat q.fAt) r1.2.fS))),rS ([]:Ak),rI .i64 0]) (HV Aa Aa Aa Aa) (Bp (ys:=([(Ac.mk 3 (Bs (List.take (Int.toNat hd-Int.toNat q.fAt) (List.drop (Int.toNat q.fAt) r1.2.fS))) ([]:Ak) 0)]:List Ac)) (enc:=Ab) (css:=[[rI .i64 3,rI .i64 (Bs (List.take (Int.toNat hd-Int.toNat q.fAt) (List.drop (Int.toNat q.fAt) r1.2.fS))),rS ([]:Ak),rI .i64 0]]) (xs:=[.tmp 99]) BN Cm Ia Aa Aa Aa ⟨Gk.agg ⟨Up.refl _,Up.refl _,Up.refl _,Up.refl _,trivial⟩,trivial⟩ Aa Bj Aa Aa Aa (λht=>?_)))))))));obtain⟨hK,hL⟩:=Az hJ;obtain⟨inf,hinf⟩:=GQ;refine Ck (xs:=r1.2.fCells) (ys:=([(Ac.mk 3 (Bs (List.take (Int.toNat hd-Int.toNat q.fAt) (List.drop (Int.toNat q.fAt) r1.2.fS))) ([]:Ak) 0)]:List Ac)) (enc:=Ab) (i:=2) BN hinf.1 hinf.2.1 hinf.2.2.1 hinf.2.2.2 Aa Aa Aa Aa Aa (Jw.w (i:=0) Aa Aa) Bj Cj hK Aa (λhj=>?_);refine wv (A2 Aa) (wv (Ad BC Aa Di Aa Aa) (B0 (i:=2) Di Aa Aa (D0 (i:=0) Aa) Aa Aa (cs':=[rS r1.2.fS,rI .i64 hd,rv hj,rB (r1.2.fGreat||(!decide ((BK (List.take (Int.toNat hd-Int.toNat q.fAt) (List.drop (Int.toNat q.fAt) r1.2.fS)))=0)))]) Aa (H':=[.row hj 50 4 (List.map Ab (r1.2.fCells++([(Ac.mk 3 (Bs (List.take (Int.toNat hd-Int.toNat q.fAt) (List.drop (Int.toNat q.fAt) r1.2.fS))) ([]:Ak) 0)]:List Ac))),.row (.slice (some ⟨ht,0,none⟩) 1 1) 50 4 (List.map Ab ([(Ac.mk 3 (Bs (List.take (Int.toNat hd-Int.toNat q.fAt) (List.drop (Int.toNat q.fAt) r1.2.fS))) ([]:Ak) 0)]:List Ac)),.blk ha [rS r1.2.fS,rI .i64 hd,rv hj,rB (r1.2.fGreat||(!decide ((BK (List.take (Int.toNat hd-Int.toNat q.fAt) (List.drop (Int.toNat q.fAt) r1.2.fS)))=0)))] 87]) Aa (Bv (wv (r:=rB true) (Ae Aa) (As (Ay (CH (H2:=[.blk ha [rS r1.2.fS,rI .i64 hd,rv hj,rB (r1.2.fGreat||(!decide ((BK (List.take (Int.toNat hd-Int.toNat q.fAt) (List.drop (Int.toNat q.fAt) r1.2.fS)))=0)))] 87,.row hj 50 4 (List.map Ab (r1.2.fCells++([(Ac.mk 3 (Bs (List.take (Int.toNat hd-Int.toNat q.fAt) (List.drop (Int.toNat q.fAt) r1.2.fS))) ([]:Ak) 0)]:List Ac))),.row (.slice (some ⟨ht,0,none⟩) 1 1) 50 4 (List.map Ab ([(Ac.mk 3 (Bs (List.take (Int.toNat hd-Int.toNat q.fAt) (List.drop (Int.toNat q.fAt) r1.2.fS))) ([]:Ak) 0)]:List Ac))]) ((AC (i:=2) Aa).trans (Uv _ (Ur _))) ?_)))))));obtain rfl:=A0 hL;exact Ax (BG Tryz.results109 (AM Aa)) (sC (sC (sS sN))) ⟨hj,Aa,Aa⟩
theorem Nw (F:Nat)(hd:Nat)(hk:Value)(q:Av)(r:Bool×Av)(h:Kt F q=some r):Fn Tryz.prog GE 84 [rv (.pointer (some ⟨hd,0,none⟩))] [.blk hd [rS q.fS,rI .i64 q.fAt,rv hk,rB q.fGreat] 87,.row hk 50 4 (List.map Ab q.fCells)] (λR H=>∃w0_2:Value,R=rB r.1∧H=[.blk hd [rS r.2.fS,rI .i64 r.2.fAt,rv w0_2,rB r.2.fGreat] 87,.row w0_2 50 4 (List.map Ab r.2.fCells)]):=by
 refine enter (n:=75) Tryz.func84 Aa Tryz.ntmps84 Aa (λw Z=>?_);refine AR (l':=[(0,rv (.pointer (some ⟨hd,0,none⟩)))]) (H':=[.blk hd [rS q.fS,rI .i64 q.fAt,rv hk,rB q.fGreat] 87,.row hk 50 4 (List.map Ab q.fCells)]) Aa Aa ?_;unfold Kt at h;refine Al (wv (r:=rB false) (Ae Aa) (As (DH (S:=(Ak×Int×(List Ac)×Bool)×(Value)) (λσ=>Dj σ.1.1 σ.1.2.1 σ.1.2.2.1 σ.1.2.2.2=some r) (λσ=>[]) (λσ=>[.blk hd [rS σ.1.1,rI .i64 σ.1.2.1,rv σ.2,rB σ.1.2.2.2] 87,.row σ.2 50 4 (List.map Ab σ.1.2.2.1)]) ?_ ?_)))
 ·refine AJ (Al (wm Aa ?_));obtain⟨hf,hD,ht⟩:=AH h;refine Hk (Hr:=[]) Ib (CU hd hk q ([110,117,108,108]:Ak) hf hD) Aa (Ur _) Aa ?_;rintro _ _ ⟨hE,rfl,rfl⟩;refine wa Aa (As (Au (b:=hf.1) Aa (λhn=>?_) (λhn=>?_)))
  ·have hG:=AE hn ht;refine Ai (wm Aa (wm Aa (wv (A2 Aa) (wv (Ad BC Aa Di Aa Aa) (wv (Aq (i:=0) Gb Aa Aa Aa) (wv (r:=Bo [rI .i64 1,rI .i64 0,rS ([]:Ak),rI .i64 0]) (Ep Aa Aa) (Bp (ys:=([(Ac.mk 1 0 ([]:Ak) 0)]:List Ac)) (enc:=Ab) (css:=[[rI .i64 1,rI .i64 0,rS ([]:Ak),rI .i64 0]]) (xs:=[.tmp 15]) BN Cm Ia Aa Aa Aa ⟨Gk.agg ⟨Up.refl _,Up.refl _,Up.refl _,Up.refl _,trivial⟩,trivial⟩ Aa Bj Aa Aa Aa (λhu=>?_))))))));obtain⟨hH,hI⟩:=Az hG;obtain⟨inf,hinf⟩:=GQ;refine Ck (xs:=hf.2.fCells) (ys:=([(Ac.mk 1 0 ([]:Ak) 0)]:List Ac)) (enc:=Ab) (i:=2) BN hinf.1 hinf.2.1 hinf.2.2.1 hinf.2.2.2 Aa Aa Aa Aa Aa (Jw.w (i:=0) Aa Aa) Bj Cj hH Aa (λhh=>?_);exact wv (A2 Aa) (wv (Ad BC Aa Di Aa Aa) (B0 (i:=2) Di Aa Aa (D0 (i:=0) Aa) Aa Aa (cs':=[rS hf.2.fS,rI .i64 hf.2.fAt,rv hh,rB hf.2.fGreat]) Aa (H':=[.row hh 50 4 (List.map Ab (hf.2.fCells++([(Ac.mk 1 0 ([]:Ak) 0)]:List Ac))),.row (.slice (some ⟨hu,0,none⟩) 1 1) 50 4 (List.map Ab ([(Ac.mk 1 0 ([]:Ak) 0)]:List Ac)),.blk hd [rS hf.2.fS,rI .i64 hf.2.fAt,rv hh,rB hf.2.fGreat] 87]) Aa (Aj (AG (CH (H2:=[.blk hd [rS hf.2.fS,rI .i64 hf.2.fAt,rv hh,rB hf.2.fGreat] 87,.row hh 50 4 (List.map Ab (hf.2.fCells++([(Ac.mk 1 0 ([]:Ak) 0)]:List Ac))),.row (.slice (some ⟨hu,0,none⟩) 1 1) 50 4 (List.map Ab ([(Ac.mk 1 0 ([]:Ak) 0)]:List Ac))]) ((AC (i:=2) Aa).trans (Uv _ (Ur _))) (Ap (AI ((hf.2.fS,hf.2.fAt,hf.2.fCells++([(Ac.mk 1 0 ([]:Ak) 0)]:List Ac),hf.2.fGreat),hh) hI AK.nil (sC (sC (sS sN))))))))))
  ·have hJ:=AF hn ht;refine Al (wm Aa ?_);obtain⟨hg,hK,hw⟩:=AH hJ;refine Hk (Hr:=[]) Ib (CU hd hE hf.2 ([116,114,117,101]:Ak) hg hK) Aa (Ur _) Aa ?_;rintro _ _ ⟨v76,rfl,rfl⟩;refine wa Aa (As (Au (b:=hg.1) Aa (λho=>?_) (λho=>?_)))
   ·have hL:=AE ho hw;refine Ai (wm Aa (wm Aa (wv (A2 Aa) (wv (Ad BC Aa Di Aa Aa) (wv (Aq (i:=0) Gb Aa Aa Aa) (wv (r:=Bo [rI .i64 2,rI .i64 1,rS ([]:Ak),rI .i64 0]) (HV Aa Aa Aa Aa) (Bp (ys:=([(Ac.mk 2 1 ([]:Ak) 0)]:List Ac)) (enc:=Ab) (css:=[[rI .i64 2,rI .i64 1,rS ([]:Ak),rI .i64 0]]) (xs:=[.tmp 28]) BN Cm Ia Aa Aa Aa ⟨Gk.agg ⟨Up.refl _,Up.refl _,Up.refl _,Up.refl _,trivial⟩,trivial⟩ Aa Bj Aa Aa Aa (λhx=>?_))))))));obtain⟨hN,hO⟩:=Az hL;obtain⟨inf,hinf⟩:=GQ;refine Ck (xs:=hg.2.fCells) (ys:=([(Ac.mk 2 1 ([]:Ak) 0)]:List Ac)) (enc:=Ab) (i:=2) BN hinf.1 hinf.2.1 hinf.2.2.1 hinf.2.2.2 Aa Aa Aa Aa Aa (Jw.w (i:=0) Aa Aa) Bj Cj hN Aa (λv80=>?_);exact wv (A2 Aa) (wv (Ad BC Aa Di Aa Aa) (B0 (i:=2) Di Aa Aa (D0 (i:=0) Aa) Aa Aa (cs':=[rS hg.2.fS,rI .i64 hg.2.fAt,rv v80,rB hg.2.fGreat]) Aa (H':=[.row v80 50 4 (List.map Ab (hg.2.fCells++([(Ac.mk 2 1 ([]:Ak) 0)]:List Ac))),.row (.slice (some ⟨hx,0,none⟩) 1 1) 50 4 (List.map Ab ([(Ac.mk 2 1 ([]:Ak) 0)]:List Ac)),.blk hd [rS hg.2.fS,rI .i64 hg.2.fAt,rv v80,rB hg.2.fGreat] 87]) Aa (Aj (AG (CH (H2:=[.blk hd [rS hg.2.fS,rI .i64 hg.2.fAt,rv v80,rB hg.2.fGreat] 87,.row v80 50 4 (List.map Ab (hg.2.fCells++([(Ac.mk 2 1 ([]:Ak) 0)]:List Ac))),.row (.slice (some ⟨hx,0,none⟩) 1 1) 50 4 (List.map Ab ([(Ac.mk 2 1 ([]:Ak) 0)]:List Ac))]) ((AC (i:=2) Aa).trans (Uv _ (Ur _))) (Ap (AI ((hg.2.fS,hg.2.fAt,hg.2.fCells++([(Ac.mk 2 1 ([]:Ak) 0)]:List Ac),hg.2.fGreat),v80) hO AK.nil (sC (sC (sS sN))))))))))
   ·have hP:=AF ho hw;refine Al (wm Aa ?_);obtain⟨he,hQ,hy⟩:=AH hP;refine Hk (Hr:=[]) Ib (CU hd v76 hg.2 ([102,97,108,115,101]:Ak) he hQ) Aa (Ur _) Aa ?_;rintro _ _ ⟨hz,rfl,rfl⟩;refine wa Aa (As (Au (b:=he.1) Aa (λhp=>?_) (λhp=>?_)))
    ·have hR:=AE hp hy;refine Ai (wm Aa (wm Aa (wv (A2 Aa) (wv (Ad BC Aa Di Aa Aa) (wv (Aq (i:=0) Gb Aa Aa Aa) (wv (r:=Bo [rI .i64 2,rI .i64 0,rS ([]:Ak),rI .i64 0]) (Ep Aa Aa) (Bp (ys:=([(Ac.mk 2 0 ([]:Ak) 0)]:List Ac)) (enc:=Ab) (css:=[[rI .i64 2,rI .i64 0,rS ([]:Ak),rI .i64 0]]) (xs:=[.tmp 41]) BN Cm Ia Aa Aa Aa ⟨Gk.agg ⟨Up.refl _,Up.refl _,Up.refl _,Up.refl _,trivial⟩,trivial⟩ Aa Bj Aa Aa Aa (λh0=>?_))))))));obtain⟨hS,hT⟩:=Az hR;obtain⟨inf,hinf⟩:=GQ;refine Ck (xs:=he.2.fCells) (ys:=([(Ac.mk 2 0 ([]:Ak) 0)]:List Ac)) (enc:=Ab) (i:=2) BN hinf.1 hinf.2.1 hinf.2.2.1 hinf.2.2.2 Aa Aa Aa Aa Aa (Jw.w (i:=0) Aa Aa) Bj Cj hS Aa (λhi=>?_);exact wv (A2 Aa) (wv (Ad BC Aa Di Aa Aa) (B0 (i:=2) Di Aa Aa (D0 (i:=0) Aa) Aa Aa (cs':=[rS he.2.fS,rI .i64 he.2.fAt,rv hi,rB he.2.fGreat]) Aa (H':=[.row hi 50 4 (List.map Ab (he.2.fCells++([(Ac.mk 2 0 ([]:Ak) 0)]:List Ac))),.row (.slice (some ⟨h0,0,none⟩) 1 1) 50 4 (List.map Ab ([(Ac.mk 2 0 ([]:Ak) 0)]:List Ac)),.blk hd [rS he.2.fS,rI .i64 he.2.fAt,rv hi,rB he.2.fGreat] 87]) Aa (Aj (AG (CH (H2:=[.blk hd [rS he.2.fS,rI .i64 he.2.fAt,rv hi,rB he.2.fGreat] 87,.row hi 50 4 (List.map Ab (he.2.fCells++([(Ac.mk 2 0 ([]:Ak) 0)]:List Ac))),.row (.slice (some ⟨h0,0,none⟩) 1 1) 50 4 (List.map Ab ([(Ac.mk 2 0 ([]:Ak) 0)]:List Ac))]) ((AC (i:=2) Aa).trans (Uv _ (Ur _))) (Ap (AI ((he.2.fS,he.2.fAt,he.2.fCells++([(Ac.mk 2 0 ([]:Ak) 0)]:List Ac),he.2.fGreat),hi) hT AK.nil (sC (sC (sS sN))))))))))
    ·have hU:=AF hp hy;refine Am ?_;obtain⟨hV,hW⟩:=Az hU;obtain⟨hl,hX,h6⟩:=AH hW;refine Cu [0] [⟨[],rv (.pointer (some ⟨hd,0,none⟩)),0⟩,⟨[0],rv (.pointer (some ⟨hd,0,none⟩)),0⟩,⟨[1],rv (.pointer (some ⟨hd,0,none⟩)),0⟩,⟨[2],rS he.2.fS,1⟩,⟨[],rv (.pointer (some ⟨hd,0,none⟩)),0⟩,⟨[4],rv (.pointer (some ⟨hd,0,none⟩)),0⟩,⟨[5],rv (.pointer (some ⟨hd,1,none⟩)),0⟩,⟨[6],rI .i64 he.2.fAt,1⟩,⟨[3,7],rS (List.drop (Int.toNat he.2.fAt) he.2.fS),0⟩,⟨[8],rB hl,0⟩,⟨[9],rB hl,0⟩] [46,0] ?_ ?_
     ·refine oq (Ah Aa) (oq (A2 Aa) (oq (Ad BC Aa BU Aa Aa) (of (Aq (i:=0) Cg Aa Aa Aa) (oq (Ah Aa) (oq (A2 Aa) (oq (Ad BC Aa Cf Aa Aa) (of (Aq (i:=0) CC Aa Aa Aa) (oq (Dr Ce Aa Aa hV) (Ct Aa (λH=>Dg Tryz.call70 (JE (List.drop (Int.toNat he.2.fAt) he.2.fS) ([34]:Ak) hl hX) Aa) ?_)))))))));refine oq (Ae Aa) ?_;exact BS
     refine AP (Au (b:=hl) Aa (λhq=>?_) (λhq=>?_))
     ·have hY:=AE hq h6;refine Al (wm Aa ?_);obtain⟨ha,hZ,h7⟩:=AH hY;refine Hk (Hr:=[]) Tryz.call85 (NU F hd hz he.2 ha hZ) Aa (Ur _) Aa ?_;rintro _ _ ⟨ga,rfl,rfl⟩;refine wm Aa (wv (AD Aa Aa) (wv (AD Aa Aa) (wa Aa (wa Aa (As (Am (Al (wm Aa (wv (BL Aa) (As (Au (b:=!ha.2.1) Aa (λhr=>?_) (λhr=>?_))))))))))))
      ·have gb:=AE hr h7;refine Al (wv (r:=rB false) (Ae Aa) (As (Ay (Af (A5 (Af ?_))))));obtain rfl:=A0 gb;exact Ax (BG Tryz.results84 (AM Aa)) (sC (sC sN)) ⟨ga,Aa,Aa⟩
      ·have gc:=AF hr h7;refine Aw (AP (Ai (wm Aa (wm Aa (wv (A2 Aa) (wv (Ad BC Aa Di Aa Aa) (wv (Aq (i:=0) Gb Aa Aa Aa) (wm Aa (wv (r:=Bo [rI .i64 4,rI .i64 0,rS ha.1,rI .i64 0]) (HU Aa Aa Aa Aa) (Bp (ys:=([(Ac.mk 4 0 ha.1 0)]:List Ac)) (enc:=Ab) (css:=[[rI .i64 4,rI .i64 0,rS ha.1,rI .i64 0]]) (xs:=[.tmp 70]) BN Cm Ia Aa Aa Aa ⟨Gk.agg ⟨Up.refl _,Up.refl _,Up.refl _,Up.refl _,trivial⟩,trivial⟩ Aa Bj Aa Aa Aa (λh8=>?_)))))))))));obtain⟨gd,ge⟩:=Az gc;obtain⟨inf,hinf⟩:=GQ;refine Ck (xs:=ha.2.2.fCells) (ys:=([(Ac.mk 4 0 ha.1 0)]:List Ac)) (enc:=Ab) (i:=2) BN hinf.1 hinf.2.1 hinf.2.2.1 hinf.2.2.2 Aa Aa Aa Aa Aa (Jw.w (i:=0) Aa Aa) Bj Cj gd Aa (λhj=>?_);exact wv (A2 Aa) (wv (Ad BC Aa Di Aa Aa) (B0 (i:=2) Di Aa Aa (D0 (i:=0) Aa) Aa Aa (cs':=[rS ha.2.2.fS,rI .i64 ha.2.2.fAt,rv hj,rB ha.2.2.fGreat]) Aa (H':=[.row hj 50 4 (List.map Ab (ha.2.2.fCells++([(Ac.mk 4 0 ha.1 0)]:List Ac))),.row (.slice (some ⟨h8,0,none⟩) 1 1) 50 4 (List.map Ab ([(Ac.mk 4 0 ha.1 0)]:List Ac)),.blk hd [rS ha.2.2.fS,rI .i64 ha.2.2.fAt,rv hj,rB ha.2.2.fGreat] 87]) Aa (Aj (AG (CH (H2:=[.blk hd [rS ha.2.2.fS,rI .i64 ha.2.2.fAt,rv hj,rB ha.2.2.fGreat] 87,.row hj 50 4 (List.map Ab (ha.2.2.fCells++([(Ac.mk 4 0 ha.1 0)]:List Ac))),.row (.slice (some ⟨h8,0,none⟩) 1 1) 50 4 (List.map Ab ([(Ac.mk 4 0 ha.1 0)]:List Ac))]) ((AC (i:=2) Aa).trans (Uv _ (Ur _))) (Ap (AI ((ha.2.2.fS,ha.2.2.fAt,ha.2.2.fCells++([(Ac.mk 4 0 ha.1 0)]:List Ac),ha.2.2.fGreat),hj) ge AK.nil (sC (sC (sS sN))))))))))
     ·have gf:=AF hq h6;refine Al (wm Aa ?_);obtain⟨gg,gh,gi⟩:=AH gf;refine Hk (Hr:=[]) Tryz.call109 (R0 F hd hz he.2 gg gh) Aa (Ur _) Aa ?_;rintro _ _ ⟨gj,rfl,rfl⟩;refine wa Aa (As (Ay (A5 (Af ?_))));obtain rfl:=A0 gi;exact Ax (BG Tryz.results84 (AM Aa)) (sC (sC sN)) ⟨gj,Aa,Aa⟩
 ·rintro⟨⟨h9,hA,hB,hC⟩,hs⟩ hm;refine AR (l':=[]) (H':=[.blk hd [rS h9,rI .i64 hA,rv hs,rB hC] 87,.row hs 50 4 (List.map Ab hB)]) Aa Aa ?_;replace hm:Dj h9 hA hB hC=some r:=hm;unfold Dj at hm;refine Al (wv (r:=rB true) (Ae Aa) (As (Ay ?_)));obtain rfl:=A0 hm;exact Ax (BG Tryz.results84 (AM Aa)) (sC (sC sN)) ⟨hs,Aa,Aa⟩
theorem Nv (F:Nat)(hn:Av→Option (Bool×Av))(gv:(∀(hd:Nat) (hr:Value) (q:Av) (r:Bool×Av),hn q=some r→Fn Tryz.prog GE 56 [rv (.pointer (some ⟨hd,0,none⟩))] [.blk hd [rS q.fS,rI .i64 q.fAt,rv hr,rB q.fGreat] 87,.row hr 50 4 (List.map Ab q.fCells)] (λR H=>∃w0_2:Value,R=rB r.1∧H=[.blk hd [rS r.2.fS,rI .i64 r.2.fAt,rv w0_2,rB r.2.fGreat] 87,.row w0_2 50 4 (List.map Ab r.2.fCells)])))(hd:Nat)(hr:Value)(q:Av)(r:Bool×Av)(h:Kq F hn q=some r):Fn Tryz.prog GE 56 [rv (.pointer (some ⟨hd,0,none⟩))] [.blk hd [rS q.fS,rI .i64 q.fAt,rv hr,rB q.fGreat] 87,.row hr 50 4 (List.map Ab q.fCells)] (λR H=>∃w0_2:Value,R=rB r.1∧H=[.blk hd [rS r.2.fS,rI .i64 r.2.fAt,rv w0_2,rB r.2.fGreat] 87,.row w0_2 50 4 (List.map Ab r.2.fCells)]):=by
 refine enter (n:=96) Tryz.func56 Aa Tryz.ntmps56 Aa (λw Z=>?_);refine AR (l':=[(0,rv (.pointer (some ⟨hd,0,none⟩)))]) (H':=[.blk hd [rS q.fS,rI .i64 q.fAt,rv hr,rB q.fGreat] 87,.row hr 50 4 (List.map Ab q.fCells)]) Aa Aa ?_;unfold Kq at h;refine Al (wv (r:=rB false) (Ae Aa) (Bv (wm Aa ?_)));obtain⟨r1,e3,h2⟩:=AH h;refine Hk (Hr:=[]) Ib (CU hd hr q ([91]:Ak) r1 e3) Aa (Ur _) Aa ?_;rintro _ _ ⟨v4,rfl,rfl⟩;refine wa Aa (As (Am (DH (S:=(Bool×Ak×Int×(List Ac)×Bool)×(Value)) (λσ=>EE F hn r1 σ.1.1 σ.1.2.1 σ.1.2.2.1 σ.1.2.2.2.1 σ.1.2.2.2.2=some r) (λσ=>[(0,rv (.pointer (some ⟨hd,0,none⟩))),(2,rB false),(3,rB r1.1),(19,rB σ.1.1)]) (λσ=>[.blk hd [rS σ.1.2.1,rI .i64 σ.1.2.2.1,rv σ.2,rB σ.1.2.2.2.2] 87,.row σ.2 50 4 (List.map Ab σ.1.2.2.2.1)]) ?_ ?_)))
 ·refine Ai (wm Aa (wv (BL Aa) (wm Aa (A7 (!r1.1) (λhj=>?_) (λhj=>?_)))))
  ·have gI:=AE hj h2;refine wo hj (wm Aa (wo hj ?_));obtain⟨ht,gJ,gK⟩:=AH gI;refine Hk (Hr:=[]) Ib (CU hd v4 r1.2 ([123]:Ak) ht gJ) Aa (Ur _) Aa ?_;rintro _ _ ⟨gL,rfl,rfl⟩;exact wo hj (wv (BL Aa) (EA Aa hj Aa (Aj (Ap (AI ((!ht.1,ht.2.fS,ht.2.fAt,ht.2.fCells,ht.2.fGreat),gL) gK (AK.c Aa (AK.c Aa (AK.c Aa (AK.c Aa AK.nil)))) (sC (sC sN)))))))
  ·have gM:=AF hj h2;exact wf hj (wf hj (wf hj (wv (r:=rB false) (Ar (b:=!r1.1) Aa hj Aa) (Aj (Ap (AI ((false,r1.2.fS,r1.2.fAt,r1.2.fCells,r1.2.fGreat),v4) gM (AK.c Aa (AK.c Aa (AK.c Aa (AK.c Aa AK.nil)))) (sC (sC sN))))))))
 ·rintro⟨⟨hQ,ho,hp,he,hq⟩,hR⟩ h7;refine AR (l':=[(0,rv (.pointer (some ⟨hd,0,none⟩))),(2,rB false),(3,rB r1.1),(19,rB hQ)]) (H':=[.blk hd [rS ho,rI .i64 hp,rv hR,rB hq] 87,.row hR 50 4 (List.map Ab he)]) Aa Aa ?_;replace h7:EE F hn r1 hQ ho hp he hq=some r:=h7;unfold EE at h7;refine Au (b:=hQ) Aa (λhS=>?_) (λhS=>?_)
  ·have gN:=AE hS h7;refine Al (wm Aa ?_);obtain⟨gO,gP,gQ⟩:=AH gN;refine Hk (Hr:=[]) Tryz.call84 (Nw F hd hR (Av.mk ho hp he hq) gO gP) Aa (Ur _) Aa ?_;rintro _ _ ⟨gR,rfl,rfl⟩;refine wa Aa (As (Ay (Af ?_)));obtain rfl:=A0 gQ;exact Ax (BG Ld (AM Aa)) (sC (sC sN)) ⟨gR,Aa,Aa⟩
  ·have gw:=AF hS h7;refine Aw (AP (Al (wv (r:=rI .i64 6) (Ae Aa) (wv (r:=rS ([125]:Ak)) (Ae Aa) (As (Am (Al (wm Aa (As (Au (b:=r1.1) Aa (λh8=>?_) (λh8=>?_)))))))))))
   ·have gS:=AE h8 gw;refine Ai (wv (r:=rI .i64 5) (Ae Aa) (wv (r:=rS ([93]:Ak)) (Ae Aa) (Bv (wm Aa (wv (A2 Aa) (wv (Ad BC Aa Di Aa Aa) (wv (Aq (i:=0) Gb Aa Aa Aa) (wv (CL (ys:=he) (enc:=Ab) (i:=1) BN Aa Aa) (wa Aa (Bv (wm Aa (wm Aa (wv (A2 Aa) (wv (Ad BC Aa Di Aa Aa) (wv (Aq (i:=0) Gb Aa Aa Aa) (wm Aa (wv (r:=Bo [rI .i64 5,rI .i64 0,rS ([]:Ak),rI .i64 0]) (Ep Aa Aa) (Bp (ys:=([(Ac.mk 5 0 ([]:Ak) 0)]:List Ac)) (enc:=Ab) (css:=[[rI .i64 5,rI .i64 0,rS ([]:Ak),rI .i64 0]]) (xs:=[.tmp 34]) BN Cm Ia Aa Aa Aa ⟨Gk.agg ⟨Up.refl _,Up.refl _,Up.refl _,Up.refl _,trivial⟩,trivial⟩ Aa Bj Aa Aa Aa (λgx=>?_)))))))))))))))))));obtain⟨gT,gU⟩:=Az gS;obtain⟨inf,hinf⟩:=GQ;refine Ck (xs:=he) (ys:=([(Ac.mk 5 0 ([]:Ak) 0)]:List Ac)) (enc:=Ab) (i:=2) BN hinf.1 hinf.2.1 hinf.2.2.1 hinf.2.2.2 Aa Aa Aa Aa Aa (Jw.w (i:=0) Aa Aa) Bj Cj gT Aa (λv37=>?_);refine wv (A2 Aa) (wv (Ad BC Aa Di Aa Aa) (B0 (i:=2) Di Aa Aa (D0 (i:=0) Aa) Aa Aa (cs':=[rS ho,rI .i64 hp,rv v37,rB hq]) Aa (H':=[.row v37 50 4 (List.map Ab (he++([(Ac.mk 5 0 ([]:Ak) 0)]:List Ac))),.row (.slice (some ⟨gx,0,none⟩) 1 1) 50 4 (List.map Ab ([(Ac.mk 5 0 ([]:Ak) 0)]:List Ac)),.blk hd [rS ho,rI .i64 hp,rv v37,rB hq] 87]) Aa (As (Am (Al (wm Aa (wm Aa ?_)))))));obtain⟨hu,gV,gy⟩:=AH gU;refine Hk (Hr:=[.row (.slice (some ⟨gx,0,none⟩) 1 1) 50 4 (List.map Ab ([(Ac.mk 5 0 ([]:Ak) 0)]:List Ac))]) Ib (CU hd v37 (Av.mk ho hp (he++([(Ac.mk 5 0 ([]:Ak) 0)]:List Ac)) hq) ([93]:Ak) hu gV) Aa ((AC (i:=2) Aa).trans (Uv _ (Ur _))) Aa ?_;rintro _ _ ⟨gz,rfl,rfl⟩;refine As (Au (b:=hu.1) Aa (λhT=>?_) (λhT=>?_))
    ·have gW:=AE hT gy;refine Al (wv (r:=rB true) (Ae Aa) (As (Ay (Af ?_))));obtain rfl:=A0 gW;exact Ax (BG Ld (AM Aa)) (sC (sC (sS sN))) ⟨gz,Aa,Aa⟩
    ·have gX:=AF hT gy;refine Aw (AP (Al (wv (r:=rS ([]:Ak)) (Ae Aa) (Bv (wv (r:=rI .i64 1) (Ae Aa) (As (AJ ?_)))))));obtain⟨gY,gZ,hU⟩:=AH gX;refine B2 (S:=Nat×(Int×Ak×Int×(List Ac)×Bool)×(Value)) (V:=(Unit)×(Unit)) 0 (λσ=>Cn (λσ=>GF hn he σ.1 σ.2.1 σ.2.2.1 σ.2.2.2.1 σ.2.2.2.2) σ.1 σ.2.1=some gY) (λσ=>[(0,rv (.pointer (some ⟨hd,0,none⟩))),(2,rB false),(3,rB r1.1),(5,rS ([93]:Ak)),(6,rI .i64 (he.length:Int)),(7,rS ([]:Ak)),(8,rI .i64 σ.2.1.1)]) (λσ=>[.blk hd [rS σ.2.1.2.1,rI .i64 σ.2.1.2.2.1,rv σ.2.2,rB σ.2.1.2.2.2.2] 87,.row σ.2.2 50 4 (List.map Ab σ.2.1.2.2.2.1)]) (λσ=>σ.1) (F,(1,hu.2.fS,hu.2.fAt,hu.2.fCells,hu.2.fGreat),gz) gZ (AK.c Aa (AK.c Aa (AK.c5 Aa Aa Aa Aa Aa AK.nil))) (sC (sC (sS sN))) (λσ=>Ks =some r) (λσ=>[]) (λσ=>[]) ?_ ?_
     ·rintro⟨xi,⟨h9,hV,hW,hX,hY⟩,hZ⟩ ca;refine AR (l':=[(0,rv (.pointer (some ⟨hd,0,none⟩))),(2,rB false),(3,rB r1.1),(5,rS ([93]:Ak)),(6,rI .i64 (he.length:Int)),(7,rS ([]:Ak)),(8,rI .i64 h9)]) (H':=[.blk hd [rS hV,rI .i64 hW,rv hZ,rB hY] 87,.row hZ 50 4 (List.map Ab hX)]) Aa Aa ?_;obtain⟨cb,rfl,cc,hI,hJ⟩:=CM ca;replace hI:GF hn he h9 hV hW hX hY=some cc:=hI;unfold GF at hI;refine Am (AJ (Am (Al (wm Aa (wv (BL Aa) (As (Db Aa (Tz h8) (Aw (AP (Am (Al (wm Aa ?_))))))))))));obtain⟨hf,cd,g0⟩:=AH hI;refine Hk (Hr:=[]) Tryz.call56 (gv hd hZ (Av.mk hV hW hX hY) hf cd) Aa (Ur _) Aa ?_;rintro _ _ ⟨hw,rfl,rfl⟩;refine wv (BL Aa) (As (Au (b:=!hf.1) Aa (λga=>?_) (λga=>?_)))
      ·have ce:=AE ga g0;refine Al (wv (r:=rB false) (Ae Aa) (As (Ay (Af (A5 (Af (Af (Bf ?_))))))));have cf:=B5 ce hJ hU;refine A5 ?_;obtain rfl:=A0 cf;exact Ax (BG Ld (AM Aa)) (sC (sC sN)) ⟨hw,Aa,Aa⟩
      ·have cg:=AF ga g0;refine Aw (AP (Al (wm Aa (wv (A2 Aa) (wv (Ad BC Aa Di Aa Aa) (wv (Aq (i:=0) Gb Aa Aa Aa) (wm Aa (wm Aa ?_))))))));obtain⟨gb,ch⟩:=Az cg;refine wv (r:=rv (Et 4 hw (Int.toNat (he.length:Int)) 0)) (Ik (i:=1) BN Cm Aa Aa Aa (B9 gb)) (wv (r:=rv (Et 4 hw (Int.toNat (he.length:Int)) 3)) (DU (k:=1) Bm Aa Cf Aa (B9 gb) Aa Aa Aa) (Ht (enc:=Ab) (ys:=hf.2.fCells) (y':=(Ac.mk ((At hf.2.fCells (he.length:Int)).fKind) ((At hf.2.fCells (he.length:Int)).fInt) ((At hf.2.fCells (he.length:Int)).fStr) h9)) (i:=1) (j:=(he.length:Int)) Cf Aa Aa (BV Aa) Aa gb Aa Aa (H':=[.blk hd [rS hf.2.fS,rI .i64 hf.2.fAt,rv hw,rB hf.2.fGreat] 87,.row hw 50 4 (List.map Ab (List.set hf.2.fCells (Int.toNat (he.length:Int)) (Ac.mk ((At hf.2.fCells (he.length:Int)).fKind) ((At hf.2.fCells (he.length:Int)).fInt) ((At hf.2.fCells (he.length:Int)).fStr) h9)))]) Aa ?_));obtain⟨ci,cj,ck⟩:=D2 ch;rw[← cj];refine As (Am (Al (wm Aa (wm Aa ?_))));obtain⟨gc,cl,g1⟩:=AH ck;refine Hk (Hr:=[]) Ib (CU hd hw (Av.mk hf.2.fS hf.2.fAt ci hf.2.fGreat) ([93]:Ak) gc cl) Aa (Ur _) Aa ?_;rintro _ _ ⟨g2,rfl,rfl⟩;refine As (Au (b:=gc.1) Aa (λc167=>?_) (λc167=>?_))
       ·have cm:=AE c167 g1;refine Al (wv (r:=rB true) (Ae Aa) (As (Ay (Af (A5 (Af (Af (Bf ?_))))))));have cn:=B5 cm hJ hU;refine A5 ?_;obtain rfl:=A0 cn;exact Ax (BG Ld (AM Aa)) (sC (sC sN)) ⟨g2,Aa,Aa⟩
       ·have co:=AF c167 g1;refine Aw (AP (Al (wm Aa ?_)));obtain⟨hx,cp,g3⟩:=AH co;refine Hk (Hr:=[]) Ib (CU hd g2 gc.2 ([44]:Ak) hx cp) Aa (Ur _) Aa ?_;rintro _ _ ⟨g4,rfl,rfl⟩;refine wv (BL Aa) (As (Au (b:=!hx.1) Aa (λc175=>?_) (λc175=>?_)))
        ·have cq:=AE c175 g3;refine Al (wv (r:=rB false) (Ae Aa) (As (Ay (A5 (Af (Af (Bf ?_)))))));have cr:=B5 cq hJ hU;refine A5 ?_;obtain rfl:=A0 cr;exact Ax (BG Ld (AM Aa)) (sC (sC sN)) ⟨g4,Aa,Aa⟩
        ·have cs:=AF c175 g3;refine Aw (AG (AP (Ai (wm Aa ?_))));obtain⟨ct,cu⟩:=Az cs;refine wv (Bu Aa Aa ct) (wa Aa (Aj ?_));have cv:=Bk cu hJ;exact Ap (AI (cb,(h9+1,hx.2.fS,hx.2.fAt,hx.2.fCells,hx.2.fGreat),g4) ⟨cv,U0 _⟩ (AK.c Aa (AK.c Aa (AK.c5 Aa Aa Aa Aa Aa AK.nil))) (sC (sC sN)))
     ·rintro⟨⟨⟩,⟨⟩⟩ cw
      cases cw
   ·have cx:=AF h8 gw;refine Aw (AP (Al (wm Aa (wv (A2 Aa) (wv (Ad BC Aa Di Aa Aa) (wv (Aq (i:=0) Gb Aa Aa Aa) (wv (CL (ys:=he) (enc:=Ab) (i:=1) BN Aa Aa) (wa Aa (Bv (wm Aa (wm Aa (wv (A2 Aa) (wv (Ad BC Aa Di Aa Aa) (wv (Aq (i:=0) Gb Aa Aa Aa) (wm Aa (wv (r:=Bo [rI .i64 6,rI .i64 0,rS ([]:Ak),rI .i64 0]) (Ep Aa Aa) (Bp (ys:=([(Ac.mk 6 0 ([]:Ak) 0)]:List Ac)) (enc:=Ab) (css:=[[rI .i64 6,rI .i64 0,rS ([]:Ak),rI .i64 0]]) (xs:=[.tmp 34]) BN Cm Ia Aa Aa Aa ⟨Gk.agg ⟨Up.refl _,Up.refl _,Up.refl _,Up.refl _,trivial⟩,trivial⟩ Aa Bj Aa Aa Aa (λg5=>?_))))))))))))))))));obtain⟨cy,cz⟩:=Az cx;obtain⟨inf,hinf⟩:=GQ;refine Ck (xs:=he) (ys:=([(Ac.mk 6 0 ([]:Ak) 0)]:List Ac)) (enc:=Ab) (i:=2) BN hinf.1 hinf.2.1 hinf.2.2.1 hinf.2.2.2 Aa Aa Aa Aa Aa (Jw.w (i:=0) Aa Aa) Bj Cj cy Aa (λhK=>?_);refine wv (A2 Aa) (wv (Ad BC Aa Di Aa Aa) (B0 (i:=2) Di Aa Aa (D0 (i:=0) Aa) Aa Aa (cs':=[rS ho,rI .i64 hp,rv hK,rB hq]) Aa (H':=[.row hK 50 4 (List.map Ab (he++([(Ac.mk 6 0 ([]:Ak) 0)]:List Ac))),.row (.slice (some ⟨g5,0,none⟩) 1 1) 50 4 (List.map Ab ([(Ac.mk 6 0 ([]:Ak) 0)]:List Ac)),.blk hd [rS ho,rI .i64 hp,rv hK,rB hq] 87]) Aa (As (Am (Al (wm Aa (wm Aa ?_)))))));obtain⟨hy,c0,g6⟩:=AH cz;refine Hk (Hr:=[.row (.slice (some ⟨g5,0,none⟩) 1 1) 50 4 (List.map Ab ([(Ac.mk 6 0 ([]:Ak) 0)]:List Ac))]) Ib (CU hd hK (Av.mk ho hp (he++([(Ac.mk 6 0 ([]:Ak) 0)]:List Ac)) hq) ([125]:Ak) hy c0) Aa ((AC (i:=2) Aa).trans (Uv _ (Ur _))) Aa ?_;rintro _ _ ⟨g7,rfl,rfl⟩;refine As (Au (b:=hy.1) Aa (λgd=>?_) (λgd=>?_))
    ·have c1:=AE gd g6;refine Al (wv (r:=rB true) (Ae Aa) (As (Ay (Af ?_))));obtain rfl:=A0 c1;exact Ax (BG Ld (AM Aa)) (sC (sC (sS sN))) ⟨g7,Aa,Aa⟩
    ·have c2:=AF gd g6;refine Aw (AP (Al (wv (r:=rS ([]:Ak)) (Ae Aa) (Bv (wv (r:=rI .i64 1) (Ae Aa) (As (AJ ?_)))))));obtain⟨c3,c4,hL⟩:=AH c2;refine B2 (S:=Nat×(Ak×Int×Ak×Int×(List Ac)×Bool)×(Value)) (V:=(Unit)×(Unit)) 0 (λσ=>Cn (λσ=>GD F hn he σ.1 σ.2.1 σ.2.2.1 σ.2.2.2.1 σ.2.2.2.2.1 σ.2.2.2.2.2) σ.1 σ.2.1=some c3) (λσ=>[(0,rv (.pointer (some ⟨hd,0,none⟩))),(2,rB false),(3,rB r1.1),(5,rS ([125]:Ak)),(6,rI .i64 (he.length:Int)),(7,rS σ.2.1.1),(8,rI .i64 σ.2.1.2.1)]) (λσ=>[.blk hd [rS σ.2.1.2.2.1,rI .i64 σ.2.1.2.2.2.1,rv σ.2.2,rB σ.2.1.2.2.2.2.2] 87,.row σ.2.2 50 4 (List.map Ab σ.2.1.2.2.2.2.1)]) (λσ=>σ.1) (F,(([]:Ak),1,hy.2.fS,hy.2.fAt,hy.2.fCells,hy.2.fGreat),g7) c4 (AK.c Aa (AK.c Aa (AK.c5 Aa Aa Aa Aa Aa AK.nil))) (sC (sC (sS sN))) (λσ=>Kr =some r) (λσ=>[]) (λσ=>[]) ?_ ?_
     ·rintro⟨xj,⟨hg,hk,ge,gf,gg,gh⟩,gi⟩ c6;refine AR (l':=[(0,rv (.pointer (some ⟨hd,0,none⟩))),(2,rB false),(3,rB r1.1),(5,rS ([125]:Ak)),(6,rI .i64 (he.length:Int)),(7,rS hg),(8,rI .i64 hk)]) (H':=[.blk hd [rS ge,rI .i64 gf,rv gi,rB gh] 87,.row gi 50 4 (List.map Ab gg)]) Aa Aa ?_;obtain⟨c7,rfl,gj,hN,hA⟩:=CM c6;replace hN:GD F hn he hg hk ge gf gg gh=some gj:=hN;unfold GD at hN;refine Am (AJ (Am (Al (wm Aa (wv (BL Aa) (As (Ed Aa (T0 h8) (Al (wm Aa ?_)))))))));obtain⟨ha,c8,g8⟩:=AH hN;refine Hk (Hr:=[]) Tryz.call85 (NU F hd gi (Av.mk ge gf gg gh) ha c8) Aa (Ur _) Aa ?_;rintro _ _ ⟨hO,rfl,rfl⟩;refine wm Aa (wv (AD Aa Aa) (wv (AD Aa Aa) (wa Aa (wa Aa (As (Am (DH (S:=(Bool×Bool×Bool×Ak×Int×(List Ac)×Bool)×(Value)) (λσ=>DI hn he hk ha σ.1.1 σ.1.2.1 σ.1.2.2.1 σ.1.2.2.2.1 σ.1.2.2.2.2.1 σ.1.2.2.2.2.2.1 σ.1.2.2.2.2.2.2=some gj) (λσ=>[(0,rv (.pointer (some ⟨hd,0,none⟩))),(2,rB false),(3,rB r1.1),(5,rS ([125]:Ak)),(6,rI .i64 (he.length:Int)),(7,rS hg),(8,rI .i64 hk),(9,rS ha.1),(10,rB ha.2.1),(44,rB r1.1),(45,rB (!r1.1)),(46,CV [rS ha.1,rB ha.2.1]),(47,rv (.pointer (some ⟨hd,0,none⟩))),(48,CV [rS ha.1,rB ha.2.1]),(49,rS ha.1),(50,rB ha.2.1),(51,rB ha.2.1),(52,rB (!ha.2.1)),(53,rB (!ha.2.1)),(61,rB σ.1.1),(62,rB σ.1.2.1),(66,rB σ.1.2.2.1)]) (λσ=>[.blk hd [rS σ.1.2.2.2.1,rI .i64 σ.1.2.2.2.2.1,rv σ.2,rB σ.1.2.2.2.2.2.2] 87,.row σ.2 50 4 (List.map Ab σ.1.2.2.2.2.2.1)]) ?_ ?_)))))))
      ·refine Ai (wm Aa (wv (BL Aa) (wm Aa (A7 (!ha.2.1) (λhi=>?_) (λhi=>?_)))))
       ·have c9:=AE hi g8;exact wf hi (wf hi (wf hi (wu (wu (wu (wf hi (wv (r:=rB true) (Ao (b:=!ha.2.1) Aa hi Aa) (wm Aa (Ag (b:=true) Aa Aa Aa Aa (Ag (b:=true) Aa Aa Aa Aa (Ag (b:=true) Aa Aa Aa Aa (wv (r:=rB true) (Ao (b:=true) Aa Aa Aa) (Aj (Ap (AI ((true,true,true,ha.2.2.fS,ha.2.2.fAt,ha.2.2.fCells,ha.2.2.fGreat),hO) c9 (AK.c Aa (AK.c Aa (AK.c5 Aa Aa Aa Aa Aa (AK.c5 Aa Aa Aa Aa Aa (AK.c5 Aa Aa Aa Aa Aa (AK.c5 Aa Aa Aa Aa Aa AK.nil)))))) (sC (sC sN)))))))))))))))))
       ·have g9:=AF hi g8;refine wo hi (wm Aa (wo hi (wv (C1 Aa Aa) (wo hi (wm Aa (A7 (decide (1<hk)) (λhl=>?_) (λhl=>?_)))))))
        ·have gA:=AE hl g9;refine wo hl (wm Aa (wo hl (wm Aa (wo hl (wv (Oi Aa Aa) (wo hi (EA Aa hl Aa (ET Aa hi Aa (wm Aa (A7 (C2 ha.1 hg||decide (ha.1=hg)) (λhm=>?_) (λhm=>?_)))))))))))
         ·have cA:=AE hm gA;exact wf hm (wf hm (wf hm (wv (r:=rB true) (Ao (b:=C2 ha.1 hg||decide (ha.1=hg)) Aa hm Aa) (Aj (Ap (AI ((C2 ha.1 hg||decide (ha.1=hg),C2 ha.1 hg||decide (ha.1=hg),true,ha.2.2.fS,ha.2.2.fAt,ha.2.2.fCells,ha.2.2.fGreat),hO) cA (AK.c Aa (AK.c Aa (AK.c5 Aa Aa Aa Aa Aa (AK.c5 Aa Aa Aa Aa Aa (AK.c5 Aa Aa Aa Aa Aa (AK.c5 Aa Aa Aa Aa Aa AK.nil)))))) (sC (sC sN))))))))
         ·have cB:=AF hm gA;refine wo hm (wm Aa (wo hm ?_));obtain⟨hz,cC,cD⟩:=AH cB;refine Hk (Hr:=[]) Ib (CU hd hO ha.2.2 ([58]:Ak) hz cC) Aa (Ur _) Aa ?_;rintro _ _ ⟨cE,rfl,rfl⟩;exact wo hm (wv (BL Aa) (ET Aa hm Aa (Aj (Ap (AI ((C2 ha.1 hg||decide (ha.1=hg),C2 ha.1 hg||decide (ha.1=hg),!hz.1,hz.2.fS,hz.2.fAt,hz.2.fCells,hz.2.fGreat),cE) cD (AK.c Aa (AK.c Aa (AK.c5 Aa Aa Aa Aa Aa (AK.c5 Aa Aa Aa Aa Aa (AK.c5 Aa Aa Aa Aa Aa (AK.c5 Aa Aa Aa Aa Aa AK.nil)))))) (sC (sC sN)))))))
        ·have cF:=AF hl g9;refine wf hl (wf hl (wf hl (wo hi (wv (r:=rB false) (Ar (b:=decide (1<hk)) Aa hl Aa) (ET Aa hi Aa (wm Aa (AQ (b:=false) Aa Aa Aa (wm Aa (AQ (b:=false) Aa Aa Aa ?_)))))))));obtain⟨hs,cG,cH⟩:=AH cF;refine Hk (Hr:=[]) Ib (CU hd hO ha.2.2 ([58]:Ak) hs cG) Aa (Ur _) Aa ?_;rintro _ _ ⟨cI,rfl,rfl⟩;exact AQ (b:=false) Aa Aa Aa (wv (BL Aa) (wv (r:=rB (!hs.1)) (Ar (b:=false) Aa Aa Aa) (Aj (Ap (AI ((false,false,!hs.1,hs.2.fS,hs.2.fAt,hs.2.fCells,hs.2.fGreat),cI) cH (AK.c Aa (AK.c Aa (AK.c5 Aa Aa Aa Aa Aa (AK.c5 Aa Aa Aa Aa Aa (AK.c5 Aa Aa Aa Aa Aa (AK.c5 Aa Aa Aa Aa Aa AK.nil)))))) (sC (sC sN)))))))
      ·rintro⟨⟨gB,gC,gl,hB,hC,hD,hE⟩,gm⟩ hG;refine AR (l':=[(0,rv (.pointer (some ⟨hd,0,none⟩))),(2,rB false),(3,rB r1.1),(5,rS ([125]:Ak)),(6,rI .i64 (he.length:Int)),(7,rS hg),(8,rI .i64 hk),(9,rS ha.1),(10,rB ha.2.1),(44,rB r1.1),(45,rB (!r1.1)),(46,CV [rS ha.1,rB ha.2.1]),(47,rv (.pointer (some ⟨hd,0,none⟩))),(48,CV [rS ha.1,rB ha.2.1]),(49,rS ha.1),(50,rB ha.2.1),(51,rB ha.2.1),(52,rB (!ha.2.1)),(53,rB (!ha.2.1)),(61,rB gB),(62,rB gC),(66,rB gl)]) (H':=[.blk hd [rS hB,rI .i64 hC,rv gm,rB hE] 87,.row gm 50 4 (List.map Ab hD)]) Aa Aa ?_;replace hG:DI hn he hk ha gB gC gl hB hC hD hE=some gj:=hG;unfold DI at hG;refine Au (b:=gl) Aa (λgp=>?_) (λgp=>?_)
       ·have cJ:=AE gp hG;refine Al (wv (r:=rB false) (Ae Aa) (As (Ay (Af (Af (A5 (Af (Af (Bf ?_)))))))));have cK:=B5 cJ hA hL;refine A5 ?_;obtain rfl:=A0 cK;exact Ax (BG Ld (AM Aa)) (sC (sC sN)) ⟨gm,Aa,Aa⟩
       ·have cL:=AF gp hG;refine Aw (AP (Al (wm Aa (wa Aa (As (Ai (wm Aa (wm Aa (wv (A2 Aa) (wv (Ad BC Aa Di Aa Aa) (wv (Aq (i:=0) Gb Aa Aa Aa) (wm Aa (wv (r:=Bo [rI .i64 4,rI .i64 0,rS ha.1,rI .i64 0]) (HU Aa Aa Aa Aa) (Bp (ys:=([(Ac.mk 4 0 ha.1 0)]:List Ac)) (enc:=Ab) (css:=[[rI .i64 4,rI .i64 0,rS ha.1,rI .i64 0]]) (xs:=[.tmp 74]) BN Cm Ia Aa Aa Aa ⟨Gk.agg ⟨Up.refl _,Up.refl _,Up.refl _,Up.refl _,trivial⟩,trivial⟩ Aa Bj Aa Aa Aa (λhH=>?_)))))))))))))));obtain⟨cM,cN⟩:=Az cL;obtain⟨inf,hinf⟩:=GQ;refine Ck (xs:=hD) (ys:=([(Ac.mk 4 0 ha.1 0)]:List Ac)) (enc:=Ab) (i:=2) BN hinf.1 hinf.2.1 hinf.2.2.1 hinf.2.2.2 Aa Aa Aa Aa Aa (Jw.w (i:=0) Aa Aa) Bj Cj cM Aa (λhP=>?_);refine wv (A2 Aa) (wv (Ad BC Aa Di Aa Aa) (B0 (i:=2) Di Aa Aa (D0 (i:=0) Aa) Aa Aa (cs':=[rS hB,rI .i64 hC,rv hP,rB hE]) Aa (H':=[.row hP 50 4 (List.map Ab (hD++([(Ac.mk 4 0 ha.1 0)]:List Ac))),.row (.slice (some ⟨hH,0,none⟩) 1 1) 50 4 (List.map Ab ([(Ac.mk 4 0 ha.1 0)]:List Ac)),.blk hd [rS hB,rI .i64 hC,rv hP,rB hE] 87]) Aa (As (Am (Al (wm Aa ?_))))));obtain⟨hh,cO,gD⟩:=AH cN;refine Hk (Hr:=[.row (.slice (some ⟨hH,0,none⟩) 1 1) 50 4 (List.map Ab ([(Ac.mk 4 0 ha.1 0)]:List Ac))]) Tryz.call56 (gv hd hP (Av.mk hB hC (hD++([(Ac.mk 4 0 ha.1 0)]:List Ac)) hE) hh cO) Aa ((AC (i:=2) Aa).trans (Uv _ (Ur _))) Aa ?_;rintro _ _ ⟨h0,rfl,rfl⟩;refine wv (BL Aa) (As (Au (b:=!hh.1) Aa (λgq=>?_) (λgq=>?_)))
        ·have cP:=AE gq gD;refine Al (wv (r:=rB false) (Ae Aa) (As (Ay (Af (A5 (Af (Af (Bf ?_))))))));have cQ:=B5 cP hA hL;refine A5 ?_;obtain rfl:=A0 cQ;exact Ax (BG Ld (AM Aa)) (sC (sC (sS sN))) ⟨h0,Aa,Aa⟩
        ·have cR:=AF gq gD;refine Aw (AP (Al (wm Aa (wv (A2 Aa) (wv (Ad BC Aa Di Aa Aa) (wv (Aq (i:=0) Gb Aa Aa Aa) (wm Aa (wm Aa ?_))))))));obtain⟨gr,cS⟩:=Az cR;refine wv (r:=rv (Et 4 h0 (Int.toNat (he.length:Int)) 0)) (Ik (i:=1) BN Cm Aa Aa Aa (B9 gr)) (wv (r:=rv (Et 4 h0 (Int.toNat (he.length:Int)) 3)) (DU (k:=1) Bm Aa Cf Aa (B9 gr) Aa Aa Aa) (Ht (enc:=Ab) (ys:=hh.2.fCells) (y':=(Ac.mk ((At hh.2.fCells (he.length:Int)).fKind) ((At hh.2.fCells (he.length:Int)).fInt) ((At hh.2.fCells (he.length:Int)).fStr) hk)) (i:=1) (j:=(he.length:Int)) Cf Aa Aa (BV Aa) Aa gr Aa Aa (H':=[.blk hd [rS hh.2.fS,rI .i64 hh.2.fAt,rv h0,rB hh.2.fGreat] 87,.row h0 50 4 (List.map Ab (List.set hh.2.fCells (Int.toNat (he.length:Int)) (Ac.mk ((At hh.2.fCells (he.length:Int)).fKind) ((At hh.2.fCells (he.length:Int)).fInt) ((At hh.2.fCells (he.length:Int)).fStr) hk))),.row (.slice (some ⟨hH,0,none⟩) 1 1) 50 4 (List.map Ab ([(Ac.mk 4 0 ha.1 0)]:List Ac))]) Aa ?_));obtain⟨cT,cU,cV⟩:=D2 cS;rw[← cU];refine As (Am (Al (wm Aa (wm Aa ?_))));obtain⟨gs,cW,gE⟩:=AH cV;refine Hk (Hr:=[.row (.slice (some ⟨hH,0,none⟩) 1 1) 50 4 (List.map Ab ([(Ac.mk 4 0 ha.1 0)]:List Ac))]) Ib (CU hd h0 (Av.mk hh.2.fS hh.2.fAt cT hh.2.fGreat) ([125]:Ak) gs cW) Aa (Ur _) Aa ?_;rintro _ _ ⟨gF,rfl,rfl⟩;refine As (Au (b:=gs.1) Aa (λgt=>?_) (λgt=>?_))
         ·have cX:=AE gt gE;refine Al (wv (r:=rB true) (Ae Aa) (As (Ay (Af (A5 (Af (Af (Bf ?_))))))));have cY:=B5 cX hA hL;refine A5 ?_;obtain rfl:=A0 cY;exact Ax (BG Ld (AM Aa)) (sC (sC (sS sN))) ⟨gF,Aa,Aa⟩
         ·have cZ:=AF gt gE;refine Aw (AP (Al (wm Aa ?_)));obtain⟨h6,xa,gG⟩:=AH cZ;refine Hk (Hr:=[.row (.slice (some ⟨hH,0,none⟩) 1 1) 50 4 (List.map Ab ([(Ac.mk 4 0 ha.1 0)]:List Ac))]) Ib (CU hd gF gs.2 ([44]:Ak) h6 xa) Aa (Ur _) Aa ?_;rintro _ _ ⟨gH,rfl,rfl⟩;refine wv (BL Aa) (As (Au (b:=!h6.1) Aa (λgu=>?_) (λgu=>?_)))
          ·have xb:=AE gu gG;refine Al (wv (r:=rB false) (Ae Aa) (As (Ay (A5 (Af (Af (Bf ?_)))))));have xc:=B5 xb hA hL;refine A5 ?_;obtain rfl:=A0 xc;exact Ax (BG Ld (AM Aa)) (sC (sC (sS sN))) ⟨gH,Aa,Aa⟩
          ·have xd:=AF gu gG;refine Aw (AG (AP (Ai (wm Aa ?_))));obtain⟨xe,xf⟩:=Az xd;refine wv (Bu Aa Aa xe) (wa Aa (Aj ?_));have xg:=Bk xf hA;exact Ap (AI (c7,(ha.1,hk+1,h6.2.fS,h6.2.fAt,h6.2.fCells,h6.2.fGreat),gH) ⟨xg,U0 _⟩ (AK.c Aa (AK.c Aa (AK.c5 Aa Aa Aa Aa Aa AK.nil))) (sC (sC (sS sN))))
     ·rintro⟨⟨⟩,⟨⟩⟩ xh
      cases xh
theorem J4:∀F:Nat,(∀(ha:Nat) (hd:Value) (q:Av) (r:Bool×Av),GG F q=some r→Fn Tryz.prog GE 56 [rv (.pointer (some ⟨ha,0,none⟩))] [.blk ha [rS q.fS,rI .i64 q.fAt,rv hd,rB q.fGreat] 87,.row hd 50 4 (List.map Ab q.fCells)] (λR H=>∃w0_2:Value,R=rB r.1∧H=[.blk ha [rS r.2.fS,rI .i64 r.2.fAt,rv w0_2,rB r.2.fGreat] 87,.row w0_2 50 4 (List.map Ab r.2.fCells)]))
  | 0=>(λ_ _ _ _ h=>by simp[GG] at h)
  | nn+1=>(λha hd q r h=>Nv nn (GG nn) (J4 nn) ha hd q r (by rw[GG] at h;exact h))
theorem OH (F:Nat)(ha:Nat)(hd:Value)(q:Av)(r:Bool×Av)(h:GG F q=some r):Fn Tryz.prog GE 56 [rv (.pointer (some ⟨ha,0,none⟩))] [.blk ha [rS q.fS,rI .i64 q.fAt,rv hd,rB q.fGreat] 87,.row hd 50 4 (List.map Ab q.fCells)] (λR H=>∃w0_2:Value,R=rB r.1∧H=[.blk ha [rS r.2.fS,rI .i64 r.2.fAt,rv w0_2,rB r.2.fGreat] 87,.row w0_2 50 4 (List.map Ab r.2.fCells)]):=(J4 F) ha hd q r h
theorem OK (F:Nat)(s:Ak)(r:(List Ac)×Int)(h:LJ F s=some r):Fn Tryz.prog GE 36 [rS s] [] (λR H=>R=CV [Bl 4 (List.map Ab r.1),rI .i64 r.2]∧H=[]):=by
 refine enter (n:=34) Tryz.func36 Aa Tryz.ntmps36 Aa (λw Z=>?_);refine AR (l':=[(0,rS s)]) (H':=[]) Aa Aa ?_;unfold LJ at h;refine Al (wv (r:=rv (.slice none 0 0)) (Ae Aa) (wv (r:=rI .i64 0) (Ae Aa) (As (Am (Al (wm Aa (wv (AZ Ce Aa) (wv (C1 Aa Aa) (As (Au (b:=decide (4000<(s.length:Int))) Aa (λc1=>?_) (λc1=>?_)))))))))))
 ·have h2:=AE c1 h;refine Al (wv (r:=rv (.slice none 0 0)) (Ae Aa) (wv (r:=rI .i64 3) (Ae Aa) (As (Ay (Af (WK.up (d:=2) (r:=Bl 4 (List.map Ab ([]:List Ac))) Aa (Up.le (Hi.nil _)) ?_))))));obtain rfl:=A0 h2;exact Ax (El Rq (AM Aa) (AM Aa)) sN ⟨Aa,Aa⟩
 ·have h3:=AF c1 h;refine Aw (AP (Al (wm Aa (wv (r:=Bo [rS s,rI .i64 0,rv (.slice none 0 0),rB false]) (MJ Aa Aa) (BP Aa Aa (λb4=>?_))))));refine wa Aa (As (Am (DH (S:=(Bool×Ak×Int×(List Ac)×Bool)×(Value)) (λσ=>EF F σ.1.1 σ.1.2.1 σ.1.2.2.1 σ.1.2.2.2.1 σ.1.2.2.2.2=some r) (λσ=>[(2,rv (.slice none 0 0)),(3,rI .i64 0),(4,rv (.pointer (some ⟨b4,0,none⟩))),(22,rB σ.1.1)]) (λσ=>[.blk b4 [rS σ.1.2.1,rI .i64 σ.1.2.2.1,rv σ.2,rB σ.1.2.2.2.2] 87,.row σ.2 50 4 (List.map Ab σ.1.2.2.2.1)]) ?_ ?_)))
  ·refine Ai (wm Aa (WL.nilrow (e:=50) (sz:=4) ?_));obtain⟨hd,hp,hk⟩:=AH h3;refine Hk (Hr:=[]) Tryz.call56 (OH F b4 (.slice none 0 0                                                  ) (Av.mk s 0 ([]:List Ac) false) hd hp) Aa ((AC (i:=1) Aa).trans (Uv _ (Ur _))) Aa ?_;rintro _ _ ⟨v21,rfl,rfl⟩;refine wv (BL Aa) (wm Aa (A7 (!hd.1) (λha=>?_) (λha=>?_)))
   ·have hq:=AE ha hk;exact wf ha (wf ha (wf ha (wf ha (wf ha (wf ha (wf ha (wv (r:=rB true) (Ao (b:=!hd.1) Aa ha Aa) (Aj (Ap (AI ((true,hd.2.fS,hd.2.fAt,hd.2.fCells,hd.2.fGreat),v21) hq (AK.c Aa (AK.c Aa (AK.c Aa (AK.c Aa AK.nil)))) (sC (sC sN))))))))))))
   ·have hr:=AF ha hk;exact wo ha (wm Aa (wo ha (wv (A2 Aa) (wo ha (wv (Ad BC Aa Cf Aa Aa) (wo ha (wv (Aq (i:=0) CC Aa Aa Aa) (wo ha (wm Aa (wo ha (wv (AZ Ce Aa) (wo ha (wv (DB Aa Aa) (ET Aa ha Aa (Aj (Ap (AI ((!decide (hd.2.fAt=(s.length:Int)),hd.2.fS,hd.2.fAt,hd.2.fCells,hd.2.fGreat),v21) hr (AK.c Aa (AK.c Aa (AK.c Aa (AK.c Aa AK.nil)))) (sC (sC sN)))))))))))))))))))
  ·rintro⟨⟨hg,hl,hm,hf,hh⟩,hn⟩ he;refine AR (l':=[(2,rv (.slice none 0 0)),(3,rI .i64 0),(4,rv (.pointer (some ⟨b4,0,none⟩))),(22,rB hg)]) (H':=[.blk b4 [rS hl,rI .i64 hm,rv hn,rB hh] 87,.row hn 50 4 (List.map Ab hf)]) Aa Aa ?_;replace he:EF F hg hl hm hf hh=some r:=he;unfold EF at he;refine Au (b:=hg) Aa (λhi=>?_) (λhi=>?_)
   ·have hs:=AE hi he;refine Al (wv (r:=rv (.slice none 0 0)) (Ae Aa) (wv (r:=rI .i64 1) (Ae Aa) (As (Ay (Af (WK.up (d:=2) (r:=Bl 4 (List.map Ab ([]:List Ac))) Aa (Up.le (Hi.nil _)) ?_))))));obtain rfl:=A0 hs;exact Ax (El Rq (AM Aa) (AM Aa)) (sS (sS sN)) ⟨Aa,Aa⟩
   ·have ho:=AF hi he;refine Aw (AP (Am (Al (wm Aa (wv (A2 Aa) (wv (Ad BC Aa G9 Aa Aa) (wv (Aq (i:=0) PD Aa Aa Aa) (As (Au (b:=hh) Aa (λhj=>?_) (λhj=>?_))))))))))
    ·have ht:=AE hj ho;refine Al (wv (r:=rv (.slice none 0 0)) (Ae Aa) (wv (r:=rI .i64 2) (Ae Aa) (As (Ay (Af (WK.up (d:=2) (r:=Bl 4 (List.map Ab ([]:List Ac))) Aa (Up.le (Hi.nil _)) ?_))))));obtain rfl:=A0 ht;exact Ax (El Rq (AM Aa) (AM Aa)) (sS (sS sN)) ⟨Aa,Aa⟩
    ·have hu:=AF hj ho;refine Aw (AP (Al (wm Aa (wv (A2 Aa) (wv (Ad BC Aa Di Aa Aa) (wv (Aq (i:=0) Gb Aa Aa Aa) (WL.freeze (i:=1) Aa (WL.up (d:=30) (r:=Bl 4 (List.map Ab hf)) Aa (Up.fact (i:=0) Aa) ?_))))))));obtain⟨hw,hx,hy⟩:=AH hu;refine C9 Tryz.call57 (Ny F hf hw hx) Aa (wv (AD Aa Aa) (wv (AD Aa Aa) (wa Aa (wa Aa (As (Ay ?_))))));obtain rfl:=A0 hy;exact Ax (El Rq (AM Aa) (AM Aa)) (sS (sS sN)) ⟨Aa,Aa⟩
end Go.Proofs.YtailcjmjkmjelaaGreatDoor.Q
namespace Go.Proofs.YtailcjmjkmjelaaGreatDoor
open Go
set_option linter.unusedVariables false
def GJ (a:(List Ac))(b:(List Ac))(ha:Int):Option (Stp (Int) (Out (Bool) (Unit))):=
 B1 (decide (ha<(a.length:Int))) (AW (Da ha (a.length:Int))<|AW (Da ha (b.length:Int))<|B1 (!(decide (((At a ha).fKind)=((At b ha).fKind))&&decide (((At a ha).fInt)=((At b ha).fInt))&&decide (((At a ha).fStr)=((At b ha).fStr))&&decide (((At a ha).fN)=((At b ha).fN)))) (some (.out (.ret false))) (AW (B6 .i64 (ha+1))<|some (.next (ha+1)))) (some (.out (.go ())))
def GI :Option (Bool):=
 some true
def HA (F:Nat)(a:(List Ac))(b:(List Ac)):Option (Bool):=
 B1 (!decide ((a.length:Int)=(b.length:Int))) (some false) (B3 (Cn (λσ=>GJ a b σ) F 0) (BY λν=>GI ))
end Go.Proofs.YtailcjmjkmjelaaGreatDoor
namespace Go.Proofs.YtailcjmjkmjelaaGreatDoor.Q
open Go Go.RowKit
set_option linter.unusedVariables false
set_option linter.unusedSimpArgs false
set_option maxRecDepth 100000
set_option maxHeartbeats 4000000
theorem Rh {a0 b0:Int}{a1 b1:Int}{a2 b2:Ak}{a3 b3:Int}(w:World):(Op.equalIn 10000 50 (.agg #[.int .i64 a0,.int .i64 a1,.string (B a2),.int .i64 a3]) (.agg #[.int .i64 b0,.int .i64 b1,.string (B b2),.int .i64 b3])).run Tryz.prog w = .ok (decide (a0=b0)&&decide (a1=b1)&&decide (a2=b2)&&decide (a3=b3)) w:=by
  have hS:Tryz.prog.underlying 50=some (.struct (Tryz.prog.fieldsOf 50)):=by kernel_rfl
  have hp:Tryz.prog.stoodInHeld 50=false:=by kernel_rfl
  have u3:=Nk;have ia3:=CC;have so3:=Cf;have u9:=Ce;have ia9:=Cg;have so9:=BU;have ha:=Tryz.underlying48;have hd:=D5;have he:=D4;rw[show(10000:Nat)=9999+1 from rfl,run_equalIn_agg w 9999 50 _ _ hS hp];simp only[Program.fieldsOf,Bm]
  go_simp
  simp only[EP]
  by_cases h0:a0=b0<;>by_cases h1:a1=b1<;>by_cases h2:a2=b2<;>by_cases h3:a3=b3<;>simp[h0,h1,h2,h3]
theorem MK {n:Nat}{c:Cx}{l:Fr}{H:List Ent}{d:Option Nat}{ty rty:TypeId}{pos:String}{af:Array Edge}{g:Option (Nat×Bool)}{x y:Operand}{a0 b0:Int}{a1 b1:Int}{a2 b2:Ak}{a3 b3:Int}(hx:ev l x=some (Bo [rI .i64 a0,rI .i64 a1,rS a2,rI .i64 a3]))(hy:ev l y=some (Bo [rI .i64 b0,rI .i64 b1,rS b2,rI .i64 b3])):Bd Tryz.prog n c l H { dst:=d,op:=.binOp .neq 50 x y rty,type:=ty,pos:=pos,after:=af,guard:=g } (rB (!(decide (a0=b0)&&decide (a1=b1)&&decide (a2=b2)&&decide (a3=b3)))):=λa w Z ha hw=>by
  obtain⟨us,e1,q1⟩:=ha.ev hx;obtain⟨vs,e2,q2⟩:=ha.ev hy;have k1:=AX.eq_rv (us:=[.int .i64 a0,.int .i64 a1,.string (B a2),.int .i64 a3]) q1;have k2:=AX.eq_rv (us:=[.int .i64 b0,.int .i64 b1,.string (B b2),.int .i64 b3]) q2;subst k1;subst k2;have hm:Tryz.prog.eqGuardType Tryz.prog.depth 50=false:=by kernel_rfl
  have hb:=Rh (a0:=a0) (a1:=a1) (a2:=a2) (a3:=a3) (b0:=b0) (b1:=b1) (b2:=b2) (b3:=b3) w;refine⟨.bool (!(decide (a0=b0)&&decide (a1=b1)&&decide (a2=b2)&&decide (a3=b3))),rfl,?_⟩;have hg:=run_eqGuard_agg (P:=Tryz.prog) w .neq 50 x y #[.int .i64 a0,.int .i64 a1,.string (B a2),.int .i64 a3] #[.int .i64 b0,.int .i64 b1,.string (B b2),.int .i64 b3] hm;simp only[execOp,e1,e2,Sem.run_bind,hg,Result.andThen_ok,run_neq_struct,hb,Sem.run_pure]
theorem OP (F:Nat)(a:(List Ac))(b:(List Ac))(r:Bool)(h:HA F a b=some r):Fn Tryz.prog GE 40 [Bl 4 (List.map Ab a),Bl 4 (List.map Ab b)] [] (λR H=>R=rB r∧H=[]):=by
 refine enter (n:=26) Tryz.func40 Aa Tryz.ntmps40 Aa (λw Z=>?_);refine AR (l':=[(0,Bl 4 (List.map Ab a)),(1,Bl 4 (List.map Ab b))]) (H':=[]) Aa Aa ?_;unfold HA at h;refine Al (wv (r:=rB false) (Ae Aa) (As (Am (Al (wm Aa (wv (BB (ys:=a) (enc:=Ab) BN Aa) (wm Aa (wv (BB (ys:=b) (enc:=Ab) BN Aa) (wv (DB Aa Aa) (As (Au (b:=!decide ((a.length:Int)=(b.length:Int))) Aa (λc1=>?_) (λc1=>?_))))))))))))
 ·have h2:=AE c1 h;refine Al (wv (r:=rB false) (Ae Aa) (As (Ay (Af ?_))));obtain rfl:=A0 h2;exact Ax (BG Tryz.results40 (AM Aa)) sN ⟨Aa,Aa⟩
 ·have h3:=AF c1 h;refine Aw (AP (Am (Al (wm Aa (wv (BB (ys:=a) (enc:=Ab) BN Aa) (wv (r:=rI .i64 0) (Ah Aa) (As (AJ ?_))))))));obtain⟨hk,hl,hi⟩:=AH h3;refine B2 (S:=Nat×(Int)×(Unit)) (V:=(Unit)×(Unit)) 0 (λσ=>Cn (λσ=>GJ a b σ) σ.1 σ.2.1=some hk) (λσ=>[(0,Bl 4 (List.map Ab a)),(1,Bl 4 (List.map Ab b)),(12,rI .i64 (a.length:Int)),(13,rI .i64 σ.2.1)]) (λσ=>[]) (λσ=>σ.1) (F,0,()) hl (AK.c Aa (AK.c Aa (AK.c Aa (AK.c Aa AK.nil)))) sN (λσ=>GI =some r) (λσ=>[]) (λσ=>[]) ?_ ?_
  ·rintro⟨h7,ha,⟨⟩⟩ hm;refine AR (l':=[(0,Bl 4 (List.map Ab a)),(1,Bl 4 (List.map Ab b)),(12,rI .i64 (a.length:Int)),(13,rI .i64 ha)]) (H':=[]) Aa Aa ?_;obtain⟨hn,rfl,ho,hd,hf⟩:=CM hm;replace hd:GJ a b ha=some ho:=hd;unfold GJ at hd;refine Al (wv (C8 Aa Aa) (As (Am (Au (b:=decide (ha<(a.length:Int))) Aa (λhg=>?_) (λhg=>?_)))))
   ·have hp:=AE hg hd;refine Aw (AP (Am (AJ (Al (wm Aa (wa Aa (As (Am ?_))))))));obtain⟨hq,hr⟩:=Az hp;obtain⟨hs,hj⟩:=Az hr;refine Cu [0,1,5,12,13] [⟨[],Bl 4 (List.map Ab a),0⟩,⟨[],rI .i64 ha,0⟩,⟨[0,1],Nl (Ab (At a ha)),0⟩,⟨[2],Bo (Ab (At a ha)),0⟩,⟨[],Bl 4 (List.map Ab b),0⟩,⟨[],rI .i64 ha,0⟩,⟨[4,5],Nl (Ab (At b ha)),0⟩,⟨[6],Bo (Ab (At b ha)),0⟩,⟨[3,7],rB (!(decide (((At a ha).fKind)=((At b ha).fKind))&&decide (((At a ha).fInt)=((At b ha).fInt))&&decide (((At a ha).fStr)=((At b ha).fStr))&&decide (((At a ha).fN)=((At b ha).fN)))),0⟩] [16,17,18,19,20,21,22,23,24,0,1,12,13] ?_ ?_
    ·refine oq (Ah Aa) (oq (Ah Aa) (oq (BH (enc:=Ab) (ys:=a) BN Cm Aa Aa hq) (oq (DN Kn Cm Aa Aa Aa) (oq (Ah Aa) (oq (Ah Aa) (oq (BH (enc:=Ab) (ys:=b) BN Cm Aa Aa hs) (oq (DN Kn Cm Aa Aa Aa) (oq (MK Aa Aa) ?_))))))));exact BS
    refine AP (Au (b:=!(decide (((At a ha).fKind)=((At b ha).fKind))&&decide (((At a ha).fInt)=((At b ha).fInt))&&decide (((At a ha).fStr)=((At b ha).fStr))&&decide (((At a ha).fN)=((At b ha).fN)))) Aa (λhh=>?_) (λhh=>?_))
    ·have ht:=AE hh hj;refine Al (wv (r:=rB false) (Ae Aa) (As (Ay (A5 (Af (Af (Bf ?_)))))));have hu:=B5 ht hf hi;refine A5 (Af ?_);obtain rfl:=A0 hu;exact Ax (BG Tryz.results40 (AM Aa)) sN ⟨Aa,Aa⟩
    ·have hw:=AF hh hj;refine Aw (AG (AP (Ai ?_)));obtain⟨hx,hy⟩:=Az hw;refine wv (Bu Aa Aa hx) (wm Aa (Aj ?_));have hz:=Bk hy hf;exact Ap (AI (hn,ha+1,()) ⟨hz,U0 _⟩ (AK.c Aa (AK.c Aa (AK.c Aa (AK.c Aa AK.nil)))) sN)
   ·have h0:=AF hg hd;refine B4 (A4 ?_);have h6:=Cv h0 hf hi;exact A4 (Bt (AI ((),()) h6 AK.nil sN))
  ·rintro⟨⟨⟩,⟨⟩⟩ he;refine Dd (l':=[]) (H':=[]) Aa Aa ?_;replace he:GI =some r:=he;unfold GI at he;refine Bi (AP (Al (wv (r:=rB true) (Ae Aa) (As (Ay ?_)))));obtain rfl:=A0 he;exact Ax (BG Tryz.results40 (AM Aa)) sN ⟨Aa,Aa⟩
end Go.Proofs.YtailcjmjkmjelaaGreatDoor.Q
namespace Go.Proofs.YtailcjmjkmjelaaGreatDoor
open Go
set_option linter.unusedVariables false
end Go.Proofs.YtailcjmjkmjelaaGreatDoor
namespace Go.Proofs.YtailcjmjkmjelaaGreatDoor.Q
open Go Go.RowKit
set_option linter.unusedVariables false
set_option linter.unusedSimpArgs false
set_option maxRecDepth 100000
set_option maxHeartbeats 4000000
end Go.Proofs.YtailcjmjkmjelaaGreatDoor.Q
namespace Go.Proofs.YtailcjmjkmjelaaGreatDoor
open Go
def Ej (k:IntKind)(x y:Int):Int:=k.wrap ((BitVec.ofInt k.bits x&&& BitVec.ofInt k.bits y).toNat:Int)
def JD (k:IntKind)(x y:Int):Int:=k.wrap ((BitVec.ofInt k.bits x||| BitVec.ofInt k.bits y).toNat:Int)
def Lm (k:IntKind)(x y:Int):Int:=k.wrap ((BitVec.ofInt k.bits x^^^BitVec.ofInt k.bits y).toNat:Int)
def Ei (k:IntKind)(x n:Int):Int:=k.wrap (x*2 ^ (min n.toNat k.bits))
def ES (k:IntKind)(x n:Int):Int:=x.fdiv (2 ^ (min n.toNat k.bits))
def Nb {α:Type}(xs ys:List α):List α:=ys.take xs.length++xs.drop ys.length
set_option linter.unusedVariables false
def Er (fields:(List Ak))(hd:(List Int))(ha:Int):Option (Stp ((List Int)×Int) (Out (Ak×Int) ((List Int)))):=
 B1 (decide (ha<(fields.length:Int))) (AW (Da ha (fields.length:Int))<|B1 (decide (4000<((At fields ha).length:Int))) (some (.out (.ret (([]:Ak),3)))) (AW (D1 1 (hd.length+([IntKind.wrap .u8 (ES .i64 ((At fields ha).length:Int) 8),IntKind.wrap .u8 ((At fields ha).length:Int)]:List Int).length))<|AW (D1 1 ((hd++([IntKind.wrap .u8 (ES .i64 ((At fields ha).length:Int) 8),IntKind.wrap .u8 ((At fields ha).length:Int)]:List Int)).length+(At fields ha).length))<|AW (B6 .i64 (ha+1))<|some (.next ((hd++([IntKind.wrap .u8 (ES .i64 ((At fields ha).length:Int) 8),IntKind.wrap .u8 ((At fields ha).length:Int)]:List Int))++CO (At fields ha),ha+1)))) (some (.out (.go hd)))
def IP (ha:(List Int)):Option (Ak×Int):=
 some (Li ha,0)
def MW (F:Nat)(fields:(List Ak)):Option (Ak×Int):=
 B1 (decide (64<(fields.length:Int))) (some (([]:Ak),3)) (B3 (Cn (λσ=>Er fields σ.1 σ.2) F (([IntKind.wrap .u8 (fields.length:Int)]:List Int),0)) (BY λν=>IP ν))
def CY (ha:Int):Option ((List Ak)×Int):=
 some (([]:List Ak),ha)
def GS (s:Ak)(ha:Ak)(hd:(List Ak))(hi:Int)(he:Int):Option (Stp (Ak×(List Ak)×Int×Int) (Out ((List Ak)×Int) (Ak×(List Ak)))):=
 B1 (decide (he<(AY s 0))) (B1 (decide ((ha.length:Int)<2)) (B3 (CY 14) λhf=>some (.out (.ret hf))) (AW (Da 0 (ha.length:Int))<|AW (B6 .i64 (AY ha 0))<|AW (Da 1 (ha.length:Int))<|AW (B6 .i64 (AY ha 1))<|AW (Hf 2 (ha.length:Int))<|B1 (decide (4000<(JD .i64 (Ei .i64 (AY ha 0) 8) (AY ha 1)))) (B3 (CY 13) λhg=>some (.out (.ret hg))) (B1 (decide (((List.drop (Int.toNat 2) ha).length:Int)<(JD .i64 (Ei .i64 (AY ha 0) 8) (AY ha 1)))) (B3 (CY 14) λhh=>some (.out (.ret hh))) (AW (Hf (JD .i64 (Ei .i64 (AY ha 0) 8) (AY ha 1)) ((List.drop (Int.toNat 2) ha).length:Int))<|AW (D1 16 (hd.length+([List.take (Int.toNat (JD .i64 (Ei .i64 (AY ha 0) 8) (AY ha 1))) (List.drop (Int.toNat 2) ha)]:List Ak).length))<|AW (B6 .i64 (he+1))<|some (.next (List.drop (Int.toNat (JD .i64 (Ei .i64 (AY ha 0) 8) (AY ha 1))) (List.drop (Int.toNat 2) ha),hd++([List.take (Int.toNat (JD .i64 (Ei .i64 (AY ha 0) 8) (AY ha 1))) (List.drop (Int.toNat 2) ha)]:List Ak),JD .i64 (Ei .i64 (AY ha 0) 8) (AY ha 1),he+1)))))) (some (.out (.go (ha,hd))))
def GR (hd:Ak)(ha:(List Ak)):Option ((List Ak)×Int):=
 B1 (!decide (hd=([]:Ak))) (CY 13) (AW (Hf (ha.length:Int) (ha.length:Int))<|some (List.take (Int.toNat (ha.length:Int)) ha,0))
def Ma (F:Nat)(s:Ak):Option ((List Ak)×Int):=
 B1 (decide (s=([]:Ak))) (CY 14) (AW (Da 0 (s.length:Int))<|AW (B6 .i64 (AY s 0))<|AW (Hf 1 (s.length:Int))<|B1 (decide (64<(AY s 0))) (CY 13) (B3 (Cn (λσ=>GS s σ.1 σ.2.1 σ.2.2.1 σ.2.2.2) F (List.drop (Int.toNat 1) s,([]:List Ak),0,0)) (BY λν=>GR ν.1 ν.2)))
def DM (fields:(List Ak))(hd:(List Int))(ha:Int):Option (Stp ((List Int)×Int) (Out (Ak×Int) ((List Int)))):=
 B1 (decide (ha<(fields.length:Int))) (AW (Da ha (fields.length:Int))<|B1 (decide (4000<((At fields ha).length:Int))) (some (.out (.ret (([]:Ak),3)))) (AW (B6 .i64 (Int.tdiv ((At fields ha).length:Int) 256))<|AW (D1 1 (hd.length+([IntKind.wrap .u8 (Int.tdiv ((At fields ha).length:Int) 256),IntKind.wrap .u8 (Int.tmod ((At fields ha).length:Int) 256)]:List Int).length))<|AW (D1 1 ((hd++([IntKind.wrap .u8 (Int.tdiv ((At fields ha).length:Int) 256),IntKind.wrap .u8 (Int.tmod ((At fields ha).length:Int) 256)]:List Int)).length+(At fields ha).length))<|AW (B6 .i64 (ha+1))<|some (.next ((hd++([IntKind.wrap .u8 (Int.tdiv ((At fields ha).length:Int) 256),IntKind.wrap .u8 (Int.tmod ((At fields ha).length:Int) 256)]:List Int))++CO (At fields ha),ha+1)))) (some (.out (.go hd)))
def HD (ha:(List Int)):Option (Ak×Int):=
 some (Li ha,0)
def KB (F:Nat)(fields:(List Ak)):Option (Ak×Int):=
 B1 (decide (64<(fields.length:Int))) (some (([]:Ak),3)) (B3 (Cn (λσ=>DM fields σ.1 σ.2) F (([IntKind.wrap .u8 (fields.length:Int)]:List Int),0)) (BY λν=>HD ν))
end Go.Proofs.YtailcjmjkmjelaaGreatDoor
namespace Go.Proofs.YtailcjmjkmjelaaGreatDoor.Q
open Go Go.RowKit
set_option linter.unusedVariables false
set_option linter.unusedSimpArgs false
section
variable {P : Program} {n : Nat} {c : Cx} {l : Fr} {H : List Ent} {d : Option Nat} {x y : Operand} {t t' ty : TypeId} {pos : String} {af : Array Edge} {g : Option (Nat × Bool)} {k k' : IntKind} {p q : Int}
theorem Ok (hx:ev l x=some (rI k p))(hy:ev l y=some (rI k q)):Bd P n c l H { dst:=d,op:=.binOp .and t x y t',type:=ty,pos:=pos,after:=af,guard:=g } (rI k (Ej k p q)):=λa w Z ha _=>C0<|by
 simp[execOp,ha.eval hx,ha.eval hy,Ba,binOp,Op.intBits,Ej]
theorem TV (hx:ev l x=some (rI k p))(hy:ev l y=some (rI k q)):Bd P n c l H { dst:=d,op:=.binOp .or t x y t',type:=ty,pos:=pos,after:=af,guard:=g } (rI k (JD k p q)):=λa w Z ha _=>C0<|by
 simp[execOp,ha.eval hx,ha.eval hy,Ba,binOp,Op.intBits,JD]
theorem So (hx:ev l x=some (rI k p))(hy:ev l y=some (rI k q)):Bd P n c l H { dst:=d,op:=.binOp .xor t x y t',type:=ty,pos:=pos,after:=af,guard:=g } (rI k (Lm k p q)):=λa w Z ha _=>C0<|by
 simp[execOp,ha.eval hx,ha.eval hy,Ba,binOp,Op.intBits,Lm]
theorem Tx (hx:ev l x=some (rI k p))(hy:ev l y=some (rI k' q))(h0:decide (0≤q)=true):Bd P n c l H { dst:=d,op:=.binOp .shl t x y t',type:=ty,pos:=pos,after:=af,guard:=g } (rI k (Ei k p q)):=λa w Z ha _=>C0<|by
 have h1 : ¬ q<0:=by have:=Va h0;omega
 simp[execOp,ha.eval hx,ha.eval hy,Ba,binOp,Op.shift,Ei,h1]
theorem Qu (hx:ev l x=some (rI k p))(hy:ev l y=some (rI k' q))(h0:decide (0≤q)=true):Bd P n c l H { dst:=d,op:=.binOp .shr t x y t',type:=ty,pos:=pos,after:=af,guard:=g } (rI k (ES k p q)):=λa w Z ha _=>C0<|by
 have h1 : ¬ q<0:=by have:=Va h0;omega
 simp[execOp,ha.eval hx,ha.eval hy,Ba,binOp,Op.shift,ES,h1]
end
theorem RH {α:Type}{enc:α→Rp}{ys:List α}{j:Int}(hg:Da j (ys.length:Int)=true):Nat.blt j.toNat (List.map enc ys).length=true:=by
 have h0:=(C6 hg).1;have h1:=(C6 hg).2;simp;omega
section
variable {P : Program} {n : Nat} {c : Cx} {ops : Array Oper} {Q : Exit → Act → World → Prop} {rest : List Oper} {l : Fr} {H H' : List Ent} {d : Nat} {d' : Option Nat} {x y : Operand} {t ty e : TypeId} {pos : String} {af : Array Edge} {g : Option (Nat × Bool)} {k : IntKind} {b i len : Nat} {j : Int}
theorem Qz (ht:P.underlying t=some (.array len e))(hz:∀w,(sizeOf e).run P w = .ok 1 w)(hx:ev l x=some (rv (.pointer (some ⟨b,0,none⟩))))(hy:ev l y=some (rI k j))(hg:Da j (len:Int)=true) :
  Bd P n c l H { dst:=d',op:=.indexAddr t x y,type:=ty,pos:=pos,after:=af,guard:=g } (rv (.pointer (some ⟨b,j.toNat,none⟩))):=λa w Z ha hw=>C0<|by
 have h0:=(C6 hg).1;have h1:=(C6 hg).2;simp[execOp,ha.eval hx,ha.eval hy,Instr.indexAt,Instr.sureAddr,asIntOf,run_underlying ht,h0,h1,hz,G7]
theorem Lu {α:Type}[Inhabited α]{enc:α→Rp}{ys:List α}{v:α}(hag:∀w,(sizeOf t).run P w = .ok 1 w)(hx:ev l x=some (rv (.pointer (some ⟨b,j.toNat,none⟩))))(hy:ev l y=some (enc v))(hv:Nh H (enc v))
  (hi:H[i]? =some (.blk b (List.map enc ys) e)) (hg:Da j (ys.length:Int)=true) (hH:H.set i (.blk b (List.map enc (List.set ys j.toNat v)) e)=H')
  (h:WL P n c ops Q rest l H'):WL P n c ops Q ({ dst:=none,op:=.store t x y,type:=ty,pos:=pos,after:=af,guard:=none }::rest) l H:=
 B0 hag hx hy hv hi (RH hg) (cs':=List.map enc (List.set ys j.toNat v)) (by rw[List.map_set]) hH h
end
def Me (ops:List Oper)(N:Nat):Bool:=
 let cl:=KW ops []
 (List.range ops.length).all (λi=>(DT (ops.getD i default)).all (·<i))&&
 (List.range ops.length).all (λi=>i<N||(List.range i).all (λj=>(cl.getD i 0).testBit j))
section
variable {P : Program} {Q : Exit → Act → World → Prop}
theorem Nc {listed:Array Bool}{len m:Nat}(hs:listed.size=len)(hm:m≤len)(h:∀j,j<len→(listed.getD j true=true↔j<m)):listed.toList.count false=len-m:=by
 have:listed.toList=List.replicate m true++List.replicate (len-m) false:=by
  apply List.ext_getElem
  ·simp[hs];omega
  ·intro j h1 h2;have hj:j<len:=by simpa[hs] using h1
   have:=h j hj;rw[Array.getD_eq_getD_getElem?,Array.getElem?_eq_getElem (by omega)] at this;simp only[UK] at this;rw[Array.getElem_toList,List.getElem_append]
   split
   ·rename_i h3
    simp at h3;simp[this.2 h3]
   ·rename_i h3
    simp at h3;simp only[List.getElem_replicate]
    cases hb:listed[j] with
    | false=>rfl
    | true=>have:=this.1 hb;omega
 rw[this];simp[List.count_append,List.count_replicate]
theorem Ov {listed:Array Bool}{j:Nat}(h:j<listed.size)(d d':Bool):listed.getD j d=listed.getD j d':=by
 simp[Array.getD_eq_getD_getElem?,Array.getElem?_eq_getElem h]
theorem KZ {ops:List Oper}{listed:Array Bool}{i:Nat}{o:Oper}(ho:ops[i]? =some o)(hb:∀e∈DT o,listed.getD e true=true)
  (hcl:∀j o,ops[j]? =some o→listed.getD j true=true→∀e∈DT o,listed.getD e true=true) (j:Nat) (h:((KW ops []).getD i 0).testBit j=true):j=i∨listed.getD j true=true:=
 G6 ops (λk=>k=i∨listed.getD k true=true) ops [] (λt o' ht e he hF=>by
  rcases hF with hF | hF
  ·simp at hF;subst hF;rw[ho] at ht;simp at ht;subst ht;exact .inr (hb e he)
  ·exact .inr (hcl t o' ht (by simpa using hF) e he)) (λj i hb=>by simp at hb) i j h (.inl rfl)
theorem Ii {ops:List Oper}{listed:Array Bool}{i:Nat}(hsz:listed.size=ops.length)(hlt:∀i,i<ops.length→∀e∈DT (ops.getD i default),e<i)(h:i∈Region.ready .any ops.toArray listed) :
  listed.getD i true=false∧i<ops.length∧∃o,ops[i]? =some o∧∀e∈DT o,listed.getD e true=true:=by
 obtain⟨h1,o,ho,h2⟩:=mem_ready.1 h;have ho':ops[i]? =some o:=by simpa using ho
 have hil:=(List.getElem?_eq_some_iff.1 ho').1;refine⟨h1,hil,o,ho',λe he=>?_⟩;have hei:=hlt i hil e (by rw[Ut,ho'];exact he);simp only[DT,List.mem_map,List.mem_filter] at he;obtain⟨x,⟨hx1,hx2⟩,rfl⟩:=he;have h3:=h2 x (by simpa using hx1) hx2;rw[Ov (by omega) true false];exact h3
theorem HW {ops:List Oper}{listed:Array Bool}(hsz:listed.size=ops.length)(hlt:∀i,i<ops.length→∀e∈DT (ops.getD i default),e<i)(h:Region.ready .any ops.toArray listed=[]) :
  ∀j,j<ops.length→listed.getD j true=true:=by
 intro j
 induction j using Nat.strongRecOn with
 | ind j ih=>
  intro hj
  cases hb:listed.getD j true with
  | true=>rfl
  | false=>
   have:j∈Region.ready .any ops.toArray listed:=mem_ready.2 ⟨hb,ops[j],by simp[hj],λe he hbn=>by
    have hel:e.on<j:=hlt j hj e.on (by
     rw[Ut,Us hj];simp only[DT,UK,List.mem_map,List.mem_filter];exact⟨e,⟨by simpa using he,hbn⟩,rfl⟩)
    rw[Ov (by omega) false true];exact ih e.on hel (by omega)⟩
   rw[h] at this;cases this
theorem JV {listed:Array Bool}{i j:Nat}(hi:i<listed.size):(listed.setIfInBounds i true).getD j true=true↔(j=i∨listed.getD j true=true):=by
 by_cases hj:i=j
 ·subst hj;simp[hi]
 ·rw[getD_set_ne true hj];exact⟨.inr,λh=>h.elim (λh=>absurd h.symm hj) id⟩
theorem OQ {listed:Array Bool}{i fuel:Nat}(hi:i<listed.size)(hun:listed.getD i true=false)(hc:listed.toList.count false=fuel+1):(listed.setIfInBounds i true).toList.count false=fuel:=by
 have hfi:listed.toList[i]? =some false:=by
  rw[Array.getD_eq_getD_getElem?,Array.getElem?_eq_getElem hi] at hun;simp at hun;simp[hi,hun]
 rw[Array.toList_setIfInBounds];have h1:=List.count_set (a:=true) (b:=false) (l:=listed.toList) (i:=i) (by simpa using hi);have h2:listed.toList[i]'(by simpa using hi)=false:=by
  have:=List.getElem?_eq_some_iff.1 hfi;exact this.2
 rw[h1,h2,hc];rfl
theorem J0 {ops:List Oper}{N:Nat}(hlt:∀i,i<ops.length→∀e∈DT (ops.getD i default),e<i)
  (hch:∀i,N≤i→i<ops.length→∀j,j<i→((KW ops []).getD i 0).testBit j=true):∀(k m:Nat) (listed:Array Bool) (a:Act) (w:World),m+k=ops.length→N≤m→listed.size=ops.length→
   (∀j,j<ops.length→(listed.getD j true=true↔j<m))→(∀j o,ops[j]? =some o→listed.getD j true=true→∀e∈DT o,listed.getD e true=true)→wpList P ops.toArray Q (ops.drop m) a w→wpAny P .any ops.toArray Q k listed a w
 | 0,m,listed,a,w,hk,hN,hsz,hl,hcl,h=>by
  refine⟨?_,?_⟩
  ·cases hr:Region.ready .any ops.toArray listed with
   | nil=>rfl
   | cons i r=>
    obtain⟨h1,h2,_⟩:=Ii hsz hlt (i:=i) (by rw[hr];simp);rw[(hl i h2).2 (by omega)] at h1;cases h1
  ·rw[List.drop_of_length_le (by omega)] at h;exact h
 | k+1,m,listed,a,w,hk,hN,hsz,hl,hcl,h=>by
  refine⟨λhr=>?_,λi hi=>?_⟩
  ·have:=(hl m (by omega)).1 (HW hsz hlt hr m (by omega));omega
  ·obtain⟨h1,h2,o,ho,hb⟩:=Ii hsz hlt hi;have him:i=m:=by
    have hmi : ¬ i<m:=λh'=>by rw[(hl i h2).2 h'] at h1;cases h1
    by_cases e:i=m
    ·exact e
    ·rcases KZ ho hb hcl m (hch i (by omega) h2 m (by omega)) with h3 | h3
     ·exact h3.symm
     ·have:=(hl m (by omega)).1 h3;omega
   subst him;have hd:ops.drop i=o::ops.drop (i+1):=by
    rw[List.drop_eq_getElem_cons h2]
    congr 1
    exact(List.getElem?_eq_some_iff.1 ho).2
   rw[hd] at h;have ih:∀a' w',wpList P ops.toArray Q (ops.drop (i+1)) a' w'→wpAny P .any ops.toArray Q k (listed.setIfInBounds i true) a' w':=λa' w' h'=>by
    refine J0 hlt hch k (i+1) _ a' w' (by omega) (by omega) (by simpa using hsz) (λj hj=>?_) (λj o' hj hlj e he=>?_) h'
    ·rw[JV (by omega),hl j hj];omega
    ·rw[JV (by omega)] at hlj ⊢;rcases hlj with rfl | hlj
     ·rw[ho] at hj;simp at hj;subst hj;exact .inr (hb e he)
     ·exact .inr (hcl j o' hj hlj e he)
   unfold wpOp;have hoA:ops.toArray[i]? =some o:=by simpa using ho
   simp only[hoA];simp only[wpList] at h
   split
   ·rename_i hw'
    rw[if_pos hw'] at h;exact h.imp (λh=>Oper.wp_mono ih h) (λh=>h)
   ·rename_i hw'
    rw[UV hw'] at h;exact ih _ _ h
theorem PP {id:Nat}{ops:List Oper}{N:Nat}(hm:P.follows .mixedOrders=true)(hB:Me ops N=true)(hN:N≤ops.length)(I:(Nat→Bool)→Act→World→Prop)
  (hext:∀S S' a w,(∀j,j<N→S j=S' j)→I S a w→I S' a w) {a:Act} {w:World} (h0:I (λ_=>false) a { w with drawn:=w.drawn+1 })
  (step:∀S i o a w,i<N→S i=false→ops[i]? =some o→(∀e∈DT o,e<i∧S e=true)→I S a w→∀K:Act→World→Prop,(∀a' w',I (λj=>j ==i||S j) a' w'→K a' w')→
   (Region.wanted o (yielded ops.toArray a.tmps)=true→o.wp P a w K Q)∧(Region.wanted o (yielded ops.toArray a.tmps)=false→K (a.put o.dst undef) w))
  (fin:∀a w,I (λ_=>true) a w→wpList P ops.toArray Q (ops.drop N) a w):(Code.region id ops.toArray true).wp P Q a w:=by
 simp only[Me,Uq,UP,List.mem_range,Un,UR] at hB;obtain⟨hlt,hch0⟩:=hB;have hch:∀i,N≤i→i<ops.length→∀j,j<i→((KW ops []).getD i 0).testBit j=true:=λi h1 h2 j hj=>by
  rcases hch0 i h2 with h3 | h3
  ·omega
  ·exact h3 j hj
 refine wp_region_any hm ?_;have main:∀(fuel:Nat) (listed:Array Bool) (a:Act) (w:World),listed.size=ops.length→listed.toList.count false=fuel→I (λj=>listed.getD j true) a w→
   (∀j o,ops[j]? =some o→listed.getD j true=true→∀e∈DT o,listed.getD e true=true)→(∀j,N≤j→j<ops.length→listed.getD j true=false)→wpAny P .any ops.toArray Q fuel listed a w:=by
  intro fuel;have allin:∀(fuel:Nat) (listed:Array Bool) (a:Act) (w:World),listed.size=ops.length→listed.toList.count false=fuel→I (λj=>listed.getD j true) a w→
   (∀j o,ops[j]? =some o→listed.getD j true=true→∀e∈DT o,listed.getD e true=true)→(∀j,N≤j→j<ops.length→listed.getD j true=false)→(∀j,j<N→listed.getD j true=true)→wpAny P .any ops.toArray Q fuel listed a w:=by
   intro fuel listed a w hsz hc hI hcl hlast hall;have hl:∀j,j<ops.length→(listed.getD j true=true↔j<N):=λj hj=>by
    constructor
    ·intro h
     by_cases hjN:j<N
     ·exact hjN
     ·rw[hlast j (by omega) hj] at h;cases h
    ·exact hall j
   have:=Nc hsz hN hl;refine J0 hlt hch fuel N listed a w (by omega) (UG _) hsz hl hcl (fin a w (hext _ _ a w (λj hj=>hall j hj) hI))
  induction fuel with
  | zero=>
   intro listed a w hsz hc hI hcl hlast;refine allin 0 listed a w hsz hc hI hcl hlast (λj hj=>?_)
   cases hb:listed.getD j true with
   | true=>rfl
   | false=>
    have:false∈listed.toList:=by
     rw[Array.getD_eq_getD_getElem?,Array.getElem?_eq_getElem (by omega)] at hb;simp at hb;rw[← hb];simp
    have:=List.count_pos_iff.2 this;omega
  | succ fuel ih=>
   intro listed a w hsz hc hI hcl hlast
   by_cases hall:∀j,j<N→listed.getD j true=true
   ·exact allin (fuel+1) listed a w hsz hc hI hcl hlast hall
   ·refine⟨λhr=>absurd (λj hj=>HW hsz hlt hr j (by omega)) hall,λi hi=>?_⟩;obtain⟨h1,h2,o,ho,hb⟩:=Ii hsz hlt hi;have hiN:i<N:=by
     by_cases h:i<N
     ·exact h
     ·refine absurd (λj hj=>?_) hall;rcases KZ ho hb hcl j (hch i (by omega) h2 j (by omega)) with h3 | h3
      ·omega
      ·exact h3
    have K':∀a' w',I (λj=>j ==i||listed.getD j true) a' w'→wpAny P .any ops.toArray Q fuel (listed.setIfInBounds i true) a' w':=λa' w' hI'=>by
     refine ih _ a' w' (by simpa using hsz) (OQ (by omega) h1 hc) (hext _ _ a' w' (λj hj=>?_) hI') (λj o' hj hlj e he=>?_) (λj h3 h4=>?_)
     ·have:=JV (listed:=listed) (i:=i) (j:=j) (by omega)
      cases hq:(listed.setIfInBounds i true).getD j true with
      | true=>
       rw[hq] at this;rcases this.1 rfl with h | h
       ·simp[h]
       ·simp[h]
      | false=>
       rw[hq] at this;have h5 : ¬ (j=i∨listed.getD j true=true):=λh=>by have:=this.2 h;cases this
       cases hz:listed.getD j true with
       | true=>exact absurd (.inr hz) h5
       | false=>
        have:j≠i:=λh=>h5 (.inl h);simp[this]
     ·rw[JV (by omega)] at hlj ⊢;rcases hlj with rfl | hlj
      ·rw[ho] at hj;simp at hj;subst hj;exact .inr (hb e he)
      ·exact .inr (hcl j o' hj hlj e he)
     ·rw[getD_set_ne true (by omega)];exact hlast j h3 h4
    obtain⟨k1,k2⟩:=step _ i o a w hiN h1 ho (λe he=>⟨hlt i h2 e (by rw[Ut,ho];exact he),hb e he⟩) hI _ K';unfold wpOp;have hoA:ops.toArray[i]? =some o:=by simpa using ho
    simp only[hoA]
    split
    ·rename_i hw';exact .inl (k1 hw')
    ·rename_i hw';exact k2 (by simpa using hw')
 have e0:∀j,j<ops.length→(Array.replicate ops.length false).getD j true=false:=λj hj=>by simp[hj]
 have hsz0:ops.toArray.size=ops.length:=by simp
 rw[hsz0];refine main ops.length (Array.replicate ops.length false) a _ (by simp) (by simp) (hext _ _ _ _ (λj hj=>(e0 j (by omega)).symm) h0) (λj o hj hl=>?_) (λj _ h2=>e0 j h2);rw[e0 j (List.getElem?_eq_some_iff.1 hj).1] at hl;cases hl
end
structure Sa where
 deps:List Nat
 r:Rp
 al:Option (List Rp×TypeId):=none
 late:Option (Nat×List Rp):=none
 sto:Option Nat:=none
def Eu (sp:List Sa)(i:Nat):Sa:=sp.getD i { deps:=[],r:=rv undef }
def R3 (sp:List Sa):List Sp:=sp.map λs=>⟨s.deps,s.r,0⟩
def Jc (β:Nat→Nat)(s:Sa)(i:Nat):Rp:=match s.al with
 | none=>s.r
 | some _=>rv (.pointer (some ⟨β i,0,none⟩))
def Js (S:Nat→Bool)(late:Option (Nat×List Rp))(cs:List Rp):List Rp:=match late with
 | none=>cs
 | some q=>if S q.1 then q.2 else cs
def E2 (S:Nat→Bool)(β:Nat→Nat):List Sa→Nat→List Ent
 | [],_=>[]
 | s::r,t=>match s.al with
  | some p=>if S t then .blk (β t) (Js S s.late p.1) p.2::E2 S β r (t+1) else E2 S β r (t+1)
  | none=>E2 S β r (t+1)
def Py (β:Nat→Nat):List Sa→Nat→List Ent
 | [],_=>[]
 | s::r,t=>match s.al with
  | some p=>.blk (β t) (match s.late with | none=>p.1 | some q=>q.2) p.2::Py β r (t+1)
  | none=>Py β r (t+1)
def JK (β:Nat→Nat):List Oper→List Sa→Nat→Fr→Fr
 | o::os,s::sp,i,l=>match o.dst with
  | some d=>(d,Jc β s i)::JK β os sp (i+1) l
  | none=>JK β os sp (i+1) l
 | _,_,_,l=>l
theorem Ip {S S':Nat→Bool}{late:Option (Nat×List Rp)}{cs:List Rp}(h:∀q,late=some q→S q.1=S' q.1):Js S late cs=Js S' late cs:=by
 unfold Js
 cases late with
 | none=>rfl
 | some q=>simp only[];rw[h q rfl]
theorem DS (S:Nat→Bool)(β:Nat→Nat)(s:Sa)(r:List Sa)(t:Nat):E2 S β (s::r) t=match s.al with
  | some p=>if S t then .blk (β t) (Js S s.late p.1) p.2::E2 S β r (t+1) else E2 S β r (t+1)
  | none=>E2 S β r (t+1):=rfl
theorem EL {S S':Nat→Bool}{β β':Nat→Nat}:∀(r:List Sa) (t0:Nat),(∀(t:Nat) (s:Sa),r[t]? =some s→s.al≠none→S (t0+t)=S' (t0+t)∧(S (t0+t)=true→β (t0+t)=β' (t0+t)∧∀q,s.late=some q→S q.1=S' q.1))→E2 S β r t0=E2 S' β' r t0
 | [],_,_=>rfl
 | s::r,t0,h=>by
  have ih:=EL r (t0+1) (λt s hs hn=>by
   have:=h (t+1) s (by simpa using hs) hn;rw[show t0+1+t=t0+(t+1) from by omega];exact this)
  unfold E2;rw[ih]
  cases ha:s.al with
  | none=>rfl
  | some p=>
   obtain⟨h1,h2⟩:=h 0 s rfl (by rw[ha];exact nofun);simp only[Nat.add_zero] at h1 h2;simp only[];rw[← h1]
   split
   ·rename_i hS;rw[(h2 hS).1,Ip (h2 hS).2]
   ·rfl
theorem Na (β:Nat→Nat):∀(r:List Sa) (t0:Nat),E2 (λ_=>true) β r t0=Py β r t0
 | [],_=>rfl
 | s::r,t0=>by
  unfold E2 Py;rw[Na β r (t0+1)]
  cases s.al with
  | none=>rfl
  | some p=>cases hl:s.late<;>simp[Js,hl]
theorem L9 (β:Nat→Nat):∀(r:List Sa) (t0:Nat),E2 (λ_=>false) β r t0=[]
 | [],_=>rfl
 | s::r,t0=>by
  unfold E2;rw[L9 β r (t0+1)]
  cases s.al<;>simp
theorem MZ {S:Nat→Bool}{β:Nat→Nat}{i b:Nat}{p:List Rp×TypeId}:∀(r:List Sa) (t0 k:Nat) (s:Sa),i=t0+k→r[k]? =some s→s.al=some p→S i=false→(∀(t:Nat) (s:Sa) (q:Nat×List Rp),r[t]? =some s→s.al≠none→s.late=some q→q.1≠i)→(∀q,s.late=some q→S q.1=false∧q.1≠i)→
  (E2 (λj=>j ==i||S j) (λj=>if j=i then b else β j) r t0).Perm (.blk b p.1 p.2::E2 S β r t0)
 | [],_,_,_,_,h,_,_,_,_=>by simp at h
 | s'::r,t0,0,s,hi,h,ha,hS,hne,hl=>by
  simp at h hi;subst h;subst hi;have e:=EL (S:=λj=>j ==i||S j) (S':=S) (β:=λj=>if j=i then b else β j) (β':=β) r (i+1) (λt s hs hn=>by
   have:i+1+t≠i:=by omega
   refine⟨by simp[this],λ_=>⟨by simp[this],λq hq=>?_⟩⟩;have:=hne (t+1) s q (by simpa using hs) hn hq;simp[this])
  have ec:Js (λj=>j ==i||S j) s'.late p.1=p.1:=by
   unfold Js
   cases hq:s'.late with
   | none=>rfl
   | some q=>
    obtain⟨h1,h2⟩:=hl q hq;simp[h1,h2]
  unfold E2;rw[e,ha];simp only[hS,BEq.rfl,UF,UW,ec];simp
 | s'::r,t0,k+1,s,hi,h,ha,hS,hne,hl=>by
  have ih:=MZ (S:=S) (β:=β) (i:=i) (b:=b) (p:=p) r (t0+1) k s (by omega) (by simpa using h) ha hS (λt s q hs=>hne (t+1) s q (by simpa using hs)) hl;have hne0:t0≠i:=by omega
  have hne':(t0 ==i)=false:=by simpa using hne0
  unfold E2
  cases ha':s'.al with
  | none=>exact ih
  | some q=>
   simp only[hne',U4,UV hne0];rw[Ip (S:=λj=>j ==i||S j) (S':=S) (λq hq=>by
    have:=hne 0 s' q rfl (by rw[ha'];exact nofun) hq;simp[this])]
   cases hS':S t0 with
   | true=>simpa using(Uv _ ih).trans (List.Perm.swap _ _ _)
   | false=>simpa using ih
theorem MY {S:Nat→Bool}{β:Nat→Nat}{i j:Nat}{p:List Rp×TypeId}{ncs:List Rp}:∀(r:List Sa) (t0 k:Nat) (s:Sa),j=t0+k→r[k]? =some s→s.al=some p→s.late=some (i,ncs)→S j=true→S i=false→(∀(t:Nat) (s:Sa) (q:Nat×List Rp),r[t]? =some s→s.al≠none→s.late=some q→t0+t≠j→q.1≠i)→(∀(t:Nat) (s:Sa),r[t]? =some s→s.al≠none→t0+t≠i)→
  ∃H',(E2 S β r t0).Perm (.blk (β j) p.1 p.2::H')∧(E2 (λj=>j ==i||S j) β r t0).Perm (.blk (β j) ncs p.2::H')
 | [],_,_,_,_,h,_,_,_,_,_,_=>by simp at h
 | s'::r,t0,0,s,hj,h,ha,hl,hSj,hSi,hne,hni=>by
  simp at h hj;subst h;subst hj;have e:=EL (S:=λx=>x ==i||S x) (S':=S) (β:=β) (β':=β) r (j+1) (λt s hs hn=>by
   have h1:=hni (t+1) s (by simpa using hs) hn;have h1':j+1+t≠i:=by omega
   refine⟨by simp[h1'],λ_=>⟨rfl,λq hq=>?_⟩⟩;have:=hne (t+1) s q (by simpa using hs) hn hq (by omega);simp[this])
  refine⟨E2 S β r (j+1),?_,?_⟩
  ·rw[DS];rw[ha];simp[hSj,Js,hl,hSi]
  ·rw[DS];rw[ha,e];simp[hSj,Js,hl]
 | s'::r,t0,k+1,s,hj,h,ha,hl,hSj,hSi,hne,hni=>by
  obtain⟨H',h1,h2⟩:=MY (S:=S) (β:=β) (i:=i) (j:=j) (p:=p) (ncs:=ncs) r (t0+1) k s (by omega) (by simpa using h) ha hl hSj hSi (λt s q hs hn hq hx=>hne (t+1) s q (by simpa using hs) hn hq (by omega)) (λt s hs hn=>by
   have:=hni (t+1) s (by simpa using hs) hn;omega)
  cases ha':s'.al with
  | none=>exact⟨H',by rw[DS,ha'];exact h1,by rw[DS,ha'];exact h2⟩
  | some q=>
   have hi0:=hni 0 s' rfl (by rw[ha'];exact nofun);have hi0':(t0 ==i)=false:=by simpa using hi0
   have ec:Js (λx=>x ==i||S x) s'.late q.1=Js S s'.late q.1:=Ip (λq hq=>by
    have:=hne 0 s' q rfl (by rw[ha'];exact nofun) hq (by omega);simp[this])
   cases hS':S t0 with
   | true=>
    refine⟨.blk (β t0) (Js S s'.late q.1) q.2::H',?_,?_⟩
    ·rw[DS];rw[ha'];simpa[hS'] using(Uv _ h1).trans (List.Perm.swap _ _ _)
    ·rw[DS];rw[ha'];simp only[hi0',U4,hS',UW,ec];exact(Uv _ h2).trans (List.Perm.swap _ _ _)
   | false=>
    refine⟨H',?_,?_⟩
    ·rw[DS];rw[ha'];simpa[hS'] using h1
    ·rw[DS];rw[ha'];simp only[hi0',U4,hS'];simpa using h2
def TT (n:Nat)(ops:List Oper)(N:Nat)(keys:List Nat)(deps:List (List Nat))(als:List Bool)(lates stos:List (Option Nat)):Bool:=
 Me ops N&&decide (N≤ops.length)&&
 (List.range N).all (λi=>match Cl ops i with
  | some d=>decide (d<n)&&!keys.contains d&&(List.range N).all (λj=>j ==i||Cl ops j !=some d)
  | none=>true)&&
 (List.range N).all (λi=>(deps.getD i []).all (λj=>decide (j<N)&&(DT (ops.getD i default)).contains j&&!als.getD j true))&&
 (List.range N).all (λi=>match stos.getD i none with
  | some j=>decide (j<N)&&(DT (ops.getD i default)).contains j&&als.getD j false&&!als.getD i true
  | none=>true)&&
 (List.range N).all (λj=>match lates.getD j none with
  | some k=>decide (k<N)&&als.getD j false&&stos.getD k none ==some j
  | none=>true)
def Tk (P:Program)(n:Nat)(c:Cx)(opsA:Array Oper)(Q:Exit→Act→World→Prop)(o:Oper)(p:List Rp×TypeId):Prop:=
 ∀H a w Z (K:Act→World→Prop),St c H Z w→(∀b w',St c (.blk b p.1 p.2::H) Z w'→K (a.put o.dst (.pointer (some ⟨b,0,none⟩))) w')→
  Region.wanted o (yielded opsA a.tmps)=true∧o.wp P a w K Q
def Th (P:Program)(n:Nat)(c:Cx)(opsA:Array Oper)(Q:Exit→Act→World→Prop)(ops:List Oper)(sp:List Sa)(l0:Fr)(H:List Ent)(i:Nat)(o:Oper):Prop:=
 match (Eu sp i).sto with
 | some j=>o.dst=none∧∃d p ncs,Cl ops j=some d∧(Eu sp j).al=some p∧(Eu sp j).late=some (i,ncs)∧
   ∀b H,Eb P n c opsA Q ((d,rv (.pointer (some ⟨b,0,none⟩)))::BJ ops (R3 sp) (Eu sp i).deps l0) (.blk b p.1 p.2::H) o (rv undef) (.blk b ncs p.2::H)
 | none=>match (Eu sp i).al with
  | none=>∀E,Eb P n c opsA Q (BJ ops (R3 sp) (Eu sp i).deps l0) (H++E) o (Eu sp i).r (H++E)
  | some p=>Tk P n c opsA Q o p
def Iq (P:Program)(n:Nat)(c:Cx)(opsA:Array Oper)(Q:Exit→Act→World→Prop)(ops:List Oper)(sp:List Sa)(l0:Fr)(H:List Ent):Nat→List Oper→Prop
 | i,o::rest=>Th P n c opsA Q ops sp l0 H i o∧Iq P n c opsA Q ops sp l0 H (i+1) rest
 | _,[]=>True
section
variable {P : Program} {n : Nat} {c : Cx} {opsA : Array Oper} {Q : Exit → Act → World → Prop} {l l0 : Fr} {H : List Ent} {sp : List Sa}
theorem Iq.at {ops:List Oper}:∀{k:Nat} {rest:List Oper},Iq P n c opsA Q ops sp l0 H k rest→∀(t:Nat) o,rest[t]? =some o→Th P n c opsA Q ops sp l0 H (k+t) o
 | k,o::rest,⟨h1,h2⟩,t,o',ht=>by
  cases t with
  | zero=>simp at ht;subst ht;exact h1
  | succ t=>
   have:=Iq.at h2 t o' (by simpa using ht);rw[show k+(t+1)=k+1+t from by omega];exact this
 | _,[],_,t,o,h=>by simp at h
theorem Mj {β:Nat→Nat}{a:Act}{Z:Fz}(h0:CA n l0 a Z):∀(os:List Oper) (ss:List Sa) (k:Nat),(∀(t:Nat) o s d,os[t]? =some o→ss[t]? =some s→o.dst=some d→∃v,a.tmps[d]? =some v∧(Jc β s (k+t)).p Z v)→CA n (JK β os ss k l0) a Z
 | [],_,_,_=>by unfold JK;exact h0
 | _::_,[],_,_=>by unfold JK;exact h0
 | o::os,s::ss,k,h=>by
  have ih:=Mj h0 os ss (k+1) (λt o' s' d h1 h2 h3=>by
   have:=h (t+1) o' s' d (by simpa using h1) (by simpa using h2) h3;rw[show k+1+t=k+(t+1) from by omega];exact this)
  unfold JK
  cases hd:o.dst with
  | none=>exact ih
  | some d=>
   refine⟨ih.size,ih.defers,λi r hi=>?_⟩;rw[BX] at hi
   split at hi
   ·rename_i e;subst e;simp at hi;subst hi;exact h 0 o s d rfl rfl hd
   ·exact ih.tm i r hi
theorem S8 {id:Nat}{ops:List Oper}(N:Nat)(sp:List Sa)(hm:P.follows .mixedOrders=true)(hB:TT n ops N (DW l0) (sp.map (·.deps)) (sp.map (·.al.isSome)) (sp.map (·.late.map (·.1))) (sp.map (·.sto))=true)(hl0:P8 l0 l)(hsp:sp.length=N)
  (hob:Iq P n c ops.toArray Q ops sp l0 H 0 (ops.take N)) (h:∀β,WL P n c ops.toArray Q (ops.drop N) (JK β (ops.take N) sp 0 l0) (H++Py β sp 0)):WC P n c (.region id ops.toArray true) Q l H:=by
 intro a w Z ha hw;simp only[TT,Uq,UP,List.mem_range,Un] at hB;obtain⟨⟨⟨⟨⟨b1,bN⟩,b2⟩,b3⟩,b4⟩,b5⟩:=hB;have hget:∀i,i<N→(ops.take N)[i]? =ops[i]?:=λi hi=>by rw[UQ,if_pos hi]
 have hsa:∀i,i<N→sp[i]? =some (Eu sp i):=λi hi=>by
  simp[Eu,Ut,Us (show i<sp.length by omega)]
 have hspq:∀i,i<N→(Df (R3 sp) i)=⟨(Eu sp i).deps,(Eu sp i).r,0⟩:=λi hi=>by
  simp[Df,R3,Ut,UN,hsa i hi]
 have hals:∀j b,j<N→(sp.map (·.al.isSome)).getD j b=(Eu sp j).al.isSome:=λj b hj=>by simp[Ut,UN,hsa j hj]
 have hstos:∀j,j<N→(sp.map (·.sto)).getD j none=(Eu sp j).sto:=λj hj=>by simp[Ut,UN,hsa j hj]
 have hlates:∀j,j<N→(sp.map (·.late.map (·.1))).getD j none=(Eu sp j).late.map (·.1):=λj hj=>by simp[Ut,UN,hsa j hj]
 have S1:∀i o j,i<N→ops[i]? =some o→(Eu sp i).sto=some j→j<N∧j∈DT o∧(Eu sp j).al≠none∧(Eu sp i).al=none:=λi o j hi ho hs=>by
  have h1:=b4 i hi;rw[hstos i hi,hs] at h1;simp only[Uq,U5,Un] at h1;obtain⟨⟨⟨h2,h3⟩,h4⟩,h5⟩:=h1;rw[hals j _ h2] at h4;rw[hals i _ hi] at h5;rw[Ut,ho,UK,List.contains_iff_mem] at h3;exact⟨h2,h3,λe=>(by rw[e] at h4;cases h4),(by simpa using h5)⟩
 have L1:∀t q,t<N→(Eu sp t).late=some q→q.1<N∧(Eu sp q.1).sto=some t:=λt q ht hq=>by
  have h1:=b5 t ht;rw[hlates t ht,hq] at h1;simp only[Option.map_some,Uq,Un,beq_iff_eq] at h1;obtain⟨⟨h2,h3⟩,h4⟩:=h1;rw[hstos _ h2] at h4;exact⟨h2,h4⟩
 have hops:∀j,j<N→∃o,ops[j]? =some o:=λj hj=>⟨ops[j]'(by omega),Us (by omega)⟩
 have lt_of:∀(t:Nat) (s:Sa),sp[t]? =some s→t<N∧s=Eu sp t:=λt s hs=>by
  have h1:t<N:=by have:=(List.getElem?_eq_some_iff.1 hs).1;omega
  refine⟨h1,?_⟩;rw[hsa t h1] at hs;simpa using hs.symm
 have hdst:∀i o d,i<N→ops[i]? =some o→o.dst=some d→(d<n∧d ∉ DW l0)∧∀j,j<N→j≠i→Cl ops j≠some d:=λi o d hi ho hd=>by
  have h3:=b2 i hi;have:Cl ops i=some d:=by simp[Cl,ho,hd]
  rw[this] at h3;simp only[Uq,U5,UP,List.mem_range,Un] at h3;refine⟨⟨h3.1.1,λhmem=>by rw[← List.contains_iff_mem] at hmem;rw[hmem] at h3;cases h3.1.2⟩,λj hj hne he=>?_⟩;have:=h3.2 j hj;simp[hne,he] at this
 refine PP (N:=N) hm b1 bN (λS a w=>∃ (β:Nat→Nat) (Z:Fz),St c (H++E2 S β sp 0) Z w∧CA n l0 a Z∧(∀j o d,j<N→S j=true→ops[j]? =some o→o.dst=some d→∃v,a.tmps[d]? =some v∧(Jc β (Eu sp j) j).p Z v)∧
   ∀k j,k<N→(Eu sp k).sto=some j→S k=true→S j=true)
  (λS S' a w hS hI=>?_) ⟨λ_=>0,Z,?_,ha.subL hl0,λj o d _ hS=>(by cases hS),λk j _ _ hS=>(by cases hS)⟩ (λS i o a w hi hun ho hb hI K hK=>?_) (λa w hI=>?_)
 ·obtain⟨β,Z,h1,h2,h3,h4⟩:=hI;refine⟨β,Z,?_,h2,λj o d hj hS'=>h3 j o d hj (by rw[hS j hj];exact hS'),λk j hk hs hSk=>?_⟩
  ·rw[← EL (S:=S) (β:=β) (β':=β) sp 0 (λt s hs _=>by
    obtain⟨ht,rfl⟩:=lt_of t s hs;exact⟨hS _ (by omega),λ_=>⟨rfl,λq hq=>hS _ (L1 t q ht hq).1⟩⟩)]
   exact h1
  ·obtain⟨o,ho⟩:=hops k hk;rw[← hS j (S1 k o j hk ho hs).1];exact h4 k j hk hs (by rw[hS k hk];exact hSk)
 ·rw[L9,UY];exact hw.drawn _
 ·obtain⟨β,Z,h1,h2,h3,hx⟩:=hI;have hput:∀k u v,a.tmps[k]? =some u→o.dst≠some k→(a.put o.dst v).tmps[k]? =some u:=λk u v hk hne=>by
   cases hd:o.dst with
   | none=>simpa[Act.put] using hk
   | some d=>
    simp only[Act.put,Array.getElem?_setIfInBounds];rw[UV (λe=>hne (by rw[hd,e]))];exact hk
  have hagr:∀v Z',Fz.le Z Z'→CA n l0 (a.put o.dst v) Z':=λv Z' hz=>by
   refine⟨?_,?_,λk r hk=>?_⟩
   ·cases o.dst<;>simp[Act.put,h2.size]
   ·cases o.dst<;>simp[Act.put,h2.defers]
   ·obtain⟨u,hu,hpu⟩:=h2.tm k r hk;exact⟨u,hput k u v hu (λe=>((hdst i o k hi ho e).1).2 (IJ hk)),r.mono hz hpu⟩
  have hvals:∀(v:Value) (Z':Fz) (β':Nat→Nat),Fz.le Z Z'→(∀j,j≠i→β' j=β j)→(o.dst≠none→(Jc β' (Eu sp i) i).p Z' v)→∀j o' d,j<N→(j ==i||S j)=true→ops[j]? =some o'→o'.dst=some d→∃u,(a.put o.dst v).tmps[d]? =some u∧(Jc β' (Eu sp j) j).p Z' u:=by
   intro v Z' β' hz hβ hp j o' d hj hS' ho' hd
   by_cases hji:j=i
   ·subst hji;rw[ho] at ho';simp at ho';subst ho';refine⟨v,?_,hp (by simp[hd])⟩;have hdn:d<a.tmps.size:=by rw[h2.size];exact(hdst j o d hi ho hd).1.1
    simp[Act.put,hd,hdn]
   ·have hSj:S j=true:=by simpa[hji] using hS'
    obtain⟨u,hu,hpu⟩:=h3 j o' d hj hSj ho' hd;refine⟨u,hput d u v hu (λe=>(hdst i o d hi ho e).2 j hj hji (by simp[Cl,ho',hd])),?_⟩;have:Jc β' (Eu sp j) j=Jc β (Eu sp j) j:=by unfold Jc;rw[hβ j hji]
    rw[this];exact(Jc β (Eu sp j) j).mono hz hpu
  have hx':∀k j,k<N→(Eu sp k).sto=some j→(k ==i||S k)=true→(j ==i||S j)=true:=λk j hk hs hSk=>by
   by_cases hki:k=i
   ·subst hki;have:=(hb j (S1 k o j hk ho hs).2.1).2;simp[this]
   ·have:S j=true:=hx k j hk hs (by simpa[hki] using hSk);simp[this]
  have hat:=hob.at i o (by rw[hget i hi];exact ho);rw[US] at hat;unfold Th at hat;have hag':CA n (BJ ops (R3 sp) (Eu sp i).deps l0) a Z:=IW h2 (λj hj d hd=>by
    have h4:=b3 i hi j (by simpa[Ut,UN,hsa i hi] using hj);simp only[Uq,U5,Un] at h4;obtain⟨⟨h5,h6⟩,h7⟩:=h4;rw[Ut,ho,UK,List.contains_iff_mem] at h6;have hjal:(Eu sp j).al=none:=by
     rw[hals j _ h5] at h7;simpa using h7
    obtain⟨o2,ho2⟩:=hops j h5;obtain⟨v,hv1,hv2⟩:=h3 j o2 d h5 (hb j h6).2 ho2 (by simpa[Cl,ho2] using hd);refine⟨v,hv1,?_⟩;rw[hspq j h5];simpa[Jc,hjal] using hv2)
  cases hst:(Eu sp i).sto with
  | some j=>
   rw[hst] at hat;obtain⟨hod,d,p,ncs,hd,hal,hlate,hok⟩:=hat;obtain⟨hjN,hjb,_,hial⟩:=S1 i o j hi ho hst;have hSj:=(hb j hjb).2;obtain⟨H',p1,p2⟩:=MY (S:=S) (β:=β) (i:=i) (j:=j) (p:=p) (ncs:=ncs) sp 0 j (Eu sp j) (by omega) (hsa j hjN) hal hlate hSj hun (λt s q hs _ hq hne he=>by
     obtain⟨ht,rfl⟩:=lt_of t s hs;have:=(L1 t q ht hq).2;rw[he,hst] at this;simp at this;omega) (λt s hs hn he=>by
     obtain⟨ht,rfl⟩:=lt_of t s hs;rw[US] at he;subst he;exact hn hial)
   obtain⟨o2,ho2⟩:=hops j hjN;obtain⟨v,hv1,hv2⟩:=h3 j o2 d hjN hSj ho2 (by simpa[Cl,ho2] using hd);have hag2:CA n ((d,rv (.pointer (some ⟨β j,0,none⟩)))::BJ ops (R3 sp) (Eu sp i).deps l0) a Z:=⟨hag'.size,hag'.defers,λk r hk=>by
    rw[BX] at hk
    split at hk
    ·rename_i e;subst e;simp at hk;subst hk
     exact⟨v,hv1,by simpa[Jc,hal] using hv2⟩
    ·exact hag'.tm k r hk⟩
   refine hok (β j) (H++H') a w Z K hag2 (h1.perm ((List.Perm.append_left H p1).trans List.perm_middle)) (λv w' Z' hz _ hs'=>hK _ _ ⟨β,Z',?_,hagr v Z' hz,hvals v Z' β hz (λ_ _=>rfl) (λhne=>absurd hod hne),hx'⟩);exact hs'.perm (List.perm_middle.symm.trans (List.Perm.append_left H p2.symm))
  | none=>
   rw[hst] at hat;have latene:∀t q,t<N→(Eu sp t).late=some q→q.1≠i:=λt q ht hq he=>by
    have:=(L1 t q ht hq).2;rw[he,hst] at this;cases this
   cases hal:(Eu sp i).al with
   | none=>
    rw[hal] at hat;refine hat _ a w Z K hag' h1 (λv w' Z' hz hp hst'=>hK _ _ ⟨β,Z',?_,hagr v Z' hz,hvals v Z' β hz (λ_ _=>rfl) (λ_=>by unfold Jc;rw[hal];exact hp),hx'⟩);rw[EL (S':=S) (β':=β) sp 0 (λt s hs hn=>by
     obtain⟨ht,rfl⟩:=lt_of t s hs;have:t≠i:=λe=>by subst e;exact hn hal
     refine⟨by simp[this],λ_=>⟨rfl,λq hq=>?_⟩⟩;have:=latene t q ht hq;simp[this])]
    exact hst'
   | some p=>
    rw[hal] at hat;have key:=λK' hK'=>hat (H++E2 S β sp 0) a w Z K' h1 hK';have h5:∀b w',St c (.blk b p.1 p.2::(H++E2 S β sp 0)) Z w'→K (a.put o.dst (.pointer (some ⟨b,0,none⟩))) w':=λb w' hst'=>by
     refine hK _ _ ⟨λj=>if j=i then b else β j,Z,?_,hagr _ Z (Fz.le.refl _),hvals _ Z _ (Fz.le.refl _) (λj hj=>by simp[hj]) (λ_=>by simp[Jc,hal,rv]),hx'⟩;have hp:=MZ (S:=S) (β:=β) (i:=i) (b:=b) (p:=p) sp 0 i (Eu sp i) (by omega) (hsa i hi) hal hun (λt s q hs _ hq=>by
      obtain⟨ht,rfl⟩:=lt_of t s hs;exact latene t q ht hq) (λq hq=>by
       refine⟨?_,latene i q hi hq⟩
       cases hS:S q.1 with
       | false=>rfl
       | true=>
        obtain⟨h6,h7⟩:=L1 i q hi hq;have:=hx q.1 i h6 h7 hS;rw[this] at hun;cases hun)
     exact hst'.perm ((List.perm_middle.symm).trans (List.Perm.append_left H hp.symm))
    refine⟨λ_=>(key K h5).2,λhw'=>?_⟩;rw[(key K h5).1] at hw';cases hw'
 ·obtain⟨β,Z,h1,h2,h3,_⟩:=hI;refine h β a w Z (Mj h2 _ _ 0 (λt o s d ht hs hd=>?_)) (by rw[← Na];exact h1);obtain⟨htN,rfl⟩:=lt_of t s hs;rw[US];exact h3 t o d htN rfl (by rw[← hget t htN];exact ht) hd
end
theorem Sy {P:Program}{n:Nat}{c:Cx}{opsA:Array Oper}{Q:Exit→Act→World→Prop}{d:Nat}{e:TypeId}{ty:TypeId}{pos:String}{af:Array Edge}{z:Value}{cs:List Rp}(hz:∀w,(zeroValue e).run P w = .ok z w)(hcs:z.cells.toList.map rv=cs) :
  Tk P n c opsA Q { dst:=some d,op:=.alloc e,type:=ty,pos:=pos,after:=af,guard:=none } (cs,e):=λH a w Z K hw hK=>by
 refine⟨by simp[Region.wanted],?_⟩;unfold Oper.wp;rw[show(execOp a.eval { dst:=some d,op:=.alloc e,type:=ty,pos:=pos,after:=af,guard:=none }).run P w = .ok (.value (.pointer (some ⟨w.heap.size,0,none⟩))) (w.alloc (.cells z.cells e)) from by simp[execOp,Instr.alloc,hz,newVar,newRow,newObj,Sem.run,Sem.run_bind]];exact hK _ _ (hw.alloc _ (e:=.blk w.heap.size cs e) ⟨z.cells.toList,by simpa using heap_alloc_new w _,by subst hcs;exact AX.rvs Z _⟩ rfl)
section
variable {P : Program} {n : Nat} {c : Cx} {opsA : Array Oper} {Q : Exit → Act → World → Prop} {l l0 : Fr} {H : List Ent} {sp : List Sa}
theorem It {id:Nat}{ops:List Oper}(N:Nat)(ks0:List Nat)(sp:List Sa)(hob:Iq P n c ops.toArray Q ops sp l0 H 0 (ops.take N))(h:∀β,WL P n c ops.toArray Q (ops.drop N) (JK β (ops.take N) sp 0 l0) (H++Py β sp 0))
  (h0:Kp ks0 l l0:=by repeat (first | exact Ll | (apply Jm;rfl) | (apply JN;rfl))) (hm:P.follows .mixedOrders=true:=by kernel_rfl) (hB:TT n ops N (DW l0) (sp.map (·.deps)) (sp.map (·.al.isSome)) (sp.map (·.late.map (·.1))) (sp.map (·.sto))=true:=by kernel_rfl)
  (hsp:sp.length=N:=by rfl):WC P n c (.region id ops.toArray true) Q l H:=S8 N sp hm hB h0.one hsp hob h
theorem Ea {all rest:List Oper}{d:Nat}{op:Op}{ty:TypeId}{pos:String}{af:Array Edge}{i:Nat}
  (hr:∀{H},Bd P n c (BJ all (R3 sp) (Eu sp i).deps l0) H { dst:=some d,op:=op,type:=ty,pos:=pos,after:=af,guard:=none } (Eu sp i).r) (h:Iq P n c opsA Q all sp l0 H (i+1) rest) (ha:(Eu sp i).al=none:=by rfl) (hs:(Eu sp i).sto=none:=by rfl) :
  Iq P n c opsA Q all sp l0 H i ({ dst:=some d,op:=op,type:=ty,pos:=pos,after:=af,guard:=none }::rest):=by
 refine⟨?_,h⟩;unfold Th;rw[hs,ha];exact λ_=>Qr hr
theorem TU {all rest:List Oper}{d:Nat}{op:Op}{ty:TypeId}{pos:String}{af:Array Edge}{i:Nat}
  (hr:∀{E},Bd P n c (BJ all (R3 sp) (Eu sp i).deps l0) (H++E) { dst:=some d,op:=op,type:=ty,pos:=pos,after:=af,guard:=none } (Eu sp i).r) (h:Iq P n c opsA Q all sp l0 H (i+1) rest) (ha:(Eu sp i).al=none:=by rfl) (hs:(Eu sp i).sto=none:=by rfl) :
  Iq P n c opsA Q all sp l0 H i ({ dst:=some d,op:=op,type:=ty,pos:=pos,after:=af,guard:=none }::rest):=by
 refine⟨?_,h⟩;unfold Th;rw[hs,ha];exact λ_=>Qr hr
theorem Ue {all rest:List Oper}{o:Oper}{p:List Rp×TypeId}{i:Nat}(hr:Tk P n c opsA Q o p)(h:Iq P n c opsA Q all sp l0 H (i+1) rest)(ha:(Eu sp i).al=some p:=by rfl)(hs:(Eu sp i).sto=none:=by rfl):Iq P n c opsA Q all sp l0 H i (o::rest):=by
 refine⟨?_,h⟩;unfold Th;rw[hs,ha];exact hr
theorem Tw {all:List Oper}{i:Nat}:Iq P n c opsA Q all sp l0 H i []:=trivial
end
structure Rn (ks:List Nat) (β:Nat→Nat) (os:List Oper) (sp:List Sa) (i:Nat) (l0 l1:Fr):Prop where
 go:Kp ks (JK β os sp i l0) l1
section
variable {ks : List Nat} {β : Nat → Nat} {os : List Oper} {sp : List Sa} {i d : Nat} {l0 l1 : Fr} {ds : List Nat} {r : Rp} {p : List Rp × TypeId} {lt : Option (Nat × List Rp)} {so : Option Nat} {op : Op} {ty : TypeId} {pos : String} {af : Array Edge} {g : Option (Nat × Bool)}
theorem T1 (h:ks.contains d=true)(t:Rn ks β os sp (i+1) l0 l1):Rn ks β ({ dst:=some d,op:=op,type:=ty,pos:=pos,after:=af,guard:=g }::os) ({ deps:=ds,r:=r,sto:=so }::sp) i l0 ((d,r)::l1):=⟨Jm h t.go⟩
theorem T4 (h:ks.contains d=true)(t:Rn ks β os sp (i+1) l0 l1):Rn ks β ({ dst:=some d,op:=op,type:=ty,pos:=pos,after:=af,guard:=g }::os) ({ deps:=ds,r:=r,al:=some p,late:=lt,sto:=so }::sp) i l0 ((d,rv (.pointer (some ⟨β i,0,none⟩)))::l1):=⟨Jm h t.go⟩
theorem T3 {s:Sa}(h:ks.contains d=false)(t:Rn ks β os sp (i+1) l0 l1):Rn ks β ({ dst:=some d,op:=op,type:=ty,pos:=pos,after:=af,guard:=g }::os) (s::sp) i l0 l1:=⟨JN h t.go⟩
theorem T2 {s:Sa}(t:Rn ks β os sp (i+1) l0 l1):Rn ks β ({ dst:=none,op:=op,type:=ty,pos:=pos,after:=af,guard:=g }::os) (s::sp) i l0 l1:=⟨t.go⟩
theorem T5 (t:Kp ks l0 l1):Rn ks β [] [] i l0 l1:=⟨t⟩
theorem IZ {P:Program}{n:Nat}{c:Cx}{opsA:Array Oper}{Q:Exit→Act→World→Prop}{rest:List Oper}{H H1:List Ent}(ks:List Nat)(h:WL P n c opsA Q rest l1 H1)
  (hz:Rn ks β os sp i l0 l1:=by repeat (first | (apply T1;rfl) | (apply T4;rfl) | (apply T3;rfl) | apply T2 | apply T5 | exact Ll | (apply Jm;rfl) | (apply JN;rfl))) (hH:H=H1:=by rfl) :
  WL P n c opsA Q rest (JK β os sp i l0) H:=λa w Z ha hw=>h a w Z (ha.subL hz.go.one) (hH▸hw)
end
section
variable {P : Program} {n : Nat} {c : Cx} {opsA : Array Oper} {Q : Exit → Act → World → Prop} {l l0 : Fr} {H : List Ent} {sp : List Sa}
theorem Uf {all rest:List Oper}{o:Oper}{i:Nat}(hr:∀{E},Eb P n c opsA Q (BJ all (R3 sp) (Eu sp i).deps l0) (H++E) o (Eu sp i).r (H++E))(h:Iq P n c opsA Q all sp l0 H (i+1) rest)(ha:(Eu sp i).al=none:=by rfl)(hs:(Eu sp i).sto=none:=by rfl):Iq P n c opsA Q all sp l0 H i (o::rest):=by
 refine⟨?_,h⟩;unfold Th;rw[hs,ha];exact λ_=>hr
end
section
variable {P : Program} {n : Nat} {c : Cx} {opsA : Array Oper} {Q : Exit → Act → World → Prop} {l : Fr} {H : List Ent} {d : Nat} {ty : TypeId} {pos : String} {af : Array Edge}
end
section
variable {P : Program} {n : Nat} {c : Cx} {ops : Array Oper} {Q : Exit → Act → World → Prop} {rest : List Oper} {l : Fr} {H H' : List Ent} {d : Nat} {d' : Option Nat} {x y z3 : Operand} {ty t t' e : TypeId} {pos : String} {af : Array Edge} {g : Option (Nat × Bool)} {v u : Value} {r : Rp} {sz : Nat}
end
def Uc (p:Bool→Prop):Rp:=⟨λ_ v=>∃b,v = .bool b∧p b,λ_ h=>h,true,λ_ Z v ⟨b,e,_⟩=>by rw[e];rfl⟩
section
variable {P : Program} {n : Nat} {c : Cx} {ops : Array Oper} {Q : Exit → Act → World → Prop} {rest : List Oper} {l : Fr} {H : List Ent} {d : Option Nat} {ty rty t e : TypeId} {pos : String} {af : Array Edge} {g : Option (Nat × Bool)} {r : Rp} {x : Operand} {cx cy : Code} {sz : Nat} {xs : List (List Rp)}
theorem PS {o:Operand}{p:Bool→Prop}(ho:ev l o=some (Uc p))(h1:p true→WC P n c cx Q l H)(h2:p false→WC P n c cy Q l H):WC P n c (.cond o cx cy) Q l H:=λa w Z ha hw=>by
 obtain⟨b,e,hp⟩:=ha.ev ho;exact wp_cond_split e (λe=>h1 (e▸hp) a w Z ha hw) (λe=>h2 (e▸hp) a w Z ha hw)
theorem Pe (ht:P.underlying t=some (.slice e))(h:ev l x=some (Bl sz xs)):Bd P n c l H { dst:=d,op:=.binOp .eql t x (.const (.slice none 0 0)) rty,type:=ty,pos:=pos,after:=af,guard:=g } (Uc (λb=>b=true→xs=[])):=λa w Z ha hw=>by
 obtain⟨A,cap,e1,h1,h2,h3,h4⟩:=ha.ev h;refine⟨.bool A.isNone,⟨_,rfl,λhb=>?_⟩,?_⟩
 ·cases A with
  | some a=>cases hb
  | none=>
   have:=h3 rfl;exact List.length_eq_zero_iff.1 (by omega)
 ·have:=run_equal_slice_nil (P:=P) w t e A xs.length cap ht;have e2:a.eval (.const (.slice none 0 0)) = .slice none 0 0:=rfl;simp[execOp,e1,e2,binOp,this,eqGuard]
end
section
variable {P : Program} {n : Nat} {c : Cx} {Q : Exit → Act → World → Prop} {l : Fr} {H : List Ent} {x rest' : Code} {K : Act → World → Prop}
theorem H7 {lb:Nat}(h:WK n c (Q (.goto lb)) l H):WC P n c (.goto lb) Q l H:=λa w Z ha hw=>wp_goto (h a w Z ha hw)
theorem B8 {lb:Nat}(h:WK n c (Q (.goto lb)) l H):WK n c (Exit.then K Q (.goto lb)) l H:=h
theorem Ec {id lb:Nat}(h:WK n c (Q (.goto lb)) l H):WK n c (Exit.inBlock id Q (.goto lb)) l H:=h
theorem Hp {id lb:Nat}(h:WK n c (Q (.goto lb)) l H):WK n c (QY id K Q (.goto lb)) l H:=h
theorem Ru {lb:Nat}(h:WK n c (Q .ret) l H):WK n c (Exit.jump lb K Q .ret) l H:=h
theorem H6 {lb:Nat}(h:WK n c K l H):WK n c (Exit.jump lb K Q (.goto lb)) l H:=λa w Z ha hw=>⟨rfl,h a w Z ha hw⟩
theorem Lf {S:Type}(lb:Nat)(inv:S→Prop)(fr:S→Fr)(hp:S→List Ent)(hf:findLabel x lb=some rest')
  (h1:WC P n c x (Exit.jump lb (Ga n c inv fr hp) Q) l H) (h2:∀s,inv s→WC P n c rest' (Exit.noGoto Q) (fr s) (hp s)):WC P n c (.scope x) Q l H:=λa w Z ha hw=>
 wp_scope_jumps lb (Ga n c inv fr hp) (λ_ _=>0) hf (h1 a w Z ha hw) (by
  rintro a w ⟨s,Z,hi,ha,hw⟩;refine wp_mono (h2 s hi a w Z ha hw) λe a w q=>?_
  cases e with
  | goto _=>exact q.elim
  | _=>exact q)
end
section
variable {P : Program} {n : Nat} {c : Cx} {ops : Array Oper} {Q : Exit → Act → World → Prop} {rest : List Oper} {l : Fr} {H H' : List Ent} {d : Nat} {d' : Option Nat} {x y z3 z4 : Operand} {ty t t' e : TypeId} {pos : String} {af : Array Edge} {g : Option (Nat × Bool)} {v u : Value} {r : Rp} {sz : Nat}
theorem MG {α:Type}{ys:List α}{enc:α→List Rp}{k' k'':IntKind}{j:Int}(ht:P.underlying t=some (.slice e))(hz:∀w,(sizeOf e).run P w = .ok sz w)(h:ev l x=some (Bl sz (ys.map enc)))(hj:ev l z3=some (rI k' j))(hm:ev l z4=some (rI k'' j))(hg2:Hf j (ys.length:Int)=true) :
  Bd P n c l H { dst:=d',op:=.slice t x none (some z3) (some z4),type:=ty,pos:=pos,after:=af,guard:=g } (Bl sz ((ys.take j.toNat).map enc)):=λa w Z ha hw=>by
 obtain⟨A,cap,e1,hc1,hc2,hA,hc⟩:=ha.ev h;have h0:=(C7 hg2).1;have h2:=(C7 hg2).2;simp only[U2] at e1 hc1;have h3:j≤(cap:Int):=by omega
 refine⟨.slice A j.toNat j.toNat,⟨A,j.toNat,?_,?_,by omega,?_,λq cl hq=>?_⟩,?_⟩
 ·congr 1
  simp;omega
 ·simp;omega
 ·intro hn;have:=hA hn;omega
 ·rw[UN,UQ] at hq
  split at hq
  ·exact hc q cl (by rw[UN];exact hq)
  ·cases hq
 ·have hA':A.map (λb=>b.add 0)=A:=by
   cases A with
   | none=>rfl
   | some ad=>obtain⟨b,o,sp⟩:=ad;cases sp<;>rfl
  simp[execOp,e1,ha.eval hj,ha.eval hm,Instr.sliceAt,Instr.slice,run_underlying ht,Instr.sliceBounds,Bn (m:=cap) _ _ h0 h3,Bn (m:=j.toNat) _ _ h0 (by omega),hz]
  try (intro _;cases A<;>rfl)
theorem RG {i:Nat}{rs:List Rp}{fs:Array Field}{f:Field}(hu:P.underlying t=some (.struct fs))(hf:fs[i]? =some f)(hag:∀w,(isAgg f.type).run P w = .ok false w)(hx:ev l x=some (Bo rs))(hr:rs[f.offset]? =some r) :
  Bd P n c l H { dst:=d',op:=.field t x i,type:=ty,pos:=pos,after:=af,guard:=g } r:=λa w Z ha hw=>by
 obtain⟨us,e1,hus⟩:=ha.ev hx;obtain⟨v,hv,hp⟩:=hus.at hr;exact⟨v,hp,by simp[execOp,e1,Instr.field,run_underlying hu,hf,asAgg,part,hag,hv]⟩
theorem S9 {α:Type}{enc:α→List Rp}{inf:TypeInfo}{z:Value}{zα:α}{rz:Rp}{kl kc:IntKind}{m:Nat}{bytes:Nat}(ht:P.underlying t=some (.slice e))(hinf:P.info? e=some inf)(hz:inf.zero=some z)(hsize:inf.size=1)(hby:inf.bytes=bytes)(hbp:Nat.blt 0 bytes=true)
  (hzc:z.cells = #[z]) (henc:enc zα=[rz]) (hrz:∀Z,rz.p Z z)
  (hx:ev l x=some (rI kl m)) (hy:ev l y=some (rI kc m)) (hg:D1 bytes m=true) (hn:Nat.blt d n=true)
  (h:∀v',WL P n c ops Q rest ((d,rv v')::l) (.row v' e 1 ((List.replicate m zα).map enc)::H)) :
  WL P n c ops Q ({ dst:=some d,op:=.makeSlice t x y,type:=ty,pos:=pos,after:=af,guard:=none }::rest) l H:=
 Ic (λa w Z ha hw=>by
  have hb:m*bytes≤140737488355328:=by simpa[D1] using hg
  have hbp':0<bytes:=by simpa using hbp
  have hle:m≤m*bytes:=Nat.le_mul_of_pos_right _ hbp';obtain⟨w',e1,e2,e3⟩:=run_make_full (P:=P) w 0 t e inf z 1 ht hinf hz hsize kl kc m (by rw[hby,Nat.mul_comm];omega) (by simp only[maxLen];omega) (UU _);rw[hzc,toList_madeCells_one,Nat.mul_one] at e2;have hall:AX Z ((List.replicate m zα).map enc).flatten (List.replicate m z):=by
   clear e2 hle hb hg hx hy h e1
   induction m with
   | zero=>trivial
   | succ m ih=>rw[List.replicate_succ,List.replicate_succ,Vh,List.flatten_cons,henc];exact⟨hrz Z,ih⟩
  have hlen:∀cl∈(List.replicate m zα).map enc,cl.length=1:=λcl hcl=>by
   obtain⟨q,hq,rfl⟩:=List.mem_map.1 hcl;rw[(List.mem_replicate.1 hq).2,henc];rfl
  have hent:(Ent.row (.slice (some ⟨w.heap.size,0,none⟩) m m) e 1 ((List.replicate m zα).map enc)).holds Z w':=⟨hlen,List.replicate m z,by simpa using e2,hall⟩
  exact⟨.slice (some ⟨w.heap.size,0,none⟩) m m,w',rv (.slice (some ⟨w.heap.size,0,none⟩) m m),_,Z,by simp[execOp,ha.eval hx,ha.eval hy,e1],Fz.le.refl _,rfl,hw.add e3.os e3.tape e3.output e3.size (λk hk=>e3.block k hk (by simp)) hent (by simp[Ent.foot,Value.ownBlock]),h _⟩) hn
theorem SA {α:Type}{xs ys:List α}{enc:α→List Rp}{i:Nat}(ht:P.underlying t=some (.slice e))(hs:(P.info? e).map (·.size)=some 1)
  (hx:ev l x=some (rv v)) (hi:H[i]? =some (.row v e 1 (xs.map enc))) (hy:Jw P n c l H y 1 ys.length (ys.map enc).flatten) (henc:∀z,(enc z).length=1) (hone:∀z,(enc z).all (·.one)=true) (hn:Nat.blt d n=true)
  (h:WL P n c ops Q rest ((d,rI .i64 (Nat.min ys.length xs.length:Nat))::l) (H.set i (.row v e 1 ((Nb xs ys).map enc)))) :
  WL P n c ops Q ({ dst:=some d,op:=.call { callee:=.builtin .copy,args:=#[x,y],argTypes:=#[t,t'] },type:=ty,pos:=pos,after:=af,guard:=none }::rest) l H:=
 Ic (λa w Z ha hw=>by
  obtain⟨h0,us,⟨h1,h2⟩,h3⟩:=hw.ent hi;obtain⟨ws,h4,h5,h6⟩:=hy a w Z ha hw;rw[Nat.mul_one] at h5;have hws:∀y∈ws,y.oneCell'=true:=AX.one (rs:=(ys.map enc).flatten) (by
   rw[UP];intro r hr;obtain⟨cl,hcl,hrc⟩:=List.mem_flatten.1 hr;obtain⟨z',_,rfl⟩:=List.mem_map.1 hcl;exact List.all_eq_true.1 (hone z') r hrc) h4
  have ftake:∀(zs:List α) (k:Nat),((zs.take k).map enc).flatten=((zs.map enc).flatten).take k:=by
   intro zs
   induction zs with
   | nil=>intro k;simp
   | cons z zs ih=>
    intro k
    cases k with
    | zero=>simp
    | succ k=>
     have hz1:=henc z;simp only[List.take_succ_cons,Vh,List.flatten_cons,ih k];rw[show k+1=(enc z).length+k by omega,List.take_length_add_append]
  have fdrop:∀(zs:List α) (k:Nat),((zs.drop k).map enc).flatten=((zs.map enc).flatten).drop k:=by
   intro zs
   induction zs with
   | nil=>intro k;simp
   | cons z zs ih=>
    intro k
    cases k with
    | zero=>simp
    | succ k=>
     have hz1:=henc z;simp only[List.drop_succ_cons,Vh,List.flatten_cons,ih k];rw[show k+1=(enc z).length+k by omega,List.drop_length_add_append]
  have fcpy:((Nb xs ys).map enc).flatten=((ys.map enc).flatten).take xs.length++((xs.map enc).flatten).drop ys.length:=by
   unfold Nb;rw[List.map_append,List.flatten_append,ftake,fdrop]
  have hcl:(Nb xs ys).length=xs.length:=by unfold Nb;simp;omega
  have h1':us.length=xs.length:=by simpa using h1
  rcases h2 with⟨rfl,hz⟩ | ⟨b,cap,cur,rfl,hb0,hg',hcap,hm,hcs,htk⟩
  ·have hxs:xs=[]:=by simpa using hz
   subst hxs;have hrun:(Builtin.copy_ #[t,t'] ty #[.slice none 0 0,a.eval y]).run P w = .ok (goInt 0) w:=by
    rcases h6 with⟨hv,_⟩ | ⟨ad,cp,hv,_⟩
    ·rw[hv];exact run_copy_none w t t' ty e none none 0 0 0 0 ht hs (by simp)
    ·rw[hv];exact run_copy_none w t t' ty e none (some ad) 0 0 ys.length cp ht hs (by simp)
   have hent:(Ent.row (.slice none 0 0) e 1 ((Nb [] ys).map enc)).holds Z w:=⟨by simp[Nb],[],⟨by simp[Nb],.inl ⟨rfl,by simp[Nb]⟩⟩,by simp[Nb];trivial⟩
   exact⟨goInt 0,w,rI .i64 (Nat.min ys.length ([]:List α).length:Nat),_,Z,by simp[execOp,resolve,invoke,builtin,ha.eval hx,hrun],Fz.le.refl _,(by simp[goInt];rfl),hw.set hi rfl rfl rfl (UG _) (λ_ _ _=>rfl) hent (by simp[Ent.foot,Value.ownBlock]),h⟩
  ·simp only[U2] at hcap htk;rw[Nat.mul_one] at htk hcs;have hxc:xs.length≤cur.size:=by omega
   have hset:∀vs:List Value,vs.length=xs.length→AX Z ((Nb xs ys).map enc).flatten vs→∀cur':Array Value,cur'.size=cur.size→cur'.toList.take xs.length=vs→
     St c (H.set i (.row (.slice (some ⟨b,0,none⟩) xs.length cap) e 1 ((Nb xs ys).map enc))) Z (w.setRow b cur'):=λvs hvl hvs cur' hc1 hc2=>by
    refine hw.set hi rfl rfl rfl (by simp) (λk _ hk=>?_) ⟨λcl hcl'=>?_,vs,⟨?_,.inr ⟨b,cap,cur',?_,UU _,setRow_heap w b cur _ e _ hg',?_,hm,?_,?_⟩⟩,hvs⟩ (by simp[Ent.foot,Value.ownBlock])
    ·exact setRow_other w b k _ (λe1=>hk (by simp[Ent.foot,Value.ownBlock,e1]))
    ·obtain⟨z',_,rfl⟩:=List.mem_map.1 hcl';exact henc z'
    ·simp[hcl,hvl]
    ·simp[hcl]
    ·simp[hcl];exact hcap
    ·rw[hc1,Nat.mul_one];exact hcs
    ·simp only[U2,hcl,Nat.mul_one];exact hc2
   have hall:AX Z ((Nb xs ys).map enc).flatten (ws.take xs.length++us.drop ys.length):=by
    rw[fcpy];exact(h4.take _).append (h3.drop _)
   have hlen2:(ws.take xs.length++us.drop ys.length).length=xs.length:=by simp;omega
   rcases h6 with⟨hv,hd⟩ | ⟨ad,cp,hv,h7⟩
   ·have hys:ys=[]:=UJ hd;subst hys;have hws0:ws=[]:=UJ (by simpa using h5);subst hws0;have hrun:(Builtin.copy_ #[t,t'] ty #[.slice (some ⟨b,0,none⟩) xs.length cap,a.eval y]).run P w = .ok (goInt 0) w:=by
     rw[hv];exact run_copy_none w t t' ty e _ none _ _ 0 0 ht hs (by simp)
    have hself:=hset us h1' (by simpa using hall) cur rfl (by simpa using htk);rw[setRow_self w b cur e (0,0) hg'] at hself;refine⟨goInt 0,w,rI .i64 (Nat.min ([]:List α).length xs.length:Nat),_,Z,?_,Fz.le.refl _,?_,hself,?_⟩
    ·simp[execOp,resolve,invoke,builtin,ha.eval hx,hrun]
    ·simp[goInt];rfl
    ·simpa using h
   ·have hrun:=run_copy_row (P:=P) w t t' ty e b 0 xs.length cap ad ys.length cp cur e (ws.take xs.length) ht hs hg' (by simp[h5,Nat.min_comm]) (λj u hj=>h7 j u (by
      rw[UQ] at hj;split at hj
      ·exact hj
      ·cases hj)) (by simp;omega) (λu hu=>hws u (List.mem_of_mem_take hu))
    rw[← hv] at hrun;have hst:=hset (ws.take xs.length++us.drop ys.length) hlen2 hall (cur.toList.take 0++ws.take xs.length++cur.toList.drop (0+(ws.take xs.length).length)).toArray (by simp;omega) (by
     have e1:us.drop ys.length=(cur.toList.drop ys.length).take (xs.length-ys.length):=by rw[← htk,List.drop_take]
     rw[e1];simp only[List.take_zero,Vg,US,List.toList_toArray,List.length_take,h5,Nat.mul_one];rw[List.take_append];have e2:(ws.take xs.length).take xs.length=ws.take xs.length:=by rw[List.take_take,Nat.min_self]
     rw[e2,List.length_take,h5]
     by_cases hc:xs.length≤ys.length
     ·rw[Nat.min_eq_left hc,Nat.sub_self,Nat.sub_eq_zero_of_le hc];simp
     ·rw[Nat.min_eq_right (by omega)])
    refine⟨goInt (ws.take xs.length).length,_,rI .i64 (Nat.min ys.length xs.length:Nat),_,Z,?_,Fz.le.refl _,?_,hst,?_⟩
    ·simp[execOp,resolve,invoke,builtin,ha.eval hx,hrun]
    ·simp[goInt,h5,Nat.min_comm];rfl
    ·simpa using h) hn
end
structure Sx (U:Type) where
 deps:List Nat
 r:U→Rp
 dyn:Bool:=false
 old:List Nat:=[]
def Gl {U:Type}(sp:List (Sx U))(i:Nat):Sx U:=sp.getD i { deps:=[],r:=λ_=>rv undef }
def Rk {U:Type}(sp:List (Sx U))(u:U):List Sp:=sp.map λs=>⟨s.deps,s.r u,0⟩
def Ts {U:Type}(sp:List (Sx U))(u:U):List Sa:=sp.map λs=>{ deps:=s.deps,r:=s.r u }
def La {U:Type}:List (Sx U)→Prop
 | []=>True
 | s::r=>(s.dyn=false→∀u u',s.r u=s.r u')∧La r
theorem La.at {U:Type}:∀{sp:List (Sx U)},La sp→∀{i:Nat} {s:Sx U},sp[i]? =some s→s.dyn=false→∀u u',s.r u=s.r u'
 | [],_,i,s,h=>by simp at h
 | x::sp,⟨h1,h2⟩,0,s,h=>by simp at h;subst h;exact h1
 | x::sp,⟨h1,h2⟩,i+1,s,h=>La.at h2 (by simpa using h)
theorem TQ {U:Type}{ds os:List Nat}{r:Rp}{sp:List (Sx U)}(h:La sp):La ({ deps:=ds,r:=λ_=>r,old:=os }::sp):=⟨λ_ _ _=>rfl,h⟩
theorem TP {U:Type}{ds os:List Nat}{r:U→Rp}{sp:List (Sx U)}(h:La sp):La ({ deps:=ds,r:=r,dyn:=true,old:=os }::sp):=⟨λh'=>(by cases h'),h⟩
def Hb (lw:Fr):List Nat→Fr→Fr
 | [],l=>l
 | d::r,l=>match look lw d with
  | some q=>(d,q)::Hb lw r l
  | none=>Hb lw r l
theorem O5 {n:Nat}{lw l:Fr}{a:Act}{Z:Fz}(h0:CA n l a Z):∀{ds:List Nat},(∀d∈ds,∀q,look lw d=some q→∃v,a.tmps[d]? =some v∧q.p Z v)→CA n (Hb lw ds l) a Z
 | [],_=>h0
 | d::ds,h=>by
  have ih:=O5 h0 (ds:=ds) (λd' hd'=>h d' (by simp[hd']));unfold Hb
  cases hd:look lw d with
  | none=>exact ih
  | some q=>
   refine⟨ih.size,ih.defers,λi r hi=>?_⟩;rw[BX] at hi
   split at hi
   ·rename_i e;subst e;simp at hi;subst hi;exact h d (by simp) q hd
   ·exact ih.tm i r hi
theorem TO {U:Type}:La ([]:List (Sx U)):=trivial
def TS (n:Nat)(ops:List Oper)(N i0:Nat)(keys:List Nat)(deps:List (List Nat))(dyns:List Bool)(olds:List (List Nat)):Bool:=
 Me ops N&&decide (N≤ops.length)&&decide (i0<N)&&
 (List.range N).all (λi=>match Cl ops i with
  | some d=>decide (d<n)&&!keys.contains d&&(List.range N).all (λj=>j ==i||Cl ops j !=some d)
  | none=>true)&&
 (List.range N).all (λi=>(deps.getD i []).all (λj=>decide (j<N)&&(DT (ops.getD i default)).contains j))&&
 (List.range N).all (λi=>!dyns.getD i false||i ==i0||(DT (ops.getD i default)).any (λe=>decide (e<N)&&(e ==i0||dyns.getD e false)))&&
 (List.range N).all (λi=>(olds.getD i []).all (λd=>(List.range N).all (λw=>Cl ops w !=some d||(DT (ops.getD w default)).contains i)))
section
variable (P : Program) (n : Nat) (c : Cx) (opsA : Array Oper) (Q : Exit → Act → World → Prop)
def TK {U:Type}(l:Fr)(H:List Ent)(o:Oper)(r:U→Rp)(H1:U→List Ent):Prop:=
 ∀a w Z (K:Act→World→Prop),CA n l a Z→St c H Z w→(∀u v w' Z',Fz.le Z Z'→(r u).p Z' v→St c (H1 u) Z' w'→K (a.put o.dst v) w')→
  Region.wanted o (yielded opsA a.tmps)=true∧o.wp P a w K Q
def Jx {U:Type}(ops:List Oper)(sp:List (Sx U))(l0 lw:Fr)(i0:Nat)(H:List Ent)(H1:U→List Ent):Nat→List Oper→Prop
 | i,o::rest=>(if i=i0 then(∀u,TK P n c opsA Q (Hb lw (Gl sp i).old (BJ ops (Rk sp u) (Gl sp i).deps l0)) H o (Gl sp i).r H1) else ∀u H,Eb P n c opsA Q (Hb lw (Gl sp i).old (BJ ops (Rk sp u) (Gl sp i).deps l0)) H o ((Gl sp i).r u) H)∧Jx ops sp l0 lw i0 H H1 (i+1) rest
 | _,[]=>True
end
section
variable {P : Program} {n : Nat} {c : Cx} {opsA : Array Oper} {Q : Exit → Act → World → Prop} {l l0 lw : Fr} {U : Type} {H : List Ent} {H1 : U → List Ent} {sp : List (Sx U)} {i0 : Nat}
theorem Jx.at {ops:List Oper}:∀{k:Nat} {rest:List Oper},Jx P n c opsA Q ops sp l0 lw i0 H H1 k rest→∀(t:Nat) o,rest[t]? =some o→
  (if k+t=i0 then(∀u,TK P n c opsA Q (Hb lw (Gl sp (k+t)).old (BJ ops (Rk sp u) (Gl sp (k+t)).deps l0)) H o (Gl sp (k+t)).r H1) else ∀u H,Eb P n c opsA Q (Hb lw (Gl sp (k+t)).old (BJ ops (Rk sp u) (Gl sp (k+t)).deps l0)) H o ((Gl sp (k+t)).r u) H)
 | k,o::rest,⟨h1,h2⟩,t,o',ht=>by
  cases t with
  | zero=>simp at ht;subst ht;exact h1
  | succ t=>
   have:=Jx.at h2 t o' (by simpa using ht);rw[show k+(t+1)=k+1+t from by omega];exact this
 | _,[],_,t,o,h=>by simp at h
theorem Rv {id:Nat}{ops:List Oper}[Inhabited U](N i0:Nat)(sp:List (Sx U))(hm:P.follows .mixedOrders=true)(hB:TS n ops N i0 (DW l0) (sp.map (·.deps)) (sp.map (·.dyn)) (sp.map (·.old))=true)(hl0:P8 l0 l)(hlw:P8 lw l)(hsp:sp.length=N)(hst:La sp)
  (hob:Jx P n c ops.toArray Q ops sp l0 lw i0 H H1 0 (ops.take N)) (h:∀u,WL P n c ops.toArray Q (ops.drop N) (JK (λ_=>0) (ops.take N) (Ts sp u) 0 l0) (H1 u)):WC P n c (.region id ops.toArray true) Q l H:=by
 intro a w Z ha hw;simp only[TS,Uq,UP,List.mem_range,Un] at hB;obtain⟨⟨⟨⟨⟨⟨b1,bN⟩,b0⟩,b2⟩,b3⟩,b4⟩,b5⟩:=hB;have hget:∀i,i<N→(ops.take N)[i]? =ops[i]?:=λi hi=>by rw[UQ,if_pos hi]
 have hsa:∀i,i<N→sp[i]? =some (Gl sp i):=λi hi=>by
  simp[Gl,Ut,Us (show i<sp.length by omega)]
 have hspq:∀u i,i<N→(Df (Rk sp u) i)=⟨(Gl sp i).deps,(Gl sp i).r u,0⟩:=λu i hi=>by
  simp[Df,Rk,Ut,UN,hsa i hi]
 have hdyn:∀j,j<N→(sp.map (·.dyn)).getD j false=(Gl sp j).dyn:=λj hj=>by simp[Ut,UN,hsa j hj]
 have hdep:∀j,j<N→(sp.map (·.deps)).getD j []=(Gl sp j).deps:=λj hj=>by simp[Ut,UN,hsa j hj]
 have hops:∀j,j<N→∃o,ops[j]? =some o:=λj hj=>⟨ops[j]'(by omega),Us (by omega)⟩
 have hdst:∀i o d,i<N→ops[i]? =some o→o.dst=some d→(d<n∧d ∉ DW l0)∧∀j,j<N→j≠i→Cl ops j≠some d:=λi o d hi ho hd=>by
  have h3:=b2 i hi;have:Cl ops i=some d:=by simp[Cl,ho,hd]
  rw[this] at h3;simp only[Uq,U5,UP,List.mem_range,Un] at h3;refine⟨⟨h3.1.1,λhmem=>by rw[← List.contains_iff_mem] at hmem;rw[hmem] at h3;cases h3.1.2⟩,λj hj hne he=>?_⟩;have:=h3.2 j hj;simp[hne,he] at this
 refine PP (N:=N) hm b1 bN (λS a w=>∃ (u:U) (Z:Fz),St c (if S i0=true then H1 u else H) Z w∧CA n l0 a Z∧(∀j o d,j<N→S j=true→ops[j]? =some o→o.dst=some d→∃v,a.tmps[d]? =some v∧((Gl sp j).r u).p Z v)∧
   (∀j,j<N→(Gl sp j).dyn=true→S j=true→S i0=true)∧
   (∀d q,look lw d=some q→(∀wr,wr<N→Cl ops wr=some d→S wr=false)→∃v,a.tmps[d]? =some v∧q.p Z v)∧
   ∀wr i d,wr<N→i<N→Cl ops wr=some d→d∈(Gl sp i).old→S wr=true→S i=true)
  (λS S' a w hS hI=>?_) ⟨default,Z,?_,ha.subL hl0,λj o d _ hS=>(by cases hS),λj _ _ hS=>(by cases hS),λd q hd _=>(ha.subL hlw).tm d q hd,λwr i d _ _ _ _ hS=>(by cases hS)⟩ (λS i o a w hi hun ho hb hI K hK=>?_) (λa w hI=>?_)
 ·obtain⟨u,Z,h1,h2,h3,h4,h5,h6⟩:=hI;refine⟨u,Z,?_,h2,λj o d hj hS'=>h3 j o d hj (by rw[hS j hj];exact hS'),λj hj hd hSj=>?_,λd q hd hw'=>h5 d q hd (λwr hwr hdw=>by rw[hS wr hwr];exact hw' wr hwr hdw),λwr i d hwr hi hdw hold hSw=>by rw[← hS i hi];exact h6 wr i d hwr hi hdw hold (by rw[hS wr hwr];exact hSw)⟩
  ·rw[← hS i0 b0];exact h1
  ·rw[← hS i0 b0];exact h4 j hj hd (by rw[hS j hj];exact hSj)
 ·exact hw.drawn _
 ·obtain⟨u,Z,h1,h2,h3,hx,ho5,ho6⟩:=hI;have hput:∀k u v,a.tmps[k]? =some u→o.dst≠some k→(a.put o.dst v).tmps[k]? =some u:=λk u v hk hne=>by
   cases hd:o.dst with
   | none=>simpa[Act.put] using hk
   | some d=>
    simp only[Act.put,Array.getElem?_setIfInBounds];rw[UV (λe=>hne (by rw[hd,e]))];exact hk
  have hagr:∀v Z',Fz.le Z Z'→CA n l0 (a.put o.dst v) Z':=λv Z' hz=>by
   refine⟨?_,?_,λk r hk=>?_⟩
   ·cases o.dst<;>simp[Act.put,h2.size]
   ·cases o.dst<;>simp[Act.put,h2.defers]
   ·obtain⟨u,hu,hpu⟩:=h2.tm k r hk;exact⟨u,hput k u v hu (λe=>((hdst i o k hi ho e).1).2 (IJ hk)),r.mono hz hpu⟩
  have hvals:∀(v:Value) (Z':Fz) (u':U),Fz.le Z Z'→(∀j,j<N→j≠i→S j=true→(Gl sp j).r u'=(Gl sp j).r u)→(o.dst≠none→((Gl sp i).r u').p Z' v)→∀j o' d,j<N→(j ==i||S j)=true→ops[j]? =some o'→o'.dst=some d→∃q,(a.put o.dst v).tmps[d]? =some q∧((Gl sp j).r u').p Z' q:=by
   intro v Z' u' hz hβ hp j o' d hj hS' ho' hd
   by_cases hji:j=i
   ·subst hji;rw[ho] at ho';simp at ho';subst ho';refine⟨v,?_,hp (by simp[hd])⟩;have hdn:d<a.tmps.size:=by rw[h2.size];exact(hdst j o d hi ho hd).1.1
    simp[Act.put,hd,hdn]
   ·have hSj:S j=true:=by simpa[hji] using hS'
    obtain⟨q,hu,hpu⟩:=h3 j o' d hj hSj ho' hd;refine⟨q,hput d q v hu (λe=>(hdst i o d hi ho e).2 j hj hji (by simp[Cl,ho',hd])),?_⟩;rw[hβ j hj hji hSj];exact((Gl sp j).r u).mono hz hpu
  have hat:=hob.at i o (by rw[hget i hi];exact ho);rw[US] at hat;have hold':∀Z',Fz.le Z Z'→∀v d q,look lw d=some q→(∀wr,wr<N→Cl ops wr=some d→(wr ==i||S wr)=false)→∃v',(a.put o.dst v).tmps[d]? =some v'∧q.p Z' v':=λZ' hz v d q hd hw'=>by
   obtain⟨v',e1,e2⟩:=ho5 d q hd (λwr hwr hdw=>by have:=hw' wr hwr hdw;simp only[UO] at this;exact this.2);refine⟨v',hput d v' v e1 (λe=>?_),q.mono hz e2⟩;have:=hw' i hi (by simp[Cl,ho,e]);simp at this
  have hord:∀wr k d,wr<N→k<N→Cl ops wr=some d→d∈(Gl sp k).old→(wr ==i||S wr)=true→(k ==i||S k)=true:=λwr k d hwr hk hdw hmem hSw=>by
   by_cases hwi:wr=i
   ·subst hwi;have h7:=b5 k hk d (by simpa[Ut,UN,hsa k hk] using hmem) wr hwr;simp only[UR,bne_iff_ne,ne_eq,hdw,not_true_eq_false,false_or] at h7;rw[Ut,ho,UK,List.contains_iff_mem] at h7;simp[(hb k h7).2]
   ·have:S k=true:=ho6 wr k d hwr hk hdw hmem (by simpa[hwi] using hSw);simp[this]
  have hag':CA n (Hb lw (Gl sp i).old (BJ ops (Rk sp u) (Gl sp i).deps l0)) a Z:=O5 (IW h2 (λj hj d hd=>by
    obtain⟨h5,h6⟩:=b3 i hi j (by rw[hdep i hi];exact hj);rw[Ut,ho,UK,List.contains_iff_mem] at h6;obtain⟨o2,ho2⟩:=hops j h5;obtain⟨v,hv1,hv2⟩:=h3 j o2 d h5 (hb j h6).2 ho2 (by simpa[Cl,ho2] using hd);refine⟨v,hv1,?_⟩;rw[hspq u j h5];exact hv2)) (λd hd q hq=>ho5 d q hq (λwr hwr hdw=>by
     cases hS:S wr with
     | false=>rfl
     | true=>have:=ho6 wr i d hwr hi hdw hd hS;rw[this] at hun;cases hun))
  by_cases hi0:i=i0
  ·subst hi0;rw[if_pos rfl] at hat;rw[hun] at h1;have h1':St c H Z w:=by simpa using h1
   have key:=λK' hK'=>hat u a w Z K' hag' h1' hK';have h5:∀u' v w' Z',Fz.le Z Z'→((Gl sp i).r u').p Z' v→St c (H1 u') Z' w'→K (a.put o.dst v) w':=λu' v w' Z' hz hpv hs'=>by
    refine hK _ _ ⟨u',Z',by simpa using hs',hagr v Z' hz,hvals v Z' u' hz (λj hj hji hSj=>?_) (λ_=>hpv),λj _ _ _=>by simp,hold' Z' hz v,hord⟩;refine hst.at (hsa j hj) ?_ u' u
    cases hd:(Gl sp j).dyn with
    | false=>rfl
    | true=>have:=hx j hj hd hSj;rw[this] at hun;cases hun
   refine⟨λ_=>(key K h5).2,λhw'=>?_⟩;rw[(key K h5).1] at hw';cases hw'
  ·rw[UV hi0] at hat;refine hat u _ a w Z K hag' h1 (λv w' Z' hz hp hst'=>hK _ _ ⟨u,Z',?_,hagr v Z' hz,hvals v Z' u hz (λ_ _ _ _=>rfl) (λ_=>hp),λj hj hd hSj=>?_,hold' Z' hz v,hord⟩)
   ·have hiS:(i0 ==i||S i0)=S i0:=by
     have:(i0 ==i)=false:=by simpa using λe=>hi0 e.symm
     rw[this];rfl
    show St c (if (i0 ==i||S i0)=true then H1 u else H) Z' w';rw[hiS];exact hst'
   ·have hii:(i0 ==i)=false:=by simpa using λe=>hi0 e.symm
    show(i0 ==i||S i0)=true;rw[hii,U4]
    by_cases hji:j=i
    ·subst hji;have h7:=b4 j hj;rw[hdyn j hj,hd] at h7;simp only[Uy,U4,UR,beq_iff_eq,hi0,false_or,List.any_eq_true,Uq,Un] at h7;obtain⟨e,he,heN,h8⟩:=h7;rw[Ut,ho,UK] at he;have hSe:=(hb e he).2;rcases h8 with h8 | h8
     ·subst h8;exact hSe
     ·rw[hdyn e heN] at h8;exact hx e heN h8 hSe
    ·exact hx j hj hd (by simpa[hji] using hSj)
 ·obtain⟨u,Z,h1,h2,h3,_,_,_⟩:=hI;have hsl:(Ts sp u).length=N:=by simp[Ts,hsp]
  refine h u a w Z (Mj h2 _ _ 0 (λt o s d ht hs hd=>?_)) (by simpa using h1);have htN:t<N:=by have:=(List.getElem?_eq_some_iff.1 hs).1;omega
  have hs':s = { deps:=(Gl sp t).deps,r:=(Gl sp t).r u }:=by
   simp only[Ts,UN,hsa t htN,Option.map_some,Option.some.injEq] at hs;exact hs.symm
  subst hs';rw[US];exact h3 t o d htN rfl (by rw[← hget t htN];exact ht) hd
theorem S7 [Inhabited U]{id:Nat}{ops:List Oper}(N i0:Nat)(ks0 ksw:List Nat)(sp:List (Sx U))(H1:U→List Ent)(hob:Jx P n c ops.toArray Q ops sp l0 lw i0 H H1 0 (ops.take N))(h:∀u,WL P n c ops.toArray Q (ops.drop N) (JK (λ_=>0) (ops.take N) (Ts sp u) 0 l0) (H1 u))
  (h0:Kp ks0 l l0:=by repeat (first | exact Ll | (apply Jm;rfl) | (apply JN;rfl))) (hw:Kp ksw l lw:=by repeat (first | exact Ll | (apply Jm;rfl) | (apply JN;rfl))) (hm:P.follows .mixedOrders=true:=by kernel_rfl) (hB:TS n ops N i0 (DW l0) (sp.map (·.deps)) (sp.map (·.dyn)) (sp.map (·.old))=true:=by kernel_rfl)
  (hsp:sp.length=N:=by rfl) (hst:La sp:=by repeat (first | exact TO | apply TQ | apply TP)):WC P n c (.region id ops.toArray true) Q l H:=Rv N i0 sp hm hB h0.one hw.one hsp hst hob h
theorem Sm {all rest:List Oper}{d:Nat}{op:Op}{ty:TypeId}{pos:String}{af:Array Edge}{i:Nat}(hr:∀{u H},Bd P n c (Hb lw (Gl sp i).old (BJ all (Rk sp u) (Gl sp i).deps l0)) H { dst:=some d,op:=op,type:=ty,pos:=pos,after:=af,guard:=none } ((Gl sp i).r u))(h:Jx P n c opsA Q all sp l0 lw i0 H H1 (i+1) rest)(hne:Nat.beq i i0=false:=by rfl) :
  Jx P n c opsA Q all sp l0 lw i0 H H1 i ({ dst:=some d,op:=op,type:=ty,pos:=pos,after:=af,guard:=none }::rest):=by
 refine⟨?_,h⟩;rw[UV (λe=>by subst e;simp at hne)];exact λu H=>Qr hr
theorem Uj {all rest:List Oper}{o:Oper}{i:Nat}(hr:∀{u H},Eb P n c opsA Q (Hb lw (Gl sp i).old (BJ all (Rk sp u) (Gl sp i).deps l0)) H o ((Gl sp i).r u) H)(h:Jx P n c opsA Q all sp l0 lw i0 H H1 (i+1) rest)(hne:Nat.beq i i0=false:=by rfl):Jx P n c opsA Q all sp l0 lw i0 H H1 i (o::rest):=by
 refine⟨?_,h⟩;rw[UV (λe=>by subst e;simp at hne)];exact λu H=>hr
theorem Uh {all rest:List Oper}{o:Oper}(hr:∀{u},TK P n c opsA Q (Hb lw (Gl sp i0).old (BJ all (Rk sp u) (Gl sp i0).deps l0)) H o (Gl sp i0).r H1)(h:Jx P n c opsA Q all sp l0 lw i0 H H1 (i0+1) rest):Jx P n c opsA Q all sp l0 lw i0 H H1 i0 (o::rest):=by
 refine⟨?_,h⟩;rw[if_pos rfl];exact λu=>hr
theorem Ui {all:List Oper}{i:Nat}:Jx P n c opsA Q all sp l0 lw i0 H H1 i []:=trivial
end
section
variable {P : Program} {n : Nat} {c : Cx} {opsA : Array Oper} {Q : Exit → Act → World → Prop} {l : Fr} {H : List Ent} {d : Nat} {x y : Operand} {ty t e : TypeId} {pos : String} {af : Array Edge} {v : Value} {sz : Nat}
theorem PN {α:Type}{xs ys:List α}{enc:α→List Rp}{i:Nat}{inf:TypeInfo}{z:Value}{bytes:Nat}(ht:P.underlying t=some (.slice e))(hinf:P.info? e=some inf)(hz:inf.zero=some z)(hsize:inf.size=sz)(hby:inf.bytes=bytes)(hzs:z.cells.size=sz)(hsz:Nat.blt 0 sz=true)(hbp:Nat.blt 0 bytes=true)
  (hx:ev l x=some (rv v)) (hi:H[i]? =some (.row v e sz (xs.map enc))) (hy:Jw P n c l H y sz ys.length (ys.map enc).flatten) (henc:∀z,(enc z).length=sz) (hone:∀z,(enc z).all (·.one)=true) (hg:D1 bytes (xs.length+ys.length)=true) :
  TK P n c opsA Q l H { dst:=some d,op:=.call { callee:=.builtin .append,args:=#[x,y],argTypes:=#[t,t] },type:=ty,pos:=pos,after:=af,guard:=none } (λv'=>rv v') (λv'=>.row v' e sz ((xs++ys).map enc)::H.eraseIdx i):=λa w Z K ha hw hK=>by
  obtain⟨h0,us,h1,h2⟩:=hw.ent hi;obtain⟨ws,h3,h4⟩:=hy a w Z ha hw;have hsz':0<sz:=by simpa using hsz
  have hbp':0<bytes:=by simpa using hbp
  have hb:(xs.length+ys.length)*bytes≤140737488355328:=by simpa[D1] using hg
  have hle:xs.length+ys.length≤(xs.length+ys.length)*bytes:=Nat.le_mul_of_pos_right _ hbp';have hws:∀y∈ws,y.oneCell'=true:=AX.one (rs:=(ys.map enc).flatten) (by
   rw[UP];intro r hr;obtain⟨cl,hcl,hrc⟩:=List.mem_flatten.1 hr;obtain⟨z',_,rfl⟩:=List.mem_map.1 hcl;exact List.all_eq_true.1 (hone z') r hrc) h3
  have hxl:(xs.map enc).length=xs.length:=U2 ..;rw[hxl] at h1;obtain⟨v',w',e1,e2,e3,e4⟩:=Ge (P:=P) ty ht hinf hz hsize hby hzs hsz' h1 h4 hws hb (by simp only[maxLen];omega);have hent:(Ent.row v' e sz ((xs++ys).map enc)).holds Z w':=⟨λcl hcl=>by obtain⟨z',_,rfl⟩:=List.mem_map.1 hcl;exact henc z',us++ws,by simpa using e2,by rw[List.map_append,List.flatten_append];exact h2.append h3⟩
  have hst:=hw.callF hi (St.one (e':=.row v' e sz ((xs++ys).map enc)) (M:=(Ent.row v e sz (xs.map enc)).foot) hw.frz hw.env hw.emono e3.os e3.tape e3.output e3.size (λk hk hne=>e3.block k hk (λe1=>hne (by simp[Ent.foot,← e1])))
   (hw.zdis _ (U1 hi)) hent (λk hk=>by
    simp only[Ent.foot,Option.mem_toList] at hk ⊢;rcases e4 with e4 | e4
    ·exact .inl (e4▸hk)
    ·exact .inr (e4 k hk)))
  refine⟨by simp[Region.wanted],?_⟩;unfold Oper.wp;rw[show(execOp a.eval { dst:=some d,op:=.call { callee:=.builtin .append,args:=#[x,y],argTypes:=#[t,t] },type:=ty,pos:=pos,after:=af,guard:=none }).run P w = .ok (.value v') w' from by simp[execOp,resolve,invoke,builtin,ha.eval hx,e1]];exact hK v' v' w' Z (Fz.le.refl _) rfl hst
end
set_option maxRecDepth 100000
set_option maxHeartbeats 4000000
theorem Or:∃inf,Tryz.prog.info? 9=some inf∧inf.zero=some (.string ⟨#[]⟩)∧inf.size=1∧inf.bytes=16:=by
  have key:(Tryz.prog.info? 9).map (λi=>(i.zero,i.size,i.bytes))=some (some (.string ⟨#[]⟩),1,16):=by kernel_rfl
  obtain⟨inf,h1,h2⟩:=Option.map_eq_some_iff.1 key;simp only[Prod.mk.injEq] at h2;exact⟨inf,h1,h2.1,h2.2.1,h2.2.2⟩
theorem RZ (F:Nat)(fields:(List Ak))(r:Ak×Int)(h:MW F fields=some r):Fn Tryz.prog GE 21 [Bl 1 (List.map eS fields)] [] (λR H=>R=CV [rS r.1,rI .i64 r.2]∧H=[]):=by
 refine enter (n:=39) Tryz.func21 Aa Tryz.ntmps21 Aa (λw Z=>?_);refine AR (l':=[(0,Bl 1 (List.map eS fields))]) (H':=[]) Aa Aa ?_;unfold MW at h;refine Al (wv (r:=rS ([]:Ak)) (Ae Aa) (wv (r:=rI .i64 0) (Ae Aa) (As (Am (Al (wm Aa (wv (BB (ys:=fields) (enc:=eS) Dc Aa) (wv (C1 Aa Aa) (As (Au (b:=decide (64<(fields.length:Int))) Aa (λc1=>?_) (λc1=>?_)))))))))))
 ·have h2:=AE c1 h;refine Al (wv (r:=rS ([]:Ak)) (Ae Aa) (wv (r:=rI .i64 3) (Ae Aa) (As (Ay (Af ?_)))));obtain rfl:=A0 h2;exact Ax (El Tryz.results21 (AM Aa) (AM Aa)) sN ⟨Aa,Aa⟩
 ·have h3:=AF c1 h;refine Aw (AP (Al (wm Aa (wv (BB (ys:=fields) (enc:=eS) Dc Aa) (wv (r:=rI .u8 (IntKind.wrap .u8 (fields.length:Int))) (CE ⟨_,Nk⟩ No Aa) (Bp (ys:=([IntKind.wrap .u8 (fields.length:Int)]:List Int)) (enc:=AU) (css:=[[rI .u8 (IntKind.wrap .u8 (fields.length:Int))]]) (xs:=[.tmp 12]) EQ PC S3 Aa Aa Aa ⟨Gk.one Aa (Up.refl _),trivial⟩ Aa CD Aa Aa Aa (λb4=>?_)))))));refine wa Aa (As (Am (Al (wm Aa (wv (BB (ys:=fields) (enc:=eS) Dc Aa) (wv (r:=rI .i64 0) (Ah Aa) (As (AJ ?_))))))));obtain⟨hn,ho,hk⟩:=AH h3;refine B2 (S:=Nat×((List Int)×Int)×(Value)) (V:=((List Int))×(Value)) 0 (λσ=>Cn (λσ=>Er fields σ.1 σ.2) σ.1 σ.2.1=some hn) (λσ=>[(2,rS ([]:Ak)),(3,rI .i64 0),(4,rv σ.2.2),(14,Bl 1 (List.map eS fields)),(15,rI .i64 (fields.length:Int)),(16,rI .i64 σ.2.1.2)]) (λσ=>[.row σ.2.2 5 1 (List.map AU σ.2.1.1)]) (λσ=>σ.1) (F,(([IntKind.wrap .u8 (fields.length:Int)]:List Int),0),(.slice (some ⟨b4,0,none⟩) 1 1)) ho (AK.c Aa (AK.c5 Aa Aa Aa Aa Aa AK.nil)) (sC sN) (λσ=>IP σ.1=some r) (λσ=>[(2,rS ([]:Ak)),(3,rI .i64 0),(4,rv σ.2)]) (λσ=>[.row σ.2 5 1 (List.map AU σ.1)]) ?_ ?_
  ·rintro⟨hD,⟨hd,ha⟩,hh⟩ hp;refine AR (l':=[(2,rS ([]:Ak)),(3,rI .i64 0),(4,rv hh),(14,Bl 1 (List.map eS fields)),(15,rI .i64 (fields.length:Int)),(16,rI .i64 ha)]) (H':=[.row hh 5 1 (List.map AU hd)]) Aa Aa ?_;obtain⟨hq,rfl,hr,he,hi⟩:=CM hp;replace he:Er fields hd ha=some hr:=he;unfold Er at he;refine Al (wv (C8 Aa Aa) (As (Am (Au (b:=decide (ha<(fields.length:Int))) Aa (λhj=>?_) (λhj=>?_)))))
   ·have hs:=AE hj he;refine Aw (AP (Am (AJ (Al ?_))));obtain⟨ht,hl⟩:=Az hs;refine wv (BH (enc:=eS) (ys:=fields) Dc BU Aa Aa ht) (wv (B7 Cg Aa Aa) (wa Aa (As (Am (Al (wm Aa (wv (AZ Ce Aa) (wv (C1 Aa Aa) (As (Au (b:=decide (4000<((At fields ha).length:Int))) Aa (λc75=>?_) (λc75=>?_)))))))))))
    ·have hu:=AE c75 hl;refine Al (wv (r:=rS ([]:Ak)) (Ae Aa) (wv (r:=rI .i64 3) (Ae Aa) (As (Ay (Af (A5 (Af (Af (Bf ?_)))))))));have hw:=B5 hu hi hk;refine A5 (Af ?_);obtain rfl:=A0 hw;exact Ax (El Tryz.results21 (AM Aa) (AM Aa)) (sS sN) ⟨Aa,Aa⟩
    ·have hx:=AF c75 hl;refine Aw (AP (Al (wm Aa (wm Aa (wv (AZ Ce Aa) (wv (r:=rI .i64 (ES .i64 ((At fields ha).length:Int) 8)) (Qu Aa Aa (by decide)) (wv (r:=rI .u8 (IntKind.wrap .u8 (ES .i64 ((At fields ha).length:Int) 8))) (CE ⟨_,Nk⟩ No Aa) (wm Aa (wv (AZ Ce Aa) (wv (r:=rI .u8 (IntKind.wrap .u8 ((At fields ha).length:Int))) (CE ⟨_,Nk⟩ No Aa) (Bp (ys:=([IntKind.wrap .u8 (ES .i64 ((At fields ha).length:Int) 8),IntKind.wrap .u8 ((At fields ha).length:Int)]:List Int)) (enc:=AU) (css:=[[rI .u8 (IntKind.wrap .u8 (ES .i64 ((At fields ha).length:Int) 8))],[rI .u8 (IntKind.wrap .u8 ((At fields ha).length:Int))]]) (xs:=[.tmp 27,.tmp 30]) EQ PC S3 Aa Aa Aa ⟨Gk.one Aa (Up.refl _),Gk.one Aa (Up.refl _),trivial⟩ Aa CD Aa Aa Aa (λhE=>?_))))))))))));obtain⟨hy,hz⟩:=Az hx;obtain⟨inf,hinf⟩:=IM;refine Ck (xs:=hd) (ys:=([IntKind.wrap .u8 (ES .i64 ((At fields ha).length:Int) 8),IntKind.wrap .u8 ((At fields ha).length:Int)]:List Int)) (enc:=AU) (i:=1) EQ hinf.1 hinf.2.1 hinf.2.2.1 hinf.2.2.2 Aa Aa Aa Aa Aa (Jw.w (i:=0) Aa Aa) CD G5 hy Aa (λv80=>?_);refine wa Aa (As (Ai (wm Aa (wm Aa ?_))));obtain⟨h0,h6⟩:=Az hz;obtain⟨inf,hinf⟩:=IM;refine Ey (xs:=hd++([IntKind.wrap .u8 (ES .i64 ((At fields ha).length:Int) 8),IntKind.wrap .u8 ((At fields ha).length:Int)]:List Int)) (i:=0) EQ Ce hinf.1 hinf.2.1 hinf.2.2.1 hinf.2.2.2 Aa Aa Aa h0 Aa (λh7=>?_);refine wa Aa (Aj (AG (AP (Ai ?_))));obtain⟨h8,h9⟩:=Az h6;refine wv (Bu Aa Aa h8) (wm Aa (Aj ?_));have hA:=Bk h9 hi;exact Ap (AI (hq,((hd++([IntKind.wrap .u8 (ES .i64 ((At fields ha).length:Int) 8),IntKind.wrap .u8 ((At fields ha).length:Int)]:List Int))++CO (At fields ha),ha+1),h7) ⟨hA,U0 _⟩ (AK.c Aa (AK.c5 Aa Aa Aa Aa Aa AK.nil)) (sC (sS sN)))
   ·have hB:=AF hj he;refine B4 (A4 ?_);have hC:=Cv hB hi hk;exact A4 (Bt (AI (hd,hh) hC (AK.c Aa (AK.c Aa (AK.c Aa AK.nil))) (sC sN)))
  ·rintro⟨hf,hm⟩ hg;refine Dd (l':=[(2,rS ([]:Ak)),(3,rI .i64 0),(4,rv hm)]) (H':=[.row hm 5 1 (List.map AU hf)]) Aa Aa ?_;replace hg:IP hf=some r:=hg;unfold IP at hg;refine Bi (AP (Al (wm Aa (wv (r:=rS (Li hf)) (Q0 (xs:=hf) (i:=0) EQ Ce No Aa Aa) (wa Aa (wv (r:=rI .i64 0) (Ae Aa) (As (Ay ?_))))))));obtain rfl:=A0 hg;exact Ax (El Tryz.results21 (AM Aa) (AM Aa)) (sS sN) ⟨Aa,Aa⟩
theorem Pv (F:Nat)(s:Ak)(r:(List Ak)×Int)(h:Ma F s=some r):Fn Tryz.prog GE 34 [rS s] [] (λR H=>R=CV [Bl 1 (List.map eS r.1),rI .i64 r.2]∧H=[]):=by
 refine enter (n:=58) Tryz.func34 Aa Tryz.ntmps34 Aa (λw Z=>?_);refine AR (l':=[(0,rS s)]) (H':=[]) Aa Aa ?_;unfold Ma at h;refine Al (wv (r:=rv (.slice none 0 0)) (Ae Aa) (wv (r:=rI .i64 0) (Ae Aa) (As (Lf (S:=(Int)×(Unit)) 0 (λσ=>CY σ.1=some r) (λσ=>[(2,rv (.slice none 0 0)),(3,rI .i64 0),(7,rI .i64 σ.1)]) (λσ=>[]) Aa ?_ ?_))))
 ·refine Al (wv (r:=rv (.slice none 0 0)) (Ae Aa) (Bv (wv (r:=rI .i64 0) (Ae Aa) (wv (r:=rI .i64 0) (Ae Aa) (Bv (wv (r:=rI .i64 14) (Ae Aa) (As (Am (Al (wm Aa (wv (Co Aa Aa) (As (Au (b:=decide (s=([]:Ak))) Aa (λhm=>?_) (λhm=>?_))))))))))))))
  ·have h7:=AE hm h;exact H7 (B8 (H6 (AI (14,()) h7 (AK.c Aa (AK.c Aa (AK.c Aa AK.nil))) sN)))
  ·have h8:=AF hm h;refine Aw (AP (Am ?_));obtain⟨h9,hA⟩:=Az h8;obtain⟨hB,hC⟩:=Az hA;obtain⟨hD,ht⟩:=Az hC;refine It 6 [0,2,3,4,6,7] [⟨[],rS s,none,none,none⟩,⟨[0],rI .u8 (AY s 0),none,none,none⟩,⟨[1],rI .i64 (AY s 0),none,none,none⟩,⟨[],rS s,none,none,none⟩,⟨[3],rS (List.drop (Int.toNat 1) s),none,none,none⟩,⟨[2],rI .i64 (AY s 0),none,none,none⟩] ?_ (λβ=>?_)
   ·refine Ea (Ah Aa) (Ea (Bb Ce Aa Aa h9) (Ea (DK ⟨_,No⟩ Nk Aa hB) (Ea (Ah Aa) (Ea (Dr Ce Aa Aa hD) (Ea (Ae Aa) ?_)))));exact Tw
   refine IZ (H1:=[]) [10,11,12,13,14,5,0,2,3,4,6,7] ?_;refine wa Aa (As (Am (Al (wm Aa (wv (C1 Aa Aa) (As (Au (b:=decide (64<(AY s 0))) Aa (λc167=>?_) (λc167=>?_))))))))
   ·have hE:=AE c167 ht;exact Al (wv (r:=rI .i64 13) (Ae Aa) (As (H7 (B8 (H6 (AI (13,()) hE (AK.c Aa (AK.c Aa (AK.c Aa AK.nil))) sN))))))
   ·have hG:=AF c167 ht;refine Aw (AP (Am (Al (wm Aa (wv (r:=rI .i64 0) (Ah Aa) (As (AJ (WC.nilrow (e:=9) (sz:=1) ?_))))))));obtain⟨hH,hI,hj⟩:=AH hG;refine B2 (S:=Nat×(Ak×(List Ak)×Int×Int)×(Value)) (V:=(Ak×(List Ak))×(Value)) 0 (λσ=>Cn (λσ=>GS s σ.1 σ.2.1 σ.2.2.1 σ.2.2.2) σ.1 σ.2.1=some hH) (λσ=>[(0,rS σ.2.1.1),(2,rv (.slice none 0 0)),(3,rI .i64 0),(4,rv σ.2.2),(6,rI .i64 σ.2.1.2.2.1),(7,rI .i64 14),(17,rI .i64 (AY s 0)),(18,rI .i64 σ.2.1.2.2.2)]) (λσ=>[.row σ.2.2 9 1 (List.map eS σ.2.1.2.1)]) (λσ=>σ.1) (F,(List.drop (Int.toNat 1) s,([]:List Ak),0,0),(.slice none 0 0         )) hI (AK.c Aa (AK.c Aa (AK.c Aa (AK.c5 Aa Aa Aa Aa Aa AK.nil)))) (sC sN) (λσ=>GR σ.1.1 σ.1.2=some r) (λσ=>[(0,rS σ.1.1),(2,rv (.slice none 0 0)),(3,rI .i64 0),(4,rv σ.2),(7,rI .i64 14)]) (λσ=>[.row σ.2 9 1 (List.map eS σ.1.2)]) ?_ ?_
    ·rintro⟨gz,⟨ha,he,hu,hk⟩,v233⟩ hJ;refine AR (l':=[(0,rS ha),(2,rv (.slice none 0 0)),(3,rI .i64 0),(4,rv v233),(6,rI .i64 hu),(7,rI .i64 14),(17,rI .i64 (AY s 0)),(18,rI .i64 hk)]) (H':=[.row v233 9 1 (List.map eS he)]) Aa Aa ?_;obtain⟨hK,rfl,hL,hg,hh⟩:=CM hJ;replace hg:GS s ha he hu hk=some hL:=hg;unfold GS at hg;refine Al (wv (C8 Aa Aa) (As (Am (Au (b:=decide (hk<(AY s 0))) Aa (λhn=>?_) (λhn=>?_)))))
     ·have hw:=AE hn hg;refine Aw (AP (Am (AJ (Am (Al (wm Aa (wv (AZ Ce Aa) (wv (C8 Aa Aa) (As (Au (b:=decide ((ha.length:Int)<2)) Aa (λho=>?_) (λho=>?_)))))))))))
      ·have hN:=AE ho hw;refine H7 (B8 (Ec (B8 (B8 (Hp (Ec (B8 (H6 ?_))))))));obtain⟨g0,hO,hP⟩:=AH hN;have hQ:=B5 hP hh hj;obtain rfl:=A0 hQ;exact AI (14,()) hO (AK.c Aa (AK.c Aa (AK.c Aa AK.nil))) (sS sN)
      ·have hR:=AF ho hw;refine Aw (AP (Am ?_));obtain⟨hS,hT⟩:=Az hR;obtain⟨hU,hV⟩:=Az hT;obtain⟨hW,hX⟩:=Az hV;obtain⟨hY,hZ⟩:=Az hX;obtain⟨ga,hx⟩:=Az hZ;refine It 11 [0,2,3,4,7,17,18,19,20,21,22] [⟨[],rS ha,none,none,none⟩,⟨[0],rI .u8 (AY ha 0),none,none,none⟩,⟨[1],rI .i64 (AY ha 0),none,none,none⟩,⟨[2],rI .i64 (Ei .i64 (AY ha 0) 8),none,none,none⟩,⟨[],rS ha,none,none,none⟩,⟨[4],rI .u8 (AY ha 1),none,none,none⟩,⟨[5],rI .i64 (AY ha 1),none,none,none⟩,⟨[3,6],rI .i64 (JD .i64 (Ei .i64 (AY ha 0) 8) (AY ha 1)),none,none,none⟩,⟨[],rS ha,none,none,none⟩,⟨[8],rS (List.drop (Int.toNat 2) ha),none,none,none⟩,⟨[7],rI .i64 (JD .i64 (Ei .i64 (AY ha 0) 8) (AY ha 1)),none,none,none⟩] ?_ (λβ=>?_)
       ·refine Ea (Ah Aa) (Ea (Bb Ce Aa Aa hS) (Ea (DK ⟨_,No⟩ Nk Aa hU) (Ea (Tx Aa Aa (by decide)) (Ea (Ah Aa) (Ea (Bb Ce Aa Aa hW) (Ea (DK ⟨_,No⟩ Nk Aa hY) (Ea (TV Aa Aa) (Ea (Ah Aa) (Ea (Dr Ce Aa Aa ga) (Ea (Ae Aa) ?_))))))))));exact Tw
       refine IZ (H1:=[.row v233 9 1 (List.map eS he)]) [23,24,25,26,27,28,29,30,31,32,6,0,2,3,4,7,17,18,19,20,21,22] ?_;refine wa Aa (As (Am (Al (wm Aa (wv (C1 Aa Aa) (As (Au (b:=decide (4000<(JD .i64 (Ei .i64 (AY ha 0) 8) (AY ha 1)))) Aa (λhp=>?_) (λhp=>?_))))))))
       ·have gb:=AE hp hx;refine Al (wv (r:=rI .i64 13) (Ae Aa) (As (H7 (B8 (Ec (B8 (B8 (Hp (Ec (B8 (H6 ?_)))))))))));obtain⟨g1,gc,gd⟩:=AH gb;have ge:=B5 gd hh hj;obtain rfl:=A0 ge;exact AI (13,()) gc (AK.c Aa (AK.c Aa (AK.c Aa AK.nil))) (sS sN)
       ·have hy:=AF hp hx;refine Aw (AP (Am (Al (wm Aa (wv (AZ Ce Aa) (wm Aa (wv (C8 Aa Aa) (As (Au (b:=decide (((List.drop (Int.toNat 2) ha).length:Int)<(JD .i64 (Ei .i64 (AY ha 0) 8) (AY ha 1)))) Aa (λhq=>?_) (λhq=>?_))))))))))
        ·have gf:=AE hq hy;refine H7 (B8 (Ec (B8 (B8 (Hp (Ec (B8 (H6 ?_))))))));obtain⟨g2,gg,gh⟩:=AH gf;have gi:=B5 gh hh hj;obtain rfl:=A0 gi;exact AI (14,()) gg (AK.c Aa (AK.c Aa (AK.c Aa AK.nil))) (sS sN)
        ·have gj:=AF hq hy;refine Aw (AP ?_);obtain⟨hz,gl⟩:=Az gj;obtain⟨gm,gp⟩:=Az gl;obtain⟨inf,hinf⟩:=Or;refine S7 10 5 [0,2,3,6,7,17,18,20,21,22,23,24,25,26,27,28,29,30,31,32,33,34,35,36,37,38] [4] [{ deps:=[],r:=λ_=>rv v233,old:=[4] },{ deps:=[],r:=λ_=>rS (List.drop (Int.toNat 2) ha) },{ deps:=[],r:=λ_=>rI .i64 (JD .i64 (Ei .i64 (AY ha 0) 8) (AY ha 1)) },{ deps:=[1,2],r:=λ_=>rS (List.take (Int.toNat (JD .i64 (Ei .i64 (AY ha 0) 8) (AY ha 1))) (List.drop (Int.toNat 2) ha)) },{ deps:=[3],r:=λ_=>Bl 1 (List.map eS ([List.take (Int.toNat (JD .i64 (Ei .i64 (AY ha 0) 8) (AY ha 1))) (List.drop (Int.toNat 2) ha)]:List Ak)) },{ deps:=[0,4],r:=λhd=>rv hd,dyn:=true },{ deps:=[],r:=λ_=>rS (List.drop (Int.toNat 2) ha) },{ deps:=[],r:=λ_=>rI .i64 (JD .i64 (Ei .i64 (AY ha 0) 8) (AY ha 1)) },{ deps:=[6,7],r:=λ_=>rS (List.drop (Int.toNat (JD .i64 (Ei .i64 (AY ha 0) 8) (AY ha 1))) (List.drop (Int.toNat 2) ha)) },{ deps:=[5],r:=λhd=>rv hd,dyn:=true }] (λhd=>[.row hd 9 1 (List.map eS (he++([List.take (Int.toNat (JD .i64 (Ei .i64 (AY ha 0) 8) (AY ha 1))) (List.drop (Int.toNat 2) ha)]:List Ak)))]) ?_ (λhd=>?_)
         ·refine Sm (Ah Aa) (Sm (Ah Aa) (Sm (Ah Aa) (Sm (EI Ce Aa Aa hz) (Uj (DA (ys:=([List.take (Int.toNat (JD .i64 (Ei .i64 (AY ha 0) 8) (AY ha 1))) (List.drop (Int.toNat 2) ha)]:List Ak)) (enc:=eS) (css:=[[rS (List.take (Int.toNat (JD .i64 (Ei .i64 (AY ha 0) 8) (AY ha 1))) (List.drop (Int.toNat 2) ha))]]) (xs:=[.tmp 42]) Dc BU Tl Aa Aa Aa ⟨Gk.one Aa (Up.refl _),trivial⟩ Aa GU Aa Aa) (Uh (PN (xs:=he) (ys:=([List.take (Int.toNat (JD .i64 (Ei .i64 (AY ha 0) 8) (AY ha 1))) (List.drop (Int.toNat 2) ha)]:List Ak)) (enc:=eS) (i:=0) Dc hinf.1 hinf.2.1 hinf.2.2.1 hinf.2.2.2 Aa Aa Aa Aa Aa (Jw.z Aa Aa) GU NH gm) (Sm (Ah Aa) (Sm (Ah Aa) (Sm (Dr Ce Aa Aa hz) (Sm (fun {hd _}=>(Ae Aa)) ?_)))))))));exact Ui
         refine IZ (H1:=[.row hd 9 1 (List.map eS (he++([List.take (Int.toNat (JD .i64 (Ei .i64 (AY ha 0) 8) (AY ha 1))) (List.drop (Int.toNat 2) ha)]:List Ak)))]) [39,40,41,42,43,44,45,46,47,4,0,2,3,6,7,17,18,20,21,22,23,24,25,26,27,28,29,30,31,32,33,34,35,36,37,38] ?_;refine wa Aa (Aj (AG (AP (Ai ?_))));obtain⟨gq,gr⟩:=Az gp;refine wv (Bu Aa Aa gq) (wm Aa (Aj ?_));have gs:=Bk gr hh;exact Ap (AI (hK,(List.drop (Int.toNat (JD .i64 (Ei .i64 (AY ha 0) 8) (AY ha 1))) (List.drop (Int.toNat 2) ha),he++([List.take (Int.toNat (JD .i64 (Ei .i64 (AY ha 0) 8) (AY ha 1))) (List.drop (Int.toNat 2) ha)]:List Ak),JD .i64 (Ei .i64 (AY ha 0) 8) (AY ha 1),hk+1),hd) ⟨gs,U0 _⟩ (AK.c Aa (AK.c Aa (AK.c Aa (AK.c5 Aa Aa Aa Aa Aa AK.nil)))) (sC sN))
     ·have gt:=AF hn hg;refine B4 (A4 ?_);have gu:=Cv gt hh hj;exact A4 (Bt (AI ((ha,he),v233) gu (AK.c5 Aa Aa Aa Aa Aa AK.nil) (sC sN)))
    ·rintro⟨⟨hr,hf⟩,h0⟩ hi;refine Dd (l':=[(0,rS hr),(2,rv (.slice none 0 0)),(3,rI .i64 0),(4,rv h0),(7,rI .i64 14)]) (H':=[.row h0 9 1 (List.map eS hf)]) Aa Aa ?_;replace hi:GR hr hf=some r:=hi;unfold GR at hi;refine Bi (AP (Am (Al (wm Aa (wv (KF Aa Aa) (As (Au (b:=!decide (hr=([]:Ak))) Aa (λhs=>?_) (λhs=>?_))))))))
     ·have gv:=AE hs hi;exact Al (wv (r:=rI .i64 13) (Ae Aa) (As (H7 (B8 (H6 (AI (13,()) gv (AK.c Aa (AK.c Aa (AK.c Aa AK.nil))) (sS sN)))))))
     ·have gw:=AF hs hi;refine Aw (AP (Am (Al (wm Aa (wm Aa (wv (CL (ys:=hf) (enc:=eS) (i:=0) Dc Aa Aa) (wm Aa (wv (CL (ys:=hf) (enc:=eS) (i:=0) Dc Aa Aa) (WL.freeze (i:=0) Aa (WL.up (d:=51) (r:=Bl 1 (List.map eS hf)) Aa (Up.fact (i:=0) Aa) ?_))))))))));obtain⟨gx,gy⟩:=Az gw;refine wv (r:=Bl 1 (List.map eS (List.take (Int.toNat (hf.length:Int)) hf))) (MG Dc BU Aa Aa Aa gx) (wa Aa (wv (r:=rI .i64 0) (Ae Aa) (As (Ay (Af (Ru ?_))))));obtain rfl:=A0 gy;exact Ax (El Tryz.results34 (AM Aa) (AM Aa)) (sS sN) ⟨Aa,Aa⟩
 ·rintro⟨h6,⟨⟩⟩ hl;refine AR (l':=[(2,rv (.slice none 0 0)),(3,rI .i64 0),(7,rI .i64 h6)]) (H':=[]) Aa Aa ?_;replace hl:CY h6=some r:=hl;unfold CY at hl;refine Am (Aw (AP (Al (wm Aa (wv (r:=rv (.slice none 0 0)) (Ae Aa) (wa Aa (As (Ay (H5 (WK.up (d:=2) (r:=Bl 1 (List.map eS ([]:List Ak))) Aa (Up.le (Hi.nil _)) ?_))))))))));obtain rfl:=A0 hl;exact Ax (El Tryz.results34 (AM Aa) (AM Aa)) sN ⟨Aa,Aa⟩
theorem Qk (F:Nat)(fields:(List Ak))(r:Ak×Int)(h:KB F fields=some r):Fn Tryz.prog GE 23 [Bl 1 (List.map eS fields)] [] (λR H=>R=CV [rS r.1,rI .i64 r.2]∧H=[]):=by
 refine enter (n:=50) Tryz.func23 Aa Tryz.ntmps23 Aa (λw Z=>?_);refine AR (l':=[(0,Bl 1 (List.map eS fields))]) (H':=[]) Aa Aa ?_;unfold KB at h;refine Al (wv (r:=rS ([]:Ak)) (Ae Aa) (wv (r:=rI .i64 0) (Ae Aa) (As (Am (Al (wm Aa (wv (BB (ys:=fields) (enc:=eS) Dc Aa) (wv (C1 Aa Aa) (As (Au (b:=decide (64<(fields.length:Int))) Aa (λc1=>?_) (λc1=>?_)))))))))))
 ·have h2:=AE c1 h;refine Al (wv (r:=rS ([]:Ak)) (Ae Aa) (wv (r:=rI .i64 3) (Ae Aa) (As (Ay (Af ?_)))));obtain rfl:=A0 h2;exact Ax (El Tryz.results23 (AM Aa) (AM Aa)) sN ⟨Aa,Aa⟩
 ·have h3:=AF c1 h;refine Aw (AP (Al (wm Aa (wv (BB (ys:=fields) (enc:=eS) Dc Aa) (wv (r:=rI .u8 (IntKind.wrap .u8 (fields.length:Int))) (CE ⟨_,Nk⟩ No Aa) (Bp (ys:=([IntKind.wrap .u8 (fields.length:Int)]:List Int)) (enc:=AU) (css:=[[rI .u8 (IntKind.wrap .u8 (fields.length:Int))]]) (xs:=[.tmp 11]) EQ PC S3 Aa Aa Aa ⟨Gk.one Aa (Up.refl _),trivial⟩ Aa CD Aa Aa Aa (λb4=>?_)))))));refine wa Aa (As (Am (Al (wm Aa (wv (BB (ys:=fields) (enc:=eS) Dc Aa) (wv (r:=rI .i64 0) (Ah Aa) (As (AJ ?_))))))));obtain⟨hp,hq,hm⟩:=AH h3;refine B2 (S:=Nat×((List Int)×Int)×(Value)) (V:=((List Int))×(Value)) 0 (λσ=>Cn (λσ=>DM fields σ.1 σ.2) σ.1 σ.2.1=some hp) (λσ=>[(0,Bl 1 (List.map eS fields)),(4,rv σ.2.2),(14,rI .i64 (fields.length:Int)),(15,rI .i64 σ.2.1.2)]) (λσ=>[.row σ.2.2 5 1 (List.map AU σ.2.1.1)]) (λσ=>σ.1) (F,(([IntKind.wrap .u8 (fields.length:Int)]:List Int),0),(.slice (some ⟨b4,0,none⟩) 1 1)) hq (AK.c Aa (AK.c Aa (AK.c Aa (AK.c Aa AK.nil)))) (sC sN) (λσ=>HD σ.1=some r) (λσ=>[(4,rv σ.2)]) (λσ=>[.row σ.2 5 1 (List.map AU σ.1)]) ?_ ?_
  ·rintro⟨hH,⟨hd,ha⟩,he⟩ hr;refine AR (l':=[(0,Bl 1 (List.map eS fields)),(4,rv he),(14,rI .i64 (fields.length:Int)),(15,rI .i64 ha)]) (H':=[.row he 5 1 (List.map AU hd)]) Aa Aa ?_;obtain⟨hs,rfl,ht,hf,hj⟩:=CM hr;replace hf:DM fields hd ha=some ht:=hf;unfold DM at hf;refine Al (wv (C8 Aa Aa) (As (Am (Au (b:=decide (ha<(fields.length:Int))) Aa (λhk=>?_) (λhk=>?_)))))
   ·have hu:=AE hk hf;refine Aw (AP (Am (AJ (Al (wm Aa (wa Aa (As (Am (Al (wm Aa (wm Aa ?_)))))))))));obtain⟨hg,hn⟩:=Az hu;refine wv (BH (enc:=eS) (ys:=fields) Dc BU Aa Aa hg) (wv (B7 Cg Aa Aa) (wv (AZ Ce Aa) (wv (C1 Aa Aa) (As (Au (b:=decide (4000<((At fields ha).length:Int))) Aa (λhl=>?_) (λhl=>?_))))))
    ·have hw:=AE hl hn;refine Al (wv (r:=rS ([]:Ak)) (Ae Aa) (wv (r:=rI .i64 3) (Ae Aa) (As (Ay (Af (A5 (Af (Af (Bf ?_)))))))));have hx:=B5 hw hj hm;refine A5 (Af ?_);obtain rfl:=A0 hx;exact Ax (El Tryz.results23 (AM Aa) (AM Aa)) (sS sN) ⟨Aa,Aa⟩
    ·have hy:=AF hl hn;refine Aw (AP (Am ?_));obtain⟨hz,h0⟩:=Az hy;refine It 16 [0,4,5,14,15] [⟨[],rv he,none,none,none⟩,⟨[],Bl 1 (List.map eS fields),none,none,none⟩,⟨[],rI .i64 ha,none,none,none⟩,⟨[1,2],Nl [rS (At fields ha)],none,none,none⟩,⟨[3],rS (At fields ha),none,none,none⟩,⟨[4],rI .i64 ((At fields ha).length:Int),none,none,none⟩,⟨[5],rI .i64 (Int.tdiv ((At fields ha).length:Int) 256),none,none,none⟩,⟨[6],rI .u8 (IntKind.wrap .u8 (Int.tdiv ((At fields ha).length:Int) 256)),none,none,none⟩,⟨[],Bl 1 (List.map eS fields),none,none,none⟩,⟨[],rI .i64 ha,none,none,none⟩,⟨[8,9],Nl [rS (At fields ha)],none,none,none⟩,⟨[10],rS (At fields ha),none,none,none⟩,⟨[11],rI .i64 ((At fields ha).length:Int),none,none,none⟩,⟨[12],rI .i64 (Int.tmod ((At fields ha).length:Int) 256),none,none,none⟩,⟨[13],rI .u8 (IntKind.wrap .u8 (Int.tmod ((At fields ha).length:Int) 256)),none,none,none⟩,⟨[7,14],Bl 1 (List.map AU ([IntKind.wrap .u8 (Int.tdiv ((At fields ha).length:Int) 256),IntKind.wrap .u8 (Int.tmod ((At fields ha).length:Int) 256)]:List Int)),none,none,none⟩] ?_ (λβ=>?_)
     ·refine Ea (Ah Aa) (Ea (Ah Aa) (Ea (Ah Aa) (Ea (BH (enc:=eS) (ys:=fields) Dc BU Aa Aa hg) (Ea (B7 Cg Aa Aa) (Ea (AZ Ce Aa) (Ea (Qw Aa Aa (by decide) hz) (Ea (CE ⟨_,Nk⟩ No Aa) (Ea (Ah Aa) (Ea (Ah Aa) (Ea (BH (enc:=eS) (ys:=fields) Dc BU Aa Aa hg) (Ea (B7 Cg Aa Aa) (Ea (AZ Ce Aa) (Ea (Qv Aa Aa (by decide)) (Ea (CE ⟨_,Nk⟩ No Aa) (Uf (DA (ys:=([IntKind.wrap .u8 (Int.tdiv ((At fields ha).length:Int) 256),IntKind.wrap .u8 (Int.tmod ((At fields ha).length:Int) 256)]:List Int)) (enc:=AU) (css:=[[rI .u8 (IntKind.wrap .u8 (Int.tdiv ((At fields ha).length:Int) 256))],[rI .u8 (IntKind.wrap .u8 (Int.tmod ((At fields ha).length:Int) 256))]]) (xs:=[.tmp 31,.tmp 38]) EQ PC S3 Aa Aa Aa ⟨Gk.one Aa (Up.refl _),Gk.one Aa (Up.refl _),trivial⟩ Aa CD Aa Aa) ?_)))))))))))))));exact Tw
     refine IZ (H1:=[.row he 5 1 (List.map AU hd)]) [24,25,26,27,28,29,30,31,32,33,34,35,36,37,38,39,0,4,5,14,15] ?_;obtain⟨h6,h7⟩:=Az h0;obtain⟨inf,hinf⟩:=IM;refine Ck (xs:=hd) (ys:=([IntKind.wrap .u8 (Int.tdiv ((At fields ha).length:Int) 256),IntKind.wrap .u8 (Int.tmod ((At fields ha).length:Int) 256)]:List Int)) (enc:=AU) (i:=0) EQ hinf.1 hinf.2.1 hinf.2.2.1 hinf.2.2.2 Aa Aa Aa Aa Aa (Jw.z Aa Aa) CD G5 h6 Aa (λhI=>?_);refine wa Aa (As (Ai (wm Aa (wm Aa (wm Aa (wv (BH (enc:=eS) (ys:=fields) Dc BU Aa Aa hg) (wv (B7 Cg Aa Aa) ?_)))))));obtain⟨h8,h9⟩:=Az h7;obtain⟨inf,hinf⟩:=IM;refine Ey (xs:=hd++([IntKind.wrap .u8 (Int.tdiv ((At fields ha).length:Int) 256),IntKind.wrap .u8 (Int.tmod ((At fields ha).length:Int) 256)]:List Int)) (i:=0) EQ Ce hinf.1 hinf.2.1 hinf.2.2.1 hinf.2.2.2 Aa Aa Aa h8 Aa (λhA=>?_);refine wa Aa (Aj (AG (AP (Ai ?_))));obtain⟨hB,hC⟩:=Az h9;refine wv (Bu Aa Aa hB) (wm Aa (Aj ?_));have hD:=Bk hC hj;exact Ap (AI (hs,((hd++([IntKind.wrap .u8 (Int.tdiv ((At fields ha).length:Int) 256),IntKind.wrap .u8 (Int.tmod ((At fields ha).length:Int) 256)]:List Int))++CO (At fields ha),ha+1),hA) ⟨hD,U0 _⟩ (AK.c Aa (AK.c Aa (AK.c Aa (AK.c Aa AK.nil)))) (sC sN))
   ·have hE:=AF hk hf;refine B4 (A4 ?_);have hG:=Cv hE hj hm;exact A4 (Bt (AI (hd,he) hG (AK.c Aa AK.nil) (sC sN)))
  ·rintro⟨hh,ho⟩ hi;refine Dd (l':=[(4,rv ho)]) (H':=[.row ho 5 1 (List.map AU hh)]) Aa Aa ?_;replace hi:HD hh=some r:=hi;unfold HD at hi;refine Bi (AP (Al (wm Aa (wv (r:=rS (Li hh)) (Q0 (xs:=hh) (i:=0) EQ Ce No Aa Aa) (wa Aa (wv (r:=rI .i64 0) (Ae Aa) (As (Ay ?_))))))));obtain rfl:=A0 hi;exact Ax (El Tryz.results23 (AM Aa) (AM Aa)) (sS sN) ⟨Aa,Aa⟩
end Go.Proofs.YtailcjmjkmjelaaGreatDoor.Q
namespace Go.Proofs.YtailcjmjkmjelaaGreatDoor
open Go
set_option linter.unusedVariables false
structure AA where
 fID:Ak
 fTenant:Ak
 fSource:Ak
 fKey:Ak
 fAt:Int
 fCause:Ak
 fBody:(List Ac)
 deriving DecidableEq,Inhabited
def NK (ys:(List Ac)):Option ((List Ac)):=
 AW (D1 40 (([]:List Ac).length+ys.length))<|some (([]:List Ac)++ys)
def BA (F:Nat)(e:AA):Option (Int):=
 B1 (((!(Cs e.fID))||((!(Cs e.fTenant))||((!(Cs e.fSource))||(bif !decide (e.fKey=([]:Ak)) then((!(Cs e.fKey))||((!decide (e.fCause=([]:Ak)))&&(!(Cs e.fCause)))) else((!decide (e.fCause=([]:Ak)))&&(!(Cs e.fCause)))))))) (some 4) (B1 (((decide (e.fAt<0))||(decide (1073741824<e.fAt)))) (some 2) (B3 (Ig F e.fBody) λha=>some ha))
def GV (F:Nat)(e:AA):Option (Ak×Int):=
 B3 (BA F e) λr2=>B1 (!decide (r2=0)) (some (([]:Ak),r2)) (B3 (I1 F e.fBody) λr8=>B1 (!decide (r8.2=0)) (some (([]:Ak),r8.2)) (AW (B6 .i64 e.fAt)<|B3 (MW F (Nb (List.replicate 7 ([]:Ak)) ([e.fID,e.fTenant,e.fSource,e.fKey,Lib.itoa e.fAt,e.fCause,r8.1]:List Ak))) λha=>some (ha.1,ha.2)))
def Mc (F:Nat)(s:Ak):Option (AA×Int):=
 B3 (Ma F s) λr2=>B1 (!decide (r2.2=0)) (some ((AA.mk ([]:Ak) ([]:Ak) ([]:Ak) ([]:Ak) 0 ([]:Ak) ([]:List Ac)),r2.2)) (B1 (!decide ((r2.1.length:Int)=7)) (some ((AA.mk ([]:Ak) ([]:Ak) ([]:Ak) ([]:Ak) 0 ([]:Ak) ([]:List Ac)),13)) (AW (Da 4 (r2.1.length:Int))<|AW (D1 1 (At r2.1 4).length)<|B1 (!decide ((BK (At r2.1 4))=0)) (some ((AA.mk ([]:Ak) ([]:Ak) ([]:Ak) ([]:Ak) 0 ([]:Ak) ([]:List Ac)),BK (At r2.1 4))) (AW (Da 6 (r2.1.length:Int))<|B3 (LJ F (At r2.1 6)) λha=>B1 (!decide (ha.2=0)) (some ((AA.mk ([]:Ak) ([]:Ak) ([]:Ak) ([]:Ak) 0 ([]:Ak) ([]:List Ac)),ha.2)) (AW (Da 0 (r2.1.length:Int))<|AW (Da 1 (r2.1.length:Int))<|AW (Da 2 (r2.1.length:Int))<|AW (Da 3 (r2.1.length:Int))<|AW (Da 5 (r2.1.length:Int))<|B3 (BA F (AA.mk (At r2.1 0) (At r2.1 1) (At r2.1 2) (At r2.1 3) (Bs (At r2.1 4)) (At r2.1 5) ha.1)) λhd=>B1 (!decide (hd=0)) (some ((AA.mk ([]:Ak) ([]:Ak) ([]:Ak) ([]:Ak) 0 ([]:Ak) ([]:List Ac)),hd)) (some ((AA.mk (At r2.1 0) (At r2.1 1) (At r2.1 2) (At r2.1 3) (Bs (At r2.1 4)) (At r2.1 5) ha.1),0))))))
def E1 (s:Ak)(hd:Int)(ha:Int):Option (Stp (Int×Int) (Out (Int) (Int))):=
 B1 (decide (ha<(s.length:Int))) (AW (Da ha (s.length:Int))<|AW (B6 .i64 (ha+1))<|some (.next (IntKind.wrap .u64 ((Lm .u64 hd (IntKind.wrap .u64 (AY s ha)))*1099511628211),ha+1))) (some (.out (.go hd)))
def Kd (ha:Int):Option (Int):=
 some ha
def Po (F:Nat)(s:Ak):Option (Int):=
 B3 (Cn (λσ=>E1 s σ.1 σ.2) F (14695981039346656037,0)) (BY λν=>Kd ν)
def QD (x:Int):Option (Bool):=
 AW (B6 .i64 (x-1))<|some (decide ((Ej .i64 x (x-1))=0))
def Cr (hd:Int)(ha:Int)(he:(List Int)):Option (Stp (Int×Int×(List Int)) (Out ((List Int)×Ak) (Int×Int×(List Int)))):=
 B1 (decide (16≤hd)) (AW (B6 .i64 (ha-1))<|AW (Da (Ej .u64 hd 15) (([48,49,50,51,52,53,54,55,56,57,97,98,99,100,101,102,103,104,105,106,107,108,109,110,111,112,113,114,115,116,117,118,119,120,121,122]:Ak).length:Int))<|AW (Da (ha-1) 65)<|AW (Da (ha-1) (he.length:Int))<|AW (decide (0≤(IntKind.wrap .u64 ((Lib.ctz 64 (Int.toNat 16):Nat):Int))))<|some (.next (ES .u64 hd (IntKind.wrap .u64 ((Lib.ctz 64 (Int.toNat 16):Nat):Int)),ha-1,List.set he (Int.toNat (ha-1)) (AY ([48,49,50,51,52,53,54,55,56,57,97,98,99,100,101,102,103,104,105,106,107,108,109,110,111,112,113,114,115,116,117,118,119,120,121,122]:Ak) (Ej .u64 hd 15))))) (some (.out (.go (hd,ha,he))))
def EK (hd:Int)(ha:Int)(he:(List Int)):Option ((List Int)×Ak):=
 AW (B6 .i64 (ha-1))<|AW (Da hd (([48,49,50,51,52,53,54,55,56,57,97,98,99,100,101,102,103,104,105,106,107,108,109,110,111,112,113,114,115,116,117,118,119,120,121,122]:Ak).length:Int))<|AW (Da (ha-1) 65)<|AW (Da (ha-1) (he.length:Int))<|AW (Hf (ha-1) 65)<|AW (decide ((List.set he (Int.toNat (ha-1)) (AY ([48,49,50,51,52,53,54,55,56,57,97,98,99,100,101,102,103,104,105,106,107,108,109,110,111,112,113,114,115,116,117,118,119,120,121,122]:Ak) hd)).length=65))<|some (([]:List Int),Li (List.drop (Int.toNat (ha-1)) (List.set he (Int.toNat (ha-1)) (AY ([48,49,50,51,52,53,54,55,56,57,97,98,99,100,101,102,103,104,105,106,107,108,109,110,111,112,113,114,115,116,117,118,119,120,121,122]:Ak) hd))))
def IN (F:Nat)(u:Int):Option ((List Int)×Ak):=
 B3 (QD 16) λr2=>AW (r2)<|AW (B6 .u64 16)<|B3 (Cn (λσ=>Cr σ.1 σ.2.1 σ.2.2) F (u,65,List.replicate 65 (0:Int))) (BY λν=>EK ν.1 ν.2.1 ν.2.2)
def Oy (F:Nat)(i:Int):Option (Ak):=
 B3 (IN F i) λr1=>some r1.2
def Ke (F:Nat)(i:Int):Option (Ak):=
 B3 (Oy F i) λr1=>some r1
def QG (F:Nat)(n:Int):Option (Ak):=
 B3 (Ke F n) λr1=>AW (B6 .i64 (16-(r1.length:Int)))<|AW (Da (16-(r1.length:Int)) 1000)<|AW (decide (([48]:Ak).length≤1000))<|AW (B6 .i64 (((Lib.repeatL ([48]:Ak) (Int.toNat (16-(r1.length:Int)))).length:Int)+(r1.length:Int)))<|some ((Lib.repeatL ([48]:Ak) (Int.toNat (16-(r1.length:Int))))++r1)
def IS (F:Nat)(e:AA):Option (Ak×Int):=
 B3 (GV F e) λr2=>B1 (!decide (r2.2=0)) (some (([]:Ak),r2.2)) (B3 (Po F r2.1) λr8=>B3 (QG F r8) λha=>some (ha,0))
def QS (F:Nat)(a:AA)(b:AA):Option (Bool):=
 AW (imp (decide (a.fID=b.fID)) (imp (decide (a.fTenant=b.fTenant)) (imp (decide (a.fSource=b.fSource)) (imp (decide (a.fKey=b.fKey)) (imp (decide (a.fAt=b.fAt)) (imp (decide (a.fCause=b.fCause)) ((HA F a.fBody b.fBody).isSome)))))))<|some ((decide (a.fID=b.fID))&&((decide (a.fTenant=b.fTenant))&&((decide (a.fSource=b.fSource))&&((decide (a.fKey=b.fKey))&&((decide (a.fAt=b.fAt))&&((decide (a.fCause=b.fCause))&&(ov (HA F a.fBody b.fBody))))))))
def SZ (a:AA)(b:AA):Option (Int):=
 B1 (decide (a.fAt<b.fAt)) (some (-1)) (B1 (decide (b.fAt<a.fAt)) (some 1) (some (Lib.compareBytes a.fID b.fID)))
def NJ (F:Nat)(e:AA)(n:Int)(source:Ak)(body:(List Ac))(at_:Int):Option (AA×Int):=
 B3 (BA F e) λr3=>B1 (!decide (r3=0)) (some ((AA.mk ([]:Ak) ([]:Ak) ([]:Ak) ([]:Ak) 0 ([]:Ak) ([]:List Ac)),r3)) (AW (D1 1 e.fID.length)<|AW (B6 .i64 n)<|B1 (!decide ((CN e.fID n)=0)) (some ((AA.mk ([]:Ak) ([]:Ak) ([]:Ak) ([]:Ak) 0 ([]:Ak) ([]:List Ac)),CN e.fID n)) (B3 (NK body) λha=>B3 (BA F (AA.mk (C4 e.fID n) e.fTenant source e.fKey at_ e.fID ha)) λhd=>B1 (!decide (hd=0)) (some ((AA.mk ([]:Ak) ([]:Ak) ([]:Ak) ([]:Ak) 0 ([]:Ak) ([]:List Ac)),hd)) (some ((AA.mk (C4 e.fID n) e.fTenant source e.fKey at_ e.fID ha),0))))
def EY (ha:(List Ak)):Option (Stp ((List Ak)) (Out ((List Ak)) (Unit))):=
 AW (B6 .i64 ((ha.length:Int)-1))<|AW (Da ((ha.length:Int)-1) (ha.length:Int))<|AW (D1 1 (At ha ((ha.length:Int)-1)).length)<|B1 (!(CZ (At ha ((ha.length:Int)-1)))) (some (.out (.ret ha))) (AW (D1 16 (ha.length+([Jp (CZ (At ha ((ha.length:Int)-1))) (GO (At ha ((ha.length:Int)-1)))]:List Ak).length))<|some (.next (ha++([Jp (CZ (At ha ((ha.length:Int)-1))) (GO (At ha ((ha.length:Int)-1)))]:List Ak))))
def JG :Option ((List Ak)):=
 none
def KQ (F:Nat)(id:Ak):Option ((List Ak)):=
 B1 (!(Cs id)) (some ([]:List Ak)) (B3 (Cn (λσ=>EY σ) F ([id]:List Ak)) (BY λν=>JG ))
end Go.Proofs.YtailcjmjkmjelaaGreatDoor
namespace Go.Proofs.YtailcjmjkmjelaaGreatDoor.Q
open Go Go.RowKit
set_option linter.unusedVariables false
section
variable {P : Program} {n : Nat} {c : Cx} {l : Fr} {H : List Ent} {d : Option Nat} {ty rty t e : TypeId} {pos : String} {af : Array Edge} {g : Option (Nat × Bool)} {x : Operand} {sz : Nat}
end
set_option linter.unusedSimpArgs false
def Tn (b len j:Nat):Value:=.slice (some (if len=j then⟨b,0,none⟩ else⟨b,j,none⟩)) (len-j) (len-j)
section
variable {P : Program} {n : Nat} {c : Cx} {l : Fr} {H : List Ent} {d' : Option Nat} {x y : Operand} {t t' ty e te : TypeId} {pos : String} {af : Array Edge} {g : Option (Nat × Bool)} {k : IntKind} {b i len : Nat} {j : Int}
theorem Ty (ht:P.underlying t=some (.array len e))(hz:∀w,(sizeOf e).run P w = .ok 1 w)(hx:ev l x=some (rv (.pointer (some ⟨b,0,none⟩))))(hy:ev l y=some (rI k j))(hg:Hf j (len:Int)=true) :
  Bd P n c l H { dst:=d',op:=.slice t x (some y) none none,type:=ty,pos:=pos,after:=af,guard:=g } (rv (Tn b len j.toNat)):=λa w Z ha hw=>C0<|by
 have g0:=(C7 hg).1;have g1:=(C7 hg).2;simp[execOp,ha.eval hx,ha.eval hy,Instr.sliceAt,Instr.sureAddr,run_underlying ht,Instr.sliceBounds,Bn (m:=len) _ _ g0 g1,hz,Tn,G7]
theorem Pg {xs:List Int}(hs:P.underlying t=some (.slice e))(hd:P.underlying t'=some .string)(he:P.underlying e=some (.int .u8))(hx:ev l x=some (rv (Tn b len j.toNat)))(hi:H[i]? =some (.blk b (List.map (rI .u8) xs) te))(hl:decide (xs.length=len)=true) :
  Bd P n c l H { dst:=d',op:=.convert t t' x,type:=ty,pos:=pos,after:=af,guard:=g } (rS (Li (xs.drop j.toNat))):=λa w Z ha hw=>by
 obtain⟨us,h1,h2⟩:=hw.ent hi;have hlen:=Va hl;have h2':AX Z ((xs.map λc=>Value.int .u8 c).map rv) us:=by rw[List.map_map];exact h2
 have e2:=AX.eq_rv h2';subst e2;refine⟨.string (B (Li (xs.drop j.toNat))),rfl,?_⟩;have hlx:=ha.eval hx
 by_cases hj:len=j.toNat
 ·have h0:xs.drop j.toNat=[]:=List.drop_of_length_le (by omega);have hlx':a.eval x = .slice (some ⟨b,0,none⟩) 0 0:=by rw[hlx];simp[Tn,hj]
  have hld:=run_loadCells_list (P:=P) w ⟨b,0,none⟩ (([]:List Int).map λc=>Value.int .u8 c) (λj u hj=>by simp at hj);have h4:=run_bytesToString w ⟨b,0,none⟩ 0 0 [] hld;have h5:=run_convert_bytes_string w t t' e (some ⟨b,0,none⟩) 0 0 hs he hd;have h6:=Ow [] [];rw[h4,show ByteArray.empty=B [] from rfl,h6] at h5;simp[execOp,hlx',h5,h0,Li]
 ·have hd2:(xs.drop j.toNat).length=len-j.toNat:=by rw[Vc,hlen]
  have hld:=run_loadCells_list (P:=P) w ⟨b,j.toNat,none⟩ ((xs.drop j.toNat).map λc=>Value.int .u8 c) (λq u hq=>by
   rw[G7,cell_of_row w b _ _ te (0,0) h1];rw[List.map_drop,List.getElem?_drop] at hq;simpa using hq)
  rw[U2,hd2] at hld;have h4:=run_bytesToString w ⟨b,j.toNat,none⟩ (len-j.toNat) (len-j.toNat) (xs.drop j.toNat) hld;have h5:=run_convert_bytes_string w t t' e (some ⟨b,j.toNat,none⟩) (len-j.toNat) (len-j.toNat) hs he hd;have h6:=Ow (xs.drop j.toNat) [];rw[h4,show ByteArray.empty=B [] from rfl,h6] at h5;have hlx':a.eval x = .slice (some ⟨b,j.toNat,none⟩) (len-j.toNat) (len-j.toNat):=by rw[hlx];simp[Tn,hj]
  simp[execOp,hlx',h5]
end
end Go.Proofs.YtailcjmjkmjelaaGreatDoor.Q
