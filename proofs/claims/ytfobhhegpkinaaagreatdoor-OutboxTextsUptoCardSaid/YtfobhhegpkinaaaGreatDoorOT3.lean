/-
  Texts of the proof, put together: WVc, PVd, WVd, PVe, WVe, PVf, WVf, PH, PFr, QH, QY, QU, QW, QT, QJ, QX, WFr, PM, POa, QN.
-/
import Derived.Test.YtfobhhegpkinaaaGreatDoorOT2
import Derived.Laws.StructEq
import GoSem.Op.IntBits
import GoSem.Op.Shift
import Derived.Laws.Cover3
import Derived.ScopeJumps
import Derived.Laws.CopyRow
import Derived.Laws.IdiomCopy
import Derived.Laws.OwnMore
namespace Go.Proofs.YtfobhhegpkinaaaGreatDoor.Q
open Go Go.RowKit
set_option linter.unusedVariables false
set_option linter.unusedSimpArgs false
set_option maxRecDepth 100000
set_option maxHeartbeats 4000000
theorem NS (F:Nat)(ha:Nat)(hk:Value)(l:Al)(s:Al)(r:Al)(h:Lf F l s=some r):Fn Tryz.prog GE 143 [rP ha 0,rS s] [.bld 146 5 ha hk l] (λR H=>∃w0b:Value,R=rv (.tuple #[])∧H=[.bld 146 5 ha w0b r]):=by
 refine enter (n:=32) Tryz.func143 Aa Tryz.ntmps143 Aa (λw Z=>?_);unfold Lf at h;refine Ak (wm Aa (ck h λg1 h2=>ck h2 λg3 h4=>Cm (rs:=[rP ha 0,rI .u8 34]) (Hin:=[.bld 146 5 ha hk l]) (Hr:=[]) Jq Aa (Abq _) (CT ha hk l 34 g1 g3) Aa ?_));rintro _ _ ⟨v5,rfl,rfl⟩;refine bd h4 λr6 e8 h7=>?_;rw[← e8];refine Av (An (Ak (wm Aa (wv (Bv Cu Aa) (wv (r:=At 0) (Aq Aa) (Av (AJ (ob h7 λhq hr hs=>Bu (S:=Nat×(Int×Al)×(Value)) (V:=(Al)×(Value)) 0 (λσ=>Ci (λσ=>DI s σ.1 σ.2) σ.1 σ.2.1=some hq) (λσ=>[(0,rP ha 0),(1,rS s),(8,At (s.length:Int)),(9,At σ.2.1.1)]) (λσ=>[.bld 146 5 ha σ.2.2 σ.2.1.2]) (λσ=>σ.1) (F,(0,r6),v5) hr (AL.c Aa (AL.c Aa (AL.c Aa (AL.c Aa AL.nil)))) (sC sN) (λσ=>EL σ.1=some r) (λσ=>[(0,rP ha 0)]) (λσ=>[.bld 146 5 ha σ.2 σ.1]) ?_ ?_))))))))
 ·rintro⟨gf,⟨hb,he⟩,hf⟩ ht;refine BW (l':=[(0,rP ha 0),(1,rS s),(8,At (s.length:Int)),(9,At hb)]) (H':=[.bld 146 5 ha hf he]) Aa Aa ?_;obtain⟨hn,rfl,t127,hg,hl⟩:=C4 ht;replace hg:DI s hb he=some t127:=hg;unfold DI at hg;refine Ak (wv (C0 Aa Aa) (Av (An (cz hg Aa (λhu hw=>?_) (λhu hx=>?_)))))
  ·refine Ay (AP (An (AJ (Ak (wm Aa (wa Aa (Av (An (ck hw λhh hy=>AH [(0,rP ha 0),(1,rS s),(4,At hb),(8,At (s.length:Int)),(9,At hb),(21,rB ((decide ((B1 s hb)=34))||(decide ((B1 s hb)=92))))] [.bld 146 5 ha hf he] ?_ ?_)))))))))
   ·refine Ai (wm Aa (wm Aa (wv (Bw Cu Aa Aa hh) (wv (B5 Aa Aa) (wm Aa (AO (decide ((B1 s hb)=34)) (λhd=>?_) (λhd=>?_)))))))
    ·refine wf hd (wf hd (wf hd (wf hd (wv (r:=rB true) (A2 Aa hd Aa) (Am ?_)))));exact BV hd
    ·refine wo hd (wm Aa (wo hd (wm Aa (wo hd (wv (Bw Cu Aa Aa hh) (wo hd (wv (B5 Aa Aa) (E2 Aa hd Aa (Am ?_)))))))));exact BV hd
   refine cz hy Aa (λhz h0=>?_) (λhz h1=>?_)
   ·refine Ai (wm Aa (ck h0 λh3 h5=>ck h5 λh6 h8=>Cm (rs:=[rP ha 0,rI .u8 92]) (Hin:=[.bld 146 5 ha hf he]) (Hr:=[]) Jq Aa (Abq _) (CT ha hf he 92 h3 h6) Aa ?_));rintro _ _ ⟨ho,rfl,rfl⟩;refine bd h8 λhp h9 hA=>?_;rw[← h9];refine Av (Ai (wm Aa (wm Aa (wm Aa (wv (Bw Cu Aa Aa hh) (ck hA λhB hC=>ck hC λhD hE=>Cm (rs:=[rP ha 0,rI .u8 (B1 s hb)]) (Hin:=[.bld 146 5 ha ho hp]) (Hr:=[]) Jq Aa (Abq _) (CT ha ho hp (B1 s hb) hB hD) Aa ?_))))));rintro _ _ ⟨hG,rfl,rfl⟩;refine bd hE λhH hI hJ=>?_;rw[← hI];refine Am (AG (AP (Ai (ck hJ λhK hL=>wv (Bz Aa Aa hK) (wm Aa (Am ?_))))));have hN:=Bk hL hl;exact Aw (AI (hn,(hb+1,hH),hG) ⟨hN,Aby _⟩ (AL.c Aa (AL.c Aa (AL.c Aa (AL.c Aa AL.nil)))) (sC sN))
   ·refine Ay (AP (Ai (wm Aa (wm Aa (wm Aa (wv (Bw Cu Aa Aa hh) (ck h1 λhO hP=>ck hP λhQ hR=>Cm (rs:=[rP ha 0,rI .u8 (B1 s hb)]) (Hin:=[.bld 146 5 ha hf he]) (Hr:=[]) Jq Aa (Abq _) (CT ha hf he (B1 s hb) hO hQ) Aa ?_)))))));rintro _ _ ⟨hS,rfl,rfl⟩;refine bd hR λhT hU hV=>?_;rw[← hU];refine Am (AG (AP (Ai (ck hV λhW hX=>wv (Bz Aa Aa hW) (wm Aa (Am ?_))))));have hY:=Bk hX hl;exact Aw (AI (hn,(hb+1,hT),hS) ⟨hY,Aby _⟩ (AL.c Aa (AL.c Aa (AL.c Aa (AL.c Aa AL.nil)))) (sC sN))
  ·refine Bx (A6 ?_);have hZ:=BX hx hl hs;exact A6 (Be (AI (he,hf) hZ (AL.c Aa AL.nil) (sC sN)))
 ·rintro⟨hi,hm⟩ hj;refine Cy (l':=[(0,rP ha 0)]) (H':=[.bld 146 5 ha hm hi]) Aa Aa ?_;replace hj:EL hi=some r:=hj;unfold EL at hj;refine Bc (AP (Ai (wm Aa (ck hj λga gb=>Cm (rs:=[rP ha 0,rI .u8 34]) (Hin:=[.bld 146 5 ha hm hi]) (Hr:=[]) Jq Aa (Abq _) (CT ha hm hi 34 ga g3) Aa ?_))));rintro _ _ ⟨gc,rfl,rfl⟩;refine bd gb λgg gd ge=>?_;rw[← gd];refine Am ?_;obtain rfl:=A5 ge;exact Hj (UH Tryz.results143) (sC sN) ⟨gc,Aa,Aa⟩
theorem U5 (F:Nat)(hl:Al→(List Ac)→Bool→Al→Ac→Option (Bool×Bool×Al))(hm:(List Ac)→Bool→Al→Ac→Option (Bool×Al))(g6:(∀(hd:Nat) (he:Nat) (ha:Nat) (hb:Value) (hf:Nat) (key:Al) (x:(List Ac)) (first:Bool) (l:Al) (c:Ac) (r:Bool×Bool×Al),hl key x first l c=some r→Fn Tryz.prog GE 146 [rS key,AY 4 (A4 Ab x),rP hd 0,rP he 0,rP hf 0] [.blk hd [rB first] 4,.blk he [rP ha 0] 143,.bld 146 5 ha hb l,.blk hf (Ab c) 83] (λR H=>∃w3b:Value,R=rB r.1∧H=[.blk hd [rB r.2.1] 4,.blk he [rP ha 0] 143,.bld 146 5 ha w3b r.2.2,.blk hf (Ab c) 83])))(hn:(∀(hd:Nat) (he:Nat) (ha:Nat) (hb:Value) (hf:Nat) (v:(List Ac)) (first:Bool) (l:Al) (c:Ac) (r:Bool×Al),hm v first l c=some r→Fn Tryz.prog GE 145 [AY 4 (A4 Ab v),rv (.func (.func 146) #[] #[(.pointer (some ⟨hd,0,none⟩)),(.pointer (some ⟨he,0,none⟩)),(.pointer (some ⟨hf,0,none⟩))])] [.blk hd [rB first] 4,.blk he [rP ha 0] 143,.bld 146 5 ha hb l,.blk hf (Ab c) 83] (λR H=>∃w1_1b:Value,R=rv (.tuple #[])∧H=[.blk hd [rB r.1] 4,.blk he [rP ha 0] 143,.bld 146 5 ha w1_1b r.2,.blk hf (Ab c) 83])))(ha:Nat)(hb:Value)(l:Al)(v:(List Ac))(r:Al)(h:Kh F hl hm l v=some r):Fn Tryz.prog GE 110 [rP ha 0,AY 4 (A4 Ab v)] [.bld 146 5 ha hb l] (λR H=>∃w0b:Value,R=rv (.tuple #[])∧H=[.bld 146 5 ha w0b r]):=by
 refine enter (n:=52) Tryz.func110 Aa Tryz.ntmps110 Aa (λw Z=>?_);unfold Kh at h;refine Ak (VZ Aa (BD Aa) Aa (λb1=>?_));refine Bs (wm Aa (ck h λg2 h3=>wv (By (enc:=Ab) (ys:=v) Co CC Aa Aa g2) (wv (Di NF CC Aa Aa Aa) (Cc (cs:=[At 0,At 0,rS ([]:Al),At 0]) Lc Aa Aa (λb4=>?_)))));refine Br (i:=0) CC Aa Aa Aa (Cq.c Aa) Aa Aa (cs':=[At ((Ap v 0).fKind),At ((Ap v 0).fInt),rS ((Ap v 0).fStr),At ((Ap v 0).fN)]) Aa (H':=[.blk b4 (Ab (Ap v 0)) 83,.blk b1 [rP ha 0] 143,.bld 146 5 ha hb l]) Aa (Bs (vF B9 Aa DC (vL 0 DD Aa (Av (AJ (Ak (wv (B5 Aa Aa) (wa Aa (Av (cz h3 Aa (λc5 h6=>?_) (λc5 hr=>?_)))))))))))
 ·refine Ai (vL 1 EK Aa (ck h6 λg7 h8=>Cm (rs:=[rP ha 0,rS ([110,117,108,108]:Al)]) (Hin:=[.bld 146 5 ha hb l]) (Hr:=[.blk b4 (Ab (Ap v 0)) 83,.blk b1 [rP ha 0] 143]) Tryz.call142 Aa ((As (i:=2) Aa).trans (Abp _ (Abq _))) (HW ha hb l ([110,117,108,108]:Al) g7) Aa ?_));rintro _ _ ⟨v9,rfl,rfl⟩;refine bd h8 λg8 hs ht=>?_;rw[← hs];refine Am (AG ?_);obtain rfl:=A5 ht;exact Hj (UH Po) (sC (sS (sS sN))) ⟨v9,Aa,Aa⟩
 ·refine Ak (wv (B5 Aa Aa) (wa Aa (Av (cz hr Aa (λhu hw=>?_) (λhu hx=>?_)))))
  ·refine ck hw λg16 hy=>Ke (H1:=[.blk b4 (Ab (Ap v 0)) 83,.blk b1 [rP ha 0] 143,.bld 146 5 ha hb l]) 6 [2,4] [⟨[],rP ha 0,1⟩,⟨[],AY 1 (A4 eS ([([102,97,108,115,101]:Al),([116,114,117,101]:Al)]:List Al)),0⟩,⟨[],rP b4 1,0⟩,⟨[2],At ((Ap v 0).fInt),1⟩,⟨[1,3],SW [rS (Ap ([([102,97,108,115,101]:Al),([116,114,117,101]:Al)]:List Al) ((Ap v 0).fInt))],0⟩,⟨[4],rS (Ap ([([102,97,108,115,101]:Al),([116,114,117,101]:Al)]:List Al) ((Ap v 0).fInt)),0⟩] (rle [(7,_)]) [32,33,34,35,36,37,2,4] ?_ ?_
   ·refine of (AT (i:=1) EK Aa Aa Aa) (Hu Aa (λH=>Ck (ys:=([([102,97,108,115,101]:Al),([116,114,117,101]:Al)]:List Al)) (enc:=eS) (css:=[[rS ([102,97,108,115,101]:Al)],[rS ([116,114,117,101]:Al)]]) (xs:=[.const (.string ⟨#[102,97,108,115,101]⟩),.const (.string ⟨#[116,114,117,101]⟩)]) Cn Cv PW Aa Aa Aa ⟨D1.one Aa (Up.refl _),D1.one Aa (Up.refl _),trivial⟩ Aa CY Aa Aa) ?_);refine oq (A9 B9 Aa C6 Aa Aa) (of (AT (i:=0) CM Aa Aa Aa) (oq (By (enc:=eS) (ys:=([([102,97,108,115,101]:Al),([116,114,117,101]:Al)]:List Al)) Cn Cv Aa Aa g16) (oq (Bg CD Aa Aa) ?_)));exact CN
   refine ck hy λg18 hz=>Cm (rs:=[rP ha 0,rS (Ap ([([102,97,108,115,101]:Al),([116,114,117,101]:Al)]:List Al) ((Ap v 0).fInt))]) (Hin:=[.bld 146 5 ha hb l]) (Hr:=[.blk b4 (Ab (Ap v 0)) 83,.blk b1 [rP ha 0] 143]) Tryz.call142 Aa ((As (i:=2) Aa).trans (Abp _ (Abq _))) (HW ha hb l (Ap ([([102,97,108,115,101]:Al),([116,114,117,101]:Al)]:List Al) ((Ap v 0).fInt)) g18) Aa ?_;rintro _ _ ⟨v20,rfl,rfl⟩;refine bd hz λg9 h0 h1=>?_;rw[← h0];refine Am (AG ?_);obtain rfl:=A5 h1;exact Hj (UH Po) (sC (sS (sS sN))) ⟨v20,Aa,Aa⟩
  ·refine Ak (wv (B5 Aa Aa) (wa Aa (Av (cz hx Aa (λh2 h4=>?_) (λh2 h5=>?_)))))
   ·refine ck h4 λh7 h9=>Ke (H1:=[.blk b4 (Ab (Ap v 0)) 83,.blk b1 [rP ha 0] 143,.bld 146 5 ha hb l]) 4 [2,4] [⟨[],rP ha 0,1⟩,⟨[],rP b4 1,0⟩,⟨[1],At ((Ap v 0).fInt),1⟩,⟨[2],rS (Lib.itoa ((Ap v 0).fInt)),0⟩] (rle [(5,_)]) [41,42,43,44,2,4] ?_ ?_
    ·refine of (AT (i:=1) EK Aa Aa Aa) (oq (A9 B9 Aa C6 Aa Aa) (of (AT (i:=0) CM Aa Aa Aa) (Hu Aa (λH=>Dw (rs:=[At ((Ap v 0).fInt)]) (r:=rS (Lib.itoa ((Ap v 0).fInt))) NE Aa (E6 ((Ap v 0).fInt) h7) Aa) ?_)));exact CN
    refine ck h9 λhA hB=>Cm (rs:=[rP ha 0,rS (Lib.itoa ((Ap v 0).fInt))]) (Hin:=[.bld 146 5 ha hb l]) (Hr:=[.blk b4 (Ab (Ap v 0)) 83,.blk b1 [rP ha 0] 143]) Tryz.call142 Aa ((As (i:=2) Aa).trans (Abp _ (Abq _))) (HW ha hb l (Lib.itoa ((Ap v 0).fInt)) hA) Aa ?_;rintro _ _ ⟨v31,rfl,rfl⟩;refine bd hB λgA hC hD=>?_;rw[← hC];refine Am (AG ?_);obtain rfl:=A5 hD;exact Hj (UH Po) (sC (sS (sS sN))) ⟨v31,Aa,Aa⟩
   ·refine Ak (wv (B5 Aa Aa) (wa Aa (Av (cz h5 Aa (λhE hG=>?_) (λhE hH=>?_)))))
    ·refine Ai (vL 1 EK Aa (vF B9 Aa Cv (vL 0 CD Aa (ob hG λhI hJ hK=>DX (Hr:=[.blk b4 (Ab (Ap v 0)) 83,.blk b1 [rP ha 0] 143]) Tryz.call143 (NS F ha hb l ((Ap v 0).fStr) hI hJ) Aa ((As (i:=2) Aa).trans (Abp _ (Abq _))) Aa ?_))));rintro _ _ ⟨hL,rfl,rfl⟩;refine Am (AG ?_);obtain rfl:=A5 hK;exact Hj (UH Po) (sC (sS (sS sN))) ⟨hL,Aa,Aa⟩
    ·refine Ak (wv (r:=rS ([91,93]:Al)) (Az Aa) (Av (An (Ak (vF B9 Aa DC (vL 0 DD Aa (wv (B5 Aa Aa) (Av (cz hH Aa (λhN hO=>?_) (λhN hP=>?_))))))))))
     ·refine Ai (wv (r:=rS ([123,125]:Al)) (Az Aa) (Av (An (ck hO λhQ hR=>Ke (H1:=[.blk b4 (Ab (Ap v 0)) 83,.blk b1 [rP ha 0] 143,.bld 146 5 ha hb l]) 3 [1,2,4,5] [⟨[],rP ha 0,1⟩,⟨[],rS ([123,125]:Al),0⟩,⟨[1],rI .u8 (B1 ([123,125]:Al) 0),0⟩] (rle [(4,_)]) [15,16,17,1,2,4,5] ?_ ?_))))
      ·refine of (AT (i:=1) EK Aa Aa Aa) (oq (Aq Aa) (oq (Bw Cu Aa Aa hQ) ?_));exact CN
      refine ck hR λhS hT=>ck hT λhU hV=>Cm (rs:=[rP ha 0,rI .u8 (B1 ([123,125]:Al) 0)]) (Hin:=[.bld 146 5 ha hb l]) (Hr:=[.blk b4 (Ab (Ap v 0)) 83,.blk b1 [rP ha 0] 143]) Jq Aa ((As (i:=2) Aa).trans (Abp _ (Abq _))) (CT ha hb l (B1 ([123,125]:Al) 0) hS hU) Aa ?_;rintro _ _ ⟨v51,rfl,rfl⟩;refine bd hV λho hW hX=>?_;rw[← hW];refine Bs (Cc (cs:=[rB false]) Tryz.zeroValue4 Aa Aa (λhi=>?_));refine BA (i:=0) I9 Aa Aa (BD Aa) Aa Aa (cs':=[rB true]) Aa (H':=[.blk hi [rB true] 4,.bld 146 5 ha v51 ho,.blk b4 (Ab (Ap v 0)) 83,.blk b1 [rP ha 0] 143]) Aa (Bs (wm Aa (wv (r:=rv (.func (.func 146) #[] #[(.pointer (some ⟨hi,0,none⟩)),(.pointer (some ⟨b1,0,none⟩)),(.pointer (some ⟨b4,0,none⟩))])) (Lk Aa) (ob hX λhg hY hZ=>DX (Hr:=[]) Tryz.call145 (hn hi b1 ha v51 b4 v true ho (Ap v 0) hg hY) Aa ((As (i:=0) Aa).trans (Abp _ ((As (i:=2) Aa).trans (Abp _ (Abq _))))) Aa ?_))));rintro _ _ ⟨hk,rfl,rfl⟩;refine Av (ck hZ λga gb=>Ke (H1:=[.blk hi [rB hg.1] 4,.blk b1 [rP ha 0] 143,.bld 146 5 ha hk hg.2,.blk b4 (Ab (Ap v 0)) 83]) 3 [2,5] [⟨[],rP ha 0,1⟩,⟨[],rS ([123,125]:Al),0⟩,⟨[1],rI .u8 (B1 ([123,125]:Al) 1),0⟩] (rle [(4,_)]) [22,23,24,2,5] ?_ ?_)
      ·refine of (AT (i:=1) EK Aa Aa Aa) (oq (Aq Aa) (oq (Bw Cu Aa Aa ga) ?_));exact CN
      refine ck gb λgc gd=>ck gd λge gf=>Cm (rs:=[rP ha 0,rI .u8 (B1 ([123,125]:Al) 1)]) (Hin:=[.bld 146 5 ha hk hg.2]) (Hr:=[.blk hi [rB hg.1] 4,.blk b1 [rP ha 0] 143,.blk b4 (Ab (Ap v 0)) 83]) Jq Aa ((As (i:=2) Aa).trans (Abp _ (Abq _))) (CT ha hk hg.2 (B1 ([123,125]:Al) 1) gc ge) Aa ?_;rintro _ _ ⟨gg,rfl,rfl⟩;refine bd gf λgB gh gi=>?_;rw[← gh];refine Am (AG ?_);obtain rfl:=A5 gi;exact Hj (UH Po) (sC (sS (sS (sS sN)))) ⟨gg,Aa,Aa⟩
     ·refine Ay (AP (An (ck hP λgj gl=>Ke (H1:=[.blk b4 (Ab (Ap v 0)) 83,.blk b1 [rP ha 0] 143,.bld 146 5 ha hb l]) 3 [1,2,4,5] [⟨[],rP ha 0,1⟩,⟨[],rS ([91,93]:Al),0⟩,⟨[1],rI .u8 (B1 ([91,93]:Al) 0),0⟩] (rle [(4,_)]) [15,16,17,1,2,4,5] ?_ ?_)))
      ·refine of (AT (i:=1) EK Aa Aa Aa) (oq (Aq Aa) (oq (Bw Cu Aa Aa gj) ?_));exact CN
      refine ck gl λgm gp=>ck gp λgq gr=>Cm (rs:=[rP ha 0,rI .u8 (B1 ([91,93]:Al) 0)]) (Hin:=[.bld 146 5 ha hb l]) (Hr:=[.blk b4 (Ab (Ap v 0)) 83,.blk b1 [rP ha 0] 143]) Jq Aa ((As (i:=2) Aa).trans (Abp _ (Abq _))) (CT ha hb l (B1 ([91,93]:Al) 0) gm gq) Aa ?_;rintro _ _ ⟨hp,rfl,rfl⟩;refine bd gr λhq gs gt=>?_;rw[← gs];refine Bs (Cc (cs:=[rB false]) Tryz.zeroValue4 Aa Aa (λhj=>?_));refine BA (i:=0) I9 Aa Aa (BD Aa) Aa Aa (cs':=[rB true]) Aa (H':=[.blk hj [rB true] 4,.bld 146 5 ha hp hq,.blk b4 (Ab (Ap v 0)) 83,.blk b1 [rP ha 0] 143]) Aa (Bs (wm Aa (wv (r:=rv (.func (.func 146) #[] #[(.pointer (some ⟨hj,0,none⟩)),(.pointer (some ⟨b1,0,none⟩)),(.pointer (some ⟨b4,0,none⟩))])) (Lk Aa) (ob gt λhh gu gv=>DX (Hr:=[]) Tryz.call145 (hn hj b1 ha hp b4 v true hq (Ap v 0) hh gu) Aa ((As (i:=0) Aa).trans (Abp _ ((As (i:=2) Aa).trans (Abp _ (Abq _))))) Aa ?_))));rintro _ _ ⟨v85,rfl,rfl⟩;refine Av (ck gv λgw gx=>Ke (H1:=[.blk hj [rB hh.1] 4,.blk b1 [rP ha 0] 143,.bld 146 5 ha v85 hh.2,.blk b4 (Ab (Ap v 0)) 83]) 3 [2,5] [⟨[],rP ha 0,1⟩,⟨[],rS ([91,93]:Al),0⟩,⟨[1],rI .u8 (B1 ([91,93]:Al) 1),0⟩] (rle [(4,_)]) [22,23,24,2,5] ?_ ?_)
      ·refine of (AT (i:=1) EK Aa Aa Aa) (oq (Aq Aa) (oq (Bw Cu Aa Aa gw) ?_));exact CN
      refine ck gx λgy gz=>ck gz λg0 g1=>Cm (rs:=[rP ha 0,rI .u8 (B1 ([91,93]:Al) 1)]) (Hin:=[.bld 146 5 ha v85 hh.2]) (Hr:=[.blk hj [rB hh.1] 4,.blk b1 [rP ha 0] 143,.blk b4 (Ab (Ap v 0)) 83]) Jq Aa ((As (i:=2) Aa).trans (Abp _ (Abq _))) (CT ha v85 hh.2 (B1 ([91,93]:Al) 1) gy g0) Aa ?_;rintro _ _ ⟨g3,rfl,rfl⟩;refine bd g1 λgC g4 g5=>?_;rw[← g4];refine Am (AG ?_);obtain rfl:=A5 g5;exact Hj (UH Po) (sC (sS (sS (sS sN)))) ⟨g3,Aa,Aa⟩
theorem SI (F:Nat)(hj:Al→(List Ac)→Option (Al))(hg:(∀(ha:Nat) (hf:Value) (l:Al) (v:(List Ac)) (r:Al),hj l v=some r→Fn Tryz.prog GE 110 [rP ha 0,AY 4 (A4 Ab v)] [.bld 146 5 ha hf l] (λR H=>∃w0b:Value,R=rv (.tuple #[])∧H=[.bld 146 5 ha w0b r])))(hb:Nat)(hd:Nat)(ha:Nat)(hf:Value)(he:Nat)(key:Al)(x:(List Ac))(first:Bool)(l:Al)(c:Ac)(r:Bool×Bool×Al)(h:Lw F hj key x first l c=some r):Fn Tryz.prog GE 146 [rS key,AY 4 (A4 Ab x),rP hb 0,rP hd 0,rP he 0] [.blk hb [rB first] 4,.blk hd [rP ha 0] 143,.bld 146 5 ha hf l,.blk he (Ab c) 83] (λR H=>∃w3b:Value,R=rB r.1∧H=[.blk hb [rB r.2.1] 4,.blk hd [rP ha 0] 143,.bld 146 5 ha w3b r.2.2,.blk he (Ab c) 83]):=by
 refine enter (n:=23) Tryz.func146 Aa Tryz.ntmps146 Aa (λw Z=>?_);unfold Lw at h;refine Ak (wa Aa (Av (An (Ak (vL 0 U4 Aa (wv (BE Aa) (Av (cz h Aa (λc1 h2=>?_) (λc1 hu=>?_)))))))))
 ·refine Ai (vL 1 EK Aa (ck h2 λg3 h4=>ck h4 λg5 h6=>Cm (rs:=[rP ha 0,rI .u8 44]) (Hin:=[.bld 146 5 ha hf l]) (Hr:=[.blk hb [rB first] 4,.blk hd [rP ha 0] 143,.blk he (Ab c) 83]) Jq Aa ((As (i:=2) Aa).trans (Abp _ (Abq _))) (CT ha hf l 44 g3 g5) Aa ?_));rintro _ _ ⟨v7,rfl,rfl⟩;refine bd h6 λr8 hw h9=>?_;rw[← hw];refine Bs (BA (i:=1) I9 Aa Aa (BD Aa) Aa Aa (cs':=[rB false]) Aa (H':=[.bld 146 5 ha v7 r8,.blk hb [rB false] 4,.blk hd [rP ha 0] 143,.blk he (Ab c) 83]) Aa (Av (An (Ak (vF B9 Aa DC (vL 3 DD Aa (wv (B5 Aa Aa) (Av (cz h9 Aa (λhx hy=>?_) (λhx hz=>?_))))))))))
  ·refine Ak (vL 2 EK Aa (wm Aa (ob hy λhh h0 h1=>DX (Hr:=[.blk hb [rB false] 4,.blk hd [rP ha 0] 143,.blk he (Ab c) 83]) Tryz.call143 (NS F ha v7 r8 key hh h0) Aa (Abq _) Aa ?_)));rintro _ _ ⟨hk,rfl,rfl⟩;refine Av (Ai (vL 2 EK Aa (ck h1 λg17 h3=>ck h3 λg19 h5=>Cm (rs:=[rP ha 0,rI .u8 58]) (Hin:=[.bld 146 5 ha hk hh]) (Hr:=[.blk hb [rB false] 4,.blk hd [rP ha 0] 143,.blk he (Ab c) 83]) Jq Aa (Abq _) (CT ha hk hh 58 g17 g19) Aa ?_)));rintro _ _ ⟨v21,rfl,rfl⟩;refine bd h5 λh7 h8 hA=>?_;rw[← h8];refine Bs (vL 2 EK Aa (wm Aa (ob hA λhl hB hC=>DX (Hr:=[.blk hb [rB false] 4,.blk hd [rP ha 0] 143,.blk he (Ab c) 83]) Rk (hg ha v21 h7 x hl hB) Aa (Abq _) Aa ?_)));rintro _ _ ⟨hm,rfl,rfl⟩;refine Bs (wa Aa (Av (A1 (BU (H2:=[.blk hb [rB false] 4,.blk hd [rP ha 0] 143,.bld 146 5 ha hm hl,.blk he (Ab c) 83]) ((As (i:=1) Aa).trans (Abp _ ((As (i:=1) Aa).trans (Abp _ (Abq _))))) ?_))));obtain rfl:=A5 hC;exact A0 (BJ T2 (AM Aa)) (sC (sC (sC (sC sN)))) ⟨hm,Aa,Aa⟩
  ·refine Ay (AP (Ak (vL 2 EK Aa (wm Aa (ob hz λhn hD hE=>DX (Hr:=[.blk hb [rB false] 4,.blk hd [rP ha 0] 143,.blk he (Ab c) 83]) Rk (hg ha v7 r8 x hn hD) Aa (Abq _) Aa ?_)))));rintro _ _ ⟨ho,rfl,rfl⟩;refine Bs (wa Aa (Av (A1 (BU (H2:=[.blk hb [rB false] 4,.blk hd [rP ha 0] 143,.bld 146 5 ha ho hn,.blk he (Ab c) 83]) ((As (i:=1) Aa).trans (Abp _ ((As (i:=1) Aa).trans (Abp _ (Abq _))))) ?_))));obtain rfl:=A5 hE;exact A0 (BJ T2 (AM Aa)) (sC (sC (sC (sC sN)))) ⟨ho,Aa,Aa⟩
 ·refine Ay (AP (Ak (BA (i:=0) I9 Aa Aa (BD Aa) Aa Aa (cs':=[rB false]) Aa (H':=[.blk hb [rB false] 4,.blk hd [rP ha 0] 143,.bld 146 5 ha hf l,.blk he (Ab c) 83]) Aa (Av (An (Ak (vF B9 Aa DC (vL 3 DD Aa (wv (B5 Aa Aa) (Av (cz hu Aa (λhG hH=>?_) (λhG hI=>?_))))))))))))
  ·refine Ak (vL 1 EK Aa (wm Aa (ob hH λhi hJ hK=>DX (Hr:=[.blk hb [rB false] 4,.blk hd [rP ha 0] 143,.blk he (Ab c) 83]) Tryz.call143 (NS F ha hf l key hi hJ) Aa ((As (i:=2) Aa).trans (Abp _ (Abq _))) Aa ?_)));rintro _ _ ⟨hp,rfl,rfl⟩;refine Av (Ai (vL 2 EK Aa (ck hK λhL hN=>ck hN λhO hP=>Cm (rs:=[rP ha 0,rI .u8 58]) (Hin:=[.bld 146 5 ha hp hi]) (Hr:=[.blk hb [rB false] 4,.blk hd [rP ha 0] 143,.blk he (Ab c) 83]) Jq Aa (Abq _) (CT ha hp hi 58 hL hO) Aa ?_)));rintro _ _ ⟨hQ,rfl,rfl⟩;refine bd hP λhR hS hT=>?_;rw[← hS];refine Bs (vL 2 EK Aa (wm Aa (ob hT λhq hU hV=>DX (Hr:=[.blk hb [rB false] 4,.blk hd [rP ha 0] 143,.blk he (Ab c) 83]) Rk (hg ha hQ hR x hq hU) Aa (Abq _) Aa ?_)));rintro _ _ ⟨hr,rfl,rfl⟩;refine Bs (wa Aa (Av (A1 (BU (H2:=[.blk hb [rB false] 4,.blk hd [rP ha 0] 143,.bld 146 5 ha hr hq,.blk he (Ab c) 83]) ((As (i:=1) Aa).trans (Abp _ ((As (i:=1) Aa).trans (Abp _ (Abq _))))) ?_))));obtain rfl:=A5 hV;exact A0 (BJ T2 (AM Aa)) (sC (sC (sC (sC sN)))) ⟨hr,Aa,Aa⟩
  ·refine Ay (AP (Ak (vL 1 EK Aa (wm Aa (ob hI λhs hW hX=>DX (Hr:=[.blk hb [rB false] 4,.blk hd [rP ha 0] 143,.blk he (Ab c) 83]) Rk (hg ha hf l x hs hW) Aa ((As (i:=2) Aa).trans (Abp _ (Abq _))) Aa ?_)))));rintro _ _ ⟨ht,rfl,rfl⟩;refine Bs (wa Aa (Av (A1 (BU (H2:=[.blk hb [rB false] 4,.blk hd [rP ha 0] 143,.bld 146 5 ha ht hs,.blk he (Ab c) 83]) ((As (i:=1) Aa).trans (Abp _ ((As (i:=1) Aa).trans (Abp _ (Abq _))))) ?_))));obtain rfl:=A5 hX;exact A0 (BJ T2 (AM Aa)) (sC (sC (sC (sC sN)))) ⟨ht,Aa,Aa⟩
theorem SH (F:Nat)(hm:Al→(List Ac)→Bool→Al→Ac→Option (Bool×Bool×Al))(hx:(∀(hd:Nat) (he:Nat) (hb:Nat) (hn:Value) (hf:Nat) (key:Al) (x:(List Ac)) (first:Bool) (l:Al) (c:Ac) (r:Bool×Bool×Al),hm key x first l c=some r→Fn Tryz.prog GE 146 [rS key,AY 4 (A4 Ab x),rP hd 0,rP he 0,rP hf 0] [.blk hd [rB first] 4,.blk he [rP hb 0] 143,.bld 146 5 hb hn l,.blk hf (Ab c) 83] (λR H=>∃w3b:Value,R=rB r.1∧H=[.blk hd [rB r.2.1] 4,.blk he [rP hb 0] 143,.bld 146 5 hb w3b r.2.2,.blk hf (Ab c) 83])))(hd:Nat)(he:Nat)(hb:Nat)(hn:Value)(hf:Nat)(v:(List Ac))(first:Bool)(l:Al)(c:Ac)(r:Bool×Al)(h:Ih F hm v first l c=some r):Fn Tryz.prog GE 145 [AY 4 (A4 Ab v),rv (.func (.func 146) #[] #[(.pointer (some ⟨hd,0,none⟩)),(.pointer (some ⟨he,0,none⟩)),(.pointer (some ⟨hf,0,none⟩))])] [.blk hd [rB first] 4,.blk he [rP hb 0] 143,.bld 146 5 hb hn l,.blk hf (Ab c) 83] (λR H=>∃w1_1b:Value,R=rv (.tuple #[])∧H=[.blk hd [rB r.1] 4,.blk he [rP hb 0] 143,.bld 146 5 hb w1_1b r.2,.blk hf (Ab c) 83]):=by
 refine enter (n:=52) Tryz.func145 Aa Tryz.ntmps145 Aa (λw Z=>?_);unfold Ih at h;refine Ak (wa Aa (Bs (wm Aa (ck h λg1 h2=>wv (By (enc:=Ab) (ys:=v) Co CC Aa Aa g1) (wv (Bi B9 Aa C6 Aa Aa) (wv (Bg CM Aa Aa) (wv (r:=At 0) (Aq Aa) (Av (AJ (ob h2 λh6 h7 hr=>Bu (S:=Nat×(Int×Int×Bool×Al)×(Value)) (V:=(Bool×Al)×(Value)) 0 (λσ=>Ci (λσ=>DP F v c hm σ.1 σ.2.1 σ.2.2.1 σ.2.2.2) σ.1 σ.2.1=some h6) (λσ=>[(0,AY 4 (A4 Ab v)),(1,rv (.func (.func 146) #[] #[(.pointer (some ⟨hd,0,none⟩)),(.pointer (some ⟨he,0,none⟩)),(.pointer (some ⟨hf,0,none⟩))])),(4,At σ.2.1.1),(12,At ((Ap v 0).fN)),(13,At σ.2.1.2.1)]) (λσ=>[.blk hd [rB σ.2.1.2.2.1] 4,.blk he [rP hb 0] 143,.bld 146 5 hb σ.2.2 σ.2.1.2.2.2,.blk hf (Ab c) 83]) (λσ=>σ.1) (F,(1,0,first,l),hn) h7 (AL.c5 Aa Aa Aa Aa Aa AL.nil) (sC (sC (sC (sC sN)))) (λσ=>Hm σ.1.1 σ.1.2=some r) (λσ=>[]) (λσ=>[.blk hd [rB σ.1.1] 4,.blk he [rP hb 0] 143,.bld 146 5 hb σ.2 σ.1.2,.blk hf (Ab c) 83]) ?_ ?_))))))))))
 ·rintro⟨gz,⟨ha,ho,hi,hj⟩,hk⟩ h8;refine BW (l':=[(0,AY 4 (A4 Ab v)),(1,rv (.func (.func 146) #[] #[(.pointer (some ⟨hd,0,none⟩)),(.pointer (some ⟨he,0,none⟩)),(.pointer (some ⟨hf,0,none⟩))])),(4,At ha),(12,At ((Ap v 0).fN)),(13,At ho)]) (H':=[.blk hd [rB hi] 4,.blk he [rP hb 0] 143,.bld 146 5 hb hk hj,.blk hf (Ab c) 83]) Aa Aa ?_;obtain⟨hy,rfl,h9,hp,hl⟩:=C4 h8;replace hp:DP F v c hm ha ho hi hj=some h9:=hp;unfold DP at hp;refine Ak (wv (C0 Aa Aa) (Av (An (cz hp Aa (λc175 hA=>?_) (λc175 hB=>?_)))))
  ·refine Ay (AP (An (AJ (Ak (wv (r:=rS ([]:Al)) (Az Aa) (Av (An (Ak (wm Aa (wv (By (enc:=Ab) (ys:=v) Co CC Aa Aa g1) (wv (Bi B9 Aa DC Aa Aa) (wv (Bg DD Aa Aa) (wv (B5 Aa Aa) (Av (cz hA Aa (λhC hD=>?_) (λhC hE=>?_))))))))))))))))
   ·refine Ak (wm Aa (wm Aa (ck hD λhG hH=>wv (By (enc:=Ab) (ys:=v) Co CC Aa Aa hG) (wv (Bi B9 Aa Cv Aa Aa) (wv (Bg CD Aa Aa) (wa Aa (Av (Ai (wm Aa (ck hH λhI hJ=>wv (Bz Aa Aa hI) (wa Aa (Bs (wm Aa (wm Aa (ck hJ λhK hL=>wv (r:=AY 4 (A4 Ab (List.drop (B4 (ha+1)) v))) (Ot Co CC Aa Aa hK) (ob hL λhg hN hO=>CG Tryz.call89 (Qd F (List.drop (B4 (ha+1)) v) hg hN) Aa (wm Aa (wv (AA Aa Aa) (wv (AA Aa Aa) ?_)))))))))))))))))));refine wv (AA Aa Aa) (Cc (cs:=[At 0,At 0,rB false,rB false]) Re Aa Aa (λhz=>?_));refine wa Aa (Br (i:=0) Gl Aa Aa Aa (Cq.c Aa) Aa Aa (cs':=[At hg.2.1.fDepth,At hg.2.1.fBytes,rB hg.2.1.fOutside,rB hg.2.1.fLong]) Aa (H':=[.blk hz (Bd hg.2.1) 124,.blk hd [rB hi] 4,.blk he [rP hb 0] 143,.bld 146 5 hb hk hj,.blk hf (Ab c) 83]) Aa (wa Aa (Av (An (Ak (wm Aa (wm Aa (wm Aa (wm Aa (wm Aa (wm Aa (ck hO λhs hP=>wv (Bz Aa Aa hs) (wm Aa (wm Aa (wv (Bz Aa Aa hs) (ck hP λhQ hR=>ck hR λhS hT=>wv (r:=AY 4 (A4 Ab (List.take (B4 ((ha+1)+hg.1)-B4 (ha+1)) (List.drop (B4 (ha+1)) v)))) (Or Co CC Aa Aa Aa Aa hQ hS) (ob hT λht hU hV=>Qc (rs:=[rS ((Ap v ha).fStr),AY 4 (A4 Ab (List.take (B4 ((ha+1)+hg.1)-B4 (ha+1)) (List.drop (B4 (ha+1)) v)))]) (Hin:=[.blk hd [rB hi] 4,.blk he [rP hb 0] 143,.bld 146 5 hb hk hj,.blk hf (Ab c) 83]) (Hr:=[.blk hz (Bd hg.2.1) 124]) Tryz.call146 Aa Aa ((As (i:=1) Aa).trans (Abp _ ((As (i:=1) Aa).trans (Abp _ ((As (i:=1) Aa).trans (Abp _ ((As (i:=1) Aa).trans (Abp _ (Abq _))))))))) (hx hd he hb hk hf ((Ap v ha).fStr) (List.take (B4 ((ha+1)+hg.1)-B4 (ha+1)) (List.drop (B4 (ha+1)) v)) hi hj c ht hU) Aa ?_)))))))))))))))));rintro _ _ ⟨h0,rfl,rfl⟩;refine wv (BE Aa) (Av (cz hV Aa (λhW hX=>?_) (λhW hY=>?_)))
    ·refine A1 (Ae (AC (Ae (Ae (Bj ?_)))));have hZ:=BB hX hl hr;refine AC ?_;obtain rfl:=A5 hZ;exact A0 (UH Tryz.results145) (sC (sC (sC (sC (sS sN))))) ⟨h0,Aa,Aa⟩
    ·refine Ay (AP (Ai (wm Aa (wm Aa (wv (Bz Aa Aa hs) (wa Aa (Am (AG (AP (Ai (ck hY λga gb=>wv (Bz Aa Aa ga) (wm Aa (Am ?_)))))))))))));have gc:=Bk gb hl;exact Aw (AI (hy,((ha+1)+hg.1,ho+1,ht.2.1,ht.2.2),h0) ⟨gc,Aby _⟩ (AL.c5 Aa Aa Aa Aa Aa AL.nil) (sC (sC (sC (sC (sS sN))))))
   ·refine Ay (AP (Ak (wm Aa (wm Aa (ck hE λgd ge=>wv (r:=AY 4 (A4 Ab (List.drop (B4 ha) v))) (Ot Co CC Aa Aa gd) (ob ge λhh gf gg=>CG Tryz.call89 (Qd F (List.drop (B4 ha) v) hh gf) Aa (wm Aa (wv (AA Aa Aa) (wv (AA Aa Aa) (wv (AA Aa Aa) (Cc (cs:=[At 0,At 0,rB false,rB false]) Re Aa Aa (λh1=>?_))))))))))));refine wa Aa (Br (i:=0) Gl Aa Aa Aa (Cq.c Aa) Aa Aa (cs':=[At hh.2.1.fDepth,At hh.2.1.fBytes,rB hh.2.1.fOutside,rB hh.2.1.fLong]) Aa (H':=[.blk h1 (Bd hh.2.1) 124,.blk hd [rB hi] 4,.blk he [rP hb 0] 143,.bld 146 5 hb hk hj,.blk hf (Ab c) 83]) Aa (wa Aa (Av (An (Ak (wm Aa (wm Aa (wm Aa (wm Aa (wm Aa (wm Aa (ck gg λhu gh=>wv (Bz Aa Aa hu) (wm Aa (wm Aa (wv (Bz Aa Aa hu) (ck gh λgi gj=>ck gj λgl gm=>wv (r:=AY 4 (A4 Ab (List.take (B4 (ha+hh.1)-B4 ha) (List.drop (B4 ha) v)))) (Or Co CC Aa Aa Aa Aa gi gl) (ob gm λhw gp gq=>Qc (rs:=[rS ([]:Al),AY 4 (A4 Ab (List.take (B4 (ha+hh.1)-B4 ha) (List.drop (B4 ha) v)))]) (Hin:=[.blk hd [rB hi] 4,.blk he [rP hb 0] 143,.bld 146 5 hb hk hj,.blk hf (Ab c) 83]) (Hr:=[.blk h1 (Bd hh.2.1) 124]) Tryz.call146 Aa Aa ((As (i:=1) Aa).trans (Abp _ ((As (i:=1) Aa).trans (Abp _ ((As (i:=1) Aa).trans (Abp _ ((As (i:=1) Aa).trans (Abp _ (Abq _))))))))) (hx hd he hb hk hf ([]:Al) (List.take (B4 (ha+hh.1)-B4 ha) (List.drop (B4 ha) v)) hi hj c hw gp) Aa ?_)))))))))))))))));rintro _ _ ⟨v222,rfl,rfl⟩;refine wv (BE Aa) (Av (cz gq Aa (λgr gs=>?_) (λgr gt=>?_)))
    ·refine A1 (Ae (AC (Ae (Ae (Bj ?_)))));have gu:=BB gs hl hr;refine AC ?_;obtain rfl:=A5 gu;exact A0 (UH Tryz.results145) (sC (sC (sC (sC (sS sN))))) ⟨v222,Aa,Aa⟩
    ·refine Ay (AP (Ai (wm Aa (wm Aa (wv (Bz Aa Aa hu) (wa Aa (Am (AG (AP (Ai (ck gt λgv gw=>wv (Bz Aa Aa gv) (wm Aa (Am ?_)))))))))))));have gx:=Bk gw hl;exact Aw (AI (hy,(ha+hh.1,ho+1,hw.2.1,hw.2.2),v222) ⟨gx,Aby _⟩ (AL.c5 Aa Aa Aa Aa Aa AL.nil) (sC (sC (sC (sC (sS sN))))))
  ·refine Bx (A6 ?_);have gy:=BX hB hl hr;exact A6 (Be (AI ((hi,hj),hk) gy AL.nil (sC (sC (sC (sC sN))))))
 ·rintro⟨⟨h3,h4⟩,h5⟩ hq;refine Cy (l':=[]) (H':=[.blk hd [rB h3] 4,.blk he [rP hb 0] 143,.bld 146 5 hb h5 h4,.blk hf (Ab c) 83]) Aa Aa ?_;replace hq:Hm h3 h4=some r:=hq;unfold Hm at hq;refine Bc ?_;obtain rfl:=A5 hq;exact Hj (UH Tryz.results145) (sC (sC (sC (sC sN)))) ⟨h5,Aa,Aa⟩
theorem Hl:∀F:Nat,(∀(ha:Nat) (hb:Value) (l:Al) (v:(List Ac)) (r:Al),Gq F l v=some r→Fn Tryz.prog GE 110 [rP ha 0,AY 4 (A4 Ab v)] [.bld 146 5 ha hb l] (λR H=>∃w0b:Value,R=rv (.tuple #[])∧H=[.bld 146 5 ha w0b r]))∧(∀(hd:Nat) (he:Nat) (ha:Nat) (hb:Value) (hf:Nat) (key:Al) (x:(List Ac)) (first:Bool) (l:Al) (c:Ac) (r:Bool×Bool×Al),EB F key x first l c=some r→Fn Tryz.prog GE 146 [rS key,AY 4 (A4 Ab x),rP hd 0,rP he 0,rP hf 0] [.blk hd [rB first] 4,.blk he [rP ha 0] 143,.bld 146 5 ha hb l,.blk hf (Ab c) 83] (λR H=>∃w3b:Value,R=rB r.1∧H=[.blk hd [rB r.2.1] 4,.blk he [rP ha 0] 143,.bld 146 5 ha w3b r.2.2,.blk hf (Ab c) 83]))∧(∀(hd:Nat) (he:Nat) (ha:Nat) (hb:Value) (hf:Nat) (v:(List Ac)) (first:Bool) (l:Al) (c:Ac) (r:Bool×Al),GP F v first l c=some r→Fn Tryz.prog GE 145 [AY 4 (A4 Ab v),rv (.func (.func 146) #[] #[(.pointer (some ⟨hd,0,none⟩)),(.pointer (some ⟨he,0,none⟩)),(.pointer (some ⟨hf,0,none⟩))])] [.blk hd [rB first] 4,.blk he [rP ha 0] 143,.bld 146 5 ha hb l,.blk hf (Ab c) 83] (λR H=>∃w1_1b:Value,R=rv (.tuple #[])∧H=[.blk hd [rB r.1] 4,.blk he [rP ha 0] 143,.bld 146 5 ha w1_1b r.2,.blk hf (Ab c) 83]))
  | 0=>⟨(λ_ _ _ _ _ h=>by simp[Gq] at h),(λ_ _ _ _ _ _ _ _ _ _ _ h=>by simp[EB] at h),(λ_ _ _ _ _ _ _ _ _ _ h=>by simp[GP] at h)⟩
  | nn+1=>⟨(λha hb l v r h=>U5 nn (EB nn) (GP nn) (Hl nn).2.1 (Hl nn).2.2 ha hb l v r (by rw[Gq] at h;exact h)),(λhd he ha hb hf key x first l c r h=>SI nn (Gq nn) (Hl nn).1 hd he ha hb hf key x first l c r (by rw[EB] at h;exact h)),(λhd he ha hb hf v first l c r h=>SH nn (EB nn) (Hl nn).2.1 hd he ha hb hf v first l c r (by rw[GP] at h;exact h))⟩
theorem Wa (F:Nat)(ha:Nat)(hb:Value)(l:Al)(v:(List Ac))(r:Al)(h:Gq F l v=some r):Fn Tryz.prog GE 110 [rP ha 0,AY 4 (A4 Ab v)] [.bld 146 5 ha hb l] (λR H=>∃w0b:Value,R=rv (.tuple #[])∧H=[.bld 146 5 ha w0b r]):=(Hl F).1 ha hb l v r h
theorem U9 (F:Nat)(v:(List Ac))(r:Al×Int)(h:L4 F v=some r):Fn Tryz.prog GE 80 [AY 4 (A4 Ab v)] [] (λR H=>R=C7 [rS r.1,At r.2]∧H=[]):=by
 refine enter (n:=14) Tryz.func80 Aa Tryz.ntmps80 Aa (λw Z=>?_);unfold L4 at h;refine Ak (wv (r:=rS ([]:Al)) (Az Aa) (wa Aa (Av (An (Ak (wm Aa (ob h λr1 e3 h2=>CG VS (JF F v r1 e3) Aa (wa Aa (Bs (wm Aa (wv (BT Aa Aa) (Av (cz h2 Aa (λc4 h5=>?_) (λc4 h6=>?_))))))))))))))
 ·refine Ak (wm Aa (wv (r:=rS ([]:Al)) (Az Aa) (wa Aa (Av (A1 (Ae ?_))))));obtain rfl:=A5 h5;exact A0 (DJ Tryz.results80 (AM Aa) (AM Aa)) sN ⟨Aa,Aa⟩
 ·refine Ay (AP (Ak (Cc (cs:=[rv (.pointer none),rv (.slice none 0 0)]) Tryz.zeroValue146 Aa Aa (λb7=>?_))));refine Bs (wm Aa (WL.tobld (te:=5) (i:=0) Aa (ob h6 λr8 hb h9=>DX (Hr:=[]) Rk (Wa F b7 (.slice none 0 0) ([]:Al) v r8 hb) Aa (Abq _) Aa ?_)));rintro _ _ ⟨ha,rfl,rfl⟩;refine Bs (ck h9 λhd he=>Cm (rs:=[rP b7 0]) (Hin:=[.bld 146 5 b7 ha r8]) (Hr:=[]) Tryz.call111 Aa (Abq _) (VB b7 ha r8  hd) Aa ?_);rintro _ _ ⟨rfl,rfl⟩;refine wa Aa (wa Aa (Av (A1 ?_)));obtain rfl:=A5 he;exact A0 (DJ Tryz.results80 (AM Aa) (AM Aa)) sN ⟨Aa,Aa⟩
end Go.Proofs.YtfobhhegpkinaaaGreatDoor.Q
namespace Go.Proofs.YtfobhhegpkinaaaGreatDoor
open Go
set_option linter.unusedVariables false
structure AD where
 fS:Al
 fAt:Int
 fCells:(List Ac)
 fGreat:Bool
 deriving DecidableEq,Inhabited
def JH (s:Al)(p:Al):Option (Bool):=
 Ba (imp (decide ((p.length:Int)≤(s.length:Int))) (E5 (p.length:Int) (s.length:Int)))<|some ((decide ((p.length:Int)≤(s.length:Int)))&&(decide ((List.take (Int.toNat (p.length:Int)) s)=p)))
def K9 (s:Al)(p:Al):Option (Bool):=
 B3 (JH s p) λr1=>some r1
def G3 (q:AD)(s:Al):Option (Bool×AD):=
 Ba (E5 q.fAt (q.fS.length:Int))<|B3 (K9 (List.drop (Int.toNat q.fAt) q.fS) s) λr3=>B2 (!r3) (some (false,q)) (Ba (BF .i64 (q.fAt+(s.length:Int)))<|some (true,(AD.mk q.fS (q.fAt+(s.length:Int)) q.fCells q.fGreat)))
def JE (ha:(List Int))(hb:Int)(hd:Int):Option (Stp ((List Int)×Int) (Out (Al×Bool×AD) (Int))):=
 Ba (CX 1 (ha.length+([hb]:List Int).length))<|some (.next (ha++([hb]:List Int),hd))
def Lz (r1:Bool×AD)(hb:(List Int))(ha:Int):Option (Stp ((List Int)×Int) (Out (Al×Bool×AD) (Int))):=
 B2 (decide (ha<(r1.2.fS.length:Int))) (Ba (CP ha (r1.2.fS.length:Int))<|Ba (BF .i64 (ha+1))<|B2 (decide ((B1 r1.2.fS ha)=34)) (some (.out (.ret (Iz hb,true,(AD.mk r1.2.fS (ha+1) r1.2.fCells r1.2.fGreat))))) (B2 (((decide ((B1 r1.2.fS ha)<32))||(decide (126<(B1 r1.2.fS ha))))) (some (.out (.ret (([]:Al),false,(AD.mk r1.2.fS (ha+1) r1.2.fCells r1.2.fGreat))))) (B2 (decide ((B1 r1.2.fS ha)=92)) (Ba (imp (!(decide ((r1.2.fS.length:Int)≤(ha+1)))) (CP (ha+1) (r1.2.fS.length:Int)))<|B2 (((decide ((r1.2.fS.length:Int)≤(ha+1)))||((!decide ((B1 r1.2.fS (ha+1))=34))&&(!decide ((B1 r1.2.fS (ha+1))=92))))) (some (.out (.ret (([]:Al),false,(AD.mk r1.2.fS (ha+1) r1.2.fCells r1.2.fGreat))))) (Ba (CP (ha+1) (r1.2.fS.length:Int))<|Ba (BF .i64 ((ha+1)+1))<|JE hb (B1 r1.2.fS (ha+1)) ((ha+1)+1))) (JE hb (B1 r1.2.fS ha) (ha+1))))) (some (.out (.go ha)))
def Ly (r1:Bool×AD)(ha:Int):Option (Al×Bool×AD):=
 some (([]:Al),false,(AD.mk r1.2.fS ha r1.2.fCells r1.2.fGreat))
def T9 (F:Nat)(q:AD):Option (Al×Bool×AD):=
 B3 (G3 q ([34]:Al)) λr1=>B2 (!r1.1) (some (([]:Al),false,r1.2)) (B3 (Ci (λσ=>Lz r1 σ.1 σ.2) F (([]:List Int),r1.2.fAt)) (BS λν=>Ly r1 ν))
def L2 (r1:Bool×AD)(ha:Int):Option (Stp (Int) (Out (Bool×AD) (Int))):=
 Ba (imp (decide (ha<(r1.2.fS.length:Int))) (CP ha (r1.2.fS.length:Int)))<|B2 (((decide (ha<(r1.2.fS.length:Int)))&&((decide (48≤(B1 r1.2.fS ha)))&&(decide ((B1 r1.2.fS ha)≤57))))) (Ba (BF .i64 (ha+1))<|some (.next (ha+1))) (some (.out (.go ha)))
def L0 (q:AD)(r1:Bool×AD)(ha:Int):Option (Bool×AD):=
 Ba (E5 q.fAt ha)<|Ba (E5 ha (r1.2.fS.length:Int))<|Ba (CX 1 (List.take (Int.toNat ha-Int.toNat q.fAt) (List.drop (Int.toNat q.fAt) r1.2.fS)).length)<|B2 (((decide ((C2 (List.take (Int.toNat ha-Int.toNat q.fAt) (List.drop (Int.toNat q.fAt) r1.2.fS)))=1))||(decide (r1.2.fAt=ha)))) (some (false,(AD.mk r1.2.fS ha r1.2.fCells r1.2.fGreat))) (Ba (CX 40 (r1.2.fCells.length+([(Ac.mk 3 (AX (List.take (Int.toNat ha-Int.toNat q.fAt) (List.drop (Int.toNat q.fAt) r1.2.fS))) ([]:Al) 0)]:List Ac).length))<|some (true,(AD.mk r1.2.fS ha (r1.2.fCells++([(Ac.mk 3 (AX (List.take (Int.toNat ha-Int.toNat q.fAt) (List.drop (Int.toNat q.fAt) r1.2.fS))) ([]:Al) 0)]:List Ac)) (r1.2.fGreat||(!decide ((C2 (List.take (Int.toNat ha-Int.toNat q.fAt) (List.drop (Int.toNat q.fAt) r1.2.fS)))=0))))))
def Wb (F:Nat)(q:AD):Option (Bool×AD):=
 B3 (G3 q ([45]:Al)) λr1=>B3 (Ci (λσ=>L2 r1 σ) F r1.2.fAt) (BS λν=>L0 q r1 ν)
def Ed (ha:Al)(hb:Int)(hd:(List Ac))(he:Bool):Option (Bool×AD):=
 some (true,(AD.mk ha hb hd he))
def NQ (F:Nat)(q:AD):Option (Bool×AD):=
 B3 (G3 q ([110,117,108,108]:Al)) λhd=>B2 (hd.1) (Ba (CX 40 (hd.2.fCells.length+([(Ac.mk 1 0 ([]:Al) 0)]:List Ac).length))<|Ed hd.2.fS hd.2.fAt (hd.2.fCells++([(Ac.mk 1 0 ([]:Al) 0)]:List Ac)) hd.2.fGreat) (B3 (G3 hd.2 ([116,114,117,101]:Al)) λhe=>B2 (he.1) (Ba (CX 40 (he.2.fCells.length+([(Ac.mk 2 1 ([]:Al) 0)]:List Ac).length))<|Ed he.2.fS he.2.fAt (he.2.fCells++([(Ac.mk 2 1 ([]:Al) 0)]:List Ac)) he.2.fGreat) (B3 (G3 he.2 ([102,97,108,115,101]:Al)) λha=>B2 (ha.1) (Ba (CX 40 (ha.2.fCells.length+([(Ac.mk 2 0 ([]:Al) 0)]:List Ac).length))<|Ed ha.2.fS ha.2.fAt (ha.2.fCells++([(Ac.mk 2 0 ([]:Al) 0)]:List Ac)) ha.2.fGreat) (Ba (E5 ha.2.fAt (ha.2.fS.length:Int))<|B3 (K9 (List.drop (Int.toNat ha.2.fAt) ha.2.fS) ([34]:Al)) λhg=>B2 (hg) (B3 (T9 F ha.2) λhb=>B2 (!hb.2.1) (some (false,hb.2.2)) (Ba (CX 40 (hb.2.2.fCells.length+([(Ac.mk 4 0 hb.1 0)]:List Ac).length))<|Ed hb.2.2.fS hb.2.2.fAt (hb.2.2.fCells++([(Ac.mk 4 0 hb.1 0)]:List Ac)) hb.2.2.fGreat)) (B3 (Wb F ha.2) λhf=>some (hf.1,hf.2)))))
def IE (hg:AD→Option (Bool×AD))(hd:(List Ac))(he:Int)(hh:Al)(hi:Int)(hj:(List Ac))(hk:Bool):Option (Stp (Int×Al×Int×(List Ac)×Bool) (Out (Bool×AD) (Unit))):=
 B3 (hg (AD.mk hh hi hj hk)) λha=>B2 (!ha.1) (some (.out (.ret (false,ha.2)))) (Ba (CP (hd.length:Int) (ha.2.fCells.length:Int))<|Ls (List.set ha.2.fCells (Int.toNat (hd.length:Int)) (Ac.mk ((Ap ha.2.fCells (hd.length:Int)).fKind) ((Ap ha.2.fCells (hd.length:Int)).fInt) ((Ap ha.2.fCells (hd.length:Int)).fStr) he)) λhl=>B3 (G3 (AD.mk ha.2.fS ha.2.fAt hl ha.2.fGreat) ([93]:Al)) λhf=>B2 (hf.1) (some (.out (.ret (true,hf.2)))) (B3 (G3 hf.2 ([44]:Al)) λhb=>B2 (!hb.1) (some (.out (.ret (false,hb.2)))) (Ba (BF .i64 (he+1))<|some (.next (he+1,hb.2.fS,hb.2.fAt,hb.2.fCells,hb.2.fGreat)))))
def NP :Option (Bool×AD):=
 none
def EC (hl:AD→Option (Bool×AD))(hd:(List Ac))(he:Int)(hf:Al×Bool×AD)(ho:Bool)(hp:Bool)(hm:Bool)(hi:Al)(hj:Int)(hg:(List Ac))(hk:Bool):Option (Stp (Al×Int×Al×Int×(List Ac)×Bool) (Out (Bool×AD) (Unit))):=
 B2 (hm) (some (.out (.ret (false,(AD.mk hi hj hg hk))))) (Ba (CX 40 (hg.length+([(Ac.mk 4 0 hf.1 0)]:List Ac).length))<|B3 (hl (AD.mk hi hj (hg++([(Ac.mk 4 0 hf.1 0)]:List Ac)) hk)) λha=>B2 (!ha.1) (some (.out (.ret (false,ha.2)))) (Ba (CP (hd.length:Int) (ha.2.fCells.length:Int))<|Ls (List.set ha.2.fCells (Int.toNat (hd.length:Int)) (Ac.mk ((Ap ha.2.fCells (hd.length:Int)).fKind) ((Ap ha.2.fCells (hd.length:Int)).fInt) ((Ap ha.2.fCells (hd.length:Int)).fStr) he)) λhn=>B3 (G3 (AD.mk ha.2.fS ha.2.fAt hn ha.2.fGreat) ([125]:Al)) λhh=>B2 (hh.1) (some (.out (.ret (true,hh.2)))) (B3 (G3 hh.2 ([44]:Al)) λhb=>B2 (!hb.1) (some (.out (.ret (false,hb.2)))) (Ba (BF .i64 (he+1))<|some (.next (hf.1,he+1,hb.2.fS,hb.2.fAt,hb.2.fCells,hb.2.fGreat))))))
def ID (F:Nat)(hg:AD→Option (Bool×AD))(hh:(List Ac))(hb:Al)(hd:Int)(hi:Al)(hj:Int)(hk:(List Ac))(hl:Bool):Option (Stp (Al×Int×Al×Int×(List Ac)×Bool) (Out (Bool×AD) (Unit))):=
 B3 (T9 F (AD.mk hi hj hk hl)) λha=>B2 (!ha.2.1) (EC hg hh hd ha true true true ha.2.2.fS ha.2.2.fAt ha.2.2.fCells ha.2.2.fGreat) (B2 (decide (1<hd)) (B2 (CA ha.1 hb||decide (ha.1=hb)) (EC hg hh hd ha (CA ha.1 hb||decide (ha.1=hb)) (CA ha.1 hb||decide (ha.1=hb)) true ha.2.2.fS ha.2.2.fAt ha.2.2.fCells ha.2.2.fGreat) (B3 (G3 ha.2.2 ([58]:Al)) λhe=>EC hg hh hd ha (CA ha.1 hb||decide (ha.1=hb)) (CA ha.1 hb||decide (ha.1=hb)) (!he.1) he.2.fS he.2.fAt he.2.fCells he.2.fGreat)) (B3 (G3 ha.2.2 ([58]:Al)) λhf=>EC hg hh hd ha false false (!hf.1) hf.2.fS hf.2.fAt hf.2.fCells hf.2.fGreat))
def NO :Option (Bool×AD):=
 none
def Hn (F:Nat)(hh:AD→Option (Bool×AD))(r1:Bool×AD)(hj:Bool)(he:Al)(hf:Int)(ha:(List Ac))(hg:Bool):Option (Bool×AD):=
 B2 (hj) (B3 (NQ F (AD.mk he hf ha hg)) λhi=>some (hi.1,hi.2)) (B2 (r1.1) (Ba (CX 40 (ha.length+([(Ac.mk 5 0 ([]:Al) 0)]:List Ac).length))<|B3 (G3 (AD.mk he hf (ha++([(Ac.mk 5 0 ([]:Al) 0)]:List Ac)) hg) ([93]:Al)) λhb=>B2 (hb.1) (some (true,hb.2)) (B3 (Ci (λσ=>IE hh ha σ.1 σ.2.1 σ.2.2.1 σ.2.2.2.1 σ.2.2.2.2) F (1,hb.2.fS,hb.2.fAt,hb.2.fCells,hb.2.fGreat)) (BS λν=>NP ))) (Ba (CX 40 (ha.length+([(Ac.mk 6 0 ([]:Al) 0)]:List Ac).length))<|B3 (G3 (AD.mk he hf (ha++([(Ac.mk 6 0 ([]:Al) 0)]:List Ac)) hg) ([125]:Al)) λhd=>B2 (hd.1) (some (true,hd.2)) (B3 (Ci (λσ=>ID F hh ha σ.1 σ.2.1 σ.2.2.1 σ.2.2.2.1 σ.2.2.2.2.1 σ.2.2.2.2.2) F (([]:Al),1,hd.2.fS,hd.2.fAt,hd.2.fCells,hd.2.fGreat)) (BS λν=>NO ))))
def NN (F:Nat)(hb:AD→Option (Bool×AD))(q:AD):Option (Bool×AD):=
 B3 (G3 q ([91]:Al)) λr1=>B2 (!r1.1) (B3 (G3 r1.2 ([123]:Al)) λha=>Hn F hb r1 (!ha.1) ha.2.fS ha.2.fAt ha.2.fCells ha.2.fGreat) (Hn F hb r1 false r1.2.fS r1.2.fAt r1.2.fCells r1.2.fGreat)
def IF:Nat→AD→Option (Bool×AD)
 | 0,_=>none
 | nn+1,q=>NN nn (IF nn) q
def Hp (F:Nat)(hb:Bool)(hf:Al)(hg:Int)(hd:(List Ac))(he:Bool):Option ((List Ac)×Int):=
 B2 (hb) (some (([]:List Ac),1)) (B2 (he) (some (([]:List Ac),2)) (B3 (NW F hd) λha=>some (ha.1,ha.2)))
def Ns (F:Nat)(s:Al):Option ((List Ac)×Int):=
 B2 (decide (4000<(s.length:Int))) (some (([]:List Ac),3)) (B3 (IF F (AD.mk s 0 ([]:List Ac) false)) λha=>B2 (!ha.1) (Hp F true ha.2.fS ha.2.fAt ha.2.fCells ha.2.fGreat) (Hp F (!decide (ha.2.fAt=(s.length:Int))) ha.2.fS ha.2.fAt ha.2.fCells ha.2.fGreat))
end Go.Proofs.YtfobhhegpkinaaaGreatDoor
namespace Go.Proofs.YtfobhhegpkinaaaGreatDoor.Q
open Go Go.RowKit
set_option linter.unusedVariables false
set_option linter.unusedSimpArgs false
set_option maxRecDepth 100000
set_option maxHeartbeats 4000000
theorem Jc:∃inf,Tryz.prog.info? 83=some inf∧inf.zero=some (.agg #[(.int .i64 0),(.int .i64 0),(.string ⟨#[]⟩),(.int .i64 0)])∧inf.size=4∧inf.bytes=40:=by
  have key:(Tryz.prog.info? 83).map (λi=>(i.zero,i.size,i.bytes))=some (some (.agg #[(.int .i64 0),(.int .i64 0),(.string ⟨#[]⟩),(.int .i64 0)]),4,40):=by kernel_rfl
  obtain⟨inf,h1,h2⟩:=Option.map_eq_some_iff.1 key;simp only[Prod.mk.injEq] at h2;exact⟨inf,h1,h2.1,h2.2.1,h2.2.2⟩
theorem QT (parts:List (Nat×Value)):Tryz.prog.built 83 parts=Instr.fill (λi=>(#[(0,1),(1,1),(2,1),(3,1)]:Array (Nat×Nat))[i]?) #[(.int .i64 0),(.int .i64 0),(.string ⟨#[]⟩),(.int .i64 0)] parts:=by kernel_rfl
theorem HG {n:Nat}{c:Cx}{l:Fr}{H:List Ent}{d:Option Nat}{ty:TypeId}{pos:String}{af:Array Edge}{g:Option (Nat×Bool)}{x0:Operand}{r0:Rp}(h0:ev l x0=some r0)(u0:r0.one=true):B0 Tryz.prog n c l H { dst:=d,op:=.build 83 #[(0,x0)],type:=ty,pos:=pos,after:=af,guard:=g } (BQ [r0,At 0,rS ([]:Al),At 0]):=λa w Z ha _=>by
  have p0:=ha.ev h0;have c0:=B6 (r0.hone u0 Z _ p0);have hb:Tryz.prog.built 83 [(0,a.eval x0)]=some #[a.eval x0,(.int .i64 0),(.string ⟨#[]⟩),(.int .i64 0)]:=by
    rw[QT];generalize a.eval x0=v0 at *;simp[Instr.fill,c0]
  refine⟨.agg #[a.eval x0,(.int .i64 0),(.string ⟨#[]⟩),(.int .i64 0)],⟨[a.eval x0,(.int .i64 0),(.string ⟨#[]⟩),(.int .i64 0)],rfl,p0,rfl,rfl,rfl,trivial⟩,?_⟩;have:=run_build w 83 #[(0,a.eval x0)] _ (by simpa using hb);simp[execOp,this]
theorem Ia {n:Nat}{c:Cx}{l:Fr}{H:List Ent}{d:Option Nat}{ty:TypeId}{pos:String}{af:Array Edge}{g:Option (Nat×Bool)}{x0:Operand}{r0:Rp}(h0:ev l x0=some r0)(u0:r0.one=true){x1:Operand}{r1:Rp}(h1:ev l x1=some r1)(u1:r1.one=true):B0 Tryz.prog n c l H { dst:=d,op:=.build 83 #[(0,x0),(1,x1)],type:=ty,pos:=pos,after:=af,guard:=g } (BQ [r0,r1,rS ([]:Al),At 0]):=λa w Z ha _=>by
  have p0:=ha.ev h0;have c0:=B6 (r0.hone u0 Z _ p0);have p1:=ha.ev h1;have c1:=B6 (r1.hone u1 Z _ p1);have hb:Tryz.prog.built 83 [(0,a.eval x0),(1,a.eval x1)]=some #[a.eval x0,a.eval x1,(.string ⟨#[]⟩),(.int .i64 0)]:=by
    rw[QT];generalize a.eval x0=v0 at *;generalize a.eval x1=v1 at *;simp[Instr.fill,c0,c1]
  refine⟨.agg #[a.eval x0,a.eval x1,(.string ⟨#[]⟩),(.int .i64 0)],⟨[a.eval x0,a.eval x1,(.string ⟨#[]⟩),(.int .i64 0)],rfl,p0,p1,rfl,rfl,trivial⟩,?_⟩;have:=run_build w 83 #[(0,a.eval x0),(1,a.eval x1)] _ (by simpa using hb);simp[execOp,this]
theorem KU {n:Nat}{c:Cx}{l:Fr}{H:List Ent}{d:Option Nat}{ty:TypeId}{pos:String}{af:Array Edge}{g:Option (Nat×Bool)}{x0:Operand}{r0:Rp}(h0:ev l x0=some r0)(u0:r0.one=true){x2:Operand}{r2:Rp}(h2:ev l x2=some r2)(u2:r2.one=true):B0 Tryz.prog n c l H { dst:=d,op:=.build 83 #[(0,x0),(2,x2)],type:=ty,pos:=pos,after:=af,guard:=g } (BQ [r0,At 0,r2,At 0]):=λa w Z ha _=>by
  have p0:=ha.ev h0;have c0:=B6 (r0.hone u0 Z _ p0);have p2:=ha.ev h2;have c2:=B6 (r2.hone u2 Z _ p2);have hb:Tryz.prog.built 83 [(0,a.eval x0),(2,a.eval x2)]=some #[a.eval x0,(.int .i64 0),a.eval x2,(.int .i64 0)]:=by
    rw[QT];generalize a.eval x0=v0 at *;generalize a.eval x2=v2 at *;simp[Instr.fill,c0,c2]
  refine⟨.agg #[a.eval x0,(.int .i64 0),a.eval x2,(.int .i64 0)],⟨[a.eval x0,(.int .i64 0),a.eval x2,(.int .i64 0)],rfl,p0,rfl,p2,rfl,trivial⟩,?_⟩;have:=run_build w 83 #[(0,a.eval x0),(2,a.eval x2)] _ (by simpa using hb);simp[execOp,this]
theorem XC (parts:List (Nat×Value)):Tryz.prog.built 166 parts=Instr.fill (λi=>(#[(0,1),(1,1),(2,1),(3,1)]:Array (Nat×Nat))[i]?) #[(.string ⟨#[]⟩),(.int .i64 0),((.slice none 0 0)),(.bool false)] parts:=by kernel_rfl
theorem Q2 {n:Nat}{c:Cx}{l:Fr}{H:List Ent}{d:Option Nat}{ty:TypeId}{pos:String}{af:Array Edge}{g:Option (Nat×Bool)}{x0:Operand}{r0:Rp}(h0:ev l x0=some r0)(u0:r0.one=true):B0 Tryz.prog n c l H { dst:=d,op:=.build 166 #[(0,x0)],type:=ty,pos:=pos,after:=af,guard:=g } (BQ [r0,At 0,rv (.slice none 0 0),rB false]):=λa w Z ha _=>by
  have p0:=ha.ev h0;have c0:=B6 (r0.hone u0 Z _ p0);have hb:Tryz.prog.built 166 [(0,a.eval x0)]=some #[a.eval x0,(.int .i64 0),((.slice none 0 0)),(.bool false)]:=by
    rw[XC];generalize a.eval x0=v0 at *;simp[Instr.fill,c0]
  refine⟨.agg #[a.eval x0,(.int .i64 0),((.slice none 0 0)),(.bool false)],⟨[a.eval x0,(.int .i64 0),((.slice none 0 0)),(.bool false)],rfl,p0,rfl,rfl,rfl,trivial⟩,?_⟩;have:=run_build w 166 #[(0,a.eval x0)] _ (by simpa using hb);simp[execOp,this]
theorem OZ (s:Al)(p:Al)(r:Bool)(h:JH s p=some r):Fn Tryz.prog GE 202 [rS s,rS p] [] (λR H=>R=rB r∧H=[]):=by
 refine enter (n:=18) Tryz.func202 Aa Tryz.ntmps202 Aa (λw Z=>?_);unfold JH at h;refine Ak (wa Aa (Av (ck h λg1 h2=>AH [(4,rB ((decide ((p.length:Int)≤(s.length:Int)))&&(decide ((List.take (B4 (p.length:Int)) s)=p))))] [] ?_ ?_)))
 ·refine Ai (wm Aa (wv (Bv Cu Aa) (wm Aa (wv (Bv Cu Aa) (wv (GH Aa Aa) (wm Aa (AO (decide ((p.length:Int)≤(s.length:Int))) (λc3=>?_) (λc3=>?_))))))))
  ·refine wo c3 (wm Aa (wo c3 (wm Aa (wo c3 (wv (Bv Cu Aa) (wo c3 (wv (Lj Cu Aa Aa (Cr g1 c3)) (wo c3 (wm Aa (wo c3 (wv (EZ Aa Aa) (Er Aa c3 Aa (wa Aa (Am ?_))))))))))))));exact BV c3
  ·refine wf c3 (wf c3 (wf c3 (wf c3 (wf c3 (wf c3 (wv (r:=rB false) (A8 Aa c3 Aa) (wa Aa (Am ?_))))))));exact BV c3
 refine A1 ?_;obtain rfl:=A5 h2;exact A0 (BJ Tryz.results202 (AM Aa)) sN ⟨Aa,Aa⟩
theorem MY (s:Al)(p:Al)(r:Bool)(h:K9 s p=some r):Fn Tryz.prog GE 184 [rS s,rS p] [] (λR H=>R=rB r∧H=[]):=by
 refine enter (n:=8) Tryz.func184 Aa Tryz.ntmps184 Aa (λw Z=>?_);unfold K9 at h;refine Ak (wa Aa (Bs (wm Aa (wm Aa (ob h λr1 e3 h2=>CG Tryz.call202 (OZ s p r1 e3) Aa (wa Aa (Av (A1 ?_))))))));obtain rfl:=A5 h2;exact A0 (BJ Tryz.results184 (AM Aa)) sN ⟨Aa,Aa⟩
theorem DQ (ha:Nat)(hb:Value)(q:AD)(s:Al)(r:Bool×AD)(h:G3 q s=some r):Fn Tryz.prog GE 159 [rP ha 0,rS s] [.blk ha [rS q.fS,At q.fAt,rv hb,rB q.fGreat] 166,.row hb 83 4 (A4 Ab q.fCells)] (λR H=>∃w0_2:Value,R=rB r.1∧H=[.blk ha [rS r.2.fS,At r.2.fAt,rv w0_2,rB r.2.fGreat] 166,.row w0_2 83 4 (A4 Ab r.2.fCells)]):=by
 refine enter (n:=26) Tryz.func159 Aa Tryz.ntmps159 Aa (λw Z=>?_);unfold G3 at h;refine Ak (wa Aa (Av (An (An (ck h λg1 h2=>ob h2 λr3 e5 h4=>Do [0,1] [⟨[],rP ha 0,0⟩,⟨[0],rP ha 0,0⟩,⟨[1],rP ha 0,0⟩,⟨[2],rS q.fS,1⟩,⟨[],rP ha 0,0⟩,⟨[4],rP ha 0,0⟩,⟨[5],rP ha 1,0⟩,⟨[6],At q.fAt,1⟩,⟨[3,7],rS (List.drop (B4 q.fAt) q.fS),0⟩,⟨[],rS s,0⟩,⟨[8,9],rB r3,0⟩,⟨[10],rB (!r3),0⟩] [16,0,1] ?_ ?_)))))
 ·refine oq (Aq Aa) (oq (AB Aa) (oq (A9 BK Aa Cv Aa Aa) (of (AT (i:=0) CD Aa Aa Aa) (oq (Aq Aa) (oq (AB Aa) (oq (A9 BK Aa C6 Aa Aa) (of (AT (i:=0) CM Aa Aa Aa) (oq (DT Cu Aa Aa g1) (oq (Aq Aa) (Hu Aa (λH=>Em Tryz.call184 (MY (List.drop (B4 q.fAt) q.fS) s r3 e5) Aa) ?_))))))))));refine oq (BE Aa) ?_;exact CN
 refine AP (cz h4 Aa (λc6 h7=>?_) (λc6 h8=>?_))
 ·refine Ak (wa Aa (Av (A1 (Ae ?_))));obtain rfl:=A5 h7;exact A0 (BJ Tryz.results159 (AM Aa)) (sC (sC sN)) ⟨hb,Aa,Aa⟩
 ·refine Ay (AP (Ak (wm Aa (wv (AB Aa) (vF BK Aa C6 (vL 0 CM Aa (wm Aa (wv (Bv Cu Aa) (ck h8 λg9 hd=>wv (Bz Aa Aa g9) (wv (AB Aa) (vF BK Aa C6 (BA (i:=0) C6 Aa Aa (BD Aa) Aa Aa (cs':=[rS q.fS,At (q.fAt+(s.length:Int)),rv hb,rB q.fGreat]) Aa (H':=[.blk ha [rS q.fS,At (q.fAt+(s.length:Int)),rv hb,rB q.fGreat] 166,.row hb 83 4 (A4 Ab q.fCells)]) Aa (Bs (wa Aa (Av (A1 ?_))))))))))))))));obtain rfl:=A5 hd;exact A0 (BJ Tryz.results159 (AM Aa)) (sC (sC sN)) ⟨hb,Aa,Aa⟩
theorem T8 (F:Nat)(ha:Nat)(hp:Value)(q:AD)(r:Al×Bool×AD)(h:T9 F q=some r):Fn Tryz.prog GE 161 [rP ha 0] [.blk ha [rS q.fS,At q.fAt,rv hp,rB q.fGreat] 166,.row hp 83 4 (A4 Ab q.fCells)] (λR H=>∃w0_2:Value,R=C7 [rS r.1,rB r.2.1]∧H=[.blk ha [rS r.2.2.fS,At r.2.2.fAt,rv w0_2,rB r.2.2.fGreat] 166,.row w0_2 83 4 (A4 Ab r.2.2.fCells)]):=by
 refine enter (n:=104) Tryz.func161 Aa Tryz.ntmps161 Aa (λw Z=>?_);unfold T9 at h;refine Ak (wv (r:=rS ([]:Al)) (Az Aa) (wa Aa (Av (An (Ak (wm Aa (ob h λr1 e3 h2=>DX (Hr:=[]) Hi (DQ ha hp q ([34]:Al) r1 e3) Aa (Abq _) Aa ?_)))))));rintro _ _ ⟨v4,rfl,rfl⟩;refine wv (BE Aa) (Av (cz h2 Aa (λc5 h6=>?_) (λc5 h7=>?_)))
 ·refine Ak (wv (r:=rS ([]:Al)) (Az Aa) (wa Aa (Av (A1 (Ae ?_)))));obtain rfl:=A5 h6;exact A0 (DJ Ri (AM Aa) (AM Aa)) (sC (sC sN)) ⟨v4,Aa,Aa⟩
 ·refine Ay (AP (Ak (wa Aa (Av (An (AJ (WC.nilrow (e:=5) (sz:=1) (GO (H2:=[.blk ha [rS r1.2.fS,At r1.2.fAt,rv v4,rB r1.2.fGreat] 166,.row v4 83 4 (A4 Ab r1.2.fCells),.row (.slice none 0 0     ) 5 1 (A4 Bp ([]:List Int))]) ((As (i:=1) Aa).trans (Abp _ ((As (i:=1) Aa).trans (Abp _ (Abq _))))) (ob h7 λhu hw hk=>Bu (S:=Nat×((List Int)×Int)×(Value)) (V:=(Int)×(Unit)) 0 (λσ=>Ci (λσ=>Lz r1 σ.1 σ.2) σ.1 σ.2.1=some hu) (λσ=>[(0,rP ha 0),(4,rv σ.2.2)]) (λσ=>[.blk ha [rS r1.2.fS,At σ.2.1.2,rv v4,rB r1.2.fGreat] 166,.row v4 83 4 (A4 Ab r1.2.fCells),.row σ.2.2 5 1 (A4 Bp σ.2.1.1)]) (λσ=>σ.1) (F,(([]:List Int),r1.2.fAt),(.slice none 0 0     )) hw (AL.c Aa (AL.c Aa AL.nil)) (sC (sC (sC sN))) (λσ=>Ly r1 σ.1=some r) (λσ=>[]) (λσ=>[.blk ha [rS r1.2.fS,At σ.1,rv v4,rB r1.2.fGreat] 166,.row v4 83 4 (A4 Ab r1.2.fCells)]) ?_ ?_)))))))))
  ·rintro⟨ga,⟨hf,hb⟩,hg⟩ hx;refine BW (l':=[(0,rP ha 0),(4,rv hg)]) (H':=[.blk ha [rS r1.2.fS,At hb,rv v4,rB r1.2.fGreat] 166,.row v4 83 4 (A4 Ab r1.2.fCells),.row hg 5 1 (A4 Bp hf)]) Aa Aa ?_;obtain⟨hy,rfl,hq,hl,hj⟩:=C4 hx;replace hl:Lz r1 hf hb=some hq:=hl;unfold Lz at hl;refine An (An (Do [0,4] [⟨[],rP ha 0,0⟩,⟨[0],rP ha 0,0⟩,⟨[1],rP ha 1,0⟩,⟨[2],At hb,1⟩,⟨[],rP ha 0,0⟩,⟨[4],rP ha 0,0⟩,⟨[5],rP ha 0,0⟩,⟨[6],rS r1.2.fS,1⟩,⟨[7],At (r1.2.fS.length:Int),0⟩,⟨[3,8],rB (decide (hb<(r1.2.fS.length:Int))),0⟩] [9,10,11,12,13,14,15,16,17,18,0,4] ?_ ?_))
   ·refine oq (Aq Aa) (oq (AB Aa) (oq (A9 BK Aa C6 Aa Aa) (of (AT (i:=0) CM Aa Aa Aa) (oq (Aq Aa) (oq (AB Aa) (oq (A9 BK Aa Cv Aa Aa) (of (AT (i:=0) CD Aa Aa Aa) (oq (Bv Cu Aa) (oq (C0 Aa Aa) ?_)))))))));exact CN
   refine AP (cz hl Aa (λhz h0=>?_) (λhz h1=>?_))
   ·refine Ay (AP (AJ (An (ck h0 λh3 h4=>Do [0,4,9,10,11,12,13,14,15,16,17] [⟨[],rP ha 0,0⟩,⟨[0],rP ha 0,0⟩,⟨[1],rP ha 0,0⟩,⟨[2],rS r1.2.fS,1⟩,⟨[],rP ha 0,0⟩,⟨[4],rP ha 0,0⟩,⟨[5],rP ha 1,0⟩,⟨[6],At hb,1⟩,⟨[3,7],rI .u8 (B1 r1.2.fS hb),0⟩,⟨[8],rI .u8 (B1 r1.2.fS hb),0⟩] [19,20,21,22,23,24,25,26,27,5,0,4,9,10,11,12,13,14,15,16,17] ?_ ?_))))
    ·refine oq (Aq Aa) (oq (AB Aa) (oq (A9 BK Aa Cv Aa Aa) (of (AT (i:=0) CD Aa Aa Aa) (oq (Aq Aa) (oq (AB Aa) (oq (A9 BK Aa C6 Aa Aa) (of (AT (i:=0) CM Aa Aa Aa) (oq (Bw Cu Aa Aa h3) (oq (Az Aa) ?_)))))))));exact CN
    refine AP (Ak (wm Aa (wv (AB Aa) (vF BK Aa C6 (vL 0 CM Aa (ck h4 λh5 h8=>wv (Bz Aa Aa h5) (wv (AB Aa) (vF BK Aa C6 (BA (i:=0) C6 Aa Aa (BD Aa) Aa Aa (cs':=[rS r1.2.fS,At (hb+1),rv v4,rB r1.2.fGreat]) Aa (H':=[.blk ha [rS r1.2.fS,At (hb+1),rv v4,rB r1.2.fGreat] 166,.row v4 83 4 (A4 Ab r1.2.fCells),.row hg 5 1 (A4 Bp hf)]) Aa (Av (Dm (S:=(Int×Int)×(Unit)) (λσ=>JE hf σ.1.1 σ.1.2=some hq) (λσ=>[(0,rP ha 0),(4,rv hg),(5,rI .u8 σ.1.1),(9,rP ha 0),(10,rP ha 0),(11,rP ha 1),(12,At hb),(13,rP ha 0),(14,rP ha 0),(15,rP ha 0),(16,rS r1.2.fS),(17,At (r1.2.fS.length:Int)),(19,rP ha 0),(20,rP ha 0),(21,rP ha 0),(22,rS r1.2.fS),(23,rP ha 0),(24,rP ha 0),(25,rP ha 1),(26,At hb),(27,rI .u8 (B1 r1.2.fS hb))]) (λσ=>[.blk ha [rS r1.2.fS,At σ.1.2,rv v4,rB r1.2.fGreat] 166,.row v4 83 4 (A4 Ab r1.2.fCells),.row hg 5 1 (A4 Bp hf)]) ?_ ?_)))))))))))
    ·refine AJ (Ak (wm Aa (wv (B5 Aa Aa) (wa Aa (Av (cz h8 Aa (λh9 hA=>?_) (λh9 hB=>?_)))))))
     ·refine Ak (wm Aa (wv (r:=rS (Iz hf)) (P9 (xs:=hf) (i:=2) Dq Cu Ld Aa Aa) (wa Aa (wa Aa (Av (A1 (AC (Ae (AC (Ae (Bj ?_)))))))))));have hC:=BB hA hj hk;refine AC (Ae ?_);obtain rfl:=A5 hC;exact A0 (DJ Ri (AM Aa) (AM Aa)) (sC (sC (sS sN))) ⟨v4,Aa,Aa⟩
     ·refine AH [(0,rP ha 0),(4,rv hg),(5,rI .u8 (B1 r1.2.fS hb)),(9,rP ha 0),(10,rP ha 0),(11,rP ha 1),(12,At hb),(13,rP ha 0),(14,rP ha 0),(15,rP ha 0),(16,rS r1.2.fS),(17,At (r1.2.fS.length:Int)),(19,rP ha 0),(20,rP ha 0),(21,rP ha 0),(22,rS r1.2.fS),(23,rP ha 0),(24,rP ha 0),(25,rP ha 1),(26,At hb),(27,rI .u8 (B1 r1.2.fS hb)),(40,rB ((decide ((B1 r1.2.fS hb)<32))||(decide (126<(B1 r1.2.fS hb)))))] [.blk ha [rS r1.2.fS,At (hb+1),rv v4,rB r1.2.fGreat] 166,.row v4 83 4 (A4 Ab r1.2.fCells),.row hg 5 1 (A4 Bp hf)] ?_ ?_
      ·refine Ai (wm Aa (wv (C0 Aa Aa) (wm Aa (AO (decide ((B1 r1.2.fS hb)<32)) (λhh=>?_) (λhh=>?_)))))
       ·refine wf hh (wf hh (wv (r:=rB true) (A2 Aa hh Aa) (wa Aa (Am ?_))));exact BV hh
       ·refine wo hh (wm Aa (wo hh (wv (CI Aa Aa) (E2 Aa hh Aa (wa Aa (Am ?_))))));exact BV hh
      refine cz hB Aa (λhD hE=>?_) (λhD hG=>?_)
      ·refine Ak (wv (r:=rS ([]:Al)) (Az Aa) (wa Aa (Av (A1 (AC (Ae (AC (Ae (Bj ?_)))))))));have hH:=BB hE hj hk;refine AC (Ae ?_);obtain rfl:=A5 hH;exact A0 (DJ Ri (AM Aa) (AM Aa)) (sC (sC (sS sN))) ⟨v4,Aa,Aa⟩
      ·refine Ak (wm Aa (wv (B5 Aa Aa) (wa Aa (Av (cz hG Aa (λhI hJ=>?_) (λhI hK=>?_))))))
       ·refine An (ck hJ λhr hL=>AH [(0,rP ha 0),(4,rv hg),(9,rP ha 0),(10,rP ha 0),(11,rP ha 1),(12,At hb),(13,rP ha 0),(14,rP ha 0),(15,rP ha 0),(16,rS r1.2.fS),(17,At (r1.2.fS.length:Int)),(19,rP ha 0),(20,rP ha 0),(21,rP ha 0),(22,rS r1.2.fS),(23,rP ha 0),(24,rP ha 0),(25,rP ha 1),(26,At hb),(27,rI .u8 (B1 r1.2.fS hb)),(50,rP ha 0),(51,rP ha 0),(52,rP ha 1),(53,At (hb+1)),(54,rP ha 0),(55,rP ha 0),(56,rP ha 0),(57,rS r1.2.fS),(58,At (r1.2.fS.length:Int)),(59,rB (decide ((r1.2.fS.length:Int)≤(hb+1)))),(60,rB (decide ((r1.2.fS.length:Int)≤(hb+1)))),(83,rB ((decide ((r1.2.fS.length:Int)≤(hb+1)))||((!decide ((B1 r1.2.fS (hb+1))=34))&&(!decide ((B1 r1.2.fS (hb+1))=92)))))] [.blk ha [rS r1.2.fS,At (hb+1),rv v4,rB r1.2.fGreat] 166,.row v4 83 4 (A4 Ab r1.2.fCells),.row hg 5 1 (A4 Bp hf)] ?_ ?_)
        ·refine AO (decide ((r1.2.fS.length:Int)≤(hb+1))) (λhd=>?_) (λhd=>?_)
         ·refine Do [0,4,9,10,11,12,13,14,15,16,17,19,20,21,22,23,24,25,26,27] [⟨[],rP ha 0,0⟩,⟨[0],rP ha 0,0⟩,⟨[1],rP ha 1,0⟩,⟨[2],At (hb+1),1⟩,⟨[],rP ha 0,0⟩,⟨[4],rP ha 0,0⟩,⟨[5],rP ha 0,0⟩,⟨[6],rS r1.2.fS,1⟩,⟨[7],At (r1.2.fS.length:Int),0⟩,⟨[3,8],rB (decide ((r1.2.fS.length:Int)≤(hb+1))),0⟩,⟨[9],rB (decide ((r1.2.fS.length:Int)≤(hb+1))),0⟩,⟨[10],rv undef,0⟩,⟨[11,10],rv undef,0⟩,⟨[12,10],rv undef,0⟩,⟨[13,10],rv undef,0⟩,⟨[10],rv undef,0⟩,⟨[15,10],rv undef,0⟩,⟨[16,10],rv undef,0⟩,⟨[17,10],rv undef,0⟩,⟨[14,18,10],rv undef,0⟩,⟨[19,10],rv undef,0⟩,⟨[20,10],rv undef,0⟩,⟨[21],rv undef,0⟩,⟨[22,21],rv undef,0⟩,⟨[23,21],rv undef,0⟩,⟨[24,21],rv undef,0⟩,⟨[21],rv undef,0⟩,⟨[26,21],rv undef,0⟩,⟨[27,21],rv undef,0⟩,⟨[28,21],rv undef,0⟩,⟨[25,29,21],rv undef,0⟩,⟨[30,21],rv undef,0⟩,⟨[21,31,10],rv undef,0⟩,⟨[10,32],rB true,0⟩] [50,51,52,53,54,55,56,57,58,59,60,61,62,63,64,65,66,67,68,69,70,71,72,73,74,75,76,77,78,79,80,81,82,83,0,4,9,10,11,12,13,14,15,16,17,19,20,21,22,23,24,25,26,27] ?_ ?_
          ·refine oq (Aq Aa) (oq (AB Aa) (oq (A9 BK Aa C6 Aa Aa) (of (AT (i:=0) CM Aa Aa Aa) (oq (Aq Aa) (oq (AB Aa) (oq (A9 BK Aa Cv Aa Aa) (of (AT (i:=0) CD Aa Aa Aa) (oq (Bv Cu Aa) (oq (GH Aa Aa) (oq (Aq Aa) (oz hd (oz hd (oz hd (oz hd (oz hd (oz hd (oz hd (oz hd (oz hd (oz hd (oz hd (ou (ou ?_)))))))))))))))))))))));refine ou (ou (ou (ou (ou (ou (ou (ou (oz hd (oq (A2 (b:=decide ((r1.2.fS.length:Int)≤(hb+1))) Aa hd Aa) ?_)))))))));exact CN
          exact BV hd
         ·refine AO (!decide ((B1 r1.2.fS (hb+1))=34)) (λhe=>?_) (λhe=>?_)
          ·refine Do [0,4,9,10,11,12,13,14,15,16,17,19,20,21,22,23,24,25,26,27] [⟨[],rP ha 0,0⟩,⟨[0],rP ha 0,0⟩,⟨[1],rP ha 1,0⟩,⟨[2],At (hb+1),1⟩,⟨[],rP ha 0,0⟩,⟨[4],rP ha 0,0⟩,⟨[5],rP ha 0,0⟩,⟨[6],rS r1.2.fS,1⟩,⟨[7],At (r1.2.fS.length:Int),0⟩,⟨[3,8],rB (decide ((r1.2.fS.length:Int)≤(hb+1))),0⟩,⟨[9],rB (decide ((r1.2.fS.length:Int)≤(hb+1))),0⟩,⟨[10],rP ha 0,0⟩,⟨[11,10],rP ha 0,0⟩,⟨[12,10],rP ha 0,0⟩,⟨[13,10],rS r1.2.fS,1⟩,⟨[10],rP ha 0,0⟩,⟨[15,10],rP ha 0,0⟩,⟨[16,10],rP ha 1,0⟩,⟨[17,10],At (hb+1),1⟩,⟨[14,18,10],rI .u8 (B1 r1.2.fS (hb+1)),0⟩,⟨[19,10],rB (!decide ((B1 r1.2.fS (hb+1))=34)),0⟩,⟨[20,10],rB (!decide ((B1 r1.2.fS (hb+1))=34)),0⟩,⟨[21],rP ha 0,0⟩,⟨[22,21],rP ha 0,0⟩,⟨[23,21],rP ha 0,0⟩,⟨[24,21],rS r1.2.fS,1⟩,⟨[21],rP ha 0,0⟩,⟨[26,21],rP ha 0,0⟩,⟨[27,21],rP ha 1,0⟩,⟨[28,21],At (hb+1),1⟩,⟨[25,29,21],rI .u8 (B1 r1.2.fS (hb+1)),0⟩,⟨[30,21],rB (!decide ((B1 r1.2.fS (hb+1))=92)),0⟩,⟨[21,31,10],rB (!decide ((B1 r1.2.fS (hb+1))=92)),0⟩,⟨[10,32],rB (!decide ((B1 r1.2.fS (hb+1))=92)),0⟩] [50,51,52,53,54,55,56,57,58,59,60,61,62,63,64,65,66,67,68,69,70,71,72,73,74,75,76,77,78,79,80,81,82,83,0,4,9,10,11,12,13,14,15,16,17,19,20,21,22,23,24,25,26,27] ?_ ?_
           ·refine oq (Aq Aa) (oq (AB Aa) (oq (A9 BK Aa C6 Aa Aa) (of (AT (i:=0) CM Aa Aa Aa) (oq (Aq Aa) (oq (AB Aa) (oq (A9 BK Aa Cv Aa Aa) (of (AT (i:=0) CD Aa Aa Aa) (oq (Bv Cu Aa) (oq (GH Aa Aa) (oq (Aq Aa) (on hd (oq (Aq Aa) (on hd (oq (AB Aa) (on hd (oq (A9 BK Aa Cv Aa Aa) (on hd (of (AT (i:=0) CD Aa Aa Aa) (on hd (oq (Aq Aa) (on hd (oq (AB Aa) (on hd ?_)))))))))))))))))))))));refine oq (A9 BK Aa C6 Aa Aa) (on hd (of (AT (i:=0) CM Aa Aa Aa) (on hd (oq (Bw Cu Aa Aa (CE hr hd)) (on hd (oq (BT Aa Aa) (on hd (oq (Aq Aa) (on he (oq (Aq Aa) (on he (oq (AB Aa) (on he (oq (A9 BK Aa Cv Aa Aa) (on he (of (AT (i:=0) CD Aa Aa Aa) (on he (oq (Aq Aa) (on he (oq (AB Aa) (on he (oq (A9 BK Aa C6 Aa Aa) (on he ?_)))))))))))))))))))))));refine of (AT (i:=0) CM Aa Aa Aa) (on he (oq (Bw Cu Aa Aa (CE hr hd)) (on he (oq (BT Aa Aa) (on hd (oq (A2 Aa he Aa) (oq (A8 Aa hd Aa) ?_)))))));exact CN
           exact BV (And.intro hd he)
          ·refine Do [0,4,9,10,11,12,13,14,15,16,17,19,20,21,22,23,24,25,26,27] [⟨[],rP ha 0,0⟩,⟨[0],rP ha 0,0⟩,⟨[1],rP ha 1,0⟩,⟨[2],At (hb+1),1⟩,⟨[],rP ha 0,0⟩,⟨[4],rP ha 0,0⟩,⟨[5],rP ha 0,0⟩,⟨[6],rS r1.2.fS,1⟩,⟨[7],At (r1.2.fS.length:Int),0⟩,⟨[3,8],rB (decide ((r1.2.fS.length:Int)≤(hb+1))),0⟩,⟨[9],rB (decide ((r1.2.fS.length:Int)≤(hb+1))),0⟩,⟨[10],rP ha 0,0⟩,⟨[11,10],rP ha 0,0⟩,⟨[12,10],rP ha 0,0⟩,⟨[13,10],rS r1.2.fS,1⟩,⟨[10],rP ha 0,0⟩,⟨[15,10],rP ha 0,0⟩,⟨[16,10],rP ha 1,0⟩,⟨[17,10],At (hb+1),1⟩,⟨[14,18,10],rI .u8 (B1 r1.2.fS (hb+1)),0⟩,⟨[19,10],rB (!decide ((B1 r1.2.fS (hb+1))=34)),0⟩,⟨[20,10],rB (!decide ((B1 r1.2.fS (hb+1))=34)),0⟩,⟨[21],rv undef,0⟩,⟨[22,21],rv undef,0⟩,⟨[23,21],rv undef,0⟩,⟨[24,21],rv undef,0⟩,⟨[21],rv undef,0⟩,⟨[26,21],rv undef,0⟩,⟨[27,21],rv undef,0⟩,⟨[28,21],rv undef,0⟩,⟨[25,29,21],rv undef,0⟩,⟨[30,21],rv undef,0⟩,⟨[21,31,10],rB false,0⟩,⟨[10,32],rB false,0⟩] [50,51,52,53,54,55,56,57,58,59,60,61,62,63,64,65,66,67,68,69,70,71,72,73,74,75,76,77,78,79,80,81,82,83,0,4,9,10,11,12,13,14,15,16,17,19,20,21,22,23,24,25,26,27] ?_ ?_
           ·refine oq (Aq Aa) (oq (AB Aa) (oq (A9 BK Aa C6 Aa Aa) (of (AT (i:=0) CM Aa Aa Aa) (oq (Aq Aa) (oq (AB Aa) (oq (A9 BK Aa Cv Aa Aa) (of (AT (i:=0) CD Aa Aa Aa) (oq (Bv Cu Aa) (oq (GH Aa Aa) (oq (Aq Aa) (on hd (oq (Aq Aa) (on hd (oq (AB Aa) (on hd (oq (A9 BK Aa Cv Aa Aa) (on hd (of (AT (i:=0) CD Aa Aa Aa) (on hd (oq (Aq Aa) (on hd (oq (AB Aa) (on hd ?_)))))))))))))))))))))));refine oq (A9 BK Aa C6 Aa Aa) (on hd (of (AT (i:=0) CM Aa Aa Aa) (on hd (oq (Bw Cu Aa Aa (CE hr hd)) (on hd (oq (BT Aa Aa) (on hd (oq (Aq Aa) (oz he (oz he (oz he (oz he (oz he (oz he (oz he (oz he (oz he (oz he (on hd (oq (A8 (b:=!decide ((B1 r1.2.fS (hb+1))=34)) Aa he Aa) (oq (A8 Aa hd Aa) ?_)))))))))))))))))))));exact CN
           exact BV (And.intro hd he)
        refine cz hL Aa (λhN hO=>?_) (λhN hP=>?_)
        ·refine Ak (wv (r:=rS ([]:Al)) (Az Aa) (wa Aa (Av (A1 (Ae (AC (Ae (AC (Ae (Bj ?_))))))))));have hQ:=BB hO hj hk;refine AC (Ae ?_);obtain rfl:=A5 hQ;exact A0 (DJ Ri (AM Aa) (AM Aa)) (sC (sC (sS sN))) ⟨v4,Aa,Aa⟩
        ·refine Ay (AP (An (ck hP λhR hS=>Do [0,4,9,10,11,12,13,14,15,16,17,19,20,21,22,23,24,25,26,27,50,51,52,53,54,55,56,57,58,59,60] [⟨[],rP ha 0,0⟩,⟨[0],rP ha 0,0⟩,⟨[1],rP ha 0,0⟩,⟨[2],rS r1.2.fS,1⟩,⟨[],rP ha 0,0⟩,⟨[4],rP ha 0,0⟩,⟨[5],rP ha 1,0⟩,⟨[6],At (hb+1),1⟩,⟨[3,7],rI .u8 (B1 r1.2.fS (hb+1)),0⟩,⟨[8],rI .u8 (B1 r1.2.fS (hb+1)),0⟩] [84,85,86,87,88,89,90,91,92,5,0,4,9,10,11,12,13,14,15,16,17,19,20,21,22,23,24,25,26,27,50,51,52,53,54,55,56,57,58,59,60] ?_ ?_)))
         ·refine oq (Aq Aa) (oq (AB Aa) (oq (A9 BK Aa Cv Aa Aa) (of (AT (i:=0) CD Aa Aa Aa) (oq (Aq Aa) (oq (AB Aa) (oq (A9 BK Aa C6 Aa Aa) (of (AT (i:=0) CM Aa Aa Aa) (oq (Bw Cu Aa Aa hR) (oq (Az Aa) ?_)))))))));exact CN
         exact AP (Ai (wm Aa (wv (AB Aa) (vF BK Aa C6 (vL 0 CM Aa (ck hS λhT hU=>wv (Bz Aa Aa hT) (wv (AB Aa) (vF BK Aa C6 (BA (i:=0) C6 Aa Aa (BD Aa) Aa Aa (cs':=[rS r1.2.fS,At ((hb+1)+1),rv v4,rB r1.2.fGreat]) Aa (H':=[.blk ha [rS r1.2.fS,At ((hb+1)+1),rv v4,rB r1.2.fGreat] 166,.row v4 83 4 (A4 Ab r1.2.fCells),.row hg 5 1 (A4 Bp hf)]) Aa (Am (AG (Aw (AI ((B1 r1.2.fS (hb+1),(hb+1)+1),()) hU (AL.c Aa (AL.c5 Aa Aa Aa Aa Aa (AL.c5 Aa Aa Aa Aa Aa (AL.c5 Aa Aa Aa Aa Aa (AL.c5 Aa Aa Aa Aa Aa AL.nil))))) (sC (sC (sC sN))))))))))))))))
       ·exact Ay (AG (Aw (AI ((B1 r1.2.fS hb,hb+1),()) hK (AL.c Aa (AL.c5 Aa Aa Aa Aa Aa (AL.c5 Aa Aa Aa Aa Aa (AL.c5 Aa Aa Aa Aa Aa (AL.c5 Aa Aa Aa Aa Aa AL.nil))))) (sC (sC (sC sN))))))
    ·rintro⟨⟨hi,hm⟩,⟨⟩⟩ hn;refine BW (l':=[(0,rP ha 0),(4,rv hg),(5,rI .u8 hi),(9,rP ha 0),(10,rP ha 0),(11,rP ha 1),(12,At hb),(13,rP ha 0),(14,rP ha 0),(15,rP ha 0),(16,rS r1.2.fS),(17,At (r1.2.fS.length:Int)),(19,rP ha 0),(20,rP ha 0),(21,rP ha 0),(22,rS r1.2.fS),(23,rP ha 0),(24,rP ha 0),(25,rP ha 1),(26,At hb),(27,rI .u8 (B1 r1.2.fS hb))]) (H':=[.blk ha [rS r1.2.fS,At hm,rv v4,rB r1.2.fGreat] 166,.row v4 83 4 (A4 Ab r1.2.fCells),.row hg 5 1 (A4 Bp hf)]) Aa Aa ?_;replace hn:JE hf hi hm=some hq:=hn;unfold JE at hn;refine Ai (wm Aa (wm Aa (Bb (ys:=([hi]:List Int)) (enc:=Bp) (css:=[[rI .u8 hi]]) (xs:=[.tmp 101]) Dq XQ XN Aa Aa Aa ⟨D1.one Aa (Up.refl _),trivial⟩ Aa Dj Aa Aa Aa (λhV=>?_))));refine ck hn λhW hX=>Exists.elim Jw λinf hinf=>Cb (xs:=hf) (ys:=([hi]:List Int)) (enc:=Bp) (i:=3) Dq hinf.1 hinf.2.1 hinf.2.2.1 hinf.2.2.2 Aa Aa Aa Aa Aa (If.w (i:=0) Aa Aa) Dj I6 hW Aa (λhs=>?_);refine wa Aa (Am (AG (BU (H2:=[.blk ha [rS r1.2.fS,At hm,rv v4,rB r1.2.fGreat] 166,.row v4 83 4 (A4 Ab r1.2.fCells),.row hs 5 1 (A4 Bp (hf++([hi]:List Int))),.row (.slice (some ⟨hV,0,none⟩) 1 1) 5 1 (A4 Bp ([hi]:List Int))]) ((As (i:=2) Aa).trans (Abp _ ((As (i:=2) Aa).trans (Abp _ (Abq _))))) ?_)));have hY:=Bk hX hj;exact Aw (AI (hy,(hf++([hi]:List Int),hm),hs) ⟨hY,Aby _⟩ (AL.c Aa (AL.c Aa AL.nil)) (sC (sC (sC (sS sN)))))
   ·refine Bx (A6 ?_);have hZ:=BX h1 hj hk;exact A6 (Be (AI (hb,()) hZ AL.nil (sC (sC (sS sN)))))
  ·rintro⟨ht,⟨⟩⟩ ho;refine Cy (l':=[]) (H':=[.blk ha [rS r1.2.fS,At ht,rv v4,rB r1.2.fGreat] 166,.row v4 83 4 (A4 Ab r1.2.fCells)]) Aa Aa ?_;replace ho:Ly r1 ht=some r:=ho;unfold Ly at ho;refine Bc (AP (Ak (wv (r:=rS ([]:Al)) (Az Aa) (wa Aa (Av (A1 ?_))))));obtain rfl:=A5 ho;exact A0 (DJ Ri (AM Aa) (AM Aa)) (sC (sC sN)) ⟨v4,Aa,Aa⟩
theorem Yb (F:Nat)(ha:Nat)(hl:Value)(q:AD)(r:Bool×AD)(h:Wb F q=some r):Fn Tryz.prog GE 185 [rP ha 0] [.blk ha [rS q.fS,At q.fAt,rv hl,rB q.fGreat] 166,.row hl 83 4 (A4 Ab q.fCells)] (λR H=>∃w0_2:Value,R=rB r.1∧H=[.blk ha [rS r.2.fS,At r.2.fAt,rv w0_2,rB r.2.fGreat] 166,.row w0_2 83 4 (A4 Ab r.2.fCells)]):=by
 refine enter (n:=104) Tryz.func185 Aa Tryz.ntmps185 Aa (λw Z=>?_);unfold Wb at h;refine Ak (wa Aa (Bs (wm Aa (wv (AB Aa) (vF BK Aa C6 (vL 0 CM Aa (wa Aa (Bs (wm Aa (ob h λr1 e3 h2=>DX (Hr:=[]) Hi (DQ ha hl q ([45]:Al) r1 e3) Aa (Abq _) Aa ?_))))))))));rintro _ _ ⟨v4,rfl,rfl⟩;refine Bs (wm Aa (wv (AB Aa) (vF BK Aa C6 (vL 0 CM Aa (wa Aa (Av (An (AJ (ob h2 λhp hq hr=>Bu (S:=Nat×(Int)×(Unit)) (V:=(Int)×(Unit)) 0 (λσ=>Ci (λσ=>L2 r1 σ) σ.1 σ.2.1=some hp) (λσ=>[(0,rP ha 0),(3,At q.fAt),(4,At r1.2.fAt)]) (λσ=>[.blk ha [rS r1.2.fS,At σ.2.1,rv v4,rB r1.2.fGreat] 166,.row v4 83 4 (A4 Ab r1.2.fCells)]) (λσ=>σ.1) (F,r1.2.fAt,()) hq (AL.c Aa (AL.c Aa (AL.c Aa AL.nil))) (sC (sC sN)) (λσ=>L0 q r1 σ.1=some r) (λσ=>[(0,rP ha 0),(3,At q.fAt),(4,At r1.2.fAt)]) (λσ=>[.blk ha [rS r1.2.fS,At σ.1,rv v4,rB r1.2.fGreat] 166,.row v4 83 4 (A4 Ab r1.2.fCells)]) ?_ ?_)))))))))
 ·rintro⟨hH,hd,⟨⟩⟩ hs;refine BW (l':=[(0,rP ha 0),(3,At q.fAt),(4,At r1.2.fAt)]) (H':=[.blk ha [rS r1.2.fS,At hd,rv v4,rB r1.2.fGreat] 166,.row v4 83 4 (A4 Ab r1.2.fCells)]) Aa Aa ?_;obtain⟨ht,rfl,hu,hj,hn⟩:=C4 hs;replace hj:L2 r1 hd=some hu:=hj;unfold L2 at hj;refine An (ck hj λhm hw=>AH [(0,rP ha 0),(3,At q.fAt),(4,At r1.2.fAt),(17,rP ha 0),(18,rP ha 0),(19,rP ha 1),(20,At hd),(21,rP ha 0),(22,rP ha 0),(23,rP ha 0),(24,rS r1.2.fS),(25,At (r1.2.fS.length:Int)),(26,rB (decide (hd<(r1.2.fS.length:Int)))),(27,rB (decide (hd<(r1.2.fS.length:Int)))),(38,rB ((decide (hd<(r1.2.fS.length:Int)))&&(decide (48≤(B1 r1.2.fS hd))))),(39,rB ((decide (hd<(r1.2.fS.length:Int)))&&(decide (48≤(B1 r1.2.fS hd))))),(50,rB ((decide (hd<(r1.2.fS.length:Int)))&&((decide (48≤(B1 r1.2.fS hd)))&&(decide ((B1 r1.2.fS hd)≤57)))))] [.blk ha [rS r1.2.fS,At hd,rv v4,rB r1.2.fGreat] 166,.row v4 83 4 (A4 Ab r1.2.fCells)] ?_ ?_)
  ·refine AO (decide (hd<(r1.2.fS.length:Int))) (λhe=>?_) (λhe=>?_)
   ·refine AO (decide (48≤(B1 r1.2.fS hd))) (λhf=>?_) (λhf=>?_)
    ·refine Do [0,3,4] [⟨[],rP ha 0,0⟩,⟨[0],rP ha 0,0⟩,⟨[1],rP ha 1,0⟩,⟨[2],At hd,1⟩,⟨[],rP ha 0,0⟩,⟨[4],rP ha 0,0⟩,⟨[5],rP ha 0,0⟩,⟨[6],rS r1.2.fS,1⟩,⟨[7],At (r1.2.fS.length:Int),0⟩,⟨[3,8],rB (decide (hd<(r1.2.fS.length:Int))),0⟩,⟨[9],rB (decide (hd<(r1.2.fS.length:Int))),0⟩,⟨[10],rP ha 0,0⟩,⟨[11,10],rP ha 0,0⟩,⟨[12,10],rP ha 0,0⟩,⟨[13,10],rS r1.2.fS,1⟩,⟨[10],rP ha 0,0⟩,⟨[15,10],rP ha 0,0⟩,⟨[16,10],rP ha 1,0⟩,⟨[17,10],At hd,1⟩,⟨[14,18,10],rI .u8 (B1 r1.2.fS hd),0⟩,⟨[19,10],rB (decide (48≤(B1 r1.2.fS hd))),0⟩,⟨[10,20],rB (decide (48≤(B1 r1.2.fS hd))),0⟩,⟨[21],rB (decide (48≤(B1 r1.2.fS hd))),0⟩,⟨[22],rP ha 0,0⟩,⟨[23,22],rP ha 0,0⟩,⟨[24,22],rP ha 0,0⟩,⟨[25,22],rS r1.2.fS,1⟩,⟨[22],rP ha 0,0⟩,⟨[27,22],rP ha 0,0⟩,⟨[28,22],rP ha 1,0⟩,⟨[29,22],At hd,1⟩,⟨[26,30,22],rI .u8 (B1 r1.2.fS hd),0⟩,⟨[31,22],rB (decide ((B1 r1.2.fS hd)≤57)),0⟩,⟨[22,32],rB (decide ((B1 r1.2.fS hd)≤57)),0⟩] [17,18,19,20,21,22,23,24,25,26,27,28,29,30,31,32,33,34,35,36,37,38,39,40,41,42,43,44,45,46,47,48,49,50,0,3,4] ?_ ?_
     ·refine oq (Aq Aa) (oq (AB Aa) (oq (A9 BK Aa C6 Aa Aa) (of (AT (i:=0) CM Aa Aa Aa) (oq (Aq Aa) (oq (AB Aa) (oq (A9 BK Aa Cv Aa Aa) (of (AT (i:=0) CD Aa Aa Aa) (oq (Bv Cu Aa) (oq (C0 Aa Aa) (oq (Aq Aa) (on he (oq (Aq Aa) (on he (oq (AB Aa) (on he (oq (A9 BK Aa Cv Aa Aa) (on he (of (AT (i:=0) CD Aa Aa Aa) (on he (oq (Aq Aa) (on he (oq (AB Aa) (on he ?_)))))))))))))))))))))));refine oq (A9 BK Aa C6 Aa Aa) (on he (of (AT (i:=0) CM Aa Aa Aa) (on he (oq (Bw Cu Aa Aa (Cr hm he)) (on he (oq (GH Aa Aa) (oq (A2 Aa he Aa) (oq (Aq Aa) (on hf (oq (Aq Aa) (on hf (oq (AB Aa) (on hf (oq (A9 BK Aa Cv Aa Aa) (on hf (of (AT (i:=0) CD Aa Aa Aa) (on hf (oq (Aq Aa) (on hf (oq (AB Aa) (on hf (oq (A9 BK Aa C6 Aa Aa) (on hf ?_)))))))))))))))))))))));refine of (AT (i:=0) CM Aa Aa Aa) (on hf (oq (Bw Cu Aa Aa (Cr hm he)) (on hf (oq (KL Aa Aa) (oq (A2 Aa hf Aa) ?_)))));exact CN
     exact BV (And.intro he hf)
    ·refine Do [0,3,4] [⟨[],rP ha 0,0⟩,⟨[0],rP ha 0,0⟩,⟨[1],rP ha 1,0⟩,⟨[2],At hd,1⟩,⟨[],rP ha 0,0⟩,⟨[4],rP ha 0,0⟩,⟨[5],rP ha 0,0⟩,⟨[6],rS r1.2.fS,1⟩,⟨[7],At (r1.2.fS.length:Int),0⟩,⟨[3,8],rB (decide (hd<(r1.2.fS.length:Int))),0⟩,⟨[9],rB (decide (hd<(r1.2.fS.length:Int))),0⟩,⟨[10],rP ha 0,0⟩,⟨[11,10],rP ha 0,0⟩,⟨[12,10],rP ha 0,0⟩,⟨[13,10],rS r1.2.fS,1⟩,⟨[10],rP ha 0,0⟩,⟨[15,10],rP ha 0,0⟩,⟨[16,10],rP ha 1,0⟩,⟨[17,10],At hd,1⟩,⟨[14,18,10],rI .u8 (B1 r1.2.fS hd),0⟩,⟨[19,10],rB (decide (48≤(B1 r1.2.fS hd))),0⟩,⟨[10,20],rB (decide (48≤(B1 r1.2.fS hd))),0⟩,⟨[21],rB (decide (48≤(B1 r1.2.fS hd))),0⟩,⟨[22],rv undef,0⟩,⟨[23,22],rv undef,0⟩,⟨[24,22],rv undef,0⟩,⟨[25,22],rv undef,0⟩,⟨[22],rv undef,0⟩,⟨[27,22],rv undef,0⟩,⟨[28,22],rv undef,0⟩,⟨[29,22],rv undef,0⟩,⟨[26,30,22],rv undef,0⟩,⟨[31,22],rv undef,0⟩,⟨[22,32],rB false,0⟩] [17,18,19,20,21,22,23,24,25,26,27,28,29,30,31,32,33,34,35,36,37,38,39,40,41,42,43,44,45,46,47,48,49,50,0,3,4] ?_ ?_
     ·refine oq (Aq Aa) (oq (AB Aa) (oq (A9 BK Aa C6 Aa Aa) (of (AT (i:=0) CM Aa Aa Aa) (oq (Aq Aa) (oq (AB Aa) (oq (A9 BK Aa Cv Aa Aa) (of (AT (i:=0) CD Aa Aa Aa) (oq (Bv Cu Aa) (oq (C0 Aa Aa) (oq (Aq Aa) (on he (oq (Aq Aa) (on he (oq (AB Aa) (on he (oq (A9 BK Aa Cv Aa Aa) (on he (of (AT (i:=0) CD Aa Aa Aa) (on he (oq (Aq Aa) (on he (oq (AB Aa) (on he ?_)))))))))))))))))))))));refine oq (A9 BK Aa C6 Aa Aa) (on he (of (AT (i:=0) CM Aa Aa Aa) (on he (oq (Bw Cu Aa Aa (Cr hm he)) (on he (oq (GH Aa Aa) (oq (A2 Aa he Aa) (oq (Aq Aa) (oz hf (oz hf (oz hf (oz hf (oz hf (oz hf (oz hf (oz hf (oz hf (oz hf (oq (A8 (b:=decide (48≤(B1 r1.2.fS hd))) Aa hf Aa) ?_)))))))))))))))))));exact CN
     exact BV (And.intro he hf)
   ·refine Do [0,3,4] [⟨[],rP ha 0,0⟩,⟨[0],rP ha 0,0⟩,⟨[1],rP ha 1,0⟩,⟨[2],At hd,1⟩,⟨[],rP ha 0,0⟩,⟨[4],rP ha 0,0⟩,⟨[5],rP ha 0,0⟩,⟨[6],rS r1.2.fS,1⟩,⟨[7],At (r1.2.fS.length:Int),0⟩,⟨[3,8],rB (decide (hd<(r1.2.fS.length:Int))),0⟩,⟨[9],rB (decide (hd<(r1.2.fS.length:Int))),0⟩,⟨[10],rv undef,0⟩,⟨[11,10],rv undef,0⟩,⟨[12,10],rv undef,0⟩,⟨[13,10],rv undef,0⟩,⟨[10],rv undef,0⟩,⟨[15,10],rv undef,0⟩,⟨[16,10],rv undef,0⟩,⟨[17,10],rv undef,0⟩,⟨[14,18,10],rv undef,0⟩,⟨[19,10],rv undef,0⟩,⟨[10,20],rB false,0⟩,⟨[21],rB false,0⟩,⟨[22],rv undef,0⟩,⟨[23,22],rv undef,0⟩,⟨[24,22],rv undef,0⟩,⟨[25,22],rv undef,0⟩,⟨[22],rv undef,0⟩,⟨[27,22],rv undef,0⟩,⟨[28,22],rv undef,0⟩,⟨[29,22],rv undef,0⟩,⟨[26,30,22],rv undef,0⟩,⟨[31,22],rv undef,0⟩,⟨[22,32],rB false,0⟩] [17,18,19,20,21,22,23,24,25,26,27,28,29,30,31,32,33,34,35,36,37,38,39,40,41,42,43,44,45,46,47,48,49,50,0,3,4] ?_ ?_
    ·refine oq (Aq Aa) (oq (AB Aa) (oq (A9 BK Aa C6 Aa Aa) (of (AT (i:=0) CM Aa Aa Aa) (oq (Aq Aa) (oq (AB Aa) (oq (A9 BK Aa Cv Aa Aa) (of (AT (i:=0) CD Aa Aa Aa) (oq (Bv Cu Aa) (oq (C0 Aa Aa) (oq (Aq Aa) (oz he (oz he (oz he (oz he (oz he (oz he (oz he (oz he (oz he (oz he (oq (A8 (b:=decide (hd<(r1.2.fS.length:Int))) Aa he Aa) (oq (Aq Aa) (oz Aa ?_)))))))))))))))))))))));refine oz Aa (oz Aa (oz Aa (oz Aa (oz Aa (oz Aa (oz Aa (oz Aa (oz Aa (oq (A8 (b:=false) Aa Aa Aa) ?_)))))))));exact CN
    exact BV he
  refine cz hw Aa (λhx hy=>?_) (λhx hz=>?_)
  ·refine Ay (AP (AJ (Ai (wm Aa (wv (AB Aa) (vF BK Aa C6 (vL 0 CM Aa (ck hy λh0 h1=>wv (Bz Aa Aa h0) (wv (AB Aa) (vF BK Aa C6 (BA (i:=0) C6 Aa Aa (BD Aa) Aa Aa (cs':=[rS r1.2.fS,At (hd+1),rv v4,rB r1.2.fGreat]) Aa (H':=[.blk ha [rS r1.2.fS,At (hd+1),rv v4,rB r1.2.fGreat] 166,.row v4 83 4 (A4 Ab r1.2.fCells)]) Aa (Am (AG ?_)))))))))))));have h3:=Bk h1 hn;exact Aw (AI (ht,hd+1,()) ⟨h3,Aby _⟩ (AL.c Aa (AL.c Aa (AL.c Aa AL.nil))) (sC (sC sN)))
  ·refine Bx (A6 ?_);have h4:=BX hz hn hr;exact A6 (Be (AI (hd,()) h4 (AL.c Aa (AL.c Aa (AL.c Aa AL.nil))) (sC (sC sN))))
 ·rintro⟨hb,⟨⟩⟩ hk;refine Cy (l':=[(0,rP ha 0),(3,At q.fAt),(4,At r1.2.fAt)]) (H':=[.blk ha [rS r1.2.fS,At hb,rv v4,rB r1.2.fGreat] 166,.row v4 83 4 (A4 Ab r1.2.fCells)]) Aa Aa ?_;replace hk:L0 q r1 hb=some r:=hk;unfold L0 at hk;refine Bc (AP (An (ck hk λh5 h6=>ck h6 λh7 h8=>ck h8 λh9 hA=>Do [0,3,4] [⟨[],rP ha 0,0⟩,⟨[0],rP ha 0,0⟩,⟨[1],rP ha 0,0⟩,⟨[2],rS r1.2.fS,1⟩,⟨[],At q.fAt,0⟩,⟨[],rP ha 0,0⟩,⟨[5],rP ha 0,0⟩,⟨[6],rP ha 1,0⟩,⟨[7],At hb,1⟩,⟨[3,4,8],rS (List.take (B4 hb-B4 q.fAt) (List.drop (B4 q.fAt) r1.2.fS)),0⟩,⟨[9],C7 [At (AX (List.take (B4 hb-B4 q.fAt) (List.drop (B4 q.fAt) r1.2.fS))),At (C2 (List.take (B4 hb-B4 q.fAt) (List.drop (B4 q.fAt) r1.2.fS)))],0⟩,⟨[10],C7 [At (AX (List.take (B4 hb-B4 q.fAt) (List.drop (B4 q.fAt) r1.2.fS))),At (C2 (List.take (B4 hb-B4 q.fAt) (List.drop (B4 q.fAt) r1.2.fS)))],0⟩,⟨[11],At (AX (List.take (B4 hb-B4 q.fAt) (List.drop (B4 q.fAt) r1.2.fS))),0⟩,⟨[11],At (C2 (List.take (B4 hb-B4 q.fAt) (List.drop (B4 q.fAt) r1.2.fS))),0⟩,⟨[12],At (AX (List.take (B4 hb-B4 q.fAt) (List.drop (B4 q.fAt) r1.2.fS))),0⟩,⟨[13],At (C2 (List.take (B4 hb-B4 q.fAt) (List.drop (B4 q.fAt) r1.2.fS))),0⟩] [5,6,0,4] ?_ ?_)))
  ·refine oq (Aq Aa) (oq (AB Aa) (oq (A9 BK Aa Cv Aa Aa) (of (AT (i:=0) CD Aa Aa Aa) (oq (Aq Aa) (oq (Aq Aa) (oq (AB Aa) (oq (A9 BK Aa C6 Aa Aa) (of (AT (i:=0) CM Aa Aa Aa) (oq (Gs Cu Aa Aa Aa h5 h7) (Hu Aa (λH=>Dw (rs:=[rS (List.take (B4 hb-B4 q.fAt) (List.drop (B4 q.fAt) r1.2.fS))]) (r:=C7 [At (AX (List.take (B4 hb-B4 q.fAt) (List.drop (B4 q.fAt) r1.2.fS))),At (C2 (List.take (B4 hb-B4 q.fAt) (List.drop (B4 q.fAt) r1.2.fS)))]) VQ Aa (LL (List.take (B4 hb-B4 q.fAt) (List.drop (B4 q.fAt) r1.2.fS)) h9) Aa) ?_))))))))));refine oq (Aq Aa) (oq (AA Aa Aa) (oq (AA Aa Aa) (oq (Az Aa) (oq (Az Aa) ?_))));exact CN
  refine AP (An (AH [(0,rP ha 0),(5,At (AX (List.take (B4 hb-B4 q.fAt) (List.drop (B4 q.fAt) r1.2.fS)))),(6,At (C2 (List.take (B4 hb-B4 q.fAt) (List.drop (B4 q.fAt) r1.2.fS)))),(81,rB ((decide ((C2 (List.take (B4 hb-B4 q.fAt) (List.drop (B4 q.fAt) r1.2.fS)))=1))||(decide (r1.2.fAt=hb))))] [.blk ha [rS r1.2.fS,At hb,rv v4,rB r1.2.fGreat] 166,.row v4 83 4 (A4 Ab r1.2.fCells)] ?_ ?_))
  ·refine Ai (wm Aa (wv (B5 Aa Aa) (wm Aa (AO (decide ((C2 (List.take (B4 hb-B4 q.fAt) (List.drop (B4 q.fAt) r1.2.fS)))=1)) (λhg=>?_) (λhg=>?_)))))
   ·refine wf hg (wf hg (wf hg (wf hg (wf hg (wf hg (wv (r:=rB true) (A2 Aa hg Aa) (Am ?_)))))));exact BV hg
   ·refine wo hg (wm Aa (wo hg (wm Aa (wo hg (wv (AB Aa) (wo hg (vF BK Aa C6 (wo hg (vL 0 CM Aa (wo hg (wv (B5 Aa Aa) (E2 Aa hg Aa (Am ?_)))))))))))));exact BV hg
  refine cz hA Aa (λhB hC=>?_) (λhB hD=>?_)
  ·refine Ak (wa Aa (Av (A1 (Ae ?_))));obtain rfl:=A5 hC;exact A0 (BJ Tryz.results185 (AM Aa)) (sC (sC sN)) ⟨v4,Aa,Aa⟩
  ·refine Ay (AP (AH [(0,rP ha 0),(5,At (AX (List.take (B4 hb-B4 q.fAt) (List.drop (B4 q.fAt) r1.2.fS))))] [.blk ha [rS r1.2.fS,At hb,rv v4,rB (r1.2.fGreat||(!decide ((C2 (List.take (B4 hb-B4 q.fAt) (List.drop (B4 q.fAt) r1.2.fS)))=0)))] 166,.row v4 83 4 (A4 Ab r1.2.fCells)] ?_ ?_))
   ·refine Ai (wm Aa (wm Aa (wv (AB Aa) (vF BK Aa I9 (vL 0 U4 Aa (wm Aa (AO (r1.2.fGreat) (λhh=>?_) (λhh=>?_))))))))
    ·refine wf hh (wf hh (wv (r:=rB true) (A2 rfl hh rfl) (wv (AB rfl) (vF BK rfl I9 (BA (i:=0) I9 rfl rfl (BD rfl) rfl rfl (cs':=[rS r1.2.fS,At hb,rv v4,rB true]) rfl (H':=[.blk ha [rS r1.2.fS,At hb,rv v4,rB true] 166,.row v4 83 4 (A4 Ab r1.2.fCells)]) rfl (Am (IB (H':=[.blk ha [rS r1.2.fS,At hb,rv v4,rB (r1.2.fGreat||(!decide ((C2 (List.take (B4 hb-B4 q.fAt) (List.drop (B4 q.fAt) r1.2.fS)))=0)))] 166,.row v4 83 4 (A4 Ab r1.2.fCells)]) (by simp only[hh,Ab1,Ab6,AbD,Ab2,Ab8,Ab7,AbC,Ab9,Abw,Ab5,Ab0,Abu]) ?_)))))));exact wt
    ·refine wo hh (wm rfl (wo hh (wv (BT rfl rfl) (E2 rfl hh rfl (wv (AB rfl) (vF BK rfl I9 (BA (i:=0) I9 rfl rfl (BD rfl) rfl rfl (cs':=[rS r1.2.fS,At hb,rv v4,rB (!decide ((C2 (List.take (B4 hb-B4 q.fAt) (List.drop (B4 q.fAt) r1.2.fS)))=0))]) rfl (H':=[.blk ha [rS r1.2.fS,At hb,rv v4,rB (!decide ((C2 (List.take (B4 hb-B4 q.fAt) (List.drop (B4 q.fAt) r1.2.fS)))=0))] 166,.row v4 83 4 (A4 Ab r1.2.fCells)]) rfl (Am (IB (H':=[.blk ha [rS r1.2.fS,At hb,rv v4,rB (r1.2.fGreat||(!decide ((C2 (List.take (B4 hb-B4 q.fAt) (List.drop (B4 q.fAt) r1.2.fS)))=0)))] 166,.row v4 83 4 (A4 Ab r1.2.fCells)]) (by simp only[hh,Ab1,Ab6,AbD,Ab2,Ab8,Ab7,AbC,Ab9,Abw,Ab5,Ab0,Abu]) ?_)))))))));exact wt
   refine Ak (wm Aa (wm Aa (wv (AB Aa) (vF BK Aa C5 (vL 0 Dt Aa (wm Aa (wv (r:=BQ [At 3,At (AX (List.take (B4 hb-B4 q.fAt) (List.drop (B4 q.fAt) r1.2.fS))),rS ([]:Al),At 0]) (Ia Aa Aa Aa Aa) (Bb (ys:=([(Ac.mk 3 (AX (List.take (B4 hb-B4 q.fAt) (List.drop (B4 q.fAt) r1.2.fS))) ([]:Al) 0)]:List Ac)) (enc:=Ab) (css:=[[At 3,At (AX (List.take (B4 hb-B4 q.fAt) (List.drop (B4 q.fAt) r1.2.fS))),rS ([]:Al),At 0]]) (xs:=[.tmp 99]) Co CC Lc Aa Aa Aa ⟨D1.agg ⟨Up.refl _,Up.refl _,Up.refl _,Up.refl _,trivial⟩,trivial⟩ Aa BG Aa Aa Aa (λho=>?_)))))))));refine ck hD λhE hG=>Exists.elim Jc λinf hinf=>Cb (xs:=r1.2.fCells) (ys:=([(Ac.mk 3 (AX (List.take (B4 hb-B4 q.fAt) (List.drop (B4 q.fAt) r1.2.fS))) ([]:Al) 0)]:List Ac)) (enc:=Ab) (i:=2) Co hinf.1 hinf.2.1 hinf.2.2.1 hinf.2.2.2 Aa Aa Aa Aa Aa (If.w (i:=0) Aa Aa) BG Df hE Aa (λhi=>?_);refine wv (AB Aa) (vF BK Aa C5 (BA (i:=2) C5 Aa Aa (CB (i:=0) Aa) Aa Aa (cs':=[rS r1.2.fS,At hb,rv hi,rB (r1.2.fGreat||(!decide ((C2 (List.take (B4 hb-B4 q.fAt) (List.drop (B4 q.fAt) r1.2.fS)))=0)))]) Aa (H':=[.row hi 83 4 (A4 Ab (r1.2.fCells++([(Ac.mk 3 (AX (List.take (B4 hb-B4 q.fAt) (List.drop (B4 q.fAt) r1.2.fS))) ([]:Al) 0)]:List Ac))),.row (.slice (some ⟨ho,0,none⟩) 1 1) 83 4 (A4 Ab ([(Ac.mk 3 (AX (List.take (B4 hb-B4 q.fAt) (List.drop (B4 q.fAt) r1.2.fS))) ([]:Al) 0)]:List Ac)),.blk ha [rS r1.2.fS,At hb,rv hi,rB (r1.2.fGreat||(!decide ((C2 (List.take (B4 hb-B4 q.fAt) (List.drop (B4 q.fAt) r1.2.fS)))=0)))] 166]) Aa (Bs (wa Aa (Av (A1 (BU (H2:=[.blk ha [rS r1.2.fS,At hb,rv hi,rB (r1.2.fGreat||(!decide ((C2 (List.take (B4 hb-B4 q.fAt) (List.drop (B4 q.fAt) r1.2.fS)))=0)))] 166,.row hi 83 4 (A4 Ab (r1.2.fCells++([(Ac.mk 3 (AX (List.take (B4 hb-B4 q.fAt) (List.drop (B4 q.fAt) r1.2.fS))) ([]:Al) 0)]:List Ac))),.row (.slice (some ⟨ho,0,none⟩) 1 1) 83 4 (A4 Ab ([(Ac.mk 3 (AX (List.take (B4 hb-B4 q.fAt) (List.drop (B4 q.fAt) r1.2.fS))) ([]:Al) 0)]:List Ac))]) ((As (i:=2) Aa).trans (Abp _ (Abq _))) ?_)))))));obtain rfl:=A5 hG;exact A0 (BJ Tryz.results185 (AM Aa)) (sC (sC (sS sN))) ⟨hi,Aa,Aa⟩
theorem SK (F:Nat)(hd:Nat)(hk:Value)(q:AD)(r:Bool×AD)(h:NQ F q=some r):Fn Tryz.prog GE 160 [rP hd 0] [.blk hd [rS q.fS,At q.fAt,rv hk,rB q.fGreat] 166,.row hk 83 4 (A4 Ab q.fCells)] (λR H=>∃w0_2:Value,R=rB r.1∧H=[.blk hd [rS r.2.fS,At r.2.fAt,rv w0_2,rB r.2.fGreat] 166,.row w0_2 83 4 (A4 Ab r.2.fCells)]):=by
 refine enter (n:=75) Tryz.func160 Aa Tryz.ntmps160 Aa (λw Z=>?_);unfold NQ at h;refine Ak (wa Aa (Av (Dm (S:=(Al×Int×(List Ac)×Bool)×(Value)) (λσ=>Ed σ.1.1 σ.1.2.1 σ.1.2.2.1 σ.1.2.2.2=some r) (λσ=>[]) (λσ=>[.blk hd [rS σ.1.1,At σ.1.2.1,rv σ.2,rB σ.1.2.2.2] 166,.row σ.2 83 4 (A4 Ab σ.1.2.2.1)]) ?_ ?_)))
 ·refine AJ (Ak (wm Aa (ob h λhe hx hy=>DX (Hr:=[]) Hi (DQ hd hk q ([110,117,108,108]:Al) he hx) Aa (Abq _) Aa ?_)));rintro _ _ ⟨hz,rfl,rfl⟩;refine wa Aa (Av (cz hy Aa (λh0 h1=>?_) (λh0 h2=>?_)))
  ·refine Ai (wm Aa (wm Aa (wv (AB Aa) (vF BK Aa C5 (vL 0 Dt Aa (wv (r:=BQ [At 1,At 0,rS ([]:Al),At 0]) (HG Aa Aa) (Bb (ys:=([(Ac.mk 1 0 ([]:Al) 0)]:List Ac)) (enc:=Ab) (css:=[[At 1,At 0,rS ([]:Al),At 0]]) (xs:=[.tmp 15]) Co CC Lc Aa Aa Aa ⟨D1.agg ⟨Up.refl _,Up.refl _,Up.refl _,Up.refl _,trivial⟩,trivial⟩ Aa BG Aa Aa Aa (λhn=>?_))))))));refine ck h1 λh3 h4=>Exists.elim Jc λinf hinf=>Cb (xs:=he.2.fCells) (ys:=([(Ac.mk 1 0 ([]:Al) 0)]:List Ac)) (enc:=Ab) (i:=2) Co hinf.1 hinf.2.1 hinf.2.2.1 hinf.2.2.2 Aa Aa Aa Aa Aa (If.w (i:=0) Aa Aa) BG Df h3 Aa (λhg=>?_);exact wv (AB Aa) (vF BK Aa C5 (BA (i:=2) C5 Aa Aa (CB (i:=0) Aa) Aa Aa (cs':=[rS he.2.fS,At he.2.fAt,rv hg,rB he.2.fGreat]) Aa (H':=[.row hg 83 4 (A4 Ab (he.2.fCells++([(Ac.mk 1 0 ([]:Al) 0)]:List Ac))),.row (.slice (some ⟨hn,0,none⟩) 1 1) 83 4 (A4 Ab ([(Ac.mk 1 0 ([]:Al) 0)]:List Ac)),.blk hd [rS he.2.fS,At he.2.fAt,rv hg,rB he.2.fGreat] 166]) Aa (Am (AG (BU (H2:=[.blk hd [rS he.2.fS,At he.2.fAt,rv hg,rB he.2.fGreat] 166,.row hg 83 4 (A4 Ab (he.2.fCells++([(Ac.mk 1 0 ([]:Al) 0)]:List Ac))),.row (.slice (some ⟨hn,0,none⟩) 1 1) 83 4 (A4 Ab ([(Ac.mk 1 0 ([]:Al) 0)]:List Ac))]) ((As (i:=2) Aa).trans (Abp _ (Abq _))) (Aw (AI ((he.2.fS,he.2.fAt,he.2.fCells++([(Ac.mk 1 0 ([]:Al) 0)]:List Ac),he.2.fGreat),hg) h4 AL.nil (sC (sC (sS sN))))))))))
  ·refine Ak (wm Aa (ob h2 λhf h5 h6=>DX (Hr:=[]) Hi (DQ hd hz he.2 ([116,114,117,101]:Al) hf h5) Aa (Abq _) Aa ?_));rintro _ _ ⟨v76,rfl,rfl⟩;refine wa Aa (Av (cz h6 Aa (λh7 h8=>?_) (λh7 h9=>?_)))
   ·refine Ai (wm Aa (wm Aa (wv (AB Aa) (vF BK Aa C5 (vL 0 Dt Aa (wv (r:=BQ [At 2,At 1,rS ([]:Al),At 0]) (Ia Aa Aa Aa Aa) (Bb (ys:=([(Ac.mk 2 1 ([]:Al) 0)]:List Ac)) (enc:=Ab) (css:=[[At 2,At 1,rS ([]:Al),At 0]]) (xs:=[.tmp 28]) Co CC Lc Aa Aa Aa ⟨D1.agg ⟨Up.refl _,Up.refl _,Up.refl _,Up.refl _,trivial⟩,trivial⟩ Aa BG Aa Aa Aa (λho=>?_))))))));refine ck h8 λhA hB=>Exists.elim Jc λinf hinf=>Cb (xs:=hf.2.fCells) (ys:=([(Ac.mk 2 1 ([]:Al) 0)]:List Ac)) (enc:=Ab) (i:=2) Co hinf.1 hinf.2.1 hinf.2.2.1 hinf.2.2.2 Aa Aa Aa Aa Aa (If.w (i:=0) Aa Aa) BG Df hA Aa (λv80=>?_);exact wv (AB Aa) (vF BK Aa C5 (BA (i:=2) C5 Aa Aa (CB (i:=0) Aa) Aa Aa (cs':=[rS hf.2.fS,At hf.2.fAt,rv v80,rB hf.2.fGreat]) Aa (H':=[.row v80 83 4 (A4 Ab (hf.2.fCells++([(Ac.mk 2 1 ([]:Al) 0)]:List Ac))),.row (.slice (some ⟨ho,0,none⟩) 1 1) 83 4 (A4 Ab ([(Ac.mk 2 1 ([]:Al) 0)]:List Ac)),.blk hd [rS hf.2.fS,At hf.2.fAt,rv v80,rB hf.2.fGreat] 166]) Aa (Am (AG (BU (H2:=[.blk hd [rS hf.2.fS,At hf.2.fAt,rv v80,rB hf.2.fGreat] 166,.row v80 83 4 (A4 Ab (hf.2.fCells++([(Ac.mk 2 1 ([]:Al) 0)]:List Ac))),.row (.slice (some ⟨ho,0,none⟩) 1 1) 83 4 (A4 Ab ([(Ac.mk 2 1 ([]:Al) 0)]:List Ac))]) ((As (i:=2) Aa).trans (Abp _ (Abq _))) (Aw (AI ((hf.2.fS,hf.2.fAt,hf.2.fCells++([(Ac.mk 2 1 ([]:Al) 0)]:List Ac),hf.2.fGreat),v80) hB AL.nil (sC (sC (sS sN))))))))))
   ·refine Ak (wm Aa (ob h9 λhb hC hD=>DX (Hr:=[]) Hi (DQ hd v76 hf.2 ([102,97,108,115,101]:Al) hb hC) Aa (Abq _) Aa ?_));rintro _ _ ⟨hp,rfl,rfl⟩;refine wa Aa (Av (cz hD Aa (λhE hG=>?_) (λhE hH=>?_)))
    ·refine Ai (wm Aa (wm Aa (wv (AB Aa) (vF BK Aa C5 (vL 0 Dt Aa (wv (r:=BQ [At 2,At 0,rS ([]:Al),At 0]) (HG Aa Aa) (Bb (ys:=([(Ac.mk 2 0 ([]:Al) 0)]:List Ac)) (enc:=Ab) (css:=[[At 2,At 0,rS ([]:Al),At 0]]) (xs:=[.tmp 41]) Co CC Lc Aa Aa Aa ⟨D1.agg ⟨Up.refl _,Up.refl _,Up.refl _,Up.refl _,trivial⟩,trivial⟩ Aa BG Aa Aa Aa (λhq=>?_))))))));refine ck hG λhI hJ=>Exists.elim Jc λinf hinf=>Cb (xs:=hb.2.fCells) (ys:=([(Ac.mk 2 0 ([]:Al) 0)]:List Ac)) (enc:=Ab) (i:=2) Co hinf.1 hinf.2.1 hinf.2.2.1 hinf.2.2.2 Aa Aa Aa Aa Aa (If.w (i:=0) Aa Aa) BG Df hI Aa (λhh=>?_);exact wv (AB Aa) (vF BK Aa C5 (BA (i:=2) C5 Aa Aa (CB (i:=0) Aa) Aa Aa (cs':=[rS hb.2.fS,At hb.2.fAt,rv hh,rB hb.2.fGreat]) Aa (H':=[.row hh 83 4 (A4 Ab (hb.2.fCells++([(Ac.mk 2 0 ([]:Al) 0)]:List Ac))),.row (.slice (some ⟨hq,0,none⟩) 1 1) 83 4 (A4 Ab ([(Ac.mk 2 0 ([]:Al) 0)]:List Ac)),.blk hd [rS hb.2.fS,At hb.2.fAt,rv hh,rB hb.2.fGreat] 166]) Aa (Am (AG (BU (H2:=[.blk hd [rS hb.2.fS,At hb.2.fAt,rv hh,rB hb.2.fGreat] 166,.row hh 83 4 (A4 Ab (hb.2.fCells++([(Ac.mk 2 0 ([]:Al) 0)]:List Ac))),.row (.slice (some ⟨hq,0,none⟩) 1 1) 83 4 (A4 Ab ([(Ac.mk 2 0 ([]:Al) 0)]:List Ac))]) ((As (i:=2) Aa).trans (Abp _ (Abq _))) (Aw (AI ((hb.2.fS,hb.2.fAt,hb.2.fCells++([(Ac.mk 2 0 ([]:Al) 0)]:List Ac),hb.2.fGreat),hh) hJ AL.nil (sC (sC (sS sN))))))))))
    ·refine An (ck hH λhK hL=>ob hL λhl hN hO=>Do [0] [⟨[],rP hd 0,0⟩,⟨[0],rP hd 0,0⟩,⟨[1],rP hd 0,0⟩,⟨[2],rS hb.2.fS,1⟩,⟨[],rP hd 0,0⟩,⟨[4],rP hd 0,0⟩,⟨[5],rP hd 1,0⟩,⟨[6],At hb.2.fAt,1⟩,⟨[3,7],rS (List.drop (B4 hb.2.fAt) hb.2.fS),0⟩,⟨[8],rB hl,0⟩,⟨[9],rB hl,0⟩] [46,0] ?_ ?_)
     ·refine oq (Aq Aa) (oq (AB Aa) (oq (A9 BK Aa Cv Aa Aa) (of (AT (i:=0) CD Aa Aa Aa) (oq (Aq Aa) (oq (AB Aa) (oq (A9 BK Aa C6 Aa Aa) (of (AT (i:=0) CM Aa Aa Aa) (oq (DT Cu Aa Aa hK) (Hu Aa (λH=>Em Tryz.call184 (MY (List.drop (B4 hb.2.fAt) hb.2.fS) ([34]:Al) hl hN) Aa) ?_)))))))));refine oq (Az Aa) ?_;exact CN
     refine AP (cz hO Aa (λhP hQ=>?_) (λhP hR=>?_))
     ·refine Ak (wm Aa (ob hQ λha hS hT=>DX (Hr:=[]) Tryz.call161 (T8 F hd hp hb.2 ha hS) Aa (Abq _) Aa ?_));rintro _ _ ⟨hU,rfl,rfl⟩;refine wm Aa (wv (AA Aa Aa) (wv (AA Aa Aa) (wa Aa (wa Aa (Av (An (Ak (wm Aa (wv (BE Aa) (Av (cz hT Aa (λhV hW=>?_) (λhV hX=>?_))))))))))))
      ·refine Ak (wa Aa (Av (A1 (Ae (AC (Ae ?_))))));obtain rfl:=A5 hW;exact A0 (BJ Tryz.results160 (AM Aa)) (sC (sC sN)) ⟨hU,Aa,Aa⟩
      ·refine Ay (AP (Ai (wm Aa (wm Aa (wv (AB Aa) (vF BK Aa C5 (vL 0 Dt Aa (wm Aa (wv (r:=BQ [At 4,At 0,rS ha.1,At 0]) (KU Aa Aa Aa Aa) (Bb (ys:=([(Ac.mk 4 0 ha.1 0)]:List Ac)) (enc:=Ab) (css:=[[At 4,At 0,rS ha.1,At 0]]) (xs:=[.tmp 70]) Co CC Lc Aa Aa Aa ⟨D1.agg ⟨Up.refl _,Up.refl _,Up.refl _,Up.refl _,trivial⟩,trivial⟩ Aa BG Aa Aa Aa (λhr=>?_)))))))))));refine ck hX λhY hZ=>Exists.elim Jc λinf hinf=>Cb (xs:=ha.2.2.fCells) (ys:=([(Ac.mk 4 0 ha.1 0)]:List Ac)) (enc:=Ab) (i:=2) Co hinf.1 hinf.2.1 hinf.2.2.1 hinf.2.2.2 Aa Aa Aa Aa Aa (If.w (i:=0) Aa Aa) BG Df hY Aa (λhi=>?_);exact wv (AB Aa) (vF BK Aa C5 (BA (i:=2) C5 Aa Aa (CB (i:=0) Aa) Aa Aa (cs':=[rS ha.2.2.fS,At ha.2.2.fAt,rv hi,rB ha.2.2.fGreat]) Aa (H':=[.row hi 83 4 (A4 Ab (ha.2.2.fCells++([(Ac.mk 4 0 ha.1 0)]:List Ac))),.row (.slice (some ⟨hr,0,none⟩) 1 1) 83 4 (A4 Ab ([(Ac.mk 4 0 ha.1 0)]:List Ac)),.blk hd [rS ha.2.2.fS,At ha.2.2.fAt,rv hi,rB ha.2.2.fGreat] 166]) Aa (Am (AG (BU (H2:=[.blk hd [rS ha.2.2.fS,At ha.2.2.fAt,rv hi,rB ha.2.2.fGreat] 166,.row hi 83 4 (A4 Ab (ha.2.2.fCells++([(Ac.mk 4 0 ha.1 0)]:List Ac))),.row (.slice (some ⟨hr,0,none⟩) 1 1) 83 4 (A4 Ab ([(Ac.mk 4 0 ha.1 0)]:List Ac))]) ((As (i:=2) Aa).trans (Abp _ (Abq _))) (Aw (AI ((ha.2.2.fS,ha.2.2.fAt,ha.2.2.fCells++([(Ac.mk 4 0 ha.1 0)]:List Ac),ha.2.2.fGreat),hi) hZ AL.nil (sC (sC (sS sN))))))))))
     ·refine Ak (wm Aa (ob hR λga gb gc=>DX (Hr:=[]) Tryz.call185 (Yb F hd hp hb.2 ga gb) Aa (Abq _) Aa ?_));rintro _ _ ⟨gd,rfl,rfl⟩;refine wa Aa (Av (A1 (AC (Ae ?_))));obtain rfl:=A5 gc;exact A0 (BJ Tryz.results160 (AM Aa)) (sC (sC sN)) ⟨gd,Aa,Aa⟩
 ·rintro⟨⟨hs,ht,hu,hw⟩,hm⟩ hj;refine BW (l':=[]) (H':=[.blk hd [rS hs,At ht,rv hm,rB hw] 166,.row hm 83 4 (A4 Ab hu)]) Aa Aa ?_;replace hj:Ed hs ht hu hw=some r:=hj;unfold Ed at hj;refine Ak (wa Aa (Av (A1 ?_)));obtain rfl:=A5 hj;exact A0 (BJ Tryz.results160 (AM Aa)) (sC (sC sN)) ⟨hm,Aa,Aa⟩
theorem SJ (F:Nat)(hi:AD→Option (Bool×AD))(gb:(∀(hb:Nat) (hr:Value) (q:AD) (r:Bool×AD),hi q=some r→Fn Tryz.prog GE 125 [rP hb 0] [.blk hb [rS q.fS,At q.fAt,rv hr,rB q.fGreat] 166,.row hr 83 4 (A4 Ab q.fCells)] (λR H=>∃w0_2:Value,R=rB r.1∧H=[.blk hb [rS r.2.fS,At r.2.fAt,rv w0_2,rB r.2.fGreat] 166,.row w0_2 83 4 (A4 Ab r.2.fCells)])))(hb:Nat)(hr:Value)(q:AD)(r:Bool×AD)(h:NN F hi q=some r):Fn Tryz.prog GE 125 [rP hb 0] [.blk hb [rS q.fS,At q.fAt,rv hr,rB q.fGreat] 166,.row hr 83 4 (A4 Ab q.fCells)] (λR H=>∃w0_2:Value,R=rB r.1∧H=[.blk hb [rS r.2.fS,At r.2.fAt,rv w0_2,rB r.2.fGreat] 166,.row w0_2 83 4 (A4 Ab r.2.fCells)]):=by
 refine enter (n:=96) Tryz.func125 Aa Tryz.ntmps125 Aa (λw Z=>?_);unfold NN at h;refine Ak (wa Aa (Bs (wm Aa (ob h λr1 e3 h2=>DX (Hr:=[]) Hi (DQ hb hr q ([91]:Al) r1 e3) Aa (Abq _) Aa ?_))));rintro _ _ ⟨v4,rfl,rfl⟩;refine wa Aa (Av (An (Dm (S:=(Bool×Al×Int×(List Ac)×Bool)×(Value)) (λσ=>Hn F hi r1 σ.1.1 σ.1.2.1 σ.1.2.2.1 σ.1.2.2.2.1 σ.1.2.2.2.2=some r) (λσ=>[(0,rP hb 0),(2,rB false),(3,rB r1.1),(19,rB σ.1.1)]) (λσ=>[.blk hb [rS σ.1.2.1,At σ.1.2.2.1,rv σ.2,rB σ.1.2.2.2.2] 166,.row σ.2 83 4 (A4 Ab σ.1.2.2.2.1)]) ?_ ?_)))
 ·refine Ai (wm Aa (wv (BE Aa) (wm Aa (bz h2 (λhj gt=>?_) (λhj gu=>?_)))))
  ·refine wo hj (wm Aa (wo hj (ob gt λhs gv gw=>DX (Hr:=[]) Hi (DQ hb v4 r1.2 ([123]:Al) hs gv) Aa (Abq _) Aa ?_)));rintro _ _ ⟨v24,rfl,rfl⟩;exact wo hj (wv (BE Aa) (Er Aa hj Aa (Am (Aw (AI ((!hs.1,hs.2.fS,hs.2.fAt,hs.2.fCells,hs.2.fGreat),v24) gw (AL.c Aa (AL.c Aa (AL.c Aa (AL.c Aa AL.nil)))) (sC (sC sN)))))))
  ·exact wf hj (wf hj (wf hj (wv (r:=rB false) (A8 Aa hj Aa) (Am (Aw (AI ((false,r1.2.fS,r1.2.fAt,r1.2.fCells,r1.2.fGreat),v4) gu (AL.c Aa (AL.c Aa (AL.c Aa (AL.c Aa AL.nil)))) (sC (sC sN))))))))
 ·rintro⟨⟨gc,hk,hl,hd,hm⟩,hJ⟩ h9;refine BW (l':=[(0,rP hb 0),(2,rB false),(3,rB r1.1),(19,rB gc)]) (H':=[.blk hb [rS hk,At hl,rv hJ,rB hm] 166,.row hJ 83 4 (A4 Ab hd)]) Aa Aa ?_;replace h9:Hn F hi r1 gc hk hl hd hm=some r:=h9;unfold Hn at h9;refine cz h9 Aa (λgx gy=>?_) (λgx gz=>?_)
  ·refine Ak (wm Aa (ob gy λg0 g1 g2=>DX (Hr:=[]) Tryz.call160 (SK F hb hJ (AD.mk hk hl hd hm) g0 g1) Aa (Abq _) Aa ?_));rintro _ _ ⟨g3,rfl,rfl⟩;refine wa Aa (Av (A1 (Ae ?_)));obtain rfl:=A5 g2;exact A0 (BJ KM (AM Aa)) (sC (sC sN)) ⟨g3,Aa,Aa⟩
  ·refine Ay (AP (Ak (wa Aa (wv (r:=rS ([125]:Al)) (Az Aa) (Av (An (Ak (wm Aa (Av (cz gz Aa (λhK g4=>?_) (λhK g5=>?_)))))))))))
   ·refine Ai (wa Aa (wv (r:=rS ([93]:Al)) (Az Aa) (Bs (wm Aa (wv (AB Aa) (vF BK Aa C5 (vL 0 Dt Aa (wv (Ch (ys:=hd) (enc:=Ab) (i:=1) Co Aa Aa) (wa Aa (Bs (wm Aa (wm Aa (wv (AB Aa) (vF BK Aa C5 (vL 0 Dt Aa (wm Aa (wv (r:=BQ [At 5,At 0,rS ([]:Al),At 0]) (HG Aa Aa) (Bb (ys:=([(Ac.mk 5 0 ([]:Al) 0)]:List Ac)) (enc:=Ab) (css:=[[At 5,At 0,rS ([]:Al),At 0]]) (xs:=[.tmp 34]) Co CC Lc Aa Aa Aa ⟨D1.agg ⟨Up.refl _,Up.refl _,Up.refl _,Up.refl _,trivial⟩,trivial⟩ Aa BG Aa Aa Aa (λgd=>?_)))))))))))))))))));refine ck g4 λg6 g7=>Exists.elim Jc λinf hinf=>Cb (xs:=hd) (ys:=([(Ac.mk 5 0 ([]:Al) 0)]:List Ac)) (enc:=Ab) (i:=2) Co hinf.1 hinf.2.1 hinf.2.2.1 hinf.2.2.2 Aa Aa Aa Aa Aa (If.w (i:=0) Aa Aa) BG Df g6 Aa (λv37=>?_);refine wv (AB Aa) (vF BK Aa C5 (BA (i:=2) C5 Aa Aa (CB (i:=0) Aa) Aa Aa (cs':=[rS hk,At hl,rv v37,rB hm]) Aa (H':=[.row v37 83 4 (A4 Ab (hd++([(Ac.mk 5 0 ([]:Al) 0)]:List Ac))),.row (.slice (some ⟨gd,0,none⟩) 1 1) 83 4 (A4 Ab ([(Ac.mk 5 0 ([]:Al) 0)]:List Ac)),.blk hb [rS hk,At hl,rv v37,rB hm] 166]) Aa (Av (An (Ak (wm Aa (wm Aa (ob g7 λhx g8 g9=>DX (Hr:=[.row (.slice (some ⟨gd,0,none⟩) 1 1) 83 4 (A4 Ab ([(Ac.mk 5 0 ([]:Al) 0)]:List Ac))]) Hi (DQ hb v37 (AD.mk hk hl (hd++([(Ac.mk 5 0 ([]:Al) 0)]:List Ac)) hm) ([93]:Al) hx g8) Aa ((As (i:=2) Aa).trans (Abp _ (Abq _))) Aa ?_))))))));rintro _ _ ⟨ge,rfl,rfl⟩;refine Av (cz g9 Aa (λgA gB=>?_) (λgA gC=>?_))
    ·refine Ak (wa Aa (Av (A1 (Ae ?_))));obtain rfl:=A5 gB;exact A0 (BJ KM (AM Aa)) (sC (sC (sS sN))) ⟨ge,Aa,Aa⟩
    ·refine Ay (AP (Ak (wv (r:=rS ([]:Al)) (Az Aa) (Bs (wa Aa (Av (AJ (ob gC λgD gE hL=>Bu (S:=Nat×(Int×Al×Int×(List Ac)×Bool)×(Value)) (V:=(Unit)×(Unit)) 0 (λσ=>Ci (λσ=>IE hi hd σ.1 σ.2.1 σ.2.2.1 σ.2.2.2.1 σ.2.2.2.2) σ.1 σ.2.1=some gD) (λσ=>[(0,rP hb 0),(2,rB false),(3,rB r1.1),(5,rS ([93]:Al)),(6,At (hd.length:Int)),(7,rS ([]:Al)),(8,At σ.2.1.1)]) (λσ=>[.blk hb [rS σ.2.1.2.1,At σ.2.1.2.2.1,rv σ.2.2,rB σ.2.1.2.2.2.2] 166,.row σ.2.2 83 4 (A4 Ab σ.2.1.2.2.2.1)]) (λσ=>σ.1) (F,(1,hx.2.fS,hx.2.fAt,hx.2.fCells,hx.2.fGreat),ge) gE (AL.c Aa (AL.c Aa (AL.c5 Aa Aa Aa Aa Aa AL.nil))) (sC (sC (sS sN))) (λσ=>NP =some r) (λσ=>[]) (λσ=>[]) ?_ ?_))))))))
     ·rintro⟨xe,⟨hy,hN,hO,hP,hQ⟩,hR⟩ gF;refine BW (l':=[(0,rP hb 0),(2,rB false),(3,rB r1.1),(5,rS ([93]:Al)),(6,At (hd.length:Int)),(7,rS ([]:Al)),(8,At hy)]) (H':=[.blk hb [rS hN,At hO,rv hR,rB hQ] 166,.row hR 83 4 (A4 Ab hP)]) Aa Aa ?_;obtain⟨gG,rfl,gH,hA,hB⟩:=C4 gF;replace hA:IE hi hd hy hN hO hP hQ=some gH:=hA;unfold IE at hA;refine An (AJ (An (Ak (wm Aa (wv (BE Aa) (Av (D2 Aa (GB hK) (Ay (AP (An (Ak (wm Aa (ob hA λhe gI gJ=>DX (Hr:=[]) Tryz.call125 (gb hb hR (AD.mk hN hO hP hQ) he gI) Aa (Abq _) Aa ?_)))))))))))));rintro _ _ ⟨ht,rfl,rfl⟩;refine wv (BE Aa) (Av (cz gJ Aa (λgK gL=>?_) (λgK gM=>?_)))
      ·refine Ak (wa Aa (Av (A1 (Ae (AC (Ae (Ae (Bj ?_))))))));have gN:=BB gL hB hL;refine AC ?_;obtain rfl:=A5 gN;exact A0 (BJ KM (AM Aa)) (sC (sC sN)) ⟨ht,Aa,Aa⟩
      ·refine Ay (AP (Ak (wm Aa (wv (AB Aa) (vF BK Aa C5 (vL 0 Dt Aa (wm Aa (wm Aa (ck gM λhS gO=>wv (r:=rv (E1 4 ht (B4 (hd.length:Int)) 0)) (En (i:=1) Co CC Aa Aa Aa (BO hS)) (wv (r:=rv (E1 4 ht (B4 (hd.length:Int)) 3)) (EF (k:=1) B9 Aa C6 Aa (BO hS) Aa Aa Aa) (IH (enc:=Ab) (ys:=he.2.fCells) (y':=(Ac.mk ((Ap he.2.fCells (hd.length:Int)).fKind) ((Ap he.2.fCells (hd.length:Int)).fInt) ((Ap he.2.fCells (hd.length:Int)).fStr) hy)) (i:=1) (j:=(hd.length:Int)) C6 Aa Aa (BD Aa) Aa hS Aa Aa (H':=[.blk hb [rS he.2.fS,At he.2.fAt,rv ht,rB he.2.fGreat] 166,.row ht 83 4 (A4 Ab (List.set he.2.fCells (B4 (hd.length:Int)) (Ac.mk ((Ap he.2.fCells (hd.length:Int)).fKind) ((Ap he.2.fCells (hd.length:Int)).fInt) ((Ap he.2.fCells (hd.length:Int)).fStr) hy)))]) Aa (bd gO λgP gQ gR=>?_))))))))))));rw[← gQ];refine Av (An (Ak (wm Aa (wm Aa (ob gR λgf gS gT=>DX (Hr:=[]) Hi (DQ hb ht (AD.mk he.2.fS he.2.fAt gP he.2.fGreat) ([93]:Al) gf gS) Aa (Abq _) Aa ?_)))));rintro _ _ ⟨gg,rfl,rfl⟩;refine Av (cz gT Aa (λc167 gU=>?_) (λc167 gV=>?_))
       ·refine Ak (wa Aa (Av (A1 (Ae (AC (Ae (Ae (Bj ?_))))))));have gW:=BB gU hB hL;refine AC ?_;obtain rfl:=A5 gW;exact A0 (BJ KM (AM Aa)) (sC (sC sN)) ⟨gg,Aa,Aa⟩
       ·refine Ay (AP (Ak (wm Aa (ob gV λhz gX gY=>DX (Hr:=[]) Hi (DQ hb gg gf.2 ([44]:Al) hz gX) Aa (Abq _) Aa ?_))));rintro _ _ ⟨gh,rfl,rfl⟩;refine wv (BE Aa) (Av (cz gY Aa (λc175 gZ=>?_) (λc175 ca=>?_)))
        ·refine Ak (wa Aa (Av (A1 (AC (Ae (Ae (Bj ?_)))))));have cb:=BB gZ hB hL;refine AC ?_;obtain rfl:=A5 cb;exact A0 (BJ KM (AM Aa)) (sC (sC sN)) ⟨gh,Aa,Aa⟩
        ·refine Ay (AG (AP (Ai (wm Aa (ck ca λcc cd=>wv (Bz Aa Aa cc) (wa Aa (Am ?_)))))));have ce:=Bk cd hB;exact Aw (AI (gG,(hy+1,hz.2.fS,hz.2.fAt,hz.2.fCells,hz.2.fGreat),gh) ⟨ce,Aby _⟩ (AL.c Aa (AL.c Aa (AL.c5 Aa Aa Aa Aa Aa AL.nil))) (sC (sC sN)))
     ·rintro⟨⟨⟩,⟨⟩⟩ cf
      cases cf
   ·refine Ay (AP (Ak (wm Aa (wv (AB Aa) (vF BK Aa C5 (vL 0 Dt Aa (wv (Ch (ys:=hd) (enc:=Ab) (i:=1) Co Aa Aa) (wa Aa (Bs (wm Aa (wm Aa (wv (AB Aa) (vF BK Aa C5 (vL 0 Dt Aa (wm Aa (wv (r:=BQ [At 6,At 0,rS ([]:Al),At 0]) (HG Aa Aa) (Bb (ys:=([(Ac.mk 6 0 ([]:Al) 0)]:List Ac)) (enc:=Ab) (css:=[[At 6,At 0,rS ([]:Al),At 0]]) (xs:=[.tmp 34]) Co CC Lc Aa Aa Aa ⟨D1.agg ⟨Up.refl _,Up.refl _,Up.refl _,Up.refl _,trivial⟩,trivial⟩ Aa BG Aa Aa Aa (λgi=>?_))))))))))))))))));refine ck g5 λcg ch=>Exists.elim Jc λinf hinf=>Cb (xs:=hd) (ys:=([(Ac.mk 6 0 ([]:Al) 0)]:List Ac)) (enc:=Ab) (i:=2) Co hinf.1 hinf.2.1 hinf.2.2.1 hinf.2.2.2 Aa Aa Aa Aa Aa (If.w (i:=0) Aa Aa) BG Df cg Aa (λhC=>?_);refine wv (AB Aa) (vF BK Aa C5 (BA (i:=2) C5 Aa Aa (CB (i:=0) Aa) Aa Aa (cs':=[rS hk,At hl,rv hC,rB hm]) Aa (H':=[.row hC 83 4 (A4 Ab (hd++([(Ac.mk 6 0 ([]:Al) 0)]:List Ac))),.row (.slice (some ⟨gi,0,none⟩) 1 1) 83 4 (A4 Ab ([(Ac.mk 6 0 ([]:Al) 0)]:List Ac)),.blk hb [rS hk,At hl,rv hC,rB hm] 166]) Aa (Av (An (Ak (wm Aa (wm Aa (ob ch λh0 ci cj=>DX (Hr:=[.row (.slice (some ⟨gi,0,none⟩) 1 1) 83 4 (A4 Ab ([(Ac.mk 6 0 ([]:Al) 0)]:List Ac))]) Hi (DQ hb hC (AD.mk hk hl (hd++([(Ac.mk 6 0 ([]:Al) 0)]:List Ac)) hm) ([125]:Al) h0 ci) Aa ((As (i:=2) Aa).trans (Abp _ (Abq _))) Aa ?_))))))));rintro _ _ ⟨gj,rfl,rfl⟩;refine Av (cz cj Aa (λcl cm=>?_) (λcl cn=>?_))
    ·refine Ak (wa Aa (Av (A1 (Ae ?_))));obtain rfl:=A5 cm;exact A0 (BJ KM (AM Aa)) (sC (sC (sS sN))) ⟨gj,Aa,Aa⟩
    ·refine Ay (AP (Ak (wv (r:=rS ([]:Al)) (Az Aa) (Bs (wa Aa (Av (AJ (ob cn λco cp hD=>Bu (S:=Nat×(Al×Int×Al×Int×(List Ac)×Bool)×(Value)) (V:=(Unit)×(Unit)) 0 (λσ=>Ci (λσ=>ID F hi hd σ.1 σ.2.1 σ.2.2.1 σ.2.2.2.1 σ.2.2.2.2.1 σ.2.2.2.2.2) σ.1 σ.2.1=some co) (λσ=>[(0,rP hb 0),(2,rB false),(3,rB r1.1),(5,rS ([125]:Al)),(6,At (hd.length:Int)),(7,rS σ.2.1.1),(8,At σ.2.1.2.1)]) (λσ=>[.blk hb [rS σ.2.1.2.2.1,At σ.2.1.2.2.2.1,rv σ.2.2,rB σ.2.1.2.2.2.2.2] 166,.row σ.2.2 83 4 (A4 Ab σ.2.1.2.2.2.2.1)]) (λσ=>σ.1) (F,(([]:Al),1,h0.2.fS,h0.2.fAt,h0.2.fCells,h0.2.fGreat),gj) cp (AL.c Aa (AL.c Aa (AL.c5 Aa Aa Aa Aa Aa AL.nil))) (sC (sC (sS sN))) (λσ=>NO =some r) (λσ=>[]) (λσ=>[]) ?_ ?_))))))))
     ·rintro⟨xf,⟨hh,hn,hT,hU,hV,hW⟩,hX⟩ cq;refine BW (l':=[(0,rP hb 0),(2,rB false),(3,rB r1.1),(5,rS ([125]:Al)),(6,At (hd.length:Int)),(7,rS hh),(8,At hn)]) (H':=[.blk hb [rS hT,At hU,rv hX,rB hW] 166,.row hX 83 4 (A4 Ab hV)]) Aa Aa ?_;obtain⟨cr,rfl,hY,hE,h1⟩:=C4 cq;replace hE:ID F hi hd hh hn hT hU hV hW=some hY:=hE;unfold ID at hE;refine An (AJ (An (Ak (wm Aa (wv (BE Aa) (Av (DH Aa (Gm hK) (Ak (wm Aa (ob hE λha cs ct=>DX (Hr:=[]) Tryz.call161 (T8 F hb hX (AD.mk hT hU hV hW) ha cs) Aa (Abq _) Aa ?_))))))))));rintro _ _ ⟨hG,rfl,rfl⟩;refine wm Aa (wv (AA Aa Aa) (wv (AA Aa Aa) (wa Aa (wa Aa (Av (An (Dm (S:=(Bool×Bool×Bool×Al×Int×(List Ac)×Bool)×(Value)) (λσ=>EC hi hd hn ha σ.1.1 σ.1.2.1 σ.1.2.2.1 σ.1.2.2.2.1 σ.1.2.2.2.2.1 σ.1.2.2.2.2.2.1 σ.1.2.2.2.2.2.2=some hY) (λσ=>[(0,rP hb 0),(2,rB false),(3,rB r1.1),(5,rS ([125]:Al)),(6,At (hd.length:Int)),(7,rS hh),(8,At hn),(9,rS ha.1),(10,rB ha.2.1),(44,rB r1.1),(45,rB (!r1.1)),(46,C7 [rS ha.1,rB ha.2.1]),(47,rP hb 0),(48,C7 [rS ha.1,rB ha.2.1]),(49,rS ha.1),(50,rB ha.2.1),(51,rB ha.2.1),(52,rB (!ha.2.1)),(53,rB (!ha.2.1)),(61,rB σ.1.1),(62,rB σ.1.2.1),(66,rB σ.1.2.2.1)]) (λσ=>[.blk hb [rS σ.1.2.2.2.1,At σ.1.2.2.2.2.1,rv σ.2,rB σ.1.2.2.2.2.2.2] 166,.row σ.2 83 4 (A4 Ab σ.1.2.2.2.2.2.1)]) ?_ ?_)))))))
      ·refine Ai (wm Aa (wv (BE Aa) (wm Aa (bz ct (λhg cu=>?_) (λhg cv=>?_)))))
       ·exact wf hg (wf hg (wf hg (wu (wu (wu (wf hg (wv (r:=rB true) (A2 Aa hg Aa) (wm Aa (wz Aa Aa (wz Aa Aa (wz Aa Aa (wv (r:=rB true) (A2 (b:=true) Aa Aa Aa) (Am (Aw (AI ((true,true,true,ha.2.2.fS,ha.2.2.fAt,ha.2.2.fCells,ha.2.2.fGreat),hG) cu (AL.c Aa (AL.c Aa (AL.c5 Aa Aa Aa Aa Aa (AL.c5 Aa Aa Aa Aa Aa (AL.c5 Aa Aa Aa Aa Aa (AL.c5 Aa Aa Aa Aa Aa AL.nil)))))) (sC (sC sN)))))))))))))))))
       ·refine wo hg (wm Aa (wo hg (wv (CI Aa Aa) (wo hg (wm Aa (bz cv (λho cw=>?_) (λho cx=>?_)))))))
        ·refine wo ho (wm Aa (wo ho (wm Aa (wo ho (wv (TO Aa Aa) (wo hg (Er Aa ho Aa (E2 Aa hg Aa (wm Aa (bz cw (λhp cy=>?_) (λhp c0=>?_)))))))))))
         ·exact wf hp (wf hp (wf hp (wv (r:=rB true) (A2 Aa hp Aa) (Am (Aw (AI ((CA ha.1 hh||decide (ha.1=hh),CA ha.1 hh||decide (ha.1=hh),true,ha.2.2.fS,ha.2.2.fAt,ha.2.2.fCells,ha.2.2.fGreat),hG) cy (AL.c Aa (AL.c Aa (AL.c5 Aa Aa Aa Aa Aa (AL.c5 Aa Aa Aa Aa Aa (AL.c5 Aa Aa Aa Aa Aa (AL.c5 Aa Aa Aa Aa Aa AL.nil)))))) (sC (sC sN))))))))
         ·refine wo hp (wm Aa (wo hp (ob c0 λhu c1 c2=>DX (Hr:=[]) Hi (DQ hb hG ha.2.2 ([58]:Al) hu c1) Aa (Abq _) Aa ?_)));rintro _ _ ⟨c3,rfl,rfl⟩;exact wo hp (wv (BE Aa) (E2 Aa hp Aa (Am (Aw (AI ((CA ha.1 hh||decide (ha.1=hh),CA ha.1 hh||decide (ha.1=hh),!hu.1,hu.2.fS,hu.2.fAt,hu.2.fCells,hu.2.fGreat),c3) c2 (AL.c Aa (AL.c Aa (AL.c5 Aa Aa Aa Aa Aa (AL.c5 Aa Aa Aa Aa Aa (AL.c5 Aa Aa Aa Aa Aa (AL.c5 Aa Aa Aa Aa Aa AL.nil)))))) (sC (sC sN)))))))
        ·refine wf ho (wf ho (wf ho (wo hg (wv (r:=rB false) (A8 Aa ho Aa) (E2 Aa hg Aa (wm Aa (AE (b:=false) Aa Aa Aa (wm Aa (AE (b:=false) Aa Aa Aa (ob cx λhq c4 c6=>DX (Hr:=[]) Hi (DQ hb hG ha.2.2 ([58]:Al) hq c4) Aa (Abq _) Aa ?_))))))))));rintro _ _ ⟨c7,rfl,rfl⟩;exact AE (b:=false) Aa Aa Aa (wv (BE Aa) (wv (r:=rB (!hq.1)) (A8 (b:=false) Aa Aa Aa) (Am (Aw (AI ((false,false,!hq.1,hq.2.fS,hq.2.fAt,hq.2.fCells,hq.2.fGreat),c7) c6 (AL.c Aa (AL.c Aa (AL.c5 Aa Aa Aa Aa Aa (AL.c5 Aa Aa Aa Aa Aa (AL.c5 Aa Aa Aa Aa Aa (AL.c5 Aa Aa Aa Aa Aa AL.nil)))))) (sC (sC sN)))))))
      ·rintro⟨⟨gl,gm,gp,h3,h4,h5,h6⟩,hZ⟩ hH;refine BW (l':=[(0,rP hb 0),(2,rB false),(3,rB r1.1),(5,rS ([125]:Al)),(6,At (hd.length:Int)),(7,rS hh),(8,At hn),(9,rS ha.1),(10,rB ha.2.1),(44,rB r1.1),(45,rB (!r1.1)),(46,C7 [rS ha.1,rB ha.2.1]),(47,rP hb 0),(48,C7 [rS ha.1,rB ha.2.1]),(49,rS ha.1),(50,rB ha.2.1),(51,rB ha.2.1),(52,rB (!ha.2.1)),(53,rB (!ha.2.1)),(61,rB gl),(62,rB gm),(66,rB gp)]) (H':=[.blk hb [rS h3,At h4,rv hZ,rB h6] 166,.row hZ 83 4 (A4 Ab h5)]) Aa Aa ?_;replace hH:EC hi hd hn ha gl gm gp h3 h4 h5 h6=some hY:=hH;unfold EC at hH;refine cz hH Aa (λc8 c9=>?_) (λc8 cA=>?_)
       ·refine Ak (wa Aa (Av (A1 (Ae (Ae (AC (Ae (Ae (Bj ?_)))))))));have cB:=BB c9 h1 hD;refine AC ?_;obtain rfl:=A5 cB;exact A0 (BJ KM (AM Aa)) (sC (sC sN)) ⟨hZ,Aa,Aa⟩
       ·refine Ay (AP (Ak (wm Aa (wa Aa (Av (Ai (wm Aa (wm Aa (wv (AB Aa) (vF BK Aa C5 (vL 0 Dt Aa (wm Aa (wv (r:=BQ [At 4,At 0,rS ha.1,At 0]) (KU Aa Aa Aa Aa) (Bb (ys:=([(Ac.mk 4 0 ha.1 0)]:List Ac)) (enc:=Ab) (css:=[[At 4,At 0,rS ha.1,At 0]]) (xs:=[.tmp 74]) Co CC Lc Aa Aa Aa ⟨D1.agg ⟨Up.refl _,Up.refl _,Up.refl _,Up.refl _,trivial⟩,trivial⟩ Aa BG Aa Aa Aa (λh7=>?_)))))))))))))));refine ck cA λcC cD=>Exists.elim Jc λinf hinf=>Cb (xs:=h5) (ys:=([(Ac.mk 4 0 ha.1 0)]:List Ac)) (enc:=Ab) (i:=2) Co hinf.1 hinf.2.1 hinf.2.2.1 hinf.2.2.2 Aa Aa Aa Aa Aa (If.w (i:=0) Aa Aa) BG Df cC Aa (λhI=>?_);refine wv (AB Aa) (vF BK Aa C5 (BA (i:=2) C5 Aa Aa (CB (i:=0) Aa) Aa Aa (cs':=[rS h3,At h4,rv hI,rB h6]) Aa (H':=[.row hI 83 4 (A4 Ab (h5++([(Ac.mk 4 0 ha.1 0)]:List Ac))),.row (.slice (some ⟨h7,0,none⟩) 1 1) 83 4 (A4 Ab ([(Ac.mk 4 0 ha.1 0)]:List Ac)),.blk hb [rS h3,At h4,rv hI,rB h6] 166]) Aa (Av (An (Ak (wm Aa (ob cD λhf cE cF=>DX (Hr:=[.row (.slice (some ⟨h7,0,none⟩) 1 1) 83 4 (A4 Ab ([(Ac.mk 4 0 ha.1 0)]:List Ac))]) Tryz.call125 (gb hb hI (AD.mk h3 h4 (h5++([(Ac.mk 4 0 ha.1 0)]:List Ac)) h6) hf cE) Aa ((As (i:=2) Aa).trans (Abp _ (Abq _))) Aa ?_)))))));rintro _ _ ⟨hw,rfl,rfl⟩;refine wv (BE Aa) (Av (cz cF Aa (λcG cH=>?_) (λcG cI=>?_)))
        ·refine Ak (wa Aa (Av (A1 (Ae (AC (Ae (Ae (Bj ?_))))))));have cJ:=BB cH h1 hD;refine AC ?_;obtain rfl:=A5 cJ;exact A0 (BJ KM (AM Aa)) (sC (sC (sS sN))) ⟨hw,Aa,Aa⟩
        ·refine Ay (AP (Ak (wm Aa (wv (AB Aa) (vF BK Aa C5 (vL 0 Dt Aa (wm Aa (wm Aa (ck cI λga cK=>wv (r:=rv (E1 4 hw (B4 (hd.length:Int)) 0)) (En (i:=1) Co CC Aa Aa Aa (BO ga)) (wv (r:=rv (E1 4 hw (B4 (hd.length:Int)) 3)) (EF (k:=1) B9 Aa C6 Aa (BO ga) Aa Aa Aa) (IH (enc:=Ab) (ys:=hf.2.fCells) (y':=(Ac.mk ((Ap hf.2.fCells (hd.length:Int)).fKind) ((Ap hf.2.fCells (hd.length:Int)).fInt) ((Ap hf.2.fCells (hd.length:Int)).fStr) hn)) (i:=1) (j:=(hd.length:Int)) C6 Aa Aa (BD Aa) Aa ga Aa Aa (H':=[.blk hb [rS hf.2.fS,At hf.2.fAt,rv hw,rB hf.2.fGreat] 166,.row hw 83 4 (A4 Ab (List.set hf.2.fCells (B4 (hd.length:Int)) (Ac.mk ((Ap hf.2.fCells (hd.length:Int)).fKind) ((Ap hf.2.fCells (hd.length:Int)).fInt) ((Ap hf.2.fCells (hd.length:Int)).fStr) hn))),.row (.slice (some ⟨h7,0,none⟩) 1 1) 83 4 (A4 Ab ([(Ac.mk 4 0 ha.1 0)]:List Ac))]) Aa (bd cK λcL cM cN=>?_))))))))))));rw[← cM];refine Av (An (Ak (wm Aa (wm Aa (ob cN λgq cO cP=>DX (Hr:=[.row (.slice (some ⟨h7,0,none⟩) 1 1) 83 4 (A4 Ab ([(Ac.mk 4 0 ha.1 0)]:List Ac))]) Hi (DQ hb hw (AD.mk hf.2.fS hf.2.fAt cL hf.2.fGreat) ([125]:Al) gq cO) Aa (Abq _) Aa ?_)))));rintro _ _ ⟨gr,rfl,rfl⟩;refine Av (cz cP Aa (λcQ cR=>?_) (λcQ cS=>?_))
         ·refine Ak (wa Aa (Av (A1 (Ae (AC (Ae (Ae (Bj ?_))))))));have cT:=BB cR h1 hD;refine AC ?_;obtain rfl:=A5 cT;exact A0 (BJ KM (AM Aa)) (sC (sC (sS sN))) ⟨gr,Aa,Aa⟩
         ·refine Ay (AP (Ak (wm Aa (ob cS λh8 cU cV=>DX (Hr:=[.row (.slice (some ⟨h7,0,none⟩) 1 1) 83 4 (A4 Ab ([(Ac.mk 4 0 ha.1 0)]:List Ac))]) Hi (DQ hb gr gq.2 ([44]:Al) h8 cU) Aa (Abq _) Aa ?_))));rintro _ _ ⟨gs,rfl,rfl⟩;refine wv (BE Aa) (Av (cz cV Aa (λcW cX=>?_) (λcW cY=>?_)))
          ·refine Ak (wa Aa (Av (A1 (AC (Ae (Ae (Bj ?_)))))));have cZ:=BB cX h1 hD;refine AC ?_;obtain rfl:=A5 cZ;exact A0 (BJ KM (AM Aa)) (sC (sC (sS sN))) ⟨gs,Aa,Aa⟩
          ·refine Ay (AG (AP (Ai (wm Aa (ck cY λxa xb=>wv (Bz Aa Aa xa) (wa Aa (Am ?_)))))));have xc:=Bk xb h1;exact Aw (AI (cr,(ha.1,hn+1,h8.2.fS,h8.2.fAt,h8.2.fCells,h8.2.fGreat),gs) ⟨xc,Aby _⟩ (AL.c Aa (AL.c Aa (AL.c5 Aa Aa Aa Aa Aa AL.nil))) (sC (sC (sS sN))))
     ·rintro⟨⟨⟩,⟨⟩⟩ xd
      cases xd
theorem MK:∀F:Nat,(∀(ha:Nat) (hb:Value) (q:AD) (r:Bool×AD),IF F q=some r→Fn Tryz.prog GE 125 [rP ha 0] [.blk ha [rS q.fS,At q.fAt,rv hb,rB q.fGreat] 166,.row hb 83 4 (A4 Ab q.fCells)] (λR H=>∃w0_2:Value,R=rB r.1∧H=[.blk ha [rS r.2.fS,At r.2.fAt,rv w0_2,rB r.2.fGreat] 166,.row w0_2 83 4 (A4 Ab r.2.fCells)]))
  | 0=>(λ_ _ _ _ h=>by simp[IF] at h)
  | nn+1=>(λha hb q r h=>SJ nn (IF nn) (MK nn) ha hb q r (by rw[IF] at h;exact h))
theorem U7 (F:Nat)(ha:Nat)(hb:Value)(q:AD)(r:Bool×AD)(h:IF F q=some r):Fn Tryz.prog GE 125 [rP ha 0] [.blk ha [rS q.fS,At q.fAt,rv hb,rB q.fGreat] 166,.row hb 83 4 (A4 Ab q.fCells)] (λR H=>∃w0_2:Value,R=rB r.1∧H=[.blk ha [rS r.2.fS,At r.2.fAt,rv w0_2,rB r.2.fGreat] 166,.row w0_2 83 4 (A4 Ab r.2.fCells)]):=(MK F) ha hb q r h
theorem Pr (F:Nat)(s:Al)(r:(List Ac)×Int)(h:Ns F s=some r):Fn Tryz.prog GE 100 [rS s] [] (λR H=>R=C7 [AY 4 (A4 Ab r.1),At r.2]∧H=[]):=by
 refine enter (n:=34) Tryz.func100 Aa Tryz.ntmps100 Aa (λw Z=>?_);unfold Ns at h;refine Ak (wa Aa (wa Aa (Av (An (Ak (wm Aa (wv (Bv Cu Aa) (wv (CI Aa Aa) (Av (cz h Aa (λc1 h2=>?_) (λc1 h3=>?_)))))))))))
 ·refine Ak (wa Aa (wa Aa (Av (A1 (Ae (WK.up (d:=2) (r:=AY 4 (A4 Ab ([]:List Ac))) Aa (Up.le (KZ.nil _)) ?_))))));obtain rfl:=A5 h2;exact A0 (DJ T3 (AM Aa) (AM Aa)) sN ⟨Aa,Aa⟩
 ·refine Ay (AP (Ak (wm Aa (wv (r:=BQ [rS s,At 0,rv (.slice none 0 0),rB false]) (Q2 Aa Aa) (C3 Aa Aa (λb4=>?_))))));refine wa Aa (Av (An (Dm (S:=(Bool×Al×Int×(List Ac)×Bool)×(Value)) (λσ=>Hp F σ.1.1 σ.1.2.1 σ.1.2.2.1 σ.1.2.2.2.1 σ.1.2.2.2.2=some r) (λσ=>[(2,rv (.slice none 0 0)),(3,At 0),(4,rP b4 0),(22,rB σ.1.1)]) (λσ=>[.blk b4 [rS σ.1.2.1,At σ.1.2.2.1,rv σ.2,rB σ.1.2.2.2.2] 166,.row σ.2 83 4 (A4 Ab σ.1.2.2.2.1)]) ?_ ?_)))
  ·refine Ai (wm Aa (WL.nilrow (e:=83) (sz:=4) (ob h3 λhb hk hl=>DX (Hr:=[]) Tryz.call125 (U7 F b4 (.slice none 0 0                                                                                   ) (AD.mk s 0 ([]:List Ac) false) hb hk) Aa ((As (i:=1) Aa).trans (Abp _ (Abq _))) Aa ?_)));rintro _ _ ⟨v21,rfl,rfl⟩;refine wv (BE Aa) (wm Aa (bz hl (λha hm=>?_) (λha hn=>?_)))
   ·exact wf ha (wf ha (wf ha (wf ha (wf ha (wf ha (wf ha (wv (r:=rB true) (A2 Aa ha Aa) (Am (Aw (AI ((true,hb.2.fS,hb.2.fAt,hb.2.fCells,hb.2.fGreat),v21) hm (AL.c Aa (AL.c Aa (AL.c Aa (AL.c Aa AL.nil)))) (sC (sC sN))))))))))))
   ·exact wo ha (wm Aa (wo ha (wv (AB Aa) (wo ha (vF BK Aa C6 (wo ha (vL 0 CM Aa (wo ha (wm Aa (wo ha (wv (Bv Cu Aa) (wo ha (wv (BT Aa Aa) (E2 Aa ha Aa (Am (Aw (AI ((!decide (hb.2.fAt=(s.length:Int)),hb.2.fS,hb.2.fAt,hb.2.fCells,hb.2.fGreat),v21) hn (AL.c Aa (AL.c Aa (AL.c Aa (AL.c Aa AL.nil)))) (sC (sC sN)))))))))))))))))))
  ·rintro⟨⟨hf,hg,hh,hd,hi⟩,hj⟩ he;refine BW (l':=[(2,rv (.slice none 0 0)),(3,At 0),(4,rP b4 0),(22,rB hf)]) (H':=[.blk b4 [rS hg,At hh,rv hj,rB hi] 166,.row hj 83 4 (A4 Ab hd)]) Aa Aa ?_;replace he:Hp F hf hg hh hd hi=some r:=he;unfold Hp at he;refine cz he Aa (λho hp=>?_) (λho hq=>?_)
   ·refine Ak (wa Aa (wa Aa (Av (A1 (Ae (WK.up (d:=2) (r:=AY 4 (A4 Ab ([]:List Ac))) Aa (Up.le (KZ.nil _)) ?_))))));obtain rfl:=A5 hp;exact A0 (DJ T3 (AM Aa) (AM Aa)) (sS (sS sN)) ⟨Aa,Aa⟩
   ·refine Ay (AP (An (Ak (wm Aa (wv (AB Aa) (vF BK Aa I9 (vL 0 U4 Aa (Av (cz hq Aa (λhr hs=>?_) (λhr ht=>?_))))))))))
    ·refine Ak (wa Aa (wa Aa (Av (A1 (Ae (WK.up (d:=2) (r:=AY 4 (A4 Ab ([]:List Ac))) Aa (Up.le (KZ.nil _)) ?_))))));obtain rfl:=A5 hs;exact A0 (DJ T3 (AM Aa) (AM Aa)) (sS (sS sN)) ⟨Aa,Aa⟩
    ·refine Ay (AP (Ak (wm Aa (wv (AB Aa) (vF BK Aa C5 (vL 0 Dt Aa (WL.freeze (i:=1) Aa (WL.up (d:=30) (r:=AY 4 (A4 Ab hd)) Aa (Up.fact (i:=0) Aa) (ob ht λhu hw hx=>CG Tryz.call126 (SM F hd hu hw) Aa (wv (AA Aa Aa) (wv (AA Aa Aa) (wa Aa (wa Aa (Av (A1 ?_)))))))))))))));obtain rfl:=A5 hx;exact A0 (DJ T3 (AM Aa) (AM Aa)) (sS (sS sN)) ⟨Aa,Aa⟩
end Go.Proofs.YtfobhhegpkinaaaGreatDoor.Q
namespace Go.Proofs.YtfobhhegpkinaaaGreatDoor
open Go
set_option linter.unusedVariables false
def LB (a:(List Ac))(b:(List Ac))(ha:Int):Option (Stp (Int) (Out (Bool) (Unit))):=
 B2 (decide (ha<(a.length:Int))) (Ba (CP ha (a.length:Int))<|Ba (CP ha (b.length:Int))<|B2 (!(decide (((Ap a ha).fKind)=((Ap b ha).fKind))&&decide (((Ap a ha).fInt)=((Ap b ha).fInt))&&decide (((Ap a ha).fStr)=((Ap b ha).fStr))&&decide (((Ap a ha).fN)=((Ap b ha).fN)))) (some (.out (.ret false))) (Ba (BF .i64 (ha+1))<|some (.next (ha+1)))) (some (.out (.go ())))
def LA :Option (Bool):=
 some true
def Wt (F:Nat)(a:(List Ac))(b:(List Ac)):Option (Bool):=
 B2 (!decide ((a.length:Int)=(b.length:Int))) (some false) (B3 (Ci (λσ=>LB a b σ) F 0) (BS λν=>LA ))
end Go.Proofs.YtfobhhegpkinaaaGreatDoor
namespace Go.Proofs.YtfobhhegpkinaaaGreatDoor.Q
open Go Go.RowKit
set_option linter.unusedVariables false
set_option linter.unusedSimpArgs false
set_option maxRecDepth 100000
set_option maxHeartbeats 4000000
theorem XH {a0 b0:Int}{a1 b1:Int}{a2 b2:Al}{a3 b3:Int}(w:World):(Op.equalIn 10000 83 (.agg #[.int .i64 a0,.int .i64 a1,.string (B a2),.int .i64 a3]) (.agg #[.int .i64 b0,.int .i64 b1,.string (B b2),.int .i64 b3])).run Tryz.prog w = .ok (decide (a0=b0)&&decide (a1=b1)&&decide (a2=b2)&&decide (a3=b3)) w:=by
  have hS:Tryz.prog.underlying 83=some (.struct (Tryz.prog.fieldsOf 83)):=by kernel_rfl
  have hp:Tryz.prog.stoodInHeld 83=false:=by kernel_rfl
  have u3:=S8;have ia3:=CM;have so3:=C6;have u9:=Cu;have ia9:=CD;have so9:=Cv;have ha:=Tryz.underlying81;have hb:=DD;have hd:=DC;rw[show(10000:Nat)=9999+1 from rfl,run_equalIn_agg w 9999 83 _ _ hS hp];simp only[Program.fieldsOf,B9]
  go_simp
  simp only[Gg]
  by_cases h0:a0=b0<;>by_cases h1:a1=b1<;>by_cases h2:a2=b2<;>by_cases h3:a3=b3<;>simp[h0,h1,h2,h3]
theorem RJ {n:Nat}{c:Cx}{l:Fr}{H:List Ent}{d:Option Nat}{ty rty:TypeId}{pos:String}{af:Array Edge}{g:Option (Nat×Bool)}{x y:Operand}{a0 b0:Int}{a1 b1:Int}{a2 b2:Al}{a3 b3:Int}(hx:ev l x=some (BQ [At a0,At a1,rS a2,At a3]))(hy:ev l y=some (BQ [At b0,At b1,rS b2,At b3])):B0 Tryz.prog n c l H { dst:=d,op:=.binOp .neq 83 x y rty,type:=ty,pos:=pos,after:=af,guard:=g } (rB (!(decide (a0=b0)&&decide (a1=b1)&&decide (a2=b2)&&decide (a3=b3)))):=λa w Z ha hw=>by
  obtain⟨us,e1,q1⟩:=ha.ev hx;obtain⟨vs,e2,q2⟩:=ha.ev hy;have k1:=Bo.eq_rv (us:=[.int .i64 a0,.int .i64 a1,.string (B a2),.int .i64 a3]) q1;have k2:=Bo.eq_rv (us:=[.int .i64 b0,.int .i64 b1,.string (B b2),.int .i64 b3]) q2;subst k1;subst k2;have hm:Tryz.prog.eqGuardType Tryz.prog.depth 83=false:=by kernel_rfl
  have hb:=XH (a0:=a0) (a1:=a1) (a2:=a2) (a3:=a3) (b0:=b0) (b1:=b1) (b2:=b2) (b3:=b3) w;refine⟨.bool (!(decide (a0=b0)&&decide (a1=b1)&&decide (a2=b2)&&decide (a3=b3))),rfl,?_⟩;have hg:=run_eqGuard_agg (P:=Tryz.prog) w .neq 83 x y #[.int .i64 a0,.int .i64 a1,.string (B a2),.int .i64 a3] #[.int .i64 b0,.int .i64 b1,.string (B b2),.int .i64 b3] hm;simp only[execOp,e1,e2,Sem.run_bind,hg,Result.andThen_ok,run_neq_struct,hb,Sem.run_pure]
theorem Yl (F:Nat)(a:(List Ac))(b:(List Ac))(r:Bool)(h:Wt F a b=some r):Fn Tryz.prog GE 15 [AY 4 (A4 Ab a),AY 4 (A4 Ab b)] [] (λR H=>R=rB r∧H=[]):=by
 refine enter (n:=26) Tryz.func15 Aa Tryz.ntmps15 Aa (λw Z=>?_);unfold Wt at h;refine Ak (wa Aa (Av (An (Ak (wm Aa (wv (Bq (ys:=a) (enc:=Ab) Co Aa) (wm Aa (wv (Bq (ys:=b) (enc:=Ab) Co Aa) (wv (BT Aa Aa) (Av (cz h Aa (λc1 h2=>?_) (λc1 h3=>?_))))))))))))
 ·refine Ak (wa Aa (Av (A1 (Ae ?_))));obtain rfl:=A5 h2;exact A0 (BJ Tryz.results15 (AM Aa)) sN ⟨Aa,Aa⟩
 ·refine Ay (AP (An (Ak (wa Aa (Av (AJ (ob h3 λhg hh hf=>Bu (S:=Nat×(Int)×(Unit)) (V:=(Unit)×(Unit)) 0 (λσ=>Ci (λσ=>LB a b σ) σ.1 σ.2.1=some hg) (λσ=>[(0,AY 4 (A4 Ab a)),(1,AY 4 (A4 Ab b)),(5,At σ.2.1)]) (λσ=>[]) (λσ=>σ.1) (F,0,()) hh (AL.c Aa (AL.c Aa (AL.c Aa AL.nil))) sN (λσ=>LA =some r) (λσ=>[]) (λσ=>[]) ?_ ?_)))))))
  ·rintro⟨h1,ha,⟨⟩⟩ hi;refine BW (l':=[(0,AY 4 (A4 Ab a)),(1,AY 4 (A4 Ab b)),(5,At ha)]) (H':=[]) Aa Aa ?_;obtain⟨hj,rfl,hk,hb,he⟩:=C4 hi;replace hb:LB a b ha=some hk:=hb;unfold LB at hb;refine An (Ak (wm Aa (wm Aa (wv (Bq (ys:=a) (enc:=Ab) Co Aa) (wv (C0 Aa Aa) (Av (cz hb Aa (λhl hm=>?_) (λhl hn=>?_))))))))
   ·refine Ay (AP (An (AJ (An (ck hm λho hp=>ck hp λhq hr=>Do [0,1,5] [⟨[],AY 4 (A4 Ab a),0⟩,⟨[],At ha,0⟩,⟨[0,1],SW (Ab (Ap a ha)),0⟩,⟨[2],BQ (Ab (Ap a ha)),0⟩,⟨[],AY 4 (A4 Ab b),0⟩,⟨[],At ha,0⟩,⟨[4,5],SW (Ab (Ap b ha)),0⟩,⟨[6],BQ (Ab (Ap b ha)),0⟩,⟨[3,7],rB (!(decide (((Ap a ha).fKind)=((Ap b ha).fKind))&&decide (((Ap a ha).fInt)=((Ap b ha).fInt))&&decide (((Ap a ha).fStr)=((Ap b ha).fStr))&&decide (((Ap a ha).fN)=((Ap b ha).fN)))),0⟩] [17,18,19,20,21,22,23,24,25,0,1,5] ?_ ?_)))))
    ·refine oq (Aq Aa) (oq (Aq Aa) (oq (By (enc:=Ab) (ys:=a) Co CC Aa Aa ho) (oq (Di NF CC Aa Aa Aa) (oq (Aq Aa) (oq (Aq Aa) (oq (By (enc:=Ab) (ys:=b) Co CC Aa Aa hq) (oq (Di NF CC Aa Aa Aa) (oq (RJ Aa Aa) ?_))))))));exact CN
    refine AP (cz hr Aa (λhs ht=>?_) (λhs hu=>?_))
    ·refine Ak (wa Aa (Av (A1 (AC (Ae (Ae (Bj ?_)))))));have hw:=BB ht he hf;refine AC (Ae ?_);obtain rfl:=A5 hw;exact A0 (BJ Tryz.results15 (AM Aa)) sN ⟨Aa,Aa⟩
    ·refine Ay (AG (AP (Ai (wm Aa (ck hu λhx hy=>wv (Bz Aa Aa hx) (wa Aa (Am ?_)))))));have hz:=Bk hy he;exact Aw (AI (hj,ha+1,()) ⟨hz,Aby _⟩ (AL.c Aa (AL.c Aa (AL.c Aa AL.nil))) sN)
   ·refine Bx (A6 ?_);have h0:=BX hn he hf;exact A6 (Be (AI ((),()) h0 AL.nil sN))
  ·rintro⟨⟨⟩,⟨⟩⟩ hd;refine Cy (l':=[]) (H':=[]) Aa Aa ?_;replace hd:LA =some r:=hd;unfold LA at hd;refine Bc (AP (Ak (wa Aa (Av (A1 ?_)))));obtain rfl:=A5 hd;exact A0 (BJ Tryz.results15 (AM Aa)) sN ⟨Aa,Aa⟩
end Go.Proofs.YtfobhhegpkinaaaGreatDoor.Q
namespace Go.Proofs.YtfobhhegpkinaaaGreatDoor
open Go
set_option linter.unusedVariables false
end Go.Proofs.YtfobhhegpkinaaaGreatDoor
namespace Go.Proofs.YtfobhhegpkinaaaGreatDoor.Q
open Go Go.RowKit
set_option linter.unusedVariables false
set_option linter.unusedSimpArgs false
set_option maxRecDepth 100000
set_option maxHeartbeats 4000000
end Go.Proofs.YtfobhhegpkinaaaGreatDoor.Q
namespace Go.Proofs.YtfobhhegpkinaaaGreatDoor
open Go
def Lp (k:IntKind)(x y:Int):Int:=k.wrap ((BitVec.ofInt k.bits x&&& BitVec.ofInt k.bits y).toNat:Int)
def J9 (k:IntKind)(x y:Int):Int:=k.wrap ((BitVec.ofInt k.bits x||| BitVec.ofInt k.bits y).toNat:Int)
def E0 (k:IntKind)(x y:Int):Int:=k.wrap ((BitVec.ofInt k.bits x^^^BitVec.ofInt k.bits y).toNat:Int)
def QG (k:IntKind)(x:Int):Int:=E0 k (if k.signed then -1 else k.max) x
def DE (k:IntKind)(x n:Int):Int:=k.wrap (x*2 ^ (min n.toNat k.bits))
def Ce (k:IntKind)(x n:Int):Int:=x.fdiv (2 ^ (min n.toNat k.bits))
set_option linter.unusedVariables false
def Gz (hb:Int)(ha:Int):Option (Stp (Int×Int) (Out (Stp (Int×(List Int)) (Out ((List Int)) ((List Int)))) (Int×Int×Bool))):=
 B2 (decide (ha<8)) (Ba (BF .i64 (ha+1))<|some (.next ((bif decide ((Lp .u32 hb 1)=1) then E0 .u32 (Ce .u32 hb 1) 3988292384 else Ce .u32 hb 1),ha+1))) (some (.out (.go (hb,ha,decide (ha<8)))))
def I3 (ha:Int)(hb:(List Int))(hd:Int)(he:Int)(hf:Bool):Option (Stp (Int×(List Int)) (Out ((List Int)) ((List Int)))):=
 Ba (CP ha 256)<|Ba (CP ha (hb.length:Int))<|Ba (BF .i64 (ha+1))<|some (.next (ha+1,List.set hb (Int.toNat ha) hd))
def G0 (F:Nat)(ha:Int)(hb:(List Int)):Option (Stp (Int×(List Int)) (Out ((List Int)) ((List Int)))):=
 B2 (decide (ha<256)) (B3 (Ci (λσ=>Gz σ.1 σ.2) F (IntKind.wrap .u32 ha,0)) (BS λν=>I3 ha hb ν.1 ν.2.1 ν.2.2)) (some (.out (.go hb)))
def I4 (ha:(List Int)):Option ((List Int)):=
 Ba (decide (ha.length=256))<|Ba (decide ((List.replicate 256 (0:Int)).length=256))<|some ha
def O9 (F:Nat) :Option ((List Int)):=
 B3 (Ci (λσ=>G0 F σ.1 σ.2) F (0,List.replicate 256 (0:Int))) (BS λν=>I4 ν)
def GS (s:Al)(r1:(List Int))(hb:Int)(ha:Int):Option (Stp (Int×Int) (Out (Int) (Int))):=
 B2 (decide (ha<(s.length:Int))) (Ba (CP ha (s.length:Int))<|Ba (CP (E0 .u8 (IntKind.wrap .u8 hb) (B1 s ha)) 256)<|Ba (CP (E0 .u8 (IntKind.wrap .u8 hb) (B1 s ha)) (r1.length:Int))<|Ba (BF .i64 (ha+1))<|some (.next (E0 .u32 (Ap r1 (E0 .u8 (IntKind.wrap .u8 hb) (B1 s ha))) (Ce .u32 hb 8),ha+1))) (some (.out (.go hb)))
def N5 (ha:Int):Option (Int):=
 some (QG .u32 ha)
def Vu (F:Nat)(s:Al):Option (Int):=
 B3 (O9 F) λr1=>Ba (decide ((List.replicate 256 (0:Int)).length=256))<|Ba (decide (r1.length=256))<|B3 (Ci (λσ=>GS s r1 σ.1 σ.2) F (4294967295,0)) (BS λν=>N5 ν)
def KE (n:Int):Option (Al):=
 some (Iz ([IntKind.wrap .u8 (Ce .u32 n 24),IntKind.wrap .u8 (Ce .u32 n 16),IntKind.wrap .u8 (Ce .u32 n 8),IntKind.wrap .u8 n]:List Int))
def N6 (s:Al):Option (Int):=
 Ba (CP 0 (s.length:Int))<|Ba (CP 1 (s.length:Int))<|Ba (CP 2 (s.length:Int))<|Ba (CP 3 (s.length:Int))<|some (J9 .u32 (J9 .u32 (J9 .u32 (DE .u32 (IntKind.wrap .u32 (B1 s 0)) 24) (DE .u32 (IntKind.wrap .u32 (B1 s 1)) 16)) (DE .u32 (IntKind.wrap .u32 (B1 s 2)) 8)) (IntKind.wrap .u32 (B1 s 3)))
def GD (fields:(List Al))(hb:(List Int))(ha:Int):Option (Stp ((List Int)×Int) (Out (Al×Int) ((List Int)))):=
 B2 (decide (ha<(fields.length:Int))) (Ba (CP ha (fields.length:Int))<|B2 (decide (4000<((Ap fields ha).length:Int))) (some (.out (.ret (([]:Al),3)))) (Ba (CX 1 (hb.length+([IntKind.wrap .u8 (Ce .i64 ((Ap fields ha).length:Int) 8),IntKind.wrap .u8 ((Ap fields ha).length:Int)]:List Int).length))<|Ba (CX 1 ((hb++([IntKind.wrap .u8 (Ce .i64 ((Ap fields ha).length:Int) 8),IntKind.wrap .u8 ((Ap fields ha).length:Int)]:List Int)).length+(Ap fields ha).length))<|Ba (BF .i64 (ha+1))<|some (.next ((hb++([IntKind.wrap .u8 (Ce .i64 ((Ap fields ha).length:Int) 8),IntKind.wrap .u8 ((Ap fields ha).length:Int)]:List Int))++Du (Ap fields ha),ha+1)))) (some (.out (.go hb)))
def Ma (ha:(List Int)):Option (Al×Int):=
 some (Iz ha,0)
def Sj (F:Nat)(fields:(List Al)):Option (Al×Int):=
 B2 (decide (64<(fields.length:Int))) (some (([]:Al),3)) (B3 (Ci (λσ=>GD fields σ.1 σ.2) F (([IntKind.wrap .u8 (fields.length:Int)]:List Int),0)) (BS λν=>Ma ν))
def DV (ha:Int):Option ((List Al)×Int):=
 some (([]:List Al),ha)
def Jg (s:Al)(ha:Al)(hb:(List Al))(hh:Int)(hd:Int):Option (Stp (Al×(List Al)×Int×Int) (Out ((List Al)×Int) (Al×(List Al)))):=
 B2 (decide (hd<(B1 s 0))) (B2 (decide ((ha.length:Int)<2)) (B3 (DV 14) λhe=>some (.out (.ret he))) (Ba (CP 0 (ha.length:Int))<|Ba (BF .i64 (B1 ha 0))<|Ba (CP 1 (ha.length:Int))<|Ba (BF .i64 (B1 ha 1))<|Ba (E5 2 (ha.length:Int))<|B2 (decide (4000<(J9 .i64 (DE .i64 (B1 ha 0) 8) (B1 ha 1)))) (B3 (DV 13) λhf=>some (.out (.ret hf))) (B2 (decide (((List.drop (Int.toNat 2) ha).length:Int)<(J9 .i64 (DE .i64 (B1 ha 0) 8) (B1 ha 1)))) (B3 (DV 14) λhg=>some (.out (.ret hg))) (Ba (E5 (J9 .i64 (DE .i64 (B1 ha 0) 8) (B1 ha 1)) ((List.drop (Int.toNat 2) ha).length:Int))<|Ba (CX 16 (hb.length+([List.take (Int.toNat (J9 .i64 (DE .i64 (B1 ha 0) 8) (B1 ha 1))) (List.drop (Int.toNat 2) ha)]:List Al).length))<|Ba (BF .i64 (hd+1))<|some (.next (List.drop (Int.toNat (J9 .i64 (DE .i64 (B1 ha 0) 8) (B1 ha 1))) (List.drop (Int.toNat 2) ha),hb++([List.take (Int.toNat (J9 .i64 (DE .i64 (B1 ha 0) 8) (B1 ha 1))) (List.drop (Int.toNat 2) ha)]:List Al),J9 .i64 (DE .i64 (B1 ha 0) 8) (B1 ha 1),hd+1)))))) (some (.out (.go (ha,hb))))
def Jf (hb:Al)(ha:(List Al)):Option ((List Al)×Int):=
 B2 (!decide (hb=([]:Al))) (DV 13) (Ba (E5 (ha.length:Int) (ha.length:Int))<|some (List.take (Int.toNat (ha.length:Int)) ha,0))
def QK (F:Nat)(s:Al):Option ((List Al)×Int):=
 B2 (decide (s=([]:Al))) (DV 14) (Ba (CP 0 (s.length:Int))<|Ba (BF .i64 (B1 s 0))<|Ba (E5 1 (s.length:Int))<|B2 (decide (64<(B1 s 0))) (DV 13) (B3 (Ci (λσ=>Jg s σ.1 σ.2.1 σ.2.2.1 σ.2.2.2) F (List.drop (Int.toNat 1) s,([]:List Al),0,0)) (BS λν=>Jf ν.1 ν.2)))
def OB (F:Nat)(body:Al):Option (Al×Int):=
 B2 (decide (262136<(body.length:Int))) (some (([]:Al),3)) (B3 (KE (IntKind.wrap .u32 (body.length:Int))) λr4=>B3 (Vu F body) λr7=>B3 (KE r7) λha=>Ba (BF .i64 ((r4.length:Int)+(ha.length:Int)))<|Ba (BF .i64 (((r4++ha).length:Int)+(body.length:Int)))<|some ((r4++ha)++body,0))
def X1 (F:Nat)(s:Al):Option (Al×Int×Int):=
 B2 (decide ((s.length:Int)<8)) (some (([]:Al),0,14)) (B3 (N6 s) λr4=>B2 (decide (262136<(IntKind.wrap .i64 r4))) (some (([]:Al),0,13)) (Ba (BF .i64 ((s.length:Int)-8))<|B2 (decide (((s.length:Int)-8)<(IntKind.wrap .i64 r4))) (some (([]:Al),0,14)) (Ba (BF .i64 (8+(IntKind.wrap .i64 r4)))<|Ba (E5 8 (8+(IntKind.wrap .i64 r4)))<|Ba (E5 (8+(IntKind.wrap .i64 r4)) (s.length:Int))<|B3 (Vu F (List.take (Int.toNat (8+(IntKind.wrap .i64 r4))-Int.toNat 8) (List.drop (Int.toNat 8) s))) λha=>Ba (E5 4 (s.length:Int))<|B3 (N6 (List.drop (Int.toNat 4) s)) λhb=>B2 (!decide (ha=hb)) (some (([]:Al),0,13)) (some (List.take (Int.toNat (8+(IntKind.wrap .i64 r4))-Int.toNat 8) (List.drop (Int.toNat 8) s),8+(IntKind.wrap .i64 r4),0)))))
def KD (F:Nat)(s:Al)(hd:(List Al))(ha:Int):Option (Stp ((List Al)×Int) (Out ((List Al)×Int) ((List Al)×Int))):=
 B2 (decide (ha<(s.length:Int))) (Ba (E5 ha (s.length:Int))<|B3 (X1 F (List.drop (Int.toNat ha) s)) λhb=>B2 (!decide (hb.2.2=0)) (some (.out (.go (hd,ha)))) (Ba (CX 16 (hd.length+([hb.1]:List Al).length))<|Ba (BF .i64 (ha+hb.2.1))<|some (.next (hd++([hb.1]:List Al),ha+hb.2.1)))) (some (.out (.go (hd,ha))))
def KC (ha:(List Al))(hb:Int):Option ((List Al)×Int):=
 Ba (E5 (ha.length:Int) (ha.length:Int))<|some (List.take (Int.toNat (ha.length:Int)) ha,hb)
def Tr (F:Nat)(s:Al):Option ((List Al)×Int):=
 B3 (Ci (λσ=>KD F s σ.1 σ.2) F (([]:List Al),0)) (BS λν=>KC ν.1 ν.2)
def Gd (F:Nat)(bodies:(List Al))(hb:(List Int))(hd:Int):Option (Stp ((List Int)×Int) (Out (Al×Int) ((List Int)))):=
 B2 (decide (hd<(bodies.length:Int))) (Ba (CP hd (bodies.length:Int))<|B3 (OB F (Ap bodies hd)) λha=>Ba (imp (!(!decide (ha.2=0))) (BF .i64 ((hb.length:Int)+(ha.1.length:Int))))<|B2 (((!decide (ha.2=0))||(decide (262144<((hb.length:Int)+(ha.1.length:Int)))))) (some (.out (.ret (([]:Al),3)))) (Ba (CX 1 (hb.length+ha.1.length))<|Ba (BF .i64 (hd+1))<|some (.next (hb++Du ha.1,hd+1)))) (some (.out (.go hb)))
def JS (ha:(List Int)):Option (Al×Int):=
 some (Iz ha,0)
def Sk (F:Nat)(bodies:(List Al)):Option (Al×Int):=
 B3 (Ci (λσ=>Gd F bodies σ.1 σ.2) F (([]:List Int),0)) (BS λν=>JS ν)
def Ht (hb:Int)(ha:Int):Option (Stp (Int×Int) (Out (Stp (Int×Int) (Out (Int) (Int))) (Int×Int×Int×Bool))):=
 B2 (decide (ha<8)) (Ba (BF .i64 (ha+1))<|some (.next ((bif decide ((Lp .u32 hb 1)=1) then E0 .u32 (Ce .u32 hb 1) 3988292384 else Ce .u32 hb 1),ha+1))) (some (.out (.go (hb,ha,ha,decide (ha<8)))))
def JL (ha:Int)(hb:Int)(hd:Int)(he:Int)(hf:Bool):Option (Stp (Int×Int) (Out (Int) (Int))):=
 Ba (BF .i64 (ha+1))<|some (.next (hb,ha+1))
def EX (F:Nat)(s:Al)(hb:Int)(ha:Int):Option (Stp (Int×Int) (Out (Int) (Int))):=
 B2 (decide (ha<(s.length:Int))) (Ba (CP ha (s.length:Int))<|B3 (Ci (λσ=>Ht σ.1 σ.2) F (E0 .u32 hb (IntKind.wrap .u32 (B1 s ha)),0)) (BS λν=>JL ha ν.1 ν.2.1 ν.2.2.1 ν.2.2.2)) (some (.out (.go hb)))
def LJ (ha:Int):Option (Int):=
 some (QG .u32 ha)
def R8 (F:Nat)(s:Al):Option (Int):=
 B3 (Ci (λσ=>EX F s σ.1 σ.2) F (4294967295,0)) (BS λν=>LJ ν)
def Mt (n:Int):Option ((List Int)):=
 some ([IntKind.wrap .u8 (Ce .u32 n 24),IntKind.wrap .u8 (Ce .u32 n 16),IntKind.wrap .u8 (Ce .u32 n 8),IntKind.wrap .u8 n]:List Int)
def EN (fields:(List Al))(hb:(List Int))(ha:Int):Option (Stp ((List Int)×Int) (Out (Al×Int) ((List Int)))):=
 B2 (decide (ha<(fields.length:Int))) (Ba (CP ha (fields.length:Int))<|B2 (decide (4000<((Ap fields ha).length:Int))) (some (.out (.ret (([]:Al),3)))) (Ba (BF .i64 (Int.tdiv ((Ap fields ha).length:Int) 256))<|Ba (CX 1 (hb.length+([IntKind.wrap .u8 (Int.tdiv ((Ap fields ha).length:Int) 256),IntKind.wrap .u8 (Int.tmod ((Ap fields ha).length:Int) 256)]:List Int).length))<|Ba (CX 1 ((hb++([IntKind.wrap .u8 (Int.tdiv ((Ap fields ha).length:Int) 256),IntKind.wrap .u8 (Int.tmod ((Ap fields ha).length:Int) 256)]:List Int)).length+(Ap fields ha).length))<|Ba (BF .i64 (ha+1))<|some (.next ((hb++([IntKind.wrap .u8 (Int.tdiv ((Ap fields ha).length:Int) 256),IntKind.wrap .u8 (Int.tmod ((Ap fields ha).length:Int) 256)]:List Int))++Du (Ap fields ha),ha+1)))) (some (.out (.go hb)))
def Ko (ha:(List Int)):Option (Al×Int):=
 some (Iz ha,0)
def Ol (F:Nat)(fields:(List Al)):Option (Al×Int):=
 B2 (decide (64<(fields.length:Int))) (some (([]:Al),3)) (B3 (Ci (λσ=>EN fields σ.1 σ.2) F (([IntKind.wrap .u8 (fields.length:Int)]:List Int),0)) (BS λν=>Ko ν))
def Mr (F:Nat)(body:Al):Option (Al×Int):=
 B2 (decide (262136<(body.length:Int))) (some (([]:Al),3)) (B3 (Mt (IntKind.wrap .u32 (body.length:Int))) λr4=>B3 (R8 F body) λr7=>B3 (Mt r7) λha=>Ba (BF .i64 (((Iz r4).length:Int)+((Iz ha).length:Int)))<|Ba (BF .i64 ((((Iz r4)++(Iz ha)).length:Int)+(body.length:Int)))<|some (((Iz r4)++(Iz ha))++body,0))
def Ew (F:Nat)(bodies:(List Al))(hb:(List Int))(ha:Int):Option (Stp ((List Int)×Int) (Out (Al×Int) ((List Int)))):=
 B2 (decide (ha<(bodies.length:Int))) (Ba (CP ha (bodies.length:Int))<|B3 (Mr F (Ap bodies ha)) λhd=>Ba (CX 1 (hb.length+hd.1.length))<|Ba (BF .i64 (ha+1))<|some (.next (hb++Du hd.1,ha+1))) (some (.out (.go hb)))
def Iu (ha:(List Int)):Option (Al×Int):=
 some (Iz ha,0)
def Ex (bodies:(List Al))(hb:Int)(ha:Int):Option (Stp (Int×Int) (Out (Al×Int) (Int))):=
 B2 (decide (ha<(bodies.length:Int))) (Ba (CP ha (bodies.length:Int))<|Ba (imp (!(decide (262136<((Ap bodies ha).length:Int)))) (BF .i64 (hb+8)))<|Ba (imp (!(decide (262136<((Ap bodies ha).length:Int)))) (BF .i64 ((hb+8)+((Ap bodies ha).length:Int))))<|B2 (((decide (262136<((Ap bodies ha).length:Int)))||(decide (262144<((hb+8)+((Ap bodies ha).length:Int)))))) (some (.out (.ret (([]:Al),3)))) (Ba (BF .i64 (hb+8))<|Ba (BF .i64 ((hb+8)+((Ap bodies ha).length:Int)))<|Ba (BF .i64 (ha+1))<|some (.next ((hb+8)+((Ap bodies ha).length:Int),ha+1)))) (some (.out (.go hb)))
def Ha (F:Nat)(bodies:(List Al))(ha:Int):Option (Al×Int):=
 Ba (CX 1 (Int.toNat ha))<|Ba (decide (0≤ha))<|B3 (Ci (λσ=>Ew F bodies σ.1 σ.2) F (([]:List Int),0)) (BS λν=>Iu ν)
def Om (F:Nat)(bodies:(List Al)):Option (Al×Int):=
 B3 (Ci (λσ=>Ex bodies σ.1 σ.2) F (0,0)) (BS λν=>Ha F bodies ν)
end Go.Proofs.YtfobhhegpkinaaaGreatDoor
namespace Go.Proofs.YtfobhhegpkinaaaGreatDoor.Q
open Go Go.RowKit
set_option linter.unusedVariables false
set_option linter.unusedSimpArgs false
section
variable {P : Program} {n : Nat} {c : Cx} {l : Fr} {H : List Ent} {d : Option Nat} {x y : Operand} {t t' ty : TypeId} {pos : String} {af : Array Edge} {g : Option (Nat × Bool)} {k k' : IntKind} {p q : Int}
theorem Zf (hx:ev l x=some (rI k p))(hy:ev l y=some (rI k q)):B0 P n c l H { dst:=d,op:=.binOp .and t x y t',type:=ty,pos:=pos,after:=af,guard:=g } (rI k (Lp k p q)):=λa w Z ha _=>CW<|by
 simp[execOp,ha.eval hx,ha.eval hy,B8,binOp,Op.intBits,Lp]
theorem Yt (hx:ev l x=some (rI k p))(hy:ev l y=some (rI k q)):B0 P n c l H { dst:=d,op:=.binOp .or t x y t',type:=ty,pos:=pos,after:=af,guard:=g } (rI k (J9 k p q)):=λa w Z ha _=>CW<|by
 simp[execOp,ha.eval hx,ha.eval hy,B8,binOp,Op.intBits,J9]
theorem RE (hx:ev l x=some (rI k p))(hy:ev l y=some (rI k q)):B0 P n c l H { dst:=d,op:=.binOp .xor t x y t',type:=ty,pos:=pos,after:=af,guard:=g } (rI k (E0 k p q)):=λa w Z ha _=>CW<|by
 simp[execOp,ha.eval hx,ha.eval hy,B8,binOp,Op.intBits,E0]
theorem TP (hx:ev l x=some (rI k p))(hy:ev l y=some (rI k' q))(h0:decide (0≤q)=true):B0 P n c l H { dst:=d,op:=.binOp .shl t x y t',type:=ty,pos:=pos,after:=af,guard:=g } (rI k (DE k p q)):=λa w Z ha _=>CW<|by
 have h1 : ¬ q<0:=by have:=AbK h0;omega
 simp[execOp,ha.eval hx,ha.eval hy,B8,binOp,Op.shift,DE,h1]
theorem JN (hx:ev l x=some (rI k p))(hy:ev l y=some (rI k' q))(h0:decide (0≤q)=true):B0 P n c l H { dst:=d,op:=.binOp .shr t x y t',type:=ty,pos:=pos,after:=af,guard:=g } (rI k (Ce k p q)):=λa w Z ha _=>CW<|by
 have h1 : ¬ q<0:=by have:=AbK h0;omega
 simp[execOp,ha.eval hx,ha.eval hy,B8,binOp,Op.shift,Ce,h1]
theorem TS (hx:ev l x=some (rI k p)):B0 P n c l H { dst:=d,op:=.unOp .xor t x,type:=ty,pos:=pos,after:=af,guard:=g } (rI k (QG k p)):=λa w Z ha _=>CW<|by
 simp[execOp,ha.eval hx,Op.unary,Op.intBits,QG,E0]
end
theorem Z7 {α:Type}[Inhabited α]{enc:α→Rp}{ys:List α}{j:Int}(hg:CP j (ys.length:Int)=true):(List.map enc ys)[j.toNat]? =some (enc (Ap ys j)):=by
 have h0:=(De hg).1;have h1:=(De hg).2;have hl:j.toNat<ys.length:=by omega
 simp[Ap,Abz hl]
theorem Y2 {α:Type}{enc:α→Rp}{ys:List α}{j:Int}(hg:CP j (ys.length:Int)=true):Nat.blt j.toNat (List.map enc ys).length=true:=by
 have h0:=(De hg).1;have h1:=(De hg).2;simp;omega
section
variable {P : Program} {n : Nat} {c : Cx} {ops : Array Oper} {Q : Exit → Act → World → Prop} {rest : List Oper} {l : Fr} {H H' : List Ent} {d : Nat} {d' : Option Nat} {x y : Operand} {t ty e : TypeId} {pos : String} {af : Array Edge} {g : Option (Nat × Bool)} {k : IntKind} {b i len : Nat} {j : Int}
theorem WH (ht:P.underlying t=some (.array len e))(hz:∀w,(sizeOf e).run P w = .ok 1 w)(hx:ev l x=some (rv (.pointer (some ⟨b,0,none⟩))))(hy:ev l y=some (rI k j))(hg:CP j (len:Int)=true) :
  B0 P n c l H { dst:=d',op:=.indexAddr t x y,type:=ty,pos:=pos,after:=af,guard:=g } (rv (.pointer (some ⟨b,j.toNat,none⟩))):=λa w Z ha hw=>CW<|by
 have h0:=(De hg).1;have h1:=(De hg).2;simp[execOp,ha.eval hx,ha.eval hy,Instr.indexAt,Instr.sureAddr,asIntOf,run_underlying ht,h0,h1,hz,HA]
theorem WF {α:Type}[Inhabited α]{enc:α→Rp}{ys:List α}(hag:∀w,(isAgg t).run P w = .ok false w)(hx:ev l x=some (rv (.pointer (some ⟨b,j.toNat,none⟩))))(hi:H[i]? =some (.blk b (List.map enc ys) e))(hg:CP j (ys.length:Int)=true) :
  B0 P n c l H { dst:=d',op:=.load t x,type:=ty,pos:=pos,after:=af,guard:=g } (enc (Ap ys j)):=AT hag hx hi (Z7 hg)
theorem UB {α:Type}[Inhabited α]{enc:α→Rp}{ys:List α}{v:α}(hag:∀w,(sizeOf t).run P w = .ok 1 w)(hx:ev l x=some (rv (.pointer (some ⟨b,j.toNat,none⟩))))(hy:ev l y=some (enc v))(hv:S6 H (enc v))
  (hi:H[i]? =some (.blk b (List.map enc ys) e)) (hg:CP j (ys.length:Int)=true) (hH:H.set i (.blk b (List.map enc (List.set ys j.toNat v)) e)=H')
  (h:WL P n c ops Q rest l H'):WL P n c ops Q ({ dst:=none,op:=.store t x y,type:=ty,pos:=pos,after:=af,guard:=none }::rest) l H:=
 BA hag hx hy hv hi (Y2 hg) (cs':=List.map enc (List.set ys j.toNat v)) (by rw[List.map_set]) hH h
theorem SZ {α:Type}{enc:α→Rp}{ys:List α}{sz:Nat}(hag:∀w,(isAgg t).run P w = .ok true w)(hsz:∀w,(sizeOf t).run P w = .ok sz w)(hx:ev l x=some (rv (.pointer (some ⟨b,0,none⟩))))(hi:H[i]? =some (.blk b (List.map enc ys) e))(hl:decide (ys.length=sz)=true) :
  B0 P n c l H { dst:=d',op:=.load t x,type:=ty,pos:=pos,after:=af,guard:=g } (BQ (List.map enc ys)):=Bf hag hsz hx hi (by rw[List.drop_zero,List.take_of_length_le (by rw[Ab3];have:=AbK hl;omega)]) (by rw[Ab3];exact AbK hl)
theorem MM {α:Type}{enc:α→Rp}{ys zs:List α}{sz:Nat}(hsz:∀w,(sizeOf t).run P w = .ok sz w)(hx:ev l x=some (rv (.pointer (some ⟨b,0,none⟩))))(hy:ev l y=some (BQ (List.map enc zs)))(h1:∀x,(enc x).one=true)
  (hi:H[i]? =some (.blk b (List.map enc ys) e)) (hl:decide (ys.length=sz)=true) (hl2:decide (zs.length=sz)=true) (hH:H.set i (.blk b (List.map enc zs) e)=H')
  (h:WL P n c ops Q rest l H'):WL P n c ops Q ({ dst:=none,op:=.store t x y,type:=ty,pos:=pos,after:=af,guard:=none }::rest) l H:=
 Br hsz hx hy (by rw[Ab3];exact AbK hl2) (Cq.c (by simp[List.all_map,h1])) hi (by have:=AbK hl;simp;omega)
  (cs':=List.map enc zs) (by have:=AbK hl;rw[List.take_zero,Acb,List.drop_of_length_le (by rw[Ab3];omega),AbZ]) hH h
theorem Y4 {α:Type}{enc:α→Rp}{ys:List α}{sz:Nat}(hl:decide (ys.length=sz)=true):(List.map enc ys).length=sz:=by rw[Ab3];exact AbK hl
end
def QR (ops:List Oper)(N:Nat):Bool:=
 let cl:=OI ops []
 (List.range ops.length).all (λi=>(ET (ops.getD i default)).all (·<i))&&
 (List.range ops.length).all (λi=>i<N||(List.range i).all (λj=>(cl.getD i 0).testBit j))
section
variable {P : Program} {Q : Exit → Act → World → Prop}
theorem Sv {listed:Array Bool}{len m:Nat}(hs:listed.size=len)(hm:m≤len)(h:∀j,j<len→(listed.getD j true=true↔j<m)):listed.toList.count false=len-m:=by
 have:listed.toList=List.replicate m true++List.replicate (len-m) false:=by
  apply List.ext_getElem
  ·simp[hs];omega
  ·intro j h1 h2;have hj:j<len:=by simpa[hs] using h1
   have:=h j hj;rw[Array.getD_eq_getD_getElem?,Array.getElem?_eq_getElem (by omega)] at this;simp only[AbO] at this;rw[Array.getElem_toList,List.getElem_append]
   split
   ·rename_i h3
    simp at h3;simp[this.2 h3]
   ·rename_i h3
    simp at h3;simp only[List.getElem_replicate]
    cases hb:listed[j] with
    | false=>rfl
    | true=>have:=this.1 hb;omega
 rw[this];simp[List.count_append,List.count_replicate]
theorem Uc {listed:Array Bool}{j:Nat}(h:j<listed.size)(d d':Bool):listed.getD j d=listed.getD j d':=by
 simp[Array.getD_eq_getD_getElem?,Array.getElem?_eq_getElem h]
theorem OO {ops:List Oper}{listed:Array Bool}{i:Nat}{o:Oper}(ho:ops[i]? =some o)(hb:∀e∈ET o,listed.getD e true=true)
  (hcl:∀j o,ops[j]? =some o→listed.getD j true=true→∀e∈ET o,listed.getD e true=true) (j:Nat) (h:((OI ops []).getD i 0).testBit j=true):j=i∨listed.getD j true=true:=
 I8 ops (λk=>k=i∨listed.getD k true=true) ops [] (λt o' ht e he hF=>by
  rcases hF with hF | hF
  ·simp at hF;subst hF;rw[ho] at ht;simp at ht;subst ht;exact .inr (hb e he)
  ·exact .inr (hcl t o' ht (by simpa using hF) e he)) (λj i hb=>by simp at hb) i j h (.inl rfl)
theorem Lh {ops:List Oper}{listed:Array Bool}{i:Nat}(hsz:listed.size=ops.length)(hlt:∀i,i<ops.length→∀e∈ET (ops.getD i default),e<i)(h:i∈Region.ready .any ops.toArray listed) :
  listed.getD i true=false∧i<ops.length∧∃o,ops[i]? =some o∧∀e∈ET o,listed.getD e true=true:=by
 obtain⟨h1,o,ho,h2⟩:=mem_ready.1 h;have ho':ops[i]? =some o:=by simpa using ho
 have hil:=(List.getElem?_eq_some_iff.1 ho').1;refine⟨h1,hil,o,ho',λe he=>?_⟩;have hei:=hlt i hil e (by rw[Ab4,ho'];exact he);simp only[ET,List.mem_map,List.mem_filter] at he;obtain⟨x,⟨hx1,hx2⟩,rfl⟩:=he;have h3:=h2 x (by simpa using hx1) hx2;rw[Uc (by omega) true false];exact h3
theorem KV {ops:List Oper}{listed:Array Bool}(hsz:listed.size=ops.length)(hlt:∀i,i<ops.length→∀e∈ET (ops.getD i default),e<i)(h:Region.ready .any ops.toArray listed=[]) :
  ∀j,j<ops.length→listed.getD j true=true:=by
 intro j
 induction j using Nat.strongRecOn with
 | ind j ih=>
  intro hj
  cases hb:listed.getD j true with
  | true=>rfl
  | false=>
   have:j∈Region.ready .any ops.toArray listed:=mem_ready.2 ⟨hb,ops[j],by simp[hj],λe he hbn=>by
    have hel:e.on<j:=hlt j hj e.on (by
     rw[Ab4,Abz hj];simp only[ET,AbO,List.mem_map,List.mem_filter];exact⟨e,⟨by simpa using he,hbn⟩,rfl⟩)
    rw[Uc (by omega) false true];exact ih e.on hel (by omega)⟩
   rw[h] at this;cases this
theorem Nu {listed:Array Bool}{i j:Nat}(hi:i<listed.size):(listed.setIfInBounds i true).getD j true=true↔(j=i∨listed.getD j true=true):=by
 by_cases hj:i=j
 ·subst hj;simp[hi]
 ·rw[getD_set_ne true hj];exact⟨.inr,λh=>h.elim (λh=>absurd h.symm hj) id⟩
theorem UF {listed:Array Bool}{i fuel:Nat}(hi:i<listed.size)(hun:listed.getD i true=false)(hc:listed.toList.count false=fuel+1):(listed.setIfInBounds i true).toList.count false=fuel:=by
 have hfi:listed.toList[i]? =some false:=by
  rw[Array.getD_eq_getD_getElem?,Array.getElem?_eq_getElem hi] at hun;simp at hun;simp[hi,hun]
 rw[Array.toList_setIfInBounds];have h1:=List.count_set (a:=true) (b:=false) (l:=listed.toList) (i:=i) (by simpa using hi);have h2:listed.toList[i]'(by simpa using hi)=false:=by
  have:=List.getElem?_eq_some_iff.1 hfi;exact this.2
 rw[h1,h2,hc];rfl
theorem MG {ops:List Oper}{N:Nat}(hlt:∀i,i<ops.length→∀e∈ET (ops.getD i default),e<i)
  (hch:∀i,N≤i→i<ops.length→∀j,j<i→((OI ops []).getD i 0).testBit j=true):∀(k m:Nat) (listed:Array Bool) (a:Act) (w:World),m+k=ops.length→N≤m→listed.size=ops.length→
   (∀j,j<ops.length→(listed.getD j true=true↔j<m))→(∀j o,ops[j]? =some o→listed.getD j true=true→∀e∈ET o,listed.getD e true=true)→wpList P ops.toArray Q (ops.drop m) a w→wpAny P .any ops.toArray Q k listed a w
 | 0,m,listed,a,w,hk,hN,hsz,hl,hcl,h=>by
  refine⟨?_,?_⟩
  ·cases hr:Region.ready .any ops.toArray listed with
   | nil=>rfl
   | cons i r=>
    obtain⟨h1,h2,_⟩:=Lh hsz hlt (i:=i) (by rw[hr];simp);rw[(hl i h2).2 (by omega)] at h1;cases h1
  ·rw[List.drop_of_length_le (by omega)] at h;exact h
 | k+1,m,listed,a,w,hk,hN,hsz,hl,hcl,h=>by
  refine⟨λhr=>?_,λi hi=>?_⟩
  ·have:=(hl m (by omega)).1 (KV hsz hlt hr m (by omega));omega
  ·obtain⟨h1,h2,o,ho,hb⟩:=Lh hsz hlt hi;have him:i=m:=by
    have hmi : ¬ i<m:=λh'=>by rw[(hl i h2).2 h'] at h1;cases h1
    by_cases e:i=m
    ·exact e
    ·rcases OO ho hb hcl m (hch i (by omega) h2 m (by omega)) with h3 | h3
     ·exact h3.symm
     ·have:=(hl m (by omega)).1 h3;omega
   subst him;have hd:ops.drop i=o::ops.drop (i+1):=by
    rw[List.drop_eq_getElem_cons h2]
    congr 1
    exact(List.getElem?_eq_some_iff.1 ho).2
   rw[hd] at h;have ih:∀a' w',wpList P ops.toArray Q (ops.drop (i+1)) a' w'→wpAny P .any ops.toArray Q k (listed.setIfInBounds i true) a' w':=λa' w' h'=>by
    refine MG hlt hch k (i+1) _ a' w' (by omega) (by omega) (by simpa using hsz) (λj hj=>?_) (λj o' hj hlj e he=>?_) h'
    ·rw[Nu (by omega),hl j hj];omega
    ·rw[Nu (by omega)] at hlj ⊢;rcases hlj with rfl | hlj
     ·rw[ho] at hj;simp at hj;subst hj;exact .inr (hb e he)
     ·exact .inr (hcl j o' hj hlj e he)
   unfold wpOp;have hoA:ops.toArray[i]? =some o:=by simpa using ho
   simp only[hoA];simp only[wpList] at h
   split
   ·rename_i hw'
    rw[Aci hw'] at h;exact h.imp (λh=>Oper.wp_mono ih h) (λh=>h)
   ·rename_i hw'
    rw[Aca hw'] at h;exact ih _ _ h
theorem VW {id:Nat}{ops:List Oper}{N:Nat}(hm:P.follows .mixedOrders=true)(hB:QR ops N=true)(hN:N≤ops.length)(I:(Nat→Bool)→Act→World→Prop)
  (hext:∀S S' a w,(∀j,j<N→S j=S' j)→I S a w→I S' a w) {a:Act} {w:World} (h0:I (λ_=>false) a { w with drawn:=w.drawn+1 })
  (step:∀S i o a w,i<N→S i=false→ops[i]? =some o→(∀e∈ET o,e<i∧S e=true)→I S a w→∀K:Act→World→Prop,(∀a' w',I (λj=>j ==i||S j) a' w'→K a' w')→
   (Region.wanted o (yielded ops.toArray a.tmps)=true→o.wp P a w K Q)∧(Region.wanted o (yielded ops.toArray a.tmps)=false→K (a.put o.dst undef) w))
  (fin:∀a w,I (λ_=>true) a w→wpList P ops.toArray Q (ops.drop N) a w):(Code.region id ops.toArray true).wp P Q a w:=by
 simp only[QR,Abv,AbV,List.mem_range,Abo,AbR] at hB;obtain⟨hlt,hch0⟩:=hB;have hch:∀i,N≤i→i<ops.length→∀j,j<i→((OI ops []).getD i 0).testBit j=true:=λi h1 h2 j hj=>by
  rcases hch0 i h2 with h3 | h3
  ·omega
  ·exact h3 j hj
 refine wp_region_any hm ?_;have main:∀(fuel:Nat) (listed:Array Bool) (a:Act) (w:World),listed.size=ops.length→listed.toList.count false=fuel→I (λj=>listed.getD j true) a w→
   (∀j o,ops[j]? =some o→listed.getD j true=true→∀e∈ET o,listed.getD e true=true)→(∀j,N≤j→j<ops.length→listed.getD j true=false)→wpAny P .any ops.toArray Q fuel listed a w:=by
  intro fuel;have allin:∀(fuel:Nat) (listed:Array Bool) (a:Act) (w:World),listed.size=ops.length→listed.toList.count false=fuel→I (λj=>listed.getD j true) a w→
   (∀j o,ops[j]? =some o→listed.getD j true=true→∀e∈ET o,listed.getD e true=true)→(∀j,N≤j→j<ops.length→listed.getD j true=false)→(∀j,j<N→listed.getD j true=true)→wpAny P .any ops.toArray Q fuel listed a w:=by
   intro fuel listed a w hsz hc hI hcl hlast hall;have hl:∀j,j<ops.length→(listed.getD j true=true↔j<N):=λj hj=>by
    constructor
    ·intro h
     by_cases hjN:j<N
     ·exact hjN
     ·rw[hlast j (by omega) hj] at h;cases h
    ·exact hall j
   have:=Sv hsz hN hl;refine MG hlt hch fuel N listed a w (by omega) (AbI _) hsz hl hcl (fin a w (hext _ _ a w (λj hj=>hall j hj) hI))
  induction fuel with
  | zero=>
   intro listed a w hsz hc hI hcl hlast;refine allin 0 listed a w hsz hc hI hcl hlast (λj hj=>?_)
   cases hb:listed.getD j true with
   | true=>rfl
   | false=>
    have:false∈listed.toList:=by
     rw[Array.getD_eq_getD_getElem?,Array.getElem?_eq_getElem (by omega)] at hb;simp at hb;rw[← hb];simp
    have:=List.count_pos_iff.2 this;omega
  | succ fuel ih=>
   intro listed a w hsz hc hI hcl hlast
   by_cases hall:∀j,j<N→listed.getD j true=true
   ·exact allin (fuel+1) listed a w hsz hc hI hcl hlast hall
   ·refine⟨λhr=>absurd (λj hj=>KV hsz hlt hr j (by omega)) hall,λi hi=>?_⟩;obtain⟨h1,h2,o,ho,hb⟩:=Lh hsz hlt hi;have hiN:i<N:=by
     by_cases h:i<N
     ·exact h
     ·refine absurd (λj hj=>?_) hall;rcases OO ho hb hcl j (hch i (by omega) h2 j (by omega)) with h3 | h3
      ·omega
      ·exact h3
    have K':∀a' w',I (λj=>j ==i||listed.getD j true) a' w'→wpAny P .any ops.toArray Q fuel (listed.setIfInBounds i true) a' w':=λa' w' hI'=>by
     refine ih _ a' w' (by simpa using hsz) (UF (by omega) h1 hc) (hext _ _ a' w' (λj hj=>?_) hI') (λj o' hj hlj e he=>?_) (λj h3 h4=>?_)
     ·have:=Nu (listed:=listed) (i:=i) (j:=j) (by omega)
      cases hq:(listed.setIfInBounds i true).getD j true with
      | true=>
       rw[hq] at this;rcases this.1 rfl with h | h
       ·simp[h]
       ·simp[h]
      | false=>
       rw[hq] at this;have h5 : ¬ (j=i∨listed.getD j true=true):=λh=>by have:=this.2 h;cases this
       cases hz:listed.getD j true with
       | true=>exact absurd (.inr hz) h5
       | false=>
        have:j≠i:=λh=>h5 (.inl h);simp[this]
     ·rw[Nu (by omega)] at hlj ⊢;rcases hlj with rfl | hlj
      ·rw[ho] at hj;simp at hj;subst hj;exact .inr (hb e he)
      ·exact .inr (hcl j o' hj hlj e he)
     ·rw[getD_set_ne true (by omega)];exact hlast j h3 h4
    obtain⟨k1,k2⟩:=step _ i o a w hiN h1 ho (λe he=>⟨hlt i h2 e (by rw[Ab4,ho];exact he),hb e he⟩) hI _ K';unfold wpOp;have hoA:ops.toArray[i]? =some o:=by simpa using ho
    simp only[hoA]
    split
    ·rename_i hw';exact .inl (k1 hw')
    ·rename_i hw';exact k2 (by simpa using hw')
 have e0:∀j,j<ops.length→(Array.replicate ops.length false).getD j true=false:=λj hj=>by simp[hj]
 have hsz0:ops.toArray.size=ops.length:=by simp
 rw[hsz0];refine main ops.length (Array.replicate ops.length false) a _ (by simp) (by simp) (hext _ _ _ _ (λj hj=>(e0 j (by omega)).symm) h0) (λj o hj hl=>?_) (λj _ h2=>e0 j h2);rw[e0 j (List.getElem?_eq_some_iff.1 hj).1] at hl;cases hl
end
structure Sa where
 deps:List Nat
 r:Rp
 al:Option (List Rp×TypeId):=none
 late:Option (Nat×List Rp):=none
 sto:Option Nat:=none
def GQ (sp:List Sa)(i:Nat):Sa:=sp.getD i { deps:=[],r:=rv undef }
def XJ (sp:List Sa):List Sp:=sp.map λs=>⟨s.deps,s.r,0⟩
def Mn (β:Nat→Nat)(s:Sa)(i:Nat):Rp:=match s.al with
 | none=>s.r
 | some _=>rv (.pointer (some ⟨β i,0,none⟩))
def M8 (S:Nat→Bool)(late:Option (Nat×List Rp))(cs:List Rp):List Rp:=match late with
 | none=>cs
 | some q=>if S q.1 then q.2 else cs
def GT (S:Nat→Bool)(β:Nat→Nat):List Sa→Nat→List Ent
 | [],_=>[]
 | s::r,t=>match s.al with
  | some p=>if S t then .blk (β t) (M8 S s.late p.1) p.2::GT S β r (t+1) else GT S β r (t+1)
  | none=>GT S β r (t+1)
def V0 (β:Nat→Nat):List Sa→Nat→List Ent
 | [],_=>[]
 | s::r,t=>match s.al with
  | some p=>.blk (β t) (match s.late with | none=>p.1 | some q=>q.2) p.2::V0 β r (t+1)
  | none=>V0 β r (t+1)
def Nd (β:Nat→Nat):List Oper→List Sa→Nat→Fr→Fr
 | o::os,s::sp,i,l=>match o.dst with
  | some d=>(d,Mn β s i)::Nd β os sp (i+1) l
  | none=>Nd β os sp (i+1) l
 | _,_,_,l=>l
theorem Lq {S S':Nat→Bool}{late:Option (Nat×List Rp)}{cs:List Rp}(h:∀q,late=some q→S q.1=S' q.1):M8 S late cs=M8 S' late cs:=by
 unfold M8
 cases late with
 | none=>rfl
 | some q=>simp only[];rw[h q rfl]
theorem ER (S:Nat→Bool)(β:Nat→Nat)(s:Sa)(r:List Sa)(t:Nat):GT S β (s::r) t=match s.al with
  | some p=>if S t then .blk (β t) (M8 S s.late p.1) p.2::GT S β r (t+1) else GT S β r (t+1)
  | none=>GT S β r (t+1):=rfl
theorem H0 {S S':Nat→Bool}{β β':Nat→Nat}:∀(r:List Sa) (t0:Nat),(∀(t:Nat) (s:Sa),r[t]? =some s→s.al≠none→S (t0+t)=S' (t0+t)∧(S (t0+t)=true→β (t0+t)=β' (t0+t)∧∀q,s.late=some q→S q.1=S' q.1))→GT S β r t0=GT S' β' r t0
 | [],_,_=>rfl
 | s::r,t0,h=>by
  have ih:=H0 r (t0+1) (λt s hs hn=>by
   have:=h (t+1) s (by simpa using hs) hn;rw[show t0+1+t=t0+(t+1) from by omega];exact this)
  unfold GT;rw[ih]
  cases ha:s.al with
  | none=>rfl
  | some p=>
   obtain⟨h1,h2⟩:=h 0 s rfl (by rw[ha];exact nofun);simp only[Nat.add_zero] at h1 h2;simp only[];rw[← h1]
   split
   ·rename_i hS;rw[(h2 hS).1,Lq (h2 hS).2]
   ·rfl
theorem Sr (β:Nat→Nat):∀(r:List Sa) (t0:Nat),GT (λ_=>true) β r t0=V0 β r t0
 | [],_=>rfl
 | s::r,t0=>by
  unfold GT V0;rw[Sr β r (t0+1)]
  cases s.al with
  | none=>rfl
  | some p=>cases hl:s.late<;>simp[M8,hl]
theorem PR (β:Nat→Nat):∀(r:List Sa) (t0:Nat),GT (λ_=>false) β r t0=[]
 | [],_=>rfl
 | s::r,t0=>by
  unfold GT;rw[PR β r (t0+1)]
  cases s.al<;>simp
theorem Sq {S:Nat→Bool}{β:Nat→Nat}{i b:Nat}{p:List Rp×TypeId}:∀(r:List Sa) (t0 k:Nat) (s:Sa),i=t0+k→r[k]? =some s→s.al=some p→S i=false→(∀(t:Nat) (s:Sa) (q:Nat×List Rp),r[t]? =some s→s.al≠none→s.late=some q→q.1≠i)→(∀q,s.late=some q→S q.1=false∧q.1≠i)→
  (GT (λj=>j ==i||S j) (λj=>if j=i then b else β j) r t0).Perm (.blk b p.1 p.2::GT S β r t0)
 | [],_,_,_,_,h,_,_,_,_=>by simp at h
 | s'::r,t0,0,s,hi,h,ha,hS,hne,hl=>by
  simp at h hi;subst h;subst hi;have e:=H0 (S:=λj=>j ==i||S j) (S':=S) (β:=λj=>if j=i then b else β j) (β':=β) r (i+1) (λt s hs hn=>by
   have:i+1+t≠i:=by omega
   refine⟨by simp[this],λ_=>⟨by simp[this],λq hq=>?_⟩⟩;have:=hne (t+1) s q (by simpa using hs) hn hq;simp[this])
  have ec:M8 (λj=>j ==i||S j) s'.late p.1=p.1:=by
   unfold M8
   cases hq:s'.late with
   | none=>rfl
   | some q=>
    obtain⟨h1,h2⟩:=hl q hq;simp[h1,h2]
  unfold GT;rw[e,ha];simp only[hS,BEq.rfl,AbD,AbL,ec];simp
 | s'::r,t0,k+1,s,hi,h,ha,hS,hne,hl=>by
  have ih:=Sq (S:=S) (β:=β) (i:=i) (b:=b) (p:=p) r (t0+1) k s (by omega) (by simpa using h) ha hS (λt s q hs=>hne (t+1) s q (by simpa using hs)) hl;have hne0:t0≠i:=by omega
  have hne':(t0 ==i)=false:=by simpa using hne0
  unfold GT
  cases ha':s'.al with
  | none=>exact ih
  | some q=>
   simp only[hne',Ab2,Aca hne0];rw[Lq (S:=λj=>j ==i||S j) (S':=S) (λq hq=>by
    have:=hne 0 s' q rfl (by rw[ha'];exact nofun) hq;simp[this])]
   cases hS':S t0 with
   | true=>simpa using(Abp _ ih).trans (List.Perm.swap _ _ _)
   | false=>simpa using ih
theorem So {S:Nat→Bool}{β:Nat→Nat}{i j:Nat}{p:List Rp×TypeId}{ncs:List Rp}:∀(r:List Sa) (t0 k:Nat) (s:Sa),j=t0+k→r[k]? =some s→s.al=some p→s.late=some (i,ncs)→S j=true→S i=false→(∀(t:Nat) (s:Sa) (q:Nat×List Rp),r[t]? =some s→s.al≠none→s.late=some q→t0+t≠j→q.1≠i)→(∀(t:Nat) (s:Sa),r[t]? =some s→s.al≠none→t0+t≠i)→
  ∃H',(GT S β r t0).Perm (.blk (β j) p.1 p.2::H')∧(GT (λj=>j ==i||S j) β r t0).Perm (.blk (β j) ncs p.2::H')
 | [],_,_,_,_,h,_,_,_,_,_,_=>by simp at h
 | s'::r,t0,0,s,hj,h,ha,hl,hSj,hSi,hne,hni=>by
  simp at h hj;subst h;subst hj;have e:=H0 (S:=λx=>x ==i||S x) (S':=S) (β:=β) (β':=β) r (j+1) (λt s hs hn=>by
   have h1:=hni (t+1) s (by simpa using hs) hn;have h1':j+1+t≠i:=by omega
   refine⟨by simp[h1'],λ_=>⟨rfl,λq hq=>?_⟩⟩;have:=hne (t+1) s q (by simpa using hs) hn hq (by omega);simp[this])
  refine⟨GT S β r (j+1),?_,?_⟩
  ·rw[ER];rw[ha];simp[hSj,M8,hl,hSi]
  ·rw[ER];rw[ha,e];simp[hSj,M8,hl]
 | s'::r,t0,k+1,s,hj,h,ha,hl,hSj,hSi,hne,hni=>by
  obtain⟨H',h1,h2⟩:=So (S:=S) (β:=β) (i:=i) (j:=j) (p:=p) (ncs:=ncs) r (t0+1) k s (by omega) (by simpa using h) ha hl hSj hSi (λt s q hs hn hq hx=>hne (t+1) s q (by simpa using hs) hn hq (by omega)) (λt s hs hn=>by
   have:=hni (t+1) s (by simpa using hs) hn;omega)
  cases ha':s'.al with
  | none=>exact⟨H',by rw[ER,ha'];exact h1,by rw[ER,ha'];exact h2⟩
  | some q=>
   have hi0:=hni 0 s' rfl (by rw[ha'];exact nofun);have hi0':(t0 ==i)=false:=by simpa using hi0
   have ec:M8 (λx=>x ==i||S x) s'.late q.1=M8 S s'.late q.1:=Lq (λq hq=>by
    have:=hne 0 s' q rfl (by rw[ha'];exact nofun) hq (by omega);simp[this])
   cases hS':S t0 with
   | true=>
    refine⟨.blk (β t0) (M8 S s'.late q.1) q.2::H',?_,?_⟩
    ·rw[ER];rw[ha'];simpa[hS'] using(Abp _ h1).trans (List.Perm.swap _ _ _)
    ·rw[ER];rw[ha'];simp only[hi0',Ab2,hS',AbL,ec];exact(Abp _ h2).trans (List.Perm.swap _ _ _)
   | false=>
    refine⟨H',?_,?_⟩
    ·rw[ER];rw[ha'];simpa[hS'] using h1
    ·rw[ER];rw[ha'];simp only[hi0',Ab2,hS'];simpa using h2
def okA (n:Nat)(ops:List Oper)(N:Nat)(keys:List Nat)(deps:List (List Nat))(als:List Bool)(lates stos:List (Option Nat)):Bool:=
 QR ops N&&decide (N≤ops.length)&&
 (List.range N).all (λi=>match Dh ops i with
  | some d=>decide (d<n)&&!keys.contains d&&(List.range N).all (λj=>j ==i||Dh ops j !=some d)
  | none=>true)&&
 (List.range N).all (λi=>(deps.getD i []).all (λj=>decide (j<N)&&(ET (ops.getD i default)).contains j&&!als.getD j true))&&
 (List.range N).all (λi=>match stos.getD i none with
  | some j=>decide (j<N)&&(ET (ops.getD i default)).contains j&&als.getD j false&&!als.getD i true
  | none=>true)&&
 (List.range N).all (λj=>match lates.getD j none with
  | some k=>decide (k<N)&&als.getD j false&&stos.getD k none ==some j
  | none=>true)
def Aba (P:Program)(n:Nat)(c:Cx)(opsA:Array Oper)(Q:Exit→Act→World→Prop)(l:Fr)(o:Oper)(p:List Rp×TypeId):Prop:=
 ∀H a w Z (K:Act→World→Prop),Ds n l a Z→St c H Z w→(∀b w',St c (.blk b p.1 p.2::H) Z w'→K (a.put o.dst (.pointer (some ⟨b,0,none⟩))) w')→
  Region.wanted o (yielded opsA a.tmps)=true∧o.wp P a w K Q
def ObA (P:Program)(n:Nat)(c:Cx)(opsA:Array Oper)(Q:Exit→Act→World→Prop)(ops:List Oper)(sp:List Sa)(l0:Fr)(H:List Ent)(i:Nat)(o:Oper):Prop:=
 match (GQ sp i).sto with
 | some j=>o.dst=none∧∃d p ncs,Dh ops j=some d∧(GQ sp j).al=some p∧(GQ sp j).late=some (i,ncs)∧
   ∀b H,EA P n c opsA Q ((d,rv (.pointer (some ⟨b,0,none⟩)))::Ct ops (XJ sp) (GQ sp i).deps l0) (.blk b p.1 p.2::H) o (rv undef) (.blk b ncs p.2::H)
 | none=>match (GQ sp i).al with
  | none=>∀E,EA P n c opsA Q (Ct ops (XJ sp) (GQ sp i).deps l0) (H++E) o (GQ sp i).r (H++E)
  | some p=>Aba P n c opsA Q (Ct ops (XJ sp) (GQ sp i).deps l0) o p
def MC (P:Program)(n:Nat)(c:Cx)(opsA:Array Oper)(Q:Exit→Act→World→Prop)(ops:List Oper)(sp:List Sa)(l0:Fr)(H:List Ent):Nat→List Oper→Prop
 | i,o::rest=>ObA P n c opsA Q ops sp l0 H i o∧MC P n c opsA Q ops sp l0 H (i+1) rest
 | _,[]=>True
section
variable {P : Program} {n : Nat} {c : Cx} {opsA : Array Oper} {Q : Exit → Act → World → Prop} {l l0 : Fr} {H : List Ent} {sp : List Sa}
theorem MC.at {ops:List Oper}:∀{k:Nat} {rest:List Oper},MC P n c opsA Q ops sp l0 H k rest→∀(t:Nat) o,rest[t]? =some o→ObA P n c opsA Q ops sp l0 H (k+t) o
 | k,o::rest,⟨h1,h2⟩,t,o',ht=>by
  cases t with
  | zero=>simp at ht;subst ht;exact h1
  | succ t=>
   have:=MC.at h2 t o' (by simpa using ht);rw[show k+(t+1)=k+1+t from by omega];exact this
 | _,[],_,t,o,h=>by simp at h
theorem QW {β:Nat→Nat}{a:Act}{Z:Fz}(h0:Ds n l0 a Z):∀(os:List Oper) (ss:List Sa) (k:Nat),(∀(t:Nat) o s d,os[t]? =some o→ss[t]? =some s→o.dst=some d→∃v,a.tmps[d]? =some v∧(Mn β s (k+t)).p Z v)→Ds n (Nd β os ss k l0) a Z
 | [],_,_,_=>by unfold Nd;exact h0
 | _::_,[],_,_=>by unfold Nd;exact h0
 | o::os,s::ss,k,h=>by
  have ih:=QW h0 os ss (k+1) (λt o' s' d h1 h2 h3=>by
   have:=h (t+1) o' s' d (by simpa using h1) (by simpa using h2) h3;rw[show k+1+t=k+(t+1) from by omega];exact this)
  unfold Nd
  cases hd:o.dst with
  | none=>exact ih
  | some d=>
   refine⟨ih.size,ih.defers,λi r hi=>?_⟩;rw[CJ] at hi
   split at hi
   ·rename_i e;subst e;simp at hi;subst hi;exact h 0 o s d rfl rfl hd
   ·exact ih.tm i r hi
theorem Zn {id:Nat}{ops:List Oper}(N:Nat)(sp:List Sa)(hm:P.follows .mixedOrders=true)(hB:okA n ops N (Gc l0) (sp.map (·.deps)) (sp.map (·.al.isSome)) (sp.map (·.late.map (·.1))) (sp.map (·.sto))=true)(hl0:VD l0 l)(hsp:sp.length=N)
  (hob:MC P n c ops.toArray Q ops sp l0 H 0 (ops.take N)) (h:∀β,WL P n c ops.toArray Q (ops.drop N) (Nd β (ops.take N) sp 0 l0) (H++V0 β sp 0)):WC P n c (.region id ops.toArray true) Q l H:=by
 intro a w Z ha hw;simp only[okA,Abv,AbV,List.mem_range,Abo] at hB;obtain⟨⟨⟨⟨⟨b1,bN⟩,b2⟩,b3⟩,b4⟩,b5⟩:=hB;have hget:∀i,i<N→(ops.take N)[i]? =ops[i]?:=λi hi=>by rw[AbU,Aci hi]
 have hsa:∀i,i<N→sp[i]? =some (GQ sp i):=λi hi=>by
  simp[GQ,Ab4,Abz (show i<sp.length by omega)]
 have hspq:∀i,i<N→(Ea (XJ sp) i)=⟨(GQ sp i).deps,(GQ sp i).r,0⟩:=λi hi=>by
  simp[Ea,XJ,Ab4,AbQ,hsa i hi]
 have hals:∀j b,j<N→(sp.map (·.al.isSome)).getD j b=(GQ sp j).al.isSome:=λj b hj=>by simp[Ab4,AbQ,hsa j hj]
 have hstos:∀j,j<N→(sp.map (·.sto)).getD j none=(GQ sp j).sto:=λj hj=>by simp[Ab4,AbQ,hsa j hj]
 have hlates:∀j,j<N→(sp.map (·.late.map (·.1))).getD j none=(GQ sp j).late.map (·.1):=λj hj=>by simp[Ab4,AbQ,hsa j hj]
 have S1:∀i o j,i<N→ops[i]? =some o→(GQ sp i).sto=some j→j<N∧j∈ET o∧(GQ sp j).al≠none∧(GQ sp i).al=none:=λi o j hi ho hs=>by
  have h1:=b4 i hi;rw[hstos i hi,hs] at h1;simp only[Abv,AbE,Abo] at h1;obtain⟨⟨⟨h2,h3⟩,h4⟩,h5⟩:=h1;rw[hals j _ h2] at h4;rw[hals i _ hi] at h5;rw[Ab4,ho,AbO,List.contains_iff_mem] at h3;exact⟨h2,h3,λe=>(by rw[e] at h4;cases h4),(by simpa using h5)⟩
 have L1:∀t q,t<N→(GQ sp t).late=some q→q.1<N∧(GQ sp q.1).sto=some t:=λt q ht hq=>by
  have h1:=b5 t ht;rw[hlates t ht,hq] at h1;simp only[Option.map_some,Abv,Abo,beq_iff_eq] at h1;obtain⟨⟨h2,h3⟩,h4⟩:=h1;rw[hstos _ h2] at h4;exact⟨h2,h4⟩
 have hops:∀j,j<N→∃o,ops[j]? =some o:=λj hj=>⟨ops[j]'(by omega),Abz (by omega)⟩
 have lt_of:∀(t:Nat) (s:Sa),sp[t]? =some s→t<N∧s=GQ sp t:=λt s hs=>by
  have h1:t<N:=by have:=(List.getElem?_eq_some_iff.1 hs).1;omega
  refine⟨h1,?_⟩;rw[hsa t h1] at hs;simpa using hs.symm
 have hdst:∀i o d,i<N→ops[i]? =some o→o.dst=some d→(d<n∧d ∉ Gc l0)∧∀j,j<N→j≠i→Dh ops j≠some d:=λi o d hi ho hd=>by
  have h3:=b2 i hi;have:Dh ops i=some d:=by simp[Dh,ho,hd]
  rw[this] at h3;simp only[Abv,AbE,AbV,List.mem_range,Abo] at h3;refine⟨⟨h3.1.1,λhmem=>by rw[← List.contains_iff_mem] at hmem;rw[hmem] at h3;cases h3.1.2⟩,λj hj hne he=>?_⟩;have:=h3.2 j hj;simp[hne,he] at this
 refine VW (N:=N) hm b1 bN (λS a w=>∃ (β:Nat→Nat) (Z:Fz),St c (H++GT S β sp 0) Z w∧Ds n l0 a Z∧(∀j o d,j<N→S j=true→ops[j]? =some o→o.dst=some d→∃v,a.tmps[d]? =some v∧(Mn β (GQ sp j) j).p Z v)∧
   ∀k j,k<N→(GQ sp k).sto=some j→S k=true→S j=true)
  (λS S' a w hS hI=>?_) ⟨λ_=>0,Z,?_,ha.subL hl0,λj o d _ hS=>(by cases hS),λk j _ _ hS=>(by cases hS)⟩ (λS i o a w hi hun ho hb hI K hK=>?_) (λa w hI=>?_)
 ·obtain⟨β,Z,h1,h2,h3,h4⟩:=hI;refine⟨β,Z,?_,h2,λj o d hj hS'=>h3 j o d hj (by rw[hS j hj];exact hS'),λk j hk hs hSk=>?_⟩
  ·rw[← H0 (S:=S) (β:=β) (β':=β) sp 0 (λt s hs _=>by
    obtain⟨ht,rfl⟩:=lt_of t s hs;exact⟨hS _ (by omega),λ_=>⟨rfl,λq hq=>hS _ (L1 t q ht hq).1⟩⟩)]
   exact h1
  ·obtain⟨o,ho⟩:=hops k hk;rw[← hS j (S1 k o j hk ho hs).1];exact h4 k j hk hs (by rw[hS k hk];exact hSk)
 ·rw[PR,AbZ];exact hw.drawn _
 ·obtain⟨β,Z,h1,h2,h3,hx⟩:=hI;have hput:∀k u v,a.tmps[k]? =some u→o.dst≠some k→(a.put o.dst v).tmps[k]? =some u:=λk u v hk hne=>by
   cases hd:o.dst with
   | none=>simpa[Act.put] using hk
   | some d=>
    simp only[Act.put,Array.getElem?_setIfInBounds];rw[Aca (λe=>hne (by rw[hd,e]))];exact hk
  have hagr:∀v Z',Fz.le Z Z'→Ds n l0 (a.put o.dst v) Z':=λv Z' hz=>by
   refine⟨?_,?_,λk r hk=>?_⟩
   ·cases o.dst<;>simp[Act.put,h2.size]
   ·cases o.dst<;>simp[Act.put,h2.defers]
   ·obtain⟨u,hu,hpu⟩:=h2.tm k r hk;exact⟨u,hput k u v hu (λe=>((hdst i o k hi ho e).1).2 (LV hk)),r.mono hz hpu⟩
  have hvals:∀(v:Value) (Z':Fz) (β':Nat→Nat),Fz.le Z Z'→(∀j,j≠i→β' j=β j)→(o.dst≠none→(Mn β' (GQ sp i) i).p Z' v)→∀j o' d,j<N→(j ==i||S j)=true→ops[j]? =some o'→o'.dst=some d→∃u,(a.put o.dst v).tmps[d]? =some u∧(Mn β' (GQ sp j) j).p Z' u:=by
   intro v Z' β' hz hβ hp j o' d hj hS' ho' hd
   by_cases hji:j=i
   ·subst hji;rw[ho] at ho';simp at ho';subst ho';refine⟨v,?_,hp (by simp[hd])⟩;have hdn:d<a.tmps.size:=by rw[h2.size];exact(hdst j o d hi ho hd).1.1
    simp[Act.put,hd,hdn]
   ·have hSj:S j=true:=by simpa[hji] using hS'
    obtain⟨u,hu,hpu⟩:=h3 j o' d hj hSj ho' hd;refine⟨u,hput d u v hu (λe=>(hdst i o d hi ho e).2 j hj hji (by simp[Dh,ho',hd])),?_⟩;have:Mn β' (GQ sp j) j=Mn β (GQ sp j) j:=by unfold Mn;rw[hβ j hji]
    rw[this];exact(Mn β (GQ sp j) j).mono hz hpu
  have hx':∀k j,k<N→(GQ sp k).sto=some j→(k ==i||S k)=true→(j ==i||S j)=true:=λk j hk hs hSk=>by
   by_cases hki:k=i
   ·subst hki;have:=(hb j (S1 k o j hk ho hs).2.1).2;simp[this]
   ·have:S j=true:=hx k j hk hs (by simpa[hki] using hSk);simp[this]
  have hat:=hob.at i o (by rw[hget i hi];exact ho);rw[AbX] at hat;unfold ObA at hat;have hag':Ds n (Ct ops (XJ sp) (GQ sp i).deps l0) a Z:=Mf h2 (λj hj d hd=>by
    have h4:=b3 i hi j (by simpa[Ab4,AbQ,hsa i hi] using hj);simp only[Abv,AbE,Abo] at h4;obtain⟨⟨h5,h6⟩,h7⟩:=h4;rw[Ab4,ho,AbO,List.contains_iff_mem] at h6;have hjal:(GQ sp j).al=none:=by
     rw[hals j _ h5] at h7;simpa using h7
    obtain⟨o2,ho2⟩:=hops j h5;obtain⟨v,hv1,hv2⟩:=h3 j o2 d h5 (hb j h6).2 ho2 (by simpa[Dh,ho2] using hd);refine⟨v,hv1,?_⟩;rw[hspq j h5];simpa[Mn,hjal] using hv2)
  cases hst:(GQ sp i).sto with
  | some j=>
   rw[hst] at hat;obtain⟨hod,d,p,ncs,hd,hal,hlate,hok⟩:=hat;obtain⟨hjN,hjb,_,hial⟩:=S1 i o j hi ho hst;have hSj:=(hb j hjb).2;obtain⟨H',p1,p2⟩:=So (S:=S) (β:=β) (i:=i) (j:=j) (p:=p) (ncs:=ncs) sp 0 j (GQ sp j) (by omega) (hsa j hjN) hal hlate hSj hun (λt s q hs _ hq hne he=>by
     obtain⟨ht,rfl⟩:=lt_of t s hs;have:=(L1 t q ht hq).2;rw[he,hst] at this;simp at this;omega) (λt s hs hn he=>by
     obtain⟨ht,rfl⟩:=lt_of t s hs;rw[AbX] at he;subst he;exact hn hial)
   obtain⟨o2,ho2⟩:=hops j hjN;obtain⟨v,hv1,hv2⟩:=h3 j o2 d hjN hSj ho2 (by simpa[Dh,ho2] using hd);have hag2:Ds n ((d,rv (.pointer (some ⟨β j,0,none⟩)))::Ct ops (XJ sp) (GQ sp i).deps l0) a Z:=⟨hag'.size,hag'.defers,λk r hk=>by
    rw[CJ] at hk
    split at hk
    ·rename_i e;subst e;simp at hk;subst hk
     exact⟨v,hv1,by simpa[Mn,hal] using hv2⟩
    ·exact hag'.tm k r hk⟩
   refine hok (β j) (H++H') a w Z K hag2 (h1.perm ((List.Perm.append_left H p1).trans List.perm_middle)) (λv w' Z' hz _ hs'=>hK _ _ ⟨β,Z',?_,hagr v Z' hz,hvals v Z' β hz (λ_ _=>rfl) (λhne=>absurd hod hne),hx'⟩);exact hs'.perm (List.perm_middle.symm.trans (List.Perm.append_left H p2.symm))
  | none=>
   rw[hst] at hat;have latene:∀t q,t<N→(GQ sp t).late=some q→q.1≠i:=λt q ht hq he=>by
    have:=(L1 t q ht hq).2;rw[he,hst] at this;cases this
   cases hal:(GQ sp i).al with
   | none=>
    rw[hal] at hat;refine hat _ a w Z K hag' h1 (λv w' Z' hz hp hst'=>hK _ _ ⟨β,Z',?_,hagr v Z' hz,hvals v Z' β hz (λ_ _=>rfl) (λ_=>by unfold Mn;rw[hal];exact hp),hx'⟩);rw[H0 (S':=S) (β':=β) sp 0 (λt s hs hn=>by
     obtain⟨ht,rfl⟩:=lt_of t s hs;have:t≠i:=λe=>by subst e;exact hn hal
     refine⟨by simp[this],λ_=>⟨rfl,λq hq=>?_⟩⟩;have:=latene t q ht hq;simp[this])]
    exact hst'
   | some p=>
    rw[hal] at hat;have key:=λK' hK'=>hat (H++GT S β sp 0) a w Z K' hag' h1 hK';have h5:∀b w',St c (.blk b p.1 p.2::(H++GT S β sp 0)) Z w'→K (a.put o.dst (.pointer (some ⟨b,0,none⟩))) w':=λb w' hst'=>by
     refine hK _ _ ⟨λj=>if j=i then b else β j,Z,?_,hagr _ Z (Fz.le.refl _),hvals _ Z _ (Fz.le.refl _) (λj hj=>by simp[hj]) (λ_=>by simp[Mn,hal,rv]),hx'⟩;have hp:=Sq (S:=S) (β:=β) (i:=i) (b:=b) (p:=p) sp 0 i (GQ sp i) (by omega) (hsa i hi) hal hun (λt s q hs _ hq=>by
      obtain⟨ht,rfl⟩:=lt_of t s hs;exact latene t q ht hq) (λq hq=>by
       refine⟨?_,latene i q hi hq⟩
       cases hS:S q.1 with
       | false=>rfl
       | true=>
        obtain⟨h6,h7⟩:=L1 i q hi hq;have:=hx q.1 i h6 h7 hS;rw[this] at hun;cases hun)
     exact hst'.perm ((List.perm_middle.symm).trans (List.Perm.append_left H hp.symm))
    refine⟨λ_=>(key K h5).2,λhw'=>?_⟩;rw[(key K h5).1] at hw';cases hw'
 ·obtain⟨β,Z,h1,h2,h3,_⟩:=hI;refine h β a w Z (QW h2 _ _ 0 (λt o s d ht hs hd=>?_)) (by rw[← Sr];exact h1);obtain⟨htN,rfl⟩:=lt_of t s hs;rw[AbX];exact h3 t o d htN rfl (by rw[← hget t htN];exact ht) hd
end
section
variable {P : Program} {n : Nat} {c : Cx} {opsA : Array Oper} {Q : Exit → Act → World → Prop} {l l0 : Fr} {H : List Ent} {sp : List Sa}
theorem Db {id:Nat}{ops:List Oper}(N:Nat)(ks0:List Nat)(sp:List Sa)(hob:MC P n c ops.toArray Q ops sp l0 H 0 (ops.take N))(h:∀β,WL P n c ops.toArray Q (ops.drop N) (Nd β (ops.take N) sp 0 l0) (H++V0 β sp 0))
  (h0:Kp ks0 l l0:=by repeat (first | exact Ph | (apply M4;rfl) | (apply Nk;rfl))) (hm:P.follows .mixedOrders=true:=by kernel_rfl) (hB:okA n ops N (Gc l0) (sp.map (·.deps)) (sp.map (·.al.isSome)) (sp.map (·.late.map (·.1))) (sp.map (·.sto))=true:=by kernel_rfl)
  (hsp:sp.length=N:=by rfl):WC P n c (.region id ops.toArray true) Q l H:=Zn N sp hm hB h0.one hsp hob h
theorem CL {all rest:List Oper}{d:Nat}{op:Op}{ty:TypeId}{pos:String}{af:Array Edge}{i:Nat}
  (hr:∀{H},B0 P n c (Ct all (XJ sp) (GQ sp i).deps l0) H { dst:=some d,op:=op,type:=ty,pos:=pos,after:=af,guard:=none } (GQ sp i).r) (h:MC P n c opsA Q all sp l0 H (i+1) rest) (ha:(GQ sp i).al=none:=by rfl) (hs:(GQ sp i).sto=none:=by rfl) :
  MC P n c opsA Q all sp l0 H i ({ dst:=some d,op:=op,type:=ty,pos:=pos,after:=af,guard:=none }::rest):=by
 refine⟨?_,h⟩;unfold ObA;rw[hs,ha];exact λ_=>Ez hr
theorem Gi {all rest:List Oper}{d:Nat}{op:Op}{ty:TypeId}{pos:String}{af:Array Edge}{i:Nat}
  (hr:∀{E},B0 P n c (Ct all (XJ sp) (GQ sp i).deps l0) (H++E) { dst:=some d,op:=op,type:=ty,pos:=pos,after:=af,guard:=none } (GQ sp i).r) (h:MC P n c opsA Q all sp l0 H (i+1) rest) (ha:(GQ sp i).al=none:=by rfl) (hs:(GQ sp i).sto=none:=by rfl) :
  MC P n c opsA Q all sp l0 H i ({ dst:=some d,op:=op,type:=ty,pos:=pos,after:=af,guard:=none }::rest):=by
 refine⟨?_,h⟩;unfold ObA;rw[hs,ha];exact λ_=>Ez hr
theorem Pb {all:List Oper}{i:Nat}:MC P n c opsA Q all sp l0 H i []:=trivial
end
structure XL (ks:List Nat) (β:Nat→Nat) (os:List Oper) (sp:List Sa) (i:Nat) (l0 l1:Fr):Prop where
 go:Kp ks (Nd β os sp i l0) l1
section
variable {ks : List Nat} {β : Nat → Nat} {os : List Oper} {sp : List Sa} {i d : Nat} {l0 l1 : Fr} {ds : List Nat} {r : Rp} {p : List Rp × TypeId} {lt : Option (Nat × List Rp)} {so : Option Nat} {op : Op} {ty : TypeId} {pos : String} {af : Array Edge} {g : Option (Nat × Bool)}
theorem Aaw (h:ks.contains d=true)(t:XL ks β os sp (i+1) l0 l1):XL ks β ({ dst:=some d,op:=op,type:=ty,pos:=pos,after:=af,guard:=g }::os) ({ deps:=ds,r:=r,sto:=so }::sp) i l0 ((d,r)::l1):=⟨M4 h t.go⟩
theorem Aaz (h:ks.contains d=true)(t:XL ks β os sp (i+1) l0 l1):XL ks β ({ dst:=some d,op:=op,type:=ty,pos:=pos,after:=af,guard:=g }::os) ({ deps:=ds,r:=r,al:=some p,late:=lt,sto:=so }::sp) i l0 ((d,rv (.pointer (some ⟨β i,0,none⟩)))::l1):=⟨M4 h t.go⟩
theorem Aay {s:Sa}(h:ks.contains d=false)(t:XL ks β os sp (i+1) l0 l1):XL ks β ({ dst:=some d,op:=op,type:=ty,pos:=pos,after:=af,guard:=g }::os) (s::sp) i l0 l1:=⟨Nk h t.go⟩
theorem Aax {s:Sa}(t:XL ks β os sp (i+1) l0 l1):XL ks β ({ dst:=none,op:=op,type:=ty,pos:=pos,after:=af,guard:=g }::os) (s::sp) i l0 l1:=⟨t.go⟩
theorem Aa0 (t:Kp ks l0 l1):XL ks β [] [] i l0 l1:=⟨t⟩
theorem Dg {P:Program}{n:Nat}{c:Cx}{opsA:Array Oper}{Q:Exit→Act→World→Prop}{rest:List Oper}{H H1:List Ent}(ks:List Nat)(h:WL P n c opsA Q rest l1 H1)
  (hz:XL ks β os sp i l0 l1:=by repeat (first | (apply Aaw;rfl) | (apply Aaz;rfl) | (apply Aay;rfl) | apply Aax | apply Aa0 | exact Ph | (apply M4;rfl) | (apply Nk;rfl))) (hH:H=H1:=by rfl) :
  WL P n c opsA Q rest (Nd β os sp i l0) H:=λa w Z ha hw=>h a w Z (ha.subL hz.go.one) (hH▸hw)
end
section
variable {P : Program} {n : Nat} {c : Cx} {opsA : Array Oper} {Q : Exit → Act → World → Prop} {l l0 : Fr} {H : List Ent} {sp : List Sa}
theorem KS {all rest:List Oper}{o:Oper}{i:Nat}(hr:∀{E},EA P n c opsA Q (Ct all (XJ sp) (GQ sp i).deps l0) (H++E) o (GQ sp i).r (H++E))(h:MC P n c opsA Q all sp l0 H (i+1) rest)(ha:(GQ sp i).al=none:=by rfl)(hs:(GQ sp i).sto=none:=by rfl):MC P n c opsA Q all sp l0 H i (o::rest):=by
 refine⟨?_,h⟩;unfold ObA;rw[hs,ha];exact λ_=>hr
end
section
variable {P : Program} {n : Nat} {c : Cx} {opsA : Array Oper} {Q : Exit → Act → World → Prop} {l : Fr} {H : List Ent} {d : Nat} {ty : TypeId} {pos : String} {af : Array Edge}
end
section
variable {P : Program} {n : Nat} {c : Cx} {ops : Array Oper} {Q : Exit → Act → World → Prop} {rest : List Oper} {l : Fr} {H H' : List Ent} {d : Nat} {d' : Option Nat} {x y z3 : Operand} {ty t t' e : TypeId} {pos : String} {af : Array Edge} {g : Option (Nat × Bool)} {v u : Value} {r : Rp} {sz : Nat}
theorem TT {xs:List Int}(hs:P.underlying t=some (.slice e))(hd:P.underlying t'=some .string)(he:P.underlying e=some (.int .u8))(hx:ev l x=some (AY 1 (xs.map Bp))) :
  B0 P n c l H { dst:=d',op:=.convert t t' x,type:=ty,pos:=pos,after:=af,guard:=g } (rS (Iz xs)):=λa w Z ha hw=>by
 obtain⟨us,h3,h4⟩:=If.z (P:=P) (ys:=xs) (enc:=Bp) hx rfl a w Z ha hw;rw[Su] at h3;have e2:=Bo.eq_rv h3;subst e2;refine⟨.string (B (Iz xs)),rfl,?_⟩;obtain⟨_,h2⟩:=h4;rcases h2 with⟨hv,hz⟩ | ⟨b,cap,hv,hcell⟩
 ·have hx0:xs=[]:=AbF hz;subst hx0;have:=run_convert_bytes_string w t t' e none 0 0 hs he hd;simp only[execOp,hv];have e3:(Conv.bytesToString (.slice none 0 0)).run P w = .ok (.string (B [])) w:=rfl;rw[e3] at this;simp[this,Iz]
 ·have hld:=run_loadCells_list (P:=P) w b (xs.map λc=>Value.int .u8 c) hcell;rw[Ab3] at hld;have h4:=run_bytesToString w b xs.length cap xs hld;have h5:=run_convert_bytes_string w t t' e (some b) xs.length cap hs he hd;have h6:=Xw xs [];rw[h4,show ByteArray.empty=B [] from rfl,h6] at h5;simp[execOp,hv,h5]
end
def rBx (p:Bool→Prop):Rp:=⟨λ_ v=>∃b,v = .bool b∧p b,λ_ h=>h,true,λ_ Z v ⟨b,e,_⟩=>by rw[e];rfl⟩
section
variable {P : Program} {n : Nat} {c : Cx} {ops : Array Oper} {Q : Exit → Act → World → Prop} {rest : List Oper} {l : Fr} {H : List Ent} {d : Option Nat} {ty rty t e : TypeId} {pos : String} {af : Array Edge} {g : Option (Nat × Bool)} {r : Rp} {x : Operand} {cx cy : Code} {sz : Nat} {xs : List (List Rp)}
theorem NJ {o:Operand}{p:Bool→Prop}(ho:ev l o=some (rBx p))(h1:p true→WC P n c cx Q l H)(h2:p false→WC P n c cy Q l H):WC P n c (.cond o cx cy) Q l H:=λa w Z ha hw=>by
 obtain⟨b,e,hp⟩:=ha.ev ho;exact wp_cond_split e (λe=>h1 (e▸hp) a w Z ha hw) (λe=>h2 (e▸hp) a w Z ha hw)
theorem UY (ht:P.underlying t=some (.slice e))(h:ev l x=some (AY sz xs)):B0 P n c l H { dst:=d,op:=.binOp .eql t x (.const (.slice none 0 0)) rty,type:=ty,pos:=pos,after:=af,guard:=g } (rBx (λb=>b=true→xs=[])):=λa w Z ha hw=>by
 obtain⟨A,cap,e1,h1,h2,h3,h4⟩:=ha.ev h;refine⟨.bool A.isNone,⟨_,rfl,λhb=>?_⟩,?_⟩
 ·cases A with
  | some a=>cases hb
  | none=>
   have:=h3 rfl;exact List.length_eq_zero_iff.1 (by omega)
 ·have:=run_equal_slice_nil (P:=P) w t e A xs.length cap ht;have e2:a.eval (.const (.slice none 0 0)) = .slice none 0 0:=rfl;simp[execOp,e1,e2,binOp,this,eqGuard]
end
section
variable {P : Program} {n : Nat} {c : Cx} {Q : Exit → Act → World → Prop} {l : Fr} {H : List Ent} {x rest' : Code} {K : Act → World → Prop}
theorem Kf {lb:Nat}(h:WK n c (Q (.goto lb)) l H):WC P n c (.goto lb) Q l H:=λa w Z ha hw=>wp_goto (h a w Z ha hw)
theorem Cp {lb:Nat}(h:WK n c (Q (.goto lb)) l H):WK n c (Exit.then K Q (.goto lb)) l H:=h
theorem Gp {id lb:Nat}(h:WK n c (Q (.goto lb)) l H):WK n c (Exit.inBlock id Q (.goto lb)) l H:=h
theorem JD {id lb:Nat}(h:WK n c (Q (.goto lb)) l H):WK n c (X5 id K Q (.goto lb)) l H:=h
theorem XU {lb:Nat}(h:WK n c (Q .ret) l H):WK n c (Exit.jump lb K Q .ret) l H:=h
theorem Kd {lb:Nat}(h:WK n c K l H):WK n c (Exit.jump lb K Q (.goto lb)) l H:=λa w Z ha hw=>⟨rfl,h a w Z ha hw⟩
theorem OW {S:Type}(lb:Nat)(inv:S→Prop)(fr:S→Fr)(hp:S→List Ent)(hf:findLabel x lb=some rest')
  (h1:WC P n c x (Exit.jump lb (HV n c inv fr hp) Q) l H) (h2:∀s,inv s→WC P n c rest' (Exit.noGoto Q) (fr s) (hp s)):WC P n c (.scope x) Q l H:=λa w Z ha hw=>
 wp_scope_jumps lb (HV n c inv fr hp) (λ_ _=>0) hf (h1 a w Z ha hw) (by
  rintro a w ⟨s,Z,hi,ha,hw⟩;refine wp_mono (h2 s hi a w Z ha hw) λe a w q=>?_
  cases e with
  | goto _=>exact q.elim
  | _=>exact q)
end
section
variable {P : Program} {n : Nat} {c : Cx} {ops : Array Oper} {Q : Exit → Act → World → Prop} {rest : List Oper} {l : Fr} {H H' : List Ent} {d : Nat} {d' : Option Nat} {x y z3 z4 : Operand} {ty t t' e : TypeId} {pos : String} {af : Array Edge} {g : Option (Nat × Bool)} {v u : Value} {r : Rp} {sz : Nat}
theorem MQ {α:Type}{ys:List α}{enc:α→List Rp}{k' k'':IntKind}{j:Int}(ht:P.underlying t=some (.slice e))(hz:∀w,(sizeOf e).run P w = .ok sz w)(h:ev l x=some (AY sz (ys.map enc)))(hj:ev l z3=some (rI k' j))(hm:ev l z4=some (rI k'' j))(hg2:E5 j (ys.length:Int)=true) :
  B0 P n c l H { dst:=d',op:=.slice t x none (some z3) (some z4),type:=ty,pos:=pos,after:=af,guard:=g } (AY sz ((ys.take j.toNat).map enc)):=λa w Z ha hw=>by
 obtain⟨A,cap,e1,hc1,hc2,hA,hc⟩:=ha.ev h;have h0:=(BZ hg2).1;have h2:=(BZ hg2).2;simp only[Ab3] at e1 hc1;have h3:j≤(cap:Int):=by omega
 refine⟨.slice A j.toNat j.toNat,⟨A,j.toNat,?_,?_,by omega,?_,λq cl hq=>?_⟩,?_⟩
 ·congr 1
  simp;omega
 ·simp;omega
 ·intro hn;have:=hA hn;omega
 ·rw[AbQ,AbU] at hq
  split at hq
  ·exact hc q cl (by rw[AbQ];exact hq)
  ·cases hq
 ·have hA':A.map (λb=>b.add 0)=A:=by
   cases A with
   | none=>rfl
   | some ad=>obtain⟨b,o,sp⟩:=ad;cases sp<;>rfl
  simp[execOp,e1,ha.eval hj,ha.eval hm,Instr.sliceAt,Instr.slice,run_underlying ht,Instr.sliceBounds,Bl (m:=cap) _ _ h0 h3,Bl (m:=j.toNat) _ _ h0 (by omega),hz]
  try (intro _;cases A<;>rfl)
theorem TR {i:Nat}{rs:List Rp}{fs:Array Field}{f:Field}(hu:P.underlying t=some (.struct fs))(hf:fs[i]? =some f)(hag:∀w,(isAgg f.type).run P w = .ok false w)(hx:ev l x=some (BQ rs))(hr:rs[f.offset]? =some r) :
  B0 P n c l H { dst:=d',op:=.field t x i,type:=ty,pos:=pos,after:=af,guard:=g } r:=λa w Z ha hw=>by
 obtain⟨us,e1,hus⟩:=ha.ev hx;obtain⟨v,hv,hp⟩:=hus.at hr;exact⟨v,hp,by simp[execOp,e1,Instr.field,run_underlying hu,hf,asAgg,part,hag,hv]⟩
theorem XX {α:Type}{enc:α→List Rp}{inf:TypeInfo}{z:Value}{kl kc:IntKind}{m:Int}{bytes:Nat}(ht:P.underlying t=some (.slice e))(hinf:P.info? e=some inf)(hz:inf.zero=some z)(hsize:inf.size=sz)(hby:inf.bytes=bytes)(hbp:Nat.blt 0 bytes=true)
  (hx:ev l x=some (rI kl 0)) (hy:ev l y=some (rI kc m)) (hg:CX bytes m.toNat=true) (hg0:decide (0≤m)=true) (hn:Nat.blt d n=true)
  (h:∀v',WL P n c ops Q rest ((d,rv v')::l) (.row v' e sz (([]:List α).map enc)::H)) :
  WL P n c ops Q ({ dst:=some d,op:=.makeSlice t x y,type:=ty,pos:=pos,after:=af,guard:=none }::rest) l H:=
 J3 (λa w Z ha hw=>by
  have hm0:0≤m:=by simpa using hg0
  have hb:m.toNat*bytes≤140737488355328:=by simpa[CX] using hg
  have hbp':0<bytes:=by simpa using hbp
  have hle:m.toNat≤m.toNat*bytes:=Nat.le_mul_of_pos_right _ hbp';obtain⟨w',e1,e2,e3⟩:=run_make_own (P:=P) w 0 t e inf z sz ht hinf hz hsize kl kc m.toNat (by rw[hby,Nat.mul_comm];omega) (by simp only[maxLen];omega) (AbW _);have em:(m.toNat:Int)=m:=Int.toNat_of_nonneg hm0;rw[em] at e1;refine⟨_,w',_,_,Z,by simp[execOp,ha.eval hx,ha.eval hy,e1],Fz.le.refl _,rfl,hw.add e3.os e3.tape e3.output e3.size (λk hk=>e3.block k hk (by simp)) (e':=.row _ e sz (([]:List α).map enc)) ⟨by simp,[],e2,trivial⟩ (by simp[Ent.foot,Value.ownBlock]),h _⟩) hn
end
structure Sx (U:Type) where
 deps:List Nat
 r:U→Rp
 dyn:Bool:=false
 old:List Nat:=[]
def GU {U:Type}(sp:List (Sx U))(i:Nat):Sx U:=sp.getD i { deps:=[],r:=λ_=>rv undef }
def VH {U:Type}(sp:List (Sx U))(u:U):List Sp:=sp.map λs=>⟨s.deps,s.r u,0⟩
def saU {U:Type}(sp:List (Sx U))(u:U):List Sa:=sp.map λs=>{ deps:=s.deps,r:=s.r u }
def OR {U:Type}:List (Sx U)→Prop
 | []=>True
 | s::r=>(s.dyn=false→∀u u',s.r u=s.r u')∧OR r
theorem OR.at {U:Type}:∀{sp:List (Sx U)},OR sp→∀{i:Nat} {s:Sx U},sp[i]? =some s→s.dyn=false→∀u u',s.r u=s.r u'
 | [],_,i,s,h=>by simp at h
 | x::sp,⟨h1,h2⟩,0,s,h=>by simp at h;subst h;exact h1
 | x::sp,⟨h1,h2⟩,i+1,s,h=>OR.at h2 (by simpa using h)
theorem AaR {U:Type}{ds os:List Nat}{r:Rp}{sp:List (Sx U)}(h:OR sp):OR ({ deps:=ds,r:=λ_=>r,old:=os }::sp):=⟨λ_ _ _=>rfl,h⟩
theorem AaQ {U:Type}{ds os:List Nat}{r:U→Rp}{sp:List (Sx U)}(h:OR sp):OR ({ deps:=ds,r:=r,dyn:=true,old:=os }::sp):=⟨λh'=>(by cases h'),h⟩
def G7 (lw:Fr):List Nat→Fr→Fr
 | [],l=>l
 | d::r,l=>match look lw d with
  | some q=>(d,q)::G7 lw r l
  | none=>G7 lw r l
theorem Ul {n:Nat}{lw l:Fr}{a:Act}{Z:Fz}(h0:Ds n l a Z):∀{ds:List Nat},(∀d∈ds,∀q,look lw d=some q→∃v,a.tmps[d]? =some v∧q.p Z v)→Ds n (G7 lw ds l) a Z
 | [],_=>h0
 | d::ds,h=>by
  have ih:=Ul h0 (ds:=ds) (λd' hd'=>h d' (by simp[hd']));unfold G7
  cases hd:look lw d with
  | none=>exact ih
  | some q=>
   refine⟨ih.size,ih.defers,λi r hi=>?_⟩;rw[CJ] at hi
   split at hi
   ·rename_i e;subst e;simp at hi;subst hi;exact h d (by simp) q hd
   ·exact ih.tm i r hi
theorem AaP {U:Type}:OR ([]:List (Sx U)):=trivial
def okX (n:Nat)(ops:List Oper)(N i0:Nat)(keys:List Nat)(deps:List (List Nat))(dyns:List Bool)(olds:List (List Nat)):Bool:=
 QR ops N&&decide (N≤ops.length)&&decide (i0<N)&&
 (List.range N).all (λi=>match Dh ops i with
  | some d=>decide (d<n)&&!keys.contains d&&(List.range N).all (λj=>j ==i||Dh ops j !=some d)
  | none=>true)&&
 (List.range N).all (λi=>(deps.getD i []).all (λj=>decide (j<N)&&(ET (ops.getD i default)).contains j))&&
 (List.range N).all (λi=>!dyns.getD i false||i ==i0||(ET (ops.getD i default)).any (λe=>decide (e<N)&&(e ==i0||dyns.getD e false)))&&
 (List.range N).all (λi=>(olds.getD i []).all (λd=>(List.range N).all (λw=>Dh ops w !=some d||(ET (ops.getD w default)).contains i)))
section
variable (P : Program) (n : Nat) (c : Cx) (opsA : Array Oper) (Q : Exit → Act → World → Prop)
def OpX {U:Type}(l:Fr)(H:List Ent)(o:Oper)(r:U→Rp)(H1:U→List Ent):Prop:=
 ∀a w Z (K:Act→World→Prop),Ds n l a Z→St c H Z w→(∀u v w' Z',Fz.le Z Z'→(r u).p Z' v→St c (H1 u) Z' w'→K (a.put o.dst v) w')→
  Region.wanted o (yielded opsA a.tmps)=true∧o.wp P a w K Q
def Lr {U:Type}(ops:List Oper)(sp:List (Sx U))(l0 lw:Fr)(i0:Nat)(H:List Ent)(H1:U→List Ent):Nat→List Oper→Prop
 | i,o::rest=>(if i=i0 then(∀u,OpX P n c opsA Q (G7 lw (GU sp i).old (Ct ops (VH sp u) (GU sp i).deps l0)) H o (GU sp i).r H1) else ∀u H',(H'=H∨H'=H1 u)→EA P n c opsA Q (G7 lw (GU sp i).old (Ct ops (VH sp u) (GU sp i).deps l0)) H' o ((GU sp i).r u) H')∧Lr ops sp l0 lw i0 H H1 (i+1) rest
 | _,[]=>True
end
section
variable {P : Program} {n : Nat} {c : Cx} {opsA : Array Oper} {Q : Exit → Act → World → Prop} {l l0 lw : Fr} {U : Type} {H : List Ent} {H1 : U → List Ent} {sp : List (Sx U)} {i0 : Nat}
theorem Lr.at {ops:List Oper}:∀{k:Nat} {rest:List Oper},Lr P n c opsA Q ops sp l0 lw i0 H H1 k rest→∀(t:Nat) o,rest[t]? =some o→
  (if k+t=i0 then(∀u,OpX P n c opsA Q (G7 lw (GU sp (k+t)).old (Ct ops (VH sp u) (GU sp (k+t)).deps l0)) H o (GU sp (k+t)).r H1) else ∀u H',(H'=H∨H'=H1 u)→EA P n c opsA Q (G7 lw (GU sp (k+t)).old (Ct ops (VH sp u) (GU sp (k+t)).deps l0)) H' o ((GU sp (k+t)).r u) H')
 | k,o::rest,⟨h1,h2⟩,t,o',ht=>by
  cases t with
  | zero=>simp at ht;subst ht;exact h1
  | succ t=>
   have:=Lr.at h2 t o' (by simpa using ht);rw[show k+(t+1)=k+1+t from by omega];exact this
 | _,[],_,t,o,h=>by simp at h
theorem XV {id:Nat}{ops:List Oper}[Inhabited U](N i0:Nat)(sp:List (Sx U))(hm:P.follows .mixedOrders=true)(hB:okX n ops N i0 (Gc l0) (sp.map (·.deps)) (sp.map (·.dyn)) (sp.map (·.old))=true)(hl0:VD l0 l)(hlw:VD lw l)(hsp:sp.length=N)(hst:OR sp)
  (hob:Lr P n c ops.toArray Q ops sp l0 lw i0 H H1 0 (ops.take N)) (h:∀u,WL P n c ops.toArray Q (ops.drop N) (Nd (λ_=>0) (ops.take N) (saU sp u) 0 l0) (H1 u)):WC P n c (.region id ops.toArray true) Q l H:=by
 intro a w Z ha hw;simp only[okX,Abv,AbV,List.mem_range,Abo] at hB;obtain⟨⟨⟨⟨⟨⟨b1,bN⟩,b0⟩,b2⟩,b3⟩,b4⟩,b5⟩:=hB;have hget:∀i,i<N→(ops.take N)[i]? =ops[i]?:=λi hi=>by rw[AbU,Aci hi]
 have hsa:∀i,i<N→sp[i]? =some (GU sp i):=λi hi=>by
  simp[GU,Ab4,Abz (show i<sp.length by omega)]
 have hspq:∀u i,i<N→(Ea (VH sp u) i)=⟨(GU sp i).deps,(GU sp i).r u,0⟩:=λu i hi=>by
  simp[Ea,VH,Ab4,AbQ,hsa i hi]
 have hdyn:∀j,j<N→(sp.map (·.dyn)).getD j false=(GU sp j).dyn:=λj hj=>by simp[Ab4,AbQ,hsa j hj]
 have hdep:∀j,j<N→(sp.map (·.deps)).getD j []=(GU sp j).deps:=λj hj=>by simp[Ab4,AbQ,hsa j hj]
 have hops:∀j,j<N→∃o,ops[j]? =some o:=λj hj=>⟨ops[j]'(by omega),Abz (by omega)⟩
 have hdst:∀i o d,i<N→ops[i]? =some o→o.dst=some d→(d<n∧d ∉ Gc l0)∧∀j,j<N→j≠i→Dh ops j≠some d:=λi o d hi ho hd=>by
  have h3:=b2 i hi;have:Dh ops i=some d:=by simp[Dh,ho,hd]
  rw[this] at h3;simp only[Abv,AbE,AbV,List.mem_range,Abo] at h3;refine⟨⟨h3.1.1,λhmem=>by rw[← List.contains_iff_mem] at hmem;rw[hmem] at h3;cases h3.1.2⟩,λj hj hne he=>?_⟩;have:=h3.2 j hj;simp[hne,he] at this
 refine VW (N:=N) hm b1 bN (λS a w=>∃ (u:U) (Z:Fz),St c (if S i0=true then H1 u else H) Z w∧Ds n l0 a Z∧(∀j o d,j<N→S j=true→ops[j]? =some o→o.dst=some d→∃v,a.tmps[d]? =some v∧((GU sp j).r u).p Z v)∧
   (∀j,j<N→(GU sp j).dyn=true→S j=true→S i0=true)∧
   (∀d q,look lw d=some q→(∀wr,wr<N→Dh ops wr=some d→S wr=false)→∃v,a.tmps[d]? =some v∧q.p Z v)∧
   ∀wr i d,wr<N→i<N→Dh ops wr=some d→d∈(GU sp i).old→S wr=true→S i=true)
  (λS S' a w hS hI=>?_) ⟨default,Z,?_,ha.subL hl0,λj o d _ hS=>(by cases hS),λj _ _ hS=>(by cases hS),λd q hd _=>(ha.subL hlw).tm d q hd,λwr i d _ _ _ _ hS=>(by cases hS)⟩ (λS i o a w hi hun ho hb hI K hK=>?_) (λa w hI=>?_)
 ·obtain⟨u,Z,h1,h2,h3,h4,h5,h6⟩:=hI;refine⟨u,Z,?_,h2,λj o d hj hS'=>h3 j o d hj (by rw[hS j hj];exact hS'),λj hj hd hSj=>?_,λd q hd hw'=>h5 d q hd (λwr hwr hdw=>by rw[hS wr hwr];exact hw' wr hwr hdw),λwr i d hwr hi hdw hold hSw=>by rw[← hS i hi];exact h6 wr i d hwr hi hdw hold (by rw[hS wr hwr];exact hSw)⟩
  ·rw[← hS i0 b0];exact h1
  ·rw[← hS i0 b0];exact h4 j hj hd (by rw[hS j hj];exact hSj)
 ·exact hw.drawn _
 ·obtain⟨u,Z,h1,h2,h3,hx,ho5,ho6⟩:=hI;have hput:∀k u v,a.tmps[k]? =some u→o.dst≠some k→(a.put o.dst v).tmps[k]? =some u:=λk u v hk hne=>by
   cases hd:o.dst with
   | none=>simpa[Act.put] using hk
   | some d=>
    simp only[Act.put,Array.getElem?_setIfInBounds];rw[Aca (λe=>hne (by rw[hd,e]))];exact hk
  have hagr:∀v Z',Fz.le Z Z'→Ds n l0 (a.put o.dst v) Z':=λv Z' hz=>by
   refine⟨?_,?_,λk r hk=>?_⟩
   ·cases o.dst<;>simp[Act.put,h2.size]
   ·cases o.dst<;>simp[Act.put,h2.defers]
   ·obtain⟨u,hu,hpu⟩:=h2.tm k r hk;exact⟨u,hput k u v hu (λe=>((hdst i o k hi ho e).1).2 (LV hk)),r.mono hz hpu⟩
  have hvals:∀(v:Value) (Z':Fz) (u':U),Fz.le Z Z'→(∀j,j<N→j≠i→S j=true→(GU sp j).r u'=(GU sp j).r u)→(o.dst≠none→((GU sp i).r u').p Z' v)→∀j o' d,j<N→(j ==i||S j)=true→ops[j]? =some o'→o'.dst=some d→∃q,(a.put o.dst v).tmps[d]? =some q∧((GU sp j).r u').p Z' q:=by
   intro v Z' u' hz hβ hp j o' d hj hS' ho' hd
   by_cases hji:j=i
   ·subst hji;rw[ho] at ho';simp at ho';subst ho';refine⟨v,?_,hp (by simp[hd])⟩;have hdn:d<a.tmps.size:=by rw[h2.size];exact(hdst j o d hi ho hd).1.1
    simp[Act.put,hd,hdn]
   ·have hSj:S j=true:=by simpa[hji] using hS'
    obtain⟨q,hu,hpu⟩:=h3 j o' d hj hSj ho' hd;refine⟨q,hput d q v hu (λe=>(hdst i o d hi ho e).2 j hj hji (by simp[Dh,ho',hd])),?_⟩;rw[hβ j hj hji hSj];exact((GU sp j).r u).mono hz hpu
  have hat:=hob.at i o (by rw[hget i hi];exact ho);rw[AbX] at hat;have hold':∀Z',Fz.le Z Z'→∀v d q,look lw d=some q→(∀wr,wr<N→Dh ops wr=some d→(wr ==i||S wr)=false)→∃v',(a.put o.dst v).tmps[d]? =some v'∧q.p Z' v':=λZ' hz v d q hd hw'=>by
   obtain⟨v',e1,e2⟩:=ho5 d q hd (λwr hwr hdw=>by have:=hw' wr hwr hdw;simp only[AbT] at this;exact this.2);refine⟨v',hput d v' v e1 (λe=>?_),q.mono hz e2⟩;have:=hw' i hi (by simp[Dh,ho,e]);simp at this
  have hord:∀wr k d,wr<N→k<N→Dh ops wr=some d→d∈(GU sp k).old→(wr ==i||S wr)=true→(k ==i||S k)=true:=λwr k d hwr hk hdw hmem hSw=>by
   by_cases hwi:wr=i
   ·subst hwi;have h7:=b5 k hk d (by simpa[Ab4,AbQ,hsa k hk] using hmem) wr hwr;simp only[AbR,bne_iff_ne,ne_eq,hdw,not_true_eq_false,false_or] at h7;rw[Ab4,ho,AbO,List.contains_iff_mem] at h7;simp[(hb k h7).2]
   ·have:S k=true:=ho6 wr k d hwr hk hdw hmem (by simpa[hwi] using hSw);simp[this]
  have hag':Ds n (G7 lw (GU sp i).old (Ct ops (VH sp u) (GU sp i).deps l0)) a Z:=Ul (Mf h2 (λj hj d hd=>by
    obtain⟨h5,h6⟩:=b3 i hi j (by rw[hdep i hi];exact hj);rw[Ab4,ho,AbO,List.contains_iff_mem] at h6;obtain⟨o2,ho2⟩:=hops j h5;obtain⟨v,hv1,hv2⟩:=h3 j o2 d h5 (hb j h6).2 ho2 (by simpa[Dh,ho2] using hd);refine⟨v,hv1,?_⟩;rw[hspq u j h5];exact hv2)) (λd hd q hq=>ho5 d q hq (λwr hwr hdw=>by
     cases hS:S wr with
     | false=>rfl
     | true=>have:=ho6 wr i d hwr hi hdw hd hS;rw[this] at hun;cases hun))
  by_cases hi0:i=i0
  ·subst hi0;rw[Aci rfl] at hat;rw[hun] at h1;have h1':St c H Z w:=by simpa using h1
   have key:=λK' hK'=>hat u a w Z K' hag' h1' hK';have h5:∀u' v w' Z',Fz.le Z Z'→((GU sp i).r u').p Z' v→St c (H1 u') Z' w'→K (a.put o.dst v) w':=λu' v w' Z' hz hpv hs'=>by
    refine hK _ _ ⟨u',Z',by simpa using hs',hagr v Z' hz,hvals v Z' u' hz (λj hj hji hSj=>?_) (λ_=>hpv),λj _ _ _=>by simp,hold' Z' hz v,hord⟩;refine hst.at (hsa j hj) ?_ u' u
    cases hd:(GU sp j).dyn with
    | false=>rfl
    | true=>have:=hx j hj hd hSj;rw[this] at hun;cases hun
   refine⟨λ_=>(key K h5).2,λhw'=>?_⟩;rw[(key K h5).1] at hw';cases hw'
  ·rw[Aca hi0] at hat;refine hat u _ (by split;exact .inr rfl;exact .inl rfl) a w Z K hag' h1 (λv w' Z' hz hp hst'=>hK _ _ ⟨u,Z',?_,hagr v Z' hz,hvals v Z' u hz (λ_ _ _ _=>rfl) (λ_=>hp),λj hj hd hSj=>?_,hold' Z' hz v,hord⟩)
   ·have hiS:(i0 ==i||S i0)=S i0:=by
     have:(i0 ==i)=false:=by simpa using λe=>hi0 e.symm
     rw[this];rfl
    show St c (if (i0 ==i||S i0)=true then H1 u else H) Z' w';rw[hiS];exact hst'
   ·have hii:(i0 ==i)=false:=by simpa using λe=>hi0 e.symm
    show(i0 ==i||S i0)=true;rw[hii,Ab2]
    by_cases hji:j=i
    ·subst hji;have h7:=b4 j hj;rw[hdyn j hj,hd] at h7;simp only[Abw,Ab2,AbR,beq_iff_eq,hi0,false_or,List.any_eq_true,Abv,Abo] at h7;obtain⟨e,he,heN,h8⟩:=h7;rw[Ab4,ho,AbO] at he;have hSe:=(hb e he).2;rcases h8 with h8 | h8
     ·subst h8;exact hSe
     ·rw[hdyn e heN] at h8;exact hx e heN h8 hSe
    ·exact hx j hj hd (by simpa[hji] using hSj)
 ·obtain⟨u,Z,h1,h2,h3,_,_,_⟩:=hI;have hsl:(saU sp u).length=N:=by simp[saU,hsp]
  refine h u a w Z (QW h2 _ _ 0 (λt o s d ht hs hd=>?_)) (by simpa using h1);have htN:t<N:=by have:=(List.getElem?_eq_some_iff.1 hs).1;omega
  have hs':s = { deps:=(GU sp t).deps,r:=(GU sp t).r u }:=by
   simp only[saU,AbQ,hsa t htN,Option.map_some,Option.some.injEq] at hs;exact hs.symm
  subst hs';rw[AbX];exact h3 t o d htN rfl (by rw[← hget t htN];exact ht) hd
theorem NI [Inhabited U]{id:Nat}{ops:List Oper}(N i0:Nat)(ks0 ksw:List Nat)(sp:List (Sx U))(H1:U→List Ent)(hob:Lr P n c ops.toArray Q ops sp l0 lw i0 H H1 0 (ops.take N))(h:∀u,WL P n c ops.toArray Q (ops.drop N) (Nd (λ_=>0) (ops.take N) (saU sp u) 0 l0) (H1 u))
  (h0:Kp ks0 l l0:=by repeat (first | exact Ph | (apply M4;rfl) | (apply Nk;rfl))) (hw:Kp ksw l lw:=by repeat (first | exact Ph | (apply M4;rfl) | (apply Nk;rfl))) (hm:P.follows .mixedOrders=true:=by kernel_rfl) (hB:okX n ops N i0 (Gc l0) (sp.map (·.deps)) (sp.map (·.dyn)) (sp.map (·.old))=true:=by kernel_rfl)
  (hsp:sp.length=N:=by rfl) (hst:OR sp:=by repeat (first | exact AaP | apply AaR | apply AaQ)):WC P n c (.region id ops.toArray true) Q l H:=XV N i0 sp hm hB h0.one hw.one hsp hst hob h
theorem J7 {all rest:List Oper}{d:Nat}{op:Op}{ty:TypeId}{pos:String}{af:Array Edge}{i:Nat}(hr:∀{u H},B0 P n c (G7 lw (GU sp i).old (Ct all (VH sp u) (GU sp i).deps l0)) H { dst:=some d,op:=op,type:=ty,pos:=pos,after:=af,guard:=none } ((GU sp i).r u))(h:Lr P n c opsA Q all sp l0 lw i0 H H1 (i+1) rest)(hne:Nat.beq i i0=false:=by rfl) :
  Lr P n c opsA Q all sp l0 lw i0 H H1 i ({ dst:=some d,op:=op,type:=ty,pos:=pos,after:=af,guard:=none }::rest):=by
 refine⟨?_,h⟩;rw[Aca (λe=>by subst e;simp at hne)];exact λu H _=>Ez hr
theorem Zv {all rest:List Oper}{o:Oper}{i:Nat}(hr:∀{u H},EA P n c opsA Q (G7 lw (GU sp i).old (Ct all (VH sp u) (GU sp i).deps l0)) H o ((GU sp i).r u) H)(h:Lr P n c opsA Q all sp l0 lw i0 H H1 (i+1) rest)(hne:Nat.beq i i0=false:=by rfl):Lr P n c opsA Q all sp l0 lw i0 H H1 i (o::rest):=by
 refine⟨?_,h⟩;rw[Aca (λe=>by subst e;simp at hne)];exact λu H _=>hr
theorem TN {all rest:List Oper}{o:Oper}{i:Nat}(hr:∀{u},EA P n c opsA Q (G7 lw (GU sp i).old (Ct all (VH sp u) (GU sp i).deps l0)) H o ((GU sp i).r u) H)(hr1:∀{u},EA P n c opsA Q (G7 lw (GU sp i).old (Ct all (VH sp u) (GU sp i).deps l0)) (H1 u) o ((GU sp i).r u) (H1 u))(h:Lr P n c opsA Q all sp l0 lw i0 H H1 (i+1) rest)(hne:Nat.beq i i0=false:=by rfl):Lr P n c opsA Q all sp l0 lw i0 H H1 i (o::rest):=by
 refine⟨?_,h⟩;rw[Aca (λe=>by subst e;simp at hne)];intro u H' hH';rcases hH' with e | e
 ·subst e;exact hr
 ·subst e;exact hr1
theorem oxx {all rest:List Oper}{o:Oper}(hr:∀{u},OpX P n c opsA Q (G7 lw (GU sp i0).old (Ct all (VH sp u) (GU sp i0).deps l0)) H o (GU sp i0).r H1)(h:Lr P n c opsA Q all sp l0 lw i0 H H1 (i0+1) rest):Lr P n c opsA Q all sp l0 lw i0 H H1 i0 (o::rest):=by
 refine⟨?_,h⟩;rw[Aci rfl];exact λu=>hr
theorem oxe {all:List Oper}{i:Nat}:Lr P n c opsA Q all sp l0 lw i0 H H1 i []:=trivial
end
section
variable {P : Program} {n : Nat} {c : Cx} {opsA : Array Oper} {Q : Exit → Act → World → Prop} {l : Fr} {H : List Ent} {d : Nat} {x y : Operand} {ty t e : TypeId} {pos : String} {af : Array Edge} {v : Value} {sz : Nat}
theorem JC {α:Type}{xs ys:List α}{enc:α→List Rp}{i:Nat}{inf:TypeInfo}{z:Value}{bytes:Nat}(ht:P.underlying t=some (.slice e))(hinf:P.info? e=some inf)(hz:inf.zero=some z)(hsize:inf.size=sz)(hby:inf.bytes=bytes)(hzs:z.cells.size=sz)(hsz:Nat.blt 0 sz=true)(hbp:Nat.blt 0 bytes=true)
  (hx:ev l x=some (rv v)) (hi:H[i]? =some (.row v e sz (xs.map enc))) (hy:If P n c l H y sz ys.length (ys.map enc).flatten) (henc:∀z,(enc z).length=sz) (hone:∀z,(enc z).all (·.one)=true) (hg:CX bytes (xs.length+ys.length)=true) :
  OpX P n c opsA Q l H { dst:=some d,op:=.call { callee:=.builtin .append,args:=#[x,y],argTypes:=#[t,t] },type:=ty,pos:=pos,after:=af,guard:=none } (λv'=>rv v') (λv'=>.row v' e sz ((xs++ys).map enc)::H.eraseIdx i):=λa w Z K ha hw hK=>by
  obtain⟨h0,us,h1,h2⟩:=hw.ent hi;obtain⟨ws,h3,h4⟩:=hy a w Z ha hw;have hsz':0<sz:=by simpa using hsz
  have hbp':0<bytes:=by simpa using hbp
  have hb:(xs.length+ys.length)*bytes≤140737488355328:=by simpa[CX] using hg
  have hle:xs.length+ys.length≤(xs.length+ys.length)*bytes:=Nat.le_mul_of_pos_right _ hbp';have hws:∀y∈ws,y.oneCell'=true:=Bo.one (rs:=(ys.map enc).flatten) (by
   rw[AbV];intro r hr;obtain⟨cl,hcl,hrc⟩:=List.mem_flatten.1 hr;obtain⟨z',_,rfl⟩:=List.mem_map.1 hcl;exact List.all_eq_true.1 (hone z') r hrc) h3
  have hxl:(xs.map enc).length=xs.length:=Ab3 ..;rw[hxl] at h1;obtain⟨v',w',e1,e2,e3,e4⟩:=HY (P:=P) ty ht hinf hz hsize hby hzs hsz' h1 h4 hws hb (by simp only[maxLen];omega);have hent:(Ent.row v' e sz ((xs++ys).map enc)).holds Z w':=⟨λcl hcl=>by obtain⟨z',_,rfl⟩:=List.mem_map.1 hcl;exact henc z',us++ws,by simpa using e2,by rw[Ack,List.flatten_append];exact h2.append h3⟩
  have hst:=hw.callF hi (St.one (e':=.row v' e sz ((xs++ys).map enc)) (M:=(Ent.row v e sz (xs.map enc)).foot) hw.frz hw.env hw.emono e3.os e3.tape e3.output e3.size (λk hk hne=>e3.block k hk (λe1=>hne (by simp[Ent.foot,← e1])))
   (hw.zdis _ (AbA hi)) hent (λk hk=>by
    simp only[Ent.foot,Option.mem_toList] at hk ⊢;rcases e4 with e4 | e4
    ·exact .inl (e4▸hk)
    ·exact .inr (e4 k hk)))
  refine⟨by simp[Region.wanted],?_⟩;unfold Oper.wp;rw[show(execOp a.eval { dst:=some d,op:=.call { callee:=.builtin .append,args:=#[x,y],argTypes:=#[t,t] },type:=ty,pos:=pos,after:=af,guard:=none }).run P w = .ok (.value v') w' from by simp[execOp,resolve,invoke,builtin,ha.eval hx,e1]];exact hK v' v' w' Z (Fz.le.refl _) rfl hst
end
set_option maxRecDepth 100000
set_option maxHeartbeats 4000000
theorem MX:∃inf,Tryz.prog.info? 9=some inf∧inf.zero=some (.string ⟨#[]⟩)∧inf.size=1∧inf.bytes=16:=by
  have key:(Tryz.prog.info? 9).map (λi=>(i.zero,i.size,i.bytes))=some (some (.string ⟨#[]⟩),1,16):=by kernel_rfl
  obtain⟨inf,h1,h2⟩:=Option.map_eq_some_iff.1 key;simp only[Prod.mk.injEq] at h2;exact⟨inf,h1,h2.1,h2.2.1,h2.2.2⟩
theorem Xr (F:Nat)  (r:(List Int))(h:O9 F=some r):Fn Tryz.prog GE 156 [] [] (λR H=>R=BQ (A4 (rI .u32) r)∧H=[]):=by
 refine enter (n:=26) Tryz.func156 Aa Tryz.ntmps156 Aa (λw Z=>?_);unfold O9 at h;refine Ak (Cc (cs:=A4 (rI .u32) (List.replicate 256 (0:Int))) Tryz.zeroValue191 (by kernel_rfl) Aa (λb1=>?_));refine Bs (Cc (cs:=A4 (rI .u32) (List.replicate 256 (0:Int))) Tryz.zeroValue191 (by kernel_rfl) Aa (λb2=>?_));refine Av (An (Ak (wv (r:=At 0) (Aq Aa) (Av (AJ (ob h λhs ht hu=>Bu (S:=Nat×(Int×(List Int))×(Unit)) (V:=((List Int))×(Unit)) 0 (λσ=>Ci (λσ=>G0 F σ.1 σ.2) σ.1 σ.2.1=some hs) (λσ=>[(0,rP b1 0),(1,rP b2 0),(5,At σ.2.1.1)]) (λσ=>[.blk b2 (A4 (rI .u32) σ.2.1.2) 191,.blk b1 (A4 (rI .u32) (List.replicate 256 (0:Int))) 191]) (λσ=>σ.1) (F,(0,List.replicate 256 (0:Int)),()) ht (AL.c Aa (AL.c Aa (AL.c Aa AL.nil))) (sC (sC sN)) (λσ=>I4 σ.1=some r) (λσ=>[(0,rP b1 0),(1,rP b2 0)]) (λσ=>[.blk b2 (A4 (rI .u32) σ.1) 191,.blk b1 (A4 (rI .u32) (List.replicate 256 (0:Int))) 191]) ?_ ?_))))))
 ·rintro⟨hR,⟨ha,hb⟩,⟨⟩⟩ hw;refine BW (l':=[(0,rP b1 0),(1,rP b2 0),(5,At ha)]) (H':=[.blk b2 (A4 (rI .u32) hb) 191,.blk b1 (A4 (rI .u32) (List.replicate 256 (0:Int))) 191]) Aa Aa ?_;obtain⟨hx,rfl,hl,hh,ho⟩:=C4 hw;replace hh:G0 F ha hb=some hl:=hh;unfold G0 at hh;refine Ak (wv (C0 Aa Aa) (Av (An (cz hh Aa (λhy hz=>?_) (λhy h0=>?_)))))
  ·refine Ay (AP (An (AJ (Ak (wm Aa (wa Aa (Bs (wm Aa (wv (r:=rI .u32 (IntKind.wrap .u32 ha)) (BI ⟨_,S8⟩ Gk Aa) (wa Aa (Av (An (Ak (wv (r:=At 0) (Aq Aa) (Av (AJ (ob hz λh1 h2 h3=>Bu (S:=Nat×(Int×Int)×(Unit)) (V:=(Int×Int×Bool)×(Unit)) 2 (λσ=>Ci (λσ=>Gz σ.1 σ.2) σ.1 σ.2.1=some h1) (λσ=>[(0,rP b1 0),(1,rP b2 0),(2,At ha),(3,rI .u32 σ.2.1.1),(5,At ha),(10,At σ.2.1.2)]) (λσ=>[.blk b2 (A4 (rI .u32) hb) 191,.blk b1 (A4 (rI .u32) (List.replicate 256 (0:Int))) 191]) (λσ=>σ.1) (F,(IntKind.wrap .u32 ha,0),()) h2 (AL.c Aa (AL.c5 Aa Aa Aa Aa Aa AL.nil)) (sC (sC sN)) (λσ=>I3 ha hb σ.1.1 σ.1.2.1 σ.1.2.2=some hl) (λσ=>[(0,rP b1 0),(1,rP b2 0),(2,At ha),(3,rI .u32 σ.1.1),(5,At ha),(10,At σ.1.2.1),(11,rB σ.1.2.2)]) (λσ=>[.blk b2 (A4 (rI .u32) hb) 191,.blk b1 (A4 (rI .u32) (List.replicate 256 (0:Int))) 191]) ?_ ?_)))))))))))))))))
   ·rintro⟨hS,⟨hd,hf⟩,⟨⟩⟩ h4;refine BW (l':=[(0,rP b1 0),(1,rP b2 0),(2,At ha),(3,rI .u32 hd),(5,At ha),(10,At hf)]) (H':=[.blk b2 (A4 (rI .u32) hb) 191,.blk b1 (A4 (rI .u32) (List.replicate 256 (0:Int))) 191]) Aa Aa ?_;obtain⟨h5,rfl,h6,hi,hp⟩:=C4 h4;replace hi:Gz hd hf=some h6:=hi;unfold Gz at hi;refine Ak (wv (C0 Aa Aa) (Av (An (cz hi Aa (λh7 h8=>?_) (λh7 h9=>?_)))))
    ·refine Ay (AP (AH [(0,rP b1 0),(1,rP b2 0),(2,At ha),(3,rI .u32 (bif decide ((Lp .u32 hd 1)=1) then E0 .u32 (Ce .u32 hd 1) 3988292384 else Ce .u32 hd 1)),(5,At ha),(10,At hf)] [.blk b2 (A4 (rI .u32) hb) 191,.blk b1 (A4 (rI .u32) (List.replicate 256 (0:Int))) 191] ?_ ?_))
     ·refine AJ (Ak (wm Aa (wv (r:=rI .u32 (Lp .u32 hd 1)) (Zf Aa Aa) (wa Aa (Bs (wm Aa (wv (r:=rI .u32 (Ce .u32 hd 1)) (JN Aa Aa (by decide)) (wa Aa (Bs (wm Aa (wv (B5 Aa Aa) (Av (C8 (b:=decide ((Lp .u32 hd 1)=1)) Aa (λhm=>?_) (λhm=>?_))))))))))))))
      ·refine Ai (wm Aa (wv (r:=rI .u32 (E0 .u32 (Ce .u32 hd 1) 3988292384)) (RE Aa Aa) (wa Aa (Am (AG ?_)))));exact BV hm
      ·refine Ay (AG ?_);exact BV hm
     refine Ai (ck h8 λhA hB=>wv (Bz Aa Aa hA) (wm Aa (Am ?_)));have hC:=Bk hB hp;exact Aw (AI (h5,((bif decide ((Lp .u32 hd 1)=1) then E0 .u32 (Ce .u32 hd 1) 3988292384 else Ce .u32 hd 1),hf+1),()) ⟨hC,Aby _⟩ (AL.c Aa (AL.c5 Aa Aa Aa Aa Aa AL.nil)) (sC (sC sN)))
    ·refine Bx (A6 ?_);have hD:=BX h9 hp h3;exact A6 (Be (AI ((hd,hf,decide (hf<8)),()) hD (AL.c Aa (AL.c Aa (AL.c5 Aa Aa Aa Aa Aa AL.nil))) (sC (sC sN))))
   ·rintro⟨⟨hg,hq,hr⟩,⟨⟩⟩ hj;refine Cy (l':=[(0,rP b1 0),(1,rP b2 0),(2,At ha),(3,rI .u32 hg),(5,At ha),(10,At hq),(11,rB hr)]) (H':=[.blk b2 (A4 (rI .u32) hb) 191,.blk b1 (A4 (rI .u32) (List.replicate 256 (0:Int))) 191]) Aa Aa ?_;replace hj:I3 ha hb hg hq hr=some hl:=hj;unfold I3 at hj;refine Bc (AP (Ai (wm Aa (wm Aa (ck hj λhE hG=>wv (r:=rv (.pointer (some ⟨b2,B4 ha,none⟩))) (WH Tryz.underlying191 Tryz.sizeOf158 Aa Aa hE) (ck hG λhH hI=>UB (enc:=(rI .u32)) (ys:=hb) (v:=hg) (i:=0) Tryz.sizeOf158 Aa Aa (BD Aa) Aa hH (H':=[.blk b2 (A4 (rI .u32) (List.set hb (B4 ha) hg)) 191,.blk b1 (A4 (rI .u32) (List.replicate 256 (0:Int))) 191]) Aa (Am (AG (AP (Ai (ck hI λhJ hK=>wv (Bz Aa Aa hJ) (wm Aa (Am ?_)))))))))))));have hL:=Bk hK ho;exact Aw (AI (hx,(ha+1,List.set hb (B4 ha) hg),()) ⟨hL,Aby _⟩ (AL.c Aa (AL.c Aa (AL.c Aa AL.nil))) (sC (sC sN)))
  ·refine Bx (A6 ?_);have hN:=BX h0 ho hu;exact A6 (Be (AI (hb,()) hN (AL.c Aa (AL.c Aa AL.nil)) (sC (sC sN))))
 ·rintro⟨he,⟨⟩⟩ hk;refine Cy (l':=[(0,rP b1 0),(1,rP b2 0)]) (H':=[.blk b2 (A4 (rI .u32) he) 191,.blk b1 (A4 (rI .u32) (List.replicate 256 (0:Int))) 191]) Aa Aa ?_;replace hk:I4 he=some r:=hk;unfold I4 at hk;refine Bc (AP (Ak (ck hk λhn hO=>wv (r:=BQ (A4 (rI .u32) he)) (SZ (enc:=(rI .u32)) (ys:=he) (i:=0) Tryz.isAgg191 T1 Aa Aa hn) (ck hO λhP hQ=>MM (enc:=(rI .u32)) (ys:=List.replicate 256 (0:Int)) (zs:=he) (i:=1) T1 Aa Aa (λ_=>Aa) Aa hP hn (H':=[.blk b2 (A4 (rI .u32) he) 191,.blk b1 (A4 (rI .u32) he) 191]) Aa (Av (A1 ?_))))));obtain rfl:=A5 hQ;exact A0 (BJ Tryz.results156 (Io (i:=1) Tryz.isAgg191 T1 Aa Aa (Y4 hn))) (sS (sS sN)) ⟨Aa,Aa⟩
theorem Xs (F:Nat)(s:Al)(r:Int)(h:Vu F s=some r):Fn Tryz.prog GE 122 [rS s] [] (λR H=>R=rI .u32 r∧H=[]):=by
 refine enter (n:=26) Tryz.func122 Aa Tryz.ntmps122 Aa (λw Z=>?_);unfold Vu at h;refine Ak (wa Aa (Bs (ob h λr1 e3 h2=>CG Tryz.call156 (Xr F r1 e3) Aa (Cc (cs:=A4 (rI .u32) (List.replicate 256 (0:Int))) Tryz.zeroValue191 (by kernel_rfl) Aa (λb4=>?_)))));refine ck h2 λg5 h6=>ck h6 λg7 h8=>MM (enc:=(rI .u32)) (ys:=List.replicate 256 (0:Int)) (zs:=r1) (i:=0) T1 Aa Aa (λ_=>Aa) Aa g5 g7 (H':=[.blk b4 (A4 (rI .u32) r1) 191]) Aa (Bs (wa Aa (Av (An (Ak (wm Aa (wv (Bv Cu Aa) (wv (r:=At 0) (Aq Aa) (Av (AJ (ob h8 λhh hi hj=>Bu (S:=Nat×(Int×Int)×(Unit)) (V:=(Int)×(Unit)) 0 (λσ=>Ci (λσ=>GS s r1 σ.1 σ.2) σ.1 σ.2.1=some hh) (λσ=>[(0,rS s),(2,rI .u32 0),(3,rP b4 0),(4,rI .u32 σ.2.1.1),(8,At (s.length:Int)),(9,At σ.2.1.2)]) (λσ=>[.blk b4 (A4 (rI .u32) r1) 191]) (λσ=>σ.1) (F,(4294967295,0),()) hi (AL.c Aa (AL.c5 Aa Aa Aa Aa Aa AL.nil)) (sC sN) (λσ=>N5 σ.1=some r) (λσ=>[(2,rI .u32 0),(4,rI .u32 σ.1)]) (λσ=>[]) ?_ ?_)))))))))))
 ·rintro⟨h1,⟨ha,hb⟩,⟨⟩⟩ hk;refine BW (l':=[(0,rS s),(2,rI .u32 0),(3,rP b4 0),(4,rI .u32 ha),(8,At (s.length:Int)),(9,At hb)]) (H':=[.blk b4 (A4 (rI .u32) r1) 191]) Aa Aa ?_;obtain⟨hl,rfl,hm,hd,hg⟩:=C4 hk;replace hd:GS s r1 ha hb=some hm:=hd;unfold GS at hd;refine Ak (wv (C0 Aa Aa) (Av (An (cz hd Aa (λhn ho=>?_) (λhn hp=>?_)))))
  ·refine Ay (AP (An (AJ (Ak (wm Aa (wa Aa (Av (Ai (wm Aa (wv (r:=rI .u8 (IntKind.wrap .u8 ha)) (BI ⟨_,Gk⟩ Ld Aa) (wm Aa (wm Aa (ck ho λhq hr=>wv (Bw Cu Aa Aa hq) (wv (r:=rI .u8 (E0 .u8 (IntKind.wrap .u8 ha) (B1 s hb))) (RE Aa Aa) (ck hr λhs ht=>wv (r:=rv (.pointer (some ⟨b4,B4 (E0 .u8 (IntKind.wrap .u8 ha) (B1 s hb)),none⟩))) (WH Tryz.underlying191 Tryz.sizeOf158 Aa Aa hs) (ck ht λhu hw=>wv (r:=rI .u32 (Ap r1 (E0 .u8 (IntKind.wrap .u8 ha) (B1 s hb)))) (WF (enc:=(rI .u32)) (ys:=r1) (i:=0) Tryz.isAgg158 Aa Aa hu) (wm Aa (wv (r:=rI .u32 (Ce .u32 ha 8)) (JN Aa Aa (by decide)) (wv (r:=rI .u32 (E0 .u32 (Ap r1 (E0 .u8 (IntKind.wrap .u8 ha) (B1 s hb))) (Ce .u32 ha 8))) (RE Aa Aa) (wa Aa ?_))))))))))))))))))));refine Am (AG (AP (Ai (ck hw λhx hy=>wv (Bz Aa Aa hx) (wm Aa (Am ?_))))));have hz:=Bk hy hg;exact Aw (AI (hl,(E0 .u32 (Ap r1 (E0 .u8 (IntKind.wrap .u8 ha) (B1 s hb))) (Ce .u32 ha 8),hb+1),()) ⟨hz,Aby _⟩ (AL.c Aa (AL.c5 Aa Aa Aa Aa Aa AL.nil)) (sC sN))
  ·refine Bx (A6 ?_);have h0:=BX hp hg hj;exact A6 (Be (AI (ha,()) h0 (AL.c Aa (AL.c Aa AL.nil)) (sS sN)))
 ·rintro⟨hf,⟨⟩⟩ he;refine Cy (l':=[(2,rI .u32 0),(4,rI .u32 hf)]) (H':=[]) Aa Aa ?_;replace he:N5 hf=some r:=he;unfold N5 at he;refine Bc (AP (Ak (wm Aa (wv (r:=rI .u32 (QG .u32 hf)) (TS Aa) (wa Aa (Av (A1 ?_)))))));obtain rfl:=A5 he;exact A0 (BJ Tryz.results122 (AM Aa)) sN ⟨Aa,Aa⟩
theorem PQ (n:Int)(r:Al)(h:KE n=some r):Fn Tryz.prog GE 147 [rI .u32 n] [] (λR H=>R=rS r∧H=[]):=by
 refine enter (n:=16) Tryz.func147 Aa Tryz.ntmps147 Aa (λw Z=>?_);unfold KE at h;refine Ak (wv (r:=rS ([]:Al)) (Az Aa) (Bs (wm Aa (wv (r:=rI .u32 (Ce .u32 n 24)) (JN Aa Aa (by decide)) (wv (r:=rI .u8 (IntKind.wrap .u8 (Ce .u32 n 24))) (BI ⟨_,Gk⟩ Ld Aa) (wm Aa (wv (r:=rI .u32 (Ce .u32 n 16)) (JN Aa Aa (by decide)) (wv (r:=rI .u8 (IntKind.wrap .u8 (Ce .u32 n 16))) (BI ⟨_,Gk⟩ Ld Aa) (wm Aa (wv (r:=rI .u32 (Ce .u32 n 8)) (JN Aa Aa (by decide)) (wv (r:=rI .u8 (IntKind.wrap .u8 (Ce .u32 n 8))) (BI ⟨_,Gk⟩ Ld Aa) (wm Aa (wv (r:=rI .u8 (IntKind.wrap .u8 n)) (BI ⟨_,Gk⟩ Ld Aa) (Bb (ys:=([IntKind.wrap .u8 (Ce .u32 n 24),IntKind.wrap .u8 (Ce .u32 n 16),IntKind.wrap .u8 (Ce .u32 n 8),IntKind.wrap .u8 n]:List Int)) (enc:=Bp) (css:=[[rI .u8 (IntKind.wrap .u8 (Ce .u32 n 24))],[rI .u8 (IntKind.wrap .u8 (Ce .u32 n 16))],[rI .u8 (IntKind.wrap .u8 (Ce .u32 n 8))],[rI .u8 (IntKind.wrap .u8 n)]]) (xs:=[.tmp 5,.tmp 8,.tmp 11,.tmp 13]) Dq XQ XN Aa Aa Aa ⟨D1.one Aa (Up.refl _),D1.one Aa (Up.refl _),D1.one Aa (Up.refl _),D1.one Aa (Up.refl _),trivial⟩ Aa Dj Aa Aa Aa (λb1=>?_)))))))))))))));refine wv (r:=rS (Iz ([IntKind.wrap .u8 (Ce .u32 n 24),IntKind.wrap .u8 (Ce .u32 n 16),IntKind.wrap .u8 (Ce .u32 n 8),IntKind.wrap .u8 n]:List Int))) (P9 (xs:=([IntKind.wrap .u8 (Ce .u32 n 24),IntKind.wrap .u8 (Ce .u32 n 16),IntKind.wrap .u8 (Ce .u32 n 8),IntKind.wrap .u8 n]:List Int)) (i:=0) Dq Cu Ld Aa Aa) (wa Aa (Av (A1 ?_)));obtain rfl:=A5 h;exact A0 (BJ Tryz.results147 (AM Aa)) (sS sN) ⟨Aa,Aa⟩
theorem PP (s:Al)(r:Int)(h:N6 s=some r):Fn Tryz.prog GE 121 [rS s] [] (λR H=>R=rI .u32 r∧H=[]):=by
 refine enter (n:=21) Tryz.func121 Aa Tryz.ntmps121 Aa (λw Z=>?_);unfold N6 at h;refine Ak (wa Aa (Av (An (ck h λg1 h2=>ck h2 λg3 h4=>ck h4 λg5 h6=>ck h6 λg7 h8=>Do [0] [⟨[],rS s,0⟩,⟨[0],rI .u8 (B1 s 0),0⟩,⟨[1],rI .u32 (IntKind.wrap .u32 (B1 s 0)),0⟩,⟨[2],rI .u32 (DE .u32 (IntKind.wrap .u32 (B1 s 0)) 24),0⟩,⟨[],rS s,0⟩,⟨[4],rI .u8 (B1 s 1),0⟩,⟨[5],rI .u32 (IntKind.wrap .u32 (B1 s 1)),0⟩,⟨[6],rI .u32 (DE .u32 (IntKind.wrap .u32 (B1 s 1)) 16),0⟩,⟨[3,7],rI .u32 (J9 .u32 (DE .u32 (IntKind.wrap .u32 (B1 s 0)) 24) (DE .u32 (IntKind.wrap .u32 (B1 s 1)) 16)),0⟩,⟨[],rS s,0⟩,⟨[9],rI .u8 (B1 s 2),0⟩,⟨[10],rI .u32 (IntKind.wrap .u32 (B1 s 2)),0⟩,⟨[11],rI .u32 (DE .u32 (IntKind.wrap .u32 (B1 s 2)) 8),0⟩,⟨[8,12],rI .u32 (J9 .u32 (J9 .u32 (DE .u32 (IntKind.wrap .u32 (B1 s 0)) 24) (DE .u32 (IntKind.wrap .u32 (B1 s 1)) 16)) (DE .u32 (IntKind.wrap .u32 (B1 s 2)) 8)),0⟩,⟨[],rS s,0⟩,⟨[14],rI .u8 (B1 s 3),0⟩,⟨[15],rI .u32 (IntKind.wrap .u32 (B1 s 3)),0⟩,⟨[13,16],rI .u32 (J9 .u32 (J9 .u32 (J9 .u32 (DE .u32 (IntKind.wrap .u32 (B1 s 0)) 24) (DE .u32 (IntKind.wrap .u32 (B1 s 1)) 16)) (DE .u32 (IntKind.wrap .u32 (B1 s 2)) 8)) (IntKind.wrap .u32 (B1 s 3))),0⟩,⟨[17],rI .u32 (J9 .u32 (J9 .u32 (J9 .u32 (DE .u32 (IntKind.wrap .u32 (B1 s 0)) 24) (DE .u32 (IntKind.wrap .u32 (B1 s 1)) 16)) (DE .u32 (IntKind.wrap .u32 (B1 s 2)) 8)) (IntKind.wrap .u32 (B1 s 3))),0⟩] [2] ?_ ?_))))
 ·refine oq (Aq Aa) (oq (Bw Cu Aa Aa g1) (oq (BI ⟨_,Ld⟩ Gk Aa) (oq (TP Aa Aa (by decide)) (oq (Aq Aa) (oq (Bw Cu Aa Aa g3) (oq (BI ⟨_,Ld⟩ Gk Aa) (oq (TP Aa Aa (by decide)) (oq (Yt Aa Aa) (oq (Aq Aa) (oq (Bw Cu Aa Aa g5) (oq (BI ⟨_,Ld⟩ Gk Aa) (oq (TP Aa Aa (by decide)) (oq (Yt Aa Aa) (oq (Aq Aa) (oq (Bw Cu Aa Aa g7) (oq (BI ⟨_,Ld⟩ Gk Aa) (oq (Yt Aa Aa) (oq (Az Aa) ?_))))))))))))))))));exact CN
 refine AP (A1 ?_);obtain rfl:=A5 h8;exact A0 (BJ Tryz.results121 (AM Aa)) sN ⟨Aa,Aa⟩
theorem YJ (F:Nat)(fields:(List Al))(r:Al×Int)(h:Sj F fields=some r):Fn Tryz.prog GE 81 [AY 1 (A4 eS fields)] [] (λR H=>R=C7 [rS r.1,At r.2]∧H=[]):=by
 refine enter (n:=39) Tryz.func81 Aa Tryz.ntmps81 Aa (λw Z=>?_);unfold Sj at h;refine Ak (wv (r:=rS ([]:Al)) (Az Aa) (wa Aa (Av (An (Ak (wm Aa (wv (Bq (ys:=fields) (enc:=eS) Cn Aa) (wv (CI Aa Aa) (Av (cz h Aa (λc1 h2=>?_) (λc1 h3=>?_)))))))))))
 ·refine Ak (wv (r:=rS ([]:Al)) (Az Aa) (wa Aa (Av (A1 (Ae ?_)))));obtain rfl:=A5 h2;exact A0 (DJ Tryz.results81 (AM Aa) (AM Aa)) sN ⟨Aa,Aa⟩
 ·refine Ay (AP (Ak (wm Aa (wv (Bq (ys:=fields) (enc:=eS) Cn Aa) (wv (r:=rI .u8 (IntKind.wrap .u8 (fields.length:Int))) (BI ⟨_,S8⟩ Ld Aa) (Bb (ys:=([IntKind.wrap .u8 (fields.length:Int)]:List Int)) (enc:=Bp) (css:=[[rI .u8 (IntKind.wrap .u8 (fields.length:Int))]]) (xs:=[.tmp 12]) Dq XQ XN Aa Aa Aa ⟨D1.one Aa (Up.refl _),trivial⟩ Aa Dj Aa Aa Aa (λb4=>?_)))))));refine wa Aa (Av (An (Ak (wm Aa (wv (Bq (ys:=fields) (enc:=eS) Cn Aa) (wv (r:=At 0) (Aq Aa) (Av (AJ (ob h3 λhk hl hi=>Bu (S:=Nat×((List Int)×Int)×(Value)) (V:=((List Int))×(Value)) 0 (λσ=>Ci (λσ=>GD fields σ.1 σ.2) σ.1 σ.2.1=some hk) (λσ=>[(2,rS ([]:Al)),(3,At 0),(4,rv σ.2.2),(14,AY 1 (A4 eS fields)),(15,At (fields.length:Int)),(16,At σ.2.1.2)]) (λσ=>[.row σ.2.2 5 1 (A4 Bp σ.2.1.1)]) (λσ=>σ.1) (F,(([IntKind.wrap .u8 (fields.length:Int)]:List Int),0),(.slice (some ⟨b4,0,none⟩) 1 1)) hl (AL.c Aa (AL.c5 Aa Aa Aa Aa Aa AL.nil)) (sC sN) (λσ=>Ma σ.1=some r) (λσ=>[(2,rS ([]:Al)),(3,At 0),(4,rv σ.2)]) (λσ=>[.row σ.2 5 1 (A4 Bp σ.1)]) ?_ ?_)))))))))
  ·rintro⟨h9,⟨hb,ha⟩,hg⟩ hm;refine BW (l':=[(2,rS ([]:Al)),(3,At 0),(4,rv hg),(14,AY 1 (A4 eS fields)),(15,At (fields.length:Int)),(16,At ha)]) (H':=[.row hg 5 1 (A4 Bp hb)]) Aa Aa ?_;obtain⟨hn,rfl,ho,hd,hh⟩:=C4 hm;replace hd:GD fields hb ha=some ho:=hd;unfold GD at hd;refine Ak (wv (C0 Aa Aa) (Av (An (cz hd Aa (λhp hq=>?_) (λhp hr=>?_)))))
   ·refine Ay (AP (An (AJ (Ak (ck hq λhs ht=>wv (By (enc:=eS) (ys:=fields) Cn Cv Aa Aa hs) (wv (Bg CD Aa Aa) (wa Aa (Av (An (Ak (wm Aa (wv (Bv Cu Aa) (wv (CI Aa Aa) (Av (cz ht Aa (λc75 hu=>?_) (λc75 hw=>?_))))))))))))))))
    ·refine Ak (wv (r:=rS ([]:Al)) (Az Aa) (wa Aa (Av (A1 (Ae (AC (Ae (Ae (Bj ?_)))))))));have hx:=BB hu hh hi;refine AC (Ae ?_);obtain rfl:=A5 hx;exact A0 (DJ Tryz.results81 (AM Aa) (AM Aa)) (sS sN) ⟨Aa,Aa⟩
    ·refine Ay (AP (Ak (wm Aa (wm Aa (wv (Bv Cu Aa) (wv (r:=At (Ce .i64 ((Ap fields ha).length:Int) 8)) (JN Aa Aa (by decide)) (wv (r:=rI .u8 (IntKind.wrap .u8 (Ce .i64 ((Ap fields ha).length:Int) 8))) (BI ⟨_,S8⟩ Ld Aa) (wm Aa (wv (Bv Cu Aa) (wv (r:=rI .u8 (IntKind.wrap .u8 ((Ap fields ha).length:Int))) (BI ⟨_,S8⟩ Ld Aa) (Bb (ys:=([IntKind.wrap .u8 (Ce .i64 ((Ap fields ha).length:Int) 8),IntKind.wrap .u8 ((Ap fields ha).length:Int)]:List Int)) (enc:=Bp) (css:=[[rI .u8 (IntKind.wrap .u8 (Ce .i64 ((Ap fields ha).length:Int) 8))],[rI .u8 (IntKind.wrap .u8 ((Ap fields ha).length:Int))]]) (xs:=[.tmp 27,.tmp 30]) Dq XQ XN Aa Aa Aa ⟨D1.one Aa (Up.refl _),D1.one Aa (Up.refl _),trivial⟩ Aa Dj Aa Aa Aa (λhA=>?_))))))))))));refine ck hw λhy hz=>Exists.elim Jw λinf hinf=>Cb (xs:=hb) (ys:=([IntKind.wrap .u8 (Ce .i64 ((Ap fields ha).length:Int) 8),IntKind.wrap .u8 ((Ap fields ha).length:Int)]:List Int)) (enc:=Bp) (i:=1) Dq hinf.1 hinf.2.1 hinf.2.2.1 hinf.2.2.2 Aa Aa Aa Aa Aa (If.w (i:=0) Aa Aa) Dj I6 hy Aa (λv80=>?_);refine wa Aa (Av (Ai (wm Aa (wm Aa (ck hz λh0 h1=>Exists.elim Jw λinf hinf=>Es (xs:=hb++([IntKind.wrap .u8 (Ce .i64 ((Ap fields ha).length:Int) 8),IntKind.wrap .u8 ((Ap fields ha).length:Int)]:List Int)) (i:=0) Dq Cu hinf.1 hinf.2.1 hinf.2.2.1 hinf.2.2.2 Aa Aa Aa h0 Aa (λh4=>?_))))));refine wa Aa (Am (AG (AP (Ai (ck h1 λh5 h6=>wv (Bz Aa Aa h5) (wm Aa (Am ?_)))))));have h7:=Bk h6 hh;exact Aw (AI (hn,((hb++([IntKind.wrap .u8 (Ce .i64 ((Ap fields ha).length:Int) 8),IntKind.wrap .u8 ((Ap fields ha).length:Int)]:List Int))++Du (Ap fields ha),ha+1),h4) ⟨h7,Aby _⟩ (AL.c Aa (AL.c5 Aa Aa Aa Aa Aa AL.nil)) (sC (sS sN)))
   ·refine Bx (A6 ?_);have h8:=BX hr hh hi;exact A6 (Be (AI (hb,hg) h8 (AL.c Aa (AL.c Aa (AL.c Aa AL.nil))) (sC sN)))
  ·rintro⟨he,hj⟩ hf;refine Cy (l':=[(2,rS ([]:Al)),(3,At 0),(4,rv hj)]) (H':=[.row hj 5 1 (A4 Bp he)]) Aa Aa ?_;replace hf:Ma he=some r:=hf;unfold Ma at hf;refine Bc (AP (Ak (wm Aa (wv (r:=rS (Iz he)) (P9 (xs:=he) (i:=0) Dq Cu Ld Aa Aa) (wa Aa (wa Aa (Av (A1 ?_))))))));obtain rfl:=A5 hf;exact A0 (DJ Tryz.results81 (AM Aa) (AM Aa)) (sS sN) ⟨Aa,Aa⟩
theorem Vz (F:Nat)(s:Al)(r:(List Al)×Int)(h:QK F s=some r):Fn Tryz.prog GE 63 [rS s] [] (λR H=>R=C7 [AY 1 (A4 eS r.1),At r.2]∧H=[]):=by
 refine enter (n:=58) Tryz.func63 Aa Tryz.ntmps63 Aa (λw Z=>?_);unfold QK at h;refine Ak (wa Aa (wa Aa (Av (OW (S:=(Int)×(Unit)) 0 (λσ=>DV σ.1=some r) (λσ=>[(2,rv (.slice none 0 0)),(3,At 0),(7,At σ.1)]) (λσ=>[]) Aa ?_ ?_))))
 ·refine Ak (wa Aa (Bs (wa Aa (wa Aa (Bs (wa Aa (Av (An (Ak (wm Aa (wv (EZ Aa Aa) (Av (cz h Aa (λhq hr=>?_) (λhq hs=>?_))))))))))))))
  ·exact Kf (Cp (Kd (AI (14,()) hr (AL.c Aa (AL.c Aa (AL.c Aa AL.nil))) sN)))
  ·refine Ay (AP (An (ck hs λht hu=>ck hu λhw hx=>ck hx λhy hz=>Db 6 [0,2,3,4,6,7] [⟨[],rS s,none,none,none⟩,⟨[0],rI .u8 (B1 s 0),none,none,none⟩,⟨[1],At (B1 s 0),none,none,none⟩,⟨[],rS s,none,none,none⟩,⟨[3],rS (List.drop (B4 1) s),none,none,none⟩,⟨[2],At (B1 s 0),none,none,none⟩] ?_ (λβ=>?_))))
   ·refine CL (Aq Aa) (CL (Bw Cu Aa Aa ht) (CL (IP ⟨_,Ld⟩ S8 Aa hw) (CL (Aq Aa) (CL (DT Cu Aa Aa hy) (CL (Az Aa) ?_)))));exact Pb
   refine Dg (H1:=[]) [10,11,12,13,14,5,0,2,3,4,6,7] ?_;refine wa Aa (Av (An (Ak (wm Aa (wv (CI Aa Aa) (Av (cz hz Aa (λc167 h0=>?_) (λc167 h1=>?_))))))))
   ·exact Ak (wa Aa (Av (Kf (Cp (Kd (AI (13,()) h0 (AL.c Aa (AL.c Aa (AL.c Aa AL.nil))) sN))))))
   ·refine Ay (AP (An (Ak (wm Aa (wv (r:=At 0) (Aq Aa) (Av (AJ (WC.nilrow (e:=9) (sz:=1) (ob h1 λh2 h3 hg=>Bu (S:=Nat×(Al×(List Al)×Int×Int)×(Value)) (V:=(Al×(List Al))×(Value)) 0 (λσ=>Ci (λσ=>Jg s σ.1 σ.2.1 σ.2.2.1 σ.2.2.2) σ.1 σ.2.1=some h2) (λσ=>[(0,rS σ.2.1.1),(2,rv (.slice none 0 0)),(3,At 0),(4,rv σ.2.2),(6,At σ.2.1.2.2.1),(7,At 14),(17,At (B1 s 0)),(18,At σ.2.1.2.2.2)]) (λσ=>[.row σ.2.2 9 1 (A4 eS σ.2.1.2.1)]) (λσ=>σ.1) (F,(List.drop (B4 1) s,([]:List Al),0,0),(.slice none 0 0         )) h3 (AL.c Aa (AL.c Aa (AL.c Aa (AL.c5 Aa Aa Aa Aa Aa AL.nil)))) (sC sN) (λσ=>Jf σ.1.1 σ.1.2=some r) (λσ=>[(0,rS σ.1.1),(2,rv (.slice none 0 0)),(3,At 0),(4,rv σ.2),(7,At 14)]) (λσ=>[.row σ.2 9 1 (A4 eS σ.1.2)]) ?_ ?_)))))))))
    ·rintro⟨gt,⟨ha,hd,hl,hk⟩,v233⟩ h4;refine BW (l':=[(0,rS ha),(2,rv (.slice none 0 0)),(3,At 0),(4,rv v233),(6,At hl),(7,At 14),(17,At (B1 s 0)),(18,At hk)]) (H':=[.row v233 9 1 (A4 eS hd)]) Aa Aa ?_;obtain⟨h5,rfl,h6,hh,hf⟩:=C4 h4;replace hh:Jg s ha hd hl hk=some h6:=hh;unfold Jg at hh;refine Ak (wv (C0 Aa Aa) (Av (An (cz hh Aa (λh7 h8=>?_) (λh7 h9=>?_)))))
     ·refine Ay (AP (An (AJ (An (Ak (wm Aa (wv (Bv Cu Aa) (wv (C0 Aa Aa) (Av (cz h8 Aa (λhA hB=>?_) (λhA hC=>?_)))))))))))
      ·refine Kf (Cp (Gp (Cp (Cp (JD (Gp (Cp (Kd (ob hB λgu hD hE=>?_)))))))));have hG:=BB hE hf hg;obtain rfl:=A5 hG;exact AI (14,()) hD (AL.c Aa (AL.c Aa (AL.c Aa AL.nil))) (sS sN)
      ·refine Ay (AP (An (ck hC λhH hI=>ck hI λhJ hK=>ck hK λhL hN=>ck hN λhO hP=>ck hP λhQ hR=>Db 11 [0,2,3,4,7,17,18,19,20,21,22] [⟨[],rS ha,none,none,none⟩,⟨[0],rI .u8 (B1 ha 0),none,none,none⟩,⟨[1],At (B1 ha 0),none,none,none⟩,⟨[2],At (DE .i64 (B1 ha 0) 8),none,none,none⟩,⟨[],rS ha,none,none,none⟩,⟨[4],rI .u8 (B1 ha 1),none,none,none⟩,⟨[5],At (B1 ha 1),none,none,none⟩,⟨[3,6],At (J9 .i64 (DE .i64 (B1 ha 0) 8) (B1 ha 1)),none,none,none⟩,⟨[],rS ha,none,none,none⟩,⟨[8],rS (List.drop (B4 2) ha),none,none,none⟩,⟨[7],At (J9 .i64 (DE .i64 (B1 ha 0) 8) (B1 ha 1)),none,none,none⟩] ?_ (λβ=>?_))))
       ·refine CL (Aq Aa) (CL (Bw Cu Aa Aa hH) (CL (IP ⟨_,Ld⟩ S8 Aa hJ) (CL (TP Aa Aa (by decide)) (CL (Aq Aa) (CL (Bw Cu Aa Aa hL) (CL (IP ⟨_,Ld⟩ S8 Aa hO) (CL (Yt Aa Aa) (CL (Aq Aa) (CL (DT Cu Aa Aa hQ) (CL (Az Aa) ?_))))))))));exact Pb
       refine Dg (H1:=[.row v233 9 1 (A4 eS hd)]) [23,24,25,26,27,28,29,30,31,32,6,0,2,3,4,7,17,18,19,20,21,22] ?_;refine wa Aa (Av (An (Ak (wm Aa (wv (CI Aa Aa) (Av (cz hR Aa (λhS hT=>?_) (λhS hU=>?_))))))))
       ·refine Ak (wa Aa (Av (Kf (Cp (Gp (Cp (Cp (JD (Gp (Cp (Kd (ob hT λgv hV hW=>?_))))))))))));have hX:=BB hW hf hg;obtain rfl:=A5 hX;exact AI (13,()) hV (AL.c Aa (AL.c Aa (AL.c Aa AL.nil))) (sS sN)
       ·refine Ay (AP (An (Ak (wm Aa (wv (Bv Cu Aa) (wm Aa (wv (C0 Aa Aa) (Av (cz hU Aa (λhY hZ=>?_) (λhY ga=>?_))))))))))
        ·refine Kf (Cp (Gp (Cp (Cp (JD (Gp (Cp (Kd (ob hZ λgw gb gc=>?_)))))))));have gd:=BB gc hf hg;obtain rfl:=A5 gd;exact AI (14,()) gb (AL.c Aa (AL.c Aa (AL.c Aa AL.nil))) (sS sN)
        ·refine Ay (AP (ck ga λhm ge=>ck ge λgf gg=>Exists.elim MX λinf hinf=>NI 10 5 [0,2,3,6,7,17,18,20,21,22,23,24,25,26,27,28,29,30,31,32,33,34,35,36,37,38] [4] [{ deps:=[],r:=λ_=>rv v233,old:=[4] },{ deps:=[],r:=λ_=>rS (List.drop (B4 2) ha) },{ deps:=[],r:=λ_=>At (J9 .i64 (DE .i64 (B1 ha 0) 8) (B1 ha 1)) },{ deps:=[1,2],r:=λ_=>rS (List.take (B4 (J9 .i64 (DE .i64 (B1 ha 0) 8) (B1 ha 1))) (List.drop (B4 2) ha)) },{ deps:=[3],r:=λ_=>AY 1 (A4 eS ([List.take (B4 (J9 .i64 (DE .i64 (B1 ha 0) 8) (B1 ha 1))) (List.drop (B4 2) ha)]:List Al)) },{ deps:=[0,4],r:=λhb=>rv hb,dyn:=true },{ deps:=[],r:=λ_=>rS (List.drop (B4 2) ha) },{ deps:=[],r:=λ_=>At (J9 .i64 (DE .i64 (B1 ha 0) 8) (B1 ha 1)) },{ deps:=[6,7],r:=λ_=>rS (List.drop (B4 (J9 .i64 (DE .i64 (B1 ha 0) 8) (B1 ha 1))) (List.drop (B4 2) ha)) },{ deps:=[5],r:=λhb=>rv hb,dyn:=true }] (λhb=>[.row hb 9 1 (A4 eS (hd++([List.take (B4 (J9 .i64 (DE .i64 (B1 ha 0) 8) (B1 ha 1))) (List.drop (B4 2) ha)]:List Al)))]) ?_ (λhb=>?_)))
         ·refine J7 (Aq Aa) (J7 (Aq Aa) (J7 (Aq Aa) (J7 (Lj Cu Aa Aa hm) (Zv (Ck (ys:=([List.take (B4 (J9 .i64 (DE .i64 (B1 ha 0) 8) (B1 ha 1))) (List.drop (B4 2) ha)]:List Al)) (enc:=eS) (css:=[[rS (List.take (B4 (J9 .i64 (DE .i64 (B1 ha 0) 8) (B1 ha 1))) (List.drop (B4 2) ha))]]) (xs:=[.tmp 42]) Cn Cv PW Aa Aa Aa ⟨D1.one Aa (Up.refl _),trivial⟩ Aa CY Aa Aa) (oxx (JC (xs:=hd) (ys:=([List.take (B4 (J9 .i64 (DE .i64 (B1 ha 0) 8) (B1 ha 1))) (List.drop (B4 2) ha)]:List Al)) (enc:=eS) (i:=0) Cn hinf.1 hinf.2.1 hinf.2.2.1 hinf.2.2.2 Aa Aa Aa Aa Aa (If.z Aa Aa) CY JT gf) (J7 (Aq Aa) (J7 (Aq Aa) (J7 (DT Cu Aa Aa hm) (J7 (fun {hb _}=>(Az Aa)) ?_)))))))));exact oxe
         refine Dg (H1:=[.row hb 9 1 (A4 eS (hd++([List.take (B4 (J9 .i64 (DE .i64 (B1 ha 0) 8) (B1 ha 1))) (List.drop (B4 2) ha)]:List Al)))]) [39,40,41,42,43,44,45,46,47,4,0,2,3,6,7,17,18,20,21,22,23,24,25,26,27,28,29,30,31,32,33,34,35,36,37,38] ?_;refine wa Aa (Am (AG (AP (Ai (ck gg λgh gi=>wv (Bz Aa Aa gh) (wm Aa (Am ?_)))))));have gj:=Bk gi hf;exact Aw (AI (h5,(List.drop (B4 (J9 .i64 (DE .i64 (B1 ha 0) 8) (B1 ha 1))) (List.drop (B4 2) ha),hd++([List.take (B4 (J9 .i64 (DE .i64 (B1 ha 0) 8) (B1 ha 1))) (List.drop (B4 2) ha)]:List Al),J9 .i64 (DE .i64 (B1 ha 0) 8) (B1 ha 1),hk+1),hb) ⟨gj,Aby _⟩ (AL.c Aa (AL.c Aa (AL.c Aa (AL.c5 Aa Aa Aa Aa Aa AL.nil)))) (sC sN))
     ·refine Bx (A6 ?_);have gl:=BX h9 hf hg;exact A6 (Be (AI ((ha,hd),v233) gl (AL.c5 Aa Aa Aa Aa Aa AL.nil) (sC sN)))
    ·rintro⟨⟨hn,he⟩,ho⟩ hi;refine Cy (l':=[(0,rS hn),(2,rv (.slice none 0 0)),(3,At 0),(4,rv ho),(7,At 14)]) (H':=[.row ho 9 1 (A4 eS he)]) Aa Aa ?_;replace hi:Jf hn he=some r:=hi;unfold Jf at hi;refine Bc (AP (An (Ak (wm Aa (wv (I0 Aa Aa) (Av (cz hi Aa (λgm gp=>?_) (λgm gq=>?_))))))))
     ·exact Ak (wa Aa (Av (Kf (Cp (Kd (AI (13,()) gp (AL.c Aa (AL.c Aa (AL.c Aa AL.nil))) (sS sN)))))))
     ·refine Ay (AP (An (Ak (wm Aa (wm Aa (wv (Ch (ys:=he) (enc:=eS) (i:=0) Cn Aa Aa) (wm Aa (wv (Ch (ys:=he) (enc:=eS) (i:=0) Cn Aa Aa) (WL.freeze (i:=0) Aa (WL.up (d:=51) (r:=AY 1 (A4 eS he)) Aa (Up.fact (i:=0) Aa) (ck gq λgr gs=>wv (r:=AY 1 (A4 eS (List.take (B4 (he.length:Int)) he))) (MQ Cn Cv Aa Aa Aa gr) (wa Aa (wa Aa (Av (A1 (Ae (XU ?_)))))))))))))))));obtain rfl:=A5 gs;exact A0 (DJ Tryz.results63 (AM Aa) (AM Aa)) (sS sN) ⟨Aa,Aa⟩
 ·rintro⟨hp,⟨⟩⟩ hj;refine BW (l':=[(2,rv (.slice none 0 0)),(3,At 0),(7,At hp)]) (H':=[]) Aa Aa ?_;replace hj:DV hp=some r:=hj;unfold DV at hj;refine An (Ay (AP (Ak (wm Aa (wa Aa (wa Aa (Av (A1 (Kc (WK.up (d:=2) (r:=AY 1 (A4 eS ([]:List Al))) Aa (Up.le (KZ.nil _)) ?_))))))))));obtain rfl:=A5 hj;exact A0 (DJ Tryz.results63 (AM Aa) (AM Aa)) sN ⟨Aa,Aa⟩
theorem YI (F:Nat)(body:Al)(r:Al×Int)(h:OB F body=some r):Fn Tryz.prog GE 112 [rS body] [] (λR H=>R=C7 [rS r.1,At r.2]∧H=[]):=by
 refine enter (n:=17) Tryz.func112 Aa Tryz.ntmps112 Aa (λw Z=>?_);unfold OB at h;refine Ak (wv (r:=rS ([]:Al)) (Az Aa) (wa Aa (Av (An (Ak (wm Aa (wv (Bv Cu Aa) (wv (CI Aa Aa) (Av (cz h Aa (λc1 h2=>?_) (λc1 h3=>?_)))))))))))
 ·refine Ak (wv (r:=rS ([]:Al)) (Az Aa) (wa Aa (Av (A1 (Ae ?_)))));obtain rfl:=A5 h2;exact A0 (DJ Tryz.results112 (AM Aa) (AM Aa)) sN ⟨Aa,Aa⟩
 ·refine Ay (AP (Ak (wm Aa (wv (Bv Cu Aa) (wv (r:=rI .u32 (IntKind.wrap .u32 (body.length:Int))) (BI ⟨_,S8⟩ Gk Aa) (ob h3 λr4 e6 h5=>CG Tryz.call147 (PQ (IntKind.wrap .u32 (body.length:Int)) r4 e6) Aa (wm Aa (ob h5 λr7 e9 h8=>CG Tryz.call122 (Xs F body r7 e9) Aa (ob h8 λha hb hd=>CG Tryz.call147 (PQ r7 ha hb) Aa (ck hd λhe hf=>wv (CU Aa Aa he) (wm Aa (ck hf λg15 hg=>wv (CU Aa Aa g15) (wa Aa (wa Aa (Av (A1 ?_))))))))))))))));obtain rfl:=A5 hg;exact A0 (DJ Tryz.results112 (AM Aa) (AM Aa)) sN ⟨Aa,Aa⟩
theorem YK (F:Nat)(s:Al)(r:Al×Int×Int)(h:X1 F s=some r):Fn Tryz.prog GE 98 [rS s] [] (λR H=>R=C7 [rS r.1,At r.2.1,At r.2.2]∧H=[]):=by
 refine enter (n:=35) Tryz.func98 Aa Tryz.ntmps98 Aa (λw Z=>?_);unfold X1 at h;refine Ak (wv (r:=rS ([]:Al)) (Az Aa) (wa Aa (wa Aa (Av (An (Ak (wm Aa (wv (Bv Cu Aa) (wv (C0 Aa Aa) (Av (cz h Aa (λc1 h2=>?_) (λc1 h3=>?_))))))))))))
 ·refine Ak (wv (r:=rS ([]:Al)) (Az Aa) (wa Aa (wa Aa (Av (A1 (Ae ?_))))));obtain rfl:=A5 h2;exact A0 (Wr VO (AM Aa) (AM Aa) (AM Aa)) sN ⟨Aa,Aa⟩
 ·refine Ay (AP (Ak (wm Aa (ob h3 λr4 e6 h5=>CG Tryz.call121 (PP s r4 e6) Aa (wv (r:=At (IntKind.wrap .i64 r4)) (BI ⟨_,Gk⟩ S8 Aa) (wa Aa (Av (An (AJ (Ak (wm Aa (wv (CI Aa Aa) (wa Aa (Av (cz h5 Aa (λc7 h8=>?_) (λc7 h9=>?_))))))))))))))))
  ·refine Ak (wv (r:=rS ([]:Al)) (Az Aa) (wa Aa (wa Aa (Av (A1 (AC (Ae ?_)))))));obtain rfl:=A5 h8;exact A0 (Wr VO (AM Aa) (AM Aa) (AM Aa)) sN ⟨Aa,Aa⟩
  ·refine Ak (wm Aa (wm Aa (wv (Bv Cu Aa) (ck h9 λhb hd=>wv (Oq Aa Aa hb) (wv (CI Aa Aa) (wa Aa (Av (cz hd Aa (λhe hf=>?_) (λhe hg=>?_)))))))))
   ·refine Ak (wv (r:=rS ([]:Al)) (Az Aa) (wa Aa (wa Aa (Av (A1 (AC (Ae ?_)))))));obtain rfl:=A5 hf;exact A0 (Wr VO (AM Aa) (AM Aa) (AM Aa)) sN ⟨Aa,Aa⟩
   ·refine Ay (AG (AP (Ak (wm Aa (wm Aa (ck hg λg15 hh=>wv (Bz Aa Aa g15) (ck hh λg17 hi=>ck hi λg19 hj=>wv (Gs Cu Aa Aa Aa g17 g19) (wa Aa (Av (An (An (ob hj λha hk hl=>ck hl λhm hn=>Db 4 [0,5,6] [⟨[],rS (List.take (B4 (8+(IntKind.wrap .i64 r4))-B4 8) (List.drop (B4 8) s)),none,none,none⟩,⟨[0],rI .u32 ha,none,none,none⟩,⟨[],rS s,none,none,none⟩,⟨[2],rS (List.drop (B4 4) s),none,none,none⟩] ?_ (λβ=>?_)))))))))))))
    ·refine CL (Aq Aa) (KS (Em Tryz.call122 (Xs F (List.take (B4 (8+(IntKind.wrap .i64 r4))-B4 8) (List.drop (B4 8) s)) ha hk) Aa) (CL (Aq Aa) (CL (DT Cu Aa Aa hm) ?_)));exact Pb
    refine Dg (H1:=[]) [26,27,28,29,0,5,6] ?_;refine ob hn λho hp hq=>CG Tryz.call121 (PP (List.drop (B4 4) s) ho hp) Aa (wv (BT Aa Aa) (Av (cz hq Aa (λhr hs=>?_) (λhr ht=>?_))))
    ·refine Ak (wv (r:=rS ([]:Al)) (Az Aa) (wa Aa (wa Aa (Av (A1 (Ae ?_))))));obtain rfl:=A5 hs;exact A0 (Wr VO (AM Aa) (AM Aa) (AM Aa)) sN ⟨Aa,Aa⟩
    ·refine Ay (AP (Ak (wm Aa (wm Aa (wv (Bz Aa Aa g15) (wa Aa (wa Aa (wa Aa (Av (A1 ?_))))))))));obtain rfl:=A5 ht;exact A0 (Wr VO (AM Aa) (AM Aa) (AM Aa)) sN ⟨Aa,Aa⟩
theorem Xz (F:Nat)(s:Al)(r:(List Al)×Int)(h:Tr F s=some r):Fn Tryz.prog GE 62 [rS s] [] (λR H=>R=C7 [AY 1 (A4 eS r.1),At r.2]∧H=[]):=by
 refine enter (n:=37) Tryz.func62 Aa Tryz.ntmps62 Aa (λw Z=>?_);unfold Tr at h;refine Ak (wa Aa (wa Aa (Bs (wa Aa (Bs (wa Aa (Av (An (AJ (WC.nilrow (e:=9) (sz:=1) (ob h λhm hn hj=>Bu (S:=Nat×((List Al)×Int)×(Value)) (V:=((List Al)×Int)×(Value)) 0 (λσ=>Ci (λσ=>KD F s σ.1 σ.2) σ.1 σ.2.1=some hm) (λσ=>[(0,rS s),(2,rv (.slice none 0 0)),(3,At 0),(4,rv σ.2.2),(5,At σ.2.1.2)]) (λσ=>[.row σ.2.2 9 1 (A4 eS σ.2.1.1)]) (λσ=>σ.1) (F,(([]:List Al),0),(.slice none 0 0         )) hn (AL.c5 Aa Aa Aa Aa Aa AL.nil) (sC sN) (λσ=>KC σ.1.1 σ.1.2=some r) (λσ=>[(2,rv (.slice none 0 0)),(3,At 0),(4,rv σ.2),(5,At σ.1.2)]) (λσ=>[.row σ.2 9 1 (A4 eS σ.1.1)]) ?_ ?_)))))))))))
 ·rintro⟨hB,⟨hb,hd⟩,hf⟩ ho;refine BW (l':=[(0,rS s),(2,rv (.slice none 0 0)),(3,At 0),(4,rv hf),(5,At hd)]) (H':=[.row hf 9 1 (A4 eS hb)]) Aa Aa ?_;obtain⟨hp,rfl,hq,hg,hi⟩:=C4 ho;replace hg:KD F s hb hd=some hq:=hg;unfold KD at hg;refine An (Ak (wm Aa (wm Aa (wv (Bv Cu Aa) (wv (C0 Aa Aa) (Av (cz hg Aa (λhr hs=>?_) (λhr ht=>?_))))))))
  ·refine Ay (AP (AJ (Ak (wm Aa (wm Aa (ck hs λhu hw=>wv (DT Cu Aa Aa hu) (ob hw λhe hx hy=>CG Tryz.call98 (YK F (List.drop (B4 hd) s) he hx) Aa (wm Aa (wv (AA Aa Aa) (wv (AA Aa Aa) (wv (AA Aa Aa) (wa Aa (wa Aa (wa Aa (Av (An (Ak (wm Aa (wv (BT Aa Aa) (Av (cz hy Aa (λc167 hz=>?_) (λc167 h0=>?_))))))))))))))))))))))
   ·refine Bx (A6 (NH Aa ?_));have h1:=BX hz hi hj;exact A6 (Be (AI ((hb,hd),hf) h1 (AL.c Aa (AL.c Aa (AL.c Aa (AL.c Aa AL.nil)))) (sC sN)))
   ·refine Ay (AP (Ai (wm Aa (wm Aa (Bb (ys:=([he.1]:List Al)) (enc:=eS) (css:=[[rS he.1]]) (xs:=[.tmp 24]) Cn Cv PW Aa Aa Aa ⟨D1.one Aa (Up.refl _),trivial⟩ Aa CY Aa Aa Aa (λhC=>?_))))));refine ck h0 λh2 h3=>Exists.elim MX λinf hinf=>Cb (xs:=hb) (ys:=([he.1]:List Al)) (enc:=eS) (i:=1) Cn hinf.1 hinf.2.1 hinf.2.2.1 hinf.2.2.2 Aa Aa Aa Aa Aa (If.w (i:=0) Aa Aa) CY JT h2 Aa (λh4=>?_);refine wm Aa (wm Aa (ck h3 λh5 h6=>wv (Bz Aa Aa h5) (wa Aa (wa Aa (Am (AG ?_))))));have h7:=Bk h6 hi;exact Aw (AI (hp,(hb++([he.1]:List Al),hd+he.2.1),h4) ⟨h7,Aby _⟩ (AL.c5 Aa Aa Aa Aa Aa AL.nil) (sC (sS sN)))
  ·refine Bx (A6 ?_);have h8:=BX ht hi hj;exact A6 (Be (AI ((hb,hd),hf) h8 (AL.c Aa (AL.c Aa (AL.c Aa (AL.c Aa AL.nil)))) (sC sN)))
 ·rintro⟨⟨ha,hk⟩,hl⟩ hh;refine Cy (l':=[(2,rv (.slice none 0 0)),(3,At 0),(4,rv hl),(5,At hk)]) (H':=[.row hl 9 1 (A4 eS ha)]) Aa Aa ?_;replace hh:KC ha hk=some r:=hh;unfold KC at hh;refine Bc (AP (Ak (wm Aa (wm Aa (wv (Ch (ys:=ha) (enc:=eS) (i:=0) Cn Aa Aa) (wm Aa (wv (Ch (ys:=ha) (enc:=eS) (i:=0) Cn Aa Aa) (WL.freeze (i:=0) Aa (WL.up (d:=30) (r:=AY 1 (A4 eS ha)) Aa (Up.fact (i:=0) Aa) (ck hh λh9 hA=>wv (r:=AY 1 (A4 eS (List.take (B4 (ha.length:Int)) ha))) (MQ Cn Cv Aa Aa Aa h9) (wm Aa (wa Aa (wa Aa (Av (A1 ?_)))))))))))))));obtain rfl:=A5 hA;exact A0 (DJ Tryz.results62 (AM Aa) (AM Aa)) (sS sN) ⟨Aa,Aa⟩
theorem YL (F:Nat)(bodies:(List Al))(r:Al×Int)(h:Sk F bodies=some r):Fn Tryz.prog GE 82 [AY 1 (A4 eS bodies)] [] (λR H=>R=C7 [rS r.1,At r.2]∧H=[]):=by
 refine enter (n:=36) Tryz.func82 Aa Tryz.ntmps82 Aa (λw Z=>?_);unfold Sk at h;refine Ak (wv (r:=rS ([]:Al)) (Az Aa) (wa Aa (Bs (wa Aa (Av (An (Ak (wm Aa (wv (Bq (ys:=bodies) (enc:=eS) Cn Aa) (wv (r:=At 0) (Aq Aa) (Av (AJ (WC.nilrow (e:=5) (sz:=1) (ob h λhm hn hk=>Bu (S:=Nat×((List Int)×Int)×(Value)) (V:=((List Int))×(Value)) 0 (λσ=>Ci (λσ=>Gd F bodies σ.1 σ.2) σ.1 σ.2.1=some hm) (λσ=>[(4,rv σ.2.2),(9,AY 1 (A4 eS bodies)),(10,At (bodies.length:Int)),(11,At σ.2.1.2)]) (λσ=>[.row σ.2.2 5 1 (A4 Bp σ.2.1.1)]) (λσ=>σ.1) (F,(([]:List Int),0),(.slice none 0 0     )) hn (AL.c Aa (AL.c Aa (AL.c Aa (AL.c Aa AL.nil)))) (sC sN) (λσ=>JS σ.1=some r) (λσ=>[(4,rv σ.2)]) (λσ=>[.row σ.2 5 1 (A4 Bp σ.1)]) ?_ ?_))))))))))))))
 ·rintro⟨hC,⟨hb,he⟩,hf⟩ ho;refine BW (l':=[(4,rv hf),(9,AY 1 (A4 eS bodies)),(10,At (bodies.length:Int)),(11,At he)]) (H':=[.row hf 5 1 (A4 Bp hb)]) Aa Aa ?_;obtain⟨hp,rfl,hq,hg,hj⟩:=C4 ho;replace hg:Gd F bodies hb he=some hq:=hg;unfold Gd at hg;refine Ak (wv (C0 Aa Aa) (Av (An (cz hg Aa (λhr hs=>?_) (λhr ht=>?_)))))
  ·refine Ay (AP (An (AJ (Ak (ck hs λhu hw=>wv (By (enc:=eS) (ys:=bodies) Cn Cv Aa Aa hu) (wv (Bg CD Aa Aa) (wa Aa (Bs (wm Aa (ob hw λhd hx hy=>CG Tryz.call112 (YI F (Ap bodies he) hd hx) Aa (wm Aa (wv (AA Aa Aa) (wv (AA Aa Aa) (wa Aa (wa Aa (Av (An (ck hy λhz h0=>AH [(4,rv hf),(7,rS hd.1),(9,AY 1 (A4 eS bodies)),(10,At (bodies.length:Int)),(11,At he),(29,rB ((!decide (hd.2=0))||(decide (262144<((hb.length:Int)+(hd.1.length:Int))))))] [.row hf 5 1 (A4 Bp hb)] ?_ ?_))))))))))))))))))
   ·refine Ai (wm Aa (wv (BT Aa Aa) (wm Aa (AO (!decide (hd.2=0)) (λha=>?_) (λha=>?_)))))
    ·refine wf ha (wf ha (wf ha (wf ha (wf ha (wf ha (wv (r:=rB true) (A2 Aa ha Aa) (Am ?_)))))));exact BV ha
    ·refine wo ha (wm Aa (wo ha (wv (Ch (ys:=hb) (enc:=Bp) (i:=0) Dq Aa Aa) (wo ha (wm Aa (wo ha (wv (Bv Cu Aa) (wo ha (wv (Bz Aa Aa (CE hz ha)) (wo ha (wv (CI Aa Aa) (E2 Aa ha Aa (Am ?_)))))))))))));exact BV ha
   refine cz h0 Aa (λh1 h2=>?_) (λh1 h3=>?_)
   ·refine Ak (wv (r:=rS ([]:Al)) (Az Aa) (wa Aa (Av (A1 (Ae (AC (Ae (Ae (Bj ?_)))))))));have h4:=BB h2 hj hk;refine AC (Ae ?_);obtain rfl:=A5 h4;exact A0 (DJ Tryz.results82 (AM Aa) (AM Aa)) (sS sN) ⟨Aa,Aa⟩
   ·refine Ay (AP (Ai (wm Aa (wm Aa (ck h3 λh5 h6=>Exists.elim Jw λinf hinf=>Es (xs:=hb) (i:=0) Dq Cu hinf.1 hinf.2.1 hinf.2.2.1 hinf.2.2.2 Aa Aa Aa h5 Aa (λh7=>?_))))));refine wa Aa (Am (AG (AP (Ai (ck h6 λh8 h9=>wv (Bz Aa Aa h8) (wm Aa (Am ?_)))))));have hA:=Bk h9 hj;exact Aw (AI (hp,(hb++Du hd.1,he+1),h7) ⟨hA,Aby _⟩ (AL.c Aa (AL.c Aa (AL.c Aa (AL.c Aa AL.nil)))) (sC sN))
  ·refine Bx (A6 ?_);have hB:=BX ht hj hk;exact A6 (Be (AI (hb,hf) hB (AL.c Aa AL.nil) (sC sN)))
 ·rintro⟨hh,hl⟩ hi;refine Cy (l':=[(4,rv hl)]) (H':=[.row hl 5 1 (A4 Bp hh)]) Aa Aa ?_;replace hi:JS hh=some r:=hi;unfold JS at hi;refine Bc (AP (Ak (wm Aa (wv (r:=rS (Iz hh)) (P9 (xs:=hh) (i:=0) Dq Cu Ld Aa Aa) (wa Aa (wa Aa (Av (A1 ?_))))))));obtain rfl:=A5 hi;exact A0 (DJ Tryz.results82 (AM Aa) (AM Aa)) (sS sN) ⟨Aa,Aa⟩
theorem Yn (F:Nat)(s:Al)(r:Int)(h:R8 F s=some r):Fn Tryz.prog GE 149 [rS s] [] (λR H=>R=rI .u32 r∧H=[]):=by
 refine enter (n:=32) Tryz.func149 Aa Tryz.ntmps149 Aa (λw Z=>?_);unfold R8 at h;refine Ak (wa Aa (Bs (wa Aa (Av (An (Ak (wa Aa (Av (AJ (ob h λhs ht hu=>Bu (S:=Nat×(Int×Int)×(Unit)) (V:=(Int)×(Unit)) 0 (λσ=>Ci (λσ=>EX F s σ.1 σ.2) σ.1 σ.2.1=some hs) (λσ=>[(0,rS s),(3,rI .u32 σ.2.1.1),(4,At σ.2.1.2)]) (λσ=>[]) (λσ=>σ.1) (F,(4294967295,0),()) ht (AL.c Aa (AL.c Aa (AL.c Aa AL.nil))) sN (λσ=>LJ σ.1=some r) (λσ=>[(3,rI .u32 σ.1)]) (λσ=>[]) ?_ ?_))))))))))
 ·rintro⟨hL,⟨he,hb⟩,⟨⟩⟩ hw;refine BW (l':=[(0,rS s),(3,rI .u32 he),(4,At hb)]) (H':=[]) Aa Aa ?_;obtain⟨hx,rfl,hj,hf,hn⟩:=C4 hw;replace hf:EX F s he hb=some hj:=hf;unfold EX at hf;refine An (Ak (wm Aa (wm Aa (wv (Bv Cu Aa) (wv (C0 Aa Aa) (Av (cz hf Aa (λhy hz=>?_) (λhy h0=>?_))))))))
  ·refine Ay (AP (An (AJ (Ak (wm Aa (wm Aa (wm Aa (ck hz λh1 h2=>wv (Bw Cu Aa Aa h1) (wv (r:=rI .u32 (IntKind.wrap .u32 (B1 s hb))) (BI ⟨_,Ld⟩ Gk Aa) (wv (r:=rI .u32 (E0 .u32 he (IntKind.wrap .u32 (B1 s hb)))) (RE Aa Aa) (wa Aa (Bs (wa Aa (Av (AJ (ob h2 λh3 h4 h5=>Bu (S:=Nat×(Int×Int)×(Unit)) (V:=(Int×Int×Int×Bool)×(Unit)) 2 (λσ=>Ci (λσ=>Ht σ.1 σ.2) σ.1 σ.2.1=some h3) (λσ=>[(0,rS s),(3,rI .u32 σ.2.1.1),(4,At hb),(5,At σ.2.1.2)]) (λσ=>[]) (λσ=>σ.1) (F,(E0 .u32 he (IntKind.wrap .u32 (B1 s hb)),0),()) h4 (AL.c Aa (AL.c Aa (AL.c Aa (AL.c Aa AL.nil)))) sN (λσ=>JL hb σ.1.1 σ.1.2.1 σ.1.2.2.1 σ.1.2.2.2=some hj) (λσ=>[(0,rS s),(3,rI .u32 σ.1.1),(4,At hb),(5,At σ.1.2.1),(18,At σ.1.2.2.1),(19,rB σ.1.2.2.2)]) (λσ=>[]) ?_ ?_))))))))))))))))
   ·rintro⟨hN,⟨ha,hd⟩,⟨⟩⟩ h6;refine BW (l':=[(0,rS s),(3,rI .u32 ha),(4,At hb),(5,At hd)]) (H':=[]) Aa Aa ?_;obtain⟨h7,rfl,h8,hg,ho⟩:=C4 h6;replace hg:Ht ha hd=some h8:=hg;unfold Ht at hg;refine An (Ak (wm Aa (wv (C0 Aa Aa) (Av (cz hg Aa (λh9 hA=>?_) (λh9 hB=>?_))))))
    ·refine Ay (AP (AH [(0,rS s),(3,rI .u32 (bif decide ((Lp .u32 ha 1)=1) then E0 .u32 (Ce .u32 ha 1) 3988292384 else Ce .u32 ha 1)),(4,At hb),(5,At hd)] [] ?_ ?_))
     ·refine AJ (Ak (wm Aa (wv (r:=rI .u32 (Lp .u32 ha 1)) (Zf Aa Aa) (wv (B5 Aa Aa) (Av (C8 (b:=decide ((Lp .u32 ha 1)=1)) Aa (λhk=>?_) (λhk=>?_)))))))
      ·refine Ai (wm Aa (wv (r:=rI .u32 (Ce .u32 ha 1)) (JN Aa Aa (by decide)) (wv (r:=rI .u32 (E0 .u32 (Ce .u32 ha 1) 3988292384)) (RE Aa Aa) (wa Aa (Am (AG ?_))))));exact BV hk
      ·refine Ai (wm Aa (wv (r:=rI .u32 (Ce .u32 ha 1)) (JN Aa Aa (by decide)) (wa Aa (Am (AG ?_)))));exact BV hk
     refine Ai (wm Aa (ck hA λhC hD=>wv (Bz Aa Aa hC) (wa Aa (Am ?_))));have hE:=Bk hD ho;exact Aw (AI (h7,((bif decide ((Lp .u32 ha 1)=1) then E0 .u32 (Ce .u32 ha 1) 3988292384 else Ce .u32 ha 1),hd+1),()) ⟨hE,Aby _⟩ (AL.c Aa (AL.c Aa (AL.c Aa (AL.c Aa AL.nil)))) sN)
    ·refine Bx (A6 ?_);have hG:=BX hB ho h5;exact A6 (Be (AI ((ha,hd,hd,decide (hd<8)),()) hG (AL.c Aa (AL.c5 Aa Aa Aa Aa Aa AL.nil)) sN))
   ·rintro⟨⟨hl,hp,hq,hr⟩,⟨⟩⟩ hh;refine Cy (l':=[(0,rS s),(3,rI .u32 hl),(4,At hb),(5,At hp),(18,At hq),(19,rB hr)]) (H':=[]) Aa Aa ?_;replace hh:JL hb hl hp hq hr=some hj:=hh;unfold JL at hh;refine Bc (AG (AP (Ai (wm Aa (ck hh λhH hI=>wv (Bz Aa Aa hH) (wa Aa (Am ?_)))))));have hJ:=Bk hI hn;exact Aw (AI (hx,(hl,hb+1),()) ⟨hJ,Aby _⟩ (AL.c Aa (AL.c Aa (AL.c Aa AL.nil))) sN)
  ·refine Bx (A6 ?_);have hK:=BX h0 hn hu;exact A6 (Be (AI (he,()) hK (AL.c Aa AL.nil) sN))
 ·rintro⟨hm,⟨⟩⟩ hi;refine Cy (l':=[(3,rI .u32 hm)]) (H':=[]) Aa Aa ?_;replace hi:LJ hm=some r:=hi;unfold LJ at hi;refine Bc (AP (Ak (wm Aa (wv (r:=rI .u32 (QG .u32 hm)) (TS Aa) (wa Aa (Av (A1 ?_)))))));obtain rfl:=A5 hi;exact A0 (BJ Tryz.results149 (AM Aa)) sN ⟨Aa,Aa⟩
theorem R7 (n:Int)(r:(List Int))(h:Mt n=some r):Fn Tryz.prog GE 148 [rI .u32 n] [] (λR H=>R=AY 1 (A4 Bp r)∧H=[]):=by
 refine enter (n:=15) Tryz.func148 Aa Tryz.ntmps148 Aa (λw Z=>?_);unfold Mt at h;refine Ak (wa Aa (Bs (wm Aa (wv (r:=rI .u32 (Ce .u32 n 24)) (JN Aa Aa (by decide)) (wv (r:=rI .u8 (IntKind.wrap .u8 (Ce .u32 n 24))) (BI ⟨_,Gk⟩ Ld Aa) (wm Aa (wv (r:=rI .u32 (Ce .u32 n 16)) (JN Aa Aa (by decide)) (wv (r:=rI .u8 (IntKind.wrap .u8 (Ce .u32 n 16))) (BI ⟨_,Gk⟩ Ld Aa) (wm Aa (wv (r:=rI .u32 (Ce .u32 n 8)) (JN Aa Aa (by decide)) (wv (r:=rI .u8 (IntKind.wrap .u8 (Ce .u32 n 8))) (BI ⟨_,Gk⟩ Ld Aa) (wm Aa (wv (r:=rI .u8 (IntKind.wrap .u8 n)) (BI ⟨_,Gk⟩ Ld Aa) (Bb (ys:=([IntKind.wrap .u8 (Ce .u32 n 24),IntKind.wrap .u8 (Ce .u32 n 16),IntKind.wrap .u8 (Ce .u32 n 8),IntKind.wrap .u8 n]:List Int)) (enc:=Bp) (css:=[[rI .u8 (IntKind.wrap .u8 (Ce .u32 n 24))],[rI .u8 (IntKind.wrap .u8 (Ce .u32 n 16))],[rI .u8 (IntKind.wrap .u8 (Ce .u32 n 8))],[rI .u8 (IntKind.wrap .u8 n)]]) (xs:=[.tmp 5,.tmp 8,.tmp 11,.tmp 13]) Dq XQ XN Aa Aa Aa ⟨D1.one Aa (Up.refl _),D1.one Aa (Up.refl _),D1.one Aa (Up.refl _),D1.one Aa (Up.refl _),trivial⟩ Aa Dj Aa Aa Aa (λb1=>?_)))))))))))))));refine wa Aa (Av (A1 (WK.freeze (i:=0) Aa (WK.up (d:=2) (r:=AY 1 (A4 Bp ([IntKind.wrap .u8 (Ce .u32 n 24),IntKind.wrap .u8 (Ce .u32 n 16),IntKind.wrap .u8 (Ce .u32 n 8),IntKind.wrap .u8 n]:List Int))) Aa (Up.fact (i:=0) Aa) ?_))));obtain rfl:=A5 h;exact A0 (BJ Tryz.results148 (AM Aa)) (sS sN) ⟨Aa,Aa⟩
theorem Wy (F:Nat)(fields:(List Al))(r:Al×Int)(h:Ol F fields=some r):Fn Tryz.prog GE 84 [AY 1 (A4 eS fields)] [] (λR H=>R=C7 [rS r.1,At r.2]∧H=[]):=by
 refine enter (n:=50) Tryz.func84 Aa Tryz.ntmps84 Aa (λw Z=>?_);unfold Ol at h;refine Ak (wv (r:=rS ([]:Al)) (Az Aa) (wa Aa (Av (An (Ak (wm Aa (wv (Bq (ys:=fields) (enc:=eS) Cn Aa) (wv (CI Aa Aa) (Av (cz h Aa (λc1 h2=>?_) (λc1 h3=>?_)))))))))))
 ·refine Ak (wv (r:=rS ([]:Al)) (Az Aa) (wa Aa (Av (A1 (Ae ?_)))));obtain rfl:=A5 h2;exact A0 (DJ Tryz.results84 (AM Aa) (AM Aa)) sN ⟨Aa,Aa⟩
 ·refine Ay (AP (Ak (wm Aa (wv (Bq (ys:=fields) (enc:=eS) Cn Aa) (wv (r:=rI .u8 (IntKind.wrap .u8 (fields.length:Int))) (BI ⟨_,S8⟩ Ld Aa) (Bb (ys:=([IntKind.wrap .u8 (fields.length:Int)]:List Int)) (enc:=Bp) (css:=[[rI .u8 (IntKind.wrap .u8 (fields.length:Int))]]) (xs:=[.tmp 11]) Dq XQ XN Aa Aa Aa ⟨D1.one Aa (Up.refl _),trivial⟩ Aa Dj Aa Aa Aa (λb4=>?_)))))));refine wa Aa (Av (An (Ak (wm Aa (wv (Bq (ys:=fields) (enc:=eS) Cn Aa) (wv (r:=At 0) (Aq Aa) (Av (AJ (ob h3 λhl hm hj=>Bu (S:=Nat×((List Int)×Int)×(Value)) (V:=((List Int))×(Value)) 0 (λσ=>Ci (λσ=>EN fields σ.1 σ.2) σ.1 σ.2.1=some hl) (λσ=>[(0,AY 1 (A4 eS fields)),(4,rv σ.2.2),(14,At (fields.length:Int)),(15,At σ.2.1.2)]) (λσ=>[.row σ.2.2 5 1 (A4 Bp σ.2.1.1)]) (λσ=>σ.1) (F,(([IntKind.wrap .u8 (fields.length:Int)]:List Int),0),(.slice (some ⟨b4,0,none⟩) 1 1)) hm (AL.c Aa (AL.c Aa (AL.c Aa (AL.c Aa AL.nil)))) (sC sN) (λσ=>Ko σ.1=some r) (λσ=>[(4,rv σ.2)]) (λσ=>[.row σ.2 5 1 (A4 Bp σ.1)]) ?_ ?_)))))))))
  ·rintro⟨hC,⟨hb,ha⟩,hd⟩ hn;refine BW (l':=[(0,AY 1 (A4 eS fields)),(4,rv hd),(14,At (fields.length:Int)),(15,At ha)]) (H':=[.row hd 5 1 (A4 Bp hb)]) Aa Aa ?_;obtain⟨ho,rfl,hp,he,hi⟩:=C4 hn;replace he:EN fields hb ha=some hp:=he;unfold EN at he;refine Ak (wv (C0 Aa Aa) (Av (An (cz he Aa (λhq hr=>?_) (λhq hs=>?_)))))
   ·refine Ay (AP (An (AJ (Ak (wm Aa (wa Aa (Av (An (Ak (wm Aa (wm Aa (ck hr λhf ht=>wv (By (enc:=eS) (ys:=fields) Cn Cv Aa Aa hf) (wv (Bg CD Aa Aa) (wv (Bv Cu Aa) (wv (CI Aa Aa) (Av (cz ht Aa (λhu hw=>?_) (λhu hx=>?_))))))))))))))))))
    ·refine Ak (wv (r:=rS ([]:Al)) (Az Aa) (wa Aa (Av (A1 (Ae (AC (Ae (Ae (Bj ?_)))))))));have hy:=BB hw hi hj;refine AC (Ae ?_);obtain rfl:=A5 hy;exact A0 (DJ Tryz.results84 (AM Aa) (AM Aa)) (sS sN) ⟨Aa,Aa⟩
    ·refine Ay (AP (An (ck hx λhz h0=>Db 16 [0,4,5,14,15] [⟨[],rv hd,none,none,none⟩,⟨[],AY 1 (A4 eS fields),none,none,none⟩,⟨[],At ha,none,none,none⟩,⟨[1,2],SW [rS (Ap fields ha)],none,none,none⟩,⟨[3],rS (Ap fields ha),none,none,none⟩,⟨[4],At ((Ap fields ha).length:Int),none,none,none⟩,⟨[5],At (Int.tdiv ((Ap fields ha).length:Int) 256),none,none,none⟩,⟨[6],rI .u8 (IntKind.wrap .u8 (Int.tdiv ((Ap fields ha).length:Int) 256)),none,none,none⟩,⟨[],AY 1 (A4 eS fields),none,none,none⟩,⟨[],At ha,none,none,none⟩,⟨[8,9],SW [rS (Ap fields ha)],none,none,none⟩,⟨[10],rS (Ap fields ha),none,none,none⟩,⟨[11],At ((Ap fields ha).length:Int),none,none,none⟩,⟨[12],At (Int.tmod ((Ap fields ha).length:Int) 256),none,none,none⟩,⟨[13],rI .u8 (IntKind.wrap .u8 (Int.tmod ((Ap fields ha).length:Int) 256)),none,none,none⟩,⟨[7,14],AY 1 (A4 Bp ([IntKind.wrap .u8 (Int.tdiv ((Ap fields ha).length:Int) 256),IntKind.wrap .u8 (Int.tmod ((Ap fields ha).length:Int) 256)]:List Int)),none,none,none⟩] ?_ (λβ=>?_))))
     ·refine CL (Aq Aa) (CL (Aq Aa) (CL (Aq Aa) (CL (By (enc:=eS) (ys:=fields) Cn Cv Aa Aa hf) (CL (Bg CD Aa Aa) (CL (Bv Cu Aa) (CL (WA Aa Aa (by decide) hz) (CL (BI ⟨_,S8⟩ Ld Aa) (CL (Aq Aa) (CL (Aq Aa) (CL (By (enc:=eS) (ys:=fields) Cn Cv Aa Aa hf) (CL (Bg CD Aa Aa) (CL (Bv Cu Aa) (CL (W9 Aa Aa (by decide)) (CL (BI ⟨_,S8⟩ Ld Aa) (KS (Ck (ys:=([IntKind.wrap .u8 (Int.tdiv ((Ap fields ha).length:Int) 256),IntKind.wrap .u8 (Int.tmod ((Ap fields ha).length:Int) 256)]:List Int)) (enc:=Bp) (css:=[[rI .u8 (IntKind.wrap .u8 (Int.tdiv ((Ap fields ha).length:Int) 256))],[rI .u8 (IntKind.wrap .u8 (Int.tmod ((Ap fields ha).length:Int) 256))]]) (xs:=[.tmp 31,.tmp 38]) Dq XQ XN Aa Aa Aa ⟨D1.one Aa (Up.refl _),D1.one Aa (Up.refl _),trivial⟩ Aa Dj Aa Aa) ?_)))))))))))))));exact Pb
     refine Dg (H1:=[.row hd 5 1 (A4 Bp hb)]) [24,25,26,27,28,29,30,31,32,33,34,35,36,37,38,39,0,4,5,14,15] ?_;refine ck h0 λh1 h4=>Exists.elim Jw λinf hinf=>Cb (xs:=hb) (ys:=([IntKind.wrap .u8 (Int.tdiv ((Ap fields ha).length:Int) 256),IntKind.wrap .u8 (Int.tmod ((Ap fields ha).length:Int) 256)]:List Int)) (enc:=Bp) (i:=0) Dq hinf.1 hinf.2.1 hinf.2.2.1 hinf.2.2.2 Aa Aa Aa Aa Aa (If.z Aa Aa) Dj I6 h1 Aa (λhD=>?_);refine wa Aa (Av (Ai (wm Aa (wm Aa (wm Aa (wv (By (enc:=eS) (ys:=fields) Cn Cv Aa Aa hf) (wv (Bg CD Aa Aa) (ck h4 λh5 h6=>Exists.elim Jw λinf hinf=>Es (xs:=hb++([IntKind.wrap .u8 (Int.tdiv ((Ap fields ha).length:Int) 256),IntKind.wrap .u8 (Int.tmod ((Ap fields ha).length:Int) 256)]:List Int)) (i:=0) Dq Cu hinf.1 hinf.2.1 hinf.2.2.1 hinf.2.2.2 Aa Aa Aa h5 Aa (λh7=>?_)))))))));refine wa Aa (Am (AG (AP (Ai (ck h6 λh8 h9=>wv (Bz Aa Aa h8) (wm Aa (Am ?_)))))));have hA:=Bk h9 hi;exact Aw (AI (ho,((hb++([IntKind.wrap .u8 (Int.tdiv ((Ap fields ha).length:Int) 256),IntKind.wrap .u8 (Int.tmod ((Ap fields ha).length:Int) 256)]:List Int))++Du (Ap fields ha),ha+1),h7) ⟨hA,Aby _⟩ (AL.c Aa (AL.c Aa (AL.c Aa (AL.c Aa AL.nil)))) (sC sN))
   ·refine Bx (A6 ?_);have hB:=BX hs hi hj;exact A6 (Be (AI (hb,hd) hB (AL.c Aa AL.nil) (sC sN)))
  ·rintro⟨hg,hk⟩ hh;refine Cy (l':=[(4,rv hk)]) (H':=[.row hk 5 1 (A4 Bp hg)]) Aa Aa ?_;replace hh:Ko hg=some r:=hh;unfold Ko at hh;refine Bc (AP (Ak (wm Aa (wv (r:=rS (Iz hg)) (P9 (xs:=hg) (i:=0) Dq Cu Ld Aa Aa) (wa Aa (wa Aa (Av (A1 ?_))))))));obtain rfl:=A5 hh;exact A0 (DJ Tryz.results84 (AM Aa) (AM Aa)) (sS sN) ⟨Aa,Aa⟩
theorem Wx (F:Nat)(body:Al)(r:Al×Int)(h:Mr F body=some r):Fn Tryz.prog GE 113 [rS body] [] (λR H=>R=C7 [rS r.1,At r.2]∧H=[]):=by
 refine enter (n:=19) Tryz.func113 Aa Tryz.ntmps113 Aa (λw Z=>?_);unfold Mr at h;refine Ak (wv (r:=rS ([]:Al)) (Az Aa) (wa Aa (Av (An (Ak (wm Aa (wv (Bv Cu Aa) (wv (CI Aa Aa) (Av (cz h Aa (λc1 h2=>?_) (λc1 h3=>?_)))))))))))
 ·refine Ak (wv (r:=rS ([]:Al)) (Az Aa) (wa Aa (Av (A1 (Ae ?_)))));obtain rfl:=A5 h2;exact A0 (DJ Tryz.results113 (AM Aa) (AM Aa)) sN ⟨Aa,Aa⟩
 ·refine Ay (AP (An (ob h3 λr4 e6 h5=>ob h5 λr7 e9 h8=>ob h8 λha hb hd=>ck hd λhe hf=>ck hf λg15 hg=>Do [0] [⟨[],rS body,0⟩,⟨[0],At (body.length:Int),0⟩,⟨[1],rI .u32 (IntKind.wrap .u32 (body.length:Int)),0⟩,⟨[2],AY 1 (A4 Bp r4),0⟩,⟨[3],rS (Iz r4),0⟩,⟨[],rS body,0⟩,⟨[5],rI .u32 r7,0⟩,⟨[6],AY 1 (A4 Bp ha),0⟩,⟨[7],rS (Iz ha),0⟩,⟨[4,8],rS ((Iz r4)++(Iz ha)),0⟩,⟨[],rS body,0⟩,⟨[9,10],rS (((Iz r4)++(Iz ha))++body),0⟩,⟨[11],rS (((Iz r4)++(Iz ha))++body),0⟩,⟨[],At 0,0⟩] [2,3] ?_ ?_)))
  ·refine oq (Aq Aa) (oq (Bv Cu Aa) (oq (BI ⟨_,S8⟩ Gk Aa) (Hu Aa (λH=>Em Tryz.call148 (R7 (IntKind.wrap .u32 (body.length:Int)) r4 e6) Aa) ?_)));refine oq (TT (xs:=r4) Dq Cu Ld Aa) (oq (Aq Aa) (Hu Aa (λH=>Em Tryz.call149 (Yn F body r7 e9) Aa) ?_));refine Hu Aa (λH=>Em Tryz.call148 (R7 r7 ha hb) Aa) ?_;refine oq (TT (xs:=ha) Dq Cu Ld Aa) (oq (CU Aa Aa he) (oq (Aq Aa) (oq (CU Aa Aa g15) (oq (Az Aa) (oq (Az Aa) ?_)))));exact CN
  refine AP (A1 ?_);obtain rfl:=A5 hg;exact A0 (DJ Tryz.results113 (AM Aa) (AM Aa)) sN ⟨Aa,Aa⟩
theorem Wz (F:Nat)(bodies:(List Al))(r:Al×Int)(h:Om F bodies=some r):Fn Tryz.prog GE 85 [AY 1 (A4 eS bodies)] [] (λR H=>R=C7 [rS r.1,At r.2]∧H=[]):=by
 refine enter (n:=62) Tryz.func85 Aa Tryz.ntmps85 Aa (λw Z=>?_);unfold Om at h;refine Ak (wv (r:=rS ([]:Al)) (Az Aa) (wa Aa (Bs (wa Aa (Av (An (Ak (wm Aa (wv (Bq (ys:=bodies) (enc:=eS) Cn Aa) (wv (r:=At 0) (Aq Aa) (Av (AJ (ob h λht hu ho=>Bu (S:=Nat×(Int×Int)×(Unit)) (V:=(Int)×(Unit)) 0 (λσ=>Ci (λσ=>Ex bodies σ.1 σ.2) σ.1 σ.2.1=some ht) (λσ=>[(0,AY 1 (A4 eS bodies)),(4,At σ.2.1.1),(11,At (bodies.length:Int)),(12,At σ.2.1.2)]) (λσ=>[]) (λσ=>σ.1) (F,(0,0),()) hu (AL.c Aa (AL.c Aa (AL.c Aa (AL.c Aa AL.nil)))) sN (λσ=>Ha F bodies σ.1=some r) (λσ=>[(0,AY 1 (A4 eS bodies)),(4,At σ.1)]) (λσ=>[]) ?_ ?_)))))))))))))
 ·rintro⟨gj,⟨hd,hb⟩,⟨⟩⟩ hw;refine BW (l':=[(0,AY 1 (A4 eS bodies)),(4,At hd),(11,At (bodies.length:Int)),(12,At hb)]) (H':=[]) Aa Aa ?_;obtain⟨hx,rfl,hy,hf,hl⟩:=C4 hw;replace hf:Ex bodies hd hb=some hy:=hf;unfold Ex at hf;refine Ak (wv (C0 Aa Aa) (Av (An (cz hf Aa (λhz h0=>?_) (λhz h1=>?_)))))
  ·refine Ay (AP (An (AJ (Ak (wm Aa (wa Aa (Av (An (ck h0 λhm h2=>ck h2 λh3 h4=>ck h4 λh5 h6=>AH [(0,AY 1 (A4 eS bodies)),(4,At hd),(5,At hb),(11,At (bodies.length:Int)),(12,At hb),(31,rB ((decide (262136<((Ap bodies hb).length:Int)))||(decide (262144<((hd+8)+((Ap bodies hb).length:Int))))))] [] ?_ ?_)))))))))
   ·refine Ai (wm Aa (wm Aa (wv (By (enc:=eS) (ys:=bodies) Cn Cv Aa Aa hm) (wv (Bg CD Aa Aa) (wv (Bv Cu Aa) (wv (CI Aa Aa) (wm Aa (AO (decide (262136<((Ap bodies hb).length:Int))) (λha=>?_) (λha=>?_)))))))))
    ·refine wf ha (wf ha (wf ha (wf ha (wf ha (wf ha (wf ha (wf ha (wf ha (wv (r:=rB true) (A2 Aa ha Aa) (Am ?_))))))))));exact BV ha
    ·refine wo ha (wm Aa (wo ha (wv (Bz Aa Aa (CE h3 ha)) (wo ha (wm Aa (wo ha (wm Aa (wo ha (wv (By (enc:=eS) (ys:=bodies) Cn Cv Aa Aa hm) (wo ha (wv (Bg CD Aa Aa) (wo ha (wv (Bv Cu Aa) (wo ha (wv (Bz Aa Aa (CE h5 ha)) (wo ha (wv (CI Aa Aa) (E2 Aa ha Aa (Am ?_)))))))))))))))))));exact BV ha
   refine cz h6 Aa (λc75 h7=>?_) (λc75 h8=>?_)
   ·refine Ak (wv (r:=rS ([]:Al)) (Az Aa) (wa Aa (Av (A1 (Ae (AC (Ae (Ae (Bj ?_)))))))));have h9:=BB h7 hl ho;refine AC (Ae ?_);obtain rfl:=A5 h9;exact A0 (DJ Tryz.results85 (AM Aa) (AM Aa)) sN ⟨Aa,Aa⟩
   ·refine Ay (AP (Ai (wm Aa (ck h8 λhA hB=>wv (Bz Aa Aa hA) (wm Aa (wm Aa (wv (By (enc:=eS) (ys:=bodies) Cn Cv Aa Aa hm) (wv (Bg CD Aa Aa) (wv (Bv Cu Aa) (ck hB λhC hD=>wv (Bz Aa Aa hC) (wa Aa (Am (AG (AP (Ai (ck hD λhE hG=>wv (Bz Aa Aa hE) (wm Aa (Am ?_))))))))))))))))));have hH:=Bk hG hl;exact Aw (AI (hx,((hd+8)+((Ap bodies hb).length:Int),hb+1),()) ⟨hH,Aby _⟩ (AL.c Aa (AL.c Aa (AL.c Aa (AL.c Aa AL.nil)))) sN)
  ·refine Bx (A6 ?_);have hI:=BX h1 hl ho;exact A6 (Be (AI (hd,()) hI (AL.c Aa (AL.c Aa AL.nil)) sN))
 ·rintro⟨hp,⟨⟩⟩ hg;refine Cy (l':=[(0,AY 1 (A4 eS bodies)),(4,At hp)]) (H':=[]) Aa Aa ?_;replace hg:Ha F bodies hp=some r:=hg;unfold Ha at hg;refine Bc (AP (Ak (wm Aa (ck hg λhJ hK=>ck hK λhL hN=>Exists.elim Jw λinf hinf=>XX (α:=Int) (enc:=Bp) Dq hinf.1 hinf.2.1 hinf.2.2.1 hinf.2.2.2 Aa Aa Aa hJ hL Aa (λhO=>?_)))));refine wa Aa (Av (An (Ak (wm Aa (wv (Bq (ys:=bodies) (enc:=eS) Cn Aa) (wv (r:=At 0) (Aq Aa) (Av (AJ (ob hN λhP hQ hR=>Bu (S:=Nat×((List Int)×Int)×(Value)) (V:=((List Int))×(Value)) 2 (λσ=>Ci (λσ=>Ew F bodies σ.1 σ.2) σ.1 σ.2.1=some hP) (λσ=>[(0,AY 1 (A4 eS bodies)),(6,rv σ.2.2),(44,At (bodies.length:Int)),(45,At σ.2.1.2)]) (λσ=>[.row σ.2.2 5 1 (A4 Bp σ.2.1.1)]) (λσ=>σ.1) (F,(([]:List Int),0),hO) hQ (AL.c Aa (AL.c Aa (AL.c Aa (AL.c Aa AL.nil)))) (sC sN) (λσ=>Iu σ.1=some r) (λσ=>[(6,rv σ.2)]) (λσ=>[.row σ.2 5 1 (A4 Bp σ.1)]) ?_ ?_)))))))))
  ·rintro⟨gl,⟨he,hh⟩,hn⟩ hS;refine BW (l':=[(0,AY 1 (A4 eS bodies)),(6,rv hn),(44,At (bodies.length:Int)),(45,At hh)]) (H':=[.row hn 5 1 (A4 Bp he)]) Aa Aa ?_;obtain⟨hT,rfl,hU,hi,hq⟩:=C4 hS;replace hi:Ew F bodies he hh=some hU:=hi;unfold Ew at hi;refine Ak (wv (C0 Aa Aa) (Av (An (cz hi Aa (λhV hW=>?_) (λhV hX=>?_)))))
   ·refine Ay (AP (An (AJ (Ak (wm Aa (wa Aa (Bs (wm Aa (wm Aa (ck hW λhY hZ=>wv (By (enc:=eS) (ys:=bodies) Cn Cv Aa Aa hY) (wv (Bg CD Aa Aa) (ob hZ λhr ga gb=>CG Tryz.call113 (Wx F (Ap bodies hh) hr ga) Aa (wm Aa (wv (AA Aa Aa) (wv (AA Aa Aa) (wa Aa (wa Aa (Av (Ai (wm Aa (wm Aa ?_)))))))))))))))))))));refine ck gb λgc gd=>Exists.elim Jw λinf hinf=>Es (xs:=he) (i:=0) Dq Cu hinf.1 hinf.2.1 hinf.2.2.1 hinf.2.2.2 Aa Aa Aa gc Aa (λge=>?_);refine wa Aa (Am (AG (AP (Ai (ck gd λgf gg=>wv (Bz Aa Aa gf) (wm Aa (Am ?_)))))));have gh:=Bk gg hq;exact Aw (AI (hT,(he++Du hr.1,hh+1),ge) ⟨gh,Aby _⟩ (AL.c Aa (AL.c Aa (AL.c Aa (AL.c Aa AL.nil)))) (sC sN))
   ·refine Bx (A6 ?_);have gi:=BX hX hq hR;exact A6 (Be (AI (he,hn) gi (AL.c Aa AL.nil) (sC sN)))
  ·rintro⟨hj,hs⟩ hk;refine Cy (l':=[(6,rv hs)]) (H':=[.row hs 5 1 (A4 Bp hj)]) Aa Aa ?_;replace hk:Iu hj=some r:=hk;unfold Iu at hk;refine Bc (AP (Ak (wm Aa (wv (r:=rS (Iz hj)) (P9 (xs:=hj) (i:=0) Dq Cu Ld Aa Aa) (wa Aa (wa Aa (Av (A1 ?_))))))));obtain rfl:=A5 hk;exact A0 (DJ Tryz.results85 (AM Aa) (AM Aa)) (sS sN) ⟨Aa,Aa⟩
end Go.Proofs.YtfobhhegpkinaaaGreatDoor.Q
namespace Go.Proofs.YtfobhhegpkinaaaGreatDoor
open Go
set_option linter.unusedVariables false
set_option linter.unusedSimpArgs false
section
variable {T S : Type}
def Dy:List (Al×T)→Al→Option T
 | [],_=>none
 | p::r,k=>bif decide (p.1=k) then some p.2 else Dy r k
def BL (xs:List (Al×T))(k:Al)(z:T):T:=(Dy xs k).getD z
def Gj (xs:List (Al×T))(k:Al):Bool:=(Dy xs k).isSome
def mins (k:Al)(v:T):List (Al×T)→List (Al×T)
 | []=>[(k,v)]
 | p::r=>bif CA k p.1 then(k,v)::p::r else p::mins k v r
def mput (xs:List (Al×T))(k:Al)(v:T):List (Al×T):=xs.map λp=>bif decide (p.1=k) then(k,v) else p
def mset (xs:List (Al×T))(k:Al)(v:T):List (Al×T):=bif Gj xs k then mput xs k v else mins k v xs
def mdel (xs:List (Al×T))(k:Al):List (Al×T):=xs.filter λp=>!decide (p.1=k)
def AF (f:T→S)(xs:List (Al×T)):List (Al×S):=xs.map λp=>(p.1,f p.2)
theorem LU (f:T→S):∀(xs:List (Al×T)) (k:Al),Dy (AF f xs) k=(Dy xs k).map f
 | [],k=>rfl
 | p::r,k=>by
  show(bif decide (p.1=k) then some (f p.2) else Dy (AF f r) k)=_;rw[Dy,LU f r k]
  cases decide (p.1=k)<;>rfl
theorem Xa (f:T→S)(xs:List (Al×T))(k:Al):Gj (AF f xs) k=Gj xs k:=by
 unfold Gj;rw[LU];cases Dy xs k<;>rfl
theorem RO (f:T→S)(k:Al)(v:T):∀xs:List (Al×T),AF f (mins k v xs)=mins k (f v) (AF f xs)
 | []=>rfl
 | p::r=>by
  show AF f (bif CA k p.1 then(k,v)::p::r else p::mins k v r)=(bif CA k p.1 then(k,f v)::(p.1,f p.2)::AF f r else(p.1,f p.2)::mins k (f v) (AF f r));rw[← RO f k v r]
  cases CA k p.1<;>rfl
theorem WY (f:T→S)(xs:List (Al×T))(k:Al)(v:T):AF f (mset xs k v)=mset (AF f xs) k (f v):=by
 unfold mset;rw[Xa]
 cases Gj xs k with
 | false=>exact RO f k v xs
 | true=>
  show AF f (mput xs k v)=mput (AF f xs) k (f v);unfold AF mput;rw[Acm,Acm];refine List.map_congr_left λp _=>?_;show _=(bif decide (p.1=k) then(k,f v) else(p.1,f p.2));simp only[Function.comp]
  cases decide (p.1=k)<;>rfl
theorem Xc (f:T→S)(xs:List (Al×T))(k:Al):AF f (mdel xs k)=mdel (AF f xs) k:=by
 unfold AF mdel;rw[List.filter_map];rfl
theorem GC (f:T→S)(xs:List (Al×T)):(AF f xs).length=xs.length:=by simp[AF]
theorem PH (k:Al)(v:T):∀xs:List (Al×T),(mins k v xs).Perm ((k,v)::xs)
 | []=>Abq _
 | p::r=>by
  rw[mins]
  cases CA k p.1 with
  | true=>exact Abq _
  | false=>exact((PH k v r).cons p).trans (List.Perm.swap _ _ _)
def K4 (x:T):List T→List (List T)
 | []=>[[x]]
 | y::r=>(x::y::r)::(K4 x r).map (y::·)
def P5:List T→List (List T)
 | []=>[[]]
 | x::r=>(P5 r).flatMap (K4 x)
theorem MU (x:T):∀(a b:List T),a++x::b∈K4 x (a++b)
 | [],[]=>by simp[K4]
 | [],y::b=>by simp[K4]
 | y::a,b=>by
  simp only[Ach,K4,Acn,List.mem_map];exact .inr ⟨_,MU x a b,rfl⟩
theorem PJ:∀(xs ys:List T),ys.Perm xs→ys∈P5 xs
 | [],ys,h=>by rw[h.eq_nil];simp[P5]
 | x::r,ys,h=>by
  have hx:x∈ys:=h.symm.subset (List.mem_cons_self ..);obtain⟨a,b,rfl⟩:=List.append_of_mem hx;have h2:(a++b).Perm r:=(List.perm_middle.symm.trans h).cons_inv;simp only[P5,List.mem_flatMap];exact⟨a++b,PJ r _ h2,MU x a b⟩
def WZ {R:Type}[DecidableEq R](xs:List T)(K:List T→Option R):Option R:=match K xs with
 | none=>none
 | some r=>bif (P5 xs).all (λp=>decide (K p=some r)) then some r else none
theorem Ti {R:Type}[DecidableEq R]{xs:List T}{K:List T→Option R}{r:R}(h:WZ xs K=some r):∀p:List T,p.Perm xs→K p=some r:=λp hp=>by
 unfold WZ at h
 cases hk:K xs with
 | none=>rw[hk] at h;cases h
 | some q=>
  rw[hk] at h;simp only at h
  cases ha:(P5 xs).all (λp=>decide (K p=some q)) with
  | false=>rw[ha] at h;cases h
  | true=>
   rw[ha] at h;cases h;exact AbK (List.all_eq_true.1 ha p (PJ xs p hp))
def Tj {St O:Type}(body:T→St→Option (Stp St (Out O St))):List T→St→Option (Out O St)
 | [],s=>some (.go s)
 | x::r,s=>match body x s with
  | none=>none
  | some (.next s')=>Tj body r s'
  | some (.out o)=>some o
def AaH {St R:Type}(body:T→St→Option (Stp St (Out R St)))(ys:List T)(K:St→Option R)(r:R):Stp St (Out R St)→Prop
 | .next s'=>∀q:List T,q.Perm ys→B3 (Tj body q s') (BS K)=some r
 | .out o=>BS K o=some r
theorem Xh {St R:Type}{body:T→St→Option (Stp St (Out R St))}{ys ys':List T}{p:T}{s:St}{K:St→Option R}{r:R}(h:∀q:List T,q.Perm ys→B3 (Tj body q s) (BS K)=some r)(hp:ys.Perm (p::ys')):∃t,body p s=some t∧AaH body ys' K r t:=by
 have h1:∀q:List T,q.Perm ys'→B3 (Tj body (p::q) s) (BS K)=some r:=λq hq=>h _ ((hq.cons p).trans hp.symm)
 cases hb:body p s with
 | none=>
  have:=h1 ys' (Abq _);rw[Tj,hb] at this;cases this
 | some t=>
  refine⟨t,rfl,?_⟩
  cases t with
  | next s'=>
   intro q hq;have:=h1 q hq;rw[Tj,hb] at this;exact this
  | out o=>
   have:=h1 ys' (Abq _);rw[Tj,hb] at this;exact this
theorem QD {St R:Type}{body:T→St→Option (Stp St (Out R St))}{ys:List T}{s:St}{K:St→Option R}{r:R}(h:∀q:List T,q.Perm ys→B3 (Tj body q s) (BS K)=some r)(hy:ys=[]):K s=some r:=by
 subst hy;exact h [] (Abq _)
theorem M0 {St R:Type}{body:T→St→Option (Stp St (Out R St))}{ys:List T}{s':St}{K:St→Option R}{r:R}{t:Stp St (Out R St)}(h:some (Stp.next s')=some t)(ht:AaH body ys K r t):∀q:List T,q.Perm ys→B3 (Tj body q s') (BS K)=some r:=by cases h;exact ht
theorem Qy {ys ys':List T}{p:T}(h:ys.Perm (p::ys')):ys'.length<ys.length:=by rw[h.length_eq];exact Aby _
end
structure Ar where
 fKind:Int
 fKey:Al
 fValue:(List Ac)
 fDelay:Int
 deriving DecidableEq,Inhabited
structure A3 where
 fID:Al
 fTenant:Al
 fCause:Al
 fAt:Int
 fEffect:Ar
 deriving DecidableEq,Inhabited
structure AS where
 fEvent:Al
 fTenant:Al
 fAttempt:Int
 fResult:(List Ac)
 fEffects:(List Ar)
 fAt:Int
 deriving DecidableEq,Inhabited
def Jk (ys:(List Ac)):Option ((List Ac)):=
 Ba (CX 40 (([]:List Ac).length+ys.length))<|some (([]:List Ac)++ys)
def BR (n:Int):Option (Bool):=
 some ((decide (0≤n))&&(decide (n≤1073741824)))
def EO (k:Int):Option (Bool):=
 some ((decide (k=3))||((decide (k=4))||(decide (k=5))))
def Q5 (x:Ar):Option (Bool):=
 B2 (((decide (x.fKind=3))||(decide (x.fKind=4)))) (some (Dx x.fKey)) (some (HR x.fKey))
def CS (v:(List Ac)):Option (Bool):=
 Ba (imp (decide (1<(v.length:Int))) (CP 0 (v.length:Int)))<|Ba (imp (decide (1<(v.length:Int))) (imp (decide (((Ap v 0).fKind)=5)) (CP 1 (v.length:Int))))<|some ((decide (1<(v.length:Int)))&&((decide (((Ap v 0).fKind)=5))&&(decide (((Ap v 1).fKind)=4))))
def Kw (F:Nat)(event:Al)(x:Ar)(i:Int):Option (Int):=
 B2 (((decide (x.fKind<1))||(decide (5<x.fKind)))) (some 7) (B3 (Q5 x) λr6=>B2 (!r6) (some 4) (B2 (decide (x.fKind=2)) (B2 (decide (0<(x.fValue.length:Int))) (some 7) (Ba (imp (decide (x.fKind=5)) ((CS x.fValue).isSome))<|B2 (((decide (x.fKind=5))&&(!(ov (CS x.fValue))))) (some 7) (Ba (imp (!decide (x.fKind=4)) (imp (!(!decide (x.fDelay=0))) ((BR x.fDelay).isSome)))<|Ba (imp (!(!decide (x.fKind=4))) ((BR x.fDelay).isSome))<|B2 ((bif !decide (x.fKind=4) then((!decide (x.fDelay=0))||(!(ov (BR x.fDelay)))) else !(ov (BR x.fDelay)))) (some 2) (B3 (EO x.fKind) λhb=>B2 (hb) (Ba (CX 1 event.length)<|Ba (BF .i64 i)<|some (Cg event i)) (some 0))))) (B3 (IG F x.fValue) λha=>B2 (!decide (ha=0)) (some ha) (Ba (imp (decide (x.fKind=5)) ((CS x.fValue).isSome))<|B2 (((decide (x.fKind=5))&&(!(ov (CS x.fValue))))) (some 7) (Ba (imp (!decide (x.fKind=4)) (imp (!(!decide (x.fDelay=0))) ((BR x.fDelay).isSome)))<|Ba (imp (!(!decide (x.fKind=4))) ((BR x.fDelay).isSome))<|B2 ((bif !decide (x.fKind=4) then((!decide (x.fDelay=0))||(!(ov (BR x.fDelay)))) else !(ov (BR x.fDelay)))) (some 2) (B3 (EO x.fKind) λhd=>B2 (hd) (Ba (CX 1 event.length)<|Ba (BF .i64 i)<|some (Cg event i)) (some 0)))))))
def EQ (F:Nat)(c:AS)(ha:Int):Option (Stp (Int) (Out (Int) (Unit))):=
 B2 (decide (ha<(c.fEffects.length:Int))) (Ba (CP ha (c.fEffects.length:Int))<|B3 (Kw F c.fEvent (Ap c.fEffects ha) ha) λhb=>B2 (!decide (hb=0)) (some (.out (.ret hb))) (Ba (BF .i64 (ha+1))<|some (.next (ha+1)))) (some (.out (.go ())))
def I1 :Option (Int):=
 some 0
def Gw (F:Nat)(c:AS):Option (Int):=
 B2 (((!(HR c.fEvent))||(!(Dx c.fTenant)))) (some 4) (Ba (imp (!(decide (c.fAttempt<1))) (imp (!(decide (1073741824<c.fAttempt))) ((BR c.fAt).isSome)))<|B2 (((decide (c.fAttempt<1))||((decide (1073741824<c.fAttempt))||(!(ov (BR c.fAt)))))) (some 2) (B3 (IG F c.fResult) λha=>B2 (!decide (ha=0)) (some ha) (B2 (decide (32<(c.fEffects.length:Int))) (some 3) (B3 (Ci (λσ=>EQ F c σ) F 0) (BS λν=>I1 )))))
def WM (x:Ar):Option (Ar):=
 B3 (Jk x.fValue) λr3=>some (Ar.mk x.fKind x.fKey r3 x.fDelay)
def MS (F:Nat)(v:(List Ac)):Option (Al):=
 B3 (L4 F v) λr1=>some r1.1
def G9 (F:Nat)(records:(List (List Al)))(hb:(List Al))(ha:Int):Option (Stp ((List Al)×Int) (Out (Al×Int) ((List Al)))):=
 B2 (decide (ha<(records.length:Int))) (Ba (CP ha (records.length:Int))<|B3 (Sj F (Ap records ha)) λhd=>B2 (!decide (hd.2=0)) (some (.out (.ret (([]:Al),3)))) (Ba (CX 16 (hb.length+([hd.1]:List Al).length))<|Ba (BF .i64 (ha+1))<|some (.next (hb++([hd.1]:List Al),ha+1)))) (some (.out (.go hb)))
def Hv (F:Nat)(hb:(List Al)):Option (Al×Int):=
 B3 (Sk F hb) λha=>B2 (!decide (ha.2=0)) (some (([]:Al),3)) (some (ha.1,0))
def Ov (F:Nat)(records:(List (List Al))):Option (Al×Int):=
 B3 (Ci (λσ=>G9 F records σ.1 σ.2) F (([]:List Al),0)) (BS λν=>Hv F ν)
def Eo (F:Nat)(c:AS)(hb:(List (List Al)))(ha:Int):Option (Stp ((List (List Al))×Int) (Out (Al×Int) ((List (List Al))))):=
 B2 (decide (ha<(c.fEffects.length:Int))) (Ba (CP ha (c.fEffects.length:Int))<|Ba (BF .i64 ((Ap c.fEffects ha).fKind))<|Ba (BF .i64 ((Ap c.fEffects ha).fDelay))<|B3 (MS F ((Ap c.fEffects ha).fValue)) λhd=>Ba (CX 24 (hb.length+([([Lib.itoa ((Ap c.fEffects ha).fKind),(Ap c.fEffects ha).fKey,Lib.itoa ((Ap c.fEffects ha).fDelay),hd]:List Al)]:List (List Al)).length))<|Ba (BF .i64 (ha+1))<|some (.next (hb++([([Lib.itoa ((Ap c.fEffects ha).fKind),(Ap c.fEffects ha).fKey,Lib.itoa ((Ap c.fEffects ha).fDelay),hd]:List Al)]:List (List Al)),ha+1))) (some (.out (.go hb)))
def EG (F:Nat)(hb:(List (List Al))):Option (Al×Int):=
 B3 (Ov F hb) λha=>some (ha.1,ha.2)
def IR (F:Nat)(c:AS):Option (Al×Int):=
 B3 (Gw F c) λr2=>B2 (!decide (r2=0)) (some (([]:Al),r2)) (Ba (BF .i64 c.fAttempt)<|Ba (BF .i64 c.fAt)<|B3 (MS F c.fResult) λha=>B3 (Ci (λσ=>Eo F c σ.1 σ.2) F (([([([99,111,109,109,105,116]:Al),c.fEvent,c.fTenant,Lib.itoa c.fAttempt,Lib.itoa c.fAt,ha]:List Al)]:List (List Al)),0)) (BS λν=>EG F ν))
def EH (F:Nat)(id:Al):Option (Al×Int):=
 B2 (!(HR id)) (some (([]:Al),4)) (B3 (Ov F ([([([97,99,107]:Al),id]:List Al)]:List (List Al))) λr6=>some (r6.1,r6.2))
def Gu (ha:Int)(hb:Al)(hd:Al)(he:Int)(hf:(List Ac))(hg:(List Ar))(hh:Int):Option (Stp (Int×Al×Al×Int×(List Ac)×(List Ar)×Int) (Out (AS×Bool) (Al×Al×Int×(List Ac)×(List Ar)×Int))):=
 Ba (BF .i64 (ha+1))<|some (.next (ha+1,hb,hd,he,hf,hg,hh))
def IT (F:Nat)(l:(List (List Al)))(ha:Int)(hd:Al)(he:Al)(hf:Int)(hg:(List Ac))(hb:(List Ar))(hh:Int):Option (Stp (Int×Al×Al×Int×(List Ac)×(List Ar)×Int) (Out (AS×Bool) (Al×Al×Int×(List Ac)×(List Ar)×Int))):=
 B2 (decide (ha<(l.length:Int))) (Ba (CP ha (l.length:Int))<|B2 (((decide (ha=0))&&(decide (((Ap l ha).length:Int)=6)))) (Ba (CP 1 ((Ap l ha).length:Int))<|Ba (CP 2 ((Ap l ha).length:Int))<|Ba (CP 3 ((Ap l ha).length:Int))<|Ba (CX 1 (Ap (Ap l ha) 3).length)<|Ba (CP 4 ((Ap l ha).length:Int))<|Ba (CX 1 (Ap (Ap l ha) 4).length)<|Ba (CP 5 ((Ap l ha).length:Int))<|B3 (Ns F (Ap (Ap l ha) 5)) λhi=>B2 (((!decide ((C2 (Ap (Ap l ha) 3))=0))||((!decide ((C2 (Ap (Ap l ha) 4))=0))||(!decide (hi.2=0))))) (some (.out (.ret ((AS.mk (Ap (Ap l ha) 1) (Ap (Ap l ha) 2) (AX (Ap (Ap l ha) 3)) hi.1 hb (AX (Ap (Ap l ha) 4))),false)))) (Gu ha (Ap (Ap l ha) 1) (Ap (Ap l ha) 2) (AX (Ap (Ap l ha) 3)) hi.1 hb (AX (Ap (Ap l ha) 4)))) (B2 (((decide (0<ha))&&(decide (((Ap l ha).length:Int)=4)))) (Ba (CP 0 ((Ap l ha).length:Int))<|Ba (CX 1 (Ap (Ap l ha) 0).length)<|B2 (!decide ((C2 (Ap (Ap l ha) 0))=0)) (some (.out (.ret ((AS.mk hd he hf hg hb hh),false)))) (Ba (CP 1 ((Ap l ha).length:Int))<|Ba (CP 2 ((Ap l ha).length:Int))<|Ba (CX 1 (Ap (Ap l ha) 2).length)<|B2 (!decide ((C2 (Ap (Ap l ha) 2))=0)) (some (.out (.ret ((AS.mk hd he hf hg hb hh),false)))) (Ba (CP 3 ((Ap l ha).length:Int))<|B2 (!decide ((Ap (Ap l ha) 3)=([]:Al))) (B3 (Ns F (Ap (Ap l ha) 3)) λhj=>B2 (!decide (hj.2=0)) (some (.out (.ret ((AS.mk hd he hf hg hb hh),false)))) (Ba (CX 56 (hb.length+([(Ar.mk (AX (Ap (Ap l ha) 0)) (Ap (Ap l ha) 1) hj.1 (AX (Ap (Ap l ha) 2)))]:List Ar).length))<|Gu ha hd he hf hg (hb++([(Ar.mk (AX (Ap (Ap l ha) 0)) (Ap (Ap l ha) 1) hj.1 (AX (Ap (Ap l ha) 2)))]:List Ar)) hh)) (Ba (CX 56 (hb.length+([(Ar.mk (AX (Ap (Ap l ha) 0)) (Ap (Ap l ha) 1) ([]:List Ac) (AX (Ap (Ap l ha) 2)))]:List Ar).length))<|Gu ha hd he hf hg (hb++([(Ar.mk (AX (Ap (Ap l ha) 0)) (Ap (Ap l ha) 1) ([]:List Ac) (AX (Ap (Ap l ha) 2)))]:List Ar)) hh)))) (some (.out (.ret ((AS.mk hd he hf hg hb hh),false)))))) (some (.out (.go (hd,he,hf,hg,hb,hh))))
def IS (ha:Al)(hb:Al)(hd:Int)(he:(List Ac))(hf:(List Ar))(hg:Int):Option (AS×Bool):=
 some ((AS.mk ha hb hd he hf hg),true)
def Q8 (F:Nat)(l:(List (List Al))):Option (AS×Bool):=
 B3 (Ci (λσ=>IT F l σ.1 σ.2.1 σ.2.2.1 σ.2.2.2.1 σ.2.2.2.2.1 σ.2.2.2.2.2.1 σ.2.2.2.2.2.2) F (0,([]:Al),([]:Al),0,([]:List Ac),([]:List Ar),0)) (BS λν=>IS ν.1 ν.2.1 ν.2.2.1 ν.2.2.2.1 ν.2.2.2.2.1 ν.2.2.2.2.2)
end Go.Proofs.YtfobhhegpkinaaaGreatDoor
namespace Go.Proofs.YtfobhhegpkinaaaGreatDoor.Q
open Go Go.RowKit
set_option linter.unusedVariables false
section
variable {P : Program} {n : Nat} {c : Cx} {l : Fr} {H : List Ent} {d : Option Nat} {ty rty t e : TypeId} {pos : String} {af : Array Edge} {g : Option (Nat × Bool)} {x : Operand} {sz : Nat}
end
end Go.Proofs.YtfobhhegpkinaaaGreatDoor.Q
