/-
  Texts of the proof, put together: WVc, PVd, WVd, PVe, WVe, PVf, WVf, PM, PH, PHa, QH, QY, Q7, QU, QT, QN, QM, QI, QW, QV, QJ, QX, QL, PI, QF, Q6, Q9, Qg, WHa, PHb, WHb, PHc, Qw, Qv, QK.
-/
import Derived.Test.YtmjlemhondjfhaaGreatDoorHC2
import Derived.Laws.StructEq
import GoSem.Op.IntBits
import GoSem.Op.Shift
import Derived.Laws.Cover3
import Derived.MapKept
import Derived.Maps.RangeRun
import Derived.ScopeJumps
import Derived.Laws.CopyRow
import Derived.Laws.IdiomCopy
import Derived.Laws.OwnMore
import Derived.Laws.IdiomStrings
import Derived.Sort.KeysCollected
namespace Go.Proofs.YtmjlemhondjfhaaGreatDoor.Q
open Go Go.RowKit
set_option linter.unusedVariables false
set_option linter.unusedSimpArgs false
set_option maxRecDepth 100000
set_option maxHeartbeats 4000000
theorem PE (F:Nat)(hb:Nat)(hk:Value)(l:Ah)(s:Ah)(r:Ah)(h:Ml F l s=some r):Fn Tryz.prog GE 164 [rP hb 0,rS s] [.bld 177 5 hb hk l] (λR H=>∃w0b:Value,R=rv (.tuple #[])∧H=[.bld 177 5 hb w0b r]):=by
 refine enter (n:=32) Tryz.func164 Aa Tryz.ntmps164 Aa (λw Z=>?_);unfold Ml at h;refine Ae (wm Aa (ck h λg1 h2=>ck h2 λg3 h4=>C6 (rs:=[rP hb 0,rI .u8 34]) (Hin:=[.bld 177 5 hb hk l]) (Hr:=[]) Jq Aa (Afl _) (CF hb hk l 34 g1 g3) Aa ?_));rintro _ _ ⟨v5,rfl,rfl⟩;refine bd h4 λr6 e8 h7=>?_;rw[← e8];refine An (Al (Ae (wm Aa (wv (BO Dx Aa) (wv (r:=A2 0) (Ak Aa) (An (AF (ob h7 λhs ht hu=>B2 (S:=Nat×(Int×Ah)×(Value)) (V:=(Ah)×(Value)) 0 (λσ=>Cj (λσ=>Ec s σ.1 σ.2) σ.1 σ.2.1=some hs) (λσ=>[(0,rP hb 0),(1,rS s),(8,A2 (s.length:Int)),(9,A2 σ.2.1.1)]) (λσ=>[.bld 177 5 hb σ.2.2 σ.2.1.2]) (λσ=>σ.1) (F,(0,r6),v5) ht (AM.c Aa (AM.c Aa (AM.c Aa (AM.c Aa AM.nil)))) (sC sN) (λσ=>GJ σ.1=some r) (λσ=>[(0,rP hb 0)]) (λσ=>[.bld 177 5 hb σ.2 σ.1]) ?_ ?_))))))))
 ·rintro⟨gh,⟨he,hf⟩,hg⟩ hw;refine GZ ?_;obtain⟨hn,rfl,t127,hh,hl⟩:=Cu hw;replace hh:Ec s he hf=some t127:=hh;unfold Ec at hh;refine Ae (wv (C1 Aa Aa) (An (Al (cz hh Aa (λhx hy=>?_) (λhx hz=>?_)))))
  ·refine Ax (AS (Al (AF (Ae (wm Aa (wa Aa (An (Al (ck hy λhi h0=>AC [(0,rP hb 0),(1,rS s),(4,A2 he),(8,A2 (s.length:Int)),(9,A2 he),(21,rB ((decide ((Cs s he)=34))||(decide ((Cs s he)=92))))] [.bld 177 5 hb hg hf] ?_ ?_)))))))))
   ·refine Aj (wm Aa (wm Aa (wv (BR Dx Aa Aa hi) (wv (BI Aa Aa) (wm Aa (AU (decide ((Cs s he)=34)) (λhd=>?_) (λhd=>?_)))))))
    ·refine wf hd (wf hd (wf hd (wf hd (wv (r:=rB true) (AB Aa hd Aa) (Am ?_)))));exact Cd hd
    refine wo hd (wm Aa (wo hd (wm Aa (wo hd (wv (BR Dx Aa Aa hi) (wo hd (wv (BI Aa Aa) (II Aa hd Aa (Am ?_)))))))));exact Cd hd
   refine cz h0 Aa (λh1 h3=>?_) (λh1 h5=>?_)
   ·refine Aj (wm Aa (ck h3 λh6 h8=>ck h8 λh9 hA=>C6 (rs:=[rP hb 0,rI .u8 92]) (Hin:=[.bld 177 5 hb hg hf]) (Hr:=[]) Jq Aa (Afl _) (CF hb hg hf 92 h6 h9) Aa ?_));rintro _ _ ⟨hp,rfl,rfl⟩;refine bd hA λhq hB hC=>?_;rw[← hB];refine An (Aj (wm Aa (wm Aa (wm Aa (wv (BR Dx Aa Aa hi) (ck hC λhD hE=>ck hE λhG hH=>C6 (rs:=[rP hb 0,rI .u8 (Cs s he)]) (Hin:=[.bld 177 5 hb hp hq]) (Hr:=[]) Jq Aa (Afl _) (CF hb hp hq (Cs s he) hD hG) Aa ?_))))));rintro _ _ ⟨hI,rfl,rfl⟩;refine bd hH λhJ hK hL=>?_;rw[← hK];refine Am (AH (AS (Aj (ck hL λhN hO=>wv (BA Aa Aa hN) (wm Aa (Am ?_))))));have hP:=Bw hO hl;exact A4 (AK (hn,(he+1,hJ),hI) ⟨hP,Afh _⟩ (AM.c Aa (AM.c Aa (AM.c Aa (AM.c Aa AM.nil)))) (sC sN))
   refine Ax (AS (Aj (wm Aa (wm Aa (wm Aa (wv (BR Dx Aa Aa hi) (ck h5 λhQ hR=>ck hR λhS hT=>C6 (rs:=[rP hb 0,rI .u8 (Cs s he)]) (Hin:=[.bld 177 5 hb hg hf]) (Hr:=[]) Jq Aa (Afl _) (CF hb hg hf (Cs s he) hQ hS) Aa ?_)))))));rintro _ _ ⟨hU,rfl,rfl⟩;refine bd hT λhV hW hX=>?_;rw[← hW];refine Am (AH (AS (Aj (ck hX λhY hZ=>wv (BA Aa Aa hY) (wm Aa (Am ?_))))));have ga:=Bw hZ hl;exact A4 (AK (hn,(he+1,hV),hU) ⟨ga,Afh _⟩ (AM.c Aa (AM.c Aa (AM.c Aa (AM.c Aa AM.nil)))) (sC sN))
  refine B4 (Ay ?_);have gb:=BP hz hl hu;exact Ay (Bn (AK (hf,hg) gb (AM.c Aa AM.nil) (sC sN)))
 rintro⟨hm,hr⟩ hj;refine HE ?_;replace hj:GJ hm=some r:=hj;unfold GJ at hj;refine Bm (AS (Aj (wm Aa (ck hj λgc gd=>C6 (rs:=[rP hb 0,rI .u8 34]) (Hin:=[.bld 177 5 hb hr hm]) (Hr:=[]) Jq Aa (Afl _) (CF hb hr hm 34 gc g3) Aa ?_))));rintro _ _ ⟨ge,rfl,rfl⟩;refine bd gd λgi gf gg=>?_;rw[← gf];refine Am ?_;obtain rfl:=As gg;exact Is (XI Tryz.results164) (sC sN) ⟨ge,Aa,Aa⟩
theorem X0 (F:Nat)(hm:Ah→(List Ab)→Bool→Ah→Ab→Option (Bool×Bool×Ah))(hn:(List Ab)→Bool→Ah→Ab→Option (Bool×Ah))(g9:(∀(he:Nat) (hf:Nat) (hb:Nat) (hd:Value) (hg:Nat) (key:Ah) (x:(List Ab)) (first:Bool) (l:Ah) (c:Ab) (r:Bool×Bool×Ah),hm key x first l c=some r→Fn Tryz.prog GE 167 [rS key,AJ 4 (A3 Af x),rP he 0,rP hf 0,rP hg 0] [.blk he [rB first] 4,.blk hf [rP hb 0] 174,.bld 177 5 hb hd l,.blk hg (Af c) 70] (λR H=>∃w3b:Value,R=rB r.1∧H=[.blk he [rB r.2.1] 4,.blk hf [rP hb 0] 174,.bld 177 5 hb w3b r.2.2,.blk hg (Af c) 70])))(hp:(∀(he:Nat) (hf:Nat) (hb:Nat) (hd:Value) (hg:Nat) (v:(List Ab)) (first:Bool) (l:Ah) (c:Ab) (r:Bool×Ah),hn v first l c=some r→Fn Tryz.prog GE 166 [AJ 4 (A3 Af v),rv (.func (.func 167) #[] #[(.pointer (some ⟨he,0,none⟩)),(.pointer (some ⟨hf,0,none⟩)),(.pointer (some ⟨hg,0,none⟩))])] [.blk he [rB first] 4,.blk hf [rP hb 0] 174,.bld 177 5 hb hd l,.blk hg (Af c) 70] (λR H=>∃w1_1b:Value,R=rv (.tuple #[])∧H=[.blk he [rB r.1] 4,.blk hf [rP hb 0] 174,.bld 177 5 hb w1_1b r.2,.blk hg (Af c) 70])))(hb:Nat)(hd:Value)(l:Ah)(v:(List Ab))(r:Ah)(h:Ly F hm hn l v=some r):Fn Tryz.prog GE 119 [rP hb 0,AJ 4 (A3 Af v)] [.bld 177 5 hb hd l] (λR H=>∃w0b:Value,R=rv (.tuple #[])∧H=[.bld 177 5 hb w0b r]):=by
 refine enter (n:=52) Tryz.func119 Aa Tryz.ntmps119 Aa (λw Z=>?_);unfold Ly at h;refine Ae (PA Aa (BT Aa) Aa (λb1=>?_));refine Bv (wm Aa (ck h λg2 h3=>wv (Bj (enc:=Af) (ys:=v) CX Di Aa Aa g2) (wv (C9 P7 Di Aa Aa Aa) (BK (cs:=[A2 0,A2 0,rS ([]:Ah),A2 0]) P0 Aa Aa (λb4=>?_)))));refine Gy (i:=0) Di Aa Aa Aa (B6.c Aa) Aa Aa ?_;refine Bv (vF BH Aa EA (vL 0 EB Aa (An (AF (Ae (wv (BI Aa Aa) (wa Aa (An (cz h3 Aa (λc5 h6=>?_) (λc5 hq=>?_))))))))))
 ·refine Aj (vL 1 GI Aa (ck h6 λg7 h8=>C6 (rs:=[rP hb 0,rS ([110,117,108,108]:Ah)]) (Hin:=[.bld 177 5 hb hd l]) (Hr:=[.blk b4 (Af (Ao v 0)) 70,.blk b1 [rP hb 0] 174]) Tryz.call162 Aa ((AW (i:=2) Aa).trans (Afj _ (Afl _))) (Hy hb hd l ([110,117,108,108]:Ah) g7) Aa ?_));rintro _ _ ⟨v9,rfl,rfl⟩;refine bd h8 λgA hr hs=>?_;rw[← hr];refine Am (AH ?_);obtain rfl:=As hs;exact Is (XI Rl) (sC (sS (sS sN))) ⟨v9,Aa,Aa⟩
 refine Ae (wv (BI Aa Aa) (wa Aa (An (cz hq Aa (λht hu=>?_) (λht hw=>?_)))))
 ·refine ck hu λg16 hx=>E4 (H1:=[.blk b4 (Af (Ao v 0)) 70,.blk b1 [rP hb 0] 174,.bld 177 5 hb hd l]) 6 [2,4] [⟨[],rP hb 0,1⟩,⟨[],AJ 1 (A3 eS ([([102,97,108,115,101]:Ah),([116,114,117,101]:Ah)]:List Ah)),0⟩,⟨[],rP b4 1,0⟩,⟨[2],A2 ((Ao v 0).fInt),1⟩,⟨[1,3],I0 [rS (Ao ([([102,97,108,115,101]:Ah),([116,114,117,101]:Ah)]:List Ah) ((Ao v 0).fInt))],0⟩,⟨[4],rS (Ao ([([102,97,108,115,101]:Ah),([116,114,117,101]:Ah)]:List Ah) ((Ao v 0).fInt)),0⟩] (rle [(7,_)]) [32,33,34,35,36,37,2,4] ?_ ?_
  ·refine of (Bc (i:=1) GI Aa Aa Aa) (J8 Aa (λH=>DR (ys:=([([102,97,108,115,101]:Ah),([116,114,117,101]:Ah)]:List Ah)) (enc:=eS) (css:=[[rS ([102,97,108,115,101]:Ah)],[rS ([116,114,117,101]:Ah)]]) (xs:=[.const (.string ⟨#[102,97,108,115,101]⟩),.const (.string ⟨#[116,114,117,101]⟩)]) CQ CC Y7 Aa Aa Aa ⟨Gl.one Aa (Up.refl _),Gl.one Aa (Up.refl _),trivial⟩ Aa Eg Aa Aa) ?_);refine oq (Aq BH Aa Dj Aa Aa) (of (Bc (i:=0) DQ Aa Aa Aa) (oq (Bj (enc:=eS) (ys:=([([102,97,108,115,101]:Ah),([116,114,117,101]:Ah)]:List Ah)) CQ CC Aa Aa g16) (oq (AV Dp Aa Aa) ?_)));exact D3
  refine ck hx λg18 hy=>C6 (rs:=[rP hb 0,rS (Ao ([([102,97,108,115,101]:Ah),([116,114,117,101]:Ah)]:List Ah) ((Ao v 0).fInt))]) (Hin:=[.bld 177 5 hb hd l]) (Hr:=[.blk b4 (Af (Ao v 0)) 70,.blk b1 [rP hb 0] 174]) Tryz.call162 Aa ((AW (i:=2) Aa).trans (Afj _ (Afl _))) (Hy hb hd l (Ao ([([102,97,108,115,101]:Ah),([116,114,117,101]:Ah)]:List Ah) ((Ao v 0).fInt)) g18) Aa ?_;rintro _ _ ⟨v20,rfl,rfl⟩;refine bd hy λgB hz h0=>?_;rw[← hz];refine Am (AH ?_);obtain rfl:=As h0;exact Is (XI Rl) (sC (sS (sS sN))) ⟨v20,Aa,Aa⟩
 refine Ae (wv (BI Aa Aa) (wa Aa (An (cz hw Aa (λh1 h2=>?_) (λh1 h4=>?_)))))
 ·refine ck h2 λh5 h7=>E4 (H1:=[.blk b4 (Af (Ao v 0)) 70,.blk b1 [rP hb 0] 174,.bld 177 5 hb hd l]) 4 [2,4] [⟨[],rP hb 0,1⟩,⟨[],rP b4 1,0⟩,⟨[1],A2 ((Ao v 0).fInt),1⟩,⟨[2],rS (Lib.itoa ((Ao v 0).fInt)),0⟩] (rle [(5,_)]) [41,42,43,44,2,4] ?_ ?_
  ·refine of (Bc (i:=1) GI Aa Aa Aa) (oq (Aq BH Aa Dj Aa Aa) (of (Bc (i:=0) DQ Aa Aa Aa) (J8 Aa (λH=>TN (rs:=[A2 ((Ao v 0).fInt)]) (r:=rS (Lib.itoa ((Ao v 0).fInt))) Tryz.call163 Aa (UD ((Ao v 0).fInt) h5) Aa) ?_)));exact D3
  refine ck h7 λh9 hA=>C6 (rs:=[rP hb 0,rS (Lib.itoa ((Ao v 0).fInt))]) (Hin:=[.bld 177 5 hb hd l]) (Hr:=[.blk b4 (Af (Ao v 0)) 70,.blk b1 [rP hb 0] 174]) Tryz.call162 Aa ((AW (i:=2) Aa).trans (Afj _ (Afl _))) (Hy hb hd l (Lib.itoa ((Ao v 0).fInt)) h9) Aa ?_;rintro _ _ ⟨v31,rfl,rfl⟩;refine bd hA λgC hB hC=>?_;rw[← hB];refine Am (AH ?_);obtain rfl:=As hC;exact Is (XI Rl) (sC (sS (sS sN))) ⟨v31,Aa,Aa⟩
 refine Ae (wv (BI Aa Aa) (wa Aa (An (cz h4 Aa (λhD hE=>?_) (λhD hG=>?_)))))
 ·refine Aj (vL 1 GI Aa (vF BH Aa CC (vL 0 Dp Aa (ob hE λhH hI hJ=>EX [2] Tryz.call164 (PE F hb hd l ((Ao v 0).fStr) hH hI) ?_))));rintro _ _ ⟨hK,rfl,rfl⟩;refine Am (AH ?_);obtain rfl:=As hJ;exact Is (XI Rl) (sC (sS (sS sN))) ⟨hK,Aa,Aa⟩
 refine Ae (wv (r:=rS ([91,93]:Ah)) (A5 Aa) (An (Al (Ae (vF BH Aa EA (vL 0 EB Aa (wv (BI Aa Aa) (An (cz hG Aa (λhL hN=>?_) (λhL hO=>?_))))))))))
 ·refine Aj (wv (r:=rS ([123,125]:Ah)) (A5 Aa) (An (Al (ck hN λhP hQ=>E4 (H1:=[.blk b4 (Af (Ao v 0)) 70,.blk b1 [rP hb 0] 174,.bld 177 5 hb hd l]) 3 [1,2,4,5] [⟨[],rP hb 0,1⟩,⟨[],rS ([123,125]:Ah),0⟩,⟨[1],rI .u8 (Cs ([123,125]:Ah) 0),0⟩] (rle [(4,_)]) [15,16,17,1,2,4,5] ?_ ?_))))
  ·refine of (Bc (i:=1) GI Aa Aa Aa) (oq (Ak Aa) (oq (BR Dx Aa Aa hP) ?_));exact D3
  refine ck hQ λhR hS=>ck hS λhT hU=>C6 (rs:=[rP hb 0,rI .u8 (Cs ([123,125]:Ah) 0)]) (Hin:=[.bld 177 5 hb hd l]) (Hr:=[.blk b4 (Af (Ao v 0)) 70,.blk b1 [rP hb 0] 174]) Jq Aa ((AW (i:=2) Aa).trans (Afj _ (Afl _))) (CF hb hd l (Cs ([123,125]:Ah) 0) hR hT) Aa ?_;rintro _ _ ⟨v51,rfl,rfl⟩;refine bd hU λhV hW hX=>?_;rw[← hW];refine Bv (BK (cs:=[rB false]) yz4 Aa Aa (λhj=>?_));refine us (i:=0) Jp Aa Aa (BT Aa) Aa Aa ?_;refine Bv (wm Aa (wv (r:=rv (.func (.func 167) #[] #[(.pointer (some ⟨hj,0,none⟩)),(.pointer (some ⟨b1,0,none⟩)),(.pointer (some ⟨b4,0,none⟩))])) (I5 Aa) (ob hX λhh hY hZ=>EX [0,2,0,0] Tryz.call166 (hp hj b1 hb v51 b4 v true hV (Ao v 0) hh hY) ?_)));rintro _ _ ⟨hl,rfl,rfl⟩;refine An (ck hZ λga gb=>E4 (H1:=[.blk hj [rB hh.1] 4,.blk b1 [rP hb 0] 174,.bld 177 5 hb hl hh.2,.blk b4 (Af (Ao v 0)) 70]) 3 [2,5] [⟨[],rP hb 0,1⟩,⟨[],rS ([123,125]:Ah),0⟩,⟨[1],rI .u8 (Cs ([123,125]:Ah) 1),0⟩] (rle [(4,_)]) [22,23,24,2,5] ?_ ?_)
  ·refine of (Bc (i:=1) GI Aa Aa Aa) (oq (Ak Aa) (oq (BR Dx Aa Aa ga) ?_));exact D3
  refine ck gb λgc gd=>ck gd λge gf=>C6 (rs:=[rP hb 0,rI .u8 (Cs ([123,125]:Ah) 1)]) (Hin:=[.bld 177 5 hb hl hh.2]) (Hr:=[.blk hj [rB hh.1] 4,.blk b1 [rP hb 0] 174,.blk b4 (Af (Ao v 0)) 70]) Jq Aa ((AW (i:=2) Aa).trans (Afj _ (Afl _))) (CF hb hl hh.2 (Cs ([123,125]:Ah) 1) gc ge) Aa ?_;rintro _ _ ⟨gg,rfl,rfl⟩;refine bd gf λgD gh gi=>?_;rw[← gh];refine Am (AH ?_);obtain rfl:=As gi;exact Is (XI Rl) (sC (sS (sS (sS sN)))) ⟨gg,Aa,Aa⟩
 refine Ax (AS (Al (ck hO λgj gl=>E4 (H1:=[.blk b4 (Af (Ao v 0)) 70,.blk b1 [rP hb 0] 174,.bld 177 5 hb hd l]) 3 [1,2,4,5] [⟨[],rP hb 0,1⟩,⟨[],rS ([91,93]:Ah),0⟩,⟨[1],rI .u8 (Cs ([91,93]:Ah) 0),0⟩] (rle [(4,_)]) [15,16,17,1,2,4,5] ?_ ?_)))
 ·refine of (Bc (i:=1) GI Aa Aa Aa) (oq (Ak Aa) (oq (BR Dx Aa Aa gj) ?_));exact D3
 refine ck gl λgm gp=>ck gp λgq gr=>C6 (rs:=[rP hb 0,rI .u8 (Cs ([91,93]:Ah) 0)]) (Hin:=[.bld 177 5 hb hd l]) (Hr:=[.blk b4 (Af (Ao v 0)) 70,.blk b1 [rP hb 0] 174]) Jq Aa ((AW (i:=2) Aa).trans (Afj _ (Afl _))) (CF hb hd l (Cs ([91,93]:Ah) 0) gm gq) Aa ?_;rintro _ _ ⟨gs,rfl,rfl⟩;refine bd gr λgt gu gv=>?_;rw[← gu];refine Bv (BK (cs:=[rB false]) yz4 Aa Aa (λhk=>?_));refine us (i:=0) Jp Aa Aa (BT Aa) Aa Aa ?_;refine Bv (wm Aa (wv (r:=rv (.func (.func 167) #[] #[(.pointer (some ⟨hk,0,none⟩)),(.pointer (some ⟨b1,0,none⟩)),(.pointer (some ⟨b4,0,none⟩))])) (I5 Aa) (ob gv λhi gw gx=>EX [0,2,0,0] Tryz.call166 (hp hk b1 hb gs b4 v true gt (Ao v 0) hi gw) ?_)));rintro _ _ ⟨v85,rfl,rfl⟩;refine An (ck gx λgy gz=>E4 (H1:=[.blk hk [rB hi.1] 4,.blk b1 [rP hb 0] 174,.bld 177 5 hb v85 hi.2,.blk b4 (Af (Ao v 0)) 70]) 3 [2,5] [⟨[],rP hb 0,1⟩,⟨[],rS ([91,93]:Ah),0⟩,⟨[1],rI .u8 (Cs ([91,93]:Ah) 1),0⟩] (rle [(4,_)]) [22,23,24,2,5] ?_ ?_)
 ·refine of (Bc (i:=1) GI Aa Aa Aa) (oq (Ak Aa) (oq (BR Dx Aa Aa gy) ?_));exact D3
 refine ck gz λg0 g1=>ck g1 λg3 g4=>C6 (rs:=[rP hb 0,rI .u8 (Cs ([91,93]:Ah) 1)]) (Hin:=[.bld 177 5 hb v85 hi.2]) (Hr:=[.blk hk [rB hi.1] 4,.blk b1 [rP hb 0] 174,.blk b4 (Af (Ao v 0)) 70]) Jq Aa ((AW (i:=2) Aa).trans (Afj _ (Afl _))) (CF hb v85 hi.2 (Cs ([91,93]:Ah) 1) g0 g3) Aa ?_;rintro _ _ ⟨g5,rfl,rfl⟩;refine bd g4 λgE g6 g8=>?_;rw[← g6];refine Am (AH ?_);obtain rfl:=As g8;exact Is (XI Rl) (sC (sS (sS (sS sN)))) ⟨g5,Aa,Aa⟩
theorem Vi (F:Nat)(hk:Ah→(List Ab)→Option (Ah))(hh:(∀(hb:Nat) (hd:Value) (l:Ah) (v:(List Ab)) (r:Ah),hk l v=some r→Fn Tryz.prog GE 119 [rP hb 0,AJ 4 (A3 Af v)] [.bld 177 5 hb hd l] (λR H=>∃w0b:Value,R=rv (.tuple #[])∧H=[.bld 177 5 hb w0b r])))(he:Nat)(hf:Nat)(hb:Nat)(hd:Value)(hg:Nat)(key:Ah)(x:(List Ab))(first:Bool)(l:Ah)(c:Ab)(r:Bool×Bool×Ah)(h:ML F hk key x first l c=some r):Fn Tryz.prog GE 167 [rS key,AJ 4 (A3 Af x),rP he 0,rP hf 0,rP hg 0] [.blk he [rB first] 4,.blk hf [rP hb 0] 174,.bld 177 5 hb hd l,.blk hg (Af c) 70] (λR H=>∃w3b:Value,R=rB r.1∧H=[.blk he [rB r.2.1] 4,.blk hf [rP hb 0] 174,.bld 177 5 hb w3b r.2.2,.blk hg (Af c) 70]):=by
 refine enter (n:=23) Tryz.func167 Aa Tryz.ntmps167 Aa (λw Z=>?_);unfold ML at h;refine Ae (wa Aa (An (Al (Ae (vL 0 Pe Aa (wv (Cc Aa) (An (cz h Aa (λc1 h2=>?_) (λc1 hn=>?_)))))))))
 ·refine Aj (vL 1 GI Aa (ck h2 λg3 h4=>ck h4 λg5 h6=>C6 (rs:=[rP hb 0,rI .u8 44]) (Hin:=[.bld 177 5 hb hd l]) (Hr:=[.blk he [rB first] 4,.blk hf [rP hb 0] 174,.blk hg (Af c) 70]) Jq Aa ((AW (i:=2) Aa).trans (Afj _ (Afl _))) (CF hb hd l 44 g3 g5) Aa ?_));rintro _ _ ⟨v7,rfl,rfl⟩;refine bd h6 λr8 hp h9=>?_;rw[← hp];refine Bv (us (i:=1) Jp Aa Aa (BT Aa) Aa Aa ?_);refine An (Al (Ae (vF BH Aa EA (vL 3 EB Aa (wv (BI Aa Aa) (An (cz h9 Aa (λhq hr=>?_) (λhq hs=>?_))))))))
  ·refine Ae (vL 2 GI Aa (wm Aa (ob hr λhi ht hu=>EX [0] Tryz.call164 (PE F hb v7 r8 key hi ht) ?_)));rintro _ _ ⟨hl,rfl,rfl⟩;refine An (Aj (vL 2 GI Aa (ck hu λg17 hw=>ck hw λg19 hx=>C6 (rs:=[rP hb 0,rI .u8 58]) (Hin:=[.bld 177 5 hb hl hi]) (Hr:=[.blk he [rB false] 4,.blk hf [rP hb 0] 174,.blk hg (Af c) 70]) Jq Aa (Afl _) (CF hb hl hi 58 g17 g19) Aa ?_)));rintro _ _ ⟨v21,rfl,rfl⟩;refine bd hx λhy hz h0=>?_;rw[← hz];refine Bv (vL 2 GI Aa (wm Aa (ob h0 λh1 h3 h5=>EX [0] To (hh hb v21 hy x h1 h3) ?_)));rintro _ _ ⟨h7,rfl,rfl⟩;refine Bv (wa Aa (An (Ap (Js [1,1] ?_))));obtain rfl:=As h5;exact Ar (BE We (AO Aa)) (sC (sC (sC (sC sN)))) ⟨h7,Aa,Aa⟩
  refine Ax (AS (Ae (vL 2 GI Aa (wm Aa (ob hs λh8 hA hB=>EX [0] To (hh hb v7 r8 x h8 hA) ?_)))));rintro _ _ ⟨hC,rfl,rfl⟩;refine Bv (wa Aa (An (Ap (Js [1,1] ?_))));obtain rfl:=As hB;exact Ar (BE We (AO Aa)) (sC (sC (sC (sC sN)))) ⟨hC,Aa,Aa⟩
 refine Ax (AS (Ae (us (i:=0) Jp Aa Aa (BT Aa) Aa Aa ?_)));refine An (Al (Ae (vF BH Aa EA (vL 3 EB Aa (wv (BI Aa Aa) (An (cz hn Aa (λhD hE=>?_) (λhD hG=>?_))))))))
 ·refine Ae (vL 1 GI Aa (wm Aa (ob hE λhj hH hI=>EX [2] Tryz.call164 (PE F hb hd l key hj hH) ?_)));rintro _ _ ⟨hm,rfl,rfl⟩;refine An (Aj (vL 2 GI Aa (ck hI λhJ hK=>ck hK λhL hN=>C6 (rs:=[rP hb 0,rI .u8 58]) (Hin:=[.bld 177 5 hb hm hj]) (Hr:=[.blk he [rB false] 4,.blk hf [rP hb 0] 174,.blk hg (Af c) 70]) Jq Aa (Afl _) (CF hb hm hj 58 hJ hL) Aa ?_)));rintro _ _ ⟨hO,rfl,rfl⟩;refine bd hN λhP hQ hR=>?_;rw[← hQ];refine Bv (vL 2 GI Aa (wm Aa (ob hR λhS hT hU=>EX [0] To (hh hb hO hP x hS hT) ?_)));rintro _ _ ⟨hV,rfl,rfl⟩;refine Bv (wa Aa (An (Ap (Js [1,1] ?_))));obtain rfl:=As hU;exact Ar (BE We (AO Aa)) (sC (sC (sC (sC sN)))) ⟨hV,Aa,Aa⟩
 refine Ax (AS (Ae (vL 1 GI Aa (wm Aa (ob hG λhW hX hY=>EX [2] To (hh hb hd l x hW hX) ?_)))));rintro _ _ ⟨hZ,rfl,rfl⟩;refine Bv (wa Aa (An (Ap (Js [1,1] ?_))));obtain rfl:=As hY;exact Ar (BE We (AO Aa)) (sC (sC (sC (sC sN)))) ⟨hZ,Aa,Aa⟩
theorem Vh (F:Nat)(hn:Ah→(List Ab)→Bool→Ah→Ab→Option (Bool×Bool×Ah))(hz:(∀(he:Nat) (hf:Nat) (hd:Nat) (hp:Value) (hg:Nat) (key:Ah) (x:(List Ab)) (first:Bool) (l:Ah) (c:Ab) (r:Bool×Bool×Ah),hn key x first l c=some r→Fn Tryz.prog GE 167 [rS key,AJ 4 (A3 Af x),rP he 0,rP hf 0,rP hg 0] [.blk he [rB first] 4,.blk hf [rP hd 0] 174,.bld 177 5 hd hp l,.blk hg (Af c) 70] (λR H=>∃w3b:Value,R=rB r.1∧H=[.blk he [rB r.2.1] 4,.blk hf [rP hd 0] 174,.bld 177 5 hd w3b r.2.2,.blk hg (Af c) 70])))(he:Nat)(hf:Nat)(hd:Nat)(hp:Value)(hg:Nat)(v:(List Ab))(first:Bool)(l:Ah)(c:Ab)(r:Bool×Ah)(h:Jt F hn v first l c=some r):Fn Tryz.prog GE 166 [AJ 4 (A3 Af v),rv (.func (.func 167) #[] #[(.pointer (some ⟨he,0,none⟩)),(.pointer (some ⟨hf,0,none⟩)),(.pointer (some ⟨hg,0,none⟩))])] [.blk he [rB first] 4,.blk hf [rP hd 0] 174,.bld 177 5 hd hp l,.blk hg (Af c) 70] (λR H=>∃w1_1b:Value,R=rv (.tuple #[])∧H=[.blk he [rB r.1] 4,.blk hf [rP hd 0] 174,.bld 177 5 hd w1_1b r.2,.blk hg (Af c) 70]):=by
 refine enter (n:=52) Tryz.func166 Aa Tryz.ntmps166 Aa (λw Z=>?_);unfold Jt at h;refine Ae (wa Aa (Bv (wm Aa (ck h λg1 h2=>wv (Bj (enc:=Af) (ys:=v) CX Di Aa Aa g1) (wv (AI BH Aa Dj Aa Aa) (wv (AV DQ Aa Aa) (wv (r:=A2 0) (Ak Aa) (An (AF (ob h2 λh3 h4 hs=>B2 (S:=Nat×(Int×Int×Bool×Ah)×(Value)) (V:=(Bool×Ah)×(Value)) 0 (λσ=>Cj (λσ=>Eq F v c hn σ.1 σ.2.1 σ.2.2.1 σ.2.2.2) σ.1 σ.2.1=some h3) (λσ=>[(0,AJ 4 (A3 Af v)),(1,rv (.func (.func 167) #[] #[(.pointer (some ⟨he,0,none⟩)),(.pointer (some ⟨hf,0,none⟩)),(.pointer (some ⟨hg,0,none⟩))])),(4,A2 σ.2.1.1),(12,A2 ((Ao v 0).fN)),(13,A2 σ.2.1.2.1)]) (λσ=>[.blk he [rB σ.2.1.2.2.1] 4,.blk hf [rP hd 0] 174,.bld 177 5 hd σ.2.2 σ.2.1.2.2.2,.blk hg (Af c) 70]) (λσ=>σ.1) (F,(1,0,first,l),hp) h4 (AM.c5 Aa Aa Aa Aa Aa AM.nil) (sC (sC (sC (sC sN)))) (λσ=>Iu σ.1.1 σ.1.2=some r) (λσ=>[]) (λσ=>[.blk he [rB σ.1.1] 4,.blk hf [rP hd 0] 174,.bld 177 5 hd σ.2 σ.1.2,.blk hg (Af c) 70]) ?_ ?_))))))))))
 ·rintro⟨g2,⟨hb,ht,hh,hi⟩,hl⟩ h5;refine GZ ?_;obtain⟨h0,rfl,h6,hq,hm⟩:=Cu h5;replace hq:Eq F v c hn hb ht hh hi=some h6:=hq;unfold Eq at hq;refine Ae (wv (C1 Aa Aa) (An (Al (cz hq Aa (λc175 h7=>?_) (λc175 h8=>?_)))))
  ·refine Ax (AS (Al (AF (Ae (wv (r:=rS ([]:Ah)) (A5 Aa) (An (Al (Ae (wm Aa (wv (Bj (enc:=Af) (ys:=v) CX Di Aa Aa g1) (wv (AI BH Aa EA Aa Aa) (wv (AV EB Aa Aa) (wv (BI Aa Aa) (An (cz h7 Aa (λh9 hA=>?_) (λh9 hB=>?_))))))))))))))))
   ·refine Ae (wm Aa (wm Aa (ck hA λhC hD=>wv (Bj (enc:=Af) (ys:=v) CX Di Aa Aa hC) (wv (AI BH Aa CC Aa Aa) (wv (AV Dp Aa Aa) (wa Aa (An (Aj (wm Aa (ck hD λhE hG=>wv (BA Aa Aa hE) (wa Aa (Bv (wm Aa (wm Aa (ck hG λhH hI=>wv (r:=AJ 4 (A3 Af (List.drop (Ch (hb+1)) v))) (Ki CX Di Aa Aa hH) (ob hI λhj hJ hK=>BX Tryz.call95 (Sc F (List.drop (Ch (hb+1)) v) hj hJ) Aa (wm Aa (wv (A6 Aa Aa) (wv (A6 Aa Aa) ?_)))))))))))))))))));refine wv (A6 Aa Aa) (BK (cs:=[A2 0,A2 0,rB false,rB false]) Tc Aa Aa (λhL=>?_));refine wa Aa (Gy (i:=0) Hc Aa Aa Aa (B6.c Aa) Aa Aa ?_);refine wa Aa (An (Al (Ae (wm Aa (wm Aa (wm Aa (wm Aa (wm Aa (wm Aa (ck hK λhu hN=>wv (BA Aa Aa hu) (wm Aa (wm Aa (wv (BA Aa Aa hu) (ck hN λhO hP=>ck hP λhQ hR=>wv (r:=AJ 4 (A3 Af (List.take (Ch ((hb+1)+hj.1)-Ch (hb+1)) (List.drop (Ch (hb+1)) v)))) (Qh CX Di Aa Aa Aa Aa hO hQ) (ob hR λhw hS hT=>Hz (rs:=[rS ((Ao v hb).fStr),AJ 4 (A3 Af (List.take (Ch ((hb+1)+hj.1)-Ch (hb+1)) (List.drop (Ch (hb+1)) v)))]) (Hin:=[.blk he [rB hh] 4,.blk hf [rP hd 0] 174,.bld 177 5 hd hl hi,.blk hg (Af c) 70]) (Hr:=[.blk hL (By hj.2.1) 143]) Tryz.call167 Aa Aa ((AW (i:=1) Aa).trans (Afj _ ((AW (i:=1) Aa).trans (Afj _ ((AW (i:=1) Aa).trans (Afj _ ((AW (i:=1) Aa).trans (Afj _ (Afl _))))))))) (hz he hf hd hl hg ((Ao v hb).fStr) (List.take (Ch ((hb+1)+hj.1)-Ch (hb+1)) (List.drop (Ch (hb+1)) v)) hh hi c hw hS) Aa ?_)))))))))))))));rintro _ _ ⟨h1,rfl,rfl⟩;refine wv (Cc Aa) (An (cz hT Aa (λhU hV=>?_) (λhU hW=>?_)))
    ·refine Ap (Ac (A0 (Ac (Ac (Bu ?_)))));have hX:=BF hV hm hs;refine A0 ?_;obtain rfl:=As hX;exact Ar (XI Tryz.results166) (sC (sC (sC (sC (sS sN))))) ⟨h1,Aa,Aa⟩
    refine Ax (AS (Aj (wm Aa (wm Aa (wv (BA Aa Aa hu) (wa Aa (Am (AH (AS (Aj (ck hW λhY hZ=>wv (BA Aa Aa hY) (wm Aa (Am ?_)))))))))))));have ga:=Bw hZ hm;exact A4 (AK (h0,((hb+1)+hj.1,ht+1,hw.2.1,hw.2.2),h1) ⟨ga,Afh _⟩ (AM.c5 Aa Aa Aa Aa Aa AM.nil) (sC (sC (sC (sC (sS sN))))))
   refine Ax (AS (Ae (wm Aa (wm Aa (ck hB λgb gc=>wv (r:=AJ 4 (A3 Af (List.drop (Ch hb) v))) (Ki CX Di Aa Aa gb) (ob gc λhk gd ge=>BX Tryz.call95 (Sc F (List.drop (Ch hb) v) hk gd) Aa (wm Aa (wv (A6 Aa Aa) (wv (A6 Aa Aa) (wv (A6 Aa Aa) (BK (cs:=[A2 0,A2 0,rB false,rB false]) Tc Aa Aa (λgf=>?_))))))))))));refine wa Aa (Gy (i:=0) Hc Aa Aa Aa (B6.c Aa) Aa Aa ?_);refine wa Aa (An (Al (Ae (wm Aa (wm Aa (wm Aa (wm Aa (wm Aa (wm Aa (ck ge λhx gg=>wv (BA Aa Aa hx) (wm Aa (wm Aa (wv (BA Aa Aa hx) (ck gg λgh gi=>ck gi λgj gl=>wv (r:=AJ 4 (A3 Af (List.take (Ch (hb+hk.1)-Ch hb) (List.drop (Ch hb) v)))) (Qh CX Di Aa Aa Aa Aa gh gj) (ob gl λhy gm gp=>Hz (rs:=[rS ([]:Ah),AJ 4 (A3 Af (List.take (Ch (hb+hk.1)-Ch hb) (List.drop (Ch hb) v)))]) (Hin:=[.blk he [rB hh] 4,.blk hf [rP hd 0] 174,.bld 177 5 hd hl hi,.blk hg (Af c) 70]) (Hr:=[.blk gf (By hk.2.1) 143]) Tryz.call167 Aa Aa ((AW (i:=1) Aa).trans (Afj _ ((AW (i:=1) Aa).trans (Afj _ ((AW (i:=1) Aa).trans (Afj _ ((AW (i:=1) Aa).trans (Afj _ (Afl _))))))))) (hz he hf hd hl hg ([]:Ah) (List.take (Ch (hb+hk.1)-Ch hb) (List.drop (Ch hb) v)) hh hi c hy gm) Aa ?_)))))))))))))));rintro _ _ ⟨v222,rfl,rfl⟩;refine wv (Cc Aa) (An (cz gp Aa (λgq gr=>?_) (λgq gs=>?_)))
   ·refine Ap (Ac (A0 (Ac (Ac (Bu ?_)))));have gt:=BF gr hm hs;refine A0 ?_;obtain rfl:=As gt;exact Ar (XI Tryz.results166) (sC (sC (sC (sC (sS sN))))) ⟨v222,Aa,Aa⟩
   refine Ax (AS (Aj (wm Aa (wm Aa (wv (BA Aa Aa hx) (wa Aa (Am (AH (AS (Aj (ck gs λgu gv=>wv (BA Aa Aa gu) (wm Aa (Am ?_)))))))))))));have gw:=Bw gv hm;exact A4 (AK (h0,(hb+hk.1,ht+1,hy.2.1,hy.2.2),v222) ⟨gw,Afh _⟩ (AM.c5 Aa Aa Aa Aa Aa AM.nil) (sC (sC (sC (sC (sS sN))))))
  refine B4 (Ay ?_);have gx:=BP h8 hm hs;exact Ay (Bn (AK ((hh,hi),hl) gx AM.nil (sC (sC (sC (sC sN))))))
 rintro⟨⟨gy,gz⟩,g0⟩ hr;refine HE ?_;replace hr:Iu gy gz=some r:=hr;unfold Iu at hr;refine Bm ?_;obtain rfl:=As hr;exact Is (XI Tryz.results166) (sC (sC (sC (sC sN)))) ⟨g0,Aa,Aa⟩
theorem It:∀F:Nat,(∀(hb:Nat) (hd:Value) (l:Ah) (v:(List Ab)) (r:Ah),Hf F l v=some r→Fn Tryz.prog GE 119 [rP hb 0,AJ 4 (A3 Af v)] [.bld 177 5 hb hd l] (λR H=>∃w0b:Value,R=rv (.tuple #[])∧H=[.bld 177 5 hb w0b r]))∧(∀(he:Nat) (hf:Nat) (hb:Nat) (hd:Value) (hg:Nat) (key:Ah) (x:(List Ab)) (first:Bool) (l:Ah) (c:Ab) (r:Bool×Bool×Ah),Gx F key x first l c=some r→Fn Tryz.prog GE 167 [rS key,AJ 4 (A3 Af x),rP he 0,rP hf 0,rP hg 0] [.blk he [rB first] 4,.blk hf [rP hb 0] 174,.bld 177 5 hb hd l,.blk hg (Af c) 70] (λR H=>∃w3b:Value,R=rB r.1∧H=[.blk he [rB r.2.1] 4,.blk hf [rP hb 0] 174,.bld 177 5 hb w3b r.2.2,.blk hg (Af c) 70]))∧(∀(he:Nat) (hf:Nat) (hb:Nat) (hd:Value) (hg:Nat) (v:(List Ab)) (first:Bool) (l:Ah) (c:Ab) (r:Bool×Ah),HW F v first l c=some r→Fn Tryz.prog GE 166 [AJ 4 (A3 Af v),rv (.func (.func 167) #[] #[(.pointer (some ⟨he,0,none⟩)),(.pointer (some ⟨hf,0,none⟩)),(.pointer (some ⟨hg,0,none⟩))])] [.blk he [rB first] 4,.blk hf [rP hb 0] 174,.bld 177 5 hb hd l,.blk hg (Af c) 70] (λR H=>∃w1_1b:Value,R=rv (.tuple #[])∧H=[.blk he [rB r.1] 4,.blk hf [rP hb 0] 174,.bld 177 5 hb w1_1b r.2,.blk hg (Af c) 70]))
  | 0=>⟨(λ_ _ _ _ _ h=>by simp[Hf] at h),(λ_ _ _ _ _ _ _ _ _ _ _ h=>by simp[Gx] at h),(λ_ _ _ _ _ _ _ _ _ _ h=>by simp[HW] at h)⟩
  | nn+1=>⟨(λhb hd l v r h=>X0 nn (Gx nn) (HW nn) (It nn).2.1 (It nn).2.2 hb hd l v r (by rw[Hf] at h;exact h)),(λhe hf hb hd hg key x first l c r h=>Vi nn (Hf nn) (It nn).1 he hf hb hd hg key x first l c r (by rw[Gx] at h;exact h)),(λhe hf hb hd hg v first l c r h=>Vh nn (Gx nn) (It nn).2.1 he hf hb hd hg v first l c r (by rw[HW] at h;exact h))⟩
theorem YO (F:Nat)(hb:Nat)(hd:Value)(l:Ah)(v:(List Ab))(r:Ah)(h:Hf F l v=some r):Fn Tryz.prog GE 119 [rP hb 0,AJ 4 (A3 Af v)] [.bld 177 5 hb hd l] (λR H=>∃w0b:Value,R=rv (.tuple #[])∧H=[.bld 177 5 hb w0b r]):=(It F).1 hb hd l v r h
theorem Rs (F:Nat)(v:(List Ab))(r:Ah×Int)(h:JW F v=some r):Fn Tryz.prog GE 67 [AJ 4 (A3 Af v)] [] (λR H=>R=Dz [rS r.1,A2 r.2]∧H=[]):=by
 refine enter (n:=14) Tryz.func67 Aa Tryz.ntmps67 Aa (λw Z=>?_);unfold JW at h;refine Ae (wv (r:=rS ([]:Ah)) (A5 Aa) (wa Aa (An (Al (Ae (wm Aa (ob h λr1 e3 h2=>BX Tryz.call36 (MQ F v r1 e3) Aa (wa Aa (Bv (wm Aa (wv (Ct Aa Aa) (An (cz h2 Aa (λc4 h5=>?_) (λc4 h6=>?_))))))))))))))
 ·refine Ae (wm Aa (wv (r:=rS ([]:Ah)) (A5 Aa) (wa Aa (An (Ap (Ac ?_))))));obtain rfl:=As h5;exact Ar (IO Tryz.results67 (AO Aa) (AO Aa)) sN ⟨Aa,Aa⟩
 refine Ax (AS (Ae (BK (cs:=[rv (.pointer none),rv (.slice none 0 0)]) Tryz.zeroValue177 Aa Aa (λb7=>?_))));refine Bv (wm Aa (WL.tobld (te:=5) (i:=0) Aa (ob h6 λr8 hd h9=>EX [0] To (YO F b7 (.slice none 0 0) ([]:Ah) v r8 hd) ?_)));rintro _ _ ⟨hb,rfl,rfl⟩;refine Bv (ck h9 λhe hf=>C6 (rs:=[rP b7 0]) (Hin:=[.bld 177 5 b7 hb r8]) (Hr:=[]) Tryz.call120 Aa (Afl _) (RQ b7 hb r8  he) Aa ?_);rintro _ _ ⟨rfl,rfl⟩;refine wa Aa (wa Aa (An (Ap ?_)));obtain rfl:=As hf;exact Ar (IO Tryz.results67 (AO Aa) (AO Aa)) sN ⟨Aa,Aa⟩
end Go.Proofs.YtmjlemhondjfhaaGreatDoor.Q
namespace Go.Proofs.YtmjlemhondjfhaaGreatDoor
open Go
set_option linter.unusedVariables false
def IL (s:Ah)(p:Ah):Option (Bool):=
 Bl (imp (decide ((p.length:Int)≤(s.length:Int))) (K3 (p.length:Int) (s.length:Int)))<|some ((decide ((p.length:Int)≤(s.length:Int)))&&(decide ((List.take (Int.toNat (p.length:Int)) s)=p)))
def Ef (s:Ah)(p:Ah):Option (Bool):=
 Bs (IL s p) λr1=>some r1
end Go.Proofs.YtmjlemhondjfhaaGreatDoor
namespace Go.Proofs.YtmjlemhondjfhaaGreatDoor.Q
open Go Go.RowKit
set_option linter.unusedVariables false
set_option linter.unusedSimpArgs false
set_option maxRecDepth 100000
set_option maxHeartbeats 4000000
theorem QW (s:Ah)(p:Ah)(r:Bool)(h:IL s p=some r):Fn Tryz.prog GE 203 [rS s,rS p] [] (λR H=>R=rB r∧H=[]):=by
 refine enter (n:=18) Tryz.func203 Aa Tryz.ntmps203 Aa (λw Z=>?_);unfold IL at h;refine Ae (wa Aa (An (ck h λg1 h2=>AC [(4,rB ((decide ((p.length:Int)≤(s.length:Int)))&&(decide ((List.take (Ch (p.length:Int)) s)=p))))] [] ?_ ?_)))
 ·refine Aj (wm Aa (wv (BO Dx Aa) (wm Aa (wv (BO Dx Aa) (wv (EN Aa Aa) (wm Aa (AU (decide ((p.length:Int)≤(s.length:Int))) (λc3=>?_) (λc3=>?_))))))))
  ·refine wo c3 (wm Aa (wo c3 (wm Aa (wo c3 (wv (BO Dx Aa) (wo c3 (wv (I4 Dx Aa Aa (BY g1 c3)) (wo c3 (wm Aa (wo c3 (wv (Cy Aa Aa) (Eb Aa c3 Aa (wa Aa (Am ?_))))))))))))));exact Cd c3
  refine wf c3 (wf c3 (wf c3 (wf c3 (wf c3 (wf c3 (wv (r:=rB false) (Av Aa c3 Aa) (wa Aa (Am ?_))))))));exact Cd c3
 refine Ap ?_;obtain rfl:=As h2;exact Ar (BE Tryz.results203 (AO Aa)) sN ⟨Aa,Aa⟩
theorem OK (s:Ah)(p:Ah)(r:Bool)(h:Ef s p=some r):Fn Tryz.prog GE 176 [rS s,rS p] [] (λR H=>R=rB r∧H=[]):=by
 refine enter (n:=8) Tryz.func176 Aa Tryz.ntmps176 Aa (λw Z=>?_);unfold Ef at h;refine Ae (wa Aa (Bv (wm Aa (wm Aa (ob h λr1 e3 h2=>BX Tryz.call203 (QW s p r1 e3) Aa (wa Aa (An (Ap ?_))))))));obtain rfl:=As h2;exact Ar (BE Tryz.results176 (AO Aa)) sN ⟨Aa,Aa⟩
end Go.Proofs.YtmjlemhondjfhaaGreatDoor.Q
namespace Go.Proofs.YtmjlemhondjfhaaGreatDoor
open Go
set_option linter.unusedVariables false
def Iz (a:(List Ab))(b:(List Ab))(hb:Int):Option (Stp (Int) (Out (Bool) (Unit))):=
 B0 (decide (hb<(a.length:Int))) (Bl (Cn hb (a.length:Int))<|Bl (Cn hb (b.length:Int))<|B0 (!(decide (((Ao a hb).fKind)=((Ao b hb).fKind))&&decide (((Ao a hb).fInt)=((Ao b hb).fInt))&&decide (((Ao a hb).fStr)=((Ao b hb).fStr))&&decide (((Ao a hb).fN)=((Ao b hb).fN)))) (some (.out (.ret false))) (Bl (BM .i64 (hb+1))<|some (.next (hb+1)))) (some (.out (.go ())))
def KN :Option (Bool):=
 some true
def Ky (F:Nat)(a:(List Ab))(b:(List Ab)):Option (Bool):=
 B0 (!decide ((a.length:Int)=(b.length:Int))) (some false) (Bs (Cj (λσ=>Iz a b σ) F 0) (Cf λν=>KN ))
end Go.Proofs.YtmjlemhondjfhaaGreatDoor
namespace Go.Proofs.YtmjlemhondjfhaaGreatDoor.Q
open Go Go.RowKit
set_option linter.unusedVariables false
set_option linter.unusedSimpArgs false
set_option maxRecDepth 100000
set_option maxHeartbeats 4000000
theorem Aa4 {a0 b0:Int}{a1 b1:Int}{a2 b2:Ah}{a3 b3:Int}(w:World):(Op.equalIn 10000 70 (.agg #[.int .i64 a0,.int .i64 a1,.string (B a2),.int .i64 a3]) (.agg #[.int .i64 b0,.int .i64 b1,.string (B b2),.int .i64 b3])).run Tryz.prog w = .ok (decide (a0=b0)&&decide (a1=b1)&&decide (a2=b2)&&decide (a3=b3)) w:=by
  have hS:Tryz.prog.underlying 70=some (.struct (Tryz.prog.fieldsOf 70)):=by kernel_rfl
  have hp:Tryz.prog.stoodInHeld 70=false:=by kernel_rfl
  have u3:=yu3;have ia3:=DQ;have so3:=Dj;have u9:=Dx;have ia9:=Dp;have so9:=CC;have hb:=Tryz.underlying68;have hd:=EB;have he:=EA;rw[show(10000:Nat)=9999+1 from rfl,run_equalIn_agg w 9999 70 _ _ hS hp];simp only[Program.fieldsOf,BH]
  go_simp
  simp only[EV]
  by_cases h0:a0=b0<;>by_cases h1:a1=b1<;>by_cases h2:a2=b2<;>by_cases h3:a3=b3<;>simp[h0,h1,h2,h3]
theorem TX {n:Nat}{c:Cx}{l:Fr}{H:List Ent}{d:Option Nat}{ty rty:TypeId}{pos:String}{af:Array Edge}{g:Option (Nat×Bool)}{x y:Operand}{a0 b0:Int}{a1 b1:Int}{a2 b2:Ah}{a3 b3:Int}(hx:ev l x=some (BB [A2 a0,A2 a1,rS a2,A2 a3]))(hy:ev l y=some (BB [A2 b0,A2 b1,rS b2,A2 b3])):BD Tryz.prog n c l H { dst:=d,op:=.binOp .neq 70 x y rty,type:=ty,pos:=pos,after:=af,guard:=g } (rB (!(decide (a0=b0)&&decide (a1=b1)&&decide (a2=b2)&&decide (a3=b3)))):=λa w Z ha hw=>by
  obtain⟨us,e1,q1⟩:=ha.ev hx;obtain⟨vs,e2,q2⟩:=ha.ev hy;have k1:=B8.eq_rv (us:=[.int .i64 a0,.int .i64 a1,.string (B a2),.int .i64 a3]) q1;have k2:=B8.eq_rv (us:=[.int .i64 b0,.int .i64 b1,.string (B b2),.int .i64 b3]) q2;subst k1;subst k2;have hm:Tryz.prog.eqGuardType Tryz.prog.depth 70=false:=by kernel_rfl
  have hb:=Aa4 (a0:=a0) (a1:=a1) (a2:=a2) (a3:=a3) (b0:=b0) (b1:=b1) (b2:=b2) (b3:=b3) w;refine⟨.bool (!(decide (a0=b0)&&decide (a1=b1)&&decide (a2=b2)&&decide (a3=b3))),rfl,?_⟩;have hg:=run_eqGuard_agg (P:=Tryz.prog) w .neq 70 x y #[.int .i64 a0,.int .i64 a1,.string (B a2),.int .i64 a3] #[.int .i64 b0,.int .i64 b1,.string (B b2),.int .i64 b3] hm;simp only[execOp,e1,e2,Sem.run_bind,hg,Result.andThen_ok,run_neq_struct,hb,Sem.run_pure]
theorem Nc (F:Nat)(a:(List Ab))(b:(List Ab))(r:Bool)(h:Ky F a b=some r):Fn Tryz.prog GE 24 [AJ 4 (A3 Af a),AJ 4 (A3 Af b)] [] (λR H=>R=rB r∧H=[]):=by
 refine enter (n:=26) Tryz.func24 Aa Tryz.ntmps24 Aa (λw Z=>?_);unfold Ky at h;refine Ae (wa Aa (An (Al (Ae (wm Aa (wv (Br (ys:=a) (enc:=Af) CX Aa) (wm Aa (wv (Br (ys:=b) (enc:=Af) CX Aa) (wv (Ct Aa Aa) (An (cz h Aa (λc1 h2=>?_) (λc1 h3=>?_))))))))))))
 ·refine Ae (wa Aa (An (Ap (Ac ?_))));obtain rfl:=As h2;exact Ar (BE Tryz.results24 (AO Aa)) sN ⟨Aa,Aa⟩
 refine Ax (AS (Al (Ae (wa Aa (An (AF (ob h3 λhh hi hg=>B2 (S:=Nat×(Int)×(Unit)) (V:=(Unit)×(Unit)) 0 (λσ=>Cj (λσ=>Iz a b σ) σ.1 σ.2.1=some hh) (λσ=>[(0,AJ 4 (A3 Af a)),(1,AJ 4 (A3 Af b)),(5,A2 σ.2.1)]) (λσ=>[]) (λσ=>σ.1) (F,0,()) hi (AM.c Aa (AM.c Aa (AM.c Aa AM.nil))) sN (λσ=>KN =some r) (λσ=>[]) (λσ=>[]) ?_ ?_)))))))
 ·rintro⟨h5,hb,⟨⟩⟩ hj;refine GZ ?_;obtain⟨hk,rfl,hl,hd,hf⟩:=Cu hj;replace hd:Iz a b hb=some hl:=hd;unfold Iz at hd;refine Al (Ae (wm Aa (wm Aa (wv (Br (ys:=a) (enc:=Af) CX Aa) (wv (C1 Aa Aa) (An (cz hd Aa (λhm hn=>?_) (λhm hp=>?_))))))))
  ·refine Ax (AS (Al (AF (Al (ck hn λhq hr=>ck hr λhs ht=>Dc [0,1,5] ?_)))));refine rq (Ak Aa) (rq (Ak Aa) (rq (Bj (enc:=Af) (ys:=a) CX Di Aa Aa hq) (rq (C9 P7 Di Aa Aa Aa) (rq (Ak Aa) (rq (Ak Aa) (rq (Bj (enc:=Af) (ys:=b) CX Di Aa Aa hs) (rq (C9 P7 Di Aa Aa Aa) (rq (r:=rB (!(decide (((Ao a hb).fKind)=((Ao b hb).fKind))&&decide (((Ao a hb).fInt)=((Ao b hb).fInt))&&decide (((Ao a hb).fStr)=((Ao b hb).fStr))&&decide (((Ao a hb).fN)=((Ao b hb).fN))))) (TX Aa Aa) (re [17,18,19,20,21,22,23,24,25,0,1,5] ?_)))))))));refine AS (cz ht Aa (λhu hw=>?_) (λhu hx=>?_))
   ·refine Ae (wa Aa (An (Ap (A0 (Ac (Ac (Bu ?_)))))));have hy:=BF hw hf hg;refine A0 (Ac ?_);obtain rfl:=As hy;exact Ar (BE Tryz.results24 (AO Aa)) sN ⟨Aa,Aa⟩
   refine Ax (AH (AS (Aj (wm Aa (ck hx λhz h0=>wv (BA Aa Aa hz) (wa Aa (Am ?_)))))));have h1:=Bw h0 hf;exact A4 (AK (hk,hb+1,()) ⟨h1,Afh _⟩ (AM.c Aa (AM.c Aa (AM.c Aa AM.nil))) sN)
  refine B4 (Ay ?_);have h4:=BP hp hf hg;exact Ay (Bn (AK ((),()) h4 AM.nil sN))
 rintro⟨⟨⟩,⟨⟩⟩ he;refine HE ?_;replace he:KN =some r:=he;unfold KN at he;refine Bm (AS (Ae (wa Aa (An (Ap ?_)))));obtain rfl:=As he;exact Ar (BE Tryz.results24 (AO Aa)) sN ⟨Aa,Aa⟩
end Go.Proofs.YtmjlemhondjfhaaGreatDoor.Q
namespace Go.Proofs.YtmjlemhondjfhaaGreatDoor
open Go
set_option linter.unusedVariables false
end Go.Proofs.YtmjlemhondjfhaaGreatDoor
namespace Go.Proofs.YtmjlemhondjfhaaGreatDoor.Q
open Go Go.RowKit
set_option linter.unusedVariables false
set_option linter.unusedSimpArgs false
set_option maxRecDepth 100000
set_option maxHeartbeats 4000000
end Go.Proofs.YtmjlemhondjfhaaGreatDoor.Q
namespace Go.Proofs.YtmjlemhondjfhaaGreatDoor
open Go
set_option linter.unusedVariables false
set_option linter.unusedSimpArgs false
section
variable {T S : Type}
def Ha:List (Ah×T)→Ah→Option T
 | [],_=>none
 | p::r,k=>bif decide (p.1=k) then some p.2 else Ha r k
def Gp (xs:List (Ah×T))(k:Ah)(z:T):T:=(Ha xs k).getD z
def Gc (xs:List (Ah×T))(k:Ah):Bool:=(Ha xs k).isSome
def Uf (k:Ah)(v:T):List (Ah×T)→List (Ah×T)
 | []=>[(k,v)]
 | p::r=>bif Do k p.1 then(k,v)::p::r else p::Uf k v r
def NZ (xs:List (Ah×T))(k:Ah)(v:T):List (Ah×T):=xs.map λp=>bif decide (p.1=k) then(k,v) else p
def GP (xs:List (Ah×T))(k:Ah)(v:T):List (Ah×T):=bif Gc xs k then NZ xs k v else Uf k v xs
def Bq (f:T→S)(xs:List (Ah×T)):List (Ah×S):=xs.map λp=>(p.1,f p.2)
theorem Nn (f:T→S):∀(xs:List (Ah×T)) (k:Ah),Ha (Bq f xs) k=(Ha xs k).map f
 | [],k=>rfl
 | p::r,k=>by
  show(bif decide (p.1=k) then some (f p.2) else Ha (Bq f r) k)=_;rw[Ha,Nn f r k]
  cases decide (p.1=k)<;>rfl
theorem ZD (f:T→S)(xs:List (Ah×T))(k:Ah):Gc (Bq f xs) k=Gc xs k:=by
 unfold Gc;rw[Nn];cases Ha xs k<;>rfl
theorem Ue (f:T→S)(k:Ah)(v:T):∀xs:List (Ah×T),Bq f (Uf k v xs)=Uf k (f v) (Bq f xs)
 | []=>rfl
 | p::r=>by
  show Bq f (bif Do k p.1 then(k,v)::p::r else p::Uf k v r)=(bif Do k p.1 then(k,f v)::(p.1,f p.2)::Bq f r else(p.1,f p.2)::Uf k (f v) (Bq f r));rw[← Ue f k v r]
  cases Do k p.1<;>rfl
theorem ZB (f:T→S)(xs:List (Ah×T))(k:Ah)(v:T):Bq f (GP xs k v)=GP (Bq f xs) k (f v):=by
 unfold GP;rw[ZD]
 cases Gc xs k with
 | false=>exact Ue f k v xs
 | true=>
  show Bq f (NZ xs k v)=NZ (Bq f xs) k (f v);unfold Bq NZ;rw[AfU,AfU];refine List.map_congr_left λp _=>?_;show _=(bif decide (p.1=k) then(k,f v) else(p.1,f p.2));simp only[Function.comp]
  cases decide (p.1=k)<;>rfl
theorem KW (f:T→S)(xs:List (Ah×T)):(Bq f xs).length=xs.length:=by simp[Bq]
theorem Oa (k:Ah)(v:T):∀xs:List (Ah×T),(Uf k v xs).Perm ((k,v)::xs)
 | []=>Afl _
 | p::r=>by
  rw[Uf]
  cases Do k p.1 with
  | true=>exact Afl _
  | false=>exact((Oa k v r).cons p).trans (List.Perm.swap _ _ _)
def Ib (x:T):List T→List (List T)
 | []=>[[x]]
 | y::r=>(x::y::r)::(Ib x r).map (y::·)
def LU:List T→List (List T)
 | []=>[[]]
 | x::r=>(LU r).flatMap (Ib x)
theorem OG (x:T):∀(a b:List T),a++x::b∈Ib x (a++b)
 | [],[]=>by simp[Ib]
 | [],y::b=>by simp[Ib]
 | y::a,b=>by
  simp only[AfL,Ib,AfH,List.mem_map];exact .inr ⟨_,OG x a b,rfl⟩
theorem R9:∀(xs ys:List T),ys.Perm xs→ys∈LU xs
 | [],ys,h=>by rw[h.eq_nil];simp[LU]
 | x::r,ys,h=>by
  have hx:x∈ys:=h.symm.subset (List.mem_cons_self ..);obtain⟨a,b,rfl⟩:=List.append_of_mem hx;have h2:(a++b).Perm r:=(List.perm_middle.symm.trans h).cons_inv;simp only[LU,List.mem_flatMap];exact⟨a++b,R9 r _ h2,OG x a b⟩
def ZC {R:Type}[DecidableEq R](xs:List T)(K:List T→Option R):Option R:=match K xs with
 | none=>none
 | some r=>bif (LU xs).all (λp=>decide (K p=some r)) then some r else none
theorem AcT {R:Type}[DecidableEq R]{xs:List T}{K:List T→Option R}{r:R}(h:ZC xs K=some r):∀p:List T,p.Perm xs→K p=some r:=λp hp=>by
 unfold ZC at h
 cases hk:K xs with
 | none=>rw[hk] at h;cases h
 | some q=>
  rw[hk] at h;simp only at h
  cases ha:(LU xs).all (λp=>decide (K p=some q)) with
  | false=>rw[ha] at h;cases h
  | true=>
   rw[ha] at h;cases h;exact AfC (List.all_eq_true.1 ha p (R9 xs p hp))
theorem JD (x:T):∀(xs ys:List T),ys∈Ib x xs→ys.Perm (x::xs)
 | [],ys,h=>by simp[Ib] at h;rw[h]
 | y::r,ys,h=>by
  simp only[Ib,AfH,List.mem_map] at h;rcases h with rfl | ⟨z,hz,rfl⟩
  ·exact Afl _
  ·exact((JD x r z hz).cons y).trans (List.Perm.swap _ _ _)
theorem Qd:∀(xs ys:List T),ys∈LU xs→ys.Perm xs
 | [],ys,h=>by simp[LU] at h;rw[h]
 | x::r,ys,h=>by
  simp only[LU,List.mem_flatMap] at h;obtain⟨z,hz,hy⟩:=h;exact(JD x z ys hy).trans ((Qd r z hz).cons x)
theorem AcS {R:Type}[DecidableEq R]{xs:List T}{K:List T→Option R}{r:R}(h:∀p:List T,p.Perm xs→K p=some r):ZC xs K=some r:=by
 unfold ZC;rw[h xs (Afl _)];have:(LU xs).all (λp=>decide (K p=some r))=true:=List.all_eq_true.2 λp hp=>Afa (h p (Qd xs p hp));simp only[this];rfl
def Yh {St O:Type}(body:T→St→Option (Stp St (Out O St))):List T→St→Option (Out O St)
 | [],s=>some (.go s)
 | x::r,s=>match body x s with
  | none=>none
  | some (.next s')=>Yh body r s'
  | some (.out o)=>some o
def Aer {St R:Type}(body:T→St→Option (Stp St (Out R St)))(ys:List T)(K:St→Option R)(r:R):Stp St (Out R St)→Prop
 | .next s'=>∀q:List T,q.Perm ys→Bs (Yh body q s') (Cf K)=some r
 | .out o=>Cf K o=some r
theorem AdT {St R:Type}{body:T→St→Option (Stp St (Out R St))}{ys ys':List T}{p:T}{s:St}{K:St→Option R}{r:R}(h:∀q:List T,q.Perm ys→Bs (Yh body q s) (Cf K)=some r)(hp:ys.Perm (p::ys')):∃t,body p s=some t∧Aer body ys' K r t:=by
 have h1:∀q:List T,q.Perm ys'→Bs (Yh body (p::q) s) (Cf K)=some r:=λq hq=>h _ ((hq.cons p).trans hp.symm)
 cases hb:body p s with
 | none=>
  have:=h1 ys' (Afl _);rw[Yh,hb] at this;cases this
 | some t=>
  refine⟨t,rfl,?_⟩
  cases t with
  | next s'=>
   intro q hq;have:=h1 q hq;rw[Yh,hb] at this;exact this
  | out o=>
   have:=h1 ys' (Afl _);rw[Yh,hb] at this;exact this
theorem Ab2 {St R:Type}{body:T→St→Option (Stp St (Out R St))}{ys:List T}{s:St}{K:St→Option R}{r:R}(h:∀q:List T,q.Perm ys→Bs (Yh body q s) (Cf K)=some r)(hy:ys=[]):K s=some r:=by
 subst hy;exact h [] (Afl _)
theorem Yf {St R:Type}{body:T→St→Option (Stp St (Out R St))}{ys:List T}{s':St}{K:St→Option R}{r:R}{t:Stp St (Out R St)}(h:some (Stp.next s')=some t)(ht:Aer body ys K r t):∀q:List T,q.Perm ys→Bs (Yh body q s') (Cf K)=some r:=by cases h;exact ht
theorem Abh {ys ys':List T}{p:T}(h:ys.Perm (p::ys')):ys'.length<ys.length:=by rw[h.length_eq];exact Afh _
end
def ZV (k:IntKind)(x y:Int):Int:=k.wrap ((BitVec.ofInt k.bits x&&& BitVec.ofInt k.bits y).toNat:Int)
def UY (k:IntKind)(x y:Int):Int:=k.wrap ((BitVec.ofInt k.bits x||| BitVec.ofInt k.bits y).toNat:Int)
def HH (k:IntKind)(x n:Int):Int:=k.wrap (x*2 ^ (min n.toNat k.bits))
structure Ad where
 fAllow:Bool
 fActions:(List Ah)
 fResources:(List Ah)
 deriving DecidableEq,Inhabited
structure C3 where
 fAllowed:Bool
 fIndex:Int
 deriving DecidableEq,Inhabited
structure AD where
 fAllow:Bool
 fAddr:Int
 fBits:Int
 fLow:Int
 fHigh:Int
 deriving DecidableEq,Inhabited
def GK (s:Ah)(x:Ah):Option (Bool):=
 Bl (imp (decide ((x.length:Int)≤(s.length:Int))) (BM .i64 ((s.length:Int)-(x.length:Int))))<|Bl (imp (decide ((x.length:Int)≤(s.length:Int))) (K3 ((s.length:Int)-(x.length:Int)) (s.length:Int)))<|some ((decide ((x.length:Int)≤(s.length:Int)))&&(decide ((List.drop (Int.toNat ((s.length:Int)-(x.length:Int))) s)=x)))
def HX (s:Ah)(x:Ah):Option (Ah):=
 Bs (GK s x) λr1=>B0 (r1) (Bl (BM .i64 ((s.length:Int)-(x.length:Int)))<|Bl (K3 ((s.length:Int)-(x.length:Int)) (s.length:Int))<|some (List.take (Int.toNat ((s.length:Int)-(x.length:Int))) s)) (some s)
def LB (s:Ah)(x:Ah):Option (Bool):=
 Bs (GK s x) λr1=>some r1
def Kb (s:Ah)(x:Ah):Option (Ah):=
 Bs (HX s x) λr1=>some r1
def E8 (s:Ah):Option (Ah):=
 Bs (Kb s ([42]:Ah)) λr1=>some r1
def Mb (s:Ah):Option (Bool):=
 Bs (LB s ([42]:Ah)) λr1=>some r1
def JJ (s:Ah):Option (Bool):=
 Bl (imp (!(Nu s)) (imp (!(decide (s=([42]:Ah)))) ((E8 s).isSome)))<|Bl (imp (!(Nu s)) (imp (!(decide (s=([42]:Ah)))) (imp (Nu (ov (E8 s))) ((Mb s).isSome))))<|some ((Nu s)||((decide (s=([42]:Ah)))||((Nu (ov (E8 s)))&&((ov (Mb s))&&(decide ((s.length:Int)≤64))))))
def Lf (q:Ah)(s:Ah):Option (Bool):=
 Bs (JJ q) λr1=>B0 (!r1) (some false) (Bs (Mb q) λr7=>B0 (r7) (Bs (E8 q) λhb=>Bs (Ef s hb) λhd=>some hd) (some (decide (q=s))))
def IC (l:(List Ah))(s:Ah)(hb:Int):Option (Stp (Int) (Out (Bool) (Unit))):=
 B0 (decide (hb<(l.length:Int))) (Bl (Cn hb (l.length:Int))<|B0 (decide ((Ao l hb)=s)) (some (.out (.ret true))) (Bl (BM .i64 (hb+1))<|some (.next (hb+1)))) (some (.out (.go ())))
def Lh :Option (Bool):=
 some false
def Gg (F:Nat)(l:(List Ah))(s:Ah):Option (Bool):=
 Bs (Cj (λσ=>IC l s σ) F 0) (Cf λν=>Lh )
def Hk (a:(List Ah))(b:(List Ah))(hb:Int):Option (Stp (Int) (Out (Bool) (Unit))):=
 B0 (decide (hb<(a.length:Int))) (Bl (Cn hb (a.length:Int))<|Bl (Cn hb (b.length:Int))<|B0 (!decide ((Ao a hb)=(Ao b hb))) (some (.out (.ret false))) (Bl (BM .i64 (hb+1))<|some (.next (hb+1)))) (some (.out (.go ())))
def JK :Option (Bool):=
 some true
def Lg (F:Nat)(a:(List Ah))(b:(List Ah)):Option (Bool):=
 B0 (!decide ((a.length:Int)=(b.length:Int))) (some false) (Bs (Cj (λσ=>Hk a b σ) F 0) (Cf λν=>JK ))
def Nh (x:Ah):Option (Bool):=
 Bs (JJ x) λr1=>some (!r1)
def Pq (x:Ah)(s:Ah):Option (Bool):=
 Bs (Lf x s) λr1=>some r1
def IA (ys:(List Ah))(hb:Int):Option (Stp (Int) (Out (Int) (Unit))):=
 B0 (decide (hb<(ys.length:Int))) (Bl (Cn hb (ys.length:Int))<|Bs (Nh (Ao ys hb)) λhd=>B0 (hd) (some (.out (.ret hb))) (Bl (BM .i64 (hb+1))<|some (.next (hb+1)))) (some (.out (.go ())))
def Ld :Option (Int):=
 some (-1)
def WJ (F:Nat)(ys:(List Ah)):Option (Int):=
 Bs (Cj (λσ=>IA ys σ) F 0) (Cf λν=>Ld )
def Og (F:Nat)(ys:(List Ah)):Option (Bool):=
 Bs (WJ F ys) λr1=>some (decide (0≤r1))
def Hi (ys:(List Ah))(s:Ah)(hb:Int):Option (Stp (Int) (Out (Int) (Unit))):=
 B0 (decide (hb<(ys.length:Int))) (Bl (Cn hb (ys.length:Int))<|Bs (Pq (Ao ys hb) s) λhd=>B0 (hd) (some (.out (.ret hb))) (Bl (BM .i64 (hb+1))<|some (.next (hb+1)))) (some (.out (.go ())))
def JG :Option (Int):=
 some (-1)
def SA (F:Nat)(ys:(List Ah))(s:Ah):Option (Int):=
 Bs (Cj (λσ=>Hi ys s σ) F 0) (Cf λν=>JG )
def Nv (F:Nat)(ys:(List Ah))(s:Ah):Option (Bool):=
 Bs (SA F ys s) λr1=>some (decide (0≤r1))
def G7 (F:Nat)(s:Ad)(hb:Int):Option (Stp (Int) (Out (Int) (Unit))):=
 B0 (decide (hb<(([s.fActions,s.fResources]:List (List Ah)).length:Int))) (Bl (Cn hb (([s.fActions,s.fResources]:List (List Ah)).length:Int))<|Bs (Og F (Ao ([s.fActions,s.fResources]:List (List Ah)) hb)) λhd=>B0 (hd) (some (.out (.ret 4))) (Bl (BM .i64 (hb+1))<|some (.next (hb+1)))) (some (.out (.go ())))
def I1 :Option (Int):=
 some 0
def G8 (s:Ad)(hb:Int):Option (Stp (Int) (Out (Int) (Unit))):=
 B0 (decide (hb<(([s.fActions,s.fResources]:List (List Ah)).length:Int))) (Bl (Cn hb (([s.fActions,s.fResources]:List (List Ah)).length:Int))<|B0 (((decide (((Ao ([s.fActions,s.fResources]:List (List Ah)) hb).length:Int)<1))||(decide (8<((Ao ([s.fActions,s.fResources]:List (List Ah)) hb).length:Int))))) (some (.out (.ret 3))) (Bl (BM .i64 (hb+1))<|some (.next (hb+1)))) (some (.out (.go ())))
def I2 (F:Nat)(s:Ad):Option (Int):=
 Bs (Cj (λσ=>G7 F s σ) F 0) (Cf λν=>I1 )
def Gz (F:Nat)(s:Ad):Option (Int):=
 Bs (Cj (λσ=>G8 s σ) F 0) (Cf λν=>I2 F s )
def GS (F:Nat)(l:(List Ah))(s:Ah):Option (Bool):=
 Bs (Nv F l s) λr2=>some r2
def Ng (F:Nat)(x:Ad)(allow:Bool)(action:Ah)(resource:Ah):Option (Bool):=
 Bl (imp (x.fAllow ==allow) ((Gz F x).isSome))<|Bl (imp (x.fAllow ==allow) (imp (decide ((ov (Gz F x))=0)) ((GS F x.fActions action).isSome)))<|Bl (imp (x.fAllow ==allow) (imp (decide ((ov (Gz F x))=0)) (imp ((ov (GS F x.fActions action))) ((GS F x.fResources resource).isSome))))<|some ((x.fAllow ==allow)&&((decide ((ov (Gz F x))=0))&&((ov (GS F x.fActions action))&&(ov (GS F x.fResources resource)))))
def I9 (F:Nat)(ys:(List Ad))(allow:Bool)(action:Ah)(resource:Ah)(hb:Int):Option (Stp (Int) (Out (Int) (Unit))):=
 B0 (decide (hb<(ys.length:Int))) (Bl (Cn hb (ys.length:Int))<|Bs (Ng F (Ao ys hb) allow action resource) λhd=>B0 (hd) (some (.out (.ret hb))) (Bl (BM .i64 (hb+1))<|some (.next (hb+1)))) (some (.out (.go ())))
def Lc :Option (Int):=
 some (-1)
def Us (F:Nat)(ys:(List Ad))(allow:Bool)(action:Ah)(resource:Ah):Option (Int):=
 Bs (Cj (λσ=>I9 F ys allow action resource σ) F 0) (Cf λν=>Lc )
def Qb (F:Nat)(allow:Bool)(l:(List Ad))(action:Ah)(resource:Ah):Option (Int):=
 Bs (Us F l allow action resource) λr2=>some r2
def D1 (F:Nat)(l:(List Ad))(action:Ah)(resource:Ah):Option (C3):=
 Bs (Qb F false l action resource) λr5=>B0 (decide (0≤r5)) (some (C3.mk false r5)) (Bs (Qb F true l action resource) λhb=>some (C3.mk (decide (0≤hb)) hb))
def DJ (n:Int)(low:Int)(high:Int):Option (Bool):=
 some ((decide (low≤n))&&(decide (n≤high)))
def Et (bits:Int):Option (Int):=
 Bl (BM .i64 (32-bits))<|Bl (decide (0≤(32-bits)))<|Bl (BM .i64 ((HH .i64 1 (32-bits))-1))<|some ((HH .i64 1 (32-bits))-1)
def DK (q:AD):Option (Int):=
 Bl ((DJ q.fAddr 0 4294967295).isSome)<|Bl (imp (!(!(ov (DJ q.fAddr 0 4294967295)))) ((DJ q.fBits 0 32).isSome))<|Bl (imp (!(!(ov (DJ q.fAddr 0 4294967295)))) (imp (!(!(ov (DJ q.fBits 0 32)))) ((DJ q.fLow 1 65535).isSome)))<|Bl (imp (!(!(ov (DJ q.fAddr 0 4294967295)))) (imp (!(!(ov (DJ q.fBits 0 32)))) (imp (!(!(ov (DJ q.fLow 1 65535)))) ((DJ q.fHigh q.fLow 65535).isSome))))<|B0 (((!(ov (DJ q.fAddr 0 4294967295)))||((!(ov (DJ q.fBits 0 32)))||((!(ov (DJ q.fLow 1 65535)))||(!(ov (DJ q.fHigh q.fLow 65535))))))) (some 2) (Bs (Et q.fBits) λhb=>B0 (!decide ((ZV .i64 q.fAddr hb)=0)) (some 1) (some 0))
def WI (s:Ah):Option (Int):=
 B0 (decide (([46]:Ah)=s)) (some 0) (Bl (Cn 0 (([46]:Ah).length:Int))<|some (Lib.indexByte s (Int.toNat (Cs ([46]:Ah) 0)).toUInt8))
def Ut (s:Ah):Option (Int):=
 B0 (decide (([58]:Ah)=s)) (some 0) (Bl (Cn 0 (([58]:Ah).length:Int))<|some (Lib.indexByte s (Int.toNat (Cs ([58]:Ah) 0)).toUInt8))
def PU (s:Ah):Option (Int):=
 Bs (WI s) λr1=>some r1
def CS (s:Ah)(hb:Ah)(hd:Int)(hf:(List Ah)):Option (Stp (Ah×Int×(List Ah)) (Out ((List Ah)) (Ah×Int×(List Ah)))):=
 B0 (decide (hd<((min ((Lib.countByte s 46:Int)+1) ((s.length:Int)+1))-1))) (Bs (PU hb) λhe=>B0 (decide (he<0)) (some (.out (.go (hb,hd,hf)))) (Bl (BM .i64 (he+0))<|Bl (K3 (he+0) (hb.length:Int))<|Bl (Cn hd (hf.length:Int))<|KF (List.set hf (Int.toNat hd) (List.take (Int.toNat (he+0)) hb)) λhg=>Bl (BM .i64 (he+1))<|Bl (K3 (he+1) (hb.length:Int))<|Bl (BM .i64 (hd+1))<|some (.next (List.drop (Int.toNat (he+1)) hb,hd+1,hg)))) (some (.out (.go (hb,hd,hf))))
def Em (hf:Ah)(hb:Int)(hd:(List Ah)):Option ((List Ah)):=
 Bl (Cn hb (hd.length:Int))<|KF (List.set hd (Int.toNat hb) hf) λhe=>Bl (BM .i64 (hb+1))<|Bl (K3 (hb+1) (he.length:Int))<|some (List.take (Int.toNat (hb+1)) he)
def N4 (F:Nat)(s:Ah):Option ((List Ah)):=
 Bl (BM .i64 ((Lib.countByte s 46:Int)+1))<|Bl (BM .i64 ((s.length:Int)+1))<|Bl (DE 16 (Int.toNat (min ((Lib.countByte s 46:Int)+1) ((s.length:Int)+1))))<|Bl (decide (0≤(min ((Lib.countByte s 46:Int)+1) ((s.length:Int)+1))))<|Bl (BM .i64 ((min ((Lib.countByte s 46:Int)+1) ((s.length:Int)+1))-1))<|Bs (Cj (λσ=>CS s σ.1 σ.2.1 σ.2.2) F (s,0,List.replicate (Int.toNat (min ((Lib.countByte s 46:Int)+1) ((s.length:Int)+1))) ([]:Ah))) (Cf λν=>Em ν.1 ν.2.1 ν.2.2)
def PT (F:Nat)(s:Ah):Option ((List Ah)):=
 Bs (N4 F s) λr1=>some r1
def Wr (s:Ah):Option (Ah×Ah×Bool):=
 Bs (Ut s) λr1=>B0 (decide (0≤r1)) (Bl (K3 r1 (s.length:Int))<|Bl (BM .i64 (r1+1))<|Bl (K3 (r1+1) (s.length:Int))<|some (List.take (Int.toNat r1) s,List.drop (Int.toNat (r1+1)) s,true)) (some (s,([]:Ah),false))
def Zj (s:Ah):Option (Ah×Ah×Bool):=
 Bs (Wr s) λr1=>some (r1.1,r1.2.1,r1.2.2)
def DL (r1:(List Ah))(hb:Int)(hd:(List Int)):Option (Stp (Int×(List Int)) (Out (Int×Int) ((List Int)))):=
 B0 (decide (hb<4)) (Bl (Cn hb (r1.length:Int))<|Bl (DE 1 (Ao r1 hb).length)<|Bl (imp (!(!decide ((E1 (Ao r1 hb))=0))) ((DJ (C7 (Ao r1 hb)) 0 255).isSome))<|B0 (((!decide ((E1 (Ao r1 hb))=0))||(!(ov (DJ (C7 (Ao r1 hb)) 0 255))))) (some (.out (.ret (0,1)))) (Bl (Cn hb 4)<|Bl (Cn hb (hd.length:Int))<|Bl (BM .i64 (hb+1))<|some (.next (hb+1,List.set hd (Int.toNat hb) (C7 (Ao r1 hb)))))) (some (.out (.go hd)))
def Gb (hb:(List Int)):Option (Int×Int):=
 Bl (Cn 0 4)<|Bl (Cn 0 (hb.length:Int))<|Bl (Cn 1 4)<|Bl (Cn 1 (hb.length:Int))<|Bl (Cn 2 4)<|Bl (Cn 2 (hb.length:Int))<|Bl (Cn 3 4)<|Bl (Cn 3 (hb.length:Int))<|some (UY .i64 (UY .i64 (UY .i64 (HH .i64 (Ao hb 0) 24) (HH .i64 (Ao hb 1) 16)) (HH .i64 (Ao hb 2) 8)) (Ao hb 3),0)
def JC (F:Nat)(s:Ah):Option (Int×Int):=
 Bs (PT F s) λr1=>B0 (!decide ((r1.length:Int)=4)) (some (0,1)) (Bs (Cj (λσ=>DL r1 σ.1 σ.2) F (0,List.replicate 4 (0:Int))) (Cf λν=>Gb ν))
def JB (q:AD)(addr:Int)(port:Int):Option (Bool):=
 Bl ((DK q).isSome)<|Bl (imp (decide ((ov (DK q))=0)) ((Et q.fBits).isSome))<|Bl (imp (decide ((ov (DK q))=0)) (BM .i64 (q.fAddr+(ov (Et q.fBits)))))<|Bl (imp (decide ((ov (DK q))=0)) ((DJ addr q.fAddr (q.fAddr+(ov (Et q.fBits)))).isSome))<|Bl (imp (decide ((ov (DK q))=0)) (imp ((ov (DJ addr q.fAddr (q.fAddr+(ov (Et q.fBits)))))) ((DJ port q.fLow q.fHigh).isSome)))<|some ((decide ((ov (DK q))=0))&&((ov (DJ addr q.fAddr (q.fAddr+(ov (Et q.fBits)))))&&(ov (DJ port q.fLow q.fHigh))))
def EO (l:(List AD))(addr:Int)(port:Int)(hb:Int):Option (Stp (Int) (Out (C3) (Unit))):=
 B0 (decide (hb<(l.length:Int))) (Bl (Cn hb (l.length:Int))<|Bs (JB (Ao l hb) addr port) λhd=>B0 (hd) (some (.out (.ret (C3.mk ((Ao l hb).fAllow) hb)))) (Bl (BM .i64 (hb+1))<|some (.next (hb+1)))) (some (.out (.go ())))
def IR :Option (C3):=
 some (C3.mk false (-1))
def HC (F:Nat)(l:(List AD))(addr:Int)(port:Int):Option (C3):=
 Bs (Cj (λσ=>EO l addr port σ) F 0) (Cf λν=>IR )
end Go.Proofs.YtmjlemhondjfhaaGreatDoor
namespace Go.Proofs.YtmjlemhondjfhaaGreatDoor.Q
open Go Go.RowKit
set_option linter.unusedVariables false
set_option linter.unusedSimpArgs false
section
variable {P : Program} {n : Nat} {c : Cx} {l : Fr} {H : List Ent} {d : Option Nat} {x y : Operand} {t t' ty : TypeId} {pos : String} {af : Array Edge} {g : Option (Nat × Bool)} {k k' : IntKind} {p q : Int}
theorem AdP (hx:ev l x=some (rI k p))(hy:ev l y=some (rI k q)):BD P n c l H { dst:=d,op:=.binOp .and t x y t',type:=ty,pos:=pos,after:=af,guard:=g } (rI k (ZV k p q)):=λa w Z ha _=>DD<|by
 simp[execOp,ha.eval hx,ha.eval hy,BW,binOp,Op.intBits,ZV]
theorem AcN (hx:ev l x=some (rI k p))(hy:ev l y=some (rI k q)):BD P n c l H { dst:=d,op:=.binOp .or t x y t',type:=ty,pos:=pos,after:=af,guard:=g } (rI k (UY k p q)):=λa w Z ha _=>DD<|by
 simp[execOp,ha.eval hx,ha.eval hy,BW,binOp,Op.intBits,UY]
theorem W7 (hx:ev l x=some (rI k p))(hy:ev l y=some (rI k' q))(h0:decide (0≤q)=true):BD P n c l H { dst:=d,op:=.binOp .shl t x y t',type:=ty,pos:=pos,after:=af,guard:=g } (rI k (HH k p q)):=λa w Z ha _=>DD<|by
 have h1 : ¬ q<0:=by have:=AfC h0;omega
 simp[execOp,ha.eval hx,ha.eval hy,BW,binOp,Op.shift,HH,h1]
end
theorem AcV {α:Type}[Inhabited α]{enc:α→Rp}{ys:List α}{j:Int}(hg:Cn j (ys.length:Int)=true):(List.map enc ys)[j.toNat]? =some (enc (Ao ys j)):=by
 have h0:=(Cm hg).1;have h1:=(Cm hg).2;have hl:j.toNat<ys.length:=by omega
 simp[Ao,Aff hl]
theorem Abz {α:Type}{enc:α→Rp}{ys:List α}{j:Int}(hg:Cn j (ys.length:Int)=true):Nat.blt j.toNat (List.map enc ys).length=true:=by
 have h0:=(Cm hg).1;have h1:=(Cm hg).2;simp;omega
section
variable {P : Program} {n : Nat} {c : Cx} {ops : Array Oper} {Q : Exit → Act → World → Prop} {rest : List Oper} {l : Fr} {H H' : List Ent} {d : Nat} {d' : Option Nat} {x y : Operand} {t ty e : TypeId} {pos : String} {af : Array Edge} {g : Option (Nat × Bool)} {k : IntKind} {b i len : Nat} {j : Int}
theorem Qj (ht:P.underlying t=some (.array len e))(hz:∀w,(sizeOf e).run P w = .ok 1 w)(hx:ev l x=some (rv (.pointer (some ⟨b,0,none⟩))))(hy:ev l y=some (rI k j))(hg:Cn j (len:Int)=true) :
  BD P n c l H { dst:=d',op:=.indexAddr t x y,type:=ty,pos:=pos,after:=af,guard:=g } (rv (.pointer (some ⟨b,j.toNat,none⟩))):=λa w Z ha hw=>DD<|by
 have h0:=(Cm hg).1;have h1:=(Cm hg).2;simp[execOp,ha.eval hx,ha.eval hy,Instr.indexAt,Instr.sureAddr,asIntOf,run_underlying ht,h0,h1,hz,Kt]
theorem Nk {α:Type}[Inhabited α]{enc:α→Rp}{ys:List α}(hag:∀w,(isAgg t).run P w = .ok false w)(hx:ev l x=some (rv (.pointer (some ⟨b,j.toNat,none⟩))))(hi:H[i]? =some (.blk b (List.map enc ys) e))(hg:Cn j (ys.length:Int)=true) :
  BD P n c l H { dst:=d',op:=.load t x,type:=ty,pos:=pos,after:=af,guard:=g } (enc (Ao ys j)):=Bc hag hx hi (AcV hg)
theorem X9 {α:Type}[Inhabited α]{enc:α→Rp}{ys:List α}{v:α}(hag:∀w,(sizeOf t).run P w = .ok 1 w)(hx:ev l x=some (rv (.pointer (some ⟨b,j.toNat,none⟩))))(hy:ev l y=some (enc v))(hv:Rh H (enc v))
  (hi:H[i]? =some (.blk b (List.map enc ys) e)) (hg:Cn j (ys.length:Int)=true) (hH:H.set i (.blk b (List.map enc (List.set ys j.toNat v)) e)=H')
  (h:WL P n c ops Q rest l H'):WL P n c ops Q ({ dst:=none,op:=.store t x y,type:=ty,pos:=pos,after:=af,guard:=none }::rest) l H:=
 Sd hag hx hy hv hi (Abz hg) (cs':=List.map enc (List.set ys j.toNat v)) (by rw[List.map_set]) hH h
end
section
variable {P : Program} {n : Nat} {c : Cx} {l : Fr} {H : List Ent} {d' : Option Nat} {x y : Operand} {t t' ty e te : TypeId} {pos : String} {af : Array Edge} {g : Option (Nat × Bool)} {k : IntKind} {b i len : Nat} {j : Int}
end
def QC (ops:List Oper)(N:Nat):Bool:=
 let cl:=M8 ops []
 (List.range ops.length).all (λi=>(Dg (ops.getD i default)).all (·<i))&&
 (List.range ops.length).all (λi=>i<N||(List.range i).all (λj=>(cl.getD i 0).testBit j))
section
variable {P : Program} {Q : Exit → Act → World → Prop}
theorem UL {listed:Array Bool}{len m:Nat}(hs:listed.size=len)(hm:m≤len)(h:∀j,j<len→(listed.getD j true=true↔j<m)):listed.toList.count false=len-m:=by
 have:listed.toList=List.replicate m true++List.replicate (len-m) false:=by
  apply List.ext_getElem
  ·simp[hs];omega
  ·intro j h1 h2;have hj:j<len:=by simpa[hs] using h1
   have:=h j hj;rw[Array.getD_eq_getD_getElem?,Array.getElem?_eq_getElem (by omega)] at this;simp only[Af5] at this;rw[Array.getElem_toList,List.getElem_append]
   split
   ·rename_i h3
    simp at h3;simp[this.2 h3]
   ·rename_i h3
    simp at h3;simp only[List.getElem_replicate]
    cases hb:listed[j] with
    | false=>rfl
    | true=>have:=this.1 hb;omega
 rw[this];simp[List.count_append,List.count_replicate]
theorem WT {listed:Array Bool}{j:Nat}(h:j<listed.size)(d d':Bool):listed.getD j d=listed.getD j d':=by
 simp[Array.getD_eq_getD_getElem?,Array.getElem?_eq_getElem h]
theorem QG {ops:List Oper}{listed:Array Bool}{i:Nat}{o:Oper}(ho:ops[i]? =some o)(hb:∀e∈Dg o,listed.getD e true=true)
  (hcl:∀j o,ops[j]? =some o→listed.getD j true=true→∀e∈Dg o,listed.getD e true=true) (j:Nat) (h:((M8 ops []).getD i 0).testBit j=true):j=i∨listed.getD j true=true:=
 Hw ops (λk=>k=i∨listed.getD k true=true) ops [] (λt o' ht e he hF=>by
  rcases hF with hF | hF
  ·simp at hF;subst hF;rw[ho] at ht;simp at ht;subst ht;exact .inr (hb e he)
  ·exact .inr (hcl t o' ht (by simpa using hF) e he)) (λj i hb=>by simp at hb) i j h (.inl rfl)
theorem Ms {ops:List Oper}{listed:Array Bool}{i:Nat}(hsz:listed.size=ops.length)(hlt:∀i,i<ops.length→∀e∈Dg (ops.getD i default),e<i)(h:i∈Region.ready .any ops.toArray listed) :
  listed.getD i true=false∧i<ops.length∧∃o,ops[i]? =some o∧∀e∈Dg o,listed.getD e true=true:=by
 obtain⟨h1,o,ho,h2⟩:=mem_ready.1 h;have ho':ops[i]? =some o:=by simpa using ho
 have hil:=(List.getElem?_eq_some_iff.1 ho').1;refine⟨h1,hil,o,ho',λe he=>?_⟩;have hei:=hlt i hil e (by rw[Afd,ho'];exact he);simp only[Dg,List.mem_map,List.mem_filter] at he;obtain⟨x,⟨hx1,hx2⟩,rfl⟩:=he;have h3:=h2 x (by simpa using hx1) hx2;rw[WT (by omega) true false];exact h3
theorem LZ {ops:List Oper}{listed:Array Bool}(hsz:listed.size=ops.length)(hlt:∀i,i<ops.length→∀e∈Dg (ops.getD i default),e<i)(h:Region.ready .any ops.toArray listed=[]) :
  ∀j,j<ops.length→listed.getD j true=true:=by
 intro j
 induction j using Nat.strongRecOn with
 | ind j ih=>
  intro hj
  cases hb:listed.getD j true with
  | true=>rfl
  | false=>
   have:j∈Region.ready .any ops.toArray listed:=mem_ready.2 ⟨hb,ops[j],by simp[hj],λe he hbn=>by
    have hel:e.on<j:=hlt j hj e.on (by
     rw[Afd,Aff hj];simp only[Dg,Af5,List.mem_map,List.mem_filter];exact⟨e,⟨by simpa using he,hbn⟩,rfl⟩)
    rw[WT (by omega) false true];exact ih e.on hel (by omega)⟩
   rw[h] at this;cases this
theorem Pj {listed:Array Bool}{i j:Nat}(hi:i<listed.size):(listed.setIfInBounds i true).getD j true=true↔(j=i∨listed.getD j true=true):=by
 by_cases hj:i=j
 ·subst hj;simp[hi]
 ·rw[getD_set_ne true hj];exact⟨.inr,λh=>h.elim (λh=>absurd h.symm hj) id⟩
theorem XD {listed:Array Bool}{i fuel:Nat}(hi:i<listed.size)(hun:listed.getD i true=false)(hc:listed.toList.count false=fuel+1):(listed.setIfInBounds i true).toList.count false=fuel:=by
 have hfi:listed.toList[i]? =some false:=by
  rw[Array.getD_eq_getD_getElem?,Array.getElem?_eq_getElem hi] at hun;simp at hun;simp[hi,hun]
 rw[Array.toList_setIfInBounds];have h1:=List.count_set (a:=true) (b:=false) (l:=listed.toList) (i:=i) (by simpa using hi);have h2:listed.toList[i]'(by simpa using hi)=false:=by
  have:=List.getElem?_eq_some_iff.1 hfi;exact this.2
 rw[h1,h2,hc];rfl
theorem O5 {ops:List Oper}{N:Nat}(hlt:∀i,i<ops.length→∀e∈Dg (ops.getD i default),e<i)
  (hch:∀i,N≤i→i<ops.length→∀j,j<i→((M8 ops []).getD i 0).testBit j=true):∀(k m:Nat) (listed:Array Bool) (a:Act) (w:World),m+k=ops.length→N≤m→listed.size=ops.length→
   (∀j,j<ops.length→(listed.getD j true=true↔j<m))→(∀j o,ops[j]? =some o→listed.getD j true=true→∀e∈Dg o,listed.getD e true=true)→wpList P ops.toArray Q (ops.drop m) a w→wpAny P .any ops.toArray Q k listed a w
 | 0,m,listed,a,w,hk,hN,hsz,hl,hcl,h=>by
  refine⟨?_,?_⟩
  ·cases hr:Region.ready .any ops.toArray listed with
   | nil=>rfl
   | cons i r=>
    obtain⟨h1,h2,_⟩:=Ms hsz hlt (i:=i) (by rw[hr];simp);rw[(hl i h2).2 (by omega)] at h1;cases h1
  ·rw[List.drop_of_length_le (by omega)] at h;exact h
 | k+1,m,listed,a,w,hk,hN,hsz,hl,hcl,h=>by
  refine⟨λhr=>?_,λi hi=>?_⟩
  ·have:=(hl m (by omega)).1 (LZ hsz hlt hr m (by omega));omega
  ·obtain⟨h1,h2,o,ho,hb⟩:=Ms hsz hlt hi;have him:i=m:=by
    have hmi : ¬ i<m:=λh'=>by rw[(hl i h2).2 h'] at h1;cases h1
    by_cases e:i=m
    ·exact e
    ·rcases QG ho hb hcl m (hch i (by omega) h2 m (by omega)) with h3 | h3
     ·exact h3.symm
     ·have:=(hl m (by omega)).1 h3;omega
   subst him;have hd:ops.drop i=o::ops.drop (i+1):=by
    rw[List.drop_eq_getElem_cons h2]
    congr 1
    exact(List.getElem?_eq_some_iff.1 ho).2
   rw[hd] at h;have ih:∀a' w',wpList P ops.toArray Q (ops.drop (i+1)) a' w'→wpAny P .any ops.toArray Q k (listed.setIfInBounds i true) a' w':=λa' w' h'=>by
    refine O5 hlt hch k (i+1) _ a' w' (by omega) (by omega) (by simpa using hsz) (λj hj=>?_) (λj o' hj hlj e he=>?_) h'
    ·rw[Pj (by omega),hl j hj];omega
    ·rw[Pj (by omega)] at hlj ⊢;rcases hlj with rfl | hlj
     ·rw[ho] at hj;simp at hj;subst hj;exact .inr (hb e he)
     ·exact .inr (hcl j o' hj hlj e he)
   unfold wpOp;have hoA:ops.toArray[i]? =some o:=by simpa using ho
   simp only[hoA];simp only[wpList] at h
   split
   ·rename_i hw'
    rw[AfP hw'] at h;exact h.imp (λh=>Oper.wp_mono ih h) (λh=>h)
   ·rename_i hw'
    rw[AfI hw'] at h;exact ih _ _ h
theorem Vf {id:Nat}{ops:List Oper}{N:Nat}(hm:P.follows .mixedOrders=true)(hB:QC ops N=true)(hN:N≤ops.length)(I:(Nat→Bool)→Act→World→Prop)
  (hext:∀S S' a w,(∀j,j<N→S j=S' j)→I S a w→I S' a w) {a:Act} {w:World} (h0:I (λ_=>false) a { w with drawn:=w.drawn+1 })
  (step:∀S i o a w,i<N→S i=false→ops[i]? =some o→(∀e∈Dg o,e<i∧S e=true)→I S a w→∀K:Act→World→Prop,(∀a' w',I (λj=>j ==i||S j) a' w'→K a' w')→
   (Region.wanted o (yielded ops.toArray a.tmps)=true→o.wp P a w K Q)∧(Region.wanted o (yielded ops.toArray a.tmps)=false→K (a.put o.dst undef) w))
  (fin:∀a w,I (λ_=>true) a w→wpList P ops.toArray Q (ops.drop N) a w):(Code.region id ops.toArray true).wp P Q a w:=by
 simp only[QC,Afb,Af8,List.mem_range,AeX,Af7] at hB;obtain⟨hlt,hch0⟩:=hB;have hch:∀i,N≤i→i<ops.length→∀j,j<i→((M8 ops []).getD i 0).testBit j=true:=λi h1 h2 j hj=>by
  rcases hch0 i h2 with h3 | h3
  ·omega
  ·exact h3 j hj
 refine wp_region_any hm ?_;have main:∀(fuel:Nat) (listed:Array Bool) (a:Act) (w:World),listed.size=ops.length→listed.toList.count false=fuel→I (λj=>listed.getD j true) a w→
   (∀j o,ops[j]? =some o→listed.getD j true=true→∀e∈Dg o,listed.getD e true=true)→(∀j,N≤j→j<ops.length→listed.getD j true=false)→wpAny P .any ops.toArray Q fuel listed a w:=by
  intro fuel;have allin:∀(fuel:Nat) (listed:Array Bool) (a:Act) (w:World),listed.size=ops.length→listed.toList.count false=fuel→I (λj=>listed.getD j true) a w→
   (∀j o,ops[j]? =some o→listed.getD j true=true→∀e∈Dg o,listed.getD e true=true)→(∀j,N≤j→j<ops.length→listed.getD j true=false)→(∀j,j<N→listed.getD j true=true)→wpAny P .any ops.toArray Q fuel listed a w:=by
   intro fuel listed a w hsz hc hI hcl hlast hall;have hl:∀j,j<ops.length→(listed.getD j true=true↔j<N):=λj hj=>by
    constructor
    ·intro h
     by_cases hjN:j<N
     ·exact hjN
     ·rw[hlast j (by omega) hj] at h;cases h
    ·exact hall j
   have:=UL hsz hN hl;refine O5 hlt hch fuel N listed a w (by omega) (Afy _) hsz hl hcl (fin a w (hext _ _ a w (λj hj=>hall j hj) hI))
  induction fuel with
  | zero=>
   intro listed a w hsz hc hI hcl hlast;refine allin 0 listed a w hsz hc hI hcl hlast (λj hj=>?_)
   cases hb:listed.getD j true with
   | true=>rfl
   | false=>
    have:false∈listed.toList:=by
     rw[Array.getD_eq_getD_getElem?,Array.getElem?_eq_getElem (by omega)] at hb;simp at hb;rw[← hb];simp
    have:=List.count_pos_iff.2 this;omega
  | succ fuel ih=>
   intro listed a w hsz hc hI hcl hlast
   by_cases hall:∀j,j<N→listed.getD j true=true
   ·exact allin (fuel+1) listed a w hsz hc hI hcl hlast hall
   ·refine⟨λhr=>absurd (λj hj=>LZ hsz hlt hr j (by omega)) hall,λi hi=>?_⟩;obtain⟨h1,h2,o,ho,hb⟩:=Ms hsz hlt hi;have hiN:i<N:=by
     by_cases h:i<N
     ·exact h
     ·refine absurd (λj hj=>?_) hall;rcases QG ho hb hcl j (hch i (by omega) h2 j (by omega)) with h3 | h3
      ·omega
      ·exact h3
    have K':∀a' w',I (λj=>j ==i||listed.getD j true) a' w'→wpAny P .any ops.toArray Q fuel (listed.setIfInBounds i true) a' w':=λa' w' hI'=>by
     refine ih _ a' w' (by simpa using hsz) (XD (by omega) h1 hc) (hext _ _ a' w' (λj hj=>?_) hI') (λj o' hj hlj e he=>?_) (λj h3 h4=>?_)
     ·have:=Pj (listed:=listed) (i:=i) (j:=j) (by omega)
      cases hq:(listed.setIfInBounds i true).getD j true with
      | true=>
       rw[hq] at this;rcases this.1 rfl with h | h
       ·simp[h]
       ·simp[h]
      | false=>
       rw[hq] at this;have h5 : ¬ (j=i∨listed.getD j true=true):=λh=>by have:=this.2 h;cases this
       cases hz:listed.getD j true with
       | true=>exact absurd (.inr hz) h5
       | false=>
        have:j≠i:=λh=>h5 (.inl h);simp[this]
     ·rw[Pj (by omega)] at hlj ⊢;rcases hlj with rfl | hlj
      ·rw[ho] at hj;simp at hj;subst hj;exact .inr (hb e he)
      ·exact .inr (hcl j o' hj hlj e he)
     ·rw[getD_set_ne true (by omega)];exact hlast j h3 h4
    obtain⟨k1,k2⟩:=step _ i o a w hiN h1 ho (λe he=>⟨hlt i h2 e (by rw[Afd,ho];exact he),hb e he⟩) hI _ K';unfold wpOp;have hoA:ops.toArray[i]? =some o:=by simpa using ho
    simp only[hoA]
    split
    ·rename_i hw';exact .inl (k1 hw')
    ·rename_i hw';exact k2 (by simpa using hw')
 have e0:∀j,j<ops.length→(Array.replicate ops.length false).getD j true=false:=λj hj=>by simp[hj]
 have hsz0:ops.toArray.size=ops.length:=by simp
 rw[hsz0];refine main ops.length (Array.replicate ops.length false) a _ (by simp) (by simp) (hext _ _ _ _ (λj hj=>(e0 j (by omega)).symm) h0) (λj o hj hl=>?_) (λj _ h2=>e0 j h2);rw[e0 j (List.getElem?_eq_some_iff.1 hj).1] at hl;cases hl
end
structure Sa where
 deps:List Nat
 r:Rp
 al:Option (List Rp×TypeId):=none
 late:Option (Nat×List Rp):=none
 sto:Option Nat:=none
def HY (sp:List Sa)(i:Nat):Sa:=sp.getD i { deps:=[],r:=rv undef }
def spq (sp:List Sa):List Sp:=sp.map λs=>⟨s.deps,s.r,0⟩
def NO (β:Nat→Nat)(s:Sa)(i:Nat):Rp:=match s.al with
 | none=>s.r
 | some _=>rv (.pointer (some ⟨β i,0,none⟩))
def On (S:Nat→Bool)(late:Option (Nat×List Rp))(cs:List Rp):List Rp:=match late with
 | none=>cs
 | some q=>if S q.1 then q.2 else cs
def Ic (S:Nat→Bool)(β:Nat→Nat):List Sa→Nat→List Ent
 | [],_=>[]
 | s::r,t=>match s.al with
  | some p=>if S t then .blk (β t) (On S s.late p.1) p.2::Ic S β r (t+1) else Ic S β r (t+1)
  | none=>Ic S β r (t+1)
def Yq (β:Nat→Nat):List Sa→Nat→List Ent
 | [],_=>[]
 | s::r,t=>match s.al with
  | some p=>.blk (β t) (match s.late with | none=>p.1 | some q=>q.2) p.2::Yq β r (t+1)
  | none=>Yq β r (t+1)
def MF (β:Nat→Nat):List Oper→List Sa→Nat→Fr→Fr
 | o::os,s::sp,i,l=>match o.dst with
  | some d=>(d,NO β s i)::MF β os sp (i+1) l
  | none=>MF β os sp (i+1) l
 | _,_,_,l=>l
theorem M7 {S S':Nat→Bool}{late:Option (Nat×List Rp)}{cs:List Rp}(h:∀q,late=some q→S q.1=S' q.1):On S late cs=On S' late cs:=by
 unfold On
 cases late with
 | none=>rfl
 | some q=>simp only[];rw[h q rfl]
theorem GO (S:Nat→Bool)(β:Nat→Nat)(s:Sa)(r:List Sa)(t:Nat):Ic S β (s::r) t=match s.al with
  | some p=>if S t then .blk (β t) (On S s.late p.1) p.2::Ic S β r (t+1) else Ic S β r (t+1)
  | none=>Ic S β r (t+1):=rfl
theorem IG {S S':Nat→Bool}{β β':Nat→Nat}:∀(r:List Sa) (t0:Nat),(∀(t:Nat) (s:Sa),r[t]? =some s→s.al≠none→S (t0+t)=S' (t0+t)∧(S (t0+t)=true→β (t0+t)=β' (t0+t)∧∀q,s.late=some q→S q.1=S' q.1))→Ic S β r t0=Ic S' β' r t0
 | [],_,_=>rfl
 | s::r,t0,h=>by
  have ih:=IG r (t0+1) (λt s hs hn=>by
   have:=h (t+1) s (by simpa using hs) hn;rw[show t0+1+t=t0+(t+1) from by omega];exact this)
  unfold Ic;rw[ih]
  cases ha:s.al with
  | none=>rfl
  | some p=>
   obtain⟨h1,h2⟩:=h 0 s rfl (by rw[ha];exact nofun);simp only[Nat.add_zero] at h1 h2;simp only[];rw[← h1]
   split
   ·rename_i hS;rw[(h2 hS).1,M7 (h2 hS).2]
   ·rfl
theorem UI (β:Nat→Nat):∀(r:List Sa) (t0:Nat),Ic (λ_=>true) β r t0=Yq β r t0
 | [],_=>rfl
 | s::r,t0=>by
  unfold Ic Yq;rw[UI β r (t0+1)]
  cases s.al with
  | none=>rfl
  | some p=>cases hl:s.late<;>simp[On,hl]
theorem RI (β:Nat→Nat):∀(r:List Sa) (t0:Nat),Ic (λ_=>false) β r t0=[]
 | [],_=>rfl
 | s::r,t0=>by
  unfold Ic;rw[RI β r (t0+1)]
  cases s.al<;>simp
theorem UH {S:Nat→Bool}{β:Nat→Nat}{i b:Nat}{p:List Rp×TypeId}:∀(r:List Sa) (t0 k:Nat) (s:Sa),i=t0+k→r[k]? =some s→s.al=some p→S i=false→(∀(t:Nat) (s:Sa) (q:Nat×List Rp),r[t]? =some s→s.al≠none→s.late=some q→q.1≠i)→(∀q,s.late=some q→S q.1=false∧q.1≠i)→
  (Ic (λj=>j ==i||S j) (λj=>if j=i then b else β j) r t0).Perm (.blk b p.1 p.2::Ic S β r t0)
 | [],_,_,_,_,h,_,_,_,_=>by simp at h
 | s'::r,t0,0,s,hi,h,ha,hS,hne,hl=>by
  simp at h hi;subst h;subst hi;have e:=IG (S:=λj=>j ==i||S j) (S':=S) (β:=λj=>if j=i then b else β j) (β':=β) r (i+1) (λt s hs hn=>by
   have:i+1+t≠i:=by omega
   refine⟨by simp[this],λ_=>⟨by simp[this],λq hq=>?_⟩⟩;have:=hne (t+1) s q (by simpa using hs) hn hq;simp[this])
  have ec:On (λj=>j ==i||S j) s'.late p.1=p.1:=by
   unfold On
   cases hq:s'.late with
   | none=>rfl
   | some q=>
    obtain⟨h1,h2⟩:=hl q hq;simp[h1,h2]
  unfold Ic;rw[e,ha];simp only[hS,BEq.rfl,Afx,Af9,ec];simp
 | s'::r,t0,k+1,s,hi,h,ha,hS,hne,hl=>by
  have ih:=UH (S:=S) (β:=β) (i:=i) (b:=b) (p:=p) r (t0+1) k s (by omega) (by simpa using h) ha hS (λt s q hs=>hne (t+1) s q (by simpa using hs)) hl;have hne0:t0≠i:=by omega
  have hne':(t0 ==i)=false:=by simpa using hne0
  unfold Ic
  cases ha':s'.al with
  | none=>exact ih
  | some q=>
   simp only[hne',Afq,AfI hne0];rw[M7 (S:=λj=>j ==i||S j) (S':=S) (λq hq=>by
    have:=hne 0 s' q rfl (by rw[ha'];exact nofun) hq;simp[this])]
   cases hS':S t0 with
   | true=>simpa using(Afj _ ih).trans (List.Perm.swap _ _ _)
   | false=>simpa using ih
theorem UG {S:Nat→Bool}{β:Nat→Nat}{i j:Nat}{p:List Rp×TypeId}{ncs:List Rp}:∀(r:List Sa) (t0 k:Nat) (s:Sa),j=t0+k→r[k]? =some s→s.al=some p→s.late=some (i,ncs)→S j=true→S i=false→(∀(t:Nat) (s:Sa) (q:Nat×List Rp),r[t]? =some s→s.al≠none→s.late=some q→t0+t≠j→q.1≠i)→(∀(t:Nat) (s:Sa),r[t]? =some s→s.al≠none→t0+t≠i)→
  ∃H',(Ic S β r t0).Perm (.blk (β j) p.1 p.2::H')∧(Ic (λj=>j ==i||S j) β r t0).Perm (.blk (β j) ncs p.2::H')
 | [],_,_,_,_,h,_,_,_,_,_,_=>by simp at h
 | s'::r,t0,0,s,hj,h,ha,hl,hSj,hSi,hne,hni=>by
  simp at h hj;subst h;subst hj;have e:=IG (S:=λx=>x ==i||S x) (S':=S) (β:=β) (β':=β) r (j+1) (λt s hs hn=>by
   have h1:=hni (t+1) s (by simpa using hs) hn;have h1':j+1+t≠i:=by omega
   refine⟨by simp[h1'],λ_=>⟨rfl,λq hq=>?_⟩⟩;have:=hne (t+1) s q (by simpa using hs) hn hq (by omega);simp[this])
  refine⟨Ic S β r (j+1),?_,?_⟩
  ·rw[GO];rw[ha];simp[hSj,On,hl,hSi]
  ·rw[GO];rw[ha,e];simp[hSj,On,hl]
 | s'::r,t0,k+1,s,hj,h,ha,hl,hSj,hSi,hne,hni=>by
  obtain⟨H',h1,h2⟩:=UG (S:=S) (β:=β) (i:=i) (j:=j) (p:=p) (ncs:=ncs) r (t0+1) k s (by omega) (by simpa using h) ha hl hSj hSi (λt s q hs hn hq hx=>hne (t+1) s q (by simpa using hs) hn hq (by omega)) (λt s hs hn=>by
   have:=hni (t+1) s (by simpa using hs) hn;omega)
  cases ha':s'.al with
  | none=>exact⟨H',by rw[GO,ha'];exact h1,by rw[GO,ha'];exact h2⟩
  | some q=>
   have hi0:=hni 0 s' rfl (by rw[ha'];exact nofun);have hi0':(t0 ==i)=false:=by simpa using hi0
   have ec:On (λx=>x ==i||S x) s'.late q.1=On S s'.late q.1:=M7 (λq hq=>by
    have:=hne 0 s' q rfl (by rw[ha'];exact nofun) hq (by omega);simp[this])
   cases hS':S t0 with
   | true=>
    refine⟨.blk (β t0) (On S s'.late q.1) q.2::H',?_,?_⟩
    ·rw[GO];rw[ha'];simpa[hS'] using(Afj _ h1).trans (List.Perm.swap _ _ _)
    ·rw[GO];rw[ha'];simp only[hi0',Afq,hS',Af9,ec];exact(Afj _ h2).trans (List.Perm.swap _ _ _)
   | false=>
    refine⟨H',?_,?_⟩
    ·rw[GO];rw[ha'];simpa[hS'] using h1
    ·rw[GO];rw[ha'];simp only[hi0',Afq,hS'];simpa using h2
def okA (n:Nat)(ops:List Oper)(N:Nat)(keys:List Nat)(deps:List (List Nat))(als:List Bool)(lates stos:List (Option Nat)):Bool:=
 QC ops N&&decide (N≤ops.length)&&
 (List.range N).all (λi=>match C0 ops i with
  | some d=>decide (d<n)&&!keys.contains d&&(List.range N).all (λj=>j ==i||C0 ops j !=some d)
  | none=>true)&&
 (List.range N).all (λi=>(deps.getD i []).all (λj=>decide (j<N)&&(Dg (ops.getD i default)).contains j&&!als.getD j true))&&
 (List.range N).all (λi=>match stos.getD i none with
  | some j=>decide (j<N)&&(Dg (ops.getD i default)).contains j&&als.getD j false&&!als.getD i true
  | none=>true)&&
 (List.range N).all (λj=>match lates.getD j none with
  | some k=>decide (k<N)&&als.getD j false&&stos.getD k none ==some j
  | none=>true)
def AeL (P:Program)(n:Nat)(c:Cx)(opsA:Array Oper)(Q:Exit→Act→World→Prop)(l:Fr)(o:Oper)(p:List Rp×TypeId):Prop:=
 ∀H a w Z (K:Act→World→Prop),Dh n l a Z→St c H Z w→(∀b w',St c (.blk b p.1 p.2::H) Z w'→K (a.put o.dst (.pointer (some ⟨b,0,none⟩))) w')→
  Region.wanted o (yielded opsA a.tmps)=true∧o.wp P a w K Q
def ObA (P:Program)(n:Nat)(c:Cx)(opsA:Array Oper)(Q:Exit→Act→World→Prop)(ops:List Oper)(sp:List Sa)(l0:Fr)(H:List Ent)(i:Nat)(o:Oper):Prop:=
 match (HY sp i).sto with
 | some j=>o.dst=none∧∃d p ncs,C0 ops j=some d∧(HY sp j).al=some p∧(HY sp j).late=some (i,ncs)∧
   ∀b H,DO P n c opsA Q ((d,rv (.pointer (some ⟨b,0,none⟩)))::Ck ops (spq sp) (HY sp i).deps l0) (.blk b p.1 p.2::H) o (rv undef) (.blk b ncs p.2::H)
 | none=>match (HY sp i).al with
  | none=>∀E,DO P n c opsA Q (Ck ops (spq sp) (HY sp i).deps l0) (H++E) o (HY sp i).r (H++E)
  | some p=>AeL P n c opsA Q (Ck ops (spq sp) (HY sp i).deps l0) o p
def Oz (P:Program)(n:Nat)(c:Cx)(opsA:Array Oper)(Q:Exit→Act→World→Prop)(ops:List Oper)(sp:List Sa)(l0:Fr)(H:List Ent):Nat→List Oper→Prop
 | i,o::rest=>ObA P n c opsA Q ops sp l0 H i o∧Oz P n c opsA Q ops sp l0 H (i+1) rest
 | _,[]=>True
section
variable {P : Program} {n : Nat} {c : Cx} {opsA : Array Oper} {Q : Exit → Act → World → Prop} {l l0 : Fr} {H : List Ent} {sp : List Sa}
theorem Oz.at {ops:List Oper}:∀{k:Nat} {rest:List Oper},Oz P n c opsA Q ops sp l0 H k rest→∀(t:Nat) o,rest[t]? =some o→ObA P n c opsA Q ops sp l0 H (k+t) o
 | k,o::rest,⟨h1,h2⟩,t,o',ht=>by
  cases t with
  | zero=>simp at ht;subst ht;exact h1
  | succ t=>
   have:=Oz.at h2 t o' (by simpa using ht);rw[show k+(t+1)=k+1+t from by omega];exact this
 | _,[],_,t,o,h=>by simp at h
theorem Py {β:Nat→Nat}{a:Act}{Z:Fz}(h0:Dh n l0 a Z):∀(os:List Oper) (ss:List Sa) (k:Nat),(∀(t:Nat) o s d,os[t]? =some o→ss[t]? =some s→o.dst=some d→∃v,a.tmps[d]? =some v∧(NO β s (k+t)).p Z v)→Dh n (MF β os ss k l0) a Z
 | [],_,_,_=>by unfold MF;exact h0
 | _::_,[],_,_=>by unfold MF;exact h0
 | o::os,s::ss,k,h=>by
  have ih:=Py h0 os ss (k+1) (λt o' s' d h1 h2 h3=>by
   have:=h (t+1) o' s' d (by simpa using h1) (by simpa using h2) h3;rw[show k+1+t=k+(t+1) from by omega];exact this)
  unfold MF
  cases hd:o.dst with
  | none=>exact ih
  | some d=>
   refine⟨ih.size,ih.defers,λi r hi=>?_⟩;rw[C4] at hi
   split at hi
   ·rename_i e;subst e;simp at hi;subst hi;exact h 0 o s d rfl rfl hd
   ·exact ih.tm i r hi
theorem Ac1 {id:Nat}{ops:List Oper}(N:Nat)(sp:List Sa)(hm:P.follows .mixedOrders=true)(hB:okA n ops N (ER l0) (sp.map (·.deps)) (sp.map (·.al.isSome)) (sp.map (·.late.map (·.1))) (sp.map (·.sto))=true)(hl0:UU l0 l)(hsp:sp.length=N)
  (hob:Oz P n c ops.toArray Q ops sp l0 H 0 (ops.take N)) (h:∀β,WL P n c ops.toArray Q (ops.drop N) (MF β (ops.take N) sp 0 l0) (H++Yq β sp 0)):WC P n c (.region id ops.toArray true) Q l H:=by
 intro a w Z ha hw;simp only[okA,Afb,Af8,List.mem_range,AeX] at hB;obtain⟨⟨⟨⟨⟨b1,bN⟩,b2⟩,b3⟩,b4⟩,b5⟩:=hB;have hget:∀i,i<N→(ops.take N)[i]? =ops[i]?:=λi hi=>by rw[AfD,AfP hi]
 have hsa:∀i,i<N→sp[i]? =some (HY sp i):=λi hi=>by
  simp[HY,Afd,Aff (show i<sp.length by omega)]
 have hspq:∀i,i<N→(Ev (spq sp) i)=⟨(HY sp i).deps,(HY sp i).r,0⟩:=λi hi=>by
  simp[Ev,spq,Afd,Af4,hsa i hi]
 have hals:∀j b,j<N→(sp.map (·.al.isSome)).getD j b=(HY sp j).al.isSome:=λj b hj=>by simp[Afd,Af4,hsa j hj]
 have hstos:∀j,j<N→(sp.map (·.sto)).getD j none=(HY sp j).sto:=λj hj=>by simp[Afd,Af4,hsa j hj]
 have hlates:∀j,j<N→(sp.map (·.late.map (·.1))).getD j none=(HY sp j).late.map (·.1):=λj hj=>by simp[Afd,Af4,hsa j hj]
 have S1:∀i o j,i<N→ops[i]? =some o→(HY sp i).sto=some j→j<N∧j∈Dg o∧(HY sp j).al≠none∧(HY sp i).al=none:=λi o j hi ho hs=>by
  have h1:=b4 i hi;rw[hstos i hi,hs] at h1;simp only[Afb,Af0,AeX] at h1;obtain⟨⟨⟨h2,h3⟩,h4⟩,h5⟩:=h1;rw[hals j _ h2] at h4;rw[hals i _ hi] at h5;rw[Afd,ho,Af5,List.contains_iff_mem] at h3;exact⟨h2,h3,λe=>(by rw[e] at h4;cases h4),(by simpa using h5)⟩
 have L1:∀t q,t<N→(HY sp t).late=some q→q.1<N∧(HY sp q.1).sto=some t:=λt q ht hq=>by
  have h1:=b5 t ht;rw[hlates t ht,hq] at h1;simp only[Option.map_some,Afb,AeX,beq_iff_eq] at h1;obtain⟨⟨h2,h3⟩,h4⟩:=h1;rw[hstos _ h2] at h4;exact⟨h2,h4⟩
 have hops:∀j,j<N→∃o,ops[j]? =some o:=λj hj=>⟨ops[j]'(by omega),Aff (by omega)⟩
 have lt_of:∀(t:Nat) (s:Sa),sp[t]? =some s→t<N∧s=HY sp t:=λt s hs=>by
  have h1:t<N:=by have:=(List.getElem?_eq_some_iff.1 hs).1;omega
  refine⟨h1,?_⟩;rw[hsa t h1] at hs;simpa using hs.symm
 have hdst:∀i o d,i<N→ops[i]? =some o→o.dst=some d→(d<n∧d ∉ ER l0)∧∀j,j<N→j≠i→C0 ops j≠some d:=λi o d hi ho hd=>by
  have h3:=b2 i hi;have:C0 ops i=some d:=by simp[C0,ho,hd]
  rw[this] at h3;simp only[Afb,Af0,Af8,List.mem_range,AeX] at h3;refine⟨⟨h3.1.1,λhmem=>by rw[← List.contains_iff_mem] at hmem;rw[hmem] at h3;cases h3.1.2⟩,λj hj hne he=>?_⟩;have:=h3.2 j hj;simp[hne,he] at this
 refine Vf (N:=N) hm b1 bN (λS a w=>∃ (β:Nat→Nat) (Z:Fz),St c (H++Ic S β sp 0) Z w∧Dh n l0 a Z∧(∀j o d,j<N→S j=true→ops[j]? =some o→o.dst=some d→∃v,a.tmps[d]? =some v∧(NO β (HY sp j) j).p Z v)∧
   ∀k j,k<N→(HY sp k).sto=some j→S k=true→S j=true)
  (λS S' a w hS hI=>?_) ⟨λ_=>0,Z,?_,ha.subL hl0,λj o d _ hS=>(by cases hS),λk j _ _ hS=>(by cases hS)⟩ (λS i o a w hi hun ho hb hI K hK=>?_) (λa w hI=>?_)
 ·obtain⟨β,Z,h1,h2,h3,h4⟩:=hI;refine⟨β,Z,?_,h2,λj o d hj hS'=>h3 j o d hj (by rw[hS j hj];exact hS'),λk j hk hs hSk=>?_⟩
  ·rw[← IG (S:=S) (β:=β) (β':=β) sp 0 (λt s hs _=>by
    obtain⟨ht,rfl⟩:=lt_of t s hs;exact⟨hS _ (by omega),λ_=>⟨rfl,λq hq=>hS _ (L1 t q ht hq).1⟩⟩)]
   exact h1
  ·obtain⟨o,ho⟩:=hops k hk;rw[← hS j (S1 k o j hk ho hs).1];exact h4 k j hk hs (by rw[hS k hk];exact hSk)
 ·rw[RI,AfO];exact hw.drawn _
 ·obtain⟨β,Z,h1,h2,h3,hx⟩:=hI;have hput:∀k u v,a.tmps[k]? =some u→o.dst≠some k→(a.put o.dst v).tmps[k]? =some u:=λk u v hk hne=>by
   cases hd:o.dst with
   | none=>simpa[Act.put] using hk
   | some d=>
    simp only[Act.put,Array.getElem?_setIfInBounds];rw[AfI (λe=>hne (by rw[hd,e]))];exact hk
  have hagr:∀v Z',Fz.le Z Z'→Dh n l0 (a.put o.dst v) Z':=λv Z' hz=>by
   refine⟨?_,?_,λk r hk=>?_⟩
   ·cases o.dst<;>simp[Act.put,h2.size]
   ·cases o.dst<;>simp[Act.put,h2.defers]
   ·obtain⟨u,hu,hpu⟩:=h2.tm k r hk;exact⟨u,hput k u v hu (λe=>((hdst i o k hi ho e).1).2 (KX hk)),r.mono hz hpu⟩
  have hvals:∀(v:Value) (Z':Fz) (β':Nat→Nat),Fz.le Z Z'→(∀j,j≠i→β' j=β j)→(o.dst≠none→(NO β' (HY sp i) i).p Z' v)→∀j o' d,j<N→(j ==i||S j)=true→ops[j]? =some o'→o'.dst=some d→∃u,(a.put o.dst v).tmps[d]? =some u∧(NO β' (HY sp j) j).p Z' u:=by
   intro v Z' β' hz hβ hp j o' d hj hS' ho' hd
   by_cases hji:j=i
   ·subst hji;rw[ho] at ho';simp at ho';subst ho';refine⟨v,?_,hp (by simp[hd])⟩;have hdn:d<a.tmps.size:=by rw[h2.size];exact(hdst j o d hi ho hd).1.1
    simp[Act.put,hd,hdn]
   ·have hSj:S j=true:=by simpa[hji] using hS'
    obtain⟨u,hu,hpu⟩:=h3 j o' d hj hSj ho' hd;refine⟨u,hput d u v hu (λe=>(hdst i o d hi ho e).2 j hj hji (by simp[C0,ho',hd])),?_⟩;have:NO β' (HY sp j) j=NO β (HY sp j) j:=by unfold NO;rw[hβ j hji]
    rw[this];exact(NO β (HY sp j) j).mono hz hpu
  have hx':∀k j,k<N→(HY sp k).sto=some j→(k ==i||S k)=true→(j ==i||S j)=true:=λk j hk hs hSk=>by
   by_cases hki:k=i
   ·subst hki;have:=(hb j (S1 k o j hk ho hs).2.1).2;simp[this]
   ·have:S j=true:=hx k j hk hs (by simpa[hki] using hSk);simp[this]
  have hat:=hob.at i o (by rw[hget i hi];exact ho);rw[AfA] at hat;unfold ObA at hat;have hag':Dh n (Ck ops (spq sp) (HY sp i).deps l0) a Z:=LK h2 (λj hj d hd=>by
    have h4:=b3 i hi j (by simpa[Afd,Af4,hsa i hi] using hj);simp only[Afb,Af0,AeX] at h4;obtain⟨⟨h5,h6⟩,h7⟩:=h4;rw[Afd,ho,Af5,List.contains_iff_mem] at h6;have hjal:(HY sp j).al=none:=by
     rw[hals j _ h5] at h7;simpa using h7
    obtain⟨o2,ho2⟩:=hops j h5;obtain⟨v,hv1,hv2⟩:=h3 j o2 d h5 (hb j h6).2 ho2 (by simpa[C0,ho2] using hd);refine⟨v,hv1,?_⟩;rw[hspq j h5];simpa[NO,hjal] using hv2)
  cases hst:(HY sp i).sto with
  | some j=>
   rw[hst] at hat;obtain⟨hod,d,p,ncs,hd,hal,hlate,hok⟩:=hat;obtain⟨hjN,hjb,_,hial⟩:=S1 i o j hi ho hst;have hSj:=(hb j hjb).2;obtain⟨H',p1,p2⟩:=UG (S:=S) (β:=β) (i:=i) (j:=j) (p:=p) (ncs:=ncs) sp 0 j (HY sp j) (by omega) (hsa j hjN) hal hlate hSj hun (λt s q hs _ hq hne he=>by
     obtain⟨ht,rfl⟩:=lt_of t s hs;have:=(L1 t q ht hq).2;rw[he,hst] at this;simp at this;omega) (λt s hs hn he=>by
     obtain⟨ht,rfl⟩:=lt_of t s hs;rw[AfA] at he;subst he;exact hn hial)
   obtain⟨o2,ho2⟩:=hops j hjN;obtain⟨v,hv1,hv2⟩:=h3 j o2 d hjN hSj ho2 (by simpa[C0,ho2] using hd);have hag2:Dh n ((d,rv (.pointer (some ⟨β j,0,none⟩)))::Ck ops (spq sp) (HY sp i).deps l0) a Z:=⟨hag'.size,hag'.defers,λk r hk=>by
    rw[C4] at hk
    split at hk
    ·rename_i e;subst e;simp at hk;subst hk
     exact⟨v,hv1,by simpa[NO,hal] using hv2⟩
    ·exact hag'.tm k r hk⟩
   refine hok (β j) (H++H') a w Z K hag2 (h1.perm ((List.Perm.append_left H p1).trans List.perm_middle)) (λv w' Z' hz _ hs'=>hK _ _ ⟨β,Z',?_,hagr v Z' hz,hvals v Z' β hz (λ_ _=>rfl) (λhne=>absurd hod hne),hx'⟩);exact hs'.perm (List.perm_middle.symm.trans (List.Perm.append_left H p2.symm))
  | none=>
   rw[hst] at hat;have latene:∀t q,t<N→(HY sp t).late=some q→q.1≠i:=λt q ht hq he=>by
    have:=(L1 t q ht hq).2;rw[he,hst] at this;cases this
   cases hal:(HY sp i).al with
   | none=>
    rw[hal] at hat;refine hat _ a w Z K hag' h1 (λv w' Z' hz hp hst'=>hK _ _ ⟨β,Z',?_,hagr v Z' hz,hvals v Z' β hz (λ_ _=>rfl) (λ_=>by unfold NO;rw[hal];exact hp),hx'⟩);rw[IG (S':=S) (β':=β) sp 0 (λt s hs hn=>by
     obtain⟨ht,rfl⟩:=lt_of t s hs;have:t≠i:=λe=>by subst e;exact hn hal
     refine⟨by simp[this],λ_=>⟨rfl,λq hq=>?_⟩⟩;have:=latene t q ht hq;simp[this])]
    exact hst'
   | some p=>
    rw[hal] at hat;have key:=λK' hK'=>hat (H++Ic S β sp 0) a w Z K' hag' h1 hK';have h5:∀b w',St c (.blk b p.1 p.2::(H++Ic S β sp 0)) Z w'→K (a.put o.dst (.pointer (some ⟨b,0,none⟩))) w':=λb w' hst'=>by
     refine hK _ _ ⟨λj=>if j=i then b else β j,Z,?_,hagr _ Z (Fz.le.refl _),hvals _ Z _ (Fz.le.refl _) (λj hj=>by simp[hj]) (λ_=>by simp[NO,hal,rv]),hx'⟩;have hp:=UH (S:=S) (β:=β) (i:=i) (b:=b) (p:=p) sp 0 i (HY sp i) (by omega) (hsa i hi) hal hun (λt s q hs _ hq=>by
      obtain⟨ht,rfl⟩:=lt_of t s hs;exact latene t q ht hq) (λq hq=>by
       refine⟨?_,latene i q hi hq⟩
       cases hS:S q.1 with
       | false=>rfl
       | true=>
        obtain⟨h6,h7⟩:=L1 i q hi hq;have:=hx q.1 i h6 h7 hS;rw[this] at hun;cases hun)
     exact hst'.perm ((List.perm_middle.symm).trans (List.Perm.append_left H hp.symm))
    refine⟨λ_=>(key K h5).2,λhw'=>?_⟩;rw[(key K h5).1] at hw';cases hw'
 ·obtain⟨β,Z,h1,h2,h3,_⟩:=hI;refine h β a w Z (Py h2 _ _ 0 (λt o s d ht hs hd=>?_)) (by rw[← UI];exact h1);obtain⟨htN,rfl⟩:=lt_of t s hs;rw[AfA];exact h3 t o d htN rfl (by rw[← hget t htN];exact ht) hd
end
section
variable {P : Program} {n : Nat} {c : Cx} {opsA : Array Oper} {Q : Exit → Act → World → Prop} {l l0 : Fr} {H : List Ent} {sp : List Sa}
theorem JV {id:Nat}{ops:List Oper}(N:Nat)(ks0:List Nat)(sp:List Sa)(hob:Oz P n c ops.toArray Q ops sp l0 H 0 (ops.take N))(h:∀β,WL P n c ops.toArray Q (ops.drop N) (MF β (ops.take N) sp 0 l0) (H++Yq β sp 0))
  (h0:Kp ks0 l l0:=by repeat (first | exact OX | (apply M0;rfl) | (apply Ns;rfl))) (hm:P.follows .mixedOrders=true:=by kernel_rfl) (hB:okA n ops N (ER l0) (sp.map (·.deps)) (sp.map (·.al.isSome)) (sp.map (·.late.map (·.1))) (sp.map (·.sto))=true:=by kernel_rfl)
  (hsp:sp.length=N:=by rfl):WC P n c (.region id ops.toArray true) Q l H:=Ac1 N sp hm hB h0.one hsp hob h
theorem Mw {all rest:List Oper}{d:Nat}{op:Op}{ty:TypeId}{pos:String}{af:Array Edge}{i:Nat}
  (hr:∀{H},BD P n c (Ck all (spq sp) (HY sp i).deps l0) H { dst:=some d,op:=op,type:=ty,pos:=pos,after:=af,guard:=none } (HY sp i).r) (h:Oz P n c opsA Q all sp l0 H (i+1) rest) (ha:(HY sp i).al=none:=by rfl) (hs:(HY sp i).sto=none:=by rfl) :
  Oz P n c opsA Q all sp l0 H i ({ dst:=some d,op:=op,type:=ty,pos:=pos,after:=af,guard:=none }::rest):=by
 refine⟨?_,h⟩;unfold ObA;rw[hs,ha];exact λ_=>D2 hr
theorem SV {all rest:List Oper}{d:Nat}{op:Op}{ty:TypeId}{pos:String}{af:Array Edge}{i:Nat}
  (hr:∀{E},BD P n c (Ck all (spq sp) (HY sp i).deps l0) (H++E) { dst:=some d,op:=op,type:=ty,pos:=pos,after:=af,guard:=none } (HY sp i).r) (h:Oz P n c opsA Q all sp l0 H (i+1) rest) (ha:(HY sp i).al=none:=by rfl) (hs:(HY sp i).sto=none:=by rfl) :
  Oz P n c opsA Q all sp l0 H i ({ dst:=some d,op:=op,type:=ty,pos:=pos,after:=af,guard:=none }::rest):=by
 refine⟨?_,h⟩;unfold ObA;rw[hs,ha];exact λ_=>D2 hr
theorem oae {all:List Oper}{i:Nat}:Oz P n c opsA Q all sp l0 H i []:=trivial
end
structure Kza (ks:List Nat) (β:Nat→Nat) (os:List Oper) (sp:List Sa) (i:Nat) (l0 l1:Fr):Prop where
 go:Kp ks (MF β os sp i l0) l1
section
variable {ks : List Nat} {β : Nat → Nat} {os : List Oper} {sp : List Sa} {i d : Nat} {l0 l1 : Fr} {ds : List Nat} {r : Rp} {p : List Rp × TypeId} {lt : Option (Nat × List Rp)} {so : Option Nat} {op : Op} {ty : TypeId} {pos : String} {af : Array Edge} {g : Option (Nat × Bool)}
theorem AdU (h:ks.contains d=true)(t:Kza ks β os sp (i+1) l0 l1):Kza ks β ({ dst:=some d,op:=op,type:=ty,pos:=pos,after:=af,guard:=g }::os) ({ deps:=ds,r:=r,sto:=so }::sp) i l0 ((d,r)::l1):=⟨M0 h t.go⟩
theorem AdX (h:ks.contains d=true)(t:Kza ks β os sp (i+1) l0 l1):Kza ks β ({ dst:=some d,op:=op,type:=ty,pos:=pos,after:=af,guard:=g }::os) ({ deps:=ds,r:=r,al:=some p,late:=lt,sto:=so }::sp) i l0 ((d,rv (.pointer (some ⟨β i,0,none⟩)))::l1):=⟨M0 h t.go⟩
theorem AdW {s:Sa}(h:ks.contains d=false)(t:Kza ks β os sp (i+1) l0 l1):Kza ks β ({ dst:=some d,op:=op,type:=ty,pos:=pos,after:=af,guard:=g }::os) (s::sp) i l0 l1:=⟨Ns h t.go⟩
theorem AdV {s:Sa}(t:Kza ks β os sp (i+1) l0 l1):Kza ks β ({ dst:=none,op:=op,type:=ty,pos:=pos,after:=af,guard:=g }::os) (s::sp) i l0 l1:=⟨t.go⟩
theorem AdY (t:Kp ks l0 l1):Kza ks β [] [] i l0 l1:=⟨t⟩
theorem HF {P:Program}{n:Nat}{c:Cx}{opsA:Array Oper}{Q:Exit→Act→World→Prop}{rest:List Oper}{H H1:List Ent}(ks:List Nat)(h:WL P n c opsA Q rest l1 H1)
  (hz:Kza ks β os sp i l0 l1:=by repeat (first | (apply AdU;rfl) | (apply AdX;rfl) | (apply AdW;rfl) | apply AdV | apply AdY | exact OX | (apply M0;rfl) | (apply Ns;rfl))) (hH:H=H1:=by rfl) :
  WL P n c opsA Q rest (MF β os sp i l0) H:=λa w Z ha hw=>h a w Z (ha.subL hz.go.one) (hH▸hw)
end
section
variable {P : Program} {n : Nat} {c : Cx} {opsA : Array Oper} {Q : Exit → Act → World → Prop} {l l0 : Fr} {H : List Ent} {sp : List Sa}
theorem oac {all rest:List Oper}{o:Oper}{i:Nat}(hr:∀{E},DO P n c opsA Q (Ck all (spq sp) (HY sp i).deps l0) (H++E) o (HY sp i).r (H++E))(h:Oz P n c opsA Q all sp l0 H (i+1) rest)(ha:(HY sp i).al=none:=by rfl)(hs:(HY sp i).sto=none:=by rfl):Oz P n c opsA Q all sp l0 H i (o::rest):=by
 refine⟨?_,h⟩;unfold ObA;rw[hs,ha];exact λ_=>hr
end
def rBx (p:Bool→Prop):Rp:=⟨λ_ v=>∃b,v = .bool b∧p b,λ_ h=>h,true,λ_ Z v ⟨b,e,_⟩=>by rw[e];rfl⟩
section
variable {P : Program} {n : Nat} {c : Cx} {ops : Array Oper} {Q : Exit → Act → World → Prop} {rest : List Oper} {l : Fr} {H : List Ent} {d : Option Nat} {ty rty t e : TypeId} {pos : String} {af : Array Edge} {g : Option (Nat × Bool)} {r : Rp} {x : Operand} {cx cy : Code} {sz : Nat} {xs : List (List Rp)}
theorem MJ {o:Operand}{p:Bool→Prop}(ho:ev l o=some (rBx p))(h1:p true→WC P n c cx Q l H)(h2:p false→WC P n c cy Q l H):WC P n c (.cond o cx cy) Q l H:=λa w Z ha hw=>by
 obtain⟨b,e,hp⟩:=ha.ev ho;exact wp_cond_split e (λe=>h1 (e▸hp) a w Z ha hw) (λe=>h2 (e▸hp) a w Z ha hw)
theorem L6 (ht:P.underlying t=some (.slice e))(h:ev l x=some (AJ sz xs)):BD P n c l H { dst:=d,op:=.binOp .eql t x (.const (.slice none 0 0)) rty,type:=ty,pos:=pos,after:=af,guard:=g } (rBx (λb=>b=true→xs=[])):=λa w Z ha hw=>by
 obtain⟨A,cap,e1,h1,h2,h3,h4⟩:=ha.ev h;refine⟨.bool A.isNone,⟨_,rfl,λhb=>?_⟩,?_⟩
 ·cases A with
  | some a=>cases hb
  | none=>
   have:=h3 rfl;exact List.length_eq_zero_iff.1 (by omega)
 ·have:=run_equal_slice_nil (P:=P) w t e A xs.length cap ht;have e2:a.eval (.const (.slice none 0 0)) = .slice none 0 0:=rfl;simp[execOp,e1,e2,binOp,this,eqGuard]
end
section
variable {P : Program} {n : Nat} {c : Cx} {l : Fr} {H : List Ent} {d : Option Nat} {ty rty t e : TypeId} {pos : String} {af : Array Edge} {g : Option (Nat × Bool)} {x : Operand} {sz : Nat}
end
theorem Il (s:ByteArray):MapKept.IsKey .string (.string s):=by simp[MapKept.IsKey]
theorem MC.keys {Z:Fz}:∀{f:List (List UInt8×Rp)} {es:List MapEntry},MC Z f es→∀x∈es,MapKept.IsKey .string x.key
 | [],[],_,x,hx=>by cases hx
 | p::f,e::es,⟨⟨h1,h2⟩,h3⟩,x,hx=>by
  rcases List.mem_cons.1 hx with rfl | hx
  ·rw[h1];exact Il _
  ·exact MC.keys h3 x hx
theorem MC.at {Z:Fz}:∀{f:List (List UInt8×Rp)} {es:List MapEntry},MC Z f es→f.length=es.length∧∀(j:Nat) (e:MapEntry),es[j]? =some e→∃k r,f[j]? =some (k,r)∧e.key = .string (B k)∧r.p Z e.val
 | [],[],_=>⟨rfl,λj e h=>by simp at h⟩
 | p::f,e::es,⟨⟨h1,h2⟩,h3⟩=>by
  obtain⟨hl,ha⟩:=MC.at h3;refine⟨by simp[hl],λj e' hj=>?_⟩
  cases j with
  | zero=>simp at hj;subst hj;exact⟨p.1,p.2,rfl,h1,h2⟩
  | succ j=>simp at hj;simpa using ha j e' hj
theorem MC.of {Z:Fz}:∀{f:List (List UInt8×Rp)} {es:List MapEntry},f.length=es.length→(∀(j:Nat) (e:MapEntry),es[j]? =some e→∃k r,f[j]? =some (k,r)∧e.key = .string (B k)∧r.p Z e.val)→MC Z f es
 | [],[],_,_=>trivial
 | p::f,e::es,hl,h=>by
  obtain⟨k,r,h1,h2,h3⟩:=h 0 e rfl;simp at h1;subst h1;exact⟨⟨h2,h3⟩,MC.of (by simpa using hl) λj e' hj=>by simpa using h (j+1) e' (by simpa using hj)⟩
 | [],_::_,hl,_=>by simp at hl
 | _::_,[],hl,_=>by simp at hl
theorem MC.snoc {Z:Fz}{k:List UInt8}{r:Rp}{e:MapEntry}(h1:e.key = .string (B k))(h2:r.p Z e.val):∀{f:List (List UInt8×Rp)} {es:List MapEntry},MC Z f es→MC Z (f++[(k,r)]) (es++[e])
 | [],[],_=>⟨⟨h1,h2⟩,trivial⟩
 | p::f,e'::es,⟨h,h3⟩=>⟨h,MC.snoc h1 h2 h3⟩
theorem MC.filter {Z:Fz}(q:MapEntry→Bool):∀{f:List (List UInt8×Rp)} {es:List MapEntry},MC Z f es→∃g,MC Z g (es.filter q)∧g.Sublist f
 | [],[],_=>⟨[],trivial,List.Sublist.refl _⟩
 | p::f,e::es,⟨h,h3⟩=>by
  obtain⟨g,hg,hs⟩:=MC.filter q h3
  cases hq:q e with
  | true=>exact⟨p::g,by rw[List.filter_cons_of_pos hq];exact⟨h,hg⟩,hs.cons_cons p⟩
  | false=>exact⟨g,by rw[List.filter_cons_of_neg (by simp[hq])];exact hg,hs.cons p⟩
theorem KU {T:Type}:∀{m:List (Ah×T)} {k:Ah} {r:T},(m.map (·.1)).Nodup→(k,r)∈m→Ha m k=some r
 | p::m,k,r,hn,h=>by
  rw[AfN,List.nodup_cons] at hn;rw[Ha];rcases List.mem_cons.1 h with h | h
  ·subst h;rw[Afa rfl];rfl
  ·have hne : ¬ p.1=k:=λe=>hn.1 (by rw[e];exact List.mem_map.2 ⟨(k,r),h,rfl⟩);rw[AeZ hne];exact KU hn.2 h
theorem R8 {T:Type}:∀{m:List (Ah×T)} {k:Ah},(∀p∈m,p.1≠k)→Ha m k=none
 | [],_,_=>rfl
 | p::m,k,h=>by
  rw[Ha,AeZ (h p (by simp))];exact R8 λq hq=>h q (by simp[hq])
theorem Aev {a b:List UInt8}(h:B a=B b):a=b:=by
 have:=congrArg ByteArray.toList h
 rwa [EV,EV] at this
theorem T0 {a b:List UInt8}(h:Value.string (B a) = .string (B b)):a=b:=Aev (by cases h;rfl)
theorem WZ {Z:Fz}{m:List (List UInt8×Rp)}{es:List MapEntry}{ck:Nat}(h:Hd Z m es ck)(k:List UInt8) :
  (Instr.findNow .string (.string (B k)) es 0=some none∧Ha m k=none∧∀p∈m,p.1≠k)∨∃j e r,Instr.findNow .string (.string (B k)) es 0=some (some (j,e.val))∧es[j]? =some e∧e.key = .string (B k)∧Ha m k=some r∧r.p Z e.val:=by
 obtain⟨h1,h2,h3,f,h4,h5⟩:=h;obtain⟨hl,ha⟩:=h5.at;rcases MapKept.findNow_spec (Il (B k)) es 0 h5.keys with⟨q1,q2⟩ | ⟨j,e,q1,q2,q3⟩
 ·have hne:∀p∈m,p.1≠k:=λp hp e=>by
   obtain⟨j,hj⟩:=List.mem_iff_getElem?.1 (h4.symm.subset hp);have hjl:j<es.length:=by rw[← hl];exact(List.getElem?_eq_some_iff.1 hj).1
   obtain⟨k',r',e1,e2,_⟩:=ha j es[j] (Aff hjl);rw[hj] at e1;cases e1;exact q2 es[j] (List.getElem_mem hjl) (by rw[e2,← e])
  exact .inl ⟨q1,R8 hne,hne⟩
 ·obtain⟨k',r,e1,e2,e3⟩:=ha j e q2;rw[q3] at e2;obtain rfl:=T0 e2;exact .inr ⟨j,e,r,by simpa using q1,q2,q3,KU h1 (h4.subset (Afp e1)),e3⟩
section
variable {P : Program} {n : Nat} {c : Cx} {ops : Array Oper} {Q : Exit → Act → World → Prop} {rest : List Oper} {l : Fr} {H : List Ent} {d : Nat} {d' : Option Nat} {ty t kt et rty : TypeId} {pos : String} {af : Array Edge} {g : Option (Nat × Bool)} {x y u : Operand} {K : Act → World → Prop} {cx : Code}
variable {T : Type} {enc : T → Rp} {xs : List (Ah × T)} {z : T} {k : Ah} {zv : Value} {i b : Nat}
theorem LS {Z:Fz}{w:World}{m:List (List UInt8×Rp)}{rz:Rp}(ht:P.underlying t=some (.map kt et))(hk:P.underlying kt=some .string)(hz:∀w,(zeroValue et).run P w = .ok zv w)(hzr:rz.p Z zv)(hm:(Ent.map b m).holds Z w)(ok:Bool) :
  ∃v,((Ha m k).getD rz).p Z v∧(Instr.lookup t (.map (some b)) (.string (B k)) ok).run P w = .ok (if ok then .tuple #[v,.bool (Ha m k).isSome] else v) w:=by
 obtain⟨es,ck,h1,h2⟩:=hm;rcases WZ h2 k with⟨q1,q2,_⟩ | ⟨j,e,r,q1,_,_,q2,q3⟩
 ·exact⟨zv,by rw[q2];exact hzr,by simp[Instr.lookup,run_underlying ht,MapKept.run_getObj_map h1,MapKept.run_checkKey hk (Il _),MapKept.run_findKey hk q1,hz,q2]⟩
 ·exact⟨e.val,by rw[q2];exact q3,by simp[Instr.lookup,run_underlying ht,MapKept.run_getObj_map h1,MapKept.run_checkKey hk (Il _),MapKept.run_findKey hk q1,q2]⟩
theorem UB (enc:T→Rp)(xs:List (Ah×T))(k:Ah)(z:T):(Ha (Bq enc xs) k).getD (enc z)=enc (Gp xs k z):=by
 rw[Nn];unfold Gp;cases Ha xs k<;>rfl
theorem VC (enc:T→Rp)(xs:List (Ah×T))(k:Ah):(Ha (Bq enc xs) k).isSome=Gc xs k:=by
 rw[Nn];unfold Gc;cases Ha xs k<;>rfl
theorem W8 (ht:P.underlying t=some (.map kt et))(hk:P.underlying kt=some .string)(hz:∀w,(zeroValue et).run P w = .ok zv w)(hzr:∀Z,(enc z).p Z zv)(hx:ev l x=some (rv (.map (some b))))(hi:H[i]? =some (.map b (Bq enc xs)))(hy:ev l y=some (rS k)) :
  BD P n c l H { dst:=d',op:=.lookup t x y true,type:=ty,pos:=pos,after:=af,guard:=g } (Dz [enc (Gp xs k z),rB (Gc xs k)]):=λa w Z ha hw=>by
 obtain⟨v,h1,h2⟩:=LS (k:=k) ht hk hz (hzr Z) (hw.ent hi) true;rw[UB] at h1;refine⟨.tuple #[v,.bool (Gc xs k)],⟨[v,.bool (Gc xs k)],rfl,h1,rfl,trivial⟩,?_⟩;rw[VC] at h2;simp[execOp,ha.eval hx,ha.eval hy,h2]
theorem Z4 (ht:P.underlying t=some (.map kt et))(hk:P.underlying kt=some .string)(hz:∀w,(zeroValue et).run P w = .ok zv w)(hzr:∀Z,(enc z).p Z zv)(hx:ev l x=some (rv (.map (some b))))(hi:H[i]? =some (.map b (Bq enc xs)))(hy:ev l y=some (rS k)) :
  BD P n c l H { dst:=d',op:=.lookup t x y false,type:=ty,pos:=pos,after:=af,guard:=g } (enc (Gp xs k z)):=λa w Z ha hw=>by
 obtain⟨v,h1,h2⟩:=LS (k:=k) ht hk hz (hzr Z) (hw.ent hi) false;rw[UB] at h1;simp only[Afm,Af3] at h2;exact⟨v,h1,by simp[execOp,ha.eval hx,ha.eval hy,h2]⟩
theorem Hd.length {Z:Fz}{m:List (List UInt8×Rp)}{es:List MapEntry}{ck:Nat}(h:Hd Z m es ck):es.length=m.length:=by
 obtain⟨_,_,_,f,h4,h5⟩:=h;rw[← h5.at.1,h4.length_eq]
theorem Z3 {m:List (List UInt8×Rp)}{N:Nat}(ht:P.underlying t=some (.map kt et))(hx:ev l x=some (rv (.map (some b))))(hi:H[i]? =some (.map b m))(hN:m.length=N) :
  BD P n c l H { dst:=d',op:=.call { callee:=.builtin .len,args:=#[x],argTypes:=#[t] },type:=ty,pos:=pos,after:=af,guard:=g } (rI .i64 N):=λa w Z ha hw=>DD<|by
 obtain⟨es,ck,h1,h2⟩:=hw.ent hi;have hl:es.size=N:=by rw[← hN,← h2.length];simp
 simp[execOp,resolve,invoke,builtin,ha.eval hx,Builtin.len_,run_underlying ht,goInt,MapKept.run_getObj_map h1,hl]
theorem Z2 {v:Option Nat}(ht:P.underlying t=some (.map kt et))(hx:ev l x=some (rv (.map v))):BD P n c l H { dst:=d',op:=.binOp .eql t x (.const (.map none)) rty,type:=ty,pos:=pos,after:=af,guard:=g } (rB v.isNone):=λa w Z ha hw=>DD<|by
 have e2:a.eval (.const (.map none)) = .map none:=rfl;have h:=run_equal_map_nil (P:=P) w t kt et v ht;simp[execOp,ha.eval hx,e2,eqGuard,binOp,h]
theorem NI (hn:Nat.blt d n=true)(h:∀b,WL P n c ops Q rest ((d,rv (.map (some b)))::l) (.map b []::H)) :
  WL P n c ops Q ({ dst:=some d,op:=.makeMap t none,type:=ty,pos:=pos,after:=af,guard:=none }::rest) l H:=
 JU (λa w Z ha hw=>⟨_,w.alloc (.map #[] 0),_,_,Z,by simp[execOp,run_makeMap],Fz.le.refl _,rfl,
  hw.alloc _ (e:=.map w.heap.size []) ⟨#[],0,by simpa using heap_alloc_new w _,by simp,by simp,by simp,[],Afl _,trivial⟩ rfl,h w.heap.size⟩) hn
theorem Zs {m f:List (Ah×Rp)}(h:f.Perm m)(k:Ah)(r:Rp):(NZ f k r).Perm (NZ m k r):=h.map _
theorem WE {T:Type}:∀{f:List (Ah×T)} {j:Nat} {k:Ah} {r0:T} (r:T),(f.map (·.1)).Nodup→f[j]? =some (k,r0)→NZ f k r=f.set j (k,r)
 | p::f,0,k,r0,r,hn,h=>by
  simp at h;subst h;rw[AfN,List.nodup_cons] at hn;have:NZ f k r=f:=by
   unfold NZ;rw[List.map_congr_left (g:=id) (λq hq=>?_),List.map_id];have hne : ¬ q.1=k:=λe=>hn.1 (by rw[← e];exact List.mem_map.2 ⟨q,hq,rfl⟩);rw[AeZ hne];rfl
  show(bif decide (k=k) then(k,r) else(k,r0))::NZ f k r=_;rw[Afa rfl,this];rfl
 | p::f,j+1,k,r0,r,hn,h=>by
  rw[AfN,List.nodup_cons] at hn;simp at h;have hne : ¬ p.1=k:=λe=>hn.1 (by rw[e];exact List.mem_map.2 ⟨(k,r0),Afp h,rfl⟩);show(bif decide (p.1=k) then(k,r) else p)::NZ f k r=_;rw[AeZ hne,WE r hn.2 h];rfl
theorem Yc {T:Type}(m:List (Ah×T))(k:Ah)(r:T):(NZ m k r).map (·.1)=m.map (·.1):=by
 unfold NZ;rw[AfU];refine List.map_congr_left λp _=>?_;simp only[Function.comp]
 by_cases h:p.1=k
 ·rw[Afa h];exact h.symm
 ·rw[AeZ h];rfl
theorem Yd {T:Type}{m:List (Ah×T)}{k:Ah}{r:T}(h:Ha m k=some r):Gc m k=true:=by unfold Gc;rw[h];rfl
theorem Ye {T:Type}{m:List (Ah×T)}{k:Ah}(h:Ha m k=none):Gc m k=false:=by unfold Gc;rw[h];rfl
theorem Hd.put {Z:Fz}{m:List (Ah×Rp)}{es:List MapEntry}{ck j:Nat}{e:MapEntry}{k:Ah}{r0 r:Rp}{v:Value}(h:Hd Z m es ck)(he:es[j]? =some e)(hk:e.key = .string (B k))(hm:Ha m k=some r0)(hr:r.p Z v) :
  Hd Z (GP m k r) (es.set j { e with key:=.string (B k),val:=v }) ck:=by
 obtain⟨h1,h2,h3,f,h4,h5⟩:=h;obtain⟨hl,ha⟩:=h5.at;have hjl:=(List.getElem?_eq_some_iff.1 he).1;unfold GP;rw[Yd hm,Afi];obtain⟨k',r',e1,e2,_⟩:=ha j e he;rw[hk] at e2;obtain rfl:=T0 e2;have hfn:(f.map (·.1)).Nodup:=(h4.map (·.1)).nodup_iff.2 h1;refine⟨by rw[Yc];exact h1,?_,?_,f.set j (k,r),?_,MC.of (by simp[hl]) λi x hx=>?_⟩
 ·rw[List.map_set];have:(es.map (·.born)).set j e.born=es.map (·.born):=by
   apply List.ext_getElem?;intro i;rw[List.getElem?_set]
   split
   ·rename_i hij;subst hij
    simp[hjl,List.getElem?_eq_some_iff.1 he |>.2]
   ·rfl
  show((es.map (·.born)).set j e.born).Nodup;rw[this];exact h2
 ·intro x hx;rcases List.mem_or_eq_of_mem_set hx with hx | rfl
  ·exact h3 x hx
  ·exact h3 e (Afp he)
 ·have:=Zs h4 k r
  rwa [WE r hfn e1] at this
 ·rw[List.getElem?_set] at hx ⊢
  split at hx
  ·rename_i hij;subst hij
   cases hx
   exact⟨k,r,by rw[AfP rfl,AfP (by rw[hl];exact hjl)],rfl,hr⟩
  ·rename_i hij
   rw[AfI hij];exact ha i x hx
theorem Hd.ins {Z:Fz}{m:List (Ah×Rp)}{es:List MapEntry}{ck:Nat}{k:Ah}{r:Rp}{v:Value}(h:Hd Z m es ck)(hm:Ha m k=none)(hk:∀p∈m,p.1≠k)(hr:r.p Z v) :
  Hd Z (GP m k r) (es++[{ key:=.string (B k),val:=v,born:=ck }]) (ck+1):=by
 obtain⟨h1,h2,h3,f,h4,h5⟩:=h;unfold GP;rw[Ye hm,Afc];have hp:=Oa k r m;refine⟨?_,?_,?_,f++[(k,r)],?_,MC.snoc rfl hr h5⟩
 ·rw[(hp.map (·.1)).nodup_iff,AfN,List.nodup_cons];exact⟨λhx=>by obtain⟨p,hp,e⟩:=List.mem_map.1 hx;exact hk p hp e,h1⟩
 ·rw[List.map_append,List.nodup_append];refine⟨h2,by simp,λa ha b hb e=>?_⟩;simp at hb;subst hb;obtain⟨x,hx,e'⟩:=List.mem_map.1 ha;have:=h3 x hx;omega
 ·intro x hx;rcases List.mem_append.1 hx with hx | hx
  ·have:=h3 x hx;omega
  ·simp at hx;subst hx;exact Afh _
 ·exact(List.perm_append_comm (l₁:=f) (l₂:=[(k,r)])).trans ((h4.cons (k,r)).trans hp.symm)
theorem St.mapset {Z:Fz}{w:World}(h:St c H Z w){m m':List (Ah×Rp)}(hi:H[i]? =some (.map b m)){es es':Array MapEntry}{ck ck':Nat}(h1:w.heap[b]? =some (.map es ck))(h2:Hd Z m' es'.toList ck') :
  St c (H.set i (.map b m')) Z { w with heap:=w.heap.setIfInBounds b (.map es' ck') }:=by
 obtain⟨q1,q2⟩:=MapKept.heap_set (o':=.map es' ck') h1;exact h.set hi rfl rfl rfl (by simp) (λk _ hk=>q2 k (by simpa[Ent.foot] using hk)) ⟨es',ck',q1,h2⟩ (by simp[Ent.foot])
theorem Sj (s:ByteArray):Instr.sameBits 10000 (.string s) (.string s)=true:=by
 show(s ==s)=true;exact(MapKept.bytes_beq s s).2 rfl |> λh=>by simpa using h
theorem Ac4 {r:Rp}{m:List (Ah×Rp)}(ht:P.underlying t=some (.map kt et))(hk:P.underlying kt=some .string)(hx:ev l x=some (rv (.map (some b))))(hi:H[i]? =some (.map b m))(hy:ev l y=some (rS k))(hu:ev l u=some r){H':List Ent}(hH:H.set i (.map b (GP m k r))=H')(h:WL P n c ops Q rest l H') :
  WL P n c ops Q ({ dst:=none,op:=.mapUpdate t x y u,type:=ty,pos:=pos,after:=af,guard:=none }::rest) l H:=
 Tq λa w Z ha hw=>by
  obtain⟨es,ck,h1,h2⟩:=hw.ent hi;have hv:=ha.ev hu;subst hH;rcases WZ h2 k with⟨q1,q2,q3⟩ | ⟨j,e,r0,q1,q2,q3,q4,_⟩
  ·refine⟨_,_,?_,hw.mapset hi h1 (es':=es.push { key:=.string (B k),val:=a.eval u,born:=ck }) (by simpa using h2.ins q2 q3 hv),h⟩;simp[execOp,ha.eval hx,ha.eval hy,Instr.mapUpdate,run_underlying ht,MapKept.run_getObj_map h1,MapKept.run_checkKey hk (Il _),MapKept.run_findKey hk q1,MapKept.run_setObj_map _ h1]
  ·have hje:es[j]? =some e:=by simpa using q2
   refine⟨_,_,?_,hw.mapset hi h1 (es':=es.modify j λe=>{ e with key:=.string (B k),val:=a.eval u }) (ck':=ck) (by
    have:=h2.put q2 q3 q4 hv;have e1:(es.modify j λe=>{ e with key:=.string (B k),val:=a.eval u }).toList=es.toList.set j { e with key:=.string (B k),val:=a.eval u }:=by
     rw[Array.toList_modify];rw[List.modify_eq_set,q2];rfl
    rw[e1];exact this),h⟩
   have hkey:((es[j]?).map (·.key)).getD (.string (B k)) = .string (B k):=by rw[hje];exact q3
   simp[execOp,ha.eval hx,ha.eval hy,Instr.mapUpdate,run_underlying ht,MapKept.run_getObj_map h1,MapKept.run_checkKey hk (Il _),MapKept.run_findKey hk q1,MapKept.run_setObj_map _ h1,hkey,Instr.keyThatStays,Sj]
theorem Pg {v:T}(ht:P.underlying t=some (.map kt et))(hk:P.underlying kt=some .string)(hx:ev l x=some (rv (.map (some b))))(hi:H[i]? =some (.map b (Bq enc xs)))(hy:ev l y=some (rS k))(hu:ev l u=some (enc v)){H':List Ent}(hH:H.set i (.map b (Bq enc (GP xs k v)))=H')(h:WL P n c ops Q rest l H') :
  WL P n c ops Q ({ dst:=none,op:=.mapUpdate t x y u,type:=ty,pos:=pos,after:=af,guard:=none }::rest) l H:=Ac4 ht hk hx hi hy hu (by rw[← ZB];exact hH) h
end
theorem N6 {q:MapEntry→Bool}:∀{l:List MapEntry} {j:Nat} {e:MapEntry},(l.map (·.born)).Nodup→l[j]? =some e→l.filter (λx=>!(x.born ==e.born))=l.eraseIdx j
 | x::l,0,e,hn,h=>by
  simp at h;subst h;rw[AfN,List.nodup_cons] at hn;rw[List.filter_cons_of_neg (by simp),List.filter_eq_self.2 λy hy=>?_];rfl;have:y.born≠x.born:=λe=>hn.1 (by rw[← e];exact List.mem_map.2 ⟨y,hy,rfl⟩);simp[this]
 | x::l,j+1,e,hn,h=>by
  rw[AfN,List.nodup_cons] at hn;simp at h;have hne:x.born≠e.born:=λe'=>hn.1 (by rw[e'];exact List.mem_map.2 ⟨e,Afp h,rfl⟩);rw[List.filter_cons_of_pos (by simp[hne]),N6 (q:=q) hn.2 h];rfl
theorem MC.erase {Z:Fz}:∀{f:List (List UInt8×Rp)} {es:List MapEntry} (j:Nat),MC Z f es→MC Z (f.eraseIdx j) (es.eraseIdx j)
 | [],[],j,_=>by simp[MC]
 | p::f,e::es,0,⟨_,h⟩=>h
 | p::f,e::es,j+1,⟨h,h3⟩=>⟨h,MC.erase j h3⟩
theorem W1 {α:Type}:∀{l:List α} {j:Nat} {a:α},l[j]? =some a→l.Perm (a::l.eraseIdx j)
 | x::l,0,a,h=>by simp at h;subst h;exact Afl _
 | x::l,j+1,a,h=>by
  simp at h;exact((W1 h).cons x).trans (List.Perm.swap a x _)
theorem Zt {T:Type}{enc:T→Rp}{ys:List (Ah×T)}{f:List (Ah×Rp)}{j:Nat}{k:Ah}{r:Rp}(h:f.Perm (Bq enc ys))(hj:f[j]? =some (k,r)):∃ (p:Ah×T) (ys':List (Ah×T)),ys.Perm (p::ys')∧p.1=k∧enc p.2=r∧(f.eraseIdx j).Perm (Bq enc ys'):=by
 have hm:(k,r)∈Bq enc ys:=h.subset (Afp hj);obtain⟨p,hp,e⟩:=List.mem_map.1 hm;simp only[Prod.mk.injEq] at e;obtain⟨a,b,rfl⟩:=List.append_of_mem hp;refine⟨p,a++b,List.perm_middle,e.1,e.2,?_⟩;have h1:f.Perm ((k,r)::f.eraseIdx j):=by
  exact W1 hj
 have h2:(Bq enc (a++p::b)).Perm ((k,r)::Bq enc (a++b)):=by
  have:(Bq enc (a++p::b)).Perm (Bq enc (p::(a++b))):=List.perm_middle.map _;refine this.trans ?_;show((p.1,enc p.2)::Bq enc (a++b)).Perm _;rw[e.1,e.2]
 exact((h1.symm.trans h).trans h2).cons_inv
section
variable {P : Program} {n : Nat} {c : Cx} {ops : Array Oper} {Q : Exit → Act → World → Prop} {rest : List Oper} {l : Fr} {H : List Ent} {d : Nat} {ty t kt et rty : TypeId} {pos : String} {af : Array Edge} {x y u : Operand} {K : Act → World → Prop} {cx : Code}
variable {T : Type} {enc : T → Rp} {xs ys : List (Ah × T)} {i b it : Nat} {m lf : List (List UInt8 × Rp)} {cur : Option (List UInt8 × Rp)} {k : Ah} {r : Rp}
theorem AaK (ht:P.underlying t=some (.map kt et))(hx:ev l x=some (rv (.map (some b))))(hi:H[i]? =some (.map b m))(hn:Nat.blt d n=true)(h:∀it,WL P n c ops Q rest ((d,rv (.pointer (some ⟨it,0,none⟩)))::l) (H.set i (.mit b it m m none))) :
  WL P n c ops Q ({ dst:=some d,op:=.range t x,type:=ty,pos:=pos,after:=af,guard:=none }::rest) l H:=
 JU (λa w Z ha hw=>by
  obtain⟨es,ck,h1,h2⟩:=hw.ent hi;have hb:b<w.heap.size:=(Array.getElem?_eq_some_iff.1 h1).1;have hf:es.toList.filter (λe=>!(#[]:Array Nat).contains e.born)=es.toList:=List.filter_eq_self.2 λ_ _=>by simp
  obtain⟨f,h4,h5⟩:=h2.2.2.2;refine⟨.pointer (some ⟨w.heap.size,0,none⟩),w.alloc (.mapIter (some b) ck #[] ck),_,_,Z,?_,Fz.le.refl _,rfl,hw.set hi rfl rfl rfl (by simp) (λk hk _=>Below.heap_alloc w _ k hk) ?_ ?_,h w.heap.size⟩
  ·simp[execOp,ha.eval hx,run_range_map w t kt et b es ck ht h1]
  ·exact⟨es,ck,#[],ck,ck,(Below.heap_alloc w _ b hb).trans h1,by simpa using heap_alloc_new w _,h2,h2.2.2.1,Afy _,Afy _,Nat.ne_of_lt hb,⟨f,h4,by rw[hf];exact h5⟩,trivial⟩
  ·intro k hk;simp only[Ent.foot,AfH,List.not_mem_nil,or_false] at hk;rcases hk with rfl | rfl
   ·exact .inl (by simp[Ent.foot])
   ·exact .inr (Afy _)) hn
theorem Ac2 (hx:ev l x=some (rv (.pointer (some ⟨it,0,none⟩))))(hi:H[i]? =some (.mit b it m (Bq enc ys) cur))(hn:Nat.blt d n=true)
  (h0:ys=[]→WL P n c ops Q rest ((d,Dz [rB false])::l) H)
  (h1:∀p ys',ys.Perm (p::ys')→WL P n c ops Q rest ((d,Dz [rB true,rS p.1,enc p.2])::l) (H.set i (.mit b it m (Bq enc ys') (some (p.1,enc p.2))))) :
  WL P n c ops Q ({ dst:=some d,op:=.next x false,type:=ty,pos:=pos,after:=af,guard:=none }::rest) l H:=
 JU (λa w Z ha hw=>by
  obtain⟨es,ck,seen,since,c0,q1,q2,q3,q4,q5,q6,q7,⟨f,q8,q9⟩,_⟩:=hw.ent hi;have hlf:(leftOf es seen).toList=es.toList.filter λe=>!seen.contains e.born:=by simp[leftOf]
  rcases run_next_at (P:=P) w ty it b since c0 seen es ck q2 q1 q4 q5 with⟨r1,r2⟩ | ⟨e,r1,w1,r2,r3⟩
  ·have he:es.toList.filter (λe=>!seen.contains e.born)=[]:=by rw[← hlf];exact Af6 (by simpa using r1)
   rw[he] at q9;have hf:f=[]:=by cases f with
    | nil=>rfl
    | cons _ _=>exact absurd q9 id
   subst hf;have hy:ys=[]:=by
    have:=q8.length_eq;rw[KW] at this;exact Af6 this.symm
   exact⟨.tuple #[.bool false],w,Dz [rB false],H,Z,by simp[execOp,ha.eval hx,r2],Fz.le.refl _,⟨[.bool false],rfl,rfl,trivial⟩,hw,h0 hy⟩
  ·rw[hlf] at r1;obtain⟨j,hj⟩:=List.mem_iff_getElem?.1 r1;obtain⟨k,r,e1,e2,e3⟩:=q9.at.2 j e hj;obtain⟨p,ys',s1,s2,s3,s4⟩:=Zt q8 e1;have hnl:((es.toList.filter λe=>!seen.contains e.born).map (·.born)).Nodup:=q3.2.1.sublist ((List.filter_sublist ..).map _);have hleft:es.toList.filter (λx=>!(seen.push e.born).contains x.born)=(es.toList.filter λe=>!seen.contains e.born).eraseIdx j:=by
    rw[← N6 (q:=λ_=>true) hnl hj,List.filter_filter];refine List.filter_congr λx _=>?_;simp only[Array.contains_push,Bool.not_or];rw[Bool.and_comm]
   have hd:St c H Z w1:=by
    rcases r2 with rfl | rfl
    ·exact hw
    ·exact hw.drawn _
   have q2':w1.heap[it]? =some (.mapIter (some b) since seen c0):=by rcases r2 with rfl | rfl<;>exact q2
   have q1':w1.heap[b]? =some (.map es ck):=by rcases r2 with rfl | rfl<;>exact q1
   obtain⟨t1,t2⟩:=MapKept.heap_set (o':=.mapIter (some b) since (seen.push e.born) ck) q2';refine⟨.tuple #[.bool true,e.key,e.val],ChangeMaps.setBlock w1 it (.mapIter (some b) since (seen.push e.born) ck),Dz [rB true,rS p.1,enc p.2],H.set i (.mit b it m (Bq enc ys') (some (p.1,enc p.2))),Z,by simp[execOp,ha.eval hx,r3],Fz.le.refl _,⟨[.bool true,e.key,e.val],rfl,rfl,?_,?_,trivial⟩,hd.set hi rfl rfl rfl (by simp[ChangeMaps.setBlock]) (λk' _ hk'=>t2 k' (λe'=>hk' (by simp[Ent.foot,e']))) ?_ (λk' hk'=>.inl (by simpa[Ent.foot] using hk')),h1 p ys' s1⟩
   ·show e.key = .string (B p.1);rw[s2];exact e2
   ·rw[s3];exact e3
   ·exact⟨es,ck,seen.push e.born,since,ck,(t2 b q7).trans q1',t1,q3,q4,Nat.le_trans q5 q6,Afy _,q7,⟨f.eraseIdx j,s4,by rw[hleft];exact q9.erase j⟩,rfl,seen,e,rfl,(List.mem_filter.1 r1).1,by rw[s2];exact e2,by rw[s3];exact e3⟩) hn
theorem St.unmit {Z:Fz}{w:World}(h:St c H Z w)(hi:H[i]? =some (.mit b it m lf cur)):St c (H.set i (.map b m)) Z w:=by
 obtain⟨es,ck,seen,since,c0,q1,q2,q3,_⟩:=h.ent hi;exact h.set hi rfl rfl rfl (Afy _) (λ_ _ _=>rfl) ⟨es,ck,q1,q3⟩ (by simp[Ent.foot])
theorem WK.unmit (hi:H[i]? =some (.mit b it m lf cur))(h:WK n c K l (H.set i (.map b m))):WK n c K l H:=λa w Z ha hw=>h a w Z ha (hw.unmit hi)
theorem WC.unmit (hi:H[i]? =some (.mit b it m lf cur))(h:WC P n c cx Q l (H.set i (.map b m))):WC P n c cx Q l H:=λa w Z ha hw=>h a w Z ha (hw.unmit hi)
theorem WL.unmit (hi:H[i]? =some (.mit b it m lf cur))(h:WL P n c ops Q rest l (H.set i (.map b m))):WL P n c ops Q rest l H:=λa w Z ha hw=>h a w Z ha (hw.unmit hi)
theorem St.uncur {Z:Fz}{w:World}(h:St c H Z w)(hi:H[i]? =some (.mit b it m lf cur)):St c (H.set i (.mit b it m lf none)) Z w:=by
 obtain⟨es,ck,seen,since,c0,q1,q2,q3,q4,q5,q6,q7,q8,_⟩:=h.ent hi;exact h.set hi rfl rfl rfl (Afy _) (λ_ _ _=>rfl) ⟨es,ck,seen,since,c0,q1,q2,q3,q4,q5,q6,q7,q8,trivial⟩ (λk hk=>.inl (by simpa[Ent.foot] using hk))
theorem WK.uncur (hi:H[i]? =some (.mit b it m lf cur))(h:WK n c K l (H.set i (.mit b it m lf none))):WK n c K l H:=λa w Z ha hw=>h a w Z ha (hw.uncur hi)
theorem Abs {dd:Option Nat}{g:Option (Nat×Bool)}(hx:ev l x=some (rv (.pointer (some ⟨it,0,none⟩))))(hi:H[i]? =some (.mit b it m lf (some (k,r)))) :
  BD P n c l H { dst:=dd,op:=.entry x,type:=ty,pos:=pos,after:=af,guard:=g } (Dz [rS k,r]):=λa w Z ha hw=>by
 obtain⟨es,ck,seen,since,c0,q1,q2,q3,q4,q5,q6,q7,q8,rfl,s0,e,rfl,h1,h2,h3⟩:=hw.ent hi;exact⟨.tuple #[e.key,e.val],⟨[e.key,e.val],rfl,h2,h3,trivial⟩,by simp[execOp,ha.eval hx,run_entry_at w it b since s0 es c0 e q2 q1 h1 q3.2.1]⟩
end
section
variable {P : Program} {n : Nat} {c : Cx} {opsA : Array Oper} {Q : Exit → Act → World → Prop} {l : Fr} {H : List Ent} {d : Nat} {ty : TypeId} {pos : String} {af : Array Edge}
theorem Zx {f:FuncId}{args:List Operand}{ats:Array TypeId}{rs:List Rp}{r:Rp}{Hin Hout Hr:List Ent}(hcall:∀(as1:Array Value) (w:World),(callFunc f as1).run P w = .ok (.enter f as1) w)(hv:MD l args=some rs)
  (hp:H.Perm (Hin++Hr)) (hc:Fn P c.E f rs Hin (λr' H'=>r'=r∧H'=Hout)) {H':List Ent} (hH:Hout++Hr=H'):DO P n c opsA Q l H { dst:=some d,op:=.call { callee:=.value (.func f),args:=args.toArray,argTypes:=ats },type:=ty,pos:=pos,after:=af,guard:=none } r H':=λa w Z K ha hw hK=>
 ⟨λ_=>by
  subst hH;unfold Oper.wp;rw[EI rfl hcall w];refine(hc w Z _ (G2 ha hv) (hw.perm hp).enter).mono ?_;rintro e w' ⟨r2,v,Ho,Z',rfl,⟨rfl,rfl⟩,hr2,hs⟩;exact hK v w' Z' hs.le hr2 ((hw.perm hp).call hs),λh=>by simp[Region.wanted] at h⟩
theorem Zw {f:FuncId}{args:List Operand}{ats:Array TypeId}{rs:List Rp}{r:Rp}{Hin Hr:List Ent}(hcall:∀(as1:Array Value) (w:World),(callFunc f as1).run P w = .ok (.enter f as1) w)(hv:MD l args=some rs)
  (hp:H.Perm (Hin++Hr)) (hc:Fn P c.E f rs Hin (λr' H'=>r'=r∧H'=Hin)):DO P n c opsA Q l H { dst:=some d,op:=.call { callee:=.value (.func f),args:=args.toArray,argTypes:=ats },type:=ty,pos:=pos,after:=af,guard:=none } r H:=λa w Z K ha hw hK=>
 Zx (Hout:=Hin) hcall hv hp hc rfl a w Z K ha hw (λv w' Z' hz hr hs=>hK v w' Z' hz hr (hs.perm hp.symm))
end
section
variable {P : Program} {n : Nat} {c : Cx} {ops : Array Oper} {Q : Exit → Act → World → Prop} {rest : List Oper} {l : Fr} {H H' : List Ent} {d : Nat} {d' : Option Nat} {x y z3 : Operand} {ty t t' e : TypeId} {pos : String} {af : Array Edge} {g : Option (Nat × Bool)} {v u : Value} {r : Rp} {sz : Nat}
theorem Qi {α:Type}{ys:List α}{enc:α→List Rp}{k':IntKind}{j:Int}(ht:P.underlying t=some (.slice e))(hz:∀w,(sizeOf e).run P w = .ok sz w)(h:ev l x=some (AJ sz (ys.map enc)))(hj:ev l z3=some (rI k' j))(hg2:K3 j (ys.length:Int)=true) :
  BD P n c l H { dst:=d',op:=.slice t x none (some z3) none,type:=ty,pos:=pos,after:=af,guard:=g } (AJ sz ((ys.take j.toNat).map enc)):=λa w Z ha hw=>by
 obtain⟨A,cap,e1,hc1,hc2,hA,hc⟩:=ha.ev h;have h2:=(DZ hg2).2;have hj0:0≤j:=(DZ hg2).1;simp only[Afw] at e1 hc1;have h3:j≤(cap:Int):=by omega
 refine⟨.slice (if cap=0 then A else A.map (·.add (0*sz))) j.toNat cap,⟨if cap=0 then A else A.map (·.add (0*sz)),cap,?_,?_,by omega,?_,λq cl hq=>?_⟩,by simp[execOp,e1,ha.eval hj,Instr.sliceAt,Instr.slice,run_underlying ht,Instr.sliceBounds,Cb (m:=cap) _ _ hj0 h3,hz]⟩
 ·congr 1
  simp;omega
 ·simp;omega
 ·intro hn
  split at hn
  ·have:=hA hn;omega
  ·have:=hA (by simpa using hn);omega
 ·rw[Af4] at hq
  cases hq':(List.take j.toNat ys)[q]? with
  | none=>rw[hq'] at hq;cases hq
  | some yy=>
   rw[hq'] at hq;simp only[Option.map_some,Option.some.injEq] at hq;subst hq;rw[AfD] at hq'
   split at hq'
   ·rename_i hlt
    obtain⟨hl,ad,rfl,hs,hcs⟩:=hc q (enc yy) (by simp[hq']);obtain⟨b,off,spot⟩:=ad;simp only at hs;subst hs;have hne : ¬ cap=0:=by omega
    refine⟨hl,⟨b,off+0*sz,none⟩,by simp[hne,Kt],rfl,λq' r' hr'=>?_⟩;obtain⟨u,hu,hp⟩:=hcs q' r' hr';refine⟨u,?_,hp⟩;have:off+0*sz+(q*sz+q')=off+(q*sz+q'):=by omega
    simp only;rw[this];exact hu
   ·cases hq'
end
theorem B8.d6 {Z:Fz}{r0 r1 r2 r3 r4 r5:Rp}{us:List Value}(h:B8 Z [r0,r1,r2,r3,r4,r5] us):∃y0 y1 y2 y3 y4 y5,us=[y0,y1,y2,y3,y4,y5]∧B8 Z [r0,r1,r2,r3,r4,r5] [y0,y1,y2,y3,y4,y5]:=by
 match us,h.length with
 | [y0,y1,y2,y3,y4,y5],_=>exact⟨_,_,_,_,_,_,rfl,h⟩
theorem UE {α:Type}{sz:Nat}:∀{xs:List (List α)} (hs:∀c∈xs,c.length=sz) {k:Nat} {cl:List α},xs[k]? =some cl→∀(off m:Nat),off+m≤sz→((xs.flatten).drop (k*sz+off)).take m=(cl.drop off).take m
 | [],_,k,cl,h,_,_,_=>by simp at h
 | x::r,hs,0,cl,h,off,m,hm=>by
  simp at h;subst h;have hx:=hs x (by simp);simp only[List.flatten_cons,Nat.zero_mul,AfA];rw[List.drop_append_of_le_length (by omega),List.take_append_of_le_length (by simp;omega)]
 | x::r,hs,k+1,cl,h,off,m,hm=>by
  have hx:=hs x (by simp);simp only[List.flatten_cons];have e:(k+1)*sz+off=x.length+(k*sz+off):=by rw[hx,Nat.succ_mul];omega
  rw[e,List.drop_length_add_append];exact UE (λc hc=>hs c (by simp[hc])) (by simpa using h) off m hm
section
variable {P : Program} {n : Nat} {c : Cx} {ops : Array Oper} {Q : Exit → Act → World → Prop} {rest : List Oper} {l : Fr} {H H' : List Ent} {d : Nat} {d' : Option Nat} {ty t e rty : TypeId} {pos : String} {af : Array Edge} {g : Option (Nat × Bool)} {x y u : Operand} {v : Value} {sz m : Nat}
theorem Pt {α:Type}[Inhabited α]{ys:List α}{enc:α→List Rp}{i off:Nat}{j:Int}{rs:List Rp}(hag:∀w,(isAgg t).run P w = .ok true w)(hsz:∀w,(sizeOf t).run P w = .ok m w)(hx:ev l x=some (rv (En sz v j.toNat off)))(hi:H[i]? =some (.row v e sz (ys.map enc)))(hg:Cn j (ys.length:Int)=true)
  (hle:Nat.ble (off+m) sz=true) (hr:((enc (Ao ys j)).drop off).take m=rs) :
  BD P n c l H { dst:=d',op:=.load t x,type:=ty,pos:=pos,after:=af,guard:=g } (BB rs):=λa w Z ha hw=>by
 obtain⟨hs,us,⟨h1,h2⟩,h3⟩:=hw.ent hi;have h0:=(Cm hg).1;have hlt:j.toNat<ys.length:=by have:=(Cm hg).2;omega
 have eat:Ao ys j=ys[j.toNat]:=by simp[Ao,hlt]
 have hle':off+m≤sz:=by simpa using hle
 have hcl:(ys.map enc)[j.toNat]? =some (enc ys[j.toNat]):=by simp[hlt]
 have hcz:(enc ys[j.toNat]).length=sz:=hs _ (Afp hcl);have hseg:=UE hs hcl off m hle';rw[← eat,hr] at hseg;have h4:=(h3.drop (j.toNat*sz+off)).take m;rw[hseg] at h4;have hrl:rs.length=m:=by rw[← hr,eat];simp;omega
 rcases h2 with⟨rfl,hz⟩ | ⟨b,cap,cur,rfl,_,hg',hcap,hm,hcs,htk⟩
 ·simp at hz;subst hz;simp at hlt
 ·have h5:=run_loadCells_list (P:=P) w ⟨b,j.toNat*sz+off,none⟩ ((us.drop (j.toNat*sz+off)).take m) (λq w' hq=>by
   rw[Kt,cell_of_row w b _ cur e (0,0) hg'];rw[AfD] at hq
   split at hq
   ·rw[List.getElem?_drop,← htk,AfD] at hq
    split at hq
    ·simpa using hq
    ·cases hq
   ·cases hq)
  rw[h4.length,hrl] at h5;exact⟨.agg ((us.drop (j.toNat*sz+off)).take m).toArray,⟨_,rfl,h4⟩,by simp[execOp,ha.eval hx,En,Instr.loadAt,Instr.sureAddr,loadVar,hag,hsz,h5]⟩
end
section
variable {P : Program} {n : Nat} {c : Cx} {Q : Exit → Act → World → Prop} {l : Fr} {H : List Ent} {x rest' : Code} {K : Act → World → Prop}
end
section
variable {P : Program} {n : Nat} {c : Cx} {ops : Array Oper} {Q : Exit → Act → World → Prop} {rest : List Oper} {l : Fr} {H H' : List Ent} {d : Nat} {d' : Option Nat} {x y z3 z4 : Operand} {ty t t' e : TypeId} {pos : String} {af : Array Edge} {g : Option (Nat × Bool)} {v u : Value} {r : Rp} {sz : Nat}
theorem L7 {i:Nat}{rs:List Rp}{fs:Array Field}{f:Field}(hu:P.underlying t=some (.struct fs))(hf:fs[i]? =some f)(hag:∀w,(isAgg f.type).run P w = .ok false w)(hx:ev l x=some (BB rs))(hr:rs[f.offset]? =some r) :
  BD P n c l H { dst:=d',op:=.field t x i,type:=ty,pos:=pos,after:=af,guard:=g } r:=λa w Z ha hw=>by
 obtain⟨us,e1,hus⟩:=ha.ev hx;obtain⟨v,hv,hp⟩:=hus.at hr;exact⟨v,hp,by simp[execOp,e1,Instr.field,run_underlying hu,hf,asAgg,part,hag,hv]⟩
theorem Ac3 {α:Type}{enc:α→List Rp}{inf:TypeInfo}{z:Value}{zα:α}{rz:Rp}{kl kc:IntKind}{m:Nat}{bytes:Nat}(ht:P.underlying t=some (.slice e))(hinf:P.info? e=some inf)(hz:inf.zero=some z)(hsize:inf.size=1)(hby:inf.bytes=bytes)(hbp:Nat.blt 0 bytes=true)
  (hzc:z.cells = #[z]) (henc:enc zα=[rz]) (hrz:∀Z,rz.p Z z)
  (hx:ev l x=some (rI kl m)) (hy:ev l y=some (rI kc m)) (hg:DE bytes m=true) (hn:Nat.blt d n=true)
  (h:∀v',WL P n c ops Q rest ((d,rv v')::l) (.row v' e 1 ((List.replicate m zα).map enc)::H)) :
  WL P n c ops Q ({ dst:=some d,op:=.makeSlice t x y,type:=ty,pos:=pos,after:=af,guard:=none }::rest) l H:=
 JU (λa w Z ha hw=>by
  have hb:m*bytes≤140737488355328:=by simpa[DE] using hg
  have hbp':0<bytes:=by simpa using hbp
  have hle:m≤m*bytes:=Nat.le_mul_of_pos_right _ hbp';obtain⟨w',e1,e2,e3⟩:=run_make_full (P:=P) w 0 t e inf z 1 ht hinf hz hsize kl kc m (by rw[hby,Nat.mul_comm];omega) (by simp only[maxLen];omega) (AfE _);rw[hzc,toList_madeCells_one,Nat.mul_one] at e2;have hall:B8 Z ((List.replicate m zα).map enc).flatten (List.replicate m z):=by
   clear e2 hle hb hg hx hy h e1
   induction m with
   | zero=>trivial
   | succ m ih=>rw[List.replicate_succ,List.replicate_succ,AfN,List.flatten_cons,henc];exact⟨hrz Z,ih⟩
  have hlen:∀cl∈(List.replicate m zα).map enc,cl.length=1:=λcl hcl=>by
   obtain⟨q,hq,rfl⟩:=List.mem_map.1 hcl;rw[(List.mem_replicate.1 hq).2,henc];rfl
  have hent:(Ent.row (.slice (some ⟨w.heap.size,0,none⟩) m m) e 1 ((List.replicate m zα).map enc)).holds Z w':=⟨hlen,List.replicate m z,by simpa using e2,hall⟩
  exact⟨.slice (some ⟨w.heap.size,0,none⟩) m m,w',rv (.slice (some ⟨w.heap.size,0,none⟩) m m),_,Z,by simp[execOp,ha.eval hx,ha.eval hy,e1],Fz.le.refl _,rfl,hw.add e3.os e3.tape e3.output e3.size (λk hk=>e3.block k hk (by simp)) hent (by simp[Ent.foot,Value.ownBlock]),h _⟩) hn
end
structure Sx (U:Type) where
 deps:List Nat
 r:U→Rp
 dyn:Bool:=false
 old:List Nat:=[]
def If {U:Type}(sp:List (Sx U))(i:Nat):Sx U:=sp.getD i { deps:=[],r:=λ_=>rv undef }
def Y8 {U:Type}(sp:List (Sx U))(u:U):List Sp:=sp.map λs=>⟨s.deps,s.r u,0⟩
def saU {U:Type}(sp:List (Sx U))(u:U):List Sa:=sp.map λs=>{ deps:=s.deps,r:=s.r u }
def QI {U:Type}:List (Sx U)→Prop
 | []=>True
 | s::r=>(s.dyn=false→∀u u',s.r u=s.r u')∧QI r
theorem QI.at {U:Type}:∀{sp:List (Sx U)},QI sp→∀{i:Nat} {s:Sx U},sp[i]? =some s→s.dyn=false→∀u u',s.r u=s.r u'
 | [],_,i,s,h=>by simp at h
 | x::sp,⟨h1,h2⟩,0,s,h=>by simp at h;subst h;exact h1
 | x::sp,⟨h1,h2⟩,i+1,s,h=>QI.at h2 (by simpa using h)
theorem Ae6 {U:Type}{ds os:List Nat}{r:Rp}{sp:List (Sx U)}(h:QI sp):QI ({ deps:=ds,r:=λ_=>r,old:=os }::sp):=⟨λ_ _ _=>rfl,h⟩
theorem Ae5 {U:Type}{ds os:List Nat}{r:U→Rp}{sp:List (Sx U)}(h:QI sp):QI ({ deps:=ds,r:=r,dyn:=true,old:=os }::sp):=⟨λh'=>(by cases h'),h⟩
def Gn (lw:Fr):List Nat→Fr→Fr
 | [],l=>l
 | d::r,l=>match look lw d with
  | some q=>(d,q)::Gn lw r l
  | none=>Gn lw r l
theorem SR {n:Nat}{lw l:Fr}{a:Act}{Z:Fz}(h0:Dh n l a Z):∀{ds:List Nat},(∀d∈ds,∀q,look lw d=some q→∃v,a.tmps[d]? =some v∧q.p Z v)→Dh n (Gn lw ds l) a Z
 | [],_=>h0
 | d::ds,h=>by
  have ih:=SR h0 (ds:=ds) (λd' hd'=>h d' (by simp[hd']));unfold Gn
  cases hd:look lw d with
  | none=>exact ih
  | some q=>
   refine⟨ih.size,ih.defers,λi r hi=>?_⟩;rw[C4] at hi
   split at hi
   ·rename_i e;subst e;simp at hi;subst hi;exact h d (by simp) q hd
   ·exact ih.tm i r hi
theorem Ae4 {U:Type}:QI ([]:List (Sx U)):=trivial
def okX (n:Nat)(ops:List Oper)(N i0:Nat)(keys:List Nat)(deps:List (List Nat))(dyns:List Bool)(olds:List (List Nat)):Bool:=
 QC ops N&&decide (N≤ops.length)&&decide (i0<N)&&
 (List.range N).all (λi=>match C0 ops i with
  | some d=>decide (d<n)&&!keys.contains d&&(List.range N).all (λj=>j ==i||C0 ops j !=some d)
  | none=>true)&&
 (List.range N).all (λi=>(deps.getD i []).all (λj=>decide (j<N)&&(Dg (ops.getD i default)).contains j))&&
 (List.range N).all (λi=>!dyns.getD i false||i ==i0||(Dg (ops.getD i default)).any (λe=>decide (e<N)&&(e ==i0||dyns.getD e false)))&&
 (List.range N).all (λi=>(olds.getD i []).all (λd=>(List.range N).all (λw=>C0 ops w !=some d||(Dg (ops.getD w default)).contains i)))
section
variable (P : Program) (n : Nat) (c : Cx) (opsA : Array Oper) (Q : Exit → Act → World → Prop)
def OpX {U:Type}(l:Fr)(H:List Ent)(o:Oper)(r:U→Rp)(H1:U→List Ent):Prop:=
 ∀a w Z (K:Act→World→Prop),Dh n l a Z→St c H Z w→(∀u v w' Z',Fz.le Z Z'→(r u).p Z' v→St c (H1 u) Z' w'→K (a.put o.dst v) w')→
  Region.wanted o (yielded opsA a.tmps)=true∧o.wp P a w K Q
def MA {U:Type}(ops:List Oper)(sp:List (Sx U))(l0 lw:Fr)(i0:Nat)(H:List Ent)(H1:U→List Ent):Nat→List Oper→Prop
 | i,o::rest=>(if i=i0 then(∀u,OpX P n c opsA Q (Gn lw (If sp i).old (Ck ops (Y8 sp u) (If sp i).deps l0)) H o (If sp i).r H1) else ∀u H',(H'=H∨H'=H1 u)→DO P n c opsA Q (Gn lw (If sp i).old (Ck ops (Y8 sp u) (If sp i).deps l0)) H' o ((If sp i).r u) H')∧MA ops sp l0 lw i0 H H1 (i+1) rest
 | _,[]=>True
end
section
variable {P : Program} {n : Nat} {c : Cx} {opsA : Array Oper} {Q : Exit → Act → World → Prop} {l l0 lw : Fr} {U : Type} {H : List Ent} {H1 : U → List Ent} {sp : List (Sx U)} {i0 : Nat}
theorem MA.at {ops:List Oper}:∀{k:Nat} {rest:List Oper},MA P n c opsA Q ops sp l0 lw i0 H H1 k rest→∀(t:Nat) o,rest[t]? =some o→
  (if k+t=i0 then(∀u,OpX P n c opsA Q (Gn lw (If sp (k+t)).old (Ck ops (Y8 sp u) (If sp (k+t)).deps l0)) H o (If sp (k+t)).r H1) else ∀u H',(H'=H∨H'=H1 u)→DO P n c opsA Q (Gn lw (If sp (k+t)).old (Ck ops (Y8 sp u) (If sp (k+t)).deps l0)) H' o ((If sp (k+t)).r u) H')
 | k,o::rest,⟨h1,h2⟩,t,o',ht=>by
  cases t with
  | zero=>simp at ht;subst ht;exact h1
  | succ t=>
   have:=MA.at h2 t o' (by simpa using ht);rw[show k+(t+1)=k+1+t from by omega];exact this
 | _,[],_,t,o,h=>by simp at h
theorem AaJ {id:Nat}{ops:List Oper}[Inhabited U](N i0:Nat)(sp:List (Sx U))(hm:P.follows .mixedOrders=true)(hB:okX n ops N i0 (ER l0) (sp.map (·.deps)) (sp.map (·.dyn)) (sp.map (·.old))=true)(hl0:UU l0 l)(hlw:UU lw l)(hsp:sp.length=N)(hst:QI sp)
  (hob:MA P n c ops.toArray Q ops sp l0 lw i0 H H1 0 (ops.take N)) (h:∀u,WL P n c ops.toArray Q (ops.drop N) (MF (λ_=>0) (ops.take N) (saU sp u) 0 l0) (H1 u)):WC P n c (.region id ops.toArray true) Q l H:=by
 intro a w Z ha hw;simp only[okX,Afb,Af8,List.mem_range,AeX] at hB;obtain⟨⟨⟨⟨⟨⟨b1,bN⟩,b0⟩,b2⟩,b3⟩,b4⟩,b5⟩:=hB;have hget:∀i,i<N→(ops.take N)[i]? =ops[i]?:=λi hi=>by rw[AfD,AfP hi]
 have hsa:∀i,i<N→sp[i]? =some (If sp i):=λi hi=>by
  simp[If,Afd,Aff (show i<sp.length by omega)]
 have hspq:∀u i,i<N→(Ev (Y8 sp u) i)=⟨(If sp i).deps,(If sp i).r u,0⟩:=λu i hi=>by
  simp[Ev,Y8,Afd,Af4,hsa i hi]
 have hdyn:∀j,j<N→(sp.map (·.dyn)).getD j false=(If sp j).dyn:=λj hj=>by simp[Afd,Af4,hsa j hj]
 have hdep:∀j,j<N→(sp.map (·.deps)).getD j []=(If sp j).deps:=λj hj=>by simp[Afd,Af4,hsa j hj]
 have hops:∀j,j<N→∃o,ops[j]? =some o:=λj hj=>⟨ops[j]'(by omega),Aff (by omega)⟩
 have hdst:∀i o d,i<N→ops[i]? =some o→o.dst=some d→(d<n∧d ∉ ER l0)∧∀j,j<N→j≠i→C0 ops j≠some d:=λi o d hi ho hd=>by
  have h3:=b2 i hi;have:C0 ops i=some d:=by simp[C0,ho,hd]
  rw[this] at h3;simp only[Afb,Af0,Af8,List.mem_range,AeX] at h3;refine⟨⟨h3.1.1,λhmem=>by rw[← List.contains_iff_mem] at hmem;rw[hmem] at h3;cases h3.1.2⟩,λj hj hne he=>?_⟩;have:=h3.2 j hj;simp[hne,he] at this
 refine Vf (N:=N) hm b1 bN (λS a w=>∃ (u:U) (Z:Fz),St c (if S i0=true then H1 u else H) Z w∧Dh n l0 a Z∧(∀j o d,j<N→S j=true→ops[j]? =some o→o.dst=some d→∃v,a.tmps[d]? =some v∧((If sp j).r u).p Z v)∧
   (∀j,j<N→(If sp j).dyn=true→S j=true→S i0=true)∧
   (∀d q,look lw d=some q→(∀wr,wr<N→C0 ops wr=some d→S wr=false)→∃v,a.tmps[d]? =some v∧q.p Z v)∧
   ∀wr i d,wr<N→i<N→C0 ops wr=some d→d∈(If sp i).old→S wr=true→S i=true)
  (λS S' a w hS hI=>?_) ⟨default,Z,?_,ha.subL hl0,λj o d _ hS=>(by cases hS),λj _ _ hS=>(by cases hS),λd q hd _=>(ha.subL hlw).tm d q hd,λwr i d _ _ _ _ hS=>(by cases hS)⟩ (λS i o a w hi hun ho hb hI K hK=>?_) (λa w hI=>?_)
 ·obtain⟨u,Z,h1,h2,h3,h4,h5,h6⟩:=hI;refine⟨u,Z,?_,h2,λj o d hj hS'=>h3 j o d hj (by rw[hS j hj];exact hS'),λj hj hd hSj=>?_,λd q hd hw'=>h5 d q hd (λwr hwr hdw=>by rw[hS wr hwr];exact hw' wr hwr hdw),λwr i d hwr hi hdw hold hSw=>by rw[← hS i hi];exact h6 wr i d hwr hi hdw hold (by rw[hS wr hwr];exact hSw)⟩
  ·rw[← hS i0 b0];exact h1
  ·rw[← hS i0 b0];exact h4 j hj hd (by rw[hS j hj];exact hSj)
 ·exact hw.drawn _
 ·obtain⟨u,Z,h1,h2,h3,hx,ho5,ho6⟩:=hI;have hput:∀k u v,a.tmps[k]? =some u→o.dst≠some k→(a.put o.dst v).tmps[k]? =some u:=λk u v hk hne=>by
   cases hd:o.dst with
   | none=>simpa[Act.put] using hk
   | some d=>
    simp only[Act.put,Array.getElem?_setIfInBounds];rw[AfI (λe=>hne (by rw[hd,e]))];exact hk
  have hagr:∀v Z',Fz.le Z Z'→Dh n l0 (a.put o.dst v) Z':=λv Z' hz=>by
   refine⟨?_,?_,λk r hk=>?_⟩
   ·cases o.dst<;>simp[Act.put,h2.size]
   ·cases o.dst<;>simp[Act.put,h2.defers]
   ·obtain⟨u,hu,hpu⟩:=h2.tm k r hk;exact⟨u,hput k u v hu (λe=>((hdst i o k hi ho e).1).2 (KX hk)),r.mono hz hpu⟩
  have hvals:∀(v:Value) (Z':Fz) (u':U),Fz.le Z Z'→(∀j,j<N→j≠i→S j=true→(If sp j).r u'=(If sp j).r u)→(o.dst≠none→((If sp i).r u').p Z' v)→∀j o' d,j<N→(j ==i||S j)=true→ops[j]? =some o'→o'.dst=some d→∃q,(a.put o.dst v).tmps[d]? =some q∧((If sp j).r u').p Z' q:=by
   intro v Z' u' hz hβ hp j o' d hj hS' ho' hd
   by_cases hji:j=i
   ·subst hji;rw[ho] at ho';simp at ho';subst ho';refine⟨v,?_,hp (by simp[hd])⟩;have hdn:d<a.tmps.size:=by rw[h2.size];exact(hdst j o d hi ho hd).1.1
    simp[Act.put,hd,hdn]
   ·have hSj:S j=true:=by simpa[hji] using hS'
    obtain⟨q,hu,hpu⟩:=h3 j o' d hj hSj ho' hd;refine⟨q,hput d q v hu (λe=>(hdst i o d hi ho e).2 j hj hji (by simp[C0,ho',hd])),?_⟩;rw[hβ j hj hji hSj];exact((If sp j).r u).mono hz hpu
  have hat:=hob.at i o (by rw[hget i hi];exact ho);rw[AfA] at hat;have hold':∀Z',Fz.le Z Z'→∀v d q,look lw d=some q→(∀wr,wr<N→C0 ops wr=some d→(wr ==i||S wr)=false)→∃v',(a.put o.dst v).tmps[d]? =some v'∧q.p Z' v':=λZ' hz v d q hd hw'=>by
   obtain⟨v',e1,e2⟩:=ho5 d q hd (λwr hwr hdw=>by have:=hw' wr hwr hdw;simp only[AfF] at this;exact this.2);refine⟨v',hput d v' v e1 (λe=>?_),q.mono hz e2⟩;have:=hw' i hi (by simp[C0,ho,e]);simp at this
  have hord:∀wr k d,wr<N→k<N→C0 ops wr=some d→d∈(If sp k).old→(wr ==i||S wr)=true→(k ==i||S k)=true:=λwr k d hwr hk hdw hmem hSw=>by
   by_cases hwi:wr=i
   ·subst hwi;have h7:=b5 k hk d (by simpa[Afd,Af4,hsa k hk] using hmem) wr hwr;simp only[Af7,bne_iff_ne,ne_eq,hdw,not_true_eq_false,false_or] at h7;rw[Afd,ho,Af5,List.contains_iff_mem] at h7;simp[(hb k h7).2]
   ·have:S k=true:=ho6 wr k d hwr hk hdw hmem (by simpa[hwi] using hSw);simp[this]
  have hag':Dh n (Gn lw (If sp i).old (Ck ops (Y8 sp u) (If sp i).deps l0)) a Z:=SR (LK h2 (λj hj d hd=>by
    obtain⟨h5,h6⟩:=b3 i hi j (by rw[hdep i hi];exact hj);rw[Afd,ho,Af5,List.contains_iff_mem] at h6;obtain⟨o2,ho2⟩:=hops j h5;obtain⟨v,hv1,hv2⟩:=h3 j o2 d h5 (hb j h6).2 ho2 (by simpa[C0,ho2] using hd);refine⟨v,hv1,?_⟩;rw[hspq u j h5];exact hv2)) (λd hd q hq=>ho5 d q hq (λwr hwr hdw=>by
     cases hS:S wr with
     | false=>rfl
     | true=>have:=ho6 wr i d hwr hi hdw hd hS;rw[this] at hun;cases hun))
  by_cases hi0:i=i0
  ·subst hi0;rw[AfP rfl] at hat;rw[hun] at h1;have h1':St c H Z w:=by simpa using h1
   have key:=λK' hK'=>hat u a w Z K' hag' h1' hK';have h5:∀u' v w' Z',Fz.le Z Z'→((If sp i).r u').p Z' v→St c (H1 u') Z' w'→K (a.put o.dst v) w':=λu' v w' Z' hz hpv hs'=>by
    refine hK _ _ ⟨u',Z',by simpa using hs',hagr v Z' hz,hvals v Z' u' hz (λj hj hji hSj=>?_) (λ_=>hpv),λj _ _ _=>by simp,hold' Z' hz v,hord⟩;refine hst.at (hsa j hj) ?_ u' u
    cases hd:(If sp j).dyn with
    | false=>rfl
    | true=>have:=hx j hj hd hSj;rw[this] at hun;cases hun
   refine⟨λ_=>(key K h5).2,λhw'=>?_⟩;rw[(key K h5).1] at hw';cases hw'
  ·rw[AfI hi0] at hat;refine hat u _ (by split;exact .inr rfl;exact .inl rfl) a w Z K hag' h1 (λv w' Z' hz hp hst'=>hK _ _ ⟨u,Z',?_,hagr v Z' hz,hvals v Z' u hz (λ_ _ _ _=>rfl) (λ_=>hp),λj hj hd hSj=>?_,hold' Z' hz v,hord⟩)
   ·have hiS:(i0 ==i||S i0)=S i0:=by
     have:(i0 ==i)=false:=by simpa using λe=>hi0 e.symm
     rw[this];rfl
    show St c (if (i0 ==i||S i0)=true then H1 u else H) Z' w';rw[hiS];exact hst'
   ·have hii:(i0 ==i)=false:=by simpa using λe=>hi0 e.symm
    show(i0 ==i||S i0)=true;rw[hii,Afq]
    by_cases hji:j=i
    ·subst hji;have h7:=b4 j hj;rw[hdyn j hj,hd] at h7;simp only[Afe,Afq,Af7,beq_iff_eq,hi0,false_or,List.any_eq_true,Afb,AeX] at h7;obtain⟨e,he,heN,h8⟩:=h7;rw[Afd,ho,Af5] at he;have hSe:=(hb e he).2;rcases h8 with h8 | h8
     ·subst h8;exact hSe
     ·rw[hdyn e heN] at h8;exact hx e heN h8 hSe
    ·exact hx j hj hd (by simpa[hji] using hSj)
 ·obtain⟨u,Z,h1,h2,h3,_,_,_⟩:=hI;have hsl:(saU sp u).length=N:=by simp[saU,hsp]
  refine h u a w Z (Py h2 _ _ 0 (λt o s d ht hs hd=>?_)) (by simpa using h1);have htN:t<N:=by have:=(List.getElem?_eq_some_iff.1 hs).1;omega
  have hs':s = { deps:=(If sp t).deps,r:=(If sp t).r u }:=by
   simp only[saU,Af4,hsa t htN,Option.map_some,Option.some.injEq] at hs;exact hs.symm
  subst hs';rw[AfA];exact h3 t o d htN rfl (by rw[← hget t htN];exact ht) hd
theorem Sb [Inhabited U]{id:Nat}{ops:List Oper}(N i0:Nat)(ks0 ksw:List Nat)(sp:List (Sx U))(H1:U→List Ent)(hob:MA P n c ops.toArray Q ops sp l0 lw i0 H H1 0 (ops.take N))(h:∀u,WL P n c ops.toArray Q (ops.drop N) (MF (λ_=>0) (ops.take N) (saU sp u) 0 l0) (H1 u))
  (h0:Kp ks0 l l0:=by repeat (first | exact OX | (apply M0;rfl) | (apply Ns;rfl))) (hw:Kp ksw l lw:=by repeat (first | exact OX | (apply M0;rfl) | (apply Ns;rfl))) (hm:P.follows .mixedOrders=true:=by kernel_rfl) (hB:okX n ops N i0 (ER l0) (sp.map (·.deps)) (sp.map (·.dyn)) (sp.map (·.old))=true:=by kernel_rfl)
  (hsp:sp.length=N:=by rfl) (hst:QI sp:=by repeat (first | exact Ae4 | apply Ae6 | apply Ae5)):WC P n c (.region id ops.toArray true) Q l H:=AaJ N i0 sp hm hB h0.one hw.one hsp hst hob h
theorem Pr {all rest:List Oper}{d:Nat}{op:Op}{ty:TypeId}{pos:String}{af:Array Edge}{i:Nat}(hr:∀{u H},BD P n c (Gn lw (If sp i).old (Ck all (Y8 sp u) (If sp i).deps l0)) H { dst:=some d,op:=op,type:=ty,pos:=pos,after:=af,guard:=none } ((If sp i).r u))(h:MA P n c opsA Q all sp l0 lw i0 H H1 (i+1) rest)(hne:Nat.beq i i0=false:=by rfl) :
  MA P n c opsA Q all sp l0 lw i0 H H1 i ({ dst:=some d,op:=op,type:=ty,pos:=pos,after:=af,guard:=none }::rest):=by
 refine⟨?_,h⟩;rw[AfI (λe=>by subst e;simp at hne)];exact λu H _=>D2 hr
theorem oxc {all rest:List Oper}{o:Oper}{i:Nat}(hr:∀{u H},DO P n c opsA Q (Gn lw (If sp i).old (Ck all (Y8 sp u) (If sp i).deps l0)) H o ((If sp i).r u) H)(h:MA P n c opsA Q all sp l0 lw i0 H H1 (i+1) rest)(hne:Nat.beq i i0=false:=by rfl):MA P n c opsA Q all sp l0 lw i0 H H1 i (o::rest):=by
 refine⟨?_,h⟩;rw[AfI (λe=>by subst e;simp at hne)];exact λu H _=>hr
theorem oxr {all rest:List Oper}{o:Oper}{i:Nat}(hr:∀{u},DO P n c opsA Q (Gn lw (If sp i).old (Ck all (Y8 sp u) (If sp i).deps l0)) H o ((If sp i).r u) H)(hr1:∀{u},DO P n c opsA Q (Gn lw (If sp i).old (Ck all (Y8 sp u) (If sp i).deps l0)) (H1 u) o ((If sp i).r u) (H1 u))(h:MA P n c opsA Q all sp l0 lw i0 H H1 (i+1) rest)(hne:Nat.beq i i0=false:=by rfl):MA P n c opsA Q all sp l0 lw i0 H H1 i (o::rest):=by
 refine⟨?_,h⟩;rw[AfI (λe=>by subst e;simp at hne)];intro u H' hH';rcases hH' with e | e
 ·subst e;exact hr
 ·subst e;exact hr1
theorem oxx {all rest:List Oper}{o:Oper}(hr:∀{u},OpX P n c opsA Q (Gn lw (If sp i0).old (Ck all (Y8 sp u) (If sp i0).deps l0)) H o (If sp i0).r H1)(h:MA P n c opsA Q all sp l0 lw i0 H H1 (i0+1) rest):MA P n c opsA Q all sp l0 lw i0 H H1 i0 (o::rest):=by
 refine⟨?_,h⟩;rw[AfP rfl];exact λu=>hr
theorem oxe {all:List Oper}{i:Nat}:MA P n c opsA Q all sp l0 lw i0 H H1 i []:=trivial
end
section
variable {P : Program} {n : Nat} {c : Cx} {opsA : Array Oper} {Q : Exit → Act → World → Prop} {l : Fr} {H : List Ent} {d : Nat} {x y : Operand} {ty t e : TypeId} {pos : String} {af : Array Edge} {v : Value} {sz : Nat}
theorem MH {α:Type}{xs ys:List α}{enc:α→List Rp}{i:Nat}{inf:TypeInfo}{z:Value}{bytes:Nat}(ht:P.underlying t=some (.slice e))(hinf:P.info? e=some inf)(hz:inf.zero=some z)(hsize:inf.size=sz)(hby:inf.bytes=bytes)(hzs:z.cells.size=sz)(hsz:Nat.blt 0 sz=true)(hbp:Nat.blt 0 bytes=true)
  (hx:ev l x=some (rv v)) (hi:H[i]? =some (.row v e sz (xs.map enc))) (hy:Ox P n c l H y sz ys.length (ys.map enc).flatten) (henc:∀z,(enc z).length=sz) (hone:∀z,(enc z).all (·.one)=true) (hg:DE bytes (xs.length+ys.length)=true) :
  OpX P n c opsA Q l H { dst:=some d,op:=.call { callee:=.builtin .append,args:=#[x,y],argTypes:=#[t,t] },type:=ty,pos:=pos,after:=af,guard:=none } (λv'=>rv v') (λv'=>.row v' e sz ((xs++ys).map enc)::H.eraseIdx i):=λa w Z K ha hw hK=>by
  obtain⟨h0,us,h1,h2⟩:=hw.ent hi;obtain⟨ws,h3,h4⟩:=hy a w Z ha hw;have hsz':0<sz:=by simpa using hsz
  have hbp':0<bytes:=by simpa using hbp
  have hb:(xs.length+ys.length)*bytes≤140737488355328:=by simpa[DE] using hg
  have hle:xs.length+ys.length≤(xs.length+ys.length)*bytes:=Nat.le_mul_of_pos_right _ hbp';have hws:∀y∈ws,y.oneCell'=true:=B8.one (rs:=(ys.map enc).flatten) (by
   rw[Af8];intro r hr;obtain⟨cl,hcl,hrc⟩:=List.mem_flatten.1 hr;obtain⟨z',_,rfl⟩:=List.mem_map.1 hcl;exact List.all_eq_true.1 (hone z') r hrc) h3
  have hxl:(xs.map enc).length=xs.length:=Afw ..;rw[hxl] at h1;obtain⟨v',w',e1,e2,e3,e4⟩:=Je (P:=P) ty ht hinf hz hsize hby hzs hsz' h1 h4 hws hb (by simp only[maxLen];omega);have hent:(Ent.row v' e sz ((xs++ys).map enc)).holds Z w':=⟨λcl hcl=>by obtain⟨z',_,rfl⟩:=List.mem_map.1 hcl;exact henc z',us++ws,by simpa using e2,by rw[List.map_append,List.flatten_append];exact h2.append h3⟩
  have hst:=hw.callF hi (St.one (e':=.row v' e sz ((xs++ys).map enc)) (M:=(Ent.row v e sz (xs.map enc)).foot) hw.frz hw.env hw.emono e3.os e3.tape e3.output e3.size (λk hk hne=>e3.block k hk (λe1=>hne (by simp[Ent.foot,← e1])))
   (hw.zdis _ (Afp hi)) hent (λk hk=>by
    simp only[Ent.foot,Option.mem_toList] at hk ⊢;rcases e4 with e4 | e4
    ·exact .inl (e4▸hk)
    ·exact .inr (e4 k hk)))
  refine⟨by simp[Region.wanted],?_⟩;unfold Oper.wp;rw[show(execOp a.eval { dst:=some d,op:=.call { callee:=.builtin .append,args:=#[x,y],argTypes:=#[t,t] },type:=ty,pos:=pos,after:=af,guard:=none }).run P w = .ok (.value v') w' from by simp[execOp,resolve,invoke,builtin,ha.eval hx,e1]];exact hK v' v' w' Z (Fz.le.refl _) rfl hst
end
abbrev Ux:=Nat→Nat→Value×Nat
def Ag (k:Nat)(u u':Ux):Prop:=∀j,j<k→u j=u' j
def ux (u:Ux)(k:Nat)(f:List (Value×Nat)):Ux:=λj=>bif Nat.beq j k then λq=>f.getD q (undef,0) else u j
theorem Aen {u:Ux}{k:Nat}{f:List (Value×Nat)}:Ag k u (ux u k f):=λj hj=>by
 unfold ux;have:Nat.beq j k=false:=by
  cases h:Nat.beq j k with
  | false=>rfl
  | true=>have:=Nat.eq_of_beq_eq_true h;omega
 rw[this];rfl
structure Sy where
 deps:List Nat
 r:Ux→Rp
 lv:Nat:=0
 fx:Bool:=false
 old:List Nat:=[]
def H0 (sp:List Sy)(i:Nat):Sy:=sp.getD i { deps:=[],r:=λ_=>rv undef }
def syu (sp:List Sy)(u:Ux):List Sp:=sp.map λs=>⟨s.deps,s.r u,0⟩
def saY (sp:List Sy)(u:Ux):List Sa:=sp.map λs=>{ deps:=s.deps,r:=s.r u }
def RR:List Sy→Prop
 | []=>True
 | s::r=>(∀u u',Ag s.lv u u'→s.r u=s.r u')∧RR r
theorem RR.at:∀{sp:List Sy},RR sp→∀{i:Nat} {s:Sy},sp[i]? =some s→∀u u',Ag s.lv u u'→s.r u=s.r u'
 | [],_,i,s,h=>by simp at h
 | x::sp,⟨h1,h2⟩,0,s,h=>by simp at h;subst h;exact h1
 | x::sp,⟨h1,h2⟩,i+1,s,h=>RR.at h2 (by simpa using h)
theorem syc {r:Rp}{m:Nat}:∀u u':Ux,Ag m u u'→(λ_:Ux=>r) u=(λ_:Ux=>r) u':=λ_ _ _=>rfl
def okY (n:Nat)(ops:List Oper)(N:Nat)(is:List Nat)(keys:List Nat)(deps:List (List Nat))(lvs:List Nat)(fxs:List Bool)(olds:List (List Nat)):Bool:=
 let cl:=M8 ops []
 QC ops N&&decide (N≤ops.length)&&is.all (λi=>decide (i<N))&&decide is.Nodup&&
 (List.range is.length).all (λk=>k ==0||(cl.getD (is.getD k 0) 0).testBit (is.getD (k-1) 0))&&
 (List.range N).all (λi=>match C0 ops i with
  | some d=>decide (d<n)&&!keys.contains d&&(List.range N).all (λj=>j ==i||C0 ops j !=some d)
  | none=>true)&&
 (List.range N).all (λi=>(deps.getD i []).all (λj=>decide (j<N)&&(Dg (ops.getD i default)).contains j))&&
 (List.range N).all (λi=>decide (lvs.getD i 0≤is.length)&&(lvs.getD i 0 ==0||i ==is.getD (lvs.getD i 0-1) 0||(cl.getD i 0).testBit (is.getD (lvs.getD i 0-1) 0)))&&
 (List.range N).all (λi=>!fxs.getD i false||lvs.getD i 0 ==is.length||(cl.getD (is.getD (lvs.getD i 0) 0) 0).testBit i)&&
 (List.range N).all (λi=>(olds.getD i []).all (λd=>(List.range N).all (λw=>C0 ops w !=some d||(Dg (ops.getD w default)).contains i)))
def cnt (S:Nat→Bool)(is:List Nat):Nat:=(is.filter S).length
theorem QA {S:Nat→Bool}{is:List Nat}{k:Nat}(hk:k≤is.length)(h1:∀j (h:j<is.length),j<k→S is[j]=true)(h2:∀j (h:j<is.length),k≤j→S is[j]=false):cnt S is=k:=by
 unfold cnt;rw[← AfQ k is,List.filter_append,List.filter_eq_self.2 (λx hx=>?_),List.filter_eq_nil_iff.2 (λx hx=>?_)]
 ·simp;omega
 ·obtain⟨j,hj⟩:=List.mem_iff_getElem?.1 hx;rw[List.getElem?_drop] at hj;obtain⟨h3,h4⟩:=List.getElem?_eq_some_iff.1 hj;have:=h2 (k+j) h3 (by omega);rw[h4] at this;simp[this]
 ·obtain⟨j,hj⟩:=List.mem_iff_getElem?.1 hx;rw[AfD] at hj
  split at hj
  ·rename_i hjk
   obtain⟨h3,h4⟩:=List.getElem?_eq_some_iff.1 hj;have:=h1 j h3 hjk;rw[h4] at this;exact this
  ·cases hj
theorem RN {S S':Nat→Bool}{is:List Nat}(h:∀i∈is,S i=S' i):cnt S is=cnt S' is:=by
 unfold cnt;rw[List.filter_congr h]
section
variable (P : Program) (n : Nat) (c : Cx) (opsA : Array Oper) (Q : Exit → Act → World → Prop)
def OpY (l:Fr)(H:List Ent)(o:Oper)(k:Nat)(u:Ux)(r:Ux→Rp)(H1:Ux→List Ent):Prop:=
 ∀a w Z (K:Act→World→Prop),Dh n l a Z→St c H Z w→(∀u' v w' Z',Ag k u u'→Fz.le Z Z'→(r u').p Z' v→St c (H1 u') Z' w'→K (a.put o.dst v) w')→
  Region.wanted o (yielded opsA a.tmps)=true∧o.wp P a w K Q
def ObY (ops:List Oper)(sp:List Sy)(l0 lw:Fr)(is:List Nat)(hs:List (Ux→List Ent))(i:Nat)(o:Oper):Prop:=
 match is.findIdx? (λx=>Nat.beq x i) with
 | some k=>∀u,OpY P n c opsA Q (Gn lw (H0 sp i).old (Ck ops (syu sp u) (H0 sp i).deps l0)) (hs.getD k (λ_=>[]) u) o k u (H0 sp i).r (hs.getD (k+1) (λ_=>[]))
 | none=>if (H0 sp i).fx=true then ∀u,DO P n c opsA Q (Gn lw (H0 sp i).old (Ck ops (syu sp u) (H0 sp i).deps l0)) (hs.getD (H0 sp i).lv (λ_=>[]) u) o ((H0 sp i).r u) (hs.getD (H0 sp i).lv (λ_=>[]) u)
  else ∀u k,k≤is.length→DO P n c opsA Q (Gn lw (H0 sp i).old (Ck ops (syu sp u) (H0 sp i).deps l0)) (hs.getD k (λ_=>[]) u) o ((H0 sp i).r u) (hs.getD k (λ_=>[]) u)
def Oy (ops:List Oper)(sp:List Sy)(l0 lw:Fr)(is:List Nat)(hs:List (Ux→List Ent)):Nat→List Oper→Prop
 | i,o::rest=>ObY P n c opsA Q ops sp l0 lw is hs i o∧Oy ops sp l0 lw is hs (i+1) rest
 | _,[]=>True
end
section
variable {P : Program} {n : Nat} {c : Cx} {opsA : Array Oper} {Q : Exit → Act → World → Prop} {l l0 lw : Fr} {H : List Ent} {hs : List (Ux → List Ent)} {sp : List Sy} {is : List Nat}
theorem Oy.at {ops:List Oper}:∀{k:Nat} {rest:List Oper},Oy P n c opsA Q ops sp l0 lw is hs k rest→∀(t:Nat) o,rest[t]? =some o→ObY P n c opsA Q ops sp l0 lw is hs (k+t) o
 | k,o::rest,⟨h1,h2⟩,t,o',ht=>by
  cases t with
  | zero=>simp at ht;subst ht;exact h1
  | succ t=>
   have:=Oy.at h2 t o' (by simpa using ht);rw[show k+(t+1)=k+1+t from by omega];exact this
 | _,[],_,t,o,h=>by simp at h
theorem AaI {id:Nat}{ops:List Oper}(N:Nat)(is:List Nat)(sp:List Sy)(hs:List (Ux→List Ent))(hm:P.follows .mixedOrders=true)(hB:okY n ops N is (ER l0) (sp.map (·.deps)) (sp.map (·.lv)) (sp.map (·.fx)) (sp.map (·.old))=true)(hl0:UU l0 l)(hlw:UU lw l)(hsp:sp.length=N)(hst:RR sp)
    (hH:∀u,hs.getD 0 (λ_=>[]) u=H) (hob:Oy P n c ops.toArray Q ops sp l0 lw is hs 0 (ops.take N)) (h:∀u,WL P n c ops.toArray Q (ops.drop N) (MF (λ_=>0) (ops.take N) (saY sp u) 0 l0) (hs.getD is.length (λ_=>[]) u)):WC P n c (.region id ops.toArray true) Q l H:=by
  intro a w Z ha hw;simp only[okY,Afb,Af8,List.mem_range,AeX] at hB;obtain⟨⟨⟨⟨⟨⟨⟨⟨⟨b1,bN⟩,bis⟩,KF⟩,bch⟩,b2⟩,b3⟩,b4⟩,b6⟩,b5⟩:=hB;have hget:∀i,i<N→(ops.take N)[i]? =ops[i]?:=λi hi=>by rw[AfD,AfP hi]
  have hsa:∀i,i<N→sp[i]? =some (H0 sp i):=λi hi=>by
    simp[H0,Afd,Aff (show i<sp.length by omega)]
  have hspq:∀u i,i<N→(Ev (syu sp u) i)=⟨(H0 sp i).deps,(H0 sp i).r u,0⟩:=λu i hi=>by
    simp[Ev,syu,Afd,Af4,hsa i hi]
  have hlv:∀j,j<N→(sp.map (·.lv)).getD j 0=(H0 sp j).lv:=λj hj=>by simp[Afd,Af4,hsa j hj]
  have hfx:∀j,j<N→(sp.map (·.fx)).getD j false=(H0 sp j).fx:=λj hj=>by simp[Afd,Af4,hsa j hj]
  have hdep:∀j,j<N→(sp.map (·.deps)).getD j []=(H0 sp j).deps:=λj hj=>by simp[Afd,Af4,hsa j hj]
  have hops:∀j,j<N→∃o,ops[j]? =some o:=λj hj=>⟨ops[j]'(by omega),Aff (by omega)⟩
  have hisN:∀k (hk:k<is.length),is[k]<N:=λk hk=>bis _ (List.getElem_mem hk);have hisD:∀k (hk:k<is.length),is.getD k 0=is[k]:=λk hk=>by rw[Afd,Aff hk];rfl
  have hdst:∀i o d,i<N→ops[i]? =some o→o.dst=some d→(d<n∧d ∉ ER l0)∧∀j,j<N→j≠i→C0 ops j≠some d:=λi o d hi ho hd=>by
    have h3:=b2 i hi;have:C0 ops i=some d:=by simp[C0,ho,hd]
    rw[this] at h3;simp only[Afb,Af0,Af8,List.mem_range,AeX] at h3;refine⟨⟨h3.1.1,λhmem=>by rw[← List.contains_iff_mem] at hmem;rw[hmem] at h3;cases h3.1.2⟩,λj hj hne he=>?_⟩;have:=h3.2 j hj;simp[hne,he] at this
  have clo:∀S:Nat→Bool,(∀t o,ops[t]? =some o→S t=true→∀e∈Dg o,S e=true)→∀j i,((M8 ops []).getD j 0).testBit i=true→S j=true→S i=true:=λS hc j i hb hj=>
    Hw ops (λk=>S k=true) ops [] (λt o ht e he hF=>hc t o ht (by simpa using hF) e he) (λj i hb=>by simp at hb) j i hb hj
  have pre1:∀S:Nat→Bool,(∀t o,ops[t]? =some o→S t=true→∀e∈Dg o,S e=true)→∀k (hk:k<is.length),S is[k]=true→∀j (hj:j<is.length),j≤k→S is[j]=true:=by
    intro S hc k
    induction k with
    | zero=>
              intro hk h0 j hj hle;have:j=0:=by omega
              subst this;exact h0
    | succ k ih=>
      intro hk h0 j hj hle
      by_cases e:j=k+1
      · subst e;exact h0
      · have h3:=bch (k+1) hk
        rw[hisD (k+1) hk] at h3;simp only[Af7,beq_iff_eq,Nat.succ_ne_zero,false_or,Nat.add_sub_cancel] at h3;rw[hisD k (by omega)] at h3;exact ih (by omega) (clo S hc _ _ h3 h0) j hj (by omega)
  refine Vf (N:=N) hm b1 bN (λS a w=>∃ (u:Ux) (Z:Fz),St c (hs.getD (cnt S is) (λ_=>[]) u) Z w∧Dh n l0 a Z∧(∀j o d,j<N→S j=true→ops[j]? =some o→o.dst=some d→∃v,a.tmps[d]? =some v∧((H0 sp j).r u).p Z v)∧
      (∀t o,t<N→ops[t]? =some o→S t=true→∀e∈Dg o,e<t∧S e=true)∧
      (∀d q,look lw d=some q→(∀wr,wr<N→C0 ops wr=some d→S wr=false)→∃v,a.tmps[d]? =some v∧q.p Z v)∧
      ∀wr i d,wr<N→i<N→C0 ops wr=some d→d∈(H0 sp i).old→S wr=true→S i=true)
    (λS S' a w hS hI=>?_) ⟨default,Z,?_,ha.subL hl0,λj o d _ hS=>(by cases hS),λt o _ _ hS=>(by cases hS),λd q hd _=>(ha.subL hlw).tm d q hd,λwr i d _ _ _ _ hS=>(by cases hS)⟩ (λS i o a w hi hun ho hb hI K hK=>?_) (λa w hI=>?_)
  · obtain⟨u,Z,h1,h2,h3,h4,h5,h6⟩:=hI
    refine⟨u,Z,?_,h2,λj o d hj hS'=>h3 j o d hj (by rw[hS j hj];exact hS'),λt o ht hto hSt e he=>?_,λd q hd hw'=>h5 d q hd (λwr hwr hdw=>by rw[hS wr hwr];exact hw' wr hwr hdw),λwr i d hwr hi hdw hold hSw=>by rw[← hS i hi];exact h6 wr i d hwr hi hdw hold (by rw[hS wr hwr];exact hSw)⟩
    · rw[← RN (S:=S) (S':=S') λi hi=>hS i (bis i hi)];exact h1
    · obtain⟨h7,h8⟩:=h4 t o ht hto (by rw[hS t ht];exact hSt) e he
      exact⟨h7,by rw[← hS e (by omega)];exact h8⟩
  · have:cnt (λ_=>false) is=0:=QA (AfE _) (λj _ h=>absurd h (Nat.not_lt_zero _)) (λ_ _ _=>rfl)
    rw[this,hH];exact hw.drawn _
  · obtain⟨u,Z,h1,h2,h3,hc,ho5,ho6⟩:=hI
    have hcl:∀t o,ops[t]? =some o→(decide (t<N)&&S t)=true→∀e∈Dg o,(decide (e<N)&&S e)=true:=λt o hto hSt e he=>by
      simp only[Afb,AeX] at hSt ⊢;obtain⟨h7,h8⟩:=hc t o hSt.1 hto hSt.2 e he;exact⟨by omega,h8⟩
    have hcl2:∀k q,((M8 ops []).getD k 0).testBit q=true→(k=i∨(decide (k<N)&&S k)=true)→(q=i∨(decide (q<N)&&S q)=true):=
      Hw ops (λk=>k=i∨(decide (k<N)&&S k)=true) ops [] (λt o' ht e he hF=>by
        rcases hF with hF | hF
        · simp at hF;subst hF
          rw[ho] at ht;simp at ht;subst ht;obtain⟨h7,h8⟩:=hb e he;exact .inr (by simp only[Afb,AeX];exact⟨by omega,h8⟩)
        · exact .inr (hcl t o' ht (by simpa using hF) e he)) (λj i hb=>by simp at hb)
    have hanc:∀q,((M8 ops []).getD i 0).testBit q=true→q≠i→S q=true:=λq hq hne=>by
      rcases hcl2 i q hq (.inl rfl) with h7 | h7
      · exact absurd h7 hne
      · simp only[Afb] at h7;exact h7.2
    have hSis:∀k (hk:k<is.length),(decide (is[k]<N)&&S is[k])=S is[k]:=λk hk=>by simp[hisN k hk]
    have hpre:∀k (hk:k<is.length),S is[k]=true→∀j (hj:j<is.length),j≤k→S is[j]=true:=λk hk hSk j hj hle=>by
      have:=pre1 (λk=>decide (k<N)&&S k) hcl k hk (by show(decide (is[k]<N)&&S is[k])=true;rw[hSis k hk];exact hSk) j hj hle
      rwa [show(decide (is[j]<N)&&S is[j])=S is[j] from hSis j hj] at this
    have hput:∀k u v,a.tmps[k]? =some u→o.dst≠some k→(a.put o.dst v).tmps[k]? =some u:=λk u v hk hne=>by
      cases hd:o.dst with
      | none=>simpa[Act.put] using hk
      | some d=>
        simp only[Act.put,Array.getElem?_setIfInBounds];rw[AfI (λe=>hne (by rw[hd,e]))];exact hk
    have hagr:∀v Z',Fz.le Z Z'→Dh n l0 (a.put o.dst v) Z':=λv Z' hz=>by
      refine⟨?_,?_,λk r hk=>?_⟩
      · cases o.dst<;>simp[Act.put,h2.size]
      · cases o.dst<;>simp[Act.put,h2.defers]
      · obtain⟨u,hu,hpu⟩:=h2.tm k r hk
        exact⟨u,hput k u v hu (λe=>((hdst i o k hi ho e).1).2 (KX hk)),r.mono hz hpu⟩
    have hvals:∀(v:Value) (Z':Fz) (u':Ux),Fz.le Z Z'→(∀j,j<N→j≠i→S j=true→(H0 sp j).r u'=(H0 sp j).r u)→(o.dst≠none→((H0 sp i).r u').p Z' v)→∀j o' d,j<N→(j ==i||S j)=true→ops[j]? =some o'→o'.dst=some d→∃q,(a.put o.dst v).tmps[d]? =some q∧((H0 sp j).r u').p Z' q:=by
      intro v Z' u' hz hβ hp j o' d hj hS' ho' hd
      by_cases hji:j=i
      · subst hji
        rw[ho] at ho';simp at ho';subst ho';refine⟨v,?_,hp (by simp[hd])⟩;have hdn:d<a.tmps.size:=by rw[h2.size];exact(hdst j o d hi ho hd).1.1
        simp[Act.put,hd,hdn]
      · have hSj:S j=true:=by simpa[hji] using hS'
        obtain⟨q,hu,hpu⟩:=h3 j o' d hj hSj ho' hd;refine⟨q,hput d q v hu (λe=>(hdst i o d hi ho e).2 j hj hji (by simp[C0,ho',hd])),?_⟩;rw[hβ j hj hji hSj];exact((H0 sp j).r u).mono hz hpu
    have hat:=hob.at i o (by rw[hget i hi];exact ho);rw[AfA] at hat;have hold':∀Z',Fz.le Z Z'→∀v d q,look lw d=some q→(∀wr,wr<N→C0 ops wr=some d→(wr ==i||S wr)=false)→∃v',(a.put o.dst v).tmps[d]? =some v'∧q.p Z' v':=λZ' hz v d q hd hw'=>by
      obtain⟨v',e1,e2⟩:=ho5 d q hd (λwr hwr hdw=>by have:=hw' wr hwr hdw;simp only[AfF] at this;exact this.2);refine⟨v',hput d v' v e1 (λe=>?_),q.mono hz e2⟩;have:=hw' i hi (by simp[C0,ho,e]);simp at this
    have hord:∀wr k d,wr<N→k<N→C0 ops wr=some d→d∈(H0 sp k).old→(wr ==i||S wr)=true→(k ==i||S k)=true:=λwr k d hwr hk hdw hmem hSw=>by
      by_cases hwi:wr=i
      · subst hwi
        have h7:=b5 k hk d (by simpa[Afd,Af4,hsa k hk] using hmem) wr hwr;simp only[Af7,bne_iff_ne,ne_eq,hdw,not_true_eq_false,false_or] at h7;rw[Afd,ho,Af5,List.contains_iff_mem] at h7;simp[(hb k h7).2]
      · have:S k=true:=ho6 wr k d hwr hk hdw hmem (by simpa[hwi] using hSw)
        simp[this]
    have hcl':∀t o',t<N→ops[t]? =some o'→(t ==i||S t)=true→∀e∈Dg o',e<t∧(e ==i||S e)=true:=λt o' ht hto hSt e he=>by
      by_cases hti:t=i
      · subst hti
        rw[ho] at hto;simp at hto;subst hto;obtain⟨h7,h8⟩:=hb e he;exact⟨h7,by simp[h8]⟩
      · obtain⟨h7,h8⟩:=hc t o' ht hto (by simpa[hti] using hSt) e he
        exact⟨h7,by simp[h8]⟩
    have hag':Dh n (Gn lw (H0 sp i).old (Ck ops (syu sp u) (H0 sp i).deps l0)) a Z:=SR (LK h2 (λj hj d hd=>by
        obtain⟨h5,h6⟩:=b3 i hi j (by rw[hdep i hi];exact hj);rw[Afd,ho,Af5,List.contains_iff_mem] at h6;obtain⟨o2,ho2⟩:=hops j h5;obtain⟨v,hv1,hv2⟩:=h3 j o2 d h5 (hb j h6).2 ho2 (by simpa[C0,ho2] using hd);refine⟨v,hv1,?_⟩;rw[hspq u j h5];exact hv2)) (λd hd q hq=>ho5 d q hq (λwr hwr hdw=>by
          cases hS:S wr with
          | false=>rfl
          | true=>have:=ho6 wr i d hwr hi hdw hd hS;rw[this] at hun;cases hun))
    have hlev:∀j,j<N→S j=true→∀m (hm:m<is.length),m<(H0 sp j).lv→S is[m]=true:=λj hj hSj m hm hlt=>by
      have h7:=b4 j hj;rw[hlv j hj] at h7;have h8:=h7.1;have hm1:(H0 sp j).lv-1<is.length:=by omega
      rw[hisD _ hm1] at h7;have h9:S is[(H0 sp j).lv-1]=true:=by
        have hg:=h7.2;simp only[Af7,beq_iff_eq] at hg;rcases hg with(hg | hg) | hg
        · omega
        · rw[← hg];exact hSj
        · have:=clo (λk=>decide (k<N)&&S k) hcl j _ hg (by simp[hj,hSj])
          simp only[Afb] at this;exact this.2
      exact hpre _ hm1 h9 m hm (by omega)
    unfold ObY at hat
    cases hf:is.findIdx? (λx=>Nat.beq x i) with
    | some k=>
      rw[hf] at hat;obtain⟨hk,hki,_⟩:=List.findIdx?_eq_some_iff_getElem.1 hf;have hik:is[k]=i:=Nat.eq_of_beq_eq_true hki;have hlow:∀j (hj:j<is.length),j<k→S is[j]=true:=λj hj hjk=>by
        obtain⟨k',rfl⟩:∃k',k=k'+1:=⟨k-1,by omega⟩
        have h7:=bch (k'+1) hk;rw[hisD _ hk] at h7;simp only[Af7,beq_iff_eq,Nat.succ_ne_zero,false_or,Nat.add_sub_cancel] at h7;have hk':k'<is.length:=by omega
        rw[hisD k' hk',hik] at h7;have hne:is[k']≠i:=λe=>by
          have:=(List.getElem_inj KF).1 (e.trans hik.symm);omega
        exact hpre k' hk' (hanc _ h7 hne) j hj (by omega)
      have hhigh:∀j (hj:j<is.length),k≤j→S is[j]=false:=λj hj hle=>by
        cases hS:S is[j] with
        | false=>rfl
        | true=>have:=hpre j hj hS k hk hle;rw[hik,hun] at this;cases this
      have hcnt:cnt S is=k:=QA (by omega) (λj hj h=>hlow j hj h) (λj hj h=>hhigh j hj h);have hcnt':cnt (λj=>j ==i||S j) is=k+1:=QA (by omega) (λj hj h=>by
        by_cases e:j=k
        · subst e;simp[hik]
        · simp[hlow j hj (by omega)]) (λj hj h=>by
        have hne:is[j]≠i:=λe=>by have:=(List.getElem_inj KF).1 (e.trans hik.symm);omega
        simp[hne,hhigh j hj (by omega)])
      rw[hcnt] at h1;have key:=λK' hK'=>hat u a w Z K' hag' h1 hK';have h5:∀u' v w' Z',Ag k u u'→Fz.le Z Z'→((H0 sp i).r u').p Z' v→St c (hs.getD (k+1) (λ_=>[]) u') Z' w'→K (a.put o.dst v) w':=λu' v w' Z' hag hz hpv hs'=>by
        refine hK _ _ ⟨u',Z',by rw[hcnt'];exact hs',hagr v Z' hz,hvals v Z' u' hz (λj hj hji hSj=>?_) (λ_=>hpv),hcl',hold' Z' hz v,hord⟩;refine(hst.at (hsa j hj) u u' (λm hm=>hag m ?_)).symm;have hlj:=(b4 j hj).1;rw[hlv j hj] at hlj;have hml:m<is.length:=by omega
        cases Nat.lt_or_ge m k with
        | inl h7=>exact h7
        | inr h7=>have:=hlev j hj hSj m hml hm;rw[hhigh m hml h7] at this;cases this
      refine⟨λ_=>(key K h5).2,λhw'=>?_⟩;rw[(key K h5).1] at hw';cases hw'
    | none=>
      rw[hf] at hat;have hni:∀x∈is,x≠i:=λx hx e=>by
        have:=List.findIdx?_eq_none_iff.1 hf x hx;subst e;simp at this
      have hcnt':cnt (λj=>j ==i||S j) is=cnt S is:=RN λx hx=>by simp[hni x hx]
      by_cases hfi:(H0 sp i).fx=true
      · simp only[hfi,Af9] at hat
        have hli:=b4 i hi;rw[hlv i hi] at hli;have hcnt:cnt S is=(H0 sp i).lv:=QA hli.1 (λj hj h=>?_) (λj hj h=>?_)
        · rw[hcnt] at h1
          refine hat u a w Z K hag' h1 (λv w' Z' hz hp hst'=>hK _ _ ⟨u,Z',?_,hagr v Z' hz,hvals v Z' u hz (λ_ _ _ _=>rfl) (λ_=>hp),hcl',hold' Z' hz v,hord⟩);rw[hcnt',hcnt];exact hst'
        · have h7:=hli.2
          have hm1:(H0 sp i).lv-1<is.length:=by omega
          rw[hisD _ hm1] at h7;simp only[Af7,beq_iff_eq] at h7;rcases h7 with(h7 | h7) | h7
          · omega
          · exact absurd h7.symm (hni _ (List.getElem_mem hm1))
          · exact hpre _ hm1 (hanc _ h7 (hni _ (List.getElem_mem hm1))) j hj (by omega)
        · have h7:=b6 i hi
          rw[hfx i hi,hfi,hlv i hi] at h7;simp only[Afe,Afq,Af7,beq_iff_eq] at h7;rcases h7 with h7 | h7
          · omega
          · have hm1:(H0 sp i).lv<is.length:=by omega
            rw[hisD _ hm1] at h7
            cases hS:S is[j] with
            | false=>rfl
            | true=>
              have h8:=hpre j hj hS _ hm1 h;have:=clo (λk=>decide (k<N)&&S k) hcl _ _ h7 (by show(decide (is[(H0 sp i).lv]<N)&&S is[(H0 sp i).lv])=true;rw[hSis _ hm1];exact h8);simp only[Afb,hun] at this;exact absurd this.2 (by simp)
      · simp only[hfi,Af3] at hat
        refine hat u (cnt S is) (List.length_filter_le _ _) a w Z K hag' h1 (λv w' Z' hz hp hst'=>hK _ _ ⟨u,Z',?_,hagr v Z' hz,hvals v Z' u hz (λ_ _ _ _=>rfl) (λ_=>hp),hcl',hold' Z' hz v,hord⟩);rw[hcnt'];exact hst'
  · obtain⟨u,Z,h1,h2,h3,_,_,_⟩:=hI
    have hsl:(saY sp u).length=N:=by simp[saY,hsp]
    have hcnt:cnt (λ_=>true) is=is.length:=QA (Afy _) (λ_ _ _=>rfl) (λj hj h=>by omega);rw[hcnt] at h1;refine h u a w Z (Py h2 _ _ 0 (λt o s d ht hs hd=>?_)) h1;have htN:t<N:=by have:=(List.getElem?_eq_some_iff.1 hs).1;omega
    have hs':s = { deps:=(H0 sp t).deps,r:=(H0 sp t).r u }:=by
      simp only[saY,Af4,hsa t htN,Option.map_some,Option.some.injEq] at hs;exact hs.symm
    subst hs';rw[AfA];exact h3 t o d htN rfl (by rw[← hget t htN];exact ht) hd
theorem Ac0 {id:Nat}{ops:List Oper}(N:Nat)(is ks0 ksw:List Nat)(sp:List Sy)(hs:List (Ux→List Ent))(hst:RR sp)(hob:Oy P n c ops.toArray Q ops sp l0 lw is hs 0 (ops.take N))(h:∀u,WL P n c ops.toArray Q (ops.drop N) (MF (λ_=>0) (ops.take N) (saY sp u) 0 l0) (hs.getD is.length (λ_=>[]) u))
  (h0:Kp ks0 l l0:=by repeat (first | exact OX | (apply M0;rfl) | (apply Ns;rfl))) (hw:Kp ksw l lw:=by repeat (first | exact OX | (apply M0;rfl) | (apply Ns;rfl))) (hm:P.follows .mixedOrders=true:=by kernel_rfl) (hB:okY n ops N is (ER l0) (sp.map (·.deps)) (sp.map (·.lv)) (sp.map (·.fx)) (sp.map (·.old))=true:=by kernel_rfl)
  (hsp:sp.length=N:=by rfl) (hH:∀u,hs.getD 0 (λ_=>[]) u=H:=by exact λ_=>rfl):WC P n c (.region id ops.toArray true) Q l H:=AaI N is sp hs hm hB h0.one hw.one hsp hst hH hob h
theorem oyc {all rest:List Oper}{o:Oper}{i:Nat}(hr:∀{u H},DO P n c opsA Q (Gn lw (H0 sp i).old (Ck all (syu sp u) (H0 sp i).deps l0)) H o ((H0 sp i).r u) H)(h:Oy P n c opsA Q all sp l0 lw is hs (i+1) rest)(hne:is.findIdx? (λx=>Nat.beq x i)=none:=by rfl)(hf:(H0 sp i).fx=false:=by rfl):Oy P n c opsA Q all sp l0 lw is hs i (o::rest):=by
 refine⟨?_,h⟩;unfold ObY;rw[hne];simp only[hf,Afm,Af3];exact λu _ _=>hr
def Aci (p:List Ent→Prop)(u:Ux):List (Ux→List Ent)→Prop
 | []=>True
 | f::r=>p (f u)∧Aci p u r
theorem Aci.at {p:List Ent→Prop}{u:Ux}:∀{hs:List (Ux→List Ent)},Aci p u hs→∀k,k<hs.length→p (hs.getD k (λ_=>[]) u)
 | [],_,k,h=>absurd h (Nat.not_lt_zero _)
 | f::r,⟨h1,h2⟩,0,_=>h1
 | f::r,⟨h1,h2⟩,k+1,h=>Aci.at h2 k (by simpa using h)
theorem oyf {all rest:List Oper}{o:Oper}{i:Nat}(hr:∀{u},DO P n c opsA Q (Gn lw (H0 sp i).old (Ck all (syu sp u) (H0 sp i).deps l0)) (hs.getD (H0 sp i).lv (λ_=>[]) u) o ((H0 sp i).r u) (hs.getD (H0 sp i).lv (λ_=>[]) u))(h:Oy P n c opsA Q all sp l0 lw is hs (i+1) rest)(hne:is.findIdx? (λx=>Nat.beq x i)=none:=by rfl)(hf:(H0 sp i).fx=true:=by rfl):Oy P n c opsA Q all sp l0 lw is hs i (o::rest):=by
 refine⟨?_,h⟩;unfold ObY;rw[hne];simp only[hf,Af9];exact λu=>hr
theorem oyx {all rest:List Oper}{o:Oper}{i:Nat}(k:Nat)(hr:∀{u},OpY P n c opsA Q (Gn lw (H0 sp i).old (Ck all (syu sp u) (H0 sp i).deps l0)) (hs.getD k (λ_=>[]) u) o k u (H0 sp i).r (hs.getD (k+1) (λ_=>[])))(h:Oy P n c opsA Q all sp l0 lw is hs (i+1) rest)(hne:is.findIdx? (λx=>Nat.beq x i)=some k:=by rfl):Oy P n c opsA Q all sp l0 lw is hs i (o::rest):=by
 refine⟨?_,h⟩;unfold ObY;rw[hne];exact λu=>hr
theorem oye {all:List Oper}{i:Nat}:Oy P n c opsA Q all sp l0 lw is hs i []:=trivial
end
section
variable {P : Program} {n : Nat} {c : Cx} {opsA : Array Oper} {Q : Exit → Act → World → Prop} {l : Fr} {H : List Ent} {d : Nat} {x y : Operand} {ty t e : TypeId} {pos : String} {af : Array Edge} {v : Value} {sz : Nat}
theorem Acz {k:Nat}{u:Ux}{f:FuncId}{args:List Operand}{ats:Array TypeId}{rs:List Rp}{r:Ux→Rp}{H1:Ux→List Ent}{Hin Hr:List Ent}{Φ:Rp→List Ent→Prop}(hcall:∀(as1:Array Value) (w:World),(callFunc f as1).run P w = .ok (.enter f as1) w)(hv:MD l args=some rs)
  (hp:H.Perm (Hin++Hr)) (hc:Fn P c.E f rs Hin Φ) (hΦ:∀r' H',Φ r' H'→∃u',Ag k u u'∧r'=r u'∧H'++Hr=H1 u'):OpY P n c opsA Q l H { dst:=some d,op:=.call { callee:=.value (.func f),args:=args.toArray,argTypes:=ats },type:=ty,pos:=pos,after:=af,guard:=none } k u r H1:=λa w Z K ha hw hK=>by
 refine⟨by simp[Region.wanted],?_⟩;unfold Oper.wp;rw[EI rfl hcall w];refine(hc w Z _ (G2 ha hv) (hw.perm hp).enter).mono ?_;rintro e w' ⟨r',v,H',Z',rfl,hΦ',hr,hs⟩;obtain⟨u',h1,h2,h3⟩:=hΦ r' H' hΦ';subst h2;exact hK u' v w' Z' h1 hs.le hr (h3▸(hw.perm hp).call hs)
end
end Go.Proofs.YtmjlemhondjfhaaGreatDoor.Q
namespace Go.Proofs.YtmjlemhondjfhaaGreatDoor
open Go
end Go.Proofs.YtmjlemhondjfhaaGreatDoor
namespace Go.Proofs.YtmjlemhondjfhaaGreatDoor.Q
open Go Go.RowKit
set_option linter.unusedVariables false
section
variable {P : Program} {n : Nat} {c : Cx} {ops : Array Oper} {Q : Exit → Act → World → Prop} {rest : List Oper} {l : Fr} {H : List Ent} {d : Nat} {d' : Option Nat} {t kt et ty : TypeId} {pos : String} {af : Array Edge} {g : Option (Nat × Bool)} {x y u : Operand} {b i : Nat} {T : Type} {enc : T → Rp} {xs : List (Int × T)} {z : T} {zv : Value}
theorem SU.push {Z:Fz}{k:Int}{r:Rp}{v:Value}(hv:r.p Z v)(ck:Nat):∀{m:List (Int×Rp)} {es:List MapEntry},SU Z m es→SU Z (m++[(k,r)]) (es++[⟨.int .i64 k,v,ck⟩])
 | [],[],_=>⟨⟨rfl,hv⟩,trivial⟩
 | p::m,e::es,⟨h1,h2⟩=>⟨h1,h2.push hv ck⟩
end
set_option linter.unusedSimpArgs false
def YB (k:Nat)(i:Int)(off:Nat)(Z:Fz)(v:Value):Prop:=if i<0 then v = .pointer none else ∃b,Z.nm k i.toNat=some b∧v = .pointer (some ⟨b,off,none⟩)
def rPt (k:Nat)(i:Int)(off:Nat):Rp:=⟨YB k i off,fun {Z Z' v} h hp=>by
 unfold YB at *
 split
 ·rename_i h0;rwa [AfP h0] at hp
 ·rename_i h0;rw[AfI h0] at hp;obtain⟨b,h1,h2⟩:=hp;exact⟨b,h.nm k _ b h1,h2⟩,true,λ_ Z v hp=>by
 change YB k i off Z v at hp
 unfold YB at hp
 split at hp
 ·rw[hp];rfl
 ·obtain⟨b,_,h2⟩:=hp;rw[h2];rfl⟩
@[reducible] def mP (k:Nat) (i:Int):Rp:=rPt k i 0
theorem AeE (k:Nat)(Z:Fz):(mP k (-1)).p Z (.pointer none):=rfl
theorem Hb.pnil (k:Nat):Hb (rv (.pointer none)) (rPt k (-1) 0):=λZ v h=>h
section
variable {P : Program} {n : Nat} {c : Cx} {ops : Array Oper} {Q : Exit → Act → World → Prop} {rest : List Oper} {l : Fr} {H H' : List Ent} {d : Nat} {d' : Option Nat} {x y : Operand} {ty t t' e : TypeId} {pos : String} {af : Array Edge} {g : Option (Nat × Bool)} {v u : Value} {r : Rp} {sz k : Nat} {pv : Value} {α : Type} [Inhabited α] {xs : List α} {enc : α → List Rp}
theorem Dh.re {a:Act}{Z:Fz}{d:Nat}{q r:Rp}(h:Dh n l a Z)(hl:look l d=some q)(hq:∀v,q.p Z v→r.p Z v):Dh n ((d,r)::l) a Z:=⟨h.size,h.defers,λi u hi=>by
 rw[C4] at hi
 split at hi
 ·rename_i e;subst e;simp at hi;subst hi
  obtain⟨v,h1,h2⟩:=h.tm d q hl;exact⟨v,h1,hq v h2⟩
 ·exact h.tm i u hi⟩
theorem YB.of {Z:Fz}{b N:Nat}(h:Z.nm k N=some b):∀v,(rv (.pointer (some ⟨b,0,none⟩))).p Z v→(rPt k (N:Int) 0).p Z v:=λv hv=>by
 show YB k N 0 Z v;unfold YB;rw[AfI (by omega)];exact⟨b,by simpa using h,hv⟩
def QK (l:Fr)(b:Nat):List Nat→Prop
 | []=>True
 | d::ds=>look l d=some (rv (.pointer (some ⟨b,0,none⟩)))∧QK l b ds
def asP (k N:Nat):List Nat→Fr→Fr
 | [],l=>l
 | d::ds,l=>(d,rPt k (N:Int) 0)::asP k N ds l
theorem VU {Z:Fz}{a:Act}{b N:Nat}{l:Fr}(ha:Dh n l a Z)(hn:Z.nm k N=some b):∀{ds:List Nat},QK l b ds→Dh n (asP k N ds l) a Z
 | [],_=>ha
 | d::ds,⟨h1,h2⟩=>by
  have h3:=VU ha hn h2;refine⟨h3.size,h3.defers,λi u hi=>?_⟩;rw[asP,C4] at hi
  split at hi
  ·rename_i e;subst e;simp at hi;subst hi
   obtain⟨v,h4,h5⟩:=ha.tm d _ h1;exact⟨v,h4,YB.of hn v h5⟩
  ·exact h3.tm i u hi
end
def MpZ (m:List (List UInt8×Rp))(Z:Fz)(v:Value):Prop:=(v = .map none∧m=[])∨∃b es ck,v = .map (some b)∧Z b=some (.map es ck)∧Hd Z m es.toList ck
def rMz (m:List (List UInt8×Rp)):Rp:=⟨MpZ m,λh h0=>h0.imp id λ⟨b,es,ck,h1,h2,h3⟩=>⟨b,es,ck,h1,h.f b _ h2,h3.mono h⟩,true,λ_ Z v h0=>by rcases h0 with⟨h1,_⟩ | ⟨b,es,ck,h1,_⟩<;>(rw[h1];rfl)⟩
section
variable {P : Program} {n : Nat} {c : Cx} {ops opsA : Array Oper} {Q : Exit → Act → World → Prop} {rest : List Oper} {l : Fr} {H : List Ent} {d : Nat} {d' : Option Nat} {ty t kt et rty : TypeId} {pos : String} {af : Array Edge} {g : Option (Nat × Bool)} {x y u : Operand} {K : Act → World → Prop} {cx : Code} {r : Rp}
variable {T : Type} {enc : T → Rp} {xs : List (Ah × T)} {z : T} {k : Ah} {zv : Value} {i b : Nat}
theorem MpZ.heap {Z:Fz}{w:World}(hf:Xl Z w){m:List (List UInt8×Rp)}{v:Value}(h:(rMz m).p Z v):(v = .map none∧m=[])∨∃b,v = .map (some b)∧(Ent.map b m).holds Z w:=by
 rcases h with h | ⟨b,es,ck,h1,h2,h3⟩
 ·exact .inl h
 ·exact .inr ⟨b,h1,es,ck,hf b _ h2,h3⟩
end
def fnv:Nat→Value
 | 0=>.nilFunc
 | k+1=>.func (.func (k+1)) #[] #[]
def SW (k:Nat):Rp:=⟨λ_ v=>v=fnv k,λ_ h=>h,true,λ_ Z v h=>by rw[h];cases k<;>rfl⟩
@[reducible] def ME (k:Nat):List Rp:=[SW k]
theorem H7 (k:Nat):(ME k).length=1:=rfl
def LM {α:Type}(t:TypeId)(f:α→Rp):Option α→Rp
 | none=>rv .nilIface
 | some a=>CU t (f a)
def AdS:TypeDesc→Bool
 | .interface _=>false
 | _=>true
section
variable {P : Program} {n : Nat} {c : Cx} {ops opsA : Array Oper} {Q : Exit → Act → World → Prop} {rest : List Oper} {l : Fr} {H Hr : List Ent} {d : Nat} {d' : Option Nat} {ty t kt et rty : TypeId} {pos : String} {af : Array Edge} {g : Option (Nat × Bool)} {x y : Operand} {r q : Rp}
theorem AdN {k:Nat}(hu:∃a b e,P.underlying t=some (.func a b e))(hx:ev l x=some (SW k)):BD P n c l H { dst:=d',op:=.binOp .neq t x (.const .nilFunc) rty,type:=ty,pos:=pos,after:=af,guard:=g } (rB (!decide (k=0))):=λa w Z ha hw=>by
 obtain⟨a1,a2,a3,hu⟩:=hu;have h:a.eval x=fnv k:=ha.ev hx;have hy:a.eval (.const .nilFunc) = .nilFunc:=rfl;refine⟨_,rfl,?_⟩
 cases k with
 | zero=>
  have h1:∀dd:Nat,(Op.equalIn (dd+1) t .nilFunc .nilFunc).run P w = .ok true w:=λdd=>by simp[Op.equalIn,run_underlying hu]
  have h2:(Op.equal t .nilFunc .nilFunc).run P w = .ok true w:=h1 9999;simp[execOp,h,hy,fnv,eqGuard,binOp,h2]
 | succ k=>
  have h1:∀dd:Nat,(Op.equalIn (dd+1) t (.func (.func (k+1)) #[] #[]) .nilFunc).run P w = .ok false w:=λdd=>by simp[Op.equalIn,run_underlying hu]
  have h2:(Op.equal t (.func (.func (k+1)) #[] #[]) .nilFunc).run P w = .ok false w:=h1 9999;simp[execOp,h,hy,fnv,eqGuard,binOp,h2]
theorem HG {u:TypeDesc}(hu:P.underlying t=some u)(hni:AdS u=true)(hx:ev l x=some r):BD P n c l H { dst:=d',op:=.makeInterface t x,type:=ty,pos:=pos,after:=af,guard:=g } (CU t r):=λa w Z ha hw=>⟨.iface t (a.eval x),⟨_,rfl,ha.ev hx⟩,by
 cases u<;>first | (cases hni;done) | simp[execOp,Instr.makeInterface,run_underlying hu]⟩
theorem Up.ifo {α:Type}{f:α→Rp}{a:α}(h:Up H r (f a)):Up H (CU t r) (LM t f (some a)):=λc Z w v hw ⟨u,e,hu⟩=>⟨u,e,h c Z w u hw hu⟩
theorem WA {α:Type}{f:α→Rp}{o:Option α}(hu:∃ms,P.underlying kt=some (.interface ms))(hx:ev l x=some (LM t f o)):BD P n c l H { dst:=d',op:=.binOp .eql kt x (.const .nilIface) rty,type:=ty,pos:=pos,after:=af,guard:=g } (rB o.isNone):=λa w Z ha hw=>by
 obtain⟨ms,hu⟩:=hu;have h:=ha.ev hx;have hy:a.eval (.const .nilIface) = .nilIface:=rfl;refine⟨_,rfl,?_⟩
 cases o with
 | none=>
  have h:a.eval x = .nilIface:=h;have h1:∀dd:Nat,(Op.equalIn (dd+1) kt .nilIface .nilIface).run P w = .ok true w:=λdd=>by simp[Op.equalIn,run_underlying hu]
  have h2:(Op.equal kt .nilIface .nilIface).run P w = .ok true w:=h1 9999;have h3:(eqGuard .eql kt x (.const .nilIface) .nilIface .nilIface).run P w = .ok () w:=by unfold eqGuard;simp
  simp[execOp,h,hy,h3,binOp,h2]
 | some b=>
  obtain⟨u,e,_⟩:=h;have h1:∀dd:Nat,(Op.equalIn (dd+1) kt (.iface t u) .nilIface).run P w = .ok false w:=λdd=>by simp[Op.equalIn,run_underlying hu]
  have h2:(Op.equal kt (.iface t u) .nilIface).run P w = .ok false w:=h1 9999;have h3:(eqGuard .eql kt x (.const .nilIface) (.iface t u) .nilIface).run P w = .ok () w:=by unfold eqGuard;simp
  simp[execOp,e,hy,h3,binOp,h2]
theorem XN {α:Type}{f:α→Rp}{o:Option α}{d0:α}(h:o.isSome=true):Hb (LM t f o) (CU t (f (Option.getD o d0))):=λZ v hv=>by
 cases o with
 | none=>cases h
 | some b=>exact hv
theorem Sk {f:FuncId}{name:String}{args:List Operand}{ats:Array TypeId}{o:Oper}{a:Act}{u:Value}(ho:o.op = .call { callee:=.invoke x name,args:=args.toArray,argTypes:=ats })(hx:a.eval x = .iface t u)
  (hm:∀v w,(method (P.types.size+Made.depth) t v name).run P w = .ok (f,v) w) (hcall:∀(as1:Array Value) (w:World),(callFunc f as1).run P w = .ok (.enter f as1) w) (w:World):(execOp a.eval o).run P w = .ok (.enter f (u::args.map a.eval).toArray) w:=by
 have h2:=hm u w;simp only[execOp,ho,resolve,hx];simp[invoke,callMethod,h2,hcall,List.take_of_length_le]
theorem W3 {f:FuncId}{name:String}{args:List Operand}{ats:Array TypeId}{rs:List Rp}(hm:∀v w,(method (P.types.size+Made.depth) t v name).run P w = .ok (f,v) w)(hcall:∀(as1:Array Value) (w:World),(callFunc f as1).run P w = .ok (.enter f as1) w)
  (hx:ev l x=some (CU t q)) (hc:Mf P c.E f (q::rs) r) (hv:MD l args=some rs) :
  DO P n c opsA Q l H { dst:=some d,op:=.call { callee:=.invoke x name,args:=args.toArray,argTypes:=ats },type:=ty,pos:=pos,after:=af,guard:=none } r H:=λa w Z K ha hw hK=>
 ⟨λ_=>by
  obtain⟨u,e,hu⟩:=ha.ev hx;unfold Oper.wp;rw[Sk rfl e hm hcall w];refine(hc w Z (u::args.map a.eval) ⟨hu,G2 ha hv⟩ (St.enter (Hin:=[]) (Hr:=H) hw)).mono ?_;rintro e w' ⟨r2,v,Ho,Z',rfl,⟨rfl,rfl⟩,hr2,hs⟩;exact hK v w' Z' hs.le hr2 (by simpa using hw.call0 hs),λh=>by simp[Region.wanted] at h⟩
theorem Sv {f:FuncId}{name:String}{args:List Operand}{ats:Array TypeId}{rs:List Rp}{Hin Hr:List Ent}(hm:∀v w,(method (P.types.size+Made.depth) t v name).run P w = .ok (f,v) w)(hcall:∀(as1:Array Value) (w:World),(callFunc f as1).run P w = .ok (.enter f as1) w)
  (hx:ev l x=some (CU t q)) (hp:H.Perm (Hin++Hr)) (hc:Fn P c.E f (q::rs) Hin (λr' H'=>r'=r∧H'=Hin)) (hv:MD l args=some rs) :
  DO P n c opsA Q l H { dst:=some d,op:=.call { callee:=.invoke x name,args:=args.toArray,argTypes:=ats },type:=ty,pos:=pos,after:=af,guard:=none } r H:=λa w Z K ha hw hK=>
 ⟨λ_=>by
  obtain⟨u,e,hu⟩:=ha.ev hx;unfold Oper.wp;rw[Sk rfl e hm hcall w];have hw2:=hw.perm hp;refine(hc w Z (u::args.map a.eval) ⟨hu,G2 ha hv⟩ hw2.enter).mono ?_;rintro e w' ⟨r2,v,Ho,Z',rfl,⟨rfl,rfl⟩,hr2,hs⟩;exact hK v w' Z' hs.le hr2 ((hw2.call hs).perm hp.symm),λh=>by simp[Region.wanted] at h⟩
theorem Ps {α:Type}{ff:α→Rp}{o:Option α}{d0:α}{f:FuncId}{name:String}{args:List Operand}{ats:Array TypeId}{rs:List Rp}(hm:∀v w,(method (P.types.size+Made.depth) t v name).run P w = .ok (f,v) w)(hcall:∀(as1:Array Value) (w:World),(callFunc f as1).run P w = .ok (.enter f as1) w)
  (hx:ev l x=some (LM t ff o)) (hs:o.isSome=true) (hc:Mf P c.E f (ff (Option.getD o d0)::rs) r) (hv:MD l args=some rs) :
  DO P n c opsA Q l H { dst:=some d,op:=.call { callee:=.invoke x name,args:=args.toArray,argTypes:=ats },type:=ty,pos:=pos,after:=af,guard:=none } r H:=λa w Z K ha hw hK=>
 ⟨λ_=>by
  obtain⟨u,e,hu⟩:=XN (d0:=d0) hs Z _ (ha.ev hx);unfold Oper.wp;rw[Sk rfl e hm hcall w];refine(hc w Z (u::args.map a.eval) ⟨hu,G2 ha hv⟩ (St.enter (Hin:=[]) (Hr:=H) hw)).mono ?_;rintro e w' ⟨r2,v,Ho,Z',rfl,⟨rfl,rfl⟩,hr2,hs⟩;exact hK v w' Z' hs.le hr2 (by simpa using hw.call0 hs),λh=>by simp[Region.wanted] at h⟩
theorem Ae3 {k:Nat}{args:List Operand}{ats:Array TypeId}{rs:List Rp}(hk:(!decide (k=0))=true)(hc:(∀(as1:Array Value) (w:World),(callFunc k as1).run P w = .ok (.enter k as1) w)∧Mf P c.E k rs r)(hx:ev l x=some (SW k))(hv:MD l args=some rs)(h:WL P n c ops Q rest ((d,r)::l) H)(hn:Nat.blt d n=true:=by rfl) :
  WL P n c ops Q ({ dst:=some d,op:=.call { callee:=.value x,args:=args.toArray,argTypes:=ats },type:=ty,pos:=pos,after:=af,guard:=none }::rest) l H:=by
 cases k with
 | zero=>cases hk
 | succ k=>
  have hk':(if k+1=0 then Value.nilFunc else .func (.func (k+1)) #[] #[]) = .func (.func (k+1)) #[] #[]:=by simp
  exact Hz (caps:=[]) (Hin:=[]) (Hr:=H) hc.1 (show ev l x=some (rv (.func (.func (k+1)) #[] ([]:List Value).toArray)) from hx) hv (Afl _) (by simpa using hc.2) hn (by rintro _ _ ⟨rfl,rfl⟩;exact h)
theorem AaL {α:Type}{enc:α→List Rp}{inf:TypeInfo}{z:Value}{zα:α}{rz:Rp}{kl kc:IntKind}{m:Int}{bytes:Nat}{e:TypeId}(ht:P.underlying t=some (.slice e))(hinf:P.info? e=some inf)(hz:inf.zero=some z)(hsize:inf.size=1)(hby:inf.bytes=bytes)(hbp:Nat.blt 0 bytes=true)
  (hzc:z.cells = #[z]) (henc:enc zα=[rz]) (hrz:∀Z,rz.p Z z)
  (hx:ev l x=some (rI kl m)) (hy:ev l y=some (rI kc m)) (hg:DE bytes m.toNat=true) (hg0:decide (0≤m)=true) (hn:Nat.blt d n=true)
  (h:∀v',WL P n c ops Q rest ((d,rv v')::l) (.row v' e 1 ((List.replicate m.toNat zα).map enc)::H)) :
  WL P n c ops Q ({ dst:=some d,op:=.makeSlice t x y,type:=ty,pos:=pos,after:=af,guard:=none }::rest) l H:=by
 have em:((m.toNat:Nat):Int)=m:=Int.toNat_of_nonneg (AfC hg0);exact Ac3 (m:=m.toNat) ht hinf hz hsize hby hbp hzc henc hrz (by rw[em];exact hx) (by rw[em];exact hy) hg hn h
theorem LV {r:Rp}(hx:ev l x=some (CU t r)):BD P n c l H { dst:=d',op:=.nilCheck x,type:=ty,pos:=pos,after:=af,guard:=g } (CU t r):=λa w Z ha hw=>by
 have h:=ha.ev hx;obtain⟨u,e1,hu⟩:=h;exact⟨a.eval x,⟨u,e1,hu⟩,by simp[execOp,e1]⟩
theorem AaR (s:List UInt8)(i:Nat){c:List Rp}(h:((Gi s).map Cz)[i]? =some c):∃u,s[i]? =some u∧c=[rI .u8 (u.toNat:Int)]:=by
 simp only[Gi,AfU,Af4,Option.map_eq_some_iff] at h;obtain⟨u,h1,h2⟩:=h;exact⟨u,h1,h2.symm⟩
theorem St.s2b {Z:Fz}{w:World}(hw:St c H Z w)(s:List UInt8)(e:TypeId)(cap:Nat)(h1:s.length≤cap)(h2:cap≤maxLen)(mk:Nat×Nat) :
  ∃Z',Fz.le Z Z'∧St c H Z' (w.drew.alloc (.cells (bytesRow (B s) cap) e mk))∧(AJ 1 ((Gi s).map Cz)).p Z' (.slice (some ⟨w.heap.size,0,none⟩) s.length cap):=by
 let o:Obj:=.cells (bytesRow (B s) cap) e mk
 let w':World:=w.drew.alloc o
 let Z':Fz:=⟨λb=>if b=w.heap.size then some o else Z b,Z.nm⟩
 have hs:St c H Z w':=(hw.add (w':=w') (e':=.fact (.bool true) (rv (.bool true))) rfl rfl rfl (by show w.heap.size≤(w.heap.push o).size;simp) (λk hk=>Below.heap_alloc w.drew o k hk) rfl (by simp[Ent.foot])).sub (List.sublist_cons_self _ _);have ho:w'.heap[w.heap.size]? =some o:=by show(w.heap.push o)[w.heap.size]? =some o;simp
 have hgz:Z w.heap.size=none:=by
  cases hz:Z w.heap.size with
  | none=>rfl
  | some q=>have:=hw.frz.lt hz;omega
 have hle:Fz.le Z Z':=⟨λb q hb=>by
  have:b≠w.heap.size:=λe=>by subst e;rw[hgz] at hb;cases hb
  simpa[Z',this] using hb,λ_ _ _ h=>h⟩
 refine⟨Z',hle,?_,?_⟩
 ·refine { hs with has:=λen he=>Ent.keep (hs.has en he) hle λ_ _=>rfl,frz:=⟨λb q hb=>?_,hs.frz.nm⟩,gst:=hs.gst.names rfl,le:=hs.le.trans hle,new:=λb q hb=>?_,zdis:=λen he k hk=>?_,env:=hs.emono hle hs.env }
  ·by_cases hbg:b=w.heap.size
   ·subst hbg;simp[Z'] at hb;rw[← hb];exact ho
   ·simp[Z',hbg] at hb;exact hs.frz b q hb
  ·by_cases hbg:b=w.heap.size
   ·subst hbg;exact .inr (.inl hw.size)
   ·simp[Z',hbg] at hb;exact hs.new b q hb
  ·have:=hw.mem_lt he hk;have hkg:k≠w.heap.size:=by omega
   simp only[Z',hkg,Af3];exact hs.zdis en he k hk
 ·refine⟨some ⟨w.heap.size,0,none⟩,cap,by simp[Gi],by simpa[Gi] using h1,h2,(λh=>by cases h),λi cl hi=>?_⟩;obtain⟨u,hu,rfl⟩:=AaR s i hi;refine⟨rfl,⟨w.heap.size,0,none⟩,rfl,rfl,λj r hj=>?_⟩
  cases j with
  | succ j=>simp at hj
  | zero=>
   simp at hj;subst hj;refine⟨.int .u8 (u.toNat:Int),?_,rfl⟩;have hi':i<s.length:=(List.getElem?_eq_some_iff.1 hu).1;have he:s[i]=u:=(List.getElem?_eq_some_iff.1 hu).2;simp only[Jn,Z',Af9,o,bytesRow,B];rw[Array.getElem?_append_left (by simpa using hi')];simp[hi',he]
theorem Ad6 {s:List UInt8}{e t':TypeId}(hs:P.underlying t=some .string)(hd:P.underlying t'=some (.slice e))(he:P.underlying e=some (.int .u8))(hx:ev l x=some (rS s))(hg:DE 1 s.length=true)(hn:Nat.blt d n=true)
  (h:WL P n c ops Q rest ((d,AJ 1 ((Gi s).map Cz))::l) H) :
  WL P n c ops Q ({ dst:=some d,op:=.convert t t' x,type:=ty,pos:=pos,after:=af,guard:=none }::rest) l H:=
 JU (λa w Z ha hw=>by
  have hb:s.length≤140737488355328:=by simpa[DE] using hg
  have e1:=run_bytes_of_string (P:=P) w t t' e (B s) hs hd he;have hsz:(B s).size=s.length:=rfl;rw[hsz] at e1;obtain⟨Z',hz,h1,h2⟩:=St.s2b hw s e (grownCap w s.length 0 e) (grownCap_ge w s.length 0 e) (grownCap_le_maxLen w s.length 0 e (by have:maxLen=9223372036854775807:=rfl;omega)) ((bytesRow (B s) (grownCap w s.length 0 e)).size,(bytesRow (B s) (grownCap w s.length 0 e)).size+1);exact⟨_,_,_,_,Z',by simp[execOp,ha.eval hx,e1],hz,h2,h1,h⟩) hn
end
set_option maxRecDepth 100000
set_option maxHeartbeats 4000000
@[reducible] def Jj (x:(List Ah)):List Rp:=[AJ 1 (A3 eS x)]
theorem VM (x:(List Ah)):(Jj x).length=1:=rfl
@[reducible] def Ai (x:Ad):List Rp:=[rB x.fAllow,AJ 1 (A3 eS x.fActions),AJ 1 (A3 eS x.fResources)]
theorem Eu (x:Ad):(Ai x).length=3:=rfl
theorem M5 (x:Ad):(Ai x).all (·.one)=true:=rfl
@[reducible] def Me (x:C3):List Rp:=[rB x.fAllowed,A2 x.fIndex]
@[reducible] def Au (x:AD):List Rp:=[rB x.fAllow,A2 x.fAddr,A2 x.fBits,A2 x.fLow,A2 x.fHigh]
theorem Hv (x:AD):(Au x).length=5:=rfl
theorem Om (x:AD):(Au x).all (·.one)=true:=rfl
theorem OI:∃inf,Tryz.prog.info? 9=some inf∧inf.zero=some (.string ⟨#[]⟩)∧inf.size=1∧inf.bytes=16:=by
  have key:(Tryz.prog.info? 9).map (λi=>(i.zero,i.size,i.bytes))=some (some (.string ⟨#[]⟩),1,16):=by kernel_rfl
  obtain⟨inf,h1,h2⟩:=Option.map_eq_some_iff.1 key;simp only[Prod.mk.injEq] at h2;exact⟨inf,h1,h2.1,h2.2.1,h2.2.2⟩
theorem Xd (parts:List (Nat×Value)):Tryz.prog.built 63 parts=Instr.fill (λi=>(#[(0,1),(1,1)]:Array (Nat×Nat))[i]?) #[(.bool false),(.int .i64 0)] parts:=by kernel_rfl
theorem LY {n:Nat}{c:Cx}{l:Fr}{H:List Ent}{d:Option Nat}{ty:TypeId}{pos:String}{af:Array Edge}{g:Option (Nat×Bool)}{x0:Operand}{r0:Rp}(h0:ev l x0=some r0)(u0:r0.one=true){x1:Operand}{r1:Rp}(h1:ev l x1=some r1)(u1:r1.one=true):BD Tryz.prog n c l H { dst:=d,op:=.build 63 #[(0,x0),(1,x1)],type:=ty,pos:=pos,after:=af,guard:=g } (BB [r0,r1]):=λa w Z ha _=>by
  have p0:=ha.ev h0;have c0:=Bz (r0.hone u0 Z _ p0);have p1:=ha.ev h1;have c1:=Bz (r1.hone u1 Z _ p1);have hb:Tryz.prog.built 63 [(0,a.eval x0),(1,a.eval x1)]=some #[a.eval x0,a.eval x1]:=by
    rw[Xd];generalize a.eval x0=v0 at *;generalize a.eval x1=v1 at *;simp[Instr.fill,c0,c1]
  refine⟨.agg #[a.eval x0,a.eval x1],⟨[a.eval x0,a.eval x1],rfl,p0,p1,trivial⟩,?_⟩;have:=run_build w 63 #[(0,a.eval x0),(1,a.eval x1)] _ (by simpa using hb);simp[execOp,this]
theorem OF {n:Nat}{c:Cx}{l:Fr}{H:List Ent}{d:Option Nat}{ty:TypeId}{pos:String}{af:Array Edge}{g:Option (Nat×Bool)}{x1:Operand}{r1:Rp}(h1:ev l x1=some r1)(u1:r1.one=true):BD Tryz.prog n c l H { dst:=d,op:=.build 63 #[(1,x1)],type:=ty,pos:=pos,after:=af,guard:=g } (BB [rB false,r1]):=λa w Z ha _=>by
  have p1:=ha.ev h1;have c1:=Bz (r1.hone u1 Z _ p1);have hb:Tryz.prog.built 63 [(1,a.eval x1)]=some #[(.bool false),a.eval x1]:=by
    rw[Xd];generalize a.eval x1=v1 at *;simp[Instr.fill,c1]
  refine⟨.agg #[(.bool false),a.eval x1],⟨[(.bool false),a.eval x1],rfl,rfl,p1,trivial⟩,?_⟩;have:=run_build w 63 #[(1,a.eval x1)] _ (by simpa using hb);simp[execOp,this]
theorem LR (s:Ah)(x:Ah)(r:Bool)(h:GK s x=some r):Fn Tryz.prog GE 230 [rS s,rS x] [] (λR H=>R=rB r∧H=[]):=by
 refine enter (n:=21) Tryz.func230 Aa Tryz.ntmps230 Aa (λw Z=>?_);unfold GK at h;refine Ae (wa Aa (An (ck h λg1 h2=>ck h2 λg3 h4=>AC [(4,rB ((decide ((x.length:Int)≤(s.length:Int)))&&(decide ((List.drop (Ch ((s.length:Int)-(x.length:Int))) s)=x))))] [] ?_ ?_)))
 ·refine Aj (wm Aa (wv (BO Dx Aa) (wm Aa (wv (BO Dx Aa) (wv (EN Aa Aa) (wm Aa (AU (decide ((x.length:Int)≤(s.length:Int))) (λc5=>?_) (λc5=>?_))))))))
  ·refine wo c5 (wm Aa (wo c5 (wm Aa (wo c5 (wv (BO Dx Aa) (wo c5 (wm Aa (wo c5 (wv (BO Dx Aa) (wo c5 (wv (I3 Aa Aa (BY g1 c5)) (wo c5 (wv (G9 Dx Aa Aa (BY g3 c5)) (wo c5 (wm Aa (wo c5 (wv (Cy Aa Aa) (Eb Aa c5 Aa (wa Aa (Am ?_))))))))))))))))))));exact Cd c5
  refine wf c5 (wf c5 (wf c5 (wf c5 (wf c5 (wf c5 (wf c5 (wf c5 (wf c5 (wv (r:=rB false) (Av Aa c5 Aa) (wa Aa (Am ?_)))))))))));exact Cd c5
 refine Ap ?_;obtain rfl:=As h4;exact Ar (BE Tryz.results230 (AO Aa)) sN ⟨Aa,Aa⟩
theorem PN (s:Ah)(x:Ah)(r:Ah)(h:HX s x=some r):Fn Tryz.prog GE 229 [rS s,rS x] [] (λR H=>R=rS r∧H=[]):=by
 refine enter (n:=16) Tryz.func229 Aa Tryz.ntmps229 Aa (λw Z=>?_);unfold HX at h;refine Ae (wv (r:=rS ([]:Ah)) (A5 Aa) (An (Al (Ae (wm Aa (wm Aa (ob h λr1 e3 h2=>BX Tryz.call230 (LR s x r1 e3) Aa (An (cz h2 Aa (λc4 h5=>?_) (λc4 hb=>?_))))))))))
 ·refine Ae (wm Aa (wm Aa (wv (BO Dx Aa) (wm Aa (wv (BO Dx Aa) (ck h5 λg6 h7=>wv (I3 Aa Aa g6) (ck h7 λg8 h9=>wv (I4 Dx Aa Aa g8) (wa Aa (An (Ap (Ac ?_)))))))))));obtain rfl:=As h9;exact Ar (BE Tryz.results229 (AO Aa)) sN ⟨Aa,Aa⟩
 refine Ax (AS (Ae (wm Aa (wa Aa (An (Ap ?_))))));obtain rfl:=As hb;exact Ar (BE Tryz.results229 (AO Aa)) sN ⟨Aa,Aa⟩
theorem U3 (s:Ah)(x:Ah)(r:Bool)(h:LB s x=some r):Fn Tryz.prog GE 202 [rS s,rS x] [] (λR H=>R=rB r∧H=[]):=by
 refine enter (n:=8) Tryz.func202 Aa Tryz.ntmps202 Aa (λw Z=>?_);unfold LB at h;refine Ae (wa Aa (Bv (wm Aa (wm Aa (ob h λr1 e3 h2=>BX Tryz.call230 (LR s x r1 e3) Aa (wa Aa (An (Ap ?_))))))));obtain rfl:=As h2;exact Ar (BE Tryz.results202 (AO Aa)) sN ⟨Aa,Aa⟩
theorem Se (s:Ah)(x:Ah)(r:Ah)(h:Kb s x=some r):Fn Tryz.prog GE 201 [rS s,rS x] [] (λR H=>R=rS r∧H=[]):=by
 refine enter (n:=8) Tryz.func201 Aa Tryz.ntmps201 Aa (λw Z=>?_);unfold Kb at h;refine Ae (wv (r:=rS ([]:Ah)) (A5 Aa) (Bv (wm Aa (wm Aa (ob h λr1 e3 h2=>BX Tryz.call229 (PN s x r1 e3) Aa (wa Aa (An (Ap ?_))))))));obtain rfl:=As h2;exact Ar (BE Tryz.results201 (AO Aa)) sN ⟨Aa,Aa⟩
theorem RB (s:Ah)(r:Ah)(h:E8 s=some r):Fn Tryz.prog GE 174 [rS s] [] (λR H=>R=rS r∧H=[]):=by
 refine enter (n:=5) Tryz.func174 Aa Tryz.ntmps174 Aa (λw Z=>?_);unfold E8 at h;refine Ae (wv (r:=rS ([]:Ah)) (A5 Aa) (Bv (wm Aa (ob h λr1 e3 h2=>BX Tryz.call201 (Se s ([42]:Ah) r1 e3) Aa (wa Aa (An (Ap ?_)))))));obtain rfl:=As h2;exact Ar (BE Tryz.results174 (AO Aa)) sN ⟨Aa,Aa⟩
theorem WR (s:Ah)(r:Bool)(h:Mb s=some r):Fn Tryz.prog GE 175 [rS s] [] (λR H=>R=rB r∧H=[]):=by
 refine enter (n:=5) Tryz.func175 Aa Tryz.ntmps175 Aa (λw Z=>?_);unfold Mb at h;refine Ae (wa Aa (Bv (wm Aa (ob h λr1 e3 h2=>BX Tryz.call202 (U3 s ([42]:Ah) r1 e3) Aa (wa Aa (An (Ap ?_)))))));obtain rfl:=As h2;exact Ar (BE Tryz.results175 (AO Aa)) sN ⟨Aa,Aa⟩
theorem Q0 (s:Ah)(r:Bool)(h:JJ s=some r):Fn Tryz.prog GE 126 [rS s] [] (λR H=>R=rB r∧H=[]):=by
 refine enter (n:=23) Tryz.func126 Aa Tryz.ntmps126 Aa (λw Z=>?_);unfold JJ at h;refine Ae (wa Aa (An (ck h λg1 h2=>ck h2 λg3 h4=>AC [(2,rB ((Nu s)||((decide (s=([42]:Ah)))||((Nu (ov (E8 s)))&&((ov (Mb s))&&(decide ((s.length:Int)≤64)))))))] [] ?_ ?_)))
 ·refine Aj (wm Aa (Cp (rs:=[rS s]) (r:=rB (Nu s)) Tryz.call115 Aa (AbF s) Aa Aa (wm Aa (AU (Nu s) (λc5=>?_) (λc5=>?_)))))
  ·refine wf c5 (wf c5 (wv (r:=rB true) (AB Aa c5 Aa) (wm Aa (wz Aa Aa (wz Aa Aa (wz Aa Aa (wz Aa Aa (wu (wu (wz Aa Aa (wz Aa Aa (wu (wu (wu (wz Aa Aa (wv (r:=rB true) (AB (b:=true) Aa Aa Aa) (wa Aa (Am ?_))))))))))))))))));exact Cd c5
  refine wo c5 (wm Aa (wo c5 (wv (Cy Aa Aa) (II Aa c5 Aa (wm Aa (AU (decide (s=([42]:Ah))) (λc6=>?_) (λc6=>?_)))))))
  ·refine wf c6 (wf c6 (wf c6 (wf c6 (wu (wu (wf c6 (wf c6 (wu (wu (wu (wf c6 (wv (r:=rB true) (AB Aa c6 Aa) (wa Aa (Am ?_))))))))))))));exact Cd (And.intro c5 c6)
  refine wo c6 (wm Aa (wo c6 (BX Tryz.call174 (RB s (ov (E8 s)) (CY (Dd (Dd g1 c5) c6))) Aa (wo c6 (Cp (rs:=[rS (ov (E8 s))]) (r:=rB (Nu (ov (E8 s)))) Tryz.call115 Aa (AbF (ov (E8 s))) Aa Aa (wo c6 (wm Aa (AU (Nu (ov (E8 s))) (λc7=>?_) (λc7=>?_)))))))))
  ·refine wo c7 (wm Aa (wo c7 (BX Tryz.call175 (WR s (ov (Mb s)) (CY (BY (Dd (Dd g3 c5) c6) c7))) Aa (wo c6 (Eb Aa c7 Aa (wo c6 (wm Aa (AU ((ov (Mb s))) (λc8=>?_) (λc8=>?_)))))))))
   ·refine wo c8 (wm Aa (wo c8 (wv (BO Dx Aa) (wo c8 (wv (J9 Aa Aa) (wo c6 (Eb Aa c8 Aa (II Aa c6 Aa (wa Aa (Am ?_))))))))));exact Cd (And.intro c5 (And.intro c6 (And.intro c7 c8)))
   refine wf c8 (wf c8 (wf c8 (wo c6 (wv (r:=rB false) (Av Aa c8 Aa) (II Aa c6 Aa (wa Aa (Am ?_)))))));exact Cd (And.intro c5 (And.intro c6 (And.intro c7 c8)))
  refine wf c7 (wf c7 (wo c6 (wv (r:=rB false) (Av Aa c7 Aa) (wo c6 (wm Aa (wz Aa Aa (wz Aa Aa (wz Aa Aa (wo c6 (wv (r:=rB false) (Av (b:=false) Aa Aa Aa) (II Aa c6 Aa (wa Aa (Am ?_)))))))))))));exact Cd (And.intro c5 (And.intro c6 c7))
 refine Ap ?_;obtain rfl:=As h4;exact Ar (BE Tryz.results126 (AO Aa)) sN ⟨Aa,Aa⟩
theorem VE (q:Ah)(s:Ah)(r:Bool)(h:Lf q s=some r):Fn Tryz.prog GE 128 [rS q,rS s] [] (λR H=>R=rB r∧H=[]):=by
 refine enter (n:=17) Tryz.func128 Aa Tryz.ntmps128 Aa (λw Z=>?_);unfold Lf at h;refine Ae (wa Aa (An (Al (Ae (wm Aa (ob h λr1 e3 h2=>BX Tryz.call126 (Q0 q r1 e3) Aa (wv (Cc Aa) (An (cz h2 Aa (λc4 h5=>?_) (λc4 h6=>?_))))))))))
 ·refine Ae (wa Aa (An (Ap (Ac ?_))));obtain rfl:=As h5;exact Ar (BE Tryz.results128 (AO Aa)) sN ⟨Aa,Aa⟩
 refine Ax (AS (Al (Ae (wm Aa (ob h6 λr7 e9 h8=>BX Tryz.call175 (WR q r7 e9) Aa (An (cz h8 Aa (λhd he=>?_) (λhd hf=>?_))))))))
 ·refine Ae (wm Aa (wm Aa (ob he λhb hg hh=>BX Tryz.call174 (RB q hb hg) Aa (ob hh λhi hj hk=>BX Tryz.call176 (OK s hb hi hj) Aa (wa Aa (An (Ap (Ac ?_))))))));obtain rfl:=As hk;exact Ar (BE Tryz.results128 (AO Aa)) sN ⟨Aa,Aa⟩
 refine Ax (AS (Ae (wm Aa (wm Aa (wv (Cy Aa Aa) (wa Aa (An (Ap ?_))))))));obtain rfl:=As hf;exact Ar (BE Tryz.results128 (AO Aa)) sN ⟨Aa,Aa⟩
theorem Pv (F:Nat)(l:(List Ah))(s:Ah)(r:Bool)(h:Gg F l s=some r):Fn Tryz.prog GE 21 [AJ 1 (A3 eS l),rS s] [] (λR H=>R=rB r∧H=[]):=by
 refine enter (n:=18) Tryz.func21 Aa Tryz.ntmps21 Aa (λw Z=>?_);unfold Gg at h;refine Ae (wa Aa (An (Al (Ae (wa Aa (An (AF (ob h λhh hi hf=>B2 (S:=Nat×(Int)×(Unit)) (V:=(Unit)×(Unit)) 0 (λσ=>Cj (λσ=>IC l s σ) σ.1 σ.2.1=some hh) (λσ=>[(0,AJ 1 (A3 eS l)),(1,rS s),(5,A2 σ.2.1)]) (λσ=>[]) (λσ=>σ.1) (F,0,()) hi (AM.c Aa (AM.c Aa (AM.c Aa AM.nil))) sN (λσ=>Lh =some r) (λσ=>[]) (λσ=>[]) ?_ ?_))))))))
 ·rintro⟨h1,hg,⟨⟩⟩ hj;refine GZ ?_;obtain⟨hk,rfl,hl,hb,he⟩:=Cu hj;replace hb:IC l s hg=some hl:=hb;unfold IC at hb;refine Al (Ae (wm Aa (wm Aa (wv (Br (ys:=l) (enc:=eS) CQ Aa) (wv (C1 Aa Aa) (An (cz hb Aa (λhm hn=>?_) (λhm hp=>?_))))))))
  ·refine Ax (AS (Al (AF (Ae (wm Aa (wm Aa (ck hn λhq hr=>wv (Bj (enc:=eS) (ys:=l) CQ CC Aa Aa hq) (wv (AV Dp Aa Aa) (wm Aa (wv (Cy Aa Aa) (An (cz hr Aa (λhs ht=>?_) (λhs hu=>?_)))))))))))))
   ·refine Ae (wa Aa (An (Ap (A0 (Ac (Ac (Bu ?_)))))));have hw:=BF ht he hf;refine A0 (Ac ?_);obtain rfl:=As hw;exact Ar (BE Tryz.results21 (AO Aa)) sN ⟨Aa,Aa⟩
   refine Ax (AH (AS (Aj (wm Aa (ck hu λhx hy=>wv (BA Aa Aa hx) (wa Aa (Am ?_)))))));have hz:=Bw hy he;exact A4 (AK (hk,hg+1,()) ⟨hz,Afh _⟩ (AM.c Aa (AM.c Aa (AM.c Aa AM.nil))) sN)
  refine B4 (Ay ?_);have h0:=BP hp he hf;exact Ay (Bn (AK ((),()) h0 AM.nil sN))
 rintro⟨⟨⟩,⟨⟩⟩ hd;refine HE ?_;replace hd:Lh =some r:=hd;unfold Lh at hd;refine Bm (AS (Ae (wa Aa (An (Ap ?_)))));obtain rfl:=As hd;exact Ar (BE Tryz.results21 (AO Aa)) sN ⟨Aa,Aa⟩
theorem Q1 (F:Nat)(a:(List Ah))(b:(List Ah))(r:Bool)(h:Lg F a b=some r):Fn Tryz.prog GE 18 [AJ 1 (A3 eS a),AJ 1 (A3 eS b)] [] (λR H=>R=rB r∧H=[]):=by
 refine enter (n:=26) Tryz.func18 Aa Tryz.ntmps18 Aa (λw Z=>?_);unfold Lg at h;refine Ae (wa Aa (An (Al (Ae (wm Aa (wv (Br (ys:=a) (enc:=eS) CQ Aa) (wm Aa (wv (Br (ys:=b) (enc:=eS) CQ Aa) (wv (Ct Aa Aa) (An (cz h Aa (λc1 h2=>?_) (λc1 h3=>?_))))))))))))
 ·refine Ae (wa Aa (An (Ap (Ac ?_))));obtain rfl:=As h2;exact Ar (BE Tryz.results18 (AO Aa)) sN ⟨Aa,Aa⟩
 refine Ax (AS (Al (Ae (wa Aa (An (AF (ob h3 λhh hi hf=>B2 (S:=Nat×(Int)×(Unit)) (V:=(Unit)×(Unit)) 0 (λσ=>Cj (λσ=>Hk a b σ) σ.1 σ.2.1=some hh) (λσ=>[(0,AJ 1 (A3 eS a)),(1,AJ 1 (A3 eS b)),(5,A2 σ.2.1)]) (λσ=>[]) (λσ=>σ.1) (F,0,()) hi (AM.c Aa (AM.c Aa (AM.c Aa AM.nil))) sN (λσ=>JK =some r) (λσ=>[]) (λσ=>[]) ?_ ?_)))))))
 ·rintro⟨h5,hg,⟨⟩⟩ hj;refine GZ ?_;obtain⟨hk,rfl,hl,hb,he⟩:=Cu hj;replace hb:Hk a b hg=some hl:=hb;unfold Hk at hb;refine Al (Ae (wm Aa (wm Aa (wv (Br (ys:=a) (enc:=eS) CQ Aa) (wv (C1 Aa Aa) (An (cz hb Aa (λhm hn=>?_) (λhm hp=>?_))))))))
  ·refine Ax (AS (Al (AF (Al (ck hn λhq hr=>ck hr λhs ht=>Dc [0,1,5] ?_)))));refine rq (Ak Aa) (rq (Ak Aa) (rq (Bj (enc:=eS) (ys:=a) CQ CC Aa Aa hq) (rq (AV Dp Aa Aa) (rq (Ak Aa) (rq (Ak Aa) (rq (Bj (enc:=eS) (ys:=b) CQ CC Aa Aa hs) (rq (AV Dp Aa Aa) (rq (KQ Aa Aa) (re [25,0,1,5] ?_)))))))));refine AS (cz ht Aa (λhu hw=>?_) (λhu hx=>?_))
   ·refine Ae (wa Aa (An (Ap (A0 (Ac (Ac (Bu ?_)))))));have hy:=BF hw he hf;refine A0 (Ac ?_);obtain rfl:=As hy;exact Ar (BE Tryz.results18 (AO Aa)) sN ⟨Aa,Aa⟩
   refine Ax (AH (AS (Aj (wm Aa (ck hx λhz h0=>wv (BA Aa Aa hz) (wa Aa (Am ?_)))))));have h1:=Bw h0 he;exact A4 (AK (hk,hg+1,()) ⟨h1,Afh _⟩ (AM.c Aa (AM.c Aa (AM.c Aa AM.nil))) sN)
  refine B4 (Ay ?_);have h4:=BP hp he hf;exact Ay (Bn (AK ((),()) h4 AM.nil sN))
 rintro⟨⟨⟩,⟨⟩⟩ hd;refine HE ?_;replace hd:JK =some r:=hd;unfold JK at hd;refine Bm (AS (Ae (wa Aa (An (Ap ?_)))));obtain rfl:=As hd;exact Ar (BE Tryz.results18 (AO Aa)) sN ⟨Aa,Aa⟩
theorem V1 (x:Ah)(r:Bool)(h:Nh x=some r):Fn Tryz.prog GE 125 [rS x] [] (λR H=>R=rB r∧H=[]):=by
 refine enter (n:=6) Tryz.func125 Aa Tryz.ntmps125 Aa (λw Z=>?_);unfold Nh at h;refine Ae (wa Aa (Bv (wm Aa (ob h λr1 e3 h2=>BX Tryz.call126 (Q0 x r1 e3) Aa (wv (Cc Aa) (wa Aa (An (Ap ?_))))))));obtain rfl:=As h2;exact Ar (BE Tryz.results125 (AO Aa)) sN ⟨Aa,Aa⟩
theorem XU (hb:Nat)(x:Ah)(s:Ah)(r:Bool)(h:Pq x s=some r):Fn Tryz.prog GE 127 [rS x,rP hb 0] [.blk hb [rS s] 9] (λR H=>R=rB r∧H=[.blk hb [rS s] 9]):=by
 refine enter (n:=7) Tryz.func127 Aa Tryz.ntmps127 Aa (λw Z=>?_);unfold Pq at h;refine Ae (wa Aa (Bv (wm Aa (vL 0 Dp Aa (ob h λr1 e3 h2=>BX Tryz.call128 (VE x s r1 e3) Aa (wa Aa (An (Ap ?_))))))));obtain rfl:=As h2;exact Ar (BE Tryz.results127 (AO Aa)) (sC sN) ⟨Aa,Aa⟩
theorem Ab8 (F:Nat)(ys:(List Ah))(r:Int)(h:WJ F ys=some r):Fn Tryz.prog GE 173 [AJ 1 (A3 eS ys),rv (.func (.func 125) #[] #[])] [] (λR H=>R=A2 r∧H=[]):=by
 refine enter (n:=19) Tryz.func173 Aa Tryz.ntmps173 Aa (λw Z=>?_);unfold WJ at h;refine Ae (wa Aa (An (Al (Ae (wm Aa (wv (Br (ys:=ys) (enc:=eS) CQ Aa) (wv (r:=A2 0) (Ak Aa) (An (AF (ob h λhh hi hg=>B2 (S:=Nat×(Int)×(Unit)) (V:=(Unit)×(Unit)) 0 (λσ=>Cj (λσ=>IA ys σ) σ.1 σ.2.1=some hh) (λσ=>[(0,AJ 1 (A3 eS ys)),(1,rv (.func (.func 125) #[] #[])),(7,A2 (ys.length:Int)),(8,A2 σ.2.1)]) (λσ=>[]) (λσ=>σ.1) (F,0,()) hi (AM.c Aa (AM.c Aa (AM.c Aa (AM.c Aa AM.nil)))) sN (λσ=>Ld =some r) (λσ=>[]) (λσ=>[]) ?_ ?_))))))))))
 ·rintro⟨h4,hb,⟨⟩⟩ hj;refine GZ ?_;obtain⟨hk,rfl,hl,hd,hf⟩:=Cu hj;replace hd:IA ys hb=some hl:=hd;unfold IA at hd;refine Ae (wv (C1 Aa Aa) (An (Al (cz hd Aa (λhm hn=>?_) (λhm hp=>?_)))))
  ·refine Ax (AS (Al (AF (Ae (wm Aa (wa Aa (Bv (wm Aa (wm Aa (wm Aa (ck hn λhq hr=>wv (Bj (enc:=eS) (ys:=ys) CQ CC Aa Aa hq) (wv (AV Dp Aa Aa) (ob hr λhs ht hu=>Hz (rs:=[rS (Ao ys hb)]) (Hin:=[]) (Hr:=[]) Tryz.call125 Aa Aa (Afl _) (V1 (Ao ys hb) hs ht) Aa ?_)))))))))))));rintro _ _ ⟨rfl,rfl⟩;refine An (cz hu Aa (λhw hx=>?_) (λhw hy=>?_))
   ·refine Ae (wm Aa (wa Aa (An (Ap (A0 (Ac (Ac (Bu ?_))))))));have hz:=BF hx hf hg;refine A0 (Ac ?_);obtain rfl:=As hz;exact Ar (BE Wd (AO Aa)) sN ⟨Aa,Aa⟩
   refine Ax (AH (AS (Aj (ck hy λh0 h1=>wv (BA Aa Aa h0) (wm Aa (Am ?_))))));have h2:=Bw h1 hf;exact A4 (AK (hk,hb+1,()) ⟨h2,Afh _⟩ (AM.c Aa (AM.c Aa (AM.c Aa (AM.c Aa AM.nil)))) sN)
  refine B4 (Ay ?_);have h3:=BP hp hf hg;exact Ay (Bn (AK ((),()) h3 AM.nil sN))
 rintro⟨⟨⟩,⟨⟩⟩ he;refine HE ?_;replace he:Ld =some r:=he;unfold Ld at he;refine Bm (AS (Ae (wv (r:=A2 (-1)) (A5 Aa) (An (Ap ?_)))));obtain rfl:=As he;exact Ar (BE Wd (AO Aa)) sN ⟨Aa,Aa⟩
theorem ZY (F:Nat)(ys:(List Ah))(r:Bool)(h:Og F ys=some r):Fn Tryz.prog GE 124 [AJ 1 (A3 eS ys),rv (.func (.func 125) #[] #[])] [] (λR H=>R=rB r∧H=[]):=by
 refine enter (n:=9) Tryz.func124 Aa Tryz.ntmps124 Aa (λw Z=>?_);unfold Og at h;refine Ae (wa Aa (Bv (wm Aa (wm Aa (ob h λr1 e3 h2=>BX Tryz.call173 (Ab8 F ys r1 e3) Aa (wv (EN Aa Aa) (wa Aa (An (Ap ?_)))))))));obtain rfl:=As h2;exact Ar (BE Tryz.results124 (AO Aa)) sN ⟨Aa,Aa⟩
theorem ZM (F:Nat)(hb:Nat)(ys:(List Ah))(s:Ah)(r:Int)(h:SA F ys s=some r):Fn Tryz.prog GE 173 [AJ 1 (A3 eS ys),rv (.func (.func 127) #[] #[(.pointer (some ⟨hb,0,none⟩))])] [.blk hb [rS s] 9] (λR H=>R=A2 r∧H=[.blk hb [rS s] 9]):=by
 refine enter (n:=19) Tryz.func173 Aa Tryz.ntmps173 Aa (λw Z=>?_);unfold SA at h;refine Ae (wa Aa (An (Al (Ae (wm Aa (wv (Br (ys:=ys) (enc:=eS) CQ Aa) (wv (r:=A2 0) (Ak Aa) (An (AF (ob h λhi hj hh=>B2 (S:=Nat×(Int)×(Unit)) (V:=(Unit)×(Unit)) 0 (λσ=>Cj (λσ=>Hi ys s σ) σ.1 σ.2.1=some hi) (λσ=>[(0,AJ 1 (A3 eS ys)),(1,rv (.func (.func 127) #[] #[(.pointer (some ⟨hb,0,none⟩))])),(7,A2 (ys.length:Int)),(8,A2 σ.2.1)]) (λσ=>[.blk hb [rS s] 9]) (λσ=>σ.1) (F,0,()) hj (AM.c Aa (AM.c Aa (AM.c Aa (AM.c Aa AM.nil)))) (sC sN) (λσ=>JG =some r) (λσ=>[]) (λσ=>[.blk hb [rS s] 9]) ?_ ?_))))))))))
 ·rintro⟨h5,hd,⟨⟩⟩ hk;refine GZ ?_;obtain⟨hl,rfl,hm,he,hg⟩:=Cu hk;replace he:Hi ys s hd=some hm:=he;unfold Hi at he;refine Ae (wv (C1 Aa Aa) (An (Al (cz he Aa (λhn hp=>?_) (λhn hq=>?_)))))
  ·refine Ax (AS (Al (AF (Ae (wm Aa (wa Aa (Bv (wm Aa (wm Aa (wm Aa (ck hp λhr hs=>wv (Bj (enc:=eS) (ys:=ys) CQ CC Aa Aa hr) (wv (AV Dp Aa Aa) (ob hs λht hu hw=>Hz (rs:=[rS (Ao ys hd)]) (Hin:=[.blk hb [rS s] 9]) (Hr:=[]) Tryz.call127 Aa Aa (Afl _) (XU hb (Ao ys hd) s ht hu) Aa ?_)))))))))))));rintro _ _ ⟨rfl,rfl⟩;refine An (cz hw Aa (λhx hy=>?_) (λhx hz=>?_))
   ·refine Ae (wm Aa (wa Aa (An (Ap (A0 (Ac (Ac (Bu ?_))))))));have h0:=BF hy hg hh;refine A0 (Ac ?_);obtain rfl:=As h0;exact Ar (BE Wd (AO Aa)) (sC sN) ⟨Aa,Aa⟩
   refine Ax (AH (AS (Aj (ck hz λh1 h2=>wv (BA Aa Aa h1) (wm Aa (Am ?_))))));have h3:=Bw h2 hg;exact A4 (AK (hl,hd+1,()) ⟨h3,Afh _⟩ (AM.c Aa (AM.c Aa (AM.c Aa (AM.c Aa AM.nil)))) (sC sN))
  refine B4 (Ay ?_);have h4:=BP hq hg hh;exact Ay (Bn (AK ((),()) h4 AM.nil (sC sN)))
 rintro⟨⟨⟩,⟨⟩⟩ hf;refine HE ?_;replace hf:JG =some r:=hf;unfold JG at hf;refine Bm (AS (Ae (wv (r:=A2 (-1)) (A5 Aa) (An (Ap ?_)))));obtain rfl:=As hf;exact Ar (BE Wd (AO Aa)) (sC sN) ⟨Aa,Aa⟩
theorem Yj (F:Nat)(hb:Nat)(ys:(List Ah))(s:Ah)(r:Bool)(h:Nv F ys s=some r):Fn Tryz.prog GE 124 [AJ 1 (A3 eS ys),rv (.func (.func 127) #[] #[(.pointer (some ⟨hb,0,none⟩))])] [.blk hb [rS s] 9] (λR H=>R=rB r∧H=[.blk hb [rS s] 9]):=by
 refine enter (n:=9) Tryz.func124 Aa Tryz.ntmps124 Aa (λw Z=>?_);unfold Nv at h;refine Ae (wa Aa (Bv (wm Aa (wm Aa (ob h λr1 e3 h2=>EX [0] Tryz.call173 (ZM F hb ys s r1 e3) ?_)))));rintro _ _ ⟨rfl,rfl⟩;refine wv (EN Aa Aa) (wa Aa (An (Ap ?_)));obtain rfl:=As h2;exact Ar (BE Tryz.results124 (AO Aa)) (sC sN) ⟨Aa,Aa⟩
theorem R3 (F:Nat)(s:Ad)(r:Int)(h:Gz F s=some r):Fn Tryz.prog GE 74 [BB (Ai s)] [] (λR H=>R=A2 r∧H=[]):=by
 refine enter (n:=37) Tryz.func74 Aa Tryz.ntmps74 Aa (λw Z=>?_);unfold Gz at h;refine Ae (Ci Aa Aa (λb1=>?_));refine wa Aa (Bv (vF Jo Aa Dm (vL 0 G3 Aa (vF Jo Aa Dm (vL 0 G3 Aa (Bp (ys:=([s.fActions,s.fResources]:List (List Ah))) (enc:=Jj) (css:=[[AJ 1 (A3 eS s.fActions)],[AJ 1 (A3 eS s.fResources)]]) (xs:=[.tmp 9,.tmp 11]) Tg Dm Tryz.zeroValue22 Aa Aa Aa ⟨Gl.one Aa (Up.refl _),Gl.one Aa (Up.refl _),trivial⟩ Aa VM Aa Aa Aa (λb2=>?_)))))));refine wa Aa (An (Al (Ae (wm Aa (wv (CN (ys:=([s.fActions,s.fResources]:List (List Ah))) (enc:=Jj) (i:=0) Tg Aa Aa) (wv (r:=A2 0) (Ak Aa) (An (AF (ob h λhq hr hl=>B2 (S:=Nat×(Int)×(Unit)) (V:=(Unit)×(Unit)) 0 (λσ=>Cj (λσ=>G8 s σ) σ.1 σ.2.1=some hq) (λσ=>[(3,rv (.slice (some ⟨b2,0,none⟩) 2 2)),(13,rv (.slice (some ⟨b2,0,none⟩) 2 2)),(14,A2 (([s.fActions,s.fResources]:List (List Ah)).length:Int)),(15,A2 σ.2.1)]) (λσ=>[.row (.slice (some ⟨b2,0,none⟩) 2 2) 22 1 (A3 Jj ([s.fActions,s.fResources]:List (List Ah)))]) (λσ=>σ.1) (F,0,()) hr (AM.c Aa (AM.c Aa (AM.c Aa (AM.c Aa AM.nil)))) (sC (sS sN)) (λσ=>I2 F s =some r) (λσ=>[(3,rv (.slice (some ⟨b2,0,none⟩) 2 2))]) (λσ=>[.row (.slice (some ⟨b2,0,none⟩) 2 2) 22 1 (A3 Jj ([s.fActions,s.fResources]:List (List Ah)))]) ?_ ?_)))))))))
 ·rintro⟨hU,hb,⟨⟩⟩ hs;refine GZ ?_;obtain⟨ht,rfl,hu,hf,hj⟩:=Cu hs;replace hf:G8 s hb=some hu:=hf;unfold G8 at hf;refine Ae (wv (C1 Aa Aa) (An (Al (cz hf Aa (λhw hx=>?_) (λhw hy=>?_)))))
  ·refine Ax (AS (Al (AF (Ae (ck hx λhm hz=>wv (r:=rv (En 1 (.slice (some ⟨b2,0,none⟩) 2 2) (Ch hb) 0)) (Dr (i:=0) Tg Dm Aa Aa Aa (BC hm)) (wv (r:=AJ 1 (A3 eS (Ao ([s.fActions,s.fResources]:List (List Ah)) hb))) (EM (enc:=Jj) (ys:=([s.fActions,s.fResources]:List (List Ah))) (i:=0) (j:=hb) G3 Aa Aa hm Aa) (wa Aa (An (AC [(3,rv (.slice (some ⟨b2,0,none⟩) 2 2)),(13,rv (.slice (some ⟨b2,0,none⟩) 2 2)),(14,A2 (([s.fActions,s.fResources]:List (List Ah)).length:Int)),(15,A2 hb),(26,rB ((decide (((Ao ([s.fActions,s.fResources]:List (List Ah)) hb).length:Int)<1))||(decide (8<((Ao ([s.fActions,s.fResources]:List (List Ah)) hb).length:Int)))))] [.row (.slice (some ⟨b2,0,none⟩) 2 2) 22 1 (A3 Jj ([s.fActions,s.fResources]:List (List Ah)))] ?_ ?_)))))))))
   ·refine Aj (wm Aa (wv (Br (ys:=Ao ([s.fActions,s.fResources]:List (List Ah)) hb) (enc:=eS) CQ Aa) (wv (C1 Aa Aa) (wm Aa (AU (decide (((Ao ([s.fActions,s.fResources]:List (List Ah)) hb).length:Int)<1)) (λhd=>?_) (λhd=>?_))))))
    ·refine wf hd (wf hd (wf hd (wv (r:=rB true) (AB Aa hd Aa) (Am ?_))));exact Cd hd
    refine wo hd (wm Aa (wo hd (wv (Br (ys:=Ao ([s.fActions,s.fResources]:List (List Ah)) hb) (enc:=eS) CQ Aa) (wo hd (wv (Ee Aa Aa) (II Aa hd Aa (Am ?_)))))));exact Cd hd
   refine cz hz Aa (λh0 h1=>?_) (λh0 h2=>?_)
   ·refine Ae (wa Aa (An (Ap (A0 (Ac (Ac (Bu ?_)))))));have h3:=BF h1 hj hl;refine A0 (Ac ?_);obtain rfl:=As h3;exact Ar (BE Tryz.results74 (AO Aa)) (sS sN) ⟨Aa,Aa⟩
   refine Ax (AH (AS (Aj (ck h2 λh4 h5=>wv (BA Aa Aa h4) (wm Aa (Am ?_))))));have h6:=Bw h5 hj;exact A4 (AK (ht,hb+1,()) ⟨h6,Afh _⟩ (AM.c Aa (AM.c Aa (AM.c Aa (AM.c Aa AM.nil)))) (sC sN))
  refine B4 (Ay ?_);have h7:=BP hy hj hl;exact Ay (Bn (AK ((),()) h7 (AM.c Aa AM.nil) (sC sN)))
 rintro⟨⟨⟩,⟨⟩⟩ hg;refine HE ?_;replace hg:I2 F s =some r:=hg;unfold I2 at hg;refine Bm (AS (Al (Ae (wm Aa (wv (CN (ys:=([s.fActions,s.fResources]:List (List Ah))) (enc:=Jj) (i:=0) Tg Aa Aa) (wv (r:=A2 0) (Ak Aa) (An (AF (ob hg λh8 h9 hn=>B2 (S:=Nat×(Int)×(Unit)) (V:=(Unit)×(Unit)) 2 (λσ=>Cj (λσ=>G7 F s σ) σ.1 σ.2.1=some h8) (λσ=>[(28,rv (.slice (some ⟨b2,0,none⟩) 2 2)),(29,A2 (([s.fActions,s.fResources]:List (List Ah)).length:Int)),(30,A2 σ.2.1)]) (λσ=>[.row (.slice (some ⟨b2,0,none⟩) 2 2) 22 1 (A3 Jj ([s.fActions,s.fResources]:List (List Ah)))]) (λσ=>σ.1) (F,0,()) h9 (AM.c Aa (AM.c Aa (AM.c Aa AM.nil))) (sC sN) (λσ=>I1 =some r) (λσ=>[]) (λσ=>[]) ?_ ?_)))))))))
 ·rintro⟨hV,he,⟨⟩⟩ hA;refine GZ ?_;obtain⟨hB,rfl,hC,hh,hk⟩:=Cu hA;replace hh:G7 F s he=some hC:=hh;unfold G7 at hh;refine Ae (wv (C1 Aa Aa) (An (Al (cz hh Aa (λhD hE=>?_) (λhD hG=>?_)))))
  ·refine Ax (AS (Al (AF (Ae (ck hE λhp hH=>wv (r:=rv (En 1 (.slice (some ⟨b2,0,none⟩) 2 2) (Ch he) 0)) (Dr (i:=0) Tg Dm Aa Aa Aa (BC hp)) (wv (r:=AJ 1 (A3 eS (Ao ([s.fActions,s.fResources]:List (List Ah)) he))) (EM (enc:=Jj) (ys:=([s.fActions,s.fResources]:List (List Ah))) (i:=0) (j:=he) G3 Aa Aa hp Aa) (wa Aa (Bv (wm Aa (ob hH λhI hJ hK=>BX Tryz.call124 (ZY F (Ao ([s.fActions,s.fResources]:List (List Ah)) he) hI hJ) Aa (An (cz hK Aa (λhL hN=>?_) (λhL hO=>?_)))))))))))))
   ·refine Ae (wa Aa (An (Ap (A0 (Ac (Ac (Bu ?_)))))));have hP:=BF hN hk hn;refine A0 (Ac ?_);obtain rfl:=As hP;exact Ar (BE Tryz.results74 (AO Aa)) (sS sN) ⟨Aa,Aa⟩
   refine Ax (AH (AS (Aj (ck hO λhQ hR=>wv (BA Aa Aa hQ) (wm Aa (Am ?_))))));have hS:=Bw hR hk;exact A4 (AK (hB,he+1,()) ⟨hS,Afh _⟩ (AM.c Aa (AM.c Aa (AM.c Aa AM.nil))) (sC sN))
  refine B4 (Ay ?_);have hT:=BP hG hk hn;exact Ay (Bn (AK ((),()) hT AM.nil (sS sN)))
 rintro⟨⟨⟩,⟨⟩⟩ hi;refine HE ?_;replace hi:I1 =some r:=hi;unfold I1 at hi;refine Bm (AS (Ae (wa Aa (An (Ap ?_)))));obtain rfl:=As hi;exact Ar (BE Tryz.results74 (AO Aa)) sN ⟨Aa,Aa⟩
theorem TJ (F:Nat)(l:(List Ah))(s:Ah)(r:Bool)(h:GS F l s=some r):Fn Tryz.prog GE 75 [AJ 1 (A3 eS l),rS s] [] (λR H=>R=rB r∧H=[]):=by
 refine enter (n:=8) Tryz.func75 Aa Tryz.ntmps75 Aa (λw Z=>?_);unfold GS at h;refine Ae (PA Aa (BT Aa) Aa (λb1=>?_));refine wa Aa (Bv (wm Aa (wv (r:=rv (.func (.func 127) #[] #[(.pointer (some ⟨b1,0,none⟩))])) (I5 Aa) (ob h λr2 e4 h3=>EX [0] Tryz.call124 (Yj F b1 l s r2 e4) ?_))));rintro _ _ ⟨rfl,rfl⟩;refine wa Aa (An (Ap ?_));obtain rfl:=As h3;exact Ar (BE Tryz.results75 (AO Aa)) (sS sN) ⟨Aa,Aa⟩
theorem XV (F:Nat)(hd:Nat)(he:Nat)(hf:Nat)(x:Ad)(allow:Bool)(action:Ah)(resource:Ah)(r:Bool)(h:Ng F x allow action resource=some r):Fn Tryz.prog GE 73 [BB (Ai x),rP hd 0,rP he 0,rP hf 0] [.blk hd [rB allow] 4,.blk he [rS action] 9,.blk hf [rS resource] 9] (λR H=>R=rB r∧H=[.blk hd [rB allow] 4,.blk he [rS action] 9,.blk hf [rS resource] 9]):=by
 refine enter (n:=27) Tryz.func73 Aa Tryz.ntmps73 Aa (λw Z=>?_);unfold Ng at h;refine Ae (Ci Aa Aa (λb1=>?_));refine wa Aa (An (ck h λg2 h3=>ck h3 λg4 h5=>ck h5 λg6 h7=>AC [(5,rB ((x.fAllow ==allow)&&((decide ((ov (Gz F x))=0))&&((ov (GS F x.fActions action))&&(ov (GS F x.fResources resource))))))] [.blk hd [rB allow] 4,.blk he [rS action] 9,.blk hf [rS resource] 9] ?_ ?_))
 ·refine Aj (vF Jo Aa Jp (vL 0 Pe Aa (vL 1 Pe Aa (wv (r:=rB (x.fAllow ==allow)) (Aco Tryz.underlying4 Aa Aa) (wm Aa (AU (x.fAllow ==allow) (λc8=>?_) (λc8=>?_)))))))
  ·refine wo c8 (wv (Bx (i:=0) Rn GQ Aa Aa Aa Aa) (wo c8 (BX Tryz.call74 (R3 F x (ov (Gz F x)) (CY (BY g2 c8))) Aa (wo c8 (wv (BI Aa Aa) (Eb Aa c8 Aa (wm Aa (AU (decide ((ov (Gz F x))=0)) (λc9=>?_) (λc9=>?_)))))))))
   ·refine wo c9 (vF Jo Aa Dm (wo c9 (vL 0 G3 Aa (wo c9 (vL 2 Dp Aa (wo c9 (BX Tryz.call75 (TJ F x.fActions action (ov (GS F x.fActions action)) (CY (BY (BY g4 c8) c9))) Aa (Eb Aa c9 Aa (wm Aa (AU ((ov (GS F x.fActions action))) (λhb=>?_) (λhb=>?_)))))))))))
    ·refine wo hb (vF Jo Aa Dm (wo hb (vL 0 G3 Aa (wo hb (vL 3 Dp Aa (wo hb (BX Tryz.call75 (TJ F x.fResources resource (ov (GS F x.fResources resource)) (CY (BY (BY (BY g6 c8) c9) hb))) Aa (Eb Aa hb Aa (wa Aa (Am ?_))))))))));exact Cd (And.intro c8 (And.intro c9 hb))
    refine wf hb (wf hb (wf hb (wf hb (wv (r:=rB false) (Av Aa hb Aa) (wa Aa (Am ?_))))));exact Cd (And.intro c8 (And.intro c9 hb))
   refine wf c9 (wf c9 (wf c9 (wf c9 (wv (r:=rB false) (Av Aa c9 Aa) (wm Aa (wz Aa Aa (wz Aa Aa (wz Aa Aa (wz Aa Aa (wv (r:=rB false) (Av (b:=false) Aa Aa Aa) (wa Aa (Am ?_))))))))))));exact Cd (And.intro c8 c9)
  refine wf c8 (wf c8 (wf c8 (wv (r:=rB false) (Av Aa c8 Aa) (wm Aa (wz Aa Aa (wz Aa Aa (wz Aa Aa (wz Aa Aa (wv (r:=rB false) (Av (b:=false) Aa Aa Aa) (wm Aa (wz Aa Aa (wz Aa Aa (wz Aa Aa (wz Aa Aa (wv (r:=rB false) (Av (b:=false) Aa Aa Aa) (wa Aa (Am ?_)))))))))))))))));exact Cd c8
 refine Ap ?_;obtain rfl:=As h7;exact Ar (BE Tryz.results73 (AO Aa)) (sC (sC (sC sN))) ⟨Aa,Aa⟩
theorem Ab6 (F:Nat)(hb:Nat)(hd:Nat)(he:Nat)(ys:(List Ad))(allow:Bool)(action:Ah)(resource:Ah)(r:Int)(h:Us F ys allow action resource=some r):Fn Tryz.prog GE 72 [AJ 3 (A3 Ai ys),rv (.func (.func 73) #[] #[(.pointer (some ⟨hb,0,none⟩)),(.pointer (some ⟨hd,0,none⟩)),(.pointer (some ⟨he,0,none⟩))])] [.blk hb [rB allow] 4,.blk hd [rS action] 9,.blk he [rS resource] 9] (λR H=>R=A2 r∧H=[.blk hb [rB allow] 4,.blk hd [rS action] 9,.blk he [rS resource] 9]):=by
 refine enter (n:=19) Tryz.func72 Aa Tryz.ntmps72 Aa (λw Z=>?_);unfold Us at h;refine Ae (wa Aa (An (Al (Ae (wm Aa (wv (Br (ys:=ys) (enc:=Ai) KG Aa) (wv (r:=A2 0) (Ak Aa) (An (AF (ob h λhk hl hj=>B2 (S:=Nat×(Int)×(Unit)) (V:=(Unit)×(Unit)) 0 (λσ=>Cj (λσ=>I9 F ys allow action resource σ) σ.1 σ.2.1=some hk) (λσ=>[(0,AJ 3 (A3 Ai ys)),(1,rv (.func (.func 73) #[] #[(.pointer (some ⟨hb,0,none⟩)),(.pointer (some ⟨hd,0,none⟩)),(.pointer (some ⟨he,0,none⟩))])),(7,A2 (ys.length:Int)),(8,A2 σ.2.1)]) (λσ=>[.blk hb [rB allow] 4,.blk hd [rS action] 9,.blk he [rS resource] 9]) (λσ=>σ.1) (F,0,()) hl (AM.c Aa (AM.c Aa (AM.c Aa (AM.c Aa AM.nil)))) (sC (sC (sC sN))) (λσ=>Lc =some r) (λσ=>[]) (λσ=>[.blk hb [rB allow] 4,.blk hd [rS action] 9,.blk he [rS resource] 9]) ?_ ?_))))))))))
 ·rintro⟨h7,hf,⟨⟩⟩ hm;refine GZ ?_;obtain⟨hn,rfl,hp,hg,hi⟩:=Cu hm;replace hg:I9 F ys allow action resource hf=some hp:=hg;unfold I9 at hg;refine Ae (wv (C1 Aa Aa) (An (Al (cz hg Aa (λhq hr=>?_) (λhq hs=>?_)))))
  ·refine Ax (AS (Al (AF (Ae (wm Aa (wa Aa (Bv (wm Aa (wm Aa (wm Aa (ck hr λht hu=>wv (Bj (enc:=Ai) (ys:=ys) KG GQ Aa Aa ht) (wv (C9 Rn GQ Aa Aa Aa) (ob hu λhw hx hy=>Hz (rs:=[BB (Ai (Ao ys hf))]) (Hin:=[.blk hb [rB allow] 4,.blk hd [rS action] 9,.blk he [rS resource] 9]) (Hr:=[]) Tryz.call73 Aa Aa (Afl _) (XV F hb hd he (Ao ys hf) allow action resource hw hx) Aa ?_)))))))))))));rintro _ _ ⟨rfl,rfl⟩;refine An (cz hy Aa (λhz h0=>?_) (λhz h1=>?_))
   ·refine Ae (wm Aa (wa Aa (An (Ap (A0 (Ac (Ac (Bu ?_))))))));have h2:=BF h0 hi hj;refine A0 (Ac ?_);obtain rfl:=As h2;exact Ar (BE Tryz.results72 (AO Aa)) (sC (sC (sC sN))) ⟨Aa,Aa⟩
   refine Ax (AH (AS (Aj (ck h1 λh3 h4=>wv (BA Aa Aa h3) (wm Aa (Am ?_))))));have h5:=Bw h4 hi;exact A4 (AK (hn,hf+1,()) ⟨h5,Afh _⟩ (AM.c Aa (AM.c Aa (AM.c Aa (AM.c Aa AM.nil)))) (sC (sC (sC sN))))
  refine B4 (Ay ?_);have h6:=BP hs hi hj;exact Ay (Bn (AK ((),()) h6 AM.nil (sC (sC (sC sN)))))
 rintro⟨⟨⟩,⟨⟩⟩ hh;refine HE ?_;replace hh:Lc =some r:=hh;unfold Lc at hh;refine Bm (AS (Ae (wv (r:=A2 (-1)) (A5 Aa) (An (Ap ?_)))));obtain rfl:=As hh;exact Ar (BE Tryz.results72 (AO Aa)) (sC (sC (sC sN))) ⟨Aa,Aa⟩
theorem TK (F:Nat)(he:Nat)(hb:Nat)(hd:Nat)(allow:Bool)(l:(List Ad))(action:Ah)(resource:Ah)(r:Int)(h:Qb F allow l action resource=some r):Fn Tryz.prog GE 71 [rB allow,rP he 0,rP hb 0,rP hd 0] [.blk he [AJ 3 (A3 Ai l)] 23,.blk hb [rS action] 9,.blk hd [rS resource] 9] (λR H=>R=A2 r∧H=[.blk he [AJ 3 (A3 Ai l)] 23,.blk hb [rS action] 9,.blk hd [rS resource] 9]):=by
 refine enter (n:=9) Tryz.func71 Aa Tryz.ntmps71 Aa (λw Z=>?_);unfold Qb at h;refine Ae (PA Aa (BT Aa) Aa (λb1=>?_));refine wa Aa (Bv (vL 1 MG Aa (wv (r:=rv (.func (.func 73) #[] #[(.pointer (some ⟨b1,0,none⟩)),(.pointer (some ⟨hb,0,none⟩)),(.pointer (some ⟨hd,0,none⟩))])) (I5 Aa) (ob h λr2 e4 h3=>EX [0,1,1] Tryz.call72 (Ab6 F b1 hb hd l allow action resource r2 e4) ?_))));rintro _ _ ⟨rfl,rfl⟩;refine wa Aa (An (Ap (Js [3,1,1] ?_)));obtain rfl:=As h3;exact Ar (BE Tryz.results71 (AO Aa)) (sC (sC (sC (sS sN)))) ⟨Aa,Aa⟩
theorem Mv (F:Nat)(l:(List Ad))(action:Ah)(resource:Ah)(r:C3)(h:D1 F l action resource=some r):Fn Tryz.prog GE 22 [AJ 3 (A3 Ai l),rS action,rS resource] [] (λR H=>R=BB (Me r)∧H=[]):=by
 refine enter (n:=23) Tryz.func22 Aa Tryz.ntmps22 Aa (λw Z=>?_);unfold D1 at h;refine Ae (PA Aa (BT Aa) Aa (λb1=>?_));refine PA Aa (BT Aa) Aa (λb2=>?_);refine PA Aa (BT Aa) Aa (λb3=>?_);refine BK (cs:=[rB false,A2 0]) Tryz.zeroValue63 Aa Aa (λb4=>?_);refine Bv (wv (r:=rv (.func (.func 71) #[] #[(.pointer (some ⟨b1,0,none⟩)),(.pointer (some ⟨b2,0,none⟩)),(.pointer (some ⟨b3,0,none⟩))])) (I5 Aa) (wa Aa (An (Al (Ae (wm Aa (ob h λr5 e7 h6=>Hz (rs:=[rB false]) (Hin:=[.blk b1 [AJ 3 (A3 Ai l)] 23,.blk b2 [rS action] 9,.blk b3 [rS resource] 9]) (Hr:=[.blk b4 [rB false,A2 0] 63]) Tryz.call71 Aa Aa ((AW (i:=3) Aa).trans (Afj _ ((AW (i:=2) Aa).trans (Afj _ ((AW (i:=1) Aa).trans (Afj _ (Afl _))))))) (TK F b1 b2 b3 false l action resource r5 e7) Aa ?_)))))));rintro _ _ ⟨rfl,rfl⟩;refine wa Aa (Bv (wm Aa (wv (EN Aa Aa) (An (cz h6 Aa (λc8 h9=>?_) (λc8 hd=>?_))))))
 ·refine Ae (wm Aa (wv (r:=BB [rB false,A2 r5]) (OF Aa Aa) (Gy (i:=3) Ti Aa Aa Aa (B6.c Aa) Aa Aa ?_)));refine An (Ap (Ac ?_));obtain rfl:=As h9;exact Ar (BE Tryz.results22 (CR (i:=3) AaG Ti Aa Aa Aa)) (sS (sS (sS (sS sN)))) ⟨Aa,Aa⟩
 refine Ax (AS (Ae (wm Aa (ob hd λhb he hf=>Hz (rs:=[rB true]) (Hin:=[.blk b1 [AJ 3 (A3 Ai l)] 23,.blk b2 [rS action] 9,.blk b3 [rS resource] 9]) (Hr:=[.blk b4 [rB false,A2 0] 63]) Tryz.call71 Aa Aa (Afl _) (TK F b1 b2 b3 true l action resource hb he) Aa ?_))));rintro _ _ ⟨rfl,rfl⟩;refine wa Aa (Bv (wm Aa (wv (EN Aa Aa) (wm Aa (wv (r:=BB [rB (decide (0≤hb)),A2 hb]) (LY Aa Aa Aa Aa) (Gy (i:=3) Ti Aa Aa Aa (B6.c Aa) Aa Aa ?_))))));refine An (Ap ?_);obtain rfl:=As hf;exact Ar (BE Tryz.results22 (CR (i:=3) AaG Ti Aa Aa Aa)) (sS (sS (sS (sS sN)))) ⟨Aa,Aa⟩
theorem KS (n:Int)(low:Int)(high:Int)(r:Bool)(h:DJ n low high=some r):Fn Tryz.prog GE 137 [A2 n,A2 low,A2 high] [] (λR H=>R=rB r∧H=[]):=by
 refine enter (n:=15) Tryz.func137 Aa Tryz.ntmps137 Aa (λw Z=>?_);unfold DJ at h;refine Ae (wa Aa (An (AC [(6,rB ((decide (low≤n))&&(decide (n≤high))))] [] ?_ ?_)))
 ·refine Aj (wm Aa (wm Aa (wv (EN Aa Aa) (wm Aa (AU (decide (low≤n)) (λc1=>?_) (λc1=>?_))))))
  ·refine wo c1 (wm Aa (wo c1 (wm Aa (wo c1 (wv (J9 Aa Aa) (Eb Aa c1 Aa (wa Aa (Am ?_))))))));exact Cd c1
  refine wf c1 (wf c1 (wf c1 (wv (r:=rB false) (Av Aa c1 Aa) (wa Aa (Am ?_)))));exact Cd c1
 refine Ap ?_;obtain rfl:=As h;exact Ar (BE Tryz.results137 (AO Aa)) sN ⟨Aa,Aa⟩
theorem Qk (bits:Int)(r:Int)(h:Et bits=some r):Fn Tryz.prog GE 138 [A2 bits] [] (λR H=>R=A2 r∧H=[]):=by
 refine enter (n:=7) Tryz.func138 Aa Tryz.ntmps138 Aa (λw Z=>?_);unfold Et at h;refine Ae (wa Aa (Bv (wm Aa (ck h λg1 h2=>wv (I3 Aa Aa g1) (ck h2 λg3 h4=>wv (r:=A2 (HH .i64 1 (32-bits))) (W7 Aa Aa g3) (ck h4 λg5 h6=>wv (I3 Aa Aa g5) (wa Aa (An (Ap ?_)))))))));obtain rfl:=As h6;exact Ar (BE Tryz.results138 (AO Aa)) sN ⟨Aa,Aa⟩
theorem L9 (q:AD)(r:Int)(h:DK q=some r):Fn Tryz.prog GE 86 [BB (Au q)] [] (λR H=>R=A2 r∧H=[]):=by
 refine enter (n:=34) Tryz.func86 Aa Tryz.ntmps86 Aa (λw Z=>?_);unfold DK at h;refine Ae (Ci Aa Aa (λb1=>?_));refine wa Aa (An (Al (ck h λg2 h3=>ck h3 λg4 h5=>ck h5 λg6 h7=>ck h7 λg8 h9=>AC [(1,rP b1 0),(26,rB ((!(ov (DJ q.fAddr 0 4294967295)))||((!(ov (DJ q.fBits 0 32)))||((!(ov (DJ q.fLow 1 65535)))||(!(ov (DJ q.fHigh q.fLow 65535)))))))] [.blk b1 (Au q) 111] ?_ ?_)))
 ·refine Aj (vF HO Aa Dj (vL 0 DQ Aa (BX O3 (KS q.fAddr 0 4294967295 (ov (DJ q.fAddr 0 4294967295)) (CY g2)) Aa (wv (Cc Aa) (wm Aa (AU (!(ov (DJ q.fAddr 0 4294967295))) (λhb=>?_) (λhb=>?_)))))))
  ·refine wf hb (wf hb (wf hb (wf hb (wv (r:=rB true) (AB Aa hb Aa) (wm Aa (wz Aa Aa (wz Aa Aa (wz Aa Aa (wz Aa Aa (wv (r:=rB true) (AB (b:=true) Aa Aa Aa) (wm Aa (wz Aa Aa (wz Aa Aa (wz Aa Aa (wz Aa Aa (wz Aa Aa (wz Aa Aa (wv (r:=rB true) (AB (b:=true) Aa Aa Aa) (Am ?_)))))))))))))))))));exact Cd hb
  refine wo hb (vF HO Aa Dj (wo hb (vL 0 DQ Aa (wo hb (BX O3 (KS q.fBits 0 32 (ov (DJ q.fBits 0 32)) (CY (Dd g4 hb))) Aa (wo hb (wv (Cc Aa) (II Aa hb Aa (wm Aa (AU (!(ov (DJ q.fBits 0 32))) (λhe=>?_) (λhe=>?_)))))))))))
  ·refine wf he (wf he (wf he (wf he (wv (r:=rB true) (AB Aa he Aa) (wm Aa (wz Aa Aa (wz Aa Aa (wz Aa Aa (wz Aa Aa (wz Aa Aa (wz Aa Aa (wv (r:=rB true) (AB (b:=true) Aa Aa Aa) (Am ?_)))))))))))));exact Cd (And.intro hb he)
  refine wo he (vF HO Aa Dj (wo he (vL 0 DQ Aa (wo he (BX O3 (KS q.fLow 1 65535 (ov (DJ q.fLow 1 65535)) (CY (Dd (Dd g6 hb) he))) Aa (wo he (wv (Cc Aa) (II Aa he Aa (wm Aa (AU (!(ov (DJ q.fLow 1 65535))) (λhd=>?_) (λhd=>?_)))))))))))
  ·refine wf hd (wf hd (wf hd (wf hd (wf hd (wf hd (wv (r:=rB true) (AB Aa hd Aa) (Am ?_)))))));exact Cd (And.intro hb (And.intro he hd))
  refine wo hd (vF HO Aa Dj (wo hd (vL 0 DQ Aa (wo hd (vF HO Aa Dj (wo hd (vL 0 DQ Aa (wo hd (BX O3 (KS q.fHigh q.fLow 65535 (ov (DJ q.fHigh q.fLow 65535)) (CY (Dd (Dd (Dd g8 hb) he) hd))) Aa (wo hd (wv (Cc Aa) (II Aa hd Aa (Am ?_)))))))))))));exact Cd (And.intro hb (And.intro he hd))
 refine cz h9 Aa (λhg hh=>?_) (λhg hi=>?_)
 ·refine Ae (wa Aa (An (Ap (Ac ?_))));obtain rfl:=As hh;exact Ar (BE Tryz.results86 (AO Aa)) (sS sN) ⟨Aa,Aa⟩
 refine Ax (AS (Al (Al (ob hi λhf hj hk=>Dc [1] ?_))));refine rq (Aq HO Aa Dj Aa Aa) (rq (Bc (i:=0) DQ Aa Aa Aa) (rq (Aq HO Aa Dj Aa Aa) (rq (Bc (i:=0) DQ Aa Aa Aa) (Jf (CD Tryz.call138 (Qk q.fBits hf hj) Aa) (rq (r:=A2 (ZV .i64 q.fAddr hf)) (AdP Aa Aa) (rq (Ct Aa Aa) (re [33] ?_)))))));refine AS (cz hk Aa (λhl hm=>?_) (λhl hn=>?_))
 ·refine Ae (wa Aa (An (Ap (Ac ?_))));obtain rfl:=As hm;exact Ar (BE Tryz.results86 (AO Aa)) (sS sN) ⟨Aa,Aa⟩
 refine Ax (AS (Ae (wa Aa (An (Ap ?_)))));obtain rfl:=As hn;exact Ar (BE Tryz.results86 (AO Aa)) (sS sN) ⟨Aa,Aa⟩
theorem Ab5 (s:Ah)(r:Int)(h:WI s=some r):Fn Tryz.prog GE 180 [rS s,rS ([46]:Ah)] [] (λR H=>R=A2 r∧H=[]):=by
 refine enter (n:=143) Tryz.func180 Aa Tryz.ntmps180 Aa (λw Z=>?_);unfold WI at h;refine Ae (wa Aa (Bv (wm Aa (wv (BO (p:=([46]:Ah)) Dx Aa) (wa Aa (An (Al (AF (AC [(0,rS s),(1,rS ([46]:Ah)),(5,A2 1),(16,rB (decide (([46]:Ah)=s)))] [] ?_ ?_)))))))))
 ·refine Aj (wm Aa (wv (BI Aa Aa) (wm Aa (Bd (b:=decide (1=0)) Aa Aa (by decide) (wm Aa (Bd (b:=decide (1=0)) Aa Aa (by decide) (wm Aa (Bd (b:=decide (1=0)) Aa Aa (by decide) (wv (Cy Aa Aa) (wv (r:=rB (decide (([46]:Ah)=s))) (Av (b:=decide (1=0)) Aa (by decide) Aa) (wa Aa (Am ?_))))))))))));exact wt
 refine cz h Aa (λc1 h2=>?_) (λc1 h3=>?_)
 ·refine Ae (wa Aa (An (Ap (A0 (Ac ?_)))));obtain rfl:=As h2;exact Ar (BE Wc (AO Aa)) sN ⟨Aa,Aa⟩
 refine Ae (wm Aa (wv (BI Aa Aa) (wa Aa (An (CG Aa (by decide) (Ae (wm Aa (wm Aa (ck h3 λg4 h5=>wv (BR Dx Aa Aa g4) (Cp (rs:=[rS s,rI .u8 (Cs ([46]:Ah) 0)]) (r:=A2 (Lib.indexByte s (Ch (Cs ([46]:Ah) 0)).toUInt8)) Tryz.call207 Aa (Acq s (Cs ([46]:Ah) 0)) Aa Aa (wa Aa (An (Ap (A0 (Ac ?_)))))))))))))));obtain rfl:=As h5;exact Ar (BE Wc (AO Aa)) sN ⟨Aa,Aa⟩
theorem Ab7 (s:Ah)(r:Int)(h:Ut s=some r):Fn Tryz.prog GE 180 [rS s,rS ([58]:Ah)] [] (λR H=>R=A2 r∧H=[]):=by
 refine enter (n:=143) Tryz.func180 Aa Tryz.ntmps180 Aa (λw Z=>?_);unfold Ut at h;refine Ae (wa Aa (Bv (wm Aa (wv (BO (p:=([58]:Ah)) Dx Aa) (wa Aa (An (Al (AF (AC [(0,rS s),(1,rS ([58]:Ah)),(5,A2 1),(16,rB (decide (([58]:Ah)=s)))] [] ?_ ?_)))))))))
 ·refine Aj (wm Aa (wv (BI Aa Aa) (wm Aa (Bd (b:=decide (1=0)) Aa Aa (by decide) (wm Aa (Bd (b:=decide (1=0)) Aa Aa (by decide) (wm Aa (Bd (b:=decide (1=0)) Aa Aa (by decide) (wv (Cy Aa Aa) (wv (r:=rB (decide (([58]:Ah)=s))) (Av (b:=decide (1=0)) Aa (by decide) Aa) (wa Aa (Am ?_))))))))))));exact wt
 refine cz h Aa (λc1 h2=>?_) (λc1 h3=>?_)
 ·refine Ae (wa Aa (An (Ap (A0 (Ac ?_)))));obtain rfl:=As h2;exact Ar (BE Wc (AO Aa)) sN ⟨Aa,Aa⟩
 refine Ae (wm Aa (wv (BI Aa Aa) (wa Aa (An (CG Aa (by decide) (Ae (wm Aa (wm Aa (ck h3 λg4 h5=>wv (BR Dx Aa Aa g4) (Cp (rs:=[rS s,rI .u8 (Cs ([58]:Ah) 0)]) (r:=A2 (Lib.indexByte s (Ch (Cs ([58]:Ah) 0)).toUInt8)) Tryz.call207 Aa (Acq s (Cs ([58]:Ah) 0)) Aa Aa (wa Aa (An (Ap (A0 (Ac ?_)))))))))))))));obtain rfl:=As h5;exact Ar (BE Wc (AO Aa)) sN ⟨Aa,Aa⟩
theorem Zi (s:Ah)(r:Int)(h:PU s=some r):Fn Tryz.prog GE 206 [rS s,rS ([46]:Ah)] [] (λR H=>R=A2 r∧H=[]):=by
 refine enter (n:=8) Tryz.func206 Aa Tryz.ntmps206 Aa (λw Z=>?_);unfold PU at h;refine Ae (wa Aa (Bv (wm Aa (wm Aa (ob h λr1 e3 h2=>BX Tryz.call180 (Ab5 s r1 e3) Aa (wa Aa (An (Ap ?_))))))));obtain rfl:=As h2;exact Ar (BE Tryz.results206 (AO Aa)) sN ⟨Aa,Aa⟩
theorem VK (F:Nat)(s:Ah)(r:(List Ah))(h:N4 F s=some r):Fn Tryz.prog GE 181 [rS s,rS ([46]:Ah),A2 0,A2 (-1)] [] (λR H=>∃u0:Value,R=rv u0∧H=[.row u0 9 1 (A3 eS r)]):=by
 refine enter (n:=66) Tryz.func181 Aa Tryz.ntmps181 Aa (λw Z=>?_);unfold N4 at h;refine Ae (wa Aa (An (Al (Ae (wm Aa (wv (BI Aa Aa) (An (CO Aa (by decide) (Ax (AS (Al (Ae (wm Aa (wv (Cy Aa Aa) (An (CO Aa (by decide) (Ax (AS (Al (Ae (wm Aa (wv (C1 Aa Aa) (An ?_)))))))))))))))))))))));refine CG Aa (by decide) (Aj (wm Aa (wm Aa (Cp (rs:=[rS s,rS ([46]:Ah)]) (r:=A2 (Lib.countByte s 46:Int)) Tryz.call179 Aa (SM s 46) Aa Aa (ck h λg1 h2=>wv (BA Aa Aa g1) (wa Aa (Bv (wm Aa (wm Aa (wv (BO Dx Aa) (ck h2 λg3 h4=>wv (BA Aa Aa g3) (wv (r:=A2 (min ((Lib.countByte s 46:Int)+1) ((s.length:Int)+1))) (AdM yu3 Aa Aa) (wa Aa (Bv (wm Aa (ck h4 λg6 h7=>ck h7 λg8 h9=>Exists.elim OI λinf hinf=>AaL (enc:=eS) (zα:=([]:Ah)) (m:=min ((Lib.countByte s 46:Int)+1) ((s.length:Int)+1)) CQ hinf.1 hinf.2.1 hinf.2.2.1 hinf.2.2.2 Aa Aa Aa (λ_=>Aa) Aa Aa g6 g8 Aa (λv5=>?_)))))))))))))))));refine wa Aa (Bv (wm Aa (ck h9 λhq hr=>wv (I3 Aa Aa hq) (wa Aa (Bv (wa Aa (An (Al (AF (ob hr λhs ht hm=>B2 (S:=Nat×(Ah×Int×(List Ah))×(Unit)) (V:=(Ah×Int×(List Ah))×(Unit)) 0 (λσ=>Cj (λσ=>CS s σ.1 σ.2.1 σ.2.2) σ.1 σ.2.1=some hs) (λσ=>[(0,rS σ.2.1.1),(1,rS ([46]:Ah)),(2,A2 0),(3,A2 ((min ((Lib.countByte s 46:Int)+1) ((s.length:Int)+1))-1)),(9,rv v5),(10,A2 σ.2.1.2.1)]) (λσ=>[.row v5 9 1 (A3 eS σ.2.1.2.2)]) (λσ=>σ.1) (F,(s,0,List.replicate (Ch (min ((Lib.countByte s 46:Int)+1) ((s.length:Int)+1))) ([]:Ah)),()) ht (AM.c Aa (AM.c5 Aa Aa Aa Aa Aa AM.nil)) (sC sN) (λσ=>Em σ.1.1 σ.1.2.1 σ.1.2.2=some r) (λσ=>[(0,rS σ.1.1),(9,rv v5),(10,A2 σ.1.2.1)]) (λσ=>[.row v5 9 1 (A3 eS σ.1.2.2)]) ?_ ?_))))))))))
 ·rintro⟨ga,⟨hb,hd,he⟩,⟨⟩⟩ hu;refine GZ ?_;obtain⟨hw,rfl,t210,hf,hj⟩:=Cu hu;replace hf:CS s hb hd he=some t210:=hf;unfold CS at hf;refine Al (Ae (wm Aa (wm Aa (wv (C1 Aa Aa) (An (cz hf Aa (λhx hy=>?_) (λhx hz=>?_)))))))
  ·refine Ax (AS (AF (Ae (wm Aa (wm Aa (ob hy λhg h0 h1=>BX Tryz.call206 (Zi hb hg h0) Aa (wa Aa (An (Al (Ae (wm Aa (wv (C1 Aa Aa) (An (cz h1 Aa (λh3 h5=>?_) (λh3 h6=>?_)))))))))))))))
   ·refine B4 (Ay (P9 Aa ?_));have h8:=BP h5 hj hm;exact Ay (Bn (AK ((hb,hd,he),()) h8 (AM.c Aa (AM.c Aa (AM.c Aa AM.nil))) (sC sN)))
   refine Ax (AS (Ae (wm Aa (wm Aa (wm Aa (wm Aa (wm Aa (ck h6 λhA hB=>wv (BA Aa Aa hA) (ck hB λhC hD=>wv (I4 Dx Aa Aa hC) (ck hD λhn hE=>wv (r:=rv (En 1 v5 (Ch hd) 0)) (Dr (i:=0) CQ CC Aa Aa Aa (BC hn)) (JZ (enc:=eS) (ys:=he) (y':=List.take (Ch (hg+0)) hb) (i:=0) (j:=hd) CC Aa Aa (BT Aa) Aa hn Aa Aa (H':=[.row v5 9 1 (A3 eS (List.set he (Ch hd) (List.take (Ch (hg+0)) hb)))]) Aa (bd hE λhG hH hI=>?_))))))))))));rw[← hH];refine Bv (wm Aa (wm Aa (wm Aa (wv (BO (p:=([46]:Ah)) Dx Aa) (ck hI λhJ hK=>wv (BA Aa Aa hJ) (ck hK λhL hN=>wv (G9 Dx Aa Aa hL) (wa Aa (An (Aj (wm Aa (ck hN λhO hP=>wv (BA Aa Aa hO) (wa Aa (Am (AH ?_))))))))))))));have hQ:=Bw hP hj;exact A4 (AK (hw,(List.drop (Ch (hg+1)) hb,hd+1,hG),()) ⟨hQ,Afh _⟩ (AM.c Aa (AM.c5 Aa Aa Aa Aa Aa AM.nil)) (sC sN))
  refine B4 (Ay ?_);have hR:=BP hz hj hm;exact Ay (Bn (AK ((hb,hd,he),()) hR (AM.c Aa (AM.c Aa (AM.c Aa AM.nil))) (sC sN)))
 rintro⟨⟨hk,hh,hl⟩,⟨⟩⟩ hi;refine HE ?_;replace hi:Em hk hh hl=some r:=hi;unfold Em at hi;refine Bm (AS (Ae (wm Aa (wm Aa (wm Aa (ck hi λhp hS=>wv (r:=rv (En 1 v5 (Ch hh) 0)) (Dr (i:=0) CQ CC Aa Aa Aa (BC hp)) (JZ (enc:=eS) (ys:=hl) (y':=hk) (i:=0) (j:=hh) CC Aa Aa (BT Aa) Aa hp Aa Aa (H':=[.row v5 9 1 (A3 eS (List.set hl (Ch hh) hk))]) Aa (bd hS λgb hT hU=>?_))))))));rw[← hT];refine Bv (wm Aa (wm Aa (ck hU λhV hW=>wv (BA Aa Aa hV) (ck hW λhX hY=>Ack (i:=0) CQ CC Aa Aa Aa hX Aa (λhZ=>?_)))));refine wa Aa (An (Ap ?_));obtain rfl:=As hY;exact Ar (BE Tryz.results181 (AO Aa)) (sC sN) ⟨hZ,Aa,Aa⟩
theorem Zh (F:Nat)(s:Ah)(r:(List Ah))(h:PT F s=some r):Fn Tryz.prog GE 145 [rS s,rS ([46]:Ah)] [] (λR H=>∃u0:Value,R=rv u0∧H=[.row u0 9 1 (A3 eS r)]):=by
 refine enter (n:=8) Tryz.func145 Aa Tryz.ntmps145 Aa (λw Z=>?_);unfold PT at h;refine Ae (wa Aa (Bv (wm Aa (wm Aa (ob h λr1 e3 h2=>EX [] Tryz.call181 (VK F s r1 e3) ?_)))));rintro _ _ ⟨v4,rfl,rfl⟩;refine wa Aa (An (Ap ?_));obtain rfl:=As h2;exact Ar (BE Tryz.results145 (AO Aa)) (sC sN) ⟨v4,Aa,Aa⟩
theorem AaT (s:Ah)(r:Ah×Ah×Bool)(h:Wr s=some r):Fn Tryz.prog GE 144 [rS s,rS ([58]:Ah)] [] (λR H=>R=Dz [rS r.1,rS r.2.1,rB r.2.2]∧H=[]):=by
 refine enter (n:=23) Tryz.func144 Aa Tryz.ntmps144 Aa (λw Z=>?_);unfold Wr at h;refine Ae (wv (r:=rS ([]:Ah)) (A5 Aa) (wv (r:=rS ([]:Ah)) (A5 Aa) (wa Aa (An (Al (Ae (wm Aa (wm Aa (ob h λr1 e3 h2=>BX Tryz.call180 (Ab7 s r1 e3) Aa (wa Aa (Bv (wm Aa (wv (EN Aa Aa) (An (cz h2 Aa (λc4 h5=>?_) (λc4 hb=>?_))))))))))))))))
 ·refine Al (ck h5 λg6 h7=>ck h7 λg8 h9=>ck h9 λhd he=>Dc [0,1,7] ?_);refine rq (Ak Aa) (rq (Ak Aa) (rq (I4 Dx Aa Aa g6) (rq (Ak Aa) (rq (Ak Aa) (rq (Ak Aa) (rq (BO (p:=([58]:Ah)) Dx Aa) (rq (BA Aa Aa g8) (rq (G9 Dx Aa Aa hd) (rq (A5 Aa) (rq (A5 Aa) (rq (r:=rB true) (A5 Aa) (re [4,5,6] ?_))))))))))));refine AS (Ap (Ac ?_));obtain rfl:=As he;exact Ar (Ww Tryz.results144 (AO Aa) (AO Aa) (AO Aa)) sN ⟨Aa,Aa⟩
 refine Ax (AS (Ae (wm Aa (wa Aa (wv (r:=rS ([]:Ah)) (A5 Aa) (wa Aa (An (Ap ?_))))))));obtain rfl:=As hb;exact Ar (Ww Tryz.results144 (AO Aa) (AO Aa) (AO Aa)) sN ⟨Aa,Aa⟩
theorem Ac9 (s:Ah)(r:Ah×Ah×Bool)(h:Zj s=some r):Fn Tryz.prog GE 96 [rS s,rS ([58]:Ah)] [] (λR H=>R=Dz [rS r.1,rS r.2.1,rB r.2.2]∧H=[]):=by
 refine enter (n:=13) Tryz.func96 Aa Tryz.ntmps96 Aa (λw Z=>?_);unfold Zj at h;refine Ae (wv (r:=rS ([]:Ah)) (A5 Aa) (wv (r:=rS ([]:Ah)) (A5 Aa) (wa Aa (Bv (wm Aa (wm Aa (ob h λr1 e3 h2=>BX Tryz.call144 (AaT s r1 e3) Aa (wv (A6 Aa Aa) (wv (A6 Aa Aa) (wv (A6 Aa Aa) (wa Aa (wa Aa (wa Aa (An (Ap ?_)))))))))))))));obtain rfl:=As h2;exact Ar (Ww Tryz.results96 (AO Aa) (AO Aa) (AO Aa)) sN ⟨Aa,Aa⟩
theorem Ub (F:Nat)(s:Ah)(r:Int×Int)(h:JC F s=some r):Fn Tryz.prog GE 97 [rS s] [] (λR H=>R=Dz [A2 r.1,A2 r.2]∧H=[]):=by
 refine enter (n:=50) Tryz.func97 Aa Tryz.ntmps97 Aa (λw Z=>?_);unfold JC at h;refine Ae (wa Aa (wa Aa (Bv (wm Aa (ob h λr1 e3 h2=>EX [] Tryz.call145 (Zh F s r1 e3) ?_)))));rintro _ _ ⟨v4,rfl,rfl⟩;refine wa Aa (An (Al (Ae (wm Aa (wv (CN (ys:=r1) (enc:=eS) (i:=0) CQ Aa Aa) (wv (Ct Aa Aa) (An (cz h2 Aa (λc5 h6=>?_) (λc5 h7=>?_)))))))))
 ·refine Ae (wa Aa (wa Aa (An (Ap (Ac ?_)))));obtain rfl:=As h6;exact Ar (IO Tryz.results97 (AO Aa) (AO Aa)) (sS sN) ⟨Aa,Aa⟩
 refine Ax (AS (Ae (BK (cs:=A3 (rI .i64) (List.replicate 4 (0:Int))) Tryz.zeroValue195 (by kernel_rfl) Aa (λb8=>?_))));refine An (Al (Ae (wv (r:=A2 0) (Ak Aa) (An (AF (ob h7 λhl hm hj=>B2 (S:=Nat×(Int×(List Int))×(Unit)) (V:=((List Int))×(Unit)) 0 (λσ=>Cj (λσ=>DL r1 σ.1 σ.2) σ.1 σ.2.1=some hl) (λσ=>[(4,rv v4),(5,rP b8 0),(14,A2 σ.2.1.1)]) (λσ=>[.blk b8 (A3 (rI .i64) σ.2.1.2) 195,.row v4 9 1 (A3 eS r1)]) (λσ=>σ.1) (F,(0,List.replicate 4 (0:Int)),()) hm (AM.c Aa (AM.c Aa (AM.c Aa AM.nil))) (sC (sC sN)) (λσ=>Gb σ.1=some r) (λσ=>[(5,rP b8 0)]) (λσ=>[.blk b8 (A3 (rI .i64) σ.1) 195]) ?_ ?_))))))
 ·rintro⟨hW,⟨hb,hf⟩,⟨⟩⟩ hn;refine GZ ?_;obtain⟨hp,rfl,hq,hg,hi⟩:=Cu hn;replace hg:DL r1 hb hf=some hq:=hg;unfold DL at hg;refine Ae (wv (C1 Aa Aa) (An (Al (cz hg Aa (λc75 hr=>?_) (λc75 hs=>?_)))))
  ·refine Ax (AS (Al (AF (Ae (wm Aa (wa Aa (Bv (wm Aa (wm Aa (ck hr λhk ht=>wv (r:=rv (En 1 v4 (Ch hb) 0)) (Dr (i:=1) CQ CC Aa Aa Aa (BC hk)) (wv (r:=rS (Ao r1 hb)) (EM (enc:=eS) (ys:=r1) (i:=1) (j:=hb) Dp Aa Aa hk Aa) (ck ht λhu hw=>Cp (rs:=[rS (Ao r1 hb)]) (r:=Dz [A2 (C7 (Ao r1 hb)),A2 (E1 (Ao r1 hb))]) Tryz.call98 Aa (W2 (Ao r1 hb) hu) Aa Aa (wm Aa (wv (A6 Aa Aa) (wv (A6 Aa Aa) (wa Aa (wa Aa (An (Al (ck hw λhx hy=>AC [(4,rv v4),(5,rP b8 0),(6,A2 hb),(7,A2 (C7 (Ao r1 hb))),(14,A2 hb),(31,rB ((!decide ((E1 (Ao r1 hb))=0))||(!(ov (DJ (C7 (Ao r1 hb)) 0 255)))))] [.blk b8 (A3 (rI .i64) hf) 195,.row v4 9 1 (A3 eS r1)] ?_ ?_))))))))))))))))))))
   ·refine Aj (wm Aa (wv (Ct Aa Aa) (wm Aa (AU (!decide ((E1 (Ao r1 hb))=0)) (λhe=>?_) (λhe=>?_)))))
    ·refine wf he (wf he (wf he (wv (r:=rB true) (AB Aa he Aa) (Am ?_))));exact Cd he
    refine wo he (wm Aa (wo he (BX O3 (KS (C7 (Ao r1 hb)) 0 255 (ov (DJ (C7 (Ao r1 hb)) 0 255)) (CY (Dd hx he))) Aa (wo he (wv (Cc Aa) (II Aa he Aa (Am ?_)))))));exact Cd he
   refine cz hy Aa (λhz h0=>?_) (λhz h1=>?_)
   ·refine Ae (wa Aa (wa Aa (An (Ap (Ac (A0 (Ac (Ac (Bu ?_)))))))));have h3:=BF h0 hi hj;refine A0 (Ac ?_);obtain rfl:=As h3;exact Ar (IO Tryz.results97 (AO Aa) (AO Aa)) (sS (sS sN)) ⟨Aa,Aa⟩
   refine Ax (AS (Aj (wm Aa (wm Aa (ck h1 λh4 h5=>wv (r:=rv (.pointer (some ⟨b8,Ch hb,none⟩))) (Qj Tf Dj Aa Aa h4) (ck h5 λh8 h9=>X9 (enc:=(rI .i64)) (ys:=hf) (v:=C7 (Ao r1 hb)) (i:=0) Dj Aa Aa (BT Aa) Aa h8 (H':=[.blk b8 (A3 (rI .i64) (List.set hf (Ch hb) (C7 (Ao r1 hb)))) 195,.row v4 9 1 (A3 eS r1)]) Aa (Am (AH (AS (Aj (ck h9 λhA hB=>wv (BA Aa Aa hA) (wm Aa (Am ?_)))))))))))));have hC:=Bw hB hi;exact A4 (AK (hp,(hb+1,List.set hf (Ch hb) (C7 (Ao r1 hb))),()) ⟨hC,Afh _⟩ (AM.c Aa (AM.c Aa (AM.c Aa AM.nil))) (sC (sC sN)))
  refine B4 (Ay ?_);have hD:=BP hs hi hj;exact Ay (Bn (AK (hf,()) hD (AM.c Aa AM.nil) (sC (sS sN))))
 rintro⟨hd,⟨⟩⟩ hh;refine HE ?_;replace hh:Gb hd=some r:=hh;unfold Gb at hh;refine Bm (AS (Ae (ck hh λhE hG=>wv (r:=rv (.pointer (some ⟨b8,Ch 0,none⟩))) (Qj Tf Dj Aa Aa hE) (ck hG λhH hI=>wv (r:=A2 (Ao hd 0)) (Nk (enc:=(rI .i64)) (ys:=hd) (i:=0) DQ Aa Aa hH) (wv (r:=A2 (HH .i64 (Ao hd 0) 24)) (W7 Aa Aa (by decide)) (ck hI λhJ hK=>wv (r:=rv (.pointer (some ⟨b8,Ch 1,none⟩))) (Qj Tf Dj Aa Aa hJ) (ck hK λhL hN=>wv (r:=A2 (Ao hd 1)) (Nk (enc:=(rI .i64)) (ys:=hd) (i:=0) DQ Aa Aa hL) (wv (r:=A2 (HH .i64 (Ao hd 1) 16)) (W7 Aa Aa (by decide)) (wv (r:=A2 (UY .i64 (HH .i64 (Ao hd 0) 24) (HH .i64 (Ao hd 1) 16))) (AcN Aa Aa) (ck hN λhO hP=>wv (r:=rv (.pointer (some ⟨b8,Ch 2,none⟩))) (Qj Tf Dj Aa Aa hO) (ck hP λhQ hR=>wv (r:=A2 (Ao hd 2)) (Nk (enc:=(rI .i64)) (ys:=hd) (i:=0) DQ Aa Aa hQ) (wv (r:=A2 (HH .i64 (Ao hd 2) 8)) (W7 Aa Aa (by decide)) (wv (r:=A2 (UY .i64 (UY .i64 (HH .i64 (Ao hd 0) 24) (HH .i64 (Ao hd 1) 16)) (HH .i64 (Ao hd 2) 8))) (AcN Aa Aa) (ck hR λhS hT=>wv (r:=rv (.pointer (some ⟨b8,Ch 3,none⟩))) (Qj Tf Dj Aa Aa hS) (ck hT λhU hV=>wv (r:=A2 (Ao hd 3)) (Nk (enc:=(rI .i64)) (ys:=hd) (i:=0) DQ Aa Aa hU) ?_)))))))))))))));refine wv (r:=A2 (UY .i64 (UY .i64 (UY .i64 (HH .i64 (Ao hd 0) 24) (HH .i64 (Ao hd 1) 16)) (HH .i64 (Ao hd 2) 8)) (Ao hd 3))) (AcN Aa Aa) (wa Aa (wa Aa (An (Ap ?_))));obtain rfl:=As hV;exact Ar (IO Tryz.results97 (AO Aa) (AO Aa)) (sS sN) ⟨Aa,Aa⟩
theorem TZ (q:AD)(addr:Int)(port:Int)(r:Bool)(h:JB q addr port=some r):Fn Tryz.prog GE 99 [BB (Au q),A2 addr,A2 port] [] (λR H=>R=rB r∧H=[]):=by
 refine enter (n:=30) Tryz.func99 Aa Tryz.ntmps99 Aa (λw Z=>?_);unfold JB at h;refine Ae (Ci Aa Aa (λb1=>?_));refine wa Aa (An (ck h λg2 h3=>ck h3 λg4 h5=>ck h5 λg6 h7=>ck h7 λg8 h9=>ck h9 λhe hf=>AC [(6,rB ((decide ((ov (DK q))=0))&&((ov (DJ addr q.fAddr (q.fAddr+(ov (Et q.fBits)))))&&(ov (DJ port q.fLow q.fHigh)))))] [] ?_ ?_))
 ·refine AU (decide ((ov (DK q))=0)) (λhb=>?_) (λhb=>?_)
  ·refine AU ((ov (DJ addr q.fAddr (q.fAddr+(ov (Et q.fBits)))))) (λhd=>?_) (λhd=>?_)
   ·refine Dc [1,2,3] ?_;refine rq (Bx (i:=0) P8 Kw Aa Aa Aa Aa) (Jf (CD Tryz.call86 (L9 q (ov (DK q)) (CY g2)) Aa) (rq (BI Aa Aa) (rq (Ak Aa) (rg hb (Ak Aa) (rg hb (Aq HO Aa Dj Aa Aa) (rg hb (Bc (i:=0) DQ Aa Aa Aa) (rg hb (Aq HO Aa Dj Aa Aa) (rg hb (Bc (i:=0) DQ Aa Aa Aa) (rg hb (Aq HO Aa Dj Aa Aa) (rg hb (Bc (i:=0) DQ Aa Aa Aa) (ro hb (CD Tryz.call138 (Qk q.fBits (ov (Et q.fBits)) (CY (BY g4 hb))) Aa) (rg hb (BA Aa Aa (BY g6 hb)) (ro hb (CD O3 (KS addr q.fAddr (q.fAddr+(ov (Et q.fBits))) (ov (DJ addr q.fAddr (q.fAddr+(ov (Et q.fBits))))) (CY (BY g8 hb))) Aa) (rq (AB Aa hb Aa) (rq (Ak Aa) (rg hd (Ak Aa) (rg hd (Aq HO Aa Dj Aa Aa) (rg hd (Bc (i:=0) DQ Aa Aa Aa) (rg hd (Aq HO Aa Dj Aa Aa) (rg hd (Bc (i:=0) DQ Aa Aa Aa) (ro hd (CD O3 (KS port q.fLow q.fHigh (ov (DJ port q.fLow q.fHigh)) (CY (BY (BY he hb) hd))) Aa) (rq (AB Aa hd Aa) (rq (A5 Aa) ?_)))))))))))))))))))))));refine re [6] ?_;exact Cd (And.intro hb hd)
   refine Dc [1,2,3] ?_;refine rq (Bx (i:=0) P8 Kw Aa Aa Aa Aa) (Jf (CD Tryz.call86 (L9 q (ov (DK q)) (CY g2)) Aa) (rq (BI Aa Aa) (rq (Ak Aa) (rg hb (Ak Aa) (rg hb (Aq HO Aa Dj Aa Aa) (rg hb (Bc (i:=0) DQ Aa Aa Aa) (rg hb (Aq HO Aa Dj Aa Aa) (rg hb (Bc (i:=0) DQ Aa Aa Aa) (rg hb (Aq HO Aa Dj Aa Aa) (rg hb (Bc (i:=0) DQ Aa Aa Aa) (ro hb (CD Tryz.call138 (Qk q.fBits (ov (Et q.fBits)) (CY (BY g4 hb))) Aa) (rg hb (BA Aa Aa (BY g6 hb)) (ro hb (CD O3 (KS addr q.fAddr (q.fAddr+(ov (Et q.fBits))) (ov (DJ addr q.fAddr (q.fAddr+(ov (Et q.fBits))))) (CY (BY g8 hb))) Aa) (rq (AB Aa hb Aa) (rq (Ak Aa) (rz hd (rz hd (rz hd (rz hd (rz hd (rz hd (rq (r:=rB false) (Av (b:=(ov (DJ addr q.fAddr (q.fAddr+(ov (Et q.fBits)))))) Aa hd Aa) (rq (A5 Aa) ?_)))))))))))))))))))))));refine re [6] ?_;exact Cd (And.intro hb hd)
  refine Dc [1,2,3] ?_;refine rq (Bx (i:=0) P8 Kw Aa Aa Aa Aa) (Jf (CD Tryz.call86 (L9 q (ov (DK q)) (CY g2)) Aa) (rq (BI Aa Aa) (rq (Ak Aa) (rz hb (rz hb (rz hb (rz hb (rz hb (rz hb (rz hb (rz hb (rz hb (rz hb (rq (r:=rB false) (Av (b:=decide ((ov (DK q))=0)) Aa hb Aa) (rq (Ak Aa) (rz Aa (rz Aa (rz Aa (rz Aa (rz Aa (rz Aa (rq (r:=rB false) (Av (b:=false) Aa Aa Aa) (rq (A5 Aa) ?_)))))))))))))))))))))));refine re [6] ?_;exact Cd hb
 refine Ap ?_;obtain rfl:=As hf;exact Ar (BE Tryz.results99 (AO Aa)) sN ⟨Aa,Aa⟩
theorem Ql (F:Nat)(l:(List AD))(addr:Int)(port:Int)(r:C3)(h:HC F l addr port=some r):Fn Tryz.prog GE 39 [AJ 5 (A3 Au l),A2 addr,A2 port] [] (λR H=>R=BB (Me r)∧H=[]):=by
 refine enter (n:=26) Tryz.func39 Aa Tryz.ntmps39 Aa (λw Z=>?_);unfold HC at h;refine Ae (BK (cs:=[rB false,A2 0]) Tryz.zeroValue63 Aa Aa (λb1=>?_));refine An (Al (Ae (wm Aa (wv (Br (ys:=l) (enc:=Au) Te Aa) (wv (r:=A2 0) (Ak Aa) (An (AF (ob h λhh hi hg=>B2 (S:=Nat×(Int)×(Unit)) (V:=(Unit)×(Unit)) 0 (λσ=>Cj (λσ=>EO l addr port σ) σ.1 σ.2.1=some hh) (λσ=>[(1,A2 addr),(2,A2 port),(6,rP b1 0),(9,AJ 5 (A3 Au l)),(10,A2 (l.length:Int)),(11,A2 σ.2.1)]) (λσ=>[.blk b1 [rB false,A2 0] 63]) (λσ=>σ.1) (F,0,()) hi (AM.c Aa (AM.c5 Aa Aa Aa Aa Aa AM.nil)) (sC sN) (λσ=>IR =some r) (λσ=>[(6,rP b1 0)]) (λσ=>[.blk b1 [rB false,A2 0] 63]) ?_ ?_))))))))
 ·rintro⟨h3,hb,⟨⟩⟩ hj;refine GZ ?_;obtain⟨hk,rfl,hl,hd,hf⟩:=Cu hj;replace hd:EO l addr port hb=some hl:=hd;unfold EO at hd;refine Ae (wv (C1 Aa Aa) (An (Al (cz hd Aa (λc53 hm=>?_) (λc53 hn=>?_)))))
  ·refine Ax (AS (Al (AF (Ae (wm Aa (ck hm λhp hq=>wv (Bj (enc:=Au) (ys:=l) Te Kw Aa Aa hp) (wv (C9 P8 Kw Aa Aa Aa) (BK (cs:=[rB false,A2 0,A2 0,A2 0,A2 0]) Tryz.zeroValue111 Aa Aa (λh4=>?_)))))))));refine wa Aa (Gy (i:=0) Kw Aa Aa Aa (B6.c Aa) Aa Aa ?_);refine Bv (wv (Bx (i:=0) P8 Kw Aa Aa Aa Aa) (wm Aa (wm Aa (ob hq λhr hs ht=>BX Tryz.call99 (TZ (Ao l hb) addr port hr hs) Aa (An (cz ht Aa (λhu hw=>?_) (λhu hx=>?_)))))))
   ·refine Ae (vF HO Aa Jp (vL 0 Pe Aa (wm Aa (wv (r:=BB [rB ((Ao l hb).fAllow),A2 hb]) (LY Aa Aa Aa Aa) (Gy (i:=1) Ti Aa Aa Aa (B6.c Aa) Aa Aa ?_)))));refine An (Ap (A0 (Ac (Ac (Bu ?_)))));have hy:=BF hw hf hg;refine A0 (Ac ?_);obtain rfl:=As hy;exact Ar (BE Tryz.results39 (CR (i:=1) AaG Ti Aa Aa Aa)) (sS (sS sN)) ⟨Aa,Aa⟩
   refine Ax (AH (AS (Aj (ck hx λhz h0=>wv (BA Aa Aa hz) (wm Aa (Am ?_))))));have h1:=Bw h0 hf;exact A4 (AK (hk,hb+1,()) ⟨h1,Afh _⟩ (AM.c Aa (AM.c5 Aa Aa Aa Aa Aa AM.nil)) (sS (sC sN)))
  refine B4 (Ay ?_);have h2:=BP hn hf hg;exact Ay (Bn (AK ((),()) h2 (AM.c Aa AM.nil) (sC sN)))
 rintro⟨⟨⟩,⟨⟩⟩ he;refine HE ?_;replace he:IR =some r:=he;unfold IR at he;refine Bm (AS (Ae (wv (r:=BB [rB false,A2 (-1)]) (OF Aa Aa) (Gy (i:=0) Ti Aa Aa Aa (B6.c Aa) Aa Aa ?_))));refine An (Ap ?_);obtain rfl:=As he;exact Ar (BE Tryz.results39 (CR (i:=0) AaG Ti Aa Aa Aa)) (sS sN) ⟨Aa,Aa⟩
end Go.Proofs.YtmjlemhondjfhaaGreatDoor.Q
namespace Go.Proofs.YtmjlemhondjfhaaGreatDoor
open Go
set_option linter.unusedVariables false
structure AR where
 fOp:Ah
 fArgs:(List (List Ab))
 deriving DecidableEq,Inhabited
structure AT where
 fTenant:Ah
 fFunction:Ah
 fOps:(List Ah)
 fPolicy:(List Ad)
 fNet:(List AD)
 fNow:Int
 deriving DecidableEq,Inhabited
structure B3 where
 fKey:Ah
 fValue:(List Ab)
 fVersion:Int
 deriving DecidableEq,Inhabited
end Go.Proofs.YtmjlemhondjfhaaGreatDoor
namespace Go.Proofs.YtmjlemhondjfhaaGreatDoor.Q
open Go Go.RowKit
set_option linter.unusedVariables false
set_option linter.unusedSimpArgs false
set_option maxRecDepth 100000
set_option maxHeartbeats 4000000
@[reducible] def Bb (x:(List Ab)):List Rp:=[AJ 4 (A3 Af x)]
theorem CT (x:(List Ab)):(Bb x).length=1:=rfl
@[reducible] def AN (x:AR):List Rp:=[rS x.fOp,AJ 1 (A3 Bb x.fArgs)]
theorem Ol (x:AR):(AN x).length=2:=rfl
@[reducible] def B9 (x:AT):List Rp:=[rS x.fTenant,rS x.fFunction,AJ 1 (A3 eS x.fOps),AJ 3 (A3 Ai x.fPolicy),AJ 5 (A3 Au x.fNet),A2 x.fNow]
@[reducible] def BG (x:B3):List Rp:=[rS x.fKey,AJ 4 (A3 Af x.fValue),A2 x.fVersion]
theorem Md (x:B3):(BG x).length=3:=rfl
theorem Adc:∃inf,Tryz.prog.info? 70=some inf∧inf.zero=some (.agg #[(.int .i64 0),(.int .i64 0),(.string ⟨#[]⟩),(.int .i64 0)])∧inf.size=4∧inf.bytes=40:=by
  have key:(Tryz.prog.info? 70).map (λi=>(i.zero,i.size,i.bytes))=some (some (.agg #[(.int .i64 0),(.int .i64 0),(.string ⟨#[]⟩),(.int .i64 0)]),4,40):=by kernel_rfl
  obtain⟨inf,h1,h2⟩:=Option.map_eq_some_iff.1 key;simp only[Prod.mk.injEq] at h2;exact⟨inf,h1,h2.1,h2.2.1,h2.2.2⟩
end Go.Proofs.YtmjlemhondjfhaaGreatDoor.Q
namespace Go.Proofs.YtmjlemhondjfhaaGreatDoor
open Go
set_option linter.unusedVariables false
structure Bk where
 fSecrets:(List (Ah×Int))
 deriving DecidableEq,Inhabited
structure AQ where
 fText:Ah
 fBefore:Ah
 fVersion:Int
 fUntil:Int
 fNow:Int
 fBound:(List (Ah×Bool))
 deriving DecidableEq,Inhabited
def E3 (ys:(List Ab)):Option ((List Ab)):=
 Bl (DE 40 (([]:List Ab).length+ys.length))<|some (([]:List Ab)++ys)
def MX (c:Int):Option (Bool):=
 some ((decide (c<33))||(decide (126<c)))
def Hj (ys:(List Int))(hb:Int):Option (Stp (Int) (Out (Int) (Unit))):=
 B0 (decide (hb<(ys.length:Int))) (Bl (Cn hb (ys.length:Int))<|Bs (MX (Ao ys hb)) λhd=>B0 (hd) (some (.out (.ret hb))) (Bl (BM .i64 (hb+1))<|some (.next (hb+1)))) (some (.out (.go ())))
def JH :Option (Int):=
 some (-1)
def SB (F:Nat)(ys:(List Int)):Option (Int):=
 Bs (Cj (λσ=>Hj ys σ) F 0) (Cf λν=>JH )
def IX (F:Nat)(ys:(List Int)):Option (Bool):=
 Bs (SB F ys) λr1=>some (decide (0≤r1))
def MY (F:Nat)(s:Ah):Option (Bool):=
 Bl (imp (!decide (s=([]:Ah))) (imp (decide ((s.length:Int)≤200)) (DE 1 s.length)))<|Bl (imp (!decide (s=([]:Ah))) (imp (decide ((s.length:Int)≤200)) ((IX F (Gi s)).isSome)))<|some ((!decide (s=([]:Ah)))&&((decide ((s.length:Int)≤200))&&(!(ov (IX F (Gi s))))))
def T4 :Option ((Bk×(List AQ))):=
 some ((Bk.mk ([]:List (Ah×Int))),([]:List AQ))
def NN (name:Ah):Option (Unit×Unit):=
 some ((),())
def Mp (v:Bk)(hb:(List AQ))(name:Ah):Option (Int×Int):=
 B0 (!(Gc v.fSecrets name)) (some ((-1),5)) (some (Gp v.fSecrets name (-1),0))
def PQ (F:Nat)(v:Bk)(hb:(List AQ))(name:Ah)(text:Ah):Option (Int×Bk×(List AQ)):=
 Bs (Mp v hb name) λr1=>B0 (decide (r1.2=10)) (some (r1.2,v,hb)) (B0 (!(CK name)) (some (4,v,hb)) (Bs (MY F text) λhd=>B0 (!hd) (some (1,v,hb)) (B0 (decide (r1.2=0)) (some (6,v,hb)) (B0 (decide (256≤(v.fSecrets.length:Int))) (some (3,v,hb)) (some (0,(Bk.mk (GP v.fSecrets name (hb.length:Int))),hb++[(AQ.mk text ([]:Ah) 1 0 0 ([]:List (Ah×Bool)))]))))))
def Mq (v:Bk)(hb:(List AQ))(name:Ah)(function:Ah):Option (Int×Bk×(List AQ)):=
 Bs (Mp v hb name) λr1=>B0 (!decide (r1.2=0)) (some (r1.2,v,hb)) (B0 (!(CK function)) (some (4,v,hb)) (Bl (Cn r1.1 (hb.length:Int))<|B0 (Gp ((Ao hb r1.1).fBound) function false) (some (6,v,hb)) (B0 (decide (32≤(((Ao hb r1.1).fBound).length:Int))) (some (3,v,hb)) (some (0,v,List.set hb (Int.toNat r1.1) (AQ.mk ((Ao hb r1.1).fText) ((Ao hb r1.1).fBefore) ((Ao hb r1.1).fVersion) ((Ao hb r1.1).fUntil) ((Ao hb r1.1).fNow) (GP ((Ao hb r1.1).fBound) function true)))))))
def L2 (name:Ah)(function:Ah):Option (Ah×Int×Int):=
 Bs (NN name) λr1=>some (([]:Ah),0,10)
def Mo (v:Bk)(hb:(List AQ))(name:Ah)(function:Ah):Option (Ah×Int×Int):=
 Bs (Mp v hb name) λr1=>B0 (!decide (r1.2=0)) (some (([]:Ah),0,r1.2)) (Bl (Cn r1.1 (hb.length:Int))<|B0 (!(Gp ((Ao hb r1.1).fBound) function false)) (some (([]:Ah),0,12)) (some ((Ao hb r1.1).fText,(Ao hb r1.1).fVersion,0)))
def IN (s:Ah):Option (Ah):=
 some s
def Ds (hb:(List AQ))(hg:Ah)(hd:Int)(hf:Int)(he:Int):Option (Stp (Int×Int) (Out (Stp (Int) (Out (Stp (Ah×Ah) (Out (Ah) (Ah))) (Int))) (Int×Int×Bool))):=
 B0 (decide (he<(([(Ao hb hd).fText,(Ao hb hd).fBefore]:List Ah).length:Int))) (Bl (Cn he (([(Ao hb hd).fText,(Ao hb hd).fBefore]:List Ah).length:Int))<|Bl ((Ef hg (Ao ([(Ao hb hd).fText,(Ao hb hd).fBefore]:List Ah) he)).isSome)<|Bl (BM .i64 (he+1))<|some (.next ((bif (ov (Ef hg (Ao ([(Ao hb hd).fText,(Ao hb hd).fBefore]:List Ah) he))) then max hf ((Ao ([(Ao hb hd).fText,(Ao hb hd).fBefore]:List Ah) he).length:Int) else hf),he+1))) (some (.out (.go (hf,he,decide (he<(([(Ao hb hd).fText,(Ao hb hd).fBefore]:List Ah).length:Int))))))
def GL (hb:Int)(hd:Int)(he:Bool):Option (Stp (Int) (Out (Stp (Ah×Ah) (Out (Ah) (Ah))) (Int))):=
 some (.next hb)
def EH (F:Nat)(hb:(List AQ))(he:Ah)(hg:Ah)(hd:Int)(hf:Int):Option (Stp (Int) (Out (Stp (Ah×Ah) (Out (Ah) (Ah))) (Int))):=
 Bl (Cn hd (hb.length:Int))<|Bs (Cj (λσ=>Ds hb he hd σ.1 σ.2) F (hf,0)) (Cf λν=>GL ν.1 ν.2.1 ν.2.2)
def Eh (hb:Ah)(hd:Ah)(he:Int):Option (Stp (Ah×Ah) (Out (Ah) (Ah))):=
 B0 (decide (he=0)) (Bl (Cn 0 (hb.length:Int))<|Bl (DE 1 (hd.length+1))<|Bl (BM .u8 (Cs hb 0))<|KF (hd++[UInt8.ofNat (Int.toNat (Cs hb 0))]) λhf=>Bl (K3 1 (hb.length:Int))<|some (.next (List.drop (Int.toNat 1) hb,hf))) (Bl (DE 1 (hd.length+([42,42,42]:Ah).length))<|KF (hd++([42,42,42]:Ah)) λhg=>Bl (K3 he (hb.length:Int))<|some (.next (List.drop (Int.toNat he) hb,hg)))
def DI (F:Nat)(v:Bk)(he:(List AQ))(hb:Ah)(hd:Ah):Option (Stp (Ah×Ah) (Out (Ah) (Ah))):=
 B0 (!decide (hb=([]:Ah))) (ZC v.fSecrets λord=>Bs (Yh (λpe τ=>EH F he hb pe.1 pe.2 τ) ord 0) (Cf λν=>Eh hb hd ν)) (some (.out (.go hd)))
def GM (hb:Ah):Option (Ah):=
 Bl (decide (0<hb.length))<|some hb
def Ix (F:Nat)(v:Bk)(hb:(List AQ))(s:Ah):Option (Ah):=
 Bs (Cj (λσ=>DI F v hb σ.1 σ.2) F (s,([]:Ah))) (Cf λν=>GM ν)
end Go.Proofs.YtmjlemhondjfhaaGreatDoor
namespace Go.Proofs.YtmjlemhondjfhaaGreatDoor.Q
open Go Go.RowKit
set_option linter.unusedVariables false
set_option linter.unusedSimpArgs false
set_option linter.unusedSectionVars false
section
variable {P : Program} {n : Nat} {c : Cx} {ops : Array Oper} {Q : Exit → Act → World → Prop} {rest : List Oper} {l : Fr} {H H' Hr : List Ent} {d k b rz : Nat} {ty t e re : TypeId} {pos : String} {af : Array Edge} {pv r : Value} {cs : List Rp} {ys : List (List Rp)} {K : Act → World → Prop} {cx : Code}
section
variable {Z : Fz} {w : World} {xs : List ((Value → List Rp) × List (List Rp))}
end
def Ach (l:Fr)(k:Nat)(i:Int):List Nat→Prop
 | []=>True
 | d::ds=>look l d=some (rPt k i 0)∧Ach l k i ds
def asB (b:Nat):List Nat→Fr→Fr
 | [],l=>l
 | d::ds,l=>(d,rv (.pointer (some ⟨b,0,none⟩)))::asB b ds l
def asI (k:Nat)(i:Int):List Nat→Fr→Fr
 | [],l=>l
 | d::ds,l=>(d,rPt k i 0)::asI k i ds l
theorem VV {Z:Fz}{a:Act}{i:Int}{l:Fr}(ha:Dh n l a Z)(h0:0≤i)(hn:Z.nm k i.toNat=some b):∀{ds:List Nat},Ach l k i ds→Dh n (asB b ds l) a Z
 | [],_=>ha
 | d::ds,⟨h1,h2⟩=>by
  have h3:=VV ha h0 hn h2;refine⟨h3.size,h3.defers,λj u hj=>?_⟩;rw[asB,C4] at hj
  split at hj
  ·rename_i e;subst e;simp at hj;subst hj
   obtain⟨v,h4,h5⟩:=ha.tm d _ h1
   change YB k i 0 Z v at h5
   unfold YB at h5;rw[AfI (by omega)] at h5;obtain⟨b',g1,g2⟩:=h5;rw[hn] at g1;obtain rfl:=Option.some.inj g1;exact⟨v,h4,g2⟩
  ·exact h3.tm j u hj
theorem M9 {Z:Fz}{a:Act}{i:Int}{l:Fr}(ha:Dh n l a Z)(h0:0≤i)(hn:Z.nm k i.toNat=some b):∀{ds:List Nat},QK l b ds→Dh n (asI k i ds l) a Z
 | [],_=>ha
 | d::ds,⟨h1,h2⟩=>by
  have h3:=M9 ha h0 hn h2;refine⟨h3.size,h3.defers,λj u hj=>?_⟩;rw[asI,C4] at hj
  split at hj
  ·rename_i e;subst e;simp at hj;subst hj
   obtain⟨v,h4,h5⟩:=ha.tm d _ h1;refine⟨v,h4,?_⟩;show YB k i 0 Z v;unfold YB;rw[AfI (by omega)];exact⟨b,hn,h5⟩
  ·exact h3.tm j u hj
section
variable {β : Type} [Inhabited β] {xs : List β} {encw : β → (Value → List Rp) × List (List Rp)} {i : Int} {y : β}
end
end
section
variable {P : Program} {n : Nat} {c : Cx} {ops : Array Oper} {Q : Exit → Act → World → Prop} {rest : List Oper} {l : Fr} {H H' Hr : List Ent} {d k b r : Nat} {ty t e : TypeId} {pos : String} {af : Array Edge} {pv : Value} {cs : List Rp} {ys : List (List UInt8 × Rp)} {K : Act → World → Prop} {cx : Code}
theorem UC {ps:List (Nat×Nat)}{i:Nat}{p:Nat×Nat}(h:ps[i]? =some p):(RG ps).Perm (([p.1,p.2])++RG (ps.eraseIdx i)):=by
 have:ps.Perm (p::ps.eraseIdx i):=by
  induction ps generalizing i with
  | nil=>cases h
  | cons x r ih=>
   cases i with
   | zero=>simp at h;subst h;exact Afl _
   | succ i=>
    simp at h;exact((ih h).cons x).trans (List.Perm.swap p x _)
 exact this.flatMap_right _
theorem AbP {ps:List (Nat×Nat)}{i:Nat}{p q:Nat×Nat}(h:ps[i]? =some p):(RG (ps.set i q)).Perm (([q.1,q.2])++RG (ps.eraseIdx i)):=by
 have hi:=(List.getElem?_eq_some_iff.1 h).1;have h1:=UC (ps:=ps.set i q) (i:=i) (p:=q) (by simp[hi]);have h2:(ps.set i q).eraseIdx i=ps.eraseIdx i:=by
  refine List.ext_getElem? λj=>?_;rw[List.getElem?_eraseIdx,List.getElem?_eraseIdx]
  split
  ·rw[List.getElem?_set_ne (by omega)]
  ·rw[List.getElem?_set_ne (by omega)]
 rw[h2] at h1;exact h1
theorem WW (ps:List (Nat×Nat))(q:Nat×Nat):RG (ps++[q])=RG ps++([q.1,q.2]):=by
 unfold RG;rw[List.flatMap_append];simp
section
variable {Z : Fz} {w : World} {xs : List ((Nat → List Rp) × List (List UInt8 × Rp))}
theorem St.mtakeout (h:St c (.poolm k pv e xs none::Hr) Z w){i:Nat}(hi:i<xs.length) :
  ∃b r,Z.nm k i=some b∧St c (.blk b (xs[i].1 r) e::.map r xs[i].2::.poolm k pv e xs (some (i,(b,r)))::Hr) Z w:=by
 obtain⟨hl,hn,hm,_,hx⟩:=h.has (.poolm k pv e xs none) (by simp);have hp:(Gj pv)[i]? =some (Gj pv)[i]:=Aff (by omega);generalize(Gj pv)[i]=p at hp;obtain⟨b,r⟩:=p;have hperm:=UC hp;have hnd:=hperm.nodup hn;have hd:=List.pairwise_cons.1 h.dis;have gd:=List.pairwise_cons.1 h.gst.dis;obtain⟨⟨us,h1,h2⟩,es,ck,h4,h5⟩:=hx i (b,r) xs[i] hp (Aff hi) (λo ho=>by cases ho);rw[List.nodup_append] at hnd;have hin:∀q,q∈[b,r]∨q∈RG ((Gj pv).eraseIdx i)→q∈(Ent.poolm k pv e xs none).foot:=λq hq=>hperm.symm.subset (List.mem_append.2 hq);have fb:∀q∈(Ent.blk b (xs[i].1 r) e).foot,q∈(Ent.poolm k pv e xs none).foot:=λq hq=>hin q (.inl (by simp[Ent.foot] at hq;simp[hq]));have fr:∀q∈(Ent.map r xs[i].2).foot,q∈(Ent.poolm k pv e xs none).foot:=λq hq=>hin q (.inl (List.mem_cons_of_mem _ hq));have fo:∀q∈(Ent.poolm k pv e xs (some (i,(b,r)))).foot,q∈(Ent.poolm k pv e xs none).foot:=λq hq=>hin q (.inr hq);have hmem:∀en∈(.blk b (xs[i].1 r) e::.map r xs[i].2::.poolm k pv e xs (some (i,(b,r)))::Hr:List Ent),(∀q∈en.foot,q∈(Ent.poolm k pv e xs none).foot)∨en∈Hr:=λen he=>by
  simp only[AfH] at he;rcases he with rfl | rfl | rfl | he
  ·exact .inl fb
  ·exact .inl fr
  ·exact .inl fo
  ·exact .inr he
 have hgk:∀en∈(.blk b (xs[i].1 r) e::.map r xs[i].2::.poolm k pv e xs (some (i,(b,r)))::Hr:List Ent),∀q∈en.gk,∃en'∈(.poolm k pv e xs none::Hr:List Ent),q∈en'.gk∧en'.gn=en.gn:=λen he q hq=>by
  simp only[AfH] at he;rcases he with rfl | rfl | rfl | he
  ·cases hq
  ·cases hq
  ·exact⟨_,List.mem_cons_self ..,hq,rfl⟩
  ·exact⟨en,List.mem_cons_of_mem _ he,hq,rfl⟩
 refine⟨b,r,hm i _ hp,{ h with has:=λen he=>?_,own:=λen he q hq=>?_,dis:=?_,zdis:=λen he q hq=>?_,gst:=⟨λen he q hq=>?_,λen he q hq=>?_,?_,h.gst.new,λen he q hq j hj=>?_⟩ }⟩
 ·simp only[AfH] at he;rcases he with rfl | rfl | rfl | he
  ·exact⟨us,h1,h2⟩
  ·exact⟨es,ck,h4,h5⟩
  ·exact⟨hl,hnd.2.1,hm,λo ho=>by cases ho;exact hp,λj p x hj hxj hne=>hx j p x hj hxj (λo ho=>by cases ho)⟩
  ·exact h.has en (List.mem_cons_of_mem _ he)
 ·rcases hmem en he with h6 | h6
  ·exact h.own _ (List.mem_cons_self ..) q (h6 q hq)
  ·exact h.own en (List.mem_cons_of_mem _ h6) q hq
 ·have hbr:=List.nodup_cons.1 hnd.1;refine List.pairwise_cons.2 ⟨λen he q hq hq'=>?_,List.pairwise_cons.2 ⟨λen he q hq hq'=>?_,List.pairwise_cons.2 ⟨λen he q hq hq'=>hd.1 en he q (fo q hq) hq',hd.2⟩⟩⟩
  ·have e1:q=b:=by simpa[Ent.foot] using hq
   subst e1;simp only[AfH] at he;rcases he with rfl | rfl | he
   ·exact hbr.1 hq'
   ·exact hnd.2.2 q (List.mem_cons_self ..) q hq' rfl
   ·exact hd.1 en he q (fb q hq) hq'
  ·simp only[AfH] at he;rcases he with rfl | he
   ·exact hnd.2.2 q (List.mem_cons_of_mem _ hq) q hq' rfl
   ·exact hd.1 en he q (fr q hq) hq'
 ·rcases hmem en he with h6 | h6
  ·exact h.zdis _ (List.mem_cons_self ..) q (h6 q hq)
  ·exact h.zdis en (List.mem_cons_of_mem _ h6) q hq
 ·obtain⟨en',h6,h7,_⟩:=hgk en he q hq;exact h.gst.own en' h6 q h7
 ·obtain⟨en',h6,h7,_⟩:=hgk en he q hq;exact h.gst.sz en' h6 q h7
 ·exact List.pairwise_cons.2 ⟨λ_ _ _ hq=>(by cases hq),List.pairwise_cons.2 ⟨λ_ _ _ hq=>(by cases hq),List.pairwise_cons.2 ⟨gd.1,gd.2⟩⟩⟩
 ·obtain⟨en',h6,h7,h8⟩:=hgk en he q hq;exact h.gst.cap en' h6 q h7 j (by rw[h8];exact hj)
theorem St.mputback {i:Nat}{r0:Nat}{y:(Nat→List Rp)×List (List UInt8×Rp)}(h:St c (.blk b cs e::.map r ys::.poolm k pv e xs (some (i,(b,r0)))::Hr) Z w)(hcs:y.1 r=cs)(hys:y.2=ys){pv':Value}(hpv:Gj pv'=(Gj pv).set i (b,r)) :
  Z.nm k i=some b∧St c (.poolm k pv' e (xs.set i y) none::Hr) Z w:=by
 obtain⟨us,h1,h2⟩:=h.has (.blk b cs e) (by simp);obtain⟨es,ck,h4,h5⟩:=h.has (.map r ys) (by simp);obtain⟨hl,hn,hm,ho,hx⟩:=h.has (.poolm k pv e xs (some (i,(b,r0)))) (by simp);have hp:(Gj pv)[i]? =some (b,r0):=ho _ rfl;have hi:i<(Gj pv).length:=(List.getElem?_eq_some_iff.1 hp).1;have hd:=List.pairwise_cons.1 h.dis;have hd2:=List.pairwise_cons.1 hd.2;have hd3:=List.pairwise_cons.1 hd2.2;have gd:=List.pairwise_cons.1 (List.pairwise_cons.1 (List.pairwise_cons.1 h.gst.dis).2).2;have hperm:=AbP (q:=(b,r)) hp;have hback:∀q∈(Ent.poolm k pv' e (xs.set i y) none).foot,q=b∨q∈[r]∨q∈(Ent.poolm k pv e xs (some (i,(b,r0)))).foot:=λq hq=>by
  have h6:q∈RG ((Gj pv).set i (b,r)):=by rw[← hpv];exact hq
  rcases List.mem_append.1 (hperm.subset h6) with h7 | h7
  ·rcases List.mem_cons.1 h7 with h8 | h8
   ·exact .inl h8
   ·exact .inr (.inl h8)
  ·exact .inr (.inr h7)
 have hbr:b ∉ [r]:=λhb=>hd.1 (.map r ys) (by simp) b (by simp[Ent.foot]) hb;have hbo:b ∉ (Ent.poolm k pv e xs (some (i,(b,r0)))).foot:=λhb=>hd.1 (.poolm k pv e xs (some (i,(b,r0)))) (by simp) b (by simp[Ent.foot]) hb;have hro:∀q∈[r],q ∉ (Ent.poolm k pv e xs (some (i,(b,r0)))).foot:=λq hq hq'=>hd2.1 (.poolm k pv e xs (some (i,(b,r0)))) (by simp) q hq hq';have hrn:([r]).Nodup:=by simp
 refine⟨hm i _ hp,{ h with has:=λen he=>?_,own:=λen he q hq=>?_,dis:=List.pairwise_cons.2 ⟨λen he q hq hq'=>?_,hd3.2⟩,zdis:=λen he q hq=>?_,gst:=⟨λen he q hq=>?_,λen he q hq=>?_,List.pairwise_cons.2 ⟨gd.1,gd.2⟩,h.gst.new,λen he q hq j hj=>?_⟩ }⟩
 ·rcases List.mem_cons.1 he with rfl | he
  ·refine⟨by rw[hpv];simpa using hl,?_,λj p hj=>?_,λo ho=>(by cases ho),λj p x hj hxj _=>?_⟩
   ·show(RG (Gj pv')).Nodup;rw[hpv];refine hperm.symm.nodup ?_;rw[List.nodup_append];exact⟨List.nodup_cons.2 ⟨hbr,hrn⟩,hn,λq hq q' hq' e=>by
     subst e;rcases List.mem_cons.1 hq with rfl | hq
     ·exact hbo hq'
     ·exact hro q hq hq'⟩
   ·rw[hpv,List.getElem?_set] at hj
    split at hj
    ·rename_i e1;subst e1;simp[hi] at hj;subst hj;exact(hm i _ hp:Z.nm k i=some b)
    ·exact hm j p hj
   ·rw[hpv,List.getElem?_set] at hj;rw[List.getElem?_set] at hxj
    by_cases e1:i=j
    ·subst e1;rw[AfP rfl,AfP hi] at hj;rw[AfP rfl,AfP (by omega)] at hxj
     cases hj;cases hxj
     subst hcs;subst hys;exact⟨⟨us,h1,h2⟩,es,ck,h4,h5⟩
    ·rw[AfI e1] at hj hxj;exact hx j p x hj hxj (λo ho=>by cases ho;exact e1)
  ·exact h.has en (by simp[he])
 ·rcases List.mem_cons.1 he with rfl | he
  ·rcases hback q hq with rfl | h6 | h6
   ·exact h.own (.blk q cs e) (by simp) q (by simp[Ent.foot])
   ·exact h.own (.map r ys) (by simp) q h6
   ·exact h.own (.poolm k pv e xs (some (i,(b,r0)))) (by simp) q h6
  ·exact h.own en (by simp[he]) q hq
 ·rcases hback q hq with rfl | h6 | h6
  ·exact hd.1 en (by simp[he]) q (by simp[Ent.foot]) hq'
  ·exact hd2.1 en (by simp[he]) q h6 hq'
  ·exact hd3.1 en he q h6 hq'
 ·rcases List.mem_cons.1 he with rfl | he
  ·rcases hback q hq with rfl | h6 | h6
   ·exact h.zdis (.blk q cs e) (by simp) q (by simp[Ent.foot])
   ·exact h.zdis (.map r ys) (by simp) q h6
   ·exact h.zdis (.poolm k pv e xs (some (i,(b,r0)))) (by simp) q h6
  ·exact h.zdis en (by simp[he]) q hq
 ·rcases List.mem_cons.1 he with rfl | he
  ·exact h.gst.own (.poolm k pv e xs (some (i,(b,r0)))) (by simp) q hq
  ·exact h.gst.own en (by simp[he]) q hq
 ·rcases List.mem_cons.1 he with rfl | he
  ·exact h.gst.sz (.poolm k pv e xs (some (i,(b,r0)))) (by simp) q hq
  ·exact h.gst.sz en (by simp[he]) q hq
 ·rcases List.mem_cons.1 he with rfl | he
  ·refine h.gst.cap (.poolm k pv e xs (some (i,(b,r0)))) (by simp) q hq j ?_;have:(Gj pv').length≤j:=hj;rw[hpv,List.length_set] at this;exact this
  ·exact h.gst.cap en (by simp[he]) q hq j hj
theorem St.mputsame {i:Nat}(hi:i<xs.length)(h:St c (.blk b (xs[i].1 r) e::.map r xs[i].2::.poolm k pv e xs (some (i,(b,r)))::Hr) Z w):Z.nm k i=some b∧St c (.poolm k pv e xs none::Hr) Z w:=by
 obtain⟨hl,hn,hm,ho,hx⟩:=h.has (.poolm k pv e xs (some (i,(b,r)))) (by simp);have hp:(Gj pv)[i]? =some (b,r):=ho _ rfl;have h1:=St.mputback (y:=xs[i]) (pv':=pv) h rfl rfl (by
  refine(List.ext_getElem? λj=>?_);rw[List.getElem?_set]
  split
  ·rename_i e1;subst e1
   have:=(List.getElem?_eq_some_iff.1 hp).1;rw[AfP this,hp]
  ·rfl)
 rw[List.set_getElem_self] at h1;exact h1
theorem St.adoptM {y:(Nat→List Rp)×List (List UInt8×Rp)}(h:St c (.blk b cs e::.map r ys::.poolm k pv e xs none::Hr) Z w)(hcs:y.1 r=cs)(hys:y.2=ys){pv':Value}(hpv:Gj pv'=Gj pv++[(b,r)]) :
  ∃Z',Fz.le Z Z'∧Z'.nm k xs.length=some b∧St c (.poolm k pv' e (xs++[y]) none::Hr) Z' w:=by
 obtain⟨us,h1,h2⟩:=h.has (.blk b cs e) (by simp);obtain⟨es,ck,h4,h5⟩:=h.has (.map r ys) (by simp);obtain⟨hl,hn,hm,ho,hx⟩:=h.has (.poolm k pv e xs none) (by simp);have hd:=List.pairwise_cons.1 h.dis;have hd2:=List.pairwise_cons.1 hd.2;have hd3:=List.pairwise_cons.1 hd2.2;have gd:=List.pairwise_cons.1 (List.pairwise_cons.1 (List.pairwise_cons.1 h.gst.dis).2).2;have hcap:=h.gst.cap (.poolm k pv e xs none) (by simp) k (by simp[Ent.gk]);have hksz:=h.gst.sz (.poolm k pv e xs none) (by simp) k (by simp[Ent.gk]);have hkown:=h.gst.own (.poolm k pv e xs none) (by simp) k (by simp[Ent.gk])
 let Z':Fz:=⟨Z.f,λq i=>if q=k∧i=xs.length then some b else Z.nm q i⟩
 have hnew:Z'.nm k xs.length=some b:=by simp[Z']
 have hle:Fz.le Z Z':=⟨λ_ _ h=>h,λq i b' hq=>by
  by_cases hqi:q=k∧i=xs.length
  ·obtain⟨rfl,rfl⟩:=hqi;rw[hcap _ (by simp[Ent.gn,hl])] at hq;cases hq
  ·simpa[Z',hqi] using hq⟩
 have hbr:b ∉ [r]:=λhb=>hd.1 (.map r ys) (by simp) b (by simp[Ent.foot]) hb;have hbo:b ∉ (Ent.poolm k pv e xs none).foot:=λhb=>hd.1 (.poolm k pv e xs none) (by simp) b (by simp[Ent.foot]) hb;have hro:∀q∈[r],q ∉ (Ent.poolm k pv e xs none).foot:=λq hq hq'=>hd2.1 (.poolm k pv e xs none) (by simp) q hq hq';have hrn:([r]).Nodup:=by simp
 have hback:∀q∈(Ent.poolm k pv' e (xs++[y]) none).foot,q=b∨q∈[r]∨q∈(Ent.poolm k pv e xs none).foot:=λq hq=>by
  have h6:q∈RG (Gj pv++[(b,r)]):=by rw[← hpv];exact hq
  rw[WW] at h6;rcases List.mem_append.1 h6 with h7 | h7
  ·exact .inr (.inr h7)
  ·rcases List.mem_cons.1 h7 with h8 | h8
   ·exact .inl h8
   ·exact .inr (.inl h8)
 refine⟨Z',hle,hnew,{ h with has:=λen he=>?_,own:=λen he q hq=>?_,dis:=List.pairwise_cons.2 ⟨λen he q hq hq'=>?_,hd3.2⟩,frz:=⟨λb o hb=>h.frz.f b o hb,λq i b' hq=>?_⟩,le:=h.le.trans hle,new:=λb o hb=>h.new b o hb,zdis:=λen he q hq=>?_,env:=h.emono hle h.env,gst:=⟨λen he q hq=>?_,λen he q hq=>?_,List.pairwise_cons.2 ⟨gd.1,gd.2⟩,λq i b' hq=>?_,λen he q hq i hi=>?_⟩ }⟩
 ·rcases List.mem_cons.1 he with rfl | he
  ·refine⟨by rw[hpv];simp[hl],?_,λj p hj=>?_,λo ho=>(by cases ho),λj p x hj hxj _=>?_⟩
   ·show(RG (Gj pv')).Nodup;rw[hpv,WW,List.nodup_append];exact⟨hn,List.nodup_cons.2 ⟨hbr,hrn⟩,λq hq q' hq' e=>by
     subst e;rcases List.mem_cons.1 hq' with rfl | hq'
     ·exact hbo hq
     ·exact hro q hq' hq⟩
   ·rw[hpv] at hj
    by_cases hjl:j<(Gj pv).length
    ·rw[AfK hjl] at hj;exact hle.nm k j _ (hm j p hj)
    ·have hj2:j=(Gj pv).length:=by have:=(List.getElem?_eq_some_iff.1 hj).1;simp at this;omega
     subst hj2;simp at hj;subst hj;rw[hl];exact hnew
   ·rw[hpv] at hj
    by_cases hjl:j<(Gj pv).length
    ·rw[AfK hjl] at hj;rw[AfK (by omega)] at hxj;obtain⟨⟨us',g1,g2⟩,es',ck',g4,g5⟩:=hx j p x hj hxj (λo ho=>by cases ho);exact⟨⟨us',g1,g2.mono hle⟩,es',ck',g4,g5.mono hle⟩
    ·have hj2:j=(Gj pv).length:=by have:=(List.getElem?_eq_some_iff.1 hj).1;simp at this;omega
     subst hj2;simp at hj;subst hj;rw[hl] at hxj;simp at hxj;subst hxj;subst hcs;subst hys;exact⟨⟨us,h1,h2.mono hle⟩,es,ck,h4,h5.mono hle⟩
  ·exact Ent.keep (h.has en (by simp[he])) hle λ_ _=>rfl
 ·rcases List.mem_cons.1 he with rfl | he
  ·rcases hback q hq with rfl | h6 | h6
   ·exact h.own (.blk q cs e) (by simp) q (by simp[Ent.foot])
   ·exact h.own (.map r ys) (by simp) q h6
   ·exact h.own (.poolm k pv e xs none) (by simp) q h6
  ·exact h.own en (by simp[he]) q hq
 ·rcases hback q hq with rfl | h6 | h6
  ·exact hd.1 en (by simp[he]) q (by simp[Ent.foot]) hq'
  ·exact hd2.1 en (by simp[he]) q h6 hq'
  ·exact hd3.1 en he q h6 hq'
 ·by_cases hqi:q=k∧i=xs.length
  ·rw[hqi.1];exact hksz
  ·exact h.frz.nm q i b' (by simpa[Z',hqi] using hq)
 ·rcases List.mem_cons.1 he with rfl | he
  ·rcases hback q hq with rfl | h6 | h6
   ·exact h.zdis (.blk q cs e) (by simp) q (by simp[Ent.foot])
   ·exact h.zdis (.map r ys) (by simp) q h6
   ·exact h.zdis (.poolm k pv e xs none) (by simp) q h6
  ·exact h.zdis en (by simp[he]) q hq
 ·rcases List.mem_cons.1 he with rfl | he
  ·simp[Ent.gk] at hq;subst hq;exact hkown
  ·exact h.gst.own en (by simp[he]) q hq
 ·rcases List.mem_cons.1 he with rfl | he
  ·simp[Ent.gk] at hq;subst hq;exact hksz
  ·exact h.gst.sz en (by simp[he]) q hq
 ·by_cases hqi:q=k∧i=xs.length
  ·rw[hqi.1];exact .inr hkown
  ·exact h.gst.new q i b' (by simpa[Z',hqi] using hq)
 ·rcases List.mem_cons.1 he with rfl | he
  ·simp[Ent.gk] at hq;subst hq;have hi':(Gj pv').length≤i:=hi;rw[hpv,Afg] at hi';simp at hi';have hne : ¬ i=xs.length:=by omega
   simp only[Z',hne,and_false,Af3];exact hcap i (by simp[Ent.gn];omega)
  ·have hqk:q≠k:=λe1=>gd.1 en he k (by simp[Ent.gk]) (e1▸hq);simp only[Z',hqk,false_and,Af3];exact h.gst.cap en (by simp[he]) q hq i hi
end
section
variable {β : Type} [Inhabited β] {xs : List β} {encw : β → (Nat → List Rp) × List (List UInt8 × Rp)} {i : Int} {y : β}
theorem St.mtakeoutE {Z:Fz}{w:World}(hw:St c H Z w)(hp:H.Perm (.poolm k pv e (xs.map encw) none::Hr))(hg:Cn i (xs.length:Int)=true) :
  ∃b r,0≤i∧Z.nm k i.toNat=some b∧St c (.blk b ((encw (Ao xs i)).1 r) e::.map r (encw (Ao xs i)).2::.poolm k pv e (xs.map encw) (some (i.toNat,(b,r)))::Hr) Z w:=by
 have h0:=(Cm hg).1;have h1:i.toNat<xs.length:=by have:=(Cm hg).2;omega
 obtain⟨b,r,h2,h3⟩:=(hw.perm hp).mtakeout (i:=i.toNat) (by simpa using h1);have e1:(xs.map encw)[i.toNat]'(by simpa using h1)=encw (Ao xs i):=by simp[Ao,h1]
 rw[e1] at h3;exact⟨b,r,h0,h2,h3⟩
theorem WL.mtakeout (hp:H.Perm (.poolm k pv e (xs.map encw) none::Hr))(hg:Cn i (xs.length:Int)=true)(ds:List Nat)(hd:Ach l k i ds)
  (h:∀b r,WL P n c ops Q rest (asB b ds l) (.blk b ((encw (Ao xs i)).1 r) e::.map r (encw (Ao xs i)).2::.poolm k pv e (xs.map encw) (some (i.toNat,(b,r)))::Hr)):WL P n c ops Q rest l H:=λa w Z ha hw=>by
 obtain⟨b,r,h0,h1,h2⟩:=St.mtakeoutE hw hp hg;exact h b r a w Z (VV ha h0 h1 hd) h2
theorem WC.mtakeout (hp:H.Perm (.poolm k pv e (xs.map encw) none::Hr))(hg:Cn i (xs.length:Int)=true)(ds:List Nat)(hd:Ach l k i ds)
  (h:∀b r,WC P n c cx Q (asB b ds l) (.blk b ((encw (Ao xs i)).1 r) e::.map r (encw (Ao xs i)).2::.poolm k pv e (xs.map encw) (some (i.toNat,(b,r)))::Hr)):WC P n c cx Q l H:=λa w Z ha hw=>by
 obtain⟨b,r,h0,h1,h2⟩:=St.mtakeoutE hw hp hg;exact h b r a w Z (VV ha h0 h1 hd) h2
theorem St.mputbackE {Z:Fz}{w:World}{r0:Nat}(hw:St c H Z w)(hp:H.Perm (.blk b cs e::.map r ys::.poolm k pv e (xs.map encw) (some (i.toNat,(b,r0)))::Hr))(hcs:(encw y).1 r=cs)(hys:(encw y).2=ys) :
  ∃pv',Z.nm k i.toNat=some b∧St c (.poolm k pv' e ((xs.set i.toNat y).map encw) none::Hr) Z w:=by
 obtain⟨h1,h2⟩:=(hw.perm hp).mputback (y:=encw y) (pv':=Abw ((Gj pv).set i.toNat (b,r))) hcs hys (WD _);rw[← List.map_set] at h2;exact⟨_,h1,h2⟩
theorem WL.mputback {r0:Nat}(hp:H.Perm (.blk b cs e::.map r ys::.poolm k pv e (xs.map encw) (some (i.toNat,(b,r0)))::Hr))(hg:Cn i (xs.length:Int)=true)(ds:List Nat)(hd:QK l b ds)(hcs:(encw y).1 r=cs)(hys:(encw y).2=ys)
  (h:∀pv',WL P n c ops Q rest (asI k i ds l) (.poolm k pv' e ((xs.set i.toNat y).map encw) none::Hr)):WL P n c ops Q rest l H:=λa w Z ha hw=>by
 obtain⟨pv',h1,h2⟩:=St.mputbackE hw hp hcs hys;exact h pv' a w Z (M9 ha (Cm hg).1 h1 hd) h2
theorem WC.mputback {r0:Nat}(hp:H.Perm (.blk b cs e::.map r ys::.poolm k pv e (xs.map encw) (some (i.toNat,(b,r0)))::Hr))(hg:Cn i (xs.length:Int)=true)(ds:List Nat)(hd:QK l b ds)(hcs:(encw y).1 r=cs)(hys:(encw y).2=ys)
  (h:∀pv',WC P n c cx Q (asI k i ds l) (.poolm k pv' e ((xs.set i.toNat y).map encw) none::Hr)):WC P n c cx Q l H:=λa w Z ha hw=>by
 obtain⟨pv',h1,h2⟩:=St.mputbackE hw hp hcs hys;exact h pv' a w Z (M9 ha (Cm hg).1 h1 hd) h2
theorem WK.mputback {r0:Nat}(hp:H.Perm (.blk b cs e::.map r ys::.poolm k pv e (xs.map encw) (some (i.toNat,(b,r0)))::Hr))(hg:Cn i (xs.length:Int)=true)(ds:List Nat)(hd:QK l b ds)(hcs:(encw y).1 r=cs)(hys:(encw y).2=ys)
  (h:∀pv',WK n c K (asI k i ds l) (.poolm k pv' e ((xs.set i.toNat y).map encw) none::Hr)):WK n c K l H:=λa w Z ha hw=>by
 obtain⟨pv',h1,h2⟩:=St.mputbackE hw hp hcs hys;exact h pv' a w Z (M9 ha (Cm hg).1 h1 hd) h2
theorem St.mputsameE {Z:Fz}{w:World}(hw:St c H Z w)(hp:H.Perm (.blk b cs e::.map r ys::.poolm k pv e (xs.map encw) (some (i.toNat,(b,r)))::Hr))(hg:Cn i (xs.length:Int)=true)(hcs:(encw (Ao xs i)).1 r=cs)(hys:(encw (Ao xs i)).2=ys) :
  Z.nm k i.toNat=some b∧St c (.poolm k pv e (xs.map encw) none::Hr) Z w:=by
 have h1:i.toNat<xs.length:=by have:=Cm hg;omega
 have e1:(xs.map encw)[i.toNat]'(by simpa using h1)=encw (Ao xs i):=by simp[Ao,h1]
 subst hcs;subst hys;have h2:=hw.perm hp;rw[← e1] at h2;exact St.mputsame (by simpa using h1) h2
theorem WL.mputsame (hp:H.Perm (.blk b cs e::.map r ys::.poolm k pv e (xs.map encw) (some (i.toNat,(b,r)))::Hr))(hg:Cn i (xs.length:Int)=true)(ds:List Nat)(hd:QK l b ds)(hcs:(encw (Ao xs i)).1 r=cs)(hys:(encw (Ao xs i)).2=ys)
  (h:WL P n c ops Q rest (asI k i ds l) (.poolm k pv e (xs.map encw) none::Hr)):WL P n c ops Q rest l H:=λa w Z ha hw=>by
 obtain⟨h1,h2⟩:=St.mputsameE hw hp hg hcs hys;exact h a w Z (M9 ha (Cm hg).1 h1 hd) h2
theorem WC.mputsame (hp:H.Perm (.blk b cs e::.map r ys::.poolm k pv e (xs.map encw) (some (i.toNat,(b,r)))::Hr))(hg:Cn i (xs.length:Int)=true)(ds:List Nat)(hd:QK l b ds)(hcs:(encw (Ao xs i)).1 r=cs)(hys:(encw (Ao xs i)).2=ys)
  (h:WC P n c cx Q (asI k i ds l) (.poolm k pv e (xs.map encw) none::Hr)):WC P n c cx Q l H:=λa w Z ha hw=>by
 obtain⟨h1,h2⟩:=St.mputsameE hw hp hg hcs hys;exact h a w Z (M9 ha (Cm hg).1 h1 hd) h2
theorem WK.mputsame (hp:H.Perm (.blk b cs e::.map r ys::.poolm k pv e (xs.map encw) (some (i.toNat,(b,r)))::Hr))(hg:Cn i (xs.length:Int)=true)(ds:List Nat)(hd:QK l b ds)(hcs:(encw (Ao xs i)).1 r=cs)(hys:(encw (Ao xs i)).2=ys)
  (h:WK n c K (asI k i ds l) (.poolm k pv e (xs.map encw) none::Hr)):WK n c K l H:=λa w Z ha hw=>by
 obtain⟨h1,h2⟩:=St.mputsameE hw hp hg hcs hys;exact h a w Z (M9 ha (Cm hg).1 h1 hd) h2
theorem WC.uncur {it i:Nat}{m lf:List (List UInt8×Rp)}{cur:Option (List UInt8×Rp)}(hi:H[i]? =some (.mit b it m lf cur))(h:WC P n c cx Q l (H.set i (.mit b it m lf none))):WC P n c cx Q l H:=λa w Z ha hw=>h a w Z ha (hw.uncur hi)
theorem St.adoptME {Z:Fz}{w:World}(hw:St c H Z w)(hp:H.Perm (.blk b cs e::.map r ys::.poolm k pv e (xs.map encw) none::Hr))(hcs:(encw y).1 r=cs)(hys:(encw y).2=ys) :
  ∃Z' pv',Fz.le Z Z'∧Z'.nm k xs.length=some b∧St c (.poolm k pv' e ((xs++[y]).map encw) none::Hr) Z' w:=by
 obtain⟨Z',h1,h2,h3⟩:=(hw.perm hp).adoptM (y:=encw y) (pv':=Abw (Gj pv++[(b,r)])) hcs hys (WD _);rw[Afw] at h2;exact⟨Z',_,h1,h2,by rw[List.map_append];exact h3⟩
theorem WL.adoptM (hp:H.Perm (.blk b cs e::.map r ys::.poolm k pv e (xs.map encw) none::Hr))(ds:List Nat)(hd:QK l b ds)(hcs:(encw y).1 r=cs)(hys:(encw y).2=ys)
  (h:∀pv',WL P n c ops Q rest (asP k xs.length ds l) (.poolm k pv' e ((xs++[y]).map encw) none::Hr)):WL P n c ops Q rest l H:=λa w Z ha hw=>by
 obtain⟨Z',pv',h1,h2,h3⟩:=St.adoptME hw hp hcs hys;exact h pv' a w Z' (VU (ha.mono h1) h2 hd) h3
theorem WC.adoptM (hp:H.Perm (.blk b cs e::.map r ys::.poolm k pv e (xs.map encw) none::Hr))(ds:List Nat)(hd:QK l b ds)(hcs:(encw y).1 r=cs)(hys:(encw y).2=ys)
  (h:∀pv',WC P n c cx Q (asP k xs.length ds l) (.poolm k pv' e ((xs++[y]).map encw) none::Hr)):WC P n c cx Q l H:=λa w Z ha hw=>by
 obtain⟨Z',pv',h1,h2,h3⟩:=St.adoptME hw hp hcs hys;exact h pv' a w Z' (VU (ha.mono h1) h2 hd) h3
end
theorem KT:Gj (.tuple #[])=[]:=rfl
theorem OS (hn:Nat.blt d n=true)(h:∀b,WL P n c ops Q rest ((d,rv (.map (some b)))::l) (.poolm b (.tuple #[]) e [] none::.map b []::H)) :
  WL P n c ops Q ({ dst:=some d,op:=.makeMap t none,type:=ty,pos:=pos,after:=af,guard:=none }::rest) l H:=
 JU (λa w Z ha hw=>by
  have h1:=hw.alloc (.map #[] 0) (e:=.map w.heap.size []) ⟨#[],0,by simpa using heap_alloc_new w _,by simp,by simp,by simp,[],Afl _,trivial⟩ rfl;refine⟨_,w.alloc (.map #[] 0),_,_,Z,by simp[execOp,run_makeMap],Fz.le.refl _,rfl,?_,h w.heap.size⟩;have hz:∀i,Z.nm w.heap.size i=none:=λi=>by
   cases hq:Z.nm w.heap.size i with
   | none=>rfl
   | some b=>have:=hw.frz.nm _ _ _ hq;omega
  have hold:∀en∈(Ent.map w.heap.size []::H),∀q∈en.gk,q<w.heap.size:=λen he q hq=>by
   rcases List.mem_cons.1 he with rfl | he
   ·simp[Ent.gk] at hq
   ·exact hw.gst.sz en he q hq
  have hf:∀q,q ∉ (Ent.poolm w.heap.size (.tuple #[]) e [] none).foot:=λq hq=>by simp[Ent.foot,KT,V2,RG] at hq
  refine { h1 with has:=λen he=>?_,own:=λen he q hq=>?_,dis:=List.pairwise_cons.2 ⟨λen he q hq=>absurd hq (hf q),h1.dis⟩,zdis:=λen he q hq=>?_,gst:=⟨λen he q hq=>?_,λen he q hq=>?_,List.pairwise_cons.2 ⟨λen he q hq hq'=>?_,h1.gst.dis⟩,h1.gst.new,λen he q hq i hi=>?_⟩ }
  ·rcases List.mem_cons.1 he with rfl | he
   ·exact⟨by simp[KT],by simp[KT,V2,RG],by simp[KT],λo ho=>(by cases ho),by simp[KT]⟩
   ·exact h1.has en he
  ·rcases List.mem_cons.1 he with rfl | he
   ·exact absurd hq (hf q)
   ·exact h1.own en he q hq
  ·rcases List.mem_cons.1 he with rfl | he
   ·exact absurd hq (hf q)
   ·exact h1.zdis en he q hq
  ·rcases List.mem_cons.1 he with rfl | he
   ·simp[Ent.gk] at hq;subst hq;exact .inl hw.size
   ·exact h1.gst.own en he q hq
  ·rcases List.mem_cons.1 he with rfl | he
   ·simp[Ent.gk] at hq;subst hq;simp
   ·exact h1.gst.sz en he q hq
  ·simp[Ent.gk] at hq;subst hq;have:=hold en he _ hq';omega
  ·rcases List.mem_cons.1 he with rfl | he
   ·simp[Ent.gk] at hq;subst hq;exact hz i
   ·exact h1.gst.cap en he q hq i hi) hn
end
end Go.Proofs.YtmjlemhondjfhaaGreatDoor.Q
namespace Go.Proofs.YtmjlemhondjfhaaGreatDoor
open Go
end Go.Proofs.YtmjlemhondjfhaaGreatDoor
namespace Go.Proofs.YtmjlemhondjfhaaGreatDoor.Q
open Go Go.RowKit Go.ChangeMaps
set_option linter.unusedVariables false
set_option linter.unusedSimpArgs false
end Go.Proofs.YtmjlemhondjfhaaGreatDoor.Q
