/-
  Texts of the proof, put together: WFc, PFd, WFd, OkFilterDecides, LvA, LvB, LvC, LvD, LvE, LvF, LvG, LvH, LvI, LvJ, LvK, LvL, LvM, LvN, LvO, LvP, LcA, LcB, LcC, LcD, LcE, LcF, LcG, LfA, LfB, LgA, LfC, LgB, LgC, LgD, LwFiDecides.
-/
import Derived.Test.YtghdglcmblpbeaaGreatDoorFD4
import GoSem.ClaimData
namespace Go.Proofs.YtghdglcmblpbeaaGreatDoor.Q
open Go Go.RowKit
set_option linter.unusedVariables false
set_option linter.unusedSimpArgs false
set_option maxRecDepth 100000
set_option maxHeartbeats 4000000
theorem Ei (n:Int)(r:Bool)(h:Br n=some r):Fn Tryz.prog GE 35 [Al n] [] (λR H=>R=rB r∧H=[]):=by
 refine enter (n:=9) Tryz.func35 rfl Tryz.ntmps35 rfl (λw Z=>?_);unfold Br at h;refine Af (wa rfl (Am (AE [(2,rB ((decide ((-1000000000000)≤n))&&(decide (n≤1000000000000))))] [] ?_ ?_)))
 ·refine Aj (wm rfl (wv (EI rfl rfl) (wm rfl (AH (decide ((-1000000000000)≤n)) (λc1=>?_) (λc1=>?_)))))
  ·refine wo c1 (wm rfl (wo c1 (wv (JY rfl rfl) (BR rfl c1 rfl (wa rfl (Ai ?_))))));exact BD c1
  ·refine wf c1 (wf c1 (wv (r:=rB false) (Ak rfl c1 rfl) (wa rfl (Ai ?_))));exact BD c1
 refine Aq ?_;obtain rfl:=Ao h;exact Ap (Bs Tryz.results35 (A5 rfl)) sN ⟨rfl,rfl⟩
theorem Ja (f:Ah)(r:Bool)(h:EC f=some r):Fn Tryz.prog GE 36 [Bt (Ad f)] [] (λR H=>R=rB r∧H=[]):=by
 refine enter (n:=44) Tryz.func36 rfl Tryz.ntmps36 rfl (λw Z=>?_);unfold EC at h;refine Af (Bq rfl rfl (λb1=>?_));refine wa rfl (Am (AE [(1,rP b1 0),(3,rB ((decide (f.fOp=3))||(decide (f.fOp=4))))] [.blk b1 (Ad f) 26] ?_ ?_))
 ·refine Aj (vF AA rfl Bw (vL 0 Bx rfl (wv (AX rfl rfl) (wm rfl (AH (decide (f.fOp=3)) (λc2=>?_) (λc2=>?_))))))
  ·refine wf c2 (wf c2 (wf c2 (wv (r:=rB true) (Av rfl c2 rfl) (wa rfl (Ai ?_)))));exact BD c2
  ·refine wo c2 (vF AA rfl Bw (wo c2 (vL 0 Bx rfl (wo c2 (wv (AX rfl rfl) (Cc rfl c2 rfl (wa rfl (Ai ?_))))))));exact BD c2
 refine BX (S:=(Bool)×(Unit)) (λσ=>Cj σ.1=some r) (λσ=>[(2,rB σ.1)]) (λσ=>[]) ?_ ?_
 ·refine Aj (wm rfl (wm rfl (bz h (λc46 hp=>?_) (λc46 hq=>?_))))
  ·refine wf c46 (wf c46 (wf c46 (wf c46 (wv (r:=rB true) (Av rfl c46 rfl) (wm rfl (AF (b:=true) rfl rfl rfl (vF AA rfl Bw (AF (b:=true) rfl rfl rfl (vL 0 Bx rfl (AF (b:=true) rfl rfl rfl (wv (AX rfl rfl) (AF (b:=true) rfl rfl rfl (wm rfl (bz hp (λhi hr=>?_) (λhi hs=>?_)))))))))))))))
   ·refine wf hi (wf hi (wf hi (AF (b:=true) rfl rfl rfl (wv (r:=rB true) (Av rfl hi rfl) (wv (r:=rB true) (Av (b:=true) rfl rfl rfl) (wm rfl (AF (b:=true) rfl rfl rfl (vF AA rfl Bw (AF (b:=true) rfl rfl rfl (vL 0 Bx rfl (AF (b:=true) rfl rfl rfl (wv (AX rfl rfl) (AF (b:=true) rfl rfl rfl (wm rfl (bz hr (λhe ht=>?_) (λhe hu=>?_))))))))))))))))
    ·exact wf he (wf he (wf he (wf he (wu (wu (wu (wf he (AF (b:=true) rfl rfl rfl (wv (r:=rB true) (Av rfl he rfl) (wv (r:=rB true) (Av (b:=true) rfl rfl rfl) (wa rfl (Ai (As (Ar (true,()) ht (Az.c rfl Az.nil) (sS sN)))))))))))))))
    ·refine wo he (vF AA rfl B3 (wo he (vL 0 BG rfl (wo he (wv (AX rfl rfl) (wo he (wm rfl (bz hu (λc53 hw=>?_) (λc53 hx=>?_)))))))))
     ·exact wo c53 (vF AA rfl B3 (wo c53 (vL 0 BG rfl (wo c53 (wv (AX rfl rfl) (wo he (BR rfl c53 rfl (AF (b:=true) rfl rfl rfl (Cc rfl he rfl (wv (r:=rB (decide (f.fHigh=0))) (Av (b:=true) rfl rfl rfl) (wa rfl (Ai (As (Ar (decide (f.fHigh=0),()) hw (Az.c rfl Az.nil) (sS sN)))))))))))))))
     ·exact wf c53 (wf c53 (wf c53 (wo he (wv (r:=rB false) (Ak rfl c53 rfl) (AF (b:=true) rfl rfl rfl (Cc rfl he rfl (wv (r:=rB false) (Av (b:=true) rfl rfl rfl) (wa rfl (Ai (As (Ar (false,()) hx (Az.c rfl Az.nil) (sS sN))))))))))))
   ·refine wo hi (vF AA rfl C6 (wo hi (vL 0 CG rfl (wo hi (wv (DT rfl rfl) (AF (b:=true) rfl rfl rfl (Cc rfl hi rfl (wv (r:=rB (decide (f.fText=([]:Aw)))) (Av (b:=true) rfl rfl rfl) (wm rfl (bz hs (λha hy=>?_) (λha hz=>?_)))))))))))
    ·refine wo ha (vF AA rfl Bw (wo ha (vL 0 Bx rfl (wo ha (wv (AX rfl rfl) (wo ha (wm rfl (bz hy (λhf h0=>?_) (λhf h1=>?_)))))))))
     ·exact wf hf (wf hf (wf hf (wf hf (wu (wu (wu (wf hf (wo ha (wv (r:=rB true) (Av rfl hf rfl) (BR rfl ha rfl (wa rfl (Ai (As (Ar (true,()) h0 (Az.c rfl Az.nil) (sS sN)))))))))))))))
     ·refine wo hf (vF AA rfl B3 (wo hf (vL 0 BG rfl (wo hf (wv (AX rfl rfl) (wo hf (wm rfl (bz h1 (λhj h2=>?_) (λhj h3=>?_)))))))))
      ·exact wo hj (vF AA rfl B3 (wo hj (vL 0 BG rfl (wo hj (wv (AX rfl rfl) (wo hf (BR rfl hj rfl (wo ha (Cc rfl hf rfl (BR rfl ha rfl (wa rfl (Ai (As (Ar (decide (f.fHigh=0),()) h2 (Az.c rfl Az.nil) (sS sN)))))))))))))))
      ·exact wf hj (wf hj (wf hj (wo hf (wv (r:=rB false) (Ak rfl hj rfl) (wo ha (Cc rfl hf rfl (BR rfl ha rfl (wa rfl (Ai (As (Ar (false,()) h3 (Az.c rfl Az.nil) (sS sN))))))))))))
    ·exact wf ha (wf ha (wf ha (wf ha (wu (wu (wu (wu (wu (wu (wu (wu (wf ha (wv (r:=rB false) (Ak rfl ha rfl) (wa rfl (Ai (As (Ar (false,()) hz (Az.c rfl Az.nil) (sS sN))))))))))))))))))
  ·refine wo c46 (vF AA rfl C9 (wo c46 (vL 0 CI rfl (wo c46 (wv (AK (ys:=f.fValues) (enc:=Ae) Cd rfl) (wo c46 (wv (AX rfl rfl) (Cc rfl c46 rfl (wm rfl (bz hq (λhg h4=>?_) (λhg h5=>?_)))))))))))
   ·refine wo hg (vF AA rfl Bw (wo hg (vL 0 Bx rfl (wo hg (wv (AX rfl rfl) (wo hg (wm rfl (bz h4 (λhk h6=>?_) (λhk h7=>?_)))))))))
    ·refine wf hk (wf hk (wf hk (wo hg (wv (r:=rB true) (Av rfl hk rfl) (BR rfl hg rfl (wm rfl (AF (b:=true) rfl rfl rfl (vF AA rfl Bw (AF (b:=true) rfl rfl rfl (vL 0 Bx rfl (AF (b:=true) rfl rfl rfl (wv (AX rfl rfl) (AF (b:=true) rfl rfl rfl (wm rfl (bz h6 (λhh h8=>?_) (λhh h9=>?_))))))))))))))))
     ·exact wf hh (wf hh (wf hh (wf hh (wu (wu (wu (wf hh (AF (b:=true) rfl rfl rfl (wv (r:=rB true) (Av rfl hh rfl) (wv (r:=rB true) (Av (b:=true) rfl rfl rfl) (wa rfl (Ai (As (Ar (true,()) h8 (Az.c rfl Az.nil) (sS sN)))))))))))))))
     ·refine wo hh (vF AA rfl B3 (wo hh (vL 0 BG rfl (wo hh (wv (AX rfl rfl) (wo hh (wm rfl (bz h9 (λhl hA=>?_) (λhl hB=>?_)))))))))
      ·exact wo hl (vF AA rfl B3 (wo hl (vL 0 BG rfl (wo hl (wv (AX rfl rfl) (wo hh (BR rfl hl rfl (AF (b:=true) rfl rfl rfl (Cc rfl hh rfl (wv (r:=rB (decide (f.fHigh=0))) (Av (b:=true) rfl rfl rfl) (wa rfl (Ai (As (Ar (decide (f.fHigh=0),()) hA (Az.c rfl Az.nil) (sS sN)))))))))))))))
      ·exact wf hl (wf hl (wf hl (wo hh (wv (r:=rB false) (Ak rfl hl rfl) (AF (b:=true) rfl rfl rfl (Cc rfl hh rfl (wv (r:=rB false) (Av (b:=true) rfl rfl rfl) (wa rfl (Ai (As (Ar (false,()) hB (Az.c rfl Az.nil) (sS sN))))))))))))
    ·refine wo hk (vF AA rfl C6 (wo hk (vL 0 CG rfl (wo hk (wv (DT rfl rfl) (wo hg (Cc rfl hk rfl (BR rfl hg rfl (wm rfl (bz h7 (λhb hC=>?_) (λhb hD=>?_)))))))))))
     ·refine wo hb (vF AA rfl Bw (wo hb (vL 0 Bx rfl (wo hb (wv (AX rfl rfl) (wo hb (wm rfl (bz hC (λc80 hE=>?_) (λc80 hG=>?_)))))))))
      ·exact wf c80 (wf c80 (wf c80 (wf c80 (wu (wu (wu (wf c80 (wo hb (wv (r:=rB true) (Av rfl c80 rfl) (BR rfl hb rfl (wa rfl (Ai (As (Ar (true,()) hE (Az.c rfl Az.nil) (sS sN)))))))))))))))
      ·refine wo c80 (vF AA rfl B3 (wo c80 (vL 0 BG rfl (wo c80 (wv (AX rfl rfl) (wo c80 (wm rfl (bz hG (λhm hH=>?_) (λhm hI=>?_)))))))))
       ·exact wo hm (vF AA rfl B3 (wo hm (vL 0 BG rfl (wo hm (wv (AX rfl rfl) (wo c80 (BR rfl hm rfl (wo hb (Cc rfl c80 rfl (BR rfl hb rfl (wa rfl (Ai (As (Ar (decide (f.fHigh=0),()) hH (Az.c rfl Az.nil) (sS sN)))))))))))))))
       ·exact wf hm (wf hm (wf hm (wo c80 (wv (r:=rB false) (Ak rfl hm rfl) (wo hb (Cc rfl c80 rfl (BR rfl hb rfl (wa rfl (Ai (As (Ar (false,()) hI (Az.c rfl Az.nil) (sS sN))))))))))))
     ·exact wf hb (wf hb (wf hb (wf hb (wu (wu (wu (wu (wu (wu (wu (wu (wf hb (wv (r:=rB false) (Ak rfl hb rfl) (wa rfl (Ai (As (Ar (false,()) hD (Az.c rfl Az.nil) (sS sN))))))))))))))))))
   ·refine wf hg (wf hg (wf hg (wf hg (wu (wu (wu (wf hg (wv (r:=rB false) (Ak rfl hg rfl) (wm rfl (wz rfl rfl (wz rfl rfl (wz rfl rfl (wz rfl rfl (wu (wu (wu (wu (wu (wu (wu (wu (wz rfl rfl (wv (r:=rB false) (Ak (b:=false) rfl rfl rfl) ?_)))))))))))))))))))))));exact wa rfl (Ai (As (Ar (false,()) h5 (Az.c rfl Az.nil) (sS sN))))
 ·rintro⟨ho,⟨⟩⟩ hn;refine B7 (l':=[(2,rB ho)]) (H':=[]) rfl rfl ?_;replace hn:Cj ho=some r:=hn;unfold Cj at hn;refine Aq ?_;obtain rfl:=Ao hn;exact Ap (Bs Tryz.results36 (A5 rfl)) sN ⟨rfl,rfl⟩
theorem M9 (F:Nat)(f:Ah)(r:Int)(h:Df F f=some r):Fn Tryz.prog GE 14 [Bt (Ad f)] [] (λR H=>R=Al r∧H=[]):=by
 refine enter (n:=112) Tryz.func14 rfl Tryz.ntmps14 rfl (λw Z=>?_);unfold Df at h;refine Af (Bq rfl rfl (λb1=>?_));refine wa rfl (Am (An (Af (vF AA rfl DN (vL 0 Ed rfl (wv (AK (ys:=f.fPath) (enc:=eS) Dc rfl) (wv (CB rfl rfl) (Am (cz h rfl (λc2 h3=>?_) (λc2 h4=>?_))))))))))
 ·refine Af (wa rfl (Am (Aq (Ac ?_))));obtain rfl:=Ao h3;exact Ap (Bs HC (A5 rfl)) (sS sN) ⟨rfl,rfl⟩
 ·refine At (AD (An (Af (vF AA rfl DN (vL 0 Ed rfl (wv (AK (ys:=f.fPath) (enc:=eS) Dc rfl) (wv (r:=Al 0) (A3 rfl) (Am (A6 (ob h4 λh1 h2 hz=>Bd (S:=Nat×(Int)×(Unit)) (V:=(Unit)×(Unit)) 0 (λσ=>Cf (λσ=>DE F f σ) σ.1 σ.2.1=some h1) (λσ=>[(1,rP b1 0),(16,Al (f.fPath.length:Int)),(17,Al σ.2.1)]) (λσ=>[.blk b1 (Ad f) 26]) (λσ=>σ.1) (F,0,()) h2 (Az.c rfl (Az.c rfl (Az.c rfl Az.nil))) (sC sN) (λσ=>EL F f =some r) (λσ=>[(1,rP b1 0)]) (λσ=>[.blk b1 (Ad f) 26]) ?_ ?_))))))))))
  ·rintro⟨c6,hq,⟨⟩⟩ h5;refine B7 (l':=[(1,rP b1 0),(16,Al (f.fPath.length:Int)),(17,Al hq)]) (H':=[.blk b1 (Ad f) 26]) rfl rfl ?_;obtain⟨h6,rfl,h7,hr,hx⟩:=Ca h5;replace hr:DE F f hq=some h7:=hr;unfold DE at hr;refine Af (wv (Cl rfl rfl) (Am (An (cz hr rfl (λc53 h8=>?_) (λc53 h9=>?_)))))
   ·refine At (AD (An (A6 (Af (wm rfl (wa rfl (Bb (vF AA rfl DN (vL 0 Ed rfl (wm rfl (ck h8 λhA hB=>wv (AU (enc:=eS) (ys:=f.fPath) Dc C6 rfl rfl hA) (wv (AM CG rfl rfl) (ob hB λhC hD hE=>BL Tryz.call33 (Qb F (Ax f.fPath hq) hC hD) rfl (wm rfl (wv (AC rfl rfl) (wv (AC rfl rfl) (wa rfl (wa rfl (Bb (wm rfl (wv (Bo rfl rfl) ?_)))))))))))))))))))));refine Am (cz hE rfl (λhG hH=>?_) (λhG hI=>?_))
    ·refine Af (wm rfl (wa rfl (Am (Aq (Au (Ac (Ac (AP ?_))))))));have hJ:=Bg hH hx hz;refine Au (Ac ?_);obtain rfl:=Ao hJ;exact Ap (Bs HC (A5 rfl)) (sS sN) ⟨rfl,rfl⟩
    ·refine At (A4 (AD (Aj (ck hI λhK hL=>wv (Be rfl rfl hK) (wm rfl (Ai ?_))))));have hN:=AW hL hx;exact As (Ar (h6,hq+1,()) ⟨hN,X0 _⟩ (Az.c rfl (Az.c rfl (Az.c rfl Az.nil))) (sC sN))
   ·refine Bl (Ay ?_);have hO:=BB h9 hx hz;exact Ay (AS (Ar ((),()) hO (Az.c rfl Az.nil) (sC sN)))
  ·rintro⟨⟨⟩,⟨⟩⟩ hs;refine Ce (l':=[(1,rP b1 0)]) (H':=[.blk b1 (Ad f) 26]) rfl rfl ?_;replace hs:EL F f =some r:=hs;unfold EL at hs;refine AV (AD (An (AE [(1,rP b1 0),(40,rB ((decide (f.fOp<1))||(decide (6<f.fOp))))] [.blk b1 (Ad f) 26] ?_ ?_)))
   ·refine Aj (vF AA rfl Bw (vL 0 Bx rfl (wv (Cl rfl rfl) (wm rfl (AH (decide (f.fOp<1)) (λho=>?_) (λho=>?_))))))
    ·refine wf ho (wf ho (wf ho (wv (r:=rB true) (Av rfl ho rfl) (Ai ?_))));exact BD ho
    ·refine wo ho (vF AA rfl Bw (wo ho (vL 0 Bx rfl (wo ho (wv (CB rfl rfl) (Cc rfl ho rfl (Ai ?_)))))));exact BD ho
   refine cz hs rfl (λhP hQ=>?_) (λhP hR=>?_)
   ·refine Af (wa rfl (Am (Aq (Ac ?_))));obtain rfl:=Ao hQ;exact Ap (Bs HC (A5 rfl)) (sS sN) ⟨rfl,rfl⟩
   ·refine At (AD (An (AE [(1,rP b1 0),(48,rB ((decide (f.fOp=3))||(decide (f.fOp=4))))] [.blk b1 (Ad f) 26] ?_ ?_)))
    ·refine Aj (vF AA rfl Bw (vL 0 Bx rfl (wv (AX rfl rfl) (wm rfl (AH (decide (f.fOp=3)) (λhp=>?_) (λhp=>?_))))))
     ·refine wf hp (wf hp (wf hp (wv (r:=rB true) (Av rfl hp rfl) (Ai ?_))));exact BD hp
     ·refine wo hp (vF AA rfl Bw (wo hp (vL 0 Bx rfl (wo hp (wv (AX rfl rfl) (Cc rfl hp rfl (Ai ?_)))))));exact BD hp
    refine cz hR rfl (λc75 hS=>?_) (λc75 hT=>?_)
    ·refine An (AE [(1,rP b1 0),(58,rB ((decide ((f.fValues.length:Int)<1))||(decide (8<(f.fValues.length:Int)))))] [.blk b1 (Ad f) 26] ?_ ?_)
     ·refine Aj (vF AA rfl C9 (vL 0 CI rfl (wv (AK (ys:=f.fValues) (enc:=Ae) Cd rfl) (wv (Cl rfl rfl) (wm rfl (AH (decide ((f.fValues.length:Int)<1)) (λhn=>?_) (λhn=>?_)))))))
      ·refine wf hn (wf hn (wf hn (wf hn (wv (r:=rB true) (Av rfl hn rfl) (Ai ?_)))));exact BD hn
      ·refine wo hn (vF AA rfl C9 (wo hn (vL 0 CI rfl (wo hn (wv (AK (ys:=f.fValues) (enc:=Ae) Cd rfl) (wo hn (wv (CB rfl rfl) (Cc rfl hn rfl (Ai ?_)))))))));exact BD hn
     refine cz hS rfl (λhU hV=>?_) (λhU hW=>?_)
     ·refine Af (wa rfl (Am (Aq (Ac (Ac ?_)))));obtain rfl:=Ao hV;exact Ap (Bs HC (A5 rfl)) (sS sN) ⟨rfl,rfl⟩
     ·refine At (AD (Af (vF AA rfl C9 (vL 0 CI rfl (wv (AK (ys:=f.fValues) (enc:=Ae) Cd rfl) (wv (r:=Al 0) (A3 rfl) (Am (A6 (ob hW λhX hY h0=>Bd (S:=Nat×(Int)×(Unit)) (V:=(Unit)×(Unit)) 2 (λσ=>Cf (λσ=>DD F f σ) σ.1 σ.2.1=some hX) (λσ=>[(1,rP b1 0),(61,Al (f.fValues.length:Int)),(62,Al σ.2.1)]) (λσ=>[.blk b1 (Ad f) 26]) (λσ=>σ.1) (F,0,()) hY (Az.c rfl (Az.c rfl (Az.c rfl Az.nil))) (sC sN) (λσ=>EK F f =some r) (λσ=>[(1,rP b1 0)]) (λσ=>[.blk b1 (Ad f) 26]) ?_ ?_)))))))))
      ·rintro⟨c7,ht,⟨⟩⟩ hZ;refine B7 (l':=[(1,rP b1 0),(61,Al (f.fValues.length:Int)),(62,Al ht)]) (H':=[.blk b1 (Ad f) 26]) rfl rfl ?_;obtain⟨ga,rfl,gb,hu,hy⟩:=Ca hZ;replace hu:DD F f ht=some gb:=hu;unfold DD at hu;refine Af (wv (Cl rfl rfl) (Am (An (cz hu rfl (λgc gd=>?_) (λgc ge=>?_)))))
       ·refine At (AD (An (A6 (Af (wm rfl (wa rfl (Bb (vF AA rfl C9 (vL 0 CI rfl (wm rfl (ck gd λgf gg=>wv (AU (enc:=Ae) (ys:=f.fValues) Cd Co rfl rfl gf) (wv (AM CS rfl rfl) (ob gg λgh gi gj=>BL Tryz.call34 (OV F (Ax f.fValues ht) gh gi) rfl (wa rfl (Bb (wm rfl (wv (Bo rfl rfl) (Am (cz gj rfl (λgl gm=>?_) (λgl gp=>?_))))))))))))))))))))
        ·refine Af (wm rfl (wa rfl (Am (Aq (Au (Ac (Ac (AP ?_))))))));have gq:=Bg gm hy h0;refine Au (Ac ?_);obtain rfl:=Ao gq;exact Ap (Bs HC (A5 rfl)) (sS sN) ⟨rfl,rfl⟩
        ·refine At (A4 (AD (Aj (ck gp λgr gs=>wv (Be rfl rfl gr) (wm rfl (Ai ?_))))));have gt:=AW gs hy;exact As (Ar (ga,ht+1,()) ⟨gt,X0 _⟩ (Az.c rfl (Az.c rfl (Az.c rfl Az.nil))) (sC sN))
       ·refine Bl (Ay ?_);have gu:=BB ge hy h0;exact Ay (AS (Ar ((),()) gu (Az.c rfl Az.nil) (sC sN)))
      ·rintro⟨⟨⟩,⟨⟩⟩ hw;refine Ce (l':=[(1,rP b1 0)]) (H':=[.blk b1 (Ad f) 26]) rfl rfl ?_;replace hw:EK F f =some r:=hw;unfold EK at hw;refine AV (AD (An (Af (vF AA rfl Bw (vL 0 Bx rfl (wv (AX rfl rfl) (Am (cz hw rfl (λgv gw=>?_) (λgv gx=>?_)))))))))
       ·refine Af (vF AA rfl C6 (vL 0 CG rfl (ob gw λgy gz g0=>BL Tryz.call33 (Qb F f.fText gy gz) rfl (wm rfl (wv (AC rfl rfl) (wv (AC rfl rfl) (wa rfl (wa rfl (Bb (wm rfl (wv (Bo rfl rfl) (Am (cz g0 rfl (λg1 g2=>?_) (λg1 g3=>?_))))))))))))))
        ·refine Af (wm rfl (wa rfl (Am (Aq (Ac ?_)))));obtain rfl:=Ao g2;exact Ap (Bs HC (A5 rfl)) (sS sN) ⟨rfl,rfl⟩
        ·refine At (AD (An (ck g3 λg4 g5=>ck g5 λg6 g7=>AE [(1,rP b1 0),(108,rB ((decide (f.fOp=6))&&((!(ov (Br f.fLow)))||((!(ov (Br f.fHigh)))||(decide (f.fHigh<f.fLow))))))] [.blk b1 (Ad f) 26] ?_ ?_)))
         ·refine Aj (vF AA rfl Bw (vL 0 Bx rfl (wv (AX rfl rfl) (wm rfl (AH (decide (f.fOp=6)) (λha=>?_) (λha=>?_))))))
          ·refine wo ha (vF AA rfl B3 (wo ha (vL 0 BG rfl (wo ha (BL OA (Ei f.fLow (ov (Br f.fLow)) (Cz (BE g4 ha))) rfl (wo ha (wv (Bu rfl) (wo ha (wm rfl (AH (!(ov (Br f.fLow))) (λhf=>?_) (λhf=>?_)))))))))))
           ·refine wf hf (wf hf (wf hf (wf hf (wo ha (wv (r:=rB true) (Av rfl hf rfl) (wo ha (wm rfl (wz rfl rfl (wz rfl rfl (wz rfl rfl (wz rfl rfl (wz rfl rfl (wo ha (wv (r:=rB true) (Av (b:=true) rfl rfl rfl) (BR rfl ha rfl (Ai ?_))))))))))))))));exact BD (And.intro ha hf)
           ·refine wo hf (vF AA rfl B3 (wo hf (vL 0 BG rfl (wo hf (BL OA (Ei f.fHigh (ov (Br f.fHigh)) (Cz (BO (BE g6 ha) hf))) rfl (wo hf (wv (Bu rfl) (wo ha (Cc rfl hf rfl (wo ha (wm rfl (AH (!(ov (Br f.fHigh))) (λhg=>?_) (λhg=>?_)))))))))))))
            ·refine wf hg (wf hg (wf hg (wf hg (wf hg (wo ha (wv (r:=rB true) (Av rfl hg rfl) (BR rfl ha rfl (Ai ?_))))))));exact BD (And.intro ha (And.intro hf hg))
            ·refine wo hg (vF AA rfl B3 (wo hg (vL 0 BG rfl (wo hg (vF AA rfl B3 (wo hg (vL 0 BG rfl (wo hg (wv (CB rfl rfl) (wo ha (Cc rfl hg rfl (BR rfl ha rfl (Ai ?_)))))))))))));exact BD (And.intro ha (And.intro hf hg))
          ·refine wf ha (wf ha (wf ha (wf ha (wf ha (wu (wu (wu (wu (wf ha (wf ha (wu (wu (wu (wu (wu (wf ha (wv (r:=rB false) (Ak rfl ha rfl) (Ai ?_))))))))))))))))));exact BD ha
         refine cz g7 rfl (λg8 g9=>?_) (λg8 gA=>?_)
         ·refine Af (wa rfl (Am (Aq (Ac ?_))));obtain rfl:=Ao g9;exact Ap (Bs HC (A5 rfl)) (sS sN) ⟨rfl,rfl⟩
         ·refine At (AD (An (Af (wv (AB (i:=0) BJ B1 rfl rfl rfl rfl) (ob gA λgB gC gD=>BL Tryz.call36 (Ja f gB gC) rfl (wv (Bu rfl) (Am (cz gD rfl (λc167 gE=>?_) (λc167 gF=>?_)))))))))
          ·refine Af (wa rfl (Am (Aq (Ac ?_))));obtain rfl:=Ao gE;exact Ap (Bs HC (A5 rfl)) (sS sN) ⟨rfl,rfl⟩
          ·refine At (AD (Af (wa rfl (Am (Aq ?_)))));obtain rfl:=Ao gF;exact Ap (Bs HC (A5 rfl)) (sS sN) ⟨rfl,rfl⟩
       ·refine At (AD (An (ck gx λgG gH=>ck gH λgI gJ=>AE [(1,rP b1 0),(108,rB ((decide (f.fOp=6))&&((!(ov (Br f.fLow)))||((!(ov (Br f.fHigh)))||(decide (f.fHigh<f.fLow))))))] [.blk b1 (Ad f) 26] ?_ ?_)))
        ·refine Aj (vF AA rfl Bw (vL 0 Bx rfl (wv (AX rfl rfl) (wm rfl (AH (decide (f.fOp=6)) (λc175=>?_) (λc175=>?_))))))
         ·refine wo c175 (vF AA rfl B3 (wo c175 (vL 0 BG rfl (wo c175 (BL OA (Ei f.fLow (ov (Br f.fLow)) (Cz (BE gG c175))) rfl (wo c175 (wv (Bu rfl) (wo c175 (wm rfl (AH (!(ov (Br f.fLow))) (λhh=>?_) (λhh=>?_)))))))))))
          ·refine wf hh (wf hh (wf hh (wf hh (wo c175 (wv (r:=rB true) (Av rfl hh rfl) (wo c175 (wm rfl (wz rfl rfl (wz rfl rfl (wz rfl rfl (wz rfl rfl (wz rfl rfl (wo c175 (wv (r:=rB true) (Av (b:=true) rfl rfl rfl) (BR rfl c175 rfl (Ai ?_))))))))))))))));exact BD (And.intro c175 hh)
          ·refine wo hh (vF AA rfl B3 (wo hh (vL 0 BG rfl (wo hh (BL OA (Ei f.fHigh (ov (Br f.fHigh)) (Cz (BO (BE gI c175) hh))) rfl (wo hh (wv (Bu rfl) (wo c175 (Cc rfl hh rfl (wo c175 (wm rfl (AH (!(ov (Br f.fHigh))) (λhi=>?_) (λhi=>?_)))))))))))))
           ·refine wf hi (wf hi (wf hi (wf hi (wf hi (wo c175 (wv (r:=rB true) (Av rfl hi rfl) (BR rfl c175 rfl (Ai ?_))))))));exact BD (And.intro c175 (And.intro hh hi))
           ·refine wo hi (vF AA rfl B3 (wo hi (vL 0 BG rfl (wo hi (vF AA rfl B3 (wo hi (vL 0 BG rfl (wo hi (wv (CB rfl rfl) (wo c175 (Cc rfl hi rfl (BR rfl c175 rfl (Ai ?_)))))))))))));exact BD (And.intro c175 (And.intro hh hi))
         ·refine wf c175 (wf c175 (wf c175 (wf c175 (wf c175 (wu (wu (wu (wu (wf c175 (wf c175 (wu (wu (wu (wu (wu (wf c175 (wv (r:=rB false) (Ak rfl c175 rfl) (Ai ?_))))))))))))))))));exact BD c175
        refine cz gJ rfl (λgK gL=>?_) (λgK gM=>?_)
        ·refine Af (wa rfl (Am (Aq (Ac ?_))));obtain rfl:=Ao gL;exact Ap (Bs HC (A5 rfl)) (sS sN) ⟨rfl,rfl⟩
        ·refine At (AD (An (Af (wv (AB (i:=0) BJ B1 rfl rfl rfl rfl) (ob gM λgN gO gP=>BL Tryz.call36 (Ja f gN gO) rfl (wv (Bu rfl) (Am (cz gP rfl (λgQ gR=>?_) (λgQ gS=>?_)))))))))
         ·refine Af (wa rfl (Am (Aq (Ac ?_))));obtain rfl:=Ao gR;exact Ap (Bs HC (A5 rfl)) (sS sN) ⟨rfl,rfl⟩
         ·refine At (AD (Af (wa rfl (Am (Aq ?_)))));obtain rfl:=Ao gS;exact Ap (Bs HC (A5 rfl)) (sS sN) ⟨rfl,rfl⟩
    ·refine At (AD (An (Af (vF AA rfl Bw (vL 0 Bx rfl (wv (AX rfl rfl) (Am (cz hT rfl (λgT gU=>?_) (λgT gV=>?_)))))))))
     ·refine Af (vF AA rfl C6 (vL 0 CG rfl (ob gU λgW gX gY=>BL Tryz.call33 (Qb F f.fText gW gX) rfl (wm rfl (wv (AC rfl rfl) (wv (AC rfl rfl) (wa rfl (wa rfl (Bb (wm rfl (wv (Bo rfl rfl) (Am (cz gY rfl (λgZ ca=>?_) (λgZ cb=>?_))))))))))))))
      ·refine Af (wm rfl (wa rfl (Am (Aq (Ac ?_)))));obtain rfl:=Ao ca;exact Ap (Bs HC (A5 rfl)) (sS sN) ⟨rfl,rfl⟩
      ·refine At (AD (An (ck cb λcc cd=>ck cd λce cf=>AE [(1,rP b1 0),(108,rB ((decide (f.fOp=6))&&((!(ov (Br f.fLow)))||((!(ov (Br f.fHigh)))||(decide (f.fHigh<f.fLow))))))] [.blk b1 (Ad f) 26] ?_ ?_)))
       ·refine Aj (vF AA rfl Bw (vL 0 Bx rfl (wv (AX rfl rfl) (wm rfl (AH (decide (f.fOp=6)) (λhb=>?_) (λhb=>?_))))))
        ·refine wo hb (vF AA rfl B3 (wo hb (vL 0 BG rfl (wo hb (BL OA (Ei f.fLow (ov (Br f.fLow)) (Cz (BE cc hb))) rfl (wo hb (wv (Bu rfl) (wo hb (wm rfl (AH (!(ov (Br f.fLow))) (λhj=>?_) (λhj=>?_)))))))))))
         ·refine wf hj (wf hj (wf hj (wf hj (wo hb (wv (r:=rB true) (Av rfl hj rfl) (wo hb (wm rfl (wz rfl rfl (wz rfl rfl (wz rfl rfl (wz rfl rfl (wz rfl rfl (wo hb (wv (r:=rB true) (Av (b:=true) rfl rfl rfl) (BR rfl hb rfl (Ai ?_))))))))))))))));exact BD (And.intro hb hj)
         ·refine wo hj (vF AA rfl B3 (wo hj (vL 0 BG rfl (wo hj (BL OA (Ei f.fHigh (ov (Br f.fHigh)) (Cz (BO (BE ce hb) hj))) rfl (wo hj (wv (Bu rfl) (wo hb (Cc rfl hj rfl (wo hb (wm rfl (AH (!(ov (Br f.fHigh))) (λhk=>?_) (λhk=>?_)))))))))))))
          ·refine wf hk (wf hk (wf hk (wf hk (wf hk (wo hb (wv (r:=rB true) (Av rfl hk rfl) (BR rfl hb rfl (Ai ?_))))))));exact BD (And.intro hb (And.intro hj hk))
          ·refine wo hk (vF AA rfl B3 (wo hk (vL 0 BG rfl (wo hk (vF AA rfl B3 (wo hk (vL 0 BG rfl (wo hk (wv (CB rfl rfl) (wo hb (Cc rfl hk rfl (BR rfl hb rfl (Ai ?_)))))))))))));exact BD (And.intro hb (And.intro hj hk))
        ·refine wf hb (wf hb (wf hb (wf hb (wf hb (wu (wu (wu (wu (wf hb (wf hb (wu (wu (wu (wu (wu (wf hb (wv (r:=rB false) (Ak rfl hb rfl) (Ai ?_))))))))))))))))));exact BD hb
       refine cz cf rfl (λcg ch=>?_) (λcg ci=>?_)
       ·refine Af (wa rfl (Am (Aq (Ac ?_))));obtain rfl:=Ao ch;exact Ap (Bs HC (A5 rfl)) (sS sN) ⟨rfl,rfl⟩
       ·refine At (AD (An (Af (wv (AB (i:=0) BJ B1 rfl rfl rfl rfl) (ob ci λcj cl cm=>BL Tryz.call36 (Ja f cj cl) rfl (wv (Bu rfl) (Am (cz cm rfl (λcn co=>?_) (λcn cp=>?_)))))))))
        ·refine Af (wa rfl (Am (Aq (Ac ?_))));obtain rfl:=Ao co;exact Ap (Bs HC (A5 rfl)) (sS sN) ⟨rfl,rfl⟩
        ·refine At (AD (Af (wa rfl (Am (Aq ?_)))));obtain rfl:=Ao cp;exact Ap (Bs HC (A5 rfl)) (sS sN) ⟨rfl,rfl⟩
     ·refine At (AD (An (ck gV λcq cr=>ck cr λcs ct=>AE [(1,rP b1 0),(108,rB ((decide (f.fOp=6))&&((!(ov (Br f.fLow)))||((!(ov (Br f.fHigh)))||(decide (f.fHigh<f.fLow))))))] [.blk b1 (Ad f) 26] ?_ ?_)))
      ·refine Aj (vF AA rfl Bw (vL 0 Bx rfl (wv (AX rfl rfl) (wm rfl (AH (decide (f.fOp=6)) (λhe=>?_) (λhe=>?_))))))
       ·refine wo he (vF AA rfl B3 (wo he (vL 0 BG rfl (wo he (BL OA (Ei f.fLow (ov (Br f.fLow)) (Cz (BE cq he))) rfl (wo he (wv (Bu rfl) (wo he (wm rfl (AH (!(ov (Br f.fLow))) (λhl=>?_) (λhl=>?_)))))))))))
        ·refine wf hl (wf hl (wf hl (wf hl (wo he (wv (r:=rB true) (Av rfl hl rfl) (wo he (wm rfl (wz rfl rfl (wz rfl rfl (wz rfl rfl (wz rfl rfl (wz rfl rfl (wo he (wv (r:=rB true) (Av (b:=true) rfl rfl rfl) (BR rfl he rfl (Ai ?_))))))))))))))));exact BD (And.intro he hl)
        ·refine wo hl (vF AA rfl B3 (wo hl (vL 0 BG rfl (wo hl (BL OA (Ei f.fHigh (ov (Br f.fHigh)) (Cz (BO (BE cs he) hl))) rfl (wo hl (wv (Bu rfl) (wo he (Cc rfl hl rfl (wo he (wm rfl (AH (!(ov (Br f.fHigh))) (λhm=>?_) (λhm=>?_)))))))))))))
         ·refine wf hm (wf hm (wf hm (wf hm (wf hm (wo he (wv (r:=rB true) (Av rfl hm rfl) (BR rfl he rfl (Ai ?_))))))));exact BD (And.intro he (And.intro hl hm))
         ·refine wo hm (vF AA rfl B3 (wo hm (vL 0 BG rfl (wo hm (vF AA rfl B3 (wo hm (vL 0 BG rfl (wo hm (wv (CB rfl rfl) (wo he (Cc rfl hm rfl (BR rfl he rfl (Ai ?_)))))))))))));exact BD (And.intro he (And.intro hl hm))
       ·refine wf he (wf he (wf he (wf he (wf he (wu (wu (wu (wu (wf he (wf he (wu (wu (wu (wu (wu (wf he (wv (r:=rB false) (Ak rfl he rfl) (Ai ?_))))))))))))))))));exact BD he
      refine cz ct rfl (λcu cv=>?_) (λcu cw=>?_)
      ·refine Af (wa rfl (Am (Aq (Ac ?_))));obtain rfl:=Ao cv;exact Ap (Bs HC (A5 rfl)) (sS sN) ⟨rfl,rfl⟩
      ·refine At (AD (An (Af (wv (AB (i:=0) BJ B1 rfl rfl rfl rfl) (ob cw λcx cy c0=>BL Tryz.call36 (Ja f cx cy) rfl (wv (Bu rfl) (Am (cz c0 rfl (λc1 c3=>?_) (λc1 c4=>?_)))))))))
       ·refine Af (wa rfl (Am (Aq (Ac ?_))));obtain rfl:=Ao c3;exact Ap (Bs HC (A5 rfl)) (sS sN) ⟨rfl,rfl⟩
       ·refine At (AD (Af (wa rfl (Am (Aq ?_)))));obtain rfl:=Ao c4;exact Ap (Bs HC (A5 rfl)) (sS sN) ⟨rfl,rfl⟩
theorem If (F:Nat)(v:(List Aa))(l:(List (List Aa)))(r:Bool)(h:CV F v l=some r):Fn Tryz.prog GE 39 [AJ 4 (A2 Ab v),AJ 1 (A2 Ae l)] [] (λR H=>R=rB r∧H=[]):=by
 refine enter (n:=18) Tryz.func39 rfl Tryz.ntmps39 rfl (λw Z=>?_);unfold CV at h;refine Af (wa rfl (Am (An (Af (wm rfl (wv (AK (ys:=l) (enc:=Ae) Cd rfl) (wv (r:=Al 0) (A3 rfl) (Am (A6 (ob h λhh hi hg=>Bd (S:=Nat×(Int)×(Unit)) (V:=(Unit)×(Unit)) 0 (λσ=>Cf (λσ=>Er F v l σ) σ.1 σ.2.1=some hh) (λσ=>[(0,AJ 4 (A2 Ab v)),(1,AJ 1 (A2 Ae l)),(7,Al (l.length:Int)),(8,Al σ.2.1)]) (λσ=>[]) (λσ=>σ.1) (F,0,()) hi (Az.c rfl (Az.c rfl (Az.c rfl (Az.c rfl Az.nil)))) sN (λσ=>EM =some r) (λσ=>[]) (λσ=>[]) ?_ ?_))))))))))
 ·rintro⟨h3,ha,⟨⟩⟩ hj;refine B7 (l':=[(0,AJ 4 (A2 Ab v)),(1,AJ 1 (A2 Ae l)),(7,Al (l.length:Int)),(8,Al ha)]) (H':=[]) rfl rfl ?_;obtain⟨hk,rfl,hl,hb,hf⟩:=Ca hj;replace hb:Er F v l ha=some hl:=hb;unfold Er at hb;refine Af (wv (Cl rfl rfl) (Am (An (cz hb rfl (λhm hn=>?_) (λhm ho=>?_)))))
  ·refine At (AD (An (A6 (Af (wm rfl (wa rfl (Bb (wm rfl (wm rfl (wm rfl (ck hn λhp hq=>wv (AU (enc:=Ae) (ys:=l) Cd Co rfl rfl hp) (wv (AM CS rfl rfl) (ob hq λhr hs ht=>BL Tryz.call83 (Us F v (Ax l ha) hr hs) rfl (Am (cz ht rfl (λhu hw=>?_) (λhu hx=>?_))))))))))))))))
   ·refine Af (wa rfl (Am (Aq (Au (Ac (Ac (AP ?_)))))));have hy:=Bg hw hf hg;refine Au (Ac ?_);obtain rfl:=Ao hy;exact Ap (Bs Tryz.results39 (A5 rfl)) sN ⟨rfl,rfl⟩
   ·refine At (A4 (AD (Aj (ck hx λhz h0=>wv (Be rfl rfl hz) (wm rfl (Ai ?_))))));have h1:=AW h0 hf;exact As (Ar (hk,ha+1,()) ⟨h1,X0 _⟩ (Az.c rfl (Az.c rfl (Az.c rfl (Az.c rfl Az.nil)))) sN)
  ·refine Bl (Ay ?_);have h2:=BB ho hf hg;exact Ay (AS (Ar ((),()) h2 Az.nil sN))
 ·rintro⟨⟨⟩,⟨⟩⟩ he;refine Ce (l':=[]) (H':=[]) rfl rfl ?_;replace he:EM =some r:=he;unfold EM at he;refine AV (AD (Af (wa rfl (Am (Aq ?_)))));obtain rfl:=Ao he;exact Ap (Bs Tryz.results39 (A5 rfl)) sN ⟨rfl,rfl⟩
theorem N1 (s:Aw)(pre:Aw)(r:Bool)(h:Ec s pre=some r):Fn Tryz.prog GE 70 [rS s,rS pre] [] (λR H=>R=rB r∧H=[]):=by
 refine enter (n:=18) Tryz.func70 rfl Tryz.ntmps70 rfl (λw Z=>?_);unfold Ec at h;refine Af (wa rfl (Am (ck h λg1 h2=>AE [(4,rB ((decide ((pre.length:Int)≤(s.length:Int)))&&(decide ((List.take (B0 (pre.length:Int)) s)=pre))))] [] ?_ ?_)))
 ·refine Aj (wm rfl (wv (BP D4 rfl) (wm rfl (wv (BP D4 rfl) (wv (EI rfl rfl) (wm rfl (AH (decide ((pre.length:Int)≤(s.length:Int))) (λc3=>?_) (λc3=>?_))))))))
  ·refine wo c3 (wm rfl (wo c3 (wm rfl (wo c3 (wv (BP D4 rfl) (wo c3 (wv (Jv D4 rfl rfl (BE g1 c3)) (wo c3 (wm rfl (wo c3 (wv (DT rfl rfl) (BR rfl c3 rfl (wa rfl (Ai ?_))))))))))))));exact BD c3
  ·refine wf c3 (wf c3 (wf c3 (wf c3 (wf c3 (wf c3 (wv (r:=rB false) (Ak rfl c3 rfl) (wa rfl (Ai ?_))))))));exact BD c3
 refine Aq ?_;obtain rfl:=Ao h2;exact Ap (Bs Tryz.results70 (A5 rfl)) sN ⟨rfl,rfl⟩
theorem Ep (v:(List Aa))(pre:Aw)(r:Bool)(h:Ci v pre=some r):Fn Tryz.prog GE 40 [AJ 4 (A2 Ab v),rS pre] [] (λR H=>R=rB r∧H=[]):=by
 refine enter (n:=23) Tryz.func40 rfl Tryz.ntmps40 rfl (λw Z=>?_);unfold Ci at h;refine Af (wa rfl (Am (ck h λg1 h2=>ck h2 λg3 h4=>AE [(4,rB ((decide ((v.length:Int)=1))&&((decide (((Ax v 0).fKind)=4))&&(ov (Ec ((Ax v 0).fStr) pre)))))] [] ?_ ?_)))
 ·refine Aj (wm rfl (wv (AK (ys:=v) (enc:=Ab) Bv rfl) (wv (AX rfl rfl) (wm rfl (AH (decide ((v.length:Int)=1)) (λc5=>?_) (λc5=>?_))))))
  ·refine wo c5 (wm rfl (wo c5 (wv (AU (enc:=Ab) (ys:=v) Bv BC rfl rfl (BE g1 c5)) (wo c5 (wv (AR Bm rfl CF rfl rfl) (wo c5 (wv (AM CR rfl rfl) (wo c5 (wv (AX rfl rfl) (BR rfl c5 rfl (wm rfl (AH (decide (((Ax v 0).fKind)=4)) (λc6=>?_) (λc6=>?_)))))))))))))
   ·refine wo c6 (wm rfl (wo c6 (wv (AU (enc:=Ab) (ys:=v) Bv BC rfl rfl (BE g1 c5)) (wo c6 (wv (AR Bm rfl C6 rfl rfl) (wo c6 (wv (AM CG rfl rfl) (wo c6 (wm rfl (wo c6 (BL Tryz.call70 (N1 ((Ax v 0).fStr) pre (ov (Ec ((Ax v 0).fStr) pre)) (Cz (BE (BE g3 c5) c6))) rfl (BR rfl c6 rfl (wa rfl (Ai ?_))))))))))))));exact BD (And.intro c5 c6)
   ·refine wf c6 (wf c6 (wf c6 (wf c6 (wf c6 (wf c6 (wv (r:=rB false) (Ak rfl c6 rfl) (wa rfl (Ai ?_))))))));exact BD (And.intro c5 c6)
  ·refine wf c5 (wf c5 (wf c5 (wf c5 (wf c5 (wv (r:=rB false) (Ak rfl c5 rfl) (wm rfl (wz rfl rfl (wz rfl rfl (wz rfl rfl (wz rfl rfl (wz rfl rfl (wz rfl rfl (wv (r:=rB false) (Ak (b:=false) rfl rfl rfl) (wa rfl (Ai ?_)))))))))))))));exact BD c5
 refine Aq ?_;obtain rfl:=Ao h4;exact Ap (Bs Tryz.results40 (A5 rfl)) sN ⟨rfl,rfl⟩
theorem C5 (v:(List Aa))(low:Int)(high:Int)(r:Bool)(h:B8 v low high=some r):Fn Tryz.prog GE 41 [AJ 4 (A2 Ab v),Al low,Al high] [] (λR H=>R=rB r∧H=[]):=by
 refine enter (n:=33) Tryz.func41 rfl Tryz.ntmps41 rfl (λw Z=>?_);unfold B8 at h;refine Af (wa rfl (Am (ck h λg1 h2=>AE [(6,rB ((decide ((v.length:Int)=1))&&((decide (((Ax v 0).fKind)=3))&&((decide (low≤((Ax v 0).fInt)))&&(decide (((Ax v 0).fInt)≤high))))))] [] ?_ ?_)))
 ·refine Aj (wm rfl (wv (AK (ys:=v) (enc:=Ab) Bv rfl) (wv (AX rfl rfl) (wm rfl (AH (decide ((v.length:Int)=1)) (λc3=>?_) (λc3=>?_))))))
  ·refine wo c3 (wm rfl (wo c3 (wv (AU (enc:=Ab) (ys:=v) Bv BC rfl rfl (BE g1 c3)) (wo c3 (wv (AR Bm rfl CF rfl rfl) (wo c3 (wv (AM CR rfl rfl) (wo c3 (wv (AX rfl rfl) (BR rfl c3 rfl (wm rfl (AH (decide (((Ax v 0).fKind)=3)) (λc4=>?_) (λc4=>?_)))))))))))))
   ·refine wo c4 (wm rfl (wo c4 (wv (AU (enc:=Ab) (ys:=v) Bv BC rfl rfl (BE g1 c3)) (wo c4 (wv (AR Bm rfl B3 rfl rfl) (wo c4 (wv (AM BG rfl rfl) (wo c4 (wm rfl (wo c4 (wv (EI rfl rfl) (BR rfl c4 rfl (wm rfl (AH (decide (low≤((Ax v 0).fInt))) (λc5=>?_) (λc5=>?_)))))))))))))))
    ·refine wo c5 (wm rfl (wo c5 (wv (AU (enc:=Ab) (ys:=v) Bv BC rfl rfl (BE g1 c3)) (wo c5 (wv (AR Bm rfl B3 rfl rfl) (wo c5 (wv (AM BG rfl rfl) (wo c5 (wm rfl (wo c5 (wv (JY rfl rfl) (BR rfl c5 rfl (wa rfl (Ai ?_))))))))))))));exact BD (And.intro c3 (And.intro c4 c5))
    ·refine wf c5 (wf c5 (wf c5 (wf c5 (wf c5 (wf c5 (wv (r:=rB false) (Ak rfl c5 rfl) (wa rfl (Ai ?_))))))));exact BD (And.intro c3 (And.intro c4 c5))
   ·refine wf c4 (wf c4 (wf c4 (wf c4 (wf c4 (wf c4 (wv (r:=rB false) (Ak rfl c4 rfl) (wm rfl (wz rfl rfl (wz rfl rfl (wz rfl rfl (wz rfl rfl (wz rfl rfl (wz rfl rfl (wv (r:=rB false) (Ak (b:=false) rfl rfl rfl) (wa rfl (Ai ?_))))))))))))))));exact BD (And.intro c3 c4)
  ·refine wf c3 (wf c3 (wf c3 (wf c3 (wf c3 (wv (r:=rB false) (Ak rfl c3 rfl) (wm rfl (wz rfl rfl (wz rfl rfl (wz rfl rfl (wz rfl rfl (wz rfl rfl (wz rfl rfl (wv (r:=rB false) (Ak (b:=false) rfl rfl rfl) (wm rfl (wz rfl rfl (wz rfl rfl (wz rfl rfl (wz rfl rfl (wz rfl rfl (wz rfl rfl (wv (r:=rB false) (Ak (b:=false) rfl rfl rfl) (wa rfl (Ai ?_)))))))))))))))))))))));exact BD c3
 refine Aq ?_;obtain rfl:=Ao h2;exact Ap (Bs Tryz.results41 (A5 rfl)) sN ⟨rfl,rfl⟩
theorem GI (F:Nat)(a:(List Aw))(b:(List Aw))(r:Bool)(h:Ck F a b=some r):Fn Tryz.prog GE 63 [AJ 1 (A2 eS a),AJ 1 (A2 eS b)] [] (λR H=>R=rB r∧H=[]):=by
 refine enter (n:=26) Tryz.func63 rfl Tryz.ntmps63 rfl (λw Z=>?_);unfold Ck at h;refine Af (wa rfl (Am (An (Af (wm rfl (wv (AK (ys:=a) (enc:=eS) Dc rfl) (wm rfl (wv (AK (ys:=b) (enc:=eS) Dc rfl) (wv (Cl rfl rfl) (Am (cz h rfl (λc1 h2=>?_) (λc1 h3=>?_))))))))))))
 ·refine Af (wa rfl (Am (Aq (Ac ?_))));obtain rfl:=Ao h2;exact Ap (Bs Tryz.results63 (A5 rfl)) sN ⟨rfl,rfl⟩
 ·refine At (AD (An (Af (wm rfl (wv (AK (ys:=b) (enc:=eS) Dc rfl) (wv (r:=Al 0) (A3 rfl) (Am (A6 (ob h3 λhh hi hg=>Bd (S:=Nat×(Int)×(Unit)) (V:=(Unit)×(Unit)) 0 (λσ=>Cf (λσ=>CO a b σ) σ.1 σ.2.1=some hh) (λσ=>[(0,AJ 1 (A2 eS a)),(1,AJ 1 (A2 eS b)),(12,Al (b.length:Int)),(13,Al σ.2.1)]) (λσ=>[]) (λσ=>σ.1) (F,0,()) hi (Az.c rfl (Az.c rfl (Az.c rfl (Az.c rfl Az.nil)))) sN (λσ=>Ey =some r) (λσ=>[]) (λσ=>[]) ?_ ?_)))))))))
  ·rintro⟨h4,ha,⟨⟩⟩ hj;refine B7 (l':=[(0,AJ 1 (A2 eS a)),(1,AJ 1 (A2 eS b)),(12,Al (b.length:Int)),(13,Al ha)]) (H':=[]) rfl rfl ?_;obtain⟨hk,rfl,hl,hb,hf⟩:=Ca hj;replace hb:CO a b ha=some hl:=hb;unfold CO at hb;refine Af (wv (Cl rfl rfl) (Am (An (cz hb rfl (λhm hn=>?_) (λhm ho=>?_)))))
   ·refine At (AD (An (A6 (Af (wm rfl (wa rfl (Am (An (ck hn λhp hq=>ck hq λhr hs=>C7 [0,1,5,12,13] [⟨[],AJ 1 (A2 eS a),0⟩,⟨[],Al ha,0⟩,⟨[0,1],J0 [rS (Ax a ha)],0⟩,⟨[2],rS (Ax a ha),0⟩,⟨[],AJ 1 (A2 eS b),0⟩,⟨[],Al ha,0⟩,⟨[4,5],J0 [rS (Ax b ha)],0⟩,⟨[6],rS (Ax b ha),0⟩,⟨[3,7],rB (!decide ((Ax a ha)=(Ax b ha))),0⟩] [24,0,1,12,13] ?_ ?_)))))))))
    ·refine oq (A3 rfl) (oq (A3 rfl) (oq (AU (enc:=eS) (ys:=a) Dc C6 rfl rfl hp) (oq (AM CG rfl rfl) (oq (A3 rfl) (oq (A3 rfl) (oq (AU (enc:=eS) (ys:=b) Dc C6 rfl rfl hr) (oq (AM CG rfl rfl) (oq (EH rfl rfl) ?_))))))));exact Cr
    refine AD (cz hs rfl (λht hu=>?_) (λht hw=>?_))
    ·refine Af (wa rfl (Am (Aq (Au (Ac (Ac (AP ?_)))))));have hx:=Bg hu hf hg;refine Au (Ac ?_);obtain rfl:=Ao hx;exact Ap (Bs Tryz.results63 (A5 rfl)) sN ⟨rfl,rfl⟩
    ·refine At (A4 (AD (Aj (ck hw λhy hz=>wv (Be rfl rfl hy) (wm rfl (Ai ?_))))));have h0:=AW hz hf;exact As (Ar (hk,ha+1,()) ⟨h0,X0 _⟩ (Az.c rfl (Az.c rfl (Az.c rfl (Az.c rfl Az.nil)))) sN)
   ·refine Bl (Ay ?_);have h1:=BB ho hf hg;exact Ay (AS (Ar ((),()) h1 Az.nil sN))
  ·rintro⟨⟨⟩,⟨⟩⟩ he;refine Ce (l':=[]) (H':=[]) rfl rfl ?_;replace he:Ey =some r:=he;unfold Ey at he;refine AV (AD (Af (wa rfl (Am (Aq ?_)))));obtain rfl:=Ao he;exact Ap (Bs Tryz.results63 (A5 rfl)) sN ⟨rfl,rfl⟩
theorem Py (F:Nat)(a:Ah)(b:Ah)(r:Bool)(h:H7 F a b=some r):Fn Tryz.prog GE 68 [Bt (Ad a),Bt (Ad b)] [] (λR H=>R=rB r∧H=[]):=by
 refine enter (n:=66) Tryz.func68 rfl Tryz.ntmps68 rfl (λw Z=>?_);unfold H7 at h;refine Af (Bq rfl rfl (λb1=>?_));refine Bq rfl rfl (λb2=>?_);refine wa rfl (Am (An (Af (vF AA rfl C9 (vL 1 CI rfl (wv (AK (ys:=a.fValues) (enc:=Ae) Cd rfl) (wv (r:=Al 0) (A3 rfl) (Am (A6 (ob h λhJ hK h9=>Bd (S:=Nat×(Int)×(Unit)) (V:=(Unit)×(Unit)) 0 (λσ=>Cf (λσ=>DK F a b σ) σ.1 σ.2.1=some hJ) (λσ=>[(2,rP b1 0),(3,rP b2 0),(9,Al (a.fValues.length:Int)),(10,Al σ.2.1)]) (λσ=>[.blk b2 (Ad b) 26,.blk b1 (Ad a) 26]) (λσ=>σ.1) (F,0,()) hK (Az.c rfl (Az.c rfl (Az.c rfl (Az.c rfl Az.nil)))) (sC (sC sN)) (λσ=>Ez =some r) (λσ=>[]) (λσ=>[]) ?_ ?_))))))))))
 ·rintro⟨cv,ha,⟨⟩⟩ hL;refine B7 (l':=[(2,rP b1 0),(3,rP b2 0),(9,Al (a.fValues.length:Int)),(10,Al ha)]) (H':=[.blk b2 (Ad b) 26,.blk b1 (Ad a) 26]) rfl rfl ?_;obtain⟨hN,rfl,h3,h0,h4⟩:=Ca hL;replace h0:DK F a b ha=some h3:=h0;unfold DK at h0;refine Af (wv (Cl rfl rfl) (Am (An (cz h0 rfl (λhO hP=>?_) (λhO hQ=>?_)))))
  ·refine At (AD (An (A6 (Af (wm rfl (wa rfl (Bb (vF AA rfl C9 (vL 1 CI rfl (wm rfl (ck hP λhR hS=>wv (AU (enc:=Ae) (ys:=a.fValues) Cd Co rfl rfl hR) (wv (AM CS rfl rfl) (wa rfl (Am (BX (S:=(Bool)×(Unit)) (λσ=>Bj ha σ.1=some h3) (λσ=>[(2,rP b1 0),(3,rP b2 0),(9,Al (a.fValues.length:Int)),(10,Al ha),(64,rB σ.1)]) (λσ=>[.blk b2 (Ad b) 26,.blk b1 (Ad a) 26]) ?_ ?_)))))))))))))))
   ·refine Aj (vF AA rfl Bw (vL 0 Bx rfl (wv (AX rfl rfl) (wm rfl (bz hS (λhs hT=>?_) (λhs hU=>?_))))))
    ·refine wo hs (wm rfl (wo hs (vF AA rfl C9 (wo hs (vL 0 CI rfl (wo hs (ob hT λhV hW hX=>BL Tryz.call39 (If F (Ax a.fValues ha) b.fValues hV hW) rfl (wo hs (wv (Bu rfl) (BR rfl hs rfl (wm rfl (bz hX (λhl hY=>?_) (λhl hZ=>?_)))))))))))))
     ·refine wf hl (wf hl (wf hl (wf hl (wu (wu (wu (wu (wf hl (wv (r:=rB true) (Av rfl hl rfl) (wm rfl (wz rfl rfl (wz rfl rfl (wz rfl rfl (wz rfl rfl (wu (wu (wu (wu (wu (wz rfl rfl (wv (r:=rB true) (Av (b:=true) rfl rfl rfl) (wm rfl (wz rfl rfl ?_)))))))))))))))))))))));exact wz rfl rfl (wz rfl rfl (wz rfl rfl (wu (wu (wu (wu (wu (wu (wu (wz rfl rfl (wv (r:=rB true) (Av (b:=true) rfl rfl rfl) (Ai (As (Ar (true,()) hY (Az.c5 rfl rfl rfl rfl rfl Az.nil) (sC (sC sN))))))))))))))))
     ·refine wo hl (vF AA rfl Bw (wo hl (vL 0 Bx rfl (wo hl (wv (AX rfl rfl) (wo hl (wm rfl (bz hZ (λhy ga=>?_) (λhy gb=>?_)))))))))
      ·refine wo hy (wm rfl (wo hy (vF AA rfl C9 (wo hy (vL 0 CI rfl (wo hy (ob ga λgc gd ge=>BL Tryz.call39 (If F (Ax a.fValues ha) b.fValues gc gd) rfl (wo hl (BR rfl hy rfl (Cc rfl hl rfl (wm rfl (bz ge (λhm gf=>?_) (λhm gg=>?_)))))))))))))
       ·refine wf hm (wf hm (wf hm (wf hm (wu (wu (wu (wu (wu (wf hm (wv (r:=rB true) (Av rfl hm rfl) (wm rfl (wz rfl rfl (wz rfl rfl (wz rfl rfl (wz rfl rfl (wu (wu (wu (wu (wu (wu (wu (wz rfl rfl ?_)))))))))))))))))))))));exact wv (r:=rB true) (Av (b:=true) rfl rfl rfl) (Ai (As (Ar (true,()) gf (Az.c5 rfl rfl rfl rfl rfl Az.nil) (sC (sC sN)))))
       ·refine wo hm (vF AA rfl Bw (wo hm (vL 0 Bx rfl (wo hm (wv (AX rfl rfl) (wo hm (wm rfl (bz gg (λht gh=>?_) (λht gi=>?_)))))))))
        ·refine wo ht (wm rfl (wo ht (vF AA rfl C6 (wo ht (vL 0 CG rfl (wo ht (ob gh λgj gl gm=>BL Rw (Ep (Ax a.fValues ha) b.fText gj gl) rfl (wo ht (wv (Bu rfl) (wo hm (BR rfl ht rfl (Cc rfl hm rfl (wm rfl (bz gm (λhn gp=>?_) (λhn gq=>?_)))))))))))))))
         ·exact wf hn (wf hn (wf hn (wf hn (wu (wu (wu (wu (wu (wu (wu (wf hn (wv (r:=rB true) (Av rfl hn rfl) (Ai (As (Ar (true,()) gp (Az.c5 rfl rfl rfl rfl rfl Az.nil) (sC (sC sN)))))))))))))))))
         ·refine wo hn (vF AA rfl Bw (wo hn (vL 0 Bx rfl (wo hn (wv (AX rfl rfl) (wo hn (wm rfl (bz gq (λhb gr=>?_) (λhb gs=>?_)))))))))
          ·exact wo hb (wm rfl (wo hb (vF AA rfl B3 (wo hb (vL 0 BG rfl (wo hb (vF AA rfl B3 (wo hb (vL 0 BG rfl (wo hb (ob gr λhA gt gu=>BL Ls (C5 (Ax a.fValues ha) b.fLow b.fHigh hA gt) rfl (wo hb (wv (Bu rfl) (wo hn (BR rfl hb rfl (Cc rfl hn rfl (Ai (As (Ar (!hA,()) gu (Az.c5 rfl rfl rfl rfl rfl Az.nil) (sC (sC sN)))))))))))))))))))))
          ·exact wf hb (wf hb (wf hb (wf hb (wf hb (wf hb (wf hb (wo hn (wv (r:=rB false) (Ak rfl hb rfl) (Cc rfl hn rfl (Ai (As (Ar (false,()) gs (Az.c5 rfl rfl rfl rfl rfl Az.nil) (sC (sC sN))))))))))))))
        ·refine wf ht (wf ht (wf ht (wf ht (wf ht (wo hm (wv (r:=rB false) (Ak rfl ht rfl) (Cc rfl hm rfl (wm rfl (AF (b:=false) rfl rfl rfl (vF AA rfl Bw (AF (b:=false) rfl rfl rfl (vL 0 Bx rfl (AF (b:=false) rfl rfl rfl (wv (AX rfl rfl) (AF (b:=false) rfl rfl rfl (wm rfl (bz gi (λhe gv=>?_) (λhe gw=>?_))))))))))))))))))
         ·exact wo he (wm rfl (wo he (vF AA rfl B3 (wo he (vL 0 BG rfl (wo he (vF AA rfl B3 (wo he (vL 0 BG rfl (wo he (ob gv λh5 gx gy=>BL Ls (C5 (Ax a.fValues ha) b.fLow b.fHigh h5 gx) rfl (wo he (wv (Bu rfl) (AF (b:=false) rfl rfl rfl (BR rfl he rfl (wv (r:=rB (!h5)) (Ak (b:=false) rfl rfl rfl) (Ai (As (Ar (!h5,()) gy (Az.c5 rfl rfl rfl rfl rfl Az.nil) (sC (sC sN)))))))))))))))))))))
         ·exact wf he (wf he (wf he (wf he (wf he (wf he (wf he (AF (b:=false) rfl rfl rfl (wv (r:=rB false) (Ak rfl he rfl) (wv (r:=rB false) (Ak (b:=false) rfl rfl rfl) (Ai (As (Ar (false,()) gw (Az.c5 rfl rfl rfl rfl rfl Az.nil) (sC (sC sN))))))))))))))
      ·refine wf hy (wf hy (wf hy (wf hy (wo hl (wv (r:=rB false) (Ak rfl hy rfl) (Cc rfl hl rfl (wm rfl (AF (b:=false) rfl rfl rfl (vF AA rfl Bw (AF (b:=false) rfl rfl rfl (vL 0 Bx rfl (AF (b:=false) rfl rfl rfl (wv (AX rfl rfl) (AF (b:=false) rfl rfl rfl (wm rfl (bz gb (λhu gz=>?_) (λhu g0=>?_)))))))))))))))))
       ·refine wo hu (wm rfl (wo hu (vF AA rfl C6 (wo hu (vL 0 CG rfl (wo hu (ob gz λhB g1 g2=>BL Rw (Ep (Ax a.fValues ha) b.fText hB g1) rfl (wo hu (wv (Bu rfl) (AF (b:=false) rfl rfl rfl (BR rfl hu rfl (wv (r:=rB (!hB)) (Ak (b:=false) rfl rfl rfl) (wm rfl (bz g2 (λho g3=>?_) (λho g4=>?_)))))))))))))))
        ·exact wf ho (wf ho (wf ho (wf ho (wu (wu (wu (wu (wu (wu (wu (wf ho (wv (r:=rB true) (Av rfl ho rfl) (Ai (As (Ar (true,()) g3 (Az.c5 rfl rfl rfl rfl rfl Az.nil) (sC (sC sN)))))))))))))))))
        ·refine wo ho (vF AA rfl Bw (wo ho (vL 0 Bx rfl (wo ho (wv (AX rfl rfl) (wo ho (wm rfl (bz g4 (λhf g5=>?_) (λhf g6=>?_)))))))))
         ·exact wo hf (wm rfl (wo hf (vF AA rfl B3 (wo hf (vL 0 BG rfl (wo hf (vF AA rfl B3 (wo hf (vL 0 BG rfl (wo hf (ob g5 λhC g7 g8=>BL Ls (C5 (Ax a.fValues ha) b.fLow b.fHigh hC g7) rfl (wo hf (wv (Bu rfl) (wo ho (BR rfl hf rfl (Cc rfl ho rfl (Ai (As (Ar (!hC,()) g8 (Az.c5 rfl rfl rfl rfl rfl Az.nil) (sC (sC sN)))))))))))))))))))))
         ·exact wf hf (wf hf (wf hf (wf hf (wf hf (wf hf (wf hf (wo ho (wv (r:=rB false) (Ak rfl hf rfl) (Cc rfl ho rfl (Ai (As (Ar (false,()) g6 (Az.c5 rfl rfl rfl rfl rfl Az.nil) (sC (sC sN))))))))))))))
       ·refine wf hu (wf hu (wf hu (wf hu (wf hu (AF (b:=false) rfl rfl rfl (wv (r:=rB false) (Ak rfl hu rfl) (wv (r:=rB false) (Ak (b:=false) rfl rfl rfl) (wm rfl (AF (b:=false) rfl rfl rfl (vF AA rfl Bw (AF (b:=false) rfl rfl rfl (vL 0 Bx rfl (AF (b:=false) rfl rfl rfl (wv (AX rfl rfl) (AF (b:=false) rfl rfl rfl (wm rfl (bz g0 (λhg g9=>?_) (λhg gA=>?_))))))))))))))))))
        ·exact wo hg (wm rfl (wo hg (vF AA rfl B3 (wo hg (vL 0 BG rfl (wo hg (vF AA rfl B3 (wo hg (vL 0 BG rfl (wo hg (ob g9 λh6 gB gC=>BL Ls (C5 (Ax a.fValues ha) b.fLow b.fHigh h6 gB) rfl (wo hg (wv (Bu rfl) (AF (b:=false) rfl rfl rfl (BR rfl hg rfl (wv (r:=rB (!h6)) (Ak (b:=false) rfl rfl rfl) (Ai (As (Ar (!h6,()) gC (Az.c5 rfl rfl rfl rfl rfl Az.nil) (sC (sC sN)))))))))))))))))))))
        ·exact wf hg (wf hg (wf hg (wf hg (wf hg (wf hg (wf hg (AF (b:=false) rfl rfl rfl (wv (r:=rB false) (Ak rfl hg rfl) (wv (r:=rB false) (Ak (b:=false) rfl rfl rfl) (Ai (As (Ar (false,()) gA (Az.c5 rfl rfl rfl rfl rfl Az.nil) (sC (sC sN))))))))))))))
    ·refine wf hs (wf hs (wf hs (wf hs (wf hs (wv (r:=rB false) (Ak rfl hs rfl) (wm rfl (AF (b:=false) rfl rfl rfl (vF AA rfl Bw (AF (b:=false) rfl rfl rfl (vL 0 Bx rfl (AF (b:=false) rfl rfl rfl (wv (AX rfl rfl) (AF (b:=false) rfl rfl rfl (wm rfl (bz hU (λhz gD=>?_) (λhz gE=>?_))))))))))))))))
     ·refine wo hz (wm rfl (wo hz (vF AA rfl C9 (wo hz (vL 0 CI rfl (wo hz (ob gD λhD gF gG=>BL Tryz.call39 (If F (Ax a.fValues ha) b.fValues hD gF) rfl (AF (b:=false) rfl rfl rfl (BR rfl hz rfl (wv (r:=rB hD) (Ak (b:=false) rfl rfl rfl) (wm rfl (bz gG (λhp gH=>?_) (λhp gI=>?_)))))))))))))
      ·refine wf hp (wf hp (wf hp (wf hp (wu (wu (wu (wu (wu (wf hp (wv (r:=rB true) (Av rfl hp rfl) (wm rfl (wz rfl rfl (wz rfl rfl (wz rfl rfl (wz rfl rfl (wu (wu (wu (wu (wu (wu (wu (wz rfl rfl ?_)))))))))))))))))))))));exact wv (r:=rB true) (Av (b:=true) rfl rfl rfl) (Ai (As (Ar (true,()) gH (Az.c5 rfl rfl rfl rfl rfl Az.nil) (sC (sC sN)))))
      ·refine wo hp (vF AA rfl Bw (wo hp (vL 0 Bx rfl (wo hp (wv (AX rfl rfl) (wo hp (wm rfl (bz gI (λhw gJ=>?_) (λhw gK=>?_)))))))))
       ·refine wo hw (wm rfl (wo hw (vF AA rfl C6 (wo hw (vL 0 CG rfl (wo hw (ob gJ λgL gM gN=>BL Rw (Ep (Ax a.fValues ha) b.fText gL gM) rfl (wo hw (wv (Bu rfl) (wo hp (BR rfl hw rfl (Cc rfl hp rfl (wm rfl (bz gN (λhq gO=>?_) (λhq gP=>?_)))))))))))))))
        ·exact wf hq (wf hq (wf hq (wf hq (wu (wu (wu (wu (wu (wu (wu (wf hq (wv (r:=rB true) (Av rfl hq rfl) (Ai (As (Ar (true,()) gO (Az.c5 rfl rfl rfl rfl rfl Az.nil) (sC (sC sN)))))))))))))))))
        ·refine wo hq (vF AA rfl Bw (wo hq (vL 0 Bx rfl (wo hq (wv (AX rfl rfl) (wo hq (wm rfl (bz gP (λhh gQ=>?_) (λhh gR=>?_)))))))))
         ·exact wo hh (wm rfl (wo hh (vF AA rfl B3 (wo hh (vL 0 BG rfl (wo hh (vF AA rfl B3 (wo hh (vL 0 BG rfl (wo hh (ob gQ λhE gS gT=>BL Ls (C5 (Ax a.fValues ha) b.fLow b.fHigh hE gS) rfl (wo hh (wv (Bu rfl) (wo hq (BR rfl hh rfl (Cc rfl hq rfl (Ai (As (Ar (!hE,()) gT (Az.c5 rfl rfl rfl rfl rfl Az.nil) (sC (sC sN)))))))))))))))))))))
         ·exact wf hh (wf hh (wf hh (wf hh (wf hh (wf hh (wf hh (wo hq (wv (r:=rB false) (Ak rfl hh rfl) (Cc rfl hq rfl (Ai (As (Ar (false,()) gR (Az.c5 rfl rfl rfl rfl rfl Az.nil) (sC (sC sN))))))))))))))
       ·refine wf hw (wf hw (wf hw (wf hw (wf hw (wo hp (wv (r:=rB false) (Ak rfl hw rfl) (Cc rfl hp rfl (wm rfl (AF (b:=false) rfl rfl rfl (vF AA rfl Bw (AF (b:=false) rfl rfl rfl (vL 0 Bx rfl (AF (b:=false) rfl rfl rfl (wv (AX rfl rfl) (AF (b:=false) rfl rfl rfl (wm rfl (bz gK (λhi gU=>?_) (λhi gV=>?_))))))))))))))))))
        ·exact wo hi (wm rfl (wo hi (vF AA rfl B3 (wo hi (vL 0 BG rfl (wo hi (vF AA rfl B3 (wo hi (vL 0 BG rfl (wo hi (ob gU λh7 gW gX=>BL Ls (C5 (Ax a.fValues ha) b.fLow b.fHigh h7 gW) rfl (wo hi (wv (Bu rfl) (AF (b:=false) rfl rfl rfl (BR rfl hi rfl (wv (r:=rB (!h7)) (Ak (b:=false) rfl rfl rfl) (Ai (As (Ar (!h7,()) gX (Az.c5 rfl rfl rfl rfl rfl Az.nil) (sC (sC sN)))))))))))))))))))))
        ·exact wf hi (wf hi (wf hi (wf hi (wf hi (wf hi (wf hi (AF (b:=false) rfl rfl rfl (wv (r:=rB false) (Ak rfl hi rfl) (wv (r:=rB false) (Ak (b:=false) rfl rfl rfl) (Ai (As (Ar (false,()) gV (Az.c5 rfl rfl rfl rfl rfl Az.nil) (sC (sC sN))))))))))))))
     ·refine wf hz (wf hz (wf hz (wf hz (AF (b:=false) rfl rfl rfl (wv (r:=rB false) (Ak rfl hz rfl) (wv (r:=rB false) (Ak (b:=false) rfl rfl rfl) (wm rfl (AF (b:=false) rfl rfl rfl (vF AA rfl Bw (AF (b:=false) rfl rfl rfl (vL 0 Bx rfl (AF (b:=false) rfl rfl rfl (wv (AX rfl rfl) (AF (b:=false) rfl rfl rfl (wm rfl (bz gE (λhx gY=>?_) (λhx gZ=>?_)))))))))))))))))
      ·refine wo hx (wm rfl (wo hx (vF AA rfl C6 (wo hx (vL 0 CG rfl (wo hx (ob gY λhG ca cb=>BL Rw (Ep (Ax a.fValues ha) b.fText hG ca) rfl (wo hx (wv (Bu rfl) (AF (b:=false) rfl rfl rfl (BR rfl hx rfl (wv (r:=rB (!hG)) (Ak (b:=false) rfl rfl rfl) (wm rfl (bz cb (λhr cc=>?_) (λhr cd=>?_)))))))))))))))
       ·exact wf hr (wf hr (wf hr (wf hr (wu (wu (wu (wu (wu (wu (wu (wf hr (wv (r:=rB true) (Av rfl hr rfl) (Ai (As (Ar (true,()) cc (Az.c5 rfl rfl rfl rfl rfl Az.nil) (sC (sC sN)))))))))))))))))
       ·refine wo hr (vF AA rfl Bw (wo hr (vL 0 Bx rfl (wo hr (wv (AX rfl rfl) (wo hr (wm rfl (bz cd (λhj ce=>?_) (λhj cf=>?_)))))))))
        ·exact wo hj (wm rfl (wo hj (vF AA rfl B3 (wo hj (vL 0 BG rfl (wo hj (vF AA rfl B3 (wo hj (vL 0 BG rfl (wo hj (ob ce λhH cg ch=>BL Ls (C5 (Ax a.fValues ha) b.fLow b.fHigh hH cg) rfl (wo hj (wv (Bu rfl) (wo hr (BR rfl hj rfl (Cc rfl hr rfl (Ai (As (Ar (!hH,()) ch (Az.c5 rfl rfl rfl rfl rfl Az.nil) (sC (sC sN)))))))))))))))))))))
        ·exact wf hj (wf hj (wf hj (wf hj (wf hj (wf hj (wf hj (wo hr (wv (r:=rB false) (Ak rfl hj rfl) (Cc rfl hr rfl (Ai (As (Ar (false,()) cf (Az.c5 rfl rfl rfl rfl rfl Az.nil) (sC (sC sN))))))))))))))
      ·refine wf hx (wf hx (wf hx (wf hx (wf hx (AF (b:=false) rfl rfl rfl (wv (r:=rB false) (Ak rfl hx rfl) (wv (r:=rB false) (Ak (b:=false) rfl rfl rfl) (wm rfl (AF (b:=false) rfl rfl rfl (vF AA rfl Bw (AF (b:=false) rfl rfl rfl (vL 0 Bx rfl (AF (b:=false) rfl rfl rfl (wv (AX rfl rfl) (AF (b:=false) rfl rfl rfl (wm rfl (bz gZ (λhk ci=>?_) (λhk cj=>?_))))))))))))))))))
       ·exact wo hk (wm rfl (wo hk (vF AA rfl B3 (wo hk (vL 0 BG rfl (wo hk (vF AA rfl B3 (wo hk (vL 0 BG rfl (wo hk (ob ci λh8 cl cm=>BL Ls (C5 (Ax a.fValues ha) b.fLow b.fHigh h8 cl) rfl (wo hk (wv (Bu rfl) (AF (b:=false) rfl rfl rfl (BR rfl hk rfl (wv (r:=rB (!h8)) (Ak (b:=false) rfl rfl rfl) (Ai (As (Ar (!h8,()) cm (Az.c5 rfl rfl rfl rfl rfl Az.nil) (sC (sC sN)))))))))))))))))))))
       ·exact wf hk (wf hk (wf hk (wf hk (wf hk (wf hk (wf hk (AF (b:=false) rfl rfl rfl (wv (r:=rB false) (Ak rfl hk rfl) (wv (r:=rB false) (Ak (b:=false) rfl rfl rfl) (Ai (As (Ar (false,()) cj (Az.c5 rfl rfl rfl rfl rfl Az.nil) (sC (sC sN))))))))))))))
   ·rintro⟨hI,⟨⟩⟩ h1;refine B7 (l':=[(2,rP b1 0),(3,rP b2 0),(9,Al (a.fValues.length:Int)),(10,Al ha),(64,rB hI)]) (H':=[.blk b2 (Ad b) 26,.blk b1 (Ad a) 26]) rfl rfl ?_;replace h1:Bj ha hI=some h3:=h1;unfold Bj at h1;refine cz h1 rfl (λcn co=>?_) (λcn cp=>?_)
    ·refine Af (wa rfl (Am (Aq (Au (Ac (Ac (AP ?_)))))));have cq:=Bg co h4 h9;refine Au (Ac ?_);obtain rfl:=Ao cq;exact Ap (Bs Tryz.results68 (A5 rfl)) (sS (sS sN)) ⟨rfl,rfl⟩
    ·refine At (A4 (AD (Aj (ck cp λcr cs=>wv (Be rfl rfl cr) (wm rfl (Ai ?_))))));have ct:=AW cs h4;exact As (Ar (hN,ha+1,()) ⟨ct,X0 _⟩ (Az.c rfl (Az.c rfl (Az.c rfl (Az.c rfl Az.nil)))) (sC (sC sN)))
  ·refine Bl (Ay ?_);have cu:=BB hQ h4 h9;exact Ay (AS (Ar ((),()) cu Az.nil (sS (sS sN))))
 ·rintro⟨⟨⟩,⟨⟩⟩ h2;refine Ce (l':=[]) (H':=[]) rfl rfl ?_;replace h2:Ez =some r:=h2;unfold Ez at h2;refine AV (AD (Af (wa rfl (Am (Aq ?_)))));obtain rfl:=Ao h2;exact Ap (Bs Tryz.results68 (A5 rfl)) sN ⟨rfl,rfl⟩
theorem P1 (F:Nat)(a:Ah)(b:Ah)(r:Bool)(h:H8 F a b=some r):Fn Tryz.prog GE 69 [Bt (Ad a),Bt (Ad b)] [] (λR H=>R=rB r∧H=[]):=by
 refine enter (n:=58) Tryz.func69 rfl Tryz.ntmps69 rfl (λw Z=>?_);unfold H8 at h;refine Af (Bq rfl rfl (λb1=>?_));refine Bq rfl rfl (λb2=>?_);refine wa rfl (Am (An (Af (vF AA rfl C9 (vL 0 CI rfl (wv (AK (ys:=b.fValues) (enc:=Ae) Cd rfl) (wv (r:=Al 0) (A3 rfl) (Am (A6 (ob h λhq hr hp=>Bd (S:=Nat×(Int)×(Unit)) (V:=(Unit)×(Unit)) 0 (λσ=>Cf (λσ=>DL F a b σ) σ.1 σ.2.1=some hq) (λσ=>[(2,rP b1 0),(3,rP b2 0),(9,Al (b.fValues.length:Int)),(10,Al σ.2.1)]) (λσ=>[.blk b2 (Ad b) 26,.blk b1 (Ad a) 26]) (λσ=>σ.1) (F,0,()) hr (Az.c rfl (Az.c rfl (Az.c rfl (Az.c rfl Az.nil)))) (sC (sC sN)) (λσ=>E0 =some r) (λσ=>[]) (λσ=>[]) ?_ ?_))))))))))
 ·rintro⟨hP,hb,⟨⟩⟩ hs;refine B7 (l':=[(2,rP b1 0),(3,rP b2 0),(9,Al (b.fValues.length:Int)),(10,Al hb)]) (H':=[.blk b2 (Ad b) 26,.blk b1 (Ad a) 26]) rfl rfl ?_;obtain⟨ht,rfl,hu,hm,ho⟩:=Ca hs;replace hm:DL F a b hb=some hu:=hm;unfold DL at hm;refine Af (wv (Cl rfl rfl) (Am (An (cz hm rfl (λhw hx=>?_) (λhw hy=>?_)))))
  ·refine At (AD (An (A6 (Af (wm rfl (wa rfl (Bb (vF AA rfl C9 (vL 0 CI rfl (wm rfl (ck hx λhz h0=>wv (AU (enc:=Ae) (ys:=b.fValues) Cd Co rfl rfl hz) (wv (AM CS rfl rfl) (wa rfl (Am (ck h0 λh1 h2=>ck h2 λh3 h4=>ck h4 λh5 h6=>ck h6 λh7 h8=>ck h8 λh9 hA=>ck hA λhB hC=>ck hC λhD hE=>AE [(2,rP b1 0),(3,rP b2 0),(9,Al (b.fValues.length:Int)),(10,Al hb),(56,rB ((decide (a.fOp=1))||(bif decide (a.fOp=4) then((!(ov (CV F (Ax b.fValues hb) a.fValues)))||(bif decide (a.fOp=5) then((ov (Ci (Ax b.fValues hb) a.fText))||((decide (a.fOp=6))&&(ov (B8 (Ax b.fValues hb) a.fLow a.fHigh)))) else((decide (a.fOp=6))&&(ov (B8 (Ax b.fValues hb) a.fLow a.fHigh))))) else(bif decide (a.fOp=5) then((ov (Ci (Ax b.fValues hb) a.fText))||((decide (a.fOp=6))&&(ov (B8 (Ax b.fValues hb) a.fLow a.fHigh)))) else((decide (a.fOp=6))&&(ov (B8 (Ax b.fValues hb) a.fLow a.fHigh)))))))] [.blk b2 (Ad b) 26,.blk b1 (Ad a) 26] ?_ ?_)))))))))))))))
   ·refine Aj (vF AA rfl Bw (vL 1 Bx rfl (wv (AX rfl rfl) (wm rfl (AH (decide (a.fOp=1)) (λha=>?_) (λha=>?_))))))
    ·refine wf ha (wf ha (wf ha (wf ha (wu (wu (wu (wu (wu (wf ha (wv (r:=rB true) (Av rfl ha rfl) (wm rfl (wz rfl rfl (wz rfl rfl (wz rfl rfl (wz rfl rfl (wu (wu (wu (wu (wz rfl rfl (wv (r:=rB true) (Av (b:=true) rfl rfl rfl) (wm rfl (wz rfl rfl ?_)))))))))))))))))))))));refine wz rfl rfl (wz rfl rfl (wz rfl rfl (wu (wu (wu (wu (wu (wu (wz rfl rfl (wv (r:=rB true) (Av (b:=true) rfl rfl rfl) (Ai ?_)))))))))));exact BD ha
    ·refine wo ha (vF AA rfl Bw (wo ha (vL 1 Bx rfl (wo ha (wv (AX rfl rfl) (wo ha (wm rfl (AH (decide (a.fOp=4)) (λhe=>?_) (λhe=>?_)))))))))
     ·refine wo he (wm rfl (wo he (vF AA rfl C9 (wo he (vL 1 CI rfl (wo he (BL Tryz.call39 (If F (Ax b.fValues hb) a.fValues (ov (CV F (Ax b.fValues hb) a.fValues)) (Cz (BE (BO h1 ha) he))) rfl (wo he (wv (Bu rfl) (wo ha (BR rfl he rfl (Cc rfl ha rfl (wm rfl (AH (!(ov (CV F (Ax b.fValues hb) a.fValues))) (λhf=>?_) (λhf=>?_)))))))))))))))
      ·refine wf hf (wf hf (wf hf (wf hf (wu (wu (wu (wu (wf hf (wv (r:=rB true) (Av rfl hf rfl) (wm rfl (wz rfl rfl (wz rfl rfl (wz rfl rfl (wz rfl rfl (wu (wu (wu (wu (wu (wu (wz rfl rfl (wv (r:=rB true) (Av (b:=true) rfl rfl rfl) (Ai ?_)))))))))))))))))))))));exact BD (And.intro ha (And.intro he hf))
      ·refine wo hf (vF AA rfl Bw (wo hf (vL 1 Bx rfl (wo hf (wv (AX rfl rfl) (wo hf (wm rfl (AH (decide (a.fOp=5)) (λhg=>?_) (λhg=>?_)))))))))
       ·refine wo hg (wm rfl (wo hg (vF AA rfl C6 (wo hg (vL 1 CG rfl (wo hg (BL Rw (Ep (Ax b.fValues hb) a.fText (ov (Ci (Ax b.fValues hb) a.fText)) (Cz (BE (BO (BE (BO h3 ha) he) hf) hg))) rfl (wo hf (BR rfl hg rfl (Cc rfl hf rfl (wm rfl (AH ((ov (Ci (Ax b.fValues hb) a.fText))) (λhh=>?_) (λhh=>?_)))))))))))))
        ·refine wf hh (wf hh (wf hh (wf hh (wu (wu (wu (wu (wu (wu (wf hh (wv (r:=rB true) (Av rfl hh rfl) (Ai ?_))))))))))));exact BD (And.intro ha (And.intro he (And.intro hf (And.intro hg hh))))
        ·refine wo hh (vF AA rfl Bw (wo hh (vL 1 Bx rfl (wo hh (wv (AX rfl rfl) (wo hh (wm rfl (AH (decide (a.fOp=6)) (λhj=>?_) (λhj=>?_)))))))))
         ·refine wo hj (wm rfl (wo hj (vF AA rfl B3 (wo hj (vL 1 BG rfl (wo hj (vF AA rfl B3 (wo hj (vL 1 BG rfl (wo hj (BL Ls (C5 (Ax b.fValues hb) a.fLow a.fHigh (ov (B8 (Ax b.fValues hb) a.fLow a.fHigh)) (Cz (BE (BO (BE (BO (BE (BO h5 ha) he) hf) hg) hh) hj))) rfl (wo hh (BR rfl hj rfl (Cc rfl hh rfl (Ai ?_)))))))))))))));exact BD (And.intro ha (And.intro he (And.intro hf (And.intro hg (And.intro hh hj)))))
         ·refine wf hj (wf hj (wf hj (wf hj (wf hj (wf hj (wo hh (wv (r:=rB false) (Ak rfl hj rfl) (Cc rfl hh rfl (Ai ?_)))))))));exact BD (And.intro ha (And.intro he (And.intro hf (And.intro hg (And.intro hh hj)))))
       ·refine wf hg (wf hg (wf hg (wf hg (wo hf (wv (r:=rB false) (Ak rfl hg rfl) (Cc rfl hf rfl (wm rfl (AF (b:=false) rfl rfl rfl (vF AA rfl Bw (AF (b:=false) rfl rfl rfl (vL 1 Bx rfl (AF (b:=false) rfl rfl rfl (wv (AX rfl rfl) (AF (b:=false) rfl rfl rfl (wm rfl (AH (decide (a.fOp=6)) (λhk=>?_) (λhk=>?_)))))))))))))))))
        ·refine wo hk (wm rfl (wo hk (vF AA rfl B3 (wo hk (vL 1 BG rfl (wo hk (vF AA rfl B3 (wo hk (vL 1 BG rfl (wo hk (BL Ls (C5 (Ax b.fValues hb) a.fLow a.fHigh (ov (B8 (Ax b.fValues hb) a.fLow a.fHigh)) (Cz (BE (BO (BO (BE (BO h7 ha) he) hf) hg) hk))) rfl (AF (b:=false) rfl rfl rfl (BR rfl hk rfl (wv (r:=rB (ov (B8 (Ax b.fValues hb) a.fLow a.fHigh))) (Ak (b:=false) rfl rfl rfl) (Ai ?_)))))))))))))));exact BD (And.intro ha (And.intro he (And.intro hf (And.intro hg hk))))
        ·refine wf hk (wf hk (wf hk (wf hk (wf hk (wf hk (AF (b:=false) rfl rfl rfl (wv (r:=rB false) (Ak rfl hk rfl) (wv (r:=rB false) (Ak (b:=false) rfl rfl rfl) (Ai ?_)))))))));exact BD (And.intro ha (And.intro he (And.intro hf (And.intro hg hk))))
     ·refine wf he (wf he (wf he (wf he (wf he (wo ha (wv (r:=rB false) (Ak rfl he rfl) (Cc rfl ha rfl (wm rfl (AF (b:=false) rfl rfl rfl (vF AA rfl Bw (AF (b:=false) rfl rfl rfl (vL 1 Bx rfl (AF (b:=false) rfl rfl rfl (wv (AX rfl rfl) (AF (b:=false) rfl rfl rfl (wm rfl (AH (decide (a.fOp=5)) (λhi=>?_) (λhi=>?_))))))))))))))))))
      ·refine wo hi (wm rfl (wo hi (vF AA rfl C6 (wo hi (vL 1 CG rfl (wo hi (BL Rw (Ep (Ax b.fValues hb) a.fText (ov (Ci (Ax b.fValues hb) a.fText)) (Cz (BE (BO (BO h9 ha) he) hi))) rfl (AF (b:=false) rfl rfl rfl (BR rfl hi rfl (wv (r:=rB (ov (Ci (Ax b.fValues hb) a.fText))) (Ak (b:=false) rfl rfl rfl) (wm rfl (AH ((ov (Ci (Ax b.fValues hb) a.fText))) (λc143=>?_) (λc143=>?_)))))))))))))
       ·refine wf c143 (wf c143 (wf c143 (wf c143 (wu (wu (wu (wu (wu (wu (wf c143 (wv (r:=rB true) (Av rfl c143 rfl) (Ai ?_))))))))))));exact BD (And.intro ha (And.intro he (And.intro hi c143)))
       ·refine wo c143 (vF AA rfl Bw (wo c143 (vL 1 Bx rfl (wo c143 (wv (AX rfl rfl) (wo c143 (wm rfl (AH (decide (a.fOp=6)) (λhl=>?_) (λhl=>?_)))))))))
        ·refine wo hl (wm rfl (wo hl (vF AA rfl B3 (wo hl (vL 1 BG rfl (wo hl (vF AA rfl B3 (wo hl (vL 1 BG rfl (wo hl (BL Ls (C5 (Ax b.fValues hb) a.fLow a.fHigh (ov (B8 (Ax b.fValues hb) a.fLow a.fHigh)) (Cz (BE (BO (BE (BO (BO hB ha) he) hi) c143) hl))) rfl (wo c143 (BR rfl hl rfl (Cc rfl c143 rfl (Ai ?_)))))))))))))));exact BD (And.intro ha (And.intro he (And.intro hi (And.intro c143 hl))))
        ·refine wf hl (wf hl (wf hl (wf hl (wf hl (wf hl (wo c143 (wv (r:=rB false) (Ak rfl hl rfl) (Cc rfl c143 rfl (Ai ?_)))))))));exact BD (And.intro ha (And.intro he (And.intro hi (And.intro c143 hl))))
      ·refine wf hi (wf hi (wf hi (wf hi (AF (b:=false) rfl rfl rfl (wv (r:=rB false) (Ak rfl hi rfl) (wv (r:=rB false) (Ak (b:=false) rfl rfl rfl) (wm rfl (AF (b:=false) rfl rfl rfl (vF AA rfl Bw (AF (b:=false) rfl rfl rfl (vL 1 Bx rfl (AF (b:=false) rfl rfl rfl (wv (AX rfl rfl) (AF (b:=false) rfl rfl rfl (wm rfl (AH (decide (a.fOp=6)) (λc145=>?_) (λc145=>?_)))))))))))))))))
       ·refine wo c145 (wm rfl (wo c145 (vF AA rfl B3 (wo c145 (vL 1 BG rfl (wo c145 (vF AA rfl B3 (wo c145 (vL 1 BG rfl (wo c145 (BL Ls (C5 (Ax b.fValues hb) a.fLow a.fHigh (ov (B8 (Ax b.fValues hb) a.fLow a.fHigh)) (Cz (BE (BO (BO (BO hD ha) he) hi) c145))) rfl (AF (b:=false) rfl rfl rfl (BR rfl c145 rfl (wv (r:=rB (ov (B8 (Ax b.fValues hb) a.fLow a.fHigh))) (Ak (b:=false) rfl rfl rfl) (Ai ?_)))))))))))))));exact BD (And.intro ha (And.intro he (And.intro hi c145)))
       ·refine wf c145 (wf c145 (wf c145 (wf c145 (wf c145 (wf c145 (AF (b:=false) rfl rfl rfl (wv (r:=rB false) (Ak rfl c145 rfl) (wv (r:=rB false) (Ak (b:=false) rfl rfl rfl) (Ai ?_)))))))));exact BD (And.intro ha (And.intro he (And.intro hi c145)))
   refine cz hE rfl (λhG hH=>?_) (λhG hI=>?_)
   ·refine Af (wa rfl (Am (Aq (Au (Ac (Ac (AP ?_)))))));have hJ:=Bg hH ho hp;refine Au (Ac ?_);obtain rfl:=Ao hJ;exact Ap (Bs Tryz.results69 (A5 rfl)) (sS (sS sN)) ⟨rfl,rfl⟩
   ·refine At (A4 (AD (Aj (ck hI λhK hL=>wv (Be rfl rfl hK) (wm rfl (Ai ?_))))));have hN:=AW hL ho;exact As (Ar (ht,hb+1,()) ⟨hN,X0 _⟩ (Az.c rfl (Az.c rfl (Az.c rfl (Az.c rfl Az.nil)))) (sC (sC sN)))
  ·refine Bl (Ay ?_);have hO:=BB hy ho hp;exact Ay (AS (Ar ((),()) hO Az.nil (sS (sS sN))))
 ·rintro⟨⟨⟩,⟨⟩⟩ hn;refine Ce (l':=[]) (H':=[]) rfl rfl ?_;replace hn:E0 =some r:=hn;unfold E0 at hn;refine AV (AD (Af (wa rfl (Am (Aq ?_)))));obtain rfl:=Ao hn;exact Ap (Bs Tryz.results69 (A5 rfl)) sN ⟨rfl,rfl⟩
theorem Ie (F:Nat)(a:Ah)(b:Ah)(r:Bool)(h:Bz F a b=some r):Fn Tryz.prog GE 25 [Bt (Ad a),Bt (Ad b)] [] (λR H=>R=rB r∧H=[]):=by
 refine enter (n:=130) Tryz.func25 rfl Tryz.ntmps25 rfl (λw Z=>?_);unfold Bz at h;refine Af (Bq rfl rfl (λb1=>?_));refine Bq rfl rfl (λb2=>?_);refine wa rfl (Am (An (ck h λg3 h4=>ck h4 λg5 h6=>AE [(2,rP b1 0),(3,rP b2 0),(12,rB ((!decide ((ov (Df F a))=0))||(!decide ((ov (Df F b))=0))))] [.blk b2 (Ad b) 26,.blk b1 (Ad a) 26] ?_ ?_)))
 ·refine Aj (wv (AB (i:=1) BJ B1 rfl rfl rfl rfl) (BL Tryz.call14 (M9 F a (ov (Df F a)) (Cz g3)) rfl (wv (Bo rfl rfl) (wm rfl (AH (!decide ((ov (Df F a))=0)) (λc7=>?_) (λc7=>?_))))))
  ·refine wf c7 (wf c7 (wf c7 (wv (r:=rB true) (Av rfl c7 rfl) (Ai ?_))));exact BD c7
  ·refine wo c7 (wv (AB (i:=0) BJ B1 rfl rfl rfl rfl) (wo c7 (BL Tryz.call14 (M9 F b (ov (Df F b)) (Cz (BO g5 c7))) rfl (wo c7 (wv (Bo rfl rfl) (Cc rfl c7 rfl (Ai ?_)))))));exact BD c7
 refine cz h6 rfl (λc8 h9=>?_) (λc8 hm=>?_)
 ·refine Af (wa rfl (Am (Aq (Ac ?_))));obtain rfl:=Ao h9;exact Ap (Bs NB (A5 rfl)) (sS (sS sN)) ⟨rfl,rfl⟩
 ·refine At (AD (An (Af (vF AA rfl DN (vL 1 Ed rfl (wv (AK (ys:=a.fPath) (enc:=eS) Dc rfl) (vF AA rfl DN (vL 0 Ed rfl (wv (AK (ys:=b.fPath) (enc:=eS) Dc rfl) (wv (CB rfl rfl) (Am (cz hm rfl (λhn ho=>?_) (λhn hp=>?_)))))))))))))
  ·refine ck ho λhq hr=>AE [(4,rB ((ov (Ck F a.fPath b.fPath))&&((decide (b.fOp=1))&&(!decide (a.fOp=2)))))] [] ?_ ?_
   ·refine Aj (vF AA rfl DN (vL 1 Ed rfl (vF AA rfl DN (vL 0 Ed rfl (BL Tryz.call63 (GI F a.fPath b.fPath (ov (Ck F a.fPath b.fPath)) (Cz hq)) rfl (wm rfl (AH ((ov (Ck F a.fPath b.fPath))) (λhg=>?_) (λhg=>?_))))))))
    ·refine wo hg (vF AA rfl Bw (wo hg (vL 0 Bx rfl (wo hg (wv (AX rfl rfl) (BR rfl hg rfl (wm rfl (AH (decide (b.fOp=1)) (λhj=>?_) (λhj=>?_)))))))))
     ·refine wo hj (vF AA rfl Bw (wo hj (vL 1 Bx rfl (wo hj (wv (Bo rfl rfl) (BR rfl hj rfl (wa rfl (Ai ?_))))))));exact BD (And.intro hg hj)
     ·refine wf hj (wf hj (wf hj (wv (r:=rB false) (Ak rfl hj rfl) (wa rfl (Ai ?_)))));exact BD (And.intro hg hj)
    ·refine wf hg (wf hg (wf hg (wv (r:=rB false) (Ak rfl hg rfl) (wm rfl (wz rfl rfl (wz rfl rfl (wz rfl rfl (wv (r:=rB false) (Ak (b:=false) rfl rfl rfl) (wa rfl (Ai ?_))))))))));exact BD hg
   refine Aq (Ac ?_);obtain rfl:=Ao hr;exact Ap (Bs NB (A5 rfl)) sN ⟨rfl,rfl⟩
  ·refine At (AD (An (Af (vF AA rfl DN (vL 1 Ed rfl (wv (AK (ys:=a.fPath) (enc:=eS) Dc rfl) (vF AA rfl DN (vL 0 Ed rfl (wv (AK (ys:=b.fPath) (enc:=eS) Dc rfl) (wv (Cl rfl rfl) (Am (cz hp rfl (λhs ht=>?_) (λhs hu=>?_)))))))))))))
   ·refine ck ht λhw hx=>AE [(4,rB ((ov (Ck F b.fPath a.fPath))&&((decide (a.fOp=2))&&(decide (b.fOp=2)))))] [] ?_ ?_
    ·refine Aj (vF AA rfl DN (vL 0 Ed rfl (vF AA rfl DN (vL 1 Ed rfl (BL Tryz.call63 (GI F b.fPath a.fPath (ov (Ck F b.fPath a.fPath)) (Cz hw)) rfl (wm rfl (AH ((ov (Ck F b.fPath a.fPath))) (λhh=>?_) (λhh=>?_))))))))
     ·refine wo hh (vF AA rfl Bw (wo hh (vL 1 Bx rfl (wo hh (wv (AX rfl rfl) (BR rfl hh rfl (wm rfl (AH (decide (a.fOp=2)) (λhk=>?_) (λhk=>?_)))))))))
      ·refine wo hk (vF AA rfl Bw (wo hk (vL 0 Bx rfl (wo hk (wv (AX rfl rfl) (BR rfl hk rfl (wa rfl (Ai ?_))))))));exact BD (And.intro hh hk)
      ·refine wf hk (wf hk (wf hk (wv (r:=rB false) (Ak rfl hk rfl) (wa rfl (Ai ?_)))));exact BD (And.intro hh hk)
     ·refine wf hh (wf hh (wf hh (wv (r:=rB false) (Ak rfl hh rfl) (wm rfl (wz rfl rfl (wz rfl rfl (wz rfl rfl (wv (r:=rB false) (Ak (b:=false) rfl rfl rfl) (wa rfl (Ai ?_))))))))));exact BD hh
    refine Aq (Ac ?_);obtain rfl:=Ao hx;exact Ap (Bs NB (A5 rfl)) sN ⟨rfl,rfl⟩
   ·refine At (AD (An (Af (vF AA rfl DN (vL 1 Ed rfl (vF AA rfl DN (vL 0 Ed rfl (ob hu λhy hz h0=>BL Tryz.call63 (GI F a.fPath b.fPath hy hz) rfl (wv (Bu rfl) (Am (cz h0 rfl (λh1 h2=>?_) (λh1 h3=>?_))))))))))))
    ·refine Af (wa rfl (Am (Aq (Ac ?_))));obtain rfl:=Ao h2;exact Ap (Bs NB (A5 rfl)) (sS (sS sN)) ⟨rfl,rfl⟩
    ·refine At (AD (An (AE [(2,rP b1 0),(3,rP b2 0),(75,rB ((decide (b.fOp=1))||((decide (b.fOp=2))||(decide (a.fOp=2)))))] [.blk b2 (Ad b) 26,.blk b1 (Ad a) 26] ?_ ?_)))
     ·refine Aj (vF AA rfl Bw (vL 0 Bx rfl (wv (AX rfl rfl) (wm rfl (AH (decide (b.fOp=1)) (λhi=>?_) (λhi=>?_))))))
      ·refine wf hi (wf hi (wf hi (wv (r:=rB true) (Av rfl hi rfl) (wm rfl (wz rfl rfl (wz rfl rfl (wz rfl rfl (wv (r:=rB true) (Av (b:=true) rfl rfl rfl) (Ai ?_)))))))));exact BD hi
      ·refine wo hi (vF AA rfl Bw (wo hi (vL 0 Bx rfl (wo hi (wv (AX rfl rfl) (Cc rfl hi rfl (wm rfl (AH (decide (b.fOp=2)) (λhl=>?_) (λhl=>?_)))))))))
       ·refine wf hl (wf hl (wf hl (wv (r:=rB true) (Av rfl hl rfl) (Ai ?_))));exact BD (And.intro hi hl)
       ·refine wo hl (vF AA rfl Bw (wo hl (vL 1 Bx rfl (wo hl (wv (AX rfl rfl) (Cc rfl hl rfl (Ai ?_)))))));exact BD (And.intro hi hl)
     refine cz h3 rfl (λh5 h7=>?_) (λh5 h8=>?_)
     ·refine Af (vF AA rfl Bw (vL 1 Bx rfl (wv (AX rfl rfl) (vF AA rfl Bw (vL 0 Bx rfl (wv (AX rfl rfl) (wv (r:=rB ((decide (a.fOp=2)) ==(decide (b.fOp=2)))) (JZ Vn rfl rfl) (wa rfl (Am (Aq (Ac ?_)))))))))));obtain rfl:=Ao h7;exact Ap (Bs NB (A5 rfl)) (sS (sS sN)) ⟨rfl,rfl⟩
     ·refine At (AD (An (Af (vF AA rfl Bw (vL 1 Bx rfl (wv (AX rfl rfl) (Am (cz h8 rfl (λhA hB=>?_) (λhA hC=>?_)))))))))
      ·refine Af (wv (AB (i:=1) BJ B1 rfl rfl rfl rfl) (wv (AB (i:=0) BJ B1 rfl rfl rfl rfl) (ob hB λhD hE hG=>BL Tryz.call68 (Py F a b hD hE) rfl (wa rfl (Am (Aq (Ac ?_)))))));obtain rfl:=Ao hG;exact Ap (Bs NB (A5 rfl)) (sS (sS sN)) ⟨rfl,rfl⟩
      ·refine At (AD (An (Af (vF AA rfl Bw (vL 0 Bx rfl (wv (AX rfl rfl) (Am (cz hC rfl (λhH hI=>?_) (λhH hJ=>?_)))))))))
       ·refine Af (wv (AB (i:=1) BJ B1 rfl rfl rfl rfl) (wv (AB (i:=0) BJ B1 rfl rfl rfl rfl) (ob hI λhK hL hN=>BL Tryz.call69 (P1 F a b hK hL) rfl (wa rfl (Am (Aq (Ac ?_)))))));obtain rfl:=Ao hN;exact Ap (Bs NB (A5 rfl)) (sS (sS sN)) ⟨rfl,rfl⟩
       ·refine At (AD (An (Af (vF AA rfl Bw (vL 0 Bx rfl (wv (AX rfl rfl) (Am (cz hJ rfl (λhO hP=>?_) (λhO hQ=>?_)))))))))
        ·refine ck hP λhR hS=>AE [(4,rB ((decide (a.fOp=5))&&(ov (Ec a.fText b.fText))))] [] ?_ ?_
         ·refine Aj (vF AA rfl Bw (vL 1 Bx rfl (wv (AX rfl rfl) (wm rfl (AH (decide (a.fOp=5)) (λha=>?_) (λha=>?_))))))
          ·refine wo ha (vF AA rfl C6 (wo ha (vL 1 CG rfl (wo ha (vF AA rfl C6 (wo ha (vL 0 CG rfl (wo ha (BL Tryz.call70 (N1 a.fText b.fText (ov (Ec a.fText b.fText)) (Cz (BE hR ha))) rfl (BR rfl ha rfl (wa rfl (Ai ?_))))))))))));exact BD ha
          ·refine wf ha (wf ha (wf ha (wf ha (wf ha (wv (r:=rB false) (Ak rfl ha rfl) (wa rfl (Ai ?_)))))));exact BD ha
         refine Aq (Ac ?_);obtain rfl:=Ao hS;exact Ap (Bs NB (A5 rfl)) sN ⟨rfl,rfl⟩
        ·refine At (AD (AE [(4,rB ((decide (b.fOp=6))&&((decide (a.fOp=6))&&((decide (b.fLow≤a.fLow))&&(decide (a.fHigh≤b.fHigh))))))] [] ?_ ?_))
         ·refine Aj (vF AA rfl Bw (vL 0 Bx rfl (wv (AX rfl rfl) (wm rfl (AH (decide (b.fOp=6)) (λhf=>?_) (λhf=>?_))))))
          ·refine wo hf (vF AA rfl Bw (wo hf (vL 1 Bx rfl (wo hf (wv (AX rfl rfl) (BR rfl hf rfl (wm rfl (AH (decide (a.fOp=6)) (λhb=>?_) (λhb=>?_)))))))))
           ·refine wo hb (vF AA rfl B3 (wo hb (vL 1 BG rfl (wo hb (vF AA rfl B3 (wo hb (vL 0 BG rfl (wo hb (wv (EI rfl rfl) (BR rfl hb rfl (wm rfl (AH (decide (b.fLow≤a.fLow)) (λhe=>?_) (λhe=>?_)))))))))))))
            ·refine wo he (vF AA rfl B3 (wo he (vL 1 BG rfl (wo he (vF AA rfl B3 (wo he (vL 0 BG rfl (wo he (wv (JY rfl rfl) (BR rfl he rfl (wa rfl (Ai ?_))))))))))));exact BD (And.intro hf (And.intro hb he))
            ·refine wf he (wf he (wf he (wf he (wf he (wv (r:=rB false) (Ak rfl he rfl) (wa rfl (Ai ?_)))))));exact BD (And.intro hf (And.intro hb he))
           ·refine wf hb (wf hb (wf hb (wf hb (wf hb (wv (r:=rB false) (Ak rfl hb rfl) (wm rfl (wz rfl rfl (wz rfl rfl (wz rfl rfl (wz rfl rfl (wz rfl rfl (wv (r:=rB false) (Ak (b:=false) rfl rfl rfl) (wa rfl (Ai ?_))))))))))))));exact BD (And.intro hf hb)
          ·refine wf hf (wf hf (wf hf (wv (r:=rB false) (Ak rfl hf rfl) (wm rfl (wz rfl rfl (wz rfl rfl (wz rfl rfl (wz rfl rfl (wz rfl rfl (wv (r:=rB false) (Ak (b:=false) rfl rfl rfl) (wm rfl (wz rfl rfl (wz rfl rfl (wz rfl rfl (wz rfl rfl (wz rfl rfl (wv (r:=rB false) (Ak (b:=false) rfl rfl rfl) (wa rfl (Ai ?_)))))))))))))))))));exact BD hf
         refine Aq ?_;obtain rfl:=Ao hQ;exact Ap (Bs NB (A5 rfl)) sN ⟨rfl,rfl⟩
theorem Qw (F:Nat)(a:(List Aa))(b:(List Aa))(r:Bool)(h:MA F a b=some r):Fn Tryz.prog GE 64 [AJ 4 (A2 Ab a),AJ 4 (A2 Ab b)] [] (λR H=>R=rB r∧H=[]):=by
 refine enter (n:=26) Tryz.func64 rfl Tryz.ntmps64 rfl (λw Z=>?_);unfold MA at h;refine Af (wa rfl (Am (An (Af (wm rfl (wv (AK (ys:=a) (enc:=Ab) Bv rfl) (wm rfl (wv (AK (ys:=b) (enc:=Ab) Bv rfl) (wv (Bo rfl rfl) (Am (cz h rfl (λc1 h2=>?_) (λc1 h3=>?_))))))))))))
 ·refine Af (wa rfl (Am (Aq (Ac ?_))));obtain rfl:=Ao h2;exact Ap (Bs Tryz.results64 (A5 rfl)) sN ⟨rfl,rfl⟩
 ·refine At (AD (An (Af (wm rfl (wv (AK (ys:=a) (enc:=Ab) Bv rfl) (wv (r:=Al 0) (A3 rfl) (Am (A6 (ob h3 λhh hi hg=>Bd (S:=Nat×(Int)×(Unit)) (V:=(Unit)×(Unit)) 0 (λσ=>Cf (λσ=>GM a b σ) σ.1 σ.2.1=some hh) (λσ=>[(0,AJ 4 (A2 Ab a)),(1,AJ 4 (A2 Ab b)),(12,Al (a.length:Int)),(13,Al σ.2.1)]) (λσ=>[]) (λσ=>σ.1) (F,0,()) hi (Az.c rfl (Az.c rfl (Az.c rfl (Az.c rfl Az.nil)))) sN (λσ=>GL =some r) (λσ=>[]) (λσ=>[]) ?_ ?_)))))))))
  ·rintro⟨h4,ha,⟨⟩⟩ hj;refine B7 (l':=[(0,AJ 4 (A2 Ab a)),(1,AJ 4 (A2 Ab b)),(12,Al (a.length:Int)),(13,Al ha)]) (H':=[]) rfl rfl ?_;obtain⟨hk,rfl,hl,hb,hf⟩:=Ca hj;replace hb:GM a b ha=some hl:=hb;unfold GM at hb;refine Af (wv (Cl rfl rfl) (Am (An (cz hb rfl (λhm hn=>?_) (λhm ho=>?_)))))
   ·refine At (AD (An (A6 (Af (wm rfl (wa rfl (Am (An (ck hn λhp hq=>ck hq λhr hs=>C7 [0,1,5,12,13] [⟨[],AJ 4 (A2 Ab a),0⟩,⟨[],Al ha,0⟩,⟨[0,1],J0 (Ab (Ax a ha)),0⟩,⟨[2],Bt (Ab (Ax a ha)),0⟩,⟨[],AJ 4 (A2 Ab b),0⟩,⟨[],Al ha,0⟩,⟨[4,5],J0 (Ab (Ax b ha)),0⟩,⟨[6],Bt (Ab (Ax b ha)),0⟩,⟨[3,7],rB (!(decide (((Ax a ha).fKind)=((Ax b ha).fKind))&&decide (((Ax a ha).fInt)=((Ax b ha).fInt))&&decide (((Ax a ha).fStr)=((Ax b ha).fStr))&&decide (((Ax a ha).fN)=((Ax b ha).fN)))),0⟩] [24,0,1,12,13] ?_ ?_)))))))))
    ·refine oq (A3 rfl) (oq (A3 rfl) (oq (AU (enc:=Ab) (ys:=a) Bv BC rfl rfl hp) (oq (CP Jn BC rfl rfl rfl) (oq (A3 rfl) (oq (A3 rfl) (oq (AU (enc:=Ab) (ys:=b) Bv BC rfl rfl hr) (oq (CP Jn BC rfl rfl rfl) (oq (I4 rfl rfl) ?_))))))));exact Cr
    refine AD (cz hs rfl (λht hu=>?_) (λht hw=>?_))
    ·refine Af (wa rfl (Am (Aq (Au (Ac (Ac (AP ?_)))))));have hx:=Bg hu hf hg;refine Au (Ac ?_);obtain rfl:=Ao hx;exact Ap (Bs Tryz.results64 (A5 rfl)) sN ⟨rfl,rfl⟩
    ·refine At (A4 (AD (Aj (ck hw λhy hz=>wv (Be rfl rfl hy) (wm rfl (Ai ?_))))));have h0:=AW hz hf;exact As (Ar (hk,ha+1,()) ⟨h0,X0 _⟩ (Az.c rfl (Az.c rfl (Az.c rfl (Az.c rfl Az.nil)))) sN)
   ·refine Bl (Ay ?_);have h1:=BB ho hf hg;exact Ay (AS (Ar ((),()) h1 Az.nil sN))
  ·rintro⟨⟨⟩,⟨⟩⟩ he;refine Ce (l':=[]) (H':=[]) rfl rfl ?_;replace he:GL =some r:=he;unfold GL at he;refine AV (AD (Af (wa rfl (Am (Aq ?_)))));obtain rfl:=Ao he;exact Ap (Bs Tryz.results64 (A5 rfl)) sN ⟨rfl,rfl⟩
theorem Qv (F:Nat)(a:Ah)(b:Ah)(r:Bool)(h:M8 F a b=some r):Fn Tryz.prog GE 23 [Bt (Ad a),Bt (Ad b)] [] (λR H=>R=rB r∧H=[]):=by
 refine enter (n:=77) Tryz.func23 rfl Tryz.ntmps23 rfl (λw Z=>?_);unfold M8 at h;refine Af (Bq rfl rfl (λb1=>?_));refine Bq rfl rfl (λb2=>?_);refine wa rfl (Am (An (ck h λg3 h4=>AE [(2,rP b1 0),(3,rP b2 0),(57,rB ((!decide ((a.fPath.length:Int)=(b.fPath.length:Int)))||((!(ov (Ck F a.fPath b.fPath)))||((!decide (a.fOp=b.fOp))||((!decide ((a.fValues.length:Int)=(b.fValues.length:Int)))||((!decide (a.fText=b.fText))||((!decide (a.fLow=b.fLow))||(!decide (a.fHigh=b.fHigh)))))))))] [.blk b2 (Ad b) 26,.blk b1 (Ad a) 26] ?_ ?_)))
 ·refine Aj (vF AA rfl DN (vL 1 Ed rfl (wv (AK (ys:=a.fPath) (enc:=eS) Dc rfl) (vF AA rfl DN (vL 0 Ed rfl (wv (AK (ys:=b.fPath) (enc:=eS) Dc rfl) (wv (Bo rfl rfl) (wm rfl (AH (!decide ((a.fPath.length:Int)=(b.fPath.length:Int))) (λc5=>?_) (λc5=>?_))))))))))
  ·refine wf c5 (wf c5 (wf c5 (wf c5 (wf c5 (wf c5 (wv (r:=rB true) (Av rfl c5 rfl) (wm rfl (wz rfl rfl (wz rfl rfl (wz rfl rfl (wz rfl rfl (wz rfl rfl (wv (r:=rB true) (Av (b:=true) rfl rfl rfl) (wm rfl (wz rfl rfl (wz rfl rfl (wz rfl rfl (wz rfl rfl (wz rfl rfl (wz rfl rfl (wz rfl rfl (wv (r:=rB true) (Av (b:=true) rfl rfl rfl) (wm rfl ?_)))))))))))))))))))))));refine wz rfl rfl (wz rfl rfl (wz rfl rfl (wz rfl rfl (wz rfl rfl (wv (r:=rB true) (Av (b:=true) rfl rfl rfl) (wm rfl (wz rfl rfl (wz rfl rfl (wz rfl rfl (wz rfl rfl (wz rfl rfl (wv (r:=rB true) (Av (b:=true) rfl rfl rfl) (wm rfl (wz rfl rfl (wz rfl rfl (wz rfl rfl (wz rfl rfl (wz rfl rfl (wv (r:=rB true) (Av (b:=true) rfl rfl rfl) (Ai ?_))))))))))))))))))));exact BD c5
  ·refine wo c5 (vF AA rfl DN (wo c5 (vL 1 Ed rfl (wo c5 (vF AA rfl DN (wo c5 (vL 0 Ed rfl (wo c5 (BL Tryz.call63 (GI F a.fPath b.fPath (ov (Ck F a.fPath b.fPath)) (Cz (BO g3 c5))) rfl (wo c5 (wv (Bu rfl) (Cc rfl c5 rfl (wm rfl (AH (!(ov (Ck F a.fPath b.fPath))) (λc6=>?_) (λc6=>?_)))))))))))))))
   ·refine wf c6 (wf c6 (wf c6 (wf c6 (wf c6 (wv (r:=rB true) (Av rfl c6 rfl) (wm rfl (wz rfl rfl (wz rfl rfl (wz rfl rfl (wz rfl rfl (wz rfl rfl (wz rfl rfl (wz rfl rfl (wv (r:=rB true) (Av (b:=true) rfl rfl rfl) (wm rfl (wz rfl rfl (wz rfl rfl (wz rfl rfl (wz rfl rfl (wz rfl rfl (wv (r:=rB true) (Av (b:=true) rfl rfl rfl) (wm rfl (wz rfl rfl ?_)))))))))))))))))))))));refine wz rfl rfl (wz rfl rfl (wz rfl rfl (wz rfl rfl (wv (r:=rB true) (Av (b:=true) rfl rfl rfl) (wm rfl (wz rfl rfl (wz rfl rfl (wz rfl rfl (wz rfl rfl (wz rfl rfl (wv (r:=rB true) (Av (b:=true) rfl rfl rfl) (Ai ?_))))))))))));exact BD (And.intro c5 c6)
   ·refine wo c6 (vF AA rfl Bw (wo c6 (vL 1 Bx rfl (wo c6 (vF AA rfl Bw (wo c6 (vL 0 Bx rfl (wo c6 (wv (Bo rfl rfl) (Cc rfl c6 rfl (wm rfl (AH (!decide (a.fOp=b.fOp)) (λc7=>?_) (λc7=>?_)))))))))))))
    ·refine wf c7 (wf c7 (wf c7 (wf c7 (wf c7 (wf c7 (wf c7 (wv (r:=rB true) (Av rfl c7 rfl) (wm rfl (wz rfl rfl (wz rfl rfl (wz rfl rfl (wz rfl rfl (wz rfl rfl (wv (r:=rB true) (Av (b:=true) rfl rfl rfl) (wm rfl (wz rfl rfl (wz rfl rfl (wz rfl rfl (wz rfl rfl (wz rfl rfl (wv (r:=rB true) (Av (b:=true) rfl rfl rfl) (wm rfl (wz rfl rfl ?_)))))))))))))))))))))));refine wz rfl rfl (wz rfl rfl (wz rfl rfl (wz rfl rfl (wv (r:=rB true) (Av (b:=true) rfl rfl rfl) (Ai ?_)))));exact BD (And.intro c5 (And.intro c6 c7))
    ·refine wo c7 (vF AA rfl C9 (wo c7 (vL 1 CI rfl (wo c7 (wv (AK (ys:=a.fValues) (enc:=Ae) Cd rfl) (wo c7 (vF AA rfl C9 (wo c7 (vL 0 CI rfl (wo c7 (wv (AK (ys:=b.fValues) (enc:=Ae) Cd rfl) (wo c7 (wv (Bo rfl rfl) (Cc rfl c7 rfl (wm rfl (AH (!decide ((a.fValues.length:Int)=(b.fValues.length:Int))) (λc8=>?_) (λc8=>?_)))))))))))))))))
     ·refine wf c8 (wf c8 (wf c8 (wf c8 (wf c8 (wv (r:=rB true) (Av rfl c8 rfl) (wm rfl (wz rfl rfl (wz rfl rfl (wz rfl rfl (wz rfl rfl (wz rfl rfl (wv (r:=rB true) (Av (b:=true) rfl rfl rfl) (wm rfl (wz rfl rfl (wz rfl rfl (wz rfl rfl (wz rfl rfl (wz rfl rfl (wv (r:=rB true) (Av (b:=true) rfl rfl rfl) (Ai ?_))))))))))))))))))));exact BD (And.intro c5 (And.intro c6 (And.intro c7 c8)))
     ·refine wo c8 (vF AA rfl C6 (wo c8 (vL 1 CG rfl (wo c8 (vF AA rfl C6 (wo c8 (vL 0 CG rfl (wo c8 (wv (EH rfl rfl) (Cc rfl c8 rfl (wm rfl (AH (!decide (a.fText=b.fText)) (λc9=>?_) (λc9=>?_)))))))))))))
      ·refine wf c9 (wf c9 (wf c9 (wf c9 (wf c9 (wv (r:=rB true) (Av rfl c9 rfl) (wm rfl (wz rfl rfl (wz rfl rfl (wz rfl rfl (wz rfl rfl (wz rfl rfl (wv (r:=rB true) (Av (b:=true) rfl rfl rfl) (Ai ?_)))))))))))));exact BD (And.intro c5 (And.intro c6 (And.intro c7 (And.intro c8 c9))))
      ·refine wo c9 (vF AA rfl B3 (wo c9 (vL 1 BG rfl (wo c9 (vF AA rfl B3 (wo c9 (vL 0 BG rfl (wo c9 (wv (Bo rfl rfl) (Cc rfl c9 rfl (wm rfl (AH (!decide (a.fLow=b.fLow)) (λha=>?_) (λha=>?_)))))))))))))
       ·refine wf ha (wf ha (wf ha (wf ha (wf ha (wv (r:=rB true) (Av rfl ha rfl) (Ai ?_))))));exact BD (And.intro c5 (And.intro c6 (And.intro c7 (And.intro c8 (And.intro c9 ha)))))
       ·refine wo ha (vF AA rfl B3 (wo ha (vL 1 BG rfl (wo ha (vF AA rfl B3 (wo ha (vL 0 BG rfl (wo ha (wv (Bo rfl rfl) (Cc rfl ha rfl (Ai ?_)))))))))));exact BD (And.intro c5 (And.intro c6 (And.intro c7 (And.intro c8 (And.intro c9 ha)))))
 refine cz h4 rfl (λhi hj=>?_) (λhi hk=>?_)
 ·refine Af (wa rfl (Am (Aq (Ac ?_))));obtain rfl:=Ao hj;exact Ap (Bs Tryz.results23 (A5 rfl)) (sS (sS sN)) ⟨rfl,rfl⟩
 ·refine At (AD (An (Af (vF AA rfl C9 (vL 1 CI rfl (wv (AK (ys:=a.fValues) (enc:=Ae) Cd rfl) (wv (r:=Al 0) (A3 rfl) (Am (A6 (ob hk λhl hm hh=>Bd (S:=Nat×(Int)×(Unit)) (V:=(Unit)×(Unit)) 0 (λσ=>Cf (λσ=>GK F a b σ) σ.1 σ.2.1=some hl) (λσ=>[(2,rP b1 0),(3,rP b2 0),(60,Al (a.fValues.length:Int)),(61,Al σ.2.1)]) (λσ=>[.blk b2 (Ad b) 26,.blk b1 (Ad a) 26]) (λσ=>σ.1) (F,0,()) hm (Az.c rfl (Az.c rfl (Az.c rfl (Az.c rfl Az.nil)))) (sC (sC sN)) (λσ=>GJ =some r) (λσ=>[]) (λσ=>[]) ?_ ?_))))))))))
  ·rintro⟨hA,hb,⟨⟩⟩ hn;refine B7 (l':=[(2,rP b1 0),(3,rP b2 0),(60,Al (a.fValues.length:Int)),(61,Al hb)]) (H':=[.blk b2 (Ad b) 26,.blk b1 (Ad a) 26]) rfl rfl ?_;obtain⟨ho,rfl,hp,he,hg⟩:=Ca hn;replace he:GK F a b hb=some hp:=he;unfold GK at he;refine Af (wv (Cl rfl rfl) (Am (An (cz he rfl (λhq hr=>?_) (λhq hs=>?_)))))
   ·refine At (AD (An (A6 (Af (wm rfl (wa rfl (Am (An (ck hr λht hu=>ck hu λhw hx=>L2 10 [2,3,5,60,61] [⟨[],rP b1 2,none,none,none⟩,⟨[0],AJ 1 (A2 Ae a.fValues),none,none,none⟩,⟨[],Al hb,none,none,none⟩,⟨[1,2],J0 [AJ 4 (A2 Ab (Ax a.fValues hb))],none,none,none⟩,⟨[3],AJ 4 (A2 Ab (Ax a.fValues hb)),none,none,none⟩,⟨[],rP b2 2,none,none,none⟩,⟨[5],AJ 1 (A2 Ae b.fValues),none,none,none⟩,⟨[],Al hb,none,none,none⟩,⟨[6,7],J0 [AJ 4 (A2 Ab (Ax b.fValues hb))],none,none,none⟩,⟨[8],AJ 4 (A2 Ab (Ax b.fValues hb)),none,none,none⟩] ?_ (λβ=>?_))))))))))
    ·refine Ns (AI AA rfl C9 rfl rfl) (WT (Bp (i:=1) CI rfl rfl rfl) (Ns (A3 rfl) (Ns (AU (enc:=Ae) (ys:=a.fValues) Cd Co rfl rfl ht) (Ns (AM CS rfl rfl) (Ns (AI AA rfl C9 rfl rfl) (WT (Bp (i:=0) CI rfl rfl rfl) (Ns (A3 rfl) (Ns (AU (enc:=Ae) (ys:=b.fValues) Cd Co rfl rfl hw) (Ns (AM CS rfl rfl) ?_)))))))));exact WU
    refine NC (H1:=[.blk b2 (Ad b) 26,.blk b1 (Ad a) 26]) [64,65,66,67,68,69,70,71,72,73,2,3,5,60,61] ?_;refine ob hx λhy hz h0=>BL Tryz.call64 (Qw F (Ax a.fValues hb) (Ax b.fValues hb) hy hz) rfl (wv (Bu rfl) (Am (cz h0 rfl (λh1 h2=>?_) (λh1 h3=>?_))))
    ·refine Af (wa rfl (Am (Aq (Au (Ac (Ac (AP ?_)))))));have h5:=Bg h2 hg hh;refine Au (Ac ?_);obtain rfl:=Ao h5;exact Ap (Bs Tryz.results23 (A5 rfl)) (sS (sS sN)) ⟨rfl,rfl⟩
    ·refine At (A4 (AD (Aj (ck h3 λh6 h7=>wv (Be rfl rfl h6) (wm rfl (Ai ?_))))));have h8:=AW h7 hg;exact As (Ar (ho,hb+1,()) ⟨h8,X0 _⟩ (Az.c rfl (Az.c rfl (Az.c rfl (Az.c rfl Az.nil)))) (sC (sC sN)))
   ·refine Bl (Ay ?_);have h9:=BB hs hg hh;exact Ay (AS (Ar ((),()) h9 Az.nil (sS (sS sN))))
  ·rintro⟨⟨⟩,⟨⟩⟩ hf;refine Ce (l':=[]) (H':=[]) rfl rfl ?_;replace hf:GJ =some r:=hf;unfold GJ at hf;refine AV (AD (Af (wa rfl (Am (Aq ?_)))));obtain rfl:=Ao hf;exact Ap (Bs Tryz.results23 (A5 rfl)) sN ⟨rfl,rfl⟩
theorem Lv (F:Nat)(v:(List Aa))(r:Bool)(h:DY F v=some r):Fn Tryz.prog GE 11 [AJ 4 (A2 Ab v)] [] (λR H=>R=rB r∧H=[]):=by
 refine enter (n:=20) Tryz.func11 rfl Tryz.ntmps11 rfl (λw Z=>?_);unfold DY at h;refine Af (wa rfl (Am (An (Af (wm rfl (wv (AK (ys:=v) (enc:=Ab) Bv rfl) (wv (CB rfl rfl) (Am (cz h rfl (λc1 h2=>?_) (λc1 h3=>?_))))))))))
 ·refine Af (wa rfl (Am (Aq (Ac ?_))));obtain rfl:=Ao h2;exact Ap (Bs Tryz.results11 (A5 rfl)) sN ⟨rfl,rfl⟩
 ·refine At (AD (An (Af (wm rfl (wv (AK (ys:=v) (enc:=Ab) Bv rfl) (wv (r:=Al 0) (A3 rfl) (Am (A6 (ob h3 λhh hi hg=>Bd (S:=Nat×(Int)×(Unit)) (V:=(Unit)×(Unit)) 0 (λσ=>Cf (λσ=>CQ v σ) σ.1 σ.2.1=some hh) (λσ=>[(0,AJ 4 (A2 Ab v)),(8,Al (v.length:Int)),(9,Al σ.2.1)]) (λσ=>[]) (λσ=>σ.1) (F,0,()) hi (Az.c rfl (Az.c rfl (Az.c rfl Az.nil))) sN (λσ=>Do =some r) (λσ=>[]) (λσ=>[]) ?_ ?_)))))))))
  ·rintro⟨hz,he,⟨⟩⟩ hj;refine B7 (l':=[(0,AJ 4 (A2 Ab v)),(8,Al (v.length:Int)),(9,Al he)]) (H':=[]) rfl rfl ?_;obtain⟨hk,rfl,t37,ha,hf⟩:=Ca hj;replace ha:CQ v he=some t37:=ha;unfold CQ at ha;refine Af (wv (Cl rfl rfl) (Am (An (cz ha rfl (λhl hm=>?_) (λhl hn=>?_)))))
   ·refine At (AD (An (A6 (Af (wm rfl (wa rfl (Bb (wm rfl (wm rfl (ck hm λho hp=>wv (AU (enc:=Ab) (ys:=v) Bv BC rfl rfl ho) (wv (AR Bm rfl C6 rfl rfl) (wv (AM CG rfl rfl) (wv (BP D4 rfl) (wv (CB rfl rfl) (Am (cz hp rfl (λhq hr=>?_) (λhq hs=>?_)))))))))))))))))
    ·refine Af (wa rfl (Am (Aq (Au (Ac (Ac (AP ?_)))))));have ht:=Bg hr hf hg;refine Au (Ac ?_);obtain rfl:=Ao ht;exact Ap (Bs Tryz.results11 (A5 rfl)) sN ⟨rfl,rfl⟩
    ·refine At (A4 (AD (Aj (ck hs λhu hw=>wv (Be rfl rfl hu) (wm rfl (Ai ?_))))));have hx:=AW hw hf;exact As (Ar (hk,he+1,()) ⟨hx,X0 _⟩ (Az.c rfl (Az.c rfl (Az.c rfl Az.nil))) sN)
   ·refine Bl (Ay ?_);have hy:=BB hn hf hg;exact Ay (AS (Ar ((),()) hy Az.nil sN))
  ·rintro⟨⟨⟩,⟨⟩⟩ hb;refine Ce (l':=[]) (H':=[]) rfl rfl ?_;replace hb:Do =some r:=hb;unfold Do at hb;refine AV (AD (Af (wa rfl (Am (Aq ?_)))));obtain rfl:=Ao hb;exact Ap (Bs Tryz.results11 (A5 rfl)) sN ⟨rfl,rfl⟩
theorem M6 (F:Nat)(f:Ah)(r:Bool)(h:De F f=some r):Fn Tryz.prog GE 9 [Bt (Ad f)] [] (λR H=>R=rB r∧H=[]):=by
 refine enter (n:=49) Tryz.func9 rfl Tryz.ntmps9 rfl (λw Z=>?_);unfold De at h;refine Af (Bq rfl rfl (λb1=>?_));refine wa rfl (Am (An (AE [(1,rP b1 0),(20,rB ((decide (10<(f.fPath.length:Int)))||((decide (20<(f.fValues.length:Int)))||(decide (1000<(f.fText.length:Int))))))] [.blk b1 (Ad f) 26] ?_ ?_)))
 ·refine Aj (vF AA rfl DN (vL 0 Ed rfl (wv (AK (ys:=f.fPath) (enc:=eS) Dc rfl) (wv (CB rfl rfl) (wm rfl (AH (decide (10<(f.fPath.length:Int))) (λc2=>?_) (λc2=>?_)))))))
  ·refine wf c2 (wf c2 (wf c2 (wf c2 (wv (r:=rB true) (Av rfl c2 rfl) (wm rfl (wz rfl rfl (wz rfl rfl (wz rfl rfl (wz rfl rfl (wv (r:=rB true) (Av (b:=true) rfl rfl rfl) (Ai ?_)))))))))));exact BD c2
  ·refine wo c2 (vF AA rfl C9 (wo c2 (vL 0 CI rfl (wo c2 (wv (AK (ys:=f.fValues) (enc:=Ae) Cd rfl) (wo c2 (wv (CB rfl rfl) (Cc rfl c2 rfl (wm rfl (AH (decide (20<(f.fValues.length:Int))) (λc3=>?_) (λc3=>?_)))))))))))
   ·refine wf c3 (wf c3 (wf c3 (wf c3 (wv (r:=rB true) (Av rfl c3 rfl) (Ai ?_)))));exact BD (And.intro c2 c3)
   ·refine wo c3 (vF AA rfl C6 (wo c3 (vL 0 CG rfl (wo c3 (wv (BP D4 rfl) (wo c3 (wv (CB rfl rfl) (Cc rfl c3 rfl (Ai ?_)))))))));exact BD (And.intro c2 c3)
 refine cz h rfl (λc4 h5=>?_) (λc4 h6=>?_)
 ·refine Af (wa rfl (Am (Aq (Ac ?_))));obtain rfl:=Ao h5;exact Ap (Bs WN (A5 rfl)) (sS sN) ⟨rfl,rfl⟩
 ·refine At (AD (An (Af (vF AA rfl DN (vL 0 Ed rfl (wv (AK (ys:=f.fPath) (enc:=eS) Dc rfl) (wv (r:=Al 0) (A3 rfl) (Am (A6 (ob h6 λhm hn hk=>Bd (S:=Nat×(Int)×(Unit)) (V:=(Unit)×(Unit)) 0 (λσ=>Cf (λσ=>Eo f σ) σ.1 σ.2.1=some hm) (λσ=>[(1,rP b1 0),(23,Al (f.fPath.length:Int)),(24,Al σ.2.1)]) (λσ=>[.blk b1 (Ad f) 26]) (λσ=>σ.1) (F,0,()) hn (Az.c rfl (Az.c rfl (Az.c rfl Az.nil))) (sC sN) (λσ=>Em F f =some r) (λσ=>[(1,rP b1 0)]) (λσ=>[.blk b1 (Ad f) 26]) ?_ ?_))))))))))
  ·rintro⟨hT,hh,⟨⟩⟩ ho;refine B7 (l':=[(1,rP b1 0),(23,Al (f.fPath.length:Int)),(24,Al hh)]) (H':=[.blk b1 (Ad f) 26]) rfl rfl ?_;obtain⟨hp,rfl,hq,ha,hi⟩:=Ca ho;replace ha:Eo f hh=some hq:=ha;unfold Eo at ha;refine Af (wv (Cl rfl rfl) (Am (An (cz ha rfl (λc46 hr=>?_) (λc46 hs=>?_)))))
   ·refine At (AD (An (A6 (Af (wm rfl (wa rfl (Bb (vF AA rfl DN (vL 0 Ed rfl (wm rfl (ck hr λht hu=>wv (AU (enc:=eS) (ys:=f.fPath) Dc C6 rfl rfl ht) (wv (AM CG rfl rfl) (wv (BP D4 rfl) (wv (CB rfl rfl) (Am (cz hu rfl (λhw hx=>?_) (λhw hy=>?_)))))))))))))))))
    ·refine Af (wa rfl (Am (Aq (Au (Ac (Ac (AP ?_)))))));have hz:=Bg hx hi hk;refine Au (Ac ?_);obtain rfl:=Ao hz;exact Ap (Bs WN (A5 rfl)) (sS sN) ⟨rfl,rfl⟩
    ·refine At (A4 (AD (Aj (ck hy λh0 h1=>wv (Be rfl rfl h0) (wm rfl (Ai ?_))))));have h2:=AW h1 hi;exact As (Ar (hp,hh+1,()) ⟨h2,X0 _⟩ (Az.c rfl (Az.c rfl (Az.c rfl Az.nil))) (sC sN))
   ·refine Bl (Ay ?_);have h3:=BB hs hi hk;exact Ay (AS (Ar ((),()) h3 (Az.c rfl Az.nil) (sC sN)))
  ·rintro⟨⟨⟩,⟨⟩⟩ hb;refine Ce (l':=[(1,rP b1 0)]) (H':=[.blk b1 (Ad f) 26]) rfl rfl ?_;replace hb:Em F f =some r:=hb;unfold Em at hb;refine AV (AD (An (Af (vF AA rfl C9 (vL 0 CI rfl (wv (AK (ys:=f.fValues) (enc:=Ae) Cd rfl) (wv (r:=Al 0) (A3 rfl) (Am (A6 (ob hb λh4 h7 hl=>Bd (S:=Nat×(Int)×(Unit)) (V:=(Unit)×(Unit)) 2 (λσ=>Cf (λσ=>En F f σ) σ.1 σ.2.1=some h4) (λσ=>[(1,rP b1 0),(37,Al (f.fValues.length:Int)),(38,Al σ.2.1)]) (λσ=>[.blk b1 (Ad f) 26]) (λσ=>σ.1) (F,0,()) h7 (Az.c rfl (Az.c rfl (Az.c rfl Az.nil))) (sC sN) (λσ=>EJ =some r) (λσ=>[]) (λσ=>[]) ?_ ?_))))))))))
   ·rintro⟨hU,he,⟨⟩⟩ h8;refine B7 (l':=[(1,rP b1 0),(37,Al (f.fValues.length:Int)),(38,Al he)]) (H':=[.blk b1 (Ad f) 26]) rfl rfl ?_;obtain⟨h9,rfl,hA,hf,hj⟩:=Ca h8;replace hf:En F f he=some hA:=hf;unfold En at hf;refine Af (wv (Cl rfl rfl) (Am (An (cz hf rfl (λhB hC=>?_) (λhB hD=>?_)))))
    ·refine At (AD (An (A6 (Af (wm rfl (wa rfl (Bb (vF AA rfl C9 (vL 0 CI rfl (wm rfl (ck hC λhE hG=>wv (AU (enc:=Ae) (ys:=f.fValues) Cd Co rfl rfl hE) (wv (AM CS rfl rfl) (ob hG λhH hI hJ=>BL Tryz.call11 (Lv F (Ax f.fValues he) hH hI) rfl (wv (Bu rfl) (Am (cz hJ rfl (λhK hL=>?_) (λhK hN=>?_)))))))))))))))))
     ·refine Af (wa rfl (Am (Aq (Au (Ac (Ac (AP ?_)))))));have hO:=Bg hL hj hl;refine Au (Ac ?_);obtain rfl:=Ao hO;exact Ap (Bs WN (A5 rfl)) (sS sN) ⟨rfl,rfl⟩
     ·refine At (A4 (AD (Aj (ck hN λhP hQ=>wv (Be rfl rfl hP) (wm rfl (Ai ?_))))));have hR:=AW hQ hj;exact As (Ar (h9,he+1,()) ⟨hR,X0 _⟩ (Az.c rfl (Az.c rfl (Az.c rfl Az.nil))) (sC sN))
    ·refine Bl (Ay ?_);have hS:=BB hD hj hl;exact Ay (AS (Ar ((),()) hS Az.nil (sS sN)))
   ·rintro⟨⟨⟩,⟨⟩⟩ hg;refine Ce (l':=[]) (H':=[]) rfl rfl ?_;replace hg:EJ =some r:=hg;unfold EJ at hg;refine AV (AD (Af (wa rfl (Am (Aq ?_)))));obtain rfl:=Ao hg;exact Ap (Bs WN (A5 rfl)) sN ⟨rfl,rfl⟩
end Go.Proofs.YtghdglcmblpbeaaGreatDoor.Q
namespace Go.Proofs.YtghdglcmblpbeaaGreatDoor
open Go
set_option linter.unusedVariables false
def Kd (n:Int):Option ((List Aa)):=
 some ([(Aa.mk 3 n ([]:Aw) 0)]:List Aa)
def Gt (F:Nat) :Option (Bool):=
 Bf (Oh F (Ah.mk ([([97]:Aw)]:List Aw) 6 ([]:List (List Aa)) ([]:Aw) 1 5)) λr4=>Bf (Qq F ([91,91,34,97,34,93,44,34,114,97,110,103,101,34,44,49,44,53,93]:Aw)) λr7=>Bf (Kd 2) λha=>Bf (T4 F (Ah.mk ([([97]:Aw)]:List Aw) 6 ([]:List (List Aa)) ([]:Aw) 1 5) ([(Aa.mk 6 0 ([]:Aw) 1),(Aa.mk 4 0 ([97]:Aw) 0),(Aa.mk 3 3 ([]:Aw) 0)]:List Aa)) λhb=>AY (hb)<|Bf (Kd 3) λhe=>Bf (T4 F (Ah.mk ([([97]:Aw)]:List Aw) 6 ([]:List (List Aa)) ([]:Aw) 1 5) he) λhf=>AY (!hf)<|AY (decide (r4.1=([91,91,34,97,34,93,44,34,114,97,110,103,101,34,44,49,44,53,93]:Aw)))<|AY (decide (r4.2=0))<|AY (decide (r7.2=0))<|Bf (M8 F (Ah.mk ([([97]:Aw)]:List Aw) 6 ([]:List (List Aa)) ([]:Aw) 1 5) r7.1) λhg=>AY (hg)<|Bf (Bk F (Ah.mk ([([97]:Aw)]:List Aw) 6 ([]:List (List Aa)) ([]:Aw) 2 3) (Ah.mk ([([97]:Aw)]:List Aw) 6 ([]:List (List Aa)) ([]:Aw) 1 5)) λhh=>AY (hh)<|Bf (Bk F (Ah.mk ([([97]:Aw)]:List Aw) 6 ([]:List (List Aa)) ([]:Aw) 2 3) (Ah.mk ([([97]:Aw)]:List Aw) 4 ([ha]:List (List Aa)) ([]:Aw) 0 0)) λhi=>AY (!hi)<|Bf (Qs F ([]:List Ah) ([(Aa.mk 6 0 ([]:Aw) 1),(Aa.mk 4 0 ([97]:Aw) 0),(Aa.mk 3 3 ([]:Aw) 0)]:List Aa)) λhj=>some hj
def I8 (F:Nat)(a:Ah)(b:Ah):Option (Bool):=
 AY ((De F a).isSome)<|AY (imp (!(!(ov (De F a)))) ((De F b).isSome))<|AO (((!(ov (De F a)))||(!(ov (De F b))))) (Bf (Gt F) λha=>some ha) (AY ((Bk F a b).isSome)<|AY ((Bz F a b).isSome)<|AY (imp ((ov (Bk F a b)) ==(ov (Bz F a b))) ((Bk F a a).isSome))<|AY (imp ((ov (Bk F a b)) ==(ov (Bz F a b))) ((BT F a).isSome))<|AY (imp ((ov (Bk F a b)) ==(ov (Bz F a b))) (imp ((ov (Bk F a a)) ==(decide ((ov (BT F a))=0))) ((Gt F).isSome)))<|some (((ov (Bk F a b)) ==(ov (Bz F a b)))&&(((ov (Bk F a a)) ==(decide ((ov (BT F a))=0)))&&(ov (Gt F)))))
end Go.Proofs.YtghdglcmblpbeaaGreatDoor
namespace Go.Proofs.YtghdglcmblpbeaaGreatDoor.Q
open Go Go.RowKit
set_option linter.unusedVariables false
set_option linter.unusedSimpArgs false
set_option maxRecDepth 100000
set_option maxHeartbeats 4000000
theorem Lu {n:Nat}{c:Cx}{l:Fr}{H:List Ent}{d:Option Nat}{ty:TypeId}{pos:String}{af:Array Edge}{g:Option (Nat×Bool)}{x0:Operand}{r0:Rp}(h0:ev l x0=some r0)(u0:r0.one=true){x1:Operand}{r1:Rp}(h1:ev l x1=some r1)(u1:r1.one=true){x2:Operand}{r2:Rp}(h2:ev l x2=some r2)(u2:r2.one=true):B2 Tryz.prog n c l H { dst:=d,op:=.build 26 #[(0,x0),(1,x1),(2,x2)],type:=ty,pos:=pos,after:=af,guard:=g } (Bt [r0,r1,r2,rS ([]:Aw),Al 0,Al 0]):=λa w Z ha _=>by
  have p0:=ha.ev h0;have c0:=BZ (r0.hone u0 Z _ p0);have p1:=ha.ev h1;have c1:=BZ (r1.hone u1 Z _ p1);have p2:=ha.ev h2;have c2:=BZ (r2.hone u2 Z _ p2);have hb:Tryz.prog.built 26 [(0,a.eval x0),(1,a.eval x1),(2,a.eval x2)]=some #[a.eval x0,a.eval x1,a.eval x2,(.string ⟨#[]⟩),(.int .i64 0),(.int .i64 0)]:=by
    rw[Ow];generalize a.eval x0=v0 at *;generalize a.eval x1=v1 at *;generalize a.eval x2=v2 at *;simp[Instr.fill,c0,c1,c2]
  refine⟨.agg #[a.eval x0,a.eval x1,a.eval x2,(.string ⟨#[]⟩),(.int .i64 0),(.int .i64 0)],⟨[a.eval x0,a.eval x1,a.eval x2,(.string ⟨#[]⟩),(.int .i64 0),(.int .i64 0)],rfl,p0,p1,p2,rfl,rfl,rfl,trivial⟩,?_⟩;have:=run_build w 26 #[(0,a.eval x0),(1,a.eval x1),(2,a.eval x2)] _ (by simpa using hb);simp[execOp,this]
theorem GC {n:Nat}{c:Cx}{l:Fr}{H:List Ent}{d:Option Nat}{ty:TypeId}{pos:String}{af:Array Edge}{g:Option (Nat×Bool)}{x0:Operand}{r0:Rp}(h0:ev l x0=some r0)(u0:r0.one=true){x1:Operand}{r1:Rp}(h1:ev l x1=some r1)(u1:r1.one=true){x4:Operand}{r4:Rp}(h4:ev l x4=some r4)(u4:r4.one=true){x5:Operand}{r5:Rp}(h5:ev l x5=some r5)(u5:r5.one=true):B2 Tryz.prog n c l H { dst:=d,op:=.build 26 #[(0,x0),(1,x1),(4,x4),(5,x5)],type:=ty,pos:=pos,after:=af,guard:=g } (Bt [r0,r1,rv (.slice none 0 0),rS ([]:Aw),r4,r5]):=λa w Z ha _=>by
  have p0:=ha.ev h0;have c0:=BZ (r0.hone u0 Z _ p0);have p1:=ha.ev h1;have c1:=BZ (r1.hone u1 Z _ p1);have p4:=ha.ev h4;have c4:=BZ (r4.hone u4 Z _ p4);have p5:=ha.ev h5;have c5:=BZ (r5.hone u5 Z _ p5);have hb:Tryz.prog.built 26 [(0,a.eval x0),(1,a.eval x1),(4,a.eval x4),(5,a.eval x5)]=some #[a.eval x0,a.eval x1,((.slice none 0 0)),(.string ⟨#[]⟩),a.eval x4,a.eval x5]:=by
    rw[Ow];generalize a.eval x0=v0 at *;generalize a.eval x1=v1 at *;generalize a.eval x4=v4 at *;generalize a.eval x5=v5 at *;simp[Instr.fill,c0,c1,c4,c5]
  refine⟨.agg #[a.eval x0,a.eval x1,((.slice none 0 0)),(.string ⟨#[]⟩),a.eval x4,a.eval x5],⟨[a.eval x0,a.eval x1,((.slice none 0 0)),(.string ⟨#[]⟩),a.eval x4,a.eval x5],rfl,p0,p1,rfl,rfl,p4,p5,trivial⟩,?_⟩;have:=run_build w 26 #[(0,a.eval x0),(1,a.eval x1),(4,a.eval x4),(5,a.eval x5)] _ (by simpa using hb);simp[execOp,this]
theorem Mr (n:Int)(r:(List Aa))(h:Kd n=some r):Fn Tryz.prog GE 28 [Al n] [] (λR H=>R=AJ 4 (A2 Ab r)∧H=[]):=by
 refine enter (n:=6) Tryz.func28 rfl Tryz.ntmps28 rfl (λw Z=>?_);unfold Kd at h;refine Af (wa rfl (Bb (wm rfl (wv (r:=Bt [Al 3,Al n,rS ([]:Aw),Al 0]) (DW rfl rfl rfl rfl) (AZ (ys:=([(Aa.mk 3 n ([]:Aw) 0)]:List Aa)) (enc:=Ab) (css:=[[Al 3,Al n,rS ([]:Aw),Al 0]]) (xs:=[.tmp 4]) Bv BC GV rfl rfl rfl ⟨EA.agg ⟨Up.refl _,Up.refl _,Up.refl _,Up.refl _,trivial⟩,trivial⟩ rfl Bi rfl rfl rfl (λb1=>?_))))));refine wa rfl (Am (Aq (WK.freeze (i:=0) rfl (WK.up (d:=2) (r:=AJ 4 (A2 Ab ([(Aa.mk 3 n ([]:Aw) 0)]:List Aa))) rfl (Up.fact (i:=0) rfl) ?_))));obtain rfl:=Ao h;exact Ap (Bs Tryz.results28 (A5 rfl)) (sS sN) ⟨rfl,rfl⟩
theorem Pj (F:Nat)  (r:Bool)(h:Gt F=some r):Fn Tryz.prog GE 12 [] [] (λR H=>R=rB r∧H=[]):=by
 refine enter (n:=71) Tryz.func12 rfl Tryz.ntmps12 rfl (λw Z=>?_);unfold Gt at h;refine Af (wa rfl (Bb (AZ (ys:=([([97]:Aw)]:List Aw)) (enc:=eS) (css:=[[rS ([97]:Aw)]]) (xs:=[.const (.string ⟨#[97]⟩)]) Dc C6 Wl rfl rfl rfl ⟨EA.one rfl (Up.refl _),trivial⟩ rfl IE rfl rfl rfl (λb1=>?_))));refine wv (r:=Bt [rv (.slice (some ⟨b1,0,none⟩) 1 1),Al 6,rv (.slice none 0 0),rS ([]:Aw),Al 1,Al 5]) (GC rfl rfl rfl rfl rfl rfl rfl rfl) (Cm (cs:=[rv (.slice none 0 0),Al 0,rv (.slice none 0 0),rS ([]:Aw),Al 0,Al 0]) O4 rfl rfl (λb2=>?_));refine Bh (i:=0) B1 rfl rfl rfl ⟨(CZ (i:=1) rfl),(BQ rfl),(BQ rfl),(BQ rfl),(BQ rfl),(BQ rfl),trivial⟩ rfl rfl (cs':=[rv (.slice (some ⟨b1,0,none⟩) 1 1),Al 6,rv (.slice none 0 0),rS ([]:Aw),Al 1,Al 5]) rfl (H':=[.blk b2 [rv (.slice (some ⟨b1,0,none⟩) 1 1),Al 6,rv (.slice none 0 0),rS ([]:Aw),Al 1,Al 5] 26,.row (.slice (some ⟨b1,0,none⟩) 1 1) 9 1 (A2 eS ([([97]:Aw)]:List Aw))]) rfl (Bb (wv (r:=Bt [Al 6,Al 0,rS ([]:Aw),Al 1]) (Jj rfl rfl rfl rfl) (wv (r:=Bt [Al 4,Al 0,rS ([97]:Aw),Al 0]) (DV rfl rfl rfl rfl) (wv (r:=Bt [Al 3,Al 3,rS ([]:Aw),Al 0]) (DW rfl rfl rfl rfl) (AZ (ys:=([(Aa.mk 6 0 ([]:Aw) 1),(Aa.mk 4 0 ([97]:Aw) 0),(Aa.mk 3 3 ([]:Aw) 0)]:List Aa)) (enc:=Ab) (css:=[[Al 6,Al 0,rS ([]:Aw),Al 1],[Al 4,Al 0,rS ([97]:Aw),Al 0],[Al 3,Al 3,rS ([]:Aw),Al 0]]) (xs:=[.tmp 11,.tmp 12,.tmp 13]) Bv BC GV rfl rfl rfl ⟨EA.agg ⟨Up.refl _,Up.refl _,Up.refl _,Up.refl _,trivial⟩,EA.agg ⟨Up.refl _,Up.refl _,Up.refl _,Up.refl _,trivial⟩,EA.agg ⟨Up.refl _,Up.refl _,Up.refl _,Up.refl _,trivial⟩,trivial⟩ rfl Bi rfl rfl rfl (λb3=>?_))))));refine wa rfl (Bb (wv (AB (i:=1) BJ B1 rfl rfl rfl rfl) (WL.freeze (i:=2) rfl (WL.up (d:=16) (r:=Bt [AJ 1 (A2 eS ([([97]:Aw)]:List Aw)),Al 6,rv (.slice none 0 0),rS ([]:Aw),Al 1,Al 5]) rfl (Up.agg ⟨Up.fact (i:=0) rfl,Up.refl _,Up.refl _,Up.refl _,Up.refl _,Up.refl _,trivial⟩) (WL.up (d:=16) (r:=Bt [AJ 1 (A2 eS ([([97]:Aw)]:List Aw)),Al 6,AJ 1 (A2 Ae ([]:List (List Aa))),rS ([]:Aw),Al 1,Al 5]) rfl (Up.agg ⟨Up.refl _,Up.refl _,Up.le (Et.nil _),Up.refl _,Up.refl _,Up.refl _,trivial⟩) (ob h λr4 e6 h5=>BL Tryz.call19 (Sd F (Ah.mk ([([97]:Aw)]:List Aw) 6 ([]:List (List Aa)) ([]:Aw) 1 5) r4 e6) rfl (wm rfl (wv (AC rfl rfl) (wv (AC rfl rfl) (wa rfl (wa rfl (Bb (ob h5 λr7 e9 h8=>BL Tryz.call21 (T3 F ([91,91,34,97,34,93,44,34,114,97,110,103,101,34,44,49,44,53,93]:Aw) r7 e9) rfl (wm rfl (wv (AC rfl rfl) (wv (AC rfl rfl) (Cm (cs:=[rv (.slice none 0 0),Al 0,rv (.slice none 0 0),rS ([]:Aw),Al 0,Al 0]) O4 rfl rfl (λhq=>?_))))))))))))))))));refine Bh (i:=0) B1 rfl rfl rfl (BU.c rfl) rfl rfl (cs':=[AJ 1 (A2 eS r7.1.fPath),Al r7.1.fOp,AJ 1 (A2 Ae r7.1.fValues),rS r7.1.fText,Al r7.1.fLow,Al r7.1.fHigh]) rfl (H':=[.blk hq (Ad r7.1) 26,.fact (.slice (some ⟨b1,0,none⟩) 1 1) (AJ 1 (A2 eS ([([97]:Aw)]:List Aw))),.row (.slice (some ⟨b3,0,none⟩) 3 3) 54 4 (A2 Ab ([(Aa.mk 6 0 ([]:Aw) 1),(Aa.mk 4 0 ([97]:Aw) 0),(Aa.mk 3 3 ([]:Aw) 0)]:List Aa)),.blk b2 [rv (.slice (some ⟨b1,0,none⟩) 1 1),Al 6,rv (.slice none 0 0),rS ([]:Aw),Al 1,Al 5] 26]) rfl (wa rfl (Bb (AZ (ys:=([([97]:Aw)]:List Aw)) (enc:=eS) (css:=[[rS ([97]:Aw)]]) (xs:=[.const (.string ⟨#[97]⟩)]) Dc C6 Wl rfl rfl rfl ⟨EA.one rfl (Up.refl _),trivial⟩ rfl IE rfl rfl rfl (λhb=>?_))));refine wv (r:=Bt [rv (.slice (some ⟨hb,0,none⟩) 1 1),Al 6,rv (.slice none 0 0),rS ([]:Aw),Al 2,Al 3]) (GC rfl rfl rfl rfl rfl rfl rfl rfl) (Cm (cs:=[rv (.slice none 0 0),Al 0,rv (.slice none 0 0),rS ([]:Aw),Al 0,Al 0]) O4 rfl rfl (λhx=>?_));refine Bh (i:=0) B1 rfl rfl rfl ⟨(CZ (i:=1) rfl),(BQ rfl),(BQ rfl),(BQ rfl),(BQ rfl),(BQ rfl),trivial⟩ rfl rfl (cs':=[rv (.slice (some ⟨hb,0,none⟩) 1 1),Al 6,rv (.slice none 0 0),rS ([]:Aw),Al 2,Al 3]) rfl (H':=[.blk hx [rv (.slice (some ⟨hb,0,none⟩) 1 1),Al 6,rv (.slice none 0 0),rS ([]:Aw),Al 2,Al 3] 26,.row (.slice (some ⟨hb,0,none⟩) 1 1) 9 1 (A2 eS ([([97]:Aw)]:List Aw)),.blk hq (Ad r7.1) 26,.fact (.slice (some ⟨b1,0,none⟩) 1 1) (AJ 1 (A2 eS ([([97]:Aw)]:List Aw))),.row (.slice (some ⟨b3,0,none⟩) 3 3) 54 4 (A2 Ab ([(Aa.mk 6 0 ([]:Aw) 1),(Aa.mk 4 0 ([97]:Aw) 0),(Aa.mk 3 3 ([]:Aw) 0)]:List Aa)),.blk b2 [rv (.slice (some ⟨b1,0,none⟩) 1 1),Al 6,rv (.slice none 0 0),rS ([]:Aw),Al 1,Al 5] 26]) rfl (Bb (AZ (ys:=([([97]:Aw)]:List Aw)) (enc:=eS) (css:=[[rS ([97]:Aw)]]) (xs:=[.const (.string ⟨#[97]⟩)]) Dc C6 Wl rfl rfl rfl ⟨EA.one rfl (Up.refl _),trivial⟩ rfl IE rfl rfl rfl (λhm=>?_)));refine ob h8 λha hy hz=>BL Tryz.call28 (Mr 2 ha hy) rfl (AZ (ys:=([ha]:List (List Aa))) (enc:=Ae) (css:=[[AJ 4 (A2 Ab ha)]]) (xs:=[.tmp 27]) Cd Co N9 rfl rfl rfl ⟨EA.one rfl (Up.refl _),trivial⟩ rfl BW rfl rfl rfl (λhn=>?_));refine wv (r:=Bt [rv (.slice (some ⟨hm,0,none⟩) 1 1),Al 4,rv (.slice (some ⟨hn,0,none⟩) 1 1),rS ([]:Aw),Al 0,Al 0]) (Lu rfl rfl rfl rfl rfl rfl) (Cm (cs:=[rv (.slice none 0 0),Al 0,rv (.slice none 0 0),rS ([]:Aw),Al 0,Al 0]) O4 rfl rfl (λh0=>?_));refine Bh (i:=0) B1 rfl rfl rfl ⟨(CZ (i:=2) rfl),(BQ rfl),(CZ (i:=1) rfl),(BQ rfl),(BQ rfl),(BQ rfl),trivial⟩ rfl rfl (cs':=[rv (.slice (some ⟨hm,0,none⟩) 1 1),Al 4,rv (.slice (some ⟨hn,0,none⟩) 1 1),rS ([]:Aw),Al 0,Al 0]) rfl (H':=[.blk h0 [rv (.slice (some ⟨hm,0,none⟩) 1 1),Al 4,rv (.slice (some ⟨hn,0,none⟩) 1 1),rS ([]:Aw),Al 0,Al 0] 26,.row (.slice (some ⟨hn,0,none⟩) 1 1) 28 1 (A2 Ae ([ha]:List (List Aa))),.row (.slice (some ⟨hm,0,none⟩) 1 1) 9 1 (A2 eS ([([97]:Aw)]:List Aw)),.blk hx [rv (.slice (some ⟨hb,0,none⟩) 1 1),Al 6,rv (.slice none 0 0),rS ([]:Aw),Al 2,Al 3] 26,.row (.slice (some ⟨hb,0,none⟩) 1 1) 9 1 (A2 eS ([([97]:Aw)]:List Aw)),.blk hq (Ad r7.1) 26,.fact (.slice (some ⟨b1,0,none⟩) 1 1) (AJ 1 (A2 eS ([([97]:Aw)]:List Aw))),.row (.slice (some ⟨b3,0,none⟩) 3 3) 54 4 (A2 Ab ([(Aa.mk 6 0 ([]:Aw) 1),(Aa.mk 4 0 ([97]:Aw) 0),(Aa.mk 3 3 ([]:Aw) 0)]:List Aa)),.blk b2 [rv (.slice (some ⟨b1,0,none⟩) 1 1),Al 6,rv (.slice none 0 0),rS ([]:Aw),Al 1,Al 5] 26]) rfl (Am (An (WC.upBlk (i:=8) (cs':=[AJ 1 (A2 eS ([([97]:Aw)]:List Aw)),Al 6,AJ 1 (A2 Ae ([]:List (List Aa))),rS ([]:Aw),Al 1,Al 5]) rfl ⟨Up.fact (i:=6) rfl,Up.refl _,Up.le (Et.nil _),Up.refl _,Up.refl _,Up.refl _,trivial⟩ (WC.freeze (i:=4) rfl (WC.upBlk (i:=4) (cs':=[AJ 1 (A2 eS ([([97]:Aw)]:List Aw)),Al 6,AJ 1 (A2 Ae ([]:List (List Aa))),rS ([]:Aw),Al 2,Al 3]) rfl ⟨Up.fact (i:=0) rfl,Up.refl _,Up.le (Et.nil _),Up.refl _,Up.refl _,Up.refl _,trivial⟩ (WC.freeze (i:=3) rfl (WC.freeze (i:=3) rfl (WC.upBlk (i:=3) (cs':=[AJ 1 (A2 eS ([([97]:Aw)]:List Aw)),Al 4,AJ 1 (A2 Ae ([ha]:List (List Aa))),rS ([]:Aw),Al 0,Al 0]) rfl ⟨Up.fact (i:=1) rfl,Up.refl _,Up.fact (i:=0) rfl,Up.refl _,Up.refl _,Up.refl _,trivial⟩ (WC.freeze (i:=7) rfl (WC.up (d:=2) (r:=AJ 4 (A2 Ab ([(Aa.mk 6 0 ([]:Aw) 1),(Aa.mk 4 0 ([97]:Aw) 0),(Aa.mk 3 3 ([]:Aw) 0)]:List Aa))) rfl (Up.fact (i:=0) rfl) (ob hz λhf h1 h2=>ck h2 λhg h3=>ob h3 λhr h4 h6=>ob h6 λhh h7 h9=>ck h9 λhs hA=>ck hA λht hB=>ck hB λhu hC=>ck hC λho hD=>ob hD λhi hE hG=>ck hG λhp hH=>ob hH λhj hI hJ=>ck hJ λhk hK=>ob hK λhe hL hN=>?_)))))))))));refine ck hN λhw hO=>ob hO λhl hP hQ=>C7 [1,2,3,4,5,6,7,8] [⟨[],Bt [AJ 1 (A2 eS ([([97]:Aw)]:List Aw)),Al 6,AJ 1 (A2 Ae ([]:List (List Aa))),rS ([]:Aw),Al 1,Al 5],1⟩,⟨[],AJ 4 (A2 Ab ([(Aa.mk 6 0 ([]:Aw) 1),(Aa.mk 4 0 ([97]:Aw) 0),(Aa.mk 3 3 ([]:Aw) 0)]:List Aa)),0⟩,⟨[0,1],rB hf,0⟩,⟨[2],rB hf,0⟩,⟨[3],Bt [AJ 1 (A2 eS ([([97]:Aw)]:List Aw)),Al 6,AJ 1 (A2 Ae ([]:List (List Aa))),rS ([]:Aw),Al 1,Al 5],1⟩,⟨[3],AJ 4 (A2 Ab hr),0⟩,⟨[4,5,3],rB hh,0⟩,⟨[6,3],rB (!hh),0⟩,⟨[3,7],rB (!hh),0⟩,⟨[8],rB (!hh),0⟩,⟨[9],rS r4.1,0⟩,⟨[10,9],rB (decide (r4.1=([91,91,34,97,34,93,44,34,114,97,110,103,101,34,44,49,44,53,93]:Aw))),0⟩,⟨[9,11],rB (decide (r4.1=([91,91,34,97,34,93,44,34,114,97,110,103,101,34,44,49,44,53,93]:Aw))),0⟩,⟨[12],rB (decide (r4.1=([91,91,34,97,34,93,44,34,114,97,110,103,101,34,44,49,44,53,93]:Aw))),0⟩,⟨[13],Al r4.2,0⟩,⟨[14,13],rB (decide (r4.2=0)),0⟩,⟨[13,15],rB (decide (r4.2=0)),0⟩,⟨[16],rB (decide (r4.2=0)),0⟩,⟨[17],Al r7.2,0⟩,⟨[18,17],rB (decide (r7.2=0)),0⟩,⟨[17,19],rB (decide (r7.2=0)),0⟩,⟨[20],rB (decide (r7.2=0)),0⟩,⟨[21],Bt [AJ 1 (A2 eS ([([97]:Aw)]:List Aw)),Al 6,AJ 1 (A2 Ae ([]:List (List Aa))),rS ([]:Aw),Al 1,Al 5],1⟩,⟨[21],Bt (Ad r7.1),1⟩,⟨[22,23,21],rB hi,0⟩,⟨[21,24],rB hi,0⟩,⟨[25],rB hi,0⟩,⟨[26],Bt [AJ 1 (A2 eS ([([97]:Aw)]:List Aw)),Al 6,AJ 1 (A2 Ae ([]:List (List Aa))),rS ([]:Aw),Al 2,Al 3],1⟩,⟨[26],Bt [AJ 1 (A2 eS ([([97]:Aw)]:List Aw)),Al 6,AJ 1 (A2 Ae ([]:List (List Aa))),rS ([]:Aw),Al 1,Al 5],1⟩,⟨[27,28,26],rB hj,0⟩,⟨[26,29],rB hj,0⟩,⟨[30],rB hj,0⟩,⟨[31],Bt [AJ 1 (A2 eS ([([97]:Aw)]:List Aw)),Al 6,AJ 1 (A2 Ae ([]:List (List Aa))),rS ([]:Aw),Al 2,Al 3],1⟩,⟨[31],Bt [AJ 1 (A2 eS ([([97]:Aw)]:List Aw)),Al 4,AJ 1 (A2 Ae ([ha]:List (List Aa))),rS ([]:Aw),Al 0,Al 0],1⟩,⟨[32,33,31],rB he,0⟩,⟨[34,31],rB (!he),0⟩,⟨[31,35],rB (!he),0⟩,⟨[36],rB (!he),0⟩,⟨[37],AJ 4 (A2 Ab ([(Aa.mk 6 0 ([]:Aw) 1),(Aa.mk 4 0 ([97]:Aw) 0),(Aa.mk 3 3 ([]:Aw) 0)]:List Aa)),0⟩,⟨[38,37],rB hl,0⟩,⟨[37,39],rB hl,0⟩,⟨[40],rB hl,0⟩] [0] ?_ ?_
 ·refine of (AB (i:=8) BJ B1 rfl rfl rfl rfl) (oq (A3 rfl) (CJ rfl (λH=>Dj Tryz.call15 (Qr F (Ah.mk ([([97]:Aw)]:List Aw) 6 ([]:List (List Aa)) ([]:Aw) 1 5) ([(Aa.mk 6 0 ([]:Aw) 1),(Aa.mk 4 0 ([97]:Aw) 0),(Aa.mk 3 3 ([]:Aw) 0)]:List Aa) hf h1) rfl) ?_));refine oq (A3 rfl) (on hg (of (AB (i:=8) BJ B1 rfl rfl rfl rfl) (CJ rfl (λH=>Gr (b:=hf) rfl rfl hg (Dj Tryz.call28 (Mr 3 hr h4) rfl)) ?_)));refine CJ rfl (λH=>Gr (b:=hf) rfl rfl hg (Dj Tryz.call15 (Qr F (Ah.mk ([([97]:Aw)]:List Aw) 6 ([]:List (List Aa)) ([]:Aw) 1 5) hr hh h7) rfl)) ?_;refine on hg (oq (Bu rfl) (oq (Av rfl hg rfl) (oq (A3 rfl) (on hs (oq (A3 rfl) (on hs (oq (DT rfl rfl) (oq (Av rfl hs rfl) (oq (A3 rfl) (on ht (oq (A3 rfl) (on ht (oq (AX rfl rfl) (oq (Av rfl ht rfl) (oq (A3 rfl) (on hu (oq (A3 rfl) (on hu (oq (AX rfl rfl) (oq (Av rfl hu rfl) (oq (A3 rfl) (on ho (of (AB (i:=8) BJ B1 rfl rfl rfl rfl) ?_)))))))))))))))))))))));refine on ho (of (AB (i:=6) BJ B1 rfl rfl rfl rfl) (CJ rfl (λH=>Gr (b:=decide (r7.2=0)) rfl rfl ho (Dj Tryz.call23 (Qv F (Ah.mk ([([97]:Aw)]:List Aw) 6 ([]:List (List Aa)) ([]:Aw) 1 5) r7.1 hi hE) rfl)) ?_));refine oq (Av rfl ho rfl) (oq (A3 rfl) (on hp (of (AB (i:=5) BJ B1 rfl rfl rfl rfl) (on hp (of (AB (i:=8) BJ B1 rfl rfl rfl rfl) (CJ rfl (λH=>Gr (b:=hi) rfl rfl hp (Dj PP (Eh F (Ah.mk ([([97]:Aw)]:List Aw) 6 ([]:List (List Aa)) ([]:Aw) 2 3) (Ah.mk ([([97]:Aw)]:List Aw) 6 ([]:List (List Aa)) ([]:Aw) 1 5) hj hI) rfl)) ?_))))));refine oq (Av rfl hp rfl) (oq (A3 rfl) (on hk (of (AB (i:=5) BJ B1 rfl rfl rfl rfl) (on hk (of (AB (i:=4) BJ B1 rfl rfl rfl rfl) (CJ rfl (λH=>Gr (b:=hj) rfl rfl hk (Dj PP (Eh F (Ah.mk ([([97]:Aw)]:List Aw) 6 ([]:List (List Aa)) ([]:Aw) 2 3) (Ah.mk ([([97]:Aw)]:List Aw) 4 ([ha]:List (List Aa)) ([]:Aw) 0 0) he hL) rfl)) ?_))))));refine on hk (oq (Bu rfl) (oq (Av rfl hk rfl) (oq (A3 rfl) (on hw (oq (A3 rfl) (CJ rfl (λH=>Gr (b:=!he) rfl rfl hw (JX (rs:=[rv (.slice none 0 0),AJ 4 (A2 Ab ([(Aa.mk 6 0 ([]:Aw) 1),(Aa.mk 4 0 ([97]:Aw) 0),(Aa.mk 3 3 ([]:Aw) 0)]:List Aa))]) (r:=rB hl) Tryz.call17 rfl (Fn.args (T9 F ([]:List Ah) ([(Aa.mk 6 0 ([]:Aw) 1),(Aa.mk 4 0 ([97]:Aw) 0),(Aa.mk 3 3 ([]:Aw) 0)]:List Aa) hl hP) ⟨Et.nil _,Et.refl _,trivial⟩) rfl)) ?_))))));refine oq (Av rfl hw rfl) (oq (AG rfl) ?_);exact Cr
 refine AD (Aq ?_);obtain rfl:=Ao hQ;exact Ap (Bs Tryz.results12 (A5 rfl)) (sS (sS (sS (sS (sS (sS (sS (sS (sS sN))))))))) ⟨rfl,rfl⟩
theorem Qm (F:Nat)(a:Ah)(b:Ah)(r:Bool)(h:I8 F a b=some r):Fn Tryz.prog GE 5 [Bt (Ad a),Bt (Ad b)] [] (λR H=>R=rB r∧H=[]):=by
 refine enter (n:=33) Tryz.func5 rfl Tryz.ntmps5 rfl (λw Z=>?_);unfold I8 at h;refine Af (Bq rfl rfl (λb1=>?_));refine Bq rfl rfl (λb2=>?_);refine wa rfl (Am (An (ck h λg3 h4=>ck h4 λg5 h6=>AE [(2,rP b1 0),(3,rP b2 0),(12,rB ((!(ov (De F a)))||(!(ov (De F b)))))] [.blk b2 (Ad b) 26,.blk b1 (Ad a) 26] ?_ ?_)))
 ·refine Aj (wv (AB (i:=1) BJ B1 rfl rfl rfl rfl) (BL Tryz.call9 (M6 F a (ov (De F a)) (Cz g3)) rfl (wv (Bu rfl) (wm rfl (AH (!(ov (De F a))) (λc7=>?_) (λc7=>?_))))))
  ·refine wf c7 (wf c7 (wf c7 (wv (r:=rB true) (Av rfl c7 rfl) (Ai ?_))));exact BD c7
  ·refine wo c7 (wv (AB (i:=0) BJ B1 rfl rfl rfl rfl) (wo c7 (BL Tryz.call9 (M6 F b (ov (De F b)) (Cz (BO g5 c7))) rfl (wo c7 (wv (Bu rfl) (Cc rfl c7 rfl (Ai ?_)))))));exact BD c7
 refine cz h6 rfl (λc8 h9=>?_) (λc8 hg=>?_)
 ·refine Af (ob h9 λhh hi hj=>BL Tryz.call12 (Pj F hh hi) rfl (wa rfl (Am (Aq (Ac ?_)))));obtain rfl:=Ao hj;exact Ap (Bs Tryz.results5 (A5 rfl)) (sS (sS sN)) ⟨rfl,rfl⟩
 ·refine At (AD (ck hg λhe hk=>ck hk λg16 hl=>ck hl λg18 hm=>ck hm λhf hn=>ck hn λho hp=>AE [(4,rB (((ov (Bk F a b)) ==(ov (Bz F a b)))&&(((ov (Bk F a a)) ==(decide ((ov (BT F a))=0)))&&(ov (Gt F)))))] [] ?_ ?_))
  ·refine AH ((ov (Bk F a b)) ==(ov (Bz F a b))) (λha=>?_) (λha=>?_)
   ·refine AH ((ov (Bk F a a)) ==(decide ((ov (BT F a))=0))) (λhb=>?_) (λhb=>?_)
    ·refine C7 [2,3] [⟨[],Bt (Ad a),1⟩,⟨[],Bt (Ad b),1⟩,⟨[0,1],rB (ov (Bk F a b)),0⟩,⟨[],Bt (Ad a),1⟩,⟨[],Bt (Ad b),1⟩,⟨[3,4],rB (ov (Bz F a b)),0⟩,⟨[2,5],rB ((ov (Bk F a b)) ==(ov (Bz F a b))),0⟩,⟨[6],rB ((ov (Bk F a b)) ==(ov (Bz F a b))),0⟩,⟨[7],Bt (Ad a),1⟩,⟨[7],Bt (Ad a),1⟩,⟨[8,9,7],rB (ov (Bk F a a)),0⟩,⟨[7],Bt (Ad a),1⟩,⟨[11,7],Al (ov (BT F a)),0⟩,⟨[12,7],rB (decide ((ov (BT F a))=0)),0⟩,⟨[10,13,7],rB ((ov (Bk F a a)) ==(decide ((ov (BT F a))=0))),0⟩,⟨[7,14],rB ((ov (Bk F a a)) ==(decide ((ov (BT F a))=0))),0⟩,⟨[15],rB ((ov (Bk F a a)) ==(decide ((ov (BT F a))=0))),0⟩,⟨[16],rB (ov (Gt F)),0⟩,⟨[16,17],rB (ov (Gt F)),0⟩,⟨[18],rB (ov (Gt F)),0⟩] [4] ?_ ?_
     ·refine of (AB (i:=1) BJ B1 rfl rfl rfl rfl) (of (AB (i:=0) BJ B1 rfl rfl rfl rfl) (CJ rfl (λH=>Dj PP (Eh F a b (ov (Bk F a b)) (Cz he)) rfl) ?_));refine of (AB (i:=1) BJ B1 rfl rfl rfl rfl) (of (AB (i:=0) BJ B1 rfl rfl rfl rfl) (CJ rfl (λH=>Dj Tryz.call25 (Ie F a b (ov (Bz F a b)) (Cz g16)) rfl) ?_));refine oq (JZ Vn rfl rfl) (oq (A3 rfl) (on ha (of (AB (i:=1) BJ B1 rfl rfl rfl rfl) (on ha (of (AB (i:=1) BJ B1 rfl rfl rfl rfl) (CJ rfl (λH=>Gr (b:=(ov (Bk F a b)) ==(ov (Bz F a b))) rfl rfl ha (Dj PP (Eh F a a (ov (Bk F a a)) (Cz (BE g18 ha))) rfl)) ?_))))));refine on ha (of (AB (i:=1) BJ B1 rfl rfl rfl rfl) (CJ rfl (λH=>Gr (b:=(ov (Bk F a b)) ==(ov (Bz F a b))) rfl rfl ha (Dj PQ (Gv F a (ov (BT F a)) (Cz (BE hf ha))) rfl)) ?_));refine on ha (oq (AX rfl rfl) (on ha (oq (JZ Vn rfl rfl) (oq (Av rfl ha rfl) (oq (A3 rfl) (CJ rfl (λH=>Gr (b:=(ov (Bk F a a)) ==(decide ((ov (BT F a))=0))) rfl rfl hb (Dj Tryz.call12 (Pj F (ov (Gt F)) (Cz (BE (BE ho ha) hb))) rfl)) ?_))))));refine oq (Av rfl hb rfl) (oq (AG rfl) ?_);exact Cr
     exact BD (And.intro ha hb)
    ·refine C7 [2,3] [⟨[],Bt (Ad a),1⟩,⟨[],Bt (Ad b),1⟩,⟨[0,1],rB (ov (Bk F a b)),0⟩,⟨[],Bt (Ad a),1⟩,⟨[],Bt (Ad b),1⟩,⟨[3,4],rB (ov (Bz F a b)),0⟩,⟨[2,5],rB ((ov (Bk F a b)) ==(ov (Bz F a b))),0⟩,⟨[6],rB ((ov (Bk F a b)) ==(ov (Bz F a b))),0⟩,⟨[7],Bt (Ad a),1⟩,⟨[7],Bt (Ad a),1⟩,⟨[8,9,7],rB (ov (Bk F a a)),0⟩,⟨[7],Bt (Ad a),1⟩,⟨[11,7],Al (ov (BT F a)),0⟩,⟨[12,7],rB (decide ((ov (BT F a))=0)),0⟩,⟨[10,13,7],rB ((ov (Bk F a a)) ==(decide ((ov (BT F a))=0))),0⟩,⟨[7,14],rB ((ov (Bk F a a)) ==(decide ((ov (BT F a))=0))),0⟩,⟨[15],rB ((ov (Bk F a a)) ==(decide ((ov (BT F a))=0))),0⟩,⟨[16],rv undef,0⟩,⟨[16,17],rB false,0⟩,⟨[18],rB false,0⟩] [4] ?_ ?_
     ·refine of (AB (i:=1) BJ B1 rfl rfl rfl rfl) (of (AB (i:=0) BJ B1 rfl rfl rfl rfl) (CJ rfl (λH=>Dj PP (Eh F a b (ov (Bk F a b)) (Cz he)) rfl) ?_));refine of (AB (i:=1) BJ B1 rfl rfl rfl rfl) (of (AB (i:=0) BJ B1 rfl rfl rfl rfl) (CJ rfl (λH=>Dj Tryz.call25 (Ie F a b (ov (Bz F a b)) (Cz g16)) rfl) ?_));refine oq (JZ Vn rfl rfl) (oq (A3 rfl) (on ha (of (AB (i:=1) BJ B1 rfl rfl rfl rfl) (on ha (of (AB (i:=1) BJ B1 rfl rfl rfl rfl) (CJ rfl (λH=>Gr (b:=(ov (Bk F a b)) ==(ov (Bz F a b))) rfl rfl ha (Dj PP (Eh F a a (ov (Bk F a a)) (Cz (BE g18 ha))) rfl)) ?_))))));refine on ha (of (AB (i:=1) BJ B1 rfl rfl rfl rfl) (CJ rfl (λH=>Gr (b:=(ov (Bk F a b)) ==(ov (Bz F a b))) rfl rfl ha (Dj PQ (Gv F a (ov (BT F a)) (Cz (BE hf ha))) rfl)) ?_));refine on ha (oq (AX rfl rfl) (on ha (oq (JZ Vn rfl rfl) (oq (Av rfl ha rfl) (oq (A3 rfl) (oz hb (oq (Ak (b:=(ov (Bk F a a)) ==(decide ((ov (BT F a))=0))) rfl hb rfl) (oq (AG rfl) ?_))))))));exact Cr
     exact BD (And.intro ha hb)
   ·refine C7 [2,3] [⟨[],Bt (Ad a),1⟩,⟨[],Bt (Ad b),1⟩,⟨[0,1],rB (ov (Bk F a b)),0⟩,⟨[],Bt (Ad a),1⟩,⟨[],Bt (Ad b),1⟩,⟨[3,4],rB (ov (Bz F a b)),0⟩,⟨[2,5],rB ((ov (Bk F a b)) ==(ov (Bz F a b))),0⟩,⟨[6],rB ((ov (Bk F a b)) ==(ov (Bz F a b))),0⟩,⟨[7],rv undef,0⟩,⟨[7],rv undef,0⟩,⟨[8,9,7],rv undef,0⟩,⟨[7],rv undef,0⟩,⟨[11,7],rv undef,0⟩,⟨[12,7],rv undef,0⟩,⟨[10,13,7],rv undef,0⟩,⟨[7,14],rB false,0⟩,⟨[15],rB false,0⟩,⟨[16],rv undef,0⟩,⟨[16,17],rB false,0⟩,⟨[18],rB false,0⟩] [4] ?_ ?_
    ·refine of (AB (i:=1) BJ B1 rfl rfl rfl rfl) (of (AB (i:=0) BJ B1 rfl rfl rfl rfl) (CJ rfl (λH=>Dj PP (Eh F a b (ov (Bk F a b)) (Cz he)) rfl) ?_));refine of (AB (i:=1) BJ B1 rfl rfl rfl rfl) (of (AB (i:=0) BJ B1 rfl rfl rfl rfl) (CJ rfl (λH=>Dj Tryz.call25 (Ie F a b (ov (Bz F a b)) (Cz g16)) rfl) ?_));refine oq (JZ Vn rfl rfl) (oq (A3 rfl) (oz ha (oz ha (oz ha (oz ha (oz ha (oz ha (oz ha (oq (Ak (b:=(ov (Bk F a b)) ==(ov (Bz F a b))) rfl ha rfl) (oq (A3 rfl) (oz rfl (oq (Ak (b:=false) rfl rfl rfl) (oq (AG rfl) ?_)))))))))))));exact Cr
    exact BD ha
  refine Aq ?_;obtain rfl:=Ao hp;exact Ap (Bs Tryz.results5 (A5 rfl)) sN ⟨rfl,rfl⟩
end Go.Proofs.YtghdglcmblpbeaaGreatDoor.Q
namespace Go.Proofs.YtghdglcmblpbeaaGreatDoor.lawFilterDecides
open Go
set_option linter.unusedVariables false
def Tj (y:Aa):Bool:=(BN .i64) y.fKind&&(BN .i64) y.fInt&&Uy y.fStr&&(BN .i64) y.fN
def Uz (y:Ah):Bool:=(λys:(List Aw)=>ys.all Uy&&decide (ys.length≤9223372036854775807)) y.fPath&&(BN .i64) y.fOp&&(λys:(List (List Aa))=>ys.all (λys:(List Aa)=>ys.all Tj&&decide (ys.length≤9223372036854775807))&&decide (ys.length≤9223372036854775807)) y.fValues&&Uy y.fText&&(BN .i64) y.fLow&&(BN .i64) y.fHigh
def Xt:Prop:=∀(y0:Ah) (y1:Ah) (o0:Uz y0=true) (o1:Uz y1=true),∃F,I8 F y0 y1=some true
end Go.Proofs.YtghdglcmblpbeaaGreatDoor.lawFilterDecides
namespace Go.Proofs.YtghdglcmblpbeaaGreatDoor
open Go
set_option linter.unusedVariables false
set_option linter.unusedSimpArgs false
def TX (c:UInt8):Bool:=decide (32≤c.toNat)&&decide (c.toNat≤126)
theorem Ox {s:Aw}{x:Int}{c:UInt8}(h:s[x.toNat]? =some c):Cn s x=(c.toNat:Int):=by simp[Cn,h]
theorem MT {α:Type}{p:α→Bool}{s:List α}{k:Nat}{c:α}(h:s[k]? =some c):(s.take (k+1)).all p=((s.take k).all p&&p c):=by
 rw[List.take_add_one,h];simp
theorem Oy {α:Type}{p:α→Bool}{s:List α}{k:Nat}{c:α}(h:s[k]? =some c)(hp:p c=false):s.all p=false:=by
 rw[List.all_eq_false];exact⟨c,X7 h,by simp[hp]⟩
theorem OD {F:Nat}{s:Aw}(hF:s.length<F)(hs:s.length≤9223372036854775807):J8 F s=some (s.all TX):=by
 obtain⟨o,h1,h2⟩:=IU (body:=λσ=>Ha s σ) (λx=>0≤x∧x≤(s.length:Int)∧(s.take x.toNat).all TX=true) (λx=>s.length-x.toNat)
  (λo=>BS (λ_=>GZ) o=some (s.all TX)) (λx ⟨h0,hl,ha⟩=>by
   unfold Ha
   by_cases hx:x<(s.length:Int)
   ·obtain⟨c,hc⟩:∃c,s[x.toNat]? =some c:=⟨s[x.toNat]'(by omega),X5 (by omega)⟩
    rw[Ba (by simpa using hx),B6 h0 hx,Ox hc]
    cases ho:TX c with
    | false=>
     refine .inr ⟨.ret false,?_,?_⟩
     ·rw[Ba];simp only[TX,Yk,Xy] at ho;simp only[XY,Xw];omega
     ·simp[BS,Oy hc ho]
    | true=>
     refine .inl ⟨x+1,?_,⟨by omega,by omega,?_⟩,by omega⟩
     ·rw[AQ,AT (by omega) (by omega)];simp only[TX,X1,Xw] at ho;simp only[XI,Xy];omega
     ·rw[show(x+1).toNat=x.toNat+1 from by omega,MT hc,ha,ho];rfl
   ·refine .inr ⟨.go (),by rw[AQ (by simpa using hx)],?_⟩;rw[show x.toNat=s.length from by omega,Yg] at ha;simp[BS,GZ,ha]) F 0 ⟨by omega,by omega,by simp⟩ (by simpa using hF)
 unfold J8;rw[Bc h1,h2]
theorem NR (F:Nat)(s:Aw):I0 F s=J8 F s:=rfl
theorem RC {F:Nat}{s:Aw}(hF:s.length<F)(hs:s.length≤9223372036854775807):I0 F s=some (s.all TX):=by rw[NR];exact OD hF hs
def pl (c:Aa):Bool:=
 bif decide (c.fKind=1) then(decide (c.fInt=0)&&(decide (c.fStr=[])&&decide (c.fN=0))) else
 bif decide (c.fKind=2) then((decide (c.fInt=0)||decide (c.fInt=1))&&(decide (c.fStr=[])&&decide (c.fN=0))) else
 bif decide (c.fKind=3) then(decide (c.fStr=[])&&decide (c.fN=0)) else
 bif decide (c.fKind=4) then(decide (c.fInt=0)&&(decide (c.fN=0)&&c.fStr.all TX)) else
 bif decide (c.fKind=5) then(decide (c.fInt=0)&&(decide (c.fStr=[])&&decide (0≤c.fN))) else
 bif decide (c.fKind=6) then(decide (c.fInt=0)&&(decide (c.fStr=[])&&decide (0≤c.fN))) else false
theorem DZ {α:Type}{p:Bool}{x y:Option α}{a b:α}(h:x=some a)(h':y=some b):AO p x y=some (bif p then a else b):=by cases p<;>simp[AO,h,h']
theorem R0 {F:Nat}{c:Aa}(hF:c.fStr.length<F)(hs:c.fStr.length≤9223372036854775807):Mb F c=some (pl c):=by
 unfold Mb pl;rw[OD hF hs];refine DZ rfl (DZ ?_ (DZ rfl (DZ ?_ (DZ rfl (DZ rfl rfl)))))
 ·cases h:decide (c.fInt=0)<;>simp
 ·simp[imp,AY,ov]
def Lq:List A9→List A9
 | []=>[]
 | e::S=>bif decide (1<e.fLeft) then⟨e.fPairs,e.fLeft-1,e.fPairs,e.fLast,e.fStarted⟩::S else Lq S
theorem LI {α:Type}[Inhabited α](xs:List α)(e:α):Ax (xs++[e]) (xs.length:Int)=e:=by simp[Ax]
theorem JP {α:Type}(xs:List α)(e e':α):List.set (xs++[e]) (Int.toNat (xs.length:Int)) e'=xs++[e']:=by simp
theorem Kc {α:Type}(xs:List α)(e:α):((xs++[e]).length:Int)-1=(xs.length:Int):=by simp
theorem R6 {α:Type}(xs:List α)(e:α):List.take (Int.toNat (xs.length:Int)) (xs++[e])=xs:=by simp
theorem Ld:∀(S:List A9) (F:Nat),S.length<F→(∀e∈S,1≤e.fLeft∧e.fLeft≤9223372036854775807)→S.length≤4611686018427387904→
  ∃o,Cf (λσ=>D7 σ) F S.reverse=some o∧BS (λν=>Ef ν) o=some (Lq S).reverse
 | [],F+1,_,_,_=>⟨.go [],by simp[Cf,D7,AO],by simp[BS,Ef,Lq]⟩
 | e::S,F+1,hF,hb,hl=>by
  obtain⟨h1,h2⟩:=hb e (by simp);simp only[X3] at hF hl;have hx:S.reverse.length=S.length:=by simp
  generalize hxs:S.reverse=xs at hx;have hr:(e::S).reverse=xs++[e]:=by simp[hxs]
  rw[hr];have hb1:D7 (xs++[e])=bif decide (1<e.fLeft) then some (.out (.ret (xs++[⟨e.fPairs,e.fLeft-1,e.fPairs,e.fLast,e.fStarted⟩]))) else some (.next xs):=by
   unfold D7;rw[Ba (by simp)];simp only[Kc,LI,JP,Ku];rw[AT (by omega) (by omega),B6 (by omega) (by simp;omega),AT (by omega) (by omega)]
   cases hd:decide (1<e.fLeft) with
   | true=>
    rw[Ba (by simp at hd ⊢;omega)];rfl
   | false=>
    rw[AQ (by simp at hd ⊢;omega),AT (by omega) (by omega),Kt (by omega) (by simp;omega),R6];rfl
  rw[Cf,hb1]
  cases hd:decide (1<e.fLeft) with
  | true=>exact⟨_,rfl,by simp[BS,Ef,Lq,hd,hxs]⟩
  | false=>
   obtain⟨o,ho1,ho2⟩:=Ld S F (by omega) (λe he=>hb e (by simp[he])) (by omega);rw[hxs] at ho1;exact⟨o,ho1,by rw[ho2];simp[Lq,hd]⟩
theorem Mc {S:List A9}{F:Nat}(hF:S.length<F)(hb:∀e∈S,1≤e.fLeft∧e.fLeft≤9223372036854775807)(hl:S.length≤4611686018427387904):JL F S.reverse=some (Lq S).reverse:=by
 obtain⟨o,h1,h2⟩:=Ld S F hF hb hl;unfold JL;rw[Bc h1,h2]
def K6 (s:Aw):Int:=s.length+2+s.count 34+s.count 92
theorem LY {s:Aw}(hs:s.length≤1152921504606846976):IN s=some (K6 s):=by
 have h1:s.count 34≤s.length:=List.count_le_length;have h2:s.count 92≤s.length:=List.count_le_length;unfold IN Lib.countByte;rw[AT (by omega) (by omega),AT (by omega) (by omega),AT (by omega) (by omega)];rfl
def Vy (c:Aa):Int:=
 bif decide (c.fKind=1) then 4 else bif decide (c.fKind=2) then IntKind.wrap .i64 (5-c.fInt) else bif decide (c.fKind=3) then((Lib.itoa c.fInt).length:Int) else
 bif decide (c.fKind=4) then K6 c.fStr else IntKind.wrap .i64 (2+max 0 (IntKind.wrap .i64 (c.fN-1)))
theorem OE {c:Aa}(hs:c.fStr.length≤1152921504606846976)(hi:BN .i64 c.fInt=true):OF c=some (Vy c):=by
 unfold OF Vy;rw[LY hs];refine DZ rfl (DZ rfl (DZ ?_ (DZ rfl rfl)));rw[CD hi]
def It (d:Nat)(sh:AL)(c:Aa):AL:=
 ⟨max sh.fDepth ((d:Int)+1),IntKind.wrap .i64 (sh.fBytes+Vy c),sh.fOutside||(decide (c.fKind=3)&&!(decide ((-1000000000000)≤c.fInt)&&decide (c.fInt≤1000000000000))),sh.fLong||decide (200<(c.fStr.length:Int))⟩
def Wr (sh:AL)(c:Aa):AL:=⟨sh.fDepth,IntKind.wrap .i64 (sh.fBytes+(K6 c.fStr+1)),sh.fOutside,sh.fLong||decide (200<(c.fStr.length:Int))⟩
def KC:List A9→Bool
 | []=>false
 | e::_=>e.fKey
abbrev O2:=List A9×Int×AL
abbrev Vr:=Out (Int×AL×Bool) AL
def PJ (n:Int)(S:List A9)(i:Int)(sh:AL)(c:Aa):Stp O2 Vr:=
 bif !pl c then .out (.ret (0,sh,false)) else
 match S with
 | e::S'=>
  bif e.fKey then
   bif !decide (c.fKind=4)||(e.fStarted&&(Di c.fStr e.fLast||decide (c.fStr=e.fLast))) then .out (.ret (0,sh,false))
   else .next ((⟨e.fPairs,e.fLeft,false,c.fStr,true⟩::S').reverse,i+1,Wr sh c)
  else bif decide (0<c.fN) then
   bif decide (n<c.fN) then .out (.ret (0,It S.length sh c,false))
   else .next ((⟨decide (c.fKind=6),c.fN,decide (c.fKind=6),[],false⟩::S).reverse,i+1,It S.length sh c)
  else bif decide (Lq S=[]) then .out (.ret (i+1,It S.length sh c,true)) else .next ((Lq S).reverse,i+1,It S.length sh c)
 | []=>
  bif decide (0<c.fN) then
   bif decide (n<c.fN) then .out (.ret (0,It 0 sh c,false))
   else .next ([⟨decide (c.fKind=6),c.fN,decide (c.fKind=6),[],false⟩],i+1,It 0 sh c)
  else .out (.ret (i+1,It 0 sh c,true))
theorem MF {S:List A9}:decide (((Lq S).reverse.length:Int)=0)=decide (Lq S=[]):=by
 rw[XE];simp
theorem W9 {α:Type}{xs:List α}{e x:α}{M:Nat}(h:xs.length+1≤M)(hM2:(M+2)*48≤140737488355328):Ge 48 ((xs++[e]).length+([x]:List α).length)=true:=by
 refine X4 (Nat.le_trans (Nat.mul_le_mul_right 48 ?_) hM2);rw[X9,Yc,Yc];omega
set_option maxHeartbeats 600000 in
theorem OH {F:Nat}{v:List Aa}{S:List A9}{i:Int}{sh:AL}{c:Aa}(h0:0≤i)(hc:v[i.toNat]? =some c){M:Nat}(hM:M≤1152921504606846976)(hM2:(M+2)*48≤140737488355328)(hv:v.length≤M)(hS:S.length≤M)(hF:M<F)
  (hs:c.fStr.length≤M) (hi:BN .i64 c.fInt=true) (hb:∀e∈S,1≤e.fLeft∧e.fLeft≤9223372036854775807):D6 F v S.reverse i sh=some (PJ v.length S i sh c):=by
 have hil:i.toNat<v.length:=(List.getElem?_eq_some_iff.1 hc).1;have hat:Ax v i=c:=by simp[Ax,hc]
 unfold D6 PJ;rw[Ba (by simp;omega),B6 h0 (by omega),hat,R0 (by omega) (by omega),Bc rfl]
 cases hp:pl c with
 | false=>rw[Ba (by simp)];rfl
 | true=>
  rw[AQ (by simp)]
  cases S with
  | nil=>
   rw[CD (by simp[imp]),CD (by simp[imp]),AQ (by simp),AT (by simp) (by simp),OE (by omega) hi,Bc rfl,CD (by simp[imp,By])];simp only[By,ov,XO,XC,X2]
   cases hn:decide (0<c.fN) with
   | true=>
    rw[Ba rfl]
    cases hm:decide ((v.length:Int)<c.fN) with
    | true=>rw[Ba rfl];simp[It]
    | false=>rw[AQ rfl,CD (by simp[Ge])];unfold DQ;rw[AT (by omega) (by omega)];simp[It]
   | false=>
    rw[AQ rfl,Bc (Mc (S:=[]) (by simp;omega) (by simp) (by simp)),Ba (by simp[Lq]),AT (by omega) (by omega)];simp[It]
  | cons e S'=>
   have hx:S'.reverse.length=S'.length:=by simp
   generalize hxs:S'.reverse=xs at hx;have hr:(e::S').reverse=xs++[e]:=by simp[hxs]
   simp only[X3] at hS;have hlen:((xs++[e]).length:Int)=(xs.length:Int)+1:=by simp
   rw[hr,CD (by simp only[imp,Kc];rw[Pq (by omega) (by omega)];simp),CD (by simp only[imp,Kc];rw[Tv (by omega) (by omega)];simp)];rw[Kc,LI]
   cases hk:e.fKey with
   | true=>
    rw[Ba (by simp),AT (by omega) (by omega),B6 (by omega) (by omega)];simp only[hk,XC,X2,X8]
    cases ht : !decide (c.fKind=4)||(e.fStarted&&(Di c.fStr e.fLast||decide (c.fStr=e.fLast))) with
    | true=>rw[Ba rfl];rfl
    | false=>
     rw[AQ rfl,JP,Ku,LI,JP,Ku,LI,JP,Ku,LY (by omega),Bc rfl,AT (by unfold K6;omega) (by unfold K6;have:=@List.count_le_length UInt8 _ 34 c.fStr;have:=@List.count_le_length UInt8 _ 92 c.fStr;omega)];unfold DQ;rw[AT (by omega) (by omega)];simp[Wr,hxs]
   | false=>
    rw[AQ (by simp),hlen,AT (by omega) (by omega),OE (by omega) hi,Bc rfl,CD (by simp[imp,By])];simp only[hk,By,ov,XO,XC,X2,X8]
    cases hn:decide (0<c.fN) with
    | true=>
     rw[Ba rfl]
     cases hm:decide ((v.length:Int)<c.fN) with
     | true=>rw[Ba rfl];simp[It,hx]
     | false=>rw[AQ rfl,CD (W9 (by omega) hM2)];unfold DQ;rw[AT (by omega) (by omega)];simp[It,hx,hxs]
    | false=>
     have hcl:=Mc (S:=e::S') (F:=F) (by simp;omega) hb (by simp;omega);rw[hr] at hcl;rw[AQ rfl,hcl,Bc rfl,MF]
     cases hq:decide (Lq (e::S')=[]) with
     | true=>rw[Ba rfl,AT (by omega) (by omega)];simp[It,hx]
     | false=>rw[AQ rfl];unfold DQ;rw[AT (by omega) (by omega)];simp[It,hx]
section
variable {S O : Type} {body : S → Option (Stp S O)} {s t u : S} {o : O}
def Ea (body:S→Option (Stp S O))(s t:S):Prop:=∃k,∀n,Cf body (n+k) s=Cf body n t
def Fin (body:S→Option (Stp S O))(s:S)(o:O):Prop:=∃k,∀n,Cf body (n+k) s=some o
theorem Ea.refl (s:S):Ea body s s:=⟨0,λ_=>rfl⟩
theorem Ea.trans (h:Ea body s t)(h':Ea body t u):Ea body s u:=by
 obtain⟨k,hk⟩:=h;obtain⟨j,hj⟩:=h';exact⟨j+k,λn=>by rw[← Nat.add_assoc,hk,hj]⟩
theorem Ea.step (h:body s=some (.next t)):Ea body s t:=⟨1,λn=>by rw[Cf,h]⟩
theorem Fin.step (h:body s=some (.out o)):Fin body s o:=⟨1,λn=>by rw[Cf,h]⟩
theorem Ea.fin (h:Ea body s t)(h':Fin body t o):Fin body s o:=by
 obtain⟨k,hk⟩:=h;obtain⟨j,hj⟩:=h';exact⟨j+k,λn=>by rw[← Nat.add_assoc,hk,hj]⟩
end
inductive Fo where
 | nil
 | cell (k:Option Aw) (c:Aa) (r:Fo)
 | node (k:Option Aw) (c:Aa) (kids r:Fo)
def BM:Option Aw→List Aa
 | none=>[]
 | some s=>[⟨4,0,s,0⟩]
def Fo.flat:Fo→List Aa
 | .nil=>[]
 | .cell k c r=>BM k++c::r.flat
 | .node k c kids r=>BM k++c::(kids.flat++r.flat)
def Fo.cnt:Fo→Nat
 | .nil=>0
 | .cell _ _ r=>r.cnt+1
 | .node _ _ _ r=>r.cnt+1
def CE (m:Bool)(last:Option Aw):Option Aw→Bool
 | none=>!m
 | some s=>m&&s.all TX&&(match last with
  | none=>true
  | some p=>!(Di s p||decide (s=p)))
def Fo.wf:Bool→Option Aw→Fo→Bool
 | _,_,.nil=>true
 | m,last,.cell k c r=>CE m last k&&pl c&&!decide (0<c.fN)&&r.wf m k
 | m,last,.node k c kids r=>CE m last k&&pl c&&decide (0<c.fN)&&decide (c.fN=kids.cnt)&&kids.wf (decide (c.fKind=6)) none&&r.wf m k
def Lf (k:Option Aw)(sh:AL):AL:=match k with
 | none=>sh
 | some s=>Wr sh ⟨4,0,s,0⟩
def Fo.sh (d:Nat):AL→Fo→AL
 | s,.nil=>s
 | s,.cell k c r=>r.sh d (It d (Lf k s) c)
 | s,.node k c kids r=>r.sh d (kids.sh (d+1) (It d (Lf k s) c))
def GU (body:O2→Option (Stp O2 Vr))(s:O2)(S:List A9)(i:Int)(sh:AL):Prop:=
 if Lq S=[] then Fin body s (.ret (i,sh,true)) else Ea body s ((Lq S).reverse,i,sh)
theorem GU.of {body:O2→Option (Stp O2 Vr)}{s t:O2}{S:List A9}{i:Int}{sh:AL}(h:Ea body s t)(h':GU body t S i sh):GU body s S i sh:=by
 unfold GU at *
 split
 ·rename_i e;rw[if_pos e] at h';exact h.fin h'
 ·rename_i e;rw[Yl e] at h';exact h.trans h'
theorem GU.pop {body:O2→Option (Stp O2 Vr)}{s:O2}{e:A9}{S:List A9}{i:Int}{sh:AL}(h:GU body s (e::S) i sh)(h1:e.fLeft=1):GU body s S i sh:=by
 have:Lq (e::S)=Lq S:=by simp[Lq,h1]
 unfold GU at *;rw[this] at h;exact h
theorem GU.more {body:O2→Option (Stp O2 Vr)}{s:O2}{e:A9}{S:List A9}{i:Int}{sh:AL}(h:GU body s (e::S) i sh)(h1:1<e.fLeft):Ea body s ((⟨e.fPairs,e.fLeft-1,e.fPairs,e.fLast,e.fStarted⟩::S).reverse,i,sh):=by
 have:Lq (e::S)=⟨e.fPairs,e.fLeft-1,e.fPairs,e.fLast,e.fStarted⟩::S:=by simp[Lq,h1]
 unfold GU at *;rw[this,Yl (by simp)] at h;exact h
structure Ro (F M:Nat) (v:List Aa):Prop where
 hM:M≤1152921504606846976
 hM2:(M+2)*48≤140737488355328
 hv:v.length≤M
 hF:M<F
 hc:∀c∈v,c.fStr.length≤M∧BN .i64 c.fInt=true∧c.fN≤9223372036854775807
abbrev Pf (F:Nat)(v:List Aa):O2→Option (Stp O2 Vr):=λσ=>D6 F v σ.1 σ.2.1 σ.2.2
def DB (S:List A9):Prop:=∀e∈S,1≤e.fLeft∧e.fLeft≤9223372036854775807
section
variable {F M : Nat} {v : List Aa} {S : List A9} {i : Int} {sh : AL} {c : Aa} {r : List Aa} {e : A9}
theorem Cp (h0:0≤i)(h:v.drop i.toNat=c::r):v[i.toNat]? =some c∧v.drop (i+1).toNat=r∧i<v.length:=by
 have h1:(v.drop i.toNat)[0]? =some c:=by rw[h];rfl
 have h2:v[i.toNat]? =some c:=by simpa using h1
 have h3:=(List.getElem?_eq_some_iff.1 h2).1;refine⟨h2,?_,by omega⟩;rw[show(i+1).toNat=i.toNat+1 from by omega,← List.drop_drop,h];rfl
theorem round (hA:Ro F M v)(h0:0≤i)(h:v.drop i.toNat=c::r)(hS:(S.length:Int)≤i)(hb:DB S):Pf F v (S.reverse,i,sh)=some (PJ v.length S i sh c):=by
 obtain⟨h1,_,h3⟩:=Cp h0 h;obtain⟨a,b,_⟩:=hA.hc c (X7 h1);have:=hA.hv;exact OH h0 h1 hA.hM hA.hM2 hA.hv (by omega) hA.hF a b hb
def EU (e:A9):Option Aw→A9
 | none=>e
 | some s=>⟨e.fPairs,e.fLeft,false,s,true⟩
def I7 (e:A9):Option Aw→Prop
 | none=>e.fStarted=false
 | some p=>e.fStarted=true∧e.fLast=p
theorem Mu (hA:Ro F M v)(h0:0≤i){k last:Option Aw}(h:v.drop i.toNat=BM k++r)(hS:(S.length:Int)+1≤i)(hb:DB (e::S))(hk:CE e.fKey last k=true)(hl:I7 e last) :
  Ea (Pf F v) ((e::S).reverse,i,sh) ((EU e k::S).reverse,i+(BM k).length,Lf k sh):=by
 cases k with
 | none=>simpa[EU,BM,Lf] using Ea.refl _
 | some s=>
  simp only[CE,X1] at hk;obtain⟨⟨hm,hok⟩,hcmp⟩:=hk;refine Ea.step ?_;rw[round hA h0 (by simpa[BM] using h) (by simpa using hS) hb];have hp:pl ⟨4,0,s,0⟩=true:=by simp[pl,hok]
  have ht:(e.fStarted&&(Di s e.fLast||decide (s=e.fLast)))=false:=by
   cases last with
   | none=>simp only[I7] at hl;rw[hl];rfl
   | some p=>obtain⟨h1,h2⟩:=hl;rw[h1,h2];simpa using hcmp
  simp only[PJ,hp,hm,ht,XC,X2,X8,decide_true,XR,Bool.or_self];rfl
theorem KB {k last:Option Aw}(hk:CE e.fKey last k=true):(EU e k).fKey=false:=by
 cases k with
 | none=>simpa[EU,CE] using hk
 | some s=>rfl
theorem Jw (k:Option Aw):(EU e k).fLeft=e.fLeft∧(EU e k).fPairs=e.fPairs:=by cases k<;>exact⟨rfl,rfl⟩
theorem KA (hA:Ro F M v)(h0:0≤i)(h:v.drop i.toNat=c::r)(hS:(S.length:Int)≤i)(hb:DB S)(hk:KC S=false)(hp:pl c=true)(hn:decide (0<c.fN)=false) :
  GU (Pf F v) (S.reverse,i,sh) S (i+1) (It S.length sh c):=by
 have hr:=round (sh:=sh) hA h0 h hS hb;unfold GU
 cases S with
 | nil=>
  rw[if_pos (by simp[Lq])];refine Fin.step ?_;rw[hr];simp[PJ,hp,hn]
 | cons e S=>
  simp only[KC] at hk
  split
  ·rename_i hc
   refine Fin.step ?_;rw[hr];simp[PJ,hp,hn,hk,hc]
  ·rename_i hc
   refine Ea.step ?_;rw[hr];simp[PJ,hp,hn,hk,hc]
theorem IT (hA:Ro F M v)(h0:0≤i)(h:v.drop i.toNat=c::r)(hS:(S.length:Int)≤i)(hb:DB S)(hk:KC S=false)(hp:pl c=true)(hn:decide (0<c.fN)=true)(hv:c.fN≤v.length) :
  Ea (Pf F v) (S.reverse,i,sh) ((⟨decide (c.fKind=6),c.fN,decide (c.fKind=6),[],false⟩::S).reverse,i+1,It S.length sh c):=by
 have hr:=round (sh:=sh) hA h0 h hS hb;have hv':decide ((v.length:Int)<c.fN)=false:=by simpa using hv
 refine Ea.step ?_;rw[hr]
 cases S with
 | nil=>simp only[PJ,hp,hn,hv',XC,X2,X8];rfl
 | cons e S=>
  simp only[KC] at hk;simp only[PJ,hp,hn,hv',hk,XC,X2,X8]
theorem CC:∀f:Fo,f.cnt≤f.flat.length
 | .nil=>XG _
 | .cell k c r=>by have:=CC r;simp[Fo.cnt,Fo.flat];omega
 | .node k c kids r=>by have:=CC r;simp[Fo.cnt,Fo.flat];omega
theorem CW {α:Type}{v xs r:List α}{i:Int}(h0:0≤i)(h:v.drop i.toNat=xs++r):v.drop (i+xs.length).toNat=r:=by
 rw[show(i+(xs.length:Int)).toNat=i.toNat+xs.length from by omega,← List.drop_drop,h,List.drop_left]
theorem OO (hA:Ro F M v){e':A9}{s:O2}{k:Option Aw}{r':Fo}
  (ih:∀(e:A9) (S:List A9) (i:Int) (sh:AL) (last:Option Aw) (r:List Aa),1≤r'.cnt→r'.wf e.fPairs last=true→e.fKey=e.fPairs→e.fLeft=r'.cnt→I7 e last→(e.fPairs=false→last=none)→v.drop i.toNat=r'.flat++r→0≤i→(S.length:Int)+1≤i→DB S→
   GU (Pf F v) ((e::S).reverse,i,sh) S (i+r'.flat.length) (r'.sh (S.length+1) sh))
  (hd:GU (Pf F v) s (e'::S) i sh) (hl:e'.fLeft=r'.cnt+1) (hw:r'.wf e'.fPairs k=true) (hk:I7 e' k) (hm:e'.fPairs=false→k=none) (hv:v.drop i.toNat=r'.flat++r) (h0:0≤i) (hS:(S.length:Int)+1≤i) (hb:DB S) :
  GU (Pf F v) s S (i+r'.flat.length) (r'.sh (S.length+1) sh):=by
 by_cases h1:r'.cnt=0
 ·cases r' with
  | nil=>simpa[Fo.flat,Fo.sh] using hd.pop (by rw[hl];rfl)
  | cell _ _ _=>simp[Fo.cnt] at h1
  | node _ _ _ _=>simp[Fo.cnt] at h1
 ·have:=hd.more (by omega);refine GU.of this (ih _ S i sh k r (by omega) hw rfl (by simp only;omega) ?_ hm hv h0 hS hb)
  cases k with
  | none=>exact hk
  | some p=>exact hk
theorem Jx {k last:Option Aw}(hl:I7 e last)(hm:e.fPairs=false→last=none)(hk:CE e.fPairs last k=true):I7 (EU e k) k∧((EU e k).fPairs=false→k=none):=by
 cases k with
 | none=>
  have:e.fPairs=false:=by simpa[CE] using hk
  rw[hm this] at hl;exact⟨hl,λ_=>rfl⟩
 | some s=>
  refine⟨⟨rfl,rfl⟩,λh=>?_⟩;have h:e.fPairs=false:=h;simp[CE,h] at hk
theorem Lk (hA:Ro F M v):∀(f:Fo) (e:A9) (S:List A9) (i:Int) (sh:AL) (last:Option Aw) (r:List Aa),1≤f.cnt→f.wf e.fPairs last=true→e.fKey=e.fPairs→e.fLeft=f.cnt→I7 e last→(e.fPairs=false→last=none)→v.drop i.toNat=f.flat++r→0≤i→(S.length:Int)+1≤i→DB S→
   GU (Pf F v) ((e::S).reverse,i,sh) S (i+f.flat.length) (f.sh (S.length+1) sh):=by
 have hmax:∀(i:Int) (xs:List Aa),0≤i→v.drop i.toNat=xs→xs.length≤v.length:=λi xs _ h=>by rw[← h,List.length_drop];omega
 intro f
 induction f with
 | nil=>intro e S i sh last r h1;simp[Fo.cnt] at h1
 | cell k c r' ih=>
  intro e S i sh last r h1 hw hk hl hlo hm hv h0 hS hb;simp only[Fo.wf,X1,XD] at hw;obtain⟨⟨⟨w1,w2⟩,w3⟩,w4⟩:=hw;simp only[Fo.flat,XW,Yi] at hv;have hcnt:=hmax i _ h0 hv;have hcf:=CC r';simp only[X9,X3] at hcnt;have hvM:=hA.hv;have hMM:=hA.hM;simp only[Fo.cnt] at hl;have hb':DB (e::S):=λx hx=>by
   rcases List.mem_cons.1 hx with rfl | hx
   ·constructor<;>omega
   ·exact hb x hx
  have hkr:=Mu (sh:=sh) hA h0 hv hS hb' (by rw[hk];exact w1) hlo;have hv1:=CW h0 hv;obtain⟨kl,kp⟩:=Jw (e:=e) k;have hbk:DB (EU e k::S):=λx hx=>by
   rcases List.mem_cons.1 hx with rfl | hx
   ·rw[kl];exact hb' e (by simp)
   ·exact hb x hx
  have hd:=KA (sh:=Lf k sh) hA (by omega) hv1 (by simp only[X3];omega) hbk (KB (by rw[hk];exact w1)) w2 w3;obtain⟨q1,q2⟩:=Jx hlo hm w1;have hv2:=(Cp (by omega) hv1).2.1;have:=OO hA ih (hd.of hkr) (by rw[kl,hl];rfl) (by rw[kp];exact w4) q1 q2 hv2 (by omega) (by omega) hb;simp only[Fo.flat,Fo.sh,X9,X3];rw[show i+((((BM k).length+(r'.flat.length+1):Nat)):Int)=i+(BM k).length+1+r'.flat.length from by omega];exact this
 | node k c kids r' ihk ih=>
  intro e S i sh last r h1 hw hk hl hlo hm hv h0 hS hb;simp only[Fo.wf,X1,Xw] at hw;obtain⟨⟨⟨⟨⟨w1,w2⟩,w3⟩,w5⟩,w6⟩,w4⟩:=hw;simp only[Fo.flat,XW,Yi] at hv;have hcnt:=hmax i _ h0 hv;have hcf:=CC r';have hck:=CC kids;simp only[X9,X3] at hcnt;have hvM:=hA.hv;have hMM:=hA.hM;simp only[Fo.cnt] at hl;have hb':DB (e::S):=λx hx=>by
   rcases List.mem_cons.1 hx with rfl | hx
   ·constructor<;>omega
   ·exact hb x hx
  have hkr:=Mu (sh:=sh) hA h0 hv hS hb' (by rw[hk];exact w1) hlo;have hv1:=CW h0 hv;obtain⟨kl,kp⟩:=Jw (e:=e) k;have hbk:DB (EU e k::S):=λx hx=>by
   rcases List.mem_cons.1 hx with rfl | hx
   ·rw[kl];exact hb' e (by simp)
   ·exact hb x hx
  have hn:=IT (sh:=Lf k sh) hA (by omega) hv1 (by simp only[X3];omega) hbk (KB (by rw[hk];exact w1)) w2 (by simpa using w3) (by omega);have hv2:=(Cp (by omega) hv1).2.1;have hd:=ihk ⟨decide (c.fKind=6),c.fN,decide (c.fKind=6),[],false⟩ (EU e k::S) (i+(BM k).length+1) (It (S.length+1) (Lf k sh) c) none _ (by omega) w6 rfl w5 rfl (λ_=>rfl) hv2 (by omega) (by simp only[X3];omega) hbk;obtain⟨q1,q2⟩:=Jx hlo hm w1;have hv3:=CW (by omega) hv2;have:=OO hA ih ((hd.of hn).of hkr) (by rw[kl,hl];rfl) (by rw[kp];exact w4) q1 q2 hv3 (by omega) (by omega) hb;simp only[Fo.flat,Fo.sh,X9,X3];rw[show i+((((BM k).length+(kids.flat.length+r'.flat.length+1):Nat)):Int)=i+(BM k).length+1+kids.flat.length+r'.flat.length from by omega];exact this
end
theorem I6 {S O:Type}{body:S→Option (Stp S O)}{o:O}:∀{n:Nat} {s:S} (k:Nat),Cf body n s=some o→Cf body (n+k) s=some o
 | 0,s,k,h=>by cases h
 | n+1,s,k,h=>by
  rw[show n+1+k=n+k+1 from by omega,Cf];rw[Cf] at h
  cases hb:body s with
  | none=>rw[hb] at h;cases h
  | some t=>
   rw[hb] at h
   cases t with
   | next s'=>exact I6 k h
   | out o'=>exact h
theorem Fin.eq {S O:Type}{body:S→Option (Stp S O)}{s:S}{o o':O}{n:Nat}(h:Fin body s o)(h':Cf body n s=some o'):o'=o:=by
 obtain⟨k,hk⟩:=h;have:=I6 k h';rw[hk n] at this;exact(Ao this).symm
theorem N4:∀{S:List A9},DB S→DB (Lq S)∧(Lq S).length≤S.length
 | [],h=>⟨h,XG _⟩
 | e::S,h=>by
  have hS:DB S:=λx hx=>h x (by simp[hx]);have he:=h e (by simp);unfold Lq
  cases hd:decide (1<e.fLeft) with
  | true=>
   simp only[Xw] at hd;refine⟨λx hx=>?_,by simp⟩;rcases List.mem_cons.1 hx with rfl | hx
   ·simp only;omega
   ·exact hS x hx
  | false=>
   obtain⟨h1,h2⟩:=N4 hS;exact⟨h1,by simp only[X2,X3];omega⟩
theorem Tq {n:Int}{S:List A9}{i:Int}{sh:AL}{c:Aa}{σ:O2}(hb:DB S)(hS:(S.length:Int)≤i)(hN:c.fN≤9223372036854775807)(h:PJ n S i sh c = .next σ):∃S' sh',σ=(S'.reverse,i+1,sh')∧DB S'∧(S'.length:Int)≤i+1:=by
 unfold PJ at h
 cases hp:pl c with
 | false=>simp[hp] at h
 | true=>
  simp only[hp,XC,X2] at h
  cases S with
  | nil=>
   simp only at h
   cases hn:decide (0<c.fN) with
   | false=>simp[hn] at h
   | true=>
    simp only[hn,X8] at h
    cases hm:decide (n<c.fN) with
    | true=>simp[hm] at h
    | false=>
     simp only[hm,X2,Stp.next.injEq] at h;refine⟨[_],_,h.symm,λx hx=>?_,by simp at hS ⊢;omega⟩;simp only[XN] at hx;subst hx;simp only[Xw] at hn;exact⟨by simp only;omega,hN⟩
  | cons e S=>
   have he:=hb e (by simp);have hbS:DB S:=λx hx=>hb x (by simp[hx]);simp only[X3] at hS
   cases hk:e.fKey with
   | true=>
    simp only[hk,X8] at h
    cases hq:(!decide (c.fKind=4)||(e.fStarted&&(Di c.fStr e.fLast||decide (c.fStr=e.fLast)))) with
    | true=>rw[hq] at h;simp at h
    | false=>
     rw[hq] at h;simp only[X2,Stp.next.injEq] at h;refine⟨_::S,_,h.symm,λx hx=>?_,by simp only[X3];omega⟩;rcases List.mem_cons.1 hx with rfl | hx
     ·exact he
     ·exact hbS x hx
   | false=>
    simp only[hk,X2] at h
    cases hn:decide (0<c.fN) with
    | true=>
     simp only[hn,X8] at h
     cases hm:decide (n<c.fN) with
     | true=>simp[hm] at h
     | false=>
      simp only[hm,X2,Stp.next.injEq] at h;refine⟨_::e::S,_,h.symm,λx hx=>?_,by simp only[X3];omega⟩;rcases List.mem_cons.1 hx with rfl | hx
      ·simp only[Xw] at hn;exact⟨by simp only;omega,hN⟩
      ·exact hb x hx
    | false=>
     simp only[hn,X2] at h
     cases hq:decide (Lq (e::S)=[]) with
     | true=>rw[hq] at h;simp at h
     | false=>
      rw[hq] at h;simp only[X2,Stp.next.injEq] at h;obtain⟨h1,h2⟩:=N4 hb;simp only[X3] at h2;exact⟨_,_,h.symm,h1,by omega⟩
theorem Mo {F M:Nat}{v:List Aa}(hA:Ro F M v):∃o,Cf (Pf F v) F (([]:List A9),0,(⟨0,0,false,false⟩:AL))=some o∧True:=by
 refine IU (λσ=>∃S i sh,σ=(S.reverse,i,sh)∧DB S∧(S.length:Int)≤i∧0≤i∧i≤v.length) (λσ=>v.length-σ.2.1.toNat) (λ_=>True) (λσ hI=>?_) F _ ⟨[],0,_,rfl,(λx hx=>by cases hx),XM _,XM _,by omega⟩ (by have:=hA.hv;have:=hA.hF;simp;omega);obtain⟨S,i,sh,rfl,hb,hS,h0,hi⟩:=hI
 by_cases hx:i<v.length
 ·obtain⟨c,hc⟩:∃c,v[i.toNat]? =some c:=⟨v[i.toNat]'(by omega),X5 (by omega)⟩
  have hdr:v.drop i.toNat=c::v.drop (i.toNat+1):=by rw[List.drop_eq_getElem_cons (by omega)];congr 1;exact(List.getElem?_eq_some_iff.1 hc).2
  have hr:=round (sh:=sh) hA h0 hdr hS hb
  cases hl:PJ v.length S i sh c with
  | next τ=>
   obtain⟨S',sh',rfl,h1,h2⟩:=Tq hb hS (hA.hc c (X7 hc)).2.2 hl;exact .inl ⟨_,by rw[hr,hl],⟨S',i+1,sh',rfl,h1,h2,by omega,by omega⟩,by simp only;omega⟩
  | out o=>exact .inr ⟨o,by rw[hr,hl],trivial⟩
 ·refine .inr ⟨.go sh,?_,trivial⟩;show D6 F v S.reverse i sh=_;unfold D6;rw[AQ (by simpa using hx)]
def Fo.one:Fo→Bool
 | .cell none _ .nil=>true
 | .node none _ _ .nil=>true
 | _=>false
def MO:AL:=⟨0,0,false,false⟩
theorem Tp {F M:Nat}{v:List Aa}(hA:Ro F M v){f:Fo}(h1:f.one=true)(hw:f.wf false none=true){r:List Aa}(hv:v=f.flat++r):Fin (Pf F v) ([],0,MO) (.ret (f.flat.length,f.sh 0 MO,true)):=by
 have h0:v.drop (0:Int).toNat=f.flat++r:=by rw[hv];rfl
 have hlen:f.flat.length≤v.length:=by rw[hv];simp
 cases f with
 | nil=>cases h1
 | cell k c r'=>
  cases k with
  | some s=>cases h1
  | none=>
   cases r' with
   | nil=>
    simp only[Fo.wf,X1,XD] at hw;have:=KA (S:=[]) (sh:=MO) hA (XM 0) h0 (by simp) (λx hx=>by cases hx) rfl hw.1.1.2 hw.1.2;unfold GU at this;rw[if_pos (show Lq []=[] from rfl)] at this;simpa[Fo.flat,Fo.sh,BM,Lf] using this
   | cell _ _ _=>cases h1
   | node _ _ _ _=>cases h1
 | node k c kids r'=>
  cases k with
  | some s=>cases h1
  | none=>
   cases r' with
   | nil=>
    simp only[Fo.wf,X1,Xw] at hw;obtain⟨⟨⟨⟨⟨w1,w2⟩,w3⟩,w5⟩,w6⟩,w4⟩:=hw;have hck:=CC kids;simp only[Fo.flat,BM,Yh,Ya,X3] at hlen;have hvM:=hA.hv;have hMM:=hA.hM;have hn:=IT (S:=[]) (sh:=MO) hA (XM 0) h0 (by simp) (λx hx=>by cases hx) rfl w2 (by simpa using w3) (by omega);have hv2:=(Cp (XM 0) h0).2.1;have hd:=Lk hA kids ⟨decide (c.fKind=6),c.fN,decide (c.fKind=6),[],false⟩ [] (0+1) (It 0 MO c) none r (by omega) w6 rfl w5 rfl (λ_=>rfl) (by rw[hv2];simp[Fo.flat]) (by omega) (by simp) (λx hx=>by cases hx);unfold GU at hd;rw[if_pos (show Lq []=[] from rfl)] at hd;have:=hn.fin hd;have e:((0:Int)+1+kids.flat.length)=((Fo.node none c kids .nil).flat.length:Int):=by simp[Fo.flat,BM];omega
    rw[e] at this;exact this
   | cell _ _ _=>cases h1
   | node _ _ _ _=>cases h1
theorem To {F M:Nat}{v:List Aa}(hA:Ro F M v){f:Fo}(h1:f.one=true)(hw:f.wf false none=true){r:List Aa}(hv:v=f.flat++r):Gl F v=some ((f.flat.length:Int),f.sh 0 MO,true):=by
 obtain⟨o,ho,_⟩:=Mo hA;have e:=(Tp hA h1 hw hv).eq ho;subst e;unfold Gl;rw[Bc ho];rfl
def HU (m:Bool)(last:Option Aw)(xs:List Aa):Option (Option Aw×List Aa):=
 bif m then match xs with
  | []=>none
  | c::r=>bif pl c&&decide (c.fKind=4)&&CE true last (some c.fStr) then some (some c.fStr,r) else none
 else some (none,xs)
def HA:Nat→Bool→Option Aw→Nat→List Aa→Option (Fo×List Aa)
 | 0,_,_,_,_=>none
 | _+1,_,_,0,xs=>some (.nil,xs)
 | F+1,m,last,k+1,xs=>
  match HU m last xs with
  | none=>none
  | some (_,[])=>none
  | some (key,c::xs')=>
   bif !pl c then none else
   bif decide (0<c.fN) then
    match HA F (decide (c.fKind=6)) none c.fN.toNat xs' with
    | none=>none
    | some (kids,ys)=>match HA F m key k ys with
     | none=>none
     | some (r,zs)=>some (.node key c kids r,zs)
   else match HA F m key k xs' with
    | none=>none
    | some (r,zs)=>some (.cell key c r,zs)
theorem NV {c:Aa}(hp:pl c=true)(hk:c.fKind=4):c=⟨4,0,c.fStr,0⟩∧c.fStr.all TX=true:=by
 cases c
 simp only at hk;subst hk;simp[pl] at hp;obtain⟨h1,h2,h3⟩:=hp;subst h1;subst h2;exact⟨rfl,by simpa using h3⟩
theorem L9 {m:Bool}{last key:Option Aw}{xs r:List Aa}(h:HU m last xs=some (key,r)):xs=BM key++r∧CE m last key=true:=by
 unfold HU at h
 cases m with
 | false=>cases h;exact⟨rfl,rfl⟩
 | true=>
  simp only[X8] at h
  cases xs with
  | nil=>cases h
  | cons c r'=>
   simp only at h
   cases hb:(pl c&&decide (c.fKind=4)&&CE true last (some c.fStr)) with
   | false=>rw[hb] at h;cases h
   | true=>
    rw[hb] at h;simp only[X1,Xw] at hb
    cases h
    exact⟨by rw[(NV hb.1.1 hb.1.2).1];rfl,hb.2⟩
theorem GO:∀(F:Nat) (m:Bool) (last:Option Aw) (k:Nat) (xs:List Aa) (f:Fo) (ys:List Aa),HA F m last k xs=some (f,ys)→xs=f.flat++ys∧f.wf m last=true∧f.cnt=k
 | 0,_,_,_,_,_,_,h=>by cases h
 | F+1,m,last,0,xs,f,ys,h=>by cases h;exact⟨rfl,rfl,rfl⟩
 | F+1,m,last,k+1,xs,f,ys,h=>by
  rw[HA] at h
  cases hk:HU m last xs with
  | none=>rw[hk] at h;cases h
  | some p=>
   obtain⟨key,r⟩:=p;obtain⟨h1,h2⟩:=L9 hk;rw[hk] at h
   cases r with
   | nil=>cases h
   | cons c xs'=>
    simp only at h
    cases hp:pl c with
    | false=>rw[hp] at h;cases h
    | true=>
     rw[hp] at h;simp only[XC,X2] at h
     cases hn:decide (0<c.fN) with
     | true=>
      rw[hn] at h;simp only[X8] at h
      cases hq:HA F (decide (c.fKind=6)) none c.fN.toNat xs' with
      | none=>rw[hq] at h;cases h
      | some q=>
       obtain⟨kids,zs⟩:=q;rw[hq] at h;simp only at h
       cases hr:HA F m key k zs with
       | none=>rw[hr] at h;cases h
       | some q2=>
        obtain⟨r2,us⟩:=q2;rw[hr] at h;cases h;obtain⟨a1,a2,a3⟩:=GO F _ _ _ _ _ _ hq;obtain⟨b1,b2,b3⟩:=GO F _ _ _ _ _ _ hr;refine⟨by rw[h1,a1,b1];simp[Fo.flat],?_,by simp[Fo.cnt,b3]⟩;simp only[Xw] at hn;simp only[Fo.wf,h2,hp,a2,b2,XS,XB,X1,Xw];omega
     | false=>
      rw[hn] at h;simp only[X2] at h
      cases hr:HA F m key k xs' with
      | none=>rw[hr] at h;cases h
      | some q2=>
       obtain⟨r2,us⟩:=q2;rw[hr] at h;cases h;obtain⟨b1,b2,b3⟩:=GO F _ _ _ _ _ _ hr;exact⟨by rw[h1,b1];simp[Fo.flat],by simp[Fo.wf,h2,hp,b2,hn],by simp[Fo.cnt,b3]⟩
theorem Hj:∀(F F':Nat) (m:Bool) (last:Option Aw) (k:Nat) (xs:List Aa),xs.length<F→xs.length<F'→HA F m last k xs=HA F' m last k xs
 | 0,_,_,_,_,_,h,_=>by omega
 | _+1,0,_,_,_,_,_,h=>by omega
 | F+1,F'+1,m,last,0,xs,_,_=>rfl
 | F+1,F'+1,m,last,k+1,xs,h,h'=>by
  rw[HA,HA]
  cases hk:HU m last xs with
  | none=>rfl
  | some p=>
   obtain⟨key,r⟩:=p;obtain⟨h1,h2⟩:=L9 hk
   cases r with
   | nil=>rfl
   | cons c xs'=>
    have hl:xs'.length<xs.length:=by rw[h1];simp;omega
    simp only
    cases hp:pl c with
    | false=>rfl
    | true=>
     simp only[XC,X2]
     cases hn:decide (0<c.fN) with
     | true=>
      simp only[X8];rw[Hj F F' _ _ _ xs' (by omega) (by omega)]
      cases hq:HA F' (decide (c.fKind=6)) none c.fN.toNat xs' with
      | none=>rfl
      | some q=>
       obtain⟨kids,zs⟩:=q;have:=(GO _ _ _ _ _ _ _ hq).1;have hz:zs.length≤xs'.length:=by rw[this];simp
       simp only;rw[Hj F F' m key k zs (by omega) (by omega)]
     | false=>
      simp only[X2];rw[Hj F F' m key k xs' (by omega) (by omega)]
def Q4 {S:Type}(body:S→Option (Stp S Vr))(s:S):Prop:=∃sh',Fin body s (.ret (0,sh',false))∨Fin body s (.go sh')
theorem Ea.bad {S:Type}{body:S→Option (Stp S Vr)}{s t:S}(h:Ea body s t)(h':Q4 body t):Q4 body s:=by
 obtain⟨sh',h' | h'⟩:=h'
 ·exact⟨sh',.inl (h.fin h')⟩
 ·exact⟨sh',.inr (h.fin h')⟩
section
variable {F M : Nat} {v : List Aa}
theorem Q4.end_ {S:List A9}{i:Int}{sh:AL}(h0:0≤i)(h:v.drop i.toNat=[]):Q4 (Pf F v) (S.reverse,i,sh):=by
 refine⟨sh,.inr (Fin.step ?_)⟩;show D6 F v S.reverse i sh=_;unfold D6;rw[AQ];have:v.length≤i.toNat:=by simpa using h
 simp;omega
theorem Q4.pl_ (hA:Ro F M v){S:List A9}{i:Int}{sh:AL}{c:Aa}{r:List Aa}(h0:0≤i)(h:v.drop i.toNat=c::r)(hS:(S.length:Int)≤i)(hb:DB S)(hp:pl c=false):Q4 (Pf F v) (S.reverse,i,sh):=by
 refine⟨sh,.inl (Fin.step ?_)⟩;rw[round hA h0 h hS hb];simp[PJ,hp]
theorem Qp (hA:Ro F M v):∀(P:Nat) (k:Nat) (e:A9) (S:List A9) (i:Int) (sh:AL) (last:Option Aw) (xs:List Aa),xs.length<P→HA P e.fPairs last (k+1) xs=none→e.fKey=e.fPairs→e.fLeft=(k:Int)+1→(k:Int)+1≤9223372036854775807→I7 e last→(e.fPairs=false→last=none)→v.drop i.toNat=xs→0≤i→(S.length:Int)+1≤i→DB S→
  Q4 (Pf F v) ((e::S).reverse,i,sh):=by
 intro P
 induction P with
 | zero=>intro k e S i sh last xs h;omega
 | succ P ih=>
  intro k e S i sh last xs hP hn hk hl hkm hlo hm hv h0 hS hb;have hb':DB (e::S):=λx hx=>by
   rcases List.mem_cons.1 hx with rfl | hx
   ·constructor<;>omega
   ·exact hb x hx
  rw[HA] at hn
  cases hq:HU e.fPairs last xs with
  | none=>
   unfold HU at hq
   cases hpr:e.fPairs with
   | false=>rw[hpr] at hq;cases hq
   | true=>
    rw[hpr] at hq hk;simp only[X8] at hq
    cases xs with
    | nil=>exact Q4.end_ h0 hv
    | cons c r=>
     simp only at hq
     cases hp:pl c with
     | false=>exact Q4.pl_ hA h0 hv (by simpa using hS) hb' hp
     | true=>
      refine⟨sh,.inl (Fin.step ?_)⟩;rw[round hA h0 hv (by simpa using hS) hb'];have ht:(!decide (c.fKind=4)||(e.fStarted&&(Di c.fStr e.fLast||decide (c.fStr=e.fLast))))=true:=by
       rw[hp] at hq
       cases h4:decide (c.fKind=4) with
       | false=>rfl
       | true=>
        rw[h4] at hq;simp only[Bool.and_self,XB] at hq;have hok:=(NV hp (by simpa using h4)).2
        cases last with
        | none=>simp[CE,hok] at hq
        | some p=>
         obtain⟨q1,q2⟩:=hlo;rw[q1,q2]
         cases hc:(Di c.fStr p||decide (c.fStr=p)) with
         | true=>rfl
         | false=>simp[CE,hok,hc] at hq
      simp only[PJ,hp,hk,ht,XC,X2,X8]
  | some q=>
   obtain⟨key,r⟩:=q;obtain⟨h1,h2⟩:=L9 hq;rw[hq] at hn;have hkr:=Mu (sh:=sh) hA h0 (by rw[hv];exact h1) hS hb' (by rw[hk];exact h2) hlo;have hv1:=CW h0 (hv.trans h1);obtain⟨kl,kp⟩:=Jw (e:=e) key;obtain⟨q1,q2⟩:=Jx hlo hm h2;have hbk:DB (EU e key::S):=λx hx=>by
    rcases List.mem_cons.1 hx with rfl | hx
    ·rw[kl];exact hb' e (by simp)
    ·exact hb x hx
   refine hkr.bad ?_
   cases r with
   | nil=>exact Q4.end_ (by omega) hv1
   | cons c xs'=>
    have hlen:xs'.length+1≤xs.length:=by rw[h1];simp
    have hvl:xs.length≤v.length:=by rw[← hv,List.length_drop];omega
    have hvM:=hA.hv;have hMM:=hA.hM;have hkk:=KB (e:=e) (last:=last) (k:=key) (by rw[hk];exact h2);simp only at hn;have hSk:(((EU e key::S).length:Nat):Int)≤i+(BM key).length:=by simp only[X3];omega
    cases hp:pl c with
    | false=>exact Q4.pl_ hA (by omega) hv1 hSk hbk hp
    | true=>
     rw[hp] at hn;simp only[XC,X2] at hn;obtain⟨g1,g2,g3⟩:=Cp (by omega) hv1;have hcN:=(hA.hc c (X7 g1)).2.2;have more:∀(s:O2) (j:Int) (sh':AL) (zs:List Aa),GU (Pf F v) s (EU e key::S) j sh'→v.drop j.toNat=zs→zs.length<P→0≤j→(S.length:Int)+1≤j→HA P e.fPairs key k zs=none→Q4 (Pf F v) s:=λs j sh' zs hd hz hzl hj hSj hnone=>by
      cases k with
      | zero=>
       cases P with
       | zero=>omega
       | succ P=>cases hnone
      | succ k=>
       have:=hd.more (by rw[kl];omega);refine this.bad (ih k _ S j sh' key zs hzl (by rw[kp];exact hnone) rfl (by simp only[kl];omega) (by omega) ?_ (by simpa using q2) hz hj hSj hb)
       cases key with
       | none=>exact q1
       | some p=>exact q1
     cases hN:decide (0<c.fN) with
     | true=>
      rw[hN] at hn;simp only[X8] at hn;simp only[Xw] at hN
      by_cases hbig:c.fN≤v.length
      ·have hnd:=IT (sh:=Lf key sh) hA (by omega) hv1 hSk hbk (by simpa[KC] using hkk) hp (by simpa using hN) hbig;refine hnd.bad ?_
       cases hks:HA P (decide (c.fKind=6)) none c.fN.toNat xs' with
       | none=>
        obtain⟨n',hn'⟩:∃n',c.fN.toNat=n'+1:=⟨c.fN.toNat-1,by omega⟩
        rw[hn'] at hks;exact ih n' _ _ _ _ none xs' (by omega) hks rfl (by simp only;omega) (by omega) rfl (λ_=>rfl) g2 (by omega) (by simp only[X3];omega) hbk
       | some q=>
        obtain⟨kids,zs⟩:=q;rw[hks] at hn;simp only at hn;have hn2:HA P e.fPairs key k zs=none:=by
         cases hz:HA P e.fPairs key k zs with
         | none=>rfl
         | some q=>rw[hz] at hn;cases hn
        obtain⟨a1,a2,a3⟩:=GO _ _ _ _ _ _ _ hks;have hd:=Lk hA kids ⟨decide (c.fKind=6),c.fN,decide (c.fKind=6),[],false⟩ (EU e key::S) (i+(BM key).length+1) (It (S.length+1) (Lf key sh) c) none zs (by omega) a2 rfl (by simp only;omega) rfl (λ_=>rfl) (by rw[g2];exact a1) (by omega) (by simp only[X3];omega) hbk;have hz:v.drop (i+(BM key).length+1+kids.flat.length).toNat=zs:=CW (by omega) (g2.trans a1);have hzl:zs.length≤xs'.length:=by rw[a1];simp
        exact more _ _ _ zs hd hz (by omega) (by omega) (by omega) hn2
      ·refine⟨It (EU e key::S).length (Lf key sh) c,.inl (Fin.step ?_)⟩;rw[round hA (by omega) hv1 hSk hbk];have hbig':decide ((v.length:Int)<c.fN)=true:=by simpa using hbig
       simp only[PJ,hp,hkk,hbig',hN,XC,X2,X8,decide_true]
     | false=>
      rw[hN] at hn;simp only[X2] at hn;have hn2:HA P e.fPairs key k xs'=none:=by
       cases hz:HA P e.fPairs key k xs' with
       | none=>rfl
       | some q=>rw[hz] at hn;cases hn
      have hd:=KA (sh:=Lf key sh) hA (by omega) hv1 hSk hbk (by simpa[KC] using hkk) hp hN;exact more _ _ _ xs' hd g2 (by omega) (by omega) (by omega) hn2
def Hl (xs:List Aa):Option (Fo×List Aa):=HA (xs.length+1) false none 1 xs
theorem QK {P:Nat}{xs ys:List Aa}{f:Fo}(h:HA P false none 1 xs=some (f,ys)):f.one=true:=by
 obtain⟨h1,h2,h3⟩:=GO _ _ _ _ _ _ _ h
 cases f with
 | nil=>cases h3
 | cell k c r=>
  cases r with
  | nil=>
   cases k with
   | none=>rfl
   | some s=>simp[Fo.wf,CE] at h2
  | cell _ _ _=>simp[Fo.cnt] at h3
  | node _ _ _ _=>simp[Fo.cnt] at h3
 | node k c kids r=>
  cases r with
  | nil=>
   cases k with
   | none=>rfl
   | some s=>simp[Fo.wf,CE] at h2
  | cell _ _ _=>simp[Fo.cnt] at h3
  | node _ _ _ _=>simp[Fo.cnt] at h3
theorem RR (hA:Ro F M v)(h:Hl v=none):Q4 (Pf F v) ([],0,MO):=by
 have hlf:DB []:=λx hx=>by cases hx
 unfold Hl at h;rw[HA] at h;simp only[HU,X2] at h
 cases v with
 | nil=>exact Q4.end_ (S:=[]) (XM 0) rfl
 | cons c xs'=>
  have hv1:(c::xs').drop (0:Int).toNat=c::xs':=rfl;have hvM:=hA.hv;have hMM:=hA.hM;simp only at h
  cases hp:pl c with
  | false=>exact Q4.pl_ (S:=[]) hA (XM 0) hv1 (by simp) hlf hp
  | true=>
   rw[hp] at h;simp only[XC,X2] at h;have hcN:=(hA.hc c (by simp)).2.2
   cases hN:decide (0<c.fN) with
   | true=>
    rw[hN] at h;simp only[X8] at h;simp only[Xw] at hN
    by_cases hbig:c.fN≤(c::xs').length
    ·have hnd:=IT (S:=[]) (sh:=MO) hA (XM 0) hv1 (by simp) hlf rfl hp (by simpa using hN) hbig;refine hnd.bad ?_
     cases hks:HA (c::xs').length (decide (c.fKind=6)) none c.fN.toNat xs' with
     | none=>
      obtain⟨n',hn'⟩:∃n',c.fN.toNat=n'+1:=⟨c.fN.toNat-1,by omega⟩
      rw[hn'] at hks;exact Qp hA (c::xs').length n' ⟨decide (c.fKind=6),c.fN,decide (c.fKind=6),[],false⟩ [] (0+1) _ none xs' (by simp) hks rfl (by simp only;omega) (by omega) rfl (λ_=>rfl) rfl (by omega) (by simp) hlf
     | some q=>rw[hks] at h;cases h
    ·refine⟨It 0 MO c,.inl (Fin.step ?_)⟩;rw[show Pf F (c::xs') (([]:List A9),0,MO)=_ from round (S:=[]) hA (XM 0) hv1 (by simp) hlf];have hbig':decide (((c::xs').length:Int)<c.fN)=true:=by simpa using hbig
     simp only[PJ,hp,hbig',hN,XC,X2,X8,decide_true]
   | false=>rw[hN] at h;cases h
theorem U4 (hA:Ro F M v):(∃f ys,Hl v=some (f,ys)∧Gl F v=some ((f.flat.length:Int),f.sh 0 MO,true))∨(Hl v=none∧∃sh',Gl F v=some (0,sh',false)):=by
 cases h:Hl v with
 | some q=>
  obtain⟨f,ys⟩:=q;obtain⟨h1,h2,h3⟩:=GO _ _ _ _ _ _ _ h;exact .inl ⟨f,ys,rfl,To hA (QK h) h2 h1⟩
 | none=>
  refine .inr ⟨rfl,?_⟩;obtain⟨o,ho,_⟩:=Mo hA;obtain⟨sh',hb | hb⟩:=RR hA h
  ·have e:=hb.eq ho;subst e;exact⟨sh',by unfold Gl;rw[Bc ho];rfl⟩
  ·have e:=hb.eq ho;subst e;exact⟨sh',by unfold Gl;rw[Bc ho];rfl⟩
end
theorem IL {x:Int}(h : -9223372036854775808≤x)(h':x≤9223372036854775807):IntKind.wrap .i64 x=x:=by
 simp only[IntKind.wrap,IntKind.bits,IntKind.signed];simp;omega
def Fo.dep:Fo→Nat
 | .nil=>0
 | .cell _ _ r=>max 1 r.dep
 | .node _ _ kids r=>max (kids.dep+1) r.dep
theorem EY (k:Option Aw)(s:AL):(Lf k s).fDepth=s.fDepth∧(Lf k s).fOutside=s.fOutside∧(Lf k s).fLong=(s.fLong||(BM k).any λc=>decide (200<(c.fStr.length:Int))):=by
 cases k with
 | none=>simp[Lf,BM]
 | some x=>simp[Lf,Wr,BM]
theorem JN:∀(f:Fo) (d:Nat) (s:AL),(d:Int)≤s.fDepth→(f.sh d s).fDepth=max s.fDepth ((d:Int)+f.dep)
 | .nil,d,s,h=>by simp only[Fo.sh,Fo.dep];omega
 | .cell k c r,d,s,h=>by
  have hk:=(EY k s).1;have e:(It d (Lf k s) c).fDepth=max s.fDepth ((d:Int)+1):=by rw[It,hk]
  rw[Fo.sh,JN r d _ (by rw[e];omega),e,Fo.dep];omega
 | .node k c kids r,d,s,h=>by
  have hk:=(EY k s).1;have e:(It d (Lf k s) c).fDepth=max s.fDepth ((d:Int)+1):=by rw[It,hk]
  have e2:=JN kids (d+1) (It d (Lf k s) c) (by rw[e];omega);rw[e] at e2;rw[Fo.sh,JN r d _ (by rw[e2];omega),e2,Fo.dep];omega
def Hn (c:Aa):Bool:=decide (c.fKind=3)&&!(decide ((-1000000000000)≤c.fInt)&&decide (c.fInt≤1000000000000))
def ET (c:Aa):Bool:=decide (200<(c.fStr.length:Int))
theorem Pm (k:Option Aw):(BM k).any Hn=false:=by cases k<;>simp[BM,Hn]
theorem NN:∀(f:Fo) (d:Nat) (s:AL),(f.sh d s).fOutside=(s.fOutside||f.flat.any Hn)
 | .nil,d,s=>by simp[Fo.sh,Fo.flat]
 | .cell k c r,d,s=>by
  rw[Fo.sh,NN r,It,(EY k s).2.1];simp only[Fo.flat,List.any_append,List.any_cons,Pm,XF,Bool.or_assoc];rfl
 | .node k c kids r,d,s=>by
  rw[Fo.sh,NN r,NN kids,It,(EY k s).2.1];simp only[Fo.flat,List.any_append,List.any_cons,Pm,XF,Bool.or_assoc];rfl
theorem L6:∀(f:Fo) (d:Nat) (s:AL),(f.sh d s).fLong=(s.fLong||f.flat.any ET)
 | .nil,d,s=>by simp[Fo.sh,Fo.flat]
 | .cell k c r,d,s=>by
  rw[Fo.sh,L6 r,It,(EY k s).2.2];simp only[Fo.flat,List.any_append,List.any_cons,Bool.or_assoc];rfl
 | .node k c kids r,d,s=>by
  rw[Fo.sh,L6 r,L6 kids,It,(EY k s).2.2];simp only[Fo.flat,List.any_append,List.any_cons,Bool.or_assoc];rfl
def TY (c:Aa):Int:=
 bif decide (c.fKind=1) then 4 else bif decide (c.fKind=2) then 5-c.fInt else bif decide (c.fKind=3) then((Lib.itoa c.fInt).length:Int) else
 bif decide (c.fKind=4) then K6 c.fStr else 2
def Ob:Option Aw→Int
 | none=>0
 | some s=>K6 s+1
def Fo.byt:Fo→Int
 | .nil=>0
 | .cell k c r=>Ob k+TY c+r.byt
 | .node k c kids r=>Ob k+(c.fN+1)+kids.byt+r.byt
theorem Mj (s:Aw):2≤K6 s:=by unfold K6;omega
theorem LD (k:Option Aw):0≤Ob k:=by
 cases k with
 | none=>exact XM 0
 | some s=>have:=Mj s;simp only[Ob];omega
theorem QR {c:Aa}(hp:pl c=true):0≤TY c:=by
 unfold TY
 cases h1:decide (c.fKind=1) with
 | true=>simp
 | false=>
  cases h2:decide (c.fKind=2) with
  | true=>
   simp[pl,h1,h2] at hp;simp only[X2,X8];omega
  | false=>
   cases h3:decide (c.fKind=3) with
   | true=>simp
   | false=>
    cases h4:decide (c.fKind=4) with
    | true=>have:=Mj c.fStr;simp only[X2,X8];omega
    | false=>simp
theorem Tf {c:Aa}(hp:pl c=true):0≤c.fN:=by
 simp only[pl,← Bool.decide_or] at hp
 cases h1:decide (c.fKind=1)<;>cases h2:decide (c.fKind=2)<;>cases h3:decide (c.fKind=3)<;>cases h4:decide (c.fKind=4)<;>cases h5:decide (c.fKind=5)<;>cases h6:decide (c.fKind=6)<;>simp[h1,h2,h3,h4,h5,h6] at hp<;>omega
theorem JT {c:Aa}(hp:pl c=true)(hn:0<c.fN):(c.fKind=5∨c.fKind=6)∧c.fInt=0∧c.fStr=[]:=by
 cases h1:decide (c.fKind=1)<;>cases h2:decide (c.fKind=2)<;>cases h3:decide (c.fKind=3)<;>cases h4:decide (c.fKind=4)<;>cases h5:decide (c.fKind=5)<;>cases h6:decide (c.fKind=6)<;>simp[pl,h1,h2,h3,h4,h5,h6] at hp<;>(simp only[Xw,Xy] at *;first | omega | exact⟨by omega,hp.1,hp.2.1⟩)
theorem SS {c:Aa}(hp:pl c=true)(hn:decide (0<c.fN)=false):Vy c=TY c:=by
 have hN:=Tf hp;have h0:c.fN=0:=by simp only[Xy] at hn;omega
 unfold Vy TY;rw[h0]
 cases h1:decide (c.fKind=1) with
 | true=>rfl
 | false=>
  cases h2:decide (c.fKind=2) with
  | true=>
   simp[pl,h1,h2] at hp;simp only[X2,X8];exact IL (by omega) (by omega)
  | false=>rfl
theorem SR {c:Aa}(hp:pl c=true)(hn:0<c.fN)(hm:c.fN≤9223372036854775000):Vy c=c.fN+1:=by
 obtain⟨hk,_,_⟩:=JT hp hn;unfold Vy;rw[Xz (by omega),Xz (by omega),Xz (by omega),Xz (by omega)];simp only[X2];rw[IL (x:=c.fN-1) (by omega) (by omega),IL (by omega) (by omega)];omega
theorem Ij:∀{f:Fo} {m:Bool} {l:Option Aw},f.wf m l=true→0≤f.byt
 | .nil,_,_,_=>XM 0
 | .cell k c r,m,l,h=>by
  simp only[Fo.wf,X1] at h;have h1:=Ij h.2;have h2:=QR h.1.1.2;have h3:=LD k;simp only[Fo.byt];omega
 | .node k c kids r,m,l,h=>by
  simp only[Fo.wf,X1,Xw] at h;have h1:=Ij h.2;have h2:=Ij h.1.2;have h3:=LD k;simp only[Fo.byt];omega
theorem Nm (k:Option Aw)(s:AL)(h0:0≤s.fBytes)(h:s.fBytes+Ob k≤9223372036854775807):(Lf k s).fBytes=s.fBytes+Ob k:=by
 cases k with
 | none=>simp[Lf,Ob]
 | some x=>
  have:=Mj x;simp only[Ob] at h;simp only[Lf,Wr,Ob];exact IL (by omega) (by omega)
theorem JO:∀(f:Fo) (m:Bool) (l:Option Aw) (d:Nat) (s:AL),f.wf m l=true→0≤s.fBytes→s.fBytes+f.byt≤9223372036854775000→(f.sh d s).fBytes=s.fBytes+f.byt
 | .nil,_,_,d,s,_,_,_=>by simp[Fo.sh,Fo.byt]
 | .cell k c r,m,l,d,s,hw,h0,h=>by
  simp only[Fo.wf,X1,XD] at hw;obtain⟨⟨⟨w1,w2⟩,w3⟩,w4⟩:=hw;have h1:=Ij w4;have h2:=QR w2;have h3:=LD k;simp only[Fo.byt] at h;have e1:=Nm k s h0 (by omega);have e:(It d (Lf k s) c).fBytes=s.fBytes+Ob k+TY c:=by
   rw[It,e1,SS w2 w3];exact IL (by omega) (by omega)
  rw[Fo.sh,JO r _ _ d _ w4 (by rw[e];omega) (by rw[e];omega),e,Fo.byt];omega
 | .node k c kids r,m,l,d,s,hw,h0,h=>by
  simp only[Fo.wf,X1,Xw] at hw;obtain⟨⟨⟨⟨⟨w1,w2⟩,w3⟩,w5⟩,w6⟩,w4⟩:=hw;have h1:=Ij w4;have h2:=Ij w6;have h3:=LD k;simp only[Fo.byt] at h;have e1:=Nm k s h0 (by omega);have e:(It d (Lf k s) c).fBytes=s.fBytes+Ob k+(c.fN+1):=by
   rw[It,e1,SR w2 w3 (by omega)];exact IL (by omega) (by omega)
  have e2:=JO kids _ _ (d+1) (It d (Lf k s) c) w6 (by rw[e];omega) (by rw[e];omega);rw[Fo.sh,JO r _ _ d _ w4 (by rw[e2,e];omega) (by rw[e2,e];omega),e2,e,Fo.byt];omega
def MC (s:Aw):Aw:=s.flatMap λc=>bif (decide (c=34)||decide (c=92)) then[92,c] else[c]
def Ju (s:Aw):Aw:=34::(MC s++[34])
theorem MB:∀s:Aw,(MC s).length=s.length+s.count 34+s.count 92
 | []=>rfl
 | c::s=>by
  have ih:=MB s;unfold MC at ih ⊢;rw[List.flatMap_cons,X9,ih]
  by_cases h1:c=34
  ·subst h1;simp;omega
  ·by_cases h2:c=92
   ·subst h2;simp;omega
   ·simp[h1,h2,List.count_cons];omega
theorem OW (s:Aw):((Ju s).length:Int)=K6 s:=by
 simp only[Ju,X3,X9,MB,Ye,K6];omega
def Lj (c:Aa):Aw:=
 bif decide (c.fKind=1) then[110,117,108,108] else
 bif decide (c.fKind=2) then(bif decide (c.fInt=1) then[116,114,117,101] else[102,97,108,115,101]) else
 bif decide (c.fKind=3) then Lib.itoa c.fInt else
 bif decide (c.fKind=4) then Ju c.fStr else
 bif decide (c.fKind=6) then[123,125] else[91,93]
def Ms:Option Aw→Aw
 | none=>[]
 | some s=>Ju s++[58]
def S2 (c:Aa)(s:Aw):Aw:=bif decide (c.fKind=6) then 123::(s++[125]) else 91::(s++[93])
def Gn (first:Bool):Aw:=bif first then[] else[44]
def Fo.txt:Bool→Fo→Aw
 | _,.nil=>[]
 | b,.cell k c r=>Gn b++Ms k++Lj c++r.txt false
 | b,.node k c kids r=>Gn b++Ms k++S2 c (kids.txt true)++r.txt false
theorem QS (k:Option Aw):((Ms k).length:Int)=Ob k:=by
 cases k with
 | none=>rfl
 | some s=>simp only[Ms,X9,Ob,Yc];have:=OW s;omega
theorem RS {c:Aa}(hp:pl c=true):((Lj c).length:Int)=TY c:=by
  unfold Lj TY
  cases h1:decide (c.fKind=1) with
  | true=>rfl
  | false=>
    cases h2:decide (c.fKind=2) with
    | true=>
      simp[pl,h1,h2] at hp;simp only[X2,X8]
      cases h7:decide (c.fInt=1) with
      | true=>simp only[Xw] at h7;simp[h7]
      | false=>
                 simp only[Xy] at h7;have:c.fInt=0:=by omega
                 simp[this]
    | false=>
      cases h3:decide (c.fKind=3) with
      | true=>rfl
      | false=>
        cases h4:decide (c.fKind=4) with
        | true=>simpa using OW c.fStr
        | false=>cases h6:decide (c.fKind=6)<;>rfl
theorem LH (c:Aa)(s:Aw):(S2 c s).length=s.length+2:=by
 unfold S2
 cases decide (c.fKind=6)<;>simp
theorem JM:∀(f:Fo) (m:Bool) (l:Option Aw) (b:Bool),f.wf m l=true→((f.txt b).length:Int)=f.byt+(bif b then((f.cnt-1:Nat):Int) else(f.cnt:Int))
 | .nil,m,l,b,_=>by cases b<;>rfl
 | .cell k c r,m,l,b,hw=>by
  simp only[Fo.wf,X1,XD] at hw;obtain⟨⟨⟨w1,w2⟩,w3⟩,w4⟩:=hw;have ih:=JM r _ _ false w4;have a:=QS k;have d:=RS w2;simp only[X2] at ih
  cases b<;>simp only[Fo.txt,Fo.byt,Fo.cnt,Gn,X8,X2,X9,Ye,Yc]<;>omega
 | .node k c kids r,m,l,b,hw=>by
  simp only[Fo.wf,X1,Xw] at hw;obtain⟨⟨⟨⟨⟨w1,w2⟩,w3⟩,w5⟩,w6⟩,w4⟩:=hw;have ih:=JM r _ _ false w4;have ih2:=JM kids _ _ true w6;have a:=QS k;have d:=LH c (kids.txt true);simp only[X2,X8] at ih ih2
  cases b<;>simp only[Fo.txt,Fo.byt,Fo.cnt,Gn,X8,X2,X9,Ye,Yc]<;>omega
def Fo.put (k:Option Aw):Fo→Fo→Fo
 | .cell _ c _,r=>.cell k c r
 | .node _ c kids _,r=>.node k c kids r
 | .nil,_=>.nil
theorem Te (P:Nat)(m:Bool)(last:Option Aw)(k:Nat)(xs:List Aa):HA (P+2) m last (k+1) xs =
  match HU m last xs with
  | none=>none
  | some (key,ys)=>match HA (P+2) false none 1 ys with
   | none=>none
   | some (f,zs)=>match HA (P+1) m key k zs with
    | none=>none
    | some (r,us)=>some (f.put key r,us):=by
 rw[HA]
 cases hk:HU m last xs with
 | none=>rfl
 | some p=>
  obtain⟨key,ys⟩:=p;simp only;rw[HA];simp only[HU,X2]
  cases ys with
  | nil=>rfl
  | cons c ys=>
   simp only
   cases hp:pl c with
   | false=>rfl
   | true=>
    simp only[XC,X2]
    cases hn:decide (0<c.fN) with
    | true=>
     simp only[X8]
     cases hq:HA (P+1) (decide (c.fKind=6)) none c.fN.toNat ys with
     | none=>rfl
     | some q=>
      obtain⟨kids,zs⟩:=q;simp only[HA]
      cases hr:HA (P+1) m key k zs with
      | none=>rfl
      | some q=>obtain⟨a,b⟩:=q;rfl
    | false=>
     simp only[X2,HA]
     cases hr:HA (P+1) m key k ys with
     | none=>rfl
     | some q=>obtain⟨a,b⟩:=q;rfl
def Mk (m:Bool)(last:Option Aw)(k:Nat)(xs:List Aa):Option (Fo×List Aa):=HA (xs.length+1) m last k xs
theorem K7 (m:Bool)(last:Option Aw)(xs:List Aa):Mk m last 0 xs=some (.nil,xs):=rfl
theorem Gd (m:Bool)(last:Option Aw)(k:Nat)(xs:List Aa):Mk m last (k+1) xs =
  match HU m last xs with
  | none=>none
  | some (key,ys)=>match Hl ys with
   | none=>none
   | some (f,zs)=>match Mk m key k zs with
    | none=>none
    | some (r,us)=>some (f.put key r,us):=by
 unfold Mk Hl;rw[Hj (xs.length+1) (xs.length+2) m last (k+1) xs (by omega) (by omega),Te]
 cases hk:HU m last xs with
 | none=>rfl
 | some p=>
  obtain⟨key,ys⟩:=p;have h1:=(L9 hk).1;have hy:ys.length≤xs.length:=by rw[h1];simp
  simp only;rw[Hj (xs.length+2) (ys.length+1) false none 1 ys (by omega) (by omega)]
  cases hf:HA (ys.length+1) false none 1 ys with
  | none=>rfl
  | some q=>
   obtain⟨f,zs⟩:=q;have h2:=(GO _ _ _ _ _ _ _ hf).1;have hz:zs.length≤ys.length:=by rw[h2];simp
   simp only;rw[Hj (xs.length+1) (zs.length+1) m key k zs (by omega) (by omega)]
   all_goals (cases HA (zs.length+1) m key k zs<;>rfl)
theorem I5 {S O:Type}{body:S→Option (Stp S O)}{n:Nat}{s s':S}{o:O}(h:body s=some (.next s'))(h':Cf body n s'=some o):Cf body (n+1) s=some o:=by rw[Cf,h];exact h'
theorem Ej {S O:Type}{body:S→Option (Stp S O)}{n:Nat}{s:S}{o:O}(h:body s=some (.out o)):Cf body (n+1) s=some o:=by rw[Cf,h]
theorem OY:Hl []=none:=rfl
theorem Hk (c:Aa)(r:List Aa):Hl (c::r)=bif !pl c then none else bif decide (0<c.fN) then(match Mk (decide (c.fKind=6)) none c.fN.toNat r with
  | none=>none
  | some (kids,zs)=>some (.node none c kids .nil,zs)) else some (.cell none c .nil,r):=by
 unfold Hl;rw[HA];simp only[HU,X2]
 cases hp:pl c with
 | false=>rfl
 | true=>
  simp only[XC,X2]
  cases hn:decide (0<c.fN) with
  | true=>
   simp only[X8];unfold Mk;rw[X3]
   cases hq:HA (r.length+1) (decide (c.fKind=6)) none c.fN.toNat r with
   | none=>rfl
   | some q=>obtain⟨kids,zs⟩:=q;rfl
  | false=>rfl
theorem OX {f:Fo}(h:f.one=true)(key:Option Aw)(r:Fo):(f.put key r).flat=BM key++(f.flat++r.flat):=by
 cases f with
 | nil=>cases h
 | cell k c r'=>
  cases k with
  | some s=>cases h
  | none=>cases r' with
   | nil=>simp[Fo.put,Fo.flat,BM]
   | cell _ _ _=>cases h
   | node _ _ _ _=>cases h
 | node k c kids r'=>
  cases k with
  | some s=>cases h
  | none=>cases r' with
   | nil=>simp[Fo.put,Fo.flat,BM]
   | cell _ _ _=>cases h
   | node _ _ _ _=>cases h
theorem Th {f:Fo}(h:f.one=true):1≤f.flat.length:=by
 cases f with
 | nil=>cases h
 | cell k c r'=>simp[Fo.flat];omega
 | node k c kids r'=>simp[Fo.flat];omega
theorem IS {xs ys:List Aa}{f:Fo}(h:Hl xs=some (f,ys)):xs=f.flat++ys∧f.wf false none=true∧f.one=true:=
 ⟨(GO _ _ _ _ _ _ _ h).1,(GO _ _ _ _ _ _ _ h).2.1,QK h⟩
def Ip (v:List Aa)(i:Int):Int:=match Hl (v.drop i.toNat) with
 | none=>-1
 | some (f,_)=>i+f.flat.length
def Ka (m:Bool)(last:Option Aw)(v:List Aa)(i:Int)(k:Nat):Int:=match Mk m last k (v.drop i.toNat) with
 | none=>-1
 | some (f,_)=>i+f.flat.length
theorem Nu {v:List Aa}{i:Int}(h0:0≤i)(h1:i≤v.length):Ip v i = -1∨(i<Ip v i∧Ip v i≤v.length):=by
 unfold Ip
 cases h:Hl (v.drop i.toNat) with
 | none=>exact .inl rfl
 | some q=>
  obtain⟨f,ys⟩:=q;obtain⟨h2,_,h3⟩:=IS h;have:=Th h3;have hl:(v.drop i.toNat).length=f.flat.length+ys.length:=by rw[h2];simp
  rw[List.length_drop] at hl
  right;simp only;omega
structure WJ (F M:Nat) (v:List Aa):Prop where
 hM:M≤1152921504606846976
 hv:v.length≤M
 hF:M<F
 hc:∀c∈v,c.fStr.length≤M
theorem RI (ok:Bool){i:Int}(h0:0≤i)(h1:i≤1152921504606846976):BK ok i=some (bif ok then i+1 else -1):=by
 unfold BK
 cases ok
 ·rfl
 ·rw[Ba rfl,AT (by omega) (by omega)];rfl
theorem QJ {F:Nat}{c:Aa}(hF:c.fStr.length<F)(hs:c.fStr.length≤1152921504606846976):MV F c=some (decide (c.fKind=4)&&pl c):=by
 unfold MV;rw[RC hF (by omega)];simp only[Option.isSome_some,ov,XO,imp,XQ,AY,X8]
 cases h4:decide (c.fKind=4) with
 | false=>rfl
 | true=>
  simp only[Xw] at h4;simp[pl,h4]
theorem Dg {v:List Aa}{i:Int}{c:Aa}{r:List Aa}(h0:0≤i)(h:v.drop i.toNat=c::r):Ax v i=c:=by
 have:=(Cp h0 h).1;simp[Ax,this]
section
variable {M : Nat} {v : List Aa}
theorem Ji {F:Nat}(hA:WJ F M v){g:List Aa→Int→Option Int}{n:Int}(hn:n≤9223372036854775807):∀(L:Nat) (i x:Int),0≤i→i≤v.length→0≤x→x≤n→(∀j,i≤j→j≤v.length→g v j=some (Ip v j))→v.length-i.toNat<L→
  ∃o,Cf (λσ=>CL v n g σ.1 σ.2) L (i,x)=some o∧BS (λν=>DG ν) o=some (Ka false none v i (n-x).toNat)
 | 0,i,x,_,_,_,_,_,h=>by omega
 | L+1,i,x,h0,h1,hx,hxn,hg,hL=>by
  cases hxl:decide (x<n) with
  | false=>
   refine⟨.go i,Ej (by show CL v n g i x=_;unfold CL;rw[AQ hxl]),?_⟩;simp only[Xy] at hxl;rw[show(n-x).toNat=0 from by omega];simp[BS,DG,Ka,K7,Fo.flat]
  | true=>
   have hb:CL v n g i x=AO (decide (Ip v i<0)) (some (.out (.ret (-1)))) (AY (BN .i64 (x+1))<|some (.next (Ip v i,x+1))):=by unfold CL;rw[Ba hxl,hg i (XM i) h1,Bc rfl]
   simp only[Xw] at hxl;obtain⟨k,hk⟩:∃k,(n-x).toNat=k+1:=⟨(n-x).toNat-1,by omega⟩
   rw[hk];have e:Ka false none v i (k+1)=bif decide (Ip v i<0) then -1 else Ka false none v (Ip v i) k:=by
    unfold Ka;rw[Gd];simp only[HU,X2]
    cases hp:Hl (v.drop i.toNat) with
    | none=>simp[Ip,hp]
    | some q=>
     obtain⟨f,ys⟩:=q;obtain⟨q1,q2,q3⟩:=IS hp;have hi:Ip v i=i+f.flat.length:=by simp[Ip,hp]
     have hd:v.drop (Ip v i).toNat=ys:=by rw[hi];exact CW h0 q1
     rw[hd,Xz (by omega)];simp only[X2]
     cases hr:Mk false none k ys with
     | none=>rfl
     | some q=>
      obtain⟨r,zs⟩:=q;simp only[OX q3,BM,Yh,X9,hi];omega
   rw[e];rcases Nu (v:=v) h0 h1 with hneg | ⟨hlt,hle⟩
   ·exact⟨.ret (-1),Ej (hb.trans (by rw[hneg,Ba (by decide)])),by rw[hneg];rfl⟩
   ·have hM:=hA.hM;have hvM:=hA.hv;obtain⟨o,ho1,ho2⟩:=Ji hA hn L (Ip v i) (x+1) (by omega) hle (by omega) (by omega) (λj hj=>hg j (by omega)) (by omega);exact⟨o,I5 (hb.trans (by rw[AQ (Xz (by omega)),AT (by omega) (by omega)])) ho1,by rw[ho2,show(n-(x+1)).toNat=k from by omega,Xz (by omega)];rfl⟩
theorem Mh {F:Nat}(hA:WJ F M v){g:List Aa→Int→Option Int}{n:Int}(hn:n≤9223372036854775807):∀(L:Nat) (i x:Int) (last:Aw),0≤i→i≤v.length→0≤x→x≤n→(∀j,i≤j→j≤v.length→g v j=some (Ip v j))→v.length-i.toNat<L→
  ∃o,Cf (λσ=>Dl F v n g σ.1 σ.2.1 σ.2.2) L (i,last,x)=some o∧BS (λν=>Gb ν) o=some (Ka true (bif decide (0<x) then some last else none) v i (n-x).toNat)
 | 0,i,x,_,_,_,_,_,_,h=>by omega
 | L+1,i,x,last,h0,h1,hx,hxn,hg,hL=>by
  have hM:=hA.hM;have hvM:=hA.hv;have hMF:=hA.hF
  cases hxl:decide (x<n) with
  | false=>
   refine⟨.go i,Ej (by show Dl F v n g i last x=_;unfold Dl;rw[AQ hxl]),?_⟩;simp only[Xy] at hxl;rw[show(n-x).toNat=0 from by omega];simp[BS,Gb,Ka,K7,Fo.flat]
  | true=>
   have hxl':=hxl;simp only[Xw] at hxl;obtain⟨k,hk⟩:∃k,(n-x).toNat=k+1:=⟨(n-x).toNat-1,by omega⟩
   rw[hk]
   cases hd:v.drop i.toNat with
   | nil=>
    have hl:v.length≤i.toNat:=by simpa using hd
    refine⟨.ret (-1),Ej (by
     show Dl F v n g i last x=_;unfold Dl;rw[Ba hxl',CD (by simp[imp,show(v.length:Int)≤i from by omega]),CD (by simp[imp,show(v.length:Int)≤i from by omega]),Ba (by simp[show(v.length:Int)≤i from by omega])]),?_⟩
    simp[BS,Ka,hd,Gd,HU]
   | cons c r=>
    obtain⟨g1,g2,g3⟩:=Cp h0 hd;have hcM:=hA.hc c (X7 g1);have hat:=Dg h0 hd;have hnl:decide ((v.length:Int)≤i)=false:=by simp;omega
    have hb:Dl F v n g i last x=AO (!(decide (c.fKind=4)&&pl c)||decide (0<x)&&(Di c.fStr last||decide (c.fStr=last))) (some (.out (.ret (-1)))) (Bf (g v (i+1)) λha=>AO (decide (ha<0)) (some (.out (.ret (-1)))) (AY (BN .i64 (x+1))<|some (.next (ha,c.fStr,x+1)))):=by
     unfold Dl;rw[Ba hxl',CD (by simp only[imp];rw[Tv h0 g3];simp),hat,QJ (by omega) (by omega),CD (by simp[imp])];simp only[hnl,ov,XO,XF];rw[B6 h0 g3,AT (by omega) (by omega)]
    have hpk:HU true (bif decide (0<x) then some last else none) (c::r)=bif (!(decide (c.fKind=4)&&pl c)||decide (0<x)&&(Di c.fStr last||decide (c.fStr=last))) then none else some (some c.fStr,r):=by
     simp only[HU,X8]
     cases h4:decide (c.fKind=4) with
     | false=>simp
     | true=>
      cases hp:pl c with
      | false=>simp
      | true=>
       have hok:=(NV hp (by simpa using h4)).2
       cases h0x:decide (0<x) with
       | false=>simp[CE,hok]
       | true=>cases hs:(Di c.fStr last||decide (c.fStr=last))<;>simp[CE,hok,hs]
    cases ht:(!(decide (c.fKind=4)&&pl c)||decide (0<x)&&(Di c.fStr last||decide (c.fStr=last))) with
    | true=>
     rw[ht] at hpk;refine⟨.ret (-1),Ej (hb.trans (Ba ht)),?_⟩;simp only[Ka,hd,Gd,hpk,X8];rfl
    | false=>
     rw[ht] at hpk;rw[AQ ht,hg (i+1) (by omega) (by omega),Bc rfl] at hb;have e:Ka true (bif decide (0<x) then some last else none) v i (k+1)=bif decide (Ip v (i+1)<0) then -1 else Ka true (some c.fStr) v (Ip v (i+1)) k:=by
      unfold Ka;rw[hd,Gd,hpk];simp only[X2];have hx:Ip v (i+1)=match Hl r with | none=>-1 | some (f,_)=>i+1+f.flat.length:=by unfold Ip;rw[g2]
      cases hp:Hl r with
      | none=>rw[hp] at hx;simp[hx]
      | some q=>
       obtain⟨f,ys⟩:=q;obtain⟨q1,q2,q3⟩:=IS hp;rw[hp] at hx;simp only at hx;have hd2:v.drop (Ip v (i+1)).toNat=ys:=by rw[hx];exact CW (by omega) (g2.trans q1)
       rw[hd2,Xz (by omega)];simp only[X2]
       cases hr:Mk true (some c.fStr) k ys with
       | none=>rfl
       | some q=>
        obtain⟨r',zs⟩:=q;simp only[OX q3,BM,X9,X3,Ye,hx];omega
     rw[e];rcases Nu (v:=v) (i:=i+1) (by omega) (by omega) with hneg | ⟨hlt,hle⟩
     ·exact⟨.ret (-1),Ej (hb.trans (by rw[hneg,Ba (by decide)])),by rw[hneg];rfl⟩
     ·obtain⟨o,ho1,ho2⟩:=Mh hA hn L (Ip v (i+1)) (x+1) c.fStr (by omega) hle (by omega) (by omega) (λj hj=>hg j (by omega)) (by omega);exact⟨o,I5 (hb.trans (by rw[AQ (Xz (by omega)),AT (by omega) (by omega)])) ho1,by rw[ho2,show(n-(x+1)).toNat=k from by omega,X4 (show(0:Int)<x+1 from by omega),Xz (by omega)];rfl⟩
theorem Pd {i:Int}{c:Aa}{r:List Aa}(h0:0≤i)(hd:v.drop i.toNat=c::r)(hp:pl c=true):Ip v i=Ka (decide (c.fKind=6)) none v (i+1) c.fN.toNat:=by
 have g2:=(Cp h0 hd).2.1;have hN:=Tf hp;unfold Ip Ka;rw[hd,Hk,g2,hp];simp only[XC,X2]
 cases hn:decide (0<c.fN) with
 | true=>
  simp only[X8]
  cases hq:Mk (decide (c.fKind=6)) none c.fN.toNat r with
  | none=>rfl
  | some q=>
   obtain⟨kids,zs⟩:=q;simp only[Fo.flat,BM,Yh,X3,Ya];omega
 | false=>
  simp only[Xy] at hn;rw[show c.fN.toNat=0 from by omega,K7];simp[Fo.flat,BM]
theorem OS (hA:WJ (M+1) M v)(hN:∀c∈v,c.fN≤9223372036854775807):∀(d F:Nat) (i:Int),0≤i→i≤v.length→v.length-i.toNat=d→M+2*d+3<F→Dp F v i=some (Ip v i):=by
 have hM:=hA.hM;have hvM:=hA.hv;intro d
 induction d using Nat.strongRecOn with
 | ind d ih=>
  intro F i h0 h1 hd hF;obtain⟨F,rfl⟩:∃G,F=G+1:=⟨F-1,by omega⟩
  obtain⟨F,rfl⟩:∃G,F=G+1:=⟨F-1,by omega⟩
  rw[Dp];unfold NS
  cases hdr:v.drop i.toNat with
  | nil=>
   have hl:v.length≤i.toNat:=by simpa using hdr
   rw[Ba (by simp;omega)];simp[Ip,hdr,OY]
  | cons c r=>
   obtain⟨g1,g2,g3⟩:=Cp h0 hdr;have hcM:=hA.hc c (X7 g1);have hcN:=hN c (X7 g1);rw[AQ (by simp;omega),B6 h0 g3,Dg h0 hdr];simp only[RI _ h0 (show i≤1152921504606846976 by omega),Option.isSome_some,ov,XO,imp,XQ,CD (x:=_) (rfl:true=true)];have hg:∀j,i+1≤j→j≤v.length→Dp F v j=some (Ip v j):=λj hj hj2=>ih (v.length-j.toNat) (by omega) F j (by omega) hj2 rfl (by omega);have hpl0:pl c=false→Ip v i = -1:=λhp=>by simp[Ip,hdr,Hk,hp]
   have hleaf:pl c=true→c.fN=0→Ip v i=i+1:=λhp h0'=>by simp[Ip,hdr,Hk,hp,h0',Fo.flat,BM]
   have hscal:∀b:Bool,pl c=b→(b=true→c.fN=0)→Ip v i=bif b then i+1 else -1:=λb hb hz=>by
    cases b
    ·exact hpl0 hb
    ·exact hleaf hb (hz rfl)
   by_cases k1:c.fKind=1
   ·rw[Ba (by simp[k1])];have hp:pl c=(decide (c.fInt=0)&&(decide (c.fStr=[])&&decide (c.fN=0))):=by simp[pl,k1]
    rw[hscal _ hp (λh=>by simp at h;exact h.2.2)]
    cases decide (c.fInt=0)<;>cases decide (c.fStr=[])<;>cases decide (c.fN=0)<;>rfl
   rw[AQ (by simp[k1])]
   by_cases k2:c.fKind=2
   ·rw[Ba (by simp[k2])];have hp:pl c=((decide (c.fInt=0)||decide (c.fInt=1))&&(decide (c.fStr=[])&&decide (c.fN=0))):=by simp[pl,k2]
    rw[hscal _ hp (λh=>by simp at h;exact h.2.2)]
    cases decide (c.fInt=0)<;>cases decide (c.fInt=1)<;>cases decide (c.fStr=[])<;>cases decide (c.fN=0)<;>rfl
   rw[AQ (by simp[k2])]
   by_cases k3:c.fKind=3
   ·rw[Ba (by simp[k3])];have hp:pl c=(decide (c.fStr=[])&&decide (c.fN=0)):=by simp[pl,k3]
    rw[hscal _ hp (λh=>by simp at h;exact h.2)]
    cases decide (c.fStr=[])<;>cases decide (c.fN=0)<;>rfl
   rw[AQ (by simp[k3])]
   by_cases k4:c.fKind=4
   ·rw[Ba (by simp[k4]),QJ (by omega) (by omega),Bc rfl,Bc rfl];rw[X4 k4,XB,hscal (pl c) rfl (λhp=>by have:=(NV hp k4).1;rw[this])]
   rw[AQ (by simp[k4])]
   by_cases k5:c.fKind=5
   ·have hp:pl c=(decide (c.fInt=0)&&(decide (c.fStr=[])&&decide (0≤c.fN))):=by simp[pl,k5]
    rw[show(decide (c.fKind=5)&&(decide (c.fInt=0)&&(decide (c.fStr=[])&&decide (0≤c.fN))))=pl c from by rw[hp,X4 k5,XB]];have k5' : ¬ c.fKind=6:=by omega
    cases hb:pl c with
    | false=>rw[AQ rfl,AQ (by simp[k5]),hpl0 hb]
    | true=>
     have hn0:=Tf hb;rw[Ba rfl,AT (by omega) (by omega),Gc];unfold HT;obtain⟨o,ho1,ho2⟩:=Ji (F:=F) ⟨hM,hvM,by omega,hA.hc⟩ hcN F (i+1) 0 (by omega) (by omega) (XM 0) hn0 hg (by omega);rw[Bc ho1,ho2,Bc rfl,Pd h0 hdr hb,Xz k5',Int.sub_zero]
   rw[AQ (by simp[k5])]
   by_cases k6:c.fKind=6
   ·have hp:pl c=(decide (c.fInt=0)&&(decide (c.fStr=[])&&decide (0≤c.fN))):=by simp[pl,k6]
    rw[show(decide (c.fKind=6)&&(decide (c.fInt=0)&&(decide (c.fStr=[])&&decide (0≤c.fN))))=pl c from by rw[hp,X4 k6,XB]]
    cases hb:pl c with
    | false=>rw[AQ rfl,hpl0 hb]
    | true=>
     have hn0:=Tf hb;rw[Ba rfl,AT (by omega) (by omega),K4];unfold L8;obtain⟨o,ho1,ho2⟩:=Mh (F:=F) ⟨hM,hvM,by omega,hA.hc⟩ hcN F (i+1) 0 [] (by omega) (by omega) (XM 0) hn0 hg (by omega);rw[Bc ho1,ho2,Bc rfl,Pd h0 hdr hb,X4 k6,Int.sub_zero];rfl
   ·rw[AQ (by simp[k6]),hpl0 (by simp[pl,k1,k2,k3,k4,k5,k6])]
theorem Qf (hA:WJ (M+1) M v)(hN:∀c∈v,c.fN≤9223372036854775807){F:Nat}(hF:3*M+3<F):JS F v=some (decide (Ip v 0=v.length)):=by
 have hvM:=hA.hv;unfold JS;rw[OS hA hN v.length F 0 (XM 0) (by omega) (by simp) (by omega)];simp only[imp,Option.isSome_some,XQ,CD,ov,XO]
 cases v with
 | nil=>simp[Ip,OY]
 | cons c r=>
  rw[show decide (0<((c::r).length:Int))=true from by simp,XB]
  first | done | rfl
end
theorem QL {m:Bool}{last key:Option Aw}{r:List Aa}(h:CE m last key=true):HU m last (BM key++r)=some (key,r):=by
 cases key with
 | none=>
  have:m=false:=by simpa[CE] using h
  subst this;rfl
 | some s=>
  have h':=h;simp only[CE,X1] at h;obtain⟨⟨h1,h2⟩,h3⟩:=h;subst h1;have hp:pl ⟨4,0,s,0⟩=true:=by simp[pl,h2]
  show(bif pl ⟨4,0,s,0⟩&&decide ((4:Int)=4)&&CE true last (some s) then _ else _)=_;rw[hp,h'];rfl
theorem LA:∀(f:Fo) (m:Bool) (last:Option Aw) (ys:List Aa),f.wf m last=true→Mk m last f.cnt (f.flat++ys)=some (f,ys)
 | .nil,_,_,_,_=>rfl
 | .cell k c r,m,last,ys,hw=>by
  simp only[Fo.wf,X1,XD] at hw;obtain⟨⟨⟨w1,w2⟩,w3⟩,w4⟩:=hw;simp only[Fo.cnt,Fo.flat,XW,Yi];rw[Gd,QL w1];simp only[Hk,w2,w3,XC,X2,LA r m k ys w4,Fo.put]
 | .node k c kids r,m,last,ys,hw=>by
  simp only[Fo.wf,X1,Xw] at hw;obtain⟨⟨⟨⟨⟨w1,w2⟩,w3⟩,w5⟩,w6⟩,w4⟩:=hw;simp only[Fo.cnt,Fo.flat,XW,Yi];rw[Gd,QL w1];have e:c.fN.toNat=kids.cnt:=by omega
  simp only[Hk,w2,X4 w3,XC,X2,X8,e,LA kids _ none (r.flat++ys) w6,LA r m k ys w4,Fo.put]
theorem QM {f:Fo}{ys:List Aa}(h1:f.one=true)(hw:f.wf false none=true):Hl (f.flat++ys)=some (f,ys):=by
 have:=LA f false none ys hw;have hc:f.cnt=1:=by
  cases f with
  | nil=>cases h1
  | cell k c r=>cases k with
   | some _=>cases h1
   | none=>cases r with
    | nil=>rfl
    | _=>cases h1
  | node k c kids r=>cases k with
   | some _=>cases h1
   | none=>cases r with
    | nil=>rfl
    | _=>cases h1
 rw[hc] at this;exact this
structure G1 (M:Nat) (v:List Aa):Prop where
 hM:M≤1000000000
 hv:v.length≤M
 hc:∀c∈v,c.fStr.length≤M∧BN .i64 c.fInt=true∧c.fN≤9223372036854775807
theorem G1.lk {M F:Nat}{v:List Aa}(h:G1 M v)(hF:M<F):Ro F M v:=⟨by have:=h.hM;omega,by have:=h.hM;omega,h.hv,hF,h.hc⟩
theorem G1.rf {M F:Nat}{v:List Aa}(h:G1 M v)(hF:M<F):WJ F M v:=⟨by have:=h.hM;omega,h.hv,hF,λc hc=>(h.hc c hc).1⟩
theorem G1.drop {M:Nat}{v:List Aa}(h:G1 M v)(k:Nat):G1 M (v.drop k):=⟨h.hM,by have:=h.hv;rw[List.length_drop];omega,λc hc=>h.hc c (List.mem_of_mem_drop hc)⟩
theorem G1.take {M:Nat}{v:List Aa}(h:G1 M v)(k:Nat):G1 M (v.take k):=⟨h.hM,by have:=h.hv;rw[List.length_take];omega,λc hc=>h.hc c (List.mem_of_mem_take hc)⟩
def whole (v:List Aa):Option Fo:=match Hl v with
 | some (f,[])=>some f
 | _=>none
theorem LP {v:List Aa}{f:Fo}(h:whole v=some f):v=f.flat∧f.wf false none=true∧f.one=true:=by
 unfold whole at h
 cases hp:Hl v with
 | none=>rw[hp] at h;cases h
 | some q=>
  obtain⟨g,ys⟩:=q;rw[hp] at h
  cases ys with
  | cons _ _=>cases h
  | nil=>
   cases h
   obtain⟨h1,h2,h3⟩:=IS hp;exact⟨by simpa using h1,h2,h3⟩
theorem SG {f:Fo}(h1:f.one=true)(hw:f.wf false none=true):whole f.flat=some f:=by
 have:=QM (ys:=[]) h1 hw;rw[Ya] at this;simp[whole,this]
def Nc (f:Fo):Int:=
 bif f.flat.any Hn then 2 else bif f.flat.any ET||(decide (200<f.flat.length)||(decide (8<f.dep)||decide (4000<(f.txt true).length))) then 3 else 0
def Dv (v:List Aa):Int:=match whole v with
 | none=>1
 | some f=>Nc f
theorem NX {f:Fo}(h1:f.one=true):f.cnt=1:=by
 cases f with
 | nil=>cases h1
 | cell k c r=>cases k with
  | some _=>cases h1
  | none=>cases r with
   | nil=>rfl
   | _=>cases h1
 | node k c kids r=>cases k with
  | some _=>cases h1
  | none=>cases r with
   | nil=>rfl
   | _=>cases h1
theorem NU (s:Aw):K6 s≤2*s.length+2+s.length:=by
 have h1:s.count 34≤s.length:=List.count_le_length;have h2:s.count 92≤s.length:=List.count_le_length;unfold K6;omega
theorem VA {c:Aa}{M:Nat}(hp:pl c=true)(hs:c.fStr.length≤M)(hi:(Lib.itoa c.fInt).length≤21):TY c≤3*M+21:=by
 have:=NU c.fStr;unfold TY
 cases h1:decide (c.fKind=1) with
 | true=>simp only[X8];omega
 | false=>
  cases h2:decide (c.fKind=2) with
  | true=>
   simp[pl,h1,h2] at hp;simp only[X2,X8];omega
  | false=>
   cases h3:decide (c.fKind=3) with
   | true=>simp only[X2,X8];omega
   | false=>cases h4:decide (c.fKind=4)<;>simp only[X2,X8]<;>omega
theorem Ov {M:Nat}:∀{f:Fo} {m:Bool} {l:Option Aw},f.wf m l=true→(∀c∈f.flat,c.fStr.length≤M∧BN .i64 c.fInt=true∧c.fN≤9223372036854775807)→f.byt+f.cnt≤(3*M+24)*f.flat.length
 | .nil,_,_,_,_=>by simp[Fo.byt,Fo.flat,Fo.cnt]
 | .cell k c r,m,l,hw,hc=>by
  simp only[Fo.wf,X1,XD] at hw;obtain⟨⟨⟨w1,w2⟩,w3⟩,w4⟩:=hw;simp only[Fo.flat] at hc;have ih:=Ov w4 (λx hx=>hc x (by simp[hx]));obtain⟨c1,c2,c3⟩:=hc c (by simp);have i64:=GF c2;have hl:=VA w2 c1 (Lib.itoa_length_le c.fInt i64.1 i64.2);have hk:Ob k≤(3*M+24)*(BM k).length:=by
   cases k with
   | none=>simp[Ob,BM]
   | some s=>
    have:=(hc ⟨4,0,s,0⟩ (by simp[BM])).1;have h2:=NU s;simp only at this;simp only[Ob,BM,Yc];omega
  simp only[Fo.byt,Fo.flat,Fo.cnt,X9,X3];have e:((3*(M:Int)+24)*(((BM k).length+(r.flat.length+1):Nat):Int))=(3*(M:Int)+24)*(BM k).length+((3*(M:Int)+24)*r.flat.length+(3*(M:Int)+24)):=by
   push_cast;rw[Int.mul_add,Int.mul_add,Int.mul_one]
  rw[e]
  push_cast at *
  omega
 | .node k c kids r,m,l,hw,hc=>by
  simp only[Fo.wf,X1,Xw] at hw;obtain⟨⟨⟨⟨⟨w1,w2⟩,w3⟩,w5⟩,w6⟩,w4⟩:=hw;simp only[Fo.flat] at hc;have ih:=Ov w4 (λx hx=>hc x (by simp[hx]));have ih2:=Ov w6 (λx hx=>hc x (by simp[hx]));have hcf:=CC kids;have hk:Ob k≤(3*M+24)*(BM k).length:=by
   cases k with
   | none=>simp[Ob,BM]
   | some s=>
    have:=(hc ⟨4,0,s,0⟩ (by simp[BM])).1;have h2:=NU s;simp only at this;simp only[Ob,BM,Yc];omega
  simp only[Fo.byt,Fo.flat,Fo.cnt,X9,X3];have e:((3*(M:Int)+24)*(((BM k).length+(kids.flat.length+r.flat.length+1):Nat):Int))=(3*(M:Int)+24)*(BM k).length+((3*(M:Int)+24)*kids.flat.length+(3*(M:Int)+24)*r.flat.length+(3*(M:Int)+24)):=by
   push_cast;rw[Int.mul_add,Int.mul_add,Int.mul_add,Int.mul_one]
  rw[e]
  push_cast at *
  omega
theorem N6 {M:Nat}(hM:M≤1000000){f:Fo}{m:Bool}{l:Option Aw}(hw:f.wf m l=true)(hl:f.flat.length≤M)(hc:∀c∈f.flat,c.fStr.length≤M∧BN .i64 c.fInt=true∧c.fN≤9223372036854775807):f.byt≤4000000000000:=by
 have:=Ov (M:=M) hw hc;have h2:(3*M+24)*f.flat.length≤(3*1000000+24)*1000000:=Nat.mul_le_mul (by omega) (by omega);have h3:(((3*M+24)*f.flat.length:Nat):Int)=(3*(M:Int)+24)*f.flat.length:=by push_cast;rfl
 omega
theorem Nk {M F:Nat}{v:List Aa}(hA:G1 M v)(hM:M≤1000000)(hF:M<F):Dt F v=some (Dv v):=by
 unfold Dt Dv whole;have hvM:=hA.hv;rcases U4 (hA.lk hF) with⟨f,ys,hp,hl⟩ | ⟨hp,sh',hl⟩
 ·rw[hl,Bc rfl,hp];obtain⟨h1,h2,h3⟩:=IS hp;have hlen:v.length=f.flat.length+ys.length:=by rw[h1];simp
  cases ys with
  | cons c r=>
   rw[Ba];simp only[X3] at hlen;simp;omega
  | nil=>
   simp only[Ye,Nat.add_zero] at hlen;rw[AQ (by simp[hlen])];have hc:∀c∈f.flat,c.fStr.length≤M∧BN .i64 c.fInt=true∧c.fN≤9223372036854775807:=λc hc=>hA.hc c (by rw[h1];simp[hc]);have hb:=N6 hM h2 (by omega) hc;have hb0:=Ij h2;have e1:(f.sh 0 MO).fOutside=f.flat.any Hn:=by rw[NN];rfl
   have e2:(f.sh 0 MO).fLong=f.flat.any ET:=by rw[L6];rfl
   have e3:(f.sh 0 MO).fDepth=f.dep:=by rw[JN f 0 MO (by simp[MO])];simp[MO]
   have e4:(f.sh 0 MO).fBytes=(f.txt true).length:=by
    rw[JO f false none 0 MO h2 (by simp[MO]) (by simp[MO];omega),JM f false none true h2,NX h3];simp[MO]
   simp only;rw[e1,e2,e3,e4,hlen];unfold Nc
   cases f.flat.any Hn with
   | true=>rw[Ba rfl];rfl
   | false=>
    rw[AQ rfl];have a1:decide ((200:Int)<(f.flat.length:Int))=decide (200<f.flat.length):=by rw[XE];simp;omega
    have a2:decide ((8:Int)<(f.dep:Int))=decide (8<f.dep):=by rw[XE];simp;omega
    have a3:decide ((4000:Int)<((f.txt true).length:Int))=decide (4000<(f.txt true).length):=by rw[XE];simp;omega
    rw[a1,a2,a3]
    cases(f.flat.any ET||(decide (200<f.flat.length)||(decide (8<f.dep)||decide (4000<(f.txt true).length))))<;>rfl
 ·rw[hl,Bc rfl,hp];rfl
theorem NZ {v:List Aa}{p:Int}{f:Fo}{ys:List Aa}(h1:f.one=true)(hw:f.wf false none=true)(hd:v.drop p.toNat=f.flat++ys):Ip v p=p+f.flat.length:=by
 unfold Ip;rw[hd,QM h1 hw]
theorem NE {c:Aa}(hp:pl c=true)(hn:decide (0<c.fN)=false):(Fo.cell none c .nil).wf false none=true:=by simp[Fo.wf,CE,hp,hn]
theorem ND {c:Aa}{kids:Fo}(hp:pl c=true)(hn:0<c.fN)(hk:c.fN=kids.cnt)(hw:kids.wf (decide (c.fKind=6)) none=true):(Fo.node none c kids .nil).wf false none=true:=by simp[Fo.wf,CE,hp,hn,hk,hw];omega
section
variable {M : Nat} {v : List Aa}
theorem G1.next (hA:G1 M v){F:Nat}(hF:3*M+3<F){p:Int}(h0:0≤p)(h1:p≤v.length):Dp F v p=some (Ip v p):=by
 have hM:=hA.hM;have hvM:=hA.hv;exact OS (hA.rf (X0 M)) (λc hc=>(hA.hc c hc).2.2) (v.length-p.toNat) F p h0 h1 rfl (by omega)
theorem JR {F:Nat}{p:Int}{c:Aa}{r:List Aa}(h0:0≤p)(hpM:p≤1152921504606846976)(hd:v.drop p.toNat=c::r)(hp:pl c=true)(hn:decide (0<c.fN)=false):CY (F+2) v p=some 1:=by
 obtain⟨g1,g2,g3⟩:=Cp h0 hd;rw[CY];unfold Hg;rw[B6 h0 g3,Dg h0 hd]
 cases hk:(!decide (c.fKind=5)&&!decide (c.fKind=6)) with
 | true=>rw[Ba rfl]
 | false=>
  rw[AQ rfl,AT (by omega) (by omega),Bc (Ej (o:=.go 0) (by
   show CH (F+1) v p _ 0 (p+1) 0=_;unfold CH;rw[Dg h0 hd,AQ hn]))]
  simp only[BS,D9];rw[AT (by omega) (by omega)];rfl
theorem Nq {F:Nat}{i:Int}{rec:List Aa→Int→Option Int}{most at_ x L:Int}{m:Bool}{p q:Int}{pc:Aa}(hpc:Ax v i=pc)(hm:decide (pc.fKind=6)=m)(hx:x<pc.fN)(hx0:0≤x)(hpcN:pc.fN≤9223372036854775807)
  (ha0:0≤at_) (haM:at_≤1152921504606846976) (hp:p=bif m then at_+1 else at_) (hr:rec v p=some L) (hq:Dp F v p=some q):CH F v i rec most at_ x=some (.next (max most L,q,x+1)):=by
 unfold CH;rw[hpc,Ba (by simpa using hx),hm]
 cases m with
 | true=>
  simp only[X8] at hp;rw[Ba rfl,AT (by omega) (by omega),← hp,hr,Bc rfl]
  cases hl:decide (most<L) with
  | true=>rw[Ba rfl,hq,Bc rfl,AT (by omega) (by omega),Int.max_eq_right (by simp at hl;omega)]
  | false=>rw[AQ rfl,hq,Bc rfl,AT (by omega) (by omega),Int.max_eq_left (by simp at hl;omega)]
 | false=>
  simp only[X2] at hp;rw[AQ rfl,← hp,hr,Bc rfl]
  cases hl:decide (most<L) with
  | true=>rw[Ba rfl,hq,Bc rfl,AT (by omega) (by omega),Int.max_eq_right (by simp at hl;omega)]
  | false=>rw[AQ rfl,hq,Bc rfl,AT (by omega) (by omega),Int.max_eq_left (by simp at hl;omega)]
theorem LC {m:Bool}{last key:Option Aw}(h:CE m last key=true):((BM key).length:Int)=bif m then 1 else 0:=by
  cases key with
  | none=>
            have:m=false:=by simpa[CE] using h
            subst this;rfl
  | some s=>simp only[CE,X1] at h;rw[h.1.1];rfl
theorem OT (hA:G1 M v):∀(g:Fo) (F L:Nat) (i at_ x most:Int) (m:Bool) (last:Option Aw) (ys:List Aa) (pc:Aa),Ax v i=pc→decide (pc.fKind=6)=m→pc.fN≤9223372036854775807→g.wf m last=true→v.drop at_.toNat=g.flat++ys→0≤at_→at_≤v.length→pc.fN=x+g.cnt→0≤x→0≤most→most≤1152921504606846976→g.cnt<L→3*M+5+g.flat.length<F→
  ∃o,Cf (λσ=>CH F v i (CY F) σ.1 σ.2.1 σ.2.2) L (most,at_,x)=some o∧BS (λν=>D9 ν) o=some (max most (g.dep:Int)+1):=by
 have hM:=hA.hM;have hvM:=hA.hv;have fin:∀(F L:Nat) (i at_ x most:Int) (pc:Aa),Ax v i=pc→pc.fN≤x→0≤most→most≤1152921504606846976→0<L→∃o,Cf (λσ=>CH F v i (CY F) σ.1 σ.2.1 σ.2.2) L (most,at_,x)=some o∧BS (λν=>D9 ν) o=some (most+1):=λF L i at_ x most pc hpc hx h0 hb hL=>by
  obtain⟨L,rfl⟩:∃K,L=K+1:=⟨L-1,by omega⟩
  refine⟨.go most,Ej (by show CH F v i _ most at_ x=_;unfold CH;rw[hpc,AQ (by simp;omega)]),?_⟩;simp only[BS,D9];rw[AT (by omega) (by omega)]
 have depM:∀g:Fo,g.dep≤g.flat.length:=by
  intro g
  induction g with
  | nil=>simp[Fo.dep]
  | cell k c r ih=>simp[Fo.dep,Fo.flat];omega
  | node k c kids r ih1 ih2=>simp[Fo.dep,Fo.flat];omega
 intro g
 induction g with
 | nil=>
  intro F L i at_ x most m last ys pc hpc hm hpN hw hd h0 h1 hN hx hmo hmM hL hF;obtain⟨o,h1,h2⟩:=fin F L i at_ x most pc hpc (by simp[Fo.cnt] at hN;omega) hmo hmM (by omega);exact⟨o,h1,by rw[h2];simp only[Fo.dep];congr 2<;>omega⟩
 | cell k c r ih=>
  intro F L i at_ x most m last ys pc hpc hm hpN hw hd h0 h1 hN hx hmo hmM hL hF;simp only[Fo.wf,X1,XD] at hw;obtain⟨⟨⟨w1,w2⟩,w3⟩,w4⟩:=hw;simp only[Fo.flat,XW,Yi] at hd;simp only[Fo.cnt] at hN hL;simp only[Fo.flat,X9,X3] at hF;obtain⟨L,rfl⟩:∃K,L=K+1:=⟨L-1,by omega⟩
  obtain⟨F,rfl⟩:∃K,F=K+2:=⟨F-2,by omega⟩
  have hd1:=CW h0 hd;have hkl:=LC w1;obtain⟨g1,g2,g3⟩:=Cp (by omega) hd1;have hlen:at_+(BM k).length=bif m then at_+1 else at_:=by rw[hkl];cases m<;>simp
  have hq:=hA.next (F:=F+2) (by omega) (p:=at_+(BM k).length) (by omega) (by omega);rw[NZ (f:=.cell none c .nil) (ys:=r.flat++ys) rfl (NE w2 w3) hd1] at hq;have hb:=Nq (most:=most) (x:=x) hpc hm (by omega) hx hpN h0 (by omega) hlen (JR (F:=F) (by omega) (by omega) hd1 w2 w3) hq;have hdd:=depM r;obtain⟨o,ho1,ho2⟩:=ih (F+2) L i (at_+(BM k).length+((Fo.cell none c .nil).flat.length:Int)) (x+1) (max most 1) m k ys pc hpc hm hpN w4 (by rw[show(Fo.cell none c .nil).flat.length=1 from rfl];exact g2) (by omega) (by rw[show(Fo.cell none c .nil).flat.length=1 from rfl];omega) (by omega) (by omega) (by omega) (by omega) (by omega) (by omega);refine⟨o,I5 hb ho1,?_⟩;rw[ho2,Fo.dep];congr 2<;>omega
 | node k c kids r ihk ih=>
  intro F L i at_ x most m last ys pc hpc hm hpN hw hd h0 h1 hN hx hmo hmM hL hF;simp only[Fo.wf,X1,Xw] at hw;obtain⟨⟨⟨⟨⟨w1,w2⟩,w3⟩,w5⟩,w6⟩,w4⟩:=hw;simp only[Fo.flat,XW,Yi] at hd;simp only[Fo.cnt] at hN hL;simp only[Fo.flat,X9,X3] at hF;obtain⟨L,rfl⟩:∃K,L=K+1:=⟨L-1,by omega⟩
  obtain⟨F,rfl⟩:∃K,F=K+1:=⟨F-1,by omega⟩
  have hd1:=CW h0 hd;have hkl:=LC w1;obtain⟨g1,g2,g3⟩:=Cp (by omega) hd1;have hcN:=(hA.hc c (X7 g1)).2.2;have hlen:at_+(BM k).length=bif m then at_+1 else at_:=by rw[hkl];cases m<;>simp
  have hq:=hA.next (F:=F+1) (by omega) (p:=at_+(BM k).length) (by omega) (by omega);have hfl:(Fo.node none c kids .nil).flat=c::kids.flat:=by simp[Fo.flat,BM]
  rw[NZ (f:=.node none c kids .nil) (ys:=r.flat++ys) rfl (ND w2 w3 w5 w6) (by rw[hd1,hfl];simp)] at hq;have hdk:=depM kids;have hdd:=depM r;have hcf:=CC kids;have hvl:(v.drop (at_+(BM k).length+1).toNat).length=kids.flat.length+(r.flat.length+ys.length):=by rw[g2];simp
  rw[List.length_drop] at hvl;have hrec:CY (F+1) v (at_+(BM k).length)=some ((kids.dep:Int)+1):=by
   rw[CY];unfold Hg;rw[B6 (by omega) g3,Dg (by omega) hd1];have ha:=(JT w2 w3).1;rw[AQ (by simp;omega),AT (by omega) (by omega)];obtain⟨o,ho1,ho2⟩:=ihk F F (at_+(BM k).length) (at_+(BM k).length+1) 0 0 _ none (r.flat++ys) c (Dg (by omega) hd1) rfl hcN w6 (by rw[g2]) (by omega) (by omega) (by omega) (XM 0) (XM 0) (by omega) (by omega) (by omega);rw[Bc ho1,ho2];congr 2<;>omega
  have hb:=Nq (most:=most) (x:=x) hpc hm (by omega) hx hpN h0 (by omega) hlen hrec hq;obtain⟨o,ho1,ho2⟩:=ih (F+1) L i (at_+(BM k).length+((Fo.node none c kids .nil).flat.length:Int)) (x+1) (max most ((kids.dep:Int)+1)) m k ys pc hpc hm hpN w4 (by
   have:=CW (by omega) g2;rw[hfl,X3,show at_+(BM k).length+((kids.flat.length+1:Nat):Int)=at_+(BM k).length+1+kids.flat.length from by omega];exact this) (by omega) (by rw[hfl,X3];omega) (by omega) (by omega) (by omega) (by omega) (by omega) (by omega)
  refine⟨o,I5 hb ho1,?_⟩;rw[ho2,Fo.dep];congr 2<;>omega
theorem Qe (hA:G1 M v){F:Nat}{p:Int}{f:Fo}{ys:List Aa}(h0:0≤p)(h1:f.one=true)(hw:f.wf false none=true)(hd:v.drop p.toNat=f.flat++ys)(hF:3*M+6+f.flat.length<F):CY F v p=some (f.dep:Int):=by
 have hM:=hA.hM;have hvM:=hA.hv
 cases f with
 | nil=>cases h1
 | cell k c r=>
  cases k with
  | some s=>cases h1
  | none=>
   cases r with
   | nil=>
    simp only[Fo.wf,X1,XD] at hw;obtain⟨F,rfl⟩:∃K,F=K+2:=⟨F-2,by omega⟩
    have hd':v.drop p.toNat=c::ys:=by simpa[Fo.flat,BM] using hd
    rw[JR h0 (by have:=(Cp h0 hd').2.2;omega) hd' hw.1.1.2 hw.1.2];rfl
   | cell _ _ _=>cases h1
   | node _ _ _ _=>cases h1
 | node k c kids r=>
  cases k with
  | some s=>cases h1
  | none=>
   cases r with
   | nil=>
    simp only[Fo.wf,X1,Xw] at hw;obtain⟨⟨⟨⟨⟨w1,w2⟩,w3⟩,w5⟩,w6⟩,w4⟩:=hw;have hd':v.drop p.toNat=c::(kids.flat++ys):=by simpa[Fo.flat,BM] using hd
    obtain⟨g1,g2,g3⟩:=Cp h0 hd';have hcN:=(hA.hc c (X7 g1)).2.2;have hcf:=CC kids;simp only[Fo.flat,BM,Yh,Ya,X3] at hF;obtain⟨F,rfl⟩:∃K,F=K+1:=⟨F-1,by omega⟩
    rw[CY];unfold Hg;have ha:=(JT w2 w3).1;rw[B6 h0 g3,Dg h0 hd',AQ (by simp;omega),AT (by omega) (by omega)];obtain⟨o,ho1,ho2⟩:=OT hA kids F F p (p+1) 0 0 _ none ys c (Dg h0 hd') rfl hcN w6 g2 (by omega) (by omega) (by omega) (XM 0) (XM 0) (by omega) (by omega) (by omega);rw[Bc ho1,ho2];simp only[Fo.dep];congr 1<;>omega
   | cell _ _ _=>cases h1
   | node _ _ _ _=>cases h1
end
def Sj (c:UInt8):Aw:=bif (decide (c=34)||decide (c=92)) then[92,c] else[c]
theorem Si {s:Aw}{k:Nat}{c:UInt8}(h:s[k]? =some c):MC (s.take (k+1))=MC (s.take k)++Sj c:=by
 rw[List.take_add_one,h];simp[MC,List.flatMap_append,Sj]
theorem P2 (s:Aw):(MC s).length≤3*s.length:=by
 rw[MB];have h1:s.count 34≤s.length:=List.count_le_length;have h2:s.count 92≤s.length:=List.count_le_length;omega
theorem PW {s:Aw}{x:Int}{c:UInt8}(h0:0≤x)(h:s[x.toNat]? =some c):List.take (Int.toNat (x+1)-Int.toNat x) (List.drop (Int.toNat x) s)=[c]:=by
 have hl:=(List.getElem?_eq_some_iff.1 h).1;have hc:=(List.getElem?_eq_some_iff.1 h).2;rw[show Int.toNat (x+1)-Int.toNat x=1 from by omega,List.drop_eq_getElem_cons hl,hc];rfl
theorem WH {s:Aw}{x:Int}{c:UInt8}(h:s[x.toNat]? =some c):decide (Cn s x=34)=decide (c=34):=by
 rw[Ox h,XE,decide_eq_true_iff,decide_eq_true_iff,← UInt8.toNat_inj];show _↔c.toNat=34;omega
theorem WG {s:Aw}{x:Int}{c:UInt8}(h:s[x.toNat]? =some c):decide (Cn s x=92)=decide (c=92):=by
 rw[Ox h,XE,decide_eq_true_iff,decide_eq_true_iff,← UInt8.toNat_inj];show _↔c.toNat=92;omega
theorem NQ {s out:Aw}{x:Int}{c:UInt8}(h0:0≤x)(hx:x<(s.length:Int))(hs:s.length≤1152921504606846976)(ho:out.length≤3*s.length+1)(hc:s[x.toNat]? =some c):CT s out x=some (.next (out++Sj c,x+1)):=by
 unfold CT Sj;rw[Ba (X4 hx),B6 h0 hx,WH hc,WG hc,PW h0 hc];have l1:(([92]:Aw).length:Int)=1:=rfl;have l2:(([c]:Aw).length:Int)=1:=rfl
 cases hq:(decide (c=34)||decide (c=92)) with
 | true=>
  have l3:((out++([92]:Aw)).length:Int)=out.length+1:=by rw[X9,Yc,Int.natCast_add];rfl
  rw[Ba rfl,l1,l2,l3,AT (by omega) (by omega),AT (by omega) (by omega),Kt (by omega) (by omega),Kt (by omega) (by omega),AT (by omega) (by omega),XW];rfl
 | false=>
  rw[AQ rfl,l2,AT (by omega) (by omega),Kt (by omega) (by omega),Kt (by omega) (by omega),AT (by omega) (by omega)];rfl
theorem GA {R V:Type}(K:V→Option R)(v:V):BS K (.go v)=K v:=rfl
theorem Hm {R V:Type}(K:V→Option R)(r:R):BS K (.ret r)=some r:=rfl
theorem OR {s out:Aw}{x:Int}(hx : ¬ x<(s.length:Int)):CT s out x=some (.out (.go out)):=by
 unfold CT;rw[AQ (Xz hx)]
theorem RB {out:Aw}(h:out.length≤4611686018427387904):Du out=some (out++[34]):=by
 unfold Du;have l1:(([34]:Aw).length:Int)=1:=rfl;rw[l1,AT (by omega) (by omega)]
theorem Jt {F:Nat}{s:Aw}(hF:s.length<F)(hs:s.length≤1152921504606846976):HS F s=some (Ju s):=by
 obtain⟨o,h1,h2⟩:=IU (body:=λσ=>CT s σ.1 σ.2) (λσ=>0≤σ.2∧σ.2≤(s.length:Int)∧σ.1=34::MC (s.take σ.2.toNat)) (λσ=>s.length-σ.2.toNat)
  (λo=>BS (λν=>Du ν) o=some (Ju s)) (λσ ⟨h0,hl,ha⟩=>by
   obtain⟨out,x⟩:=σ;simp only at h0 hl ha;show(∃s',CT s out x=_∧_)∨∃o,CT s out x=_∧_;have hb:=P2 (s.take x.toNat);have hb2:(s.take x.toNat).length≤s.length:=by rw[List.length_take];omega
   have hol:out.length≤3*s.length+1:=by rw[ha,X3];omega
   by_cases hx:x<(s.length:Int)
   ·obtain⟨c,hc⟩:∃c,s[x.toNat]? =some c:=⟨s[x.toNat]'(by omega),X5 (by omega)⟩
    have a1:0≤x+1:=by omega
    have a2:x+1≤s.length:=by omega
    have a3:s.length-(x+1).toNat<s.length-x.toNat:=by omega
    have a4:out++Sj c=34::MC (s.take (x+1).toNat):=by rw[show(x+1).toNat=x.toNat+1 from by omega,Si hc,ha];rfl
    exact .inl ⟨(out++Sj c,x+1),NQ h0 hx hs hol hc,⟨a1,a2,a4⟩,a3⟩
   ·have e:x.toNat=s.length:=by omega
    have hk:Du out=some (out++[34]):=RB (by omega);have hf:out++[34]=Ju s:=by rw[ha,e,Yg];rfl
    exact .inr ⟨.go out,OR hx,(GA (λν=>Du ν) out).trans (hk.trans (congrArg some hf))⟩) F ([34],0) ⟨XM 0,by show(0:Int)≤s.length;omega,by show([34]:Aw)=34::MC (s.take 0);simp[MC]⟩ (by show s.length-0<F;omega)
 unfold HS;rw[Bc h1,h2]
section
variable {M : Nat} {v : List Aa}
theorem Xf (a b c d e:Aw):(((a++b)++c)++d)++e=a++(b++(c++d)++e):=by simp
theorem Xg (a b c d:Aw):((a++b)++c)++d=a++([]++(b++c)++d):=by simp
theorem Xh (a b c:Aw):(a++b)++c=a++(b++[]++c):=by simp
theorem Xi (a b:Aw):a++b=a++([]++[]++b):=by simp
theorem U5 (a:Aw)(c:UInt8):((a++[c]).length:Int)=a.length+1:=by rw[X9,Yc,Int.natCast_add];rfl
theorem Ph (a b:Aw):((a++b).length:Int)=a.length+b.length:=by rw[X9,Int.natCast_add]
theorem Nn {F:Nat}{i:Int}{rec:List Aa→Int→Option Aw}{out tx:Aw}{at_ x:Int}{m:Bool}{p q:Int}{pc:Aa}{key:Option Aw}{last:Option Aw}(hpc:Ax v i=pc)(hm:decide (pc.fKind=6)=m)(hx:x<pc.fN)(hx0:0≤x)(hpcN:pc.fN≤9223372036854775807)
  (ha0:0≤at_) (haM:at_<v.length) (hvM:(v.length:Int)≤1152921504606846976) (hk:CE m last key=true) (hkey:∀s,key=some s→(Ax v at_).fStr=s∧s.length<F∧s.length≤1152921504606846976) (hp:p=bif m then at_+1 else at_) (hr:rec v p=some tx) (hq:Dp F v p=some q)
  (hlen:((out++(Gn (decide (x=0))++Ms key++tx)).length:Int)≤4611686018427387904):D8 F v i rec out at_ x=some (.next (out++(Gn (decide (x=0))++Ms key++tx),q,x+1)):=by
 have hb:(([44]:Aw).length:Int)=1:=rfl;have he:(([58]:Aw).length:Int)=1:=rfl;have hx1:AY (BN .i64 (x+1)) (some (Stp.next (out++(Gn (decide (x=0))++Ms key++tx),q,x+1)):Option (Stp (Aw×Int×Int) (Out Aw Aw)))=some (Stp.next (out++(Gn (decide (x=0))++Ms key++tx),q,x+1)):=AT (by omega) (by omega);unfold D8;rw[hpc,Ba (X4 hx),hm]
 cases ha:decide (x=0) with
 | true=>
  rw[ha] at hx1 hlen;simp only[Xw] at ha;rw[AQ (Xz (by omega))]
  cases m with
  | true=>
   cases key with
   | none=>simp[CE] at hk
   | some s=>
    obtain⟨e1,e2,e3⟩:=hkey s rfl;simp only[X8] at hp;have e:((out++Ju s)++[58])++tx=out++(Gn true++Ms (some s)++tx):=Xg _ _ _ _;rw[← e] at hx1 hlen ⊢;have h1:=Ph ((out++Ju s)++[58]) tx;have h2:=U5 (out++Ju s) 58;have h3:=Ph out (Ju s);rw[Ba rfl,B6 ha0 haM,e1,Jt e2 e3,Bc rfl,AT (by omega) (by omega),he,AT (by omega) (by omega),AT (by omega) (by omega),← hp,hr,Bc rfl,AT (by omega) (by omega),hq,Bc rfl,hx1]
  | false=>
   cases key with
   | some s=>simp[CE] at hk
   | none=>
    simp only[X2] at hp;have e:out++tx=out++(Gn true++Ms none++tx):=Xi _ _;rw[← e] at hx1 hlen ⊢;have h1:=Ph out tx;rw[AQ rfl,← hp,hr,Bc rfl,AT (by omega) (by omega),hq,Bc rfl,hx1]
 | false=>
  rw[ha] at hx1 hlen;simp only[Xy] at ha;rw[Ba (X4 (by omega))]
  cases m with
  | true=>
   cases key with
   | none=>simp[CE] at hk
   | some s=>
    obtain⟨e1,e2,e3⟩:=hkey s rfl;simp only[X8] at hp;have e:(((out++[44])++Ju s)++[58])++tx=out++(Gn false++Ms (some s)++tx):=Xf _ _ _ _ _;rw[← e] at hx1 hlen ⊢;have h1:=Ph (((out++[44])++Ju s)++[58]) tx;have h2:=U5 ((out++[44])++Ju s) 58;have h3:=Ph (out++[44]) (Ju s);have h4:=U5 out 44;rw[hb,AT (by omega) (by omega),Ba rfl,B6 ha0 haM,e1,Jt e2 e3,Bc rfl,AT (by omega) (by omega),he,AT (by omega) (by omega),AT (by omega) (by omega),← hp,hr,Bc rfl,AT (by omega) (by omega),hq,Bc rfl,hx1]
  | false=>
   cases key with
   | some s=>simp[CE] at hk
   | none=>
    simp only[X2] at hp;have e:(out++[44])++tx=out++(Gn false++Ms none++tx):=Xh _ _ _;rw[← e] at hx1 hlen ⊢;have h1:=Ph (out++[44]) tx;have h4:=U5 out 44;rw[hb,AT (by omega) (by omega),AQ rfl,← hp,hr,Bc rfl,AT (by omega) (by omega),hq,Bc rfl,hx1]
theorem QH {i:Int}{pc:Aa}{out:Aw}(hpc:Ax v i=pc)(h:out.length≤4611686018427387904):Gq v i out=some (S2 pc out):=by
 unfold Gq S2;have l1:(([123]:Aw).length:Int)=1:=rfl;have l2:(([91]:Aw).length:Int)=1:=rfl;have l3:(([125]:Aw).length:Int)=1:=rfl;have l4:(([93]:Aw).length:Int)=1:=rfl;have h1:=Ph [123] out;have h2:=Ph [91] out;rw[hpc]
 cases hk:decide (pc.fKind=6) with
 | true=>rw[Ba rfl,AT (by omega) (by omega),AT (by omega) (by omega)];rfl
 | false=>rw[AQ rfl,AT (by omega) (by omega),AT (by omega) (by omega)];rfl
theorem Mg {F:Nat}{p:Int}{c:Aa}{r:List Aa}(h0:0≤p)(hpM:p≤1152921504606846976)(hd:v.drop p.toNat=c::r)(hp:pl c=true)(hn:decide (0<c.fN)=false)(hs:c.fStr.length<F+1)(hs2:c.fStr.length≤1152921504606846976)(hi:BN .i64 c.fInt=true):ES (F+2) v p=some (Lj c):=by
 obtain⟨g1,g2,g3⟩:=Cp h0 hd;rw[ES];unfold Ky Lj;rw[B6 h0 g3,Dg h0 hd]
 cases k1:decide (c.fKind=1) with
 | true=>rw[Ba rfl];rfl
 | false=>
 rw[AQ rfl]
 cases k2:decide (c.fKind=2) with
 | true=>rw[Ba rfl];cases decide (c.fInt=1)<;>rfl
 | false=>
 rw[AQ rfl]
 cases k3:decide (c.fKind=3) with
 | true=>rw[Ba rfl,CD hi];rfl
 | false=>
 rw[AQ rfl]
 cases k4:decide (c.fKind=4) with
 | true=>rw[Ba rfl,Jt hs hs2,Bc rfl];rfl
 | false=>
 have hgo:D8 (F+1) v p (ES (F+1)) [] (p+1) 0=some (.out (.go [])):=by
  unfold D8;rw[Dg h0 hd,AQ hn]
 rw[AQ rfl,AT (by omega) (by omega),Bc (Ej (o:=.go []) hgo),GA,QH (Dg h0 hd) (by simp)];simp only[X2,S2]
 cases decide (c.fKind=6)<;>rfl
end
section
variable {M : Nat} {v : List Aa}
theorem CN {α:Type}[Inhabited α](a:α):ov (some a)=a:=rfl
theorem Ts {at_:Int}{k:Option Aw}{r:List Aa}(h0:0≤at_)(hA:G1 M v){F:Nat}(hF:M<F)(hd:v.drop at_.toNat=BM k++r):∀s,k=some s→(Ax v at_).fStr=s∧s.length<F∧s.length≤1152921504606846976:=λs e=>by
 subst e;have hd':v.drop at_.toNat=⟨4,0,s,0⟩::r:=by simpa[BM] using hd
 have h1:=Dg h0 hd';have h2:=(hA.hc _ (X7 (Cp h0 hd').1)).1;have hM:=hA.hM;simp only at h2;exact⟨by rw[h1],by omega,by omega⟩
theorem OQ (hA:G1 M v):∀(g:Fo) (F L:Nat) (i at_ x:Int) (out:Aw) (m:Bool) (last:Option Aw) (ys:List Aa) (pc:Aa),Ax v i=pc→decide (pc.fKind=6)=m→pc.fN≤9223372036854775807→g.wf m last=true→v.drop at_.toNat=g.flat++ys→0≤at_→at_≤v.length→pc.fN=x+g.cnt→0≤x→(out++g.txt (decide (x=0))).length≤4611686018427387904→g.cnt<L→3*M+5+g.flat.length<F→
  ∃o,Cf (λσ=>D8 F v i (ES F) σ.1 σ.2.1 σ.2.2) L (out,at_,x)=some o∧BS (λν=>Gq v i ν) o=some (S2 pc (out++g.txt (decide (x=0)))):=by
 have hM:=hA.hM;have hvM:=hA.hv;intro g
 induction g with
 | nil=>
  intro F L i at_ x out m last ys pc hpc hm hpN hw hd h0 h1 hN hx hlen hL hF;obtain⟨L,rfl⟩:∃K,L=K+1:=⟨L-1,by omega⟩
  have hgo:D8 F v i (ES F) out at_ x=some (.out (.go out)):=by
   simp only[Fo.cnt] at hN;unfold D8;rw[hpc,AQ (Xz (by omega))]
  refine⟨.go out,Ej hgo,?_⟩;simp only[Fo.txt,Ya] at hlen ⊢;rw[GA,QH hpc hlen]
 | cell k c r ih=>
  intro F L i at_ x out m last ys pc hpc hm hpN hw hd h0 h1 hN hx hlen hL hF;simp only[Fo.wf,X1,XD] at hw;obtain⟨⟨⟨w1,w2⟩,w3⟩,w4⟩:=hw;simp only[Fo.flat,XW,Yi] at hd;simp only[Fo.cnt] at hN hL;simp only[Fo.flat,X9,X3] at hF;obtain⟨L,rfl⟩:∃K,L=K+1:=⟨L-1,by omega⟩
  obtain⟨F,rfl⟩:∃K,F=K+2:=⟨F-2,by omega⟩
  have hd1:=CW h0 hd;have hkl:=LC w1;obtain⟨g1,g2,g3⟩:=Cp (by omega) hd1;have hcM:=hA.hc c (X7 g1);have hp:at_+(BM k).length=bif m then at_+1 else at_:=by rw[hkl];cases m<;>simp
  have hq:=hA.next (F:=F+2) (by omega) (p:=at_+(BM k).length) (by omega) (by omega);rw[NZ (f:=.cell none c .nil) (ys:=r.flat++ys) rfl (NE w2 w3) hd1] at hq;have e:out++(Fo.cell k c r).txt (decide (x=0))=(out++(Gn (decide (x=0))++Ms k++Lj c))++r.txt (decide (x+1=0)):=by
   rw[Xz (show ¬ x+1=0 by omega)];simp[Fo.txt]
  rw[e] at hlen ⊢;have hl2:((out++(Gn (decide (x=0))++Ms k++Lj c)).length:Int)≤4611686018427387904:=by rw[X9] at hlen;omega
  have hat:at_<v.length:=by omega
  have hb:=Nn hpc hm (by omega) hx hpN h0 hat (by omega) w1 (Ts h0 hA (F:=F+2) (by omega) hd) hp (Mg (F:=F) (by omega) (by omega) hd1 w2 w3 (by omega) (by omega) hcM.2.1) hq hl2;obtain⟨o,ho1,ho2⟩:=ih (F+2) L i (at_+(BM k).length+((Fo.cell none c .nil).flat.length:Int)) (x+1) (out++(Gn (decide (x=0))++Ms k++Lj c)) m k ys pc hpc hm hpN w4 (by rw[show(Fo.cell none c .nil).flat.length=1 from rfl];exact g2) (by omega) (by rw[show(Fo.cell none c .nil).flat.length=1 from rfl];omega) (by omega) (by omega) hlen (by omega) (by omega);exact⟨o,I5 hb ho1,ho2⟩
 | node k c kids r ihk ih=>
  intro F L i at_ x out m last ys pc hpc hm hpN hw hd h0 h1 hN hx hlen hL hF;simp only[Fo.wf,X1,Xw] at hw;obtain⟨⟨⟨⟨⟨w1,w2⟩,w3⟩,w5⟩,w6⟩,w4⟩:=hw;simp only[Fo.flat,XW,Yi] at hd;simp only[Fo.cnt] at hN hL;simp only[Fo.flat,X9,X3] at hF;obtain⟨L,rfl⟩:∃K,L=K+1:=⟨L-1,by omega⟩
  obtain⟨F,rfl⟩:∃K,F=K+1:=⟨F-1,by omega⟩
  have hd1:=CW h0 hd;have hkl:=LC w1;obtain⟨g1,g2,g3⟩:=Cp (by omega) hd1;have hcN:=(hA.hc c (X7 g1)).2.2;have hp:at_+(BM k).length=bif m then at_+1 else at_:=by rw[hkl];cases m<;>simp
  have hq:=hA.next (F:=F+1) (by omega) (p:=at_+(BM k).length) (by omega) (by omega);have hfl:(Fo.node none c kids .nil).flat=c::kids.flat:=by simp[Fo.flat,BM]
  rw[NZ (f:=.node none c kids .nil) (ys:=r.flat++ys) rfl (ND w2 w3 w5 w6) (by rw[hd1,hfl];simp)] at hq;have hcf:=CC kids;have hvl:(v.drop (at_+(BM k).length+1).toNat).length=kids.flat.length+(r.flat.length+ys.length):=by rw[g2];simp
  rw[List.length_drop] at hvl;have e:out++(Fo.node k c kids r).txt (decide (x=0))=(out++(Gn (decide (x=0))++Ms k++S2 c (kids.txt true)))++r.txt (decide (x+1=0)):=by
   rw[Xz (show ¬ x+1=0 by omega)];simp[Fo.txt]
  rw[e] at hlen ⊢;have hl2:((out++(Gn (decide (x=0))++Ms k++S2 c (kids.txt true))).length:Int)≤4611686018427387904:=by rw[X9] at hlen;omega
  have hl3:(kids.txt true).length≤4611686018427387904:=by
   have:=LH c (kids.txt true);rw[X9,X9] at hl2;omega
  have hat:at_<v.length:=by omega
  have hrec:ES (F+1) v (at_+(BM k).length)=some (S2 c (kids.txt true)):=by
   rw[ES];unfold Ky;have ha:=(JT w2 w3).1;rw[B6 (by omega) g3,Dg (by omega) hd1,AQ (Xz (by omega)),AQ (Xz (by omega)),AQ (Xz (by omega)),AQ (Xz (by omega)),AT (by omega) (by omega)];obtain⟨o,ho1,ho2⟩:=ihk F F (at_+(BM k).length) (at_+(BM k).length+1) 0 [] _ none (r.flat++ys) c (Dg (by omega) hd1) rfl hcN w6 (by rw[g2]) (by omega) (by omega) (by omega) (XM 0) hl3 (by omega) (by omega);rw[Bc ho1,ho2];rfl
  have hb:=Nn hpc hm (by omega) hx hpN h0 hat (by omega) w1 (Ts h0 hA (F:=F+1) (by omega) hd) hp hrec hq hl2;obtain⟨o,ho1,ho2⟩:=ih (F+1) L i (at_+(BM k).length+((Fo.node none c kids .nil).flat.length:Int)) (x+1) (out++(Gn (decide (x=0))++Ms k++S2 c (kids.txt true))) m k ys pc hpc hm hpN w4 (by
   have:=CW (by omega) g2;rw[hfl,X3,show at_+(BM k).length+((kids.flat.length+1:Nat):Int)=at_+(BM k).length+1+kids.flat.length from by omega];exact this) (by omega) (by rw[hfl,X3];omega) (by omega) (by omega) hlen (by omega) (by omega)
  exact⟨o,I5 hb ho1,ho2⟩
theorem Ta (hA:G1 M v){F:Nat}{p:Int}{f:Fo}{ys:List Aa}(h0:0≤p)(h1:f.one=true)(hw:f.wf false none=true)(hd:v.drop p.toNat=f.flat++ys)(hF:3*M+6+f.flat.length<F)(hlen:(f.txt true).length≤4611686018427387904):ES F v p=some (f.txt true):=by
 have hM:=hA.hM;have hvM:=hA.hv
 cases f with
 | nil=>cases h1
 | cell k c r=>
  cases k with
  | some s=>cases h1
  | none=>
   cases r with
   | nil=>
    simp only[Fo.wf,X1,XD] at hw;obtain⟨F,rfl⟩:∃K,F=K+2:=⟨F-2,by omega⟩
    have hd':v.drop p.toNat=c::ys:=by simpa[Fo.flat,BM] using hd
    have hcM:=hA.hc c (X7 (Cp h0 hd').1);rw[Mg h0 (by have:=(Cp h0 hd').2.2;omega) hd' hw.1.1.2 hw.1.2 (by omega) (by omega) hcM.2.1];simp[Fo.txt,Gn,Ms]
   | cell _ _ _=>cases h1
   | node _ _ _ _=>cases h1
 | node k c kids r=>
  cases k with
  | some s=>cases h1
  | none=>
   cases r with
   | nil=>
    simp only[Fo.wf,X1,Xw] at hw;obtain⟨⟨⟨⟨⟨w1,w2⟩,w3⟩,w5⟩,w6⟩,w4⟩:=hw;have hd':v.drop p.toNat=c::(kids.flat++ys):=by simpa[Fo.flat,BM] using hd
    obtain⟨g1,g2,g3⟩:=Cp h0 hd';have hcN:=(hA.hc c (X7 g1)).2.2;have hcf:=CC kids;simp only[Fo.flat,BM,Yh,Ya,X3] at hF;have et:(Fo.node none c kids .nil).txt true=S2 c (kids.txt true):=by simp[Fo.txt,Gn,Ms]
    rw[et] at hlen ⊢;have hbl:=LH c (kids.txt true);obtain⟨F,rfl⟩:∃K,F=K+1:=⟨F-1,by omega⟩
    rw[ES];unfold Ky;have ha:=(JT w2 w3).1;rw[B6 h0 g3,Dg h0 hd',AQ (Xz (by omega)),AQ (Xz (by omega)),AQ (Xz (by omega)),AQ (Xz (by omega)),AT (by omega) (by omega)];obtain⟨o,ho1,ho2⟩:=OQ hA kids F F p (p+1) 0 [] _ none ys c (Dg h0 hd') rfl hcN w6 g2 (by omega) (by omega) (by omega) (XM 0) (by show(kids.txt true).length≤_;omega) (by omega) (by omega);rw[Bc ho1,ho2];rfl
   | cell _ _ _=>cases h1
   | node _ _ _ _=>cases h1
theorem RH {F:Nat}{K:Option Int}(hF:v.length<F)(hv:v.length≤1152921504606846976):Bf (Cf (λσ=>DI v σ) F 0) (BS λ_=>K)=bif v.any Hn then some 2 else K:=by
 obtain⟨o,h1,h2⟩:=IU (body:=λσ=>DI v σ) (λx=>0≤x∧x≤(v.length:Int)∧(v.take x.toNat).any Hn=false) (λx=>v.length-x.toNat)
  (λo=>BS (λ_=>K) o=bif v.any Hn then some 2 else K) (λx ⟨h0,hl,ha⟩=>by
   by_cases hx:x<(v.length:Int)
   ·obtain⟨c,hc⟩:∃c,v[x.toNat]? =some c:=⟨v[x.toNat]'(by omega),X5 (by omega)⟩
    have hat:Ax v x=c:=by simp[Ax,hc]
    have ho:(decide (c.fKind=3)&&(decide (c.fInt<(-1000000000000))||decide (1000000000000<c.fInt)))=Hn c:=by
     unfold Hn
     cases decide (c.fKind=3) with
     | false=>rfl
     | true=>
      rw[XB,XB,XE];simp only[XY,Xw,XD,Yk,Xy];omega
    have hb:DI v x=AO (Hn c) (some (.out (.ret 2))) (some (.next (x+1))):=by
     unfold DI;rw[Ba (X4 hx),B6 h0 hx,hat,ho,AT (by omega) (by omega)]
    cases hq:Hn c with
    | true=>
     refine .inr ⟨.ret 2,hb.trans (Ba hq),?_⟩;have:v.any Hn=true:=List.any_eq_true.2 ⟨c,X7 hc,hq⟩;rw[Hm,this];rfl
    | false=>
     have a3:(v.take (x+1).toNat).any Hn=false:=by
      rw[show(x+1).toNat=x.toNat+1 from by omega,List.take_add_one,hc,List.any_append,ha];simp[hq]
     exact .inl ⟨x+1,hb.trans (AQ hq),⟨by omega,by omega,a3⟩,by omega⟩
   ·refine .inr ⟨.go (),by unfold DI;rw[AQ (Xz hx)],?_⟩;rw[show x.toNat=v.length from by omega,Yg] at ha;rw[GA,ha];rfl) F 0 ⟨XM 0,by omega,by simp⟩ (by simpa using hF)
 rw[Bc h1,h2]
theorem RG {F:Nat}{K:Option Int}(hF:v.length<F)(hv:v.length≤1152921504606846976):Bf (Cf (λσ=>DH v σ) F 0) (BS λ_=>K)=bif v.any ET then some 3 else K:=by
 obtain⟨o,h1,h2⟩:=IU (body:=λσ=>DH v σ) (λx=>0≤x∧x≤(v.length:Int)∧(v.take x.toNat).any ET=false) (λx=>v.length-x.toNat)
  (λo=>BS (λ_=>K) o=bif v.any ET then some 3 else K) (λx ⟨h0,hl,ha⟩=>by
   by_cases hx:x<(v.length:Int)
   ·obtain⟨c,hc⟩:∃c,v[x.toNat]? =some c:=⟨v[x.toNat]'(by omega),X5 (by omega)⟩
    have hat:Ax v x=c:=by simp[Ax,hc]
    have hb:DH v x=AO (ET c) (some (.out (.ret 3))) (some (.next (x+1))):=by
     unfold DH;rw[Ba (X4 hx),B6 h0 hx,hat,AT (by omega) (by omega)];rfl
    cases hq:ET c with
    | true=>
     refine .inr ⟨.ret 3,hb.trans (Ba hq),?_⟩;have:v.any ET=true:=List.any_eq_true.2 ⟨c,X7 hc,hq⟩;rw[Hm,this];rfl
    | false=>
     have a3:(v.take (x+1).toNat).any ET=false:=by
      rw[show(x+1).toNat=x.toNat+1 from by omega,List.take_add_one,hc,List.any_append,ha];simp[hq]
     exact .inl ⟨x+1,hb.trans (AQ hq),⟨by omega,by omega,a3⟩,by omega⟩
   ·refine .inr ⟨.go (),by unfold DH;rw[AQ (Xz hx)],?_⟩;rw[show x.toNat=v.length from by omega,Yg] at ha;rw[GA,ha];rfl) F 0 ⟨XM 0,by omega,by simp⟩ (by simpa using hF)
 rw[Bc h1,h2]
theorem Oe:decide (Ip v 0=v.length)=(whole v).isSome:=by
 unfold Ip whole;rw[show v.drop (0:Int).toNat=v from rfl]
 cases hp:Hl v with
 | none=>simp
 | some q=>
  obtain⟨f,ys⟩:=q;have h1:=(IS hp).1;have hl:v.length=f.flat.length+ys.length:=by rw[h1];simp
  cases ys with
  | nil=>simp at hl ⊢;omega
  | cons c r=>simp at hl ⊢;omega
theorem Nr (hA:G1 M v)(hM:M≤1000000){F:Nat}(hF:4*M+6<F):K5 F v=some (Dv v):=by
 have hvM:=hA.hv;unfold K5;rw[Qf (hA.rf (X0 M)) (λc hc=>(hA.hc c hc).2.2) (by omega),Bc rfl,Oe];unfold Dv
 cases hwh:whole v with
 | none=>rfl
 | some f=>
  obtain⟨h1,h2,h3⟩:=LP hwh;rw[AQ (p:=!(some f).isSome) rfl]
  change _=some (Nc f)
  have hl:v.length=f.flat.length:=by rw[h1]
  have hc:∀c∈f.flat,c.fStr.length≤M∧BN .i64 c.fInt=true∧c.fN≤9223372036854775807:=λc hc=>hA.hc c (by rw[h1];exact hc);have hb:=N6 hM h2 (by omega) hc;have htl:((f.txt true).length:Int)=f.byt:=by rw[JM f false none true h2,NX h3];simp
  have hd0:v.drop (0:Int).toNat=f.flat++[]:=by rw[Ya];exact h1
  rw[RH (by omega) (by omega)];unfold Nc Hi;rw[Qe hA (XM 0) h3 h2 hd0 (by omega),CD (by simp[imp]),RG (by omega) (by omega)];unfold Hh;rw[Ta hA (XM 0) h3 h2 hd0 (by omega) (by omega),Bc rfl];rw[CN,hl,← h1];have a1:decide ((200:Int)<(v.length:Int))=decide (200<v.length):=by rw[XE];simp;omega
  have a2:decide ((8:Int)<(f.dep:Int))=decide (8<f.dep):=by rw[XE];simp;omega
  have a3:decide ((4000:Int)<((f.txt true).length:Int))=decide (4000<(f.txt true).length):=by rw[XE];simp;omega
  rw[a1,a2,a3]
  cases v.any Hn<;>cases v.any ET<;>cases decide (200<v.length)<;>cases decide (8<f.dep)<;>cases decide (4000<(f.txt true).length)<;>rfl
end
section
variable {M : Nat}
end
section
variable {M : Nat}
end
def SW (v:List Aa):Bool:=!decide (300<v.length)&&v.all λc=>!decide (300<c.fStr.length)
def Mm (c:Aa):Bool:=BN .i64 c.fKind&&BN .i64 c.fInt&&Uy c.fStr&&BN .i64 c.fN
theorem G1.of {v:List Aa}(hs:SW v=true)(hc:v.all Mm=true):G1 300 v:=by
 unfold SW at hs;simp only[X1,XD,Xy,XU] at hs hc;refine⟨by decide,by omega,λc h=>?_⟩;obtain h1:=hs.2 c h;obtain h2:=hc c h;unfold Mm at h2;simp only[X1] at h2;exact⟨by omega,h2.1.1.2,(GF h2.2).2⟩
theorem Mv (a:Bool):imp a true=true:=by cases a<;>rfl
section
variable {M : Nat}
end
theorem Gx {α:Type}[Inhabited α]{l:List α}{x:Int}(h0:0≤x)(h:x<l.length):Ax l x∈l:=by
 have:l[x.toNat]? =some (l[x.toNat]'(by omega)):=X5 (by omega);simp only[Ax,this,XO];exact List.getElem_mem _
open Go Go.RowKit
def V3 (a b:Int):Int:=bif decide (a<b) then -1 else bif decide (b<a) then 1 else 0
def Or:Option Aw→Option Aw→Int
 | some a,some b=>Lib.compareBytes a b
 | _,_=>0
def UY (c d:Aa)(kids:Int):Int:=
 bif !decide (c.fKind=d.fKind) then V3 c.fKind d.fKind
 else bif decide (c.fKind=4) then Lib.compareBytes c.fStr d.fStr
 else bif !decide (c.fKind=5)&&!decide (c.fKind=6) then V3 c.fInt d.fInt
 else bif !decide (kids=0) then kids else V3 c.fN d.fN
def Le (a b:Int):Int:=bif !decide (a=0) then a else b
def Fo.cmp:Fo→Fo→Int
 | .cell k c r,.cell l d s=>Le (Or k l) (Le (UY c d 0) (r.cmp s))
 | .cell k c r,.node l d g s=>Le (Or k l) (Le (UY c d 0) (r.cmp s))
 | .node k c f r,.cell l d s=>Le (Or k l) (Le (UY c d 0) (r.cmp s))
 | .node k c f r,.node l d g s=>Le (Or k l) (Le (UY c d (f.cmp g)) (r.cmp s))
 | _,_=>0
theorem OG (F:Nat)(a b:List Aa):Ng F a b=Lg F a b:=by
 have e:L5 F a b=Lg F a b:=rfl;unfold Ng;rw[e]
 cases Lg F a b<;>rfl
def Fo.hd:Fo→Option (Option Aw×Aa×Fo×Fo)
 | .nil=>none
 | .cell k c r=>some (k,c,.nil,r)
 | .node k c kids r=>some (k,c,kids,r)
structure Hd (m:Bool) (last:Option Aw) (f:Fo) (k:Option Aw) (c:Aa) (kids r:Fo):Prop where
 key:CE m last k=true
 pl:pl c=true
 n:c.fN=kids.cnt
 kw:kids.wf (decide (c.fKind=6)) none=true
 rest:r.wf m k=true
 flat:f.flat=BM k++c::(kids.flat++r.flat)
 cnt:f.cnt=r.cnt+1
theorem WA {m:Bool}{last:Option Aw}{f:Fo}(hw:f.wf m last=true):(f = .nil)∨∃k c kids r,f.hd=some (k,c,kids,r)∧Hd m last f k c kids r:=by
 cases f with
 | nil=>exact .inl rfl
 | cell k c r=>
  simp only[Fo.wf,X1,XD] at hw;obtain⟨⟨⟨w1,w2⟩,w3⟩,w4⟩:=hw;have:=Tf w2;refine .inr ⟨k,c,.nil,r,rfl,w1,w2,?_,rfl,w4,by simp[Fo.flat],rfl⟩;simp at w3;simp[Fo.cnt];omega
 | node k c kids r=>
  simp only[Fo.wf,X1,Xw] at hw;obtain⟨⟨⟨⟨⟨w1,w2⟩,w3⟩,w5⟩,w6⟩,w4⟩:=hw;exact .inr ⟨k,c,kids,r,rfl,w1,w2,w5,w6,w4,rfl,rfl⟩
section
variable {M : Nat} {a b : List Aa}
end
section
variable {M : Nat} {a b : List Aa}
end
theorem TH {f:Fo}(h:f.cnt=0):f = .nil:=by
 cases f with
 | nil=>rfl
 | cell k c r=>simp[Fo.cnt] at h
 | node k c a r=>simp[Fo.cnt] at h
section
variable {M : Nat} {a b : List Aa}
theorem Hd.drop {v:List Aa}{m:Bool}{last k:Option Aw}{f kids r:Fo}{c:Aa}{ys:List Aa}{p:Int}(H:Hd m last f k c kids r)(h0:0≤p)(hd:v.drop p.toNat=f.flat++ys) :
  v.drop (p+(BM k).length).toNat=c::(kids.flat++(r.flat++ys))∧v.drop (p+(BM k).length+1).toNat=kids.flat++(r.flat++ys)∧v.drop (p+(BM k).length+((c::kids.flat).length:Int)).toNat=r.flat++ys∧(∀s,k=some s→(Ax v p).fStr=s)∧p<v.length:=by
 rw[H.flat] at hd;have hd2:v.drop p.toNat=BM k++((c::kids.flat)++(r.flat++ys)):=by rw[hd];simp
 have hd1:=CW h0 hd2;refine⟨hd1,(Cp (by omega) hd1).2.1,CW (by omega) hd1,λs e=>?_,?_⟩
 ·subst e;have:v.drop p.toNat=⟨4,0,s,0⟩::((c::kids.flat)++(r.flat++ys)):=by simpa[BM] using hd2
  rw[Dg h0 this]
 ·have:=congrArg List.length hd2;rw[List.length_drop] at this;simp only[X9,X3] at this;omega
end
section
variable {S : Type}
def U7:Option Aw→Aw
 | none=>[]
 | some s=>s
variable {Y : Aw → List Aa → S → Option (Bool × S)}
section
variable {M : Nat} {v : List Aa}
end
end
def Fo.keys:Fo→List Aw
 | .nil=>[]
 | .cell k _ r=>U7 k::r.keys
 | .node k _ _ r=>U7 k::r.keys
def Fo.vals:Fo→List (List Aa)
 | .nil=>[]
 | .cell _ c r=>[c]::r.vals
 | .node _ c kids r=>(c::kids.flat)::r.vals
structure Xj (M:Nat) (c:Aa) (kf:Fo):Prop where
 pl:pl c=true
 n:c.fN=kf.cnt
 wf:kf.wf (decide (c.fKind=6)) none=true
 ck:G1 M (c::kf.flat)
section
variable {M : Nat}
theorem G1.sub {a b:List Aa}(h:G1 M a)(hl:b.length≤a.length)(hm:∀x∈b,x∈a):G1 M b:=⟨h.hM,by have:=h.hv;omega,λc hc=>h.hc c (hm c hc)⟩
theorem Hd.v {m:Bool}{last k:Option Aw}{f kids r:Fo}{c:Aa}(H:Hd m last f k c kids r)(hA:G1 M f.flat):Xj M c kids∧G1 M r.flat:=by
 have e:=H.flat;have l:=congrArg List.length e;simp only[X9,X3] at l;refine⟨⟨H.pl,H.n,H.kw,hA.sub (by simp only[X3];omega) (λx hx=>?_)⟩,hA.sub (by omega) (λx hx=>?_)⟩
 ·rw[e];simp only[List.mem_append,Yf] at hx ⊢;rcases hx with hx | hx
  ·exact .inr (.inl hx)
  ·exact .inr (.inr (.inl hx))
 ·rw[e];simp only[List.mem_append,Yf];exact .inr (.inr (.inr hx))
theorem Rj {α:Type}[Inhabited α](a b:List α)(x:α){i:Int}(h:i=(a.length:Int)):Ax (a++x::b) i=x:=by subst h;simp[Ax]
theorem V5 {f:Fo}(h1:f.one=true)(hw:f.wf false none=true)(hA:G1 M f.flat):∃c kf,f.flat=c::kf.flat∧f.hd=some (none,c,kf,.nil)∧Xj M c kf:=by
 rcases WA hw with h | ⟨k,c,kf,r,hf,Hf⟩
 ·subst h;cases h1
 have cf:=Hf.cnt;rw[NX h1] at cf;obtain rfl:=TH (f:=r) (by omega);have hk:k=none:=by
  have:=Hf.key
  cases k with
  | none=>rfl
  | some _=>simp[CE] at this
 subst hk;exact⟨c,kf,by rw[Hf.flat];simp[BM,Fo.flat],hf,(Hf.v hA).1⟩
variable {a b : List Aa}
end
def WR {α:Type}(v:List Aa)(bad:Int→α)(good:Aa→Fo→α):α:=bif !decide (Dv v=0) then bad (Dv v) else match whole v with
 | some f=>(match f.hd with
  | some (_,c,kf,_)=>good c kf
  | none=>bad 1)
 | none=>bad 1
structure WW (M:Nat) (v:List Aa) (c:Aa) (kf:Fo):Prop where
 e:v=c::kf.flat
 vok:Xj M c kf
 ok:Dv v=0
 on:∀(α:Type) (bad:Int→α) (good:Aa→Fo→α),WR v bad good=good c kf
 f:∃f:Fo,whole v=some f∧f.one=true∧f.wf false none=true∧f.hd=some (none,c,kf,.nil)∧Nc f=0
theorem J6 {M:Nat}{v:List Aa}(hA:G1 M v):(¬ Dv v=0∧∀(α:Type) (bad:Int→α) (good:Aa→Fo→α),WR v bad good=bad (Dv v))∨∃c kf,WW M v c kf:=by
 by_cases h:Dv v=0
 ·refine .inr ?_;have h':=h;unfold Dv at h
  cases hw:whole v with
  | none=>rw[hw] at h;cases h
  | some f=>
   rw[hw] at h;obtain⟨x1,x2,x3⟩:=LP hw;subst x1;obtain⟨c,kf,e1,e2,e3⟩:=V5 x3 x2 hA;refine⟨c,kf,e1,e3,h',λα bad good=>?_,f,hw,x3,x2,e2,h⟩;unfold WR;rw[X4 h',hw];simp only[e2];rfl
 ·refine .inl ⟨h,λα bad good=>?_⟩;unfold WR;rw[Xz h];rfl
def Fo.find (key:Aw):Fo→Option (List Aa)
 | .nil=>none
 | .cell k c r=>bif decide (U7 k=key) then some [c] else r.find key
 | .node k c kids r=>bif decide (U7 k=key) then some (c::kids.flat) else r.find key
section
variable {M : Nat} {v : List Aa}
end
def P7 (v:List Aa):List Aa×Int:=bif !decide (Dv v=0) then([],Dv v) else(v,0)
section
variable {M : Nat} {v : List Aa}
theorem OI (hA:G1 M v)(hM:M≤1000000){F:Nat}(hF:M<F):EE F v=some (P7 v):=by
 unfold EE P7;rw[Nk hA hM hF,Bc rfl]
 by_cases h:Dv v=0
 ·rw[AQ (by simp[h]),X4 h];rfl
 ·rw[Ba (by simp[h]),Xz h];rfl
theorem OU (hA:G1 M v)(hM:M≤1000000){F:Nat}(hF:4*M+6<F):I1 F v=some (P7 v):=by
 unfold I1 P7;rw[Nr hA hM hF,Bc rfl]
 by_cases h:Dv v=0
 ·rw[AQ (by simp[h]),X4 h];rfl
 ·rw[Ba (by simp[h]),Xz h];rfl
end
theorem IF {α β:Type}{p:Bool}{a:β}{x:Option α}:AY (imp p (some a).isSome) x=x:=CD (Mv p)
theorem TI {α β:Type}{p q:Bool}{a:β}{x:Option α}:AY (imp p (imp q (some a).isSome)) x=x:=CD (by rw[show(some a).isSome=true from rfl,Mv,Mv])
def WP {R:Type}(i:Int):Option R→Stp Int (Out R Unit)
 | some r=>.out (.ret r)
 | none=>.next (i+1)
def NW {R:Type}:Option R→Out R Unit
 | some r=>.ret r
 | none=>.go ()
theorem DX {α R:Type}[Inhabited α]{l:List α}{t:α→Option R}{body:Int→Option (Stp Int (Out R Unit))}
  (hs:∀x:Int,0≤x→x<(l.length:Int)→body x=some (WP x (t (Ax l x)))) (he:∀x:Int,¬ x<(l.length:Int)→body x=some (.out (.go ()))) {F:Nat} (hF:l.length<F) :
  Cf body F 0=some (NW (l.findSome? t)):=by
 have key:∀(suf pre:List α) (F:Nat),l=pre++suf→suf.length<F→Cf body F (pre.length:Int)=some (NW (suf.findSome? t)):=by
  intro suf
  induction suf with
  | nil=>
   intro pre F e hF;obtain⟨n,rfl⟩:∃n,F=n+1:=⟨F-1,by omega⟩
   exact Ej (he _ (by rw[e];simp))
  | cons a r ih=>
   intro pre F e hF;simp only[X3] at hF;obtain⟨n,rfl⟩:∃n,F=n+1:=⟨F-1,by omega⟩
   have h1:=hs (pre.length:Int) (by omega) (by rw[e];simp;omega);have h2:Ax l (pre.length:Int)=a:=by rw[e];exact Rj pre r a rfl
   rw[h2] at h1
   cases ht:t a with
   | some q=>
    rw[ht] at h1;rw[List.findSome?_cons,ht];exact Ej h1
   | none=>
    rw[ht] at h1;rw[List.findSome?_cons,ht];have h3:=ih (pre++[a]) n (by rw[e];simp) (by omega);refine I5 h1 ?_;rw[show((pre.length:Int)+1)=((pre++[a]).length:Int) from by simp];exact h3
 exact key l [] F rfl hF
def eO (e:Int):Option Int:=bif decide (e=0) then none else some e
def bO {R:Type}(b:Bool)(r:R):Option R:=bif b then some r else none
theorem Oq {x e:Int}:AO (!decide (e=0)) (some (.out (.ret e))) (some (.next (x+1)))=(some (WP x (eO e)):Option (Stp Int (Out Int Unit))):=by
 unfold eO;cases decide (e=0)<;>rfl
theorem E2 {R:Type}{x:Int}{b:Bool}{r:R}:AO b (some (.out (.ret r))) (some (.next (x+1)))=(some (WP x (bO b r)):Option (Stp Int (Out R Unit))):=by
 cases b<;>rfl
theorem HY {α R:Type}{p:α→Bool}{r:R}:∀l:List α,l.findSome? (λa=>bO (p a) r)=bO (l.any p) r
 | []=>rfl
 | a::l=>by
  rw[List.findSome?_cons,List.any_cons,HY l]
  cases p a<;>rfl
theorem JV {R:Type}{b:Bool}{r q:R}:BS (λ_=>some q) (NW (bO b r))=some (bif b then r else q):=by cases b<;>rfl
theorem OK {F:Nat}{a b:List Aa}(hF:a.length<F)(ha:a.length≤1000000000):Lg F a b=some (decide (a=b)):=by
 unfold Lg
 by_cases hl:a.length=b.length
 ·rw[AQ (by simp[hl])];have h1:∀(k:Nat),k≤a.length→∃o,Cf (λσ=>Ew a b σ) (a.length-k+1) (k:Int)=some o∧BS (λ_=>Iz) o=some (decide (a.drop k=b.drop k)):=by
   intro k;generalize hd:a.length-k=d
   induction d generalizing k with
   | zero=>
    intro hk;have:k=a.length:=by omega
    subst this;refine⟨.go (),Ej (by unfold Ew;rw[AQ (Xz (by omega))]),?_⟩;rw[GA,List.drop_length,hl,List.drop_length];rfl
   | succ d ih=>
    intro hk;have hka:k<a.length:=by omega
    have hkb:k<b.length:=by omega
    have ea:Ax a (k:Int)=a[k]:=by simp[Ax,hka]
    have eb:Ax b (k:Int)=b[k]:=by simp[Ax,hkb]
    have da:=List.drop_eq_getElem_cons hka;have db:=List.drop_eq_getElem_cons hkb;have hc:(decide (a[k].fKind=b[k].fKind)&&decide (a[k].fInt=b[k].fInt)&&decide (a[k].fStr=b[k].fStr)&&decide (a[k].fN=b[k].fN))=decide (a[k]=b[k]):=by
     rw[XE];simp only[X1,Xw];constructor
     ·rintro⟨⟨⟨h1,h2⟩,h3⟩,h4⟩;generalize a[k]=u at *;generalize b[k]=v at *
      cases u;cases v;simp_all
     ·intro h;rw[h];simp
    have hb:Ew a b (k:Int)=AO (!decide (a[k]=b[k])) (some (.out (.ret false))) (some (.next ((k:Int)+1))):=by
     unfold Ew;rw[Ba (X4 (by omega)),B6 (by omega) (by omega),B6 (by omega) (by omega),ea,eb,hc,AT (by omega) (by omega)]
    cases he:decide (a[k]=b[k]) with
    | false=>
     refine⟨.ret false,Ej (hb.trans (by rw[he];rfl)),?_⟩;rw[Hm,da,db];simp only[Xy] at he;rw[Xz (by intro h;exact he (List.cons.inj h).1)]
    | true=>
     obtain⟨o,h2,h3⟩:=ih (k+1) (by omega) (by omega);simp only[Xw] at he;refine⟨o,I5 (hb.trans (by rw[X4 he];rfl)) h2,?_⟩;rw[h3,da,db,he];simp only[List.cons.injEq,true_and]
  obtain⟨o,h2,h3⟩:=h1 0 (Yb _);replace h2:Cf (λσ=>Ew a b σ) (a.length-0+1) 0=some o:=h2;obtain⟨k,rfl⟩:∃k,F=(a.length-0+1)+k:=⟨F-(a.length+1),by omega⟩
  rw[Bc (I6 k h2),h3];rfl
 ·rw[Ba (by simp;omega),Xz (λh=>hl (by rw[h]))]
theorem Ry {F:Nat}{a b:List Aa}(hF:a.length<F)(ha:a.length≤1000000000):Ng F a b=some (decide (a=b)):=by rw[OG];exact OK hF ha
def R7 (s:Aw):Int:=Dv [⟨4,0,s,0⟩]
theorem Ot (v:List Aa):(P7 v).2=Dv v:=by
 unfold P7
 by_cases h:Dv v=0
 ·rw[X4 h];exact h.symm
 ·rw[Xz h];rfl
theorem G1.str {K:Nat}{s:Aw}(hs:s.length≤K)(hK:1≤K)(hK2:K≤1000000):G1 K [⟨4,0,s,0⟩]:=⟨by omega,hK,λc hc=>by
 have:c=⟨4,0,s,0⟩:=by simpa using hc
 subst this;exact⟨hs,(by decide:BN .i64 0=true),(by decide:(0:Int)≤9223372036854775807)⟩⟩
theorem QA {K F:Nat}{s:Aw}(hs:s.length≤K)(hK:1≤K)(hK2:K≤1000000)(hF:K<F):NI F s=some (P7 [⟨4,0,s,0⟩]):=by
 unfold NI;rw[OI (G1.str hs hK hK2) hK2 hF,Bc rfl]
theorem QI {K F:Nat}{s:Aw}(hs:s.length≤K)(hK:1≤K)(hK2:K≤1000000)(hF:4*K+6<F):Qc F s=some (P7 [⟨4,0,s,0⟩]):=by
 unfold Qc;rw[OU (G1.str hs hK hK2) hK2 hF,Bc rfl]
def V4 (a:Option Int)(b:Int):Int:=match a with
 | some e=>e
 | none=>b
def OP (a b c d e g h i:Bool):Bool:=(a||b||c)&&(d||e)&&(g||h&&i)
def Jh (f:Ah):Int:=bif OP (decide (f.fOp=3)) (decide (f.fOp=4)) (decide (f.fValues.length=0)) (decide (f.fOp=5)) (decide (f.fText=[])) (decide (f.fOp=6)) (decide (f.fLow=0)) (decide (f.fHigh=0)) then 0 else 1
def WS (n:Int):Bool:=decide (-1000000000000≤n)&&decide (n≤1000000000000)
def Sr (f:Ah):Bool:=!WS f.fLow||(!WS f.fHigh||decide (f.fHigh<f.fLow))
def RK (f:Ah):Int:=
 bif (decide (f.fOp=3)||decide (f.fOp=4)) then(bif (decide ((f.fValues.length:Int)<1)||decide (8<(f.fValues.length:Int))) then 3 else V4 (f.fValues.findSome? λv=>eO (Dv v)) (Jh f))
 else bif decide (f.fOp=5) then V4 (eO (R7 f.fText)) (Jh f)
 else bif decide (f.fOp=6) then(bif Sr f then 2 else Jh f)
 else Jh f
def Ii (f:Ah):Int:=bif decide (4<(f.fPath.length:Int)) then 3 else V4 (f.fPath.findSome? λs=>eO (R7 s)) (bif (decide (f.fOp<1)||decide (6<f.fOp)) then 7 else RK f)
def jB (x:Bool):Option Int:=AO x (some 1) (some 0)
theorem RA:∀a b c d e g h i:Bool,(Bf (some (a||b)) λr=>AO (!r) (AO (!c) (jB true) (AO (!d) (AO (!e) (jB true) (AO (!g) (AO (!h) (jB true) (jB (!i))) (jB false))) (AO (!g) (AO (!h) (jB true) (jB (!i))) (jB false)))) (AO (!d) (AO (!e) (jB true) (AO (!g) (AO (!h) (jB true) (jB (!i))) (jB false))) (AO (!g) (AO (!h) (jB true) (jB (!i))) (jB false))))=some (bif OP a b c d e g h i then(0:Int) else 1):=by decide
def ON (f:Ah):Option Int:=Bf (EW f.fOp) λr=>AO (!r) (AO (decide (0<(f.fValues.length:Int))) (jB true) (AO (!decide (f.fOp=5)) (AO (!decide (f.fText=([]:Aw))) (jB true) (AO (!decide (f.fOp=6)) (AO (!decide (f.fLow=0)) (jB true) (jB (!decide (f.fHigh=0)))) (jB false))) (AO (!decide (f.fOp=6)) (AO (!decide (f.fLow=0)) (jB true) (jB (!decide (f.fHigh=0)))) (jB false)))) (AO (!decide (f.fOp=5)) (AO (!decide (f.fText=([]:Aw))) (jB true) (AO (!decide (f.fOp=6)) (AO (!decide (f.fLow=0)) (jB true) (jB (!decide (f.fHigh=0)))) (jB false))) (AO (!decide (f.fOp=6)) (AO (!decide (f.fLow=0)) (jB true) (jB (!decide (f.fHigh=0)))) (jB false)))
theorem Iy (f:Ah):ON f=some (Jh f):=by
 have h:=RA (decide (f.fOp=3)) (decide (f.fOp=4)) (decide (f.fValues.length=0)) (decide (f.fOp=5)) (decide (f.fText=[])) (decide (f.fOp=6)) (decide (f.fLow=0)) (decide (f.fHigh=0));have e:decide (0<(f.fValues.length:Int)) = !decide (f.fValues.length=0):=by rw[XE,XD,Xw,Xy];omega
 unfold ON EW;rw[e];exact h
theorem Qa:∀a b c d e g h i:Bool,AO (a||b) (AO d (AO g (some true) (AO h (some i) (some false))) (AO e (AO g (some true) (AO h (some i) (some false))) (some false))) (AO c (AO d (AO g (some true) (AO h (some i) (some false))) (AO e (AO g (some true) (AO h (some i) (some false))) (some false))) (some false))=some (OP a b c d e g h i):=by decide
theorem Qu (f:Ah):EC f=some (OP (decide (f.fOp=3)) (decide (f.fOp=4)) (decide (f.fValues.length=0)) (decide (f.fOp=5)) (decide (f.fText=[])) (decide (f.fOp=6)) (decide (f.fLow=0)) (decide (f.fHigh=0))):=by
 have h:=Qa (decide (f.fOp=3)) (decide (f.fOp=4)) (decide (f.fValues.length=0)) (decide (f.fOp=5)) (decide (f.fText=[])) (decide (f.fOp=6)) (decide (f.fLow=0)) (decide (f.fHigh=0));have e:decide ((f.fValues.length:Int)=0)=decide (f.fValues.length=0):=by rw[XE];simp
 unfold EC;rw[e];exact h
structure FA (K:Nat) (f:Ah):Prop where
 path:f.fPath.length≤10
 keys:∀s∈f.fPath,s.length≤K
 vals:f.fValues.length≤20
 val:∀v∈f.fValues,G1 K v
 text:f.fText.length≤K
 K1:1≤K
 K2:K≤1000000
section
variable {K : Nat} {f : Ah}
theorem Sg (hA:FA K f){F:Nat}(hF:K+100<F):Cf (λσ=>E8 F f σ) F 0=some (NW (f.fPath.findSome? λs=>eO (R7 s))):=by
 have hp:=hA.path;refine DX (λx h0 hx=>?_) (λx hx=>by unfold E8;rw[AQ (Xz hx)]) (by omega);unfold E8;rw[Ba (X4 hx),B6 h0 hx,QA (hA.keys _ (Gx h0 hx)) hA.K1 hA.K2 (by omega),Bc rfl,AT (by omega) (by omega),Ot];exact Oq
theorem P0 (hA:FA K f){F:Nat}(hF:4*K+100<F):Cf (λσ=>DE F f σ) F 0=some (NW (f.fPath.findSome? λs=>eO (R7 s))):=by
 have hp:=hA.path;refine DX (λx h0 hx=>?_) (λx hx=>by unfold DE;rw[AQ (Xz hx)]) (by omega);unfold DE;rw[Ba (X4 hx),B6 h0 hx,QI (hA.keys _ (Gx h0 hx)) hA.K1 hA.K2 (by omega),Bc rfl,AT (by omega) (by omega),Ot];exact Oq
theorem Nz (hA:FA K f){F:Nat}(hF:K+100<F):Cf (λσ=>E7 F f σ) F 0=some (NW (f.fValues.findSome? λv=>eO (Dv v))):=by
 have hp:=hA.vals;refine DX (λx h0 hx=>?_) (λx hx=>by unfold E7;rw[AQ (Xz hx)]) (by omega);unfold E7;rw[Ba (X4 hx),B6 h0 hx,Nk (hA.val _ (Gx h0 hx)) hA.K2 (by omega),Bc rfl,AT (by omega) (by omega)];exact Oq
theorem Sf (hA:FA K f){F:Nat}(hF:K+100<F):Cf (λσ=>H6 F f σ) F 0=some (NW (f.fValues.findSome? λv=>eO (Dv v))):=Nz hA hF
theorem Pz (hA:FA K f){F:Nat}(hF:4*K+100<F):Cf (λσ=>DD F f σ) F 0=some (NW (f.fValues.findSome? λv=>eO (Dv v))):=by
 have hp:=hA.vals;refine DX (λx h0 hx=>?_) (λx hx=>by unfold DD;rw[AQ (Xz hx)]) (by omega);unfold DD;rw[Ba (X4 hx),B6 h0 hx,Nr (hA.val _ (Gx h0 hx)) hA.K2 (by omega),Bc rfl,AT (by omega) (by omega)];exact Oq
theorem I2 {a:Option Int}{b:Int}{k:Option Int}(h:k=some b):BS (λ_=>k) (NW a)=some (V4 a b):=by subst h;cases a<;>rfl
theorem Ri {e b:Int}{k:Option Int}(h:k=some b):AO (!decide (e=0)) (some e) k=some (V4 (eO e) b):=by
 subst h;unfold eO;cases decide (e=0)<;>rfl
theorem Nv (n:Int):By n=some (WS n):=rfl
theorem Mi (n:Int):Br n=some (WS n):=rfl
theorem KG (hA:FA K f){F:Nat}(hF:K+100<F):BT F f=some (Ii f):=by
 have h2:H4 f=some (Jh f):=Iy f;have h4:H3 f=some (Jh f):=Iy f;unfold BT Ii
 cases h1:decide (4<(f.fPath.length:Int)) with
 | true=>rfl
 | false=>
  rw[AQ (by rfl),Bc (Sg hA hF),I2 (b:=bif (decide (f.fOp<1)||decide (6<f.fOp)) then 7 else RK f)]
  ·rfl
  ·unfold H5
   cases h0:(decide (f.fOp<1)||decide (6<f.fOp)) with
   | true=>rfl
   | false=>
    rw[AQ (by rfl),X2];unfold RK
    cases h3:decide (f.fOp=3) with
    | true=>
     rw[Ba (by rfl),XP,X8]
     cases hn:(decide ((f.fValues.length:Int)<1)||decide (8<(f.fValues.length:Int))) with
     | true=>rfl
     | false=>rw[AQ (by rfl),Bc (Nz hA hF),I2 h2];rfl
    | false=>
     rw[AQ (by rfl),XF]
     cases h4':decide (f.fOp=4) with
     | true=>
      rw[Ba (by rfl),X8]
      cases hn:(decide ((f.fValues.length:Int)<1)||decide (8<(f.fValues.length:Int))) with
      | true=>rfl
      | false=>rw[AQ (by rfl),Bc (Sf hA hF),I2 h4];rfl
     | false=>
      rw[AQ (by rfl),X2]
      cases h5:decide (f.fOp=5) with
      | true=>
       rw[Ba (by rfl),X8,QA hA.text hA.K1 hA.K2 (by omega),Bc rfl,Ot];refine Ri (Eq.trans ?_ (Iy f));unfold ON;rw[h5];rfl
      | false=>
       rw[AQ (by rfl),X2]
       cases h6:decide (f.fOp=6) with
       | true=>
        rw[Ba (by rfl),X8,Nv,Nv,CD (by rfl),IF,CN,CN]
        change AO (Sr f) _ _=_
        cases hb:Sr f with
        | true=>rfl
        | false=>
         rw[AQ (by rfl),X2];refine Eq.trans ?_ (Iy f);unfold ON;rw[h5,h6];rfl
       | false=>
        rw[AQ (by rfl),X2];refine Eq.trans ?_ (Iy f);unfold ON;rw[h5,h6];rfl
theorem V2 (f:Ah):(Bf (EC f) λr=>AO (!r) (some (1:Int)) (some 0))=some (Jh f):=by
 rw[Qu,Bc rfl];unfold Jh;generalize OP _ _ _ _ _ _ _ _=q
 cases q<;>rfl
theorem Lo (hA:FA K f){F:Nat}(hF:4*K+100<F):Df F f=some (Ii f):=by
 unfold Df Ii
 cases h1:decide (4<(f.fPath.length:Int)) with
 | true=>rfl
 | false=>
  rw[AQ (by rfl),Bc (P0 hA hF),I2 (b:=bif (decide (f.fOp<1)||decide (6<f.fOp)) then 7 else RK f)]
  ·rfl
  ·have tl:AY (imp (decide (f.fOp=6)) ((Br f.fLow).isSome)) (AY (imp (decide (f.fOp=6)) (imp (!(!(ov (Br f.fLow)))) ((Br f.fHigh).isSome))) (AO (((decide (f.fOp=6))&&((!(ov (Br f.fLow)))||((!(ov (Br f.fHigh)))||(decide (f.fHigh<f.fLow)))))) (some 2) (Bf (EC f) λr=>AO (!r) (some 1) (some 0))))=some (bif decide (f.fOp=6)&&Sr f then 2 else Jh f):=by
    rw[Mi,Mi,IF,TI,CN,CN,V2]
    change AO (decide (f.fOp=6)&&Sr f) _ _=_
    cases decide (f.fOp=6)&&Sr f<;>rfl
   unfold EL
   cases h0:(decide (f.fOp<1)||decide (6<f.fOp)) with
   | true=>rfl
   | false=>
    rw[AQ (by rfl),X2];unfold RK
    cases ha:(decide (f.fOp=3)||decide (f.fOp=4)) with
    | true=>
     have h5:decide (f.fOp=5)=false:=by simp only[XY,Xw] at ha;exact Xz (by omega)
     have h6:decide (f.fOp=6)=false:=by simp only[XY,Xw] at ha;exact Xz (by omega)
     rw[Ba (by rfl),X8]
     cases hn:(decide ((f.fValues.length:Int)<1)||decide (8<(f.fValues.length:Int))) with
     | true=>rfl
     | false=>
      rw[AQ (by rfl),X2,Bc (Pz hA hF)];refine I2 ?_;unfold EK;rw[h5,AQ (by rfl)];refine tl.trans ?_;rw[h6];rfl
    | false=>
     rw[AQ (by rfl),X2]
     cases h5:decide (f.fOp=5) with
     | true=>
      have h6:decide (f.fOp=6)=false:=by simp only[Xw] at h5;exact Xz (by omega)
      rw[Ba (by rfl),X8,QI hA.text hA.K1 hA.K2 (by omega),Bc rfl,Ot];refine Ri (tl.trans ?_);rw[h6];rfl
     | false=>
      rw[AQ (by rfl),X2];refine tl.trans ?_
      cases decide (f.fOp=6)<;>rfl
end
theorem Rg {f:Fo}(h1:f.flat.any Hn=false)(h2:f.flat.any ET=false)(h3:f.flat.length≤200)(h4:f.dep≤8)(h5:(f.txt true).length≤4000):Nc f=0:=by
 unfold Nc;rw[h1,h2,Xz (by omega),Xz (by omega),Xz (by omega)];rfl
theorem TD {f:Fo}(h:Nc f=0):f.flat.any Hn=false∧f.flat.any ET=false∧f.flat.length≤200∧f.dep≤8∧(f.txt true).length≤4000:=by
 unfold Nc at h
 cases h1:f.flat.any Hn with
 | true=>rw[h1] at h;cases h
 | false=>
  rw[h1] at h
  cases h2:(f.flat.any ET||(decide (200<f.flat.length)||(decide (8<f.dep)||decide (4000<(f.txt true).length)))) with
  | true=>rw[h2] at h;cases h
  | false=>
   simp only[XI,Xy] at h2;exact⟨rfl,h2.1,by omega,by omega,by omega⟩
theorem Rf {f:Fo}(h1:f.one=true)(hw:f.wf false none=true)(he:Nc f=0):Dv f.flat=0:=by
 unfold Dv;rw[SG h1 hw];exact he
theorem Jp:∀(f:Fo) (m:Bool) (last:Option Aw) (b:Bool),f.wf m last=true→f.flat.any Hn=false→f.flat.any ET=false→f.flat.length≤200→f.dep≤8→(f.txt b).length≤4000→∀y∈f.vals,Dv y=0
 | .nil,m,last,b,hw,h1,h2,h3,h4,h5=>λy hy=>by simp[Fo.vals] at hy
 | .cell k c r,m,last,b,hw,h1,h2,h3,h4,h5=>λy hy=>by
  simp only[Fo.wf,X1,XD] at hw;obtain⟨⟨⟨w1,w2⟩,w3⟩,w4⟩:=hw;simp only[Fo.flat,List.any_append,List.any_cons,XI] at h1 h2;simp only[Fo.flat,Fo.dep,Fo.txt,X9,X3] at h3 h4 h5;simp only[Fo.vals,Yf] at hy;rcases hy with rfl | hy
  ·have hf:(Fo.cell none c .nil).flat=[c]:=by simp[Fo.flat,BM]
   rw[← hf];refine Rf rfl (NE w2 w3) (Rg ?_ ?_ ?_ ?_ ?_)
   ·rw[hf];simp[h1.2.1]
   ·rw[hf];simp[h2.2.1]
   ·rw[hf];simp
   ·simp[Fo.dep]
   ·simp[Fo.txt,Gn,Ms];omega
  ·exact Jp r m k false w4 h1.2.2 h2.2.2 (by omega) (by omega) (by omega) y hy
 | .node k c kids r,m,last,b,hw,h1,h2,h3,h4,h5=>λy hy=>by
  simp only[Fo.wf,X1,Xw] at hw;obtain⟨⟨⟨⟨⟨w1,w2⟩,w3⟩,w5⟩,w6⟩,w4⟩:=hw;simp only[Fo.flat,List.any_append,List.any_cons,XI] at h1 h2;simp only[Fo.flat,Fo.dep,Fo.txt,X9,X3] at h3 h4 h5;simp only[Fo.vals,Yf] at hy;rcases hy with rfl | hy
  ·have hf:(Fo.node none c kids .nil).flat=c::kids.flat:=by simp[Fo.flat,BM]
   rw[← hf];refine Rf rfl (ND w2 w3 w5 w6) (Rg ?_ ?_ ?_ ?_ ?_)
   ·rw[hf];simp only[List.any_cons,h1.2.1,h1.2.2.1];rfl
   ·rw[hf];simp only[List.any_cons,h2.2.1,h2.2.2.1];rfl
   ·rw[hf];simp only[X3];omega
   ·simp only[Fo.dep];omega
   ·simp only[Fo.txt,Gn,Ms,X8,Yh,Ya];omega
  ·exact Jp r m k false w4 h1.2.2.2 h2.2.2.2 (by omega) (by omega) (by omega) y hy
theorem WW.vals {M:Nat}{v:List Aa}{c:Aa}{kf:Fo}(V:WW M v c kf):∀y∈kf.vals,Dv y=0:=by
 obtain⟨f,x1,x2,x3,x4,x5⟩:=V.f;obtain⟨h1,h2,h3,h4,h5⟩:=TD x5;have hw:=V.vok.wf
 cases f with
 | nil=>cases x2
 | cell k c' r=>
  simp[Fo.hd] at x4;obtain⟨_,_,rfl,_⟩:=x4;intro y hy;simp[Fo.vals] at hy
 | node k c' kids r=>
  simp[Fo.hd] at x4;obtain⟨rfl,rfl,rfl,rfl⟩:=x4;simp only[Fo.flat,BM,Yh,Ya,List.any_cons,XI] at h1 h2;simp only[Fo.flat,BM,Yh,Ya,X3] at h3;simp only[Fo.dep] at h4;have hb:=LH c' (kids.txt true);simp only[Fo.txt,Gn,Ms,X8,Yh,Ya] at h5;exact Jp kids _ none true hw h1.2 h2.2 (by omega) (by omega) (by omega)
section
variable {M : Nat} {v x : List Aa} {key : Aw}
end
theorem Ek {α:Type}[Inhabited α]{l:List α}{t:α→Bool}{body:Int→Option (Stp Int (Out Int Unit))}
  (hs:∀x:Int,0≤x→x<(l.length:Int)→body x=some (WP x (bO (t (Ax l x)) x))) (he:∀x:Int,¬ x<(l.length:Int)→body x=some (.out (.go ()))) {F:Nat} (hF:l.length<F) :
  (Bf (Bf (Cf body F 0) (BS λ_=>some (-1))) λr=>some (decide (0≤r)))=some (l.any t):=by
 have key:∀(suf pre:List α) (F:Nat),l=pre++suf→suf.length<F→∃o,Cf body F (pre.length:Int)=some o∧(Bf (BS (λ_=>some (-1)) o) λr=>some (decide (0≤r)))=some (suf.any t):=by
  intro suf
  induction suf with
  | nil=>
   intro pre F e hF;obtain⟨n,rfl⟩:∃n,F=n+1:=⟨F-1,by omega⟩
   exact⟨.go (),Ej (he _ (by rw[e];simp)),rfl⟩
  | cons a r ih=>
   intro pre F e hF;simp only[X3] at hF;obtain⟨n,rfl⟩:∃n,F=n+1:=⟨F-1,by omega⟩
   have h1:=hs (pre.length:Int) (by omega) (by rw[e];simp;omega);have h2:Ax l (pre.length:Int)=a:=by rw[e];exact Rj pre r a rfl
   rw[h2] at h1
   cases ht:t a with
   | true=>
    rw[ht] at h1;refine⟨.ret (pre.length:Int),Ej h1,?_⟩;rw[Hm,Bc rfl,List.any_cons,ht,X4 (by omega)];rfl
   | false=>
    rw[ht] at h1;obtain⟨o,h3,h4⟩:=ih (pre++[a]) n (by rw[e];simp) (by omega);refine⟨o,I5 h1 ?_,?_⟩
    ·rw[show((pre.length:Int)+1)=((pre++[a]).length:Int) from by simp];exact h3
    ·rw[h4,List.any_cons,ht];rfl
 obtain⟨o,h1,h2⟩:=key l [] F rfl hF;rw[show(0:Int)=(([]:List α).length:Int) from rfl,Bc h1];exact h2
def HX (x:List Aa)(l:List (List Aa)):Bool:=l.any λy=>decide (y=x)
def Ml (s p:Aw):Bool:=decide (p.length≤s.length)&&decide (s.take p.length=p)
def KM (x:List Aa)(p:Aw):Bool:=decide ((Ax x 0).fKind=4)&&Ml (Ax x 0).fStr p
def Jo (x:List Aa)(lo hi:Int):Bool:=decide ((Ax x 0).fKind=3)&&(decide (lo≤(Ax x 0).fInt)&&decide ((Ax x 0).fInt≤hi))
section
variable {K : Nat} {v : List Aa}
theorem Ut {c:Aa}(hp:pl c=true)(hk:c.fKind=3∨c.fKind=4):c.fN=0:=by
 unfold pl at hp;rcases hk with hk | hk<;>(rw[hk] at hp;simp at hp;omega)
theorem Pi {c:Aa}{kf:Fo}(V:WW K v c kf)(hk:c.fKind=3∨c.fKind=4):v=[c]:=by
 have h1:=Ut V.vok.pl hk;have h2:=V.vok.n;have h3:kf = .nil:=by
  cases kf with
  | nil=>rfl
  | cell k c r=>simp[Fo.cnt] at h2;omega
  | node k c kids r=>simp[Fo.cnt] at h2;omega
 rw[V.e,h3];rfl
theorem Nw (s p:Aw):Dn s p=some (Ml s p):=by
 unfold Dn G5 Ml;have e:decide ((p.length:Int)≤(s.length:Int))=decide (p.length≤s.length):=by rw[XE];simp
 rw[e]
 cases h:decide (p.length≤s.length) with
 | false=>rfl
 | true=>rw[CD (by rw[UH (by omega) (by have:=XH h;omega)];rfl),Bc rfl];rfl
theorem M7 (s p:Aw):Ec s p=some (Ml s p):=by
 unfold Ec Ml;have e:decide ((p.length:Int)≤(s.length:Int))=decide (p.length≤s.length):=by rw[XE];simp
 rw[e]
 cases h:decide (p.length≤s.length) with
 | false=>rfl
 | true=>rw[CD (by rw[UH (by omega) (by have:=XH h;omega)];rfl)];rfl
theorem M4 (hA:G1 K v)(h:Dv v=0)(p:Aw):Ic v p=some (KM v p):=by
 rcases J6 hA with⟨h',_⟩ | ⟨c,kf,V⟩
 ·exact absurd h h'
 ·have hl:0<v.length:=by rw[V.e];simp
  unfold Ic KM;rw[Nw,B6 (by omega) (by omega),IF,CN]
theorem Kr (hA:G1 K v)(h:Dv v=0)(p:Aw):Ci v p=some (KM v p):=by
 rcases J6 hA with⟨h',_⟩ | ⟨c,kf,V⟩
 ·exact absurd h h'
 ·have hat:Ax v 0=c:=by rw[V.e];rfl
  unfold Ci KM;rw[M7,CN,hat];rw[TI]
  cases hk:decide (c.fKind=4) with
  | false=>
   rw[XK,XL];refine CD ?_
   cases h1:decide ((v.length:Int)=1) with
   | false=>rfl
   | true=>rw[Tv (by omega) (by have:=XH h1;omega)];rfl
  | true=>
   have:=Pi V (.inr (XH hk));rw[this];rfl
theorem Mx (hA:G1 K v)(h:Dv v=0)(lo hi:Int):HZ v lo hi=some (Jo v lo hi):=by
 rcases J6 hA with⟨h',_⟩ | ⟨c,kf,V⟩
 ·exact absurd h h'
 ·have hl:0<v.length:=by rw[V.e];simp
  unfold HZ Jo;rw[B6 (by omega) (by omega)]
theorem Ko (hA:G1 K v)(h:Dv v=0)(lo hi:Int):B8 v lo hi=some (Jo v lo hi):=by
 rcases J6 hA with⟨h',_⟩ | ⟨c,kf,V⟩
 ·exact absurd h h'
 ·have hat:Ax v 0=c:=by rw[V.e];rfl
  unfold B8 Jo;rw[hat]
  cases hk:decide (c.fKind=3) with
  | false=>
   rw[XK,XL];refine CD ?_
   cases h1:decide ((v.length:Int)=1) with
   | false=>rfl
   | true=>rw[Tv (by omega) (by have:=XH h1;omega)];rfl
  | true=>
   have:=Pi V (.inl (XH hk));rw[this];rfl
theorem KI {x:List Aa}{l:List (List Aa)}{F:Nat}(hl:l.length≤1000)(hF:K+1000<F)(hK:K≤1000000)(h:∀y∈l,G1 K y):Id F l x=some (HX x l):=by
 have:TK F l x=some (HX x l):=by
  unfold TK UC;refine Ek (λi h0 hi=>?_) (λi hi=>by unfold IW;rw[AQ (Xz hi)]) (by omega);have hm:=h _ (Gx h0 hi);have hv:=hm.hv;unfold IW LF;rw[Ba (X4 hi),B6 h0 hi,Ry (by omega) (by omega),Bc rfl,Bc rfl,AT (by omega) (by omega)];exact E2
 unfold Id;rw[this,Bc rfl]
theorem Lp {x:List Aa}{l:List (List Aa)}{F:Nat}(hx:G1 K x)(hl:l.length≤1000)(hF:K+1000<F)(hK:K≤1000000):CV F x l=some (HX x l):=by
 have hv:=hx.hv;unfold CV;rw[Bc (DX (t:=λy=>bO (decide (y=x)) true) (l:=l) (λi h0 hi=>?_) (λi hi=>by unfold Er;rw[AQ (Xz hi)]) (by omega)),HY]
 ·unfold EM;rw[JV];unfold HX
  cases List.any l _<;>rfl
 ·unfold Er;have e:decide (x=Ax l i)=decide (Ax l i=x):=by rw[XE];simp[eq_comm]
  rw[Ba (X4 hi),B6 h0 hi,OK (by omega) (by omega),Bc rfl,AT (by omega) (by omega),e];exact E2
variable {f : Ah}
theorem Ou (h:Ii f=0):1≤f.fOp∧f.fOp≤6:=by
 unfold Ii at h
 cases h1:decide (4<(f.fPath.length:Int)) with
 | true=>rw[h1] at h;cases h
 | false=>
  rw[h1,X2] at h
  cases h2:f.fPath.findSome? λs=>eO (R7 s) with
  | some e=>
   rw[h2] at h;have:e=0:=h;subst this;obtain⟨s,_,h3⟩:=List.exists_of_findSome?_eq_some h2;unfold eO at h3
   cases h4:decide (R7 s=0) with
   | true=>rw[h4] at h3;cases h3
   | false=>rw[h4] at h3;exact absurd (Option.some.inj h3) (of_decide_eq_false h4)
  | none=>
   rw[h2] at h
   cases h3:(decide (f.fOp<1)||decide (6<f.fOp)) with
   | true=>rw[h3] at h;cases h
   | false=>simp only[XI,Xy] at h3;omega
end
theorem QF {F:Nat}{a b:List Aw}(hF:a.length<F)(ha:a.length≤1000000000):Eu F a b=some (decide (a=b)):=by
 unfold Eu
 by_cases hl:a.length=b.length
 ·rw[AQ (by simp[hl])];have h1:∀(k:Nat),k≤a.length→∃o,Cf (λσ=>Dd a b σ) (a.length-k+1) (k:Int)=some o∧BS (λ_=>EG) o=some (decide (a.drop k=b.drop k)):=by
   intro k;generalize hd:a.length-k=d
   induction d generalizing k with
   | zero=>
    intro hk;have:k=a.length:=by omega
    subst this;refine⟨.go (),Ej (by unfold Dd;rw[AQ (Xz (by omega))]),?_⟩;rw[GA,List.drop_length,hl,List.drop_length];rfl
   | succ d ih=>
    intro hk;have hka:k<a.length:=by omega
    have hkb:k<b.length:=by omega
    have ea:Ax a (k:Int)=a[k]:=by simp[Ax,hka]
    have eb:Ax b (k:Int)=b[k]:=by simp[Ax,hkb]
    have da:=List.drop_eq_getElem_cons hka;have db:=List.drop_eq_getElem_cons hkb;have hb:Dd a b (k:Int)=AO (!decide (a[k]=b[k])) (some (.out (.ret false))) (some (.next ((k:Int)+1))):=by
     unfold Dd;rw[Ba (X4 (by omega)),B6 (by omega) (by omega),B6 (by omega) (by omega),ea,eb,AT (by omega) (by omega)]
    cases he:decide (a[k]=b[k]) with
    | false=>
     refine⟨.ret false,Ej (hb.trans (by rw[he];rfl)),?_⟩;rw[Hm,da,db];simp only[Xy] at he;rw[Xz (by intro h;exact he (List.cons.inj h).1)]
    | true=>
     obtain⟨o,h2,h3⟩:=ih (k+1) (by omega) (by omega);simp only[Xw] at he;refine⟨o,I5 (hb.trans (by rw[X4 he];rfl)) h2,?_⟩;rw[h3,da,db,he];simp only[List.cons.injEq,true_and]
  obtain⟨o,h2,h3⟩:=h1 0 (Yb _);replace h2:Cf (λσ=>Dd a b σ) (a.length-0+1) 0=some o:=h2;obtain⟨k,rfl⟩:∃k,F=(a.length-0+1)+k:=⟨F-(a.length+1),by omega⟩
  rw[Bc (I6 k h2),h3];rfl
 ·rw[Ba (by simp;omega),Xz (λh=>hl (by rw[h]))]
def OJ (a b:List Aw):Bool:=decide (b.length≤a.length)&&decide (a.take b.length=b)
theorem Kq {F:Nat}{a b:List Aw}(hF:b.length<F)(ha:b.length≤1000000000):Ck F a b=some (OJ a b):=by
 unfold Ck OJ
 by_cases hl:b.length≤a.length
 ·rw[AQ (Xz (by omega)),X4 hl,XB];have h1:∀(k:Nat),k≤b.length→∃o,Cf (λσ=>CO a b σ) (b.length-k+1) (k:Int)=some o∧BS (λ_=>Ey) o=some (decide ((a.drop k).take (b.length-k)=b.drop k)):=by
   intro k;generalize hd:b.length-k=d
   induction d generalizing k with
   | zero=>
    intro hk;have:k=b.length:=by omega
    subst this;refine⟨.go (),Ej (by unfold CO;rw[AQ (Xz (by omega))]),?_⟩;rw[GA,List.drop_length,List.take_zero];rfl
   | succ d ih=>
    intro hk;have hka:k<a.length:=by omega
    have hkb:k<b.length:=by omega
    have ea:Ax a (k:Int)=a[k]:=by simp[Ax,hka]
    have eb:Ax b (k:Int)=b[k]:=by simp[Ax,hkb]
    have da:=List.drop_eq_getElem_cons hka;have db:=List.drop_eq_getElem_cons hkb;have hb:CO a b (k:Int)=AO (!decide (a[k]=b[k])) (some (.out (.ret false))) (some (.next ((k:Int)+1))):=by
     unfold CO;rw[Ba (X4 (by omega)),B6 (by omega) (by omega),B6 (by omega) (by omega),ea,eb,AT (by omega) (by omega)]
    cases he:decide (a[k]=b[k]) with
    | false=>
     refine⟨.ret false,Ej (hb.trans (by rw[he];rfl)),?_⟩;rw[Hm,da,db,List.take_succ_cons];simp only[Xy] at he;rw[Xz (by intro h;exact he (List.cons.inj h).1)]
    | true=>
     obtain⟨o,h2,h3⟩:=ih (k+1) (by omega) (by omega);simp only[Xw] at he;refine⟨o,I5 (hb.trans (by rw[X4 he];rfl)) h2,?_⟩;rw[h3,da,db,List.take_succ_cons,he];simp only[List.cons.injEq,true_and]
  obtain⟨o,h2,h3⟩:=h1 0 (Yb _);replace h2:Cf (λσ=>CO a b σ) (b.length-0+1) 0=some o:=h2;obtain⟨k,rfl⟩:∃k,F=(b.length-0+1)+k:=⟨F-(b.length+1),by omega⟩
  rw[Bc (I6 k h2),h3];rfl
 ·rw[Ba (X4 (by omega)),Xz hl];rfl
def VU (a b:List Aw):Bool:=decide (b.length<a.length)&&decide (a.take b.length=b)
theorem Lm {F:Nat}{a b:List Aw}(hF:a.length<F)(ha:a.length≤1000000000):H0 F a b=some (VU a b):=by
 unfold H0 VU;have e:decide ((b.length:Int)<(a.length:Int))=decide (b.length<a.length):=by rw[XE];simp
 rw[e,QF (by rw[List.length_take];omega) (by rw[List.length_take];omega),IF,CN]
 cases h:decide (b.length<a.length) with
 | false=>rfl
 | true=>rw[CD (by rw[UH (by omega) (by have:=XH h;omega)];rfl)];rfl
def Ss (p3 p4 p5 p6 A B W:Bool):Bool:=(p3&&!A)||((p4&&A)||((p5&&!B)||(p6&&!W)))
theorem Pg {X:Type}(J:Bool→Option X):∀p3 p4 p5 p6 A B W:Bool,AO p3 (Bf (some A) λha=>AO (!ha) (J true) (AO p4 (Bf (some A) λhb=>AO (hb) (J true) (AO p5 (Bf (some B) λhe=>AO (!he) (J true) (AO p6 (Bf (some W) λhf=>J (!hf)) (J false))) (AO p6 (Bf (some W) λhg=>J (!hg)) (J false)))) (AO p5 (Bf (some B) λhh=>AO (!hh) (J true) (AO p6 (Bf (some W) λhi=>J (!hi)) (J false))) (AO p6 (Bf (some W) λhj=>J (!hj)) (J false))))) (AO p4 (Bf (some A) λhk=>AO (hk) (J true) (AO p5 (Bf (some B) λhl=>AO (!hl) (J true) (AO p6 (Bf (some W) λhm=>J (!hm)) (J false))) (AO p6 (Bf (some W) λhn=>J (!hn)) (J false)))) (AO p5 (Bf (some B) λho=>AO (!ho) (J true) (AO p6 (Bf (some W) λhp=>J (!hp)) (J false))) (AO p6 (Bf (some W) λhq=>J (!hq)) (J false))))=J (Ss p3 p4 p5 p6 A B W):=by
 intro p3 p4 p5 p6 A B W
 cases p3<;>cases p4<;>cases p5<;>cases p6<;>cases A<;>cases B<;>cases W<;>rfl
def IG (b:Ah)(v:List Aa):Bool:=Ss (decide (b.fOp=3)) (decide (b.fOp=4)) (decide (b.fOp=5)) (decide (b.fOp=6)) (HX v b.fValues) (KM v b.fText) (Jo v b.fLow b.fHigh)
def IH (a:Ah)(v:List Aa):Bool:=(decide (a.fOp=1))||(bif decide (a.fOp=4) then((!HX v a.fValues)||(bif decide (a.fOp=5) then((KM v a.fText)||((decide (a.fOp=6))&&(Jo v a.fLow a.fHigh))) else((decide (a.fOp=6))&&(Jo v a.fLow a.fHigh)))) else(bif decide (a.fOp=5) then((KM v a.fText)||((decide (a.fOp=6))&&(Jo v a.fLow a.fHigh))) else((decide (a.fOp=6))&&(Jo v a.fLow a.fHigh))))
def SQ (a b:Ah):Bool:=
 bif (decide (b.fOp=1)||(decide (b.fOp=2)||decide (a.fOp=2))) then decide (a.fOp=2) ==decide (b.fOp=2)
 else bif decide (a.fOp=3) then !a.fValues.any (IG b)
 else bif decide (b.fOp=4) then !b.fValues.any (IH a)
 else bif decide (b.fOp=5) then decide (a.fOp=5)&&Ml a.fText b.fText
 else decide (b.fOp=6)&&(decide (a.fOp=6)&&(decide (b.fLow≤a.fLow)&&decide (a.fHigh≤b.fHigh)))
def RU (a b:Ah):Bool:=decide (Ii a=0)&&(decide (Ii b=0)&&
 (bif decide (b.fPath.length<a.fPath.length) then OJ a.fPath b.fPath&&(decide (b.fOp=1)&&!decide (a.fOp=2))
 else bif decide (a.fPath.length<b.fPath.length) then OJ b.fPath a.fPath&&(decide (a.fOp=2)&&decide (b.fOp=2))
 else OJ a.fPath b.fPath&&SQ a b))
section
variable {K : Nat} {a b : Ah}
theorem UV {α:Type}{g:α→Int}{l:List α}(h:V4 (l.findSome? λx=>eO (g x)) 0=0):∀x∈l,g x=0:=by
 intro x hx
 cases hs:l.findSome? λx=>eO (g x) with
 | none=>
  have:=List.findSome?_eq_none_iff.1 hs x hx;unfold eO at this
  cases h4:decide (g x=0) with
  | true=>exact XH h4
  | false=>rw[h4] at this;cases this
 | some e=>
  rw[hs] at h;have:e=0:=h;subst this;obtain⟨s,_,h3⟩:=List.exists_of_findSome?_eq_some hs;unfold eO at h3
  cases h4:decide (g s=0) with
  | true=>rw[h4] at h3;cases h3
  | false=>rw[h4] at h3;exact absurd (Option.some.inj h3) (of_decide_eq_false h4)
theorem OZ {o:Option Int}{k:Int}(h:V4 o k=0)(ho:∀e,o=some e→¬ e=0):o=none∧k=0:=by
 cases o with
 | none=>exact⟨rfl,h⟩
 | some e=>exact absurd h (ho e rfl)
theorem Vq {α:Type}{g:α→Int}{l:List α}:∀e,(l.findSome? λx=>eO (g x))=some e→¬ e=0:=λe h he=>by
 subst he;obtain⟨s,_,h3⟩:=List.exists_of_findSome?_eq_some h;unfold eO at h3
 cases h4:decide (g s=0) with
 | true=>rw[h4] at h3;cases h3
 | false=>rw[h4] at h3;exact absurd (Option.some.inj h3) (of_decide_eq_false h4)
theorem Jb (h:Ii a=0)(ho:a.fOp=3∨a.fOp=4):0<a.fValues.length∧∀v∈a.fValues,Dv v=0:=by
 unfold Ii at h
 cases h1:decide (4<(a.fPath.length:Int)) with
 | true=>rw[h1] at h;cases h
 | false=>
  rw[h1,X2] at h;obtain⟨_,h⟩:=OZ h Vq
  cases h3:(decide (a.fOp<1)||decide (6<a.fOp)) with
  | true=>rw[h3] at h;cases h
  | false=>
   rw[h3,X2] at h;unfold RK at h;rw[show(decide (a.fOp=3)||decide (a.fOp=4))=true from by simpa using ho,X8] at h
   cases h4:(decide ((a.fValues.length:Int)<1)||decide (8<(a.fValues.length:Int))) with
   | true=>rw[h4] at h;cases h
   | false=>
    rw[h4,X2] at h;obtain⟨h5,_⟩:=OZ h Vq;simp only[XI,Xy] at h4;exact⟨by omega,UV (g:=Dv) (by rw[h5];rfl)⟩
theorem Ok (ha:FA K a)(hb:FA K b)(hv:∀v∈a.fValues,Dv v=0){F:Nat}(hF:4*K+2000<F):H7 F a b=some (!a.fValues.any (IG b)):=by
 have hK:=ha.K2;have hl:=ha.vals;have hlb:=hb.vals;unfold H7;rw[Bc (DX (t:=λv=>bO (IG b v) false) (l:=a.fValues) (λi h0 hi=>?_) (λi hi=>by unfold DK;rw[AQ (Xz hi)]) (by omega)),HY]
 ·unfold Ez;rw[JV]
  cases List.any a.fValues _<;>rfl
 ·have hm:=Gx h0 hi;have hck:=ha.val _ hm;unfold DK;rw[Ba (X4 hi),B6 h0 hi,Lp hck (by omega) (by omega) hK,Kr hck (hv _ hm),Ko hck (hv _ hm)];refine(Pg (λq=>Bj i q) _ _ _ _ _ _ _).trans ?_;unfold Bj;rw[AT (by omega) (by omega)];exact E2
theorem Ol (ha:FA K a)(hb:FA K b)(hv:∀v∈b.fValues,Dv v=0){F:Nat}(hF:4*K+2000<F):H8 F a b=some (!b.fValues.any (IH a)):=by
 have hK:=ha.K2;have hl:=ha.vals;have hlb:=hb.vals;unfold H8;rw[Bc (DX (t:=λv=>bO (IH a v) false) (l:=b.fValues) (λi h0 hi=>?_) (λi hi=>by unfold DL;rw[AQ (Xz hi)]) (by omega)),HY]
 ·unfold E0;rw[JV]
  cases List.any b.fValues _<;>rfl
 ·have hm:=Gx h0 hi;have hck:=hb.val _ hm;unfold DL;rw[Ba (X4 hi),B6 h0 hi,Lp hck (by omega) (by omega) hK,Kr hck (hv _ hm),Ko hck (hv _ hm)];simp only[Option.isSome_some,Mv,CD,CN];rw[AT (by omega) (by omega)];exact E2
theorem Sb (ha:FA K a)(hb:FA K b){F:Nat}(hF:4*K+2000<F):M1 F b a=some (!b.fValues.any λv=>!HX v a.fValues):=by
 have hK:=ha.K2;have hl:=ha.vals;have hlb:=hb.vals;have:PB F b.fValues a=some (b.fValues.any λv=>!HX v a.fValues):=by
  unfold PB QW;refine Ek (λi h0 hi=>?_) (λi hi=>by unfold Hu;rw[AQ (Xz hi)]) (by omega);unfold Hu UQ;rw[Ba (X4 hi),B6 h0 hi,KI (by omega) (by omega) hK ha.val,Bc rfl,Bc rfl,AT (by omega) (by omega)];exact E2
 unfold M1;rw[this,Bc rfl]
theorem RZ (ha:FA K a)(hb:FA K b){F:Nat}(hF:4*K+2000<F):M0 F a b=some (!a.fValues.any λv=>HX v b.fValues):=by
 have hK:=ha.K2;have hl:=ha.vals;have hlb:=hb.vals;have:PA F a.fValues b=some (a.fValues.any λv=>HX v b.fValues):=by
  unfold PA QV;refine Ek (λi h0 hi=>?_) (λi hi=>by unfold Ht;rw[AQ (Xz hi)]) (by omega);unfold Ht UP;rw[Ba (X4 hi),B6 h0 hi,KI (by omega) (by omega) hK hb.val,Bc rfl,Bc rfl,AT (by omega) (by omega)];exact E2
 unfold M0;rw[this,Bc rfl]
theorem RY (hb:FA K b)(hv:∀v∈b.fValues,Dv v=0){F:Nat}(hF:4*K+2000<F):Mz F b a=some (!b.fValues.any λv=>KM v a.fText):=by
 have hlb:=hb.vals;have:P9 F b.fValues a=some (b.fValues.any λv=>KM v a.fText):=by
  unfold P9 QU;refine Ek (λi h0 hi=>?_) (λi hi=>by unfold Hq;rw[AQ (Xz hi)]) (by omega);have hm:=Gx h0 hi;unfold Hq UO;rw[Ba (X4 hi),B6 h0 hi,M4 (hb.val _ hm) (hv _ hm),Bc rfl,Bc rfl,AT (by omega) (by omega)];exact E2
 unfold Mz;rw[this,Bc rfl]
theorem RX (hb:FA K b)(hv:∀v∈b.fValues,Dv v=0){F:Nat}(hF:4*K+2000<F):My F b a=some (!b.fValues.any λv=>Jo v a.fLow a.fHigh):=by
 have hlb:=hb.vals;have:P8 F b.fValues a=some (b.fValues.any λv=>Jo v a.fLow a.fHigh):=by
  unfold P8 QT;refine Ek (λi h0 hi=>?_) (λi hi=>by unfold Hp;rw[AQ (Xz hi)]) (by omega);have hm:=Gx h0 hi;unfold Hp UN;rw[Ba (X4 hi),B6 h0 hi,Mx (hb.val _ hm) (hv _ hm),Bc rfl,Bc rfl,AT (by omega) (by omega)];exact E2
 unfold My;rw[this,Bc rfl]
theorem TC (ha:FA K a)(hb:FA K b){F:Nat}(hF:4*K+2000<F):Px F a b=some (decide (a.fOp=3)&&!a.fValues.any λv=>!HX v b.fValues):=by
 have hK:=ha.K2;have hl:=ha.vals;have hlb:=hb.vals;have:PE F a.fValues b=some (a.fValues.any λv=>!HX v b.fValues):=by
  unfold PE QZ;refine Ek (λi h0 hi=>?_) (λi hi=>by unfold Hx;rw[AQ (Xz hi)]) (by omega);unfold Hx UU UM;rw[Ba (X4 hi),B6 h0 hi,KI (by omega) (by omega) hK hb.val,Bc rfl,Bc rfl,Bc rfl,AT (by omega) (by omega)];exact E2
 unfold Px;rw[this]
 cases decide (a.fOp=3)<;>rfl
theorem TB (ha:FA K a)(hv:a.fOp=3→∀v∈a.fValues,Dv v=0){F:Nat}(hF:4*K+2000<F):N0 F a b=some (decide (a.fOp=3)&&!a.fValues.any λv=>!KM v b.fText):=by
 have hl:=ha.vals;unfold N0
 cases h3:decide (a.fOp=3) with
 | false=>rfl
 | true=>
  have:PD F a.fValues b=some (a.fValues.any λv=>!KM v b.fText):=by
   unfold PD QY;refine Ek (λi h0 hi=>?_) (λi hi=>by unfold Hw;rw[AQ (Xz hi)]) (by omega);have hm:=Gx h0 hi;unfold Hw UT UL;rw[Ba (X4 hi),B6 h0 hi,M4 (ha.val _ hm) (hv (XH h3) _ hm),Bc rfl,Bc rfl,Bc rfl,AT (by omega) (by omega)];exact E2
  rw[this];rfl
theorem TA (ha:FA K a)(hv:a.fOp=3→∀v∈a.fValues,Dv v=0){F:Nat}(hF:4*K+2000<F):M5 F a b=some (decide (a.fOp=3)&&!a.fValues.any λv=>!Jo v b.fLow b.fHigh):=by
 have hl:=ha.vals;unfold M5
 cases h3:decide (a.fOp=3) with
 | false=>rfl
 | true=>
  have:PC F a.fValues b=some (a.fValues.any λv=>!Jo v b.fLow b.fHigh):=by
   unfold PC QX;refine Ek (λi h0 hi=>?_) (λi hi=>by unfold Hv;rw[AQ (Xz hi)]) (by omega);have hm:=Gx h0 hi;unfold Hv US UK;rw[Ba (X4 hi),B6 h0 hi,Mx (ha.val _ hm) (hv (XH h3) _ hm),Bc rfl,Bc rfl,Bc rfl,AT (by omega) (by omega)];exact E2
  rw[this];rfl
theorem TP (b:Ah)(h:b.fOp=3):IG b=λv=>!HX v b.fValues:=by funext v;simp[IG,Ss,h]
theorem Wd (b:Ah)(h:b.fOp=4):IG b=λv=>HX v b.fValues:=by funext v;simp[IG,Ss,h]
theorem Wc (b:Ah)(h:b.fOp=5):IG b=λv=>!KM v b.fText:=by funext v;simp[IG,Ss,h]
theorem Wb (b:Ah)(h:b.fOp=6):IG b=λv=>!Jo v b.fLow b.fHigh:=by funext v;simp[IG,Ss,h]
theorem Wg (a:Ah)(h:a.fOp=1):IH a=λv=>true:=by funext v;simp[IH,h]
theorem TQ (a:Ah)(h:a.fOp=4):IH a=λv=>!HX v a.fValues:=by funext v;simp[IH,h]
theorem Wf (a:Ah)(h:a.fOp=5):IH a=λv=>KM v a.fText:=by funext v;simp[IH,h]
theorem We (a:Ah)(h:a.fOp=6):IH a=λv=>Jo v a.fLow a.fHigh:=by funext v;simp[IH,h]
theorem TT {α:Type}{l:List α}(h:0<l.length):(l.any λ_=>true)=true:=by
 cases l with
 | nil=>simp at h
 | cons x r=>rfl
theorem Pv (ha:FA K a)(hb:FA K b)(ca:Ii a=0)(cb:Ii b=0){F:Nat}(hF:4*K+2000<F):I9 F a b=some (SQ a b):=by
 have oa:=Ou ca;have ob:=Ou cb;have va:a.fOp=3→∀v∈a.fValues,Dv v=0:=λh=>(Jb ca (.inl h)).2;unfold I9 SQ;rw[TC ha hb hF,TB ha va hF,TA ha va hF];have hcases:b.fOp=1∨b.fOp=2∨b.fOp=3∨b.fOp=4∨b.fOp=5∨b.fOp=6:=by omega
 have acases:a.fOp=1∨a.fOp=2∨a.fOp=3∨a.fOp=4∨a.fOp=5∨a.fOp=6:=by omega
 rcases hcases with h | h | h | h | h | h
 ·rw[h];rcases acases with h' | h' | h' | h' | h' | h'<;>rw[h']<;>rfl
 ·rw[h];rcases acases with h' | h' | h' | h' | h' | h'<;>rw[h']<;>rfl
 ·rw[TP b h,h];rcases acases with h' | h' | h' | h' | h' | h'<;>rw[h']<;>rfl
 ·have vb:=Jb cb (.inr h);unfold IZ;rw[Sb ha hb hF,RZ ha hb hF,RY hb vb.2 hF,RX hb vb.2 hF,Wd b h,h];rcases acases with h' | h' | h' | h' | h' | h'
  ·rw[Wg a h',h',TT vb.1];rfl
  ·rw[h'];rfl
  ·rw[h'];rfl
  ·rw[TQ a h',h'];rfl
  ·rw[Wf a h',h'];rfl
  ·rw[We a h',h'];rfl
 ·rw[Wc b h,Nw,h];rcases acases with h' | h' | h' | h' | h' | h'
  ·rw[h'];rfl
  ·rw[h'];rfl
  ·rw[h'];rfl
  ·rw[h'];rfl
  ·rw[h'];show AO (Ml a.fText b.fText) (some true) (some false)=some (Ml a.fText b.fText)
   cases Ml a.fText b.fText<;>rfl
  ·rw[h'];rfl
 ·rw[Wb b h,h];rcases acases with h' | h' | h' | h' | h' | h'
  ·rw[h'];rfl
  ·rw[h'];rfl
  ·rw[h'];rfl
  ·rw[h'];rfl
  ·rw[h'];rfl
  ·rw[h'];show AO (decide (b.fLow≤a.fLow)) (AO (decide (a.fHigh≤b.fHigh)) (some true) (some false)) (some false)=some (decide (b.fLow≤a.fLow)&&decide (a.fHigh≤b.fHigh))
   cases decide (b.fLow≤a.fLow)<;>cases decide (a.fHigh≤b.fHigh)<;>rfl
theorem Ll (ha:FA K a)(hb:FA K b){F:Nat}(hF:4*K+2000<F):Bk F a b=some (RU a b):=by
 have hpa:=ha.path;have hpb:=hb.path;unfold Bk RU;rw[KG ha (by omega),KG hb (by omega),CD (by rfl),IF,CN,CN]
 cases hca:decide (Ii a=0) with
 | false=>rfl
 | true=>
  cases hcb:decide (Ii b=0) with
  | false=>rfl
  | true=>
   have ca:=XH hca;have cb:=XH hcb;rw[AQ (by rfl),XB,XB,QF (by omega) (by omega),Bc rfl,Pv ha hb ca cb hF,Lm (by omega) (by omega),Lm (by omega) (by omega)];unfold OJ VU
   by_cases h1:a.fPath=b.fPath
   ·rw[X4 h1,Ba (by rfl),Bc rfl,h1,Xz (Nat.lt_irrefl _),X4 (XG _),Yg,X4 rfl];rfl
   ·rw[Xz h1,AQ (by rfl),Bc rfl,Bc rfl]
    by_cases h2:b.fPath.length<a.fPath.length
    ·rw[X4 h2,X4 (show b.fPath.length≤a.fPath.length by omega),Xz (show ¬ a.fPath.length<b.fPath.length by omega)]
     cases decide (a.fPath.take b.fPath.length=b.fPath)<;>rfl
    ·by_cases h3:a.fPath.length<b.fPath.length
     ·rw[Xz h2,X4 h3,X4 (show a.fPath.length≤b.fPath.length by omega)]
      cases decide (b.fPath.take a.fPath.length=a.fPath)<;>rfl
     ·have h4:a.fPath.length=b.fPath.length:=by omega
      rw[Xz h2,Xz h3,X4 (show b.fPath.length≤a.fPath.length by omega),← h4,Yg,Xz h1];rfl
theorem Na (ha:FA K a)(hb:FA K b){F:Nat}(hF:4*K+2000<F):Bz F a b=some (RU a b):=by
 have hpa:=ha.path;have hpb:=hb.path;unfold Bz RU;rw[Lo ha (by omega),Lo hb (by omega),CD (by rfl),IF,CN,CN]
 cases hca:decide (Ii a=0) with
 | false=>rfl
 | true=>
  cases hcb:decide (Ii b=0) with
  | false=>rfl
  | true=>
   have ca:=XH hca;have cb:=XH hcb;have e1:decide ((b.fPath.length:Int)<(a.fPath.length:Int))=decide (b.fPath.length<a.fPath.length):=by rw[XE];simp
   have e2:decide ((a.fPath.length:Int)<(b.fPath.length:Int))=decide (a.fPath.length<b.fPath.length):=by rw[XE];simp
   rw[AQ (by rfl),XB,XB,Kq (by omega) (by omega),Kq (by omega) (by omega),CD (by rfl),CD (by rfl),CN,CN,e1,e2]
   cases decide (b.fPath.length<a.fPath.length) with
   | true=>rfl
   | false=>
    rw[AQ (by rfl),X2]
    cases decide (a.fPath.length<b.fPath.length) with
    | true=>rfl
    | false=>
     rw[AQ (by rfl),X2,Bc rfl]
     cases OJ a.fPath b.fPath with
     | false=>rfl
     | true=>
      rw[AQ (by rfl),XB];unfold SQ
      cases h1:(decide (b.fOp=1)||(decide (b.fOp=2)||decide (a.fOp=2))) with
      | true=>rfl
      | false=>
       rw[AQ (by rfl),X2]
       cases h3:decide (a.fOp=3) with
       | true=>rw[Ba (by rfl),X8,Ok ha hb (Jb ca (.inl (XH h3))).2 hF,Bc rfl]
       | false=>
        rw[AQ (by rfl),X2]
        cases h4:decide (b.fOp=4) with
        | true=>rw[Ba (by rfl),X8,Ol ha hb (Jb cb (.inr (XH h4))).2 hF,Bc rfl]
        | false=>
         rw[AQ (by rfl),X2,M7,CN,IF]
         cases decide (b.fOp=5)<;>rfl
theorem Tn {x:List Aa}{l:List (List Aa)}:HX x l=true↔x∈l:=by
 unfold HX;simp
theorem Tw (a:Ah):RU a a=decide (Ii a=0):=by
 unfold RU
 cases hc:decide (Ii a=0) with
 | false=>rfl
 | true=>
  have oa:=Ou (XH hc);rw[XB,XB,Xz (Nat.lt_irrefl _),X2,X2];unfold OJ;rw[X4 (XG _),Yg,X4 rfl,XB,XB];have acases:a.fOp=1∨a.fOp=2∨a.fOp=3∨a.fOp=4∨a.fOp=5∨a.fOp=6:=by omega
  have hall:(a.fValues.any λv=>!HX v a.fValues)=false:=by
   cases h:a.fValues.any λv=>!HX v a.fValues with
   | false=>rfl
   | true=>
    obtain⟨v,hv,h2⟩:=List.any_eq_true.1 h;rw[Tn.2 hv] at h2;cases h2
  unfold SQ;rcases acases with h | h | h | h | h | h
  ·rw[h];rfl
  ·rw[h];rfl
  ·rw[TP a h,hall,h];rfl
  ·rw[TQ a h,hall,h];rfl
  ·rw[h];show Ml a.fText a.fText=true;unfold Ml;simp
  ·rw[h];show(decide (a.fLow≤a.fLow)&&decide (a.fHigh≤a.fHigh))=true;simp
end
def Vz (v:List Aa):Bool:=!decide (300<(v.length:Int))&&v.all λc=>!decide (5000<(c.fStr.length:Int))
def V0 (f:Ah):Bool:=!(decide (10<(f.fPath.length:Int))||(decide (20<(f.fValues.length:Int))||decide (1000<(f.fText.length:Int))))&&(f.fPath.all (λs=>!decide (1000<(s.length:Int)))&&f.fValues.all Vz)
def Xn (l:List Ah):Bool:=!decide (40<(l.length:Int))&&l.all V0
theorem Vh {α:Type}{p:α→Bool}(l:List α):(bif l.any (λa=>!p a) then false else true)=l.all p:=by
 rw[List.all_eq_not_any_not];cases l.any _<;>rfl
theorem Rk {α:Type}{p:α→Bool}(l:List α):(l.all λa=>!p a) = !l.any p:=by
 induction l with
 | nil=>rfl
 | cons a r ih=>rw[List.all_cons,List.any_cons,ih,Bool.not_or]
theorem KJ {F:Nat}{v:List Aa}(hF:300<F):DY F v=some (Vz v):=by
 unfold DY Vz
 cases h:decide (300<(v.length:Int)) with
 | true=>rfl
 | false=>
  simp only[Xy] at h;rw[AQ (by rfl),Bc (DX (t:=λc:Aa=>bO (decide (5000<(c.fStr.length:Int))) false) (l:=v) (λi h0 hi=>?_) (λi hi=>by unfold CQ;rw[AQ (Xz hi)]) (by omega)),HY]
  ·unfold Do;rw[JV,XJ,XB,Rk]
   cases List.any v _<;>rfl
  ·unfold CQ;rw[Ba (X4 hi),B6 h0 hi,AT (by omega) (by omega)];exact E2
theorem Ln {F:Nat}{f:Ah}(hF:300<F):De F f=some (V0 f):=by
 unfold De V0
 cases h:(decide (10<(f.fPath.length:Int))||(decide (20<(f.fValues.length:Int))||decide (1000<(f.fText.length:Int)))) with
 | true=>rfl
 | false=>
  simp only[XI,Xy] at h;rw[AQ (by rfl),XJ,XB,Bc (DX (t:=λs:Aw=>bO (decide (1000<(s.length:Int))) false) (l:=f.fPath) (λi h0 hi=>?_) (λi hi=>by unfold Eo;rw[AQ (Xz hi)]) (by omega)),HY]
  ·have h2:Em F f=some (f.fValues.all Vz):=by
    unfold Em;rw[Bc (DX (t:=λv=>bO (!Vz v) false) (l:=f.fValues) (λi h0 hi=>?_) (λi hi=>by unfold En;rw[AQ (Xz hi)]) (by omega)),HY]
    ·unfold EJ;rw[JV,Vh]
    ·unfold En;rw[Ba (X4 hi),B6 h0 hi,KJ hF,Bc rfl,AT (by omega) (by omega)];exact E2
   rw[h2,Rk]
   cases List.any f.fPath _<;>rfl
  ·unfold Eo;rw[Ba (X4 hi),B6 h0 hi,AT (by omega) (by omega)];exact E2
def Wt (y:Ah):Bool:=(λys:(List Aw)=>ys.all Uy&&decide (ys.length≤9223372036854775807)) y.fPath&&(BN .i64) y.fOp&&(λys:(List (List Aa))=>ys.all (λys:(List Aa)=>ys.all Mm&&decide (ys.length≤9223372036854775807))&&decide (ys.length≤9223372036854775807)) y.fValues&&Uy y.fText&&(BN .i64) y.fLow&&(BN .i64) y.fHigh
theorem G1.sm {v:List Aa}(hs:Vz v=true)(hc:v.all Mm=true):G1 5000 v:=by
 unfold Vz at hs;simp only[X1,XD,Xy,XU] at hs hc;refine⟨by decide,by omega,λc h=>?_⟩;have h1:=hs.2 c h;have h2:=hc c h;unfold Mm at h2;simp only[X1] at h2;exact⟨by omega,h2.1.1.2,(GF h2.2).2⟩
theorem FA.sm {f:Ah}(hs:V0 f=true)(ho:Wt f=true):FA 5000 f:=by
 unfold V0 at hs;unfold Wt at ho;simp only[X1,XD,XI,Xy,XU] at hs ho;obtain⟨⟨a1,a2,a3⟩,a4,a5⟩:=hs;refine⟨by omega,λs h=>?_,by omega,λv h=>G1.sm (a5 v h) ?_,by omega,by decide,by decide⟩
 ·have:=a4 s h;omega
 ·have:=(ho.1.1.1.2.1 v h).1;exact List.all_eq_true.2 this
theorem FAs.sm {l:List Ah}(hs:Xn l=true)(ho:l.all Wt=true):(∀f∈l,FA 5000 f)∧l.length≤40:=by
 unfold Xn at hs;simp only[X1,XD,Xy,XU] at hs ho;exact⟨λf h=>FA.sm (hs.2 f h) (ho f h),by omega⟩
theorem TR:Gt 40000=some true:=by decide +kernel
end Go.Proofs.YtghdglcmblpbeaaGreatDoor
namespace Go.Proofs.YtghdglcmblpbeaaGreatDoor
open Go
set_option linter.unusedVariables false
set_option linter.unusedSimpArgs false
theorem Oa {a b:Ah}(ha:Wt a=true)(hb:Wt b=true):I8 40000 a b=some true:=by
 unfold I8;rw[Ln (by omega),Ln (by omega),TR,CD (by rfl),IF,CN,CN]
 cases h1:V0 a with
 | false=>rfl
 | true=>
  cases h2:V0 b with
  | false=>rfl
  | true=>
   have fa:=FA.sm h1 ha;have fb:=FA.sm h2 hb;rw[AQ (by rfl),Ll fa fb (by omega),Na fa fb (by omega),Ll fa fa (by omega),KG fa (by omega),Tw];simp only[Option.isSome_some,Mv,CD,CN,decide_true,BEq.rfl,Bool.and_self]
   by_cases hc:Ii a=0<;>simp[hc]
end Go.Proofs.YtghdglcmblpbeaaGreatDoor
namespace Go.Proofs.YtghdglcmblpbeaaGreatDoor.lawFilterDecides
open Go
theorem Xp:Xt:=λ_ _ h1 h2=>⟨40000,Oa h1 h2⟩
end Go.Proofs.YtghdglcmblpbeaaGreatDoor.lawFilterDecides
