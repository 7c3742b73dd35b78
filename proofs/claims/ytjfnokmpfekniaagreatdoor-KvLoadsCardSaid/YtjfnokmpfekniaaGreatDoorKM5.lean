/-
  Texts of the proof, put together: WKe, PKf, WKf, OkKvLoads, LhA, LhB, LvA, LvB, LvC, LvD, LvE, LvF, LvG, LvH, LvI, LvJ, LvK, LvL, LvM, LvN, LvO, LvP, LsA, LrA, LdA, LdB, LdC, LdD, LdE, LdF, LdG.
-/
import Derived.Test.YtjfnokmpfekniaaGreatDoorKM4
import GoSem.ClaimData
namespace Go.Proofs.YtjfnokmpfekniaaGreatDoor.Q
open Go Go.RowKit
set_option linter.unusedVariables false
set_option linter.unusedSimpArgs false
set_option maxRecDepth 100000
set_option maxHeartbeats 4000000
theorem Ek.agg {rs qs:List Rp}(h:Aam rs qs):Ek (BC rs) (BC qs):=λZ v ⟨us,e,hu⟩=>⟨us,e,h.all hu⟩
theorem Wp (F:Nat)(body:Af)(r:Ae×Bool)(h:Mg F body=some r):Fn Tryz.prog GE 54 [rS body] [] (λR H=>R=Ct [BC (An r.1),rB r.2]∧H=[]):=by
 refine enter (n:=82) Tryz.func54 rfl Tryz.ntmps54 rfl (λw Z=>?_);unfold Mg at h;refine Ad (Cd (cs:=[rS ([]:Af),rB false,rv (.slice none 0 0),Al 0]) Ke rfl rfl (λb1=>?_));refine wa rfl (Bm (wm rfl (ob h λr2 e4 h3=>Cu Tryz.call76 (Ud F body r2 e4) rfl (wm rfl (wv (AB rfl rfl) (wv (AB rfl rfl) (wa rfl (wa rfl (Ak (Ai (A8 [(2,rP b1 0),(4,AX 1 (AE eS r2.1)),(20,rB ((!decide (r2.2=0))||(!decide ((r2.1.length:Int)=4))))] [.blk b1 [rS ([]:Af),rB false,rv (.slice none 0 0),Al 0] 50] ?_ ?_)))))))))))
 ·refine Ag (wm rfl (wv (CV rfl rfl) (wm rfl (AN (!decide (r2.2=0)) (λc5=>?_) (λc5=>?_)))))
  ·refine wf c5 (wf c5 (wf c5 (wv (r:=rB true) (A1 rfl c5 rfl) (Aj ?_))));exact Ca c5
  ·refine wo c5 (wm rfl (wo c5 (wv (Bv (ys:=r2.1) (enc:=eS) De rfl) (wo c5 (wv (CV rfl rfl) (Et rfl c5 rfl (Aj ?_)))))));exact Ca c5
 refine cz h3 rfl (λc6 h7=>?_) (λc6 h8=>?_)
 ·refine Ad (wv (r:=BC [rS ([]:Af),rB false,rv (.slice none 0 0),Al 0]) (LA ) (Bp (i:=0) C3 rfl rfl rfl (BM.c rfl) rfl rfl (cs':=[rS ([]:Af),rB false,rv (.slice none 0 0),Al 0]) rfl (H':=[.blk b1 [rS ([]:Af),rB false,rv (.slice none 0 0),Al 0] 50]) rfl (wa rfl (Ak (As (Ac (WK.upBlk (i:=0) (cs':=[rS ([]:Af),rB false,AX 4 (AE Ab ([]:List Aa)),Al 0]) rfl ⟨Up.refl _,Up.refl _,Up.le (Ek.nil _),Up.refl _,trivial⟩ ?_)))))));obtain rfl:=Au h7;exact Ar (C6 Aav (Gx (i:=0) GI C3 rfl rfl rfl) (A7 rfl)) (sS sN) ⟨rfl,rfl⟩
 ·refine Am (AJ (Ad (wm rfl (ck h8 λg9 hi=>wv (By (enc:=eS) (ys:=r2.1) De Da rfl rfl g9) (wv (Bn DE rfl rfl) (ck hi λhj hk=>I2 (rs:=[rS (Aq r2.1 3)]) (r:=Ct [Al (AL (Aq r2.1 3)),Al (BI (Aq r2.1 3))]) Tryz.call77 rfl (Y2 (Aq r2.1 3) hj) rfl rfl (wm rfl (wv (AB rfl rfl) (wv (AB rfl rfl) (wa rfl (wa rfl (Ak (Ai (ck hk λhl hm=>ck hm λg15 hn=>H9 10 [2,4,5,6] [⟨[],AX 1 (AE eS r2.1),none,none,none⟩,⟨[0],I1 [rS (Aq r2.1 0)],none,none,none⟩,⟨[1],rS (Aq r2.1 0),none,none,none⟩,⟨[],AX 1 (AE eS r2.1),none,none,none⟩,⟨[3],I1 [rS (Aq r2.1 1)],none,none,none⟩,⟨[4],rS (Aq r2.1 1),none,none,none⟩,⟨[5],rB (decide ((Aq r2.1 1)=([49]:Af))),none,none,none⟩,⟨[],Al (AL (Aq r2.1 3)),none,none,none⟩,⟨[2,6,7],BC [rS (Aq r2.1 0),rB (decide ((Aq r2.1 1)=([49]:Af))),rv (.slice none 0 0),Al (AL (Aq r2.1 3))],none,none,none⟩,⟨[],rv undef,some ([rS ([]:Af),rB false,rv (.slice none 0 0),Al 0],50),none,none⟩] ?_ (λβ=>?_)))))))))))))))
  ·refine G5 (Ap rfl) (G5 (By (enc:=eS) (ys:=r2.1) De Da rfl rfl hl) (G5 (Bn DE rfl rfl) (G5 (Ap rfl) (G5 (By (enc:=eS) (ys:=r2.1) De Da rfl rfl g15) (G5 (Bn DE rfl rfl) (G5 (El rfl rfl) (G5 (Ap rfl) (G5 (Hv rfl rfl rfl rfl rfl rfl) (oal (AbV (cs:=[rS ([]:Af),rB false,rv (.slice none 0 0),Al 0]) Ke rfl) ?_)))))))));exact oae
  refine IG (H1:=[.blk b1 [rS ([]:Af),rB false,rv (.slice none 0 0),Al 0] 50,.blk (β 9) [rS ([]:Af),rB false,rv (.slice none 0 0),Al 0] 50]) [29,30,31,32,33,34,35,36,37,7,2,4,5,6] ?_;generalize β 9=hd;refine Bp (i:=1) C3 rfl rfl rfl (BM.c rfl) rfl rfl (cs':=[rS (Aq r2.1 0),rB (decide ((Aq r2.1 1)=([49]:Af))),rv (.slice none 0 0),Al (AL (Aq r2.1 3))]) rfl (H':=[.blk b1 [rS ([]:Af),rB false,rv (.slice none 0 0),Al 0] 50,.blk hd [rS (Aq r2.1 0),rB (decide ((Aq r2.1 1)=([49]:Af))),rv (.slice none 0 0),Al (AL (Aq r2.1 3))] 50]) rfl (Ak (Ai (A8 [(2,rP b1 0),(4,AX 1 (AE eS r2.1)),(7,rP hd 0),(51,rB ((!decide ((BI (Aq r2.1 3))=0))||((!decide ((Aq r2.1 1)=([48]:Af)))&&(!decide ((Aq r2.1 1)=([49]:Af))))))] [.blk b1 [rS ([]:Af),rB false,rv (.slice none 0 0),Al 0] 50,.blk hd [rS (Aq r2.1 0),rB (decide ((Aq r2.1 1)=([49]:Af))),rv (.slice none 0 0),Al (AL (Aq r2.1 3))] 50] ?_ ?_)))
  ·refine Ag (wm rfl (wv (CV rfl rfl) (wm rfl (AN (!decide ((BI (Aq r2.1 3))=0)) (λhb=>?_) (λhb=>?_)))))
   ·refine wf hb (wf hb (wf hb (wf hb (wf hb (wu (wu (wu (wu (wf hb (wv (r:=rB true) (A1 rfl hb rfl) (Aj ?_)))))))))));exact Ca hb
   ·refine wo hb (wm rfl (wo hb (wv (By (enc:=eS) (ys:=r2.1) De Da rfl rfl g15) (wo hb (wv (Bn DE rfl rfl) (wo hb (wv (JS rfl rfl) (wo hb (wm rfl (AN (!decide ((Aq r2.1 1)=([48]:Af))) (λhe=>?_) (λhe=>?_)))))))))))
    ·refine wo he (wm rfl (wo he (wv (By (enc:=eS) (ys:=r2.1) De Da rfl rfl g15) (wo he (wv (Bn DE rfl rfl) (wo he (wv (JS rfl rfl) (wo hb (Es rfl he rfl (Et rfl hb rfl (Aj ?_)))))))))));exact Ca (And.intro hb he)
    ·refine wf he (wf he (wf he (wf he (wo hb (wv (r:=rB false) (A6 rfl he rfl) (Et rfl hb rfl (Aj ?_)))))));exact Ca (And.intro hb he)
  refine cz hn rfl (λc20 ho=>?_) (λc20 hp=>?_)
  ·refine Ad (wv (B5 (i:=1) GI C3 rfl rfl rfl rfl) (Bp (i:=0) C3 rfl rfl rfl (BM.c rfl) rfl rfl (cs':=[rS (Aq r2.1 0),rB (decide ((Aq r2.1 1)=([49]:Af))),rv (.slice none 0 0),Al (AL (Aq r2.1 3))]) rfl (H':=[.blk b1 [rS (Aq r2.1 0),rB (decide ((Aq r2.1 1)=([49]:Af))),rv (.slice none 0 0),Al (AL (Aq r2.1 3))] 50,.blk hd [rS (Aq r2.1 0),rB (decide ((Aq r2.1 1)=([49]:Af))),rv (.slice none 0 0),Al (AL (Aq r2.1 3))] 50]) rfl (wa rfl (Ak (As (Ac (WK.upBlk (i:=0) (cs':=[rS (Aq r2.1 0),rB (decide ((Aq r2.1 1)=([49]:Af))),AX 4 (AE Ab ([]:List Aa)),Al (AL (Aq r2.1 3))]) rfl ⟨Up.refl _,Up.refl _,Up.le (Ek.nil _),Up.refl _,trivial⟩ ?_)))))));obtain rfl:=Au ho;exact Ar (C6 Aav (Gx (i:=0) GI C3 rfl rfl rfl) (A7 rfl)) (sS (sS sN)) ⟨rfl,rfl⟩
  ·refine Am (AJ (Ai (Ad (vF D2 rfl Hu (vL 1 NZ rfl (Ak (cz hp rfl (λhq hr=>?_) (λhq hs=>?_))))))))
   ·refine ck hr λhh ht=>ck ht λhu hw=>A8 [(2,rP b1 0),(3,rB ((decide ((Aq r2.1 2)=([]:Af)))&&(decide ((ov (Dq F (Ae.mk (Aq r2.1 0) (decide ((Aq r2.1 1)=([49]:Af))) ([]:(List Aa)) (AL (Aq r2.1 3)))))=0))))] [.blk b1 [rS (Aq r2.1 0),rB (decide ((Aq r2.1 1)=([49]:Af))),rv (.slice none 0 0),Al (AL (Aq r2.1 3))] 50] ?_ ?_
    ·refine AN (decide ((Aq r2.1 2)=([]:Af))) (λhf=>?_) (λhf=>?_)
     ·refine Gk (H1:=[.blk b1 [rS (Aq r2.1 0),rB (decide ((Aq r2.1 1)=([49]:Af))),rv (.slice none 0 0),Al (AL (Aq r2.1 3))] 50,.blk hd [rS (Aq r2.1 0),rB (decide ((Aq r2.1 1)=([49]:Af))),rv (.slice none 0 0),Al (AL (Aq r2.1 3))] 50]) [2,4,7] [⟨[],BC [rS (Aq r2.1 0),rB (decide ((Aq r2.1 1)=([49]:Af))),rv (.slice none 0 0),Al (AL (Aq r2.1 3))],1⟩,⟨[],AX 1 (AE eS r2.1),0⟩,⟨[1],I1 [rS (Aq r2.1 2)],0⟩,⟨[2],rS (Aq r2.1 2),0⟩,⟨[3],rB (decide ((Aq r2.1 2)=([]:Af))),0⟩,⟨[4],rB (decide ((Aq r2.1 2)=([]:Af))),0⟩,⟨[5],BC [rS (Aq r2.1 0),rB (decide ((Aq r2.1 1)=([49]:Af))),rv (.slice none 0 0),Al (AL (Aq r2.1 3))],1⟩,⟨[6,5],Al (ov (Dq F (Ae.mk (Aq r2.1 0) (decide ((Aq r2.1 1)=([49]:Af))) ([]:(List Aa)) (AL (Aq r2.1 3))))),0⟩,⟨[7,5],rB (decide ((ov (Dq F (Ae.mk (Aq r2.1 0) (decide ((Aq r2.1 1)=([49]:Af))) ([]:(List Aa)) (AL (Aq r2.1 3)))))=0)),0⟩,⟨[5,8],rB (decide ((ov (Dq F (Ae.mk (Aq r2.1 0) (decide ((Aq r2.1 1)=([49]:Af))) ([]:(List Aa)) (AL (Aq r2.1 3)))))=0)),0⟩,⟨[0],rv undef,2⟩,⟨[9],rB (decide ((ov (Dq F (Ae.mk (Aq r2.1 0) (decide ((Aq r2.1 1)=([49]:Af))) ([]:(List Aa)) (AL (Aq r2.1 3)))))=0)),0⟩] (rle [(11,_),(2,[.blk b1 [rS (Aq r2.1 0),rB (decide ((Aq r2.1 1)=([49]:Af))),rv (.slice none 0 0),Al (AL (Aq r2.1 3))] 50,.blk hd [rS (Aq r2.1 0),rB (decide ((Aq r2.1 1)=([49]:Af))),rv (.slice none 0 0),Al (AL (Aq r2.1 3))] 50])]) [3,2] ?_ ?_
      ·refine of (B5 (i:=1) GI C3 rfl rfl rfl rfl) (oq (Ap rfl) (oq (By (enc:=eS) (ys:=r2.1) De Da rfl rfl hh) (oq (Bn DE rfl rfl) (oq (El rfl rfl) (oq (Ap rfl) (on hf (of (B5 (i:=1) GI C3 rfl rfl rfl rfl) (EY rfl (λH=>Qs (b:=decide ((Aq r2.1 2)=([]:Af))) rfl rfl hf (Jj (rs:=[BC [rS (Aq r2.1 0),rB (decide ((Aq r2.1 1)=([49]:Af))),rv (.slice none 0 0),Al (AL (Aq r2.1 3))]]) (r:=Al (ov (Dq F (Ae.mk (Aq r2.1 0) (decide ((Aq r2.1 1)=([49]:Af))) ([]:(List Aa)) (AL (Aq r2.1 3)))))) Tryz.call60 rfl (Fn.args (OP F (Ae.mk (Aq r2.1 0) (decide ((Aq r2.1 1)=([49]:Af))) ([]:(List Aa)) (AL (Aq r2.1 3))) (ov (Dq F (Ae.mk (Aq r2.1 0) (decide ((Aq r2.1 1)=([49]:Af))) ([]:(List Aa)) (AL (Aq r2.1 3))))) (HI (Cz hu hf))) ⟨(Ek.agg ⟨Ek.refl _,Ek.refl _,Ek.nil _,Ek.refl _,trivial⟩),trivial⟩) rfl)) ?_))))))));refine on hf (oq (B3 rfl rfl) (oq (A1 rfl hf rfl) (I4 rfl (NQ (C9 (i:=0) C3 rfl rfl rfl (BM.c rfl) rfl rfl (cs':=[rS (Aq r2.1 0),rB (decide ((Aq r2.1 1)=([49]:Af))),rv (.slice none 0 0),Al (AL (Aq r2.1 3))]) rfl (H':=[.blk b1 [rS (Aq r2.1 0),rB (decide ((Aq r2.1 1)=([49]:Af))),rv (.slice none 0 0),Al (AL (Aq r2.1 3))] 50,.blk hd [rS (Aq r2.1 0),rB (decide ((Aq r2.1 1)=([49]:Af))),rv (.slice none 0 0),Al (AL (Aq r2.1 3))] 50]) rfl)) ?_)));refine oq (Aw rfl) ?_;exact Cp
      exact Ca hf
     ·refine Gk (H1:=[.blk b1 [rS (Aq r2.1 0),rB (decide ((Aq r2.1 1)=([49]:Af))),rv (.slice none 0 0),Al (AL (Aq r2.1 3))] 50,.blk hd [rS (Aq r2.1 0),rB (decide ((Aq r2.1 1)=([49]:Af))),rv (.slice none 0 0),Al (AL (Aq r2.1 3))] 50]) [2,4,7] [⟨[],BC [rS (Aq r2.1 0),rB (decide ((Aq r2.1 1)=([49]:Af))),rv (.slice none 0 0),Al (AL (Aq r2.1 3))],1⟩,⟨[],AX 1 (AE eS r2.1),0⟩,⟨[1],I1 [rS (Aq r2.1 2)],0⟩,⟨[2],rS (Aq r2.1 2),0⟩,⟨[3],rB (decide ((Aq r2.1 2)=([]:Af))),0⟩,⟨[4],rB (decide ((Aq r2.1 2)=([]:Af))),0⟩,⟨[5],rv undef,0⟩,⟨[6,5],rv undef,0⟩,⟨[7,5],rv undef,0⟩,⟨[5,8],rB false,0⟩,⟨[0],rv undef,2⟩,⟨[9],rB false,0⟩] (rle [(11,_),(2,[.blk b1 [rS (Aq r2.1 0),rB (decide ((Aq r2.1 1)=([49]:Af))),rv (.slice none 0 0),Al (AL (Aq r2.1 3))] 50,.blk hd [rS (Aq r2.1 0),rB (decide ((Aq r2.1 1)=([49]:Af))),rv (.slice none 0 0),Al (AL (Aq r2.1 3))] 50])]) [3,2] ?_ ?_
      ·refine of (B5 (i:=1) GI C3 rfl rfl rfl rfl) (oq (Ap rfl) (oq (By (enc:=eS) (ys:=r2.1) De Da rfl rfl hh) (oq (Bn DE rfl rfl) (oq (El rfl rfl) (oq (Ap rfl) (oz hf (oz hf (oz hf (oq (A6 (b:=decide ((Aq r2.1 2)=([]:Af))) rfl hf rfl) (I4 rfl (NQ (C9 (i:=0) C3 rfl rfl rfl (BM.c rfl) rfl rfl (cs':=[rS (Aq r2.1 0),rB (decide ((Aq r2.1 1)=([49]:Af))),rv (.slice none 0 0),Al (AL (Aq r2.1 3))]) rfl (H':=[.blk b1 [rS (Aq r2.1 0),rB (decide ((Aq r2.1 1)=([49]:Af))),rv (.slice none 0 0),Al (AL (Aq r2.1 3))] 50,.blk hd [rS (Aq r2.1 0),rB (decide ((Aq r2.1 1)=([49]:Af))),rv (.slice none 0 0),Al (AL (Aq r2.1 3))] 50]) rfl)) ?_))))))))));refine oq (Aw rfl) ?_;exact Cp
      exact Ca hf
    refine As (Ac (WK.upBlk (i:=0) (cs':=[rS (Aq r2.1 0),rB (decide ((Aq r2.1 1)=([49]:Af))),AX 4 (AE Ab ([]:List Aa)),Al (AL (Aq r2.1 3))]) rfl ⟨Up.refl _,Up.refl _,Up.le (Ek.nil _),Up.refl _,trivial⟩ ?_));obtain rfl:=Au hw;exact Ar (C6 Aav (Gx (i:=0) GI C3 rfl rfl rfl) (A7 rfl)) (sS sN) ⟨rfl,rfl⟩
   ·refine Am (AJ (Ad (wm rfl (ck hs λhx hy=>wv (By (enc:=eS) (ys:=r2.1) De Da rfl rfl hx) (wv (Bn DE rfl rfl) (ob hy λha hz h0=>Cu Tryz.call78 (Wm F (Aq r2.1 2) ha hz) rfl (wm rfl (wv (AB rfl rfl) (wv (AB rfl rfl) (wa rfl (wa rfl (Bm (wm rfl (vF D2 rfl Dp (BH (i:=1) Dp rfl rfl (Cy rfl) rfl rfl (cs':=[rS (Aq r2.1 0),rB (decide ((Aq r2.1 1)=([49]:Af))),AX 4 (AE Ab ha.1),Al (AL (Aq r2.1 3))]) rfl (H':=[.blk b1 [rS ([]:Af),rB false,rv (.slice none 0 0),Al 0] 50,.blk hd [rS (Aq r2.1 0),rB (decide ((Aq r2.1 1)=([49]:Af))),AX 4 (AE Ab ha.1),Al (AL (Aq r2.1 3))] 50]) rfl (Ak (ck h0 λh1 h2=>A8 [(2,rP b1 0),(3,rB ((decide (ha.2=0))&&(decide ((ov (Dq F (Ae.mk (Aq r2.1 0) (decide ((Aq r2.1 1)=([49]:Af))) ha.1 (AL (Aq r2.1 3)))))=0))))] [.blk b1 [rS (Aq r2.1 0),rB (decide ((Aq r2.1 1)=([49]:Af))),AX 4 (AE Ab ha.1),Al (AL (Aq r2.1 3))] 50] ?_ ?_)))))))))))))))))
    ·refine AN (decide (ha.2=0)) (λhg=>?_) (λhg=>?_)
     ·refine Gk (H1:=[.blk b1 [rS (Aq r2.1 0),rB (decide ((Aq r2.1 1)=([49]:Af))),AX 4 (AE Ab ha.1),Al (AL (Aq r2.1 3))] 50,.blk hd [rS (Aq r2.1 0),rB (decide ((Aq r2.1 1)=([49]:Af))),AX 4 (AE Ab ha.1),Al (AL (Aq r2.1 3))] 50]) [2,5,7] [⟨[],BC [rS (Aq r2.1 0),rB (decide ((Aq r2.1 1)=([49]:Af))),AX 4 (AE Ab ha.1),Al (AL (Aq r2.1 3))],1⟩,⟨[],Al ha.2,0⟩,⟨[1],rB (decide (ha.2=0)),0⟩,⟨[2],rB (decide (ha.2=0)),0⟩,⟨[3],BC [rS (Aq r2.1 0),rB (decide ((Aq r2.1 1)=([49]:Af))),AX 4 (AE Ab ha.1),Al (AL (Aq r2.1 3))],1⟩,⟨[4,3],Al (ov (Dq F (Ae.mk (Aq r2.1 0) (decide ((Aq r2.1 1)=([49]:Af))) ha.1 (AL (Aq r2.1 3))))),0⟩,⟨[5,3],rB (decide ((ov (Dq F (Ae.mk (Aq r2.1 0) (decide ((Aq r2.1 1)=([49]:Af))) ha.1 (AL (Aq r2.1 3)))))=0)),0⟩,⟨[3,6],rB (decide ((ov (Dq F (Ae.mk (Aq r2.1 0) (decide ((Aq r2.1 1)=([49]:Af))) ha.1 (AL (Aq r2.1 3)))))=0)),0⟩,⟨[0],rv undef,2⟩,⟨[7],rB (decide ((ov (Dq F (Ae.mk (Aq r2.1 0) (decide ((Aq r2.1 1)=([49]:Af))) ha.1 (AL (Aq r2.1 3)))))=0)),0⟩] (rle [(9,_),(2,[.blk b1 [rS (Aq r2.1 0),rB (decide ((Aq r2.1 1)=([49]:Af))),AX 4 (AE Ab ha.1),Al (AL (Aq r2.1 3))] 50,.blk hd [rS (Aq r2.1 0),rB (decide ((Aq r2.1 1)=([49]:Af))),AX 4 (AE Ab ha.1),Al (AL (Aq r2.1 3))] 50])]) [3,2] ?_ ?_
      ·refine of (B5 (i:=1) GI C3 rfl rfl rfl rfl) (oq (Ap rfl) (oq (B3 rfl rfl) (oq (Ap rfl) (on hg (of (B5 (i:=1) GI C3 rfl rfl rfl rfl) (EY rfl (λH=>Qs (b:=decide (ha.2=0)) rfl rfl hg (JR Tryz.call60 (OP F (Ae.mk (Aq r2.1 0) (decide ((Aq r2.1 1)=([49]:Af))) ha.1 (AL (Aq r2.1 3))) (ov (Dq F (Ae.mk (Aq r2.1 0) (decide ((Aq r2.1 1)=([49]:Af))) ha.1 (AL (Aq r2.1 3))))) (HI (Cz h1 hg))) rfl)) ?_))))));refine on hg (oq (B3 rfl rfl) (oq (A1 rfl hg rfl) (I4 rfl (NQ (C9 (i:=0) C3 rfl rfl rfl (BM.c rfl) rfl rfl (cs':=[rS (Aq r2.1 0),rB (decide ((Aq r2.1 1)=([49]:Af))),AX 4 (AE Ab ha.1),Al (AL (Aq r2.1 3))]) rfl (H':=[.blk b1 [rS (Aq r2.1 0),rB (decide ((Aq r2.1 1)=([49]:Af))),AX 4 (AE Ab ha.1),Al (AL (Aq r2.1 3))] 50,.blk hd [rS (Aq r2.1 0),rB (decide ((Aq r2.1 1)=([49]:Af))),AX 4 (AE Ab ha.1),Al (AL (Aq r2.1 3))] 50]) rfl)) ?_)));refine oq (Aw rfl) ?_;exact Cp
      exact Ca hg
     ·refine Gk (H1:=[.blk b1 [rS (Aq r2.1 0),rB (decide ((Aq r2.1 1)=([49]:Af))),AX 4 (AE Ab ha.1),Al (AL (Aq r2.1 3))] 50,.blk hd [rS (Aq r2.1 0),rB (decide ((Aq r2.1 1)=([49]:Af))),AX 4 (AE Ab ha.1),Al (AL (Aq r2.1 3))] 50]) [2,5,7] [⟨[],BC [rS (Aq r2.1 0),rB (decide ((Aq r2.1 1)=([49]:Af))),AX 4 (AE Ab ha.1),Al (AL (Aq r2.1 3))],1⟩,⟨[],Al ha.2,0⟩,⟨[1],rB (decide (ha.2=0)),0⟩,⟨[2],rB (decide (ha.2=0)),0⟩,⟨[3],rv undef,0⟩,⟨[4,3],rv undef,0⟩,⟨[5,3],rv undef,0⟩,⟨[3,6],rB false,0⟩,⟨[0],rv undef,2⟩,⟨[7],rB false,0⟩] (rle [(9,_),(2,[.blk b1 [rS (Aq r2.1 0),rB (decide ((Aq r2.1 1)=([49]:Af))),AX 4 (AE Ab ha.1),Al (AL (Aq r2.1 3))] 50,.blk hd [rS (Aq r2.1 0),rB (decide ((Aq r2.1 1)=([49]:Af))),AX 4 (AE Ab ha.1),Al (AL (Aq r2.1 3))] 50])]) [3,2] ?_ ?_
      ·refine of (B5 (i:=1) GI C3 rfl rfl rfl rfl) (oq (Ap rfl) (oq (B3 rfl rfl) (oq (Ap rfl) (oz hg (oz hg (oz hg (oq (A6 (b:=decide (ha.2=0)) rfl hg rfl) (I4 rfl (NQ (C9 (i:=0) C3 rfl rfl rfl (BM.c rfl) rfl rfl (cs':=[rS (Aq r2.1 0),rB (decide ((Aq r2.1 1)=([49]:Af))),AX 4 (AE Ab ha.1),Al (AL (Aq r2.1 3))]) rfl (H':=[.blk b1 [rS (Aq r2.1 0),rB (decide ((Aq r2.1 1)=([49]:Af))),AX 4 (AE Ab ha.1),Al (AL (Aq r2.1 3))] 50,.blk hd [rS (Aq r2.1 0),rB (decide ((Aq r2.1 1)=([49]:Af))),AX 4 (AE Ab ha.1),Al (AL (Aq r2.1 3))] 50]) rfl)) ?_))))))));refine oq (Aw rfl) ?_;exact Cp
      exact Ca hg
    refine As ?_;obtain rfl:=Au h2;exact Ar (C6 Aav (Gx (i:=0) GI C3 rfl rfl rfl) (A7 rfl)) (sS sN) ⟨rfl,rfl⟩
theorem TZ (F:Nat)(rc:Af)(r:(List Ae)×Int)(h:Kn F rc=some r):Fn Tryz.prog GE 26 [rS rc] [] (λR H=>R=Ct [AX 4 (AE An r.1),Al r.2]∧H=[]):=by
 refine enter (n:=48) Tryz.func26 rfl Tryz.ntmps26 rfl (λw Z=>?_);unfold Kn at h;refine Ad (wa rfl (wa rfl (Bm (wm rfl (ob h λr1 e3 h2=>Cu Tryz.call53 (Ws F rc r1 e3) rfl (wm rfl (wv (AB rfl rfl) (wv (AB rfl rfl) (wa rfl (wa rfl (Ak (Ai (A8 [(0,rS rc),(4,AX 1 (AE eS r1.1)),(23,rB ((!decide (r1.2=(rc.length:Int)))||(decide (256<(r1.1.length:Int)))))] [] ?_ ?_)))))))))))))
 ·refine Ag (wm rfl (wm rfl (wv (Bg BQ rfl) (wv (CV rfl rfl) (wm rfl (AN (!decide (r1.2=(rc.length:Int))) (λc4=>?_) (λc4=>?_)))))))
  ·refine wf c4 (wf c4 (wf c4 (wv (r:=rB true) (A1 rfl c4 rfl) (Aj ?_))));exact Ca c4
  ·refine wo c4 (wm rfl (wo c4 (wv (Bv (ys:=r1.1) (enc:=eS) De rfl) (wo c4 (wv (Cm rfl rfl) (Et rfl c4 rfl (Aj ?_)))))));exact Ca c4
 refine cz h2 rfl (λc5 h6=>?_) (λc5 h7=>?_)
 ·refine Ad (wa rfl (wa rfl (Ak (As (Ac (WK.up (d:=2) (r:=AX 4 (AE An ([]:List Ae))) rfl (Up.le (Ek.nil _)) ?_))))));obtain rfl:=Au h6;exact Ar (C6 Aax (A7 rfl) (A7 rfl)) sN ⟨rfl,rfl⟩
 ·refine Am (AJ (Ad (wa rfl (Ak (Ai (Ad (wm rfl (wv (Bv (ys:=r1.1) (enc:=eS) De rfl) (wv (r:=Al 0) (Ap rfl) (Ak (AF (WC.nilrow (e:=50) (sz:=4) (ob h7 λhk hl hi=>Bo (S:=Nat×((List Ae)×Int)×(Value)) (V:=((List Ae))×(Value)) 0 (λσ=>BJ (λσ=>DL F r1 σ.1 σ.2) σ.1 σ.2.1=some hk) (λσ=>[(0,rS rc),(4,AX 1 (AE eS r1.1)),(6,rv σ.2.2),(25,Al (r1.1.length:Int)),(26,Al σ.2.1.2)]) (λσ=>[.row σ.2.2 50 4 (AE An σ.2.1.1)]) (λσ=>σ.1) (F,(([]:List Ae),0),(.slice none 0 0                                                  )) hl (AD.c5 rfl rfl rfl rfl rfl AD.nil) (sC sN) (λσ=>Hk rc σ.1=some r) (λσ=>[(0,rS rc),(6,rv σ.2)]) (λσ=>[.row σ.2 50 4 (AE An σ.1)]) ?_ ?_)))))))))))))
  ·rintro⟨hE,⟨hb,hd⟩,v46⟩ hm;refine BO (l':=[(0,rS rc),(4,AX 1 (AE eS r1.1)),(6,rv v46),(25,Al (r1.1.length:Int)),(26,Al hd)]) (H':=[.row v46 50 4 (AE An hb)]) rfl rfl ?_;obtain⟨hn,rfl,ho,he,hg⟩:=Ck hm;replace he:DL F r1 hb hd=some ho:=he;unfold DL at he;refine Ad (wv (Cf rfl rfl) (Ak (Ai (cz he rfl (λhp hq=>?_) (λhp hr=>?_)))))
   ·refine Am (AJ (Ai (AF (Ad (wm rfl (wa rfl (Bm (wm rfl (wm rfl (ck hq λhs ht=>wv (By (enc:=eS) (ys:=r1.1) De Da rfl rfl hs) (wv (Bn DE rfl rfl) (ob ht λha hu hw=>Cu Tryz.call54 (Wp F (Aq r1.1 hd) ha hu) rfl (wm rfl (wv (AB rfl rfl) (wv (AB rfl rfl) (Cd (cs:=[rS ([]:Af),rB false,rv (.slice none 0 0),Al 0]) Ke rfl rfl (λhx=>?_)))))))))))))))));refine Bp (i:=0) C3 rfl rfl rfl (BM.c rfl) rfl rfl (cs':=[rS ha.1.fKey,rB ha.1.fDelete,AX 4 (AE Ab ha.1.fValue),Al ha.1.fIfVersion]) rfl (H':=[.blk hx (An ha.1) 50,.row v46 50 4 (AE An hb)]) rfl (wa rfl (Ak (Ai (Ad (wm rfl (wv (Cc rfl) (Ak (cz hw rfl (λc85 hy=>?_) (λc85 hz=>?_)))))))))
    ·refine Ad (wa rfl (wa rfl (Ak (As (Ac (Ay (Ac (Ac (AY ?_)))))))));have h0:=Bt hy hg hi;refine Ay (Ac (WK.up (d:=2) (r:=AX 4 (AE An ([]:List Ae))) rfl (Up.le (Ek.nil _)) ?_));obtain rfl:=Au h0;exact Ar (C6 Aax (A7 rfl) (A7 rfl)) (sS (sS sN)) ⟨rfl,rfl⟩
    ·refine Am (AJ (Ag (wm rfl (wv (B5 (i:=0) GI C3 rfl rfl rfl rfl) (AT (ys:=([ha.1]:List Ae)) (enc:=An) (css:=[[rS ha.1.fKey,rB ha.1.fDelete,AX 4 (AE Ab ha.1.fValue),Al ha.1.fIfVersion]]) (xs:=[.tmp 40]) GH C3 Ke rfl rfl rfl ⟨Eu.agg ⟨Up.refl _,Up.refl _,Up.refl _,Up.refl _,trivial⟩,trivial⟩ rfl Cr rfl rfl rfl (λhG=>?_))))));refine ck hz λh1 h3=>Exists.elim Zt λinf hinf=>B9 (xs:=hb) (ys:=([ha.1]:List Ae)) (enc:=An) (i:=2) GH hinf.1 hinf.2.1 hinf.2.2.1 hinf.2.2.2 rfl rfl rfl rfl rfl (Id.w (i:=0) rfl rfl) Cr JV h1 rfl (λh4=>?_);refine wa rfl (Aj (AA (AJ (Ag (ck h3 λh5 h8=>wv (Bb rfl rfl h5) (wm rfl (Aj ?_)))))));have h9:=Be h8 hg;exact Av (A5 (hn,(hb++([ha.1]:List Ae),hd+1),h4) ⟨h9,Aeo _⟩ (AD.c5 rfl rfl rfl rfl rfl AD.nil) (sC (sS (sS sN))))
   ·refine Bq (Ax ?_);have hA:=BL hr hg hi;exact Ax (Bd (A5 (hb,v46) hA (AD.c rfl (AD.c rfl AD.nil)) (sC sN)))
  ·rintro⟨hh,hj⟩ hf;refine Cl (l':=[(0,rS rc),(6,rv hj)]) (H':=[.row hj 50 4 (AE An hh)]) rfl rfl ?_;replace hf:Hk rc hh=some r:=hf;unfold Hk at hf;refine Bc (AJ (Ai (Ad (wm rfl (wv (Bg BQ rfl) (wv (Cm rfl rfl) (Ak (cz hf rfl (λhB hC=>?_) (λhB hD=>?_)))))))))
   ·refine Ad (wa rfl (wa rfl (Ak (As (Ac (WK.up (d:=2) (r:=AX 4 (AE An ([]:List Ae))) rfl (Up.le (Ek.nil _)) ?_))))));obtain rfl:=Au hC;exact Ar (C6 Aax (A7 rfl) (A7 rfl)) (sS sN) ⟨rfl,rfl⟩
   ·refine Am (AJ (Ad (wm rfl (wa rfl (wa rfl (Ak (As (WK.freeze (i:=0) rfl (WK.up (d:=2) (r:=AX 4 (AE An hh)) rfl (Up.fact (i:=0) rfl) ?_)))))))));obtain rfl:=Au hD;exact Ar (C6 Aax (A7 rfl) (A7 rfl)) (sS sN) ⟨rfl,rfl⟩
theorem AaN (F:Nat)(ha:Nat)(q:AV)(rc:Af)(r:Int×AV)(h:Sw F q rc=some r):Fn Tryz.prog GE 31 [rP ha 0,rS rc] [.blk ha (Ba q) 62] (λR H=>R=Al r.1∧H=[.blk ha (Ba r.2) 62]):=by
 refine enter (n:=27) Tryz.func31 rfl Tryz.ntmps31 rfl (λw Z=>?_);unfold Sw at h;refine Ad (wa rfl (Ak (Ai (A8 [(0,rP ha 0),(1,rS rc),(15,rB (!q.fMade))] [.blk ha (Ba q) 62] ?_ ?_))))
 ·refine Ag (wm rfl (wv (r:=rB false) (Nf ⟨_,Acb⟩ rfl) (wm rfl (Bj (b:=false) rfl rfl rfl (wm rfl (Bj (b:=false) rfl rfl rfl (wv (A3 rfl) (Bj (b:=false) rfl rfl rfl (vF RF rfl Hu (Bj (b:=false) rfl rfl rfl (vL 0 NZ rfl (Bj (b:=false) rfl rfl rfl (wv (Cc rfl) (wv (r:=rB (!q.fMade)) (A6 (b:=false) rfl rfl rfl) (Aj ?_)))))))))))))));exact wt
 refine cz h rfl (λc1 h2=>?_) (λc1 h3=>?_)
 ·refine Ad (wa rfl (Ak (As (Ac ?_))));obtain rfl:=Au h2;exact Ar (Cb Tryz.results31 (A7 rfl)) (sC sN) ⟨rfl,rfl⟩
 ·refine Am (AJ (Ad (wm rfl (ob h3 λr4 e6 h5=>Cu Tryz.call26 (TZ F rc r4 e6) rfl (wm rfl (wv (AB rfl rfl) (wv (AB rfl rfl) (wa rfl (wa rfl (Ak (Ai (Ad (wm rfl (wv (CV rfl rfl) (Ak (cz h5 rfl (λc7 h8=>?_) (λc7 h9=>?_)))))))))))))))))
  ·refine Ad (wm rfl (wa rfl (Ak (As (Ac ?_)))));obtain rfl:=Au h8;exact Ar (Cb Tryz.results31 (A7 rfl)) (sC sN) ⟨rfl,rfl⟩
  ·refine Am (AJ (Ad (wm rfl (wm rfl (ob h9 λhb hd he=>Gj (Hr:=[]) Tryz.call14 (S4 F ha q r4.1 hb hd) rfl (Ael _) rfl ?_)))));rintro _ _ ⟨rfl,rfl⟩;refine wa rfl (Ak (As ?_));obtain rfl:=Au he;exact Ar (Cb Tryz.results31 (A7 rfl)) (sC sN) ⟨rfl,rfl⟩
end Go.Proofs.YtjfnokmpfekniaaGreatDoor.Q
namespace Go.Proofs.YtjfnokmpfekniaaGreatDoor
open Go
set_option linter.unusedVariables false
def HY (ha:Bool):Option (Bool):=
 some ha
def GV (F:Nat)(l:(List (List Ae)))(ha:Int)(hb:AV)(hd:(List (Af×Ah)))(he:(List (Af×Ah))):Option (Stp (Int×AV×(List (Af×Ah))×(List (Af×Ah))) (Out (Bool) (AV×(List (Af×Ah))×(List (Af×Ah))))):=
 Bi (decide (ha<(l.length:Int))) (AQ (Cw ha (l.length:Int))<|Br (Hx F (AR.mk hd he) (Aq l ha)) λhf=>Br (L7 F hb (Aq l ha)) λhg=>AQ (Bs .i64 (ha+1))<|some (.next (ha+1,hg.2,hf.2.fItems,hf.2.fChanged))) (some (.out (.go (hb,hd,he))))
def Jo (F:Nat)(rc:Af)(hd:AV)(he:(List (Af×Ah)))(hf:(List (Af×Ah))):Option (Bool):=
 Br (Tk F (AR.mk he hf) rc) λha=>Br (Sw F hd rc) λhb=>Bi (decide (ha.1=hb.1)) (Br (Ti F ha.2 ([]:Af)) λhg=>Br (So F hb.2 ([]:Af)) λhh=>Br (MU F hg.1 hh.1) λhi=>Bi (hi) (Br (Pp F) λhj=>HY hj) (HY false)) (HY false)
def Pn (F:Nat)(l:(List (List Ae)))(rc:Af):Option (Bool):=
 AQ ((Rm F l).isSome)<|Bi (((!(ov (Rm F l)))||(decide (20000<(rc.length:Int))))) (Br (Pp F) λr6=>some r6) (Br (Zi) λha=>Br (AaM) λhb=>Br (BJ (λσ=>GV F l σ.1 σ.2.1 σ.2.2.1 σ.2.2.2) F (0,hb,ha.fItems,ha.fChanged)) (BE λν=>Jo F rc ν.1 ν.2.1 ν.2.2))
end Go.Proofs.YtjfnokmpfekniaaGreatDoor
namespace Go.Proofs.YtjfnokmpfekniaaGreatDoor.Q
open Go Go.RowKit
set_option linter.unusedVariables false
set_option linter.unusedSimpArgs false
set_option maxRecDepth 100000
set_option maxHeartbeats 4000000
theorem YZ (F:Nat)(l:(List (List Ae)))(rc:Af)(r:Bool)(h:Pn F l rc=some r):Fn Tryz.prog GE 7 [AX 1 (AE BW l),rS rc] [] (λR H=>R=rB r∧H=[]):=by
 refine enter (n:=56) Tryz.func7 rfl Tryz.ntmps7 rfl (λw Z=>?_);unfold Pn at h;refine Ad (wa rfl (Ak (Ai (ck h λg1 h2=>A8 [(0,AX 1 (AE BW l)),(1,rS rc),(15,rB ((!(ov (Rm F l)))||(decide (20000<(rc.length:Int)))))] [] ?_ ?_))))
 ·refine Ag (wm rfl (Cu Tryz.call9 (Ac5 F l (ov (Rm F l)) (HI g1)) rfl (wv (Cc rfl) (wm rfl (AN (!(ov (Rm F l))) (λc3=>?_) (λc3=>?_))))))
  ·refine wf c3 (wf c3 (wf c3 (wv (r:=rB true) (A1 rfl c3 rfl) (Aj ?_))));exact Ca c3
  ·refine wo c3 (wm rfl (wo c3 (wv (Bg BQ rfl) (wo c3 (wv (Cm rfl rfl) (Et rfl c3 rfl (Aj ?_)))))));exact Ca c3
 refine cz h2 rfl (λc4 h5=>?_) (λc4 h9=>?_)
 ·refine Ad (ob h5 λr6 e8 h7=>Cu Tryz.call10 (Tf F r6 e8) rfl (wa rfl (Ak (As (Ac ?_)))));obtain rfl:=Au h7;exact Ar (Cb Tryz.results7 (A7 rfl)) sN ⟨rfl,rfl⟩
 ·refine Am (AJ (Ad (ob h9 λhg h6 h8=>Gj (Hr:=[]) Tryz.call11 (Zh hg h6) rfl (Ael _) rfl ?_)));rintro _ _ ⟨hd,ha,hb,rfl,rfl⟩;refine ob h8 λhx hA hB=>Gj (Hr:=[.blk hd [rv (.map (some ha)),rv (.map (some hb))] 59,.map ha (Bh Ao hg.fItems),.map hb (Bh Ao hg.fChanged)]) Tryz.call12 (Acp hx hA) rfl (Ael _) rfl ?_;rintro _ _ ⟨he,rfl,rfl⟩;refine wa rfl (wa rfl (Ak (Ai (Ad (wm rfl (wv (r:=rB false) (Nf ⟨_,Acc⟩ rfl) (Ak (Db rfl rfl (Am (AJ (Ai (Ad (wm rfl (wv (Bv (ys:=l) (enc:=BW) VH rfl) (wv (r:=Al 0) (Ap rfl) (Ak (AF (ob hB λhC hD hE=>Bo (S:=Nat×(Int×AV×(List (Af×Ah))×(List (Af×Ah)))×(Unit)) (V:=(AV×(List (Af×Ah))×(List (Af×Ah)))×(Unit)) 0 (λσ=>BJ (λσ=>GV F l σ.1 σ.2.1 σ.2.2.1 σ.2.2.2) σ.1 σ.2.1=some hC) (λσ=>[(0,AX 1 (AE BW l)),(1,rS rc),(5,rP hd 0),(6,rP he 0),(22,Al (l.length:Int)),(23,Al σ.2.1.1)]) (λσ=>[.blk he (Ba σ.2.1.2.1) 62,.blk hd [rv (.map (some ha)),rv (.map (some hb))] 59,.map ha (Bh Ao σ.2.1.2.2.1),.map hb (Bh Ao σ.2.1.2.2.2)]) (λσ=>σ.1) (F,(0,hx,hg.fItems,hg.fChanged),()) hD (AD.c rfl (AD.c5 rfl rfl rfl rfl rfl AD.nil)) (sC (sC (sC (sC sN)))) (λσ=>Jo F rc σ.1.1 σ.1.2.1 σ.1.2.2=some r) (λσ=>[(1,rS rc),(5,rP hd 0),(6,rP he 0)]) (λσ=>[.blk he (Ba σ.1.1) 62,.blk hd [rv (.map (some ha)),rv (.map (some hb))] 59,.map ha (Bh Ao σ.1.2.1),.map hb (Bh Ao σ.1.2.2)]) ?_ ?_))))))))))))))))))
  ·rintro⟨gn,⟨hh,hi,hl,hm⟩,⟨⟩⟩ hG;refine BO (l':=[(0,AX 1 (AE BW l)),(1,rS rc),(5,rP hd 0),(6,rP he 0),(22,Al (l.length:Int)),(23,Al hh)]) (H':=[.blk he (Ba hi) 62,.blk hd [rv (.map (some ha)),rv (.map (some hb))] 59,.map ha (Bh Ao hl),.map hb (Bh Ao hm)]) rfl rfl ?_;obtain⟨hH,rfl,hI,hn,hy⟩:=Ck hG;replace hn:GV F l hh hi hl hm=some hI:=hn;unfold GV at hn;refine Ad (wv (Cf rfl rfl) (Ak (Ai (cz hn rfl (λhJ hK=>?_) (λhJ hL=>?_)))))
   ·refine Am (AJ (Ai (AF (Ad (wm rfl (wa rfl (Bm (wm rfl (wm rfl (wm rfl (ck hK λhz hN=>wv (By (enc:=BW) (ys:=l) VH Tryz.sizeOf31 rfl rfl hz) (wv (Bn Tryz.isAgg31 rfl rfl) (ob hN λhj hO hP=>Gj (Hr:=[.blk he (Ba hi) 62]) TH (Iw F hd ha hb (AR.mk hl hm) (Aq l hh) hj hO) rfl ((A0 (i:=1) rfl).trans (Aem _ ((A0 (i:=1) rfl).trans (Aem _ ((A0 (i:=1) rfl).trans (Aem _ (Ael _))))))) rfl ?_)))))))))))));rintro _ _ ⟨rfl,rfl⟩;refine Ak (Ag (wm rfl (wm rfl (wm rfl (wv (By (enc:=BW) (ys:=l) VH Tryz.sizeOf31 rfl rfl hz) (wv (Bn Tryz.isAgg31 rfl rfl) (ob hP λh0 hQ hR=>Gj (Hr:=[.blk hd [rv (.map (some ha)),rv (.map (some hb))] 59,.map ha (Bh Ao hj.2.fItems),.map hb (Bh Ao hj.2.fChanged)]) Tryz.call14 (S4 F he hi (Aq l hh) h0 hQ) rfl ((A0 (i:=3) rfl).trans (Aem _ (Ael _))) rfl ?_)))))));rintro _ _ ⟨rfl,rfl⟩;refine Aj (AA (AJ (Ag (ck hR λhS hT=>wv (Bb rfl rfl hS) (wm rfl (Aj ?_))))));have hU:=Be hT hy;exact Av (A5 (hH,(hh+1,h0.2,hj.2.fItems,hj.2.fChanged),()) ⟨hU,Aeo _⟩ (AD.c rfl (AD.c5 rfl rfl rfl rfl rfl AD.nil)) (sC (sC (sC (sC sN)))))
   ·refine Bq (Ax ?_);have hV:=BL hL hy hE;exact Ax (Bd (A5 ((hi,hl,hm),()) hV (AD.c rfl (AD.c rfl (AD.c rfl AD.nil))) (sC (sC (sC (sC sN))))))
  ·rintro⟨⟨ho,ht,hu⟩,⟨⟩⟩ hp;refine Cl (l':=[(1,rS rc),(5,rP hd 0),(6,rP he 0)]) (H':=[.blk he (Ba ho) 62,.blk hd [rv (.map (some ha)),rv (.map (some hb))] 59,.map ha (Bh Ao ht),.map hb (Bh Ao hu)]) rfl rfl ?_;replace hp:Jo F rc ho ht hu=some r:=hp;unfold Jo at hp;refine Bc (AJ (Df (S:=(Bool)×(Unit)) (λσ=>HY σ.1=some r) (λσ=>[(4,rB σ.1)]) (λσ=>[]) ?_ ?_))
   ·refine Ag (wm rfl (wm rfl (ob hp λhq hW hX=>Gj (Hr:=[.blk he (Ba ho) 62]) Tryz.call30 (Abp F hd ha hb (AR.mk ht hu) rc hq hW) rfl ((A0 (i:=1) rfl).trans (Aem _ ((A0 (i:=1) rfl).trans (Aem _ ((A0 (i:=1) rfl).trans (Aem _ (Ael _))))))) rfl ?_)));rintro _ _ ⟨rfl,rfl⟩;refine wm rfl (wm rfl (ob hX λhw hY hZ=>Gj (Hr:=[.blk hd [rv (.map (some ha)),rv (.map (some hb))] 59,.map ha (Bh Ao hq.2.fItems),.map hb (Bh Ao hq.2.fChanged)]) Tryz.call31 (AaN F he ho rc hw hY) rfl ((A0 (i:=3) rfl).trans (Aem _ (Ael _))) rfl ?_));rintro _ _ ⟨rfl,rfl⟩;refine wv (B3 rfl rfl) (wm rfl (bz hZ (λhf ga=>?_) (λhf gb=>?_)))
    ·refine wo hf (wm rfl (wo hf (ob ga λhr gc gd=>Gj (Hr:=[.blk he (Ba hw.2) 62]) Tryz.call20 (Abm F hd ha hb hq.2 ([]:Af) hr gc) rfl ((A0 (i:=1) rfl).trans (Aem _ ((A0 (i:=1) rfl).trans (Aem _ ((A0 (i:=1) rfl).trans (Aem _ (Ael _))))))) rfl ?_)));rintro _ _ ⟨rfl,rfl⟩;refine wo hf (wm rfl (wo hf (ob gd λh1 ge gf=>Gj (Hr:=[.blk hd [rv (.map (some ha)),rv (.map (some hb))] 59,.map ha (Bh Ao hr.2.fItems),.map hb (Bh Ao hr.2.fChanged)]) Tryz.call21 (AaJ F he hw.2 ([]:Af) h1 ge) rfl ((A0 (i:=3) rfl).trans (Aem _ (Ael _))) rfl ?_)));rintro _ _ ⟨rfl,rfl⟩;refine wo hf (ob gf λgg gh gi=>Cu Tryz.call19 (Yi F hr.1 h1.1 gg gh) rfl (Es rfl hf rfl (wm rfl (bz gi (λhk gj=>?_) (λhk gk=>?_)))))
     ·exact wo hk (ob gj λh3 gl gm=>Cu Tryz.call10 (Tf F h3 gl) rfl (Es rfl hk rfl (wa rfl (Aj (Av (A5 (h3,()) gm (AD.c rfl AD.nil) (sS (sS (sS (sS sN))))))))))
     ·exact wf hk (wv (r:=rB false) (A6 rfl hk rfl) (wa rfl (Aj (Av (A5 (false,()) gk (AD.c rfl AD.nil) (sS (sS (sS (sS sN)))))))))
    ·exact wf hf (wf hf (wf hf (wf hf (wf hf (wv (r:=rB false) (A6 rfl hf rfl) (wm rfl (wz rfl rfl (wv (r:=rB false) (A6 (b:=false) rfl rfl rfl) (wa rfl (Aj (Av (A5 (false,()) gb (AD.c rfl AD.nil) (sS (sS (sS (sS sN))))))))))))))))
   ·rintro⟨h4,⟨⟩⟩ hs;refine BO (l':=[(4,rB h4)]) (H':=[]) rfl rfl ?_;replace hs:HY h4=some r:=hs;unfold HY at hs;refine As ?_;obtain rfl:=Au hs;exact Ar (Cb Tryz.results7 (A7 rfl)) sN ⟨rfl,rfl⟩
end Go.Proofs.YtjfnokmpfekniaaGreatDoor.Q
namespace Go.Proofs.YtjfnokmpfekniaaGreatDoor.lawKvLoads
open Go
set_option linter.unusedVariables false
def Y9 (y:Aa):Bool:=(Bs .i64) y.fKind&&(Bs .i64) y.fInt&&okS y.fStr&&(Bs .i64) y.fN
def Ul (y:Ae):Bool:=okS y.fKey&&(λ_=>true) y.fDelete&&(λys:(List Aa)=>ys.all Y9&&decide (ys.length≤9223372036854775807)) y.fValue&&(Bs .i64) y.fIfVersion
def Law:Prop:=∀(y0:(List (List Ae))) (y1:Af) (o0:(λys:(List (List Ae))=>ys.all (λys:(List Ae)=>ys.all Ul&&decide (ys.length≤9223372036854775807))&&decide (ys.length≤9223372036854775807)) y0=true) (o1:okS y1=true),∃F,Pn F y0 y1=some true
end Go.Proofs.YtjfnokmpfekniaaGreatDoor.lawKvLoads
namespace Go.Proofs.YtjfnokmpfekniaaGreatDoor
open Go
set_option linter.unusedVariables false
set_option linter.unusedSimpArgs false
def sB (b:BitVec 32):BitVec 32:=if b.getLsbD 0=true then(b>>>1)^^^3988292384#32 else b>>>1
def RB:Nat→BitVec 32→BitVec 32
 | 0,b=>b
 | n+1,b=>RB n (sB b)
theorem Acm (a b:BitVec 32):sB (a^^^b)=sB a^^^sB b:=by
 unfold sB;rw[BitVec.getLsbD_xor,BitVec.ushiftRight_xor_distrib]
 cases a.getLsbD 0<;>cases b.getLsbD 0
 ·simp
 ·simp[BitVec.xor_assoc]
 ·simp only[Bool.xor_false,AeT,Aez,AeP];rw[BitVec.xor_assoc,BitVec.xor_assoc,BitVec.xor_comm (b>>>1)]
 ·simp only[Bool.xor_self,Aez,AeP,AeT];rw[BitVec.xor_assoc,BitVec.xor_comm 3988292384#32,BitVec.xor_assoc,BitVec.xor_self,BitVec.xor_zero]
theorem UP:∀(n:Nat) (a b:BitVec 32),RB n (a^^^b)=RB n a^^^RB n b
 | 0,_,_=>rfl
 | n+1,a,b=>by rw[RB,Acm,UP n];rfl
theorem Ql:∀(n:Nat) (b:BitVec 32),(∀i,i<n→b.getLsbD i=false)→RB n b=b>>>n
 | 0,b,_=>by simp[RB]
 | n+1,b,h=>by
  have h0:sB b=b>>>1:=by unfold sB;rw[h 0 (by omega)];simp
  rw[RB,h0,Ql n (b>>>1) (λi hi=>by rw[BitVec.getLsbD_ushiftRight];exact h _ (by omega))];rw[← BitVec.shiftRight_add,Nat.add_comm]
theorem Wb (x:BitVec 32):RB 8 x=RB 8 (x&&& 255#32)^^^(x>>>8):=by
 have e:x=(x&&& 255#32)^^^(x&&& 4294967040#32):=by
  apply BitVec.eq_of_getLsbD_eq;intro i hi;rw[BitVec.getLsbD_xor,BitVec.getLsbD_and,BitVec.getLsbD_and];have hh:∀j:Fin 32,(4294967040#32).getLsbD j = !(255#32).getLsbD j:=by decide
  rw[hh ⟨i,hi⟩]
  cases x.getLsbD i<;>cases(255#32).getLsbD i<;>rfl
 have hz:∀i,i<8→(x&&& 4294967040#32).getLsbD i=false:=λi hi=>by
  rw[BitVec.getLsbD_and];have:(4294967040#32).getLsbD i=false:=by
   have hh:∀i:Fin 8,(4294967040#32).getLsbD i=false:=by decide
   exact hh ⟨i,hi⟩
  rw[this,Ae3]
 have hs:(x&&& 4294967040#32)>>>8=x>>>8:=by
  apply BitVec.eq_of_getLsbD_eq;intro i hi;rw[BitVec.getLsbD_ushiftRight,BitVec.getLsbD_ushiftRight,BitVec.getLsbD_and]
  by_cases h:8+i<32
  ·have hh:∀j:Fin 24,(4294967040#32).getLsbD (8+j)=true:=by decide
   rw[hh ⟨i,by omega⟩,Ae2]
  ·rw[BitVec.getLsbD_of_ge x _ (by omega)];rfl
 conv=>lhs;rw[e]
 rw[UP,Ql 8 _ hz,hs]
def bv (x:Int):BitVec 32:=BitVec.ofInt 32 x
def nv (b:BitVec 32):Int:=(b.toNat:Int)
def W32 (x:Int):Prop:=0≤x∧x<4294967296
theorem W32.nv (b:BitVec 32):W32 (nv b):=⟨by unfold Proofs.YtjfnokmpfekniaaGreatDoor.nv;omega,by have:=b.isLt;unfold Proofs.YtjfnokmpfekniaaGreatDoor.nv;omega⟩
theorem AbR {x:Int}(h:W32 x):nv (bv x)=x:=by
 unfold nv bv;have h1:=h.1;have h2:=h.2;rw[BitVec.toNat_ofInt];have:x % ((2 ^ 32:Nat):Int)=x:=Int.emod_eq_of_lt h1 (by simpa using h2);rw[this];omega
theorem PD (b:BitVec 32):bv (nv b)=b:=by
 apply BitVec.eq_of_toNat_eq;have h:=AbR (W32.nv b);unfold nv at h;exact Int.ofNat_inj.1 h
theorem QQ (b:BitVec 32):IntKind.wrap .u32 (b.toNat:Int)=nv b:=by
 have:=b.isLt;unfold nv;simp[IntKind.wrap,IntKind.signed,IntKind.bits];omega
theorem Ow (x y:Int):ET .u32 x y=nv (bv x^^^bv y):=QQ (bv x^^^bv y)
theorem Abv (x y:Int):LE .u32 x y=nv (bv x&&& bv y):=QQ (bv x&&& bv y)
theorem Vu {n:Nat}(hn:n≤32)(b:BitVec 32):BZ .u32 (nv b) (n:Int)=nv (b>>>n):=by
 unfold BZ nv;have e:min (n:Int).toNat (IntKind.bits .u32)=n:=by
  have:IntKind.bits .u32=32:=rfl;rw[this];omega
 rw[e,BitVec.toNat_ushiftRight,Nat.shiftRight_eq_div_pow];rw[Int.fdiv_eq_ediv_of_nonneg _ (by exact Int.pow_nonneg (by omega))];simp
theorem Ac4 (b:BitVec 32):decide (LE .u32 (nv b) 1=1)=b.getLsbD 0:=by
 rw[Abv,PD];have e:bv 1=1#32:=by decide
 rw[e];have h:(b&&& 1#32).toNat=b.toNat % 2:=by
  rw[BitVec.toNat_and];exact Nat.and_one_is_mod _
 unfold nv;rw[h,BitVec.getLsbD,Nat.testBit_zero];rw[Aev];simp only[Aed];omega
theorem Sk (b:BitVec 32):(bif decide (LE .u32 (nv b) 1=1) then ET .u32 (BZ .u32 (nv b) 1) 3988292384 else BZ .u32 (nv b) 1)=nv (sB b):=by
 have hs:BZ .u32 (nv b) 1=nv (b>>>1):=Vu (n:=1) (by omega) b;have e:bv 3988292384=3988292384#32:=by decide
 rw[Ac4,hs,Ow,PD,e];unfold sB
 cases b.getLsbD 0<;>rfl
def KO (c:UInt8):Bool:=decide (32≤c.toNat)&&decide (c.toNat≤126)
theorem DC {s:Af}{x:Int}{c:UInt8}(h:s[x.toNat]? =some c):AM s x=(c.toNat:Int):=by simp[AM,h]
theorem PR {α:Type}{p:α→Bool}{s:List α}{k:Nat}{c:α}(h:s[k]? =some c):(s.take (k+1)).all p=((s.take k).all p&&p c):=by
 rw[List.take_add_one,h];simp
theorem R8 {α:Type}{p:α→Bool}{s:List α}{k:Nat}{c:α}(h:s[k]? =some c)(hp:p c=false):s.all p=false:=by
 rw[List.all_eq_false];exact⟨c,Aet h,by simp[hp]⟩
theorem RR {F:Nat}{s:Af}(hF:s.length<F)(hs:s.length≤9223372036854775807):LQ F s=some (s.all KO):=by
 obtain⟨o,h1,h2⟩:=Gi (body:=λσ=>IS s σ) (λx=>0≤x∧x≤(s.length:Int)∧(s.take x.toNat).all KO=true) (λx=>s.length-x.toNat)
  (λo=>BE (λ_=>IR) o=some (s.all KO)) (λx ⟨h0,hl,ha⟩=>by
   unfold IS
   by_cases hx:x<(s.length:Int)
   ·obtain⟨c,hc⟩:∃c,s[x.toNat]? =some c:=⟨s[x.toNat]'(by omega),Aeq (by omega)⟩
    rw[AC (by simpa using hx),AW h0 hx,DC hc]
    cases ho:KO c with
    | false=>
     refine .inr ⟨.ret false,?_,?_⟩
     ·rw[AC];simp only[KO,AeJ,Aee] at ho;simp only[AeG,Aed];omega
     ·simp[BE,R8 hc ho]
    | true=>
     refine .inl ⟨x+1,?_,⟨by omega,by omega,?_⟩,by omega⟩
     ·rw[A2,A4 (by omega) (by omega)];simp only[KO,Aej,Aed] at ho;simp only[Ae4,Aee];omega
     ·rw[show(x+1).toNat=x.toNat+1 from by omega,PR hc,ha,ho];rfl
   ·refine .inr ⟨.go (),by rw[A2 (by simpa using hx)],?_⟩;rw[show x.toNat=s.length from by omega,Afa] at ha;simp[BE,IR,ha]) F 0 ⟨by omega,by omega,by simp⟩ (by simpa using hF)
 unfold LQ;rw[AI h1,h2]
theorem Ra (F:Nat)(s:Af):Km F s=LQ F s:=rfl
theorem Wf {F:Nat}{s:Af}(hF:s.length<F)(hs:s.length≤9223372036854775807):Km F s=some (s.all KO):=by rw[Ra];exact RR hF hs
def pl (c:Aa):Bool:=
 bif decide (c.fKind=1) then(decide (c.fInt=0)&&(decide (c.fStr=[])&&decide (c.fN=0))) else
 bif decide (c.fKind=2) then((decide (c.fInt=0)||decide (c.fInt=1))&&(decide (c.fStr=[])&&decide (c.fN=0))) else
 bif decide (c.fKind=3) then(decide (c.fStr=[])&&decide (c.fN=0)) else
 bif decide (c.fKind=4) then(decide (c.fInt=0)&&(decide (c.fN=0)&&c.fStr.all KO)) else
 bif decide (c.fKind=5) then(decide (c.fInt=0)&&(decide (c.fStr=[])&&decide (0≤c.fN))) else
 bif decide (c.fKind=6) then(decide (c.fInt=0)&&(decide (c.fStr=[])&&decide (0≤c.fN))) else false
theorem Gd {α:Type}{p:Bool}{x y:Option α}{a b:α}(h:x=some a)(h':y=some b):Bi p x y=some (bif p then a else b):=by cases p<;>simp[Bi,h,h']
theorem VS {F:Nat}{c:Aa}(hF:c.fStr.length<F)(hs:c.fStr.length≤9223372036854775807):OG F c=some (pl c):=by
 unfold OG pl;rw[RR hF hs];refine Gd rfl (Gd ?_ (Gd rfl (Gd ?_ (Gd rfl (Gd rfl rfl)))))
 ·cases h:decide (c.fInt=0)<;>simp
 ·simp[imp,AQ,ov]
def NI:List AH→List AH
 | []=>[]
 | e::S=>bif decide (1<e.fLeft) then⟨e.fPairs,e.fLeft-1,e.fPairs,e.fLast,e.fStarted⟩::S else NI S
theorem O0 {α:Type}[Inhabited α](xs:List α)(e:α):Aq (xs++[e]) (xs.length:Int)=e:=by simp[Aq]
theorem LZ {α:Type}(xs:List α)(e e':α):List.set (xs++[e]) (Int.toNat (xs.length:Int)) e'=xs++[e']:=by simp
theorem My {α:Type}(xs:List α)(e:α):((xs++[e]).length:Int)-1=(xs.length:Int):=by simp
theorem VY {α:Type}(xs:List α)(e:α):List.take (Int.toNat (xs.length:Int)) (xs++[e])=xs:=by simp
theorem N5:∀(S:List AH) (F:Nat),S.length<F→(∀e∈S,1≤e.fLeft∧e.fLeft≤9223372036854775807)→S.length≤4611686018427387904→
  ∃o,BJ (λσ=>E0 σ) F S.reverse=some o∧BE (λν=>Gn ν) o=some (NI S).reverse
 | [],F+1,_,_,_=>⟨.go [],by simp[BJ,E0,Bi],by simp[BE,Gn,NI]⟩
 | e::S,F+1,hF,hb,hl=>by
  obtain⟨h1,h2⟩:=hb e (by simp);simp only[Aef] at hF hl;have hx:S.reverse.length=S.length:=by simp
  generalize hxs:S.reverse=xs at hx;have hr:(e::S).reverse=xs++[e]:=by simp[hxs]
  rw[hr];have hb1:E0 (xs++[e])=bif decide (1<e.fLeft) then some (.out (.ret (xs++[⟨e.fPairs,e.fLeft-1,e.fPairs,e.fLast,e.fStarted⟩]))) else some (.next xs):=by
   unfold E0;rw[AC (by simp)];simp only[My,O0,LZ,MJ];rw[A4 (by omega) (by omega),AW (by omega) (by simp;omega),A4 (by omega) (by omega)]
   cases hd:decide (1<e.fLeft) with
   | true=>
    rw[AC (by simp at hd ⊢;omega)];rfl
   | false=>
    rw[A2 (by simp at hd ⊢;omega),A4 (by omega) (by omega),BN (by omega) (by simp;omega),VY];rfl
  rw[BJ,hb1]
  cases hd:decide (1<e.fLeft) with
  | true=>exact⟨_,rfl,by simp[BE,Gn,NI,hd,hxs]⟩
  | false=>
   obtain⟨o,ho1,ho2⟩:=N5 S F (by omega) (λe he=>hb e (by simp[he])) (by omega);rw[hxs] at ho1;exact⟨o,ho1,by rw[ho2];simp[NI,hd]⟩
theorem OI {S:List AH}{F:Nat}(hF:S.length<F)(hb:∀e∈S,1≤e.fLeft∧e.fLeft≤9223372036854775807)(hl:S.length≤4611686018427387904):LV F S.reverse=some (NI S).reverse:=by
 obtain⟨o,h1,h2⟩:=N5 S F hF hb hl;unfold LV;rw[AI h1,h2]
def Na (s:Af):Int:=s.length+2+s.count 34+s.count 92
theorem OE {s:Af}(hs:s.length≤1152921504606846976):KE s=some (Na s):=by
 have h1:s.count 34≤s.length:=List.count_le_length;have h2:s.count 92≤s.length:=List.count_le_length;unfold KE Lib.countByte;rw[A4 (by omega) (by omega),A4 (by omega) (by omega),A4 (by omega) (by omega)];rfl
def szc (c:Aa):Int:=
 bif decide (c.fKind=1) then 4 else bif decide (c.fKind=2) then IntKind.wrap .i64 (5-c.fInt) else bif decide (c.fKind=3) then((Lib.itoa c.fInt).length:Int) else
 bif decide (c.fKind=4) then Na c.fStr else IntKind.wrap .i64 (2+max 0 (IntKind.wrap .i64 (c.fN-1)))
theorem RS {c:Aa}(hs:c.fStr.length≤1152921504606846976)(hi:Bs .i64 c.fInt=true):RT c=some (szc c):=by
 unfold RT szc;rw[OE hs];refine Gd rfl (Gd rfl (Gd ?_ (Gd rfl rfl)));rw[B7 hi]
def JY (d:Nat)(sh:AP)(c:Aa):AP:=
 ⟨max sh.fDepth ((d:Int)+1),IntKind.wrap .i64 (sh.fBytes+szc c),sh.fOutside||(decide (c.fKind=3)&&!(decide ((-1000000000000)≤c.fInt)&&decide (c.fInt≤1000000000000))),sh.fLong||decide (200<(c.fStr.length:Int))⟩
def shk (sh:AP)(c:Aa):AP:=⟨sh.fDepth,IntKind.wrap .i64 (sh.fBytes+(Na c.fStr+1)),sh.fOutside,sh.fLong||decide (200<(c.fStr.length:Int))⟩
def Nl:List AH→Bool
 | []=>false
 | e::_=>e.fKey
abbrev RC:=List AH×Int×AP
abbrev LkO:=Out (Int×AP×Bool) AP
def TE (n:Int)(S:List AH)(i:Int)(sh:AP)(c:Aa):Stp RC LkO:=
 bif !pl c then .out (.ret (0,sh,false)) else
 match S with
 | e::S'=>
  bif e.fKey then
   bif !decide (c.fKind=4)||(e.fStarted&&(BR c.fStr e.fLast||decide (c.fStr=e.fLast))) then .out (.ret (0,sh,false))
   else .next ((⟨e.fPairs,e.fLeft,false,c.fStr,true⟩::S').reverse,i+1,shk sh c)
  else bif decide (0<c.fN) then
   bif decide (n<c.fN) then .out (.ret (0,JY S.length sh c,false))
   else .next ((⟨decide (c.fKind=6),c.fN,decide (c.fKind=6),[],false⟩::S).reverse,i+1,JY S.length sh c)
  else bif decide (NI S=[]) then .out (.ret (i+1,JY S.length sh c,true)) else .next ((NI S).reverse,i+1,JY S.length sh c)
 | []=>
  bif decide (0<c.fN) then
   bif decide (n<c.fN) then .out (.ret (0,JY 0 sh c,false))
   else .next ([⟨decide (c.fKind=6),c.fN,decide (c.fKind=6),[],false⟩],i+1,JY 0 sh c)
  else .out (.ret (i+1,JY 0 sh c,true))
theorem PB {S:List AH}:decide (((NI S).reverse.length:Int)=0)=decide (NI S=[]):=by
 rw[Aev];simp
theorem Adw {α:Type}{xs:List α}{e x:α}{M:Nat}(h:xs.length+1≤M)(hM2:(M+2)*48≤140737488355328):Dw 48 ((xs++[e]).length+([x]:List α).length)=true:=by
 refine Aei (Nat.le_trans (Nat.mul_le_mul_right 48 ?_) hM2);rw[Aen,AeC,AeC];omega
set_option maxHeartbeats 600000 in
theorem Sb {F:Nat}{v:List Aa}{S:List AH}{i:Int}{sh:AP}{c:Aa}(h0:0≤i)(hc:v[i.toNat]? =some c){M:Nat}(hM:M≤1152921504606846976)(hM2:(M+2)*48≤140737488355328)(hv:v.length≤M)(hS:S.length≤M)(hF:M<F)
  (hs:c.fStr.length≤M) (hi:Bs .i64 c.fInt=true) (hb:∀e∈S,1≤e.fLeft∧e.fLeft≤9223372036854775807):Ez F v S.reverse i sh=some (TE v.length S i sh c):=by
 have hil:i.toNat<v.length:=(List.getElem?_eq_some_iff.1 hc).1;have hat:Aq v i=c:=by simp[Aq,hc]
 unfold Ez TE;rw[AC (by simp;omega),AW h0 (by omega),hat,VS (by omega) (by omega),AI rfl]
 cases hp:pl c with
 | false=>rw[AC (by simp)];rfl
 | true=>
  rw[A2 (by simp)]
  cases S with
  | nil=>
   rw[B7 (by simp[imp]),B7 (by simp[imp]),A2 (by simp),A4 (by simp) (by simp),RS (by omega) hi,AI rfl,B7 (by simp[imp,BU])];simp only[BU,ov,AeH,Aes,Aeh]
   cases hn:decide (0<c.fN) with
   | true=>
    rw[AC rfl]
    cases hm:decide ((v.length:Int)<c.fN) with
    | true=>rw[AC rfl];simp[JY]
    | false=>rw[A2 rfl,B7 (by simp[Dw])];unfold EX;rw[A4 (by omega) (by omega)];simp[JY]
   | false=>
    rw[A2 rfl,AI (OI (S:=[]) (by simp;omega) (by simp) (by simp)),AC (by simp[NI]),A4 (by omega) (by omega)];simp[JY]
  | cons e S'=>
   have hx:S'.reverse.length=S'.length:=by simp
   generalize hxs:S'.reverse=xs at hx;have hr:(e::S').reverse=xs++[e]:=by simp[hxs]
   simp only[Aef] at hS;have hlen:((xs++[e]).length:Int)=(xs.length:Int)+1:=by simp
   rw[hr,B7 (by simp only[imp,My];rw[Hm (by omega) (by omega)];simp),B7 (by simp only[imp,My];rw[Li (by omega) (by omega)];simp)];rw[My,O0]
   cases hk:e.fKey with
   | true=>
    rw[AC (by simp),A4 (by omega) (by omega),AW (by omega) (by omega)];simp only[hk,Aes,Aeh,Aek]
    cases ht : !decide (c.fKind=4)||(e.fStarted&&(BR c.fStr e.fLast||decide (c.fStr=e.fLast))) with
    | true=>rw[AC rfl];rfl
    | false=>
     rw[A2 rfl,LZ,MJ,O0,LZ,MJ,O0,LZ,MJ,OE (by omega),AI rfl,A4 (by unfold Na;omega) (by unfold Na;have:=@List.count_le_length UInt8 _ 34 c.fStr;have:=@List.count_le_length UInt8 _ 92 c.fStr;omega)];unfold EX;rw[A4 (by omega) (by omega)];simp[shk,hxs]
   | false=>
    rw[A2 (by simp),hlen,A4 (by omega) (by omega),RS (by omega) hi,AI rfl,B7 (by simp[imp,BU])];simp only[hk,BU,ov,AeH,Aes,Aeh,Aek]
    cases hn:decide (0<c.fN) with
    | true=>
     rw[AC rfl]
     cases hm:decide ((v.length:Int)<c.fN) with
     | true=>rw[AC rfl];simp[JY,hx]
     | false=>rw[A2 rfl,B7 (Adw (by omega) hM2)];unfold EX;rw[A4 (by omega) (by omega)];simp[JY,hx,hxs]
    | false=>
     have hcl:=OI (S:=e::S') (F:=F) (by simp;omega) hb (by simp;omega);rw[hr] at hcl;rw[A2 rfl,hcl,AI rfl,PB]
     cases hq:decide (NI (e::S')=[]) with
     | true=>rw[AC rfl,A4 (by omega) (by omega)];simp[JY,hx]
     | false=>rw[A2 rfl];unfold EX;rw[A4 (by omega) (by omega)];simp[JY,hx]
section
variable {S O : Type} {body : S → Option (Stp S O)} {s t u : S} {o : O}
def Gg (body:S→Option (Stp S O))(s t:S):Prop:=∃k,∀n,BJ body (n+k) s=BJ body n t
def Fin (body:S→Option (Stp S O))(s:S)(o:O):Prop:=∃k,∀n,BJ body (n+k) s=some o
theorem Gg.refl (s:S):Gg body s s:=⟨0,λ_=>rfl⟩
theorem Gg.trans (h:Gg body s t)(h':Gg body t u):Gg body s u:=by
 obtain⟨k,hk⟩:=h;obtain⟨j,hj⟩:=h';exact⟨j+k,λn=>by rw[← Nat.add_assoc,hk,hj]⟩
theorem Gg.step (h:body s=some (.next t)):Gg body s t:=⟨1,λn=>by rw[BJ,h]⟩
theorem Fin.step (h:body s=some (.out o)):Fin body s o:=⟨1,λn=>by rw[BJ,h]⟩
theorem Gg.fin (h:Gg body s t)(h':Fin body t o):Fin body s o:=by
 obtain⟨k,hk⟩:=h;obtain⟨j,hj⟩:=h';exact⟨j+k,λn=>by rw[← Nat.add_assoc,hk,hj]⟩
end
inductive Fo where
 | nil
 | cell (k:Option Af) (c:Aa) (r:Fo)
 | node (k:Option Af) (c:Aa) (kids r:Fo)
def B4:Option Af→List Aa
 | none=>[]
 | some s=>[⟨4,0,s,0⟩]
def Fo.flat:Fo→List Aa
 | .nil=>[]
 | .cell k c r=>B4 k++c::r.flat
 | .node k c kids r=>B4 k++c::(kids.flat++r.flat)
def Fo.cnt:Fo→Nat
 | .nil=>0
 | .cell _ _ r=>r.cnt+1
 | .node _ _ _ r=>r.cnt+1
def B6 (m:Bool)(last:Option Af):Option Af→Bool
 | none=>!m
 | some s=>m&&s.all KO&&(match last with
  | none=>true
  | some p=>!(BR s p||decide (s=p)))
def Fo.wf:Bool→Option Af→Fo→Bool
 | _,_,.nil=>true
 | m,last,.cell k c r=>B6 m last k&&pl c&&!decide (0<c.fN)&&r.wf m k
 | m,last,.node k c kids r=>B6 m last k&&pl c&&decide (0<c.fN)&&decide (c.fN=kids.cnt)&&kids.wf (decide (c.fKind=6)) none&&r.wf m k
def N8 (k:Option Af)(sh:AP):AP:=match k with
 | none=>sh
 | some s=>shk sh ⟨4,0,s,0⟩
def Fo.sh (d:Nat):AP→Fo→AP
 | s,.nil=>s
 | s,.cell k c r=>r.sh d (JY d (N8 k s) c)
 | s,.node k c kids r=>r.sh d (kids.sh (d+1) (JY d (N8 k s) c))
def IP (body:RC→Option (Stp RC LkO))(s:RC)(S:List AH)(i:Int)(sh:AP):Prop:=
 if NI S=[] then Fin body s (.ret (i,sh,true)) else Gg body s ((NI S).reverse,i,sh)
theorem IP.of {body:RC→Option (Stp RC LkO)}{s t:RC}{S:List AH}{i:Int}{sh:AP}(h:Gg body s t)(h':IP body t S i sh):IP body s S i sh:=by
 unfold IP at *
 split
 ·rename_i e;rw[AeY e] at h';exact h.fin h'
 ·rename_i e;rw[AeK e] at h';exact h.trans h'
theorem IP.pop {body:RC→Option (Stp RC LkO)}{s:RC}{e:AH}{S:List AH}{i:Int}{sh:AP}(h:IP body s (e::S) i sh)(h1:e.fLeft=1):IP body s S i sh:=by
 have:NI (e::S)=NI S:=by simp[NI,h1]
 unfold IP at *;rw[this] at h;exact h
theorem IP.more {body:RC→Option (Stp RC LkO)}{s:RC}{e:AH}{S:List AH}{i:Int}{sh:AP}(h:IP body s (e::S) i sh)(h1:1<e.fLeft):Gg body s ((⟨e.fPairs,e.fLeft-1,e.fPairs,e.fLast,e.fStarted⟩::S).reverse,i,sh):=by
 have:NI (e::S)=⟨e.fPairs,e.fLeft-1,e.fPairs,e.fLast,e.fStarted⟩::S:=by simp[NI,h1]
 unfold IP at *;rw[this,AeK (by simp)] at h;exact h
structure VE (F M:Nat) (v:List Aa):Prop where
 hM:M≤1152921504606846976
 hM2:(M+2)*48≤140737488355328
 hv:v.length≤M
 hF:M<F
 hc:∀c∈v,c.fStr.length≤M∧Bs .i64 c.fInt=true∧c.fN≤9223372036854775807
abbrev Tc (F:Nat)(v:List Aa):RC→Option (Stp RC LkO):=λσ=>Ez F v σ.1 σ.2.1 σ.2.2
def EA (S:List AH):Prop:=∀e∈S,1≤e.fLeft∧e.fLeft≤9223372036854775807
section
variable {F M : Nat} {v : List Aa} {S : List AH} {i : Int} {sh : AP} {c : Aa} {r : List Aa} {e : AH}
theorem C0 (h0:0≤i)(h:v.drop i.toNat=c::r):v[i.toNat]? =some c∧v.drop (i+1).toNat=r∧i<v.length:=by
 have h1:(v.drop i.toNat)[0]? =some c:=by rw[h];rfl
 have h2:v[i.toNat]? =some c:=by simpa using h1
 have h3:=(List.getElem?_eq_some_iff.1 h2).1;refine⟨h2,?_,by omega⟩;rw[show(i+1).toNat=i.toNat+1 from by omega,← Afb,h];rfl
theorem round (hA:VE F M v)(h0:0≤i)(h:v.drop i.toNat=c::r)(hS:(S.length:Int)≤i)(hb:EA S):Tc F v (S.reverse,i,sh)=some (TE v.length S i sh c):=by
 obtain⟨h1,_,h3⟩:=C0 h0 h;obtain⟨a,b,_⟩:=hA.hc c (Aet h1);have:=hA.hv;exact Sb h0 h1 hA.hM hA.hM2 hA.hv (by omega) hA.hF a b hb
def H5 (e:AH):Option Af→AH
 | none=>e
 | some s=>⟨e.fPairs,e.fLeft,false,s,true⟩
def Ku (e:AH):Option Af→Prop
 | none=>e.fStarted=false
 | some p=>e.fStarted=true∧e.fLast=p
theorem Pr (hA:VE F M v)(h0:0≤i){k last:Option Af}(h:v.drop i.toNat=B4 k++r)(hS:(S.length:Int)+1≤i)(hb:EA (e::S))(hk:B6 e.fKey last k=true)(hl:Ku e last) :
  Gg (Tc F v) ((e::S).reverse,i,sh) ((H5 e k::S).reverse,i+(B4 k).length,N8 k sh):=by
 cases k with
 | none=>simpa[H5,B4,N8] using Gg.refl _
 | some s=>
  simp only[B6,Aej] at hk;obtain⟨⟨hm,hok⟩,hcmp⟩:=hk;refine Gg.step ?_;rw[round hA h0 (by simpa[B4] using h) (by simpa using hS) hb];have hp:pl ⟨4,0,s,0⟩=true:=by simp[pl,hok]
  have ht:(e.fStarted&&(BR s e.fLast||decide (s=e.fLast)))=false:=by
   cases last with
   | none=>simp only[Ku] at hl;rw[hl];rfl
   | some p=>obtain⟨h1,h2⟩:=hl;rw[h1,h2];simpa using hcmp
  simp only[TE,hp,hm,ht,Aes,Aeh,Aek,decide_true,Ae6,Bool.or_self];rfl
theorem Nk {k last:Option Af}(hk:B6 e.fKey last k=true):(H5 e k).fKey=false:=by
 cases k with
 | none=>simpa[H5,B6] using hk
 | some s=>rfl
theorem LC (k:Option Af):(H5 e k).fLeft=e.fLeft∧(H5 e k).fPairs=e.fPairs:=by cases k<;>exact⟨rfl,rfl⟩
theorem Ni (hA:VE F M v)(h0:0≤i)(h:v.drop i.toNat=c::r)(hS:(S.length:Int)≤i)(hb:EA S)(hk:Nl S=false)(hp:pl c=true)(hn:decide (0<c.fN)=false) :
  IP (Tc F v) (S.reverse,i,sh) S (i+1) (JY S.length sh c):=by
 have hr:=round (sh:=sh) hA h0 h hS hb;unfold IP
 cases S with
 | nil=>
  rw[AeY (by simp[NI])];refine Fin.step ?_;rw[hr];simp[TE,hp,hn]
 | cons e S=>
  simp only[Nl] at hk
  split
  ·rename_i hc
   refine Fin.step ?_;rw[hr];simp[TE,hp,hn,hk,hc]
  ·rename_i hc
   refine Gg.step ?_;rw[hr];simp[TE,hp,hn,hk,hc]
theorem KQ (hA:VE F M v)(h0:0≤i)(h:v.drop i.toNat=c::r)(hS:(S.length:Int)≤i)(hb:EA S)(hk:Nl S=false)(hp:pl c=true)(hn:decide (0<c.fN)=true)(hv:c.fN≤v.length) :
  Gg (Tc F v) (S.reverse,i,sh) ((⟨decide (c.fKind=6),c.fN,decide (c.fKind=6),[],false⟩::S).reverse,i+1,JY S.length sh c):=by
 have hr:=round (sh:=sh) hA h0 h hS hb;have hv':decide ((v.length:Int)<c.fN)=false:=by simpa using hv
 refine Gg.step ?_;rw[hr]
 cases S with
 | nil=>simp only[TE,hp,hn,hv',Aes,Aeh,Aek];rfl
 | cons e S=>
  simp only[Nl] at hk;simp only[TE,hp,hn,hv',hk,Aes,Aeh,Aek]
theorem Cv:∀f:Fo,f.cnt≤f.flat.length
 | .nil=>AeA _
 | .cell k c r=>by have:=Cv r;simp[Fo.cnt,Fo.flat];omega
 | .node k c kids r=>by have:=Cv r;simp[Fo.cnt,Fo.flat];omega
theorem CM {α:Type}{v xs r:List α}{i:Int}(h0:0≤i)(h:v.drop i.toNat=xs++r):v.drop (i+xs.length).toNat=r:=by
 rw[show(i+(xs.length:Int)).toNat=i.toNat+xs.length from by omega,← Afb,h,List.drop_left]
theorem Sm (hA:VE F M v){e':AH}{s:RC}{k:Option Af}{r':Fo}
  (ih:∀(e:AH) (S:List AH) (i:Int) (sh:AP) (last:Option Af) (r:List Aa),1≤r'.cnt→r'.wf e.fPairs last=true→e.fKey=e.fPairs→e.fLeft=r'.cnt→Ku e last→(e.fPairs=false→last=none)→v.drop i.toNat=r'.flat++r→0≤i→(S.length:Int)+1≤i→EA S→
   IP (Tc F v) ((e::S).reverse,i,sh) S (i+r'.flat.length) (r'.sh (S.length+1) sh))
  (hd:IP (Tc F v) s (e'::S) i sh) (hl:e'.fLeft=r'.cnt+1) (hw:r'.wf e'.fPairs k=true) (hk:Ku e' k) (hm:e'.fPairs=false→k=none) (hv:v.drop i.toNat=r'.flat++r) (h0:0≤i) (hS:(S.length:Int)+1≤i) (hb:EA S) :
  IP (Tc F v) s S (i+r'.flat.length) (r'.sh (S.length+1) sh):=by
 by_cases h1:r'.cnt=0
 ·cases r' with
  | nil=>simpa[Fo.flat,Fo.sh] using hd.pop (by rw[hl];rfl)
  | cell _ _ _=>simp[Fo.cnt] at h1
  | node _ _ _ _=>simp[Fo.cnt] at h1
 ·have:=hd.more (by omega);refine IP.of this (ih _ S i sh k r (by omega) hw rfl (by simp only;omega) ?_ hm hv h0 hS hb)
  cases k with
  | none=>exact hk
  | some p=>exact hk
theorem LD {k last:Option Af}(hl:Ku e last)(hm:e.fPairs=false→last=none)(hk:B6 e.fPairs last k=true):Ku (H5 e k) k∧((H5 e k).fPairs=false→k=none):=by
 cases k with
 | none=>
  have:e.fPairs=false:=by simpa[B6] using hk
  rw[hm this] at hl;exact⟨hl,λ_=>rfl⟩
 | some s=>
  refine⟨⟨rfl,rfl⟩,λh=>?_⟩;have h:e.fPairs=false:=h;simp[B6,h] at hk
theorem NH (hA:VE F M v):∀(f:Fo) (e:AH) (S:List AH) (i:Int) (sh:AP) (last:Option Af) (r:List Aa),1≤f.cnt→f.wf e.fPairs last=true→e.fKey=e.fPairs→e.fLeft=f.cnt→Ku e last→(e.fPairs=false→last=none)→v.drop i.toNat=f.flat++r→0≤i→(S.length:Int)+1≤i→EA S→
   IP (Tc F v) ((e::S).reverse,i,sh) S (i+f.flat.length) (f.sh (S.length+1) sh):=by
 have hmax:∀(i:Int) (xs:List Aa),0≤i→v.drop i.toNat=xs→xs.length≤v.length:=λi xs _ h=>by rw[← h,Afc];omega
 intro f
 induction f with
 | nil=>intro e S i sh last r h1;simp[Fo.cnt] at h1
 | cell k c r' ih=>
  intro e S i sh last r h1 hw hk hl hlo hm hv h0 hS hb;simp only[Fo.wf,Aej,Aex] at hw;obtain⟨⟨⟨w1,w2⟩,w3⟩,w4⟩:=hw;simp only[Fo.flat,Ae5,AeO] at hv;have hcnt:=hmax i _ h0 hv;have hcf:=Cv r';simp only[Aen,Aef] at hcnt;have hvM:=hA.hv;have hMM:=hA.hM;simp only[Fo.cnt] at hl;have hb':EA (e::S):=λx hx=>by
   rcases List.mem_cons.1 hx with rfl | hx
   ·constructor<;>omega
   ·exact hb x hx
  have hkr:=Pr (sh:=sh) hA h0 hv hS hb' (by rw[hk];exact w1) hlo;have hv1:=CM h0 hv;obtain⟨kl,kp⟩:=LC (e:=e) k;have hbk:EA (H5 e k::S):=λx hx=>by
   rcases List.mem_cons.1 hx with rfl | hx
   ·rw[kl];exact hb' e (by simp)
   ·exact hb x hx
  have hd:=Ni (sh:=N8 k sh) hA (by omega) hv1 (by simp only[Aef];omega) hbk (Nk (by rw[hk];exact w1)) w2 w3;obtain⟨q1,q2⟩:=LD hlo hm w1;have hv2:=(C0 (by omega) hv1).2.1;have:=Sm hA ih (hd.of hkr) (by rw[kl,hl];rfl) (by rw[kp];exact w4) q1 q2 hv2 (by omega) (by omega) hb;simp only[Fo.flat,Fo.sh,Aen,Aef];rw[show i+((((B4 k).length+(r'.flat.length+1):Nat)):Int)=i+(B4 k).length+1+r'.flat.length from by omega];exact this
 | node k c kids r' ihk ih=>
  intro e S i sh last r h1 hw hk hl hlo hm hv h0 hS hb;simp only[Fo.wf,Aej,Aed] at hw;obtain⟨⟨⟨⟨⟨w1,w2⟩,w3⟩,w5⟩,w6⟩,w4⟩:=hw;simp only[Fo.flat,Ae5,AeO] at hv;have hcnt:=hmax i _ h0 hv;have hcf:=Cv r';have hck:=Cv kids;simp only[Aen,Aef] at hcnt;have hvM:=hA.hv;have hMM:=hA.hM;simp only[Fo.cnt] at hl;have hb':EA (e::S):=λx hx=>by
   rcases List.mem_cons.1 hx with rfl | hx
   ·constructor<;>omega
   ·exact hb x hx
  have hkr:=Pr (sh:=sh) hA h0 hv hS hb' (by rw[hk];exact w1) hlo;have hv1:=CM h0 hv;obtain⟨kl,kp⟩:=LC (e:=e) k;have hbk:EA (H5 e k::S):=λx hx=>by
   rcases List.mem_cons.1 hx with rfl | hx
   ·rw[kl];exact hb' e (by simp)
   ·exact hb x hx
  have hn:=KQ (sh:=N8 k sh) hA (by omega) hv1 (by simp only[Aef];omega) hbk (Nk (by rw[hk];exact w1)) w2 (by simpa using w3) (by omega);have hv2:=(C0 (by omega) hv1).2.1;have hd:=ihk ⟨decide (c.fKind=6),c.fN,decide (c.fKind=6),[],false⟩ (H5 e k::S) (i+(B4 k).length+1) (JY (S.length+1) (N8 k sh) c) none _ (by omega) w6 rfl w5 rfl (λ_=>rfl) hv2 (by omega) (by simp only[Aef];omega) hbk;obtain⟨q1,q2⟩:=LD hlo hm w1;have hv3:=CM (by omega) hv2;have:=Sm hA ih ((hd.of hn).of hkr) (by rw[kl,hl];rfl) (by rw[kp];exact w4) q1 q2 hv3 (by omega) (by omega) hb;simp only[Fo.flat,Fo.sh,Aen,Aef];rw[show i+((((B4 k).length+(kids.flat.length+r'.flat.length+1):Nat)):Int)=i+(B4 k).length+1+kids.flat.length+r'.flat.length from by omega];exact this
end
theorem SZ {S O:Type}{body:S→Option (Stp S O)}{o:O}:∀{n:Nat} {s:S} (k:Nat),BJ body n s=some o→BJ body (n+k) s=some o
 | 0,s,k,h=>by cases h
 | n+1,s,k,h=>by
  rw[show n+1+k=n+k+1 from by omega,BJ];rw[BJ] at h
  cases hb:body s with
  | none=>rw[hb] at h;cases h
  | some t=>
   rw[hb] at h
   cases t with
   | next s'=>exact SZ k h
   | out o'=>exact h
theorem Fin.eq {S O:Type}{body:S→Option (Stp S O)}{s:S}{o o':O}{n:Nat}(h:Fin body s o)(h':BJ body n s=some o'):o'=o:=by
 obtain⟨k,hk⟩:=h;have:=SZ k h';rw[hk n] at this;exact(Au this).symm
theorem QL:∀{S:List AH},EA S→EA (NI S)∧(NI S).length≤S.length
 | [],h=>⟨h,AeA _⟩
 | e::S,h=>by
  have hS:EA S:=λx hx=>h x (by simp[hx]);have he:=h e (by simp);unfold NI
  cases hd:decide (1<e.fLeft) with
  | true=>
   simp only[Aed] at hd;refine⟨λx hx=>?_,by simp⟩;rcases List.mem_cons.1 hx with rfl | hx
   ·simp only;omega
   ·exact hS x hx
  | false=>
   obtain⟨h1,h2⟩:=QL hS;exact⟨h1,by simp only[Aeh,Aef];omega⟩
theorem YT {n:Int}{S:List AH}{i:Int}{sh:AP}{c:Aa}{σ:RC}(hb:EA S)(hS:(S.length:Int)≤i)(hN:c.fN≤9223372036854775807)(h:TE n S i sh c = .next σ):∃S' sh',σ=(S'.reverse,i+1,sh')∧EA S'∧(S'.length:Int)≤i+1:=by
 unfold TE at h
 cases hp:pl c with
 | false=>simp[hp] at h
 | true=>
  simp only[hp,Aes,Aeh] at h
  cases S with
  | nil=>
   simp only at h
   cases hn:decide (0<c.fN) with
   | false=>simp[hn] at h
   | true=>
    simp only[hn,Aek] at h
    cases hm:decide (n<c.fN) with
    | true=>simp[hm] at h
    | false=>
     simp only[hm,Aeh,Stp.next.injEq] at h;refine⟨[_],_,h.symm,λx hx=>?_,by simp at hS ⊢;omega⟩;simp only[AeM] at hx;subst hx;simp only[Aed] at hn;exact⟨by simp only;omega,hN⟩
  | cons e S=>
   have he:=hb e (by simp);have hbS:EA S:=λx hx=>hb x (by simp[hx]);simp only[Aef] at hS
   cases hk:e.fKey with
   | true=>
    simp only[hk,Aek] at h
    cases hq:(!decide (c.fKind=4)||(e.fStarted&&(BR c.fStr e.fLast||decide (c.fStr=e.fLast)))) with
    | true=>rw[hq] at h;simp at h
    | false=>
     rw[hq] at h;simp only[Aeh,Stp.next.injEq] at h;refine⟨_::S,_,h.symm,λx hx=>?_,by simp only[Aef];omega⟩;rcases List.mem_cons.1 hx with rfl | hx
     ·exact he
     ·exact hbS x hx
   | false=>
    simp only[hk,Aeh] at h
    cases hn:decide (0<c.fN) with
    | true=>
     simp only[hn,Aek] at h
     cases hm:decide (n<c.fN) with
     | true=>simp[hm] at h
     | false=>
      simp only[hm,Aeh,Stp.next.injEq] at h;refine⟨_::e::S,_,h.symm,λx hx=>?_,by simp only[Aef];omega⟩;rcases List.mem_cons.1 hx with rfl | hx
      ·simp only[Aed] at hn;exact⟨by simp only;omega,hN⟩
      ·exact hb x hx
    | false=>
     simp only[hn,Aeh] at h
     cases hq:decide (NI (e::S)=[]) with
     | true=>rw[hq] at h;simp at h
     | false=>
      rw[hq] at h;simp only[Aeh,Stp.next.injEq] at h;obtain⟨h1,h2⟩:=QL hb;simp only[Aef] at h2;exact⟨_,_,h.symm,h1,by omega⟩
theorem Pi {F M:Nat}{v:List Aa}(hA:VE F M v):∃o,BJ (Tc F v) F (([]:List AH),0,(⟨0,0,false,false⟩:AP))=some o∧True:=by
 refine Gi (λσ=>∃S i sh,σ=(S.reverse,i,sh)∧EA S∧(S.length:Int)≤i∧0≤i∧i≤v.length) (λσ=>v.length-σ.2.1.toNat) (λ_=>True) (λσ hI=>?_) F _ ⟨[],0,_,rfl,(λx hx=>by cases hx),Ae8 _,Ae8 _,by omega⟩ (by have:=hA.hv;have:=hA.hF;simp;omega);obtain⟨S,i,sh,rfl,hb,hS,h0,hi⟩:=hI
 by_cases hx:i<v.length
 ·obtain⟨c,hc⟩:∃c,v[i.toNat]? =some c:=⟨v[i.toNat]'(by omega),Aeq (by omega)⟩
  have hdr:v.drop i.toNat=c::v.drop (i.toNat+1):=by rw[List.drop_eq_getElem_cons (by omega)];congr 1;exact(List.getElem?_eq_some_iff.1 hc).2
  have hr:=round (sh:=sh) hA h0 hdr hS hb
  cases hl:TE v.length S i sh c with
  | next τ=>
   obtain⟨S',sh',rfl,h1,h2⟩:=YT hb hS (hA.hc c (Aet hc)).2.2 hl;exact .inl ⟨_,by rw[hr,hl],⟨S',i+1,sh',rfl,h1,h2,by omega,by omega⟩,by simp only;omega⟩
  | out o=>exact .inr ⟨o,by rw[hr,hl],trivial⟩
 ·refine .inr ⟨.go sh,?_,trivial⟩;show Ez F v S.reverse i sh=_;unfold Ez;rw[A2 (by simpa using hx)]
def Fo.one:Fo→Bool
 | .cell none _ .nil=>true
 | .node none _ _ .nil=>true
 | _=>false
def OO:AP:=⟨0,0,false,false⟩
theorem YS {F M:Nat}{v:List Aa}(hA:VE F M v){f:Fo}(h1:f.one=true)(hw:f.wf false none=true){r:List Aa}(hv:v=f.flat++r):Fin (Tc F v) ([],0,OO) (.ret (f.flat.length,f.sh 0 OO,true)):=by
 have h0:v.drop (0:Int).toNat=f.flat++r:=by rw[hv];rfl
 have hlen:f.flat.length≤v.length:=by rw[hv];simp
 cases f with
 | nil=>cases h1
 | cell k c r'=>
  cases k with
  | some s=>cases h1
  | none=>
   cases r' with
   | nil=>
    simp only[Fo.wf,Aej,Aex] at hw;have:=Ni (S:=[]) (sh:=OO) hA (Ae8 0) h0 (by simp) (λx hx=>by cases hx) rfl hw.1.1.2 hw.1.2;unfold IP at this;rw[AeY (show NI []=[] from rfl)] at this;simpa[Fo.flat,Fo.sh,B4,N8] using this
   | cell _ _ _=>cases h1
   | node _ _ _ _=>cases h1
 | node k c kids r'=>
  cases k with
  | some s=>cases h1
  | none=>
   cases r' with
   | nil=>
    simp only[Fo.wf,Aej,Aed] at hw;obtain⟨⟨⟨⟨⟨w1,w2⟩,w3⟩,w5⟩,w6⟩,w4⟩:=hw;have hck:=Cv kids;simp only[Fo.flat,B4,AeE,AeF,Aef] at hlen;have hvM:=hA.hv;have hMM:=hA.hM;have hn:=KQ (S:=[]) (sh:=OO) hA (Ae8 0) h0 (by simp) (λx hx=>by cases hx) rfl w2 (by simpa using w3) (by omega);have hv2:=(C0 (Ae8 0) h0).2.1;have hd:=NH hA kids ⟨decide (c.fKind=6),c.fN,decide (c.fKind=6),[],false⟩ [] (0+1) (JY 0 OO c) none r (by omega) w6 rfl w5 rfl (λ_=>rfl) (by rw[hv2];simp[Fo.flat]) (by omega) (by simp) (λx hx=>by cases hx);unfold IP at hd;rw[AeY (show NI []=[] from rfl)] at hd;have:=hn.fin hd;have e:((0:Int)+1+kids.flat.length)=((Fo.node none c kids .nil).flat.length:Int):=by simp[Fo.flat,B4];omega
    rw[e] at this;exact this
   | cell _ _ _=>cases h1
   | node _ _ _ _=>cases h1
theorem Tb {F M:Nat}{v:List Aa}(hA:VE F M v){f:Fo}(h1:f.one=true)(hw:f.wf false none=true){r:List Aa}(hv:v=f.flat++r):JP F v=some ((f.flat.length:Int),f.sh 0 OO,true):=by
 obtain⟨o,ho,_⟩:=Pi hA;have e:=(YS hA h1 hw hv).eq ho;subst e;unfold JP;rw[AI ho];rfl
def Ji (m:Bool)(last:Option Af)(xs:List Aa):Option (Option Af×List Aa):=
 bif m then match xs with
  | []=>none
  | c::r=>bif pl c&&decide (c.fKind=4)&&B6 true last (some c.fStr) then some (some c.fStr,r) else none
 else some (none,xs)
def J2:Nat→Bool→Option Af→Nat→List Aa→Option (Fo×List Aa)
 | 0,_,_,_,_=>none
 | _+1,_,_,0,xs=>some (.nil,xs)
 | F+1,m,last,k+1,xs=>
  match Ji m last xs with
  | none=>none
  | some (_,[])=>none
  | some (key,c::xs')=>
   bif !pl c then none else
   bif decide (0<c.fN) then
    match J2 F (decide (c.fKind=6)) none c.fN.toNat xs' with
    | none=>none
    | some (kids,ys)=>match J2 F m key k ys with
     | none=>none
     | some (r,zs)=>some (.node key c kids r,zs)
   else match J2 F m key k xs' with
    | none=>none
    | some (r,zs)=>some (.cell key c r,zs)
theorem Rg {c:Aa}(hp:pl c=true)(hk:c.fKind=4):c=⟨4,0,c.fStr,0⟩∧c.fStr.all KO=true:=by
 cases c
 simp only at hk;subst hk;simp[pl] at hp;obtain⟨h1,h2,h3⟩:=hp;subst h1;subst h2;exact⟨rfl,by simpa using h3⟩
theorem Oi {m:Bool}{last key:Option Af}{xs r:List Aa}(h:Ji m last xs=some (key,r)):xs=B4 key++r∧B6 m last key=true:=by
 unfold Ji at h
 cases m with
 | false=>cases h;exact⟨rfl,rfl⟩
 | true=>
  simp only[Aek] at h
  cases xs with
  | nil=>cases h
  | cons c r'=>
   simp only at h
   cases hb:(pl c&&decide (c.fKind=4)&&B6 true last (some c.fStr)) with
   | false=>rw[hb] at h;cases h
   | true=>
    rw[hb] at h;simp only[Aej,Aed] at hb
    cases h
    exact⟨by rw[(Rg hb.1.1 hb.1.2).1];rfl,hb.2⟩
theorem IJ:∀(F:Nat) (m:Bool) (last:Option Af) (k:Nat) (xs:List Aa) (f:Fo) (ys:List Aa),J2 F m last k xs=some (f,ys)→xs=f.flat++ys∧f.wf m last=true∧f.cnt=k
 | 0,_,_,_,_,_,_,h=>by cases h
 | F+1,m,last,0,xs,f,ys,h=>by cases h;exact⟨rfl,rfl,rfl⟩
 | F+1,m,last,k+1,xs,f,ys,h=>by
  rw[J2] at h
  cases hk:Ji m last xs with
  | none=>rw[hk] at h;cases h
  | some p=>
   obtain⟨key,r⟩:=p;obtain⟨h1,h2⟩:=Oi hk;rw[hk] at h
   cases r with
   | nil=>cases h
   | cons c xs'=>
    simp only at h
    cases hp:pl c with
    | false=>rw[hp] at h;cases h
    | true=>
     rw[hp] at h;simp only[Aes,Aeh] at h
     cases hn:decide (0<c.fN) with
     | true=>
      rw[hn] at h;simp only[Aek] at h
      cases hq:J2 F (decide (c.fKind=6)) none c.fN.toNat xs' with
      | none=>rw[hq] at h;cases h
      | some q=>
       obtain⟨kids,zs⟩:=q;rw[hq] at h;simp only at h
       cases hr:J2 F m key k zs with
       | none=>rw[hr] at h;cases h
       | some q2=>
        obtain⟨r2,us⟩:=q2;rw[hr] at h;cases h;obtain⟨a1,a2,a3⟩:=IJ F _ _ _ _ _ _ hq;obtain⟨b1,b2,b3⟩:=IJ F _ _ _ _ _ _ hr;refine⟨by rw[h1,a1,b1];simp[Fo.flat],?_,by simp[Fo.cnt,b3]⟩;simp only[Aed] at hn;simp only[Fo.wf,h2,hp,a2,b2,Ae2,Aer,Aej,Aed];omega
     | false=>
      rw[hn] at h;simp only[Aeh] at h
      cases hr:J2 F m key k xs' with
      | none=>rw[hr] at h;cases h
      | some q2=>
       obtain⟨r2,us⟩:=q2;rw[hr] at h;cases h;obtain⟨b1,b2,b3⟩:=IJ F _ _ _ _ _ _ hr;exact⟨by rw[h1,b1];simp[Fo.flat],by simp[Fo.wf,h2,hp,b2,hn],by simp[Fo.cnt,b3]⟩
theorem Jh:∀(F F':Nat) (m:Bool) (last:Option Af) (k:Nat) (xs:List Aa),xs.length<F→xs.length<F'→J2 F m last k xs=J2 F' m last k xs
 | 0,_,_,_,_,_,h,_=>by omega
 | _+1,0,_,_,_,_,_,h=>by omega
 | F+1,F'+1,m,last,0,xs,_,_=>rfl
 | F+1,F'+1,m,last,k+1,xs,h,h'=>by
  rw[J2,J2]
  cases hk:Ji m last xs with
  | none=>rfl
  | some p=>
   obtain⟨key,r⟩:=p;obtain⟨h1,h2⟩:=Oi hk
   cases r with
   | nil=>rfl
   | cons c xs'=>
    have hl:xs'.length<xs.length:=by rw[h1];simp;omega
    simp only
    cases hp:pl c with
    | false=>rfl
    | true=>
     simp only[Aes,Aeh]
     cases hn:decide (0<c.fN) with
     | true=>
      simp only[Aek];rw[Jh F F' _ _ _ xs' (by omega) (by omega)]
      cases hq:J2 F' (decide (c.fKind=6)) none c.fN.toNat xs' with
      | none=>rfl
      | some q=>
       obtain⟨kids,zs⟩:=q;have:=(IJ _ _ _ _ _ _ _ hq).1;have hz:zs.length≤xs'.length:=by rw[this];simp
       simp only;rw[Jh F F' m key k zs (by omega) (by omega)]
     | false=>
      simp only[Aeh];rw[Jh F F' m key k xs' (by omega) (by omega)]
def UD {S:Type}(body:S→Option (Stp S LkO))(s:S):Prop:=∃sh',Fin body s (.ret (0,sh',false))∨Fin body s (.go sh')
theorem Gg.bad {S:Type}{body:S→Option (Stp S LkO)}{s t:S}(h:Gg body s t)(h':UD body t):UD body s:=by
 obtain⟨sh',h' | h'⟩:=h'
 ·exact⟨sh',.inl (h.fin h')⟩
 ·exact⟨sh',.inr (h.fin h')⟩
section
variable {F M : Nat} {v : List Aa}
theorem UD.end_ {S:List AH}{i:Int}{sh:AP}(h0:0≤i)(h:v.drop i.toNat=[]):UD (Tc F v) (S.reverse,i,sh):=by
 refine⟨sh,.inr (Fin.step ?_)⟩;show Ez F v S.reverse i sh=_;unfold Ez;rw[A2];have:v.length≤i.toNat:=by simpa using h
 simp;omega
theorem UD.pl_ (hA:VE F M v){S:List AH}{i:Int}{sh:AP}{c:Aa}{r:List Aa}(h0:0≤i)(h:v.drop i.toNat=c::r)(hS:(S.length:Int)≤i)(hb:EA S)(hp:pl c=false):UD (Tc F v) (S.reverse,i,sh):=by
 refine⟨sh,.inl (Fin.step ?_)⟩;rw[round hA h0 h hS hb];simp[TE,hp]
theorem U2 (hA:VE F M v):∀(P:Nat) (k:Nat) (e:AH) (S:List AH) (i:Int) (sh:AP) (last:Option Af) (xs:List Aa),xs.length<P→J2 P e.fPairs last (k+1) xs=none→e.fKey=e.fPairs→e.fLeft=(k:Int)+1→(k:Int)+1≤9223372036854775807→Ku e last→(e.fPairs=false→last=none)→v.drop i.toNat=xs→0≤i→(S.length:Int)+1≤i→EA S→
  UD (Tc F v) ((e::S).reverse,i,sh):=by
 intro P
 induction P with
 | zero=>intro k e S i sh last xs h;omega
 | succ P ih=>
  intro k e S i sh last xs hP hn hk hl hkm hlo hm hv h0 hS hb;have hb':EA (e::S):=λx hx=>by
   rcases List.mem_cons.1 hx with rfl | hx
   ·constructor<;>omega
   ·exact hb x hx
  rw[J2] at hn
  cases hq:Ji e.fPairs last xs with
  | none=>
   unfold Ji at hq
   cases hpr:e.fPairs with
   | false=>rw[hpr] at hq;cases hq
   | true=>
    rw[hpr] at hq hk;simp only[Aek] at hq
    cases xs with
    | nil=>exact UD.end_ h0 hv
    | cons c r=>
     simp only at hq
     cases hp:pl c with
     | false=>exact UD.pl_ hA h0 hv (by simpa using hS) hb' hp
     | true=>
      refine⟨sh,.inl (Fin.step ?_)⟩;rw[round hA h0 hv (by simpa using hS) hb'];have ht:(!decide (c.fKind=4)||(e.fStarted&&(BR c.fStr e.fLast||decide (c.fStr=e.fLast))))=true:=by
       rw[hp] at hq
       cases h4:decide (c.fKind=4) with
       | false=>rfl
       | true=>
        rw[h4] at hq;simp only[Bool.and_self,Aer] at hq;have hok:=(Rg hp (by simpa using h4)).2
        cases last with
        | none=>simp[B6,hok] at hq
        | some p=>
         obtain⟨q1,q2⟩:=hlo;rw[q1,q2]
         cases hc:(BR c.fStr p||decide (c.fStr=p)) with
         | true=>rfl
         | false=>simp[B6,hok,hc] at hq
      simp only[TE,hp,hk,ht,Aes,Aeh,Aek]
  | some q=>
   obtain⟨key,r⟩:=q;obtain⟨h1,h2⟩:=Oi hq;rw[hq] at hn;have hkr:=Pr (sh:=sh) hA h0 (by rw[hv];exact h1) hS hb' (by rw[hk];exact h2) hlo;have hv1:=CM h0 (hv.trans h1);obtain⟨kl,kp⟩:=LC (e:=e) key;obtain⟨q1,q2⟩:=LD hlo hm h2;have hbk:EA (H5 e key::S):=λx hx=>by
    rcases List.mem_cons.1 hx with rfl | hx
    ·rw[kl];exact hb' e (by simp)
    ·exact hb x hx
   refine hkr.bad ?_
   cases r with
   | nil=>exact UD.end_ (by omega) hv1
   | cons c xs'=>
    have hlen:xs'.length+1≤xs.length:=by rw[h1];simp
    have hvl:xs.length≤v.length:=by rw[← hv,Afc];omega
    have hvM:=hA.hv;have hMM:=hA.hM;have hkk:=Nk (e:=e) (last:=last) (k:=key) (by rw[hk];exact h2);simp only at hn;have hSk:(((H5 e key::S).length:Nat):Int)≤i+(B4 key).length:=by simp only[Aef];omega
    cases hp:pl c with
    | false=>exact UD.pl_ hA (by omega) hv1 hSk hbk hp
    | true=>
     rw[hp] at hn;simp only[Aes,Aeh] at hn;obtain⟨g1,g2,g3⟩:=C0 (by omega) hv1;have hcN:=(hA.hc c (Aet g1)).2.2;have more:∀(s:RC) (j:Int) (sh':AP) (zs:List Aa),IP (Tc F v) s (H5 e key::S) j sh'→v.drop j.toNat=zs→zs.length<P→0≤j→(S.length:Int)+1≤j→J2 P e.fPairs key k zs=none→UD (Tc F v) s:=λs j sh' zs hd hz hzl hj hSj hnone=>by
      cases k with
      | zero=>
       cases P with
       | zero=>omega
       | succ P=>cases hnone
      | succ k=>
       have:=hd.more (by rw[kl];omega);refine this.bad (ih k _ S j sh' key zs hzl (by rw[kp];exact hnone) rfl (by simp only[kl];omega) (by omega) ?_ (by simpa using q2) hz hj hSj hb)
       cases key with
       | none=>exact q1
       | some p=>exact q1
     cases hN:decide (0<c.fN) with
     | true=>
      rw[hN] at hn;simp only[Aek] at hn;simp only[Aed] at hN
      by_cases hbig:c.fN≤v.length
      ·have hnd:=KQ (sh:=N8 key sh) hA (by omega) hv1 hSk hbk (by simpa[Nl] using hkk) hp (by simpa using hN) hbig;refine hnd.bad ?_
       cases hks:J2 P (decide (c.fKind=6)) none c.fN.toNat xs' with
       | none=>
        obtain⟨n',hn'⟩:∃n',c.fN.toNat=n'+1:=⟨c.fN.toNat-1,by omega⟩
        rw[hn'] at hks;exact ih n' _ _ _ _ none xs' (by omega) hks rfl (by simp only;omega) (by omega) rfl (λ_=>rfl) g2 (by omega) (by simp only[Aef];omega) hbk
       | some q=>
        obtain⟨kids,zs⟩:=q;rw[hks] at hn;simp only at hn;have hn2:J2 P e.fPairs key k zs=none:=by
         cases hz:J2 P e.fPairs key k zs with
         | none=>rfl
         | some q=>rw[hz] at hn;cases hn
        obtain⟨a1,a2,a3⟩:=IJ _ _ _ _ _ _ _ hks;have hd:=NH hA kids ⟨decide (c.fKind=6),c.fN,decide (c.fKind=6),[],false⟩ (H5 e key::S) (i+(B4 key).length+1) (JY (S.length+1) (N8 key sh) c) none zs (by omega) a2 rfl (by simp only;omega) rfl (λ_=>rfl) (by rw[g2];exact a1) (by omega) (by simp only[Aef];omega) hbk;have hz:v.drop (i+(B4 key).length+1+kids.flat.length).toNat=zs:=CM (by omega) (g2.trans a1);have hzl:zs.length≤xs'.length:=by rw[a1];simp
        exact more _ _ _ zs hd hz (by omega) (by omega) (by omega) hn2
      ·refine⟨JY (H5 e key::S).length (N8 key sh) c,.inl (Fin.step ?_)⟩;rw[round hA (by omega) hv1 hSk hbk];have hbig':decide ((v.length:Int)<c.fN)=true:=by simpa using hbig
       simp only[TE,hp,hkk,hbig',hN,Aes,Aeh,Aek,decide_true]
     | false=>
      rw[hN] at hn;simp only[Aeh] at hn;have hn2:J2 P e.fPairs key k xs'=none:=by
       cases hz:J2 P e.fPairs key k xs' with
       | none=>rfl
       | some q=>rw[hz] at hn;cases hn
      have hd:=Ni (sh:=N8 key sh) hA (by omega) hv1 hSk hbk (by simpa[Nl] using hkk) hp hN;exact more _ _ _ xs' hd g2 (by omega) (by omega) (by omega) hn2
def IK (xs:List Aa):Option (Fo×List Aa):=J2 (xs.length+1) false none 1 xs
theorem UX {P:Nat}{xs ys:List Aa}{f:Fo}(h:J2 P false none 1 xs=some (f,ys)):f.one=true:=by
 obtain⟨h1,h2,h3⟩:=IJ _ _ _ _ _ _ _ h
 cases f with
 | nil=>cases h3
 | cell k c r=>
  cases r with
  | nil=>
   cases k with
   | none=>rfl
   | some s=>simp[Fo.wf,B6] at h2
  | cell _ _ _=>simp[Fo.cnt] at h3
  | node _ _ _ _=>simp[Fo.cnt] at h3
 | node k c kids r=>
  cases r with
  | nil=>
   cases k with
   | none=>rfl
   | some s=>simp[Fo.wf,B6] at h2
  | cell _ _ _=>simp[Fo.cnt] at h3
  | node _ _ _ _=>simp[Fo.cnt] at h3
theorem WH (hA:VE F M v)(h:IK v=none):UD (Tc F v) ([],0,OO):=by
 have hlf:EA []:=λx hx=>by cases hx
 unfold IK at h;rw[J2] at h;simp only[Ji,Aeh] at h
 cases v with
 | nil=>exact UD.end_ (S:=[]) (Ae8 0) rfl
 | cons c xs'=>
  have hv1:(c::xs').drop (0:Int).toNat=c::xs':=rfl;have hvM:=hA.hv;have hMM:=hA.hM;simp only at h
  cases hp:pl c with
  | false=>exact UD.pl_ (S:=[]) hA (Ae8 0) hv1 (by simp) hlf hp
  | true=>
   rw[hp] at h;simp only[Aes,Aeh] at h;have hcN:=(hA.hc c (by simp)).2.2
   cases hN:decide (0<c.fN) with
   | true=>
    rw[hN] at h;simp only[Aek] at h;simp only[Aed] at hN
    by_cases hbig:c.fN≤(c::xs').length
    ·have hnd:=KQ (S:=[]) (sh:=OO) hA (Ae8 0) hv1 (by simp) hlf rfl hp (by simpa using hN) hbig;refine hnd.bad ?_
     cases hks:J2 (c::xs').length (decide (c.fKind=6)) none c.fN.toNat xs' with
     | none=>
      obtain⟨n',hn'⟩:∃n',c.fN.toNat=n'+1:=⟨c.fN.toNat-1,by omega⟩
      rw[hn'] at hks;exact U2 hA (c::xs').length n' ⟨decide (c.fKind=6),c.fN,decide (c.fKind=6),[],false⟩ [] (0+1) _ none xs' (by simp) hks rfl (by simp only;omega) (by omega) rfl (λ_=>rfl) rfl (by omega) (by simp) hlf
     | some q=>rw[hks] at h;cases h
    ·refine⟨JY 0 OO c,.inl (Fin.step ?_)⟩;rw[show Tc F (c::xs') (([]:List AH),0,OO)=_ from round (S:=[]) hA (Ae8 0) hv1 (by simp) hlf];have hbig':decide (((c::xs').length:Int)<c.fN)=true:=by simpa using hbig
     simp only[TE,hp,hbig',hN,Aes,Aeh,Aek,decide_true]
   | false=>rw[hN] at h;cases h
theorem Abh (hA:VE F M v):(∃f ys,IK v=some (f,ys)∧JP F v=some ((f.flat.length:Int),f.sh 0 OO,true))∨(IK v=none∧∃sh',JP F v=some (0,sh',false)):=by
 cases h:IK v with
 | some q=>
  obtain⟨f,ys⟩:=q;obtain⟨h1,h2,h3⟩:=IJ _ _ _ _ _ _ _ h;exact .inl ⟨f,ys,rfl,Tb hA (UX h) h2 h1⟩
 | none=>
  refine .inr ⟨rfl,?_⟩;obtain⟨o,ho,_⟩:=Pi hA;obtain⟨sh',hb | hb⟩:=WH hA h
  ·have e:=hb.eq ho;subst e;exact⟨sh',by unfold JP;rw[AI ho];rfl⟩
  ·have e:=hb.eq ho;subst e;exact⟨sh',by unfold JP;rw[AI ho];rfl⟩
end
theorem K5 {x:Int}(h : -9223372036854775808≤x)(h':x≤9223372036854775807):IntKind.wrap .i64 x=x:=by
 simp only[IntKind.wrap,IntKind.bits,IntKind.signed];simp;omega
def Fo.dep:Fo→Nat
 | .nil=>0
 | .cell _ _ r=>max 1 r.dep
 | .node _ _ kids r=>max (kids.dep+1) r.dep
theorem HT (k:Option Af)(s:AP):(N8 k s).fDepth=s.fDepth∧(N8 k s).fOutside=s.fOutside∧(N8 k s).fLong=(s.fLong||(B4 k).any λc=>decide (200<(c.fStr.length:Int))):=by
 cases k with
 | none=>simp[N8,B4]
 | some x=>simp[N8,shk,B4]
theorem LX:∀(f:Fo) (d:Nat) (s:AP),(d:Int)≤s.fDepth→(f.sh d s).fDepth=max s.fDepth ((d:Int)+f.dep)
 | .nil,d,s,h=>by simp only[Fo.sh,Fo.dep];omega
 | .cell k c r,d,s,h=>by
  have hk:=(HT k s).1;have e:(JY d (N8 k s) c).fDepth=max s.fDepth ((d:Int)+1):=by rw[JY,hk]
  rw[Fo.sh,LX r d _ (by rw[e];omega),e,Fo.dep];omega
 | .node k c kids r,d,s,h=>by
  have hk:=(HT k s).1;have e:(JY d (N8 k s) c).fDepth=max s.fDepth ((d:Int)+1):=by rw[JY,hk]
  have e2:=LX kids (d+1) (JY d (N8 k s) c) (by rw[e];omega);rw[e] at e2;rw[Fo.sh,LX r d _ (by rw[e2];omega),e2,Fo.dep];omega
def Ci (c:Aa):Bool:=decide (c.fKind=3)&&!(decide ((-1000000000000)≤c.fInt)&&decide (c.fInt≤1000000000000))
def Is (c:Aa):Bool:=decide (200<(c.fStr.length:Int))
theorem Ps (k:Option Af):(B4 k).any Ci=false:=by cases k<;>simp[B4,Ci]
theorem QU:∀(f:Fo) (d:Nat) (s:AP),(f.sh d s).fOutside=(s.fOutside||f.flat.any Ci)
 | .nil,d,s=>by simp[Fo.sh,Fo.flat]
 | .cell k c r,d,s=>by
  rw[Fo.sh,QU r,JY,(HT k s).2.1];simp only[Fo.flat,List.any_append,List.any_cons,Ps,Aew,Bool.or_assoc];rfl
 | .node k c kids r,d,s=>by
  rw[Fo.sh,QU r,QU kids,JY,(HT k s).2.1];simp only[Fo.flat,List.any_append,List.any_cons,Ps,Aew,Bool.or_assoc];rfl
theorem Od:∀(f:Fo) (d:Nat) (s:AP),(f.sh d s).fLong=(s.fLong||f.flat.any Is)
 | .nil,d,s=>by simp[Fo.sh,Fo.flat]
 | .cell k c r,d,s=>by
  rw[Fo.sh,Od r,JY,(HT k s).2.2];simp only[Fo.flat,List.any_append,List.any_cons,Bool.or_assoc];rfl
 | .node k c kids r,d,s=>by
  rw[Fo.sh,Od r,Od kids,JY,(HT k s).2.2];simp only[Fo.flat,List.any_append,List.any_cons,Bool.or_assoc];rfl
def Xx (c:Aa):Int:=
 bif decide (c.fKind=1) then 4 else bif decide (c.fKind=2) then 5-c.fInt else bif decide (c.fKind=3) then((Lib.itoa c.fInt).length:Int) else
 bif decide (c.fKind=4) then Na c.fStr else 2
def Rn:Option Af→Int
 | none=>0
 | some s=>Na s+1
def Fo.byt:Fo→Int
 | .nil=>0
 | .cell k c r=>Rn k+Xx c+r.byt
 | .node k c kids r=>Rn k+(c.fN+1)+kids.byt+r.byt
theorem Mj (s:Af):2≤Na s:=by unfold Na;omega
theorem Ou (k:Option Af):0≤Rn k:=by
 cases k with
 | none=>exact Ae8 0
 | some s=>have:=Mj s;simp only[Rn];omega
theorem Vo {c:Aa}(hp:pl c=true):0≤Xx c:=by
 unfold Xx
 cases h1:decide (c.fKind=1) with
 | true=>simp
 | false=>
  cases h2:decide (c.fKind=2) with
  | true=>
   simp[pl,h1,h2] at hp;simp only[Aeh,Aek];omega
  | false=>
   cases h3:decide (c.fKind=3) with
   | true=>simp
   | false=>
    cases h4:decide (c.fKind=4) with
    | true=>have:=Mj c.fStr;simp only[Aeh,Aek];omega
    | false=>simp
theorem Yz {c:Aa}(hp:pl c=true):0≤c.fN:=by
 simp only[pl,← Bool.decide_or] at hp
 cases h1:decide (c.fKind=1)<;>cases h2:decide (c.fKind=2)<;>cases h3:decide (c.fKind=3)<;>cases h4:decide (c.fKind=4)<;>cases h5:decide (c.fKind=5)<;>cases h6:decide (c.fKind=6)<;>simp[h1,h2,h3,h4,h5,h6] at hp<;>omega
theorem I3 {c:Aa}(hp:pl c=true)(hn:0<c.fN):(c.fKind=5∨c.fKind=6)∧c.fInt=0∧c.fStr=[]:=by
 cases h1:decide (c.fKind=1)<;>cases h2:decide (c.fKind=2)<;>cases h3:decide (c.fKind=3)<;>cases h4:decide (c.fKind=4)<;>cases h5:decide (c.fKind=5)<;>cases h6:decide (c.fKind=6)<;>simp[pl,h1,h2,h3,h4,h5,h6] at hp<;>(simp only[Aed,Aee] at *;first | omega | exact⟨by omega,hp.1,hp.2.1⟩)
theorem XP {c:Aa}(hp:pl c=true)(hn:decide (0<c.fN)=false):szc c=Xx c:=by
 have hN:=Yz hp;have h0:c.fN=0:=by simp only[Aee] at hn;omega
 unfold szc Xx;rw[h0]
 cases h1:decide (c.fKind=1) with
 | true=>rfl
 | false=>
  cases h2:decide (c.fKind=2) with
  | true=>
   simp[pl,h1,h2] at hp;simp only[Aeh,Aek];exact K5 (by omega) (by omega)
  | false=>rfl
theorem XO {c:Aa}(hp:pl c=true)(hn:0<c.fN)(hm:c.fN≤9223372036854775000):szc c=c.fN+1:=by
 obtain⟨hk,_,_⟩:=I3 hp hn;unfold szc;rw[Aeg (by omega),Aeg (by omega),Aeg (by omega),Aeg (by omega)];simp only[Aeh];rw[K5 (x:=c.fN-1) (by omega) (by omega),K5 (by omega) (by omega)];omega
theorem IB:∀{f:Fo} {m:Bool} {l:Option Af},f.wf m l=true→0≤f.byt
 | .nil,_,_,_=>Ae8 0
 | .cell k c r,m,l,h=>by
  simp only[Fo.wf,Aej] at h;have h1:=IB h.2;have h2:=Vo h.1.1.2;have h3:=Ou k;simp only[Fo.byt];omega
 | .node k c kids r,m,l,h=>by
  simp only[Fo.wf,Aej,Aed] at h;have h1:=IB h.2;have h2:=IB h.1.2;have h3:=Ou k;simp only[Fo.byt];omega
theorem Qk (k:Option Af)(s:AP)(h0:0≤s.fBytes)(h:s.fBytes+Rn k≤9223372036854775807):(N8 k s).fBytes=s.fBytes+Rn k:=by
 cases k with
 | none=>simp[N8,Rn]
 | some x=>
  have:=Mj x;simp only[Rn] at h;simp only[N8,shk,Rn];exact K5 (by omega) (by omega)
theorem LY:∀(f:Fo) (m:Bool) (l:Option Af) (d:Nat) (s:AP),f.wf m l=true→0≤s.fBytes→s.fBytes+f.byt≤9223372036854775000→(f.sh d s).fBytes=s.fBytes+f.byt
 | .nil,_,_,d,s,_,_,_=>by simp[Fo.sh,Fo.byt]
 | .cell k c r,m,l,d,s,hw,h0,h=>by
  simp only[Fo.wf,Aej,Aex] at hw;obtain⟨⟨⟨w1,w2⟩,w3⟩,w4⟩:=hw;have h1:=IB w4;have h2:=Vo w2;have h3:=Ou k;simp only[Fo.byt] at h;have e1:=Qk k s h0 (by omega);have e:(JY d (N8 k s) c).fBytes=s.fBytes+Rn k+Xx c:=by
   rw[JY,e1,XP w2 w3];exact K5 (by omega) (by omega)
  rw[Fo.sh,LY r _ _ d _ w4 (by rw[e];omega) (by rw[e];omega),e,Fo.byt];omega
 | .node k c kids r,m,l,d,s,hw,h0,h=>by
  simp only[Fo.wf,Aej,Aed] at hw;obtain⟨⟨⟨⟨⟨w1,w2⟩,w3⟩,w5⟩,w6⟩,w4⟩:=hw;have h1:=IB w4;have h2:=IB w6;have h3:=Ou k;simp only[Fo.byt] at h;have e1:=Qk k s h0 (by omega);have e:(JY d (N8 k s) c).fBytes=s.fBytes+Rn k+(c.fN+1):=by
   rw[JY,e1,XO w2 w3 (by omega)];exact K5 (by omega) (by omega)
  have e2:=LY kids _ _ (d+1) (JY d (N8 k s) c) w6 (by rw[e];omega) (by rw[e];omega);rw[Fo.sh,LY r _ _ d _ w4 (by rw[e2,e];omega) (by rw[e2,e];omega),e2,e,Fo.byt];omega
def EC (s:Af):Af:=s.flatMap λc=>bif (decide (c=34)||decide (c=92)) then[92,c] else[c]
def E6 (s:Af):Af:=34::(EC s++[34])
theorem ME:∀s:Af,(EC s).length=s.length+s.count 34+s.count 92
 | []=>rfl
 | c::s=>by
  have ih:=ME s;unfold EC at ih ⊢;rw[Afd,Aen,ih]
  by_cases h1:c=34
  ·subst h1;simp;omega
  ·by_cases h2:c=92
   ·subst h2;simp;omega
   ·simp[h1,h2,List.count_cons];omega
theorem S9 (s:Af):((E6 s).length:Int)=Na s:=by
 simp only[E6,Aef,Aen,ME,AeS,Na];omega
def DX (c:Aa):Af:=
 bif decide (c.fKind=1) then[110,117,108,108] else
 bif decide (c.fKind=2) then(bif decide (c.fInt=1) then[116,114,117,101] else[102,97,108,115,101]) else
 bif decide (c.fKind=3) then Lib.itoa c.fInt else
 bif decide (c.fKind=4) then E6 c.fStr else
 bif decide (c.fKind=6) then[123,125] else[91,93]
def GM:Option Af→Af
 | none=>[]
 | some s=>E6 s++[58]
def NJ (c:Aa)(s:Af):Af:=bif decide (c.fKind=6) then 123::(s++[125]) else 91::(s++[93])
def CT (first:Bool):Af:=bif first then[] else[44]
def Fo.txt:Bool→Fo→Af
 | _,.nil=>[]
 | b,.cell k c r=>CT b++GM k++DX c++r.txt false
 | b,.node k c kids r=>CT b++GM k++NJ c (kids.txt true)++r.txt false
theorem Vp (k:Option Af):((GM k).length:Int)=Rn k:=by
 cases k with
 | none=>rfl
 | some s=>simp only[GM,Aen,Rn,AeC];have:=S9 s;omega
theorem Q3 {c:Aa}(hp:pl c=true):((DX c).length:Int)=Xx c:=by
  unfold DX Xx
  cases h1:decide (c.fKind=1) with
  | true=>rfl
  | false=>
    cases h2:decide (c.fKind=2) with
    | true=>
      simp[pl,h1,h2] at hp;simp only[Aeh,Aek]
      cases h7:decide (c.fInt=1) with
      | true=>simp only[Aed] at h7;simp[h7]
      | false=>
                 simp only[Aee] at h7;have:c.fInt=0:=by omega
                 simp[this]
    | false=>
      cases h3:decide (c.fKind=3) with
      | true=>rfl
      | false=>
        cases h4:decide (c.fKind=4) with
        | true=>simpa using S9 c.fStr
        | false=>cases h6:decide (c.fKind=6)<;>rfl
theorem JI (c:Aa)(s:Af):(NJ c s).length=s.length+2:=by
 unfold NJ
 cases decide (c.fKind=6)<;>simp
theorem J6:∀(f:Fo) (m:Bool) (l:Option Af) (b:Bool),f.wf m l=true→((f.txt b).length:Int)=f.byt+(bif b then((f.cnt-1:Nat):Int) else(f.cnt:Int))
 | .nil,m,l,b,_=>by cases b<;>rfl
 | .cell k c r,m,l,b,hw=>by
  simp only[Fo.wf,Aej,Aex] at hw;obtain⟨⟨⟨w1,w2⟩,w3⟩,w4⟩:=hw;have ih:=J6 r _ _ false w4;have a:=Vp k;have d:=Q3 w2;simp only[Aeh] at ih
  cases b<;>simp only[Fo.txt,Fo.byt,Fo.cnt,CT,Aek,Aeh,Aen,AeS,AeC]<;>omega
 | .node k c kids r,m,l,b,hw=>by
  simp only[Fo.wf,Aej,Aed] at hw;obtain⟨⟨⟨⟨⟨w1,w2⟩,w3⟩,w5⟩,w6⟩,w4⟩:=hw;have ih:=J6 r _ _ false w4;have ih2:=J6 kids _ _ true w6;have a:=Vp k;have d:=JI c (kids.txt true);simp only[Aeh,Aek] at ih ih2
  cases b<;>simp only[Fo.txt,Fo.byt,Fo.cnt,CT,Aek,Aeh,Aen,AeS,AeC]<;>omega
def Fo.put (k:Option Af):Fo→Fo→Fo
 | .cell _ c _,r=>.cell k c r
 | .node _ c kids _,r=>.node k c kids r
 | .nil,_=>.nil
theorem Yy (P:Nat)(m:Bool)(last:Option Af)(k:Nat)(xs:List Aa):J2 (P+2) m last (k+1) xs =
  match Ji m last xs with
  | none=>none
  | some (key,ys)=>match J2 (P+2) false none 1 ys with
   | none=>none
   | some (f,zs)=>match J2 (P+1) m key k zs with
    | none=>none
    | some (r,us)=>some (f.put key r,us):=by
 rw[J2]
 cases hk:Ji m last xs with
 | none=>rfl
 | some p=>
  obtain⟨key,ys⟩:=p;simp only;rw[J2];simp only[Ji,Aeh]
  cases ys with
  | nil=>rfl
  | cons c ys=>
   simp only
   cases hp:pl c with
   | false=>rfl
   | true=>
    simp only[Aes,Aeh]
    cases hn:decide (0<c.fN) with
    | true=>
     simp only[Aek]
     cases hq:J2 (P+1) (decide (c.fKind=6)) none c.fN.toNat ys with
     | none=>rfl
     | some q=>
      obtain⟨kids,zs⟩:=q;simp only[J2]
      cases hr:J2 (P+1) m key k zs with
      | none=>rfl
      | some q=>obtain⟨a,b⟩:=q;rfl
    | false=>
     simp only[Aeh,J2]
     cases hr:J2 (P+1) m key k ys with
     | none=>rfl
     | some q=>obtain⟨a,b⟩:=q;rfl
def NP (m:Bool)(last:Option Af)(k:Nat)(xs:List Aa):Option (Fo×List Aa):=J2 (xs.length+1) m last k xs
theorem Nb (m:Bool)(last:Option Af)(xs:List Aa):NP m last 0 xs=some (.nil,xs):=rfl
theorem G2 (m:Bool)(last:Option Af)(k:Nat)(xs:List Aa):NP m last (k+1) xs =
  match Ji m last xs with
  | none=>none
  | some (key,ys)=>match IK ys with
   | none=>none
   | some (f,zs)=>match NP m key k zs with
    | none=>none
    | some (r,us)=>some (f.put key r,us):=by
 unfold NP IK;rw[Jh (xs.length+1) (xs.length+2) m last (k+1) xs (by omega) (by omega),Yy]
 cases hk:Ji m last xs with
 | none=>rfl
 | some p=>
  obtain⟨key,ys⟩:=p;have h1:=(Oi hk).1;have hy:ys.length≤xs.length:=by rw[h1];simp
  simp only;rw[Jh (xs.length+2) (ys.length+1) false none 1 ys (by omega) (by omega)]
  cases hf:J2 (ys.length+1) false none 1 ys with
  | none=>rfl
  | some q=>
   obtain⟨f,zs⟩:=q;have h2:=(IJ _ _ _ _ _ _ _ hf).1;have hz:zs.length≤ys.length:=by rw[h2];simp
   simp only;rw[Jh (xs.length+1) (zs.length+1) m key k zs (by omega) (by omega)]
   all_goals (cases J2 (zs.length+1) m key k zs<;>rfl)
theorem GL {S O:Type}{body:S→Option (Stp S O)}{n:Nat}{s s':S}{o:O}(h:body s=some (.next s'))(h':BJ body n s'=some o):BJ body (n+1) s=some o:=by rw[BJ,h];exact h'
theorem Dn {S O:Type}{body:S→Option (Stp S O)}{n:Nat}{s:S}{o:O}(h:body s=some (.out o)):BJ body (n+1) s=some o:=by rw[BJ,h]
theorem SA:IK []=none:=rfl
theorem GT (c:Aa)(r:List Aa):IK (c::r)=bif !pl c then none else bif decide (0<c.fN) then(match NP (decide (c.fKind=6)) none c.fN.toNat r with
  | none=>none
  | some (kids,zs)=>some (.node none c kids .nil,zs)) else some (.cell none c .nil,r):=by
 unfold IK;rw[J2];simp only[Ji,Aeh]
 cases hp:pl c with
 | false=>rfl
 | true=>
  simp only[Aes,Aeh]
  cases hn:decide (0<c.fN) with
  | true=>
   simp only[Aek];unfold NP;rw[Aef]
   cases hq:J2 (r.length+1) (decide (c.fKind=6)) none c.fN.toNat r with
   | none=>rfl
   | some q=>obtain⟨kids,zs⟩:=q;rfl
  | false=>rfl
theorem E7 {f:Fo}(h:f.one=true)(key:Option Af)(r:Fo):(f.put key r).flat=B4 key++(f.flat++r.flat):=by
 cases f with
 | nil=>cases h
 | cell k c r'=>
  cases k with
  | some s=>cases h
  | none=>cases r' with
   | nil=>simp[Fo.put,Fo.flat,B4]
   | cell _ _ _=>cases h
   | node _ _ _ _=>cases h
 | node k c kids r'=>
  cases k with
  | some s=>cases h
  | none=>cases r' with
   | nil=>simp[Fo.put,Fo.flat,B4]
   | cell _ _ _=>cases h
   | node _ _ _ _=>cases h
theorem Mq {f:Fo}(h:f.one=true):1≤f.flat.length:=by
 cases f with
 | nil=>cases h
 | cell k c r'=>simp[Fo.flat];omega
 | node k c kids r'=>simp[Fo.flat];omega
theorem KL {xs ys:List Aa}{f:Fo}(h:IK xs=some (f,ys)):xs=f.flat++ys∧f.wf false none=true∧f.one=true:=
 ⟨(IJ _ _ _ _ _ _ _ h).1,(IJ _ _ _ _ _ _ _ h).2.1,UX h⟩
def JT (v:List Aa)(i:Int):Int:=match IK (v.drop i.toNat) with
 | none=>-1
 | some (f,_)=>i+f.flat.length
def Mr (m:Bool)(last:Option Af)(v:List Aa)(i:Int)(k:Nat):Int:=match NP m last k (v.drop i.toNat) with
 | none=>-1
 | some (f,_)=>i+f.flat.length
theorem Qw {v:List Aa}{i:Int}(h0:0≤i)(h1:i≤v.length):JT v i = -1∨(i<JT v i∧JT v i≤v.length):=by
 unfold JT
 cases h:IK (v.drop i.toNat) with
 | none=>exact .inl rfl
 | some q=>
  obtain⟨f,ys⟩:=q;obtain⟨h2,_,h3⟩:=KL h;have:=Mq h3;have hl:(v.drop i.toNat).length=f.flat.length+ys.length:=by rw[h2];simp
  rw[Afc] at hl
  right;simp only;omega
structure RfA (F M:Nat) (v:List Aa):Prop where
 hM:M≤1152921504606846976
 hv:v.length≤M
 hF:M<F
 hc:∀c∈v,c.fStr.length≤M
theorem Wr (ok:Bool){i:Int}(h0:0≤i)(h1:i≤1152921504606846976):BX ok i=some (bif ok then i+1 else -1):=by
 unfold BX
 cases ok
 ·rfl
 ·rw[AC rfl,A4 (by omega) (by omega)];rfl
theorem UT {F:Nat}{c:Aa}(hF:c.fStr.length<F)(hs:c.fStr.length≤1152921504606846976):PT F c=some (decide (c.fKind=4)&&pl c):=by
 unfold PT;rw[Wf hF (by omega)];simp only[Option.isSome_some,ov,AeH,imp,Ae7,AQ,Aek]
 cases h4:decide (c.fKind=4) with
 | false=>rfl
 | true=>
  simp only[Aed] at h4;simp[pl,h4]
theorem DP {v:List Aa}{i:Int}{c:Aa}{r:List Aa}(h0:0≤i)(h:v.drop i.toNat=c::r):Aq v i=c:=by
 have:=(C0 h0 h).1;simp[Aq,this]
section
variable {M : Nat} {v : List Aa}
theorem Lp {F:Nat}(hA:RfA F M v){g:List Aa→Int→Option Int}{n:Int}(hn:n≤9223372036854775807):∀(L:Nat) (i x:Int),0≤i→i≤v.length→0≤x→x≤n→(∀j,i≤j→j≤v.length→g v j=some (JT v j))→v.length-i.toNat<L→
  ∃o,BJ (λσ=>Dr v n g σ.1 σ.2) L (i,x)=some o∧BE (λν=>EK ν) o=some (Mr false none v i (n-x).toNat)
 | 0,i,x,_,_,_,_,_,h=>by omega
 | L+1,i,x,h0,h1,hx,hxn,hg,hL=>by
  cases hxl:decide (x<n) with
  | false=>
   refine⟨.go i,Dn (by show Dr v n g i x=_;unfold Dr;rw[A2 hxl]),?_⟩;simp only[Aee] at hxl;rw[show(n-x).toNat=0 from by omega];simp[BE,EK,Mr,Nb,Fo.flat]
  | true=>
   have hb:Dr v n g i x=Bi (decide (JT v i<0)) (some (.out (.ret (-1)))) (AQ (Bs .i64 (x+1))<|some (.next (JT v i,x+1))):=by unfold Dr;rw[AC hxl,hg i (Ae8 i) h1,AI rfl]
   simp only[Aed] at hxl;obtain⟨k,hk⟩:∃k,(n-x).toNat=k+1:=⟨(n-x).toNat-1,by omega⟩
   rw[hk];have e:Mr false none v i (k+1)=bif decide (JT v i<0) then -1 else Mr false none v (JT v i) k:=by
    unfold Mr;rw[G2];simp only[Ji,Aeh]
    cases hp:IK (v.drop i.toNat) with
    | none=>simp[JT,hp]
    | some q=>
     obtain⟨f,ys⟩:=q;obtain⟨q1,q2,q3⟩:=KL hp;have hi:JT v i=i+f.flat.length:=by simp[JT,hp]
     have hd:v.drop (JT v i).toNat=ys:=by rw[hi];exact CM h0 q1
     rw[hd,Aeg (by omega)];simp only[Aeh]
     cases hr:NP false none k ys with
     | none=>rfl
     | some q=>
      obtain⟨r,zs⟩:=q;simp only[E7 q3,B4,AeE,Aen,hi];omega
   rw[e];rcases Qw (v:=v) h0 h1 with hneg | ⟨hlt,hle⟩
   ·exact⟨.ret (-1),Dn (hb.trans (by rw[hneg,AC (by decide)])),by rw[hneg];rfl⟩
   ·have hM:=hA.hM;have hvM:=hA.hv;obtain⟨o,ho1,ho2⟩:=Lp hA hn L (JT v i) (x+1) (by omega) hle (by omega) (by omega) (λj hj=>hg j (by omega)) (by omega);exact⟨o,GL (hb.trans (by rw[A2 (Aeg (by omega)),A4 (by omega) (by omega)])) ho1,by rw[ho2,show(n-(x+1)).toNat=k from by omega,Aeg (by omega)];rfl⟩
theorem OT {F:Nat}(hA:RfA F M v){g:List Aa→Int→Option Int}{n:Int}(hn:n≤9223372036854775807):∀(L:Nat) (i x:Int) (last:Af),0≤i→i≤v.length→0≤x→x≤n→(∀j,i≤j→j≤v.length→g v j=some (JT v j))→v.length-i.toNat<L→
  ∃o,BJ (λσ=>DV F v n g σ.1 σ.2.1 σ.2.2) L (i,last,x)=some o∧BE (λν=>HV ν) o=some (Mr true (bif decide (0<x) then some last else none) v i (n-x).toNat)
 | 0,i,x,_,_,_,_,_,_,h=>by omega
 | L+1,i,x,last,h0,h1,hx,hxn,hg,hL=>by
  have hM:=hA.hM;have hvM:=hA.hv;have hMF:=hA.hF
  cases hxl:decide (x<n) with
  | false=>
   refine⟨.go i,Dn (by show DV F v n g i last x=_;unfold DV;rw[A2 hxl]),?_⟩;simp only[Aee] at hxl;rw[show(n-x).toNat=0 from by omega];simp[BE,HV,Mr,Nb,Fo.flat]
  | true=>
   have hxl':=hxl;simp only[Aed] at hxl;obtain⟨k,hk⟩:∃k,(n-x).toNat=k+1:=⟨(n-x).toNat-1,by omega⟩
   rw[hk]
   cases hd:v.drop i.toNat with
   | nil=>
    have hl:v.length≤i.toNat:=by simpa using hd
    refine⟨.ret (-1),Dn (by
     show DV F v n g i last x=_;unfold DV;rw[AC hxl',B7 (by simp[imp,show(v.length:Int)≤i from by omega]),B7 (by simp[imp,show(v.length:Int)≤i from by omega]),AC (by simp[show(v.length:Int)≤i from by omega])]),?_⟩
    simp[BE,Mr,hd,G2,Ji]
   | cons c r=>
    obtain⟨g1,g2,g3⟩:=C0 h0 hd;have hcM:=hA.hc c (Aet g1);have hat:=DP h0 hd;have hnl:decide ((v.length:Int)≤i)=false:=by simp;omega
    have hb:DV F v n g i last x=Bi (!(decide (c.fKind=4)&&pl c)||decide (0<x)&&(BR c.fStr last||decide (c.fStr=last))) (some (.out (.ret (-1)))) (Br (g v (i+1)) λha=>Bi (decide (ha<0)) (some (.out (.ret (-1)))) (AQ (Bs .i64 (x+1))<|some (.next (ha,c.fStr,x+1)))):=by
     unfold DV;rw[AC hxl',B7 (by simp only[imp];rw[Li h0 g3];simp),hat,UT (by omega) (by omega),B7 (by simp[imp])];simp only[hnl,ov,AeH,Aew];rw[AW h0 g3,A4 (by omega) (by omega)]
    have hpk:Ji true (bif decide (0<x) then some last else none) (c::r)=bif (!(decide (c.fKind=4)&&pl c)||decide (0<x)&&(BR c.fStr last||decide (c.fStr=last))) then none else some (some c.fStr,r):=by
     simp only[Ji,Aek]
     cases h4:decide (c.fKind=4) with
     | false=>simp
     | true=>
      cases hp:pl c with
      | false=>simp
      | true=>
       have hok:=(Rg hp (by simpa using h4)).2
       cases h0x:decide (0<x) with
       | false=>simp[B6,hok]
       | true=>cases hs:(BR c.fStr last||decide (c.fStr=last))<;>simp[B6,hok,hs]
    cases ht:(!(decide (c.fKind=4)&&pl c)||decide (0<x)&&(BR c.fStr last||decide (c.fStr=last))) with
    | true=>
     rw[ht] at hpk;refine⟨.ret (-1),Dn (hb.trans (AC ht)),?_⟩;simp only[Mr,hd,G2,hpk,Aek];rfl
    | false=>
     rw[ht] at hpk;rw[A2 ht,hg (i+1) (by omega) (by omega),AI rfl] at hb;have e:Mr true (bif decide (0<x) then some last else none) v i (k+1)=bif decide (JT v (i+1)<0) then -1 else Mr true (some c.fStr) v (JT v (i+1)) k:=by
      unfold Mr;rw[hd,G2,hpk];simp only[Aeh];have hx:JT v (i+1)=match IK r with | none=>-1 | some (f,_)=>i+1+f.flat.length:=by unfold JT;rw[g2]
      cases hp:IK r with
      | none=>rw[hp] at hx;simp[hx]
      | some q=>
       obtain⟨f,ys⟩:=q;obtain⟨q1,q2,q3⟩:=KL hp;rw[hp] at hx;simp only at hx;have hd2:v.drop (JT v (i+1)).toNat=ys:=by rw[hx];exact CM (by omega) (g2.trans q1)
       rw[hd2,Aeg (by omega)];simp only[Aeh]
       cases hr:NP true (some c.fStr) k ys with
       | none=>rfl
       | some q=>
        obtain⟨r',zs⟩:=q;simp only[E7 q3,B4,Aen,Aef,AeS,hx];omega
     rw[e];rcases Qw (v:=v) (i:=i+1) (by omega) (by omega) with hneg | ⟨hlt,hle⟩
     ·exact⟨.ret (-1),Dn (hb.trans (by rw[hneg,AC (by decide)])),by rw[hneg];rfl⟩
     ·obtain⟨o,ho1,ho2⟩:=OT hA hn L (JT v (i+1)) (x+1) c.fStr (by omega) hle (by omega) (by omega) (λj hj=>hg j (by omega)) (by omega);exact⟨o,GL (hb.trans (by rw[A2 (Aeg (by omega)),A4 (by omega) (by omega)])) ho1,by rw[ho2,show(n-(x+1)).toNat=k from by omega,Aei (show(0:Int)<x+1 from by omega),Aeg (by omega)];rfl⟩
theorem SO {i:Int}{c:Aa}{r:List Aa}(h0:0≤i)(hd:v.drop i.toNat=c::r)(hp:pl c=true):JT v i=Mr (decide (c.fKind=6)) none v (i+1) c.fN.toNat:=by
 have g2:=(C0 h0 hd).2.1;have hN:=Yz hp;unfold JT Mr;rw[hd,GT,g2,hp];simp only[Aes,Aeh]
 cases hn:decide (0<c.fN) with
 | true=>
  simp only[Aek]
  cases hq:NP (decide (c.fKind=6)) none c.fN.toNat r with
  | none=>rfl
  | some q=>
   obtain⟨kids,zs⟩:=q;simp only[Fo.flat,B4,AeE,Aef,AeF];omega
 | false=>
  simp only[Aee] at hn;rw[show c.fN.toNat=0 from by omega,Nb];simp[Fo.flat,B4]
theorem Sv (hA:RfA (M+1) M v)(hN:∀c∈v,c.fN≤9223372036854775807):∀(d F:Nat) (i:Int),0≤i→i≤v.length→v.length-i.toNat=d→M+2*d+3<F→Eb F v i=some (JT v i):=by
 have hM:=hA.hM;have hvM:=hA.hv;intro d
 induction d using Nat.strongRecOn with
 | ind d ih=>
  intro F i h0 h1 hd hF;obtain⟨F,rfl⟩:∃G,F=G+1:=⟨F-1,by omega⟩
  obtain⟨F,rfl⟩:∃G,F=G+1:=⟨F-1,by omega⟩
  rw[Eb];unfold Rb
  cases hdr:v.drop i.toNat with
  | nil=>
   have hl:v.length≤i.toNat:=by simpa using hdr
   rw[AC (by simp;omega)];simp[JT,hdr,SA]
  | cons c r=>
   obtain⟨g1,g2,g3⟩:=C0 h0 hdr;have hcM:=hA.hc c (Aet g1);have hcN:=hN c (Aet g1);rw[A2 (by simp;omega),AW h0 g3,DP h0 hdr];simp only[Wr _ h0 (show i≤1152921504606846976 by omega),Option.isSome_some,ov,AeH,imp,Ae7,B7 (x:=_) (rfl:true=true)];have hg:∀j,i+1≤j→j≤v.length→Eb F v j=some (JT v j):=λj hj hj2=>ih (v.length-j.toNat) (by omega) F j (by omega) hj2 rfl (by omega);have hpl0:pl c=false→JT v i = -1:=λhp=>by simp[JT,hdr,GT,hp]
   have hleaf:pl c=true→c.fN=0→JT v i=i+1:=λhp h0'=>by simp[JT,hdr,GT,hp,h0',Fo.flat,B4]
   have hscal:∀b:Bool,pl c=b→(b=true→c.fN=0)→JT v i=bif b then i+1 else -1:=λb hb hz=>by
    cases b
    ·exact hpl0 hb
    ·exact hleaf hb (hz rfl)
   by_cases k1:c.fKind=1
   ·rw[AC (by simp[k1])];have hp:pl c=(decide (c.fInt=0)&&(decide (c.fStr=[])&&decide (c.fN=0))):=by simp[pl,k1]
    rw[hscal _ hp (λh=>by simp at h;exact h.2.2)]
    cases decide (c.fInt=0)<;>cases decide (c.fStr=[])<;>cases decide (c.fN=0)<;>rfl
   rw[A2 (by simp[k1])]
   by_cases k2:c.fKind=2
   ·rw[AC (by simp[k2])];have hp:pl c=((decide (c.fInt=0)||decide (c.fInt=1))&&(decide (c.fStr=[])&&decide (c.fN=0))):=by simp[pl,k2]
    rw[hscal _ hp (λh=>by simp at h;exact h.2.2)]
    cases decide (c.fInt=0)<;>cases decide (c.fInt=1)<;>cases decide (c.fStr=[])<;>cases decide (c.fN=0)<;>rfl
   rw[A2 (by simp[k2])]
   by_cases k3:c.fKind=3
   ·rw[AC (by simp[k3])];have hp:pl c=(decide (c.fStr=[])&&decide (c.fN=0)):=by simp[pl,k3]
    rw[hscal _ hp (λh=>by simp at h;exact h.2)]
    cases decide (c.fStr=[])<;>cases decide (c.fN=0)<;>rfl
   rw[A2 (by simp[k3])]
   by_cases k4:c.fKind=4
   ·rw[AC (by simp[k4]),UT (by omega) (by omega),AI rfl,AI rfl];rw[Aei k4,Aer,hscal (pl c) rfl (λhp=>by have:=(Rg hp k4).1;rw[this])]
   rw[A2 (by simp[k4])]
   by_cases k5:c.fKind=5
   ·have hp:pl c=(decide (c.fInt=0)&&(decide (c.fStr=[])&&decide (0≤c.fN))):=by simp[pl,k5]
    rw[show(decide (c.fKind=5)&&(decide (c.fInt=0)&&(decide (c.fStr=[])&&decide (0≤c.fN))))=pl c from by rw[hp,Aei k5,Aer]];have k5' : ¬ c.fKind=6:=by omega
    cases hb:pl c with
    | false=>rw[A2 rfl,A2 (by simp[k5]),hpl0 hb]
    | true=>
     have hn0:=Yz hb;rw[AC rfl,A4 (by omega) (by omega),HW];unfold JA;obtain⟨o,ho1,ho2⟩:=Lp (F:=F) ⟨hM,hvM,by omega,hA.hc⟩ hcN F (i+1) 0 (by omega) (by omega) (Ae8 0) hn0 hg (by omega);rw[AI ho1,ho2,AI rfl,SO h0 hdr hb,Aeg k5',Int.sub_zero]
   rw[A2 (by simp[k5])]
   by_cases k6:c.fKind=6
   ·have hp:pl c=(decide (c.fInt=0)&&(decide (c.fStr=[])&&decide (0≤c.fN))):=by simp[pl,k6]
    rw[show(decide (c.fKind=6)&&(decide (c.fInt=0)&&(decide (c.fStr=[])&&decide (0≤c.fN))))=pl c from by rw[hp,Aei k6,Aer]]
    cases hb:pl c with
    | false=>rw[A2 rfl,hpl0 hb]
    | true=>
     have hn0:=Yz hb;rw[AC rfl,A4 (by omega) (by omega),MX];unfold Of;obtain⟨o,ho1,ho2⟩:=OT (F:=F) ⟨hM,hvM,by omega,hA.hc⟩ hcN F (i+1) 0 [] (by omega) (by omega) (Ae8 0) hn0 hg (by omega);rw[AI ho1,ho2,AI rfl,SO h0 hdr hb,Aei k6,Int.sub_zero];rfl
   ·rw[A2 (by simp[k6]),hpl0 (by simp[pl,k1,k2,k3,k4,k5,k6])]
theorem TY (hA:RfA (M+1) M v)(hN:∀c∈v,c.fN≤9223372036854775807){F:Nat}(hF:3*M+3<F):Md F v=some (decide (JT v 0=v.length)):=by
 have hvM:=hA.hv;unfold Md;rw[Sv hA hN v.length F 0 (Ae8 0) (by omega) (by simp) (by omega)];simp only[imp,Option.isSome_some,Ae7,B7,ov,AeH]
 cases v with
 | nil=>simp[JT,SA]
 | cons c r=>
  rw[show decide (0<((c::r).length:Int))=true from by simp,Aer]
  first | done | rfl
end
theorem Rf {m:Bool}{last key:Option Af}{r:List Aa}(h:B6 m last key=true):Ji m last (B4 key++r)=some (key,r):=by
 cases key with
 | none=>
  have:m=false:=by simpa[B6] using h
  subst this;rfl
 | some s=>
  have h':=h;simp only[B6,Aej] at h;obtain⟨⟨h1,h2⟩,h3⟩:=h;subst h1;have hp:pl ⟨4,0,s,0⟩=true:=by simp[pl,h2]
  show(bif pl ⟨4,0,s,0⟩&&decide ((4:Int)=4)&&B6 true last (some s) then _ else _)=_;rw[hp,h'];rfl
theorem Ok:∀(f:Fo) (m:Bool) (last:Option Af) (ys:List Aa),f.wf m last=true→NP m last f.cnt (f.flat++ys)=some (f,ys)
 | .nil,_,_,_,_=>rfl
 | .cell k c r,m,last,ys,hw=>by
  simp only[Fo.wf,Aej,Aex] at hw;obtain⟨⟨⟨w1,w2⟩,w3⟩,w4⟩:=hw;simp only[Fo.cnt,Fo.flat,Ae5,AeO];rw[G2,Rf w1];simp only[GT,w2,w3,Aes,Aeh,Ok r m k ys w4,Fo.put]
 | .node k c kids r,m,last,ys,hw=>by
  simp only[Fo.wf,Aej,Aed] at hw;obtain⟨⟨⟨⟨⟨w1,w2⟩,w3⟩,w5⟩,w6⟩,w4⟩:=hw;simp only[Fo.cnt,Fo.flat,Ae5,AeO];rw[G2,Rf w1];have e:c.fN.toNat=kids.cnt:=by omega
  simp only[GT,w2,Aei w3,Aes,Aeh,Aek,e,Ok kids _ none (r.flat++ys) w6,Ok r m k ys w4,Fo.put]
theorem UZ {f:Fo}{ys:List Aa}(h1:f.one=true)(hw:f.wf false none=true):IK (f.flat++ys)=some (f,ys):=by
 have:=Ok f false none ys hw;have hc:f.cnt=1:=by
  cases f with
  | nil=>cases h1
  | cell k c r=>cases k with
   | some _=>cases h1
   | none=>cases r with
    | nil=>rfl
    | _=>cases h1
  | node k c kids r=>cases k with
   | some _=>cases h1
   | none=>cases r with
    | nil=>rfl
    | _=>cases h1
 rw[hc] at this;exact this
structure IE (M:Nat) (v:List Aa):Prop where
 hM:M≤1000000000
 hv:v.length≤M
 hc:∀c∈v,c.fStr.length≤M∧Bs .i64 c.fInt=true∧c.fN≤9223372036854775807
theorem IE.lk {M F:Nat}{v:List Aa}(h:IE M v)(hF:M<F):VE F M v:=⟨by have:=h.hM;omega,by have:=h.hM;omega,h.hv,hF,h.hc⟩
theorem IE.rf {M F:Nat}{v:List Aa}(h:IE M v)(hF:M<F):RfA F M v:=⟨by have:=h.hM;omega,h.hv,hF,λc hc=>(h.hc c hc).1⟩
theorem IE.drop {M:Nat}{v:List Aa}(h:IE M v)(k:Nat):IE M (v.drop k):=⟨h.hM,by have:=h.hv;rw[Afc];omega,λc hc=>h.hc c (Afg hc)⟩
theorem IE.take {M:Nat}{v:List Aa}(h:IE M v)(k:Nat):IE M (v.take k):=⟨h.hM,by have:=h.hv;rw[Afh];omega,λc hc=>h.hc c (List.mem_of_mem_take hc)⟩
def whole (v:List Aa):Option Fo:=match IK v with
 | some (f,[])=>some f
 | _=>none
theorem J5 {v:List Aa}{f:Fo}(h:whole v=some f):v=f.flat∧f.wf false none=true∧f.one=true:=by
 unfold whole at h
 cases hp:IK v with
 | none=>rw[hp] at h;cases h
 | some q=>
  obtain⟨g,ys⟩:=q;rw[hp] at h
  cases ys with
  | cons _ _=>cases h
  | nil=>
   cases h
   obtain⟨h1,h2,h3⟩:=KL hp;exact⟨by simpa using h1,h2,h3⟩
theorem LO {f:Fo}(h1:f.one=true)(hw:f.wf false none=true):whole f.flat=some f:=by
 have:=UZ (ys:=[]) h1 hw;rw[AeF] at this;simp[whole,this]
def GF (f:Fo):Int:=
 bif f.flat.any Ci then 2 else bif f.flat.any Is||(decide (200<f.flat.length)||(decide (8<f.dep)||decide (4000<(f.txt true).length))) then 3 else 0
def Hp (v:List Aa):Int:=match whole v with
 | none=>1
 | some f=>GF f
theorem Oo {f:Fo}(h1:f.one=true):f.cnt=1:=by
 cases f with
 | nil=>cases h1
 | cell k c r=>cases k with
  | some _=>cases h1
  | none=>cases r with
   | nil=>rfl
   | _=>cases h1
 | node k c kids r=>cases k with
  | some _=>cases h1
  | none=>cases r with
   | nil=>rfl
   | _=>cases h1
theorem Rd (s:Af):Na s≤2*s.length+2+s.length:=by
 have h1:s.count 34≤s.length:=List.count_le_length;have h2:s.count 92≤s.length:=List.count_le_length;unfold Na;omega
theorem Ac3 {c:Aa}{M:Nat}(hp:pl c=true)(hs:c.fStr.length≤M)(hi:(Lib.itoa c.fInt).length≤21):Xx c≤3*M+21:=by
 have:=Rd c.fStr;unfold Xx
 cases h1:decide (c.fKind=1) with
 | true=>simp only[Aek];omega
 | false=>
  cases h2:decide (c.fKind=2) with
  | true=>
   simp[pl,h1,h2] at hp;simp only[Aeh,Aek];omega
  | false=>
   cases h3:decide (c.fKind=3) with
   | true=>simp only[Aeh,Aek];omega
   | false=>cases h4:decide (c.fKind=4)<;>simp only[Aeh,Aek]<;>omega
theorem R4 {M:Nat}:∀{f:Fo} {m:Bool} {l:Option Af},f.wf m l=true→(∀c∈f.flat,c.fStr.length≤M∧Bs .i64 c.fInt=true∧c.fN≤9223372036854775807)→f.byt+f.cnt≤(3*M+24)*f.flat.length
 | .nil,_,_,_,_=>by simp[Fo.byt,Fo.flat,Fo.cnt]
 | .cell k c r,m,l,hw,hc=>by
  simp only[Fo.wf,Aej,Aex] at hw;obtain⟨⟨⟨w1,w2⟩,w3⟩,w4⟩:=hw;simp only[Fo.flat] at hc;have ih:=R4 w4 (λx hx=>hc x (by simp[hx]));obtain⟨c1,c2,c3⟩:=hc c (by simp);have i64:=HO c2;have hl:=Ac3 w2 c1 (Lib.itoa_length_le c.fInt i64.1 i64.2);have hk:Rn k≤(3*M+24)*(B4 k).length:=by
   cases k with
   | none=>simp[Rn,B4]
   | some s=>
    have:=(hc ⟨4,0,s,0⟩ (by simp[B4])).1;have h2:=Rd s;simp only at this;simp only[Rn,B4,AeC];omega
  simp only[Fo.byt,Fo.flat,Fo.cnt,Aen,Aef];have e:((3*(M:Int)+24)*(((B4 k).length+(r.flat.length+1):Nat):Int))=(3*(M:Int)+24)*(B4 k).length+((3*(M:Int)+24)*r.flat.length+(3*(M:Int)+24)):=by
   push_cast;rw[Int.mul_add,Int.mul_add,Int.mul_one]
  rw[e]
  push_cast at *
  omega
 | .node k c kids r,m,l,hw,hc=>by
  simp only[Fo.wf,Aej,Aed] at hw;obtain⟨⟨⟨⟨⟨w1,w2⟩,w3⟩,w5⟩,w6⟩,w4⟩:=hw;simp only[Fo.flat] at hc;have ih:=R4 w4 (λx hx=>hc x (by simp[hx]));have ih2:=R4 w6 (λx hx=>hc x (by simp[hx]));have hcf:=Cv kids;have hk:Rn k≤(3*M+24)*(B4 k).length:=by
   cases k with
   | none=>simp[Rn,B4]
   | some s=>
    have:=(hc ⟨4,0,s,0⟩ (by simp[B4])).1;have h2:=Rd s;simp only at this;simp only[Rn,B4,AeC];omega
  simp only[Fo.byt,Fo.flat,Fo.cnt,Aen,Aef];have e:((3*(M:Int)+24)*(((B4 k).length+(kids.flat.length+r.flat.length+1):Nat):Int))=(3*(M:Int)+24)*(B4 k).length+((3*(M:Int)+24)*kids.flat.length+(3*(M:Int)+24)*r.flat.length+(3*(M:Int)+24)):=by
   push_cast;rw[Int.mul_add,Int.mul_add,Int.mul_add,Int.mul_one]
  rw[e]
  push_cast at *
  omega
theorem Ns {M:Nat}(hM:M≤1000000){f:Fo}{m:Bool}{l:Option Af}(hw:f.wf m l=true)(hl:f.flat.length≤M)(hc:∀c∈f.flat,c.fStr.length≤M∧Bs .i64 c.fInt=true∧c.fN≤9223372036854775807):f.byt≤4000000000000:=by
 have:=R4 (M:=M) hw hc;have h2:(3*M+24)*f.flat.length≤(3*1000000+24)*1000000:=Nat.mul_le_mul (by omega) (by omega);have h3:(((3*M+24)*f.flat.length:Nat):Int)=(3*(M:Int)+24)*f.flat.length:=by push_cast;rfl
 omega
theorem IV {M F:Nat}{v:List Aa}(hA:IE M v)(hM:M≤1000000)(hF:M<F):L0 F v=some (Hp v):=by
 unfold L0 Hp whole;have hvM:=hA.hv;rcases Abh (hA.lk hF) with⟨f,ys,hp,hl⟩ | ⟨hp,sh',hl⟩
 ·rw[hl,AI rfl,hp];obtain⟨h1,h2,h3⟩:=KL hp;have hlen:v.length=f.flat.length+ys.length:=by rw[h1];simp
  cases ys with
  | cons c r=>
   rw[AC];simp only[Aef] at hlen;simp;omega
  | nil=>
   simp only[AeS,Nat.add_zero] at hlen;rw[A2 (by simp[hlen])];have hc:∀c∈f.flat,c.fStr.length≤M∧Bs .i64 c.fInt=true∧c.fN≤9223372036854775807:=λc hc=>hA.hc c (by rw[h1];simp[hc]);have hb:=Ns hM h2 (by omega) hc;have hb0:=IB h2;have e1:(f.sh 0 OO).fOutside=f.flat.any Ci:=by rw[QU];rfl
   have e2:(f.sh 0 OO).fLong=f.flat.any Is:=by rw[Od];rfl
   have e3:(f.sh 0 OO).fDepth=f.dep:=by rw[LX f 0 OO (by simp[OO])];simp[OO]
   have e4:(f.sh 0 OO).fBytes=(f.txt true).length:=by
    rw[LY f false none 0 OO h2 (by simp[OO]) (by simp[OO];omega),J6 f false none true h2,Oo h3];simp[OO]
   simp only;rw[e1,e2,e3,e4,hlen];unfold GF
   cases f.flat.any Ci with
   | true=>rw[AC rfl];rfl
   | false=>
    rw[A2 rfl];have a1:decide ((200:Int)<(f.flat.length:Int))=decide (200<f.flat.length):=by rw[Aev];simp;omega
    have a2:decide ((8:Int)<(f.dep:Int))=decide (8<f.dep):=by rw[Aev];simp;omega
    have a3:decide ((4000:Int)<((f.txt true).length:Int))=decide (4000<(f.txt true).length):=by rw[Aev];simp;omega
    rw[a1,a2,a3]
    cases(f.flat.any Is||(decide (200<f.flat.length)||(decide (8<f.dep)||decide (4000<(f.txt true).length))))<;>rfl
 ·rw[hl,AI rfl,hp];rfl
theorem Rj {v:List Aa}{p:Int}{f:Fo}{ys:List Aa}(h1:f.one=true)(hw:f.wf false none=true)(hd:v.drop p.toNat=f.flat++ys):JT v p=p+f.flat.length:=by
 unfold JT;rw[hd,UZ h1 hw]
theorem Ob {c:Aa}(hp:pl c=true)(hn:decide (0<c.fN)=false):(Fo.cell none c .nil).wf false none=true:=by simp[Fo.wf,B6,hp,hn]
theorem Oa {c:Aa}{kids:Fo}(hp:pl c=true)(hn:0<c.fN)(hk:c.fN=kids.cnt)(hw:kids.wf (decide (c.fKind=6)) none=true):(Fo.node none c kids .nil).wf false none=true:=by simp[Fo.wf,B6,hp,hn,hk,hw];omega
section
variable {M : Nat} {v : List Aa}
theorem IE.next (hA:IE M v){F:Nat}(hF:3*M+3<F){p:Int}(h0:0≤p)(h1:p≤v.length):Eb F v p=some (JT v p):=by
 have hM:=hA.hM;have hvM:=hA.hv;exact Sv (hA.rf (Aeo M)) (λc hc=>(hA.hc c hc).2.2) (v.length-p.toNat) F p h0 h1 rfl (by omega)
theorem Mc {F:Nat}{p:Int}{c:Aa}{r:List Aa}(h0:0≤p)(hpM:p≤1152921504606846976)(hd:v.drop p.toNat=c::r)(hp:pl c=true)(hn:decide (0<c.fN)=false):D8 (F+2) v p=some 1:=by
 obtain⟨g1,g2,g3⟩:=C0 h0 hd;rw[D8];unfold Je;rw[AW h0 g3,DP h0 hd]
 cases hk:(!decide (c.fKind=5)&&!decide (c.fKind=6)) with
 | true=>rw[AC rfl]
 | false=>
  rw[A2 rfl,A4 (by omega) (by omega),AI (Dn (o:=.go 0) (by
   show Dh (F+1) v p _ 0 (p+1) 0=_;unfold Dh;rw[DP h0 hd,A2 hn]))]
  simp only[BE,E3];rw[A4 (by omega) (by omega)];rfl
theorem Qq {F:Nat}{i:Int}{rec:List Aa→Int→Option Int}{most at_ x L:Int}{m:Bool}{p q:Int}{pc:Aa}(hpc:Aq v i=pc)(hm:decide (pc.fKind=6)=m)(hx:x<pc.fN)(hx0:0≤x)(hpcN:pc.fN≤9223372036854775807)
  (ha0:0≤at_) (haM:at_≤1152921504606846976) (hp:p=bif m then at_+1 else at_) (hr:rec v p=some L) (hq:Eb F v p=some q):Dh F v i rec most at_ x=some (.next (max most L,q,x+1)):=by
 unfold Dh;rw[hpc,AC (by simpa using hx),hm]
 cases m with
 | true=>
  simp only[Aek] at hp;rw[AC rfl,A4 (by omega) (by omega),← hp,hr,AI rfl]
  cases hl:decide (most<L) with
  | true=>rw[AC rfl,hq,AI rfl,A4 (by omega) (by omega),Int.max_eq_right (by simp at hl;omega)]
  | false=>rw[A2 rfl,hq,AI rfl,A4 (by omega) (by omega),Int.max_eq_left (by simp at hl;omega)]
 | false=>
  simp only[Aeh] at hp;rw[A2 rfl,← hp,hr,AI rfl]
  cases hl:decide (most<L) with
  | true=>rw[AC rfl,hq,AI rfl,A4 (by omega) (by omega),Int.max_eq_right (by simp at hl;omega)]
  | false=>rw[A2 rfl,hq,AI rfl,A4 (by omega) (by omega),Int.max_eq_left (by simp at hl;omega)]
theorem Mz {m:Bool}{last key:Option Af}(h:B6 m last key=true):((B4 key).length:Int)=bif m then 1 else 0:=by
  cases key with
  | none=>
            have:m=false:=by simpa[B6] using h
            subst this;rfl
  | some s=>simp only[B6,Aej] at h;rw[h.1.1];rfl
theorem Sy (hA:IE M v):∀(g:Fo) (F L:Nat) (i at_ x most:Int) (m:Bool) (last:Option Af) (ys:List Aa) (pc:Aa),Aq v i=pc→decide (pc.fKind=6)=m→pc.fN≤9223372036854775807→g.wf m last=true→v.drop at_.toNat=g.flat++ys→0≤at_→at_≤v.length→pc.fN=x+g.cnt→0≤x→0≤most→most≤1152921504606846976→g.cnt<L→3*M+5+g.flat.length<F→
  ∃o,BJ (λσ=>Dh F v i (D8 F) σ.1 σ.2.1 σ.2.2) L (most,at_,x)=some o∧BE (λν=>E3 ν) o=some (max most (g.dep:Int)+1):=by
 have hM:=hA.hM;have hvM:=hA.hv;have fin:∀(F L:Nat) (i at_ x most:Int) (pc:Aa),Aq v i=pc→pc.fN≤x→0≤most→most≤1152921504606846976→0<L→∃o,BJ (λσ=>Dh F v i (D8 F) σ.1 σ.2.1 σ.2.2) L (most,at_,x)=some o∧BE (λν=>E3 ν) o=some (most+1):=λF L i at_ x most pc hpc hx h0 hb hL=>by
  obtain⟨L,rfl⟩:∃K,L=K+1:=⟨L-1,by omega⟩
  refine⟨.go most,Dn (by show Dh F v i _ most at_ x=_;unfold Dh;rw[hpc,A2 (by simp;omega)]),?_⟩;simp only[BE,E3];rw[A4 (by omega) (by omega)]
 have depM:∀g:Fo,g.dep≤g.flat.length:=by
  intro g
  induction g with
  | nil=>simp[Fo.dep]
  | cell k c r ih=>simp[Fo.dep,Fo.flat];omega
  | node k c kids r ih1 ih2=>simp[Fo.dep,Fo.flat];omega
 intro g
 induction g with
 | nil=>
  intro F L i at_ x most m last ys pc hpc hm hpN hw hd h0 h1 hN hx hmo hmM hL hF;obtain⟨o,h1,h2⟩:=fin F L i at_ x most pc hpc (by simp[Fo.cnt] at hN;omega) hmo hmM (by omega);exact⟨o,h1,by rw[h2];simp only[Fo.dep];congr 2<;>omega⟩
 | cell k c r ih=>
  intro F L i at_ x most m last ys pc hpc hm hpN hw hd h0 h1 hN hx hmo hmM hL hF;simp only[Fo.wf,Aej,Aex] at hw;obtain⟨⟨⟨w1,w2⟩,w3⟩,w4⟩:=hw;simp only[Fo.flat,Ae5,AeO] at hd;simp only[Fo.cnt] at hN hL;simp only[Fo.flat,Aen,Aef] at hF;obtain⟨L,rfl⟩:∃K,L=K+1:=⟨L-1,by omega⟩
  obtain⟨F,rfl⟩:∃K,F=K+2:=⟨F-2,by omega⟩
  have hd1:=CM h0 hd;have hkl:=Mz w1;obtain⟨g1,g2,g3⟩:=C0 (by omega) hd1;have hlen:at_+(B4 k).length=bif m then at_+1 else at_:=by rw[hkl];cases m<;>simp
  have hq:=hA.next (F:=F+2) (by omega) (p:=at_+(B4 k).length) (by omega) (by omega);rw[Rj (f:=.cell none c .nil) (ys:=r.flat++ys) rfl (Ob w2 w3) hd1] at hq;have hb:=Qq (most:=most) (x:=x) hpc hm (by omega) hx hpN h0 (by omega) hlen (Mc (F:=F) (by omega) (by omega) hd1 w2 w3) hq;have hdd:=depM r;obtain⟨o,ho1,ho2⟩:=ih (F+2) L i (at_+(B4 k).length+((Fo.cell none c .nil).flat.length:Int)) (x+1) (max most 1) m k ys pc hpc hm hpN w4 (by rw[show(Fo.cell none c .nil).flat.length=1 from rfl];exact g2) (by omega) (by rw[show(Fo.cell none c .nil).flat.length=1 from rfl];omega) (by omega) (by omega) (by omega) (by omega) (by omega) (by omega);refine⟨o,GL hb ho1,?_⟩;rw[ho2,Fo.dep];congr 2<;>omega
 | node k c kids r ihk ih=>
  intro F L i at_ x most m last ys pc hpc hm hpN hw hd h0 h1 hN hx hmo hmM hL hF;simp only[Fo.wf,Aej,Aed] at hw;obtain⟨⟨⟨⟨⟨w1,w2⟩,w3⟩,w5⟩,w6⟩,w4⟩:=hw;simp only[Fo.flat,Ae5,AeO] at hd;simp only[Fo.cnt] at hN hL;simp only[Fo.flat,Aen,Aef] at hF;obtain⟨L,rfl⟩:∃K,L=K+1:=⟨L-1,by omega⟩
  obtain⟨F,rfl⟩:∃K,F=K+1:=⟨F-1,by omega⟩
  have hd1:=CM h0 hd;have hkl:=Mz w1;obtain⟨g1,g2,g3⟩:=C0 (by omega) hd1;have hcN:=(hA.hc c (Aet g1)).2.2;have hlen:at_+(B4 k).length=bif m then at_+1 else at_:=by rw[hkl];cases m<;>simp
  have hq:=hA.next (F:=F+1) (by omega) (p:=at_+(B4 k).length) (by omega) (by omega);have hfl:(Fo.node none c kids .nil).flat=c::kids.flat:=by simp[Fo.flat,B4]
  rw[Rj (f:=.node none c kids .nil) (ys:=r.flat++ys) rfl (Oa w2 w3 w5 w6) (by rw[hd1,hfl];simp)] at hq;have hdk:=depM kids;have hdd:=depM r;have hcf:=Cv kids;have hvl:(v.drop (at_+(B4 k).length+1).toNat).length=kids.flat.length+(r.flat.length+ys.length):=by rw[g2];simp
  rw[Afc] at hvl;have hrec:D8 (F+1) v (at_+(B4 k).length)=some ((kids.dep:Int)+1):=by
   rw[D8];unfold Je;rw[AW (by omega) g3,DP (by omega) hd1];have ha:=(I3 w2 w3).1;rw[A2 (by simp;omega),A4 (by omega) (by omega)];obtain⟨o,ho1,ho2⟩:=ihk F F (at_+(B4 k).length) (at_+(B4 k).length+1) 0 0 _ none (r.flat++ys) c (DP (by omega) hd1) rfl hcN w6 (by rw[g2]) (by omega) (by omega) (by omega) (Ae8 0) (Ae8 0) (by omega) (by omega) (by omega);rw[AI ho1,ho2];congr 2<;>omega
  have hb:=Qq (most:=most) (x:=x) hpc hm (by omega) hx hpN h0 (by omega) hlen hrec hq;obtain⟨o,ho1,ho2⟩:=ih (F+1) L i (at_+(B4 k).length+((Fo.node none c kids .nil).flat.length:Int)) (x+1) (max most ((kids.dep:Int)+1)) m k ys pc hpc hm hpN w4 (by
   have:=CM (by omega) g2;rw[hfl,Aef,show at_+(B4 k).length+((kids.flat.length+1:Nat):Int)=at_+(B4 k).length+1+kids.flat.length from by omega];exact this) (by omega) (by rw[hfl,Aef];omega) (by omega) (by omega) (by omega) (by omega) (by omega) (by omega)
  refine⟨o,GL hb ho1,?_⟩;rw[ho2,Fo.dep];congr 2<;>omega
theorem TX (hA:IE M v){F:Nat}{p:Int}{f:Fo}{ys:List Aa}(h0:0≤p)(h1:f.one=true)(hw:f.wf false none=true)(hd:v.drop p.toNat=f.flat++ys)(hF:3*M+6+f.flat.length<F):D8 F v p=some (f.dep:Int):=by
 have hM:=hA.hM;have hvM:=hA.hv
 cases f with
 | nil=>cases h1
 | cell k c r=>
  cases k with
  | some s=>cases h1
  | none=>
   cases r with
   | nil=>
    simp only[Fo.wf,Aej,Aex] at hw;obtain⟨F,rfl⟩:∃K,F=K+2:=⟨F-2,by omega⟩
    have hd':v.drop p.toNat=c::ys:=by simpa[Fo.flat,B4] using hd
    rw[Mc h0 (by have:=(C0 h0 hd').2.2;omega) hd' hw.1.1.2 hw.1.2];rfl
   | cell _ _ _=>cases h1
   | node _ _ _ _=>cases h1
 | node k c kids r=>
  cases k with
  | some s=>cases h1
  | none=>
   cases r with
   | nil=>
    simp only[Fo.wf,Aej,Aed] at hw;obtain⟨⟨⟨⟨⟨w1,w2⟩,w3⟩,w5⟩,w6⟩,w4⟩:=hw;have hd':v.drop p.toNat=c::(kids.flat++ys):=by simpa[Fo.flat,B4] using hd
    obtain⟨g1,g2,g3⟩:=C0 h0 hd';have hcN:=(hA.hc c (Aet g1)).2.2;have hcf:=Cv kids;simp only[Fo.flat,B4,AeE,AeF,Aef] at hF;obtain⟨F,rfl⟩:∃K,F=K+1:=⟨F-1,by omega⟩
    rw[D8];unfold Je;have ha:=(I3 w2 w3).1;rw[AW h0 g3,DP h0 hd',A2 (by simp;omega),A4 (by omega) (by omega)];obtain⟨o,ho1,ho2⟩:=Sy hA kids F F p (p+1) 0 0 _ none ys c (DP h0 hd') rfl hcN w6 g2 (by omega) (by omega) (by omega) (Ae8 0) (Ae8 0) (by omega) (by omega) (by omega);rw[AI ho1,ho2];simp only[Fo.dep];congr 1<;>omega
   | cell _ _ _=>cases h1
   | node _ _ _ _=>cases h1
end
def NT (c:UInt8):Af:=bif (decide (c=34)||decide (c=92)) then[92,c] else[c]
theorem No {s:Af}{k:Nat}{c:UInt8}(h:s[k]? =some c):EC (s.take (k+1))=EC (s.take k)++NT c:=by
 rw[List.take_add_one,h];simp[EC,List.flatMap_append,NT]
theorem Tw (s:Af):(EC s).length≤3*s.length:=by
 rw[ME];have h1:s.count 34≤s.length:=List.count_le_length;have h2:s.count 92≤s.length:=List.count_le_length;omega
theorem TR {s:Af}{x:Int}{c:UInt8}(h0:0≤x)(h:s[x.toNat]? =some c):List.take (Int.toNat (x+1)-Int.toNat x) (List.drop (Int.toNat x) s)=[c]:=by
 have hl:=(List.getElem?_eq_some_iff.1 h).1;have hc:=(List.getElem?_eq_some_iff.1 h).2;rw[show Int.toNat (x+1)-Int.toNat x=1 from by omega,List.drop_eq_getElem_cons hl,hc];rfl
theorem AbU {s:Af}{x:Int}{c:UInt8}(h:s[x.toNat]? =some c):decide (AM s x=34)=decide (c=34):=by
 rw[DC h,Aev,decide_eq_true_iff,decide_eq_true_iff,← AeX];show _↔c.toNat=34;omega
theorem AbT {s:Af}{x:Int}{c:UInt8}(h:s[x.toNat]? =some c):decide (AM s x=92)=decide (c=92):=by
 rw[DC h,Aev,decide_eq_true_iff,decide_eq_true_iff,← AeX];show _↔c.toNat=92;omega
theorem QZ {s out:Af}{x:Int}{c:UInt8}(h0:0≤x)(hx:x<(s.length:Int))(hs:s.length≤1152921504606846976)(ho:out.length≤3*s.length+1)(hc:s[x.toNat]? =some c):D5 s out x=some (.next (out++NT c,x+1)):=by
 unfold D5 NT;rw[AC (Aei hx),AW h0 hx,AbU hc,AbT hc,TR h0 hc];have l1:(([92]:Af).length:Int)=1:=rfl;have l2:(([c]:Af).length:Int)=1:=rfl
 cases hq:(decide (c=34)||decide (c=92)) with
 | true=>
  have l3:((out++([92]:Af)).length:Int)=out.length+1:=by rw[Aen,AeC,Int.natCast_add];rfl
  rw[AC rfl,l1,l2,l3,A4 (by omega) (by omega),A4 (by omega) (by omega),BN (by omega) (by omega),BN (by omega) (by omega),A4 (by omega) (by omega),Ae5];rfl
 | false=>
  rw[A2 rfl,l2,A4 (by omega) (by omega),BN (by omega) (by omega),BN (by omega) (by omega),A4 (by omega) (by omega)];rfl
theorem CU {R V:Type}(K:V→Option R)(v:V):BE K (.go v)=K v:=rfl
theorem Mo {R V:Type}(K:V→Option R)(r:R):BE K (.ret r)=some r:=rfl
theorem Ss {s out:Af}{x:Int}(hx : ¬ x<(s.length:Int)):D5 s out x=some (.out (.go out)):=by
 unfold D5;rw[A2 (Aeg hx)]
theorem We {out:Af}(h:out.length≤4611686018427387904):Ef out=some (out++[34]):=by
 unfold Ef;have l1:(([34]:Af).length:Int)=1:=rfl;rw[l1,A4 (by omega) (by omega)]
theorem L6 {F:Nat}{s:Af}(hF:s.length<F)(hs:s.length≤1152921504606846976):J9 F s=some (E6 s):=by
 obtain⟨o,h1,h2⟩:=Gi (body:=λσ=>D5 s σ.1 σ.2) (λσ=>0≤σ.2∧σ.2≤(s.length:Int)∧σ.1=34::EC (s.take σ.2.toNat)) (λσ=>s.length-σ.2.toNat)
  (λo=>BE (λν=>Ef ν) o=some (E6 s)) (λσ ⟨h0,hl,ha⟩=>by
   obtain⟨out,x⟩:=σ;simp only at h0 hl ha;show(∃s',D5 s out x=_∧_)∨∃o,D5 s out x=_∧_;have hb:=Tw (s.take x.toNat);have hb2:(s.take x.toNat).length≤s.length:=by rw[Afh];omega
   have hol:out.length≤3*s.length+1:=by rw[ha,Aef];omega
   by_cases hx:x<(s.length:Int)
   ·obtain⟨c,hc⟩:∃c,s[x.toNat]? =some c:=⟨s[x.toNat]'(by omega),Aeq (by omega)⟩
    have a1:0≤x+1:=by omega
    have a2:x+1≤s.length:=by omega
    have a3:s.length-(x+1).toNat<s.length-x.toNat:=by omega
    have a4:out++NT c=34::EC (s.take (x+1).toNat):=by rw[show(x+1).toNat=x.toNat+1 from by omega,No hc,ha];rfl
    exact .inl ⟨(out++NT c,x+1),QZ h0 hx hs hol hc,⟨a1,a2,a4⟩,a3⟩
   ·have e:x.toNat=s.length:=by omega
    have hk:Ef out=some (out++[34]):=We (by omega);have hf:out++[34]=E6 s:=by rw[ha,e,Afa];rfl
    exact .inr ⟨.go out,Ss hx,(CU (λν=>Ef ν) out).trans (hk.trans (congrArg some hf))⟩) F ([34],0) ⟨Ae8 0,by show(0:Int)≤s.length;omega,by show([34]:Af)=34::EC (s.take 0);simp[EC]⟩ (by show s.length-0<F;omega)
 unfold J9;rw[AI h1,h2]
section
variable {M : Nat} {v : List Aa}
theorem Ad1 (a b c d e:Af):(((a++b)++c)++d)++e=a++(b++(c++d)++e):=by simp
theorem Ad2 (a b c d:Af):((a++b)++c)++d=a++([]++(b++c)++d):=by simp
theorem Ad3 (a b c:Af):(a++b)++c=a++(b++[]++c):=by simp
theorem Ad4 (a b:Af):a++b=a++([]++[]++b):=by simp
theorem Abk (a:Af)(c:UInt8):((a++[c]).length:Int)=a.length+1:=by rw[Aen,AeC,Int.natCast_add];rfl
theorem Te (a b:Af):((a++b).length:Int)=a.length+b.length:=by rw[Aen,Int.natCast_add]
theorem Qm {F:Nat}{i:Int}{rec:List Aa→Int→Option Af}{out tx:Af}{at_ x:Int}{m:Bool}{p q:Int}{pc:Aa}{key:Option Af}{last:Option Af}(hpc:Aq v i=pc)(hm:decide (pc.fKind=6)=m)(hx:x<pc.fN)(hx0:0≤x)(hpcN:pc.fN≤9223372036854775807)
  (ha0:0≤at_) (haM:at_<v.length) (hvM:(v.length:Int)≤1152921504606846976) (hk:B6 m last key=true) (hkey:∀s,key=some s→(Aq v at_).fStr=s∧s.length<F∧s.length≤1152921504606846976) (hp:p=bif m then at_+1 else at_) (hr:rec v p=some tx) (hq:Eb F v p=some q)
  (hlen:((out++(CT (decide (x=0))++GM key++tx)).length:Int)≤4611686018427387904):E2 F v i rec out at_ x=some (.next (out++(CT (decide (x=0))++GM key++tx),q,x+1)):=by
 have hb:(([44]:Af).length:Int)=1:=rfl;have hd:(([58]:Af).length:Int)=1:=rfl;have hx1:AQ (Bs .i64 (x+1)) (some (Stp.next (out++(CT (decide (x=0))++GM key++tx),q,x+1)):Option (Stp (Af×Int×Int) (Out Af Af)))=some (Stp.next (out++(CT (decide (x=0))++GM key++tx),q,x+1)):=A4 (by omega) (by omega);unfold E2;rw[hpc,AC (Aei hx),hm]
 cases ha:decide (x=0) with
 | true=>
  rw[ha] at hx1 hlen;simp only[Aed] at ha;rw[A2 (Aeg (by omega))]
  cases m with
  | true=>
   cases key with
   | none=>simp[B6] at hk
   | some s=>
    obtain⟨e1,e2,e3⟩:=hkey s rfl;simp only[Aek] at hp;have e:((out++E6 s)++[58])++tx=out++(CT true++GM (some s)++tx):=Ad2 _ _ _ _;rw[← e] at hx1 hlen ⊢;have h1:=Te ((out++E6 s)++[58]) tx;have h2:=Abk (out++E6 s) 58;have h3:=Te out (E6 s);rw[AC rfl,AW ha0 haM,e1,L6 e2 e3,AI rfl,A4 (by omega) (by omega),hd,A4 (by omega) (by omega),A4 (by omega) (by omega),← hp,hr,AI rfl,A4 (by omega) (by omega),hq,AI rfl,hx1]
  | false=>
   cases key with
   | some s=>simp[B6] at hk
   | none=>
    simp only[Aeh] at hp;have e:out++tx=out++(CT true++GM none++tx):=Ad4 _ _;rw[← e] at hx1 hlen ⊢;have h1:=Te out tx;rw[A2 rfl,← hp,hr,AI rfl,A4 (by omega) (by omega),hq,AI rfl,hx1]
 | false=>
  rw[ha] at hx1 hlen;simp only[Aee] at ha;rw[AC (Aei (by omega))]
  cases m with
  | true=>
   cases key with
   | none=>simp[B6] at hk
   | some s=>
    obtain⟨e1,e2,e3⟩:=hkey s rfl;simp only[Aek] at hp;have e:(((out++[44])++E6 s)++[58])++tx=out++(CT false++GM (some s)++tx):=Ad1 _ _ _ _ _;rw[← e] at hx1 hlen ⊢;have h1:=Te (((out++[44])++E6 s)++[58]) tx;have h2:=Abk ((out++[44])++E6 s) 58;have h3:=Te (out++[44]) (E6 s);have h4:=Abk out 44;rw[hb,A4 (by omega) (by omega),AC rfl,AW ha0 haM,e1,L6 e2 e3,AI rfl,A4 (by omega) (by omega),hd,A4 (by omega) (by omega),A4 (by omega) (by omega),← hp,hr,AI rfl,A4 (by omega) (by omega),hq,AI rfl,hx1]
  | false=>
   cases key with
   | some s=>simp[B6] at hk
   | none=>
    simp only[Aeh] at hp;have e:(out++[44])++tx=out++(CT false++GM none++tx):=Ad3 _ _ _;rw[← e] at hx1 hlen ⊢;have h1:=Te (out++[44]) tx;have h4:=Abk out 44;rw[hb,A4 (by omega) (by omega),A2 rfl,← hp,hr,AI rfl,A4 (by omega) (by omega),hq,AI rfl,hx1]
theorem US {i:Int}{pc:Aa}{out:Af}(hpc:Aq v i=pc)(h:out.length≤4611686018427387904):In v i out=some (NJ pc out):=by
 unfold In NJ;have l1:(([123]:Af).length:Int)=1:=rfl;have l2:(([91]:Af).length:Int)=1:=rfl;have l3:(([125]:Af).length:Int)=1:=rfl;have l4:(([93]:Af).length:Int)=1:=rfl;have h1:=Te [123] out;have h2:=Te [91] out;rw[hpc]
 cases hk:decide (pc.fKind=6) with
 | true=>rw[AC rfl,A4 (by omega) (by omega),A4 (by omega) (by omega)];rfl
 | false=>rw[A2 rfl,A4 (by omega) (by omega),A4 (by omega) (by omega)];rfl
theorem OR {F:Nat}{p:Int}{c:Aa}{r:List Aa}(h0:0≤p)(hpM:p≤1152921504606846976)(hd:v.drop p.toNat=c::r)(hp:pl c=true)(hn:decide (0<c.fN)=false)(hs:c.fStr.length<F+1)(hs2:c.fStr.length≤1152921504606846976)(hi:Bs .i64 c.fInt=true):H3 (F+2) v p=some (DX c):=by
 obtain⟨g1,g2,g3⟩:=C0 h0 hd;rw[H3];unfold MT DX;rw[AW h0 g3,DP h0 hd]
 cases k1:decide (c.fKind=1) with
 | true=>rw[AC rfl];rfl
 | false=>
 rw[A2 rfl]
 cases k2:decide (c.fKind=2) with
 | true=>rw[AC rfl];cases decide (c.fInt=1)<;>rfl
 | false=>
 rw[A2 rfl]
 cases k3:decide (c.fKind=3) with
 | true=>rw[AC rfl,B7 hi];rfl
 | false=>
 rw[A2 rfl]
 cases k4:decide (c.fKind=4) with
 | true=>rw[AC rfl,L6 hs hs2,AI rfl];rfl
 | false=>
 have hgo:E2 (F+1) v p (H3 (F+1)) [] (p+1) 0=some (.out (.go [])):=by
  unfold E2;rw[DP h0 hd,A2 hn]
 rw[A2 rfl,A4 (by omega) (by omega),AI (Dn (o:=.go []) hgo),CU,US (DP h0 hd) (by simp)];simp only[Aeh,NJ]
 cases decide (c.fKind=6)<;>rfl
end
section
variable {M : Nat} {v : List Aa}
theorem Hd {α:Type}[Inhabited α](a:α):ov (some a)=a:=rfl
theorem Za {at_:Int}{k:Option Af}{r:List Aa}(h0:0≤at_)(hA:IE M v){F:Nat}(hF:M<F)(hd:v.drop at_.toNat=B4 k++r):∀s,k=some s→(Aq v at_).fStr=s∧s.length<F∧s.length≤1152921504606846976:=λs e=>by
 subst e;have hd':v.drop at_.toNat=⟨4,0,s,0⟩::r:=by simpa[B4] using hd
 have h1:=DP h0 hd';have h2:=(hA.hc _ (Aet (C0 h0 hd').1)).1;have hM:=hA.hM;simp only at h2;exact⟨by rw[h1],by omega,by omega⟩
theorem Sn (hA:IE M v):∀(g:Fo) (F L:Nat) (i at_ x:Int) (out:Af) (m:Bool) (last:Option Af) (ys:List Aa) (pc:Aa),Aq v i=pc→decide (pc.fKind=6)=m→pc.fN≤9223372036854775807→g.wf m last=true→v.drop at_.toNat=g.flat++ys→0≤at_→at_≤v.length→pc.fN=x+g.cnt→0≤x→(out++g.txt (decide (x=0))).length≤4611686018427387904→g.cnt<L→3*M+5+g.flat.length<F→
  ∃o,BJ (λσ=>E2 F v i (H3 F) σ.1 σ.2.1 σ.2.2) L (out,at_,x)=some o∧BE (λν=>In v i ν) o=some (NJ pc (out++g.txt (decide (x=0)))):=by
 have hM:=hA.hM;have hvM:=hA.hv;intro g
 induction g with
 | nil=>
  intro F L i at_ x out m last ys pc hpc hm hpN hw hd h0 h1 hN hx hlen hL hF;obtain⟨L,rfl⟩:∃K,L=K+1:=⟨L-1,by omega⟩
  have hgo:E2 F v i (H3 F) out at_ x=some (.out (.go out)):=by
   simp only[Fo.cnt] at hN;unfold E2;rw[hpc,A2 (Aeg (by omega))]
  refine⟨.go out,Dn hgo,?_⟩;simp only[Fo.txt,AeF] at hlen ⊢;rw[CU,US hpc hlen]
 | cell k c r ih=>
  intro F L i at_ x out m last ys pc hpc hm hpN hw hd h0 h1 hN hx hlen hL hF;simp only[Fo.wf,Aej,Aex] at hw;obtain⟨⟨⟨w1,w2⟩,w3⟩,w4⟩:=hw;simp only[Fo.flat,Ae5,AeO] at hd;simp only[Fo.cnt] at hN hL;simp only[Fo.flat,Aen,Aef] at hF;obtain⟨L,rfl⟩:∃K,L=K+1:=⟨L-1,by omega⟩
  obtain⟨F,rfl⟩:∃K,F=K+2:=⟨F-2,by omega⟩
  have hd1:=CM h0 hd;have hkl:=Mz w1;obtain⟨g1,g2,g3⟩:=C0 (by omega) hd1;have hcM:=hA.hc c (Aet g1);have hp:at_+(B4 k).length=bif m then at_+1 else at_:=by rw[hkl];cases m<;>simp
  have hq:=hA.next (F:=F+2) (by omega) (p:=at_+(B4 k).length) (by omega) (by omega);rw[Rj (f:=.cell none c .nil) (ys:=r.flat++ys) rfl (Ob w2 w3) hd1] at hq;have e:out++(Fo.cell k c r).txt (decide (x=0))=(out++(CT (decide (x=0))++GM k++DX c))++r.txt (decide (x+1=0)):=by
   rw[Aeg (show ¬ x+1=0 by omega)];simp[Fo.txt]
  rw[e] at hlen ⊢;have hl2:((out++(CT (decide (x=0))++GM k++DX c)).length:Int)≤4611686018427387904:=by rw[Aen] at hlen;omega
  have hat:at_<v.length:=by omega
  have hb:=Qm hpc hm (by omega) hx hpN h0 hat (by omega) w1 (Za h0 hA (F:=F+2) (by omega) hd) hp (OR (F:=F) (by omega) (by omega) hd1 w2 w3 (by omega) (by omega) hcM.2.1) hq hl2;obtain⟨o,ho1,ho2⟩:=ih (F+2) L i (at_+(B4 k).length+((Fo.cell none c .nil).flat.length:Int)) (x+1) (out++(CT (decide (x=0))++GM k++DX c)) m k ys pc hpc hm hpN w4 (by rw[show(Fo.cell none c .nil).flat.length=1 from rfl];exact g2) (by omega) (by rw[show(Fo.cell none c .nil).flat.length=1 from rfl];omega) (by omega) (by omega) hlen (by omega) (by omega);exact⟨o,GL hb ho1,ho2⟩
 | node k c kids r ihk ih=>
  intro F L i at_ x out m last ys pc hpc hm hpN hw hd h0 h1 hN hx hlen hL hF;simp only[Fo.wf,Aej,Aed] at hw;obtain⟨⟨⟨⟨⟨w1,w2⟩,w3⟩,w5⟩,w6⟩,w4⟩:=hw;simp only[Fo.flat,Ae5,AeO] at hd;simp only[Fo.cnt] at hN hL;simp only[Fo.flat,Aen,Aef] at hF;obtain⟨L,rfl⟩:∃K,L=K+1:=⟨L-1,by omega⟩
  obtain⟨F,rfl⟩:∃K,F=K+1:=⟨F-1,by omega⟩
  have hd1:=CM h0 hd;have hkl:=Mz w1;obtain⟨g1,g2,g3⟩:=C0 (by omega) hd1;have hcN:=(hA.hc c (Aet g1)).2.2;have hp:at_+(B4 k).length=bif m then at_+1 else at_:=by rw[hkl];cases m<;>simp
  have hq:=hA.next (F:=F+1) (by omega) (p:=at_+(B4 k).length) (by omega) (by omega);have hfl:(Fo.node none c kids .nil).flat=c::kids.flat:=by simp[Fo.flat,B4]
  rw[Rj (f:=.node none c kids .nil) (ys:=r.flat++ys) rfl (Oa w2 w3 w5 w6) (by rw[hd1,hfl];simp)] at hq;have hcf:=Cv kids;have hvl:(v.drop (at_+(B4 k).length+1).toNat).length=kids.flat.length+(r.flat.length+ys.length):=by rw[g2];simp
  rw[Afc] at hvl;have e:out++(Fo.node k c kids r).txt (decide (x=0))=(out++(CT (decide (x=0))++GM k++NJ c (kids.txt true)))++r.txt (decide (x+1=0)):=by
   rw[Aeg (show ¬ x+1=0 by omega)];simp[Fo.txt]
  rw[e] at hlen ⊢;have hl2:((out++(CT (decide (x=0))++GM k++NJ c (kids.txt true))).length:Int)≤4611686018427387904:=by rw[Aen] at hlen;omega
  have hl3:(kids.txt true).length≤4611686018427387904:=by
   have:=JI c (kids.txt true);rw[Aen,Aen] at hl2;omega
  have hat:at_<v.length:=by omega
  have hrec:H3 (F+1) v (at_+(B4 k).length)=some (NJ c (kids.txt true)):=by
   rw[H3];unfold MT;have ha:=(I3 w2 w3).1;rw[AW (by omega) g3,DP (by omega) hd1,A2 (Aeg (by omega)),A2 (Aeg (by omega)),A2 (Aeg (by omega)),A2 (Aeg (by omega)),A4 (by omega) (by omega)];obtain⟨o,ho1,ho2⟩:=ihk F F (at_+(B4 k).length) (at_+(B4 k).length+1) 0 [] _ none (r.flat++ys) c (DP (by omega) hd1) rfl hcN w6 (by rw[g2]) (by omega) (by omega) (by omega) (Ae8 0) hl3 (by omega) (by omega);rw[AI ho1,ho2];rfl
  have hb:=Qm hpc hm (by omega) hx hpN h0 hat (by omega) w1 (Za h0 hA (F:=F+1) (by omega) hd) hp hrec hq hl2;obtain⟨o,ho1,ho2⟩:=ih (F+1) L i (at_+(B4 k).length+((Fo.node none c kids .nil).flat.length:Int)) (x+1) (out++(CT (decide (x=0))++GM k++NJ c (kids.txt true))) m k ys pc hpc hm hpN w4 (by
   have:=CM (by omega) g2;rw[hfl,Aef,show at_+(B4 k).length+((kids.flat.length+1:Nat):Int)=at_+(B4 k).length+1+kids.flat.length from by omega];exact this) (by omega) (by rw[hfl,Aef];omega) (by omega) (by omega) hlen (by omega) (by omega)
  exact⟨o,GL hb ho1,ho2⟩
theorem Yg (hA:IE M v){F:Nat}{p:Int}{f:Fo}{ys:List Aa}(h0:0≤p)(h1:f.one=true)(hw:f.wf false none=true)(hd:v.drop p.toNat=f.flat++ys)(hF:3*M+6+f.flat.length<F)(hlen:(f.txt true).length≤4611686018427387904):H3 F v p=some (f.txt true):=by
 have hM:=hA.hM;have hvM:=hA.hv
 cases f with
 | nil=>cases h1
 | cell k c r=>
  cases k with
  | some s=>cases h1
  | none=>
   cases r with
   | nil=>
    simp only[Fo.wf,Aej,Aex] at hw;obtain⟨F,rfl⟩:∃K,F=K+2:=⟨F-2,by omega⟩
    have hd':v.drop p.toNat=c::ys:=by simpa[Fo.flat,B4] using hd
    have hcM:=hA.hc c (Aet (C0 h0 hd').1);rw[OR h0 (by have:=(C0 h0 hd').2.2;omega) hd' hw.1.1.2 hw.1.2 (by omega) (by omega) hcM.2.1];simp[Fo.txt,CT,GM]
   | cell _ _ _=>cases h1
   | node _ _ _ _=>cases h1
 | node k c kids r=>
  cases k with
  | some s=>cases h1
  | none=>
   cases r with
   | nil=>
    simp only[Fo.wf,Aej,Aed] at hw;obtain⟨⟨⟨⟨⟨w1,w2⟩,w3⟩,w5⟩,w6⟩,w4⟩:=hw;have hd':v.drop p.toNat=c::(kids.flat++ys):=by simpa[Fo.flat,B4] using hd
    obtain⟨g1,g2,g3⟩:=C0 h0 hd';have hcN:=(hA.hc c (Aet g1)).2.2;have hcf:=Cv kids;simp only[Fo.flat,B4,AeE,AeF,Aef] at hF;have et:(Fo.node none c kids .nil).txt true=NJ c (kids.txt true):=by simp[Fo.txt,CT,GM]
    rw[et] at hlen ⊢;have hbl:=JI c (kids.txt true);obtain⟨F,rfl⟩:∃K,F=K+1:=⟨F-1,by omega⟩
    rw[H3];unfold MT;have ha:=(I3 w2 w3).1;rw[AW h0 g3,DP h0 hd',A2 (Aeg (by omega)),A2 (Aeg (by omega)),A2 (Aeg (by omega)),A2 (Aeg (by omega)),A4 (by omega) (by omega)];obtain⟨o,ho1,ho2⟩:=Sn hA kids F F p (p+1) 0 [] _ none ys c (DP h0 hd') rfl hcN w6 g2 (by omega) (by omega) (by omega) (Ae8 0) (by show(kids.txt true).length≤_;omega) (by omega) (by omega);rw[AI ho1,ho2];rfl
   | cell _ _ _=>cases h1
   | node _ _ _ _=>cases h1
theorem Wo {F:Nat}{K:Option Int}(hF:v.length<F)(hv:v.length≤1152921504606846976):Br (BJ (λσ=>EM v σ) F 0) (BE λ_=>K)=bif v.any Ci then some 2 else K:=by
 obtain⟨o,h1,h2⟩:=Gi (body:=λσ=>EM v σ) (λx=>0≤x∧x≤(v.length:Int)∧(v.take x.toNat).any Ci=false) (λx=>v.length-x.toNat)
  (λo=>BE (λ_=>K) o=bif v.any Ci then some 2 else K) (λx ⟨h0,hl,ha⟩=>by
   by_cases hx:x<(v.length:Int)
   ·obtain⟨c,hc⟩:∃c,v[x.toNat]? =some c:=⟨v[x.toNat]'(by omega),Aeq (by omega)⟩
    have hat:Aq v x=c:=by simp[Aq,hc]
    have ho:(decide (c.fKind=3)&&(decide (c.fInt<(-1000000000000))||decide (1000000000000<c.fInt)))=Ci c:=by
     unfold Ci
     cases decide (c.fKind=3) with
     | false=>rfl
     | true=>
      rw[Aer,Aer,Aev];simp only[AeG,Aed,Aex,AeJ,Aee];omega
    have hb:EM v x=Bi (Ci c) (some (.out (.ret 2))) (some (.next (x+1))):=by
     unfold EM;rw[AC (Aei hx),AW h0 hx,hat,ho,A4 (by omega) (by omega)]
    cases hq:Ci c with
    | true=>
     refine .inr ⟨.ret 2,hb.trans (AC hq),?_⟩;have:v.any Ci=true:=List.any_eq_true.2 ⟨c,Aet hc,hq⟩;rw[Mo,this];rfl
    | false=>
     have a3:(v.take (x+1).toNat).any Ci=false:=by
      rw[show(x+1).toNat=x.toNat+1 from by omega,List.take_add_one,hc,List.any_append,ha];simp[hq]
     exact .inl ⟨x+1,hb.trans (A2 hq),⟨by omega,by omega,a3⟩,by omega⟩
   ·refine .inr ⟨.go (),by unfold EM;rw[A2 (Aeg hx)],?_⟩;rw[show x.toNat=v.length from by omega,Afa] at ha;rw[CU,ha];rfl) F 0 ⟨Ae8 0,by omega,by simp⟩ (by simpa using hF)
 rw[AI h1,h2]
theorem Wn {F:Nat}{K:Option Int}(hF:v.length<F)(hv:v.length≤1152921504606846976):Br (BJ (λσ=>EL v σ) F 0) (BE λ_=>K)=bif v.any Is then some 3 else K:=by
 obtain⟨o,h1,h2⟩:=Gi (body:=λσ=>EL v σ) (λx=>0≤x∧x≤(v.length:Int)∧(v.take x.toNat).any Is=false) (λx=>v.length-x.toNat)
  (λo=>BE (λ_=>K) o=bif v.any Is then some 3 else K) (λx ⟨h0,hl,ha⟩=>by
   by_cases hx:x<(v.length:Int)
   ·obtain⟨c,hc⟩:∃c,v[x.toNat]? =some c:=⟨v[x.toNat]'(by omega),Aeq (by omega)⟩
    have hat:Aq v x=c:=by simp[Aq,hc]
    have hb:EL v x=Bi (Is c) (some (.out (.ret 3))) (some (.next (x+1))):=by
     unfold EL;rw[AC (Aei hx),AW h0 hx,hat,A4 (by omega) (by omega)];rfl
    cases hq:Is c with
    | true=>
     refine .inr ⟨.ret 3,hb.trans (AC hq),?_⟩;have:v.any Is=true:=List.any_eq_true.2 ⟨c,Aet hc,hq⟩;rw[Mo,this];rfl
    | false=>
     have a3:(v.take (x+1).toNat).any Is=false:=by
      rw[show(x+1).toNat=x.toNat+1 from by omega,List.take_add_one,hc,List.any_append,ha];simp[hq]
     exact .inl ⟨x+1,hb.trans (A2 hq),⟨by omega,by omega,a3⟩,by omega⟩
   ·refine .inr ⟨.go (),by unfold EL;rw[A2 (Aeg hx)],?_⟩;rw[show x.toNat=v.length from by omega,Afa] at ha;rw[CU,ha];rfl) F 0 ⟨Ae8 0,by omega,by simp⟩ (by simpa using hF)
 rw[AI h1,h2]
theorem Rw:decide (JT v 0=v.length)=(whole v).isSome:=by
 unfold JT whole;rw[show v.drop (0:Int).toNat=v from rfl]
 cases hp:IK v with
 | none=>simp
 | some q=>
  obtain⟨f,ys⟩:=q;have h1:=(KL hp).1;have hl:v.length=f.flat.length+ys.length:=by rw[h1];simp
  cases ys with
  | nil=>simp at hl ⊢;omega
  | cons c r=>simp at hl ⊢;omega
theorem MY (hA:IE M v)(hM:M≤1000000){F:Nat}(hF:4*M+6<F):MZ F v=some (Hp v):=by
 have hvM:=hA.hv;unfold MZ;rw[TY (hA.rf (Aeo M)) (λc hc=>(hA.hc c hc).2.2) (by omega),AI rfl,Rw];unfold Hp
 cases hwh:whole v with
 | none=>rfl
 | some f=>
  obtain⟨h1,h2,h3⟩:=J5 hwh;rw[A2 (p:=!(some f).isSome) rfl]
  change _=some (GF f)
  have hl:v.length=f.flat.length:=by rw[h1]
  have hc:∀c∈f.flat,c.fStr.length≤M∧Bs .i64 c.fInt=true∧c.fN≤9223372036854775807:=λc hc=>hA.hc c (by rw[h1];exact hc);have hb:=Ns hM h2 (by omega) hc;have htl:((f.txt true).length:Int)=f.byt:=by rw[J6 f false none true h2,Oo h3];simp
  have hd0:v.drop (0:Int).toNat=f.flat++[]:=by rw[AeF];exact h1
  rw[Wo (by omega) (by omega)];unfold GF Jg;rw[TX hA (Ae8 0) h3 h2 hd0 (by omega),B7 (by simp[imp]),Wn (by omega) (by omega)];unfold Jf;rw[Yg hA (Ae8 0) h3 h2 hd0 (by omega) (by omega),AI rfl];rw[Hd,hl,← h1];have a1:decide ((200:Int)<(v.length:Int))=decide (200<v.length):=by rw[Aev];simp;omega
  have a2:decide ((8:Int)<(f.dep:Int))=decide (8<f.dep):=by rw[Aev];simp;omega
  have a3:decide ((4000:Int)<((f.txt true).length:Int))=decide (4000<(f.txt true).length):=by rw[Aev];simp;omega
  rw[a1,a2,a3]
  cases v.any Ci<;>cases v.any Is<;>cases decide (200<v.length)<;>cases decide (8<f.dep)<;>cases decide (4000<(f.txt true).length)<;>rfl
end
theorem DB {α:Type}{n:Nat}{x:Option α}(h:n≤140737488355328):AQ (Dw 1 n) x=x:=B7 (Aei (by omega))
theorem GN {α β:Type}(a:α)(k:α→Option β):MJ a k=k a:=rfl
theorem Hy {α:Type}{n:Int}{x:Option α}(h:0≤n)(h':n≤255):AQ (Bs .u8 n) x=x:=B7 (Abt h h')
theorem Aae {s:Af}{x:Int}{c:UInt8}(h:s[x.toNat]? =some c):UInt8.ofNat (Int.toNat (AM s x))=c∧0≤AM s x∧AM s x≤255:=by
 have:=UInt8.toNat_lt c;rw[DC h];refine⟨?_,by omega,by omega⟩;rw[← AeX];simp
theorem RZ {s l:Af}{x:Int}{c:UInt8}(h0:0≤x)(hx:x<(s.length:Int))(hs:s.length≤1152921504606846976)(hl:l.length+2≤140737488355328)(hc:s[x.toNat]? =some c):DT s x l=some (.next (x+1,l++NT c)):=by
 obtain⟨b1,b2,b3⟩:=Aae hc;unfold DT NT;rw[AC (Aei hx),AW h0 hx,AbU hc,AbT hc];have l1:(l++[UInt8.ofNat (Int.toNat 92)]).length=l.length+1:=by simp
 cases hq:(decide (c=34)||decide (c=92)) with
 | true=>
  rw[AC rfl,DB (by omega),Hy (by decide) (by decide),GN,l1,DB (by omega),Hy b2 b3,GN,b1,A4 (by omega) (by omega),Ae5];rfl
 | false=>
  rw[A2 rfl,DB (by omega),Hy b2 b3,GN,b1,A4 (by omega) (by omega)];rfl
theorem XF {l:Af}(h:l.length+1≤140737488355328):Gw l=some (l++[34]):=by
 unfold Gw;rw[DB h,GN];rfl
theorem MQ {F:Nat}{l s:Af}(hF:s.length<F)(hl:(l++E6 s).length≤140737488355328):Lz F l s=some (l++E6 s):=by
 have hq:(E6 s).length=(EC s).length+2:=by simp[E6]
 rw[Aen,hq] at hl;have hesc:∀k,(EC (s.take k)).length≤(EC s).length:=λk=>by
  have:EC s=EC (s.take k)++EC (s.drop k):=by rw[EC,EC,EC,← List.flatMap_append,AeZ]
  rw[this,Aen];omega
 have hsl:s.length≤(EC s).length:=by rw[ME];omega
 obtain⟨o,h1,h2⟩:=Gi (body:=λσ=>DT s σ.1 σ.2) (λσ=>0≤σ.1∧σ.1≤(s.length:Int)∧σ.2=l++[34]++EC (s.take σ.1.toNat)) (λσ=>s.length-σ.1.toNat)
  (λo=>BE (λν=>Gw ν) o=some (l++E6 s)) (λσ ⟨h0,hlx,ha⟩=>by
   obtain⟨x,out⟩:=σ;simp only at h0 hlx ha;show(∃s',DT s x out=_∧_)∨∃o,DT s x out=_∧_;have hol:out.length=l.length+1+(EC (s.take x.toNat)).length:=by rw[ha];simp;omega
   have he:=hesc x.toNat
   by_cases hx:x<(s.length:Int)
   ·obtain⟨c,hc⟩:∃c,s[x.toNat]? =some c:=⟨s[x.toNat]'(by omega),Aeq (by omega)⟩
    have he2:=hesc (x.toNat+1);rw[No hc,Aen] at he2;have hc1:1≤(NT c).length:=by unfold NT;cases(decide (c=34)||decide (c=92))<;>simp
    have a1:0≤x+1:=by omega
    have a2:x+1≤s.length:=by omega
    have a3:s.length-(x+1).toNat<s.length-x.toNat:=by omega
    have a4:out++NT c=l++[34]++EC (s.take (x+1).toNat):=by rw[show(x+1).toNat=x.toNat+1 from by omega,No hc,ha,Ae5]
    exact .inl ⟨(x+1,out++NT c),RZ h0 hx (by omega) (by omega) hc,⟨a1,a2,a4⟩,a3⟩
   ·have e:x.toNat=s.length:=by omega
    rw[e,Afa] at ha;have hf:out++[34]=l++E6 s:=by rw[ha];simp[E6]
    have hgo:DT s x out=some (.out (.go out)):=by unfold DT;rw[A2 (Aeg hx)]
    exact .inr ⟨.go out,hgo,(CU (λν=>Gw ν) out).trans ((XF (by omega)).trans (congrArg some hf))⟩) F (0,l++[34]) ⟨Ae8 0,by show(0:Int)≤s.length;omega,by show l++[34]=l++[34]++EC (s.take 0);simp[EC]⟩ (by show s.length-0<F;omega)
 unfold Lz;rw[DB (by omega),Hy (by decide) (by decide),GN];have hb:[UInt8.ofNat (Int.toNat 34)]=([34]:Af):=rfl;rw[hb,AI h1,h2]
theorem OB {F:Nat}{l key:Af}{x:List Aa}{first:Bool}{c:Aa}{k last:Option Af}{tx:Af}(hk:B6 (decide (c.fKind=6)) last k=true)(hkey:∀s,k=some s→key=s∧s.length<F)
  (hlen:(l++(CT first++GM k++tx)).length≤140737488355328) (hw:∀l':Af,(l'++tx).length≤140737488355328→GQ F l' x=some (l'++tx)):Gh (F+1) key x first l c=some (true,false,l++(CT first++GM k++tx)):=by
 rw[Gh];unfold LP;have hb:[UInt8.ofNat (Int.toNat 44)]=([44]:Af):=rfl;have ha:[UInt8.ofNat (Int.toNat 58)]=([58]:Af):=rfl;have hlen':=hlen;simp only[Aen] at hlen'
 cases first with
 | true=>
  rw[A2 (p:=!true) rfl]
  cases hm:decide (c.fKind=6) with
  | true=>
   rw[hm] at hk
   cases k with
   | none=>simp[B6] at hk
   | some s=>
    obtain⟨e1,e2⟩:=hkey s rfl;subst e1;simp only[GM,Aen,AeC] at hlen';have h1:(l++E6 key).length≤140737488355328:=by rw[Aen];omega
    have e:((l++E6 key)++[58])++tx=l++(CT true++GM (some key)++tx):=Ad2 _ _ _ _;rw[← e] at hlen ⊢;rw[AC rfl,MQ e2 h1,AI rfl,DB (by rw[Aen];omega),Hy (by decide) (by decide),GN,ha,hw _ hlen,AI rfl]
  | false=>
   rw[hm] at hk
   cases k with
   | some s=>simp[B6] at hk
   | none=>
    have e:l++tx=l++(CT true++GM none++tx):=Ad4 _ _;rw[← e] at hlen ⊢;rw[A2 rfl,hw _ hlen,AI rfl]
 | false=>
  simp only[CT,Aeh,AeC] at hlen';rw[AC (p:=!false) rfl,DB (by omega),Hy (by decide) (by decide),GN,hb]
  cases hm:decide (c.fKind=6) with
  | true=>
   rw[hm] at hk
   cases k with
   | none=>simp[B6] at hk
   | some s=>
    obtain⟨e1,e2⟩:=hkey s rfl;subst e1;simp only[GM,Aen,AeC] at hlen';have h1:((l++[44])++E6 key).length≤140737488355328:=by simp only[Aen,AeC];omega
    have e:(((l++[44])++E6 key)++[58])++tx=l++(CT false++GM (some key)++tx):=Ad1 _ _ _ _ _;rw[← e] at hlen ⊢;rw[AC rfl,MQ e2 h1,AI rfl,DB (by simp only[Aen,AeC];omega),Hy (by decide) (by decide),GN,ha,hw _ hlen,AI rfl]
  | false=>
   rw[hm] at hk
   cases k with
   | some s=>simp[B6] at hk
   | none=>
    have e:(l++[44])++tx=l++(CT false++GM none++tx):=Ad3 _ _ _;rw[← e] at hlen ⊢;rw[A2 rfl,hw _ hlen,AI rfl]
section
variable {M : Nat}
theorem OH {F:Nat}{v:List Aa}{c:Aa}{at_ x:Int}{first:Bool}{l l2:Af}{k last:Option Af}{f1:Fo}{ys:List Aa}(hA:IE M v)(hF:M<F)(hpc:Aq v 0=c)(hx:x<c.fN)(hx0:0≤x)(hcN:c.fN≤9223372036854775807)(h0:0≤at_)(hk:B6 (decide (c.fKind=6)) last k=true)
  (hd:v.drop at_.toNat=B4 k++(f1.flat++ys)) (h1:f1.one=true) (hw:f1.wf false none=true) (hr:∀key,(∀s,k=some s→key=s)→Gh F key f1.flat first l c=some (true,false,l2)) :
  Ed F v c (Gh F) at_ x first l=some (.next (at_+(B4 k).length+f1.flat.length,x+1,false,l2)):=by
 have hM:=hA.hM;have hvM:=hA.hv;have hd1:=CM h0 hd;have hkl:=Mz hk;have hfl:=Mq h1;have hll:(v.drop (at_+(B4 k).length).toNat).length=f1.flat.length+ys.length:=by rw[hd1];simp
 rw[Afc] at hll;have hlook:JP F (v.drop (at_+(B4 k).length).toNat)=some ((f1.flat.length:Int),f1.sh 0 OO,true):=Tb ((hA.drop _).lk hF) h1 hw hd1;have htake:List.take (Int.toNat (at_+(B4 k).length+(f1.flat.length:Int))-Int.toNat (at_+(B4 k).length)) (v.drop (at_+(B4 k).length).toNat)=f1.flat:=by
  rw[hd1,show Int.toNat (at_+(B4 k).length+(f1.flat.length:Int))-Int.toNat (at_+(B4 k).length)=f1.flat.length from by omega,List.take_left]
 have hmono:0≤at_+(B4 k).length+f1.flat.length:=by omega
 unfold Ed;rw[hpc,AC (Aei hx)]
 cases hm:decide (c.fKind=6) with
 | true=>
  rw[hm] at hk hkl
  cases k with
  | none=>simp[B6] at hk
  | some s=>
   have e1:((B4 (some s)).length:Int)=1:=rfl;rw[e1] at hlook htake hll hmono ⊢;have hats:(Aq v at_).fStr=s:=by
    have:v.drop at_.toNat=⟨4,0,s,0⟩::(f1.flat++ys):=by simpa[B4] using hd
    rw[DP h0 this]
   have hin:at_<v.length:=by omega
   rw[AC rfl,AW h0 hin,A4 (by omega) (by omega),BN (by omega) (by omega),hlook,AI rfl,A4 (by omega) (by omega),BN (by omega) (by omega),BN (by omega) (by omega),htake,hats,hr s (λs' h=>by cases h;rfl),AI rfl];rw[A2 (p:=!true) rfl,A4 (by omega) (by omega)]
 | false=>
  rw[hm] at hk hkl
  cases k with
  | some s=>simp[B6] at hk
  | none=>
   have e1:((B4 none).length:Int)=0:=rfl;rw[e1,Int.add_zero] at hlook htake hll hmono ⊢;rw[A2 rfl,BN (by omega) (by omega),hlook,AI rfl,A4 (by omega) (by omega),BN (by omega) (by omega),BN (by omega) (by omega),htake,hr [] (λs' h=>by cases h),AI rfl];rw[A2 (p:=!true) rfl,A4 (by omega) (by omega)]
end
section
variable {M : Nat}
theorem Gf (l:Af)(c:UInt8):(l++[c]).length=l.length+1:=by rw[Aen,AeC]
theorem Ly {F:Nat}{l p:Af}{v:List Aa}{c:Aa}{rf:Af→(List Aa)→Bool→Af→Aa→Option (Bool×Bool×Af)}{rp:(List Aa)→Bool→Af→Aa→Option (Bool×Af)}(hc:Aq v 0=c)(hv:0<v.length)(hk:c.fKind=5∨c.fKind=6)(hlen:(l++NJ c p).length≤140737488355328)
  (hp:∀l':Af,l'.length=l.length+1→∃b,rp v true l' c=some (b,l'++p)):KD F rf rp l v=some (l++NJ c p):=by
 have hbl:=JI c p;rw[Aen,hbl] at hlen;have i0:(0:Int)<(v.length:Int):=by omega
 unfold KD;rw[AW (Ae8 0) i0,hc,A2 (Aeg (by omega)),A2 (Aeg (by omega)),A2 (Aeg (by omega)),A2 (Aeg (by omega))];have b1:[UInt8.ofNat (Int.toNat (AM ([123,125]:Af) 0))]=([123]:Af):=rfl;have b2:[UInt8.ofNat (Int.toNat (AM ([123,125]:Af) 1))]=([125]:Af):=rfl;have b3:[UInt8.ofNat (Int.toNat (AM ([91,93]:Af) 0))]=([91]:Af):=rfl;have b4:[UInt8.ofNat (Int.toNat (AM ([91,93]:Af) 1))]=([93]:Af):=rfl;have c1:AM ([123,125]:Af) 0=123:=rfl;have c2:AM ([123,125]:Af) 1=125:=rfl;have c3:AM ([91,93]:Af) 0=91:=rfl;have c4:AM ([91,93]:Af) 1=93:=rfl;have n2:(([123,125]:Af).length:Int)=2:=rfl;have n3:(([91,93]:Af).length:Int)=2:=rfl
 cases h6:decide (c.fKind=6) with
 | true=>
  obtain⟨b,hb⟩:=hp _ (Gf l 123);rw[AC rfl,n2,AW (by decide) (by decide),DB (by omega),b1,b2,c1,c2,Hy (by decide) (by decide),GN,hb,AI rfl,AW (by decide) (by decide)];have e:((l++[123])++p).length=l.length+1+p.length:=by rw[Aen,Gf]
  rw[e,DB (by omega),Hy (by decide) (by decide),GN];simp[NJ,h6]
 | false=>
  obtain⟨b,hb⟩:=hp _ (Gf l 91);rw[A2 rfl,n3,AW (by decide) (by decide),DB (by omega),b3,b4,c3,c4,Hy (by decide) (by decide),GN,hb,AI rfl,AW (by decide) (by decide)];have e:((l++[91])++p).length=l.length+1+p.length:=by rw[Aen,Gf]
  rw[e,DB (by omega),Hy (by decide) (by decide),GN];simp[NJ,h6]
theorem N3 {F:Nat}{v:List Aa}{c:Aa}{at_ x:Int}{first:Bool}{l:Af}{rf:Af→(List Aa)→Bool→Af→Aa→Option (Bool×Bool×Af)}(hc:Aq v 0=c)(hx : ¬ x<c.fN):Ed F v c rf at_ x first l=some (.out (.go (first,l))):=by
 unfold Ed;rw[hc,A2 (Aeg hx)]
theorem N2 {F:Nat}{l:Af}{c:Aa}(hp:pl c=true)(hn:decide (0<c.fN)=false)(hs:c.fStr.length<F+2)(hi:Bs .i64 c.fInt=true)(hlen:(l++DX c).length≤140737488355328):GQ (F+3) l [c]=some (l++DX c):=by
 rw[GQ];have hat:Aq [c] 0=c:=rfl;have i0:(0:Int)<(([c]:List Aa).length:Int):=by simp
 have hN : ¬ (0:Int)<c.fN:=by simpa using hn
 by_cases ha:c.fKind=5∨c.fKind=6
 ·have el:DX c=NJ c []:=by
   have k1:decide (c.fKind=1)=false:=Aeg (by omega);have k2:decide (c.fKind=2)=false:=Aeg (by omega);have k3:decide (c.fKind=3)=false:=Aeg (by omega);have k4:decide (c.fKind=4)=false:=Aeg (by omega);unfold DX NJ;rw[k1,k2,k3,k4];rfl
  rw[el] at hlen ⊢;refine Ly hat (by simp) ha hlen (λl' hl'=>⟨true,?_⟩);rw[HB];unfold IQ;rw[AW (Ae8 0) i0,AI (Dn (o:=.go (true,l')) (N3 hat hN)),CU,AeF];rfl
 ·unfold KD DX;unfold DX at hlen;rw[AW (Ae8 0) i0,hat]
  cases k1:decide (c.fKind=1) with
  | true=>
   rw[k1] at hlen;simp only[Aek] at hlen;rw[AC rfl,DB (by rw[Aen] at hlen;exact hlen),GN];rfl
  | false=>
  rw[k1] at hlen;simp only[Aeh] at hlen;rw[A2 rfl]
  cases k2:decide (c.fKind=2) with
  | true=>
   rw[k2] at hlen;simp only[Aek] at hlen;rw[AC rfl];simp[pl,k1,k2] at hp;simp only[Aen] at hlen;rcases hp.1 with h0 | h1
   ·rw[h0] at hlen ⊢;have a:Aq ([([102,97,108,115,101]:Af),([116,114,117,101]:Af)]:List Af) 0=[102,97,108,115,101]:=rfl;have hlen2:l.length+([102,97,108,115,101]:Af).length≤140737488355328:=hlen;rw[AW (by decide) (by decide),a,DB hlen2,GN];rfl
   ·rw[h1] at hlen ⊢;have a:Aq ([([102,97,108,115,101]:Af),([116,114,117,101]:Af)]:List Af) 1=[116,114,117,101]:=rfl;have hlen2:l.length+([116,114,117,101]:Af).length≤140737488355328:=hlen;rw[AW (by decide) (by decide),a,DB hlen2,GN];rfl
  | false=>
  rw[k2] at hlen;simp only[Aeh] at hlen;rw[A2 rfl]
  cases k3:decide (c.fKind=3) with
  | true=>
   rw[k3] at hlen;simp only[Aek,Aen] at hlen;rw[AC rfl,B7 hi,DB hlen,GN];rfl
  | false=>
  rw[k3] at hlen;simp only[Aeh] at hlen;rw[A2 rfl]
  cases k4:decide (c.fKind=4) with
  | true=>
   rw[k4] at hlen;simp only[Aek] at hlen;rw[AC rfl,MQ hs hlen,AI rfl];rfl
  | false=>
   exfalso;simp only[Aee] at k1 k2 k3 k4;simp[pl,k1,k2,k3,k4,show ¬ c.fKind=5 by omega,show ¬ c.fKind=6 by omega] at hp
theorem IE.mem {v:List Aa}(hA:IE M v){p:Int}{a b:List Aa}(h:v.drop p.toNat=a++b):IE M a:=by
 have:=(hA.drop p.toNat).take a.length
 rwa [h,List.take_left] at this
theorem PP:∀(g:Fo) (v:List Aa) (c:Aa) (F L:Nat) (at_ x:Int) (first:Bool) (l:Af) (m:Bool) (last:Option Af) (ys:List Aa),IE M v→Aq v 0=c→decide (c.fKind=6)=m→c.fN≤9223372036854775807→g.wf m last=true→v.drop at_.toNat=g.flat++ys→0≤at_→c.fN=x+g.cnt→0≤x→(l++g.txt first).length≤140737488355328→g.cnt<L→M+5+3*g.flat.length<F→
  ∃o b,BJ (λσ=>Ed F v c (Gh F) σ.1 σ.2.1 σ.2.2.1 σ.2.2.2) L (at_,x,first,l)=some o∧BE (λν=>Ij ν.1 ν.2) o=some (b,l++g.txt first):=by
 intro g
 induction g with
 | nil=>
  intro v c F L at_ x first l m last ys hA hpc hm hcN hw hd h0 hN hx hlen hL hF
  obtain⟨L,rfl⟩:∃K,L=K+1:=⟨L-1,by omega⟩
  simp only[Fo.cnt] at hN;have hx' : ¬ x<c.fN:=by omega
  refine⟨.go (first,l),first,Dn (N3 hpc hx'),?_⟩;rw[CU,Fo.txt,AeF];rfl
 | cell k cc r ih=>
  intro v c F L at_ x first l m last ys hA hpc hm hcN hw hd h0 hN hx hlen hL hF
  simp only[Fo.wf,Aej,Aex] at hw;obtain⟨⟨⟨w1,w2⟩,w3⟩,w4⟩:=hw;have hd2:v.drop at_.toNat=B4 k++((Fo.cell none cc .nil).flat++(r.flat++ys)):=by rw[hd];simp[Fo.flat,B4]
  have hd1:=CM h0 hd2;simp only[Fo.cnt] at hN hL;simp only[Fo.flat,Aen,Aef] at hF;obtain⟨L,rfl⟩:∃K,L=K+1:=⟨L-1,by omega⟩
  obtain⟨F,rfl⟩:∃K,F=K+4:=⟨F-4,by omega⟩
  have hAe:=hA.mem hd1;have hcM:=hAe.hc cc (by simp[Fo.flat,B4]);have e:l++(Fo.cell k cc r).txt first=(l++(CT first++GM k++DX cc))++r.txt false:=by simp[Fo.txt]
  rw[e] at hlen ⊢;have hl2:(l++(CT first++GM k++DX cc)).length≤140737488355328:=by rw[Aen] at hlen;omega
  have hb:=OH (F:=F+4) (last:=last) hA (by omega) hpc (by omega) hx hcN h0 (by rw[hm];exact w1) hd2 rfl (Ob w2 w3) (first:=first) (l:=l) (λkey hkey=>
   OB (last:=last) (by rw[hm];exact w1) (λs hs=>⟨hkey s hs,by
    have hM:=hA.hM;subst hs;have:=(hA.hc ⟨4,0,s,0⟩ (Afg (by rw[hd2];simp[B4]))).1;simp only at this;omega⟩) hl2 (λl' hl'=>N2 (F:=F) w2 w3 (by omega) hcM.2.1 hl'))
  obtain⟨o,b,ho1,ho2⟩:=ih v c (F+4) L (at_+(B4 k).length+((Fo.cell none cc .nil).flat.length:Int)) (x+1) false (l++(CT first++GM k++DX cc)) m k ys hA hpc hm hcN w4 (CM (by omega) hd1) (by omega) (by omega) (by omega) hlen (by omega) (by omega);exact⟨o,b,GL hb ho1,ho2⟩
 | node k cc kids r ihk ih=>
  intro v c F L at_ x first l m last ys hA hpc hm hcN hw hd h0 hN hx hlen hL hF
  simp only[Fo.wf,Aej,Aed] at hw;obtain⟨⟨⟨⟨⟨w1,w2⟩,w3⟩,w5⟩,w6⟩,w4⟩:=hw;have hd2:v.drop at_.toNat=B4 k++((Fo.node none cc kids .nil).flat++(r.flat++ys)):=by rw[hd];simp[Fo.flat,B4]
  have hd1:=CM h0 hd2;simp only[Fo.cnt] at hN hL;simp only[Fo.flat,Aen,Aef] at hF;obtain⟨L,rfl⟩:∃K,L=K+1:=⟨L-1,by omega⟩
  obtain⟨F,rfl⟩:∃K,F=K+3:=⟨F-3,by omega⟩
  have hAe:=hA.mem hd1;have hfl:(Fo.node none cc kids .nil).flat=cc::kids.flat:=by simp[Fo.flat,B4]
  have hcM:=hAe.hc cc (by rw[hfl];simp);have hcf:=Cv kids;have e:l++(Fo.node k cc kids r).txt first=(l++(CT first++GM k++NJ cc (kids.txt true)))++r.txt false:=by simp[Fo.txt]
  rw[e] at hlen ⊢;have hl2:(l++(CT first++GM k++NJ cc (kids.txt true))).length≤140737488355328:=by rw[Aen] at hlen;omega
  have hb:=OH (F:=F+3) (last:=last) hA (by omega) hpc (by omega) hx hcN h0 (by rw[hm];exact w1) hd2 rfl (Oa w2 w3 w5 w6) (first:=first) (l:=l) (λkey hkey=>
   OB (last:=last) (by rw[hm];exact w1) (λs hs=>⟨hkey s hs,by
    have hM:=hA.hM;subst hs;have:=(hA.hc ⟨4,0,s,0⟩ (Afg (by rw[hd2];simp[B4]))).1;simp only at this;omega⟩) hl2 (λl' hl'=>by
     rw[GQ];have hat:Aq (Fo.node none cc kids .nil).flat 0=cc:=by rw[hfl];rfl
     have hlen0:0<(Fo.node none cc kids .nil).flat.length:=by rw[hfl];simp
     have hbl:=JI cc (kids.txt true);rw[Aen,hbl] at hl';have hb:∀l2:Af,l2.length=l'.length+1→∃b,HB (F+1) (Fo.node none cc kids .nil).flat true l2 cc=some (b,l2++kids.txt true):=λl2 hl2'=>by
       rw[HB];unfold IQ;have i0:(0:Int)<((Fo.node none cc kids .nil).flat.length:Int):=by omega
       obtain⟨o,b,ho1,ho2⟩:=ihk (Fo.node none cc kids .nil).flat cc F F 1 0 true l2 _ none [] hAe hat rfl hcM.2.2 w6 (by rw[hfl];simp) (by decide) (by omega) (Ae8 0) (by rw[Aen];omega) (by omega) (by omega);exact⟨b,by rw[AW (Ae8 0) i0,AI ho1,ho2]⟩
     exact Ly hat hlen0 (I3 w2 w3).1 (by rw[Aen,hbl];exact hl') hb))
  obtain⟨o,b,ho1,ho2⟩:=ih v c (F+3) L (at_+(B4 k).length+((Fo.node none cc kids .nil).flat.length:Int)) (x+1) false (l++(CT first++GM k++NJ cc (kids.txt true))) m k ys hA hpc hm hcN w4 (CM (by omega) hd1) (by omega) (by omega) (by omega) hlen (by omega) (by omega);exact⟨o,b,GL hb ho1,ho2⟩
theorem VP {f:Fo}{F:Nat}{l:Af}(hA:IE M f.flat)(h1:f.one=true)(hw:f.wf false none=true)(hF:M+8+3*f.flat.length<F)(hlen:(l++f.txt true).length≤140737488355328):GQ F l f.flat=some (l++f.txt true):=by
 have hM:=hA.hM;have hvM:=hA.hv
 cases f with
 | nil=>cases h1
 | cell k c r=>
  cases k with
  | some s=>cases h1
  | none=>
   cases r with
   | nil=>
    simp only[Fo.wf,Aej,Aex] at hw;have hfl:(Fo.cell none c .nil).flat=[c]:=by simp[Fo.flat,B4]
    have hcM:=hA.hc c (by rw[hfl];simp);have et:(Fo.cell none c .nil).txt true=DX c:=by simp[Fo.txt,CT,GM]
    rw[et] at hlen ⊢;obtain⟨F,rfl⟩:∃K,F=K+3:=⟨F-3,by omega⟩
    rw[hfl];exact N2 hw.1.1.2 hw.1.2 (by omega) hcM.2.1 hlen
   | cell _ _ _=>cases h1
   | node _ _ _ _=>cases h1
 | node k c kids r=>
  cases k with
  | some s=>cases h1
  | none=>
   cases r with
   | nil=>
    simp only[Fo.wf,Aej,Aed] at hw;obtain⟨⟨⟨⟨⟨w1,w2⟩,w3⟩,w5⟩,w6⟩,w4⟩:=hw;have hfl:(Fo.node none c kids .nil).flat=c::kids.flat:=by simp[Fo.flat,B4]
    have hcM:=hA.hc c (by rw[hfl];simp);have et:(Fo.node none c kids .nil).txt true=NJ c (kids.txt true):=by simp[Fo.txt,CT,GM]
    rw[et] at hlen ⊢;have hcf:=Cv kids;have hat:Aq (Fo.node none c kids .nil).flat 0=c:=by rw[hfl];rfl
    have hlen0:0<(Fo.node none c kids .nil).flat.length:=by rw[hfl];simp
    have hl1:(Fo.node none c kids .nil).flat.length=kids.flat.length+1:=by rw[hfl];simp
    have hbl:=JI c (kids.txt true);obtain⟨F,rfl⟩:∃K,F=K+2:=⟨F-2,by omega⟩
    rw[GQ];refine Ly hat hlen0 (I3 w2 w3).1 hlen (λl2 hl2=>?_);rw[Aen,hbl] at hlen;rw[HB];unfold IQ;have i0:(0:Int)<((Fo.node none c kids .nil).flat.length:Int):=by omega
    obtain⟨o,b,ho1,ho2⟩:=PP kids (Fo.node none c kids .nil).flat c F F 1 0 true l2 _ none [] hA hat rfl hcM.2.2 w6 (by rw[hfl];simp) (by decide) (by omega) (Ae8 0) (by rw[Aen];omega) (by omega) (by omega);exact⟨b,by rw[AW (Ae8 0) i0,AI ho1,ho2]⟩
   | cell _ _ _=>cases h1
   | node _ _ _ _=>cases h1
def Ka (v:List Aa):Af×Int:=match whole v with
 | none=>([],1)
 | some f=>bif decide (GF f=0) then(f.txt true,0) else([],GF f)
theorem Abr (n:Int):Lib.itoa n≠[]:=by
 unfold Lib.itoa
 split
 ·simp
 ·intro h;have:=congrArg List.length h;rw[Lib.decDigits_length] at this;have:=Lib.nDigits_pos n.toNat;simp at *;omega
theorem AaC {f:Fo}(hw:f.wf false none=true)(h1:f.one=true):0<(f.txt true).length:=by
 have e:=J6 f false none true hw
 cases f with
 | nil=>cases h1
 | cell k c r=>
  have h2:=IB hw;simp only[Fo.txt,Aen];simp only[Fo.wf,Aej] at hw;have hp:=hw.1.1.2;have:0<(DX c).length:=by
   have hl:=Q3 hp;have:0<Xx c:=by
    unfold Xx
    cases h1:decide (c.fKind=1) with
    | true=>simp
    | false=>
     cases h2:decide (c.fKind=2) with
     | true=>
      simp[pl,h1,h2] at hp;simp only[Aeh,Aek];omega
     | false=>
      cases h3:decide (c.fKind=3) with
      | true=>
       simp only[Aeh,Aek];have:Lib.itoa c.fInt≠[]:=Abr _;have:=List.length_pos_iff.2 this;omega
      | false=>
       cases h4:decide (c.fKind=4) with
       | true=>have:=Mj c.fStr;simp only[Aeh,Aek];omega
       | false=>simp
   omega
  omega
 | node k c kids r=>
  have:=JI c (kids.txt true);simp only[Fo.txt,Aen];omega
theorem TO {v:List Aa}(hA:IE M v)(hM:M≤1000000){F:Nat}(hF:4*M+8<F):LT F v=some (Ka v):=by
 have hvM:=hA.hv;unfold LT Ka;rw[IV hA hM (by omega),AI rfl];unfold Hp
 cases hwh:whole v with
 | none=>rfl
 | some f=>
  change Bi (!decide (GF f=0)) _ _=some (bif decide (GF f=0) then(f.txt true,0) else([],GF f))
  cases he:decide (GF f=0) with
  | false=>rw[AC (p:=!false) rfl];rfl
  | true=>
   obtain⟨h1,h2,h3⟩:=J5 hwh;have hl:v.length=f.flat.length:=by rw[h1]
   have hc:∀c∈f.flat,c.fStr.length≤M∧Bs .i64 c.fInt=true∧c.fN≤9223372036854775807:=λc hc=>hA.hc c (by rw[h1];exact hc);have hb:=Ns hM h2 (by omega) hc;have htl:((f.txt true).length:Int)=f.byt:=by rw[J6 f false none true h2,Oo h3];simp
   have hA':IE M f.flat:=by rw[← h1];exact hA
   have hw:=VP (F:=F) (l:=[]) hA' h3 h2 (by omega) (by rw[AeE];omega);rw[A2 (p:=!true) rfl,h1,hw,AI rfl,AeE,B7 (Aei (AaC h2 h3))];rfl
end
def XS (v:List Aa):Bool:=!decide (300<v.length)&&v.all λc=>!decide (300<c.fStr.length)
def Y8 (c:Aa):Bool:=Bs .i64 c.fKind&&Bs .i64 c.fInt&&okS c.fStr&&Bs .i64 c.fN
theorem IE.of {v:List Aa}(hs:XS v=true)(hc:v.all Y8=true):IE 300 v:=by
 unfold XS at hs;simp only[Aej,Aex,Aee,AeI] at hs hc;refine⟨by decide,by omega,λc h=>?_⟩;obtain h1:=hs.2 c h;obtain h2:=hc c h;unfold Y8 at h2;simp only[Aej] at h2;exact⟨by omega,h2.1.1.2,(HO h2.2).2⟩
theorem AcF (a:Bool):imp a true=true:=by cases a<;>rfl
section
variable {M : Nat}
end
def T8 (n:Nat):Af:=[UInt8.ofNat (n/16777216),UInt8.ofNat (n/65536),UInt8.ofNat (n/256),UInt8.ofNat n]
def DR:Af→Nat
 | a::b::c::d::_=>((a.toNat*256+b.toNat)*256+c.toNat)*256+d.toNat
 | _=>0
def IA (c:UInt8):BitVec 32:=BitVec.ofNat 32 c.toNat
def U5 (b:BitVec 32):Af→BitVec 32
 | []=>b
 | c::s=>U5 (RB 8 (b^^^IA c)) s
def MI (s:Af):Nat:=(~~~ (U5 4294967295#32 s)).toNat
theorem V9 (s:Af):MI s<4294967296:=(~~~ (U5 4294967295#32 s)).isLt
def CJ (b:Af):Af:=T8 b.length++T8 (MI b)++b
theorem EH (b:Af):(CJ b).length=8+b.length:=by simp[CJ,T8];omega
def Dk (s:Af):Af×Int×Int:=
 bif decide (s.length<8) then([],0,14)
 else bif decide (262136<DR s) then([],0,13)
 else bif decide (s.length-8<DR s) then([],0,14)
 else bif !decide (MI ((s.drop 8).take (DR s))=DR (s.drop 4)) then([],0,13)
 else((s.drop 8).take (DR s),((8+DR s:Nat):Int),0)
def BF:Nat→Af→List Af×Nat
 | 0,_=>([],0)
 | n+1,s=>bif decide ((Dk s).2.2=0) then((Dk s).1::(BF n (s.drop (Dk s).2.1.toNat)).1,(Dk s).2.1.toNat+(BF n (s.drop (Dk s).2.1.toNat)).2) else([],0)
theorem Mt {n:Nat}(h:n<4294967296)(r:Af):DR (T8 n++r)=n:=by
 show((((UInt8.ofNat (n/16777216)).toNat*256+(UInt8.ofNat (n/65536)).toNat)*256+(UInt8.ofNat (n/256)).toNat)*256+(UInt8.ofNat n).toNat)=n;simp only[UInt8.toNat_ofNat'];omega
theorem PF {s:Af}(h:4≤s.length):T8 (DR s)=s.take 4:=by
 match s,h with
 | a::b::c::d::r,_=>
  have ha:=a.toNat_lt;have hb:=b.toNat_lt;have hc:=c.toNat_lt;have hd:=d.toNat_lt;show T8 (((a.toNat*256+b.toNat)*256+c.toNat)*256+d.toNat)=[a,b,c,d];unfold T8;have e:∀x y:UInt8,x.toNat=y.toNat→x=y:=λx y h=>UInt8.toNat_inj.1 h
  congr 1
  ·apply e;simp only[UInt8.toNat_ofNat'];omega
  ·congr 1
   ·apply e;simp only[UInt8.toNat_ofNat'];omega
   ·congr 1
    ·apply e;simp only[UInt8.toNat_ofNat'];omega
    ·congr 1
     apply e;simp only[UInt8.toNat_ofNat'];omega
theorem Rl (s:Af):DR s<4294967296:=by
 match s with
 | a::b::c::d::r=>
  have ha:=a.toNat_lt;have hb:=b.toNat_lt;have hc:=c.toNat_lt;have hd:=d.toNat_lt;show((a.toNat*256+b.toNat)*256+c.toNat)*256+d.toNat<_;omega
 | []=>decide
 | [_]=>show 0<_;decide
 | [_,_]=>show 0<_;decide
 | [_,_,_]=>show 0<_;decide
theorem Wy {b:Af}(h:b.length≤262136)(r:Af):Dk (CJ b++r)=(b,((8+b.length:Nat):Int),0):=by
 have h1:DR (CJ b++r)=b.length:=by
  unfold CJ;rw[Ae5,Ae5];exact Mt (by omega) _
 have h2:DR ((CJ b++r).drop 4)=MI b:=by
  have:(CJ b++r).drop 4=T8 (MI b)++(b++r):=by unfold CJ T8;simp
  rw[this];exact Mt (V9 b) _
 have h3:((CJ b++r).drop 8).take b.length=b:=by
  have:(CJ b++r).drop 8=b++r:=by unfold CJ T8;simp
  rw[this];simp
 have hl:=EH b;unfold Dk;rw[h1,h2,h3,Aen,hl];rw[Aeg (by omega),Aeg (by omega),Aeg (by omega),Aei rfl];rfl
theorem Mp {s:Af}(h:(Dk s).2.2=0):(Dk s).1.length≤262136∧(Dk s).2.1=((8+(Dk s).1.length:Nat):Int)∧s=CJ (Dk s).1++s.drop (8+(Dk s).1.length):=by
 unfold Dk at h ⊢
 cases h1:decide (s.length<8) with
 | true=>rw[h1] at h;cases h
 | false=>
  rw[h1] at h;simp only[Aeh] at h ⊢
  cases h2:decide (262136<DR s) with
  | true=>rw[h2] at h;cases h
  | false=>
   rw[h2] at h;simp only[Aeh] at h ⊢
   cases h3:decide (s.length-8<DR s) with
   | true=>rw[h3] at h;cases h
   | false=>
    rw[h3] at h;simp only[Aeh] at h ⊢
    cases h4:decide (MI ((s.drop 8).take (DR s))=DR (s.drop 4)) with
    | false=>rw[h4] at h;cases h
    | true=>
     simp only[Aee,Aed] at h1 h2 h3 h4;simp only[Aes,Aeh];have hl:((s.drop 8).take (DR s)).length=DR s:=by simp;omega
     refine⟨by omega,by rw[hl],?_⟩;rw[hl];unfold CJ;rw[hl,PF (by omega),h4,PF (by simp;omega)];rw[Ae5,Ae5,← Afb,AeZ];rw[show s.drop 8=(s.drop 4).drop 4 from by rw[Afb],AeZ,AeZ]
theorem PY (l:List Af):∀b∈l,8+b.length≤(l.flatMap CJ).length:=by
 induction l with
 | nil=>intro b hb;cases hb
 | cons c l ih=>
  intro b hb;rw[Afd,Aen,EH];rcases List.mem_cons.1 hb with rfl | hb
  ·omega
  ·have:=ih b hb;omega
theorem SG:(Dk []).2.2=14:=rfl
theorem N7:∀(l:List Af) (n:Nat),(∀b∈l,b.length≤262136)→l.length≤n→BF n (l.flatMap CJ)=(l,(l.flatMap CJ).length)
 | [],0,_,_=>rfl
 | [],n+1,_,_=>by
  rw[BF];show(bif decide ((Dk []).2.2=0) then _ else _)=_;rw[SG];rfl
 | b::l,0,_,h=>by simp at h
 | b::l,n+1,hb,h=>by
  simp only[Aef] at h;rw[BF,Afd,Wy (hb b (by simp))];have hd:(CJ b++l.flatMap CJ).drop (8+b.length)=l.flatMap CJ:=by rw[← EH b];simp
  simp only[decide_true,Aek];rw[show(((8+b.length:Nat):Int)).toNat=8+b.length from by omega,hd,N7 l n (λx hx=>hb x (by simp[hx])) (by omega)];rw[Aen,EH]
theorem IZ:∀(n:Nat) (s:Af),(BF n s).2≤s.length∧s.take (BF n s).2=(BF n s).1.flatMap CJ∧∀b∈(BF n s).1,b.length≤262136
 | 0,s=>⟨AeL _,by simp[BF],λb hb=>by cases hb⟩
 | n+1,s=>by
  rw[BF]
  cases h:decide ((Dk s).2.2=0) with
  | false=>exact⟨AeL _,by simp,λb hb=>by cases hb⟩
  | true=>
   simp only[Aek];obtain⟨h1,h2,h3⟩:=Mp (Aep h);generalize(Dk s).1=b at *;rw[h2,show(((8+b.length:Nat):Int)).toNat=8+b.length from by omega];obtain⟨g1,g2,g3⟩:=IZ n (s.drop (8+b.length));generalize BF n (s.drop (8+b.length))=t at *;have hl:s.length=8+b.length+(s.drop (8+b.length)).length:=by
    have:=congrArg List.length h3;rw[Aen,EH] at this;exact this
   refine⟨by omega,?_,λx hx=>?_⟩
   ·rw[Afd,← g2]
    conv=>lhs;rw[h3]
    rw[← EH b,List.take_length_add_append]
   ·rcases List.mem_cons.1 hx with rfl | hx
    ·exact h1
    ·exact g3 x hx
def Vr (l:List Af):Af×Int:=bif decide ((l.flatMap CJ).length≤262144) then(l.flatMap CJ,0) else([],3)
theorem Oq (s:Af):Nd (Dy s)=s:=by
 unfold Nd Dy;rw[Aff];have:((λx:Int=>UInt8.ofNat x.toNat) ∘ λc:UInt8=>(c.toNat:Int))=id:=by funext c;simp
 rw[this,List.map_id]
theorem UM (a b:Af):Dy a++Dy b=Dy (a++b):=by simp[Dy]
theorem TQ (a:Af):(Dy a).length=a.length:=by simp[Dy]
theorem O8 (n:Nat):IntKind.wrap .u8 (n:Int)=((UInt8.ofNat n).toNat:Int):=by
 simp[IntKind.wrap,IntKind.signed,IntKind.bits]
theorem AdI (n:Nat):BZ .i64 (n:Int) 8=((n/256:Nat):Int):=by
 unfold BZ;have e:min (8:Int).toNat (IntKind.bits .i64)=8:=by decide
 rw[e,Int.fdiv_eq_ediv_of_nonneg _ (by decide)];simp
def P4 (f:Af):Af:=UInt8.ofNat (f.length/256)::UInt8.ofNat (f.length % 256)::f
def Mm (l:List Af):Af:=UInt8.ofNat l.length::l.flatMap P4
def okP (l:List Af):Bool:=decide (l.length≤64)&&l.all λf=>decide (f.length≤4000)
def Qr (l:List Af):Af×Int:=bif okP l then(Mm l,0) else([],3)
theorem Wx (l:List Af)(b:List Int×Int→Option (Stp (List Int×Int) (Out (Af×Int) (List Int))))(hl:l.length≤64)
  (hb:∀(acc:List Int) (x:Int) (f:Af),acc.length≤300000→0≤x→x<(l.length:Int)→Aq l x=f→b (acc,x)=bif decide (4000<f.length) then some (.out (.ret ([],3))) else some (.next (acc++Dy (P4 f),x+1)))
  (he:∀acc,b (acc,(l.length:Int))=some (.out (.go acc))) {F:Nat} (hF:64<F) :
  Br (BJ b F (Dy [UInt8.ofNat l.length],0)) (BE λq=>some (Nd q,0))=some (Qr l):=by
 have key:∀(k:Nat) (F:Nat) (acc:Af),k<F→k≤l.length→acc.length≤1+(l.length-k)*4002→
   Br (BJ b F (Dy acc,((l.length-k:Nat):Int))) (BE λq=>some (Nd q,0))=some (bif (l.drop (l.length-k)).all (λf=>decide (f.length≤4000)) then(acc++(l.drop (l.length-k)).flatMap P4,0) else([],3)):=by
  intro k
  induction k with
  | zero=>
   intro F acc hF _ _
   cases F with
   | zero=>omega
   | succ F=>rw[BJ,Nat.sub_zero,he];simp[Br,BE,Oq]
  | succ k ih=>
   intro F acc hF hk hacc
   cases F with
   | zero=>omega
   | succ F=>
    have hlt:l.length-(k+1)<l.length:=by omega
    have hat:Aq l ((l.length-(k+1):Nat):Int)=l[l.length-(k+1)]:=by simp[Aq,hlt]
    have hd:l.drop (l.length-(k+1))=l[l.length-(k+1)]::l.drop (l.length-k):=by
     rw[List.drop_eq_getElem_cons hlt];congr 2;omega
    have ha:(l.length-(k+1))*4002≤64*4002:=Nat.mul_le_mul_right _ (by omega);rw[BJ,hb _ _ _ (by rw[TQ];omega) (by omega) (by omega) hat,hd];generalize l[l.length-(k+1)]=f at *
    cases h4:decide (4000<f.length) with
    | true=>
     simp only[Aed] at h4;rw[AeN,Aeg (by omega),Ae1];rfl
    | false=>
     simp only[Aee] at h4;have e2:(l.length-(k+1))*4002+4002=(l.length-k)*4002:=by
      rw[show l.length-k=l.length-(k+1)+1 from by omega,Nat.succ_mul]
     have:=ih F (acc++P4 f) (by omega) (by omega) (by simp[P4];omega);rw[show((l.length-(k+1):Nat):Int)+1=((l.length-k:Nat):Int) from by omega];simp only[Aeh,UM];rw[this,AeN,Aei (by omega),Aer,Afd,Ae5]
 have:=key l.length F [UInt8.ofNat l.length] (by omega) (AeA _) (by simp);simp only[Nat.sub_self,List.drop_zero] at this;refine Eq.trans this ?_;unfold Qr okP Mm;rw[Aei hl,Aer];rfl
theorem Jz {α:Type}{n:Nat}{x:Option α}(h:n≤1000000000):AQ (Dw 1 n) x=x:=B7 (Aei (by omega))
theorem Jy {α:Type}{n:Nat}{x:Option α}(h:n≤1000000000):AQ (Dw 16 n) x=x:=B7 (Aei (by omega))
theorem T3 (f:Af):decide ((4000:Int)<(f.length:Int))=decide (4000<f.length):=by rw[Aev];simp;omega
theorem Tt {F:Nat}{l:List Af}(hF:64<F):QD F l=some (Qr l):=by
 unfold QD
 by_cases ha:l.length≤64
 ·rw[A2 (Aeg (by omega)),O8];refine Wx l _ ha (λacc x f hacc h0 hx hat=>?_) (λacc=>?_) hF
  ·show Hn l acc x=_;unfold Hn;rw[AC (Aei hx),AW h0 hx,hat,T3]
   cases h4:decide (4000<f.length) with
   | true=>rfl
   | false=>
    simp only[Aee] at h4;have e1:([IntKind.wrap .u8 (BZ .i64 (f.length:Int) 8),IntKind.wrap .u8 (f.length:Int)]:List Int)++Dy f=Dy (P4 f):=by
     rw[AdI,O8,O8];simp[Dy,P4]
    rw[A2 rfl,Jz (by simp;omega),Jz (by simp;omega),A4 (by omega) (by omega),Ae5,e1];rfl
  ·show Hn l acc _=_;unfold Hn;rw[A2 (Aeg (by omega))]
 ·rw[AC (Aei (by omega))];unfold Qr okP;rw[Aeg ha];rfl
def L2:Nat→Af→List Af→List Af×Int
 | 0,s,acc=>bif decide (s=[]) then(acc,0) else([],13)
 | n+1,a::b::r,acc=>bif decide (4000<a.toNat*256+b.toNat) then([],13) else bif decide (r.length<a.toNat*256+b.toNat) then([],14) else L2 n (r.drop (a.toNat*256+b.toNat)) (acc++[r.take (a.toNat*256+b.toNat)])
 | n+1,_,acc=>([],14)
def GS:Af→List Af×Int
 | []=>([],14)
 | c::s=>bif decide (64<c.toNat) then([],13) else L2 c.toNat s []
theorem AdN (a b:UInt8):J3 .i64 (Do .i64 (a.toNat:Int) 8) (b.toNat:Int)=((a.toNat*256+b.toNat:Nat):Int):=by
 have ha:=a.toNat_lt;have hb:=b.toNat_lt;have e0:Do .i64 (a.toNat:Int) 8=((a.toNat*256:Nat):Int):=by
  unfold Do;have e:min (8:Int).toNat (IntKind.bits .i64)=8:=by decide
  rw[e,IntKind.wrap_i64];omega
 rw[e0];unfold J3;have h1:(BitVec.ofInt (IntKind.bits .i64) ((a.toNat*256:Nat):Int)||| BitVec.ofInt (IntKind.bits .i64) (b.toNat:Int)).toNat=a.toNat*256+b.toNat:=by
  rw[BitVec.toNat_or,BitVec.toNat_ofInt,BitVec.toNat_ofInt];have hbits:IntKind.bits .i64=64:=rfl;rw[hbits];have e1:(((a.toNat*256:Nat):Int) % ((2 ^ 64:Nat):Int)).toNat=a.toNat*256:=by omega
  have e2:(((b.toNat:Nat):Int) % ((2 ^ 64:Nat):Int)).toNat=b.toNat:=by omega
  rw[e1,e2,show a.toNat*256=a.toNat <<< 8 from by rw[Nat.shiftLeft_eq]];rw[Nat.shiftLeft_add_eq_or_of_lt (by simpa using hb)]
 rw[h1,IntKind.wrap_i64];omega
theorem AcR (a:UInt8)(r:Af):AM (a::r) 0=(a.toNat:Int):=rfl
theorem AdO (a b:UInt8)(r:Af):AM (a::b::r) 1=(b.toNat:Int):=rfl
theorem ZA (s:Af)(c:UInt8)(hs:AM s 0=(c.toNat:Int)):∀(k:Nat) (F:Nat) (t:Af) (acc:List Af) (z i:Int),k<F→i+k=(c.toNat:Int)→0≤i→acc.length≤64-k→k≤64→t.length≤1000000000→
  Br (BJ (λσ=>CP s σ.1 σ.2.1 σ.2.2.1 σ.2.2.2) F (t,acc,z,i)) (BE λν=>Gs ν.1 ν.2)=some (L2 k t acc)
 | k,0,t,acc,z,i,h,_,_,_,_,_=>by omega
 | 0,F+1,t,acc,z,i,hF,hi,h0,ha,hk,ht=>by
  rw[BJ];have hb:CP s t acc z i=some (.out (.go (t,acc))):=by
   unfold CP;rw[A2 (Aeg (by omega))]
  simp only[hb];show Gs t acc=_;unfold Gs L2
  cases h:decide (t=[]) with
  | true=>rw[A2 (p:=!true) rfl,BN (by omega) (Ae8 _)];simp
  | false=>rfl
 | k+1,F+1,t,acc,z,i,hF,hi,h0,ha,hk,ht=>by
  rw[BJ];have hcc:=c.toNat_lt
  match t,ht with
  | [],ht=>
   have hb:CP s [] acc z i=some (.out (.ret ([],14))):=by
    unfold CP;rw[AC (Aei (by omega)),AC (by decide)];rfl
   simp only[hb];rfl
  | [a],ht=>
   have hb:CP s [a] acc z i=some (.out (.ret ([],14))):=by
    unfold CP;rw[AC (Aei (by omega)),AC (by simp)];rfl
   simp only[hb];rfl
  | a::b::r,ht=>
   have haa:=a.toNat_lt;have hbb:=b.toNat_lt;simp only[Aef] at ht;have hd:List.drop (Int.toNat 2) (a::b::r)=r:=rfl;have hb:CP s (a::b::r) acc z i=bif decide (4000<a.toNat*256+b.toNat) then some (.out (.ret ([],13))) else bif decide (r.length<a.toNat*256+b.toNat) then some (.out (.ret ([],14))) else some (.next (r.drop (a.toNat*256+b.toNat),acc++[r.take (a.toNat*256+b.toNat)],((a.toNat*256+b.toNat:Nat):Int),i+1)):=by
    unfold CP;rw[AC (Aei (by omega)),A2 (Aeg (by simp only[Aef];omega)),AcR,AdO,hd,AdN];have hlen:((a::b::r).length:Int)=(r.length:Int)+2:=by simp only[Aef];omega
    rw[hlen,AW (by omega) (by omega),A4 (by omega) (by omega),AW (by omega) (by omega),A4 (by omega) (by omega),BN (by omega) (by omega)];generalize a.toNat*256+b.toNat=m;rw[show decide ((4000:Int)<(m:Int))=decide (4000<m) from by rw[Aev];simp;omega,show decide ((r.length:Int)<(m:Int))=decide (r.length<m) from by rw[Aev];simp]
    cases h1:decide (4000<m) with
    | true=>rfl
    | false=>
     cases h2:decide (r.length<m) with
     | true=>rfl
     | false=>
      simp only[Aee] at h1 h2;rw[A2 rfl,A2 rfl,BN (by omega) (by omega),Jy (by simp;omega),A4 (by omega) (by omega)];rfl
   simp only[hb];rw[L2]
   cases h1:decide (4000<a.toNat*256+b.toNat) with
   | true=>rfl
   | false=>
    cases h2:decide (r.length<a.toNat*256+b.toNat) with
    | true=>rfl
    | false=>
     simp only[Aeh];exact ZA s c hs k F _ _ _ _ (by omega) (by omega) (by omega) (by simp;omega) (by omega) (by simp;omega)
theorem U3 {F:Nat}{s:Af}(hF:64<F)(hs:s.length≤1000000000):MC F s=some (GS s):=by
 unfold MC
 cases s with
 | nil=>rfl
 | cons c t=>
  have hc:=c.toNat_lt;simp only[Aef] at hs;rw[A2 (by simp),AW (by omega) (by simp only[Aef];omega),AcR,A4 (by omega) (by omega),BN (by omega) (by simp only[Aef];omega)];rw[show decide ((64:Int)<(c.toNat:Int))=decide (64<c.toNat) from by rw[Aev];simp;omega];rw[GS]
  cases h:decide (64<c.toNat) with
  | true=>rfl
  | false=>
   simp only[Aee] at h;rw[A2 rfl];exact ZA (c::t) c rfl c.toNat F t [] 0 0 (by omega) (by omega) (Ae8 0) (by simp) (by omega) (by omega)
theorem MK {s:Af}{k:Nat}{a:UInt8}{r:Af}(h:s.drop k=a::r):AM s (k:Int)=(a.toNat:Int):=by
 have:s[k]? =some a:=by rw[← List.head?_drop,h];rfl
 simp[AM,this]
theorem Ue {s:Af}{c a b:UInt8}{r:Af}{p:Nat}{acc:List Af}{i:Int}(hs:AM s 0=(c.toNat:Int))(hsl:s.length≤1000000000)(hd:s.drop p=a::b::r)(hi:i<(c.toNat:Int))(h0:0≤i)(ha:acc.length≤64) :
  C4 s acc (p:Int) i=bif decide (4000<a.toNat*256+b.toNat) then some (.out (.ret ([],13))) else bif decide (r.length<a.toNat*256+b.toNat) then some (.out (.ret ([],14))) else some (.next (acc++[r.take (a.toNat*256+b.toNat)],((p+2+(a.toNat*256+b.toNat):Nat):Int),i+1)):=by
 have hcc:=c.toNat_lt;have haa:=a.toNat_lt;have hbb:=b.toNat_lt;have hdl:(s.drop p).length=s.length-p:=Afc ..;rw[hd] at hdl;simp only[Aef] at hdl;have hd1:s.drop (p+1)=b::r:=by rw[← Afb,hd];rfl
 have hd2:s.drop (p+2)=r:=by rw[← Afb,hd];rfl
 have b1:AM s ((p:Int)+1)=(b.toNat:Int):=by rw[show(p:Int)+1=((p+1:Nat):Int) from by omega];exact MK hd1
 unfold C4;rw[hs,AC (Aei hi),A4 (by omega) (by omega),A2 (Aeg (by omega)),MK hd,b1];have e1:(a.toNat:Int)*256+(b.toNat:Int)=((a.toNat*256+b.toNat:Nat):Int):=by omega
 rw[AW (by omega) (by omega),A4 (by omega) (by omega),A4 (by omega) (by omega),A4 (by omega) (by omega),AW (by omega) (by omega),A4 (by omega) (by omega),A4 (by omega) (by omega),e1];have hm2:a.toNat*256+b.toNat≤100000:=by omega
 generalize a.toNat*256+b.toNat=m at *;have e2:(s.length:Int)-(p:Int)-2=(r.length:Int):=by omega
 have e3:(p:Int)+2+(m:Int)=((p+2+m:Nat):Int):=by omega
 have e4:Int.toNat ((p:Int)+2)=p+2:=by omega
 rw[e2,e3,e4,hd2,show decide ((4000:Int)<(m:Int))=decide (4000<m) from by rw[Aev];simp;omega,show decide ((r.length:Int)<(m:Int))=decide (r.length<m) from by rw[Aev];simp]
 cases h1:decide (4000<m) with
 | true=>rw[AC rfl,Aek]
 | false=>
  rw[A2 rfl,Aeh,A4 (by omega) (by omega)]
  cases h2:decide (r.length<m) with
  | true=>rw[AC rfl,Aek]
  | false=>
   simp only[Aee] at h1 h2;rw[A2 rfl,Aeh,A4 (by omega) (by omega),A4 (by omega) (by omega),BN (by omega) (by omega),BN (by omega) (by omega),Jy (by simp;omega),A4 (by omega) (by omega)];rw[show(((p+2+m:Nat):Int)).toNat-(p+2)=m from by omega]
theorem AaP (s:Af)(c:UInt8)(hs:AM s 0=(c.toNat:Int))(hsl:s.length≤1000000000)(k:Nat):∀(F:Nat) (p:Nat) (acc:List Af) (i:Int),k<F→i+k=(c.toNat:Int)→0≤i→acc.length≤64-k→k≤64→p≤s.length→
  Br (BJ (λσ=>C4 s σ.1 σ.2.1 σ.2.2) F (acc,(p:Int),i)) (BE λν=>E5 s ν.1 ν.2)=some (L2 k (s.drop p) acc):=by
 induction k with
 | zero=>
  intro F p acc i hF hi h0 ha hk hp;obtain⟨F,rfl⟩:∃G,F=G+1:=⟨F-1,by omega⟩
  rw[BJ];have hb:C4 s acc (p:Int) i=some (.out (.go (acc,(p:Int)))):=by
   unfold C4;rw[A2 (Aeg (by omega))]
  simp only[hb];show E5 s acc p=_;unfold E5 L2;rw[show decide ((p:Int)<(s.length:Int)) = !decide (s.drop p=[]) from by rw[Aev];simp]
  cases h:decide (s.drop p=[])<;>rfl
 | succ k ih=>
  intro F p acc i hF hi h0 ha hk hp;obtain⟨F,rfl⟩:∃G,F=G+1:=⟨F-1,by omega⟩
  rw[BJ];have hcc:=c.toNat_lt;have hdl:(s.drop p).length=s.length-p:=Afc ..
  match hd:s.drop p with
  | []=>
   rw[hd] at hdl;simp only[AeS] at hdl;have hb:C4 s acc (p:Int) i=some (.out (.ret ([],14))):=by
    unfold C4;rw[AC (Aei (by omega)),A4 (by omega) (by omega),AC (Aei (by omega))]
   simp only[hb];rfl
  | [a]=>
   rw[hd] at hdl;simp only[Aef,AeS] at hdl;have hb:C4 s acc (p:Int) i=some (.out (.ret ([],14))):=by
    unfold C4;rw[AC (Aei (by omega)),A4 (by omega) (by omega),AC (Aei (by omega))]
   simp only[hb];rfl
  | a::b::r=>
   have hd2:s.drop (p+2)=r:=by rw[← Afb,hd];rfl
   have hb:=Ue (acc:=acc) (i:=i) hs hsl hd (by omega) h0 (by omega);simp only[hb];rw[hd] at hdl;simp only[Aef] at hdl;rw[L2];generalize a.toNat*256+b.toNat=m
   cases h1:decide (4000<m) with
   | true=>simp only[Aek];rfl
   | false=>
    cases h2:decide (r.length<m) with
    | true=>simp only[Aek,Aeh];rfl
    | false=>
     simp only[Aee] at h1 h2;simp only[Aeh];have:=ih F (p+2+m) (acc++[r.take m]) (i+1) (by omega) (by omega) (by omega) (by rw[Aen];simp only[Aef,AeS];omega) (by omega) (by omega);rw[← Afb,hd2] at this;exact this
theorem S7 {F:Nat}{s:Af}(hF:64<F)(hs:s.length≤1000000000):Kq F s=some (GS s):=by
 unfold Kq
 cases s with
 | nil=>rfl
 | cons c t=>
  have hc:=c.toNat_lt;simp only[Aef] at hs;rw[A2 (Aeg (by simp;omega)),AW (by omega) (by simp only[Aef];omega),AcR];rw[show decide ((64:Int)<(c.toNat:Int))=decide (64<c.toNat) from by rw[Aev];simp;omega];rw[GS]
  cases h:decide (64<c.toNat) with
  | true=>rfl
  | false=>
   simp only[Aee] at h;rw[A2 rfl,A4 (by omega) (by omega)];exact AaP (c::t) c rfl (by simp;omega) c.toNat F 1 [] 0 (by omega) (by omega) (Ae8 0) (by simp) (by omega) (by simp)
theorem Qf:∀(l:List Af) (acc:List Af),(l.all λf=>decide (f.length≤4000))=true→L2 l.length (l.flatMap P4) acc=(acc++l,0)
 | [],acc,_=>by simp[L2]
 | f::l,acc,h=>by
  simp only[AeN,Aej,Aed] at h;rw[Afd,Aef];show L2 (l.length+1) (UInt8.ofNat (f.length/256)::UInt8.ofNat (f.length % 256)::(f++l.flatMap P4)) acc=_;rw[L2];have e:(UInt8.ofNat (f.length/256)).toNat*256+(UInt8.ofNat (f.length % 256)).toNat=f.length:=by
   simp only[UInt8.toNat_ofNat'];omega
  rw[e,Aeg (by omega),Aeg (by simp),Aeh,Aeh,List.take_left,List.drop_left,Qf l _ (by simpa using h.2)];simp
theorem XH {l:List Af}(h:okP l=true):GS (Mm l)=(l,0):=by
 unfold okP at h;simp only[Aej,Aed] at h;unfold Mm;rw[GS];have e:(UInt8.ofNat l.length).toNat=l.length:=by simp only[UInt8.toNat_ofNat'];omega
 rw[e,Aeg (by omega),Aeh,Qf l [] h.2];rfl
theorem Se:∀(n:Nat) (s:Af) (acc:List Af) (q:List Af),L2 n s acc=(q,0)→∃l,q=acc++l∧l.length=n∧(l.all λf=>decide (f.length≤4000))=true∧l.flatMap P4=s
 | 0,s,acc,q,h=>by
  rw[L2] at h
  cases hs:decide (s=[]) with
  | true=>rw[hs] at h;simp only[Aek,Prod.mk.injEq] at h;exact⟨[],by simp[h.1],rfl,rfl,by rw[Aep hs];rfl⟩
  | false=>rw[hs] at h;cases h
 | n+1,[],acc,q,h=>by have h2:(([]:List Af),(14:Int))=(q,0):=h;cases h2
 | n+1,[a],acc,q,h=>by have h2:(([]:List Af),(14:Int))=(q,0):=h;cases h2
 | n+1,a::b::r,acc,q,h=>by
  rw[L2] at h;have ha:=a.toNat_lt;have hb:=b.toNat_lt
  cases h1:decide (4000<a.toNat*256+b.toNat) with
  | true=>rw[h1] at h;cases h
  | false=>
   cases h2:decide (r.length<a.toNat*256+b.toNat) with
   | true=>rw[h1,h2] at h;cases h
   | false=>
    rw[h1,h2] at h;simp only[Aeh] at h;simp only[Aee] at h1 h2;obtain⟨l,e1,e2,e3,e4⟩:=Se n _ _ _ h;have hl:(r.take (a.toNat*256+b.toNat)).length=a.toNat*256+b.toNat:=by simp;omega
    refine⟨r.take (a.toNat*256+b.toNat)::l,by rw[e1];simp,by simp[e2],?_,?_⟩
    ·rw[AeN,e3,Ae2,Aed,hl];omega
    ·rw[Afd,e4];unfold P4;rw[hl];have x1:UInt8.ofNat ((a.toNat*256+b.toNat)/256)=a:=by
      apply UInt8.toNat_inj.1;simp only[UInt8.toNat_ofNat'];omega
     have x2:UInt8.ofNat ((a.toNat*256+b.toNat) % 256)=b:=by
      apply UInt8.toNat_inj.1;simp only[UInt8.toNat_ofNat'];omega
     rw[x1,x2];simp
theorem SE {s:Af}{l:List Af}(h:GS s=(l,0)):okP l=true∧Mm l=s:=by
 cases s with
 | nil=>cases h
 | cons c t=>
  rw[GS] at h
  cases h1:decide (64<c.toNat) with
  | true=>rw[h1] at h;cases h
  | false=>
   rw[h1] at h;simp only[Aeh] at h;simp only[Aee] at h1;obtain⟨l',e1,e2,e3,e4⟩:=Se _ _ _ _ h;simp only[AeE] at e1;subst e1;unfold okP Mm;rw[e3,e4,e2,Aei (by omega)];exact⟨rfl,by simp⟩
theorem VW {s:Af}{f:Af}(h:f∈(GS s).1)(h0:(GS s).2=0):f.length≤4000:=by
 have:=(SE (s:=s) (l:=(GS s).1) (by rw[← h0])).1;unfold okP at this;simp only[Aej,Aed,AeI] at this;exact this.2 f h
def pre:Af→Af→Option Af
 | [],s=>some s
 | c::w,d::s=>bif decide (c=d) then pre w s else none
 | _::_,[]=>none
def CC (strict:Bool):Af→Option (Af×Af)
 | []=>none
 | c::r=>
  bif decide (c=34) then some ([],r) else
  bif strict&&!KO c then none else
  bif decide (c=92) then(match r with
   | []=>none
   | d::r'=>bif decide (d=34)||decide (d=92) then(match CC strict r' with
    | none=>none
    | some (t,u)=>some (d::t,u)) else none)
  else(match CC strict r with
   | none=>none
   | some (t,u)=>some (c::t,u))
def Ce (c:UInt8):Bool:=decide (48≤c.toNat)&&decide (c.toNat≤57)
def BV:Af→Af×Af
 | []=>([],[])
 | c::r=>bif Ce c then(c::(BV r).1,(BV r).2) else([],c::r)
def HJ (d:Af):Int:=d.foldl (λn c=>10*n+((c.toNat:Int)-48)) 0
def JZ (neg:Bool)(d:Af):Int:=
 bif decide (18<d.length) then(bif neg then -2000000000000 else 2000000000000) else bif neg then -(HJ d) else HJ d
def Ea (neg:Bool)(d:Af):Bool:=!decide (d=[])&&!(decide (d.head? =some 48)&&(decide (1<d.length)||neg))
def HM (s:Af):Option (Fo×Af):=
 let neg:=decide (s.head? =some 45)
 let r:=bif neg then s.tail else s
 bif Ea neg (BV r).1 then some (.cell none ⟨3,JZ neg (BV r).1,[],0⟩ .nil,(BV r).2) else none
def lf (k i:Int)(t:Af):Fo:=.cell none ⟨k,i,t,0⟩ .nil
def nd (m:Bool)(g:Fo):Fo:=bif decide (g.cnt=0) then .cell none ⟨bif m then 6 else 5,0,[],0⟩ .nil else .node none ⟨bif m then 6 else 5,0,[],(g.cnt:Int)⟩ g .nil
def Bl (m:Bool):UInt8:=bif m then 125 else 93
def DS (strict m:Bool)(last:Option Af)(s:Af):Option (Option Af×Af):=
 bif m then(match s with
  | []=>none
  | c::r=>bif decide (c=34) then(match CC strict r with
   | none=>none
   | some (k,u)=>bif strict&&!B6 true last (some k) then none else(match u with
    | []=>none
    | d::u'=>bif decide (d=58) then some (some k,u') else none)) else none)
 else some (none,s)
mutual
def Gq (strict:Bool):Nat→Af→Option (Fo×Af)
 | 0,_=>none
 | F+1,s=>
  match pre [110,117,108,108] s with
  | some r=>some (lf 1 0 [],r)
  | none=>match pre [116,114,117,101] s with
   | some r=>some (lf 2 1 [],r)
   | none=>match pre [102,97,108,115,101] s with
    | some r=>some (lf 2 0 [],r)
    | none=>match s with
     | []=>none
     | c::r=>
      bif decide (c=34) then(match CC strict r with
       | none=>none
       | some (t,u)=>some (lf 4 0 t,u)) else
      bif decide (c=91)||decide (c=123) then(match r with
       | []=>none
       | d::r'=>bif decide (d=Bl (decide (c=123))) then some (nd (decide (c=123)) .nil,r') else(match D6 strict F (decide (c=123)) none (d::r') with
        | none=>none
        | some (g,u)=>some (nd (decide (c=123)) g,u))) else
      HM (c::r)
def D6 (strict:Bool):Nat→Bool→Option Af→Af→Option (Fo×Af)
 | 0,_,_,_=>none
 | F+1,m,last,s=>
  match DS strict m last s with
  | none=>none
  | some (key,s1)=>match Gq strict F s1 with
   | none=>none
   | some (f,s2)=>match s2 with
    | []=>none
    | c::s3=>
     bif decide (c=Bl m) then some (f.put key .nil,s3) else
     bif decide (c=44) then(match D6 strict F m key s3 with
      | none=>none
      | some (g,u)=>some (f.put key g,u)) else none
end
theorem DM (strict:Bool)(F:Nat)(s:Af):Gq strict (F+1) s =
  match pre [110,117,108,108] s with
  | some r=>some (lf 1 0 [],r)
  | none=>match pre [116,114,117,101] s with
   | some r=>some (lf 2 1 [],r)
   | none=>match pre [102,97,108,115,101] s with
    | some r=>some (lf 2 0 [],r)
    | none=>match s with
     | []=>none
     | c::r=>
      bif decide (c=34) then(match CC strict r with
       | none=>none
       | some (t,u)=>some (lf 4 0 t,u)) else
      bif decide (c=91)||decide (c=123) then(match r with
       | []=>none
       | d::r'=>bif decide (d=Bl (decide (c=123))) then some (nd (decide (c=123)) .nil,r') else(match D6 strict F (decide (c=123)) none (d::r') with
        | none=>none
        | some (g,u)=>some (nd (decide (c=123)) g,u))) else
      HM (c::r):=by
 rw[Gq.eq_def]
theorem Dz (strict:Bool)(F:Nat)(m:Bool)(last:Option Af)(s:Af):D6 strict (F+1) m last s =
  match DS strict m last s with
  | none=>none
  | some (key,s1)=>match Gq strict F s1 with
   | none=>none
   | some (f,s2)=>match s2 with
    | []=>none
    | c::s3=>
     bif decide (c=Bl m) then some (f.put key .nil,s3) else
     bif decide (c=44) then(match D6 strict F m key s3 with
      | none=>none
      | some (g,u)=>some (f.put key g,u)) else none:=by
 rw[D6.eq_def]
theorem Ds:∀{w s r:Af},pre w s=some r→s=w++r
 | [],s,r,h=>by cases h;rfl
 | c::w,[],r,h=>by cases h
 | c::w,d::s,r,h=>by
  rw[pre] at h
  cases hc:decide (c=d) with
  | false=>rw[hc] at h;cases h
  | true=>
   rw[hc] at h;simp only[Aed] at hc;rw[hc,Ds h];rfl
theorem DJ (b:Bool)(c:UInt8)(r:Af):CC b (c::r) =
  bif decide (c=34) then some ([],r) else
  bif b&&!KO c then none else
  bif decide (c=92) then(match r with
   | []=>none
   | d::r'=>bif decide (d=34)||decide (d=92) then(match CC b r' with
    | none=>none
    | some (t,u)=>some (d::t,u)) else none)
  else(match CC b r with
   | none=>none
   | some (t,u)=>some (c::t,u)):=by
 rw[CC.eq_def]
 cases r<;>rfl
theorem IY (b:Bool):∀(n:Nat) (s t u:Af),s.length=n→CC b s=some (t,u)→u.length<s.length:=by
 intro n
 induction n using Nat.strongRecOn with
 | ind n ih=>
  intro s t u hn h
  cases s with
  | nil=>cases h
  | cons c r=>
   simp only[Aef] at hn ⊢;rw[DJ] at h
   cases h1:decide (c=34) with
   | true=>rw[h1] at h;cases h;omega
   | false=>
    rw[h1] at h;simp only[Aeh] at h
    cases h2:(b&&!KO c) with
    | true=>rw[h2] at h;cases h
    | false=>
     rw[h2] at h;simp only[Aeh] at h
     cases h3:decide (c=92) with
     | true=>
      rw[h3] at h
      cases r with
      | nil=>cases h
      | cons d r'=>
       simp only[Aek] at h
       cases h4:(decide (d=34)||decide (d=92)) with
       | false=>rw[h4] at h;cases h
       | true=>
        rw[h4] at h;simp only[Aek] at h
        cases h5:CC b r' with
        | none=>rw[h5] at h;cases h
        | some q=>
         obtain⟨t',u'⟩:=q;rw[h5] at h;cases h;simp only[Aef] at hn ⊢;have:=ih r'.length (by omega) r' t' u rfl h5;omega
     | false=>
      rw[h3] at h;simp only[Aeh] at h
      cases h5:CC b r with
      | none=>rw[h5] at h;cases h
      | some q=>
       obtain⟨t',u'⟩:=q;rw[h5] at h;cases h;have:=ih r.length (by omega) r t' u rfl h5;omega
theorem I8:∀s:Af,s=(BV s).1++(BV s).2
 | []=>rfl
 | c::r=>by
  have:=I8 r;rw[BV]
  cases Ce c with
  | true=>simp only[Aek,AeO];rw[← this]
  | false=>rfl
theorem Pv {s u:Af}{f:Fo}(h:HM s=some (f,u)):u.length<s.length:=by
 unfold HM at h;simp only at h
 cases hc:Ea (decide (s.head? =some 45)) (BV (bif decide (s.head? =some 45) then s.tail else s)).1 with
 | false=>rw[hc] at h;cases h
 | true=>
  rw[hc] at h;simp only[Aek,Option.some.injEq,Prod.mk.injEq] at h;obtain⟨_,h⟩:=h;have e:=congrArg List.length (I8 (bif decide (s.head? =some 45) then s.tail else s));rw[Aen,h] at e;have h1:0<(BV (bif decide (s.head? =some 45) then s.tail else s)).1.length:=by
   unfold Ea at hc;simp only[Aej,Aex,Aee] at hc;exact List.length_pos_iff.2 hc.1
  have h2:(bif decide (s.head? =some 45) then s.tail else s).length≤s.length:=by
   cases decide (s.head? =some 45)<;>simp
  omega
theorem Tg {b m:Bool}{last key:Option Af}{s u:Af}(h:DS b m last s=some (key,u)):u.length≤s.length:=by
 unfold DS at h
 cases m with
 | false=>cases h;exact AeA _
 | true=>
  simp only[Aek] at h
  cases s with
  | nil=>cases h
  | cons c r=>
   simp only at h
   cases h1:decide (c=34) with
   | false=>rw[h1] at h;cases h
   | true=>
    rw[h1] at h;simp only[Aek] at h
    cases h2:CC b r with
    | none=>rw[h2] at h;cases h
    | some q=>
     obtain⟨k,w⟩:=q;have:=IY b _ r k w rfl h2;rw[h2] at h;simp only at h
     cases h3:(b&&!B6 true last (some k)) with
     | true=>rw[h3] at h;cases h
     | false=>
      rw[h3] at h;simp only[Aeh] at h
      cases w with
      | nil=>cases h
      | cons d w'=>
       simp only at h
       cases h4:decide (d=58) with
       | false=>rw[h4] at h;cases h
       | true=>rw[h4] at h;cases h;simp only[Aef] at this ⊢;omega
theorem YJ (m:Bool)(g:Fo):(nd m g).one=true:=by
 unfold nd
 cases decide (g.cnt=0)<;>rfl
theorem Zs {s u:Af}{f:Fo}(h:HM s=some (f,u)):f.one=true:=by
 unfold HM at h;simp only at h
 cases hc:Ea (decide (s.head? =some 45)) (BV (bif decide (s.head? =some 45) then s.tail else s)).1 with
 | false=>rw[hc] at h;cases h
 | true=>rw[hc] at h;cases h;rfl
theorem Eg (b:Bool):∀F:Nat,(∀s f u,Gq b F s=some (f,u)→u.length<s.length∧f.one=true)∧(∀m last s g u,D6 b F m last s=some (g,u)→u.length<s.length∧1≤g.cnt)
 | 0=>⟨(λs f u h=>by rw[Gq.eq_def] at h;cases h),(λm last s g u h=>by rw[D6.eq_def] at h;cases h)⟩
 | F+1=>by
  obtain⟨ih1,ih2⟩:=Eg b F;constructor
  ·intro s f u h;rw[DM] at h
   cases h1:pre [110,117,108,108] s with
   | some r=>rw[h1] at h;cases h;rw[Ds h1];exact⟨by simp;omega,rfl⟩
   | none=>
   rw[h1] at h;simp only at h
   cases h2:pre [116,114,117,101] s with
   | some r=>rw[h2] at h;cases h;rw[Ds h2];exact⟨by simp;omega,rfl⟩
   | none=>
   rw[h2] at h;simp only at h
   cases h3:pre [102,97,108,115,101] s with
   | some r=>rw[h3] at h;cases h;rw[Ds h3];exact⟨by simp;omega,rfl⟩
   | none=>
   rw[h3] at h;simp only at h
   cases s with
   | nil=>cases h
   | cons c r=>
   simp only at h
   cases h4:decide (c=34) with
   | true=>
    rw[h4] at h;simp only[Aek] at h
    cases h5:CC b r with
    | none=>rw[h5] at h;cases h
    | some q=>
     obtain⟨t,w⟩:=q;rw[h5] at h;cases h;have:=IY b _ r t u rfl h5;exact⟨by simp only[Aef];omega,rfl⟩
   | false=>
   rw[h4] at h;simp only[Aeh] at h
   cases h5:(decide (c=91)||decide (c=123)) with
   | false=>rw[h5] at h;simp only[Aeh] at h;exact⟨Pv h,Zs h⟩
   | true=>
   rw[h5] at h;simp only[Aek] at h
   cases r with
   | nil=>cases h
   | cons d r'=>
   simp only at h
   cases h6:decide (d=Bl (decide (c=123))) with
   | true=>rw[h6] at h;cases h;exact⟨by simp only[Aef];omega,YJ _ _⟩
   | false=>
   rw[h6] at h;simp only[Aeh] at h
   cases h7:D6 b F (decide (c=123)) none (d::r') with
   | none=>rw[h7] at h;cases h
   | some q=>
    obtain⟨g,w⟩:=q;rw[h7] at h;cases h;have:=(ih2 _ _ _ _ _ h7).1;exact⟨by simp only[Aef] at this ⊢;omega,YJ _ _⟩
  ·intro m last s g u h;rw[Dz] at h
   cases h1:DS b m last s with
   | none=>rw[h1] at h;cases h
   | some q=>
   obtain⟨key,s1⟩:=q;have l1:=Tg h1;rw[h1] at h;simp only at h
   cases h2:Gq b F s1 with
   | none=>rw[h2] at h;cases h
   | some q=>
   obtain⟨f,s2⟩:=q;obtain⟨l2,o2⟩:=ih1 _ _ _ h2;rw[h2] at h;simp only at h
   cases s2 with
   | nil=>cases h
   | cons c s3=>
   simp only[Aef] at l2;have hput:∀r:Fo,1≤(f.put key r).cnt:=λr=>by
    cases f with
    | nil=>cases o2
    | cell _ _ _=>simp[Fo.put,Fo.cnt]
    | node _ _ _ _=>simp[Fo.put,Fo.cnt]
   simp only at h
   cases h3:decide (c=Bl m) with
   | true=>rw[h3] at h;cases h;exact⟨by omega,hput _⟩
   | false=>
   rw[h3] at h;simp only[Aeh] at h
   cases h4:decide (c=44) with
   | false=>rw[h4] at h;cases h
   | true=>
   rw[h4] at h;simp only[Aek] at h
   cases h5:D6 b F m key s3 with
   | none=>rw[h5] at h;cases h
   | some q=>
    obtain⟨g',w⟩:=q;rw[h5] at h;cases h;have:=(ih2 _ _ _ _ _ h5).1;exact⟨by omega,hput _⟩
def CK (acc:Nat)(d:Af):Nat:=d.foldl (λn c=>10*n+(c.toNat-48)) acc
theorem Jl:∀(d:Af) (a:Nat),a≤CK a d
 | [],a=>AeA _
 | c::d,a=>by
  have:=Jl d (10*a+(c.toNat-48));show a≤CK (10*a+(c.toNat-48)) d;omega
theorem SR:∀(d:Af) (a:Nat),1≤a→10 ^ d.length≤CK a d
 | [],a,h=>by simpa[CK] using h
 | c::d,a,h=>by
  have hm:∀(d:Af) (a b:Nat),a≤b→CK a d≤CK b d:=by
   intro d
   induction d with
   | nil=>intro a b h;exact h
   | cons c d ih=>intro a b h;show CK (10*a+(c.toNat-48)) d≤CK (10*b+(c.toNat-48)) d;exact ih _ _ (by omega)
  have hs:∀(d:Af) (a:Nat),10 ^ d.length*a≤CK a d:=by
   intro d
   induction d with
   | nil=>intro a;simp[CK]
   | cons c d ih=>
    intro a;have:=ih (10*a+(c.toNat-48));show 10 ^ (d.length+1)*a≤CK (10*a+(c.toNat-48)) d;refine Nat.le_trans ?_ this;rw[Nat.pow_succ,Nat.mul_assoc];exact Nat.mul_le_mul_left _ (by omega)
  exact Nat.le_trans (Nat.le_mul_of_pos_right _ h) (hs (c::d) a)
theorem Jk:∀(d:Af) (a:Nat),d.all Ce=true→d.foldl (λn c=>10*n+((c.toNat:Int)-48)) (a:Int)=(CK a d:Int)
 | [],a,_=>rfl
 | c::d,a,h=>by
  simp only[AeN,Aej] at h;have hc:48≤c.toNat:=by have:=h.1;simp[Ce] at this;omega
  have:=Jk d (10*a+(c.toNat-48)) h.2;show d.foldl _ (10*(a:Int)+((c.toNat:Int)-48))=(CK (10*a+(c.toNat-48)) d:Int);rw[← this]
  congr 1
  omega
theorem Rh:∀(d:Af) (a:Nat),d.all Ce=true→Lib.parseUint10 a d = .ok (CK a d)∨(Lib.parseUint10 a d = .range∧1000000000000<CK a d)
 | [],a,_=>.inl rfl
 | c::d,a,h=>by
  simp only[AeN,Aej] at h;have hc:48≤c.toNat∧c.toNat≤57:=by have:=h.1;simp[Ce] at this;omega
  have hm:=Jl d (10*a+(c.toNat-48));have e:CK a (c::d)=CK (10*a+(c.toNat-48)) d:=rfl;rw[e];unfold Lib.parseUint10;rw[AeY hc]
  split
  ·exact .inr ⟨rfl,by omega⟩
  ·split
   ·exact .inr ⟨rfl,by omega⟩
   ·rw[show a*10+(c.toNat-48)=10*a+(c.toNat-48) from by omega];exact Rh d _ h.2
theorem Nx:∀(d:Af) (i:Nat),B0 DO i d=d.all Ce
 | [],_=>rfl
 | c::d,i=>by
  rw[B0,AeN,Nx d]
  congr 1
  simp only[DO,Ce];rw[Aev];simp only[Aex,Ae4,Aee,Aej,Aed];omega
def HC (neg:Bool)(d:Af):Af:=bif neg then 45::d else d
theorem Zw {d:Af}(hd:d.all Ce=true) : ¬ d.head? =some 45:=by
 cases d with
 | nil=>simp
 | cons c d=>
  simp only[AeN,Aej] at hd;have:=hd.1;intro e;simp only[List.head?_cons,Option.some.injEq] at e;subst e;simp[Ce] at this
theorem VZ (s:Af):G8 s=decide (s.head? =some 45):=by
 cases s with
 | nil=>rfl
 | cons c r=>
  have:AM (c::r) 0=c.toNat:=DC rfl;unfold G8;rw[this,Aev];simp only[Aej,Aed,List.head?_cons,Option.some.injEq,← AeX,Aef];show _∧(c.toNat:Int)=45↔c.toNat=45;omega
theorem ZM {neg:Bool}{d:Af}(hd:d.all Ce=true):DH (HC neg d)=d:=by
 unfold DH;rw[VZ]
 cases neg with
 | true=>rfl
 | false=>
  have:=Zw hd;show(if decide (d.head? =some 45)=true then d.drop 1 else d)=d;rw[AeK (by simpa using this)]
theorem ZR {neg:Bool}{d:Af}(hd:d.all Ce=true):Gc (HC neg d)=Ea neg d:=by
 unfold Gc Ea;rw[ZM hd,Nx,hd,Ae2]
 cases d with
 | nil=>simp
 | cons c r=>
  have hb:AM (c::r) 0=c.toNat:=DC rfl;have h1:decide (c::r=([]:Af))=false:=by simp
  have h2:decide (AM (c::r) 0=48)=decide ((c::r).head? =some 48):=by
   rw[hb,Aev];simp only[Aed,List.head?_cons,Option.some.injEq,← AeX];show(c.toNat:Int)=48↔c.toNat=48;omega
  rw[h1,h2,Aew,Ae0,Aer]
  cases ha:decide ((c::r).head? =some 48) with
  | false=>rfl
  | true=>
   simp only[Aed,List.head?_cons,Option.some.injEq] at ha;subst ha
   cases neg with
   | true=>simp[HC]
   | false=>
    cases r with
    | nil=>simp[HC]
    | cons a r=>simp[HC]
theorem Aaf {neg:Bool}{d:Af}(hd:d.all Ce=true)(hne:d≠[]):Lib.atoiAll (HC neg d)=(bif neg then Lib.signed (Lib.parseUint10 0 d) else Lib.signless (Lib.parseUint10 0 d)):=by
 cases neg with
 | true=>
  simp only[HC,Aek];rw[Lib.atoiAll_minus,Lib.parseMag,AeK hne]
 | false=>
  cases d with
  | nil=>exact absurd rfl hne
  | cons c r=>
   have hc:=hd;simp only[AeN,Aej] at hc;have ha:48≤c.toNat:=by have:=hc.1;simp[Ce] at this;omega
   simp only[HC,Aeh];rw[Lib.atoiAll_plain c r (by omega) (by omega),Lib.parseMag,AeK hne]
theorem Ww {neg:Bool}{d:Af}(hd:d.all Ce=true):(Ea neg d=false∧BI (HC neg d)=1)∨(Ea neg d=true∧Ci ⟨3,JZ neg d,[],0⟩=false∧BI (HC neg d)=0∧AL (HC neg d)=JZ neg d)∨(Ea neg d=true∧Ci ⟨3,JZ neg d,[],0⟩=true∧BI (HC neg d)=2∧AL (HC neg d)=0):=by
 unfold BI AL;rw[ZR hd]
 cases hc:Ea neg d with
 | false=>exact .inl ⟨rfl,rfl⟩
 | true=>
  right
  have hc':=hc;unfold Ea at hc';simp only[Aej,Aex,Aee] at hc';have hne:=hc'.1;rw[AeY rfl,AeY rfl,Aaf hd hne];have hnum:HJ d=(CK 0 d:Int):=Jk d 0 hd;have hbig:18<d.length→1000000000000<CK 0 d:=λhl=>by
   cases d with
   | nil=>simp at hl
   | cons c r=>
    have hc1:=hd;simp only[AeN,Aej] at hc1;have he:48≤c.toNat:=by have:=hc1.1;simp[Ce] at this;omega
    have hne48 : ¬ c=48:=by
     intro e;have:=hc'.2;subst e;simp only[Aef] at hl;have h1r:1<r.length+1:=by omega
     simp[h1r] at this
    have hf:49≤c.toNat:=by
     have : ¬ c.toNat=48:=λe=>hne48 (UInt8.toNat_inj.1 (by rw[e];rfl));omega
    have:=SR r (10*0+(c.toNat-48)) (by omega);have ha:10 ^ 18≤10 ^ r.length:=Nat.pow_le_pow_right (by decide) (by simp at hl;omega);have e:CK 0 (c::r)=CK (10*0+(c.toNat-48)) r:=rfl;rw[e];have:(1000000000000:Nat)<10 ^ 18:=by decide
    omega
  have hout:Ci ⟨3,JZ neg d,[],0⟩=decide (1000000000000<CK 0 d):=by
   unfold Ci JZ;rw[hnum]
   cases ha:decide (18<d.length) with
   | true=>
    simp only[Aed] at ha;rw[Aei (hbig ha)]
    cases neg<;>rfl
   | false=>
    rw[Aev]
    cases neg<;>simp<;>omega
  rw[hout];rcases Rh d 0 hd with hu | ⟨hu,hg⟩
  ·rw[hu]
   cases hg:decide (1000000000000<CK 0 d) with
   | false=>
    simp only[Aee] at hg;have ha:decide (18<d.length)=false:=by
     rw[Aee];intro h;have:=hbig h;omega
    refine .inl ⟨rfl,rfl,?_,?_⟩
    ·cases neg with
     | true=>simp only[Aek,Lib.signed];rw[AeK (by omega)];simp only;rw[AeY (by unfold D4;simp;omega)]
     | false=>simp only[Aeh,Lib.signless];rw[AeK (by omega)];simp only;rw[AeY (by unfold D4;simp;omega)]
    ·unfold JZ;rw[ha,hnum]
     cases neg with
     | true=>simp only[Aek,Aeh,Lib.signed];rw[AeK (by omega)];simp only;rw[AeY (by unfold D4;simp;omega)]
     | false=>simp only[Aeh,Lib.signless];rw[AeK (by omega)];simp only;rw[AeY (by unfold D4;simp;omega)]
   | true=>
    simp only[Aed] at hg;refine .inr ⟨rfl,rfl,?_,?_⟩
    ·cases neg with
     | true=>
      simp only[Aek,Lib.signed]
      by_cases hb:9223372036854775808<CK 0 d
      ·rw[AeY hb]
      ·rw[AeK hb];simp only;rw[AeK (by unfold D4;simp;omega)]
     | false=>
      simp only[Aeh,Lib.signless]
      by_cases hb:9223372036854775808≤CK 0 d
      ·rw[AeY hb]
      ·rw[AeK hb];simp only;rw[AeK (by unfold D4;simp;omega)]
    ·cases neg with
     | true=>
      simp only[Aek,Lib.signed]
      by_cases hb:9223372036854775808<CK 0 d
      ·rw[AeY hb]
      ·rw[AeK hb];simp only;rw[AeK (by unfold D4;simp;omega)]
     | false=>
      simp only[Aeh,Lib.signless]
      by_cases hb:9223372036854775808≤CK 0 d
      ·rw[AeY hb]
      ·rw[AeK hb];simp only;rw[AeK (by unfold D4;simp;omega)]
  ·rw[hu,Aei hg];refine .inr ⟨rfl,rfl,?_,?_⟩<;>cases neg<;>rfl
def Em (u S:Af):Prop:=∃p,S=p++u
theorem Em.len {u S:Af}(h:Em u S):u.length≤S.length:=by obtain⟨p,rfl⟩:=h;simp
theorem Em.tail {c:UInt8}{r S:Af}(h:Em (c::r) S):Em r S:=by obtain⟨p,rfl⟩:=h;exact⟨p++[c],by simp⟩
theorem Em.app {w r S:Af}(h:Em (w++r) S):Em r S:=by obtain⟨p,rfl⟩:=h;exact⟨p++w,by simp⟩
theorem Em.drop {u S:Af}(h:Em u S):S.drop (Int.toNat ((S.length:Int)-u.length))=u:=by
 obtain⟨p,rfl⟩:=h;rw[show Int.toNat (((p++u).length:Int)-u.length)=p.length from by rw[Aen];omega,List.drop_left]
theorem Em.get {c:UInt8}{r S:Af}(h:Em (c::r) S):S[(Int.toNat ((S.length:Int)-(c::r).length))]? =some c:=by
 have:=h.drop;have h2:(S.drop (Int.toNat ((S.length:Int)-(c::r).length)))[0]? =some c:=by rw[this];rfl
 simpa using h2
def DW (S u:Af)(cs:List Aa)(g:Bool):Az:=⟨S,(S.length:Int)-u.length,cs,g⟩
theorem Mk:∀(w r:Af),pre w (w++r)=some r
 | [],r=>rfl
 | c::w,r=>by
  show(bif decide (c=c) then pre w (w++r) else none)=some r;rw[Aei rfl];exact Mk w r
theorem OZ (w s:Af):(decide ((w.length:Int)≤(s.length:Int))&&decide (List.take (Int.toNat (w.length:Int)) s=w))=(pre w s).isSome:=by
 cases h:pre w s with
 | some r=>
  have:=Ds h;subst this;simp;omega
 | none=>
  rw[Aev];simp only[Aej,Aed,Option.isSome_none,Aez,iff_false,not_and];intro hl e;have:s=w++s.drop w.length:=by
   conv=>lhs;rw[← AeZ w.length s]
   rw[show Int.toNat (w.length:Int)=w.length from by omega] at e;rw[e]
  rw[this,Mk] at h
  cases h
theorem M7 (s w:Af):ER s w=some (pre w s).isSome:=by
 unfold ER Hh;rw[← OZ];have:imp (decide ((w.length:Int)≤(s.length:Int))) (Gr (w.length:Int) (s.length:Int))=true:=by
  cases hd:decide ((w.length:Int)≤(s.length:Int)) with
  | false=>rfl
  | true=>simp only[imp];rw[Xb (by omega) (by simpa using hd)];rfl
 rw[B7 this];rfl
theorem Dj {S u w:Af}{cs:List Aa}{g:Bool}(hS:S.length≤100000)(h:Em u S):Ew (DW S u cs g) w=match pre w u with
  | some r=>some (true,DW S r cs g)
  | none=>some (false,DW S u cs g):=by
 have hl:=h.len;unfold Ew DW;simp only;rw[BN (by omega) (by omega),h.drop,M7,AI rfl]
 cases hp:pre w u with
 | none=>rfl
 | some r=>
  have e:=Ds hp;have el:u.length=w.length+r.length:=by rw[e];simp
  rw[A2 (p:=!(some r).isSome) rfl,A4 (by omega) (by omega),show(S.length:Int)-u.length+w.length=S.length-r.length from by omega]
theorem JB (c:UInt8)(u:Af):pre [c] u=match u with
  | []=>none
  | d::r=>bif decide (d=c) then some r else none:=by
 cases u with
 | nil=>rfl
 | cons d r=>
  show(bif decide (c=d) then some r else none)=_;have:decide (c=d)=decide (d=c):=by rw[Aev];simp only[Aed];exact eq_comm
  rw[this]
theorem YA (A:Af):Nd (Dy A)=A:=by
 induction A with
 | nil=>rfl
 | cons c A ih=>
  show UInt8.ofNat (Int.toNat (c.toNat:Int))::Nd (Dy A)=c::A;rw[ih,← (show UInt8.ofNat c.toNat=c from by simp)];simp
theorem AaE:∀(n:Nat) (s t u:Af),s.length=n→CC true s=some (t,u)→t.all KO=true:=by
 intro n
 induction n using Nat.strongRecOn with
 | ind n ih=>
  intro s t u hn h
  cases s with
  | nil=>cases h
  | cons c r=>
   simp only[Aef] at hn;rw[DJ] at h
   cases h1:decide (c=34) with
   | true=>rw[h1] at h;cases h;rfl
   | false=>
    rw[h1] at h;simp only[Aeh,Aer] at h
    cases h2:KO c with
    | false=>rw[h2] at h;cases h
    | true=>
     rw[h2] at h;simp only[Aes,Aeh] at h
     cases h3:decide (c=92) with
     | true=>
      rw[h3] at h
      cases r with
      | nil=>cases h
      | cons d r'=>
       simp only[Aek] at h
       cases h4:(decide (d=34)||decide (d=92)) with
       | false=>rw[h4] at h;cases h
       | true=>
        rw[h4] at h;simp only[Aek] at h
        cases h5:CC true r' with
        | none=>rw[h5] at h;cases h
        | some q=>
         obtain⟨t',u'⟩:=q;rw[h5] at h;cases h;simp only[Aef] at hn;have:=ih r'.length (by omega) r' t' u rfl h5;have hd:KO d=true:=by
          simp only[AeG,Aed] at h4;rcases h4 with e | e<;>subst e<;>rfl
         simp[hd,this]
     | false=>
      rw[h3] at h;simp only[Aeh] at h
      cases h5:CC true r with
      | none=>rw[h5] at h;cases h
      | some q=>
       obtain⟨t',u'⟩:=q;rw[h5] at h;cases h;have:=ih r.length (by omega) r t' u rfl h5;simp[h2,this]
theorem AaV {c:UInt8}:(decide ((c.toNat:Int)<32)||decide (126<(c.toNat:Int))) = !KO c:=by
 unfold KO;rw[Aev];simp only[AeG,Aed,Aex,AeJ,Aee];omega
theorem Q9 (c:UInt8):decide ((c.toNat:Int)=34)=decide (c=34):=by
 rw[Aev,decide_eq_true_iff,decide_eq_true_iff,← AeX];show _↔c.toNat=34;omega
theorem Vs (c:UInt8):decide ((c.toNat:Int)=92)=decide (c=92):=by
 rw[Aev,decide_eq_true_iff,decide_eq_true_iff,← AeX];show _↔c.toNat=92;omega
theorem XM (A:Af)(c:UInt8):Dy A++([(c.toNat:Int)]:List Int)=Dy (A++[c]):=by simp[Dy]
theorem VR {S:Af}{cs:List Aa}{g b:Bool}{p:Int}(hS:S.length≤100000):∀(n L:Nat) (u A:Af),u.length=n→Em u S→n<L→A.length≤S.length-n→
  ∃o,BJ (λσ=>EV (b,⟨S,p,cs,g⟩) σ.1 σ.2) L (Dy A,(S.length:Int)-u.length)=some o∧((∃t w,CC true u=some (t,w)∧Em w S∧BE (λν=>IT (b,⟨S,p,cs,g⟩) ν) o=some (A++t,true,DW S w cs g))∨(CC true u=none∧∃q',BE (λν=>IT (b,⟨S,p,cs,g⟩) ν) o=some ([],false,q'))):=by
 intro n
 induction n using Nat.strongRecOn with
 | ind n ih=>
  intro L u A hn hs hL hA;obtain⟨L,rfl⟩:∃K,L=K+1:=⟨L-1,by omega⟩
  have hsl:=hs.len
  cases u with
  | nil=>
   have hgo:EV (b,⟨S,p,cs,g⟩) (Dy A) ((S.length:Int)-([]:Af).length)=some (.out (.go ((S.length:Int)-([]:Af).length))):=by
    unfold EV;rw[A2 (Aeg (by simp))]
   exact⟨_,Dn hgo,.inr ⟨rfl,_,rfl⟩⟩
  | cons c r=>
   have hb:AM S ((S.length:Int)-(c::r).length)=c.toNat:=DC hs.get;have hpos:(S.length:Int)-(c::r).length+1=S.length-r.length:=by rw[Aef];omega
   simp only[Aef] at hn hsl;have hlt:(S.length:Int)-(c::r).length<S.length:=by rw[Aef];omega
   have h0:0≤(S.length:Int)-(c::r).length:=by rw[Aef];omega
   have hb1:EV (b,⟨S,p,cs,g⟩) (Dy A) ((S.length:Int)-(c::r).length)=Bi (decide (c=34)) (some (.out (.ret (A,true,DW S r cs g)))) (Bi (!KO c) (some (.out (.ret ([],false,DW S r cs g)))) (Bi (decide (c=92)) (AQ (imp (!(decide ((S.length:Int)≤S.length-r.length))) (Cw (S.length-r.length) (S.length:Int)))<|Bi (((decide ((S.length:Int)≤S.length-r.length))||((!decide ((AM S (S.length-r.length))=34))&&(!decide ((AM S (S.length-r.length))=92))))) (some (.out (.ret ([],false,DW S r cs g)))) (AQ (Cw (S.length-r.length) (S.length:Int))<|AQ (Bs .i64 (((S.length:Int)-r.length)+1))<|G7 (Dy A) (AM S (S.length-r.length)) (((S.length:Int)-r.length)+1))) (G7 (Dy A) (c.toNat:Int) ((S.length:Int)-r.length)))):=by
    unfold EV;simp only;rw[AC (Aei hlt),AW h0 hlt,hb,hpos,A4 (by omega) (by omega),Q9,Vs,AaV,YA];rfl
   have hj:∀(x:UInt8) (y:Int),G7 (Dy A) (x.toNat:Int) y=some (.next (Dy (A++[x]),y)):=λx y=>by
    unfold G7;rw[DB (by simp[Dy];omega),XM]
   rw[DJ]
   cases h1:decide (c=34) with
   | true=>
    rw[h1] at hb1;exact⟨.ret (A,true,DW S r cs g),Dn hb1,.inl ⟨[],r,rfl,hs.tail,by rw[Mo,AeF]⟩⟩
   | false=>
    rw[h1,A2 rfl] at hb1;simp only[Aeh,Aer]
    cases h2:KO c with
    | false=>
     rw[h2,AC (p:=!false) rfl] at hb1;exact⟨_,Dn hb1,.inr ⟨rfl,_,rfl⟩⟩
    | true=>
     rw[h2,A2 (p:=!true) rfl] at hb1;simp only[Aes,Aeh]
     cases h3:decide (c=92) with
     | true=>
      rw[h3,AC rfl] at hb1
      cases r with
      | nil=>
       have e:decide ((S.length:Int)≤S.length-([]:Af).length)=true:=by simp
       rw[e,B7 (p:=imp (!true) _) rfl,AC (p:=true||_) rfl] at hb1;exact⟨_,Dn hb1,.inr ⟨rfl,_,rfl⟩⟩
      | cons d r'=>
       simp only[Aef] at hn hsl;have hbd:AM S ((S.length:Int)-(d::r').length)=d.toNat:=DC hs.tail.get;have hlt2:(S.length:Int)-(d::r').length<S.length:=by rw[Aef];omega
       have ha:0≤(S.length:Int)-(d::r').length:=by rw[Aef];omega
       have hpos2:(S.length:Int)-(d::r').length+1=S.length-r'.length:=by rw[Aef];omega
       have e:decide ((S.length:Int)≤S.length-(d::r').length)=false:=Aeg (by omega);rw[e,Li ha hlt2,hbd,hpos2,Q9,Vs,B7 (p:=imp (!false) true) rfl] at hb1;simp only[Aek]
       cases h4:(decide (d=34)||decide (d=92)) with
       | false=>
        have e4:(false||(!decide (d=34)&&!decide (d=92)))=true:=by rw[← Bool.not_or,h4];rfl
        rw[AC e4] at hb1;exact⟨_,Dn hb1,.inr ⟨rfl,_,rfl⟩⟩
       | true=>
        have e4:(false||(!decide (d=34)&&!decide (d=92)))=false:=by rw[← Bool.not_or,h4];rfl
        rw[A2 e4,B7 rfl,A4 (by omega) (by omega),hj] at hb1;obtain⟨o,ho1,ho2⟩:=ih r'.length (by omega) L r' (A++[d]) rfl hs.tail.tail (by omega) (by rw[Gf];omega);refine⟨o,GL hb1 ho1,?_⟩;simp only[Aek];rcases ho2 with⟨t,w,q1,q2,q3⟩ | ⟨q1,q2⟩
        ·rw[q1];exact .inl ⟨d::t,w,rfl,q2,by rw[q3];simp⟩
        ·rw[q1];exact .inr ⟨rfl,q2⟩
     | false=>
      rw[h3,A2 rfl,hj] at hb1;obtain⟨o,ho1,ho2⟩:=ih r.length (by omega) L r (A++[c]) rfl hs.tail (by omega) (by rw[Gf];omega);refine⟨o,GL hb1 ho1,?_⟩;simp only[Aeh];rcases ho2 with⟨t,w,q1,q2,q3⟩ | ⟨q1,q2⟩
      ·rw[q1];exact .inl ⟨c::t,w,rfl,q2,by rw[q3];simp⟩
      ·rw[q1];exact .inr ⟨rfl,q2⟩
theorem RW {F:Nat}{S u:Af}{cs:List Aa}{g:Bool}(hS:S.length≤100000)(h:Em u S)(hF:S.length<F) :
  (∃r t w,u=34::r∧CC true r=some (t,w)∧Em w S∧OC F (DW S u cs g)=some (t,true,DW S w cs g))∨((∀r,u=34::r→CC true r=none)∧∃q',OC F (DW S u cs g)=some ([],false,q')):=by
 unfold OC;rw[Dj hS h,JB]
 cases u with
 | nil=>exact .inr ⟨(λr e=>by cases e),_,rfl⟩
 | cons c r=>
  simp only
  cases hc:decide (c=34) with
  | false=>
   simp only[Aee] at hc;exact .inr ⟨(λr' e=>by cases e;exact absurd rfl hc),_,rfl⟩
  | true=>
   simp only[Aed] at hc;subst hc;have hl:=h.len;simp only[Aef] at hl;simp only[Aek];rw[AI rfl,A2 (p:=!true) rfl];obtain⟨o,ho1,ho2⟩:=VR (b:=true) (cs:=cs) (g:=g) (p:=(S.length:Int)-r.length) hS r.length F r [] rfl h.tail (by omega) (AeL _);have ho1':BJ (λσ=>EV (true,DW S r cs g) σ.1 σ.2) F ([],(S.length:Int)-r.length)=some o:=ho1;rw[show(true,DW S r cs g).2.fAt=(S.length:Int)-r.length from rfl,AI ho1'];rcases ho2 with⟨t,w,q1,q2,q3⟩ | ⟨q1,q',q2⟩
   ·exact .inl ⟨r,t,w,rfl,q1,q2,q3⟩
   ·exact .inr ⟨(λr' e=>by cases e;exact q1),q',q2⟩
def CZ (c:Aa):Aa:=bif Ci c then⟨3,0,[],0⟩ else c
theorem Jv:∀s:Af,(BV s).1.all Ce=true
 | []=>rfl
 | c::r=>by
  rw[BV]
  cases h:Ce c with
  | true=>simp only[Aek,AeN,h,Jv r];rfl
  | false=>rfl
theorem V5 {c:UInt8}:(decide (48≤(c.toNat:Int))&&decide ((c.toNat:Int)≤57))=Ce c:=by
 unfold Ce;rw[Aev];simp only[Aej,Aed];omega
theorem Qd {S:Af}{cs:List Aa}{g b:Bool}{p:Int}(hS:S.length≤100000):∀(u:Af) (L:Nat),Em u S→u.length<L→
  BJ (λσ=>EW (b,⟨S,p,cs,g⟩) σ) L ((S.length:Int)-u.length)=some (.go ((S.length:Int)-(BV u).2.length))
 | [],L,hs,hL=>by
  obtain⟨L,rfl⟩:∃K,L=K+1:=⟨L-1,by omega⟩
  refine Dn ?_;show EW _ _=_;unfold EW;have e:decide ((S.length:Int)-([]:Af).length<(S.length:Int))=false:=by simp
  simp only;rw[e,B7 (p:=imp false _) rfl,A2 (p:=false&&_) rfl];rfl
 | c::r,L,hs,hL=>by
  obtain⟨L,rfl⟩:∃K,L=K+1:=⟨L-1,by omega⟩
  have hsl:=hs.len;have hb:AM S ((S.length:Int)-(c::r).length)=c.toNat:=DC hs.get;have hpos:(S.length:Int)-(c::r).length+1=S.length-r.length:=by rw[Aef];omega
  simp only[Aef] at hsl hL;have hlt:(S.length:Int)-(c::r).length<S.length:=by rw[Aef];omega
  have h0:0≤(S.length:Int)-(c::r).length:=by rw[Aef];omega
  have hb1:EW (b,⟨S,p,cs,g⟩) ((S.length:Int)-(c::r).length)=Bi (Ce c) (some (.next ((S.length:Int)-r.length))) (some (.out (.go ((S.length:Int)-(c::r).length)))):=by
   unfold EW;simp only;rw[Aei hlt,Li h0 hlt,B7 (p:=imp true true) rfl,hb,V5,hpos,A4 (by omega) (by omega),Aer]
  rw[BV]
  cases hd:Ce c with
  | true=>
   rw[hd] at hb1;exact GL hb1 (Qd hS r L hs.tail (by omega))
  | false=>
   rw[hd] at hb1;exact Dn hb1
theorem RY {F:Nat}{S u:Af}{cs:List Aa}{g:Bool}(hS:S.length≤100000)(h:Em u S)(hF:S.length<F)(hcs:cs.length≤100000) :
  (∃f w,HM u=some (f,w)∧Em w S∧OD F (DW S u cs g)=some (true,DW S w (cs++f.flat.map CZ) (g||f.flat.any Ci)))∨(HM u=none∧∃q',OD F (DW S u cs g)=some (false,q')):=by
 have hl:=h.len;have hneg:∃neg r b,neg=decide (u.head? =some 45)∧r=(bif neg then u.tail else u)∧Ew (DW S u cs g) [45]=some (b,DW S r cs g)∧u=(bif neg then 45::r else r):=by
  rw[Dj hS h,JB]
  cases u with
  | nil=>exact⟨false,[],false,rfl,rfl,rfl,rfl⟩
  | cons c r=>
   simp only[List.head?_cons,Option.some.injEq]
   cases hc:decide (c=45) with
   | true=>simp only[Aed] at hc;subst hc;exact⟨true,r,true,rfl,rfl,rfl,rfl⟩
   | false=>exact⟨false,c::r,false,rfl,rfl,rfl,rfl⟩
 obtain⟨neg,r,b,e1,e2,e3,e4⟩:=hneg;have hr:Em r S:=by
  rw[e4] at h
  cases neg with
  | true=>exact h.tail
  | false=>exact h
 have hrl:=hr.len;have hd:=Jv r;have hsplit:=I8 r;have hlen:r.length=(BV r).1.length+(BV r).2.length:=by conv=>lhs;rw[hsplit,Aen]
 have hw:Em (BV r).2 S:=by rw[hsplit] at hr;exact hr.app
 have hut:u=HC neg (BV r).1++(BV r).2:=by
  rw[e4]
  cases neg with
  | true=>show 45::r=45::((BV r).1++(BV r).2);rw[← hsplit]
  | false=>exact hsplit
 have hul:u.length=(HC neg (BV r).1).length+(BV r).2.length:=by conv=>lhs;rw[hut,Aen]
 have hslice:List.take (Int.toNat ((S.length:Int)-(BV r).2.length)-Int.toNat ((S.length:Int)-u.length)) (List.drop (Int.toNat ((S.length:Int)-u.length)) S)=HC neg (BV r).1:=by
  rw[h.drop,show Int.toNat ((S.length:Int)-(BV r).2.length)-Int.toNat ((S.length:Int)-u.length)=(HC neg (BV r).1).length from by omega]
  conv=>lhs;rw[hut]
  rw[List.take_left]
 have hlop:BJ (λσ=>EW (b,DW S r cs g) σ) F ((S.length:Int)-r.length)=some (.go ((S.length:Int)-(BV r).2.length)):=Qd hS r F hr (by omega);have hrun:OD F (DW S u cs g)=Bi (((decide ((BI (HC neg (BV r).1))=1))||(decide ((S.length:Int)-r.length=(S.length:Int)-(BV r).2.length)))) (some (false,DW S (BV r).2 cs g)) (some (true,DW S (BV r).2 (cs++[⟨3,AL (HC neg (BV r).1),[],0⟩]) (g||!decide (BI (HC neg (BV r).1)=0)))):=by
  unfold OD;rw[e3,AI rfl,show(b,DW S r cs g).2.fAt=(S.length:Int)-r.length from rfl,AI hlop,CU];unfold Kh;rw[show(DW S u cs g).fAt=(S.length:Int)-u.length from rfl,show(b,DW S r cs g).2.fS=S from rfl,show(b,DW S r cs g).2.fAt=(S.length:Int)-r.length from rfl,BN (by omega) (by omega),BN (by omega) (by omega),hslice,DB (by omega),B7 (p:=Dw 40 _) (Aei (by
   show(cs.length+1)*40≤140737488355328;omega))]
  rfl
 rw[hrun];unfold HM;simp only;rw[← e1,← e2];rcases Ww (neg:=neg) hd with⟨p1,p2⟩ | ⟨p1,p2,p3,p4⟩ | ⟨p1,p2,p3,p4⟩
 ·rw[p1,p2];exact .inr ⟨rfl,_,rfl⟩
 ·have hne:(BV r).1≠[]:=by
   intro e;rw[e] at p1
   cases neg<;>cases p1
  have hpos:0<(BV r).1.length:=List.length_pos_iff.2 hne;rw[p1,p3,p4,Aeg (show ¬ (S.length:Int)-r.length=(S.length:Int)-(BV r).2.length by omega)];refine .inl ⟨_,_,rfl,hw,?_⟩;simp[Fo.flat,B4,CZ,p2,Bi]
 ·have hne:(BV r).1≠[]:=by
   intro e;rw[e] at p1
   cases neg<;>cases p1
  have hpos:0<(BV r).1.length:=List.length_pos_iff.2 hne;rw[p1,p3,p4,Aeg (show ¬ (S.length:Int)-r.length=(S.length:Int)-(BV r).2.length by omega)];refine .inl ⟨_,_,rfl,hw,?_⟩;simp[Fo.flat,B4,CZ,p2,Bi]
def XX (strict:Bool)(s:Af):Option (Fo×Af):=
 match pre [110,117,108,108] s with
 | some r=>some (lf 1 0 [],r)
 | none=>match pre [116,114,117,101] s with
  | some r=>some (lf 2 1 [],r)
  | none=>match pre [102,97,108,115,101] s with
   | some r=>some (lf 2 0 [],r)
   | none=>match s with
    | []=>none
    | c::r=>bif decide (c=34) then(match CC strict r with
     | none=>none
     | some (t,u)=>some (lf 4 0 t,u)) else HM (c::r)
theorem Y3 (b:Bool)(F:Nat){s:Af}(h:∀c r,s=c::r→(decide (c=91)||decide (c=123))=false):Gq b (F+1) s=XX b s:=by
 rw[DM];unfold XX
 cases pre [110,117,108,108] s with
 | some r=>rfl
 | none=>
 cases pre [116,114,117,101] s with
 | some r=>rfl
 | none=>
 cases pre [102,97,108,115,101] s with
 | some r=>rfl
 | none=>
 cases s with
 | nil=>rfl
 | cons c r=>
  simp only;rw[h c r rfl];rfl
theorem RX {F:Nat}{S u:Af}{cs:List Aa}{g:Bool}(hS:S.length≤100000)(h:Em u S)(hF:S.length<F)(hcs:cs.length≤100000) :
  (∃f w,XX true u=some (f,w)∧Em w S∧IU F (DW S u cs g)=some (true,DW S w (cs++f.flat.map CZ) (g||f.flat.any Ci)))∨(XX true u=none∧∃q',IU F (DW S u cs g)=some (false,q')):=by
 have hA:∀c:Aa,Dw 40 (cs.length+([c]:List Aa).length)=true:=λc=>Aei (by show(cs.length+1)*40≤140737488355328;omega);unfold IU XX;rw[Dj hS h]
 cases h1:pre [110,117,108,108] u with
 | some r=>
  have hr:Em r S:=by rw[Ds h1] at h;exact h.app
  refine .inl ⟨_,r,rfl,hr,?_⟩;simp only;rw[AI rfl,AC rfl];show AQ (Dw 40 (cs.length+([⟨1,0,[],0⟩]:List Aa).length)) (some (true,DW S r (cs++[⟨1,0,[],0⟩]) g))=_;rw[B7 (hA _)];simp[lf,Fo.flat,B4,CZ,Ci]
 | none=>
 simp only;rw[AI rfl,A2 rfl,show(false,DW S u cs g).2=DW S u cs g from rfl,Dj hS h]
 cases h2:pre [116,114,117,101] u with
 | some r=>
  have hr:Em r S:=by rw[Ds h2] at h;exact h.app
  refine .inl ⟨_,r,rfl,hr,?_⟩;simp only;rw[AI rfl,AC rfl];show AQ (Dw 40 (cs.length+([⟨2,1,[],0⟩]:List Aa).length)) (some (true,DW S r (cs++[⟨2,1,[],0⟩]) g))=_;rw[B7 (hA _)];simp[lf,Fo.flat,B4,CZ,Ci]
 | none=>
 simp only;rw[AI rfl,A2 rfl,show(false,DW S u cs g).2=DW S u cs g from rfl,Dj hS h]
 cases h3:pre [102,97,108,115,101] u with
 | some r=>
  have hr:Em r S:=by rw[Ds h3] at h;exact h.app
  refine .inl ⟨_,r,rfl,hr,?_⟩;simp only;rw[AI rfl,AC rfl];show AQ (Dw 40 (cs.length+([⟨2,0,[],0⟩]:List Aa).length)) (some (true,DW S r (cs++[⟨2,0,[],0⟩]) g))=_;rw[B7 (hA _)];simp[lf,Fo.flat,B4,CZ,Ci]
 | none=>
 have hl:=h.len;simp only;rw[AI rfl,A2 rfl,show(false,DW S u cs g).2=DW S u cs g from rfl,show(DW S u cs g).fAt=(S.length:Int)-u.length from rfl,show(DW S u cs g).fS=S from rfl,BN (by omega) (by omega),h.drop,M7,AI rfl,JB]
 cases u with
 | nil=>
  simp only;rw[A2 (p:=(none:Option Af).isSome) rfl];rcases RY (g:=g) hS h hF hcs with⟨f,w,q1,q2,q3⟩ | ⟨q1,q',q2⟩
  ·exact absurd (Pv q1) (by simp)
  ·rw[q2];exact .inr ⟨trivial,_,rfl⟩
 | cons c r=>
  simp only
  cases hc:decide (c=34) with
  | true=>
   simp only[Aek];rw[AC (p:=(some r).isSome) rfl];simp only[Aed] at hc;subst hc;rcases RW (cs:=cs) (g:=g) hS h hF with⟨r',t,w,q1,q2,q3,q4⟩ | ⟨q1,q',q2⟩
   ·cases q1
    rw[q2,q4,AI rfl,A2 (p:=!true) rfl];refine .inl ⟨_,w,rfl,q3,?_⟩;simp only;show AQ (Dw 40 (cs.length+([⟨4,0,t,0⟩]:List Aa).length)) (some (true,DW S w (cs++[⟨4,0,t,0⟩]) g))=_;rw[B7 (hA _)];simp[lf,Fo.flat,B4,CZ,Ci]
   ·rw[q1 r rfl,q2,AI rfl];exact .inr ⟨rfl,_,rfl⟩
  | false=>
   simp only[Aeh];rw[A2 (p:=(none:Option Af).isSome) rfl];rcases RY (g:=g) hS h hF hcs with⟨f,w,q1,q2,q3⟩ | ⟨q1,q',q2⟩
   ·rw[q3,AI rfl];exact .inl ⟨f,w,q1,q2,rfl⟩
   ·rw[q2,AI rfl];exact .inr ⟨q1,_,rfl⟩
theorem Oh {f:Fo}(h:f.one=true)(key:Option Af)(r:Fo):(f.put key r).cnt=r.cnt+1:=by
 cases f with
 | nil=>cases h
 | cell _ _ _=>rfl
 | node _ _ _ _=>rfl
theorem JE (m:Bool)(g:Fo)(h:g.cnt=0→g = .nil):(nd m g).flat=⟨bif m then 6 else 5,0,[],(g.cnt:Int)⟩::g.flat:=by
 unfold nd
 cases hd:decide (g.cnt=0) with
 | true=>
  simp only[Aed] at hd;rw[h hd];rfl
 | false=>simp[Fo.flat,B4]
theorem I9 {g:Fo}(h:g.cnt=0):g = .nil:=by
 cases g with
 | nil=>rfl
 | cell _ _ _=>simp[Fo.cnt] at h
 | node _ _ _ _=>simp[Fo.cnt] at h
theorem Q4 {b m:Bool}{last key:Option Af}{s u:Af}(h:DS b m last s=some (key,u)):(B4 key).length+u.length≤s.length:=by
 unfold DS at h
 cases m with
 | false=>cases h;simp[B4]
 | true=>
  simp only[Aek] at h
  cases s with
  | nil=>cases h
  | cons c r=>
   simp only at h
   cases h1:decide (c=34) with
   | false=>rw[h1] at h;cases h
   | true=>
    rw[h1] at h;simp only[Aek] at h
    cases h2:CC b r with
    | none=>rw[h2] at h;cases h
    | some q=>
     obtain⟨k,w⟩:=q;have:=IY b _ r k w rfl h2;rw[h2] at h;simp only at h
     cases h3:(b&&!B6 true last (some k)) with
     | true=>rw[h3] at h;cases h
     | false=>
      rw[h3] at h;simp only[Aeh] at h
      cases w with
      | nil=>cases h
      | cons d w'=>
       simp only at h
       cases h4:decide (d=58) with
       | false=>rw[h4] at h;cases h
       | true=>rw[h4] at h;cases h;simp only[Aef,B4,AeS] at this ⊢;omega
theorem E8 (b:Bool):∀F:Nat,(∀s f u,Gq b F s=some (f,u)→f.flat.length+u.length≤s.length)∧(∀m last s g u,D6 b F m last s=some (g,u)→g.flat.length+u.length+1≤s.length)
 | 0=>⟨(λs f u h=>by rw[Gq.eq_def] at h;cases h),(λm last s g u h=>by rw[D6.eq_def] at h;cases h)⟩
 | F+1=>by
  obtain⟨ih1,ih2⟩:=E8 b F;have lfl:∀k i t,(lf k i t).flat.length=1:=λ_ _ _=>rfl;constructor
  ·intro s f u h;rw[DM] at h
   cases h1:pre [110,117,108,108] s with
   | some r=>rw[h1] at h;cases h;rw[Ds h1,lfl];simp;omega
   | none=>
   rw[h1] at h;simp only at h
   cases h2:pre [116,114,117,101] s with
   | some r=>rw[h2] at h;cases h;rw[Ds h2,lfl];simp;omega
   | none=>
   rw[h2] at h;simp only at h
   cases h3:pre [102,97,108,115,101] s with
   | some r=>rw[h3] at h;cases h;rw[Ds h3,lfl];simp;omega
   | none=>
   rw[h3] at h;simp only at h
   cases s with
   | nil=>cases h
   | cons c r=>
   simp only at h
   cases h4:decide (c=34) with
   | true=>
    rw[h4] at h;simp only[Aek] at h
    cases h5:CC b r with
    | none=>rw[h5] at h;cases h
    | some q=>
     obtain⟨t,w⟩:=q;rw[h5] at h;cases h;have:=IY b _ r t u rfl h5;rw[lfl];simp only[Aef];omega
   | false=>
   rw[h4] at h;simp only[Aeh] at h
   cases h5:(decide (c=91)||decide (c=123)) with
   | false=>
    rw[h5] at h;simp only[Aeh] at h;have h6:=Pv h;have h7:f.flat.length=1:=by
     unfold HM at h;simp only at h
     cases hc:Ea (decide ((c::r).head? =some 45)) (BV (bif decide ((c::r).head? =some 45) then(c::r).tail else c::r)).1 with
     | false=>rw[hc] at h;cases h
     | true=>rw[hc] at h;cases h;rfl
    omega
   | true=>
   rw[h5] at h;simp only[Aek] at h
   cases r with
   | nil=>cases h
   | cons d r'=>
   simp only at h
   cases h6:decide (d=Bl (decide (c=123))) with
   | true=>rw[h6] at h;cases h;rw[JE _ _ I9];simp[Fo.flat];omega
   | false=>
   rw[h6] at h;simp only[Aeh] at h
   cases h7:D6 b F (decide (c=123)) none (d::r') with
   | none=>rw[h7] at h;cases h
   | some q=>
    obtain⟨g,w⟩:=q;rw[h7] at h;cases h;have:=ih2 _ _ _ _ _ h7;rw[JE _ _ I9];simp only[Aef] at this ⊢;omega
  ·intro m last s g u h;rw[Dz] at h
   cases h1:DS b m last s with
   | none=>rw[h1] at h;cases h
   | some q=>
   obtain⟨key,s1⟩:=q;have l1:=Q4 h1;rw[h1] at h;simp only at h
   cases h2:Gq b F s1 with
   | none=>rw[h2] at h;cases h
   | some q=>
   obtain⟨f,s2⟩:=q;have l2:=ih1 _ _ _ h2;have o2:=((Eg b F).1 _ _ _ h2).2;rw[h2] at h;simp only at h
   cases s2 with
   | nil=>cases h
   | cons c s3=>
   simp only[Aef] at l2;simp only at h
   cases h3:decide (c=Bl m) with
   | true=>rw[h3] at h;cases h;rw[E7 o2,Aen,Aen];simp only[Fo.flat,AeS];omega
   | false=>
   rw[h3] at h;simp only[Aeh] at h
   cases h4:decide (c=44) with
   | false=>rw[h4] at h;cases h
   | true=>
   rw[h4] at h;simp only[Aek] at h
   cases h5:D6 b F m key s3 with
   | none=>rw[h5] at h;cases h
   | some q=>
    obtain⟨g',w⟩:=q;rw[h5] at h;cases h;have:=ih2 _ _ _ _ _ h5;rw[E7 o2,Aen,Aen];omega
theorem UN {α:Type}(xs D:List α)(a b:α):List.set (xs++a::D) (Int.toNat (xs.length:Int)) b=xs++b::D:=by
 rw[show Int.toNat (xs.length:Int)=xs.length from by omega,List.set_append_right _ _ (AeA _)];simp
theorem Aah {α:Type}[Inhabited α](xs D:List α)(a:α):Aq (xs++a::D) (xs.length:Int)=a:=by simp[Aq]
def VOk (F P:Nat)(S u:Af)(cs:List Aa)(g:Bool):Prop:=
 (∃f w,Gq true P u=some (f,w)∧Em w S∧CB F (DW S u cs g)=some (true,DW S w (cs++f.flat.map CZ) (g||f.flat.any Ci)))∨(Gq true P u=none∧∃q',CB F (DW S u cs g)=some (false,q'))
abbrev LB2 (F:Nat)(x16:List Aa):Int×Af×Int×List Aa×Bool→Option (Stp (Int×Af×Int×List Aa×Bool) (Out (Bool×Az) Unit)):=λσ=>Gm (CB F) x16 σ.1 σ.2.1 σ.2.2.1 σ.2.2.2.1 σ.2.2.2.2
abbrev LB3 (F:Nat)(x16:List Aa):Af×Int×Af×Int×List Aa×Bool→Option (Stp (Af×Int×Af×Int×List Aa×Bool) (Out (Bool×Az) Unit)):=λσ=>Gl F (CB F) x16 σ.1 σ.2.1 σ.2.2.1 σ.2.2.2.1 σ.2.2.2.2.1 σ.2.2.2.2.2
def Xv (P:Nat)(m:Bool)(last:Option Af)(S u:Af)(x16 D:List Aa)(k:Int)(g:Bool)(o:Out (Bool×Az) Unit):Prop:=
 (∃G w,D6 true P m last u=some (G,w)∧Em w S∧o = .ret (true,DW S w (x16++⟨bif m then 6 else 5,0,[],k-1+(G.cnt:Int)⟩::(D++G.flat.map CZ)) (g||G.flat.any Ci)))∨(D6 true P m last u=none∧∃q',o = .ret (false,q'))
theorem Aby (k:Option Af):(B4 k).map CZ=B4 k∧(B4 k).any Ci=false:=by
 cases k with
 | none=>exact⟨rfl,rfl⟩
 | some s=>exact⟨by simp[B4,CZ,Ci],by simp[B4,Ci]⟩
theorem Xv.join {P:Nat}{m:Bool}{last key:Option Af}{S u s1 s2:Af}{x16 D:List Aa}{k:Int}{g:Bool}{o:Out (Bool×Az) Unit}{f:Fo}(hk:DS true m last u=some (key,s1))(hf:Gq true P s1=some (f,s2))(ho:f.one=true)
  (h:(∃s3,s2=Bl m::s3∧Em s3 S∧o = .ret (true,DW S s3 (x16++⟨bif m then 6 else 5,0,[],k⟩::(D++(B4 key++f.flat.map CZ))) (g||f.flat.any Ci)))∨(∃s3,s2=44::s3∧Xv P m key S s3 x16 (D++(B4 key++f.flat.map CZ)) (k+1) (g||f.flat.any Ci) o)∨((∀c s3,s2=c::s3→decide (c=Bl m)=false∧decide (c=44)=false)∧∃q',o = .ret (false,q'))):Xv (P+1) m last S u x16 D k g o:=by
 obtain⟨fk1,fk2⟩:=Aby key;unfold Xv;rw[Dz,hk];simp only[hf];have ha:decide ((44:UInt8)=Bl m)=false:=by cases m<;>rfl
 rcases h with⟨s3,rfl,h1,h2⟩ | ⟨s3,rfl,h⟩ | ⟨h1,h2⟩
 ·simp only[decide_true,Aek];refine .inl ⟨_,s3,rfl,h1,?_⟩;rw[h2,Oh ho,E7 ho];simp only[Fo.flat,Fo.cnt,AeF,Afj,List.any_append,fk1,fk2,Aew]
  congr 6
  omega
 ·simp only[ha,Aeh,decide_true,Aek];rcases h with⟨G,w,q1,q2,q3⟩ | ⟨q1,q2⟩
  ·rw[q1];refine .inl ⟨_,w,rfl,q2,?_⟩;rw[q3,Oh ho,E7 ho];simp only[Afj,List.any_append,fk1,fk2,Aew,Bool.or_assoc,Ae5]
   congr 6
   omega
  ·rw[q1];exact .inr ⟨rfl,q2⟩
 ·refine .inr ⟨?_,h2⟩
  cases s2 with
  | nil=>rfl
  | cons c s3=>
   obtain⟨a,b⟩:=h1 c s3 rfl;simp only[a,b,Aeh]
theorem Or (S u:Af)(cs:List Aa)(g:Bool):Az.mk S ((S.length:Int)-u.length) cs g=DW S u cs g:=rfl
theorem On {o:Out (Bool×Az) Unit}{r:Bool×Az}{K:Unit→Option (Bool×Az)}(h:o = .ret r):BE K o=some r:=by rw[h];rfl
theorem Ld {α:Type}{n:Nat}{x:Option α}(h:n≤1000000):AQ (Dw 40 n) x=x:=B7 (Aei (by omega))
theorem Ur {F P:Nat}{S u:Af}{x16 D:List Aa}{k:Int}{g:Bool}(hS:S.length≤100000)(hs:Em u S)(hk1:1≤k)(hk2:k≤200000)(hV:VOk F P S u (x16++⟨5,0,[],k-1⟩::D) g) :
  (∃q',LB2 F x16 (k,S,(S.length:Int)-u.length,x16++⟨5,0,[],k-1⟩::D,g)=some (.out (.ret (false,q')))∧(Gq true P u=none∨∃f s2,Gq true P u=some (f,s2)∧∀c s3,s2=c::s3→decide (c=Bl false)=false∧decide (c=44)=false))∨
  ∃f s2,Gq true P u=some (f,s2)∧Em s2 S∧((∃s3,s2=Bl false::s3∧LB2 F x16 (k,S,(S.length:Int)-u.length,x16++⟨5,0,[],k-1⟩::D,g)=some (.out (.ret (true,DW S s3 (x16++⟨5,0,[],k⟩::(D++f.flat.map CZ)) (g||f.flat.any Ci)))))∨
   (∃s3,s2=44::s3∧LB2 F x16 (k,S,(S.length:Int)-u.length,x16++⟨5,0,[],k-1⟩::D,g)=some (.next (k+1,S,(S.length:Int)-s3.length,x16++⟨5,0,[],k⟩::(D++f.flat.map CZ),g||f.flat.any Ci)))):=by
 have hb:LB2 F x16 (k,S,(S.length:Int)-u.length,x16++⟨5,0,[],k-1⟩::D,g)=Gm (CB F) x16 k S ((S.length:Int)-u.length) (x16++⟨5,0,[],k-1⟩::D) g:=rfl;rw[hb];unfold Gm;rw[Or];rcases hV with⟨f,s2,q1,q2,q3⟩ | ⟨q1,q',q2⟩
 ·have ec:(x16++⟨5,0,[],k-1⟩::D)++f.flat.map CZ=x16++⟨5,0,[],k-1⟩::(D++f.flat.map CZ):=by simp
  rw[ec] at q3;rw[q3,AI rfl,A2 (p:=!true) rfl];have hin:Cw (x16.length:Int) (((x16++(⟨5,0,[],k-1⟩:Aa)::(D++f.flat.map CZ)).length:Nat):Int)=true:=Li (by omega) (by rw[Aen,Aef];omega);have e1:(true,DW S s2 (x16++⟨5,0,[],k-1⟩::(D++f.flat.map CZ)) (g||f.flat.any Ci)).2.fCells=x16++⟨5,0,[],k-1⟩::(D++f.flat.map CZ):=rfl;rw[e1,B7 hin,Aah,UN,GN];have e2:Az.mk (true,DW S s2 (x16++⟨5,0,[],k-1⟩::(D++f.flat.map CZ)) (g||f.flat.any Ci)).2.fS (true,DW S s2 (x16++⟨5,0,[],k-1⟩::(D++f.flat.map CZ)) (g||f.flat.any Ci)).2.fAt (x16++⟨5,0,[],k⟩::(D++f.flat.map CZ)) (true,DW S s2 (x16++⟨5,0,[],k-1⟩::(D++f.flat.map CZ)) (g||f.flat.any Ci)).2.fGreat=DW S s2 (x16++⟨5,0,[],k⟩::(D++f.flat.map CZ)) (g||f.flat.any Ci):=rfl;rw[e2,Dj hS q2,JB]
  cases s2 with
  | nil=>
   simp only;rw[AI rfl,A2 rfl,Dj hS q2,JB];exact .inl ⟨_,rfl,.inr ⟨f,[],q1,λc s3 e=>by cases e⟩⟩
  | cons c s3=>
   simp only
   cases ha:decide (c=93) with
   | true=>
    simp only[Aed] at ha;subst ha;exact .inr ⟨f,_,q1,q2,.inl ⟨s3,rfl,rfl⟩⟩
   | false=>
    simp only[Aeh];rw[AI rfl,A2 rfl,Dj hS q2,JB];simp only
    cases hd:decide (c=44) with
    | true=>
     simp only[Aed] at hd;subst hd;simp only[Aek];rw[AI rfl,A2 (p:=!true) rfl,A4 (by omega) (by omega)];exact .inr ⟨f,_,q1,q2,.inr ⟨s3,rfl,rfl⟩⟩
    | false=>
     exact .inl ⟨_,rfl,.inr ⟨f,_,q1,λc' s3' e=>by cases e;exact⟨ha,hd⟩⟩⟩
 ·rw[q2,AI rfl];exact .inl ⟨q',rfl,.inl q1⟩
theorem YQ {F P:Nat}{S u:Af}{x16 D:List Aa}{k:Int}{g b1 b2:Bool}{r:Af×Bool×Az}(hS:S.length≤100000)(hs:Em u S)(hk1:1≤k)(hk2:k≤200000)(hD:x16.length+D.length≤200000)(hV:VOk F P S u (x16++⟨6,0,[],k-1⟩::(D++[⟨4,0,r.1,0⟩])) g) :
  (∃q',C2 (CB F) x16 k r b1 b2 false S ((S.length:Int)-u.length) (x16++⟨6,0,[],k-1⟩::D) g=some (.out (.ret (false,q')))∧(Gq true P u=none∨∃f s2,Gq true P u=some (f,s2)∧∀c s3,s2=c::s3→decide (c=Bl true)=false∧decide (c=44)=false))∨
  ∃f s2,Gq true P u=some (f,s2)∧Em s2 S∧((∃s3,s2=Bl true::s3∧C2 (CB F) x16 k r b1 b2 false S ((S.length:Int)-u.length) (x16++⟨6,0,[],k-1⟩::D) g=some (.out (.ret (true,DW S s3 (x16++⟨6,0,[],k⟩::(D++([⟨4,0,r.1,0⟩]++f.flat.map CZ))) (g||f.flat.any Ci)))))∨
   (∃s3,s2=44::s3∧C2 (CB F) x16 k r b1 b2 false S ((S.length:Int)-u.length) (x16++⟨6,0,[],k-1⟩::D) g=some (.next (r.1,k+1,S,(S.length:Int)-s3.length,x16++⟨6,0,[],k⟩::(D++([⟨4,0,r.1,0⟩]++f.flat.map CZ)),g||f.flat.any Ci)))):=by
 unfold C2;have e0:(x16++⟨6,0,[],k-1⟩::D)++([⟨4,0,r.1,0⟩]:List Aa)=x16++⟨6,0,[],k-1⟩::(D++[⟨4,0,r.1,0⟩]):=by simp
 rw[A2 rfl,Ld (by rw[Aen,Aef,AeC];omega),e0,Or];rcases hV with⟨f,s2,q1,q2,q3⟩ | ⟨q1,q',q2⟩
 ·have ec:(x16++⟨6,0,[],k-1⟩::(D++[⟨4,0,r.1,0⟩]))++f.flat.map CZ=x16++⟨6,0,[],k-1⟩::(D++([⟨4,0,r.1,0⟩]++f.flat.map CZ)):=by simp
  rw[ec] at q3;rw[q3,AI rfl,A2 (p:=!true) rfl];have hin:Cw (x16.length:Int) (((x16++(⟨6,0,[],k-1⟩:Aa)::(D++([⟨4,0,r.1,0⟩]++f.flat.map CZ))).length:Nat):Int)=true:=Li (by omega) (by rw[Aen,Aef];omega);have e1:(true,DW S s2 (x16++⟨6,0,[],k-1⟩::(D++([⟨4,0,r.1,0⟩]++f.flat.map CZ))) (g||f.flat.any Ci)).2.fCells=x16++⟨6,0,[],k-1⟩::(D++([⟨4,0,r.1,0⟩]++f.flat.map CZ)):=rfl;rw[e1,B7 hin,Aah,UN,GN];have e2:Az.mk (true,DW S s2 (x16++⟨6,0,[],k-1⟩::(D++([⟨4,0,r.1,0⟩]++f.flat.map CZ))) (g||f.flat.any Ci)).2.fS (true,DW S s2 (x16++⟨6,0,[],k-1⟩::(D++([⟨4,0,r.1,0⟩]++f.flat.map CZ))) (g||f.flat.any Ci)).2.fAt (x16++⟨6,0,[],k⟩::(D++([⟨4,0,r.1,0⟩]++f.flat.map CZ))) (true,DW S s2 (x16++⟨6,0,[],k-1⟩::(D++([⟨4,0,r.1,0⟩]++f.flat.map CZ))) (g||f.flat.any Ci)).2.fGreat=DW S s2 (x16++⟨6,0,[],k⟩::(D++([⟨4,0,r.1,0⟩]++f.flat.map CZ))) (g||f.flat.any Ci):=rfl;rw[e2,Dj hS q2,JB]
  cases s2 with
  | nil=>
   simp only;rw[AI rfl,A2 rfl,Dj hS q2,JB];exact .inl ⟨_,rfl,.inr ⟨f,[],q1,λc s3 e=>by cases e⟩⟩
  | cons c s3=>
   simp only
   cases ha:decide (c=125) with
   | true=>
    simp only[Aed] at ha;subst ha;exact .inr ⟨f,_,q1,q2,.inl ⟨s3,rfl,rfl⟩⟩
   | false=>
    simp only[Aeh];rw[AI rfl,A2 rfl,Dj hS q2,JB];simp only
    cases hb:decide (c=44) with
    | true=>
     simp only[Aed] at hb;subst hb;simp only[Aek];rw[AI rfl,A2 (p:=!true) rfl,A4 (by omega) (by omega)];exact .inr ⟨f,_,q1,q2,.inr ⟨s3,rfl,rfl⟩⟩
    | false=>
     exact .inl ⟨_,rfl,.inr ⟨f,_,q1,λc' s3' e=>by cases e;exact⟨ha,hb⟩⟩⟩
 ·rw[q2,AI rfl];exact .inl ⟨q',rfl,.inl q1⟩
def AbA (t:Af):Af→Option (Option Af×Af)
 | []=>none
 | d::u'=>bif decide (d=58) then some (some t,u') else none
theorem M0 (b:Bool)(last:Option Af)(r:Af):DS b true last (34::r)=match CC b r with
  | none=>none
  | some (k,u)=>bif b&&!B6 true last (some k) then none else AbA k u:=by
 show(match CC b r with
   | none=>none
   | some (k,u)=>bif b&&!B6 true last (some k) then none else(match u with
    | []=>none
    | d::u'=>bif decide (d=58) then some (some k,u') else none))=_
 cases CC b r with
 | none=>rfl
 | some q=>obtain⟨k,u⟩:=q;cases u<;>rfl
theorem Vq (b:Bool)(last:Option Af){u:Af}(h:∀r,u=34::r→CC b r=none):DS b true last u=none:=by
 cases u with
 | nil=>rfl
 | cons c r=>
  by_cases hc:c=34
  ·subst hc;rw[M0,h r rfl]
  ·show(bif decide (c=34) then _ else none)=none;rw[Aeg hc];rfl
theorem Q1 {F:Nat}{S w t:Af}{x16 cs:List Aa}{k:Int}{g:Bool}(b1 b2:Bool)(hS:S.length≤100000)(hw:Em w S) :
  (∃q',Br (Ew (t,true,DW S w cs g).2.2 ([58]:Af)) (λha=>C2 (CB F) x16 k (t,true,DW S w cs g) b1 b2 (!ha.1) ha.2.fS ha.2.fAt ha.2.fCells ha.2.fGreat)=some (.out (.ret (false,q')))∧AbA t w=none)∨
  ∃s1,w=58::s1∧AbA t w=some (some t,s1)∧Br (Ew (t,true,DW S w cs g).2.2 ([58]:Af)) (λha=>C2 (CB F) x16 k (t,true,DW S w cs g) b1 b2 (!ha.1) ha.2.fS ha.2.fAt ha.2.fCells ha.2.fGreat)=C2 (CB F) x16 k (t,true,DW S w cs g) b1 b2 false S ((S.length:Int)-s1.length) cs g:=by
 rw[show(t,true,DW S w cs g).2.2=DW S w cs g from rfl,Dj hS hw,JB]
 cases w with
 | nil=>exact .inl ⟨_,rfl,rfl⟩
 | cons d s1=>
  by_cases hd:d=58
  ·subst hd;exact .inr ⟨s1,rfl,rfl,rfl⟩
  ·simp only[Aeg hd,Aeh];refine .inl ⟨_,rfl,?_⟩;show(bif decide (d=58) then _ else none)=none;rw[Aeg hd];rfl
theorem Abf {F:Nat}{S u last:Af}{x16 cs:List Aa}{k:Int}{g:Bool}(hS:S.length≤100000)(hs:Em u S)(hF:S.length<F) :
  (DS true true (bif decide (1<k) then some last else none) u=none∧∃q',LB3 F x16 (last,k,S,(S.length:Int)-u.length,cs,g)=some (.out (.ret (false,q'))))∨
  ∃t s1 b1 b2 q0,DS true true (bif decide (1<k) then some last else none) u=some (some t,s1)∧Em s1 S∧s1.length+2≤u.length∧LB3 F x16 (last,k,S,(S.length:Int)-u.length,cs,g)=C2 (CB F) x16 k (t,true,q0) b1 b2 false S ((S.length:Int)-s1.length) cs g:=by
 have hb:LB3 F x16 (last,k,S,(S.length:Int)-u.length,cs,g)=Gl F (CB F) x16 last k S ((S.length:Int)-u.length) cs g:=rfl;rw[hb];unfold Gl;rw[Or];rcases RW (cs:=cs) (g:=g) hS hs hF with⟨r,t,w,q1,q2,q3,q4⟩ | ⟨q1,q',q2⟩
 ·rw[q4,AI rfl,A2 (p:=!true) rfl];subst q1;have hok:=AaE _ r t w rfl q2;have hwl:=IY true _ r t w rfl q2;rw[M0,q2];simp only[Aer]
  cases h1:decide (1<k) with
  | true=>
   rw[AC rfl];simp only[Aek];have hko:B6 true (some last) (some t) = !(BR t last||decide (t=last)):=by simp[B6,hok]
   rw[hko,Bool.not_not]
   cases hlt:(BR t last||decide (t=last)) with
   | true=>
    rw[AC rfl];exact .inl ⟨rfl,_,rfl⟩
   | false=>
    rw[A2 rfl];simp only[Aeh];rcases Q1 (F:=F) (cs:=cs) (g:=g) (x16:=x16) (k:=k) (t:=t) false false hS q3 with⟨q',c1,c2⟩ | ⟨s1,c1,c2,c3⟩
    ·exact .inl ⟨c2,q',c1⟩
    ·subst c1;exact .inr ⟨t,s1,false,false,DW S (58::s1) cs g,c2,q3.tail,by simp only[Aef] at hwl ⊢;omega,c3⟩
  | false=>
   rw[A2 rfl];simp only[Aeh];have hko:B6 true none (some t)=true:=by simp[B6,hok]
   rw[hko];simp only[Aes,Aeh];rcases Q1 (F:=F) (cs:=cs) (g:=g) (x16:=x16) (k:=k) (t:=t) false false hS q3 with⟨q',c1,c2⟩ | ⟨s1,c1,c2,c3⟩
   ·exact .inl ⟨c2,q',c1⟩
   ·subst c1;exact .inr ⟨t,s1,false,false,DW S (58::s1) cs g,c2,q3.tail,by simp only[Aef] at hwl ⊢;omega,c3⟩
 ·rw[q2,AI rfl];exact .inl ⟨Vq _ _ q1,_,rfl⟩
def PE (b:Bool)(F:Nat)(m:Bool):Af→Option (Fo×Af)
 | []=>none
 | d::r'=>bif decide (d=Bl m) then some (nd m .nil,r') else(match D6 b F m none (d::r') with
  | none=>none
  | some (g,u)=>some (nd m g,u))
theorem Ic (b:Bool)(F:Nat)(m:Bool)(d:UInt8)(r':Af):PE b F m (d::r')=bif decide (d=Bl m) then some (nd m .nil,r') else(match D6 b F m none (d::r') with
  | none=>none
  | some (g,u)=>some (nd m g,u)):=rfl
theorem Ui (b:Bool)(F:Nat)(r:Af)(m:Bool):Gq b (F+1) ((bif m then 123 else 91)::r)=PE b F m r:=by
 rw[DM]
 cases m<;>cases r<;>rfl
theorem YU {S:Af}(hS:S.length≤100000):∀n:Nat,
  (∀(F P:Nat) (u:Af) (cs:List Aa) (g:Bool),u.length=n→Em u S→S.length+n+5<F→2*n+2≤P→cs.length+n≤S.length→VOk F P S u cs g)∧
  (∀(F P L:Nat) (u:Af) (x16 D:List Aa) (k:Int) (g:Bool),u.length=n→Em u S→S.length+n+5<F→2*n+3≤P→n<L→x16.length+1+D.length+n≤S.length→1≤k→k+n≤S.length+1→∃o,BJ (LB2 F x16) L (k,S,(S.length:Int)-u.length,x16++⟨5,0,[],k-1⟩::D,g)=some o∧Xv P false none S u x16 D k g o)∧
  (∀(F P L:Nat) (u last:Af) (x16 D:List Aa) (k:Int) (g:Bool),u.length=n→Em u S→S.length+n+5<F→2*n+3≤P→n<L→x16.length+1+D.length+n≤S.length→1≤k→k+n≤S.length+1→∃o,BJ (LB3 F x16) L (last,k,S,(S.length:Int)-u.length,x16++⟨6,0,[],k-1⟩::D,g)=some o∧Xv P true (bif decide (1<k) then some last else none) S u x16 D k g o):=by
 intro n
 induction n using Nat.strongRecOn with
 | ind n ih=>
 have hV:∀(F P:Nat) (u:Af) (cs:List Aa) (g:Bool),u.length=n→Em u S→S.length+n+5<F→2*n+2≤P→cs.length+n≤S.length→VOk F P S u cs g:=by
  intro F P u cs g hn hs hF hP hcs;obtain⟨F,rfl⟩:∃K,F=K+1:=⟨F-1,by omega⟩
  obtain⟨P,rfl⟩:∃K,P=K+1:=⟨P-1,by omega⟩
  unfold VOk;rw[CB];unfold LR;rw[Dj hS hs,JB];have hsc:(∀c r,u=c::r→(decide (c=91)||decide (c=123))=false)→∀r1:Bool×Az,(∃f w,Gq true (P+1) u=some (f,w)∧Em w S∧Ex F (CB F) r1 true S ((S.length:Int)-u.length) cs g=some (true,DW S w (cs++f.flat.map CZ) (g||f.flat.any Ci)))∨(Gq true (P+1) u=none∧∃q',Ex F (CB F) r1 true S ((S.length:Int)-u.length) cs g=some (false,q')):=λhc r1=>by
   rw[Y3 true P hc];unfold Ex;rw[AC rfl,Or];rcases RX (F:=F) (cs:=cs) (g:=g) hS hs (by omega) (by omega) with⟨f,w,q1,q2,q3⟩ | ⟨q1,q',q2⟩
   ·rw[q3,AI rfl];exact .inl ⟨f,w,q1,q2,rfl⟩
   ·rw[q2,AI rfl];exact .inr ⟨q1,q',rfl⟩
  have hsl:=hs.len
  cases u with
  | nil=>
   simp only;rw[AI rfl,AC (p:=!false) rfl,show(false,DW S [] cs g).2=DW S [] cs g from rfl,Dj hS hs,JB,AI rfl];exact hsc (λc r e=>by cases e) _
  | cons c r=>
   simp only[Aef] at hn hsl;simp only;have hbr:∀m:Bool,c=(bif m then 123 else 91)→∀body:Option (Bool×Az),body=(AQ (Dw 40 (cs.length+([⟨bif m then 6 else 5,0,[],0⟩]:List Aa).length))<|Br (Ew (DW S r (cs++[⟨bif m then 6 else 5,0,[],0⟩]) g) ([Bl m]:Af)) λha=>Bi ha.1 (some (true,ha.2)) (bif m then Br (BJ (LB3 F cs) F ([],1,ha.2.fS,ha.2.fAt,ha.2.fCells,ha.2.fGreat)) (BE λ_=>Ik) else Br (BJ (LB2 F cs) F (1,ha.2.fS,ha.2.fAt,ha.2.fCells,ha.2.fGreat)) (BE λ_=>Il)))→
     (∃f w,Gq true (P+1) (c::r)=some (f,w)∧Em w S∧body=some (true,DW S w (cs++f.flat.map CZ) (g||f.flat.any Ci)))∨(Gq true (P+1) (c::r)=none∧∃q',body=some (false,q')):=λm hc body hbody=>by
    rw[hbody,hc,Ui,Ld (by rw[AeC];omega),Dj hS hs.tail,JB];have hfh:CZ ⟨bif m then 6 else 5,0,[],0⟩=⟨bif m then 6 else 5,0,[],0⟩∧∀N,Ci ⟨bif m then 6 else 5,0,[],N⟩=false:=by cases m<;>exact⟨rfl,λ_=>rfl⟩
    have hfn:∀N,CZ ⟨bif m then 6 else 5,0,[],N⟩=⟨bif m then 6 else 5,0,[],N⟩:=λN=>by cases m<;>rfl
    have hloop:∀o:Out (Bool×Az) Unit,Xv P m none S r cs [] 1 g o→(r=[]∨∃d r',r=d::r'∧decide (d=Bl m)=false)→
      (∃f w,PE true P m r=some (f,w)∧Em w S∧o = .ret (true,DW S w (cs++f.flat.map CZ) (g||f.flat.any Ci)))∨(PE true P m r=(none:Option (Fo×Af))∧∃q',o = .ret (false,q')):=λo ho hr=>by
     rcases hr with rfl | ⟨d,r',rfl,hd⟩
     ·rcases ho with⟨G,w,q1,_,_⟩ | ⟨_,q2⟩
      ·exact absurd ((Eg true P).2 _ _ _ _ _ q1).1 (by simp)
      ·exact .inr ⟨rfl,q2⟩
     ·rw[Ic,hd];simp only[Aeh];rcases ho with⟨G,w,q1,q2,q3⟩ | ⟨q1,q2⟩
      ·rw[q1];refine .inl ⟨_,w,rfl,q2,?_⟩;rw[q3,JE _ _ I9,AeR,List.any_cons,hfn,hfh.2,Aew,AeE,show(1:Int)-1+(G.cnt:Int)=G.cnt from by omega]
      ·rw[q1];exact .inr ⟨rfl,q2⟩
    have hrest:(r=[]∨∃d r',r=d::r'∧decide (d=Bl m)=false)→(∃f w,PE true P m r=some (f,w)∧Em w S∧(bif m then Br (BJ (LB3 F cs) F ([],1,S,(S.length:Int)-r.length,cs++[⟨bif m then 6 else 5,0,[],0⟩],g)) (BE λ_=>Ik) else Br (BJ (LB2 F cs) F (1,S,(S.length:Int)-r.length,cs++[⟨bif m then 6 else 5,0,[],0⟩],g)) (BE λ_=>Il))=some (true,DW S w (cs++f.flat.map CZ) (g||f.flat.any Ci)))∨(PE true P m r=(none:Option (Fo×Af))∧∃q',(bif m then Br (BJ (LB3 F cs) F ([],1,S,(S.length:Int)-r.length,cs++[⟨bif m then 6 else 5,0,[],0⟩],g)) (BE λ_=>Ik) else Br (BJ (LB2 F cs) F (1,S,(S.length:Int)-r.length,cs++[⟨bif m then 6 else 5,0,[],0⟩],g)) (BE λ_=>Il))=some (false,q')):=λhr=>by
     cases m with
     | true=>
      obtain⟨o,ho1,ho2⟩:=(ih r.length (by omega)).2.2 F P F r [] cs [] 1 g rfl hs.tail (by omega) (by omega) (by omega) (by simp;omega) (by decide) (by omega);simp only[Aek];have ho1':BJ (LB3 F cs) F ([],1,S,(S.length:Int)-r.length,cs++[⟨6,0,[],0⟩],g)=some o:=ho1;rw[AI ho1'];rcases hloop o ho2 hr with⟨f,w,q1,q2,q3⟩ | ⟨q1,q',q2⟩
      ·exact .inl ⟨f,w,q1,q2,On q3⟩
      ·exact .inr ⟨q1,q',On q2⟩
     | false=>
      obtain⟨o,ho1,ho2⟩:=(ih r.length (by omega)).2.1 F P F r cs [] 1 g rfl hs.tail (by omega) (by omega) (by omega) (by simp;omega) (by decide) (by omega);simp only[Aeh];have ho1':BJ (LB2 F cs) F (1,S,(S.length:Int)-r.length,cs++[⟨5,0,[],0⟩],g)=some o:=ho1;rw[AI ho1'];rcases hloop o ho2 hr with⟨f,w,q1,q2,q3⟩ | ⟨q1,q',q2⟩
      ·exact .inl ⟨f,w,q1,q2,On q3⟩
      ·exact .inr ⟨q1,q',On q2⟩
    cases r with
    | nil=>
     simp only;rw[AI rfl,A2 rfl];exact hrest (.inl rfl)
    | cons d r'=>
     simp only
     cases hd:decide (d=Bl m) with
     | true=>
      simp only[Aek];rw[AI rfl,AC rfl];refine .inl ⟨_,r',by rw[Ic,hd];rfl,hs.tail.tail,?_⟩;rw[JE _ _ I9];simp only[Fo.flat,Fo.cnt,AeR,List.map_nil,List.any_cons,List.any_nil,Ae6];rw[show((0:Nat):Int)=0 from rfl,hfh.1,hfh.2,Ae6]
     | false=>
      simp only[Aeh];rw[AI rfl,A2 rfl];exact hrest (.inr ⟨d,r',rfl,hd⟩)
   cases he:decide (c=91) with
   | true=>
    simp only[Aed] at he;simp only[Aek];rw[AI rfl,A2 (p:=!true) rfl];exact hbr false he _ rfl
   | false=>
    simp only[Aeh];rw[AI rfl,AC (p:=!false) rfl,show(false,DW S (c::r) cs g).2=DW S (c::r) cs g from rfl,Dj hS hs,JB];simp only
    cases hg:decide (c=123) with
    | true=>
     simp only[Aed] at hg;simp only[Aek];rw[AI rfl];exact hbr true hg _ rfl
    | false=>
     simp only[Aeh];rw[AI rfl];exact hsc (λc' r' e=>by cases e;rw[he,hg];rfl) _
 refine⟨hV,?_,?_⟩
 ·intro F P L u x16 D k g hn hs hF hP hL hb hk1 hk2;obtain⟨P,rfl⟩:∃K,P=K+1:=⟨P-1,by omega⟩
  obtain⟨L,rfl⟩:∃K,L=K+1:=⟨L-1,by omega⟩
  have hsl:=hs.len;have hv:=hV F P u (x16++⟨5,0,[],k-1⟩::D) g hn hs hF (by omega) (by simp;omega);have hkp:DS true false none u=some (none,u):=rfl;rcases Ur hS hs hk1 (by omega) hv with⟨q',hb1,hf⟩ | ⟨f,s2,q1,q2,h⟩
  ·refine⟨_,Dn hb1,?_⟩;rcases hf with hf | ⟨f,s2,hf,hno⟩
   ·refine .inr ⟨?_,q',rfl⟩;rw[Dz,hkp];simp only[hf]
   ·exact Xv.join hkp hf ((Eg true P).1 _ _ _ hf).2 (.inr (.inr ⟨hno,q',rfl⟩))
  ·obtain⟨l1,ho⟩:=(Eg true P).1 _ _ _ q1;have l2:=(E8 true P).1 _ _ _ q1;rcases h with⟨s3,e,hb1⟩ | ⟨s3,e,hb1⟩
   ·subst e;exact⟨_,Dn hb1,Xv.join hkp q1 ho (.inl ⟨s3,rfl,q2.tail,rfl⟩)⟩
   ·subst e;simp only[Aef] at l1 l2;obtain⟨o,ho1,ho2⟩:=(ih s3.length (by omega)).2.1 F P L s3 x16 (D++f.flat.map CZ) (k+1) (g||f.flat.any Ci) rfl q2.tail (by omega) (by omega) (by omega) (by rw[Aen,Aey];omega) (by omega) (by omega);rw[show k+1-1=k from by omega] at ho1;exact⟨o,GL hb1 ho1,Xv.join hkp q1 ho (.inr (.inl ⟨s3,rfl,ho2⟩))⟩
 ·intro F P L u last x16 D k g hn hs hF hP hL hb hk1 hk2;obtain⟨P,rfl⟩:∃K,P=K+1:=⟨P-1,by omega⟩
  obtain⟨L,rfl⟩:∃K,L=K+1:=⟨L-1,by omega⟩
  have hsl:=hs.len;rcases Abf (last:=last) (x16:=x16) (cs:=x16++⟨6,0,[],k-1⟩::D) (k:=k) (g:=g) hS hs (F:=F) (by omega) with⟨hk,q',hb1⟩ | ⟨t,s1,b1,b2,q0,hk,hs1,hl1,hb0⟩
  ·refine⟨_,Dn hb1,.inr ⟨?_,q',rfl⟩⟩;rw[Dz,hk]
  ·have hv:=(ih s1.length (by omega)).1 F P s1 (x16++⟨6,0,[],k-1⟩::(D++[⟨4,0,t,0⟩])) g rfl hs1 (by omega) (by omega) (by simp;omega);rcases YQ (r:=(t,true,q0)) (b1:=b1) (b2:=b2) hS hs1 hk1 (by omega) (by omega) hv with⟨q',hb1,hf⟩ | ⟨f,s2,q1,q2,h⟩
   ·refine⟨_,Dn (hb0.trans hb1),?_⟩;rcases hf with hf | ⟨f,s2,hf,hno⟩
    ·refine .inr ⟨?_,q',rfl⟩;rw[Dz,hk];simp only[hf]
    ·exact Xv.join hk hf ((Eg true P).1 _ _ _ hf).2 (.inr (.inr ⟨hno,q',rfl⟩))
   ·obtain⟨l1,ho⟩:=(Eg true P).1 _ _ _ q1;have l2:=(E8 true P).1 _ _ _ q1;rcases h with⟨s3,e,hb1⟩ | ⟨s3,e,hb1⟩
    ·subst e;exact⟨_,Dn (hb0.trans hb1),Xv.join hk q1 ho (.inl ⟨s3,rfl,q2.tail,rfl⟩)⟩
    ·subst e;simp only[Aef] at l1 l2;obtain⟨o,ho1,ho2⟩:=(ih s3.length (by omega)).2.2 F P L s3 t x16 (D++([⟨4,0,t,0⟩]++f.flat.map CZ)) (k+1) (g||f.flat.any Ci) rfl q2.tail (by omega) (by omega) (by omega) (by rw[Aen,Aen,Aey,AeC];omega) (by omega) (by omega);rw[show k+1-1=k from by omega] at ho1;rw[show decide (1<k+1)=true from Aei (by omega)] at ho2;exact⟨o,GL (hb0.trans hb1) ho1,Xv.join hk q1 ho (.inr (.inl ⟨s3,rfl,ho2⟩))⟩
theorem TM {S:Af}(hS:S.length≤100000){F P:Nat}(hF:2*S.length+6≤F)(hP:2*S.length+2≤P):VOk F P S S [] false:=
 (YU hS S.length).1 F P S [] false rfl ⟨[],rfl⟩ (by omega) hP (by simp)
theorem Dg {S u w:Af}(hS:S.length≤100000)(hw:w.length≤100)(h:Em u S):B2 S ((S.length:Int)-u.length) w=some (pre w u).isSome:=by
 have hl:=h.len;unfold B2;rw[A4 (by omega) (by omega)];have e:∀b:Bool,(decide ((S.length:Int)-u.length+w.length≤(S.length:Int))=true→b=true)→imp (decide ((S.length:Int)-u.length+w.length≤(S.length:Int))) b=true:=λb hb=>by
  cases hd:decide ((S.length:Int)-u.length+w.length≤(S.length:Int)) with
  | false=>rfl
  | true=>rw[hb hd];rfl
 rw[B7 (e _ λhd=>by simp only[Aed] at hd;exact Xb (by omega) (by omega)),B7 (e _ λhd=>by simp only[Aed] at hd;exact Xb (by omega) (by omega))];rw[h.drop,← OZ,show Int.toNat ((S.length:Int)-u.length+w.length)-Int.toNat ((S.length:Int)-u.length)=Int.toNat (w.length:Int) from by omega];have:decide ((S.length:Int)-u.length+w.length≤(S.length:Int))=decide ((w.length:Int)≤(u.length:Int)):=by rw[Aev];simp only[Aed];omega
 rw[this]
theorem AbK {S r:Af}{c:UInt8}(h:Em (c::r) S):List.take (Int.toNat ((S.length:Int)-r.length)-Int.toNat ((S.length:Int)-(c::r).length)) (List.drop (Int.toNat ((S.length:Int)-(c::r).length)) S)=[c]:=by
 have hl:=h.len;rw[h.drop];simp only[Aef] at hl ⊢;rw[show Int.toNat ((S.length:Int)-r.length)-Int.toNat ((S.length:Int)-((r.length+1:Nat):Int))=1 from by omega];rfl
theorem NO {S:Af}(hS:S.length≤100000):∀(n L:Nat) (u A:Af),u.length=n→Em u S→n<L→A.length≤S.length-n→
  ∃o,BJ (λσ=>CD S σ.1 σ.2) L (A,(S.length:Int)-u.length)=some o∧((∃t w,CC false u=some (t,w)∧Em w S∧BE (λν=>CW S ν.1 ν.2) o=some (A++t,(S.length:Int)-w.length))∨(CC false u=none∧BE (λν=>CW S ν.1 ν.2) o=some ([],-1))):=by
 intro n
 induction n using Nat.strongRecOn with
 | ind n ih=>
  intro L u A hn hs hL hA;obtain⟨L,rfl⟩:∃K,L=K+1:=⟨L-1,by omega⟩
  have hsl:=hs.len
  cases u with
  | nil=>
   have hgo:CD S A ((S.length:Int)-([]:Af).length)=some (.out (.go (A,(S.length:Int)-([]:Af).length))):=by
    unfold CD;have e:decide ((S.length:Int)-([]:Af).length<(S.length:Int))=false:=by simp
    rw[e,B7 (p:=imp false _) rfl,A2 (p:=false&&_) rfl]
   refine⟨_,Dn hgo,.inr ⟨rfl,?_⟩⟩;rw[CU];unfold CW;rw[AC (Aei (by simp))]
  | cons c r=>
   have hb:AM S ((S.length:Int)-(c::r).length)=c.toNat:=DC hs.get;have hpos:(S.length:Int)-(c::r).length+1=S.length-r.length:=by rw[Aef];omega
   have ht1:=AbK hs;simp only[Aef] at hn hsl;have hlt:(S.length:Int)-(c::r).length<S.length:=by rw[Aef];omega
   have h0:0≤(S.length:Int)-(c::r).length:=by rw[Aef];omega
   have l1:([c]:Af).length=1:=rfl;have hb1:CD S A ((S.length:Int)-(c::r).length)=Bi (!decide (c=34)) (Bi (decide (c=92)) (AQ (imp (!(decide ((S.length:Int)≤S.length-r.length))) (Cw (S.length-r.length) (S.length:Int)))<|Bi (((decide ((S.length:Int)≤S.length-r.length))||((!decide ((AM S (S.length-r.length))=34))&&(!decide ((AM S (S.length-r.length))=92))))) (some (.out (.ret (([]:Af),(-1))))) (AQ (Bs .i64 (((S.length:Int)-r.length)+1))<|AQ (Gr ((S.length:Int)-r.length) (((S.length:Int)-r.length)+1))<|AQ (Gr (((S.length:Int)-r.length)+1) (S.length:Int))<|AQ (Bs .i64 ((A.length:Int)+((List.take (Int.toNat (((S.length:Int)-r.length)+1)-Int.toNat ((S.length:Int)-r.length)) (List.drop (Int.toNat ((S.length:Int)-r.length)) S)).length:Int)))<|some (.next (A++(List.take (Int.toNat (((S.length:Int)-r.length)+1)-Int.toNat ((S.length:Int)-r.length)) (List.drop (Int.toNat ((S.length:Int)-r.length)) S)),((S.length:Int)-r.length)+1)))) (some (.next (A++[c],(S.length:Int)-r.length)))) (some (.out (.go (A,(S.length:Int)-(c::r).length)))):=by
    unfold CD;rw[Aei hlt,B7 (p:=imp true _) (by rw[Li h0 hlt];rfl),hb,Q9,Aer,AW h0 hlt,Vs,hpos]
    cases decide (c=34) with
    | true=>rfl
    | false=>
     rw[AC (p:=!false) rfl,AC (p:=!false) rfl]
     cases decide (c=92) with
     | true=>rw[AC rfl,AC rfl,A4 (by omega) (by omega)]
     | false=>rw[A2 rfl,A2 rfl,A4 (by omega) (by omega),BN (by omega) (by omega),BN (by omega) (by omega),ht1,l1,A4 (by omega) (by omega)]
   rw[DJ]
   cases h1:decide (c=34) with
   | true=>
    rw[h1,A2 (p:=!true) rfl] at hb1;refine⟨_,Dn hb1,.inl ⟨[],r,rfl,hs.tail,?_⟩⟩;rw[CU];unfold CW;rw[A2 (Aeg (by omega)),hpos,A4 (by omega) (by omega),AeF]
   | false=>
    rw[h1,AC (p:=!false) rfl] at hb1;simp only[Aeh,Ae1]
    cases h3:decide (c=92) with
    | true=>
     rw[h3,AC rfl] at hb1
     cases r with
     | nil=>
      have e:decide ((S.length:Int)≤S.length-([]:Af).length)=true:=by simp
      rw[e,B7 (p:=imp (!true) _) rfl,AC (p:=true||_) rfl] at hb1;exact⟨_,Dn hb1,.inr ⟨rfl,rfl⟩⟩
     | cons d r'=>
      have ht2:=AbK hs.tail;simp only[Aef] at hn hsl;have hbd:AM S ((S.length:Int)-(d::r').length)=d.toNat:=DC hs.tail.get;have hlt2:(S.length:Int)-(d::r').length<S.length:=by rw[Aef];omega
      have ha:0≤(S.length:Int)-(d::r').length:=by rw[Aef];omega
      have hpos2:(S.length:Int)-(d::r').length+1=S.length-r'.length:=by rw[Aef];omega
      have e:decide ((S.length:Int)≤S.length-(d::r').length)=false:=Aeg (by omega);have l2:([d]:Af).length=1:=rfl;rw[e,Li ha hlt2,hbd,hpos2,Q9,Vs,B7 (p:=imp (!false) true) rfl,ht2,l2] at hb1;simp only[Aek]
      cases h4:(decide (d=34)||decide (d=92)) with
      | false=>
       have e4:(false||(!decide (d=34)&&!decide (d=92)))=true:=by rw[← Bool.not_or,h4];rfl
       rw[AC e4] at hb1;exact⟨_,Dn hb1,.inr ⟨rfl,rfl⟩⟩
      | true=>
       have e4:(false||(!decide (d=34)&&!decide (d=92)))=false:=by rw[← Bool.not_or,h4];rfl
       rw[A2 e4,A4 (by omega) (by omega),BN (by omega) (by omega),BN (by omega) (by omega),A4 (by omega) (by omega)] at hb1;obtain⟨o,ho1,ho2⟩:=ih r'.length (by omega) L r' (A++[d]) rfl hs.tail.tail (by omega) (by rw[Gf];omega);refine⟨o,GL hb1 ho1,?_⟩;simp only[Aek];rcases ho2 with⟨t,w,q1,q2,q3⟩ | ⟨q1,q2⟩
       ·rw[q1];exact .inl ⟨d::t,w,rfl,q2,by rw[q3];simp⟩
       ·rw[q1];exact .inr ⟨rfl,q2⟩
    | false=>
     rw[h3,A2 rfl] at hb1;obtain⟨o,ho1,ho2⟩:=ih r.length (by omega) L r (A++[c]) rfl hs.tail (by omega) (by rw[Gf];omega);refine⟨o,GL hb1 ho1,?_⟩;simp only[Aeh];rcases ho2 with⟨t,w,q1,q2,q3⟩ | ⟨q1,q2⟩
     ·rw[q1];exact .inl ⟨c::t,w,rfl,q2,by rw[q3];simp⟩
     ·rw[q1];exact .inr ⟨rfl,q2⟩
theorem Kl {F:Nat}{S u:Af}(hS:S.length≤100000)(h:Em u S)(hF:S.length<F) :
  (∃r t w,u=34::r∧CC false r=some (t,w)∧Em w S∧Dv F S ((S.length:Int)-u.length)=some (t,(S.length:Int)-w.length))∨((∀r,u=34::r→CC false r=none)∧Dv F S ((S.length:Int)-u.length)=some ([],-1)):=by
 have hl:=h.len;unfold Dv
 cases u with
 | nil=>
  have e:decide ((S.length:Int)≤(S.length:Int)-([]:Af).length)=true:=by simp
  rw[e,B7 (p:=imp (!true) _) rfl,AC (p:=true||_) rfl];exact .inr ⟨(λr e=>by cases e),rfl⟩
 | cons c r=>
  have hb:AM S ((S.length:Int)-(c::r).length)=c.toNat:=DC h.get;have hpos:(S.length:Int)-(c::r).length+1=S.length-r.length:=by rw[Aef];omega
  simp only[Aef] at hl;have hlt:(S.length:Int)-(c::r).length<S.length:=by rw[Aef];omega
  have h0:0≤(S.length:Int)-(c::r).length:=by rw[Aef];omega
  have e:decide ((S.length:Int)≤(S.length:Int)-(c::r).length)=false:=Aeg (by omega);rw[e,B7 (p:=imp (!false) _) (by rw[Li h0 hlt];rfl),hb,Q9,hpos]
  cases hc:decide (c=34) with
  | false=>
   simp only[Aee] at hc;exact .inr ⟨(λr' e=>by cases e;exact absurd rfl hc),rfl⟩
  | true=>
   simp only[Aed] at hc;subst hc;rw[A2 (p:=false||!true) rfl,A4 (by omega) (by omega)];obtain⟨o,ho1,ho2⟩:=NO hS r.length F r [] rfl h.tail (by omega) (AeL _);rw[AI ho1];rcases ho2 with⟨t,w,q1,q2,q3⟩ | ⟨q1,q2⟩
   ·exact .inl ⟨r,t,w,rfl,q1,q2,q3⟩
   ·exact .inr ⟨(λr' e=>by cases e;exact q1),q2⟩
theorem W4 (d:Af)(c:UInt8):HJ (d++[c])=10*HJ d+((c.toNat:Int)-48):=by simp[HJ]
theorem Vk:∀(d:Af),d.all Ce=true→CK 0 d<10 ^ d.length:=by
 have key:∀(d:Af) (a m:Nat),d.all Ce=true→a<10 ^ m→CK a d<10 ^ (m+d.length):=by
  intro d
  induction d with
  | nil=>intro a m _ h;simpa[CK] using h
  | cons c d ih=>
   intro a m hd h;simp only[AeN,Aej] at hd;have hc:48≤c.toNat∧c.toNat≤57:=by have:=hd.1;simp[Ce] at this;omega
   have:=ih (10*a+(c.toNat-48)) (m+1) hd.2 (by rw[Nat.pow_succ];omega);rw[Aef,show m+(d.length+1)=m+1+d.length from by omega];exact this
 intro d hd;have:=key d 0 0 hd (by decide);simpa using this
theorem Rk {d:Af}(hd:d.all Ce=true)(hl:d.length≤18):0≤HJ d∧HJ d<1000000000000000000:=by
 have h1:HJ d=(CK 0 d:Int):=Jk d 0 hd;have h2:=Vk d hd;have h3:10 ^ d.length≤10 ^ 18:=Nat.pow_le_pow_right (by decide) hl;have:(10:Nat) ^ 18=1000000000000000000:=by decide
 omega
def H7 (d:Af):Af:=d.take 18
theorem AcP {D:Af}{c:UInt8}(h:D.length<18):H7 D=D∧H7 (D++[c])=D++[c]:=by
 unfold H7;exact⟨List.take_of_length_le (by omega),List.take_of_length_le (by simp;omega)⟩
theorem AcQ {D:Af}{c:UInt8}(h : ¬ D.length<18):H7 (D++[c])=H7 D:=by
 unfold H7;rw[List.take_append_of_le_length (by omega)]
theorem Wk {S r D:Af}{c:UInt8}{a:Int}(body:Int→Int→Option (Stp (Int×Int) (Out (List Aa×Int) (Int×Int))))(hS:S.length≤100000)(hs:Em (c::r) S)(hD:D.all Ce=true)(hDm:D.length≤100000)(ha:(S.length:Int)-(c::r).length-a=D.length)
  (hb:∀x n,body x n=(AQ (imp (decide (x<(S.length:Int))) (Cw x (S.length:Int)))<|Bi (((decide (x<(S.length:Int)))&&((decide (48≤(AM S x)))&&(decide ((AM S x)≤57))))) (AQ (Bs .i64 (x-a))<|Bi (decide ((x-a)<18)) (AQ (Bs .i64 (10*n))<|AQ (Cw x (S.length:Int))<|AQ (Bs .u8 ((AM S x)-48))<|AQ (Bs .i64 ((AM S x)-48))<|AQ (Bs .i64 ((10*n)+((AM S x)-48)))<|AQ (Bs .i64 (x+1))<|some (.next (x+1,(10*n)+((AM S x)-48)))) (AQ (Bs .i64 (x+1))<|some (.next (x+1,n)))) (some (.out (.go (x,n)))))) :
  body ((S.length:Int)-(c::r).length) (HJ (H7 D))=bif Ce c then some (.next ((S.length:Int)-r.length,HJ (H7 (D++[c])))) else some (.out (.go ((S.length:Int)-(c::r).length,HJ (H7 D)))):=by
 have hsl:=hs.len;have hbt:AM S ((S.length:Int)-(c::r).length)=c.toNat:=DC hs.get;have hpos:(S.length:Int)-(c::r).length+1=S.length-r.length:=by rw[Aef];omega
 simp only[Aef] at hsl;have hlt:(S.length:Int)-(c::r).length<S.length:=by rw[Aef];omega
 have h0:0≤(S.length:Int)-(c::r).length:=by rw[Aef];omega
 rw[hb,Aei hlt,B7 (p:=imp true _) (by rw[Li h0 hlt];rfl),hbt,V5,Aer,ha,hpos]
 cases hd:Ce c with
 | false=>rfl
 | true=>
  have hc:48≤c.toNat∧c.toNat≤57:=by simp[Ce] at hd;omega
  rw[AC rfl]
  by_cases he:D.length<18
  ·obtain⟨e1,e2⟩:=AcP (c:=c) he;have hbd:=Rk hD (by omega);have hf:HJ D<100000000000000000:=by
    have h1:HJ D=(CK 0 D:Int):=Jk D 0 hD;have h2:=Vk D hD;have h3:10 ^ D.length≤10 ^ 17:=Nat.pow_le_pow_right (by decide) (by omega);have:(10:Nat) ^ 17=100000000000000000:=by decide
    omega
   rw[e1,e2,W4,A4 (by omega) (by omega),AC (Aei (by omega)),A4 (by omega) (by omega),AW h0 hlt,Hy (by omega) (by omega),A4 (by omega) (by omega),A4 (by omega) (by omega),A4 (by omega) (by omega)];rfl
  ·rw[AcQ he];have hle:(D.length:Int)≤9223372036854775807:=by omega
   rw[A4 (by omega) hle,A2 (Aeg (by omega)),A4 (by omega) (by omega)];rfl
theorem OU {S:Af}{a:Int}(body:Int→Int→Option (Stp (Int×Int) (Out (List Aa×Int) (Int×Int))))(hS:S.length≤100000)
  (hb:∀x n,body x n=(AQ (imp (decide (x<(S.length:Int))) (Cw x (S.length:Int)))<|Bi (((decide (x<(S.length:Int)))&&((decide (48≤(AM S x)))&&(decide ((AM S x)≤57))))) (AQ (Bs .i64 (x-a))<|Bi (decide ((x-a)<18)) (AQ (Bs .i64 (10*n))<|AQ (Cw x (S.length:Int))<|AQ (Bs .u8 ((AM S x)-48))<|AQ (Bs .i64 ((AM S x)-48))<|AQ (Bs .i64 ((10*n)+((AM S x)-48)))<|AQ (Bs .i64 (x+1))<|some (.next (x+1,(10*n)+((AM S x)-48)))) (AQ (Bs .i64 (x+1))<|some (.next (x+1,n)))) (some (.out (.go (x,n)))))) :
  ∀(r D:Af) (L:Nat),Em r S→D.all Ce=true→(S.length:Int)-r.length-a=D.length→D.length+r.length≤S.length→r.length<L→
  BJ (λσ=>body σ.1 σ.2) L ((S.length:Int)-r.length,HJ (H7 D))=some (.go ((S.length:Int)-(BV r).2.length,HJ (H7 (D++(BV r).1))))
 | [],D,L,hs,hD,ha,hDl,hL=>by
  obtain⟨L,rfl⟩:∃K,L=K+1:=⟨L-1,by omega⟩
  refine Dn ?_;show body _ _=_;have e:decide ((S.length:Int)-([]:Af).length<(S.length:Int))=false:=by simp
  rw[hb,e,B7 (p:=imp false _) rfl,A2 (p:=false&&_) rfl];show _=some (Stp.out (Out.go ((S.length:Int)-([]:Af).length,HJ (H7 (D++[])))));rw[AeF]
 | c::r,D,L,hs,hD,ha,hDl,hL=>by
  obtain⟨L,rfl⟩:∃K,L=K+1:=⟨L-1,by omega⟩
  have hst:=Wk body hS hs hD (by omega) ha hb;simp only[Aef] at hL hDl;rw[BV]
  cases hd:Ce c with
  | false=>
   rw[hd] at hst;simp only[Aeh,AeF];exact Dn hst
  | true=>
   rw[hd] at hst;simp only[Aek];have:=OU body hS hb r (D++[c]) L hs.tail (by simp[hD,hd]) (by rw[Gf];simp only[Aef] at ha;omega) (by rw[Gf];omega) (by omega);rw[Ae5] at this;exact GL hst this
theorem Sr {F:Nat}{S:Af}{c0:UInt8}{r0:Af}(hS:S.length≤100000)(h:Em (c0::r0) S)(hF:S.length<F) :
  (∃f w,HM (c0::r0)=some (f,w)∧Em w S∧Jb F S ((S.length:Int)-(c0::r0).length)=some (f.flat,(S.length:Int)-w.length))∨(HM (c0::r0)=none∧Jb F S ((S.length:Int)-(c0::r0).length)=some ([],-1)):=by
 have hl:=h.len;have hbt:AM S ((S.length:Int)-(c0::r0).length)=c0.toNat:=DC h.get;have hpos:(S.length:Int)-(c0::r0).length+1=S.length-r0.length:=by rw[Aef];omega
 have hlt:(S.length:Int)-(c0::r0).length<S.length:=by rw[Aef];omega
 have h0:0≤(S.length:Int)-(c0::r0).length:=by omega
 have hf:decide ((c0.toNat:Int)=45)=decide ((c0::r0).head? =some 45):=by
  rw[Aev];simp only[Aed,List.head?_cons,Option.some.injEq,← AeX];show(c0.toNat:Int)=45↔c0.toNat=45;omega
 have fin:∀(neg:Bool) (r:Af) (a:Int) (k:Int→Int→Option (List Aa×Int)),Em r S→(S.length:Int)-r.length=a→(∀x n,a≤x→x≤S.length→k x n=(AQ (imp (!(decide (x=a))) (imp (decide ((AM S a)=48)) (Bs .i64 (a+1))))<|Bi (((decide (x=a))||((decide ((AM S a)=48))&&((decide ((a+1)<x))||neg)))) (some (([]:List Aa),(-1))) (AQ (Bs .i64 (x-a))<|Bi (decide (18<(x-a))) (Bi neg (some (([(Aa.mk 3 (-2000000000000) ([]:Af) 0)]:List Aa),x)) (some (([(Aa.mk 3 2000000000000 ([]:Af) 0)]:List Aa),x))) (Bi neg (AQ (Bs .i64 (-n))<|some (([(Aa.mk 3 (-n) ([]:Af) 0)]:List Aa),x)) (some (([(Aa.mk 3 n ([]:Af) 0)]:List Aa),x))))))→
   k ((S.length:Int)-(BV r).2.length) (HJ (H7 (BV r).1))=bif Ea neg (BV r).1 then some ([⟨3,JZ neg (BV r).1,[],0⟩],(S.length:Int)-(BV r).2.length) else some ([],-1):=λneg r a k hr ha hk=>by
  have hrl:=hr.len;have hsplit:=I8 r;have hlen:r.length=(BV r).1.length+(BV r).2.length:=by conv=>lhs;rw[hsplit,Aen]
  have hd:=Jv r;rw[hk _ _ (by omega) (by omega),B7 (by
   cases decide ((S.length:Int)-(BV r).2.length=a)<;>cases decide (AM S a=48)<;>simp only[imp,Aes,Ae0,Ae9,Ae7,Aew]
   exact Hm (by omega) (by omega)),A4 (by omega) (by omega)]
  have hx:(S.length:Int)-(BV r).2.length-a=(BV r).1.length:=by omega
  rw[hx];have hc:(decide ((S.length:Int)-(BV r).2.length=a)||(decide (AM S a=48)&&(decide (a+1<(S.length:Int)-(BV r).2.length)||neg))) = !Ea neg (BV r).1:=by
   unfold Ea
   cases he:(BV r).1 with
   | nil=>
    rw[he] at hlen;rw[Aei (show(S.length:Int)-(BV r).2.length=a by simp only[AeS] at hlen;omega)];rfl
   | cons c d=>
    rw[he] at hlen hsplit;have hg:AM S a=c.toNat:=by
     rw[← ha];have hr':=hr;rw[hsplit] at hr';have:=hr'.get;have e:((S.length:Int)-r.length)=(S.length:Int)-((c::d)++(BV r).2).length:=by rw[← hsplit]
     rw[e];exact DC this
    have hh:decide ((c.toNat:Int)=48)=decide ((c::d).head? =some 48):=by
     rw[Aev];simp only[Aed,List.head?_cons,Option.some.injEq,← AeX];show(c.toNat:Int)=48↔c.toNat=48;omega
    have h1:decide (a+1<(S.length:Int)-(BV r).2.length)=decide (1<(c::d).length):=by rw[Aev];simp only[Aed];omega
    have h2:decide ((S.length:Int)-(BV r).2.length=a)=false:=Aeg (by simp only[Aef] at hlen;omega);have h3:decide (c::d=([]:Af))=false:=by simp
    rw[hg,hh,h1,h2,h3];simp
  rw[hc]
  cases hcan:Ea neg (BV r).1 with
  | false=>rfl
  | true=>
   rw[A2 (p:=!true) rfl];unfold JZ
   cases hb:decide (18<(BV r).1.length) with
   | true=>
    rw[AC (Aei (by simp only[Aed] at hb;omega))]
    cases neg<;>rfl
   | false=>
    simp only[Aee] at hb;have e:H7 (BV r).1=(BV r).1:=List.take_of_length_le (by omega);have hbd:=Rk hd (by omega);rw[A2 (Aeg (by omega)),e]
    cases neg with
    | true=>rw[AC rfl,A4 (by omega) (by omega)];rfl
    | false=>rfl
 unfold Jb;rw[AW h0 hlt,hbt,hf,hpos];unfold HM;simp only
 cases hn:decide ((c0::r0).head? =some 45) with
 | true=>
  have hr:Em r0 S:=h.tail;have hl2:=hr.len;have hlop:BJ (λσ=>G1 S ((S.length:Int)-(c0::r0).length) σ.1 σ.2) F ((S.length:Int)-r0.length,0)=some (.go ((S.length:Int)-(BV r0).2.length,HJ (H7 ([]++(BV r0).1)))):=OU (a:=(S.length:Int)-(c0::r0).length+1) (λx n=>G1 S ((S.length:Int)-(c0::r0).length) x n) hS (λx n=>rfl) r0 [] F hr rfl (by rw[hpos];simp) (by simp;omega) (by omega);rw[AC rfl,A4 (by omega) (by omega),AI hlop,CU];have:=fin true r0 ((S.length:Int)-(c0::r0).length+1) (Gz S ((S.length:Int)-(c0::r0).length)) hr (by rw[hpos]) (λx n hx1 hx2=>by
   unfold Gz;have e1:decide ((S.length:Int)-(c0::r0).length<(S.length:Int)-(c0::r0).length+1)=true:=Aei (by omega);have e2:imp (!(decide (x=((S.length:Int)-(c0::r0).length+1)))) (Cw ((S.length:Int)-(c0::r0).length+1) (S.length:Int))=true:=by
    cases hd:decide (x=((S.length:Int)-(c0::r0).length+1)) with
    | true=>rfl
    | false=>
     simp only[Aee] at hd;rw[Li (by omega) (by omega)];rfl
   have e3:∀y:Option (List Aa×Int),AQ (Bs .i64 (-2000000000000)) y=y:=λy=>A4 (by decide) (by decide);rw[e1,B7 e2,e3])
  simp only[AeE];rw[this];have hw:Em (BV r0).2 S:=by have:=I8 r0;rw[this] at hr;exact hr.app
  simp only[Aek,List.tail_cons]
  cases Ea true (BV r0).1 with
  | true=>exact .inl ⟨_,_,rfl,hw,rfl⟩
  | false=>exact .inr ⟨rfl,rfl⟩
 | false=>
  have hl2:=h.len;have hlop:BJ (λσ=>G0 S ((S.length:Int)-(c0::r0).length) σ.1 σ.2) F ((S.length:Int)-(c0::r0).length,0)=some (.go ((S.length:Int)-(BV (c0::r0)).2.length,HJ (H7 ([]++(BV (c0::r0)).1)))):=OU (a:=(S.length:Int)-(c0::r0).length) (λx n=>G0 S ((S.length:Int)-(c0::r0).length) x n) hS (λx n=>rfl) (c0::r0) [] F h rfl (by simp) (by simpa using hl) (by omega);rw[A2 rfl,AI hlop,CU];have:=fin false (c0::r0) ((S.length:Int)-(c0::r0).length) (Gy S ((S.length:Int)-(c0::r0).length)) h rfl (λx n hx1 hx2=>by
   unfold Gy;have e1:decide ((S.length:Int)-(c0::r0).length<(S.length:Int)-(c0::r0).length)=false:=Aeg (by omega);have e3:∀y:Option (List Aa×Int),AQ (Bs .i64 (-2000000000000)) y=y:=λy=>A4 (by decide) (by decide);rw[e1,e3])
  simp only[AeE];rw[this];have hw:Em (BV (c0::r0)).2 S:=by have:=I8 (c0::r0);rw[this] at h;exact h.app
  simp only[Aeh]
  cases Ea false (BV (c0::r0)).1 with
  | true=>exact .inl ⟨_,_,rfl,hw,rfl⟩
  | false=>exact .inr ⟨rfl,rfl⟩
end Go.Proofs.YtjfnokmpfekniaaGreatDoor
