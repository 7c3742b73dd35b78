/-
  Texts of the proof, put together: WTe, PTf, WTf, OkTimerRecords, LvA, LvB, LvC, LvD, LvE, LvF, LvG, LvH, LvI, LvJ, LvK, LvL, LvM, LvN, LvO, LvP, LrA, LdA, LdB, LdC, LdD, LdE, LdF, LdG.
-/
import Derived.Test.YtkoiaconljdbeaaGreatDoorTR4
import GoSem.ClaimData
namespace Go.Proofs.YtkoiaconljdbeaaGreatDoor.Q
open Go Go.RowKit
set_option linter.unusedVariables false
set_option linter.unusedSimpArgs false
set_option maxRecDepth 100000
set_option maxHeartbeats 4000000
theorem ES {n:Nat}{c:Cx}{l:Fr}{H:List Ent}{d:Option Nat}{ty:TypeId}{pos:String}{af:Array Edge}{g:Option (Nat×Bool)}:Bv Tryz.prog n c l H { dst:=d,op:=.build 31 #[],type:=ty,pos:=pos,after:=af,guard:=g } (Bz [rS ([]:Ah),rI .i64 0,rS ([]:Ah),rS ([]:Ah),rv (.slice none 0 0)]):=λa w Z ha _=>by
  have hb:Tryz.prog.built 31 []=some #[(.string ⟨#[]⟩),(.int .i64 0),(.string ⟨#[]⟩),(.string ⟨#[]⟩),((.slice none 0 0))]:=by
    rw[Tf];simp[Instr.fill,Value.cells]
  refine⟨.agg #[(.string ⟨#[]⟩),(.int .i64 0),(.string ⟨#[]⟩),(.string ⟨#[]⟩),((.slice none 0 0))],⟨[(.string ⟨#[]⟩),(.int .i64 0),(.string ⟨#[]⟩),(.string ⟨#[]⟩),((.slice none 0 0))],rfl,rfl,rfl,rfl,rfl,rfl,trivial⟩,?_⟩;have:=run_build w 31 #[] _ (by simpa using hb);simp[execOp,this]
theorem JB (F:Nat)(t:Ae)(r:Ah×Int)(h:GC F t=some r):Fn Tryz.prog GE 20 [Bz (Ao t)] [] (λR H=>R=C5 [rS r.1,rI .i64 r.2]∧H=[]):=by
 refine enter (n:=35) Tryz.func20 rfl Tryz.ntmps20 rfl (λw Z=>?_);refine Bb (l':=[(0,Bz (Ao t))]) (H':=[]) rfl rfl ?_;unfold GC at h;refine Ak (C1 rfl rfl (λb1=>?_));refine wv (r:=rS ([]:Ah)) (Ac rfl) (wv (r:=rI .i64 0) (Ac rfl) (Ar (Am (Ak (wv (Bs (i:=0) DY Cc rfl rfl rfl rfl) ?_)))));obtain⟨r2,e4,h3⟩:=AL h;refine Co Tryz.call44 (PX F t r2 e4) rfl (wa rfl (By (wm rfl (wv (CF rfl rfl) (Ar (Ap (b:=!decide (r2=0)) rfl (λc5=>?_) (λc5=>?_)))))))
 ·have h6:=AB c5 h3;refine Ak (wm rfl (wv (r:=rS ([]:Ah)) (Ac rfl) (wa rfl (Ar (Ax (Af ?_))))));obtain rfl:=Az h6;exact Aw (Dg Tryz.results20 (AJ rfl) (AJ rfl)) (sS sN) ⟨rfl,rfl⟩
 ·have h7:=AC c5 h3;refine At (AN (Ak (wv (Ad CQ rfl Ds rfl rfl) (wv (A0 (i:=0) GK rfl rfl rfl) ?_))));obtain⟨r8,hd,h9⟩:=AL h7;refine Co Tryz.call45 (Tx F t.fBody r8 hd) rfl (wm rfl (wv (AF rfl rfl) (wv (AF rfl rfl) (wa rfl (wa rfl (Ar (Am (Ak (wm rfl (wv (CF rfl rfl) (Ar (Ap (b:=!decide (r8.2=0)) rfl (λhb=>?_) (λhb=>?_)))))))))))))
  ·have he:=AB hb h9;refine Ak (wm rfl (wv (r:=rS ([]:Ah)) (Ac rfl) (wa rfl (Ar (Ax (Af ?_))))));obtain rfl:=Az he;exact Aw (Dg Tryz.results20 (AJ rfl) (AJ rfl)) (sS sN) ⟨rfl,rfl⟩
  ·have hf:=AC hb h9;refine At (AN (Am ?_));obtain⟨hg,hh⟩:=Av hf;obtain⟨ha,hi,hj⟩:=AL hh;refine DI [1,5] [⟨[],rv (.pointer (some ⟨b1,0,none⟩)),0⟩,⟨[0],rS t.fID,1⟩,⟨[],rv (.pointer (some ⟨b1,1,none⟩)),0⟩,⟨[2],rI .i64 t.fAt,1⟩,⟨[3],rS (Lib.itoa t.fAt),0⟩,⟨[],rv (.pointer (some ⟨b1,2,none⟩)),0⟩,⟨[5],rS t.fTenant,1⟩,⟨[],rv (.pointer (some ⟨b1,3,none⟩)),0⟩,⟨[7],rS t.fSource,1⟩,⟨[],rS r8.1,0⟩,⟨[1,4,6,8,9],Bo 1 (List.map eS ([t.fID,Lib.itoa t.fAt,t.fTenant,t.fSource,r8.1]:List Ah)),0⟩,⟨[10],C5 [rS ha.1,rI .i64 ha.2],0⟩,⟨[11],rS ha.1,0⟩,⟨[11],rI .i64 ha.2,0⟩,⟨[12],rS ha.1,0⟩,⟨[13],rI .i64 ha.2,0⟩] [2,3] ?_ ?_
   ·refine oq (Ad CQ rfl CV rfl rfl) (of (A0 (i:=0) Dn rfl rfl rfl) (oq (Ad CQ rfl Cu rfl rfl) (of (A0 (i:=0) Dd rfl rfl rfl) (GX rfl (λH=>Jr (rs:=[rI .i64 t.fAt]) (r:=rS (Lib.itoa t.fAt)) Tryz.call47 rfl (ND t.fAt hg) rfl) ?_))));refine oq (Ad CQ rfl CV rfl rfl) (of (A0 (i:=0) Dn rfl rfl rfl) (oq (Ad CQ rfl CV rfl rfl) (of (A0 (i:=0) Dn rfl rfl rfl) (oq (Au rfl) (GX rfl (λH=>EF (ys:=([t.fID,Lib.itoa t.fAt,t.fTenant,t.fSource,r8.1]:List Ah)) (enc:=eS) (css:=[[rS t.fID],[rS (Lib.itoa t.fAt)],[rS t.fTenant],[rS t.fSource],[rS r8.1]]) (xs:=[.tmp 22,.tmp 25,.tmp 27,.tmp 29,.tmp 30]) DW CV Z7 rfl rfl rfl ⟨Gw.one rfl (Up.refl _),Gw.one rfl (Up.refl _),Gw.one rfl (Up.refl _),Gw.one rfl (Up.refl _),Gw.one rfl (Up.refl _),trivial⟩ rfl K5 rfl rfl) ?_)))));refine GX rfl (λH=>N1 Tryz.call46 (Yi F ([t.fID,Lib.itoa t.fAt,t.fTenant,t.fSource,r8.1]:List Ah) ha hi) rfl) ?_;refine oq (AF rfl rfl) (oq (AF rfl rfl) (oq (Ac rfl) (oq (Ac rfl) ?_)));exact CL
   refine AN (Ax ?_);obtain rfl:=Az hj;exact Aw (Dg Tryz.results20 (AJ rfl) (AJ rfl)) (sS sN) ⟨rfl,rfl⟩
theorem Om (F:Nat)(s:Ah)(r:Ae×Int)(h:JC F s=some r):Fn Tryz.prog GE 22 [rS s] [] (λR H=>R=C5 [Bz (Ao r.1),rI .i64 r.2]∧H=[]):=by
 refine enter (n:=72) Tryz.func22 rfl Tryz.ntmps22 rfl (λw Z=>?_);refine Bb (l':=[(0,rS s)]) (H':=[]) rfl rfl ?_;unfold JC at h;refine Ak (Cf (cs:=[rS ([]:Ah),rI .i64 0,rS ([]:Ah),rS ([]:Ah),rv (.slice none 0 0)]) JX rfl rfl (λb1=>?_));refine wv (r:=rI .i64 0) (Ac rfl) (By (wm rfl ?_));obtain⟨r2,e4,h3⟩:=AL h;refine Co Tryz.call52 (Uu F s r2 e4) rfl (wm rfl (wv (AF rfl rfl) (wv (AF rfl rfl) (wa rfl (wa rfl (Ar (Am (AA [(0,rS s),(2,rv (.pointer (some ⟨b1,0,none⟩))),(4,Bo 1 (List.map eS r2.1)),(23,rB ((!decide (r2.2=0))||(!decide ((r2.1.length:Int)=5))))] [.blk b1 [rS ([]:Ah),rI .i64 0,rS ([]:Ah),rS ([]:Ah),rv (.slice none 0 0)] 31] ?_ ?_))))))))
 ·refine Aj (wm rfl (wv (CF rfl rfl) (wm rfl (AH (!decide (r2.2=0)) (λc5=>?_) (λc5=>?_)))))
  ·refine wf c5 (wf c5 (wf c5 (wv (r:=rB true) (As (b:=!decide (r2.2=0)) rfl c5 rfl) (Al ?_))));exact BO c5
  ·refine wo c5 (wm rfl (wo c5 (wv (BT (ys:=r2.1) (enc:=eS) DW rfl) (wo c5 (wv (CF rfl rfl) (D4 rfl c5 rfl (Al ?_)))))));exact BO c5
 refine Ap (b:=((!decide (r2.2=0))||(!decide ((r2.1.length:Int)=5)))) rfl (λc6=>?_) (λc6=>?_)
 ·have h7:=AB c6 h3;refine Ak (wv (r:=Bz [rS ([]:Ah),rI .i64 0,rS ([]:Ah),rS ([]:Ah),rv (.slice none 0 0)]) (ES ) (Bq (i:=0) Cc rfl rfl rfl (BM.c rfl) rfl rfl (cs':=[rS ([]:Ah),rI .i64 0,rS ([]:Ah),rS ([]:Ah),rv (.slice none 0 0)]) rfl (H':=[.blk b1 [rS ([]:Ah),rI .i64 0,rS ([]:Ah),rS ([]:Ah),rv (.slice none 0 0)] 31]) rfl (wv (r:=rI .i64 13) (Ac rfl) (Ar (Ax (Af (WK.upBlk (i:=0) (cs':=[rS ([]:Ah),rI .i64 0,rS ([]:Ah),rS ([]:Ah),Bo 4 (List.map Ab ([]:List Aa))]) rfl ⟨Up.refl _,Up.refl _,Up.refl _,Up.refl _,Up.le (GJ.nil _),trivial⟩ ?_)))))));obtain rfl:=Az h7;exact Aw (Dg Xj (GV (i:=0) DY Cc rfl rfl rfl) (AJ rfl)) (sS sN) ⟨rfl,rfl⟩
 ·have h8:=AC c6 h3;refine At (AN (Ak (wm rfl ?_)));obtain⟨g9,hk⟩:=Av h8;refine wv (BY (enc:=eS) (ys:=r2.1) DW CV rfl rfl g9) (wv (BQ Dn rfl rfl) ?_);obtain⟨hl,hm⟩:=Av hk;refine GB (rs:=[rS (Ay r2.1 1)]) (r:=C5 [rI .i64 (Bt (Ay r2.1 1)),rI .i64 (B6 (Ay r2.1 1))]) Tryz.call53 rfl (SD (Ay r2.1 1) hl) rfl rfl (wm rfl (wv (AF rfl rfl) (wv (AF rfl rfl) (wa rfl (wa rfl (By (wm rfl ?_)))))));obtain⟨hn,ho⟩:=Av hm;refine wv (BY (enc:=eS) (ys:=r2.1) DW CV rfl rfl hn) (wv (BQ Dn rfl rfl) ?_);obtain⟨ha,hp,hi⟩:=AL ho;refine Co Tryz.call54 (Ty F (Ay r2.1 4) ha hp) rfl (wm rfl (wv (AF rfl rfl) (wv (AF rfl rfl) (wa rfl (wa rfl (Ar (Am (AA [(0,rS s),(2,rv (.pointer (some ⟨b1,0,none⟩))),(4,Bo 1 (List.map eS r2.1)),(6,rI .i64 (Bt (Ay r2.1 1))),(7,Bo 4 (List.map Ab ha.1)),(44,rB ((!decide ((B6 (Ay r2.1 1))=0))||(!decide (ha.2=0))))] [.blk b1 [rS ([]:Ah),rI .i64 0,rS ([]:Ah),rS ([]:Ah),rv (.slice none 0 0)] 31] ?_ ?_))))))))
  ·refine Aj (wm rfl (wv (CF rfl rfl) (wm rfl (AH (!decide ((B6 (Ay r2.1 1))=0)) (λhd=>?_) (λhd=>?_)))))
   ·refine wf hd (wf hd (wv (r:=rB true) (As (b:=!decide ((B6 (Ay r2.1 1))=0)) rfl hd rfl) (Al ?_)));exact BO hd
   ·refine wo hd (wm rfl (wo hd (wv (CF rfl rfl) (D4 rfl hd rfl (Al ?_)))));exact BO hd
  refine Ap (b:=((!decide ((B6 (Ay r2.1 1))=0))||(!decide (ha.2=0)))) rfl (λhg=>?_) (λhg=>?_)
  ·have hq:=AB hg hi;refine Ak (wv (r:=Bz [rS ([]:Ah),rI .i64 0,rS ([]:Ah),rS ([]:Ah),rv (.slice none 0 0)]) (ES ) (Bq (i:=0) Cc rfl rfl rfl (BM.c rfl) rfl rfl (cs':=[rS ([]:Ah),rI .i64 0,rS ([]:Ah),rS ([]:Ah),rv (.slice none 0 0)]) rfl (H':=[.blk b1 [rS ([]:Ah),rI .i64 0,rS ([]:Ah),rS ([]:Ah),rv (.slice none 0 0)] 31]) rfl (wv (r:=rI .i64 13) (Ac rfl) (Ar (Ax (Af (WK.upBlk (i:=0) (cs':=[rS ([]:Ah),rI .i64 0,rS ([]:Ah),rS ([]:Ah),Bo 4 (List.map Ab ([]:List Aa))]) rfl ⟨Up.refl _,Up.refl _,Up.refl _,Up.refl _,Up.le (GJ.nil _),trivial⟩ ?_)))))));obtain rfl:=Az hq;exact Aw (Dg Xj (GV (i:=0) DY Cc rfl rfl rfl) (AJ rfl)) (sS sN) ⟨rfl,rfl⟩
  ·have hr:=AC hg hi;refine At (AN (Am ?_));obtain⟨hs,ht⟩:=Av hr;obtain⟨hu,hw⟩:=Av ht;obtain⟨hx,hy⟩:=Av hw;refine Ha 13 [0,2,4,6,7] [⟨[],Bo 1 (List.map eS r2.1),none,none,none⟩,⟨[0],PA [rS (Ay r2.1 0)],none,none,none⟩,⟨[1],rS (Ay r2.1 0),none,none,none⟩,⟨[],rI .i64 (Bt (Ay r2.1 1)),none,none,none⟩,⟨[],Bo 1 (List.map eS r2.1),none,none,none⟩,⟨[4],PA [rS (Ay r2.1 2)],none,none,none⟩,⟨[5],rS (Ay r2.1 2),none,none,none⟩,⟨[],Bo 1 (List.map eS r2.1),none,none,none⟩,⟨[7],PA [rS (Ay r2.1 3)],none,none,none⟩,⟨[8],rS (Ay r2.1 3),none,none,none⟩,⟨[],Bo 4 (List.map Ab ha.1),none,none,none⟩,⟨[2,3,6,9,10],Bz [rS (Ay r2.1 0),rI .i64 (Bt (Ay r2.1 1)),rS (Ay r2.1 2),rS (Ay r2.1 3),Bo 4 (List.map Ab ha.1)],none,none,none⟩,⟨[],rv undef,some ([rS ([]:Ah),rI .i64 0,rS ([]:Ah),rS ([]:Ah),rv (.slice none 0 0)],31),none,none⟩] ?_ (λβ=>?_)
   ·refine DE (Au rfl) (DE (BY (enc:=eS) (ys:=r2.1) DW CV rfl rfl hs) (DE (BQ Dn rfl rfl) (DE (Au rfl) (DE (Au rfl) (DE (BY (enc:=eS) (ys:=r2.1) DW CV rfl rfl hu) (DE (BQ Dn rfl rfl) (DE (Au rfl) (DE (BY (enc:=eS) (ys:=r2.1) DW CV rfl rfl hx) (DE (BQ Dn rfl rfl) (DE (Au rfl) (DE (E8 rfl rfl rfl rfl rfl rfl rfl rfl rfl rfl) (oal (WW (cs:=[rS ([]:Ah),rI .i64 0,rS ([]:Ah),rS ([]:Ah),rv (.slice none 0 0)]) JX rfl) ?_))))))))))));exact XH
   refine HZ (H1:=[.blk b1 [rS ([]:Ah),rI .i64 0,rS ([]:Ah),rS ([]:Ah),rv (.slice none 0 0)] 31,.blk (β 12) [rS ([]:Ah),rI .i64 0,rS ([]:Ah),rS ([]:Ah),rv (.slice none 0 0)] 31]) [46,47,48,49,50,51,52,53,54,55,56,57,9,0,2,4,6,7] ?_;generalize β 12=hf;refine Bq (i:=1) Cc rfl rfl rfl (BM.c rfl) rfl rfl (cs':=[rS (Ay r2.1 0),rI .i64 (Bt (Ay r2.1 1)),rS (Ay r2.1 2),rS (Ay r2.1 3),Bo 4 (List.map Ab ha.1)]) rfl (H':=[.blk b1 [rS ([]:Ah),rI .i64 0,rS ([]:Ah),rS ([]:Ah),rv (.slice none 0 0)] 31,.blk hf [rS (Ay r2.1 0),rI .i64 (Bt (Ay r2.1 1)),rS (Ay r2.1 2),rS (Ay r2.1 3),Bo 4 (List.map Ab ha.1)] 31]) rfl (Ar (Am (Ak (wv (Bs (i:=1) DY Cc rfl rfl rfl rfl) ?_))));obtain⟨he,hz,hj⟩:=AL hy;refine Co Tryz.call20 (JB F (Ae.mk (Ay r2.1 0) (Bt (Ay r2.1 1)) (Ay r2.1 2) (Ay r2.1 3) ha.1) he hz) rfl (wm rfl (wv (AF rfl rfl) (wv (AF rfl rfl) (wa rfl (wa rfl (Ar (AA [(2,rv (.pointer (some ⟨b1,0,none⟩))),(9,rv (.pointer (some ⟨hf,0,none⟩))),(69,rB ((!decide (he.2=0))||(!decide (he.1=s))))] [.blk b1 [rS ([]:Ah),rI .i64 0,rS ([]:Ah),rS ([]:Ah),rv (.slice none 0 0)] 31,.blk hf [rS (Ay r2.1 0),rI .i64 (Bt (Ay r2.1 1)),rS (Ay r2.1 2),rS (Ay r2.1 3),Bo 4 (List.map Ab ha.1)] 31] ?_ ?_)))))))
   ·refine Aj (wm rfl (wv (CF rfl rfl) (wm rfl (AH (!decide (he.2=0)) (λhb=>?_) (λhb=>?_)))))
    ·refine wf hb (wf hb (wf hb (wv (r:=rB true) (As (b:=!decide (he.2=0)) rfl hb rfl) (Al ?_))));exact BO hb
    ·refine wo hb (wm rfl (wo hb (wm rfl (wo hb (wv (IW rfl rfl) (D4 rfl hb rfl (Al ?_)))))));exact BO hb
   refine Ap (b:=((!decide (he.2=0))||(!decide (he.1=s)))) rfl (λhh=>?_) (λhh=>?_)
   ·have h0:=AB hh hj;refine Ak (wv (r:=Bz [rS ([]:Ah),rI .i64 0,rS ([]:Ah),rS ([]:Ah),rv (.slice none 0 0)]) (ES ) (Bq (i:=0) Cc rfl rfl rfl (BM.c rfl) rfl rfl (cs':=[rS ([]:Ah),rI .i64 0,rS ([]:Ah),rS ([]:Ah),rv (.slice none 0 0)]) rfl (H':=[.blk b1 [rS ([]:Ah),rI .i64 0,rS ([]:Ah),rS ([]:Ah),rv (.slice none 0 0)] 31,.blk hf [rS (Ay r2.1 0),rI .i64 (Bt (Ay r2.1 1)),rS (Ay r2.1 2),rS (Ay r2.1 3),Bo 4 (List.map Ab ha.1)] 31]) rfl (wv (r:=rI .i64 13) (Ac rfl) (Ar (Ax (Af (WK.upBlk (i:=0) (cs':=[rS ([]:Ah),rI .i64 0,rS ([]:Ah),rS ([]:Ah),Bo 4 (List.map Ab ([]:List Aa))]) rfl ⟨Up.refl _,Up.refl _,Up.refl _,Up.refl _,Up.le (GJ.nil _),trivial⟩ ?_)))))));obtain rfl:=Az h0;exact Aw (Dg Xj (GV (i:=0) DY Cc rfl rfl rfl) (AJ rfl)) (sS (sS sN)) ⟨rfl,rfl⟩
   ·have h1:=AC hh hj;refine At (AN (Ak (wv (Bs (i:=1) DY Cc rfl rfl rfl rfl) (Bq (i:=0) Cc rfl rfl rfl (BM.c rfl) rfl rfl (cs':=[rS (Ay r2.1 0),rI .i64 (Bt (Ay r2.1 1)),rS (Ay r2.1 2),rS (Ay r2.1 3),Bo 4 (List.map Ab ha.1)]) rfl (H':=[.blk b1 [rS (Ay r2.1 0),rI .i64 (Bt (Ay r2.1 1)),rS (Ay r2.1 2),rS (Ay r2.1 3),Bo 4 (List.map Ab ha.1)] 31,.blk hf [rS (Ay r2.1 0),rI .i64 (Bt (Ay r2.1 1)),rS (Ay r2.1 2),rS (Ay r2.1 3),Bo 4 (List.map Ab ha.1)] 31]) rfl (wv (r:=rI .i64 0) (Ac rfl) (Ar (Ax ?_)))))));obtain rfl:=Az h1;exact Aw (Dg Xj (GV (i:=0) DY Cc rfl rfl rfl) (AJ rfl)) (sS (sS sN)) ⟨rfl,rfl⟩
theorem RA (F:Nat)(t:Ae)(r:Ah×Int)(h:Jo F t=some r):Fn Tryz.prog GE 21 [Bz (Ao t)] [] (λR H=>R=C5 [rS r.1,rI .i64 r.2]∧H=[]):=by
 refine enter (n:=32) Tryz.func21 rfl Tryz.ntmps21 rfl (λw Z=>?_);refine Bb (l':=[(0,Bz (Ao t))]) (H':=[]) rfl rfl ?_;unfold Jo at h;refine Ak (C1 rfl rfl (λb1=>?_));refine wv (r:=rS ([]:Ah)) (Ac rfl) (wv (r:=rI .i64 0) (Ac rfl) (By (wv (Bs (i:=0) DY Cc rfl rfl rfl rfl) ?_)));obtain⟨r2,e4,h3⟩:=AL h;refine Co Tryz.call48 (Qc F t r2 e4) rfl (wa rfl (Ar (Am (Ak (wm rfl (wv (CF rfl rfl) (Ar (Ap (b:=!decide (r2=0)) rfl (λc5=>?_) (λc5=>?_)))))))))
 ·have h6:=AB c5 h3;refine Ak (wm rfl (wv (r:=rS ([]:Ah)) (Ac rfl) (wa rfl (Ar (Ax (Af ?_))))));obtain rfl:=Az h6;exact Aw (Dg Tryz.results21 (AJ rfl) (AJ rfl)) (sS sN) ⟨rfl,rfl⟩
 ·have h7:=AC c5 h3;refine At (AN (Ak (wv (Ad CQ rfl Ds rfl rfl) (wv (A0 (i:=0) GK rfl rfl rfl) ?_))));obtain⟨r8,hb,h9⟩:=AL h7;refine Co Tryz.call49 (TH F t.fBody r8 hb) rfl (wm rfl (wv (AF rfl rfl) (wv (AF rfl rfl) (wa rfl (wa rfl (Ar (Am ?_)))))));obtain⟨hd,he⟩:=Av h9;obtain⟨ha,hf,hg⟩:=AL he;refine DI [1,5] [⟨[],rv (.pointer (some ⟨b1,0,none⟩)),0⟩,⟨[0],rS t.fID,1⟩,⟨[],rv (.pointer (some ⟨b1,1,none⟩)),0⟩,⟨[2],rI .i64 t.fAt,1⟩,⟨[3],rS (Lib.itoa t.fAt),0⟩,⟨[],rv (.pointer (some ⟨b1,2,none⟩)),0⟩,⟨[5],rS t.fTenant,1⟩,⟨[],rv (.pointer (some ⟨b1,3,none⟩)),0⟩,⟨[7],rS t.fSource,1⟩,⟨[],rS r8.1,0⟩,⟨[1,4,6,8,9],Bo 1 (List.map eS ([t.fID,Lib.itoa t.fAt,t.fTenant,t.fSource,r8.1]:List Ah)),0⟩,⟨[10],C5 [rS ha.1,rI .i64 ha.2],0⟩,⟨[11],rS ha.1,0⟩,⟨[11],rI .i64 ha.2,0⟩,⟨[12],rS ha.1,0⟩,⟨[13],rI .i64 ha.2,0⟩] [2,3] ?_ ?_
  ·refine oq (Ad CQ rfl CV rfl rfl) (of (A0 (i:=0) Dn rfl rfl rfl) (oq (Ad CQ rfl Cu rfl rfl) (of (A0 (i:=0) Dd rfl rfl rfl) (GX rfl (λH=>Jr (rs:=[rI .i64 t.fAt]) (r:=rS (Lib.itoa t.fAt)) Tryz.call51 rfl (Uq t.fAt hd) rfl) ?_))));refine oq (Ad CQ rfl CV rfl rfl) (of (A0 (i:=0) Dn rfl rfl rfl) (oq (Ad CQ rfl CV rfl rfl) (of (A0 (i:=0) Dn rfl rfl rfl) (oq (Au rfl) (GX rfl (λH=>EF (ys:=([t.fID,Lib.itoa t.fAt,t.fTenant,t.fSource,r8.1]:List Ah)) (enc:=eS) (css:=[[rS t.fID],[rS (Lib.itoa t.fAt)],[rS t.fTenant],[rS t.fSource],[rS r8.1]]) (xs:=[.tmp 19,.tmp 22,.tmp 24,.tmp 26,.tmp 27]) DW CV Z7 rfl rfl rfl ⟨Gw.one rfl (Up.refl _),Gw.one rfl (Up.refl _),Gw.one rfl (Up.refl _),Gw.one rfl (Up.refl _),Gw.one rfl (Up.refl _),trivial⟩ rfl K5 rfl rfl) ?_)))));refine GX rfl (λH=>N1 Tryz.call50 (Vx F ([t.fID,Lib.itoa t.fAt,t.fTenant,t.fSource,r8.1]:List Ah) ha hf) rfl) ?_;refine oq (AF rfl rfl) (oq (AF rfl rfl) (oq (Ac rfl) (oq (Ac rfl) ?_)));exact CL
  refine AN (Ax ?_);obtain rfl:=Az hg;exact Aw (Dg Tryz.results21 (AJ rfl) (AJ rfl)) (sS sN) ⟨rfl,rfl⟩
theorem RB (F:Nat)(s:Ah)(r:Ae×Int)(h:Jp F s=some r):Fn Tryz.prog GE 23 [rS s] [] (λR H=>R=C5 [Bz (Ao r.1),rI .i64 r.2]∧H=[]):=by
 refine enter (n:=59) Tryz.func23 rfl Tryz.ntmps23 rfl (λw Z=>?_);refine Bb (l':=[(0,rS s)]) (H':=[]) rfl rfl ?_;unfold Jp at h;refine Ak (Cf (cs:=[rS ([]:Ah),rI .i64 0,rS ([]:Ah),rS ([]:Ah),rv (.slice none 0 0)]) JX rfl rfl (λb1=>?_));refine wv (r:=rI .i64 0) (Ac rfl) (By (wm rfl ?_));obtain⟨r2,e4,h3⟩:=AL h;refine Co Tryz.call55 (RD F s r2 e4) rfl (wm rfl (wv (AF rfl rfl) (wv (AF rfl rfl) (wa rfl (wa rfl (Ar (Am (AA [(2,rv (.pointer (some ⟨b1,0,none⟩))),(4,Bo 1 (List.map eS r2.1)),(20,rB ((!decide (r2.2=0))||(!decide ((r2.1.length:Int)=5))))] [.blk b1 [rS ([]:Ah),rI .i64 0,rS ([]:Ah),rS ([]:Ah),rv (.slice none 0 0)] 31] ?_ ?_))))))))
 ·refine Aj (wm rfl (wv (CF rfl rfl) (wm rfl (AH (!decide (r2.2=0)) (λc5=>?_) (λc5=>?_)))))
  ·refine wf c5 (wf c5 (wf c5 (wv (r:=rB true) (As (b:=!decide (r2.2=0)) rfl c5 rfl) (Al ?_))));exact BO c5
  ·refine wo c5 (wm rfl (wo c5 (wv (BT (ys:=r2.1) (enc:=eS) DW rfl) (wo c5 (wv (CF rfl rfl) (D4 rfl c5 rfl (Al ?_)))))));exact BO c5
 refine Ap (b:=((!decide (r2.2=0))||(!decide ((r2.1.length:Int)=5)))) rfl (λc6=>?_) (λc6=>?_)
 ·have h7:=AB c6 h3;refine Ak (wv (r:=Bz [rS ([]:Ah),rI .i64 0,rS ([]:Ah),rS ([]:Ah),rv (.slice none 0 0)]) (ES ) (Bq (i:=0) Cc rfl rfl rfl (BM.c rfl) rfl rfl (cs':=[rS ([]:Ah),rI .i64 0,rS ([]:Ah),rS ([]:Ah),rv (.slice none 0 0)]) rfl (H':=[.blk b1 [rS ([]:Ah),rI .i64 0,rS ([]:Ah),rS ([]:Ah),rv (.slice none 0 0)] 31]) rfl (wv (r:=rI .i64 13) (Ac rfl) (Ar (Ax (Af (WK.upBlk (i:=0) (cs':=[rS ([]:Ah),rI .i64 0,rS ([]:Ah),rS ([]:Ah),Bo 4 (List.map Ab ([]:List Aa))]) rfl ⟨Up.refl _,Up.refl _,Up.refl _,Up.refl _,Up.le (GJ.nil _),trivial⟩ ?_)))))));obtain rfl:=Az h7;exact Aw (Dg UE (GV (i:=0) DY Cc rfl rfl rfl) (AJ rfl)) (sS sN) ⟨rfl,rfl⟩
 ·have h8:=AC c6 h3;refine At (AN (Ak (wm rfl ?_)));obtain⟨g9,hj⟩:=Av h8;refine wv (BY (enc:=eS) (ys:=r2.1) DW CV rfl rfl g9) (wv (BQ Dn rfl rfl) ?_);obtain⟨hk,hf⟩:=Av hj;refine GB (rs:=[rS (Ay r2.1 1)]) (r:=C5 [rI .i64 (Bt (Ay r2.1 1)),rI .i64 (B6 (Ay r2.1 1))]) Tryz.call56 rfl (V6 (Ay r2.1 1) hk) rfl rfl (wm rfl (wv (AF rfl rfl) (wv (AF rfl rfl) (wa rfl (wa rfl (Ar (Am (Ak (wm rfl (wv (CF rfl rfl) (Ar (Ap (b:=!decide ((B6 (Ay r2.1 1))=0)) rfl (λhb=>?_) (λhb=>?_)))))))))))))
  ·have hl:=AB hb hf;refine Ak (wv (r:=Bz [rS ([]:Ah),rI .i64 0,rS ([]:Ah),rS ([]:Ah),rv (.slice none 0 0)]) (ES ) (Bq (i:=0) Cc rfl rfl rfl (BM.c rfl) rfl rfl (cs':=[rS ([]:Ah),rI .i64 0,rS ([]:Ah),rS ([]:Ah),rv (.slice none 0 0)]) rfl (H':=[.blk b1 [rS ([]:Ah),rI .i64 0,rS ([]:Ah),rS ([]:Ah),rv (.slice none 0 0)] 31]) rfl (wv (r:=rI .i64 13) (Ac rfl) (Ar (Ax (Af (WK.upBlk (i:=0) (cs':=[rS ([]:Ah),rI .i64 0,rS ([]:Ah),rS ([]:Ah),Bo 4 (List.map Ab ([]:List Aa))]) rfl ⟨Up.refl _,Up.refl _,Up.refl _,Up.refl _,Up.le (GJ.nil _),trivial⟩ ?_)))))));obtain rfl:=Az hl;exact Aw (Dg UE (GV (i:=0) DY Cc rfl rfl rfl) (AJ rfl)) (sS sN) ⟨rfl,rfl⟩
  ·have hm:=AC hb hf;refine At (AN (Ak (wm rfl ?_)));obtain⟨g16,hn⟩:=Av hm;refine wv (BY (enc:=eS) (ys:=r2.1) DW CV rfl rfl g16) (wv (BQ Dn rfl rfl) ?_);obtain⟨ha,ho,hg⟩:=AL hn;refine Co Tryz.call57 (TJ F (Ay r2.1 4) ha ho) rfl (wm rfl (wv (AF rfl rfl) (wv (AF rfl rfl) (wa rfl (wa rfl (Ar (Am (Ak (wm rfl (wv (CF rfl rfl) (Ar (Ap (b:=!decide (ha.2=0)) rfl (λc21=>?_) (λc21=>?_)))))))))))))
   ·have hp:=AB c21 hg;refine Ak (wv (r:=Bz [rS ([]:Ah),rI .i64 0,rS ([]:Ah),rS ([]:Ah),rv (.slice none 0 0)]) (ES ) (Bq (i:=0) Cc rfl rfl rfl (BM.c rfl) rfl rfl (cs':=[rS ([]:Ah),rI .i64 0,rS ([]:Ah),rS ([]:Ah),rv (.slice none 0 0)]) rfl (H':=[.blk b1 [rS ([]:Ah),rI .i64 0,rS ([]:Ah),rS ([]:Ah),rv (.slice none 0 0)] 31]) rfl (wv (r:=rI .i64 13) (Ac rfl) (Ar (Ax (Af (WK.upBlk (i:=0) (cs':=[rS ([]:Ah),rI .i64 0,rS ([]:Ah),rS ([]:Ah),Bo 4 (List.map Ab ([]:List Aa))]) rfl ⟨Up.refl _,Up.refl _,Up.refl _,Up.refl _,Up.le (GJ.nil _),trivial⟩ ?_)))))));obtain rfl:=Az hp;exact Aw (Dg UE (GV (i:=0) DY Cc rfl rfl rfl) (AJ rfl)) (sS sN) ⟨rfl,rfl⟩
   ·have hq:=AC c21 hg;refine At (AN (Am ?_));obtain⟨hr,hs⟩:=Av hq;obtain⟨ht,hu⟩:=Av hs;obtain⟨hw,hx⟩:=Av hu;refine Ha 13 [2,4,6,7] [⟨[],Bo 1 (List.map eS r2.1),none,none,none⟩,⟨[0],PA [rS (Ay r2.1 0)],none,none,none⟩,⟨[1],rS (Ay r2.1 0),none,none,none⟩,⟨[],rI .i64 (Bt (Ay r2.1 1)),none,none,none⟩,⟨[],Bo 1 (List.map eS r2.1),none,none,none⟩,⟨[4],PA [rS (Ay r2.1 2)],none,none,none⟩,⟨[5],rS (Ay r2.1 2),none,none,none⟩,⟨[],Bo 1 (List.map eS r2.1),none,none,none⟩,⟨[7],PA [rS (Ay r2.1 3)],none,none,none⟩,⟨[8],rS (Ay r2.1 3),none,none,none⟩,⟨[],Bo 4 (List.map Ab ha.1),none,none,none⟩,⟨[2,3,6,9,10],Bz [rS (Ay r2.1 0),rI .i64 (Bt (Ay r2.1 1)),rS (Ay r2.1 2),rS (Ay r2.1 3),Bo 4 (List.map Ab ha.1)],none,none,none⟩,⟨[],rv undef,some ([rS ([]:Ah),rI .i64 0,rS ([]:Ah),rS ([]:Ah),rv (.slice none 0 0)],31),none,none⟩] ?_ (λβ=>?_)
    ·refine DE (Au rfl) (DE (BY (enc:=eS) (ys:=r2.1) DW CV rfl rfl hr) (DE (BQ Dn rfl rfl) (DE (Au rfl) (DE (Au rfl) (DE (BY (enc:=eS) (ys:=r2.1) DW CV rfl rfl ht) (DE (BQ Dn rfl rfl) (DE (Au rfl) (DE (BY (enc:=eS) (ys:=r2.1) DW CV rfl rfl hw) (DE (BQ Dn rfl rfl) (DE (Au rfl) (DE (E8 rfl rfl rfl rfl rfl rfl rfl rfl rfl rfl) (oal (WW (cs:=[rS ([]:Ah),rI .i64 0,rS ([]:Ah),rS ([]:Ah),rv (.slice none 0 0)]) JX rfl) ?_))))))))))));exact XH
    refine HZ (H1:=[.blk b1 [rS ([]:Ah),rI .i64 0,rS ([]:Ah),rS ([]:Ah),rv (.slice none 0 0)] 31,.blk (β 12) [rS ([]:Ah),rI .i64 0,rS ([]:Ah),rS ([]:Ah),rv (.slice none 0 0)] 31]) [42,43,44,45,46,47,48,49,50,51,52,53,8,2,4,6,7] ?_;generalize β 12=hd;refine Bq (i:=1) Cc rfl rfl rfl (BM.c rfl) rfl rfl (cs':=[rS (Ay r2.1 0),rI .i64 (Bt (Ay r2.1 1)),rS (Ay r2.1 2),rS (Ay r2.1 3),Bo 4 (List.map Ab ha.1)]) rfl (H':=[.blk b1 [rS ([]:Ah),rI .i64 0,rS ([]:Ah),rS ([]:Ah),rv (.slice none 0 0)] 31,.blk hd [rS (Ay r2.1 0),rI .i64 (Bt (Ay r2.1 1)),rS (Ay r2.1 2),rS (Ay r2.1 3),Bo 4 (List.map Ab ha.1)] 31]) rfl (Ar (Am (Ak (wv (Bs (i:=1) DY Cc rfl rfl rfl rfl) ?_))));obtain⟨hh,hy,hi⟩:=AL hx;refine Co Tryz.call48 (Qc F (Ae.mk (Ay r2.1 0) (Bt (Ay r2.1 1)) (Ay r2.1 2) (Ay r2.1 3) ha.1) hh hy) rfl (wv (CF rfl rfl) (Ar (Ap (b:=!decide (hh=0)) rfl (λhe=>?_) (λhe=>?_))))
    ·have hz:=AB he hi;refine Ak (wv (r:=Bz [rS ([]:Ah),rI .i64 0,rS ([]:Ah),rS ([]:Ah),rv (.slice none 0 0)]) (ES ) (Bq (i:=0) Cc rfl rfl rfl (BM.c rfl) rfl rfl (cs':=[rS ([]:Ah),rI .i64 0,rS ([]:Ah),rS ([]:Ah),rv (.slice none 0 0)]) rfl (H':=[.blk b1 [rS ([]:Ah),rI .i64 0,rS ([]:Ah),rS ([]:Ah),rv (.slice none 0 0)] 31,.blk hd [rS (Ay r2.1 0),rI .i64 (Bt (Ay r2.1 1)),rS (Ay r2.1 2),rS (Ay r2.1 3),Bo 4 (List.map Ab ha.1)] 31]) rfl (wv (r:=rI .i64 13) (Ac rfl) (Ar (Ax (Af (WK.upBlk (i:=0) (cs':=[rS ([]:Ah),rI .i64 0,rS ([]:Ah),rS ([]:Ah),Bo 4 (List.map Ab ([]:List Aa))]) rfl ⟨Up.refl _,Up.refl _,Up.refl _,Up.refl _,Up.le (GJ.nil _),trivial⟩ ?_)))))));obtain rfl:=Az hz;exact Aw (Dg UE (GV (i:=0) DY Cc rfl rfl rfl) (AJ rfl)) (sS (sS sN)) ⟨rfl,rfl⟩
    ·have h0:=AC he hi;refine At (AN (Ak (wv (Bs (i:=1) DY Cc rfl rfl rfl rfl) (Bq (i:=0) Cc rfl rfl rfl (BM.c rfl) rfl rfl (cs':=[rS (Ay r2.1 0),rI .i64 (Bt (Ay r2.1 1)),rS (Ay r2.1 2),rS (Ay r2.1 3),Bo 4 (List.map Ab ha.1)]) rfl (H':=[.blk b1 [rS (Ay r2.1 0),rI .i64 (Bt (Ay r2.1 1)),rS (Ay r2.1 2),rS (Ay r2.1 3),Bo 4 (List.map Ab ha.1)] 31,.blk hd [rS (Ay r2.1 0),rI .i64 (Bt (Ay r2.1 1)),rS (Ay r2.1 2),rS (Ay r2.1 3),Bo 4 (List.map Ab ha.1)] 31]) rfl (wv (r:=rI .i64 0) (Ac rfl) (Ar (Ax ?_)))))));obtain rfl:=Az h0;exact Aw (Dg UE (GV (i:=0) DY Cc rfl rfl rfl) (AJ rfl)) (sS (sS sN)) ⟨rfl,rfl⟩
end Go.Proofs.YtkoiaconljdbeaaGreatDoor.Q
namespace Go.Proofs.YtkoiaconljdbeaaGreatDoor
open Go
set_option linter.unusedVariables false
def Ju (F:Nat)(t:Ae)(s:Ah):Option (Bool):=
 AX ((HH F t).isSome)<|Bj (((!(ov (HH F t)))||(decide (20000<(s.length:Int))))) (Bx (Ig F) λr7=>some r7) (Bx (GC F t) λhb=>Bx (Jo F t) λhd=>Bx (JC F s) λha=>Bx (Jp F s) λhe=>AX (imp (!(!decide (hb.1=hd.1))) (imp (!(!decide (hb.2=hd.2))) (imp (!(!decide (ha.2=he.2))) ((Eg F ([ha.1]:List Ae) ([he.1]:List Ae)).isSome))))<|Bj (((!decide (hb.1=hd.1))||((!decide (hb.2=hd.2))||((!decide (ha.2=he.2))||(!(ov (Eg F ([ha.1]:List Ae) ([he.1]:List Ae)))))))) (some false) (Bj (decide (hb.2=0)) (Bx (JC F hb.1) λhf=>AX (imp (!(!decide (hf.2=0))) ((Eg F ([hf.1]:List Ae) ([t]:List Ae)).isSome))<|Bj (((!decide (hf.2=0))||(!(ov (Eg F ([hf.1]:List Ae) ([t]:List Ae)))))) (some false) (Bj (decide (ha.2=0)) (Bx (GC F ha.1) λhg=>Bj (((!decide (hg.2=0))||(!decide (hg.1=s)))) (some false) (Bx (Ig F) λhi=>some hi)) (Bx (Ig F) λhj=>some hj))) (Bj (decide (ha.2=0)) (Bx (GC F ha.1) λhh=>Bj (((!decide (hh.2=0))||(!decide (hh.1=s)))) (some false) (Bx (Ig F) λhk=>some hk)) (Bx (Ig F) λhl=>some hl))))
end Go.Proofs.YtkoiaconljdbeaaGreatDoor
namespace Go.Proofs.YtkoiaconljdbeaaGreatDoor.Q
open Go Go.RowKit
set_option linter.unusedVariables false
set_option linter.unusedSimpArgs false
set_option maxRecDepth 100000
set_option maxHeartbeats 4000000
theorem RP (F:Nat)(t:Ae)(s:Ah)(r:Bool)(h:Ju F t s=some r):Fn Tryz.prog GE 4 [Bz (Ao t),rS s] [] (λR H=>R=rB r∧H=[]):=by
 refine enter (n:=99) Tryz.func4 rfl Tryz.ntmps4 rfl (λw Z=>?_);refine Bb (l':=[(0,Bz (Ao t)),(1,rS s)]) (H':=[]) rfl rfl ?_;unfold Ju at h;refine Ak (C1 rfl rfl (λb1=>?_));refine wv (r:=rB false) (Ac rfl) (Ar (Am ?_));obtain⟨g2,h3⟩:=Av h;refine AA [(1,rS s),(2,rv (.pointer (some ⟨b1,0,none⟩))),(24,rB ((!(ov (HH F t)))||(decide (20000<(s.length:Int)))))] [.blk b1 (Ao t) 31] ?_ ?_
 ·refine Aj (wv (Bs (i:=0) DY Cc rfl rfl rfl rfl) (Co Tryz.call19 (Vp F t (ov (HH F t)) (Gr g2)) rfl (wv (BJ rfl) (wm rfl (AH (!(ov (HH F t))) (λc4=>?_) (λc4=>?_))))))
  ·refine wf c4 (wf c4 (wf c4 (wv (r:=rB true) (As (b:=!(ov (HH F t))) rfl c4 rfl) (Al ?_))));exact BO c4
  ·refine wo c4 (wm rfl (wo c4 (wv (Bd BP rfl) (wo c4 (wv (Cl rfl rfl) (D4 rfl c4 rfl (Al ?_)))))));exact BO c4
 refine Ap (b:=((!(ov (HH F t)))||(decide (20000<(s.length:Int))))) rfl (λc5=>?_) (λc5=>?_)
 ·have h6:=AB c5 h3;refine Ak ?_;obtain⟨r7,e9,h8⟩:=AL h6;refine Co Z8 (Jv F r7 e9) rfl (wa rfl (Ar (Ax (Af ?_))));obtain rfl:=Az h8;exact Aw (BS Xi (AJ rfl)) (sS sN) ⟨rfl,rfl⟩
 ·have h4:=AC c5 h3;refine At (AN (Ak (wv (Bs (i:=0) DY Cc rfl rfl rfl rfl) ?_)));obtain⟨hh,h5,h7⟩:=AL h4;refine Co Tryz.call20 (JB F t hh h5) rfl (wm rfl (wv (AF rfl rfl) (wv (AF rfl rfl) (wa rfl (wa rfl (By (wv (Bs (i:=0) DY Cc rfl rfl rfl rfl) ?_)))))));obtain⟨hl,h9,hA⟩:=AL h7;refine Co Tryz.call21 (RA F t hl h9) rfl (wm rfl (wv (AF rfl rfl) (wv (AF rfl rfl) (wa rfl (wa rfl (By (wm rfl ?_)))))));obtain⟨ha,hB,hC⟩:=AL hA;refine Co Tryz.call22 (Om F s ha hB) rfl (wm rfl (wv (AF rfl rfl) (wv (AF rfl rfl) (Cf (cs:=[rS ([]:Ah),rI .i64 0,rS ([]:Ah),rS ([]:Ah),rv (.slice none 0 0)]) JX rfl rfl (λhm=>?_)))));refine Bq (i:=0) Cc rfl rfl rfl (BM.c rfl) rfl rfl (cs':=[rS ha.1.fID,rI .i64 ha.1.fAt,rS ha.1.fTenant,rS ha.1.fSource,Bo 4 (List.map Ab ha.1.fBody)]) rfl (H':=[.blk hm (Ao ha.1) 31,.blk b1 (Ao t) 31]) rfl (wa rfl (By (wm rfl ?_)));obtain⟨hb,hD,hE⟩:=AL hC;refine Co Tryz.call23 (RB F s hb hD) rfl (wm rfl (wv (AF rfl rfl) (wv (AF rfl rfl) (Cf (cs:=[rS ([]:Ah),rI .i64 0,rS ([]:Ah),rS ([]:Ah),rv (.slice none 0 0)]) JX rfl rfl (λhG=>?_)))));refine Bq (i:=0) Cc rfl rfl rfl (BM.c rfl) rfl rfl (cs':=[rS hb.1.fID,rI .i64 hb.1.fAt,rS hb.1.fTenant,rS hb.1.fSource,Bo 4 (List.map Ab hb.1.fBody)]) rfl (H':=[.blk hG (Ao hb.1) 31,.blk hm (Ao ha.1) 31,.blk b1 (Ao t) 31]) rfl (wa rfl (Ar (Am ?_)));obtain⟨hH,hw⟩:=Av hE;refine AA [(1,rS s),(2,rv (.pointer (some ⟨b1,0,none⟩))),(5,rS hh.1),(6,rI .i64 hh.2),(9,rv (.pointer (some ⟨hm,0,none⟩))),(10,rI .i64 ha.2),(66,rB ((!decide (hh.1=hl.1))||((!decide (hh.2=hl.2))||((!decide (ha.2=hb.2))||(!(ov (Eg F ([ha.1]:List Ae) ([hb.1]:List Ae))))))))] [.blk hm (Ao ha.1) 31,.blk b1 (Ao t) 31] ?_ ?_
  ·refine Aj (wm rfl (wm rfl (wv (IW rfl rfl) (wm rfl (AH (!decide (hh.1=hl.1)) (λhg=>?_) (λhg=>?_))))))
   ·refine wf hg (wf hg (wf hg (wv (r:=rB true) (As (b:=!decide (hh.1=hl.1)) rfl hg rfl) (wm rfl (An (b:=true) rfl rfl rfl rfl (An (b:=true) rfl rfl rfl rfl (An (b:=true) rfl rfl rfl rfl (wv (r:=rB true) (As (b:=true) rfl rfl rfl) (wm rfl (An (b:=true) rfl rfl rfl rfl (An (b:=true) rfl rfl rfl rfl (An (b:=true) rfl rfl rfl rfl (An (b:=true) rfl rfl rfl rfl (An (b:=true) rfl rfl rfl rfl (An (b:=true) rfl rfl rfl rfl (wv (r:=rB true) (As (b:=true) rfl rfl rfl) (Al ?_)))))))))))))))));exact BO hg
   ·refine wo hg (wm rfl (wo hg (wm rfl (wo hg (wv (CF rfl rfl) (D4 rfl hg rfl (wm rfl (AH (!decide (hh.2=hl.2)) (λhi=>?_) (λhi=>?_)))))))))
    ·refine wf hi (wf hi (wf hi (wv (r:=rB true) (As (b:=!decide (hh.2=hl.2)) rfl hi rfl) (wm rfl (An (b:=true) rfl rfl rfl rfl (An (b:=true) rfl rfl rfl rfl (An (b:=true) rfl rfl rfl rfl (An (b:=true) rfl rfl rfl rfl (An (b:=true) rfl rfl rfl rfl (An (b:=true) rfl rfl rfl rfl (wv (r:=rB true) (As (b:=true) rfl rfl rfl) (Al ?_))))))))))));exact BO (And.intro hg hi)
    ·refine wo hi (wm rfl (wo hi (wm rfl (wo hi (wv (CF rfl rfl) (D4 rfl hi rfl (wm rfl (AH (!decide (ha.2=hb.2)) (λhe=>?_) (λhe=>?_)))))))))
     ·refine wf he (wf he (wf he (wf he (wf he (wf he (wv (r:=rB true) (As (b:=!decide (ha.2=hb.2)) rfl he rfl) (Al ?_)))))));exact BO (And.intro hg (And.intro hi he))
     ·refine wo he (wv (Bs (i:=1) DY Cc rfl rfl rfl rfl) (wo he (AY (ys:=([ha.1]:List Ae)) (enc:=Ao) (css:=[[rS ha.1.fID,rI .i64 ha.1.fAt,rS ha.1.fTenant,rS ha.1.fSource,Bo 4 (List.map Ab ha.1.fBody)]]) (xs:=[.tmp 60]) GO Cc JX rfl rfl rfl ⟨Gw.agg ⟨Up.refl _,Up.refl _,Up.refl _,Up.refl _,Up.refl _,trivial⟩,trivial⟩ rfl DA rfl rfl rfl (λgm=>?_))));refine wo he (wv (Bs (i:=1) DY Cc rfl rfl rfl rfl) (wo he (AY (ys:=([hb.1]:List Ae)) (enc:=Ao) (css:=[[rS hb.1.fID,rI .i64 hb.1.fAt,rS hb.1.fTenant,rS hb.1.fSource,Bo 4 (List.map Ab hb.1.fBody)]]) (xs:=[.tmp 62]) GO Cc JX rfl rfl rfl ⟨Gw.agg ⟨Up.refl _,Up.refl _,Up.refl _,Up.refl _,Up.refl _,trivial⟩,trivial⟩ rfl DA rfl rfl rfl (λgn=>?_))));refine wo he (WL.freeze (i:=1) rfl (WL.up (d:=61) (r:=Bo 5 (List.map Ao ([ha.1]:List Ae))) rfl (Up.fact (i:=0) rfl) (WL.freeze (i:=1) rfl (WL.up (d:=63) (r:=Bo 5 (List.map Ao ([hb.1]:List Ae))) rfl (Up.fact (i:=0) rfl) (Co Tryz.call10 (Qf F ([ha.1]:List Ae) ([hb.1]:List Ae) (ov (Eg F ([ha.1]:List Ae) ([hb.1]:List Ae))) (Gr (C4 (C4 (C4 hH hg) hi) he))) rfl (wo he (wv (BJ rfl) (D4 rfl he rfl (Al ?_)))))))));exact BO (And.intro hg (And.intro hi he))
  refine Ap (b:=((!decide (hh.1=hl.1))||((!decide (hh.2=hl.2))||((!decide (ha.2=hb.2))||(!(ov (Eg F ([ha.1]:List Ae) ([hb.1]:List Ae)))))))) rfl (λhp=>?_) (λhp=>?_)
  ·have hI:=AB hp hw;refine Ak (wv (r:=rB false) (Ac rfl) (Ar (Ax (Af ?_))));obtain rfl:=Az hI;exact Aw (BS Xi (AJ rfl)) (sS (sS sN)) ⟨rfl,rfl⟩
  ·have hx:=AC hp hw;refine At (AN (Am (Ak (wm rfl (wv (B3 rfl rfl) (Ar (Ap (b:=decide (hh.2=0)) rfl (λhq=>?_) (λhq=>?_))))))))
   ·have hJ:=AB hq hx;refine Ak (wm rfl ?_);obtain⟨hd,hK,hL⟩:=AL hJ;refine Co Tryz.call22 (Om F hh.1 hd hK) rfl (wm rfl (wv (AF rfl rfl) (wv (AF rfl rfl) (Cf (cs:=[rS ([]:Ah),rI .i64 0,rS ([]:Ah),rS ([]:Ah),rv (.slice none 0 0)]) JX rfl rfl (λhN=>?_)))));refine Bq (i:=0) Cc rfl rfl rfl (BM.c rfl) rfl rfl (cs':=[rS hd.1.fID,rI .i64 hd.1.fAt,rS hd.1.fTenant,rS hd.1.fSource,Bo 4 (List.map Ab hd.1.fBody)]) rfl (H':=[.blk hN (Ao hd.1) 31,.blk hm (Ao ha.1) 31,.blk b1 (Ao t) 31]) rfl (wa rfl (Ar ?_));obtain⟨hO,hy⟩:=Av hL;refine AA [(1,rS s),(9,rv (.pointer (some ⟨hm,0,none⟩))),(10,rI .i64 ha.2),(83,rB ((!decide (hd.2=0))||(!(ov (Eg F ([hd.1]:List Ae) ([t]:List Ae))))))] [.blk hm (Ao ha.1) 31] ?_ ?_
    ·refine Aj (wm rfl (wv (CF rfl rfl) (wm rfl (AH (!decide (hd.2=0)) (λhf=>?_) (λhf=>?_)))))
     ·refine wf hf (wf hf (wf hf (wf hf (wf hf (wf hf (wv (r:=rB true) (As (b:=!decide (hd.2=0)) rfl hf rfl) (Al ?_)))))));exact BO hf
     ·refine wo hf (wv (Bs (i:=0) DY Cc rfl rfl rfl rfl) (wo hf (AY (ys:=([hd.1]:List Ae)) (enc:=Ao) (css:=[[rS hd.1.fID,rI .i64 hd.1.fAt,rS hd.1.fTenant,rS hd.1.fSource,Bo 4 (List.map Ab hd.1.fBody)]]) (xs:=[.tmp 77]) GO Cc JX rfl rfl rfl ⟨Gw.agg ⟨Up.refl _,Up.refl _,Up.refl _,Up.refl _,Up.refl _,trivial⟩,trivial⟩ rfl DA rfl rfl rfl (λgp=>?_))));refine wo hf (wv (Bs (i:=3) DY Cc rfl rfl rfl rfl) (wo hf (AY (ys:=([t]:List Ae)) (enc:=Ao) (css:=[[rS t.fID,rI .i64 t.fAt,rS t.fTenant,rS t.fSource,Bo 4 (List.map Ab t.fBody)]]) (xs:=[.tmp 79]) GO Cc JX rfl rfl rfl ⟨Gw.agg ⟨Up.refl _,Up.refl _,Up.refl _,Up.refl _,Up.refl _,trivial⟩,trivial⟩ rfl DA rfl rfl rfl (λgq=>?_))));refine wo hf (WL.freeze (i:=1) rfl (WL.up (d:=78) (r:=Bo 5 (List.map Ao ([hd.1]:List Ae))) rfl (Up.fact (i:=0) rfl) (WL.freeze (i:=1) rfl (WL.up (d:=80) (r:=Bo 5 (List.map Ao ([t]:List Ae))) rfl (Up.fact (i:=0) rfl) (Co Tryz.call10 (Qf F ([hd.1]:List Ae) ([t]:List Ae) (ov (Eg F ([hd.1]:List Ae) ([t]:List Ae))) (Gr (C4 hO hf))) rfl (wo hf (wv (BJ rfl) (D4 rfl hf rfl (Al ?_)))))))));exact BO hf
    refine Ap (b:=((!decide (hd.2=0))||(!(ov (Eg F ([hd.1]:List Ae) ([t]:List Ae)))))) rfl (λc46=>?_) (λc46=>?_)
    ·have hP:=AB c46 hy;refine Ak (wv (r:=rB false) (Ac rfl) (Ar (Ax (Af ?_))));obtain rfl:=Az hP;exact Aw (BS Xi (AJ rfl)) (sS sN) ⟨rfl,rfl⟩
    ·have hz:=AC c46 hy;refine At (AN (Am (Ak (wm rfl (wv (B3 rfl rfl) (Ar (Ap (b:=decide (ha.2=0)) rfl (λhr=>?_) (λhr=>?_))))))))
     ·have hQ:=AB hr hz;refine Ak (wv (Bs (i:=0) DY Cc rfl rfl rfl rfl) ?_);obtain⟨hn,hR,h0⟩:=AL hQ;refine Co Tryz.call20 (JB F ha.1 hn hR) rfl (wm rfl (wv (AF rfl rfl) (wv (AF rfl rfl) (wa rfl (wa rfl (Ar (AA [(97,rB ((!decide (hn.2=0))||(!decide (hn.1=s))))] [] ?_ ?_)))))))
      ·refine Aj (wm rfl (wv (CF rfl rfl) (wm rfl (AH (!decide (hn.2=0)) (λhj=>?_) (λhj=>?_)))))
       ·refine wf hj (wf hj (wf hj (wv (r:=rB true) (As (b:=!decide (hn.2=0)) rfl hj rfl) (Al ?_))));exact BO hj
       ·refine wo hj (wm rfl (wo hj (wm rfl (wo hj (wv (IW rfl rfl) (D4 rfl hj rfl (Al ?_)))))));exact BO hj
      refine Ap (b:=((!decide (hn.2=0))||(!decide (hn.1=s)))) rfl (λhs=>?_) (λhs=>?_)
      ·have hS:=AB hs h0;refine Ak (wv (r:=rB false) (Ac rfl) (Ar (Ax (Af ?_))));obtain rfl:=Az hS;exact Aw (BS Xi (AJ rfl)) sN ⟨rfl,rfl⟩
      ·have hT:=AC hs h0;refine At (AN (Ak ?_));obtain⟨hU,hV,hW⟩:=AL hT;refine Co Z8 (Jv F hU hV) rfl (wa rfl (Ar (Ax ?_)));obtain rfl:=Az hW;exact Aw (BS Xi (AJ rfl)) sN ⟨rfl,rfl⟩
     ·have hX:=AC hr hz;refine At (AN (Ak ?_));obtain⟨hY,hZ,ga⟩:=AL hX;refine Co Z8 (Jv F hY hZ) rfl (wa rfl (Ar (Ax ?_)));obtain rfl:=Az ga;exact Aw (BS Xi (AJ rfl)) (sS sN) ⟨rfl,rfl⟩
   ·have h1:=AC hq hx;refine At (AN (Am (Ak (wm rfl (wv (B3 rfl rfl) (Ar (Ap (b:=decide (ha.2=0)) rfl (λht=>?_) (λht=>?_))))))))
    ·have gb:=AB ht h1;refine Ak (wv (Bs (i:=0) DY Cc rfl rfl rfl rfl) ?_);obtain⟨ho,gc,h2⟩:=AL gb;refine Co Tryz.call20 (JB F ha.1 ho gc) rfl (wm rfl (wv (AF rfl rfl) (wv (AF rfl rfl) (wa rfl (wa rfl (Ar (AA [(97,rB ((!decide (ho.2=0))||(!decide (ho.1=s))))] [] ?_ ?_)))))))
     ·refine Aj (wm rfl (wv (CF rfl rfl) (wm rfl (AH (!decide (ho.2=0)) (λhk=>?_) (λhk=>?_)))))
      ·refine wf hk (wf hk (wf hk (wv (r:=rB true) (As (b:=!decide (ho.2=0)) rfl hk rfl) (Al ?_))));exact BO hk
      ·refine wo hk (wm rfl (wo hk (wm rfl (wo hk (wv (IW rfl rfl) (D4 rfl hk rfl (Al ?_)))))));exact BO hk
     refine Ap (b:=((!decide (ho.2=0))||(!decide (ho.1=s)))) rfl (λhu=>?_) (λhu=>?_)
     ·have gd:=AB hu h2;refine Ak (wv (r:=rB false) (Ac rfl) (Ar (Ax (Af ?_))));obtain rfl:=Az gd;exact Aw (BS Xi (AJ rfl)) sN ⟨rfl,rfl⟩
     ·have ge:=AC hu h2;refine At (AN (Ak ?_));obtain⟨gf,gg,gh⟩:=AL ge;refine Co Z8 (Jv F gf gg) rfl (wa rfl (Ar (Ax ?_)));obtain rfl:=Az gh;exact Aw (BS Xi (AJ rfl)) sN ⟨rfl,rfl⟩
    ·have gi:=AC ht h1;refine At (AN (Ak ?_));obtain⟨gj,gk,gl⟩:=AL gi;refine Co Z8 (Jv F gj gk) rfl (wa rfl (Ar (Ax ?_)));obtain rfl:=Az gl;exact Aw (BS Xi (AJ rfl)) (sS (sS sN)) ⟨rfl,rfl⟩
end Go.Proofs.YtkoiaconljdbeaaGreatDoor.Q
namespace Go.Proofs.YtkoiaconljdbeaaGreatDoor.lawTimerRecords
open Go
set_option linter.unusedVariables false
def VF (y:Aa):Bool:=(Bw .i64) y.fKind&&(Bw .i64) y.fInt&&VD y.fStr&&(Bw .i64) y.fN
def VG (y:Ae):Bool:=VD y.fID&&(Bw .i64) y.fAt&&VD y.fTenant&&VD y.fSource&&(λys:(List Aa)=>ys.all VF&&decide (ys.length≤9223372036854775807)) y.fBody
def Law:Prop:=∀(y0:Ae) (y1:Ah) (o0:VG y0=true) (o1:VD y1=true),∃F,Ju F y0 y1=some true
end Go.Proofs.YtkoiaconljdbeaaGreatDoor.lawTimerRecords
namespace Go.Proofs.YtkoiaconljdbeaaGreatDoor
open Go
set_option linter.unusedVariables false
set_option linter.unusedSimpArgs false
def JN (c:UInt8):Bool:=decide (32≤c.toNat)&&decide (c.toNat≤126)
theorem Dl {s:Ah}{x:Int}{c:UInt8}(h:s[x.toNat]? =some c):AT s x=(c.toNat:Int):=by simp[AT,h]
theorem NZ {α:Type}{p:α→Bool}{s:List α}{k:Nat}{c:α}(h:s[k]? =some c):(s.take (k+1)).all p=((s.take k).all p&&p c):=by
 rw[List.take_add_one,h];simp
theorem P5 {α:Type}{p:α→Bool}{s:List α}{k:Nat}{c:α}(h:s[k]? =some c)(hp:p c=false):s.all p=false:=by
 rw[List.all_eq_false];exact⟨c,Abh h,by simp[hp]⟩
theorem PN {F:Nat}{s:Ah}(hF:s.length<F)(hs:s.length≤9223372036854775807):KD F s=some (s.all JN):=by
 obtain⟨o,h1,h2⟩:=Hk (body:=λσ=>Io s σ) (λx=>0≤x∧x≤(s.length:Int)∧(s.take x.toNat).all JN=true) (λx=>s.length-x.toNat)
  (λo=>BL (λ_=>In) o=some (s.all JN)) (λx ⟨h0,hl,ha⟩=>by
   unfold Io
   by_cases hx:x<(s.length:Int)
   ·obtain⟨c,hc⟩:∃c,s[x.toNat]? =some c:=⟨s[x.toNat]'(by omega),AaY (by omega)⟩
    rw[AP (by simpa using hx),Bl h0 hx,Dl hc]
    cases ho:JN c with
    | false=>
     refine .inr ⟨.ret false,?_,?_⟩
     ·rw[AP];simp only[JN,Abx,AaK] at ho;simp only[Abt,AaL];omega
     ·simp[BL,P5 hc ho]
    | true=>
     refine .inl ⟨x+1,?_,⟨by omega,by omega,?_⟩,by omega⟩
     ·rw[A8,AI (by omega) (by omega)];simp only[JN,AaO,AaL] at ho;simp only[Abn,AaK];omega
     ·rw[show(x+1).toNat=x.toNat+1 from by omega,NZ hc,ha,ho];rfl
   ·refine .inr ⟨.go (),by rw[A8 (by simpa using hx)],?_⟩;rw[show x.toNat=s.length from by omega,AbK] at ha;simp[BL,In,ha]) F 0 ⟨by omega,by omega,by simp⟩ (by simpa using hF)
 unfold KD;rw[AS h1,h2]
theorem Pe (F:Nat)(s:Ah):Jn F s=KD F s:=rfl
theorem TB {F:Nat}{s:Ah}(hF:s.length<F)(hs:s.length≤9223372036854775807):Jn F s=some (s.all JN):=by rw[Pe];exact PN hF hs
def pl (c:Aa):Bool:=
 bif decide (c.fKind=1) then(decide (c.fInt=0)&&(decide (c.fStr=[])&&decide (c.fN=0))) else
 bif decide (c.fKind=2) then((decide (c.fInt=0)||decide (c.fInt=1))&&(decide (c.fStr=[])&&decide (c.fN=0))) else
 bif decide (c.fKind=3) then(decide (c.fStr=[])&&decide (c.fN=0)) else
 bif decide (c.fKind=4) then(decide (c.fInt=0)&&(decide (c.fN=0)&&c.fStr.all JN)) else
 bif decide (c.fKind=5) then(decide (c.fInt=0)&&(decide (c.fStr=[])&&decide (0≤c.fN))) else
 bif decide (c.fKind=6) then(decide (c.fInt=0)&&(decide (c.fStr=[])&&decide (0≤c.fN))) else false
theorem EJ {α:Type}{p:Bool}{x y:Option α}{a b:α}(h:x=some a)(h':y=some b):Bj p x y=some (bif p then a else b):=by cases p<;>simp[Bj,h,h']
theorem Tw {F:Nat}{c:Aa}(hF:c.fStr.length<F)(hs:c.fStr.length≤9223372036854775807):Nd F c=some (pl c):=by
 unfold Nd pl;rw[PN hF hs];refine EJ rfl (EJ ?_ (EJ rfl (EJ ?_ (EJ rfl (EJ rfl rfl)))))
 ·cases h:decide (c.fInt=0)<;>simp
 ·simp[imp,AX,ov]
def Mq:List AE→List AE
 | []=>[]
 | e::S=>bif decide (1<e.fLeft) then⟨e.fPairs,e.fLeft-1,e.fPairs,e.fLast,e.fStarted⟩::S else Mq S
theorem MS {α:Type}[Inhabited α](xs:List α)(e:α):Ay (xs++[e]) (xs.length:Int)=e:=by simp[Ay]
theorem KR {α:Type}(xs:List α)(e e':α):List.set (xs++[e]) (Int.toNat (xs.length:Int)) e'=xs++[e']:=by simp
theorem Lm {α:Type}(xs:List α)(e:α):((xs++[e]).length:Int)-1=(xs.length:Int):=by simp
theorem T2 {α:Type}(xs:List α)(e:α):List.take (Int.toNat (xs.length:Int)) (xs++[e])=xs:=by simp
theorem Mg:∀(S:List AE) (F:Nat),S.length<F→(∀e∈S,1≤e.fLeft∧e.fLeft≤9223372036854775807)→S.length≤4611686018427387904→
  ∃o,Cg (λσ=>Ed σ) F S.reverse=some o∧BL (λν=>EQ ν) o=some (Mq S).reverse
 | [],F+1,_,_,_=>⟨.go [],by simp[Cg,Ed,Bj],by simp[BL,EQ,Mq]⟩
 | e::S,F+1,hF,hb,hl=>by
  obtain⟨h1,h2⟩:=hb e (by simp);simp only[AaM] at hF hl;have hx:S.reverse.length=S.length:=by simp
  generalize hxs:S.reverse=xs at hx;have hr:(e::S).reverse=xs++[e]:=by simp[hxs]
  rw[hr];have hb1:Ed (xs++[e])=bif decide (1<e.fLeft) then some (.out (.ret (xs++[⟨e.fPairs,e.fLeft-1,e.fPairs,e.fLast,e.fStarted⟩]))) else some (.next xs):=by
   unfold Ed;rw[AP (by simp)];simp only[Lm,MS,KR,Lx];rw[AI (by omega) (by omega),Bl (by omega) (by simp;omega),AI (by omega) (by omega)]
   cases hd:decide (1<e.fLeft) with
   | true=>
    rw[AP (by simp at hd ⊢;omega)];rfl
   | false=>
    rw[A8 (by simp at hd ⊢;omega),AI (by omega) (by omega),Cq (by omega) (by simp;omega),T2];rfl
  rw[Cg,hb1]
  cases hd:decide (1<e.fLeft) with
  | true=>exact⟨_,rfl,by simp[BL,EQ,Mq,hd,hxs]⟩
  | false=>
   obtain⟨o,ho1,ho2⟩:=Mg S F (by omega) (λe he=>hb e (by simp[he])) (by omega);rw[hxs] at ho1;exact⟨o,ho1,by rw[ho2];simp[Mq,hd]⟩
theorem Ng {S:List AE}{F:Nat}(hF:S.length<F)(hb:∀e∈S,1≤e.fLeft∧e.fLeft≤9223372036854775807)(hl:S.length≤4611686018427387904):KI F S.reverse=some (Mq S).reverse:=by
 obtain⟨o,h1,h2⟩:=Mg S F hF hb hl;unfold KI;rw[AS h1,h2]
def LD (s:Ah):Int:=s.length+2+s.count 34+s.count 92
theorem Nb {s:Ah}(hs:s.length≤1152921504606846976):JA s=some (LD s):=by
 have h1:s.count 34≤s.length:=List.count_le_length;have h2:s.count 92≤s.length:=List.count_le_length;unfold JA Lib.countByte;rw[AI (by omega) (by omega),AI (by omega) (by omega),AI (by omega) (by omega)];rfl
def YP (c:Aa):Int:=
 bif decide (c.fKind=1) then 4 else bif decide (c.fKind=2) then IntKind.wrap .i64 (5-c.fInt) else bif decide (c.fKind=3) then((Lib.itoa c.fInt).length:Int) else
 bif decide (c.fKind=4) then LD c.fStr else IntKind.wrap .i64 (2+max 0 (IntKind.wrap .i64 (c.fN-1)))
theorem PO {c:Aa}(hs:c.fStr.length≤1152921504606846976)(hi:Bw .i64 c.fInt=true):PP c=some (YP c):=by
 unfold PP YP;rw[Nb hs];refine EJ rfl (EJ rfl (EJ ?_ (EJ rfl rfl)));rw[BB hi]
def Ja (d:Nat)(sh:AR)(c:Aa):AR:=
 ⟨max sh.fDepth ((d:Int)+1),IntKind.wrap .i64 (sh.fBytes+YP c),sh.fOutside||(decide (c.fKind=3)&&!(decide ((-1000000000000)≤c.fInt)&&decide (c.fInt≤1000000000000))),sh.fLong||decide (200<(c.fStr.length:Int))⟩
def ZA (sh:AR)(c:Aa):AR:=⟨sh.fDepth,IntKind.wrap .i64 (sh.fBytes+(LD c.fStr+1)),sh.fOutside,sh.fLong||decide (200<(c.fStr.length:Int))⟩
def LM:List AE→Bool
 | []=>false
 | e::_=>e.fKey
abbrev PC:=List AE×Int×AR
abbrev YC:=Out (Int×AR×Bool) AR
def Rk (n:Int)(S:List AE)(i:Int)(sh:AR)(c:Aa):Stp PC YC:=
 bif !pl c then .out (.ret (0,sh,false)) else
 match S with
 | e::S'=>
  bif e.fKey then
   bif !decide (c.fKind=4)||(e.fStarted&&(BI c.fStr e.fLast||decide (c.fStr=e.fLast))) then .out (.ret (0,sh,false))
   else .next ((⟨e.fPairs,e.fLeft,false,c.fStr,true⟩::S').reverse,i+1,ZA sh c)
  else bif decide (0<c.fN) then
   bif decide (n<c.fN) then .out (.ret (0,Ja S.length sh c,false))
   else .next ((⟨decide (c.fKind=6),c.fN,decide (c.fKind=6),[],false⟩::S).reverse,i+1,Ja S.length sh c)
  else bif decide (Mq S=[]) then .out (.ret (i+1,Ja S.length sh c,true)) else .next ((Mq S).reverse,i+1,Ja S.length sh c)
 | []=>
  bif decide (0<c.fN) then
   bif decide (n<c.fN) then .out (.ret (0,Ja 0 sh c,false))
   else .next ([⟨decide (c.fKind=6),c.fN,decide (c.fKind=6),[],false⟩],i+1,Ja 0 sh c)
  else .out (.ret (i+1,Ja 0 sh c,true))
theorem NK {S:List AE}:decide (((Mq S).reverse.length:Int)=0)=decide (Mq S=[]):=by
 rw[Abj];simp
theorem ZU {α:Type}{xs:List α}{e x:α}{M:Nat}(h:xs.length+1≤M)(hM2:(M+2)*48≤140737488355328):DC 48 ((xs++[e]).length+([x]:List α).length)=true:=by
 refine AaU (Nat.le_trans (Nat.mul_le_mul_right 48 ?_) hM2);rw[AaS,Abs,Abs];omega
set_option maxHeartbeats 600000 in
theorem PU {F:Nat}{v:List Aa}{S:List AE}{i:Int}{sh:AR}{c:Aa}(h0:0≤i)(hc:v[i.toNat]? =some c){M:Nat}(hM:M≤1152921504606846976)(hM2:(M+2)*48≤140737488355328)(hv:v.length≤M)(hS:S.length≤M)(hF:M<F)
  (hs:c.fStr.length≤M) (hi:Bw .i64 c.fInt=true) (hb:∀e∈S,1≤e.fLeft∧e.fLeft≤9223372036854775807):Ec F v S.reverse i sh=some (Rk v.length S i sh c):=by
 have hil:i.toNat<v.length:=(List.getElem?_eq_some_iff.1 hc).1;have hat:Ay v i=c:=by simp[Ay,hc]
 unfold Ec Rk;rw[AP (by simp;omega),Bl h0 (by omega),hat,Tw (by omega) (by omega),AS rfl]
 cases hp:pl c with
 | false=>rw[AP (by simp)];rfl
 | true=>
  rw[A8 (by simp)]
  cases S with
  | nil=>
   rw[BB (by simp[imp]),BB (by simp[imp]),A8 (by simp),AI (by simp) (by simp),PO (by omega) hi,AS rfl,BB (by simp[imp,BG])];simp only[BG,ov,Ab0,AaV,AaN]
   cases hn:decide (0<c.fN) with
   | true=>
    rw[AP rfl]
    cases hm:decide ((v.length:Int)<c.fN) with
    | true=>rw[AP rfl];simp[Ja]
    | false=>rw[A8 rfl,BB (by simp[DC])];unfold EE;rw[AI (by omega) (by omega)];simp[Ja]
   | false=>
    rw[A8 rfl,AS (Ng (S:=[]) (by simp;omega) (by simp) (by simp)),AP (by simp[Mq]),AI (by omega) (by omega)];simp[Ja]
  | cons e S'=>
   have hx:S'.reverse.length=S'.length:=by simp
   generalize hxs:S'.reverse=xs at hx;have hr:(e::S').reverse=xs++[e]:=by simp[hxs]
   simp only[AaM] at hS;have hlen:((xs++[e]).length:Int)=(xs.length:Int)+1:=by simp
   rw[hr,BB (by simp only[imp,Lm];rw[HK (by omega) (by omega)];simp),BB (by simp only[imp,Lm];rw[Lq (by omega) (by omega)];simp)];rw[Lm,MS]
   cases hk:e.fKey with
   | true=>
    rw[AP (by simp),AI (by omega) (by omega),Bl (by omega) (by omega)];simp only[hk,AaV,AaN,AaQ]
    cases ht : !decide (c.fKind=4)||(e.fStarted&&(BI c.fStr e.fLast||decide (c.fStr=e.fLast))) with
    | true=>rw[AP rfl];rfl
    | false=>
     rw[A8 rfl,KR,Lx,MS,KR,Lx,MS,KR,Lx,Nb (by omega),AS rfl,AI (by unfold LD;omega) (by unfold LD;have:=@List.count_le_length UInt8 _ 34 c.fStr;have:=@List.count_le_length UInt8 _ 92 c.fStr;omega)];unfold EE;rw[AI (by omega) (by omega)];simp[ZA,hxs]
   | false=>
    rw[A8 (by simp),hlen,AI (by omega) (by omega),PO (by omega) hi,AS rfl,BB (by simp[imp,BG])];simp only[hk,BG,ov,Ab0,AaV,AaN,AaQ]
    cases hn:decide (0<c.fN) with
    | true=>
     rw[AP rfl]
     cases hm:decide ((v.length:Int)<c.fN) with
     | true=>rw[AP rfl];simp[Ja,hx]
     | false=>rw[A8 rfl,BB (ZU (by omega) hM2)];unfold EE;rw[AI (by omega) (by omega)];simp[Ja,hx,hxs]
    | false=>
     have hcl:=Ng (S:=e::S') (F:=F) (by simp;omega) hb (by simp;omega);rw[hr] at hcl;rw[A8 rfl,hcl,AS rfl,NK]
     cases hq:decide (Mq (e::S')=[]) with
     | true=>rw[AP rfl,AI (by omega) (by omega)];simp[Ja,hx]
     | false=>rw[A8 rfl];unfold EE;rw[AI (by omega) (by omega)];simp[Ja,hx]
section
variable {S O : Type} {body : S → Option (Stp S O)} {s t u : S} {o : O}
def EL (body:S→Option (Stp S O))(s t:S):Prop:=∃k,∀n,Cg body (n+k) s=Cg body n t
def Fin (body:S→Option (Stp S O))(s:S)(o:O):Prop:=∃k,∀n,Cg body (n+k) s=some o
theorem EL.refl (s:S):EL body s s:=⟨0,λ_=>rfl⟩
theorem EL.trans (h:EL body s t)(h':EL body t u):EL body s u:=by
 obtain⟨k,hk⟩:=h;obtain⟨j,hj⟩:=h';exact⟨j+k,λn=>by rw[← Nat.add_assoc,hk,hj]⟩
theorem EL.step (h:body s=some (.next t)):EL body s t:=⟨1,λn=>by rw[Cg,h]⟩
theorem Fin.step (h:body s=some (.out o)):Fin body s o:=⟨1,λn=>by rw[Cg,h]⟩
theorem EL.fin (h:EL body s t)(h':Fin body t o):Fin body s o:=by
 obtain⟨k,hk⟩:=h;obtain⟨j,hj⟩:=h';exact⟨j+k,λn=>by rw[← Nat.add_assoc,hk,hj]⟩
end
inductive Fo where
 | nil
 | cell (k:Option Ah) (c:Aa) (r:Fo)
 | node (k:Option Ah) (c:Aa) (kids r:Fo)
def Bu:Option Ah→List Aa
 | none=>[]
 | some s=>[⟨4,0,s,0⟩]
def Fo.flat:Fo→List Aa
 | .nil=>[]
 | .cell k c r=>Bu k++c::r.flat
 | .node k c kids r=>Bu k++c::(kids.flat++r.flat)
def Fo.cnt:Fo→Nat
 | .nil=>0
 | .cell _ _ r=>r.cnt+1
 | .node _ _ _ r=>r.cnt+1
def B4 (m:Bool)(last:Option Ah):Option Ah→Bool
 | none=>!m
 | some s=>m&&s.all JN&&(match last with
  | none=>true
  | some p=>!(BI s p||decide (s=p)))
def Fo.wf:Bool→Option Ah→Fo→Bool
 | _,_,.nil=>true
 | m,last,.cell k c r=>B4 m last k&&pl c&&!decide (0<c.fN)&&r.wf m k
 | m,last,.node k c kids r=>B4 m last k&&pl c&&decide (0<c.fN)&&decide (c.fN=kids.cnt)&&kids.wf (decide (c.fKind=6)) none&&r.wf m k
def Mh (k:Option Ah)(sh:AR):AR:=match k with
 | none=>sh
 | some s=>ZA sh ⟨4,0,s,0⟩
def Fo.sh (d:Nat):AR→Fo→AR
 | s,.nil=>s
 | s,.cell k c r=>r.sh d (Ja d (Mh k s) c)
 | s,.node k c kids r=>r.sh d (kids.sh (d+1) (Ja d (Mh k s) c))
def Ij (body:PC→Option (Stp PC YC))(s:PC)(S:List AE)(i:Int)(sh:AR):Prop:=
 if Mq S=[] then Fin body s (.ret (i,sh,true)) else EL body s ((Mq S).reverse,i,sh)
theorem Ij.of {body:PC→Option (Stp PC YC)}{s t:PC}{S:List AE}{i:Int}{sh:AR}(h:EL body s t)(h':Ij body t S i sh):Ij body s S i sh:=by
 unfold Ij at *
 split
 ·rename_i e;rw[AbD e] at h';exact h.fin h'
 ·rename_i e;rw[Abw e] at h';exact h.trans h'
theorem Ij.pop {body:PC→Option (Stp PC YC)}{s:PC}{e:AE}{S:List AE}{i:Int}{sh:AR}(h:Ij body s (e::S) i sh)(h1:e.fLeft=1):Ij body s S i sh:=by
 have:Mq (e::S)=Mq S:=by simp[Mq,h1]
 unfold Ij at *;rw[this] at h;exact h
theorem Ij.more {body:PC→Option (Stp PC YC)}{s:PC}{e:AE}{S:List AE}{i:Int}{sh:AR}(h:Ij body s (e::S) i sh)(h1:1<e.fLeft):EL body s ((⟨e.fPairs,e.fLeft-1,e.fPairs,e.fLast,e.fStarted⟩::S).reverse,i,sh):=by
 have:Mq (e::S)=⟨e.fPairs,e.fLeft-1,e.fPairs,e.fLast,e.fStarted⟩::S:=by simp[Mq,h1]
 unfold Ij at *;rw[this,Abw (by simp)] at h;exact h
structure Tk (F M:Nat) (v:List Aa):Prop where
 hM:M≤1152921504606846976
 hM2:(M+2)*48≤140737488355328
 hv:v.length≤M
 hF:M<F
 hc:∀c∈v,c.fStr.length≤M∧Bw .i64 c.fInt=true∧c.fN≤9223372036854775807
abbrev QH (F:Nat)(v:List Aa):PC→Option (Stp PC YC):=λσ=>Ec F v σ.1 σ.2.1 σ.2.2
def Ep (S:List AE):Prop:=∀e∈S,1≤e.fLeft∧e.fLeft≤9223372036854775807
section
variable {F M : Nat} {v : List Aa} {S : List AE} {i : Int} {sh : AR} {c : Aa} {r : List Aa} {e : AE}
theorem Cn (h0:0≤i)(h:v.drop i.toNat=c::r):v[i.toNat]? =some c∧v.drop (i+1).toNat=r∧i<v.length:=by
 have h1:(v.drop i.toNat)[0]? =some c:=by rw[h];rfl
 have h2:v[i.toNat]? =some c:=by simpa using h1
 have h3:=(List.getElem?_eq_some_iff.1 h2).1;refine⟨h2,?_,by omega⟩;rw[show(i+1).toNat=i.toNat+1 from by omega,← List.drop_drop,h];rfl
theorem round (hA:Tk F M v)(h0:0≤i)(h:v.drop i.toNat=c::r)(hS:(S.length:Int)≤i)(hb:Ep S):QH F v (S.reverse,i,sh)=some (Rk v.length S i sh c):=by
 obtain⟨h1,_,h3⟩:=Cn h0 h;obtain⟨a,b,_⟩:=hA.hc c (Abh h1);have:=hA.hv;exact PU h0 h1 hA.hM hA.hM2 hA.hv (by omega) hA.hF a b hb
def GY (e:AE):Option Ah→AE
 | none=>e
 | some s=>⟨e.fPairs,e.fLeft,false,s,true⟩
def Jt (e:AE):Option Ah→Prop
 | none=>e.fStarted=false
 | some p=>e.fStarted=true∧e.fLast=p
theorem NA (hA:Tk F M v)(h0:0≤i){k last:Option Ah}(h:v.drop i.toNat=Bu k++r)(hS:(S.length:Int)+1≤i)(hb:Ep (e::S))(hk:B4 e.fKey last k=true)(hl:Jt e last) :
  EL (QH F v) ((e::S).reverse,i,sh) ((GY e k::S).reverse,i+(Bu k).length,Mh k sh):=by
 cases k with
 | none=>simpa[GY,Bu,Mh] using EL.refl _
 | some s=>
  simp only[B4,AaO] at hk;obtain⟨⟨hm,hok⟩,hcmp⟩:=hk;refine EL.step ?_;rw[round hA h0 (by simpa[Bu] using h) (by simpa using hS) hb];have hp:pl ⟨4,0,s,0⟩=true:=by simp[pl,hok]
  have ht:(e.fStarted&&(BI s e.fLast||decide (s=e.fLast)))=false:=by
   cases last with
   | none=>simp only[Jt] at hl;rw[hl];rfl
   | some p=>obtain⟨h1,h2⟩:=hl;rw[h1,h2];simpa using hcmp
  simp only[Rk,hp,hm,ht,AaV,AaN,AaQ,decide_true,Abg,Bool.or_self];rfl
theorem LL {k last:Option Ah}(hk:B4 e.fKey last k=true):(GY e k).fKey=false:=by
 cases k with
 | none=>simpa[GY,B4] using hk
 | some s=>rfl
theorem Kx (k:Option Ah):(GY e k).fLeft=e.fLeft∧(GY e k).fPairs=e.fPairs:=by cases k<;>exact⟨rfl,rfl⟩
theorem LI (hA:Tk F M v)(h0:0≤i)(h:v.drop i.toNat=c::r)(hS:(S.length:Int)≤i)(hb:Ep S)(hk:LM S=false)(hp:pl c=true)(hn:decide (0<c.fN)=false) :
  Ij (QH F v) (S.reverse,i,sh) S (i+1) (Ja S.length sh c):=by
 have hr:=round (sh:=sh) hA h0 h hS hb;unfold Ij
 cases S with
 | nil=>
  rw[AbD (by simp[Mq])];refine Fin.step ?_;rw[hr];simp[Rk,hp,hn]
 | cons e S=>
  simp only[LM] at hk
  split
  ·rename_i hc
   refine Fin.step ?_;rw[hr];simp[Rk,hp,hn,hk,hc]
  ·rename_i hc
   refine EL.step ?_;rw[hr];simp[Rk,hp,hn,hk,hc]
theorem JP (hA:Tk F M v)(h0:0≤i)(h:v.drop i.toNat=c::r)(hS:(S.length:Int)≤i)(hb:Ep S)(hk:LM S=false)(hp:pl c=true)(hn:decide (0<c.fN)=true)(hv:c.fN≤v.length) :
  EL (QH F v) (S.reverse,i,sh) ((⟨decide (c.fKind=6),c.fN,decide (c.fKind=6),[],false⟩::S).reverse,i+1,Ja S.length sh c):=by
 have hr:=round (sh:=sh) hA h0 h hS hb;have hv':decide ((v.length:Int)<c.fN)=false:=by simpa using hv
 refine EL.step ?_;rw[hr]
 cases S with
 | nil=>simp only[Rk,hp,hn,hv',AaV,AaN,AaQ];rfl
 | cons e S=>
  simp only[LM] at hk;simp only[Rk,hp,hn,hv',hk,AaV,AaN,AaQ]
theorem Ch:∀f:Fo,f.cnt≤f.flat.length
 | .nil=>Abp _
 | .cell k c r=>by have:=Ch r;simp[Fo.cnt,Fo.flat];omega
 | .node k c kids r=>by have:=Ch r;simp[Fo.cnt,Fo.flat];omega
theorem C8 {α:Type}{v xs r:List α}{i:Int}(h0:0≤i)(h:v.drop i.toNat=xs++r):v.drop (i+xs.length).toNat=r:=by
 rw[show(i+(xs.length:Int)).toNat=i.toNat+xs.length from by omega,← List.drop_drop,h,List.drop_left]
theorem Qb (hA:Tk F M v){e':AE}{s:PC}{k:Option Ah}{r':Fo}
  (ih:∀(e:AE) (S:List AE) (i:Int) (sh:AR) (last:Option Ah) (r:List Aa),1≤r'.cnt→r'.wf e.fPairs last=true→e.fKey=e.fPairs→e.fLeft=r'.cnt→Jt e last→(e.fPairs=false→last=none)→v.drop i.toNat=r'.flat++r→0≤i→(S.length:Int)+1≤i→Ep S→
   Ij (QH F v) ((e::S).reverse,i,sh) S (i+r'.flat.length) (r'.sh (S.length+1) sh))
  (hd:Ij (QH F v) s (e'::S) i sh) (hl:e'.fLeft=r'.cnt+1) (hw:r'.wf e'.fPairs k=true) (hk:Jt e' k) (hm:e'.fPairs=false→k=none) (hv:v.drop i.toNat=r'.flat++r) (h0:0≤i) (hS:(S.length:Int)+1≤i) (hb:Ep S) :
  Ij (QH F v) s S (i+r'.flat.length) (r'.sh (S.length+1) sh):=by
 by_cases h1:r'.cnt=0
 ·cases r' with
  | nil=>simpa[Fo.flat,Fo.sh] using hd.pop (by rw[hl];rfl)
  | cell _ _ _=>simp[Fo.cnt] at h1
  | node _ _ _ _=>simp[Fo.cnt] at h1
 ·have:=hd.more (by omega);refine Ij.of this (ih _ S i sh k r (by omega) hw rfl (by simp only;omega) ?_ hm hv h0 hS hb)
  cases k with
  | none=>exact hk
  | some p=>exact hk
theorem Ky {k last:Option Ah}(hl:Jt e last)(hm:e.fPairs=false→last=none)(hk:B4 e.fPairs last k=true):Jt (GY e k) k∧((GY e k).fPairs=false→k=none):=by
 cases k with
 | none=>
  have:e.fPairs=false:=by simpa[B4] using hk
  rw[hm this] at hl;exact⟨hl,λ_=>rfl⟩
 | some s=>
  refine⟨⟨rfl,rfl⟩,λh=>?_⟩;have h:e.fPairs=false:=h;simp[B4,h] at hk
theorem Mo (hA:Tk F M v):∀(f:Fo) (e:AE) (S:List AE) (i:Int) (sh:AR) (last:Option Ah) (r:List Aa),1≤f.cnt→f.wf e.fPairs last=true→e.fKey=e.fPairs→e.fLeft=f.cnt→Jt e last→(e.fPairs=false→last=none)→v.drop i.toNat=f.flat++r→0≤i→(S.length:Int)+1≤i→Ep S→
   Ij (QH F v) ((e::S).reverse,i,sh) S (i+f.flat.length) (f.sh (S.length+1) sh):=by
 have hmax:∀(i:Int) (xs:List Aa),0≤i→v.drop i.toNat=xs→xs.length≤v.length:=λi xs _ h=>by rw[← h,AbG];omega
 intro f
 induction f with
 | nil=>intro e S i sh last r h1;simp[Fo.cnt] at h1
 | cell k c r' ih=>
  intro e S i sh last r h1 hw hk hl hlo hm hv h0 hS hb;simp only[Fo.wf,AaO,Abi] at hw;obtain⟨⟨⟨w1,w2⟩,w3⟩,w4⟩:=hw;simp only[Fo.flat,Abq,Ab2] at hv;have hcnt:=hmax i _ h0 hv;have hcf:=Ch r';simp only[AaS,AaM] at hcnt;have hvM:=hA.hv;have hMM:=hA.hM;simp only[Fo.cnt] at hl;have hb':Ep (e::S):=λx hx=>by
   rcases List.mem_cons.1 hx with rfl | hx
   ·constructor<;>omega
   ·exact hb x hx
  have hkr:=NA (sh:=sh) hA h0 hv hS hb' (by rw[hk];exact w1) hlo;have hv1:=C8 h0 hv;obtain⟨kl,kp⟩:=Kx (e:=e) k;have hbk:Ep (GY e k::S):=λx hx=>by
   rcases List.mem_cons.1 hx with rfl | hx
   ·rw[kl];exact hb' e (by simp)
   ·exact hb x hx
  have hd:=LI (sh:=Mh k sh) hA (by omega) hv1 (by simp only[AaM];omega) hbk (LL (by rw[hk];exact w1)) w2 w3;obtain⟨q1,q2⟩:=Ky hlo hm w1;have hv2:=(Cn (by omega) hv1).2.1;have:=Qb hA ih (hd.of hkr) (by rw[kl,hl];rfl) (by rw[kp];exact w4) q1 q2 hv2 (by omega) (by omega) hb;simp only[Fo.flat,Fo.sh,AaS,AaM];rw[show i+((((Bu k).length+(r'.flat.length+1):Nat)):Int)=i+(Bu k).length+1+r'.flat.length from by omega];exact this
 | node k c kids r' ihk ih=>
  intro e S i sh last r h1 hw hk hl hlo hm hv h0 hS hb;simp only[Fo.wf,AaO,AaL] at hw;obtain⟨⟨⟨⟨⟨w1,w2⟩,w3⟩,w5⟩,w6⟩,w4⟩:=hw;simp only[Fo.flat,Abq,Ab2] at hv;have hcnt:=hmax i _ h0 hv;have hcf:=Ch r';have hck:=Ch kids;simp only[AaS,AaM] at hcnt;have hvM:=hA.hv;have hMM:=hA.hM;simp only[Fo.cnt] at hl;have hb':Ep (e::S):=λx hx=>by
   rcases List.mem_cons.1 hx with rfl | hx
   ·constructor<;>omega
   ·exact hb x hx
  have hkr:=NA (sh:=sh) hA h0 hv hS hb' (by rw[hk];exact w1) hlo;have hv1:=C8 h0 hv;obtain⟨kl,kp⟩:=Kx (e:=e) k;have hbk:Ep (GY e k::S):=λx hx=>by
   rcases List.mem_cons.1 hx with rfl | hx
   ·rw[kl];exact hb' e (by simp)
   ·exact hb x hx
  have hn:=JP (sh:=Mh k sh) hA (by omega) hv1 (by simp only[AaM];omega) hbk (LL (by rw[hk];exact w1)) w2 (by simpa using w3) (by omega);have hv2:=(Cn (by omega) hv1).2.1;have hd:=ihk ⟨decide (c.fKind=6),c.fN,decide (c.fKind=6),[],false⟩ (GY e k::S) (i+(Bu k).length+1) (Ja (S.length+1) (Mh k sh) c) none _ (by omega) w6 rfl w5 rfl (λ_=>rfl) hv2 (by omega) (by simp only[AaM];omega) hbk;obtain⟨q1,q2⟩:=Ky hlo hm w1;have hv3:=C8 (by omega) hv2;have:=Qb hA ih ((hd.of hn).of hkr) (by rw[kl,hl];rfl) (by rw[kp];exact w4) q1 q2 hv3 (by omega) (by omega) hb;simp only[Fo.flat,Fo.sh,AaS,AaM];rw[show i+((((Bu k).length+(kids.flat.length+r'.flat.length+1):Nat)):Int)=i+(Bu k).length+1+kids.flat.length+r'.flat.length from by omega];exact this
end
theorem QF {S O:Type}{body:S→Option (Stp S O)}{o:O}:∀{n:Nat} {s:S} (k:Nat),Cg body n s=some o→Cg body (n+k) s=some o
 | 0,s,k,h=>by cases h
 | n+1,s,k,h=>by
  rw[show n+1+k=n+k+1 from by omega,Cg];rw[Cg] at h
  cases hb:body s with
  | none=>rw[hb] at h;cases h
  | some t=>
   rw[hb] at h
   cases t with
   | next s'=>exact QF k h
   | out o'=>exact h
theorem Fin.eq {S O:Type}{body:S→Option (Stp S O)}{s:S}{o o':O}{n:Nat}(h:Fin body s o)(h':Cg body n s=some o'):o'=o:=by
 obtain⟨k,hk⟩:=h;have:=QF k h';rw[hk n] at this;exact(Az this).symm
theorem OL:∀{S:List AE},Ep S→Ep (Mq S)∧(Mq S).length≤S.length
 | [],h=>⟨h,Abp _⟩
 | e::S,h=>by
  have hS:Ep S:=λx hx=>h x (by simp[hx]);have he:=h e (by simp);unfold Mq
  cases hd:decide (1<e.fLeft) with
  | true=>
   simp only[AaL] at hd;refine⟨λx hx=>?_,by simp⟩;rcases List.mem_cons.1 hx with rfl | hx
   ·simp only;omega
   ·exact hS x hx
  | false=>
   obtain⟨h1,h2⟩:=OL hS;exact⟨h1,by simp only[AaN,AaM];omega⟩
theorem Wc {n:Int}{S:List AE}{i:Int}{sh:AR}{c:Aa}{σ:PC}(hb:Ep S)(hS:(S.length:Int)≤i)(hN:c.fN≤9223372036854775807)(h:Rk n S i sh c = .next σ):∃S' sh',σ=(S'.reverse,i+1,sh')∧Ep S'∧(S'.length:Int)≤i+1:=by
 unfold Rk at h
 cases hp:pl c with
 | false=>simp[hp] at h
 | true=>
  simp only[hp,AaV,AaN] at h
  cases S with
  | nil=>
   simp only at h
   cases hn:decide (0<c.fN) with
   | false=>simp[hn] at h
   | true=>
    simp only[hn,AaQ] at h
    cases hm:decide (n<c.fN) with
    | true=>simp[hm] at h
    | false=>
     simp only[hm,AaN,Stp.next.injEq] at h;refine⟨[_],_,h.symm,λx hx=>?_,by simp at hS ⊢;omega⟩;simp only[Abz] at hx;subst hx;simp only[AaL] at hn;exact⟨by simp only;omega,hN⟩
  | cons e S=>
   have he:=hb e (by simp);have hbS:Ep S:=λx hx=>hb x (by simp[hx]);simp only[AaM] at hS
   cases hk:e.fKey with
   | true=>
    simp only[hk,AaQ] at h
    cases hq:(!decide (c.fKind=4)||(e.fStarted&&(BI c.fStr e.fLast||decide (c.fStr=e.fLast)))) with
    | true=>rw[hq] at h;simp at h
    | false=>
     rw[hq] at h;simp only[AaN,Stp.next.injEq] at h;refine⟨_::S,_,h.symm,λx hx=>?_,by simp only[AaM];omega⟩;rcases List.mem_cons.1 hx with rfl | hx
     ·exact he
     ·exact hbS x hx
   | false=>
    simp only[hk,AaN] at h
    cases hn:decide (0<c.fN) with
    | true=>
     simp only[hn,AaQ] at h
     cases hm:decide (n<c.fN) with
     | true=>simp[hm] at h
     | false=>
      simp only[hm,AaN,Stp.next.injEq] at h;refine⟨_::e::S,_,h.symm,λx hx=>?_,by simp only[AaM];omega⟩;rcases List.mem_cons.1 hx with rfl | hx
      ·simp only[AaL] at hn;exact⟨by simp only;omega,hN⟩
      ·exact hb x hx
    | false=>
     simp only[hn,AaN] at h
     cases hq:decide (Mq (e::S)=[]) with
     | true=>rw[hq] at h;simp at h
     | false=>
      rw[hq] at h;simp only[AaN,Stp.next.injEq] at h;obtain⟨h1,h2⟩:=OL hb;simp only[AaM] at h2;exact⟨_,_,h.symm,h1,by omega⟩
theorem N8 {F M:Nat}{v:List Aa}(hA:Tk F M v):∃o,Cg (QH F v) F (([]:List AE),0,(⟨0,0,false,false⟩:AR))=some o∧True:=by
 refine Hk (λσ=>∃S i sh,σ=(S.reverse,i,sh)∧Ep S∧(S.length:Int)≤i∧0≤i∧i≤v.length) (λσ=>v.length-σ.2.1.toNat) (λ_=>True) (λσ hI=>?_) F _ ⟨[],0,_,rfl,(λx hx=>by cases hx),Abr _,Abr _,by omega⟩ (by have:=hA.hv;have:=hA.hF;simp;omega);obtain⟨S,i,sh,rfl,hb,hS,h0,hi⟩:=hI
 by_cases hx:i<v.length
 ·obtain⟨c,hc⟩:∃c,v[i.toNat]? =some c:=⟨v[i.toNat]'(by omega),AaY (by omega)⟩
  have hdr:v.drop i.toNat=c::v.drop (i.toNat+1):=by rw[List.drop_eq_getElem_cons (by omega)];congr 1;exact(List.getElem?_eq_some_iff.1 hc).2
  have hr:=round (sh:=sh) hA h0 hdr hS hb
  cases hl:Rk v.length S i sh c with
  | next τ=>
   obtain⟨S',sh',rfl,h1,h2⟩:=Wc hb hS (hA.hc c (Abh hc)).2.2 hl;exact .inl ⟨_,by rw[hr,hl],⟨S',i+1,sh',rfl,h1,h2,by omega,by omega⟩,by simp only;omega⟩
  | out o=>exact .inr ⟨o,by rw[hr,hl],trivial⟩
 ·refine .inr ⟨.go sh,?_,trivial⟩;show Ec F v S.reverse i sh=_;unfold Ec;rw[A8 (by simpa using hx)]
def Fo.one:Fo→Bool
 | .cell none _ .nil=>true
 | .node none _ _ .nil=>true
 | _=>false
def Np:AR:=⟨0,0,false,false⟩
theorem Wb {F M:Nat}{v:List Aa}(hA:Tk F M v){f:Fo}(h1:f.one=true)(hw:f.wf false none=true){r:List Aa}(hv:v=f.flat++r):Fin (QH F v) ([],0,Np) (.ret (f.flat.length,f.sh 0 Np,true)):=by
 have h0:v.drop (0:Int).toNat=f.flat++r:=by rw[hv];rfl
 have hlen:f.flat.length≤v.length:=by rw[hv];simp
 cases f with
 | nil=>cases h1
 | cell k c r'=>
  cases k with
  | some s=>cases h1
  | none=>
   cases r' with
   | nil=>
    simp only[Fo.wf,AaO,Abi] at hw;have:=LI (S:=[]) (sh:=Np) hA (Abr 0) h0 (by simp) (λx hx=>by cases hx) rfl hw.1.1.2 hw.1.2;unfold Ij at this;rw[AbD (show Mq []=[] from rfl)] at this;simpa[Fo.flat,Fo.sh,Bu,Mh] using this
   | cell _ _ _=>cases h1
   | node _ _ _ _=>cases h1
 | node k c kids r'=>
  cases k with
  | some s=>cases h1
  | none=>
   cases r' with
   | nil=>
    simp only[Fo.wf,AaO,AaL] at hw;obtain⟨⟨⟨⟨⟨w1,w2⟩,w3⟩,w5⟩,w6⟩,w4⟩:=hw;have hck:=Ch kids;simp only[Fo.flat,Bu,AbA,Ab1,AaM] at hlen;have hvM:=hA.hv;have hMM:=hA.hM;have hn:=JP (S:=[]) (sh:=Np) hA (Abr 0) h0 (by simp) (λx hx=>by cases hx) rfl w2 (by simpa using w3) (by omega);have hv2:=(Cn (Abr 0) h0).2.1;have hd:=Mo hA kids ⟨decide (c.fKind=6),c.fN,decide (c.fKind=6),[],false⟩ [] (0+1) (Ja 0 Np c) none r (by omega) w6 rfl w5 rfl (λ_=>rfl) (by rw[hv2];simp[Fo.flat]) (by omega) (by simp) (λx hx=>by cases hx);unfold Ij at hd;rw[AbD (show Mq []=[] from rfl)] at hd;have:=hn.fin hd;have e:((0:Int)+1+kids.flat.length)=((Fo.node none c kids .nil).flat.length:Int):=by simp[Fo.flat,Bu];omega
    rw[e] at this;exact this
   | cell _ _ _=>cases h1
   | node _ _ _ _=>cases h1
theorem QG {F M:Nat}{v:List Aa}(hA:Tk F M v){f:Fo}(h1:f.one=true)(hw:f.wf false none=true){r:List Aa}(hv:v=f.flat++r):IV F v=some ((f.flat.length:Int),f.sh 0 Np,true):=by
 obtain⟨o,ho,_⟩:=N8 hA;have e:=(Wb hA h1 hw hv).eq ho;subst e;unfold IV;rw[AS ho];rfl
def I3 (m:Bool)(last:Option Ah)(xs:List Aa):Option (Option Ah×List Aa):=
 bif m then match xs with
  | []=>none
  | c::r=>bif pl c&&decide (c.fKind=4)&&B4 true last (some c.fStr) then some (some c.fStr,r) else none
 else some (none,xs)
def IC:Nat→Bool→Option Ah→Nat→List Aa→Option (Fo×List Aa)
 | 0,_,_,_,_=>none
 | _+1,_,_,0,xs=>some (.nil,xs)
 | F+1,m,last,k+1,xs=>
  match I3 m last xs with
  | none=>none
  | some (_,[])=>none
  | some (key,c::xs')=>
   bif !pl c then none else
   bif decide (0<c.fN) then
    match IC F (decide (c.fKind=6)) none c.fN.toNat xs' with
    | none=>none
    | some (kids,ys)=>match IC F m key k ys with
     | none=>none
     | some (r,zs)=>some (.node key c kids r,zs)
   else match IC F m key k xs' with
    | none=>none
    | some (r,zs)=>some (.cell key c r,zs)
theorem Pk {c:Aa}(hp:pl c=true)(hk:c.fKind=4):c=⟨4,0,c.fStr,0⟩∧c.fStr.all JN=true:=by
 cases c
 simp only at hk;subst hk;simp[pl] at hp;obtain⟨h1,h2,h3⟩:=hp;subst h1;subst h2;exact⟨rfl,by simpa using h3⟩
theorem MH {m:Bool}{last key:Option Ah}{xs r:List Aa}(h:I3 m last xs=some (key,r)):xs=Bu key++r∧B4 m last key=true:=by
 unfold I3 at h
 cases m with
 | false=>cases h;exact⟨rfl,rfl⟩
 | true=>
  simp only[AaQ] at h
  cases xs with
  | nil=>cases h
  | cons c r'=>
   simp only at h
   cases hb:(pl c&&decide (c.fKind=4)&&B4 true last (some c.fStr)) with
   | false=>rw[hb] at h;cases h
   | true=>
    rw[hb] at h;simp only[AaO,AaL] at hb
    cases h
    exact⟨by rw[(Pk hb.1.1 hb.1.2).1];rfl,hb.2⟩
theorem Id:∀(F:Nat) (m:Bool) (last:Option Ah) (k:Nat) (xs:List Aa) (f:Fo) (ys:List Aa),IC F m last k xs=some (f,ys)→xs=f.flat++ys∧f.wf m last=true∧f.cnt=k
 | 0,_,_,_,_,_,_,h=>by cases h
 | F+1,m,last,0,xs,f,ys,h=>by cases h;exact⟨rfl,rfl,rfl⟩
 | F+1,m,last,k+1,xs,f,ys,h=>by
  rw[IC] at h
  cases hk:I3 m last xs with
  | none=>rw[hk] at h;cases h
  | some p=>
   obtain⟨key,r⟩:=p;obtain⟨h1,h2⟩:=MH hk;rw[hk] at h
   cases r with
   | nil=>cases h
   | cons c xs'=>
    simp only at h
    cases hp:pl c with
    | false=>rw[hp] at h;cases h
    | true=>
     rw[hp] at h;simp only[AaV,AaN] at h
     cases hn:decide (0<c.fN) with
     | true=>
      rw[hn] at h;simp only[AaQ] at h
      cases hq:IC F (decide (c.fKind=6)) none c.fN.toNat xs' with
      | none=>rw[hq] at h;cases h
      | some q=>
       obtain⟨kids,zs⟩:=q;rw[hq] at h;simp only at h
       cases hr:IC F m key k zs with
       | none=>rw[hr] at h;cases h
       | some q2=>
        obtain⟨r2,us⟩:=q2;rw[hr] at h;cases h;obtain⟨a1,a2,a3⟩:=Id F _ _ _ _ _ _ hq;obtain⟨b1,b2,b3⟩:=Id F _ _ _ _ _ _ hr;refine⟨by rw[h1,a1,b1];simp[Fo.flat],?_,by simp[Fo.cnt,b3]⟩;simp only[AaL] at hn;simp only[Fo.wf,h2,hp,a2,b2,Abf,AaW,AaO,AaL];omega
     | false=>
      rw[hn] at h;simp only[AaN] at h
      cases hr:IC F m key k xs' with
      | none=>rw[hr] at h;cases h
      | some q2=>
       obtain⟨r2,us⟩:=q2;rw[hr] at h;cases h;obtain⟨b1,b2,b3⟩:=Id F _ _ _ _ _ _ hr;exact⟨by rw[h1,b1];simp[Fo.flat],by simp[Fo.wf,h2,hp,b2,hn],by simp[Fo.cnt,b3]⟩
theorem I2:∀(F F':Nat) (m:Bool) (last:Option Ah) (k:Nat) (xs:List Aa),xs.length<F→xs.length<F'→IC F m last k xs=IC F' m last k xs
 | 0,_,_,_,_,_,h,_=>by omega
 | _+1,0,_,_,_,_,_,h=>by omega
 | F+1,F'+1,m,last,0,xs,_,_=>rfl
 | F+1,F'+1,m,last,k+1,xs,h,h'=>by
  rw[IC,IC]
  cases hk:I3 m last xs with
  | none=>rfl
  | some p=>
   obtain⟨key,r⟩:=p;obtain⟨h1,h2⟩:=MH hk
   cases r with
   | nil=>rfl
   | cons c xs'=>
    have hl:xs'.length<xs.length:=by rw[h1];simp;omega
    simp only
    cases hp:pl c with
    | false=>rfl
    | true=>
     simp only[AaV,AaN]
     cases hn:decide (0<c.fN) with
     | true=>
      simp only[AaQ];rw[I2 F F' _ _ _ xs' (by omega) (by omega)]
      cases hq:IC F' (decide (c.fKind=6)) none c.fN.toNat xs' with
      | none=>rfl
      | some q=>
       obtain⟨kids,zs⟩:=q;have:=(Id _ _ _ _ _ _ _ hq).1;have hz:zs.length≤xs'.length:=by rw[this];simp
       simp only;rw[I2 F F' m key k zs (by omega) (by omega)]
     | false=>
      simp only[AaN];rw[I2 F F' m key k xs' (by omega) (by omega)]
def Sf {S:Type}(body:S→Option (Stp S YC))(s:S):Prop:=∃sh',Fin body s (.ret (0,sh',false))∨Fin body s (.go sh')
theorem EL.bad {S:Type}{body:S→Option (Stp S YC)}{s t:S}(h:EL body s t)(h':Sf body t):Sf body s:=by
 obtain⟨sh',h' | h'⟩:=h'
 ·exact⟨sh',.inl (h.fin h')⟩
 ·exact⟨sh',.inr (h.fin h')⟩
section
variable {F M : Nat} {v : List Aa}
theorem Sf.end_ {S:List AE}{i:Int}{sh:AR}(h0:0≤i)(h:v.drop i.toNat=[]):Sf (QH F v) (S.reverse,i,sh):=by
 refine⟨sh,.inr (Fin.step ?_)⟩;show Ec F v S.reverse i sh=_;unfold Ec;rw[A8];have:v.length≤i.toNat:=by simpa using h
 simp;omega
theorem Sf.pl_ (hA:Tk F M v){S:List AE}{i:Int}{sh:AR}{c:Aa}{r:List Aa}(h0:0≤i)(h:v.drop i.toNat=c::r)(hS:(S.length:Int)≤i)(hb:Ep S)(hp:pl c=false):Sf (QH F v) (S.reverse,i,sh):=by
 refine⟨sh,.inl (Fin.step ?_)⟩;rw[round hA h0 h hS hb];simp[Rk,hp]
theorem RR (hA:Tk F M v):∀(P:Nat) (k:Nat) (e:AE) (S:List AE) (i:Int) (sh:AR) (last:Option Ah) (xs:List Aa),xs.length<P→IC P e.fPairs last (k+1) xs=none→e.fKey=e.fPairs→e.fLeft=(k:Int)+1→(k:Int)+1≤9223372036854775807→Jt e last→(e.fPairs=false→last=none)→v.drop i.toNat=xs→0≤i→(S.length:Int)+1≤i→Ep S→
  Sf (QH F v) ((e::S).reverse,i,sh):=by
 intro P
 induction P with
 | zero=>intro k e S i sh last xs h;omega
 | succ P ih=>
  intro k e S i sh last xs hP hn hk hl hkm hlo hm hv h0 hS hb;have hb':Ep (e::S):=λx hx=>by
   rcases List.mem_cons.1 hx with rfl | hx
   ·constructor<;>omega
   ·exact hb x hx
  rw[IC] at hn
  cases hq:I3 e.fPairs last xs with
  | none=>
   unfold I3 at hq
   cases hpr:e.fPairs with
   | false=>rw[hpr] at hq;cases hq
   | true=>
    rw[hpr] at hq hk;simp only[AaQ] at hq
    cases xs with
    | nil=>exact Sf.end_ h0 hv
    | cons c r=>
     simp only at hq
     cases hp:pl c with
     | false=>exact Sf.pl_ hA h0 hv (by simpa using hS) hb' hp
     | true=>
      refine⟨sh,.inl (Fin.step ?_)⟩;rw[round hA h0 hv (by simpa using hS) hb'];have ht:(!decide (c.fKind=4)||(e.fStarted&&(BI c.fStr e.fLast||decide (c.fStr=e.fLast))))=true:=by
       rw[hp] at hq
       cases h4:decide (c.fKind=4) with
       | false=>rfl
       | true=>
        rw[h4] at hq;simp only[Bool.and_self,AaW] at hq;have hok:=(Pk hp (by simpa using h4)).2
        cases last with
        | none=>simp[B4,hok] at hq
        | some p=>
         obtain⟨q1,q2⟩:=hlo;rw[q1,q2]
         cases hc:(BI c.fStr p||decide (c.fStr=p)) with
         | true=>rfl
         | false=>simp[B4,hok,hc] at hq
      simp only[Rk,hp,hk,ht,AaV,AaN,AaQ]
  | some q=>
   obtain⟨key,r⟩:=q;obtain⟨h1,h2⟩:=MH hq;rw[hq] at hn;have hkr:=NA (sh:=sh) hA h0 (by rw[hv];exact h1) hS hb' (by rw[hk];exact h2) hlo;have hv1:=C8 h0 (hv.trans h1);obtain⟨kl,kp⟩:=Kx (e:=e) key;obtain⟨q1,q2⟩:=Ky hlo hm h2;have hbk:Ep (GY e key::S):=λx hx=>by
    rcases List.mem_cons.1 hx with rfl | hx
    ·rw[kl];exact hb' e (by simp)
    ·exact hb x hx
   refine hkr.bad ?_
   cases r with
   | nil=>exact Sf.end_ (by omega) hv1
   | cons c xs'=>
    have hlen:xs'.length+1≤xs.length:=by rw[h1];simp
    have hvl:xs.length≤v.length:=by rw[← hv,AbG];omega
    have hvM:=hA.hv;have hMM:=hA.hM;have hkk:=LL (e:=e) (last:=last) (k:=key) (by rw[hk];exact h2);simp only at hn;have hSk:(((GY e key::S).length:Nat):Int)≤i+(Bu key).length:=by simp only[AaM];omega
    cases hp:pl c with
    | false=>exact Sf.pl_ hA (by omega) hv1 hSk hbk hp
    | true=>
     rw[hp] at hn;simp only[AaV,AaN] at hn;obtain⟨g1,g2,g3⟩:=Cn (by omega) hv1;have hcN:=(hA.hc c (Abh g1)).2.2;have more:∀(s:PC) (j:Int) (sh':AR) (zs:List Aa),Ij (QH F v) s (GY e key::S) j sh'→v.drop j.toNat=zs→zs.length<P→0≤j→(S.length:Int)+1≤j→IC P e.fPairs key k zs=none→Sf (QH F v) s:=λs j sh' zs hd hz hzl hj hSj hnone=>by
      cases k with
      | zero=>
       cases P with
       | zero=>omega
       | succ P=>cases hnone
      | succ k=>
       have:=hd.more (by rw[kl];omega);refine this.bad (ih k _ S j sh' key zs hzl (by rw[kp];exact hnone) rfl (by simp only[kl];omega) (by omega) ?_ (by simpa using q2) hz hj hSj hb)
       cases key with
       | none=>exact q1
       | some p=>exact q1
     cases hN:decide (0<c.fN) with
     | true=>
      rw[hN] at hn;simp only[AaQ] at hn;simp only[AaL] at hN
      by_cases hbig:c.fN≤v.length
      ·have hnd:=JP (sh:=Mh key sh) hA (by omega) hv1 hSk hbk (by simpa[LM] using hkk) hp (by simpa using hN) hbig;refine hnd.bad ?_
       cases hks:IC P (decide (c.fKind=6)) none c.fN.toNat xs' with
       | none=>
        obtain⟨n',hn'⟩:∃n',c.fN.toNat=n'+1:=⟨c.fN.toNat-1,by omega⟩
        rw[hn'] at hks;exact ih n' _ _ _ _ none xs' (by omega) hks rfl (by simp only;omega) (by omega) rfl (λ_=>rfl) g2 (by omega) (by simp only[AaM];omega) hbk
       | some q=>
        obtain⟨kids,zs⟩:=q;rw[hks] at hn;simp only at hn;have hn2:IC P e.fPairs key k zs=none:=by
         cases hz:IC P e.fPairs key k zs with
         | none=>rfl
         | some q=>rw[hz] at hn;cases hn
        obtain⟨a1,a2,a3⟩:=Id _ _ _ _ _ _ _ hks;have hd:=Mo hA kids ⟨decide (c.fKind=6),c.fN,decide (c.fKind=6),[],false⟩ (GY e key::S) (i+(Bu key).length+1) (Ja (S.length+1) (Mh key sh) c) none zs (by omega) a2 rfl (by simp only;omega) rfl (λ_=>rfl) (by rw[g2];exact a1) (by omega) (by simp only[AaM];omega) hbk;have hz:v.drop (i+(Bu key).length+1+kids.flat.length).toNat=zs:=C8 (by omega) (g2.trans a1);have hzl:zs.length≤xs'.length:=by rw[a1];simp
        exact more _ _ _ zs hd hz (by omega) (by omega) (by omega) hn2
      ·refine⟨Ja (GY e key::S).length (Mh key sh) c,.inl (Fin.step ?_)⟩;rw[round hA (by omega) hv1 hSk hbk];have hbig':decide ((v.length:Int)<c.fN)=true:=by simpa using hbig
       simp only[Rk,hp,hkk,hbig',hN,AaV,AaN,AaQ,decide_true]
     | false=>
      rw[hN] at hn;simp only[AaN] at hn;have hn2:IC P e.fPairs key k xs'=none:=by
       cases hz:IC P e.fPairs key k xs' with
       | none=>rfl
       | some q=>rw[hz] at hn;cases hn
      have hd:=LI (sh:=Mh key sh) hA (by omega) hv1 hSk hbk (by simpa[LM] using hkk) hp hN;exact more _ _ _ xs' hd g2 (by omega) (by omega) (by omega) hn2
def Ie (xs:List Aa):Option (Fo×List Aa):=IC (xs.length+1) false none 1 xs
theorem S9 {P:Nat}{xs ys:List Aa}{f:Fo}(h:IC P false none 1 xs=some (f,ys)):f.one=true:=by
 obtain⟨h1,h2,h3⟩:=Id _ _ _ _ _ _ _ h
 cases f with
 | nil=>cases h3
 | cell k c r=>
  cases r with
  | nil=>
   cases k with
   | none=>rfl
   | some s=>simp[Fo.wf,B4] at h2
  | cell _ _ _=>simp[Fo.cnt] at h3
  | node _ _ _ _=>simp[Fo.cnt] at h3
 | node k c kids r=>
  cases r with
  | nil=>
   cases k with
   | none=>rfl
   | some s=>simp[Fo.wf,B4] at h2
  | cell _ _ _=>simp[Fo.cnt] at h3
  | node _ _ _ _=>simp[Fo.cnt] at h3
theorem Ug (hA:Tk F M v)(h:Ie v=none):Sf (QH F v) ([],0,Np):=by
 have hlf:Ep []:=λx hx=>by cases hx
 unfold Ie at h;rw[IC] at h;simp only[I3,AaN] at h
 cases v with
 | nil=>exact Sf.end_ (S:=[]) (Abr 0) rfl
 | cons c xs'=>
  have hv1:(c::xs').drop (0:Int).toNat=c::xs':=rfl;have hvM:=hA.hv;have hMM:=hA.hM;simp only at h
  cases hp:pl c with
  | false=>exact Sf.pl_ (S:=[]) hA (Abr 0) hv1 (by simp) hlf hp
  | true=>
   rw[hp] at h;simp only[AaV,AaN] at h;have hcN:=(hA.hc c (by simp)).2.2
   cases hN:decide (0<c.fN) with
   | true=>
    rw[hN] at h;simp only[AaQ] at h;simp only[AaL] at hN
    by_cases hbig:c.fN≤(c::xs').length
    ·have hnd:=JP (S:=[]) (sh:=Np) hA (Abr 0) hv1 (by simp) hlf rfl hp (by simpa using hN) hbig;refine hnd.bad ?_
     cases hks:IC (c::xs').length (decide (c.fKind=6)) none c.fN.toNat xs' with
     | none=>
      obtain⟨n',hn'⟩:∃n',c.fN.toNat=n'+1:=⟨c.fN.toNat-1,by omega⟩
      rw[hn'] at hks;exact RR hA (c::xs').length n' ⟨decide (c.fKind=6),c.fN,decide (c.fKind=6),[],false⟩ [] (0+1) _ none xs' (by simp) hks rfl (by simp only;omega) (by omega) rfl (λ_=>rfl) rfl (by omega) (by simp) hlf
     | some q=>rw[hks] at h;cases h
    ·refine⟨Ja 0 Np c,.inl (Fin.step ?_)⟩;rw[show QH F (c::xs') (([]:List AE),0,Np)=_ from round (S:=[]) hA (Abr 0) hv1 (by simp) hlf];have hbig':decide (((c::xs').length:Int)<c.fN)=true:=by simpa using hbig
     simp only[Rk,hp,hbig',hN,AaV,AaN,AaQ,decide_true]
   | false=>rw[hN] at h;cases h
theorem XR (hA:Tk F M v):(∃f ys,Ie v=some (f,ys)∧IV F v=some ((f.flat.length:Int),f.sh 0 Np,true))∨(Ie v=none∧∃sh',IV F v=some (0,sh',false)):=by
 cases h:Ie v with
 | some q=>
  obtain⟨f,ys⟩:=q;obtain⟨h1,h2,h3⟩:=Id _ _ _ _ _ _ _ h;exact .inl ⟨f,ys,rfl,QG hA (S9 h) h2 h1⟩
 | none=>
  refine .inr ⟨rfl,?_⟩;obtain⟨o,ho,_⟩:=N8 hA;obtain⟨sh',hb | hb⟩:=Ug hA h
  ·have e:=hb.eq ho;subst e;exact⟨sh',by unfold IV;rw[AS ho];rfl⟩
  ·have e:=hb.eq ho;subst e;exact⟨sh',by unfold IV;rw[AS ho];rfl⟩
end
theorem J4 {x:Int}(h : -9223372036854775808≤x)(h':x≤9223372036854775807):IntKind.wrap .i64 x=x:=by
 simp only[IntKind.wrap,IntKind.bits,IntKind.signed];simp;omega
def Fo.dep:Fo→Nat
 | .nil=>0
 | .cell _ _ r=>max 1 r.dep
 | .node _ _ kids r=>max (kids.dep+1) r.dep
theorem Hw (k:Option Ah)(s:AR):(Mh k s).fDepth=s.fDepth∧(Mh k s).fOutside=s.fOutside∧(Mh k s).fLong=(s.fLong||(Bu k).any λc=>decide (200<(c.fStr.length:Int))):=by
 cases k with
 | none=>simp[Mh,Bu]
 | some x=>simp[Mh,ZA,Bu]
theorem KP:∀(f:Fo) (d:Nat) (s:AR),(d:Int)≤s.fDepth→(f.sh d s).fDepth=max s.fDepth ((d:Int)+f.dep)
 | .nil,d,s,h=>by simp only[Fo.sh,Fo.dep];omega
 | .cell k c r,d,s,h=>by
  have hk:=(Hw k s).1;have e:(Ja d (Mh k s) c).fDepth=max s.fDepth ((d:Int)+1):=by rw[Ja,hk]
  rw[Fo.sh,KP r d _ (by rw[e];omega),e,Fo.dep];omega
 | .node k c kids r,d,s,h=>by
  have hk:=(Hw k s).1;have e:(Ja d (Mh k s) c).fDepth=max s.fDepth ((d:Int)+1):=by rw[Ja,hk]
  have e2:=KP kids (d+1) (Ja d (Mh k s) c) (by rw[e];omega);rw[e] at e2;rw[Fo.sh,KP r d _ (by rw[e2];omega),e2,Fo.dep];omega
def BX (c:Aa):Bool:=decide (c.fKind=3)&&!(decide ((-1000000000000)≤c.fInt)&&decide (c.fInt≤1000000000000))
def HT (c:Aa):Bool:=decide (200<(c.fStr.length:Int))
theorem NB (k:Option Ah):(Bu k).any BX=false:=by cases k<;>simp[Bu,BX]
theorem OX:∀(f:Fo) (d:Nat) (s:AR),(f.sh d s).fOutside=(s.fOutside||f.flat.any BX)
 | .nil,d,s=>by simp[Fo.sh,Fo.flat]
 | .cell k c r,d,s=>by
  rw[Fo.sh,OX r,Ja,(Hw k s).2.1];simp only[Fo.flat,List.any_append,List.any_cons,NB,AaZ,Bool.or_assoc];rfl
 | .node k c kids r,d,s=>by
  rw[Fo.sh,OX r,OX kids,Ja,(Hw k s).2.1];simp only[Fo.flat,List.any_append,List.any_cons,NB,AaZ,Bool.or_assoc];rfl
theorem MC:∀(f:Fo) (d:Nat) (s:AR),(f.sh d s).fLong=(s.fLong||f.flat.any HT)
 | .nil,d,s=>by simp[Fo.sh,Fo.flat]
 | .cell k c r,d,s=>by
  rw[Fo.sh,MC r,Ja,(Hw k s).2.2];simp only[Fo.flat,List.any_append,List.any_cons,Bool.or_assoc];rfl
 | .node k c kids r,d,s=>by
  rw[Fo.sh,MC r,MC kids,Ja,(Hw k s).2.2];simp only[Fo.flat,List.any_append,List.any_cons,Bool.or_assoc];rfl
def UB (c:Aa):Int:=
 bif decide (c.fKind=1) then 4 else bif decide (c.fKind=2) then 5-c.fInt else bif decide (c.fKind=3) then((Lib.itoa c.fInt).length:Int) else
 bif decide (c.fKind=4) then LD c.fStr else 2
def Ps:Option Ah→Int
 | none=>0
 | some s=>LD s+1
def Fo.byt:Fo→Int
 | .nil=>0
 | .cell k c r=>Ps k+UB c+r.byt
 | .node k c kids r=>Ps k+(c.fN+1)+kids.byt+r.byt
theorem KY (s:Ah):2≤LD s:=by unfold LD;omega
theorem MP (k:Option Ah):0≤Ps k:=by
 cases k with
 | none=>exact Abr 0
 | some s=>have:=KY s;simp only[Ps];omega
theorem SN {c:Aa}(hp:pl c=true):0≤UB c:=by
 unfold UB
 cases h1:decide (c.fKind=1) with
 | true=>simp
 | false=>
  cases h2:decide (c.fKind=2) with
  | true=>
   simp[pl,h1,h2] at hp;simp only[AaN,AaQ];omega
  | false=>
   cases h3:decide (c.fKind=3) with
   | true=>simp
   | false=>
    cases h4:decide (c.fKind=4) with
    | true=>have:=KY c.fStr;simp only[AaN,AaQ];omega
    | false=>simp
theorem V3 {c:Aa}(hp:pl c=true):0≤c.fN:=by
 simp only[pl,← Bool.decide_or] at hp
 cases h1:decide (c.fKind=1)<;>cases h2:decide (c.fKind=2)<;>cases h3:decide (c.fKind=3)<;>cases h4:decide (c.fKind=4)<;>cases h5:decide (c.fKind=5)<;>cases h6:decide (c.fKind=6)<;>simp[h1,h2,h3,h4,h5,h6] at hp<;>omega
theorem HS {c:Aa}(hp:pl c=true)(hn:0<c.fN):(c.fKind=5∨c.fKind=6)∧c.fInt=0∧c.fStr=[]:=by
 cases h1:decide (c.fKind=1)<;>cases h2:decide (c.fKind=2)<;>cases h3:decide (c.fKind=3)<;>cases h4:decide (c.fKind=4)<;>cases h5:decide (c.fKind=5)<;>cases h6:decide (c.fKind=6)<;>simp[pl,h1,h2,h3,h4,h5,h6] at hp<;>(simp only[AaL,AaK] at *;first | omega | exact⟨by omega,hp.1,hp.2.1⟩)
theorem Vb {c:Aa}(hp:pl c=true)(hn:decide (0<c.fN)=false):YP c=UB c:=by
 have hN:=V3 hp;have h0:c.fN=0:=by simp only[AaK] at hn;omega
 unfold YP UB;rw[h0]
 cases h1:decide (c.fKind=1) with
 | true=>rfl
 | false=>
  cases h2:decide (c.fKind=2) with
  | true=>
   simp[pl,h1,h2] at hp;simp only[AaN,AaQ];exact J4 (by omega) (by omega)
  | false=>rfl
theorem Va {c:Aa}(hp:pl c=true)(hn:0<c.fN)(hm:c.fN≤9223372036854775000):YP c=c.fN+1:=by
 obtain⟨hk,_,_⟩:=HS hp hn;unfold YP;rw[AaR (by omega),AaR (by omega),AaR (by omega),AaR (by omega)];simp only[AaN];rw[J4 (x:=c.fN-1) (by omega) (by omega),J4 (by omega) (by omega)];omega
theorem HW:∀{f:Fo} {m:Bool} {l:Option Ah},f.wf m l=true→0≤f.byt
 | .nil,_,_,_=>Abr 0
 | .cell k c r,m,l,h=>by
  simp only[Fo.wf,AaO] at h;have h1:=HW h.2;have h2:=SN h.1.1.2;have h3:=MP k;simp only[Fo.byt];omega
 | .node k c kids r,m,l,h=>by
  simp only[Fo.wf,AaO,AaL] at h;have h1:=HW h.2;have h2:=HW h.1.2;have h3:=MP k;simp only[Fo.byt];omega
theorem Ot (k:Option Ah)(s:AR)(h0:0≤s.fBytes)(h:s.fBytes+Ps k≤9223372036854775807):(Mh k s).fBytes=s.fBytes+Ps k:=by
 cases k with
 | none=>simp[Mh,Ps]
 | some x=>
  have:=KY x;simp only[Ps] at h;simp only[Mh,ZA,Ps];exact J4 (by omega) (by omega)
theorem KQ:∀(f:Fo) (m:Bool) (l:Option Ah) (d:Nat) (s:AR),f.wf m l=true→0≤s.fBytes→s.fBytes+f.byt≤9223372036854775000→(f.sh d s).fBytes=s.fBytes+f.byt
 | .nil,_,_,d,s,_,_,_=>by simp[Fo.sh,Fo.byt]
 | .cell k c r,m,l,d,s,hw,h0,h=>by
  simp only[Fo.wf,AaO,Abi] at hw;obtain⟨⟨⟨w1,w2⟩,w3⟩,w4⟩:=hw;have h1:=HW w4;have h2:=SN w2;have h3:=MP k;simp only[Fo.byt] at h;have e1:=Ot k s h0 (by omega);have e:(Ja d (Mh k s) c).fBytes=s.fBytes+Ps k+UB c:=by
   rw[Ja,e1,Vb w2 w3];exact J4 (by omega) (by omega)
  rw[Fo.sh,KQ r _ _ d _ w4 (by rw[e];omega) (by rw[e];omega),e,Fo.byt];omega
 | .node k c kids r,m,l,d,s,hw,h0,h=>by
  simp only[Fo.wf,AaO,AaL] at hw;obtain⟨⟨⟨⟨⟨w1,w2⟩,w3⟩,w5⟩,w6⟩,w4⟩:=hw;have h1:=HW w4;have h2:=HW w6;have h3:=MP k;simp only[Fo.byt] at h;have e1:=Ot k s h0 (by omega);have e:(Ja d (Mh k s) c).fBytes=s.fBytes+Ps k+(c.fN+1):=by
   rw[Ja,e1,Va w2 w3 (by omega)];exact J4 (by omega) (by omega)
  have e2:=KQ kids _ _ (d+1) (Ja d (Mh k s) c) w6 (by rw[e];omega) (by rw[e];omega);rw[Fo.sh,KQ r _ _ d _ w4 (by rw[e2,e];omega) (by rw[e2,e];omega),e2,e,Fo.byt];omega
def Eu (s:Ah):Ah:=s.flatMap λc=>bif (decide (c=34)||decide (c=92)) then[92,c] else[c]
def Ek (s:Ah):Ah:=34::(Eu s++[34])
theorem Lv:∀s:Ah,(Eu s).length=s.length+s.count 34+s.count 92
 | []=>rfl
 | c::s=>by
  have ih:=Lv s;unfold Eu at ih ⊢;rw[List.flatMap_cons,AaS,ih]
  by_cases h1:c=34
  ·subst h1;simp;omega
  ·by_cases h2:c=92
   ·subst h2;simp;omega
   ·simp[h1,h2,List.count_cons];omega
theorem Qr (s:Ah):((Ek s).length:Int)=LD s:=by
 simp only[Ek,AaM,AaS,Lv,AbC,LD];omega
def D9 (c:Aa):Ah:=
 bif decide (c.fKind=1) then[110,117,108,108] else
 bif decide (c.fKind=2) then(bif decide (c.fInt=1) then[116,114,117,101] else[102,97,108,115,101]) else
 bif decide (c.fKind=3) then Lib.itoa c.fInt else
 bif decide (c.fKind=4) then Ek c.fStr else
 bif decide (c.fKind=6) then[123,125] else[91,93]
def G2:Option Ah→Ah
 | none=>[]
 | some s=>Ek s++[58]
def Mr (c:Aa)(s:Ah):Ah:=bif decide (c.fKind=6) then 123::(s++[125]) else 91::(s++[93])
def CE (first:Bool):Ah:=bif first then[] else[44]
def Fo.txt:Bool→Fo→Ah
 | _,.nil=>[]
 | b,.cell k c r=>CE b++G2 k++D9 c++r.txt false
 | b,.node k c kids r=>CE b++G2 k++Mr c (kids.txt true)++r.txt false
theorem SP (k:Option Ah):((G2 k).length:Int)=Ps k:=by
 cases k with
 | none=>rfl
 | some s=>simp only[G2,AaS,Ps,Abs];have:=Qr s;omega
theorem O9 {c:Aa}(hp:pl c=true):((D9 c).length:Int)=UB c:=by
  unfold D9 UB
  cases h1:decide (c.fKind=1) with
  | true=>rfl
  | false=>
    cases h2:decide (c.fKind=2) with
    | true=>
      simp[pl,h1,h2] at hp;simp only[AaN,AaQ]
      cases h7:decide (c.fInt=1) with
      | true=>simp only[AaL] at h7;simp[h7]
      | false=>
                 simp only[AaK] at h7;have:c.fInt=0:=by omega
                 simp[this]
    | false=>
      cases h3:decide (c.fKind=3) with
      | true=>rfl
      | false=>
        cases h4:decide (c.fKind=4) with
        | true=>simpa using Qr c.fStr
        | false=>cases h6:decide (c.fKind=6)<;>rfl
theorem IO (c:Aa)(s:Ah):(Mr c s).length=s.length+2:=by
 unfold Mr
 cases decide (c.fKind=6)<;>simp
theorem HQ:∀(f:Fo) (m:Bool) (l:Option Ah) (b:Bool),f.wf m l=true→((f.txt b).length:Int)=f.byt+(bif b then((f.cnt-1:Nat):Int) else(f.cnt:Int))
 | .nil,m,l,b,_=>by cases b<;>rfl
 | .cell k c r,m,l,b,hw=>by
  simp only[Fo.wf,AaO,Abi] at hw;obtain⟨⟨⟨w1,w2⟩,w3⟩,w4⟩:=hw;have ih:=HQ r _ _ false w4;have a:=SP k;have d:=O9 w2;simp only[AaN] at ih
  cases b<;>simp only[Fo.txt,Fo.byt,Fo.cnt,CE,AaQ,AaN,AaS,AbC,Abs]<;>omega
 | .node k c kids r,m,l,b,hw=>by
  simp only[Fo.wf,AaO,AaL] at hw;obtain⟨⟨⟨⟨⟨w1,w2⟩,w3⟩,w5⟩,w6⟩,w4⟩:=hw;have ih:=HQ r _ _ false w4;have ih2:=HQ kids _ _ true w6;have a:=SP k;have d:=IO c (kids.txt true);simp only[AaN,AaQ] at ih ih2
  cases b<;>simp only[Fo.txt,Fo.byt,Fo.cnt,CE,AaQ,AaN,AaS,AbC,Abs]<;>omega
def Fo.put (k:Option Ah):Fo→Fo→Fo
 | .cell _ c _,r=>.cell k c r
 | .node _ c kids _,r=>.node k c kids r
 | .nil,_=>.nil
theorem V2 (P:Nat)(m:Bool)(last:Option Ah)(k:Nat)(xs:List Aa):IC (P+2) m last (k+1) xs =
  match I3 m last xs with
  | none=>none
  | some (key,ys)=>match IC (P+2) false none 1 ys with
   | none=>none
   | some (f,zs)=>match IC (P+1) m key k zs with
    | none=>none
    | some (r,us)=>some (f.put key r,us):=by
 rw[IC]
 cases hk:I3 m last xs with
 | none=>rfl
 | some p=>
  obtain⟨key,ys⟩:=p;simp only;rw[IC];simp only[I3,AaN]
  cases ys with
  | nil=>rfl
  | cons c ys=>
   simp only
   cases hp:pl c with
   | false=>rfl
   | true=>
    simp only[AaV,AaN]
    cases hn:decide (0<c.fN) with
    | true=>
     simp only[AaQ]
     cases hq:IC (P+1) (decide (c.fKind=6)) none c.fN.toNat ys with
     | none=>rfl
     | some q=>
      obtain⟨kids,zs⟩:=q;simp only[IC]
      cases hr:IC (P+1) m key k zs with
      | none=>rfl
      | some q=>obtain⟨a,b⟩:=q;rfl
    | false=>
     simp only[AaN,IC]
     cases hr:IC (P+1) m key k ys with
     | none=>rfl
     | some q=>obtain⟨a,b⟩:=q;rfl
def My (m:Bool)(last:Option Ah)(k:Nat)(xs:List Aa):Option (Fo×List Aa):=IC (xs.length+1) m last k xs
theorem LE (m:Bool)(last:Option Ah)(xs:List Aa):My m last 0 xs=some (.nil,xs):=rfl
theorem Ge (m:Bool)(last:Option Ah)(k:Nat)(xs:List Aa):My m last (k+1) xs =
  match I3 m last xs with
  | none=>none
  | some (key,ys)=>match Ie ys with
   | none=>none
   | some (f,zs)=>match My m key k zs with
    | none=>none
    | some (r,us)=>some (f.put key r,us):=by
 unfold My Ie;rw[I2 (xs.length+1) (xs.length+2) m last (k+1) xs (by omega) (by omega),V2]
 cases hk:I3 m last xs with
 | none=>rfl
 | some p=>
  obtain⟨key,ys⟩:=p;have h1:=(MH hk).1;have hy:ys.length≤xs.length:=by rw[h1];simp
  simp only;rw[I2 (xs.length+2) (ys.length+1) false none 1 ys (by omega) (by omega)]
  cases hf:IC (ys.length+1) false none 1 ys with
  | none=>rfl
  | some q=>
   obtain⟨f,zs⟩:=q;have h2:=(Id _ _ _ _ _ _ _ hf).1;have hz:zs.length≤ys.length:=by rw[h2];simp
   simp only;rw[I2 (xs.length+1) (zs.length+1) m key k zs (by omega) (by omega)]
   all_goals (cases IC (zs.length+1) m key k zs<;>rfl)
theorem G1 {S O:Type}{body:S→Option (Stp S O)}{n:Nat}{s s':S}{o:O}(h:body s=some (.next s'))(h':Cg body n s'=some o):Cg body (n+1) s=some o:=by rw[Cg,h];exact h'
theorem CU {S O:Type}{body:S→Option (Stp S O)}{n:Nat}{s:S}{o:O}(h:body s=some (.out o)):Cg body (n+1) s=some o:=by rw[Cg,h]
theorem Qs:Ie []=none:=rfl
theorem G7 (c:Aa)(r:List Aa):Ie (c::r)=bif !pl c then none else bif decide (0<c.fN) then(match My (decide (c.fKind=6)) none c.fN.toNat r with
  | none=>none
  | some (kids,zs)=>some (.node none c kids .nil,zs)) else some (.cell none c .nil,r):=by
 unfold Ie;rw[IC];simp only[I3,AaN]
 cases hp:pl c with
 | false=>rfl
 | true=>
  simp only[AaV,AaN]
  cases hn:decide (0<c.fN) with
  | true=>
   simp only[AaQ];unfold My;rw[AaM]
   cases hq:IC (r.length+1) (decide (c.fKind=6)) none c.fN.toNat r with
   | none=>rfl
   | some q=>obtain⟨kids,zs⟩:=q;rfl
  | false=>rfl
theorem El {f:Fo}(h:f.one=true)(key:Option Ah)(r:Fo):(f.put key r).flat=Bu key++(f.flat++r.flat):=by
 cases f with
 | nil=>cases h
 | cell k c r'=>
  cases k with
  | some s=>cases h
  | none=>cases r' with
   | nil=>simp[Fo.put,Fo.flat,Bu]
   | cell _ _ _=>cases h
   | node _ _ _ _=>cases h
 | node k c kids r'=>
  cases k with
  | some s=>cases h
  | none=>cases r' with
   | nil=>simp[Fo.put,Fo.flat,Bu]
   | cell _ _ _=>cases h
   | node _ _ _ _=>cases h
theorem Ld {f:Fo}(h:f.one=true):1≤f.flat.length:=by
 cases f with
 | nil=>cases h
 | cell k c r'=>simp[Fo.flat];omega
 | node k c kids r'=>simp[Fo.flat];omega
theorem JK {xs ys:List Aa}{f:Fo}(h:Ie xs=some (f,ys)):xs=f.flat++ys∧f.wf false none=true∧f.one=true:=
 ⟨(Id _ _ _ _ _ _ _ h).1,(Id _ _ _ _ _ _ _ h).2.1,S9 h⟩
def IX (v:List Aa)(i:Int):Int:=match Ie (v.drop i.toNat) with
 | none=>-1
 | some (f,_)=>i+f.flat.length
def Lg (m:Bool)(last:Option Ah)(v:List Aa)(i:Int)(k:Nat):Int:=match My m last k (v.drop i.toNat) with
 | none=>-1
 | some (f,_)=>i+f.flat.length
theorem O1 {v:List Aa}{i:Int}(h0:0≤i)(h1:i≤v.length):IX v i = -1∨(i<IX v i∧IX v i≤v.length):=by
 unfold IX
 cases h:Ie (v.drop i.toNat) with
 | none=>exact .inl rfl
 | some q=>
  obtain⟨f,ys⟩:=q;obtain⟨h2,_,h3⟩:=JK h;have:=Ld h3;have hl:(v.drop i.toNat).length=f.flat.length+ys.length:=by rw[h2];simp
  rw[AbG] at hl
  right;simp only;omega
structure RfA (F M:Nat) (v:List Aa):Prop where
 hM:M≤1152921504606846976
 hv:v.length≤M
 hF:M<F
 hc:∀c∈v,c.fStr.length≤M
theorem TM (ok:Bool){i:Int}(h0:0≤i)(h1:i≤1152921504606846976):BK ok i=some (bif ok then i+1 else -1):=by
 unfold BK
 cases ok
 ·rfl
 ·rw[AP rfl,AI (by omega) (by omega)];rfl
theorem S5 {F:Nat}{c:Aa}(hF:c.fStr.length<F)(hs:c.fStr.length≤1152921504606846976):Mx F c=some (decide (c.fKind=4)&&pl c):=by
 unfold Mx;rw[TB hF (by omega)];simp only[Option.isSome_some,ov,Ab0,imp,Abl,AX,AaQ]
 cases h4:decide (c.fKind=4) with
 | false=>rfl
 | true=>
  simp only[AaL] at h4;simp[pl,h4]
theorem Dy {v:List Aa}{i:Int}{c:Aa}{r:List Aa}(h0:0≤i)(h:v.drop i.toNat=c::r):Ay v i=c:=by
 have:=(Cn h0 h).1;simp[Ay,this]
section
variable {M : Nat} {v : List Aa}
theorem Kf {F:Nat}(hA:RfA F M v){g:List Aa→Int→Option Int}{n:Int}(hn:n≤9223372036854775807):∀(L:Nat) (i x:Int),0≤i→i≤v.length→0≤x→x≤n→(∀j,i≤j→j≤v.length→g v j=some (IX v j))→v.length-i.toNat<L→
  ∃o,Cg (λσ=>CX v n g σ.1 σ.2) L (i,x)=some o∧BL (λν=>E3 ν) o=some (Lg false none v i (n-x).toNat)
 | 0,i,x,_,_,_,_,_,h=>by omega
 | L+1,i,x,h0,h1,hx,hxn,hg,hL=>by
  cases hxl:decide (x<n) with
  | false=>
   refine⟨.go i,CU (by show CX v n g i x=_;unfold CX;rw[A8 hxl]),?_⟩;simp only[AaK] at hxl;rw[show(n-x).toNat=0 from by omega];simp[BL,E3,Lg,LE,Fo.flat]
  | true=>
   have hb:CX v n g i x=Bj (decide (IX v i<0)) (some (.out (.ret (-1)))) (AX (Bw .i64 (x+1))<|some (.next (IX v i,x+1))):=by unfold CX;rw[AP hxl,hg i (Abr i) h1,AS rfl]
   simp only[AaL] at hxl;obtain⟨k,hk⟩:∃k,(n-x).toNat=k+1:=⟨(n-x).toNat-1,by omega⟩
   rw[hk];have e:Lg false none v i (k+1)=bif decide (IX v i<0) then -1 else Lg false none v (IX v i) k:=by
    unfold Lg;rw[Ge];simp only[I3,AaN]
    cases hp:Ie (v.drop i.toNat) with
    | none=>simp[IX,hp]
    | some q=>
     obtain⟨f,ys⟩:=q;obtain⟨q1,q2,q3⟩:=JK hp;have hi:IX v i=i+f.flat.length:=by simp[IX,hp]
     have hd:v.drop (IX v i).toNat=ys:=by rw[hi];exact C8 h0 q1
     rw[hd,AaR (by omega)];simp only[AaN]
     cases hr:My false none k ys with
     | none=>rfl
     | some q=>
      obtain⟨r,zs⟩:=q;simp only[El q3,Bu,AbA,AaS,hi];omega
   rw[e];rcases O1 (v:=v) h0 h1 with hneg | ⟨hlt,hle⟩
   ·exact⟨.ret (-1),CU (hb.trans (by rw[hneg,AP (by decide)])),by rw[hneg];rfl⟩
   ·have hM:=hA.hM;have hvM:=hA.hv;obtain⟨o,ho1,ho2⟩:=Kf hA hn L (IX v i) (x+1) (by omega) hle (by omega) (by omega) (λj hj=>hg j (by omega)) (by omega);exact⟨o,G1 (hb.trans (by rw[A8 (AaR (by omega)),AI (by omega) (by omega)])) ho1,by rw[ho2,show(n-(x+1)).toNat=k from by omega,AaR (by omega)];rfl⟩
theorem Nv {F:Nat}(hA:RfA F M v){g:List Aa→Int→Option Int}{n:Int}(hn:n≤9223372036854775807):∀(L:Nat) (i x:Int) (last:Ah),0≤i→i≤v.length→0≤x→x≤n→(∀j,i≤j→j≤v.length→g v j=some (IX v j))→v.length-i.toNat<L→
  ∃o,Cg (λσ=>D7 F v n g σ.1 σ.2.1 σ.2.2) L (i,last,x)=some o∧BL (λν=>Hy ν) o=some (Lg true (bif decide (0<x) then some last else none) v i (n-x).toNat)
 | 0,i,x,_,_,_,_,_,_,h=>by omega
 | L+1,i,x,last,h0,h1,hx,hxn,hg,hL=>by
  have hM:=hA.hM;have hvM:=hA.hv;have hMF:=hA.hF
  cases hxl:decide (x<n) with
  | false=>
   refine⟨.go i,CU (by show D7 F v n g i last x=_;unfold D7;rw[A8 hxl]),?_⟩;simp only[AaK] at hxl;rw[show(n-x).toNat=0 from by omega];simp[BL,Hy,Lg,LE,Fo.flat]
  | true=>
   have hxl':=hxl;simp only[AaL] at hxl;obtain⟨k,hk⟩:∃k,(n-x).toNat=k+1:=⟨(n-x).toNat-1,by omega⟩
   rw[hk]
   cases hd:v.drop i.toNat with
   | nil=>
    have hl:v.length≤i.toNat:=by simpa using hd
    refine⟨.ret (-1),CU (by
     show D7 F v n g i last x=_;unfold D7;rw[AP hxl',BB (by simp[imp,show(v.length:Int)≤i from by omega]),BB (by simp[imp,show(v.length:Int)≤i from by omega]),AP (by simp[show(v.length:Int)≤i from by omega])]),?_⟩
    simp[BL,Lg,hd,Ge,I3]
   | cons c r=>
    obtain⟨g1,g2,g3⟩:=Cn h0 hd;have hcM:=hA.hc c (Abh g1);have hat:=Dy h0 hd;have hnl:decide ((v.length:Int)≤i)=false:=by simp;omega
    have hb:D7 F v n g i last x=Bj (!(decide (c.fKind=4)&&pl c)||decide (0<x)&&(BI c.fStr last||decide (c.fStr=last))) (some (.out (.ret (-1)))) (Bx (g v (i+1)) λha=>Bj (decide (ha<0)) (some (.out (.ret (-1)))) (AX (Bw .i64 (x+1))<|some (.next (ha,c.fStr,x+1)))):=by
     unfold D7;rw[AP hxl',BB (by simp only[imp];rw[Lq h0 g3];simp),hat,S5 (by omega) (by omega),BB (by simp[imp])];simp only[hnl,ov,Ab0,AaZ];rw[Bl h0 g3,AI (by omega) (by omega)]
    have hpk:I3 true (bif decide (0<x) then some last else none) (c::r)=bif (!(decide (c.fKind=4)&&pl c)||decide (0<x)&&(BI c.fStr last||decide (c.fStr=last))) then none else some (some c.fStr,r):=by
     simp only[I3,AaQ]
     cases h4:decide (c.fKind=4) with
     | false=>simp
     | true=>
      cases hp:pl c with
      | false=>simp
      | true=>
       have hok:=(Pk hp (by simpa using h4)).2
       cases h0x:decide (0<x) with
       | false=>simp[B4,hok]
       | true=>cases hs:(BI c.fStr last||decide (c.fStr=last))<;>simp[B4,hok,hs]
    cases ht:(!(decide (c.fKind=4)&&pl c)||decide (0<x)&&(BI c.fStr last||decide (c.fStr=last))) with
    | true=>
     rw[ht] at hpk;refine⟨.ret (-1),CU (hb.trans (AP ht)),?_⟩;simp only[Lg,hd,Ge,hpk,AaQ];rfl
    | false=>
     rw[ht] at hpk;rw[A8 ht,hg (i+1) (by omega) (by omega),AS rfl] at hb;have e:Lg true (bif decide (0<x) then some last else none) v i (k+1)=bif decide (IX v (i+1)<0) then -1 else Lg true (some c.fStr) v (IX v (i+1)) k:=by
      unfold Lg;rw[hd,Ge,hpk];simp only[AaN];have hx:IX v (i+1)=match Ie r with | none=>-1 | some (f,_)=>i+1+f.flat.length:=by unfold IX;rw[g2]
      cases hp:Ie r with
      | none=>rw[hp] at hx;simp[hx]
      | some q=>
       obtain⟨f,ys⟩:=q;obtain⟨q1,q2,q3⟩:=JK hp;rw[hp] at hx;simp only at hx;have hd2:v.drop (IX v (i+1)).toNat=ys:=by rw[hx];exact C8 (by omega) (g2.trans q1)
       rw[hd2,AaR (by omega)];simp only[AaN]
       cases hr:My true (some c.fStr) k ys with
       | none=>rfl
       | some q=>
        obtain⟨r',zs⟩:=q;simp only[El q3,Bu,AaS,AaM,AbC,hx];omega
     rw[e];rcases O1 (v:=v) (i:=i+1) (by omega) (by omega) with hneg | ⟨hlt,hle⟩
     ·exact⟨.ret (-1),CU (hb.trans (by rw[hneg,AP (by decide)])),by rw[hneg];rfl⟩
     ·obtain⟨o,ho1,ho2⟩:=Nv hA hn L (IX v (i+1)) (x+1) c.fStr (by omega) hle (by omega) (by omega) (λj hj=>hg j (by omega)) (by omega);exact⟨o,G1 (hb.trans (by rw[A8 (AaR (by omega)),AI (by omega) (by omega)])) ho1,by rw[ho2,show(n-(x+1)).toNat=k from by omega,AaU (show(0:Int)<x+1 from by omega),AaR (by omega)];rfl⟩
theorem Q9 {i:Int}{c:Aa}{r:List Aa}(h0:0≤i)(hd:v.drop i.toNat=c::r)(hp:pl c=true):IX v i=Lg (decide (c.fKind=6)) none v (i+1) c.fN.toNat:=by
 have g2:=(Cn h0 hd).2.1;have hN:=V3 hp;unfold IX Lg;rw[hd,G7,g2,hp];simp only[AaV,AaN]
 cases hn:decide (0<c.fN) with
 | true=>
  simp only[AaQ]
  cases hq:My (decide (c.fKind=6)) none c.fN.toNat r with
  | none=>rfl
  | some q=>
   obtain⟨kids,zs⟩:=q;simp only[Fo.flat,Bu,AbA,AaM,Ab1];omega
 | false=>
  simp only[AaK] at hn;rw[show c.fN.toNat=0 from by omega,LE];simp[Fo.flat,Bu]
theorem Qk (hA:RfA (M+1) M v)(hN:∀c∈v,c.fN≤9223372036854775807):∀(d F:Nat) (i:Int),0≤i→i≤v.length→v.length-i.toNat=d→M+2*d+3<F→DD F v i=some (IX v i):=by
 have hM:=hA.hM;have hvM:=hA.hv;intro d
 induction d using Nat.strongRecOn with
 | ind d ih=>
  intro F i h0 h1 hd hF;obtain⟨F,rfl⟩:∃G,F=G+1:=⟨F-1,by omega⟩
  obtain⟨F,rfl⟩:∃G,F=G+1:=⟨F-1,by omega⟩
  rw[DD];unfold Pf
  cases hdr:v.drop i.toNat with
  | nil=>
   have hl:v.length≤i.toNat:=by simpa using hdr
   rw[AP (by simp;omega)];simp[IX,hdr,Qs]
  | cons c r=>
   obtain⟨g1,g2,g3⟩:=Cn h0 hdr;have hcM:=hA.hc c (Abh g1);have hcN:=hN c (Abh g1);rw[A8 (by simp;omega),Bl h0 g3,Dy h0 hdr];simp only[TM _ h0 (show i≤1152921504606846976 by omega),Option.isSome_some,ov,Ab0,imp,Abl,BB (x:=_) (rfl:true=true)];have hg:∀j,i+1≤j→j≤v.length→DD F v j=some (IX v j):=λj hj hj2=>ih (v.length-j.toNat) (by omega) F j (by omega) hj2 rfl (by omega);have hpl0:pl c=false→IX v i = -1:=λhp=>by simp[IX,hdr,G7,hp]
   have hleaf:pl c=true→c.fN=0→IX v i=i+1:=λhp h0'=>by simp[IX,hdr,G7,hp,h0',Fo.flat,Bu]
   have hscal:∀b:Bool,pl c=b→(b=true→c.fN=0)→IX v i=bif b then i+1 else -1:=λb hb hz=>by
    cases b
    ·exact hpl0 hb
    ·exact hleaf hb (hz rfl)
   by_cases k1:c.fKind=1
   ·rw[AP (by simp[k1])];have hp:pl c=(decide (c.fInt=0)&&(decide (c.fStr=[])&&decide (c.fN=0))):=by simp[pl,k1]
    rw[hscal _ hp (λh=>by simp at h;exact h.2.2)]
    cases decide (c.fInt=0)<;>cases decide (c.fStr=[])<;>cases decide (c.fN=0)<;>rfl
   rw[A8 (by simp[k1])]
   by_cases k2:c.fKind=2
   ·rw[AP (by simp[k2])];have hp:pl c=((decide (c.fInt=0)||decide (c.fInt=1))&&(decide (c.fStr=[])&&decide (c.fN=0))):=by simp[pl,k2]
    rw[hscal _ hp (λh=>by simp at h;exact h.2.2)]
    cases decide (c.fInt=0)<;>cases decide (c.fInt=1)<;>cases decide (c.fStr=[])<;>cases decide (c.fN=0)<;>rfl
   rw[A8 (by simp[k2])]
   by_cases k3:c.fKind=3
   ·rw[AP (by simp[k3])];have hp:pl c=(decide (c.fStr=[])&&decide (c.fN=0)):=by simp[pl,k3]
    rw[hscal _ hp (λh=>by simp at h;exact h.2)]
    cases decide (c.fStr=[])<;>cases decide (c.fN=0)<;>rfl
   rw[A8 (by simp[k3])]
   by_cases k4:c.fKind=4
   ·rw[AP (by simp[k4]),S5 (by omega) (by omega),AS rfl,AS rfl];rw[AaU k4,AaW,hscal (pl c) rfl (λhp=>by have:=(Pk hp k4).1;rw[this])]
   rw[A8 (by simp[k4])]
   by_cases k5:c.fKind=5
   ·have hp:pl c=(decide (c.fInt=0)&&(decide (c.fStr=[])&&decide (0≤c.fN))):=by simp[pl,k5]
    rw[show(decide (c.fKind=5)&&(decide (c.fInt=0)&&(decide (c.fStr=[])&&decide (0≤c.fN))))=pl c from by rw[hp,AaU k5,AaW]];have k5' : ¬ c.fKind=6:=by omega
    cases hb:pl c with
    | false=>rw[A8 rfl,A8 (by simp[k5]),hpl0 hb]
    | true=>
     have hn0:=V3 hb;rw[AP rfl,AI (by omega) (by omega),Hz];unfold IG;obtain⟨o,ho1,ho2⟩:=Kf (F:=F) ⟨hM,hvM,by omega,hA.hc⟩ hcN F (i+1) 0 (by omega) (by omega) (Abr 0) hn0 hg (by omega);rw[AS ho1,ho2,AS rfl,Q9 h0 hdr hb,AaR k5',Int.sub_zero]
   rw[A8 (by simp[k5])]
   by_cases k6:c.fKind=6
   ·have hp:pl c=(decide (c.fInt=0)&&(decide (c.fStr=[])&&decide (0≤c.fN))):=by simp[pl,k6]
    rw[show(decide (c.fKind=6)&&(decide (c.fInt=0)&&(decide (c.fStr=[])&&decide (0≤c.fN))))=pl c from by rw[hp,AaU k6,AaW]]
    cases hb:pl c with
    | false=>rw[A8 rfl,hpl0 hb]
    | true=>
     have hn0:=V3 hb;rw[AP rfl,AI (by omega) (by omega),LB];unfold MF;obtain⟨o,ho1,ho2⟩:=Nv (F:=F) ⟨hM,hvM,by omega,hA.hc⟩ hcN F (i+1) 0 [] (by omega) (by omega) (Abr 0) hn0 hg (by omega);rw[AS ho1,ho2,AS rfl,Q9 h0 hdr hb,AaU k6,Int.sub_zero];rfl
   ·rw[A8 (by simp[k6]),hpl0 (by simp[pl,k1,k2,k3,k4,k5,k6])]
theorem R8 (hA:RfA (M+1) M v)(hN:∀c∈v,c.fN≤9223372036854775807){F:Nat}(hF:3*M+3<F):KU F v=some (decide (IX v 0=v.length)):=by
 have hvM:=hA.hv;unfold KU;rw[Qk hA hN v.length F 0 (Abr 0) (by omega) (by simp) (by omega)];simp only[imp,Option.isSome_some,Abl,BB,ov,Ab0]
 cases v with
 | nil=>simp[IX,Qs]
 | cons c r=>
  rw[show decide (0<((c::r).length:Int))=true from by simp,AaW]
  first | done | rfl
end
theorem Pj {m:Bool}{last key:Option Ah}{r:List Aa}(h:B4 m last key=true):I3 m last (Bu key++r)=some (key,r):=by
 cases key with
 | none=>
  have:m=false:=by simpa[B4] using h
  subst this;rfl
 | some s=>
  have h':=h;simp only[B4,AaO] at h;obtain⟨⟨h1,h2⟩,h3⟩:=h;subst h1;have hp:pl ⟨4,0,s,0⟩=true:=by simp[pl,h2]
  show(bif pl ⟨4,0,s,0⟩&&decide ((4:Int)=4)&&B4 true last (some s) then _ else _)=_;rw[hp,h'];rfl
theorem MJ:∀(f:Fo) (m:Bool) (last:Option Ah) (ys:List Aa),f.wf m last=true→My m last f.cnt (f.flat++ys)=some (f,ys)
 | .nil,_,_,_,_=>rfl
 | .cell k c r,m,last,ys,hw=>by
  simp only[Fo.wf,AaO,Abi] at hw;obtain⟨⟨⟨w1,w2⟩,w3⟩,w4⟩:=hw;simp only[Fo.cnt,Fo.flat,Abq,Ab2];rw[Ge,Pj w1];simp only[G7,w2,w3,AaV,AaN,MJ r m k ys w4,Fo.put]
 | .node k c kids r,m,last,ys,hw=>by
  simp only[Fo.wf,AaO,AaL] at hw;obtain⟨⟨⟨⟨⟨w1,w2⟩,w3⟩,w5⟩,w6⟩,w4⟩:=hw;simp only[Fo.cnt,Fo.flat,Abq,Ab2];rw[Ge,Pj w1];have e:c.fN.toNat=kids.cnt:=by omega
  simp only[G7,w2,AaU w3,AaV,AaN,AaQ,e,MJ kids _ none (r.flat++ys) w6,MJ r m k ys w4,Fo.put]
theorem SB {f:Fo}{ys:List Aa}(h1:f.one=true)(hw:f.wf false none=true):Ie (f.flat++ys)=some (f,ys):=by
 have:=MJ f false none ys hw;have hc:f.cnt=1:=by
  cases f with
  | nil=>cases h1
  | cell k c r=>cases k with
   | some _=>cases h1
   | none=>cases r with
    | nil=>rfl
    | _=>cases h1
  | node k c kids r=>cases k with
   | some _=>cases h1
   | none=>cases r with
    | nil=>rfl
    | _=>cases h1
 rw[hc] at this;exact this
structure Il (M:Nat) (v:List Aa):Prop where
 hM:M≤1000000000
 hv:v.length≤M
 hc:∀c∈v,c.fStr.length≤M∧Bw .i64 c.fInt=true∧c.fN≤9223372036854775807
theorem Il.lk {M F:Nat}{v:List Aa}(h:Il M v)(hF:M<F):Tk F M v:=⟨by have:=h.hM;omega,by have:=h.hM;omega,h.hv,hF,h.hc⟩
theorem Il.rf {M F:Nat}{v:List Aa}(h:Il M v)(hF:M<F):RfA F M v:=⟨by have:=h.hM;omega,h.hv,hF,λc hc=>(h.hc c hc).1⟩
theorem Il.drop {M:Nat}{v:List Aa}(h:Il M v)(k:Nat):Il M (v.drop k):=⟨h.hM,by have:=h.hv;rw[AbG];omega,λc hc=>h.hc c (List.mem_of_mem_drop hc)⟩
theorem Il.take {M:Nat}{v:List Aa}(h:Il M v)(k:Nat):Il M (v.take k):=⟨h.hM,by have:=h.hv;rw[List.length_take];omega,λc hc=>h.hc c (List.mem_of_mem_take hc)⟩
def whole (v:List Aa):Option Fo:=match Ie v with
 | some (f,[])=>some f
 | _=>none
theorem ID {v:List Aa}{f:Fo}(h:whole v=some f):v=f.flat∧f.wf false none=true∧f.one=true:=by
 unfold whole at h
 cases hp:Ie v with
 | none=>rw[hp] at h;cases h
 | some q=>
  obtain⟨g,ys⟩:=q;rw[hp] at h
  cases ys with
  | cons _ _=>cases h
  | nil=>
   cases h
   obtain⟨h1,h2,h3⟩:=JK hp;exact⟨by simpa using h1,h2,h3⟩
theorem KA {f:Fo}(h1:f.one=true)(hw:f.wf false none=true):whole f.flat=some f:=by
 have:=SB (ys:=[]) h1 hw;rw[Ab1] at this;simp[whole,this]
def EU (f:Fo):Int:=
 bif f.flat.any BX then 2 else bif f.flat.any HT||(decide (200<f.flat.length)||(decide (8<f.dep)||decide (4000<(f.txt true).length))) then 3 else 0
def IM (v:List Aa):Int:=match whole v with
 | none=>1
 | some f=>EU f
theorem Le {f:Fo}(h1:f.one=true):f.cnt=1:=by
 cases f with
 | nil=>cases h1
 | cell k c r=>cases k with
  | some _=>cases h1
  | none=>cases r with
   | nil=>rfl
   | _=>cases h1
 | node k c kids r=>cases k with
  | some _=>cases h1
  | none=>cases r with
   | nil=>rfl
   | _=>cases h1
theorem Ph (s:Ah):LD s≤2*s.length+2+s.length:=by
 have h1:s.count 34≤s.length:=List.count_le_length;have h2:s.count 92≤s.length:=List.count_le_length;unfold LD;omega
theorem Za {c:Aa}{M:Nat}(hp:pl c=true)(hs:c.fStr.length≤M)(hi:(Lib.itoa c.fInt).length≤21):UB c≤3*M+21:=by
 have:=Ph c.fStr;unfold UB
 cases h1:decide (c.fKind=1) with
 | true=>simp only[AaQ];omega
 | false=>
  cases h2:decide (c.fKind=2) with
  | true=>
   simp[pl,h1,h2] at hp;simp only[AaN,AaQ];omega
  | false=>
   cases h3:decide (c.fKind=3) with
   | true=>simp only[AaN,AaQ];omega
   | false=>cases h4:decide (c.fKind=4)<;>simp only[AaN,AaQ]<;>omega
theorem P2 {M:Nat}:∀{f:Fo} {m:Bool} {l:Option Ah},f.wf m l=true→(∀c∈f.flat,c.fStr.length≤M∧Bw .i64 c.fInt=true∧c.fN≤9223372036854775807)→f.byt+f.cnt≤(3*M+24)*f.flat.length
 | .nil,_,_,_,_=>by simp[Fo.byt,Fo.flat,Fo.cnt]
 | .cell k c r,m,l,hw,hc=>by
  simp only[Fo.wf,AaO,Abi] at hw;obtain⟨⟨⟨w1,w2⟩,w3⟩,w4⟩:=hw;simp only[Fo.flat] at hc;have ih:=P2 w4 (λx hx=>hc x (by simp[hx]));obtain⟨c1,c2,c3⟩:=hc c (by simp);have i64:=GG c2;have hl:=Za w2 c1 (Lib.itoa_length_le c.fInt i64.1 i64.2);have hk:Ps k≤(3*M+24)*(Bu k).length:=by
   cases k with
   | none=>simp[Ps,Bu]
   | some s=>
    have:=(hc ⟨4,0,s,0⟩ (by simp[Bu])).1;have h2:=Ph s;simp only at this;simp only[Ps,Bu,Abs];omega
  simp only[Fo.byt,Fo.flat,Fo.cnt,AaS,AaM];have e:((3*(M:Int)+24)*(((Bu k).length+(r.flat.length+1):Nat):Int))=(3*(M:Int)+24)*(Bu k).length+((3*(M:Int)+24)*r.flat.length+(3*(M:Int)+24)):=by
   push_cast;rw[Int.mul_add,Int.mul_add,Int.mul_one]
  rw[e]
  push_cast at *
  omega
 | .node k c kids r,m,l,hw,hc=>by
  simp only[Fo.wf,AaO,AaL] at hw;obtain⟨⟨⟨⟨⟨w1,w2⟩,w3⟩,w5⟩,w6⟩,w4⟩:=hw;simp only[Fo.flat] at hc;have ih:=P2 w4 (λx hx=>hc x (by simp[hx]));have ih2:=P2 w6 (λx hx=>hc x (by simp[hx]));have hcf:=Ch kids;have hk:Ps k≤(3*M+24)*(Bu k).length:=by
   cases k with
   | none=>simp[Ps,Bu]
   | some s=>
    have:=(hc ⟨4,0,s,0⟩ (by simp[Bu])).1;have h2:=Ph s;simp only at this;simp only[Ps,Bu,Abs];omega
  simp only[Fo.byt,Fo.flat,Fo.cnt,AaS,AaM];have e:((3*(M:Int)+24)*(((Bu k).length+(kids.flat.length+r.flat.length+1):Nat):Int))=(3*(M:Int)+24)*(Bu k).length+((3*(M:Int)+24)*kids.flat.length+(3*(M:Int)+24)*r.flat.length+(3*(M:Int)+24)):=by
   push_cast;rw[Int.mul_add,Int.mul_add,Int.mul_add,Int.mul_one]
  rw[e]
  push_cast at *
  omega
theorem JV {M:Nat}(hM:M≤1000000){f:Fo}{m:Bool}{l:Option Ah}(hw:f.wf m l=true)(hl:f.flat.length≤M)(hc:∀c∈f.flat,c.fStr.length≤M∧Bw .i64 c.fInt=true∧c.fN≤9223372036854775807):f.byt≤4000000000000:=by
 have:=P2 (M:=M) hw hc;have h2:(3*M+24)*f.flat.length≤(3*1000000+24)*1000000:=Nat.mul_le_mul (by omega) (by omega);have h3:(((3*M+24)*f.flat.length:Nat):Int)=(3*(M:Int)+24)*f.flat.length:=by push_cast;rfl
 omega
theorem L4 {M F:Nat}{v:List Aa}(hA:Il M v)(hM:M≤1000000)(hF:M<F):Kl F v=some (IM v):=by
 unfold Kl IM whole;have hvM:=hA.hv;rcases XR (hA.lk hF) with⟨f,ys,hp,hl⟩ | ⟨hp,sh',hl⟩
 ·rw[hl,AS rfl,hp];obtain⟨h1,h2,h3⟩:=JK hp;have hlen:v.length=f.flat.length+ys.length:=by rw[h1];simp
  cases ys with
  | cons c r=>
   rw[AP];simp only[AaM] at hlen;simp;omega
  | nil=>
   simp only[AbC,Nat.add_zero] at hlen;rw[A8 (by simp[hlen])];have hc:∀c∈f.flat,c.fStr.length≤M∧Bw .i64 c.fInt=true∧c.fN≤9223372036854775807:=λc hc=>hA.hc c (by rw[h1];simp[hc]);have hb:=JV hM h2 (by omega) hc;have hb0:=HW h2;have e1:(f.sh 0 Np).fOutside=f.flat.any BX:=by rw[OX];rfl
   have e2:(f.sh 0 Np).fLong=f.flat.any HT:=by rw[MC];rfl
   have e3:(f.sh 0 Np).fDepth=f.dep:=by rw[KP f 0 Np (by simp[Np])];simp[Np]
   have e4:(f.sh 0 Np).fBytes=(f.txt true).length:=by
    rw[KQ f false none 0 Np h2 (by simp[Np]) (by simp[Np];omega),HQ f false none true h2,Le h3];simp[Np]
   simp only;rw[e1,e2,e3,e4,hlen];unfold EU
   cases f.flat.any BX with
   | true=>rw[AP rfl];rfl
   | false=>
    rw[A8 rfl];have a1:decide ((200:Int)<(f.flat.length:Int))=decide (200<f.flat.length):=by rw[Abj];simp;omega
    have a2:decide ((8:Int)<(f.dep:Int))=decide (8<f.dep):=by rw[Abj];simp;omega
    have a3:decide ((4000:Int)<((f.txt true).length:Int))=decide (4000<(f.txt true).length):=by rw[Abj];simp;omega
    rw[a1,a2,a3]
    cases(f.flat.any HT||(decide (200<f.flat.length)||(decide (8<f.dep)||decide (4000<(f.txt true).length))))<;>rfl
 ·rw[hl,AS rfl,hp];rfl
theorem Po {v:List Aa}{p:Int}{f:Fo}{ys:List Aa}(h1:f.one=true)(hw:f.wf false none=true)(hd:v.drop p.toNat=f.flat++ys):IX v p=p+f.flat.length:=by
 unfold IX;rw[hd,SB h1 hw]
theorem M8 {c:Aa}(hp:pl c=true)(hn:decide (0<c.fN)=false):(Fo.cell none c .nil).wf false none=true:=by simp[Fo.wf,B4,hp,hn]
theorem M7 {c:Aa}{kids:Fo}(hp:pl c=true)(hn:0<c.fN)(hk:c.fN=kids.cnt)(hw:kids.wf (decide (c.fKind=6)) none=true):(Fo.node none c kids .nil).wf false none=true:=by simp[Fo.wf,B4,hp,hn,hk,hw];omega
section
variable {M : Nat} {v : List Aa}
theorem Il.next (hA:Il M v){F:Nat}(hF:3*M+3<F){p:Int}(h0:0≤p)(h1:p≤v.length):DD F v p=some (IX v p):=by
 have hM:=hA.hM;have hvM:=hA.hv;exact Qk (hA.rf (AaX M)) (λc hc=>(hA.hc c hc).2.2) (v.length-p.toNat) F p h0 h1 rfl (by omega)
theorem KT {F:Nat}{p:Int}{c:Aa}{r:List Aa}(h0:0≤p)(hpM:p≤1152921504606846976)(hd:v.drop p.toNat=c::r)(hp:pl c=true)(hn:decide (0<c.fN)=false):CW (F+2) v p=some 1:=by
 obtain⟨g1,g2,g3⟩:=Cn h0 hd;rw[CW];unfold Iz;rw[Bl h0 g3,Dy h0 hd]
 cases hk:(!decide (c.fKind=5)&&!decide (c.fKind=6)) with
 | true=>rw[AP rfl]
 | false=>
  rw[A8 rfl,AI (by omega) (by omega),AS (CU (o:=.go 0) (by
   show CP (F+1) v p _ 0 (p+1) 0=_;unfold CP;rw[Dy h0 hd,A8 hn]))]
  simp only[BL,Eh];rw[AI (by omega) (by omega)];rfl
theorem Ox {F:Nat}{i:Int}{rec:List Aa→Int→Option Int}{most at_ x L:Int}{m:Bool}{p q:Int}{pc:Aa}(hpc:Ay v i=pc)(hm:decide (pc.fKind=6)=m)(hx:x<pc.fN)(hx0:0≤x)(hpcN:pc.fN≤9223372036854775807)
  (ha0:0≤at_) (haM:at_≤1152921504606846976) (hp:p=bif m then at_+1 else at_) (hr:rec v p=some L) (hq:DD F v p=some q):CP F v i rec most at_ x=some (.next (max most L,q,x+1)):=by
 unfold CP;rw[hpc,AP (by simpa using hx),hm]
 cases m with
 | true=>
  simp only[AaQ] at hp;rw[AP rfl,AI (by omega) (by omega),← hp,hr,AS rfl]
  cases hl:decide (most<L) with
  | true=>rw[AP rfl,hq,AS rfl,AI (by omega) (by omega),Int.max_eq_right (by simp at hl;omega)]
  | false=>rw[A8 rfl,hq,AS rfl,AI (by omega) (by omega),Int.max_eq_left (by simp at hl;omega)]
 | false=>
  simp only[AaN] at hp;rw[A8 rfl,← hp,hr,AS rfl]
  cases hl:decide (most<L) with
  | true=>rw[AP rfl,hq,AS rfl,AI (by omega) (by omega),Int.max_eq_right (by simp at hl;omega)]
  | false=>rw[A8 rfl,hq,AS rfl,AI (by omega) (by omega),Int.max_eq_left (by simp at hl;omega)]
theorem Ln {m:Bool}{last key:Option Ah}(h:B4 m last key=true):((Bu key).length:Int)=bif m then 1 else 0:=by
  cases key with
  | none=>
            have:m=false:=by simpa[B4] using h
            subst this;rfl
  | some s=>simp only[B4,AaO] at h;rw[h.1.1];rfl
theorem Ql (hA:Il M v):∀(g:Fo) (F L:Nat) (i at_ x most:Int) (m:Bool) (last:Option Ah) (ys:List Aa) (pc:Aa),Ay v i=pc→decide (pc.fKind=6)=m→pc.fN≤9223372036854775807→g.wf m last=true→v.drop at_.toNat=g.flat++ys→0≤at_→at_≤v.length→pc.fN=x+g.cnt→0≤x→0≤most→most≤1152921504606846976→g.cnt<L→3*M+5+g.flat.length<F→
  ∃o,Cg (λσ=>CP F v i (CW F) σ.1 σ.2.1 σ.2.2) L (most,at_,x)=some o∧BL (λν=>Eh ν) o=some (max most (g.dep:Int)+1):=by
 have hM:=hA.hM;have hvM:=hA.hv;have fin:∀(F L:Nat) (i at_ x most:Int) (pc:Aa),Ay v i=pc→pc.fN≤x→0≤most→most≤1152921504606846976→0<L→∃o,Cg (λσ=>CP F v i (CW F) σ.1 σ.2.1 σ.2.2) L (most,at_,x)=some o∧BL (λν=>Eh ν) o=some (most+1):=λF L i at_ x most pc hpc hx h0 hb hL=>by
  obtain⟨L,rfl⟩:∃K,L=K+1:=⟨L-1,by omega⟩
  refine⟨.go most,CU (by show CP F v i _ most at_ x=_;unfold CP;rw[hpc,A8 (by simp;omega)]),?_⟩;simp only[BL,Eh];rw[AI (by omega) (by omega)]
 have depM:∀g:Fo,g.dep≤g.flat.length:=by
  intro g
  induction g with
  | nil=>simp[Fo.dep]
  | cell k c r ih=>simp[Fo.dep,Fo.flat];omega
  | node k c kids r ih1 ih2=>simp[Fo.dep,Fo.flat];omega
 intro g
 induction g with
 | nil=>
  intro F L i at_ x most m last ys pc hpc hm hpN hw hd h0 h1 hN hx hmo hmM hL hF;obtain⟨o,h1,h2⟩:=fin F L i at_ x most pc hpc (by simp[Fo.cnt] at hN;omega) hmo hmM (by omega);exact⟨o,h1,by rw[h2];simp only[Fo.dep];congr 2<;>omega⟩
 | cell k c r ih=>
  intro F L i at_ x most m last ys pc hpc hm hpN hw hd h0 h1 hN hx hmo hmM hL hF;simp only[Fo.wf,AaO,Abi] at hw;obtain⟨⟨⟨w1,w2⟩,w3⟩,w4⟩:=hw;simp only[Fo.flat,Abq,Ab2] at hd;simp only[Fo.cnt] at hN hL;simp only[Fo.flat,AaS,AaM] at hF;obtain⟨L,rfl⟩:∃K,L=K+1:=⟨L-1,by omega⟩
  obtain⟨F,rfl⟩:∃K,F=K+2:=⟨F-2,by omega⟩
  have hd1:=C8 h0 hd;have hkl:=Ln w1;obtain⟨g1,g2,g3⟩:=Cn (by omega) hd1;have hlen:at_+(Bu k).length=bif m then at_+1 else at_:=by rw[hkl];cases m<;>simp
  have hq:=hA.next (F:=F+2) (by omega) (p:=at_+(Bu k).length) (by omega) (by omega);rw[Po (f:=.cell none c .nil) (ys:=r.flat++ys) rfl (M8 w2 w3) hd1] at hq;have hb:=Ox (most:=most) (x:=x) hpc hm (by omega) hx hpN h0 (by omega) hlen (KT (F:=F) (by omega) (by omega) hd1 w2 w3) hq;have hdd:=depM r;obtain⟨o,ho1,ho2⟩:=ih (F+2) L i (at_+(Bu k).length+((Fo.cell none c .nil).flat.length:Int)) (x+1) (max most 1) m k ys pc hpc hm hpN w4 (by rw[show(Fo.cell none c .nil).flat.length=1 from rfl];exact g2) (by omega) (by rw[show(Fo.cell none c .nil).flat.length=1 from rfl];omega) (by omega) (by omega) (by omega) (by omega) (by omega) (by omega);refine⟨o,G1 hb ho1,?_⟩;rw[ho2,Fo.dep];congr 2<;>omega
 | node k c kids r ihk ih=>
  intro F L i at_ x most m last ys pc hpc hm hpN hw hd h0 h1 hN hx hmo hmM hL hF;simp only[Fo.wf,AaO,AaL] at hw;obtain⟨⟨⟨⟨⟨w1,w2⟩,w3⟩,w5⟩,w6⟩,w4⟩:=hw;simp only[Fo.flat,Abq,Ab2] at hd;simp only[Fo.cnt] at hN hL;simp only[Fo.flat,AaS,AaM] at hF;obtain⟨L,rfl⟩:∃K,L=K+1:=⟨L-1,by omega⟩
  obtain⟨F,rfl⟩:∃K,F=K+1:=⟨F-1,by omega⟩
  have hd1:=C8 h0 hd;have hkl:=Ln w1;obtain⟨g1,g2,g3⟩:=Cn (by omega) hd1;have hcN:=(hA.hc c (Abh g1)).2.2;have hlen:at_+(Bu k).length=bif m then at_+1 else at_:=by rw[hkl];cases m<;>simp
  have hq:=hA.next (F:=F+1) (by omega) (p:=at_+(Bu k).length) (by omega) (by omega);have hfl:(Fo.node none c kids .nil).flat=c::kids.flat:=by simp[Fo.flat,Bu]
  rw[Po (f:=.node none c kids .nil) (ys:=r.flat++ys) rfl (M7 w2 w3 w5 w6) (by rw[hd1,hfl];simp)] at hq;have hdk:=depM kids;have hdd:=depM r;have hcf:=Ch kids;have hvl:(v.drop (at_+(Bu k).length+1).toNat).length=kids.flat.length+(r.flat.length+ys.length):=by rw[g2];simp
  rw[AbG] at hvl;have hrec:CW (F+1) v (at_+(Bu k).length)=some ((kids.dep:Int)+1):=by
   rw[CW];unfold Iz;rw[Bl (by omega) g3,Dy (by omega) hd1];have ha:=(HS w2 w3).1;rw[A8 (by simp;omega),AI (by omega) (by omega)];obtain⟨o,ho1,ho2⟩:=ihk F F (at_+(Bu k).length) (at_+(Bu k).length+1) 0 0 _ none (r.flat++ys) c (Dy (by omega) hd1) rfl hcN w6 (by rw[g2]) (by omega) (by omega) (by omega) (Abr 0) (Abr 0) (by omega) (by omega) (by omega);rw[AS ho1,ho2];congr 2<;>omega
  have hb:=Ox (most:=most) (x:=x) hpc hm (by omega) hx hpN h0 (by omega) hlen hrec hq;obtain⟨o,ho1,ho2⟩:=ih (F+1) L i (at_+(Bu k).length+((Fo.node none c kids .nil).flat.length:Int)) (x+1) (max most ((kids.dep:Int)+1)) m k ys pc hpc hm hpN w4 (by
   have:=C8 (by omega) g2;rw[hfl,AaM,show at_+(Bu k).length+((kids.flat.length+1:Nat):Int)=at_+(Bu k).length+1+kids.flat.length from by omega];exact this) (by omega) (by rw[hfl,AaM];omega) (by omega) (by omega) (by omega) (by omega) (by omega) (by omega)
  refine⟨o,G1 hb ho1,?_⟩;rw[ho2,Fo.dep];congr 2<;>omega
theorem R7 (hA:Il M v){F:Nat}{p:Int}{f:Fo}{ys:List Aa}(h0:0≤p)(h1:f.one=true)(hw:f.wf false none=true)(hd:v.drop p.toNat=f.flat++ys)(hF:3*M+6+f.flat.length<F):CW F v p=some (f.dep:Int):=by
 have hM:=hA.hM;have hvM:=hA.hv
 cases f with
 | nil=>cases h1
 | cell k c r=>
  cases k with
  | some s=>cases h1
  | none=>
   cases r with
   | nil=>
    simp only[Fo.wf,AaO,Abi] at hw;obtain⟨F,rfl⟩:∃K,F=K+2:=⟨F-2,by omega⟩
    have hd':v.drop p.toNat=c::ys:=by simpa[Fo.flat,Bu] using hd
    rw[KT h0 (by have:=(Cn h0 hd').2.2;omega) hd' hw.1.1.2 hw.1.2];rfl
   | cell _ _ _=>cases h1
   | node _ _ _ _=>cases h1
 | node k c kids r=>
  cases k with
  | some s=>cases h1
  | none=>
   cases r with
   | nil=>
    simp only[Fo.wf,AaO,AaL] at hw;obtain⟨⟨⟨⟨⟨w1,w2⟩,w3⟩,w5⟩,w6⟩,w4⟩:=hw;have hd':v.drop p.toNat=c::(kids.flat++ys):=by simpa[Fo.flat,Bu] using hd
    obtain⟨g1,g2,g3⟩:=Cn h0 hd';have hcN:=(hA.hc c (Abh g1)).2.2;have hcf:=Ch kids;simp only[Fo.flat,Bu,AbA,Ab1,AaM] at hF;obtain⟨F,rfl⟩:∃K,F=K+1:=⟨F-1,by omega⟩
    rw[CW];unfold Iz;have ha:=(HS w2 w3).1;rw[Bl h0 g3,Dy h0 hd',A8 (by simp;omega),AI (by omega) (by omega)];obtain⟨o,ho1,ho2⟩:=Ql hA kids F F p (p+1) 0 0 _ none ys c (Dy h0 hd') rfl hcN w6 g2 (by omega) (by omega) (by omega) (Abr 0) (Abr 0) (by omega) (by omega) (by omega);rw[AS ho1,ho2];simp only[Fo.dep];congr 1<;>omega
   | cell _ _ _=>cases h1
   | node _ _ _ _=>cases h1
end
def M0 (c:UInt8):Ah:=bif (decide (c=34)||decide (c=92)) then[92,c] else[c]
theorem LR {s:Ah}{k:Nat}{c:UInt8}(h:s[k]? =some c):Eu (s.take (k+1))=Eu (s.take k)++M0 c:=by
 rw[List.take_add_one,h];simp[Eu,List.flatMap_append,M0]
theorem QV (s:Ah):(Eu s).length≤3*s.length:=by
 rw[Lv];have h1:s.count 34≤s.length:=List.count_le_length;have h2:s.count 92≤s.length:=List.count_le_length;omega
theorem R0 {s:Ah}{x:Int}{c:UInt8}(h0:0≤x)(h:s[x.toNat]? =some c):List.take (Int.toNat (x+1)-Int.toNat x) (List.drop (Int.toNat x) s)=[c]:=by
 have hl:=(List.getElem?_eq_some_iff.1 h).1;have hc:=(List.getElem?_eq_some_iff.1 h).2;rw[show Int.toNat (x+1)-Int.toNat x=1 from by omega,List.drop_eq_getElem_cons hl,hc];rfl
theorem Y8 {s:Ah}{x:Int}{c:UInt8}(h:s[x.toNat]? =some c):decide (AT s x=34)=decide (c=34):=by
 rw[Dl h,Abj,decide_eq_true_iff,decide_eq_true_iff,← AbE];show _↔c.toNat=34;omega
theorem Y7 {s:Ah}{x:Int}{c:UInt8}(h:s[x.toNat]? =some c):decide (AT s x=92)=decide (c=92):=by
 rw[Dl h,Abj,decide_eq_true_iff,decide_eq_true_iff,← AbE];show _↔c.toNat=92;omega
theorem Pd {s out:Ah}{x:Int}{c:UInt8}(h0:0≤x)(hx:x<(s.length:Int))(hs:s.length≤1152921504606846976)(ho:out.length≤3*s.length+1)(hc:s[x.toNat]? =some c):Dh s out x=some (.next (out++M0 c,x+1)):=by
 unfold Dh M0;rw[AP (AaU hx),Bl h0 hx,Y8 hc,Y7 hc,R0 h0 hc];have l1:(([92]:Ah).length:Int)=1:=rfl;have l2:(([c]:Ah).length:Int)=1:=rfl
 cases hq:(decide (c=34)||decide (c=92)) with
 | true=>
  have l3:((out++([92]:Ah)).length:Int)=out.length+1:=by rw[AaS,Abs,Int.natCast_add];rfl
  rw[AP rfl,l1,l2,l3,AI (by omega) (by omega),AI (by omega) (by omega),Cq (by omega) (by omega),Cq (by omega) (by omega),AI (by omega) (by omega),Abq];rfl
 | false=>
  rw[A8 rfl,l2,AI (by omega) (by omega),Cq (by omega) (by omega),Cq (by omega) (by omega),AI (by omega) (by omega)];rfl
theorem DU {R V:Type}(K:V→Option R)(v:V):BL K (.go v)=K v:=rfl
theorem N0 {R V:Type}(K:V→Option R)(r:R):BL K (.ret r)=some r:=rfl
theorem Qi {s out:Ah}{x:Int}(hx : ¬ x<(s.length:Int)):Dh s out x=some (.out (.go out)):=by
 unfold Dh;rw[A8 (AaR hx)]
theorem TA {out:Ah}(h:out.length≤4611686018427387904):DL out=some (out++[34]):=by
 unfold DL;have l1:(([34]:Ah).length:Int)=1:=rfl;rw[l1,AI (by omega) (by omega)]
theorem Ks {F:Nat}{s:Ah}(hF:s.length<F)(hs:s.length≤1152921504606846976):IF F s=some (Ek s):=by
 obtain⟨o,h1,h2⟩:=Hk (body:=λσ=>Dh s σ.1 σ.2) (λσ=>0≤σ.2∧σ.2≤(s.length:Int)∧σ.1=34::Eu (s.take σ.2.toNat)) (λσ=>s.length-σ.2.toNat)
  (λo=>BL (λν=>DL ν) o=some (Ek s)) (λσ ⟨h0,hl,ha⟩=>by
   obtain⟨out,x⟩:=σ;simp only at h0 hl ha;show(∃s',Dh s out x=_∧_)∨∃o,Dh s out x=_∧_;have hb:=QV (s.take x.toNat);have hb2:(s.take x.toNat).length≤s.length:=by rw[List.length_take];omega
   have hol:out.length≤3*s.length+1:=by rw[ha,AaM];omega
   by_cases hx:x<(s.length:Int)
   ·obtain⟨c,hc⟩:∃c,s[x.toNat]? =some c:=⟨s[x.toNat]'(by omega),AaY (by omega)⟩
    have a1:0≤x+1:=by omega
    have a2:x+1≤s.length:=by omega
    have a3:s.length-(x+1).toNat<s.length-x.toNat:=by omega
    have a4:out++M0 c=34::Eu (s.take (x+1).toNat):=by rw[show(x+1).toNat=x.toNat+1 from by omega,LR hc,ha];rfl
    exact .inl ⟨(out++M0 c,x+1),Pd h0 hx hs hol hc,⟨a1,a2,a4⟩,a3⟩
   ·have e:x.toNat=s.length:=by omega
    have hk:DL out=some (out++[34]):=TA (by omega);have hf:out++[34]=Ek s:=by rw[ha,e,AbK];rfl
    exact .inr ⟨.go out,Qi hx,(DU (λν=>DL ν) out).trans (hk.trans (congrArg some hf))⟩) F ([34],0) ⟨Abr 0,by show(0:Int)≤s.length;omega,by show([34]:Ah)=34::Eu (s.take 0);simp[Eu]⟩ (by show s.length-0<F;omega)
 unfold IF;rw[AS h1,h2]
section
variable {M : Nat} {v : List Aa}
theorem ZX (a b c d e:Ah):(((a++b)++c)++d)++e=a++(b++(c++d)++e):=by simp
theorem ZY (a b c d:Ah):((a++b)++c)++d=a++([]++(b++c)++d):=by simp
theorem ZZ (a b c:Ah):(a++b)++c=a++(b++[]++c):=by simp
theorem Aaa (a b:Ah):a++b=a++([]++[]++b):=by simp
theorem XT (a:Ah)(c:UInt8):((a++[c]).length:Int)=a.length+1:=by rw[AaS,Abs,Int.natCast_add];rfl
theorem QK (a b:Ah):((a++b).length:Int)=a.length+b.length:=by rw[AaS,Int.natCast_add]
theorem Ou {F:Nat}{i:Int}{rec:List Aa→Int→Option Ah}{out tx:Ah}{at_ x:Int}{m:Bool}{p q:Int}{pc:Aa}{key:Option Ah}{last:Option Ah}(hpc:Ay v i=pc)(hm:decide (pc.fKind=6)=m)(hx:x<pc.fN)(hx0:0≤x)(hpcN:pc.fN≤9223372036854775807)
  (ha0:0≤at_) (haM:at_<v.length) (hvM:(v.length:Int)≤1152921504606846976) (hk:B4 m last key=true) (hkey:∀s,key=some s→(Ay v at_).fStr=s∧s.length<F∧s.length≤1152921504606846976) (hp:p=bif m then at_+1 else at_) (hr:rec v p=some tx) (hq:DD F v p=some q)
  (hlen:((out++(CE (decide (x=0))++G2 key++tx)).length:Int)≤4611686018427387904):Ef F v i rec out at_ x=some (.next (out++(CE (decide (x=0))++G2 key++tx),q,x+1)):=by
 have hb:(([44]:Ah).length:Int)=1:=rfl;have hd:(([58]:Ah).length:Int)=1:=rfl;have hx1:AX (Bw .i64 (x+1)) (some (Stp.next (out++(CE (decide (x=0))++G2 key++tx),q,x+1)):Option (Stp (Ah×Int×Int) (Out Ah Ah)))=some (Stp.next (out++(CE (decide (x=0))++G2 key++tx),q,x+1)):=AI (by omega) (by omega);unfold Ef;rw[hpc,AP (AaU hx),hm]
 cases ha:decide (x=0) with
 | true=>
  rw[ha] at hx1 hlen;simp only[AaL] at ha;rw[A8 (AaR (by omega))]
  cases m with
  | true=>
   cases key with
   | none=>simp[B4] at hk
   | some s=>
    obtain⟨e1,e2,e3⟩:=hkey s rfl;simp only[AaQ] at hp;have e:((out++Ek s)++[58])++tx=out++(CE true++G2 (some s)++tx):=ZY _ _ _ _;rw[← e] at hx1 hlen ⊢;have h1:=QK ((out++Ek s)++[58]) tx;have h2:=XT (out++Ek s) 58;have h3:=QK out (Ek s);rw[AP rfl,Bl ha0 haM,e1,Ks e2 e3,AS rfl,AI (by omega) (by omega),hd,AI (by omega) (by omega),AI (by omega) (by omega),← hp,hr,AS rfl,AI (by omega) (by omega),hq,AS rfl,hx1]
  | false=>
   cases key with
   | some s=>simp[B4] at hk
   | none=>
    simp only[AaN] at hp;have e:out++tx=out++(CE true++G2 none++tx):=Aaa _ _;rw[← e] at hx1 hlen ⊢;have h1:=QK out tx;rw[A8 rfl,← hp,hr,AS rfl,AI (by omega) (by omega),hq,AS rfl,hx1]
 | false=>
  rw[ha] at hx1 hlen;simp only[AaK] at ha;rw[AP (AaU (by omega))]
  cases m with
  | true=>
   cases key with
   | none=>simp[B4] at hk
   | some s=>
    obtain⟨e1,e2,e3⟩:=hkey s rfl;simp only[AaQ] at hp;have e:(((out++[44])++Ek s)++[58])++tx=out++(CE false++G2 (some s)++tx):=ZX _ _ _ _ _;rw[← e] at hx1 hlen ⊢;have h1:=QK (((out++[44])++Ek s)++[58]) tx;have h2:=XT ((out++[44])++Ek s) 58;have h3:=QK (out++[44]) (Ek s);have h4:=XT out 44;rw[hb,AI (by omega) (by omega),AP rfl,Bl ha0 haM,e1,Ks e2 e3,AS rfl,AI (by omega) (by omega),hd,AI (by omega) (by omega),AI (by omega) (by omega),← hp,hr,AS rfl,AI (by omega) (by omega),hq,AS rfl,hx1]
  | false=>
   cases key with
   | some s=>simp[B4] at hk
   | none=>
    simp only[AaN] at hp;have e:(out++[44])++tx=out++(CE false++G2 none++tx):=ZZ _ _ _;rw[← e] at hx1 hlen ⊢;have h1:=QK (out++[44]) tx;have h4:=XT out 44;rw[hb,AI (by omega) (by omega),A8 rfl,← hp,hr,AS rfl,AI (by omega) (by omega),hq,AS rfl,hx1]
theorem S4 {i:Int}{pc:Aa}{out:Ah}(hpc:Ay v i=pc)(h:out.length≤4611686018427387904):HG v i out=some (Mr pc out):=by
 unfold HG Mr;have l1:(([123]:Ah).length:Int)=1:=rfl;have l2:(([91]:Ah).length:Int)=1:=rfl;have l3:(([125]:Ah).length:Int)=1:=rfl;have l4:(([93]:Ah).length:Int)=1:=rfl;have h1:=QK [123] out;have h2:=QK [91] out;rw[hpc]
 cases hk:decide (pc.fKind=6) with
 | true=>rw[AP rfl,AI (by omega) (by omega),AI (by omega) (by omega)];rfl
 | false=>rw[A8 rfl,AI (by omega) (by omega),AI (by omega) (by omega)];rfl
theorem Nt {F:Nat}{p:Int}{c:Aa}{r:List Aa}(h0:0≤p)(hpM:p≤1152921504606846976)(hd:v.drop p.toNat=c::r)(hp:pl c=true)(hn:decide (0<c.fN)=false)(hs:c.fStr.length<F+1)(hs2:c.fStr.length≤1152921504606846976)(hi:Bw .i64 c.fInt=true):GM (F+2) v p=some (D9 c):=by
 obtain⟨g1,g2,g3⟩:=Cn h0 hd;rw[GM];unfold L8 D9;rw[Bl h0 g3,Dy h0 hd]
 cases k1:decide (c.fKind=1) with
 | true=>rw[AP rfl];rfl
 | false=>
 rw[A8 rfl]
 cases k2:decide (c.fKind=2) with
 | true=>rw[AP rfl];cases decide (c.fInt=1)<;>rfl
 | false=>
 rw[A8 rfl]
 cases k3:decide (c.fKind=3) with
 | true=>rw[AP rfl,BB hi];rfl
 | false=>
 rw[A8 rfl]
 cases k4:decide (c.fKind=4) with
 | true=>rw[AP rfl,Ks hs hs2,AS rfl];rfl
 | false=>
 have hgo:Ef (F+1) v p (GM (F+1)) [] (p+1) 0=some (.out (.go [])):=by
  unfold Ef;rw[Dy h0 hd,A8 hn]
 rw[A8 rfl,AI (by omega) (by omega),AS (CU (o:=.go []) hgo),DU,S4 (Dy h0 hd) (by simp)];simp only[AaN,Mr]
 cases decide (c.fKind=6)<;>rfl
end
section
variable {M : Nat} {v : List Aa}
theorem GF {α:Type}[Inhabited α](a:α):ov (some a)=a:=rfl
theorem Wh {at_:Int}{k:Option Ah}{r:List Aa}(h0:0≤at_)(hA:Il M v){F:Nat}(hF:M<F)(hd:v.drop at_.toNat=Bu k++r):∀s,k=some s→(Ay v at_).fStr=s∧s.length<F∧s.length≤1152921504606846976:=λs e=>by
 subst e;have hd':v.drop at_.toNat=⟨4,0,s,0⟩::r:=by simpa[Bu] using hd
 have h1:=Dy h0 hd';have h2:=(hA.hc _ (Abh (Cn h0 hd').1)).1;have hM:=hA.hM;simp only at h2;exact⟨by rw[h1],by omega,by omega⟩
theorem Qd (hA:Il M v):∀(g:Fo) (F L:Nat) (i at_ x:Int) (out:Ah) (m:Bool) (last:Option Ah) (ys:List Aa) (pc:Aa),Ay v i=pc→decide (pc.fKind=6)=m→pc.fN≤9223372036854775807→g.wf m last=true→v.drop at_.toNat=g.flat++ys→0≤at_→at_≤v.length→pc.fN=x+g.cnt→0≤x→(out++g.txt (decide (x=0))).length≤4611686018427387904→g.cnt<L→3*M+5+g.flat.length<F→
  ∃o,Cg (λσ=>Ef F v i (GM F) σ.1 σ.2.1 σ.2.2) L (out,at_,x)=some o∧BL (λν=>HG v i ν) o=some (Mr pc (out++g.txt (decide (x=0)))):=by
 have hM:=hA.hM;have hvM:=hA.hv;intro g
 induction g with
 | nil=>
  intro F L i at_ x out m last ys pc hpc hm hpN hw hd h0 h1 hN hx hlen hL hF;obtain⟨L,rfl⟩:∃K,L=K+1:=⟨L-1,by omega⟩
  have hgo:Ef F v i (GM F) out at_ x=some (.out (.go out)):=by
   simp only[Fo.cnt] at hN;unfold Ef;rw[hpc,A8 (AaR (by omega))]
  refine⟨.go out,CU hgo,?_⟩;simp only[Fo.txt,Ab1] at hlen ⊢;rw[DU,S4 hpc hlen]
 | cell k c r ih=>
  intro F L i at_ x out m last ys pc hpc hm hpN hw hd h0 h1 hN hx hlen hL hF;simp only[Fo.wf,AaO,Abi] at hw;obtain⟨⟨⟨w1,w2⟩,w3⟩,w4⟩:=hw;simp only[Fo.flat,Abq,Ab2] at hd;simp only[Fo.cnt] at hN hL;simp only[Fo.flat,AaS,AaM] at hF;obtain⟨L,rfl⟩:∃K,L=K+1:=⟨L-1,by omega⟩
  obtain⟨F,rfl⟩:∃K,F=K+2:=⟨F-2,by omega⟩
  have hd1:=C8 h0 hd;have hkl:=Ln w1;obtain⟨g1,g2,g3⟩:=Cn (by omega) hd1;have hcM:=hA.hc c (Abh g1);have hp:at_+(Bu k).length=bif m then at_+1 else at_:=by rw[hkl];cases m<;>simp
  have hq:=hA.next (F:=F+2) (by omega) (p:=at_+(Bu k).length) (by omega) (by omega);rw[Po (f:=.cell none c .nil) (ys:=r.flat++ys) rfl (M8 w2 w3) hd1] at hq;have e:out++(Fo.cell k c r).txt (decide (x=0))=(out++(CE (decide (x=0))++G2 k++D9 c))++r.txt (decide (x+1=0)):=by
   rw[AaR (show ¬ x+1=0 by omega)];simp[Fo.txt]
  rw[e] at hlen ⊢;have hl2:((out++(CE (decide (x=0))++G2 k++D9 c)).length:Int)≤4611686018427387904:=by rw[AaS] at hlen;omega
  have hat:at_<v.length:=by omega
  have hb:=Ou hpc hm (by omega) hx hpN h0 hat (by omega) w1 (Wh h0 hA (F:=F+2) (by omega) hd) hp (Nt (F:=F) (by omega) (by omega) hd1 w2 w3 (by omega) (by omega) hcM.2.1) hq hl2;obtain⟨o,ho1,ho2⟩:=ih (F+2) L i (at_+(Bu k).length+((Fo.cell none c .nil).flat.length:Int)) (x+1) (out++(CE (decide (x=0))++G2 k++D9 c)) m k ys pc hpc hm hpN w4 (by rw[show(Fo.cell none c .nil).flat.length=1 from rfl];exact g2) (by omega) (by rw[show(Fo.cell none c .nil).flat.length=1 from rfl];omega) (by omega) (by omega) hlen (by omega) (by omega);exact⟨o,G1 hb ho1,ho2⟩
 | node k c kids r ihk ih=>
  intro F L i at_ x out m last ys pc hpc hm hpN hw hd h0 h1 hN hx hlen hL hF;simp only[Fo.wf,AaO,AaL] at hw;obtain⟨⟨⟨⟨⟨w1,w2⟩,w3⟩,w5⟩,w6⟩,w4⟩:=hw;simp only[Fo.flat,Abq,Ab2] at hd;simp only[Fo.cnt] at hN hL;simp only[Fo.flat,AaS,AaM] at hF;obtain⟨L,rfl⟩:∃K,L=K+1:=⟨L-1,by omega⟩
  obtain⟨F,rfl⟩:∃K,F=K+1:=⟨F-1,by omega⟩
  have hd1:=C8 h0 hd;have hkl:=Ln w1;obtain⟨g1,g2,g3⟩:=Cn (by omega) hd1;have hcN:=(hA.hc c (Abh g1)).2.2;have hp:at_+(Bu k).length=bif m then at_+1 else at_:=by rw[hkl];cases m<;>simp
  have hq:=hA.next (F:=F+1) (by omega) (p:=at_+(Bu k).length) (by omega) (by omega);have hfl:(Fo.node none c kids .nil).flat=c::kids.flat:=by simp[Fo.flat,Bu]
  rw[Po (f:=.node none c kids .nil) (ys:=r.flat++ys) rfl (M7 w2 w3 w5 w6) (by rw[hd1,hfl];simp)] at hq;have hcf:=Ch kids;have hvl:(v.drop (at_+(Bu k).length+1).toNat).length=kids.flat.length+(r.flat.length+ys.length):=by rw[g2];simp
  rw[AbG] at hvl;have e:out++(Fo.node k c kids r).txt (decide (x=0))=(out++(CE (decide (x=0))++G2 k++Mr c (kids.txt true)))++r.txt (decide (x+1=0)):=by
   rw[AaR (show ¬ x+1=0 by omega)];simp[Fo.txt]
  rw[e] at hlen ⊢;have hl2:((out++(CE (decide (x=0))++G2 k++Mr c (kids.txt true))).length:Int)≤4611686018427387904:=by rw[AaS] at hlen;omega
  have hl3:(kids.txt true).length≤4611686018427387904:=by
   have:=IO c (kids.txt true);rw[AaS,AaS] at hl2;omega
  have hat:at_<v.length:=by omega
  have hrec:GM (F+1) v (at_+(Bu k).length)=some (Mr c (kids.txt true)):=by
   rw[GM];unfold L8;have ha:=(HS w2 w3).1;rw[Bl (by omega) g3,Dy (by omega) hd1,A8 (AaR (by omega)),A8 (AaR (by omega)),A8 (AaR (by omega)),A8 (AaR (by omega)),AI (by omega) (by omega)];obtain⟨o,ho1,ho2⟩:=ihk F F (at_+(Bu k).length) (at_+(Bu k).length+1) 0 [] _ none (r.flat++ys) c (Dy (by omega) hd1) rfl hcN w6 (by rw[g2]) (by omega) (by omega) (by omega) (Abr 0) hl3 (by omega) (by omega);rw[AS ho1,ho2];rfl
  have hb:=Ou hpc hm (by omega) hx hpN h0 hat (by omega) w1 (Wh h0 hA (F:=F+1) (by omega) hd) hp hrec hq hl2;obtain⟨o,ho1,ho2⟩:=ih (F+1) L i (at_+(Bu k).length+((Fo.node none c kids .nil).flat.length:Int)) (x+1) (out++(CE (decide (x=0))++G2 k++Mr c (kids.txt true))) m k ys pc hpc hm hpN w4 (by
   have:=C8 (by omega) g2;rw[hfl,AaM,show at_+(Bu k).length+((kids.flat.length+1:Nat):Int)=at_+(Bu k).length+1+kids.flat.length from by omega];exact this) (by omega) (by rw[hfl,AaM];omega) (by omega) (by omega) hlen (by omega) (by omega)
  exact⟨o,G1 hb ho1,ho2⟩
theorem Qe (hA:Il M v){F:Nat}{p:Int}{f:Fo}{ys:List Aa}(h0:0≤p)(h1:f.one=true)(hw:f.wf false none=true)(hd:v.drop p.toNat=f.flat++ys)(hF:3*M+6+f.flat.length<F)(hlen:(f.txt true).length≤4611686018427387904):GM F v p=some (f.txt true):=by
 have hM:=hA.hM;have hvM:=hA.hv
 cases f with
 | nil=>cases h1
 | cell k c r=>
  cases k with
  | some s=>cases h1
  | none=>
   cases r with
   | nil=>
    simp only[Fo.wf,AaO,Abi] at hw;obtain⟨F,rfl⟩:∃K,F=K+2:=⟨F-2,by omega⟩
    have hd':v.drop p.toNat=c::ys:=by simpa[Fo.flat,Bu] using hd
    have hcM:=hA.hc c (Abh (Cn h0 hd').1);rw[Nt h0 (by have:=(Cn h0 hd').2.2;omega) hd' hw.1.1.2 hw.1.2 (by omega) (by omega) hcM.2.1];simp[Fo.txt,CE,G2]
   | cell _ _ _=>cases h1
   | node _ _ _ _=>cases h1
 | node k c kids r=>
  cases k with
  | some s=>cases h1
  | none=>
   cases r with
   | nil=>
    simp only[Fo.wf,AaO,AaL] at hw;obtain⟨⟨⟨⟨⟨w1,w2⟩,w3⟩,w5⟩,w6⟩,w4⟩:=hw;have hd':v.drop p.toNat=c::(kids.flat++ys):=by simpa[Fo.flat,Bu] using hd
    obtain⟨g1,g2,g3⟩:=Cn h0 hd';have hcN:=(hA.hc c (Abh g1)).2.2;have hcf:=Ch kids;simp only[Fo.flat,Bu,AbA,Ab1,AaM] at hF;have et:(Fo.node none c kids .nil).txt true=Mr c (kids.txt true):=by simp[Fo.txt,CE,G2]
    rw[et] at hlen ⊢;have hbl:=IO c (kids.txt true);obtain⟨F,rfl⟩:∃K,F=K+1:=⟨F-1,by omega⟩
    rw[GM];unfold L8;have ha:=(HS w2 w3).1;rw[Bl h0 g3,Dy h0 hd',A8 (AaR (by omega)),A8 (AaR (by omega)),A8 (AaR (by omega)),A8 (AaR (by omega)),AI (by omega) (by omega)];obtain⟨o,ho1,ho2⟩:=Qd hA kids F F p (p+1) 0 [] _ none ys c (Dy h0 hd') rfl hcN w6 g2 (by omega) (by omega) (by omega) (Abr 0) (by show(kids.txt true).length≤_;omega) (by omega) (by omega);rw[AS ho1,ho2];rfl
   | cell _ _ _=>cases h1
   | node _ _ _ _=>cases h1
theorem TL {F:Nat}{K:Option Int}(hF:v.length<F)(hv:v.length≤1152921504606846976):Bx (Cg (λσ=>E5 v σ) F 0) (BL λ_=>K)=bif v.any BX then some 2 else K:=by
 obtain⟨o,h1,h2⟩:=Hk (body:=λσ=>E5 v σ) (λx=>0≤x∧x≤(v.length:Int)∧(v.take x.toNat).any BX=false) (λx=>v.length-x.toNat)
  (λo=>BL (λ_=>K) o=bif v.any BX then some 2 else K) (λx ⟨h0,hl,ha⟩=>by
   by_cases hx:x<(v.length:Int)
   ·obtain⟨c,hc⟩:∃c,v[x.toNat]? =some c:=⟨v[x.toNat]'(by omega),AaY (by omega)⟩
    have hat:Ay v x=c:=by simp[Ay,hc]
    have ho:(decide (c.fKind=3)&&(decide (c.fInt<(-1000000000000))||decide (1000000000000<c.fInt)))=BX c:=by
     unfold BX
     cases decide (c.fKind=3) with
     | false=>rfl
     | true=>
      rw[AaW,AaW,Abj];simp only[Abt,AaL,Abi,Abx,AaK];omega
    have hb:E5 v x=Bj (BX c) (some (.out (.ret 2))) (some (.next (x+1))):=by
     unfold E5;rw[AP (AaU hx),Bl h0 hx,hat,ho,AI (by omega) (by omega)]
    cases hq:BX c with
    | true=>
     refine .inr ⟨.ret 2,hb.trans (AP hq),?_⟩;have:v.any BX=true:=List.any_eq_true.2 ⟨c,Abh hc,hq⟩;rw[N0,this];rfl
    | false=>
     have a3:(v.take (x+1).toNat).any BX=false:=by
      rw[show(x+1).toNat=x.toNat+1 from by omega,List.take_add_one,hc,List.any_append,ha];simp[hq]
     exact .inl ⟨x+1,hb.trans (A8 hq),⟨by omega,by omega,a3⟩,by omega⟩
   ·refine .inr ⟨.go (),by unfold E5;rw[A8 (AaR hx)],?_⟩;rw[show x.toNat=v.length from by omega,AbK] at ha;rw[DU,ha];rfl) F 0 ⟨Abr 0,by omega,by simp⟩ (by simpa using hF)
 rw[AS h1,h2]
theorem TK {F:Nat}{K:Option Int}(hF:v.length<F)(hv:v.length≤1152921504606846976):Bx (Cg (λσ=>E4 v σ) F 0) (BL λ_=>K)=bif v.any HT then some 3 else K:=by
 obtain⟨o,h1,h2⟩:=Hk (body:=λσ=>E4 v σ) (λx=>0≤x∧x≤(v.length:Int)∧(v.take x.toNat).any HT=false) (λx=>v.length-x.toNat)
  (λo=>BL (λ_=>K) o=bif v.any HT then some 3 else K) (λx ⟨h0,hl,ha⟩=>by
   by_cases hx:x<(v.length:Int)
   ·obtain⟨c,hc⟩:∃c,v[x.toNat]? =some c:=⟨v[x.toNat]'(by omega),AaY (by omega)⟩
    have hat:Ay v x=c:=by simp[Ay,hc]
    have hb:E4 v x=Bj (HT c) (some (.out (.ret 3))) (some (.next (x+1))):=by
     unfold E4;rw[AP (AaU hx),Bl h0 hx,hat,AI (by omega) (by omega)];rfl
    cases hq:HT c with
    | true=>
     refine .inr ⟨.ret 3,hb.trans (AP hq),?_⟩;have:v.any HT=true:=List.any_eq_true.2 ⟨c,Abh hc,hq⟩;rw[N0,this];rfl
    | false=>
     have a3:(v.take (x+1).toNat).any HT=false:=by
      rw[show(x+1).toNat=x.toNat+1 from by omega,List.take_add_one,hc,List.any_append,ha];simp[hq]
     exact .inl ⟨x+1,hb.trans (A8 hq),⟨by omega,by omega,a3⟩,by omega⟩
   ·refine .inr ⟨.go (),by unfold E4;rw[A8 (AaR hx)],?_⟩;rw[show x.toNat=v.length from by omega,AbK] at ha;rw[DU,ha];rfl) F 0 ⟨Abr 0,by omega,by simp⟩ (by simpa using hF)
 rw[AS h1,h2]
theorem Pv:decide (IX v 0=v.length)=(whole v).isSome:=by
 unfold IX whole;rw[show v.drop (0:Int).toNat=v from rfl]
 cases hp:Ie v with
 | none=>simp
 | some q=>
  obtain⟨f,ys⟩:=q;have h1:=(JK hp).1;have hl:v.length=f.flat.length+ys.length:=by rw[h1];simp
  cases ys with
  | nil=>simp at hl ⊢;omega
  | cons c r=>simp at hl ⊢;omega
theorem LC (hA:Il M v)(hM:M≤1000000){F:Nat}(hF:4*M+6<F):Kt F v=some (IM v):=by
 have hvM:=hA.hv;unfold Kt;rw[R8 (hA.rf (AaX M)) (λc hc=>(hA.hc c hc).2.2) (by omega),AS rfl,Pv];unfold IM
 cases hwh:whole v with
 | none=>rfl
 | some f=>
  obtain⟨h1,h2,h3⟩:=ID hwh;rw[A8 (p:=!(some f).isSome) rfl]
  change _=some (EU f)
  have hl:v.length=f.flat.length:=by rw[h1]
  have hc:∀c∈f.flat,c.fStr.length≤M∧Bw .i64 c.fInt=true∧c.fN≤9223372036854775807:=λc hc=>hA.hc c (by rw[h1];exact hc);have hb:=JV hM h2 (by omega) hc;have htl:((f.txt true).length:Int)=f.byt:=by rw[HQ f false none true h2,Le h3];simp
  have hd0:v.drop (0:Int).toNat=f.flat++[]:=by rw[Ab1];exact h1
  rw[TL (by omega) (by omega)];unfold EU I1;rw[R7 hA (Abr 0) h3 h2 hd0 (by omega),BB (by simp[imp]),TK (by omega) (by omega)];unfold I0;rw[Qe hA (Abr 0) h3 h2 hd0 (by omega) (by omega),AS rfl];rw[GF,hl,← h1];have a1:decide ((200:Int)<(v.length:Int))=decide (200<v.length):=by rw[Abj];simp;omega
  have a2:decide ((8:Int)<(f.dep:Int))=decide (8<f.dep):=by rw[Abj];simp;omega
  have a3:decide ((4000:Int)<((f.txt true).length:Int))=decide (4000<(f.txt true).length):=by rw[Abj];simp;omega
  rw[a1,a2,a3]
  cases v.any BX<;>cases v.any HT<;>cases decide (200<v.length)<;>cases decide (8<f.dep)<;>cases decide (4000<(f.txt true).length)<;>rfl
end
theorem Dk {α:Type}{n:Nat}{x:Option α}(h:n≤140737488355328):AX (DC 1 n) x=x:=BB (AaU (by omega))
theorem G3 {α β:Type}(a:α)(k:α→Option β):Lx a k=k a:=rfl
theorem GS {α:Type}{n:Int}{x:Option α}(h:0≤n)(h':n≤255):AX (Bw .u8 n) x=x:=BB (XZ h h')
theorem WP {s:Ah}{x:Int}{c:UInt8}(h:s[x.toNat]? =some c):UInt8.ofNat (Int.toNat (AT s x))=c∧0≤AT s x∧AT s x≤255:=by
 have:=UInt8.toNat_lt c;rw[Dl h];refine⟨?_,by omega,by omega⟩;rw[← AbE];simp
theorem PT {s l:Ah}{x:Int}{c:UInt8}(h0:0≤x)(hx:x<(s.length:Int))(hs:s.length≤1152921504606846976)(hl:l.length+2≤140737488355328)(hc:s[x.toNat]? =some c):D5 s x l=some (.next (x+1,l++M0 c)):=by
 obtain⟨b1,b2,b3⟩:=WP hc;unfold D5 M0;rw[AP (AaU hx),Bl h0 hx,Y8 hc,Y7 hc];have l1:(l++[UInt8.ofNat (Int.toNat 92)]).length=l.length+1:=by simp
 cases hq:(decide (c=34)||decide (c=92)) with
 | true=>
  rw[AP rfl,Dk (by omega),GS (by decide) (by decide),G3,l1,Dk (by omega),GS b2 b3,G3,b1,AI (by omega) (by omega),Abq];rfl
 | false=>
  rw[A8 rfl,Dk (by omega),GS b2 b3,G3,b1,AI (by omega) (by omega)];rfl
theorem UP {l:Ah}(h:l.length+1≤140737488355328):EY l=some (l++[34]):=by
 unfold EY;rw[Dk h,G3];rfl
theorem L3 {F:Nat}{l s:Ah}(hF:s.length<F)(hl:(l++Ek s).length≤140737488355328):Kk F l s=some (l++Ek s):=by
 have hq:(Ek s).length=(Eu s).length+2:=by simp[Ek]
 rw[AaS,hq] at hl;have hesc:∀k,(Eu (s.take k)).length≤(Eu s).length:=λk=>by
  have:Eu s=Eu (s.take k)++Eu (s.drop k):=by rw[Eu,Eu,Eu,← List.flatMap_append,AbF]
  rw[this,AaS];omega
 have hsl:s.length≤(Eu s).length:=by rw[Lv];omega
 obtain⟨o,h1,h2⟩:=Hk (body:=λσ=>D5 s σ.1 σ.2) (λσ=>0≤σ.1∧σ.1≤(s.length:Int)∧σ.2=l++[34]++Eu (s.take σ.1.toNat)) (λσ=>s.length-σ.1.toNat)
  (λo=>BL (λν=>EY ν) o=some (l++Ek s)) (λσ ⟨h0,hlx,ha⟩=>by
   obtain⟨x,out⟩:=σ;simp only at h0 hlx ha;show(∃s',D5 s x out=_∧_)∨∃o,D5 s x out=_∧_;have hol:out.length=l.length+1+(Eu (s.take x.toNat)).length:=by rw[ha];simp;omega
   have he:=hesc x.toNat
   by_cases hx:x<(s.length:Int)
   ·obtain⟨c,hc⟩:∃c,s[x.toNat]? =some c:=⟨s[x.toNat]'(by omega),AaY (by omega)⟩
    have he2:=hesc (x.toNat+1);rw[LR hc,AaS] at he2;have hc1:1≤(M0 c).length:=by unfold M0;cases(decide (c=34)||decide (c=92))<;>simp
    have a1:0≤x+1:=by omega
    have a2:x+1≤s.length:=by omega
    have a3:s.length-(x+1).toNat<s.length-x.toNat:=by omega
    have a4:out++M0 c=l++[34]++Eu (s.take (x+1).toNat):=by rw[show(x+1).toNat=x.toNat+1 from by omega,LR hc,ha,Abq]
    exact .inl ⟨(x+1,out++M0 c),PT h0 hx (by omega) (by omega) hc,⟨a1,a2,a4⟩,a3⟩
   ·have e:x.toNat=s.length:=by omega
    rw[e,AbK] at ha;have hf:out++[34]=l++Ek s:=by rw[ha];simp[Ek]
    have hgo:D5 s x out=some (.out (.go out)):=by unfold D5;rw[A8 (AaR hx)]
    exact .inr ⟨.go out,hgo,(DU (λν=>EY ν) out).trans ((UP (by omega)).trans (congrArg some hf))⟩) F (0,l++[34]) ⟨Abr 0,by show(0:Int)≤s.length;omega,by show l++[34]=l++[34]++Eu (s.take 0);simp[Eu]⟩ (by show s.length-0<F;omega)
 unfold Kk;rw[Dk (by omega),GS (by decide) (by decide),G3];have hb:[UInt8.ofNat (Int.toNat 34)]=([34]:Ah):=rfl;rw[hb,AS h1,h2]
theorem MY {F:Nat}{l key:Ah}{x:List Aa}{first:Bool}{c:Aa}{k last:Option Ah}{tx:Ah}(hk:B4 (decide (c.fKind=6)) last k=true)(hkey:∀s,k=some s→key=s∧s.length<F)
  (hlen:(l++(CE first++G2 k++tx)).length≤140737488355328) (hw:∀l':Ah,(l'++tx).length≤140737488355328→G5 F l' x=some (l'++tx)):EM (F+1) key x first l c=some (true,false,l++(CE first++G2 k++tx)):=by
 rw[EM];unfold KC;have hb:[UInt8.ofNat (Int.toNat 44)]=([44]:Ah):=rfl;have ha:[UInt8.ofNat (Int.toNat 58)]=([58]:Ah):=rfl;have hlen':=hlen;simp only[AaS] at hlen'
 cases first with
 | true=>
  rw[A8 (p:=!true) rfl]
  cases hm:decide (c.fKind=6) with
  | true=>
   rw[hm] at hk
   cases k with
   | none=>simp[B4] at hk
   | some s=>
    obtain⟨e1,e2⟩:=hkey s rfl;subst e1;simp only[G2,AaS,Abs] at hlen';have h1:(l++Ek key).length≤140737488355328:=by rw[AaS];omega
    have e:((l++Ek key)++[58])++tx=l++(CE true++G2 (some key)++tx):=ZY _ _ _ _;rw[← e] at hlen ⊢;rw[AP rfl,L3 e2 h1,AS rfl,Dk (by rw[AaS];omega),GS (by decide) (by decide),G3,ha,hw _ hlen,AS rfl]
  | false=>
   rw[hm] at hk
   cases k with
   | some s=>simp[B4] at hk
   | none=>
    have e:l++tx=l++(CE true++G2 none++tx):=Aaa _ _;rw[← e] at hlen ⊢;rw[A8 rfl,hw _ hlen,AS rfl]
 | false=>
  simp only[CE,AaN,Abs] at hlen';rw[AP (p:=!false) rfl,Dk (by omega),GS (by decide) (by decide),G3,hb]
  cases hm:decide (c.fKind=6) with
  | true=>
   rw[hm] at hk
   cases k with
   | none=>simp[B4] at hk
   | some s=>
    obtain⟨e1,e2⟩:=hkey s rfl;subst e1;simp only[G2,AaS,Abs] at hlen';have h1:((l++[44])++Ek key).length≤140737488355328:=by simp only[AaS,Abs];omega
    have e:(((l++[44])++Ek key)++[58])++tx=l++(CE false++G2 (some key)++tx):=ZX _ _ _ _ _;rw[← e] at hlen ⊢;rw[AP rfl,L3 e2 h1,AS rfl,Dk (by simp only[AaS,Abs];omega),GS (by decide) (by decide),G3,ha,hw _ hlen,AS rfl]
  | false=>
   rw[hm] at hk
   cases k with
   | some s=>simp[B4] at hk
   | none=>
    have e:(l++[44])++tx=l++(CE false++G2 none++tx):=ZZ _ _ _;rw[← e] at hlen ⊢;rw[A8 rfl,hw _ hlen,AS rfl]
section
variable {M : Nat}
theorem Nf {F:Nat}{v:List Aa}{c:Aa}{at_ x:Int}{first:Bool}{l l2:Ah}{k last:Option Ah}{f1:Fo}{ys:List Aa}(hA:Il M v)(hF:M<F)(hpc:Ay v 0=c)(hx:x<c.fN)(hx0:0≤x)(hcN:c.fN≤9223372036854775807)(h0:0≤at_)(hk:B4 (decide (c.fKind=6)) last k=true)
  (hd:v.drop at_.toNat=Bu k++(f1.flat++ys)) (h1:f1.one=true) (hw:f1.wf false none=true) (hr:∀key,(∀s,k=some s→key=s)→EM F key f1.flat first l c=some (true,false,l2)) :
  DJ F v c (EM F) at_ x first l=some (.next (at_+(Bu k).length+f1.flat.length,x+1,false,l2)):=by
 have hM:=hA.hM;have hvM:=hA.hv;have hd1:=C8 h0 hd;have hkl:=Ln hk;have hfl:=Ld h1;have hll:(v.drop (at_+(Bu k).length).toNat).length=f1.flat.length+ys.length:=by rw[hd1];simp
 rw[AbG] at hll;have hlook:IV F (v.drop (at_+(Bu k).length).toNat)=some ((f1.flat.length:Int),f1.sh 0 Np,true):=QG ((hA.drop _).lk hF) h1 hw hd1;have htake:List.take (Int.toNat (at_+(Bu k).length+(f1.flat.length:Int))-Int.toNat (at_+(Bu k).length)) (v.drop (at_+(Bu k).length).toNat)=f1.flat:=by
  rw[hd1,show Int.toNat (at_+(Bu k).length+(f1.flat.length:Int))-Int.toNat (at_+(Bu k).length)=f1.flat.length from by omega,List.take_left]
 have hmono:0≤at_+(Bu k).length+f1.flat.length:=by omega
 unfold DJ;rw[hpc,AP (AaU hx)]
 cases hm:decide (c.fKind=6) with
 | true=>
  rw[hm] at hk hkl
  cases k with
  | none=>simp[B4] at hk
  | some s=>
   have e1:((Bu (some s)).length:Int)=1:=rfl;rw[e1] at hlook htake hll hmono ⊢;have hats:(Ay v at_).fStr=s:=by
    have:v.drop at_.toNat=⟨4,0,s,0⟩::(f1.flat++ys):=by simpa[Bu] using hd
    rw[Dy h0 this]
   have hin:at_<v.length:=by omega
   rw[AP rfl,Bl h0 hin,AI (by omega) (by omega),Cq (by omega) (by omega),hlook,AS rfl,AI (by omega) (by omega),Cq (by omega) (by omega),Cq (by omega) (by omega),htake,hats,hr s (λs' h=>by cases h;rfl),AS rfl];rw[A8 (p:=!true) rfl,AI (by omega) (by omega)]
 | false=>
  rw[hm] at hk hkl
  cases k with
  | some s=>simp[B4] at hk
  | none=>
   have e1:((Bu none).length:Int)=0:=rfl;rw[e1,Int.add_zero] at hlook htake hll hmono ⊢;rw[A8 rfl,Cq (by omega) (by omega),hlook,AS rfl,AI (by omega) (by omega),Cq (by omega) (by omega),Cq (by omega) (by omega),htake,hr [] (λs' h=>by cases h),AS rfl];rw[A8 (p:=!true) rfl,AI (by omega) (by omega)]
end
section
variable {M : Nat}
theorem EK (l:Ah)(c:UInt8):(l++[c]).length=l.length+1:=by rw[AaS,Abs]
theorem Kj {F:Nat}{l p:Ah}{v:List Aa}{c:Aa}{rf:Ah→(List Aa)→Bool→Ah→Aa→Option (Bool×Bool×Ah)}{rp:(List Aa)→Bool→Ah→Aa→Option (Bool×Ah)}(hc:Ay v 0=c)(hv:0<v.length)(hk:c.fKind=5∨c.fKind=6)(hlen:(l++Mr c p).length≤140737488355328)
  (hp:∀l':Ah,l'.length=l.length+1→∃b,rp v true l' c=some (b,l'++p)):J9 F rf rp l v=some (l++Mr c p):=by
 have hbl:=IO c p;rw[AaS,hbl] at hlen;have i0:(0:Int)<(v.length:Int):=by omega
 unfold J9;rw[Bl (Abr 0) i0,hc,A8 (AaR (by omega)),A8 (AaR (by omega)),A8 (AaR (by omega)),A8 (AaR (by omega))];have b1:[UInt8.ofNat (Int.toNat (AT ([123,125]:Ah) 0))]=([123]:Ah):=rfl;have b2:[UInt8.ofNat (Int.toNat (AT ([123,125]:Ah) 1))]=([125]:Ah):=rfl;have b3:[UInt8.ofNat (Int.toNat (AT ([91,93]:Ah) 0))]=([91]:Ah):=rfl;have b4:[UInt8.ofNat (Int.toNat (AT ([91,93]:Ah) 1))]=([93]:Ah):=rfl;have c1:AT ([123,125]:Ah) 0=123:=rfl;have c2:AT ([123,125]:Ah) 1=125:=rfl;have c3:AT ([91,93]:Ah) 0=91:=rfl;have c4:AT ([91,93]:Ah) 1=93:=rfl;have n2:(([123,125]:Ah).length:Int)=2:=rfl;have n3:(([91,93]:Ah).length:Int)=2:=rfl
 cases h6:decide (c.fKind=6) with
 | true=>
  obtain⟨b,hb⟩:=hp _ (EK l 123);rw[AP rfl,n2,Bl (by decide) (by decide),Dk (by omega),b1,b2,c1,c2,GS (by decide) (by decide),G3,hb,AS rfl,Bl (by decide) (by decide)];have e:((l++[123])++p).length=l.length+1+p.length:=by rw[AaS,EK]
  rw[e,Dk (by omega),GS (by decide) (by decide),G3];simp[Mr,h6]
 | false=>
  obtain⟨b,hb⟩:=hp _ (EK l 91);rw[A8 rfl,n3,Bl (by decide) (by decide),Dk (by omega),b3,b4,c3,c4,GS (by decide) (by decide),G3,hb,AS rfl,Bl (by decide) (by decide)];have e:((l++[91])++p).length=l.length+1+p.length:=by rw[AaS,EK]
  rw[e,Dk (by omega),GS (by decide) (by decide),G3];simp[Mr,h6]
theorem Me {F:Nat}{v:List Aa}{c:Aa}{at_ x:Int}{first:Bool}{l:Ah}{rf:Ah→(List Aa)→Bool→Ah→Aa→Option (Bool×Bool×Ah)}(hc:Ay v 0=c)(hx : ¬ x<c.fN):DJ F v c rf at_ x first l=some (.out (.go (first,l))):=by
 unfold DJ;rw[hc,A8 (AaR hx)]
theorem Md {F:Nat}{l:Ah}{c:Aa}(hp:pl c=true)(hn:decide (0<c.fN)=false)(hs:c.fStr.length<F+2)(hi:Bw .i64 c.fInt=true)(hlen:(l++D9 c).length≤140737488355328):G5 (F+3) l [c]=some (l++D9 c):=by
 rw[G5];have hat:Ay [c] 0=c:=rfl;have i0:(0:Int)<(([c]:List Aa).length:Int):=by simp
 have hN : ¬ (0:Int)<c.fN:=by simpa using hn
 by_cases ha:c.fKind=5∨c.fKind=6
 ·have el:D9 c=Mr c []:=by
   have k1:decide (c.fKind=1)=false:=AaR (by omega);have k2:decide (c.fKind=2)=false:=AaR (by omega);have k3:decide (c.fKind=3)=false:=AaR (by omega);have k4:decide (c.fKind=4)=false:=AaR (by omega);unfold D9 Mr;rw[k1,k2,k3,k4];rfl
  rw[el] at hlen ⊢;refine Kj hat (by simp) ha hlen (λl' hl'=>⟨true,?_⟩);rw[Hc];unfold Im;rw[Bl (Abr 0) i0,AS (CU (o:=.go (true,l')) (Me hat hN)),DU,Ab1];rfl
 ·unfold J9 D9;unfold D9 at hlen;rw[Bl (Abr 0) i0,hat]
  cases k1:decide (c.fKind=1) with
  | true=>
   rw[k1] at hlen;simp only[AaQ] at hlen;rw[AP rfl,Dk (by rw[AaS] at hlen;exact hlen),G3];rfl
  | false=>
  rw[k1] at hlen;simp only[AaN] at hlen;rw[A8 rfl]
  cases k2:decide (c.fKind=2) with
  | true=>
   rw[k2] at hlen;simp only[AaQ] at hlen;rw[AP rfl];simp[pl,k1,k2] at hp;simp only[AaS] at hlen;rcases hp.1 with h0 | h1
   ·rw[h0] at hlen ⊢;have a:Ay ([([102,97,108,115,101]:Ah),([116,114,117,101]:Ah)]:List Ah) 0=[102,97,108,115,101]:=rfl;have hlen2:l.length+([102,97,108,115,101]:Ah).length≤140737488355328:=hlen;rw[Bl (by decide) (by decide),a,Dk hlen2,G3];rfl
   ·rw[h1] at hlen ⊢;have a:Ay ([([102,97,108,115,101]:Ah),([116,114,117,101]:Ah)]:List Ah) 1=[116,114,117,101]:=rfl;have hlen2:l.length+([116,114,117,101]:Ah).length≤140737488355328:=hlen;rw[Bl (by decide) (by decide),a,Dk hlen2,G3];rfl
  | false=>
  rw[k2] at hlen;simp only[AaN] at hlen;rw[A8 rfl]
  cases k3:decide (c.fKind=3) with
  | true=>
   rw[k3] at hlen;simp only[AaQ,AaS] at hlen;rw[AP rfl,BB hi,Dk hlen,G3];rfl
  | false=>
  rw[k3] at hlen;simp only[AaN] at hlen;rw[A8 rfl]
  cases k4:decide (c.fKind=4) with
  | true=>
   rw[k4] at hlen;simp only[AaQ] at hlen;rw[AP rfl,L3 hs hlen,AS rfl];rfl
  | false=>
   exfalso;simp only[AaK] at k1 k2 k3 k4;simp[pl,k1,k2,k3,k4,show ¬ c.fKind=5 by omega,show ¬ c.fKind=6 by omega] at hp
theorem Il.mem {v:List Aa}(hA:Il M v){p:Int}{a b:List Aa}(h:v.drop p.toNat=a++b):Il M a:=by
 have:=(hA.drop p.toNat).take a.length
 rwa [h,List.take_left] at this
theorem NX:∀(g:Fo) (v:List Aa) (c:Aa) (F L:Nat) (at_ x:Int) (first:Bool) (l:Ah) (m:Bool) (last:Option Ah) (ys:List Aa),Il M v→Ay v 0=c→decide (c.fKind=6)=m→c.fN≤9223372036854775807→g.wf m last=true→v.drop at_.toNat=g.flat++ys→0≤at_→c.fN=x+g.cnt→0≤x→(l++g.txt first).length≤140737488355328→g.cnt<L→M+5+3*g.flat.length<F→
  ∃o b,Cg (λσ=>DJ F v c (EM F) σ.1 σ.2.1 σ.2.2.1 σ.2.2.2) L (at_,x,first,l)=some o∧BL (λν=>HB ν.1 ν.2) o=some (b,l++g.txt first):=by
 intro g
 induction g with
 | nil=>
  intro v c F L at_ x first l m last ys hA hpc hm hcN hw hd h0 hN hx hlen hL hF
  obtain⟨L,rfl⟩:∃K,L=K+1:=⟨L-1,by omega⟩
  simp only[Fo.cnt] at hN;have hx' : ¬ x<c.fN:=by omega
  refine⟨.go (first,l),first,CU (Me hpc hx'),?_⟩;rw[DU,Fo.txt,Ab1];rfl
 | cell k cc r ih=>
  intro v c F L at_ x first l m last ys hA hpc hm hcN hw hd h0 hN hx hlen hL hF
  simp only[Fo.wf,AaO,Abi] at hw;obtain⟨⟨⟨w1,w2⟩,w3⟩,w4⟩:=hw;have hd2:v.drop at_.toNat=Bu k++((Fo.cell none cc .nil).flat++(r.flat++ys)):=by rw[hd];simp[Fo.flat,Bu]
  have hd1:=C8 h0 hd2;simp only[Fo.cnt] at hN hL;simp only[Fo.flat,AaS,AaM] at hF;obtain⟨L,rfl⟩:∃K,L=K+1:=⟨L-1,by omega⟩
  obtain⟨F,rfl⟩:∃K,F=K+4:=⟨F-4,by omega⟩
  have hAe:=hA.mem hd1;have hcM:=hAe.hc cc (by simp[Fo.flat,Bu]);have e:l++(Fo.cell k cc r).txt first=(l++(CE first++G2 k++D9 cc))++r.txt false:=by simp[Fo.txt]
  rw[e] at hlen ⊢;have hl2:(l++(CE first++G2 k++D9 cc)).length≤140737488355328:=by rw[AaS] at hlen;omega
  have hb:=Nf (F:=F+4) (last:=last) hA (by omega) hpc (by omega) hx hcN h0 (by rw[hm];exact w1) hd2 rfl (M8 w2 w3) (first:=first) (l:=l) (λkey hkey=>
   MY (last:=last) (by rw[hm];exact w1) (λs hs=>⟨hkey s hs,by
    have hM:=hA.hM;subst hs;have:=(hA.hc ⟨4,0,s,0⟩ (List.mem_of_mem_drop (by rw[hd2];simp[Bu]))).1;simp only at this;omega⟩) hl2 (λl' hl'=>Md (F:=F) w2 w3 (by omega) hcM.2.1 hl'))
  obtain⟨o,b,ho1,ho2⟩:=ih v c (F+4) L (at_+(Bu k).length+((Fo.cell none cc .nil).flat.length:Int)) (x+1) false (l++(CE first++G2 k++D9 cc)) m k ys hA hpc hm hcN w4 (C8 (by omega) hd1) (by omega) (by omega) (by omega) hlen (by omega) (by omega);exact⟨o,b,G1 hb ho1,ho2⟩
 | node k cc kids r ihk ih=>
  intro v c F L at_ x first l m last ys hA hpc hm hcN hw hd h0 hN hx hlen hL hF
  simp only[Fo.wf,AaO,AaL] at hw;obtain⟨⟨⟨⟨⟨w1,w2⟩,w3⟩,w5⟩,w6⟩,w4⟩:=hw;have hd2:v.drop at_.toNat=Bu k++((Fo.node none cc kids .nil).flat++(r.flat++ys)):=by rw[hd];simp[Fo.flat,Bu]
  have hd1:=C8 h0 hd2;simp only[Fo.cnt] at hN hL;simp only[Fo.flat,AaS,AaM] at hF;obtain⟨L,rfl⟩:∃K,L=K+1:=⟨L-1,by omega⟩
  obtain⟨F,rfl⟩:∃K,F=K+3:=⟨F-3,by omega⟩
  have hAe:=hA.mem hd1;have hfl:(Fo.node none cc kids .nil).flat=cc::kids.flat:=by simp[Fo.flat,Bu]
  have hcM:=hAe.hc cc (by rw[hfl];simp);have hcf:=Ch kids;have e:l++(Fo.node k cc kids r).txt first=(l++(CE first++G2 k++Mr cc (kids.txt true)))++r.txt false:=by simp[Fo.txt]
  rw[e] at hlen ⊢;have hl2:(l++(CE first++G2 k++Mr cc (kids.txt true))).length≤140737488355328:=by rw[AaS] at hlen;omega
  have hb:=Nf (F:=F+3) (last:=last) hA (by omega) hpc (by omega) hx hcN h0 (by rw[hm];exact w1) hd2 rfl (M7 w2 w3 w5 w6) (first:=first) (l:=l) (λkey hkey=>
   MY (last:=last) (by rw[hm];exact w1) (λs hs=>⟨hkey s hs,by
    have hM:=hA.hM;subst hs;have:=(hA.hc ⟨4,0,s,0⟩ (List.mem_of_mem_drop (by rw[hd2];simp[Bu]))).1;simp only at this;omega⟩) hl2 (λl' hl'=>by
     rw[G5];have hat:Ay (Fo.node none cc kids .nil).flat 0=cc:=by rw[hfl];rfl
     have hlen0:0<(Fo.node none cc kids .nil).flat.length:=by rw[hfl];simp
     have hbl:=IO cc (kids.txt true);rw[AaS,hbl] at hl';have hb:∀l2:Ah,l2.length=l'.length+1→∃b,Hc (F+1) (Fo.node none cc kids .nil).flat true l2 cc=some (b,l2++kids.txt true):=λl2 hl2'=>by
       rw[Hc];unfold Im;have i0:(0:Int)<((Fo.node none cc kids .nil).flat.length:Int):=by omega
       obtain⟨o,b,ho1,ho2⟩:=ihk (Fo.node none cc kids .nil).flat cc F F 1 0 true l2 _ none [] hAe hat rfl hcM.2.2 w6 (by rw[hfl];simp) (by decide) (by omega) (Abr 0) (by rw[AaS];omega) (by omega) (by omega);exact⟨b,by rw[Bl (Abr 0) i0,AS ho1,ho2]⟩
     exact Kj hat hlen0 (HS w2 w3).1 (by rw[AaS,hbl];exact hl') hb))
  obtain⟨o,b,ho1,ho2⟩:=ih v c (F+3) L (at_+(Bu k).length+((Fo.node none cc kids .nil).flat.length:Int)) (x+1) false (l++(CE first++G2 k++Mr cc (kids.txt true))) m k ys hA hpc hm hcN w4 (C8 (by omega) hd1) (by omega) (by omega) (by omega) hlen (by omega) (by omega);exact⟨o,b,G1 hb ho1,ho2⟩
theorem Tt {f:Fo}{F:Nat}{l:Ah}(hA:Il M f.flat)(h1:f.one=true)(hw:f.wf false none=true)(hF:M+8+3*f.flat.length<F)(hlen:(l++f.txt true).length≤140737488355328):G5 F l f.flat=some (l++f.txt true):=by
 have hM:=hA.hM;have hvM:=hA.hv
 cases f with
 | nil=>cases h1
 | cell k c r=>
  cases k with
  | some s=>cases h1
  | none=>
   cases r with
   | nil=>
    simp only[Fo.wf,AaO,Abi] at hw;have hfl:(Fo.cell none c .nil).flat=[c]:=by simp[Fo.flat,Bu]
    have hcM:=hA.hc c (by rw[hfl];simp);have et:(Fo.cell none c .nil).txt true=D9 c:=by simp[Fo.txt,CE,G2]
    rw[et] at hlen ⊢;obtain⟨F,rfl⟩:∃K,F=K+3:=⟨F-3,by omega⟩
    rw[hfl];exact Md hw.1.1.2 hw.1.2 (by omega) hcM.2.1 hlen
   | cell _ _ _=>cases h1
   | node _ _ _ _=>cases h1
 | node k c kids r=>
  cases k with
  | some s=>cases h1
  | none=>
   cases r with
   | nil=>
    simp only[Fo.wf,AaO,AaL] at hw;obtain⟨⟨⟨⟨⟨w1,w2⟩,w3⟩,w5⟩,w6⟩,w4⟩:=hw;have hfl:(Fo.node none c kids .nil).flat=c::kids.flat:=by simp[Fo.flat,Bu]
    have hcM:=hA.hc c (by rw[hfl];simp);have et:(Fo.node none c kids .nil).txt true=Mr c (kids.txt true):=by simp[Fo.txt,CE,G2]
    rw[et] at hlen ⊢;have hcf:=Ch kids;have hat:Ay (Fo.node none c kids .nil).flat 0=c:=by rw[hfl];rfl
    have hlen0:0<(Fo.node none c kids .nil).flat.length:=by rw[hfl];simp
    have hl1:(Fo.node none c kids .nil).flat.length=kids.flat.length+1:=by rw[hfl];simp
    have hbl:=IO c (kids.txt true);obtain⟨F,rfl⟩:∃K,F=K+2:=⟨F-2,by omega⟩
    rw[G5];refine Kj hat hlen0 (HS w2 w3).1 hlen (λl2 hl2=>?_);rw[AaS,hbl] at hlen;rw[Hc];unfold Im;have i0:(0:Int)<((Fo.node none c kids .nil).flat.length:Int):=by omega
    obtain⟨o,b,ho1,ho2⟩:=NX kids (Fo.node none c kids .nil).flat c F F 1 0 true l2 _ none [] hA hat rfl hcM.2.2 w6 (by rw[hfl];simp) (by decide) (by omega) (Abr 0) (by rw[AaS];omega) (by omega) (by omega);exact⟨b,by rw[Bl (Abr 0) i0,AS ho1,ho2]⟩
   | cell _ _ _=>cases h1
   | node _ _ _ _=>cases h1
def JZ (v:List Aa):Ah×Int:=match whole v with
 | none=>([],1)
 | some f=>bif decide (EU f=0) then(f.txt true,0) else([],EU f)
theorem XV (n:Int):Lib.itoa n≠[]:=by
 unfold Lib.itoa
 split
 ·simp
 ·intro h;have:=congrArg List.length h;rw[Lib.decDigits_length] at this;have:=Lib.nDigits_pos n.toNat;simp at *;omega
theorem Xu {f:Fo}(hw:f.wf false none=true)(h1:f.one=true):0<(f.txt true).length:=by
 have e:=HQ f false none true hw
 cases f with
 | nil=>cases h1
 | cell k c r=>
  have h2:=HW hw;simp only[Fo.txt,AaS];simp only[Fo.wf,AaO] at hw;have hp:=hw.1.1.2;have:0<(D9 c).length:=by
   have hl:=O9 hp;have:0<UB c:=by
    unfold UB
    cases h1:decide (c.fKind=1) with
    | true=>simp
    | false=>
     cases h2:decide (c.fKind=2) with
     | true=>
      simp[pl,h1,h2] at hp;simp only[AaN,AaQ];omega
     | false=>
      cases h3:decide (c.fKind=3) with
      | true=>
       simp only[AaN,AaQ];have:Lib.itoa c.fInt≠[]:=XV _;have:=List.length_pos_iff.2 this;omega
      | false=>
       cases h4:decide (c.fKind=4) with
       | true=>have:=KY c.fStr;simp only[AaN,AaQ];omega
       | false=>simp
   omega
  omega
 | node k c kids r=>
  have:=IO c (kids.txt true);simp only[Fo.txt,AaS];omega
theorem Rx {v:List Aa}(hA:Il M v)(hM:M≤1000000){F:Nat}(hF:4*M+8<F):KG F v=some (JZ v):=by
 have hvM:=hA.hv;unfold KG JZ;rw[L4 hA hM (by omega),AS rfl];unfold IM
 cases hwh:whole v with
 | none=>rfl
 | some f=>
  change Bj (!decide (EU f=0)) _ _=some (bif decide (EU f=0) then(f.txt true,0) else([],EU f))
  cases he:decide (EU f=0) with
  | false=>rw[AP (p:=!false) rfl];rfl
  | true=>
   obtain⟨h1,h2,h3⟩:=ID hwh;have hl:v.length=f.flat.length:=by rw[h1]
   have hc:∀c∈f.flat,c.fStr.length≤M∧Bw .i64 c.fInt=true∧c.fN≤9223372036854775807:=λc hc=>hA.hc c (by rw[h1];exact hc);have hb:=JV hM h2 (by omega) hc;have htl:((f.txt true).length:Int)=f.byt:=by rw[HQ f false none true h2,Le h3];simp
   have hA':Il M f.flat:=by rw[← h1];exact hA
   have hw:=Tt (F:=F) (l:=[]) hA' h3 h2 (by omega) (by rw[AbA];omega);rw[A8 (p:=!true) rfl,h1,hw,AS rfl,AbA,BB (AaU (Xu h2 h3))];rfl
end
def Ve (v:List Aa):Bool:=!decide (300<v.length)&&v.all λc=>!decide (300<c.fStr.length)
def VE (c:Aa):Bool:=Bw .i64 c.fKind&&Bw .i64 c.fInt&&VD c.fStr&&Bw .i64 c.fN
theorem Il.of {v:List Aa}(hs:Ve v=true)(hc:v.all VE=true):Il 300 v:=by
 unfold Ve at hs;simp only[AaO,Abi,AaK,Ab3] at hs hc;refine⟨by decide,by omega,λc h=>?_⟩;obtain h1:=hs.2 c h;obtain h2:=hc c h;unfold VE at h2;simp only[AaO] at h2;exact⟨by omega,h2.1.1.2,(GG h2.2).2⟩
section
variable {M : Nat}
end
theorem XG (s:Ah):PB (Dt s)=s:=by
 unfold PB Dt;rw[AbJ];have:((λx:Int=>UInt8.ofNat x.toNat) ∘ λc:UInt8=>(c.toNat:Int))=id:=by funext c;simp
 rw[this,List.map_id]
theorem Xw (a b:Ah):Dt a++Dt b=Dt (a++b):=by simp[Dt]
theorem Rz (a:Ah):(Dt a).length=a.length:=by simp[Dt]
theorem Og (n:Nat):IntKind.wrap .u8 (n:Int)=((UInt8.ofNat n).toNat:Int):=by
 simp[IntKind.wrap,IntKind.signed,IntKind.bits]
theorem Aar (n:Nat):K1 .i64 (n:Int) 8=((n/256:Nat):Int):=by
 unfold K1;have e:min (8:Int).toNat (IntKind.bits .i64)=8:=by decide
 rw[e,Int.fdiv_eq_ediv_of_nonneg _ (by decide)];simp
def K4 (f:Ah):Ah:=UInt8.ofNat (f.length/256)::UInt8.ofNat (f.length % 256)::f
def Lb (l:List Ah):Ah:=UInt8.ofNat l.length::l.flatMap K4
def TR (l:List Ah):Bool:=decide (l.length≤64)&&l.all λf=>decide (f.length≤4000)
def La (l:List Ah):Ah×Int:=bif TR l then(Lb l,0) else([],3)
theorem Oz (l:List Ah)(b:List Int×Int→Option (Stp (List Int×Int) (Out (Ah×Int) (List Int))))(hl:l.length≤64)
  (hb:∀(acc:List Int) (x:Int) (f:Ah),acc.length≤300000→0≤x→x<(l.length:Int)→Ay l x=f→b (acc,x)=bif decide (4000<f.length) then some (.out (.ret ([],3))) else some (.next (acc++Dt (K4 f),x+1)))
  (he:∀acc,b (acc,(l.length:Int))=some (.out (.go acc))) {F:Nat} (hF:64<F) :
  Bx (Cg b F (Dt [UInt8.ofNat l.length],0)) (BL λq=>some (PB q,0))=some (La l):=by
 have key:∀(k:Nat) (F:Nat) (acc:Ah),k<F→k≤l.length→acc.length≤1+(l.length-k)*4002→
   Bx (Cg b F (Dt acc,((l.length-k:Nat):Int))) (BL λq=>some (PB q,0))=some (bif (l.drop (l.length-k)).all (λf=>decide (f.length≤4000)) then(acc++(l.drop (l.length-k)).flatMap K4,0) else([],3)):=by
  intro k
  induction k with
  | zero=>
   intro F acc hF _ _
   cases F with
   | zero=>omega
   | succ F=>rw[Cg,Nat.sub_zero,he];simp[Bx,BL,XG]
  | succ k ih=>
   intro F acc hF hk hacc
   cases F with
   | zero=>omega
   | succ F=>
    have hlt:l.length-(k+1)<l.length:=by omega
    have hat:Ay l ((l.length-(k+1):Nat):Int)=l[l.length-(k+1)]:=by simp[Ay,hlt]
    have hd:l.drop (l.length-(k+1))=l[l.length-(k+1)]::l.drop (l.length-k):=by
     rw[List.drop_eq_getElem_cons hlt];congr 2;omega
    have ha:(l.length-(k+1))*4002≤64*4002:=Nat.mul_le_mul_right _ (by omega);rw[Cg,hb _ _ _ (by rw[Rz];omega) (by omega) (by omega) hat,hd];generalize l[l.length-(k+1)]=f at *
    cases h4:decide (4000<f.length) with
    | true=>
     simp only[AaL] at h4;rw[Ab5,AaR (by omega),Abc];rfl
    | false=>
     simp only[AaK] at h4;have e2:(l.length-(k+1))*4002+4002=(l.length-k)*4002:=by
      rw[show l.length-k=l.length-(k+1)+1 from by omega,Nat.succ_mul]
     have:=ih F (acc++K4 f) (by omega) (by omega) (by simp[K4];omega);rw[show((l.length-(k+1):Nat):Int)+1=((l.length-k:Nat):Int) from by omega];simp only[AaN,Xw];rw[this,Ab5,AaU (by omega),AaW,List.flatMap_cons,Abq]
 have:=key l.length F [UInt8.ofNat l.length] (by omega) (Abp _) (by simp);simp only[Nat.sub_self,List.drop_zero] at this;refine Eq.trans this ?_;unfold La TR Lb;rw[AaU hl,AaW];rfl
theorem Lw {α:Type}{n:Nat}{x:Option α}(h:n≤1000000000):AX (DC 1 n) x=x:=BB (AaU (by omega))
theorem OM {α:Type}{n:Nat}{x:Option α}(h:n≤1000000000):AX (DC 16 n) x=x:=BB (AaU (by omega))
theorem Mp (f:Ah):decide ((4000:Int)<(f.length:Int))=decide (4000<f.length):=by rw[Abj];simp;omega
theorem W5 {F:Nat}{l:List Ah}(hF:64<F):QU F l=some (La l):=by
 unfold QU
 by_cases ha:l.length≤64
 ·rw[A8 (AaR (by omega)),Og];refine Oz l _ ha (λacc x f hacc h0 hx hat=>?_) (λacc=>?_) hF
  ·show GN l acc x=_;unfold GN;rw[AP (AaU hx),Bl h0 hx,hat,Mp]
   cases h4:decide (4000<f.length) with
   | true=>rfl
   | false=>
    simp only[AaK] at h4;have e1:([IntKind.wrap .u8 (K1 .i64 (f.length:Int) 8),IntKind.wrap .u8 (f.length:Int)]:List Int)++Dt f=Dt (K4 f):=by
     rw[Aar,Og,Og];simp[Dt,K4]
    rw[A8 rfl,Lw (by simp;omega),Lw (by simp;omega),AI (by omega) (by omega),Abq,e1];rfl
  ·show GN l acc _=_;unfold GN;rw[A8 (AaR (by omega))]
 ·rw[AP (AaU (by omega))];unfold La TR;rw[AaR ha];rfl
theorem TN {F:Nat}{l:List Ah}(hF:64<F):Ny F l=some (La l):=by
 unfold Ny
 by_cases ha:l.length≤64
 ·rw[A8 (AaR (by omega)),Og];refine Oz l _ ha (λacc x f hacc h0 hx hat=>?_) (λacc=>?_) hF
  ·show Gd l acc x=_;unfold Gd;rw[AP (AaU hx),Bl h0 hx,hat,Mp]
   cases h4:decide (4000<f.length) with
   | true=>rfl
   | false=>
    simp only[AaK] at h4;have ed:Int.tdiv (f.length:Int) 256=((f.length/256:Nat):Int):=by rw[Int.tdiv_eq_ediv_of_nonneg (by omega)];rfl
    have em:Int.tmod (f.length:Int) 256=((f.length % 256:Nat):Int):=by rw[Int.tmod_eq_emod_of_nonneg (by omega)];rfl
    have e1:([IntKind.wrap .u8 (Int.tdiv (f.length:Int) 256),IntKind.wrap .u8 (Int.tmod (f.length:Int) 256)]:List Int)++Dt f=Dt (K4 f):=by
     rw[ed,em,Og,Og];simp[Dt,K4]
    rw[A8 rfl,AI (by rw[ed];omega) (by rw[ed];omega),Lw (by simp;omega),Lw (by simp;omega),AI (by omega) (by omega),Abq,e1];rfl
  ·show Gd l acc _=_;unfold Gd;rw[A8 (AaR (by omega))]
 ·rw[AP (AaU (by omega))];unfold La TR;rw[AaR ha];rfl
def Km:Nat→Ah→List Ah→List Ah×Int
 | 0,s,acc=>bif decide (s=[]) then(acc,0) else([],13)
 | n+1,a::b::r,acc=>bif decide (4000<a.toNat*256+b.toNat) then([],13) else bif decide (r.length<a.toNat*256+b.toNat) then([],14) else Km n (r.drop (a.toNat*256+b.toNat)) (acc++[r.take (a.toNat*256+b.toNat)])
 | n+1,_,acc=>([],14)
def C9:Ah→List Ah×Int
 | []=>([],14)
 | c::s=>bif decide (64<c.toNat) then([],13) else Km c.toNat s []
theorem Aaz (a b:UInt8):Lz .i64 (Gl .i64 (a.toNat:Int) 8) (b.toNat:Int)=((a.toNat*256+b.toNat:Nat):Int):=by
 have ha:=a.toNat_lt;have hb:=b.toNat_lt;have e0:Gl .i64 (a.toNat:Int) 8=((a.toNat*256:Nat):Int):=by
  unfold Gl;have e:min (8:Int).toNat (IntKind.bits .i64)=8:=by decide
  rw[e,IntKind.wrap_i64];omega
 rw[e0];unfold Lz;have h1:(BitVec.ofInt (IntKind.bits .i64) ((a.toNat*256:Nat):Int)||| BitVec.ofInt (IntKind.bits .i64) (b.toNat:Int)).toNat=a.toNat*256+b.toNat:=by
  rw[BitVec.toNat_or,BitVec.toNat_ofInt,BitVec.toNat_ofInt];have hbits:IntKind.bits .i64=64:=rfl;rw[hbits];have e1:(((a.toNat*256:Nat):Int) % ((2 ^ 64:Nat):Int)).toNat=a.toNat*256:=by omega
  have e2:(((b.toNat:Nat):Int) % ((2 ^ 64:Nat):Int)).toNat=b.toNat:=by omega
  rw[e1,e2,show a.toNat*256=a.toNat <<< 8 from by rw[Nat.shiftLeft_eq]];rw[Nat.shiftLeft_add_eq_or_of_lt (by simpa using hb)]
 rw[h1,IntKind.wrap_i64];omega
theorem Zs (a:UInt8)(r:Ah):AT (a::r) 0=(a.toNat:Int):=rfl
theorem Aa2 (a b:UInt8)(r:Ah):AT (a::b::r) 1=(b.toNat:Int):=rfl
theorem W4 (s:Ah)(c:UInt8)(hs:AT s 0=(c.toNat:Int)):∀(k:Nat) (F:Nat) (t:Ah) (acc:List Ah) (z i:Int),k<F→i+k=(c.toNat:Int)→0≤i→acc.length≤64-k→k≤64→t.length≤1000000000→
  Bx (Cg (λσ=>CC s σ.1 σ.2.1 σ.2.2.1 σ.2.2.2) F (t,acc,z,i)) (BL λν=>ET ν.1 ν.2)=some (Km k t acc)
 | k,0,t,acc,z,i,h,_,_,_,_,_=>by omega
 | 0,F+1,t,acc,z,i,hF,hi,h0,ha,hk,ht=>by
  rw[Cg];have hb:CC s t acc z i=some (.out (.go (t,acc))):=by
   unfold CC;rw[A8 (AaR (by omega))]
  simp only[hb];show ET t acc=_;unfold ET Km
  cases h:decide (t=[]) with
  | true=>rw[A8 (p:=!true) rfl,Cq (by omega) (Abr _)];simp
  | false=>rfl
 | k+1,F+1,t,acc,z,i,hF,hi,h0,ha,hk,ht=>by
  rw[Cg];have hcc:=c.toNat_lt
  match t,ht with
  | [],ht=>
   have hb:CC s [] acc z i=some (.out (.ret ([],14))):=by
    unfold CC;rw[AP (AaU (by omega)),AP (by decide)];rfl
   simp only[hb];rfl
  | [a],ht=>
   have hb:CC s [a] acc z i=some (.out (.ret ([],14))):=by
    unfold CC;rw[AP (AaU (by omega)),AP (by simp)];rfl
   simp only[hb];rfl
  | a::b::r,ht=>
   have haa:=a.toNat_lt;have hbb:=b.toNat_lt;simp only[AaM] at ht;have hd:List.drop (Int.toNat 2) (a::b::r)=r:=rfl;have hb:CC s (a::b::r) acc z i=bif decide (4000<a.toNat*256+b.toNat) then some (.out (.ret ([],13))) else bif decide (r.length<a.toNat*256+b.toNat) then some (.out (.ret ([],14))) else some (.next (r.drop (a.toNat*256+b.toNat),acc++[r.take (a.toNat*256+b.toNat)],((a.toNat*256+b.toNat:Nat):Int),i+1)):=by
    unfold CC;rw[AP (AaU (by omega)),A8 (AaR (by simp only[AaM];omega)),Zs,Aa2,hd,Aaz];have hlen:((a::b::r).length:Int)=(r.length:Int)+2:=by simp only[AaM];omega
    rw[hlen,Bl (by omega) (by omega),AI (by omega) (by omega),Bl (by omega) (by omega),AI (by omega) (by omega),Cq (by omega) (by omega)];generalize a.toNat*256+b.toNat=m;rw[show decide ((4000:Int)<(m:Int))=decide (4000<m) from by rw[Abj];simp;omega,show decide ((r.length:Int)<(m:Int))=decide (r.length<m) from by rw[Abj];simp]
    cases h1:decide (4000<m) with
    | true=>rfl
    | false=>
     cases h2:decide (r.length<m) with
     | true=>rfl
     | false=>
      simp only[AaK] at h1 h2;rw[A8 rfl,A8 rfl,Cq (by omega) (by omega),OM (by simp;omega),AI (by omega) (by omega)];rfl
   simp only[hb];rw[Km]
   cases h1:decide (4000<a.toNat*256+b.toNat) with
   | true=>rfl
   | false=>
    cases h2:decide (r.length<a.toNat*256+b.toNat) with
    | true=>rfl
    | false=>
     simp only[AaN];exact W4 s c hs k F _ _ _ _ (by omega) (by omega) (by omega) (by simp;omega) (by omega) (by simp;omega)
theorem RS {F:Nat}{s:Ah}(hF:64<F)(hs:s.length≤1000000000):Lt F s=some (C9 s):=by
 unfold Lt
 cases s with
 | nil=>rfl
 | cons c t=>
  have hc:=c.toNat_lt;simp only[AaM] at hs;rw[A8 (by simp),Bl (by omega) (by simp only[AaM];omega),Zs,AI (by omega) (by omega),Cq (by omega) (by simp only[AaM];omega)];rw[show decide ((64:Int)<(c.toNat:Int))=decide (64<c.toNat) from by rw[Abj];simp;omega];rw[C9]
  cases h:decide (64<c.toNat) with
  | true=>rfl
  | false=>
   simp only[AaK] at h;rw[A8 rfl];exact W4 (c::t) c rfl c.toNat F t [] 0 0 (by omega) (by omega) (Abr 0) (by simp) (by omega) (by omega)
theorem Rf {s:Ah}{k:Nat}{a:UInt8}{r:Ah}(h:s.drop k=a::r):AT s (k:Int)=(a.toNat:Int):=by
 have:s[k]? =some a:=by rw[← List.head?_drop,h];rfl
 simp[AT,this]
theorem RE {s:Ah}{c a b:UInt8}{r:Ah}{p:Nat}{acc:List Ah}{i:Int}(hs:AT s 0=(c.toNat:Int))(hsl:s.length≤1000000000)(hd:s.drop p=a::b::r)(hi:i<(c.toNat:Int))(h0:0≤i)(ha:acc.length≤64) :
  Cs s acc (p:Int) i=bif decide (4000<a.toNat*256+b.toNat) then some (.out (.ret ([],13))) else bif decide (r.length<a.toNat*256+b.toNat) then some (.out (.ret ([],14))) else some (.next (acc++[r.take (a.toNat*256+b.toNat)],((p+2+(a.toNat*256+b.toNat):Nat):Int),i+1)):=by
 have hcc:=c.toNat_lt;have haa:=a.toNat_lt;have hbb:=b.toNat_lt;have hdl:(s.drop p).length=s.length-p:=AbG ..;rw[hd] at hdl;simp only[AaM] at hdl;have hd1:s.drop (p+1)=b::r:=by rw[← List.drop_drop,hd];rfl
 have hd2:s.drop (p+2)=r:=by rw[← List.drop_drop,hd];rfl
 have b1:AT s ((p:Int)+1)=(b.toNat:Int):=by rw[show(p:Int)+1=((p+1:Nat):Int) from by omega];exact Rf hd1
 unfold Cs;rw[hs,AP (AaU hi),AI (by omega) (by omega),A8 (AaR (by omega)),Rf hd,b1];have e1:(a.toNat:Int)*256+(b.toNat:Int)=((a.toNat*256+b.toNat:Nat):Int):=by omega
 rw[Bl (by omega) (by omega),AI (by omega) (by omega),AI (by omega) (by omega),AI (by omega) (by omega),Bl (by omega) (by omega),AI (by omega) (by omega),AI (by omega) (by omega),e1];have hm2:a.toNat*256+b.toNat≤100000:=by omega
 generalize a.toNat*256+b.toNat=m at *;have e2:(s.length:Int)-(p:Int)-2=(r.length:Int):=by omega
 have e3:(p:Int)+2+(m:Int)=((p+2+m:Nat):Int):=by omega
 have e4:Int.toNat ((p:Int)+2)=p+2:=by omega
 rw[e2,e3,e4,hd2,show decide ((4000:Int)<(m:Int))=decide (4000<m) from by rw[Abj];simp;omega,show decide ((r.length:Int)<(m:Int))=decide (r.length<m) from by rw[Abj];simp]
 cases h1:decide (4000<m) with
 | true=>rw[AP rfl,AaQ]
 | false=>
  rw[A8 rfl,AaN,AI (by omega) (by omega)]
  cases h2:decide (r.length<m) with
  | true=>rw[AP rfl,AaQ]
  | false=>
   simp only[AaK] at h1 h2;rw[A8 rfl,AaN,AI (by omega) (by omega),AI (by omega) (by omega),Cq (by omega) (by omega),Cq (by omega) (by omega),OM (by simp;omega),AI (by omega) (by omega)];rw[show(((p+2+m:Nat):Int)).toNat-(p+2)=m from by omega]
theorem X9 (s:Ah)(c:UInt8)(hs:AT s 0=(c.toNat:Int))(hsl:s.length≤1000000000)(k:Nat):∀(F:Nat) (p:Nat) (acc:List Ah) (i:Int),k<F→i+k=(c.toNat:Int)→0≤i→acc.length≤64-k→k≤64→p≤s.length→
  Bx (Cg (λσ=>Cs s σ.1 σ.2.1 σ.2.2) F (acc,(p:Int),i)) (BL λν=>Ej s ν.1 ν.2)=some (Km k (s.drop p) acc):=by
 induction k with
 | zero=>
  intro F p acc i hF hi h0 ha hk hp;obtain⟨F,rfl⟩:∃G,F=G+1:=⟨F-1,by omega⟩
  rw[Cg];have hb:Cs s acc (p:Int) i=some (.out (.go (acc,(p:Int)))):=by
   unfold Cs;rw[A8 (AaR (by omega))]
  simp only[hb];show Ej s acc p=_;unfold Ej Km;rw[show decide ((p:Int)<(s.length:Int)) = !decide (s.drop p=[]) from by rw[Abj];simp]
  cases h:decide (s.drop p=[])<;>rfl
 | succ k ih=>
  intro F p acc i hF hi h0 ha hk hp;obtain⟨F,rfl⟩:∃G,F=G+1:=⟨F-1,by omega⟩
  rw[Cg];have hcc:=c.toNat_lt;have hdl:(s.drop p).length=s.length-p:=AbG ..
  match hd:s.drop p with
  | []=>
   rw[hd] at hdl;simp only[AbC] at hdl;have hb:Cs s acc (p:Int) i=some (.out (.ret ([],14))):=by
    unfold Cs;rw[AP (AaU (by omega)),AI (by omega) (by omega),AP (AaU (by omega))]
   simp only[hb];rfl
  | [a]=>
   rw[hd] at hdl;simp only[AaM,AbC] at hdl;have hb:Cs s acc (p:Int) i=some (.out (.ret ([],14))):=by
    unfold Cs;rw[AP (AaU (by omega)),AI (by omega) (by omega),AP (AaU (by omega))]
   simp only[hb];rfl
  | a::b::r=>
   have hd2:s.drop (p+2)=r:=by rw[← List.drop_drop,hd];rfl
   have hb:=RE (acc:=acc) (i:=i) hs hsl hd (by omega) h0 (by omega);simp only[hb];rw[hd] at hdl;simp only[AaM] at hdl;rw[Km];generalize a.toNat*256+b.toNat=m
   cases h1:decide (4000<m) with
   | true=>simp only[AaQ];rfl
   | false=>
    cases h2:decide (r.length<m) with
    | true=>simp only[AaQ,AaN];rfl
    | false=>
     simp only[AaK] at h1 h2;simp only[AaN];have:=ih F (p+2+m) (acc++[r.take m]) (i+1) (by omega) (by omega) (by omega) (by rw[AaS];simp only[AaM,AbC];omega) (by omega) (by omega);rw[← List.drop_drop,hd2] at this;exact this
theorem Qq {F:Nat}{s:Ah}(hF:64<F)(hs:s.length≤1000000000):Jq F s=some (C9 s):=by
 unfold Jq
 cases s with
 | nil=>rfl
 | cons c t=>
  have hc:=c.toNat_lt;simp only[AaM] at hs;rw[A8 (AaR (by simp;omega)),Bl (by omega) (by simp only[AaM];omega),Zs];rw[show decide ((64:Int)<(c.toNat:Int))=decide (64<c.toNat) from by rw[Abj];simp;omega];rw[C9]
  cases h:decide (64<c.toNat) with
  | true=>rfl
  | false=>
   simp only[AaK] at h;rw[A8 rfl,AI (by omega) (by omega)];exact X9 (c::t) c rfl (by simp;omega) c.toNat F 1 [] 0 (by omega) (by omega) (Abr 0) (by simp) (by omega) (by simp)
theorem Ol:∀(l:List Ah) (acc:List Ah),(l.all λf=>decide (f.length≤4000))=true→Km l.length (l.flatMap K4) acc=(acc++l,0)
 | [],acc,_=>by simp[Km]
 | f::l,acc,h=>by
  simp only[Ab5,AaO,AaL] at h;rw[List.flatMap_cons,AaM];show Km (l.length+1) (UInt8.ofNat (f.length/256)::UInt8.ofNat (f.length % 256)::(f++l.flatMap K4)) acc=_;rw[Km];have e:(UInt8.ofNat (f.length/256)).toNat*256+(UInt8.ofNat (f.length % 256)).toNat=f.length:=by
   simp only[UInt8.toNat_ofNat'];omega
  rw[e,AaR (by omega),AaR (by simp),AaN,AaN,List.take_left,List.drop_left,Ol l _ (by simpa using h.2)];simp
theorem UR {l:List Ah}(h:TR l=true):C9 (Lb l)=(l,0):=by
 unfold TR at h;simp only[AaO,AaL] at h;unfold Lb;rw[C9];have e:(UInt8.ofNat l.length).toNat=l.length:=by simp only[UInt8.toNat_ofNat'];omega
 rw[e,AaR (by omega),AaN,Ol l [] h.2];rfl
theorem PW:∀(n:Nat) (s:Ah) (acc:List Ah) (q:List Ah),Km n s acc=(q,0)→∃l,q=acc++l∧l.length=n∧(l.all λf=>decide (f.length≤4000))=true∧l.flatMap K4=s
 | 0,s,acc,q,h=>by
  rw[Km] at h
  cases hs:decide (s=[]) with
  | true=>rw[hs] at h;simp only[AaQ,Prod.mk.injEq] at h;exact⟨[],by simp[h.1],rfl,rfl,by rw[Abo hs];rfl⟩
  | false=>rw[hs] at h;cases h
 | n+1,[],acc,q,h=>by have h2:(([]:List Ah),(14:Int))=(q,0):=h;cases h2
 | n+1,[a],acc,q,h=>by have h2:(([]:List Ah),(14:Int))=(q,0):=h;cases h2
 | n+1,a::b::r,acc,q,h=>by
  rw[Km] at h;have ha:=a.toNat_lt;have hb:=b.toNat_lt
  cases h1:decide (4000<a.toNat*256+b.toNat) with
  | true=>rw[h1] at h;cases h
  | false=>
   cases h2:decide (r.length<a.toNat*256+b.toNat) with
   | true=>rw[h1,h2] at h;cases h
   | false=>
    rw[h1,h2] at h;simp only[AaN] at h;simp only[AaK] at h1 h2;obtain⟨l,e1,e2,e3,e4⟩:=PW n _ _ _ h;have hl:(r.take (a.toNat*256+b.toNat)).length=a.toNat*256+b.toNat:=by simp;omega
    refine⟨r.take (a.toNat*256+b.toNat)::l,by rw[e1];simp,by simp[e2],?_,?_⟩
    ·rw[Ab5,e3,Abf,AaL,hl];omega
    ·rw[List.flatMap_cons,e4];unfold K4;rw[hl];have x1:UInt8.ofNat ((a.toNat*256+b.toNat)/256)=a:=by
      apply UInt8.toNat_inj.1;simp only[UInt8.toNat_ofNat'];omega
     have x2:UInt8.ofNat ((a.toNat*256+b.toNat) % 256)=b:=by
      apply UInt8.toNat_inj.1;simp only[UInt8.toNat_ofNat'];omega
     rw[x1,x2];simp
theorem Qx {s:Ah}{l:List Ah}(h:C9 s=(l,0)):TR l=true∧Lb l=s:=by
 cases s with
 | nil=>cases h
 | cons c t=>
  rw[C9] at h
  cases h1:decide (64<c.toNat) with
  | true=>rw[h1] at h;cases h
  | false=>
   rw[h1] at h;simp only[AaN] at h;simp only[AaK] at h1;obtain⟨l',e1,e2,e3,e4⟩:=PW _ _ _ _ h;simp only[AbA] at e1;subst e1;unfold TR Lb;rw[e3,e4,e2,AaU (by omega)];exact⟨rfl,by simp⟩
theorem Ok {s:Ah}{f:Ah}(h:f∈(C9 s).1)(h0:(C9 s).2=0):f.length≤4000:=by
 have:=(Qx (s:=s) (l:=(C9 s).1) (by rw[← h0])).1;unfold TR at this;simp only[AaO,AaL,Ab3] at this;exact this.2 f h
def pre:Ah→Ah→Option Ah
 | [],s=>some s
 | c::w,d::s=>bif decide (c=d) then pre w s else none
 | _::_,[]=>none
def Cw (strict:Bool):Ah→Option (Ah×Ah)
 | []=>none
 | c::r=>
  bif decide (c=34) then some ([],r) else
  bif strict&&!JN c then none else
  bif decide (c=92) then(match r with
   | []=>none
   | d::r'=>bif decide (d=34)||decide (d=92) then(match Cw strict r' with
    | none=>none
    | some (t,u)=>some (d::t,u)) else none)
  else(match Cw strict r with
   | none=>none
   | some (t,u)=>some (c::t,u))
def BR (c:UInt8):Bool:=decide (48≤c.toNat)&&decide (c.toNat≤57)
def BH:Ah→Ah×Ah
 | []=>([],[])
 | c::r=>bif BR c then(c::(BH r).1,(BH r).2) else([],c::r)
def Hj (d:Ah):Int:=d.foldl (λn c=>10*n+((c.toNat:Int)-48)) 0
def Jb (neg:Bool)(d:Ah):Int:=
 bif decide (18<d.length) then(bif neg then -2000000000000 else 2000000000000) else bif neg then -(Hj d) else Hj d
def DB (neg:Bool)(d:Ah):Bool:=!decide (d=[])&&!(decide (d.head? =some 48)&&(decide (1<d.length)||neg))
def Hl (s:Ah):Option (Fo×Ah):=
 let neg:=decide (s.head? =some 45)
 let r:=bif neg then s.tail else s
 bif DB neg (BH r).1 then some (.cell none ⟨3,Jb neg (BH r).1,[],0⟩ .nil,(BH r).2) else none
def lf (k i:Int)(t:Ah):Fo:=.cell none ⟨k,i,t,0⟩ .nil
def nd (m:Bool)(g:Fo):Fo:=bif decide (g.cnt=0) then .cell none ⟨bif m then 6 else 5,0,[],0⟩ .nil else .node none ⟨bif m then 6 else 5,0,[],(g.cnt:Int)⟩ g .nil
def Bh (m:Bool):UInt8:=bif m then 125 else 93
def D3 (strict m:Bool)(last:Option Ah)(s:Ah):Option (Option Ah×Ah):=
 bif m then(match s with
  | []=>none
  | c::r=>bif decide (c=34) then(match Cw strict r with
   | none=>none
   | some (k,u)=>bif strict&&!B4 true last (some k) then none else(match u with
    | []=>none
    | d::u'=>bif decide (d=58) then some (some k,u') else none)) else none)
 else some (none,s)
mutual
def ER (strict:Bool):Nat→Ah→Option (Fo×Ah)
 | 0,_=>none
 | F+1,s=>
  match pre [110,117,108,108] s with
  | some r=>some (lf 1 0 [],r)
  | none=>match pre [116,114,117,101] s with
   | some r=>some (lf 2 1 [],r)
   | none=>match pre [102,97,108,115,101] s with
    | some r=>some (lf 2 0 [],r)
    | none=>match s with
     | []=>none
     | c::r=>
      bif decide (c=34) then(match Cw strict r with
       | none=>none
       | some (t,u)=>some (lf 4 0 t,u)) else
      bif decide (c=91)||decide (c=123) then(match r with
       | []=>none
       | d::r'=>bif decide (d=Bh (decide (c=123))) then some (nd (decide (c=123)) .nil,r') else(match Di strict F (decide (c=123)) none (d::r') with
        | none=>none
        | some (g,u)=>some (nd (decide (c=123)) g,u))) else
      Hl (c::r)
def Di (strict:Bool):Nat→Bool→Option Ah→Ah→Option (Fo×Ah)
 | 0,_,_,_=>none
 | F+1,m,last,s=>
  match D3 strict m last s with
  | none=>none
  | some (key,s1)=>match ER strict F s1 with
   | none=>none
   | some (f,s2)=>match s2 with
    | []=>none
    | c::s3=>
     bif decide (c=Bh m) then some (f.put key .nil,s3) else
     bif decide (c=44) then(match Di strict F m key s3 with
      | none=>none
      | some (g,u)=>some (f.put key g,u)) else none
end
theorem Du (strict:Bool)(F:Nat)(s:Ah):ER strict (F+1) s =
  match pre [110,117,108,108] s with
  | some r=>some (lf 1 0 [],r)
  | none=>match pre [116,114,117,101] s with
   | some r=>some (lf 2 1 [],r)
   | none=>match pre [102,97,108,115,101] s with
    | some r=>some (lf 2 0 [],r)
    | none=>match s with
     | []=>none
     | c::r=>
      bif decide (c=34) then(match Cw strict r with
       | none=>none
       | some (t,u)=>some (lf 4 0 t,u)) else
      bif decide (c=91)||decide (c=123) then(match r with
       | []=>none
       | d::r'=>bif decide (d=Bh (decide (c=123))) then some (nd (decide (c=123)) .nil,r') else(match Di strict F (decide (c=123)) none (d::r') with
        | none=>none
        | some (g,u)=>some (nd (decide (c=123)) g,u))) else
      Hl (c::r):=by
 rw[ER.eq_def]
theorem De (strict:Bool)(F:Nat)(m:Bool)(last:Option Ah)(s:Ah):Di strict (F+1) m last s =
  match D3 strict m last s with
  | none=>none
  | some (key,s1)=>match ER strict F s1 with
   | none=>none
   | some (f,s2)=>match s2 with
    | []=>none
    | c::s3=>
     bif decide (c=Bh m) then some (f.put key .nil,s3) else
     bif decide (c=44) then(match Di strict F m key s3 with
      | none=>none
      | some (g,u)=>some (f.put key g,u)) else none:=by
 rw[Di.eq_def]
theorem CY:∀{w s r:Ah},pre w s=some r→s=w++r
 | [],s,r,h=>by cases h;rfl
 | c::w,[],r,h=>by cases h
 | c::w,d::s,r,h=>by
  rw[pre] at h
  cases hc:decide (c=d) with
  | false=>rw[hc] at h;cases h
  | true=>
   rw[hc] at h;simp only[AaL] at hc;rw[hc,CY h];rfl
theorem Dq (b:Bool)(c:UInt8)(r:Ah):Cw b (c::r) =
  bif decide (c=34) then some ([],r) else
  bif b&&!JN c then none else
  bif decide (c=92) then(match r with
   | []=>none
   | d::r'=>bif decide (d=34)||decide (d=92) then(match Cw b r' with
    | none=>none
    | some (t,u)=>some (d::t,u)) else none)
  else(match Cw b r with
   | none=>none
   | some (t,u)=>some (c::t,u)):=by
 rw[Cw.eq_def]
 cases r<;>rfl
theorem Iu (b:Bool):∀(n:Nat) (s t u:Ah),s.length=n→Cw b s=some (t,u)→u.length<s.length:=by
 intro n
 induction n using Nat.strongRecOn with
 | ind n ih=>
  intro s t u hn h
  cases s with
  | nil=>cases h
  | cons c r=>
   simp only[AaM] at hn ⊢;rw[Dq] at h
   cases h1:decide (c=34) with
   | true=>rw[h1] at h;cases h;omega
   | false=>
    rw[h1] at h;simp only[AaN] at h
    cases h2:(b&&!JN c) with
    | true=>rw[h2] at h;cases h
    | false=>
     rw[h2] at h;simp only[AaN] at h
     cases h3:decide (c=92) with
     | true=>
      rw[h3] at h
      cases r with
      | nil=>cases h
      | cons d r'=>
       simp only[AaQ] at h
       cases h4:(decide (d=34)||decide (d=92)) with
       | false=>rw[h4] at h;cases h
       | true=>
        rw[h4] at h;simp only[AaQ] at h
        cases h5:Cw b r' with
        | none=>rw[h5] at h;cases h
        | some q=>
         obtain⟨t',u'⟩:=q;rw[h5] at h;cases h;simp only[AaM] at hn ⊢;have:=ih r'.length (by omega) r' t' u rfl h5;omega
     | false=>
      rw[h3] at h;simp only[AaN] at h
      cases h5:Cw b r with
      | none=>rw[h5] at h;cases h
      | some q=>
       obtain⟨t',u'⟩:=q;rw[h5] at h;cases h;have:=ih r.length (by omega) r t' u rfl h5;omega
theorem HU:∀s:Ah,s=(BH s).1++(BH s).2
 | []=>rfl
 | c::r=>by
  have:=HU r;rw[BH]
  cases BR c with
  | true=>simp only[AaQ,Ab2];rw[← this]
  | false=>rfl
theorem NC {s u:Ah}{f:Fo}(h:Hl s=some (f,u)):u.length<s.length:=by
 unfold Hl at h;simp only at h
 cases hc:DB (decide (s.head? =some 45)) (BH (bif decide (s.head? =some 45) then s.tail else s)).1 with
 | false=>rw[hc] at h;cases h
 | true=>
  rw[hc] at h;simp only[AaQ,Option.some.injEq,Prod.mk.injEq] at h;obtain⟨_,h⟩:=h;have e:=congrArg List.length (HU (bif decide (s.head? =some 45) then s.tail else s));rw[AaS,h] at e;have h1:0<(BH (bif decide (s.head? =some 45) then s.tail else s)).1.length:=by
   unfold DB at hc;simp only[AaO,Abi,AaK] at hc;exact List.length_pos_iff.2 hc.1
  have h2:(bif decide (s.head? =some 45) then s.tail else s).length≤s.length:=by
   cases decide (s.head? =some 45)<;>simp
  omega
theorem QL {b m:Bool}{last key:Option Ah}{s u:Ah}(h:D3 b m last s=some (key,u)):u.length≤s.length:=by
 unfold D3 at h
 cases m with
 | false=>cases h;exact Abp _
 | true=>
  simp only[AaQ] at h
  cases s with
  | nil=>cases h
  | cons c r=>
   simp only at h
   cases h1:decide (c=34) with
   | false=>rw[h1] at h;cases h
   | true=>
    rw[h1] at h;simp only[AaQ] at h
    cases h2:Cw b r with
    | none=>rw[h2] at h;cases h
    | some q=>
     obtain⟨k,w⟩:=q;have:=Iu b _ r k w rfl h2;rw[h2] at h;simp only at h
     cases h3:(b&&!B4 true last (some k)) with
     | true=>rw[h3] at h;cases h
     | false=>
      rw[h3] at h;simp only[AaN] at h
      cases w with
      | nil=>cases h
      | cons d w'=>
       simp only at h
       cases h4:decide (d=58) with
       | false=>rw[h4] at h;cases h
       | true=>rw[h4] at h;cases h;simp only[AaM] at this ⊢;omega
theorem VP (m:Bool)(g:Fo):(nd m g).one=true:=by
 unfold nd
 cases decide (g.cnt=0)<;>rfl
theorem Wo {s u:Ah}{f:Fo}(h:Hl s=some (f,u)):f.one=true:=by
 unfold Hl at h;simp only at h
 cases hc:DB (decide (s.head? =some 45)) (BH (bif decide (s.head? =some 45) then s.tail else s)).1 with
 | false=>rw[hc] at h;cases h
 | true=>rw[hc] at h;cases h;rfl
theorem DM (b:Bool):∀F:Nat,(∀s f u,ER b F s=some (f,u)→u.length<s.length∧f.one=true)∧(∀m last s g u,Di b F m last s=some (g,u)→u.length<s.length∧1≤g.cnt)
 | 0=>⟨(λs f u h=>by rw[ER.eq_def] at h;cases h),(λm last s g u h=>by rw[Di.eq_def] at h;cases h)⟩
 | F+1=>by
  obtain⟨ih1,ih2⟩:=DM b F;constructor
  ·intro s f u h;rw[Du] at h
   cases h1:pre [110,117,108,108] s with
   | some r=>rw[h1] at h;cases h;rw[CY h1];exact⟨by simp;omega,rfl⟩
   | none=>
   rw[h1] at h;simp only at h
   cases h2:pre [116,114,117,101] s with
   | some r=>rw[h2] at h;cases h;rw[CY h2];exact⟨by simp;omega,rfl⟩
   | none=>
   rw[h2] at h;simp only at h
   cases h3:pre [102,97,108,115,101] s with
   | some r=>rw[h3] at h;cases h;rw[CY h3];exact⟨by simp;omega,rfl⟩
   | none=>
   rw[h3] at h;simp only at h
   cases s with
   | nil=>cases h
   | cons c r=>
   simp only at h
   cases h4:decide (c=34) with
   | true=>
    rw[h4] at h;simp only[AaQ] at h
    cases h5:Cw b r with
    | none=>rw[h5] at h;cases h
    | some q=>
     obtain⟨t,w⟩:=q;rw[h5] at h;cases h;have:=Iu b _ r t u rfl h5;exact⟨by simp only[AaM];omega,rfl⟩
   | false=>
   rw[h4] at h;simp only[AaN] at h
   cases h5:(decide (c=91)||decide (c=123)) with
   | false=>rw[h5] at h;simp only[AaN] at h;exact⟨NC h,Wo h⟩
   | true=>
   rw[h5] at h;simp only[AaQ] at h
   cases r with
   | nil=>cases h
   | cons d r'=>
   simp only at h
   cases h6:decide (d=Bh (decide (c=123))) with
   | true=>rw[h6] at h;cases h;exact⟨by simp only[AaM];omega,VP _ _⟩
   | false=>
   rw[h6] at h;simp only[AaN] at h
   cases h7:Di b F (decide (c=123)) none (d::r') with
   | none=>rw[h7] at h;cases h
   | some q=>
    obtain⟨g,w⟩:=q;rw[h7] at h;cases h;have:=(ih2 _ _ _ _ _ h7).1;exact⟨by simp only[AaM] at this ⊢;omega,VP _ _⟩
  ·intro m last s g u h;rw[De] at h
   cases h1:D3 b m last s with
   | none=>rw[h1] at h;cases h
   | some q=>
   obtain⟨key,s1⟩:=q;have l1:=QL h1;rw[h1] at h;simp only at h
   cases h2:ER b F s1 with
   | none=>rw[h2] at h;cases h
   | some q=>
   obtain⟨f,s2⟩:=q;obtain⟨l2,o2⟩:=ih1 _ _ _ h2;rw[h2] at h;simp only at h
   cases s2 with
   | nil=>cases h
   | cons c s3=>
   simp only[AaM] at l2;have hput:∀r:Fo,1≤(f.put key r).cnt:=λr=>by
    cases f with
    | nil=>cases o2
    | cell _ _ _=>simp[Fo.put,Fo.cnt]
    | node _ _ _ _=>simp[Fo.put,Fo.cnt]
   simp only at h
   cases h3:decide (c=Bh m) with
   | true=>rw[h3] at h;cases h;exact⟨by omega,hput _⟩
   | false=>
   rw[h3] at h;simp only[AaN] at h
   cases h4:decide (c=44) with
   | false=>rw[h4] at h;cases h
   | true=>
   rw[h4] at h;simp only[AaQ] at h
   cases h5:Di b F m key s3 with
   | none=>rw[h5] at h;cases h
   | some q=>
    obtain⟨g',w⟩:=q;rw[h5] at h;cases h;have:=(ih2 _ _ _ _ _ h5).1;exact⟨by omega,hput _⟩
def C7 (acc:Nat)(d:Ah):Nat:=d.foldl (λn c=>10*n+(c.toNat-48)) acc
theorem I5:∀(d:Ah) (a:Nat),a≤C7 a d
 | [],a=>Abp _
 | c::d,a=>by
  have:=I5 d (10*a+(c.toNat-48));show a≤C7 (10*a+(c.toNat-48)) d;omega
theorem QA:∀(d:Ah) (a:Nat),1≤a→10 ^ d.length≤C7 a d
 | [],a,h=>by simpa[C7] using h
 | c::d,a,h=>by
  have hm:∀(d:Ah) (a b:Nat),a≤b→C7 a d≤C7 b d:=by
   intro d
   induction d with
   | nil=>intro a b h;exact h
   | cons c d ih=>intro a b h;show C7 (10*a+(c.toNat-48)) d≤C7 (10*b+(c.toNat-48)) d;exact ih _ _ (by omega)
  have hs:∀(d:Ah) (a:Nat),10 ^ d.length*a≤C7 a d:=by
   intro d
   induction d with
   | nil=>intro a;simp[C7]
   | cons c d ih=>
    intro a;have:=ih (10*a+(c.toNat-48));show 10 ^ (d.length+1)*a≤C7 (10*a+(c.toNat-48)) d;refine Nat.le_trans ?_ this;rw[Nat.pow_succ,Nat.mul_assoc];exact Nat.mul_le_mul_left _ (by omega)
  exact Nat.le_trans (Nat.le_mul_of_pos_right _ h) (hs (c::d) a)
theorem I4:∀(d:Ah) (a:Nat),d.all BR=true→d.foldl (λn c=>10*n+((c.toNat:Int)-48)) (a:Int)=(C7 a d:Int)
 | [],a,_=>rfl
 | c::d,a,h=>by
  simp only[Ab5,AaO] at h;have hc:48≤c.toNat:=by have:=h.1;simp[BR] at this;omega
  have:=I4 d (10*a+(c.toNat-48)) h.2;show d.foldl _ (10*(a:Int)+((c.toNat:Int)-48))=(C7 (10*a+(c.toNat-48)) d:Int);rw[← this]
  congr 1
  omega
theorem Pm:∀(d:Ah) (a:Nat),d.all BR=true→Lib.parseUint10 a d = .ok (C7 a d)∨(Lib.parseUint10 a d = .range∧1000000000000<C7 a d)
 | [],a,_=>.inl rfl
 | c::d,a,h=>by
  simp only[Ab5,AaO] at h;have hc:48≤c.toNat∧c.toNat≤57:=by have:=h.1;simp[BR] at this;omega
  have hm:=I5 d (10*a+(c.toNat-48));have e:C7 a (c::d)=C7 (10*a+(c.toNat-48)) d:=rfl;rw[e];unfold Lib.parseUint10;rw[AbD hc]
  split
  ·exact .inr ⟨rfl,by omega⟩
  ·split
   ·exact .inr ⟨rfl,by omega⟩
   ·rw[show a*10+(c.toNat-48)=10*a+(c.toNat-48) from by omega];exact Pm d _ h.2
theorem LW:∀(d:Ah) (i:Nat),Be Dx i d=d.all BR
 | [],_=>rfl
 | c::d,i=>by
  rw[Be,Ab5,LW d]
  congr 1
  simp only[Dx,BR];rw[Abj];simp only[Abi,Abn,AaK,AaO,AaL];omega
def Hd (neg:Bool)(d:Ah):Ah:=bif neg then 45::d else d
theorem Wr {d:Ah}(hd:d.all BR=true) : ¬ d.head? =some 45:=by
 cases d with
 | nil=>simp
 | cons c d=>
  simp only[Ab5,AaO] at hd;have:=hd.1;intro e;simp only[List.head?_cons,Option.some.injEq] at e;subst e;simp[BR] at this
theorem T7 (s:Ah):Gp s=decide (s.head? =some 45):=by
 cases s with
 | nil=>rfl
 | cons c r=>
  have:AT (c::r) 0=c.toNat:=Dl rfl;unfold Gp;rw[this,Abj];simp only[AaO,AaL,List.head?_cons,Option.some.injEq,← AbE,AaM];show _∧(c.toNat:Int)=45↔c.toNat=45;omega
theorem WA {neg:Bool}{d:Ah}(hd:d.all BR=true):Dp (Hd neg d)=d:=by
 unfold Dp;rw[T7]
 cases neg with
 | true=>rfl
 | false=>
  have:=Wr hd;show(if decide (d.head? =some 45)=true then d.drop 1 else d)=d;rw[Abw (by simpa using this)]
theorem WG {neg:Bool}{d:Ah}(hd:d.all BR=true):EI (Hd neg d)=DB neg d:=by
 unfold EI DB;rw[WA hd,LW,hd,Abf]
 cases d with
 | nil=>simp
 | cons c r=>
  have hb:AT (c::r) 0=c.toNat:=Dl rfl;have h1:decide (c::r=([]:Ah))=false:=by simp
  have h2:decide (AT (c::r) 0=48)=decide ((c::r).head? =some 48):=by
   rw[hb,Abj];simp only[AaL,List.head?_cons,Option.some.injEq,← AbE];show(c.toNat:Int)=48↔c.toNat=48;omega
  rw[h1,h2,AaZ,Abd,AaW]
  cases ha:decide ((c::r).head? =some 48) with
  | false=>rfl
  | true=>
   simp only[AaL,List.head?_cons,Option.some.injEq] at ha;subst ha
   cases neg with
   | true=>simp[Hd]
   | false=>
    cases r with
    | nil=>simp[Hd]
    | cons a r=>simp[Hd]
theorem WR {neg:Bool}{d:Ah}(hd:d.all BR=true)(hne:d≠[]):Lib.atoiAll (Hd neg d)=(bif neg then Lib.signed (Lib.parseUint10 0 d) else Lib.signless (Lib.parseUint10 0 d)):=by
 cases neg with
 | true=>
  simp only[Hd,AaQ];rw[Lib.atoiAll_minus,Lib.parseMag,Abw hne]
 | false=>
  cases d with
  | nil=>exact absurd rfl hne
  | cons c r=>
   have hc:=hd;simp only[Ab5,AaO] at hc;have ha:48≤c.toNat:=by have:=hc.1;simp[BR] at this;omega
   simp only[Hd,AaN];rw[Lib.atoiAll_plain c r (by omega) (by omega),Lib.parseMag,Abw hne]
theorem TP {neg:Bool}{d:Ah}(hd:d.all BR=true):(DB neg d=false∧B6 (Hd neg d)=1)∨(DB neg d=true∧BX ⟨3,Jb neg d,[],0⟩=false∧B6 (Hd neg d)=0∧Bt (Hd neg d)=Jb neg d)∨(DB neg d=true∧BX ⟨3,Jb neg d,[],0⟩=true∧B6 (Hd neg d)=2∧Bt (Hd neg d)=0):=by
 unfold B6 Bt;rw[WG hd]
 cases hc:DB neg d with
 | false=>exact .inl ⟨rfl,rfl⟩
 | true=>
  right
  have hc':=hc;unfold DB at hc';simp only[AaO,Abi,AaK] at hc';have hne:=hc'.1;rw[AbD rfl,AbD rfl,WR hd hne];have hnum:Hj d=(C7 0 d:Int):=I4 d 0 hd;have hbig:18<d.length→1000000000000<C7 0 d:=λhl=>by
   cases d with
   | nil=>simp at hl
   | cons c r=>
    have hc1:=hd;simp only[Ab5,AaO] at hc1;have he:48≤c.toNat:=by have:=hc1.1;simp[BR] at this;omega
    have hne48 : ¬ c=48:=by
     intro e;have:=hc'.2;subst e;simp only[AaM] at hl;have h1r:1<r.length+1:=by omega
     simp[h1r] at this
    have hf:49≤c.toNat:=by
     have : ¬ c.toNat=48:=λe=>hne48 (UInt8.toNat_inj.1 (by rw[e];rfl));omega
    have:=QA r (10*0+(c.toNat-48)) (by omega);have ha:10 ^ 18≤10 ^ r.length:=Nat.pow_le_pow_right (by decide) (by simp at hl;omega);have e:C7 0 (c::r)=C7 (10*0+(c.toNat-48)) r:=rfl;rw[e];have:(1000000000000:Nat)<10 ^ 18:=by decide
    omega
  have hout:BX ⟨3,Jb neg d,[],0⟩=decide (1000000000000<C7 0 d):=by
   unfold BX Jb;rw[hnum]
   cases ha:decide (18<d.length) with
   | true=>
    simp only[AaL] at ha;rw[AaU (hbig ha)]
    cases neg<;>rfl
   | false=>
    rw[Abj]
    cases neg<;>simp<;>omega
  rw[hout];rcases Pm d 0 hd with hu | ⟨hu,hg⟩
  ·rw[hu]
   cases hg:decide (1000000000000<C7 0 d) with
   | false=>
    simp only[AaK] at hg;have ha:decide (18<d.length)=false:=by
     rw[AaK];intro h;have:=hbig h;omega
    refine .inl ⟨rfl,rfl,?_,?_⟩
    ·cases neg with
     | true=>simp only[AaQ,Lib.signed];rw[Abw (by omega)];simp only;rw[AbD (by unfold Df;simp;omega)]
     | false=>simp only[AaN,Lib.signless];rw[Abw (by omega)];simp only;rw[AbD (by unfold Df;simp;omega)]
    ·unfold Jb;rw[ha,hnum]
     cases neg with
     | true=>simp only[AaQ,AaN,Lib.signed];rw[Abw (by omega)];simp only;rw[AbD (by unfold Df;simp;omega)]
     | false=>simp only[AaN,Lib.signless];rw[Abw (by omega)];simp only;rw[AbD (by unfold Df;simp;omega)]
   | true=>
    simp only[AaL] at hg;refine .inr ⟨rfl,rfl,?_,?_⟩
    ·cases neg with
     | true=>
      simp only[AaQ,Lib.signed]
      by_cases hb:9223372036854775808<C7 0 d
      ·rw[AbD hb]
      ·rw[Abw hb];simp only;rw[Abw (by unfold Df;simp;omega)]
     | false=>
      simp only[AaN,Lib.signless]
      by_cases hb:9223372036854775808≤C7 0 d
      ·rw[AbD hb]
      ·rw[Abw hb];simp only;rw[Abw (by unfold Df;simp;omega)]
    ·cases neg with
     | true=>
      simp only[AaQ,Lib.signed]
      by_cases hb:9223372036854775808<C7 0 d
      ·rw[AbD hb]
      ·rw[Abw hb];simp only;rw[Abw (by unfold Df;simp;omega)]
     | false=>
      simp only[AaN,Lib.signless]
      by_cases hb:9223372036854775808≤C7 0 d
      ·rw[AbD hb]
      ·rw[Abw hb];simp only;rw[Abw (by unfold Df;simp;omega)]
  ·rw[hu,AaU hg];refine .inr ⟨rfl,rfl,?_,?_⟩<;>cases neg<;>rfl
def DP (u S:Ah):Prop:=∃p,S=p++u
theorem DP.len {u S:Ah}(h:DP u S):u.length≤S.length:=by obtain⟨p,rfl⟩:=h;simp
theorem DP.tail {c:UInt8}{r S:Ah}(h:DP (c::r) S):DP r S:=by obtain⟨p,rfl⟩:=h;exact⟨p++[c],by simp⟩
theorem DP.app {w r S:Ah}(h:DP (w++r) S):DP r S:=by obtain⟨p,rfl⟩:=h;exact⟨p++w,by simp⟩
theorem DP.drop {u S:Ah}(h:DP u S):S.drop (Int.toNat ((S.length:Int)-u.length))=u:=by
 obtain⟨p,rfl⟩:=h;rw[show Int.toNat (((p++u).length:Int)-u.length)=p.length from by rw[AaS];omega,List.drop_left]
theorem DP.get {c:UInt8}{r S:Ah}(h:DP (c::r) S):S[(Int.toNat ((S.length:Int)-(c::r).length))]? =some c:=by
 have:=h.drop;have h2:(S.drop (Int.toNat ((S.length:Int)-(c::r).length)))[0]? =some c:=by rw[this];rfl
 simpa using h2
def D8 (S u:Ah)(cs:List Aa)(g:Bool):A1:=⟨S,(S.length:Int)-u.length,cs,g⟩
theorem KZ:∀(w r:Ah),pre w (w++r)=some r
 | [],r=>rfl
 | c::w,r=>by
  show(bif decide (c=c) then pre w (w++r) else none)=some r;rw[AaU rfl];exact KZ w r
theorem Nz (w s:Ah):(decide ((w.length:Int)≤(s.length:Int))&&decide (List.take (Int.toNat (w.length:Int)) s=w))=(pre w s).isSome:=by
 cases h:pre w s with
 | some r=>
  have:=CY h;subst this;simp;omega
 | none=>
  rw[Abj];simp only[AaO,AaL,Option.isSome_none,Aba,iff_false,not_and];intro hl e;have:s=w++s.drop w.length:=by
   conv=>lhs;rw[← AbF w.length s]
   rw[show Int.toNat (w.length:Int)=w.length from by omega] at e;rw[e]
  rw[this,KZ] at h
  cases h
theorem Lr (s w:Ah):H0 s w=some (pre w s).isSome:=by
 unfold H0 HR;rw[← Nz];have:imp (decide ((w.length:Int)≤(s.length:Int))) (Hp (w.length:Int) (s.length:Int))=true:=by
  cases hd:decide ((w.length:Int)≤(s.length:Int)) with
  | false=>rfl
  | true=>simp only[imp];rw[Ya (by omega) (by simpa using hd)];rfl
 rw[BB this];rfl
theorem CS {S u w:Ah}{cs:List Aa}{g:Bool}(hS:S.length≤100000)(h:DP u S):DZ (D8 S u cs g) w=match pre w u with
  | some r=>some (true,D8 S r cs g)
  | none=>some (false,D8 S u cs g):=by
 have hl:=h.len;unfold DZ D8;simp only;rw[Cq (by omega) (by omega),h.drop,Lr,AS rfl]
 cases hp:pre w u with
 | none=>rfl
 | some r=>
  have e:=CY hp;have el:u.length=w.length+r.length:=by rw[e];simp
  rw[A8 (p:=!(some r).isSome) rfl,AI (by omega) (by omega),show(S.length:Int)-u.length+w.length=S.length-r.length from by omega]
theorem IH (c:UInt8)(u:Ah):pre [c] u=match u with
  | []=>none
  | d::r=>bif decide (d=c) then some r else none:=by
 cases u with
 | nil=>rfl
 | cons d r=>
  show(bif decide (c=d) then some r else none)=_;have:decide (c=d)=decide (d=c):=by rw[Abj];simp only[AaL];exact eq_comm
  rw[this]
theorem VH (A:Ah):PB (Dt A)=A:=by
 induction A with
 | nil=>rfl
 | cons c A ih=>
  show UInt8.ofNat (Int.toNat (c.toNat:Int))::PB (Dt A)=c::A;rw[ih,← (show UInt8.ofNat c.toNat=c from by simp)];simp
theorem X3:∀(n:Nat) (s t u:Ah),s.length=n→Cw true s=some (t,u)→t.all JN=true:=by
 intro n
 induction n using Nat.strongRecOn with
 | ind n ih=>
  intro s t u hn h
  cases s with
  | nil=>cases h
  | cons c r=>
   simp only[AaM] at hn;rw[Dq] at h
   cases h1:decide (c=34) with
   | true=>rw[h1] at h;cases h;rfl
   | false=>
    rw[h1] at h;simp only[AaN,AaW] at h
    cases h2:JN c with
    | false=>rw[h2] at h;cases h
    | true=>
     rw[h2] at h;simp only[AaV,AaN] at h
     cases h3:decide (c=92) with
     | true=>
      rw[h3] at h
      cases r with
      | nil=>cases h
      | cons d r'=>
       simp only[AaQ] at h
       cases h4:(decide (d=34)||decide (d=92)) with
       | false=>rw[h4] at h;cases h
       | true=>
        rw[h4] at h;simp only[AaQ] at h
        cases h5:Cw true r' with
        | none=>rw[h5] at h;cases h
        | some q=>
         obtain⟨t',u'⟩:=q;rw[h5] at h;cases h;simp only[AaM] at hn;have:=ih r'.length (by omega) r' t' u rfl h5;have hd:JN d=true:=by
          simp only[Abt,AaL] at h4;rcases h4 with e | e<;>subst e<;>rfl
         simp[hd,this]
     | false=>
      rw[h3] at h;simp only[AaN] at h
      cases h5:Cw true r with
      | none=>rw[h5] at h;cases h
      | some q=>
       obtain⟨t',u'⟩:=q;rw[h5] at h;cases h;have:=ih r.length (by omega) r t' u rfl h5;simp[h2,this]
theorem XF {c:UInt8}:(decide ((c.toNat:Int)<32)||decide (126<(c.toNat:Int))) = !JN c:=by
 unfold JN;rw[Abj];simp only[Abt,AaL,Abi,Abx,AaK];omega
theorem OE (c:UInt8):decide ((c.toNat:Int)=34)=decide (c=34):=by
 rw[Abj,decide_eq_true_iff,decide_eq_true_iff,← AbE];show _↔c.toNat=34;omega
theorem SR (c:UInt8):decide ((c.toNat:Int)=92)=decide (c=92):=by
 rw[Abj,decide_eq_true_iff,decide_eq_true_iff,← AbE];show _↔c.toNat=92;omega
theorem UU (A:Ah)(c:UInt8):Dt A++([(c.toNat:Int)]:List Int)=Dt (A++[c]):=by simp[Dt]
theorem Tv {S:Ah}{cs:List Aa}{g b:Bool}{p:Int}(hS:S.length≤100000):∀(n L:Nat) (u A:Ah),u.length=n→DP u S→n<L→A.length≤S.length-n→
  ∃o,Cg (λσ=>EC (b,⟨S,p,cs,g⟩) σ.1 σ.2) L (Dt A,(S.length:Int)-u.length)=some o∧((∃t w,Cw true u=some (t,w)∧DP w S∧BL (λν=>Ip (b,⟨S,p,cs,g⟩) ν) o=some (A++t,true,D8 S w cs g))∨(Cw true u=none∧∃q',BL (λν=>Ip (b,⟨S,p,cs,g⟩) ν) o=some ([],false,q'))):=by
 intro n
 induction n using Nat.strongRecOn with
 | ind n ih=>
  intro L u A hn hs hL hA;obtain⟨L,rfl⟩:∃K,L=K+1:=⟨L-1,by omega⟩
  have hsl:=hs.len
  cases u with
  | nil=>
   have hgo:EC (b,⟨S,p,cs,g⟩) (Dt A) ((S.length:Int)-([]:Ah).length)=some (.out (.go ((S.length:Int)-([]:Ah).length))):=by
    unfold EC;rw[A8 (AaR (by simp))]
   exact⟨_,CU hgo,.inr ⟨rfl,_,rfl⟩⟩
  | cons c r=>
   have hb:AT S ((S.length:Int)-(c::r).length)=c.toNat:=Dl hs.get;have hpos:(S.length:Int)-(c::r).length+1=S.length-r.length:=by rw[AaM];omega
   simp only[AaM] at hn hsl;have hlt:(S.length:Int)-(c::r).length<S.length:=by rw[AaM];omega
   have h0:0≤(S.length:Int)-(c::r).length:=by rw[AaM];omega
   have hb1:EC (b,⟨S,p,cs,g⟩) (Dt A) ((S.length:Int)-(c::r).length)=Bj (decide (c=34)) (some (.out (.ret (A,true,D8 S r cs g)))) (Bj (!JN c) (some (.out (.ret ([],false,D8 S r cs g)))) (Bj (decide (c=92)) (AX (imp (!(decide ((S.length:Int)≤S.length-r.length))) (CH (S.length-r.length) (S.length:Int)))<|Bj (((decide ((S.length:Int)≤S.length-r.length))||((!decide ((AT S (S.length-r.length))=34))&&(!decide ((AT S (S.length-r.length))=92))))) (some (.out (.ret ([],false,D8 S r cs g)))) (AX (CH (S.length-r.length) (S.length:Int))<|AX (Bw .i64 (((S.length:Int)-r.length)+1))<|Gn (Dt A) (AT S (S.length-r.length)) (((S.length:Int)-r.length)+1))) (Gn (Dt A) (c.toNat:Int) ((S.length:Int)-r.length)))):=by
    unfold EC;simp only;rw[AP (AaU hlt),Bl h0 hlt,hb,hpos,AI (by omega) (by omega),OE,SR,XF,VH];rfl
   have hj:∀(x:UInt8) (y:Int),Gn (Dt A) (x.toNat:Int) y=some (.next (Dt (A++[x]),y)):=λx y=>by
    unfold Gn;rw[Dk (by simp[Dt];omega),UU]
   rw[Dq]
   cases h1:decide (c=34) with
   | true=>
    rw[h1] at hb1;exact⟨.ret (A,true,D8 S r cs g),CU hb1,.inl ⟨[],r,rfl,hs.tail,by rw[N0,Ab1]⟩⟩
   | false=>
    rw[h1,A8 rfl] at hb1;simp only[AaN,AaW]
    cases h2:JN c with
    | false=>
     rw[h2,AP (p:=!false) rfl] at hb1;exact⟨_,CU hb1,.inr ⟨rfl,_,rfl⟩⟩
    | true=>
     rw[h2,A8 (p:=!true) rfl] at hb1;simp only[AaV,AaN]
     cases h3:decide (c=92) with
     | true=>
      rw[h3,AP rfl] at hb1
      cases r with
      | nil=>
       have e:decide ((S.length:Int)≤S.length-([]:Ah).length)=true:=by simp
       rw[e,BB (p:=imp (!true) _) rfl,AP (p:=true||_) rfl] at hb1;exact⟨_,CU hb1,.inr ⟨rfl,_,rfl⟩⟩
      | cons d r'=>
       simp only[AaM] at hn hsl;have hbd:AT S ((S.length:Int)-(d::r').length)=d.toNat:=Dl hs.tail.get;have hlt2:(S.length:Int)-(d::r').length<S.length:=by rw[AaM];omega
       have ha:0≤(S.length:Int)-(d::r').length:=by rw[AaM];omega
       have hpos2:(S.length:Int)-(d::r').length+1=S.length-r'.length:=by rw[AaM];omega
       have e:decide ((S.length:Int)≤S.length-(d::r').length)=false:=AaR (by omega);rw[e,Lq ha hlt2,hbd,hpos2,OE,SR,BB (p:=imp (!false) true) rfl] at hb1;simp only[AaQ]
       cases h4:(decide (d=34)||decide (d=92)) with
       | false=>
        have e4:(false||(!decide (d=34)&&!decide (d=92)))=true:=by rw[← Bool.not_or,h4];rfl
        rw[AP e4] at hb1;exact⟨_,CU hb1,.inr ⟨rfl,_,rfl⟩⟩
       | true=>
        have e4:(false||(!decide (d=34)&&!decide (d=92)))=false:=by rw[← Bool.not_or,h4];rfl
        rw[A8 e4,BB rfl,AI (by omega) (by omega),hj] at hb1;obtain⟨o,ho1,ho2⟩:=ih r'.length (by omega) L r' (A++[d]) rfl hs.tail.tail (by omega) (by rw[EK];omega);refine⟨o,G1 hb1 ho1,?_⟩;simp only[AaQ];rcases ho2 with⟨t,w,q1,q2,q3⟩ | ⟨q1,q2⟩
        ·rw[q1];exact .inl ⟨d::t,w,rfl,q2,by rw[q3];simp⟩
        ·rw[q1];exact .inr ⟨rfl,q2⟩
     | false=>
      rw[h3,A8 rfl,hj] at hb1;obtain⟨o,ho1,ho2⟩:=ih r.length (by omega) L r (A++[c]) rfl hs.tail (by omega) (by rw[EK];omega);refine⟨o,G1 hb1 ho1,?_⟩;simp only[AaN];rcases ho2 with⟨t,w,q1,q2,q3⟩ | ⟨q1,q2⟩
      ·rw[q1];exact .inl ⟨c::t,w,rfl,q2,by rw[q3];simp⟩
      ·rw[q1];exact .inr ⟨rfl,q2⟩
theorem PQ {F:Nat}{S u:Ah}{cs:List Aa}{g:Bool}(hS:S.length≤100000)(h:DP u S)(hF:S.length<F) :
  (∃r t w,u=34::r∧Cw true r=some (t,w)∧DP w S∧MZ F (D8 S u cs g)=some (t,true,D8 S w cs g))∨((∀r,u=34::r→Cw true r=none)∧∃q',MZ F (D8 S u cs g)=some ([],false,q')):=by
 unfold MZ;rw[CS hS h,IH]
 cases u with
 | nil=>exact .inr ⟨(λr e=>by cases e),_,rfl⟩
 | cons c r=>
  simp only
  cases hc:decide (c=34) with
  | false=>
   simp only[AaK] at hc;exact .inr ⟨(λr' e=>by cases e;exact absurd rfl hc),_,rfl⟩
  | true=>
   simp only[AaL] at hc;subst hc;have hl:=h.len;simp only[AaM] at hl;simp only[AaQ];rw[AS rfl,A8 (p:=!true) rfl];obtain⟨o,ho1,ho2⟩:=Tv (b:=true) (cs:=cs) (g:=g) (p:=(S.length:Int)-r.length) hS r.length F r [] rfl h.tail (by omega) (Aby _);have ho1':Cg (λσ=>EC (true,D8 S r cs g) σ.1 σ.2) F ([],(S.length:Int)-r.length)=some o:=ho1;rw[show(true,D8 S r cs g).2.fAt=(S.length:Int)-r.length from rfl,AS ho1'];rcases ho2 with⟨t,w,q1,q2,q3⟩ | ⟨q1,q',q2⟩
   ·exact .inl ⟨r,t,w,rfl,q1,q2,q3⟩
   ·exact .inr ⟨(λr' e=>by cases e;exact q1),q',q2⟩
def CK (c:Aa):Aa:=bif BX c then⟨3,0,[],0⟩ else c
theorem I9:∀s:Ah,(BH s).1.all BR=true
 | []=>rfl
 | c::r=>by
  rw[BH]
  cases h:BR c with
  | true=>simp only[AaQ,Ab5,h,I9 r];rfl
  | false=>rfl
theorem Tb {c:UInt8}:(decide (48≤(c.toNat:Int))&&decide ((c.toNat:Int)≤57))=BR c:=by
 unfold BR;rw[Abj];simp only[AaO,AaL];omega
theorem Oi {S:Ah}{cs:List Aa}{g b:Bool}{p:Int}(hS:S.length≤100000):∀(u:Ah) (L:Nat),DP u S→u.length<L→
  Cg (λσ=>ED (b,⟨S,p,cs,g⟩) σ) L ((S.length:Int)-u.length)=some (.go ((S.length:Int)-(BH u).2.length))
 | [],L,hs,hL=>by
  obtain⟨L,rfl⟩:∃K,L=K+1:=⟨L-1,by omega⟩
  refine CU ?_;show ED _ _=_;unfold ED;have e:decide ((S.length:Int)-([]:Ah).length<(S.length:Int))=false:=by simp
  simp only;rw[e,BB (p:=imp false _) rfl,A8 (p:=false&&_) rfl];rfl
 | c::r,L,hs,hL=>by
  obtain⟨L,rfl⟩:∃K,L=K+1:=⟨L-1,by omega⟩
  have hsl:=hs.len;have hb:AT S ((S.length:Int)-(c::r).length)=c.toNat:=Dl hs.get;have hpos:(S.length:Int)-(c::r).length+1=S.length-r.length:=by rw[AaM];omega
  simp only[AaM] at hsl hL;have hlt:(S.length:Int)-(c::r).length<S.length:=by rw[AaM];omega
  have h0:0≤(S.length:Int)-(c::r).length:=by rw[AaM];omega
  have hb1:ED (b,⟨S,p,cs,g⟩) ((S.length:Int)-(c::r).length)=Bj (BR c) (some (.next ((S.length:Int)-r.length))) (some (.out (.go ((S.length:Int)-(c::r).length)))):=by
   unfold ED;simp only;rw[AaU hlt,Lq h0 hlt,BB (p:=imp true true) rfl,hb,Tb,hpos,AI (by omega) (by omega),AaW]
  rw[BH]
  cases hd:BR c with
  | true=>
   rw[hd] at hb1;exact G1 hb1 (Oi hS r L hs.tail (by omega))
  | false=>
   rw[hd] at hb1;exact CU hb1
theorem PS {F:Nat}{S u:Ah}{cs:List Aa}{g:Bool}(hS:S.length≤100000)(h:DP u S)(hF:S.length<F)(hcs:cs.length≤100000) :
  (∃f w,Hl u=some (f,w)∧DP w S∧Na F (D8 S u cs g)=some (true,D8 S w (cs++f.flat.map CK) (g||f.flat.any BX)))∨(Hl u=none∧∃q',Na F (D8 S u cs g)=some (false,q')):=by
 have hl:=h.len;have hneg:∃neg r b,neg=decide (u.head? =some 45)∧r=(bif neg then u.tail else u)∧DZ (D8 S u cs g) [45]=some (b,D8 S r cs g)∧u=(bif neg then 45::r else r):=by
  rw[CS hS h,IH]
  cases u with
  | nil=>exact⟨false,[],false,rfl,rfl,rfl,rfl⟩
  | cons c r=>
   simp only[List.head?_cons,Option.some.injEq]
   cases hc:decide (c=45) with
   | true=>simp only[AaL] at hc;subst hc;exact⟨true,r,true,rfl,rfl,rfl,rfl⟩
   | false=>exact⟨false,c::r,false,rfl,rfl,rfl,rfl⟩
 obtain⟨neg,r,b,e1,e2,e3,e4⟩:=hneg;have hr:DP r S:=by
  rw[e4] at h
  cases neg with
  | true=>exact h.tail
  | false=>exact h
 have hrl:=hr.len;have hd:=I9 r;have hsplit:=HU r;have hlen:r.length=(BH r).1.length+(BH r).2.length:=by conv=>lhs;rw[hsplit,AaS]
 have hw:DP (BH r).2 S:=by rw[hsplit] at hr;exact hr.app
 have hut:u=Hd neg (BH r).1++(BH r).2:=by
  rw[e4]
  cases neg with
  | true=>show 45::r=45::((BH r).1++(BH r).2);rw[← hsplit]
  | false=>exact hsplit
 have hul:u.length=(Hd neg (BH r).1).length+(BH r).2.length:=by conv=>lhs;rw[hut,AaS]
 have hslice:List.take (Int.toNat ((S.length:Int)-(BH r).2.length)-Int.toNat ((S.length:Int)-u.length)) (List.drop (Int.toNat ((S.length:Int)-u.length)) S)=Hd neg (BH r).1:=by
  rw[h.drop,show Int.toNat ((S.length:Int)-(BH r).2.length)-Int.toNat ((S.length:Int)-u.length)=(Hd neg (BH r).1).length from by omega]
  conv=>lhs;rw[hut]
  rw[List.take_left]
 have hlop:Cg (λσ=>ED (b,D8 S r cs g) σ) F ((S.length:Int)-r.length)=some (.go ((S.length:Int)-(BH r).2.length)):=Oi hS r F hr (by omega);have hrun:Na F (D8 S u cs g)=Bj (((decide ((B6 (Hd neg (BH r).1))=1))||(decide ((S.length:Int)-r.length=(S.length:Int)-(BH r).2.length)))) (some (false,D8 S (BH r).2 cs g)) (some (true,D8 S (BH r).2 (cs++[⟨3,Bt (Hd neg (BH r).1),[],0⟩]) (g||!decide (B6 (Hd neg (BH r).1)=0)))):=by
  unfold Na;rw[e3,AS rfl,show(b,D8 S r cs g).2.fAt=(S.length:Int)-r.length from rfl,AS hlop,DU];unfold Jh;rw[show(D8 S u cs g).fAt=(S.length:Int)-u.length from rfl,show(b,D8 S r cs g).2.fS=S from rfl,show(b,D8 S r cs g).2.fAt=(S.length:Int)-r.length from rfl,Cq (by omega) (by omega),Cq (by omega) (by omega),hslice,Dk (by omega),BB (p:=DC 40 _) (AaU (by
   show(cs.length+1)*40≤140737488355328;omega))]
  rfl
 rw[hrun];unfold Hl;simp only;rw[← e1,← e2];rcases TP (neg:=neg) hd with⟨p1,p2⟩ | ⟨p1,p2,p3,p4⟩ | ⟨p1,p2,p3,p4⟩
 ·rw[p1,p2];exact .inr ⟨rfl,_,rfl⟩
 ·have hne:(BH r).1≠[]:=by
   intro e;rw[e] at p1
   cases neg<;>cases p1
  have hpos:0<(BH r).1.length:=List.length_pos_iff.2 hne;rw[p1,p3,p4,AaR (show ¬ (S.length:Int)-r.length=(S.length:Int)-(BH r).2.length by omega)];refine .inl ⟨_,_,rfl,hw,?_⟩;simp[Fo.flat,Bu,CK,p2,Bj]
 ·have hne:(BH r).1≠[]:=by
   intro e;rw[e] at p1
   cases neg<;>cases p1
  have hpos:0<(BH r).1.length:=List.length_pos_iff.2 hne;rw[p1,p3,p4,AaR (show ¬ (S.length:Int)-r.length=(S.length:Int)-(BH r).2.length by omega)];refine .inl ⟨_,_,rfl,hw,?_⟩;simp[Fo.flat,Bu,CK,p2,Bj]
def Vg (strict:Bool)(s:Ah):Option (Fo×Ah):=
 match pre [110,117,108,108] s with
 | some r=>some (lf 1 0 [],r)
 | none=>match pre [116,114,117,101] s with
  | some r=>some (lf 2 1 [],r)
  | none=>match pre [102,97,108,115,101] s with
   | some r=>some (lf 2 0 [],r)
   | none=>match s with
    | []=>none
    | c::r=>bif decide (c=34) then(match Cw strict r with
     | none=>none
     | some (t,u)=>some (lf 4 0 t,u)) else Hl (c::r)
theorem V7 (b:Bool)(F:Nat){s:Ah}(h:∀c r,s=c::r→(decide (c=91)||decide (c=123))=false):ER b (F+1) s=Vg b s:=by
 rw[Du];unfold Vg
 cases pre [110,117,108,108] s with
 | some r=>rfl
 | none=>
 cases pre [116,114,117,101] s with
 | some r=>rfl
 | none=>
 cases pre [102,97,108,115,101] s with
 | some r=>rfl
 | none=>
 cases s with
 | nil=>rfl
 | cons c r=>
  simp only;rw[h c r rfl];rfl
theorem PR {F:Nat}{S u:Ah}{cs:List Aa}{g:Bool}(hS:S.length≤100000)(h:DP u S)(hF:S.length<F)(hcs:cs.length≤100000) :
  (∃f w,Vg true u=some (f,w)∧DP w S∧Iq F (D8 S u cs g)=some (true,D8 S w (cs++f.flat.map CK) (g||f.flat.any BX)))∨(Vg true u=none∧∃q',Iq F (D8 S u cs g)=some (false,q')):=by
 have hA:∀c:Aa,DC 40 (cs.length+([c]:List Aa).length)=true:=λc=>AaU (by show(cs.length+1)*40≤140737488355328;omega);unfold Iq Vg;rw[CS hS h]
 cases h1:pre [110,117,108,108] u with
 | some r=>
  have hr:DP r S:=by rw[CY h1] at h;exact h.app
  refine .inl ⟨_,r,rfl,hr,?_⟩;simp only;rw[AS rfl,AP rfl];show AX (DC 40 (cs.length+([⟨1,0,[],0⟩]:List Aa).length)) (some (true,D8 S r (cs++[⟨1,0,[],0⟩]) g))=_;rw[BB (hA _)];simp[lf,Fo.flat,Bu,CK,BX]
 | none=>
 simp only;rw[AS rfl,A8 rfl,show(false,D8 S u cs g).2=D8 S u cs g from rfl,CS hS h]
 cases h2:pre [116,114,117,101] u with
 | some r=>
  have hr:DP r S:=by rw[CY h2] at h;exact h.app
  refine .inl ⟨_,r,rfl,hr,?_⟩;simp only;rw[AS rfl,AP rfl];show AX (DC 40 (cs.length+([⟨2,1,[],0⟩]:List Aa).length)) (some (true,D8 S r (cs++[⟨2,1,[],0⟩]) g))=_;rw[BB (hA _)];simp[lf,Fo.flat,Bu,CK,BX]
 | none=>
 simp only;rw[AS rfl,A8 rfl,show(false,D8 S u cs g).2=D8 S u cs g from rfl,CS hS h]
 cases h3:pre [102,97,108,115,101] u with
 | some r=>
  have hr:DP r S:=by rw[CY h3] at h;exact h.app
  refine .inl ⟨_,r,rfl,hr,?_⟩;simp only;rw[AS rfl,AP rfl];show AX (DC 40 (cs.length+([⟨2,0,[],0⟩]:List Aa).length)) (some (true,D8 S r (cs++[⟨2,0,[],0⟩]) g))=_;rw[BB (hA _)];simp[lf,Fo.flat,Bu,CK,BX]
 | none=>
 have hl:=h.len;simp only;rw[AS rfl,A8 rfl,show(false,D8 S u cs g).2=D8 S u cs g from rfl,show(D8 S u cs g).fAt=(S.length:Int)-u.length from rfl,show(D8 S u cs g).fS=S from rfl,Cq (by omega) (by omega),h.drop,Lr,AS rfl,IH]
 cases u with
 | nil=>
  simp only;rw[A8 (p:=(none:Option Ah).isSome) rfl];rcases PS (g:=g) hS h hF hcs with⟨f,w,q1,q2,q3⟩ | ⟨q1,q',q2⟩
  ·exact absurd (NC q1) (by simp)
  ·rw[q2];exact .inr ⟨trivial,_,rfl⟩
 | cons c r=>
  simp only
  cases hc:decide (c=34) with
  | true=>
   simp only[AaQ];rw[AP (p:=(some r).isSome) rfl];simp only[AaL] at hc;subst hc;rcases PQ (cs:=cs) (g:=g) hS h hF with⟨r',t,w,q1,q2,q3,q4⟩ | ⟨q1,q',q2⟩
   ·cases q1
    rw[q2,q4,AS rfl,A8 (p:=!true) rfl];refine .inl ⟨_,w,rfl,q3,?_⟩;simp only;show AX (DC 40 (cs.length+([⟨4,0,t,0⟩]:List Aa).length)) (some (true,D8 S w (cs++[⟨4,0,t,0⟩]) g))=_;rw[BB (hA _)];simp[lf,Fo.flat,Bu,CK,BX]
   ·rw[q1 r rfl,q2,AS rfl];exact .inr ⟨rfl,_,rfl⟩
  | false=>
   simp only[AaN];rw[A8 (p:=(none:Option Ah).isSome) rfl];rcases PS (g:=g) hS h hF hcs with⟨f,w,q1,q2,q3⟩ | ⟨q1,q',q2⟩
   ·rw[q3,AS rfl];exact .inl ⟨f,w,q1,q2,rfl⟩
   ·rw[q2,AS rfl];exact .inr ⟨q1,_,rfl⟩
theorem MG {f:Fo}(h:f.one=true)(key:Option Ah)(r:Fo):(f.put key r).cnt=r.cnt+1:=by
 cases f with
 | nil=>cases h
 | cell _ _ _=>rfl
 | node _ _ _ _=>rfl
theorem IJ (m:Bool)(g:Fo)(h:g.cnt=0→g = .nil):(nd m g).flat=⟨bif m then 6 else 5,0,[],(g.cnt:Int)⟩::g.flat:=by
 unfold nd
 cases hd:decide (g.cnt=0) with
 | true=>
  simp only[AaL] at hd;rw[h hd];rfl
 | false=>simp[Fo.flat,Bu]
theorem HV {g:Fo}(h:g.cnt=0):g = .nil:=by
 cases g with
 | nil=>rfl
 | cell _ _ _=>simp[Fo.cnt] at h
 | node _ _ _ _=>simp[Fo.cnt] at h
theorem OA {b m:Bool}{last key:Option Ah}{s u:Ah}(h:D3 b m last s=some (key,u)):(Bu key).length+u.length≤s.length:=by
 unfold D3 at h
 cases m with
 | false=>cases h;simp[Bu]
 | true=>
  simp only[AaQ] at h
  cases s with
  | nil=>cases h
  | cons c r=>
   simp only at h
   cases h1:decide (c=34) with
   | false=>rw[h1] at h;cases h
   | true=>
    rw[h1] at h;simp only[AaQ] at h
    cases h2:Cw b r with
    | none=>rw[h2] at h;cases h
    | some q=>
     obtain⟨k,w⟩:=q;have:=Iu b _ r k w rfl h2;rw[h2] at h;simp only at h
     cases h3:(b&&!B4 true last (some k)) with
     | true=>rw[h3] at h;cases h
     | false=>
      rw[h3] at h;simp only[AaN] at h
      cases w with
      | nil=>cases h
      | cons d w'=>
       simp only at h
       cases h4:decide (d=58) with
       | false=>rw[h4] at h;cases h
       | true=>rw[h4] at h;cases h;simp only[AaM,Bu,AbC] at this ⊢;omega
theorem Em (b:Bool):∀F:Nat,(∀s f u,ER b F s=some (f,u)→f.flat.length+u.length≤s.length)∧(∀m last s g u,Di b F m last s=some (g,u)→g.flat.length+u.length+1≤s.length)
 | 0=>⟨(λs f u h=>by rw[ER.eq_def] at h;cases h),(λm last s g u h=>by rw[Di.eq_def] at h;cases h)⟩
 | F+1=>by
  obtain⟨ih1,ih2⟩:=Em b F;have lfl:∀k i t,(lf k i t).flat.length=1:=λ_ _ _=>rfl;constructor
  ·intro s f u h;rw[Du] at h
   cases h1:pre [110,117,108,108] s with
   | some r=>rw[h1] at h;cases h;rw[CY h1,lfl];simp;omega
   | none=>
   rw[h1] at h;simp only at h
   cases h2:pre [116,114,117,101] s with
   | some r=>rw[h2] at h;cases h;rw[CY h2,lfl];simp;omega
   | none=>
   rw[h2] at h;simp only at h
   cases h3:pre [102,97,108,115,101] s with
   | some r=>rw[h3] at h;cases h;rw[CY h3,lfl];simp;omega
   | none=>
   rw[h3] at h;simp only at h
   cases s with
   | nil=>cases h
   | cons c r=>
   simp only at h
   cases h4:decide (c=34) with
   | true=>
    rw[h4] at h;simp only[AaQ] at h
    cases h5:Cw b r with
    | none=>rw[h5] at h;cases h
    | some q=>
     obtain⟨t,w⟩:=q;rw[h5] at h;cases h;have:=Iu b _ r t u rfl h5;rw[lfl];simp only[AaM];omega
   | false=>
   rw[h4] at h;simp only[AaN] at h
   cases h5:(decide (c=91)||decide (c=123)) with
   | false=>
    rw[h5] at h;simp only[AaN] at h;have h6:=NC h;have h7:f.flat.length=1:=by
     unfold Hl at h;simp only at h
     cases hc:DB (decide ((c::r).head? =some 45)) (BH (bif decide ((c::r).head? =some 45) then(c::r).tail else c::r)).1 with
     | false=>rw[hc] at h;cases h
     | true=>rw[hc] at h;cases h;rfl
    omega
   | true=>
   rw[h5] at h;simp only[AaQ] at h
   cases r with
   | nil=>cases h
   | cons d r'=>
   simp only at h
   cases h6:decide (d=Bh (decide (c=123))) with
   | true=>rw[h6] at h;cases h;rw[IJ _ _ HV];simp[Fo.flat];omega
   | false=>
   rw[h6] at h;simp only[AaN] at h
   cases h7:Di b F (decide (c=123)) none (d::r') with
   | none=>rw[h7] at h;cases h
   | some q=>
    obtain⟨g,w⟩:=q;rw[h7] at h;cases h;have:=ih2 _ _ _ _ _ h7;rw[IJ _ _ HV];simp only[AaM] at this ⊢;omega
  ·intro m last s g u h;rw[De] at h
   cases h1:D3 b m last s with
   | none=>rw[h1] at h;cases h
   | some q=>
   obtain⟨key,s1⟩:=q;have l1:=OA h1;rw[h1] at h;simp only at h
   cases h2:ER b F s1 with
   | none=>rw[h2] at h;cases h
   | some q=>
   obtain⟨f,s2⟩:=q;have l2:=ih1 _ _ _ h2;have o2:=((DM b F).1 _ _ _ h2).2;rw[h2] at h;simp only at h
   cases s2 with
   | nil=>cases h
   | cons c s3=>
   simp only[AaM] at l2;simp only at h
   cases h3:decide (c=Bh m) with
   | true=>rw[h3] at h;cases h;rw[El o2,AaS,AaS];simp only[Fo.flat,AbC];omega
   | false=>
   rw[h3] at h;simp only[AaN] at h
   cases h4:decide (c=44) with
   | false=>rw[h4] at h;cases h
   | true=>
   rw[h4] at h;simp only[AaQ] at h
   cases h5:Di b F m key s3 with
   | none=>rw[h5] at h;cases h
   | some q=>
    obtain⟨g',w⟩:=q;rw[h5] at h;cases h;have:=ih2 _ _ _ _ _ h5;rw[El o2,AaS,AaS];omega
theorem Sv {α:Type}(xs D:List α)(a b:α):List.set (xs++a::D) (Int.toNat (xs.length:Int)) b=xs++b::D:=by
 rw[show Int.toNat (xs.length:Int)=xs.length from by omega,List.set_append_right _ _ (Abp _)];simp
theorem WT {α:Type}[Inhabited α](xs D:List α)(a:α):Ay (xs++a::D) (xs.length:Int)=a:=by simp[Ay]
def Z5 (F P:Nat)(S u:Ah)(cs:List Aa)(g:Bool):Prop:=
 (∃f w,ER true P u=some (f,w)∧DP w S∧Cv F (D8 S u cs g)=some (true,D8 S w (cs++f.flat.map CK) (g||f.flat.any BX)))∨(ER true P u=none∧∃q',Cv F (D8 S u cs g)=some (false,q'))
abbrev Yx (F:Nat)(x16:List Aa):Int×Ah×Int×List Aa×Bool→Option (Stp (Int×Ah×Int×List Aa×Bool) (Out (Bool×A1) Unit)):=λσ=>EP (Cv F) x16 σ.1 σ.2.1 σ.2.2.1 σ.2.2.2.1 σ.2.2.2.2
abbrev YD (F:Nat)(x16:List Aa):Ah×Int×Ah×Int×List Aa×Bool→Option (Stp (Ah×Int×Ah×Int×List Aa×Bool) (Out (Bool×A1) Unit)):=λσ=>EO F (Cv F) x16 σ.1 σ.2.1 σ.2.2.1 σ.2.2.2.1 σ.2.2.2.2.1 σ.2.2.2.2.2
def U9 (P:Nat)(m:Bool)(last:Option Ah)(S u:Ah)(x16 D:List Aa)(k:Int)(g:Bool)(o:Out (Bool×A1) Unit):Prop:=
 (∃G w,Di true P m last u=some (G,w)∧DP w S∧o = .ret (true,D8 S w (x16++⟨bif m then 6 else 5,0,[],k-1+(G.cnt:Int)⟩::(D++G.flat.map CK)) (g||G.flat.any BX)))∨(Di true P m last u=none∧∃q',o = .ret (false,q'))
theorem Yh (k:Option Ah):(Bu k).map CK=Bu k∧(Bu k).any BX=false:=by
 cases k with
 | none=>exact⟨rfl,rfl⟩
 | some s=>exact⟨by simp[Bu,CK,BX],by simp[Bu,BX]⟩
theorem U9.join {P:Nat}{m:Bool}{last key:Option Ah}{S u s1 s2:Ah}{x16 D:List Aa}{k:Int}{g:Bool}{o:Out (Bool×A1) Unit}{f:Fo}(hk:D3 true m last u=some (key,s1))(hf:ER true P s1=some (f,s2))(ho:f.one=true)
  (h:(∃s3,s2=Bh m::s3∧DP s3 S∧o = .ret (true,D8 S s3 (x16++⟨bif m then 6 else 5,0,[],k⟩::(D++(Bu key++f.flat.map CK))) (g||f.flat.any BX)))∨(∃s3,s2=44::s3∧U9 P m key S s3 x16 (D++(Bu key++f.flat.map CK)) (k+1) (g||f.flat.any BX) o)∨((∀c s3,s2=c::s3→decide (c=Bh m)=false∧decide (c=44)=false)∧∃q',o = .ret (false,q'))):U9 (P+1) m last S u x16 D k g o:=by
 obtain⟨fk1,fk2⟩:=Yh key;unfold U9;rw[De,hk];simp only[hf];have ha:decide ((44:UInt8)=Bh m)=false:=by cases m<;>rfl
 rcases h with⟨s3,rfl,h1,h2⟩ | ⟨s3,rfl,h⟩ | ⟨h1,h2⟩
 ·simp only[decide_true,AaQ];refine .inl ⟨_,s3,rfl,h1,?_⟩;rw[h2,MG ho,El ho];simp only[Fo.flat,Fo.cnt,Ab1,AbI,List.any_append,fk1,fk2,AaZ]
  congr 6
  omega
 ·simp only[ha,AaN,decide_true,AaQ];rcases h with⟨G,w,q1,q2,q3⟩ | ⟨q1,q2⟩
  ·rw[q1];refine .inl ⟨_,w,rfl,q2,?_⟩;rw[q3,MG ho,El ho];simp only[AbI,List.any_append,fk1,fk2,AaZ,Bool.or_assoc,Abq]
   congr 6
   omega
  ·rw[q1];exact .inr ⟨rfl,q2⟩
 ·refine .inr ⟨?_,h2⟩
  cases s2 with
  | nil=>rfl
  | cons c s3=>
   obtain⟨a,b⟩:=h1 c s3 rfl;simp only[a,b,AaN]
theorem MN (S u:Ah)(cs:List Aa)(g:Bool):A1.mk S ((S.length:Int)-u.length) cs g=D8 S u cs g:=rfl
theorem MM {o:Out (Bool×A1) Unit}{r:Bool×A1}{K:Unit→Option (Bool×A1)}(h:o = .ret r):BL K o=some r:=by rw[h];rfl
theorem JU {α:Type}{n:Nat}{x:Option α}(h:n≤1000000):AX (DC 40 n) x=x:=BB (AaU (by omega))
theorem RM {F P:Nat}{S u:Ah}{x16 D:List Aa}{k:Int}{g:Bool}(hS:S.length≤100000)(hs:DP u S)(hk1:1≤k)(hk2:k≤200000)(hV:Z5 F P S u (x16++⟨5,0,[],k-1⟩::D) g) :
  (∃q',Yx F x16 (k,S,(S.length:Int)-u.length,x16++⟨5,0,[],k-1⟩::D,g)=some (.out (.ret (false,q')))∧(ER true P u=none∨∃f s2,ER true P u=some (f,s2)∧∀c s3,s2=c::s3→decide (c=Bh false)=false∧decide (c=44)=false))∨
  ∃f s2,ER true P u=some (f,s2)∧DP s2 S∧((∃s3,s2=Bh false::s3∧Yx F x16 (k,S,(S.length:Int)-u.length,x16++⟨5,0,[],k-1⟩::D,g)=some (.out (.ret (true,D8 S s3 (x16++⟨5,0,[],k⟩::(D++f.flat.map CK)) (g||f.flat.any BX)))))∨
   (∃s3,s2=44::s3∧Yx F x16 (k,S,(S.length:Int)-u.length,x16++⟨5,0,[],k-1⟩::D,g)=some (.next (k+1,S,(S.length:Int)-s3.length,x16++⟨5,0,[],k⟩::(D++f.flat.map CK),g||f.flat.any BX)))):=by
 have hb:Yx F x16 (k,S,(S.length:Int)-u.length,x16++⟨5,0,[],k-1⟩::D,g)=EP (Cv F) x16 k S ((S.length:Int)-u.length) (x16++⟨5,0,[],k-1⟩::D) g:=rfl;rw[hb];unfold EP;rw[MN];rcases hV with⟨f,s2,q1,q2,q3⟩ | ⟨q1,q',q2⟩
 ·have ec:(x16++⟨5,0,[],k-1⟩::D)++f.flat.map CK=x16++⟨5,0,[],k-1⟩::(D++f.flat.map CK):=by simp
  rw[ec] at q3;rw[q3,AS rfl,A8 (p:=!true) rfl];have hin:CH (x16.length:Int) (((x16++(⟨5,0,[],k-1⟩:Aa)::(D++f.flat.map CK)).length:Nat):Int)=true:=Lq (by omega) (by rw[AaS,AaM];omega);have e1:(true,D8 S s2 (x16++⟨5,0,[],k-1⟩::(D++f.flat.map CK)) (g||f.flat.any BX)).2.fCells=x16++⟨5,0,[],k-1⟩::(D++f.flat.map CK):=rfl;rw[e1,BB hin,WT,Sv,G3];have e2:A1.mk (true,D8 S s2 (x16++⟨5,0,[],k-1⟩::(D++f.flat.map CK)) (g||f.flat.any BX)).2.fS (true,D8 S s2 (x16++⟨5,0,[],k-1⟩::(D++f.flat.map CK)) (g||f.flat.any BX)).2.fAt (x16++⟨5,0,[],k⟩::(D++f.flat.map CK)) (true,D8 S s2 (x16++⟨5,0,[],k-1⟩::(D++f.flat.map CK)) (g||f.flat.any BX)).2.fGreat=D8 S s2 (x16++⟨5,0,[],k⟩::(D++f.flat.map CK)) (g||f.flat.any BX):=rfl;rw[e2,CS hS q2,IH]
  cases s2 with
  | nil=>
   simp only;rw[AS rfl,A8 rfl,CS hS q2,IH];exact .inl ⟨_,rfl,.inr ⟨f,[],q1,λc s3 e=>by cases e⟩⟩
  | cons c s3=>
   simp only
   cases ha:decide (c=93) with
   | true=>
    simp only[AaL] at ha;subst ha;exact .inr ⟨f,_,q1,q2,.inl ⟨s3,rfl,rfl⟩⟩
   | false=>
    simp only[AaN];rw[AS rfl,A8 rfl,CS hS q2,IH];simp only
    cases hd:decide (c=44) with
    | true=>
     simp only[AaL] at hd;subst hd;simp only[AaQ];rw[AS rfl,A8 (p:=!true) rfl,AI (by omega) (by omega)];exact .inr ⟨f,_,q1,q2,.inr ⟨s3,rfl,rfl⟩⟩
    | false=>
     exact .inl ⟨_,rfl,.inr ⟨f,_,q1,λc' s3' e=>by cases e;exact⟨ha,hd⟩⟩⟩
 ·rw[q2,AS rfl];exact .inl ⟨q',rfl,.inl q1⟩
theorem VZ {F P:Nat}{S u:Ah}{x16 D:List Aa}{k:Int}{g b1 b2:Bool}{r:Ah×Bool×A1}(hS:S.length≤100000)(hs:DP u S)(hk1:1≤k)(hk2:k≤200000)(hD:x16.length+D.length≤200000)(hV:Z5 F P S u (x16++⟨6,0,[],k-1⟩::(D++[⟨4,0,r.1,0⟩])) g) :
  (∃q',Cr (Cv F) x16 k r b1 b2 false S ((S.length:Int)-u.length) (x16++⟨6,0,[],k-1⟩::D) g=some (.out (.ret (false,q')))∧(ER true P u=none∨∃f s2,ER true P u=some (f,s2)∧∀c s3,s2=c::s3→decide (c=Bh true)=false∧decide (c=44)=false))∨
  ∃f s2,ER true P u=some (f,s2)∧DP s2 S∧((∃s3,s2=Bh true::s3∧Cr (Cv F) x16 k r b1 b2 false S ((S.length:Int)-u.length) (x16++⟨6,0,[],k-1⟩::D) g=some (.out (.ret (true,D8 S s3 (x16++⟨6,0,[],k⟩::(D++([⟨4,0,r.1,0⟩]++f.flat.map CK))) (g||f.flat.any BX)))))∨
   (∃s3,s2=44::s3∧Cr (Cv F) x16 k r b1 b2 false S ((S.length:Int)-u.length) (x16++⟨6,0,[],k-1⟩::D) g=some (.next (r.1,k+1,S,(S.length:Int)-s3.length,x16++⟨6,0,[],k⟩::(D++([⟨4,0,r.1,0⟩]++f.flat.map CK)),g||f.flat.any BX)))):=by
 unfold Cr;have e0:(x16++⟨6,0,[],k-1⟩::D)++([⟨4,0,r.1,0⟩]:List Aa)=x16++⟨6,0,[],k-1⟩::(D++[⟨4,0,r.1,0⟩]):=by simp
 rw[A8 rfl,JU (by rw[AaS,AaM,Abs];omega),e0,MN];rcases hV with⟨f,s2,q1,q2,q3⟩ | ⟨q1,q',q2⟩
 ·have ec:(x16++⟨6,0,[],k-1⟩::(D++[⟨4,0,r.1,0⟩]))++f.flat.map CK=x16++⟨6,0,[],k-1⟩::(D++([⟨4,0,r.1,0⟩]++f.flat.map CK)):=by simp
  rw[ec] at q3;rw[q3,AS rfl,A8 (p:=!true) rfl];have hin:CH (x16.length:Int) (((x16++(⟨6,0,[],k-1⟩:Aa)::(D++([⟨4,0,r.1,0⟩]++f.flat.map CK))).length:Nat):Int)=true:=Lq (by omega) (by rw[AaS,AaM];omega);have e1:(true,D8 S s2 (x16++⟨6,0,[],k-1⟩::(D++([⟨4,0,r.1,0⟩]++f.flat.map CK))) (g||f.flat.any BX)).2.fCells=x16++⟨6,0,[],k-1⟩::(D++([⟨4,0,r.1,0⟩]++f.flat.map CK)):=rfl;rw[e1,BB hin,WT,Sv,G3];have e2:A1.mk (true,D8 S s2 (x16++⟨6,0,[],k-1⟩::(D++([⟨4,0,r.1,0⟩]++f.flat.map CK))) (g||f.flat.any BX)).2.fS (true,D8 S s2 (x16++⟨6,0,[],k-1⟩::(D++([⟨4,0,r.1,0⟩]++f.flat.map CK))) (g||f.flat.any BX)).2.fAt (x16++⟨6,0,[],k⟩::(D++([⟨4,0,r.1,0⟩]++f.flat.map CK))) (true,D8 S s2 (x16++⟨6,0,[],k-1⟩::(D++([⟨4,0,r.1,0⟩]++f.flat.map CK))) (g||f.flat.any BX)).2.fGreat=D8 S s2 (x16++⟨6,0,[],k⟩::(D++([⟨4,0,r.1,0⟩]++f.flat.map CK))) (g||f.flat.any BX):=rfl;rw[e2,CS hS q2,IH]
  cases s2 with
  | nil=>
   simp only;rw[AS rfl,A8 rfl,CS hS q2,IH];exact .inl ⟨_,rfl,.inr ⟨f,[],q1,λc s3 e=>by cases e⟩⟩
  | cons c s3=>
   simp only
   cases ha:decide (c=125) with
   | true=>
    simp only[AaL] at ha;subst ha;exact .inr ⟨f,_,q1,q2,.inl ⟨s3,rfl,rfl⟩⟩
   | false=>
    simp only[AaN];rw[AS rfl,A8 rfl,CS hS q2,IH];simp only
    cases hb:decide (c=44) with
    | true=>
     simp only[AaL] at hb;subst hb;simp only[AaQ];rw[AS rfl,A8 (p:=!true) rfl,AI (by omega) (by omega)];exact .inr ⟨f,_,q1,q2,.inr ⟨s3,rfl,rfl⟩⟩
    | false=>
     exact .inl ⟨_,rfl,.inr ⟨f,_,q1,λc' s3' e=>by cases e;exact⟨ha,hb⟩⟩⟩
 ·rw[q2,AS rfl];exact .inl ⟨q',rfl,.inl q1⟩
def Yp (t:Ah):Ah→Option (Option Ah×Ah)
 | []=>none
 | d::u'=>bif decide (d=58) then some (some t,u') else none
theorem Lo (b:Bool)(last:Option Ah)(r:Ah):D3 b true last (34::r)=match Cw b r with
  | none=>none
  | some (k,u)=>bif b&&!B4 true last (some k) then none else Yp k u:=by
 show(match Cw b r with
   | none=>none
   | some (k,u)=>bif b&&!B4 true last (some k) then none else(match u with
    | []=>none
    | d::u'=>bif decide (d=58) then some (some k,u') else none))=_
 cases Cw b r with
 | none=>rfl
 | some q=>obtain⟨k,u⟩:=q;cases u<;>rfl
theorem SQ (b:Bool)(last:Option Ah){u:Ah}(h:∀r,u=34::r→Cw b r=none):D3 b true last u=none:=by
 cases u with
 | nil=>rfl
 | cons c r=>
  by_cases hc:c=34
  ·subst hc;rw[Lo,h r rfl]
  ·show(bif decide (c=34) then _ else none)=none;rw[AaR hc];rfl
theorem O6 {F:Nat}{S w t:Ah}{x16 cs:List Aa}{k:Int}{g:Bool}(b1 b2:Bool)(hS:S.length≤100000)(hw:DP w S) :
  (∃q',Bx (DZ (t,true,D8 S w cs g).2.2 ([58]:Ah)) (λha=>Cr (Cv F) x16 k (t,true,D8 S w cs g) b1 b2 (!ha.1) ha.2.fS ha.2.fAt ha.2.fCells ha.2.fGreat)=some (.out (.ret (false,q')))∧Yp t w=none)∨
  ∃s1,w=58::s1∧Yp t w=some (some t,s1)∧Bx (DZ (t,true,D8 S w cs g).2.2 ([58]:Ah)) (λha=>Cr (Cv F) x16 k (t,true,D8 S w cs g) b1 b2 (!ha.1) ha.2.fS ha.2.fAt ha.2.fCells ha.2.fGreat)=Cr (Cv F) x16 k (t,true,D8 S w cs g) b1 b2 false S ((S.length:Int)-s1.length) cs g:=by
 rw[show(t,true,D8 S w cs g).2.2=D8 S w cs g from rfl,CS hS hw,IH]
 cases w with
 | nil=>exact .inl ⟨_,rfl,rfl⟩
 | cons d s1=>
  by_cases hd:d=58
  ·subst hd;exact .inr ⟨s1,rfl,rfl,rfl⟩
  ·simp only[AaR hd,AaN];refine .inl ⟨_,rfl,?_⟩;show(bif decide (d=58) then _ else none)=none;rw[AaR hd];rfl
theorem XQ {F:Nat}{S u last:Ah}{x16 cs:List Aa}{k:Int}{g:Bool}(hS:S.length≤100000)(hs:DP u S)(hF:S.length<F) :
  (D3 true true (bif decide (1<k) then some last else none) u=none∧∃q',YD F x16 (last,k,S,(S.length:Int)-u.length,cs,g)=some (.out (.ret (false,q'))))∨
  ∃t s1 b1 b2 q0,D3 true true (bif decide (1<k) then some last else none) u=some (some t,s1)∧DP s1 S∧s1.length+2≤u.length∧YD F x16 (last,k,S,(S.length:Int)-u.length,cs,g)=Cr (Cv F) x16 k (t,true,q0) b1 b2 false S ((S.length:Int)-s1.length) cs g:=by
 have hb:YD F x16 (last,k,S,(S.length:Int)-u.length,cs,g)=EO F (Cv F) x16 last k S ((S.length:Int)-u.length) cs g:=rfl;rw[hb];unfold EO;rw[MN];rcases PQ (cs:=cs) (g:=g) hS hs hF with⟨r,t,w,q1,q2,q3,q4⟩ | ⟨q1,q',q2⟩
 ·rw[q4,AS rfl,A8 (p:=!true) rfl];subst q1;have hok:=X3 _ r t w rfl q2;have hwl:=Iu true _ r t w rfl q2;rw[Lo,q2];simp only[AaW]
  cases h1:decide (1<k) with
  | true=>
   rw[AP rfl];simp only[AaQ];have hko:B4 true (some last) (some t) = !(BI t last||decide (t=last)):=by simp[B4,hok]
   rw[hko,Bool.not_not]
   cases hlt:(BI t last||decide (t=last)) with
   | true=>
    rw[AP rfl];exact .inl ⟨rfl,_,rfl⟩
   | false=>
    rw[A8 rfl];simp only[AaN];rcases O6 (F:=F) (cs:=cs) (g:=g) (x16:=x16) (k:=k) (t:=t) false false hS q3 with⟨q',c1,c2⟩ | ⟨s1,c1,c2,c3⟩
    ·exact .inl ⟨c2,q',c1⟩
    ·subst c1;exact .inr ⟨t,s1,false,false,D8 S (58::s1) cs g,c2,q3.tail,by simp only[AaM] at hwl ⊢;omega,c3⟩
  | false=>
   rw[A8 rfl];simp only[AaN];have hko:B4 true none (some t)=true:=by simp[B4,hok]
   rw[hko];simp only[AaV,AaN];rcases O6 (F:=F) (cs:=cs) (g:=g) (x16:=x16) (k:=k) (t:=t) false false hS q3 with⟨q',c1,c2⟩ | ⟨s1,c1,c2,c3⟩
   ·exact .inl ⟨c2,q',c1⟩
   ·subst c1;exact .inr ⟨t,s1,false,false,D8 S (58::s1) cs g,c2,q3.tail,by simp only[AaM] at hwl ⊢;omega,c3⟩
 ·rw[q2,AS rfl];exact .inl ⟨SQ _ _ q1,_,rfl⟩
def NM (b:Bool)(F:Nat)(m:Bool):Ah→Option (Fo×Ah)
 | []=>none
 | d::r'=>bif decide (d=Bh m) then some (nd m .nil,r') else(match Di b F m none (d::r') with
  | none=>none
  | some (g,u)=>some (nd m g,u))
theorem H4 (b:Bool)(F:Nat)(m:Bool)(d:UInt8)(r':Ah):NM b F m (d::r')=bif decide (d=Bh m) then some (nd m .nil,r') else(match Di b F m none (d::r') with
  | none=>none
  | some (g,u)=>some (nd m g,u)):=rfl
theorem RG (b:Bool)(F:Nat)(r:Ah)(m:Bool):ER b (F+1) ((bif m then 123 else 91)::r)=NM b F m r:=by
 rw[Du]
 cases m<;>cases r<;>rfl
theorem Wd {S:Ah}(hS:S.length≤100000):∀n:Nat,
  (∀(F P:Nat) (u:Ah) (cs:List Aa) (g:Bool),u.length=n→DP u S→S.length+n+5<F→2*n+2≤P→cs.length+n≤S.length→Z5 F P S u cs g)∧
  (∀(F P L:Nat) (u:Ah) (x16 D:List Aa) (k:Int) (g:Bool),u.length=n→DP u S→S.length+n+5<F→2*n+3≤P→n<L→x16.length+1+D.length+n≤S.length→1≤k→k+n≤S.length+1→∃o,Cg (Yx F x16) L (k,S,(S.length:Int)-u.length,x16++⟨5,0,[],k-1⟩::D,g)=some o∧U9 P false none S u x16 D k g o)∧
  (∀(F P L:Nat) (u last:Ah) (x16 D:List Aa) (k:Int) (g:Bool),u.length=n→DP u S→S.length+n+5<F→2*n+3≤P→n<L→x16.length+1+D.length+n≤S.length→1≤k→k+n≤S.length+1→∃o,Cg (YD F x16) L (last,k,S,(S.length:Int)-u.length,x16++⟨6,0,[],k-1⟩::D,g)=some o∧U9 P true (bif decide (1<k) then some last else none) S u x16 D k g o):=by
 intro n
 induction n using Nat.strongRecOn with
 | ind n ih=>
 have hV:∀(F P:Nat) (u:Ah) (cs:List Aa) (g:Bool),u.length=n→DP u S→S.length+n+5<F→2*n+2≤P→cs.length+n≤S.length→Z5 F P S u cs g:=by
  intro F P u cs g hn hs hF hP hcs;obtain⟨F,rfl⟩:∃K,F=K+1:=⟨F-1,by omega⟩
  obtain⟨P,rfl⟩:∃K,P=K+1:=⟨P-1,by omega⟩
  unfold Z5;rw[Cv];unfold KE;rw[CS hS hs,IH];have hsc:(∀c r,u=c::r→(decide (c=91)||decide (c=123))=false)→∀r1:Bool×A1,(∃f w,ER true (P+1) u=some (f,w)∧DP w S∧Ea F (Cv F) r1 true S ((S.length:Int)-u.length) cs g=some (true,D8 S w (cs++f.flat.map CK) (g||f.flat.any BX)))∨(ER true (P+1) u=none∧∃q',Ea F (Cv F) r1 true S ((S.length:Int)-u.length) cs g=some (false,q')):=λhc r1=>by
   rw[V7 true P hc];unfold Ea;rw[AP rfl,MN];rcases PR (F:=F) (cs:=cs) (g:=g) hS hs (by omega) (by omega) with⟨f,w,q1,q2,q3⟩ | ⟨q1,q',q2⟩
   ·rw[q3,AS rfl];exact .inl ⟨f,w,q1,q2,rfl⟩
   ·rw[q2,AS rfl];exact .inr ⟨q1,q',rfl⟩
  have hsl:=hs.len
  cases u with
  | nil=>
   simp only;rw[AS rfl,AP (p:=!false) rfl,show(false,D8 S [] cs g).2=D8 S [] cs g from rfl,CS hS hs,IH,AS rfl];exact hsc (λc r e=>by cases e) _
  | cons c r=>
   simp only[AaM] at hn hsl;simp only;have hbr:∀m:Bool,c=(bif m then 123 else 91)→∀body:Option (Bool×A1),body=(AX (DC 40 (cs.length+([⟨bif m then 6 else 5,0,[],0⟩]:List Aa).length))<|Bx (DZ (D8 S r (cs++[⟨bif m then 6 else 5,0,[],0⟩]) g) ([Bh m]:Ah)) λha=>Bj ha.1 (some (true,ha.2)) (bif m then Bx (Cg (YD F cs) F ([],1,ha.2.fS,ha.2.fAt,ha.2.fCells,ha.2.fGreat)) (BL λ_=>HC) else Bx (Cg (Yx F cs) F (1,ha.2.fS,ha.2.fAt,ha.2.fCells,ha.2.fGreat)) (BL λ_=>HD)))→
     (∃f w,ER true (P+1) (c::r)=some (f,w)∧DP w S∧body=some (true,D8 S w (cs++f.flat.map CK) (g||f.flat.any BX)))∨(ER true (P+1) (c::r)=none∧∃q',body=some (false,q')):=λm hc body hbody=>by
    rw[hbody,hc,RG,JU (by rw[Abs];omega),CS hS hs.tail,IH];have hfh:CK ⟨bif m then 6 else 5,0,[],0⟩=⟨bif m then 6 else 5,0,[],0⟩∧∀N,BX ⟨bif m then 6 else 5,0,[],N⟩=false:=by cases m<;>exact⟨rfl,λ_=>rfl⟩
    have hfn:∀N,CK ⟨bif m then 6 else 5,0,[],N⟩=⟨bif m then 6 else 5,0,[],N⟩:=λN=>by cases m<;>rfl
    have hloop:∀o:Out (Bool×A1) Unit,U9 P m none S r cs [] 1 g o→(r=[]∨∃d r',r=d::r'∧decide (d=Bh m)=false)→
      (∃f w,NM true P m r=some (f,w)∧DP w S∧o = .ret (true,D8 S w (cs++f.flat.map CK) (g||f.flat.any BX)))∨(NM true P m r=(none:Option (Fo×Ah))∧∃q',o = .ret (false,q')):=λo ho hr=>by
     rcases hr with rfl | ⟨d,r',rfl,hd⟩
     ·rcases ho with⟨G,w,q1,_,_⟩ | ⟨_,q2⟩
      ·exact absurd ((DM true P).2 _ _ _ _ _ q1).1 (by simp)
      ·exact .inr ⟨rfl,q2⟩
     ·rw[H4,hd];simp only[AaN];rcases ho with⟨G,w,q1,q2,q3⟩ | ⟨q1,q2⟩
      ·rw[q1];refine .inl ⟨_,w,rfl,q2,?_⟩;rw[q3,IJ _ _ HV,Ab6,List.any_cons,hfn,hfh.2,AaZ,AbA,show(1:Int)-1+(G.cnt:Int)=G.cnt from by omega]
      ·rw[q1];exact .inr ⟨rfl,q2⟩
    have hrest:(r=[]∨∃d r',r=d::r'∧decide (d=Bh m)=false)→(∃f w,NM true P m r=some (f,w)∧DP w S∧(bif m then Bx (Cg (YD F cs) F ([],1,S,(S.length:Int)-r.length,cs++[⟨bif m then 6 else 5,0,[],0⟩],g)) (BL λ_=>HC) else Bx (Cg (Yx F cs) F (1,S,(S.length:Int)-r.length,cs++[⟨bif m then 6 else 5,0,[],0⟩],g)) (BL λ_=>HD))=some (true,D8 S w (cs++f.flat.map CK) (g||f.flat.any BX)))∨(NM true P m r=(none:Option (Fo×Ah))∧∃q',(bif m then Bx (Cg (YD F cs) F ([],1,S,(S.length:Int)-r.length,cs++[⟨bif m then 6 else 5,0,[],0⟩],g)) (BL λ_=>HC) else Bx (Cg (Yx F cs) F (1,S,(S.length:Int)-r.length,cs++[⟨bif m then 6 else 5,0,[],0⟩],g)) (BL λ_=>HD))=some (false,q')):=λhr=>by
     cases m with
     | true=>
      obtain⟨o,ho1,ho2⟩:=(ih r.length (by omega)).2.2 F P F r [] cs [] 1 g rfl hs.tail (by omega) (by omega) (by omega) (by simp;omega) (by decide) (by omega);simp only[AaQ];have ho1':Cg (YD F cs) F ([],1,S,(S.length:Int)-r.length,cs++[⟨6,0,[],0⟩],g)=some o:=ho1;rw[AS ho1'];rcases hloop o ho2 hr with⟨f,w,q1,q2,q3⟩ | ⟨q1,q',q2⟩
      ·exact .inl ⟨f,w,q1,q2,MM q3⟩
      ·exact .inr ⟨q1,q',MM q2⟩
     | false=>
      obtain⟨o,ho1,ho2⟩:=(ih r.length (by omega)).2.1 F P F r cs [] 1 g rfl hs.tail (by omega) (by omega) (by omega) (by simp;omega) (by decide) (by omega);simp only[AaN];have ho1':Cg (Yx F cs) F (1,S,(S.length:Int)-r.length,cs++[⟨5,0,[],0⟩],g)=some o:=ho1;rw[AS ho1'];rcases hloop o ho2 hr with⟨f,w,q1,q2,q3⟩ | ⟨q1,q',q2⟩
      ·exact .inl ⟨f,w,q1,q2,MM q3⟩
      ·exact .inr ⟨q1,q',MM q2⟩
    cases r with
    | nil=>
     simp only;rw[AS rfl,A8 rfl];exact hrest (.inl rfl)
    | cons d r'=>
     simp only
     cases hd:decide (d=Bh m) with
     | true=>
      simp only[AaQ];rw[AS rfl,AP rfl];refine .inl ⟨_,r',by rw[H4,hd];rfl,hs.tail.tail,?_⟩;rw[IJ _ _ HV];simp only[Fo.flat,Fo.cnt,Ab6,List.map_nil,List.any_cons,List.any_nil,Abg];rw[show((0:Nat):Int)=0 from rfl,hfh.1,hfh.2,Abg]
     | false=>
      simp only[AaN];rw[AS rfl,A8 rfl];exact hrest (.inr ⟨d,r',rfl,hd⟩)
   cases he:decide (c=91) with
   | true=>
    simp only[AaL] at he;simp only[AaQ];rw[AS rfl,A8 (p:=!true) rfl];exact hbr false he _ rfl
   | false=>
    simp only[AaN];rw[AS rfl,AP (p:=!false) rfl,show(false,D8 S (c::r) cs g).2=D8 S (c::r) cs g from rfl,CS hS hs,IH];simp only
    cases hg:decide (c=123) with
    | true=>
     simp only[AaL] at hg;simp only[AaQ];rw[AS rfl];exact hbr true hg _ rfl
    | false=>
     simp only[AaN];rw[AS rfl];exact hsc (λc' r' e=>by cases e;rw[he,hg];rfl) _
 refine⟨hV,?_,?_⟩
 ·intro F P L u x16 D k g hn hs hF hP hL hb hk1 hk2;obtain⟨P,rfl⟩:∃K,P=K+1:=⟨P-1,by omega⟩
  obtain⟨L,rfl⟩:∃K,L=K+1:=⟨L-1,by omega⟩
  have hsl:=hs.len;have hv:=hV F P u (x16++⟨5,0,[],k-1⟩::D) g hn hs hF (by omega) (by simp;omega);have hkp:D3 true false none u=some (none,u):=rfl;rcases RM hS hs hk1 (by omega) hv with⟨q',hb1,hf⟩ | ⟨f,s2,q1,q2,h⟩
  ·refine⟨_,CU hb1,?_⟩;rcases hf with hf | ⟨f,s2,hf,hno⟩
   ·refine .inr ⟨?_,q',rfl⟩;rw[De,hkp];simp only[hf]
   ·exact U9.join hkp hf ((DM true P).1 _ _ _ hf).2 (.inr (.inr ⟨hno,q',rfl⟩))
  ·obtain⟨l1,ho⟩:=(DM true P).1 _ _ _ q1;have l2:=(Em true P).1 _ _ _ q1;rcases h with⟨s3,e,hb1⟩ | ⟨s3,e,hb1⟩
   ·subst e;exact⟨_,CU hb1,U9.join hkp q1 ho (.inl ⟨s3,rfl,q2.tail,rfl⟩)⟩
   ·subst e;simp only[AaM] at l1 l2;obtain⟨o,ho1,ho2⟩:=(ih s3.length (by omega)).2.1 F P L s3 x16 (D++f.flat.map CK) (k+1) (g||f.flat.any BX) rfl q2.tail (by omega) (by omega) (by omega) (by rw[AaS,Abk];omega) (by omega) (by omega);rw[show k+1-1=k from by omega] at ho1;exact⟨o,G1 hb1 ho1,U9.join hkp q1 ho (.inr (.inl ⟨s3,rfl,ho2⟩))⟩
 ·intro F P L u last x16 D k g hn hs hF hP hL hb hk1 hk2;obtain⟨P,rfl⟩:∃K,P=K+1:=⟨P-1,by omega⟩
  obtain⟨L,rfl⟩:∃K,L=K+1:=⟨L-1,by omega⟩
  have hsl:=hs.len;rcases XQ (last:=last) (x16:=x16) (cs:=x16++⟨6,0,[],k-1⟩::D) (k:=k) (g:=g) hS hs (F:=F) (by omega) with⟨hk,q',hb1⟩ | ⟨t,s1,b1,b2,q0,hk,hs1,hl1,hb0⟩
  ·refine⟨_,CU hb1,.inr ⟨?_,q',rfl⟩⟩;rw[De,hk]
  ·have hv:=(ih s1.length (by omega)).1 F P s1 (x16++⟨6,0,[],k-1⟩::(D++[⟨4,0,t,0⟩])) g rfl hs1 (by omega) (by omega) (by simp;omega);rcases VZ (r:=(t,true,q0)) (b1:=b1) (b2:=b2) hS hs1 hk1 (by omega) (by omega) hv with⟨q',hb1,hf⟩ | ⟨f,s2,q1,q2,h⟩
   ·refine⟨_,CU (hb0.trans hb1),?_⟩;rcases hf with hf | ⟨f,s2,hf,hno⟩
    ·refine .inr ⟨?_,q',rfl⟩;rw[De,hk];simp only[hf]
    ·exact U9.join hk hf ((DM true P).1 _ _ _ hf).2 (.inr (.inr ⟨hno,q',rfl⟩))
   ·obtain⟨l1,ho⟩:=(DM true P).1 _ _ _ q1;have l2:=(Em true P).1 _ _ _ q1;rcases h with⟨s3,e,hb1⟩ | ⟨s3,e,hb1⟩
    ·subst e;exact⟨_,CU (hb0.trans hb1),U9.join hk q1 ho (.inl ⟨s3,rfl,q2.tail,rfl⟩)⟩
    ·subst e;simp only[AaM] at l1 l2;obtain⟨o,ho1,ho2⟩:=(ih s3.length (by omega)).2.2 F P L s3 t x16 (D++([⟨4,0,t,0⟩]++f.flat.map CK)) (k+1) (g||f.flat.any BX) rfl q2.tail (by omega) (by omega) (by omega) (by rw[AaS,AaS,Abk,Abs];omega) (by omega) (by omega);rw[show k+1-1=k from by omega] at ho1;rw[show decide (1<k+1)=true from AaU (by omega)] at ho2;exact⟨o,G1 (hb0.trans hb1) ho1,U9.join hk q1 ho (.inr (.inl ⟨s3,rfl,ho2⟩))⟩
theorem Rv {S:Ah}(hS:S.length≤100000){F P:Nat}(hF:2*S.length+6≤F)(hP:2*S.length+2≤P):Z5 F P S S [] false:=
 (Wd hS S.length).1 F P S [] false rfl ⟨[],rfl⟩ (by omega) hP (by simp)
theorem CO {S u w:Ah}(hS:S.length≤100000)(hw:w.length≤100)(h:DP u S):Bn S ((S.length:Int)-u.length) w=some (pre w u).isSome:=by
 have hl:=h.len;unfold Bn;rw[AI (by omega) (by omega)];have e:∀b:Bool,(decide ((S.length:Int)-u.length+w.length≤(S.length:Int))=true→b=true)→imp (decide ((S.length:Int)-u.length+w.length≤(S.length:Int))) b=true:=λb hb=>by
  cases hd:decide ((S.length:Int)-u.length+w.length≤(S.length:Int)) with
  | false=>rfl
  | true=>rw[hb hd];rfl
 rw[BB (e _ λhd=>by simp only[AaL] at hd;exact Ya (by omega) (by omega)),BB (e _ λhd=>by simp only[AaL] at hd;exact Ya (by omega) (by omega))];rw[h.drop,← Nz,show Int.toNat ((S.length:Int)-u.length+w.length)-Int.toNat ((S.length:Int)-u.length)=Int.toNat (w.length:Int) from by omega];have:decide ((S.length:Int)-u.length+w.length≤(S.length:Int))=decide ((w.length:Int)≤(u.length:Int)):=by rw[Abj];simp only[AaL];omega
 rw[this]
theorem Y0 {S r:Ah}{c:UInt8}(h:DP (c::r) S):List.take (Int.toNat ((S.length:Int)-r.length)-Int.toNat ((S.length:Int)-(c::r).length)) (List.drop (Int.toNat ((S.length:Int)-(c::r).length)) S)=[c]:=by
 have hl:=h.len;rw[h.drop];simp only[AaM] at hl ⊢;rw[show Int.toNat ((S.length:Int)-r.length)-Int.toNat ((S.length:Int)-((r.length+1:Nat):Int))=1 from by omega];rfl
theorem Mw {S:Ah}(hS:S.length≤100000):∀(n L:Nat) (u A:Ah),u.length=n→DP u S→n<L→A.length≤S.length-n→
  ∃o,Cg (λσ=>Cy S σ.1 σ.2) L (A,(S.length:Int)-u.length)=some o∧((∃t w,Cw false u=some (t,w)∧DP w S∧BL (λν=>CI S ν.1 ν.2) o=some (A++t,(S.length:Int)-w.length))∨(Cw false u=none∧BL (λν=>CI S ν.1 ν.2) o=some ([],-1))):=by
 intro n
 induction n using Nat.strongRecOn with
 | ind n ih=>
  intro L u A hn hs hL hA;obtain⟨L,rfl⟩:∃K,L=K+1:=⟨L-1,by omega⟩
  have hsl:=hs.len
  cases u with
  | nil=>
   have hgo:Cy S A ((S.length:Int)-([]:Ah).length)=some (.out (.go (A,(S.length:Int)-([]:Ah).length))):=by
    unfold Cy;have e:decide ((S.length:Int)-([]:Ah).length<(S.length:Int))=false:=by simp
    rw[e,BB (p:=imp false _) rfl,A8 (p:=false&&_) rfl]
   refine⟨_,CU hgo,.inr ⟨rfl,?_⟩⟩;rw[DU];unfold CI;rw[AP (AaU (by simp))]
  | cons c r=>
   have hb:AT S ((S.length:Int)-(c::r).length)=c.toNat:=Dl hs.get;have hpos:(S.length:Int)-(c::r).length+1=S.length-r.length:=by rw[AaM];omega
   have ht1:=Y0 hs;simp only[AaM] at hn hsl;have hlt:(S.length:Int)-(c::r).length<S.length:=by rw[AaM];omega
   have h0:0≤(S.length:Int)-(c::r).length:=by rw[AaM];omega
   have l1:([c]:Ah).length=1:=rfl;have hb1:Cy S A ((S.length:Int)-(c::r).length)=Bj (!decide (c=34)) (Bj (decide (c=92)) (AX (imp (!(decide ((S.length:Int)≤S.length-r.length))) (CH (S.length-r.length) (S.length:Int)))<|Bj (((decide ((S.length:Int)≤S.length-r.length))||((!decide ((AT S (S.length-r.length))=34))&&(!decide ((AT S (S.length-r.length))=92))))) (some (.out (.ret (([]:Ah),(-1))))) (AX (Bw .i64 (((S.length:Int)-r.length)+1))<|AX (Hp ((S.length:Int)-r.length) (((S.length:Int)-r.length)+1))<|AX (Hp (((S.length:Int)-r.length)+1) (S.length:Int))<|AX (Bw .i64 ((A.length:Int)+((List.take (Int.toNat (((S.length:Int)-r.length)+1)-Int.toNat ((S.length:Int)-r.length)) (List.drop (Int.toNat ((S.length:Int)-r.length)) S)).length:Int)))<|some (.next (A++(List.take (Int.toNat (((S.length:Int)-r.length)+1)-Int.toNat ((S.length:Int)-r.length)) (List.drop (Int.toNat ((S.length:Int)-r.length)) S)),((S.length:Int)-r.length)+1)))) (some (.next (A++[c],(S.length:Int)-r.length)))) (some (.out (.go (A,(S.length:Int)-(c::r).length)))):=by
    unfold Cy;rw[AaU hlt,BB (p:=imp true _) (by rw[Lq h0 hlt];rfl),hb,OE,AaW,Bl h0 hlt,SR,hpos]
    cases decide (c=34) with
    | true=>rfl
    | false=>
     rw[AP (p:=!false) rfl,AP (p:=!false) rfl]
     cases decide (c=92) with
     | true=>rw[AP rfl,AP rfl,AI (by omega) (by omega)]
     | false=>rw[A8 rfl,A8 rfl,AI (by omega) (by omega),Cq (by omega) (by omega),Cq (by omega) (by omega),ht1,l1,AI (by omega) (by omega)]
   rw[Dq]
   cases h1:decide (c=34) with
   | true=>
    rw[h1,A8 (p:=!true) rfl] at hb1;refine⟨_,CU hb1,.inl ⟨[],r,rfl,hs.tail,?_⟩⟩;rw[DU];unfold CI;rw[A8 (AaR (by omega)),hpos,AI (by omega) (by omega),Ab1]
   | false=>
    rw[h1,AP (p:=!false) rfl] at hb1;simp only[AaN,Abc]
    cases h3:decide (c=92) with
    | true=>
     rw[h3,AP rfl] at hb1
     cases r with
     | nil=>
      have e:decide ((S.length:Int)≤S.length-([]:Ah).length)=true:=by simp
      rw[e,BB (p:=imp (!true) _) rfl,AP (p:=true||_) rfl] at hb1;exact⟨_,CU hb1,.inr ⟨rfl,rfl⟩⟩
     | cons d r'=>
      have ht2:=Y0 hs.tail;simp only[AaM] at hn hsl;have hbd:AT S ((S.length:Int)-(d::r').length)=d.toNat:=Dl hs.tail.get;have hlt2:(S.length:Int)-(d::r').length<S.length:=by rw[AaM];omega
      have ha:0≤(S.length:Int)-(d::r').length:=by rw[AaM];omega
      have hpos2:(S.length:Int)-(d::r').length+1=S.length-r'.length:=by rw[AaM];omega
      have e:decide ((S.length:Int)≤S.length-(d::r').length)=false:=AaR (by omega);have l2:([d]:Ah).length=1:=rfl;rw[e,Lq ha hlt2,hbd,hpos2,OE,SR,BB (p:=imp (!false) true) rfl,ht2,l2] at hb1;simp only[AaQ]
      cases h4:(decide (d=34)||decide (d=92)) with
      | false=>
       have e4:(false||(!decide (d=34)&&!decide (d=92)))=true:=by rw[← Bool.not_or,h4];rfl
       rw[AP e4] at hb1;exact⟨_,CU hb1,.inr ⟨rfl,rfl⟩⟩
      | true=>
       have e4:(false||(!decide (d=34)&&!decide (d=92)))=false:=by rw[← Bool.not_or,h4];rfl
       rw[A8 e4,AI (by omega) (by omega),Cq (by omega) (by omega),Cq (by omega) (by omega),AI (by omega) (by omega)] at hb1;obtain⟨o,ho1,ho2⟩:=ih r'.length (by omega) L r' (A++[d]) rfl hs.tail.tail (by omega) (by rw[EK];omega);refine⟨o,G1 hb1 ho1,?_⟩;simp only[AaQ];rcases ho2 with⟨t,w,q1,q2,q3⟩ | ⟨q1,q2⟩
       ·rw[q1];exact .inl ⟨d::t,w,rfl,q2,by rw[q3];simp⟩
       ·rw[q1];exact .inr ⟨rfl,q2⟩
    | false=>
     rw[h3,A8 rfl] at hb1;obtain⟨o,ho1,ho2⟩:=ih r.length (by omega) L r (A++[c]) rfl hs.tail (by omega) (by rw[EK];omega);refine⟨o,G1 hb1 ho1,?_⟩;simp only[AaN];rcases ho2 with⟨t,w,q1,q2,q3⟩ | ⟨q1,q2⟩
     ·rw[q1];exact .inl ⟨c::t,w,rfl,q2,by rw[q3];simp⟩
     ·rw[q1];exact .inr ⟨rfl,q2⟩
theorem Jm {F:Nat}{S u:Ah}(hS:S.length≤100000)(h:DP u S)(hF:S.length<F) :
  (∃r t w,u=34::r∧Cw false r=some (t,w)∧DP w S∧Dc F S ((S.length:Int)-u.length)=some (t,(S.length:Int)-w.length))∨((∀r,u=34::r→Cw false r=none)∧Dc F S ((S.length:Int)-u.length)=some ([],-1)):=by
 have hl:=h.len;unfold Dc
 cases u with
 | nil=>
  have e:decide ((S.length:Int)≤(S.length:Int)-([]:Ah).length)=true:=by simp
  rw[e,BB (p:=imp (!true) _) rfl,AP (p:=true||_) rfl];exact .inr ⟨(λr e=>by cases e),rfl⟩
 | cons c r=>
  have hb:AT S ((S.length:Int)-(c::r).length)=c.toNat:=Dl h.get;have hpos:(S.length:Int)-(c::r).length+1=S.length-r.length:=by rw[AaM];omega
  simp only[AaM] at hl;have hlt:(S.length:Int)-(c::r).length<S.length:=by rw[AaM];omega
  have h0:0≤(S.length:Int)-(c::r).length:=by rw[AaM];omega
  have e:decide ((S.length:Int)≤(S.length:Int)-(c::r).length)=false:=AaR (by omega);rw[e,BB (p:=imp (!false) _) (by rw[Lq h0 hlt];rfl),hb,OE,hpos]
  cases hc:decide (c=34) with
  | false=>
   simp only[AaK] at hc;exact .inr ⟨(λr' e=>by cases e;exact absurd rfl hc),rfl⟩
  | true=>
   simp only[AaL] at hc;subst hc;rw[A8 (p:=false||!true) rfl,AI (by omega) (by omega)];obtain⟨o,ho1,ho2⟩:=Mw hS r.length F r [] rfl h.tail (by omega) (Aby _);rw[AS ho1];rcases ho2 with⟨t,w,q1,q2,q3⟩ | ⟨q1,q2⟩
   ·exact .inl ⟨r,t,w,rfl,q1,q2,q3⟩
   ·exact .inr ⟨(λr' e=>by cases e;exact q1),q2⟩
theorem TW (d:Ah)(c:UInt8):Hj (d++[c])=10*Hj d+((c.toNat:Int)-48):=by simp[Hj]
theorem SJ:∀(d:Ah),d.all BR=true→C7 0 d<10 ^ d.length:=by
 have key:∀(d:Ah) (a m:Nat),d.all BR=true→a<10 ^ m→C7 a d<10 ^ (m+d.length):=by
  intro d
  induction d with
  | nil=>intro a m _ h;simpa[C7] using h
  | cons c d ih=>
   intro a m hd h;simp only[Ab5,AaO] at hd;have hc:48≤c.toNat∧c.toNat≤57:=by have:=hd.1;simp[BR] at this;omega
   have:=ih (10*a+(c.toNat-48)) (m+1) hd.2 (by rw[Nat.pow_succ];omega);rw[AaM,show m+(d.length+1)=m+1+d.length from by omega];exact this
 intro d hd;have:=key d 0 0 hd (by decide);simpa using this
theorem Pp {d:Ah}(hd:d.all BR=true)(hl:d.length≤18):0≤Hj d∧Hj d<1000000000000000000:=by
 have h1:Hj d=(C7 0 d:Int):=I4 d 0 hd;have h2:=SJ d hd;have h3:10 ^ d.length≤10 ^ 18:=Nat.pow_le_pow_right (by decide) hl;have:(10:Nat) ^ 18=1000000000000000000:=by decide
 omega
def GZ (d:Ah):Ah:=d.take 18
theorem Zq {D:Ah}{c:UInt8}(h:D.length<18):GZ D=D∧GZ (D++[c])=D++[c]:=by
 unfold GZ;exact⟨List.take_of_length_le (by omega),List.take_of_length_le (by simp;omega)⟩
theorem Zr {D:Ah}{c:UInt8}(h : ¬ D.length<18):GZ (D++[c])=GZ D:=by
 unfold GZ;rw[List.take_append_of_le_length (by omega)]
theorem TF {S r D:Ah}{c:UInt8}{a:Int}(body:Int→Int→Option (Stp (Int×Int) (Out (List Aa×Int) (Int×Int))))(hS:S.length≤100000)(hs:DP (c::r) S)(hD:D.all BR=true)(hDm:D.length≤100000)(ha:(S.length:Int)-(c::r).length-a=D.length)
  (hb:∀x n,body x n=(AX (imp (decide (x<(S.length:Int))) (CH x (S.length:Int)))<|Bj (((decide (x<(S.length:Int)))&&((decide (48≤(AT S x)))&&(decide ((AT S x)≤57))))) (AX (Bw .i64 (x-a))<|Bj (decide ((x-a)<18)) (AX (Bw .i64 (10*n))<|AX (CH x (S.length:Int))<|AX (Bw .u8 ((AT S x)-48))<|AX (Bw .i64 ((AT S x)-48))<|AX (Bw .i64 ((10*n)+((AT S x)-48)))<|AX (Bw .i64 (x+1))<|some (.next (x+1,(10*n)+((AT S x)-48)))) (AX (Bw .i64 (x+1))<|some (.next (x+1,n)))) (some (.out (.go (x,n)))))) :
  body ((S.length:Int)-(c::r).length) (Hj (GZ D))=bif BR c then some (.next ((S.length:Int)-r.length,Hj (GZ (D++[c])))) else some (.out (.go ((S.length:Int)-(c::r).length,Hj (GZ D)))):=by
 have hsl:=hs.len;have hbt:AT S ((S.length:Int)-(c::r).length)=c.toNat:=Dl hs.get;have hpos:(S.length:Int)-(c::r).length+1=S.length-r.length:=by rw[AaM];omega
 simp only[AaM] at hsl;have hlt:(S.length:Int)-(c::r).length<S.length:=by rw[AaM];omega
 have h0:0≤(S.length:Int)-(c::r).length:=by rw[AaM];omega
 rw[hb,AaU hlt,BB (p:=imp true _) (by rw[Lq h0 hlt];rfl),hbt,Tb,AaW,ha,hpos]
 cases hd:BR c with
 | false=>rfl
 | true=>
  have hc:48≤c.toNat∧c.toNat≤57:=by simp[BR] at hd;omega
  rw[AP rfl]
  by_cases he:D.length<18
  ·obtain⟨e1,e2⟩:=Zq (c:=c) he;have hbd:=Pp hD (by omega);have hf:Hj D<100000000000000000:=by
    have h1:Hj D=(C7 0 D:Int):=I4 D 0 hD;have h2:=SJ D hD;have h3:10 ^ D.length≤10 ^ 17:=Nat.pow_le_pow_right (by decide) (by omega);have:(10:Nat) ^ 17=100000000000000000:=by decide
    omega
   rw[e1,e2,TW,AI (by omega) (by omega),AP (AaU (by omega)),AI (by omega) (by omega),Bl h0 hlt,GS (by omega) (by omega),AI (by omega) (by omega),AI (by omega) (by omega),AI (by omega) (by omega)];rfl
  ·rw[Zr he];have hle:(D.length:Int)≤9223372036854775807:=by omega
   rw[AI (by omega) hle,A8 (AaR (by omega)),AI (by omega) (by omega)];rfl
theorem Nw {S:Ah}{a:Int}(body:Int→Int→Option (Stp (Int×Int) (Out (List Aa×Int) (Int×Int))))(hS:S.length≤100000)
  (hb:∀x n,body x n=(AX (imp (decide (x<(S.length:Int))) (CH x (S.length:Int)))<|Bj (((decide (x<(S.length:Int)))&&((decide (48≤(AT S x)))&&(decide ((AT S x)≤57))))) (AX (Bw .i64 (x-a))<|Bj (decide ((x-a)<18)) (AX (Bw .i64 (10*n))<|AX (CH x (S.length:Int))<|AX (Bw .u8 ((AT S x)-48))<|AX (Bw .i64 ((AT S x)-48))<|AX (Bw .i64 ((10*n)+((AT S x)-48)))<|AX (Bw .i64 (x+1))<|some (.next (x+1,(10*n)+((AT S x)-48)))) (AX (Bw .i64 (x+1))<|some (.next (x+1,n)))) (some (.out (.go (x,n)))))) :
  ∀(r D:Ah) (L:Nat),DP r S→D.all BR=true→(S.length:Int)-r.length-a=D.length→D.length+r.length≤S.length→r.length<L→
  Cg (λσ=>body σ.1 σ.2) L ((S.length:Int)-r.length,Hj (GZ D))=some (.go ((S.length:Int)-(BH r).2.length,Hj (GZ (D++(BH r).1))))
 | [],D,L,hs,hD,ha,hDl,hL=>by
  obtain⟨L,rfl⟩:∃K,L=K+1:=⟨L-1,by omega⟩
  refine CU ?_;show body _ _=_;have e:decide ((S.length:Int)-([]:Ah).length<(S.length:Int))=false:=by simp
  rw[hb,e,BB (p:=imp false _) rfl,A8 (p:=false&&_) rfl];show _=some (Stp.out (Out.go ((S.length:Int)-([]:Ah).length,Hj (GZ (D++[])))));rw[Ab1]
 | c::r,D,L,hs,hD,ha,hDl,hL=>by
  obtain⟨L,rfl⟩:∃K,L=K+1:=⟨L-1,by omega⟩
  have hst:=TF body hS hs hD (by omega) ha hb;simp only[AaM] at hL hDl;rw[BH]
  cases hd:BR c with
  | false=>
   rw[hd] at hst;simp only[AaN,Ab1];exact CU hst
  | true=>
   rw[hd] at hst;simp only[AaQ];have:=Nw body hS hb r (D++[c]) L hs.tail (by simp[hD,hd]) (by rw[EK];simp only[AaM] at ha;omega) (by rw[EK];omega) (by omega);rw[Abq] at this;exact G1 hst this
theorem Qh {F:Nat}{S:Ah}{c0:UInt8}{r0:Ah}(hS:S.length≤100000)(h:DP (c0::r0) S)(hF:S.length<F) :
  (∃f w,Hl (c0::r0)=some (f,w)∧DP w S∧Ix F S ((S.length:Int)-(c0::r0).length)=some (f.flat,(S.length:Int)-w.length))∨(Hl (c0::r0)=none∧Ix F S ((S.length:Int)-(c0::r0).length)=some ([],-1)):=by
 have hl:=h.len;have hbt:AT S ((S.length:Int)-(c0::r0).length)=c0.toNat:=Dl h.get;have hpos:(S.length:Int)-(c0::r0).length+1=S.length-r0.length:=by rw[AaM];omega
 have hlt:(S.length:Int)-(c0::r0).length<S.length:=by rw[AaM];omega
 have h0:0≤(S.length:Int)-(c0::r0).length:=by omega
 have hf:decide ((c0.toNat:Int)=45)=decide ((c0::r0).head? =some 45):=by
  rw[Abj];simp only[AaL,List.head?_cons,Option.some.injEq,← AbE];show(c0.toNat:Int)=45↔c0.toNat=45;omega
 have fin:∀(neg:Bool) (r:Ah) (a:Int) (k:Int→Int→Option (List Aa×Int)),DP r S→(S.length:Int)-r.length=a→(∀x n,a≤x→x≤S.length→k x n=(AX (imp (!(decide (x=a))) (imp (decide ((AT S a)=48)) (Bw .i64 (a+1))))<|Bj (((decide (x=a))||((decide ((AT S a)=48))&&((decide ((a+1)<x))||neg)))) (some (([]:List Aa),(-1))) (AX (Bw .i64 (x-a))<|Bj (decide (18<(x-a))) (Bj neg (some (([(Aa.mk 3 (-2000000000000) ([]:Ah) 0)]:List Aa),x)) (some (([(Aa.mk 3 2000000000000 ([]:Ah) 0)]:List Aa),x))) (Bj neg (AX (Bw .i64 (-n))<|some (([(Aa.mk 3 (-n) ([]:Ah) 0)]:List Aa),x)) (some (([(Aa.mk 3 n ([]:Ah) 0)]:List Aa),x))))))→
   k ((S.length:Int)-(BH r).2.length) (Hj (GZ (BH r).1))=bif DB neg (BH r).1 then some ([⟨3,Jb neg (BH r).1,[],0⟩],(S.length:Int)-(BH r).2.length) else some ([],-1):=λneg r a k hr ha hk=>by
  have hrl:=hr.len;have hsplit:=HU r;have hlen:r.length=(BH r).1.length+(BH r).2.length:=by conv=>lhs;rw[hsplit,AaS]
  have hd:=I9 r;rw[hk _ _ (by omega) (by omega),BB (by
   cases decide ((S.length:Int)-(BH r).2.length=a)<;>cases decide (AT S a=48)<;>simp only[imp,AaV,Abd,Abm,Abl,AaZ]
   exact HK (by omega) (by omega)),AI (by omega) (by omega)]
  have hx:(S.length:Int)-(BH r).2.length-a=(BH r).1.length:=by omega
  rw[hx];have hc:(decide ((S.length:Int)-(BH r).2.length=a)||(decide (AT S a=48)&&(decide (a+1<(S.length:Int)-(BH r).2.length)||neg))) = !DB neg (BH r).1:=by
   unfold DB
   cases he:(BH r).1 with
   | nil=>
    rw[he] at hlen;rw[AaU (show(S.length:Int)-(BH r).2.length=a by simp only[AbC] at hlen;omega)];rfl
   | cons c d=>
    rw[he] at hlen hsplit;have hg:AT S a=c.toNat:=by
     rw[← ha];have hr':=hr;rw[hsplit] at hr';have:=hr'.get;have e:((S.length:Int)-r.length)=(S.length:Int)-((c::d)++(BH r).2).length:=by rw[← hsplit]
     rw[e];exact Dl this
    have hh:decide ((c.toNat:Int)=48)=decide ((c::d).head? =some 48):=by
     rw[Abj];simp only[AaL,List.head?_cons,Option.some.injEq,← AbE];show(c.toNat:Int)=48↔c.toNat=48;omega
    have h1:decide (a+1<(S.length:Int)-(BH r).2.length)=decide (1<(c::d).length):=by rw[Abj];simp only[AaL];omega
    have h2:decide ((S.length:Int)-(BH r).2.length=a)=false:=AaR (by simp only[AaM] at hlen;omega);have h3:decide (c::d=([]:Ah))=false:=by simp
    rw[hg,hh,h1,h2,h3];simp
  rw[hc]
  cases hcan:DB neg (BH r).1 with
  | false=>rfl
  | true=>
   rw[A8 (p:=!true) rfl];unfold Jb
   cases hb:decide (18<(BH r).1.length) with
   | true=>
    rw[AP (AaU (by simp only[AaL] at hb;omega))]
    cases neg<;>rfl
   | false=>
    simp only[AaK] at hb;have e:GZ (BH r).1=(BH r).1:=List.take_of_length_le (by omega);have hbd:=Pp hd (by omega);rw[A8 (AaR (by omega)),e]
    cases neg with
    | true=>rw[AP rfl,AI (by omega) (by omega)];rfl
    | false=>rfl
 unfold Ix;rw[Bl h0 hlt,hbt,hf,hpos];unfold Hl;simp only
 cases hn:decide ((c0::r0).head? =some 45) with
 | true=>
  have hr:DP r0 S:=h.tail;have hl2:=hr.len;have hlop:Cg (λσ=>Gc S ((S.length:Int)-(c0::r0).length) σ.1 σ.2) F ((S.length:Int)-r0.length,0)=some (.go ((S.length:Int)-(BH r0).2.length,Hj (GZ ([]++(BH r0).1)))):=Nw (a:=(S.length:Int)-(c0::r0).length+1) (λx n=>Gc S ((S.length:Int)-(c0::r0).length) x n) hS (λx n=>rfl) r0 [] F hr rfl (by rw[hpos];simp) (by simp;omega) (by omega);rw[AP rfl,AI (by omega) (by omega),AS hlop,DU];have:=fin true r0 ((S.length:Int)-(c0::r0).length+1) (Ga S ((S.length:Int)-(c0::r0).length)) hr (by rw[hpos]) (λx n hx1 hx2=>by
   unfold Ga;have e1:decide ((S.length:Int)-(c0::r0).length<(S.length:Int)-(c0::r0).length+1)=true:=AaU (by omega);have e2:imp (!(decide (x=((S.length:Int)-(c0::r0).length+1)))) (CH ((S.length:Int)-(c0::r0).length+1) (S.length:Int))=true:=by
    cases hd:decide (x=((S.length:Int)-(c0::r0).length+1)) with
    | true=>rfl
    | false=>
     simp only[AaK] at hd;rw[Lq (by omega) (by omega)];rfl
   have e3:∀y:Option (List Aa×Int),AX (Bw .i64 (-2000000000000)) y=y:=λy=>AI (by decide) (by decide);rw[e1,BB e2,e3])
  simp only[AbA];rw[this];have hw:DP (BH r0).2 S:=by have:=HU r0;rw[this] at hr;exact hr.app
  simp only[AaQ,List.tail_cons]
  cases DB true (BH r0).1 with
  | true=>exact .inl ⟨_,_,rfl,hw,rfl⟩
  | false=>exact .inr ⟨rfl,rfl⟩
 | false=>
  have hl2:=h.len;have hlop:Cg (λσ=>Gb S ((S.length:Int)-(c0::r0).length) σ.1 σ.2) F ((S.length:Int)-(c0::r0).length,0)=some (.go ((S.length:Int)-(BH (c0::r0)).2.length,Hj (GZ ([]++(BH (c0::r0)).1)))):=Nw (a:=(S.length:Int)-(c0::r0).length) (λx n=>Gb S ((S.length:Int)-(c0::r0).length) x n) hS (λx n=>rfl) (c0::r0) [] F h rfl (by simp) (by simpa using hl) (by omega);rw[A8 rfl,AS hlop,DU];have:=fin false (c0::r0) ((S.length:Int)-(c0::r0).length) (EZ S ((S.length:Int)-(c0::r0).length)) h rfl (λx n hx1 hx2=>by
   unfold EZ;have e1:decide ((S.length:Int)-(c0::r0).length<(S.length:Int)-(c0::r0).length)=false:=AaR (by omega);have e3:∀y:Option (List Aa×Int),AX (Bw .i64 (-2000000000000)) y=y:=λy=>AI (by decide) (by decide);rw[e1,e3])
  simp only[AbA];rw[this];have hw:DP (BH (c0::r0)).2 S:=by have:=HU (c0::r0);rw[this] at h;exact h.app
  simp only[AaN]
  cases DB false (BH (c0::r0)).1 with
  | true=>exact .inl ⟨_,_,rfl,hw,rfl⟩
  | false=>exact .inr ⟨rfl,rfl⟩
end Go.Proofs.YtkoiaconljdbeaaGreatDoor
